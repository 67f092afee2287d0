import Derived.Test.YtbfdokfelolmbaaTa
import Derived.Test.YtbfdokfelolmbaaVaF
/-
  What the document's sums answer.
-/
set_option linter.all false
section
open Go.Proofs.Ytbfdokfelolmbaa.Vai
namespace Go.Proofs.Ytbfdokfelolmbaa.TensW
set_option maxRecDepth 10000
set_option linter.unusedSimpArgs false

theorem hE30 {E : Env} (h : E.P = Try.prog) : E.P.underlying 30 = some (.slice 3) := by rw [h]; exact Try.underlying30
theorem hS3 {E : Env} (h : E.P = Try.prog) : tsize E.P 3 = some 1 := by rw [h]; kernel_rfl
theorem hA3 {E : Env} (h : E.P = Try.prog) : tagg E.P 3 = some false := by rw [h]; kernel_rfl
theorem hB3 {E : Env} (h : E.P = Try.prog) : tbytes E.P 3 = some 8 := by rw [h]; kernel_rfl
theorem hZ3 {E : Env} (h : E.P = Try.prog) : (tzero E.P 3).bind cellsA = some [.s (.int .i64 0)] := by rw [h]; kernel_rfl

theorem digit_abs (E : Env) (hE : E.P = Try.prog) (hraw : E.raw 39 = false) (n : Nat) (l : List Nat) (i : Nat) : absBody E n 39 Try.f39 [.s (.ssl (intRows l)), .s (.int .i64 (i : Int))] [] = some (.s (.int .i64 ((l.getD i 0 : Nat) : Int)), []) := by
  have h9 := hE9 hE
  have h30 := hE30 hE
  have s3 := hS3 hE
  have a3 := hA3 hE
  have fin : ∀ (st : St), st.fr.get 4 = .s (.int .i64 ((l.getD i 0 : Nat) : Int)) → finish E 39 0 Try.f39 st = some (.s (.int .i64 ((l.getD i 0 : Nat) : Int)), []) := by
    intro st h1
    refine finish_sealed (l := [.s (.int .i64 ((l.getD i 0 : Nat) : Int))]) ?_ hraw rfl |>.trans rfl
    simp [Try.f39, resultA, resultA.go, h1]
  refine body_ends rfl (by simp [Try.ntmps39]) rfl ?_
  rw [Try.ntmps39]
  refine seq_text ?_
  simp only [RegT, opA_go, opA_when, guardQ_some, guarded_bool, absOp_assign, absOp_move, absOp_bin, absOp_index, absOp_pick, absOp_max, absOp_min, int2_int, strLen, intA, fastA, h9, intOf, orSlow_some, binA, strA, ariA, evA_const, evA_tmp, ofV, ofC, Option.getD_some, putA_some, Nat.ble, Nat.reduceAdd, cond_true, lay_nil, lay_cons, bump, F_eq, h_eq, upHp, List.length_cons, List.length_nil, get_put, Nat.reduceEqDiff, if_true, if_false, reduceIte, List.getElem?_toArray, List.getElem?_cons_succ, List.getElem?_cons_zero, Option.bind_some, Option.map_some, beq_iff_eq, reduceCtorEq, Bool.not_true, Bool.not_false, beq_self_eq_true, thenQ_normal, thenQ_ret, inQ_ret, inQ_normal, ends_ret, ends_skip, absOp_lenRows h30, lenA, intRows_length, absOp_indexAddr, absOp_load, idx_ints h30 s3, load_byte a3 s3, orNone_some]
  have d0 : decide ((i : Int) < (l.length : Int)) = decide (i < l.length) := by simp
  refine seq_seq.2 (seq_text ?_)
  simp only [RegT, opA_go, opA_when, guardQ_some, guarded_bool, absOp_assign, absOp_move, absOp_bin, absOp_index, absOp_pick, absOp_max, absOp_min, int2_int, strLen, intA, fastA, h9, intOf, orSlow_some, binA, strA, ariA, evA_const, evA_tmp, ofV, ofC, Option.getD_some, putA_some, Nat.ble, Nat.reduceAdd, cond_true, lay_nil, lay_cons, bump, F_eq, h_eq, upHp, List.length_cons, List.length_nil, get_put, Nat.reduceEqDiff, if_true, if_false, reduceIte, List.getElem?_toArray, List.getElem?_cons_succ, List.getElem?_cons_zero, Option.bind_some, Option.map_some, beq_iff_eq, reduceCtorEq, Bool.not_true, Bool.not_false, beq_self_eq_true, thenQ_normal, thenQ_ret, inQ_ret, inQ_normal, ends_ret, ends_skip, absOp_lenRows h30, lenA, intRows_length, absOp_indexAddr, absOp_load, idx_ints h30 s3, load_byte a3 s3, orNone_some, d0]
  refine seq_if (t := decide (i < l.length)) (by simp only [F_eq, evA_tmp, get_put, Nat.reduceEqDiff, if_true, if_false, reduceIte]) (fun hc => ?_) (fun hc => ?_)
  · have hc := of_decide_eq_true hc
    refine seq_text ?_
    simp only [RegT, opA_go, opA_when, guardQ_some, guarded_bool, absOp_assign, absOp_move, absOp_bin, absOp_index, absOp_pick, absOp_max, absOp_min, int2_int, strLen, intA, fastA, h9, intOf, orSlow_some, binA, strA, ariA, evA_const, evA_tmp, ofV, ofC, Option.getD_some, putA_some, Nat.ble, Nat.reduceAdd, cond_true, lay_nil, lay_cons, bump, F_eq, h_eq, upHp, List.length_cons, List.length_nil, get_put, Nat.reduceEqDiff, if_true, if_false, reduceIte, List.getElem?_toArray, List.getElem?_cons_succ, List.getElem?_cons_zero, Option.bind_some, Option.map_some, beq_iff_eq, reduceCtorEq, Bool.not_true, Bool.not_false, beq_self_eq_true, thenQ_normal, thenQ_ret, inQ_ret, inQ_normal, ends_ret, ends_skip, absOp_lenRows h30, lenA, intRows_length, absOp_indexAddr, absOp_load, idx_ints h30 s3, load_byte a3 s3, orNone_some, hc]
    refine ⟨.inr trivial, fin _ ?_⟩
    simp only [F_eq, evA_tmp, get_put, Nat.reduceEqDiff, if_true, if_false, reduceIte]
    rw [List.getD_eq_getElem?_getD, List.getElem?_eq_getElem hc, Option.getD_some]
  · have hc := of_decide_eq_false hc
    rw [ends_skip, thenQ_normal]
    refine seq_text ?_
    simp only [RegT, opA_go, opA_when, guardQ_some, guarded_bool, absOp_assign, absOp_move, absOp_bin, absOp_index, absOp_pick, absOp_max, absOp_min, int2_int, strLen, intA, fastA, h9, intOf, orSlow_some, binA, strA, ariA, evA_const, evA_tmp, ofV, ofC, Option.getD_some, putA_some, Nat.ble, Nat.reduceAdd, cond_true, lay_nil, lay_cons, bump, F_eq, h_eq, upHp, List.length_cons, List.length_nil, get_put, Nat.reduceEqDiff, if_true, if_false, reduceIte, List.getElem?_toArray, List.getElem?_cons_succ, List.getElem?_cons_zero, Option.bind_some, Option.map_some, beq_iff_eq, reduceCtorEq, Bool.not_true, Bool.not_false, beq_self_eq_true, thenQ_normal, thenQ_ret, inQ_ret, inQ_normal, ends_ret, ends_skip, absOp_lenRows h30, lenA, intRows_length, absOp_indexAddr, absOp_load, idx_ints h30 s3, load_byte a3 s3, orNone_some]
    refine ⟨.inr trivial, fin _ ?_⟩
    simp only [F_eq, evA_tmp, get_put, Nat.reduceEqDiff, if_true, if_false, reduceIte]
    rw [List.getD_eq_getElem?_getD, List.getElem?_eq_none (by omega), Option.getD_none]
    rfl

def cmpTop (a b : List Nat) : Nat → Int
  | 0 => 0
  | i + 1 => if a.getD i 0 < b.getD i 0 then -1 else if b.getD i 0 < a.getD i 0 then 1 else cmpTop a b i
def sizeN (a b : List Nat) : Int := if a.length = b.length then cmpTop a b a.length else if a.length < b.length then -1 else 1

theorem sizeN_abs (E : Env) (hE : E.P = Try.prog) (hraw : E.raw 24 = false) (n : Nat) (a b : List Nat) (hn : a.length + 1 < n) (ha : a.length < 9223372036854775807) : absBody E n 24 Try.f24 [.s (.ssl (intRows a)), .s (.ssl (intRows b))] [] = some (.s (.int .i64 (sizeN a b)), []) := by
  have h9 := hE9 hE
  have h30 := hE30 hE
  have s3 := hS3 hE
  have a3 := hA3 hE
  have fin : ∀ (st : St) (r : Int), r = sizeN a b → st.fr.get 4 = .s (.int .i64 r) → finish E 24 0 Try.f24 st = some (.s (.int .i64 (sizeN a b)), []) := by
    intro st r h0 h1
    refine finish_sealed (l := [.s (.int .i64 (sizeN a b))]) ?_ hraw rfl |>.trans rfl
    simp [Try.f24, resultA, resultA.go, h1, h0]
  refine body_ends rfl (by simp [Try.ntmps24]) rfl ?_
  rw [Try.ntmps24]
  refine seq_text ?_
  simp only [RegT, opA_go, opA_when, guardQ_some, guarded_bool, absOp_assign, absOp_move, absOp_bin, absOp_index, absOp_pick, absOp_max, absOp_min, int2_int, strLen, intA, fastA, h9, intOf, orSlow_some, binA, strA, ariA, evA_const, evA_tmp, ofV, ofC, Option.getD_some, putA_some, Nat.ble, Nat.reduceAdd, cond_true, lay_nil, lay_cons, bump, F_eq, h_eq, upHp, List.length_cons, List.length_nil, get_put, Nat.reduceEqDiff, if_true, if_false, reduceIte, List.getElem?_toArray, List.getElem?_cons_succ, List.getElem?_cons_zero, Option.bind_some, Option.map_some, beq_iff_eq, reduceCtorEq, Bool.not_true, Bool.not_false, beq_self_eq_true, thenQ_normal, thenQ_ret, inQ_ret, inQ_normal, ends_ret, ends_skip, absOp_lenRows h30, lenA, intRows_length, absOp_indexAddr, absOp_load, idx_ints h30 s3, load_byte a3 s3, orNone_some]
  have d0 : (!decide ((a.length : Int) = (b.length : Int))) = !decide (a.length = b.length) := by simp only [Int.natCast_inj]
  refine seq_seq.2 (seq_text ?_)
  simp only [RegT, opA_go, opA_when, guardQ_some, guarded_bool, absOp_assign, absOp_move, absOp_bin, absOp_index, absOp_pick, absOp_max, absOp_min, int2_int, strLen, intA, fastA, h9, intOf, orSlow_some, binA, strA, ariA, evA_const, evA_tmp, ofV, ofC, Option.getD_some, putA_some, Nat.ble, Nat.reduceAdd, cond_true, lay_nil, lay_cons, bump, F_eq, h_eq, upHp, List.length_cons, List.length_nil, get_put, Nat.reduceEqDiff, if_true, if_false, reduceIte, List.getElem?_toArray, List.getElem?_cons_succ, List.getElem?_cons_zero, Option.bind_some, Option.map_some, beq_iff_eq, reduceCtorEq, Bool.not_true, Bool.not_false, beq_self_eq_true, thenQ_normal, thenQ_ret, inQ_ret, inQ_normal, ends_ret, ends_skip, absOp_lenRows h30, lenA, intRows_length, absOp_indexAddr, absOp_load, idx_ints h30 s3, load_byte a3 s3, orNone_some, d0]
  refine seq_if (t := !decide (a.length = b.length)) (by simp only [F_eq, evA_tmp, get_put, Nat.reduceEqDiff, if_true, if_false, reduceIte]) (fun hc => ?_) (fun hc => ?_)
  · have hc : ¬ a.length = b.length := by simpa using hc
    have d1 : decide ((a.length : Int) < (b.length : Int)) = decide (a.length < b.length) := by simp
    refine seq_seq.2 (seq_text ?_)
    simp only [RegT, opA_go, opA_when, guardQ_some, guarded_bool, absOp_assign, absOp_move, absOp_bin, absOp_index, absOp_pick, absOp_max, absOp_min, int2_int, strLen, intA, fastA, h9, intOf, orSlow_some, binA, strA, ariA, evA_const, evA_tmp, ofV, ofC, Option.getD_some, putA_some, Nat.ble, Nat.reduceAdd, cond_true, lay_nil, lay_cons, bump, F_eq, h_eq, upHp, List.length_cons, List.length_nil, get_put, Nat.reduceEqDiff, if_true, if_false, reduceIte, List.getElem?_toArray, List.getElem?_cons_succ, List.getElem?_cons_zero, Option.bind_some, Option.map_some, beq_iff_eq, reduceCtorEq, Bool.not_true, Bool.not_false, beq_self_eq_true, thenQ_normal, thenQ_ret, inQ_ret, inQ_normal, ends_ret, ends_skip, absOp_lenRows h30, lenA, intRows_length, absOp_indexAddr, absOp_load, idx_ints h30 s3, load_byte a3 s3, orNone_some, d1]
    refine seq_if (t := decide (a.length < b.length)) (by simp only [F_eq, evA_tmp, get_put, Nat.reduceEqDiff, if_true, if_false, reduceIte]) (fun hd => ?_) (fun hd => ?_)
    · have hd := of_decide_eq_true hd
      refine seq_text ?_
      simp only [RegT, opA_go, opA_when, guardQ_some, guarded_bool, absOp_assign, absOp_move, absOp_bin, absOp_index, absOp_pick, absOp_max, absOp_min, int2_int, strLen, intA, fastA, h9, intOf, orSlow_some, binA, strA, ariA, evA_const, evA_tmp, ofV, ofC, Option.getD_some, putA_some, Nat.ble, Nat.reduceAdd, cond_true, lay_nil, lay_cons, bump, F_eq, h_eq, upHp, List.length_cons, List.length_nil, get_put, Nat.reduceEqDiff, if_true, if_false, reduceIte, List.getElem?_toArray, List.getElem?_cons_succ, List.getElem?_cons_zero, Option.bind_some, Option.map_some, beq_iff_eq, reduceCtorEq, Bool.not_true, Bool.not_false, beq_self_eq_true, thenQ_normal, thenQ_ret, inQ_ret, inQ_normal, ends_ret, ends_skip, absOp_lenRows h30, lenA, intRows_length, absOp_indexAddr, absOp_load, idx_ints h30 s3, load_byte a3 s3, orNone_some]
      exact ⟨.inr trivial, fin _ (-1) (by simp only [sizeN, hc, hd, if_true, if_false]) (by simp only [get_put, Nat.reduceEqDiff, if_true, if_false, reduceIte])⟩
    · have hd := of_decide_eq_false hd
      rw [ends_skip, thenQ_normal]
      refine seq_text ?_
      simp only [RegT, opA_go, opA_when, guardQ_some, guarded_bool, absOp_assign, absOp_move, absOp_bin, absOp_index, absOp_pick, absOp_max, absOp_min, int2_int, strLen, intA, fastA, h9, intOf, orSlow_some, binA, strA, ariA, evA_const, evA_tmp, ofV, ofC, Option.getD_some, putA_some, Nat.ble, Nat.reduceAdd, cond_true, lay_nil, lay_cons, bump, F_eq, h_eq, upHp, List.length_cons, List.length_nil, get_put, Nat.reduceEqDiff, if_true, if_false, reduceIte, List.getElem?_toArray, List.getElem?_cons_succ, List.getElem?_cons_zero, Option.bind_some, Option.map_some, beq_iff_eq, reduceCtorEq, Bool.not_true, Bool.not_false, beq_self_eq_true, thenQ_normal, thenQ_ret, inQ_ret, inQ_normal, ends_ret, ends_skip, absOp_lenRows h30, lenA, intRows_length, absOp_indexAddr, absOp_load, idx_ints h30 s3, load_byte a3 s3, orNone_some]
      exact ⟨.inr trivial, fin _ 1 (by simp only [sizeN, hc, hd, if_false]) (by simp only [get_put, Nat.reduceEqDiff, if_true, if_false, reduceIte])⟩
  · have hc : a.length = b.length := by simpa using hc
    rw [ends_skip, thenQ_normal]
    refine seq_seq.2 (seq_text ?_)
    simp only [RegT, opA_go, opA_when, guardQ_some, guarded_bool, absOp_assign, absOp_move, absOp_bin, absOp_index, absOp_pick, absOp_max, absOp_min, int2_int, strLen, intA, fastA, h9, intOf, orSlow_some, binA, strA, ariA, evA_const, evA_tmp, ofV, ofC, Option.getD_some, putA_some, Nat.ble, Nat.reduceAdd, cond_true, lay_nil, lay_cons, bump, F_eq, h_eq, upHp, List.length_cons, List.length_nil, get_put, Nat.reduceEqDiff, if_true, if_false, reduceIte, List.getElem?_toArray, List.getElem?_cons_succ, List.getElem?_cons_zero, Option.bind_some, Option.map_some, beq_iff_eq, reduceCtorEq, Bool.not_true, Bool.not_false, beq_self_eq_true, thenQ_normal, thenQ_ret, inQ_ret, inQ_normal, ends_ret, ends_skip, absOp_lenRows h30, lenA, intRows_length, absOp_indexAddr, absOp_load, idx_ints h30 s3, load_byte a3 s3, orNone_some]
    refine ends_seq.2 (ends_block.2 ?_)
    refine ends_loop (fun k st => ∃ i : Nat, k = i + 1 ∧ i ≤ a.length ∧ st.fr.get 0 = .s (.ssl (intRows a)) ∧ st.fr.get 1 = .s (.ssl (intRows b)) ∧ st.fr.get 5 = .s (.int .i64 ((i : Int) - 1)) ∧ cmpTop a b i = sizeN a b) (m := a.length + 1) (by omega) ⟨a.length, rfl, Nat.le_refl _, by simp only [get_put, Nat.reduceEqDiff, if_true, if_false, reduceIte], by simp only [get_put, Nat.reduceEqDiff, if_true, if_false, reduceIte], ?_, ?_⟩ ?_
    · simp only [F_eq, evA_tmp, get_put, Nat.reduceEqDiff, if_true, if_false, reduceIte]
      rw [wrap_fits (by omega) (by omega)]
    · simp only [sizeN, hc, if_true]
    rintro k ⟨fr1, hp1, nx1⟩ ⟨i, rfl, hi, g0, g1, g5, gr⟩
    simp only at g0 g1 g5
    refine seq_seq.2 (seq_text ?_)
    cases i with
    | zero =>
      simp only [Int.ofNat_zero, Int.natCast_zero, Int.zero_sub] at g5
      have d2 : decide ((0 : Int) ≤ -1) = false := by decide
      simp only [RegT, opA_go, opA_when, guardQ_some, guarded_bool, absOp_assign, absOp_move, absOp_bin, absOp_index, absOp_pick, absOp_max, absOp_min, int2_int, strLen, intA, fastA, h9, intOf, orSlow_some, binA, strA, ariA, evA_const, evA_tmp, ofV, ofC, Option.getD_some, putA_some, Nat.ble, Nat.reduceAdd, cond_true, lay_nil, lay_cons, bump, F_eq, h_eq, upHp, List.length_cons, List.length_nil, get_put, Nat.reduceEqDiff, if_true, if_false, reduceIte, List.getElem?_toArray, List.getElem?_cons_succ, List.getElem?_cons_zero, Option.bind_some, Option.map_some, beq_iff_eq, reduceCtorEq, Bool.not_true, Bool.not_false, beq_self_eq_true, thenQ_normal, thenQ_ret, inQ_ret, inQ_normal, ends_ret, ends_skip, absOp_lenRows h30, lenA, intRows_length, absOp_indexAddr, absOp_load, idx_ints h30 s3, load_byte a3 s3, orNone_some, g5, d2]
      refine seq_if (t := false) (by simp only [F_eq, evA_tmp, get_put, Nat.reduceEqDiff, if_true, if_false, reduceIte]) (fun hc => (by cases hc)) (fun _ => ?_)
      rw [ends_exit, thenQ_exit, thenQ_exit]
      simp only [inQ_exit, if_true, reduceIte, thenQ_normal]
      refine seq_text ?_
      simp only [RegT, opA_go, opA_when, guardQ_some, guarded_bool, absOp_assign, absOp_move, absOp_bin, absOp_index, absOp_pick, absOp_max, absOp_min, int2_int, strLen, intA, fastA, h9, intOf, orSlow_some, binA, strA, ariA, evA_const, evA_tmp, ofV, ofC, Option.getD_some, putA_some, Nat.ble, Nat.reduceAdd, cond_true, lay_nil, lay_cons, bump, F_eq, h_eq, upHp, List.length_cons, List.length_nil, get_put, Nat.reduceEqDiff, if_true, if_false, reduceIte, List.getElem?_toArray, List.getElem?_cons_succ, List.getElem?_cons_zero, Option.bind_some, Option.map_some, beq_iff_eq, reduceCtorEq, Bool.not_true, Bool.not_false, beq_self_eq_true, thenQ_normal, thenQ_ret, inQ_ret, inQ_normal, ends_ret, ends_skip, absOp_lenRows h30, lenA, intRows_length, absOp_indexAddr, absOp_load, idx_ints h30 s3, load_byte a3 s3, orNone_some]
      exact ⟨.inr trivial, fin _ 0 gr (by simp only [get_put, Nat.reduceEqDiff, if_true, if_false, reduceIte])⟩
    | succ i =>
      rw [show ((i + 1 : Nat) : Int) - 1 = (i : Int) by omega] at g5
      have d2 : decide ((0 : Int) ≤ (i : Int)) = true := by simp
      have hia : i < a.length := by omega
      have hib : i < b.length := by omega
      have d3 : decide ((a[i] : Int) < (b[i] : Int)) = decide (a[i] < b[i]) := by simp
      have d4 : decide ((b[i] : Int) < (a[i] : Int)) = decide (b[i] < a[i]) := by simp
      have ea : a.getD i 0 = a[i] := by rw [List.getD_eq_getElem?_getD, List.getElem?_eq_getElem hia, Option.getD_some]
      have eb : b.getD i 0 = b[i] := by rw [List.getD_eq_getElem?_getD, List.getElem?_eq_getElem hib, Option.getD_some]
      simp only [cmpTop, ea, eb] at gr
      simp only [RegT, opA_go, opA_when, guardQ_some, guarded_bool, absOp_assign, absOp_move, absOp_bin, absOp_index, absOp_pick, absOp_max, absOp_min, int2_int, strLen, intA, fastA, h9, intOf, orSlow_some, binA, strA, ariA, evA_const, evA_tmp, ofV, ofC, Option.getD_some, putA_some, Nat.ble, Nat.reduceAdd, cond_true, lay_nil, lay_cons, bump, F_eq, h_eq, upHp, List.length_cons, List.length_nil, get_put, Nat.reduceEqDiff, if_true, if_false, reduceIte, List.getElem?_toArray, List.getElem?_cons_succ, List.getElem?_cons_zero, Option.bind_some, Option.map_some, beq_iff_eq, reduceCtorEq, Bool.not_true, Bool.not_false, beq_self_eq_true, thenQ_normal, thenQ_ret, inQ_ret, inQ_normal, ends_ret, ends_skip, absOp_lenRows h30, lenA, intRows_length, absOp_indexAddr, absOp_load, idx_ints h30 s3, load_byte a3 s3, orNone_some, g5, d2]
      refine seq_if (t := true) (by simp only [F_eq, evA_tmp, get_put, Nat.reduceEqDiff, if_true, if_false, reduceIte]) (fun _ => ?_) (fun hc => (by cases hc))
      rw [ends_skip, thenQ_normal]
      refine ends_seq.2 (ends_block.2 ?_)
      refine seq_seq.2 (seq_calm (by kernel_rfl) ?_)
      simp only [RegT, opA_go, opA_when, guardQ_some, guarded_bool, absOp_assign, absOp_move, absOp_bin, absOp_index, absOp_pick, absOp_max, absOp_min, int2_int, strLen, intA, fastA, h9, intOf, orSlow_some, binA, strA, ariA, evA_const, evA_tmp, ofV, ofC, Option.getD_some, putA_some, Nat.ble, Nat.reduceAdd, cond_true, lay_nil, lay_cons, bump, F_eq, h_eq, upHp, List.length_cons, List.length_nil, get_put, Nat.reduceEqDiff, if_true, if_false, reduceIte, List.getElem?_toArray, List.getElem?_cons_succ, List.getElem?_cons_zero, Option.bind_some, Option.map_some, beq_iff_eq, reduceCtorEq, Bool.not_true, Bool.not_false, beq_self_eq_true, thenQ_normal, thenQ_ret, inQ_ret, inQ_normal, ends_ret, ends_skip, absOp_lenRows h30, lenA, intRows_length, absOp_indexAddr, absOp_load, idx_ints h30 s3, load_byte a3 s3, orNone_some, RegC, RegF, reach_one, keysB, opKeys_of, Op.operands, Call.operands, List.flatMap_cons, List.flatMap_nil, List.append_nil, List.nil_append, List.cons_append, keysA, keysAs, only_eq, reach_nil, List.contains_cons, List.contains_nil, Bool.or_false, Bool.true_or, beq_self_eq_true, List.map_cons, List.map_nil, true_and, Array.toList_append, g0, g1, g5, hia, hib, d3]
      refine seq_if (t := decide (a[i] < b[i])) (by simp only [F_eq, evA_tmp, get_put, Nat.reduceEqDiff, if_true, if_false, reduceIte]) (fun hd => ?_) (fun hd => ?_)
      · have hd := of_decide_eq_true hd
        rw [if_pos hd] at gr
        refine seq_text ?_
        simp only [RegT, opA_go, opA_when, guardQ_some, guarded_bool, absOp_assign, absOp_move, absOp_bin, absOp_index, absOp_pick, absOp_max, absOp_min, int2_int, strLen, intA, fastA, h9, intOf, orSlow_some, binA, strA, ariA, evA_const, evA_tmp, ofV, ofC, Option.getD_some, putA_some, Nat.ble, Nat.reduceAdd, cond_true, lay_nil, lay_cons, bump, F_eq, h_eq, upHp, List.length_cons, List.length_nil, get_put, Nat.reduceEqDiff, if_true, if_false, reduceIte, List.getElem?_toArray, List.getElem?_cons_succ, List.getElem?_cons_zero, Option.bind_some, Option.map_some, beq_iff_eq, reduceCtorEq, Bool.not_true, Bool.not_false, beq_self_eq_true, thenQ_normal, thenQ_ret, inQ_ret, inQ_normal, ends_ret, ends_skip, absOp_lenRows h30, lenA, intRows_length, absOp_indexAddr, absOp_load, idx_ints h30 s3, load_byte a3 s3, orNone_some]
        exact ⟨.inr trivial, fin _ (-1) gr (by simp only [get_put, Nat.reduceEqDiff, if_true, if_false, reduceIte])⟩
      have hd := of_decide_eq_false hd
      rw [if_neg hd] at gr
      rw [ends_skip, thenQ_normal]
      refine seq_calm (by kernel_rfl) ?_
      simp only [RegT, opA_go, opA_when, guardQ_some, guarded_bool, absOp_assign, absOp_move, absOp_bin, absOp_index, absOp_pick, absOp_max, absOp_min, int2_int, strLen, intA, fastA, h9, intOf, orSlow_some, binA, strA, ariA, evA_const, evA_tmp, ofV, ofC, Option.getD_some, putA_some, Nat.ble, Nat.reduceAdd, cond_true, lay_nil, lay_cons, bump, F_eq, h_eq, upHp, List.length_cons, List.length_nil, get_put, Nat.reduceEqDiff, if_true, if_false, reduceIte, List.getElem?_toArray, List.getElem?_cons_succ, List.getElem?_cons_zero, Option.bind_some, Option.map_some, beq_iff_eq, reduceCtorEq, Bool.not_true, Bool.not_false, beq_self_eq_true, thenQ_normal, thenQ_ret, inQ_ret, inQ_normal, ends_ret, ends_skip, absOp_lenRows h30, lenA, intRows_length, absOp_indexAddr, absOp_load, idx_ints h30 s3, load_byte a3 s3, orNone_some, RegC, RegF, reach_one, keysB, opKeys_of, Op.operands, Call.operands, List.flatMap_cons, List.flatMap_nil, List.append_nil, List.nil_append, List.cons_append, keysA, keysAs, only_eq, reach_nil, List.contains_cons, List.contains_nil, Bool.or_false, Bool.true_or, beq_self_eq_true, List.map_cons, List.map_nil, true_and, Array.toList_append, g0, g1, g5, hia, hib, d4]
      refine end_if (t := decide (b[i] < a[i])) (by simp only [F_eq, evA_tmp, get_put, Nat.reduceEqDiff, if_true, if_false, reduceIte]) (fun hd => ?_) (fun hd => ?_)
      · have hd := of_decide_eq_true hd
        rw [if_pos hd] at gr
        refine seq_text ?_
        simp only [RegT, opA_go, opA_when, guardQ_some, guarded_bool, absOp_assign, absOp_move, absOp_bin, absOp_index, absOp_pick, absOp_max, absOp_min, int2_int, strLen, intA, fastA, h9, intOf, orSlow_some, binA, strA, ariA, evA_const, evA_tmp, ofV, ofC, Option.getD_some, putA_some, Nat.ble, Nat.reduceAdd, cond_true, lay_nil, lay_cons, bump, F_eq, h_eq, upHp, List.length_cons, List.length_nil, get_put, Nat.reduceEqDiff, if_true, if_false, reduceIte, List.getElem?_toArray, List.getElem?_cons_succ, List.getElem?_cons_zero, Option.bind_some, Option.map_some, beq_iff_eq, reduceCtorEq, Bool.not_true, Bool.not_false, beq_self_eq_true, thenQ_normal, thenQ_ret, inQ_ret, inQ_normal, ends_ret, ends_skip, absOp_lenRows h30, lenA, intRows_length, absOp_indexAddr, absOp_load, idx_ints h30 s3, load_byte a3 s3, orNone_some]
        exact ⟨.inr trivial, fin _ 1 gr (by simp only [get_put, Nat.reduceEqDiff, if_true, if_false, reduceIte])⟩
      have hd := of_decide_eq_false hd
      rw [if_neg hd] at gr
      rw [ends_skip, inQ_normal, thenQ_normal]
      refine region_text.2 ?_
      simp only [RegT, opA_go, opA_when, guardQ_some, guarded_bool, absOp_assign, absOp_move, absOp_bin, absOp_index, absOp_pick, absOp_max, absOp_min, int2_int, strLen, intA, fastA, h9, intOf, orSlow_some, binA, strA, ariA, evA_const, evA_tmp, ofV, ofC, Option.getD_some, putA_some, Nat.ble, Nat.reduceAdd, cond_true, lay_nil, lay_cons, bump, F_eq, h_eq, upHp, List.length_cons, List.length_nil, get_put, Nat.reduceEqDiff, if_true, if_false, reduceIte, List.getElem?_toArray, List.getElem?_cons_succ, List.getElem?_cons_zero, Option.bind_some, Option.map_some, beq_iff_eq, reduceCtorEq, Bool.not_true, Bool.not_false, beq_self_eq_true, thenQ_normal, thenQ_ret, inQ_ret, inQ_normal, ends_ret, ends_skip, absOp_lenRows h30, lenA, intRows_length, absOp_indexAddr, absOp_load, idx_ints h30 s3, load_byte a3 s3, orNone_some, g5]
      refine ⟨i + 1, by omega, i, rfl, by omega, g0, g1, ?_, gr⟩
      rw [wrap_fits (by omega) (by omega)]
end Go.Proofs.Ytbfdokfelolmbaa.TensW
end

section
open Go.Proofs.Ytbfdokfelolmbaa.Vai
namespace Go.Proofs.Ytbfdokfelolmbaa.TensW
set_option maxRecDepth 10000
set_option linter.unusedSimpArgs false

structure Dig (E : Env) : Prop where
  digit : ∀ l (i : Nat), E.call 39 [.s (.ssl (intRows l)), .s (.int .i64 (i : Int))] [] = some (.s (.int .i64 ((l.getD i 0 : Nat) : Int)), [])
  lend39 : E.lend 39 = false

theorem op39 {E : Env} (hE : E.P = Try.prog) (D : Dig E) {F : Nat → AV} {h : HR} {k s : Nat} {d : Option Tmp} {ty : TypeId} {pos : String} {af : Array Edge} {x y : Operand} {ts : Array TypeId} {gd : Option (Nat × Bool)} {l : List Nat} {i : Nat}
    (hx : evA E.glob F x = .s (.ssl (intRows l))) (hy : evA E.glob F y = .s (.int .i64 (i : Int))) : absOp E (evA E.glob F) h k s ⟨d, .call { callee := .value (.func 39), args := #[x, y], argTypes := ts }, ty, pos, af, gd⟩ = some (.s (.int .i64 ((l.getD i 0 : Nat) : Int)), []) := by
  have hm : (#[x, y] : Array Operand).toList.map (evA E.glob F) = [.s (.ssl (intRows l)), .s (.int .i64 (i : Int))] := by simp [hx, hy]
  rw [absOp_func (g := 39) (r := .s (.int .i64 ((l.getD i 0 : Nat) : Int))) rfl (by rw [hE]; unfold bodied; rw [Try.func39]; rfl) D.lend39 (by rw [hm]; rfl) (by rw [hm]; exact D.digit l i)]
  rfl

def Tens (l : List Nat) : Prop := ∀ d ∈ l, d < 10
theorem Tens.get {l : List Nat} (h : Tens l) (i : Nat) : l.getD i 0 < 10 := by
  rw [List.getD_eq_getElem?_getD]
  cases hg : l[i]? with
  | none => simp
  | some d => simpa using h d (List.mem_of_getElem? hg)
theorem getD_out {l : List Nat} {i : Nat} (h : l.length ≤ i) : l.getD i 0 = 0 := by
  rw [List.getD_eq_getElem?_getD, List.getElem?_eq_none h, Option.getD_none]

/-! The sum. -/
def sumRun (a b : List Nat) : Nat → List Nat × Nat
  | 0 => ([], 0)
  | i + 1 => ((sumRun a b i).1 ++ [(a.getD i 0 + b.getD i 0 + (sumRun a b i).2) % 10], (a.getD i 0 + b.getD i 0 + (sumRun a b i).2) / 10)
def sumOut (a b : List Nat) : List Nat := if (sumRun a b (max a.length b.length)).2 = 0 then (sumRun a b (max a.length b.length)).1 else (sumRun a b (max a.length b.length + 1)).1
theorem sumRun_length {a b : List Nat} : ∀ {i : Nat}, (sumRun a b i).1.length = i
  | 0 => rfl
  | i + 1 => by simp [sumRun, sumRun_length (i := i)]
theorem sumRun_carry {a b : List Nat} (ha : Tens a) (hb : Tens b) : ∀ i, (sumRun a b i).2 ≤ 1
  | 0 => by simp [sumRun]
  | i + 1 => by
    have := sumRun_carry ha hb i
    have h1 := ha.get i
    have h2 := hb.get i
    simp only [sumRun]; omega
theorem sumRun_last {a b : List Nat} (ha : Tens a) (hb : Tens b) {i : Nat} (h1 : a.length ≤ i) (h2 : b.length ≤ i) : (sumRun a b (i + 1)).2 = 0 := by
  have := sumRun_carry ha hb i
  simp only [sumRun, getD_out h1, getD_out h2]; omega

theorem sum_abs (E : Env) (hE : E.P = Try.prog) (D : Dig E) (hraw : E.raw 25 = false) (n : Nat) (a b : List Nat) (hna : a.length + 3 < n) (hnb : b.length + 3 < n) (hta : Tens a) (htb : Tens b) (ha : a.length < 4398046511104) (hb : b.length < 4398046511104) : absBody E n 25 Try.f25 [.s (.ssl (intRows a)), .s (.ssl (intRows b))] [] = some (.s (.ssl (intRows (sumOut a b))), []) := by
  have h9 := hE9 hE
  have h30 := hE30 hE
  have s3 := hS3 hE
  have a3 := hA3 hE
  have b3 := hB3 hE
  have z3 := hZ3 hE
  have fin : ∀ (st : St) (l : List Nat), l = sumOut a b → Grown st.hp 38 (st.fr.get 4) (l.map digS) → finish E 25 0 Try.f25 st = some (.s (.ssl (intRows (sumOut a b))), []) := by
    intro st l h0 h1
    subst h0
    exact finish_grown (t := 4) rfl hraw h1
  refine body_ends rfl (by simp [Try.ntmps25]) rfl ?_
  rw [Try.ntmps25]
  refine seq_text ?_
  simp only [RegT, opA_go, opA_when, guardQ_some, guarded_bool, absOp_assign, absOp_move, absOp_bin, absOp_index, absOp_pick, absOp_max, absOp_min, int2_int, strLen, intA, fastA, h9, intOf, orSlow_some, binA, strA, ariA, evA_const, evA_tmp, ofV, ofC, Option.getD_some, putA_some, Nat.ble, Nat.reduceAdd, cond_true, lay_nil, lay_cons, bump, F_eq, h_eq, upHp, List.length_cons, List.length_nil, get_put, Nat.reduceEqDiff, if_true, if_false, reduceIte, List.getElem?_toArray, List.getElem?_cons_succ, List.getElem?_cons_zero, Option.bind_some, Option.map_some, beq_iff_eq, reduceCtorEq, Bool.not_true, Bool.not_false, beq_self_eq_true, thenQ_normal, thenQ_ret, inQ_ret, inQ_normal, ends_ret, ends_skip, absOp_lenRows h30, lenA, intRows_length, absOp_indexAddr, absOp_load, idx_ints h30 s3, load_byte a3 s3, orNone_some]
  refine seq_text ?_
  simp only [RegT, opA_go, opA_when, guardQ_some, guarded_bool, absOp_assign, absOp_move, absOp_bin, absOp_index, absOp_pick, absOp_max, absOp_min, int2_int, strLen, intA, fastA, h9, intOf, orSlow_some, binA, strA, ariA, evA_const, evA_tmp, ofV, ofC, Option.getD_some, putA_some, Nat.ble, Nat.reduceAdd, cond_true, lay_nil, lay_cons, bump, F_eq, h_eq, upHp, List.length_cons, List.length_nil, get_put, Nat.reduceEqDiff, if_true, if_false, reduceIte, List.getElem?_toArray, List.getElem?_cons_succ, List.getElem?_cons_zero, Option.bind_some, Option.map_some, beq_iff_eq, reduceCtorEq, Bool.not_true, Bool.not_false, beq_self_eq_true, thenQ_normal, thenQ_ret, inQ_ret, inQ_normal, ends_ret, ends_skip, absOp_lenRows h30, lenA, intRows_length, absOp_indexAddr, absOp_load, idx_ints h30 s3, load_byte a3 s3, orNone_some]
  refine seq_text ?_
  simp only [RegT, opA_go, opA_when, guardQ_some, guarded_bool, absOp_assign, absOp_move, absOp_bin, absOp_index, absOp_pick, absOp_max, absOp_min, int2_int, strLen, intA, fastA, h9, intOf, orSlow_some, binA, strA, ariA, evA_const, evA_tmp, ofV, ofC, Option.getD_some, putA_some, Nat.ble, Nat.reduceAdd, cond_true, lay_nil, lay_cons, bump, F_eq, h_eq, upHp, List.length_cons, List.length_nil, get_put, Nat.reduceEqDiff, if_true, if_false, reduceIte, List.getElem?_toArray, List.getElem?_cons_succ, List.getElem?_cons_zero, Option.bind_some, Option.map_some, beq_iff_eq, reduceCtorEq, Bool.not_true, Bool.not_false, beq_self_eq_true, thenQ_normal, thenQ_ret, inQ_ret, inQ_normal, ends_ret, ends_skip, absOp_lenRows h30, lenA, intRows_length, absOp_indexAddr, absOp_load, idx_ints h30 s3, load_byte a3 s3, orNone_some]
  refine seq_seq.2 (seq_text ?_)
  simp only [RegT, opA_go, opA_when, guardQ_some, guarded_bool, absOp_assign, absOp_move, absOp_bin, absOp_index, absOp_pick, absOp_max, absOp_min, int2_int, strLen, intA, fastA, h9, intOf, orSlow_some, binA, strA, ariA, evA_const, evA_tmp, ofV, ofC, Option.getD_some, putA_some, Nat.ble, Nat.reduceAdd, cond_true, lay_nil, lay_cons, bump, F_eq, h_eq, upHp, List.length_cons, List.length_nil, get_put, Nat.reduceEqDiff, if_true, if_false, reduceIte, List.getElem?_toArray, List.getElem?_cons_succ, List.getElem?_cons_zero, Option.bind_some, Option.map_some, beq_iff_eq, reduceCtorEq, Bool.not_true, Bool.not_false, beq_self_eq_true, thenQ_normal, thenQ_ret, inQ_ret, inQ_normal, ends_ret, ends_skip, absOp_lenRows h30, lenA, intRows_length, absOp_indexAddr, absOp_load, idx_ints h30 s3, load_byte a3 s3, orNone_some]
  obtain ⟨m, hm⟩ : ∃ m, m = max a.length b.length := ⟨_, rfl⟩
  refine ends_seq.2 (ends_block.2 ?_)
  refine ends_loop (fun k st => ∃ i : Nat, k = m + 2 - i ∧ (i ≤ m ∨ (i = m + 1 ∧ (sumRun a b m).2 ≠ 0)) ∧ st.fr.get 0 = .s (.ssl (intRows a)) ∧ st.fr.get 1 = .s (.ssl (intRows b)) ∧ Grown st.hp 38 (st.fr.get 5) ((sumRun a b i).1.map digS) ∧ st.fr.get 6 = .s (.int .i64 (((sumRun a b i).2 : Nat) : Int)) ∧ st.fr.get 7 = .s (.int .i64 (i : Int))) (m := m + 2) (by omega) ⟨0, by simp, .inl (by omega), by simp only [get_put, Nat.reduceEqDiff, if_true, if_false, reduceIte], by simp only [get_put, Nat.reduceEqDiff, if_true, if_false, reduceIte], ?_, by simp only [get_put, Nat.reduceEqDiff, if_true, if_false, reduceIte]; rfl, by simp only [get_put, Nat.reduceEqDiff, if_true, if_false, reduceIte]; rfl⟩ ?_
  · simp only [F_eq, evA_tmp, get_put, Nat.reduceEqDiff, if_true, if_false, reduceIte]
    exact Grown.nil
  rintro k ⟨fr1, hp1, nx1⟩ ⟨i, rfl, hi, g0, g1, gg, g6, g7⟩
  simp only at g0 g1 gg g6 g7
  have hx := hta.get i
  have hy := htb.get i
  have hcy := sumRun_carry hta htb i
  have hlast := sumRun_last hta htb (i := m) (by omega) (by omega)
  have hrun : sumRun a b (i + 1) = ((sumRun a b i).1 ++ [(a.getD i 0 + b.getD i 0 + (sumRun a b i).2) % 10], (a.getD i 0 + b.getD i 0 + (sumRun a b i).2) / 10) := rfl
  have hlen := sumRun_length (a := a) (b := b) (i := i)
  have hout : ¬ i < a.length → ¬ i < b.length → ¬ 0 < (sumRun a b i).2 → (sumRun a b i).1 = sumOut a b := by
    intro h1 h2 h3
    unfold sumOut
    rw [← hm]
    rcases hi with hi | ⟨rfl, hi⟩
    · have : i = m := by omega
      subst this
      rw [if_pos (by omega)]
    · rw [if_neg hi]
  have hgo : (i < a.length ∨ i < b.length ∨ 0 < (sumRun a b i).2) → i ≤ m := by
    intro h
    rcases hi with hi | ⟨rfl, hi⟩
    · exact hi
    · rw [hlast] at h; omega
  have hnz : i = m → (i < a.length ∨ i < b.length ∨ 0 < (sumRun a b i).2) → (sumRun a b m).2 ≠ 0 := by
    intro h1 h2
    rw [← h1]; omega
  clear hlast hi
  generalize sumRun a b i = p at *
  obtain ⟨l, c⟩ := p
  simp only at gg g6 hcy hrun hlen hout hgo hnz
  refine seq_seq.2 (seq_K (fun st' => st'.hp = hp1 ∧ st'.fr.get 0 = .s (.ssl (intRows a)) ∧ st'.fr.get 1 = .s (.ssl (intRows b)) ∧ st'.fr.get 5 = fr1.get 5 ∧ st'.fr.get 6 = .s (.int .i64 ((c : Nat) : Int)) ∧ st'.fr.get 7 = .s (.int .i64 (i : Int)) ∧ st'.fr.get 22 = .s (.bool (decide (i < a.length ∨ i < b.length ∨ 0 < c)))) (region_text.2 ?_) ?_)
  · by_cases h1 : i < a.length
    · have d1 : decide ((i : Int) < (a.length : Int)) = true := by simp; omega
      simp only [RegT, opA_go, opA_when, guardQ_some, guarded_bool, absOp_assign, absOp_move, absOp_bin, absOp_index, absOp_pick, absOp_max, absOp_min, int2_int, strLen, intA, fastA, h9, intOf, orSlow_some, binA, strA, ariA, evA_const, evA_tmp, ofV, ofC, Option.getD_some, putA_some, Nat.ble, Nat.reduceAdd, cond_true, lay_nil, lay_cons, bump, F_eq, h_eq, upHp, List.length_cons, List.length_nil, get_put, Nat.reduceEqDiff, if_true, if_false, reduceIte, List.getElem?_toArray, List.getElem?_cons_succ, List.getElem?_cons_zero, Option.bind_some, Option.map_some, beq_iff_eq, reduceCtorEq, Bool.not_true, Bool.not_false, beq_self_eq_true, thenQ_normal, thenQ_ret, inQ_ret, inQ_normal, ends_ret, ends_skip, absOp_lenRows h30, lenA, intRows_length, absOp_indexAddr, absOp_load, idx_ints h30 s3, load_byte a3 s3, orNone_some, g0, g1, g6, g7, d1, h1, true_or, decide_true, Bool.false_eq_true, Bool.true_eq_false, Bool.false_beq, beq_true, beq_false, Bool.not_true, Bool.not_false]
      (repeat' apply And.intro) <;> (first | trivial | rfl | assumption)
    · have d1 : decide ((i : Int) < (a.length : Int)) = false := by simp; omega
      by_cases h2 : i < b.length
      · have d2 : decide ((i : Int) < (b.length : Int)) = true := by simp; omega
        simp only [RegT, opA_go, opA_when, guardQ_some, guarded_bool, absOp_assign, absOp_move, absOp_bin, absOp_index, absOp_pick, absOp_max, absOp_min, int2_int, strLen, intA, fastA, h9, intOf, orSlow_some, binA, strA, ariA, evA_const, evA_tmp, ofV, ofC, Option.getD_some, putA_some, Nat.ble, Nat.reduceAdd, cond_true, lay_nil, lay_cons, bump, F_eq, h_eq, upHp, List.length_cons, List.length_nil, get_put, Nat.reduceEqDiff, if_true, if_false, reduceIte, List.getElem?_toArray, List.getElem?_cons_succ, List.getElem?_cons_zero, Option.bind_some, Option.map_some, beq_iff_eq, reduceCtorEq, Bool.not_true, Bool.not_false, beq_self_eq_true, thenQ_normal, thenQ_ret, inQ_ret, inQ_normal, ends_ret, ends_skip, absOp_lenRows h30, lenA, intRows_length, absOp_indexAddr, absOp_load, idx_ints h30 s3, load_byte a3 s3, orNone_some, g0, g1, g6, g7, d1, d2, h1, h2, true_or, false_or, decide_true, Bool.false_eq_true, Bool.true_eq_false, Bool.false_beq, beq_true, beq_false, Bool.not_true, Bool.not_false]
        (repeat' apply And.intro) <;> (first | trivial | rfl | assumption)
      · have d2 : decide ((i : Int) < (b.length : Int)) = false := by simp; omega
        have d3 : decide ((0 : Int) < (c : Int)) = decide (0 < c) := by simp
        simp only [RegT, opA_go, opA_when, guardQ_some, guarded_bool, absOp_assign, absOp_move, absOp_bin, absOp_index, absOp_pick, absOp_max, absOp_min, int2_int, strLen, intA, fastA, h9, intOf, orSlow_some, binA, strA, ariA, evA_const, evA_tmp, ofV, ofC, Option.getD_some, putA_some, Nat.ble, Nat.reduceAdd, cond_true, lay_nil, lay_cons, bump, F_eq, h_eq, upHp, List.length_cons, List.length_nil, get_put, Nat.reduceEqDiff, if_true, if_false, reduceIte, List.getElem?_toArray, List.getElem?_cons_succ, List.getElem?_cons_zero, Option.bind_some, Option.map_some, beq_iff_eq, reduceCtorEq, Bool.not_true, Bool.not_false, beq_self_eq_true, thenQ_normal, thenQ_ret, inQ_ret, inQ_normal, ends_ret, ends_skip, absOp_lenRows h30, lenA, intRows_length, absOp_indexAddr, absOp_load, idx_ints h30 s3, load_byte a3 s3, orNone_some, g0, g1, g6, g7, d1, d2, d3, h1, h2, false_or, decide_true, Bool.false_eq_true, Bool.true_eq_false, Bool.false_beq, beq_true, beq_false, Bool.not_true, Bool.not_false]
        (repeat' apply And.intro) <;> (first | trivial | rfl | assumption)
  rintro ⟨fr2, hp2, nx2⟩ ⟨rfl, k0, k1, k5, k6, k7, k22⟩
  simp only at k0 k1 k5 k6 k7 k22 gg
  refine seq_if (t := decide (i < a.length ∨ i < b.length ∨ 0 < c)) (by simp only [F_eq, evA_tmp, get_put, Nat.reduceEqDiff, if_true, if_false, reduceIte]; exact k22) (fun hc => ?_) (fun hc => ?_)
  · have hc := of_decide_eq_true hc
    have him := hgo hc
    rw [ends_skip, thenQ_normal]
    obtain ⟨x, hxe⟩ : ∃ x, x = a.getD i 0 := ⟨_, rfl⟩
    obtain ⟨y, hye⟩ : ∃ y, y = b.getD i 0 := ⟨_, rfl⟩
    rw [← hxe] at hx
    rw [← hye] at hy
    rw [← hxe, ← hye] at hrun
    have q1 := @op39 E hE D (l := a) (i := i)
    have q2 := @op39 E hE D (l := b) (i := i)
    rw [← hxe] at q1
    rw [← hye] at q2
    have hw1 : IntKind.i64.wrap ((x : Int) + (y : Int)) = ((x + y : Nat) : Int) := wrap_nat (by omega) (by omega)
    have hw2 : IntKind.i64.wrap (((x + y : Nat) : Int) + (c : Int)) = ((x + y + c : Nat) : Int) := wrap_nat (by omega) (by omega)
    refine seq_K (fun st' => st'.fr.get 0 = .s (.ssl (intRows a)) ∧ st'.fr.get 1 = .s (.ssl (intRows b)) ∧ st'.fr.get 7 = .s (.int .i64 (i : Int)) ∧ st'.fr.get 6 = .s (.int .i64 (((x + y + c) / 10 : Nat) : Int)) ∧ Grown st'.hp 38 (st'.fr.get 5) ((l ++ [(x + y + c) % 10]).map digS)) (ends_block.2 ?_) ?_
    · obtain ⟨d, hd⟩ : ∃ d, d = x + y + c := ⟨_, rfl⟩
      rw [← hd] at hw2
      rw [← hd]
      refine seq_K (fun st' => st'.hp = hp2 ∧ st'.fr.get 0 = .s (.ssl (intRows a)) ∧ st'.fr.get 1 = .s (.ssl (intRows b)) ∧ st'.fr.get 5 = fr1.get 5 ∧ st'.fr.get 7 = .s (.int .i64 (i : Int)) ∧ st'.fr.get 8 = .s (.int .i64 (d : Int))) (region_text.2 ?_) ?_
      · simp only [RegT, opA_go, opA_when, guardQ_some, guarded_bool, absOp_assign, absOp_move, absOp_bin, absOp_index, absOp_pick, absOp_max, absOp_min, int2_int, strLen, intA, fastA, h9, intOf, orSlow_some, binA, strA, ariA, evA_const, evA_tmp, ofV, ofC, Option.getD_some, putA_some, Nat.ble, Nat.reduceAdd, cond_true, lay_nil, lay_cons, bump, F_eq, h_eq, upHp, List.length_cons, List.length_nil, get_put, Nat.reduceEqDiff, if_true, if_false, reduceIte, List.getElem?_toArray, List.getElem?_cons_succ, List.getElem?_cons_zero, Option.bind_some, Option.map_some, beq_iff_eq, reduceCtorEq, Bool.not_true, Bool.not_false, beq_self_eq_true, thenQ_normal, thenQ_ret, inQ_ret, inQ_normal, ends_ret, ends_skip, absOp_lenRows h30, lenA, intRows_length, absOp_indexAddr, absOp_load, idx_ints h30 s3, load_byte a3 s3, orNone_some, k0, k1, k5, k6, k7, q1, q2, hw1, hw2]
        (repeat' apply And.intro) <;> (first | trivial | rfl | assumption)
      rintro ⟨fr3, hp3, nx3⟩ ⟨rfl, m0, m1, m5, m7, m8⟩
      simp only at m0 m1 m5 m7 m8 gg
      have hr1 : (d : Int).tmod 10 = ((d % 10 : Nat) : Int) := (Int.ofNat_tmod d 10).symm
      have hr2 : IntKind.i64.wrap ((d : Int).tdiv 10) = ((d / 10 : Nat) : Int) := wrap_nat (Int.ofNat_tdiv d 10).symm (by omega)
      obtain ⟨v', ups, e, hg⟩ := (gg.keep (j := 37) (sl := (nx3 + room * 3, .arr 1 (cellRows [.int .i64 ((d % 10 : Nat) : Int)]) 0)) (by decide)).more (t := 30) (b := 8) (z := .int .i64 0) (x := .int .i64 ((d % 10 : Nat) : Int)) (kx := 37) (sx := nx3 + room * 3) (s0 := nx3 + room * 4) (cap := some 1) h30 s3 b3 z3 hget_self (by simp [hlen]; omega) (by simp [hlen]; omega)
      refine seq_text ?_
      simp only [RegT, opA_go, opA_when, guardQ_some, guarded_bool, absOp_assign, absOp_move, absOp_bin, absOp_index, absOp_pick, absOp_max, absOp_min, int2_int, strLen, intA, fastA, h9, intOf, orSlow_some, binA, strA, ariA, evA_const, evA_tmp, ofV, ofC, Option.getD_some, putA_some, Nat.ble, Nat.reduceAdd, cond_true, lay_nil, lay_cons, bump, F_eq, h_eq, upHp, List.length_cons, List.length_nil, get_put, Nat.reduceEqDiff, if_true, if_false, reduceIte, List.getElem?_toArray, List.getElem?_cons_succ, List.getElem?_cons_zero, Option.bind_some, Option.map_some, beq_iff_eq, reduceCtorEq, Bool.not_true, Bool.not_false, beq_self_eq_true, thenQ_normal, thenQ_ret, inQ_ret, inQ_normal, ends_ret, ends_skip, absOp_lenRows h30, lenA, intRows_length, absOp_indexAddr, absOp_load, idx_ints h30 s3, load_byte a3 s3, orNone_some, m5, m8, hr1, Int.reduceEq, absOp_built (z := .int .i64 0) (v := .int .i64 ((d % 10 : Nat) : Int)) h30 s3 z3 rfl, absOp_append (r := (v', ups)), e]
      refine region_text.2 ?_
      simp only [RegT, opA_go, opA_when, guardQ_some, guarded_bool, absOp_assign, absOp_move, absOp_bin, absOp_index, absOp_pick, absOp_max, absOp_min, int2_int, strLen, intA, fastA, h9, intOf, orSlow_some, binA, strA, ariA, evA_const, evA_tmp, ofV, ofC, Option.getD_some, putA_some, Nat.ble, Nat.reduceAdd, cond_true, lay_nil, lay_cons, bump, F_eq, h_eq, upHp, List.length_cons, List.length_nil, get_put, Nat.reduceEqDiff, if_true, if_false, reduceIte, List.getElem?_toArray, List.getElem?_cons_succ, List.getElem?_cons_zero, Option.bind_some, Option.map_some, beq_iff_eq, reduceCtorEq, Bool.not_true, Bool.not_false, beq_self_eq_true, thenQ_normal, thenQ_ret, inQ_ret, inQ_normal, ends_ret, ends_skip, absOp_lenRows h30, lenA, intRows_length, absOp_indexAddr, absOp_load, idx_ints h30 s3, load_byte a3 s3, orNone_some, m8, hr2, Int.reduceEq]
      refine ⟨m0, m1, m7, ?_, ?_⟩
      · trivial
      · rw [List.map_append]; exact hg
    · rintro ⟨fr4, hp4, nx4⟩ ⟨p0, p1, p7, p6, pg⟩
      simp only at p0 p1 p7 p6 pg
      have hw3 : IntKind.i64.wrap ((i : Int) + 1) = ((i + 1 : Nat) : Int) := wrap_nat (by omega) (by omega)
      refine region_text.2 ?_
      simp only [RegT, opA_go, opA_when, guardQ_some, guarded_bool, absOp_assign, absOp_move, absOp_bin, absOp_index, absOp_pick, absOp_max, absOp_min, int2_int, strLen, intA, fastA, h9, intOf, orSlow_some, binA, strA, ariA, evA_const, evA_tmp, ofV, ofC, Option.getD_some, putA_some, Nat.ble, Nat.reduceAdd, cond_true, lay_nil, lay_cons, bump, F_eq, h_eq, upHp, List.length_cons, List.length_nil, get_put, Nat.reduceEqDiff, if_true, if_false, reduceIte, List.getElem?_toArray, List.getElem?_cons_succ, List.getElem?_cons_zero, Option.bind_some, Option.map_some, beq_iff_eq, reduceCtorEq, Bool.not_true, Bool.not_false, beq_self_eq_true, thenQ_normal, thenQ_ret, inQ_ret, inQ_normal, ends_ret, ends_skip, absOp_lenRows h30, lenA, intRows_length, absOp_indexAddr, absOp_load, idx_ints h30 s3, load_byte a3 s3, orNone_some, p7, hw3]
      refine ⟨m + 2 - (i + 1), by omega, i + 1, rfl, ?_, p0, p1, ?_, ?_, (by first | trivial | rfl)⟩
      · rcases Nat.lt_or_ge i m with h | h
        · exact .inl h
        · exact .inr ⟨by omega, hnz (by omega) hc⟩
      · rw [hrun]; exact pg
      · rw [hrun]; exact p6
  · have hc := of_decide_eq_false hc
    rw [ends_exit, thenQ_exit, thenQ_exit]
    simp only [inQ_exit, if_true, reduceIte, thenQ_normal]
    refine seq_text ?_
    simp only [RegT, opA_go, opA_when, guardQ_some, guarded_bool, absOp_assign, absOp_move, absOp_bin, absOp_index, absOp_pick, absOp_max, absOp_min, int2_int, strLen, intA, fastA, h9, intOf, orSlow_some, binA, strA, ariA, evA_const, evA_tmp, ofV, ofC, Option.getD_some, putA_some, Nat.ble, Nat.reduceAdd, cond_true, lay_nil, lay_cons, bump, F_eq, h_eq, upHp, List.length_cons, List.length_nil, get_put, Nat.reduceEqDiff, if_true, if_false, reduceIte, List.getElem?_toArray, List.getElem?_cons_succ, List.getElem?_cons_zero, Option.bind_some, Option.map_some, beq_iff_eq, reduceCtorEq, Bool.not_true, Bool.not_false, beq_self_eq_true, thenQ_normal, thenQ_ret, inQ_ret, inQ_normal, ends_ret, ends_skip, absOp_lenRows h30, lenA, intRows_length, absOp_indexAddr, absOp_load, idx_ints h30 s3, load_byte a3 s3, orNone_some]
    refine ⟨.inr trivial, fin _ l (hout (by omega) (by omega) (by omega)) ?_⟩
    simp only [F_eq, evA_tmp, get_put, Nat.reduceEqDiff, if_true, if_false, reduceIte]
    rw [k5]; exact gg
end Go.Proofs.Ytbfdokfelolmbaa.TensW
end

section
open Go.Proofs.Ytbfdokfelolmbaa.Vai
namespace Go.Proofs.Ytbfdokfelolmbaa.TensW
set_option maxRecDepth 10000
set_option linter.unusedSimpArgs false

/-! The rest. -/
def restStep (a b : List Nat) (i : Nat) (p : List Nat × Nat) : List Nat × Nat :=
  let x := a.getD i 0
  let y := b.getD i 0 + p.2
  if x < y then (p.1 ++ [x + 10 - y], 1) else (p.1 ++ [x - y], 0)
def restRun (a b : List Nat) : Nat → List Nat × Nat
  | 0 => ([], 0)
  | i + 1 => restStep a b i (restRun a b i)
def restOut (a b : List Nat) : List Nat := (restRun a b a.length).1
theorem restRun_length {a b : List Nat} : ∀ {i : Nat}, (restRun a b i).1.length = i
  | 0 => rfl
  | i + 1 => by
    have := restRun_length (a := a) (b := b) (i := i)
    simp only [restRun, restStep]
    split <;> simp [this]
theorem restRun_carry {a b : List Nat} : ∀ {i : Nat}, (restRun a b i).2 ≤ 1
  | 0 => by simp [restRun]
  | i + 1 => by
    simp only [restRun, restStep]
    split <;> simp

theorem rest_abs (E : Env) (hE : E.P = Try.prog) (D : Dig E) (hraw : E.raw 26 = false) (n : Nat) (a b : List Nat) (hna : a.length + 1 < n) (hta : Tens a) (htb : Tens b) (ha : a.length < 4398046511104) : absBody E n 26 Try.f26 [.s (.ssl (intRows a)), .s (.ssl (intRows b))] [] = some (.s (.ssl (intRows (restOut a b))), []) := by
  have h9 := hE9 hE
  have h30 := hE30 hE
  have s3 := hS3 hE
  have a3 := hA3 hE
  have b3 := hB3 hE
  have z3 := hZ3 hE
  have fin : ∀ (st : St), Grown st.hp 32 (st.fr.get 4) ((restOut a b).map digS) → finish E 26 0 Try.f26 st = some (.s (.ssl (intRows (restOut a b))), []) := by
    intro st h1
    exact finish_grown (t := 4) rfl hraw h1
  refine body_ends rfl (by simp [Try.ntmps26]) rfl ?_
  rw [Try.ntmps26]
  refine seq_text ?_
  simp only [RegT, opA_go, opA_when, guardQ_some, guarded_bool, absOp_assign, absOp_move, absOp_bin, absOp_index, absOp_pick, absOp_max, absOp_min, int2_int, strLen, intA, fastA, h9, intOf, orSlow_some, binA, strA, ariA, evA_const, evA_tmp, ofV, ofC, Option.getD_some, putA_some, Nat.ble, Nat.reduceAdd, cond_true, lay_nil, lay_cons, bump, F_eq, h_eq, upHp, List.length_cons, List.length_nil, get_put, Nat.reduceEqDiff, if_true, if_false, reduceIte, List.getElem?_toArray, List.getElem?_cons_succ, List.getElem?_cons_zero, Option.bind_some, Option.map_some, beq_iff_eq, reduceCtorEq, Bool.not_true, Bool.not_false, beq_self_eq_true, thenQ_normal, thenQ_ret, inQ_ret, inQ_normal, ends_ret, ends_skip, absOp_lenRows h30, lenA, intRows_length, absOp_indexAddr, absOp_load, idx_ints h30 s3, load_byte a3 s3, orNone_some]
  refine seq_text ?_
  simp only [RegT, opA_go, opA_when, guardQ_some, guarded_bool, absOp_assign, absOp_move, absOp_bin, absOp_index, absOp_pick, absOp_max, absOp_min, int2_int, strLen, intA, fastA, h9, intOf, orSlow_some, binA, strA, ariA, evA_const, evA_tmp, ofV, ofC, Option.getD_some, putA_some, Nat.ble, Nat.reduceAdd, cond_true, lay_nil, lay_cons, bump, F_eq, h_eq, upHp, List.length_cons, List.length_nil, get_put, Nat.reduceEqDiff, if_true, if_false, reduceIte, List.getElem?_toArray, List.getElem?_cons_succ, List.getElem?_cons_zero, Option.bind_some, Option.map_some, beq_iff_eq, reduceCtorEq, Bool.not_true, Bool.not_false, beq_self_eq_true, thenQ_normal, thenQ_ret, inQ_ret, inQ_normal, ends_ret, ends_skip, absOp_lenRows h30, lenA, intRows_length, absOp_indexAddr, absOp_load, idx_ints h30 s3, load_byte a3 s3, orNone_some]
  refine seq_text ?_
  simp only [RegT, opA_go, opA_when, guardQ_some, guarded_bool, absOp_assign, absOp_move, absOp_bin, absOp_index, absOp_pick, absOp_max, absOp_min, int2_int, strLen, intA, fastA, h9, intOf, orSlow_some, binA, strA, ariA, evA_const, evA_tmp, ofV, ofC, Option.getD_some, putA_some, Nat.ble, Nat.reduceAdd, cond_true, lay_nil, lay_cons, bump, F_eq, h_eq, upHp, List.length_cons, List.length_nil, get_put, Nat.reduceEqDiff, if_true, if_false, reduceIte, List.getElem?_toArray, List.getElem?_cons_succ, List.getElem?_cons_zero, Option.bind_some, Option.map_some, beq_iff_eq, reduceCtorEq, Bool.not_true, Bool.not_false, beq_self_eq_true, thenQ_normal, thenQ_ret, inQ_ret, inQ_normal, ends_ret, ends_skip, absOp_lenRows h30, lenA, intRows_length, absOp_indexAddr, absOp_load, idx_ints h30 s3, load_byte a3 s3, orNone_some]
  refine seq_seq.2 (seq_text ?_)
  simp only [RegT, opA_go, opA_when, guardQ_some, guarded_bool, absOp_assign, absOp_move, absOp_bin, absOp_index, absOp_pick, absOp_max, absOp_min, int2_int, strLen, intA, fastA, h9, intOf, orSlow_some, binA, strA, ariA, evA_const, evA_tmp, ofV, ofC, Option.getD_some, putA_some, Nat.ble, Nat.reduceAdd, cond_true, lay_nil, lay_cons, bump, F_eq, h_eq, upHp, List.length_cons, List.length_nil, get_put, Nat.reduceEqDiff, if_true, if_false, reduceIte, List.getElem?_toArray, List.getElem?_cons_succ, List.getElem?_cons_zero, Option.bind_some, Option.map_some, beq_iff_eq, reduceCtorEq, Bool.not_true, Bool.not_false, beq_self_eq_true, thenQ_normal, thenQ_ret, inQ_ret, inQ_normal, ends_ret, ends_skip, absOp_lenRows h30, lenA, intRows_length, absOp_indexAddr, absOp_load, idx_ints h30 s3, load_byte a3 s3, orNone_some]
  refine ends_seq.2 (ends_block.2 ?_)
  refine ends_loop (fun k st => ∃ i : Nat, k = a.length - i ∧ i ≤ a.length ∧ st.fr.get 0 = .s (.ssl (intRows a)) ∧ st.fr.get 1 = .s (.ssl (intRows b)) ∧ Grown st.hp 32 (st.fr.get 5) ((restRun a b i).1.map digS) ∧ st.fr.get 6 = .s (.int .i64 (((restRun a b i).2 : Nat) : Int)) ∧ st.fr.get 7 = .s (.int .i64 (i : Int))) (m := a.length) (by omega) ⟨0, by simp, by omega, by simp only [get_put, Nat.reduceEqDiff, if_true, if_false, reduceIte], by simp only [get_put, Nat.reduceEqDiff, if_true, if_false, reduceIte], ?_, by simp only [get_put, Nat.reduceEqDiff, if_true, if_false, reduceIte]; rfl, by simp only [get_put, Nat.reduceEqDiff, if_true, if_false, reduceIte]; rfl⟩ ?_
  · simp only [F_eq, evA_tmp, get_put, Nat.reduceEqDiff, if_true, if_false, reduceIte]
    exact Grown.nil
  rintro k ⟨fr1, hp1, nx1⟩ ⟨i, rfl, hi, g0, g1, gg, g6, g7⟩
  simp only at g0 g1 gg g6 g7
  have hx := hta.get i
  have hy := htb.get i
  have hcy := restRun_carry (a := a) (b := b) (i := i)
  have hrun : restRun a b (i + 1) = restStep a b i (restRun a b i) := rfl
  have hlen := restRun_length (a := a) (b := b) (i := i)
  have hout : i = a.length → (restRun a b i).1 = restOut a b := by rintro rfl; rfl
  generalize restRun a b i = p at *
  obtain ⟨l, c⟩ := p
  simp only [restStep] at gg g6 hcy hrun hlen hout
  refine seq_seq.2 (seq_text ?_)
  have d0 : decide ((i : Int) < (a.length : Int)) = decide (i < a.length) := by simp
  simp only [RegT, opA_go, opA_when, guardQ_some, guarded_bool, absOp_assign, absOp_move, absOp_bin, absOp_index, absOp_pick, absOp_max, absOp_min, int2_int, strLen, intA, fastA, h9, intOf, orSlow_some, binA, strA, ariA, evA_const, evA_tmp, ofV, ofC, Option.getD_some, putA_some, Nat.ble, Nat.reduceAdd, cond_true, lay_nil, lay_cons, bump, F_eq, h_eq, upHp, List.length_cons, List.length_nil, get_put, Nat.reduceEqDiff, if_true, if_false, reduceIte, List.getElem?_toArray, List.getElem?_cons_succ, List.getElem?_cons_zero, Option.bind_some, Option.map_some, beq_iff_eq, reduceCtorEq, Bool.not_true, Bool.not_false, beq_self_eq_true, thenQ_normal, thenQ_ret, inQ_ret, inQ_normal, ends_ret, ends_skip, absOp_lenRows h30, lenA, intRows_length, absOp_indexAddr, absOp_load, idx_ints h30 s3, load_byte a3 s3, orNone_some, g0, g7, d0]
  refine seq_if (t := decide (i < a.length)) (by simp only [F_eq, evA_tmp, get_put, Nat.reduceEqDiff, if_true, if_false, reduceIte]) (fun hc => ?_) (fun hc => ?_)
  · have hc := of_decide_eq_true hc
    rw [ends_skip, thenQ_normal]
    have ea : a[i] = a.getD i 0 := by rw [List.getD_eq_getElem?_getD, List.getElem?_eq_getElem hc, Option.getD_some]
    obtain ⟨x, hxe⟩ : ∃ x, x = a.getD i 0 := ⟨_, rfl⟩
    obtain ⟨y, hye⟩ : ∃ y, y = b.getD i 0 := ⟨_, rfl⟩
    rw [← hxe] at hx ea
    rw [← hye] at hy
    rw [← hxe, ← hye] at hrun
    have q2 := @op39 E hE D (l := b) (i := i)
    rw [← hye] at q2
    have hw1 : IntKind.i64.wrap ((x : Int) - (y : Int)) = (x : Int) - (y : Int) := wrap_fits (by omega) (by omega)
    have hw2 : IntKind.i64.wrap ((x : Int) - (y : Int) - (c : Int)) = (x : Int) - (y : Int) - (c : Int) := wrap_fits (by omega) (by omega)
    refine seq_K (fun st' => st'.fr.get 0 = .s (.ssl (intRows a)) ∧ st'.fr.get 1 = .s (.ssl (intRows b)) ∧ st'.fr.get 7 = .s (.int .i64 (i : Int)) ∧ st'.fr.get 6 = .s (.int .i64 (((restRun a b (i + 1)).2 : Nat) : Int)) ∧ Grown st'.hp 32 (st'.fr.get 5) ((restRun a b (i + 1)).1.map digS)) (ends_block.2 ?_) ?_
    · refine seq_calm (by kernel_rfl) ?_
      simp only [RegT, opA_go, opA_when, guardQ_some, guarded_bool, absOp_assign, absOp_move, absOp_bin, absOp_index, absOp_pick, absOp_max, absOp_min, int2_int, strLen, intA, fastA, h9, intOf, orSlow_some, binA, strA, ariA, evA_const, evA_tmp, ofV, ofC, Option.getD_some, putA_some, Nat.ble, Nat.reduceAdd, cond_true, lay_nil, lay_cons, bump, F_eq, h_eq, upHp, List.length_cons, List.length_nil, get_put, Nat.reduceEqDiff, if_true, if_false, reduceIte, List.getElem?_toArray, List.getElem?_cons_succ, List.getElem?_cons_zero, Option.bind_some, Option.map_some, beq_iff_eq, reduceCtorEq, Bool.not_true, Bool.not_false, beq_self_eq_true, thenQ_normal, thenQ_ret, inQ_ret, inQ_normal, ends_ret, ends_skip, absOp_lenRows h30, lenA, intRows_length, absOp_indexAddr, absOp_load, idx_ints h30 s3, load_byte a3 s3, orNone_some, RegC, RegF, reach_one, keysB, opKeys_of, Op.operands, Call.operands, List.flatMap_cons, List.flatMap_nil, List.append_nil, List.nil_append, List.cons_append, keysA, keysAs, keys_func, only_eq, reach_nil, List.contains_cons, List.contains_nil, Bool.or_false, Bool.true_or, beq_self_eq_true, List.map_cons, List.map_nil, true_and, Array.toList_append, g0, g1, g6, g7, hc, ea, q2, hw1, hw2]
      refine seq_text ?_
      simp only [RegT, opA_go, opA_when, guardQ_some, guarded_bool, absOp_assign, absOp_move, absOp_bin, absOp_index, absOp_pick, absOp_max, absOp_min, int2_int, strLen, intA, fastA, h9, intOf, orSlow_some, binA, strA, ariA, evA_const, evA_tmp, ofV, ofC, Option.getD_some, putA_some, Nat.ble, Nat.reduceAdd, cond_true, lay_nil, lay_cons, bump, F_eq, h_eq, upHp, List.length_cons, List.length_nil, get_put, Nat.reduceEqDiff, if_true, if_false, reduceIte, List.getElem?_toArray, List.getElem?_cons_succ, List.getElem?_cons_zero, Option.bind_some, Option.map_some, beq_iff_eq, reduceCtorEq, Bool.not_true, Bool.not_false, beq_self_eq_true, thenQ_normal, thenQ_ret, inQ_ret, inQ_normal, ends_ret, ends_skip, absOp_lenRows h30, lenA, intRows_length, absOp_indexAddr, absOp_load, idx_ints h30 s3, load_byte a3 s3, orNone_some]
      refine seq_seq.2 (seq_text ?_)
      have d1 : decide ((x : Int) - (y : Int) - (c : Int) < 0) = decide (x < y + c) := by apply Bool.eq_iff_iff.2; simp; omega
      simp only [RegT, opA_go, opA_when, guardQ_some, guarded_bool, absOp_assign, absOp_move, absOp_bin, absOp_index, absOp_pick, absOp_max, absOp_min, int2_int, strLen, intA, fastA, h9, intOf, orSlow_some, binA, strA, ariA, evA_const, evA_tmp, ofV, ofC, Option.getD_some, putA_some, Nat.ble, Nat.reduceAdd, cond_true, lay_nil, lay_cons, bump, F_eq, h_eq, upHp, List.length_cons, List.length_nil, get_put, Nat.reduceEqDiff, if_true, if_false, reduceIte, List.getElem?_toArray, List.getElem?_cons_succ, List.getElem?_cons_zero, Option.bind_some, Option.map_some, beq_iff_eq, reduceCtorEq, Bool.not_true, Bool.not_false, beq_self_eq_true, thenQ_normal, thenQ_ret, inQ_ret, inQ_normal, ends_ret, ends_skip, absOp_lenRows h30, lenA, intRows_length, absOp_indexAddr, absOp_load, idx_ints h30 s3, load_byte a3 s3, orNone_some, d1]
      obtain ⟨d, hd⟩ : ∃ d, d = (if x < y + c then x + 10 - (y + c) else x - (y + c)) := ⟨_, rfl⟩
      obtain ⟨c', hc'⟩ : ∃ c', c' = (if x < y + c then 1 else 0) := ⟨_, rfl⟩
      have hrun2 : restRun a b (i + 1) = (l ++ [d], c') := by
        rw [hrun, hd, hc']
        split <;> rfl
      refine seq_ifK (t := decide (x < y + c)) (fun st' => st'.hp = hp1 ∧ st'.fr.get 0 = .s (.ssl (intRows a)) ∧ st'.fr.get 1 = .s (.ssl (intRows b)) ∧ st'.fr.get 5 = fr1.get 5 ∧ st'.fr.get 7 = .s (.int .i64 (i : Int)) ∧ st'.fr.get 6 = .s (.int .i64 (c' : Int)) ∧ st'.fr.get 8 = .s (.int .i64 (d : Int))) (by simp only [F_eq, evA_tmp, get_put, Nat.reduceEqDiff, if_true, if_false, reduceIte]) (fun hq => ?_) (fun hq => ?_) ?_
      · have hq := of_decide_eq_true hq
        rw [if_pos hq] at hd hc'
        have hw3 : IntKind.i64.wrap ((x : Int) - (y : Int) - (c : Int) + 10) = (d : Int) := wrap_nat (by omega) (by omega)
        refine seq_text ?_
        simp only [RegT, opA_go, opA_when, guardQ_some, guarded_bool, absOp_assign, absOp_move, absOp_bin, absOp_index, absOp_pick, absOp_max, absOp_min, int2_int, strLen, intA, fastA, h9, intOf, orSlow_some, binA, strA, ariA, evA_const, evA_tmp, ofV, ofC, Option.getD_some, putA_some, Nat.ble, Nat.reduceAdd, cond_true, lay_nil, lay_cons, bump, F_eq, h_eq, upHp, List.length_cons, List.length_nil, get_put, Nat.reduceEqDiff, if_true, if_false, reduceIte, List.getElem?_toArray, List.getElem?_cons_succ, List.getElem?_cons_zero, Option.bind_some, Option.map_some, beq_iff_eq, reduceCtorEq, Bool.not_true, Bool.not_false, beq_self_eq_true, thenQ_normal, thenQ_ret, inQ_ret, inQ_normal, ends_ret, ends_skip, absOp_lenRows h30, lenA, intRows_length, absOp_indexAddr, absOp_load, idx_ints h30 s3, load_byte a3 s3, orNone_some, hw3]
        refine region_text.2 ?_
        simp only [RegT, opA_go, opA_when, guardQ_some, guarded_bool, absOp_assign, absOp_move, absOp_bin, absOp_index, absOp_pick, absOp_max, absOp_min, int2_int, strLen, intA, fastA, h9, intOf, orSlow_some, binA, strA, ariA, evA_const, evA_tmp, ofV, ofC, Option.getD_some, putA_some, Nat.ble, Nat.reduceAdd, cond_true, lay_nil, lay_cons, bump, F_eq, h_eq, upHp, List.length_cons, List.length_nil, get_put, Nat.reduceEqDiff, if_true, if_false, reduceIte, List.getElem?_toArray, List.getElem?_cons_succ, List.getElem?_cons_zero, Option.bind_some, Option.map_some, beq_iff_eq, reduceCtorEq, Bool.not_true, Bool.not_false, beq_self_eq_true, thenQ_normal, thenQ_ret, inQ_ret, inQ_normal, ends_ret, ends_skip, absOp_lenRows h30, lenA, intRows_length, absOp_indexAddr, absOp_load, idx_ints h30 s3, load_byte a3 s3, orNone_some, g0, g1, g7, hc']
        (repeat' apply And.intro) <;> (first | trivial | rfl | assumption)
      · have hq := of_decide_eq_false hq
        rw [if_neg hq] at hd hc'
        have hw3 : (x : Int) - (y : Int) - (c : Int) = (d : Int) := by omega
        refine ends_skip.2 ?_
        simp only [RegT, opA_go, opA_when, guardQ_some, guarded_bool, absOp_assign, absOp_move, absOp_bin, absOp_index, absOp_pick, absOp_max, absOp_min, int2_int, strLen, intA, fastA, h9, intOf, orSlow_some, binA, strA, ariA, evA_const, evA_tmp, ofV, ofC, Option.getD_some, putA_some, Nat.ble, Nat.reduceAdd, cond_true, lay_nil, lay_cons, bump, F_eq, h_eq, upHp, List.length_cons, List.length_nil, get_put, Nat.reduceEqDiff, if_true, if_false, reduceIte, List.getElem?_toArray, List.getElem?_cons_succ, List.getElem?_cons_zero, Option.bind_some, Option.map_some, beq_iff_eq, reduceCtorEq, Bool.not_true, Bool.not_false, beq_self_eq_true, thenQ_normal, thenQ_ret, inQ_ret, inQ_normal, ends_ret, ends_skip, absOp_lenRows h30, lenA, intRows_length, absOp_indexAddr, absOp_load, idx_ints h30 s3, load_byte a3 s3, orNone_some, g0, g1, g7, hc', hw3]
        (repeat' apply And.intro) <;> (first | trivial | rfl | assumption)
      rintro ⟨fr3, hp3, nx3⟩ ⟨rfl, m0, m1, m5, m7, m6, m8⟩
      simp only at m0 m1 m5 m7 m8 m6 gg
      have hd9 : d < 10 := by rw [hd]; split <;> omega
      obtain ⟨v', ups, e, hg⟩ := (gg.keep (j := 31) (sl := (nx3 + room * 2, .arr 1 (cellRows [.int .i64 (d : Int)]) 0)) (by decide)).more (t := 30) (b := 8) (z := .int .i64 0) (x := .int .i64 (d : Int)) (kx := 31) (sx := nx3 + room * 2) (s0 := nx3 + room * 3) (cap := some 1) h30 s3 b3 z3 hget_self (by simp [hlen]; omega) (by simp [hlen]; omega)
      refine region_text.2 ?_
      simp only [RegT, opA_go, opA_when, guardQ_some, guarded_bool, absOp_assign, absOp_move, absOp_bin, absOp_index, absOp_pick, absOp_max, absOp_min, int2_int, strLen, intA, fastA, h9, intOf, orSlow_some, binA, strA, ariA, evA_const, evA_tmp, ofV, ofC, Option.getD_some, putA_some, Nat.ble, Nat.reduceAdd, cond_true, lay_nil, lay_cons, bump, F_eq, h_eq, upHp, List.length_cons, List.length_nil, get_put, Nat.reduceEqDiff, if_true, if_false, reduceIte, List.getElem?_toArray, List.getElem?_cons_succ, List.getElem?_cons_zero, Option.bind_some, Option.map_some, beq_iff_eq, reduceCtorEq, Bool.not_true, Bool.not_false, beq_self_eq_true, thenQ_normal, thenQ_ret, inQ_ret, inQ_normal, ends_ret, ends_skip, absOp_lenRows h30, lenA, intRows_length, absOp_indexAddr, absOp_load, idx_ints h30 s3, load_byte a3 s3, orNone_some, m5, m8, absOp_built (z := .int .i64 0) (v := .int .i64 (d : Int)) h30 s3 z3 rfl, absOp_append (r := (v', ups)), e]
      refine ⟨m0, m1, m7, ?_, ?_⟩
      · rw [m6, hrun2]
      · rw [hrun2, List.map_append]; exact hg
    · rintro ⟨fr4, hp4, nx4⟩ ⟨p0, p1, p7, p6, pg⟩
      simp only at p0 p1 p7 p6 pg
      have hw3 : IntKind.i64.wrap ((i : Int) + 1) = ((i + 1 : Nat) : Int) := wrap_nat (by omega) (by omega)
      refine region_text.2 ?_
      simp only [RegT, opA_go, opA_when, guardQ_some, guarded_bool, absOp_assign, absOp_move, absOp_bin, absOp_index, absOp_pick, absOp_max, absOp_min, int2_int, strLen, intA, fastA, h9, intOf, orSlow_some, binA, strA, ariA, evA_const, evA_tmp, ofV, ofC, Option.getD_some, putA_some, Nat.ble, Nat.reduceAdd, cond_true, lay_nil, lay_cons, bump, F_eq, h_eq, upHp, List.length_cons, List.length_nil, get_put, Nat.reduceEqDiff, if_true, if_false, reduceIte, List.getElem?_toArray, List.getElem?_cons_succ, List.getElem?_cons_zero, Option.bind_some, Option.map_some, beq_iff_eq, reduceCtorEq, Bool.not_true, Bool.not_false, beq_self_eq_true, thenQ_normal, thenQ_ret, inQ_ret, inQ_normal, ends_ret, ends_skip, absOp_lenRows h30, lenA, intRows_length, absOp_indexAddr, absOp_load, idx_ints h30 s3, load_byte a3 s3, orNone_some, p7, hw3]
      exact ⟨a.length - (i + 1), by omega, i + 1, rfl, by omega, p0, p1, pg, p6, (by first | trivial | rfl)⟩
  · have hc := of_decide_eq_false hc
    rw [ends_exit, thenQ_exit, thenQ_exit]
    simp only [inQ_exit, if_true, reduceIte, thenQ_normal]
    refine seq_text ?_
    simp only [RegT, opA_go, opA_when, guardQ_some, guarded_bool, absOp_assign, absOp_move, absOp_bin, absOp_index, absOp_pick, absOp_max, absOp_min, int2_int, strLen, intA, fastA, h9, intOf, orSlow_some, binA, strA, ariA, evA_const, evA_tmp, ofV, ofC, Option.getD_some, putA_some, Nat.ble, Nat.reduceAdd, cond_true, lay_nil, lay_cons, bump, F_eq, h_eq, upHp, List.length_cons, List.length_nil, get_put, Nat.reduceEqDiff, if_true, if_false, reduceIte, List.getElem?_toArray, List.getElem?_cons_succ, List.getElem?_cons_zero, Option.bind_some, Option.map_some, beq_iff_eq, reduceCtorEq, Bool.not_true, Bool.not_false, beq_self_eq_true, thenQ_normal, thenQ_ret, inQ_ret, inQ_normal, ends_ret, ends_skip, absOp_lenRows h30, lenA, intRows_length, absOp_indexAddr, absOp_load, idx_ints h30 s3, load_byte a3 s3, orNone_some]
    refine ⟨.inr trivial, fin _ ?_⟩
    simp only [F_eq, evA_tmp, get_put, Nat.reduceEqDiff, if_true, if_false, reduceIte]
    rw [← hout (by omega)]
    exact gg
end Go.Proofs.Ytbfdokfelolmbaa.TensW
end

section
open Go.Proofs.Ytbfdokfelolmbaa.Vai
namespace Go.Proofs.Ytbfdokfelolmbaa.TensW
set_option maxRecDepth 10000
set_option linter.unusedSimpArgs false

theorem hE32 {E : Env} (h : E.P = Try.prog) : (tzero E.P 32).bind cellsA = some [.s (.bool false), .nsl] := by rw [h]; kernel_rfl
theorem build32 {E : Env} (h : E.P = Try.prog) {b : Bool} {rows : List (List SV)} : buildA E.P 32 [(0, .s (.bool b)), (1, .s (.ssl rows))] = some (.agg [.s (.bool b), .s (.ssl rows)]) := by rw [h]; kernel_rfl
theorem fa32_0 {E : Env} (h : E.P = Try.prog) {k s r : Nat} : fieldAddrA E.P 32 (.ref k s r 0) 0 = some (.ref k s r 0) := by rw [h]; kernel_rfl
theorem fa32_1 {E : Env} (h : E.P = Try.prog) {k s r : Nat} : fieldAddrA E.P 32 (.ref k s r 0) 1 = some (.ref k s r 1) := by rw [h]; kernel_rfl
theorem hS32 {E : Env} (h : E.P = Try.prog) : tsize E.P 32 = some 2 := by rw [h]; kernel_rfl
theorem hA32 {E : Env} (h : E.P = Try.prog) : tagg E.P 32 = some true := by rw [h]; kernel_rfl
theorem hS30 {E : Env} (h : E.P = Try.prog) : tsize E.P 30 = some 1 := by rw [h]; kernel_rfl
theorem hA30 {E : Env} (h : E.P = Try.prog) : tagg E.P 30 = some false := by rw [h]; kernel_rfl
theorem hS4 {E : Env} (h : E.P = Try.prog) : tsize E.P 4 = some 1 := by rw [h]; kernel_rfl
theorem hA4 {E : Env} (h : E.P = Try.prog) : tagg E.P 4 = some false := by rw [h]; kernel_rfl
theorem hS9 {E : Env} (h : E.P = Try.prog) : tsize E.P 9 = some 1 := by rw [h]; kernel_rfl
theorem hA9 {E : Env} (h : E.P = Try.prog) : tagg E.P 9 = some false := by rw [h]; kernel_rfl
theorem hE22 {E : Env} (h : E.P = Try.prog) : E.P.underlying 22 = some (.slice 9) := by rw [h]; kernel_rfl
theorem hB9 {E : Env} (h : E.P = Try.prog) : tbytes E.P 9 = some 16 := by rw [h]; kernel_rfl
theorem hZ9 {E : Env} (h : E.P = Try.prog) : (tzero E.P 9).bind cellsA = some [.s (.str [])] := by rw [h]; kernel_rfl

def topN (l : List Nat) : Nat → Nat
  | 0 => 0
  | n + 1 => if l.getD n 0 = 0 then topN l n else n + 1
theorem topN_le {l : List Nat} : ∀ {n : Nat}, topN l n ≤ n
  | 0 => Nat.le_refl _
  | n + 1 => by
    have := topN_le (l := l) (n := n)
    unfold topN; split <;> omega

theorem trim_abs (E : Env) (hE : E.P = Try.prog) (hraw : E.raw 23 = false) (n : Nat) (b : Bool) (l : List Nat) (hn : l.length + 1 < n) (hl : l.length < 9223372036854775807) : absBody E n 23 Try.f23 [numA b l] [] = some (numA (b && decide (0 < topN l l.length)) (l.take (topN l l.length)), []) := by
  have h9 := hE9 hE
  have h30 := hE30 hE
  have s3 := hS3 hE
  have a3 := hA3 hE
  have z32 := hE32 hE
  have s4 := hS4 hE
  have a4 := hA4 hE
  have s30 := hS30 hE
  have a30 := hA30 hE
  have s32 := hS32 hE
  have a32 := hA32 hE
  refine body_ends rfl (by simp [Try.ntmps23]) rfl ?_
  rw [Try.ntmps23]
  refine seq_text ?_
  simp only [RegT, opA_go, opA_when, guardQ_some, guarded_bool, absOp_assign, absOp_move, absOp_bin, absOp_index, absOp_pick, absOp_max, absOp_min, int2_int, strLen, intA, fastA, h9, intOf, orSlow_some, binA, strA, ariA, evA_const, evA_tmp, ofV, ofC, Option.getD_some, putA_some, Nat.ble, Nat.reduceAdd, cond_true, lay_nil, lay_cons, bump, F_eq, h_eq, upHp, List.length_cons, List.length_nil, get_put, Nat.reduceEqDiff, if_true, if_false, reduceIte, List.getElem?_toArray, List.getElem?_cons_succ, List.getElem?_cons_zero, Option.bind_some, Option.map_some, beq_iff_eq, reduceCtorEq, Bool.not_true, Bool.not_false, beq_self_eq_true, thenQ_normal, thenQ_ret, inQ_ret, inQ_normal, ends_ret, ends_skip, absOp_lenRows h30, lenA, intRows_length, absOp_indexAddr, absOp_load, idx_ints h30 s3, load_byte a3 s3, orNone_some, absOp_box, absOp_alloc z32, absOp_fieldAddr, absOp_load, fa32_0 hE, fa32_1 hE, loadVarA a4 s4, loadVarA a30 s30, loadV_eq, orElse_some, orNone_some, cellsA, hget_self, hget_hput, numA, List.map_cons, List.map_nil, absOp_build, build32 hE, absOp_storeQ, putA_no, orUps_some, keys_und, Option.toArray, List.map_toArray, List.append_toArray, List.toList_toArray]
  refine seq_text ?_
  simp only [RegT, opA_go, opA_when, guardQ_some, guarded_bool, absOp_assign, absOp_move, absOp_bin, absOp_index, absOp_pick, absOp_max, absOp_min, int2_int, strLen, intA, fastA, h9, intOf, orSlow_some, binA, strA, ariA, evA_const, evA_tmp, ofV, ofC, Option.getD_some, putA_some, Nat.ble, Nat.reduceAdd, cond_true, lay_nil, lay_cons, bump, F_eq, h_eq, upHp, List.length_cons, List.length_nil, get_put, Nat.reduceEqDiff, if_true, if_false, reduceIte, List.getElem?_toArray, List.getElem?_cons_succ, List.getElem?_cons_zero, Option.bind_some, Option.map_some, beq_iff_eq, reduceCtorEq, Bool.not_true, Bool.not_false, beq_self_eq_true, thenQ_normal, thenQ_ret, inQ_ret, inQ_normal, ends_ret, ends_skip, absOp_lenRows h30, lenA, intRows_length, absOp_indexAddr, absOp_load, idx_ints h30 s3, load_byte a3 s3, orNone_some, absOp_box, absOp_alloc z32, absOp_fieldAddr, absOp_load, fa32_0 hE, fa32_1 hE, loadVarA a4 s4, loadVarA a30 s30, loadV_eq, orElse_some, orNone_some, cellsA, hget_self, hget_hput, numA, List.map_cons, List.map_nil, absOp_build, build32 hE, absOp_storeQ, putA_no, orUps_some, keys_und, Option.toArray, List.map_toArray, List.append_toArray, List.toList_toArray]
  refine ends_seq.2 (ends_block.2 ?_)
  obtain ⟨s1, hs1⟩ : ∃ s1, s1 = 0 + room * 0 := ⟨_, rfl⟩
  obtain ⟨s2, hs2⟩ : ∃ s2, s2 = 0 + room * 1 := ⟨_, rfl⟩
  refine ends_loop (fun k st => ∃ i : Nat, k = i + 1 ∧ i ≤ l.length ∧ topN l i = topN l l.length ∧ st.fr.get 1 = .ref 1 s1 0 0 ∧ st.fr.get 2 = .ref 2 s2 0 0 ∧ hget st.hp 1 = (s1, .var [.s (.bool b), .s (.ssl (intRows l))] false) ∧ hget st.hp 2 = (s2, .var [.s (.bool false), .nsl] false) ∧ st.fr.get 3 = .s (.int .i64 (i : Int))) (m := l.length + 1) (by omega) ⟨l.length, rfl, Nat.le_refl _, rfl, ?_, ?_, ?_, ?_, ?_⟩ ?_
  · simp only [F_eq, evA_tmp, get_put, Nat.reduceEqDiff, if_true, if_false, reduceIte]; subst hs1; rfl
  · simp only [F_eq, evA_tmp, get_put, Nat.reduceEqDiff, if_true, if_false, reduceIte]; subst hs2; rfl
  · subst hs1; simp [hget_hput]
  · subst hs2; simp [hget_hput]
  · simp only [F_eq, evA_tmp, get_put, Nat.reduceEqDiff, if_true, if_false, reduceIte]
  clear hs1 hs2
  rintro k ⟨fr1, hp1, nx1⟩ ⟨i, rfl, hi, ht, g1, g2, gh1, gh2, g3⟩
  simp only at g1 g2 gh1 gh2 g3
  refine seq_seq.2 (seq_K (fun st' => st'.hp = hp1 ∧ st'.fr.get 1 = .ref 1 s1 0 0 ∧ st'.fr.get 2 = .ref 2 s2 0 0 ∧ st'.fr.get 3 = .s (.int .i64 (i : Int)) ∧ st'.fr.get 17 = .s (.bool (decide (0 < i) && decide (l.getD (i - 1) 0 = 0)))) (region_text.2 ?_) ?_)
  · cases i with
    | zero =>
      have d1 : decide ((0 : Int) < ((0 : Nat) : Int)) = false := by decide
      simp only [RegT, opA_go, opA_when, guardQ_some, guarded_bool, absOp_assign, absOp_move, absOp_bin, absOp_index, absOp_pick, absOp_max, absOp_min, int2_int, strLen, intA, fastA, h9, intOf, orSlow_some, binA, strA, ariA, evA_const, evA_tmp, ofV, ofC, Option.getD_some, putA_some, Nat.ble, Nat.reduceAdd, cond_true, lay_nil, lay_cons, bump, F_eq, h_eq, upHp, List.length_cons, List.length_nil, get_put, Nat.reduceEqDiff, if_true, if_false, reduceIte, List.getElem?_toArray, List.getElem?_cons_succ, List.getElem?_cons_zero, Option.bind_some, Option.map_some, beq_iff_eq, reduceCtorEq, Bool.not_true, Bool.not_false, beq_self_eq_true, thenQ_normal, thenQ_ret, inQ_ret, inQ_normal, ends_ret, ends_skip, absOp_lenRows h30, lenA, intRows_length, absOp_indexAddr, absOp_load, idx_ints h30 s3, load_byte a3 s3, orNone_some, absOp_box, absOp_alloc z32, absOp_fieldAddr, absOp_load, fa32_0 hE, fa32_1 hE, loadVarA a4 s4, loadVarA a30 s30, loadV_eq, orElse_some, orNone_some, cellsA, hget_self, hget_hput, numA, List.map_cons, List.map_nil, absOp_build, build32 hE, absOp_storeQ, putA_no, orUps_some, keys_und, Option.toArray, List.map_toArray, List.append_toArray, List.toList_toArray, g1, g2, g3, gh1, gh2, d1, Nat.lt_irrefl, decide_false, Bool.false_and, Bool.false_eq_true, Bool.false_beq, beq_true, beq_false, Bool.not_true, Bool.not_false]
      (repeat' apply And.intro) <;> (first | trivial | rfl | assumption)
    | succ i =>
      have hil : i < l.length := by omega
      have d1 : decide ((0 : Int) < ((i + 1 : Nat) : Int)) = true := by simp
      have hw : IntKind.i64.wrap (((i + 1 : Nat) : Int) - 1) = (i : Int) := wrap_nat (by omega) (by omega)
      have el : l[i] = l.getD i 0 := by rw [List.getD_eq_getElem?_getD, List.getElem?_eq_getElem hil, Option.getD_some]
      have d2 : decide (((l.getD i 0 : Nat) : Int) = 0) = decide (l.getD i 0 = 0) := by
        apply Bool.eq_iff_iff.2; simp only [decide_eq_true_eq]; omega
      simp only [RegT, opA_go, opA_when, guardQ_some, guarded_bool, absOp_assign, absOp_move, absOp_bin, absOp_index, absOp_pick, absOp_max, absOp_min, int2_int, strLen, intA, fastA, h9, intOf, orSlow_some, binA, strA, ariA, evA_const, evA_tmp, ofV, ofC, Option.getD_some, putA_some, Nat.ble, Nat.reduceAdd, cond_true, lay_nil, lay_cons, bump, F_eq, h_eq, upHp, List.length_cons, List.length_nil, get_put, Nat.reduceEqDiff, if_true, if_false, reduceIte, List.getElem?_toArray, List.getElem?_cons_succ, List.getElem?_cons_zero, Option.bind_some, Option.map_some, beq_iff_eq, reduceCtorEq, Bool.not_true, Bool.not_false, beq_self_eq_true, thenQ_normal, thenQ_ret, inQ_ret, inQ_normal, ends_ret, ends_skip, absOp_lenRows h30, lenA, intRows_length, absOp_indexAddr, absOp_load, idx_ints h30 s3, load_byte a3 s3, orNone_some, absOp_box, absOp_alloc z32, absOp_fieldAddr, absOp_load, fa32_0 hE, fa32_1 hE, loadVarA a4 s4, loadVarA a30 s30, loadV_eq, orElse_some, orNone_some, cellsA, hget_self, hget_hput, numA, List.map_cons, List.map_nil, absOp_build, build32 hE, absOp_storeQ, putA_no, orUps_some, keys_und, Option.toArray, List.map_toArray, List.append_toArray, List.toList_toArray, g1, g2, g3, gh1, gh2, d1, hil, hw, el, d2, Nat.zero_lt_succ, Nat.add_sub_cancel, decide_true, Bool.true_and, Bool.false_eq_true, Bool.false_beq, beq_true, beq_false, Bool.not_true, Bool.not_false]
      (repeat' apply And.intro) <;> (first | trivial | rfl | assumption)
  rintro ⟨fr2, hp2, nx2⟩ ⟨rfl, k1, k2, k3, k17⟩
  simp only at k1 k2 k3 k17 gh1 gh2
  refine seq_if (t := decide (0 < i) && decide (l.getD (i - 1) 0 = 0)) (by simp only [F_eq, evA_tmp, get_put, Nat.reduceEqDiff, if_true, if_false, reduceIte]; exact k17) (fun hc => ?_) (fun hc => ?_)
  · simp only [Bool.and_eq_true, decide_eq_true_eq] at hc
    obtain ⟨h1, h2⟩ := hc
    rw [ends_skip, thenQ_normal]
    refine ends_block.2 (region_text.2 ?_)
    have hw : IntKind.i64.wrap ((i : Int) - 1) = ((i - 1 : Nat) : Int) := wrap_nat (by omega) (by omega)
    simp only [RegT, opA_go, opA_when, guardQ_some, guarded_bool, absOp_assign, absOp_move, absOp_bin, absOp_index, absOp_pick, absOp_max, absOp_min, int2_int, strLen, intA, fastA, h9, intOf, orSlow_some, binA, strA, ariA, evA_const, evA_tmp, ofV, ofC, Option.getD_some, putA_some, Nat.ble, Nat.reduceAdd, cond_true, lay_nil, lay_cons, bump, F_eq, h_eq, upHp, List.length_cons, List.length_nil, get_put, Nat.reduceEqDiff, if_true, if_false, reduceIte, List.getElem?_toArray, List.getElem?_cons_succ, List.getElem?_cons_zero, Option.bind_some, Option.map_some, beq_iff_eq, reduceCtorEq, Bool.not_true, Bool.not_false, beq_self_eq_true, thenQ_normal, thenQ_ret, inQ_ret, inQ_normal, ends_ret, ends_skip, absOp_lenRows h30, lenA, intRows_length, absOp_indexAddr, absOp_load, idx_ints h30 s3, load_byte a3 s3, orNone_some, k3, hw]
    refine ⟨i, by omega, i - 1, by omega, by omega, ?_, k1, k2, gh1, gh2, (by first | trivial | rfl)⟩
    rw [← ht]
    obtain ⟨j, rfl⟩ : ∃ j, i = j + 1 := ⟨i - 1, by omega⟩
    rw [Nat.add_sub_cancel] at h2 ⊢
    simp only [topN, h2, if_true]
  · have hti : topN l l.length = i := by
      rw [← ht]
      cases i with
      | zero => rfl
      | succ j =>
        simp only [Nat.add_sub_cancel, Nat.zero_lt_succ, decide_true, Bool.true_and, decide_eq_false_iff_not] at hc
        simp only [topN, hc, if_false]
    rw [hti]
    rw [ends_exit, thenQ_exit, thenQ_exit]
    simp only [inQ_exit, if_true, reduceIte, thenQ_normal]
    refine seq_feet [⟨[1], []⟩, ⟨[1], []⟩, ⟨[], []⟩, ⟨[], []⟩, ⟨[], []⟩, ⟨[], []⟩, ⟨[1], []⟩, ⟨[1], []⟩, ⟨[], []⟩, ⟨[], []⟩, ⟨[], []⟩, ⟨[2], [2]⟩] (by kernel_rfl) ?_
    have d1 : decide ((0 : Int) < (i : Int)) = decide (0 < i) := by simp
    cases b with
    | true =>
      simp only [RegT, opA_go, opA_when, guardQ_some, guarded_bool, absOp_assign, absOp_move, absOp_bin, absOp_index, absOp_pick, absOp_max, absOp_min, int2_int, strLen, intA, fastA, h9, intOf, orSlow_some, binA, strA, ariA, evA_const, evA_tmp, ofV, ofC, Option.getD_some, putA_some, Nat.ble, Nat.reduceAdd, cond_true, lay_nil, lay_cons, bump, F_eq, h_eq, upHp, List.length_cons, List.length_nil, get_put, Nat.reduceEqDiff, if_true, if_false, reduceIte, List.getElem?_toArray, List.getElem?_cons_succ, List.getElem?_cons_zero, Option.bind_some, Option.map_some, beq_iff_eq, reduceCtorEq, Bool.not_true, Bool.not_false, beq_self_eq_true, thenQ_normal, thenQ_ret, inQ_ret, inQ_normal, ends_ret, ends_skip, absOp_lenRows h30, lenA, intRows_length, absOp_indexAddr, absOp_load, idx_ints h30 s3, load_byte a3 s3, orNone_some, absOp_box, absOp_alloc z32, absOp_fieldAddr, absOp_load, fa32_0 hE, fa32_1 hE, loadVarA a4 s4, loadVarA a30 s30, loadV_eq, orElse_some, orNone_some, cellsA, hget_self, hget_hput, numA, List.map_cons, List.map_nil, absOp_build, build32 hE, absOp_storeQ, putA_no, orUps_some, keys_und, Option.toArray, List.map_toArray, List.append_toArray, List.toList_toArray, RegC, RegF, reach_one, keysB, opKeys_of, Op.operands, Call.operands, List.flatMap_cons, List.flatMap_nil, List.append_nil, List.nil_append, List.cons_append, keysA, keysAs, keys_func, only_eq, reach_nil, List.contains_cons, List.contains_nil, Bool.or_false, Bool.true_or, beq_self_eq_true, List.map_cons, List.map_nil, true_and, Array.toList_append, k1, k2, k3, gh1, gh2, d1, absOp_sliceTo h30, cut_ints h30 s3 hi, storePair s32 (k := 2) (s := s2) (x := .s (.bool false)) (y := .nsl), Bool.true_and, Bool.false_eq_true, Bool.false_beq, beq_true, beq_false, Bool.not_true, Bool.not_false]
      refine ⟨.inr trivial, ?_⟩
      exact finish_pair (t := 2) (k := 2) (s := s2) rfl hraw a32 s32 (by simp only [get_put, Nat.reduceEqDiff, if_true, if_false, reduceIte, k2]) hget_self
    | false =>
      simp only [RegT, opA_go, opA_when, guardQ_some, guarded_bool, absOp_assign, absOp_move, absOp_bin, absOp_index, absOp_pick, absOp_max, absOp_min, int2_int, strLen, intA, fastA, h9, intOf, orSlow_some, binA, strA, ariA, evA_const, evA_tmp, ofV, ofC, Option.getD_some, putA_some, Nat.ble, Nat.reduceAdd, cond_true, lay_nil, lay_cons, bump, F_eq, h_eq, upHp, List.length_cons, List.length_nil, get_put, Nat.reduceEqDiff, if_true, if_false, reduceIte, List.getElem?_toArray, List.getElem?_cons_succ, List.getElem?_cons_zero, Option.bind_some, Option.map_some, beq_iff_eq, reduceCtorEq, Bool.not_true, Bool.not_false, beq_self_eq_true, thenQ_normal, thenQ_ret, inQ_ret, inQ_normal, ends_ret, ends_skip, absOp_lenRows h30, lenA, intRows_length, absOp_indexAddr, absOp_load, idx_ints h30 s3, load_byte a3 s3, orNone_some, absOp_box, absOp_alloc z32, absOp_fieldAddr, absOp_load, fa32_0 hE, fa32_1 hE, loadVarA a4 s4, loadVarA a30 s30, loadV_eq, orElse_some, orNone_some, cellsA, hget_self, hget_hput, numA, List.map_cons, List.map_nil, absOp_build, build32 hE, absOp_storeQ, putA_no, orUps_some, keys_und, Option.toArray, List.map_toArray, List.append_toArray, List.toList_toArray, RegC, RegF, reach_one, keysB, opKeys_of, Op.operands, Call.operands, List.flatMap_cons, List.flatMap_nil, List.append_nil, List.nil_append, List.cons_append, keysA, keysAs, keys_func, only_eq, reach_nil, List.contains_cons, List.contains_nil, Bool.or_false, Bool.true_or, beq_self_eq_true, List.map_cons, List.map_nil, true_and, Array.toList_append, k1, k2, k3, gh1, gh2, d1, absOp_sliceTo h30, cut_ints h30 s3 hi, storePair s32 (k := 2) (s := s2) (x := .s (.bool false)) (y := .nsl), Bool.false_and, Bool.false_eq_true, Bool.false_beq, beq_true, beq_false, Bool.not_true, Bool.not_false]
      refine ⟨.inr trivial, ?_⟩
      exact finish_pair (t := 2) (k := 2) (s := s2) rfl hraw a32 s32 (by simp only [get_put, Nat.reduceEqDiff, if_true, if_false, reduceIte, k2]) hget_self
end Go.Proofs.Ytbfdokfelolmbaa.TensW
end
