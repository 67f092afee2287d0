import Derived.Test.YtbfdokfelolmbaaRa
import Derived.Test.YtbfdokfelolmbaaTb
import Derived.Test.YtbfdokfelolmbaaVaF
/-
  What the document's reading and writing answer.
-/
set_option linter.all false
section
open Go.Proofs.Ytbfdokfelolmbaa.Vai
namespace Go.Proofs.Ytbfdokfelolmbaa.TensW
set_option maxRecDepth 10000
set_option linter.unusedSimpArgs false

theorem hE3 {E : Env} (h : E.P = Try.prog) : E.P.underlying 3 = some (.int .i64) := by rw [h]; exact Try.underlying3

def dg (c : UInt8) : Nat := (c - 48).toNat
def trimA (b : Bool) (l : List Nat) : AV := numA (b && decide (0 < topN l l.length)) (l.take (topN l l.length))
structure Trims (E : Env) : Prop where
  trim : ∀ b l, l.length < 4398046511104 → E.call 23 [numA b l] [] = some (trimA b l, [])
  lend23 : E.lend 23 = false

def readD (s : List UInt8) : List Nat := (digL s).reverse.map dg

theorem take_more {α : Type} {l : List α} {i : Nat} (h : i < l.length) : l.take (i + 1) = l.take i ++ [l[i]] := by
  rw [List.take_add_one, List.getElem?_eq_getElem h]; rfl

theorem read_abs (E : Env) (hE : E.P = Try.prog) (T : Trims E) (hraw : E.raw 8 = false) (n : Nat) (s : List UInt8) (hs0 : s ≠ []) (hn : s.length + 1 < n) (hl : s.length < 4398046511104) : absBody E n 8 Try.f8 [.s (.str s)] [] = some (trimA (negL s) (readD s), []) := by
  have h9 := hE9 hE
  have h30 := hE30 hE
  have s3 := hS3 hE
  have a3 := hA3 hE
  have z32 := hE32 hE
  have s4 := hS4 hE
  have a4 := hA4 hE
  have s30 := hS30 hE
  have a30 := hA30 hE
  have s32 := hS32 hE
  have a32 := hA32 hE
  have b3 := hB3 hE
  have z3 := hZ3 hE
  have e3 := hE3 hE
  have e5 := hE5 hE
  obtain ⟨L, hL⟩ : ∃ L, L = digL s := ⟨_, rfl⟩
  obtain ⟨fr0, hfr⟩ : ∃ q : Nat, q = if negL s then 1 else 0 := ⟨_, rfl⟩
  have hpos : 0 < s.length := List.length_pos_iff.2 hs0
  have hsL : s.length = L.length + fr0 := by
    subst hL hfr
    cases s with
    | nil => exact absurd rfl hs0
    | cons c r =>
      simp only [negL, digL]
      by_cases h : c = 45 <;> simp [h]
  have hgetL : ∀ q (h : q < L.length), s[q + fr0]? = some L[q] := by
    subst hL hfr
    cases s with
    | nil => exact absurd rfl hs0
    | cons c r =>
      intro q h
      by_cases hc : c = 45
      · have e1 : digL (c :: r) = r := by simp [digL, hc]
        have e2 : negL (c :: r) = true := by simp [negL, hc]
        simp only [e2, if_true, List.getElem?_cons_succ]
        simp only [e1]
        rw [e1] at h
        exact List.getElem?_eq_getElem h
      · have e1 : digL (c :: r) = c :: r := by simp [digL, hc]
        have e2 : negL (c :: r) = false := by simp [negL, hc]
        simp only [e2, Bool.false_eq_true, if_false, Nat.add_zero]
        simp only [e1]
        rw [e1] at h
        exact List.getElem?_eq_getElem h
  have hneg : decide (((s[0]).toNat : Int) = 45) = negL s := by
    cases s with
    | nil => exact absurd rfl hs0
    | cons c r =>
      simp only [List.getElem_cons_zero, negL]
      apply Bool.eq_iff_iff.2
      simp only [decide_eq_true_eq]
      constructor
      · intro h; exact UInt8.toNat_inj.1 (by simpa using (by omega : c.toNat = 45))
      · rintro rfl; rfl
  refine body_ends rfl (by simp [Try.ntmps8]) rfl ?_
  rw [Try.ntmps8]
  refine seq_text ?_
  simp only [RegT, opA_go, opA_when, guardQ_some, guarded_bool, absOp_assign, absOp_move, absOp_bin, absOp_index, absOp_pick, absOp_lenStr h9, absOp_max, absOp_min, int2_int, strLen, intA, fastA, h9, intOf, orSlow_some, binA, strA, ariA, evA_const, evA_tmp, ofV, ofC, Option.getD_some, putA_some, Nat.ble, Nat.reduceAdd, cond_true, lay_nil, lay_cons, bump, F_eq, h_eq, upHp, List.length_cons, List.length_nil, get_put, Nat.reduceEqDiff, if_true, if_false, reduceIte, List.getElem?_toArray, List.getElem?_cons_succ, List.getElem?_cons_zero, Option.bind_some, Option.map_some, beq_iff_eq, reduceCtorEq, Bool.not_true, Bool.not_false, beq_self_eq_true, thenQ_normal, thenQ_ret, inQ_ret, inQ_normal, ends_ret, ends_skip, absOp_lenRows h30, lenA, intRows_length, absOp_indexAddr, absOp_load, idx_ints h30 s3, load_byte a3 s3, orNone_some, absOp_box, absOp_alloc z32, absOp_fieldAddr, absOp_load, fa32_0 hE, fa32_1 hE, loadVarA a4 s4, loadVarA a30 s30, loadV_eq, orElse_some, orNone_some, cellsA, hget_self, hget_hput, numA, List.map_cons, List.map_nil, absOp_build, build32 hE, absOp_storeQ, putA_no, orUps_some, storeV_eq, Nat.reduceLT, List.set_cons_zero, List.set_cons_succ, keys_und, Option.toArray, List.map_toArray, List.append_toArray, List.toList_toArray]
  refine seq_text ?_
  simp only [RegT, opA_go, opA_when, guardQ_some, guarded_bool, absOp_assign, absOp_move, absOp_bin, absOp_index, absOp_pick, absOp_lenStr h9, absOp_max, absOp_min, int2_int, strLen, intA, fastA, h9, intOf, orSlow_some, binA, strA, ariA, evA_const, evA_tmp, ofV, ofC, Option.getD_some, putA_some, Nat.ble, Nat.reduceAdd, cond_true, lay_nil, lay_cons, bump, F_eq, h_eq, upHp, List.length_cons, List.length_nil, get_put, Nat.reduceEqDiff, if_true, if_false, reduceIte, List.getElem?_toArray, List.getElem?_cons_succ, List.getElem?_cons_zero, Option.bind_some, Option.map_some, beq_iff_eq, reduceCtorEq, Bool.not_true, Bool.not_false, beq_self_eq_true, thenQ_normal, thenQ_ret, inQ_ret, inQ_normal, ends_ret, ends_skip, absOp_lenRows h30, lenA, intRows_length, absOp_indexAddr, absOp_load, idx_ints h30 s3, load_byte a3 s3, orNone_some, absOp_box, absOp_alloc z32, absOp_fieldAddr, absOp_load, fa32_0 hE, fa32_1 hE, loadVarA a4 s4, loadVarA a30 s30, loadV_eq, orElse_some, orNone_some, cellsA, hget_self, hget_hput, numA, List.map_cons, List.map_nil, absOp_build, build32 hE, absOp_storeQ, putA_no, orUps_some, storeV_eq, Nat.reduceLT, List.set_cons_zero, List.set_cons_succ, keys_und, Option.toArray, List.map_toArray, List.append_toArray, List.toList_toArray]
  refine seq_text ?_
  simp only [RegT, opA_go, opA_when, guardQ_some, guarded_bool, absOp_assign, absOp_move, absOp_bin, absOp_index, absOp_pick, absOp_lenStr h9, absOp_max, absOp_min, int2_int, strLen, intA, fastA, h9, intOf, orSlow_some, binA, strA, ariA, evA_const, evA_tmp, ofV, ofC, Option.getD_some, putA_some, Nat.ble, Nat.reduceAdd, cond_true, lay_nil, lay_cons, bump, F_eq, h_eq, upHp, List.length_cons, List.length_nil, get_put, Nat.reduceEqDiff, if_true, if_false, reduceIte, List.getElem?_toArray, List.getElem?_cons_succ, List.getElem?_cons_zero, Option.bind_some, Option.map_some, beq_iff_eq, reduceCtorEq, Bool.not_true, Bool.not_false, beq_self_eq_true, thenQ_normal, thenQ_ret, inQ_ret, inQ_normal, ends_ret, ends_skip, absOp_lenRows h30, lenA, intRows_length, absOp_indexAddr, absOp_load, idx_ints h30 s3, load_byte a3 s3, orNone_some, absOp_box, absOp_alloc z32, absOp_fieldAddr, absOp_load, fa32_0 hE, fa32_1 hE, loadVarA a4 s4, loadVarA a30 s30, loadV_eq, orElse_some, orNone_some, cellsA, hget_self, hget_hput, numA, List.map_cons, List.map_nil, absOp_build, build32 hE, absOp_storeQ, putA_no, orUps_some, storeV_eq, Nat.reduceLT, List.set_cons_zero, List.set_cons_succ, keys_und, Option.toArray, List.map_toArray, List.append_toArray, List.toList_toArray]
  refine seq_seq.2 (seq_text ?_)
  simp only [RegT, opA_go, opA_when, guardQ_some, guarded_bool, absOp_assign, absOp_move, absOp_bin, absOp_index, absOp_pick, absOp_lenStr h9, absOp_max, absOp_min, int2_int, strLen, intA, fastA, h9, intOf, orSlow_some, binA, strA, ariA, evA_const, evA_tmp, ofV, ofC, Option.getD_some, putA_some, Nat.ble, Nat.reduceAdd, cond_true, lay_nil, lay_cons, bump, F_eq, h_eq, upHp, List.length_cons, List.length_nil, get_put, Nat.reduceEqDiff, if_true, if_false, reduceIte, List.getElem?_toArray, List.getElem?_cons_succ, List.getElem?_cons_zero, Option.bind_some, Option.map_some, beq_iff_eq, reduceCtorEq, Bool.not_true, Bool.not_false, beq_self_eq_true, thenQ_normal, thenQ_ret, inQ_ret, inQ_normal, ends_ret, ends_skip, absOp_lenRows h30, lenA, intRows_length, absOp_indexAddr, absOp_load, idx_ints h30 s3, load_byte a3 s3, orNone_some, absOp_box, absOp_alloc z32, absOp_fieldAddr, absOp_load, fa32_0 hE, fa32_1 hE, loadVarA a4 s4, loadVarA a30 s30, loadV_eq, orElse_some, orNone_some, cellsA, hget_self, hget_hput, numA, List.map_cons, List.map_nil, absOp_build, build32 hE, absOp_storeQ, putA_no, orUps_some, storeV_eq, Nat.reduceLT, List.set_cons_zero, List.set_cons_succ, keys_und, Option.toArray, List.map_toArray, List.append_toArray, List.toList_toArray, Int.le_refl, Int.toNat_zero, List.getElem?_eq_getElem hpos, hneg]
  obtain ⟨s2, hs2⟩ : ∃ s2, s2 = 0 + room * 0 := ⟨_, rfl⟩
  obtain ⟨s3', hs3⟩ : ∃ s3, s3 = 0 + room * 1 + room + room * 0 := ⟨_, rfl⟩
  refine seq_ifK (t := negL s) (fun st' => st'.fr.get 0 = .s (.str s) ∧ st'.fr.get 2 = .ref 2 s2 0 0 ∧ st'.fr.get 3 = .ref 3 s3' 0 0 ∧ st'.fr.get 4 = .s (.int .i64 (fr0 : Int)) ∧ hget st'.hp 2 = (s2, .var [.s (.bool false), .nsl] false) ∧ hget st'.hp 3 = (s3', .var [.s (.bool (negL s)), .nsl] false)) (by simp only [F_eq, evA_tmp, get_put, Nat.reduceEqDiff, if_true, if_false, reduceIte]) (fun hc => ?_) (fun hc => ?_) ?_
  · rw [hc, if_pos rfl] at hfr
    refine seq_text ?_
    simp only [RegT, opA_go, opA_when, guardQ_some, guarded_bool, absOp_assign, absOp_move, absOp_bin, absOp_index, absOp_pick, absOp_lenStr h9, absOp_max, absOp_min, int2_int, strLen, intA, fastA, h9, intOf, orSlow_some, binA, strA, ariA, evA_const, evA_tmp, ofV, ofC, Option.getD_some, putA_some, Nat.ble, Nat.reduceAdd, cond_true, lay_nil, lay_cons, bump, F_eq, h_eq, upHp, List.length_cons, List.length_nil, get_put, Nat.reduceEqDiff, if_true, if_false, reduceIte, List.getElem?_toArray, List.getElem?_cons_succ, List.getElem?_cons_zero, Option.bind_some, Option.map_some, beq_iff_eq, reduceCtorEq, Bool.not_true, Bool.not_false, beq_self_eq_true, thenQ_normal, thenQ_ret, inQ_ret, inQ_normal, ends_ret, ends_skip, absOp_lenRows h30, lenA, intRows_length, absOp_indexAddr, absOp_load, idx_ints h30 s3, load_byte a3 s3, orNone_some, absOp_box, absOp_alloc z32, absOp_fieldAddr, absOp_load, fa32_0 hE, fa32_1 hE, loadVarA a4 s4, loadVarA a30 s30, loadV_eq, orElse_some, orNone_some, cellsA, hget_self, hget_hput, numA, List.map_cons, List.map_nil, absOp_build, build32 hE, absOp_storeQ, putA_no, orUps_some, storeV_eq, Nat.reduceLT, List.set_cons_zero, List.set_cons_succ, keys_und, Option.toArray, List.map_toArray, List.append_toArray, List.toList_toArray, storeVarA s4 (v := .s (.bool true)) rfl]
    refine region_text.2 ?_
    simp only [RegT, opA_go, opA_when, guardQ_some, guarded_bool, absOp_assign, absOp_move, absOp_bin, absOp_index, absOp_pick, absOp_lenStr h9, absOp_max, absOp_min, int2_int, strLen, intA, fastA, h9, intOf, orSlow_some, binA, strA, ariA, evA_const, evA_tmp, ofV, ofC, Option.getD_some, putA_some, Nat.ble, Nat.reduceAdd, cond_true, lay_nil, lay_cons, bump, F_eq, h_eq, upHp, List.length_cons, List.length_nil, get_put, Nat.reduceEqDiff, if_true, if_false, reduceIte, List.getElem?_toArray, List.getElem?_cons_succ, List.getElem?_cons_zero, Option.bind_some, Option.map_some, beq_iff_eq, reduceCtorEq, Bool.not_true, Bool.not_false, beq_self_eq_true, thenQ_normal, thenQ_ret, inQ_ret, inQ_normal, ends_ret, ends_skip, absOp_lenRows h30, lenA, intRows_length, absOp_indexAddr, absOp_load, idx_ints h30 s3, load_byte a3 s3, orNone_some, absOp_box, absOp_alloc z32, absOp_fieldAddr, absOp_load, fa32_0 hE, fa32_1 hE, loadVarA a4 s4, loadVarA a30 s30, loadV_eq, orElse_some, orNone_some, cellsA, hget_self, hget_hput, numA, List.map_cons, List.map_nil, absOp_build, build32 hE, absOp_storeQ, putA_no, orUps_some, storeV_eq, Nat.reduceLT, List.set_cons_zero, List.set_cons_succ, keys_und, Option.toArray, List.map_toArray, List.append_toArray, List.toList_toArray]
    subst hs2 hs3 hfr
    rw [hc]
    (repeat' apply And.intro) <;> (first | trivial | rfl | assumption)
  · rw [hc] at hfr
    simp only [Bool.false_eq_true, if_false] at hfr
    refine ends_skip.2 ?_
    simp only [RegT, opA_go, opA_when, guardQ_some, guarded_bool, absOp_assign, absOp_move, absOp_bin, absOp_index, absOp_pick, absOp_lenStr h9, absOp_max, absOp_min, int2_int, strLen, intA, fastA, h9, intOf, orSlow_some, binA, strA, ariA, evA_const, evA_tmp, ofV, ofC, Option.getD_some, putA_some, Nat.ble, Nat.reduceAdd, cond_true, lay_nil, lay_cons, bump, F_eq, h_eq, upHp, List.length_cons, List.length_nil, get_put, Nat.reduceEqDiff, if_true, if_false, reduceIte, List.getElem?_toArray, List.getElem?_cons_succ, List.getElem?_cons_zero, Option.bind_some, Option.map_some, beq_iff_eq, reduceCtorEq, Bool.not_true, Bool.not_false, beq_self_eq_true, thenQ_normal, thenQ_ret, inQ_ret, inQ_normal, ends_ret, ends_skip, absOp_lenRows h30, lenA, intRows_length, absOp_indexAddr, absOp_load, idx_ints h30 s3, load_byte a3 s3, orNone_some, absOp_box, absOp_alloc z32, absOp_fieldAddr, absOp_load, fa32_0 hE, fa32_1 hE, loadVarA a4 s4, loadVarA a30 s30, loadV_eq, orElse_some, orNone_some, cellsA, hget_self, hget_hput, numA, List.map_cons, List.map_nil, absOp_build, build32 hE, absOp_storeQ, putA_no, orUps_some, storeV_eq, Nat.reduceLT, List.set_cons_zero, List.set_cons_succ, keys_und, Option.toArray, List.map_toArray, List.append_toArray, List.toList_toArray]
    subst hs2 hs3 hfr
    rw [hc]
    (repeat' apply And.intro) <;> (first | trivial | rfl | assumption)
  clear hs2 hs3
  rintro ⟨fr1, hp1, nx1⟩ ⟨g0, g2, g3, g4, gh2, gh3⟩
  simp only at g0 g2 g3 g4 gh2 gh3
  have hw0 : IntKind.i64.wrap ((s.length : Int) - 1) = (s.length : Int) - 1 := wrap_fits (by omega) (by omega)
  refine seq_seq.2 (seq_text ?_)
  simp only [RegT, opA_go, opA_when, guardQ_some, guarded_bool, absOp_assign, absOp_move, absOp_bin, absOp_index, absOp_pick, absOp_lenStr h9, absOp_max, absOp_min, int2_int, strLen, intA, fastA, h9, intOf, orSlow_some, binA, strA, ariA, evA_const, evA_tmp, ofV, ofC, Option.getD_some, putA_some, Nat.ble, Nat.reduceAdd, cond_true, lay_nil, lay_cons, bump, F_eq, h_eq, upHp, List.length_cons, List.length_nil, get_put, Nat.reduceEqDiff, if_true, if_false, reduceIte, List.getElem?_toArray, List.getElem?_cons_succ, List.getElem?_cons_zero, Option.bind_some, Option.map_some, beq_iff_eq, reduceCtorEq, Bool.not_true, Bool.not_false, beq_self_eq_true, thenQ_normal, thenQ_ret, inQ_ret, inQ_normal, ends_ret, ends_skip, absOp_lenRows h30, lenA, intRows_length, absOp_indexAddr, absOp_load, idx_ints h30 s3, load_byte a3 s3, orNone_some, absOp_box, absOp_alloc z32, absOp_fieldAddr, absOp_load, fa32_0 hE, fa32_1 hE, loadVarA a4 s4, loadVarA a30 s30, loadV_eq, orElse_some, orNone_some, cellsA, hget_self, hget_hput, numA, List.map_cons, List.map_nil, absOp_build, build32 hE, absOp_storeQ, putA_no, orUps_some, storeV_eq, Nat.reduceLT, List.set_cons_zero, List.set_cons_succ, keys_und, Option.toArray, List.map_toArray, List.append_toArray, List.toList_toArray, g0, hw0]
  refine ends_seq.2 (ends_block.2 ?_)
  refine ends_loop (fun k st => ∃ j v ss, k = L.length - j ∧ j ≤ L.length ∧ st.fr.get 0 = .s (.str s) ∧ st.fr.get 2 = .ref 2 s2 0 0 ∧ st.fr.get 3 = .ref 3 ss 0 0 ∧ st.fr.get 4 = .s (.int .i64 (fr0 : Int)) ∧ st.fr.get 5 = .s (.int .i64 ((s.length : Int) - 1 - (j : Int))) ∧ hget st.hp 2 = (s2, .var [.s (.bool false), .nsl] false) ∧ hget st.hp 3 = (ss, .var [.s (.bool (negL s)), v] false) ∧ Grown st.hp 26 v (((L.reverse.take j).map dg).map digS)) (m := L.length) (by omega) ⟨0, .nsl, s3', by simp, by omega, by simp only [get_put, Nat.reduceEqDiff, if_true, if_false, reduceIte, g0], by simp only [get_put, Nat.reduceEqDiff, if_true, if_false, reduceIte, g2], by simp only [get_put, Nat.reduceEqDiff, if_true, if_false, reduceIte, g3], by simp only [get_put, Nat.reduceEqDiff, if_true, if_false, reduceIte, g4], by simp only [get_put, Nat.reduceEqDiff, if_true, if_false, reduceIte]; simp, gh2, gh3, Grown.nil⟩ ?_
  clear g0 g2 g3 g4 gh2 gh3
  rintro k ⟨fr2, hp2, nx2⟩ ⟨j, v, ss, rfl, hj, g0, g2, g3, g4, g5, gh2, gh3, gg⟩
  simp only at g0 g2 g3 g4 g5 gh2 gh3 gg
  have d0 : decide ((fr0 : Int) ≤ (s.length : Int) - 1 - (j : Int)) = decide (j < L.length) := by
    apply Bool.eq_iff_iff.2; simp only [decide_eq_true_eq]; omega
  refine seq_seq.2 (seq_text ?_)
  simp only [RegT, opA_go, opA_when, guardQ_some, guarded_bool, absOp_assign, absOp_move, absOp_bin, absOp_index, absOp_pick, absOp_lenStr h9, absOp_max, absOp_min, int2_int, strLen, intA, fastA, h9, intOf, orSlow_some, binA, strA, ariA, evA_const, evA_tmp, ofV, ofC, Option.getD_some, putA_some, Nat.ble, Nat.reduceAdd, cond_true, lay_nil, lay_cons, bump, F_eq, h_eq, upHp, List.length_cons, List.length_nil, get_put, Nat.reduceEqDiff, if_true, if_false, reduceIte, List.getElem?_toArray, List.getElem?_cons_succ, List.getElem?_cons_zero, Option.bind_some, Option.map_some, beq_iff_eq, reduceCtorEq, Bool.not_true, Bool.not_false, beq_self_eq_true, thenQ_normal, thenQ_ret, inQ_ret, inQ_normal, ends_ret, ends_skip, absOp_lenRows h30, lenA, intRows_length, absOp_indexAddr, absOp_load, idx_ints h30 s3, load_byte a3 s3, orNone_some, absOp_box, absOp_alloc z32, absOp_fieldAddr, absOp_load, fa32_0 hE, fa32_1 hE, loadVarA a4 s4, loadVarA a30 s30, loadV_eq, orElse_some, orNone_some, cellsA, hget_self, hget_hput, numA, List.map_cons, List.map_nil, absOp_build, build32 hE, absOp_storeQ, putA_no, orUps_some, storeV_eq, Nat.reduceLT, List.set_cons_zero, List.set_cons_succ, keys_und, Option.toArray, List.map_toArray, List.append_toArray, List.toList_toArray, g4, g5, d0]
  refine seq_if (t := decide (j < L.length)) (by simp only [F_eq, evA_tmp, get_put, Nat.reduceEqDiff, if_true, if_false, reduceIte]) (fun hc => ?_) (fun hc => ?_)
  · have hc := of_decide_eq_true hc
    rw [ends_skip, thenQ_normal]
    obtain ⟨q, hq⟩ : ∃ q, q = s.length - 1 - j := ⟨_, rfl⟩
    obtain ⟨c, hce⟩ : ∃ c, c = L.reverse[j]'(by simpa using hc) := ⟨_, rfl⟩
    have hqs : q < s.length := by omega
    have hsq : s[q]? = some c := by
      have h2 := hgetL (L.length - 1 - j) (by omega)
      rw [show L.length - 1 - j + fr0 = q by omega] at h2
      rw [h2, hce, List.getElem_reverse]
    have e5' : (s.length : Int) - 1 - (j : Int) = (q : Int) := by omega
    rw [e5'] at g5
    have hdd : (c - 48).toNat < 256 := (c - 48).toNat_lt
    have hcv : IntKind.i64.wrap ((((c - 48).toNat : Nat) : Int)) = ((dg c : Nat) : Int) := wrap_small (by omega)
    have hnew : ((L.reverse.take (j + 1)).map dg).map digS = ((L.reverse.take j).map dg).map digS ++ [.int .i64 ((dg c : Nat) : Int)] := by
      rw [take_more (by simpa using hc), List.map_append, List.map_append, ← hce]; rfl
    have hlen : (((L.reverse.take j).map dg).map digS).length = j := by simp; omega
    refine seq_K (fun st' => ∃ v ss, st'.fr.get 0 = .s (.str s) ∧ st'.fr.get 2 = .ref 2 s2 0 0 ∧ st'.fr.get 3 = .ref 3 ss 0 0 ∧ st'.fr.get 4 = .s (.int .i64 (fr0 : Int)) ∧ st'.fr.get 5 = .s (.int .i64 (q : Int)) ∧ hget st'.hp 2 = (s2, .var [.s (.bool false), .nsl] false) ∧ hget st'.hp 3 = (ss, .var [.s (.bool (negL s)), v] false) ∧ Grown st'.hp 26 v (((L.reverse.take (j + 1)).map dg).map digS)) (ends_block.2 ?_) ?_
    · rw [hnew]
      generalize ((L.reverse.take j).map dg).map digS = l at *
      rcases gg with ⟨rfl, rfl⟩ | ⟨sg, rfl, gh⟩
      · refine region_feet [⟨[3], []⟩, ⟨[3], []⟩, ⟨[], []⟩, ⟨[], []⟩, ⟨[], []⟩, ⟨[], []⟩, ⟨[], []⟩, ⟨[], [25]⟩, ⟨[25], [26]⟩, ⟨[3], []⟩, ⟨[3, 26], [3]⟩] (by kernel_rfl) ?_
        simp only [RegT, opA_go, opA_when, guardQ_some, guarded_bool, absOp_assign, absOp_move, absOp_bin, absOp_index, absOp_pick, absOp_lenStr h9, absOp_max, absOp_min, int2_int, strLen, intA, fastA, h9, intOf, orSlow_some, binA, strA, ariA, evA_const, evA_tmp, ofV, ofC, Option.getD_some, putA_some, Nat.ble, Nat.reduceAdd, cond_true, lay_nil, lay_cons, bump, F_eq, h_eq, upHp, List.length_cons, List.length_nil, get_put, Nat.reduceEqDiff, if_true, if_false, reduceIte, List.getElem?_toArray, List.getElem?_cons_succ, List.getElem?_cons_zero, Option.bind_some, Option.map_some, beq_iff_eq, reduceCtorEq, Bool.not_true, Bool.not_false, beq_self_eq_true, thenQ_normal, thenQ_ret, inQ_ret, inQ_normal, ends_ret, ends_skip, absOp_lenRows h30, lenA, intRows_length, absOp_indexAddr, absOp_load, idx_ints h30 s3, load_byte a3 s3, orNone_some, absOp_box, absOp_alloc z32, absOp_fieldAddr, absOp_load, fa32_0 hE, fa32_1 hE, loadVarA a4 s4, loadVarA a30 s30, loadV_eq, orElse_some, orNone_some, cellsA, hget_self, hget_hput, numA, List.map_cons, List.map_nil, absOp_build, build32 hE, absOp_storeQ, putA_no, orUps_some, storeV_eq, Nat.reduceLT, List.set_cons_zero, List.set_cons_succ, keys_und, Option.toArray, List.map_toArray, List.append_toArray, List.toList_toArray, RegC, RegF, reach_one, keysB, opKeys_of, Op.operands, Call.operands, List.flatMap_cons, List.flatMap_nil, List.append_nil, List.nil_append, List.cons_append, keysA, keysAs, keys_func, only_eq, reach_nil, List.contains_cons, List.contains_nil, Bool.or_false, Bool.true_or, beq_self_eq_true, List.map_cons, List.map_nil, true_and, Array.toList_append, g0, g3, g5, gh3, Int.natCast_nonneg, Int.toNat_natCast, hsq, u8_sub48, absOp_convInt (n := (((c - 48).toNat : Nat) : Int)) e5 e3, hcv, absOp_built (z := .int .i64 0) (v := .int .i64 ((dg c : Nat) : Int)) h30 s3 z3 rfl]
        rw [absOp_append (r := (.lsl 26 (nx2 + room * 3 + room + room * 8) 0 1 none, [(26, (nx2 + room * 3 + room + room * 8, .arr 1 (cellRows [.int .i64 ((dg c : Nat) : Int)]) 0))])) (by
          simp only [F_eq, evA_tmp, get_put, Nat.reduceEqDiff, if_true, if_false, reduceIte]
          exact app_nil (b := 8) (z := .int .i64 0) (xs := [.int .i64 ((dg c : Nat) : Int)]) h30 h30 s3 b3 z3 (appRows_lsl (fz := 0) (by simp [only_eq, hget_hput]) rfl) (by simp) (by simp) (by simp))]
        simp only [RegT, opA_go, opA_when, guardQ_some, guarded_bool, absOp_assign, absOp_move, absOp_bin, absOp_index, absOp_pick, absOp_lenStr h9, absOp_max, absOp_min, int2_int, strLen, intA, fastA, h9, intOf, orSlow_some, binA, strA, ariA, evA_const, evA_tmp, ofV, ofC, Option.getD_some, putA_some, Nat.ble, Nat.reduceAdd, cond_true, lay_nil, lay_cons, bump, F_eq, h_eq, upHp, List.length_cons, List.length_nil, get_put, Nat.reduceEqDiff, if_true, if_false, reduceIte, List.getElem?_toArray, List.getElem?_cons_succ, List.getElem?_cons_zero, Option.bind_some, Option.map_some, beq_iff_eq, reduceCtorEq, Bool.not_true, Bool.not_false, beq_self_eq_true, thenQ_normal, thenQ_ret, inQ_ret, inQ_normal, ends_ret, ends_skip, absOp_lenRows h30, lenA, intRows_length, absOp_indexAddr, absOp_load, idx_ints h30 s3, load_byte a3 s3, orNone_some, absOp_box, absOp_alloc z32, absOp_fieldAddr, absOp_load, fa32_0 hE, fa32_1 hE, loadVarA a4 s4, loadVarA a30 s30, loadV_eq, orElse_some, orNone_some, cellsA, hget_self, hget_hput, numA, List.map_cons, List.map_nil, absOp_build, build32 hE, absOp_storeQ, putA_no, orUps_some, storeV_eq, Nat.reduceLT, List.set_cons_zero, List.set_cons_succ, keys_und, Option.toArray, List.map_toArray, List.append_toArray, List.toList_toArray, RegC, RegF, reach_one, keysB, opKeys_of, Op.operands, Call.operands, List.flatMap_cons, List.flatMap_nil, List.append_nil, List.nil_append, List.cons_append, keysA, keysAs, keys_func, only_eq, reach_nil, List.contains_cons, List.contains_nil, Bool.or_false, Bool.true_or, beq_self_eq_true, List.map_cons, List.map_nil, true_and, Array.toList_append, g0, g3, gh3, storeVarA s30 (v := .lsl 26 (nx2 + room * 3 + room + room * 8) 0 1 none) rfl, reach_two, ne_eq, not_false_eq_true, Bool.or_true, List.contains_cons, beq_iff_eq]
        refine ⟨_, ss, g2, rfl, g4, gh2, rfl, .inr ⟨_, rfl, by simp [hget_hput]⟩⟩
      · have hk3 : keysB (hget hp2 3).2 = [26] := by rw [gh3]; rfl
        have hk26 : keysB (hget hp2 26).2 = [] := by rw [gh]; rfl
        refine region_feet [⟨[3, 26], []⟩, ⟨[3, 26], []⟩, ⟨[], []⟩, ⟨[], []⟩, ⟨[], []⟩, ⟨[], []⟩, ⟨[], []⟩, ⟨[], [25]⟩, ⟨[26, 25], [26]⟩, ⟨[3, 26], []⟩, ⟨[3, 26], [3]⟩] (by kernel_rfl) ?_
        simp only [RegT, opA_go, opA_when, guardQ_some, guarded_bool, absOp_assign, absOp_move, absOp_bin, absOp_index, absOp_pick, absOp_lenStr h9, absOp_max, absOp_min, int2_int, strLen, intA, fastA, h9, intOf, orSlow_some, binA, strA, ariA, evA_const, evA_tmp, ofV, ofC, Option.getD_some, putA_some, Nat.ble, Nat.reduceAdd, cond_true, lay_nil, lay_cons, bump, F_eq, h_eq, upHp, List.length_cons, List.length_nil, get_put, Nat.reduceEqDiff, if_true, if_false, reduceIte, List.getElem?_toArray, List.getElem?_cons_succ, List.getElem?_cons_zero, Option.bind_some, Option.map_some, beq_iff_eq, reduceCtorEq, Bool.not_true, Bool.not_false, beq_self_eq_true, thenQ_normal, thenQ_ret, inQ_ret, inQ_normal, ends_ret, ends_skip, absOp_lenRows h30, lenA, intRows_length, absOp_indexAddr, absOp_load, idx_ints h30 s3, load_byte a3 s3, orNone_some, absOp_box, absOp_alloc z32, absOp_fieldAddr, absOp_load, fa32_0 hE, fa32_1 hE, loadVarA a4 s4, loadVarA a30 s30, loadV_eq, orElse_some, orNone_some, cellsA, hget_self, hget_hput, numA, List.map_cons, List.map_nil, absOp_build, build32 hE, absOp_storeQ, putA_no, orUps_some, storeV_eq, Nat.reduceLT, List.set_cons_zero, List.set_cons_succ, keys_und, Option.toArray, List.map_toArray, List.append_toArray, List.toList_toArray, RegC, RegF, reach_one, keysB, opKeys_of, Op.operands, Call.operands, List.flatMap_cons, List.flatMap_nil, List.append_nil, List.nil_append, List.cons_append, keysA, keysAs, keys_func, only_eq, reach_nil, List.contains_cons, List.contains_nil, Bool.or_false, Bool.true_or, beq_self_eq_true, List.map_cons, List.map_nil, true_and, Array.toList_append, g0, g3, g5, gh3, gh, reach_link (a := 3) (b := 26), hk3, hk26, Int.natCast_nonneg, Int.toNat_natCast, hsq, u8_sub48, absOp_convInt (n := (((c - 48).toNat : Nat) : Int)) e5 e3, hcv, absOp_built (z := .int .i64 0) (v := .int .i64 ((dg c : Nat) : Int)) h30 s3 z3 rfl, reach_two, ne_eq, not_false_eq_true, Bool.or_true, beq_iff_eq]
        rw [absOp_append (r := (.lsl 26 (nx2 + room * 3 + room + room * 8) 0 (l.length + 1) none, [(26, (nx2 + room * 3 + room + room * 8, .arr 1 (cellRows (l ++ [.int .i64 ((dg c : Nat) : Int)])) 0))])) (by
          simp only [F_eq, evA_tmp, get_put, Nat.reduceEqDiff, if_true, if_false, reduceIte]
          exact app_own (b := 8) (z := .int .i64 0) (xs := [.int .i64 ((dg c : Nat) : Int)]) (l := l) h30 h30 s3 b3 z3 (appRows_lsl (fz := 0) (by simp [only_eq, hget_hput]) rfl) (by simp) (by simp [only_eq, hget_hput, gh]) rfl (by simp; omega) (by simp; omega))]
        simp only [RegT, opA_go, opA_when, guardQ_some, guarded_bool, absOp_assign, absOp_move, absOp_bin, absOp_index, absOp_pick, absOp_lenStr h9, absOp_max, absOp_min, int2_int, strLen, intA, fastA, h9, intOf, orSlow_some, binA, strA, ariA, evA_const, evA_tmp, ofV, ofC, Option.getD_some, putA_some, Nat.ble, Nat.reduceAdd, cond_true, lay_nil, lay_cons, bump, F_eq, h_eq, upHp, List.length_cons, List.length_nil, get_put, Nat.reduceEqDiff, if_true, if_false, reduceIte, List.getElem?_toArray, List.getElem?_cons_succ, List.getElem?_cons_zero, Option.bind_some, Option.map_some, beq_iff_eq, reduceCtorEq, Bool.not_true, Bool.not_false, beq_self_eq_true, thenQ_normal, thenQ_ret, inQ_ret, inQ_normal, ends_ret, ends_skip, absOp_lenRows h30, lenA, intRows_length, absOp_indexAddr, absOp_load, idx_ints h30 s3, load_byte a3 s3, orNone_some, absOp_box, absOp_alloc z32, absOp_fieldAddr, absOp_load, fa32_0 hE, fa32_1 hE, loadVarA a4 s4, loadVarA a30 s30, loadV_eq, orElse_some, orNone_some, cellsA, hget_self, hget_hput, numA, List.map_cons, List.map_nil, absOp_build, build32 hE, absOp_storeQ, putA_no, orUps_some, storeV_eq, Nat.reduceLT, List.set_cons_zero, List.set_cons_succ, keys_und, Option.toArray, List.map_toArray, List.append_toArray, List.toList_toArray, RegC, RegF, reach_one, keysB, opKeys_of, Op.operands, Call.operands, List.flatMap_cons, List.flatMap_nil, List.append_nil, List.nil_append, List.cons_append, keysA, keysAs, keys_func, only_eq, reach_nil, List.contains_cons, List.contains_nil, Bool.or_false, Bool.true_or, beq_self_eq_true, List.map_cons, List.map_nil, true_and, Array.toList_append, g0, g3, gh3, gh, storeVarA s30 (v := .lsl 26 (nx2 + room * 3 + room + room * 8) 0 (l.length + 1) none) rfl, reach_two, reach_link (a := 3) (b := 26), reach_linked, ne_eq, not_false_eq_true, Bool.or_true, beq_iff_eq]
        refine ⟨_, ss, g2, rfl, g4, gh2, rfl, .inr ⟨nx2 + room * 3 + room + room * 8, by simp, by simp [hget_hput]⟩⟩
    · rintro ⟨fr3, hp3, nx3⟩ ⟨v3, ss3, m0, m2, m3, m4, m5, mh2, mh3, mg⟩
      simp only at m0 m2 m3 m4 m5 mh2 mh3 mg
      have hw : IntKind.i64.wrap ((q : Int) - 1) = (s.length : Int) - 1 - ((j + 1 : Nat) : Int) := by rw [wrap_fits] <;> omega
      refine region_text.2 ?_
      simp only [RegT, opA_go, opA_when, guardQ_some, guarded_bool, absOp_assign, absOp_move, absOp_bin, absOp_index, absOp_pick, absOp_lenStr h9, absOp_max, absOp_min, int2_int, strLen, intA, fastA, h9, intOf, orSlow_some, binA, strA, ariA, evA_const, evA_tmp, ofV, ofC, Option.getD_some, putA_some, Nat.ble, Nat.reduceAdd, cond_true, lay_nil, lay_cons, bump, F_eq, h_eq, upHp, List.length_cons, List.length_nil, get_put, Nat.reduceEqDiff, if_true, if_false, reduceIte, List.getElem?_toArray, List.getElem?_cons_succ, List.getElem?_cons_zero, Option.bind_some, Option.map_some, beq_iff_eq, reduceCtorEq, Bool.not_true, Bool.not_false, beq_self_eq_true, thenQ_normal, thenQ_ret, inQ_ret, inQ_normal, ends_ret, ends_skip, absOp_lenRows h30, lenA, intRows_length, absOp_indexAddr, absOp_load, idx_ints h30 s3, load_byte a3 s3, orNone_some, m5, hw]
      exact ⟨L.length - (j + 1), by omega, j + 1, v3, ss3, rfl, by omega, m0, m2, m3, m4, (by first | trivial | rfl), mh2, mh3, mg⟩
  · have hc := of_decide_eq_false hc
    rw [ends_exit, thenQ_exit, thenQ_exit]
    simp only [inQ_exit, if_true, reduceIte, thenQ_normal]
    have hall : ((L.reverse.take j).map dg) = readD s := by
      rw [List.take_of_length_le (by simp; omega), hL]; rfl
    rw [hall] at gg
    have hlr : (readD s).length < 4398046511104 := by simp [readD, ← hL]; omega
    rcases gg with ⟨h1, rfl⟩ | ⟨sg, rfl, gh⟩
    · have h2 : readD s = [] := by simpa using h1
      refine seq_text ?_
      simp only [RegT, opA_go, opA_when, guardQ_some, guarded_bool, absOp_assign, absOp_move, absOp_bin, absOp_index, absOp_pick, absOp_lenStr h9, absOp_max, absOp_min, int2_int, strLen, intA, fastA, h9, intOf, orSlow_some, binA, strA, ariA, evA_const, evA_tmp, ofV, ofC, Option.getD_some, putA_some, Nat.ble, Nat.reduceAdd, cond_true, lay_nil, lay_cons, bump, F_eq, h_eq, upHp, List.length_cons, List.length_nil, get_put, Nat.reduceEqDiff, if_true, if_false, reduceIte, List.getElem?_toArray, List.getElem?_cons_succ, List.getElem?_cons_zero, Option.bind_some, Option.map_some, beq_iff_eq, reduceCtorEq, Bool.not_true, Bool.not_false, beq_self_eq_true, thenQ_normal, thenQ_ret, inQ_ret, inQ_normal, ends_ret, ends_skip, absOp_lenRows h30, lenA, intRows_length, absOp_indexAddr, absOp_load, idx_ints h30 s3, load_byte a3 s3, orNone_some, absOp_box, absOp_alloc z32, absOp_fieldAddr, absOp_load, fa32_0 hE, fa32_1 hE, loadVarA a4 s4, loadVarA a30 s30, loadV_eq, orElse_some, orNone_some, cellsA, hget_self, hget_hput, numA, List.map_cons, List.map_nil, absOp_build, build32 hE, absOp_storeQ, putA_no, orUps_some, storeV_eq, Nat.reduceLT, List.set_cons_zero, List.set_cons_succ, keys_und, Option.toArray, List.map_toArray, List.append_toArray, List.toList_toArray, g2, g3, loadPair (k := 3) (s := ss) (x := .s (.bool (negL s))) (y := .nsl) (fz := false) a32 s32, gh3]
      rw [absOp_calls (f := 23) (ags := [numA (negL s) (readD s)]) (fz := []) (r := trimA (negL s) (readD s)) rfl (by rw [hE]; unfold bodied; rw [Try.func23]; rfl) T.lend23 (by
        simp only [List.map_cons, List.map_nil]
        simp only [F_eq, evA_tmp, get_put, Nat.reduceEqDiff, if_true, if_false, reduceIte]
        rw [h2]; exact seal_pair_nil) (T.trim _ _ hlr)]
      simp only [frzUps, frzB, gh3, upH, trimA, numA, renA, renAs]
      simp only [RegT, opA_go, opA_when, guardQ_some, guarded_bool, absOp_assign, absOp_move, absOp_bin, absOp_index, absOp_pick, absOp_lenStr h9, absOp_max, absOp_min, int2_int, strLen, intA, fastA, h9, intOf, orSlow_some, binA, strA, ariA, evA_const, evA_tmp, ofV, ofC, Option.getD_some, putA_some, Nat.ble, Nat.reduceAdd, cond_true, lay_nil, lay_cons, bump, F_eq, h_eq, upHp, List.length_cons, List.length_nil, get_put, Nat.reduceEqDiff, if_true, if_false, reduceIte, List.getElem?_toArray, List.getElem?_cons_succ, List.getElem?_cons_zero, Option.bind_some, Option.map_some, beq_iff_eq, reduceCtorEq, Bool.not_true, Bool.not_false, beq_self_eq_true, thenQ_normal, thenQ_ret, inQ_ret, inQ_normal, ends_ret, ends_skip, absOp_lenRows h30, lenA, intRows_length, absOp_indexAddr, absOp_load, idx_ints h30 s3, load_byte a3 s3, orNone_some, absOp_box, absOp_alloc z32, absOp_fieldAddr, absOp_load, fa32_0 hE, fa32_1 hE, loadVarA a4 s4, loadVarA a30 s30, loadV_eq, orElse_some, orNone_some, cellsA, hget_self, hget_hput, numA, List.map_cons, List.map_nil, absOp_build, build32 hE, absOp_storeQ, putA_no, orUps_some, storeV_eq, Nat.reduceLT, List.set_cons_zero, List.set_cons_succ, keys_und, Option.toArray, List.map_toArray, List.append_toArray, List.toList_toArray, g2, storePair (k := 2) (s := s2) (x := .s (.bool false)) (y := .nsl) s32, gh2]
      refine ⟨.inr trivial, ?_⟩
      exact finish_pair (t := 2) (k := 2) (s := s2) rfl hraw a32 s32 (by simp only [get_put, Nat.reduceEqDiff, if_true, if_false, reduceIte, g2]) hget_self
    · refine seq_text ?_
      simp only [RegT, opA_go, opA_when, guardQ_some, guarded_bool, absOp_assign, absOp_move, absOp_bin, absOp_index, absOp_pick, absOp_lenStr h9, absOp_max, absOp_min, int2_int, strLen, intA, fastA, h9, intOf, orSlow_some, binA, strA, ariA, evA_const, evA_tmp, ofV, ofC, Option.getD_some, putA_some, Nat.ble, Nat.reduceAdd, cond_true, lay_nil, lay_cons, bump, F_eq, h_eq, upHp, List.length_cons, List.length_nil, get_put, Nat.reduceEqDiff, if_true, if_false, reduceIte, List.getElem?_toArray, List.getElem?_cons_succ, List.getElem?_cons_zero, Option.bind_some, Option.map_some, beq_iff_eq, reduceCtorEq, Bool.not_true, Bool.not_false, beq_self_eq_true, thenQ_normal, thenQ_ret, inQ_ret, inQ_normal, ends_ret, ends_skip, absOp_lenRows h30, lenA, intRows_length, absOp_indexAddr, absOp_load, idx_ints h30 s3, load_byte a3 s3, orNone_some, absOp_box, absOp_alloc z32, absOp_fieldAddr, absOp_load, fa32_0 hE, fa32_1 hE, loadVarA a4 s4, loadVarA a30 s30, loadV_eq, orElse_some, orNone_some, cellsA, hget_self, hget_hput, numA, List.map_cons, List.map_nil, absOp_build, build32 hE, absOp_storeQ, putA_no, orUps_some, storeV_eq, Nat.reduceLT, List.set_cons_zero, List.set_cons_succ, keys_und, Option.toArray, List.map_toArray, List.append_toArray, List.toList_toArray, g2, g3, loadPair (k := 3) (s := ss) (x := .s (.bool (negL s))) (y := .lsl 26 sg 0 ((readD s).map digS).length none) (fz := false) a32 s32, gh3]
      rw [absOp_calls (f := 23) (ags := [numA (negL s) (readD s)]) (fz := [(26, ((readD s).map digS).length)]) (r := trimA (negL s) (readD s)) rfl (by rw [hE]; unfold bodied; rw [Try.func23]; rfl) T.lend23 (by
        simp only [List.map_cons, List.map_nil]
        simp only [F_eq, evA_tmp, get_put, Nat.reduceEqDiff, if_true, if_false, reduceIte]
        exact seal_pair_own (rows := intRows (readD s)) gh (by simp [intRows, cellRows])) (T.trim _ _ hlr)]
      simp only [frzUps, frzB, gh3, gh, upH, trimA, numA, renA, renAs]
      simp only [RegT, opA_go, opA_when, guardQ_some, guarded_bool, absOp_assign, absOp_move, absOp_bin, absOp_index, absOp_pick, absOp_lenStr h9, absOp_max, absOp_min, int2_int, strLen, intA, fastA, h9, intOf, orSlow_some, binA, strA, ariA, evA_const, evA_tmp, ofV, ofC, Option.getD_some, putA_some, Nat.ble, Nat.reduceAdd, cond_true, lay_nil, lay_cons, bump, F_eq, h_eq, upHp, List.length_cons, List.length_nil, get_put, Nat.reduceEqDiff, if_true, if_false, reduceIte, List.getElem?_toArray, List.getElem?_cons_succ, List.getElem?_cons_zero, Option.bind_some, Option.map_some, beq_iff_eq, reduceCtorEq, Bool.not_true, Bool.not_false, beq_self_eq_true, thenQ_normal, thenQ_ret, inQ_ret, inQ_normal, ends_ret, ends_skip, absOp_lenRows h30, lenA, intRows_length, absOp_indexAddr, absOp_load, idx_ints h30 s3, load_byte a3 s3, orNone_some, absOp_box, absOp_alloc z32, absOp_fieldAddr, absOp_load, fa32_0 hE, fa32_1 hE, loadVarA a4 s4, loadVarA a30 s30, loadV_eq, orElse_some, orNone_some, cellsA, hget_self, hget_hput, numA, List.map_cons, List.map_nil, absOp_build, build32 hE, absOp_storeQ, putA_no, orUps_some, storeV_eq, Nat.reduceLT, List.set_cons_zero, List.set_cons_succ, keys_und, Option.toArray, List.map_toArray, List.append_toArray, List.toList_toArray, g2, storePair (k := 2) (s := s2) (x := .s (.bool false)) (y := .nsl) s32, gh2]
      refine ⟨.inr trivial, ?_⟩
      exact finish_pair (t := 2) (k := 2) (s := s2) rfl hraw a32 s32 (by simp only [get_put, Nat.reduceEqDiff, if_true, if_false, reduceIte, g2]) hget_self
end Go.Proofs.Ytbfdokfelolmbaa.TensW
end

section
open Go.Proofs.Ytbfdokfelolmbaa.Vai
namespace Go.Proofs.Ytbfdokfelolmbaa.TensW
set_option maxRecDepth 10000
set_option linter.unusedSimpArgs false

theorem absOp_neqBool {E : Env} (hE : E.P = Try.prog) {ρ : Operand → AV} {h : HR} {k s : Nat} {d : Option Tmp} {ty t' : TypeId} {pos : String} {af : Array Edge} {g : Option (Nat × Bool)} {x y : Operand} {a b : Bool} (hx : ρ x = .s (.bool a)) (hy : ρ y = .s (.bool b)) :
    slowOp E ρ h k s ⟨d, .binOp .neq 4 x y t', ty, pos, af, g⟩ = some (.s (.bool (!(a == b))), []) := by
  have he : eqNilA E.P .neq 4 (.s (.bool a)) (.s (.bool b)) = none := by
    unfold eqNilA
    rw [hE]
    cases Try.prog.underlying 4 with
    | none => rfl
    | some d => cases d <;> rfl
  unfold slowOp
  simp only [hx, hy, he]
  unfold flatA
  rw [hE]
  simp only [Op.operands, List.all_cons, List.all_nil, hx, hy, toV, toS, Option.isSome_some, Bool.and_self, if_true, execOp, Option.getD_some]
  simp only [eqGuard, Go.binOp]
  cases a <;> cases b <;> rfl

theorem flat_neg {P : Program} {ρ : Operand → AV} {d : Option Tmp} {ty : TypeId} {pos : String} {af : Array Edge} {g : Option (Nat × Bool)} {x : Operand} {k : IntKind} {t : TypeId} {n : Int} (hx : ρ x = .s (.int k n)) :
    flatA P ρ ⟨d, .unOp .neg t x, ty, pos, af, g⟩ = some (.s (.int k (k.wrap (0 - n)))) := by
  unfold flatA
  simp only [Op.operands, List.all_cons, List.all_nil, hx, toV, toS, Option.isSome_some, Bool.and_self, if_true, execOp, Option.getD_some]
  rfl
theorem absOp_negInt {E : Env} {ρ : Operand → AV} {h : HR} {k s : Nat} {d : Option Tmp} {ty : TypeId} {pos : String} {af : Array Edge} {g : Option (Nat × Bool)} {x : Operand} {kk : IntKind} {t : TypeId} {n : Int} (hx : ρ x = .s (.int kk n)) :
    absOp E ρ h k s ⟨d, .unOp .neg t x, ty, pos, af, g⟩ = some (.s (.int kk (kk.wrap (0 - n))), []) := by
  have hf : fastA E.P ρ (.unOp .neg t x) = none := rfl
  have : absOp E ρ h k s ⟨d, .unOp .neg t x, ty, pos, af, g⟩ = slowOp E ρ h k s ⟨d, .unOp .neg t x, ty, pos, af, g⟩ := by
    unfold absOp
    simp only [hf]
  rw [this]
  unfold slowOp
  simp only [flat_neg hx]
  rfl

structure Refs (E : Env) : Prop where
  size : ∀ a b, a.length < 4398046511104 ∧ b.length < 4398046511104 ∧ Tens a ∧ Tens b → E.call 24 [.s (.ssl (intRows a)), .s (.ssl (intRows b))] [] = some (.s (.int .i64 (sizeN a b)), [])
  sum : ∀ a b, a.length < 4398046511104 ∧ b.length < 4398046511104 ∧ Tens a ∧ Tens b → E.call 25 [.s (.ssl (intRows a)), .s (.ssl (intRows b))] [] = some (.s (.ssl (intRows (sumOut a b))), [])
  rest : ∀ a b, a.length < 4398046511104 ∧ b.length < 4398046511104 ∧ Tens a ∧ Tens b → E.call 26 [.s (.ssl (intRows a)), .s (.ssl (intRows b))] [] = some (.s (.ssl (intRows (restOut a b))), [])
  lend24 : E.lend 24 = false
  lend25 : E.lend 25 = false
  lend26 : E.lend 26 = false

theorem op24 {E : Env} (hE : E.P = Try.prog) (D : Refs E) {F : Nat → AV} {h : HR} {k s : Nat} {d : Option Tmp} {ty : TypeId} {pos : String} {af : Array Edge} {x y : Operand} {ts : Array TypeId} {gd : Option (Nat × Bool)} {a b : List Nat} (hab : a.length < 4398046511104 ∧ b.length < 4398046511104 ∧ Tens a ∧ Tens b)
    (hx : evA E.glob F x = .s (.ssl (intRows a))) (hy : evA E.glob F y = .s (.ssl (intRows b))) : absOp E (evA E.glob F) h k s ⟨d, .call { callee := .value (.func 24), args := #[x, y], argTypes := ts }, ty, pos, af, gd⟩ = some (.s (.int .i64 (sizeN a b)), []) := by
  have hm : (#[x, y] : Array Operand).toList.map (evA E.glob F) = [.s (.ssl (intRows a)), .s (.ssl (intRows b))] := by simp [hx, hy]
  rw [absOp_func (g := 24) (r := .s (.int .i64 (sizeN a b))) rfl (by rw [hE]; unfold bodied; rw [Try.func24]; rfl) D.lend24 (by rw [hm]; rfl) (by rw [hm]; exact D.size a b hab)]
  rfl
theorem op25 {E : Env} (hE : E.P = Try.prog) (D : Refs E) {F : Nat → AV} {h : HR} {k s : Nat} {d : Option Tmp} {ty : TypeId} {pos : String} {af : Array Edge} {x y : Operand} {ts : Array TypeId} {gd : Option (Nat × Bool)} {a b : List Nat} (hab : a.length < 4398046511104 ∧ b.length < 4398046511104 ∧ Tens a ∧ Tens b)
    (hx : evA E.glob F x = .s (.ssl (intRows a))) (hy : evA E.glob F y = .s (.ssl (intRows b))) : absOp E (evA E.glob F) h k s ⟨d, .call { callee := .value (.func 25), args := #[x, y], argTypes := ts }, ty, pos, af, gd⟩ = some (.s (.ssl (intRows (sumOut a b))), []) := by
  have hm : (#[x, y] : Array Operand).toList.map (evA E.glob F) = [.s (.ssl (intRows a)), .s (.ssl (intRows b))] := by simp [hx, hy]
  rw [absOp_func (g := 25) (r := .s (.ssl (intRows (sumOut a b)))) rfl (by rw [hE]; unfold bodied; rw [Try.func25]; rfl) D.lend25 (by rw [hm]; rfl) (by rw [hm]; exact D.sum a b hab)]
  rfl
theorem op26 {E : Env} (hE : E.P = Try.prog) (D : Refs E) {F : Nat → AV} {h : HR} {k s : Nat} {d : Option Tmp} {ty : TypeId} {pos : String} {af : Array Edge} {x y : Operand} {ts : Array TypeId} {gd : Option (Nat × Bool)} {a b : List Nat} (hab : a.length < 4398046511104 ∧ b.length < 4398046511104 ∧ Tens a ∧ Tens b)
    (hx : evA E.glob F x = .s (.ssl (intRows a))) (hy : evA E.glob F y = .s (.ssl (intRows b))) : absOp E (evA E.glob F) h k s ⟨d, .call { callee := .value (.func 26), args := #[x, y], argTypes := ts }, ty, pos, af, gd⟩ = some (.s (.ssl (intRows (restOut a b))), []) := by
  have hm : (#[x, y] : Array Operand).toList.map (evA E.glob F) = [.s (.ssl (intRows a)), .s (.ssl (intRows b))] := by simp [hx, hy]
  rw [absOp_func (g := 26) (r := .s (.ssl (intRows (restOut a b)))) rfl (by rw [hE]; unfold bodied; rw [Try.func26]; rfl) D.lend26 (by rw [hm]; rfl) (by rw [hm]; exact D.rest a b hab)]
  rfl

theorem op23 {E : Env} (hE : E.P = Try.prog) (T : Trims E) {F : Nat → AV} {h : HR} {k s : Nat} {d : Option Tmp} {ty : TypeId} {pos : String} {af : Array Edge} {x : Operand} {ts : Array TypeId} {gd : Option (Nat × Bool)} {b : Bool} {l : List Nat} (hl : l.length < 4398046511104)
    (hx : evA E.glob F x = .agg [.s (.bool b), .s (.ssl (intRows l))]) : absOp E (evA E.glob F) h k s ⟨d, .call { callee := .value (.func 23), args := #[x], argTypes := ts }, ty, pos, af, gd⟩ = some (trimA b l, []) := by
  rw [absOp_calls (f := 23) (ags := [numA b l]) (fz := []) (r := trimA b l) rfl (by rw [hE]; unfold bodied; rw [Try.func23]; rfl) T.lend23 (by
    simp only [List.map_cons, List.map_nil, hx]
    show _ = some ([AV.agg [.s (.bool b), .s (.ssl (intRows l))]], [])
    unfold sealArgs room
    simp [numA, sealA, sealAs, sealArgs, unS, aggS]) (T.trim _ _ hl)]
  rfl

theorem cmpTop_range {a b : List Nat} : ∀ i, -1 ≤ cmpTop a b i ∧ cmpTop a b i ≤ 1
  | 0 => by simp [cmpTop]
  | i + 1 => by
    have := cmpTop_range (a := a) (b := b) i
    unfold cmpTop
    split
    · omega
    · split
      · omega
      · exact this
theorem sizeN_range {a b : List Nat} : -1 ≤ sizeN a b ∧ sizeN a b ≤ 1 := by
  unfold sizeN
  split
  · exact cmpTop_range _
  · split <;> omega

def orderN (p : Bool) (a : List Nat) (q : Bool) (b : List Nat) : Int :=
  if p = q then (if p then -(sizeN a b) else sizeN a b) else if p then -1 else 1

theorem order_abs (E : Env) (hE : E.P = Try.prog) (D : Refs E) (hraw : E.raw 9 = false) (n : Nat) (p : Bool) (a : List Nat) (q : Bool) (b : List Nat) (hab : a.length < 4398046511104 ∧ b.length < 4398046511104 ∧ Tens a ∧ Tens b) : absBody E n 9 Try.f9 [numA p a, numA q b] [] = some (.s (.int .i64 (orderN p a q b)), []) := by
  have h9 := hE9 hE
  have h30 := hE30 hE
  have s3 := hS3 hE
  have a3 := hA3 hE
  have z32 := hE32 hE
  have s4 := hS4 hE
  have a4 := hA4 hE
  have s30 := hS30 hE
  have a30 := hA30 hE
  have s32 := hS32 hE
  have a32 := hA32 hE
  have o24 := @op24 E hE D (a := a) (b := b) (hab := hab)
  have hr := sizeN_range (a := a) (b := b)
  have hwn : IntKind.i64.wrap (0 - sizeN a b) = -(sizeN a b) := by rw [wrap_fits (by omega) (by omega)]; omega
  have fin : ∀ (st : St) (r : Int), r = orderN p a q b → st.fr.get 4 = .s (.int .i64 r) → finish E 9 0 Try.f9 st = some (.s (.int .i64 (orderN p a q b)), []) := by
    intro st r h0 h1
    refine finish_sealed (l := [.s (.int .i64 (orderN p a q b))]) ?_ hraw rfl |>.trans rfl
    simp [Try.f9, resultA, resultA.go, h1, h0]
  refine body_ends rfl (by simp [Try.ntmps9]) rfl ?_
  rw [Try.ntmps9]
  refine seq_text ?_
  simp only [RegT, opA_go, opA_when, guardQ_some, guarded_bool, absOp_assign, absOp_move, absOp_bin, absOp_index, absOp_pick, absOp_max, absOp_min, int2_int, strLen, intA, fastA, h9, intOf, orSlow_some, binA, strA, ariA, evA_const, evA_tmp, ofV, ofC, Option.getD_some, putA_some, Nat.ble, Nat.reduceAdd, cond_true, lay_nil, lay_cons, bump, F_eq, h_eq, upHp, List.length_cons, List.length_nil, get_put, Nat.reduceEqDiff, if_true, if_false, reduceIte, List.getElem?_toArray, List.getElem?_cons_succ, List.getElem?_cons_zero, Option.bind_some, Option.map_some, beq_iff_eq, reduceCtorEq, Bool.not_true, Bool.not_false, beq_self_eq_true, thenQ_normal, thenQ_ret, inQ_ret, inQ_normal, ends_ret, ends_skip, absOp_lenRows h30, lenA, intRows_length, absOp_indexAddr, absOp_load, idx_ints h30 s3, load_byte a3 s3, orNone_some, absOp_box, absOp_alloc z32, absOp_fieldAddr, absOp_load, fa32_0 hE, fa32_1 hE, loadVarA a4 s4, loadVarA a30 s30, loadV_eq, orElse_some, orNone_some, cellsA, hget_self, hget_hput, numA, List.map_cons, List.map_nil, absOp_build, build32 hE, absOp_storeQ, putA_no, orUps_some, storeV_eq, Nat.reduceLT, List.set_cons_zero, List.set_cons_succ, keys_und, Option.toArray, List.map_toArray, List.append_toArray, List.toList_toArray]
  refine seq_seq.2 (seq_text ?_)
  simp only [RegT, opA_go, opA_when, guardQ_some, guarded_bool, absOp_assign, absOp_move, absOp_bin, absOp_index, absOp_pick, absOp_max, absOp_min, int2_int, strLen, intA, fastA, h9, intOf, orSlow_some, binA, strA, ariA, evA_const, evA_tmp, ofV, ofC, Option.getD_some, putA_some, Nat.ble, Nat.reduceAdd, cond_true, lay_nil, lay_cons, bump, F_eq, h_eq, upHp, List.length_cons, List.length_nil, get_put, Nat.reduceEqDiff, if_true, if_false, reduceIte, List.getElem?_toArray, List.getElem?_cons_succ, List.getElem?_cons_zero, Option.bind_some, Option.map_some, beq_iff_eq, reduceCtorEq, Bool.not_true, Bool.not_false, beq_self_eq_true, thenQ_normal, thenQ_ret, inQ_ret, inQ_normal, ends_ret, ends_skip, absOp_lenRows h30, lenA, intRows_length, absOp_indexAddr, absOp_load, idx_ints h30 s3, load_byte a3 s3, orNone_some, absOp_box, absOp_alloc z32, absOp_fieldAddr, absOp_load, fa32_0 hE, fa32_1 hE, loadVarA a4 s4, loadVarA a30 s30, loadV_eq, orElse_some, orNone_some, cellsA, hget_self, hget_hput, numA, List.map_cons, List.map_nil, absOp_build, build32 hE, absOp_storeQ, putA_no, orUps_some, storeV_eq, Nat.reduceLT, List.set_cons_zero, List.set_cons_succ, keys_und, Option.toArray, List.map_toArray, List.append_toArray, List.toList_toArray, orSlow_none, absOp_neqBool (a := p) (b := q) hE]
  refine seq_if (t := !(p == q)) (by simp only [F_eq, evA_tmp, get_put, Nat.reduceEqDiff, if_true, if_false, reduceIte]) (fun hc => ?_) (fun hc => ?_)
  · have hpq : ¬ p = q := by simpa using hc
    refine seq_seq.2 (seq_text ?_)
    simp only [RegT, opA_go, opA_when, guardQ_some, guarded_bool, absOp_assign, absOp_move, absOp_bin, absOp_index, absOp_pick, absOp_max, absOp_min, int2_int, strLen, intA, fastA, h9, intOf, orSlow_some, binA, strA, ariA, evA_const, evA_tmp, ofV, ofC, Option.getD_some, putA_some, Nat.ble, Nat.reduceAdd, cond_true, lay_nil, lay_cons, bump, F_eq, h_eq, upHp, List.length_cons, List.length_nil, get_put, Nat.reduceEqDiff, if_true, if_false, reduceIte, List.getElem?_toArray, List.getElem?_cons_succ, List.getElem?_cons_zero, Option.bind_some, Option.map_some, beq_iff_eq, reduceCtorEq, Bool.not_true, Bool.not_false, beq_self_eq_true, thenQ_normal, thenQ_ret, inQ_ret, inQ_normal, ends_ret, ends_skip, absOp_lenRows h30, lenA, intRows_length, absOp_indexAddr, absOp_load, idx_ints h30 s3, load_byte a3 s3, orNone_some, absOp_box, absOp_alloc z32, absOp_fieldAddr, absOp_load, fa32_0 hE, fa32_1 hE, loadVarA a4 s4, loadVarA a30 s30, loadV_eq, orElse_some, orNone_some, cellsA, hget_self, hget_hput, numA, List.map_cons, List.map_nil, absOp_build, build32 hE, absOp_storeQ, putA_no, orUps_some, storeV_eq, Nat.reduceLT, List.set_cons_zero, List.set_cons_succ, keys_und, Option.toArray, List.map_toArray, List.append_toArray, List.toList_toArray]
    refine seq_if (t := p) (by simp only [F_eq, evA_tmp, get_put, Nat.reduceEqDiff, if_true, if_false, reduceIte]) (fun hd => ?_) (fun hd => ?_)
    · refine seq_text ?_
      simp only [RegT, opA_go, opA_when, guardQ_some, guarded_bool, absOp_assign, absOp_move, absOp_bin, absOp_index, absOp_pick, absOp_max, absOp_min, int2_int, strLen, intA, fastA, h9, intOf, orSlow_some, binA, strA, ariA, evA_const, evA_tmp, ofV, ofC, Option.getD_some, putA_some, Nat.ble, Nat.reduceAdd, cond_true, lay_nil, lay_cons, bump, F_eq, h_eq, upHp, List.length_cons, List.length_nil, get_put, Nat.reduceEqDiff, if_true, if_false, reduceIte, List.getElem?_toArray, List.getElem?_cons_succ, List.getElem?_cons_zero, Option.bind_some, Option.map_some, beq_iff_eq, reduceCtorEq, Bool.not_true, Bool.not_false, beq_self_eq_true, thenQ_normal, thenQ_ret, inQ_ret, inQ_normal, ends_ret, ends_skip, absOp_lenRows h30, lenA, intRows_length, absOp_indexAddr, absOp_load, idx_ints h30 s3, load_byte a3 s3, orNone_some]
      exact ⟨.inr trivial, fin _ (-1) (by unfold orderN; rw [if_neg hpq, if_pos hd]) (by simp only [get_put, Nat.reduceEqDiff, if_true, if_false, reduceIte])⟩
    · rw [ends_skip, thenQ_normal]
      refine seq_text ?_
      simp only [RegT, opA_go, opA_when, guardQ_some, guarded_bool, absOp_assign, absOp_move, absOp_bin, absOp_index, absOp_pick, absOp_max, absOp_min, int2_int, strLen, intA, fastA, h9, intOf, orSlow_some, binA, strA, ariA, evA_const, evA_tmp, ofV, ofC, Option.getD_some, putA_some, Nat.ble, Nat.reduceAdd, cond_true, lay_nil, lay_cons, bump, F_eq, h_eq, upHp, List.length_cons, List.length_nil, get_put, Nat.reduceEqDiff, if_true, if_false, reduceIte, List.getElem?_toArray, List.getElem?_cons_succ, List.getElem?_cons_zero, Option.bind_some, Option.map_some, beq_iff_eq, reduceCtorEq, Bool.not_true, Bool.not_false, beq_self_eq_true, thenQ_normal, thenQ_ret, inQ_ret, inQ_normal, ends_ret, ends_skip, absOp_lenRows h30, lenA, intRows_length, absOp_indexAddr, absOp_load, idx_ints h30 s3, load_byte a3 s3, orNone_some]
      exact ⟨.inr trivial, fin _ 1 (by unfold orderN; rw [if_neg hpq, hd]; rfl) (by simp only [get_put, Nat.reduceEqDiff, if_true, if_false, reduceIte])⟩
  · have hpq : p = q := by simpa using hc
    rw [ends_skip, thenQ_normal]
    refine seq_seq.2 (seq_text ?_)
    simp only [RegT, opA_go, opA_when, guardQ_some, guarded_bool, absOp_assign, absOp_move, absOp_bin, absOp_index, absOp_pick, absOp_max, absOp_min, int2_int, strLen, intA, fastA, h9, intOf, orSlow_some, binA, strA, ariA, evA_const, evA_tmp, ofV, ofC, Option.getD_some, putA_some, Nat.ble, Nat.reduceAdd, cond_true, lay_nil, lay_cons, bump, F_eq, h_eq, upHp, List.length_cons, List.length_nil, get_put, Nat.reduceEqDiff, if_true, if_false, reduceIte, List.getElem?_toArray, List.getElem?_cons_succ, List.getElem?_cons_zero, Option.bind_some, Option.map_some, beq_iff_eq, reduceCtorEq, Bool.not_true, Bool.not_false, beq_self_eq_true, thenQ_normal, thenQ_ret, inQ_ret, inQ_normal, ends_ret, ends_skip, absOp_lenRows h30, lenA, intRows_length, absOp_indexAddr, absOp_load, idx_ints h30 s3, load_byte a3 s3, orNone_some, absOp_box, absOp_alloc z32, absOp_fieldAddr, absOp_load, fa32_0 hE, fa32_1 hE, loadVarA a4 s4, loadVarA a30 s30, loadV_eq, orElse_some, orNone_some, cellsA, hget_self, hget_hput, numA, List.map_cons, List.map_nil, absOp_build, build32 hE, absOp_storeQ, putA_no, orUps_some, storeV_eq, Nat.reduceLT, List.set_cons_zero, List.set_cons_succ, keys_und, Option.toArray, List.map_toArray, List.append_toArray, List.toList_toArray]
    refine seq_if (t := p) (by simp only [F_eq, evA_tmp, get_put, Nat.reduceEqDiff, if_true, if_false, reduceIte]) (fun hd => ?_) (fun hd => ?_)
    · refine seq_text ?_
      simp only [RegT, opA_go, opA_when, guardQ_some, guarded_bool, absOp_assign, absOp_move, absOp_bin, absOp_index, absOp_pick, absOp_max, absOp_min, int2_int, strLen, intA, fastA, h9, intOf, orSlow_some, binA, strA, ariA, evA_const, evA_tmp, ofV, ofC, Option.getD_some, putA_some, Nat.ble, Nat.reduceAdd, cond_true, lay_nil, lay_cons, bump, F_eq, h_eq, upHp, List.length_cons, List.length_nil, get_put, Nat.reduceEqDiff, if_true, if_false, reduceIte, List.getElem?_toArray, List.getElem?_cons_succ, List.getElem?_cons_zero, Option.bind_some, Option.map_some, beq_iff_eq, reduceCtorEq, Bool.not_true, Bool.not_false, beq_self_eq_true, thenQ_normal, thenQ_ret, inQ_ret, inQ_normal, ends_ret, ends_skip, absOp_lenRows h30, lenA, intRows_length, absOp_indexAddr, absOp_load, idx_ints h30 s3, load_byte a3 s3, orNone_some, absOp_box, absOp_alloc z32, absOp_fieldAddr, absOp_load, fa32_0 hE, fa32_1 hE, loadVarA a4 s4, loadVarA a30 s30, loadV_eq, orElse_some, orNone_some, cellsA, hget_self, hget_hput, numA, List.map_cons, List.map_nil, absOp_build, build32 hE, absOp_storeQ, putA_no, orUps_some, storeV_eq, Nat.reduceLT, List.set_cons_zero, List.set_cons_succ, keys_und, Option.toArray, List.map_toArray, List.append_toArray, List.toList_toArray, o24, absOp_negInt (kk := .i64) (n := sizeN a b), hwn]
      exact ⟨.inr trivial, fin _ (-(sizeN a b)) (by unfold orderN; rw [if_pos hpq, if_pos hd]) (by simp only [get_put, Nat.reduceEqDiff, if_true, if_false, reduceIte])⟩
    · rw [ends_skip, thenQ_normal]
      refine seq_text ?_
      simp only [RegT, opA_go, opA_when, guardQ_some, guarded_bool, absOp_assign, absOp_move, absOp_bin, absOp_index, absOp_pick, absOp_max, absOp_min, int2_int, strLen, intA, fastA, h9, intOf, orSlow_some, binA, strA, ariA, evA_const, evA_tmp, ofV, ofC, Option.getD_some, putA_some, Nat.ble, Nat.reduceAdd, cond_true, lay_nil, lay_cons, bump, F_eq, h_eq, upHp, List.length_cons, List.length_nil, get_put, Nat.reduceEqDiff, if_true, if_false, reduceIte, List.getElem?_toArray, List.getElem?_cons_succ, List.getElem?_cons_zero, Option.bind_some, Option.map_some, beq_iff_eq, reduceCtorEq, Bool.not_true, Bool.not_false, beq_self_eq_true, thenQ_normal, thenQ_ret, inQ_ret, inQ_normal, ends_ret, ends_skip, absOp_lenRows h30, lenA, intRows_length, absOp_indexAddr, absOp_load, idx_ints h30 s3, load_byte a3 s3, orNone_some, absOp_box, absOp_alloc z32, absOp_fieldAddr, absOp_load, fa32_0 hE, fa32_1 hE, loadVarA a4 s4, loadVarA a30 s30, loadV_eq, orElse_some, orNone_some, cellsA, hget_self, hget_hput, numA, List.map_cons, List.map_nil, absOp_build, build32 hE, absOp_storeQ, putA_no, orUps_some, storeV_eq, Nat.reduceLT, List.set_cons_zero, List.set_cons_succ, keys_und, Option.toArray, List.map_toArray, List.append_toArray, List.toList_toArray, o24]
      exact ⟨.inr trivial, fin _ (sizeN a b) (by unfold orderN; rw [if_pos hpq, hd]; rfl) (by simp only [get_put, Nat.reduceEqDiff, if_true, if_false, reduceIte])⟩

def addN (p : Bool) (a : List Nat) (q : Bool) (b : List Nat) : AV :=
  if p = q then trimA p (sumOut a b) else if sizeN a b < 0 then trimA q (restOut b a) else trimA p (restOut a b)

theorem add_abs (E : Env) (hE : E.P = Try.prog) (D : Refs E) (T : Trims E) (hraw : E.raw 11 = false) (n : Nat) (p : Bool) (a : List Nat) (q : Bool) (b : List Nat) (hab : a.length < 4398046511104 ∧ b.length < 4398046511104 ∧ Tens a ∧ Tens b) (hsum : (sumOut a b).length < 4398046511104) : absBody E n 11 Try.f11 [numA p a, numA q b] [] = some (addN p a q b, []) := by
  have h9 := hE9 hE
  have h30 := hE30 hE
  have s3 := hS3 hE
  have a3 := hA3 hE
  have z32 := hE32 hE
  have s4 := hS4 hE
  have a4 := hA4 hE
  have s30 := hS30 hE
  have a30 := hA30 hE
  have s32 := hS32 hE
  have a32 := hA32 hE
  have o24 := @op24 E hE D (a := a) (b := b) (hab := hab)
  have hba : b.length < 4398046511104 ∧ a.length < 4398046511104 ∧ Tens b ∧ Tens a := ⟨hab.2.1, hab.1, hab.2.2.2, hab.2.2.1⟩
  have o25 := @op25 E hE D (a := a) (b := b) (hab := hab)
  have o26 := @op26 E hE D (a := a) (b := b) (hab := hab)
  have o26' := @op26 E hE D (a := b) (b := a) (hab := hba)
  have hl1 : (restOut a b).length < 4398046511104 := by unfold restOut; rw [restRun_length]; exact hab.1
  have hl2 : (restOut b a).length < 4398046511104 := by unfold restOut; rw [restRun_length]; exact hab.2.1
  have hd0 : decide (sizeN a b < 0) = decide (sizeN a b < 0) := rfl
  refine body_ends rfl (by simp [Try.ntmps11]) rfl ?_
  rw [Try.ntmps11]
  refine seq_text ?_
  simp only [RegT, opA_go, opA_when, guardQ_some, guarded_bool, absOp_assign, absOp_move, absOp_bin, absOp_index, absOp_pick, absOp_max, absOp_min, int2_int, strLen, intA, fastA, h9, intOf, orSlow_some, binA, strA, ariA, evA_const, evA_tmp, ofV, ofC, Option.getD_some, putA_some, Nat.ble, Nat.reduceAdd, cond_true, lay_nil, lay_cons, bump, F_eq, h_eq, upHp, List.length_cons, List.length_nil, get_put, Nat.reduceEqDiff, if_true, if_false, reduceIte, List.getElem?_toArray, List.getElem?_cons_succ, List.getElem?_cons_zero, Option.bind_some, Option.map_some, beq_iff_eq, reduceCtorEq, Bool.not_true, Bool.not_false, beq_self_eq_true, thenQ_normal, thenQ_ret, inQ_ret, inQ_normal, ends_ret, ends_skip, absOp_lenRows h30, lenA, intRows_length, absOp_indexAddr, absOp_load, idx_ints h30 s3, load_byte a3 s3, orNone_some, absOp_box, absOp_alloc z32, absOp_fieldAddr, absOp_load, fa32_0 hE, fa32_1 hE, loadVarA a4 s4, loadVarA a30 s30, loadV_eq, orElse_some, orNone_some, cellsA, hget_self, hget_hput, numA, List.map_cons, List.map_nil, absOp_build, build32 hE, absOp_storeQ, putA_no, orUps_some, storeV_eq, Nat.reduceLT, List.set_cons_zero, List.set_cons_succ, keys_und, Option.toArray, List.map_toArray, List.append_toArray, List.toList_toArray]
  obtain ⟨s2, hs2⟩ : ∃ s2, s2 = 0 + room * 0 := ⟨_, rfl⟩
  obtain ⟨s3', hs3⟩ : ∃ s3, s3 = 0 + room * 1 := ⟨_, rfl⟩
  obtain ⟨s4', hs4⟩ : ∃ s4, s4 = 0 + room * 2 := ⟨_, rfl⟩
  refine seq_seq.2 (seq_text ?_)
  simp only [RegT, opA_go, opA_when, guardQ_some, guarded_bool, absOp_assign, absOp_move, absOp_bin, absOp_index, absOp_pick, absOp_max, absOp_min, int2_int, strLen, intA, fastA, h9, intOf, orSlow_some, binA, strA, ariA, evA_const, evA_tmp, ofV, ofC, Option.getD_some, putA_some, Nat.ble, Nat.reduceAdd, cond_true, lay_nil, lay_cons, bump, F_eq, h_eq, upHp, List.length_cons, List.length_nil, get_put, Nat.reduceEqDiff, if_true, if_false, reduceIte, List.getElem?_toArray, List.getElem?_cons_succ, List.getElem?_cons_zero, Option.bind_some, Option.map_some, beq_iff_eq, reduceCtorEq, Bool.not_true, Bool.not_false, beq_self_eq_true, thenQ_normal, thenQ_ret, inQ_ret, inQ_normal, ends_ret, ends_skip, absOp_lenRows h30, lenA, intRows_length, absOp_indexAddr, absOp_load, idx_ints h30 s3, load_byte a3 s3, orNone_some, absOp_box, absOp_alloc z32, absOp_fieldAddr, absOp_load, fa32_0 hE, fa32_1 hE, loadVarA a4 s4, loadVarA a30 s30, loadV_eq, orElse_some, orNone_some, cellsA, hget_self, hget_hput, numA, List.map_cons, List.map_nil, absOp_build, build32 hE, absOp_storeQ, putA_no, orUps_some, storeV_eq, Nat.reduceLT, List.set_cons_zero, List.set_cons_succ, keys_und, Option.toArray, List.map_toArray, List.append_toArray, List.toList_toArray, orSlow_none, absOp_eqBool (a := p) (b := q) hE]
  refine seq_if (t := (p == q)) (by simp only [F_eq, evA_tmp, get_put, Nat.reduceEqDiff, if_true, if_false, reduceIte]) (fun hc => ?_) (fun hc => ?_)
  · have hpq : p = q := by simpa using hc
    have hres : addN p a q b = trimA p (sumOut a b) := by unfold addN; rw [if_pos hpq]
    refine seq_feet [⟨[2], []⟩, ⟨[2], []⟩, ⟨[2], []⟩, ⟨[2], []⟩, ⟨[3], []⟩, ⟨[3], []⟩, ⟨[], []⟩, ⟨[], []⟩, ⟨[], []⟩, ⟨[4], [4]⟩] (by kernel_rfl) ?_
    simp only [RegT, opA_go, opA_when, guardQ_some, guarded_bool, absOp_assign, absOp_move, absOp_bin, absOp_index, absOp_pick, absOp_max, absOp_min, int2_int, strLen, intA, fastA, h9, intOf, orSlow_some, binA, strA, ariA, evA_const, evA_tmp, ofV, ofC, Option.getD_some, putA_some, Nat.ble, Nat.reduceAdd, cond_true, lay_nil, lay_cons, bump, F_eq, h_eq, upHp, List.length_cons, List.length_nil, get_put, Nat.reduceEqDiff, if_true, if_false, reduceIte, List.getElem?_toArray, List.getElem?_cons_succ, List.getElem?_cons_zero, Option.bind_some, Option.map_some, beq_iff_eq, reduceCtorEq, Bool.not_true, Bool.not_false, beq_self_eq_true, thenQ_normal, thenQ_ret, inQ_ret, inQ_normal, ends_ret, ends_skip, absOp_lenRows h30, lenA, intRows_length, absOp_indexAddr, absOp_load, idx_ints h30 s3, load_byte a3 s3, orNone_some, absOp_box, absOp_alloc z32, absOp_fieldAddr, absOp_load, fa32_0 hE, fa32_1 hE, loadVarA a4 s4, loadVarA a30 s30, loadV_eq, orElse_some, orNone_some, cellsA, hget_self, hget_hput, numA, List.map_cons, List.map_nil, absOp_build, build32 hE, absOp_storeQ, putA_no, orUps_some, storeV_eq, Nat.reduceLT, List.set_cons_zero, List.set_cons_succ, keys_und, Option.toArray, List.map_toArray, List.append_toArray, List.toList_toArray, RegC, RegF, reach_one, keysB, opKeys_of, Op.operands, Call.operands, List.flatMap_cons, List.flatMap_nil, List.append_nil, List.nil_append, List.cons_append, keysA, keysAs, keys_func, only_eq, reach_nil, List.contains_cons, List.contains_nil, Bool.or_false, Bool.true_or, beq_self_eq_true, List.map_cons, List.map_nil, true_and, Array.toList_append, o25, op23 (b := p) (l := sumOut a b) hE T hsum, trimA, storePair (k := 4) (s := 0 + room * 2) (x := .s (.bool false)) (y := .nsl) s32, Nat.reduceEqDiff]
    refine ⟨.inr trivial, ?_⟩
    rw [hres]
    exact finish_pair (t := 4) (k := 4) (s := 0 + room * 2) rfl hraw a32 s32 (by simp only [get_put, Nat.reduceEqDiff, if_true, if_false, reduceIte]) hget_self
  · have hpq : ¬ p = q := by simpa using hc
    rw [ends_skip, thenQ_normal]
    refine seq_seq.2 (seq_text ?_)
    simp only [RegT, opA_go, opA_when, guardQ_some, guarded_bool, absOp_assign, absOp_move, absOp_bin, absOp_index, absOp_pick, absOp_max, absOp_min, int2_int, strLen, intA, fastA, h9, intOf, orSlow_some, binA, strA, ariA, evA_const, evA_tmp, ofV, ofC, Option.getD_some, putA_some, Nat.ble, Nat.reduceAdd, cond_true, lay_nil, lay_cons, bump, F_eq, h_eq, upHp, List.length_cons, List.length_nil, get_put, Nat.reduceEqDiff, if_true, if_false, reduceIte, List.getElem?_toArray, List.getElem?_cons_succ, List.getElem?_cons_zero, Option.bind_some, Option.map_some, beq_iff_eq, reduceCtorEq, Bool.not_true, Bool.not_false, beq_self_eq_true, thenQ_normal, thenQ_ret, inQ_ret, inQ_normal, ends_ret, ends_skip, absOp_lenRows h30, lenA, intRows_length, absOp_indexAddr, absOp_load, idx_ints h30 s3, load_byte a3 s3, orNone_some, absOp_box, absOp_alloc z32, absOp_fieldAddr, absOp_load, fa32_0 hE, fa32_1 hE, loadVarA a4 s4, loadVarA a30 s30, loadV_eq, orElse_some, orNone_some, cellsA, hget_self, hget_hput, numA, List.map_cons, List.map_nil, absOp_build, build32 hE, absOp_storeQ, putA_no, orUps_some, storeV_eq, Nat.reduceLT, List.set_cons_zero, List.set_cons_succ, keys_und, Option.toArray, List.map_toArray, List.append_toArray, List.toList_toArray, o24]
    refine seq_if (t := decide (sizeN a b < 0)) (by simp only [F_eq, evA_tmp, get_put, Nat.reduceEqDiff, if_true, if_false, reduceIte]) (fun hd => ?_) (fun hd => ?_)
    · have hd := of_decide_eq_true hd
      have hres : addN p a q b = trimA q (restOut b a) := by unfold addN; rw [if_neg hpq, if_pos hd]
      refine seq_feet [⟨[3], []⟩, ⟨[3], []⟩, ⟨[3], []⟩, ⟨[3], []⟩, ⟨[2], []⟩, ⟨[2], []⟩, ⟨[], []⟩, ⟨[], []⟩, ⟨[], []⟩, ⟨[4], [4]⟩] (by kernel_rfl) ?_
      simp only [RegT, opA_go, opA_when, guardQ_some, guarded_bool, absOp_assign, absOp_move, absOp_bin, absOp_index, absOp_pick, absOp_max, absOp_min, int2_int, strLen, intA, fastA, h9, intOf, orSlow_some, binA, strA, ariA, evA_const, evA_tmp, ofV, ofC, Option.getD_some, putA_some, Nat.ble, Nat.reduceAdd, cond_true, lay_nil, lay_cons, bump, F_eq, h_eq, upHp, List.length_cons, List.length_nil, get_put, Nat.reduceEqDiff, if_true, if_false, reduceIte, List.getElem?_toArray, List.getElem?_cons_succ, List.getElem?_cons_zero, Option.bind_some, Option.map_some, beq_iff_eq, reduceCtorEq, Bool.not_true, Bool.not_false, beq_self_eq_true, thenQ_normal, thenQ_ret, inQ_ret, inQ_normal, ends_ret, ends_skip, absOp_lenRows h30, lenA, intRows_length, absOp_indexAddr, absOp_load, idx_ints h30 s3, load_byte a3 s3, orNone_some, absOp_box, absOp_alloc z32, absOp_fieldAddr, absOp_load, fa32_0 hE, fa32_1 hE, loadVarA a4 s4, loadVarA a30 s30, loadV_eq, orElse_some, orNone_some, cellsA, hget_self, hget_hput, numA, List.map_cons, List.map_nil, absOp_build, build32 hE, absOp_storeQ, putA_no, orUps_some, storeV_eq, Nat.reduceLT, List.set_cons_zero, List.set_cons_succ, keys_und, Option.toArray, List.map_toArray, List.append_toArray, List.toList_toArray, RegC, RegF, reach_one, keysB, opKeys_of, Op.operands, Call.operands, List.flatMap_cons, List.flatMap_nil, List.append_nil, List.nil_append, List.cons_append, keysA, keysAs, keys_func, only_eq, reach_nil, List.contains_cons, List.contains_nil, Bool.or_false, Bool.true_or, beq_self_eq_true, List.map_cons, List.map_nil, true_and, Array.toList_append, o26', op23 (b := q) (l := restOut b a) hE T hl2, trimA, storePair (k := 4) (s := 0 + room * 2) (x := .s (.bool false)) (y := .nsl) s32, Nat.reduceEqDiff]
      refine ⟨.inr trivial, ?_⟩
      rw [hres]
      exact finish_pair (t := 4) (k := 4) (s := 0 + room * 2) rfl hraw a32 s32 (by simp only [get_put, Nat.reduceEqDiff, if_true, if_false, reduceIte]) hget_self
    · have hd := of_decide_eq_false hd
      have hres : addN p a q b = trimA p (restOut a b) := by unfold addN; rw [if_neg hpq, if_neg hd]
      rw [ends_skip, thenQ_normal]
      refine seq_feet [⟨[2], []⟩, ⟨[2], []⟩, ⟨[2], []⟩, ⟨[2], []⟩, ⟨[3], []⟩, ⟨[3], []⟩, ⟨[], []⟩, ⟨[], []⟩, ⟨[], []⟩, ⟨[4], [4]⟩] (by kernel_rfl) ?_
      simp only [RegT, opA_go, opA_when, guardQ_some, guarded_bool, absOp_assign, absOp_move, absOp_bin, absOp_index, absOp_pick, absOp_max, absOp_min, int2_int, strLen, intA, fastA, h9, intOf, orSlow_some, binA, strA, ariA, evA_const, evA_tmp, ofV, ofC, Option.getD_some, putA_some, Nat.ble, Nat.reduceAdd, cond_true, lay_nil, lay_cons, bump, F_eq, h_eq, upHp, List.length_cons, List.length_nil, get_put, Nat.reduceEqDiff, if_true, if_false, reduceIte, List.getElem?_toArray, List.getElem?_cons_succ, List.getElem?_cons_zero, Option.bind_some, Option.map_some, beq_iff_eq, reduceCtorEq, Bool.not_true, Bool.not_false, beq_self_eq_true, thenQ_normal, thenQ_ret, inQ_ret, inQ_normal, ends_ret, ends_skip, absOp_lenRows h30, lenA, intRows_length, absOp_indexAddr, absOp_load, idx_ints h30 s3, load_byte a3 s3, orNone_some, absOp_box, absOp_alloc z32, absOp_fieldAddr, absOp_load, fa32_0 hE, fa32_1 hE, loadVarA a4 s4, loadVarA a30 s30, loadV_eq, orElse_some, orNone_some, cellsA, hget_self, hget_hput, numA, List.map_cons, List.map_nil, absOp_build, build32 hE, absOp_storeQ, putA_no, orUps_some, storeV_eq, Nat.reduceLT, List.set_cons_zero, List.set_cons_succ, keys_und, Option.toArray, List.map_toArray, List.append_toArray, List.toList_toArray, RegC, RegF, reach_one, keysB, opKeys_of, Op.operands, Call.operands, List.flatMap_cons, List.flatMap_nil, List.append_nil, List.nil_append, List.cons_append, keysA, keysAs, keys_func, only_eq, reach_nil, List.contains_cons, List.contains_nil, Bool.or_false, Bool.true_or, beq_self_eq_true, List.map_cons, List.map_nil, true_and, Array.toList_append, o26, op23 (b := p) (l := restOut a b) hE T hl1, trimA, storePair (k := 4) (s := 0 + room * 2) (x := .s (.bool false)) (y := .nsl) s32, Nat.reduceEqDiff]
      refine ⟨.inr trivial, ?_⟩
      rw [hres]
      exact finish_pair (t := 4) (k := 4) (s := 0 + room * 2) rfl hraw a32 s32 (by simp only [get_put, Nat.reduceEqDiff, if_true, if_false, reduceIte]) hget_self
end Go.Proofs.Ytbfdokfelolmbaa.TensW
end

section
open Go.Proofs.Ytbfdokfelolmbaa.Vai
namespace Go.Proofs.Ytbfdokfelolmbaa.TensW
set_option maxRecDepth 10000
set_option linter.unusedSimpArgs false

def ch (d : Nat) : UInt8 := 48 + UInt8.ofNat d
def signW (p : Bool) : List UInt8 := if p then [45] else []
def writeL (p : Bool) (a : List Nat) : List UInt8 := if a = [] then [48] else signW p ++ a.reverse.map ch
def okW (k : Nat) : Prop := k = 13 ∨ k = 31

theorem write_abs (E : Env) (hE : E.P = Try.prog) (hraw : E.raw 10 = false) (n : Nat) (p : Bool) (a : List Nat) (hn : a.length + 1 < n) (ht : Tens a) (hl : a.length < 4398046511104) : absBody E n 10 Try.f10 [numA p a] [] = some (.s (.str (writeL p a)), []) := by
  have h9 := hE9 hE
  have h30 := hE30 hE
  have s3 := hS3 hE
  have a3 := hA3 hE
  have z32 := hE32 hE
  have s4 := hS4 hE
  have a4 := hA4 hE
  have s30 := hS30 hE
  have a30 := hA30 hE
  have s32 := hS32 hE
  have a32 := hA32 hE
  have h46 := hE46 hE
  have e5 := hE5 hE
  have e3 := hE3 hE
  have s5 := hS5 hE
  have b5 := hB5 hE
  have z5 := hZ5 hE
  have fin : ∀ (st : St) (l : List UInt8), l = writeL p a → st.fr.get 2 = .s (.str l) → finish E 10 0 Try.f10 st = some (.s (.str (writeL p a)), []) := by
    intro st r h0 h1
    refine finish_sealed (l := [.s (.str (writeL p a))]) ?_ hraw rfl |>.trans rfl
    simp [Try.f10, resultA, resultA.go, h1, h0]
  refine body_ends rfl (by simp [Try.ntmps10]) rfl ?_
  rw [Try.ntmps10]
  refine seq_text ?_
  simp only [RegT, opA_go, opA_when, guardQ_some, guarded_bool, absOp_assign, absOp_move, absOp_bin, absOp_index, absOp_pick, absOp_max, absOp_min, int2_int, strLen, intA, fastA, h9, intOf, orSlow_some, binA, strA, ariA, evA_const, evA_tmp, ofV, ofC, Option.getD_some, putA_some, Nat.ble, Nat.reduceAdd, cond_true, lay_nil, lay_cons, bump, F_eq, h_eq, upHp, List.length_cons, List.length_nil, get_put, Nat.reduceEqDiff, if_true, if_false, reduceIte, List.getElem?_toArray, List.getElem?_cons_succ, List.getElem?_cons_zero, Option.bind_some, Option.map_some, beq_iff_eq, reduceCtorEq, Bool.not_true, Bool.not_false, beq_self_eq_true, thenQ_normal, thenQ_ret, inQ_ret, inQ_normal, ends_ret, ends_skip, absOp_lenRows h30, lenA, intRows_length, absOp_indexAddr, absOp_load, idx_ints h30 s3, load_byte a3 s3, orNone_some, absOp_box, absOp_alloc z32, absOp_fieldAddr, absOp_load, fa32_0 hE, fa32_1 hE, loadVarA a4 s4, loadVarA a30 s30, loadV_eq, orElse_some, orNone_some, cellsA, hget_self, hget_hput, numA, List.map_cons, List.map_nil, absOp_build, build32 hE, absOp_storeQ, putA_no, orUps_some, storeV_eq, Nat.reduceLT, List.set_cons_zero, List.set_cons_succ, keys_und, Option.toArray, List.map_toArray, List.append_toArray, List.toList_toArray]
  obtain ⟨s1, hs1⟩ : ∃ s1, s1 = 0 + room * 0 := ⟨_, rfl⟩
  have d0 : decide ((a.length : Int) = 0) = decide (a = []) := by
    apply Bool.eq_iff_iff.2; simp only [decide_eq_true_eq]; rw [← List.length_eq_zero_iff]; omega
  refine seq_seq.2 (seq_text ?_)
  simp only [RegT, opA_go, opA_when, guardQ_some, guarded_bool, absOp_assign, absOp_move, absOp_bin, absOp_index, absOp_pick, absOp_max, absOp_min, int2_int, strLen, intA, fastA, h9, intOf, orSlow_some, binA, strA, ariA, evA_const, evA_tmp, ofV, ofC, Option.getD_some, putA_some, Nat.ble, Nat.reduceAdd, cond_true, lay_nil, lay_cons, bump, F_eq, h_eq, upHp, List.length_cons, List.length_nil, get_put, Nat.reduceEqDiff, if_true, if_false, reduceIte, List.getElem?_toArray, List.getElem?_cons_succ, List.getElem?_cons_zero, Option.bind_some, Option.map_some, beq_iff_eq, reduceCtorEq, Bool.not_true, Bool.not_false, beq_self_eq_true, thenQ_normal, thenQ_ret, inQ_ret, inQ_normal, ends_ret, ends_skip, absOp_lenRows h30, lenA, intRows_length, absOp_indexAddr, absOp_load, idx_ints h30 s3, load_byte a3 s3, orNone_some, absOp_box, absOp_alloc z32, absOp_fieldAddr, absOp_load, fa32_0 hE, fa32_1 hE, loadVarA a4 s4, loadVarA a30 s30, loadV_eq, orElse_some, orNone_some, cellsA, hget_self, hget_hput, numA, List.map_cons, List.map_nil, absOp_build, build32 hE, absOp_storeQ, putA_no, orUps_some, storeV_eq, Nat.reduceLT, List.set_cons_zero, List.set_cons_succ, keys_und, Option.toArray, List.map_toArray, List.append_toArray, List.toList_toArray, d0]
  refine seq_if (t := decide (a = [])) (by simp only [F_eq, evA_tmp, get_put, Nat.reduceEqDiff, if_true, if_false, reduceIte]) (fun hc => ?_) (fun hc => ?_)
  · have hc := of_decide_eq_true hc
    refine seq_text ?_
    simp only [RegT, opA_go, opA_when, guardQ_some, guarded_bool, absOp_assign, absOp_move, absOp_bin, absOp_index, absOp_pick, absOp_max, absOp_min, int2_int, strLen, intA, fastA, h9, intOf, orSlow_some, binA, strA, ariA, evA_const, evA_tmp, ofV, ofC, Option.getD_some, putA_some, Nat.ble, Nat.reduceAdd, cond_true, lay_nil, lay_cons, bump, F_eq, h_eq, upHp, List.length_cons, List.length_nil, get_put, Nat.reduceEqDiff, if_true, if_false, reduceIte, List.getElem?_toArray, List.getElem?_cons_succ, List.getElem?_cons_zero, Option.bind_some, Option.map_some, beq_iff_eq, reduceCtorEq, Bool.not_true, Bool.not_false, beq_self_eq_true, thenQ_normal, thenQ_ret, inQ_ret, inQ_normal, ends_ret, ends_skip, absOp_lenRows h30, lenA, intRows_length, absOp_indexAddr, absOp_load, idx_ints h30 s3, load_byte a3 s3, orNone_some]
    exact ⟨.inr trivial, fin _ [48] (by unfold writeL; rw [if_pos hc]) (by simp only [get_put, Nat.reduceEqDiff, if_true, if_false, reduceIte])⟩
  have hne := of_decide_eq_false hc
  rw [ends_skip, thenQ_normal]
  refine seq_text ?_
  simp only [RegT, opA_go, opA_when, guardQ_some, guarded_bool, absOp_assign, absOp_move, absOp_bin, absOp_index, absOp_pick, absOp_max, absOp_min, int2_int, strLen, intA, fastA, h9, intOf, orSlow_some, binA, strA, ariA, evA_const, evA_tmp, ofV, ofC, Option.getD_some, putA_some, Nat.ble, Nat.reduceAdd, cond_true, lay_nil, lay_cons, bump, F_eq, h_eq, upHp, List.length_cons, List.length_nil, get_put, Nat.reduceEqDiff, if_true, if_false, reduceIte, List.getElem?_toArray, List.getElem?_cons_succ, List.getElem?_cons_zero, Option.bind_some, Option.map_some, beq_iff_eq, reduceCtorEq, Bool.not_true, Bool.not_false, beq_self_eq_true, thenQ_normal, thenQ_ret, inQ_ret, inQ_normal, ends_ret, ends_skip, absOp_lenRows h30, lenA, intRows_length, absOp_indexAddr, absOp_load, idx_ints h30 s3, load_byte a3 s3, orNone_some, absOp_box, absOp_alloc z32, absOp_fieldAddr, absOp_load, fa32_0 hE, fa32_1 hE, loadVarA a4 s4, loadVarA a30 s30, loadV_eq, orElse_some, orNone_some, cellsA, hget_self, hget_hput, numA, List.map_cons, List.map_nil, absOp_build, build32 hE, absOp_storeQ, putA_no, orUps_some, storeV_eq, Nat.reduceLT, List.set_cons_zero, List.set_cons_succ, keys_und, Option.toArray, List.map_toArray, List.append_toArray, List.toList_toArray]
  refine seq_seq.2 (seq_text ?_)
  simp only [RegT, opA_go, opA_when, guardQ_some, guarded_bool, absOp_assign, absOp_move, absOp_bin, absOp_index, absOp_pick, absOp_max, absOp_min, int2_int, strLen, intA, fastA, h9, intOf, orSlow_some, binA, strA, ariA, evA_const, evA_tmp, ofV, ofC, Option.getD_some, putA_some, Nat.ble, Nat.reduceAdd, cond_true, lay_nil, lay_cons, bump, F_eq, h_eq, upHp, List.length_cons, List.length_nil, get_put, Nat.reduceEqDiff, if_true, if_false, reduceIte, List.getElem?_toArray, List.getElem?_cons_succ, List.getElem?_cons_zero, Option.bind_some, Option.map_some, beq_iff_eq, reduceCtorEq, Bool.not_true, Bool.not_false, beq_self_eq_true, thenQ_normal, thenQ_ret, inQ_ret, inQ_normal, ends_ret, ends_skip, absOp_lenRows h30, lenA, intRows_length, absOp_indexAddr, absOp_load, idx_ints h30 s3, load_byte a3 s3, orNone_some, absOp_box, absOp_alloc z32, absOp_fieldAddr, absOp_load, fa32_0 hE, fa32_1 hE, loadVarA a4 s4, loadVarA a30 s30, loadV_eq, orElse_some, orNone_some, cellsA, hget_self, hget_hput, numA, List.map_cons, List.map_nil, absOp_build, build32 hE, absOp_storeQ, putA_no, orUps_some, storeV_eq, Nat.reduceLT, List.set_cons_zero, List.set_cons_succ, keys_und, Option.toArray, List.map_toArray, List.append_toArray, List.toList_toArray]
  refine seq_ifK (t := p) (fun st' => ∃ v, st'.fr.get 1 = .ref 1 s1 0 0 ∧ st'.fr.get 3 = v ∧ hget st'.hp 1 = (s1, .var [.s (.bool p), .s (.ssl (intRows a))] false) ∧ GrownIn st'.hp okW v ((signW p).map byteS)) (by simp only [F_eq, evA_tmp, get_put, Nat.reduceEqDiff, if_true, if_false, reduceIte]) (fun hc => ?_) (fun hc => ?_) ?_
  · subst hc
    refine region_text.2 ?_
    simp only [RegT, opA_go, opA_when, guardQ_some, guarded_bool, absOp_assign, absOp_move, absOp_bin, absOp_index, absOp_pick, absOp_max, absOp_min, int2_int, strLen, intA, fastA, h9, intOf, orSlow_some, binA, strA, ariA, evA_const, evA_tmp, ofV, ofC, Option.getD_some, putA_some, Nat.ble, Nat.reduceAdd, cond_true, lay_nil, lay_cons, bump, F_eq, h_eq, upHp, List.length_cons, List.length_nil, get_put, Nat.reduceEqDiff, if_true, if_false, reduceIte, List.getElem?_toArray, List.getElem?_cons_succ, List.getElem?_cons_zero, Option.bind_some, Option.map_some, beq_iff_eq, reduceCtorEq, Bool.not_true, Bool.not_false, beq_self_eq_true, thenQ_normal, thenQ_ret, inQ_ret, inQ_normal, ends_ret, ends_skip, absOp_lenRows h30, lenA, intRows_length, absOp_indexAddr, absOp_load, idx_ints h30 s3, load_byte a3 s3, orNone_some, absOp_box, absOp_alloc z32, absOp_fieldAddr, absOp_load, fa32_0 hE, fa32_1 hE, loadVarA a4 s4, loadVarA a30 s30, loadV_eq, orElse_some, orNone_some, cellsA, hget_self, hget_hput, numA, List.map_cons, List.map_nil, absOp_build, build32 hE, absOp_storeQ, putA_no, orUps_some, storeV_eq, Nat.reduceLT, List.set_cons_zero, List.set_cons_succ, keys_und, Option.toArray, List.map_toArray, List.append_toArray, List.toList_toArray, absOp_buildSlice, build_one (v := .int .u8 45) h46 s5 z5 rfl]
    rw [absOp_append (r := (.lsl 13 (0 + room * 2 + room + room * 4 + room + room * 1 + room + room * 2 + room + room * 2) 0 1 none, [(13, (0 + room * 2 + room + room * 4 + room + room * 1 + room + room * 2 + room + room * 2, .arr 1 (cellRows [.int .u8 45]) 0))])) (by
      simp only [F_eq, evA_tmp, get_put, Nat.reduceEqDiff, if_true, if_false, reduceIte]
      exact app_nil (b := 1) (z := .int .u8 0) (xs := [.int .u8 45]) h46 h46 s5 b5 z5 (appRows_lsl (fz := 0) (by simp [hget_hput]) rfl) (by simp) (by simp) (by simp))]
    simp only [RegT, opA_go, opA_when, guardQ_some, guarded_bool, absOp_assign, absOp_move, absOp_bin, absOp_index, absOp_pick, absOp_max, absOp_min, int2_int, strLen, intA, fastA, h9, intOf, orSlow_some, binA, strA, ariA, evA_const, evA_tmp, ofV, ofC, Option.getD_some, putA_some, Nat.ble, Nat.reduceAdd, cond_true, lay_nil, lay_cons, bump, F_eq, h_eq, upHp, List.length_cons, List.length_nil, get_put, Nat.reduceEqDiff, if_true, if_false, reduceIte, List.getElem?_toArray, List.getElem?_cons_succ, List.getElem?_cons_zero, Option.bind_some, Option.map_some, beq_iff_eq, reduceCtorEq, Bool.not_true, Bool.not_false, beq_self_eq_true, thenQ_normal, thenQ_ret, inQ_ret, inQ_normal, ends_ret, ends_skip, absOp_lenRows h30, lenA, intRows_length, absOp_indexAddr, absOp_load, idx_ints h30 s3, load_byte a3 s3, orNone_some, absOp_box, absOp_alloc z32, absOp_fieldAddr, absOp_load, fa32_0 hE, fa32_1 hE, loadVarA a4 s4, loadVarA a30 s30, loadV_eq, orElse_some, orNone_some, cellsA, hget_self, hget_hput, numA, List.map_cons, List.map_nil, absOp_build, build32 hE, absOp_storeQ, putA_no, orUps_some, storeV_eq, Nat.reduceLT, List.set_cons_zero, List.set_cons_succ, keys_und, Option.toArray, List.map_toArray, List.append_toArray, List.toList_toArray]
    subst hs1
    exact ⟨_, rfl, rfl, by simp [hget_hput], .inr ⟨13, _, .inl rfl, rfl, by simp only [hget_self]; rfl⟩⟩
  · subst hc
    refine ends_skip.2 ?_
    simp only [RegT, opA_go, opA_when, guardQ_some, guarded_bool, absOp_assign, absOp_move, absOp_bin, absOp_index, absOp_pick, absOp_max, absOp_min, int2_int, strLen, intA, fastA, h9, intOf, orSlow_some, binA, strA, ariA, evA_const, evA_tmp, ofV, ofC, Option.getD_some, putA_some, Nat.ble, Nat.reduceAdd, cond_true, lay_nil, lay_cons, bump, F_eq, h_eq, upHp, List.length_cons, List.length_nil, get_put, Nat.reduceEqDiff, if_true, if_false, reduceIte, List.getElem?_toArray, List.getElem?_cons_succ, List.getElem?_cons_zero, Option.bind_some, Option.map_some, beq_iff_eq, reduceCtorEq, Bool.not_true, Bool.not_false, beq_self_eq_true, thenQ_normal, thenQ_ret, inQ_ret, inQ_normal, ends_ret, ends_skip, absOp_lenRows h30, lenA, intRows_length, absOp_indexAddr, absOp_load, idx_ints h30 s3, load_byte a3 s3, orNone_some, absOp_box, absOp_alloc z32, absOp_fieldAddr, absOp_load, fa32_0 hE, fa32_1 hE, loadVarA a4 s4, loadVarA a30 s30, loadV_eq, orElse_some, orNone_some, cellsA, hget_self, hget_hput, numA, List.map_cons, List.map_nil, absOp_build, build32 hE, absOp_storeQ, putA_no, orUps_some, storeV_eq, Nat.reduceLT, List.set_cons_zero, List.set_cons_succ, keys_und, Option.toArray, List.map_toArray, List.append_toArray, List.toList_toArray]
    subst hs1
    exact ⟨_, rfl, rfl, by simp [hget_hput], GrownIn.nil⟩
  clear hs1
  rintro ⟨fr1, hp1, nx1⟩ ⟨v, g1, g3, gh1, gg⟩
  simp only at g1 g3 gh1 gg
  have hw0 : IntKind.i64.wrap ((a.length : Int) - 1) = (a.length : Int) - 1 := wrap_fits (by omega) (by omega)
  refine seq_seq.2 (seq_text ?_)
  simp only [RegT, opA_go, opA_when, guardQ_some, guarded_bool, absOp_assign, absOp_move, absOp_bin, absOp_index, absOp_pick, absOp_max, absOp_min, int2_int, strLen, intA, fastA, h9, intOf, orSlow_some, binA, strA, ariA, evA_const, evA_tmp, ofV, ofC, Option.getD_some, putA_some, Nat.ble, Nat.reduceAdd, cond_true, lay_nil, lay_cons, bump, F_eq, h_eq, upHp, List.length_cons, List.length_nil, get_put, Nat.reduceEqDiff, if_true, if_false, reduceIte, List.getElem?_toArray, List.getElem?_cons_succ, List.getElem?_cons_zero, Option.bind_some, Option.map_some, beq_iff_eq, reduceCtorEq, Bool.not_true, Bool.not_false, beq_self_eq_true, thenQ_normal, thenQ_ret, inQ_ret, inQ_normal, ends_ret, ends_skip, absOp_lenRows h30, lenA, intRows_length, absOp_indexAddr, absOp_load, idx_ints h30 s3, load_byte a3 s3, orNone_some, absOp_box, absOp_alloc z32, absOp_fieldAddr, absOp_load, fa32_0 hE, fa32_1 hE, loadVarA a4 s4, loadVarA a30 s30, loadV_eq, orElse_some, orNone_some, cellsA, hget_self, hget_hput, numA, List.map_cons, List.map_nil, absOp_build, build32 hE, absOp_storeQ, putA_no, orUps_some, storeV_eq, Nat.reduceLT, List.set_cons_zero, List.set_cons_succ, keys_und, Option.toArray, List.map_toArray, List.append_toArray, List.toList_toArray, g1, gh1, hw0]
  refine ends_seq.2 (ends_block.2 ?_)
  refine ends_loop (fun k st => ∃ j v, k = a.length - j ∧ j ≤ a.length ∧ st.fr.get 1 = .ref 1 s1 0 0 ∧ st.fr.get 3 = v ∧ hget st.hp 1 = (s1, .var [.s (.bool p), .s (.ssl (intRows a))] false) ∧ GrownIn st.hp okW v ((signW p ++ (a.reverse.take j).map ch).map byteS) ∧ st.fr.get 4 = .s (.int .i64 ((a.length : Int) - 1 - (j : Int)))) (m := a.length) (by omega) ⟨0, v, by simp, by omega, by simp only [get_put, Nat.reduceEqDiff, if_true, if_false, reduceIte, g1], by simp only [get_put, Nat.reduceEqDiff, if_true, if_false, reduceIte, g3], gh1, by simpa using gg, by simp only [get_put, Nat.reduceEqDiff, if_true, if_false, reduceIte]; simp⟩ ?_
  clear g1 g3 gh1 gg
  rintro k ⟨fr2, hp2, nx2⟩ ⟨j, v, rfl, hj, g1, g3, gh1, gg, g4⟩
  simp only at g1 g3 gh1 gg g4
  have d1 : decide ((0 : Int) ≤ (a.length : Int) - 1 - (j : Int)) = decide (j < a.length) := by
    apply Bool.eq_iff_iff.2; simp only [decide_eq_true_eq]; omega
  refine seq_seq.2 (seq_K (fun st' => st'.hp = hp2 ∧ st'.fr.get 1 = .ref 1 s1 0 0 ∧ st'.fr.get 3 = v ∧ st'.fr.get 4 = .s (.int .i64 ((a.length : Int) - 1 - (j : Int))) ∧ st'.fr.get 19 = .s (.bool (decide (j < a.length)))) (region_text.2 ?_) ?_)
  · simp only [RegT, opA_go, opA_when, guardQ_some, guarded_bool, absOp_assign, absOp_move, absOp_bin, absOp_index, absOp_pick, absOp_max, absOp_min, int2_int, strLen, intA, fastA, h9, intOf, orSlow_some, binA, strA, ariA, evA_const, evA_tmp, ofV, ofC, Option.getD_some, putA_some, Nat.ble, Nat.reduceAdd, cond_true, lay_nil, lay_cons, bump, F_eq, h_eq, upHp, List.length_cons, List.length_nil, get_put, Nat.reduceEqDiff, if_true, if_false, reduceIte, List.getElem?_toArray, List.getElem?_cons_succ, List.getElem?_cons_zero, Option.bind_some, Option.map_some, beq_iff_eq, reduceCtorEq, Bool.not_true, Bool.not_false, beq_self_eq_true, thenQ_normal, thenQ_ret, inQ_ret, inQ_normal, ends_ret, ends_skip, absOp_lenRows h30, lenA, intRows_length, absOp_indexAddr, absOp_load, idx_ints h30 s3, load_byte a3 s3, orNone_some, g1, g3, g4, d1]
    (repeat' apply And.intro) <;> (first | trivial | rfl | assumption)
  rintro ⟨fr3, hp3, nx3⟩ ⟨rfl, k1, k3, k4, k19⟩
  simp only at k1 k3 k4 k19 gh1 gg
  refine seq_if (t := decide (j < a.length)) (by simp only [F_eq, evA_tmp, get_put, Nat.reduceEqDiff, if_true, if_false, reduceIte]; exact k19) (fun hc => ?_) (fun hc => ?_)
  · have hc := of_decide_eq_true hc
    rw [ends_skip, thenQ_normal]
    obtain ⟨q, hq⟩ : ∃ q, q = a.length - 1 - j := ⟨_, rfl⟩
    have hqa : q < a.length := by omega
    have e4 : (a.length : Int) - 1 - (j : Int) = (q : Int) := by omega
    rw [e4] at k4
    obtain ⟨x, hx⟩ : ∃ x, x = a[q] := ⟨_, rfl⟩
    have hx10 : x < 10 := by rw [hx]; exact ht _ (List.getElem_mem _)
    have hxr : a.reverse[j]'(by simpa using hc) = x := by rw [List.getElem_reverse, hx]; congr 1; omega
    have hw1 : IntKind.i64.wrap (48 + (x : Int)) = ((48 + x : Nat) : Int) := wrap_nat (by omega) (by omega)
    have hw2 : IntKind.u8.wrap (((48 + x : Nat) : Int)) = ((ch x).toNat : Int) := by
      rw [wrap_u8]
      have : (ch x).toNat = 48 + x := by
        unfold ch
        rw [UInt8.toNat_add, UInt8.toNat_ofNat']
        have : (48 : UInt8).toNat = 48 := rfl
        rw [this]; omega
      rw [this]; omega
    have hnew : (signW p ++ (a.reverse.take (j + 1)).map ch).map byteS = (signW p ++ (a.reverse.take j).map ch).map byteS ++ [.int .u8 ((ch x).toNat : Int)] := by
      rw [take_more (by simpa using hc), hxr]; simp [byteS]
    have hlen : ((signW p ++ (a.reverse.take j).map ch).map byteS).length ≤ a.length + 1 := by
      have : (signW p).length ≤ 1 := by unfold signW; split <;> simp
      simp; omega
    refine seq_K (fun st' => ∃ v, st'.fr.get 1 = .ref 1 s1 0 0 ∧ st'.fr.get 3 = v ∧ hget st'.hp 1 = (s1, .var [.s (.bool p), .s (.ssl (intRows a))] false) ∧ GrownIn st'.hp okW v ((signW p ++ (a.reverse.take (j + 1)).map ch).map byteS) ∧ st'.fr.get 4 = .s (.int .i64 (q : Int))) (ends_block.2 ?_) ?_
    · rw [hnew]
      obtain ⟨v', ups, e, hg, hold⟩ := (gg.keep (j := 30) (sl := (nx3 + room * 8, .arr 1 (cellRows [.int .u8 ((ch x).toNat : Int)]) 0)) (by unfold okW; omega)).more (t := 46) (b := 1) (z := .int .u8 0) (x := .int .u8 ((ch x).toNat : Int)) (k := 31) (kx := 30) (sx := nx3 + room * 8) (s0 := nx3 + room * 9) (cap := some 1) (.inr rfl) h46 s5 b5 z5 hget_self (by omega) (by omega)
      refine region_text.2 ?_
      simp only [RegT, opA_go, opA_when, guardQ_some, guarded_bool, absOp_assign, absOp_move, absOp_bin, absOp_index, absOp_pick, absOp_max, absOp_min, int2_int, strLen, intA, fastA, h9, intOf, orSlow_some, binA, strA, ariA, evA_const, evA_tmp, ofV, ofC, Option.getD_some, putA_some, Nat.ble, Nat.reduceAdd, cond_true, lay_nil, lay_cons, bump, F_eq, h_eq, upHp, List.length_cons, List.length_nil, get_put, Nat.reduceEqDiff, if_true, if_false, reduceIte, List.getElem?_toArray, List.getElem?_cons_succ, List.getElem?_cons_zero, Option.bind_some, Option.map_some, beq_iff_eq, reduceCtorEq, Bool.not_true, Bool.not_false, beq_self_eq_true, thenQ_normal, thenQ_ret, inQ_ret, inQ_normal, ends_ret, ends_skip, absOp_lenRows h30, lenA, intRows_length, absOp_indexAddr, absOp_load, idx_ints h30 s3, load_byte a3 s3, orNone_some, absOp_box, absOp_alloc z32, absOp_fieldAddr, absOp_load, fa32_0 hE, fa32_1 hE, loadVarA a4 s4, loadVarA a30 s30, loadV_eq, orElse_some, orNone_some, cellsA, hget_self, hget_hput, numA, List.map_cons, List.map_nil, absOp_build, build32 hE, absOp_storeQ, putA_no, orUps_some, storeV_eq, Nat.reduceLT, List.set_cons_zero, List.set_cons_succ, keys_und, Option.toArray, List.map_toArray, List.append_toArray, List.toList_toArray, k1, k3, k4, gh1, hqa, ← hx, hw1, absOp_convInt (k1 := .i64) (k2 := .u8) (n := ((48 + x : Nat) : Int)) e3 e5, hw2, absOp_built (z := .int .u8 0) (v := .int .u8 ((ch x).toNat : Int)) h46 s5 z5 rfl, absOp_append (r := (v', ups)), e]
      refine ⟨v', (by first | trivial | rfl | assumption), (by first | trivial | rfl | assumption), ?_, hg, (by first | trivial | rfl | assumption)⟩
      rw [hold 1 (by unfold okW; omega), hget_hput, if_neg (by decide)]
      exact gh1
    · rintro ⟨fr4, hp4, nx4⟩ ⟨v4, p1, p3, ph, pg, p4⟩
      simp only at p1 p3 ph pg p4
      have hw : IntKind.i64.wrap ((q : Int) - 1) = (a.length : Int) - 1 - ((j + 1 : Nat) : Int) := by rw [wrap_fits] <;> omega
      refine region_text.2 ?_
      simp only [RegT, opA_go, opA_when, guardQ_some, guarded_bool, absOp_assign, absOp_move, absOp_bin, absOp_index, absOp_pick, absOp_max, absOp_min, int2_int, strLen, intA, fastA, h9, intOf, orSlow_some, binA, strA, ariA, evA_const, evA_tmp, ofV, ofC, Option.getD_some, putA_some, Nat.ble, Nat.reduceAdd, cond_true, lay_nil, lay_cons, bump, F_eq, h_eq, upHp, List.length_cons, List.length_nil, get_put, Nat.reduceEqDiff, if_true, if_false, reduceIte, List.getElem?_toArray, List.getElem?_cons_succ, List.getElem?_cons_zero, Option.bind_some, Option.map_some, beq_iff_eq, reduceCtorEq, Bool.not_true, Bool.not_false, beq_self_eq_true, thenQ_normal, thenQ_ret, inQ_ret, inQ_normal, ends_ret, ends_skip, absOp_lenRows h30, lenA, intRows_length, absOp_indexAddr, absOp_load, idx_ints h30 s3, load_byte a3 s3, orNone_some, p4, hw]
      exact ⟨a.length - (j + 1), by omega, j + 1, v4, rfl, by omega, p1, p3, ph, pg, (by first | trivial | rfl)⟩
  · have hc := of_decide_eq_false hc
    rw [ends_exit, thenQ_exit, thenQ_exit]
    simp only [inQ_exit, if_true, reduceIte, thenQ_normal]
    have hall : signW p ++ (a.reverse.take j).map ch = writeL p a := by
      rw [List.take_of_length_le (by simp; omega)]; unfold writeL; rw [if_neg hne]
    have hro := gg.rows
    rw [hall, ← strRows_cells] at hro
    refine seq_text ?_
    simp only [RegT, opA_go, opA_when, guardQ_some, guarded_bool, absOp_assign, absOp_move, absOp_bin, absOp_index, absOp_pick, absOp_max, absOp_min, int2_int, strLen, intA, fastA, h9, intOf, orSlow_some, binA, strA, ariA, evA_const, evA_tmp, ofV, ofC, Option.getD_some, putA_some, Nat.ble, Nat.reduceAdd, cond_true, lay_nil, lay_cons, bump, F_eq, h_eq, upHp, List.length_cons, List.length_nil, get_put, Nat.reduceEqDiff, if_true, if_false, reduceIte, List.getElem?_toArray, List.getElem?_cons_succ, List.getElem?_cons_zero, Option.bind_some, Option.map_some, beq_iff_eq, reduceCtorEq, Bool.not_true, Bool.not_false, beq_self_eq_true, thenQ_normal, thenQ_ret, inQ_ret, inQ_normal, ends_ret, ends_skip, absOp_lenRows h30, lenA, intRows_length, absOp_indexAddr, absOp_load, idx_ints h30 s3, load_byte a3 s3, orNone_some, absOp_box, absOp_alloc z32, absOp_fieldAddr, absOp_load, fa32_0 hE, fa32_1 hE, loadVarA a4 s4, loadVarA a30 s30, loadV_eq, orElse_some, orNone_some, cellsA, hget_self, hget_hput, numA, List.map_cons, List.map_nil, absOp_build, build32 hE, absOp_storeQ, putA_no, orUps_some, storeV_eq, Nat.reduceLT, List.set_cons_zero, List.set_cons_succ, keys_und, Option.toArray, List.map_toArray, List.append_toArray, List.toList_toArray, k3, conv_text (l := writeL p a) h46 e5 h9, hro]
    exact ⟨.inr trivial, fin _ _ rfl (by simp only [get_put, Nat.reduceEqDiff, if_true, if_false, reduceIte])⟩
end Go.Proofs.Ytbfdokfelolmbaa.TensW
end
