import Derived.Test.YtbfdokfelolmbaaVaF
import Derived.Test.YtbfdokfelolmbaaChecked
import Derived.KernelRfl
/-
  What the small functions of the program answer.
-/
set_option linter.all false
section
open Go.Proofs.Ytbfdokfelolmbaa.Vai
namespace Go.Proofs.Ytbfdokfelolmbaa.TensW
open Go.Proofs.Ytbfdokfelolmbaa.Vai (Ends)
set_option maxRecDepth 10000
set_option linter.unusedSimpArgs false
theorem hE9 {E : Env} (h : E.P = Try.prog) : E.P.underlying 9 = some .string := by rw [h]; exact Try.underlying9
def isDig (b : UInt8) : Bool := decide (48 ≤ b.toNat) && decide (b.toNat ≤ 57)
def formedT : List UInt8 → Bool
  | [] => false
  | d :: t => decide (d.toNat ≠ 48) && (d :: t).all isDig

theorem u8i {b : UInt8} {k : Nat} : decide ((b.toNat : Int) = (k : Int)) = decide (b.toNat = k) := by simp [Int.ofNat_inj]
theorem formed_tail (E : Env) (hE : E.P = Try.prog) (n : Nat) (c : Code) (hc : Try.f12.body = some c) (J : Code → St → Option (AExit × St)) (s : List UInt8) (hn : s.length + 1 < n) (hs : s.length < 9223372036854775807) (fr : Fr) (hp : List (Nat × Slot)) (nx : Nat) (h0 : fr.get 0 = .s (.str s)) :
    Go.Proofs.Ytbfdokfelolmbaa.Vai.Ends (absCode E 38 n J (tl (tl (tl c))) ⟨fr, hp, nx⟩) (fun e st => e = .ret ∧ st.fr.get 2 = .s (.bool (formedT s))) := by
  have h9 := hE9 hE
  obtain rfl : c = _ := (Option.some.inj hc).symm
  clear hc
  cases s with
  | nil =>
    refine seq_seq.2 (seq_text ?_)
    simp only [RegT, opA_go, opA_when, guardQ_some, guarded_bool, absOp_assign, absOp_move, absOp_bin, absOp_index, absOp_pick, fastA, h9, intOf, orSlow_some, binA, strA, ariA, evA_const, evA_tmp, ofV, ofC, Option.getD_some, putA_some, Nat.ble, Nat.reduceAdd, cond_true, lay_nil, lay_cons, bump, F_eq, h_eq, upHp, List.length_cons, List.length_nil, get_put, Nat.reduceEqDiff, if_true, if_false, reduceIte, List.getElem?_toArray, List.getElem?_cons_succ, List.getElem?_cons_zero, Option.bind_some, Option.map_some, h0,
      Int.toNat_zero, Int.le_refl, beq_iff_eq, reduceCtorEq, Bool.not_false, List.cons_ne_nil, beq_self_eq_true]
    refine seq_if (by simp only [F_eq, evA_tmp, get_put, Nat.reduceEqDiff, if_true, if_false, reduceIte]; rfl) (fun hc => ?_) (fun hc => by simp at hc)
    refine seq_text ?_
    simp only [RegT, opA_go, absOp_assign, evA_const, ofV, ofC, Option.getD_some, putA_some, Nat.ble, cond_true, F_eq, h_eq, upHp, ends_ret, thenQ_ret, bump, get_put, if_true, if_false, reduceIte, formedT, and_self, Nat.reduceEqDiff]
  | cons d t =>
    refine seq_seq.2 (seq_text ?_)
    simp only [RegT, opA_go, opA_when, guardQ_some, guarded_bool, absOp_assign, absOp_move, absOp_bin, absOp_index, absOp_pick, fastA, h9, intOf, orSlow_some, binA, strA, ariA, evA_const, evA_tmp, ofV, ofC, Option.getD_some, putA_some, Nat.ble, Nat.reduceAdd, cond_true, lay_nil, lay_cons, bump, F_eq, h_eq, upHp, List.length_cons, List.length_nil, get_put, Nat.reduceEqDiff, if_true, if_false, reduceIte, List.getElem?_toArray, List.getElem?_cons_succ, List.getElem?_cons_zero, Option.bind_some, Option.map_some, h0,
      Int.toNat_zero, Int.le_refl, beq_iff_eq, reduceCtorEq, Bool.not_false, List.cons_ne_nil, beq_self_eq_true, List.beq_nil_eq, List.isEmpty_cons]
    refine seq_if (by simp only [F_eq, evA_tmp, get_put, Nat.reduceEqDiff, if_true, if_false, reduceIte]; rfl) (fun hc => ?_) (fun hc => ?_)
    · refine seq_text ?_
      have : d.toNat = 48 := by simp at hc; omega
      simp only [RegT, opA_go, absOp_assign, evA_const, ofV, ofC, Option.getD_some, putA_some, Nat.ble, cond_true, F_eq, h_eq, upHp, ends_ret, thenQ_ret, bump, get_put, if_true, if_false, reduceIte, formedT, and_self, Nat.reduceEqDiff, this, ne_eq, not_true_eq_false, decide_false, Bool.false_and]
    · rw [ends_skip, thenQ_normal]
      have hd : d.toNat ≠ 48 := by simp at hc; omega
      refine seq_seq.2 (seq_text ?_)
      simp only [RegT, opA_go, absOp_assign, absOp_move, absOp_lenStr h9, strLen, intA, evA_const, evA_tmp, ofV, ofC, Option.getD_some, putA_some, Nat.ble, cond_true, F_eq, h_eq, upHp, bump, get_put, if_true, if_false, reduceIte, Nat.reduceEqDiff, h0, List.length_cons, List.length_nil]
      refine ends_seq.2 (ends_block.2 ?_)
      refine ends_loop (fun k st => ∃ i : Nat, k = t.length + 1 - i ∧ i ≤ t.length + 1 ∧ st.fr.get 0 = .s (.str (d :: t)) ∧ st.fr.get 24 = .s (.int .i64 (i : Int)) ∧ st.fr.get 23 = .s (.int .i64 ((t.length + 1 : Nat) : Int)) ∧ ((d :: t).take i).all isDig = true) (m := t.length + 1) (by simp at hn; omega) ⟨0, by simp, by omega, by simp only [get_put, Nat.reduceEqDiff, if_true, if_false, reduceIte, h0], by simp only [get_put, Nat.reduceEqDiff, if_true, if_false, reduceIte, h0]; rfl, by simp only [get_put, Nat.reduceEqDiff, if_true, if_false, reduceIte, h0], by simp⟩ ?_
      rintro k ⟨fr1, hp1, nx1⟩ ⟨i, rfl, hi, g0, g24, g23, hall⟩
      simp only at g0 g24 g23
      refine seq_text ?_
      simp only [RegT, opA_go, absOp_bin, binA, ariA, orSlow_some, evA_tmp, putA_some, Nat.ble, cond_true, F_eq, h_eq, upHp, bump, g24, g23, if_true, reduceIte]
      refine seq_if (by simp only [F_eq, evA_tmp, get_put, Nat.reduceEqDiff, if_true, if_false, reduceIte]; rfl) (fun hlt => ?_) (fun hlt => ?_)
      · have hlt : i < t.length + 1 := by simp at hlt; omega
        have hget : (d :: t)[i]? = some (d :: t)[i] := List.getElem?_eq_getElem (by simpa using hlt)
        rw [ends_skip, thenQ_normal]
        refine ends_seq.2 (ends_block.2 ?_)
        refine seq_text ?_
        simp only [RegT, opA_go, absOp_assign, absOp_move, evA_tmp, putA_some, Nat.ble, cond_true, F_eq, h_eq, upHp, bump, g24, g23, g0, get_put, Nat.reduceEqDiff, if_true, if_false, reduceIte]
        by_cases hA : (d :: t)[i].toNat < 48
        · have hA' : decide (((d :: t)[i].toNat : Int) < 48) = true := by simp; omega
          refine seq_text ?_
          simp only [RegT, opA_go, opA_when, guardQ_some, guarded_bool, absOp_assign, absOp_move, absOp_bin, absOp_index, absOp_pick, fastA, h9, intOf, orSlow_some, binA, strA, ariA, evA_const, evA_tmp, ofV, ofC, Option.getD_some, putA_some, Nat.ble, Nat.reduceAdd, cond_true, bump, F_eq, h_eq, upHp, List.length_cons, List.length_nil, get_put, Nat.reduceEqDiff, if_true, if_false, reduceIte, List.getElem?_toArray, List.getElem?_cons_succ, List.getElem?_cons_zero, Option.bind_some, Option.map_some, g0, g24, g23, hget, Int.natCast_nonneg, Int.toNat_natCast, hA', beq_self_eq_true, Bool.false_eq_true, beq_iff_eq, reduceCtorEq]
          refine ends_if.2 ?_
          simp only [F_eq, evA_tmp, get_put, Nat.reduceEqDiff, if_true, if_false, reduceIte, condQ_bool]
          refine ⟨fun _ => ?_, fun h => (by cases h)⟩
          refine seq_text ?_
          simp only [RegT, opA_go, absOp_assign, evA_const, ofV, ofC, Option.getD_some, putA_some, Nat.ble, cond_true, F_eq, h_eq, upHp, ends_ret, thenQ_ret, inQ_ret, bump, get_put, if_true, if_false, reduceIte, Nat.reduceEqDiff]
          refine ⟨trivial, ?_⟩
          have : formedT (d :: t) = false := by
            have : (d :: t).all isDig = false := by
              rw [List.all_eq_false]
              exact ⟨(d :: t)[i], List.getElem_mem _, by simp [isDig]; omega⟩
            simp only [formedT, this, Bool.and_false]
          rw [this]
        · have hA' : decide (((d :: t)[i].toNat : Int) < 48) = false := by simp; omega
          by_cases hB : 57 < (d :: t)[i].toNat
          · have hB' : decide ((57 : Int) < ((d :: t)[i].toNat : Int)) = true := by simp; omega
            refine seq_text ?_
            simp only [RegT, opA_go, opA_when, guardQ_some, guarded_bool, absOp_assign, absOp_move, absOp_bin, absOp_index, absOp_pick, fastA, h9, intOf, orSlow_some, binA, strA, ariA, evA_const, evA_tmp, ofV, ofC, Option.getD_some, putA_some, Nat.ble, Nat.reduceAdd, cond_true, bump, F_eq, h_eq, upHp, List.length_cons, List.length_nil, get_put, Nat.reduceEqDiff, if_true, if_false, reduceIte, List.getElem?_toArray, List.getElem?_cons_succ, List.getElem?_cons_zero, Option.bind_some, Option.map_some, g0, g24, g23, hget, Int.natCast_nonneg, Int.toNat_natCast, hA', hB', beq_self_eq_true, Bool.false_eq_true, beq_iff_eq, reduceCtorEq]
            refine ends_if.2 ?_
            simp only [F_eq, evA_tmp, get_put, Nat.reduceEqDiff, if_true, if_false, reduceIte, condQ_bool]
            refine ⟨fun _ => ?_, fun h => (by cases h)⟩
            refine seq_text ?_
            simp only [RegT, opA_go, absOp_assign, evA_const, ofV, ofC, Option.getD_some, putA_some, Nat.ble, cond_true, F_eq, h_eq, upHp, ends_ret, thenQ_ret, inQ_ret, bump, get_put, if_true, if_false, reduceIte, Nat.reduceEqDiff]
            refine ⟨trivial, ?_⟩
            have : formedT (d :: t) = false := by
              have : (d :: t).all isDig = false := by
                rw [List.all_eq_false]
                exact ⟨(d :: t)[i], List.getElem_mem _, by simp [isDig]; omega⟩
              simp only [formedT, this, Bool.and_false]
            rw [this]
          · have hB' : decide ((57 : Int) < ((d :: t)[i].toNat : Int)) = false := by simp; omega
            refine seq_text ?_
            simp only [RegT, opA_go, opA_when, guardQ_some, guarded_bool, absOp_assign, absOp_move, absOp_bin, absOp_index, absOp_pick, fastA, h9, intOf, orSlow_some, binA, strA, ariA, evA_const, evA_tmp, ofV, ofC, Option.getD_some, putA_some, Nat.ble, Nat.reduceAdd, cond_true, bump, F_eq, h_eq, upHp, List.length_cons, List.length_nil, get_put, Nat.reduceEqDiff, if_true, if_false, reduceIte, List.getElem?_toArray, List.getElem?_cons_succ, List.getElem?_cons_zero, Option.bind_some, Option.map_some, g0, g24, g23, hget, Int.natCast_nonneg, Int.toNat_natCast, hA', hB', beq_self_eq_true, Bool.false_eq_true, beq_iff_eq, reduceCtorEq]
            refine ends_if.2 ?_
            simp only [F_eq, evA_tmp, get_put, Nat.reduceEqDiff, if_true, if_false, reduceIte, condQ_bool]
            refine ⟨fun h => (by cases h), fun _ => ?_⟩
            rw [ends_skip, inQ_normal, thenQ_normal]
            refine region_text.2 ?_
            simp only [RegT, opA_go, absOp_assign, absOp_move, absOp_bin, binA, ariA, orSlow_some, evA_const, evA_tmp, ofV, ofC, Option.getD_some, putA_some, Nat.ble, cond_true, F_eq, h_eq, upHp, thenQ_normal, bump, get_put, if_true, if_false, reduceIte, Nat.reduceEqDiff, g24, g23, g0]
            have hw : IntKind.i64.wrap ((i : Int) + 1) = ((i + 1 : Nat) : Int) := by
              have hs' : t.length + 1 < 9223372036854775807 := by simpa using hs
              have := wrap_small (m := i + 1) (by omega)
              rw [← this]; congr 1
            refine ⟨t.length + 1 - (i + 1), by omega, i + 1, rfl, by omega, trivial, by rw [hw], trivial, ?_⟩
            rw [List.take_add_one, hget, List.all_append, hall]
            simp [isDig]; omega
      · have hend : i = t.length + 1 := by simp at hlt; omega
        refine ends_exit.2 ?_
        simp only [thenQ_exit, inQ_exit, thenQ_normal, if_true, reduceIte]
        refine seq_text ?_
        simp only [RegT, opA_go, absOp_assign, evA_const, ofV, ofC, Option.getD_some, putA_some, Nat.ble, cond_true, F_eq, h_eq, upHp, ends_ret, thenQ_ret, bump, get_put, if_true, if_false, reduceIte, Nat.reduceEqDiff]
        refine ⟨trivial, ?_⟩
        have : formedT (d :: t) = true := by
          have e : (d :: t).take i = d :: t := List.take_of_length_le (by simp; omega)
          rw [e] at hall
          simp only [formedT, hall, Bool.and_true, decide_eq_true_eq]
          exact hd
        rw [this]

/-- Is it a whole number in tens? -/
def formedL (l : List UInt8) : Bool := l == [48] || formedT (match l with | 45 :: r => r | l => l)

theorem formed_abs (E : Env) (hE : E.P = Try.prog) (hraw : E.raw 12 = false) (n : Nat) (l : List UInt8) (hn : l.length + 1 < n) (hs : l.length < 9223372036854775807) : absBody E n 12 Try.f12 [.s (.str l)] [] = some (.s (.bool (formedL l)), []) := by
  have h9 := hE9 hE
  have fin : ∀ (J : Code → St → Option (AExit × St)) (st : St) (r : Bool), st.fr.get 2 = .s (.bool r) → r = formedL l → finish E 12 0 Try.f12 st = some (.s (.bool (formedL l)), []) := by
    intro J st r h1 h2
    refine finish_sealed (l := [.s (.bool (formedL l))]) ?_ hraw rfl |>.trans rfl
    simp [Try.f12, resultA, resultA.go, h1, h2]
  refine body_ends rfl (by simp [Try.ntmps12]) rfl ?_
  rw [Try.ntmps12]
  refine seq_text ?_
  simp only [RegT, opA_go, absOp_assign, evA_const, ofV, ofC, Option.getD_some, putA_some, Nat.ble, Nat.reduceAdd, cond_true, lay_nil, lay_cons, bump, F_eq, h_eq, upHp, List.length_cons, List.length_nil]
  refine seq_seq.2 (seq_text ?_)
  simp only [RegT, opA_go, absOp_assign, absOp_move, absOp_bin, orSlow_some, binA, strA, evA_const, evA_tmp, ofV, ofC, Option.getD_some, putA_some, Nat.ble, Nat.reduceAdd, cond_true, lay_nil, lay_cons, bump, F_eq, h_eq, upHp, List.length_cons, List.length_nil, get_put, Nat.reduceEqDiff, if_true, if_false, reduceIte]
  refine seq_if (by simp only [F_eq, evA_tmp, get_put, Nat.reduceEqDiff, if_true, if_false, reduceIte]; rfl) (fun hc => ?_) (fun hc => ?_)
  · refine seq_text ?_
    simp only [RegT, opA_go, absOp_assign, evA_const, ofV, ofC, Option.getD_some, putA_some, Nat.ble, cond_true, F_eq, h_eq, upHp, ends_ret, thenQ_ret, bump, get_put, if_true, if_false, reduceIte, Nat.reduceEqDiff]
    refine ⟨.inr trivial, fin (absRun E 38 n n) _ true (by simp only [get_put, if_true, reduceIte]) ?_⟩
    simp only [formedL]
    have : (l == [48]) = true := hc
    rw [this]; rfl
  · have hc' : (l == [48]) = false := hc
    rw [ends_skip, thenQ_normal]
    cases l with
    | nil =>
      refine seq_seq.2 (seq_text ?_)
      simp only [RegT, opA_go, opA_when, guardQ_some, guarded_bool, absOp_assign, absOp_move, absOp_bin, absOp_index, absOp_pick, fastA, h9, intOf, orSlow_some, binA, strA, ariA, evA_const, evA_tmp, ofV, ofC, Option.getD_some, putA_some, Nat.ble, Nat.reduceAdd, cond_true, lay_nil, lay_cons, bump, F_eq, h_eq, upHp, List.length_cons, List.length_nil, get_put, Nat.reduceEqDiff, if_true, if_false, reduceIte, List.getElem?_toArray, List.getElem?_cons_succ, List.getElem?_cons_zero, Option.bind_some, Option.map_some,
        Int.toNat_zero, Int.le_refl, beq_iff_eq, reduceCtorEq, Bool.not_true, List.cons_ne_nil, beq_self_eq_true]
      refine seq_if (by simp only [F_eq, evA_tmp, get_put, Nat.reduceEqDiff, if_true, if_false, reduceIte]; rfl) (fun hc => by simp at hc) (fun hc => ?_)
      rw [ends_skip, thenQ_normal]
      exact (formed_tail E hE n _ rfl _ [] (by simpa using hn) (by simp) _ _ _ (by simp only [get_put, Nat.reduceEqDiff, if_true, if_false, reduceIte])).mono fun e st ⟨h1, h2⟩ => ⟨.inr h1, fin (absRun E 38 n n) st _ h2 (by simp [formedL])⟩
    | cons b t =>
      refine seq_seq.2 (seq_text ?_)
      simp only [RegT, opA_go, opA_when, guardQ_some, guarded_bool, absOp_assign, absOp_move, absOp_bin, absOp_index, absOp_pick, fastA, h9, intOf, orSlow_some, binA, strA, ariA, evA_const, evA_tmp, ofV, ofC, Option.getD_some, putA_some, Nat.ble, Nat.reduceAdd, cond_true, lay_nil, lay_cons, bump, F_eq, h_eq, upHp, List.length_cons, List.length_nil, get_put, Nat.reduceEqDiff, if_true, if_false, reduceIte, List.getElem?_toArray, List.getElem?_cons_succ, List.getElem?_cons_zero, Option.bind_some, Option.map_some,
        Int.toNat_zero, Int.le_refl, beq_iff_eq, reduceCtorEq, Bool.not_false, List.cons_ne_nil, beq_self_eq_true, List.beq_nil_eq, List.isEmpty_cons]
      refine seq_if (by simp only [F_eq, evA_tmp, get_put, Nat.reduceEqDiff, if_true, if_false, reduceIte]; rfl) (fun hc => ?_) (fun hc => ?_)
      · have hb : b = 45 := by
          have : b.toNat = 45 := by simp at hc; omega
          exact UInt8.toNat_inj.1 this
        subst hb
        have h1 : (1 : Int) ≤ ((t.length + 1 : Nat) : Int) := by omega
        rw [region_text]
        simp only [RegT, opA_go, absOp_assign, absOp_move, absOp_slice, fastA, h9, intOf, orSlow_some, evA_const, evA_tmp, ofV, ofC, Option.getD_some, putA_some, Nat.ble, Nat.reduceAdd, cond_true, bump, F_eq, h_eq, upHp, List.length_cons, List.length_nil, get_put, Nat.reduceEqDiff, if_true, if_false, reduceIte, Option.map_some, Option.map_none, boundA, Int.reduceLE, h1, and_self, Int.toNat_one, Int.reduceToNat, List.drop_succ_cons, List.drop_zero, Nat.add_sub_cancel, List.take_length, thenQ_normal]
        refine (formed_tail E hE n _ rfl _ t (by simp at hn; omega) (by simp at hs; omega) _ _ _ (by simp only [get_put, Nat.reduceEqDiff, if_true, if_false, reduceIte])).mono fun e st ⟨h1, h2⟩ => ⟨.inr h1, fin (absRun E 38 n n) st _ h2 ?_⟩
        simp [formedL]
      · have hb : b ≠ 45 := by
          intro e; subst e; simp at hc
        rw [ends_skip, thenQ_normal]
        refine (formed_tail E hE n _ rfl _ (b :: t) hn hs _ _ _ (by simp only [get_put, Nat.reduceEqDiff, if_true, if_false, reduceIte])).mono fun e st ⟨h1, h2⟩ => ⟨.inr h1, fin (absRun E 38 n n) st _ h2 ?_⟩
        simp only [formedL, hc', Bool.false_or]
        congr 1
        split
        · rename_i h; simp at h; exact absurd h.1 hb
        · rfl

end Go.Proofs.Ytbfdokfelolmbaa.TensW
end

section
open Go.Proofs.Ytbfdokfelolmbaa.Vai
namespace Go.Proofs.Ytbfdokfelolmbaa.TensW
set_option maxRecDepth 10000
set_option linter.unusedSimpArgs false

/-- Digits with a sign; 0 has none. -/
def signedL (below : Bool) (l : List UInt8) : List UInt8 := if below && !(l == [48]) then 45 :: l else l

theorem signed_abs (E : Env) (hE : E.P = Try.prog) (hraw : E.raw 28 = false) (n : Nat) (below : Bool) (l : List UInt8) (hs : l.length < 9223372036854775807) : absBody E n 28 Try.f28 [.s (.bool below), .s (.str l)] [] = some (.s (.str (signedL below l)), []) := by
  have h9 := hE9 hE
  have fin : ∀ (st : St) (r : List UInt8), st.fr.get 4 = .s (.str r) → r = signedL below l → finish E 28 0 Try.f28 st = some (.s (.str (signedL below l)), []) := by
    intro st r h1 h2
    refine finish_sealed (l := [.s (.str (signedL below l))]) ?_ hraw rfl |>.trans rfl
    simp [Try.f28, resultA, resultA.go, h1, h2]
  refine body_ends rfl (by simp [Try.ntmps28]) rfl ?_
  rw [Try.ntmps28]
  refine seq_text ?_
  simp only [RegT, opA_go, opA_when, guardQ_some, guarded_bool, absOp_assign, absOp_move, absOp_bin, absOp_index, absOp_pick, absOp_lenStr h9, absOp_max, absOp_min, int2_int, strLen, intA, fastA, h9, intOf, orSlow_some, binA, strA, ariA, evA_const, evA_tmp, ofV, ofC, Option.getD_some, putA_some, Nat.ble, Nat.reduceAdd, cond_true, lay_nil, lay_cons, bump, F_eq, h_eq, upHp, List.length_cons, List.length_nil, get_put, Nat.reduceEqDiff, if_true, if_false, reduceIte, List.getElem?_toArray, List.getElem?_cons_succ, List.getElem?_cons_zero, Option.bind_some, Option.map_some, beq_iff_eq, reduceCtorEq, Bool.not_true, Bool.not_false, beq_self_eq_true, thenQ_normal, thenQ_ret, inQ_ret, inQ_normal, ends_ret, ends_skip]
  have hadd : 1 + l.length ≤ 9223372036854775807 := by omega
  cases below with
  | true =>
    refine seq_seq.2 (seq_text ?_)
    simp only [RegT, opA_go, opA_when, guardQ_some, guarded_bool, absOp_assign, absOp_move, absOp_bin, absOp_index, absOp_pick, absOp_lenStr h9, absOp_max, absOp_min, int2_int, strLen, intA, fastA, h9, intOf, orSlow_some, binA, strA, ariA, evA_const, evA_tmp, ofV, ofC, Option.getD_some, putA_some, Nat.ble, Nat.reduceAdd, cond_true, lay_nil, lay_cons, bump, F_eq, h_eq, upHp, List.length_cons, List.length_nil, get_put, Nat.reduceEqDiff, if_true, if_false, reduceIte, List.getElem?_toArray, List.getElem?_cons_succ, List.getElem?_cons_zero, Option.bind_some, Option.map_some, beq_iff_eq, reduceCtorEq, Bool.not_true, Bool.not_false, beq_self_eq_true, thenQ_normal, thenQ_ret, inQ_ret, inQ_normal, ends_ret, ends_skip]
    refine seq_if (by simp only [F_eq, evA_tmp, get_put, Nat.reduceEqDiff, if_true, if_false, reduceIte]; rfl) (fun hc => ?_) (fun hc => ?_)
    · refine seq_text ?_
      simp only [RegT, opA_go, opA_when, guardQ_some, guarded_bool, absOp_assign, absOp_move, absOp_bin, absOp_index, absOp_pick, absOp_lenStr h9, absOp_max, absOp_min, int2_int, strLen, intA, fastA, h9, intOf, orSlow_some, binA, strA, ariA, evA_const, evA_tmp, ofV, ofC, Option.getD_some, putA_some, Nat.ble, Nat.reduceAdd, cond_true, lay_nil, lay_cons, bump, F_eq, h_eq, upHp, List.length_cons, List.length_nil, get_put, Nat.reduceEqDiff, if_true, if_false, reduceIte, List.getElem?_toArray, List.getElem?_cons_succ, List.getElem?_cons_zero, Option.bind_some, Option.map_some, beq_iff_eq, reduceCtorEq, Bool.not_true, Bool.not_false, beq_self_eq_true, thenQ_normal, thenQ_ret, inQ_ret, inQ_normal, ends_ret, ends_skip, hadd, List.cons_append, List.nil_append, Nat.zero_add]
      exact ⟨.inr trivial, fin _ (45 :: l) (by simp only [get_put, Nat.reduceEqDiff, if_true, if_false, reduceIte]) (by simp only [signedL, Bool.true_and]; rw [if_pos hc])⟩
    · rw [ends_skip, thenQ_normal]
      refine seq_text ?_
      simp only [RegT, opA_go, opA_when, guardQ_some, guarded_bool, absOp_assign, absOp_move, absOp_bin, absOp_index, absOp_pick, absOp_lenStr h9, absOp_max, absOp_min, int2_int, strLen, intA, fastA, h9, intOf, orSlow_some, binA, strA, ariA, evA_const, evA_tmp, ofV, ofC, Option.getD_some, putA_some, Nat.ble, Nat.reduceAdd, cond_true, lay_nil, lay_cons, bump, F_eq, h_eq, upHp, List.length_cons, List.length_nil, get_put, Nat.reduceEqDiff, if_true, if_false, reduceIte, List.getElem?_toArray, List.getElem?_cons_succ, List.getElem?_cons_zero, Option.bind_some, Option.map_some, beq_iff_eq, reduceCtorEq, Bool.not_true, Bool.not_false, beq_self_eq_true, thenQ_normal, thenQ_ret, inQ_ret, inQ_normal, ends_ret, ends_skip]
      exact ⟨.inr trivial, fin _ l (by simp only [get_put, Nat.reduceEqDiff, if_true, if_false, reduceIte]) (by simp only [signedL, Bool.true_and]; rw [if_neg]; rw [hc]; simp)⟩
  | false =>
    refine seq_seq.2 (seq_text ?_)
    simp only [RegT, opA_go, opA_when, guardQ_some, guarded_bool, absOp_assign, absOp_move, absOp_bin, absOp_index, absOp_pick, absOp_lenStr h9, absOp_max, absOp_min, int2_int, strLen, intA, fastA, h9, intOf, orSlow_some, binA, strA, ariA, evA_const, evA_tmp, ofV, ofC, Option.getD_some, putA_some, Nat.ble, Nat.reduceAdd, cond_true, lay_nil, lay_cons, bump, F_eq, h_eq, upHp, List.length_cons, List.length_nil, get_put, Nat.reduceEqDiff, if_true, if_false, reduceIte, List.getElem?_toArray, List.getElem?_cons_succ, List.getElem?_cons_zero, Option.bind_some, Option.map_some, beq_iff_eq, reduceCtorEq, Bool.not_true, Bool.not_false, beq_self_eq_true, thenQ_normal, thenQ_ret, inQ_ret, inQ_normal, ends_ret, ends_skip, Bool.false_eq_true, beq_true, Bool.false_beq]
    refine seq_if (by simp only [F_eq, evA_tmp, get_put, Nat.reduceEqDiff, if_true, if_false, reduceIte]; rfl) (fun hc => by cases hc) (fun hc => ?_)
    rw [ends_skip, thenQ_normal]
    refine seq_text ?_
    simp only [RegT, opA_go, opA_when, guardQ_some, guarded_bool, absOp_assign, absOp_move, absOp_bin, absOp_index, absOp_pick, absOp_lenStr h9, absOp_max, absOp_min, int2_int, strLen, intA, fastA, h9, intOf, orSlow_some, binA, strA, ariA, evA_const, evA_tmp, ofV, ofC, Option.getD_some, putA_some, Nat.ble, Nat.reduceAdd, cond_true, lay_nil, lay_cons, bump, F_eq, h_eq, upHp, List.length_cons, List.length_nil, get_put, Nat.reduceEqDiff, if_true, if_false, reduceIte, List.getElem?_toArray, List.getElem?_cons_succ, List.getElem?_cons_zero, Option.bind_some, Option.map_some, beq_iff_eq, reduceCtorEq, Bool.not_true, Bool.not_false, beq_self_eq_true, thenQ_normal, thenQ_ret, inQ_ret, inQ_normal, ends_ret, ends_skip]
    exact ⟨.inr trivial, fin _ l (by simp only [get_put, Nat.reduceEqDiff, if_true, if_false, reduceIte]) (by simp [signedL])⟩

end Go.Proofs.Ytbfdokfelolmbaa.TensW
end

section
open Go.Proofs.Ytbfdokfelolmbaa.Vai
namespace Go.Proofs.Ytbfdokfelolmbaa.TensW
set_option maxRecDepth 10000
set_option linter.unusedSimpArgs false

/-- Which of two rows of digits is the greater number. -/
def sizeL (a b : List UInt8) : Int :=
  if a.length < b.length then -1 else if b.length < a.length then 1 else if Op.bytesLess a b then -1 else if a == b then 0 else 1

theorem size_abs (E : Env) (hE : E.P = Try.prog) (hraw : E.raw 30 = false) (n : Nat) (a b : List UInt8) (ha : a.length < 9223372036854775807) (hb : b.length < 9223372036854775807) : absBody E n 30 Try.f30 [.s (.str a), .s (.str b)] [] = some (.s (.int .i64 (sizeL a b)), []) := by
  have h9 := hE9 hE
  have fin : ∀ (st : St) (r : Int), st.fr.get 4 = .s (.int .i64 r) → r = sizeL a b → finish E 30 0 Try.f30 st = some (.s (.int .i64 (sizeL a b)), []) := by
    intro st r h1 h2
    refine finish_sealed (l := [.s (.int .i64 (sizeL a b))]) ?_ hraw rfl |>.trans rfl
    simp [Try.f30, resultA, resultA.go, h1, h2]
  refine body_ends rfl (by simp [Try.ntmps30]) rfl ?_
  rw [Try.ntmps30]
  refine seq_text ?_
  simp only [RegT, opA_go, opA_when, guardQ_some, guarded_bool, absOp_assign, absOp_move, absOp_bin, absOp_index, absOp_pick, absOp_lenStr h9, absOp_max, absOp_min, int2_int, strLen, intA, fastA, h9, intOf, orSlow_some, binA, strA, ariA, evA_const, evA_tmp, ofV, ofC, Option.getD_some, putA_some, Nat.ble, Nat.reduceAdd, cond_true, lay_nil, lay_cons, bump, F_eq, h_eq, upHp, List.length_cons, List.length_nil, get_put, Nat.reduceEqDiff, if_true, if_false, reduceIte, List.getElem?_toArray, List.getElem?_cons_succ, List.getElem?_cons_zero, Option.bind_some, Option.map_some, beq_iff_eq, reduceCtorEq, Bool.not_true, Bool.not_false, beq_self_eq_true, thenQ_normal, thenQ_ret, inQ_ret, inQ_normal, ends_ret, ends_skip]
  refine ends_seq.2 (ends_block.2 ?_)
  refine seq_text ?_
  simp only [RegT, opA_go, opA_when, guardQ_some, guarded_bool, absOp_assign, absOp_move, absOp_bin, absOp_index, absOp_pick, absOp_lenStr h9, absOp_max, absOp_min, int2_int, strLen, intA, fastA, h9, intOf, orSlow_some, binA, strA, ariA, evA_const, evA_tmp, ofV, ofC, Option.getD_some, putA_some, Nat.ble, Nat.reduceAdd, cond_true, lay_nil, lay_cons, bump, F_eq, h_eq, upHp, List.length_cons, List.length_nil, get_put, Nat.reduceEqDiff, if_true, if_false, reduceIte, List.getElem?_toArray, List.getElem?_cons_succ, List.getElem?_cons_zero, Option.bind_some, Option.map_some, beq_iff_eq, reduceCtorEq, Bool.not_true, Bool.not_false, beq_self_eq_true, thenQ_normal, thenQ_ret, inQ_ret, inQ_normal, ends_ret, ends_skip]
  refine ends_if.2 ?_
  simp only [F_eq, evA_tmp, get_put, Nat.reduceEqDiff, if_true, if_false, reduceIte]
  refine ⟨fun hc => ?_, fun hc => ?_⟩
  · have hne : a.length ≠ b.length := by simp at hc; omega
    refine seq_text ?_
    simp only [RegT, opA_go, opA_when, guardQ_some, guarded_bool, absOp_assign, absOp_move, absOp_bin, absOp_index, absOp_pick, absOp_lenStr h9, absOp_max, absOp_min, int2_int, strLen, intA, fastA, h9, intOf, orSlow_some, binA, strA, ariA, evA_const, evA_tmp, ofV, ofC, Option.getD_some, putA_some, Nat.ble, Nat.reduceAdd, cond_true, lay_nil, lay_cons, bump, F_eq, h_eq, upHp, List.length_cons, List.length_nil, get_put, Nat.reduceEqDiff, if_true, if_false, reduceIte, List.getElem?_toArray, List.getElem?_cons_succ, List.getElem?_cons_zero, Option.bind_some, Option.map_some, beq_iff_eq, reduceCtorEq, Bool.not_true, Bool.not_false, beq_self_eq_true, thenQ_normal, thenQ_ret, inQ_ret, inQ_normal, ends_ret, ends_skip]
    refine ⟨.inr trivial, fin _ _ (by simp only [get_put, Nat.reduceEqDiff, if_true, if_false, reduceIte]; rfl) ?_⟩
    rw [wrap_fits (by omega) (by omega)]
    unfold sizeL
    by_cases h : a.length < b.length
    · rw [if_pos h]; (repeat' split) <;> omega
    · rw [if_neg h, if_pos (show b.length < a.length by omega)]; (repeat' split) <;> omega
  · have heq : a.length = b.length := by simp at hc; omega
    refine seq_text ?_
    simp only [RegT, opA_go, opA_when, guardQ_some, guarded_bool, absOp_assign, absOp_move, absOp_bin, absOp_index, absOp_pick, absOp_lenStr h9, absOp_max, absOp_min, int2_int, strLen, intA, fastA, h9, intOf, orSlow_some, binA, strA, ariA, evA_const, evA_tmp, ofV, ofC, Option.getD_some, putA_some, Nat.ble, Nat.reduceAdd, cond_true, lay_nil, lay_cons, bump, F_eq, h_eq, upHp, List.length_cons, List.length_nil, get_put, Nat.reduceEqDiff, if_true, if_false, reduceIte, List.getElem?_toArray, List.getElem?_cons_succ, List.getElem?_cons_zero, Option.bind_some, Option.map_some, beq_iff_eq, reduceCtorEq, Bool.not_true, Bool.not_false, beq_self_eq_true, thenQ_normal, thenQ_ret, inQ_ret, inQ_normal, ends_ret, ends_skip]
    refine ends_if.2 ?_
    simp only [F_eq, evA_tmp, get_put, Nat.reduceEqDiff, if_true, if_false, reduceIte]
    refine ⟨fun hl => ?_, fun hl => ?_⟩
    · refine seq_text ?_
      simp only [RegT, opA_go, opA_when, guardQ_some, guarded_bool, absOp_assign, absOp_move, absOp_bin, absOp_index, absOp_pick, absOp_lenStr h9, absOp_max, absOp_min, int2_int, strLen, intA, fastA, h9, intOf, orSlow_some, binA, strA, ariA, evA_const, evA_tmp, ofV, ofC, Option.getD_some, putA_some, Nat.ble, Nat.reduceAdd, cond_true, lay_nil, lay_cons, bump, F_eq, h_eq, upHp, List.length_cons, List.length_nil, get_put, Nat.reduceEqDiff, if_true, if_false, reduceIte, List.getElem?_toArray, List.getElem?_cons_succ, List.getElem?_cons_zero, Option.bind_some, Option.map_some, beq_iff_eq, reduceCtorEq, Bool.not_true, Bool.not_false, beq_self_eq_true, thenQ_normal, thenQ_ret, inQ_ret, inQ_normal, ends_ret, ends_skip]
      exact ⟨.inr trivial, fin _ (-1) (by simp only [get_put, Nat.reduceEqDiff, if_true, if_false, reduceIte]) (by unfold sizeL; rw [if_neg (by omega), if_neg (by omega), if_pos hl])⟩
    · refine seq_text ?_
      simp only [RegT, opA_go, opA_when, guardQ_some, guarded_bool, absOp_assign, absOp_move, absOp_bin, absOp_index, absOp_pick, absOp_lenStr h9, absOp_max, absOp_min, int2_int, strLen, intA, fastA, h9, intOf, orSlow_some, binA, strA, ariA, evA_const, evA_tmp, ofV, ofC, Option.getD_some, putA_some, Nat.ble, Nat.reduceAdd, cond_true, lay_nil, lay_cons, bump, F_eq, h_eq, upHp, List.length_cons, List.length_nil, get_put, Nat.reduceEqDiff, if_true, if_false, reduceIte, List.getElem?_toArray, List.getElem?_cons_succ, List.getElem?_cons_zero, Option.bind_some, Option.map_some, beq_iff_eq, reduceCtorEq, Bool.not_true, Bool.not_false, beq_self_eq_true, thenQ_normal, thenQ_ret, inQ_ret, inQ_normal, ends_ret, ends_skip]
      refine ends_if.2 ?_
      simp only [F_eq, evA_tmp, get_put, Nat.reduceEqDiff, if_true, if_false, reduceIte]
      refine ⟨fun hg => ?_, fun hg => ?_⟩
      · refine seq_text ?_
        simp only [RegT, opA_go, opA_when, guardQ_some, guarded_bool, absOp_assign, absOp_move, absOp_bin, absOp_index, absOp_pick, absOp_lenStr h9, absOp_max, absOp_min, int2_int, strLen, intA, fastA, h9, intOf, orSlow_some, binA, strA, ariA, evA_const, evA_tmp, ofV, ofC, Option.getD_some, putA_some, Nat.ble, Nat.reduceAdd, cond_true, lay_nil, lay_cons, bump, F_eq, h_eq, upHp, List.length_cons, List.length_nil, get_put, Nat.reduceEqDiff, if_true, if_false, reduceIte, List.getElem?_toArray, List.getElem?_cons_succ, List.getElem?_cons_zero, Option.bind_some, Option.map_some, beq_iff_eq, reduceCtorEq, Bool.not_true, Bool.not_false, beq_self_eq_true, thenQ_normal, thenQ_ret, inQ_ret, inQ_normal, ends_ret, ends_skip]
        refine ⟨.inr trivial, fin _ 1 (by simp only [get_put, Nat.reduceEqDiff, if_true, if_false, reduceIte]) ?_⟩
        unfold sizeL
        rw [if_neg (by omega), if_neg (by omega), if_neg (by rw [hl]; simp), if_neg]
        simp [hl] at hg; simpa using hg
      · rw [ends_skip, inQ_normal, thenQ_normal]
        refine seq_text ?_
        simp only [RegT, opA_go, opA_when, guardQ_some, guarded_bool, absOp_assign, absOp_move, absOp_bin, absOp_index, absOp_pick, absOp_lenStr h9, absOp_max, absOp_min, int2_int, strLen, intA, fastA, h9, intOf, orSlow_some, binA, strA, ariA, evA_const, evA_tmp, ofV, ofC, Option.getD_some, putA_some, Nat.ble, Nat.reduceAdd, cond_true, lay_nil, lay_cons, bump, F_eq, h_eq, upHp, List.length_cons, List.length_nil, get_put, Nat.reduceEqDiff, if_true, if_false, reduceIte, List.getElem?_toArray, List.getElem?_cons_succ, List.getElem?_cons_zero, Option.bind_some, Option.map_some, beq_iff_eq, reduceCtorEq, Bool.not_true, Bool.not_false, beq_self_eq_true, thenQ_normal, thenQ_ret, inQ_ret, inQ_normal, ends_ret, ends_skip]
        refine ⟨.inr trivial, fin _ 0 (by simp only [get_put, Nat.reduceEqDiff, if_true, if_false, reduceIte]) ?_⟩
        unfold sizeL
        rw [if_neg (by omega), if_neg (by omega), if_neg (by rw [hl]; simp), if_pos]
        simp [hl] at hg; simpa using hg

end Go.Proofs.Ytbfdokfelolmbaa.TensW
end

section
open Go.Proofs.Ytbfdokfelolmbaa.Vai
namespace Go.Proofs.Ytbfdokfelolmbaa.TensW
set_option maxRecDepth 10000
set_option linter.unusedSimpArgs false

theorem op12 {E : Env} {ok : List UInt8 → Prop} {r : List UInt8 → AV} (hE : E.P = Try.prog) (hl : E.lend 12 = false) (hc : ∀ l, ok l → E.call 12 [.s (.str l)] [] = some (r l, [])) (hr : ∀ l, renA [] (r l) = r l) {F : Nat → AV} {h : HR} {k s : Nat} {d : Option Tmp} {ty : TypeId} {pos : String} {af : Array Edge} {x : Operand} {ts : Array TypeId} {gd : Option (Nat × Bool)}
    (hx : isStr (evA E.glob F x) = true) (ho : ok (strOf (evA E.glob F x))) : absOp E (evA E.glob F) h k s ⟨d, .call { callee := .value (.func 12), args := #[x], argTypes := ts }, ty, pos, af, gd⟩ = some (r (strOf (evA E.glob F x)), []) :=
  absOp_func1 (by rw [hE]; unfold bodied; rw [Try.func12]; rfl) hl hc hr rfl hx ho
theorem op27 {E : Env} {ok : List UInt8 → Prop} {r : List UInt8 → AV} (hE : E.P = Try.prog) (hl : E.lend 27 = false) (hc : ∀ l, ok l → E.call 27 [.s (.str l)] [] = some (r l, [])) (hr : ∀ l, renA [] (r l) = r l) {F : Nat → AV} {h : HR} {k s : Nat} {d : Option Tmp} {ty : TypeId} {pos : String} {af : Array Edge} {x : Operand} {ts : Array TypeId} {gd : Option (Nat × Bool)}
    (hx : isStr (evA E.glob F x) = true) (ho : ok (strOf (evA E.glob F x))) : absOp E (evA E.glob F) h k s ⟨d, .call { callee := .value (.func 27), args := #[x], argTypes := ts }, ty, pos, af, gd⟩ = some (r (strOf (evA E.glob F x)), []) :=
  absOp_func1 (by rw [hE]; unfold bodied; rw [Try.func27]; rfl) hl hc hr rfl hx ho
theorem op30 {E : Env} {ok : List UInt8 → List UInt8 → Prop} {r : List UInt8 → List UInt8 → AV} (hE : E.P = Try.prog) (hl : E.lend 30 = false) (hc : ∀ l m, ok l m → E.call 30 [.s (.str l), .s (.str m)] [] = some (r l m, [])) (hr : ∀ l m, renA [] (r l m) = r l m) {F : Nat → AV} {h : HR} {k s : Nat} {d : Option Tmp} {ty : TypeId} {pos : String} {af : Array Edge} {x y : Operand} {ts : Array TypeId} {gd : Option (Nat × Bool)}
    (hx : isStr (evA E.glob F x) = true) (hy : isStr (evA E.glob F y) = true) (ho : ok (strOf (evA E.glob F x)) (strOf (evA E.glob F y))) : absOp E (evA E.glob F) h k s ⟨d, .call { callee := .value (.func 30), args := #[x, y], argTypes := ts }, ty, pos, af, gd⟩ = some (r (strOf (evA E.glob F x)) (strOf (evA E.glob F y)), []) :=
  absOp_func2 (by rw [hE]; unfold bodied; rw [Try.func30]; rfl) hl hc hr rfl hx hy ho

def negL (l : List UInt8) : Bool := match l with
  | b :: _ => decide (b = 45)
  | [] => false
def digL (l : List UInt8) : List UInt8 := match l with
  | b :: r => if b = 45 then r else b :: r
  | [] => []

/-- What the callees answer. -/
def Small (l : List UInt8) : Prop := l.length < 9223372036854775807
structure Knows (E : Env) : Prop where
  formed : ∀ l, Small l → E.call 12 [.s (.str l)] [] = some (.s (.bool (formedL l)), [])
  split : ∀ l, l ≠ [] → E.call 27 [.s (.str l)] [] = some (.tup [.s (.bool (negL l)), .s (.str (digL l))], [])
  size : ∀ a b, Small a ∧ Small b → E.call 30 [.s (.str a), .s (.str b)] [] = some (.s (.int .i64 (sizeL a b)), [])
  lend12 : E.lend 12 = false
  lend27 : E.lend 27 = false
  lend30 : E.lend 30 = false

def cmpL (a b : List UInt8) : Int :=
  if negL a then (if negL b then sizeL (digL b) (digL a) else -1) else if negL b then 1 else sizeL (digL a) (digL b)

theorem dig_small {l : List UInt8} (h : Small l) : Small (digL l) := by
  unfold Small at *
  unfold digL
  split
  · split <;> simp_all <;> omega
  · exact h
theorem formed_ne {l : List UInt8} (h : formedL l = true) : l ≠ [] := by
  rintro rfl; simp [formedL, formedT] at h

theorem extract2 {a b : AV} {i : Nat} : (match AV.tup [a, b] with | .tup l => (l[i]?).map fun x => (x, ([] : List Up)) | _ => none) = ([a, b][i]?).map fun x => (x, []) := rfl

theorem cmp_bad (E : Env) (hE : E.P = Try.prog) (K : Knows E) (hraw : E.raw 16 = false) (n : Nat) (a b : List UInt8) (ha : Small a) (hb : Small b) (hf : (formedL a && formedL b) = false) : absBody E n 16 Try.f16 [.s (.str a), .s (.str b)] [] = some (.tup [.s (.int .i64 0), .s (.int .i64 1)], []) := by
  have h9 := hE9 hE
  have q12 := @op12 E Small (fun l => .s (.bool (formedL l))) hE K.lend12 K.formed (fun _ => rfl)
  have fin : ∀ (st : St), st.fr.get 4 = .s (.int .i64 0) → st.fr.get 5 = .s (.int .i64 1) → finish E 16 0 Try.f16 st = some (.tup [.s (.int .i64 0), .s (.int .i64 1)], []) := by
    intro st h1 h2
    refine finish_sealed (l := [.s (.int .i64 0), .s (.int .i64 1)]) ?_ hraw rfl |>.trans rfl
    simp [Try.f16, resultA, resultA.go, h1, h2]
  refine body_ends rfl (by simp [Try.ntmps16]) rfl ?_
  rw [Try.ntmps16]
  refine seq_text ?_
  simp only [RegT, opA_go, opA_when, guardQ_some, guarded_bool, absOp_assign, absOp_move, absOp_bin, absOp_index, absOp_pick, absOp_lenStr h9, absOp_max, absOp_min, int2_int, strLen, intA, fastA, h9, intOf, orSlow_some, binA, strA, ariA, evA_const, evA_tmp, ofV, ofC, Option.getD_some, putA_some, Nat.ble, Nat.reduceAdd, cond_true, lay_nil, lay_cons, bump, F_eq, h_eq, upHp, List.length_cons, List.length_nil, get_put, Nat.reduceEqDiff, if_true, if_false, reduceIte, List.getElem?_toArray, List.getElem?_cons_succ, List.getElem?_cons_zero, Option.bind_some, Option.map_some, beq_iff_eq, reduceCtorEq, Bool.not_true, Bool.not_false, beq_self_eq_true, thenQ_normal, thenQ_ret, inQ_ret, inQ_normal, ends_ret, ends_skip]
  refine seq_seq.2 (seq_text ?_)
  cases hfa : formedL a with
  | false =>
    simp only [RegT, opA_go, opA_when, guardQ_some, guarded_bool, absOp_assign, absOp_move, absOp_bin, absOp_index, absOp_pick, absOp_lenStr h9, absOp_max, absOp_min, int2_int, strLen, intA, fastA, h9, intOf, orSlow_some, binA, strA, ariA, evA_const, evA_tmp, ofV, ofC, Option.getD_some, putA_some, Nat.ble, Nat.reduceAdd, cond_true, lay_nil, lay_cons, bump, F_eq, h_eq, upHp, List.length_cons, List.length_nil, get_put, Nat.reduceEqDiff, if_true, if_false, reduceIte, List.getElem?_toArray, List.getElem?_cons_succ, List.getElem?_cons_zero, Option.bind_some, Option.map_some, beq_iff_eq, reduceCtorEq, Bool.not_true, Bool.not_false, beq_self_eq_true, thenQ_normal, thenQ_ret, inQ_ret, inQ_normal, ends_ret, ends_skip, q12, ha, hb, hfa, isStr_str, strOf_str, extract2, absOp_extract, List.getElem?_cons_zero, List.getElem?_cons_succ, Option.map_some, absOp_un]
    refine (seq_if (t := true) (by simp only [F_eq, evA_tmp, get_put, Nat.reduceEqDiff, if_true, if_false, reduceIte]) (fun _ => ?_) (fun hc => (by cases hc)))
    refine seq_text ?_
    simp only [RegT, opA_go, opA_when, guardQ_some, guarded_bool, absOp_assign, absOp_move, absOp_bin, absOp_index, absOp_pick, absOp_lenStr h9, absOp_max, absOp_min, int2_int, strLen, intA, fastA, h9, intOf, orSlow_some, binA, strA, ariA, evA_const, evA_tmp, ofV, ofC, Option.getD_some, putA_some, Nat.ble, Nat.reduceAdd, cond_true, lay_nil, lay_cons, bump, F_eq, h_eq, upHp, List.length_cons, List.length_nil, get_put, Nat.reduceEqDiff, if_true, if_false, reduceIte, List.getElem?_toArray, List.getElem?_cons_succ, List.getElem?_cons_zero, Option.bind_some, Option.map_some, beq_iff_eq, reduceCtorEq, Bool.not_true, Bool.not_false, beq_self_eq_true, thenQ_normal, thenQ_ret, inQ_ret, inQ_normal, ends_ret, ends_skip]
    exact ⟨.inr trivial, fin _ (by simp only [get_put, Nat.reduceEqDiff, if_true, if_false, reduceIte]) (by simp only [get_put, Nat.reduceEqDiff, if_true, if_false, reduceIte])⟩
  | true =>
    have hfb : formedL b = false := by simpa [hfa] using hf
    simp only [RegT, opA_go, opA_when, guardQ_some, guarded_bool, absOp_assign, absOp_move, absOp_bin, absOp_index, absOp_pick, absOp_lenStr h9, absOp_max, absOp_min, int2_int, strLen, intA, fastA, h9, intOf, orSlow_some, binA, strA, ariA, evA_const, evA_tmp, ofV, ofC, Option.getD_some, putA_some, Nat.ble, Nat.reduceAdd, cond_true, lay_nil, lay_cons, bump, F_eq, h_eq, upHp, List.length_cons, List.length_nil, get_put, Nat.reduceEqDiff, if_true, if_false, reduceIte, List.getElem?_toArray, List.getElem?_cons_succ, List.getElem?_cons_zero, Option.bind_some, Option.map_some, beq_iff_eq, reduceCtorEq, Bool.not_true, Bool.not_false, beq_self_eq_true, thenQ_normal, thenQ_ret, inQ_ret, inQ_normal, ends_ret, ends_skip, q12, ha, hb, hfa, hfb, isStr_str, strOf_str, extract2, absOp_extract, List.getElem?_cons_zero, List.getElem?_cons_succ, Option.map_some, absOp_un]
    refine (seq_if (t := true) (by simp only [F_eq, evA_tmp, get_put, Nat.reduceEqDiff, if_true, if_false, reduceIte]) (fun _ => ?_) (fun hc => (by cases hc)))
    refine seq_text ?_
    simp only [RegT, opA_go, opA_when, guardQ_some, guarded_bool, absOp_assign, absOp_move, absOp_bin, absOp_index, absOp_pick, absOp_lenStr h9, absOp_max, absOp_min, int2_int, strLen, intA, fastA, h9, intOf, orSlow_some, binA, strA, ariA, evA_const, evA_tmp, ofV, ofC, Option.getD_some, putA_some, Nat.ble, Nat.reduceAdd, cond_true, lay_nil, lay_cons, bump, F_eq, h_eq, upHp, List.length_cons, List.length_nil, get_put, Nat.reduceEqDiff, if_true, if_false, reduceIte, List.getElem?_toArray, List.getElem?_cons_succ, List.getElem?_cons_zero, Option.bind_some, Option.map_some, beq_iff_eq, reduceCtorEq, Bool.not_true, Bool.not_false, beq_self_eq_true, thenQ_normal, thenQ_ret, inQ_ret, inQ_normal, ends_ret, ends_skip]
    exact ⟨.inr trivial, fin _ (by simp only [get_put, Nat.reduceEqDiff, if_true, if_false, reduceIte]) (by simp only [get_put, Nat.reduceEqDiff, if_true, if_false, reduceIte])⟩

theorem cmp_good (E : Env) (hE : E.P = Try.prog) (K : Knows E) (hraw : E.raw 16 = false) (n : Nat) (a b : List UInt8) (ha : Small a) (hb : Small b) (hfa : formedL a = true) (hfb : formedL b = true) : absBody E n 16 Try.f16 [.s (.str a), .s (.str b)] [] = some (.tup [.s (.int .i64 (cmpL a b)), .s (.int .i64 0)], []) := by
  have h9 := hE9 hE
  have q12 := @op12 E Small (fun l => .s (.bool (formedL l))) hE K.lend12 K.formed (fun _ => rfl)
  have q27 := @op27 E (fun l => l ≠ []) (fun l => .tup [.s (.bool (negL l)), .s (.str (digL l))]) hE K.lend27 K.split (fun _ => rfl)
  have q30 := @op30 E (fun l m => Small l ∧ Small m) (fun l m => .s (.int .i64 (sizeL l m))) hE K.lend30 K.size (fun _ _ => rfl)
  have na := formed_ne hfa
  have nb := formed_ne hfb
  have da := dig_small ha
  have db := dig_small hb
  have fin : ∀ (st : St) (r : Int), st.fr.get 4 = .s (.int .i64 r) → st.fr.get 5 = .s (.int .i64 0) → r = cmpL a b → finish E 16 0 Try.f16 st = some (.tup [.s (.int .i64 (cmpL a b)), .s (.int .i64 0)], []) := by
    intro st r h1 h2 h3
    refine finish_sealed (l := [.s (.int .i64 (cmpL a b)), .s (.int .i64 0)]) ?_ hraw rfl |>.trans rfl
    simp [Try.f16, resultA, resultA.go, h1, h2, h3]
  refine body_ends rfl (by simp [Try.ntmps16]) rfl ?_
  rw [Try.ntmps16]
  refine seq_text ?_
  simp only [RegT, opA_go, opA_when, guardQ_some, guarded_bool, absOp_assign, absOp_move, absOp_bin, absOp_index, absOp_pick, absOp_lenStr h9, absOp_max, absOp_min, int2_int, strLen, intA, fastA, h9, intOf, orSlow_some, binA, strA, ariA, evA_const, evA_tmp, ofV, ofC, Option.getD_some, putA_some, Nat.ble, Nat.reduceAdd, cond_true, lay_nil, lay_cons, bump, F_eq, h_eq, upHp, List.length_cons, List.length_nil, get_put, Nat.reduceEqDiff, if_true, if_false, reduceIte, List.getElem?_toArray, List.getElem?_cons_succ, List.getElem?_cons_zero, Option.bind_some, Option.map_some, beq_iff_eq, reduceCtorEq, Bool.not_true, Bool.not_false, beq_self_eq_true, thenQ_normal, thenQ_ret, inQ_ret, inQ_normal, ends_ret, ends_skip]
  refine seq_seq.2 (seq_text ?_)
  simp only [RegT, opA_go, opA_when, guardQ_some, guarded_bool, absOp_assign, absOp_move, absOp_bin, absOp_index, absOp_pick, absOp_lenStr h9, absOp_max, absOp_min, int2_int, strLen, intA, fastA, h9, intOf, orSlow_some, binA, strA, ariA, evA_const, evA_tmp, ofV, ofC, Option.getD_some, putA_some, Nat.ble, Nat.reduceAdd, cond_true, lay_nil, lay_cons, bump, F_eq, h_eq, upHp, List.length_cons, List.length_nil, get_put, Nat.reduceEqDiff, if_true, if_false, reduceIte, List.getElem?_toArray, List.getElem?_cons_succ, List.getElem?_cons_zero, Option.bind_some, Option.map_some, beq_iff_eq, reduceCtorEq, Bool.not_true, Bool.not_false, beq_self_eq_true, thenQ_normal, thenQ_ret, inQ_ret, inQ_normal, ends_ret, ends_skip, q12, ha, hb, hfa, hfb, isStr_str, strOf_str, extract2, absOp_extract, List.getElem?_cons_zero, List.getElem?_cons_succ, Option.map_some, absOp_un]
  refine (seq_if (t := false) (by simp only [F_eq, evA_tmp, get_put, Nat.reduceEqDiff, if_true, if_false, reduceIte]) (fun hc => (by cases hc)) (fun _ => ?_))
  rw [ends_skip, thenQ_normal]
  refine seq_text ?_
  simp only [RegT, opA_go, opA_when, guardQ_some, guarded_bool, absOp_assign, absOp_move, absOp_bin, absOp_index, absOp_pick, absOp_lenStr h9, absOp_max, absOp_min, int2_int, strLen, intA, fastA, h9, intOf, orSlow_some, binA, strA, ariA, evA_const, evA_tmp, ofV, ofC, Option.getD_some, putA_some, Nat.ble, Nat.reduceAdd, cond_true, lay_nil, lay_cons, bump, F_eq, h_eq, upHp, List.length_cons, List.length_nil, get_put, Nat.reduceEqDiff, if_true, if_false, reduceIte, List.getElem?_toArray, List.getElem?_cons_succ, List.getElem?_cons_zero, Option.bind_some, Option.map_some, beq_iff_eq, reduceCtorEq, Bool.not_true, Bool.not_false, beq_self_eq_true, thenQ_normal, thenQ_ret, inQ_ret, inQ_normal, ends_ret, ends_skip, q27, na, nb, ne_eq, not_false_eq_true, isStr_str, strOf_str, extract2, absOp_extract, List.getElem?_cons_zero, List.getElem?_cons_succ, Option.map_some, absOp_un]
  refine seq_text ?_
  simp only [RegT, opA_go, opA_when, guardQ_some, guarded_bool, absOp_assign, absOp_move, absOp_bin, absOp_index, absOp_pick, absOp_lenStr h9, absOp_max, absOp_min, int2_int, strLen, intA, fastA, h9, intOf, orSlow_some, binA, strA, ariA, evA_const, evA_tmp, ofV, ofC, Option.getD_some, putA_some, Nat.ble, Nat.reduceAdd, cond_true, lay_nil, lay_cons, bump, F_eq, h_eq, upHp, List.length_cons, List.length_nil, get_put, Nat.reduceEqDiff, if_true, if_false, reduceIte, List.getElem?_toArray, List.getElem?_cons_succ, List.getElem?_cons_zero, Option.bind_some, Option.map_some, beq_iff_eq, reduceCtorEq, Bool.not_true, Bool.not_false, beq_self_eq_true, thenQ_normal, thenQ_ret, inQ_ret, inQ_normal, ends_ret, ends_skip, q27, na, nb, ne_eq, not_false_eq_true, isStr_str, strOf_str, extract2, absOp_extract, List.getElem?_cons_zero, List.getElem?_cons_succ, Option.map_some, absOp_un]
  refine ends_seq.2 (ends_block.2 ?_)
  refine seq_text ?_
  cases hna : negL a with
  | true =>
    cases hnb : negL b with
    | true =>
      simp only [RegT, opA_go, opA_when, guardQ_some, guarded_bool, absOp_assign, absOp_move, absOp_bin, absOp_index, absOp_pick, absOp_lenStr h9, absOp_max, absOp_min, int2_int, strLen, intA, fastA, h9, intOf, orSlow_some, binA, strA, ariA, evA_const, evA_tmp, ofV, ofC, Option.getD_some, putA_some, Nat.ble, Nat.reduceAdd, cond_true, lay_nil, lay_cons, bump, F_eq, h_eq, upHp, List.length_cons, List.length_nil, get_put, Nat.reduceEqDiff, if_true, if_false, reduceIte, List.getElem?_toArray, List.getElem?_cons_succ, List.getElem?_cons_zero, Option.bind_some, Option.map_some, beq_iff_eq, reduceCtorEq, Bool.not_true, Bool.not_false, beq_self_eq_true, thenQ_normal, thenQ_ret, inQ_ret, inQ_normal, ends_ret, ends_skip, hna, hnb, Bool.false_eq_true]
      refine ends_if.2 ?_
      simp only [F_eq, evA_tmp, get_put, Nat.reduceEqDiff, if_true, if_false, reduceIte]
      refine ⟨fun _ => ?_, fun hc => (by cases hc)⟩
      refine seq_text ?_
      simp only [RegT, opA_go, opA_when, guardQ_some, guarded_bool, absOp_assign, absOp_move, absOp_bin, absOp_index, absOp_pick, absOp_lenStr h9, absOp_max, absOp_min, int2_int, strLen, intA, fastA, h9, intOf, orSlow_some, binA, strA, ariA, evA_const, evA_tmp, ofV, ofC, Option.getD_some, putA_some, Nat.ble, Nat.reduceAdd, cond_true, lay_nil, lay_cons, bump, F_eq, h_eq, upHp, List.length_cons, List.length_nil, get_put, Nat.reduceEqDiff, if_true, if_false, reduceIte, List.getElem?_toArray, List.getElem?_cons_succ, List.getElem?_cons_zero, Option.bind_some, Option.map_some, beq_iff_eq, reduceCtorEq, Bool.not_true, Bool.not_false, beq_self_eq_true, thenQ_normal, thenQ_ret, inQ_ret, inQ_normal, ends_ret, ends_skip, q30, da, db, and_self, isStr_str, strOf_str, extract2, absOp_extract, List.getElem?_cons_zero, List.getElem?_cons_succ, Option.map_some, absOp_un]
      exact ⟨.inr trivial, fin _ (sizeL (digL b) (digL a)) (by simp only [get_put, Nat.reduceEqDiff, if_true, if_false, reduceIte]) (by simp only [get_put, Nat.reduceEqDiff, if_true, if_false, reduceIte]) (by simp [cmpL, hna, hnb])⟩
    | false =>
      simp only [RegT, opA_go, opA_when, guardQ_some, guarded_bool, absOp_assign, absOp_move, absOp_bin, absOp_index, absOp_pick, absOp_lenStr h9, absOp_max, absOp_min, int2_int, strLen, intA, fastA, h9, intOf, orSlow_some, binA, strA, ariA, evA_const, evA_tmp, ofV, ofC, Option.getD_some, putA_some, Nat.ble, Nat.reduceAdd, cond_true, lay_nil, lay_cons, bump, F_eq, h_eq, upHp, List.length_cons, List.length_nil, get_put, Nat.reduceEqDiff, if_true, if_false, reduceIte, List.getElem?_toArray, List.getElem?_cons_succ, List.getElem?_cons_zero, Option.bind_some, Option.map_some, beq_iff_eq, reduceCtorEq, Bool.not_true, Bool.not_false, beq_self_eq_true, thenQ_normal, thenQ_ret, inQ_ret, inQ_normal, ends_ret, ends_skip, hna, hnb, Bool.false_eq_true]
      refine ends_if.2 ?_
      simp only [F_eq, evA_tmp, get_put, Nat.reduceEqDiff, if_true, if_false, reduceIte]
      refine ⟨fun hc => (by cases hc), fun _ => ?_⟩
      refine seq_text ?_
      simp only [RegT, opA_go, opA_when, guardQ_some, guarded_bool, absOp_assign, absOp_move, absOp_bin, absOp_index, absOp_pick, absOp_lenStr h9, absOp_max, absOp_min, int2_int, strLen, intA, fastA, h9, intOf, orSlow_some, binA, strA, ariA, evA_const, evA_tmp, ofV, ofC, Option.getD_some, putA_some, Nat.ble, Nat.reduceAdd, cond_true, lay_nil, lay_cons, bump, F_eq, h_eq, upHp, List.length_cons, List.length_nil, get_put, Nat.reduceEqDiff, if_true, if_false, reduceIte, List.getElem?_toArray, List.getElem?_cons_succ, List.getElem?_cons_zero, Option.bind_some, Option.map_some, beq_iff_eq, reduceCtorEq, Bool.not_true, Bool.not_false, beq_self_eq_true, thenQ_normal, thenQ_ret, inQ_ret, inQ_normal, ends_ret, ends_skip, hna, hnb, Bool.false_eq_true]
      refine ends_if.2 ?_
      simp only [F_eq, evA_tmp, get_put, Nat.reduceEqDiff, if_true, if_false, reduceIte]
      refine ⟨fun _ => ?_, fun hc => (by cases hc)⟩
      refine seq_text ?_
      simp only [RegT, opA_go, opA_when, guardQ_some, guarded_bool, absOp_assign, absOp_move, absOp_bin, absOp_index, absOp_pick, absOp_lenStr h9, absOp_max, absOp_min, int2_int, strLen, intA, fastA, h9, intOf, orSlow_some, binA, strA, ariA, evA_const, evA_tmp, ofV, ofC, Option.getD_some, putA_some, Nat.ble, Nat.reduceAdd, cond_true, lay_nil, lay_cons, bump, F_eq, h_eq, upHp, List.length_cons, List.length_nil, get_put, Nat.reduceEqDiff, if_true, if_false, reduceIte, List.getElem?_toArray, List.getElem?_cons_succ, List.getElem?_cons_zero, Option.bind_some, Option.map_some, beq_iff_eq, reduceCtorEq, Bool.not_true, Bool.not_false, beq_self_eq_true, thenQ_normal, thenQ_ret, inQ_ret, inQ_normal, ends_ret, ends_skip, hna, hnb, Bool.false_eq_true]
      exact ⟨.inr trivial, fin _ (-1) (by simp only [get_put, Nat.reduceEqDiff, if_true, if_false, reduceIte]) (by simp only [get_put, Nat.reduceEqDiff, if_true, if_false, reduceIte]) (by simp [cmpL, hna, hnb])⟩
  | false =>
    cases hnb : negL b with
    | true =>
      simp only [RegT, opA_go, opA_when, guardQ_some, guarded_bool, absOp_assign, absOp_move, absOp_bin, absOp_index, absOp_pick, absOp_lenStr h9, absOp_max, absOp_min, int2_int, strLen, intA, fastA, h9, intOf, orSlow_some, binA, strA, ariA, evA_const, evA_tmp, ofV, ofC, Option.getD_some, putA_some, Nat.ble, Nat.reduceAdd, cond_true, lay_nil, lay_cons, bump, F_eq, h_eq, upHp, List.length_cons, List.length_nil, get_put, Nat.reduceEqDiff, if_true, if_false, reduceIte, List.getElem?_toArray, List.getElem?_cons_succ, List.getElem?_cons_zero, Option.bind_some, Option.map_some, beq_iff_eq, reduceCtorEq, Bool.not_true, Bool.not_false, beq_self_eq_true, thenQ_normal, thenQ_ret, inQ_ret, inQ_normal, ends_ret, ends_skip, hna, hnb, Bool.false_eq_true, Bool.false_beq, beq_true, Bool.not_true, beq_false]
      refine ends_if.2 ?_
      simp only [F_eq, evA_tmp, get_put, Nat.reduceEqDiff, if_true, if_false, reduceIte]
      refine ⟨fun hc => (by cases hc), fun _ => ?_⟩
      refine seq_text ?_
      simp only [RegT, opA_go, opA_when, guardQ_some, guarded_bool, absOp_assign, absOp_move, absOp_bin, absOp_index, absOp_pick, absOp_lenStr h9, absOp_max, absOp_min, int2_int, strLen, intA, fastA, h9, intOf, orSlow_some, binA, strA, ariA, evA_const, evA_tmp, ofV, ofC, Option.getD_some, putA_some, Nat.ble, Nat.reduceAdd, cond_true, lay_nil, lay_cons, bump, F_eq, h_eq, upHp, List.length_cons, List.length_nil, get_put, Nat.reduceEqDiff, if_true, if_false, reduceIte, List.getElem?_toArray, List.getElem?_cons_succ, List.getElem?_cons_zero, Option.bind_some, Option.map_some, beq_iff_eq, reduceCtorEq, Bool.not_true, Bool.not_false, beq_self_eq_true, thenQ_normal, thenQ_ret, inQ_ret, inQ_normal, ends_ret, ends_skip, hna, hnb, Bool.false_eq_true]
      refine ends_if.2 ?_
      simp only [F_eq, evA_tmp, get_put, Nat.reduceEqDiff, if_true, if_false, reduceIte]
      refine ⟨fun hc => (by cases hc), fun _ => ?_⟩
      refine seq_text ?_
      simp only [RegT, opA_go, opA_when, guardQ_some, guarded_bool, absOp_assign, absOp_move, absOp_bin, absOp_index, absOp_pick, absOp_lenStr h9, absOp_max, absOp_min, int2_int, strLen, intA, fastA, h9, intOf, orSlow_some, binA, strA, ariA, evA_const, evA_tmp, ofV, ofC, Option.getD_some, putA_some, Nat.ble, Nat.reduceAdd, cond_true, lay_nil, lay_cons, bump, F_eq, h_eq, upHp, List.length_cons, List.length_nil, get_put, Nat.reduceEqDiff, if_true, if_false, reduceIte, List.getElem?_toArray, List.getElem?_cons_succ, List.getElem?_cons_zero, Option.bind_some, Option.map_some, beq_iff_eq, reduceCtorEq, Bool.not_true, Bool.not_false, beq_self_eq_true, thenQ_normal, thenQ_ret, inQ_ret, inQ_normal, ends_ret, ends_skip, hna, hnb, Bool.false_eq_true]
      refine ends_if.2 ?_
      simp only [F_eq, evA_tmp, get_put, Nat.reduceEqDiff, if_true, if_false, reduceIte]
      refine ⟨fun _ => ?_, fun hc => (by cases hc)⟩
      refine seq_text ?_
      simp only [RegT, opA_go, opA_when, guardQ_some, guarded_bool, absOp_assign, absOp_move, absOp_bin, absOp_index, absOp_pick, absOp_lenStr h9, absOp_max, absOp_min, int2_int, strLen, intA, fastA, h9, intOf, orSlow_some, binA, strA, ariA, evA_const, evA_tmp, ofV, ofC, Option.getD_some, putA_some, Nat.ble, Nat.reduceAdd, cond_true, lay_nil, lay_cons, bump, F_eq, h_eq, upHp, List.length_cons, List.length_nil, get_put, Nat.reduceEqDiff, if_true, if_false, reduceIte, List.getElem?_toArray, List.getElem?_cons_succ, List.getElem?_cons_zero, Option.bind_some, Option.map_some, beq_iff_eq, reduceCtorEq, Bool.not_true, Bool.not_false, beq_self_eq_true, thenQ_normal, thenQ_ret, inQ_ret, inQ_normal, ends_ret, ends_skip, hna, hnb, Bool.false_eq_true]
      exact ⟨.inr trivial, fin _ 1 (by simp only [get_put, Nat.reduceEqDiff, if_true, if_false, reduceIte]) (by simp only [get_put, Nat.reduceEqDiff, if_true, if_false, reduceIte]) (by simp [cmpL, hna, hnb])⟩
    | false =>
      simp only [RegT, opA_go, opA_when, guardQ_some, guarded_bool, absOp_assign, absOp_move, absOp_bin, absOp_index, absOp_pick, absOp_lenStr h9, absOp_max, absOp_min, int2_int, strLen, intA, fastA, h9, intOf, orSlow_some, binA, strA, ariA, evA_const, evA_tmp, ofV, ofC, Option.getD_some, putA_some, Nat.ble, Nat.reduceAdd, cond_true, lay_nil, lay_cons, bump, F_eq, h_eq, upHp, List.length_cons, List.length_nil, get_put, Nat.reduceEqDiff, if_true, if_false, reduceIte, List.getElem?_toArray, List.getElem?_cons_succ, List.getElem?_cons_zero, Option.bind_some, Option.map_some, beq_iff_eq, reduceCtorEq, Bool.not_true, Bool.not_false, beq_self_eq_true, thenQ_normal, thenQ_ret, inQ_ret, inQ_normal, ends_ret, ends_skip, hna, hnb, Bool.false_eq_true, Bool.false_beq, beq_true, Bool.not_true, beq_false]
      refine ends_if.2 ?_
      simp only [F_eq, evA_tmp, get_put, Nat.reduceEqDiff, if_true, if_false, reduceIte]
      refine ⟨fun hc => (by cases hc), fun _ => ?_⟩
      refine seq_text ?_
      simp only [RegT, opA_go, opA_when, guardQ_some, guarded_bool, absOp_assign, absOp_move, absOp_bin, absOp_index, absOp_pick, absOp_lenStr h9, absOp_max, absOp_min, int2_int, strLen, intA, fastA, h9, intOf, orSlow_some, binA, strA, ariA, evA_const, evA_tmp, ofV, ofC, Option.getD_some, putA_some, Nat.ble, Nat.reduceAdd, cond_true, lay_nil, lay_cons, bump, F_eq, h_eq, upHp, List.length_cons, List.length_nil, get_put, Nat.reduceEqDiff, if_true, if_false, reduceIte, List.getElem?_toArray, List.getElem?_cons_succ, List.getElem?_cons_zero, Option.bind_some, Option.map_some, beq_iff_eq, reduceCtorEq, Bool.not_true, Bool.not_false, beq_self_eq_true, thenQ_normal, thenQ_ret, inQ_ret, inQ_normal, ends_ret, ends_skip, hna, hnb, Bool.false_eq_true]
      refine ends_if.2 ?_
      simp only [F_eq, evA_tmp, get_put, Nat.reduceEqDiff, if_true, if_false, reduceIte]
      refine ⟨fun hc => (by cases hc), fun _ => ?_⟩
      refine seq_text ?_
      simp only [RegT, opA_go, opA_when, guardQ_some, guarded_bool, absOp_assign, absOp_move, absOp_bin, absOp_index, absOp_pick, absOp_lenStr h9, absOp_max, absOp_min, int2_int, strLen, intA, fastA, h9, intOf, orSlow_some, binA, strA, ariA, evA_const, evA_tmp, ofV, ofC, Option.getD_some, putA_some, Nat.ble, Nat.reduceAdd, cond_true, lay_nil, lay_cons, bump, F_eq, h_eq, upHp, List.length_cons, List.length_nil, get_put, Nat.reduceEqDiff, if_true, if_false, reduceIte, List.getElem?_toArray, List.getElem?_cons_succ, List.getElem?_cons_zero, Option.bind_some, Option.map_some, beq_iff_eq, reduceCtorEq, Bool.not_true, Bool.not_false, beq_self_eq_true, thenQ_normal, thenQ_ret, inQ_ret, inQ_normal, ends_ret, ends_skip, hna, hnb, Bool.false_eq_true]
      refine ends_if.2 ?_
      simp only [F_eq, evA_tmp, get_put, Nat.reduceEqDiff, if_true, if_false, reduceIte]
      refine ⟨fun hc => (by cases hc), fun _ => ?_⟩
      rw [ends_skip, inQ_normal, thenQ_normal]
      refine seq_text ?_
      simp only [RegT, opA_go, opA_when, guardQ_some, guarded_bool, absOp_assign, absOp_move, absOp_bin, absOp_index, absOp_pick, absOp_lenStr h9, absOp_max, absOp_min, int2_int, strLen, intA, fastA, h9, intOf, orSlow_some, binA, strA, ariA, evA_const, evA_tmp, ofV, ofC, Option.getD_some, putA_some, Nat.ble, Nat.reduceAdd, cond_true, lay_nil, lay_cons, bump, F_eq, h_eq, upHp, List.length_cons, List.length_nil, get_put, Nat.reduceEqDiff, if_true, if_false, reduceIte, List.getElem?_toArray, List.getElem?_cons_succ, List.getElem?_cons_zero, Option.bind_some, Option.map_some, beq_iff_eq, reduceCtorEq, Bool.not_true, Bool.not_false, beq_self_eq_true, thenQ_normal, thenQ_ret, inQ_ret, inQ_normal, ends_ret, ends_skip, q30, da, db, and_self, isStr_str, strOf_str, extract2, absOp_extract, List.getElem?_cons_zero, List.getElem?_cons_succ, Option.map_some, absOp_un]
      exact ⟨.inr trivial, fin _ (sizeL (digL a) (digL b)) (by simp only [get_put, Nat.reduceEqDiff, if_true, if_false, reduceIte]) (by simp only [get_put, Nat.reduceEqDiff, if_true, if_false, reduceIte]) (by simp [cmpL, hna, hnb])⟩
end Go.Proofs.Ytbfdokfelolmbaa.TensW
end

section
open Go.Proofs.Ytbfdokfelolmbaa.Vai
namespace Go.Proofs.Ytbfdokfelolmbaa.TensW
set_option maxRecDepth 10000
set_option linter.unusedSimpArgs false

theorem hE46 {E : Env} (h : E.P = Try.prog) : E.P.underlying 46 = some (.slice 5) := by rw [h]; exact Try.underlying46
theorem hE5 {E : Env} (h : E.P = Try.prog) : E.P.underlying 5 = some (.int .u8) := by rw [h]; exact Try.underlying5
theorem hS5 {E : Env} (h : E.P = Try.prog) : tsize E.P 5 = some 1 := by rw [h]; kernel_rfl
theorem hA5 {E : Env} (h : E.P = Try.prog) : tagg E.P 5 = some false := by rw [h]; kernel_rfl

/-- Digits without the noughts ahead. -/
def textL : List UInt8 → List UInt8
  | 48 :: b :: r => textL (b :: r)
  | l => l

theorem textL_zero {l : List UInt8} {i : Nat} (h : i + 1 < l.length) (hz : l[i] = 48) : textL (l.drop i) = textL (l.drop (i + 1)) := by
  rw [List.drop_eq_getElem_cons (by omega), hz, List.drop_eq_getElem_cons h]
  rfl
theorem textL_end {l : List UInt8} {i : Nat} (h : ¬ i + 1 < l.length) : textL (l.drop i) = l.drop i := by
  match hl : l.drop i with
  | [] => rfl
  | [b] =>
    unfold textL
    split
    · rename_i h2; cases h2
    · rfl
  | b :: c :: r =>
    have : (l.drop i).length = r.length + 2 := by rw [hl]; simp
    simp at this; omega
theorem textL_other {l : List UInt8} {i : Nat} (h : i < l.length) (hz : l[i] ≠ 48) : textL (l.drop i) = l.drop i := by
  rw [List.drop_eq_getElem_cons h]
  unfold textL
  split
  · rename_i h2; rw [List.cons.injEq] at h2; exact absurd h2.1 hz
  · rfl

theorem text_abs (E : Env) (hE : E.P = Try.prog) (hraw : E.raw 40 = false) (n : Nat) (l : List UInt8) (hl : l.length + 1 < n) (hs : Small l) : absBody E n 40 Try.f40 [.s (.ssl (strRows l))] [] = some (.s (.str (textL l)), []) := by
  have h9 := hE9 hE
  have h46 := hE46 hE
  have h5 := hE5 hE
  have s5 := hS5 hE
  have a5 := hA5 hE
  have fin : ∀ (st : St) (r : List UInt8), st.fr.get 2 = .s (.str r) → r = textL l → finish E 40 0 Try.f40 st = some (.s (.str (textL l)), []) := by
    intro st r h1 h2
    refine finish_sealed (l := [.s (.str (textL l))]) ?_ hraw rfl |>.trans rfl
    simp [Try.f40, resultA, resultA.go, h1, h2]
  refine body_ends rfl (by simp [Try.ntmps40]) rfl ?_
  rw [Try.ntmps40]
  refine seq_text ?_
  simp only [RegT, opA_go, opA_when, guardQ_some, guarded_bool, absOp_assign, absOp_move, absOp_bin, absOp_index, absOp_pick, absOp_max, absOp_min, int2_int, strLen, intA, fastA, h9, intOf, orSlow_some, binA, strA, ariA, evA_const, evA_tmp, ofV, ofC, Option.getD_some, putA_some, Nat.ble, Nat.reduceAdd, cond_true, lay_nil, lay_cons, bump, F_eq, h_eq, upHp, List.length_cons, List.length_nil, get_put, Nat.reduceEqDiff, if_true, if_false, reduceIte, List.getElem?_toArray, List.getElem?_cons_succ, List.getElem?_cons_zero, Option.bind_some, Option.map_some, beq_iff_eq, reduceCtorEq, Bool.not_true, Bool.not_false, beq_self_eq_true, thenQ_normal, thenQ_ret, inQ_ret, inQ_normal, ends_ret, ends_skip, absOp_lenRows h46, absOp_indexAddr, absOp_load, idx_bytes h46 s5, load_byte a5 s5, orNone_some, lenA, strRows_length, absOp_slice3 h46, cut_bytes h46 s5, absOp_convText h46 h5 h9, rowsOf_xsl, rowsOf_ssl, bytesOf_rows]
  refine seq_text ?_
  simp only [RegT, opA_go, opA_when, guardQ_some, guarded_bool, absOp_assign, absOp_move, absOp_bin, absOp_index, absOp_pick, absOp_max, absOp_min, int2_int, strLen, intA, fastA, h9, intOf, orSlow_some, binA, strA, ariA, evA_const, evA_tmp, ofV, ofC, Option.getD_some, putA_some, Nat.ble, Nat.reduceAdd, cond_true, lay_nil, lay_cons, bump, F_eq, h_eq, upHp, List.length_cons, List.length_nil, get_put, Nat.reduceEqDiff, if_true, if_false, reduceIte, List.getElem?_toArray, List.getElem?_cons_succ, List.getElem?_cons_zero, Option.bind_some, Option.map_some, beq_iff_eq, reduceCtorEq, Bool.not_true, Bool.not_false, beq_self_eq_true, thenQ_normal, thenQ_ret, inQ_ret, inQ_normal, ends_ret, ends_skip, absOp_lenRows h46, absOp_indexAddr, absOp_load, idx_bytes h46 s5, load_byte a5 s5, orNone_some, lenA, strRows_length, absOp_slice3 h46, cut_bytes h46 s5, absOp_convText h46 h5 h9, rowsOf_xsl, rowsOf_ssl, bytesOf_rows]
  refine ends_seq.2 (ends_block.2 ?_)
  refine ends_loop (fun k st => ∃ i : Nat, k = l.length + 1 - i ∧ i ≤ l.length ∧ st.fr.get 0 = .s (.ssl (strRows l)) ∧ st.fr.get 3 = .s (.int .i64 (i : Int)) ∧ textL (l.drop i) = textL l) (m := l.length + 1) (by omega) ⟨0, by simp, by omega, by simp only [get_put, Nat.reduceEqDiff, if_true, if_false, reduceIte], by simp only [get_put, Nat.reduceEqDiff, if_true, if_false, reduceIte]; rfl, by simp⟩ ?_
  rintro k ⟨fr1, hp1, nx1⟩ ⟨i, rfl, hi, g0, g3, ht⟩
  simp only at g0 g3
  have hw : IntKind.i64.wrap ((l.length : Int) - 1) = (l.length : Int) - 1 := by unfold Small at hs; exact wrap_fits (by omega) (by omega)
  refine seq_seq.2 (seq_text ?_)
  by_cases hlt : i + 1 < l.length
  · have d1 : decide ((i : Int) < (l.length : Int) - 1) = true := by simp; omega
    have hi' : i < l.length := by omega
    simp only [RegT, opA_go, opA_when, guardQ_some, guarded_bool, absOp_assign, absOp_move, absOp_bin, absOp_index, absOp_pick, absOp_max, absOp_min, int2_int, strLen, intA, fastA, h9, intOf, orSlow_some, binA, strA, ariA, evA_const, evA_tmp, ofV, ofC, Option.getD_some, putA_some, Nat.ble, Nat.reduceAdd, cond_true, lay_nil, lay_cons, bump, F_eq, h_eq, upHp, List.length_cons, List.length_nil, get_put, Nat.reduceEqDiff, if_true, if_false, reduceIte, List.getElem?_toArray, List.getElem?_cons_succ, List.getElem?_cons_zero, Option.bind_some, Option.map_some, beq_iff_eq, reduceCtorEq, Bool.not_true, Bool.not_false, beq_self_eq_true, thenQ_normal, thenQ_ret, inQ_ret, inQ_normal, ends_ret, ends_skip, absOp_lenRows h46, absOp_indexAddr, absOp_load, idx_bytes h46 s5, load_byte a5 s5, orNone_some, lenA, strRows_length, absOp_slice3 h46, cut_bytes h46 s5, absOp_convText h46 h5 h9, rowsOf_xsl, rowsOf_ssl, bytesOf_rows, g0, g3, hw, d1, hi']
    refine seq_if (by simp only [F_eq, evA_tmp, get_put, Nat.reduceEqDiff, if_true, if_false, reduceIte]; rfl) (fun hc => ?_) (fun hc => ?_)
    · have hz : l[i] = 48 := by
        have : l[i].toNat = 48 := by simp at hc; omega
        exact UInt8.toNat_inj.1 this
      rw [ends_skip, thenQ_normal]
      refine ends_block.2 (region_text.2 ?_)
      simp only [RegT, opA_go, opA_when, guardQ_some, guarded_bool, absOp_assign, absOp_move, absOp_bin, absOp_index, absOp_pick, absOp_max, absOp_min, int2_int, strLen, intA, fastA, h9, intOf, orSlow_some, binA, strA, ariA, evA_const, evA_tmp, ofV, ofC, Option.getD_some, putA_some, Nat.ble, Nat.reduceAdd, cond_true, lay_nil, lay_cons, bump, F_eq, h_eq, upHp, List.length_cons, List.length_nil, get_put, Nat.reduceEqDiff, if_true, if_false, reduceIte, List.getElem?_toArray, List.getElem?_cons_succ, List.getElem?_cons_zero, Option.bind_some, Option.map_some, beq_iff_eq, reduceCtorEq, Bool.not_true, Bool.not_false, beq_self_eq_true, thenQ_normal, thenQ_ret, inQ_ret, inQ_normal, ends_ret, ends_skip, absOp_lenRows h46, absOp_indexAddr, absOp_load, idx_bytes h46 s5, load_byte a5 s5, orNone_some, lenA, strRows_length, absOp_slice3 h46, cut_bytes h46 s5, absOp_convText h46 h5 h9, rowsOf_xsl, rowsOf_ssl, bytesOf_rows, g0, g3]
      have hw2 : IntKind.i64.wrap ((i : Int) + 1) = ((i + 1 : Nat) : Int) := by
        have := wrap_small (m := i + 1) (by unfold Small at hs; omega)
        rw [← this]; congr 1
      exact ⟨l.length + 1 - (i + 1), by omega, i + 1, rfl, by omega, trivial, by rw [hw2], by rw [← textL_zero hlt hz]; exact ht⟩
    · have hz : l[i] ≠ 48 := by
        intro e; rw [e] at hc; simp at hc
      rw [ends_exit, thenQ_exit, thenQ_exit]
      simp only [inQ_exit, if_true, reduceIte, thenQ_normal]
      refine seq_text ?_
      simp only [RegT, opA_go, opA_when, guardQ_some, guarded_bool, absOp_assign, absOp_move, absOp_bin, absOp_index, absOp_pick, absOp_max, absOp_min, int2_int, strLen, intA, fastA, h9, intOf, orSlow_some, binA, strA, ariA, evA_const, evA_tmp, ofV, ofC, Option.getD_some, putA_some, Nat.ble, Nat.reduceAdd, cond_true, lay_nil, lay_cons, bump, F_eq, h_eq, upHp, List.length_cons, List.length_nil, get_put, Nat.reduceEqDiff, if_true, if_false, reduceIte, List.getElem?_toArray, List.getElem?_cons_succ, List.getElem?_cons_zero, Option.bind_some, Option.map_some, beq_iff_eq, reduceCtorEq, Bool.not_true, Bool.not_false, beq_self_eq_true, thenQ_normal, thenQ_ret, inQ_ret, inQ_normal, ends_ret, ends_skip, absOp_lenRows h46, absOp_indexAddr, absOp_load, idx_bytes h46 s5, load_byte a5 s5, orNone_some, lenA, strRows_length, absOp_slice3 h46, cut_bytes h46 s5, absOp_convText h46 h5 h9, rowsOf_xsl, rowsOf_ssl, bytesOf_rows, g0, g3, hi, Option.bind_some]
      exact ⟨.inr trivial, fin _ (l.drop i) (by simp only [get_put, Nat.reduceEqDiff, if_true, if_false, reduceIte]) (by rw [← ht, textL_other hi' hz])⟩
  · have d1 : decide ((i : Int) < (l.length : Int) - 1) = false := by simp; omega
    simp only [RegT, opA_go, opA_when, guardQ_some, guarded_bool, absOp_assign, absOp_move, absOp_bin, absOp_index, absOp_pick, absOp_max, absOp_min, int2_int, strLen, intA, fastA, h9, intOf, orSlow_some, binA, strA, ariA, evA_const, evA_tmp, ofV, ofC, Option.getD_some, putA_some, Nat.ble, Nat.reduceAdd, cond_true, lay_nil, lay_cons, bump, F_eq, h_eq, upHp, List.length_cons, List.length_nil, get_put, Nat.reduceEqDiff, if_true, if_false, reduceIte, List.getElem?_toArray, List.getElem?_cons_succ, List.getElem?_cons_zero, Option.bind_some, Option.map_some, beq_iff_eq, reduceCtorEq, Bool.not_true, Bool.not_false, beq_self_eq_true, thenQ_normal, thenQ_ret, inQ_ret, inQ_normal, ends_ret, ends_skip, absOp_lenRows h46, absOp_indexAddr, absOp_load, idx_bytes h46 s5, load_byte a5 s5, orNone_some, lenA, strRows_length, absOp_slice3 h46, cut_bytes h46 s5, absOp_convText h46 h5 h9, rowsOf_xsl, rowsOf_ssl, bytesOf_rows, g0, g3, hw, d1, Bool.false_eq_true, Bool.false_beq, beq_true]
    refine seq_if (t := false) (by simp only [F_eq, evA_tmp, get_put, Nat.reduceEqDiff, if_true, if_false, reduceIte]) (fun hc => (by cases hc)) (fun _ => ?_)
    rw [ends_exit, thenQ_exit, thenQ_exit]
    simp only [inQ_exit, if_true, reduceIte, thenQ_normal]
    refine seq_text ?_
    simp only [RegT, opA_go, opA_when, guardQ_some, guarded_bool, absOp_assign, absOp_move, absOp_bin, absOp_index, absOp_pick, absOp_max, absOp_min, int2_int, strLen, intA, fastA, h9, intOf, orSlow_some, binA, strA, ariA, evA_const, evA_tmp, ofV, ofC, Option.getD_some, putA_some, Nat.ble, Nat.reduceAdd, cond_true, lay_nil, lay_cons, bump, F_eq, h_eq, upHp, List.length_cons, List.length_nil, get_put, Nat.reduceEqDiff, if_true, if_false, reduceIte, List.getElem?_toArray, List.getElem?_cons_succ, List.getElem?_cons_zero, Option.bind_some, Option.map_some, beq_iff_eq, reduceCtorEq, Bool.not_true, Bool.not_false, beq_self_eq_true, thenQ_normal, thenQ_ret, inQ_ret, inQ_normal, ends_ret, ends_skip, absOp_lenRows h46, absOp_indexAddr, absOp_load, idx_bytes h46 s5, load_byte a5 s5, orNone_some, lenA, strRows_length, absOp_slice3 h46, cut_bytes h46 s5, absOp_convText h46 h5 h9, rowsOf_xsl, rowsOf_ssl, bytesOf_rows, g0, g3, hi, Option.bind_some]
    exact ⟨.inr trivial, fin _ (l.drop i) (by simp only [get_put, Nat.reduceEqDiff, if_true, if_false, reduceIte]) (by rw [← ht, textL_end hlt])⟩

end Go.Proofs.Ytbfdokfelolmbaa.TensW
end

section
open Go.Proofs.Ytbfdokfelolmbaa.Vai
namespace Go.Proofs.Ytbfdokfelolmbaa.TensW
set_option maxRecDepth 10000
set_option linter.unusedSimpArgs false
/-- split -/
theorem split_abs (E : Env) (hE : E.P = Try.prog) (hraw : E.raw 27 = false) (n : Nat) (b : UInt8) (l : List UInt8) : absBody E n 27 Try.f27 [.s (.str (b :: l))] [] = some (.tup [.s (.bool (decide (b = 45))), .s (.str (if b = 45 then l else b :: l))], []) := by
  have h9 := hE9 hE
  have hb : (decide ((b.toNat : Int) = 45)) = decide (b = 45) := by
    congr 1; simp [← UInt8.toNat_inj]; omega
  have h1 : (1 : Int) ≤ ((l.length + 1 : Nat) : Int) := by omega
  refine body_ends rfl (by simp [Try.ntmps27]) rfl ?_
  rw [Try.ntmps27]
  simp only [ends_seq, ends_if, ends_ret, ends_skip, region_text, RegT, thenQ_normal, thenQ_ret, condQ_bool, opA_go, absOp_move, absOp_assign, absOp_bin, absOp_index, absOp_slice, orSlow_some, F_eq, h_eq, evA_tmp, evA_const, ofV, ofC, Option.getD_some, putA_some, Nat.ble, Nat.reduceAdd, cond_true, get_put, Nat.reduceEqDiff, if_true, if_false, reduceIte, upHp, binA, strA, ariA, fastA, intOf, h9, Int.toNat_natCast, Int.natCast_nonneg, Option.map_some, Option.map_none, bump, lay_nil, lay_cons,
    Int.toNat_zero, Int.le_refl, List.getElem?_cons_zero, boundA, Int.reduceLE, Int.reduceToNat, List.length_cons, List.length_nil, Int.toNat_one, List.take_length, hb]
  refine ⟨fun hc => ?_, fun hc => ?_⟩
  · refine region_calm (by kernel_rfl) ?_
    simp only [RegC, opKeys_eq, Op.operands, List.flatMap_cons, List.flatMap_nil, keysA, List.append_nil, true_and, and_true, thenQ_normal, thenQ_ret, condQ_bool, opA_go, absOp_move, absOp_assign, absOp_bin, absOp_index, absOp_slice, orSlow_some, F_eq, h_eq, evA_tmp, evA_const, ofV, ofC, Option.getD_some, putA_some, Nat.ble, Nat.reduceAdd, cond_true, get_put, Nat.reduceEqDiff, if_true, if_false, reduceIte, upHp, binA, strA, ariA, fastA, intOf, h9, Int.toNat_natCast, Int.natCast_nonneg, Option.map_some, Option.map_none, bump, lay_nil, lay_cons,
      Int.toNat_zero, Int.le_refl, List.getElem?_cons_zero, boundA, Int.reduceLE, Int.reduceToNat, List.length_cons, List.length_nil, Int.toNat_one, List.take_length, h1, List.drop_succ_cons, List.drop_zero, Nat.add_sub_cancel, Option.toList, List.cons_append, List.nil_append, ends_ret]
    refine ⟨by simp [Option.toArray, evA, keysA, get_put, ofV, ofC], .inr trivial, ?_⟩
    simp only [decide_eq_true_eq] at hc
    refine finish_sealed (l := [.s (.bool true), .s (.str l)]) ?_ hraw rfl |>.trans ?_
    · simp [Try.f27, resultA, resultA.go, get_put]
    · simp [packA, hc]
  · refine ⟨.inr trivial, ?_⟩
    simp only [decide_eq_false_iff_not] at hc
    refine finish_sealed (l := [.s (.bool false), .s (.str (b :: l))]) ?_ hraw rfl |>.trans ?_
    · simp [Try.f27, resultA, resultA.go, get_put]
    · simp [packA, hc]
end Go.Proofs.Ytbfdokfelolmbaa.TensW
end
