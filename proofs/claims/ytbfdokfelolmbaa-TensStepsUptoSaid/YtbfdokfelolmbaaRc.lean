import Derived.Test.YtbfdokfelolmbaaRb
/-
  What the document's steps answer.
-/
set_option linter.all false
section
open Go.Proofs.Ytbfdokfelolmbaa.Vai
namespace Go.Proofs.Ytbfdokfelolmbaa.TensW
set_option maxRecDepth 10000
set_option linter.unusedSimpArgs false

def bare (s : List UInt8) : List UInt8 := match s with | 45 :: r => r | l => l
def digB (c : UInt8) : Bool := !decide (c < 48) && !decide (57 < c)
def refF (s : List UInt8) : Bool := match bare s with
  | [] => false
  | c :: r => (c :: r).all digB && (decide (c ≠ 48) || s == [48])

theorem refF_bad {s L : List UInt8} {q : Nat} (hL : L = bare s) (h : q < L.length) (hd : digB L[q] = false) : refF s = false := by
  unfold refF
  rw [← hL]
  cases L with
  | nil => simp at h
  | cons c r =>
    have : (c :: r).all digB = false := by
      rw [List.all_eq_false]
      exact ⟨_, List.getElem_mem h, by simp [hd]⟩
    simp only [this, Bool.false_and]
theorem refF_good {s L : List UInt8} (hL : L = bare s) (h : 0 < L.length) (hd : ∀ q (h : q < L.length), digB L[q] = true) : refF s = (decide (L[0] ≠ 48) || s == [48]) := by
  unfold refF
  rw [← hL]
  cases L with
  | nil => simp at h
  | cons c r =>
    have : (c :: r).all digB = true := by
      rw [List.all_eq_true]
      intro x hx
      obtain ⟨i, hi, rfl⟩ := List.getElem_of_mem hx
      exact hd i hi
    simp only [this, Bool.true_and, List.getElem_cons_zero]
theorem u8_lt {c d : UInt8} : decide ((c.toNat : Int) < (d.toNat : Int)) = decide (c < d) := lt_u8

theorem refF_abs (E : Env) (hE : E.P = Try.prog) (hraw : E.raw 7 = false) (n : Nat) (s : List UInt8) (hn : s.length + 1 < n) (hl : s.length < 9223372036854775807) : absBody E n 7 Try.f7 [.s (.str s)] [] = some (.s (.bool (refF s)), []) := by
  have h9 := hE9 hE
  obtain ⟨L, hL⟩ : ∃ L, L = bare s := ⟨_, rfl⟩
  obtain ⟨fr0, hfr⟩ : ∃ q : Nat, q = if negL s then 1 else 0 := ⟨_, rfl⟩
  have hsL : s.length = L.length + fr0 := by
    subst hL hfr
    cases s with
    | nil => rfl
    | cons c r =>
      simp only [negL]
      by_cases h : c = 45
      · subst h; simp [bare]
      · have : bare (c :: r) = c :: r := by
          unfold bare; split
          · rename_i h2; rw [List.cons.injEq] at h2; exact absurd h2.1 h
          · rfl
        rw [this]; simp [h]
  have hgetL : ∀ q (h : q < L.length), s[q + fr0]? = some L[q] := by
    subst hL hfr
    cases s with
    | nil => intro q h; simp [bare] at h
    | cons c r =>
      intro q h
      by_cases hc : c = 45
      · have e1 : bare (c :: r) = r := by subst hc; rfl
        have e2 : negL (c :: r) = true := by simp [negL, hc]
        simp only [e2, if_true, List.getElem?_cons_succ]
        simp only [e1]
        rw [e1] at h
        exact List.getElem?_eq_getElem h
      · have e1 : bare (c :: r) = c :: r := by
          unfold bare; split
          · rename_i h2; rw [List.cons.injEq] at h2; exact absurd h2.1 hc
          · rfl
        have e2 : negL (c :: r) = false := by simp [negL, hc]
        simp only [e2, Bool.false_eq_true, if_false, Nat.add_zero]
        simp only [e1]
        rw [e1] at h
        exact List.getElem?_eq_getElem h
  have hr0 : L = [] → refF s = false := by intro h; unfold refF; rw [← hL, h]
  have hr1 : ∀ q (h : q < L.length), digB L[q] = false → refF s = false := fun q h hd => refF_bad hL h hd
  have hr2 : ∀ (h : 0 < L.length), (∀ q (h : q < L.length), digB L[q] = true) → refF s = (decide (L[0] ≠ 48) || s == [48]) := fun h hd => refF_good hL h hd
  have fin : ∀ (st : St) (r : Bool), r = refF s → st.fr.get 2 = .s (.bool r) → finish E 7 0 Try.f7 st = some (.s (.bool (refF s)), []) := by
    intro st r h0 h1
    refine finish_sealed (l := [.s (.bool (refF s))]) ?_ hraw rfl |>.trans rfl
    simp [Try.f7, resultA, resultA.go, h1, h0]
  refine body_ends rfl (by simp [Try.ntmps7]) rfl ?_
  rw [Try.ntmps7]
  refine seq_text ?_
  simp only [RegT, opA_go, opA_when, guardQ_some, guarded_bool, absOp_assign, absOp_move, absOp_bin, absOp_index, absOp_pick, absOp_lenStr h9, absOp_max, absOp_min, int2_int, strLen, intA, fastA, h9, intOf, orSlow_some, binA, strA, ariA, evA_const, evA_tmp, ofV, ofC, Option.getD_some, putA_some, Nat.ble, Nat.reduceAdd, cond_true, lay_nil, lay_cons, bump, F_eq, h_eq, upHp, List.length_cons, List.length_nil, get_put, Nat.reduceEqDiff, if_true, if_false, reduceIte, List.getElem?_toArray, List.getElem?_cons_succ, List.getElem?_cons_zero, Option.bind_some, Option.map_some, beq_iff_eq, reduceCtorEq, Bool.not_true, Bool.not_false, beq_self_eq_true, thenQ_normal, thenQ_ret, inQ_ret, inQ_normal, ends_ret, ends_skip]
  refine seq_text ?_
  simp only [RegT, opA_go, opA_when, guardQ_some, guarded_bool, absOp_assign, absOp_move, absOp_bin, absOp_index, absOp_pick, absOp_lenStr h9, absOp_max, absOp_min, int2_int, strLen, intA, fastA, h9, intOf, orSlow_some, binA, strA, ariA, evA_const, evA_tmp, ofV, ofC, Option.getD_some, putA_some, Nat.ble, Nat.reduceAdd, cond_true, lay_nil, lay_cons, bump, F_eq, h_eq, upHp, List.length_cons, List.length_nil, get_put, Nat.reduceEqDiff, if_true, if_false, reduceIte, List.getElem?_toArray, List.getElem?_cons_succ, List.getElem?_cons_zero, Option.bind_some, Option.map_some, beq_iff_eq, reduceCtorEq, Bool.not_true, Bool.not_false, beq_self_eq_true, thenQ_normal, thenQ_ret, inQ_ret, inQ_normal, ends_ret, ends_skip]
  refine seq_seq.2 (seq_K (fun st' => st'.fr.get 0 = .s (.str s) ∧ st'.fr.get 3 = .s (.int .i64 0) ∧ st'.fr.get 12 = .s (.bool (negL s))) (region_text.2 ?_) ?_)
  · cases s with
    | nil =>
      simp only [RegT, opA_go, opA_when, guardQ_some, guarded_bool, absOp_assign, absOp_move, absOp_bin, absOp_index, absOp_pick, absOp_lenStr h9, absOp_max, absOp_min, int2_int, strLen, intA, fastA, h9, intOf, orSlow_some, binA, strA, ariA, evA_const, evA_tmp, ofV, ofC, Option.getD_some, putA_some, Nat.ble, Nat.reduceAdd, cond_true, lay_nil, lay_cons, bump, F_eq, h_eq, upHp, List.length_cons, List.length_nil, get_put, Nat.reduceEqDiff, if_true, if_false, reduceIte, List.getElem?_toArray, List.getElem?_cons_succ, List.getElem?_cons_zero, Option.bind_some, Option.map_some, beq_iff_eq, reduceCtorEq, Bool.not_true, Bool.not_false, beq_self_eq_true, thenQ_normal, thenQ_ret, inQ_ret, inQ_normal, ends_ret, ends_skip, Bool.false_eq_true, Bool.true_eq_false, Bool.false_beq, beq_true, beq_false, Bool.not_true, Bool.not_false, Int.lt_irrefl, decide_false]
      (repeat' apply And.intro) <;> (first | trivial | rfl | assumption)
    | cons c r =>
      have d1 : decide ((0 : Int) < (((c :: r).length : Nat) : Int)) = true := by simp; try omega
      have d2 : decide ((c.toNat : Int) = 45) = negL (c :: r) := by
        simp only [negL]
        apply Bool.eq_iff_iff.2
        simp only [decide_eq_true_eq]
        constructor
        · intro h; exact UInt8.toNat_inj.1 (by simpa using (by omega : c.toNat = 45))
        · rintro rfl; rfl
      simp only [List.length_cons] at d1
      simp only [RegT, opA_go, opA_when, guardQ_some, guarded_bool, absOp_assign, absOp_move, absOp_bin, absOp_index, absOp_pick, absOp_lenStr h9, absOp_max, absOp_min, int2_int, strLen, intA, fastA, h9, intOf, orSlow_some, binA, strA, ariA, evA_const, evA_tmp, ofV, ofC, Option.getD_some, putA_some, Nat.ble, Nat.reduceAdd, cond_true, lay_nil, lay_cons, bump, F_eq, h_eq, upHp, List.length_cons, List.length_nil, get_put, Nat.reduceEqDiff, if_true, if_false, reduceIte, List.getElem?_toArray, List.getElem?_cons_succ, List.getElem?_cons_zero, Option.bind_some, Option.map_some, beq_iff_eq, reduceCtorEq, Bool.not_true, Bool.not_false, beq_self_eq_true, thenQ_normal, thenQ_ret, inQ_ret, inQ_normal, ends_ret, ends_skip, Bool.false_eq_true, Bool.true_eq_false, Bool.false_beq, beq_true, beq_false, Bool.not_true, Bool.not_false, d1, d2, Int.le_refl, Int.toNat_zero]
      (repeat' apply And.intro) <;> (first | trivial | rfl | assumption)
  rintro ⟨fr1, hp1, nx1⟩ ⟨g0, g3, g12⟩
  simp only at g0 g3 g12
  refine seq_ifK (t := negL s) (fun st' => st'.fr.get 0 = .s (.str s) ∧ st'.fr.get 3 = .s (.int .i64 (fr0 : Int))) (by simp only [F_eq, evA_tmp, get_put, Nat.reduceEqDiff, if_true, if_false, reduceIte]; exact g12) (fun hc => ?_) (fun hc => ?_) ?_
  · rw [hc, if_pos rfl] at hfr
    refine region_text.2 ?_
    simp only [RegT, opA_go, opA_when, guardQ_some, guarded_bool, absOp_assign, absOp_move, absOp_bin, absOp_index, absOp_pick, absOp_lenStr h9, absOp_max, absOp_min, int2_int, strLen, intA, fastA, h9, intOf, orSlow_some, binA, strA, ariA, evA_const, evA_tmp, ofV, ofC, Option.getD_some, putA_some, Nat.ble, Nat.reduceAdd, cond_true, lay_nil, lay_cons, bump, F_eq, h_eq, upHp, List.length_cons, List.length_nil, get_put, Nat.reduceEqDiff, if_true, if_false, reduceIte, List.getElem?_toArray, List.getElem?_cons_succ, List.getElem?_cons_zero, Option.bind_some, Option.map_some, beq_iff_eq, reduceCtorEq, Bool.not_true, Bool.not_false, beq_self_eq_true, thenQ_normal, thenQ_ret, inQ_ret, inQ_normal, ends_ret, ends_skip, g0, hfr]
    (repeat' apply And.intro) <;> (first | trivial | rfl | assumption)
  · rw [hc] at hfr
    simp only [Bool.false_eq_true, if_false] at hfr
    refine ends_skip.2 ?_
    simp only [RegT, opA_go, opA_when, guardQ_some, guarded_bool, absOp_assign, absOp_move, absOp_bin, absOp_index, absOp_pick, absOp_lenStr h9, absOp_max, absOp_min, int2_int, strLen, intA, fastA, h9, intOf, orSlow_some, binA, strA, ariA, evA_const, evA_tmp, ofV, ofC, Option.getD_some, putA_some, Nat.ble, Nat.reduceAdd, cond_true, lay_nil, lay_cons, bump, F_eq, h_eq, upHp, List.length_cons, List.length_nil, get_put, Nat.reduceEqDiff, if_true, if_false, reduceIte, List.getElem?_toArray, List.getElem?_cons_succ, List.getElem?_cons_zero, Option.bind_some, Option.map_some, beq_iff_eq, reduceCtorEq, Bool.not_true, Bool.not_false, beq_self_eq_true, thenQ_normal, thenQ_ret, inQ_ret, inQ_normal, ends_ret, ends_skip, g0, g3, hfr]
    (repeat' apply And.intro) <;> (first | trivial | rfl | assumption)
  clear g0 g3 g12
  rintro ⟨fr2, hp2, nx2⟩ ⟨g0, g3⟩
  simp only at g0 g3
  have d0 : decide ((fr0 : Int) = (s.length : Int)) = decide (L = []) := by
    apply Bool.eq_iff_iff.2; simp only [decide_eq_true_eq]; rw [← List.length_eq_zero_iff]; omega
  refine seq_seq.2 (seq_text ?_)
  simp only [RegT, opA_go, opA_when, guardQ_some, guarded_bool, absOp_assign, absOp_move, absOp_bin, absOp_index, absOp_pick, absOp_lenStr h9, absOp_max, absOp_min, int2_int, strLen, intA, fastA, h9, intOf, orSlow_some, binA, strA, ariA, evA_const, evA_tmp, ofV, ofC, Option.getD_some, putA_some, Nat.ble, Nat.reduceAdd, cond_true, lay_nil, lay_cons, bump, F_eq, h_eq, upHp, List.length_cons, List.length_nil, get_put, Nat.reduceEqDiff, if_true, if_false, reduceIte, List.getElem?_toArray, List.getElem?_cons_succ, List.getElem?_cons_zero, Option.bind_some, Option.map_some, beq_iff_eq, reduceCtorEq, Bool.not_true, Bool.not_false, beq_self_eq_true, thenQ_normal, thenQ_ret, inQ_ret, inQ_normal, ends_ret, ends_skip, g0, g3, d0]
  refine seq_if (t := decide (L = [])) (by simp only [F_eq, evA_tmp, get_put, Nat.reduceEqDiff, if_true, if_false, reduceIte]) (fun hc => ?_) (fun hc => ?_)
  · have hc := of_decide_eq_true hc
    refine seq_text ?_
    simp only [RegT, opA_go, opA_when, guardQ_some, guarded_bool, absOp_assign, absOp_move, absOp_bin, absOp_index, absOp_pick, absOp_lenStr h9, absOp_max, absOp_min, int2_int, strLen, intA, fastA, h9, intOf, orSlow_some, binA, strA, ariA, evA_const, evA_tmp, ofV, ofC, Option.getD_some, putA_some, Nat.ble, Nat.reduceAdd, cond_true, lay_nil, lay_cons, bump, F_eq, h_eq, upHp, List.length_cons, List.length_nil, get_put, Nat.reduceEqDiff, if_true, if_false, reduceIte, List.getElem?_toArray, List.getElem?_cons_succ, List.getElem?_cons_zero, Option.bind_some, Option.map_some, beq_iff_eq, reduceCtorEq, Bool.not_true, Bool.not_false, beq_self_eq_true, thenQ_normal, thenQ_ret, inQ_ret, inQ_normal, ends_ret, ends_skip]
    exact ⟨.inr trivial, fin _ false (hr0 hc).symm (by simp only [get_put, Nat.reduceEqDiff, if_true, if_false, reduceIte])⟩
  have hne := of_decide_eq_false hc
  have hpos : 0 < L.length := List.length_pos_iff.2 hne
  rw [ends_skip, thenQ_normal]
  refine seq_seq.2 (seq_text ?_)
  simp only [RegT, opA_go, opA_when, guardQ_some, guarded_bool, absOp_assign, absOp_move, absOp_bin, absOp_index, absOp_pick, absOp_lenStr h9, absOp_max, absOp_min, int2_int, strLen, intA, fastA, h9, intOf, orSlow_some, binA, strA, ariA, evA_const, evA_tmp, ofV, ofC, Option.getD_some, putA_some, Nat.ble, Nat.reduceAdd, cond_true, lay_nil, lay_cons, bump, F_eq, h_eq, upHp, List.length_cons, List.length_nil, get_put, Nat.reduceEqDiff, if_true, if_false, reduceIte, List.getElem?_toArray, List.getElem?_cons_succ, List.getElem?_cons_zero, Option.bind_some, Option.map_some, beq_iff_eq, reduceCtorEq, Bool.not_true, Bool.not_false, beq_self_eq_true, thenQ_normal, thenQ_ret, inQ_ret, inQ_normal, ends_ret, ends_skip, g0, g3]
  refine ends_seq.2 (ends_block.2 ?_)
  refine ends_loop (fun k st => ∃ j : Nat, k = L.length - j ∧ j ≤ L.length ∧ st.fr.get 0 = .s (.str s) ∧ st.fr.get 3 = .s (.int .i64 (fr0 : Int)) ∧ st.fr.get 4 = .s (.int .i64 ((j + fr0 : Nat) : Int)) ∧ ∀ q (h : q < L.length), q < j → digB L[q] = true) (m := L.length) (by omega) ⟨0, by simp, by omega, by simp only [get_put, Nat.reduceEqDiff, if_true, if_false, reduceIte, g0], by simp only [get_put, Nat.reduceEqDiff, if_true, if_false, reduceIte, g3], by simp only [get_put, Nat.reduceEqDiff, if_true, if_false, reduceIte, Nat.zero_add], by intro q _ h; omega⟩ ?_
  clear g0 g3
  rintro k ⟨fr3, hp3, nx3⟩ ⟨j, rfl, hj, g0, g3, g4, hall⟩
  simp only at g0 g3 g4
  have d1 : decide (((j + fr0 : Nat) : Int) < (s.length : Int)) = decide (j < L.length) := by
    apply Bool.eq_iff_iff.2; simp only [decide_eq_true_eq]; omega
  refine seq_seq.2 (seq_text ?_)
  simp only [RegT, opA_go, opA_when, guardQ_some, guarded_bool, absOp_assign, absOp_move, absOp_bin, absOp_index, absOp_pick, absOp_lenStr h9, absOp_max, absOp_min, int2_int, strLen, intA, fastA, h9, intOf, orSlow_some, binA, strA, ariA, evA_const, evA_tmp, ofV, ofC, Option.getD_some, putA_some, Nat.ble, Nat.reduceAdd, cond_true, lay_nil, lay_cons, bump, F_eq, h_eq, upHp, List.length_cons, List.length_nil, get_put, Nat.reduceEqDiff, if_true, if_false, reduceIte, List.getElem?_toArray, List.getElem?_cons_succ, List.getElem?_cons_zero, Option.bind_some, Option.map_some, beq_iff_eq, reduceCtorEq, Bool.not_true, Bool.not_false, beq_self_eq_true, thenQ_normal, thenQ_ret, inQ_ret, inQ_normal, ends_ret, ends_skip, g0, g4, d1]
  refine seq_if (t := decide (j < L.length)) (by simp only [F_eq, evA_tmp, get_put, Nat.reduceEqDiff, if_true, if_false, reduceIte]) (fun hc => ?_) (fun hc => ?_)
  · have hc := of_decide_eq_true hc
    rw [ends_skip, thenQ_normal]
    obtain ⟨c, hce⟩ : ∃ c, c = L[j] := ⟨_, rfl⟩
    have hsq : s[j + fr0]? = some c := by rw [hgetL j hc, hce]
    have l1 : decide ((c.toNat : Int) < 48) = decide (c < 48) := lt_u8 (b := 48)
    have l2 : decide ((57 : Int) < (c.toNat : Int)) = decide (57 < c) := lt_u8 (a := 57)
    refine seq_K (fun st' => st'.fr.get 0 = .s (.str s) ∧ st'.fr.get 3 = .s (.int .i64 (fr0 : Int)) ∧ st'.fr.get 4 = .s (.int .i64 ((j + fr0 : Nat) : Int)) ∧ digB c = true) (ends_block.2 ?_) ?_
    · refine seq_K (fun st' => st'.fr.get 0 = .s (.str s) ∧ st'.fr.get 3 = .s (.int .i64 (fr0 : Int)) ∧ st'.fr.get 4 = .s (.int .i64 ((j + fr0 : Nat) : Int)) ∧ st'.fr.get 33 = .s (.bool (!digB c))) (region_text.2 ?_) ?_
      · cases h1 : decide (c < 48) with
        | true =>
          have e : digB c = false := by simp [digB, h1]
          simp only [RegT, opA_go, opA_when, guardQ_some, guarded_bool, absOp_assign, absOp_move, absOp_bin, absOp_index, absOp_pick, absOp_lenStr h9, absOp_max, absOp_min, int2_int, strLen, intA, fastA, h9, intOf, orSlow_some, binA, strA, ariA, evA_const, evA_tmp, ofV, ofC, Option.getD_some, putA_some, Nat.ble, Nat.reduceAdd, cond_true, lay_nil, lay_cons, bump, F_eq, h_eq, upHp, List.length_cons, List.length_nil, get_put, Nat.reduceEqDiff, if_true, if_false, reduceIte, List.getElem?_toArray, List.getElem?_cons_succ, List.getElem?_cons_zero, Option.bind_some, Option.map_some, beq_iff_eq, reduceCtorEq, Bool.not_true, Bool.not_false, beq_self_eq_true, thenQ_normal, thenQ_ret, inQ_ret, inQ_normal, ends_ret, ends_skip, Bool.false_eq_true, Bool.true_eq_false, Bool.false_beq, beq_true, beq_false, Bool.not_true, Bool.not_false, g0, g3, g4, Int.natCast_nonneg, Int.toNat_natCast, hsq, l1, h1, e]
          (repeat' apply And.intro) <;> (first | trivial | rfl | assumption)
        | false =>
          have e : digB c = !decide (57 < c) := by simp only [digB, h1, Bool.not_false, Bool.true_and]
          simp only [RegT, opA_go, opA_when, guardQ_some, guarded_bool, absOp_assign, absOp_move, absOp_bin, absOp_index, absOp_pick, absOp_lenStr h9, absOp_max, absOp_min, int2_int, strLen, intA, fastA, h9, intOf, orSlow_some, binA, strA, ariA, evA_const, evA_tmp, ofV, ofC, Option.getD_some, putA_some, Nat.ble, Nat.reduceAdd, cond_true, lay_nil, lay_cons, bump, F_eq, h_eq, upHp, List.length_cons, List.length_nil, get_put, Nat.reduceEqDiff, if_true, if_false, reduceIte, List.getElem?_toArray, List.getElem?_cons_succ, List.getElem?_cons_zero, Option.bind_some, Option.map_some, beq_iff_eq, reduceCtorEq, Bool.not_true, Bool.not_false, beq_self_eq_true, thenQ_normal, thenQ_ret, inQ_ret, inQ_normal, ends_ret, ends_skip, Bool.false_eq_true, Bool.true_eq_false, Bool.false_beq, beq_true, beq_false, Bool.not_true, Bool.not_false, g0, g3, g4, Int.natCast_nonneg, Int.toNat_natCast, hsq, l1, l2, h1, e, Bool.not_not]
          (repeat' apply And.intro) <;> (first | trivial | rfl | assumption)
      rintro ⟨fr4, hp4, nx4⟩ ⟨k0, k3, k4, k33⟩
      simp only at k0 k3 k4 k33
      refine end_if (t := !digB c) (by simp only [F_eq, evA_tmp, get_put, Nat.reduceEqDiff, if_true, if_false, reduceIte]; exact k33) (fun hd => ?_) (fun hd => ?_)
      · refine seq_text ?_
        simp only [RegT, opA_go, opA_when, guardQ_some, guarded_bool, absOp_assign, absOp_move, absOp_bin, absOp_index, absOp_pick, absOp_lenStr h9, absOp_max, absOp_min, int2_int, strLen, intA, fastA, h9, intOf, orSlow_some, binA, strA, ariA, evA_const, evA_tmp, ofV, ofC, Option.getD_some, putA_some, Nat.ble, Nat.reduceAdd, cond_true, lay_nil, lay_cons, bump, F_eq, h_eq, upHp, List.length_cons, List.length_nil, get_put, Nat.reduceEqDiff, if_true, if_false, reduceIte, List.getElem?_toArray, List.getElem?_cons_succ, List.getElem?_cons_zero, Option.bind_some, Option.map_some, beq_iff_eq, reduceCtorEq, Bool.not_true, Bool.not_false, beq_self_eq_true, thenQ_normal, thenQ_ret, inQ_ret, inQ_normal, ends_ret, ends_skip]
        exact ⟨.inr trivial, fin _ false (hr1 j hc (by rw [← hce]; simpa using hd)).symm (by simp only [get_put, Nat.reduceEqDiff, if_true, if_false, reduceIte])⟩
      · refine ends_skip.2 ?_
        simp only [RegT, opA_go, opA_when, guardQ_some, guarded_bool, absOp_assign, absOp_move, absOp_bin, absOp_index, absOp_pick, absOp_lenStr h9, absOp_max, absOp_min, int2_int, strLen, intA, fastA, h9, intOf, orSlow_some, binA, strA, ariA, evA_const, evA_tmp, ofV, ofC, Option.getD_some, putA_some, Nat.ble, Nat.reduceAdd, cond_true, lay_nil, lay_cons, bump, F_eq, h_eq, upHp, List.length_cons, List.length_nil, get_put, Nat.reduceEqDiff, if_true, if_false, reduceIte, List.getElem?_toArray, List.getElem?_cons_succ, List.getElem?_cons_zero, Option.bind_some, Option.map_some, beq_iff_eq, reduceCtorEq, Bool.not_true, Bool.not_false, beq_self_eq_true, thenQ_normal, thenQ_ret, inQ_ret, inQ_normal, ends_ret, ends_skip, k0, k3, k4]
        exact ⟨trivial, trivial, trivial, by simpa using hd⟩
    · rintro ⟨fr4, hp4, nx4⟩ ⟨k0, k3, k4, hd⟩
      simp only at k0 k3 k4
      have hw : IntKind.i64.wrap (((j + fr0 : Nat) : Int) + 1) = ((j + 1 + fr0 : Nat) : Int) := wrap_nat (by omega) (by omega)
      refine region_text.2 ?_
      simp only [RegT, opA_go, opA_when, guardQ_some, guarded_bool, absOp_assign, absOp_move, absOp_bin, absOp_index, absOp_pick, absOp_lenStr h9, absOp_max, absOp_min, int2_int, strLen, intA, fastA, h9, intOf, orSlow_some, binA, strA, ariA, evA_const, evA_tmp, ofV, ofC, Option.getD_some, putA_some, Nat.ble, Nat.reduceAdd, cond_true, lay_nil, lay_cons, bump, F_eq, h_eq, upHp, List.length_cons, List.length_nil, get_put, Nat.reduceEqDiff, if_true, if_false, reduceIte, List.getElem?_toArray, List.getElem?_cons_succ, List.getElem?_cons_zero, Option.bind_some, Option.map_some, beq_iff_eq, reduceCtorEq, Bool.not_true, Bool.not_false, beq_self_eq_true, thenQ_normal, thenQ_ret, inQ_ret, inQ_normal, ends_ret, ends_skip, k4, hw]
      refine ⟨L.length - (j + 1), by omega, j + 1, rfl, by omega, k0, k3, (by first | trivial | rfl), fun q h hq => ?_⟩
      rcases Nat.lt_or_ge q j with h2 | h2
      · exact hall q h h2
      · have : q = j := by omega
        subst this
        rw [← hce]; exact hd
  · have hc := of_decide_eq_false hc
    rw [ends_exit, thenQ_exit, thenQ_exit]
    simp only [inQ_exit, if_true, reduceIte, thenQ_normal]
    have hres := hr2 hpos (fun q h => hall q h (by omega))
    obtain ⟨c, hce⟩ : ∃ c, c = L[0] := ⟨_, rfl⟩
    rw [← hce] at hres
    have hs0 : s[fr0]? = some c := by
      have := hgetL 0 hpos
      rw [Nat.zero_add] at this
      rw [this, hce]
    have d5 : (!decide ((c.toNat : Int) = 48)) = decide (c ≠ 48) := by
      have : decide ((c.toNat : Int) = 48) = decide (c = 48) := by
        apply Bool.eq_iff_iff.2
        simp only [decide_eq_true_eq]
        constructor
        · intro h; exact UInt8.toNat_inj.1 (by simpa using (by omega : c.toNat = 48))
        · rintro rfl; rfl
      rw [this]; simp
    refine seq_text ?_
    cases h5 : decide (c ≠ 48) with
    | true =>
      simp only [RegT, opA_go, opA_when, guardQ_some, guarded_bool, absOp_assign, absOp_move, absOp_bin, absOp_index, absOp_pick, absOp_lenStr h9, absOp_max, absOp_min, int2_int, strLen, intA, fastA, h9, intOf, orSlow_some, binA, strA, ariA, evA_const, evA_tmp, ofV, ofC, Option.getD_some, putA_some, Nat.ble, Nat.reduceAdd, cond_true, lay_nil, lay_cons, bump, F_eq, h_eq, upHp, List.length_cons, List.length_nil, get_put, Nat.reduceEqDiff, if_true, if_false, reduceIte, List.getElem?_toArray, List.getElem?_cons_succ, List.getElem?_cons_zero, Option.bind_some, Option.map_some, beq_iff_eq, reduceCtorEq, Bool.not_true, Bool.not_false, beq_self_eq_true, thenQ_normal, thenQ_ret, inQ_ret, inQ_normal, ends_ret, ends_skip, Bool.false_eq_true, Bool.true_eq_false, Bool.false_beq, beq_true, beq_false, Bool.not_true, Bool.not_false, g0, g3, Int.natCast_nonneg, Int.toNat_natCast, hs0, d5, h5]
      exact ⟨.inr trivial, fin _ true (by rw [hres, h5]; rfl) (by simp only [get_put, Nat.reduceEqDiff, if_true, if_false, reduceIte])⟩
    | false =>
      simp only [RegT, opA_go, opA_when, guardQ_some, guarded_bool, absOp_assign, absOp_move, absOp_bin, absOp_index, absOp_pick, absOp_lenStr h9, absOp_max, absOp_min, int2_int, strLen, intA, fastA, h9, intOf, orSlow_some, binA, strA, ariA, evA_const, evA_tmp, ofV, ofC, Option.getD_some, putA_some, Nat.ble, Nat.reduceAdd, cond_true, lay_nil, lay_cons, bump, F_eq, h_eq, upHp, List.length_cons, List.length_nil, get_put, Nat.reduceEqDiff, if_true, if_false, reduceIte, List.getElem?_toArray, List.getElem?_cons_succ, List.getElem?_cons_zero, Option.bind_some, Option.map_some, beq_iff_eq, reduceCtorEq, Bool.not_true, Bool.not_false, beq_self_eq_true, thenQ_normal, thenQ_ret, inQ_ret, inQ_normal, ends_ret, ends_skip, Bool.false_eq_true, Bool.true_eq_false, Bool.false_beq, beq_true, beq_false, Bool.not_true, Bool.not_false, g0, g3, Int.natCast_nonneg, Int.toNat_natCast, hs0, d5, h5]
      exact ⟨.inr trivial, fin _ (s == [48]) (by rw [hres, h5]; rfl) (by simp only [get_put, Nat.reduceEqDiff, if_true, if_false, reduceIte])⟩
end Go.Proofs.Ytbfdokfelolmbaa.TensW
end

section
open Go.Proofs.Ytbfdokfelolmbaa.Vai
namespace Go.Proofs.Ytbfdokfelolmbaa.TensW
set_option maxRecDepth 10000
set_option linter.unusedSimpArgs false

theorem seal_num {h : HR} {p : Bool} {rows : List (List SV)} : sealA room h (.agg [.s (.bool p), .s (.ssl rows)]) = some (.agg [.bool p, .ssl rows], []) := by
  unfold room; simp [sealA, sealAs]
theorem seal_s {h : HR} {v : SV} : sealA room h (.s v) = some (v, []) := by
  unfold room; simp [sealA]
abbrev Num := Bool × List Nat
def nA (x : Num) : AV := numA x.1 x.2
def trimP (b : Bool) (l : List Nat) : Num := (b && decide (0 < topN l l.length), l.take (topN l l.length))
theorem trimA_eq {b : Bool} {l : List Nat} : trimA b l = nA (trimP b l) := rfl
def orderP (x y : Num) : Int := orderN x.1 x.2 y.1 y.2
def addP (x y : Num) : Num :=
  if x.1 = y.1 then trimP x.1 (sumOut x.2 y.2) else if sizeN x.2 y.2 < 0 then trimP y.1 (restOut y.2 x.2) else trimP x.1 (restOut x.2 y.2)
theorem addN_eq {x y : Num} : addN x.1 x.2 y.1 y.2 = nA (addP x y) := by
  unfold addN addP
  split
  · rfl
  · split <;> rfl
def writeP (x : Num) : List UInt8 := writeL x.1 x.2
def readP (s : List UInt8) : Num := trimP (negL s) (readD s)
def okN (x : Num) : Prop := Tens x.2 ∧ x.2.length < 2199023255552

theorem Tens.take {l : List Nat} (h : Tens l) (n : Nat) : Tens (l.take n) := fun d hd => h d (List.mem_of_mem_take hd)
theorem sumRun_tens {a b : List Nat} : ∀ i, Tens (sumRun a b i).1
  | 0 => by intro d hd; simp [sumRun] at hd
  | i + 1 => by
    intro d hd
    simp only [sumRun, List.mem_append, List.mem_singleton] at hd
    rcases hd with hd | rfl
    · exact sumRun_tens i d hd
    · omega
theorem sumOut_tens {a b : List Nat} : Tens (sumOut a b) := by
  unfold sumOut; split <;> exact sumRun_tens _
theorem sumOut_len {a b : List Nat} : (sumOut a b).length ≤ max a.length b.length + 1 := by
  unfold sumOut; split <;> rw [sumRun_length] <;> omega
theorem restRun_tens {a b : List Nat} (ha : Tens a) : ∀ i, Tens (restRun a b i).1
  | 0 => by intro d hd; simp [restRun] at hd
  | i + 1 => by
    intro d hd
    have h1 := ha.get i
    simp only [restRun, restStep] at hd
    split at hd
    · simp only [List.mem_append, List.mem_singleton] at hd
      rcases hd with hd | rfl
      · exact restRun_tens ha i d hd
      · omega
    · simp only [List.mem_append, List.mem_singleton] at hd
      rcases hd with hd | rfl
      · exact restRun_tens ha i d hd
      · omega
theorem restOut_tens {a b : List Nat} (ha : Tens a) : Tens (restOut a b) := restRun_tens ha _
theorem restOut_len {a b : List Nat} : (restOut a b).length = a.length := restRun_length
theorem addP_tens {x y : Num} (hx : Tens x.2) (hy : Tens y.2) : Tens (addP x y).2 := by
  unfold addP
  split
  · exact sumOut_tens.take _
  · split
    · exact (restOut_tens hy).take _
    · exact (restOut_tens hx).take _
theorem addP_len {x y : Num} : (addP x y).2.length ≤ max x.2.length y.2.length + 1 := by
  unfold addP
  split
  · have := sumOut_len (a := x.2) (b := y.2)
    simp only [trimP, List.length_take]; omega
  · split
    · have := restOut_len (a := y.2) (b := x.2)
      simp only [trimP, List.length_take]; omega
    · have := restOut_len (a := x.2) (b := y.2)
      simp only [trimP, List.length_take]; omega

structure StepsKnow (E : Env) : Prop where
  formed : ∀ l, Small l → E.call 7 [.s (.str l)] [] = some (.s (.bool (refF l)), [])
  read : ∀ l, l ≠ [] → l.length < 4398046511104 → E.call 8 [.s (.str l)] [] = some (nA (readP l), [])
  order : ∀ x y, okN x → okN y → E.call 9 [nA x, nA y] [] = some (.s (.int .i64 (orderP x y)), [])
  write : ∀ x, okN x → E.call 10 [nA x] [] = some (.s (.str (writeP x)), [])
  add : ∀ x y, okN x → okN y → E.call 11 [nA x, nA y] [] = some (nA (addP x y), [])
  lend7 : E.lend 7 = false
  lend8 : E.lend 8 = false
  lend9 : E.lend 9 = false
  lend10 : E.lend 10 = false
  lend11 : E.lend 11 = false

theorem op7 {E : Env} (hE : E.P = Try.prog) (D : StepsKnow E) {F : Nat → AV} {h : HR} {k s : Nat} {d : Option Tmp} {ty : TypeId} {pos : String} {af : Array Edge} {ts : Array TypeId} {gd : Option (Nat × Bool)} {x : Operand} {l : List UInt8} (hl : Small l) (hx : evA E.glob F x = .s (.str l)) : absOp E (evA E.glob F) h k s ⟨d, .call { callee := .value (.func 7), args := #[x], argTypes := ts }, ty, pos, af, gd⟩ = some (.s (.bool (refF l)), []) := by
  rw [absOp_calls (f := 7) (ags := [.s (.str l)]) (fz := []) (r := .s (.bool (refF l))) rfl (by rw [hE]; unfold bodied; rw [Try.func7]; rfl) D.lend7 (by
    simp only [List.map_cons, List.map_nil, hx]
    simp [sealArgs, seal_num, seal_s, unS, aggS, nA, numA]) (D.formed l hl)]
  rfl
theorem op8 {E : Env} (hE : E.P = Try.prog) (D : StepsKnow E) {F : Nat → AV} {h : HR} {k s : Nat} {d : Option Tmp} {ty : TypeId} {pos : String} {af : Array Edge} {ts : Array TypeId} {gd : Option (Nat × Bool)} {x : Operand} {l : List UInt8} (h0 : l ≠ []) (hl : l.length < 4398046511104) (hx : evA E.glob F x = .s (.str l)) : absOp E (evA E.glob F) h k s ⟨d, .call { callee := .value (.func 8), args := #[x], argTypes := ts }, ty, pos, af, gd⟩ = some (nA (readP l), []) := by
  rw [absOp_calls (f := 8) (ags := [.s (.str l)]) (fz := []) (r := nA (readP l)) rfl (by rw [hE]; unfold bodied; rw [Try.func8]; rfl) D.lend8 (by
    simp only [List.map_cons, List.map_nil, hx]
    simp [sealArgs, seal_num, seal_s, unS, aggS, nA, numA]) (D.read l h0 hl)]
  rfl
theorem op9 {E : Env} (hE : E.P = Try.prog) (D : StepsKnow E) {F : Nat → AV} {h : HR} {k s : Nat} {d : Option Tmp} {ty : TypeId} {pos : String} {af : Array Edge} {ts : Array TypeId} {gd : Option (Nat × Bool)} {x y : Operand} {m n : Num} (hm : okN m) (hn : okN n) (hx : evA E.glob F x = .agg [.s (.bool m.1), .s (.ssl (intRows m.2))]) (hy : evA E.glob F y = .agg [.s (.bool n.1), .s (.ssl (intRows n.2))]) : absOp E (evA E.glob F) h k s ⟨d, .call { callee := .value (.func 9), args := #[x, y], argTypes := ts }, ty, pos, af, gd⟩ = some (.s (.int .i64 (orderP m n)), []) := by
  rw [absOp_calls (f := 9) (ags := [nA m, nA n]) (fz := []) (r := .s (.int .i64 (orderP m n))) rfl (by rw [hE]; unfold bodied; rw [Try.func9]; rfl) D.lend9 (by
    simp only [List.map_cons, List.map_nil, hx, hy]
    simp [sealArgs, seal_num, seal_s, unS, aggS, nA, numA]) (D.order m n hm hn)]
  rfl
theorem op10 {E : Env} (hE : E.P = Try.prog) (D : StepsKnow E) {F : Nat → AV} {h : HR} {k s : Nat} {d : Option Tmp} {ty : TypeId} {pos : String} {af : Array Edge} {ts : Array TypeId} {gd : Option (Nat × Bool)} {x : Operand} {m : Num} (hm : okN m) (hx : evA E.glob F x = .agg [.s (.bool m.1), .s (.ssl (intRows m.2))]) : absOp E (evA E.glob F) h k s ⟨d, .call { callee := .value (.func 10), args := #[x], argTypes := ts }, ty, pos, af, gd⟩ = some (.s (.str (writeP m)), []) := by
  rw [absOp_calls (f := 10) (ags := [nA m]) (fz := []) (r := .s (.str (writeP m))) rfl (by rw [hE]; unfold bodied; rw [Try.func10]; rfl) D.lend10 (by
    simp only [List.map_cons, List.map_nil, hx]
    simp [sealArgs, seal_num, seal_s, unS, aggS, nA, numA]) (D.write m hm)]
  rfl
theorem op11 {E : Env} (hE : E.P = Try.prog) (D : StepsKnow E) {F : Nat → AV} {h : HR} {k s : Nat} {d : Option Tmp} {ty : TypeId} {pos : String} {af : Array Edge} {ts : Array TypeId} {gd : Option (Nat × Bool)} {x y : Operand} {m n : Num} (hm : okN m) (hn : okN n) (hx : evA E.glob F x = .agg [.s (.bool m.1), .s (.ssl (intRows m.2))]) (hy : evA E.glob F y = .agg [.s (.bool n.1), .s (.ssl (intRows n.2))]) : absOp E (evA E.glob F) h k s ⟨d, .call { callee := .value (.func 11), args := #[x, y], argTypes := ts }, ty, pos, af, gd⟩ = some (nA (addP m n), []) := by
  rw [absOp_calls (f := 11) (ags := [nA m, nA n]) (fz := []) (r := nA (addP m n)) rfl (by rw [hE]; unfold bodied; rw [Try.func11]; rfl) D.lend11 (by
    simp only [List.map_cons, List.map_nil, hx, hy]
    simp [sealArgs, seal_num, seal_s, unS, aggS, nA, numA]) (D.add m n hm hn)]
  rfl

def stopP (s : Num) (c : Int) : Bool := if s.1 then decide (c ≤ 0) else decide (0 ≤ c)
def refSteps (e s : Num) : Num → Nat → List (List UInt8)
  | _, 0 => []
  | x, m + 1 => if stopP s (orderP x e) then [] else writeP x :: refSteps e s (addP x s) m
def badF (a b c : List UInt8) : Bool := !refF a || !refF b || !refF c || c == [48]
def refStepsL (a b c : List UInt8) (m : Nat) : List (List UInt8) := if badF a b c then [] else refSteps (readP b) (readP c) (readP a) m

theorem refF_ne {s : List UInt8} (h : refF s = true) : s ≠ [] := by
  rintro rfl; simp [refF, bare] at h

theorem steps_abs (E : Env) (hE : E.P = Try.prog) (D : StepsKnow E) (hraw : E.raw 4 = false) (n : Nat) (a b c : List UInt8) (m : Nat) (hm : m ≤ 1000) (hn : m + 1 < n) (hla : a.length < 1099511627776) (hlb : b.length < 1099511627776) (hlc : c.length < 1099511627776) (hta : refF a = true → Tens (readD a)) (htb : refF b = true → Tens (readD b)) (htc : refF c = true → Tens (readD c)) : absBody E n 4 Try.f4 [.s (.str a), .s (.str b), .s (.str c), .s (.int .i64 (m : Int))] [] = some (.s (.ssl (cellRows ((refStepsL a b c m).map SV.str))), []) := by
  have h9 := hE9 hE
  have h30 := hE30 hE
  have s3 := hS3 hE
  have a3 := hA3 hE
  have z32 := hE32 hE
  have s4 := hS4 hE
  have a4 := hA4 hE
  have s30 := hS30 hE
  have a30 := hA30 hE
  have s32 := hS32 hE
  have a32 := hA32 hE
  have h22 := hE22 hE
  have s9 := hS9 hE
  have b9 := hB9 hE
  have z9 := hZ9 hE
  have q7a := @op7 E hE D (l := a) (hl := by unfold Small; omega)
  have q7b := @op7 E hE D (l := b) (hl := by unfold Small; omega)
  have q7c := @op7 E hE D (l := c) (hl := by unfold Small; omega)
  have fin : ∀ (st : St) (l : List (List UInt8)), l = refStepsL a b c m → GrownIn st.hp (· = 64) (st.fr.get 8) (l.map SV.str) → finish E 4 0 Try.f4 st = some (.s (.ssl (cellRows ((refStepsL a b c m).map SV.str))), []) := by
    intro st l h0 h1
    subst h0
    exact h1.finish (t := 8) rfl hraw
  refine body_ends rfl (by simp [Try.ntmps4]) rfl ?_
  rw [Try.ntmps4]
  refine seq_text ?_
  simp only [RegT, opA_go, opA_when, guardQ_some, guarded_bool, absOp_assign, absOp_move, absOp_bin, absOp_index, absOp_pick, absOp_lenStr h9, absOp_max, absOp_min, int2_int, strLen, intA, fastA, h9, intOf, orSlow_some, binA, strA, ariA, evA_const, evA_tmp, ofV, ofC, Option.getD_some, putA_some, Nat.ble, Nat.reduceAdd, cond_true, lay_nil, lay_cons, bump, F_eq, h_eq, upHp, List.length_cons, List.length_nil, get_put, Nat.reduceEqDiff, if_true, if_false, reduceIte, List.getElem?_toArray, List.getElem?_cons_succ, List.getElem?_cons_zero, Option.bind_some, Option.map_some, beq_iff_eq, reduceCtorEq, Bool.not_true, Bool.not_false, beq_self_eq_true, thenQ_normal, thenQ_ret, inQ_ret, inQ_normal, ends_ret, ends_skip, absOp_lenRows h30, lenA, intRows_length, absOp_indexAddr, absOp_load, idx_ints h30 s3, load_byte a3 s3, orNone_some]
  refine seq_text ?_
  simp only [RegT, opA_go, opA_when, guardQ_some, guarded_bool, absOp_assign, absOp_move, absOp_bin, absOp_index, absOp_pick, absOp_lenStr h9, absOp_max, absOp_min, int2_int, strLen, intA, fastA, h9, intOf, orSlow_some, binA, strA, ariA, evA_const, evA_tmp, ofV, ofC, Option.getD_some, putA_some, Nat.ble, Nat.reduceAdd, cond_true, lay_nil, lay_cons, bump, F_eq, h_eq, upHp, List.length_cons, List.length_nil, get_put, Nat.reduceEqDiff, if_true, if_false, reduceIte, List.getElem?_toArray, List.getElem?_cons_succ, List.getElem?_cons_zero, Option.bind_some, Option.map_some, beq_iff_eq, reduceCtorEq, Bool.not_true, Bool.not_false, beq_self_eq_true, thenQ_normal, thenQ_ret, inQ_ret, inQ_normal, ends_ret, ends_skip, absOp_lenRows h30, lenA, intRows_length, absOp_indexAddr, absOp_load, idx_ints h30 s3, load_byte a3 s3, orNone_some]
  refine seq_seq.2 (seq_K (fun st' => st'.hp = [] ∧ st'.fr.get 0 = .s (.str a) ∧ st'.fr.get 1 = .s (.str b) ∧ st'.fr.get 2 = .s (.str c) ∧ st'.fr.get 3 = .s (.int .i64 (m : Int)) ∧ st'.fr.get 9 = .nsl ∧ st'.fr.get 30 = .s (.bool (badF a b c))) (region_text.2 ?_) ?_)
  · cases ha : refF a with
    | false =>
      simp only [RegT, opA_go, opA_when, guardQ_some, guarded_bool, absOp_assign, absOp_move, absOp_bin, absOp_index, absOp_pick, absOp_lenStr h9, absOp_max, absOp_min, int2_int, strLen, intA, fastA, h9, intOf, orSlow_some, binA, strA, ariA, evA_const, evA_tmp, ofV, ofC, Option.getD_some, putA_some, Nat.ble, Nat.reduceAdd, cond_true, lay_nil, lay_cons, bump, F_eq, h_eq, upHp, List.length_cons, List.length_nil, get_put, Nat.reduceEqDiff, if_true, if_false, reduceIte, List.getElem?_toArray, List.getElem?_cons_succ, List.getElem?_cons_zero, Option.bind_some, Option.map_some, beq_iff_eq, reduceCtorEq, Bool.not_true, Bool.not_false, beq_self_eq_true, thenQ_normal, thenQ_ret, inQ_ret, inQ_normal, ends_ret, ends_skip, absOp_lenRows h30, lenA, intRows_length, absOp_indexAddr, absOp_load, idx_ints h30 s3, load_byte a3 s3, orNone_some, Bool.false_eq_true, Bool.true_eq_false, Bool.false_beq, beq_true, beq_false, Bool.not_true, Bool.not_false, q7a, ha, badF, Bool.true_or, absOp_un]
      (repeat' apply And.intro) <;> (first | trivial | rfl | assumption)
    | true =>
      cases hb : refF b with
      | false =>
        simp only [RegT, opA_go, opA_when, guardQ_some, guarded_bool, absOp_assign, absOp_move, absOp_bin, absOp_index, absOp_pick, absOp_lenStr h9, absOp_max, absOp_min, int2_int, strLen, intA, fastA, h9, intOf, orSlow_some, binA, strA, ariA, evA_const, evA_tmp, ofV, ofC, Option.getD_some, putA_some, Nat.ble, Nat.reduceAdd, cond_true, lay_nil, lay_cons, bump, F_eq, h_eq, upHp, List.length_cons, List.length_nil, get_put, Nat.reduceEqDiff, if_true, if_false, reduceIte, List.getElem?_toArray, List.getElem?_cons_succ, List.getElem?_cons_zero, Option.bind_some, Option.map_some, beq_iff_eq, reduceCtorEq, Bool.not_true, Bool.not_false, beq_self_eq_true, thenQ_normal, thenQ_ret, inQ_ret, inQ_normal, ends_ret, ends_skip, absOp_lenRows h30, lenA, intRows_length, absOp_indexAddr, absOp_load, idx_ints h30 s3, load_byte a3 s3, orNone_some, Bool.false_eq_true, Bool.true_eq_false, Bool.false_beq, beq_true, beq_false, Bool.not_true, Bool.not_false, q7a, q7b, ha, hb, badF, Bool.true_or, Bool.false_or, absOp_un]
        (repeat' apply And.intro) <;> (first | trivial | rfl | assumption)
      | true =>
        cases hcf : refF c with
        | false =>
          simp only [RegT, opA_go, opA_when, guardQ_some, guarded_bool, absOp_assign, absOp_move, absOp_bin, absOp_index, absOp_pick, absOp_lenStr h9, absOp_max, absOp_min, int2_int, strLen, intA, fastA, h9, intOf, orSlow_some, binA, strA, ariA, evA_const, evA_tmp, ofV, ofC, Option.getD_some, putA_some, Nat.ble, Nat.reduceAdd, cond_true, lay_nil, lay_cons, bump, F_eq, h_eq, upHp, List.length_cons, List.length_nil, get_put, Nat.reduceEqDiff, if_true, if_false, reduceIte, List.getElem?_toArray, List.getElem?_cons_succ, List.getElem?_cons_zero, Option.bind_some, Option.map_some, beq_iff_eq, reduceCtorEq, Bool.not_true, Bool.not_false, beq_self_eq_true, thenQ_normal, thenQ_ret, inQ_ret, inQ_normal, ends_ret, ends_skip, absOp_lenRows h30, lenA, intRows_length, absOp_indexAddr, absOp_load, idx_ints h30 s3, load_byte a3 s3, orNone_some, Bool.false_eq_true, Bool.true_eq_false, Bool.false_beq, beq_true, beq_false, Bool.not_true, Bool.not_false, q7a, q7b, q7c, ha, hb, hcf, badF, Bool.true_or, Bool.false_or, absOp_un]
          (repeat' apply And.intro) <;> (first | trivial | rfl | assumption)
        | true =>
          simp only [RegT, opA_go, opA_when, guardQ_some, guarded_bool, absOp_assign, absOp_move, absOp_bin, absOp_index, absOp_pick, absOp_lenStr h9, absOp_max, absOp_min, int2_int, strLen, intA, fastA, h9, intOf, orSlow_some, binA, strA, ariA, evA_const, evA_tmp, ofV, ofC, Option.getD_some, putA_some, Nat.ble, Nat.reduceAdd, cond_true, lay_nil, lay_cons, bump, F_eq, h_eq, upHp, List.length_cons, List.length_nil, get_put, Nat.reduceEqDiff, if_true, if_false, reduceIte, List.getElem?_toArray, List.getElem?_cons_succ, List.getElem?_cons_zero, Option.bind_some, Option.map_some, beq_iff_eq, reduceCtorEq, Bool.not_true, Bool.not_false, beq_self_eq_true, thenQ_normal, thenQ_ret, inQ_ret, inQ_normal, ends_ret, ends_skip, absOp_lenRows h30, lenA, intRows_length, absOp_indexAddr, absOp_load, idx_ints h30 s3, load_byte a3 s3, orNone_some, Bool.false_eq_true, Bool.true_eq_false, Bool.false_beq, beq_true, beq_false, Bool.not_true, Bool.not_false, q7a, q7b, q7c, ha, hb, hcf, badF, Bool.true_or, Bool.false_or, absOp_un]
          (repeat' apply And.intro) <;> (first | trivial | rfl | assumption)
  rintro ⟨fr1, hp1, nx1⟩ ⟨rfl, g0, g1, g2, g3, g9, g30⟩
  simp only at g0 g1 g2 g3 g9 g30
  refine seq_if (t := badF a b c) (by simp only [F_eq, evA_tmp, get_put, Nat.reduceEqDiff, if_true, if_false, reduceIte]; exact g30) (fun hc => ?_) (fun hc => ?_)
  · refine seq_text ?_
    simp only [RegT, opA_go, opA_when, guardQ_some, guarded_bool, absOp_assign, absOp_move, absOp_bin, absOp_index, absOp_pick, absOp_lenStr h9, absOp_max, absOp_min, int2_int, strLen, intA, fastA, h9, intOf, orSlow_some, binA, strA, ariA, evA_const, evA_tmp, ofV, ofC, Option.getD_some, putA_some, Nat.ble, Nat.reduceAdd, cond_true, lay_nil, lay_cons, bump, F_eq, h_eq, upHp, List.length_cons, List.length_nil, get_put, Nat.reduceEqDiff, if_true, if_false, reduceIte, List.getElem?_toArray, List.getElem?_cons_succ, List.getElem?_cons_zero, Option.bind_some, Option.map_some, beq_iff_eq, reduceCtorEq, Bool.not_true, Bool.not_false, beq_self_eq_true, thenQ_normal, thenQ_ret, inQ_ret, inQ_normal, ends_ret, ends_skip, absOp_lenRows h30, lenA, intRows_length, absOp_indexAddr, absOp_load, idx_ints h30 s3, load_byte a3 s3, orNone_some, g9]
    refine ⟨.inr trivial, fin _ [] (by unfold refStepsL; rw [if_pos hc]) ?_⟩
    simp only [F_eq, evA_tmp, get_put, Nat.reduceEqDiff, if_true, if_false, reduceIte]
    exact GrownIn.nil
  rw [ends_skip, thenQ_normal]
  have hgood : refF a = true ∧ refF b = true ∧ refF c = true := by
    simp only [badF, Bool.or_eq_false_iff, Bool.not_eq_false'] at hc
    exact ⟨hc.1.1.1, hc.1.1.2, hc.1.2⟩
  obtain ⟨ha, hb, hcf⟩ := hgood
  have q8a := @op8 E hE D (l := a) (h0 := refF_ne ha) (hl := by omega)
  have q8b := @op8 E hE D (l := b) (h0 := refF_ne hb) (hl := by omega)
  have q8c := @op8 E hE D (l := c) (h0 := refF_ne hcf) (hl := by omega)
  obtain ⟨X0, hX0⟩ : ∃ X, X = readP a := ⟨_, rfl⟩
  obtain ⟨Y, hY⟩ : ∃ X, X = readP b := ⟨_, rfl⟩
  obtain ⟨Z, hZ⟩ : ∃ X, X = readP c := ⟨_, rfl⟩
  have hL : ∀ s, refF s = true → s.length < 1099511627776 → (readP s).2.length < 1099511627776 := by
    intro s _ h
    have h1 : (readD s).length ≤ s.length := by
      unfold readD digL
      split
      · split <;> simp
      · simp
    simp only [readP, trimP, List.length_take]; omega
  have okX : Tens X0.2 ∧ X0.2.length < 1099511627776 := by subst hX0; exact ⟨(hta ha).take _, hL a ha hla⟩
  have okY : Tens Y.2 ∧ Y.2.length < 1099511627776 := by subst hY; exact ⟨(htb hb).take _, hL b hb hlb⟩
  have okZ : Tens Z.2 ∧ Z.2.length < 1099511627776 := by subst hZ; exact ⟨(htc hcf).take _, hL c hcf hlc⟩
  have oY : okN Y := ⟨okY.1, by omega⟩
  have oZ : okN Z := ⟨okZ.1, by omega⟩
  have hres : refStepsL a b c m = refSteps Y Z X0 m := by unfold refStepsL; rw [if_neg (by simp [hc]), hX0, hY, hZ]
  rw [← hX0] at q8a
  rw [← hY] at q8b
  rw [← hZ] at q8c
  rw [hres] at fin ⊢
  clear hres hX0 hY hZ
  refine seq_K (fun st' => st'.fr.get 0 = .s (.str a) ∧ st'.fr.get 1 = .s (.str b) ∧ st'.fr.get 2 = .s (.str c) ∧ st'.fr.get 3 = .s (.int .i64 (m : Int)) ∧ st'.fr.get 9 = .nsl ∧ ∃ s10, st'.fr.get 10 = .ref 10 s10 0 0 ∧ hget st'.hp 10 = (s10, .var [.s (.bool X0.1), .s (.ssl (intRows X0.2))] false)) (region_text.2 ?_) ?_
  · simp only [RegT, opA_go, opA_when, guardQ_some, guarded_bool, absOp_assign, absOp_move, absOp_bin, absOp_index, absOp_pick, absOp_lenStr h9, absOp_max, absOp_min, int2_int, strLen, intA, fastA, h9, intOf, orSlow_some, binA, strA, ariA, evA_const, evA_tmp, ofV, ofC, Option.getD_some, putA_some, Nat.ble, Nat.reduceAdd, cond_true, lay_nil, lay_cons, bump, F_eq, h_eq, upHp, List.length_cons, List.length_nil, get_put, Nat.reduceEqDiff, if_true, if_false, reduceIte, List.getElem?_toArray, List.getElem?_cons_succ, List.getElem?_cons_zero, Option.bind_some, Option.map_some, beq_iff_eq, reduceCtorEq, Bool.not_true, Bool.not_false, beq_self_eq_true, thenQ_normal, thenQ_ret, inQ_ret, inQ_normal, ends_ret, ends_skip, absOp_lenRows h30, lenA, intRows_length, absOp_indexAddr, absOp_load, idx_ints h30 s3, load_byte a3 s3, orNone_some, absOp_box, absOp_alloc z32, absOp_fieldAddr, absOp_load, fa32_0 hE, fa32_1 hE, loadVarA a4 s4, loadVarA a30 s30, loadV_eq, orElse_some, orNone_some, cellsA, hget_self, hget_hput, numA, List.map_cons, List.map_nil, absOp_build, build32 hE, absOp_storeQ, putA_no, orUps_some, storeV_eq, Nat.reduceLT, List.set_cons_zero, List.set_cons_succ, keys_und, Option.toArray, List.map_toArray, List.append_toArray, List.toList_toArray, g0, g1, g2, g3, g9, q8a, nA, storePair (k := 10) (s := nx1 + room * 2) (x := .s (.bool false)) (y := .nsl) s32]
    exact ⟨(by first | trivial | rfl | assumption), (by first | trivial | rfl | assumption), (by first | trivial | rfl | assumption), (by first | trivial | rfl | assumption), (by first | trivial | rfl | assumption), _, rfl, (by first | trivial | rfl | assumption)⟩
  clear g0 g1 g2 g3 g9 g30
  rintro ⟨fr2, hp2, nx2⟩ ⟨g0, g1, g2, g3, g9, s10, g10, h10⟩
  simp only at g0 g1 g2 g3 g9 g10 h10
  refine seq_K (fun st' => st'.fr.get 0 = .s (.str a) ∧ st'.fr.get 1 = .s (.str b) ∧ st'.fr.get 2 = .s (.str c) ∧ st'.fr.get 3 = .s (.int .i64 (m : Int)) ∧ st'.fr.get 9 = .nsl ∧ st'.fr.get 10 = .ref 10 s10 0 0 ∧ hget st'.hp 10 = (s10, .var [.s (.bool X0.1), .s (.ssl (intRows X0.2))] false) ∧ ∃ s11, st'.fr.get 11 = .ref 11 s11 0 0 ∧ hget st'.hp 11 = (s11, .var [.s (.bool Y.1), .s (.ssl (intRows Y.2))] false)) (region_text.2 ?_) ?_
  · simp only [RegT, opA_go, opA_when, guardQ_some, guarded_bool, absOp_assign, absOp_move, absOp_bin, absOp_index, absOp_pick, absOp_lenStr h9, absOp_max, absOp_min, int2_int, strLen, intA, fastA, h9, intOf, orSlow_some, binA, strA, ariA, evA_const, evA_tmp, ofV, ofC, Option.getD_some, putA_some, Nat.ble, Nat.reduceAdd, cond_true, lay_nil, lay_cons, bump, F_eq, h_eq, upHp, List.length_cons, List.length_nil, get_put, Nat.reduceEqDiff, if_true, if_false, reduceIte, List.getElem?_toArray, List.getElem?_cons_succ, List.getElem?_cons_zero, Option.bind_some, Option.map_some, beq_iff_eq, reduceCtorEq, Bool.not_true, Bool.not_false, beq_self_eq_true, thenQ_normal, thenQ_ret, inQ_ret, inQ_normal, ends_ret, ends_skip, absOp_lenRows h30, lenA, intRows_length, absOp_indexAddr, absOp_load, idx_ints h30 s3, load_byte a3 s3, orNone_some, absOp_box, absOp_alloc z32, absOp_fieldAddr, absOp_load, fa32_0 hE, fa32_1 hE, loadVarA a4 s4, loadVarA a30 s30, loadV_eq, orElse_some, orNone_some, cellsA, hget_self, hget_hput, numA, List.map_cons, List.map_nil, absOp_build, build32 hE, absOp_storeQ, putA_no, orUps_some, storeV_eq, Nat.reduceLT, List.set_cons_zero, List.set_cons_succ, keys_und, Option.toArray, List.map_toArray, List.append_toArray, List.toList_toArray, g0, g1, g2, g3, g9, g10, h10, q8b, nA, storePair (k := 11) (s := nx2 + room * 2) (x := .s (.bool false)) (y := .nsl) s32]
    exact ⟨(by first | trivial | rfl | assumption), (by first | trivial | rfl | assumption), (by first | trivial | rfl | assumption), (by first | trivial | rfl | assumption), (by first | trivial | rfl | assumption), (by first | trivial | rfl | assumption), (by first | trivial | rfl | assumption), _, rfl, (by first | trivial | rfl | assumption)⟩
  clear g0 g1 g2 g3 g9 g10 h10
  rintro ⟨fr3, hp3, nx3⟩ ⟨g0, g1, g2, g3, g9, g10, h10, s11, g11, h11⟩
  simp only at g0 g1 g2 g3 g9 g10 h10 g11 h11
  refine seq_K (fun st' => st'.fr.get 3 = .s (.int .i64 (m : Int)) ∧ st'.fr.get 9 = .nsl ∧ st'.fr.get 10 = .ref 10 s10 0 0 ∧ hget st'.hp 10 = (s10, .var [.s (.bool X0.1), .s (.ssl (intRows X0.2))] false) ∧ st'.fr.get 11 = .ref 11 s11 0 0 ∧ hget st'.hp 11 = (s11, .var [.s (.bool Y.1), .s (.ssl (intRows Y.2))] false) ∧ ∃ s12, st'.fr.get 12 = .ref 12 s12 0 0 ∧ hget st'.hp 12 = (s12, .var [.s (.bool Z.1), .s (.ssl (intRows Z.2))] false)) (region_text.2 ?_) ?_
  · simp only [RegT, opA_go, opA_when, guardQ_some, guarded_bool, absOp_assign, absOp_move, absOp_bin, absOp_index, absOp_pick, absOp_lenStr h9, absOp_max, absOp_min, int2_int, strLen, intA, fastA, h9, intOf, orSlow_some, binA, strA, ariA, evA_const, evA_tmp, ofV, ofC, Option.getD_some, putA_some, Nat.ble, Nat.reduceAdd, cond_true, lay_nil, lay_cons, bump, F_eq, h_eq, upHp, List.length_cons, List.length_nil, get_put, Nat.reduceEqDiff, if_true, if_false, reduceIte, List.getElem?_toArray, List.getElem?_cons_succ, List.getElem?_cons_zero, Option.bind_some, Option.map_some, beq_iff_eq, reduceCtorEq, Bool.not_true, Bool.not_false, beq_self_eq_true, thenQ_normal, thenQ_ret, inQ_ret, inQ_normal, ends_ret, ends_skip, absOp_lenRows h30, lenA, intRows_length, absOp_indexAddr, absOp_load, idx_ints h30 s3, load_byte a3 s3, orNone_some, absOp_box, absOp_alloc z32, absOp_fieldAddr, absOp_load, fa32_0 hE, fa32_1 hE, loadVarA a4 s4, loadVarA a30 s30, loadV_eq, orElse_some, orNone_some, cellsA, hget_self, hget_hput, numA, List.map_cons, List.map_nil, absOp_build, build32 hE, absOp_storeQ, putA_no, orUps_some, storeV_eq, Nat.reduceLT, List.set_cons_zero, List.set_cons_succ, keys_und, Option.toArray, List.map_toArray, List.append_toArray, List.toList_toArray, g0, g1, g2, g3, g9, g10, h10, g11, h11, q8c, nA, storePair (k := 12) (s := nx3 + room * 2) (x := .s (.bool false)) (y := .nsl) s32]
    exact ⟨(by first | trivial | rfl | assumption), (by first | trivial | rfl | assumption), (by first | trivial | rfl | assumption), (by first | trivial | rfl | assumption), (by first | trivial | rfl | assumption), (by first | trivial | rfl | assumption), _, rfl, (by first | trivial | rfl | assumption)⟩
  clear g0 g1 g2 g3 g9 g10 h10 g11 h11
  rintro ⟨fr4, hp4, nx4⟩ ⟨g3, g9, g10, h10, g11, h11, s12, g12, h12⟩
  simp only at g3 g9 g10 h10 g11 h11 g12 h12
  refine ends_seq.2 (ends_block.2 ?_)
  refine ends_loop (fun k st => ∃ i X v, k = m - i ∧ i ≤ m ∧ st.fr.get 3 = .s (.int .i64 (m : Int)) ∧ st.fr.get 9 = v ∧ st.fr.get 10 = .ref 10 s10 0 0 ∧ hget st.hp 10 = (s10, .var [.s (.bool X.1), .s (.ssl (intRows X.2))] false) ∧ st.fr.get 11 = .ref 11 s11 0 0 ∧ hget st.hp 11 = (s11, .var [.s (.bool Y.1), .s (.ssl (intRows Y.2))] false) ∧ st.fr.get 12 = .ref 12 s12 0 0 ∧ hget st.hp 12 = (s12, .var [.s (.bool Z.1), .s (.ssl (intRows Z.2))] false) ∧ ∃ acc, GrownIn st.hp (· = 64) v (acc.map SV.str) ∧ acc.length = i ∧ refSteps Y Z X0 m = acc ++ refSteps Y Z X (m - i) ∧ Tens X.2 ∧ X.2.length ≤ 1099511627776 + i) (m := m) (by omega) ⟨0, X0, .nsl, by simp, by omega, g3, g9, g10, h10, g11, h11, g12, h12, [], GrownIn.nil, rfl, by simp, okX.1, by omega⟩ ?_
  clear g3 g9 g10 h10 g11 h11 g12 h12
  rintro k ⟨fr5, hp5, nx5⟩ ⟨i, X, v, rfl, hi, g3, g9, g10, h10, g11, h11, g12, h12, acc, gg, hacc, hst, hT, hlen⟩
  simp only at g3 g9 g10 h10 g11 h11 g12 h12 gg
  have oX : okN X := ⟨hT, by omega⟩
  have q9 := @op9 E hE D (m := X) (n := Y) (hm := oX) (hn := oY)
  have q10 := @op10 E hE D (m := X) (hm := oX)
  have q11 := @op11 E hE D (m := X) (n := Z) (hm := oX) (hn := oZ)
  have hlv : lenA v = some i := by
    rcases gg with ⟨h1, rfl⟩ | ⟨kk, ss, _, rfl, _⟩
    · have : acc = [] := by simpa using h1
      subst this; simpa [lenA] using hacc
    · simp [lenA, hacc]
  have d0 : decide ((i : Int) < (m : Int)) = decide (i < m) := by simp
  refine seq_seq.2 (seq_K (fun st' => st'.hp = hp5 ∧ st'.fr.get 3 = .s (.int .i64 (m : Int)) ∧ st'.fr.get 9 = v ∧ st'.fr.get 10 = .ref 10 s10 0 0 ∧ st'.fr.get 11 = .ref 11 s11 0 0 ∧ st'.fr.get 12 = .ref 12 s12 0 0 ∧ st'.fr.get 41 = .s (.bool (decide (i < m)))) (region_text.2 ?_) ?_)
  · simp only [RegT, opA_go, opA_when, guardQ_some, guarded_bool, absOp_assign, absOp_move, absOp_bin, absOp_index, absOp_pick, absOp_lenStr h9, absOp_max, absOp_min, int2_int, strLen, intA, fastA, h9, intOf, orSlow_some, binA, strA, ariA, evA_const, evA_tmp, ofV, ofC, Option.getD_some, putA_some, Nat.ble, Nat.reduceAdd, cond_true, lay_nil, lay_cons, bump, F_eq, h_eq, upHp, List.length_cons, List.length_nil, get_put, Nat.reduceEqDiff, if_true, if_false, reduceIte, List.getElem?_toArray, List.getElem?_cons_succ, List.getElem?_cons_zero, Option.bind_some, Option.map_some, beq_iff_eq, reduceCtorEq, Bool.not_true, Bool.not_false, beq_self_eq_true, thenQ_normal, thenQ_ret, inQ_ret, inQ_normal, ends_ret, ends_skip, absOp_lenRows h30, intRows_length, absOp_indexAddr, absOp_load, idx_ints h30 s3, load_byte a3 s3, orNone_some, absOp_box, absOp_alloc z32, absOp_fieldAddr, absOp_load, fa32_0 hE, fa32_1 hE, loadVarA a4 s4, loadVarA a30 s30, loadV_eq, orElse_some, orNone_some, cellsA, hget_self, hget_hput, numA, List.map_cons, List.map_nil, absOp_build, build32 hE, absOp_storeQ, putA_no, orUps_some, storeV_eq, Nat.reduceLT, List.set_cons_zero, List.set_cons_succ, keys_und, Option.toArray, List.map_toArray, List.append_toArray, List.toList_toArray, absOp_lenRows h22, hlv, g3, g9, g10, g11, g12, d0]
    (repeat' apply And.intro) <;> (first | trivial | rfl | assumption)
  rintro ⟨fr6, hp6, nx6⟩ ⟨rfl, g3, g9, g10, g11, g12, g41⟩
  simp only at g3 g9 g10 g11 g12 g41 h10 h11 h12 gg
  have hexit : ∀ (st : St), st.hp = hp6 → st.fr.get 9 = v → refSteps Y Z X (m - i) = [] → Vai.Ends (absCode E 69 n (absRun E 69 n n) (tl (tl (tl (tl (tl (tl (tl ((Try.f4.body).getD .skip)))))))) st) (fun e st => (e = AExit.normal ∨ e = AExit.ret) ∧ finish E 4 0 Try.f4 st = some (.s (.ssl (cellRows ((refSteps Y Z X0 m).map SV.str))), [])) := by
    rintro ⟨fr, hp, nx⟩ rfl h2 h3
    simp only at h2
    refine seq_text ?_
    simp only [RegT, opA_go, opA_when, guardQ_some, guarded_bool, absOp_assign, absOp_move, absOp_bin, absOp_index, absOp_pick, absOp_lenStr h9, absOp_max, absOp_min, int2_int, strLen, intA, fastA, h9, intOf, orSlow_some, binA, strA, ariA, evA_const, evA_tmp, ofV, ofC, Option.getD_some, putA_some, Nat.ble, Nat.reduceAdd, cond_true, lay_nil, lay_cons, bump, F_eq, h_eq, upHp, List.length_cons, List.length_nil, get_put, Nat.reduceEqDiff, if_true, if_false, reduceIte, List.getElem?_toArray, List.getElem?_cons_succ, List.getElem?_cons_zero, Option.bind_some, Option.map_some, beq_iff_eq, reduceCtorEq, Bool.not_true, Bool.not_false, beq_self_eq_true, thenQ_normal, thenQ_ret, inQ_ret, inQ_normal, ends_ret, ends_skip, absOp_lenRows h30, lenA, intRows_length, absOp_indexAddr, absOp_load, idx_ints h30 s3, load_byte a3 s3, orNone_some, h2]
    refine ⟨.inr trivial, fin _ acc (by rw [hst, h3, List.append_nil]) ?_⟩
    simp only [F_eq, evA_tmp, get_put, Nat.reduceEqDiff, if_true, if_false, reduceIte]
    exact gg
  refine seq_if (t := decide (i < m)) (by simp only [F_eq, evA_tmp, get_put, Nat.reduceEqDiff, if_true, if_false, reduceIte]; exact g41) (fun hc => ?_) (fun hc => ?_)
  rotate_left
  · have hc := of_decide_eq_false hc
    rw [ends_exit, thenQ_exit, thenQ_exit]
    simp only [inQ_exit, if_true, reduceIte, thenQ_normal]
    exact hexit _ rfl g9 (by rw [show m - i = 0 by omega]; rfl)
  have hc := of_decide_eq_true hc
  rw [ends_skip, thenQ_normal]
  refine ends_block.2 ?_
  obtain ⟨c0, hc0⟩ : ∃ c0, c0 = orderP X Y := ⟨_, rfl⟩
  rw [← hc0] at q9
  have hunf : refSteps Y Z X (m - i) = if stopP Z c0 then [] else writeP X :: refSteps Y Z (addP X Z) (m - (i + 1)) := by
    rw [show m - i = (m - (i + 1)) + 1 by omega, hc0]; rfl
  have gg2 := gg
  refine seq_K (fun st' => st'.hp = hp6 ∧ st'.fr.get 3 = .s (.int .i64 (m : Int)) ∧ st'.fr.get 9 = v ∧ st'.fr.get 10 = .ref 10 s10 0 0 ∧ st'.fr.get 11 = .ref 11 s11 0 0 ∧ st'.fr.get 12 = .ref 12 s12 0 0 ∧ st'.fr.get 13 = .s (.int .i64 c0)) (region_text.2 ?_) ?_
  · simp only [RegT, opA_go, opA_when, guardQ_some, guarded_bool, absOp_assign, absOp_move, absOp_bin, absOp_index, absOp_pick, absOp_lenStr h9, absOp_max, absOp_min, int2_int, strLen, intA, fastA, h9, intOf, orSlow_some, binA, strA, ariA, evA_const, evA_tmp, ofV, ofC, Option.getD_some, putA_some, Nat.ble, Nat.reduceAdd, cond_true, lay_nil, lay_cons, bump, F_eq, h_eq, upHp, List.length_cons, List.length_nil, get_put, Nat.reduceEqDiff, if_true, if_false, reduceIte, List.getElem?_toArray, List.getElem?_cons_succ, List.getElem?_cons_zero, Option.bind_some, Option.map_some, beq_iff_eq, reduceCtorEq, Bool.not_true, Bool.not_false, beq_self_eq_true, thenQ_normal, thenQ_ret, inQ_ret, inQ_normal, ends_ret, ends_skip, absOp_lenRows h30, lenA, intRows_length, absOp_indexAddr, absOp_load, idx_ints h30 s3, load_byte a3 s3, orNone_some, absOp_box, absOp_alloc z32, absOp_fieldAddr, absOp_load, fa32_0 hE, fa32_1 hE, loadVarA a4 s4, loadVarA a30 s30, loadV_eq, orElse_some, orNone_some, cellsA, hget_self, hget_hput, numA, List.map_cons, List.map_nil, absOp_build, build32 hE, absOp_storeQ, putA_no, orUps_some, storeV_eq, Nat.reduceLT, List.set_cons_zero, List.set_cons_succ, keys_und, Option.toArray, List.map_toArray, List.append_toArray, List.toList_toArray, g3, g9, g10, g11, g12, loadPair (k := 10) (s := s10) (x := .s (.bool X.1)) (y := .s (.ssl (intRows X.2))) (fz := false) a32 s32, h10, loadPair (k := 11) (s := s11) (x := .s (.bool Y.1)) (y := .s (.ssl (intRows Y.2))) (fz := false) a32 s32, h11, q9]
    (repeat' apply And.intro) <;> (first | trivial | rfl | assumption)
  clear g3 g9 g10 g11 g12 g41
  rintro ⟨fr7, hp7, nx7⟩ ⟨rfl, g3, g9, g10, g11, g12, g13⟩
  simp only at g3 g9 g10 g11 g12 g13 h10 h11 h12 gg
  refine seq_seq.2 (seq_K (fun st' => st'.hp = hp7 ∧ st'.fr.get 3 = .s (.int .i64 (m : Int)) ∧ st'.fr.get 9 = v ∧ st'.fr.get 10 = .ref 10 s10 0 0 ∧ st'.fr.get 11 = .ref 11 s11 0 0 ∧ st'.fr.get 12 = .ref 12 s12 0 0 ∧ st'.fr.get 59 = .s (.bool (stopP Z c0))) (region_text.2 ?_) ?_)
  · cases hz : Z.1 with
    | true =>
      have hz1 : Z.1 = true := hz
      cases h1 : decide (c0 ≤ 0) with
      | true =>
        simp only [RegT, opA_go, opA_when, guardQ_some, guarded_bool, absOp_assign, absOp_move, absOp_bin, absOp_index, absOp_pick, absOp_lenStr h9, absOp_max, absOp_min, int2_int, strLen, intA, fastA, h9, intOf, orSlow_some, binA, strA, ariA, evA_const, evA_tmp, ofV, ofC, Option.getD_some, putA_some, Nat.ble, Nat.reduceAdd, cond_true, lay_nil, lay_cons, bump, F_eq, h_eq, upHp, List.length_cons, List.length_nil, get_put, Nat.reduceEqDiff, if_true, if_false, reduceIte, List.getElem?_toArray, List.getElem?_cons_succ, List.getElem?_cons_zero, Option.bind_some, Option.map_some, beq_iff_eq, reduceCtorEq, Bool.not_true, Bool.not_false, beq_self_eq_true, thenQ_normal, thenQ_ret, inQ_ret, inQ_normal, ends_ret, ends_skip, absOp_lenRows h30, lenA, intRows_length, absOp_indexAddr, absOp_load, idx_ints h30 s3, load_byte a3 s3, orNone_some, absOp_box, absOp_alloc z32, absOp_fieldAddr, absOp_load, fa32_0 hE, fa32_1 hE, loadVarA a4 s4, loadVarA a30 s30, loadV_eq, orElse_some, orNone_some, cellsA, hget_self, hget_hput, numA, List.map_cons, List.map_nil, absOp_build, build32 hE, absOp_storeQ, putA_no, orUps_some, storeV_eq, Nat.reduceLT, List.set_cons_zero, List.set_cons_succ, keys_und, Option.toArray, List.map_toArray, List.append_toArray, List.toList_toArray, Bool.false_eq_true, Bool.true_eq_false, Bool.false_beq, beq_true, beq_false, Bool.not_true, Bool.not_false, g3, g9, g10, g11, g12, g13, h12, hz, h1, stopP, absOp_un]
        (repeat' apply And.intro) <;> (first | trivial | rfl | assumption)
      | false =>
        simp only [RegT, opA_go, opA_when, guardQ_some, guarded_bool, absOp_assign, absOp_move, absOp_bin, absOp_index, absOp_pick, absOp_lenStr h9, absOp_max, absOp_min, int2_int, strLen, intA, fastA, h9, intOf, orSlow_some, binA, strA, ariA, evA_const, evA_tmp, ofV, ofC, Option.getD_some, putA_some, Nat.ble, Nat.reduceAdd, cond_true, lay_nil, lay_cons, bump, F_eq, h_eq, upHp, List.length_cons, List.length_nil, get_put, Nat.reduceEqDiff, if_true, if_false, reduceIte, List.getElem?_toArray, List.getElem?_cons_succ, List.getElem?_cons_zero, Option.bind_some, Option.map_some, beq_iff_eq, reduceCtorEq, Bool.not_true, Bool.not_false, beq_self_eq_true, thenQ_normal, thenQ_ret, inQ_ret, inQ_normal, ends_ret, ends_skip, absOp_lenRows h30, lenA, intRows_length, absOp_indexAddr, absOp_load, idx_ints h30 s3, load_byte a3 s3, orNone_some, absOp_box, absOp_alloc z32, absOp_fieldAddr, absOp_load, fa32_0 hE, fa32_1 hE, loadVarA a4 s4, loadVarA a30 s30, loadV_eq, orElse_some, orNone_some, cellsA, hget_self, hget_hput, numA, List.map_cons, List.map_nil, absOp_build, build32 hE, absOp_storeQ, putA_no, orUps_some, storeV_eq, Nat.reduceLT, List.set_cons_zero, List.set_cons_succ, keys_und, Option.toArray, List.map_toArray, List.append_toArray, List.toList_toArray, Bool.false_eq_true, Bool.true_eq_false, Bool.false_beq, beq_true, beq_false, Bool.not_true, Bool.not_false, g3, g9, g10, g11, g12, g13, h12, hz, h1, stopP, absOp_un]
        (repeat' apply And.intro) <;> (first | trivial | rfl | assumption)
    | false =>
      simp only [RegT, opA_go, opA_when, guardQ_some, guarded_bool, absOp_assign, absOp_move, absOp_bin, absOp_index, absOp_pick, absOp_lenStr h9, absOp_max, absOp_min, int2_int, strLen, intA, fastA, h9, intOf, orSlow_some, binA, strA, ariA, evA_const, evA_tmp, ofV, ofC, Option.getD_some, putA_some, Nat.ble, Nat.reduceAdd, cond_true, lay_nil, lay_cons, bump, F_eq, h_eq, upHp, List.length_cons, List.length_nil, get_put, Nat.reduceEqDiff, if_true, if_false, reduceIte, List.getElem?_toArray, List.getElem?_cons_succ, List.getElem?_cons_zero, Option.bind_some, Option.map_some, beq_iff_eq, reduceCtorEq, Bool.not_true, Bool.not_false, beq_self_eq_true, thenQ_normal, thenQ_ret, inQ_ret, inQ_normal, ends_ret, ends_skip, absOp_lenRows h30, lenA, intRows_length, absOp_indexAddr, absOp_load, idx_ints h30 s3, load_byte a3 s3, orNone_some, absOp_box, absOp_alloc z32, absOp_fieldAddr, absOp_load, fa32_0 hE, fa32_1 hE, loadVarA a4 s4, loadVarA a30 s30, loadV_eq, orElse_some, orNone_some, cellsA, hget_self, hget_hput, numA, List.map_cons, List.map_nil, absOp_build, build32 hE, absOp_storeQ, putA_no, orUps_some, storeV_eq, Nat.reduceLT, List.set_cons_zero, List.set_cons_succ, keys_und, Option.toArray, List.map_toArray, List.append_toArray, List.toList_toArray, Bool.false_eq_true, Bool.true_eq_false, Bool.false_beq, beq_true, beq_false, Bool.not_true, Bool.not_false, g3, g9, g10, g11, g12, g13, h12, hz, stopP, absOp_un]
      (repeat' apply And.intro) <;> (first | trivial | rfl | assumption)
  clear g3 g9 g10 g11 g12 g13
  rintro ⟨fr8, hp8, nx8⟩ ⟨rfl, g3, g9, g10, g11, g12, g59⟩
  simp only at g3 g9 g10 g11 g12 g59 h10 h11 h12 gg
  refine seq_if (t := stopP Z c0) (by simp only [F_eq, evA_tmp, get_put, Nat.reduceEqDiff, if_true, if_false, reduceIte]; exact g59) (fun hd => ?_) (fun hd => ?_)
  · rw [ends_exit, thenQ_exit]
    simp only [inQ_exit, if_true, if_false, reduceIte, thenQ_normal, thenQ_exit, Nat.reduceEqDiff]
    exact hexit _ rfl g9 (by rw [hunf, if_pos hd])
  rw [ends_skip, thenQ_normal]
  obtain ⟨v', ups, e, hg, hold⟩ := (gg.keep (j := 63) (sl := (nx8 + room * 3, .arr 1 (cellRows [.str (writeP X)]) 0)) (by decide)).more (ok := (· = 64)) (l := acc.map SV.str) (t := 22) (b := 16) (z := .str []) (x := .str (writeP X)) (k := 64) (kx := 63) (sx := nx8 + room * 3) (s0 := nx8 + room * 4) (cap := some 1) rfl h22 s9 b9 z9 hget_self (by rw [List.length_map, hacc]; omega) (by rw [List.length_map, hacc]; omega)
  refine seq_K (fun st' => st'.fr.get 3 = .s (.int .i64 (m : Int)) ∧ st'.fr.get 9 = v' ∧ st'.fr.get 10 = .ref 10 s10 0 0 ∧ hget st'.hp 10 = (s10, .var [.s (.bool X.1), .s (.ssl (intRows X.2))] false) ∧ st'.fr.get 11 = .ref 11 s11 0 0 ∧ hget st'.hp 11 = (s11, .var [.s (.bool Y.1), .s (.ssl (intRows Y.2))] false) ∧ st'.fr.get 12 = .ref 12 s12 0 0 ∧ hget st'.hp 12 = (s12, .var [.s (.bool Z.1), .s (.ssl (intRows Z.2))] false) ∧ GrownIn st'.hp (· = 64) v' ((acc ++ [writeP X]).map SV.str)) (region_text.2 ?_) ?_
  · simp only [RegT, opA_go, opA_when, guardQ_some, guarded_bool, absOp_assign, absOp_move, absOp_bin, absOp_index, absOp_pick, absOp_lenStr h9, absOp_max, absOp_min, int2_int, strLen, intA, fastA, h9, intOf, orSlow_some, binA, strA, ariA, evA_const, evA_tmp, ofV, ofC, Option.getD_some, putA_some, Nat.ble, Nat.reduceAdd, cond_true, lay_nil, lay_cons, bump, F_eq, h_eq, upHp, List.length_cons, List.length_nil, get_put, Nat.reduceEqDiff, if_true, if_false, reduceIte, List.getElem?_toArray, List.getElem?_cons_succ, List.getElem?_cons_zero, Option.bind_some, Option.map_some, beq_iff_eq, reduceCtorEq, Bool.not_true, Bool.not_false, beq_self_eq_true, thenQ_normal, thenQ_ret, inQ_ret, inQ_normal, ends_ret, ends_skip, absOp_lenRows h30, lenA, intRows_length, absOp_indexAddr, absOp_load, idx_ints h30 s3, load_byte a3 s3, orNone_some, absOp_box, absOp_alloc z32, absOp_fieldAddr, absOp_load, fa32_0 hE, fa32_1 hE, loadVarA a4 s4, loadVarA a30 s30, loadV_eq, orElse_some, orNone_some, cellsA, hget_self, hget_hput, numA, List.map_cons, List.map_nil, absOp_build, build32 hE, absOp_storeQ, putA_no, orUps_some, storeV_eq, Nat.reduceLT, List.set_cons_zero, List.set_cons_succ, keys_und, Option.toArray, List.map_toArray, List.append_toArray, List.toList_toArray, g3, g9, g10, g11, g12, loadPair (k := 10) (s := s10) (x := .s (.bool X.1)) (y := .s (.ssl (intRows X.2))) (fz := false) a32 s32, h10, q10, absOp_built (z := .str []) (v := .str (writeP X)) h22 s9 z9 rfl, absOp_append (r := (v', ups)), e]
    refine ⟨(by first | trivial | rfl | assumption), (by first | trivial | rfl | assumption), (by first | trivial | rfl | assumption), ?_, (by first | trivial | rfl | assumption), ?_, (by first | trivial | rfl | assumption), ?_, ?_⟩
    · rw [hold 10 (by decide), hget_hput, if_neg (by decide)]; exact h10
    · rw [hold 11 (by decide), hget_hput, if_neg (by decide)]; exact h11
    · rw [hold 12 (by decide), hget_hput, if_neg (by decide)]; exact h12
    · rw [List.map_append]; exact hg
  clear g3 g9 g10 g11 g12 g59 h10 h11 h12 gg gg2 hg e hold
  rintro ⟨fr9, hp9, nx9⟩ ⟨g3, g9, g10, h10, g11, h11, g12, h12, gg⟩
  simp only at g3 g9 g10 h10 g11 h11 g12 h12 gg
  refine region_text.2 ?_
  simp only [RegT, opA_go, opA_when, guardQ_some, guarded_bool, absOp_assign, absOp_move, absOp_bin, absOp_index, absOp_pick, absOp_lenStr h9, absOp_max, absOp_min, int2_int, strLen, intA, fastA, h9, intOf, orSlow_some, binA, strA, ariA, evA_const, evA_tmp, ofV, ofC, Option.getD_some, putA_some, Nat.ble, Nat.reduceAdd, cond_true, lay_nil, lay_cons, bump, F_eq, h_eq, upHp, List.length_cons, List.length_nil, get_put, Nat.reduceEqDiff, if_true, if_false, reduceIte, List.getElem?_toArray, List.getElem?_cons_succ, List.getElem?_cons_zero, Option.bind_some, Option.map_some, beq_iff_eq, reduceCtorEq, Bool.not_true, Bool.not_false, beq_self_eq_true, thenQ_normal, thenQ_ret, inQ_ret, inQ_normal, ends_ret, ends_skip, absOp_lenRows h30, lenA, intRows_length, absOp_indexAddr, absOp_load, idx_ints h30 s3, load_byte a3 s3, orNone_some, absOp_box, absOp_alloc z32, absOp_fieldAddr, absOp_load, fa32_0 hE, fa32_1 hE, loadVarA a4 s4, loadVarA a30 s30, loadV_eq, orElse_some, orNone_some, cellsA, hget_self, hget_hput, numA, List.map_cons, List.map_nil, absOp_build, build32 hE, absOp_storeQ, putA_no, orUps_some, storeV_eq, Nat.reduceLT, List.set_cons_zero, List.set_cons_succ, keys_und, Option.toArray, List.map_toArray, List.append_toArray, List.toList_toArray, g3, g9, g10, g11, g12, loadPair (k := 10) (s := s10) (x := .s (.bool X.1)) (y := .s (.ssl (intRows X.2))) (fz := false) a32 s32, h10, loadPair (k := 12) (s := s12) (x := .s (.bool Z.1)) (y := .s (.ssl (intRows Z.2))) (fz := false) a32 s32, h12, q11, nA, storePair (k := 10) (s := s10) (x := .s (.bool X.1)) (y := .s (.ssl (intRows X.2))) s32]
  refine ⟨m - (i + 1), by omega, i + 1, addP X Z, v', rfl, by omega, (by first | trivial | rfl | assumption), (by first | trivial | rfl | assumption), (by first | trivial | rfl | assumption), (by first | trivial | rfl | assumption), (by first | trivial | rfl | assumption), ?_, (by first | trivial | rfl | assumption), ?_, acc ++ [writeP X], gg.keep (by decide), by simp [hacc], ?_, addP_tens hT okZ.1, ?_⟩
  · first | exact h11 | (simp only [hget_hput, Nat.reduceEqDiff, if_false]; done) | (simp only [hget_hput, Nat.reduceEqDiff, if_false]; exact h11) | trivial
  · first | exact h12 | (simp only [hget_hput, Nat.reduceEqDiff, if_false]; done) | (simp only [hget_hput, Nat.reduceEqDiff, if_false]; exact h12) | trivial
  · rw [hst, hunf, if_neg (by simp [hd]), List.append_assoc]; rfl
  · have := addP_len (x := X) (y := Z); omega
end Go.Proofs.Ytbfdokfelolmbaa.TensW
end
