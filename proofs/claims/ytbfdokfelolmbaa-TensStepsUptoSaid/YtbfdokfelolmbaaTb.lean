import Derived.Test.YtbfdokfelolmbaaTa
import Derived.Test.YtbfdokfelolmbaaVaF
/-
  What the program's sums answer.
-/
set_option linter.all false
section
open Go.Proofs.Ytbfdokfelolmbaa.Vai
namespace Go.Proofs.Ytbfdokfelolmbaa.TensW
set_option maxRecDepth 10000
set_option linter.unusedSimpArgs false

/-- One place of the taking away. -/
def minusStep (b : List UInt8) (j : Nat) (p : List UInt8 × UInt8) : List UInt8 × UInt8 :=
  let k := p.1.length - j
  let take := if j ≤ b.length then p.2 + (b.getD (b.length - j) 0 - 48) else p.2
  let x := p.1.getD k 0
  if x < 48 + take then (p.1.set k ((x + 10) - take), 1) else (p.1.set k (x - take), 0)
def minusRun (b a : List UInt8) : Nat → List UInt8 × UInt8
  | 0 => (a, 0)
  | i + 1 => minusStep b (i + 1) (minusRun b a i)
def minusL (a b : List UInt8) : List UInt8 := textL (minusRun b a a.length).1

theorem minusRun_length {b a : List UInt8} : ∀ {i : Nat}, (minusRun b a i).1.length = a.length
  | 0 => rfl
  | i + 1 => by
    have ih := minusRun_length (b := b) (a := a) (i := i)
    simp only [minusRun, minusStep]
    split <;> split <;> simp [ih]

theorem minusStep_of {b l : List UInt8} {c : UInt8} {j k : Nat} {take x : UInt8} (hat : k = l.length - j) (htake : take = (if j ≤ b.length then c + (b.getD (b.length - j) 0 - 48) else c)) (hx : l[k]? = some x) : minusStep b j (l, c) = (l.set k ((if x < 48 + take then x + 10 else x) - take), if x < 48 + take then 1 else 0) := by
  subst hat htake
  simp only [minusStep, List.getD_eq_getElem?_getD, hx, Option.getD_some]
  split <;> split <;> rfl

theorem op40 {E : Env} {h : HR} {k s kk ss : Nat} {F : Nat → AV} {d : Option Tmp} {ty : TypeId} {pos : String} {af : Array Edge} {gd : Option (Nat × Bool)} {x : Operand} {ts : Array TypeId} {l : List UInt8} {cap : Option Nat} (hE : E.P = Try.prog) (hl : E.lend 40 = false)
    (hc : E.call 40 [.s (.ssl (strRows l))] [] = some (.s (.str (textL l)), [])) (hk : h kk = (ss, .arr 1 (strRows l) 0)) (hx : evA E.glob F x = .lsl kk ss 0 l.length cap) :
    absOp E (evA E.glob F) h k s ⟨d, .call { callee := .value (.func 40), args := #[x], argTypes := ts }, ty, pos, af, gd⟩ = some (.s (.str (textL l)), [(kk, (ss, .arr 1 (strRows l) l.length))]) :=
  absOp_own (g := 40) rfl (by rw [hE]; unfold bodied; rw [Try.func40]; rfl) hl hc hk hx

theorem minus_abs (E : Env) (hE : E.P = Try.prog) (hraw : E.raw 31 = false) (hlend : E.lend 40 = false) (hc : ∀ l, l.length ≤ 70368744177664 → E.call 40 [.s (.ssl (strRows l))] [] = some (.s (.str (textL l)), [])) (n : Nat) (a b : List UInt8) (hl : a.length + 1 < n) (hs : a.length ≤ 70368744177664) (hsb : b.length ≤ 70368744177664) : absBody E n 31 Try.f31 [.s (.str a), .s (.str b)] [] = some (.s (.str (minusL a b)), []) := by
  have h9 := hE9 hE
  have h46 := hE46 hE
  have h5 := hE5 hE
  have s5 := hS5 hE
  have a5 := hA5 hE
  have fin : ∀ (st : St), st.fr.get 4 = .s (.str (minusL a b)) → finish E 31 0 Try.f31 st = some (.s (.str (minusL a b)), []) := by
    intro st h1
    refine finish_sealed (l := [.s (.str (minusL a b))]) ?_ hraw rfl |>.trans rfl
    simp [Try.f31, resultA, resultA.go, h1]
  refine body_ends rfl (by simp [Try.ntmps31]) rfl ?_
  rw [Try.ntmps31]
  refine seq_text ?_
  simp only [RegT, opA_go, opA_when, guardQ_some, guarded_bool, absOp_assign, absOp_move, absOp_bin, absOp_index, absOp_pick, absOp_max, absOp_min, int2_int, strLen, intA, fastA, h9, intOf, orSlow_some, binA, strA, ariA, evA_const, evA_tmp, ofV, ofC, Option.getD_some, putA_some, Nat.ble, Nat.reduceAdd, cond_true, lay_nil, lay_cons, bump, F_eq, h_eq, upHp, List.length_cons, List.length_nil, get_put, Nat.reduceEqDiff, if_true, if_false, reduceIte, List.getElem?_toArray, List.getElem?_cons_succ, List.getElem?_cons_zero, Option.bind_some, Option.map_some, beq_iff_eq, reduceCtorEq, Bool.not_true, Bool.not_false, beq_self_eq_true, thenQ_normal, thenQ_ret, inQ_ret, inQ_normal, ends_ret, ends_skip, absOp_lenStr h9, absOp_lenRows h46, lenA, absOp_indexAddr, absOp_load, absOp_storeQ, putA_no, idxQ h46 s5, idxIn_eq, loadQ a5 s5, loadIn_eq, storeQ s5, storeIn_eq, orElse_some, orUps_some, orNone_some, hget_self, List.length_set, List.getElem_set_self, List.set_set, u8_add, u8_sub, u8_sub48, u8_add10, u8_sub10, u8_48add]
  refine seq_text ?_
  simp only [RegT, opA_go, opA_when, guardQ_some, guarded_bool, absOp_assign, absOp_move, absOp_bin, absOp_index, absOp_pick, absOp_max, absOp_min, int2_int, strLen, intA, fastA, h9, intOf, orSlow_some, binA, strA, ariA, evA_const, evA_tmp, ofV, ofC, Option.getD_some, putA_some, Nat.ble, Nat.reduceAdd, cond_true, lay_nil, lay_cons, bump, F_eq, h_eq, upHp, List.length_cons, List.length_nil, get_put, Nat.reduceEqDiff, if_true, if_false, reduceIte, List.getElem?_toArray, List.getElem?_cons_succ, List.getElem?_cons_zero, Option.bind_some, Option.map_some, beq_iff_eq, reduceCtorEq, Bool.not_true, Bool.not_false, beq_self_eq_true, thenQ_normal, thenQ_ret, inQ_ret, inQ_normal, ends_ret, ends_skip, absOp_lenStr h9, absOp_lenRows h46, lenA, absOp_indexAddr, absOp_load, absOp_storeQ, putA_no, idxQ h46 s5, idxIn_eq, loadQ a5 s5, loadIn_eq, storeQ s5, storeIn_eq, orElse_some, orUps_some, orNone_some, hget_self, List.length_set, List.getElem_set_self, List.set_set, u8_add, u8_sub, u8_sub48, u8_add10, u8_sub10, u8_48add, conv_bytes (t := a) h9 h46 h5, evA_tmp, hs]
  refine seq_text ?_
  simp only [RegT, opA_go, opA_when, guardQ_some, guarded_bool, absOp_assign, absOp_move, absOp_bin, absOp_index, absOp_pick, absOp_max, absOp_min, int2_int, strLen, intA, fastA, h9, intOf, orSlow_some, binA, strA, ariA, evA_const, evA_tmp, ofV, ofC, Option.getD_some, putA_some, Nat.ble, Nat.reduceAdd, cond_true, lay_nil, lay_cons, bump, F_eq, h_eq, upHp, List.length_cons, List.length_nil, get_put, Nat.reduceEqDiff, if_true, if_false, reduceIte, List.getElem?_toArray, List.getElem?_cons_succ, List.getElem?_cons_zero, Option.bind_some, Option.map_some, beq_iff_eq, reduceCtorEq, Bool.not_true, Bool.not_false, beq_self_eq_true, thenQ_normal, thenQ_ret, inQ_ret, inQ_normal, ends_ret, ends_skip, absOp_lenStr h9, absOp_lenRows h46, lenA, absOp_indexAddr, absOp_load, absOp_storeQ, putA_no, idxQ h46 s5, idxIn_eq, loadQ a5 s5, loadIn_eq, storeQ s5, storeIn_eq, orElse_some, orUps_some, orNone_some, hget_self, List.length_set, List.getElem_set_self, List.set_set, u8_add, u8_sub, u8_sub48, u8_add10, u8_sub10, u8_48add]
  refine seq_seq.2 (seq_text ?_)
  simp only [RegT, opA_go, opA_when, guardQ_some, guarded_bool, absOp_assign, absOp_move, absOp_bin, absOp_index, absOp_pick, absOp_max, absOp_min, int2_int, strLen, intA, fastA, h9, intOf, orSlow_some, binA, strA, ariA, evA_const, evA_tmp, ofV, ofC, Option.getD_some, putA_some, Nat.ble, Nat.reduceAdd, cond_true, lay_nil, lay_cons, bump, F_eq, h_eq, upHp, List.length_cons, List.length_nil, get_put, Nat.reduceEqDiff, if_true, if_false, reduceIte, List.getElem?_toArray, List.getElem?_cons_succ, List.getElem?_cons_zero, Option.bind_some, Option.map_some, beq_iff_eq, reduceCtorEq, Bool.not_true, Bool.not_false, beq_self_eq_true, thenQ_normal, thenQ_ret, inQ_ret, inQ_normal, ends_ret, ends_skip, absOp_lenStr h9, absOp_lenRows h46, lenA, absOp_indexAddr, absOp_load, absOp_storeQ, putA_no, idxQ h46 s5, idxIn_eq, loadQ a5 s5, loadIn_eq, storeQ s5, storeIn_eq, orElse_some, orUps_some, orNone_some, hget_self, List.length_set, List.getElem_set_self, List.set_set, u8_add, u8_sub, u8_sub48, u8_add10, u8_sub10, u8_48add]
  refine ends_seq.2 (ends_block.2 ?_)
  refine ends_loop (fun k st => ∃ i : Nat, ∃ ss : Nat, k = a.length + 1 - i ∧ i ≤ a.length ∧ st.fr.get 1 = .s (.str b) ∧ st.fr.get 5 = .lsl 11 ss 0 a.length none ∧ hget st.hp 11 = (ss, .arr 1 (strRows (minusRun b a i).1) 0) ∧ st.fr.get 6 = .s (.int .u8 ((minusRun b a i).2.toNat : Int)) ∧ st.fr.get 7 = .s (.int .i64 ((i + 1 : Nat) : Int))) (m := a.length + 1) (by omega) ⟨0, _, by simp, by omega, by simp only [get_put, Nat.reduceEqDiff, if_true, if_false, reduceIte], by simp only [get_put, Nat.reduceEqDiff, if_true, if_false, reduceIte]; rfl, by simp only [hget_self]; rfl, by simp only [get_put, Nat.reduceEqDiff, if_true, if_false, reduceIte]; rfl, by simp only [get_put, Nat.reduceEqDiff, if_true, if_false, reduceIte]; rfl⟩ ?_
  rintro k ⟨fr1, hp1, nx1⟩ ⟨i, ss, rfl, hi, g1, g5, gh, g6, g7⟩
  simp only at g1 g5 gh g6 g7
  have hlen := minusRun_length (b := b) (a := a) (i := i)
  have hrun : minusRun b a (i + 1) = minusStep b (i + 1) (minusRun b a i) := rfl
  have hdone : i = a.length → minusL a b = textL (minusRun b a i).1 := fun h => by rw [h]; rfl
  generalize minusRun b a i = p at *
  obtain ⟨l, c⟩ := p
  simp only at gh g6 hlen hdone
  obtain ⟨j, hj⟩ : ∃ j, j = i + 1 := ⟨_, rfl⟩
  rw [← hj] at g7 hrun
  refine seq_seq.2 (seq_text ?_)
  by_cases hlt : i < a.length
  · have d1 : decide ((j : Int) ≤ (a.length : Int)) = true := by simp; omega
    simp only [RegT, opA_go, opA_when, guardQ_some, guarded_bool, absOp_assign, absOp_move, absOp_bin, absOp_index, absOp_pick, absOp_max, absOp_min, int2_int, strLen, intA, fastA, h9, intOf, orSlow_some, binA, strA, ariA, evA_const, evA_tmp, ofV, ofC, Option.getD_some, putA_some, Nat.ble, Nat.reduceAdd, cond_true, lay_nil, lay_cons, bump, F_eq, h_eq, upHp, List.length_cons, List.length_nil, get_put, Nat.reduceEqDiff, if_true, if_false, reduceIte, List.getElem?_toArray, List.getElem?_cons_succ, List.getElem?_cons_zero, Option.bind_some, Option.map_some, beq_iff_eq, reduceCtorEq, Bool.not_true, Bool.not_false, beq_self_eq_true, thenQ_normal, thenQ_ret, inQ_ret, inQ_normal, ends_ret, ends_skip, absOp_lenStr h9, absOp_lenRows h46, lenA, absOp_indexAddr, absOp_load, absOp_storeQ, putA_no, idxQ h46 s5, idxIn_eq, loadQ a5 s5, loadIn_eq, storeQ s5, storeIn_eq, orElse_some, orUps_some, orNone_some, hget_self, List.length_set, List.getElem_set_self, List.set_set, u8_add, u8_sub, u8_sub48, u8_add10, u8_sub10, u8_48add, g1, g5, g7, d1]
    refine seq_if (t := true) (by simp only [F_eq, evA_tmp, get_put, Nat.reduceEqDiff, if_true, if_false, reduceIte]) (fun _ => ?_) (fun hc => (by cases hc))
    rw [ends_skip, thenQ_normal]
    refine ends_seq.2 (ends_block.2 ?_)
    obtain ⟨at_, hat⟩ : ∃ at_ : Nat, at_ = l.length - j := ⟨_, rfl⟩
    have hw : IntKind.i64.wrap ((a.length : Int) - (j : Int)) = (at_ : Int) := by rw [wrap_fits] <;> omega
    have hatl : at_ < l.length := by omega
    have hata : at_ < a.length := by omega
    refine seq_text ?_
    simp only [RegT, opA_go, opA_when, guardQ_some, guarded_bool, absOp_assign, absOp_move, absOp_bin, absOp_index, absOp_pick, absOp_max, absOp_min, int2_int, strLen, intA, fastA, h9, intOf, orSlow_some, binA, strA, ariA, evA_const, evA_tmp, ofV, ofC, Option.getD_some, putA_some, Nat.ble, Nat.reduceAdd, cond_true, lay_nil, lay_cons, bump, F_eq, h_eq, upHp, List.length_cons, List.length_nil, get_put, Nat.reduceEqDiff, if_true, if_false, reduceIte, List.getElem?_toArray, List.getElem?_cons_succ, List.getElem?_cons_zero, Option.bind_some, Option.map_some, beq_iff_eq, reduceCtorEq, Bool.not_true, Bool.not_false, beq_self_eq_true, thenQ_normal, thenQ_ret, inQ_ret, inQ_normal, ends_ret, ends_skip, absOp_lenStr h9, absOp_lenRows h46, lenA, absOp_indexAddr, absOp_load, absOp_storeQ, putA_no, idxQ h46 s5, idxIn_eq, loadQ a5 s5, loadIn_eq, storeQ s5, storeIn_eq, orElse_some, orUps_some, orNone_some, hget_self, List.length_set, List.getElem_set_self, List.set_set, u8_add, u8_sub, u8_sub48, u8_add10, u8_sub10, u8_48add, g5, g7, hw]
    refine seq_text ?_
    simp only [RegT, opA_go, opA_when, guardQ_some, guarded_bool, absOp_assign, absOp_move, absOp_bin, absOp_index, absOp_pick, absOp_max, absOp_min, int2_int, strLen, intA, fastA, h9, intOf, orSlow_some, binA, strA, ariA, evA_const, evA_tmp, ofV, ofC, Option.getD_some, putA_some, Nat.ble, Nat.reduceAdd, cond_true, lay_nil, lay_cons, bump, F_eq, h_eq, upHp, List.length_cons, List.length_nil, get_put, Nat.reduceEqDiff, if_true, if_false, reduceIte, List.getElem?_toArray, List.getElem?_cons_succ, List.getElem?_cons_zero, Option.bind_some, Option.map_some, beq_iff_eq, reduceCtorEq, Bool.not_true, Bool.not_false, beq_self_eq_true, thenQ_normal, thenQ_ret, inQ_ret, inQ_normal, ends_ret, ends_skip, absOp_lenStr h9, absOp_lenRows h46, lenA, absOp_indexAddr, absOp_load, absOp_storeQ, putA_no, idxQ h46 s5, idxIn_eq, loadQ a5 s5, loadIn_eq, storeQ s5, storeIn_eq, orElse_some, orUps_some, orNone_some, hget_self, List.length_set, List.getElem_set_self, List.set_set, u8_add, u8_sub, u8_sub48, u8_add10, u8_sub10, u8_48add, g6]
    refine seq_seq.2 (seq_text ?_)
    obtain ⟨take, htake⟩ : ∃ take : UInt8, take = (if j ≤ b.length then c + (b.getD (b.length - j) 0 - 48) else c) := ⟨_, rfl⟩
    have d2 : decide ((j : Int) ≤ (b.length : Int)) = decide (j ≤ b.length) := by simp
    simp only [RegT, opA_go, opA_when, guardQ_some, guarded_bool, absOp_assign, absOp_move, absOp_bin, absOp_index, absOp_pick, absOp_max, absOp_min, int2_int, strLen, intA, fastA, h9, intOf, orSlow_some, binA, strA, ariA, evA_const, evA_tmp, ofV, ofC, Option.getD_some, putA_some, Nat.ble, Nat.reduceAdd, cond_true, lay_nil, lay_cons, bump, F_eq, h_eq, upHp, List.length_cons, List.length_nil, get_put, Nat.reduceEqDiff, if_true, if_false, reduceIte, List.getElem?_toArray, List.getElem?_cons_succ, List.getElem?_cons_zero, Option.bind_some, Option.map_some, beq_iff_eq, reduceCtorEq, Bool.not_true, Bool.not_false, beq_self_eq_true, thenQ_normal, thenQ_ret, inQ_ret, inQ_normal, ends_ret, ends_skip, absOp_lenStr h9, absOp_lenRows h46, lenA, absOp_indexAddr, absOp_load, absOp_storeQ, putA_no, idxQ h46 s5, idxIn_eq, loadQ a5 s5, loadIn_eq, storeQ s5, storeIn_eq, orElse_some, orUps_some, orNone_some, hget_self, List.length_set, List.getElem_set_self, List.set_set, u8_add, u8_sub, u8_sub48, u8_add10, u8_sub10, u8_48add, g1, g7, d2]
    refine seq_ifK (t := decide (j ≤ b.length)) (fun st' => st'.hp = hp1 ∧ st'.fr.get 1 = .s (.str b) ∧ st'.fr.get 5 = .lsl 11 ss 0 a.length none ∧ st'.fr.get 7 = .s (.int .i64 (j : Int)) ∧ st'.fr.get 8 = .s (.int .i64 (at_ : Int)) ∧ st'.fr.get 9 = .s (.int .u8 (take.toNat : Int))) (by simp only [F_eq, evA_tmp, get_put, Nat.reduceEqDiff, if_true, if_false, reduceIte]) (fun hc => ?_) (fun hc => ?_) ?_
    · have hc := of_decide_eq_true hc
      obtain ⟨q, hq⟩ : ∃ q : Nat, q = b.length - j := ⟨_, rfl⟩
      have hw2 : IntKind.i64.wrap ((b.length : Int) - (j : Int)) = (q : Int) := by rw [wrap_fits] <;> omega
      have hqb : q < b.length := by omega
      refine region_text.2 ?_
      simp only [RegT, opA_go, opA_when, guardQ_some, guarded_bool, absOp_assign, absOp_move, absOp_bin, absOp_index, absOp_pick, absOp_max, absOp_min, int2_int, strLen, intA, fastA, h9, intOf, orSlow_some, binA, strA, ariA, evA_const, evA_tmp, ofV, ofC, Option.getD_some, putA_some, Nat.ble, Nat.reduceAdd, cond_true, lay_nil, lay_cons, bump, F_eq, h_eq, upHp, List.length_cons, List.length_nil, get_put, Nat.reduceEqDiff, if_true, if_false, reduceIte, List.getElem?_toArray, List.getElem?_cons_succ, List.getElem?_cons_zero, Option.bind_some, Option.map_some, beq_iff_eq, reduceCtorEq, Bool.not_true, Bool.not_false, beq_self_eq_true, thenQ_normal, thenQ_ret, inQ_ret, inQ_normal, ends_ret, ends_skip, absOp_lenStr h9, absOp_lenRows h46, lenA, absOp_indexAddr, absOp_load, absOp_storeQ, putA_no, idxQ h46 s5, idxIn_eq, loadQ a5 s5, loadIn_eq, storeQ s5, storeIn_eq, orElse_some, orUps_some, orNone_some, hget_self, List.length_set, List.getElem_set_self, List.set_set, u8_add, u8_sub, u8_sub48, u8_add10, u8_sub10, u8_48add, g1, g5, g7, hw2, Int.natCast_nonneg, Int.toNat_natCast, List.getElem?_eq_getElem hqb]
      refine ⟨(by first | trivial | rfl | assumption), (by first | trivial | rfl | assumption), (by first | trivial | rfl | assumption), (by first | trivial | rfl | assumption), (by first | trivial | rfl | assumption), ?_⟩
      rw [htake, if_pos hc, ← hq, List.getD_eq_getElem?_getD, List.getElem?_eq_getElem hqb]
      rfl
    · have hc := of_decide_eq_false hc
      rw [if_neg hc] at htake
      refine ends_skip.2 ?_
      simp only [RegT, opA_go, opA_when, guardQ_some, guarded_bool, absOp_assign, absOp_move, absOp_bin, absOp_index, absOp_pick, absOp_max, absOp_min, int2_int, strLen, intA, fastA, h9, intOf, orSlow_some, binA, strA, ariA, evA_const, evA_tmp, ofV, ofC, Option.getD_some, putA_some, Nat.ble, Nat.reduceAdd, cond_true, lay_nil, lay_cons, bump, F_eq, h_eq, upHp, List.length_cons, List.length_nil, get_put, Nat.reduceEqDiff, if_true, if_false, reduceIte, List.getElem?_toArray, List.getElem?_cons_succ, List.getElem?_cons_zero, Option.bind_some, Option.map_some, beq_iff_eq, reduceCtorEq, Bool.not_true, Bool.not_false, beq_self_eq_true, thenQ_normal, thenQ_ret, inQ_ret, inQ_normal, ends_ret, ends_skip, absOp_lenStr h9, absOp_lenRows h46, lenA, absOp_indexAddr, absOp_load, absOp_storeQ, putA_no, idxQ h46 s5, idxIn_eq, loadQ a5 s5, loadIn_eq, storeQ s5, storeIn_eq, orElse_some, orUps_some, orNone_some, hget_self, List.length_set, List.getElem_set_self, List.set_set, u8_add, u8_sub, u8_sub48, u8_add10, u8_sub10, u8_48add, g1, g5, g7, htake]
      exact ⟨(by first | trivial | rfl | assumption), (by first | trivial | rfl | assumption), (by first | trivial | rfl | assumption), (by first | trivial | rfl | assumption), (by first | trivial | rfl | assumption), (by first | trivial | rfl | assumption)⟩
    · rintro ⟨fr2, hp2, nx2⟩ ⟨rfl, k1, k5, k7, k8, k9⟩
      simp only at k1 k5 k7 k8 k9 gh
      refine seq_text ?_
      simp only [RegT, opA_go, opA_when, guardQ_some, guarded_bool, absOp_assign, absOp_move, absOp_bin, absOp_index, absOp_pick, absOp_max, absOp_min, int2_int, strLen, intA, fastA, h9, intOf, orSlow_some, binA, strA, ariA, evA_const, evA_tmp, ofV, ofC, Option.getD_some, putA_some, Nat.ble, Nat.reduceAdd, cond_true, lay_nil, lay_cons, bump, F_eq, h_eq, upHp, List.length_cons, List.length_nil, get_put, Nat.reduceEqDiff, if_true, if_false, reduceIte, List.getElem?_toArray, List.getElem?_cons_succ, List.getElem?_cons_zero, Option.bind_some, Option.map_some, beq_iff_eq, reduceCtorEq, Bool.not_true, Bool.not_false, beq_self_eq_true, thenQ_normal, thenQ_ret, inQ_ret, inQ_normal, ends_ret, ends_skip, absOp_lenStr h9, absOp_lenRows h46, lenA, absOp_indexAddr, absOp_load, absOp_storeQ, putA_no, idxQ h46 s5, idxIn_eq, loadQ a5 s5, loadIn_eq, storeQ s5, storeIn_eq, orElse_some, orUps_some, orNone_some, hget_self, List.length_set, List.getElem_set_self, List.set_set, u8_add, u8_sub, u8_sub48, u8_add10, u8_sub10, u8_48add]
      refine seq_seq.2 (seq_text ?_)
      obtain ⟨x, hx⟩ : ∃ x, x = l[at_] := ⟨_, rfl⟩
      simp only [RegT, opA_go, opA_when, guardQ_some, guarded_bool, absOp_assign, absOp_move, absOp_bin, absOp_index, absOp_pick, absOp_max, absOp_min, int2_int, strLen, intA, fastA, h9, intOf, orSlow_some, binA, strA, ariA, evA_const, evA_tmp, ofV, ofC, Option.getD_some, putA_some, Nat.ble, Nat.reduceAdd, cond_true, lay_nil, lay_cons, bump, F_eq, h_eq, upHp, List.length_cons, List.length_nil, get_put, Nat.reduceEqDiff, if_true, if_false, reduceIte, List.getElem?_toArray, List.getElem?_cons_succ, List.getElem?_cons_zero, Option.bind_some, Option.map_some, beq_iff_eq, reduceCtorEq, Bool.not_true, Bool.not_false, beq_self_eq_true, thenQ_normal, thenQ_ret, inQ_ret, inQ_normal, ends_ret, ends_skip, absOp_lenStr h9, absOp_lenRows h46, lenA, absOp_indexAddr, absOp_load, absOp_storeQ, putA_no, idxQ h46 s5, idxIn_eq, loadQ a5 s5, loadIn_eq, storeQ s5, storeIn_eq, orElse_some, orUps_some, orNone_some, hget_self, List.length_set, List.getElem_set_self, List.set_set, u8_add, u8_sub, u8_sub48, u8_add10, u8_sub10, u8_48add, k5, k8, gh, hatl, hata, ← hx, k9, lt_u8]
      refine seq_ifK (t := decide (x < 48 + take)) (fun st' => ∃ l2 : List UInt8, hget st'.hp 11 = (ss, .arr 1 (strRows l2) 0) ∧ l2.length = l.length ∧ (∀ y, l2.set at_ y = l.set at_ y) ∧ l2[at_]? = some (if x < 48 + take then x + 10 else x) ∧ st'.fr.get 1 = .s (.str b) ∧ st'.fr.get 5 = .lsl 11 ss 0 a.length none ∧ st'.fr.get 7 = .s (.int .i64 (j : Int)) ∧ st'.fr.get 8 = .s (.int .i64 (at_ : Int)) ∧ st'.fr.get 9 = .s (.int .u8 (take.toNat : Int)) ∧ st'.fr.get 6 = .s (.int .u8 ((if x < 48 + take then (1 : UInt8) else 0).toNat : Int))) (by simp only [F_eq, evA_tmp, get_put, Nat.reduceEqDiff, if_true, if_false, reduceIte]) (fun hc => ?_) (fun hc => ?_) ?_
      · have hc := of_decide_eq_true hc
        refine seq_text ?_
        simp only [RegT, opA_go, opA_when, guardQ_some, guarded_bool, absOp_assign, absOp_move, absOp_bin, absOp_index, absOp_pick, absOp_max, absOp_min, int2_int, strLen, intA, fastA, h9, intOf, orSlow_some, binA, strA, ariA, evA_const, evA_tmp, ofV, ofC, Option.getD_some, putA_some, Nat.ble, Nat.reduceAdd, cond_true, lay_nil, lay_cons, bump, F_eq, h_eq, upHp, List.length_cons, List.length_nil, get_put, Nat.reduceEqDiff, if_true, if_false, reduceIte, List.getElem?_toArray, List.getElem?_cons_succ, List.getElem?_cons_zero, Option.bind_some, Option.map_some, beq_iff_eq, reduceCtorEq, Bool.not_true, Bool.not_false, beq_self_eq_true, thenQ_normal, thenQ_ret, inQ_ret, inQ_normal, ends_ret, ends_skip, absOp_lenStr h9, absOp_lenRows h46, lenA, absOp_indexAddr, absOp_load, absOp_storeQ, putA_no, idxQ h46 s5, idxIn_eq, loadQ a5 s5, loadIn_eq, storeQ s5, storeIn_eq, orElse_some, orUps_some, orNone_some, hget_self, List.length_set, List.getElem_set_self, List.set_set, u8_add, u8_sub, u8_sub48, u8_add10, u8_sub10, u8_48add, k5, k8, gh, hatl, hata, ← hx, k9]
        refine region_text.2 ?_
        simp only [RegT, opA_go, opA_when, guardQ_some, guarded_bool, absOp_assign, absOp_move, absOp_bin, absOp_index, absOp_pick, absOp_max, absOp_min, int2_int, strLen, intA, fastA, h9, intOf, orSlow_some, binA, strA, ariA, evA_const, evA_tmp, ofV, ofC, Option.getD_some, putA_some, Nat.ble, Nat.reduceAdd, cond_true, lay_nil, lay_cons, bump, F_eq, h_eq, upHp, List.length_cons, List.length_nil, get_put, Nat.reduceEqDiff, if_true, if_false, reduceIte, List.getElem?_toArray, List.getElem?_cons_succ, List.getElem?_cons_zero, Option.bind_some, Option.map_some, beq_iff_eq, reduceCtorEq, Bool.not_true, Bool.not_false, beq_self_eq_true, thenQ_normal, thenQ_ret, inQ_ret, inQ_normal, ends_ret, ends_skip, absOp_lenStr h9, absOp_lenRows h46, lenA, absOp_indexAddr, absOp_load, absOp_storeQ, putA_no, idxQ h46 s5, idxIn_eq, loadQ a5 s5, loadIn_eq, storeQ s5, storeIn_eq, orElse_some, orUps_some, orNone_some, hget_self, List.length_set, List.getElem_set_self, List.set_set, u8_add, u8_sub, u8_sub48, u8_add10, u8_sub10, u8_48add, k5, k8, gh, hatl, hata, ← hx, k9]
        refine ⟨l.set at_ (x + 10), rfl, by simp, fun y => by simp, by simp [hatl, hc], k1, (by first | trivial | rfl | assumption), (by first | trivial | rfl | assumption), (by first | trivial | rfl | assumption), (by first | trivial | rfl | assumption), ?_⟩
        rw [if_pos hc]; rfl
      · have hc := of_decide_eq_false hc
        refine ends_skip.2 ?_
        simp only [RegT, opA_go, opA_when, guardQ_some, guarded_bool, absOp_assign, absOp_move, absOp_bin, absOp_index, absOp_pick, absOp_max, absOp_min, int2_int, strLen, intA, fastA, h9, intOf, orSlow_some, binA, strA, ariA, evA_const, evA_tmp, ofV, ofC, Option.getD_some, putA_some, Nat.ble, Nat.reduceAdd, cond_true, lay_nil, lay_cons, bump, F_eq, h_eq, upHp, List.length_cons, List.length_nil, get_put, Nat.reduceEqDiff, if_true, if_false, reduceIte, List.getElem?_toArray, List.getElem?_cons_succ, List.getElem?_cons_zero, Option.bind_some, Option.map_some, beq_iff_eq, reduceCtorEq, Bool.not_true, Bool.not_false, beq_self_eq_true, thenQ_normal, thenQ_ret, inQ_ret, inQ_normal, ends_ret, ends_skip, absOp_lenStr h9, absOp_lenRows h46, lenA, absOp_indexAddr, absOp_load, absOp_storeQ, putA_no, idxQ h46 s5, idxIn_eq, loadQ a5 s5, loadIn_eq, storeQ s5, storeIn_eq, orElse_some, orUps_some, orNone_some, hget_self, List.length_set, List.getElem_set_self, List.set_set, u8_add, u8_sub, u8_sub48, u8_add10, u8_sub10, u8_48add, k5, k8, gh, k7, k1, k9]
        refine ⟨l, rfl, rfl, fun y => rfl, by rw [if_neg hc, hx]; exact List.getElem?_eq_getElem hatl, (by first | trivial | rfl | assumption), (by first | trivial | rfl | assumption), (by first | trivial | rfl | assumption), (by first | trivial | rfl | assumption), (by first | trivial | rfl | assumption), ?_⟩
        rw [if_neg hc]; rfl
      · rintro ⟨fr3, hp3, nx3⟩ ⟨l2, gh3, hl2, hset, hat2, m1, m5, m7, m8, m9, m6⟩
        simp only at gh3 m1 m5 m7 m8 m9 m6
        have hatl2 : at_ < l2.length := by omega
        rw [List.getElem?_eq_getElem hatl2, Option.some.injEq] at hat2
        refine region_text.2 ?_
        simp only [RegT, opA_go, opA_when, guardQ_some, guarded_bool, absOp_assign, absOp_move, absOp_bin, absOp_index, absOp_pick, absOp_max, absOp_min, int2_int, strLen, intA, fastA, h9, intOf, orSlow_some, binA, strA, ariA, evA_const, evA_tmp, ofV, ofC, Option.getD_some, putA_some, Nat.ble, Nat.reduceAdd, cond_true, lay_nil, lay_cons, bump, F_eq, h_eq, upHp, List.length_cons, List.length_nil, get_put, Nat.reduceEqDiff, if_true, if_false, reduceIte, List.getElem?_toArray, List.getElem?_cons_succ, List.getElem?_cons_zero, Option.bind_some, Option.map_some, beq_iff_eq, reduceCtorEq, Bool.not_true, Bool.not_false, beq_self_eq_true, thenQ_normal, thenQ_ret, inQ_ret, inQ_normal, ends_ret, ends_skip, absOp_lenStr h9, absOp_lenRows h46, lenA, absOp_indexAddr, absOp_load, absOp_storeQ, putA_no, idxQ h46 s5, idxIn_eq, loadQ a5 s5, loadIn_eq, storeQ s5, storeIn_eq, orElse_some, orUps_some, orNone_some, hget_self, List.length_set, List.getElem_set_self, List.set_set, u8_add, u8_sub, u8_sub48, u8_add10, u8_sub10, u8_48add, m5, m8, gh3, hatl2, hata, hat2, m9]
        refine region_text.2 ?_
        simp only [RegT, opA_go, opA_when, guardQ_some, guarded_bool, absOp_assign, absOp_move, absOp_bin, absOp_index, absOp_pick, absOp_max, absOp_min, int2_int, strLen, intA, fastA, h9, intOf, orSlow_some, binA, strA, ariA, evA_const, evA_tmp, ofV, ofC, Option.getD_some, putA_some, Nat.ble, Nat.reduceAdd, cond_true, lay_nil, lay_cons, bump, F_eq, h_eq, upHp, List.length_cons, List.length_nil, get_put, Nat.reduceEqDiff, if_true, if_false, reduceIte, List.getElem?_toArray, List.getElem?_cons_succ, List.getElem?_cons_zero, Option.bind_some, Option.map_some, beq_iff_eq, reduceCtorEq, Bool.not_true, Bool.not_false, beq_self_eq_true, thenQ_normal, thenQ_ret, inQ_ret, inQ_normal, ends_ret, ends_skip, absOp_lenStr h9, absOp_lenRows h46, lenA, absOp_indexAddr, absOp_load, absOp_storeQ, putA_no, idxQ h46 s5, idxIn_eq, loadQ a5 s5, loadIn_eq, storeQ s5, storeIn_eq, orElse_some, orUps_some, orNone_some, hget_self, List.length_set, List.getElem_set_self, List.set_set, u8_add, u8_sub, u8_sub48, u8_add10, u8_sub10, u8_48add, m7]
        have hw3 : IntKind.i64.wrap ((j : Int) + 1) = ((j + 1 : Nat) : Int) := by rw [wrap_fits] <;> omega
        refine ⟨a.length + 1 - j, by omega, j, ss, rfl, by omega, m1, m5, ?_, ?_, by rw [hw3]⟩
        · rw [hset, hrun, minusStep_of hat htake (List.getElem?_eq_getElem hatl), ← hx]
        · rw [m6, hrun, minusStep_of hat htake (List.getElem?_eq_getElem hatl), ← hx]
  · have d1 : decide ((j : Int) ≤ (a.length : Int)) = false := by simp; omega
    simp only [RegT, opA_go, opA_when, guardQ_some, guarded_bool, absOp_assign, absOp_move, absOp_bin, absOp_index, absOp_pick, absOp_max, absOp_min, int2_int, strLen, intA, fastA, h9, intOf, orSlow_some, binA, strA, ariA, evA_const, evA_tmp, ofV, ofC, Option.getD_some, putA_some, Nat.ble, Nat.reduceAdd, cond_true, lay_nil, lay_cons, bump, F_eq, h_eq, upHp, List.length_cons, List.length_nil, get_put, Nat.reduceEqDiff, if_true, if_false, reduceIte, List.getElem?_toArray, List.getElem?_cons_succ, List.getElem?_cons_zero, Option.bind_some, Option.map_some, beq_iff_eq, reduceCtorEq, Bool.not_true, Bool.not_false, beq_self_eq_true, thenQ_normal, thenQ_ret, inQ_ret, inQ_normal, ends_ret, ends_skip, absOp_lenStr h9, absOp_lenRows h46, lenA, absOp_indexAddr, absOp_load, absOp_storeQ, putA_no, idxQ h46 s5, idxIn_eq, loadQ a5 s5, loadIn_eq, storeQ s5, storeIn_eq, orElse_some, orUps_some, orNone_some, hget_self, List.length_set, List.getElem_set_self, List.set_set, u8_add, u8_sub, u8_sub48, u8_add10, u8_sub10, u8_48add, g1, g5, g7, d1]
    refine seq_if (t := false) (by simp only [F_eq, evA_tmp, get_put, Nat.reduceEqDiff, if_true, if_false, reduceIte]) (fun hc => (by cases hc)) (fun _ => ?_)
    rw [ends_exit, thenQ_exit, thenQ_exit]
    simp only [inQ_exit, if_true, reduceIte, thenQ_normal]
    refine seq_text ?_
    have hq := hc l (by omega)
    simp only [RegT, opA_go, opA_when, guardQ_some, guarded_bool, absOp_assign, absOp_move, absOp_bin, absOp_index, absOp_pick, absOp_max, absOp_min, int2_int, strLen, intA, fastA, h9, intOf, orSlow_some, binA, strA, ariA, evA_const, evA_tmp, ofV, ofC, Option.getD_some, putA_some, Nat.ble, Nat.reduceAdd, cond_true, lay_nil, lay_cons, bump, F_eq, h_eq, upHp, List.length_cons, List.length_nil, get_put, Nat.reduceEqDiff, if_true, if_false, reduceIte, List.getElem?_toArray, List.getElem?_cons_succ, List.getElem?_cons_zero, Option.bind_some, Option.map_some, beq_iff_eq, reduceCtorEq, Bool.not_true, Bool.not_false, beq_self_eq_true, thenQ_normal, thenQ_ret, inQ_ret, inQ_normal, ends_ret, ends_skip, absOp_lenStr h9, absOp_lenRows h46, lenA, absOp_indexAddr, absOp_load, absOp_storeQ, putA_no, idxQ h46 s5, idxIn_eq, loadQ a5 s5, loadIn_eq, storeQ s5, storeIn_eq, orElse_some, orUps_some, orNone_some, hget_self, List.length_set, List.getElem_set_self, List.set_set, u8_add, u8_sub, u8_sub48, u8_add10, u8_sub10, u8_48add, op40 (cap := none) hE hlend hq gh, g5, hlen]
    refine ⟨.inr trivial, fin _ ?_⟩
    rw [hdone (by omega)]
    simp only [get_put, Nat.reduceEqDiff, if_true, if_false, reduceIte]
end Go.Proofs.Ytbfdokfelolmbaa.TensW
end

section
open Go.Proofs.Ytbfdokfelolmbaa.Vai
namespace Go.Proofs.Ytbfdokfelolmbaa.TensW
set_option maxRecDepth 10000
set_option linter.unusedSimpArgs false

theorem hB5 {E : Env} (h : E.P = Try.prog) : tbytes E.P 5 = some 1 := by rw [h]; kernel_rfl
theorem hZ5 {E : Env} (h : E.P = Try.prog) : (tzero E.P 5).bind cellsA = some [.s (.int .u8 0)] := by rw [h]; kernel_rfl

/-- One place of the laying together. -/
def plusStep (b : List UInt8) (j : Nat) (p : List UInt8 × UInt8) : List UInt8 × UInt8 :=
  let k := p.1.length - j
  let x := p.1.getD k 0 + p.2
  let y := if j ≤ b.length then x + (b.getD (b.length - j) 0 - 48) else x
  if 57 < y then (p.1.set k (y - 10), 1) else (p.1.set k y, 0)
def plusRun (b a : List UInt8) : Nat → List UInt8 × UInt8
  | 0 => (48 :: a, 0)
  | i + 1 => plusStep b (i + 1) (plusRun b a i)
def plusEnd (p : List UInt8 × UInt8) : List UInt8 := p.1.set 0 (p.1.getD 0 0 + p.2)
def plus0 (a b : List UInt8) : List UInt8 := textL (plusEnd (plusRun b a a.length))
def plusL (a b : List UInt8) : List UInt8 := if a.length < b.length then plus0 b a else plus0 a b

theorem plusRun_length {b a : List UInt8} : ∀ {i : Nat}, (plusRun b a i).1.length = a.length + 1
  | 0 => rfl
  | i + 1 => by
    have ih := plusRun_length (b := b) (a := a) (i := i)
    simp only [plusRun, plusStep]
    split <;> split <;> simp [ih]

theorem plusStep_of {b l : List UInt8} {c : UInt8} {j k : Nat} {x y : UInt8} (hat : k = l.length - j) (hx : l[k]? = some x) (hy : y = (if j ≤ b.length then x + c + (b.getD (b.length - j) 0 - 48) else x + c)) : plusStep b j (l, c) = (l.set k (if 57 < y then y - 10 else y), if 57 < y then 1 else 0) := by
  subst hat hy
  simp only [plusStep, List.getD_eq_getElem?_getD, hx, Option.getD_some]
  split <;> split <;> rfl

theorem splice_front {n : Nat} {v : SV} {z : SV} : splice (List.replicate (n + 1) z) 0 [v] = v :: List.replicate n z := by
  simp [splice]
theorem splice_rest {v z : SV} {l : List SV} : splice (v :: List.replicate l.length z) 1 l = v :: l := by
  simp [splice]; omega
theorem rep_rows {c : Nat} {z : SV} : List.replicate c [z] = cellRows (List.replicate c z) := by simp [cellRows]

theorem plus_abs (E : Env) (hE : E.P = Try.prog) (hraw : E.raw 29 = false) (hlend : E.lend 40 = false) (hc : ∀ l, l.length ≤ 70368744177664 → E.call 40 [.s (.ssl (strRows l))] [] = some (.s (.str (textL l)), [])) (n : Nat) (a b : List UInt8) (hla : a.length + 1 < n) (hlb : b.length + 1 < n) (hs : a.length < 70368744177664) (hsb : b.length < 70368744177664) (hna : a ≠ []) (hnb : b ≠ []) : absBody E n 29 Try.f29 [.s (.str a), .s (.str b)] [] = some (.s (.str (plusL a b)), []) := by
  have h9 := hE9 hE
  have h46 := hE46 hE
  have h5 := hE5 hE
  have s5 := hS5 hE
  have a5 := hA5 hE
  have b5 := hB5 hE
  have z5 := hZ5 hE
  have fin : ∀ (st : St), st.fr.get 4 = .s (.str (plusL a b)) → finish E 29 0 Try.f29 st = some (.s (.str (plusL a b)), []) := by
    intro st h1
    refine finish_sealed (l := [.s (.str (plusL a b))]) ?_ hraw rfl |>.trans rfl
    simp [Try.f29, resultA, resultA.go, h1]
  refine body_ends rfl (by simp [Try.ntmps29]) rfl ?_
  rw [Try.ntmps29]
  refine seq_text ?_
  simp only [RegT, opA_go, opA_when, guardQ_some, guarded_bool, absOp_assign, absOp_move, absOp_bin, absOp_index, absOp_pick, absOp_max, absOp_min, int2_int, strLen, intA, fastA, h9, intOf, orSlow_some, binA, strA, ariA, evA_const, evA_tmp, ofV, ofC, Option.getD_some, putA_some, Nat.ble, Nat.reduceAdd, cond_true, lay_nil, lay_cons, bump, F_eq, h_eq, upHp, List.length_cons, List.length_nil, get_put, Nat.reduceEqDiff, if_true, if_false, reduceIte, List.getElem?_toArray, List.getElem?_cons_succ, List.getElem?_cons_zero, Option.bind_some, Option.map_some, beq_iff_eq, reduceCtorEq, Bool.not_true, Bool.not_false, beq_self_eq_true, thenQ_normal, thenQ_ret, inQ_ret, inQ_normal, ends_ret, ends_skip, absOp_lenStr h9, absOp_lenRows h46, lenA, absOp_indexAddr, absOp_load, absOp_storeQ, putA_no, idxQ h46 s5, idxIn_eq, loadQ a5 s5, loadIn_eq, storeQ s5, storeIn_eq, orElse_some, orUps_some, orNone_some, hget_self, List.length_set, List.getElem_set_self, List.set_set, u8_add, u8_sub, u8_sub48, u8_add10, u8_sub10, u8_48add]
  refine seq_seq.2 (seq_text ?_)
  have d0 : decide ((a.length : Int) < (b.length : Int)) = decide (a.length < b.length) := by simp
  simp only [RegT, opA_go, opA_when, guardQ_some, guarded_bool, absOp_assign, absOp_move, absOp_bin, absOp_index, absOp_pick, absOp_max, absOp_min, int2_int, strLen, intA, fastA, h9, intOf, orSlow_some, binA, strA, ariA, evA_const, evA_tmp, ofV, ofC, Option.getD_some, putA_some, Nat.ble, Nat.reduceAdd, cond_true, lay_nil, lay_cons, bump, F_eq, h_eq, upHp, List.length_cons, List.length_nil, get_put, Nat.reduceEqDiff, if_true, if_false, reduceIte, List.getElem?_toArray, List.getElem?_cons_succ, List.getElem?_cons_zero, Option.bind_some, Option.map_some, beq_iff_eq, reduceCtorEq, Bool.not_true, Bool.not_false, beq_self_eq_true, thenQ_normal, thenQ_ret, inQ_ret, inQ_normal, ends_ret, ends_skip, absOp_lenStr h9, absOp_lenRows h46, lenA, absOp_indexAddr, absOp_load, absOp_storeQ, putA_no, idxQ h46 s5, idxIn_eq, loadQ a5 s5, loadIn_eq, storeQ s5, storeIn_eq, orElse_some, orUps_some, orNone_some, hget_self, List.length_set, List.getElem_set_self, List.set_set, u8_add, u8_sub, u8_sub48, u8_add10, u8_sub10, u8_48add, d0]
  refine seq_ifK (t := decide (a.length < b.length)) (fun st' => st'.hp = [] ∧ st'.fr.get 0 = .s (.str (if a.length < b.length then b else a)) ∧ st'.fr.get 1 = .s (.str (if a.length < b.length then a else b))) (by simp only [F_eq, evA_tmp, get_put, Nat.reduceEqDiff, if_true, if_false, reduceIte]) (fun hc => ?_) (fun hc => ?_) ?_
  · have hc := of_decide_eq_true hc
    refine region_text.2 ?_
    simp only [RegT, opA_go, opA_when, guardQ_some, guarded_bool, absOp_assign, absOp_move, absOp_bin, absOp_index, absOp_pick, absOp_max, absOp_min, int2_int, strLen, intA, fastA, h9, intOf, orSlow_some, binA, strA, ariA, evA_const, evA_tmp, ofV, ofC, Option.getD_some, putA_some, Nat.ble, Nat.reduceAdd, cond_true, lay_nil, lay_cons, bump, F_eq, h_eq, upHp, List.length_cons, List.length_nil, get_put, Nat.reduceEqDiff, if_true, if_false, reduceIte, List.getElem?_toArray, List.getElem?_cons_succ, List.getElem?_cons_zero, Option.bind_some, Option.map_some, beq_iff_eq, reduceCtorEq, Bool.not_true, Bool.not_false, beq_self_eq_true, thenQ_normal, thenQ_ret, inQ_ret, inQ_normal, ends_ret, ends_skip, absOp_lenStr h9, absOp_lenRows h46, lenA, absOp_indexAddr, absOp_load, absOp_storeQ, putA_no, idxQ h46 s5, idxIn_eq, loadQ a5 s5, loadIn_eq, storeQ s5, storeIn_eq, orElse_some, orUps_some, orNone_some, hget_self, List.length_set, List.getElem_set_self, List.set_set, u8_add, u8_sub, u8_sub48, u8_add10, u8_sub10, u8_48add, hc]
    exact ⟨(by first | trivial | rfl | assumption), (by first | trivial | rfl | assumption), (by first | trivial | rfl | assumption)⟩
  · have hc := of_decide_eq_false hc
    refine ends_skip.2 ?_
    simp only [RegT, opA_go, opA_when, guardQ_some, guarded_bool, absOp_assign, absOp_move, absOp_bin, absOp_index, absOp_pick, absOp_max, absOp_min, int2_int, strLen, intA, fastA, h9, intOf, orSlow_some, binA, strA, ariA, evA_const, evA_tmp, ofV, ofC, Option.getD_some, putA_some, Nat.ble, Nat.reduceAdd, cond_true, lay_nil, lay_cons, bump, F_eq, h_eq, upHp, List.length_cons, List.length_nil, get_put, Nat.reduceEqDiff, if_true, if_false, reduceIte, List.getElem?_toArray, List.getElem?_cons_succ, List.getElem?_cons_zero, Option.bind_some, Option.map_some, beq_iff_eq, reduceCtorEq, Bool.not_true, Bool.not_false, beq_self_eq_true, thenQ_normal, thenQ_ret, inQ_ret, inQ_normal, ends_ret, ends_skip, absOp_lenStr h9, absOp_lenRows h46, lenA, absOp_indexAddr, absOp_load, absOp_storeQ, putA_no, idxQ h46 s5, idxIn_eq, loadQ a5 s5, loadIn_eq, storeQ s5, storeIn_eq, orElse_some, orUps_some, orNone_some, hget_self, List.length_set, List.getElem_set_self, List.set_set, u8_add, u8_sub, u8_sub48, u8_add10, u8_sub10, u8_48add, hc]
    exact ⟨(by first | trivial | rfl | assumption), (by first | trivial | rfl | assumption), (by first | trivial | rfl | assumption)⟩
  rintro ⟨fr0, hp0, nx0⟩ ⟨rfl, g0, g1⟩
  simp only at g0 g1
  obtain ⟨A, hA⟩ : ∃ A, A = (if a.length < b.length then b else a) := ⟨_, rfl⟩
  obtain ⟨B, hB⟩ : ∃ B, B = (if a.length < b.length then a else b) := ⟨_, rfl⟩
  rw [← hA] at g0
  rw [← hB] at g1
  have hAB : plusL a b = plus0 A B := by subst hA hB; unfold plusL; split <;> rfl
  have hlA : A.length + 1 < n := by subst hA; split <;> assumption
  have hsA : A.length < 70368744177664 := by subst hA; split <;> assumption
  have hsB : B.length < 70368744177664 := by subst hB; split <;> assumption
  have hAB2 : B.length ≤ A.length := by subst hA hB; split <;> omega
  have hnA : A ≠ [] := by subst hA; split <;> assumption
  rw [hAB] at fin
  rw [hAB]
  clear hA hB hAB
  refine seq_text ?_
  have hw0 : IntKind.i64.wrap ((A.length : Int) + 1) = ((A.length + 1 : Nat) : Int) := by rw [wrap_fits] <;> omega
  simp only [RegT, opA_go, opA_when, guardQ_some, guarded_bool, absOp_assign, absOp_move, absOp_bin, absOp_index, absOp_pick, absOp_max, absOp_min, int2_int, strLen, intA, fastA, h9, intOf, orSlow_some, binA, strA, ariA, evA_const, evA_tmp, ofV, ofC, Option.getD_some, putA_some, Nat.ble, Nat.reduceAdd, cond_true, lay_nil, lay_cons, bump, F_eq, h_eq, upHp, List.length_cons, List.length_nil, get_put, Nat.reduceEqDiff, if_true, if_false, reduceIte, List.getElem?_toArray, List.getElem?_cons_succ, List.getElem?_cons_zero, Option.bind_some, Option.map_some, beq_iff_eq, reduceCtorEq, Bool.not_true, Bool.not_false, beq_self_eq_true, thenQ_normal, thenQ_ret, inQ_ret, inQ_normal, ends_ret, ends_skip, absOp_lenStr h9, absOp_lenRows h46, lenA, absOp_indexAddr, absOp_load, absOp_storeQ, putA_no, idxQ h46 s5, idxIn_eq, loadQ a5 s5, loadIn_eq, storeQ s5, storeIn_eq, orElse_some, orUps_some, orNone_some, hget_self, List.length_set, List.getElem_set_self, List.set_set, u8_add, u8_sub, u8_sub48, u8_add10, u8_sub10, u8_48add, g0, hw0, absOp_makeSlice, absOp_buildSlice, make_cells (c := A.length + 1) h46 s5 b5 z5 (by omega) (by omega), build_one (v := .int .u8 48) h46 s5 z5 rfl, rep_rows]
  rw [absOp_append (r := (.lsl 19 (nx0 + room * 3) 0 1 (some (A.length + 1)), [(19, (nx0 + room * 3, .arr 1 (cellRows (.int .u8 48 :: List.replicate A.length (.int .u8 0))) 0))])) (by
    simp only [F_eq, evA_tmp, get_put, Nat.reduceEqDiff, if_true, if_false, reduceIte]
    exact (app_place (len := 0) (l := List.replicate (A.length + 1) (.int .u8 0)) (xs := [.int .u8 48]) h46 (.inl h46) s5 b5 z5 (appRows_lsl (fz := 0) hget_self rfl) (by simp) (by simp [hget_hput]) (by simp) (by simp [capOk])).trans (by rw [splice_front]; rfl))]
  simp only [RegT, opA_go, opA_when, guardQ_some, guarded_bool, absOp_assign, absOp_move, absOp_bin, absOp_index, absOp_pick, absOp_max, absOp_min, int2_int, strLen, intA, fastA, h9, intOf, orSlow_some, binA, strA, ariA, evA_const, evA_tmp, ofV, ofC, Option.getD_some, putA_some, Nat.ble, Nat.reduceAdd, cond_true, lay_nil, lay_cons, bump, F_eq, h_eq, upHp, List.length_cons, List.length_nil, get_put, Nat.reduceEqDiff, if_true, if_false, reduceIte, List.getElem?_toArray, List.getElem?_cons_succ, List.getElem?_cons_zero, Option.bind_some, Option.map_some, beq_iff_eq, reduceCtorEq, Bool.not_true, Bool.not_false, beq_self_eq_true, thenQ_normal, thenQ_ret, inQ_ret, inQ_normal, ends_ret, ends_skip, absOp_lenStr h9, absOp_lenRows h46, lenA, absOp_indexAddr, absOp_load, absOp_storeQ, putA_no, idxQ h46 s5, idxIn_eq, loadQ a5 s5, loadIn_eq, storeQ s5, storeIn_eq, orElse_some, orUps_some, orNone_some, hget_self, List.length_set, List.getElem_set_self, List.set_set, u8_add, u8_sub, u8_sub48, u8_add10, u8_sub10, u8_48add]
  refine seq_text ?_
  simp only [RegT, opA_go, opA_when, guardQ_some, guarded_bool, absOp_assign, absOp_move, absOp_bin, absOp_index, absOp_pick, absOp_max, absOp_min, int2_int, strLen, intA, fastA, h9, intOf, orSlow_some, binA, strA, ariA, evA_const, evA_tmp, ofV, ofC, Option.getD_some, putA_some, Nat.ble, Nat.reduceAdd, cond_true, lay_nil, lay_cons, bump, F_eq, h_eq, upHp, List.length_cons, List.length_nil, get_put, Nat.reduceEqDiff, if_true, if_false, reduceIte, List.getElem?_toArray, List.getElem?_cons_succ, List.getElem?_cons_zero, Option.bind_some, Option.map_some, beq_iff_eq, reduceCtorEq, Bool.not_true, Bool.not_false, beq_self_eq_true, thenQ_normal, thenQ_ret, inQ_ret, inQ_normal, ends_ret, ends_skip, absOp_lenStr h9, absOp_lenRows h46, lenA, absOp_indexAddr, absOp_load, absOp_storeQ, putA_no, idxQ h46 s5, idxIn_eq, loadQ a5 s5, loadIn_eq, storeQ s5, storeIn_eq, orElse_some, orUps_some, orNone_some, hget_self, List.length_set, List.getElem_set_self, List.set_set, u8_add, u8_sub, u8_sub48, u8_add10, u8_sub10, u8_48add, g0]
  rw [absOp_append (r := (.lsl 19 (nx0 + room * 3) 0 (A.length + 1) (some (A.length + 1)), [(19, (nx0 + room * 3, .arr 1 (cellRows (.int .u8 48 :: A.map byteS)) 0))])) (by
    simp only [F_eq, evA_tmp, get_put, Nat.reduceEqDiff, if_true, if_false, reduceIte]
    have e := app_place (d := 5) (h := hget (hput (hput (hput [] 19 (nx0 + room * 3, .arr 1 (cellRows (List.replicate (A.length + 1) (.int .u8 0))) 0)) 20 (nx0 + room * 4, .arr 1 (cellRows [.int .u8 48]) 0)) 19 (nx0 + room * 3, .arr 1 (cellRows (.int .u8 48 :: List.replicate A.length (.int .u8 0))) 0))) (k := 24) (s := nx0 + room * 7 + room + room * 2) (k' := 19) (s' := nx0 + room * 3) (len := 1) (cap := some (A.length + 1)) (l := .int .u8 48 :: List.replicate A.length (.int .u8 0)) (xs := A.map byteS) h46 (.inr h9) s5 b5 z5 appRows_str (by simpa using hnA) (by simp [hget_hput]) (by simp; omega) (by simp [capOk]; omega)
    have e2 : splice (SV.int .u8 48 :: List.replicate A.length (.int .u8 0)) 1 (A.map byteS) = .int .u8 48 :: A.map byteS := by
      have := splice_rest (v := .int .u8 48) (z := .int .u8 0) (l := A.map byteS)
      rwa [List.length_map] at this
    rw [e2, List.length_map, Nat.add_comm 1] at e
    exact e)]
  simp only [RegT, opA_go, opA_when, guardQ_some, guarded_bool, absOp_assign, absOp_move, absOp_bin, absOp_index, absOp_pick, absOp_max, absOp_min, int2_int, strLen, intA, fastA, h9, intOf, orSlow_some, binA, strA, ariA, evA_const, evA_tmp, ofV, ofC, Option.getD_some, putA_some, Nat.ble, Nat.reduceAdd, cond_true, lay_nil, lay_cons, bump, F_eq, h_eq, upHp, List.length_cons, List.length_nil, get_put, Nat.reduceEqDiff, if_true, if_false, reduceIte, List.getElem?_toArray, List.getElem?_cons_succ, List.getElem?_cons_zero, Option.bind_some, Option.map_some, beq_iff_eq, reduceCtorEq, Bool.not_true, Bool.not_false, beq_self_eq_true, thenQ_normal, thenQ_ret, inQ_ret, inQ_normal, ends_ret, ends_skip, absOp_lenStr h9, absOp_lenRows h46, lenA, absOp_indexAddr, absOp_load, absOp_storeQ, putA_no, idxQ h46 s5, idxIn_eq, loadQ a5 s5, loadIn_eq, storeQ s5, storeIn_eq, orElse_some, orUps_some, orNone_some, hget_self, List.length_set, List.getElem_set_self, List.set_set, u8_add, u8_sub, u8_sub48, u8_add10, u8_sub10, u8_48add]
  refine seq_text ?_
  simp only [RegT, opA_go, opA_when, guardQ_some, guarded_bool, absOp_assign, absOp_move, absOp_bin, absOp_index, absOp_pick, absOp_max, absOp_min, int2_int, strLen, intA, fastA, h9, intOf, orSlow_some, binA, strA, ariA, evA_const, evA_tmp, ofV, ofC, Option.getD_some, putA_some, Nat.ble, Nat.reduceAdd, cond_true, lay_nil, lay_cons, bump, F_eq, h_eq, upHp, List.length_cons, List.length_nil, get_put, Nat.reduceEqDiff, if_true, if_false, reduceIte, List.getElem?_toArray, List.getElem?_cons_succ, List.getElem?_cons_zero, Option.bind_some, Option.map_some, beq_iff_eq, reduceCtorEq, Bool.not_true, Bool.not_false, beq_self_eq_true, thenQ_normal, thenQ_ret, inQ_ret, inQ_normal, ends_ret, ends_skip, absOp_lenStr h9, absOp_lenRows h46, lenA, absOp_indexAddr, absOp_load, absOp_storeQ, putA_no, idxQ h46 s5, idxIn_eq, loadQ a5 s5, loadIn_eq, storeQ s5, storeIn_eq, orElse_some, orUps_some, orNone_some, hget_self, List.length_set, List.getElem_set_self, List.set_set, u8_add, u8_sub, u8_sub48, u8_add10, u8_sub10, u8_48add]
  refine seq_seq.2 (seq_text ?_)
  simp only [RegT, opA_go, opA_when, guardQ_some, guarded_bool, absOp_assign, absOp_move, absOp_bin, absOp_index, absOp_pick, absOp_max, absOp_min, int2_int, strLen, intA, fastA, h9, intOf, orSlow_some, binA, strA, ariA, evA_const, evA_tmp, ofV, ofC, Option.getD_some, putA_some, Nat.ble, Nat.reduceAdd, cond_true, lay_nil, lay_cons, bump, F_eq, h_eq, upHp, List.length_cons, List.length_nil, get_put, Nat.reduceEqDiff, if_true, if_false, reduceIte, List.getElem?_toArray, List.getElem?_cons_succ, List.getElem?_cons_zero, Option.bind_some, Option.map_some, beq_iff_eq, reduceCtorEq, Bool.not_true, Bool.not_false, beq_self_eq_true, thenQ_normal, thenQ_ret, inQ_ret, inQ_normal, ends_ret, ends_skip, absOp_lenStr h9, absOp_lenRows h46, lenA, absOp_indexAddr, absOp_load, absOp_storeQ, putA_no, idxQ h46 s5, idxIn_eq, loadQ a5 s5, loadIn_eq, storeQ s5, storeIn_eq, orElse_some, orUps_some, orNone_some, hget_self, List.length_set, List.getElem_set_self, List.set_set, u8_add, u8_sub, u8_sub48, u8_add10, u8_sub10, u8_48add]
  refine ends_seq.2 (ends_block.2 ?_)
  refine ends_loop (fun k st => ∃ i : Nat, ∃ ss : Nat, k = A.length + 1 - i ∧ i ≤ A.length ∧ st.fr.get 0 = .s (.str A) ∧ st.fr.get 1 = .s (.str B) ∧ st.fr.get 5 = .lsl 19 ss 0 (A.length + 1) (some (A.length + 1)) ∧ hget st.hp 19 = (ss, .arr 1 (strRows (plusRun B A i).1) 0) ∧ st.fr.get 6 = .s (.int .u8 ((plusRun B A i).2.toNat : Int)) ∧ st.fr.get 7 = .s (.int .i64 ((i + 1 : Nat) : Int))) (m := A.length + 1) (by omega) ⟨0, _, by simp, by omega, by simp only [get_put, Nat.reduceEqDiff, if_true, if_false, reduceIte, g0], by simp only [get_put, Nat.reduceEqDiff, if_true, if_false, reduceIte, g1], by simp only [get_put, Nat.reduceEqDiff, if_true, if_false, reduceIte]; rfl, by simp only [hget_self]; rw [strRows_cells]; rfl, by simp only [get_put, Nat.reduceEqDiff, if_true, if_false, reduceIte]; rfl, by simp only [get_put, Nat.reduceEqDiff, if_true, if_false, reduceIte]; rfl⟩ ?_
  rintro k ⟨fr1, hp1, nx1⟩ ⟨i, ss, rfl, hi, g0, g1, g5, gh, g6, g7⟩
  simp only at g0 g1 g5 gh g6 g7
  have hlen := plusRun_length (b := B) (a := A) (i := i)
  have hrun : plusRun B A (i + 1) = plusStep B (i + 1) (plusRun B A i) := rfl
  have hdone : i = A.length → plus0 A B = textL (plusEnd (plusRun B A i)) := fun h => by rw [h]; rfl
  generalize plusRun B A i = p at *
  obtain ⟨l, c⟩ := p
  simp only at gh g6 hlen hdone
  obtain ⟨j, hj⟩ : ∃ j, j = i + 1 := ⟨_, rfl⟩
  rw [← hj] at g7 hrun
  refine seq_seq.2 (seq_text ?_)
  by_cases hlt : i < A.length
  · have d1 : decide ((j : Int) ≤ (A.length : Int)) = true := by simp; omega
    simp only [RegT, opA_go, opA_when, guardQ_some, guarded_bool, absOp_assign, absOp_move, absOp_bin, absOp_index, absOp_pick, absOp_max, absOp_min, int2_int, strLen, intA, fastA, h9, intOf, orSlow_some, binA, strA, ariA, evA_const, evA_tmp, ofV, ofC, Option.getD_some, putA_some, Nat.ble, Nat.reduceAdd, cond_true, lay_nil, lay_cons, bump, F_eq, h_eq, upHp, List.length_cons, List.length_nil, get_put, Nat.reduceEqDiff, if_true, if_false, reduceIte, List.getElem?_toArray, List.getElem?_cons_succ, List.getElem?_cons_zero, Option.bind_some, Option.map_some, beq_iff_eq, reduceCtorEq, Bool.not_true, Bool.not_false, beq_self_eq_true, thenQ_normal, thenQ_ret, inQ_ret, inQ_normal, ends_ret, ends_skip, absOp_lenStr h9, absOp_lenRows h46, lenA, absOp_indexAddr, absOp_load, absOp_storeQ, putA_no, idxQ h46 s5, idxIn_eq, loadQ a5 s5, loadIn_eq, storeQ s5, storeIn_eq, orElse_some, orUps_some, orNone_some, hget_self, List.length_set, List.getElem_set_self, List.set_set, u8_add, u8_sub, u8_sub48, u8_add10, u8_sub10, u8_48add, g0, g7, d1]
    refine seq_if (t := true) (by simp only [F_eq, evA_tmp, get_put, Nat.reduceEqDiff, if_true, if_false, reduceIte]) (fun _ => ?_) (fun hc => (by cases hc))
    rw [ends_skip, thenQ_normal]
    refine seq_K (fun st' => hget st'.hp 19 = (ss, .arr 1 (strRows (plusRun B A j).1) 0) ∧ st'.fr.get 0 = .s (.str A) ∧ st'.fr.get 1 = .s (.str B) ∧ st'.fr.get 5 = .lsl 19 ss 0 (A.length + 1) (some (A.length + 1)) ∧ st'.fr.get 7 = .s (.int .i64 (j : Int)) ∧ st'.fr.get 6 = .s (.int .u8 ((plusRun B A j).2.toNat : Int))) (ends_block.2 ?_) ?_
    rotate_left
    · rintro ⟨fr4, hp4, nx4⟩ ⟨p1, p2, p3, p4, p5, p6⟩
      simp only at p1 p2 p3 p4 p5 p6
      have hw3 : IntKind.i64.wrap ((j : Int) + 1) = ((j + 1 : Nat) : Int) := by rw [wrap_fits] <;> omega
      refine region_text.2 ?_
      simp only [RegT, opA_go, opA_when, guardQ_some, guarded_bool, absOp_assign, absOp_move, absOp_bin, absOp_index, absOp_pick, absOp_max, absOp_min, int2_int, strLen, intA, fastA, h9, intOf, orSlow_some, binA, strA, ariA, evA_const, evA_tmp, ofV, ofC, Option.getD_some, putA_some, Nat.ble, Nat.reduceAdd, cond_true, lay_nil, lay_cons, bump, F_eq, h_eq, upHp, List.length_cons, List.length_nil, get_put, Nat.reduceEqDiff, if_true, if_false, reduceIte, List.getElem?_toArray, List.getElem?_cons_succ, List.getElem?_cons_zero, Option.bind_some, Option.map_some, beq_iff_eq, reduceCtorEq, Bool.not_true, Bool.not_false, beq_self_eq_true, thenQ_normal, thenQ_ret, inQ_ret, inQ_normal, ends_ret, ends_skip, absOp_lenStr h9, absOp_lenRows h46, lenA, absOp_indexAddr, absOp_load, absOp_storeQ, putA_no, idxQ h46 s5, idxIn_eq, loadQ a5 s5, loadIn_eq, storeQ s5, storeIn_eq, orElse_some, orUps_some, orNone_some, hget_self, List.length_set, List.getElem_set_self, List.set_set, u8_add, u8_sub, u8_sub48, u8_add10, u8_sub10, u8_48add, p5, hw3]
      exact ⟨A.length + 1 - j, by omega, j, ss, rfl, by omega, p2, p3, p4, p1, p6, (by first | trivial | rfl)⟩
    obtain ⟨at_, hat⟩ : ∃ at_ : Nat, at_ = l.length - j := ⟨_, rfl⟩
    have hw : IntKind.i64.wrap (((A.length + 1 : Nat) : Int) - (j : Int)) = (at_ : Int) := by rw [wrap_fits] <;> omega
    have hatl : at_ < l.length := by omega
    have hata : at_ < A.length + 1 := by omega
    refine seq_text ?_
    simp only [RegT, opA_go, opA_when, guardQ_some, guarded_bool, absOp_assign, absOp_move, absOp_bin, absOp_index, absOp_pick, absOp_max, absOp_min, int2_int, strLen, intA, fastA, h9, intOf, orSlow_some, binA, strA, ariA, evA_const, evA_tmp, ofV, ofC, Option.getD_some, putA_some, Nat.ble, Nat.reduceAdd, cond_true, lay_nil, lay_cons, bump, F_eq, h_eq, upHp, List.length_cons, List.length_nil, get_put, Nat.reduceEqDiff, if_true, if_false, reduceIte, List.getElem?_toArray, List.getElem?_cons_succ, List.getElem?_cons_zero, Option.bind_some, Option.map_some, beq_iff_eq, reduceCtorEq, Bool.not_true, Bool.not_false, beq_self_eq_true, thenQ_normal, thenQ_ret, inQ_ret, inQ_normal, ends_ret, ends_skip, absOp_lenStr h9, absOp_lenRows h46, lenA, absOp_indexAddr, absOp_load, absOp_storeQ, putA_no, idxQ h46 s5, idxIn_eq, loadQ a5 s5, loadIn_eq, storeQ s5, storeIn_eq, orElse_some, orUps_some, orNone_some, hget_self, List.length_set, List.getElem_set_self, List.set_set, u8_add, u8_sub, u8_sub48, u8_add10, u8_sub10, u8_48add, g5, g7, hw]
    refine seq_text ?_
    obtain ⟨x, hx⟩ : ∃ x, x = l[at_] := ⟨_, rfl⟩
    simp only [RegT, opA_go, opA_when, guardQ_some, guarded_bool, absOp_assign, absOp_move, absOp_bin, absOp_index, absOp_pick, absOp_max, absOp_min, int2_int, strLen, intA, fastA, h9, intOf, orSlow_some, binA, strA, ariA, evA_const, evA_tmp, ofV, ofC, Option.getD_some, putA_some, Nat.ble, Nat.reduceAdd, cond_true, lay_nil, lay_cons, bump, F_eq, h_eq, upHp, List.length_cons, List.length_nil, get_put, Nat.reduceEqDiff, if_true, if_false, reduceIte, List.getElem?_toArray, List.getElem?_cons_succ, List.getElem?_cons_zero, Option.bind_some, Option.map_some, beq_iff_eq, reduceCtorEq, Bool.not_true, Bool.not_false, beq_self_eq_true, thenQ_normal, thenQ_ret, inQ_ret, inQ_normal, ends_ret, ends_skip, absOp_lenStr h9, absOp_lenRows h46, lenA, absOp_indexAddr, absOp_load, absOp_storeQ, putA_no, idxQ h46 s5, idxIn_eq, loadQ a5 s5, loadIn_eq, storeQ s5, storeIn_eq, orElse_some, orUps_some, orNone_some, hget_self, List.length_set, List.getElem_set_self, List.set_set, u8_add, u8_sub, u8_sub48, u8_add10, u8_sub10, u8_48add, g5, gh, hatl, hata, ← hx, g6]
    obtain ⟨y, hy⟩ : ∃ y, y = (if j ≤ B.length then x + c + (B.getD (B.length - j) 0 - 48) else x + c) := ⟨_, rfl⟩
    have d2 : decide ((j : Int) ≤ (B.length : Int)) = decide (j ≤ B.length) := by simp
    refine seq_seq.2 (seq_text ?_)
    simp only [RegT, opA_go, opA_when, guardQ_some, guarded_bool, absOp_assign, absOp_move, absOp_bin, absOp_index, absOp_pick, absOp_max, absOp_min, int2_int, strLen, intA, fastA, h9, intOf, orSlow_some, binA, strA, ariA, evA_const, evA_tmp, ofV, ofC, Option.getD_some, putA_some, Nat.ble, Nat.reduceAdd, cond_true, lay_nil, lay_cons, bump, F_eq, h_eq, upHp, List.length_cons, List.length_nil, get_put, Nat.reduceEqDiff, if_true, if_false, reduceIte, List.getElem?_toArray, List.getElem?_cons_succ, List.getElem?_cons_zero, Option.bind_some, Option.map_some, beq_iff_eq, reduceCtorEq, Bool.not_true, Bool.not_false, beq_self_eq_true, thenQ_normal, thenQ_ret, inQ_ret, inQ_normal, ends_ret, ends_skip, absOp_lenStr h9, absOp_lenRows h46, lenA, absOp_indexAddr, absOp_load, absOp_storeQ, putA_no, idxQ h46 s5, idxIn_eq, loadQ a5 s5, loadIn_eq, storeQ s5, storeIn_eq, orElse_some, orUps_some, orNone_some, hget_self, List.length_set, List.getElem_set_self, List.set_set, u8_add, u8_sub, u8_sub48, u8_add10, u8_sub10, u8_48add, g1, g7, d2]
    refine seq_ifK (t := decide (j ≤ B.length)) (fun st' => ∃ l2 : List UInt8, hget st'.hp 19 = (ss, .arr 1 (strRows l2) 0) ∧ l2.length = l.length ∧ (∀ y, l2.set at_ y = l.set at_ y) ∧ l2[at_]? = some y ∧ st'.fr.get 0 = .s (.str A) ∧ st'.fr.get 1 = .s (.str B) ∧ st'.fr.get 5 = .lsl 19 ss 0 (A.length + 1) (some (A.length + 1)) ∧ st'.fr.get 7 = .s (.int .i64 (j : Int)) ∧ st'.fr.get 8 = .s (.int .i64 (at_ : Int))) (by simp only [F_eq, evA_tmp, get_put, Nat.reduceEqDiff, if_true, if_false, reduceIte]) (fun hc => ?_) (fun hc => ?_) ?_
    · have hc := of_decide_eq_true hc
      obtain ⟨q, hq⟩ : ∃ q : Nat, q = B.length - j := ⟨_, rfl⟩
      have hw2 : IntKind.i64.wrap ((B.length : Int) - (j : Int)) = (q : Int) := by rw [wrap_fits] <;> omega
      have hqb : q < B.length := by omega
      refine region_feet [⟨[19], []⟩, ⟨[], []⟩, ⟨[19], []⟩, ⟨[19], []⟩, ⟨[], []⟩, ⟨[], []⟩, ⟨[], []⟩, ⟨[], []⟩, ⟨[], []⟩, ⟨[], []⟩, ⟨[], []⟩, ⟨[], []⟩, ⟨[19], []⟩, ⟨[19], [19]⟩] (by kernel_rfl) ?_
      simp only [RegT, opA_go, opA_when, guardQ_some, guarded_bool, absOp_assign, absOp_move, absOp_bin, absOp_index, absOp_pick, absOp_max, absOp_min, int2_int, strLen, intA, fastA, h9, intOf, orSlow_some, binA, strA, ariA, evA_const, evA_tmp, ofV, ofC, Option.getD_some, putA_some, Nat.ble, Nat.reduceAdd, cond_true, lay_nil, lay_cons, bump, F_eq, h_eq, upHp, List.length_cons, List.length_nil, get_put, Nat.reduceEqDiff, if_true, if_false, reduceIte, List.getElem?_toArray, List.getElem?_cons_succ, List.getElem?_cons_zero, Option.bind_some, Option.map_some, beq_iff_eq, reduceCtorEq, Bool.not_true, Bool.not_false, beq_self_eq_true, thenQ_normal, thenQ_ret, inQ_ret, inQ_normal, ends_ret, ends_skip, absOp_lenStr h9, absOp_lenRows h46, lenA, absOp_indexAddr, absOp_load, absOp_storeQ, putA_no, idxQ h46 s5, idxIn_eq, loadQ a5 s5, loadIn_eq, storeQ s5, storeIn_eq, orElse_some, orUps_some, orNone_some, hget_self, List.length_set, List.getElem_set_self, List.set_set, u8_add, u8_sub, u8_sub48, u8_add10, u8_sub10, u8_48add, RegF, reach_one, keysB, opKeys_of, Op.operands, Call.operands, List.flatMap_cons, List.flatMap_nil, List.append_nil, List.nil_append, List.cons_append, keysA, keysAs, only_eq, reach_nil, List.contains_cons, List.contains_nil, Bool.or_false, Bool.true_or, beq_self_eq_true, List.map_cons, List.map_nil, true_and, Array.toList_append, g1, g5, g7, hatl, hata, hw2, Int.natCast_nonneg, Int.toNat_natCast, List.getElem?_eq_getElem hqb]
      refine ⟨_, rfl, by simp, fun y => by simp, ?_, (by first | trivial | rfl | assumption), (by first | trivial | rfl | assumption)⟩
      rw [List.getElem?_set_self hatl, hy, if_pos hc, ← hq, List.getD_eq_getElem?_getD, List.getElem?_eq_getElem hqb]
      rfl
    · have hc := of_decide_eq_false hc
      rw [if_neg hc] at hy
      refine ends_skip.2 ?_
      simp only [RegT, opA_go, opA_when, guardQ_some, guarded_bool, absOp_assign, absOp_move, absOp_bin, absOp_index, absOp_pick, absOp_max, absOp_min, int2_int, strLen, intA, fastA, h9, intOf, orSlow_some, binA, strA, ariA, evA_const, evA_tmp, ofV, ofC, Option.getD_some, putA_some, Nat.ble, Nat.reduceAdd, cond_true, lay_nil, lay_cons, bump, F_eq, h_eq, upHp, List.length_cons, List.length_nil, get_put, Nat.reduceEqDiff, if_true, if_false, reduceIte, List.getElem?_toArray, List.getElem?_cons_succ, List.getElem?_cons_zero, Option.bind_some, Option.map_some, beq_iff_eq, reduceCtorEq, Bool.not_true, Bool.not_false, beq_self_eq_true, thenQ_normal, thenQ_ret, inQ_ret, inQ_normal, ends_ret, ends_skip, absOp_lenStr h9, absOp_lenRows h46, lenA, absOp_indexAddr, absOp_load, absOp_storeQ, putA_no, idxQ h46 s5, idxIn_eq, loadQ a5 s5, loadIn_eq, storeQ s5, storeIn_eq, orElse_some, orUps_some, orNone_some, hget_self, List.length_set, List.getElem_set_self, List.set_set, u8_add, u8_sub, u8_sub48, u8_add10, u8_sub10, u8_48add, g0, g1, g5, g7]
      refine ⟨_, rfl, by simp, fun y => by simp, ?_, (by first | trivial | rfl | assumption), (by first | trivial | rfl | assumption), (by first | trivial | rfl | assumption), (by first | trivial | rfl | assumption), (by first | trivial | rfl | assumption)⟩
      rw [List.getElem?_set_self hatl, hy]
    · rintro ⟨fr2, hp2, nx2⟩ ⟨l2, gh2, hl2, hset, hat2, k0, k1, k5, k7, k8⟩
      simp only at gh2 k0 k1 k5 k7 k8
      have hatl2 : at_ < l2.length := by omega
      rw [List.getElem?_eq_getElem hatl2, Option.some.injEq] at hat2
      have d3 : decide ((57 : Int) < (y.toNat : Int)) = decide (57 < y) := lt_u8 (a := 57)
      refine seq_text ?_
      simp only [RegT, opA_go, opA_when, guardQ_some, guarded_bool, absOp_assign, absOp_move, absOp_bin, absOp_index, absOp_pick, absOp_max, absOp_min, int2_int, strLen, intA, fastA, h9, intOf, orSlow_some, binA, strA, ariA, evA_const, evA_tmp, ofV, ofC, Option.getD_some, putA_some, Nat.ble, Nat.reduceAdd, cond_true, lay_nil, lay_cons, bump, F_eq, h_eq, upHp, List.length_cons, List.length_nil, get_put, Nat.reduceEqDiff, if_true, if_false, reduceIte, List.getElem?_toArray, List.getElem?_cons_succ, List.getElem?_cons_zero, Option.bind_some, Option.map_some, beq_iff_eq, reduceCtorEq, Bool.not_true, Bool.not_false, beq_self_eq_true, thenQ_normal, thenQ_ret, inQ_ret, inQ_normal, ends_ret, ends_skip, absOp_lenStr h9, absOp_lenRows h46, lenA, absOp_indexAddr, absOp_load, absOp_storeQ, putA_no, idxQ h46 s5, idxIn_eq, loadQ a5 s5, loadIn_eq, storeQ s5, storeIn_eq, orElse_some, orUps_some, orNone_some, hget_self, List.length_set, List.getElem_set_self, List.set_set, u8_add, u8_sub, u8_sub48, u8_add10, u8_sub10, u8_48add]
      refine seq_text ?_
      simp only [RegT, opA_go, opA_when, guardQ_some, guarded_bool, absOp_assign, absOp_move, absOp_bin, absOp_index, absOp_pick, absOp_max, absOp_min, int2_int, strLen, intA, fastA, h9, intOf, orSlow_some, binA, strA, ariA, evA_const, evA_tmp, ofV, ofC, Option.getD_some, putA_some, Nat.ble, Nat.reduceAdd, cond_true, lay_nil, lay_cons, bump, F_eq, h_eq, upHp, List.length_cons, List.length_nil, get_put, Nat.reduceEqDiff, if_true, if_false, reduceIte, List.getElem?_toArray, List.getElem?_cons_succ, List.getElem?_cons_zero, Option.bind_some, Option.map_some, beq_iff_eq, reduceCtorEq, Bool.not_true, Bool.not_false, beq_self_eq_true, thenQ_normal, thenQ_ret, inQ_ret, inQ_normal, ends_ret, ends_skip, absOp_lenStr h9, absOp_lenRows h46, lenA, absOp_indexAddr, absOp_load, absOp_storeQ, putA_no, idxQ h46 s5, idxIn_eq, loadQ a5 s5, loadIn_eq, storeQ s5, storeIn_eq, orElse_some, orUps_some, orNone_some, hget_self, List.length_set, List.getElem_set_self, List.set_set, u8_add, u8_sub, u8_sub48, u8_add10, u8_sub10, u8_48add, k5, k8, gh2, hatl2, hata, hat2, d3]
      have hst := plusStep_of (b := B) (c := c) (j := j) hat (List.getElem?_eq_getElem hatl) (hx ▸ hy)
      refine end_if (t := decide (57 < y)) (by simp only [F_eq, evA_tmp, get_put, Nat.reduceEqDiff, if_true, if_false, reduceIte]) (fun hc => ?_) (fun hc => ?_)
      · have hc := of_decide_eq_true hc
        simp only [hc, if_true] at hst
        refine seq_text ?_
        simp only [RegT, opA_go, opA_when, guardQ_some, guarded_bool, absOp_assign, absOp_move, absOp_bin, absOp_index, absOp_pick, absOp_max, absOp_min, int2_int, strLen, intA, fastA, h9, intOf, orSlow_some, binA, strA, ariA, evA_const, evA_tmp, ofV, ofC, Option.getD_some, putA_some, Nat.ble, Nat.reduceAdd, cond_true, lay_nil, lay_cons, bump, F_eq, h_eq, upHp, List.length_cons, List.length_nil, get_put, Nat.reduceEqDiff, if_true, if_false, reduceIte, List.getElem?_toArray, List.getElem?_cons_succ, List.getElem?_cons_zero, Option.bind_some, Option.map_some, beq_iff_eq, reduceCtorEq, Bool.not_true, Bool.not_false, beq_self_eq_true, thenQ_normal, thenQ_ret, inQ_ret, inQ_normal, ends_ret, ends_skip, absOp_lenStr h9, absOp_lenRows h46, lenA, absOp_indexAddr, absOp_load, absOp_storeQ, putA_no, idxQ h46 s5, idxIn_eq, loadQ a5 s5, loadIn_eq, storeQ s5, storeIn_eq, orElse_some, orUps_some, orNone_some, hget_self, List.length_set, List.getElem_set_self, List.set_set, u8_add, u8_sub, u8_sub48, u8_add10, u8_sub10, u8_48add, k5, k8, gh2, hatl2, hata, hat2]
        refine region_text.2 ?_
        simp only [RegT, opA_go, opA_when, guardQ_some, guarded_bool, absOp_assign, absOp_move, absOp_bin, absOp_index, absOp_pick, absOp_max, absOp_min, int2_int, strLen, intA, fastA, h9, intOf, orSlow_some, binA, strA, ariA, evA_const, evA_tmp, ofV, ofC, Option.getD_some, putA_some, Nat.ble, Nat.reduceAdd, cond_true, lay_nil, lay_cons, bump, F_eq, h_eq, upHp, List.length_cons, List.length_nil, get_put, Nat.reduceEqDiff, if_true, if_false, reduceIte, List.getElem?_toArray, List.getElem?_cons_succ, List.getElem?_cons_zero, Option.bind_some, Option.map_some, beq_iff_eq, reduceCtorEq, Bool.not_true, Bool.not_false, beq_self_eq_true, thenQ_normal, thenQ_ret, inQ_ret, inQ_normal, ends_ret, ends_skip, absOp_lenStr h9, absOp_lenRows h46, lenA, absOp_indexAddr, absOp_load, absOp_storeQ, putA_no, idxQ h46 s5, idxIn_eq, loadQ a5 s5, loadIn_eq, storeQ s5, storeIn_eq, orElse_some, orUps_some, orNone_some, hget_self, List.length_set, List.getElem_set_self, List.set_set, u8_add, u8_sub, u8_sub48, u8_add10, u8_sub10, u8_48add, k0, k1, k5, k7]
        rw [hset, hrun, hst]
        exact ⟨(by first | trivial | rfl | assumption), (by first | trivial | rfl | assumption), (by first | trivial | rfl | assumption), (by first | trivial | rfl | assumption), (by first | trivial | rfl | assumption), (by first | trivial | rfl | assumption)⟩
      · have hc := of_decide_eq_false hc
        simp only [hc, if_false] at hst
        refine ends_skip.2 ?_
        have e : l2 = l.set at_ y := by
          rw [← hset y]
          exact (List.set_getElem_self hatl2 |>.symm.trans (by rw [hat2]))
        simp only [RegT, opA_go, opA_when, guardQ_some, guarded_bool, absOp_assign, absOp_move, absOp_bin, absOp_index, absOp_pick, absOp_max, absOp_min, int2_int, strLen, intA, fastA, h9, intOf, orSlow_some, binA, strA, ariA, evA_const, evA_tmp, ofV, ofC, Option.getD_some, putA_some, Nat.ble, Nat.reduceAdd, cond_true, lay_nil, lay_cons, bump, F_eq, h_eq, upHp, List.length_cons, List.length_nil, get_put, Nat.reduceEqDiff, if_true, if_false, reduceIte, List.getElem?_toArray, List.getElem?_cons_succ, List.getElem?_cons_zero, Option.bind_some, Option.map_some, beq_iff_eq, reduceCtorEq, Bool.not_true, Bool.not_false, beq_self_eq_true, thenQ_normal, thenQ_ret, inQ_ret, inQ_normal, ends_ret, ends_skip, absOp_lenStr h9, absOp_lenRows h46, lenA, absOp_indexAddr, absOp_load, absOp_storeQ, putA_no, idxQ h46 s5, idxIn_eq, loadQ a5 s5, loadIn_eq, storeQ s5, storeIn_eq, orElse_some, orUps_some, orNone_some, hget_self, List.length_set, List.getElem_set_self, List.set_set, u8_add, u8_sub, u8_sub48, u8_add10, u8_sub10, u8_48add, k0, k1, k5, k7, gh2]
        rw [hrun, hst, e]
        exact ⟨(by first | trivial | rfl | assumption), (by first | trivial | rfl | assumption), (by first | trivial | rfl | assumption), (by first | trivial | rfl | assumption), (by first | trivial | rfl | assumption), (by first | trivial | rfl | assumption)⟩
  · have d1 : decide ((j : Int) ≤ (A.length : Int)) = false := by simp; omega
    simp only [RegT, opA_go, opA_when, guardQ_some, guarded_bool, absOp_assign, absOp_move, absOp_bin, absOp_index, absOp_pick, absOp_max, absOp_min, int2_int, strLen, intA, fastA, h9, intOf, orSlow_some, binA, strA, ariA, evA_const, evA_tmp, ofV, ofC, Option.getD_some, putA_some, Nat.ble, Nat.reduceAdd, cond_true, lay_nil, lay_cons, bump, F_eq, h_eq, upHp, List.length_cons, List.length_nil, get_put, Nat.reduceEqDiff, if_true, if_false, reduceIte, List.getElem?_toArray, List.getElem?_cons_succ, List.getElem?_cons_zero, Option.bind_some, Option.map_some, beq_iff_eq, reduceCtorEq, Bool.not_true, Bool.not_false, beq_self_eq_true, thenQ_normal, thenQ_ret, inQ_ret, inQ_normal, ends_ret, ends_skip, absOp_lenStr h9, absOp_lenRows h46, lenA, absOp_indexAddr, absOp_load, absOp_storeQ, putA_no, idxQ h46 s5, idxIn_eq, loadQ a5 s5, loadIn_eq, storeQ s5, storeIn_eq, orElse_some, orUps_some, orNone_some, hget_self, List.length_set, List.getElem_set_self, List.set_set, u8_add, u8_sub, u8_sub48, u8_add10, u8_sub10, u8_48add, g0, g7, d1]
    refine seq_if (t := false) (by simp only [F_eq, evA_tmp, get_put, Nat.reduceEqDiff, if_true, if_false, reduceIte]) (fun hc => (by cases hc)) (fun _ => ?_)
    rw [ends_exit, thenQ_exit, thenQ_exit]
    simp only [inQ_exit, if_true, reduceIte, thenQ_normal]
    have hl0 : 0 < l.length := by omega
    refine seq_text ?_
    simp only [RegT, opA_go, opA_when, guardQ_some, guarded_bool, absOp_assign, absOp_move, absOp_bin, absOp_index, absOp_pick, absOp_max, absOp_min, int2_int, strLen, intA, fastA, h9, intOf, orSlow_some, binA, strA, ariA, evA_const, evA_tmp, ofV, ofC, Option.getD_some, putA_some, Nat.ble, Nat.reduceAdd, cond_true, lay_nil, lay_cons, bump, F_eq, h_eq, upHp, List.length_cons, List.length_nil, get_put, Nat.reduceEqDiff, if_true, if_false, reduceIte, List.getElem?_toArray, List.getElem?_cons_succ, List.getElem?_cons_zero, Option.bind_some, Option.map_some, beq_iff_eq, reduceCtorEq, Bool.not_true, Bool.not_false, beq_self_eq_true, thenQ_normal, thenQ_ret, inQ_ret, inQ_normal, ends_ret, ends_skip, absOp_lenStr h9, absOp_lenRows h46, lenA, absOp_indexAddr, absOp_load, absOp_storeQ, putA_no, idxQ h46 s5, idxIn_eq, loadQ a5 s5, loadIn_eq, storeQ s5, storeIn_eq, orElse_some, orUps_some, orNone_some, hget_self, List.length_set, List.getElem_set_self, List.set_set, u8_add, u8_sub, u8_sub48, u8_add10, u8_sub10, u8_48add, g5, gh, g6, hl0, idxQ0 h46 s5, Nat.zero_lt_succ, Nat.lt_add_left_iff_pos]
    refine seq_text ?_
    have hq := hc (l.set 0 (l[0] + c)) (by simp; omega)
    simp only [RegT, opA_go, opA_when, guardQ_some, guarded_bool, absOp_assign, absOp_move, absOp_bin, absOp_index, absOp_pick, absOp_max, absOp_min, int2_int, strLen, intA, fastA, h9, intOf, orSlow_some, binA, strA, ariA, evA_const, evA_tmp, ofV, ofC, Option.getD_some, putA_some, Nat.ble, Nat.reduceAdd, cond_true, lay_nil, lay_cons, bump, F_eq, h_eq, upHp, List.length_cons, List.length_nil, get_put, Nat.reduceEqDiff, if_true, if_false, reduceIte, List.getElem?_toArray, List.getElem?_cons_succ, List.getElem?_cons_zero, Option.bind_some, Option.map_some, beq_iff_eq, reduceCtorEq, Bool.not_true, Bool.not_false, beq_self_eq_true, thenQ_normal, thenQ_ret, inQ_ret, inQ_normal, ends_ret, ends_skip, absOp_lenStr h9, absOp_lenRows h46, lenA, absOp_indexAddr, absOp_load, absOp_storeQ, putA_no, idxQ h46 s5, idxIn_eq, loadQ a5 s5, loadIn_eq, storeQ s5, storeIn_eq, orElse_some, orUps_some, orNone_some, hget_self, List.length_set, List.getElem_set_self, List.set_set, u8_add, u8_sub, u8_sub48, u8_add10, u8_sub10, u8_48add, op40 (cap := some (A.length + 1)) hE hlend hq hget_self, g5, hlen]
    refine ⟨.inr trivial, fin _ ?_⟩
    rw [hdone (by omega)]
    simp only [plusEnd, List.getD_eq_getElem?_getD, List.getElem?_eq_getElem hl0, Option.getD_some]
    simp only [get_put, Nat.reduceEqDiff, if_true, if_false, reduceIte]
end Go.Proofs.Ytbfdokfelolmbaa.TensW
end

section
open Go.Proofs.Ytbfdokfelolmbaa.Vai
namespace Go.Proofs.Ytbfdokfelolmbaa.TensW
set_option maxRecDepth 10000
set_option linter.unusedSimpArgs false

theorem absOp_eqBool {E : Env} (hE : E.P = Try.prog) {ρ : Operand → AV} {h : HR} {k s : Nat} {d : Option Tmp} {ty t' : TypeId} {pos : String} {af : Array Edge} {g : Option (Nat × Bool)} {x y : Operand} {a b : Bool} (hx : ρ x = .s (.bool a)) (hy : ρ y = .s (.bool b)) :
    slowOp E ρ h k s ⟨d, .binOp .eql 4 x y t', ty, pos, af, g⟩ = some (.s (.bool (a == b)), []) := by
  have he : eqNilA E.P .eql 4 (.s (.bool a)) (.s (.bool b)) = none := by
    unfold eqNilA
    rw [hE]
    cases Try.prog.underlying 4 with
    | none => rfl
    | some d => cases d <;> rfl
  unfold slowOp
  simp only [hx, hy, he]
  unfold flatA
  rw [hE]
  simp only [Op.operands, List.all_cons, List.all_nil, hx, hy, toV, toS, Option.isSome_some, Bool.and_self, if_true, execOp, Option.getD_some]
  simp only [eqGuard, Go.binOp]
  cases a <;> cases b <;> rfl
theorem op29 {E : Env} {ok : List UInt8 → List UInt8 → Prop} {r : List UInt8 → List UInt8 → AV} (hE : E.P = Try.prog) (hl : E.lend 29 = false) (hc : ∀ l m, ok l m → E.call 29 [.s (.str l), .s (.str m)] [] = some (r l m, [])) (hr : ∀ l m, renA [] (r l m) = r l m) {F : Nat → AV} {h : HR} {k s : Nat} {d : Option Tmp} {ty : TypeId} {pos : String} {af : Array Edge} {x y : Operand} {ts : Array TypeId} {gd : Option (Nat × Bool)}
    (hx : isStr (evA E.glob F x) = true) (hy : isStr (evA E.glob F y) = true) (ho : ok (strOf (evA E.glob F x)) (strOf (evA E.glob F y))) : absOp E (evA E.glob F) h k s ⟨d, .call { callee := .value (.func 29), args := #[x, y], argTypes := ts }, ty, pos, af, gd⟩ = some (r (strOf (evA E.glob F x)) (strOf (evA E.glob F y)), []) :=
  absOp_func2 (by rw [hE]; unfold bodied; rw [Try.func29]; rfl) hl hc hr rfl hx hy ho
theorem op31 {E : Env} {ok : List UInt8 → List UInt8 → Prop} {r : List UInt8 → List UInt8 → AV} (hE : E.P = Try.prog) (hl : E.lend 31 = false) (hc : ∀ l m, ok l m → E.call 31 [.s (.str l), .s (.str m)] [] = some (r l m, [])) (hr : ∀ l m, renA [] (r l m) = r l m) {F : Nat → AV} {h : HR} {k s : Nat} {d : Option Tmp} {ty : TypeId} {pos : String} {af : Array Edge} {x y : Operand} {ts : Array TypeId} {gd : Option (Nat × Bool)}
    (hx : isStr (evA E.glob F x) = true) (hy : isStr (evA E.glob F y) = true) (ho : ok (strOf (evA E.glob F x)) (strOf (evA E.glob F y))) : absOp E (evA E.glob F) h k s ⟨d, .call { callee := .value (.func 31), args := #[x, y], argTypes := ts }, ty, pos, af, gd⟩ = some (r (strOf (evA E.glob F x)) (strOf (evA E.glob F y)), []) :=
  absOp_func2 (by rw [hE]; unfold bodied; rw [Try.func31]; rfl) hl hc hr rfl hx hy ho

theorem op28 {E : Env} (hE : E.P = Try.prog) (hl : E.lend 28 = false) (hc : ∀ t l, Small l → E.call 28 [.s (.bool t), .s (.str l)] [] = some (.s (.str (signedL t l)), [])) {F : Nat → AV} {h : HR} {k s : Nat} {d : Option Tmp} {ty : TypeId} {pos : String} {af : Array Edge} {x y : Operand} {ts : Array TypeId} {gd : Option (Nat × Bool)} {t : Bool} {l : List UInt8} (ho : Small l)
    (hx : evA E.glob F x = .s (.bool t)) (hy : evA E.glob F y = .s (.str l)) : absOp E (evA E.glob F) h k s ⟨d, .call { callee := .value (.func 28), args := #[x, y], argTypes := ts }, ty, pos, af, gd⟩ = some (.s (.str (signedL t l)), []) := by
  have hm : (#[x, y] : Array Operand).toList.map (evA E.glob F) = [.s (.bool t), .s (.str l)] := by simp [hx, hy]
  rw [absOp_func (g := 28) (r := .s (.str (signedL t l))) rfl (by rw [hE]; unfold bodied; rw [Try.func28]; rfl) hl (by rw [hm]; rfl) (by rw [hm]; exact hc t l ho)]
  rfl

def Fits (l : List UInt8) : Prop := l ≠ [] ∧ l.length < 35184372088832
structure Sums (E : Env) : Prop where
  plus : ∀ a b, Fits a ∧ Fits b → E.call 29 [.s (.str a), .s (.str b)] [] = some (.s (.str (plusL a b)), [])
  minus : ∀ a b, Fits a ∧ Fits b → E.call 31 [.s (.str a), .s (.str b)] [] = some (.s (.str (minusL a b)), [])
  signed : ∀ t l, Small l → E.call 28 [.s (.bool t), .s (.str l)] [] = some (.s (.str (signedL t l)), [])
  lend28 : E.lend 28 = false
  lend29 : E.lend 29 = false
  lend31 : E.lend 31 = false

def addL (a b : List UInt8) : List UInt8 :=
  if negL a == negL b then signedL (negL a) (plusL (digL a) (digL b))
  else if sizeL (digL a) (digL b) < 0 then signedL (negL b) (minusL (digL b) (digL a))
  else signedL (negL a) (minusL (digL a) (digL b))

theorem textL_le : ∀ {l : List UInt8}, (textL l).length ≤ l.length := by
  intro l
  fun_induction textL l with
  | case1 b r ih => simp only [List.length_cons] at *; omega
  | case2 l h => exact Nat.le_refl _
theorem minusL_le {a b : List UInt8} : (minusL a b).length ≤ a.length := by
  refine Nat.le_trans textL_le ?_
  rw [minusRun_length]; exact Nat.le_refl _
theorem plusL_le {a b : List UInt8} : (plusL a b).length ≤ max a.length b.length + 1 := by
  have h : ∀ a b : List UInt8, (plus0 a b).length ≤ a.length + 1 := fun a b => by
    refine Nat.le_trans textL_le ?_
    simp only [plusEnd, List.length_set, plusRun_length]; exact Nat.le_refl _
  unfold plusL
  split
  · have := h b a; omega
  · have := h a b; omega

theorem add_good (E : Env) (hE : E.P = Try.prog) (K : Knows E) (K2 : Sums E) (hraw : E.raw 15 = false) (n : Nat) (a b : List UInt8) (ha : a.length < 35184372088832) (hb : b.length < 35184372088832) (hfa : formedL a = true) (hfb : formedL b = true) (hda : digL a ≠ []) (hdb : digL b ≠ []) : absBody E n 15 Try.f15 [.s (.str a), .s (.str b)] [] = some (.tup [.s (.str (addL a b)), .s (.int .i64 0)], []) := by
  have h9 := hE9 hE
  have q12 := @op12 E Small (fun l => .s (.bool (formedL l))) hE K.lend12 K.formed (fun _ => rfl)
  have q27 := @op27 E (fun l => l ≠ []) (fun l => .tup [.s (.bool (negL l)), .s (.str (digL l))]) hE K.lend27 K.split (fun _ => rfl)
  have q30 := @op30 E (fun l m => Small l ∧ Small m) (fun l m => .s (.int .i64 (sizeL l m))) hE K.lend30 K.size (fun _ _ => rfl)
  have q29 := @op29 E (fun l m => Fits l ∧ Fits m) (fun l m => .s (.str (plusL l m))) hE K2.lend29 K2.plus (fun _ _ => rfl)
  have q31 := @op31 E (fun l m => Fits l ∧ Fits m) (fun l m => .s (.str (minusL l m))) hE K2.lend31 K2.minus (fun _ _ => rfl)
  have na := formed_ne hfa
  have nb := formed_ne hfb
  have sa : Small a := by unfold Small; omega
  have sb : Small b := by unfold Small; omega
  have da := dig_small sa
  have db := dig_small sb
  have dl : ∀ l : List UInt8, (digL l).length ≤ l.length := fun l => by
    unfold digL; split
    · split <;> simp
    · exact Nat.le_refl _
  have la := dl a
  have lb := dl b
  have fa : Fits (digL a) := ⟨hda, by omega⟩
  have fb : Fits (digL b) := ⟨hdb, by omega⟩
  have sp : Small (plusL (digL a) (digL b)) := by have := plusL_le (a := digL a) (b := digL b); unfold Small; omega
  have sm1 : Small (minusL (digL a) (digL b)) := by have := minusL_le (a := digL a) (b := digL b); unfold Small; omega
  have sm2 : Small (minusL (digL b) (digL a)) := by have := minusL_le (a := digL b) (b := digL a); unfold Small; omega
  have fin : ∀ (st : St) (r : List UInt8), r = addL a b → st.fr.get 4 = .s (.str r) → st.fr.get 5 = .s (.int .i64 0) → finish E 15 0 Try.f15 st = some (.tup [.s (.str (addL a b)), .s (.int .i64 0)], []) := by
    intro st r h3 h1 h2
    refine finish_sealed (l := [.s (.str (addL a b)), .s (.int .i64 0)]) ?_ hraw rfl |>.trans rfl
    simp [Try.f15, resultA, resultA.go, h1, h2, h3]
  refine body_ends rfl (by simp [Try.ntmps15]) rfl ?_
  rw [Try.ntmps15]
  refine seq_text ?_
  simp only [RegT, opA_go, opA_when, guardQ_some, guarded_bool, absOp_assign, absOp_move, absOp_bin, absOp_index, absOp_pick, absOp_lenStr h9, absOp_max, absOp_min, int2_int, strLen, intA, fastA, h9, intOf, orSlow_some, binA, strA, ariA, evA_const, evA_tmp, ofV, ofC, Option.getD_some, putA_some, Nat.ble, Nat.reduceAdd, cond_true, lay_nil, lay_cons, bump, F_eq, h_eq, upHp, List.length_cons, List.length_nil, get_put, Nat.reduceEqDiff, if_true, if_false, reduceIte, List.getElem?_toArray, List.getElem?_cons_succ, List.getElem?_cons_zero, Option.bind_some, Option.map_some, beq_iff_eq, reduceCtorEq, Bool.not_true, Bool.not_false, beq_self_eq_true, thenQ_normal, thenQ_ret, inQ_ret, inQ_normal, ends_ret, ends_skip]
  refine seq_seq.2 (seq_text ?_)
  simp only [RegT, opA_go, opA_when, guardQ_some, guarded_bool, absOp_assign, absOp_move, absOp_bin, absOp_index, absOp_pick, absOp_lenStr h9, absOp_max, absOp_min, int2_int, strLen, intA, fastA, h9, intOf, orSlow_some, binA, strA, ariA, evA_const, evA_tmp, ofV, ofC, Option.getD_some, putA_some, Nat.ble, Nat.reduceAdd, cond_true, lay_nil, lay_cons, bump, F_eq, h_eq, upHp, List.length_cons, List.length_nil, get_put, Nat.reduceEqDiff, if_true, if_false, reduceIte, List.getElem?_toArray, List.getElem?_cons_succ, List.getElem?_cons_zero, Option.bind_some, Option.map_some, beq_iff_eq, reduceCtorEq, Bool.not_true, Bool.not_false, beq_self_eq_true, thenQ_normal, thenQ_ret, inQ_ret, inQ_normal, ends_ret, ends_skip, q12, sa, sb, hfa, hfb, isStr_str, strOf_str, extract2, absOp_extract, absOp_un, and_self]
  refine (seq_if (t := false) (by simp only [F_eq, evA_tmp, get_put, Nat.reduceEqDiff, if_true, if_false, reduceIte]) (fun hc => (by cases hc)) (fun _ => ?_))
  rw [ends_skip, thenQ_normal]
  refine seq_text ?_
  simp only [RegT, opA_go, opA_when, guardQ_some, guarded_bool, absOp_assign, absOp_move, absOp_bin, absOp_index, absOp_pick, absOp_lenStr h9, absOp_max, absOp_min, int2_int, strLen, intA, fastA, h9, intOf, orSlow_some, binA, strA, ariA, evA_const, evA_tmp, ofV, ofC, Option.getD_some, putA_some, Nat.ble, Nat.reduceAdd, cond_true, lay_nil, lay_cons, bump, F_eq, h_eq, upHp, List.length_cons, List.length_nil, get_put, Nat.reduceEqDiff, if_true, if_false, reduceIte, List.getElem?_toArray, List.getElem?_cons_succ, List.getElem?_cons_zero, Option.bind_some, Option.map_some, beq_iff_eq, reduceCtorEq, Bool.not_true, Bool.not_false, beq_self_eq_true, thenQ_normal, thenQ_ret, inQ_ret, inQ_normal, ends_ret, ends_skip, q27, na, nb, ne_eq, not_false_eq_true, isStr_str, strOf_str, extract2, absOp_extract, absOp_un, and_self]
  refine seq_text ?_
  simp only [RegT, opA_go, opA_when, guardQ_some, guarded_bool, absOp_assign, absOp_move, absOp_bin, absOp_index, absOp_pick, absOp_lenStr h9, absOp_max, absOp_min, int2_int, strLen, intA, fastA, h9, intOf, orSlow_some, binA, strA, ariA, evA_const, evA_tmp, ofV, ofC, Option.getD_some, putA_some, Nat.ble, Nat.reduceAdd, cond_true, lay_nil, lay_cons, bump, F_eq, h_eq, upHp, List.length_cons, List.length_nil, get_put, Nat.reduceEqDiff, if_true, if_false, reduceIte, List.getElem?_toArray, List.getElem?_cons_succ, List.getElem?_cons_zero, Option.bind_some, Option.map_some, beq_iff_eq, reduceCtorEq, Bool.not_true, Bool.not_false, beq_self_eq_true, thenQ_normal, thenQ_ret, inQ_ret, inQ_normal, ends_ret, ends_skip, q27, na, nb, ne_eq, not_false_eq_true, isStr_str, strOf_str, extract2, absOp_extract, absOp_un, and_self]
  refine ends_seq.2 (ends_block.2 ?_)
  refine seq_text ?_
  simp only [RegT, opA_go, opA_when, guardQ_some, guarded_bool, absOp_assign, absOp_move, absOp_bin, absOp_index, absOp_pick, absOp_lenStr h9, absOp_max, absOp_min, int2_int, strLen, intA, fastA, h9, intOf, orSlow_some, binA, strA, ariA, evA_const, evA_tmp, ofV, ofC, Option.getD_some, putA_some, Nat.ble, Nat.reduceAdd, cond_true, lay_nil, lay_cons, bump, F_eq, h_eq, upHp, List.length_cons, List.length_nil, get_put, Nat.reduceEqDiff, if_true, if_false, reduceIte, List.getElem?_toArray, List.getElem?_cons_succ, List.getElem?_cons_zero, Option.bind_some, Option.map_some, beq_iff_eq, reduceCtorEq, Bool.not_true, Bool.not_false, beq_self_eq_true, thenQ_normal, thenQ_ret, inQ_ret, inQ_normal, ends_ret, ends_skip, orSlow_none, absOp_eqBool (a := negL a) (b := negL b) hE]
  refine end_if (t := negL a == negL b) (by simp only [F_eq, evA_tmp, get_put, Nat.reduceEqDiff, if_true, if_false, reduceIte]) (fun hc => ?_) (fun hc => ?_)
  · refine seq_text ?_
    simp only [RegT, opA_go, opA_when, guardQ_some, guarded_bool, absOp_assign, absOp_move, absOp_bin, absOp_index, absOp_pick, absOp_lenStr h9, absOp_max, absOp_min, int2_int, strLen, intA, fastA, h9, intOf, orSlow_some, binA, strA, ariA, evA_const, evA_tmp, ofV, ofC, Option.getD_some, putA_some, Nat.ble, Nat.reduceAdd, cond_true, lay_nil, lay_cons, bump, F_eq, h_eq, upHp, List.length_cons, List.length_nil, get_put, Nat.reduceEqDiff, if_true, if_false, reduceIte, List.getElem?_toArray, List.getElem?_cons_succ, List.getElem?_cons_zero, Option.bind_some, Option.map_some, beq_iff_eq, reduceCtorEq, Bool.not_true, Bool.not_false, beq_self_eq_true, thenQ_normal, thenQ_ret, inQ_ret, inQ_normal, ends_ret, ends_skip, q29, fa, fb, op28 (t := negL a) (l := plusL (digL a) (digL b)) hE K2.lend28 K2.signed sp, isStr_str, strOf_str, extract2, absOp_extract, absOp_un, and_self]
    exact ⟨.inr trivial, fin _ (signedL (negL a) (plusL (digL a) (digL b))) (by simp only [addL, hc, if_true]) (by simp only [get_put, Nat.reduceEqDiff, if_true, if_false, reduceIte]) (by simp only [get_put, Nat.reduceEqDiff, if_true, if_false, reduceIte])⟩
  · refine seq_text ?_
    simp only [RegT, opA_go, opA_when, guardQ_some, guarded_bool, absOp_assign, absOp_move, absOp_bin, absOp_index, absOp_pick, absOp_lenStr h9, absOp_max, absOp_min, int2_int, strLen, intA, fastA, h9, intOf, orSlow_some, binA, strA, ariA, evA_const, evA_tmp, ofV, ofC, Option.getD_some, putA_some, Nat.ble, Nat.reduceAdd, cond_true, lay_nil, lay_cons, bump, F_eq, h_eq, upHp, List.length_cons, List.length_nil, get_put, Nat.reduceEqDiff, if_true, if_false, reduceIte, List.getElem?_toArray, List.getElem?_cons_succ, List.getElem?_cons_zero, Option.bind_some, Option.map_some, beq_iff_eq, reduceCtorEq, Bool.not_true, Bool.not_false, beq_self_eq_true, thenQ_normal, thenQ_ret, inQ_ret, inQ_normal, ends_ret, ends_skip, q30, da, db, isStr_str, strOf_str, extract2, absOp_extract, absOp_un, and_self]
    refine end_if (t := decide (sizeL (digL a) (digL b) < 0)) (by simp only [F_eq, evA_tmp, get_put, Nat.reduceEqDiff, if_true, if_false, reduceIte]) (fun hd => ?_) (fun hd => ?_)
    · have hd := of_decide_eq_true hd
      refine seq_text ?_
      simp only [RegT, opA_go, opA_when, guardQ_some, guarded_bool, absOp_assign, absOp_move, absOp_bin, absOp_index, absOp_pick, absOp_lenStr h9, absOp_max, absOp_min, int2_int, strLen, intA, fastA, h9, intOf, orSlow_some, binA, strA, ariA, evA_const, evA_tmp, ofV, ofC, Option.getD_some, putA_some, Nat.ble, Nat.reduceAdd, cond_true, lay_nil, lay_cons, bump, F_eq, h_eq, upHp, List.length_cons, List.length_nil, get_put, Nat.reduceEqDiff, if_true, if_false, reduceIte, List.getElem?_toArray, List.getElem?_cons_succ, List.getElem?_cons_zero, Option.bind_some, Option.map_some, beq_iff_eq, reduceCtorEq, Bool.not_true, Bool.not_false, beq_self_eq_true, thenQ_normal, thenQ_ret, inQ_ret, inQ_normal, ends_ret, ends_skip, q31, fa, fb, op28 (t := negL b) (l := minusL (digL b) (digL a)) hE K2.lend28 K2.signed sm2, isStr_str, strOf_str, extract2, absOp_extract, absOp_un, and_self]
      exact ⟨.inr trivial, fin _ (signedL (negL b) (minusL (digL b) (digL a))) (by simp only [addL, hc, hd, Bool.false_eq_true, if_false, if_true]) (by simp only [get_put, Nat.reduceEqDiff, if_true, if_false, reduceIte]) (by simp only [get_put, Nat.reduceEqDiff, if_true, if_false, reduceIte])⟩
    · have hd := of_decide_eq_false hd
      rw [ends_skip, inQ_normal, thenQ_normal]
      refine seq_text ?_
      simp only [RegT, opA_go, opA_when, guardQ_some, guarded_bool, absOp_assign, absOp_move, absOp_bin, absOp_index, absOp_pick, absOp_lenStr h9, absOp_max, absOp_min, int2_int, strLen, intA, fastA, h9, intOf, orSlow_some, binA, strA, ariA, evA_const, evA_tmp, ofV, ofC, Option.getD_some, putA_some, Nat.ble, Nat.reduceAdd, cond_true, lay_nil, lay_cons, bump, F_eq, h_eq, upHp, List.length_cons, List.length_nil, get_put, Nat.reduceEqDiff, if_true, if_false, reduceIte, List.getElem?_toArray, List.getElem?_cons_succ, List.getElem?_cons_zero, Option.bind_some, Option.map_some, beq_iff_eq, reduceCtorEq, Bool.not_true, Bool.not_false, beq_self_eq_true, thenQ_normal, thenQ_ret, inQ_ret, inQ_normal, ends_ret, ends_skip, q31, fa, fb, op28 (t := negL a) (l := minusL (digL a) (digL b)) hE K2.lend28 K2.signed sm1, isStr_str, strOf_str, extract2, absOp_extract, absOp_un, and_self]
      exact ⟨.inr trivial, fin _ (signedL (negL a) (minusL (digL a) (digL b))) (by simp only [addL, hc, hd, Bool.false_eq_true, if_false]) (by simp only [get_put, Nat.reduceEqDiff, if_true, if_false, reduceIte]) (by simp only [get_put, Nat.reduceEqDiff, if_true, if_false, reduceIte])⟩
end Go.Proofs.Ytbfdokfelolmbaa.TensW
end
