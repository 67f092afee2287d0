import Derived.RangeFuncNested
import Derived.RangeFuncBound
import Derived.RangeFuncCalls
import Derived.RangeFuncLeaves
import Derived.Shelf.Abstract
import Derived.Shelf.RegionOpen
import Derived.WalkKit
import Derived.OwnWalkIn
import Derived.TacticsInMore
import Derived.LoopNIn
import Derived.LoopIn
import Derived.Test.YtbfdokfelolmbaaCa
/-
  The iterator's contract.
-/
set_option linter.all false
section
open Go.RowKit Go.Shelf
open Go.Proofs.Ytbfdokfelolmbaa.Vai (CallSpec)
namespace Go.Proofs.Ytbfdokfelolmbaa.TensW
attribute [local go_sem] Oper.semAt_some
set_option linter.unusedSimpArgs false
set_option linter.unusedVariables false

/-! How long the numbers on the way are. -/
theorem len_num {x : List UInt8} {K : Nat} (hx : formedL x = true) (hK : 1 ≤ K) (h : (num x).natAbs < 10 ^ K) : x.length ≤ K + 1 := by
  obtain ⟨c1, c2⟩ := formed_split hx
  have h1 : (num x).natAbs = val (digL x) := by unfold num; split <;> omega
  have h2 : (digL x).length ≤ K := by
    rcases Nat.lt_or_ge K (digL x).length with h3 | h3
    · have h4 := val_top c1 (by omega)
      have h5 : 10 ^ K ≤ 10 ^ ((digL x).length - 1) := Nat.pow_le_pow_right (by omega) (by omega)
      omega
    · exact h3
  have h3 : x.length ≤ (digL x).length + 1 := by
    rw [c2]
    have := (neg_signed (p := negL x) c1).2
    rw [this]
    unfold signedL
    split <;> simp
  omega
theorem num_lt {x : List UInt8} (hx : formedL x = true) : (num x).natAbs < 10 ^ x.length := by
  obtain ⟨c1, c2⟩ := formed_split hx
  have h1 : (num x).natAbs = val (digL x) := by unfold num; split <;> omega
  have h2 : val (digL x) < 10 ^ (digL x).length := V_lt (pl_lt (D_tens c1.all)) _
  have h3 : (digL x).length ≤ x.length := by
    have : x.length = (signedL (negL x) (digL x)).length := congrArg _ c2
    rw [this]
    unfold signedL
    split <;> simp
  have h4 : 10 ^ (digL x).length ≤ 10 ^ x.length := Nat.pow_le_pow_right (by omega) h3
  omega

/-- A number on the way from a to e by s. -/
structure Way (N : Nat) (a e s x : List UInt8) : Prop where
  form : formedL x = true
  near : (num x).natAbs ≤ (num a).natAbs + (num e).natAbs + (num s).natAbs
theorem Way.start {N : Nat} {a e s : List UInt8} (h : formedL a = true) : Way N a e s a := ⟨h, by omega⟩
theorem Way.next {N : Nat} {a e s x : List UInt8} (h : Way N a e s x) (he : formedL e = true) (hs : formedL s = true) (h0 : s ≠ [48]) (hst : stopL s (cmpL x e) = false) : Way N a e s (addL x s) := by
  have h1 := num_step hs h0
  have h2 := add_num h.form hs
  have h3 := cmp_num h.form he
  have h4 := h.near
  refine ⟨(add_read h.form hs).1, ?_⟩
  unfold stopL at hst
  by_cases hn : negL s = true
  · rw [if_pos hn] at h1 hst
    have h6 := h3.2 (by simpa using hst)
    omega
  · rw [if_neg hn] at h1 hst
    have h6 := h3.1 (by simpa using hst)
    omega
theorem Way.len {N : Nat} {a e s x : List UInt8} (h : Way N a e s x) (ha : formedL a = true) (he : formedL e = true) (hs : formedL s = true) (la : a.length ≤ N) (le : e.length ≤ N) (ls : s.length ≤ N) : x.length ≤ N + 2 := by
  refine len_num h.form (K := N + 1) (by omega) ?_
  have h1 := num_lt ha
  have h2 := num_lt he
  have h3 := num_lt hs
  have h4 := h.near
  have p : ∀ {k}, k ≤ N → 10 ^ k ≤ 10 ^ N := fun hk => Nat.pow_le_pow_right (by omega) hk
  have p1 := p la
  have p2 := p le
  have p3 := p ls
  rw [Nat.pow_succ]; omega

theorem Full.unique {e s x : List UInt8} {r r' : List (List UInt8)} (h : Full e s x r) (h' : Full e s x r') : r = r' := by
  induction h generalizing r' with
  | stop h => cases h' with
    | stop _ => rfl
    | go h2 _ => rw [h] at h2; cases h2
  | go h _ ih => cases h' with
    | stop h2 => rw [h] at h2; cases h2
    | go _ hr => rw [ih hr]
open Classical in
noncomputable def leftF (e s : List UInt8) (v : Value) : Nat :=
  if h : ∃ r : List UInt8 × List (List UInt8), v = strV r.1 ∧ Full e s r.1 r.2 then (Classical.choose h).2.length else 0
theorem leftF_eq {e s x : List UInt8} {r : List (List UInt8)} (h : Full e s x r) : leftF e s (strV x) = r.length := by
  have hex : ∃ r : List UInt8 × List (List UInt8), strV x = strV r.1 ∧ Full e s r.1 r.2 := ⟨(x, r), rfl, h⟩
  unfold leftF
  rw [dif_pos hex]
  obtain ⟨e1, hl⟩ := Classical.choose_spec hex
  generalize Classical.choose hex = q at e1 hl
  have e' : x = q.1 := by
    simp only [strV, Value.string.injEq, ByteArray.mk.injEq, Array.mk.injEq] at e1
    exact e1
  rw [← e'] at hl
  rw [hl.unique h]

set_option maxRecDepth 100000 in
set_option maxHeartbeats 1000000 in
theorem iter_in (n : Nat) (l : Nat) (b1 b2 b3 n₀ : Nat) (a e s : List UInt8) (xs : List (List UInt8)) (N : Nat) (hN : N < 17592186044416)
    (ha : formedL a = true) (he : formedL e = true) (hs : formedL s = true) (h0s : s ≠ [48]) (la : a.length ≤ N) (le : e.length ≤ N) (ls : s.length ≤ N) (hfull : Full e s a xs)
    (J Jx : List (List UInt8) → World → Prop) (hn : 1 ≤ n)
    (hJ : ∀ pre W W', J pre W → Below W.heap.size W W' → J pre W')
    (hY : ∀ pre x W, J pre W → pre.length < xs.length → YieldAt Fence.wide (n - 1) Try.prog l #[strV x] W fun e W' =>
      (e = .returned (.bool true) ∧ J (pre ++ [x]) W' ∧ Below n₀ W W') ∨ (e = .returned (.bool false) ∧ Jx (pre ++ [x]) W'))
    (W : World) (hl1 : b1 < n₀) (hl2 : b2 < n₀) (hl3 : b3 < n₀) (hW : n₀ ≤ W.heap.size) (hb1 : W.cell? ⟨b1, 0, none⟩ = some (strV s)) (hb2 : W.cell? ⟨b2, 0, none⟩ = some (strV a)) (hb3 : W.cell? ⟨b3, 0, none⟩ = some (strV e)) (h0 : J [] W) :
    CallsIn Fence.wide n Try.prog 14 #[.func (.yield l) #[] #[], .pointer (some ⟨b1, 0, none⟩), .pointer (some ⟨b2, 0, none⟩), .pointer (some ⟨b3, 0, none⟩)] W fun e W' => (∃ v, e = .returned v) ∧
      ((∃ ys, ys = xs ∧ J ys W') ∨ (∃ pre, pre <+: xs ∧ Jx pre W')) := by
  refine callsIn_of_wp Try.func14 rfl trivial ?_ rfl
  simp only [Try.ntmps14, List.size_toArray, List.length_cons, List.length_nil, Nat.reduceAdd, Nat.reduceSub, Array.replicate_succ, Array.replicate_zero, List.push_toArray, List.append_toArray, List.nil_append, List.cons_append]
  have hs0 : 0 < s.length := List.length_pos_iff.2 (by rintro rfl; cases hs)
  have hup : ∀ (h : 0 < (⟨⟨s⟩⟩ : ByteArray).size), ((((⟨⟨s⟩⟩ : ByteArray)[0]'h).toNat : Int) != 45) = !negL s := by
    intro h
    cases s with
    | nil => cases hs0
    | cons c r =>
      show (((c.toNat : Int) != 45)) = !negL (c :: r)
      have : ((c.toNat : Int) == 45) = decide (c = 45) := by
        apply Bool.eq_iff_iff.2
        simp only [beq_iff_eq, decide_eq_true_eq]
        constructor
        · intro h; exact UInt8.toNat_inj.1 (by simpa using (by omega : c.toNat = 45))
        · rintro rfl; rfl
      simp only [bne, this, negL]
  gi_wp2
  gi_loopw [6] (fun p wr => ∃ (pre rest : List (List UInt8)) (x : List UInt8), p = strV x ∧ xs = pre ++ rest ∧ Full e s x rest ∧ Way N a e s x ∧ J pre wr ∧ n₀ ≤ wr.heap.size ∧ wr.cell? ⟨b1, 0, none⟩ = some (strV s) ∧ wr.cell? ⟨b2, 0, none⟩ = some (strV a) ∧ wr.cell? ⟨b3, 0, none⟩ = some (strV e))
    (fun p wr => leftF e s p)
  case atStart =>
    exact ⟨[], xs, a, rfl, rfl, hfull, Way.start ha, h0, hW, hb1, hb2, hb3⟩
  case round =>
    obtain ⟨pre, rest, x, rfl, hx, hl, hw, hJs, hWr, hc1, hc2, hc3⟩ := hrel
    have hlen := hw.len ha he hs la le ls
    have hcmp := fun w => Go.callsIn_wide (n := n - 1) |>.2 (cmp_calls (a := x) (b := e) (by unfold Small; omega) (by unfold Small; omega) hw.form he w)
    have hstep : ∀ w', Below wr.heap.size wr w' → J pre w' ∧ n₀ ≤ w'.heap.size ∧ w'.cell? ⟨b1, 0, none⟩ = some (strV s) ∧ w'.cell? ⟨b2, 0, none⟩ = some (strV a) ∧ w'.cell? ⟨b3, 0, none⟩ = some (strV e) := fun w' hb => by
      have := hb.size
      exact ⟨hJ pre _ _ hJs hb, by omega, (hb.cell (p := ⟨b1, 0, none⟩) (by show b1 < _; omega)).trans hc1, (hb.cell (p := ⟨b2, 0, none⟩) (by show b2 < _; omega)).trans hc2, (hb.cell (p := ⟨b3, 0, none⟩) (by show b3 < _; omega)).trans hc3⟩
    have hl' := hl
    cases hng : negL s with
    | true =>
      cases hl with
      | stop hst =>
        have hst1 : cmpL x e ≤ 0 := by simpa [stopL, hng] using hst
        gi_wp2_with (refine ⟨trivial, ?_⟩; gi_at_call 16; refine (hcmp _).mono ?_; rintro e1 w2 ⟨rfl, hb⟩; obtain ⟨j1, j2, j3, j4, j5⟩ := hstep _ hb)
        refine ⟨fun _ h => (by cases h), ?_⟩
        gi_wp2
        refine bodyPost_ret (results_none rfl _ _ _) rfl ?_
        exact ⟨⟨_, rfl⟩, .inl ⟨pre, by simp [hx], j1⟩⟩
      | go hst hr =>
        rename_i rest
        have hst1 : 0 < cmpL x e := by simpa [stopL, hng] using hst
        have hlt : pre.length < xs.length := by rw [hx]; simp
        have hadd := fun w => Go.callsIn_wide (n := n - 1) |>.2 (add_calls (a := x) (b := s) (by omega) (by omega) hw.form hs w)
        gi_wp2_with (refine ⟨trivial, ?_⟩; gi_at_call 16; refine (hcmp _).mono ?_; rintro e1 w2 ⟨rfl, hb⟩; obtain ⟨j1, j2, j3, j4, j5⟩ := hstep _ hb; obtain ⟨fn, tmps, assign, body, hy, hR⟩ := hY pre x _ j1 hlt)
        have hw4 := hw.next he hs h0s hst
        refine hR.mono ?_
        rintro e2 w3 (⟨rfl, hJ3, hk3⟩ | ⟨rfl, hJx3⟩)
        · have k0 := hk3.size
          have k1 := (hk3.cell (p := ⟨b1, 0, none⟩) hl1).trans j3
          have k2 := (hk3.cell (p := ⟨b2, 0, none⟩) hl2).trans j4
          have k3 := (hk3.cell (p := ⟨b3, 0, none⟩) hl3).trans j5
          gi_wp2_with (refine ⟨trivial, ?_⟩; gi_at_call 15; refine (hadd _).mono ?_; rintro e3 w4 ⟨rfl, hb4⟩)
          refine ⟨⟨_, _, _, _, _, _, _, _, _, _, _, _, _, _, _, _, _, _, _, _, _, _, _, _, _, _, _, _, _, _, _, _, _, _, ?rel, rfl⟩, ?measure⟩
          case rel =>
            have := hb4.size
            exact ⟨pre ++ [x], rest, addL x s, rfl, by simp [hx], hr, hw4, hJ _ _ _ hJ3 hb4, by omega, (hb4.cell (p := ⟨b1, 0, none⟩) (by show b1 < _; omega)).trans k1, (hb4.cell (p := ⟨b2, 0, none⟩) (by show b2 < _; omega)).trans k2, (hb4.cell (p := ⟨b3, 0, none⟩) (by show b3 < _; omega)).trans k3⟩
          case measure =>
            show leftF e s (strV (addL x s)) < leftF e s (strV x)
            rw [leftF_eq hr, leftF_eq hl']; simp
        · gi_wp2
          refine bodyPost_ret (results_none rfl _ _ _) rfl ?_
          exact ⟨⟨_, rfl⟩, .inr ⟨pre ++ [x], ⟨rest, by simp [hx]⟩, hJx3⟩⟩
    | false =>
      cases hl with
      | stop hst =>
        have hst1 : 0 ≤ cmpL x e := by simpa [stopL, hng] using hst
        gi_wp2_with (refine ⟨trivial, ?_⟩; gi_at_call 16; refine (hcmp _).mono ?_; rintro e1 w2 ⟨rfl, hb⟩; obtain ⟨j1, j2, j3, j4, j5⟩ := hstep _ hb)
        refine ⟨fun _ h => (by cases h), ?_⟩
        gi_wp2
        refine bodyPost_ret (results_none rfl _ _ _) rfl ?_
        exact ⟨⟨_, rfl⟩, .inl ⟨pre, by simp [hx], j1⟩⟩
      | go hst hr =>
        rename_i rest
        have hst1 : cmpL x e < 0 := by simpa [stopL, hng] using hst
        have hlt : pre.length < xs.length := by rw [hx]; simp
        have hadd := fun w => Go.callsIn_wide (n := n - 1) |>.2 (add_calls (a := x) (b := s) (by omega) (by omega) hw.form hs w)
        gi_wp2_with (refine ⟨trivial, ?_⟩; gi_at_call 16; refine (hcmp _).mono ?_; rintro e1 w2 ⟨rfl, hb⟩; obtain ⟨j1, j2, j3, j4, j5⟩ := hstep _ hb; obtain ⟨fn, tmps, assign, body, hy, hR⟩ := hY pre x _ j1 hlt)
        have hw4 := hw.next he hs h0s hst
        refine hR.mono ?_
        rintro e2 w3 (⟨rfl, hJ3, hk3⟩ | ⟨rfl, hJx3⟩)
        · have k0 := hk3.size
          have k1 := (hk3.cell (p := ⟨b1, 0, none⟩) hl1).trans j3
          have k2 := (hk3.cell (p := ⟨b2, 0, none⟩) hl2).trans j4
          have k3 := (hk3.cell (p := ⟨b3, 0, none⟩) hl3).trans j5
          gi_wp2_with (refine ⟨trivial, ?_⟩; gi_at_call 15; refine (hadd _).mono ?_; rintro e3 w4 ⟨rfl, hb4⟩)
          refine ⟨⟨_, _, _, _, _, _, _, _, _, _, _, _, _, _, _, _, _, _, _, _, _, _, _, _, _, _, _, _, _, _, _, _, _, _, ?rel, rfl⟩, ?measure⟩
          case rel =>
            have := hb4.size
            exact ⟨pre ++ [x], rest, addL x s, rfl, by simp [hx], hr, hw4, hJ _ _ _ hJ3 hb4, by omega, (hb4.cell (p := ⟨b1, 0, none⟩) (by show b1 < _; omega)).trans k1, (hb4.cell (p := ⟨b2, 0, none⟩) (by show b2 < _; omega)).trans k2, (hb4.cell (p := ⟨b3, 0, none⟩) (by show b3 < _; omega)).trans k3⟩
          case measure =>
            show leftF e s (strV (addL x s)) < leftF e s (strV x)
            rw [leftF_eq hr, leftF_eq hl']; simp
        · gi_wp2
          refine bodyPost_ret (results_none rfl _ _ _) rfl ?_
          exact ⟨⟨_, rfl⟩, .inr ⟨pre ++ [x], ⟨rest, by simp [hx]⟩, hJx3⟩⟩
end Go.Proofs.Ytbfdokfelolmbaa.TensW
end
