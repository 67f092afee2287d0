import Derived.Test.YtbfdokfelolmbaaCb
/-
  The contract of what makes the iterator.
-/
set_option linter.all false
section
open Go.RowKit Go.Shelf
namespace Go.Proofs.Ytbfdokfelolmbaa.TensW
attribute [local go_sem] Oper.semAt_some
set_option linter.unusedSimpArgs false
set_option linter.unusedVariables false

theorem grown_of_below {W W' : World} (h : Below W.heap.size W W') : W.grownBy W' none :=
  ⟨h.os, h.tape, h.output, h.size, fun k hk _ => h.block k hk⟩

theorem iter_stops (n : Nat) (hn : 1 ≤ n) (b1 b2 b3 n₀ : Nat) (a e s : List UInt8) (xs : List (List UInt8)) (N : Nat) (hN : N < 17592186044416)
    (ha : formedL a = true) (he : formedL e = true) (hs : formedL s = true) (h0s : s ≠ [48]) (la : a.length ≤ N) (le : e.length ≤ N) (ls : s.length ≤ N) (hfull : Full e s a xs)
    (w : World) (hl1 : b1 < n₀) (hl2 : b2 < n₀) (hl3 : b3 < n₀) (hW : n₀ ≤ w.heap.size) (hb1 : w.cell? ⟨b1, 0, none⟩ = some (strV s)) (hb2 : w.cell? ⟨b2, 0, none⟩ = some (strV a)) (hb3 : w.cell? ⟨b3, 0, none⟩ = some (strV e)) :
    SeqStopsK Fence.wide n Try.prog 14 #[.pointer (some ⟨b1, 0, none⟩), .pointer (some ⟨b2, 0, none⟩), .pointer (some ⟨b3, 0, none⟩)] (fun x : List UInt8 => #[strV x]) (Below n₀) (fun ys => ys = xs) (fun pre => pre <+: xs) xs.length w := fun l J Jx W hWw hJ hJx hY h0 => by
  have hsz := hWw.size
  refine iter_in n l b1 b2 b3 n₀ a e s xs N hN ha he hs h0s la le ls hfull J Jx hn ?_ hY W hl1 hl2 hl3 (by omega) ?_ ?_ ?_ h0
  · intro pre A B hj hb
    exact hJ pre A B none hj (grown_of_below hb) (fun r e => by cases e)
  · exact (hWw.cell (p := ⟨b1, 0, none⟩) (by show b1 < _; omega)).trans hb1
  · exact (hWw.cell (p := ⟨b2, 0, none⟩) (by show b2 < _; omega)).trans hb2
  · exact (hWw.cell (p := ⟨b3, 0, none⟩) (by show b3 < _; omega)).trans hb3

set_option maxRecDepth 100000 in
theorem none_stops (n : Nat) (n₀ : Nat) (w : World) :
    SeqStopsK Fence.wide n Try.prog 13 #[] (fun x : List UInt8 => #[strV x]) (Below n₀) (fun ys => ys = []) (fun pre => pre <+: []) 0 w := fun l J Jx W hWw hJ hJx hY h0 => by
  refine callsIn_of_wp Try.func13 rfl trivial ?_ rfl
  simp only [Try.ntmps13, List.size_toArray, List.length_cons, List.length_nil, Nat.reduceAdd, Nat.reduceSub, Array.replicate_succ, Array.replicate_zero, List.push_toArray, List.append_toArray, List.nil_append, List.cons_append]
  gi_wp2
  go_end0
  exact ⟨⟨_, rfl⟩, .inl h0⟩

theorem cell_new (W : World) (v : Value) (t : TypeId) : (W.alloc (.cells #[v] t)).cell? ⟨W.heap.size, 0, none⟩ = some v := by
  have h := World.alloc_heap_new W (.cells #[v] t)
  unfold World.cell?
  simp only [h]
  rfl

def badP (a b c : List UInt8) : Bool := !formedL a || !formedL b || !formedL c || c == [48]

/-- The three boxes lie there. -/
def Held (w : World) (a b c : List UInt8) (W : World) : Prop := Below w.heap.size w W ∧ w.heap.size + 3 ≤ W.heap.size ∧
  W.cell? ⟨w.heap.size, 0, none⟩ = some (strV a) ∧ W.cell? ⟨w.heap.size + 1, 0, none⟩ = some (strV b) ∧ W.cell? ⟨w.heap.size + 1 + 1, 0, none⟩ = some (strV c)
theorem held_next {w W W' : World} {a b c : List UInt8} (h : Held w a b c W) (hb : Below W.heap.size W W') : Held w a b c W' := by
  obtain ⟨h1, h2, h3, h4, h5⟩ := h
  have := hb.size
  have h0 := h1.size
  exact ⟨h1.trans (hb.mono h0), by omega, (hb.cell (p := ⟨w.heap.size, 0, none⟩) (by show w.heap.size < _; omega)).trans h3, (hb.cell (p := ⟨w.heap.size + 1, 0, none⟩) (by show w.heap.size + 1 < _; omega)).trans h4, (hb.cell (p := ⟨w.heap.size + 1 + 1, 0, none⟩) (by show w.heap.size + 1 + 1 < _; omega)).trans h5⟩
theorem held_start (w : World) (a b c : List UInt8) : Held w a b c (((w.alloc (.cells #[strV a] 9)).alloc (.cells #[strV b] 9)).alloc (.cells #[strV c] 9)) := by
  have c0 := cell_new w (strV a) 9
  have c1 := cell_new (w.alloc (.cells #[strV a] 9)) (strV b) 9
  have c2 := cell_new ((w.alloc (.cells #[strV a] 9)).alloc (.cells #[strV b] 9)) (strV c) 9
  simp only [World.size_alloc] at c1 c2
  have k : ∀ {W : World} {ad : Addr} {v : Value} (o : Obj), W.cell? ad = some v → (W.alloc o).cell? ad = some v := fun o h => cell_kept h (World.grownBy_alloc _ o none) (fun r e => by cases e)
  refine ⟨(((Below.refl _ w).alloc (Nat.le_refl _) _).alloc (by simp) _).alloc (by simp; omega) _, by simp, k _ (k _ c0), k _ c1, c2⟩

set_option maxRecDepth 100000 in
set_option maxHeartbeats 2000000 in
theorem steps5_in (n : Nat) (hn : 1 ≤ n) (a b c : List UInt8) (ha : Small a) (hb : Small b) (hc : Small c) (w : World) :
    CallsIn Fence.wide n Try.prog 5 #[strV a, strV b, strV c] w fun e w' => Below w.heap.size w w' ∧
      ((badP a b c = true ∧ e = .returned (.func (.func 13) #[] #[])) ∨
       (badP a b c = false ∧ e = .returned (.func (.func 14) #[] #[.pointer (some ⟨w.heap.size + 1 + 1, 0, none⟩), .pointer (some ⟨w.heap.size, 0, none⟩), .pointer (some ⟨w.heap.size + 1, 0, none⟩)]) ∧ Held w a b c w')) := by
  refine callsIn_of_wp Try.func5 rfl trivial ?_ rfl
  simp only [Try.ntmps5, List.size_toArray, List.length_cons, List.length_nil, Nat.reduceAdd, Nat.reduceSub, Array.replicate_succ, Array.replicate_zero, List.push_toArray, List.append_toArray, List.nil_append, List.cons_append]
  have h12a := fun w => Go.callsIn_wide (n := n - 1) |>.2 (formed_calls ha w)
  have h12b := fun w => Go.callsIn_wide (n := n - 1) |>.2 (formed_calls hb w)
  have h12c := fun w => Go.callsIn_wide (n := n - 1) |>.2 (formed_calls hc w)
  have hh := held_start w a b c
  cases fa : formedL a with
  | false =>
    rw [fa] at h12a
    gi_wp2_with (first | (refine ⟨trivial, ?_⟩; gi_at_call 12; (first | (refine (h12a _).mono ?_; clear h12a) | (refine (h12b _).mono ?_; clear h12b) | (refine (h12c _).mono ?_; clear h12c)); rintro e1 w2 ⟨rfl, hb1⟩; have hh2 := held_next (by assumption) hb1; obtain ⟨_, _, _, _, _⟩ := id hh2) | refine ⟨trivial, ?_⟩)
    have hx : Held w a b c w2 := by assumption
    refine bodyPost_ret (results_tmp rfl _ _ _) rfl ?_
    exact ⟨hx.1, .inl ⟨by simp [badP, fa], rfl⟩⟩
  | true =>
    rw [fa] at h12a
    cases fb : formedL b with
    | false =>
      rw [fb] at h12b
      gi_wp2_with (first | (refine ⟨trivial, ?_⟩; gi_at_call 12; (first | (refine (h12a _).mono ?_; clear h12a) | (refine (h12b _).mono ?_; clear h12b) | (refine (h12c _).mono ?_; clear h12c)); rintro e1 w2 ⟨rfl, hb1⟩; have hh2 := held_next (by assumption) hb1; obtain ⟨_, _, _, _, _⟩ := id hh2) | refine ⟨trivial, ?_⟩)
      have hx : Held w a b c w2 := by assumption
      refine bodyPost_ret (results_tmp rfl _ _ _) rfl ?_
      exact ⟨hx.1, .inl ⟨by simp [badP, fa, fb], rfl⟩⟩
    | true =>
      rw [fb] at h12b
      cases fc : formedL c with
      | false =>
        rw [fc] at h12c
        gi_wp2_with (first | (refine ⟨trivial, ?_⟩; gi_at_call 12; (first | (refine (h12a _).mono ?_; clear h12a) | (refine (h12b _).mono ?_; clear h12b) | (refine (h12c _).mono ?_; clear h12c)); rintro e1 w2 ⟨rfl, hb1⟩; have hh2 := held_next (by assumption) hb1; obtain ⟨_, _, _, _, _⟩ := id hh2) | refine ⟨trivial, ?_⟩)
        have hx : Held w a b c w2 := by assumption
        refine bodyPost_ret (results_tmp rfl _ _ _) rfl ?_
        exact ⟨hx.1, .inl ⟨by simp [badP, fa, fb, fc], rfl⟩⟩
      | true =>
        rw [fc] at h12c
        by_cases h0 : c = [48]
        · subst h0
          gi_wp2_with (first | (refine ⟨trivial, ?_⟩; gi_at_call 12; (first | (refine (h12a _).mono ?_; clear h12a) | (refine (h12b _).mono ?_; clear h12b) | (refine (h12c _).mono ?_; clear h12c)); rintro e1 w2 ⟨rfl, hb1⟩; have hh2 := held_next (by assumption) hb1; obtain ⟨_, _, _, _, _⟩ := id hh2) | refine ⟨trivial, ?_⟩)
          have hx : Held w a b [48] w2 := by assumption
          refine bodyPost_ret (results_tmp rfl _ _ _) rfl ?_
          exact ⟨hx.1, .inl ⟨by simp [badP, fa, fb, fc], rfl⟩⟩
        · have h1 : (c == [48]) = false := by simp [h0]
          gi_wp2_with (first | (refine ⟨trivial, ?_⟩; gi_at_call 12; (first | (refine (h12a _).mono ?_; clear h12a) | (refine (h12b _).mono ?_; clear h12b) | (refine (h12c _).mono ?_; clear h12c)); rintro e1 w2 ⟨rfl, hb1⟩; have hh2 := held_next (by assumption) hb1; obtain ⟨_, _, _, _, _⟩ := id hh2) | refine ⟨trivial, ?_⟩)
          have hx : Held w a b c w2 := by assumption
          refine bodyPost_ret (results_tmp rfl _ _ _) rfl ?_
          exact ⟨hx.1, .inr ⟨by simp [badP, fa, fb, fc, h1], rfl, hx⟩⟩
end Go.Proofs.Ytbfdokfelolmbaa.TensW
end
