import Derived.RangeFuncFrom
import Derived.Test.YtbfdokfelolmbaaCc
/-
  The law's parts.
-/
set_option linter.all false
section
open Go.RowKit Go.Shelf
namespace Go.Proofs.Ytbfdokfelolmbaa.TensW
attribute [local go_sem] Oper.semAt_some
set_option linter.unusedSimpArgs false
set_option linter.unusedVariables false

/-- The marks of the loops that are over. -/
def Marks (n₀ : Nat) (W : World) (Ds : List Nat) : Prop := Ds.Nodup ∧ ∀ D ∈ Ds, n₀ ≤ D ∧ W.heap[D]? = some (.deferred (some []))
def marks (Ds : List Nat) : List Deferred := Ds.map fun D => { target := .collected D, args := #[] }
theorem leaves_marks {n : Nat} {fn : Func} {tmps : Array Value} {R : Ending → World → Prop} {n₀ : Nat} : ∀ (Ds : List Nat) (W : World), Marks n₀ W Ds → (∀ W', Below n₀ W W' → LeavesIn Fence.wide n Try.prog fn tmps R [] .returning W') → LeavesInM Fence.wide n Try.prog fn tmps R (marks Ds) .returning W
  | [], W, _, h => h W (Below.refl _ _)
  | D :: Ds, W, hm, h => by
    obtain ⟨hn, hD⟩ := hm
    rw [List.nodup_cons] at hn
    obtain ⟨h1, h2⟩ := hD D (by simp)
    refine ⟨by simp, .inl ⟨D, _, rfl, run_takeDeferred h2, ?_⟩⟩
    have hlt := (Array.getElem?_eq_some_iff.1 h2).1
    have hb : Below n₀ W (W.putObj D (.deferred none)) := (Below.refl n₀ W).grown (grownBy_putObj' W D _) (by omega) (fun k e => by cases e; omega)
    exact leaves_marks Ds _ ⟨hn.2, fun D' hd => ⟨(hD D' (by simp [hd])).1, (World.putObj_heap_other (by rintro rfl; exact hn.1 hd)).trans (hD D' (by simp [hd])).2⟩⟩ (fun W' hw => h W' (hb.trans hw))
theorem Marks.next {n₀ n₁ : Nat} {W W' : World} {Ds : List Nat} (h : Marks n₀ W Ds) (hn : n₁ = W.heap.size) (hb : Below n₁ W W') : Marks n₀ W' Ds :=
  ⟨h.1, fun D hD => ⟨(h.2 D hD).1, (hb.block D (by have := (Array.getElem?_eq_some_iff.1 (h.2 D hD).2).1; omega)).trans (h.2 D hD).2⟩⟩
theorem Marks.more {n₀ n₁ : Nat} {W W' : World} {Ds : List Nat} {D : Nat} (h : Marks n₀ W Ds) (hn : n₁ = W.heap.size) (h0 : n₀ ≤ n₁) (hb : Below n₁ W W') (hD : n₁ ≤ D) (hk : W'.heap[D]? = some (.deferred (some []))) : Marks n₀ W' (D :: Ds) := by
  have h' := h.next hn hb
  refine ⟨List.nodup_cons.2 ⟨fun hm => ?_, h'.1⟩, fun D' hd => ?_⟩
  · have := (Array.getElem?_eq_some_iff.1 (h.2 D hm).2).1; omega
  · rcases List.mem_cons.1 hd with rfl | hd
    · exact ⟨by omega, hk⟩
    · exact h'.2 D' hd

theorem below_frozen {n : Nat} {W W' : World} {p : Addr} (h : Below n W W') (hp : p.block < n) : W'.frozen? p = W.frozen? p := by
  unfold World.frozen?
  rw [h.block _ hp]
theorem cell_lt {W : World} {p : Addr} {v : Value} (h : W.cell? p = some v) : p.block < W.heap.size := by
  obtain ⟨o, ho, _⟩ := cells_of_cell h
  exact (Array.getElem?_eq_some_iff.1 ho).1
theorem Texts.next {n₁ m : Nat} {W W' : World} {x : Value} {l : List (List UInt8)} (h : Texts W m x l) (hn : n₁ = W.heap.size) (hb : Below n₁ W W') : Texts W' m x l := by
  obtain ⟨a, cap, hx, h⟩ := h
  refine ⟨a, cap, hx, fun hne => ?_⟩
  obtain ⟨b, o, ha, hb', hc⟩ := h hne
  refine ⟨b, o, ha, hb', fun i hi => ?_⟩
  have := cell_lt (hc i hi)
  exact (hb.cell (p := ⟨b, o + i, none⟩) (by show b < _; exact hn ▸ this)).trans (hc i hi)

theorem Texts.mono {W : World} {m m' : Nat} {x : Value} {l : List (List UInt8)} (h : Texts W m x l) (hm : m' ≤ m) : Texts W m' x l := by
  obtain ⟨a, cap, hx, h⟩ := h
  exact ⟨a, cap, hx, fun hne => by obtain ⟨b, o, ha, hb, hc⟩ := h hne; exact ⟨b, o, ha, by omega, hc⟩⟩
/-- What lies there while the steps are ranged over. -/
structure BaseF (w : World) (k b9 : Nat) (x : Value) (want : List (List UInt8)) (W : World) : Prop where
  c7 : W.cell? ⟨w.heap.size, 0, none⟩ = some (.int .i64 (k : Int))
  c8 : W.cell? ⟨w.heap.size + 1, 0, none⟩ = some (.bool false)
  f8 : W.frozen? ⟨w.heap.size + 1, 0, none⟩ = false
  c9 : W.cell? ⟨b9, 0, none⟩ = some x
  texts : Texts W (w.heap.size + 2) x want
  below : Below w.heap.size w W
theorem BaseF.next {w : World} {k b9 n₁ : Nat} {x : Value} {want : List (List UInt8)} {W W' : World} (h : BaseF w k b9 x want W) (hn : n₁ = W.heap.size) (hb : Below n₁ W W') : BaseF w k b9 x want W' := by
  have l7 := cell_lt h.c7
  have l8 := cell_lt h.c8
  have l9 := cell_lt h.c9
  have hs := h.below.size
  exact ⟨(hb.cell (by rw [hn]; exact l7)).trans h.c7, (hb.cell (by rw [hn]; exact l8)).trans h.c8, (below_frozen hb (by rw [hn]; exact l8)).trans h.f8, (hb.cell (by rw [hn]; exact l9)).trans h.c9, h.texts.next hn hb, h.below.trans (hb.mono (by omega))⟩

def Seq5 (n gf : Nat) (xs : List (List UInt8)) (W5 : World) (lb : Array Value) : Prop :=
  ∀ n₁ W, W5.heap.size ≤ n₁ → n₁ ≤ W.heap.size → Below W5.heap.size W5 W → SeqStopsK Fence.wide n Try.prog gf lb (fun x : List UInt8 => #[strV x]) (Below n₁) (fun ys => ys = xs) (fun pre => pre <+: xs) xs.length W

theorem seq_mid {F : Fence} {n : Nat} {P : Program} {Q : Exit → Act → World → Prop} {x y : Code} {a : Act} {w : World} (Mid : Act → World → Prop) (hA : ∀ K : Act → World → Prop, (∀ a w, Mid a w → K a w) → x.wpIn F n P (Exit.then K Q) a w) (hB : ∀ a w, Mid a w → y.wpIn F n P Q a w) : (Code.seq x y).wpIn F n P Q a w := by
  refine wpIn_seq (wpIn_mono (hA Mid fun _ _ h => h) ?_)
  intro e a' w' h
  cases e with
  | normal => exact hB _ _ h
  | _ => exact h

theorem eq_nil (gf : Nat) (lb : Array Value) (W : World) : (Go.binOp .eql 25 (Value.func (Fn.func gf) #[] lb) Value.nilFunc).run Try.prog W = .ok (.bool false) W := by kernel_rfl
theorem loop_mid {F : Fence} {n : Nat} {P : Program} {Q : Exit → Act → World → Prop} {c : Code} {a : Act} {w : World} (I : Act → World → Prop) (μ : Act → World → Nat) (h0 : I a w) (round : ∀ a w, I a w → ∀ K : Act → World → Prop, (∀ a' w', I a' w' ∧ μ a' w' < μ a w → K a' w') → c.wpIn F n P (Exit.then K Q) a w) : (Code.loop c).wpIn F n P Q a w :=
  wpIn_loop I μ h0 (fun a w h => round a w h _ fun _ _ h => h)
def rounds (a : Act) : Nat := match a.tmps.getD 11 undef with | .int _ r => (2 - r).toNat | _ => 0
def HW (want xs : List (List UInt8)) (k : Nat) : Prop := want = xs.take (k + 1)
def clampL (m : Int) : Nat := if m < 0 ∨ 200 < m then 200 else m.toNat


/-! Parts of a code. -/
def seqA : Code → Code | .seq a _ => a | c => c
def seqB : Code → Code | .seq _ b => b | c => c
def inside : Code → Code | .block _ b => b | .loop b => b | .rangeFunc _ _ _ b => b | c => c
noncomputable def lawCode : Code := (Try.f3.body).getD .skip
/-- The loop over the rounds; its round; the range; its body. -/
noncomputable def lawLoop : Code := inside (seqB (seqA (seqB (seqB (seqB (seqB (seqB lawCode)))))))
noncomputable def lawRound : Code := inside lawLoop
noncomputable def lawInner : Code := inside (seqA (seqB lawRound))
noncomputable def lawRange : Code := inside (seqB (seqA (seqB (seqB lawInner))))
noncomputable def lawBody : Code := inside lawRange

/-- Between two steps: 'at' counts them, and they are the document's. -/
def InvR (Wr : World) (k : Nat) (want pre : List (List UInt8)) (W' : World) : Prop :=
  ((W'.cell? ⟨Wr.heap.size, 0, none⟩ = some (.int .i64 (pre.length : Int)) ∧ W'.frozen? ⟨Wr.heap.size, 0, none⟩ = false) ∧ (pre.length ≤ k ∧ ∀ i, i < pre.length → pre[i]? = want[i]?)) ∧ Below Wr.heap.size Wr W'
/-- Left early: a step that is not the document's; or enough of them. -/
def ExR (Wr : World) (k : Nat) (want : List (List UInt8)) (cd : Code) (pre : List (List UInt8)) (W' : World) : Prop :=
  (cd = .ret ∧ ∃ i, i ≤ k ∧ i < pre.length ∧ pre[i]? ≠ want[i]?) ∨ (cd = .exit 2 ∧ pre.length = k + 1 ∧ W'.cell? ⟨Wr.heap.size, 0, none⟩ = some (.int .i64 ((k + 1 : Nat) : Int)) ∧ Below Wr.heap.size Wr W')
end Go.Proofs.Ytbfdokfelolmbaa.TensW
end

section
open Go.RowKit Go.Shelf
namespace Go.Proofs.Ytbfdokfelolmbaa.TensW
attribute [local go_sem] Oper.semAt_some
set_option linter.unusedSimpArgs false
set_option linter.unusedVariables false

set_option maxRecDepth 100000 in
set_option maxHeartbeats 4000000 in
/-- The body, where the step is the document's. -/
theorem body_good (l n : Nat) (k p q q7 q8 q9 tb tf cap len : Nat) (y : List UInt8) (W' : World) (u0 u1 u2 u3 u4 u5 u6 u10 u11 u14 u15 u16 u17 u18 u19 u20 u21 u22 u23 u24 u25 u26 u27 u28 u29 u30 u31 u32 u33 u34 u35 u36 u37 u38 u39 u40 u41 u42 u43 u44 u45 u46 u47 u48 u49 u50 u51 u52 u53 u54 u55 u56 u57 u58 u59 u60 u61 : Value) (hk200 : k ≤ 200) (hpk : p ≤ k)
    (d7 : W'.cell? ⟨q7, 0, none⟩ = some (.int .i64 (k : Int))) (d12 : W'.cell? ⟨q, 0, none⟩ = some (.int .i64 (p : Int))) (e12 : W'.frozen? ⟨q, 0, none⟩ = false) (hx7 : q7 < q) (z : List UInt8) (hzy : z = y)
    (d9 : W'.cell? ⟨q9, 0, none⟩ = some (.slice (some ⟨tb, tf, none⟩) len cap)) (hlt : p < len) (dt : W'.cell? ⟨tb, tf + p, none⟩ = some (strV z)) (Q : Exit → Act → World → Prop)
    (hQ1 : k < p + 1 → ∀ a', Q (.exit 2) a' (W'.setCell ⟨q, 0, none⟩ (.int .i64 ((p + 1 : Nat) : Int))))
    (hQ2 : p + 1 ≤ k → ∀ a', Q .normal a' (W'.setCell ⟨q, 0, none⟩ (.int .i64 ((p + 1 : Nat) : Int)))) :
    lawBody.wpIn (Fence.wide.inRound l) (n - 1 - 1) Try.prog Q { tmps := #[u0, u1, u2, u3, u4, u5, u6, .pointer (some ⟨q7, 0, none⟩), .pointer (some ⟨q8, 0, none⟩), .pointer (some ⟨q9, 0, none⟩), u10, u11, .pointer (some ⟨q, 0, none⟩), strV y, u14, u15, u16, u17, u18, u19, u20, u21, u22, u23, u24, u25, u26, u27, u28, u29, u30, u31, u32, u33, u34, u35, u36, u37, u38, u39, u40, u41, u42, u43, u44, u45, u46, u47, u48, u49, u50, u51, u52, u53, u54, u55, u56, u57, u58, u59, u60, u61], defers := [] } W' := by
  subst hzy
  have hlti : (p : Int) < (len : Int) := by omega
  have hnge : ¬ (len : Int) ≤ (p : Int) := by omega
  have hwp : wrap64 ((p : Int) + 1) = ((p + 1 : Nat) : Int) := by unfold wrap64; omega
  simp only [lawBody, lawRange, lawInner, lawRound, lawLoop, lawCode, Try.f3, Option.getD_some, seqA, seqB, inside]
  rcases Nat.lt_or_ge k (p + 1) with hkp | hkp
  · have hQ := hQ1 hkp
    clear hQ1 hQ2
    have hki : (k : Int) < (p : Int) + 1 := by omega
    gi_wp2
    exact hQ _
  · have hQ := hQ2 hkp
    clear hQ1 hQ2
    have hki : (p : Int) + 1 ≤ (k : Int) := by omega
    gi_wp2
    exact hQ _

set_option maxRecDepth 100000 in
set_option maxHeartbeats 4000000 in
/-- The body, where there is no step of the document's any more. -/
theorem body_more (l n : Nat) (k p q q7 q8 q9 tb tf cap len : Nat) (y : List UInt8) (W' : World) (u0 u1 u2 u3 u4 u5 u6 u10 u11 u14 u15 u16 u17 u18 u19 u20 u21 u22 u23 u24 u25 u26 u27 u28 u29 u30 u31 u32 u33 u34 u35 u36 u37 u38 u39 u40 u41 u42 u43 u44 u45 u46 u47 u48 u49 u50 u51 u52 u53 u54 u55 u56 u57 u58 u59 u60 u61 : Value) (hk200 : k ≤ 200) (hpk : p ≤ k)
    (d7 : W'.cell? ⟨q7, 0, none⟩ = some (.int .i64 (k : Int))) (d12 : W'.cell? ⟨q, 0, none⟩ = some (.int .i64 (p : Int))) (e12 : W'.frozen? ⟨q, 0, none⟩ = false) (hx7 : q7 < q) (ax : Option Addr)
    (d9 : W'.cell? ⟨q9, 0, none⟩ = some (.slice ax len cap)) (hge : len ≤ p) (d8 : W'.cell? ⟨q8, 0, none⟩ = some (.bool false)) (g8 : W'.frozen? ⟨q8, 0, none⟩ = false) (Q : Exit → Act → World → Prop)
    (hQ : ∀ a', Q .ret a' (W'.setCell ⟨q8, 0, none⟩ (.bool false))) :
    lawBody.wpIn (Fence.wide.inRound l) (n - 1 - 1) Try.prog Q { tmps := #[u0, u1, u2, u3, u4, u5, u6, .pointer (some ⟨q7, 0, none⟩), .pointer (some ⟨q8, 0, none⟩), .pointer (some ⟨q9, 0, none⟩), u10, u11, .pointer (some ⟨q, 0, none⟩), strV y, u14, u15, u16, u17, u18, u19, u20, u21, u22, u23, u24, u25, u26, u27, u28, u29, u30, u31, u32, u33, u34, u35, u36, u37, u38, u39, u40, u41, u42, u43, u44, u45, u46, u47, u48, u49, u50, u51, u52, u53, u54, u55, u56, u57, u58, u59, u60, u61], defers := [] } W' := by
  have hge' : (len : Int) ≤ (p : Int) := by omega
  simp only [lawBody, lawRange, lawInner, lawRound, lawLoop, lawCode, Try.f3, Option.getD_some, seqA, seqB, inside]
  gi_wp2
  exact hQ _

set_option maxRecDepth 100000 in
set_option maxHeartbeats 4000000 in
/-- The body, where the step is not the document's. -/
theorem body_other (l n : Nat) (k p q q7 q8 q9 tb tf cap len : Nat) (y : List UInt8) (W' : World) (u0 u1 u2 u3 u4 u5 u6 u10 u11 u14 u15 u16 u17 u18 u19 u20 u21 u22 u23 u24 u25 u26 u27 u28 u29 u30 u31 u32 u33 u34 u35 u36 u37 u38 u39 u40 u41 u42 u43 u44 u45 u46 u47 u48 u49 u50 u51 u52 u53 u54 u55 u56 u57 u58 u59 u60 u61 : Value) (hk200 : k ≤ 200) (hpk : p ≤ k)
    (d7 : W'.cell? ⟨q7, 0, none⟩ = some (.int .i64 (k : Int))) (d12 : W'.cell? ⟨q, 0, none⟩ = some (.int .i64 (p : Int))) (e12 : W'.frozen? ⟨q, 0, none⟩ = false) (hx7 : q7 < q) (z : List UInt8) (hzy : (z == y) = false)
    (d9 : W'.cell? ⟨q9, 0, none⟩ = some (.slice (some ⟨tb, tf, none⟩) len cap)) (hlt : p < len) (dt : W'.cell? ⟨tb, tf + p, none⟩ = some (strV z)) (d8 : W'.cell? ⟨q8, 0, none⟩ = some (.bool false)) (g8 : W'.frozen? ⟨q8, 0, none⟩ = false) (Q : Exit → Act → World → Prop)
    (hQ : ∀ a', Q .ret a' (W'.setCell ⟨q8, 0, none⟩ (.bool false))) :
    lawBody.wpIn (Fence.wide.inRound l) (n - 1 - 1) Try.prog Q { tmps := #[u0, u1, u2, u3, u4, u5, u6, .pointer (some ⟨q7, 0, none⟩), .pointer (some ⟨q8, 0, none⟩), .pointer (some ⟨q9, 0, none⟩), u10, u11, .pointer (some ⟨q, 0, none⟩), strV y, u14, u15, u16, u17, u18, u19, u20, u21, u22, u23, u24, u25, u26, u27, u28, u29, u30, u31, u32, u33, u34, u35, u36, u37, u38, u39, u40, u41, u42, u43, u44, u45, u46, u47, u48, u49, u50, u51, u52, u53, u54, u55, u56, u57, u58, u59, u60, u61], defers := [] } W' := by
  have hlti : (p : Int) < (len : Int) := by omega
  have hnge : ¬ (len : Int) ≤ (p : Int) := by omega
  simp only [lawBody, lawRange, lawInner, lawRound, lawLoop, lawCode, Try.f3, Option.getD_some, seqA, seqB, inside]
  gi_wp2
  exact hQ _

def rangeAssign : Code → Code | .rangeFunc _ _ a _ => a | c => c

theorem assign_in (l n : Nat) (y : List UInt8) (W' : World) (K : Act → World → Prop) {u0 u1 u2 u3 u4 u5 u6 u7 u8 u9 u10 u11 u12 u13 u14 u15 u16 u17 u18 u19 u20 u21 u22 u23 u24 u25 u26 u27 u28 u29 u30 u31 u32 u33 u34 u35 u36 u37 u38 u39 u40 u41 u42 u43 u44 u45 u46 u47 u48 u49 u50 u51 u52 u53 u54 u55 u56 u57 u58 u59 u60 u61 : Value} (hK : K { tmps := #[u0, u1, u2, u3, u4, u5, u6, u7, u8, u9, u10, u11, u12, strV y, u14, u15, u16, u17, u18, u19, u20, u21, u22, u23, u24, u25, u26, u27, u28, u29, u30, u31, u32, u33, u34, u35, u36, u37, u38, strV y, u40, u41, u42, u43, u44, u45, u46, u47, u48, u49, u50, u51, u52, u53, u54, u55, u56, u57, u58, u59, u60, u61], defers := [] } W') :
    (rangeAssign lawRange).wpIn (Fence.wide.inRound l) (n - 1 - 1) Try.prog (Exit.then K (fun _ _ _ => False)) { tmps := #[u0, u1, u2, u3, u4, u5, u6, u7, u8, u9, u10, u11, u12, u13, u14, u15, u16, u17, u18, u19, u20, u21, u22, u23, u24, u25, u26, u27, u28, u29, u30, u31, u32, u33, u34, u35, u36, u37, u38, strV y, u40, u41, u42, u43, u44, u45, u46, u47, u48, u49, u50, u51, u52, u53, u54, u55, u56, u57, u58, u59, u60, u61], defers := [] } W' := by
  simp only [rangeAssign, lawBody, lawRange, lawInner, lawRound, lawLoop, lawCode, Try.f3, Option.getD_some, seqA, seqB, inside]
  gi_wp2
  exact hK

set_option maxRecDepth 100000 in
set_option maxHeartbeats 4000000 in
theorem head_go {n q7 q8 q9 gf r : Nat} {lb : Array Value} (ds : List Deferred) {W : World} {u0 u1 u2 u3 u4 u5 u6 u12 u13 u14 u15 u16 u17 u18 u19 u20 u21 u22 u23 u24 u25 u26 u27 u28 u29 u30 u31 u32 u33 u34 u35 u36 u37 u38 u39 u40 u41 u42 u43 u44 u45 u46 u47 u48 u49 u50 u51 u52 u53 u54 u55 u56 u57 u58 u59 u60 u61 : Value} (hr : (r : Int) < 2) {Q : Exit → Act → World → Prop} (hQ : ∀ v32 v33 : Value, Q .normal { tmps := #[u0, u1, u2, u3, u4, u5, u6, .pointer (some ⟨q7, 0, none⟩), .pointer (some ⟨q8, 0, none⟩), .pointer (some ⟨q9, 0, none⟩), .func (.func gf) #[] lb, .int .i64 (r : Int), u12, u13, u14, u15, u16, u17, u18, u19, u20, u21, u22, u23, u24, u25, u26, u27, u28, u29, u30, u31, v32, v33, u34, u35, u36, u37, u38, u39, u40, u41, u42, u43, u44, u45, u46, u47, u48, u49, u50, u51, u52, u53, u54, u55, u56, u57, u58, u59, u60, u61], defers := ds } W) :
    (seqA lawRound).wpIn Fence.wide n Try.prog Q { tmps := #[u0, u1, u2, u3, u4, u5, u6, .pointer (some ⟨q7, 0, none⟩), .pointer (some ⟨q8, 0, none⟩), .pointer (some ⟨q9, 0, none⟩), .func (.func gf) #[] lb, .int .i64 (r : Int), u12, u13, u14, u15, u16, u17, u18, u19, u20, u21, u22, u23, u24, u25, u26, u27, u28, u29, u30, u31, u32, u33, u34, u35, u36, u37, u38, u39, u40, u41, u42, u43, u44, u45, u46, u47, u48, u49, u50, u51, u52, u53, u54, u55, u56, u57, u58, u59, u60, u61], defers := ds } W := by
  simp only [lawBody, lawRange, lawInner, lawRound, lawLoop, lawCode, Try.f3, Option.getD_some, seqA, seqB, inside]
  gi_wp2
  first | exact hQ _ _ | skip

set_option maxRecDepth 100000 in
set_option maxHeartbeats 4000000 in
theorem head_at {n q7 q8 q9 gf r : Nat} {lb : Array Value} (ds : List Deferred) {W : World} {u0 u1 u2 u3 u4 u5 u6 u12 u13 u14 u15 u16 u17 u18 u19 u20 u21 u22 u23 u24 u25 u26 u27 u28 u29 u30 u31 u32 u33 u34 u35 u36 u37 u38 u39 u40 u41 u42 u43 u44 u45 u46 u47 u48 u49 u50 u51 u52 u53 u54 u55 u56 u57 u58 u59 u60 u61 : Value}  {Q : Exit → Act → World → Prop} (hQ : Q .normal { tmps := #[u0, u1, u2, u3, u4, u5, u6, .pointer (some ⟨q7, 0, none⟩), .pointer (some ⟨q8, 0, none⟩), .pointer (some ⟨q9, 0, none⟩), .func (.func gf) #[] lb, .int .i64 (r : Int), .pointer (some ⟨W.heap.size, 0, none⟩), u13, u14, u15, u16, u17, u18, u19, u20, u21, u22, u23, u24, u25, u26, u27, u28, u29, u30, u31, u32, u33, u34, u35, u36, u37, u38, u39, u40, u41, u42, u43, u44, u45, u46, u47, u48, u49, u50, u51, u52, u53, u54, u55, u56, u57, u58, u59, u60, u61], defers := ds } (W.alloc (.cells #[.int .i64 0] 3))) :
    (seqA lawInner).wpIn Fence.wide n Try.prog Q { tmps := #[u0, u1, u2, u3, u4, u5, u6, .pointer (some ⟨q7, 0, none⟩), .pointer (some ⟨q8, 0, none⟩), .pointer (some ⟨q9, 0, none⟩), .func (.func gf) #[] lb, .int .i64 (r : Int), u12, u13, u14, u15, u16, u17, u18, u19, u20, u21, u22, u23, u24, u25, u26, u27, u28, u29, u30, u31, u32, u33, u34, u35, u36, u37, u38, u39, u40, u41, u42, u43, u44, u45, u46, u47, u48, u49, u50, u51, u52, u53, u54, u55, u56, u57, u58, u59, u60, u61], defers := ds } W := by
  simp only [lawBody, lawRange, lawInner, lawRound, lawLoop, lawCode, Try.f3, Option.getD_some, seqA, seqB, inside]
  gi_wp2
  first | exact hQ  | skip

set_option maxRecDepth 100000 in
set_option maxHeartbeats 4000000 in
theorem head_nil {n q7 q8 q9 q gf r : Nat} {lb : Array Value} (ds : List Deferred) {W : World} {u0 u1 u2 u3 u4 u5 u6 u13 u14 u15 u16 u17 u18 u19 u20 u21 u22 u23 u24 u25 u26 u27 u28 u29 u30 u31 u32 u33 u34 u35 u36 u37 u38 u39 u40 u41 u42 u43 u44 u45 u46 u47 u48 u49 u50 u51 u52 u53 u54 u55 u56 u57 u58 u59 u60 u61 : Value}  {Q : Exit → Act → World → Prop} (hQ : ∀ v36 v37 : Value, Q .normal { tmps := #[u0, u1, u2, u3, u4, u5, u6, .pointer (some ⟨q7, 0, none⟩), .pointer (some ⟨q8, 0, none⟩), .pointer (some ⟨q9, 0, none⟩), .func (.func gf) #[] lb, .int .i64 (r : Int), .pointer (some ⟨q, 0, none⟩), u13, u14, u15, u16, u17, u18, u19, u20, u21, u22, u23, u24, u25, u26, u27, u28, u29, u30, u31, u32, u33, u34, u35, v36, v37, u38, u39, u40, u41, u42, u43, u44, u45, u46, u47, u48, u49, u50, u51, u52, u53, u54, u55, u56, u57, u58, u59, u60, u61], defers := ds } W) :
    (seqA (seqB lawInner)).wpIn Fence.wide n Try.prog Q { tmps := #[u0, u1, u2, u3, u4, u5, u6, .pointer (some ⟨q7, 0, none⟩), .pointer (some ⟨q8, 0, none⟩), .pointer (some ⟨q9, 0, none⟩), .func (.func gf) #[] lb, .int .i64 (r : Int), .pointer (some ⟨q, 0, none⟩), u13, u14, u15, u16, u17, u18, u19, u20, u21, u22, u23, u24, u25, u26, u27, u28, u29, u30, u31, u32, u33, u34, u35, u36, u37, u38, u39, u40, u41, u42, u43, u44, u45, u46, u47, u48, u49, u50, u51, u52, u53, u54, u55, u56, u57, u58, u59, u60, u61], defers := ds } W := by
  have heq := fun W => eq_nil gf lb W
  simp only [lawBody, lawRange, lawInner, lawRound, lawLoop, lawCode, Try.f3, Option.getD_some, seqA, seqB, inside]
  gi_wp2
  first | exact hQ _ _ | skip

set_option maxRecDepth 100000 in
set_option maxHeartbeats 4000000 in
theorem head_seq {n q7 q8 q9 q gf r : Nat} {lb : Array Value} (ds : List Deferred) {W : World} {u0 u1 u2 u3 u4 u5 u6 u13 u14 u15 u16 u17 u18 u19 u20 u21 u22 u23 u24 u25 u26 u27 u28 u29 u30 u31 u32 u33 u34 u35 u36 u37 u38 u39 u40 u41 u42 u43 u44 u45 u46 u47 u48 u49 u50 u51 u52 u53 u54 u55 u56 u57 u58 u59 u60 u61 : Value}  {Q : Exit → Act → World → Prop} (hQ : Q .normal { tmps := #[u0, u1, u2, u3, u4, u5, u6, .pointer (some ⟨q7, 0, none⟩), .pointer (some ⟨q8, 0, none⟩), .pointer (some ⟨q9, 0, none⟩), .func (.func gf) #[] lb, .int .i64 (r : Int), .pointer (some ⟨q, 0, none⟩), u13, u14, u15, u16, u17, u18, u19, u20, u21, u22, u23, u24, u25, u26, u27, u28, u29, u30, u31, u32, u33, u34, u35, u36, u37, .func (.func gf) #[] lb, u39, u40, u41, u42, u43, u44, u45, u46, u47, u48, u49, u50, u51, u52, u53, u54, u55, u56, u57, u58, u59, u60, u61], defers := ds } W) :
    (seqA (seqA (seqB (seqB lawInner)))).wpIn Fence.wide n Try.prog Q { tmps := #[u0, u1, u2, u3, u4, u5, u6, .pointer (some ⟨q7, 0, none⟩), .pointer (some ⟨q8, 0, none⟩), .pointer (some ⟨q9, 0, none⟩), .func (.func gf) #[] lb, .int .i64 (r : Int), .pointer (some ⟨q, 0, none⟩), u13, u14, u15, u16, u17, u18, u19, u20, u21, u22, u23, u24, u25, u26, u27, u28, u29, u30, u31, u32, u33, u34, u35, u36, u37, u38, u39, u40, u41, u42, u43, u44, u45, u46, u47, u48, u49, u50, u51, u52, u53, u54, u55, u56, u57, u58, u59, u60, u61], defers := ds } W := by
  simp only [lawBody, lawRange, lawInner, lawRound, lawLoop, lawCode, Try.f3, Option.getD_some, seqA, seqB, inside]
  gi_wp2
  first | exact hQ  | skip

set_option maxRecDepth 100000 in
set_option maxHeartbeats 4000000 in
theorem tail_len {n q7 q8 q9 q gf r len cap : Nat} {ax : Option Addr} {lb : Array Value} (ds : List Deferred) {W : World} {u0 u1 u2 u3 u4 u5 u6 u13 u14 u15 u16 u17 u18 u19 u20 u21 u22 u23 u24 u25 u26 u27 u28 u29 u30 u31 u32 u33 u34 u35 u36 u37 u38 u39 u40 u41 u42 u43 u44 u45 u46 u47 u48 u49 u50 u51 u52 u53 u54 u55 u56 u57 u58 u59 u60 u61 : Value} (d12 : W.cell? ⟨q, 0, none⟩ = some (.int .i64 (len : Int))) (d9 : W.cell? ⟨q9, 0, none⟩ = some (.slice ax len cap)) {Q : Exit → Act → World → Prop} (hQ : ∀ v57 v58 v59 v60 : Value, Q .normal { tmps := #[u0, u1, u2, u3, u4, u5, u6, .pointer (some ⟨q7, 0, none⟩), .pointer (some ⟨q8, 0, none⟩), .pointer (some ⟨q9, 0, none⟩), .func (.func gf) #[] lb, .int .i64 (r : Int), .pointer (some ⟨q, 0, none⟩), u13, u14, u15, u16, u17, u18, u19, u20, u21, u22, u23, u24, u25, u26, u27, u28, u29, u30, u31, u32, u33, u34, u35, u36, u37, u38, u39, u40, u41, u42, u43, u44, u45, u46, u47, u48, u49, u50, u51, u52, u53, u54, u55, u56, v57, v58, v59, v60, u61], defers := ds } W) :
    (seqB (seqB (seqB lawInner))).wpIn Fence.wide n Try.prog Q { tmps := #[u0, u1, u2, u3, u4, u5, u6, .pointer (some ⟨q7, 0, none⟩), .pointer (some ⟨q8, 0, none⟩), .pointer (some ⟨q9, 0, none⟩), .func (.func gf) #[] lb, .int .i64 (r : Int), .pointer (some ⟨q, 0, none⟩), u13, u14, u15, u16, u17, u18, u19, u20, u21, u22, u23, u24, u25, u26, u27, u28, u29, u30, u31, u32, u33, u34, u35, u36, u37, u38, u39, u40, u41, u42, u43, u44, u45, u46, u47, u48, u49, u50, u51, u52, u53, u54, u55, u56, u57, u58, u59, u60, u61], defers := ds } W := by
  simp only [lawBody, lawRange, lawInner, lawRound, lawLoop, lawCode, Try.f3, Option.getD_some, seqA, seqB, inside]
  gi_wp2
  first | exact hQ _ _ _ _ | skip

set_option maxRecDepth 100000 in
set_option maxHeartbeats 4000000 in
theorem tail_next {n q7 q8 q9 q gf r : Nat} {lb : Array Value} (ds : List Deferred) {W : World} {u0 u1 u2 u3 u4 u5 u6 u13 u14 u15 u16 u17 u18 u19 u20 u21 u22 u23 u24 u25 u26 u27 u28 u29 u30 u31 u32 u33 u34 u35 u36 u37 u38 u39 u40 u41 u42 u43 u44 u45 u46 u47 u48 u49 u50 u51 u52 u53 u54 u55 u56 u57 u58 u59 u60 u61 : Value} (hwr : wrap64 ((r : Int) + 1) = ((r + 1 : Nat) : Int)) {Q : Exit → Act → World → Prop} (hQ : ∀ v34 v35 : Value, Q .normal { tmps := #[u0, u1, u2, u3, u4, u5, u6, .pointer (some ⟨q7, 0, none⟩), .pointer (some ⟨q8, 0, none⟩), .pointer (some ⟨q9, 0, none⟩), .func (.func gf) #[] lb, .int .i64 ((r + 1 : Nat) : Int), .pointer (some ⟨q, 0, none⟩), u13, u14, u15, u16, u17, u18, u19, u20, u21, u22, u23, u24, u25, u26, u27, u28, u29, u30, u31, u32, u33, v34, v35, u36, u37, u38, u39, u40, u41, u42, u43, u44, u45, u46, u47, u48, u49, u50, u51, u52, u53, u54, u55, u56, u57, u58, u59, u60, u61], defers := ds } W) :
    (seqB (seqB lawRound)).wpIn Fence.wide n Try.prog Q { tmps := #[u0, u1, u2, u3, u4, u5, u6, .pointer (some ⟨q7, 0, none⟩), .pointer (some ⟨q8, 0, none⟩), .pointer (some ⟨q9, 0, none⟩), .func (.func gf) #[] lb, .int .i64 (r : Int), .pointer (some ⟨q, 0, none⟩), u13, u14, u15, u16, u17, u18, u19, u20, u21, u22, u23, u24, u25, u26, u27, u28, u29, u30, u31, u32, u33, u34, u35, u36, u37, u38, u39, u40, u41, u42, u43, u44, u45, u46, u47, u48, u49, u50, u51, u52, u53, u54, u55, u56, u57, u58, u59, u60, u61], defers := ds } W := by
  simp only [lawBody, lawRange, lawInner, lawRound, lawLoop, lawCode, Try.f3, Option.getD_some, seqA, seqB, inside]
  gi_wp2
  first | exact hQ _ _ | skip

set_option maxRecDepth 100000 in
set_option maxHeartbeats 4000000 in
theorem head_stop {n q7 q8 q9 gf r : Nat} {lb : Array Value} (ds : List Deferred) {W : World} {u0 u1 u2 u3 u4 u5 u6 u12 u13 u14 u15 u16 u17 u18 u19 u20 u21 u22 u23 u24 u25 u26 u27 u28 u29 u30 u31 u32 u33 u34 u35 u36 u37 u38 u39 u40 u41 u42 u43 u44 u45 u46 u47 u48 u49 u50 u51 u52 u53 u54 u55 u56 u57 u58 u59 u60 u61 : Value} (hr : ¬ (r : Int) < 2) {Q : Exit → Act → World → Prop} (hQ : ∀ v32 v33 : Value, Q (.exit 0) { tmps := #[u0, u1, u2, u3, u4, u5, u6, .pointer (some ⟨q7, 0, none⟩), .pointer (some ⟨q8, 0, none⟩), .pointer (some ⟨q9, 0, none⟩), .func (.func gf) #[] lb, .int .i64 (r : Int), u12, u13, u14, u15, u16, u17, u18, u19, u20, u21, u22, u23, u24, u25, u26, u27, u28, u29, u30, u31, v32, v33, u34, u35, u36, u37, u38, u39, u40, u41, u42, u43, u44, u45, u46, u47, u48, u49, u50, u51, u52, u53, u54, u55, u56, u57, u58, u59, u60, u61], defers := ds } W) :
    (seqA lawRound).wpIn Fence.wide n Try.prog Q { tmps := #[u0, u1, u2, u3, u4, u5, u6, .pointer (some ⟨q7, 0, none⟩), .pointer (some ⟨q8, 0, none⟩), .pointer (some ⟨q9, 0, none⟩), .func (.func gf) #[] lb, .int .i64 (r : Int), u12, u13, u14, u15, u16, u17, u18, u19, u20, u21, u22, u23, u24, u25, u26, u27, u28, u29, u30, u31, u32, u33, u34, u35, u36, u37, u38, u39, u40, u41, u42, u43, u44, u45, u46, u47, u48, u49, u50, u51, u52, u53, u54, u55, u56, u57, u58, u59, u60, u61], defers := ds } W := by
  simp only [lawBody, lawRange, lawInner, lawRound, lawLoop, lawCode, Try.f3, Option.getD_some, seqA, seqB, inside]
  have hr2 : (2 : Int) ≤ (r : Int) := by omega
  gi_wp2
  first | exact hQ _ _ | skip
end Go.Proofs.Ytbfdokfelolmbaa.TensW
end
