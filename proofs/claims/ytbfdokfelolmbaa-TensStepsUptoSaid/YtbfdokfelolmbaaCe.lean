import Derived.Test.YtbfdokfelolmbaaCd
/-
  The law.
-/
set_option linter.all false
section
open Go.RowKit Go.Shelf
namespace Go.Proofs.Ytbfdokfelolmbaa.TensW
attribute [local go_sem] Oper.semAt_some
set_option linter.unusedSimpArgs false
set_option linter.unusedVariables false

theorem round_eq : lawRound = .seq (seqA lawRound) (.seq (.block 1 lawInner) (seqB (seqB lawRound))) := by
  simp only [lawBody, lawRange, lawInner, lawRound, lawLoop, lawCode, Try.f3, Option.getD_some, seqA, seqB, inside]
theorem inner_eq : lawInner = .seq (seqA lawInner) (.seq (seqA (seqB lawInner)) (.seq (.seq (seqA (seqA (seqB (seqB lawInner)))) (.block 2 lawRange)) (seqB (seqB (seqB lawInner))))) := by
  simp only [lawBody, lawRange, lawInner, lawRound, lawLoop, lawCode, Try.f3, Option.getD_some, seqA, seqB, inside]
theorem range_eq : lawRange = .rangeFunc (.tmp 38) #[39] (rangeAssign lawRange) lawBody := by
  simp only [rangeAssign, lawBody, lawRange, lawInner, lawRound, lawLoop, lawCode, Try.f3, Option.getD_some, seqA, seqB, inside]

set_option maxRecDepth 100000 in
set_option maxHeartbeats 4000000 in
theorem round_in (n : Nat) (hn : 5 ≤ n) {gf : Nat} (eg : ∀ args w, (callFunc gf args).run Try.prog w = .ok (.enter gf args) w) {lb : Array Value} {xs want : List (List UInt8)} {k : Nat} (hwant : HW want xs k) (hk200 : k ≤ 200) {w Wr : World} {b9 cap r : Nat} {ax : Option Addr}
    (hbr : BaseF w k b9 (.slice ax want.length cap) want Wr)
    (hseq : SeqStopsK Fence.wide (n - 1) Try.prog gf lb (fun x : List UInt8 => #[strV x]) (Below Wr.heap.size) (fun ys => ys = xs) (fun pre => pre <+: xs) xs.length (Wr.alloc (.cells #[.int .i64 0] 3)))
    (hr : r < 2) (ds : List Deferred) {u0 u1 u2 u3 u4 u5 u6 u12 u13 u14 u15 u16 u17 u18 u19 u20 u21 u22 u23 u24 u25 u26 u27 u28 u29 u30 u31 u32 u33 u34 u35 u36 u37 u38 u39 u40 u41 u42 u43 u44 u45 u46 u47 u48 u49 u50 u51 u52 u53 u54 u55 u56 u57 u58 u59 u60 u61 : Value} {Q : Exit → Act → World → Prop}
    (hQ : ∀ (D : Nat) (W' : World) (v0 v1 v2 v3 v4 v5 v6 v12 v13 v14 v15 v16 v17 v18 v19 v20 v21 v22 v23 v24 v25 v26 v27 v28 v29 v30 v31 v32 v33 v34 v35 v36 v37 v38 v39 v40 v41 v42 v43 v44 v45 v46 v47 v48 v49 v50 v51 v52 v53 v54 v55 v56 v57 v58 v59 v60 v61 : Value), Below Wr.heap.size Wr W' → Wr.heap.size ≤ D → W'.heap[D]? = some (.deferred (some [])) → Q .normal { tmps := #[v0, v1, v2, v3, v4, v5, v6, .pointer (some ⟨w.heap.size, 0, none⟩), .pointer (some ⟨w.heap.size + 1, 0, none⟩), .pointer (some ⟨b9, 0, none⟩), .func (.func gf) #[] lb, .int .i64 ((r + 1 : Nat) : Int), v12, v13, v14, v15, v16, v17, v18, v19, v20, v21, v22, v23, v24, v25, v26, v27, v28, v29, v30, v31, v32, v33, v34, v35, v36, v37, v38, v39, v40, v41, v42, v43, v44, v45, v46, v47, v48, v49, v50, v51, v52, v53, v54, v55, v56, v57, v58, v59, v60, v61], defers := { target := .collected D, args := #[] } :: ds } W') :
    lawRound.wpIn Fence.wide n Try.prog Q { tmps := #[u0, u1, u2, u3, u4, u5, u6, .pointer (some ⟨w.heap.size, 0, none⟩), .pointer (some ⟨w.heap.size + 1, 0, none⟩), .pointer (some ⟨b9, 0, none⟩), .func (.func gf) #[] lb, .int .i64 (r : Int), u12, u13, u14, u15, u16, u17, u18, u19, u20, u21, u22, u23, u24, u25, u26, u27, u28, u29, u30, u31, u32, u33, u34, u35, u36, u37, u38, u39, u40, u41, u42, u43, u44, u45, u46, u47, u48, u49, u50, u51, u52, u53, u54, u55, u56, u57, u58, u59, u60, u61], defers := ds } Wr := by
  have h1 : 1 ≤ n := by omega
  have hri : (r : Int) < 2 := by omega
  have hwr : wrap64 ((r : Int) + 1) = ((r + 1 : Nat) : Int) := by unfold wrap64; omega
  rw [round_eq]
  refine wpIn_seq (head_go ds hri ?_)
  intro v32 v33
  change Code.wpIn _ _ _ _ _ _ _
  refine wpIn_seq (wpIn_block ?_)
  rw [inner_eq]
  refine wpIn_seq (head_at ds ?_)
  change Code.wpIn _ _ _ _ _ _ _
  refine wpIn_seq (head_nil ds ?_)
  intro v36 v37
  change Code.wpIn _ _ _ _ _ _ _
  refine wpIn_seq (wpIn_seq (head_seq ds ?_))
  change Code.wpIn _ _ _ _ _ _ _
  refine wpIn_block ?_
  rw [range_eq]
  have cN := cell_new Wr (.int .i64 0) 3
  have fN : (Wr.alloc (.cells #[.int .i64 0] 3)).frozen? ⟨Wr.heap.size, 0, none⟩ = false := by
    have h := World.alloc_heap_new Wr (.cells #[.int .i64 0] 3)
    unfold World.frozen?
    simp only [h]
    rfl
  have hBN : Below Wr.heap.size Wr (Wr.alloc (.cells #[.int .i64 0] 3)) := (Below.refl _ _).alloc (Nat.le_refl _) _
  have hl7 := cell_lt hbr.c7
  have hl8 := cell_lt hbr.c8
  have hl9 := cell_lt hbr.c9
  have hx7 : w.heap.size < Wr.heap.size := hl7
  obtain ⟨_, _, hax, htx⟩ := hbr.texts
  obtain ⟨rfl, rfl⟩ : _ ∧ _ := by simpa using hax
  have after : ∀ (D : Nat) (W' : World) (len : Nat), want.length = len → W'.cell? ⟨Wr.heap.size, 0, none⟩ = some (.int .i64 (len : Int)) → Below Wr.heap.size Wr W' → Wr.heap.size ≤ D → W'.heap[D]? = some (.deferred (some [])) →
      (seqB (seqB (seqB lawInner))).wpIn Fence.wide n Try.prog (Exit.inBlock 1 (Exit.then (fun a w => (seqB (seqB lawRound)).wpIn Fence.wide n Try.prog Q a w) Q)) { tmps := #[u0, u1, u2, u3, u4, u5, u6, .pointer (some ⟨w.heap.size, 0, none⟩), .pointer (some ⟨w.heap.size + 1, 0, none⟩), .pointer (some ⟨b9, 0, none⟩), .func (.func gf) #[] lb, .int .i64 (r : Int), .pointer (some ⟨Wr.heap.size, 0, none⟩), u13, u14, u15, u16, u17, u18, u19, u20, u21, u22, u23, u24, u25, u26, u27, u28, u29, u30, u31, v32, v33, u34, u35, v36, v37, .func (.func gf) #[] lb, u39, u40, u41, u42, u43, u44, u45, u46, u47, u48, u49, u50, u51, u52, u53, u54, u55, u56, u57, u58, u59, u60, u61], defers := { target := .collected D, args := #[] } :: ds } W' := by
    intro D W' len hlen d12 hbW hD hK
    subst hlen
    refine tail_len _ d12 ((hbW.cell (p := ⟨b9, 0, none⟩) hl9).trans hbr.c9) ?_
    intro v57 v58 v59 v60
    change Code.wpIn _ _ _ _ _ _ _
    refine tail_next _ hwr ?_
    intro v34 v35
    exact hQ D W' _ _ _ _ _ _ _ _ _ _ _ _ _ _ _ _ _ _ _ _ _ _ _ _ _ _ _ _ _ _ _ _ _ _ _ _ _ _ _ _ _ _ _ _ _ _ _ _ _ _ _ _ _ _ _ _ _ hbW hD hK
  refine wpIn_rangeFunc_ownF rfl h1 (gf := gf) (lb := lb) rfl trivial eg hseq belowK_t (belowK_b (by simp)) (Below.refl _ _) (fun _ => rfl)
    (InvR Wr k want) (ExR Wr k want)
    (OwnFrom.and (OwnFrom.and (Own.from (fun s A B row hs hg hr => ⟨cell_kept hs.1 hg hr, (frozen_kept hs.1 hg hr).trans hs.2⟩) _) (ownFrom_pure _ _)) (ownFrom_below (Nat.le_refl _) (by simp)))
    (fun cd s A B row hs hg hr => by
      rcases hs with hs | ⟨h1, h2, h3, h4⟩
      · exact .inl hs
      · exact .inr ⟨h1, h2, cell_kept h3 hg (fun r e => (hr r e).2), ownFrom_below (β := Unit) (Nat.le_refl _) (by simp) () A B row h4 hg hr⟩)
    ⟨⟨⟨cN, fN⟩, by simp, by intro i h; simp at h⟩, hBN⟩
    (fun y => { tmps := #[u0, u1, u2, u3, u4, u5, u6, .pointer (some ⟨w.heap.size, 0, none⟩), .pointer (some ⟨w.heap.size + 1, 0, none⟩), .pointer (some ⟨b9, 0, none⟩), .func (.func gf) #[] lb, .int .i64 (r : Int), .pointer (some ⟨Wr.heap.size, 0, none⟩), strV y, u14, u15, u16, u17, u18, u19, u20, u21, u22, u23, u24, u25, u26, u27, u28, u29, u30, u31, v32, v33, u34, u35, v36, v37, .func (.func gf) #[] lb, strV y, u40, u41, u42, u43, u44, u45, u46, u47, u48, u49, u50, u51, u52, u53, u54, u55, u56, u57, u58, u59, u60, u61], defers := [] }) ?assign ?body ?done ?stop
  case assign =>
    intro l y W' K hK
    clear hseq hQ after
    simp only [rangeAssign, lawBody, lawRange, lawInner, lawRound, lawLoop, lawCode, Try.f3, Option.getD_some, seqA, seqB, inside]
    gi_wp2
    exact hK
  case body =>
    rintro l pre y W' ⟨⟨⟨d12, e12⟩, hpk, hpre⟩, hbW⟩ _
    have d7 := (hbW.cell (p := ⟨w.heap.size, 0, none⟩) hl7).trans hbr.c7
    have d8 := (hbW.cell (p := ⟨w.heap.size + 1, 0, none⟩) hl8).trans hbr.c8
    have g8 := (below_frozen hbW (p := ⟨w.heap.size + 1, 0, none⟩) hl8).trans hbr.f8
    have d9 := (hbW.cell (p := ⟨b9, 0, none⟩) hl9).trans hbr.c9
    have hbad : want[pre.length]? ≠ some y → ∃ i, i ≤ k ∧ i < (pre ++ [y]).length ∧ (pre ++ [y])[i]? ≠ want[i]? := by
      intro hne
      refine ⟨pre.length, hpk, by simp, ?_⟩
      rw [List.getElem?_append_right (Nat.le_refl _), Nat.sub_self]
      exact fun h => hne (by rw [← h]; rfl)
    rcases Nat.lt_or_ge pre.length want.length with hlt | hge
    · obtain ⟨tb, tf, rfl, htb, htc⟩ := htx (by rintro rfl; simp at hlt)
      have dt : W'.cell? ⟨tb, tf + pre.length, none⟩ = some (strV want[pre.length]) := (hbW.cell (p := ⟨tb, tf + pre.length, none⟩) (cell_lt (htc _ hlt))).trans (htc _ hlt)
      have hz0 : want[pre.length]? = some want[pre.length] := List.getElem?_eq_getElem hlt
      by_cases hy : want[pre.length] = y
      · refine body_good (z := want[pre.length]) (hzy := hy) l n k pre.length _ _ _ _ tb tf cap want.length y W' _ _ _ _ _ _ _ _ _ _ _ _ _ _ _ _ _ _ _ _ _ _ _ _ _ _ _ _ _ _ _ _ _ _ _ _ _ _ _ _ _ _ _ _ _ _ _ _ _ _ _ _ _ _ _ _ _ hk200 hpk d7 d12 e12 hx7 d9 hlt dt _ ?_ ?_
        · intro hkp a'
          have hpk2 : pre.length = k := by omega
          exact ⟨KeepsOthers.setCell _ _ _, .inr ⟨rfl, by simp [hpk2], by rw [hpk2]; exact World.cell?_setCell_same' _ _ _ (by rw [d12]; rfl), hbW.setCell (p := ⟨Wr.heap.size, 0, none⟩) (Nat.le_refl _) _⟩⟩
        · intro hkp a'
          refine ⟨KeepsOthers.setCell _ _ _, (Below.refl Wr.heap.size W').setCell (p := ⟨Wr.heap.size, 0, none⟩) (Nat.le_refl _) _, ⟨⟨?_, by rw [World.frozen?_setCell]; exact e12⟩, by simp; omega, ?_⟩, hbW.setCell (p := ⟨Wr.heap.size, 0, none⟩) (Nat.le_refl _) _⟩
          · rw [List.length_append]; exact World.cell?_setCell_same' _ _ _ (by rw [d12]; rfl)
          · intro i hi
            rcases Nat.lt_or_ge i pre.length with h | h
            · rw [List.getElem?_append_left h]; exact hpre i h
            · have hip : i = pre.length := by simp at hi; omega
              rw [List.getElem?_append_right h, hip, Nat.sub_self, hz0, hy]; rfl
      · refine body_other (z := want[pre.length]) (hzy := by simpa using hy) l n k pre.length Wr.heap.size _ _ _ tb tf cap want.length y W' _ _ _ _ _ _ _ _ _ _ _ _ _ _ _ _ _ _ _ _ _ _ _ _ _ _ _ _ _ _ _ _ _ _ _ _ _ _ _ _ _ _ _ _ _ _ _ _ _ _ _ _ _ _ _ _ _ hk200 hpk d7 d12 e12 hx7 d9 hlt dt d8 g8 _ ?_
        intro a'
        exact ⟨KeepsOthers.setCell _ _ _, .inl ⟨rfl, hbad (by rw [hz0]; intro h; exact hy (Option.some.inj h))⟩⟩
    · refine body_more (ax := ax) l n k pre.length Wr.heap.size _ _ _ 0 0 cap want.length y W' _ _ _ _ _ _ _ _ _ _ _ _ _ _ _ _ _ _ _ _ _ _ _ _ _ _ _ _ _ _ _ _ _ _ _ _ _ _ _ _ _ _ _ _ _ _ _ _ _ _ _ _ _ _ _ _ _ hk200 hpk d7 d12 e12 hx7 d9 hge d8 g8 _ ?_
      intro a'
      exact ⟨KeepsOthers.setCell _ _ _, .inl ⟨rfl, hbad (by rw [List.getElem?_eq_none hge]; simp)⟩⟩
  case done =>
    rintro D ys W' hD rfl ⟨⟨⟨d12, e12⟩, hpk, hpre⟩, hbW⟩ hKD
    exact after D W' _ (by rw [show want = ys.take (k + 1) from hwant, List.length_take]; omega) d12 hbW (by simp at hD; omega) hKD
  case stop =>
    rintro D cd pre W' hD hpre hIx hKD
    rcases hIx with ⟨rfl, i, hik, hil, hne⟩ | ⟨rfl, hpl, d12, hbW⟩
    · exfalso
      apply hne
      rw [show want = xs.take (k + 1) from hwant, List.getElem?_take_of_lt (by omega)]
      obtain ⟨t, rfl⟩ := hpre
      rw [List.getElem?_append_left hil]
    · have hle := hpre.length_le
      exact wpIn_exit (after D W' _ (by rw [show want = xs.take (k + 1) from hwant, List.length_take]; omega) d12 hbW (by simp at hD; omega) hKD)
end Go.Proofs.Ytbfdokfelolmbaa.TensW
end

section
open Go.RowKit Go.Shelf
namespace Go.Proofs.Ytbfdokfelolmbaa.TensW
attribute [local go_sem] Oper.semAt_some
set_option linter.unusedSimpArgs false
set_option linter.unusedVariables false

set_option maxRecDepth 100000 in
set_option maxHeartbeats 4000000 in
theorem p_box {n : Nat} {m : Int} {W : World} {u0 u1 u2 u4 u5 u6 u7 u8 u9 u10 u11 u12 u13 u14 u15 u16 u17 u18 u19 u20 u21 u22 u23 u24 u25 u26 u27 u28 u29 u30 u31 u32 u33 u34 u35 u36 u37 u38 u39 u40 u41 u42 u43 u44 u45 u46 u47 u48 u49 u50 u51 u52 u53 u54 u55 u56 u57 u58 u59 u60 u61 : Value} {Q : Exit → Act → World → Prop} (hQ : Q .normal { tmps := #[u0, u1, u2, .int .i64 m, u4, u5, u6, .pointer (some ⟨W.heap.size, 0, none⟩), .pointer (some ⟨W.heap.size + 1, 0, none⟩), u9, u10, u11, u12, u13, u14, u15, u16, u17, u18, u19, u20, u21, u22, u23, u24, u25, u26, u27, u28, u29, u30, u31, u32, u33, u34, u35, u36, u37, u38, u39, u40, u41, u42, u43, u44, u45, u46, u47, u48, u49, u50, u51, u52, u53, u54, u55, u56, u57, u58, u59, u60, u61], defers := [] } ((W.alloc (.cells #[.int .i64 m] 3)).alloc (.cells #[.bool false] 4))) :
    (seqA (lawCode)).wpIn Fence.wide n Try.prog Q { tmps := #[u0, u1, u2, .int .i64 m, u4, u5, u6, u7, u8, u9, u10, u11, u12, u13, u14, u15, u16, u17, u18, u19, u20, u21, u22, u23, u24, u25, u26, u27, u28, u29, u30, u31, u32, u33, u34, u35, u36, u37, u38, u39, u40, u41, u42, u43, u44, u45, u46, u47, u48, u49, u50, u51, u52, u53, u54, u55, u56, u57, u58, u59, u60, u61], defers := [] } W := by
  simp only [lawBody, lawRange, lawInner, lawRound, lawLoop, lawCode, Try.f3, Option.getD_some, seqA, seqB, inside]
  gi_wp2
  first | exact hQ | skip

set_option maxRecDepth 100000 in
set_option maxHeartbeats 4000000 in
theorem p_low {n q7 q8 : Nat} {m : Int} {W : World} {u0 u1 u2 u4 u5 u6 u9 u10 u11 u12 u13 u14 u15 u16 u17 u18 u19 u20 u21 u22 u23 u24 u25 u26 u27 u28 u29 u30 u31 u32 u33 u34 u35 u36 u37 u38 u39 u40 u41 u42 u43 u44 u45 u46 u47 u48 u49 u50 u51 u52 u53 u54 u55 u56 u57 u58 u59 u60 u61 : Value} (c7 : W.cell? ⟨q7, 0, none⟩ = some (.int .i64 m)) (f7 : W.frozen? ⟨q7, 0, none⟩ = false) (hm : m < 0) {Q : Exit → Act → World → Prop} (hQ : ∀ v14 v15 v16 v17 v18 v19 : Value, Q .normal { tmps := #[u0, u1, u2, .int .i64 m, u4, u5, u6, .pointer (some ⟨q7, 0, none⟩), .pointer (some ⟨q8, 0, none⟩), u9, u10, u11, u12, u13, v14, v15, v16, v17, v18, v19, u20, u21, u22, u23, u24, u25, u26, u27, u28, u29, u30, u31, u32, u33, u34, u35, u36, u37, u38, u39, u40, u41, u42, u43, u44, u45, u46, u47, u48, u49, u50, u51, u52, u53, u54, u55, u56, u57, u58, u59, u60, u61], defers := [] } (W.setCell ⟨q7, 0, none⟩ (.int .i64 200))) :
    (seqA (seqB (lawCode))).wpIn Fence.wide n Try.prog Q { tmps := #[u0, u1, u2, .int .i64 m, u4, u5, u6, .pointer (some ⟨q7, 0, none⟩), .pointer (some ⟨q8, 0, none⟩), u9, u10, u11, u12, u13, u14, u15, u16, u17, u18, u19, u20, u21, u22, u23, u24, u25, u26, u27, u28, u29, u30, u31, u32, u33, u34, u35, u36, u37, u38, u39, u40, u41, u42, u43, u44, u45, u46, u47, u48, u49, u50, u51, u52, u53, u54, u55, u56, u57, u58, u59, u60, u61], defers := [] } W := by
  simp only [lawBody, lawRange, lawInner, lawRound, lawLoop, lawCode, Try.f3, Option.getD_some, seqA, seqB, inside]
  gi_wp2
  first | exact hQ _ _ _ _ _ _ | skip

set_option maxRecDepth 100000 in
set_option maxHeartbeats 4000000 in
theorem p_high {n q7 q8 : Nat} {m : Int} {W : World} {u0 u1 u2 u4 u5 u6 u9 u10 u11 u12 u13 u14 u15 u16 u17 u18 u19 u20 u21 u22 u23 u24 u25 u26 u27 u28 u29 u30 u31 u32 u33 u34 u35 u36 u37 u38 u39 u40 u41 u42 u43 u44 u45 u46 u47 u48 u49 u50 u51 u52 u53 u54 u55 u56 u57 u58 u59 u60 u61 : Value} (c7 : W.cell? ⟨q7, 0, none⟩ = some (.int .i64 m)) (f7 : W.frozen? ⟨q7, 0, none⟩ = false) (hm : 0 ≤ m) (hm2 : 200 < m) {Q : Exit → Act → World → Prop} (hQ : ∀ v14 v15 v16 v17 v18 v19 : Value, Q .normal { tmps := #[u0, u1, u2, .int .i64 m, u4, u5, u6, .pointer (some ⟨q7, 0, none⟩), .pointer (some ⟨q8, 0, none⟩), u9, u10, u11, u12, u13, v14, v15, v16, v17, v18, v19, u20, u21, u22, u23, u24, u25, u26, u27, u28, u29, u30, u31, u32, u33, u34, u35, u36, u37, u38, u39, u40, u41, u42, u43, u44, u45, u46, u47, u48, u49, u50, u51, u52, u53, u54, u55, u56, u57, u58, u59, u60, u61], defers := [] } (W.setCell ⟨q7, 0, none⟩ (.int .i64 200))) :
    (seqA (seqB (lawCode))).wpIn Fence.wide n Try.prog Q { tmps := #[u0, u1, u2, .int .i64 m, u4, u5, u6, .pointer (some ⟨q7, 0, none⟩), .pointer (some ⟨q8, 0, none⟩), u9, u10, u11, u12, u13, u14, u15, u16, u17, u18, u19, u20, u21, u22, u23, u24, u25, u26, u27, u28, u29, u30, u31, u32, u33, u34, u35, u36, u37, u38, u39, u40, u41, u42, u43, u44, u45, u46, u47, u48, u49, u50, u51, u52, u53, u54, u55, u56, u57, u58, u59, u60, u61], defers := [] } W := by
  simp only [lawBody, lawRange, lawInner, lawRound, lawLoop, lawCode, Try.f3, Option.getD_some, seqA, seqB, inside]
  gi_wp2
  first | exact hQ _ _ _ _ _ _ | skip

set_option maxRecDepth 100000 in
set_option maxHeartbeats 4000000 in
theorem p_fit {n q7 q8 : Nat} {m : Int} {W : World} {u0 u1 u2 u4 u5 u6 u9 u10 u11 u12 u13 u14 u15 u16 u17 u18 u19 u20 u21 u22 u23 u24 u25 u26 u27 u28 u29 u30 u31 u32 u33 u34 u35 u36 u37 u38 u39 u40 u41 u42 u43 u44 u45 u46 u47 u48 u49 u50 u51 u52 u53 u54 u55 u56 u57 u58 u59 u60 u61 : Value} (c7 : W.cell? ⟨q7, 0, none⟩ = some (.int .i64 m)) (hm : 0 ≤ m) (hm2 : m ≤ 200) {Q : Exit → Act → World → Prop} (hQ : ∀ v14 v15 v16 v17 v18 v19 : Value, Q .normal { tmps := #[u0, u1, u2, .int .i64 m, u4, u5, u6, .pointer (some ⟨q7, 0, none⟩), .pointer (some ⟨q8, 0, none⟩), u9, u10, u11, u12, u13, v14, v15, v16, v17, v18, v19, u20, u21, u22, u23, u24, u25, u26, u27, u28, u29, u30, u31, u32, u33, u34, u35, u36, u37, u38, u39, u40, u41, u42, u43, u44, u45, u46, u47, u48, u49, u50, u51, u52, u53, u54, u55, u56, u57, u58, u59, u60, u61], defers := [] } W) :
    (seqA (seqB (lawCode))).wpIn Fence.wide n Try.prog Q { tmps := #[u0, u1, u2, .int .i64 m, u4, u5, u6, .pointer (some ⟨q7, 0, none⟩), .pointer (some ⟨q8, 0, none⟩), u9, u10, u11, u12, u13, u14, u15, u16, u17, u18, u19, u20, u21, u22, u23, u24, u25, u26, u27, u28, u29, u30, u31, u32, u33, u34, u35, u36, u37, u38, u39, u40, u41, u42, u43, u44, u45, u46, u47, u48, u49, u50, u51, u52, u53, u54, u55, u56, u57, u58, u59, u60, u61], defers := [] } W := by
  simp only [lawBody, lawRange, lawInner, lawRound, lawLoop, lawCode, Try.f3, Option.getD_some, seqA, seqB, inside]
  gi_wp2
  first | exact hQ _ _ _ _ _ _ | skip

set_option maxRecDepth 100000 in
set_option maxHeartbeats 4000000 in
theorem p_ref {n q7 q8 k : Nat} (hn1 : 1 ≤ n) {a b c : List UInt8} {want : List (List UInt8)} {W : World} {u3 u4 u5 u6 u9 u10 u11 u12 u13 u14 u15 u16 u17 u18 u19 u20 u21 u22 u23 u24 u25 u26 u27 u28 u29 u30 u31 u32 u33 u34 u35 u36 u37 u38 u39 u40 u41 u42 u43 u44 u45 u46 u47 u48 u49 u50 u51 u52 u53 u54 u55 u56 u57 u58 u59 u60 u61 : Value} (hk : k ≤ 200) (c7 : W.cell? ⟨q7, 0, none⟩ = some (.int .i64 (k : Int)))
    (h4 : ∀ W, CallsIn Fence.wide (n - 1) Try.prog 4 #[strV a, strV b, strV c, .int .i64 ((k + 1 : Nat) : Int)] W fun e W' => ∃ x, e = .returned x ∧ Texts W' W.heap.size x want ∧ Below W.heap.size W W') {Q : Exit → Act → World → Prop}
    (hQ : ∀ (w2 : World) (ax : Option Addr) (cap : Nat), Texts w2 W.heap.size (.slice ax want.length cap) want → Below W.heap.size W w2 → ∀ v20 v21 v22 v23 v24 v25 : Value, Q .normal { tmps := #[strV a, strV b, strV c, u3, u4, u5, u6, .pointer (some ⟨q7, 0, none⟩), .pointer (some ⟨q8, 0, none⟩), .pointer (some ⟨w2.heap.size, 0, none⟩), u10, u11, u12, u13, u14, u15, u16, u17, u18, u19, v20, v21, v22, v23, v24, v25, u26, u27, u28, u29, u30, u31, u32, u33, u34, u35, u36, u37, u38, u39, u40, u41, u42, u43, u44, u45, u46, u47, u48, u49, u50, u51, u52, u53, u54, u55, u56, u57, u58, u59, u60, u61], defers := [] } (w2.alloc (.cells #[.slice ax want.length cap] 22))) :
    (seqA (seqB (seqB (lawCode)))).wpIn Fence.wide n Try.prog Q { tmps := #[strV a, strV b, strV c, u3, u4, u5, u6, .pointer (some ⟨q7, 0, none⟩), .pointer (some ⟨q8, 0, none⟩), u9, u10, u11, u12, u13, u14, u15, u16, u17, u18, u19, u20, u21, u22, u23, u24, u25, u26, u27, u28, u29, u30, u31, u32, u33, u34, u35, u36, u37, u38, u39, u40, u41, u42, u43, u44, u45, u46, u47, u48, u49, u50, u51, u52, u53, u54, u55, u56, u57, u58, u59, u60, u61], defers := [] } W := by
  have hw1 : wrap64 ((k : Int) + 1) = ((k + 1 : Nat) : Int) := by unfold wrap64; omega
  simp only [lawBody, lawRange, lawInner, lawRound, lawLoop, lawCode, Try.f3, Option.getD_some, seqA, seqB, inside]
  gi_wp2_with (refine ⟨trivial, ?_⟩; gi_at_call 4; refine (h4 _).mono ?_; rintro e1 w2 ⟨x, rfl, htx0, hb1⟩; have htx := htx0; obtain ⟨ax, cap, rfl, _⟩ := htx0)
  first | exact hQ _ _ _ htx hb1 _ _ _ _ _ _ | skip

set_option maxRecDepth 100000 in
set_option maxHeartbeats 4000000 in
theorem p_prog {n q7 q8 q9 gf : Nat} (hn1 : 1 ≤ n) {a b c : List UInt8} {xs : List (List UInt8)} {W : World} {u3 u4 u5 u6 u10 u11 u12 u13 u14 u15 u16 u17 u18 u19 u20 u21 u22 u23 u24 u25 u26 u27 u28 u29 u30 u31 u32 u33 u34 u35 u36 u37 u38 u39 u40 u41 u42 u43 u44 u45 u46 u47 u48 u49 u50 u51 u52 u53 u54 u55 u56 u57 u58 u59 u60 u61 : Value}
    (h5 : ∀ W, CallsIn Fence.wide (n - 1) Try.prog 5 #[strV a, strV b, strV c] W fun e W' => ∃ lb, e = .returned (.func (.func gf) #[] lb) ∧ Below W.heap.size W W' ∧ Seq5 (n - 1) gf xs W' lb) {Q : Exit → Act → World → Prop}
    (hQ : ∀ (w2 : World) (lb : Array Value), Below W.heap.size W w2 → Seq5 (n - 1) gf xs w2 lb → ∀ v26 v27 v28 v29 : Value, Q .normal { tmps := #[strV a, strV b, strV c, u3, u4, u5, u6, .pointer (some ⟨q7, 0, none⟩), .pointer (some ⟨q8, 0, none⟩), .pointer (some ⟨q9, 0, none⟩), .func (.func gf) #[] lb, u11, u12, u13, u14, u15, u16, u17, u18, u19, u20, u21, u22, u23, u24, u25, v26, v27, v28, v29, u30, u31, u32, u33, u34, u35, u36, u37, u38, u39, u40, u41, u42, u43, u44, u45, u46, u47, u48, u49, u50, u51, u52, u53, u54, u55, u56, u57, u58, u59, u60, u61], defers := [] } w2) :
    (seqA (seqB (seqB (seqB (lawCode))))).wpIn Fence.wide n Try.prog Q { tmps := #[strV a, strV b, strV c, u3, u4, u5, u6, .pointer (some ⟨q7, 0, none⟩), .pointer (some ⟨q8, 0, none⟩), .pointer (some ⟨q9, 0, none⟩), u10, u11, u12, u13, u14, u15, u16, u17, u18, u19, u20, u21, u22, u23, u24, u25, u26, u27, u28, u29, u30, u31, u32, u33, u34, u35, u36, u37, u38, u39, u40, u41, u42, u43, u44, u45, u46, u47, u48, u49, u50, u51, u52, u53, u54, u55, u56, u57, u58, u59, u60, u61], defers := [] } W := by
  simp only [lawBody, lawRange, lawInner, lawRound, lawLoop, lawCode, Try.f3, Option.getD_some, seqA, seqB, inside]
  gi_wp2_with (refine ⟨trivial, ?_⟩; gi_at_call 5; refine (h5 _).mono ?_; rintro e1 w2 ⟨lb, rfl, hb1, hsq⟩)
  first | exact hQ _ _ hb1 hsq _ _ _ _ | skip

set_option maxRecDepth 100000 in
set_option maxHeartbeats 4000000 in
theorem p_nil {n gf : Nat} {lb : Array Value} {W : World} {u0 u1 u2 u3 u4 u5 u6 u7 u8 u9 u11 u12 u13 u14 u15 u16 u17 u18 u19 u20 u21 u22 u23 u24 u25 u26 u27 u28 u29 u30 u31 u32 u33 u34 u35 u36 u37 u38 u39 u40 u41 u42 u43 u44 u45 u46 u47 u48 u49 u50 u51 u52 u53 u54 u55 u56 u57 u58 u59 u60 u61 : Value} {Q : Exit → Act → World → Prop} (hQ : ∀ v30 v31 : Value, Q .normal { tmps := #[u0, u1, u2, u3, u4, u5, u6, u7, u8, u9, .func (.func gf) #[] lb, u11, u12, u13, u14, u15, u16, u17, u18, u19, u20, u21, u22, u23, u24, u25, u26, u27, u28, u29, v30, v31, u32, u33, u34, u35, u36, u37, u38, u39, u40, u41, u42, u43, u44, u45, u46, u47, u48, u49, u50, u51, u52, u53, u54, u55, u56, u57, u58, u59, u60, u61], defers := [] } W) :
    (seqA (seqB (seqB (seqB (seqB (lawCode)))))).wpIn Fence.wide n Try.prog Q { tmps := #[u0, u1, u2, u3, u4, u5, u6, u7, u8, u9, .func (.func gf) #[] lb, u11, u12, u13, u14, u15, u16, u17, u18, u19, u20, u21, u22, u23, u24, u25, u26, u27, u28, u29, u30, u31, u32, u33, u34, u35, u36, u37, u38, u39, u40, u41, u42, u43, u44, u45, u46, u47, u48, u49, u50, u51, u52, u53, u54, u55, u56, u57, u58, u59, u60, u61], defers := [] } W := by
  have heq := fun W => eq_nil gf lb W
  simp only [lawBody, lawRange, lawInner, lawRound, lawLoop, lawCode, Try.f3, Option.getD_some, seqA, seqB, inside]
  gi_wp2
  first | exact hQ _ _ | skip

set_option maxRecDepth 100000 in
set_option maxHeartbeats 4000000 in
theorem p_zero {n : Nat} {W : World} {u0 u1 u2 u3 u4 u5 u6 u7 u8 u9 u10 u11 u12 u13 u14 u15 u16 u17 u18 u19 u20 u21 u22 u23 u24 u25 u26 u27 u28 u29 u30 u31 u32 u33 u34 u35 u36 u37 u38 u39 u40 u41 u42 u43 u44 u45 u46 u47 u48 u49 u50 u51 u52 u53 u54 u55 u56 u57 u58 u59 u60 u61 : Value} {Q : Exit → Act → World → Prop} (hQ : Q .normal { tmps := #[u0, u1, u2, u3, u4, u5, u6, u7, u8, u9, u10, .int .i64 ((0 : Nat) : Int), u12, u13, u14, u15, u16, u17, u18, u19, u20, u21, u22, u23, u24, u25, u26, u27, u28, u29, u30, u31, u32, u33, u34, u35, u36, u37, u38, u39, u40, u41, u42, u43, u44, u45, u46, u47, u48, u49, u50, u51, u52, u53, u54, u55, u56, u57, u58, u59, u60, u61], defers := [] } W) :
    (seqA (seqA (seqB (seqB (seqB (seqB (seqB (lawCode)))))))).wpIn Fence.wide n Try.prog Q { tmps := #[u0, u1, u2, u3, u4, u5, u6, u7, u8, u9, u10, u11, u12, u13, u14, u15, u16, u17, u18, u19, u20, u21, u22, u23, u24, u25, u26, u27, u28, u29, u30, u31, u32, u33, u34, u35, u36, u37, u38, u39, u40, u41, u42, u43, u44, u45, u46, u47, u48, u49, u50, u51, u52, u53, u54, u55, u56, u57, u58, u59, u60, u61], defers := [] } W := by
  simp only [lawBody, lawRange, lawInner, lawRound, lawLoop, lawCode, Try.f3, Option.getD_some, seqA, seqB, inside]
  gi_wp2
  first | exact hQ | skip

set_option maxRecDepth 100000 in
set_option maxHeartbeats 4000000 in
theorem p_end {n q8 : Nat} (hn1 : 1 ≤ n) {W : World} (ds : List Deferred) {u0 u1 u2 u3 u4 u5 u6 u7 u9 u10 u11 u12 u13 u14 u15 u16 u17 u18 u19 u20 u21 u22 u23 u24 u25 u26 u27 u28 u29 u30 u31 u32 u33 u34 u35 u36 u37 u38 u39 u40 u41 u42 u43 u44 u45 u46 u47 u48 u49 u50 u51 u52 u53 u54 u55 u56 u57 u58 u59 u60 u61 : Value} (h6 : ∀ W, CallsIn Fence.wide (n - 1) Try.prog 6 #[] W fun e W' => e = .returned (.bool true) ∧ Below W.heap.size W W')
    (c8 : ∀ W', Below W.heap.size W W' → W'.cell? ⟨q8, 0, none⟩ = some (.bool false) ∧ W'.frozen? ⟨q8, 0, none⟩ = false) {Q : Exit → Act → World → Prop}
    (hQ : ∀ (w2 : World), Below W.heap.size W w2 → ∀ v61 : Value, Q .ret { tmps := #[u0, u1, u2, u3, u4, u5, u6, u7, .pointer (some ⟨q8, 0, none⟩), u9, u10, u11, u12, u13, u14, u15, u16, u17, u18, u19, u20, u21, u22, u23, u24, u25, u26, u27, u28, u29, u30, u31, u32, u33, u34, u35, u36, u37, u38, u39, u40, u41, u42, u43, u44, u45, u46, u47, u48, u49, u50, u51, u52, u53, u54, u55, u56, u57, u58, u59, u60, v61], defers := ds } (w2.setCell ⟨q8, 0, none⟩ (.bool true))) :
    (seqB (seqB (seqB (seqB (seqB (seqB lawCode)))))).wpIn Fence.wide n Try.prog Q { tmps := #[u0, u1, u2, u3, u4, u5, u6, u7, .pointer (some ⟨q8, 0, none⟩), u9, u10, u11, u12, u13, u14, u15, u16, u17, u18, u19, u20, u21, u22, u23, u24, u25, u26, u27, u28, u29, u30, u31, u32, u33, u34, u35, u36, u37, u38, u39, u40, u41, u42, u43, u44, u45, u46, u47, u48, u49, u50, u51, u52, u53, u54, u55, u56, u57, u58, u59, u60, u61], defers := ds } W := by
  simp only [lawBody, lawRange, lawInner, lawRound, lawLoop, lawCode, Try.f3, Option.getD_some, seqA, seqB, inside]
  gi_wp2_with (refine ⟨trivial, ?_⟩; gi_at_call 6; refine (h6 _).mono ?_; rintro e1 w2 ⟨rfl, hb1⟩; obtain ⟨_, _⟩ := c8 _ hb1)
  first | exact hQ _ hb1 _ | exact hb1 | skip
end Go.Proofs.Ytbfdokfelolmbaa.TensW
end

section
open Go.RowKit Go.Shelf
namespace Go.Proofs.Ytbfdokfelolmbaa.TensW
set_option linter.unusedSimpArgs false
set_option linter.unusedVariables false

theorem law_eq : lawCode = .seq (seqA lawCode) (.seq (seqA (seqB lawCode)) (.seq (seqA (seqB (seqB lawCode))) (.seq (seqA (seqB (seqB (seqB lawCode)))) (.seq (seqA (seqB (seqB (seqB (seqB lawCode))))) (.seq (.seq (seqA (seqA (seqB (seqB (seqB (seqB (seqB lawCode))))))) (.block 0 (.loop lawRound))) (seqB (seqB (seqB (seqB (seqB (seqB lawCode)))))))))))  := by
  simp only [lawBody, lawRange, lawInner, lawRound, lawLoop, lawCode, Try.f3, Option.getD_some, seqA, seqB, inside]

set_option maxRecDepth 100000 in
set_option maxHeartbeats 4000000 in
theorem loop_in (n : Nat) (hn : 5 ≤ n) {gf : Nat} (eg : ∀ args w, (callFunc gf args).run Try.prog w = .ok (.enter gf args) w) {lb : Array Value} {xs want : List (List UInt8)} {k : Nat} (hwant : HW want xs k) (hk200 : k ≤ 200) {w W5 : World} {b9 cap : Nat} {ax : Option Addr}
    (hbase : BaseF w k b9 (.slice ax want.length cap) want W5) (hsq : Seq5 (n - 1) gf xs W5 lb) {Q : Exit → Act → World → Prop}
    (hQ : ∀ (r : Nat) (Ds : List Nat) (W' : World) (v0 v1 v2 v3 v4 v5 v6 v12 v13 v14 v15 v16 v17 v18 v19 v20 v21 v22 v23 v24 v25 v26 v27 v28 v29 v30 v31 v32 v33 v34 v35 v36 v37 v38 v39 v40 v41 v42 v43 v44 v45 v46 v47 v48 v49 v50 v51 v52 v53 v54 v55 v56 v57 v58 v59 v60 v61 : Value), BaseF w k b9 (.slice ax want.length cap) want W' → Marks W5.heap.size W' Ds → Q (.exit 0) { tmps := #[v0, v1, v2, v3, v4, v5, v6, .pointer (some ⟨w.heap.size, 0, none⟩), .pointer (some ⟨w.heap.size + 1, 0, none⟩), .pointer (some ⟨b9, 0, none⟩), .func (.func gf) #[] lb, .int .i64 (r : Int), v12, v13, v14, v15, v16, v17, v18, v19, v20, v21, v22, v23, v24, v25, v26, v27, v28, v29, v30, v31, v32, v33, v34, v35, v36, v37, v38, v39, v40, v41, v42, v43, v44, v45, v46, v47, v48, v49, v50, v51, v52, v53, v54, v55, v56, v57, v58, v59, v60, v61], defers := marks Ds } W')
    {r : Nat} (hr0 : r = 0) {u0 u1 u2 u3 u4 u5 u6 u12 u13 u14 u15 u16 u17 u18 u19 u20 u21 u22 u23 u24 u25 u26 u27 u28 u29 u30 u31 u32 u33 u34 u35 u36 u37 u38 u39 u40 u41 u42 u43 u44 u45 u46 u47 u48 u49 u50 u51 u52 u53 u54 u55 u56 u57 u58 u59 u60 u61 : Value} : (Code.loop lawRound).wpIn Fence.wide n Try.prog Q { tmps := #[u0, u1, u2, u3, u4, u5, u6, .pointer (some ⟨w.heap.size, 0, none⟩), .pointer (some ⟨w.heap.size + 1, 0, none⟩), .pointer (some ⟨b9, 0, none⟩), .func (.func gf) #[] lb, .int .i64 (r : Int), u12, u13, u14, u15, u16, u17, u18, u19, u20, u21, u22, u23, u24, u25, u26, u27, u28, u29, u30, u31, u32, u33, u34, u35, u36, u37, u38, u39, u40, u41, u42, u43, u44, u45, u46, u47, u48, u49, u50, u51, u52, u53, u54, u55, u56, u57, u58, u59, u60, u61], defers := [] } W5 := by
  refine wpIn_loop (fun a' W' => ∃ (r : Nat) (Ds : List Nat), (∃ u0 u1 u2 u3 u4 u5 u6 u12 u13 u14 u15 u16 u17 u18 u19 u20 u21 u22 u23 u24 u25 u26 u27 u28 u29 u30 u31 u32 u33 u34 u35 u36 u37 u38 u39 u40 u41 u42 u43 u44 u45 u46 u47 u48 u49 u50 u51 u52 u53 u54 u55 u56 u57 u58 u59 u60 u61 : Value, a' = { tmps := #[u0, u1, u2, u3, u4, u5, u6, .pointer (some ⟨w.heap.size, 0, none⟩), .pointer (some ⟨w.heap.size + 1, 0, none⟩), .pointer (some ⟨b9, 0, none⟩), .func (.func gf) #[] lb, .int .i64 (r : Int), u12, u13, u14, u15, u16, u17, u18, u19, u20, u21, u22, u23, u24, u25, u26, u27, u28, u29, u30, u31, u32, u33, u34, u35, u36, u37, u38, u39, u40, u41, u42, u43, u44, u45, u46, u47, u48, u49, u50, u51, u52, u53, u54, u55, u56, u57, u58, u59, u60, u61], defers := marks Ds }) ∧ r ≤ 2 ∧ BaseF w k b9 (.slice ax want.length cap) want W' ∧ Below W5.heap.size W5 W' ∧ Marks W5.heap.size W' Ds) (fun a' _ => rounds a')
    ⟨r, [], ⟨_, _, _, _, _, _, _, _, _, _, _, _, _, _, _, _, _, _, _, _, _, _, _, _, _, _, _, _, _, _, _, _, _, _, _, _, _, _, _, _, _, _, _, _, _, _, _, _, _, _, _, _, _, _, _, _, _, rfl⟩, by omega, hbase, Below.refl _ _, ⟨by simp, fun D h => by cases h⟩⟩ ?_
  clear hr0
  intro a' Wr h
  obtain ⟨r, Ds, h, hr2, hbr, hBr, hMr⟩ := h
  obtain ⟨u0, h⟩ := h
  obtain ⟨u1, h⟩ := h
  obtain ⟨u2, h⟩ := h
  obtain ⟨u3, h⟩ := h
  obtain ⟨u4, h⟩ := h
  obtain ⟨u5, h⟩ := h
  obtain ⟨u6, h⟩ := h
  obtain ⟨u12, h⟩ := h
  obtain ⟨u13, h⟩ := h
  obtain ⟨u14, h⟩ := h
  obtain ⟨u15, h⟩ := h
  obtain ⟨u16, h⟩ := h
  obtain ⟨u17, h⟩ := h
  obtain ⟨u18, h⟩ := h
  obtain ⟨u19, h⟩ := h
  obtain ⟨u20, h⟩ := h
  obtain ⟨u21, h⟩ := h
  obtain ⟨u22, h⟩ := h
  obtain ⟨u23, h⟩ := h
  obtain ⟨u24, h⟩ := h
  obtain ⟨u25, h⟩ := h
  obtain ⟨u26, h⟩ := h
  obtain ⟨u27, h⟩ := h
  obtain ⟨u28, h⟩ := h
  obtain ⟨u29, h⟩ := h
  obtain ⟨u30, h⟩ := h
  obtain ⟨u31, h⟩ := h
  obtain ⟨u32, h⟩ := h
  obtain ⟨u33, h⟩ := h
  obtain ⟨u34, h⟩ := h
  obtain ⟨u35, h⟩ := h
  obtain ⟨u36, h⟩ := h
  obtain ⟨u37, h⟩ := h
  obtain ⟨u38, h⟩ := h
  obtain ⟨u39, h⟩ := h
  obtain ⟨u40, h⟩ := h
  obtain ⟨u41, h⟩ := h
  obtain ⟨u42, h⟩ := h
  obtain ⟨u43, h⟩ := h
  obtain ⟨u44, h⟩ := h
  obtain ⟨u45, h⟩ := h
  obtain ⟨u46, h⟩ := h
  obtain ⟨u47, h⟩ := h
  obtain ⟨u48, h⟩ := h
  obtain ⟨u49, h⟩ := h
  obtain ⟨u50, h⟩ := h
  obtain ⟨u51, h⟩ := h
  obtain ⟨u52, h⟩ := h
  obtain ⟨u53, h⟩ := h
  obtain ⟨u54, h⟩ := h
  obtain ⟨u55, h⟩ := h
  obtain ⟨u56, h⟩ := h
  obtain ⟨u57, h⟩ := h
  obtain ⟨u58, h⟩ := h
  obtain ⟨u59, h⟩ := h
  obtain ⟨u60, h⟩ := h
  obtain ⟨u61, h⟩ := h
  subst h
  rcases Nat.lt_or_ge r 2 with hr | hr
  · refine round_in n hn eg hwant hk200 hbr (hsq Wr.heap.size _ hBr.size (by simp) (hBr.trans (((Below.refl _ _).alloc (Nat.le_refl _) _).mono hBr.size))) hr (marks Ds) ?_
    intro D W' v0 v1 v2 v3 v4 v5 v6 v12 v13 v14 v15 v16 v17 v18 v19 v20 v21 v22 v23 v24 v25 v26 v27 v28 v29 v30 v31 v32 v33 v34 v35 v36 v37 v38 v39 v40 v41 v42 v43 v44 v45 v46 v47 v48 v49 v50 v51 v52 v53 v54 v55 v56 v57 v58 v59 v60 v61 hbW hD hK
    refine ⟨⟨r + 1, D :: Ds, ⟨_, _, _, _, _, _, _, _, _, _, _, _, _, _, _, _, _, _, _, _, _, _, _, _, _, _, _, _, _, _, _, _, _, _, _, _, _, _, _, _, _, _, _, _, _, _, _, _, _, _, _, _, _, _, _, _, _, rfl⟩, by omega, hbr.next rfl hbW, hBr.trans (hbW.mono hBr.size), hMr.more rfl hBr.size hbW hD hK⟩, ?_⟩
    show (2 - ((r + 1 : Nat) : Int)).toNat < (2 - (r : Int)).toNat
    omega
  · rw [round_eq]
    refine wpIn_seq (head_stop (marks Ds) (by omega) ?_)
    intro v32 v33
    exact hQ r Ds Wr _ _ _ _ _ _ _ _ _ _ _ _ _ _ _ _ _ _ _ _ _ _ _ _ _ _ _ _ _ _ _ _ _ _ _ _ _ _ _ _ _ _ _ _ _ _ _ _ _ _ _ _ _ _ _ _ _ hbr hMr
end Go.Proofs.Ytbfdokfelolmbaa.TensW
end

section
open Go.RowKit Go.Shelf
namespace Go.Proofs.Ytbfdokfelolmbaa.TensW
set_option linter.unusedSimpArgs false
set_option linter.unusedVariables false

set_option maxRecDepth 100000 in
set_option maxHeartbeats 4000000 in
theorem law_in (n : Nat) (hn : 5 ≤ n) (a b c : List UInt8) (m : Int) (gf : Nat) (eg : ∀ args w, (callFunc gf args).run Try.prog w = .ok (.enter gf args) w) (xs want : List (List UInt8)) (k : Nat) (hk : k = clampL m) (hwant : HW want xs k)
    (h4 : ∀ W, CallsIn Fence.wide (n - 1) Try.prog 4 #[strV a, strV b, strV c, .int .i64 ((k + 1 : Nat) : Int)] W fun e W' => ∃ x, e = .returned x ∧ Texts W' W.heap.size x want ∧ Below W.heap.size W W')
    (h5 : ∀ W, CallsIn Fence.wide (n - 1) Try.prog 5 #[strV a, strV b, strV c] W fun e W' => ∃ lb, e = .returned (.func (.func gf) #[] lb) ∧ Below W.heap.size W W' ∧ Seq5 (n - 1) gf xs W' lb)
    (h6 : ∀ W, CallsIn Fence.wide (n - 1) Try.prog 6 #[] W fun e W' => e = .returned (.bool true) ∧ Below W.heap.size W W') (w : World) :
    CallsIn Fence.wide n Try.prog 3 #[strV a, strV b, strV c, .int .i64 m] w fun e W' => e = .returned (.bool true) ∧ Below w.heap.size w W' := by
  have h1 : 1 ≤ n := by omega
  have hk200 : k ≤ 200 := by rw [hk]; unfold clampL; split <;> omega
  have hkB : m < 0 ∨ 200 < m → (200 : Int) = (k : Int) := by intro h; rw [hk]; unfold clampL; rw [if_pos h]; rfl
  have hkS : 0 ≤ m → m ≤ 200 → m = (k : Int) := by intro h1 h2; rw [hk]; unfold clampL; rw [if_neg (by omega)]; omega
  refine callsIn_of_wp_marks (c := lawCode) Try.func3 (by rfl) trivial ?_ rfl
  simp only [Try.ntmps3, List.size_toArray, List.length_cons, List.length_nil, Nat.reduceAdd, Nat.reduceSub, Array.replicate_succ, Array.replicate_zero, List.push_toArray, List.append_toArray, List.nil_append, List.cons_append]
  have k0 : ∀ {W : World} {ad : Addr} {v : Value} (o : Obj), W.cell? ad = some v → (W.alloc o).cell? ad = some v := fun o h => cell_kept h (World.grownBy_alloc _ o none) (fun r e => by cases e)
  have kf : ∀ {W : World} {ad : Addr} {v : Value} (o : Obj), W.cell? ad = some v → W.frozen? ad = false → (W.alloc o).frozen? ad = false := fun o h hf => (frozen_kept h (World.grownBy_alloc _ o none) (fun r e => by cases e)).trans hf
  have nf : ∀ (W : World) (v : Value) (t : TypeId), (W.alloc (.cells #[v] t)).frozen? ⟨W.heap.size, 0, none⟩ = false := by
    intro W v t
    have h := World.alloc_heap_new W (.cells #[v] t)
    unfold World.frozen?
    simp only [h]
    rfl
  rw [law_eq]
  refine wpIn_seq (p_box ?_)
  change Code.wpIn _ _ _ _ _ _ _
  have c7 := k0 (.cells #[.bool false] 4) (cell_new w (.int .i64 m) 3)
  have f7 := kf (.cells #[.bool false] 4) (cell_new w (.int .i64 m) 3) (nf w (.int .i64 m) 3)
  have c8 := cell_new (w.alloc (.cells #[.int .i64 m] 3)) (.bool false) 4
  have f8 := nf (w.alloc (.cells #[.int .i64 m] 3)) (.bool false) 4
  simp only [World.size_alloc] at c8 f8
  have hB1 : Below w.heap.size w ((w.alloc (.cells #[.int .i64 m] 3)).alloc (.cells #[.bool false] 4)) := ((Below.refl _ w).alloc (Nat.le_refl _) _).alloc (by simp) _
  have hS1 : w.heap.size + 2 ≤ ((w.alloc (.cells #[.int .i64 m] 3)).alloc (.cells #[.bool false] 4)).heap.size := by simp
  generalize (w.alloc (.cells #[.int .i64 m] 3)).alloc (.cells #[.bool false] 4) = W1 at *
  -- what follows once the number is in its bounds
  have rest : ∀ (W2 : World) {u3 u4 u5 u6 u9 u10 u11 u12 u13 u14 u15 u16 u17 u18 u19 u20 u21 u22 u23 u24 u25 u26 u27 u28 u29 u30 u31 u32 u33 u34 u35 u36 u37 u38 u39 u40 u41 u42 u43 u44 u45 u46 u47 u48 u49 u50 u51 u52 u53 u54 u55 u56 u57 u58 u59 u60 u61 : Value}, W2.cell? ⟨w.heap.size, 0, none⟩ = some (.int .i64 (k : Int)) → W2.cell? ⟨w.heap.size + 1, 0, none⟩ = some (.bool false) → W2.frozen? ⟨w.heap.size + 1, 0, none⟩ = false → Below w.heap.size w W2 → w.heap.size + 2 ≤ W2.heap.size →
      (Code.seq (seqA (seqB (seqB lawCode))) (.seq (seqA (seqB (seqB (seqB lawCode)))) (.seq (seqA (seqB (seqB (seqB (seqB lawCode))))) (.seq (.seq (seqA (seqA (seqB (seqB (seqB (seqB (seqB lawCode))))))) (.block 0 (.loop lawRound))) (seqB (seqB (seqB (seqB (seqB (seqB lawCode)))))))))).wpIn Fence.wide n Try.prog (bodyPostM Fence.wide n Try.prog Try.f3 fun e W' => e = .returned (.bool true) ∧ Below w.heap.size w W') { tmps := #[strV a, strV b, strV c, u3, u4, u5, u6, .pointer (some ⟨w.heap.size, 0, none⟩), .pointer (some ⟨w.heap.size + 1, 0, none⟩), u9, u10, u11, u12, u13, u14, u15, u16, u17, u18, u19, u20, u21, u22, u23, u24, u25, u26, u27, u28, u29, u30, u31, u32, u33, u34, u35, u36, u37, u38, u39, u40, u41, u42, u43, u44, u45, u46, u47, u48, u49, u50, u51, u52, u53, u54, u55, u56, u57, u58, u59, u60, u61], defers := [] } W2 := by
    intro W2 u3 u4 u5 u6 u9 u10 u11 u12 u13 u14 u15 u16 u17 u18 u19 u20 u21 u22 u23 u24 u25 u26 u27 u28 u29 u30 u31 u32 u33 u34 u35 u36 u37 u38 u39 u40 u41 u42 u43 u44 u45 u46 u47 u48 u49 u50 u51 u52 u53 u54 u55 u56 u57 u58 u59 u60 u61 c7 c8 f8 hB2 hS2
    refine wpIn_seq (p_ref h1 hk200 c7 h4 ?_)
    intro w2 ax cap htx hb1 v20 v21 v22 v23 v24 v25
    change Code.wpIn _ _ _ _ _ _ _
    have hsz := hb1.size
    have hbase : BaseF w k w2.heap.size (.slice ax want.length cap) want (w2.alloc (.cells #[.slice ax want.length cap] 22)) := by
      have hb2 := hB2.trans (hb1.mono hB2.size)
      exact ⟨k0 _ ((hb1.cell (p := ⟨w.heap.size, 0, none⟩) (by show w.heap.size < _; omega)).trans c7), k0 _ ((hb1.cell (p := ⟨w.heap.size + 1, 0, none⟩) (by show w.heap.size + 1 < _; omega)).trans c8), kf _ ((hb1.cell (p := ⟨w.heap.size + 1, 0, none⟩) (by show w.heap.size + 1 < _; omega)).trans c8) ((below_frozen hb1 (by show w.heap.size + 1 < _; omega)).trans f8), cell_new w2 (.slice ax want.length cap) 22, (htx.mono hS2).next rfl ((Below.refl _ w2).alloc (Nat.le_refl _) _), hb2.alloc (by omega) _⟩
    generalize w2.alloc (.cells #[.slice ax want.length cap] 22) = W3 at *
    generalize w2.heap.size = b9 at *
    refine wpIn_seq (p_prog h1 h5 ?_)
    intro W5 lb hb5 hsq v26 v27 v28 v29
    change Code.wpIn _ _ _ _ _ _ _
    have hbase5 := hbase.next rfl hb5
    refine wpIn_seq (p_nil ?_)
    intro v30 v31
    change Code.wpIn _ _ _ _ _ _ _
    refine wpIn_seq (wpIn_seq (p_zero ?_))
    change Code.wpIn _ _ _ _ _ _ _
    refine wpIn_block (loop_in n hn eg hwant hk200 hbase5 hsq (r := 0) ?_ rfl)
    intro r Ds W6 v0 v1 v2 v3 v4 v5 v6 v12 v13 v14 v15 v16 v17 v18 v19 v20 v21 v22 v23 v24 v25 v26 v27 v28 v29 v30 v31 v32 v33 v34 v35 v36 v37 v38 v39 v40 v41 v42 v43 v44 v45 v46 v47 v48 v49 v50 v51 v52 v53 v54 v55 v56 v57 v58 v59 v60 v61 hbase6 hM6
    change Code.wpIn _ _ _ _ _ _ _
    refine p_end h1 (marks Ds) h6 (fun W' hb => ⟨(hbase6.next rfl hb).c8, (hbase6.next rfl hb).f8⟩) ?_
    intro W7 hb7 v61
    have hbase7 := hbase6.next rfl hb7
    have hM7 := hM6.next rfl hb7
    have hl8 := cell_lt hbase5.c8
    have hM8 : Marks W5.heap.size (W7.setCell ⟨w.heap.size + 1, 0, none⟩ (.bool true)) Ds := ⟨hM7.1, fun D hD => ⟨(hM7.2 D hD).1, (KeepsOthers.setCell W7 ⟨w.heap.size + 1, 0, none⟩ (.bool true)).same D _ (hM7.2 D hD).2 rfl⟩⟩
    refine leaves_marks Ds _ hM8 ?_
    intro W8 hb8
    have hc8 : W8.cell? ⟨w.heap.size + 1, 0, none⟩ = some (.bool true) := (hb8.cell (p := ⟨w.heap.size + 1, 0, none⟩) hl8).trans (World.cell?_setCell_same' _ _ _ (by rw [hbase7.c8]; rfl))
    refine ⟨.bool true, ?_, rfl, (hbase7.below.setCell (p := ⟨w.heap.size + 1, 0, none⟩) (Nat.le_succ _) _).trans (hb8.mono (by have := hbase5.below.size; omega))⟩
    simp [results, Try.f3, go_sem, hc8]
  rcases Int.lt_or_le m 0 with hm | hm
  · refine wpIn_seq (p_low c7 f7 hm ?_)
    intro v14 v15 v16 v17 v18 v19
    refine rest _ ?_ ((World.cell?_setCell_other _ _ _ _ (by simp)).trans c8) (by rw [World.frozen?_setCell]; exact f8) (hB1.setCell (p := ⟨w.heap.size, 0, none⟩) (Nat.le_refl _) _) (by simp; omega)
    rw [← hkB (.inl hm)]; exact World.cell?_setCell_same' _ _ _ (by rw [c7]; rfl)
  · rcases Int.lt_or_le 200 m with hm2 | hm2
    · refine wpIn_seq (p_high c7 f7 hm hm2 ?_)
      intro v14 v15 v16 v17 v18 v19
      refine rest _ ?_ ((World.cell?_setCell_other _ _ _ _ (by simp)).trans c8) (by rw [World.frozen?_setCell]; exact f8) (hB1.setCell (p := ⟨w.heap.size, 0, none⟩) (Nat.le_refl _) _) (by simp; omega)
      rw [← hkB (.inr hm2)]; exact World.cell?_setCell_same' _ _ _ (by rw [c7]; rfl)
    · refine wpIn_seq (p_fit c7 hm hm2 ?_)
      intro v14 v15 v16 v17 v18 v19
      refine rest _ ?_ c8 f8 hB1 hS1
      rw [← hkS hm hm2]; exact c7
end Go.Proofs.Ytbfdokfelolmbaa.TensW
end

section
open Go.RowKit Go.Shelf
namespace Go.Proofs.Ytbfdokfelolmbaa.TensW
set_option linter.unusedSimpArgs false
set_option linter.unusedVariables false

theorem bad_same (a b c : List UInt8) : badF a b c = badP a b c := by
  unfold badF badP; rw [refF_formed, refF_formed, refF_formed]

set_option maxRecDepth 100000 in
theorem walk (hkn : Go.Proofs.Ytbfdokfelolmbaa.Vai.CallSpec Try.prog (fun _ => none) 6 [] [] (.s (.bool true)) []) (a b c : List UInt8) (la : a.length ≤ 1048576) (lb : b.length ≤ 1048576) (lc : c.length ≤ 1048576) (m : Int) (w : World) :
    Calls Try.prog 3 #[strV a, strV b, strV c, .int .i64 m] w fun e w' => e = .returned (.bool true) ∧ Below w.heap.size w w' := by
  refine (callsIn_wide (n := 5)).1 ?_
  have sa : Small a := by unfold Small; omega
  have sb : Small b := by unfold Small; omega
  have sc : Small c := by unfold Small; omega
  obtain ⟨k, hk⟩ : ∃ k, k = clampL m := ⟨_, rfl⟩
  have hk200 : k ≤ 200 := by rw [hk]; unfold clampL; split <;> omega
  have h4 : ∀ W, CallsIn Fence.wide (5 - 1) Try.prog 4 #[strV a, strV b, strV c, .int .i64 ((k + 1 : Nat) : Int)] W fun e W' => ∃ x, e = .returned x ∧ Texts W' W.heap.size x (refStepsL a b c (k + 1)) ∧ Below W.heap.size W W' :=
    fun W => callsIn_wide.2 (steps_calls (m := k + 1) (by omega) (by omega) (by omega) (by omega) W)
  have h6 : ∀ W, CallsIn Fence.wide (5 - 1) Try.prog 6 #[] W fun e W' => e = .returned (.bool true) ∧ Below W.heap.size W W' := fun W => callsIn_wide.2 (known_calls_of hkn W)
  cases hb : badP a b c with
  | true =>
    refine law_in 5 (by omega) a b c m 13 (enters_of Try.func13 (by kernel_rfl) rfl) [] (refStepsL a b c (k + 1)) k hk ?_ h4 ?_ h6 w
    · unfold HW refStepsL
      rw [bad_same, hb]; simp
    · intro W
      refine (steps5_in (5 - 1) (by omega) a b c sa sb sc W).mono ?_
      rintro e W' ⟨hbw, (⟨_, rfl⟩ | ⟨h, _, _⟩)⟩
      · exact ⟨#[], rfl, hbw, fun n₁ W2 _ _ _ => none_stops _ n₁ W2⟩
      · rw [hb] at h; cases h
  | false =>
    have hb2 := hb
    simp only [badP, Bool.or_eq_false_iff, Bool.not_eq_false'] at hb2
    obtain ⟨⟨⟨fa, fb⟩, fc⟩, hc0⟩ := hb2
    have hc48 : c ≠ [48] := by simpa using hc0
    obtain ⟨xs, hfull⟩ := full_some (e := b) (s := c) (x := a) fb fc hc48 fa
    refine law_in 5 (by omega) a b c m 14 (enters_of Try.func14 (by kernel_rfl) rfl) xs (refStepsL a b c (k + 1)) k hk ?_ h4 ?_ h6 w
    · unfold HW refStepsL
      rw [bad_same, hb, if_neg (by simp), steps_same fb fc _ _ fa, full_take _ hfull]
    · intro W
      refine (steps5_in (5 - 1) (by omega) a b c sa sb sc W).mono ?_
      rintro e W' ⟨hbw, (⟨h, _⟩ | ⟨_, rfl, hh⟩)⟩
      · rw [hb] at h; cases h
      · obtain ⟨g1, g2, g3, g4, g5⟩ := hh
        refine ⟨_, rfl, hbw, fun n₁ W2 hn1 hn2 hb3 => ?_⟩
        exact iter_stops _ (by omega) (W.heap.size + 1 + 1) W.heap.size (W.heap.size + 1) n₁ a b c xs 1048576 (by omega) fa fb fc hc48 la lb lc hfull W2 (by omega) (by omega) (by omega) hn2
          ((hb3.cell (p := ⟨W.heap.size + 1 + 1, 0, none⟩) (by show W.heap.size + 1 + 1 < _; omega)).trans g5) ((hb3.cell (p := ⟨W.heap.size, 0, none⟩) (by show W.heap.size < _; omega)).trans g3) ((hb3.cell (p := ⟨W.heap.size + 1, 0, none⟩) (by show W.heap.size + 1 < _; omega)).trans g4)
end Go.Proofs.Ytbfdokfelolmbaa.TensW
end
