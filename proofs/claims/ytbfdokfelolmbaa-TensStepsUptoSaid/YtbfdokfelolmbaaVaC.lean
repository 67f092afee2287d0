import Derived.Test.YtbfdokfelolmbaaVaB
import Derived.Laws.BytesString
/-
  The interpreter's operations are sound.
-/
set_option linter.all false
section
namespace Go.Proofs.Ytbfdokfelolmbaa.Vai

section
variable {P : Program} {G : Nat → Prop} {M : Mem} {V : Val} {H : HR} {w : World} {a : Act} {s : Nat} {o : Oper} {v : AV} {ups : List Up}

/-! Slices cut. -/

theorem run_bound {x : Value} {k : IntKind} {n y : Nat} {code : BoundsCode} (hx : x = .int k n) (h : n ≤ y) (w : World) : (Instr.sliceBound x y code).run P w = .ok n w := by
  subst hx
  simp only [Instr.sliceBound, asIntOf, Sem.run_bind, Sem.run_pure, Result.andThen_ok]
  rw [if_pos (by omega)]
  simp

theorem run_bounds {len cap l hh m : Nat} {lo hi mx : Option Value} (hlo : match lo with | none => l = 0 | some x => ∃ k, x = .int k l)
    (hhi : match hi with | none => hh = len ∧ mx = none | some x => ∃ k, x = .int k hh) (hmx : match mx with | none => m = cap | some x => ∃ k, x = .int k m)
    (h1 : l ≤ hh) (h2 : hh ≤ m) (h3 : m ≤ cap) (w : World) : (Instr.sliceBounds true len cap lo hi mx).run P w = .ok (l, hh, m) w := by
  unfold Instr.sliceBounds
  cases mx with
  | none =>
    simp only at hmx; subst hmx
    cases hi with
    | none =>
      obtain ⟨rfl, _⟩ := hhi
      cases lo with
      | none => simp only at hlo; subst hlo; simp
      | some x => obtain ⟨k, hk⟩ := hlo; simp [run_bound hk h1]
    | some y =>
      obtain ⟨k', hk'⟩ := hhi
      cases lo with
      | none => simp only at hlo; subst hlo; simp [run_bound hk' h2]
      | some x => obtain ⟨k, hk⟩ := hlo; simp [run_bound hk' h2, run_bound hk h1]
  | some z =>
    obtain ⟨k2, hk2⟩ := hmx
    cases hi with
    | none => exact absurd hhi.2 (by simp)
    | some y =>
      obtain ⟨k', hk'⟩ := hhi
      cases lo with
      | none => simp only at hlo; subst hlo; simp [run_bound hk2 h3, run_bound hk' h2]
      | some x => obtain ⟨k, hk⟩ := hlo; simp [run_bound hk2 h3, run_bound hk' h2, run_bound hk h1]

theorem cut_rows {rows : List (List SV)} {l hh n m cap : Nat} {ad : Option Addr} (r : RepS M (.ssl rows) (.slice ad rows.length cap)) (h1 : l ≤ hh) (h2 : hh ≤ rows.length) (h3 : hh ≤ m)
    (hf : rowsFit n rows = true) : RepS M (.ssl (cutRows rows l hh)) (.slice (if m = l then ad else ad.map (·.add (l * n))) (hh - l) (m - l)) := by
  have hlen : (cutRows rows l hh).length = hh - l := by simp [cutRows]; omega
  by_cases h0 : hh = l
  · subst h0
    have : cutRows rows hh hh = [] := by simp [cutRows]
    rw [this, Nat.sub_self]
    exact .ssl0 _ _
  · generalize hx : (Value.slice ad rows.length cap) = xv at r
    cases r with
    | ssl0 a c => simp at h2; omega
    | ssl _ wd b off c f hne hw hc hm rr =>
      cases hx
      have hwd : wd = n := by
        cases rows with
        | nil => simp at hne
        | cons r0 rs => simp [rowsFit] at hf; rw [← hf]; exact (hw r0 (by simp)).symm
      subst hwd
      rw [if_neg (by omega)]
      simp only [Option.map_some, add_at]
      rw [← hlen]
      have hfl : (cutRows rows l hh).flatten = (rows.flatten.drop (l * wd)).take ((hh - l) * wd) := by
        unfold cutRows
        rw [flatten_take _ _ (fun r h => hw r (List.mem_of_mem_drop h)), flatten_drop _ _ hw]
      have hfl2 := flatten_length rows hw
      have hmul : l * wd + (hh - l) * wd ≤ rows.length * wd := by
        rw [← Nat.add_mul]; exact Nat.mul_le_mul_right _ (by omega)
      refine RepS.ofRows (wd := wd) (cs := ((List.range rows.flatten.length).map f |>.drop (l * wd)).take ((hh - l) * wd)) (fun r hr => hw r (mem_drop_take hr)) (by rw [hlen]; omega) ?_ ?_
      · rw [hfl]
        have q : RepSL M rows.flatten ((List.range rows.flatten.length).map f) := ⟨by simp, fun i h1 h2 => by simpa using rr i h1⟩
        exact (q.drop _).take _
      · intro i hi
        simp at hi
        have h5 : l * wd + i < rows.flatten.length := by omega
        rw [Nat.add_assoc, hm (l * wd + i) h5]
        simp only [List.getElem?_take, List.getElem?_drop, List.getElem?_map]
        rw [if_pos (by omega), List.getElem?_range h5]
        rfl

theorem cut_sound (R : Mrel G M V H w) {h : HR} (hs : HSub h H) {n l hh : Nat} {mx : Option Nat} {x : AV} {xv : Value} (e : cutA h n x l hh mx = some v) (r : RepA M V x xv) :
    ∃ ad len cap, xv = .slice ad len cap ∧ lenA x = some len ∧ l ≤ hh ∧ hh ≤ mx.getD cap ∧ mx.getD cap ≤ cap ∧
      RepA M V v (.slice (if mx.getD cap = l then ad else ad.map (·.add (l * n))) (hh - l) (mx.getD cap - l)) := by
  have atw : ∀ {k st : Nat}, atW h k st n = true → ∃ bi, V st = some bi ∧ bi.w = n := by
    intro k st he
    unfold atW at he
    split at he
    · rename_i s' wd rows fz hk
      simp only [Bool.and_eq_true, beq_iff_eq] at he
      obtain ⟨rfl, rfl⟩ := he
      have hH := hs.live (k := k) (by rw [hk]; rfl)
      have hb := R.blk k
      rw [← hH, hk] at hb
      obtain ⟨bi, vs, own, h1, _⟩ := hb
      exact ⟨bi, own.v, h1⟩
    · cases he
  unfold cutA at e
  split at e
  · rename_i hlh
    split at e
    · split at e
      · rename_i h0
        subst h0
        simp only [Option.some.injEq] at e; subst e
        cases r
        exact ⟨none, 0, 0, rfl, rfl, hlh, by simp, by simp, by simpa using RepA.nsl⟩
      · cases e
    · rename_i m
      split at e
      · rename_i h0
        obtain ⟨rfl, rfl⟩ := h0
        simp only [Option.some.injEq] at e; subst e
        cases r
        exact ⟨none, 0, 0, rfl, rfl, hlh, by simp, by simp, by simpa using RepA.nsl⟩
      · cases e
    · rename_i rows
      split at e
      · rename_i hc
        obtain ⟨hc1, hc2⟩ := hc
        simp only [Option.some.injEq] at e
        cases r with
        | xsl _ ad nn r =>
          have hnn : nn = rows.length := by cases r <;> rfl
          subst hnn
          refine ⟨ad, rows.length, rows.length, rfl, rfl, hlh, hc1, Nat.le_refl _, ?_⟩
          simp only [Option.getD_none]
          have q := cut_rows (m := rows.length) r hlh hc1 hc1 hc2
          by_cases h5 : hh = rows.length
          · rw [if_pos h5] at e; subst e
            subst h5
            exact .xsl _ _ _ q
          · rw [if_neg h5] at e; subst e
            exact .s _ _ q
      · cases e
    · rename_i rows m
      split at e
      · rename_i hc
        obtain ⟨hc1, hc2, hc3⟩ := hc
        simp only [Option.some.injEq] at e
        cases r with
        | xsl _ ad nn r =>
          have hnn : nn = rows.length := by cases r <;> rfl
          subst hnn
          refine ⟨ad, rows.length, rows.length, rfl, rfl, hlh, hc1, hc2, ?_⟩
          simp only [Option.getD_some]
          have q := cut_rows (m := m) r hlh (by omega) hc1 hc3
          by_cases h5 : hh = m
          · rw [if_pos h5] at e; subst e
            subst h5
            exact .xsl _ _ _ q
          · rw [if_neg h5] at e; subst e
            exact .s _ _ q
      · cases e
    · rename_i rows
      split at e
      · rename_i hc
        obtain ⟨hc1, hc2⟩ := hc
        simp only [Option.some.injEq] at e; subst e
        cases r with
        | s _ _ r =>
          have : ∃ ad cap, xv = .slice ad rows.length cap ∧ rows.length ≤ cap := by
            cases r with
            | ssl0 ad c => exact ⟨ad, c, rfl, by simp⟩
            | ssl _ _ _ _ _ _ _ _ hle => exact ⟨_, _, rfl, hle⟩
          obtain ⟨ad, cap, rfl, hle⟩ := this
          exact ⟨ad, rows.length, cap, rfl, rfl, hlh, by simp; omega, Nat.le_refl _, .s _ _ (cut_rows r hlh hc1 (by simp; omega) hc2)⟩
      · cases e
    · rename_i rows m
      split at e
      · rename_i hc
        obtain ⟨hc1, hc2, hc3⟩ := hc
        simp only [Option.some.injEq] at e
        cases r with
        | s _ _ r =>
          have : ∃ ad cap, xv = .slice ad rows.length cap ∧ rows.length ≤ cap := by
            cases r with
            | ssl0 ad c => exact ⟨ad, c, rfl, by simp⟩
            | ssl _ _ _ _ _ _ _ _ hle => exact ⟨_, _, rfl, hle⟩
          obtain ⟨ad, cap, rfl, hle⟩ := this
          refine ⟨ad, rows.length, cap, rfl, rfl, hlh, hc1, by simp; omega, ?_⟩
          simp only [Option.getD_some]
          have q := cut_rows (m := m) r hlh (by omega) hc1 hc3
          by_cases h5 : hh = m
          · rw [if_pos h5] at e; subst e
            subst h5
            exact .xsl _ _ _ q
          · rw [if_neg h5] at e; subst e
            exact .s _ _ q
      · cases e
    · rename_i k st row len c
      split at e
      · rename_i hc
        obtain ⟨hc1, hc2⟩ := hc
        obtain ⟨bi, hv, hw⟩ := atw hc2
        simp only [Option.some.injEq] at e
        cases r with
        | lsl _ _ _ _ _ bi' c' v1 q1 q2 q3 q4 =>
          rw [hv, Option.some.injEq] at v1; subst v1
          have hcc := q1 c rfl
          subst hcc
          refine ⟨_, len, c', rfl, rfl, hlh, hc1, Nat.le_refl _, ?_⟩
          simp only [Option.getD_none]
          by_cases h5 : l = c'
          · rw [if_pos h5] at e; subst e
            rw [if_pos h5.symm]
            have : hh - l = 0 := by omega
            rw [this, ← h5, Nat.sub_self]
            exact .xsl [] _ 0 (.ssl0 _ _)
          · rw [if_neg h5] at e; subst e
            rw [if_neg (by omega)]
            simp only [Option.map_some, add_at, hw.symm]
            have := RepA.lsl (M := M) k st (row + l) (hh - l) (some (c' - l)) bi (c' - l) hv (by simp) (by simp) (by omega) (by omega)
            rw [Nat.add_mul] at this; exact this
      · cases e
    · rename_i k st row len c m
      split at e
      · rename_i hc
        obtain ⟨hc1, hc2, hc3⟩ := hc
        obtain ⟨bi, hv, hw⟩ := atw hc3
        simp only [Option.some.injEq] at e
        cases r with
        | lsl _ _ _ _ _ bi' c' v1 q1 q2 q3 q4 =>
          rw [hv, Option.some.injEq] at v1; subst v1
          have hcc := q1 c rfl
          subst hcc
          refine ⟨_, len, c', rfl, rfl, hlh, hc1, hc2, ?_⟩
          simp only [Option.getD_some]
          by_cases h5 : l = m
          · rw [if_pos h5] at e; subst e
            rw [if_pos h5.symm]
            have : hh - l = 0 := by omega
            rw [this, ← h5, Nat.sub_self]
            exact .xsl [] _ 0 (.ssl0 _ _)
          · rw [if_neg h5] at e; subst e
            rw [if_neg (by omega)]
            simp only [Option.map_some, add_at, hw.symm]
            have := RepA.lsl (M := M) k st (row + l) (hh - l) (some (m - l)) bi (m - l) hv (by simp) (by simp) (by omega) (by omega)
            rw [Nat.add_mul] at this; exact this
      · cases e
    · rename_i k st row len
      split at e
      · rename_i hc
        obtain ⟨hc1, hc2⟩ := hc
        obtain ⟨bi, hv, hw⟩ := atw hc2
        simp only [Option.some.injEq] at e
        cases r with
        | lsl _ _ _ _ _ bi' c' v1 q1 q2 q3 q4 =>
          rw [hv, Option.some.injEq] at v1; subst v1
          have hcc := q2 rfl
          refine ⟨_, len, c', rfl, rfl, hlh, by simp; omega, Nat.le_refl _, ?_⟩
          simp only [Option.getD_none]
          by_cases h5 : l = len
          · rw [if_pos h5] at e; subst e
            have : hh - l = 0 := by omega
            rw [this]
            exact .s _ _ (.ssl0 _ _)
          · rw [if_neg h5] at e; subst e
            rw [if_neg (by omega)]
            simp only [Option.map_some, add_at, hw.symm]
            have := RepA.lsl (M := M) k st (row + l) (hh - l) none bi (c' - l) hv (by simp) (by intro _; omega) (by omega) (by omega)
            rw [Nat.add_mul] at this; exact this
      · cases e
    · rename_i k st row len m
      split at e
      · rename_i hc
        obtain ⟨hc1, hc2, hc3⟩ := hc
        obtain ⟨bi, hv, hw⟩ := atw hc3
        simp only [Option.some.injEq] at e
        cases r with
        | lsl _ _ _ _ _ bi' c' v1 q1 q2 q3 q4 =>
          rw [hv, Option.some.injEq] at v1; subst v1
          have hcc := q2 rfl
          refine ⟨_, len, c', rfl, rfl, hlh, hc1, by simp; omega, ?_⟩
          simp only [Option.getD_some]
          by_cases h5 : l = m
          · rw [if_pos h5] at e; subst e
            rw [if_pos h5.symm]
            have : hh - l = 0 := by omega
            rw [this, ← h5, Nat.sub_self]
            exact .xsl [] _ 0 (.ssl0 _ _)
          · rw [if_neg h5] at e; subst e
            rw [if_neg (by omega)]
            simp only [Option.map_some, add_at, hw.symm]
            have := RepA.lsl (M := M) k st (row + l) (hh - l) (some (m - l)) bi (m - l) hv (by simp) (by simp) (by omega) (by omega)
            rw [Nat.add_mul] at this; exact this
      · cases e
    · cases e
  · cases e

theorem elem_under {t e : TypeId} (h : elemA P t = some e) : P.underlying t = some (.slice e) := by
  unfold elemA at h
  split at h
  · simp only [Option.some.injEq] at h; subst h; assumption
  · cases h

theorem slice_sound (R : Mrel G M V H w) {h : HR} (hs : HSub h H) {t : TypeId} {q : Operand} {lo hi mx : Option Operand} {ρ : Operand → AV}
    (e : sliceA P h t (ρ q) (lo.map ρ) (hi.map ρ) (mx.map ρ) = some v) (hρ : ∀ x ∈ o.op.operands, RepA M V (ρ x) (a.eval x)) (ho : o.op = .slice t q lo hi mx) :
    OpSpec P G M V H a w s o v [] := by
  have hq : RepA M V (ρ q) (a.eval q) := hρ q (by rw [ho]; simp [Op.operands])
  have hopt : ∀ (d n : Nat) (z : Option Operand), (∀ y, z = some y → y ∈ o.op.operands) → optNat d (z.map ρ) = some n → match z.map a.eval with | none => n = d ∧ z = none | some x => ∃ k, x = .int k n := by
    intro d n z hz he
    cases z with
    | none => simp [optNat] at he; exact ⟨he.symm, rfl⟩
    | some y => exact nat_rep he (hρ y (hz y rfl))
  have hlo : ∀ y, lo = some y → y ∈ o.op.operands := by intro y hy; rw [ho]; simp [Op.operands, hy]
  have hhi : ∀ y, hi = some y → y ∈ o.op.operands := by intro y hy; rw [ho]; simp [Op.operands, hy]
  have hmx : ∀ y, mx = some y → y ∈ o.op.operands := by intro y hy; rw [ho]; simp [Op.operands, hy]
  unfold sliceA at e
  split at e
  · rename_i n len hn hlen
    cases hel : elemA P t with
    | none => rw [hel] at hn; cases hn
    | some el =>
      rw [hel] at hn
      simp only [Option.bind_some] at hn
      have hu := elem_under hel
      have fin : ∀ {l hh : Nat} {m : Option Nat}, optNat 0 (lo.map ρ) = some l → optNat len (hi.map ρ) = some hh → cutA h n (ρ q) l hh m = some v →
          (match mx.map a.eval with | none => m = none | some x => ∃ k m', m = some m' ∧ x = .int k m') → (hi = none → mx = none) → OpSpec P G M V H a w s o v [] := by
        intro l hh m e1 e2 e3 e4 e5
        obtain ⟨ad, len', cap, hx, hl, c1, c2, c3, rr⟩ := cut_sound R hs e3 hq
        rw [hlen, Option.some.injEq] at hl; subst hl
        refine OpSpec.of_value ?_ (OpPost.same R rr)
        have hb := run_bounds (P := P) (len := len) (cap := cap) (l := l) (hh := hh) (m := m.getD cap) (lo := lo.map a.eval) (hi := hi.map a.eval) (mx := mx.map a.eval)
          (by have := hopt 0 l lo hlo e1; cases lo with | none => exact this.1 | some y => exact this)
          (by have := hopt len hh hi hhi e2; cases hi with | none => rw [e5 rfl]; exact ⟨this.1, rfl⟩ | some y => exact this)
          (by cases mx with | none => simp at e4; subst e4; rfl | some y => obtain ⟨k, m', rfl, hk⟩ := e4; exact ⟨k, hk⟩)
          c1 c2 c3 w
        simp only [execOp, ho, Instr.sliceAt, Instr.slice, Sem.run_bind, run_under hu, Result.andThen_ok, hx, hb, run_size hn, Sem.run_pure]
      split at e
      · rename_i l hh e1 e2 e3
        refine fin e1 e2 e ?_ ?_
        · cases mx with
          | none => rfl
          | some y => simp at e3
        · intro _; cases mx with
          | none => rfl
          | some y => simp at e3
      · rename_i l hh vm e1 e2 e3
        split at e
        · rename_i hsome
          split at e
          · rename_i m hm
            refine fin e1 e2 e ?_ ?_
            · cases mx with
              | none => simp at e3
              | some y =>
                simp only [Option.map_some, Option.some.injEq] at e3
                obtain ⟨k, hk⟩ := nat_rep (e3 ▸ hm) (hρ y (hmx y rfl))
                exact ⟨k, m, rfl, hk⟩
            · intro hn; rw [hn] at hsome; simp at hsome
          · cases e
        · cases e
      · cases e
  · cases e

end
end Go.Proofs.Ytbfdokfelolmbaa.Vai
end

section
namespace Go.Proofs.Ytbfdokfelolmbaa.Vai

section
variable {P : Program} {G : Nat → Prop} {M : Mem} {V : Val} {H : HR} {w : World} {a : Act} {s : Nat} {o : Oper} {v : AV} {ups : List Up}

/-! What slices hold; append, copy, clear, make. -/

theorem Mrel.drew (R : Mrel G M V H w) (n : Nat) : Mrel G M V H { w with drawn := n } :=
  ⟨R.mem, fun k => (R.blk k).keep (fun _ _ h => h) (fun _ _ _ h => h) (fun _ _ _ => ⟨rfl, fun _ => rfl⟩), R.dist, R.gsz, R.vsz⟩
theorem Ext.drew (n : Nat) : Ext G M V w M V { w with drawn := n } := ⟨fun _ _ _ h => h, fun _ _ _ _ => rfl, fun _ _ h => h, ⟨rfl, rfl, rfl, Nat.le_refl _, fun _ _ => rfl⟩⟩

/-- A slice's or a string's elements, as the model reads them. -/
structure Shows (M : Mem) (w : World) (n : Nat) (rows : List (List SV)) (x : Value) (cs : List Value) : Prop where
  len : (∃ ad cap, x = .slice ad rows.length cap) ∨ ∃ b, x = .string b ∧ b.size = rows.length
  rep : RepSL M rows.flatten cs
  cell : ∀ c ∈ cs, cellV c = true
  uni : ∀ r ∈ rows, r.length = n
  run : ∀ (P : Program) (k : Nat), k ≤ rows.length → (Builtin.firstCells n k x).run P w = .ok ⟨cs.take (k * n)⟩ w

theorem Shows.length {n : Nat} {rows : List (List SV)} {x : Value} {cs : List Value} (h : Shows M w n rows x cs) : cs.length = rows.length * n := by
  rw [← h.rep.1, flatten_length _ h.uni]

theorem shows_slice {n b off cap : Nat} {rows : List (List SV)} {cs : List Value} (hr : RepSL M rows.flatten cs) (hc : ∀ c ∈ cs, cellV c = true) (hu : ∀ r ∈ rows, r.length = n)
    (hm : ∀ i, i < cs.length → w.cell? ⟨b, off + i, none⟩ = cs[i]?) : Shows M w n rows (.slice (some ⟨b, off, none⟩) rows.length cap) cs := by
  have hl : cs.length = rows.length * n := by rw [← hr.1, flatten_length _ hu]
  refine ⟨.inl ⟨_, _, rfl⟩, hr, hc, hu, fun P k hk => ?_⟩
  have hle : k * n ≤ cs.length := by rw [hl]; exact Nat.mul_le_mul_right _ hk
  have := run_loadMem (P := P) (w := w) (b := b) (o := off) (vs := cs.take (k * n)) (fun i hi => by
    simp at hi
    rw [hm i (by omega), List.getElem?_take, if_pos (by omega)])
  have hl2 : (cs.take (k * n)).length = k * n := by simp; omega
  rw [hl2] at this
  simp only [Builtin.firstCells, this]

theorem shows_nil {n : Nat} {ad : Option Addr} {cap : Nat} : Shows M w n [] (.slice ad 0 cap) [] := by
  refine ⟨.inl ⟨_, _, rfl⟩, RepSL.nil, by simp, by simp, fun P k hk => ?_⟩
  have : k = 0 := by simpa using hk
  subst this
  cases ad with
  | none => simp [Builtin.firstCells]
  | some ad => simp [Builtin.firstCells, loadCells, loadCellsFrom]

theorem rowsOf_shows (R : Mrel G M V H w) {h : HR} (hs : HSub h H) {n : Nat} {x : AV} {xv : Value} {rows : List (List SV)} (e : rowsOf h x = some rows) (hu : rows ≠ [] → ∀ r ∈ rows, r.length = n) (r : RepA M V x xv) :
    (∃ cs, Shows M w n rows xv cs) ∧ ∃ ad cap, xv = .slice ad rows.length cap := by
  unfold rowsOf at e
  split at e
  · simp only [Option.some.injEq] at e; subst e; cases r; exact ⟨⟨[], shows_nil⟩, _, _, rfl⟩
  · rename_i rows2
    simp only [Option.some.injEq] at e; subst e
    cases r with
    | xsl _ ad m r =>
      cases r with
      | ssl0 => exact ⟨⟨[], shows_nil⟩, _, _, rfl⟩
      | ssl _ wd b off _ f h0 hw hc hm rr =>
        refine ⟨⟨(List.range rows2.flatten.length).map f, shows_slice ⟨by rw [List.length_map, List.length_range], fun i h1 h2 => by simpa using rr i h1⟩ ?_ (hu h0) ?_⟩, _, _, rfl⟩
        · intro c hc
          simp only [List.mem_map, List.mem_range] at hc
          obtain ⟨i, hi, rfl⟩ := hc
          exact (R.mem _ _ _ (hm i hi)).2
        · intro i hi
          simp only [List.length_map, List.length_range] at hi
          rw [(R.mem _ _ _ (hm i hi)).1, List.getElem?_map, List.getElem?_range hi]; rfl
  · rename_i rows2
    simp only [Option.some.injEq] at e; subst e
    cases r with
    | s _ _ r =>
      cases r with
      | ssl0 => exact ⟨⟨[], shows_nil⟩, _, _, rfl⟩
      | ssl _ wd b off _ f h0 hw hc hm rr =>
        refine ⟨⟨(List.range rows2.flatten.length).map f, shows_slice ⟨by rw [List.length_map, List.length_range], fun i h1 h2 => by simpa using rr i h1⟩ ?_ (hu h0) ?_⟩, _, _, rfl⟩
        · intro c hc
          simp only [List.mem_map, List.mem_range] at hc
          obtain ⟨i, hi, rfl⟩ := hc
          exact (R.mem _ _ _ (hm i hi)).2
        · intro i hi
          simp only [List.length_map, List.length_range] at hi
          rw [(R.mem _ _ _ (hm i hi)).1, List.getElem?_map, List.getElem?_range hi]; rfl
  · rename_i k st row len cap
    split at e
    · rename_i s' wd rws fz hk
      split at e
      · rename_i hc
        obtain ⟨rfl, hle⟩ := hc
        simp only [Option.some.injEq] at e; subst e
        have hH := hs.live (k := k) (by rw [hk]; rfl)
        have hb := R.blk k
        rw [← hH, hk] at hb
        obtain ⟨bi, vs, own, h1, h2, h3, h4, h5, h6⟩ := hb
        obtain ⟨ty, fr, hh⟩ := own.heap
        cases r with
        | lsl _ _ _ _ _ bi' c v1 q1 q2 q3 q4 =>
          rw [own.v, Option.some.injEq] at v1; subst v1
          have hlen : ((rws.drop row).take len).length = len := by simp; omega
          by_cases h0 : (rws.drop row).take len = []
          · rw [h0] at hlen ⊢
            simp at hlen; subst hlen
            exact ⟨⟨[], shows_nil⟩, _, _, rfl⟩
          · have hwn : wd = n := by
              cases e2 : (rws.drop row).take len with
              | nil => exact absurd e2 h0
              | cons r0 rs =>
                have m0 : r0 ∈ (rws.drop row).take len := by rw [e2]; simp
                rw [← hu h0 r0 m0]; exact (h4 r0 (mem_drop_take m0)).symm
            subst hwn
            have q := rows_rep (row := row) (len := len) h4 h5 hle
            refine ⟨⟨(vs.drop (row * wd)).take (len * wd), ?_⟩, _, _, by rw [hlen]⟩
            have := shows_slice (w := w) (b := bi.b) (off := row * bi.w) (cap := c) q (fun c hc => own.cell c (mem_drop_take hc)) (hu h0) (fun i hi => by
              rw [cell_at hh, h1]
              simp at hi
              simp only [List.getElem?_drop, List.getElem?_take]
              rw [if_pos (by omega)])
            rw [hlen] at this; exact this
      · cases e
    · cases e
  · cases e

theorem appRows_shows (R : Mrel G M V H w) {h : HR} (hs : HSub h H) {n : Nat} {x : AV} {xv : Value} {rows : List (List SV)} (e : appRows h x = some rows) (hu : rows ≠ [] → ∀ r ∈ rows, r.length = n) (r : RepA M V x xv) :
    ∃ cs, Shows M w n rows xv cs := by
  unfold appRows at e
  split at e
  · rename_i l
    simp only [Option.some.injEq] at e; subst e
    cases r with
    | s _ _ r =>
      cases r
      have hfl : (strRows l).flatten = l.map fun b => SV.int .u8 b.toNat := by
        clear hu
        unfold strRows byteRow
        induction l with
        | nil => rfl
        | cons b l ih => rw [List.map_cons, List.flatten_cons, ih]; rfl
      by_cases h0 : l = []
      · subst h0
        refine ⟨[], .inr ⟨_, rfl, rfl⟩, RepSL.nil, by simp, by simp [strRows], fun P k hk => ?_⟩
        have : k = 0 := by simpa [strRows] using hk
        subst this
        simp [Builtin.firstCells]
      · have hn : n = 1 := by
          cases l with
          | nil => exact absurd rfl h0
          | cons b l => have := hu (by simp [strRows]) (byteRow b) (by simp [strRows]); rw [← this]; rfl
        subst hn
        refine ⟨l.map fun b => .int .u8 b.toNat, .inr ⟨_, rfl, by simp [strRows, ByteArray.size]⟩, ?_, ?_, fun r hr => ?_, fun P k hk => ?_⟩
        · rw [hfl]
          exact ⟨by simp, fun i h1 h2 => by simp only [List.getElem_map]; exact .int _ _⟩
        · intro c hc
          simp only [List.mem_map] at hc
          obtain ⟨b, _, rfl⟩ := hc
          rfl
        · simp only [strRows, List.mem_map] at hr
          obtain ⟨b, _, rfl⟩ := hr
          rfl
        · simp only [Builtin.firstCells, Sem.run_pure, Nat.mul_one]
          congr 2
          apply Array.ext'
          simp [ByteArray.extract, ByteArray.copySlice]
  · exact (rowsOf_shows R hs e hu r).1

end
end Go.Proofs.Ytbfdokfelolmbaa.Vai
end

section
namespace Go.Proofs.Ytbfdokfelolmbaa.Vai

section
variable {P : Program} {G : Nat → Prop} {M : Mem} {V : Val} {H : HR} {w : World} {a : Act} {s : Nat} {o : Oper} {v : AV} {ups : List Up}

/-! append. -/

theorem grow_le (newLen : Nat) : ∀ (r c : Nat), c ≤ 2 * newLen + 768 → Builtin.growBy newLen r c ≤ 2 * newLen + 768
  | 0, c, h => by simpa [Builtin.growBy] using h
  | r + 1, c, h => by
    unfold Builtin.growBy
    split
    · exact h
    · rename_i hc
      exact grow_le newLen r _ (by omega)
theorem nextcap_le {n c : Nat} (h : c < n) : Builtin.nextslicecap n c ≤ 2 * n + 1024 := by
  unfold Builtin.nextslicecap
  split
  · omega
  · split
    · omega
    · have := grow_le n 4 c (by omega); omega

theorem cellsOf_zero {t : TypeId} {z : List AV} (h : (tzero P t).bind cellsA = some z) (w : World) :
    ∃ x, (zeroValue t).run P w = .ok x w ∧ RepL M V z x.cells.toList ∧ ∀ c ∈ x.cells.toList, cellV c = true := by
  cases hz : tzero P t with
  | none => rw [hz] at h; cases h
  | some zv =>
    rw [hz] at h
    obtain ⟨x, h1, h2⟩ := run_zero (M := M) (V := V) hz w
    obtain ⟨q1, q2⟩ := cells_rep h h2
    exact ⟨x, h1, q1, q2⟩

theorem zeroCells_cell {zero : Array Value} {n : Nat} (hz : ∀ c ∈ zero.toList, cellV c = true) : ∀ c ∈ (Builtin.zeroCells zero n).toList, cellV c = true := by
  intro c hc
  simp only [Builtin.zeroCells, Array.toList_map, Array.toList_range, List.mem_map, List.mem_range] at hc
  obtain ⟨i, hi, rfl⟩ := hc
  have hpos : 0 < zero.size := by
    rcases Nat.eq_zero_or_pos zero.size with h | h
    · rw [h] at hi; omega
    · exact h
  have hlt : i % zero.size < zero.size := Nat.mod_lt _ hpos
  rw [getElem!_pos zero _ hlt]
  exact hz _ (by simp)

theorem zeroCells_length {zero : Array Value} {n : Nat} : (Builtin.zeroCells zero n).toList.length = n * zero.size := by simp [Builtin.zeroCells]

/-- What append does where there is room. -/
theorem run_append_room {t u e ty : TypeId} {d : TypeDesc} {n len cap b off : Nat} {xs : List (List SV)} {x : Value} {cs news : List Value} {ty' : TypeId} {fr : Nat × Nat}
    (hu : P.underlying t = some (.slice e)) (hd : P.underlying u = some d) (hni : ∀ k, d ≠ .int k) (hn : tsize P e = some n) (hx : Shows M w n xs x news) (hneed : len + xs.length ≤ cap)
    (hh : w.heap[b]? = some (.cells ⟨cs⟩ ty' fr)) (hf : ∀ j, j < cs.length → w.frozen? ⟨b, j, none⟩ = false) (hl : off + (len + xs.length) * n ≤ cs.length) :
    (Builtin.append_ #[t, u] ty #[.slice (some ⟨b, off, none⟩) len cap, x]).run P w = .ok (.slice (some ⟨b, off, none⟩) (len + xs.length) cap) (wput w b (off + len * n) news) := by
  have hz : (match d with | .int _ => true | _ => false) = false := by cases d <;> first | rfl | exact absurd rfl (hni _)
  have hlen : (Builtin.lenOf x).run P w = .ok xs.length w := by
    rcases hx.len with ⟨ad, c, rfl⟩ | ⟨bb, rfl, h2⟩
    · rfl
    · simp [Builtin.lenOf, h2]
  have hfc := hx.run P xs.length (Nat.le_refl _)
  rw [← hx.length, List.take_length] at hfc
  have hnl := hx.length
  have hst := run_storeAt (P := P) (b := b) (off + len * n) news 0 cs w hh (by rw [Nat.add_mul] at hl; omega) hx.cell hf
  simp only [Nat.add_zero] at hst
  simp only [Builtin.append_, List.getElem?_toArray, List.getElem?_cons_zero, List.getElem?_cons_succ, Sem.run_bind, run_under hu, Result.andThen_ok, run_size hn, run_under hd, Sem.run_pure, Bool.false_eq_true, if_false, hlen, hneed, if_true, Bool.not_false, hfc, add_at, hst]

/-- The world behind one draw. -/
def wdraw (w : World) : World := { w with drawn := w.drawn + 1 }

theorem run_info {t : TypeId} {b : Nat} (h : tbytes P t = some b) : ∃ i, (∀ w, (typeInfo t).run P w = .ok i w) ∧ i.bytes = b := by
  unfold tbytes at h
  cases hi : P.info? t with
  | none => simp [hi] at h
  | some i => simp [hi] at h; exact ⟨i, fun w => by simp [typeInfo, hi], h⟩

/-- What append does where there is none. -/
theorem run_append_grow {t u e ty : TypeId} {d : TypeDesc} {n bts len cap : Nat} {ad : Option Addr} {rows xs : List (List SV)} {x : Value} {olds news : List Value} {z : List AV}
    (hu : P.underlying t = some (.slice e)) (hd : P.underlying u = some d) (hni : ∀ k, d ≠ .int k) (hn : tsize P e = some n) (hb : tbytes P e = some bts) (hz : (tzero P e).bind cellsA = some z) (hzl : z.length = n)
    (hs : Shows M (wdraw w) n rows (.slice ad rows.length cap) olds) (hlen : len = rows.length) (hx : Shows M (wdraw w) n xs x news) (hneed : cap < len + xs.length)
    (hfit : (2 * (len + xs.length) + 1024) * bts ≤ 140737488355328 ∧ len + xs.length ≤ 140737488355328) :
    ∃ c rest, (Builtin.append_ #[t, u] ty #[.slice ad len cap, x]).run P w =
        .ok (.slice (some ⟨w.heap.size, 0, none⟩) (len + xs.length) c) (wnew (wdraw w) (.cells ⟨olds ++ news ++ rest⟩ e (0, 0))) ∧
      len + xs.length ≤ c ∧ rest.length = (c - (len + xs.length)) * n ∧ ∀ y ∈ rest, cellV y = true := by
  subst hlen
  have hlx : ∀ w, (Builtin.lenOf x).run P w = .ok xs.length w := by
    intro w
    rcases hx.len with ⟨ad, c, rfl⟩ | ⟨bb, rfl, h2⟩
    · rfl
    · simp [Builtin.lenOf, h2]
  have hno : ¬ rows.length + xs.length ≤ cap := by omega
  obtain ⟨i, hi, hib⟩ := run_info hb
  have hcap : ¬ Builtin.nextslicecap (rows.length + xs.length) cap * bts > 2 ^ 48 := by
    have := nextcap_le hneed
    have := Nat.mul_le_mul_right bts this
    omega
  have ho := hs.run P rows.length (Nat.le_refl _)
  rw [← hs.length, List.take_length] at ho
  have hnw := hx.run P xs.length (Nat.le_refl _)
  rw [← hx.length, List.take_length] at hnw
  obtain ⟨zv, hzr, hzq, hzc⟩ := cellsOf_zero (M := M) (V := fun _ => none) hz (wdraw w)
  have hzs : zv.cells.size = n := by have := hzq.1; simp at this; omega
  let c := rows.length + xs.length + w.tape w.drawn (.appendCap (rows.length + xs.length) cap e) % (2 ^ 63 - (rows.length + xs.length))
  have hch : (choose (.appendCap (rows.length + xs.length) cap e)).run P w = .ok c (wdraw w) := by
    rw [run_choose]
    simp [Question.forced, Question.cut, wdraw, c]
  refine ⟨c, (Builtin.zeroCells zv.cells (c - (rows.length + xs.length))).toList, ?_, by simp only [c]; omega, by rw [zeroCells_length, hzs], zeroCells_cell hzc⟩
  have hmax : ¬ (((rows.length + xs.length : Nat) : Int) > IntKind.i64.max ∧ (False ∨ bts = 0)) := by
    intro hh
    have := hh.1
    simp [IntKind.max, IntKind.bits, IntKind.signed] at this
    omega
  have hask : ∀ m w, (askRoom m).run P w = .ok () w := fun m w => run_askRoom P w m
  simp only [Builtin.append_, List.getElem?_toArray, List.getElem?_cons_zero, List.getElem?_cons_succ, Sem.run_bind, run_under hu, Result.andThen_ok, run_size hn, run_under hd, Sem.run_pure, Bool.false_eq_true, if_false, hlx, hno,
    Bool.not_false, if_true, hi, hib]
  rw [if_neg hmax]
  simp only [Sem.run_bind, hi, Result.andThen_ok, hib]
  rw [if_neg hcap]
  simp only [Sem.run_bind, hch, hi, Result.andThen_ok, hask, ho, hnw, hzr, newRow, run_newObj, Sem.run_pure]
  congr 1
  unfold wnew
  congr 2
  congr 1
  apply Array.ext'
  simp

theorem Mrel.restamp (R : Mrel G M V H w) {k s : Nat} {bi : BI} (hs : V s = none) (hl : (H k).2.live = true) (hv : V (H k).1 = some bi) :
    Mrel G M (vset V s bi) (upH H [(k, (s, (H k).2))]) w ∧ Ext G M V w M (vset V s bi) w := by
  have hsub := vset_sub (bi := bi) hs
  have old : ∀ j b, (H j).2.live = true → vset V s bi (H j).1 = some b → V (H j).1 = some b := by
    intro j b hlj hvj
    obtain ⟨b', vs', o'⟩ := (R.blk j).live_own hlj
    have : (H j).1 ≠ s := by intro e; have := o'.v; rw [e, hs] at this; cases this
    simpa only [vset, if_neg this] using hvj
  refine ⟨⟨R.mem, ?_, ?_, R.gsz, ?_⟩, ⟨fun _ _ _ h => h, fun _ _ _ _ => rfl, hsub, .refl _ _⟩⟩
  · intro j
    rw [upH_one]
    by_cases hj : k = j
    · subst hj
      rw [if_pos rfl]
      have hb := R.blk k
      cases e : (H k).2 with
      | gone => trivial
      | var cells fz =>
        rw [e] at hb
        obtain ⟨bi', vs, o, h1, h2, h3, h4⟩ := hb
        have : bi' = bi := by have := o.v; rw [hv, Option.some.injEq] at this; exact this.symm
        subst this
        exact ⟨bi', vs, ⟨vset_same _ _ _, o.heap, o.cell, o.free, o.notG⟩, h1, h2, h3.mono (fun _ _ _ h => h) hsub, h4⟩
      | arr wd rows fz =>
        rw [e] at hb
        obtain ⟨bi', vs, o, h1, h2, h3, h4, h5, h6⟩ := hb
        have : bi' = bi := by have := o.v; rw [hv, Option.some.injEq] at this; exact this.symm
        subst this
        exact ⟨bi', vs, ⟨vset_same _ _ _, o.heap, o.cell, o.free, o.notG⟩, h1, h2, h3, h4, h5, h6⟩
    · rw [if_neg hj]
      exact (R.blk j).keep hsub (fun _ _ _ h => h) (fun _ _ _ => ⟨rfl, fun _ => rfl⟩)
  · intro k1 k2 b1 b2 hne h1 h2 v1 v2
    rw [upH_one] at h1 h2 v1 v2
    by_cases e1 : k = k1
    · subst e1
      rw [if_pos rfl] at v1
      rw [if_neg hne] at h2 v2
      simp only [vset_same, Option.some.injEq] at v1
      subst v1
      exact R.dist k k2 bi b2 hne hl h2 hv (old k2 b2 h2 v2)
    · rw [if_neg e1] at h1 v1
      by_cases e2 : k = k2
      · subst e2
        rw [if_pos rfl] at v2
        simp only [vset_same, Option.some.injEq] at v2
        subst v2
        exact R.dist k1 k b1 bi hne h1 hl (old k1 b1 h1 v1) hv
      · rw [if_neg e2] at h2 v2
        exact R.dist k1 k2 b1 b2 hne h1 h2 (old k1 b1 h1 v1) (old k2 b2 h2 v2)
  · intro j b hb
    unfold vset at hb
    split at hb
    · simp only [Option.some.injEq] at hb; subst hb; exact R.vsz _ _ hv
    · exact R.vsz j b hb

theorem vset_new {V : Val} {s : Nat} {bi : BI} : ∀ j, vset V s bi j ≠ V j → s ≤ j ∧ j < s + room := by
  intro j hj
  by_cases e : j = s
  · subst e; exact ⟨Nat.le_refl _, by unfold room; omega⟩
  · exact absurd (by simp [vset, e]) hj

/-- A new row of cells behind an append. -/
theorem grow_post (R : Mrel G M V H w) {k fz n c : Nat} {e : TypeId} {rows xs : List (List SV)} {ad : Option Addr} {x : Value} {cap : Nat} {olds news rest : List Value}
    (hs : Shows M (wdraw w) n rows (.slice ad rows.length cap) olds) (hx : Shows M (wdraw w) n xs x news) (hc : rows.length + xs.length ≤ c) (hr : rest.length = (c - (rows.length + xs.length)) * n) (hrc : ∀ y ∈ rest, cellV y = true)
    (hst : V s = none) : OpPost G M V H w s (.lsl k s 0 (rows.length + xs.length) none) [(k, (s, .arr n (rows ++ xs) fz))]
      (.slice (some ⟨w.heap.size, 0, none⟩) (rows.length + xs.length) c) (wnew (wdraw w) (.cells ⟨olds ++ news ++ rest⟩ e (0, 0))) := by
  have R1 : Mrel G M V H (wdraw w) := R.drew _
  have hol := hs.length
  have hnl := hx.length
  have hcells : ∀ v ∈ olds ++ news ++ rest, cellV v = true := by
    intro v hv
    simp only [List.mem_append] at hv
    rcases hv with (hv | hv) | hv
    · exact hs.cell v hv
    · exact hx.cell v hv
    · exact hrc v hv
  have W := R1.make (k := k) (s := s) (n := c) (wd := n) (cs := olds ++ news ++ rest) (ty := e) (fr := (0, 0)) (blk := .arr n (rows ++ xs) fz) hst hcells (fun o _ => by simp) (by
    intro w' _ own hm
    refine ⟨_, _, own, rfl, ?_, by simpa using hc, ?_, ?_, fun o _ => hm o⟩
    · simp only [List.length_append]
      rw [hol, hnl, hr, ← Nat.add_mul, ← Nat.add_mul]; congr 1; omega
    · intro r hr
      rcases List.mem_append.1 hr with h | h
      · exact hs.uni r h
      · exact hx.uni r h
    · rw [List.flatten_append]
      have q := hs.rep.append hx.rep
      have : (olds ++ news ++ rest).take (rows.flatten ++ xs.flatten).length = olds ++ news := by
        rw [q.1, List.take_left' rfl]
      rw [this]; exact q)
  obtain ⟨R', X⟩ := W
  refine ⟨M, _, R', (Ext.drew (w := w) _).trans X, ?_, vset_new⟩
  have := RepA.lsl (M := M) k s 0 (rows.length + xs.length) none _ c (vset_same V s ⟨(wdraw w).heap.size, c, n⟩) (by simp) (by simp) hc (by simp)
  simp only [Nat.zero_mul] at this
  exact this

theorem append_sound (R : Mrel G M V H w) {h : HR} (hs : HSub h H) {k : Nat} {ts : List TypeId} {ty : TypeId} {y x : AV} {yv xv : Value} (e : appendA P h k s ts y x = some (v, ups)) (ry : RepA M V y yv) (rx : RepA M V x xv) (hst : V s = none) :
    ∃ z w', (Builtin.append_ ⟨ts⟩ ty #[yv, xv]).run P w = .ok z w' ∧ OpPost G M V H w s v ups z w' := by
  unfold appendA at e
  split at e
  · rename_i t u
    split at e
    · cases e
    · rename_i el d hne hel hd
      have hni : ∀ k, d ≠ .int k := by
        intro k hk; subst hk
        first | exact hne _ hd | exact hne _ rfl | exact hne _ hel hd | exact hne _ _ hel hd
      have hu := elem_under hel
      split at e
      · rename_i wd bts xs hn hb hxs
        split at e
        · rename_i hz
          obtain ⟨z, hz1, hz2⟩ : ∃ z, (tzero P el).bind cellsA = some z ∧ z.length = wd + 1 := by
            cases hh : (tzero P el).bind cellsA with
            | none => rw [hh] at hz; cases hz
            | some z => rw [hh] at hz; exact ⟨z, rfl, by simpa using hz⟩
          split at e
          · rename_i h0
            split at e
            · rename_i hsl
              simp only [Option.some.injEq, Prod.mk.injEq] at e
              obtain ⟨rfl, rfl⟩ := e
              subst h0
              obtain ⟨cs, hx⟩ := appRows_shows (n := wd + 1) R hs hxs (fun h => absurd rfl h) rx
              have hy : ∃ ad len cap, yv = .slice ad len cap ∧ len ≤ cap := by
                unfold isSl at hsl
                split at hsl
                · cases ry; exact ⟨_, _, _, rfl, Nat.le_refl _⟩
                · cases ry; exact ⟨_, _, _, rfl, Nat.le_refl _⟩
                · cases ry with
                  | s _ _ r => cases r with
                    | ssl0 ad c => exact ⟨ad, 0, c, rfl, Nat.zero_le _⟩
                    | ssl _ _ _ _ _ _ _ _ hle => exact ⟨_, _, _, rfl, hle⟩
                · cases ry with
                  | lsl _ _ _ _ _ _ c _ _ _ q3 => exact ⟨_, _, _, rfl, q3⟩
                · cases hsl
              obtain ⟨ad, len, cap, rfl, hle⟩ := hy
              refine ⟨.slice ad len cap, w, ?_, OpPost.same R ry⟩
              have hlx : (Builtin.lenOf xv).run P w = .ok 0 w := by
                rcases hx.len with ⟨ad, c, rfl⟩ | ⟨bb, rfl, h2⟩
                · rfl
                · simp only [List.length_nil] at h2; simp [Builtin.lenOf, h2]
              have hfc := hx.run P 0 (Nat.zero_le _)
              rw [Nat.zero_mul, List.take_zero] at hfc
              simp only [Builtin.append_, List.getElem?_toArray, List.getElem?_cons_zero, List.getElem?_cons_succ, Sem.run_bind, run_under hu, Result.andThen_ok, run_size hn, run_under hd, Sem.run_pure, Bool.false_eq_true, if_false, hlx, Nat.add_zero, hle, if_true,
                Bool.not_false, hfc]
              cases ad with
              | none => rfl
              | some ad => simp [storeCells]
            · cases e
          · rename_i h0
            split at e
            · rename_i hall
              have huni : ∀ r ∈ xs, r.length = wd + 1 := by
                rw [List.all_eq_true] at hall
                intro r hr; simpa using hall r hr
              obtain ⟨news, hx⟩ := appRows_shows (n := wd + 1) R hs hxs (fun _ => huni) rx
              obtain ⟨news1, hx1⟩ := appRows_shows (n := wd + 1) (R.drew (w.drawn + 1)) hs hxs (fun _ => huni) rx
              have grw : ∀ {k' fz : Nat} {rows : List (List SV)} {ad : Option Addr} {len cap : Nat} {olds : List Value}, Shows M (wdraw w) (wd + 1) rows (.slice ad rows.length cap) olds → len = rows.length → cap < len + xs.length →
                  appendA.fits bts (len + xs.length) = true → yv = .slice ad len cap → v = .lsl k' s 0 (len + xs.length) none → ups = [(k', (s, .arr (wd + 1) (rows ++ xs) fz))] →
                  ∃ z w', (Builtin.append_ ⟨[t, u]⟩ ty #[yv, xv]).run P w = .ok z w' ∧ OpPost G M V H w s v ups z w' := by
                intro k' fz rows ad len cap olds hsh hl hcap hfit hy hv hup
                subst hy hv hup
                simp only [appendA.fits, Bool.and_eq_true, decide_eq_true_eq] at hfit
                obtain ⟨c, rest, hrun, h1, h2, h3⟩ := run_append_grow (ty := ty) hu hd hni hn hb hz1 hz2 hsh hl hx1 hcap hfit
                subst hl
                exact ⟨_, _, hrun, grow_post R hsh hx1 h1 h2 h3 hst⟩
              split at e
              · unfold appendA.grow at e
                split at e
                · rename_i hfit
                  simp only [Option.some.injEq, Prod.mk.injEq] at e
                  obtain ⟨rfl, rfl⟩ := e
                  cases ry
                  refine grw (rows := []) shows_nil rfl ?_ hfit rfl rfl rfl
                  have : 0 < xs.length := List.length_pos_iff.2 h0
                  simpa using this
                · cases e
              · rename_i rows
                split at e
                · rename_i hrall
                  unfold appendA.grow at e
                  split at e
                  · rename_i hfit
                    simp only [Option.some.injEq, Prod.mk.injEq] at e
                    obtain ⟨rfl, rfl⟩ := e
                    have hru : ∀ r ∈ rows, r.length = wd + 1 := by
                      rw [List.all_eq_true] at hrall
                      intro r hr; simpa using hrall r hr
                    obtain ⟨⟨olds, ho⟩, ad, cap, hyv⟩ := rowsOf_shows (n := wd + 1) (R.drew (w.drawn + 1)) hs (x := .xsl rows) rfl (fun _ => hru) ry
                    have hcp : cap = rows.length := by
                      cases ry with
                      | xsl _ ad' m r =>
                        have : m = rows.length := by cases r <;> rfl
                        cases hyv; exact this
                    rw [hyv] at ho
                    refine grw ho rfl ?_ hfit hyv rfl rfl
                    have : 0 < xs.length := List.length_pos_iff.2 h0
                    omega
                  · cases e
                · cases e
              · rename_i k' s' row len cap
                split at e
                · rename_i s'' wd' rows fz hk
                  split at e
                  · rename_i hcw
                    obtain ⟨rfl, rfl⟩ := hcw
                    have hlive : (h k').2.live = true := by rw [hk]; rfl
                    have hH := hs.live hlive
                    have hb' := R.blk k'
                    rw [← hH, hk] at hb'
                    obtain ⟨bi, vs, own, h1, h2, h3, h4, h5, h6⟩ := hb'
                    obtain ⟨ty', fr, hh⟩ := own.heap
                    have hst' : (H k').1 = s'' := by rw [← hH, hk]
                    have hfl := flatten_length rows h4
                    -- writing the rows into the block
                    have wr : ∀ {rows2 : List (List SV)} {off : Nat}, fz ≤ off → (off + xs.length) * (wd + 1) ≤ vs.length → rows2.length ≤ bi.n → (∀ r ∈ rows2, r.length = wd + 1) →
                        rows2.flatten = splice rows.flatten (off * (wd + 1)) xs.flatten → off * (wd + 1) ≤ rows.flatten.length →
                        Mrel G M V (upH H [(k', (s'', .arr (wd + 1) rows2 fz))]) (wput w bi.b (off * (wd + 1)) news) ∧ Ext G M V w M V (wput w bi.b (off * (wd + 1)) news) := by
                      intro rows2 off hfz hle hr2 hu2 hfl2 hol
                      have hnl := hx.length
                      have hle2 : off * (wd + 1) + news.length ≤ vs.length := by rw [hnl, ← Nat.add_mul]; exact hle
                      have W := R.write (k := k') (bi := bi) (cs := vs) (vs := news) (o := off * (wd + 1)) (blk := .arr (wd + 1) rows2 fz) (by rw [← hH]; exact hlive) (by rw [hst']; exact own) hle2 hx.cell
                        (fun i hi _ => h6 i (Nat.le_trans (Nat.mul_le_mul_right _ hfz) hi)) (by
                          intro own'
                          rw [hst'] at own'
                          rw [hst']
                          refine ⟨bi, _, own', h1, by rw [splice_length _ _ _ hle2]; exact h2, hr2, hu2, ?_, h6⟩
                          rw [hfl2]
                          have hfe : rows.flatten.length ≤ vs.length := by rw [hfl, h2]; exact Nat.mul_le_mul_right _ h3
                          have hxl : xs.flatten.length = news.length := hx.rep.1
                          have q := h5.splice hx.rep (off * (wd + 1))
                          have hlen : (splice rows.flatten (off * (wd + 1)) xs.flatten).length = max rows.flatten.length (off * (wd + 1) + news.length) := by
                            unfold splice; simp only [List.length_append, List.length_take, List.length_drop, hxl]; omega
                          rw [hlen]
                          by_cases hin : off * (wd + 1) + news.length ≤ rows.flatten.length
                          · rw [Nat.max_eq_left hin, take_splice _ _ _ _ hin hfe]; exact q
                          · rw [Nat.max_eq_right (by omega)]
                            have e1 : (splice vs (off * (wd + 1)) news).take (off * (wd + 1) + news.length) = splice (vs.take rows.flatten.length) (off * (wd + 1)) news := by
                              unfold splice
                              rw [List.take_take, Nat.min_eq_left hol]
                              have e3 : (vs.take (off * (wd + 1)) ++ news).length = off * (wd + 1) + news.length := by simp; omega
                              rw [← e3, List.take_left' rfl]
                              rw [List.drop_of_length_le (l := vs.take rows.flatten.length) (by rw [e3, List.length_take]; omega), List.append_nil]
                            rw [e1]; exact q)
                      rw [hst'] at W; exact W
                    split at e
                    · rename_i hroom
                      obtain ⟨hr1, hr2⟩ := hroom
                      split at e
                      · rename_i hfz
                        simp only [Option.some.injEq, Prod.mk.injEq] at e
                        obtain ⟨rfl, rfl⟩ := e
                        cases ry with
                        | lsl _ _ _ _ _ bi' c v1 q1 q2 q3 q4 =>
                          rw [own.v, Option.some.injEq] at v1; subst v1
                          have hneed : len + xs.length ≤ c := by
                            cases cap with
                            | some c' => have := q1 c' rfl; subst this; simpa [capOk] using hr2
                            | none => have := q2 rfl; omega
                          have hle : (row + len + xs.length) * (wd + 1) ≤ vs.length := by rw [h2]; exact Nat.mul_le_mul_right _ (by omega)
                          have hsp : (splice rows (row + len) xs).flatten = splice rows.flatten ((row + len) * (wd + 1)) xs.flatten := by
                            unfold splice
                            simp only [List.flatten_append]
                            rw [flatten_take _ _ h4, flatten_drop _ _ h4, flatten_length xs huni, Nat.add_mul (row + len)]
                          obtain ⟨R', X⟩ := wr (rows2 := splice rows (row + len) xs) (off := row + len) hfz hle (by rw [splice_length _ _ _ (by omega)]; exact h3) (by
                            intro r hr
                            unfold splice at hr
                            simp only [List.mem_append] at hr
                            rcases hr with (hr | hr) | hr
                            · exact h4 r (List.mem_of_mem_take hr)
                            · exact huni r hr
                            · exact h4 r (List.mem_of_mem_drop hr)) hsp (by rw [hfl]; exact Nat.mul_le_mul_right _ (by omega))
                          have hrun := run_append_room (ty := ty) (off := row * bi.w) hu hd hni hn hx hneed hh (fun j hj => own.free j hj) (by rw [h1, ← Nat.add_mul, ← Nat.add_assoc]; exact hle)
                          rw [h1, ← Nat.add_mul] at hrun
                          refine ⟨_, _, by rw [h1]; exact hrun, M, V, R', X, ?_, fun _ h => absurd rfl h⟩
                          have := RepA.lsl (M := M) k' s'' row (len + xs.length) cap bi c own.v q1 q2 hneed q4
                          rw [h1] at this; exact this
                      · cases e
                    · rename_i hroom
                      split at e
                      · rename_i c'
                        split at e
                        · rename_i hcc
                          unfold appendA.grow at e
                          split at e
                          · rename_i hfit
                            simp only [Option.some.injEq, Prod.mk.injEq] at e
                            obtain ⟨rfl, rfl⟩ := e
                            have hlen : ((rows.drop row).take len).length = len := by simp; omega
                            obtain ⟨⟨olds, ho⟩, ad, cp, hyv⟩ := rowsOf_shows (n := wd + 1) (R.drew (w.drawn + 1)) hs (x := .lsl k' s'' row len (some c')) (rows := (rows.drop row).take len) (by simp [rowsOf, hk, hcc.2]) (fun _ r hr => h4 r (mem_drop_take hr)) ry
                            have hcp : cp = c' := by
                              have hyv2 := hyv
                              rw [hlen] at hyv2
                              cases ry with
                              | lsl _ _ _ _ _ _ c _ q1 => cases hyv2; exact q1 c' rfl
                            rw [hyv] at ho
                            rw [hlen] at hfit hyv
                            refine grw ho hlen.symm ?_ hfit hyv (by rw [hlen]) rfl
                            omega
                          · cases e
                        · cases e
                      · split at e
                        · rename_i hcc
                          obtain ⟨rfl, hlr, hfz, hfit⟩ := hcc
                          simp only [Option.some.injEq, Prod.mk.injEq] at e
                          obtain ⟨rfl, rfl⟩ := e
                          cases ry with
                          | lsl _ _ _ _ _ bi' c v1 q1 q2 q3 q4 =>
                            rw [own.v, Option.some.injEq] at v1; subst v1
                            have hcn := q2 rfl
                            by_cases hneed : len + xs.length ≤ c
                            · have hle : (len + xs.length) * (wd + 1) ≤ vs.length := by rw [h2]; exact Nat.mul_le_mul_right _ (by omega)
                              have hsp : (rows ++ xs).flatten = splice rows.flatten (len * (wd + 1)) xs.flatten := by
                                unfold splice
                                rw [List.flatten_append, hlr, ← hfl, List.take_length, List.drop_of_length_le (by omega), List.append_nil]
                              obtain ⟨R', X⟩ := wr (rows2 := rows ++ xs) (off := len) hfz hle (by simp; omega) (by
                                intro r hr
                                rcases List.mem_append.1 hr with h | h
                                · exact h4 r h
                                · exact huni r h) hsp (by rw [hfl, hlr]; exact Nat.le_refl _)
                              have hup : upH H [(k', (s'', .arr (wd + 1) (rows ++ xs) fz))] k' = (s'', .arr (wd + 1) (rows ++ xs) fz) := by simp [upH_one]
                              obtain ⟨R2, X2⟩ := R'.restamp (k := k') (s := s) (bi := bi) hst (by rw [hup]; rfl) (by rw [hup]; exact own.v)
                              rw [hup] at R2
                              have hup2 : upH (upH H [(k', (s'', .arr (wd + 1) (rows ++ xs) fz))]) [(k', (s, .arr (wd + 1) (rows ++ xs) fz))] = upH H [(k', (s, .arr (wd + 1) (rows ++ xs) fz))] := by
                                funext j
                                simp only [upH_one]
                                split <;> rfl
                              rw [hup2] at R2
                              have hrun := run_append_room (ty := ty) (off := 0 * bi.w) hu hd hni hn hx hneed hh (fun j hj => own.free j hj) (by rw [Nat.zero_mul, Nat.zero_add]; exact hle)
                              rw [Nat.zero_mul, Nat.zero_add] at hrun
                              refine ⟨_, _, by rw [Nat.zero_mul]; exact hrun, M, _, R2, X.trans X2, ?_, vset_new⟩
                              have := RepA.lsl (M := M) k' s 0 (len + xs.length) none bi c (vset_same V s bi) (by simp) (fun _ => hcn) hneed q4
                              rw [Nat.zero_mul] at this; exact this
                            · have hlen : ((rows.drop 0).take len).length = len := by simp; omega
                              have htk : (rows.drop 0).take len = rows := by rw [List.drop_zero, hlr, List.take_length]
                              obtain ⟨⟨olds, ho⟩, ad, cp, hyv⟩ := rowsOf_shows (n := wd + 1) (R.drew (w.drawn + 1)) hs (x := .lsl k' s'' 0 len none) (rows := rows) (by simp only [rowsOf, hk]; rw [htk]; simp; omega) (fun _ r hr => h4 r hr)
                                (RepA.lsl (M := M) k' s'' 0 len none bi c own.v q1 q2 q3 q4)
                              have hcp : cp = c := by cases hyv; rfl
                              rw [hyv] at ho
                              exact grw ho hlr (by omega) hfit (by rw [hyv, hlr]) rfl rfl
                        · cases e
                  · cases e
                · cases e
              · cases e
            · cases e
        · cases e
      · cases e
    · cases e
  · cases e

end
end Go.Proofs.Ytbfdokfelolmbaa.Vai
end

section
namespace Go.Proofs.Ytbfdokfelolmbaa.Vai

section
variable {P : Program} {G : Nat → Prop} {M : Mem} {V : Val} {H : HR} {w : World} {a : Act} {s : Nat} {o : Oper} {v : AV} {ups : List Up}

theorem len_rep {x : AV} {xv : Value} {n : Nat} (e : lenA x = some n) (r : RepA M V x xv) : ∃ ad c, xv = .slice ad n c := by
  unfold lenA at e
  split at e
  · simp only [Option.some.injEq] at e; subst e; cases r; exact ⟨_, _, rfl⟩
  · rename_i rows
    simp only [Option.some.injEq] at e; subst e
    cases r with
    | xsl _ ad m r =>
      have : m = rows.length := by cases r <;> rfl
      subst this; exact ⟨_, _, rfl⟩
  · simp only [Option.some.injEq] at e; subst e
    cases r with
    | s _ _ r => cases r <;> exact ⟨_, _, rfl⟩
  · simp only [Option.some.injEq] at e; subst e; cases r; exact ⟨_, _, rfl⟩
  · cases e

theorem len_sound {t : TypeId} {ts : List TypeId} {ty : TypeId} {x : AV} {xv : Value} {rest : List Value} (e : lenOpA P t x = some v) (r : RepA M V x xv) :
    ∃ z, (∀ w, (Builtin.len_ (t :: ts).toArray ty (xv :: rest).toArray).run P w = .ok z w) ∧ RepA M V v z := by
  unfold lenOpA at e
  split at e
  · rename_i hu
    unfold strLen at e
    split at e
    · simp only [Option.map_some, Option.some.injEq] at e; subst e
      cases r with
      | s _ _ r =>
        cases r
        refine ⟨_, fun w => ?_, .s _ _ (.int _ _)⟩
        simp [Builtin.len_, run_under hu, goInt]
        rfl
    · cases e
  · rename_i el hu
    cases hl : lenA x with
    | none => rw [hl] at e; cases e
    | some n =>
      rw [hl] at e
      simp only [Option.map_some, Option.some.injEq] at e; subst e
      obtain ⟨ad, c, rfl⟩ := len_rep hl r
      refine ⟨_, fun w => ?_, .s _ _ (.int _ _)⟩
      simp [Builtin.len_, run_under hu, goInt]
  · rename_i n el hu
    simp only [Option.some.injEq] at e; subst e
    refine ⟨_, fun w => ?_, .s _ _ (.int _ _)⟩
    simp [Builtin.len_, run_under hu, goInt]
  · cases e

theorem cap_sound {t : TypeId} {ts : List TypeId} {ty : TypeId} {x : AV} {xv : Value} {rest : List Value} (e : capOpA P t x = some v) (r : RepA M V x xv) :
    ∃ z, (∀ w, (Builtin.cap_ (t :: ts).toArray ty (xv :: rest).toArray).run P w = .ok z w) ∧ RepA M V v z := by
  unfold capOpA at e
  split at e
  · rename_i el hu
    simp only [Option.some.injEq] at e; subst e
    cases r
    refine ⟨_, fun w => ?_, .s _ _ (.int _ _)⟩
    simp [Builtin.cap_, run_under hu, goInt]
  · rename_i el rows hu
    simp only [Option.some.injEq] at e; subst e
    cases r with
    | xsl _ ad m r =>
      have : m = rows.length := by cases r <;> rfl
      subst this
      refine ⟨_, fun w => ?_, .s _ _ (.int _ _)⟩
      simp [Builtin.cap_, run_under hu, goInt]
  · rename_i el k st row len c hu
    simp only [Option.some.injEq] at e; subst e
    cases r with
    | lsl _ _ _ _ _ bi c' v1 q1 =>
      have := q1 c rfl
      subst this
      refine ⟨_, fun w => ?_, .s _ _ (.int _ _)⟩
      simp [Builtin.cap_, run_under hu, goInt]
  · cases e

/-- Rows written over rows of a block. -/
theorem write_rows (R : Mrel G M V H w) {h : HR} (hs : HSub h H) {k s' n fz off : Nat} {rows xs : List (List SV)} {news : List Value} (hk : h k = (s', .arr n rows fz)) (hfz : fz ≤ off)
    (hle : off + xs.length ≤ rows.length) (hu : ∀ r ∈ xs, r.length = n) (hr : RepSL M xs.flatten news) (hc : ∀ c ∈ news, cellV c = true) :
    ∃ bi vs ty fr, V s' = some bi ∧ bi.w = n ∧ rows.length ≤ bi.n ∧ w.heap[bi.b]? = some (.cells ⟨vs⟩ ty fr) ∧ (∀ j, j < vs.length → w.frozen? ⟨bi.b, j, none⟩ = false) ∧ off * n + news.length ≤ vs.length ∧
      Mrel G M V (upH H [(k, (s', .arr n (splice rows off xs) fz))]) (wput w bi.b (off * n) news) ∧ Ext G M V w M V (wput w bi.b (off * n) news) := by
  have hlive : (h k).2.live = true := by rw [hk]; rfl
  have hH := hs.live hlive
  have hb := R.blk k
  rw [← hH, hk] at hb
  obtain ⟨bi, vs, own, h1, h2, h3, h4, h5, h6⟩ := hb
  obtain ⟨ty, fr, hh⟩ := own.heap
  have hst : (H k).1 = s' := by rw [← hH, hk]
  have hfl := flatten_length rows h4
  have hnl : news.length = xs.length * n := by rw [← hr.1, flatten_length _ hu]
  have hle1 : off * n + xs.length * n ≤ rows.length * n := by rw [← Nat.add_mul]; exact Nat.mul_le_mul_right _ hle
  have hle3 : rows.length * n ≤ bi.n * n := Nat.mul_le_mul_right _ h3
  have hle2 : off * n + news.length ≤ vs.length := by rw [hnl, h2]; omega
  have W := R.write (k := k) (bi := bi) (cs := vs) (vs := news) (o := off * n) (blk := .arr n (splice rows off xs) fz) (by rw [← hH]; exact hlive) (by rw [hst]; exact own) hle2 hc
    (fun i hi _ => h6 i (Nat.le_trans (Nat.mul_le_mul_right _ hfz) hi)) (by
      intro own'
      rw [hst] at own'
      rw [hst]
      refine ⟨bi, _, own', h1, by rw [splice_length _ _ _ hle2]; exact h2, by rw [splice_length _ _ _ hle]; exact h3, ?_, ?_, h6⟩
      · intro r hr
        unfold splice at hr
        simp only [List.mem_append] at hr
        rcases hr with (hr | hr) | hr
        · exact h4 r (List.mem_of_mem_take hr)
        · exact hu r hr
        · exact h4 r (List.mem_of_mem_drop hr)
      · have hsp : (splice rows off xs).flatten = splice rows.flatten (off * n) xs.flatten := by
          unfold splice
          simp only [List.flatten_append]
          rw [flatten_take _ _ h4, flatten_drop _ _ h4, flatten_length xs hu, Nat.add_mul]
        have hfe : rows.flatten.length ≤ vs.length := by rw [hfl, h2]; exact hle3
        rw [hsp, splice_length _ _ _ (by rw [hr.1, hnl, hfl]; exact hle1), take_splice _ _ _ _ (by rw [hnl, hfl]; exact hle1) hfe]
        exact h5.splice hr _)
  rw [hst] at W
  exact ⟨bi, vs, ty, fr, own.v, h1, h3, hh, fun j hj => own.free j hj, hle2, W⟩

theorem appRows_zero {h : HR} {x : AV} {xv : Value} {xs : List (List SV)} (e : appRows h x = some xs) (r : RepA M V x xv) :
    ∃ m, (Builtin.lenOf xv).run P w = .ok m w ∧ ∀ n, (Builtin.firstCells n 0 xv).run P w = .ok #[] w := by
  have sl : ∀ ad len cap, xv = .slice ad len cap → ∃ m, (Builtin.lenOf xv).run P w = .ok m w ∧ ∀ n, (Builtin.firstCells n 0 xv).run P w = .ok #[] w := by
    rintro ad len cap rfl
    refine ⟨len, rfl, fun n => ?_⟩
    cases ad with
    | none => simp [Builtin.firstCells]
    | some ad => simp [Builtin.firstCells, loadCells, loadCellsFrom]
  unfold appRows at e
  split at e
  · cases r with
    | s _ _ r => cases r; exact ⟨_, rfl, fun n => by simp [Builtin.firstCells]⟩
  · unfold rowsOf at e
    split at e
    · cases r; exact sl _ _ _ rfl
    · cases r; exact sl _ _ _ rfl
    · cases r with | s _ _ r => cases r <;> exact sl _ _ _ rfl
    · cases r; exact sl _ _ _ rfl
    · cases e

theorem copy_sound (R : Mrel G M V H w) {h : HR} (hs : HSub h H) {t : TypeId} {ts : List TypeId} {ty : TypeId} {d x : AV} {dv xv : Value} (e : copyA P h t d x = some (v, ups)) (rd : RepA M V d dv) (rx : RepA M V x xv) :
    ∃ z w', (Builtin.copy_ (t :: ts).toArray ty #[dv, xv]).run P w = .ok z w' ∧ OpPost G M V H w s v ups z w' := by
  unfold copyA at e
  split at e
  · rename_i el hel
    have hu := elem_under hel
    split at e
    · rename_i n xs hn hxs
      split at e
      · simp only [Option.some.injEq, Prod.mk.injEq] at e
        obtain ⟨rfl, rfl⟩ := e
        cases rd
        obtain ⟨m, hm, hz⟩ := appRows_zero (P := P) (w := w) hxs rx
        refine ⟨goInt 0, w, ?_, OpPost.same R (.s _ _ (.int _ _))⟩
        simp [Builtin.copy_, run_under hu, hm, run_size hn, hz]
      · rename_i k st row len cap
        split at e
        · rename_i s' n' rows fz hk
          split at e
          · rename_i hc
            obtain ⟨rfl, rfl, hle, hfz, hall⟩ := hc
            simp only [Option.some.injEq, Prod.mk.injEq] at e
            obtain ⟨rfl, rfl⟩ := e
            have huni : ∀ r ∈ xs, r.length = n' := by
              rw [List.all_eq_true] at hall
              intro r hr; simpa using hall r hr
            obtain ⟨news, hx⟩ := appRows_shows (n := n') R hs hxs (fun _ => huni) rx
            have hlx : (Builtin.lenOf xv).run P w = .ok xs.length w := by
              rcases hx.len with ⟨ad, c, rfl⟩ | ⟨bb, rfl, h2⟩
              · rfl
              · simp [Builtin.lenOf, h2]
            have hrun := hx.run P (min xs.length len) (Nat.min_le_left _ _)
            have hrep : RepSL M (xs.take (min xs.length len)).flatten (news.take (min xs.length len * n')) := by
              rw [flatten_take _ _ huni]; exact hx.rep.take _
            have hlen : (xs.take (min xs.length len)).length ≤ len := by simp; omega
            obtain ⟨bi, vs, ty', fr, hv, hw, hbn, hh, hf, hfit, R', X⟩ := write_rows R hs hk hfz (xs := xs.take (min xs.length len)) (by omega) (fun r hr => huni r (List.mem_of_mem_take hr)) hrep (fun c hc => hx.cell c (List.mem_of_mem_take hc))
            cases rd with
            | lsl _ _ _ _ _ bi' c v1 q1 q2 q3 q4 =>
              rw [hv, Option.some.injEq] at v1; subst v1
              refine ⟨_, _, ?_, M, V, R', X, .s _ _ (.int _ _), fun _ h => absurd rfl h⟩
              have hst := run_storeAt (P := P) (b := bi.b) (row * n') (news.take (min xs.length len * n')) 0 vs w hh (by omega) (fun c hc => hx.cell c (List.mem_of_mem_take hc)) hf
              simp only [Nat.add_zero] at hst
              have hmin : Nat.min xs.length len = min xs.length len := rfl
              simp [Builtin.copy_, run_under hu, hlx, run_size hn, hmin, hrun, hw, hst, goInt]
          · cases e
        · cases e
      · cases e
    · cases e
  · cases e

theorem zero_run {t : TypeId} {zero : List AV} {z : List SV} (hz : (tzero P t).bind cellsA = some zero) (hseal : sealAs room (fun _ => noSlot) zero = some (z, [])) (w : World) :
    ∃ x, (zeroValue t).run P w = .ok x w ∧ RepSL M z x.cells.toList ∧ (∀ c ∈ x.cells.toList, cellV c = true) ∧ x.cells.size = zero.length := by
  obtain ⟨x, h1, h2, h3⟩ := cellsOf_zero (M := M) (V := fun _ => none) hz w
  have R0 : Mrel (fun _ => False) (fun _ _ => none) (fun _ => none) (fun _ => noSlot) w :=
    ⟨fun _ _ _ h => (by cases h), fun _ => trivial, fun _ _ _ _ _ h => (by simp [noSlot, Blk.live] at h), fun _ h => h.elim, fun _ _ h => (by cases h)⟩
  obtain ⟨y, g1, g2, g3⟩ := cellsOf_zero (M := fun _ _ => none) (V := fun _ => none) hz w
  rw [h1, Result.ok.injEq] at g1
  obtain ⟨rfl, _⟩ := g1
  obtain ⟨p1, p2⟩ := (seal_spec R0 (fun _ => .inl rfl) room).2 _ _ _ _ hseal g2
  have := p2 (fun _ _ => none) (fun _ _ _ h => h) (by simp)
  exact ⟨x, h1, this.mono (fun _ _ _ h => by cases h), h3, by have := h2.1; simp at this; omega⟩

theorem replicate_flatten {α : Type} (n : Nat) (l : List α) : (List.replicate n l).flatten.length = n * l.length := by simp

theorem zeroRows {M : Mem} {zero : Array Value} {z : List SV} (h : RepSL M z zero.toList) (n : Nat) : RepSL M (List.replicate n z).flatten (Builtin.zeroCells zero n).toList := by
  have hz : z.length = zero.size := by have := h.1; simpa using this
  refine ⟨by rw [replicate_flatten, zeroCells_length, hz], fun i h1 h2 => ?_⟩
  rw [replicate_flatten, hz] at h1
  have hpos : 0 < zero.size := by
    rcases Nat.eq_zero_or_pos zero.size with h | h
    · rw [h] at h1; omega
    · exact h
  have hlt : i % zero.size < zero.size := Nat.mod_lt _ hpos
  have e1 : (Builtin.zeroCells zero n).toList[i] = zero.toList[i % zero.size]'(by simpa using hlt) := by
    simp only [Builtin.zeroCells, Array.toList_map, Array.toList_range, List.getElem_map, List.getElem_range]
    rw [getElem!_pos zero _ hlt]
    simp
  have e2 : ∀ (n i : Nat) (hi : i < (List.replicate n z).flatten.length), (List.replicate n z).flatten[i] = z[i % zero.size]'(by rw [hz]; exact Nat.mod_lt _ hpos) := by
    intro n
    induction n with
    | zero => intro i hi; simp at hi
    | succ n ih =>
      intro i hi
      simp only [List.replicate_succ, List.flatten_cons, List.getElem_append]
      split
      · rename_i hlt2
        congr 1
        rw [Nat.mod_eq_of_lt (by omega)]
      · rename_i hge
        rw [ih (i - z.length)]
        congr 1
        rw [hz]
        rw [hz] at hge
        exact (Nat.mod_eq_sub_mod (by omega)).symm
  rw [e1, e2]
  exact h.2 _ _ _

theorem clear_sound (R : Mrel G M V H w) {h : HR} (hs : HSub h H) {t : TypeId} {ts : List TypeId} {ty : TypeId} {d : AV} {dv : Value} (e : clearA P h t d = some (v, ups)) (rd : RepA M V d dv) :
    ∃ z w', (Builtin.clear_ (t :: ts).toArray ty #[dv]).run P w = .ok z w' ∧ OpPost G M V H w s v ups z w' := by
  unfold clearA at e
  split at e
  · rename_i el hel
    have hu := elem_under hel
    split at e
    · rename_i n zero hn hzero
      split at e
      · simp only [Option.some.injEq, Prod.mk.injEq] at e
        obtain ⟨rfl, rfl⟩ := e
        cases rd
        exact ⟨_, w, by simp [Builtin.clear_, run_under hu]; rfl, OpPost.same R rep_und⟩
      · rename_i k st row len cap
        split at e
        · rename_i h0
          subst h0
          simp only [Option.some.injEq, Prod.mk.injEq] at e
          obtain ⟨rfl, rfl⟩ := e
          cases rd
          exact ⟨_, w, by simp [Builtin.clear_, run_under hu]; rfl, OpPost.same R rep_und⟩
        · rename_i h0
          split at e
          · rename_i s' n' rows fz z hk hz
            split at e
            · rename_i hc
              obtain ⟨rfl, rfl, hle, hfz, hzl⟩ := hc
              simp only [Option.some.injEq, Prod.mk.injEq] at e
              obtain ⟨rfl, rfl⟩ := e
              obtain ⟨zv, hzr, hzq, hzc, hzs⟩ := zero_run (M := M) hzero hz w
              have hzll : z.length = n' := by have := hzq.1; simp at this; omega
              have q := zeroRows hzq len
              obtain ⟨bi, vs, ty', fr, hv, hw, hbn, hh, hf, hfit, R', X⟩ := write_rows R hs hk hfz (xs := List.replicate len z) (by simpa using hle) (fun r hr => by rw [List.eq_of_mem_replicate hr]; exact hzll) q (zeroCells_cell hzc)
              cases rd with
              | lsl _ _ _ _ _ bi' c v1 q1 q2 q3 q4 =>
                rw [hv, Option.some.injEq] at v1; subst v1
                refine ⟨_, _, ?_, M, V, R', X, rep_und, fun _ h => absurd rfl h⟩
                have hst := run_storeAt (P := P) (b := bi.b) (row * n') (Builtin.zeroCells zv.cells len).toList 0 vs w hh (by omega) (zeroCells_cell hzc) hf
                simp only [Nat.add_zero] at hst
                cases len with
                | zero => exact absurd rfl h0
                | succ len =>
                  simp [Builtin.clear_, run_under hu, hzr, hw, hst]
                  rfl
            · cases e
          · cases e
      · simp only [Option.some.injEq, Prod.mk.injEq] at e
        obtain ⟨rfl, rfl⟩ := e
        cases rd with
        | s _ _ r => cases r with
          | ssl0 ad c =>
            refine ⟨_, w, ?_, OpPost.same R rep_und⟩
            cases ad <;> (simp [Builtin.clear_, run_under hu]; rfl)
          | ssl _ _ _ _ _ _ h0 => exact absurd rfl h0
      · simp only [Option.some.injEq, Prod.mk.injEq] at e
        obtain ⟨rfl, rfl⟩ := e
        cases rd with
        | xsl _ ad m r => cases r with
          | ssl0 ad c =>
            refine ⟨_, w, ?_, OpPost.same R rep_und⟩
            cases ad <;> (simp [Builtin.clear_, run_under hu]; rfl)
          | ssl _ _ _ _ _ _ h0 => exact absurd rfl h0
      · cases e
    · cases e
  · cases e

end
end Go.Proofs.Ytbfdokfelolmbaa.Vai
end

section
namespace Go.Proofs.Ytbfdokfelolmbaa.Vai

section
variable {P : Program} {G : Nat → Prop} {M : Mem} {V : Val} {H : HR} {w : World} {a : Act} {s : Nat} {o : Oper} {v : AV} {ups : List Up}

/-! Making slices; strings and bytes. -/

/-- A block of rows is made. -/
theorem make_rows (R : Mrel G M V H w) {k n m len : Nat} {rows : List (List SV)} {cs : List Value} {ty : TypeId} {fr : Nat × Nat} {cap : Option Nat} (hst : V s = none) (hc : ∀ v ∈ cs, cellV v = true)
    (hf : ∀ o, o < cs.length → (decide (fr.1 ≤ o) && decide (o < fr.2)) = false) (hl : cs.length = m * n) (hr : rows.length ≤ m) (hu : ∀ r ∈ rows, r.length = n) (hrep : RepSL M rows.flatten (cs.take rows.flatten.length))
    (hlen : len ≤ m) (hcap : ∀ c, cap = some c → m = c) :
    OpPost G M V H w s (.lsl k s 0 len cap) [(k, (s, .arr n rows 0))] (.slice (some ⟨w.heap.size, 0, none⟩) len m) (wnew w (.cells ⟨cs⟩ ty fr)) := by
  have W := R.make (k := k) (s := s) (n := m) (wd := n) (cs := cs) (ty := ty) (fr := fr) (blk := .arr n rows 0) hst hc hf (by
    intro w' _ own hm
    exact ⟨_, _, own, rfl, hl, hr, hu, hrep, fun o _ => hm o⟩)
  obtain ⟨R', X⟩ := W
  refine ⟨M, _, R', X, ?_, vset_new⟩
  have := RepA.lsl (M := M) k s 0 len cap _ m (vset_same V s ⟨w.heap.size, m, n⟩) hcap (by simp) hlen (by simp)
  simp only [Nat.zero_mul] at this
  exact this

theorem makeSlice_sound (R : Mrel G M V H w) {k : Nat} {t : TypeId} {l c : AV} {lv cv : Value} (e : makeSliceA P k s t l c = some (v, ups)) (rl : RepA M V l lv) (rc : RepA M V c cv) (hst : V s = none) :
    ∃ z w', (Instr.makeSlice t lv cv).run P w = .ok z w' ∧ OpPost G M V H w s v ups z w' := by
  unfold makeSliceA at e
  split at e
  · rename_i el ln cn hel hl hc
    have hu := elem_under hel
    obtain ⟨k1, rfl⟩ := nat_rep hl rl
    obtain ⟨k2, rfl⟩ := nat_rep hc rc
    split at e
    · rename_i wd bts zero hn hb hzero
      split at e
      · rename_i hcond
        obtain ⟨h1, h2, h3, h4⟩ := hcond
        split at e
        · rename_i z hz
          simp only [Option.some.injEq, Prod.mk.injEq] at e
          obtain ⟨rfl, rfl⟩ := e
          obtain ⟨zv, hzr, hzq, hzc, hzs⟩ := zero_run (M := M) hzero hz w
          obtain ⟨i, hi, hib⟩ := run_info hb
          have hzl : z.length = wd + 1 := by have := hzq.1; simp at this; omega
          have q := zeroRows hzq cn
          have hw64 : ∀ n : Nat, n ≤ 140737488355328 → IntKind.i64.wrap (n : Int) = n := by
            intro n hn
            simp [IntKind.wrap, IntKind.bits, IntKind.signed]
            omega
          have post := make_rows R (k := k) (s := s) (n := wd + 1) (m := cn) (len := ln) (rows := List.replicate cn z) (cs := (Builtin.zeroCells zv.cells cn).toList) (ty := el) (fr := (0, 0)) (cap := some cn) hst (zeroCells_cell hzc) (fun o _ => by simp)
            (by rw [zeroCells_length, hzs, h4]) (by simp) (fun r hr => by rw [List.eq_of_mem_replicate hr]; exact hzl) (by rw [q.1, List.take_length]; exact q) h1 (by simp)
          refine ⟨_, _, ?_, post⟩
          have hln : ln ≤ 140737488355328 := by omega
          have hbig : ¬ ((bts : Int) * (cn : Int) > 2 ^ 48) := by
            have : ((bts : Int) * (cn : Int)) = ((cn * bts : Nat) : Int) := by push_cast; rw [Int.mul_comm]
            rw [this]; omega
          have hask : ∀ m w, (askRoom m).run P w = .ok () w := fun m w => run_askRoom P w m
          have hcond : ¬ ((decide ((cn : Int) < 0) || decide ((bts : Int) * (cn : Int) > 2 ^ 48) || decide ((ln : Int) < 0) || decide ((ln : Int) > cn)) = true) := by
            simp only [Bool.or_eq_true, decide_eq_true_eq]
            omega
          have hrun : ∀ zz : Array Value, (if cn * (wd + 1) = 0 then (pure #[] : Sem (Array Value)) else do pure (← zeroValue el).cells).run P w = .ok zz w →
              (Array.range (cn * (wd + 1))).map (zz[· % zz.size]!) = ⟨(Builtin.zeroCells zv.cells cn).toList⟩ →
              (Instr.makeSlice t (.int k1 ln) (.int k2 cn)).run P w = .ok (.slice (some ⟨w.heap.size, 0, none⟩) ln cn) (wnew w (.cells ⟨(Builtin.zeroCells zv.cells cn).toList⟩ el (0, 0))) := by
            intro zz hz1 hz2
            simp only [Instr.makeSlice, Sem.run_bind, run_under hu, Result.andThen_ok, asInt, asIntOf, Sem.run_pure, hi, hib, hw64 _ h3, hw64 _ hln]
            rw [if_neg hcond]
            simp only [Sem.run_bind, hask, Result.andThen_ok, run_size hn, Int.toNat_natCast]
            by_cases h0 : cn * (wd + 1) = 0
            · rw [if_pos h0] at hz1 ⊢
              simp only [Sem.run_pure, Result.ok.injEq, and_true] at hz1
              subst hz1
              simp only [Sem.run_bind, Sem.run_pure, Result.andThen_ok, newRow, run_newObj, hz2]
              rfl
            · rw [if_neg h0] at hz1 ⊢
              simp only [Sem.run_bind, hzr, Result.andThen_ok, Sem.run_pure, Result.ok.injEq, and_true] at hz1
              subst hz1
              simp only [Sem.run_bind, Sem.run_pure, Result.andThen_ok, newRow, run_newObj, hz2, hzr]
              rfl
          by_cases hc0 : cn = 0
          · subst hc0
            refine hrun #[] (by simp) ?_
            simp [Builtin.zeroCells]
          · have hne : ¬ cn * (wd + 1) = 0 := by
              intro hh
              rcases Nat.mul_eq_zero.1 hh with h | h
              · exact hc0 h
              · omega
            refine hrun zv.cells (by rw [if_neg hne]; simp [hzr]) ?_
            simp only [Builtin.zeroCells, hzs, h4]
        · cases e
      · cases e
    · cases e
  · cases e

theorem freeze_wnew (w : World) (c : Array Value) (e : TypeId) :
    (wnew w (.cells c e (0, 0))).freeze { block := w.heap.size, off := c.size } 1 = wnew w (.cells c e (c.size, c.size + 1)) := by
  simp only [World.freeze, wnew, Nat.one_ne_zero, if_false]
  congr 1
  apply Array.ext_getElem?
  intro i
  simp only [Array.getElem?_modify, Array.getElem?_push]
  by_cases hi : w.heap.size = i
  · subst hi; simp
  · simp [hi, Ne.symm hi]

theorem bytes_rep {M : Mem} : ∀ {rows : List (List SV)} {l : List UInt8} {cs : List Value}, convertA.bytesOf rows = some l → RepSL M rows.flatten cs →
    ∃ ns : List Int, cs = ns.map (Value.int .u8) ∧ l = ns.map (fun n => UInt8.ofNat n.toNat)
  | [], l, cs, h, r => by
    simp only [convertA.bytesOf, Option.some.injEq] at h; subst h
    have := r.nil_inv; subst this
    exact ⟨[], rfl, rfl⟩
  | row :: rows, l, cs, h, r => by
    unfold convertA.bytesOf at h
    split at h
    · rename_i h0; cases h0
    · rename_i n rs h0
      cases h0
      cases hb : convertA.bytesOf rows with
      | none => rw [hb] at h; cases h
      | some l' =>
        rw [hb] at h
        simp only [Option.map_some, Option.some.injEq] at h; subst h
        simp only [List.flatten_cons, List.cons_append, List.nil_append] at r
        obtain ⟨x, xs, rfl, r1, r2⟩ := r.inv
        cases r1
        obtain ⟨ns, rfl, rfl⟩ := bytes_rep hb r2
        exact ⟨n :: ns, rfl, rfl⟩
    · cases h

theorem foldl_bytes : ∀ (ns : List Int) (s : ByteArray), ns.foldl (fun r n => r.push (UInt8.ofNat n.toNat)) s = ⟨s.data ++ (ns.map fun n => UInt8.ofNat n.toNat).toArray⟩
  | [], s => by cases s; simp
  | n :: ns, s => by
    rw [List.foldl_cons, foldl_bytes ns]
    cases s
    simp [ByteArray.push]

theorem bytes_uni : ∀ {rows : List (List SV)} {l : List UInt8}, convertA.bytesOf rows = some l → ∀ r ∈ rows, r.length = 1
  | [], _, _ => by simp
  | row :: rows, l, h => by
    unfold convertA.bytesOf at h
    split at h
    · rename_i h0; cases h0
    · rename_i n rs h0
      cases h0
      cases hb : convertA.bytesOf rows with
      | none => rw [hb] at h; cases h
      | some l' =>
        intro r hr
        cases List.mem_cons.1 hr with
        | inl e => subst e; rfl
        | inr e => exact bytes_uni hb r e
    · cases h

theorem convert_sound (R : Mrel G M V H w) {h : HR} (hs : HSub h H) {k : Nat} {src dst : TypeId} {x : AV} {xv : Value} (e : convertA P h k s src dst x = some (v, ups)) (rx : RepA M V x xv) (hst : V s = none) :
    ∃ z w', (convert src dst xv).run P w = .ok z w' ∧ OpPost G M V H w s v ups z w' := by
  unfold convertA at e
  split at e
  · rename_i el l hsrc hdst
    split at e
    · rename_i hel
      split at e
      · rename_i hl
        simp only [Option.some.injEq, Prod.mk.injEq] at e
        obtain ⟨rfl, rfl⟩ := e
        cases rx with
        | s _ _ r =>
          cases r
          have hfl : (strRows l).flatten = l.map fun b => SV.int .u8 b.toNat := by
            unfold strRows byteRow
            clear hl
            induction l with
            | nil => rfl
            | cons b l ih => rw [List.map_cons, List.flatten_cons, ih]; rfl
          let m := l.length + w.tape w.drawn (.appendCap l.length 0 el) % (2 ^ 63 - l.length)
          let cs : List Value := (l.map fun b => Value.int .u8 b.toNat) ++ List.replicate (m - l.length) (.int .u8 0)
          have hm : l.length ≤ m := by simp only [m]; omega
          have hcl : cs.length = m := by simp only [cs]; simp; omega
          have hcc : ∀ v ∈ cs, cellV v = true := by
            intro v hv
            simp only [cs, List.mem_append, List.mem_map, List.mem_replicate] at hv
            rcases hv with ⟨b, _, rfl⟩ | ⟨_, rfl⟩ <;> rfl
          have post := make_rows (R.drew (w.drawn + 1)) (k := k) (s := s) (n := 1) (m := m) (len := l.length) (rows := strRows l) (cs := cs) (ty := el) (fr := (m, m + 1)) (cap := none) hst hcc (fun o ho => by simp; omega) (by rw [hcl]; omega)
            (by simpa [strRows] using hm) (by intro r hr; simp only [strRows, List.mem_map] at hr; obtain ⟨b, _, rfl⟩ := hr; rfl)
            (by rw [hfl]
                have : cs.take (l.map fun b => SV.int .u8 b.toNat).length = l.map fun b => Value.int .u8 b.toNat := by
                  simp only [cs]; rw [List.take_left' (by simp)]
                rw [this]
                exact ⟨by simp, fun i h1 h2 => by simp only [List.getElem_map]; exact .int _ _⟩) hm (by simp)
          obtain ⟨M', V', R', X', r', n'⟩ := post
          refine ⟨_, wnew (wdraw w) (.cells ⟨cs⟩ el (m, m + 1)), ?_, M', V', R', (Ext.drew (w := w) _).trans X', r', n'⟩
          have hch : (choose (.appendCap l.length 0 el)).run P w = .ok m (wdraw w) := by
            rw [run_choose]
            simp [Question.forced, Question.cut, wdraw, m]
          have hsz : (⟨⟨l⟩⟩ : ByteArray).size = l.length := rfl
          have harr : (⟨⟨l⟩⟩ : ByteArray).data.map (fun b => Value.int .u8 b.toNat) ++ Array.replicate (m - l.length) (.int .u8 0) = ⟨cs⟩ := by
            apply Array.ext'
            simp [cs]
          have hsh : (wnew (wdraw w) (.cells ⟨cs⟩ el (0, 0))).shape? w.heap.size = some (el, m) := by
            have := wnew_new (wdraw w) (.cells ⟨cs⟩ el (0, 0))
            unfold World.shape?
            rw [show (wdraw w).heap.size = w.heap.size from rfl] at this
            rw [this]; simp [hcl]
          have hfz := freeze_wnew (wdraw w) ⟨cs⟩ el
          have hcs : (⟨cs⟩ : Array Value).size = m := hcl
          rw [hcs] at hfz
          simp only [convert, Sem.run_bind, run_under hsrc, run_under hdst, run_under hel, Result.andThen_ok, Conv.stringToBytes, hsz, hch, harr, newRow, run_newObj, markStringish, run_shape, Sem.run_pure]
          have e1 : ({ heap := (wdraw w).heap.push (Obj.cells ⟨cs⟩ el), tape := (wdraw w).tape, drawn := (wdraw w).drawn, os := (wdraw w).os, output := (wdraw w).output } : World) = wnew (wdraw w) (.cells ⟨cs⟩ el (0, 0)) := rfl
          rw [e1]
          rw [show (wdraw w).heap.size = w.heap.size from rfl] at hfz ⊢
          rw [hsh]
          simp only [run_freeze, Result.andThen_ok, hfz]
      · cases e
    · cases e
  · rename_i _ el hsrc hdst
    split at e
    · rename_i rows hel hr
      cases hb : convertA.bytesOf rows with
      | none => rw [hb] at e; cases e
      | some l =>
        rw [hb] at e
        simp only [Option.map_some, Option.some.injEq, Prod.mk.injEq] at e
        obtain ⟨rfl, rfl⟩ := e
        obtain ⟨⟨cs, hsh⟩, ad, cap, rfl⟩ := rowsOf_shows (n := 1) R hs hr (fun _ => bytes_uni hb) rx
        obtain ⟨ns, hns, hl⟩ := bytes_rep hb hsh.rep
        refine ⟨.string ⟨⟨l⟩⟩, w, ?_, OpPost.same R (.s _ _ (.str _))⟩
        rw [run_convert_bytes_string w src dst el ad rows.length cap hsrc hel hdst]
        cases ad with
        | none =>
          have : rows = [] := by
            generalize hq : Value.slice none rows.length cap = q at rx
            cases rx with
            | nsl => simp [rowsOf] at hr; exact hr
            | xsl _ a m r =>
              generalize hq2 : Value.slice a m m = q2 at r hq
              cases r with
              | ssl0 => simp [rowsOf] at hr; exact hr
              | ssl => cases hq
            | s _ _ r =>
              cases r with
              | ssl0 => simp [rowsOf] at hr; exact hr
              | ssl => cases hq
              | _ => simp [rowsOf] at hr
            | lsl => cases hq
            | _ => simp [rowsOf] at hr
          subst this
          simp [convertA.bytesOf] at hb
          subst hb
          simp [Conv.bytesToString]
          rfl
        | some ad =>
          have hrun := hsh.run P rows.length (Nat.le_refl _)
          rw [← hsh.length, List.take_length] at hrun
          simp only [Builtin.firstCells, Nat.mul_one] at hrun
          have hrun' : (loadCells ad rows.length).run P w = .ok (ns.map (Value.int .u8)).toArray w := by rw [hrun, hns]
          rw [run_bytesToString w ad rows.length cap ns hrun', foldl_bytes]
          congr 2
          rw [hl]
          simp
    · cases e
  · cases e

end
end Go.Proofs.Ytbfdokfelolmbaa.Vai
end
