import Derived.Test.YtbfdokfelolmbaaVaD
import Derived.Deep.LoopGhost
import Derived.Scope
/-
  The interpreter's regions, code and calls are sound.
-/
set_option linter.all false
section
namespace Go.Proofs.Ytbfdokfelolmbaa.Vai

section
variable {E : Env} {G : Nat → Prop} {M : Mem} {V : Val} {H : HR} {w : World} {a : Act} {s : Nat} {o : Oper} {v : AV} {ups : List Up}

/-! Regions. -/

structure Rel (E : Env) (G : Nat → Prop) (M : Mem) (V : Val) (nt : Nat) (F : Nat → AV) (H : HR) (a : Act) (w : World) : Prop where
  mr : Mrel G M V H w
  gl : GlobOk E.glob M
  size : a.tmps.size = nt
  frame : ∀ i, F i = .dead ∨ ∃ x, a.tmps[i]? = some x ∧ RepA M V (F i) x
  defers : a.defers = []

theorem ev_rep {nt : Nat} {F : Nat → AV} (R : Rel E G M V nt F H a w) (x : Operand) : RepA M V (evA E.glob F x) (a.eval x) := by
  cases x with
  | tmp t =>
    simp only [evA]
    rcases R.frame t with h | ⟨x, h1, h2⟩
    · rw [h]; exact .dead _
    · have : a.eval (.tmp t) = x := by simp [Act.eval, h1]
      rw [this]; exact h2
  | const c =>
    simp only [evA]
    cases h : ofV c with
    | none => exact .dead _
    | some y => exact ofV_rep h
  | global g =>
    simp only [evA]
    split
    · rename_i l h; exact .s _ _ (R.gl g l h)
    · exact .dead _
  | func f => exact .s _ _ (.flat _)

theorem guard_sound {nt : Nat} {F : Nat → AV} (R : Rel E G M V nt F H a w) {ops : Array Oper} {b : Bool} (e : guardA ops F o = some b) : Region.wanted o (yielded ops a.tmps) = b := by
  unfold guardA at e
  unfold Region.wanted
  split at e
  · rename_i hg; simp only [Option.some.injEq] at e; subst e; rw [hg]
  · rename_i j want hg
    rw [hg]
    simp only
    unfold yielded
    split at e
    · rename_i hd; simp only [Option.some.injEq] at e; subst e; rw [hd]; rfl
    · rename_i d hd
      rw [hd]
      simp only [Option.bind_some]
      split at e
      · rename_i b' hF
        simp only [Option.some.injEq] at e; subst e
        rcases R.frame d with h | ⟨x, h1, h2⟩
        · rw [h] at hF; cases hF
        · rw [hF] at h2
          rw [h1]
          cases h2 with
          | s _ _ r => cases r; cases b' <;> cases want <;> rfl
      · rename_i l hF
        simp only [Option.some.injEq] at e; subst e
        rcases R.frame d with h | ⟨x, h1, h2⟩
        · rw [h] at hF; cases hF
        · rw [hF] at h2
          rw [h1]
          cases h2 with
          | s _ _ r => cases r; rfl
      · cases e

/-- One operation of a region. -/
theorem opA_sound (hE : SoundCall E.P E.glob E.call) {nt : Nat} {F : Nat → AV} (R : Rel E G M V nt F H a w) {h : HR} (hs : HSub h H) {ops : Array Oper} {i : Nat} (hi : ops[i]? = some o) (e : opA E ops F h s o = some (v, ups))
    (hfresh : ∀ j, j < room → V (s + j) = none) (next : Act → World → Prop) (Q : Exit → Act → World → Prop) (hn : ∀ x w', OpPost G M V H w s v ups x w' → next (a.put o.dst x) w') : wpOp E.P ops Q i next a w := by
  unfold wpOp
  rw [hi]
  simp only
  unfold opA at e
  split at e
  · rename_i hg
    rw [guard_sound R hg]
    simp only [if_true]
    exact .inl (absOp_sound hE R.gl R.mr hs e (fun x _ => ev_rep R x) hfresh next Q hn)
  · rename_i hg
    rw [guard_sound R hg]
    simp only [Option.some.injEq, Prod.mk.injEq] at e
    obtain ⟨rfl, rfl⟩ := e
    simp only [Bool.false_eq_true, if_false]
    exact hn undef w (OpPost.same R.mr rep_und)
  · cases e

def putF (F : Nat → AV) (d : Option Tmp) (v : AV) : Nat → AV := match d with | some t => fun i => if t = i then v else F i | none => F
def dstOk (nt : Nat) : Option Tmp → Bool
  | some t => t < nt
  | none => true

theorem Rel.put {nt : Nat} {F : Nat → AV} (R : Rel E G M V nt F H a w) {d : Option Tmp} {x : Value} {w' : World} (hd : dstOk nt d = true) {M' : Mem} {V' : Val} {H' : HR} (R' : Mrel G M' V' H' w') (X : Ext G M V w M' V' w') (r : RepA M' V' v x) :
    Rel E G M' V' nt (putF F d v) H' (a.put d x) w' := by
  refine ⟨R', R.gl.mono X.m, ?_, ?_, ?_⟩
  · cases d <;> simp [Act.put, R.size]
  · intro i
    have old : F i = .dead ∨ ∃ x, a.tmps[i]? = some x ∧ RepA M' V' (F i) x := by
      rcases R.frame i with h | ⟨x, h1, h2⟩
      · exact .inl h
      · exact .inr ⟨x, h1, h2.mono X.m X.v⟩
    cases d with
    | none => exact old
    | some t =>
      simp only [dstOk, decide_eq_true_eq] at hd
      simp only [putF, Act.put]
      by_cases e : t = i
      · subst e
        rw [if_pos rfl]
        exact .inr ⟨x, by simp [R.size, hd], r⟩
      · rw [if_neg e]
        rw [Array.getElem?_setIfInBounds_ne e]
        exact old
  · cases d <;> simp [Act.put, R.defers]

/-- No stamp from a place on has been given. -/
def Fresh (V : Val) (nx : Nat) : Prop := ∀ j, nx ≤ j → V j = none

theorem putA_spec {nt : Nat} {fr fr' : Fr} {d : Option Tmp} (e : putA nt fr d v = some fr') : dstOk nt d = true ∧ fr'.get = putF fr.get d v := by
  unfold putA at e
  cases d with
  | none => simp only [Option.some.injEq] at e; subst e; exact ⟨rfl, rfl⟩
  | some t =>
    simp only at e
    cases hc : Nat.ble (t + 1) nt with
    | false => rw [hc] at e; cases e
    | true =>
      rw [hc] at e
      simp only [cond_true, Option.some.injEq] at e; subst e
      refine ⟨decide_eq_true (Nat.le_of_ble_eq_true hc), ?_⟩
      funext i
      simp only [putF]
      rw [Fr.get_put]

/-- The text's order. -/
theorem opsA_sound (hE : SoundCall E.P E.glob E.call) {nt : Nat} {ops : Array Oper} {Q : Exit → Act → World → Prop} (st0 : St) : ∀ (n k : Nat) (st st' : St) (M : Mem) (V : Val) (a : Act) (w : World), opsA E nt ops (List.range' k n) st = some st' → st.nx = st0.nx →
    Rel E G M V nt st.F st.h a w → (∀ j, V j ≠ none → j < st.nx + room * k) →
    (∀ M' V' a' w', Rel E G M' V' nt st'.F st'.h a' w' → st'.nx = st0.nx → (∀ j, V' j ≠ none → j < st0.nx + room * (k + n)) → Ext G M V w M' V' w' → Q .normal a' w') →
    wpOps E.P ops Q (List.range' k n) a w := by
  intro n
  induction n with
  | zero =>
    intro k st st' M V a w e hnx R hf hq
    simp only [List.range', opsA, Option.some.injEq] at e
    subst e
    exact hq M V a w R hnx (by rw [← hnx]; exact hf) .refl
  | succ n ih =>
    intro k st st' M V a w e hnx R hf hq
    simp only [List.range'_succ, opsA] at e ⊢
    split at e
    · rename_i st1 hst
      unfold stepA at hst
      rw [wpOps_cons]
      cases hi : ops[k]? with
      | none =>
        rw [hi] at hst
        simp only [Option.some.injEq] at hst; subst hst
        unfold wpOp
        rw [hi]
        exact ih (k + 1) _ _ M V a w e hnx R (fun j hj => by have := hf j hj; rw [Nat.mul_succ]; omega) (fun M' V' a' w' R' h1 h2 X => hq M' V' a' w' R' h1 (by rw [show k + (n + 1) = k + 1 + n by omega]; exact h2) X)
      | some o =>
        rw [hi] at hst
        simp only at hst
        split at hst
        · rename_i v ups ho
          cases hp : putA nt st.fr o.dst v with
          | none => rw [hp] at hst; cases hst
          | some fr' =>
            rw [hp] at hst
            simp only [Option.map_some, Option.some.injEq] at hst; subst hst
            obtain ⟨hd, hF⟩ := putA_spec hp
            have hfr : ∀ j, j < room → V (st.nx + room * k + j) = none := by
              intro j _
              cases hv : V (st.nx + room * k + j) with
              | none => rfl
              | some b => have := hf (st.nx + room * k + j) (by rw [hv]; simp); omega
            refine opA_sound hE R (fun _ => .inl rfl) hi ho hfr _ Q (fun x w' hpost => ?_)
            obtain ⟨M1, V1, R1, X1, r1, n1⟩ := hpost
            have R2 := R.put (d := o.dst) hd R1 X1 r1
            refine ih (k + 1) _ _ M1 V1 (a.put o.dst x) w' e hnx ?_ ?_ (fun M' V' a' w'' R' h1 h2 X => hq M' V' a' w'' R' h1 (by rw [show k + (n + 1) = k + 1 + n by omega]; exact h2) (X1.trans X))
            · have e1 : St.F { st with fr := fr', hp := upHp st.hp ups } = putF st.F o.dst v := hF
              have e2 : St.h { st with fr := fr', hp := upHp st.hp ups } = upH st.h ups := hget_upHp _ _
              rw [e1, e2]; exact R2
            · intro j hj
              show j < st.nx + room * (k + 1)
              rw [Nat.mul_succ]
              by_cases hv : V1 j = V j
              · have := hf j (by rw [← hv]; exact hj); omega
              · have := n1 j hv; omega
        · cases hst
    · cases e

end
end Go.Proofs.Ytbfdokfelolmbaa.Vai
end

section
namespace Go.Proofs.Ytbfdokfelolmbaa.Vai

/-! Regions whose order is drawn. -/

/-- What the last of the writers in S says of a place. -/
def last {α : Type} (W : Nat → Nat → Option α) (f : Nat → α) (S : Nat → Bool) : Nat → Nat → α
  | 0, t => f t
  | n + 1, t => if S n then (W n t).getD (last W f S n t) else last W f S n t

theorem last_agree {α : Type} {W : Nat → Nat → Option α} {f : Nat → α} {S S' : Nat → Bool} {t : Nat} : ∀ {n : Nat}, (∀ j, j < n → (W j t).isSome = true → S j = S' j) → last W f S n t = last W f S' n t
  | 0, _ => rfl
  | n + 1, h => by
    have ih := last_agree (f := f) (n := n) (fun j hj => h j (by omega))
    simp only [last]
    cases hW : W n t with
    | none => simp [ih]
    | some v => rw [h n (by omega) (by rw [hW]; rfl), ih]

theorem last_insert {α : Type} {W : Nat → Nat → Option α} {f : Nat → α} {S : Nat → Bool} {t i : Nat} (hS : S i = false) : ∀ {n : Nat}, i < n → (∀ j, i < j → j < n → S j = true → (W i t).isSome = true → W j t = none) →
    last W f (fun j => S j || j == i) n t = (W i t).getD (last W f S n t)
  | 0, h, _ => by omega
  | n + 1, h, hw => by
    by_cases e : n = i
    · subst e
      have ih : last W f (fun j => S j || j == n) n t = last W f S n t := last_agree (fun j hj _ => by
        have : (j == n) = false := by simp; omega
        simp [this])
      simp only [last, hS, ih]
      simp
    · have ih := last_insert (f := f) hS (n := n) (by omega) (fun j h1 h2 => hw j h1 (by omega))
      have e2 : (n == i) = false := by simpa using e
      simp only [last, e2, Bool.or_false, ih]
      by_cases hn : S n = true
      · rw [if_pos hn, if_pos hn]
        cases hW : W i t with
        | none => rfl
        | some v => rw [hw n (by omega) (by omega) hn (by rw [hW]; rfl)]; rfl
      · rw [if_neg hn, if_neg hn]

theorem last_below {α : Type} {W : Nat → Nat → Option α} {f : Nat → α} {t i : Nat} : ∀ {n : Nat}, i ≤ n → last W f (fun j => decide (j < i)) n t = last W f (fun _ => true) i t
  | 0, h => by have : i = 0 := by omega
               subst this; rfl
  | n + 1, h => by
    by_cases e : i = n + 1
    · subst e
      exact last_agree (fun j hj _ => by simp [hj])
    · simp only [last]
      rw [if_neg (by simp; omega)]
      exact last_below (by omega)

/-- What updates say of a key. -/
def lastUp : List Up → Nat → Option Slot
  | [], _ => none
  | (k, s) :: r, j => match lastUp r j with
    | some t => some t
    | none => if k = j then some s else none

theorem upH_lastUp : ∀ (ups : List Up) (h : HR) (j : Nat), upH h ups j = (lastUp ups j).getD (h j)
  | [], _, _ => rfl
  | (k, s) :: r, h, j => by
    simp only [upH, lastUp]
    rw [upH_lastUp r]
    cases lastUp r j with
    | some t => rfl
    | none => by_cases e : k = j <;> simp [e]
theorem lastUp_some : ∀ {ups : List Up} {j : Nat}, (lastUp ups j).isSome = true → j ∈ ups.map (·.1)
  | [], _, h => by simp [lastUp] at h
  | (k, s) :: r, j, h => by
    simp only [lastUp] at h
    cases hr : lastUp r j with
    | some t => exact List.mem_cons_of_mem _ (lastUp_some (by rw [hr]; rfl))
    | none =>
      rw [hr] at h
      by_cases e : k = j
      · subst e; simp
      · simp [e] at h

def putW (d : Option Tmp) (v : AV) (t : Nat) : Option AV := match d with | some k => if k = t then some v else none | none => none
theorem putF_putW (F : Nat → AV) (d : Option Tmp) (v : AV) (t : Nat) : putF F d v t = (putW d v t).getD (F t) := by
  cases d with
  | none => rfl
  | some k => by_cases e : k = t <;> simp [putF, putW, e]

section
variable {E : Env} {G : Nat → Prop} {M : Mem} {V : Val} {H : HR} {w : World} {a : Act} {s : Nat} {o : Oper} {v : AV} {ups : List Up}

/-! An operation goes by its operands. -/
theorem flatA_congr {P : Program} {ρ ρ' : Operand → AV} (hsel : ∀ cs b, o.op ≠ .select cs b) (hs : ∀ x ∈ o.op.operands, ρ x = ρ' x) : flatA P ρ o = flatA P ρ' o := by
  unfold flatA
  have e1 : o.op.operands.toList.all (fun x => (toV (ρ x)).isSome) = o.op.operands.toList.all (fun x => (toV (ρ' x)).isSome) := by
    have : ∀ l : List Operand, (∀ x ∈ l, ρ x = ρ' x) → l.all (fun x => (toV (ρ x)).isSome) = l.all (fun x => (toV (ρ' x)).isSome) := by
      intro l
      induction l with
      | nil => intro _; rfl
      | cons x l ih => intro h; simp only [List.all_cons]; rw [h x (by simp), ih (fun y hy => h y (by simp [hy]))]
    exact this _ (fun x hx => hs x (by simpa using hx))
  have e2 : execOp (fun x => (toV (ρ x)).getD (.tuple #[])) o = execOp (fun x => (toV (ρ' x)).getD (.tuple #[])) o :=
    execOp_congr o hsel (fun x hx => by rw [hs x hx])
  rw [e1, e2]

theorem targetA_congr {P : Program} {ρ ρ' : Operand → AV} {c : Go.Call} (hs : ∀ x ∈ c.operands, ρ x = ρ' x) : targetA P ρ c = targetA P ρ' c := by
  have ha : c.args.toList.map ρ = c.args.toList.map ρ' := List.map_congr_left (fun x hx => hs x (by simp [Call.operands]; right; simpa using hx))
  unfold targetA
  cases hc : c.callee with
  | value f => have := hs f (by simp [Call.operands, hc]); simp only [this, ha]
  | invoke r m => have := hs r (by simp [Call.operands, hc]); simp only [this, ha]
  | builtin b => rfl

theorem slowOp_congr {ρ ρ' : Operand → AV} {h : HR} {k : Nat} (hs : ∀ x ∈ o.op.operands, ρ x = ρ' x) : slowOp E ρ h k s o = slowOp E ρ' h k s o := by
  have flat := flatA_congr (P := E.P) (o := o) (ρ := ρ) (ρ' := ρ')
  obtain ⟨dst, op, type, pos, after, guard⟩ := o
  have pairs : ∀ ps : List (Nat × Operand), (∀ x ∈ ps.map (·.2), ρ x = ρ' x) → (ps.map fun p => (p.1, ρ p.2)) = ps.map fun p => (p.1, ρ' p.2) := fun ps hp =>
    List.map_congr_left fun p hm => by rw [hp p.2 (List.mem_map_of_mem hm)]
  have opts : ∀ z : Option Operand, (∀ y, z = some y → ρ y = ρ' y) → z.map ρ = z.map ρ' := by
    intro z hz
    cases z with
    | none => rfl
    | some y => simp [hz y rfl]
  unfold slowOp
  cases op with
  | move x => simp only [hs x (by simp [Op.operands])]
  | assign x => simp only [hs x (by simp [Op.operands])]
  | pick c x y => simp only [hs c (by simp [Op.operands]), hs x (by simp [Op.operands]), hs y (by simp [Op.operands])]
  | alloc t => rfl
  | box t x => simp only [hs x (by simp [Op.operands])]
  | build t parts =>
    simp only
    rw [pairs parts.toList (fun x hx => hs x (by simp only [Op.operands, List.mem_toArray]; exact hx))]
  | buildSlice t len parts =>
    simp only
    rw [pairs parts.toList (fun x hx => hs x (by simp only [Op.operands, List.mem_toArray]; exact hx))]
  | load t x => simp only [hs x (by simp [Op.operands])]
  | store t x y => simp only [hs x (by simp [Op.operands]), hs y (by simp [Op.operands])]
  | nilCheck x => simp only [hs x (by simp [Op.operands])]
  | makeInterface t x => simp only [hs x (by simp [Op.operands])]
  | makeFunc fn f c =>
    have e1 : f.toList.map ρ = f.toList.map ρ' := List.map_congr_left (fun x hx => hs x (by simp [Op.operands]; left; simpa using hx))
    have e2 : c.toList.map ρ = c.toList.map ρ' := List.map_congr_left (fun x hx => hs x (by simp [Op.operands]; right; simpa using hx))
    simp only [e1, e2]
  | makeSlice t l c => simp only [hs l (by simp [Op.operands]), hs c (by simp [Op.operands])]
  | slice t x lo hi mx =>
    have e1 := opts lo (fun y hy => hs y (by simp [Op.operands, hy]))
    have e2 := opts hi (fun y hy => hs y (by simp [Op.operands, hy]))
    have e3 := opts mx (fun y hy => hs y (by simp [Op.operands, hy]))
    simp only [hs x (by simp [Op.operands]), e1, e2, e3, flat (by intro _ _ hh; cases hh) hs]
  | fieldAddr t x f => simp only [hs x (by simp [Op.operands])]
  | field t x f => simp only [hs x (by simp [Op.operands])]
  | indexAddr t x ix => simp only [hs x (by simp [Op.operands]), hs ix (by simp [Op.operands])]
  | index t x ix => simp only [hs x (by simp [Op.operands]), hs ix (by simp [Op.operands]), flat (by intro _ _ hh; cases hh) hs]
  | extract x i => simp only [hs x (by simp [Op.operands])]
  | convert src dst x => simp only [hs x (by simp [Op.operands]), flat (by intro _ _ hh; cases hh) hs]
  | binOp op t x y ty => simp only [hs x (by simp [Op.operands]), hs y (by simp [Op.operands]), flat (by intro _ _ hh; cases hh) hs]
  | unOp op t x => simp only [flat (by intro _ _ hh; cases hh) hs]
  | call c =>
    have hc : ∀ x ∈ c.operands, ρ x = ρ' x := hs
    have ha : c.args.toList.map ρ = c.args.toList.map ρ' := List.map_congr_left (fun x hx => hc x (by simp [Call.operands]; right; simpa using hx))
    have ht := targetA_congr (P := E.P) hc
    have e1 : callA E ρ h k s c = callA E ρ' h k s c := by
      unfold callA
      simp only [ha, ht]
    simp only [e1, flat (by intro _ _ hh; cases hh) hs]
  | _ => rfl

theorem fastA_congr {P : Program} {ρ ρ' : Operand → AV} {op : Op} (hs : ∀ x ∈ op.operands, ρ x = ρ' x) : fastA P ρ op = fastA P ρ' op := by
  have opts : ∀ z : Option Operand, (∀ y, z = some y → ρ y = ρ' y) → z.map ρ = z.map ρ' := by
    intro z hz
    cases z with
    | none => rfl
    | some y => simp [hz y rfl]
  cases op with
  | binOp op t x y ty => simp only [fastA, hs x (by simp [Op.operands]), hs y (by simp [Op.operands])]
  | unOp op t x => cases op <;> simp only [fastA, hs x (by simp [Op.operands])]
  | index t x ix => simp only [fastA, hs x (by simp [Op.operands]), hs ix (by simp [Op.operands])]
  | slice t x lo hi mx =>
    cases mx with
    | none => simp only [fastA, hs x (by simp [Op.operands]), opts lo (fun y hy => hs y (by simp [Op.operands, hy])), opts hi (fun y hy => hs y (by simp [Op.operands, hy]))]
    | some _ => rfl
  | _ => rfl

theorem absOp_congr {ρ ρ' : Operand → AV} {h : HR} {k : Nat} (hs : ∀ x ∈ o.op.operands, ρ x = ρ' x) : absOp E ρ h k s o = absOp E ρ' h k s o := by
  unfold absOp
  rw [fastA_congr hs, slowOp_congr hs]

theorem evA_congr {glob : Nat → Option (List SV)} {F F' : Nat → AV} {x : Operand} (h : ∀ t, x = .tmp t → F t = F' t) : evA glob F x = evA glob F' x := by
  cases x with
  | tmp t => exact h t rfl
  | _ => rfl

theorem guardA_congr {ops : Array Oper} {F F' : Nat → AV} (h : ∀ t ∈ o.looksAt ops, F t = F' t) : guardA ops F o = guardA ops F' o := by
  unfold guardA
  split
  · rfl
  · rename_i j want hg
    split
    · rfl
    · rename_i d hd
      rw [h d (by unfold Oper.looksAt; rw [hg]; simp [hd])]

theorem opA_congr {ops : Array Oper} {F F' : Nat → AV} {h : HR} (hF : ∀ t ∈ o.looksAt ops, F t = F' t) : opA E ops F h s o = opA E ops F' h s o := by
  unfold opA
  rw [guardA_congr hF]
  have : absOp E (evA E.glob F) h (o.dst.getD 65535) s o = absOp E (evA E.glob F') h (o.dst.getD 65535) s o :=
    absOp_congr (fun x hx => evA_congr (fun t ht => hF t (by
      subst ht
      unfold Oper.looksAt
      refine List.mem_append_left _ (List.mem_filterMap.2 ⟨.tmp t, by simpa using hx, rfl⟩))))
  rw [this]

/-! The order that is drawn. -/

/-- What each operation came to in the text's order. -/
structure Recs (E : Env) (nt : Nat) (ops : Array Oper) (nx : Nat) (n : Nat) (val : Nat → AV) (ups : Nat → List Up) (ft : Nat → Foot) (F0 : Nat → AV) (H0 : HR) : Prop where
  op : ∀ i, i < n → ∃ o, ops[i]? = some o ∧ dstOk nt o.dst = true ∧ (ft i).wr = (ups i).map (·.1) ∧
    opA E ops (fun t => last (fun j t => match ops[j]? with | some o => putW o.dst (val j) t | none => none) F0 (fun _ => true) i t)
      (only (fun k => last (fun j k => lastUp (ups j) k) H0 (fun _ => true) i k) (ft i).rd) (nx + room * i) o = some (val i, ups i)

abbrev wF (ops : Array Oper) (val : Nat → AV) : Nat → Nat → Option AV := fun j t => match ops[j]? with | some o => putW o.dst (val j) t | none => none
abbrev wH (ups : Nat → List Up) : Nat → Nat → Option Slot := fun j k => lastUp (ups j) k

theorem opsD_recs {nt : Nat} {ops : Array Oper} (st0 : St) : ∀ (n k : Nat) (st st' : St) (fs : List Foot) (val0 : Nat → AV) (ups0 : Nat → List Up) (ft0 : Nat → Foot), opsD E nt ops (List.range' k n) st = some (st', fs) → k + n ≤ ops.size → st.nx = st0.nx →
    Recs E nt ops st0.nx k val0 ups0 ft0 st0.F st0.h → (∀ t, st.F t = last (wF ops val0) st0.F (fun _ => true) k t) → (∀ j, st.h j = last (wH ups0) st0.h (fun _ => true) k j) →
    ∃ (val : Nat → AV) (ups : Nat → List Up) (ft : Nat → Foot), Recs E nt ops st0.nx (k + n) val ups ft st0.F st0.h ∧ st'.nx = st0.nx ∧ fs.length = n ∧ (∀ i (h : i < fs.length), fs[i] = ft (k + i)) ∧ (∀ i, i < k → ft i = ft0 i) ∧
      (∀ t, st'.F t = last (wF ops val) st0.F (fun _ => true) (k + n) t) ∧ (∀ j, st'.h j = last (wH ups) st0.h (fun _ => true) (k + n) j) := by
  intro n
  induction n with
  | zero =>
    intro k st st' fs val0 ups0 ft0 e hk hnx R hF hH
    simp only [List.range', opsD, Option.some.injEq, Prod.mk.injEq] at e
    obtain ⟨rfl, rfl⟩ := e
    exact ⟨val0, ups0, ft0, R, hnx, rfl, fun i h => by simp at h, fun _ _ => rfl, hF, hH⟩
  | succ n ih =>
    intro k st st' fs val0 ups0 ft0 e hk hnx R hF hH
    simp only [List.range'_succ, opsD] at e
    split at e
    · rename_i st1 f hst
      split at e
      · rename_i st2 fs2 hrest
        simp only [Option.some.injEq, Prod.mk.injEq] at e
        obtain ⟨rfl, rfl⟩ := e
        unfold stepD at hst
        have hsz : k < ops.size := by omega
        rw [Array.getElem?_eq_getElem hsz] at hst
        simp only at hst
        split at hst
        · rename_i v us hop
          cases hp : putA nt st.fr ops[k].dst v with
          | none => rw [hp] at hst; cases hst
          | some fr' =>
            rw [hp] at hst
            simp only [Option.map_some, Option.some.injEq, Prod.mk.injEq] at hst
            obtain ⟨rfl, rfl⟩ := hst
            obtain ⟨hd, hput⟩ := putA_spec hp
            let val : Nat → AV := fun j => if j = k then v else val0 j
            let ups : Nat → List Up := fun j => if j = k then us else ups0 j
            let ft : Nat → Foot := fun j => if j = k then ⟨reach room st.h (opKeys (evA E.glob st.F) ops[k]) [], us.map (·.1)⟩ else ft0 j
            have lF : ∀ i, i ≤ k → ∀ t, last (wF ops val) st0.F (fun _ => true) i t = last (wF ops val0) st0.F (fun _ => true) i t := by
              intro i hi t
              induction i with
              | zero => rfl
              | succ i ihi =>
                simp only [last, if_true]
                rw [ihi (by omega)]
                have : wF ops val i t = wF ops val0 i t := by simp only [wF, val]; rw [if_neg (by omega)]
                rw [this]
            have lH : ∀ i, i ≤ k → ∀ j, last (wH ups) st0.h (fun _ => true) i j = last (wH ups0) st0.h (fun _ => true) i j := by
              intro i hi j
              induction i with
              | zero => rfl
              | succ i ihi =>
                simp only [last, if_true]
                rw [ihi (by omega)]
                have : wH ups i j = wH ups0 i j := by simp only [wH, ups]; rw [if_neg (by omega)]
                rw [this]
            have R1 : Recs E nt ops st0.nx (k + 1) val ups ft st0.F st0.h := by
              refine ⟨fun i hi => ?_⟩
              by_cases e : i = k
              · subst e
                refine ⟨ops[i], Array.getElem?_eq_getElem hsz, hd, by simp [ft, ups], ?_⟩
                have e1 : (fun t => last (wF ops val) st0.F (fun _ => true) i t) = st.F := by funext t; rw [lF i (Nat.le_refl _), hF]
                have e2 : (fun j => last (wH ups) st0.h (fun _ => true) i j) = st.h := by funext t; rw [lH i (Nat.le_refl _), hH]
                show opA E ops (fun t => last (wF ops val) st0.F (fun _ => true) i t) (only (fun j => last (wH ups) st0.h (fun _ => true) i j) (ft i).rd) (st0.nx + room * i) ops[i] = some (val i, ups i)
                rw [e1, e2]
                simp only [ft, val, ups, if_true]
                rw [← hnx]; exact hop
              · obtain ⟨o, q1, q2, q3, q4⟩ := R.op i (by omega)
                refine ⟨o, q1, q2, by simp only [ft, ups, if_neg e]; exact q3, ?_⟩
                have e1 : (fun t => last (wF ops val) st0.F (fun _ => true) i t) = fun t => last (wF ops val0) st0.F (fun _ => true) i t := by funext t; exact lF i (by omega) t
                have e2 : (fun j => last (wH ups) st0.h (fun _ => true) i j) = fun j => last (wH ups0) st0.h (fun _ => true) i j := by funext t; exact lH i (by omega) t
                show opA E ops (fun t => last (wF ops val) st0.F (fun _ => true) i t) (only (fun j => last (wH ups) st0.h (fun _ => true) i j) (ft i).rd) (st0.nx + room * i) o = some (val i, ups i)
                rw [e1, e2]
                simp only [ft, val, ups, if_neg e]
                exact q4
            have hF1 : ∀ t, fr'.get t = last (wF ops val) st0.F (fun _ => true) (k + 1) t := by
              intro t
              simp only [last, if_true]
              rw [hput, putF_putW, lF k (Nat.le_refl _)]
              have : wF ops val k t = putW ops[k].dst v t := by simp only [wF, val, Array.getElem?_eq_getElem hsz, if_true]
              rw [this, ← hF]; rfl
            have hH1 : ∀ j, hget (upHp st.hp us) j = last (wH ups) st0.h (fun _ => true) (k + 1) j := by
              intro j
              simp only [last, if_true]
              rw [hget_upHp, upH_lastUp, lH k (Nat.le_refl _)]
              have : wH ups k j = lastUp us j := by simp only [wH, ups, if_true]
              rw [this, ← hH]; rfl
            obtain ⟨val2, ups2, ft2, R2, n2, l2, fs2', keep2, F2, H2⟩ := ih (k + 1) _ _ _ val ups ft hrest (by omega) hnx R1 hF1 hH1
            refine ⟨val2, ups2, ft2, by rw [show k + (n + 1) = k + 1 + n by omega]; exact R2, n2, by simp [l2], ?_, ?_, by rw [show k + (n + 1) = k + 1 + n by omega]; exact F2, by rw [show k + (n + 1) = k + 1 + n by omega]; exact H2⟩
            · intro i hi
              cases i with
              | zero =>
                simp only [List.getElem_cons_zero, Nat.add_zero]
                rw [keep2 k (by omega)]
                simp [ft]
              | succ i =>
                simp only [List.getElem_cons_succ]
                rw [fs2' i (by simpa using hi), show k + 1 + i = k + (i + 1) by omega]
            · intro i hi
              rw [keep2 i (by omega)]
              simp only [ft]; rw [if_neg (by omega)]
        · cases hst
      · cases e
    · cases e

end
end Go.Proofs.Ytbfdokfelolmbaa.Vai
end

section
namespace Go.Proofs.Ytbfdokfelolmbaa.Vai

/-! What must stand ahead of what. -/

def befStep (acc : Array Nat) (o : Oper) : Array Nat :=
  acc.push (o.after.foldl (fun s e => if Region.binds .any e then s ||| 2 ^ e.on ||| acc.getD e.on 0 else s) 0)

theorem before_eq (ops : Array Oper) : Region.before ops = ops.toList.foldl befStep #[] := by
  unfold Region.before
  rw [← Array.foldl_toList]
  rfl

theorem edge_bits (acc : Array Nat) (j : Nat) : ∀ (l : List Edge) (s : Nat), (l.foldl (fun s e => if Region.binds .any e then s ||| 2 ^ e.on ||| acc.getD e.on 0 else s) s).testBit j = true →
    s.testBit j = true ∨ ∃ e ∈ l, Region.binds .any e = true ∧ (e.on = j ∨ (acc.getD e.on 0).testBit j = true)
  | [], s, h => .inl h
  | e :: l, s, h => by
    simp only [List.foldl_cons] at h
    rcases edge_bits acc j l _ h with h1 | ⟨e', h1, h2⟩
    · by_cases hb : Region.binds .any e = true
      · rw [if_pos hb] at h1
        simp only [Nat.testBit_or, Bool.or_eq_true] at h1
        rcases h1 with (h1 | h1) | h1
        · exact .inl h1
        · refine .inr ⟨e, by simp, hb, .inl ?_⟩
          rw [Nat.testBit_two_pow] at h1
          simpa using h1
        · exact .inr ⟨e, by simp, hb, .inr h1⟩
      · rw [if_neg hb] at h1; exact .inl h1
    · exact .inr ⟨e', by simp [h1], h2⟩

theorem bef_fold : ∀ (l : List Oper) (acc : Array Nat), (l.foldl befStep acc).size = acc.size + l.length ∧ (∀ i, i < acc.size → (l.foldl befStep acc).getD i 0 = acc.getD i 0) ∧
    ∀ k (hk : k < l.length) j, ((l.foldl befStep acc).getD (acc.size + k) 0).testBit j = true →
      ∃ e ∈ l[k].after.toList, Region.binds .any e = true ∧ (e.on = j ∨ (e.on < acc.size + k ∧ ((l.foldl befStep acc).getD e.on 0).testBit j = true))
  | [], acc => ⟨by simp, fun _ _ => rfl, fun k hk => by simp at hk⟩
  | o :: l, acc => by
    obtain ⟨h1, h2, h3⟩ := bef_fold l (befStep acc o)
    have hs : (befStep acc o).size = acc.size + 1 := by simp [befStep]
    have hold : ∀ i, i < acc.size → (befStep acc o).getD i 0 = acc.getD i 0 := by
      intro i hi
      simp only [befStep, Array.getD_eq_getD_getElem?, Array.getElem?_push]
      rw [if_neg (by omega)]
    refine ⟨by simp only [List.foldl_cons, h1, hs, List.length_cons]; omega, fun i hi => ?_, fun k hk j hj => ?_⟩
    · simp only [List.foldl_cons]
      rw [h2 i (by omega), hold i hi]
    · simp only [List.foldl_cons] at hj ⊢
      cases k with
      | zero =>
        simp only [Nat.add_zero] at hj ⊢
        rw [h2 acc.size (by omega)] at hj
        have hv : (befStep acc o).getD acc.size 0 = o.after.toList.foldl (fun s e => if Region.binds .any e then s ||| 2 ^ e.on ||| acc.getD e.on 0 else s) 0 := by
          unfold befStep
          rw [Array.getD_eq_getD_getElem?, Array.getElem?_push_size, Array.foldl_toList]
          rfl
        rw [hv] at hj
        rcases edge_bits acc j _ _ hj with h | ⟨e, he, hb, hc⟩
        · simp at h
        · refine ⟨e, by simpa using he, hb, ?_⟩
          rcases hc with hc | hc
          · exact .inl hc
          · have hlt : e.on < acc.size := by
              rcases Nat.lt_or_ge e.on acc.size with h | h
              · exact h
              · rw [Array.getD_eq_getD_getElem?, Array.getElem?_eq_none h] at hc; simp at hc
            exact .inr ⟨hlt, by rw [h2 _ (by omega), hold _ hlt]; exact hc⟩
      | succ k =>
        have := h3 k (by simpa using hk) j (by rw [hs, show acc.size + 1 + k = acc.size + (k + 1) by omega]; exact hj)
        obtain ⟨e, he, hb, hc⟩ := this
        refine ⟨e, by simpa using he, hb, ?_⟩
        rcases hc with hc | ⟨hc1, hc2⟩
        · exact .inl hc
        · exact .inr ⟨by omega, hc2⟩

theorem before_spec (ops : Array Oper) {i j : Nat} (h : ((Region.before ops).getD i 0).testBit j = true) :
    ∃ o, ops[i]? = some o ∧ ∃ e ∈ o.after.toList, Region.binds .any e = true ∧ (e.on = j ∨ (e.on < i ∧ ((Region.before ops).getD e.on 0).testBit j = true)) := by
  rw [before_eq] at h ⊢
  obtain ⟨h1, _, h3⟩ := bef_fold ops.toList #[]
  have hi : i < ops.toList.length := by
    rcases Nat.lt_or_ge i ops.toList.length with h' | h'
    · exact h'
    · rw [Array.getD_eq_getD_getElem?, Array.getElem?_eq_none (by rw [h1]; simpa using h')] at h; simp at h
  have := h3 i hi j (by simpa using h)
  simp only [Array.size_empty, Nat.zero_add] at this
  refine ⟨ops.toList[i], ?_, this⟩
  have hi' : i < ops.size := by simpa using hi
  rw [Array.getElem?_eq_getElem hi']
  simp

/-- What has been done has all done that it waits for. -/
def Down (ops : Array Oper) (S : Nat → Bool) : Prop := ∀ i o, ops[i]? = some o → S i = true → ∀ e ∈ o.after.toList, Region.binds .any e = true → S e.on = true

theorem Down.bits {ops : Array Oper} {S : Nat → Bool} (h : Down ops S) : ∀ (i j : Nat), S i = true → ((Region.before ops).getD i 0).testBit j = true → S j = true := by
  intro i
  induction i using Nat.strongRecOn with
  | _ i ih =>
    intro j hS hb
    obtain ⟨o, ho, e, he, hbi, hc⟩ := before_spec ops hb
    have := h i o ho hS e he hbi
    rcases hc with rfl | ⟨hlt, hc⟩
    · exact this
    · exact ih _ hlt j this hc

section
variable {E : Env} {G : Nat → Prop} {M : Mem} {V : Val} {H : HR} {w : World} {a : Act} {s : Nat} {o : Oper} {v : AV} {ups : List Up}

theorem disj_spec {a b : List Nat} (h : disj a b = true) {k : Nat} (h1 : k ∈ a) (h2 : k ∈ b) : False := by
  unfold disj at h
  rw [List.all_eq_true] at h
  have := h k h1
  simp [h2] at this

def cnt (S : Nat → Bool) : Nat → Nat
  | 0 => 0
  | n + 1 => cnt S n + if S n then 0 else 1

theorem cnt_insert {S : Nat → Bool} {i : Nat} (h : S i = false) : ∀ {n : Nat}, i < n → cnt S n = cnt (fun j => S j || j == i) n + 1
  | 0, hi => by omega
  | n + 1, hi => by
    by_cases e : n = i
    · subst e
      have : ∀ m, m ≤ n → cnt (fun j => S j || j == n) m = cnt S m := by
        intro m
        induction m with
        | zero => intro _; rfl
        | succ m ih =>
          intro hm
          simp only [cnt]
          rw [ih (by omega)]
          have : (m == n) = false := by simp; omega
          simp [this]
      simp only [cnt, this n (Nat.le_refl _), h]
      simp
    · have := cnt_insert h (n := n) (by omega)
      have e2 : (n == i) = false := by simpa using e
      simp only [cnt, e2, Bool.or_false]
      omega
theorem cnt_zero {S : Nat → Bool} : ∀ {n : Nat}, cnt S n = 0 → ∀ i, i < n → S i = true
  | n + 1, h, i, hi => by
    simp only [cnt] at h
    by_cases e : i = n
    · subst e
      by_cases hS : S i = true
      · exact hS
      · rw [if_neg hS] at h; omega
    · exact cnt_zero (n := n) (by omega) i (by omega)
theorem cnt_pos {S : Nat → Bool} : ∀ {n : Nat}, 0 < cnt S n → ∃ i, i < n ∧ S i = false ∧ ∀ j, j < i → S j = true
  | n + 1, h => by
    by_cases h0 : 0 < cnt S n
    · obtain ⟨i, h1, h2, h3⟩ := cnt_pos h0
      exact ⟨i, by omega, h2, h3⟩
    · simp only [cnt] at h
      refine ⟨n, by omega, ?_, cnt_zero (by omega)⟩
      by_cases hS : S n = true
      · rw [if_pos hS] at h; omega
      · simpa using hS

theorem draw_sound (hE : SoundCall E.P E.glob E.call) {nt : Nat} {ops : Array Oper} {Q : Exit → Act → World → Prop} {nx : Nat} {val : Nat → AV} {ups : Nat → List Up} {ft : Nat → Foot} {F0 : Nat → AV} {H0 : HR} {fs : List Foot}
    (RR : Recs E nt ops nx ops.size val ups ft F0 H0) (hfl : fs.length = ops.size) (hfs : ∀ i (h : i < fs.length), fs[i] = ft i) (hok : allOk ops fs = true) (M0 : Mem) (V0 : Val) (w0 : World)
    (hq : ∀ M' V' a' w', Rel E G M' V' nt (last (wF ops val) F0 (fun _ => true) ops.size) (last (wH ups) H0 (fun _ => true) ops.size) a' w' → (∀ j, V' j ≠ none → j < nx + room * ops.size) → Ext G M0 V0 w0 M' V' w' → Q .normal a' w') :
    ∀ (fuel : Nat) (listed : Array Bool) (M : Mem) (V : Val) (a : Act) (w : World), listed.size = ops.size → cnt (fun i => listed.getD i false) ops.size = fuel → Down ops (fun i => listed.getD i false) →
      Rel E G M V nt (last (wF ops val) F0 (fun i => listed.getD i false) ops.size) (last (wH ups) H0 (fun i => listed.getD i false) ops.size) a w →
      (∀ j, V j ≠ none → j < nx ∨ ∃ i, listed.getD i false = true ∧ i < ops.size ∧ nx + room * i ≤ j ∧ j < nx + room * i + room) → Ext G M0 V0 w0 M V w → wpAny E.P .any ops Q fuel listed a w := by
  unfold allOk at hok
  simp only [Bool.and_eq_true] at hok
  obtain ⟨hback, hall⟩ := hok
  -- no two that may change places meddle with one another
  have pair : ∀ i j x y, i < j → ops[i]? = some x → ops[j]? = some y → ((Region.before ops).getD j 0).testBit i = false → x.apart ops y = true ∧ disj (ft i).wr (ft j).rd = true ∧ disj (ft i).wr (ft j).wr = true ∧ disj (ft j).wr (ft i).rd = true := by
    intro i j x y hij hx hy hb
    have hj : j < ops.size := (Array.getElem?_eq_some_iff.1 hy).1
    rw [List.all_eq_true] at hall
    have h1 := hall j (by simpa using hj)
    rw [List.all_eq_true] at h1
    have h2 := h1 i (by simpa using hij)
    unfold pairOk at h2
    rw [hb, hx, hy, List.getElem?_eq_getElem (by omega : i < fs.length), List.getElem?_eq_getElem (by omega : j < fs.length), hfs i (by omega), hfs j (by omega)] at h2
    simpa [freeOps, and_assoc] using h2
  have readyIff : ∀ (listed : Array Bool) i, listed.size = ops.size → i ∈ Region.ready .any ops listed → i < ops.size ∧ listed.getD i false = false ∧ ∀ o, ops[i]? = some o → ∀ e ∈ o.after.toList, Region.binds .any e = true → listed.getD e.on false = true := by
    intro listed i hsz hi
    unfold Region.ready at hi
    rw [List.mem_filter] at hi
    obtain ⟨h1, h2⟩ := hi
    have hlt : i < ops.size := by simpa using h1
    simp only [Bool.and_eq_true] at h2
    refine ⟨hlt, ?_, ?_⟩
    · have h3 := h2.1
      simp only [Array.getD_eq_getD_getElem?, Array.getElem?_eq_getElem (by omega : i < listed.size)] at h3 ⊢
      simpa using h3
    · intro o ho e he hb
      have h3 := h2.2
      rw [ho] at h3
      simp only [Option.map_some, Option.getD_some] at h3
      rw [Array.all_eq_true] at h3
      obtain ⟨k, hk, rfl⟩ := List.getElem_of_mem he
      have := h3 k (by simpa using hk)
      simp only [Array.getElem_toList] at hb
      rw [hb] at this
      simpa using this
  intro fuel
  induction fuel with
  | zero =>
    intro listed M V a w hsz hcnt hdown R hst X
    have allS : ∀ i, i < ops.size → listed.getD i false = true := cnt_zero hcnt
    have hr : Region.ready .any ops listed = [] := by
      cases hrr : Region.ready .any ops listed with
      | nil => rfl
      | cons i l =>
        obtain ⟨h1, h2, _⟩ := readyIff listed i hsz (by rw [hrr]; simp)
        rw [allS i h1] at h2; cases h2
    refine ⟨hr, hq M V a w ?_ (fun j hj => ?_) X⟩
    · have e1 : last (wF ops val) F0 (fun i => listed.getD i false) ops.size = last (wF ops val) F0 (fun _ => true) ops.size := by funext t; exact last_agree (fun j hj _ => allS j hj)
      have e2 : last (wH ups) H0 (fun i => listed.getD i false) ops.size = last (wH ups) H0 (fun _ => true) ops.size := by funext t; exact last_agree (fun j hj _ => allS j hj)
      rw [← e1, ← e2]; exact R
    · rcases hst j hj with h | ⟨i, _, h1, h2, h3⟩
      · omega
      · have : room * i + room ≤ room * ops.size := by rw [← Nat.mul_succ]; exact Nat.mul_le_mul_left _ (by omega)
        omega
  | succ fuel ih =>
    intro listed M V a w hsz hcnt hdown R hst X
    refine ⟨fun hr => ?_, fun i hi => ?_⟩
    · -- something is ready
      obtain ⟨i, h1, h2, h3⟩ := cnt_pos (S := fun i => listed.getD i false) (n := ops.size) (by omega)
      have : i ∈ Region.ready .any ops listed := by
        unfold Region.ready
        rw [List.mem_filter]
        refine ⟨by simpa using h1, ?_⟩
        simp only [Bool.and_eq_true]
        refine ⟨?_, ?_⟩
        · simp only [Array.getD_eq_getD_getElem?, Array.getElem?_eq_getElem (by omega : i < listed.size)] at h2 ⊢
          simpa using h2
        · rw [Array.getElem?_eq_getElem h1]
          simp only [Option.map_some, Option.getD_some]
          unfold backOk at hback
          rw [List.all_eq_true] at hback
          have hb := hback i (by simpa using h1)
          rw [Array.getElem?_eq_getElem h1] at hb
          simp only at hb
          rw [Array.all_eq_true] at hb ⊢
          intro k hk
          have := hb k hk
          simp only [Bool.or_eq_true, Bool.not_eq_true', decide_eq_true_eq] at this ⊢
          rcases this with h | h
          · exact .inl h
          · exact .inr (h3 _ h)
      rw [hr] at this; cases this
    · obtain ⟨hlt, hSi, hpre⟩ := readyIff listed i hsz hi
      obtain ⟨o, ho, hd, hwr, hop⟩ := RR.op i hlt
      have hbit : ∀ j, ((Region.before ops).getD i 0).testBit j = true → listed.getD j false = true := by
        intro j hb
        obtain ⟨o', ho', e, he, hbi, hc⟩ := before_spec ops hb
        have := hpre o' ho' e he hbi
        rcases hc with rfl | ⟨_, hc⟩
        · exact this
        · exact hdown.bits _ _ this hc
      -- those that i may change places with
      have below : ∀ j y, j < i → listed.getD j false = false → ops[j]? = some y → y.apart ops o = true ∧ disj (ft j).wr (ft i).rd = true := by
        intro j y hji hS hy
        have := pair j i y o hji hy ho (by
          cases hb : ((Region.before ops).getD i 0).testBit j with
          | false => rfl
          | true => rw [hbit j hb] at hS; cases hS)
        exact ⟨this.1, this.2.1⟩
      have above : ∀ j y, i < j → listed.getD j false = true → ops[j]? = some y → o.apart ops y = true ∧ disj (ft i).wr (ft j).wr = true ∧ disj (ft j).wr (ft i).rd = true := by
        intro j y hij hS hy
        have := pair i j o y hij ho hy (by
          cases hb : ((Region.before ops).getD j 0).testBit i with
          | false => rfl
          | true => have h5 : listed.getD i false = true := hdown.bits j i hS hb; rw [hSi] at h5; cases h5)
        exact ⟨this.1, this.2.2.1, this.2.2.2⟩
      have hF : ∀ t ∈ o.looksAt ops, last (wF ops val) F0 (fun i => listed.getD i false) ops.size t = last (wF ops val) F0 (fun _ => true) i t := by
        intro t ht
        rw [← last_below (n := ops.size) (by omega : i ≤ ops.size)]
        refine last_agree (fun j hj hW => ?_)
        cases hy : ops[j]? with
        | none => simp only [wF, hy] at hW; cases hW
        | some y =>
          have hdst : y.dst = some t := by
            simp only [wF, hy, putW] at hW
            split at hW
            · rename_i k hk
              split at hW
              · rename_i e; rw [hk, e]
              · cases hW
            · cases hW
          by_cases hji : j < i
          · cases hS : listed.getD j false with
            | true => simp [hji]
            | false => exact absurd ht ((Oper.apart_spec (below j y hji hS hy).1).1 t hdst)
          · cases hS : listed.getD j false with
            | false => simp [hji]
            | true =>
              have hne : i ≠ j := by intro e; subst e; rw [hSi] at hS; cases hS
              exact absurd ht ((Oper.apart_spec (above j y (by omega) hS hy).1).2.2 t hdst)
      have hwrj : ∀ j y k, ops[j]? = some y → (wH ups j k).isSome = true → k ∈ (ft j).wr := by
        intro j y k hy hW
        obtain ⟨_, _, _, hw, _⟩ := RR.op j (Array.getElem?_eq_some_iff.1 hy).1
        rw [hw]; exact lastUp_some hW
      have hH : ∀ k ∈ (ft i).rd, last (wH ups) H0 (fun i => listed.getD i false) ops.size k = last (wH ups) H0 (fun _ => true) i k := by
        intro k hk
        rw [← last_below (n := ops.size) (by omega : i ≤ ops.size)]
        refine last_agree (fun j hj hW => ?_)
        have hy := Array.getElem?_eq_getElem hj
        have hkw := hwrj j _ k hy hW
        by_cases hji : j < i
        · cases hS : listed.getD j false with
          | true => simp [hji]
          | false => exact (disj_spec (below j _ hji hS hy).2 hkw hk).elim
        · cases hS : listed.getD j false with
          | false => simp [hji]
          | true =>
            have hne : i ≠ j := by intro e; subst e; rw [hSi] at hS; cases hS
            exact (disj_spec (above j _ (by omega) hS hy).2.2 hkw hk).elim
      rw [← opA_congr hF] at hop
      have hsub : HSub (only (fun k => last (wH ups) H0 (fun _ => true) i k) (ft i).rd) (last (wH ups) H0 (fun i => listed.getD i false) ops.size) := by
        intro k
        unfold only
        by_cases hk : (ft i).rd.contains k = true
        · rw [if_pos hk]
          exact .inl (hH k (by simpa using hk)).symm
        · rw [if_neg hk]; exact .inr rfl
      have hfr : ∀ j, j < room → V (nx + room * i + j) = none := by
        intro j hj
        cases hv : V (nx + room * i + j) with
        | none => rfl
        | some b =>
          rcases hst (nx + room * i + j) (by rw [hv]; simp) with h | ⟨i', h1, _, h2, h3⟩
          · omega
          · have : i' ≠ i := by intro e; subst e; rw [hSi] at h1; cases h1
            exfalso
            unfold room at *
            omega
      refine opA_sound hE R hsub ho hop hfr _ Q (fun x w' hpost => ?_)
      obtain ⟨M1, V1, R1, X1, r1, n1⟩ := hpost
      have R2 := R.put (d := o.dst) hd R1 X1 r1
      have hset : ∀ j, (listed.setIfInBounds i true).getD j false = (listed.getD j false || j == i) := by
        intro j
        simp only [Array.getD_eq_getD_getElem?, Array.getElem?_setIfInBounds]
        by_cases e : i = j
        · subst e; simp [hsz, hlt]
        · have : (j == i) = false := by simp; exact fun h => e h.symm
          simp [e, this]
      have hsetf : (fun j => (listed.setIfInBounds i true).getD j false) = fun j => (listed.getD j false || j == i) := funext hset
      have eF : last (wF ops val) F0 (fun j => (listed.setIfInBounds i true).getD j false) ops.size = putF (last (wF ops val) F0 (fun i => listed.getD i false) ops.size) o.dst (val i) := by
        funext t
        rw [hsetf, last_insert (i := i) hSi hlt (fun j hij hj hS hW => ?_), putF_putW]
        · have : wF ops val i t = putW o.dst (val i) t := by simp only [wF, ho]
          rw [this]
        · have hy := Array.getElem?_eq_getElem hj
          have hap := (Oper.apart_spec (above j _ hij hS hy).1).2.1
          simp only [wF, ho, hy] at hW ⊢
          cases hdst : o.dst with
          | none => rw [hdst] at hW; cases hW
          | some d =>
            rw [hdst] at hW
            have hdt : d = t := by
              simp only [putW] at hW
              split at hW
              · assumption
              · cases hW
            subst hdt
            have := hap d hdst
            cases hyd : ops[j].dst with
            | none => rfl
            | some d' =>
              simp only [putW]
              rw [if_neg]
              intro e; subst e; exact this hyd
      have eH : last (wH ups) H0 (fun j => (listed.setIfInBounds i true).getD j false) ops.size = upH (last (wH ups) H0 (fun i => listed.getD i false) ops.size) (ups i) := by
        funext k
        rw [hsetf, last_insert (i := i) hSi hlt (fun j hij hj hS hW => ?_), upH_lastUp]
        have hy := Array.getElem?_eq_getElem hj
        cases hWj : wH ups j k with
        | none => rfl
        | some sl => exact (disj_spec (above j _ hij hS hy).2.1 (hwrj i o k ho hW) (hwrj j _ k hy (by rw [hWj]; rfl))).elim
      refine ih (listed.setIfInBounds i true) M1 V1 (a.put o.dst x) w' (by simpa using hsz) ?_ ?_ (by rw [eF, eH]; exact R2) (fun j hj => ?_) (X.trans X1)
      · rw [hsetf]
        have := cnt_insert (S := fun i => listed.getD i false) hSi hlt
        omega
      · intro j o' ho' hS e he hb
        simp only [hset, Bool.or_eq_true, beq_iff_eq] at hS ⊢
        rcases hS with hS | rfl
        · exact .inl (hdown j o' ho' hS e he hb)
        · exact .inl (hpre o' ho' e he hb)
      · by_cases hv : V1 j = V j
        · rcases hst j (by rw [← hv]; exact hj) with h | ⟨i', h1, h2, h3⟩
          · exact .inl h
          · exact .inr ⟨i', by rw [hset, h1]; rfl, h2, h3⟩
        · have := n1 j hv
          exact .inr ⟨i, by rw [hset]; simp, hlt, this⟩

end
end Go.Proofs.Ytbfdokfelolmbaa.Vai
end

section
namespace Go.Proofs.Ytbfdokfelolmbaa.Vai

/-! Code. -/

def toExit : AExit → Exit
  | .normal => .normal
  | .exit i => .exit i
  | .goto l => .goto l
  | .ret => .ret

/-- Behind a jump within a scope. -/
def Within (P : Program) (c rest : Code) (Q : Exit → Act → World → Prop) (a : Act) (w : World) : Prop :=
  ∀ (b : Frame) (k : List Item) (cs : List Frame), ∃ e a' w', Q e a' w' ∧ Arrives P (lone (b.at a (.code rest :: .inScope c :: k)) cs w) b k cs e a' w'

def Exit.inScope (P : Program) (c : Code) (Q : Exit → Act → World → Prop) : Exit → Act → World → Prop
  | .goto l, a, w => match findLabel c l with
    | some rest => Within P c rest Q a w
    | none => Q (.goto l) a w
  | e, a, w => Q e a w

theorem within_of {P : Program} {c rest : Code} {Q : Exit → Act → World → Prop} {a : Act} {w : World} (h : rest.wp P (Exit.inScope P c Q) a w) : Within P c rest Q a w := by
  intro b k cs
  obtain ⟨e, a₁, w₁, hq, harr⟩ := h b (.inScope c :: k) cs
  cases e with
  | normal => exact ⟨.normal, a₁, w₁, hq, Steps.trans harr (.one step_inScope)⟩
  | exit id => exact ⟨.exit id, a₁, w₁, hq, fun k' hk => harr k' (by simp [exitTo, hk])⟩
  | goto l =>
    simp only [Exit.inScope] at hq
    cases hf : findLabel c l with
    | none =>
      rw [hf] at hq
      exact ⟨.goto l, a₁, w₁, hq, fun k' hk => harr k' (by simp [gotoIn, hf, hk])⟩
    | some rest' =>
      rw [hf] at hq
      obtain ⟨e₂, a₂, w₂, hq₂, harr₂⟩ := hq b k cs
      exact ⟨e₂, a₂, w₂, hq₂, .of_steps (harr _ (by simp [gotoIn, hf])) harr₂⟩
  | ret => exact ⟨_, a₁, w₁, hq, harr⟩
  | panic ch => exact ⟨_, a₁, w₁, hq, harr⟩
  | outgrown => exact ⟨_, a₁, w₁, hq, harr⟩

theorem wp_scope_any {P : Program} {c : Code} {Q : Exit → Act → World → Prop} {a : Act} {w : World} (h : c.wp P (Exit.inScope P c Q) a w) : (Code.scope c).wp P Q a w := by
  intro b k cs
  obtain ⟨e, a', w', hq, harr⟩ := within_of h b k cs
  exact ⟨e, a', w', hq, .of_steps (.one step_scope) harr⟩

section
variable {E : Env} {G : Nat → Prop} {M : Mem} {V : Val} {w : World} {a : Act}

def Behind (E : Env) (G : Nat → Prop) (nt : Nat) (M : Mem) (V : Val) (w : World) (r : AExit × St) (Q : Exit → Act → World → Prop) : Prop :=
  ∀ M' V' a' w', Rel E G M' V' nt r.2.F r.2.h a' w' → (∀ j, V' j ≠ none → j < r.2.nx) → Ext G M V w M' V' w' → Q (toExit r.1) a' w'

def RunOk (E : Env) (G : Nat → Prop) (nt : Nat) (c : Code) (st : St) (r : AExit × St) : Prop :=
  ∀ M V a w, Rel E G M V nt st.F st.h a w → (∀ j, V j ≠ none → j < st.nx) → ∀ Q, Behind E G nt M V w r Q → c.wp E.P Q a w

theorem iter_sound {nt : Nat} {c : Code} {body : St → Option (AExit × St)} (hb : ∀ st r, body st = some r → RunOk E G nt c st r) {n : Nat} {st : St} {r : AExit × St} (e : iter body n st = some r) : RunOk E G nt (.loop c) st r := by
  intro M V a w R hf Q hq
  refine wp_loop_ghost (fun m a' w' => ∃ st' M' V', iter body m st' = some r ∧ Rel E G M' V' nt st'.F st'.h a' w' ∧ (∀ j, V' j ≠ none → j < st'.nx) ∧ Ext G M V w M' V' w') n ⟨st, M, V, e, R, hf, .refl⟩ ?_
  rintro m a1 w1 ⟨st1, M1, V1, e1, R1, f1, X1⟩
  cases m with
  | zero => cases e1
  | succ m =>
    simp only [iter] at e1
    cases hbs : body st1 with
    | none => rw [hbs] at e1; cases e1
    | some r1 =>
      obtain ⟨ex, st2⟩ := r1
      rw [hbs] at e1
      cases ex with
      | normal =>
        simp only at e1
        refine hb _ _ hbs M1 V1 a1 w1 R1 f1 _ (fun M' V' a' w' R' f' X' => ?_)
        exact ⟨m, Nat.lt_succ_self m, st2, M', V', e1, R', f', X1.trans X'⟩
      | exit i =>
        simp only [Option.some.injEq] at e1; subst e1
        exact hb _ _ hbs M1 V1 a1 w1 R1 f1 _ (fun M' V' a' w' R' f' X' => hq M' V' a' w' R' f' (X1.trans X'))
      | goto i =>
        simp only [Option.some.injEq] at e1; subst e1
        exact hb _ _ hbs M1 V1 a1 w1 R1 f1 _ (fun M' V' a' w' R' f' X' => hq M' V' a' w' R' f' (X1.trans X'))
      | ret =>
        simp only [Option.some.injEq] at e1; subst e1
        exact hb _ _ hbs M1 V1 a1 w1 R1 f1 _ (fun M' V' a' w' R' f' X' => hq M' V' a' w' R' f' (X1.trans X'))

theorem scoped_sound {nt : Nat} {b : Code} {jump : Code → St → Option (AExit × St)} (hj : ∀ c st r, jump c st = some r → RunOk E G nt c st r) : ∀ (n : Nat) {r0 r : AExit × St}, scopeRun jump b n r0 = some r →
    ∀ M V w M' V' a' w', Rel E G M' V' nt r0.2.F r0.2.h a' w' → (∀ j, V' j ≠ none → j < r0.2.nx) → Ext G M V w M' V' w' → ∀ Q, Behind E G nt M V w r Q → Exit.inScope E.P b Q (toExit r0.1) a' w'
  | n, (.normal, st), r, e, M, V, w, M', V', a', w', R, f, X, Q, hq => by
    have : r = (.normal, st) := by cases n <;> simpa [scopeRun] using e.symm
    subst this
    exact hq _ _ _ _ R f X
  | n, (.exit i, st), r, e, M, V, w, M', V', a', w', R, f, X, Q, hq => by
    have : r = (.exit i, st) := by cases n <;> simpa [scopeRun] using e.symm
    subst this
    exact hq _ _ _ _ R f X
  | n, (.ret, st), r, e, M, V, w, M', V', a', w', R, f, X, Q, hq => by
    have : r = (.ret, st) := by cases n <;> simpa [scopeRun] using e.symm
    subst this
    exact hq _ _ _ _ R f X
  | 0, (.goto l, st), r, e, M, V, w, M', V', a', w', R, f, X, Q, hq => by simp [scopeRun] at e
  | n + 1, (.goto l, st), r, e, M, V, w, M', V', a', w', R, f, X, Q, hq => by
    simp only [scopeRun] at e
    show Exit.inScope E.P b Q (.goto l) a' w'
    simp only [Exit.inScope]
    cases hf : findLabel b l with
    | none =>
      rw [hf] at e
      simp only [Option.some.injEq] at e; subst e
      exact hq _ _ _ _ R f X
    | some rest =>
      rw [hf] at e
      simp only at e
      cases hjr : jump rest st with
      | none => rw [hjr] at e; cases e
      | some r1 =>
        rw [hjr] at e
        simp only at e ⊢
        refine within_of (hj _ _ _ hjr M' V' a' w' R f _ (fun M2 V2 a2 w2 R2 f2 X2 => ?_))
        exact scoped_sound hj n e M V w M2 V2 a2 w2 R2 f2 (X.trans X2) Q hq

theorem Rel.drew {nt : Nat} {F : Nat → AV} {H : HR} (R : Rel E G M V nt F H a w) (n : Nat) : Rel E G M V nt F H a { w with drawn := n } :=
  ⟨R.mr.drew n, R.gl, R.size, R.frame, R.defers⟩

theorem absCode_sound (hE : SoundCall E.P E.glob E.call) (hm : E.P.follows .mixedOrders = true) {nt n : Nat} {jump : Code → St → Option (AExit × St)} (hj : ∀ c st r, jump c st = some r → RunOk E G nt c st r) :
    ∀ (c : Code) (st : St) (r : AExit × St), absCode E nt n jump c st = some r → RunOk E G nt c st r := by
  intro c
  induction c with
  | skip =>
    intro st r e M V a w R f Q hq
    simp only [absCode, Option.some.injEq] at e; subst e
    exact wp_skip (hq M V a w R f .refl)
  | label l =>
    intro st r e M V a w R f Q hq
    simp only [absCode, Option.some.injEq] at e; subst e
    exact wp_label (hq M V a w R f .refl)
  | exit id =>
    intro st r e M V a w R f Q hq
    simp only [absCode, Option.some.injEq] at e; subst e
    exact wp_exit (hq M V a w R f .refl)
  | goto l =>
    intro st r e M V a w R f Q hq
    simp only [absCode, Option.some.injEq] at e; subst e
    exact wp_goto (hq M V a w R f .refl)
  | ret =>
    intro st r e M V a w R f Q hq
    simp only [absCode, Option.some.injEq] at e; subst e
    exact wp_ret (hq M V a w R f .refl)
  | region id ops draw =>
    intro st r e M V a w R f Q hq
    have fin : ∀ {st' : St} {M' : Mem} {V' : Val} {a' : Act} {w' : World}, (∀ j, V' j ≠ none → j < st.nx + room * ops.size) → st'.nx = st.nx → ∀ j, V' j ≠ none → j < (bump ops.size st').nx := by
      intro st' M' V' a' w' h1 h2 j hj
      have := h1 j hj
      show j < st'.nx + room * ops.size + room
      omega
    cases draw with
    | true =>
      simp only [absCode, if_true] at e
      split at e
      · rename_i st' fs hd
        split at e
        · rename_i hok
          simp only [Option.some.injEq] at e; subst e
          rw [List.range_eq_range'] at hd
          obtain ⟨val, ups, ft, RR, h1, h2, h3, _, h5, h6⟩ := opsD_recs (E := E) st ops.size 0 st st' fs (fun _ => .dead) (fun _ => []) (fun _ => ⟨[], []⟩) hd (by omega) rfl ⟨fun i hi => by omega⟩ (fun _ => rfl) (fun _ => rfl)
          rw [Nat.zero_add] at RR h5 h6
          have hset : ∀ i, (Array.replicate ops.size false).getD i false = false := by
            intro i
            simp only [Array.getD_eq_getD_getElem?, Array.getElem?_replicate]
            split <;> rfl
          have e0F : last (wF ops val) st.F (fun i => (Array.replicate ops.size false).getD i false) ops.size = st.F := by
            funext t
            have : ∀ m, last (wF ops val) st.F (fun i => (Array.replicate ops.size false).getD i false) m t = st.F t := by
              intro m; induction m with
              | zero => rfl
              | succ m ih => simp only [last]; rw [if_neg (by rw [hset]; simp)]; exact ih
            exact this _
          have e0H : last (wH ups) st.h (fun i => (Array.replicate ops.size false).getD i false) ops.size = st.h := by
            funext t
            have : ∀ m, last (wH ups) st.h (fun i => (Array.replicate ops.size false).getD i false) m t = st.h t := by
              intro m; induction m with
              | zero => rfl
              | succ m ih => simp only [last]; rw [if_neg (by rw [hset]; simp)]; exact ih
            exact this _
          have hcnt : ∀ m, cnt (fun i => (Array.replicate ops.size false).getD i false) m = m := by
            intro m; induction m with
            | zero => rfl
            | succ m ih => simp only [cnt]; rw [if_neg (by rw [hset]; simp), ih]
          refine wp_region_any hm (draw_sound hE RR h2 (fun i h => by simpa using h3 i h) hok M V w (fun M' V' a' w' R' f' X' => ?_) ops.size _ M V a _ (by simp) (hcnt _) (fun i o _ hS => by have := hset i; simp only at hS; rw [this] at hS; cases hS) (by rw [e0F, e0H]; exact R.drew _) (fun j hj => .inl (f j hj)) ⟨fun _ _ _ h => h, fun _ _ _ _ => rfl, fun _ _ h => h, ⟨rfl, rfl, rfl, Nat.le_refl _, fun _ _ => rfl⟩⟩)
          refine hq M' V' a' w' ?_ (fin (M' := M') (a' := a') (w' := w') f' h1) X'
          have g1 : last (wF ops val) st.F (fun _ => true) ops.size = st'.F := funext fun t => (h5 t).symm
          have g2 : last (wH ups) st.h (fun _ => true) ops.size = st'.h := funext fun t => (h6 t).symm
          rw [g1, g2] at R'
          exact R'
        · cases e
      · cases e
    | false =>
      simp only [absCode, Bool.false_eq_true, if_false] at e
      split at e
      · rename_i st' hd
        simp only [Option.some.injEq] at e; subst e
        rw [List.range_eq_range'] at hd
        refine wp_region ?_
        rw [List.range_eq_range']
        refine opsA_sound hE st ops.size 0 st st' M V a w hd rfl R (fun j hj => by have := f j hj; omega) (fun M' V' a' w' R' h1 f' X' => ?_)
        rw [Nat.zero_add] at f'
        exact hq M' V' a' w' R' (fin (M' := M') (a' := a') (w' := w') f' h1) X'
      · cases e
  | seq x y ihx ihy =>
    intro st r e M V a w R f Q hq
    simp only [absCode] at e
    refine wp_seq ?_
    cases hx : absCode E nt n jump x st with
    | none => rw [hx] at e; cases e
    | some r1 =>
      obtain ⟨ex, st1⟩ := r1
      rw [hx] at e
      refine ihx _ _ hx M V a w R f _ (fun M' V' a' w' R' f' X' => ?_)
      cases ex with
      | normal =>
        simp only at e
        exact ihy _ _ e M' V' a' w' R' f' Q (fun M2 V2 a2 w2 R2 f2 X2 => hq M2 V2 a2 w2 R2 f2 (X'.trans X2))
      | exit i => simp only [Option.some.injEq] at e; subst e; exact hq M' V' a' w' R' f' X'
      | goto i => simp only [Option.some.injEq] at e; subst e; exact hq M' V' a' w' R' f' X'
      | ret => simp only [Option.some.injEq] at e; subst e; exact hq M' V' a' w' R' f' X'
  | cond c x y ihx ihy =>
    intro st r e M V a w R f Q hq
    simp only [absCode] at e
    have hc := ev_rep R c
    split at e
    · rename_i h
      rw [h] at hc
      cases hc with
      | s _ _ r' => generalize hb : a.eval c = cv at r'; cases r'; exact wp_cond_true hb (ihx _ _ e M V a w R f Q hq)
    · rename_i h
      rw [h] at hc
      cases hc with
      | s _ _ r' => generalize hb : a.eval c = cv at r'; cases r'; exact wp_cond_false hb (ihy _ _ e M V a w R f Q hq)
    · cases e
  | block id b ih =>
    intro st r e M V a w R f Q hq
    simp only [absCode] at e
    refine wp_block ?_
    cases hx : absCode E nt n jump b st with
    | none => rw [hx] at e; cases e
    | some r1 =>
      obtain ⟨ex, st1⟩ := r1
      rw [hx] at e
      refine ih _ _ hx M V a w R f _ (fun M' V' a' w' R' f' X' => ?_)
      cases ex with
      | normal => simp only [Option.some.injEq] at e; subst e; exact hq M' V' a' w' R' f' X'
      | exit i =>
        simp only [Option.some.injEq] at e; subst e
        have := hq M' V' a' w' R' f' X'
        show Exit.inBlock id Q (.exit i) a' w'
        simp only [Exit.inBlock]
        by_cases h : i = id
        · simp only [if_pos h] at this ⊢; exact this
        · simp only [if_neg h] at this ⊢; exact this
      | goto i => simp only [Option.some.injEq] at e; subst e; exact hq M' V' a' w' R' f' X'
      | ret => simp only [Option.some.injEq] at e; subst e; exact hq M' V' a' w' R' f' X'
  | loop b ih =>
    intro st r e
    simp only [absCode] at e
    exact iter_sound (fun st r h => ih st r h) e
  | scope b ih =>
    intro st r e M V a w R f Q hq
    simp only [absCode] at e
    refine wp_scope_any ?_
    cases hx : absCode E nt n jump b st with
    | none => rw [hx] at e; cases e
    | some r1 =>
      rw [hx] at e
      refine ih _ _ hx M V a w R f _ (fun M' V' a' w' R' f' X' => ?_)
      exact scoped_sound hj n e M V w M' V' a' w' R' f' X' Q hq
  | _ =>
    intro st r e
    simp [absCode] at e

theorem absRun_sound (hE : SoundCall E.P E.glob E.call) (hm : E.P.follows .mixedOrders = true) {nt n : Nat} : ∀ (d : Nat) (c : Code) (st : St) (r : AExit × St), absRun E nt n d c st = some r → RunOk E G nt c st r
  | 0, _, _, _, e => by cases e
  | d + 1, c, st, r, e => absCode_sound hE hm (absRun_sound hE hm d) c st r e

end
end Go.Proofs.Ytbfdokfelolmbaa.Vai
end

section
namespace Go.Proofs.Ytbfdokfelolmbaa.Vai

section
variable {E : Env} {P : Program} {G : Nat → Prop} {M : Mem} {V : Val} {H : HR} {w : World} {a : Act}

/-! Bodies. -/

theorem at_inRen {m k s : Nat} {r : Nat × Nat} (e : (inRen m).at k s = some r) : k < m ∧ s = k ∧ r = (K0 + k, k) := by
  unfold inRen at e
  have gen : ∀ (l : List Nat), Ren.at (l.map fun i => ((i, i), (K0 + i, i))) k s = some r → k ∈ l ∧ s = k ∧ r = (K0 + k, k) := by
    intro l
    induction l with
    | nil => intro e; simp [Ren.at] at e
    | cons x l ih =>
      intro e2
      simp only [List.map_cons, Ren.at] at e2
      split at e2
      · rename_i hc
        obtain ⟨rfl, rfl⟩ := hc
        rw [Option.some.injEq] at e2
        exact ⟨by simp, rfl, e2.symm⟩
      · obtain ⟨h1, h2, h3⟩ := ih e2
        exact ⟨List.mem_cons_of_mem _ h1, h2, h3⟩
  obtain ⟨h1, h2, h3⟩ := gen _ e
  exact ⟨by simpa using h1, h2, h3⟩

theorem hget_enter (σ : Ren) (blks : List Blk) (j : Nat) : (∃ i : Nat, ∃ b, blks[i]? = some b ∧ j = K0 + i ∧ hget (blks.zipIdx.map fun (b, i) => (K0 + i, (i, renB σ b))) j = (i, renB σ b)) ∨
    ((∀ i : Nat, i < blks.length → j ≠ K0 + i) ∧ hget (blks.zipIdx.map fun (b, i) => (K0 + i, (i, renB σ b))) j = noSlot) := by
  have gen : ∀ (l : List Blk) (n : Nat), (∃ i : Nat, ∃ b, l[i]? = some b ∧ j = K0 + (i + n) ∧ hget ((l.zipIdx n).map fun (b, i) => (K0 + i, (i, renB σ b))) j = (i + n, renB σ b)) ∨
      ((∀ i : Nat, i < l.length → j ≠ K0 + (i + n)) ∧ hget ((l.zipIdx n).map fun (b, i) => (K0 + i, (i, renB σ b))) j = noSlot) := by
    intro l
    induction l with
    | nil => intro n; exact .inr ⟨fun i hi => by simp at hi, rfl⟩
    | cons x l ih =>
      intro n
      simp only [List.zipIdx_cons, List.map_cons, hget]
      by_cases e : K0 + n = j
      · rw [if_pos e]
        exact .inl ⟨0, x, rfl, by omega, by simp⟩
      · rw [if_neg e]
        rcases ih (n + 1) with ⟨i, b, h1, h2, h3⟩ | ⟨h1, h2⟩
        · exact .inl ⟨i + 1, b, by simpa using h1, by omega, by rw [h3, show i + (n + 1) = i + 1 + n by omega]⟩
        · refine .inr ⟨fun i hi => ?_, h2⟩
          cases i with
          | zero => omega
          | succ i => have := h1 i (by simpa using hi); omega
  rcases gen blks 0 with ⟨i, b, h1, h2, h3⟩ | ⟨h1, h2⟩
  · exact .inl ⟨i, b, h1, by simpa using h2, by simpa using h3⟩
  · exact .inr ⟨fun i hi => by have := h1 i hi; simpa using this, h2⟩

theorem enter_rel (hgl : GlobOk E.glob M) {args : List AV} {blks : List Blk} {vs : List Value} {nt : Nat} (R : Mrel G M V (canon blks) w) (r : RepL M V args vs) (hnt : args.length ≤ nt) :
    Rel E G M V nt (enterSt args blks).F (enterSt args blks).h { tmps := (⟨vs⟩ : Array Value) ++ Array.replicate (nt - (⟨vs⟩ : Array Value).size) undef, defers := [] } w := by
  have hσ : ∀ k s k' s', (inRen blks.length).at k s = some (k', s') → ∀ bi, V s = some bi → V s' = some bi := by
    intro k s k' s' e bi hv
    obtain ⟨_, h2, h3⟩ := at_inRen e
    simp only [Prod.mk.injEq] at h3
    rw [h3.2, ← h2]; exact hv
  have rl := renL_rep hσ r
  have canonB : ∀ i b, blks[i]? = some b → canon blks i = (i, b) := by
    intro i b h
    unfold canon; rw [h]
  have eh : (enterSt args blks).h = hget (blks.zipIdx.map fun (b, i) => (K0 + i, (i, renB (inRen blks.length) b))) := rfl
  rw [eh]
  refine ⟨⟨R.mem, ?_, ?_, R.gsz, R.vsz⟩, hgl, ?_, ?_, rfl⟩
  · intro k
    rcases hget_enter (inRen blks.length) blks k with ⟨i, b, h1, _, h3⟩ | ⟨_, h2⟩
    · rw [h3]
      have hb := R.blk i
      rw [canonB i b h1] at hb
      exact ren_blk hσ (fun bi _ hv => hv) (fun bi _ _ hg => hg) rfl hb
    · rw [h2]; trivial
  · intro k1 k2 b1 b2 hne l1 l2 v1 v2
    rcases hget_enter (inRen blks.length) blks k1 with ⟨i1, c1, h1, j1, q1⟩ | ⟨_, q1⟩
    · rcases hget_enter (inRen blks.length) blks k2 with ⟨i2, c2, h2, j2, q2⟩ | ⟨_, q2⟩
      · rw [q1] at l1 v1
        rw [q2] at l2 v2
        simp only [live_renB] at l1 l2
        have g1 := canonB _ _ h1
        have g2 := canonB _ _ h2
        exact R.dist i1 i2 b1 b2 (fun e => hne (by rw [j1, j2, e])) (by rw [g1]; exact l1) (by rw [g2]; exact l2) (by rw [g1]; exact v1) (by rw [g2]; exact v2)
      · rw [q2] at l2; simp [noSlot, Blk.live] at l2
    · rw [q1] at l1; simp [noSlot, Blk.live] at l1
  · have := r.1
    simp; omega
  · intro i
    have ef : (enterSt args blks).F i = (renAs (inRen blks.length) args)[i]?.getD .dead := by
      have hl : (renAs (inRen blks.length) args).length = args.length := by rw [renAs_eq]; simp
      show (Fr.lay (renAs (inRen blks.length) args) 0 .nil).get i = _
      rw [Fr.get_lay]
      by_cases h : 0 ≤ i ∧ i < 0 + (renAs (inRen blks.length) args).length
      · rw [if_pos h]; rfl
      · rw [if_neg h, List.getElem?_eq_none (by omega)]; rfl
    rw [ef]
    by_cases hi : i < (renAs (inRen blks.length) args).length
    · right
      have hi2 : i < vs.length := by rw [← rl.1]; exact hi
      refine ⟨vs[i], ?_, ?_⟩
      · simp [Array.getElem?_append, hi2]
      · rw [List.getElem?_eq_getElem hi]
        exact rl.2 i hi hi2
    · left
      rw [List.getElem?_eq_none (by omega)]; rfl

theorem resultA_sound {nt : Nat} {fr : Fr} (R : Rel E G M V nt fr.get H a w) : ∀ (rs : List ResultVar) (l : List AV), resultA.go E.P fr H rs = some l →
    ∃ xs : List Value, (rs.mapM (fun
      | .tmp t => pure (a.tmps.getD t undef)
      | .cell c t => do loadVar t (← asAddr (a.tmps.getD c undef)) : ResultVar → Sem Value)).run E.P w = .ok xs w ∧ RepL M V l xs
  | [], l, e => by
    simp only [resultA.go, Option.some.injEq] at e; subst e
    exact ⟨[], by simp, RepL.nil⟩
  | .tmp t :: rs, l, e => by
    simp only [resultA.go] at e
    split at e
    · rename_i l' hl
      obtain ⟨xs, hx, rx⟩ := resultA_sound R rs l' hl
      split at e
      · cases e
      · rename_i v hv
        simp only [Option.some.injEq] at e; subst e
        rcases R.frame t with h | ⟨x, h1, h2⟩
        · exact absurd h hv
        · refine ⟨x :: xs, ?_, RepL.cons h2 rx⟩
          have : a.tmps.getD t undef = x := by simp [h1]
          simp only [List.mapM_cons, Sem.run_bind, Sem.run_pure, Result.andThen_ok, hx, this]
    · cases e
  | .cell c t :: rs, l, e => by
    simp only [resultA.go] at e
    split at e
    · rename_i l' y hl hy
      simp only [Option.some.injEq] at e; subst e
      obtain ⟨xs, hx, rx⟩ := resultA_sound R rs l' hl
      rcases R.frame c with h | ⟨x, h1, h2⟩
      · rw [h] at hy; simp [loadA, cellsAt] at hy
      · obtain ⟨ad, z, hz, hrun, rz⟩ := load_run R.mr (fun _ => .inl rfl) hy h2
        refine ⟨z :: xs, ?_, RepL.cons rz rx⟩
        have : a.tmps.getD c undef = .pointer (some ad) := by simp [h1, hz]
        have hl2 : (do loadVar t (← asAddr (a.tmps.getD c undef)) : Sem Value).run E.P w = .ok z w := by rw [this]; simp [asAddr, hrun]
        simp only [List.mapM_cons]
        rw [Sem.run_bind, hl2]
        simp only [Result.andThen_ok, Sem.run_bind, hx, Sem.run_pure]
    · cases e

theorem pack_rep {l : List AV} {xs : List Value} (r : RepL M V l xs) : RepA M V (packA l) (if h : (⟨xs⟩ : Array Value).size = 1 then (⟨xs⟩ : Array Value)[0] else .tuple ⟨xs⟩) := by
  match l, xs, r with
  | [], [], r => exact .tup [] [] rfl (fun i h1 => by simp at h1)
  | [v], [x], r => exact r.2 0 (by simp) (by simp)
  | v1 :: v2 :: l, x1 :: x2 :: xs, r =>
    rw [dif_neg (by simp)]
    exact .tup _ _ r.1 r.2
  | [], _ :: _, r => exact absurd r.1 (by simp)
  | [_], [], r => exact absurd r.1 (by simp)
  | [_], _ :: _ :: _, r => exact absurd r.1 (by simp)
  | _ :: _ :: _, [], r => exact absurd r.1 (by simp)
  | _ :: _ :: _, [_], r => exact absurd r.1 (by simp)

theorem reach_prefix : ∀ (n : Nat) (h : HR) (l acc : List Nat), ∃ r, reach n h l acc = acc ++ r
  | 0, _, _, acc => ⟨[], by simp [reach]⟩
  | n + 1, h, [], acc => ⟨[], by simp [reach]⟩
  | n + 1, h, k :: r, acc => by
    simp only [reach]
    split
    · exact reach_prefix n h r acc
    · obtain ⟨r2, e⟩ := reach_prefix n h (keysB (h k).2 ++ r) (acc ++ [k])
      exact ⟨k :: r2, by rw [e]; simp⟩

theorem nodup_snoc : ∀ {l : List Nat} {k : Nat}, nodup l = true → l.contains k = false → nodup (l ++ [k]) = true
  | [], k, _, _ => rfl
  | x :: l, k, h, hk => by
    simp only [nodup, Bool.and_eq_true, Bool.not_eq_true', List.contains_cons, Bool.or_eq_false_iff, List.cons_append] at h hk ⊢
    refine ⟨?_, nodup_snoc h.2 hk.2⟩
    have h1 := h.1
    have h2 := hk.1
    simp only [List.contains_eq_mem, decide_eq_false_iff_not, beq_eq_false_iff_ne] at h1 h2 ⊢
    intro hm
    rcases List.mem_append.1 hm with h3 | h3
    · exact h1 h3
    · simp at h3; exact h2 h3.symm

theorem reach_nodup : ∀ (n : Nat) (h : HR) (l acc : List Nat), nodup acc = true → nodup (reach n h l acc) = true
  | 0, _, _, acc, hn => hn
  | n + 1, h, [], acc, hn => hn
  | n + 1, h, k :: r, acc, hn => by
    simp only [reach]
    split
    · exact reach_nodup n h r acc hn
    · rename_i hc
      exact reach_nodup n h _ _ (nodup_snoc hn (by simpa using hc))

theorem passed_nodup (m : Nat) : nodup ((List.range m).map (K0 + ·)) = true := by
  induction m with
  | zero => rfl
  | succ m ih =>
    rw [List.range_succ, List.map_append]
    refine nodup_snoc ih ?_
    simp

theorem packA_ren (σ : Ren) {l : List AV} : packA (renAs σ l) = match l with
    | [v] => renA σ v
    | l => .tup (renAs σ l) := by
  match l with
  | [] => rfl
  | [v] => rfl
  | _ :: _ :: _ => rfl

theorem finish_sound {nt m : Nat} {f : FuncId} {fn : Func} {st : St} {r : AV} {outs : Outs} (R : Rel E G M V nt st.F st.h a w) (e : finish E f m fn st = some (r, outs)) :
    ∃ x M' V', (results fn a.tmps).run E.P w = .ok x w ∧ Mrel G M' V' (canon (outs.map (·.1))) w ∧ Ext G M V w M' V w ∧ RepA M' V' r x ∧ m ≤ outs.length ∧ ∀ i o, i < m → outs[i]? = some o → o.2 = false → V' i = V i := by
  unfold finish at e
  split at e
  · cases e
  · rename_i rs0 hrs0
    have hgo : resultA.go E.P st.fr st.h fn.results.toList = some rs0 := hrs0
    obtain ⟨xs, hrun, rxs⟩ := resultA_sound (fr := st.fr) R _ _ hgo
    simp only at e
    split at e
    · cases e
    · rename_i rs fz hseal
      simp only [Option.some.injEq, Prod.mk.injEq] at e
      obtain ⟨rfl, rfl⟩ := e
      have hsd : ∃ M', Mrel G M' V (upH st.h (frzUps st.h fz)) w ∧ Ext G M V w M' V w ∧ RepL M' V rs xs := by
        split at hseal
        · simp only [Option.some.injEq, Prod.mk.injEq] at hseal
          obtain ⟨rfl, rfl⟩ := hseal
          exact ⟨M, R.mr, .refl, rxs⟩
        · obtain ⟨M', R', X', r'⟩ := sealArgs_all R.mr (fun _ => .inl rfl) hseal rxs
          exact ⟨M', R', X', r' V⟩
      obtain ⟨M', R', X', rrs⟩ := hsd
      generalize hh : upH st.h (frzUps st.h fz) = h at R' ⊢
      generalize hkeys : reach room h (((List.range m).map (K0 + ·)).flatMap (fun k => keysB (h k).2) ++ keysAs rs) ((List.range m).map (K0 + ·)) = keys
      have hnd : nodup keys = true := by rw [← hkeys]; exact reach_nodup _ _ _ _ (passed_nodup m)
      have hlen : m ≤ keys.length := by
        obtain ⟨q, hq⟩ := reach_prefix room h (((List.range m).map (K0 + ·)).flatMap (fun k => keysB (h k).2) ++ keysAs rs) ((List.range m).map (K0 + ·))
        rw [hkeys] at hq
        rw [hq]; simp
      let V' : Val := fun i => match keys[i]? with | some k => V (h k).1 | none => none
      have hσ : ∀ k s k' s', (toRen h keys).at k s = some (k', s') → ∀ bi, V s = some bi → V' s' = some bi := by
        intro k s k' s' e bi hv
        obtain ⟨i, hi, h1, h2, h3⟩ := at_toRen e
        simp only [Prod.mk.injEq] at h3
        obtain ⟨_, rfl⟩ := h3
        show (match keys[s']? with | some k => V (h k).1 | none => none) = some bi
        rw [List.getElem?_eq_getElem hi, h1]
        show V (h k).1 = some bi
        rw [h2]; exact hv
      have hcan : ∀ j, canon ((keys.zipIdx.map fun (k, i) => (renB (toRen h keys) (h k).2, if i < m then (h k).1 != i else true)).map (·.1)) j = match keys[j]? with | some k => (j, renB (toRen h keys) (h k).2) | none => noSlot := by
        intro j
        unfold canon
        simp only [List.getElem?_map, List.getElem?_zipIdx]
        cases keys[j]? <;> simp
      refine ⟨(if h : (⟨xs⟩ : Array Value).size = 1 then (⟨xs⟩ : Array Value)[0] else .tuple ⟨xs⟩), M', V', ?_, ⟨R'.mem, ?_, ?_, R'.gsz, ?_⟩, X', ?_, by simpa using hlen, ?_⟩
      · unfold results
        rw [Array.mapM_eq_mapM_toList]
        simp only [map_eq_pure_bind, bind_assoc, pure_bind, Sem.run_bind, Sem.run_pure]
        exact congrArg (fun q => q.andThen fun (z : List Value) w' => Result.ok (if h : z.toArray.size = 1 then z.toArray[0] else Value.tuple z.toArray) w') hrun
      · intro j
        rw [hcan]
        cases hk : keys[j]? with
        | none => trivial
        | some k =>
          refine ren_blk hσ (fun bi _ hv => ?_) (fun bi _ _ hg => hg) rfl (R'.blk k)
          show (match keys[j]? with | some k => V (h k).1 | none => none) = some bi
          rw [hk]; exact hv
      · intro j1 j2 b1 b2 hne l1 l2 v1 v2
        rw [hcan] at l1 l2 v1 v2
        cases hk1 : keys[j1]? with
        | none => rw [hk1] at l1; simp [noSlot, Blk.live] at l1
        | some k1 =>
          cases hk2 : keys[j2]? with
          | none => rw [hk2] at l2; simp [noSlot, Blk.live] at l2
          | some k2 =>
            rw [hk1] at l1 v1
            rw [hk2] at l2 v2
            simp only [live_renB] at l1 l2 v1 v2
            have e1 : V (h k1).1 = some b1 := by
              have : V' j1 = V (h k1).1 := by show (match keys[j1]? with | some k => V (h k).1 | none => none) = _; rw [hk1]
              rw [← this]; exact v1
            have e2 : V (h k2).1 = some b2 := by
              have : V' j2 = V (h k2).1 := by show (match keys[j2]? with | some k => V (h k).1 | none => none) = _; rw [hk2]
              rw [← this]; exact v2
            refine R'.dist k1 k2 b1 b2 (fun e => hne ?_) l1 l2 e1 e2
            obtain ⟨i1, q1⟩ := List.getElem?_eq_some_iff.1 hk1
            obtain ⟨i2, q2⟩ := List.getElem?_eq_some_iff.1 hk2
            exact nodup_spec hnd j1 j2 i1 i2 (by rw [q1, q2, e])
      · intro i bi hv
        have : (match keys[i]? with | some k => V (h k).1 | none => none) = some bi := hv
        split at this
        · exact R'.vsz _ _ this
        · cases this
      · exact pack_rep (renL_rep hσ rrs)
      · intro i o hi ho hc
        simp only [List.getElem?_map, List.getElem?_zipIdx] at ho
        cases hk : keys[i]? with
        | none => rw [hk] at ho; simp at ho
        | some k =>
          rw [hk] at ho
          simp only [Option.map_some, Option.some.injEq, Nat.zero_add] at ho
          subst ho
          simp only [if_pos hi, bne_eq_false_iff_eq] at hc
          show (match keys[i]? with | some k => V (h k).1 | none => none) = V i
          rw [hk]
          show V (h k).1 = V i
          rw [hc]

/-- A function's body. -/
theorem body_sound (hE : SoundCall E.P E.glob E.call) (hm : E.P.follows .mixedOrders = true) {n : Nat} {f : FuncId} {fn : Func} {args : List AV} {blks : List Blk} {r : AV} {outs : Outs} (hf : E.P.funcs[f]? = some fn) (e : absBody E n f fn args blks = some (r, outs)) : CallSpec E.P E.glob f args blks r outs := by
  intro G M V w vs hgl R rl hV hV2
  unfold absBody at e
  split at e
  · cases e
  · rename_i c hb
    split at e
    · rename_i hnt
      have R0 := enter_rel hgl R rl hnt
      have hf0 : ∀ j, V j ≠ none → j < (enterSt args blks).nx := by
        intro j hj
        show j < blks.length
        rcases Nat.lt_or_ge j blks.length with h | h
        · exact h
        · exact absurd (hV j h) hj
      refine calls_of_wp hf hb ?_
      have key : ∀ {st : St} {M' : Mem} {V' : Val} {a' : Act} {w' : World}, finish E f blks.length fn st = some (r, outs) → Rel E G M' V' fn.ntmps st.F st.h a' w' → Ext G M V w M' V' w' →
          a'.defers = [] ∧ ∃ v, (results fn a'.tmps).run E.P w' = .ok v w' ∧ ∃ x M' V', Ending.returned v = .returned x ∧ Mrel G M' V' (canon (outs.map (·.1))) w' ∧ MSub M M' ∧ (∀ b, b < w.heap.size → G b → ∀ o, M' b o = M b o) ∧ Out G w w' ∧ RepA M' V' r x ∧
            blks.length ≤ outs.length ∧ ∀ i o, i < blks.length → outs[i]? = some o → o.2 = false → V' i = V i := by
        intro st M' V' a' w' hfin R' X'
        obtain ⟨x, M2, V2, h1, h2, h3, h4, h5, h6⟩ := finish_sound R' hfin
        have X2 := X'.trans h3
        refine ⟨R'.defers, x, h1, x, M2, V2, rfl, h2, X2.m, X2.mg, X2.out, h4, h5, fun i o hi ho hc => ?_⟩
        obtain ⟨bi, hb⟩ := hV2 i hi
        rw [h6 i o hi ho hc, X'.v _ _ hb, hb]
      split at e
      · rename_i st hrun
        exact absRun_sound hE hm _ _ _ _ hrun M V _ w R0 hf0 _ (fun M' V' a' w' R' _ X' => key e R' X')
      · rename_i st hrun
        exact absRun_sound hE hm _ _ _ _ hrun M V _ w R0 hf0 _ (fun M' V' a' w' R' _ X' => key e R' X')
      · cases e
    · cases e

end
end Go.Proofs.Ytbfdokfelolmbaa.Vai
end

section
namespace Go.Proofs.Ytbfdokfelolmbaa.Vai

/-! The tie. -/

theorem body_call {B : Base} {c : Call} (hm : B.P.follows .mixedOrders = true) (hc : SoundCall B.P B.glob c) (hext : ∀ f g, B.ext f = some g → ∀ args blks r outs, g args blks = some (r, outs) → CallSpec B.P B.glob f args blks r outs) (n : Nat) : SoundCall B.P B.glob (callF B c n) := by
  intro f args blks r outs e
  unfold callF at e
  split at e
  · rename_i g hg
    exact hext f g hg _ _ _ _ e
  · split at e
    · rename_i fn hf
      exact body_sound (E := B.env c) hc hm hf e
    · cases e

theorem absCall_sound {B : Base} (hm : B.P.follows .mixedOrders = true) (hext : ∀ f g, B.ext f = some g → ∀ args blks r outs, g args blks = some (r, outs) → CallSpec B.P B.glob f args blks r outs) : ∀ n, SoundCall B.P B.glob (absCall B n)
  | 0 => fun _ _ _ _ _ e => by cases e
  | n + 1 => body_call hm (absCall_sound hm hext n) hext n

/-- What stands in memory and is not written to any more. -/
def Holds (M : Mem) (w : World) : Prop := ∀ b o v, M b o = some v → w.cell? ⟨b, o, none⟩ = some v ∧ cellV v = true

/-- A call from outside. -/
theorem CallSpec.calls {P : Program} {glob : Nat → Option (List SV)} {f : FuncId} {args : List AV} {r : AV} {outs : Outs} (h : CallSpec P glob f args [] r outs) {M : Mem} {w : World} {vs : List Value} (hgl : GlobOk glob M) (hM : Holds M w) (hr : RepL M (fun _ => none) args vs) :
    Calls P f ⟨vs⟩ w fun e w' => ∃ x M' V', e = .returned x ∧ Holds M' w' ∧ MSub M M' ∧ RepA M' V' r x ∧ Out (fun b => b < w.heap.size) w w' := by
  refine (h (fun b => b < w.heap.size) M (fun _ => none) w vs hgl ⟨hM, fun k => ?_, fun k1 k2 b1 b2 _ _ _ v1 => (by cases v1), fun b hb => hb, fun s bi hv => (by cases hv)⟩ hr (fun _ _ => rfl) (fun s hs => by simp at hs)).mono ?_
  · show BlkRel _ M _ w (canon [] k).1 (canon [] k).2
    unfold canon
    simp only [List.getElem?_nil]
    trivial
  · rintro e w' ⟨x, M', V', he, R', hs, _, ho, rr, _⟩
    exact ⟨x, M', V', he, R'.mem, hs, rr, ho⟩

end Go.Proofs.Ytbfdokfelolmbaa.Vai
end
