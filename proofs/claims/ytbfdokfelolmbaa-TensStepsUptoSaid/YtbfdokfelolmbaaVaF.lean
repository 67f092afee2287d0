import Derived.Test.YtbfdokfelolmbaaVaE
/-
  Walking the interpreter with unknown values.
-/
set_option linter.all false
section
namespace Go.Proofs.Ytbfdokfelolmbaa.Vai

/-! Walking the interpreter with unknown values. -/

/-- A run that ends, and how. -/
def Ends (r : Option (AExit × St)) (Q : AExit → St → Prop) : Prop := ∃ e st, r = some (e, st) ∧ Q e st

section
variable {E : Env} {nt n : Nat} {jump : Code → St → Option (AExit × St)} {Q : AExit → St → Prop} {st : St}

theorem Ends.mono {r : Option (AExit × St)} {Q' : AExit → St → Prop} (h : Ends r Q) (hq : ∀ e st, Q e st → Q' e st) : Ends r Q' :=
  let ⟨e, st, h1, h2⟩ := h; ⟨e, st, h1, hq _ _ h2⟩

theorem ends_some {e : AExit} : Ends (some (e, st)) Q ↔ Q e st := ⟨fun ⟨_, _, h1, h2⟩ => by cases h1; exact h2, fun h => ⟨e, st, rfl, h⟩⟩
theorem ends_none : ¬ Ends none Q := fun ⟨_, _, h, _⟩ => by cases h

theorem ends_skip : Ends (absCode E nt n jump .skip st) Q ↔ Q .normal st := ends_some
theorem ends_ret : Ends (absCode E nt n jump .ret st) Q ↔ Q .ret st := ends_some
theorem ends_exit {i : Nat} : Ends (absCode E nt n jump (.exit i) st) Q ↔ Q (.exit i) st := ends_some

def thenQ (K : St → Prop) (Q : AExit → St → Prop) : AExit → St → Prop
  | .normal, st => K st
  | e, st => Q e st

theorem ends_seq {a b : Code} : Ends (absCode E nt n jump (.seq a b) st) Q ↔ Ends (absCode E nt n jump a st) (thenQ (fun st => Ends (absCode E nt n jump b st) Q) Q) := by
  simp only [absCode]
  cases h : absCode E nt n jump a st with
  | none => exact ⟨fun h => (ends_none h).elim, fun h => (ends_none h).elim⟩
  | some r =>
    obtain ⟨e, st'⟩ := r
    cases e <;> simp only [ends_some, thenQ]

def inQ (id : Nat) (Q : AExit → St → Prop) : AExit → St → Prop
  | .exit i, st => if i = id then Q .normal st else Q (.exit i) st
  | e, st => Q e st

theorem ends_block {id : Nat} {b : Code} : Ends (absCode E nt n jump (.block id b) st) Q ↔ Ends (absCode E nt n jump b st) (inQ id Q) := by
  simp only [absCode]
  cases h : absCode E nt n jump b st with
  | none => exact ⟨fun h => (ends_none h).elim, fun h => (ends_none h).elim⟩
  | some r =>
    obtain ⟨e, st'⟩ := r
    cases e <;> simp only [ends_some, inQ]
    split <;> rfl

theorem thenQ_normal {K : St → Prop} : thenQ K Q .normal st = K st := rfl
theorem thenQ_ret {K : St → Prop} : thenQ K Q .ret st = Q .ret st := rfl
theorem thenQ_exit {K : St → Prop} {i : Nat} : thenQ K Q (.exit i) st = Q (.exit i) st := rfl
theorem inQ_normal {id : Nat} : inQ id Q .normal st = Q .normal st := rfl
theorem inQ_ret {id : Nat} : inQ id Q .ret st = Q .ret st := rfl
theorem inQ_exit {id i : Nat} : inQ id Q (.exit i) st = if i = id then Q .normal st else Q (.exit i) st := rfl

theorem ends_cond {c : Operand} {a b : Code} {t : Bool} (h : evA E.glob st.F c = .s (.bool t)) : Ends (absCode E nt n jump (.cond c a b) st) Q ↔ (t = true → Ends (absCode E nt n jump a st) Q) ∧ (t = false → Ends (absCode E nt n jump b st) Q) := by
  simp only [absCode, h]
  cases t <;> simp

/-- The operations of a region one by one. -/
def RegT (E : Env) (nt : Nat) (ops : Array Oper) : List Oper → Nat → St → (St → Prop) → Prop
  | [], _, st, K => K st
  | o :: r, i, st, K => match opA E ops st.F st.h (st.nx + room * i) o with
    | some (v, ups) => match putA nt st.fr o.dst v with
      | some fr => RegT E nt ops r (i + 1) { st with fr, hp := upHp st.hp ups } K
      | none => False
    | none => False

theorem steps_opsA {ops : Array Oper} : ∀ (l : List Oper) (i : Nat) (st : St) (K : St → Prop), (∀ j o, l[j]? = some o → ops[i + j]? = some o) → RegT E nt ops l i st K → ∃ st', opsA E nt ops (List.range' i l.length) st = some st' ∧ K st'
  | [], i, st, K, _, h => ⟨st, rfl, h⟩
  | o :: l, i, st, K, hl, h => by
    have h0 := hl 0 o rfl
    simp only [Nat.add_zero] at h0
    simp only [RegT] at h
    split at h
    · rename_i v ups ho
      split at h
      · rename_i fr hf
        obtain ⟨st', h1, h2⟩ := steps_opsA l (i + 1) _ K (fun j o' hj => by
          have := hl (j + 1) o' (by simpa using hj)
          rw [show i + 1 + j = i + (j + 1) by omega]; exact this) h
        refine ⟨st', ?_, h2⟩
        simp only [List.length_cons, List.range'_succ, opsA, stepA, h0, ho, hf, Option.map_some]
        exact h1
      · exact h.elim
    · exact h.elim

theorem ends_text {id : Nat} {l : List Oper} (h : RegT E nt l.toArray l 0 st fun st' => Q .normal (bump l.length st')) : Ends (absCode E nt n jump (.region id l.toArray false) st) Q := by
  obtain ⟨st', h1, h2⟩ := steps_opsA (ops := l.toArray) l 0 st _ (fun j o hj => by simpa using hj) h
  refine ⟨.normal, bump l.length st', ?_, h2⟩
  simp only [absCode, Bool.false_eq_true, if_false, List.range_eq_range', List.size_toArray]
  rw [h1]

/-- The same for a region whose order is drawn, its feet kept. -/
def RegD (E : Env) (nt : Nat) (ops : Array Oper) : List Oper → Nat → St → (List Foot → St → Prop) → Prop
  | [], _, st, K => K [] st
  | o :: r, i, st, K => match opA E ops st.F (only st.h (reach room st.h (opKeys (evA E.glob st.F) o) [])) (st.nx + room * i) o with
    | some (v, ups) => match putA nt st.fr o.dst v with
      | some fr => RegD E nt ops r (i + 1) { st with fr, hp := upHp st.hp ups } fun fs st' => K (⟨reach room st.h (opKeys (evA E.glob st.F) o) [], ups.map (·.1)⟩ :: fs) st'
      | none => False
    | none => False

theorem steps_opsD {ops : Array Oper} : ∀ (l : List Oper) (i : Nat) (st : St) (K : List Foot → St → Prop), (∀ j o, l[j]? = some o → ops[i + j]? = some o) → RegD E nt ops l i st K → ∃ st' fs, opsD E nt ops (List.range' i l.length) st = some (st', fs) ∧ K fs st'
  | [], i, st, K, _, h => ⟨st, [], rfl, h⟩
  | o :: l, i, st, K, hl, h => by
    have h0 := hl 0 o rfl
    simp only [Nat.add_zero] at h0
    simp only [RegD] at h
    split at h
    · rename_i v ups ho
      split at h
      · rename_i fr hf
        obtain ⟨st', fs, h1, h2⟩ := steps_opsD l (i + 1) _ _ (fun j o' hj => by
          have := hl (j + 1) o' (by simpa using hj)
          rw [show i + 1 + j = i + (j + 1) by omega]; exact this) h
        refine ⟨st', _, ?_, h2⟩
        simp only [List.length_cons, List.range'_succ, opsD, stepD, h0, ho, hf, Option.map_some]
        rw [h1]
      · exact h.elim
    · exact h.elim

theorem ends_draw {id : Nat} {l : List Oper} (h : RegD E nt l.toArray l 0 st fun fs st' => allOk l.toArray fs = true ∧ Q .normal (bump l.length st')) : Ends (absCode E nt n jump (.region id l.toArray true) st) Q := by
  obtain ⟨st', fs, h1, h2, h3⟩ := steps_opsD (ops := l.toArray) l 0 st _ (fun j o hj => by simpa using hj) h
  refine ⟨.normal, bump l.length st', ?_, h3⟩
  simp only [absCode, if_true, List.range_eq_range', List.size_toArray]
  rw [h1]
  simp only [h2, if_true]

/-- A loop: what holds at each round's head, with how many rounds are still to come at most. -/
theorem ends_loop {b : Code} (I : Nat → St → Prop) {m : Nat} (hm : m < n) (h0 : I m st)
    (round : ∀ k st, I k st → Ends (absCode E nt n jump b st) (thenQ (fun st' => ∃ k', k' < k ∧ I k' st') Q)) : Ends (absCode E nt n jump (.loop b) st) Q := by
  simp only [absCode]
  have key : ∀ f k st, k < f → I k st → Ends (iter (fun s => absCode E nt n jump b s) f st) Q := by
    intro f
    induction f with
    | zero => intro k st h; omega
    | succ f ih =>
      intro k st hk hi
      obtain ⟨e, st', h1, h2⟩ := round k st hi
      simp only [iter, h1]
      cases e with
      | normal =>
        obtain ⟨k', hlt, hi'⟩ := h2
        exact ih k' st' (by omega) hi'
      | exit i => exact ⟨_, _, rfl, h2⟩
      | goto i => exact ⟨_, _, rfl, h2⟩
      | ret => exact ⟨_, _, rfl, h2⟩
  exact key n m st hm h0

end
end Go.Proofs.Ytbfdokfelolmbaa.Vai
end

section
namespace Go.Proofs.Ytbfdokfelolmbaa.Vai

section
variable {E : Env} {nt n : Nat} {jump : Code → St → Option (AExit × St)} {Q : AExit → St → Prop} {st : St} {ops : Array Oper} {F : Nat → AV} {h : HR} {s : Nat} {d : Option Tmp} {ty : TypeId} {pos : String} {af : Array Edge} {ρ : Operand → AV} {k : Nat}

/-! What each operation comes to, by its form. -/
theorem opA_go {op : Op} : opA E ops F h s ⟨d, op, ty, pos, af, none⟩ = absOp E (evA E.glob F) h (d.getD 65535) s ⟨d, op, ty, pos, af, none⟩ := rfl

theorem absOp_move {x : Operand} {g : Option (Nat × Bool)} : absOp E ρ h k s ⟨d, .move x, ty, pos, af, g⟩ = some (ρ x, []) := rfl
theorem absOp_assign {x : Operand} {g : Option (Nat × Bool)} : absOp E ρ h k s ⟨d, .assign x, ty, pos, af, g⟩ = some (ρ x, []) := rfl
def orSlow (x : Option SV) (y : Option (AV × List Up)) : Option (AV × List Up) := match x with
  | some v => some (.s v, [])
  | none => y
theorem orSlow_some {v : SV} {y : Option (AV × List Up)} : orSlow (some v) y = some (.s v, []) := rfl
theorem orSlow_none {y : Option (AV × List Up)} : orSlow none y = y := rfl
theorem absOp_bin {op : BinOp} {t t' : TypeId} {x y : Operand} {g : Option (Nat × Bool)} : absOp E ρ h k s ⟨d, .binOp op t x y t', ty, pos, af, g⟩ = orSlow (binA op (ρ x) (ρ y)) (slowOp E ρ h k s ⟨d, .binOp op t x y t', ty, pos, af, g⟩) := by
  unfold absOp fastA orSlow; rfl
theorem absOp_index {t : TypeId} {x ix : Operand} {g : Option (Nat × Bool)} : absOp E ρ h k s ⟨d, .index t x ix, ty, pos, af, g⟩ = orSlow (fastA E.P ρ (.index t x ix)) (slowOp E ρ h k s ⟨d, .index t x ix, ty, pos, af, g⟩) := by
  unfold absOp orSlow; rfl
theorem F_eq (fr : Fr) (hp : List (Nat × Slot)) (nx : Nat) : St.F ⟨fr, hp, nx⟩ = fr.get := rfl
theorem h_eq (fr : Fr) (hp : List (Nat × Slot)) (nx : Nat) : St.h ⟨fr, hp, nx⟩ = hget hp := rfl
theorem evA_tmp {glob : Nat → Option (List SV)} {t : Nat} : evA glob F (.tmp t) = F t := rfl
theorem evA_const {glob : Nat → Option (List SV)} {c : Value} : evA glob F (.const c) = (ofV c).getD .dead := rfl

/-! The frame's turn behind a name that reckons nothing. -/
theorem put_is : ∃ p : Fr → Nat → AV → Fr, ∀ fr k v, p fr k v = fr.put k v := ⟨Fr.put, fun _ _ _ => rfl⟩
noncomputable def putC : Fr → Nat → AV → Fr := Classical.choose put_is
theorem putC_eq {fr : Fr} {k : Nat} {v : AV} : putC fr k v = fr.put k v := Classical.choose_spec put_is fr k v
theorem lay_nil {fr : Fr} {i : Nat} : Fr.lay [] i fr = fr := rfl
theorem lay_cons {fr : Fr} {i : Nat} {v : AV} {l : List AV} : Fr.lay (v :: l) i fr = Fr.lay l (i + 1) (putC fr i v) := by rw [putC_eq]; rfl
theorem putA_some {fr : Fr} {t : Nat} {v : AV} : putA nt fr (some t) v = cond (Nat.ble (t + 1) nt) (some (putC fr t v)) none := by rw [putC_eq]; rfl
theorem putA_none {fr : Fr} {v : AV} : putA nt fr none v = some fr := rfl
theorem get_put {fr : Fr} {t j : Nat} {v : AV} : (putC fr t v).get j = if t = j then v else fr.get j := by rw [putC_eq]; exact Fr.get_put

def condQ (v : AV) (a b : Prop) : Prop := match v with
  | .s (.bool t) => (t = true → a) ∧ (t = false → b)
  | _ => False
theorem condQ_bool {t : Bool} {a b : Prop} : condQ (.s (.bool t)) a b ↔ (t = true → a) ∧ (t = false → b) := Iff.rfl
theorem ends_if {c : Operand} {a b : Code} : Ends (absCode E nt n jump (.cond c a b) st) Q ↔ condQ (evA E.glob st.F c) (Ends (absCode E nt n jump a st) Q) (Ends (absCode E nt n jump b st) Q) := by
  simp only [absCode]
  unfold condQ
  split
  · rename_i h; rw [h]; simp
  · rename_i h; rw [h]; simp
  · rename_i h1 h2
    split
    · rename_i t ht
      cases t with
      | true => exact absurd ht h1
      | false => exact absurd ht h2
    · exact ⟨fun h => (ends_none h).elim, fun h => h.elim⟩

theorem regT_of {ops : Array Oper} : ∀ (l : List Oper) (i : Nat) (st st' : St) (K : St → Prop), (∀ j o, l[j]? = some o → ops[i + j]? = some o) → opsA E nt ops (List.range' i l.length) st = some st' → K st' → RegT E nt ops l i st K
  | [], i, st, st', K, _, h, hk => by
    simp only [List.length_nil, List.range'_zero, opsA, Option.some.injEq] at h
    subst h; exact hk
  | o :: l, i, st, st', K, hl, h, hk => by
    have h0 := hl 0 o rfl
    simp only [Nat.add_zero] at h0
    simp only [List.length_cons, List.range'_succ, opsA, stepA, h0] at h
    simp only [RegT]
    cases ho : opA E ops st.F st.h (st.nx + room * i) o with
    | none => rw [ho] at h; cases h
    | some p =>
      obtain ⟨v, ups⟩ := p
      rw [ho] at h
      simp only at h ⊢
      cases hf : putA nt st.fr o.dst v with
      | none => rw [hf] at h; cases h
      | some fr =>
        rw [hf] at h
        simp only [Option.map_some] at h ⊢
        exact regT_of l (i + 1) _ st' K (fun j o' hj => by
          have := hl (j + 1) o' (by simpa using hj)
          rw [show i + 1 + j = i + (j + 1) by omega]; exact this) h hk

theorem regD_of {ops : Array Oper} : ∀ (l : List Oper) (i : Nat) (st st' : St) (fs : List Foot) (K : List Foot → St → Prop), (∀ j o, l[j]? = some o → ops[i + j]? = some o) → opsD E nt ops (List.range' i l.length) st = some (st', fs) → K fs st' → RegD E nt ops l i st K
  | [], i, st, st', fs, K, _, h, hk => by
    simp only [List.length_nil, List.range'_zero, opsD, Option.some.injEq, Prod.mk.injEq] at h
    obtain ⟨rfl, rfl⟩ := h; exact hk
  | o :: l, i, st, st', fs, K, hl, h, hk => by
    have h0 := hl 0 o rfl
    simp only [Nat.add_zero] at h0
    simp only [List.length_cons, List.range'_succ, opsD, stepD, h0] at h
    simp only [RegD]
    cases ho : opA E ops st.F (only st.h (reach room st.h (opKeys (evA E.glob st.F) o) [])) (st.nx + room * i) o with
    | none => rw [ho] at h; cases h
    | some p =>
      obtain ⟨v, ups⟩ := p
      rw [ho] at h
      simp only at h ⊢
      cases hf : putA nt st.fr o.dst v with
      | none => rw [hf] at h; cases h
      | some fr =>
        rw [hf] at h
        simp only [Option.map_some] at h ⊢
        split at h
        · rename_i st2 fs2 h2
          simp only [Option.some.injEq, Prod.mk.injEq] at h
          obtain ⟨rfl, rfl⟩ := h
          exact regD_of l (i + 1) _ st2 fs2 _ (fun j o' hj => by
            have := hl (j + 1) o' (by simpa using hj)
            rw [show i + 1 + j = i + (j + 1) by omega]; exact this) h2 hk
        · cases h

theorem region_text {id : Nat} {l : List Oper} : Ends (absCode E nt n jump (.region id l.toArray false) st) Q ↔ RegT E nt l.toArray l 0 st (fun st' => Q .normal (bump l.length st')) := by
  refine ⟨fun h => ?_, ends_text⟩
  simp only [absCode, Bool.false_eq_true, if_false, List.range_eq_range', List.size_toArray] at h
  cases ho : opsA E nt l.toArray (List.range' 0 l.length) st with
  | none => rw [ho] at h; exact (ends_none h).elim
  | some st' =>
    rw [ho] at h
    exact regT_of l 0 st st' _ (fun j o hj => by simpa using hj) ho (ends_some.1 h)
theorem region_draw {id : Nat} {l : List Oper} : Ends (absCode E nt n jump (.region id l.toArray true) st) Q ↔ RegD E nt l.toArray l 0 st (fun fs st' => allOk l.toArray fs = true ∧ Q .normal (bump l.length st')) := by
  refine ⟨fun h => ?_, ends_draw⟩
  simp only [absCode, if_true, List.range_eq_range', List.size_toArray] at h
  cases ho : opsD E nt l.toArray (List.range' 0 l.length) st with
  | none => rw [ho] at h; exact (ends_none h).elim
  | some p =>
    obtain ⟨st', fs⟩ := p
    rw [ho] at h
    simp only at h
    split at h
    · rename_i hok
      exact regD_of l 0 st st' fs _ (fun j o hj => by simpa using hj) ho ⟨hok, ends_some.1 h⟩
    · exact (ends_none h).elim

/-- A body, from outside. -/
theorem body_ends {f : FuncId} {fn : Func} {c : Code} {args : List AV} {r : AV} {outs : Outs} (hb : fn.body = some c) (hn : args.length ≤ fn.ntmps) (hs : renAs [] args = args)
    (h : Ends (absCode E fn.ntmps n (absRun E fn.ntmps n n) c ⟨Fr.lay args 0 .nil, [], 0⟩) fun e st => (e = .normal ∨ e = .ret) ∧ finish E f 0 fn st = some (r, outs)) : absBody E n f fn args [] = some (r, outs) := by
  obtain ⟨e, st, h1, h2, h3⟩ := h
  unfold absBody
  rw [hb]
  simp only [if_pos hn]
  have he : enterSt args [] = ⟨Fr.lay args 0 .nil, [], 0⟩ := by
    unfold enterSt inRen
    simp only [List.length_nil, List.range_zero, List.map_nil, hs, List.zipIdx_nil]
  rw [he]
  have h4 : absRun E fn.ntmps n (n + 1) c ⟨Fr.lay args 0 .nil, [], 0⟩ = some (e, st) := h1
  rw [h4]
  rcases h2 with rfl | rfl <;> exact h3

theorem guard_none {o : Oper} (h : o.guard = none) : guardA ops F o = some true := by unfold guardA; rw [h]
/-- What an operation with a guard comes to. -/
def guarded (v : AV) (want : Bool) (x : Option (AV × List Up)) : Option (AV × List Up) := match v with
  | .s (.bool b) => if (b == want) = true then x else some (und, [])
  | .s (.flat (.tuple _)) => some (und, [])
  | _ => none
theorem opA_guard {op : Op} {j t : Nat} {want : Bool} (hj : (ops[j]?).bind (·.dst) = some t) : opA E ops F h s ⟨d, op, ty, pos, af, some (j, want)⟩ = guarded (F t) want (absOp E (evA E.glob F) h (d.getD 65535) s ⟨d, op, ty, pos, af, some (j, want)⟩) := by
  unfold opA guardA guarded
  simp only [hj]
  generalize F t = v
  split
  · rename_i h1
    split at h1
    · rename_i b
      simp only [Option.some.injEq] at h1
      simp [h1]
    · cases h1
    · cases h1
  · rename_i h1
    split at h1
    · rename_i b
      simp only [Option.some.injEq] at h1
      simp [h1]
    · rfl
    · cases h1
  · rename_i h1
    split at h1
    · cases h1
    · cases h1
    · rename_i n1 n2
      split
      · rename_i b; exact absurd rfl (n1 b)
      · rename_i l; exact absurd rfl (n2 l)
      · rfl
theorem guarded_bool {b want : Bool} {x : Option (AV × List Up)} : guarded (.s (.bool b)) want x = if (b == want) = true then x else some (und, []) := rfl
theorem guarded_und {l : Array Value} {want : Bool} {x : Option (AV × List Up)} : guarded (.s (.flat (.tuple l))) want x = some (und, []) := rfl

theorem absOp_slice {t : TypeId} {x : Operand} {lo hi mx : Option Operand} {g : Option (Nat × Bool)} : absOp E ρ h k s ⟨d, .slice t x lo hi mx, ty, pos, af, g⟩ = orSlow (fastA E.P ρ (.slice t x lo hi mx)) (slowOp E ρ h k s ⟨d, .slice t x lo hi mx, ty, pos, af, g⟩) := by
  unfold absOp orSlow; rfl
theorem absOp_un {u : UnOp} {t : TypeId} {x : Operand} {g : Option (Nat × Bool)} : absOp E ρ h k s ⟨d, .unOp u t x, ty, pos, af, g⟩ = orSlow (fastA E.P ρ (.unOp u t x)) (slowOp E ρ h k s ⟨d, .unOp u t x, ty, pos, af, g⟩) := by
  unfold absOp orSlow; rfl
theorem absOp_pick {c x y : Operand} {g : Option (Nat × Bool)} : absOp E ρ h k s ⟨d, .pick c x y, ty, pos, af, g⟩ = match ρ c with
    | .s (.bool true) => some (ρ x, [])
    | .s (.bool false) => some (ρ y, [])
    | _ => none := rfl
theorem absOp_call {c : Go.Call} {g : Option (Nat × Bool)} : absOp E ρ h k s ⟨d, .call c, ty, pos, af, g⟩ = slowOp E ρ h k s ⟨d, .call c, ty, pos, af, g⟩ := rfl
theorem absOp_extract {x : Operand} {i : Nat} {g : Option (Nat × Bool)} : absOp E ρ h k s ⟨d, .extract x i, ty, pos, af, g⟩ = match ρ x with
    | .tup l => (l[i]?).map fun x => (x, [])
    | _ => none := rfl

/-! No keys: nothing is reached. -/
theorem reach_nil {h : HR} {acc : List Nat} : ∀ {n : Nat}, reach n h [] acc = acc
  | 0 => rfl
  | _ + 1 => rfl
theorem opKeys_eq {o : Oper} : opKeys ρ o = o.op.operands.toList.flatMap fun x => keysA (ρ x) := rfl

/-- What a body hands out that has taken no block and made none. -/
theorem finish_sealed {f : FuncId} {fn : Func} {st : St} {l : List AV} (hr : resultA E.P st.fr st.h fn.results = some l) (hraw : E.raw f = false) (hl : l.all (fun v => match v with | .s (.agg _) => false | .s _ => true | _ => false) = true) : finish E f 0 fn st = some (packA l, []) := by
  have h1 : ∀ l : List AV, l.all (fun v => match v with | .s (.agg _) => false | .s _ => true | _ => false) = true → sealArgs st.h l = some (l, []) ∧ keysAs l = [] ∧ ∀ σ, renAs σ l = l := by
    intro l
    induction l with
    | nil => intro _; exact ⟨rfl, rfl, fun _ => rfl⟩
    | cons a l ih =>
      intro h
      simp only [List.all_cons, Bool.and_eq_true] at h
      obtain ⟨i1, i2, i3⟩ := ih h.2
      cases a with
      | s v =>
        cases v with
        | agg l => simp at h
        | _ => exact ⟨by simp [sealArgs, sealA, room, i1, unS], by simp [keysAs, keysA, i2], fun σ => by simp only [renAs, renA, i3]⟩
      | _ => simp at h
  obtain ⟨i1, i2, i3⟩ := h1 l hl
  unfold finish
  rw [hr]
  simp only [hraw, Bool.false_eq_true, if_false, i1]
  simp [i2, i3, reach_nil, frzUps, upH]

/-- A region whose order is drawn, that no block has to do with. -/
def RegC (E : Env) (nt : Nat) (ops : Array Oper) : List Oper → Nat → St → (St → Prop) → Prop
  | [], _, st, K => K st
  | o :: r, i, st, K => opKeys (evA E.glob st.F) o = [] ∧ match opA E ops st.F (fun _ => noSlot) (st.nx + room * i) o with
    | some (v, []) => match putA nt st.fr o.dst v with
      | some fr => RegC E nt ops r (i + 1) { st with fr } K
      | none => False
    | _ => False

theorem regC_D {ops : Array Oper} : ∀ (l : List Oper) (i : Nat) (st : St) (K : St → Prop) (K' : List Foot → St → Prop), (∀ st', K st' → K' (List.replicate l.length ⟨[], []⟩) st') → RegC E nt ops l i st K → RegD E nt ops l i st K'
  | [], i, st, K, K', hk, h => hk st h
  | o :: l, i, st, K, K', hk, h => by
    simp only [RegC] at h
    obtain ⟨h1, h2⟩ := h
    simp only [RegD, h1, reach_nil]
    have ho : only st.h [] = fun _ => noSlot := by funext k; simp [only]
    rw [ho]
    split at h2
    · rename_i v hv
      try rw [hv]
      try simp only
      split at h2
      · rename_i fr hf
        try rw [hf]
        simp only [upHp]
        exact regC_D l (i + 1) _ K _ (fun st' hk' => hk st' hk') h2
      · exact h2.elim
    · exact h2.elim

theorem region_calm {id : Nat} {l : List Oper} (hok : allOk l.toArray (List.replicate l.length ⟨[], []⟩) = true) (h : RegC E nt l.toArray l 0 st (fun st' => Q .normal (bump l.length st'))) : Ends (absCode E nt n jump (.region id l.toArray true) st) Q :=
  region_draw.2 (regC_D l 0 st _ _ (fun _ hk => ⟨hok, hk⟩) h)

def guardQ (x : Option Tmp) (F : Nat → AV) (want : Bool) (y : Option (AV × List Up)) : Option (AV × List Up) := match x with
  | none => some (und, [])
  | some t => guarded (F t) want y
theorem guardQ_some {t : Tmp} {want : Bool} {y : Option (AV × List Up)} : guardQ (some t) F want y = guarded (F t) want y := rfl
theorem opA_when {op : Op} {j : Nat} {want : Bool} : opA E ops F h s ⟨d, op, ty, pos, af, some (j, want)⟩ = guardQ ((ops[j]?).bind (·.dst)) F want (absOp E (evA E.glob F) h (d.getD 65535) s ⟨d, op, ty, pos, af, some (j, want)⟩) := by
  cases hj : (ops[j]?).bind (·.dst) with
  | some t => rw [guardQ_some]; exact opA_guard hj
  | none =>
    unfold opA guardA guardQ
    simp only [hj]

theorem seq_text {id : Nat} {l : List Oper} {b : Code} (h : RegT E nt l.toArray l 0 st (fun st' => Ends (absCode E nt n jump b (bump l.length st')) Q)) : Ends (absCode E nt n jump (.seq (.region id l.toArray false) b) st) Q :=
  ends_seq.2 (region_text.2 h)
theorem seq_calm {id : Nat} {l : List Oper} {b : Code} (hok : allOk l.toArray (List.replicate l.length ⟨[], []⟩) = true) (h : RegC E nt l.toArray l 0 st (fun st' => Ends (absCode E nt n jump b (bump l.length st')) Q)) : Ends (absCode E nt n jump (.seq (.region id l.toArray true) b) st) Q :=
  ends_seq.2 (region_calm hok h)
theorem seq_if {c : Operand} {x y b : Code} {t : Bool} (hc : evA E.glob st.F c = .s (.bool t)) (h1 : t = true → Ends (absCode E nt n jump x st) (thenQ (fun st => Ends (absCode E nt n jump b st) Q) Q)) (h2 : t = false → Ends (absCode E nt n jump y st) (thenQ (fun st => Ends (absCode E nt n jump b st) Q) Q)) :
    Ends (absCode E nt n jump (.seq (.cond c x y) b) st) Q := by
  refine ends_seq.2 (ends_if.2 ?_)
  rw [hc]; exact ⟨h1, h2⟩

theorem seq_seq {a b c : Code} : Ends (absCode E nt n jump (.seq (.seq a b) c) st) Q ↔ Ends (absCode E nt n jump (.seq a (.seq b c)) st) Q := by
  simp only [ends_seq]
  refine ⟨fun h => h.mono ?_, fun h => h.mono ?_⟩
  · intro e st' hq
    cases e with
    | normal => exact hq
    | _ => exact hq
  · intro e st' hq
    cases e with
    | normal => exact hq
    | _ => exact hq

def orNone (x : Option AV) : Option (AV × List Up) := x.map fun v => (v, [])
theorem orNone_some {v : AV} : orNone (some v) = some (v, []) := rfl
theorem absOp_len {t : TypeId} {x : Operand} {g : Option (Nat × Bool)} {v : AV} (hv : lenOpA E.P t (ρ x) = some v) : absOp E ρ h k s ⟨d, .call { callee := .builtin .len, args := #[x], argTypes := #[t] }, ty, pos, af, g⟩ = some (v, []) := by
  rw [absOp_call]
  unfold slowOp callA
  simp [hv]
theorem absOp_lenStr {t : TypeId} {x : Operand} {g : Option (Nat × Bool)} (hu : E.P.underlying t = some .string) : absOp E ρ h k s ⟨d, .call { callee := .builtin .len, args := #[x], argTypes := #[t] }, ty, pos, af, g⟩ =
    match strLen (ρ x) with
    | some m => some (intA m, [])
    | none => slowOp E ρ h k s ⟨d, .call { callee := .builtin .len, args := #[x], argTypes := #[t] }, ty, pos, af, g⟩ := by
  cases hm : strLen (ρ x) with
  | none => rfl
  | some m => exact absOp_len (by simp [lenOpA, hu, hm])

def int2 (f : Int → Int → Int) (x y : AV) (z : Option (AV × List Up)) : Option (AV × List Up) := match x, y with
  | .s (.int kk a), .s (.int _ b) => some (.s (.int kk (f a b)), [])
  | _, _ => z
theorem int2_int {f : Int → Int → Int} {kk kk' : IntKind} {a b : Int} {z : Option (AV × List Up)} : int2 f (.s (.int kk a)) (.s (.int kk' b)) z = some (.s (.int kk (f a b)), []) := rfl
theorem absOp_max {t1 t2 : TypeId} {x y : Operand} {g : Option (Nat × Bool)} : absOp E ρ h k s ⟨d, .call { callee := .builtin .max, args := #[x, y], argTypes := #[t1, t2] }, ty, pos, af, g⟩ =
    int2 (fun a b => if a < b then b else a) (ρ x) (ρ y) (slowOp E ρ h k s ⟨d, .call { callee := .builtin .max, args := #[x, y], argTypes := #[t1, t2] }, ty, pos, af, g⟩) := by
  unfold int2
  split
  · rename_i kk a kk' b hx hy
    rw [absOp_call]
    simp [slowOp, callA, flatA, hx, hy, Op.operands, Call.operands, toV, toS, execOp, resolve, invoke, builtin, Builtin.max_, Builtin.max2, ofV, ofC]
    rfl
  · rfl
theorem absOp_min {t1 t2 : TypeId} {x y : Operand} {g : Option (Nat × Bool)} : absOp E ρ h k s ⟨d, .call { callee := .builtin .min, args := #[x, y], argTypes := #[t1, t2] }, ty, pos, af, g⟩ =
    int2 (fun a b => if b < a then b else a) (ρ x) (ρ y) (slowOp E ρ h k s ⟨d, .call { callee := .builtin .min, args := #[x, y], argTypes := #[t1, t2] }, ty, pos, af, g⟩) := by
  unfold int2
  split
  · rename_i kk a kk' b hx hy
    rw [absOp_call]
    simp [slowOp, callA, flatA, hx, hy, Op.operands, Call.operands, toV, toS, execOp, resolve, invoke, builtin, Builtin.min_, Builtin.min2, ofV, ofC]
    rfl
  · rfl

theorem wrap_small {m : Nat} (h : m < 9223372036854775808) : IntKind.i64.wrap (m : Int) = m := by
  unfold IntKind.wrap
  have e1 : (2 : Int) ^ IntKind.i64.bits = 18446744073709551616 := by rfl
  have e2 : (2 : Int) ^ (IntKind.i64.bits - 1) = 9223372036854775808 := by rfl
  simp only [e1, e2]
  have e3 : (m : Int) % 18446744073709551616 = m := by omega
  rw [e3]
  rw [if_neg]
  simp; omega
/-- A number that fits an int. -/
theorem wrap_fits {m : Int} (h1 : -9223372036854775808 ≤ m) (h2 : m < 9223372036854775808) : IntKind.i64.wrap m = m := by
  unfold IntKind.wrap
  have e1 : (2 : Int) ^ IntKind.i64.bits = 18446744073709551616 := by rfl
  have e2 : (2 : Int) ^ (IntKind.i64.bits - 1) = 9223372036854775808 := by rfl
  have e3 : IntKind.i64.signed = true := rfl
  simp only [e1, e2, e3, Bool.true_and, decide_eq_true_eq]
  split <;> omega

/-- What comes behind the first part. -/
def tl : Code → Code
  | .seq _ b => b
  | c => c

end
end Go.Proofs.Ytbfdokfelolmbaa.Vai
end

section
namespace Go.Proofs.Ytbfdokfelolmbaa.Vai

section
variable {E : Env} {h : HR} {s : Nat} {d : Option Tmp} {ty : TypeId} {pos : String} {af : Array Edge} {ρ : Operand → AV} {k : Nat}

def plainS (v : AV) : Bool := match v with | .s (.agg _) => false | .s _ => true | _ => false

theorem seal_plain {h : HR} : ∀ {l : List AV}, l.all plainS = true → sealArgs h l = some (l, [])
  | [], _ => rfl
  | a :: l, hl => by
    simp only [List.all_cons, Bool.and_eq_true] at hl
    have ih := seal_plain (h := h) hl.2
    cases a with
    | s v =>
      cases v with
      | agg l => simp [plainS] at hl
      | _ => simp [sealArgs, sealA, room, ih, unS]
    | _ => simp [plainS] at hl

/-- What a call of a function comes to, that is handed sealed values and hands back no blocks. -/
def called (x : Option (AV × Outs)) : Option (AV × List Up) := match x with
  | some (r, []) => some (renA [] r, [])
  | _ => none

theorem absOp_func {g : FuncId} {args : Array Operand} {ts : Array TypeId} {gd : Option (Nat × Bool)} {f : Operand} {r : AV} (hf : ρ f = .s (.flat (.func (.func g) #[] #[]))) (hb : bodied E.P g = true) (hl : E.lend g = false) (hp : (args.toList.map ρ).all plainS = true) (hc : E.call g (args.toList.map ρ) [] = some (r, [])) :
    absOp E ρ h k s ⟨d, .call { callee := .value f, args := args, argTypes := ts }, ty, pos, af, gd⟩ = some (renA [] r, []) := by
  rw [absOp_call]
  have ht : targetA E.P ρ { callee := .value f, args := args, argTypes := ts } = some (g, args.toList.map ρ) := by
    unfold targetA
    simp only [hf, cloView]
    simp
  have he : enterA E h k s g (args.toList.map ρ) = some (renA [] r, []) := by
    unfold enterA
    simp only [hl, Bool.false_eq_true, if_false, seal_plain hp, hc, List.length_nil, Nat.zero_le, if_true]
    rfl
  unfold slowOp callA
  simp only [ht, hb, if_true, he]

def isStr : AV → Bool
  | .s (.str _) => true
  | _ => false
def strOf : AV → List UInt8
  | .s (.str l) => l
  | _ => []
theorem isStr_str {l : List UInt8} : isStr (.s (.str l)) = true := rfl
theorem strOf_str {l : List UInt8} : strOf (.s (.str l)) = l := rfl
theorem str_of {v : AV} (h : isStr v = true) : v = .s (.str (strOf v)) := by
  unfold isStr at h
  split at h
  · rfl
  · cases h

theorem absOp_func1 {g : FuncId} {x : Operand} {ts : Array TypeId} {gd : Option (Nat × Bool)} {r : List UInt8 → AV} {ok : List UInt8 → Prop} (hb : bodied E.P g = true) (hl : E.lend g = false) (hc : ∀ l, ok l → E.call g [.s (.str l)] [] = some (r l, [])) (hr : ∀ l, renA [] (r l) = r l)
    (hf : ρ (.func g) = .s (.flat (.func (.func g) #[] #[]))) (hx : isStr (ρ x) = true) (ho : ok (strOf (ρ x))) :
    absOp E ρ h k s ⟨d, .call { callee := .value (.func g), args := #[x], argTypes := ts }, ty, pos, af, gd⟩ = some (r (strOf (ρ x)), []) := by
  have e := str_of hx
  have hm : (#[x] : Array Operand).toList.map ρ = [.s (.str (strOf (ρ x)))] := by simp [← e]
  rw [absOp_func (g := g) (r := r (strOf (ρ x))) hf hb hl (by rw [hm]; rfl) (by rw [hm]; exact hc _ ho), hr]

theorem absOp_func2 {g : FuncId} {x y : Operand} {ts : Array TypeId} {gd : Option (Nat × Bool)} {r : List UInt8 → List UInt8 → AV} {ok : List UInt8 → List UInt8 → Prop} (hb : bodied E.P g = true) (hl : E.lend g = false) (hc : ∀ l m, ok l m → E.call g [.s (.str l), .s (.str m)] [] = some (r l m, [])) (hr : ∀ l m, renA [] (r l m) = r l m)
    (hf : ρ (.func g) = .s (.flat (.func (.func g) #[] #[]))) (hx : isStr (ρ x) = true) (hy : isStr (ρ y) = true) (ho : ok (strOf (ρ x)) (strOf (ρ y))) :
    absOp E ρ h k s ⟨d, .call { callee := .value (.func g), args := #[x, y], argTypes := ts }, ty, pos, af, gd⟩ = some (r (strOf (ρ x)) (strOf (ρ y)), []) := by
  have e := str_of hx
  have e2 := str_of hy
  have hm : (#[x, y] : Array Operand).toList.map ρ = [.s (.str (strOf (ρ x))), .s (.str (strOf (ρ y)))] := by simp [← e, ← e2]
  rw [absOp_func (g := g) (r := r (strOf (ρ x)) (strOf (ρ y))) hf hb hl (by rw [hm]; rfl) (by rw [hm]; exact hc _ _ ho), hr]

end
end Go.Proofs.Ytbfdokfelolmbaa.Vai
end

section
namespace Go.Proofs.Ytbfdokfelolmbaa.Vai

/-! Rows of bytes. -/

section
variable {E : Env} {h : HR} {s : Nat} {d : Option Tmp} {ty : TypeId} {pos : String} {af : Array Edge} {ρ : Operand → AV} {k : Nat} {g : Option (Nat × Bool)}

theorem absOp_indexAddr {t : TypeId} {x ix : Operand} : absOp E ρ h k s ⟨d, .indexAddr t x ix, ty, pos, af, g⟩ = orNone (indexAddrA E.P h t (ρ x) (ρ ix)) := rfl
theorem absOp_load {t : TypeId} {x : Operand} : absOp E ρ h k s ⟨d, .load t x, ty, pos, af, g⟩ = orNone (loadA E.P h t (ρ x)) := rfl
theorem absOp_lenRows {t e : TypeId} {x : Operand} (hu : E.P.underlying t = some (.slice e)) : absOp E ρ h k s ⟨d, .call { callee := .builtin .len, args := #[x], argTypes := #[t] }, ty, pos, af, g⟩ =
    match lenA (ρ x) with
    | some m => some (intA m, [])
    | none => slowOp E ρ h k s ⟨d, .call { callee := .builtin .len, args := #[x], argTypes := #[t] }, ty, pos, af, g⟩ := by
  cases hm : lenA (ρ x) with
  | none => rfl
  | some m => exact absOp_len (by simp [lenOpA, hu, hm])

theorem strRows_length {l : List UInt8} : (strRows l).length = l.length := by simp [strRows]

theorem idx_bytes {P : Program} {t e : TypeId} (hu : P.underlying t = some (.slice e)) (hs : tsize P e = some 1) {l : List UInt8} {kk : IntKind} {i : Nat} (hi : i < l.length) :
    indexAddrA P h t (.s (.ssl (strRows l))) (.s (.int kk (i : Int))) = some (.s (.sp [.int .u8 l[i].toNat])) := by
  unfold indexAddrA
  have hn : natOf (.s (.int kk (i : Int))) = some i := by simp [natOf]
  rw [hn, hu]
  simp only [hs]
  have : (strRows l)[i]? = some (byteRow l[i]) := by simp [strRows, hi]
  rw [this]
  simp [byteRow]

theorem load_byte {P : Program} {t : TypeId} (ha : tagg P t = some false) {n : Nat} (hs : tsize P t = some n) {v : SV} : loadA P h t (.s (.sp [v])) = some (.s v) := by
  simp [loadA, cellsAt, partA, ha, hs]

theorem bytesOf_rows : ∀ l : List UInt8, convertA.bytesOf (strRows l) = some l
  | [] => rfl
  | b :: l => by
    have ih := bytesOf_rows l
    unfold strRows at ih
    simp only [strRows, List.map_cons, byteRow, convertA.bytesOf]
    rw [show (List.map byteRow l) = strRows l from rfl] at *
    simp [ih]

theorem absOp_slice3 {t e : TypeId} {x lo hi mx : Operand} (hu : E.P.underlying t = some (.slice e)) : absOp E ρ h k s ⟨d, .slice t x (some lo) (some hi) (some mx), ty, pos, af, g⟩ = orNone (sliceA E.P h t (ρ x) (some (ρ lo)) (some (ρ hi)) (some (ρ mx))) := by
  show slowOp E ρ h k s ⟨d, .slice t x (some lo) (some hi) (some mx), ty, pos, af, g⟩ = _
  unfold slowOp
  simp only [hu]
  rfl

theorem cut_bytes {P : Program} {t e : TypeId} (hu : P.underlying t = some (.slice e)) (hs : tsize P e = some 1) {l : List UInt8} {k1 k2 k3 : IntKind} {i : Nat} (hi : i ≤ l.length) :
    sliceA P h t (.s (.ssl (strRows l))) (some (.s (.int k1 (i : Int)))) (some (.s (.int k2 (l.length : Int)))) (some (.s (.int k3 (l.length : Int)))) = some (.xsl (strRows (l.drop i))) := by
  unfold sliceA
  have he : (elemA P t).bind (tsize P) = some 1 := by simp [elemA, hu, hs]
  have hn : ∀ (kk : IntKind) (j : Nat), natOf (.s (.int kk (j : Int))) = some j := fun kk j => by simp [natOf]
  rw [he]
  simp only [lenA, optNat, hn, Option.isSome_some, if_true]
  unfold cutA
  have hf : rowsFit 1 (strRows l) = true := by
    cases l with
    | nil => rfl
    | cons b l => rfl
  simp only [hi, if_true, Nat.le_refl, strRows_length, hf, and_self]
  congr 2
  unfold cutRows
  simp only [strRows, ← List.map_drop]
  rw [List.take_of_length_le (by simp)]

theorem absOp_convText {src dst e : TypeId} {x : Operand} (hs : E.P.underlying src = some (.slice e)) (he : E.P.underlying e = some (.int .u8)) (hd : E.P.underlying dst = some .string) : absOp E ρ h k s ⟨d, .convert src dst x, ty, pos, af, g⟩ =
    match (rowsOf h (ρ x)).bind convertA.bytesOf with
    | some l => some (.s (.str l), [])
    | none => absOp E ρ h k s ⟨d, .convert src dst x, ty, pos, af, g⟩ := by
  split
  · rename_i l hl
    show slowOp E ρ h k s ⟨d, .convert src dst x, ty, pos, af, g⟩ = _
    unfold slowOp
    have : convertA E.P h k s src dst (ρ x) = some (.s (.str l), []) := by
      unfold convertA
      simp only [hs, hd]
      cases hr : rowsOf h (ρ x) with
      | none => rw [hr] at hl; cases hl
      | some rows =>
        rw [hr] at hl
        simp only [Option.bind_some] at hl
        simp [he, hl]
    simp only [this]
  · rfl
theorem rowsOf_xsl {rows : List (List SV)} : rowsOf h (.xsl rows) = some rows := rfl
theorem rowsOf_ssl {rows : List (List SV)} : rowsOf h (.s (.ssl rows)) = some rows := rfl

end
end Go.Proofs.Ytbfdokfelolmbaa.Vai
end

section
namespace Go.Proofs.Ytbfdokfelolmbaa.Vai

/-! Rows of bytes of the call's own. -/

section
variable {E : Env} {P : Program} {h : HR} {s k : Nat} {d : Option Tmp} {ty : TypeId} {pos : String} {af : Array Edge} {ρ : Operand → AV} {g : Option (Nat × Bool)} {l : List UInt8}

theorem strRows_get {i : Nat} (hi : i < l.length) : (strRows l)[i]? = some (byteRow l[i]) := by simp [strRows, hi]
theorem strRows_set {i : Nat} {b : UInt8} : (strRows l).set i (byteRow b) = strRows (l.set i b) := by simp [strRows, List.map_set]

theorem idx_own {t e : TypeId} (hu : P.underlying t = some (.slice e)) (hs : tsize P e = some 1) {rows : List (List SV)} {fz : Nat} (hk : h k = (s, .arr 1 rows fz)) {len i : Nat} {cap : Option Nat} {kk : IntKind} (hi : i < len) :
    indexAddrA P h t (.lsl k s 0 len cap) (.s (.int kk (i : Int))) = some (.ref k s i 0) := by
  unfold indexAddrA
  have hn : natOf (.s (.int kk (i : Int))) = some i := by simp [natOf]
  rw [hn, hu]
  simp only [hs, hk, hi, and_self, if_true, Nat.zero_add]

theorem load_own {t : TypeId} (ha : tagg P t = some false) (hs : tsize P t = some 1) {fz : Nat} (hk : h k = (s, .arr 1 (strRows l) fz)) {i : Nat} (hi : i < l.length) :
    loadA P h t (.ref k s i 0) = some (.s (.int .u8 l[i].toNat)) := by
  unfold loadA cellsAt
  simp only [hk, if_true, strRows_get hi, Option.map_some, byteRow, List.drop_zero, List.map_cons, List.map_nil, partA, ha, hs, List.getElem?_cons_zero]

theorem store_own {t : TypeId} (hs : tsize P t = some 1) (hk : h k = (s, .arr 1 (strRows l) 0)) {i : Nat} (hi : i < l.length) {b : UInt8} :
    storeA P h t (.ref k s i 0) (.s (.int .u8 b.toNat)) = some [(k, (s, .arr 1 (strRows (l.set i b)) 0))] := by
  unfold storeA
  have hc : cellsA (.s (.int .u8 (b.toNat : Int))) = some [.s (.int .u8 b.toNat)] := rfl
  have hse : sealAs room h [.s (.int .u8 (b.toNat : Int))] = some ([.int .u8 b.toNat], []) := by
    unfold room; simp [sealAs, sealA]
  simp only [hc, hs, List.length_cons, List.length_nil, Nat.zero_add, if_true, hk, Nat.zero_le, and_self, strRows_get hi, hse, byteRow, List.all_nil, Nat.le_refl, frzUps, List.nil_append]
  have hsp : splice [SV.int IntKind.u8 (l[i].toNat : Int)] 0 [SV.int IntKind.u8 (b.toNat : Int)] = byteRow b := rfl
  rw [hsp, strRows_set]

theorem absOp_store {t : TypeId} {x y : Operand} : absOp E ρ h k s ⟨d, .store t x y, ty, pos, af, g⟩ = (storeA E.P h t (ρ x) (ρ y)).map fun u => (und, u) := rfl

theorem conv_bytes {src dst e : TypeId} {x : Operand} (hs : E.P.underlying src = some .string) (hd : E.P.underlying dst = some (.slice e)) (he : E.P.underlying e = some (.int .u8)) {t : List UInt8} (hx : ρ x = .s (.str t)) (hl : t.length ≤ 70368744177664) :
    absOp E ρ h k s ⟨d, .convert src dst x, ty, pos, af, g⟩ = some (.lsl k s 0 t.length none, [(k, (s, .arr 1 (strRows t) 0))]) := by
  show slowOp E ρ h k s ⟨d, .convert src dst x, ty, pos, af, g⟩ = _
  unfold slowOp
  have : convertA E.P h k s src dst (ρ x) = some (.lsl k s 0 t.length none, [(k, (s, .arr 1 (strRows t) 0))]) := by
    unfold convertA
    simp only [hs, hd, hx, he, hl, if_true]
  simp only [this]

/-! Bytes as numbers. -/
theorem wrap_u8 {m : Int} : IntKind.u8.wrap m = m % 256 := by
  unfold IntKind.wrap
  have e1 : (2 : Int) ^ IntKind.u8.bits = 256 := by rfl
  have e2 : IntKind.u8.signed = false := rfl
  simp only [e1, e2, Bool.false_and, Bool.false_eq_true, if_false]
theorem u8_add {a b : UInt8} : IntKind.u8.wrap ((a.toNat : Int) + b.toNat) = ((a + b).toNat : Int) := by
  rw [wrap_u8, UInt8.toNat_add]; omega
theorem u8_sub {a b : UInt8} : IntKind.u8.wrap ((a.toNat : Int) - b.toNat) = ((a - b).toNat : Int) := by
  rw [wrap_u8, UInt8.toNat_sub]
  have h1 := a.toNat_lt
  have h2 := b.toNat_lt
  omega
theorem u8_sub48 {a : UInt8} : IntKind.u8.wrap ((a.toNat : Int) - 48) = ((a - 48).toNat : Int) := u8_sub (b := 48)
theorem u8_add10 {a : UInt8} : IntKind.u8.wrap ((a.toNat : Int) + 10) = ((a + 10).toNat : Int) := u8_add (b := 10)
theorem u8_sub10 {a : UInt8} : IntKind.u8.wrap ((a.toNat : Int) - 10) = ((a - 10).toNat : Int) := u8_sub (b := 10)
theorem u8_48add {a : UInt8} : IntKind.u8.wrap (48 + (a.toNat : Int)) = ((48 + a).toNat : Int) := u8_add (a := 48)

end
end Go.Proofs.Ytbfdokfelolmbaa.Vai
end

section
namespace Go.Proofs.Ytbfdokfelolmbaa.Vai

/-! Rows of bytes of the call's own: rules that simp can use from state to state. -/

theorem hget_self {hp : List (Nat × Slot)} {k : Nat} {v : Slot} : hget (hput hp k v) k = v := by rw [hget_hput, if_pos rfl]

def idxIn (sl : Slot) (k s len i : Nat) : Option AV := match sl with
  | (s', .arr w _ _) => if s' = s ∧ w = 1 ∧ i < len then some (.ref k s i 0) else none
  | _ => none
theorem idxIn_eq {k s len i fz : Nat} {rows : List (List SV)} (hi : i < len) : idxIn (s, .arr 1 rows fz) k s len i = some (.ref k s i 0) := by simp [idxIn, hi]
def loadIn (sl : Slot) (s i : Nat) : Option AV := match sl with
  | (s', .arr _ rows _) => if s' = s then match rows[i]? with
    | some [v] => some (.s v)
    | _ => none else none
  | _ => none
theorem loadIn_eq {s i fz : Nat} {l : List UInt8} (hi : i < l.length) : loadIn (s, .arr 1 (strRows l) fz) s i = some (.s (.int .u8 l[i].toNat)) := by
  simp only [loadIn, if_true, strRows_get hi, byteRow]
def storeIn (sl : Slot) (k s i : Nat) (b : UInt8) : Option (List Up) := match sl with
  | (s', .arr 1 rows 0) => if s' = s ∧ (rows[i]?).map List.length = some 1 then some [(k, (s, .arr 1 (rows.set i (byteRow b)) 0))] else none
  | _ => none
theorem storeIn_eq {k s i : Nat} {l : List UInt8} {b : UInt8} (hi : i < l.length) : storeIn (s, .arr 1 (strRows l) 0) k s i b = some [(k, (s, .arr 1 (strRows (l.set i b)) 0))] := by
  simp only [storeIn, strRows_get hi, Option.map_some, byteRow, List.length_cons, List.length_nil, Nat.zero_add, and_self, if_true]
  rw [show [SV.int IntKind.u8 (b.toNat : Int)] = byteRow b from rfl, strRows_set]

section
variable {E : Env} {P : Program} {h : HR} {s k : Nat}

def orElse (x y : Option AV) : Option AV := match x with
  | some v => some v
  | none => y
theorem orElse_some {v : AV} {y : Option AV} : orElse (some v) y = some v := rfl
theorem idxQ {t e : TypeId} (hu : P.underlying t = some (.slice e)) (hs : tsize P e = some 1) {len i : Nat} {cap : Option Nat} {kk : IntKind} :
    indexAddrA P h t (.lsl k s 0 len cap) (.s (.int kk (i : Int))) = idxIn (h k) k s len i := by
  unfold indexAddrA idxIn
  have hn : natOf (.s (.int kk (i : Int))) = some i := by simp [natOf]
  rw [hn, hu]
  simp only [hs, Nat.zero_add]
  cases hh : h k with
  | mk a b => cases b <;> rfl
def loadSlow (P : Program) (h : HR) (t : TypeId) (v : AV) : Option AV := loadA P h t v
theorem loadQ {t : TypeId} (ha : tagg P t = some false) (hs : tsize P t = some 1) {i : Nat} :
    loadA P h t (.ref k s i 0) = orElse (loadIn (h k) s i) (loadSlow P h t (.ref k s i 0)) := by
  cases hl : loadIn (h k) s i with
  | none => rfl
  | some v =>
    unfold loadIn at hl
    unfold orElse loadA cellsAt
    split at hl
    · rename_i s' w rows fz hk
      simp only [hk]
      split at hl
      · rename_i hs'
        split at hl
        · rename_i v' hv
          simp only [Option.some.injEq] at hl
          simp [hs', hv, partA, ha, hs, hl]
        · cases hl
      · cases hl
    · cases hl
def orUps (x y : Option (List Up)) : Option (List Up) := match x with
  | some v => some v
  | none => y
theorem orUps_some {v : List Up} {y : Option (List Up)} : orUps (some v) y = some v := rfl
def storeSlow (P : Program) (h : HR) (t : TypeId) (v x : AV) : Option (List Up) := storeA P h t v x
theorem storeQ {t : TypeId} (hs : tsize P t = some 1) {i : Nat} {b : UInt8} :
    storeA P h t (.ref k s i 0) (.s (.int .u8 (b.toNat : Int))) = orUps (storeIn (h k) k s i b) (storeSlow P h t (.ref k s i 0) (.s (.int .u8 (b.toNat : Int)))) := by
  cases hl : storeIn (h k) k s i b with
  | none => rfl
  | some v =>
    unfold storeIn at hl
    split at hl
    · rename_i s' rows hk
      split at hl
      · rename_i hc
        simp only [Option.some.injEq] at hl
        obtain ⟨rfl, h2⟩ := hc
        subst hl
        unfold storeA orUps
        have hc : cellsA (.s (.int .u8 (b.toNat : Int))) = some [.s (.int .u8 b.toNat)] := rfl
        have hse : sealAs room h [.s (.int .u8 (b.toNat : Int))] = some ([.int .u8 b.toNat], []) := by unfold room; simp [sealAs, sealA]
        simp only [hc, hs, List.length_cons, List.length_nil, Nat.zero_add, if_true, hk, Nat.zero_le, and_self]
        cases hr : rows[i]? with
        | none => rw [hr] at h2; cases h2
        | some r =>
          rw [hr] at h2
          simp only [Option.map_some, Option.some.injEq] at h2
          simp only [hse, h2, List.all_nil, Nat.le_refl, and_self, if_true, frzUps, List.nil_append]
          match r, h2 with
          | [x], _ => rfl
      · cases hl
    · cases hl

theorem absOp_storeQ {ρ : Operand → AV} {d : Option Tmp} {ty : TypeId} {pos : String} {af : Array Edge} {g : Option (Nat × Bool)} {t : TypeId} {x y : Operand} : absOp E ρ h k s ⟨d, .store t x y, ty, pos, af, g⟩ = (storeA E.P h t (ρ x) (ρ y)).map fun u => (und, u) := rfl
theorem putA_no {nt : Nat} {fr : Fr} {v : AV} : putA nt fr none v = some fr := rfl

/-- A call that is handed one slice of the call's own rows, whole. -/
theorem absOp_own {ρ : Operand → AV} {d : Option Tmp} {ty : TypeId} {pos : String} {af : Array Edge} {gd : Option (Nat × Bool)} {g : FuncId} {x : Operand} {ts : Array TypeId} {r : AV} {kk ss : Nat} {l : List UInt8} {cap : Option Nat} {f : Operand}
    (hf : ρ f = .s (.flat (.func (.func g) #[] #[]))) (hb : bodied E.P g = true) (hl : E.lend g = false) (hc : E.call g [.s (.ssl (strRows l))] [] = some (r, [])) (hk : h kk = (ss, .arr 1 (strRows l) 0)) (hx : ρ x = .lsl kk ss 0 l.length cap) :
    absOp E ρ h k s ⟨d, .call { callee := .value f, args := #[x], argTypes := ts }, ty, pos, af, gd⟩ = some (renA [] r, [(kk, (ss, .arr 1 (strRows l) l.length))]) := by
  rw [absOp_call]
  have ht : targetA E.P ρ { callee := .value f, args := #[x], argTypes := ts } = some (g, [.lsl kk ss 0 l.length cap]) := by
    unfold targetA
    simp only [hf, cloView]
    simp [hx]
  have hse : sealArgs h [.lsl kk ss 0 l.length cap] = some ([.s (.ssl (strRows l))], [(kk, l.length)]) := by
    unfold sealArgs
    simp [sealA, hk, strRows_length, sealArgs, unS]
    rw [List.take_of_length_le (by simp [strRows])]
  have he : enterA E h k s g [.lsl kk ss 0 l.length cap] = some (renA [] r, [(kk, (ss, .arr 1 (strRows l) l.length))]) := by
    unfold enterA
    simp only [hl, Bool.false_eq_true, if_false, hse, hc, List.length_nil, Nat.zero_le, if_true]
    simp [frzUps, hk, frzB, backUps, backRen]
  unfold slowOp callA
  simp only [ht, hb, if_true, he]

theorem lt_u8 {a b : UInt8} : decide ((a.toNat : Int) < (b.toNat : Int)) = decide (a < b) := by
  apply Bool.eq_iff_iff.2
  simp only [decide_eq_true_eq, UInt8.lt_iff_toNat_lt]; omega

/-- Two ways that meet again. -/
theorem seq_ifK {nt n : Nat} {jump : Code → St → Option (AExit × St)} {Q : AExit → St → Prop} {st : St} {c : Operand} {x y b : Code} {t : Bool} (R : St → Prop) (hc : evA E.glob st.F c = .s (.bool t)) (h1 : t = true → Ends (absCode E nt n jump x st) (thenQ R Q)) (h2 : t = false → Ends (absCode E nt n jump y st) (thenQ R Q))
    (hR : ∀ st', R st' → Ends (absCode E nt n jump b st') Q) : Ends (absCode E nt n jump (.seq (.cond c x y) b) st) Q := by
  have m : ∀ e st', thenQ R Q e st' → thenQ (fun st => Ends (absCode E nt n jump b st) Q) Q e st' := by
    intro e st' h
    cases e with
    | normal => exact hR _ h
    | _ => exact h
  exact seq_if hc (fun h => (h1 h).mono m) (fun h => (h2 h).mono m)
/-- The same at the end of a code. -/
theorem end_if {nt n : Nat} {jump : Code → St → Option (AExit × St)} {Q : AExit → St → Prop} {st : St} {c : Operand} {x y : Code} {t : Bool} (hc : evA E.glob st.F c = .s (.bool t)) (h1 : t = true → Ends (absCode E nt n jump x st) Q) (h2 : t = false → Ends (absCode E nt n jump y st) Q) : Ends (absCode E nt n jump (.cond c x y) st) Q := by
  refine ends_if.2 ?_
  rw [hc]; exact ⟨h1, h2⟩

end
end Go.Proofs.Ytbfdokfelolmbaa.Vai
end

section
namespace Go.Proofs.Ytbfdokfelolmbaa.Vai

/-! Rows of one cell each, of the call's own. -/

def cellRows (l : List SV) : List (List SV) := l.map fun v => [v]
def byteS (b : UInt8) : SV := .int .u8 b.toNat
theorem strRows_cells {l : List UInt8} : strRows l = cellRows (l.map byteS) := by simp [strRows, cellRows, byteRow, byteS]
theorem cellRows_length {l : List SV} : (cellRows l).length = l.length := by simp [cellRows]
theorem cellRows_append {l m : List SV} : cellRows (l ++ m) = cellRows l ++ cellRows m := by simp [cellRows]
theorem cellRows_get {l : List SV} {i : Nat} (hi : i < l.length) : (cellRows l)[i]? = some [l[i]] := by simp [cellRows, hi]
theorem cellRows_all {l : List SV} : (cellRows l).all (fun r => r.length == 1) = true := by
  simp [cellRows]

structure Elem1 (P : Program) (t e : TypeId) (b : Nat) (z : SV) : Prop where
  und : P.underlying t = some (.slice e)
  size : tsize P e = some 1
  bytes : tbytes P e = some b
  zero : (tzero P e).bind cellsA = some [.s z]
  flat : ∃ d, P.underlying e = some d ∧ ∀ k, d ≠ .int k

section
variable {P : Program} {h : HR} {k s : Nat} {t e : TypeId} {b : Nat} {z : SV}

theorem elemA_of (hu : P.underlying t = some (.slice e)) : elemA P t = some e := by simp [elemA, hu]

theorem make_cells (hu : P.underlying t = some (.slice e)) (hs : tsize P e = some 1) (hb : tbytes P e = some b) (hz : (tzero P e).bind cellsA = some [.s z]) {k1 k2 : IntKind} {c : Nat} (h1 : c * b ≤ 140737488355328) (h2 : c ≤ 140737488355328) :
    makeSliceA P k s t (.s (.int k1 0)) (.s (.int k2 (c : Int))) = some (.lsl k s 0 0 (some c), [(k, (s, .arr 1 (List.replicate c [z]) 0))]) := by
  unfold makeSliceA
  have hn : natOf (.s (.int k2 (c : Int))) = some c := by simp [natOf]
  have hn0 : natOf (.s (.int k1 0)) = some 0 := rfl
  have hse : sealAs room (fun _ => noSlot) [AV.s z] = some ([z], []) := by unfold room; simp [sealAs, sealA]
  rw [elemA_of hu, hn, hn0]
  simp only [hs, hb, hz, Nat.zero_le, h1, h2, List.length_cons, List.length_nil, Nat.zero_add, and_self, if_true, hse]

theorem build_one (hu : P.underlying t = some (.slice e)) (hs : tsize P e = some 1) (hz : (tzero P e).bind cellsA = some [.s z]) {v : SV} (hc : cellsA (.s v) = some [.s v]) :
    buildSliceA P h k s t 1 [(0, .s v)] = some (.lsl k s 0 1 (some 1), [(k, (s, .arr 1 (cellRows [v]) 0))]) := by
  unfold buildSliceA
  have hse : sealAs room h [AV.s v] = some ([v], []) := by unfold room; simp [sealAs, sealA]
  rw [elemA_of hu]
  simp [hs, hz, fillA, hc, splice, hse, frzUps, chunk, cellRows]

/-- Behind what stands there, in place. -/
theorem app_place {u d : TypeId} (hu : P.underlying t = some (.slice e)) (hd : P.underlying u = some (.slice d) ∨ P.underlying u = some .string) (hs : tsize P e = some 1) (hb : tbytes P e = some b) (hz : (tzero P e).bind cellsA = some [.s z])
    {k' s' len : Nat} {cap : Option Nat} {x : AV} {l xs : List SV} (hx : appRows h x = some (cellRows xs)) (hne : xs ≠ []) (hk : h k' = (s', .arr 1 (cellRows l) 0)) (h1 : len + xs.length ≤ l.length) (h2 : capOk cap (len + xs.length) = true) :
    appendA P h k s [t, u] (.lsl k' s' 0 len cap) x = some (.lsl k' s' 0 (len + xs.length) cap, [(k', (s', .arr 1 (cellRows (splice l len xs)) 0))]) := by
  have hsp : splice (cellRows l) len (cellRows xs) = cellRows (splice l len xs) := by simp [splice, cellRows, List.map_take, List.map_drop]
  have hne' : cellRows xs ≠ [] := by
    intro h; apply hne; simpa [cellRows] using h
  have hz' : Option.map List.length ((tzero P e).bind cellsA) = some 1 := by rw [hz]; rfl
  unfold appendA
  rcases hd with hd | hd
  · simp only [elemA_of hu, hd, hs, hb, hx, hz', if_true, if_neg hne', cellRows_all, hk, and_self, cellRows_length, Nat.zero_add, h1, h2, Nat.zero_le, hsp]
  · simp only [elemA_of hu, hd, hs, hb, hx, hz', if_true, if_neg hne', cellRows_all, hk, and_self, cellRows_length, Nat.zero_add, h1, h2, Nat.zero_le, hsp]

/-- Behind nothing: rows of its own. -/
theorem app_nil {u d : TypeId} (hu : P.underlying t = some (.slice e)) (hd : P.underlying u = some (.slice d)) (hs : tsize P e = some 1) (hb : tbytes P e = some b) (hz : (tzero P e).bind cellsA = some [.s z])
    {x : AV} {xs : List SV} (hx : appRows h x = some (cellRows xs)) (hne : xs ≠ []) (h1 : (2 * xs.length + 1024) * b ≤ 140737488355328) (h2 : xs.length ≤ 140737488355328) :
    appendA P h k s [t, u] .nsl x = some (.lsl k s 0 xs.length none, [(k, (s, .arr 1 (cellRows xs) 0))]) := by
  have hne' : cellRows xs ≠ [] := by
    intro h; apply hne; simpa [cellRows] using h
  have hz' : Option.map List.length ((tzero P e).bind cellsA) = some 1 := by rw [hz]; rfl
  unfold appendA
  simp only [elemA_of hu, hd, hs, hb, hx, hz', if_true, if_neg hne', cellRows_all, appendA.grow, appendA.fits, cellRows_length, Nat.zero_add, List.length_nil, h1, h2, decide_true, Bool.and_self, List.nil_append]

/-- Behind its own rows, that are all shown. -/
theorem app_own {u d : TypeId} (hu : P.underlying t = some (.slice e)) (hd : P.underlying u = some (.slice d)) (hs : tsize P e = some 1) (hb : tbytes P e = some b) (hz : (tzero P e).bind cellsA = some [.s z])
    {k' s' len : Nat} {x : AV} {l xs : List SV} (hx : appRows h x = some (cellRows xs)) (hne : xs ≠ []) (hk : h k' = (s', .arr 1 (cellRows l) 0)) (hlen : len = l.length) (h1 : (2 * (len + xs.length) + 1024) * b ≤ 140737488355328) (h2 : len + xs.length ≤ 140737488355328) :
    appendA P h k s [t, u] (.lsl k' s' 0 len none) x = some (.lsl k' s 0 (len + xs.length) none, [(k', (s, .arr 1 (cellRows (l ++ xs)) 0))]) := by
  have hne' : cellRows xs ≠ [] := by
    intro h; apply hne; simpa [cellRows] using h
  have hz' : Option.map List.length ((tzero P e).bind cellsA) = some 1 := by rw [hz]; rfl
  have hpos : 0 < xs.length := by cases xs with | nil => exact absurd rfl hne | cons a b => simp
  unfold appendA
  subst hlen
  have hno : ¬ (0 + l.length + xs.length ≤ l.length ∧ capOk none (l.length + xs.length) = true) := by omega
  simp only [elemA_of hu, hd, hs, hb, hx, hz', if_true, if_neg hne', cellRows_all, hk, and_self, cellRows_length, if_neg hno, appendA.fits, h1, h2, decide_true, Bool.and_self, Nat.zero_le, ← cellRows_append]

theorem appRows_lsl {k' s' len fz : Nat} {cap : Option Nat} {xs : List SV} (hk : h k' = (s', .arr 1 (cellRows xs) fz)) (hl : len = xs.length) : appRows h (.lsl k' s' 0 len cap) = some (cellRows xs) := by
  subst hl
  simp [appRows, rowsOf, hk, cellRows_length]
  rw [List.take_of_length_le (by simp [cellRows])]
theorem appRows_str {l : List UInt8} : appRows h (.s (.str l)) = some (cellRows (l.map byteS)) := by rw [← strRows_cells]; rfl

theorem absOp_append {E : Env} {ρ : Operand → AV} {d : Option Tmp} {ty : TypeId} {pos : String} {af : Array Edge} {g : Option (Nat × Bool)} {t1 t2 : TypeId} {x y : Operand} {r : AV × List Up} (hr : appendA E.P h k s [t1, t2] (ρ x) (ρ y) = some r) :
    absOp E ρ h k s ⟨d, .call { callee := .builtin .append, args := #[x, y], argTypes := #[t1, t2] }, ty, pos, af, g⟩ = some r := by
  rw [absOp_call]
  unfold slowOp callA
  simp [hr]
theorem absOp_makeSlice {E : Env} {ρ : Operand → AV} {d : Option Tmp} {ty : TypeId} {pos : String} {af : Array Edge} {g : Option (Nat × Bool)} {t1 : TypeId} {x y : Operand} :
    absOp E ρ h k s ⟨d, .makeSlice t1 x y, ty, pos, af, g⟩ = makeSliceA E.P k s t1 (ρ x) (ρ y) := rfl
theorem absOp_buildSlice {E : Env} {ρ : Operand → AV} {d : Option Tmp} {ty : TypeId} {pos : String} {af : Array Edge} {g : Option (Nat × Bool)} {t1 : TypeId} {i : Nat} {x : Operand} :
    absOp E ρ h k s ⟨d, .buildSlice t1 1 #[(i, x)], ty, pos, af, g⟩ = buildSliceA E.P h k s t1 1 [(i, ρ x)] := rfl

theorem seq_K {E : Env} {nt n : Nat} {jump : Code → St → Option (AExit × St)} {Q : AExit → St → Prop} {st : St} {a c : Code} (R : St → Prop) (h1 : Ends (absCode E nt n jump a st) (thenQ R Q)) (h2 : ∀ st', R st' → Ends (absCode E nt n jump c st') Q) : Ends (absCode E nt n jump (.seq a c) st) Q := by
  refine ends_seq.2 (h1.mono ?_)
  intro e st' h
  cases e with
  | normal => exact h2 _ h
  | _ => exact h

theorem idxQ0 (hu : P.underlying t = some (.slice e)) (hs : tsize P e = some 1) {len : Nat} {cap : Option Nat} {kk : IntKind} : indexAddrA P h t (.lsl k s 0 len cap) (.s (.int kk 0)) = idxIn (h k) k s len 0 := idxQ hu hs (i := 0)
theorem only_eq {ks : List Nat} {j : Nat} : only h ks j = if ks.contains j then h j else noSlot := by unfold only; exact (Eq.trans rfl rfl)
theorem opKeys_of {ρ : Operand → AV} {o : Oper} : opKeys ρ o = o.op.operands.toList.flatMap fun x => keysA (ρ x) := by unfold opKeys; exact (Eq.trans rfl rfl)
theorem reach_one {k : Nat} (hk : keysB (h k).2 = []) : reach room h [k] [] = [k] := by
  unfold room
  simp [reach, hk]

/-- A region whose order is drawn, what each operation may come to given ahead. -/
def RegF (E : Env) (nt : Nat) (ops : Array Oper) : List Oper → List Foot → Nat → St → (St → Prop) → Prop
  | [], [], _, st, K => K st
  | o :: r, f :: fs, i, st, K => reach room st.h (opKeys (evA E.glob st.F) o) [] = f.rd ∧ match opA E ops st.F (only st.h f.rd) (st.nx + room * i) o with
    | some (v, ups) => ups.map (·.1) = f.wr ∧ match putA nt st.fr o.dst v with
      | some fr => RegF E nt ops r fs (i + 1) { st with fr, hp := upHp st.hp ups } K
      | none => False
    | none => False
  | _, _, _, _, _ => False

theorem regF_D {E : Env} {nt : Nat} {ops : Array Oper} : ∀ (l : List Oper) (fs : List Foot) (i : Nat) (st : St) (K : St → Prop) (K' : List Foot → St → Prop), (∀ st', K st' → K' fs st') → RegF E nt ops l fs i st K → RegD E nt ops l i st K'
  | [], [], i, st, K, K', hk, h => hk st h
  | [], _ :: _, i, st, K, K', hk, h => h.elim
  | _ :: _, [], i, st, K, K', hk, h => h.elim
  | o :: l, f :: fs, i, st, K, K', hk, h => by
    simp only [RegF] at h
    obtain ⟨h1, h2⟩ := h
    simp only [RegD, h1]
    split at h2
    · rename_i v ups hv
      try rw [hv]
      try simp only
      obtain ⟨h3, h2⟩ := h2
      split at h2
      · rename_i fr hf
        try rw [hf]
        try simp only
        exact regF_D l fs (i + 1) _ K _ (fun st' hk' => by rw [h3]; exact hk st' hk') h2
      · exact h2.elim
    · exact h2.elim

theorem region_feet {E : Env} {nt n : Nat} {jump : Code → St → Option (AExit × St)} {Q : AExit → St → Prop} {st : St} {id : Nat} {l : List Oper} (fs : List Foot) (hok : allOk l.toArray fs = true) (h : RegF E nt l.toArray l fs 0 st (fun st' => Q .normal (bump l.length st'))) : Ends (absCode E nt n jump (.region id l.toArray true) st) Q :=
  region_draw.2 (regF_D l fs 0 st _ _ (fun _ hk => ⟨hok, hk⟩) h)
theorem seq_feet {E : Env} {nt n : Nat} {jump : Code → St → Option (AExit × St)} {Q : AExit → St → Prop} {st : St} {id : Nat} {l : List Oper} {b : Code} (fs : List Foot) (hok : allOk l.toArray fs = true) (h : RegF E nt l.toArray l fs 0 st (fun st' => Ends (absCode E nt n jump b (bump l.length st')) Q)) : Ends (absCode E nt n jump (.seq (.region id l.toArray true) b) st) Q :=
  ends_seq.2 (region_feet fs hok h)

end
end Go.Proofs.Ytbfdokfelolmbaa.Vai
end

section
namespace Go.Proofs.Ytbfdokfelolmbaa.Vai

/-! Rows of ints. -/

def digS (d : Nat) : SV := .int .i64 d
def intRows (l : List Nat) : List (List SV) := cellRows (l.map digS)
theorem intRows_length {l : List Nat} : (intRows l).length = l.length := by simp [intRows, cellRows]
theorem intRows_get {l : List Nat} {i : Nat} (hi : i < l.length) : (intRows l)[i]? = some [.int .i64 l[i]] := by simp [intRows, cellRows, hi, digS]

section
variable {P : Program} {h : HR} {k s : Nat} {t e : TypeId}
theorem idx_ints (hu : P.underlying t = some (.slice e)) (hs : tsize P e = some 1) {l : List Nat} {kk : IntKind} {i : Nat} (hi : i < l.length) :
    indexAddrA P h t (.s (.ssl (intRows l))) (.s (.int kk (i : Int))) = some (.s (.sp [.int .i64 l[i]])) := by
  unfold indexAddrA
  have hn : natOf (.s (.int kk (i : Int))) = some i := by simp [natOf]
  rw [hn, hu]
  simp only [hs, intRows_get hi, List.length_cons, List.length_nil, Nat.zero_add, if_true]

/-- A list that grows: nothing yet, or rows of its own under a key. -/
def Grown (hp : List (Nat × Slot)) (k : Nat) (v : AV) (l : List SV) : Prop := (l = [] ∧ v = .nsl) ∨ ∃ ss, v = .lsl k ss 0 l.length none ∧ hget hp k = (ss, .arr 1 (cellRows l) 0)
theorem Grown.nil {hp : List (Nat × Slot)} {k : Nat} : Grown hp k .nsl [] := .inl ⟨rfl, rfl⟩
theorem Grown.keep {hp : List (Nat × Slot)} {k j : Nat} {v : AV} {l : List SV} {sl : Slot} (h : Grown hp k v l) (hj : j ≠ k) : Grown (hput hp j sl) k v l := by
  rcases h with h | ⟨ss, h1, h2⟩
  · exact .inl h
  · exact .inr ⟨ss, h1, by rw [hget_hput, if_neg hj]; exact h2⟩
/-- What has grown, sealed. -/
theorem Grown.sealed {hp : List (Nat × Slot)} {k : Nat} {v : AV} {l : List SV} (h : Grown hp k v l) : ∃ fz, sealA room (hget hp) v = some (.ssl (cellRows l), fz) := by
  rcases h with ⟨rfl, rfl⟩ | ⟨ss, rfl, h2⟩
  · exact ⟨_, rfl⟩
  · refine ⟨[(k, 0 + l.length)], ?_⟩
    unfold room sealA
    simp only [h2, cellRows_length, Nat.zero_add, Nat.le_refl, and_self, if_true, List.drop_zero]
    rw [List.take_of_length_le (by simp [cellRows])]

/-- One more behind. -/
theorem Grown.more {hp : List (Nat × Slot)} {v : AV} {l : List SV} {b : Nat} {z x : SV} {kx sx s0 : Nat} {cap : Option Nat} (h : Grown hp k v l) (hu : P.underlying t = some (.slice e)) (hs : tsize P e = some 1) (hb : tbytes P e = some b) (hz : (tzero P e).bind cellsA = some [.s z])
    (hx : hget hp kx = (sx, .arr 1 (cellRows [x]) 0)) (h1 : (2 * (l.length + 1) + 1024) * b ≤ 140737488355328) (h2 : l.length + 1 ≤ 140737488355328) :
    ∃ v' ups, appendA P (hget hp) k s0 [t, t] v (.lsl kx sx 0 1 cap) = some (v', ups) ∧ Grown (upHp hp ups) k v' (l ++ [x]) := by
  have hr : appRows (hget hp) (.lsl kx sx 0 1 cap) = some (cellRows [x]) := appRows_lsl hx rfl
  rcases h with ⟨rfl, rfl⟩ | ⟨ss, rfl, hg⟩
  · refine ⟨_, _, app_nil hu hu hs hb hz hr (by simp) (by simpa using h1) (by simpa using h2), .inr ⟨s0, rfl, ?_⟩⟩
    simp [upHp, hget_hput]
  · refine ⟨_, _, app_own hu hu hs hb hz hr (by simp) hg rfl (by simpa using h1) (by simp; omega), .inr ⟨s0, by simp, ?_⟩⟩
    simp [upHp, hget_hput]

theorem absOp_built {E : Env} {ρ : Operand → AV} {d : Option Tmp} {ty : TypeId} {pos : String} {af : Array Edge} {g : Option (Nat × Bool)} {t1 e1 : TypeId} {z : SV} {x : Operand} {v : SV} (hu : E.P.underlying t1 = some (.slice e1)) (hs : tsize E.P e1 = some 1) (hz : (tzero E.P e1).bind cellsA = some [.s z]) (hc : cellsA (.s v) = some [.s v]) (hx : ρ x = .s v) :
    absOp E ρ h k s ⟨d, .buildSlice t1 1 #[(0, x)], ty, pos, af, g⟩ = some (.lsl k s 0 1 (some 1), [(k, (s, .arr 1 (cellRows [v]) 0))]) := by
  rw [absOp_buildSlice, hx]
  exact build_one hu hs hz hc
end

/-- What a body hands out that has grown. -/
theorem finish_grown {E : Env} {f : FuncId} {fn : Func} {st : St} {k t : Nat} {l : List SV} (hr : fn.results = #[.tmp t]) (hraw : E.raw f = false) (h : Grown st.hp k (st.fr.get t) l) : finish E f 0 fn st = some (.s (.ssl (cellRows l)), []) := by
  obtain ⟨fz, hs⟩ := h.sealed
  have hres : resultA E.P st.fr st.h fn.results = some [st.fr.get t] := by
    rw [hr]
    unfold resultA
    simp only [resultA.go]
    rcases h with ⟨_, h⟩ | ⟨ss, h, _⟩ <;> rw [h]
  unfold finish
  rw [hres]
  simp only [hraw, Bool.false_eq_true, if_false, sealArgs]
  have : sealA room st.h (st.fr.get t) = some (.ssl (cellRows l), fz) := hs
  rw [this]
  simp [unS, reach_nil, keysAs, keysA, packA, renAs, renA]

theorem keys_func {glob : Nat → Option (List SV)} {F : Nat → AV} {f : FuncId} : keysA (evA glob F (.func f)) = [] := by simp [evA, keysA]
theorem wrap_nat {m : Int} {n : Nat} (h1 : m = (n : Int)) (h2 : n < 9223372036854775808) : IntKind.i64.wrap m = (n : Int) := by
  rw [h1]; exact wrap_small h2
end Go.Proofs.Ytbfdokfelolmbaa.Vai
end

section
namespace Go.Proofs.Ytbfdokfelolmbaa.Vai

/-! Variables of the call's own. -/

def loadV (sl : Slot) (s off : Nat) : Option AV := match sl with
  | (s', .var cells _) => if s' = s then cells[off]? else none
  | _ => none
theorem loadV_eq {s off : Nat} {cells : List AV} {fz : Bool} : loadV (s, .var cells fz) s off = cells[off]? := by simp [loadV]
def storeV (sl : Slot) (k s off : Nat) (v : AV) : Option (List Up) := match sl with
  | (s', .var cells false) => if s' = s ∧ off < cells.length then some [(k, (s, .var (cells.set off v) false))] else none
  | _ => none
theorem storeV_eq {k s off : Nat} {cells : List AV} {v : AV} (h : off < cells.length) : storeV (s, .var cells false) k s off v = some [(k, (s, .var (cells.set off v) false))] := by simp [storeV, h]

section
variable {E : Env} {P : Program} {h : HR} {k s : Nat} {t e : TypeId} {ρ : Operand → AV} {d : Option Tmp} {ty : TypeId} {pos : String} {af : Array Edge} {g : Option (Nat × Bool)}

theorem absOp_box {t : TypeId} {x : Operand} : absOp E ρ h k s ⟨d, .box t x, ty, pos, af, g⟩ = (cellsA (ρ x)).map fun z => (.ref k s 0 0, [(k, (s, .var z false))]) := by
  show slowOp E ρ h k s ⟨d, .box t x, ty, pos, af, g⟩ = _
  unfold slowOp
  cases hc : cellsA (ρ x) <;> simp [hc]
theorem absOp_alloc {z : List AV} (hz : (tzero E.P t).bind cellsA = some z) : absOp E ρ h k s ⟨d, .alloc t, ty, pos, af, g⟩ = some (.ref k s 0 0, [(k, (s, .var z false))]) := by
  show slowOp E ρ h k s ⟨d, .alloc t, ty, pos, af, g⟩ = _
  unfold slowOp
  simp [hz]
theorem absOp_fieldAddr {f : Nat} {x : Operand} : absOp E ρ h k s ⟨d, .fieldAddr t x f, ty, pos, af, g⟩ = orNone (fieldAddrA E.P t (ρ x) f) := rfl
theorem absOp_build {parts : Array (Nat × Operand)} : absOp E ρ h k s ⟨d, .build t parts, ty, pos, af, g⟩ = orNone (buildA E.P t (parts.toList.map fun p => (p.1, ρ p.2))) := rfl

theorem loadVarA {n : Nat} (ha : tagg P t = some false) (hs : tsize P t = some n) {off : Nat} : loadA P h t (.ref k s 0 off) = orElse (loadV (h k) s off) (loadSlow P h t (.ref k s 0 off)) := by
  cases hl : loadV (h k) s off with
  | none => rfl
  | some v =>
    unfold loadV at hl
    unfold orElse loadA cellsAt
    split at hl
    · rename_i s' cells fz hk
      simp only [hk]
      split at hl
      · rename_i hs'
        simp [hs', partA, ha, hs, hl]
      · cases hl
    · cases hl

/-- A struct of two cells. -/
theorem loadPair (ha : tagg P t = some true) (hs : tsize P t = some 2) {x y : AV} {fz : Bool} (hk : h k = (s, .var [x, y] fz)) : loadA P h t (.ref k s 0 0) = some (.agg [x, y]) := by
  unfold loadA cellsAt
  simp [hk, partA, ha, hs]
theorem storePair (hs : tsize P t = some 2) {x y a b : AV} (hk : h k = (s, .var [x, y] false)) : storeA P h t (.ref k s 0 0) (.agg [a, b]) = some [(k, (s, .var [a, b] false))] := by
  unfold storeA
  simp [cellsA, hs, hk, splice]

theorem storeVarA {v : AV} (hs : tsize P t = some 1) (hc : cellsA v = some [v]) {off : Nat} : storeA P h t (.ref k s 0 off) v = orUps (storeV (h k) k s off v) (storeSlow P h t (.ref k s 0 off) v) := by
  cases hl : storeV (h k) k s off v with
  | none => rfl
  | some u =>
    unfold storeV at hl
    split at hl
    · rename_i s' cells hk
      split at hl
      · rename_i hc2
        obtain ⟨rfl, h2⟩ := hc2
        simp only [Option.some.injEq] at hl
        subst hl
        unfold storeA orUps
        have : splice cells off [v] = cells.set off v := by
          simp [splice, List.set_eq_take_append_cons_drop, h2]
        simp only [hc, hs, List.length_cons, List.length_nil, Nat.zero_add, if_true, hk, true_and, this]
        rw [if_pos (by omega)]
      · cases hl
    · cases hl

theorem absOp_sliceTo {x hi : Operand} (hu : E.P.underlying t = some (.slice e)) : absOp E ρ h k s ⟨d, .slice t x none (some hi) none, ty, pos, af, g⟩ = orNone (sliceA E.P h t (ρ x) none (some (ρ hi)) none) := by
  have hf : fastA E.P ρ (.slice t x none (some hi) none) = none := by
    unfold fastA
    simp only [hu]
    split <;> rfl
  have : absOp E ρ h k s ⟨d, .slice t x none (some hi) none, ty, pos, af, g⟩ = slowOp E ρ h k s ⟨d, .slice t x none (some hi) none, ty, pos, af, g⟩ := by
    unfold absOp
    simp only [hf]
  rw [this]
  unfold slowOp
  simp only [hu]
  rfl
theorem cut_ints (hu : P.underlying t = some (.slice e)) (hs : tsize P e = some 1) {l : List Nat} {kk : IntKind} {n : Nat} (hn : n ≤ l.length) : sliceA P h t (.s (.ssl (intRows l))) none (some (.s (.int kk (n : Int)))) none = some (.s (.ssl (intRows (l.take n)))) := by
  unfold sliceA
  have he : (elemA P t).bind (tsize P) = some 1 := by simp [elemA, hu, hs]
  have hn' : natOf (.s (.int kk (n : Int))) = some n := by simp [natOf]
  have hf : rowsFit 1 (intRows l) = true := by
    cases l with
    | nil => rfl
    | cons b l => rfl
  rw [he]
  simp only [lenA, optNat, hn']
  unfold cutA
  simp only [Nat.zero_le, if_true, intRows_length, hn, hf, and_self, cutRows, List.drop_zero, Nat.sub_zero]
  congr 3
  simp [intRows, cellRows, List.map_take]

theorem reach_two {a b : Nat} (hne : a ≠ b) (h1 : keysB (h a).2 = []) (h2 : keysB (h b).2 = []) : reach room h [a, b] [] = [a, b] := by
  unfold room
  simp [reach, h1, h2, Ne.symm hne]
theorem reach_link {a b : Nat} (hne : a ≠ b) (h1 : keysB (h a).2 = [b]) (h2 : keysB (h b).2 = []) : reach room h [a] [] = [a, b] := by
  unfold room
  simp [reach, h1, h2, Ne.symm hne]
theorem reach_linked {a b : Nat} (hne : a ≠ b) (h1 : keysB (h a).2 = [b]) (h2 : keysB (h b).2 = []) : reach room h [a, b] [] = [a, b] := by
  unfold room
  simp [reach, h1, h2, Ne.symm hne]
theorem keys_und : keysA und = [] := rfl
/-- A number in parts: a truth and ints. -/
def numA (b : Bool) (l : List Nat) : AV := .agg [.s (.bool b), .s (.ssl (intRows l))]

theorem finish_pair {f : FuncId} {fn : Func} {st : St} {t : Nat} {x y : SV} {fz : Bool} (hr : fn.results = #[.cell t ty]) (hraw : E.raw f = false) (ha : tagg E.P ty = some true) (hs : tsize E.P ty = some 2) (hg : st.fr.get t = .ref k s 0 0) (hk : hget st.hp k = (s, .var [.s x, .s y] fz)) : finish E f 0 fn st = some (.agg [.s x, .s y], []) := by
  have hres : resultA E.P st.fr st.h fn.results = some [.agg [.s x, .s y]] := by
    rw [hr]
    unfold resultA
    simp only [resultA.go, hg]
    rw [loadPair (h := st.h) ha hs hk]
  unfold finish
  rw [hres]
  simp only [hraw, Bool.false_eq_true, if_false, sealArgs]
  have : sealA room st.h (.agg [.s x, .s y]) = some (.agg [x, y], []) := by
    unfold room
    simp [sealA, sealAs]
  rw [this]
  simp [unS, aggS, reach_nil, keysAs, keysA, packA, renAs, renA]
theorem flat_conv {P : Program} {x : Operand} {k k' : IntKind} {src dst : TypeId} {n : Int} (h1 : P.underlying src = some (.int k)) (h2 : P.underlying dst = some (.int k')) (hx : ρ x = .s (.int k n)) :
    flatA P ρ ⟨d, .convert src dst x, ty, pos, af, g⟩ = some (.s (.int k' (k'.wrap n))) := by
  unfold flatA
  simp only [Op.operands, List.all_cons, List.all_nil, hx, toV, toS, Option.isSome_some, Bool.and_self, if_true, execOp, Option.getD_some]
  simp only [convert, bind, Sem.bind, program, Go.underlying, quiet, h1, h2, pure, Conv.intToInt]
  try rfl
theorem absOp_convInt {x : Operand} {k1 k2 : IntKind} {src dst : TypeId} {n : Int} (h1 : E.P.underlying src = some (.int k1)) (h2 : E.P.underlying dst = some (.int k2)) (hx : ρ x = .s (.int k1 n)) :
    absOp E ρ h k s ⟨d, .convert src dst x, ty, pos, af, g⟩ = some (.s (.int k2 (k2.wrap n)), []) := by
  show slowOp E ρ h k s ⟨d, .convert src dst x, ty, pos, af, g⟩ = _
  unfold slowOp
  have : convertA E.P h k s src dst (ρ x) = none := by
    unfold convertA
    simp only [h1, h2]
  simp only [this, flat_conv h1 h2 hx]
  rfl

/-- A call whose arguments are sealed. -/
theorem absOp_calls {f : FuncId} {args : Array Operand} {ts : Array TypeId} {gd : Option (Nat × Bool)} {o : Operand} {ags : List AV} {fz : Frz} {r : AV} (hf : ρ o = .s (.flat (.func (.func f) #[] #[]))) (hb : bodied E.P f = true) (hl : E.lend f = false) (hs : sealArgs h (args.toList.map ρ) = some (ags, fz)) (hc : E.call f ags [] = some (r, [])) :
    absOp E ρ h k s ⟨d, .call { callee := .value o, args := args, argTypes := ts }, ty, pos, af, gd⟩ = some (renA [] r, frzUps h fz) := by
  rw [absOp_call]
  have ht : targetA E.P ρ { callee := .value o, args := args, argTypes := ts } = some (f, args.toList.map ρ) := by
    unfold targetA
    simp only [hf, cloView]
    simp
  have he : enterA E h k s f (args.toList.map ρ) = some (renA [] r, frzUps h fz) := by
    unfold enterA
    simp only [hl, Bool.false_eq_true, if_false, hs, hc, List.length_nil, Nat.zero_le, if_true]
    simp [backUps, backRen]
  unfold slowOp callA
  simp only [ht, hb, if_true, he]
theorem seal_pair_nil {b : SV} : sealArgs h [.agg [.s b, .nsl]] = some ([.agg [.s b, .s (.ssl [])]], []) := by
  unfold sealArgs room
  simp [sealA, sealAs, sealArgs, unS, aggS]
theorem seal_pair_own {b : SV} {k' s' len : Nat} {rows : List (List SV)} {fz : Nat} {cap : Option Nat} (hk : h k' = (s', .arr 1 rows fz)) (hl : len = rows.length) : sealArgs h [.agg [.s b, .lsl k' s' 0 len cap]] = some ([.agg [.s b, .s (.ssl rows)]], [(k', len)]) := by
  subst hl
  unfold sealArgs room
  simp [sealA, sealAs, sealArgs, unS, aggS, hk]
end
end Go.Proofs.Ytbfdokfelolmbaa.Vai
end

section
namespace Go.Proofs.Ytbfdokfelolmbaa.Vai

/-- A list that grows under one of some keys. -/
def GrownIn (hp : List (Nat × Slot)) (ok : Nat → Prop) (v : AV) (l : List SV) : Prop := (l = [] ∧ v = .nsl) ∨ ∃ kk ss, ok kk ∧ v = .lsl kk ss 0 l.length none ∧ hget hp kk = (ss, .arr 1 (cellRows l) 0)
section
variable {hp : List (Nat × Slot)} {ok : Nat → Prop} {v : AV} {l : List SV} {P : Program} {t e : TypeId}
theorem GrownIn.nil : GrownIn hp ok .nsl [] := .inl ⟨rfl, rfl⟩
theorem GrownIn.keep {j : Nat} {sl : Slot} (h : GrownIn hp ok v l) (hj : ¬ ok j) : GrownIn (hput hp j sl) ok v l := by
  rcases h with h | ⟨kk, ss, h0, h1, h2⟩
  · exact .inl h
  · exact .inr ⟨kk, ss, h0, h1, by rw [hget_hput, if_neg (by rintro rfl; exact hj h0)]; exact h2⟩
theorem GrownIn.rows (h : GrownIn hp ok v l) : rowsOf (hget hp) v = some (cellRows l) := by
  rcases h with ⟨rfl, rfl⟩ | ⟨kk, ss, h0, rfl, h2⟩
  · rfl
  · simp [rowsOf, h2, cellRows_length]
    rw [List.take_of_length_le (by simp [cellRows])]
theorem GrownIn.more {k : Nat} {b : Nat} {z x : SV} {kx sx s0 : Nat} {cap : Option Nat} (hk : ok k) (h : GrownIn hp ok v l) (hu : P.underlying t = some (.slice e)) (hs : tsize P e = some 1) (hb : tbytes P e = some b) (hz : (tzero P e).bind cellsA = some [.s z])
    (hx : hget hp kx = (sx, .arr 1 (cellRows [x]) 0)) (h1 : (2 * (l.length + 1) + 1024) * b ≤ 140737488355328) (h2 : l.length + 1 ≤ 140737488355328) :
    ∃ v' ups, appendA P (hget hp) k s0 [t, t] v (.lsl kx sx 0 1 cap) = some (v', ups) ∧ GrownIn (upHp hp ups) ok v' (l ++ [x]) ∧ ∀ j, ¬ ok j → hget (upHp hp ups) j = hget hp j := by
  have hr : appRows (hget hp) (.lsl kx sx 0 1 cap) = some (cellRows [x]) := appRows_lsl hx rfl
  rcases h with ⟨rfl, rfl⟩ | ⟨kk, ss, h0, rfl, hg⟩
  · refine ⟨_, _, app_nil hu hu hs hb hz hr (by simp) (by simpa using h1) (by simpa using h2), .inr ⟨k, s0, hk, rfl, ?_⟩, fun j hj => ?_⟩
    · simp [upHp, hget_hput]
    · simp only [upHp, hget_hput]; rw [if_neg (by rintro rfl; exact hj hk)]
  · refine ⟨_, _, app_own hu hu hs hb hz hr (by simp) hg rfl (by simpa using h1) (by simp; omega), .inr ⟨kk, s0, h0, by simp, ?_⟩, fun j hj => ?_⟩
    · simp [upHp, hget_hput]
    · simp only [upHp, hget_hput]; rw [if_neg (by rintro rfl; exact hj h0)]
theorem conv_text {E : Env} {h : HR} {k s : Nat} {ρ : Operand → AV} {d : Option Tmp} {ty : TypeId} {pos : String} {af : Array Edge} {g : Option (Nat × Bool)} {src dst e : TypeId} {x : Operand} {l : List UInt8} (hs : E.P.underlying src = some (.slice e)) (he : E.P.underlying e = some (.int .u8)) (hd : E.P.underlying dst = some .string) (hr : rowsOf h (ρ x) = some (strRows l)) :
    absOp E ρ h k s ⟨d, .convert src dst x, ty, pos, af, g⟩ = some (.s (.str l), []) := by
  rw [absOp_convText hs he hd, hr]
  simp only [Option.bind_some, bytesOf_rows]
/-- What grows, handed out sealed. -/
theorem GrownIn.finish {E : Env} {f : FuncId} {fn : Func} {st : St} {t : Nat} (hr : fn.results = #[.tmp t]) (hraw : E.raw f = false) (h : GrownIn st.hp ok (st.fr.get t) l) : finish E f 0 fn st = some (.s (.ssl (cellRows l)), []) := by
  rcases h with ⟨h0, h1⟩ | ⟨kk, ss, h0, h1, h2⟩
  · exact finish_grown (k := 0) hr hraw (.inl ⟨h0, h1⟩)
  · exact finish_grown (k := kk) hr hraw (.inr ⟨ss, h1, h2⟩)
end
end Go.Proofs.Ytbfdokfelolmbaa.Vai
end
