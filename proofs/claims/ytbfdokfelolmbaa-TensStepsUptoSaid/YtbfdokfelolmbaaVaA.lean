import Derived.Below
import Derived.Orders
import Derived.KernelRfl
/-
  An interpreter over abstract values: its values, its heap, its operations.
-/
set_option linter.all false
section
namespace Go.Proofs.Ytbfdokfelolmbaa.Vai

/-! Abstract values, the abstract heap, and the abstract operations. -/

/-- Sealed values: trees that nothing writes to any more. -/
inductive SV where
  | int (k : IntKind) (n : Int)
  | bool (b : Bool)
  | str (l : List UInt8)
  | flat (v : Value)
  | agg (l : List SV)
  | ssl (rows : List (List SV))
  | sp (cells : List SV)
  | iface (t : TypeId) (v : SV)
  | clo (fn : Fn) (first cap : List SV)
  deriving Inhabited

/-- Abstract values: sealed ones, and those that point into the call's own memory. -/
inductive AV where
  | s (v : SV)
  | nsl
  | xsl (rows : List (List SV))
  | ref (k st row off : Nat)
  | lsl (k st row len : Nat) (cap : Option Nat)
  | agg (l : List AV)
  | tup (l : List AV)
  | iface (t : TypeId) (v : AV)
  | clo (fn : Fn) (first cap : List AV)
  | dead
  deriving Inhabited

/-- A block of the call's own: a variable; the rows behind slices. -/
inductive Blk where
  | var (cells : List AV) (fz : Bool)
  | arr (w : Nat) (rows : List (List SV)) (fz : Nat)
  | gone
  deriving Inhabited

/-- A frame: a tree over the places. -/
inductive Fr where
  | nil
  | node (v : AV) (l r : Fr)
  deriving Inhabited

def Fr.get : Fr → Nat → AV
  | .nil, _ => .dead
  | .node v l r, k => cond (Nat.beq k 0) v (cond (Nat.beq (k % 2) 1) (l.get (k / 2)) (r.get (k / 2 - 1)))

def Fr.puts : Nat → Fr → Nat → AV → Fr
  | 0, t, _, _ => t
  | n + 1, .nil, k, x => cond (Nat.beq k 0) (.node x .nil .nil) (cond (Nat.beq (k % 2) 1) (.node .dead (Fr.puts n .nil (k / 2) x) .nil) (.node .dead .nil (Fr.puts n .nil (k / 2 - 1) x)))
  | n + 1, .node v l r, k, x => cond (Nat.beq k 0) (.node x l r) (cond (Nat.beq (k % 2) 1) (.node v (Fr.puts n l (k / 2) x) r) (.node v l (Fr.puts n r (k / 2 - 1) x)))

def Fr.put (t : Fr) (k : Nat) (x : AV) : Fr := t.puts (k + 1) k x

theorem beq_iff {a b : Nat} : Nat.beq a b = decide (a = b) := by
  cases h : Nat.beq a b with
  | true => have := Nat.eq_of_beq_eq_true h; simp [this]
  | false => have := Nat.ne_of_beq_eq_false h; simp [this]

theorem Fr.get_puts : ∀ (n : Nat) (t : Fr) (k j : Nat) (x : AV), k + 1 < 2 ^ n → (t.puts n k x).get j = if k = j then x else t.get j
  | 0, t, k, j, x, h => by simp at h
  | n + 1, .nil, k, j, x, h => by
    have hp : 2 ^ (n + 1) = 2 * 2 ^ n := by rw [Nat.pow_succ]; omega
    simp only [Fr.puts, beq_iff]
    by_cases h0 : k = 0
    · subst h0
      simp only [decide_true, cond_true, Fr.get, beq_iff]
      by_cases hj : j = 0
      · subst hj; simp
      · rw [if_neg (Ne.symm hj)]; simp [hj]
    · simp only [h0, decide_false, cond_false]
      by_cases h1 : k % 2 = 1
      · simp only [h1, decide_true, cond_true, Fr.get, beq_iff]
        by_cases hj : j = 0
        · subst hj; rw [if_neg h0]; simp
        · simp only [hj, decide_false, cond_false]
          by_cases j1 : j % 2 = 1
          · simp only [j1, decide_true, cond_true]
            rw [Fr.get_puts n .nil _ _ x (by omega)]
            by_cases e : k = j
            · subst e; simp
            · rw [if_neg (by omega), if_neg e]; rfl
          · simp only [j1, decide_false, cond_false]
            rw [if_neg (by intro e; subst e; exact j1 h1)]
      · simp only [h1, decide_false, cond_false, Fr.get, beq_iff]
        by_cases hj : j = 0
        · subst hj; rw [if_neg h0]; simp
        · simp only [hj, decide_false, cond_false]
          by_cases j1 : j % 2 = 1
          · simp only [j1, decide_true, cond_true]
            rw [if_neg (by intro e; subst e; exact h1 j1)]
          · simp only [j1, decide_false, cond_false]
            rw [Fr.get_puts n .nil _ _ x (by omega)]
            by_cases e : k = j
            · subst e; simp
            · rw [if_neg (by omega), if_neg e]; rfl
  | n + 1, .node v l r, k, j, x, h => by
    have hp : 2 ^ (n + 1) = 2 * 2 ^ n := by rw [Nat.pow_succ]; omega
    simp only [Fr.puts, beq_iff]
    by_cases h0 : k = 0
    · subst h0
      simp only [decide_true, cond_true, Fr.get, beq_iff]
      by_cases hj : j = 0
      · subst hj; simp
      · rw [if_neg (Ne.symm hj)]; simp [hj]
    · simp only [h0, decide_false, cond_false]
      by_cases h1 : k % 2 = 1
      · simp only [h1, decide_true, cond_true, Fr.get, beq_iff]
        by_cases hj : j = 0
        · subst hj; rw [if_neg h0]; simp
        · simp only [hj, decide_false, cond_false]
          by_cases j1 : j % 2 = 1
          · simp only [j1, decide_true, cond_true]
            rw [Fr.get_puts n l _ _ x (by omega)]
            by_cases e : k = j
            · subst e; simp
            · rw [if_neg (by omega), if_neg e]
          · simp only [j1, decide_false, cond_false]
            rw [if_neg (by intro e; subst e; exact j1 h1)]
      · simp only [h1, decide_false, cond_false, Fr.get, beq_iff]
        by_cases hj : j = 0
        · subst hj; rw [if_neg h0]; simp
        · simp only [hj, decide_false, cond_false]
          by_cases j1 : j % 2 = 1
          · simp only [j1, decide_true, cond_true]
            rw [if_neg (by intro e; subst e; exact h1 j1)]
          · simp only [j1, decide_false, cond_false]
            rw [Fr.get_puts n r _ _ x (by omega)]
            by_cases e : k = j
            · subst e; simp
            · rw [if_neg (by omega), if_neg e]

theorem Fr.get_put {t : Fr} {k j : Nat} {x : AV} : (t.put k x).get j = if k = j then x else t.get j := Fr.get_puts (k + 1) t k j x Nat.lt_two_pow_self

def Fr.lay : List AV → Nat → Fr → Fr
  | [], _, t => t
  | a :: l, i, t => Fr.lay l (i + 1) (t.put i a)

theorem Fr.get_lay : ∀ (l : List AV) (i : Nat) (t : Fr) (j : Nat), (Fr.lay l i t).get j = if i ≤ j ∧ j < i + l.length then l[j - i]?.getD .dead else t.get j
  | [], i, t, j => by simp only [Fr.lay, List.length_nil, Nat.add_zero]; rw [if_neg (by omega)]
  | a :: l, i, t, j => by
    simp only [List.length_cons]
    rw [Fr.lay, Fr.get_lay l (i + 1) _ j, Fr.get_put]
    by_cases h1 : i = j
    · subst h1
      rw [if_neg (by omega), if_pos rfl, if_pos (by omega)]; simp
    · by_cases h2 : i + 1 ≤ j ∧ j < i + 1 + l.length
      · rw [if_pos h2, if_pos (by omega), show j - i = (j - (i + 1)) + 1 by omega, List.getElem?_cons_succ]
      · rw [if_neg h2, if_neg h1, if_neg (by omega)]

abbrev Slot := Nat × Blk
def noSlot : Slot := (0, .gone)
/-- What the heap holds under a key. -/
abbrev HR := Nat → Slot
abbrev Up := Nat × Slot

structure St where
  fr : Fr
  hp : List (Nat × Slot)
  nx : Nat
  deriving Inhabited

def hget : List (Nat × Slot) → Nat → Slot
  | [], _ => noSlot
  | (j, s) :: r, k => if j = k then s else hget r k
def hput : List (Nat × Slot) → Nat → Slot → List (Nat × Slot)
  | [], k, v => [(k, v)]
  | (j, s) :: r, k, v => if j = k then (k, v) :: r else (j, s) :: hput r k v

theorem hget_hput (l : List (Nat × Slot)) (n m : Nat) (v : Slot) : hget (hput l n v) m = if n = m then v else hget l m := by
  induction l with
  | nil => simp [hput, hget]
  | cons p l ih =>
    obtain ⟨j, s⟩ := p
    by_cases h : j = n
    · subst h
      simp only [hput, if_true, hget]
      by_cases h2 : j = m
      · simp [h2]
      · simp [h2]
    · simp only [hput, h, if_false, hget, ih]
      by_cases h2 : j = m
      · subst h2; simp; intro h3; exact absurd h3.symm h
      · simp [h2]

def St.h (st : St) : HR := hget st.hp
def upH (h : HR) : List Up → HR
  | [] => h
  | (k, s) :: r => upH (fun j => if k = j then s else h j) r
def upHp (hp : List (Nat × Slot)) : List Up → List (Nat × Slot)
  | [] => hp
  | (k, s) :: r => upHp (hput hp k s) r

theorem hget_upHp (hp : List (Nat × Slot)) (l : List Up) : hget (upHp hp l) = upH (hget hp) l := by
  induction l generalizing hp with
  | nil => rfl
  | cons p l ih =>
    obtain ⟨k, s⟩ := p
    simp only [upHp, upH, ih]
    congr 1
    funext j
    exact hget_hput hp k j s

/-! Plain values. -/

def aggS (l : List SV) : AV := .agg (l.map .s)
def unS : SV → AV
  | .agg l => aggS l
  | v => .s v

def cellV : Value → Bool
  | .agg _ | .tuple _ => false
  | _ => true

def ofC : Value → Option AV
  | .int k n => some (.s (.int k n))
  | .bool b => some (.s (.bool b))
  | .string s => some (.s (.str s.data.toList))
  | .slice none 0 0 => some .nsl
  | .pointer none => some (.s (.flat (.pointer none)))
  | .nilFunc => some (.s (.flat .nilFunc))
  | .nilIface => some (.s (.flat .nilIface))
  | .map none => some (.s (.flat (.map none)))
  | .func fn ⟨[]⟩ ⟨[]⟩ => some (.s (.flat (.func fn #[] #[])))
  | _ => none
def ofCs : List Value → Option (List AV)
  | [] => some []
  | v :: r => match ofC v, ofCs r with
    | some a, some l => some (a :: l)
    | _, _ => none
def ofV : Value → Option AV
  | .agg cs => (ofCs cs.toList).map .agg
  | .tuple ⟨[]⟩ => some (.s (.flat (.tuple #[])))
  | v => ofC v

def toS : SV → Option Value
  | .int k n => some (.int k n)
  | .bool b => some (.bool b)
  | .str l => some (.string ⟨⟨l⟩⟩)
  | .flat v => some v
  | _ => none
def toV : AV → Option Value
  | .s v => toS v
  | .nsl => some (.slice none 0 0)
  | _ => none

/-- The run of what looks at no memory. -/
def quiet {α : Type} (P : Program) : Sem α → Option α
  | .pure a => some a
  | .program k => quiet P (k P)
  | .mark _ k => quiet P k
  | _ => none

theorem quiet_run {α : Type} {P : Program} {s : Sem α} {a : α} (h : quiet P s = some a) (w : World) : s.run P w = .ok a w := by
  induction s with
  | pure b => simp only [quiet, Option.some.injEq] at h; subst h; rfl
  | program k ih => exact ih P h
  | mark m k ih => exact ih h
  | _ => simp [quiet] at h

/-! Types. -/
def tsize (P : Program) (t : TypeId) : Option Nat := (P.info? t).map (·.size)
def tbytes (P : Program) (t : TypeId) : Option Nat := (P.info? t).map (·.bytes)
def tagg (P : Program) (t : TypeId) : Option Bool :=
  match P.underlying t with
  | some (.struct _) | some (.array _ _) => some true
  | some _ => some false
  | none => none
def tzero (P : Program) (t : TypeId) : Option AV := (P.info? t).bind fun i => i.zero.bind ofV

def cellsA : AV → Option (List AV)
  | .agg l => some l
  | .tup _ | .dead => none
  | .s (.agg l) => some (l.map .s)
  | .s (.flat (.tuple _)) | .s (.flat (.agg _)) => none
  | x => some [x]

/-! Sealing. -/
abbrev Frz := List (Nat × Nat)

mutual
def sealA : Nat → HR → AV → Option (SV × Frz)
  | _, _, .s v => some (v, [])
  | _, _, .nsl => some (.ssl [], [])
  | _, _, .xsl rows => some (.ssl rows, [])
  | _, h, .lsl k s row len _ =>
    match h k with
    | (s', .arr _ rows _) => if s' = s ∧ row + len ≤ rows.length then some (.ssl ((rows.drop row).take len), [(k, row + len)]) else none
    | _ => none
  | n + 1, h, .ref k s row off =>
    match h k with
    | (s', .arr _ rows _) =>
      if s' = s then match rows[row]? with
        | some r => some (.sp (r.drop off), [(k, row + 1)])
        | none => none
      else none
    | (s', .var cells _) =>
      if s' = s ∧ row = 0 then match sealAs n h (cells.drop off) with
        | some (l, f) => some (.sp l, (k, 1) :: f)
        | none => none
      else none
    | _ => none
  | n + 1, h, .agg l => match sealAs n h l with
    | some (l, f) => some (.agg l, f)
    | none => none
  | n + 1, h, .iface t v => match sealA n h v with
    | some (v, f) => some (.iface t v, f)
    | none => none
  | n + 1, h, .clo fn a c => match sealAs n h a, sealAs n h c with
    | some (a, f), some (c, g) => some (.clo fn a c, f ++ g)
    | _, _ => none
  | _, _, _ => none
def sealAs : Nat → HR → List AV → Option (List SV × Frz)
  | _, _, [] => some ([], [])
  | n + 1, h, a :: l => match sealA n h a, sealAs n h l with
    | some (v, f), some (r, g) => some (v :: r, f ++ g)
    | _, _ => none
  | 0, _, _ :: _ => none
end

def frzB : Blk → Nat → Blk
  | .var c _, _ => .var c true
  | .arr w rows fz, n => .arr w rows (max fz n)
  | .gone, _ => .gone

/-- Freezing as updates. -/
def frzUps (h : HR) : Frz → List Up
  | [] => []
  | (k, n) :: r => let s := ((h k).1, frzB (h k).2 n); (k, s) :: frzUps (upH h [(k, s)]) r

/-! Reading memory. -/
def cellsAt (h : HR) : AV → Option (List AV)
  | .ref k s row off =>
    match h k with
    | (s', .var cells _) => if s' = s ∧ row = 0 then some (cells.drop off) else none
    | (s', .arr _ rows _) => if s' = s then (rows[row]?).map fun r => (r.drop off).map .s else none
    | _ => none
  | .s (.sp l) => some (l.map .s)
  | _ => none

/-- The rows that a slice shows. -/
def rowsOf (h : HR) : AV → Option (List (List SV))
  | .nsl => some []
  | .xsl rows => some rows
  | .s (.ssl rows) => some rows
  | .lsl k s row len _ =>
    match h k with
    | (s', .arr _ rows _) => if s' = s ∧ row + len ≤ rows.length then some ((rows.drop row).take len) else none
    | _ => none
  | _ => none

def byteRow (b : UInt8) : List SV := [.int .u8 b.toNat]
def strRows (l : List UInt8) : List (List SV) := l.map byteRow

def lenA : AV → Option Nat
  | .nsl => some 0
  | .xsl rows => some rows.length
  | .s (.ssl rows) => some rows.length
  | .lsl _ _ _ len _ => some len
  | _ => none
def strLen : AV → Option Nat
  | .s (.str l) => some l.length
  | _ => none

def splice {α : Type} (l : List α) (i : Nat) (v : List α) : List α := l.take i ++ v ++ l.drop (i + v.length)

def natOf : AV → Option Nat
  | .s (.int _ n) => if 0 ≤ n then some n.toNat else none
  | _ => none


/-! Renaming of keys and stamps. -/
mutual
def keysA : AV → List Nat
  | .ref k _ _ _ => [k]
  | .lsl k _ _ _ _ => [k]
  | .agg l => keysAs l
  | .tup l => keysAs l
  | .iface _ v => keysA v
  | .clo _ a c => keysAs a ++ keysAs c
  | _ => []
def keysAs : List AV → List Nat
  | [] => []
  | a :: l => keysA a ++ keysAs l
end

def keysB : Blk → List Nat
  | .var cells _ => keysAs cells
  | _ => []

def nodup : List Nat → Bool
  | [] => true
  | k :: l => !l.contains k && nodup l

def reach : Nat → HR → List Nat → List Nat → List Nat
  | 0, _, _, acc => acc
  | _ + 1, _, [], acc => acc
  | n + 1, h, k :: r, acc => if acc.contains k then reach n h r acc else reach n h (keysB (h k).2 ++ r) (acc ++ [k])

/-- (key, stamp) to (key, stamp). -/
abbrev Ren := List ((Nat × Nat) × (Nat × Nat))
def Ren.at (σ : Ren) (k s : Nat) : Option (Nat × Nat) :=
  match σ with
  | [] => none
  | ((k', s'), r) :: l => if k' = k ∧ s' = s then some r else Ren.at l k s

mutual
def renA (σ : Ren) : AV → AV
  | .ref k s row off => match σ.at k s with
    | some (k', s') => .ref k' s' row off
    | none => .dead
  | .lsl k s row len cap => match σ.at k s with
    | some (k', s') => .lsl k' s' row len cap
    | none => .dead
  | .agg l => .agg (renAs σ l)
  | .tup l => .tup (renAs σ l)
  | .iface t v => .iface t (renA σ v)
  | .clo fn a c => .clo fn (renAs σ a) (renAs σ c)
  | v => v
def renAs (σ : Ren) : List AV → List AV
  | [] => []
  | a :: l => renA σ a :: renAs σ l
end

def renB (σ : Ren) : Blk → Blk
  | .var cells fz => .var (renAs σ cells) fz
  | b => b

/-- What a call answers: a value, and the blocks: those that were handed in (has the stamp turned?), then new ones. -/
abbrev Outs := List (Blk × Bool)
abbrev Call := FuncId → List AV → List Blk → Option (AV × Outs)

structure Env where
  P : Program
  glob : Nat → Option (List SV)
  /-- Are blocks handed in (true), or is all sealed? -/
  lend : FuncId → Bool
  /-- Is what is answered handed out as it is (true), or sealed? -/
  raw : FuncId → Bool
  call : Call

def room : Nat := 64
/-- The keys of new blocks that a call at slot t hands out. -/
def newKey (t j : Nat) : Nat := if j = 0 then t else 4096 + room * t + j

def toRen (h : HR) (keys : List Nat) : Ren := keys.zipIdx.map fun (k, i) => ((k, (h k).1), (i, i))

/-- The names of what comes back: m were handed in under 'keys'. -/
def backRen (h : HR) (keys : List Nat) (t base : Nat) (outs : Outs) : Ren :=
  outs.zipIdx.map fun (o, i) =>
    ((i, i), match keys[i]? with
      | some k => (k, if o.2 then base + i else (h k).1)
      | none => (newKey t (i - keys.length), base + i))

def backUps (σ : Ren) (outs : Outs) : List Up :=
  outs.zipIdx.filterMap fun (o, i) => (σ.at i i).map fun (k, s) => (k, (s, renB σ o.1))

/-- All parts of a value sealed, a struct's cells one by one. -/
def sealArgs (h : HR) : List AV → Option (List AV × Frz)
  | [] => some ([], [])
  | a :: l => match sealA room h a, sealArgs h l with
    | some (v, f), some (r, g) => some (unS v :: r, f ++ g)
    | _, _ => none

def Blk.live : Blk → Bool
  | .gone => false
  | _ => true

/-- A call of a function with a body. -/
def enterA (E : Env) (h : HR) (t base : Nat) (f : FuncId) (args : List AV) : Option (AV × List Up) :=
  if E.lend f then
    let keys := reach room h (keysAs args) []
    let σ := toRen h keys
    match E.call f (renAs σ args) (keys.map fun k => renB σ (h k).2) with
    | some (r, outs) =>
      if outs.length ≤ room ∧ nodup keys = true ∧ keys.length ≤ outs.length ∧ keys.all (fun k => (h k).2.live) = true then
        let τ := backRen h keys t base outs
        some (renA τ r, backUps τ outs)
      else none
    | none => none
  else
    match sealArgs h args with
    | some (as, fz) =>
      match E.call f as [] with
      | some (r, outs) =>
        if outs.length ≤ room then
          let τ := backRen h [] t base outs
          some (renA τ r, frzUps h fz ++ backUps τ outs)
        else none
      | none => none
    | none => none

end Go.Proofs.Ytbfdokfelolmbaa.Vai
end

section
namespace Go.Proofs.Ytbfdokfelolmbaa.Vai

/-! The abstract operations. -/

def und : AV := .s (.flat (.tuple #[]))

def evA (glob : Nat → Option (List SV)) (F : Nat → AV) : Operand → AV
  | .tmp t => F t
  | .const v => (ofV v).getD .dead
  | .global g => match glob g with | some l => .s (.sp l) | none => .dead
  | .func f => .s (.flat (.func (.func f) #[] #[]))

/-- An operation on plain values: the model's own. -/
def flatA (P : Program) (ρ : Operand → AV) (o : Oper) : Option AV :=
  if o.op.operands.toList.all (fun x => (toV (ρ x)).isSome) then
    match quiet P (execOp (fun x => (toV (ρ x)).getD (.tuple #[])) o) with
    | some (.value v) => ofV v
    | _ => none
  else none

def partA (P : Program) (t : TypeId) (l : List AV) (off : Nat) : Option AV :=
  match tagg P t, tsize P t with
  | some true, some n => if off + n ≤ l.length then some (.agg ((l.drop off).take n)) else none
  | some false, some _ => l[off]?
  | _, _ => none

def fieldOf (P : Program) (t : TypeId) (f : Nat) : Option Field :=
  match P.underlying t with
  | some (.struct fs) => fs[f]?
  | _ => none

def fillA (place : Nat → Option (Nat × Nat)) (cells : List AV) : List (Nat × AV) → Option (List AV)
  | [] => some cells
  | (i, v) :: rest =>
    match place i, cellsA v with
    | some (off, size), some vs => if vs.length = size ∧ off + vs.length ≤ cells.length then fillA place (splice cells off vs) rest else none
    | _, _ => none

def chunk {α : Type} (w : Nat) : Nat → List α → List (List α)
  | 0, _ => []
  | n + 1, l => l.take w :: chunk w n (l.drop w)

def buildA (P : Program) (t : TypeId) (parts : List (Nat × AV)) : Option AV :=
  match (tzero P t).bind cellsA, P.underlying t with
  | some zero, some (.struct fs) =>
    if fs.toList.all (fun f => (tsize P f.type).isSome) then
      (fillA (fun i => (fs.toList.map fun f => (f.offset, (tsize P f.type).getD 0))[i]?) zero parts).map .agg
    else none
  | some zero, some (.array _ e) =>
    match tsize P e with
    | some n => (fillA (fun i => some (i * n, n)) zero parts).map .agg
    | none => none
  | _, _ => none

def elemA (P : Program) (t : TypeId) : Option TypeId :=
  match P.underlying t with
  | some (.slice e) => some e
  | _ => none

def buildSliceA (P : Program) (h : HR) (k s : Nat) (t : TypeId) (len : Nat) (parts : List (Nat × AV)) : Option (AV × List Up) :=
  match elemA P t with
  | some e => match tsize P e, (tzero P e).bind cellsA with
    | some w, some zero =>
      if len * w ≤ 16777216 ∧ zero.length = w then
        match fillA (fun i => some (i * w, w)) ((List.replicate len zero).flatten) parts with
        | some cells => match sealAs room h cells with
          | some (l, f) => some (.lsl k s 0 len (some len), frzUps h f ++ [(k, (s, .arr w (chunk w len l) 0))])
          | none => none
        | none => none
      else none
    | _, _ => none
  | none => none

def loadA (P : Program) (h : HR) (t : TypeId) (a : AV) : Option AV :=
  match cellsAt h a with
  | some l => partA P t l 0
  | none => none

def storeA (P : Program) (h : HR) (t : TypeId) (a v : AV) : Option (List Up) :=
  match a, cellsA v, tsize P t with
  | .ref k s row off, some vs, some n =>
    if vs.length = n then
      match h k with
      | (s', .var cells fz) =>
        if s' = s ∧ row = 0 ∧ fz = false ∧ off + n ≤ cells.length then some [(k, (s, .var (splice cells off vs) false))] else none
      | (s', .arr w rows fz) =>
        if s' = s ∧ fz ≤ row then
          match rows[row]?, sealAs room h vs with
          | some r, some (l, f) =>
            if off + n ≤ r.length ∧ (f.all fun p => p.1 ≠ k) then some (frzUps h f ++ [(k, (s, .arr w (rows.set row (splice r off l)) fz))]) else none
          | _, _ => none
        else none
      | _ => none
    else none
  | _, _, _ => none

def fieldAddrA (P : Program) (t : TypeId) (a : AV) (f : Nat) : Option AV :=
  match fieldOf P t f with
  | some fl => match tsize P fl.type with
    | some (_ + 1) => match a with
      | .ref k s row off => some (.ref k s row (off + fl.offset))
      | .s (.sp l) => some (.s (.sp (l.drop fl.offset)))
      | _ => none
    | _ => none
  | none => none

def indexAddrA (P : Program) (h : HR) (t : TypeId) (x ix : AV) : Option AV :=
  match natOf ix, P.underlying t with
  | some i, some (.array len e) =>
    match tsize P e with
    | some n => if i < len then match x with
      | .ref k s row off => some (.ref k s row (off + i * n))
      | .s (.sp l) => some (.s (.sp (l.drop (i * n))))
      | _ => none else none
    | none => none
  | some i, some (.slice e) =>
    match tsize P e with
    | some n => match x with
      | .lsl k s row len _ => match h k with
        | (s', .arr w _ _) => if s' = s ∧ w = n ∧ i < len then some (.ref k s (row + i) 0) else none
        | _ => none
      | .xsl rows => match rows[i]? with | some r => if r.length = n then some (.s (.sp r)) else none | none => none
      | .s (.ssl rows) => match rows[i]? with | some r => if r.length = n then some (.s (.sp r)) else none | none => none
      | _ => none
    | none => none
  | _, _ => none

/-- low, high, and max where it stands there. -/
def cutRows (rows : List (List SV)) (l h : Nat) : List (List SV) := (rows.drop l).take (h - l)
def rowsFit (n : Nat) (rows : List (List SV)) : Bool := match rows with | [] => true | r :: _ => r.length == n
def atW (h : HR) (k s n : Nat) : Bool := match h k with | (s', .arr w _ _) => s' == s && w == n | _ => false

def cutA (h : HR) (n : Nat) (x : AV) (l hh : Nat) (mx : Option Nat) : Option AV :=
  if l ≤ hh then
    match x, mx with
    | .nsl, none => if hh = 0 then some .nsl else none
    | .nsl, some m => if hh = 0 ∧ m = 0 then some .nsl else none
    | .xsl rows, none => if hh ≤ rows.length ∧ rowsFit n rows then some (if hh = rows.length then .xsl (cutRows rows l hh) else .s (.ssl (cutRows rows l hh))) else none
    | .xsl rows, some m => if hh ≤ m ∧ m ≤ rows.length ∧ rowsFit n rows then some (if hh = m then .xsl (cutRows rows l hh) else .s (.ssl (cutRows rows l hh))) else none
    | .s (.ssl rows), none => if hh ≤ rows.length ∧ rowsFit n rows then some (.s (.ssl (cutRows rows l hh))) else none
    | .s (.ssl rows), some m => if hh ≤ m ∧ m ≤ rows.length ∧ rowsFit n rows then some (if hh = m then .xsl (cutRows rows l hh) else .s (.ssl (cutRows rows l hh))) else none
    | .lsl k s row _ (some c), none =>
      if hh ≤ c ∧ atW h k s n then some (if l = c then .xsl [] else .lsl k s (row + l) (hh - l) (some (c - l))) else none
    | .lsl k s row _ (some c), some m =>
      if hh ≤ m ∧ m ≤ c ∧ atW h k s n then some (if l = m then .xsl [] else .lsl k s (row + l) (hh - l) (some (m - l))) else none
    | .lsl k s row len none, none =>
      if hh ≤ len ∧ atW h k s n then some (if l = len then .s (.ssl []) else .lsl k s (row + l) (hh - l) none) else none
    | .lsl k s row len none, some m =>
      if hh ≤ m ∧ m ≤ len ∧ atW h k s n then some (if l = m then .xsl [] else .lsl k s (row + l) (hh - l) (some (m - l))) else none
    | _, _ => none
  else none

def optNat (d : Nat) : Option AV → Option Nat
  | none => some d
  | some v => natOf v

def sliceA (P : Program) (h : HR) (t : TypeId) (x : AV) (lo hi mx : Option AV) : Option AV :=
  match (elemA P t).bind (tsize P), lenA x with
  | some n, some len =>
    match optNat 0 lo, optNat len hi, mx with
    | some l, some hh, none => cutA h n x l hh none
    | some l, some hh, some v => if hi.isSome then match natOf v with
      | some m => cutA h n x l hh (some m)
      | none => none else none
    | _, _, _ => none
  | _, _ => none

def makeSliceA (P : Program) (k s : Nat) (t : TypeId) (len cap : AV) : Option (AV × List Up) :=
  match elemA P t, natOf len, natOf cap with
  | some e, some l, some c =>
    match tsize P e, tbytes P e, (tzero P e).bind cellsA with
    | some (w + 1), some b, some zero =>
      if l ≤ c ∧ c * b ≤ 140737488355328 ∧ c ≤ 140737488355328 ∧ zero.length = w + 1 then
        match sealAs room (fun _ => noSlot) zero with
        | some (z, []) => some (.lsl k s 0 l (some c), [(k, (s, .arr (w + 1) (List.replicate c z) 0))])
        | _ => none
      else none
    | _, _, _ => none
  | _, _, _ => none

/-- Rows written over rows, from a place on. -/
def appRows (h : HR) : AV → Option (List (List SV))
  | .s (.str l) => some (strRows l)
  | x => rowsOf h x

def isSl : AV → Bool
  | .nsl | .xsl _ | .s (.ssl _) | .lsl _ _ _ _ _ => true
  | _ => false

def capOk (cap : Option Nat) (n : Nat) : Bool :=
  match cap with
  | some c => n ≤ c
  | none => true

def appendA (P : Program) (h : HR) (k s : Nat) (ts : List TypeId) (a x : AV) : Option (AV × List Up) :=
  match ts with
  | [t, u] => match elemA P t, P.underlying u with
    | some _, some (.int _) => none
    | some e, some _ => match tsize P e, tbytes P e, appRows h x with
      | some (w + 1), some b, some xs =>
        if ((tzero P e).bind cellsA).map List.length = some (w + 1) then
        if xs = [] then (if isSl a then some (a, []) else none) else
        if xs.all (fun r => r.length == w + 1) then
          match a with
          | .nsl => grow w b [] xs
          | .xsl rows => if rows.all (fun r => r.length == w + 1) then grow w b rows xs else none
          | .lsl k' s' row len cap =>
            match h k' with
            | (s'', .arr w' rows fz) =>
              if s'' = s' ∧ w' = w + 1 then
                if row + len + xs.length ≤ rows.length ∧ capOk cap (len + xs.length) then
                  if fz ≤ row + len then
                    some (.lsl k' s' row (len + xs.length) cap, [(k', (s', .arr w' (splice rows (row + len) xs) fz))])
                  else none
                else match cap with
                  | some c => if c < len + xs.length ∧ row + len ≤ rows.length then grow w b ((rows.drop row).take len) xs else none
                  | none =>
                    if row = 0 ∧ len = rows.length ∧ fz ≤ len ∧ fits b (len + xs.length) then
                      some (.lsl k' s 0 (len + xs.length) none, [(k', (s, .arr w' (rows ++ xs) fz))])
                    else none
              else none
            | _ => none
          | _ => none
        else none
        else none
      | _, _, _ => none
    | _, _ => none
  | _ => none
where
  fits (b n : Nat) : Bool := (2 * n + 1024) * b ≤ 140737488355328 && n ≤ 140737488355328
  grow (w b : Nat) (rows xs : List (List SV)) : Option (AV × List Up) :=
    if fits b (rows.length + xs.length) then some (.lsl k s 0 (rows.length + xs.length) none, [(k, (s, .arr (w + 1) (rows ++ xs) 0))]) else none

def intA (n : Nat) : AV := .s (.int .i64 n)

def lenOpA (P : Program) (t : TypeId) (x : AV) : Option AV :=
  match P.underlying t with
  | some .string => (strLen x).map intA
  | some (.slice _) => (lenA x).map intA
  | some (.array n _) => some (.s (.int .i64 n))
  | _ => none

def capOpA (P : Program) (t : TypeId) (x : AV) : Option AV :=
  match P.underlying t, x with
  | some (.slice _), .nsl => some (.s (.int .i64 0))
  | some (.slice _), .xsl rows => some (.s (.int .i64 rows.length))
  | some (.slice _), .lsl _ _ _ _ (some c) => some (.s (.int .i64 c))
  | _, _ => none

def copyA (P : Program) (h : HR) (t : TypeId) (d x : AV) : Option (AV × List Up) :=
  match elemA P t with
  | some e => match tsize P e, appRows h x with
    | some w, some xs => match d with
      | .nsl => some (.s (.int .i64 0), [])
      | .lsl k s row len _ => match h k with
        | (s', .arr w' rows fz) =>
          let n := min xs.length len
          if s' = s ∧ w' = w ∧ row + len ≤ rows.length ∧ fz ≤ row ∧ xs.all (fun r => r.length == w) then
            some (.s (.int .i64 n), [(k, (s, .arr w' (splice rows row (xs.take n)) fz))])
          else none
        | _ => none
      | _ => none
    | _, _ => none
  | none => none

def clearA (P : Program) (h : HR) (t : TypeId) (d : AV) : Option (AV × List Up) :=
  match elemA P t with
  | some e => match tsize P e, (tzero P e).bind cellsA with
    | some w, some zero => match d with
      | .nsl => some (und, [])
      | .lsl k s row len _ =>
        if len = 0 then some (und, []) else
        match h k, sealAs room (fun _ => noSlot) zero with
        | (s', .arr w' rows fz), some (z, []) =>
          if s' = s ∧ w' = w ∧ row + len ≤ rows.length ∧ fz ≤ row ∧ zero.length = w then
            some (und, [(k, (s, .arr w' (splice rows row (List.replicate len z)) fz))])
          else none
        | _, _ => none
      | .s (.ssl []) | .xsl [] => some (und, [])
      | _ => none
    | _, _ => none
  | none => none

def convertA (P : Program) (h : HR) (k s : Nat) (src dst : TypeId) (x : AV) : Option (AV × List Up) :=
  match P.underlying src, P.underlying dst, x with
  | some .string, some (.slice e), .s (.str l) =>
    match P.underlying e with
    | some (.int .u8) => if l.length ≤ 70368744177664 then some (.lsl k s 0 l.length none, [(k, (s, .arr 1 (strRows l) 0))]) else none
    | _ => none
  | some (.slice e), some .string, x =>
    match P.underlying e, rowsOf h x with
    | some (.int .u8), some rows => (bytesOf rows).map fun l => (.s (.str l), [])
    | _, _ => none
  | _, _, _ => none
where
  bytesOf : List (List SV) → Option (List UInt8)
    | [] => some []
    | [.int .u8 n] :: r => (bytesOf r).map fun l => UInt8.ofNat n.toNat :: l
    | _ => none

/-- What is known to be nil, and known not to be. -/
def isNilA : TypeDesc → AV → Bool
  | .interface _, .s (.flat .nilIface) => true
  | .pointer _, .s (.flat (.pointer none)) => true
  | .func _ _ _, .s (.flat .nilFunc) => true
  | .slice _, .nsl => true
  | _, _ => false
def nonNilA : TypeDesc → AV → Bool
  | .interface _, .iface _ _ | .interface _, .s (.iface _ _) => true
  | .pointer _, .ref _ _ _ _ | .pointer _, .s (.sp _) => true
  | .func _ _ _, .clo _ _ _ | .func _ _ _, .s (.clo _ _ _) => true
  | .slice _, .lsl _ _ _ _ _ | .slice _, .s (.ssl (_ :: _)) | .slice _, .xsl (_ :: _) => true
  | _, _ => false

def eqNilA (P : Program) (op : BinOp) (t : TypeId) (x y : AV) : Option AV :=
  match P.underlying t with
  | some d =>
    if (isNilA d x && nonNilA d y) || (nonNilA d x && isNilA d y) then
      match op with
      | .eql => some (.s (.bool false))
      | .neq => some (.s (.bool true))
      | _ => none
    else none
  | none => none

def ifaceView : AV → Option (TypeId × AV)
  | .iface t v => some (t, v)
  | .s (.iface t v) => some (t, unS v)
  | _ => none

def cloView : AV → Option (Fn × List AV × List AV)
  | .clo fn a c => some (fn, a, c)
  | .s (.clo fn a c) => some (fn, a.map unS, c.map unS)
  | .s (.flat (.func fn ⟨[]⟩ ⟨[]⟩)) => some (fn, [], [])
  | _ => none

/-- The way from a value of a type to an embedded part, no pointer on it. -/
def followA (P : Program) : List FieldStep → TypeId → AV → Option (TypeId × AV)
  | [], t, x => some (t, x)
  | st :: rest, _, x =>
    if st.deref then none else
    match fieldOf P st.struct st.index, x with
    | some f, .agg l => match partA P f.type l f.offset with
      | some y => followA P rest f.type y
      | none => none
    | _, _ => none

def methodA (P : Program) : Nat → TypeId → AV → String → Option (FuncId × AV)
  | 0, _, _, _ => none
  | n + 1, t, v, name =>
    match P.info? t with
    | none => none
    | some i => match i.methods.find? (·.name == name) with
      | none => none
      | some m => match followA P m.path.toList t v with
        | none => none
        | some (xt, x) => match m.func with
          | none => match ifaceView x with
            | some (t', v') => methodA P n t' v' name
            | none => none
          | some (f, ptr) => match P.underlying xt, ptr with
            | some (.pointer _), true => some (f, x)
            | some (.pointer _), false => none
            | some _, false => some (f, x)
            | _, _ => none

def bodied (P : Program) (f : FuncId) : Bool :=
  match P.funcs[f]? with
  | some fn => fn.body.isSome && fn.name != "runtime.NumGoroutine"
  | none => false

/-- Whom a call calls, with what. -/
def targetA (P : Program) (ρ : Operand → AV) (c : Go.Call) : Option (FuncId × List AV) :=
  match c.callee with
  | .value f => match cloView (ρ f) with
    | some (.func g, a, cs) => some (g, a ++ (c.args.toList.map ρ) ++ cs)
    | some (.methodOf t name, a, []) => match a ++ c.args.toList.map ρ, P.underlying t with
      | _, some (.interface _) => none
      | x :: rest, some _ => (methodA P (P.types.size + Made.depth) t x name).map fun (g, r) => (g, r :: rest)
      | _, _ => none
    | some (.via t path g false, a, []) => match a ++ c.args.toList.map ρ with
      | x :: rest => match followA P path.toList t x with
        | some (xt, y) => match P.underlying xt with
          | some (.pointer _) => none
          | some _ => some (g, y :: rest)
          | none => none
        | none => none
      | _ => none
    | some (.via t path g true, a, []) => match a ++ c.args.toList.map ρ with
      | x :: rest => match followA P path.toList t x with
        | some (xt, y) => match P.underlying xt with
          | some (.pointer _) => some (g, y :: rest)
          | _ => none
        | none => none
      | _ => none
    | _ => none
  | .invoke r name => match ifaceView (ρ r) with
    | some (t, v) => (methodA P (P.types.size + Made.depth) t v name).map fun (g, x) => (g, x :: c.args.toList.map ρ)
    | none => none
  | .builtin _ => none

def callA (E : Env) (ρ : Operand → AV) (h : HR) (k s : Nat) (c : Go.Call) : Option (AV × List Up) :=
  match c.callee with
  | .builtin b =>
    match b, c.argTypes.toList, c.args.toList.map ρ with
    | .append, ts, [a, x] => appendA E.P h k s ts a x
    | .len, t :: _, x :: _ => (lenOpA E.P t x).map fun v => (v, [])
    | .cap, t :: _, x :: _ => (capOpA E.P t x).map fun v => (v, [])
    | .copy, t :: _, [d, x] => copyA E.P h t d x
    | .clear, t :: _, [d] => clearA E.P h t d
    | _, _, _ => none
  | _ => match targetA E.P ρ c with
    | some (f, args) => if bodied E.P f then enterA E h k s f args else none
    | none => none

def mkFunc (fn : Fn) : List AV → List AV → AV
  | [], [] => .s (.flat (.func fn #[] #[]))
  | a, c => .clo fn a c

/-! Numbers, texts and truths, straight. -/
def ariA (op : BinOp) (k : IntKind) (a b : Int) : Option SV :=
  match op with
  | .add => some (.int k (k.wrap (a + b)))
  | .sub => some (.int k (k.wrap (a - b)))
  | .mul => some (.int k (k.wrap (a * b)))
  | .quo => if b = 0 then none else some (.int k (k.wrap (a.tdiv b)))
  | .rem => if b = 0 then none else some (.int k (a.tmod b))
  | .eql => some (.bool (decide (a = b)))
  | .neq => some (.bool (!decide (a = b)))
  | .lss => some (.bool (decide (a < b)))
  | .leq => some (.bool (decide (a ≤ b)))
  | .gtr => some (.bool (decide (b < a)))
  | .geq => some (.bool (decide (b ≤ a)))
  | _ => none
def strA (op : BinOp) (a b : List UInt8) : Option SV :=
  match op with
  | .add => if a.length + b.length ≤ 9223372036854775807 then some (.str (a ++ b)) else none
  | .eql => some (.bool (a == b))
  | .neq => some (.bool (!(a == b)))
  | .lss => some (.bool (Op.bytesLess a b))
  | .leq => some (.bool (Op.bytesLess a b || a == b))
  | .gtr => some (.bool (!(Op.bytesLess a b || a == b)))
  | .geq => some (.bool (!Op.bytesLess a b))
  | _ => none
def boolA (op : BinOp) (a b : Bool) : Option SV :=
  match op with
  | .eql => some (.bool (a == b))
  | .neq => some (.bool (!(a == b)))
  | _ => none
def binA (op : BinOp) : AV → AV → Option SV
  | .s (.int k a), .s (.int k' b) => if k = k' then ariA op k a b else none
  | .s (.str a), .s (.str b) => strA op a b
  | _, _ => none
def intOf : AV → Option Int
  | .s (.int _ n) => some n
  | _ => none
/-- A bound that is told, from 0 to a length; else the default. -/
def boundA (y d : Nat) : Option AV → Option Nat
  | none => some d
  | some x => match intOf x with
    | some i => if 0 ≤ i ∧ i ≤ y then some i.toNat else none
    | none => none
def fastA (P : Program) (ρ : Operand → AV) (op : Op) : Option SV :=
  match op with
  | .binOp op _ x y _ => binA op (ρ x) (ρ y)
  | .unOp .not _ x => match ρ x with
    | .s (.bool b) => some (.bool (!b))
    | _ => none
  | .index t x ix => match ρ x, intOf (ρ ix) with
    | .s (.str l), some i => match P.underlying t with
      | some .string => if 0 ≤ i then (l[i.toNat]?).map fun b => .int .u8 b.toNat else none
      | _ => none
    | _, _ => none
  | .slice t x lo hi none => match ρ x with
    | .s (.str l) => match P.underlying t with
      | some .string => match boundA l.length l.length (hi.map ρ) with
        | some h => match boundA h 0 (lo.map ρ) with
          | some b => some (.str ((l.drop b).take (h - b)))
          | none => none
        | none => none
      | _ => none
    | _ => none
  | _ => none

def slowOp (E : Env) (ρ : Operand → AV) (h : HR) (k s : Nat) (o : Oper) : Option (AV × List Up) :=
  let v (x : Option AV) : Option (AV × List Up) := x.map fun x => (x, [])
  match o.op with
  | .move x | .assign x => some (ρ x, [])
  | .pick c a b => match ρ c with
    | .s (.bool true) => some (ρ a, [])
    | .s (.bool false) => some (ρ b, [])
    | _ => none
  | .alloc t => match (tzero E.P t).bind cellsA with
    | some z => some (.ref k s 0 0, [(k, (s, .var z false))])
    | none => none
  | .box _ x => match cellsA (ρ x) with
    | some z => some (.ref k s 0 0, [(k, (s, .var z false))])
    | none => none
  | .build t parts => v (buildA E.P t (parts.toList.map fun p => (p.1, ρ p.2)))
  | .buildSlice t len parts => buildSliceA E.P h k s t len (parts.toList.map fun p => (p.1, ρ p.2))
  | .load t a => v (loadA E.P h t (ρ a))
  | .store t a x => (storeA E.P h t (ρ a) (ρ x)).map fun u => (und, u)
  | .nilCheck x => match ρ x with
    | .ref k s r f => some (.ref k s r f, [])
    | .s (.sp l) => some (.s (.sp l), [])
    | .clo (.func f) a c => some (.clo (.func f) a c, [])
    | .s (.clo (.func f) a c) => some (.s (.clo (.func f) a c), [])
    | .s (.flat (.func (.func f) a c)) => some (.s (.flat (.func (.func f) a c)), [])
    | .iface t x => some (.iface t x, [])
    | .s (.iface t x) => some (.s (.iface t x), [])
    | _ => none
  | .makeInterface t x => match E.P.underlying t, ρ x with
    | some (.interface _), _ => none
    | _, .dead => none
    | some _, x => some (.iface t x, [])
    | none, _ => none
  | .makeFunc fn a c => some (mkFunc fn (a.toList.map ρ) (c.toList.map ρ), [])
  | .makeSlice t l c => makeSliceA E.P k s t (ρ l) (ρ c)
  | .slice t x lo hi mx => match E.P.underlying t with
    | some (.slice _) => v (sliceA E.P h t (ρ x) (lo.map ρ) (hi.map ρ) (mx.map ρ))
    | _ => v (flatA E.P ρ o)
  | .fieldAddr t x f => v (fieldAddrA E.P t (ρ x) f)
  | .field t x f => match fieldOf E.P t f, ρ x with
    | some fl, .agg l => v (partA E.P fl.type l fl.offset)
    | _, _ => none
  | .indexAddr t x ix => v (indexAddrA E.P h t (ρ x) (ρ ix))
  | .index t x ix => match E.P.underlying t with
    | some (.array n e) => match natOf (ρ ix), tsize E.P e, ρ x with
      | some i, some w, .agg l => if i < n then v (partA E.P e l (i * w)) else none
      | _, _, _ => none
    | _ => v (flatA E.P ρ o)
  | .extract x i => match ρ x with
    | .tup l => v l[i]?
    | _ => none
  | .convert src dst x => match convertA E.P h k s src dst (ρ x) with
    | some r => some r
    | none => v (flatA E.P ρ o)
  | .binOp op t x y _ => match eqNilA E.P op t (ρ x) (ρ y) with
    | some r => some (r, [])
    | none => v (flatA E.P ρ o)
  | .call c => match callA E ρ h k s c with
    | some r => some r
    | none => match c.callee with
      | .builtin .min | .builtin .max => v (flatA E.P ρ o)
      | _ => none
  | .unOp .. => v (flatA E.P ρ o)
  | _ => none

def absOp (E : Env) (ρ : Operand → AV) (h : HR) (k s : Nat) (o : Oper) : Option (AV × List Up) :=
  match fastA E.P ρ o.op with
  | some x => some (.s x, [])
  | none => slowOp E ρ h k s o

end Go.Proofs.Ytbfdokfelolmbaa.Vai
end

section
namespace Go.Proofs.Ytbfdokfelolmbaa.Vai

/-! Regions, code, calls. -/

def St.F (st : St) : Nat → AV := st.fr.get

def guardA (ops : Array Oper) (F : Nat → AV) (o : Oper) : Option Bool :=
  match o.guard with
  | none => some true
  | some (j, want) =>
    match (ops[j]?).bind (·.dst) with
    | none => some false
    | some d => match F d with
      | .s (.bool b) => some (b == want)
      | .s (.flat (.tuple _)) => some false
      | _ => none

def putA (nt : Nat) (fr : Fr) (d : Option Tmp) (v : AV) : Option Fr :=
  match d with
  | none => some fr
  | some d => cond (Nat.ble (d + 1) nt) (some (fr.put d v)) none

/-- What an operation comes to: its value and what it writes; that it is skipped: the value 'und'. -/
def opA (E : Env) (ops : Array Oper) (F : Nat → AV) (h : HR) (s : Nat) (o : Oper) : Option (AV × List Up) :=
  match guardA ops F o with
  | some true => absOp E (evA E.glob F) h (o.dst.getD 65535) s o
  | some false => some (und, [])
  | none => none

def stepA (E : Env) (nt : Nat) (ops : Array Oper) (i : Nat) (st : St) : Option St :=
  match ops[i]? with
  | none => some st
  | some o => match opA E ops st.F st.h (st.nx + room * i) o with
    | some (v, ups) => (putA nt st.fr o.dst v).map fun fr => { st with fr, hp := upHp st.hp ups }
    | none => none

def opsA (E : Env) (nt : Nat) (ops : Array Oper) : List Nat → St → Option St
  | [], st => some st
  | i :: r, st => match stepA E nt ops i st with
    | some st' => opsA E nt ops r st'
    | none => none

def bump (n : Nat) (st : St) : St := { st with nx := st.nx + room * n + room }

/-! A region whose order is drawn: the text's order, each operation shown only the blocks that it can come to; then no two that may change places may meddle with one another. -/
def opKeys (ρ : Operand → AV) (o : Oper) : List Nat := o.op.operands.toList.flatMap fun x => keysA (ρ x)
def only (h : HR) (ks : List Nat) : HR := fun k => if ks.contains k then h k else noSlot

structure Foot where
  rd : List Nat
  wr : List Nat

def stepD (E : Env) (nt : Nat) (ops : Array Oper) (i : Nat) (st : St) : Option (St × Foot) :=
  match ops[i]? with
  | none => some (st, ⟨[], []⟩)
  | some o =>
    let rd := reach room st.h (opKeys (evA E.glob st.F) o) []
    match opA E ops st.F (only st.h rd) (st.nx + room * i) o with
    | some (v, ups) => (putA nt st.fr o.dst v).map fun fr => ({ st with fr, hp := upHp st.hp ups }, ⟨rd, ups.map (·.1)⟩)
    | none => none

def opsD (E : Env) (nt : Nat) (ops : Array Oper) : List Nat → St → Option (St × List Foot)
  | [], st => some (st, [])
  | i :: r, st => match stepD E nt ops i st with
    | some (st', f) => match opsD E nt ops r st' with
      | some (st'', fs) => some (st'', f :: fs)
      | none => none
    | none => none

def disj (a b : List Nat) : Bool := a.all fun k => !b.contains k

/-- May i and j (i ahead of j in the text) change places? -/
def freeOps (ops : Array Oper) (x y : Oper) : Bool := x.apart ops y
def pairOk (ops : Array Oper) (b : Array Nat) (fs : List Foot) (i j : Nat) : Bool :=
  (b.getD j 0).testBit i ||
  (match ops[i]?, ops[j]?, fs[i]?, fs[j]? with
   | some x, some y, some f, some g => freeOps ops x y && disj f.wr g.rd && disj f.wr g.wr && disj g.wr f.rd
   | _, _, _, _ => false)
/-- Each operation stands behind those that it waits for. -/
def backOk (ops : Array Oper) : Bool := (List.range ops.size).all fun i => match ops[i]? with
  | some o => o.after.all fun e => !Region.binds .any e || decide (e.on < i)
  | none => true
def allOk (ops : Array Oper) (fs : List Foot) : Bool :=
  let b := Region.before ops
  backOk ops &&
  (List.range ops.size).all fun j => (List.range j).all fun i => pairOk ops b fs i j

inductive AExit where
  | normal
  | exit (id : Nat)
  | goto (l : Nat)
  | ret
  deriving Inhabited

def iter (body : St → Option (AExit × St)) : Nat → St → Option (AExit × St)
  | 0, _ => none
  | n + 1, st => match body st with
    | some (.normal, st') => iter body n st'
    | r => r

/-- A scope: jumps to a label in it go on behind the label. -/
def scopeRun (jump : Code → St → Option (AExit × St)) (b : Code) : Nat → AExit × St → Option (AExit × St)
  | n + 1, (.goto l, st) => match findLabel b l with
    | some rest => match jump rest st with
      | some r => scopeRun jump b n r
      | none => none
    | none => some (.goto l, st)
  | 0, (.goto _, _) => none
  | _, r => some r

def absCode (E : Env) (nt n : Nat) (jump : Code → St → Option (AExit × St)) : Code → St → Option (AExit × St)
  | .skip, st => some (.normal, st)
  | .label _, st => some (.normal, st)
  | .region _ ops draw, st =>
    if draw then match opsD E nt ops (List.range ops.size) st with
      | some (st', fs) => if allOk ops fs then some (.normal, bump ops.size st') else none
      | none => none
    else match opsA E nt ops (List.range ops.size) st with
      | some st' => some (.normal, bump ops.size st')
      | none => none
  | .seq a b, st => match absCode E nt n jump a st with
    | some (.normal, st') => absCode E nt n jump b st'
    | r => r
  | .cond c a b, st => match evA E.glob st.F c with
    | .s (.bool true) => absCode E nt n jump a st
    | .s (.bool false) => absCode E nt n jump b st
    | _ => none
  | .block id b, st => match absCode E nt n jump b st with
    | some (.exit id', st') => some (if id' = id then .normal else .exit id', st')
    | r => r
  | .loop b, st => iter (fun s => absCode E nt n jump b s) n st
  | .scope b, st => match absCode E nt n jump b st with
    | some r => scopeRun jump b n r
    | none => none
  | .exit id, st => some (.exit id, st)
  | .goto l, st => some (.goto l, st)
  | .ret, st => some (.ret, st)
  | _, _ => none

/-- So many jumps, one within another. -/
def absRun (E : Env) (nt n : Nat) : Nat → Code → St → Option (AExit × St)
  | 0 => fun _ _ => none
  | d + 1 => absCode E nt n (absRun E nt n d)

def K0 : Nat := 1000000

def inRen (m : Nat) : Ren := (List.range m).map fun i => ((i, i), (K0 + i, i))

def enterSt (args : List AV) (blks : List Blk) : St :=
  let σ := inRen blks.length
  { fr := Fr.lay (renAs σ args) 0 .nil, hp := blks.zipIdx.map fun (b, i) => (K0 + i, (i, renB σ b)), nx := blks.length }

def resultA (P : Program) (fr : Fr) (h : HR) (rs : Array ResultVar) : Option (List AV) :=
  go rs.toList
where
  go : List ResultVar → Option (List AV)
    | [] => some []
    | .tmp t :: r => match go r with
      | some l => match fr.get t with
        | .dead => none
        | v => some (v :: l)
      | none => none
    | .cell a t :: r => match go r, loadA P h t (fr.get a) with
      | some l, some v => some (v :: l)
      | _, _ => none

def packA : List AV → AV
  | [v] => v
  | l => .tup l

def finish (E : Env) (f : FuncId) (m : Nat) (fn : Func) (st : St) : Option (AV × Outs) :=
  match resultA E.P st.fr st.h fn.results with
  | none => none
  | some rs =>
    let passed := (List.range m).map (K0 + ·)
    match (if E.raw f then some (rs, []) else sealArgs st.h rs) with
    | none => none
    | some (rs, fz) =>
      let h := upH st.h (frzUps st.h fz)
      let keys := reach room h (passed.flatMap (fun k => keysB (h k).2) ++ keysAs rs) passed
      let σ := toRen h keys
      some (packA (renAs σ rs), keys.zipIdx.map fun (k, i) => (renB σ (h k).2, if i < m then (h k).1 != i else true))

def absBody (E : Env) (n : Nat) (f : FuncId) (fn : Func) (args : List AV) (blks : List Blk) : Option (AV × Outs) :=
  match fn.body with
  | none => none
  | some c =>
    if args.length ≤ fn.ntmps then
      match absRun E fn.ntmps n (n + 1) c (enterSt args blks) with
      | some (.normal, st) | some (.ret, st) => finish E f blks.length fn st
      | _ => none
    else none

/-- Everything that a run of calls is told once. -/
structure Base where
  P : Program
  glob : Nat → Option (List SV)
  lend : FuncId → Bool
  raw : FuncId → Bool
  ext : FuncId → Option (List AV → List Blk → Option (AV × Outs))

def Base.env (B : Base) (c : Call) : Env := { P := B.P, glob := B.glob, lend := B.lend, raw := B.raw, call := c }

def callF (B : Base) (c : Call) (n : Nat) : Call := fun f args blks =>
  match B.ext f with
  | some g => g args blks
  | none => match B.P.funcs[f]? with
    | some fn => absBody (B.env c) n f fn args blks
    | none => none

def absCall (B : Base) : Nat → Call
  | 0 => fun _ _ _ => none
  | n + 1 => callF B (absCall B n) n

end Go.Proofs.Ytbfdokfelolmbaa.Vai
end
