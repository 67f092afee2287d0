import Derived.Test.YtbfdokfelolmbaaVaA
import Derived.Laws.CopyRow
/-
  What abstract values stand for.
-/
set_option linter.all false
section
namespace Go.Proofs.Ytbfdokfelolmbaa.Vai

/-! What abstract values stand for. -/

abbrev Mem := Nat → Nat → Option Value
structure BI where
  b : Nat
  n : Nat
  w : Nat
abbrev Val := Nat → Option BI

inductive RepS (M : Mem) : SV → Value → Prop
  | int (k : IntKind) (n : Int) : RepS M (.int k n) (.int k n)
  | bool (b : Bool) : RepS M (.bool b) (.bool b)
  | str (l : List UInt8) : RepS M (.str l) (.string ⟨⟨l⟩⟩)
  | flat (v : Value) : RepS M (.flat v) v
  | agg (l : List SV) (cs : List Value) (h : l.length = cs.length) (hc : ∀ v ∈ cs, cellV v = true)
      (r : ∀ i (h1 : i < l.length) (h2 : i < cs.length), RepS M l[i] cs[i]) : RepS M (.agg l) (.agg ⟨cs⟩)
  | ssl0 (a : Option Addr) (cap : Nat) : RepS M (.ssl []) (.slice a 0 cap)
  | ssl (rows : List (List SV)) (w b o cap : Nat) (f : Nat → Value) (h0 : rows ≠ []) (hw : ∀ r ∈ rows, r.length = w) (hc : rows.length ≤ cap)
      (hm : ∀ i, i < rows.flatten.length → M b (o + i) = some (f i))
      (r : ∀ i (h : i < rows.flatten.length), RepS M rows.flatten[i] (f i)) : RepS M (.ssl rows) (.slice (some ⟨b, o, none⟩) rows.length cap)
  | sp (l : List SV) (b o : Nat) (f : Nat → Value) (hm : ∀ i, i < l.length → M b (o + i) = some (f i))
      (r : ∀ i (h : i < l.length), RepS M l[i] (f i)) : RepS M (.sp l) (.pointer (some ⟨b, o, none⟩))
  | iface (t : TypeId) (v : SV) (x : Value) (r : RepS M v x) : RepS M (.iface t v) (.iface t x)
  | clo (fn : Fn) (a c : List SV) (a' c' : List Value) (ha : a.length = a'.length) (hc : c.length = c'.length)
      (ra : ∀ i (h1 : i < a.length) (h2 : i < a'.length), RepS M a[i] a'[i])
      (rc : ∀ i (h1 : i < c.length) (h2 : i < c'.length), RepS M c[i] c'[i]) : RepS M (.clo fn a c) (.func fn ⟨a'⟩ ⟨c'⟩)

inductive RepA (M : Mem) (V : Val) : AV → Value → Prop
  | s (v : SV) (x : Value) (h : RepS M v x) : RepA M V (.s v) x
  | nsl : RepA M V .nsl (.slice none 0 0)
  | xsl (rows : List (List SV)) (a : Option Addr) (n : Nat) (h : RepS M (.ssl rows) (.slice a n n)) : RepA M V (.xsl rows) (.slice a n n)
  | ref (k s row off : Nat) (bi : BI) (h : V s = some bi) : RepA M V (.ref k s row off) (.pointer (some ⟨bi.b, row * bi.w + off, none⟩))
  | lsl (k s row len : Nat) (cap : Option Nat) (bi : BI) (c : Nat) (h : V s = some bi) (h1 : ∀ c', cap = some c' → c = c')
      (h2 : cap = none → row + c = bi.n) (h3 : len ≤ c) (h4 : row + c ≤ bi.n) : RepA M V (.lsl k s row len cap) (.slice (some ⟨bi.b, row * bi.w, none⟩) len c)
  | agg (l : List AV) (cs : List Value) (h : l.length = cs.length) (hc : ∀ v ∈ cs, cellV v = true)
      (r : ∀ i (h1 : i < l.length) (h2 : i < cs.length), RepA M V l[i] cs[i]) : RepA M V (.agg l) (.agg ⟨cs⟩)
  | tup (l : List AV) (cs : List Value) (h : l.length = cs.length)
      (r : ∀ i (h1 : i < l.length) (h2 : i < cs.length), RepA M V l[i] cs[i]) : RepA M V (.tup l) (.tuple ⟨cs⟩)
  | iface (t : TypeId) (v : AV) (x : Value) (r : RepA M V v x) : RepA M V (.iface t v) (.iface t x)
  | clo (fn : Fn) (a c : List AV) (a' c' : List Value) (ha : a.length = a'.length) (hc : c.length = c'.length)
      (ra : ∀ i (h1 : i < a.length) (h2 : i < a'.length), RepA M V a[i] a'[i])
      (rc : ∀ i (h1 : i < c.length) (h2 : i < c'.length), RepA M V c[i] c'[i]) : RepA M V (.clo fn a c) (.func fn ⟨a'⟩ ⟨c'⟩)
  | dead (x : Value) : RepA M V .dead x

def MSub (M M' : Mem) : Prop := ∀ b o v, M b o = some v → M' b o = some v
def VSub (V V' : Val) : Prop := ∀ s bi, V s = some bi → V' s = some bi

theorem RepS.mono {M M' : Mem} (hM : MSub M M') {v : SV} {x : Value} (h : RepS M v x) : RepS M' v x := by
  induction h with
  | int k n => exact .int k n
  | bool b => exact .bool b
  | str l => exact .str l
  | flat v => exact .flat v
  | agg l cs h hc r ih => exact .agg l cs h hc ih
  | ssl0 a c => exact .ssl0 a c
  | ssl rows w b o cap f h0 hw hc hm r ih => exact .ssl rows w b o cap f h0 hw hc (fun i hi => hM _ _ _ (hm i hi)) ih
  | sp l b o f hm r ih => exact .sp l b o f (fun i hi => hM _ _ _ (hm i hi)) ih
  | iface t v x r ih => exact .iface t v x ih
  | clo fn a c a' c' ha hc ra rc iha ihc => exact .clo fn a c a' c' ha hc iha ihc

theorem RepA.mono {M M' : Mem} {V V' : Val} (hM : MSub M M') (hV : VSub V V') {v : AV} {x : Value} (h : RepA M V v x) : RepA M' V' v x := by
  induction h with
  | s v x h => exact .s v x (h.mono hM)
  | nsl => exact .nsl
  | xsl rows a n h => exact .xsl rows a n (h.mono hM)
  | ref k s row off bi h => exact .ref k s row off bi (hV _ _ h)
  | lsl k s row len cap bi c h h1 h2 h3 h4 => exact .lsl k s row len cap bi c (hV _ _ h) h1 h2 h3 h4
  | agg l cs h hc r ih => exact .agg l cs h hc ih
  | tup l cs h r ih => exact .tup l cs h ih
  | iface t v x r ih => exact .iface t v x ih
  | clo fn a c a' c' ha hc ra rc iha ihc => exact .clo fn a c a' c' ha hc iha ihc
  | dead x => exact .dead x

/-- Lists, place by place. -/
def RepL (M : Mem) (V : Val) (l : List AV) (cs : List Value) : Prop :=
  l.length = cs.length ∧ ∀ i (h1 : i < l.length) (h2 : i < cs.length), RepA M V l[i] cs[i]
def RepSL (M : Mem) (l : List SV) (cs : List Value) : Prop :=
  l.length = cs.length ∧ ∀ i (h1 : i < l.length) (h2 : i < cs.length), RepS M l[i] cs[i]

theorem RepL.mono {M M' : Mem} {V V' : Val} (hM : MSub M M') (hV : VSub V V') {l : List AV} {cs : List Value} (h : RepL M V l cs) : RepL M' V' l cs :=
  ⟨h.1, fun i h1 h2 => (h.2 i h1 h2).mono hM hV⟩
theorem RepSL.mono {M M' : Mem} (hM : MSub M M') {l : List SV} {cs : List Value} (h : RepSL M l cs) : RepSL M' l cs :=
  ⟨h.1, fun i h1 h2 => (h.2 i h1 h2).mono hM⟩

theorem RepL.nil {M : Mem} {V : Val} : RepL M V [] [] := ⟨rfl, fun i h => by simp at h⟩
theorem RepL.cons {M : Mem} {V : Val} {a : AV} {l : List AV} {v : Value} {cs : List Value} (h : RepA M V a v) (t : RepL M V l cs) : RepL M V (a :: l) (v :: cs) :=
  ⟨by simp [t.1], fun i h1 h2 => by cases i with
    | zero => exact h
    | succ i => exact t.2 i (by simpa using h1) (by simpa using h2)⟩
theorem RepL.inv {M : Mem} {V : Val} {a : AV} {l : List AV} {cs : List Value} (h : RepL M V (a :: l) cs) : ∃ v r, cs = v :: r ∧ RepA M V a v ∧ RepL M V l r := by
  cases cs with
  | nil => have := h.1; simp at this
  | cons v r => exact ⟨v, r, rfl, h.2 0 (by simp) (by simp), by simpa using h.1, fun i h1 h2 => h.2 (i + 1) (by simpa using h1) (by simpa using h2)⟩
theorem RepL.nil_inv {M : Mem} {V : Val} {cs : List Value} (h : RepL M V [] cs) : cs = [] := by
  cases cs with
  | nil => rfl
  | cons v r => have := h.1; simp at this
theorem RepL.append {M : Mem} {V : Val} {l l' : List AV} {cs cs' : List Value} (h : RepL M V l cs) (t : RepL M V l' cs') : RepL M V (l ++ l') (cs ++ cs') := by
  induction l generalizing cs with
  | nil => rw [h.nil_inv]; simpa using t
  | cons a l ih => obtain ⟨v, r, rfl, h1, h2⟩ := h.inv; exact RepL.cons h1 (ih h2)
theorem RepL.drop {M : Mem} {V : Val} {l : List AV} {cs : List Value} (h : RepL M V l cs) (n : Nat) : RepL M V (l.drop n) (cs.drop n) := by
  induction n generalizing l cs with
  | zero => simpa using h
  | succ n ih =>
    cases l with
    | nil => rw [h.nil_inv]; simpa using RepL.nil
    | cons a l => obtain ⟨v, r, rfl, h1, h2⟩ := h.inv; simpa using ih h2
theorem RepL.take {M : Mem} {V : Val} {l : List AV} {cs : List Value} (h : RepL M V l cs) (n : Nat) : RepL M V (l.take n) (cs.take n) := by
  induction n generalizing l cs with
  | zero => simpa using RepL.nil
  | succ n ih =>
    cases l with
    | nil => rw [h.nil_inv]; simpa using RepL.nil
    | cons a l => obtain ⟨v, r, rfl, h1, h2⟩ := h.inv; simpa using RepL.cons h1 (ih h2)
theorem RepL.splice {M : Mem} {V : Val} {l v : List AV} {cs x : List Value} (h : RepL M V l cs) (hv : RepL M V v x) (n : Nat) : RepL M V (splice l n v) (Go.Proofs.Ytbfdokfelolmbaa.Vai.splice cs n x) := by
  unfold Go.Proofs.Ytbfdokfelolmbaa.Vai.splice
  rw [← hv.1]
  exact ((h.take n).append hv).append (h.drop _)
theorem RepL.at {M : Mem} {V : Val} {l : List AV} {cs : List Value} (h : RepL M V l cs) {i : Nat} {v : AV} (hi : l[i]? = some v) : ∃ x, cs[i]? = some x ∧ RepA M V v x := by
  obtain ⟨h1, rfl⟩ := List.getElem?_eq_some_iff.1 hi
  have h2 : i < cs.length := h.1 ▸ h1
  exact ⟨cs[i], List.getElem?_eq_getElem h2, h.2 i h1 h2⟩
theorem RepL.ofS {M : Mem} {V : Val} {l : List SV} {cs : List Value} (h : RepSL M l cs) : RepL M V (l.map .s) cs :=
  ⟨by simpa using h.1, fun i h1 h2 => by simp only [List.getElem_map]; exact .s _ _ (h.2 i (by simpa using h1) h2)⟩
theorem RepSL.nil {M : Mem} : RepSL M [] [] := ⟨rfl, fun i h => by simp at h⟩
theorem RepSL.cons {M : Mem} {a : SV} {l : List SV} {v : Value} {cs : List Value} (h : RepS M a v) (t : RepSL M l cs) : RepSL M (a :: l) (v :: cs) :=
  ⟨by simp [t.1], fun i h1 h2 => by cases i with
    | zero => exact h
    | succ i => exact t.2 i (by simpa using h1) (by simpa using h2)⟩
theorem RepSL.inv {M : Mem} {a : SV} {l : List SV} {cs : List Value} (h : RepSL M (a :: l) cs) : ∃ v r, cs = v :: r ∧ RepS M a v ∧ RepSL M l r := by
  cases cs with
  | nil => have := h.1; simp at this
  | cons v r => exact ⟨v, r, rfl, h.2 0 (by simp) (by simp), by simpa using h.1, fun i h1 h2 => h.2 (i + 1) (by simpa using h1) (by simpa using h2)⟩
theorem RepSL.nil_inv {M : Mem} {cs : List Value} (h : RepSL M [] cs) : cs = [] := by
  cases cs with
  | nil => rfl
  | cons v r => have := h.1; simp at this
theorem RepSL.append {M : Mem} {l l' : List SV} {cs cs' : List Value} (h : RepSL M l cs) (t : RepSL M l' cs') : RepSL M (l ++ l') (cs ++ cs') := by
  induction l generalizing cs with
  | nil => rw [h.nil_inv]; simpa using t
  | cons a l ih => obtain ⟨v, r, rfl, h1, h2⟩ := h.inv; exact RepSL.cons h1 (ih h2)
theorem RepSL.drop {M : Mem} {l : List SV} {cs : List Value} (h : RepSL M l cs) (n : Nat) : RepSL M (l.drop n) (cs.drop n) := by
  induction n generalizing l cs with
  | zero => simpa using h
  | succ n ih =>
    cases l with
    | nil => rw [h.nil_inv]; simpa using RepSL.nil
    | cons a l => obtain ⟨v, r, rfl, h1, h2⟩ := h.inv; simpa using ih h2
theorem RepSL.take {M : Mem} {l : List SV} {cs : List Value} (h : RepSL M l cs) (n : Nat) : RepSL M (l.take n) (cs.take n) := by
  induction n generalizing l cs with
  | zero => simpa using RepSL.nil
  | succ n ih =>
    cases l with
    | nil => rw [h.nil_inv]; simpa using RepSL.nil
    | cons a l => obtain ⟨v, r, rfl, h1, h2⟩ := h.inv; simpa using RepSL.cons h1 (ih h2)
theorem RepSL.splice {M : Mem} {l v : List SV} {cs x : List Value} (h : RepSL M l cs) (hv : RepSL M v x) (n : Nat) : RepSL M (splice l n v) (Go.Proofs.Ytbfdokfelolmbaa.Vai.splice cs n x) := by
  unfold Go.Proofs.Ytbfdokfelolmbaa.Vai.splice
  rw [← hv.1]
  exact ((h.take n).append hv).append (h.drop _)

/-! Plain values. -/
theorem toS_rep {M : Mem} {v : SV} {x y : Value} (h : RepS M v x) (ht : toS v = some y) : x = y := by
  cases h <;> simp_all [toS]
theorem toV_rep {M : Mem} {V : Val} {v : AV} {x y : Value} (h : RepA M V v x) (ht : toV v = some y) : x = y := by
  cases h <;> simp_all [toV]
  exact toS_rep ‹_› ht

theorem ofC_rep {M : Mem} {V : Val} {x : Value} {v : AV} (h : ofC x = some v) : RepA M V v x ∧ cellV x = true := by
  unfold ofC at h
  split at h <;> simp only [Option.some.injEq, reduceCtorEq] at h
  all_goals subst h
  · exact ⟨.s _ _ (.int _ _), rfl⟩
  · exact ⟨.s _ _ (.bool _), rfl⟩
  · rename_i s; exact ⟨.s _ _ (.str s.data.toList), rfl⟩
  · exact ⟨.nsl, rfl⟩
  · exact ⟨.s _ _ (.flat _), rfl⟩
  · exact ⟨.s _ _ (.flat _), rfl⟩
  · exact ⟨.s _ _ (.flat _), rfl⟩
  · exact ⟨.s _ _ (.flat _), rfl⟩
  · exact ⟨.s _ _ (.flat _), rfl⟩
theorem ofCs_rep {M : Mem} {V : Val} {xs : List Value} {l : List AV} (h : ofCs xs = some l) : RepL M V l xs ∧ ∀ v ∈ xs, cellV v = true := by
  induction xs generalizing l with
  | nil => simp only [ofCs, Option.some.injEq] at h; subst h; exact ⟨RepL.nil, by simp⟩
  | cons x xs ih =>
    unfold ofCs at h
    split at h
    · rename_i a l' h1 h2
      simp only [Option.some.injEq] at h; subst h
      obtain ⟨r1, r2⟩ := ih h2
      obtain ⟨q1, q2⟩ := ofC_rep (M := M) (V := V) h1
      exact ⟨RepL.cons q1 r1, by intro v hv; cases List.mem_cons.1 hv with
        | inl e => subst e; exact q2
        | inr e => exact r2 v e⟩
    · cases h
theorem ofV_rep {M : Mem} {V : Val} {x : Value} {v : AV} (h : ofV x = some v) : RepA M V v x := by
  unfold ofV at h
  split at h
  · rename_i cs
    cases hc : ofCs cs.toList with
    | none => rw [hc] at h; cases h
    | some l =>
      rw [hc] at h
      simp only [Option.map_some, Option.some.injEq] at h; subst h
      obtain ⟨r1, r2⟩ := ofCs_rep (M := M) (V := V) hc
      exact .agg l cs.toList r1.1 r2 r1.2
  · simp only [Option.some.injEq] at h; subst h; exact .s _ _ (.flat _)
  · exact (ofC_rep h).1



end Go.Proofs.Ytbfdokfelolmbaa.Vai
example : Go.Proofs.Ytbfdokfelolmbaa.Vai.renA [] (.agg [.dead, .ref 1 2 3 4]) = .agg [.dead, .dead] := by rfl
example : Go.Proofs.Ytbfdokfelolmbaa.Vai.keysA (.agg [.dead, .ref 1 2 3 4]) = [1] := by rfl
example : Go.Proofs.Ytbfdokfelolmbaa.Vai.sealA 64 (fun _ => Go.Proofs.Ytbfdokfelolmbaa.Vai.noSlot) (.agg [.nsl, .s (.bool true)]) = some (.agg [.ssl [], .bool true], []) := by rfl
end

section
namespace Go.Proofs.Ytbfdokfelolmbaa.Vai

/-! Memory: what the abstract heap says of the world. -/

theorem cellV_one (v : Value) : v.oneCell' = cellV v := by cases v <;> rfl

def wput (w : World) (b o : Nat) (vs : List Value) : World :=
  { w with heap := w.heap.modify b fun
      | .cells c e f => .cells ⟨splice c.toList o vs⟩ e f
      | x => x }

theorem splice_length {α : Type} (l : List α) (o : Nat) (v : List α) (h : o + v.length ≤ l.length) : (splice l o v).length = l.length := by
  simp [splice]; omega

theorem splice_nil {α : Type} (l : List α) (o : Nat) : splice l o [] = l := by simp [splice]

theorem splice_get {α : Type} (l : List α) (o : Nat) (v : List α) (h : o + v.length ≤ l.length) (i : Nat) :
    (splice l o v)[i]? = if o ≤ i ∧ i < o + v.length then v[i - o]? else l[i]? := by
  unfold splice
  by_cases h1 : i < o
  · rw [List.append_assoc, List.getElem?_append_left (by simp; omega), if_neg (by omega)]
    simp [h1]
  · by_cases h2 : i < o + v.length
    · rw [if_pos (by omega), List.getElem?_append_left (by simp; omega), List.getElem?_append_right (by simp; omega)]
      simp; congr 1; omega
    · rw [if_neg (by omega), List.getElem?_append_right (by simp; omega)]
      simp only [List.length_append, List.length_take, List.getElem?_drop]
      congr 1; omega

theorem wput_heap (w : World) (b o : Nat) (vs cs : List Value) (ty : TypeId) (fr : Nat × Nat) (h : w.heap[b]? = some (.cells ⟨cs⟩ ty fr)) :
    (wput w b o vs).heap[b]? = some (.cells ⟨splice cs o vs⟩ ty fr) := by
  simp [wput, Array.getElem?_modify, h]
theorem wput_other (w : World) (b o : Nat) (vs : List Value) (b' : Nat) (h : b' ≠ b) : (wput w b o vs).heap[b']? = w.heap[b']? := by
  simp [wput, Array.getElem?_modify, Ne.symm h]
theorem wput_size (w : World) (b o : Nat) (vs : List Value) : (wput w b o vs).heap.size = w.heap.size := by simp [wput]

theorem cell_at {w : World} {b : Nat} {cs : List Value} {ty : TypeId} {fr : Nat × Nat} (h : w.heap[b]? = some (.cells ⟨cs⟩ ty fr)) (o : Nat) :
    w.cell? ⟨b, o, none⟩ = cs[o]? := by simp [World.cell?, h]
theorem frozen_at {w : World} {b : Nat} {cs : List Value} {ty : TypeId} {fr : Nat × Nat} (h : w.heap[b]? = some (.cells ⟨cs⟩ ty fr)) (o : Nat) :
    w.frozen? ⟨b, o, none⟩ = (decide (fr.1 ≤ o) && decide (o < fr.2)) := by simp [World.frozen?, h]
theorem add_at (b o i : Nat) : (⟨b, o, none⟩ : Addr).add i = ⟨b, o + i, none⟩ := by unfold Addr.add; split <;> simp_all

theorem run_loadAt {P : Program} {w : World} {b o : Nat} {cs vs : List Value} {ty : TypeId} {fr : Nat × Nat} (h : w.heap[b]? = some (.cells ⟨cs⟩ ty fr))
    (hv : ∀ i, i < vs.length → cs[o + i]? = vs[i]?) : (loadCells ⟨b, o, none⟩ vs.length).run P w = .ok ⟨vs⟩ w := by
  have := run_loadCells_list (P := P) w ⟨b, o, none⟩ vs (fun j v hj => by
    obtain ⟨h1, rfl⟩ := List.getElem?_eq_some_iff.1 hj
    rw [add_at, cell_at h, hv j h1, List.getElem?_eq_getElem h1])
  simpa using this

theorem run_loadMem {P : Program} {w : World} {b o : Nat} {vs : List Value} (hv : ∀ i, i < vs.length → w.cell? ⟨b, o + i, none⟩ = vs[i]?) :
    (loadCells ⟨b, o, none⟩ vs.length).run P w = .ok ⟨vs⟩ w := by
  have := run_loadCells_list (P := P) w ⟨b, o, none⟩ vs (fun j v hj => by
    obtain ⟨h1, rfl⟩ := List.getElem?_eq_some_iff.1 hj
    rw [add_at, hv j h1, List.getElem?_eq_getElem h1])
  simpa using this

theorem setCell_wput (w : World) (b o : Nat) (v : Value) (cs : List Value) (ty : TypeId) (fr : Nat × Nat) (h : w.heap[b]? = some (.cells ⟨cs⟩ ty fr)) (ho : o < cs.length) :
    w.setCell ⟨b, o, none⟩ v = wput w b o [v] := by
  unfold World.setCell wput
  congr 1
  apply Array.ext_getElem?
  intro i
  simp only [Array.getElem?_modify]
  by_cases hi : b = i
  · subst hi
    simp only [if_true, h, Option.map_some]
    congr 2
    apply Array.ext'
    simp only [Option.isSome_none, Bool.false_eq_true, if_false, Array.toList_setIfInBounds]
    apply List.ext_getElem?
    intro j
    rw [splice_get _ _ _ (by simp; omega), List.getElem?_set]
    simp only [List.length_cons, List.length_nil, Nat.zero_add]
    by_cases hj : o = j
    · subst hj; simp [ho]
    · rw [if_neg hj, if_neg (by omega)]
  · simp [hi]

theorem wput_wput (w : World) (b o : Nat) (v : Value) (rest cs : List Value) (ty : TypeId) (fr : Nat × Nat) (h : w.heap[b]? = some (.cells ⟨cs⟩ ty fr))
    (ho : o + 1 + rest.length ≤ cs.length) : wput (wput w b o [v]) b (o + 1) rest = wput w b o (v :: rest) := by
  unfold wput
  congr 1
  apply Array.ext_getElem?
  intro i
  simp only [Array.getElem?_modify]
  by_cases hi : b = i
  · subst hi
    simp only [if_true, h, Option.map_some]
    congr 3
    apply List.ext_getElem?
    intro j
    rw [splice_get _ _ _ (by rw [splice_length _ _ _ (by simp; omega)]; exact ho), splice_get _ _ _ (by simp; omega), splice_get _ _ _ (by simp; omega)]
    simp only [List.length_cons, List.length_nil, Nat.zero_add]
    by_cases h1 : o + 1 ≤ j ∧ j < o + 1 + rest.length
    · rw [if_pos h1, if_pos (by omega), show j - o = (j - (o + 1)) + 1 by omega, List.getElem?_cons_succ]
    · rw [if_neg h1]
      by_cases h2 : j = o
      · subst h2; simp
      · rw [if_neg (by omega), if_neg (by omega)]
  · simp [hi]

theorem run_storeAt {P : Program} {b : Nat} {ty : TypeId} {fr : Nat × Nat} (o : Nat) : ∀ (vs : List Value) (i : Nat) (cs : List Value) (w : World),
    w.heap[b]? = some (.cells ⟨cs⟩ ty fr) → o + i + vs.length ≤ cs.length → (∀ v ∈ vs, cellV v = true) →
    (∀ j, j < cs.length → w.frozen? ⟨b, j, none⟩ = false) → (storeCells ⟨b, o, none⟩ vs i).run P w = .ok () (wput w b (o + i) vs)
  | [], i, cs, w, h, _, _, _ => by
    simp only [storeCells]
    have : wput w b (o + i) [] = w := by
      unfold wput
      have : w.heap.modify b (fun
        | .cells c e f => .cells ⟨splice c.toList (o + i) []⟩ e f
        | x => x) = w.heap := by
        apply Array.ext_getElem?
        intro j
        simp only [Array.getElem?_modify]
        by_cases hj : b = j
        · subst hj; simp [h, splice_nil]
        · simp [hj]
      simp [this]
    rw [this]; rfl
  | v :: rest, i, cs, w, h, hl, hc, hf => by
    have hi : o + i < cs.length := by simp at hl; omega
    have hst : (store ((⟨b, o, none⟩ : Addr).add i) v).run P w = .ok () (wput w b (o + i) [v]) := by
      rw [add_at, run_store P w _ v _ (by rw [cellV_one]; exact hc v (by simp)), cell_at h, List.getElem?_eq_getElem hi]
      simp only [hf _ hi, Bool.false_eq_true, if_false]
      rw [setCell_wput w b (o + i) v cs ty fr h hi]
    have h' := wput_heap w b (o + i) [v] cs ty fr h
    have ih := run_storeAt (P := P) o rest (i + 1) (splice cs (o + i) [v]) (wput w b (o + i) [v]) h' (by
        rw [splice_length _ _ _ (by simp; omega)]; simp at hl ⊢; omega) (fun x hx => hc x (by simp [hx])) (by
        intro j hj
        rw [splice_length _ _ _ (by simp; omega)] at hj
        have := hf j hj
        rw [frozen_at h] at this
        rw [frozen_at h']; exact this)
    simp only [storeCells, Sem.run_bind, hst, Result.andThen_ok, ih]
    rw [show o + (i + 1) = o + i + 1 by omega, wput_wput w b (o + i) v rest cs ty fr h (by simp at hl; omega)]

/-- A block of the call's own, in the world. -/
structure Own (G : Nat → Prop) (V : Val) (w : World) (s : Nat) (bi : BI) (vs : List Value) : Prop where
  v : V s = some bi
  heap : ∃ ty fr, w.heap[bi.b]? = some (.cells ⟨vs⟩ ty fr)
  cell : ∀ v ∈ vs, cellV v = true
  free : ∀ o, o < vs.length → w.frozen? ⟨bi.b, o, none⟩ = false
  notG : ¬ G bi.b

def BlkRel (G : Nat → Prop) (M : Mem) (V : Val) (w : World) (s : Nat) : Blk → Prop
  | .gone => True
  | .var cells fz => ∃ bi vs, Own G V w s bi vs ∧ bi.n = 1 ∧ bi.w = cells.length ∧ RepL M V cells vs ∧ (fz = false → ∀ o, M bi.b o = none)
  | .arr wd rows fz => ∃ bi vs, Own G V w s bi vs ∧ bi.w = wd ∧ vs.length = bi.n * wd ∧ rows.length ≤ bi.n ∧ (∀ r ∈ rows, r.length = wd) ∧
      RepSL M rows.flatten (vs.take rows.flatten.length) ∧ (∀ o, fz * wd ≤ o → M bi.b o = none)

structure Mrel (G : Nat → Prop) (M : Mem) (V : Val) (H : HR) (w : World) : Prop where
  mem : ∀ b o v, M b o = some v → w.cell? ⟨b, o, none⟩ = some v ∧ cellV v = true
  blk : ∀ k, BlkRel G M V w (H k).1 (H k).2
  dist : ∀ k1 k2 bi1 bi2, k1 ≠ k2 → (H k1).2.live = true → (H k2).2.live = true → V (H k1).1 = some bi1 → V (H k2).1 = some bi2 → bi1.b ≠ bi2.b
  gsz : ∀ b, G b → b < w.heap.size
  vsz : ∀ s bi, V s = some bi → bi.b < w.heap.size

/-- Of what is foreign nothing has turned; the streams neither. -/
structure Out (G : Nat → Prop) (w w' : World) : Prop where
  os : w'.os = w.os
  tape : w'.tape = w.tape
  output : w'.output = w.output
  size : w.heap.size ≤ w'.heap.size
  block : ∀ b, G b → w'.heap[b]? = w.heap[b]?

theorem Out.refl (G : Nat → Prop) (w : World) : Out G w w := ⟨rfl, rfl, rfl, Nat.le_refl _, fun _ _ => rfl⟩
theorem Out.trans {G : Nat → Prop} {a b c : World} (h : Out G a b) (k : Out G b c) : Out G a c :=
  ⟨k.os.trans h.os, k.tape.trans h.tape, k.output.trans h.output, Nat.le_trans h.size k.size, fun i hi => (k.block i hi).trans (h.block i hi)⟩

structure Ext (G : Nat → Prop) (M : Mem) (V : Val) (w : World) (M' : Mem) (V' : Val) (w' : World) : Prop where
  m : MSub M M'
  mg : ∀ b, b < w.heap.size → G b → ∀ o, M' b o = M b o
  v : VSub V V'
  out : Out G w w'

theorem Ext.refl {G : Nat → Prop} {M : Mem} {V : Val} {w : World} : Ext G M V w M V w := ⟨fun _ _ _ h => h, fun _ _ _ _ => rfl, fun _ _ h => h, .refl _ _⟩
theorem Ext.trans {G : Nat → Prop} {M M' M'' : Mem} {V V' V'' : Val} {w w' w'' : World} (h : Ext G M V w M' V' w') (k : Ext G M' V' w' M'' V'' w'') : Ext G M V w M'' V'' w'' :=
  ⟨fun b o v e => k.m b o v (h.m b o v e), fun b hb hg o => (k.mg b (Nat.lt_of_lt_of_le hb h.out.size) hg o).trans (h.mg b hb hg o), fun s bi e => k.v s bi (h.v s bi e), h.out.trans k.out⟩

theorem BlkRel.live_own {G : Nat → Prop} {M : Mem} {V : Val} {w : World} {s : Nat} {b : Blk} (h : BlkRel G M V w s b) (hl : b.live = true) : ∃ bi vs, Own G V w s bi vs := by
  cases b with
  | gone => simp [Blk.live] at hl
  | var c f => obtain ⟨bi, vs, h, _⟩ := h; exact ⟨bi, vs, h⟩
  | arr wd rows fz => obtain ⟨bi, vs, h, _⟩ := h; exact ⟨bi, vs, h⟩

/-- A block that has not been touched stands as it stood. -/
theorem BlkRel.keep {G : Nat → Prop} {M M' : Mem} {V V' : Val} {w w' : World} {s : Nat} {blk : Blk} (h : BlkRel G M V w s blk) (hV : VSub V V') (hM : MSub M M')
    (hb : ∀ bi, blk.live = true → V s = some bi → w'.heap[bi.b]? = w.heap[bi.b]? ∧ ∀ o, M' bi.b o = M bi.b o) : BlkRel G M' V' w' s blk := by
  have own : ∀ {bi : BI} {vs : List Value}, w'.heap[bi.b]? = w.heap[bi.b]? → Own G V w s bi vs → Own G V' w' s bi vs := fun e o =>
    ⟨hV _ _ o.v, by rw [e]; exact o.heap, o.cell, fun i hi => by rw [World.frozen?_of_block (w := w) (w' := w') e]; exact o.free i hi, o.notG⟩
  cases blk with
  | gone => trivial
  | var cells fz =>
    obtain ⟨bi, vs, o, h1, h2, h3, h4⟩ := h
    obtain ⟨e1, e2⟩ := hb bi rfl o.v
    exact ⟨bi, vs, own e1 o, h1, h2, h3.mono hM hV, fun hz i => by rw [e2]; exact h4 hz i⟩
  | arr wd rows fz =>
    obtain ⟨bi, vs, o, h1, h2, h3, h4, h5, h6⟩ := h
    obtain ⟨e1, e2⟩ := hb bi rfl o.v
    exact ⟨bi, vs, own e1 o, h1, h2, h3, h4, h5.mono hM, fun i hi => by rw [e2]; exact h6 i hi⟩

end Go.Proofs.Ytbfdokfelolmbaa.Vai
end

section
namespace Go.Proofs.Ytbfdokfelolmbaa.Vai

/-! Three ways in which memory turns: a block is written, made, frozen. -/

theorem upH_one (h : HR) (k : Nat) (s : Slot) (j : Nat) : upH h [(k, s)] j = if k = j then s else h j := rfl
theorem upH_append (h : HR) (a b : List Up) : upH h (a ++ b) = upH (upH h a) b := by
  induction a generalizing h with
  | nil => rfl
  | cons p a ih => obtain ⟨k, s⟩ := p; simp only [List.cons_append, upH, ih]

section
variable {G : Nat → Prop} {M : Mem} {V : Val} {H : HR} {w : World}

/-- A block is written. -/
theorem Mrel.write (R : Mrel G M V H w) {k : Nat} {bi : BI} {cs vs : List Value} {o : Nat} {blk : Blk} (hl : (H k).2.live = true) (own : Own G V w (H k).1 bi cs)
    (ho : o + vs.length ≤ cs.length) (hc : ∀ v ∈ vs, cellV v = true) (hM : ∀ i, o ≤ i → i < o + vs.length → M bi.b i = none)
    (hb : Own G V (wput w bi.b o vs) (H k).1 bi (splice cs o vs) → BlkRel G M V (wput w bi.b o vs) (H k).1 blk) :
    Mrel G M V (upH H [(k, ((H k).1, blk))]) (wput w bi.b o vs) ∧ Ext G M V w M V (wput w bi.b o vs) := by
  obtain ⟨ty, fr, hh⟩ := own.heap
  have hh' := wput_heap w bi.b o vs cs ty fr hh
  have own' : Own G V (wput w bi.b o vs) (H k).1 bi (splice cs o vs) := by
    refine ⟨own.v, ⟨ty, fr, hh'⟩, ?_, ?_, own.notG⟩
    · intro v hv
      unfold splice at hv
      simp only [List.mem_append] at hv
      rcases hv with (hv | hv) | hv
      · exact own.cell v (List.mem_of_mem_take hv)
      · exact hc v hv
      · exact own.cell v (List.mem_of_mem_drop hv)
    · intro i hi
      rw [splice_length _ _ _ ho] at hi
      have := own.free i hi
      rw [frozen_at hh] at this
      rw [frozen_at hh']; exact this
  refine ⟨⟨?_, ?_, ?_, ?_, ?_⟩, ⟨fun _ _ _ h => h, fun _ _ _ _ => rfl, fun _ _ h => h, ⟨rfl, rfl, rfl, by rw [wput_size]; exact Nat.le_refl _, ?_⟩⟩⟩
  · intro b i v hv
    obtain ⟨h1, h2⟩ := R.mem b i v hv
    refine ⟨?_, h2⟩
    by_cases hb : b = bi.b
    · subst hb
      rw [cell_at hh] at h1
      rw [cell_at hh', splice_get _ _ _ ho, if_neg, h1]
      intro hr
      rw [hM i hr.1 hr.2] at hv; cases hv
    · rw [World.cell?_of_block (w := w) (wput_other w bi.b o vs b hb)]; exact h1
  · intro j
    rw [upH_one]
    by_cases hj : k = j
    · subst hj; rw [if_pos rfl]; exact hb own'
    · rw [if_neg hj]
      refine (R.blk j).keep (fun _ _ h => h) (fun _ _ _ h => h) (fun bi' hlv hv => ⟨wput_other _ _ _ _ _ ?_, fun _ => rfl⟩)
      exact R.dist j k bi' bi (Ne.symm hj) hlv hl hv own.v
  · intro k1 k2 b1 b2 hne h1 h2 v1 v2
    rw [upH_one] at h1 h2 v1 v2
    by_cases e1 : k = k1
    · subst e1
      rw [if_pos rfl] at h1 v1
      rw [if_neg hne] at h2 v2
      exact R.dist k k2 b1 b2 hne hl h2 v1 v2
    · rw [if_neg e1] at h1 v1
      by_cases e2 : k = k2
      · subst e2
        rw [if_pos rfl] at h2 v2
        exact R.dist k1 k b1 b2 hne h1 hl v1 v2
      · rw [if_neg e2] at h2 v2
        exact R.dist k1 k2 b1 b2 hne h1 h2 v1 v2
  · intro b hb; rw [wput_size]; exact R.gsz b hb
  · intro s b hb; rw [wput_size]; exact R.vsz s b hb
  · intro b hb
    exact wput_other _ _ _ _ _ (fun e => own.notG (e ▸ hb))

def vset (V : Val) (s : Nat) (bi : BI) : Val := fun j => if j = s then some bi else V j
theorem vset_same (V : Val) (s : Nat) (bi : BI) : vset V s bi s = some bi := by simp [vset]
theorem vset_sub {V : Val} {s : Nat} {bi : BI} (h : V s = none) : VSub V (vset V s bi) := by
  intro j b hb
  unfold vset
  by_cases e : j = s
  · subst e; rw [h] at hb; cases hb
  · rw [if_neg e]; exact hb

/-- A world with one block more. -/
def wnew (w : World) (o : Obj) : World := { w with heap := w.heap.push o }
theorem wnew_old (w : World) (o : Obj) (b : Nat) (h : b < w.heap.size) : (wnew w o).heap[b]? = w.heap[b]? := by
  simp only [wnew, Array.getElem?_push]; rw [if_neg (by omega)]
theorem wnew_new (w : World) (o : Obj) : (wnew w o).heap[w.heap.size]? = some o := by unfold wnew; exact Array.getElem?_push_size

theorem mem_size (R : Mrel G M V H w) {b o : Nat} {v : Value} (h : M b o = some v) : b < w.heap.size := by
  have := (R.mem b o v h).1
  unfold World.cell? at this
  split at this
  · rename_i c e f hh
    exact (Array.getElem?_eq_some_iff.1 hh).1
  · cases this

/-- A block is made. -/
theorem Mrel.make (R : Mrel G M V H w) {k s n wd : Nat} {cs : List Value} {ty : TypeId} {fr : Nat × Nat} {blk : Blk} (hs : V s = none) (hc : ∀ v ∈ cs, cellV v = true)
    (hf : ∀ o, o < cs.length → (decide (fr.1 ≤ o) && decide (o < fr.2)) = false)
    (hb : ∀ w', w' = wnew w (.cells ⟨cs⟩ ty fr) → Own G (vset V s ⟨w.heap.size, n, wd⟩) w' s ⟨w.heap.size, n, wd⟩ cs → (∀ o, M w.heap.size o = none) → BlkRel G M (vset V s ⟨w.heap.size, n, wd⟩) w' s blk) :
    Mrel G M (vset V s ⟨w.heap.size, n, wd⟩) (upH H [(k, (s, blk))]) (wnew w (.cells ⟨cs⟩ ty fr)) ∧
      Ext G M V w M (vset V s ⟨w.heap.size, n, wd⟩) (wnew w (.cells ⟨cs⟩ ty fr)) := by
  have hnone : ∀ o, M w.heap.size o = none := by
    intro o
    cases e : M w.heap.size o with
    | none => rfl
    | some v => exact absurd (mem_size R e) (Nat.lt_irrefl _)
  have hsub := vset_sub (bi := ⟨w.heap.size, n, wd⟩) hs
  have own : Own G (vset V s ⟨w.heap.size, n, wd⟩) (wnew w (.cells ⟨cs⟩ ty fr)) s ⟨w.heap.size, n, wd⟩ cs := by
    refine ⟨vset_same _ _ _, ⟨ty, fr, wnew_new _ _⟩, hc, ?_, fun hg => Nat.lt_irrefl _ (R.gsz _ hg)⟩
    intro o ho
    rw [frozen_at (wnew_new w _)]; exact hf o ho
  have live_s : ∀ j bi, (H j).2.live = true → vset V s ⟨w.heap.size, n, wd⟩ (H j).1 = some bi → V (H j).1 = some bi ∧ bi.b < w.heap.size := by
    intro j bi hl hv
    obtain ⟨b', vs', o'⟩ := (R.blk j).live_own hl
    have : (H j).1 ≠ s := by intro e; have := o'.v; rw [e, hs] at this; cases this
    simp only [vset, if_neg this] at hv
    exact ⟨hv, R.vsz _ _ hv⟩
  refine ⟨⟨?_, ?_, ?_, ?_, ?_⟩, ⟨fun _ _ _ h => h, fun _ _ _ _ => rfl, hsub, ⟨rfl, rfl, rfl, by simp [wnew], fun b hb => wnew_old _ _ _ (R.gsz b hb)⟩⟩⟩
  · intro b o v hv
    obtain ⟨h1, h2⟩ := R.mem b o v hv
    exact ⟨by rw [World.cell?_of_block (w := w) (wnew_old w _ b (mem_size R hv))]; exact h1, h2⟩
  · intro j
    rw [upH_one]
    by_cases hj : k = j
    · subst hj; rw [if_pos rfl]; exact hb _ rfl own hnone
    · rw [if_neg hj]
      exact (R.blk j).keep hsub (fun _ _ _ h => h) (fun bi' _ hv => ⟨wnew_old _ _ _ (R.vsz _ _ hv), fun _ => rfl⟩)
  · intro k1 k2 b1 b2 hne h1 h2 v1 v2
    rw [upH_one] at h1 h2 v1 v2
    by_cases e1 : k = k1
    · subst e1
      rw [if_pos rfl] at v1
      rw [if_neg hne] at h2 v2
      obtain ⟨_, h⟩ := live_s k2 b2 h2 v2
      simp only [vset_same, Option.some.injEq] at v1
      subst v1
      exact fun e => absurd h (by rw [← e]; exact Nat.lt_irrefl _)
    · rw [if_neg e1] at h1 v1
      by_cases e2 : k = k2
      · subst e2
        rw [if_pos rfl] at v2
        obtain ⟨_, h⟩ := live_s k1 b1 h1 v1
        simp only [vset_same, Option.some.injEq] at v2
        subst v2
        exact fun e => absurd h (by rw [e]; exact Nat.lt_irrefl _)
      · rw [if_neg e2] at h2 v2
        exact R.dist k1 k2 b1 b2 hne h1 h2 (live_s k1 b1 h1 v1).1 (live_s k2 b2 h2 v2).1
  · intro b hb; exact Nat.lt_of_lt_of_le (R.gsz b hb) (by simp [wnew])
  · intro j b hb
    unfold vset at hb
    split at hb
    · simp only [Option.some.injEq] at hb; subst hb; simp [wnew]
    · exact Nat.lt_of_lt_of_le (R.vsz j b hb) (by simp [wnew])

/-- The cells of a block's first rows, told for good. -/
def mfreeze (M : Mem) (b : Nat) (n : Nat) (cs : List Value) : Mem := fun b' o => if b' = b ∧ o < n ∧ M b' o = none then cs[o]? else M b' o

theorem mfreeze_sub (M : Mem) (b n : Nat) (cs : List Value) : MSub M (mfreeze M b n cs) := by
  intro b' o v h
  unfold mfreeze
  rw [if_neg (by intro hh; rw [h] at hh; exact absurd hh.2.2 (by simp))]; exact h
theorem mfreeze_other (M : Mem) (b n : Nat) (cs : List Value) {b' : Nat} (h : b' ≠ b) (o : Nat) : mfreeze M b n cs b' o = M b' o := by
  unfold mfreeze; rw [if_neg (fun hh => h hh.1)]
theorem mfreeze_far (M : Mem) (b n : Nat) (cs : List Value) {o : Nat} (h : n ≤ o) (b' : Nat) : mfreeze M b n cs b' o = M b' o := by
  unfold mfreeze; rw [if_neg (fun hh => by omega)]
theorem mfreeze_at (R : Mrel G M V H w) {b n : Nat} {cs : List Value} {ty : TypeId} {fr : Nat × Nat} (hh : w.heap[b]? = some (.cells ⟨cs⟩ ty fr)) {o : Nat} (h : o < n) :
    mfreeze M b n cs b o = cs[o]? := by
  unfold mfreeze
  cases e : M b o with
  | none => simp [h]
  | some v =>
    have := (R.mem b o v e).1
    rw [cell_at hh] at this
    simp [this]

/-- A block is frozen up to a place. -/
theorem Mrel.freeze (R : Mrel G M V H w) {k n : Nat} {bi : BI} {cs : List Value} {blk : Blk} (hl : (H k).2.live = true) (own : Own G V w (H k).1 bi cs)
    (hb : BlkRel G (mfreeze M bi.b n cs) V w (H k).1 blk) :
    Mrel G (mfreeze M bi.b n cs) V (upH H [(k, ((H k).1, blk))]) w ∧ Ext G M V w (mfreeze M bi.b n cs) V w := by
  obtain ⟨ty, fr, hh⟩ := own.heap
  refine ⟨⟨?_, ?_, ?_, R.gsz, R.vsz⟩, ⟨mfreeze_sub _ _ _ _, fun b _ hg o => mfreeze_other _ _ _ _ (fun e => own.notG (by rw [← e]; exact hg)) o, fun _ _ h => h, .refl _ _⟩⟩
  · intro b o v hv
    by_cases hc : b = bi.b ∧ o < n ∧ M b o = none
    · unfold mfreeze at hv
      rw [if_pos hc] at hv
      obtain ⟨rfl, _, _⟩ := hc
      exact ⟨by rw [cell_at hh]; exact hv, own.cell v (List.mem_of_getElem? hv)⟩
    · unfold mfreeze at hv
      rw [if_neg hc] at hv
      exact R.mem b o v hv
  · intro j
    rw [upH_one]
    by_cases hj : k = j
    · subst hj; rw [if_pos rfl]; exact hb
    · rw [if_neg hj]
      refine (R.blk j).keep (fun _ _ h => h) (mfreeze_sub _ _ _ _) (fun bi' hlv hv => ⟨rfl, fun o => mfreeze_other _ _ _ _ ?_ o⟩)
      exact R.dist j k bi' bi (Ne.symm hj) hlv hl hv own.v
  · intro k1 k2 b1 b2 hne h1 h2 v1 v2
    rw [upH_one] at h1 h2 v1 v2
    by_cases e1 : k = k1
    · subst e1
      rw [if_pos rfl] at h1 v1
      rw [if_neg hne] at h2 v2
      exact R.dist k k2 b1 b2 hne hl h2 v1 v2
    · rw [if_neg e1] at h1 v1
      by_cases e2 : k = k2
      · subst e2
        rw [if_pos rfl] at h2 v2
        exact R.dist k1 k b1 b2 hne h1 hl v1 v2
      · rw [if_neg e2] at h2 v2
        exact R.dist k1 k2 b1 b2 hne h1 h2 v1 v2

end

end Go.Proofs.Ytbfdokfelolmbaa.Vai
end

section
namespace Go.Proofs.Ytbfdokfelolmbaa.Vai

/-! Sealing. -/

theorem flatten_drop {α : Type} {w : Nat} : ∀ (l : List (List α)) (n : Nat), (∀ r ∈ l, r.length = w) → (l.drop n).flatten = l.flatten.drop (n * w)
  | l, 0, _ => by simp
  | [], n + 1, _ => by simp
  | r :: l, n + 1, h => by
    have hr : r.length = w := h r (by simp)
    simp only [List.drop_succ_cons, List.flatten_cons]
    have h1 : r.drop ((n + 1) * w) = [] := List.drop_of_length_le (by rw [hr, Nat.succ_mul]; omega)
    rw [flatten_drop l n (fun x hx => h x (by simp [hx])), List.drop_append, h1, List.nil_append, hr]
    congr 1
    rw [Nat.succ_mul]; omega
theorem flatten_take {α : Type} {w : Nat} : ∀ (l : List (List α)) (n : Nat), (∀ r ∈ l, r.length = w) → (l.take n).flatten = l.flatten.take (n * w)
  | l, 0, _ => by simp
  | [], n + 1, _ => by simp
  | r :: l, n + 1, h => by
    have hr : r.length = w := h r (by simp)
    simp only [List.take_succ_cons, List.flatten_cons]
    have h1 : r.take ((n + 1) * w) = r := List.take_of_length_le (by rw [hr, Nat.succ_mul]; omega)
    rw [flatten_take l n (fun x hx => h x (by simp [hx])), List.take_append, h1, hr]
    congr 2
    rw [Nat.succ_mul]; omega
theorem flatten_length {α : Type} {w : Nat} : ∀ (l : List (List α)), (∀ r ∈ l, r.length = w) → l.flatten.length = l.length * w
  | [], _ => by simp
  | r :: l, h => by
    rw [List.flatten_cons, List.length_append, flatten_length l (fun x hx => h x (by simp [hx])), h r (by simp), List.length_cons, Nat.succ_mul]; omega
theorem mem_drop_take {α : Type} {l : List α} {a b : Nat} {x : α} (h : x ∈ (l.drop a).take b) : x ∈ l := List.mem_of_mem_drop (List.mem_of_mem_take h)

def FrzAt (M : Mem) (V : Val) (w : World) (sl : Slot) (n : Nat) : Prop :=
  ∀ bi cs ty fr, V sl.1 = some bi → w.heap[bi.b]? = some (.cells ⟨cs⟩ ty fr) → ∀ o, o < cs.length →
    (match sl.2 with | .arr wd _ _ => o < n * wd | .var _ _ => True | .gone => False) → M bi.b o = cs[o]?

theorem FrzAt.mono {M M' : Mem} {V : Val} {w : World} {sl : Slot} {n : Nat} (h : FrzAt M V w sl n) (hM : MSub M M') : FrzAt M' V w sl n := by
  intro bi cs ty fr h1 h2 o ho h3
  have := h bi cs ty fr h1 h2 o ho h3
  rw [List.getElem?_eq_getElem ho] at this ⊢
  exact hM _ _ _ this

section
variable {G : Nat → Prop} {M : Mem} {V : Val} {H : HR} {w : World}

theorem frz_one (R : Mrel G M V H w) {k n : Nat} (hl : (H k).2.live = true) :
    ∃ M', Mrel G M' V (upH H [(k, ((H k).1, frzB (H k).2 n))]) w ∧ Ext G M V w M' V w ∧ FrzAt M' V w (H k) n := by
  have hb := R.blk k
  cases e : (H k).2 with
  | gone => rw [e] at hl; simp [Blk.live] at hl
  | var cells fz =>
    rw [e] at hb
    obtain ⟨bi, vs, o, h1, h2, h3, h4⟩ := hb
    obtain ⟨ty, fr, hh⟩ := o.heap
    obtain ⟨R', X⟩ := R.freeze (n := vs.length) (blk := .var cells true) hl o ⟨bi, vs, o, h1, h2, h3.mono (mfreeze_sub _ _ _ _) (fun _ _ h => h), fun h => by cases h⟩
    refine ⟨_, R', X, ?_⟩
    intro bi' cs ty' fr' v1 v2 i hi _
    rw [o.v, Option.some.injEq] at v1; subst v1
    rw [hh, Option.some.injEq] at v2; cases v2
    exact mfreeze_at R hh hi
  | arr wd rows fz =>
    rw [e] at hb
    obtain ⟨bi, vs, o, h1, h2, h3, h4, h5, h6⟩ := hb
    obtain ⟨ty, fr, hh⟩ := o.heap
    obtain ⟨R', X⟩ := R.freeze (n := n * wd) (blk := .arr wd rows (max fz n)) hl o ⟨bi, vs, o, h1, h2, h3, h4, h5.mono (mfreeze_sub _ _ _ _), fun i hi => by
      have ha : n * wd ≤ i := Nat.le_trans (Nat.mul_le_mul_right _ (Nat.le_max_right _ _)) hi
      have hb : fz * wd ≤ i := Nat.le_trans (Nat.mul_le_mul_right _ (Nat.le_max_left _ _)) hi
      rw [mfreeze_far _ _ _ _ ha]; exact h6 i hb⟩
    refine ⟨_, R', X, ?_⟩
    intro bi' cs ty' fr' v1 v2 i hi h7
    rw [o.v, Option.some.injEq] at v1; subst v1
    rw [hh, Option.some.injEq] at v2; cases v2
    rw [e] at h7
    exact mfreeze_at R hh h7

theorem live_frzB (b : Blk) (n : Nat) : (frzB b n).live = b.live := by cases b <;> rfl
theorem FrzAt_frzB {M : Mem} {V : Val} {w : World} {s : Nat} {b : Blk} {m n : Nat} : FrzAt M V w (s, frzB b m) n ↔ FrzAt M V w (s, b) n := by
  cases b <;> exact Iff.rfl

def HSub (h H : HR) : Prop := ∀ k, h k = H k ∨ (h k).2 = .gone

theorem HSub.live {h H : HR} (hs : HSub h H) {k : Nat} (hl : (h k).2.live = true) : h k = H k := by
  rcases hs k with e | e
  · exact e
  · rw [e] at hl; simp [Blk.live] at hl

theorem HSub.up {h H : HR} (hs : HSub h H) (k : Nat) (s : Slot) : HSub (upH h [(k, s)]) (upH H [(k, s)]) := by
  intro j
  simp only [upH_one]
  by_cases e : k = j
  · simp [e]
  · simp only [e, if_false]; exact hs j

theorem frz_list (R : Mrel G M V H w) {h : HR} (hs : HSub h H) (fz : Frz) (hl : ∀ p ∈ fz, (h p.1).2.live = true) :
    ∃ M', Mrel G M' V (upH H (frzUps h fz)) w ∧ Ext G M V w M' V w ∧ ∀ p ∈ fz, FrzAt M' V w (h p.1) p.2 := by
  induction fz generalizing M H h with
  | nil => exact ⟨M, R, .refl, by simp⟩
  | cons p fz ih =>
    obtain ⟨k, n⟩ := p
    have hk := hl (k, n) (by simp)
    have e := hs.live hk
    obtain ⟨M1, R1, X1, F1⟩ := frz_one (n := n) R (by rw [← e]; exact hk)
    rw [← e] at R1 F1
    have hs1 := hs.up k ((h k).1, frzB (h k).2 n)
    obtain ⟨M2, R2, X2, F2⟩ := ih R1 hs1 (fun q hq => by
      rw [upH_one]
      by_cases e2 : k = q.1
      · rw [if_pos e2]; simp only [live_frzB]; exact hk
      · rw [if_neg e2]; exact hl q (by simp [hq]))
    refine ⟨M2, ?_, X1.trans X2, ?_⟩
    · simp only [frzUps]
      exact R2
    · intro q hq
      cases List.mem_cons.1 hq with
      | inl e3 => subst e3; exact F1.mono X2.m
      | inr e3 =>
        have := F2 q e3
        rw [upH_one] at this
        by_cases e4 : k = q.1
        · rw [if_pos e4, FrzAt_frzB] at this
          rw [← e4]; exact this
        · rw [if_neg e4] at this; exact this

/-- What the rows of a block's are, place by place. -/
theorem rows_rep {wd row len : Nat} {rows : List (List SV)} {cs : List Value} (hw : ∀ r ∈ rows, r.length = wd) (hr : RepSL M rows.flatten (cs.take rows.flatten.length)) (hl : row + len ≤ rows.length) :
    RepSL M ((rows.drop row).take len).flatten ((cs.drop (row * wd)).take (len * wd)) := by
  rw [flatten_take _ _ (fun r h => hw r (List.mem_of_mem_drop h)), flatten_drop _ _ hw]
  have h1 := (hr.drop (row * wd)).take (len * wd)
  have h2 : ((cs.take rows.flatten.length).drop (row * wd)).take (len * wd) = (cs.drop (row * wd)).take (len * wd) := by
    rw [List.drop_take, List.take_take]
    congr 1
    rw [flatten_length _ hw]
    have := Nat.mul_le_mul_right wd hl
    rw [Nat.add_mul] at this
    omega
  rw [h2] at h1; exact h1

theorem RepS.ofRows {M : Mem} {rows : List (List SV)} {wd b o cap : Nat} {cs : List Value} (hw : ∀ r ∈ rows, r.length = wd) (hc : rows.length ≤ cap)
    (h : RepSL M rows.flatten cs) (hm : ∀ i, i < cs.length → M b (o + i) = cs[i]?) : RepS M (.ssl rows) (.slice (some ⟨b, o, none⟩) rows.length cap) := by
  by_cases h0 : rows = []
  · subst h0; exact .ssl0 _ _
  · refine .ssl rows wd b o cap (fun i => cs.getD i undef) h0 hw hc (fun i hi => ?_) (fun i hi => ?_)
    · have hi' : i < cs.length := h.1 ▸ hi
      rw [hm i hi']; simp [List.getD, List.getElem?_eq_getElem hi']
    · have hi' : i < cs.length := h.1 ▸ hi
      have := h.2 i hi hi'
      simpa [List.getD, List.getElem?_eq_getElem hi'] using this

theorem RepS.ofCells {M : Mem} {l : List SV} {b o : Nat} {cs : List Value}
    (h : RepSL M l cs) (hm : ∀ i, i < cs.length → M b (o + i) = cs[i]?) : RepS M (.sp l) (.pointer (some ⟨b, o, none⟩)) := by
  refine .sp l b o (fun i => cs.getD i undef) (fun i hi => ?_) (fun i hi => ?_)
  · have hi' : i < cs.length := h.1 ▸ hi
    rw [hm i hi']; simp [List.getD, List.getElem?_eq_getElem hi']
  · have hi' : i < cs.length := h.1 ▸ hi
    have := h.2 i hi hi'
    simpa [List.getD, List.getElem?_eq_getElem hi'] using this

def SealSpec (M : Mem) (V : Val) (w : World) (h : HR) (n : Nat) : Prop :=
  (∀ a v fz x, sealA n h a = some (v, fz) → RepA M V a x →
    (∀ p ∈ fz, (h p.1).2.live = true) ∧ ∀ M', MSub M M' → (∀ p ∈ fz, FrzAt M' V w (h p.1) p.2) → RepS M' v x) ∧
  (∀ l r fz xs, sealAs n h l = some (r, fz) → RepL M V l xs →
    (∀ p ∈ fz, (h p.1).2.live = true) ∧ ∀ M', MSub M M' → (∀ p ∈ fz, FrzAt M' V w (h p.1) p.2) → RepSL M' r xs)

theorem seal_base (R : Mrel G M V H w) {h : HR} (hs : HSub h H) {n k s row len : Nat} {cap : Option Nat} {v : SV} {fz : Frz} {x : Value}
    (e : sealA n h (.lsl k s row len cap) = some (v, fz)) (r : RepA M V (.lsl k s row len cap) x) :
    (∀ p ∈ fz, (h p.1).2.live = true) ∧ ∀ M', MSub M M' → (∀ p ∈ fz, FrzAt M' V w (h p.1) p.2) → RepS M' v x := by
  have e' : (match h k with
    | (s', .arr _ rows _) => if s' = s ∧ row + len ≤ rows.length then some (SV.ssl ((rows.drop row).take len), [(k, row + len)]) else none
    | _ => none) = some (v, fz) := by cases n <;> exact e
  split at e'
  · rename_i s' wd rows fz' hk
    split at e'
    · rename_i hc
      obtain ⟨rfl, hlen⟩ := hc
      simp only [Option.some.injEq, Prod.mk.injEq] at e'
      obtain ⟨rfl, rfl⟩ := e'
      have hlive : (h k).2.live = true := by rw [hk]; rfl
      have hH := hs.live hlive
      refine ⟨by simp [hk, Blk.live], fun M' hM F => ?_⟩
      have hb := R.blk k
      rw [← hH, hk] at hb
      obtain ⟨bi, vs, o, h1, h2, h3, h4, h5, h6⟩ := hb
      obtain ⟨ty, fr, hh⟩ := o.heap
      cases r with
      | lsl _ _ _ _ _ bi' c v1 q1 q2 q3 q4 =>
        rw [o.v, Option.some.injEq] at v1; subst v1
        have hf := F (k, row + len) (by simp)
        have rr := (rows_rep h4 h5 hlen).mono hM
        have hlen2 : ((rows.drop row).take len).length = len := by simp; omega
        have := RepS.ofRows (M := M') (rows := (rows.drop row).take len) (wd := wd) (b := bi.b) (o := row * wd) (cap := c) (fun r hr => h4 r (mem_drop_take hr)) (by rw [hlen2]; exact q3) rr (fun i hi => by
          have hi2 : i < len * wd := by simp at hi; omega
          have hi3 : row * wd + i < vs.length := by simp at hi; omega
          have := hf bi vs ty fr (by rw [hk]; exact o.v) hh (row * wd + i) hi3 (by rw [hk]; show _ < (row + len) * wd; rw [Nat.add_mul]; omega)
          rw [this]
          simp [hi2])
        rw [hlen2] at this
        rw [h1]; exact this
    · cases e'
  · cases e'

theorem seal_spec (R : Mrel G M V H w) {h : HR} (hs : HSub h H) : ∀ n, SealSpec M V w h n := by
  intro n
  induction n with
  | zero =>
    refine ⟨fun a v fz x e r => ?_, fun l r fz xs e q => ?_⟩
    · cases a with
      | s v' => simp only [sealA, Option.some.injEq, Prod.mk.injEq] at e; obtain ⟨rfl, rfl⟩ := e; cases r with | s _ _ r => exact ⟨by simp, fun M' hM _ => r.mono hM⟩
      | nsl => simp only [sealA, Option.some.injEq, Prod.mk.injEq] at e; obtain ⟨rfl, rfl⟩ := e; cases r; exact ⟨by simp, fun M' hM _ => .ssl0 _ _⟩
      | xsl rows => simp only [sealA, Option.some.injEq, Prod.mk.injEq] at e; obtain ⟨rfl, rfl⟩ := e; cases r with | xsl _ _ _ r => exact ⟨by simp, fun M' hM _ => r.mono hM⟩
      | lsl k s row len cap => exact seal_base R hs e r
      | _ => simp [sealA] at e
    · cases l with
      | nil => simp only [sealAs, Option.some.injEq, Prod.mk.injEq] at e; obtain ⟨rfl, rfl⟩ := e; rw [q.nil_inv]; exact ⟨by simp, fun M' hM _ => RepSL.nil⟩
      | cons a l => simp [sealAs] at e
  | succ n ih =>
    obtain ⟨ih1, ih2⟩ := ih
    refine ⟨fun a v fz x e r => ?_, fun l r fz xs e q => ?_⟩
    · cases a with
      | s v' => simp only [sealA, Option.some.injEq, Prod.mk.injEq] at e; obtain ⟨rfl, rfl⟩ := e; cases r with | s _ _ r => exact ⟨by simp, fun M' hM _ => r.mono hM⟩
      | nsl => simp only [sealA, Option.some.injEq, Prod.mk.injEq] at e; obtain ⟨rfl, rfl⟩ := e; cases r; exact ⟨by simp, fun M' hM _ => .ssl0 _ _⟩
      | xsl rows => simp only [sealA, Option.some.injEq, Prod.mk.injEq] at e; obtain ⟨rfl, rfl⟩ := e; cases r with | xsl _ _ _ r => exact ⟨by simp, fun M' hM _ => r.mono hM⟩
      | lsl k s row len cap => exact seal_base R hs e r
      | ref k s row off =>
        simp only [sealA] at e
        split at e
        · rename_i s' wd rows fz' hk
          split at e
          · rename_i hc
            split at e
            · rename_i rr hrow
              simp only [Option.some.injEq, Prod.mk.injEq] at e
              obtain ⟨rfl, rfl⟩ := e
              have hlive : (h k).2.live = true := by rw [hk]; rfl
              have hH := hs.live hlive
              refine ⟨by simp [hk, Blk.live], fun M' hM F => ?_⟩
              have hb := R.blk k
              rw [← hH, hk] at hb
              obtain ⟨bi, vs, o, h1, h2, h3, h4, h5, h6⟩ := hb
              obtain ⟨ty, fr, hh⟩ := o.heap
              cases r with
              | ref _ _ _ _ bi' v1 =>
                rw [← hc, o.v, Option.some.injEq] at v1; subst v1
                obtain ⟨hr1, hr2⟩ := List.getElem?_eq_some_iff.1 hrow
                have hlr : rr.length = wd := h4 rr (by rw [← hr2]; exact List.getElem_mem _)
                have hf := F (k, row + 1) (by simp)
                have q := (rows_rep (row := row) (len := 1) h4 h5 (by omega)).mono hM
                have hone : ((rows.drop row).take 1).flatten = rr := by
                  rw [List.drop_eq_getElem_cons hr1, hr2]; simp
                rw [hone, Nat.one_mul] at q
                have q2 := q.drop off
                rw [List.drop_take, List.drop_drop] at q2
                have := RepS.ofCells (M := M') (b := bi.b) (o := row * wd + off) q2 (fun i hi => by
                  have hi2 : i < wd - off := by simp at hi; omega
                  have hi3 : row * wd + off + i < vs.length := by simp at hi; omega
                  have := hf bi vs ty fr (by rw [hk]; exact o.v) hh (row * wd + off + i) hi3 (by rw [hk]; show _ < (row + 1) * wd; rw [Nat.add_mul]; omega)
                  rw [this]
                  simp [hi2])
                rw [h1]; exact this
            · cases e
          · cases e
        · rename_i s' cells fz' hk
          split at e
          · rename_i hc
            split at e
            · rename_i l' f' hl'
              simp only [Option.some.injEq, Prod.mk.injEq] at e
              obtain ⟨rfl, rfl⟩ := e
              have hlive : (h k).2.live = true := by rw [hk]; rfl
              have hH := hs.live hlive
              have hb := R.blk k
              rw [← hH, hk] at hb
              obtain ⟨bi, vs, o, h1, h2, h3, h4⟩ := hb
              obtain ⟨ty, fr, hh⟩ := o.heap
              obtain ⟨p1, p2⟩ := ih2 _ _ _ _ hl' (h3.drop off)
              refine ⟨fun p hp => ?_, fun M' hM F => ?_⟩
              · cases List.mem_cons.1 hp with
                | inl e3 => subst e3; exact hlive
                | inr e3 => exact p1 p e3
              · cases r with
                | ref _ _ _ _ bi' v1 =>
                  rw [← hc.1, o.v, Option.some.injEq] at v1; subst v1
                  have q := p2 M' hM (fun p hp => F p (by simp [hp]))
                  have hf := F (k, 1) (by simp)
                  have := RepS.ofCells (M := M') (b := bi.b) (o := off) q (fun i hi => by
                    have hi3 : off + i < vs.length := by simp at hi; omega
                    have := hf bi vs ty fr (by rw [hk]; exact o.v) hh (off + i) hi3 (by rw [hk]; trivial)
                    rw [this]; simp)
                  rw [hc.2, Nat.zero_mul, Nat.zero_add]; exact this
            · cases e
          · cases e
        · cases e
      | agg l =>
        simp only [sealA] at e
        split at e
        · rename_i l' f' hl'
          simp only [Option.some.injEq, Prod.mk.injEq] at e
          obtain ⟨rfl, rfl⟩ := e
          cases r with
          | agg _ cs hl hc rr =>
            obtain ⟨p1, p2⟩ := ih2 _ _ _ _ hl' ⟨hl, rr⟩
            refine ⟨p1, fun M' hM F => ?_⟩
            have q := p2 M' hM F
            exact .agg _ _ q.1 hc q.2
        · cases e
      | iface t v' =>
        simp only [sealA] at e
        split at e
        · rename_i v2 f' hl'
          simp only [Option.some.injEq, Prod.mk.injEq] at e
          obtain ⟨rfl, rfl⟩ := e
          cases r with
          | iface _ _ x rr =>
            obtain ⟨p1, p2⟩ := ih1 _ _ _ _ hl' rr
            exact ⟨p1, fun M' hM F => .iface _ _ _ (p2 M' hM F)⟩
        · cases e
      | clo fn a c =>
        simp only [sealA] at e
        split at e
        · rename_i a2 f' c2 g' ha hc
          simp only [Option.some.injEq, Prod.mk.injEq] at e
          obtain ⟨rfl, rfl⟩ := e
          cases r with
          | clo _ _ _ a' c' la lc ra rc =>
            obtain ⟨p1, p2⟩ := ih2 _ _ _ _ ha ⟨la, ra⟩
            obtain ⟨q1, q2⟩ := ih2 _ _ _ _ hc ⟨lc, rc⟩
            refine ⟨fun p hp => (List.mem_append.1 hp).elim (p1 p) (q1 p), fun M' hM F => ?_⟩
            have s1 := p2 M' hM (fun p hp => F p (List.mem_append_left _ hp))
            have s2 := q2 M' hM (fun p hp => F p (List.mem_append_right _ hp))
            exact .clo _ _ _ _ _ s1.1 s2.1 s1.2 s2.2
        · cases e
      | _ => simp [sealA] at e
    · cases l with
      | nil => simp only [sealAs, Option.some.injEq, Prod.mk.injEq] at e; obtain ⟨rfl, rfl⟩ := e; rw [q.nil_inv]; exact ⟨by simp, fun M' hM _ => RepSL.nil⟩
      | cons a l =>
        simp only [sealAs] at e
        split at e
        · rename_i v f' r' g' ha hl
          simp only [Option.some.injEq, Prod.mk.injEq] at e
          obtain ⟨rfl, rfl⟩ := e
          obtain ⟨x, xs', rfl, rx, rl⟩ := q.inv
          obtain ⟨p1, p2⟩ := ih1 _ _ _ _ ha rx
          obtain ⟨q1, q2⟩ := ih2 _ _ _ _ hl rl
          refine ⟨fun p hp => (List.mem_append.1 hp).elim (p1 p) (q1 p), fun M' hM F => ?_⟩
          exact RepSL.cons (p2 M' hM (fun p hp => F p (List.mem_append_left _ hp))) (q2 M' hM (fun p hp => F p (List.mem_append_right _ hp)))
        · cases e

/-- Sealing a list of values. -/
theorem seal_all (R : Mrel G M V H w) {h : HR} (hs : HSub h H) {n : Nat} {l : List AV} {r : List SV} {fz : Frz} {xs : List Value} (e : sealAs n h l = some (r, fz)) (q : RepL M V l xs) :
    ∃ M', Mrel G M' V (upH H (frzUps h fz)) w ∧ Ext G M V w M' V w ∧ RepSL M' r xs := by
  obtain ⟨p1, p2⟩ := (seal_spec R hs n).2 _ _ _ _ e q
  obtain ⟨M', R', X, F⟩ := frz_list R hs fz p1
  exact ⟨M', R', X, p2 M' X.m F⟩

end
end Go.Proofs.Ytbfdokfelolmbaa.Vai
end

section
namespace Go.Proofs.Ytbfdokfelolmbaa.Vai

/-! The operations, one by one. -/

def OpPost (G : Nat → Prop) (M : Mem) (V : Val) (H : HR) (w : World) (s : Nat) (v : AV) (ups : List Up) (x : Value) (w' : World) : Prop :=
  ∃ M' V', Mrel G M' V' (upH H ups) w' ∧ Ext G M V w M' V' w' ∧ RepA M' V' v x ∧ ∀ j, V' j ≠ V j → s ≤ j ∧ j < s + room

def OpSpec (P : Program) (G : Nat → Prop) (M : Mem) (V : Val) (H : HR) (a : Act) (w : World) (s : Nat) (o : Oper) (v : AV) (ups : List Up) : Prop :=
  ∀ (next : Act → World → Prop) (Q : Exit → Act → World → Prop), (∀ x w', OpPost G M V H w s v ups x w' → next (a.put o.dst x) w') → o.wp P a w next Q

section
variable {P : Program} {G : Nat → Prop} {M : Mem} {V : Val} {H : HR} {w : World} {a : Act} {s : Nat} {o : Oper} {v : AV} {ups : List Up}

theorem OpSpec.of_value {x : Value} {w' : World} (hr : (execOp a.eval o).run P w = .ok (.value x) w') (hp : OpPost G M V H w s v ups x w') : OpSpec P G M V H a w s o v ups := by
  intro next Q hn
  unfold Oper.wp
  rw [hr]
  exact hn x w' hp

theorem OpSpec.of_skip {w' : World} (hr : (execOp a.eval o).run P w = .ok .skip w') (hp : OpPost G M V H w s v ups undef w') : OpSpec P G M V H a w s o v ups := by
  intro next Q hn
  unfold Oper.wp
  rw [hr]
  exact hn undef w' hp

theorem OpPost.same (R : Mrel G M V H w) {x : Value} (h : RepA M V v x) : OpPost G M V H w s v [] x w := ⟨M, V, R, .refl, h, fun _ h => absurd rfl h⟩

/-! What the tables say. -/
theorem run_under {t : TypeId} {d : TypeDesc} (h : P.underlying t = some d) (w : World) : (underlying t).run P w = .ok d w := by
  simp [underlying, h]
theorem run_size {t : TypeId} {n : Nat} (h : tsize P t = some n) (w : World) : (sizeOf t).run P w = .ok n w := by
  unfold tsize at h
  cases hi : P.info? t with
  | none => simp [hi] at h
  | some i => simp [hi] at h; simp [sizeOf, typeInfo, hi, h]
theorem run_bytes {t : TypeId} {n : Nat} (h : tbytes P t = some n) (w : World) : ∃ i, (typeInfo t).run P w = .ok i w ∧ i.bytes = n := by
  unfold tbytes at h
  cases hi : P.info? t with
  | none => simp [hi] at h
  | some i => simp [hi] at h; exact ⟨i, by simp [typeInfo, hi], h⟩
theorem run_isAgg {t : TypeId} {b : Bool} (h : tagg P t = some b) (w : World) : (isAgg t).run P w = .ok b w := by
  unfold tagg at h
  split at h
  · rename_i hu; simp at h; subst h; simp [isAgg, run_under hu]
  · rename_i hu; simp at h; subst h; simp [isAgg, run_under hu]
  · rename_i d h1 h2 hu
    simp at h; subst h
    simp only [isAgg, Sem.run_bind, run_under hu, Result.andThen_ok]
    cases d <;> simp_all
  · cases h
theorem run_zero {t : TypeId} {z : AV} (h : tzero P t = some z) (w : World) : ∃ x, (zeroValue t).run P w = .ok x w ∧ RepA M V z x := by
  unfold tzero at h
  cases hi : P.info? t with
  | none => simp [hi] at h
  | some i =>
    simp [hi] at h
    cases hz : i.zero with
    | none => simp [hz] at h
    | some x => simp [hz] at h; exact ⟨x, by simp [zeroValue, typeInfo, hi, hz], ofV_rep h⟩

/-- A value's cells. -/
theorem cells_rep {x : Value} {l : List AV} (h : cellsA v = some l) (r : RepA M V v x) : RepL M V l x.cells.toList ∧ ∀ c ∈ x.cells.toList, cellV c = true := by
  have one : ∀ {v : AV} {x : Value}, RepA M V v x → cellV x = true → RepL M V [v] x.cells.toList ∧ ∀ c ∈ x.cells.toList, cellV c = true := by
    intro v x r hc
    have : x.cells = #[x] := by cases x <;> simp_all [Value.cells, cellV]
    rw [this]
    exact ⟨RepL.cons r RepL.nil, by simpa using hc⟩
  cases v with
  | agg l' => simp only [cellsA, Option.some.injEq] at h; subst h; cases r with | agg _ cs hl hc rr => exact ⟨⟨hl, rr⟩, hc⟩
  | tup l' => simp [cellsA] at h
  | dead => simp [cellsA] at h
  | s v' =>
    cases v' with
    | agg l' =>
      simp only [cellsA, Option.some.injEq] at h; subst h
      cases r with
      | s _ _ r => cases r with | agg _ cs hl hc rr => exact ⟨RepL.ofS ⟨hl, rr⟩, hc⟩
    | flat y =>
      have hy : x = y := by cases r with | s _ _ r => cases r; rfl
      subst hy
      cases x with
      | tuple l => simp [cellsA] at h
      | agg l => simp [cellsA] at h
      | _ => simp only [cellsA, Option.some.injEq] at h; subst h; exact one r rfl
    | _ =>
      simp only [cellsA, Option.some.injEq] at h; subst h
      refine one r ?_
      cases r with | s _ _ r => cases r <;> rfl
  | _ =>
    simp only [cellsA, Option.some.injEq] at h; subst h
    refine one r ?_
    cases r <;> rfl

/-- The model's own operation on plain values. -/
theorem flat_sound (R : Mrel G M V H w) {ρ : Operand → AV} (hsel : ∀ cs b, o.op ≠ .select cs b) (hρ : ∀ x ∈ o.op.operands, RepA M V (ρ x) (a.eval x))
    (h : flatA P ρ o = some v) : OpSpec P G M V H a w s o v [] := by
  unfold flatA at h
  split at h
  · rename_i hall
    split at h
    · rename_i x hq
      have he : execOp (fun x => (toV (ρ x)).getD (.tuple #[])) o = execOp a.eval o := by
        refine execOp_congr o hsel fun y hy => ?_
        rw [List.all_eq_true] at hall
        have := hall y (by simpa using hy)
        cases ht : toV (ρ y) with
        | none => rw [ht] at this; cases this
        | some z => simp [toV_rep (hρ y hy) ht]
      rw [he] at hq
      exact OpSpec.of_value (quiet_run hq w) (OpPost.same R (ofV_rep h))
    · cases h
  · cases h

theorem part_sound {t : TypeId} {l : List AV} {cs : List Value} {off : Nat} (h : partA P t l off = some v) (r : RepL M V l cs) (hc : ∀ c ∈ cs, cellV c = true) :
    ∃ x, (∀ w, (part t ⟨cs⟩ off).run P w = .ok x w) ∧ RepA M V v x := by
  unfold partA at h
  split at h
  · rename_i n ha hs
    split at h
    · rename_i hl
      simp only [Option.some.injEq] at h; subst h
      refine ⟨.agg ⟨(cs.drop off).take n⟩, fun w => ?_, ?_⟩
      · simp only [part, Sem.run_bind, run_isAgg ha, Result.andThen_ok, if_true, run_size hs, Sem.run_pure]
        congr 2
        apply Array.ext'
        simp
      · have q := (r.drop off).take n
        exact .agg _ _ q.1 (fun c hcm => hc c (mem_drop_take hcm)) q.2
    · cases h
  · rename_i n ha hs
    obtain ⟨x, hx, rx⟩ := r.at h
    refine ⟨x, fun w => ?_, rx⟩
    simp only [part, Sem.run_bind, run_isAgg ha, Result.andThen_ok, Bool.false_eq_true, if_false]
    simp [hx]
  · cases h

theorem box_sound (R : Mrel G M V H w) {k : Nat} {t : TypeId} {x : Value} {y : AV} {z : List AV} (hz : cellsA y = some z) (r : RepA M V y x) (hs : V s = none)
    (hr : (execOp a.eval o).run P w = .ok (.value (.pointer (some ⟨w.heap.size, 0, none⟩))) (wnew w (.cells x.cells t))) :
    OpSpec P G M V H a w s o (.ref k s 0 0) [(k, (s, .var z false))] := by
  obtain ⟨q, hc⟩ := cells_rep hz r
  have := R.make (k := k) (s := s) (n := 1) (wd := z.length) (cs := x.cells.toList) (ty := t) (fr := (0, 0)) (blk := .var z false) hs hc (fun o _ => by simp) (by
    intro w' _ own hm
    exact ⟨_, _, own, rfl, rfl, q.mono (fun _ _ _ h => h) (vset_sub hs), fun _ o => hm o⟩)
  obtain ⟨R', X⟩ := this
  refine OpSpec.of_value hr ⟨M, _, R', X, ?_, ?_⟩
  · have := RepA.ref (M := M) k s 0 0 _ (vset_same V s ⟨w.heap.size, 1, z.length⟩)
    simpa using this
  · intro j hj
    by_cases e : j = s
    · subst e; exact ⟨Nat.le_refl _, by unfold room; omega⟩
    · exact absurd (by simp [vset, e]) hj

/-- What stands at an address. -/
theorem cellsAt_sound (R : Mrel G M V H w) {h : HR} (hs : HSub h H) {p : AV} {x : Value} {l : List AV} (e : cellsAt h p = some l) (r : RepA M V p x) :
    ∃ b o cs, x = .pointer (some ⟨b, o, none⟩) ∧ RepL M V l cs ∧ (∀ i, i < cs.length → w.cell? ⟨b, o + i, none⟩ = cs[i]?) ∧ ∀ c ∈ cs, cellV c = true := by
  unfold cellsAt at e
  split at e
  · rename_i k s row off
    split at e
    · rename_i s' cells fz hk
      split at e
      · rename_i hc
        obtain ⟨rfl, rfl⟩ := hc
        simp only [Option.some.injEq] at e; subst e
        have hH := hs.live (k := k) (by rw [hk]; rfl)
        have hb := R.blk k
        rw [← hH, hk] at hb
        obtain ⟨bi, vs, o, h1, h2, h3, h4⟩ := hb
        obtain ⟨ty, fr, hh⟩ := o.heap
        cases r with
        | ref _ _ _ _ bi' v1 =>
          rw [o.v, Option.some.injEq] at v1; subst v1
          refine ⟨_, _, vs.drop off, rfl, h3.drop off, fun i hi => ?_, fun c hc => o.cell c (List.mem_of_mem_drop hc)⟩
          rw [cell_at hh]; simp
      · cases e
    · rename_i s' wd rows fz hk
      split at e
      · rename_i hc
        subst hc
        cases hrow : rows[row]? with
        | none => rw [hrow] at e; cases e
        | some rr =>
          rw [hrow] at e
          simp only [Option.map_some, Option.some.injEq] at e; subst e
          have hH := hs.live (k := k) (by rw [hk]; rfl)
          have hb := R.blk k
          rw [← hH, hk] at hb
          obtain ⟨bi, vs, o, h1, h2, h3, h4, h5, h6⟩ := hb
          obtain ⟨ty, fr, hh⟩ := o.heap
          cases r with
          | ref _ _ _ _ bi' v1 =>
            rw [o.v, Option.some.injEq] at v1; subst v1
            obtain ⟨hr1, hr2⟩ := List.getElem?_eq_some_iff.1 hrow
            have q := rows_rep (row := row) (len := 1) h4 h5 (by omega)
            have hone : ((rows.drop row).take 1).flatten = rr := by
              rw [List.drop_eq_getElem_cons hr1, hr2]; simp
            rw [hone, Nat.one_mul] at q
            refine ⟨_, _, (((vs.drop (row * wd)).take wd).drop off), rfl, RepL.ofS (q.drop off), fun i hi => ?_, fun c hc => o.cell c (mem_drop_take (List.mem_of_mem_drop hc))⟩
            rw [cell_at hh, h1]
            simp at hi
            simp only [List.getElem?_drop, List.getElem?_take]
            rw [if_pos (by omega)]
            congr 1; omega
      · cases e
    · cases e
  · rename_i l'
    simp only [Option.some.injEq] at e; subst e
    cases r with
    | s _ _ r =>
      cases r with
      | sp _ b o f hm rr =>
        refine ⟨b, o, (List.range l'.length).map f, rfl, RepL.ofS ⟨by simp, fun i h1 h2 => ?_⟩, fun i hi => ?_, fun c hc => ?_⟩
        · simpa using rr i h1
        · simp at hi
          rw [(R.mem _ _ _ (hm i hi)).1]; simp [hi]
        · simp only [List.mem_map, List.mem_range] at hc
          obtain ⟨i, hi, rfl⟩ := hc
          exact (R.mem _ _ _ (hm i hi)).2
  · cases e

theorem load_run (R : Mrel G M V H w) {h : HR} (hs : HSub h H) {t : TypeId} {p : AV} {xv : Value} (e : loadA P h t p = some v) (r : RepA M V p xv) :
    ∃ ad y, xv = .pointer (some ad) ∧ (loadVar t ad).run P w = .ok y w ∧ RepA M V v y := by
  unfold loadA at e
  split at e
  · rename_i l hl
    obtain ⟨b, off, cs, hx, rl, hcell, hcv⟩ := cellsAt_sound R hs hl r
    obtain ⟨y, hy', ry⟩ := part_sound e rl hcv
    have hy := hy' w
    refine ⟨⟨b, off, none⟩, y, hx, ?_, ry⟩
    unfold partA at e
    split at e
    · rename_i n ha hsz
      split at e
      · rename_i hle
        simp only [part, Sem.run_bind, run_isAgg ha, Result.andThen_ok, if_true, run_size hsz, Sem.run_pure] at hy
        simp only [loadVar, Sem.run_bind, run_isAgg ha, Result.andThen_ok, if_true, run_size hsz]
        have hlen : n ≤ cs.length := by rw [← rl.1]; omega
        have := run_loadMem (P := P) (w := w) (b := b) (o := off) (vs := cs.take n) (fun i hi => by
          simp at hi
          rw [hcell i (by omega)]; simp [hi])
        have hl2 : (cs.take n).length = n := by simp; omega
        rw [hl2] at this
        rw [this]
        simp only [Result.andThen_ok, Sem.run_pure]
        rw [← hy]
        congr 2
        apply Array.ext'
        simp
      · cases e
    · rename_i n ha hsz
      obtain ⟨x0, hx0, rx0⟩ := rl.at e
      simp only [part, Sem.run_bind, run_isAgg ha, Result.andThen_ok, Bool.false_eq_true, if_false] at hy
      simp only [loadVar, Sem.run_bind, run_isAgg ha, Result.andThen_ok, Bool.false_eq_true, if_false]
      have hlt : 0 < cs.length := by
        obtain ⟨h1, _⟩ := List.getElem?_eq_some_iff.1 hx0; exact h1
      have hc0 := hcell 0 hlt
      rw [hx0] at hc0
      simp only [Nat.add_zero] at hc0
      rw [run_load, hc0]
      simp [hx0] at hy
      simp [hy]
    · cases e
  · cases e

theorem load_sound (R : Mrel G M V H w) {h : HR} (hs : HSub h H) {t : TypeId} {p : AV} {q : Operand} (e : loadA P h t p = some v) (r : RepA M V p (a.eval q)) (ho : o.op = .load t q) :
    OpSpec P G M V H a w s o v [] := by
  obtain ⟨ad, y, hx, hrun, ry⟩ := load_run R hs e r
  refine OpSpec.of_value (x := y) (w' := w) ?_ (OpPost.same R ry)
  simp only [execOp, ho, Instr.loadAt, hx, Instr.sureAddr]
  simp [hrun]

end
end Go.Proofs.Ytbfdokfelolmbaa.Vai
end

section
namespace Go.Proofs.Ytbfdokfelolmbaa.Vai

section
variable {P : Program} {G : Nat → Prop} {M : Mem} {V : Val} {H : HR} {w : World} {a : Act} {s : Nat} {o : Oper} {v : AV} {ups : List Up}

theorem take_splice {α : Type} (cs v : List α) (o n : Nat) (h1 : o + v.length ≤ n) (h2 : n ≤ cs.length) : (splice cs o v).take n = splice (cs.take n) o v := by
  apply List.ext_getElem?
  intro i
  have hl : o + v.length ≤ (cs.take n).length := by simp; omega
  rw [splice_get _ _ _ hl, List.getElem?_take]
  by_cases hi : i < n
  · rw [if_pos hi, splice_get _ _ _ (by omega)]
    simp [hi]
  · rw [if_neg hi, if_neg (by omega)]
    simp; omega

theorem rep_und {M : Mem} {V : Val} : RepA M V und undef := .s _ _ (.flat _)

theorem run_storeVar {b off n : Nat} {t : TypeId} {x : Value} {cs : List Value} {ty : TypeId} {fr : Nat × Nat} (hs : tsize P t = some n) (hx : x.cells.toList.length = n)
    (hc : ∀ c ∈ x.cells.toList, cellV c = true) (hh : w.heap[b]? = some (.cells ⟨cs⟩ ty fr)) (hl : off + n ≤ cs.length) (hf : ∀ j, j < cs.length → w.frozen? ⟨b, j, none⟩ = false) :
    (storeVar t ⟨b, off, none⟩ x).run P w = .ok () (wput w b off x.cells.toList) := by
  have hx' : x.cells.size = n := by simpa using hx
  have := run_storeAt (P := P) off x.cells.toList 0 cs w hh (by omega) hc hf
  simp only [storeVar, Sem.run_bind, run_size hs, Result.andThen_ok]
  simp only [Nat.add_zero] at this
  simp [hx', this]

theorem store_sound (R : Mrel G M V H w) {h : HR} (hs : HSub h H) {t : TypeId} {p y : AV} {q u : Operand} (e : storeA P h t p y = some ups) (rp : RepA M V p (a.eval q)) (ry : RepA M V y (a.eval u))
    (ho : o.op = .store t q u) : OpSpec P G M V H a w s o und ups := by
  unfold storeA at e
  split at e
  · rename_i k st row off vs n hv hn
    split at e
    · rename_i hlen
      obtain ⟨rv, cv⟩ := cells_rep hv ry
      split at e
      · rename_i s' cells fz hk
        split at e
        · rename_i hc
          obtain ⟨rfl, rfl, rfl, hl⟩ := hc
          simp only [Option.some.injEq] at e; subst e
          have hlive : (h k).2.live = true := by rw [hk]; rfl
          have hH := hs.live hlive
          have hb := R.blk k
          rw [← hH, hk] at hb
          obtain ⟨bi, cs, own, h1, h2, h3, h4⟩ := hb
          obtain ⟨ty, fr, hh⟩ := own.heap
          have hst : (H k).1 = s' := by rw [← hH, hk]
          have hxl : (a.eval u).cells.toList.length = n := by rw [← rv.1, hlen]
          have hcl : off + n ≤ cs.length := by rw [← h3.1]; exact hl
          have W := R.write (k := k) (bi := bi) (cs := cs) (vs := (a.eval u).cells.toList) (o := off) (blk := .var (splice cells off vs) false)
            (by rw [← hH]; exact hlive) (by rw [hst]; exact own) (by rw [hxl]; exact hcl) cv (fun i _ _ => h4 rfl i) (by
              intro own'
              exact ⟨bi, _, own', h1, by rw [splice_length _ _ _ (by rw [hlen]; exact hl)]; exact h2, h3.splice rv off, fun _ => h4 rfl⟩)
          rw [hst] at W
          obtain ⟨R', X⟩ := W
          generalize hp : a.eval q = pv at rp
          cases rp with
            | ref _ _ _ _ bi' v1 =>
              rw [own.v, Option.some.injEq] at v1; subst v1
              refine OpSpec.of_skip (w' := wput w bi.b off (a.eval u).cells.toList) ?_ ⟨M, V, R', X, rep_und, fun _ h => absurd rfl h⟩
              simp only [execOp, ho, hp, Instr.storeAt, Instr.sureAddr]
              have := run_storeVar (P := P) (t := t) (x := a.eval u) (off := off) hn hxl cv hh hcl (fun j hj => own.free j hj)
              simp [this]
        · cases e
      · rename_i s' wd rows fz hk
        split at e
        · rename_i hc
          obtain ⟨rfl, hfz⟩ := hc
          split at e
          · rename_i rr l f hrow hseal
            split at e
            · rename_i hc2
              obtain ⟨hoff, hdis⟩ := hc2
              simp only [Option.some.injEq] at e; subst e
              have hlive : (h k).2.live = true := by rw [hk]; rfl
              have hH := hs.live hlive
              obtain ⟨M1, R1, X1, rs⟩ := seal_all R hs hseal rv
              -- the block itself is as it was
              have hsame : ∀ (fz : Frz) (h' : HR), (fz.all fun p => p.1 ≠ k) = true → ∀ H', H' k = h' k → upH H' (frzUps h' fz) k = h' k := by
                intro fz
                induction fz with
                | nil => intro h' _ H' e; exact e
                | cons p fz ih =>
                  intro h' hd H' e
                  obtain ⟨j, m⟩ := p
                  simp only [List.all_cons, Bool.and_eq_true, decide_eq_true_eq] at hd
                  simp only [frzUps, upH]
                  have hj : j ≠ k := hd.1
                  have := ih (upH h' [(j, ((h' j).1, frzB (h' j).2 m))]) hd.2 (fun i => if j = i then ((h' j).1, frzB (h' j).2 m) else H' i) (by
                    simp [upH_one, hj, e])
                  simp only [upH] at this
                  rw [this]
                  simp [hj]
              have hk1 : upH H (frzUps h f) k = h k := hsame f h hdis H hH.symm
              have hb := R1.blk k
              rw [hk1, hk] at hb
              obtain ⟨bi, cs, own, h1, h2, h3, h4, h5, h6⟩ := hb
              obtain ⟨ty, fr, hh⟩ := own.heap
              obtain ⟨hr1, hr2⟩ := List.getElem?_eq_some_iff.1 hrow
              have hlr : rr.length = wd := h4 rr (by rw [← hr2]; exact List.getElem_mem _)
              have hxl : (a.eval u).cells.toList.length = n := by rw [← rv.1, hlen]
              have hll : l.length = n := by rw [rs.1]; exact hxl
              have hmul : row * wd + wd ≤ bi.n * wd := by
                rw [← Nat.succ_mul]; exact Nat.mul_le_mul_right _ (by omega)
              have hcl : row * wd + off + n ≤ cs.length := by rw [h2]; omega
              have hst : (upH H (frzUps h f) k).1 = s' := by rw [hk1, hk]
              have hfl := flatten_length rows h4
              have hrl : row * wd + wd ≤ rows.length * wd := by
                rw [← Nat.succ_mul]; exact Nat.mul_le_mul_right _ (by omega)
              have hset : (rows.set row (splice rr off l)).flatten = splice rows.flatten (row * wd + off) l := by
                have e1 : rows = rows.take row ++ rr :: rows.drop (row + 1) := by
                  rw [← hr2, ← List.drop_eq_getElem_cons hr1, List.take_append_drop]
                have e2 : rows.set row (splice rr off l) = rows.take row ++ splice rr off l :: rows.drop (row + 1) := by
                  rw [List.set_eq_take_append_cons_drop, if_pos hr1]
                have ht : (rows.take row).flatten.length = row * wd := by
                  rw [flatten_length _ (fun r hr => h4 r (List.mem_of_mem_take hr)), List.length_take, Nat.min_eq_left (by omega)]
                rw [e2]
                conv => rhs; rw [e1]
                simp only [List.flatten_append, List.flatten_cons]
                unfold splice
                rw [List.take_append, List.drop_append, ht]
                rw [List.take_of_length_le (l := (rows.take row).flatten) (by rw [ht]; omega), List.drop_of_length_le (l := (rows.take row).flatten) (by rw [ht]; omega)]
                rw [List.take_append_of_le_length (by omega), List.drop_append_of_le_length (by omega)]
                simp only [List.nil_append, List.append_assoc]
                rw [show row * wd + off - row * wd = off by omega, show row * wd + off + l.length - row * wd = off + l.length by omega]
              have W := R1.write (k := k) (bi := bi) (cs := cs) (vs := (a.eval u).cells.toList) (o := row * wd + off) (blk := .arr wd (rows.set row (splice rr off l)) fz)
                (by rw [hk1]; exact hlive) (by rw [hst]; exact own) (by rw [hxl]; exact hcl) cv (fun i hi _ => h6 i (Nat.le_trans (Nat.mul_le_mul_right _ hfz) (by omega))) (by
                  intro own'
                  rw [hst] at own'
                  rw [hst]
                  refine ⟨bi, _, own', h1, by rw [splice_length _ _ _ (by rw [hxl]; exact hcl)]; exact h2, by simpa using h3, ?_, ?_, h6⟩
                  · intro r hr
                    rcases List.mem_or_eq_of_mem_set hr with hr | hr
                    · exact h4 r hr
                    · subst hr; rw [splice_length _ _ _ (by omega)]; exact hlr
                  · rw [hset]
                    have q := h5.splice rs (row * wd + off)
                    have hfe : rows.flatten.length ≤ cs.length := by
                      rw [hfl, h2]; exact Nat.mul_le_mul_right _ h3
                    rw [splice_length _ _ _ (by rw [hfl, hll]; omega), take_splice _ _ _ _ (by rw [hxl, hfl]; omega) hfe]
                    exact q)
              rw [hst] at W
              obtain ⟨R', X⟩ := W
              generalize hp : a.eval q = pv at rp
              cases rp with
                | ref _ _ _ _ bi' v1 =>
                  rw [own.v, Option.some.injEq] at v1; subst v1
                  refine OpSpec.of_skip (w' := wput w bi.b (row * wd + off) (a.eval u).cells.toList) ?_ ⟨M1, V, by rw [upH_append]; exact R', X1.trans X, rep_und, fun _ h => absurd rfl h⟩
                  simp only [execOp, ho, hp, Instr.storeAt, Instr.sureAddr]
                  have := run_storeVar (P := P) (t := t) (x := a.eval u) (off := row * wd + off) hn hxl cv hh hcl (fun j hj => own.free j hj)
                  rw [h1]
                  simp [this]
            · cases e
          · cases e
        · cases e
      · cases e
    · cases e
  · cases e

theorem fieldAddr_sound (R : Mrel G M V H w) {t : TypeId} {f : Nat} {p : AV} {q : Operand} (e : fieldAddrA P t p f = some v) (rp : RepA M V p (a.eval q)) (ho : o.op = .fieldAddr t q f) :
    OpSpec P G M V H a w s o v [] := by
  unfold fieldAddrA at e
  split at e
  · rename_i fl hf
    unfold fieldOf at hf
    split at hf
    · rename_i fs hu
      split at e
      · rename_i n hn
        have hz : ¬ n + 1 = 0 := by omega
        split at e
        · rename_i k st row off
          simp only [Option.some.injEq] at e; subst e
          generalize hp : a.eval q = pv at rp
          cases rp with
            | ref _ _ _ _ bi v1 =>
              refine OpSpec.of_value (x := .pointer (some ⟨bi.b, row * bi.w + (off + fl.offset), none⟩)) (w' := w) ?_ (OpPost.same R (.ref _ _ _ _ _ v1))
              simp only [execOp, ho, hp, Instr.fieldAt, Sem.run_bind, run_under hu, Result.andThen_ok, hf, Instr.sureAddr, Sem.run_pure, fieldPlace, run_size hn, add_at, if_false, hz]
              simp [Nat.add_assoc]
        · rename_i l
          simp only [Option.some.injEq] at e; subst e
          generalize hp : a.eval q = pv at rp
          cases rp with
            | s _ _ rp =>
              cases rp with
              | sp _ b off g hm rr =>
                refine OpSpec.of_value (x := .pointer (some ⟨b, off + fl.offset, none⟩)) (w' := w) ?_ (OpPost.same R (.s _ _ (.sp _ _ _ (fun i => g (fl.offset + i)) (fun i hi => ?_) (fun i hi => ?_))))
                · simp only [execOp, ho, hp, Instr.fieldAt, Sem.run_bind, run_under hu, Result.andThen_ok, hf, Instr.sureAddr, Sem.run_pure, fieldPlace, run_size hn, add_at, if_false, hz]
                · have := hm (fl.offset + i) (by simp at hi; omega)
                  rw [← this, Nat.add_assoc]
                · have := rr (fl.offset + i) (by simp at hi; omega)
                  simpa using this
        · cases e
      · cases e
    · cases hf
  · cases e

theorem nat_rep {x : Value} {n : Nat} {y : AV} (e : natOf y = some n) (r : RepA M V y x) : ∃ k, x = .int k n := by
  unfold natOf at e
  split at e
  · rename_i k i
    split at e
    · rename_i hi
      simp only [Option.some.injEq] at e; subst e
      cases r with | s _ _ r => cases r; exact ⟨k, by rw [Int.toNat_of_nonneg hi]⟩
    · cases e
  · cases e

theorem indexAddr_sound (R : Mrel G M V H w) {h : HR} (hs : HSub h H) {t : TypeId} {p y : AV} {q u : Operand} (e : indexAddrA P h t p y = some v) (rp : RepA M V p (a.eval q)) (ry : RepA M V y (a.eval u))
    (ho : o.op = .indexAddr t q u) : OpSpec P G M V H a w s o v [] := by
  have sealed : ∀ {rows : List (List SV)} {i n : Nat} {el : TypeId} {rr : List SV} {k : IntKind} {ad : Option Addr} {len cap : Nat}, P.underlying t = some (.slice el) → tsize P el = some n → rows[i]? = some rr → rr.length = n →
      RepS M (.ssl rows) (.slice ad len cap) → a.eval q = .slice ad len cap → a.eval u = .int k i → OpSpec P G M V H a w s o (.s (.sp rr)) [] := by
    intro rows i n el rr k ad len cap hu hn hrow hl r hp hi
    obtain ⟨hr1, hr2⟩ := List.getElem?_eq_some_iff.1 hrow
    cases r with
    | ssl0 => simp at hr1
    | ssl _ wd b off _ f h0 hw hc hm r =>
      have hwd : wd = n := by rw [← hl, ← hr2]; exact (hw _ (List.getElem_mem _)).symm
      subst hwd
      have hfl := flatten_length rows hw
      have hmul : i * wd + wd ≤ rows.length * wd := by rw [← Nat.succ_mul]; exact Nat.mul_le_mul_right _ (by omega)
      have hone : ((rows.flatten.drop (i * wd)).take wd) = rr := by
        rw [← flatten_drop rows i hw]
        have := flatten_take (rows.drop i) 1 (fun r hr => hw r (List.mem_of_mem_drop hr))
        rw [Nat.one_mul] at this
        rw [← this, List.drop_eq_getElem_cons hr1, hr2]; simp
      refine OpSpec.of_value (x := .pointer (some ⟨b, off + i * wd, none⟩)) (w' := w) ?_ (OpPost.same R (.s _ _ (.sp _ _ _ (fun j => f (i * wd + j)) (fun j hj => ?_) (fun j hj => ?_))))
      · simp only [execOp, ho, hp, hi, Instr.indexAt, Sem.run_bind, asIntOf, Sem.run_pure, Result.andThen_ok, run_under hu]
        rw [if_pos (by omega)]
        simp only [Sem.run_bind, run_size hn, Result.andThen_ok, Sem.run_pure, add_at, Int.toNat_natCast]
      · have := hm (i * wd + j) (by omega)
        rw [← this, Nat.add_assoc]
      · have hj' : i * wd + j < rows.flatten.length := by omega
        have := r (i * wd + j) hj'
        have e2 : rr[j] = rows.flatten[i * wd + j] := by
          have : rr[j]? = rows.flatten[i * wd + j]? := by
            rw [← hone, List.getElem?_take, if_pos (by omega), List.getElem?_drop]
          rw [List.getElem?_eq_getElem hj, List.getElem?_eq_getElem hj'] at this
          exact Option.some.inj this
        rw [e2]; exact this
  unfold indexAddrA at e
  split at e
  · rename_i i len el hi hu
    obtain ⟨k, hk⟩ := nat_rep hi ry
    split at e
    · rename_i n hn
      split at e
      · rename_i hlt
        split at e
        · rename_i kk st row off
          simp only [Option.some.injEq] at e; subst e
          generalize hp : a.eval q = pv at rp
          cases rp with
            | ref _ _ _ _ bi v1 =>
              refine OpSpec.of_value (x := .pointer (some ⟨bi.b, row * bi.w + (off + i * n), none⟩)) (w' := w) ?_ (OpPost.same R (.ref _ _ _ _ _ v1))
              simp only [execOp, ho, hp, hk, Instr.indexAt, Sem.run_bind, asIntOf, Sem.run_pure, Result.andThen_ok, run_under hu, Instr.sureAddr]
              rw [if_pos (by omega)]
              simp only [Sem.run_bind, run_size hn, Result.andThen_ok, Sem.run_pure, add_at, Int.toNat_natCast, Nat.add_assoc]
        · rename_i l
          simp only [Option.some.injEq] at e; subst e
          generalize hp : a.eval q = pv at rp
          cases rp with
            | s _ _ rp =>
              cases rp with
              | sp _ b off g hm rr =>
                refine OpSpec.of_value (x := .pointer (some ⟨b, off + i * n, none⟩)) (w' := w) ?_ (OpPost.same R (.s _ _ (.sp _ _ _ (fun j => g (i * n + j)) (fun j hj => ?_) (fun j hj => ?_))))
                · simp only [execOp, ho, hp, hk, Instr.indexAt, Sem.run_bind, asIntOf, Sem.run_pure, Result.andThen_ok, run_under hu, Instr.sureAddr]
                  rw [if_pos (by omega)]
                  simp only [Sem.run_bind, run_size hn, Result.andThen_ok, Sem.run_pure, add_at, Int.toNat_natCast]
                · have := hm (i * n + j) (by simp at hj; omega)
                  rw [← this, Nat.add_assoc]
                · have := rr (i * n + j) (by simp at hj; omega)
                  simpa using this
        · cases e
      · cases e
    · cases e
  · rename_i i el hi hu
    obtain ⟨k, hk⟩ := nat_rep hi ry
    split at e
    · rename_i n hn
      split at e
      · rename_i kk st row len cap
        split at e
        · rename_i s' wd rows fz hkk
          split at e
          · rename_i hc
            obtain ⟨rfl, rfl, hlt⟩ := hc
            simp only [Option.some.injEq] at e; subst e
            have hH := hs.live (k := kk) (by rw [hkk]; rfl)
            have hb := R.blk kk
            rw [← hH, hkk] at hb
            obtain ⟨bi, vs, own, h1, _⟩ := hb
            generalize hp : a.eval q = pv at rp
            cases rp with
              | lsl _ _ _ _ _ bi' c v1 q1 q2 q3 q4 =>
                rw [own.v, Option.some.injEq] at v1; subst v1
                refine OpSpec.of_value (x := .pointer (some ⟨bi.b, (row + i) * bi.w + 0, none⟩)) (w' := w) ?_ (OpPost.same R (.ref _ _ _ _ _ own.v))
                simp only [execOp, ho, hp, hk, Instr.indexAt, Sem.run_bind, asIntOf, Sem.run_pure, Result.andThen_ok, run_under hu]
                rw [if_pos (by omega)]
                simp only [Sem.run_bind, run_size hn, Result.andThen_ok, Sem.run_pure, add_at, Int.toNat_natCast, h1, Nat.add_mul, Nat.add_zero]
          · cases e
        · cases e
      · rename_i rows
        split at e
        · rename_i rr hrow
          split at e
          · rename_i hl
            simp only [Option.some.injEq] at e; subst e
            generalize hp : a.eval q = pv at rp
            cases rp with
              | xsl _ ad m r => exact sealed hu hn hrow hl r hp hk
          · cases e
        · cases e
      · rename_i rows
        split at e
        · rename_i rr hrow
          split at e
          · rename_i hl
            simp only [Option.some.injEq] at e; subst e
            cases rp with
            | s _ _ r =>
              have : ∃ ad len cap, a.eval q = .slice ad len cap := by
                generalize hx : a.eval q = x at r
                cases r with
                | ssl0 ad c => exact ⟨ad, 0, c, rfl⟩
                | ssl _ _ b off c => exact ⟨_, _, _, rfl⟩
              obtain ⟨ad, len, cap, hp⟩ := this
              exact sealed hu hn hrow hl (hp ▸ r) hp hk
          · cases e
        · cases e
      · cases e
    · cases e
  · cases e

end
end Go.Proofs.Ytbfdokfelolmbaa.Vai
end
