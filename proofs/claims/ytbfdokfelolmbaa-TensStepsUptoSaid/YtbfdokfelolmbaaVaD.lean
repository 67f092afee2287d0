import Derived.Test.YtbfdokfelolmbaaVaC
import Derived.Lib.Strings
/-
  The interpreter's operations and calls are sound.
-/
set_option linter.all false
section
namespace Go.Proofs.Ytbfdokfelolmbaa.Vai

section
variable {P : Program} {G : Nat → Prop} {M : Mem} {V : Val} {H : HR} {w : World} {a : Act} {s : Nat} {o : Oper} {v : AV} {ups : List Up}

/-! Structs and arrays put together. -/

theorem foldl_set {α : Type} (vs : List α) (off : Nat) : ∀ (j : Nat) (cs : Array α), off + j + vs.length ≤ cs.size →
    ((vs.zipIdx j).foldl (fun cs (p : α × Nat) => cs.setIfInBounds (off + p.2) p.1) cs).toList = splice cs.toList (off + j) vs := by
  induction vs with
  | nil => intro j cs _; simp [splice_nil]
  | cons x vs ih =>
    intro j cs h
    simp only [List.zipIdx_cons, List.foldl_cons]
    simp only [List.length_cons] at h
    rw [ih (j + 1) _ (by simp; omega)]
    simp only [Array.toList_setIfInBounds]
    apply List.ext_getElem?
    intro i
    rw [splice_get _ _ _ (by simp; omega), splice_get _ _ _ (by simp; omega)]
    simp only [List.length_cons, List.getElem?_set]
    by_cases h1 : off + (j + 1) ≤ i ∧ i < off + (j + 1) + vs.length
    · rw [if_pos h1, if_pos (by omega), show i - (off + j) = (i - (off + (j + 1))) + 1 by omega, List.getElem?_cons_succ]
    · rw [if_neg h1]
      by_cases h2 : off + j = i
      · subst h2
        rw [if_pos rfl, if_pos (by simp; omega), if_pos (by omega)]
        simp
      · rw [if_neg h2, if_neg (by omega)]

theorem fill_sound {place : Nat → Option (Nat × Nat)} : ∀ {parts : List (Nat × AV)} {pv : List (Nat × Value)} {cells out : List AV} {cs : Array Value}, fillA place cells parts = some out →
    parts.length = pv.length → (∀ i (h1 : i < parts.length) (h2 : i < pv.length), parts[i].1 = pv[i].1 ∧ RepA M V parts[i].2 pv[i].2) → RepL M V cells cs.toList → (∀ c ∈ cs.toList, cellV c = true) →
    ∃ ds, Instr.fill place cs pv = some ds ∧ RepL M V out ds.toList ∧ ∀ c ∈ ds.toList, cellV c = true
  | [], pv, cells, out, cs, h, hl, _, r, hc => by
    simp only [fillA, Option.some.injEq] at h; subst h
    have : pv = [] := by cases pv with
      | nil => rfl
      | cons _ _ => simp at hl
    subst this
    exact ⟨cs, rfl, r, hc⟩
  | (i, x) :: parts, pv, cells, out, cs, h, hl, hp, r, hc => by
    cases pv with
    | nil => simp at hl
    | cons q pv =>
      obtain ⟨j, y⟩ := q
      have h0 := hp 0 (by simp) (by simp)
      simp only [List.getElem_cons_zero] at h0
      obtain ⟨rfl, rx⟩ := h0
      unfold fillA at h
      split at h
      · rename_i off size vs hpl hvs
        split at h
        · rename_i hcond
          obtain ⟨h1, h2⟩ := hcond
          obtain ⟨q1, q2⟩ := cells_rep hvs rx
          have hsz : y.cells.size = size := by have := q1.1; simp at this; omega
          have hfit : off + y.cells.size ≤ cs.size := by have := r.1; simp at this; have := q1.1; simp at this; omega
          have hfold := foldl_set y.cells.toList off 0 cs (by simpa using hfit)
          simp only [Nat.add_zero] at hfold
          have hz : y.cells.zipIdx.foldl (fun cs (p : Value × Nat) => cs.setIfInBounds (off + p.2) p.1) cs = (y.cells.toList.zipIdx 0).foldl (fun cs (p : Value × Nat) => cs.setIfInBounds (off + p.2) p.1) cs := by
            rw [← Array.foldl_toList]; simp
          have ih := fill_sound (place := place) (parts := parts) (pv := pv) (cs := y.cells.zipIdx.foldl (fun cs (p : Value × Nat) => cs.setIfInBounds (off + p.2) p.1) cs) h (by simpa using hl)
            (fun k k1 k2 => by have := hp (k + 1) (by simpa using k1) (by simpa using k2); simpa using this) (by rw [hz, hfold]; exact r.splice q1 off) (by
              rw [hz, hfold]
              intro c hcm
              unfold splice at hcm
              simp only [List.mem_append] at hcm
              rcases hcm with (hcm | hcm) | hcm
              · exact hc c (List.mem_of_mem_take hcm)
              · exact q2 c hcm
              · exact hc c (List.mem_of_mem_drop hcm))
          obtain ⟨ds, e1, e2, e3⟩ := ih
          refine ⟨ds, ?_, e2, e3⟩
          unfold Instr.fill
          rw [hpl]
          simp only
          rw [if_neg (by simp; omega)]
          exact e1
        · cases h
      · cases h

theorem run_places : ∀ (l : List Field), (l.all fun f => (tsize P f.type).isSome) = true → ∀ w,
    (l.mapM fun f => (do pure (f.offset, ← sizeOf f.type) : Sem (Nat × Nat))).run P w = .ok (l.map fun f => (f.offset, (tsize P f.type).getD 0)) w
  | [], _, w => by simp
  | f :: l, h, w => by
    simp only [List.all_cons, Bool.and_eq_true] at h
    obtain ⟨n, hn⟩ := Option.isSome_iff_exists.1 h.1
    have ih := run_places l h.2 w
    rw [List.mapM_cons]
    simp only [Sem.run_bind, run_size hn, Result.andThen_ok, Sem.run_pure, ih, List.map_cons, hn, Option.getD_some]

theorem parts_rep {parts : List (Nat × Operand)} {ρ : Operand → AV} {ev : Operand → Value} (h : ∀ x ∈ parts.map (·.2), RepA M V (ρ x) (ev x)) :
    (parts.map fun p => (p.1, ρ p.2)).length = (parts.map fun p => (p.1, ev p.2)).length ∧
    ∀ i (h1 : i < (parts.map fun p => (p.1, ρ p.2)).length) (h2 : i < (parts.map fun p => (p.1, ev p.2)).length),
      ((parts.map fun p => (p.1, ρ p.2))[i]'h1).1 = ((parts.map fun p => (p.1, ev p.2))[i]'h2).1 ∧ RepA M V ((parts.map fun p => (p.1, ρ p.2))[i]'h1).2 ((parts.map fun p => (p.1, ev p.2))[i]'h2).2 := by
  refine ⟨by simp, fun i h1 h2 => ?_⟩
  simp only [List.getElem_map, true_and]
  refine h _ ?_
  rw [List.mem_map]
  exact ⟨parts[i]'(by simpa using h1), List.getElem_mem _, rfl⟩

theorem parts_list {parts : Array (Nat × Operand)} {ev : Operand → Value} : (parts.map fun (i, x) => (i, ev x)).toList = parts.toList.map fun p => (p.1, ev p.2) := by
  simp

theorem build_sound (R : Mrel G M V H w) {t : TypeId} {parts : Array (Nat × Operand)} {ρ : Operand → AV} (e : buildA P t (parts.toList.map fun p => (p.1, ρ p.2)) = some v)
    (hρ : ∀ x ∈ o.op.operands, RepA M V (ρ x) (a.eval x)) (ho : o.op = .build t parts) : OpSpec P G M V H a w s o v [] := by
  have hp : ∀ x ∈ parts.toList.map (·.2), RepA M V (ρ x) (a.eval x) := by
    intro x hx
    refine hρ x ?_
    rw [ho]
    simp only [Op.operands, List.mem_toArray]
    exact hx
  obtain ⟨pl, pr⟩ := parts_rep hp
  unfold buildA at e
  split at e
  · rename_i zero fs hz hu
    split at e
    · rename_i hall
      cases hf : fillA (fun i => (fs.toList.map fun f => (f.offset, (tsize P f.type).getD 0))[i]?) zero (parts.toList.map fun p => (p.1, ρ p.2)) with
      | none => rw [hf] at e; cases e
      | some out =>
        rw [hf] at e
        simp only [Option.map_some, Option.some.injEq] at e; subst e
        obtain ⟨zv, h1, h2, h3⟩ := cellsOf_zero (M := M) (V := V) hz w
        obtain ⟨ds, e1, e2, e3⟩ := fill_sound hf pl pr h2 h3
        refine OpSpec.of_value (x := .agg ds) (w' := w) ?_ (OpPost.same R (.agg out ds.toList e2.1 e3 e2.2))
        have hpl := run_places (P := P) fs.toList hall w
        have hm : (fs.mapM fun f => (do pure (f.offset, ← sizeOf f.type) : Sem (Nat × Nat))).run P w = .ok (fs.toList.map fun f => (f.offset, (tsize P f.type).getD 0)).toArray w := by
          rw [Array.mapM_eq_mapM_toList]
          simp only [Sem.run_map, hpl, Result.andThen_ok]
        simp only [execOp, ho, Instr.build, Sem.run_bind, h1, Result.andThen_ok, run_under hu, hm, Sem.run_pure]
        have e4 : (fun (i : Nat) => (fs.toList.map fun f => (f.offset, (tsize P f.type).getD 0)).toArray[i]?) = fun (i : Nat) => (fs.toList.map fun f => (f.offset, (tsize P f.type).getD 0))[i]? := by
          funext i; simp
        rw [e4, parts_list, e1]
        rfl
    · cases e
  · rename_i zero n el hz hu
    split at e
    · rename_i m hm
      cases hf : fillA (fun i => some (i * m, m)) zero (parts.toList.map fun p => (p.1, ρ p.2)) with
      | none => rw [hf] at e; cases e
      | some out =>
        rw [hf] at e
        simp only [Option.map_some, Option.some.injEq] at e; subst e
        obtain ⟨zv, h1, h2, h3⟩ := cellsOf_zero (M := M) (V := V) hz w
        obtain ⟨ds, e1, e2, e3⟩ := fill_sound hf pl pr h2 h3
        refine OpSpec.of_value (x := .agg ds) (w' := w) ?_ (OpPost.same R (.agg out ds.toList e2.1 e3 e2.2))
        simp only [execOp, ho, Instr.build, Sem.run_bind, h1, Result.andThen_ok, run_under hu, run_size hm, Sem.run_pure]
        rw [parts_list, e1]
        rfl
    · cases e
  · cases e

theorem chunk_flatten {α : Type} (n : Nat) : ∀ (m : Nat) (l : List α), l.length = m * n → (chunk n m l).flatten = l ∧ (∀ r ∈ chunk n m l, r.length = n) ∧ (chunk n m l).length = m
  | 0, l, h => by
    have : l = [] := List.length_eq_zero_iff.1 (by omega)
    subst this; simp [chunk]
  | m + 1, l, h => by
    rw [Nat.succ_mul] at h
    obtain ⟨h1, h2, h3⟩ := chunk_flatten n m (l.drop n) (by simp; omega)
    refine ⟨?_, ?_, ?_⟩
    · simp only [chunk, List.flatten_cons, h1, List.take_append_drop]
    · intro r hr
      simp only [chunk, List.mem_cons] at hr
      rcases hr with rfl | hr
      · simp; omega
      · exact h2 r hr
    · simp [chunk, h3]

theorem RepL.replicate {l : List AV} {cs : List Value} (h : RepL M V l cs) : ∀ n, RepL M V (List.replicate n l).flatten (List.replicate n cs).flatten
  | 0 => by simpa using RepL.nil
  | n + 1 => by simp only [List.replicate_succ, List.flatten_cons]; exact h.append (RepL.replicate h n)

theorem zeroCells_eq (zero : Array Value) (n : Nat) : (Builtin.zeroCells zero n).toList = (List.replicate n zero.toList).flatten := by
  apply List.ext_getElem
  · rw [zeroCells_length]; simp
  · intro i h1 h2
    rw [zeroCells_length] at h1
    have hpos : 0 < zero.size := by
      rcases Nat.eq_zero_or_pos zero.size with h | h
      · rw [h] at h1; omega
      · exact h
    have hlt : i % zero.size < zero.size := Nat.mod_lt _ hpos
    have e2 : ∀ (n i : Nat) (hi : i < (List.replicate n zero.toList).flatten.length), (List.replicate n zero.toList).flatten[i] = zero.toList[i % zero.size]'(by simpa using Nat.mod_lt _ hpos) := by
      intro n
      induction n with
      | zero => intro i hi; simp at hi
      | succ n ih =>
        intro i hi
        simp only [List.replicate_succ, List.flatten_cons, List.getElem_append]
        split
        · rename_i hlt2
          congr 1
          rw [Nat.mod_eq_of_lt (by simpa using hlt2)]
        · rename_i hge
          rw [ih (i - zero.toList.length)]
          congr 1
          simp only [Array.length_toList] at hge ⊢
          exact (Nat.mod_eq_sub_mod (by omega)).symm
    rw [e2]
    simp only [Builtin.zeroCells, Array.toList_map, Array.toList_range, List.getElem_map, List.getElem_range]
    rw [getElem!_pos zero _ hlt]
    simp

theorem buildSlice_sound (R : Mrel G M V H w) {h : HR} (hs : HSub h H) {k len : Nat} {t : TypeId} {parts : Array (Nat × Operand)} {ρ : Operand → AV} (e : buildSliceA P h k s t len (parts.toList.map fun p => (p.1, ρ p.2)) = some (v, ups))
    (hρ : ∀ x ∈ o.op.operands, RepA M V (ρ x) (a.eval x)) (ho : o.op = .buildSlice t len parts) (hst : V s = none) : OpSpec P G M V H a w s o v ups := by
  have hp : ∀ x ∈ parts.toList.map (·.2), RepA M V (ρ x) (a.eval x) := by
    intro x hx
    refine hρ x ?_
    rw [ho]
    simp only [Op.operands, List.mem_toArray]
    exact hx
  obtain ⟨pl, pr⟩ := parts_rep hp
  unfold buildSliceA at e
  split at e
  · rename_i el hel
    have hu := elem_under hel
    split at e
    · rename_i n zero hn hz
      split at e
      · rename_i hc
        obtain ⟨hlim, hzl⟩ := hc
        split at e
        · rename_i cells hf
          split at e
          · rename_i l f hseal
            simp only [Option.some.injEq, Prod.mk.injEq] at e
            obtain ⟨rfl, rfl⟩ := e
            obtain ⟨zv, h1, h2, h3⟩ := cellsOf_zero (M := M) (V := V) hz w
            have hzs : zv.cells.size = n := by have := h2.1; simp at this; omega
            have q : RepL M V (List.replicate len zero).flatten (Builtin.zeroCells zv.cells len).toList := by rw [zeroCells_eq]; exact h2.replicate len
            obtain ⟨ds, e1, e2, e3⟩ := fill_sound (cs := Builtin.zeroCells zv.cells len) hf pl pr q (zeroCells_cell h3)
            obtain ⟨M1, R1, X1, rs⟩ := seal_all R hs hseal e2
            have hfl : ∀ (place : Nat → Option (Nat × Nat)) (parts : List (Nat × AV)) (cells out : List AV), fillA place cells parts = some out → out.length = cells.length := by
              intro place parts
              induction parts with
              | nil => intro cells out h; simp only [fillA, Option.some.injEq] at h; rw [h]
              | cons p parts ih =>
                intro cells out h
                obtain ⟨i, x⟩ := p
                unfold fillA at h
                split at h
                · split at h
                  · rename_i hc
                    rw [ih _ _ h, splice_length _ _ _ hc.2]
                  · cases h
                · cases h
            have hcl : cells.length = len * n := by rw [hfl _ _ _ _ hf, replicate_flatten, hzl]
            have hll : l.length = len * n := by rw [rs.1, ← e2.1, hcl]
            obtain ⟨c1, c2, c3⟩ := chunk_flatten n len l hll
            have hdl : ds.toList.length = len * n := by rw [← e2.1, hcl]
            have post := make_rows R1 (k := k) (s := s) (n := n) (m := len) (len := len) (rows := chunk n len l) (cs := ds.toList) (ty := el) (fr := (0, 0)) (cap := some len) hst e3 (fun o _ => by simp) hdl (by rw [c3]; exact Nat.le_refl _) c2 (by
              rw [c1, rs.1, List.take_length]; exact rs) (Nat.le_refl _) (by simp)
            obtain ⟨M2, V2, R2, X2, r2, n2⟩ := post
            refine OpSpec.of_value (x := .slice (some ⟨w.heap.size, 0, none⟩) len len) (w' := wnew w (.cells ⟨ds.toList⟩ el (0, 0))) ?_ ⟨M2, V2, by rw [upH_append]; exact R2, X1.trans X2, r2, n2⟩
            have hlim2 : ¬ len * n > 2 ^ 24 := by omega
            have hzc : (Array.range (len * n)).map (zv.cells[· % zv.cells.size]!) = Builtin.zeroCells zv.cells len := by unfold Builtin.zeroCells; rw [hzs]
            have hds : (⟨ds.toList⟩ : Array Value) = ds := rfl
            simp only [execOp, ho, Instr.buildSlice, Sem.run_bind, run_under hu, Result.andThen_ok, run_size hn]
            rw [if_neg hlim2]
            by_cases h0 : len * n = 0
            · rw [if_pos h0]
              have hr0 : (Array.range (len * n)).map ((#[] : Array Value)[· % (#[] : Array Value).size]!) = Builtin.zeroCells zv.cells len := by
                rw [h0]; unfold Builtin.zeroCells; rw [hzs, h0]; simp
              simp only [Sem.run_bind, Sem.run_pure, Result.andThen_ok, hr0, parts_list, e1, newRow, run_newObj]
              rfl
            · rw [if_neg h0]
              simp only [Sem.run_bind, h1, Sem.run_pure, Result.andThen_ok, hzc, parts_list, e1, newRow, run_newObj]
              rfl
          · cases e
        · cases e
      · cases e
    · cases e
  · cases e

end
end Go.Proofs.Ytbfdokfelolmbaa.Vai
end

section
namespace Go.Proofs.Ytbfdokfelolmbaa.Vai

section
variable {P : Program} {G : Nat → Prop} {M : Mem} {V : Val} {H : HR} {w : World} {a : Act} {s : Nat} {o : Oper} {v : AV} {ups : List Up}

theorem unS_rep {x : SV} {xv : Value} (r : RepS M x xv) : RepA M V (unS x) xv := by
  cases x with
  | agg l => cases r with | agg _ cs h hc rr => exact .agg _ cs (by simpa using h) hc (fun i h1 h2 => by simp only [List.getElem_map]; exact .s _ _ (rr i (by simpa using h1) h2))
  | _ => exact .s _ _ r

theorem iface_rep {x : AV} {xv : Value} {t : TypeId} {y : AV} (e : ifaceView x = some (t, y)) (r : RepA M V x xv) : ∃ yv, xv = .iface t yv ∧ RepA M V y yv := by
  unfold ifaceView at e
  split at e
  · simp only [Option.some.injEq, Prod.mk.injEq] at e
    obtain ⟨rfl, rfl⟩ := e
    cases r with | iface _ _ yv r => exact ⟨yv, rfl, r⟩
  · simp only [Option.some.injEq, Prod.mk.injEq] at e
    obtain ⟨rfl, rfl⟩ := e
    cases r with | s _ _ r => cases r with | iface _ _ yv r => exact ⟨yv, rfl, unS_rep r⟩
  · cases e

theorem repL_unS {l : List SV} {cs : List Value} (h : RepSL M l cs) : RepL M V (l.map unS) cs :=
  ⟨by simpa using h.1, fun i h1 h2 => by simp only [List.getElem_map]; exact unS_rep (h.2 i (by simpa using h1) h2)⟩

theorem clo_rep {x : AV} {xv : Value} {fn : Fn} {f c : List AV} (e : cloView x = some (fn, f, c)) (r : RepA M V x xv) : ∃ fv cv, xv = .func fn ⟨fv⟩ ⟨cv⟩ ∧ RepL M V f fv ∧ RepL M V c cv := by
  unfold cloView at e
  split at e
  · simp only [Option.some.injEq, Prod.mk.injEq] at e
    obtain ⟨rfl, rfl, rfl⟩ := e
    cases r with | clo _ _ _ a' c' h1 h2 r1 r2 => exact ⟨a', c', rfl, ⟨h1, r1⟩, ⟨h2, r2⟩⟩
  · simp only [Option.some.injEq, Prod.mk.injEq] at e
    obtain ⟨rfl, rfl, rfl⟩ := e
    cases r with | s _ _ r => cases r with | clo _ _ _ a' c' h1 h2 r1 r2 => exact ⟨a', c', rfl, repL_unS ⟨h1, r1⟩, repL_unS ⟨h2, r2⟩⟩
  · simp only [Option.some.injEq, Prod.mk.injEq] at e
    obtain ⟨rfl, rfl, rfl⟩ := e
    cases r with | s _ _ r => cases r; exact ⟨_, _, rfl, RepL.nil, RepL.nil⟩
  · cases e

theorem follow_sound : ∀ {path : List FieldStep} {t : TypeId} {x : AV} {xv : Value} {xt : TypeId} {y : AV}, followA P path t x = some (xt, y) → RepA M V x xv →
    ∃ yv, (∀ w, (follow path t (.val xv)).run P w = .ok (xt, .val yv) w) ∧ RepA M V y yv
  | [], t, x, xv, xt, y, e, r => by
    simp only [followA, Option.some.injEq, Prod.mk.injEq] at e
    obtain ⟨rfl, rfl⟩ := e
    exact ⟨xv, fun w => by simp [follow], r⟩
  | st :: rest, t, x, xv, xt, y, e, r => by
    unfold followA at e
    split at e
    · cases e
    · rename_i hd
      split at e
      · rename_i f l hf
        split at e
        · rename_i z hz
          unfold fieldOf at hf
          split at hf
          · rename_i fs hu
            cases r with
            | agg _ cs hl hc rr =>
              obtain ⟨zv, hzv, rz⟩ := part_sound hz ⟨hl, rr⟩ hc
              obtain ⟨yv, h1, h2⟩ := follow_sound e rz
              refine ⟨yv, fun w => ?_, h2⟩
              have hd' : st.deref = false := by simpa using hd
              simp only [follow, Sem.run_bind, run_under hu, Result.andThen_ok, hf, hd', Bool.false_eq_true, if_false, hzv, h1]
          · cases hf
        · cases e
      · cases e

theorem recv_sound {xt : TypeId} {x : Value} {ptr : Bool} {wr : Option String} {d : TypeDesc} (hd : P.underlying xt = some d) (h : (∃ e, d = .pointer e ∧ ptr = true) ∨ ((∀ e, d ≠ .pointer e) ∧ ptr = false)) (w : World) :
    (receiverAt xt (.val x) ptr wr).run P w = .ok x w := by
  simp only [receiverAt, Sem.run_bind, run_under hd, Result.andThen_ok]
  rcases h with ⟨e, rfl, rfl⟩ | ⟨h, rfl⟩
  · rfl
  · cases d <;> first | rfl | exact absurd rfl (h _)

theorem method_sound : ∀ {n : Nat} {t : TypeId} {x : AV} {xv : Value} {name : String} {f : FuncId} {y : AV}, methodA P n t x name = some (f, y) → RepA M V x xv →
    ∃ yv, (∀ w, (method n t xv name).run P w = .ok (f, yv) w) ∧ RepA M V y yv
  | 0, t, x, xv, name, f, y, e, r => by simp [methodA] at e
  | n + 1, t, x, xv, name, f, y, e, r => by
    unfold methodA at e
    split at e
    · cases e
    · rename_i i hi
      split at e
      · cases e
      · rename_i m hm
        have hti : ∀ w, (typeInfo t).run P w = .ok i w := fun w => by simp [typeInfo, hi]
        split at e
        · cases e
        · rename_i xt z hz
          obtain ⟨zv, h1, h2⟩ := follow_sound hz r
          split at e
          · rename_i hf
            split at e
            · rename_i t' v' hv
              obtain ⟨yv, rfl, ry⟩ := iface_rep hv h2
              obtain ⟨uv, h3, h4⟩ := method_sound e ry
              refine ⟨uv, fun w => ?_, h4⟩
              simp only [method, Sem.run_bind, hti, Result.andThen_ok, hm, h1, hf, Place.get, Sem.run_pure, h3]
            · cases e
          · rename_i g ptr hf
            have fin : ∀ {d : TypeDesc}, P.underlying xt = some d → ((∃ e, d = .pointer e ∧ ptr = true) ∨ ((∀ e, d ≠ .pointer e) ∧ ptr = false)) → f = g → y = z →
                ∃ yv, (∀ w, (method (n + 1) t xv name).run P w = .ok (f, yv) w) ∧ RepA M V y yv := by
              intro d hd hc hfg hyz
              subst hfg hyz
              refine ⟨zv, fun w => ?_, h2⟩
              simp only [method, Sem.run_bind, hti, Result.andThen_ok, hm, h1, hf, recv_sound hd hc, Sem.run_pure]
            split at e
            · rename_i el hd
              simp only [Option.some.injEq, Prod.mk.injEq] at e
              exact fin hd (.inl ⟨_, rfl, rfl⟩) e.1.symm e.2.symm
            · cases e
            · rename_i d hne hd
              simp only [Option.some.injEq, Prod.mk.injEq] at e
              exact fin hd (.inr ⟨fun e he => by subst he; first | exact hne _ hd | exact hne _ rfl, rfl⟩) e.1.symm e.2.symm
            · cases e

theorem callFunc_run {f : FuncId} (h : bodied P f = true) (args : Array Value) (w : World) : (callFunc f args).run P w = .ok (.enter f args) w := by
  unfold bodied at h
  split at h
  · rename_i fn hf
    simp only [Bool.and_eq_true, bne_iff_ne, ne_eq] at h
    obtain ⟨h1, h2⟩ := h
    have h3 : ¬ (fn.name == "runtime.NumGoroutine") = true := by simpa using h2
    have h4 : ¬ fn.body.isNone = true := by cases hb : fn.body <;> simp_all
    simp only [callFunc, Sem.run_bind, run_program, Result.andThen_ok, hf]
    rw [if_neg h3, if_neg h4]
    rfl
  · cases h

theorem args_rep {args : Array Operand} {ρ : Operand → AV} {ev : Operand → Value} (h : ∀ x ∈ args.toList, RepA M V (ρ x) (ev x)) : RepL M V (args.toList.map ρ) (args.toList.map ev) :=
  ⟨by simp, fun i h1 h2 => by simp only [List.getElem_map]; exact h _ (List.getElem_mem _)⟩

theorem get0 (y : Value) (l : List Value) : (⟨y :: l⟩ : Array Value)[0]? = some y := rfl
theorem ext1 (y : Value) (l : List Value) : (⟨y :: l⟩ : Array Value).extract 1 (⟨y :: l⟩ : Array Value).size = ⟨l⟩ := by
  apply Array.ext'
  simp
theorem cons1 (y : Value) (l : List Value) : #[y] ++ (⟨l⟩ : Array Value) = ⟨y :: l⟩ := by apply Array.ext'; simp

theorem callMethod_run {t : TypeId} {xv yv : Value} {name : String} {g : FuncId} {l : List Value} (hb : bodied P g = true)
    (h : ∀ w, (method (P.types.size + Made.depth) t xv name).run P w = .ok (g, yv) w) (w : World) : (callMethod (.iface t xv) name ⟨l⟩).run P w = .ok (.enter g ⟨yv :: l⟩) w := by
  simp only [callMethod, Sem.run_bind, run_program, Result.andThen_ok, h, cons1, callFunc_run hb]

theorem invoke_method {t : TypeId} {xv yv : Value} {name : String} {g : FuncId} {l : List Value} {cap : Array Value} (hb : bodied P g = true)
    (h : ∀ w, (method (P.types.size + Made.depth) t xv name).run P w = .ok (g, yv) w) (w : World) : (invoke (.fn (.method name) cap) ⟨.iface t xv :: l⟩).run P w = .ok (.enter g ⟨yv :: l⟩) w := by
  simp only [invoke, get0, ext1, callMethod_run hb h]

theorem invoke_methodOf {t : TypeId} {d : TypeDesc} {xv yv : Value} {name : String} {g : FuncId} {l : List Value} {cap : Array Value} (hb : bodied P g = true) (hu : P.underlying t = some d) (hd : ∀ ms, d ≠ .interface ms)
    (h : ∀ w, (method (P.types.size + Made.depth) t xv name).run P w = .ok (g, yv) w) (w : World) : (invoke (.fn (.methodOf t name) cap) ⟨xv :: l⟩).run P w = .ok (.enter g ⟨yv :: l⟩) w := by
  simp only [invoke, get0, ext1, Sem.run_bind, run_under hu, Result.andThen_ok]
  cases d <;> first | exact absurd rfl (hd _) | simp only [callMethod_run hb h]

theorem invoke_via {t : TypeId} {path : Array FieldStep} {xt : TypeId} {xv zv : Value} {ptr : Bool} {g : FuncId} {l : List Value} {cap : Array Value} (hb : bodied P g = true)
    (h1 : ∀ w, (follow path.toList t (.val xv)).run P w = .ok (xt, .val zv) w) (h2 : ∀ w, (receiverAt xt (.val zv) ptr none).run P w = .ok zv w) (w : World) :
    (invoke (.fn (.via t path g ptr) cap) ⟨xv :: l⟩).run P w = .ok (.enter g ⟨zv :: l⟩) w := by
  simp only [invoke, get0, ext1, receiverVia, Sem.run_bind, h1, Result.andThen_ok, h2, cons1, callFunc_run hb]

theorem target_sound {ρ : Operand → AV} {c : Go.Call} {f : FuncId} {args : List AV} (e : targetA P ρ c = some (f, args)) (hb : bodied P f = true) (hρ : ∀ x ∈ c.operands, RepA M V (ρ x) (a.eval x)) (ty : TypeId) :
    ∃ vs, RepL M V args vs ∧ ∀ w, (do let d ← resolve a.eval c ty; invoke d.target d.args : Sem Next).run P w = .ok (.enter f ⟨vs⟩) w := by
  have hargs : RepL M V (c.args.toList.map ρ) (c.args.toList.map a.eval) := args_rep (fun x hx => hρ x (by simp [Call.operands]; right; simpa using hx))
  have cat : ∀ (fv : List Value), ((⟨fv⟩ : Array Value) ++ c.args.map a.eval) = ⟨fv ++ c.args.toList.map a.eval⟩ := by
    intro fv; apply Array.ext'; simp
  unfold targetA at e
  split at e
  · rename_i fo hcal
    have hf : RepA M V (ρ fo) (a.eval fo) := hρ fo (by simp [Call.operands, hcal])
    split at e
    · rename_i g fs cs hv
      simp only [Option.some.injEq, Prod.mk.injEq] at e
      obtain ⟨rfl, rfl⟩ := e
      obtain ⟨fv, cv, hfo, h1, h2⟩ := clo_rep hv hf
      refine ⟨fv ++ c.args.toList.map a.eval ++ cv, (h1.append hargs).append h2, fun w => ?_⟩
      simp only [resolve, hcal, hfo, Deferred.ofValue, Sem.run_bind, Sem.run_pure, Result.andThen_ok, invoke, callFunc_run hb]
      congr 2
      apply Array.ext'
      simp
    · rename_i t name fs hv
      obtain ⟨fv, cv, hfo, h1, h2⟩ := clo_rep hv hf
      have hall := h1.append hargs
      split at e
      · cases e
      · rename_i x rest d hd hl hu
        obtain ⟨y, l, hyl, ry, rl⟩ := (hl ▸ hall).inv
        cases hm : methodA P (P.types.size + Made.depth) t x name with
        | none => rw [hm] at e; cases e
        | some gy =>
          obtain ⟨g, z⟩ := gy
          rw [hm] at e
          simp only [Option.map_some, Option.some.injEq, Prod.mk.injEq] at e
          obtain ⟨rfl, rfl⟩ := e
          obtain ⟨zv, hm1, hm2⟩ := method_sound hm ry
          refine ⟨zv :: l, RepL.cons hm2 rl, fun w => ?_⟩
          simp only [resolve, hcal, hfo, Deferred.ofValue, Sem.run_bind, Sem.run_pure, Result.andThen_ok, cat, hyl]
          exact invoke_methodOf hb hu (fun ms hms => by subst hms; first | exact hd _ rfl | exact hd _ hu) hm1 w
      · cases e
    · rename_i t path g fs hv
      obtain ⟨fv, cv, hfo, h1, h2⟩ := clo_rep hv hf
      have hall := h1.append hargs
      split at e
      · rename_i x rest hl
        obtain ⟨y, l, hyl, ry, rl⟩ := (hl ▸ hall).inv
        split at e
        · rename_i xt z hz
          obtain ⟨zv, hf1, hf2⟩ := follow_sound hz ry
          split at e
          · cases e
          · rename_i d hne hd
            simp only [Option.some.injEq, Prod.mk.injEq] at e
            obtain ⟨rfl, rfl⟩ := e
            refine ⟨zv :: l, RepL.cons hf2 rl, fun w => ?_⟩
            have hrv := recv_sound (P := P) (x := zv) (wr := none) hd (.inr ⟨fun e he => by subst he; first | exact hne _ hd | exact hne _ rfl, rfl⟩)
            simp only [resolve, hcal, hfo, Deferred.ofValue, Sem.run_bind, Sem.run_pure, Result.andThen_ok, cat, hyl]
            exact invoke_via hb hf1 hrv w
          · cases e
        · cases e
      · cases e
    · rename_i t path g fs hv
      obtain ⟨fv, cv, hfo, h1, h2⟩ := clo_rep hv hf
      have hall := h1.append hargs
      split at e
      · rename_i x rest hl
        obtain ⟨y, l, hyl, ry, rl⟩ := (hl ▸ hall).inv
        split at e
        · rename_i xt z hz
          obtain ⟨zv, hf1, hf2⟩ := follow_sound hz ry
          split at e
          · rename_i d hd
            simp only [Option.some.injEq, Prod.mk.injEq] at e
            obtain ⟨rfl, rfl⟩ := e
            refine ⟨zv :: l, RepL.cons hf2 rl, fun w => ?_⟩
            have hrv := recv_sound (P := P) (x := zv) (wr := none) hd (.inl ⟨_, rfl, rfl⟩)
            simp only [resolve, hcal, hfo, Deferred.ofValue, Sem.run_bind, Sem.run_pure, Result.andThen_ok, cat, hyl]
            exact invoke_via hb hf1 hrv w
          · cases e
        · cases e
      · cases e
    · cases e
  · rename_i ro name hcal
    have hr : RepA M V (ρ ro) (a.eval ro) := hρ ro (by simp [Call.operands, hcal])
    split at e
    · rename_i t x hv
      obtain ⟨xv, hx, rx⟩ := iface_rep hv hr
      cases hm : methodA P (P.types.size + Made.depth) t x name with
      | none => rw [hm] at e; cases e
      | some gy =>
        obtain ⟨g, y⟩ := gy
        rw [hm] at e
        simp only [Option.map_some, Option.some.injEq, Prod.mk.injEq] at e
        obtain ⟨rfl, rfl⟩ := e
        obtain ⟨yv, h1, h2⟩ := method_sound hm rx
        refine ⟨yv :: c.args.toList.map a.eval, RepL.cons h2 hargs, fun w => ?_⟩
        have hc1 := cat [Value.iface t xv]
        simp only [resolve, hcal, hx, Sem.run_bind, Sem.run_pure, Result.andThen_ok]
        rw [show (#[Value.iface t xv] ++ c.args.map a.eval) = ⟨[Value.iface t xv] ++ c.args.toList.map a.eval⟩ from hc1]
        exact invoke_method hb h1 w
    · cases e
  · cases e

end
end Go.Proofs.Ytbfdokfelolmbaa.Vai
end

section
namespace Go.Proofs.Ytbfdokfelolmbaa.Vai

/-! Calls. -/

def canon (blks : List Blk) : HR := fun k => match blks[k]? with | some b => (k, b) | none => noSlot

def GlobOk (glob : Nat → Option (List SV)) (M : Mem) : Prop := ∀ g l, glob g = some l → RepS M (.sp l) (.pointer (some ⟨g, 0, none⟩))

theorem GlobOk.mono {glob : Nat → Option (List SV)} {M M' : Mem} (h : GlobOk glob M) (hM : MSub M M') : GlobOk glob M' := fun g l e => (h g l e).mono hM

/-- What is said of a call: in any memory in which the arguments and the blocks stand for these, it returns what stands for that. -/
def CallSpec (P : Program) (glob : Nat → Option (List SV)) (f : FuncId) (args : List AV) (blks : List Blk) (r : AV) (outs : Outs) : Prop :=
  ∀ (G : Nat → Prop) (M : Mem) (V : Val) (w : World) (vs : List Value), GlobOk glob M → Mrel G M V (canon blks) w → RepL M V args vs → (∀ s, blks.length ≤ s → V s = none) → (∀ s, s < blks.length → ∃ bi, V s = some bi) →
    Calls P f ⟨vs⟩ w fun e w' => ∃ x M' V', e = .returned x ∧ Mrel G M' V' (canon (outs.map (·.1))) w' ∧ MSub M M' ∧ (∀ b, b < w.heap.size → G b → ∀ o, M' b o = M b o) ∧ Out G w w' ∧ RepA M' V' r x ∧
      blks.length ≤ outs.length ∧ ∀ i o, i < blks.length → outs[i]? = some o → o.2 = false → V' i = V i

def SoundCall (P : Program) (glob : Nat → Option (List SV)) (c : Call) : Prop := ∀ f args blks r outs, c f args blks = some (r, outs) → CallSpec P glob f args blks r outs

section
variable {P : Program} {G : Nat → Prop} {M : Mem} {V : Val} {H : HR} {w : World} {a : Act} {s : Nat} {o : Oper} {v : AV} {ups : List Up}

theorem renAs_eq (σ : Ren) : ∀ l, renAs σ l = l.map (renA σ)
  | [] => rfl
  | x :: l => by simp only [renAs, List.map_cons, renAs_eq σ l]

theorem ren_rep {σ : Ren} {V' : Val} (hσ : ∀ k s k' s', σ.at k s = some (k', s') → ∀ bi, V s = some bi → V' s' = some bi) {x : AV} {xv : Value} (r : RepA M V x xv) : RepA M V' (renA σ x) xv := by
  induction r with
  | s v x h => exact .s v x h
  | nsl => exact .nsl
  | xsl rows a n h => exact .xsl rows a n h
  | ref k s row off bi h =>
    simp only [renA]
    split
    · rename_i k' s' e; exact .ref k' s' row off bi (hσ _ _ _ _ e _ h)
    · exact .dead _
  | lsl k s row len cap bi c h h1 h2 h3 h4 =>
    simp only [renA]
    split
    · rename_i k' s' e; exact .lsl k' s' row len cap bi c (hσ _ _ _ _ e _ h) h1 h2 h3 h4
    · exact .dead _
  | agg l cs h hc r ih => simp only [renA, renAs_eq]; exact .agg _ cs (by simpa using h) hc (fun i h1 h2 => by simp only [List.getElem_map]; exact ih i (by simpa using h1) h2)
  | tup l cs h r ih => simp only [renA, renAs_eq]; exact .tup _ cs (by simpa using h) (fun i h1 h2 => by simp only [List.getElem_map]; exact ih i (by simpa using h1) h2)
  | iface t v x r ih => exact .iface t _ x ih
  | clo fn a c a' c' ha hc ra rc iha ihc =>
    simp only [renA, renAs_eq]
    exact .clo fn _ _ a' c' (by simpa using ha) (by simpa using hc) (fun i h1 h2 => by simp only [List.getElem_map]; exact iha i (by simpa using h1) h2) (fun i h1 h2 => by simp only [List.getElem_map]; exact ihc i (by simpa using h1) h2)
  | dead x => exact .dead x

theorem renL_rep {σ : Ren} {V' : Val} (hσ : ∀ k s k' s', σ.at k s = some (k', s') → ∀ bi, V s = some bi → V' s' = some bi) {l : List AV} {vs : List Value} (r : RepL M V l vs) : RepL M V' (renAs σ l) vs := by
  rw [renAs_eq]
  exact ⟨by simpa using r.1, fun i h1 h2 => by simp only [List.getElem_map]; exact ren_rep hσ (r.2 i (by simpa using h1) h2)⟩

theorem live_renB (σ : Ren) (b : Blk) : (renB σ b).live = b.live := by cases b <;> rfl

/-- A block under another name. -/
theorem ren_blk {G' : Nat → Prop} {V' : Val} {w' : World} {σ : Ren} {s s' : Nat} {b : Blk} (hσ : ∀ k s k' s', σ.at k s = some (k', s') → ∀ bi, V s = some bi → V' s' = some bi) (hs : ∀ bi, b.live = true → V s = some bi → V' s' = some bi)
    (hG : ∀ bi, b.live = true → V s = some bi → ¬ G bi.b → ¬ G' bi.b) (hw : w' = w) (h : BlkRel G M V w s b) : BlkRel G' M V' w' s' (renB σ b) := by
  subst hw
  cases b with
  | gone => trivial
  | var cells fz =>
    obtain ⟨bi, vs, o, h1, h2, h3, h4⟩ := h
    exact ⟨bi, vs, ⟨hs bi rfl o.v, o.heap, o.cell, o.free, hG bi rfl o.v o.notG⟩, h1, by rw [h2, renAs_eq]; simp, renL_rep hσ h3, h4⟩
  | arr wd rows fz =>
    obtain ⟨bi, vs, o, h1, h2, h3, h4, h5, h6⟩ := h
    exact ⟨bi, vs, ⟨hs bi rfl o.v, o.heap, o.cell, o.free, hG bi rfl o.v o.notG⟩, h1, h2, h3, h4, h5, h6⟩

theorem at_toRen {h : HR} {keys : List Nat} {k s : Nat} {r : Nat × Nat} (e : (toRen h keys).at k s = some r) : ∃ i : Nat, ∃ hi : i < keys.length, keys[i] = k ∧ (h k).1 = s ∧ r = (i, i) := by
  unfold toRen at e
  have gen : ∀ (l : List Nat) (j : Nat), Ren.at ((l.zipIdx j).map fun (k, i) => ((k, (h k).1), (i, i))) k s = some r → ∃ i : Nat, ∃ hi : i < l.length, l[i] = k ∧ (h k).1 = s ∧ r = (i + j, i + j) := by
    intro l
    induction l with
    | nil => intro j e; simp [Ren.at] at e
    | cons x l ih =>
      intro j e2
      simp only [List.zipIdx_cons, List.map_cons, Ren.at] at e2
      split at e2
      · rename_i hc
        obtain ⟨rfl, hc2⟩ := hc
        rw [Option.some.injEq] at e2
        exact ⟨0, by simp, rfl, hc2, by rw [← e2, Nat.zero_add]⟩
      · obtain ⟨i, hi, h1, h2, h3⟩ := ih (j + 1) e2
        exact ⟨i + 1, by simpa using hi, by simpa using h1, h2, by rw [h3]; simp; omega⟩
  obtain ⟨i, hi, h1, h2, h3⟩ := gen keys 0 e
  exact ⟨i, hi, h1, h2, by simpa using h3⟩

theorem nodup_spec : ∀ {l : List Nat}, nodup l = true → ∀ i j (hi : i < l.length) (hj : j < l.length), l[i] = l[j] → i = j
  | [], _, i, _, hi, _, _ => by simp at hi
  | k :: l, h, i, j, hi, hj, e => by
    simp only [nodup, Bool.and_eq_true, Bool.not_eq_true', List.contains_eq_mem, decide_eq_false_iff_not] at h
    cases i with
    | zero =>
      cases j with
      | zero => rfl
      | succ j => simp only [List.getElem_cons_zero, List.getElem_cons_succ] at e; exact absurd (e ▸ List.getElem_mem _) h.1
    | succ i =>
      cases j with
      | zero => simp only [List.getElem_cons_zero, List.getElem_cons_succ] at e; exact absurd (e ▸ List.getElem_mem _) h.1
      | succ j => simp only [List.getElem_cons_succ] at e; rw [nodup_spec h.2 i j (by simpa using hi) (by simpa using hj) e]

/-- The slots behind updates: as they were, or one of the updates'. -/
theorem upH_cases (l : List Up) : ∀ (H : HR) (j : Nat), (upH H l j = H j ∧ ∀ p ∈ l, p.1 ≠ j) ∨ ∃ i : Nat, ∃ hi : i < l.length, l[i].1 = j ∧ upH H l j = l[i].2 := by
  induction l with
  | nil => intro H j; exact .inl ⟨rfl, by simp⟩
  | cons p l ih =>
    intro H j
    obtain ⟨k, sl⟩ := p
    simp only [upH]
    rcases ih (fun i => if k = i then sl else H i) j with ⟨h1, h2⟩ | ⟨i, hi, h1, h2⟩
    · by_cases e : k = j
      · exact .inr ⟨0, by simp, by simpa using e, by rw [h1, if_pos e]; rfl⟩
      · rw [if_neg e] at h1
        exact .inl ⟨h1, fun q hq => by cases List.mem_cons.1 hq with
          | inl e2 => subst e2; exact e
          | inr e2 => exact h2 q e2⟩
    · exact .inr ⟨i + 1, by simpa using hi, by simpa using h1, by rw [h2]; rfl⟩

end
end Go.Proofs.Ytbfdokfelolmbaa.Vai
end

section
namespace Go.Proofs.Ytbfdokfelolmbaa.Vai

section
variable {P : Program} {G : Nat → Prop} {M : Mem} {V : Val} {H : HR} {w : World} {a : Act} {s : Nat} {o : Oper} {v : AV} {ups : List Up}

/-- The key and the stamp of what comes back at place i. -/
def backAt (h : HR) (keys : List Nat) (t base : Nat) (chg : Bool) (i : Nat) : Nat × Nat :=
  match keys[i]? with
  | some k => (k, if chg then base + i else (h k).1)
  | none => (newKey t (i - keys.length), base + i)

theorem at_back {h : HR} {keys : List Nat} {t base : Nat} : ∀ {outs : Outs} {k s : Nat} {r : Nat × Nat}, (backRen h keys t base outs).at k s = some r → ∃ i : Nat, ∃ hi : i < outs.length, k = i ∧ s = i ∧ r = backAt h keys t base outs[i].2 i := by
  intro outs k s r e
  unfold backRen at e
  have gen : ∀ (l : Outs) (j : Nat), Ren.at ((l.zipIdx j).map fun (o, i) => ((i, i), match keys[i]? with
      | some k => (k, if o.2 then base + i else (h k).1)
      | none => (newKey t (i - keys.length), base + i))) k s = some r → ∃ i : Nat, ∃ hi : i < l.length, k = i + j ∧ s = i + j ∧ r = backAt h keys t base l[i].2 (i + j) := by
    intro l
    induction l with
    | nil => intro j e; simp [Ren.at] at e
    | cons x l ih =>
      intro j e2
      simp only [List.zipIdx_cons, List.map_cons, Ren.at] at e2
      split at e2
      · rename_i hc
        obtain ⟨rfl, rfl⟩ := hc
        rw [Option.some.injEq] at e2
        exact ⟨0, by simp, by simp, by simp, by rw [← e2, Nat.zero_add]; rfl⟩
      · obtain ⟨i, hi, h1, h2, h3⟩ := ih (j + 1) e2
        exact ⟨i + 1, by simpa using hi, by omega, by omega, by rw [h3, show i + (j + 1) = i + 1 + j by omega]; rfl⟩
  obtain ⟨i, hi, h1, h2, h3⟩ := gen outs 0 e
  exact ⟨i, hi, by simpa using h1, by simpa using h2, by simpa using h3⟩

theorem back_at {h : HR} {keys : List Nat} {t base : Nat} {outs : Outs} {i : Nat} (hi : i < outs.length) : (backRen h keys t base outs).at i i = some (backAt h keys t base outs[i].2 i) := by
  unfold backRen
  have gen : ∀ (l : Outs) (j i : Nat) (hi : i < l.length), Ren.at ((l.zipIdx j).map fun (o, i) => ((i, i), match keys[i]? with
      | some k => (k, if o.2 then base + i else (h k).1)
      | none => (newKey t (i - keys.length), base + i))) (i + j) (i + j) = some (backAt h keys t base l[i].2 (i + j)) := by
    intro l
    induction l with
    | nil => intro j i hi; simp at hi
    | cons x l ih =>
      intro j i hi
      simp only [List.zipIdx_cons, List.map_cons, Ren.at]
      cases i with
      | zero => rw [if_pos (by simp)]; simp only [Nat.zero_add]; rfl
      | succ i =>
        rw [if_neg (by omega)]
        have := ih (j + 1) i (by simpa using hi)
        rw [show i + (j + 1) = i + 1 + j by omega] at this
        exact this
  have := gen outs 0 i hi
  simp only [Nat.add_zero] at this
  exact this

theorem mem_backUps {τ : Ren} {outs : Outs} {p : Up} (h : p ∈ backUps τ outs) : ∃ i : Nat, ∃ hi : i < outs.length, ∃ k s, τ.at i i = some (k, s) ∧ p = (k, (s, renB τ outs[i].1)) := by
  unfold backUps at h
  rw [List.mem_filterMap] at h
  obtain ⟨q, hq, e⟩ := h
  obtain ⟨i, hi, rfl⟩ := List.getElem_of_mem hq
  simp only [List.getElem_zipIdx, Nat.zero_add] at e
  simp only [List.length_zipIdx] at hi
  cases ha : τ.at i i with
  | none => rw [ha] at e; cases e
  | some ks =>
    obtain ⟨k, s⟩ := ks
    rw [ha] at e
    simp only [Option.map_some, Option.some.injEq] at e
    exact ⟨i, hi, k, s, ha, e.symm⟩

theorem backUps_mem {τ : Ren} {outs : Outs} {i k s : Nat} (hi : i < outs.length) (h : τ.at i i = some (k, s)) : (k, (s, renB τ outs[i].1)) ∈ backUps τ outs := by
  unfold backUps
  rw [List.mem_filterMap]
  refine ⟨(outs[i], i), ?_, by simp [h]⟩
  rw [List.mem_iff_getElem]
  exact ⟨i, by simpa using hi, by simp⟩

/-- A call that hands blocks in and takes blocks back. -/
theorem enter_core {glob : Nat → Option (List SV)} (hgl : GlobOk glob M) (R : Mrel G M V H w) {h : HR} (hs : HSub h H) {keys : List Nat} {t base : Nat} {f : FuncId} {args : List AV} {vs : List Value} {r : AV} {outs : Outs} (hnd : nodup keys = true) (hlive : ∀ k ∈ keys, (h k).2.live = true)
    (hargs : RepL M (fun i => match keys[i]? with | some k => V (h k).1 | none => none) args vs) (hcall : CallSpec P glob f args (keys.map fun k => renB (toRen h keys) (h k).2) r outs) (hlen : outs.length ≤ room) (hko : keys.length ≤ outs.length)
    (hfresh : ∀ j, j < room → V (base + j) = none) :
    Calls P f ⟨vs⟩ w fun e w' => ∃ x, e = .returned x ∧ OpPost G M V H w base (renA (backRen h keys t base outs) r) (backUps (backRen h keys t base outs) outs) x w' := by
  let Vc : Val := fun i => match keys[i]? with | some k => V (h k).1 | none => none
  let Gc : Nat → Prop := fun b => b < w.heap.size ∧ ∀ (i k : Nat) (bi : BI), keys[i]? = some k → (h k).2.live = true → V (h k).1 = some bi → bi.b ≠ b
  have blkh : ∀ k, BlkRel G M V w (h k).1 (h k).2 := by
    intro k
    rcases hs k with e | e
    · rw [e]; exact R.blk k
    · rw [e]; trivial
  have GGc : ∀ b, G b → Gc b := by
    intro b hb
    refine ⟨R.gsz b hb, fun i k bi _ hl hv e => ?_⟩
    obtain ⟨bi', vs', o'⟩ := (blkh k).live_own hl
    have := o'.v
    rw [hv, Option.some.injEq] at this
    subst this
    exact o'.notG (e ▸ hb)
  have hσ : ∀ k s k' s', (toRen h keys).at k s = some (k', s') → ∀ bi, V s = some bi → Vc s' = some bi := by
    intro k s k' s' e bi hv
    obtain ⟨i, hi, h1, h2, h3⟩ := at_toRen e
    simp only [Prod.mk.injEq] at h3
    obtain ⟨_, rfl⟩ := h3
    show (match keys[s']? with | some k => V (h k).1 | none => none) = some bi
    rw [List.getElem?_eq_getElem hi, h1]
    show V (h k).1 = some bi
    rw [h2]; exact hv
  have Rc : Mrel Gc M Vc (canon (keys.map fun k => renB (toRen h keys) (h k).2)) w := by
    refine ⟨R.mem, ?_, ?_, fun b hb => hb.1, ?_⟩
    · intro j
      unfold canon
      simp only [List.getElem?_map]
      cases hk : keys[j]? with
      | none => trivial
      | some k =>
        show BlkRel Gc M Vc w j (renB (toRen h keys) (h k).2)
        refine ren_blk hσ (fun bi _ hv => ?_) (fun bi hl hv hg hgc => hgc.2 j k bi hk hl hv rfl) rfl (blkh k)
        show (match keys[j]? with | some k => V (h k).1 | none => none) = some bi
        rw [hk]; exact hv
    · intro j1 j2 b1 b2 hne l1 l2 v1 v2
      unfold canon at l1 l2 v1 v2
      simp only [List.getElem?_map] at l1 l2 v1 v2
      cases hk1 : keys[j1]? with
      | none => rw [hk1] at l1; simp [noSlot, Blk.live] at l1
      | some k1 =>
        cases hk2 : keys[j2]? with
        | none => rw [hk2] at l2; simp [noSlot, Blk.live] at l2
        | some k2 =>
          rw [hk1] at l1 v1
          rw [hk2] at l2 v2
          simp only [Option.map_some, live_renB] at l1 l2 v1 v2
          have e1 : V (h k1).1 = some b1 := by
            have : Vc j1 = V (h k1).1 := by show (match keys[j1]? with | some k => V (h k).1 | none => none) = _; rw [hk1]
            rw [← this]; exact v1
          have e2 : V (h k2).1 = some b2 := by
            have : Vc j2 = V (h k2).1 := by show (match keys[j2]? with | some k => V (h k).1 | none => none) = _; rw [hk2]
            rw [← this]; exact v2
          have q1 := hs.live l1
          have q2 := hs.live l2
          rw [q1] at e1 l1
          rw [q2] at e2 l2
          refine R.dist k1 k2 b1 b2 (fun e => hne ?_) l1 l2 e1 e2
          obtain ⟨i1, q1⟩ := List.getElem?_eq_some_iff.1 hk1
          obtain ⟨i2, q2⟩ := List.getElem?_eq_some_iff.1 hk2
          exact nodup_spec hnd j1 j2 i1 i2 (by rw [q1, q2, e])
    · intro i bi hv
      have : (match keys[i]? with | some k => V (h k).1 | none => none) = some bi := hv
      split at this
      · exact R.vsz _ _ this
      · cases this
  refine (hcall Gc M Vc w vs hgl Rc hargs (fun i hi => ?_) (fun i hi => ?_)).mono ?_
  · show (match keys[i]? with | some k => V (h k).1 | none => none) = none
    rw [List.getElem?_eq_none (by simpa using hi)]
  · have hi2 : i < keys.length := by simpa using hi
    obtain ⟨bi, vs, o⟩ := (blkh keys[i]).live_own (hlive _ (List.getElem_mem hi2))
    refine ⟨bi, ?_⟩
    show (match keys[i]? with | some k => V (h k).1 | none => none) = some bi
    rw [List.getElem?_eq_getElem hi2]
    exact o.v
  · rintro e w' ⟨x, M', V2, rfl, R2, hM, hmg, hout, rr, _, hun⟩
    refine ⟨x, rfl, ?_⟩
    let fresh : Nat → Bool := fun i => match keys[i]?, outs[i]? with | some _, some o => o.2 | none, some _ => true | _, none => false
    let V' : Val := fun j => if base ≤ j ∧ fresh (j - base) = true then V2 (j - base) else V j
    have fresh_lt : ∀ i, fresh i = true → i < outs.length := by
      intro i hf
      by_cases hi : i < outs.length
      · exact hi
      · have : outs[i]? = none := List.getElem?_eq_none (by omega)
        simp only [fresh, this] at hf
        cases hk : keys[i]? <;> simp at hf
    have hVV : VSub V V' := by
      intro j bi hv
      show (if base ≤ j ∧ fresh (j - base) = true then V2 (j - base) else V j) = some bi
      rw [if_neg]
      · exact hv
      · rintro ⟨h1, h2⟩
        have := hfresh (j - base) (Nat.lt_of_lt_of_le (fresh_lt _ h2) hlen)
        rw [show base + (j - base) = j by omega, hv] at this
        cases this
    have hback : ∀ i (hi : i < outs.length) bi, V2 i = some bi → V' (backAt h keys t base outs[i].2 i).2 = some bi := by
      intro i hi bi hv
      have ho : outs[i]? = some outs[i] := List.getElem?_eq_getElem hi
      have hfr : fresh i = true → V' (base + i) = some bi := by
        intro hf
        show (if base ≤ base + i ∧ fresh (base + i - base) = true then V2 (base + i - base) else V (base + i)) = some bi
        rw [Nat.add_sub_cancel_left, if_pos ⟨Nat.le_add_right _ _, hf⟩]; exact hv
      unfold backAt
      cases hk : keys[i]? with
      | none => exact hfr (by simp only [fresh, hk, ho])
      | some k =>
        simp only
        by_cases hc : outs[i].2 = true
        · rw [if_pos hc]; exact hfr (by simp only [fresh, hk, ho]; exact hc)
        · rw [if_neg hc]
          have hi2 : i < (keys.map fun k => renB (toRen h keys) (h k).2).length := by
            obtain ⟨q, _⟩ := List.getElem?_eq_some_iff.1 hk; simpa using q
          have := hun i outs[i] hi2 ho (by simpa using hc)
          rw [this] at hv
          have e2 : Vc i = V (h k).1 := by show (match keys[i]? with | some k => V (h k).1 | none => none) = _; rw [hk]
          rw [e2] at hv
          exact hVV _ _ hv
    have hτ : ∀ k s k' s', (backRen h keys t base outs).at k s = some (k', s') → ∀ bi, V2 s = some bi → V' s' = some bi := by
      intro k s k' s' e bi hv
      obtain ⟨i, hi, rfl, rfl, h3⟩ := at_back e
      have := hback _ hi bi hv
      rw [← h3] at this; exact this
    have canon_at : ∀ i (hi : i < outs.length), canon (outs.map (·.1)) i = (i, outs[i].1) := by
      intro i hi
      unfold canon
      simp [List.getElem?_eq_getElem hi]
    -- a block that was not handed in
    have away : ∀ j bi, (∀ p ∈ backUps (backRen h keys t base outs) outs, p.1 ≠ j) → (H j).2.live = true → V (H j).1 = some bi → Gc bi.b := by
      intro j bi hnot hl hv
      refine ⟨R.vsz _ _ hv, fun i k bi2 hk hl2 hv2 => ?_⟩
      have heq := hs.live hl2
      rw [heq] at hl2 hv2
      obtain ⟨q1, q2⟩ := List.getElem?_eq_some_iff.1 hk
      have hi : i < outs.length := by omega
      have hm := backUps_mem hi (back_at (h := h) (keys := keys) (t := t) (base := base) hi)
      have hne : (backAt h keys t base outs[i].2 i).1 ≠ j := hnot _ hm
      have hkey : (backAt h keys t base outs[i].2 i).1 = k := by unfold backAt; rw [hk]
      rw [hkey] at hne
      exact R.dist k j bi2 bi hne hl2 hl hv2 hv
    have back_blk : ∀ i (hi : i < outs.length), BlkRel G M' V' w' (backAt h keys t base outs[i].2 i).2 (renB (backRen h keys t base outs) outs[i].1) := by
      intro i hi
      have hb := R2.blk i
      rw [canon_at i hi] at hb
      exact ren_blk hτ (fun bi _ hv => hback i hi bi hv) (fun bi _ _ hg hgg => hg (GGc _ hgg)) rfl hb
    have slot_of : ∀ i (hi : i < (backUps (backRen h keys t base outs) outs).length), ∃ k : Nat, ∃ hk : k < outs.length, (backUps (backRen h keys t base outs) outs)[i] = ((backAt h keys t base outs[k].2 k).1, ((backAt h keys t base outs[k].2 k).2, renB (backRen h keys t base outs) outs[k].1)) := by
      intro i hi
      obtain ⟨k, hk, k', s', e1, e2⟩ := mem_backUps (List.getElem_mem hi)
      rw [back_at hk, Option.some.injEq] at e1
      refine ⟨k, hk, ?_⟩
      rw [e2, e1]
    refine ⟨M', V', ⟨R2.mem, ?_, ?_, fun b hb => Nat.lt_of_lt_of_le (R.gsz b hb) hout.size, ?_⟩, ⟨hM, fun b hb hg o => hmg b hb (GGc b hg) o, hVV, ⟨hout.os, hout.tape, hout.output, hout.size, fun b hb => hout.block b (GGc b hb)⟩⟩, ren_rep hτ rr, ?_⟩
    · intro j
      rcases upH_cases (backUps (backRen h keys t base outs) outs) H j with ⟨h1, h2⟩ | ⟨i, hi, h1, h2⟩
      · rw [h1]
        refine (R.blk j).keep hVV hM (fun bi hl hv => ?_)
        have := away j bi h2 hl hv
        exact ⟨hout.block _ this, hmg _ (R.vsz _ _ hv) this⟩
      · rw [h2]
        obtain ⟨k, hk, e⟩ := slot_of i hi
        rw [e]
        exact back_blk k hk
    · intro j1 j2 b1 b2 hne l1 l2 v1 v2
      rcases upH_cases (backUps (backRen h keys t base outs) outs) H j1 with ⟨h1, h2⟩ | ⟨i1, hi1, h1, h2⟩
      · rw [h1] at l1 v1
        obtain ⟨c1, _, o1⟩ := (R.blk j1).live_own l1
        have w1 := hVV _ _ o1.v
        rw [v1, Option.some.injEq] at w1
        subst w1
        rcases upH_cases (backUps (backRen h keys t base outs) outs) H j2 with ⟨g1, g2⟩ | ⟨i2, hi2, g1, g2⟩
        · rw [g1] at l2 v2
          obtain ⟨c2, _, o2⟩ := (R.blk j2).live_own l2
          have w2 := hVV _ _ o2.v
          rw [v2, Option.some.injEq] at w2
          subst w2
          exact R.dist j1 j2 _ _ hne l1 l2 o1.v o2.v
        · rw [g2] at l2 v2
          obtain ⟨k2, hk2, e2⟩ := slot_of i2 hi2
          rw [e2] at l2 v2
          simp only [live_renB] at l2
          have hb := R2.blk k2
          rw [canon_at k2 hk2] at hb
          obtain ⟨c2, _, o2⟩ := hb.live_own l2
          have w2 := hback k2 hk2 _ o2.v
          rw [v2, Option.some.injEq] at w2
          subst w2
          intro e
          exact o2.notG (e ▸ away j1 _ h2 l1 o1.v)
      · rw [h2] at l1 v1
        obtain ⟨k1, hk1, e1⟩ := slot_of i1 hi1
        rw [e1] at l1 v1 h1
        simp only [live_renB] at l1
        have hb := R2.blk k1
        rw [canon_at k1 hk1] at hb
        obtain ⟨c1, _, o1⟩ := hb.live_own l1
        have w1 := hback k1 hk1 _ o1.v
        rw [v1, Option.some.injEq] at w1
        subst w1
        rcases upH_cases (backUps (backRen h keys t base outs) outs) H j2 with ⟨g1, g2⟩ | ⟨i2, hi2, g1, g2⟩
        · rw [g1] at l2 v2
          obtain ⟨c2, _, o2⟩ := (R.blk j2).live_own l2
          have w2 := hVV _ _ o2.v
          rw [v2, Option.some.injEq] at w2
          subst w2
          intro e
          exact o1.notG (e ▸ away j2 _ g2 l2 o2.v)
        · rw [g2] at l2 v2
          obtain ⟨k2, hk2, e2⟩ := slot_of i2 hi2
          rw [e2] at l2 v2 g1
          simp only [live_renB] at l2
          have hb2 := R2.blk k2
          rw [canon_at k2 hk2] at hb2
          obtain ⟨c2, _, o2⟩ := hb2.live_own l2
          have w2 := hback k2 hk2 _ o2.v
          rw [v2, Option.some.injEq] at w2
          subst w2
          refine R2.dist k1 k2 _ _ (fun e => hne ?_) ?_ ?_ (by rw [canon_at k1 hk1]; exact o1.v) (by rw [canon_at k2 hk2]; exact o2.v)
          · subst e; exact h1.symm.trans g1
          · rw [canon_at k1 hk1]; exact l1
          · rw [canon_at k2 hk2]; exact l2
    · intro j bi hv
      have : (if base ≤ j ∧ fresh (j - base) = true then V2 (j - base) else V j) = some bi := hv
      split at this
      · exact R2.vsz _ _ this
      · exact Nat.lt_of_lt_of_le (R.vsz _ _ this) hout.size
    · intro j hj
      have : (if base ≤ j ∧ fresh (j - base) = true then V2 (j - base) else V j) ≠ V j := hj
      split at this
      · rename_i hc
        have := fresh_lt _ hc.2
        omega
      · exact absurd rfl this

end
end Go.Proofs.Ytbfdokfelolmbaa.Vai
end

section
namespace Go.Proofs.Ytbfdokfelolmbaa.Vai

section
variable {P : Program} {G : Nat → Prop} {M : Mem} {V : Val} {H : HR} {w : World} {a : Act} {s : Nat} {o : Oper} {v : AV} {ups : List Up}

theorem sealArgs_spec (R : Mrel G M V H w) {h : HR} (hs : HSub h H) : ∀ {l as : List AV} {fz : Frz} {vs : List Value}, sealArgs h l = some (as, fz) → RepL M V l vs →
    (∀ p ∈ fz, (h p.1).2.live = true) ∧ ∀ M' V', MSub M M' → (∀ p ∈ fz, FrzAt M' V w (h p.1) p.2) → RepL M' V' as vs
  | [], as, fz, vs, e, r => by
    simp only [sealArgs, Option.some.injEq, Prod.mk.injEq] at e
    obtain ⟨rfl, rfl⟩ := e
    rw [r.nil_inv]
    exact ⟨by simp, fun M' V' _ _ => RepL.nil⟩
  | x :: l, as, fz, vs, e, r => by
    simp only [sealArgs] at e
    split at e
    · rename_i y f rs g e1 e2
      simp only [Option.some.injEq, Prod.mk.injEq] at e
      obtain ⟨rfl, rfl⟩ := e
      obtain ⟨xv, xs, rfl, rx, rl⟩ := r.inv
      obtain ⟨p1, p2⟩ := (seal_spec R hs room).1 _ _ _ _ e1 rx
      obtain ⟨q1, q2⟩ := sealArgs_spec R hs e2 rl
      refine ⟨fun p hp => (List.mem_append.1 hp).elim (p1 p) (q1 p), fun M' V' hM F => ?_⟩
      exact RepL.cons (unS_rep (p2 M' hM (fun p hp => F p (List.mem_append_left _ hp)))) (q2 M' V' hM (fun p hp => F p (List.mem_append_right _ hp)))
    · cases e

theorem sealArgs_all (R : Mrel G M V H w) {h : HR} (hs : HSub h H) {l as : List AV} {fz : Frz} {vs : List Value} (e : sealArgs h l = some (as, fz)) (r : RepL M V l vs) :
    ∃ M', Mrel G M' V (upH H (frzUps h fz)) w ∧ Ext G M V w M' V w ∧ ∀ V', RepL M' V' as vs := by
  obtain ⟨p1, p2⟩ := sealArgs_spec R hs e r
  obtain ⟨M', R', X, F⟩ := frz_list R hs fz p1
  exact ⟨M', R', X, fun V' => p2 M' V' X.m F⟩

/-- A call, on either way of handing over. -/
theorem enter_sound {glob : Nat → Option (List SV)} (hgl : GlobOk glob M) (R : Mrel G M V H w) {h : HR} (hs : HSub h H) {E : Env} (hE : SoundCall P glob E.call) {t base : Nat} {f : FuncId} {args : List AV} {vs : List Value} (e : enterA E h t base f args = some (v, ups)) (r : RepL M V args vs)
    (hfresh : ∀ j, j < room → V (base + j) = none) : Calls P f ⟨vs⟩ w fun en w' => ∃ x, en = .returned x ∧ OpPost G M V H w base v ups x w' := by
  unfold enterA at e
  split at e
  · simp only at e
    split at e
    · rename_i rr outs hc
      split at e
      · rename_i hcond
        obtain ⟨h1, h2, h3, h4⟩ := hcond
        simp only [Option.some.injEq, Prod.mk.injEq] at e
        obtain ⟨rfl, rfl⟩ := e
        refine enter_core hgl R hs h2 (by simpa using h4) (renL_rep (fun k s k' s' e bi hv => ?_) r) (hE _ _ _ _ _ hc) h1 h3 hfresh
        obtain ⟨i, hi, q1, q2, q3⟩ := at_toRen e
        simp only [Prod.mk.injEq] at q3
        obtain ⟨_, rfl⟩ := q3
        simp only [List.getElem?_eq_getElem hi, q1]
        rw [q2]; exact hv
      · cases e
    · cases e
  · split at e
    · rename_i as fz has
      split at e
      · rename_i rr outs hc
        split at e
        · rename_i hlen
          simp only [Option.some.injEq, Prod.mk.injEq] at e
          obtain ⟨rfl, rfl⟩ := e
          obtain ⟨M1, R1, X1, rep⟩ := sealArgs_all R hs has r
          have hb : backRen h [] t base outs = backRen (fun _ => noSlot) [] t base outs := by
            unfold backRen
            congr 1
          have := enter_core (keys := []) (t := t) (base := base) (hgl.mono X1.m) R1 (h := fun _ => noSlot) (fun _ => .inr rfl) rfl (by simp) (rep _) (hE _ _ _ _ _ hc) hlen (Nat.zero_le _) hfresh
          refine this.mono ?_
          rintro en w' ⟨x, rfl, M2, V2, R2, X2, r2, n2⟩
          refine ⟨x, rfl, M2, V2, ?_, X1.trans X2, ?_, n2⟩
          · rw [upH_append, hb]; exact R2
          · rw [hb]; exact r2
        · cases e
      · cases e
    · cases e

theorem OpSpec.of_enter {f : FuncId} {vs : List Value} (hr : (execOp a.eval o).run P w = .ok (.enter f ⟨vs⟩) w)
    (hc : Calls P f ⟨vs⟩ w fun en w' => ∃ x, en = .returned x ∧ OpPost G M V H w s v ups x w') : OpSpec P G M V H a w s o v ups := by
  intro next Q hn
  unfold Oper.wp
  rw [hr]
  refine hc.mono ?_
  rintro en w' ⟨x, rfl, hp⟩
  exact hn x w' hp

theorem eqIn_iface {t u : TypeId} {ms : Array (String × TypeId)} {z : Value} (hu : P.underlying t = some (.interface ms)) (d : Nat) (w : World) :
    (Op.equalIn (d + 1) t .nilIface (.iface u z)).run P w = .ok false w ∧ (Op.equalIn (d + 1) t (.iface u z) .nilIface).run P w = .ok false w := by
  simp [Op.equalIn, run_under hu]
theorem eqIn_pointer {t e : TypeId} {z : Addr} (hu : P.underlying t = some (.pointer e)) (d : Nat) (w : World) :
    (Op.equalIn (d + 1) t (.pointer none) (.pointer (some z))).run P w = .ok false w ∧ (Op.equalIn (d + 1) t (.pointer (some z)) (.pointer none)).run P w = .ok false w := by
  simp [Op.equalIn, run_under hu]
theorem eqIn_func {t : TypeId} {ps rs : Array TypeId} {b : Bool} {fn : Fn} {z z' : Array Value} (hu : P.underlying t = some (.func ps rs b)) (d : Nat) (w : World) :
    (Op.equalIn (d + 1) t .nilFunc (.func fn z z')).run P w = .ok false w ∧ (Op.equalIn (d + 1) t (.func fn z z') .nilFunc).run P w = .ok false w := by
  simp [Op.equalIn, run_under hu]
theorem eqIn_slice {t e : TypeId} {z : Addr} {l c : Nat} (hu : P.underlying t = some (.slice e)) (d : Nat) (w : World) :
    (Op.equalIn (d + 1) t (.slice none 0 0) (.slice (some z) l c)).run P w = .ok false w ∧ (Op.equalIn (d + 1) t (.slice (some z) l c) (.slice none 0 0)).run P w = .ok false w := by
  simp [Op.equalIn, run_under hu]

theorem eqNil_sound (R : Mrel G M V H w) {op : BinOp} {t ty : TypeId} {x y : Operand} {ρ : Operand → AV} (e : eqNilA P op t (ρ x) (ρ y) = some v) (rx : RepA M V (ρ x) (a.eval x)) (ry : RepA M V (ρ y) (a.eval y)) (ho : o.op = .binOp op t x y ty) :
    OpSpec P G M V H a w s o v [] := by
  -- nil on one side, something on the other
  have core : ∀ {d : TypeDesc} {p q : AV} {pv qv : Value}, P.underlying t = some d → isNilA d p = true → nonNilA d q = true → RepA M V p pv → RepA M V q qv →
      (∀ w, (Op.equal t pv qv).run P w = .ok false w) ∧ (∀ w, (Op.equal t qv pv).run P w = .ok false w) ∧
      (∀ x y w, (eqGuard op t x y pv qv).run P w = .ok () w) ∧ (∀ x y w, (eqGuard op t x y qv pv).run P w = .ok () w) ∧
      (∀ w, (binOp .eql t pv qv).run P w = .ok (.bool false) w) ∧ (∀ w, (binOp .eql t qv pv).run P w = .ok (.bool false) w) ∧
      (∀ w, (binOp .neq t pv qv).run P w = .ok (.bool true) w) ∧ (∀ w, (binOp .neq t qv pv).run P w = .ok (.bool true) w) := by
    intro d p q pv qv hu hp hq rp rq
    have fin : (∀ w, (Op.equal t pv qv).run P w = .ok false w) → (∀ w, (Op.equal t qv pv).run P w = .ok false w) →
        (∀ x y w, (eqGuard op t x y pv qv).run P w = .ok () w) → (∀ x y w, (eqGuard op t x y qv pv).run P w = .ok () w) →
        (binOp .eql t pv qv = (do pure (.bool (← Op.equal t pv qv)))) → (binOp .eql t qv pv = (do pure (.bool (← Op.equal t qv pv)))) →
        (binOp .neq t pv qv = (do pure (.bool (!(← Op.equal t pv qv))))) → (binOp .neq t qv pv = (do pure (.bool (!(← Op.equal t qv pv))))) →
        (∀ w, (Op.equal t pv qv).run P w = .ok false w) ∧ (∀ w, (Op.equal t qv pv).run P w = .ok false w) ∧
      (∀ x y w, (eqGuard op t x y pv qv).run P w = .ok () w) ∧ (∀ x y w, (eqGuard op t x y qv pv).run P w = .ok () w) ∧
      (∀ w, (binOp .eql t pv qv).run P w = .ok (.bool false) w) ∧ (∀ w, (binOp .eql t qv pv).run P w = .ok (.bool false) w) ∧
      (∀ w, (binOp .neq t pv qv).run P w = .ok (.bool true) w) ∧ (∀ w, (binOp .neq t qv pv).run P w = .ok (.bool true) w) := by
      intro h1 h2 h3 h4 h5 h6 h7 h8
      refine ⟨h1, h2, h3, h4, fun w => ?_, fun w => ?_, fun w => ?_, fun w => ?_⟩
      · rw [h5]; simp [h1]
      · rw [h6]; simp [h2]
      · rw [h7]; simp [h1]
      · rw [h8]; simp [h2]
    unfold isNilA at hp
    split at hp
    · -- interfaces
      cases rp; rename_i rp; cases rp
      have : ∃ u z, qv = .iface u z := by
        unfold nonNilA at hq
        split at hq <;> first | (cases rq with | iface _ _ z => exact ⟨_, z, rfl⟩) | (cases rq with | s _ _ r => cases r with | iface _ _ z => exact ⟨_, z, rfl⟩) | simp_all
      obtain ⟨u, z, rfl⟩ := this
      refine fin (fun w => ?_) (fun w => ?_) (fun x y w => ?_) (fun x y w => ?_) rfl rfl rfl rfl
      · exact (eqIn_iface hu 9999 w).1
      · exact (eqIn_iface hu 9999 w).2
      · unfold eqGuard; split <;> rfl
      · unfold eqGuard; split <;> rfl
    · -- pointers
      cases rp; rename_i rp; cases rp
      have : ∃ z, qv = .pointer (some z) := by
        unfold nonNilA at hq
        split at hq <;> first | (cases rq; exact ⟨_, rfl⟩) | (cases rq with | s _ _ r => cases r; exact ⟨_, rfl⟩) | simp_all
      obtain ⟨z, rfl⟩ := this
      refine fin (fun w => ?_) (fun w => ?_) (fun x y w => ?_) (fun x y w => ?_) rfl rfl rfl rfl
      · exact (eqIn_pointer hu 9999 w).1
      · exact (eqIn_pointer hu 9999 w).2
      · unfold eqGuard; split <;> rfl
      · unfold eqGuard; split <;> rfl
    · -- functions
      cases rp; rename_i rp; cases rp
      have : ∃ u z z', qv = .func u z z' := by
        unfold nonNilA at hq
        split at hq <;> first | (cases rq; exact ⟨_, _, _, rfl⟩) | (cases rq with | s _ _ r => cases r; exact ⟨_, _, _, rfl⟩) | simp_all
      obtain ⟨u, z, z', rfl⟩ := this
      refine fin (fun w => ?_) (fun w => ?_) (fun x y w => ?_) (fun x y w => ?_) rfl rfl rfl rfl
      · exact (eqIn_func hu 9999 w).1
      · exact (eqIn_func hu 9999 w).2
      · unfold eqGuard; split <;> rfl
      · unfold eqGuard; split <;> rfl
    · -- slices
      cases rp
      have : ∃ z l c, qv = .slice (some z) l c := by
        unfold nonNilA at hq
        split at hq <;> first
          | (cases rq; exact ⟨_, _, _, rfl⟩)
          | (cases rq with | s _ _ r => cases r with | ssl => exact ⟨_, _, _, rfl⟩)
          | (cases rq with | xsl _ ad m r => cases r with | ssl => exact ⟨_, _, _, rfl⟩)
          | simp_all
      obtain ⟨z, l, c, rfl⟩ := this
      refine fin (fun w => ?_) (fun w => ?_) (fun x y w => ?_) (fun x y w => ?_) rfl rfl rfl rfl
      · exact (eqIn_slice hu 9999 w).1
      · exact (eqIn_slice hu 9999 w).2
      · unfold eqGuard; split <;> rfl
      · unfold eqGuard; split <;> rfl
    · cases hp
  unfold eqNilA at e
  split at e
  · rename_i d hu
    split at e
    · rename_i hc
      simp only [Bool.or_eq_true, Bool.and_eq_true] at hc
      have both : (∀ x' y' w, (eqGuard op t x' y' (a.eval x) (a.eval y)).run P w = .ok () w) ∧ (∀ w, (binOp .eql t (a.eval x) (a.eval y)).run P w = .ok (.bool false) w) ∧ (∀ w, (binOp .neq t (a.eval x) (a.eval y)).run P w = .ok (.bool true) w) := by
        rcases hc with ⟨c1, c2⟩ | ⟨c1, c2⟩
        · obtain ⟨_, _, g1, _, b1, _, n1, _⟩ := core hu c1 c2 rx ry; exact ⟨g1, b1, n1⟩
        · obtain ⟨_, _, _, g1, _, b1, _, n1⟩ := core hu c2 c1 ry rx; exact ⟨g1, b1, n1⟩
      obtain ⟨g, b1, b2⟩ := both
      split at e
      · simp only [Option.some.injEq] at e; subst e
        refine OpSpec.of_value (x := .bool false) (w' := w) ?_ (OpPost.same R (.s _ _ (.bool _)))
        simp only [execOp, ho, Sem.run_bind, g, Result.andThen_ok, b1, Sem.run_pure]
      · simp only [Option.some.injEq] at e; subst e
        refine OpSpec.of_value (x := .bool true) (w' := w) ?_ (OpPost.same R (.s _ _ (.bool _)))
        simp only [execOp, ho, Sem.run_bind, g, Result.andThen_ok, b2, Sem.run_pure]
      · cases e
    · cases e
  · cases e

end
end Go.Proofs.Ytbfdokfelolmbaa.Vai
end

section
namespace Go.Proofs.Ytbfdokfelolmbaa.Vai

section
variable {P : Program} {G : Nat → Prop} {M : Mem} {V : Val} {H : HR} {w : World} {a : Act} {s : Nat} {o : Oper} {v : AV} {ups : List Up}

theorem OpSpec.of_run {z : Value} {w' : World} {m : Sem Value} (he : execOp a.eval o = (do pure (.value (← m)))) (hr : m.run P w = .ok z w') (hp : OpPost G M V H w s v ups z w') : OpSpec P G M V H a w s o v ups :=
  OpSpec.of_value (by rw [he]; simp [hr]) hp

theorem extract_sound (R : Mrel G M V H w) {x : Operand} {i : Nat} {ρ : Operand → AV} (e : (match ρ x with | .tup l => (l[i]?).map fun x => (x, ([] : List Up)) | _ => none) = some (v, ups)) (r : RepA M V (ρ x) (a.eval x)) (ho : o.op = .extract x i) :
    OpSpec P G M V H a w s o v ups := by
  split at e
  · rename_i l hl
    cases hi : l[i]? with
    | none => rw [hi] at e; cases e
    | some y =>
      rw [hi] at e
      simp only [Option.map_some, Option.some.injEq, Prod.mk.injEq] at e
      obtain ⟨rfl, rfl⟩ := e
      rw [hl] at r
      generalize hx : a.eval x = xv at r
      cases r with
      | tup _ cs h1 rr =>
        obtain ⟨z, hz, rz⟩ := RepL.at ⟨h1, rr⟩ hi
        refine OpSpec.of_value (x := z) (w' := w) ?_ (OpPost.same R rz)
        simp only [execOp, ho, hx, Instr.extract]
        simp [hz]
  · cases e

theorem slowOp_sound {E : Env} (hE : SoundCall E.P E.glob E.call) (hgl : GlobOk E.glob M) (R : Mrel G M V H w) {h : HR} (hs : HSub h H) {ρ : Operand → AV} {k : Nat} (e : slowOp E ρ h k s o = some (v, ups)) (hρ : ∀ x ∈ o.op.operands, RepA M V (ρ x) (a.eval x))
    (hfresh : ∀ j, j < room → V (s + j) = none) : OpSpec E.P G M V H a w s o v ups := by
  have hst : V s = none := by simpa using hfresh 0 (by unfold room; omega)
  have hv : ∀ {x : Option AV}, (x.map fun x => (x, ([] : List Up))) = some (v, ups) → x = some v ∧ ups = [] := by
    intro x hx
    cases x with
    | none => cases hx
    | some y => simp only [Option.map_some, Option.some.injEq, Prod.mk.injEq] at hx; exact ⟨by rw [hx.1], hx.2.symm⟩
  have flat : (∀ cs b, o.op ≠ .select cs b) → (flatA E.P ρ o).map (fun x => (x, ([] : List Up))) = some (v, ups) → OpSpec E.P G M V H a w s o v ups := by
    intro hsel hx
    obtain ⟨h1, rfl⟩ := hv hx
    exact flat_sound R hsel hρ h1
  obtain ⟨dst, op, type, pos, after, guard⟩ := o
  unfold slowOp at e
  cases op with
  | move x =>
    simp only [Option.some.injEq, Prod.mk.injEq] at e
    obtain ⟨rfl, rfl⟩ := e
    exact OpSpec.of_value (x := a.eval x) (w' := w) rfl (OpPost.same R (hρ x (by simp [Op.operands])))
  | assign x =>
    simp only [Option.some.injEq, Prod.mk.injEq] at e
    obtain ⟨rfl, rfl⟩ := e
    exact OpSpec.of_value (x := a.eval x) (w' := w) rfl (OpPost.same R (hρ x (by simp [Op.operands])))
  | pick c x y =>
    have rc := hρ c (by simp [Op.operands])
    simp only at e
    split at e
    · rename_i hc
      simp only [Option.some.injEq, Prod.mk.injEq] at e
      obtain ⟨rfl, rfl⟩ := e
      rw [hc] at rc
      generalize hcv : a.eval c = cv at rc
      cases rc with
      | s _ _ r =>
        cases r
        refine OpSpec.of_value (x := a.eval x) (w' := w) ?_ (OpPost.same R (hρ x (by simp [Op.operands])))
        simp [execOp, hcv, asBool]
    · rename_i hc
      simp only [Option.some.injEq, Prod.mk.injEq] at e
      obtain ⟨rfl, rfl⟩ := e
      rw [hc] at rc
      generalize hcv : a.eval c = cv at rc
      cases rc with
      | s _ _ r =>
        cases r
        refine OpSpec.of_value (x := a.eval y) (w' := w) ?_ (OpPost.same R (hρ y (by simp [Op.operands])))
        simp [execOp, hcv, asBool]
    · cases e
  | alloc t =>
    simp only at e
    split at e
    · rename_i z hz
      simp only [Option.some.injEq, Prod.mk.injEq] at e
      obtain ⟨rfl, rfl⟩ := e
      cases ht : tzero E.P t with
      | none => rw [ht] at hz; cases hz
      | some zv =>
        rw [ht] at hz
        obtain ⟨x, h1, h2⟩ := run_zero (M := M) (V := V) ht w
        refine box_sound R (x := x) (t := t) hz h2 hst ?_
        simp only [execOp, Instr.alloc, Sem.run_bind, h1, Result.andThen_ok, newVar, newRow, run_newObj, Sem.run_pure]
        rfl
    · cases e
  | box t x =>
    simp only at e
    split at e
    · rename_i z hz
      simp only [Option.some.injEq, Prod.mk.injEq] at e
      obtain ⟨rfl, rfl⟩ := e
      refine box_sound R (x := a.eval x) (t := t) hz (hρ x (by simp [Op.operands])) hst ?_
      simp only [execOp, Instr.box, Sem.run_bind, newVar, newRow, run_newObj, Result.andThen_ok, Sem.run_pure]
      rfl
    · cases e
  | build t parts =>
    obtain ⟨h1, rfl⟩ := hv e
    exact build_sound R h1 hρ rfl
  | buildSlice t len parts => exact buildSlice_sound R hs e hρ rfl hst
  | load t x =>
    obtain ⟨h1, rfl⟩ := hv e
    exact load_sound R hs h1 (hρ x (by simp [Op.operands])) rfl
  | store t x y =>
    simp only at e
    cases hst2 : storeA E.P h t (ρ x) (ρ y) with
    | none => rw [hst2] at e; cases e
    | some u =>
      rw [hst2] at e
      simp only [Option.map_some, Option.some.injEq, Prod.mk.injEq] at e
      obtain ⟨rfl, rfl⟩ := e
      exact store_sound R hs hst2 (hρ x (by simp [Op.operands])) (hρ y (by simp [Op.operands])) rfl
  | nilCheck x =>
    have rx := hρ x (by simp [Op.operands])
    simp only at e
    split at e
    · rename_i hx
      simp only [Option.some.injEq, Prod.mk.injEq] at e
      obtain ⟨rfl, rfl⟩ := e
      rw [hx] at rx
      refine OpSpec.of_value (x := a.eval x) (w' := w) ?_ (OpPost.same R rx)
      generalize hcv : a.eval x = cv at rx
      cases rx
      simp [execOp, hcv]
    · rename_i hx
      simp only [Option.some.injEq, Prod.mk.injEq] at e
      obtain ⟨rfl, rfl⟩ := e
      rw [hx] at rx
      refine OpSpec.of_value (x := a.eval x) (w' := w) ?_ (OpPost.same R rx)
      generalize hcv : a.eval x = cv at rx
      cases rx with
      | s _ _ r => cases r; simp [execOp, hcv]
    · rename_i hx
      simp only [Option.some.injEq, Prod.mk.injEq] at e
      obtain ⟨rfl, rfl⟩ := e
      rw [hx] at rx
      refine OpSpec.of_value (x := a.eval x) (w' := w) ?_ (OpPost.same R rx)
      generalize hcv : a.eval x = cv at rx
      cases rx
      simp [execOp, hcv]
    · rename_i hx
      simp only [Option.some.injEq, Prod.mk.injEq] at e
      obtain ⟨rfl, rfl⟩ := e
      rw [hx] at rx
      refine OpSpec.of_value (x := a.eval x) (w' := w) ?_ (OpPost.same R rx)
      generalize hcv : a.eval x = cv at rx
      cases rx with
      | s _ _ r => cases r; simp [execOp, hcv]
    · rename_i hx
      simp only [Option.some.injEq, Prod.mk.injEq] at e
      obtain ⟨rfl, rfl⟩ := e
      rw [hx] at rx
      refine OpSpec.of_value (x := a.eval x) (w' := w) ?_ (OpPost.same R rx)
      generalize hcv : a.eval x = cv at rx
      cases rx with
      | s _ _ r => cases r; simp [execOp, hcv]
    · rename_i hx
      simp only [Option.some.injEq, Prod.mk.injEq] at e
      obtain ⟨rfl, rfl⟩ := e
      rw [hx] at rx
      refine OpSpec.of_value (x := a.eval x) (w' := w) ?_ (OpPost.same R rx)
      generalize hcv : a.eval x = cv at rx
      cases rx
      simp [execOp, hcv]
    · rename_i hx
      simp only [Option.some.injEq, Prod.mk.injEq] at e
      obtain ⟨rfl, rfl⟩ := e
      rw [hx] at rx
      refine OpSpec.of_value (x := a.eval x) (w' := w) ?_ (OpPost.same R rx)
      generalize hcv : a.eval x = cv at rx
      cases rx with
      | s _ _ r => cases r; simp [execOp, hcv]
    · cases e
  | makeInterface t x =>
    have rx := hρ x (by simp [Op.operands])
    simp only at e
    split at e
    · cases e
    · cases e
    · rename_i d hne hd _
      simp only [Option.some.injEq, Prod.mk.injEq] at e
      obtain ⟨rfl, rfl⟩ := e
      refine OpSpec.of_value (x := .iface t (a.eval x)) (w' := w) ?_ (OpPost.same R (.iface _ _ _ rx))
      simp only [execOp, Instr.makeInterface, Sem.run_bind, run_under hd, Result.andThen_ok]
      cases d <;> first | rfl | exact (hne _ rfl).elim | exact (hne _ hd).elim
    · cases e
  | makeFunc fn f c =>
    simp only at e
    have rf : RepL M V (f.toList.map ρ) (f.toList.map a.eval) := args_rep (fun x hx => hρ x (by simp [Op.operands]; left; simpa using hx))
    have rc : RepL M V (c.toList.map ρ) (c.toList.map a.eval) := args_rep (fun x hx => hρ x (by simp [Op.operands]; right; simpa using hx))
    simp only [Option.some.injEq, Prod.mk.injEq] at e
    obtain ⟨rfl, rfl⟩ := e
    refine OpSpec.of_value (x := .func fn ⟨f.toList.map a.eval⟩ ⟨c.toList.map a.eval⟩) (w' := w) ?_ (OpPost.same R ?_)
    · simp only [execOp, Instr.makeFunc, Sem.run_bind, Sem.run_pure, Result.andThen_ok]
      congr 3
      · apply Array.ext'; simp
      · apply Array.ext'; simp
    · generalize f.toList.map ρ = fa at rf
      generalize f.toList.map a.eval = fv at rf
      generalize c.toList.map ρ = ca at rc
      generalize c.toList.map a.eval = cv at rc
      unfold mkFunc
      split
      · rw [rf.nil_inv, rc.nil_inv]; exact .s _ _ (.flat _)
      · exact .clo _ _ _ _ _ rf.1 rc.1 rf.2 rc.2
  | makeSlice t l c =>
    obtain ⟨z, w', hr, hp⟩ := makeSlice_sound R e (hρ l (by simp [Op.operands])) (hρ c (by simp [Op.operands])) hst
    exact OpSpec.of_run rfl hr hp
  | slice t x lo hi mx =>
    simp only at e
    split at e
    · obtain ⟨h1, rfl⟩ := hv e
      exact slice_sound R hs h1 hρ rfl
    · exact flat (by intro _ _ hh; cases hh) e
  | fieldAddr t x f =>
    obtain ⟨h1, rfl⟩ := hv e
    exact fieldAddr_sound R h1 (hρ x (by simp [Op.operands])) rfl
  | field t x f =>
    have rx := hρ x (by simp [Op.operands])
    simp only at e
    split at e
    · rename_i fl l hf hx
      obtain ⟨h1, rfl⟩ := hv e
      rw [hx] at rx
      generalize hxv : a.eval x = xv at rx
      cases rx with
      | agg _ cs hl hc rr =>
        obtain ⟨z, hz, rz⟩ := part_sound h1 ⟨hl, rr⟩ hc
        unfold fieldOf at hf
        split at hf
        · rename_i fs hu
          refine OpSpec.of_value (x := z) (w' := w) ?_ (OpPost.same R rz)
          simp only [execOp, hxv, Instr.field, Sem.run_bind, run_under hu, Result.andThen_ok, hf, asAgg, Sem.run_pure, hz]
        · cases hf
    · cases e
  | indexAddr t x ix =>
    obtain ⟨h1, rfl⟩ := hv e
    exact indexAddr_sound R hs h1 (hρ x (by simp [Op.operands])) (hρ ix (by simp [Op.operands])) rfl
  | index t x ix =>
    have rx := hρ x (by simp [Op.operands])
    have ri := hρ ix (by simp [Op.operands])
    simp only at e
    split at e
    · rename_i n el hu
      split at e
      · rename_i i wd l hi hw hx
        split at e
        · rename_i hlt
          obtain ⟨h1, rfl⟩ := hv e
          obtain ⟨kk, hk⟩ := nat_rep hi ri
          rw [hx] at rx
          generalize hxv : a.eval x = xv at rx
          cases rx with
          | agg _ cs hl hc rr =>
            obtain ⟨z, hz, rz⟩ := part_sound h1 ⟨hl, rr⟩ hc
            refine OpSpec.of_value (x := z) (w' := w) ?_ (OpPost.same R rz)
            simp only [execOp, hxv, hk, Instr.index, asIntOf, Sem.run_bind, Sem.run_pure, run_under hu, Result.andThen_ok]
            rw [if_pos (by omega)]
            simp only [Sem.run_bind, run_size hw, Result.andThen_ok, Int.toNat_natCast, hz]
        · cases e
      · cases e
    · exact flat (by intro _ _ hh; cases hh) e
  | extract x i => exact extract_sound R e (hρ x (by simp [Op.operands])) rfl
  | convert src dst x =>
    simp only at e
    split at e
    · rename_i r hr
      simp only [Option.some.injEq] at e
      subst e
      obtain ⟨z, w', h1, hp⟩ := convert_sound R hs hr (hρ x (by simp [Op.operands])) hst
      exact OpSpec.of_run rfl h1 hp
    · exact flat (by intro _ _ hh; cases hh) e
  | binOp op t x y ty =>
    simp only at e
    split at e
    · rename_i r hr
      simp only [Option.some.injEq, Prod.mk.injEq] at e
      obtain ⟨rfl, rfl⟩ := e
      exact eqNil_sound R hr (hρ x (by simp [Op.operands])) (hρ y (by simp [Op.operands])) rfl
    · exact flat (by intro _ _ hh; cases hh) e
  | unOp op t x => exact flat (by intro _ _ hh; cases hh) e
  | call c =>
    simp only at e
    have hc : ∀ x ∈ c.operands, RepA M V (ρ x) (a.eval x) := hρ
    have flatc : (match c.callee with | .builtin .min | .builtin .max => (flatA E.P ρ ⟨dst, .call c, type, pos, after, guard⟩).map (fun x => (x, ([] : List Up))) | _ => none) = some (v, ups) →
        OpSpec E.P G M V H a w s ⟨dst, .call c, type, pos, after, guard⟩ v ups := by
      intro hx
      split at hx
      · exact flat (by intro _ _ hh; cases hh) hx
      · exact flat (by intro _ _ hh; cases hh) hx
      · cases hx
    split at e
    · rename_i r hr
      simp only [Option.some.injEq] at e
      subst e
      unfold callA at hr
      split at hr
      · rename_i b hcal
        have hargs : RepL M V (c.args.toList.map ρ) (c.args.toList.map a.eval) := args_rep (fun x hx => hc x (by simp [Call.operands]; right; simpa using hx))
        have hrun : ∀ {m : Sem Value} {z : Value} {w' : World}, (∀ cs, builtin b c.argTypes type cs (c.args.map a.eval) = (do pure (.value (← m)))) → m.run E.P w = .ok z w' →
            OpPost G M V H w s v ups z w' → OpSpec E.P G M V H a w s ⟨dst, .call c, type, pos, after, guard⟩ v ups := by
          intro m z w' h1 h2 h3
          refine OpSpec.of_value (x := z) (w' := w') ?_ h3
          simp only [execOp, resolve, hcal, Sem.run_bind, Sem.run_pure, Result.andThen_ok, invoke]
          rw [h1]
          simp [h2]
        have harr : ∀ l, c.args.toList.map a.eval = l → c.args.map a.eval = ⟨l⟩ := by
          intro l hl; apply Array.ext'; simpa using hl
        have htys : ∀ l, c.argTypes.toList = l → c.argTypes = ⟨l⟩ := by
          intro l hl; apply Array.ext'; simpa using hl
        split at hr
        · rename_i x y hxy
          obtain ⟨xv, r1, q1, rx, hr1⟩ := (hxy ▸ hargs).inv
          obtain ⟨yv, r2, rfl, ry, hr2⟩ := hr1.inv
          have := hr2.nil_inv; subst this
          obtain ⟨z, w', h1, hp⟩ := append_sound (ty := type) R hs hr rx ry hst
          refine hrun (m := Builtin.append_ c.argTypes type (c.args.map a.eval)) (fun _ => rfl) ?_ hp
          rw [harr _ q1]; exact h1
        · rename_i t ts x rest ht hxy
          obtain ⟨xv, r1, q1, rx, hr1⟩ := (hxy ▸ hargs).inv
          cases hl : lenOpA E.P t x with
          | none => rw [hl] at hr; cases hr
          | some lv =>
            rw [hl] at hr
            simp only [Option.map_some, Option.some.injEq, Prod.mk.injEq] at hr
            obtain ⟨rfl, rfl⟩ := hr
            obtain ⟨z, h1, h2⟩ := len_sound (ts := ts) (ty := type) (rest := r1) hl rx
            refine hrun (m := Builtin.len_ c.argTypes type (c.args.map a.eval)) (fun _ => rfl) ?_ (OpPost.same R h2)
            rw [harr _ q1, htys _ ht]; exact h1 w
        · rename_i t ts x rest ht hxy
          obtain ⟨xv, r1, q1, rx, hr1⟩ := (hxy ▸ hargs).inv
          cases hl : capOpA E.P t x with
          | none => rw [hl] at hr; cases hr
          | some lv =>
            rw [hl] at hr
            simp only [Option.map_some, Option.some.injEq, Prod.mk.injEq] at hr
            obtain ⟨rfl, rfl⟩ := hr
            obtain ⟨z, h1, h2⟩ := cap_sound (ts := ts) (ty := type) (rest := r1) hl rx
            refine hrun (m := Builtin.cap_ c.argTypes type (c.args.map a.eval)) (fun _ => rfl) ?_ (OpPost.same R h2)
            rw [harr _ q1, htys _ ht]; exact h1 w
        · rename_i t ts x y ht hxy
          obtain ⟨xv, r1, q1, rx, hr1⟩ := (hxy ▸ hargs).inv
          obtain ⟨yv, r2, rfl, ry, hr2⟩ := hr1.inv
          have := hr2.nil_inv; subst this
          obtain ⟨z, w', h1, hp⟩ := copy_sound (ts := ts) (ty := type) (s := s) R hs hr rx ry
          refine hrun (m := Builtin.copy_ c.argTypes type (c.args.map a.eval)) (fun _ => rfl) ?_ hp
          rw [harr _ q1, htys _ ht]; exact h1
        · rename_i t ts x ht hxy
          obtain ⟨xv, r1, q1, rx, hr1⟩ := (hxy ▸ hargs).inv
          have := hr1.nil_inv; subst this
          obtain ⟨z, w', h1, hp⟩ := clear_sound (ts := ts) (ty := type) (s := s) R hs hr rx
          refine hrun (m := Builtin.clear_ c.argTypes type (c.args.map a.eval)) (fun _ => rfl) ?_ hp
          rw [harr _ q1, htys _ ht]; exact h1
        · cases hr
      · split at hr
        · rename_i f args ht
          split at hr
          · rename_i hb
            obtain ⟨vs, rv, hrn⟩ := target_sound ht hb hc type
            exact OpSpec.of_enter (hrn w) (enter_sound hgl R hs hE hr rv hfresh)
          · cases hr
        · cases hr
    · exact flatc e
  | _ => cases e

theorem toList_bytes (l : List UInt8) : (ByteArray.mk ⟨l⟩).toList = l := Lib.toList_data _

theorem run_binInt {op : BinOp} {k : IntKind} {x y : Int} {z : SV} (e : ariA op k x y = some z) (t : TypeId) (w : World) : ∃ zv, toS z = some zv ∧ (binOp op t (.int k x) (.int k y)).run P w = .ok zv w := by
  unfold ariA at e
  split at e
  case h_4 => split at e
              · cases e
              · rename_i h; simp only [Option.some.injEq] at e; subst e; exact ⟨_, rfl, by simp [binOp, Op.intDiv, h]⟩
  case h_5 => split at e
              · cases e
              · rename_i h; simp only [Option.some.injEq] at e; subst e; exact ⟨_, rfl, by simp [binOp, Op.intDiv, h]⟩
  case h_12 => cases e
  all_goals
    simp only [Option.some.injEq] at e
    subst e
    refine ⟨_, rfl, ?_⟩
    simp [binOp, Op.intArith, Op.intCmp]
    try rfl

theorem run_binStr {op : BinOp} {x y : List UInt8} {z : SV} (e : strA op x y = some z) (t : TypeId) (w : World) : ∃ zv, RepS M z zv ∧ (binOp op t (.string ⟨⟨x⟩⟩) (.string ⟨⟨y⟩⟩)).run P w = .ok zv w := by
  unfold strA at e
  split at e
  case h_1 =>
    split at e
    · rename_i h
      simp only [Option.some.injEq] at e; subst e
      refine ⟨_, .str _, ?_⟩
      have hk : ¬ (((ByteArray.mk ⟨x⟩).size + (ByteArray.mk ⟨y⟩).size : Nat) : Int) > IntKind.i64.max := by
        have : (((ByteArray.mk ⟨x⟩).size + (ByteArray.mk ⟨y⟩).size : Nat) : Int) ≤ 9223372036854775807 := by
          simp only [ByteArray.size, List.size_toArray]; omega
        have h2 : IntKind.i64.max = 9223372036854775807 := by decide
        omega
      have ha : (ByteArray.mk ⟨x⟩) ++ (ByteArray.mk ⟨y⟩) = ByteArray.mk ⟨x ++ y⟩ := by simp [ByteArray.ext_iff]
      simp only [binOp, Op.stringOp, if_neg hk, ha]
      rfl
    · cases e
  case h_8 => cases e
  all_goals
    simp only [Option.some.injEq] at e
    subst e
    refine ⟨_, .bool _, ?_⟩
    simp only [binOp, Op.stringOp, toList_bytes]
    rfl

theorem eqGuard_skip {op : BinOp} {t : TypeId} {x y : Operand} {p q : Value} (h : (∃ k m, p = .int k m) ∨ ∃ l, p = .string l) (w : World) : (eqGuard op t x y p q).run P w = .ok () w := by
  unfold eqGuard
  rcases h with ⟨k, m, rfl⟩ | ⟨l, rfl⟩ <;> (split <;> rfl)

theorem bound_run {y d : Nat} {x : Option AV} {xv : Option Value} {n : Nat} (e : boundA y d x = some n) (hx : ∀ u, x = some u → ∃ uv, xv = some uv ∧ RepA M V u uv) (hn : x = none → xv = none) (c : BoundsCode) (w : World) :
    (xv = none ∧ n = d) ∨ ∃ uv, xv = some uv ∧ (Instr.sliceBound uv y c).run P w = .ok n w := by
  unfold boundA at e
  split at e
  · simp only [Option.some.injEq] at e
    exact .inl ⟨hn rfl, e.symm⟩
  · rename_i u
    obtain ⟨uv, h1, h2⟩ := hx u rfl
    right
    refine ⟨uv, h1, ?_⟩
    split at e
    · rename_i i hi
      split at e
      · rename_i hb
        simp only [Option.some.injEq] at e; subst e
        unfold intOf at hi
        split at hi
        · rename_i k m
          simp only [Option.some.injEq] at hi; subst hi
          cases h2 with
          | s _ _ r =>
            cases r
            simp only [Instr.sliceBound, asIntOf, Sem.run_bind, Sem.run_pure, Result.andThen_ok, if_pos hb]
        · cases hi
      · cases e
    · cases e

theorem fast_sound (R : Mrel G M V H w) {ρ : Operand → AV} {z : SV} (e : fastA P ρ o.op = some z) (hρ : ∀ x ∈ o.op.operands, RepA M V (ρ x) (a.eval x)) : OpSpec P G M V H a w s o (.s z) [] := by
  obtain ⟨dst, op, type, pos, after, guard⟩ := o
  unfold fastA at e
  split at e
  · rename_i op t x y ty hop
    simp only at hop
    subst hop
    have rx := hρ x (by simp [Op.operands])
    have ry := hρ y (by simp [Op.operands])
    unfold binA at e
    split at e
    · rename_i k m k' m' hx hy
      split at e
      · rename_i hk; subst hk
        rw [hx] at rx; rw [hy] at ry
        generalize hxv : a.eval x = xv at rx
        generalize hyv : a.eval y = yv at ry
        cases rx with | s _ _ rx => cases rx; cases ry with | s _ _ ry => cases ry; obtain ⟨zv, h1, h2⟩ := run_binInt e t w (P := P); refine OpSpec.of_value (x := zv) (w' := w) ?_ (OpPost.same R (.s _ _ ?_)); simp only [execOp, hxv, hyv, Sem.run_bind, eqGuard_skip (.inl ⟨_, _, rfl⟩), Result.andThen_ok, h2, Sem.run_pure]; (unfold ariA at e; split at e <;> first | (simp only [Option.some.injEq] at e; subst e; simp only [toS, Option.some.injEq] at h1; subst h1; constructor) | (split at e <;> first | (simp only [Option.some.injEq] at e; subst e; simp only [toS, Option.some.injEq] at h1; subst h1; constructor) | cases e) | cases e)
      · cases e
    · rename_i m m' hx hy
      rw [hx] at rx; rw [hy] at ry
      generalize hxv : a.eval x = xv at rx
      generalize hyv : a.eval y = yv at ry
      cases rx with
      | s _ _ rx =>
        cases rx
        cases ry with
        | s _ _ ry =>
          cases ry
          obtain ⟨zv, h1, h2⟩ := run_binStr (M := M) e t w (P := P)
          refine OpSpec.of_value (x := zv) (w' := w) ?_ (OpPost.same R (.s _ _ h1))
          simp only [execOp, hxv, hyv, Sem.run_bind, eqGuard_skip (.inr ⟨_, rfl⟩), Result.andThen_ok, h2, Sem.run_pure]
    · cases e
  · rename_i t x hop
    simp only at hop
    subst hop
    have rx := hρ x (by simp [Op.operands])
    split at e
    · rename_i b hx
      simp only [Option.some.injEq] at e; subst e
      rw [hx] at rx
      generalize hxv : a.eval x = xv at rx
      cases rx with
      | s _ _ rx =>
        cases rx
        refine OpSpec.of_value (x := .bool (!b)) (w' := w) ?_ (OpPost.same R (.s _ _ (.bool _)))
        simp only [execOp, hxv]
        rfl
    · cases e
  · rename_i t x ix hop
    simp only at hop
    subst hop
    have rx := hρ x (by simp [Op.operands])
    have ri := hρ ix (by simp [Op.operands])
    split at e
    · rename_i l i hx hi
      split at e
      · rename_i hu
        split at e
        · rename_i h0
          cases hl : l[i.toNat]? with
          | none => rw [hl] at e; cases e
          | some b =>
            rw [hl] at e
            simp only [Option.map_some, Option.some.injEq] at e; subst e
            rw [hx] at rx
            generalize hxv : a.eval x = xv at rx
            cases rx with
            | s _ _ rx =>
              cases rx
              unfold intOf at hi
              split at hi
              · rename_i k m hk
                simp only [Option.some.injEq] at hi; subst hi
                rw [hk] at ri
                generalize hiv : a.eval ix = iv at ri
                cases ri with
                | s _ _ ri =>
                  cases ri
                  refine OpSpec.of_value (x := .int .u8 b.toNat) (w' := w) ?_ (OpPost.same R (.s _ _ (.int _ _)))
                  have hb : (ByteArray.mk ⟨l⟩)[m.toNat]? = some b := by
                    obtain ⟨h1, h2⟩ := List.getElem?_eq_some_iff.1 hl
                    have h3 : m.toNat < (ByteArray.mk ⟨l⟩).size := by simpa [ByteArray.size] using h1
                    rw [getElem?_pos (ByteArray.mk ⟨l⟩) m.toNat h3]
                    exact congrArg some h2
                  simp only [execOp, hxv, hiv, Instr.index, asIntOf, Sem.run_bind, Sem.run_pure, Result.andThen_ok, run_under hu, if_pos h0, hb]
              · cases hi
        · cases e
      · cases e
    · cases e
  · rename_i t x lo hi hop
    simp only at hop
    subst hop
    have rx := hρ x (by simp [Op.operands])
    split at e
    · rename_i l hx
      split at e
      · rename_i hu
        split at e
        · rename_i hn hh
          split at e
          · rename_i bn hb
            simp only [Option.some.injEq] at e; subst e
            rw [hx] at rx
            generalize hxv : a.eval x = xv at rx
            cases rx with
            | s _ _ rx =>
              cases rx
              refine OpSpec.of_value (x := .string ((ByteArray.mk ⟨l⟩).extract bn hn)) (w' := w) ?_ (OpPost.same R (.s _ _ ?_))
              · have hsz : (ByteArray.mk ⟨l⟩).size = l.length := by simp [ByteArray.size]
                have q1 := bound_run (P := P) (xv := hi.map a.eval) hh (fun u hu => by
                  cases hi with
                  | none => cases hu
                  | some y => simp only [Option.map_some, Option.some.injEq] at hu; subst hu; exact ⟨_, rfl, hρ y (by simp [Op.operands])⟩) (fun hu => by cases hi with | none => rfl | some y => cases hu) .sliceAlen w
                have q2 := bound_run (P := P) (xv := lo.map a.eval) hb (fun u hu => by
                  cases lo with
                  | none => cases hu
                  | some y => simp only [Option.map_some, Option.some.injEq] at hu; subst hu; exact ⟨_, rfl, hρ y (by simp [Op.operands])⟩) (fun hu => by cases lo with | none => rfl | some y => cases hu) .sliceB w
                simp only [execOp, hxv, Instr.sliceAt, Instr.slice, Sem.run_bind, run_under hu, Result.andThen_ok, Option.map_none, Option.isSome_none, Bool.false_eq_true, if_false, Sem.run_pure, Instr.sliceBounds, hsz]
                rcases q1 with ⟨g1, rfl⟩ | ⟨uv, g1, g2⟩
                · rcases q2 with ⟨g3, rfl⟩ | ⟨uv2, g3, g4⟩
                  · simp [g1, g3]
                  · simp [g1, g3, g4]
                · rcases q2 with ⟨g3, rfl⟩ | ⟨uv2, g3, g4⟩
                  · simp [g1, g2, g3]
                  · simp [g1, g2, g3, g4]
              · rw [Lib.extract_eq]
                exact .str _
          · cases e
        · cases e
      · cases e
    · cases e
  · cases e

theorem absOp_sound {E : Env} (hE : SoundCall E.P E.glob E.call) (hgl : GlobOk E.glob M) (R : Mrel G M V H w) {h : HR} (hs : HSub h H) {ρ : Operand → AV} {k : Nat} (e : absOp E ρ h k s o = some (v, ups)) (hρ : ∀ x ∈ o.op.operands, RepA M V (ρ x) (a.eval x))
    (hfresh : ∀ j, j < room → V (s + j) = none) : OpSpec E.P G M V H a w s o v ups := by
  unfold absOp at e
  split at e
  · rename_i z hz
    simp only [Option.some.injEq, Prod.mk.injEq] at e
    obtain ⟨rfl, rfl⟩ := e
    exact fast_sound R hz hρ
  · exact slowOp_sound hE hgl R hs e hρ hfresh

end
end Go.Proofs.Ytbfdokfelolmbaa.Vai
end
