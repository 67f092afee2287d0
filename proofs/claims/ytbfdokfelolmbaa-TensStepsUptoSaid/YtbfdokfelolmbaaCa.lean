import Derived.Test.YtbfdokfelolmbaaPl
import Derived.Test.YtbfdokfelolmbaaTa
/-
  All calls together, from outside.
-/
set_option linter.all false
section
open Go.Proofs.Ytbfdokfelolmbaa.Vai
namespace Go.Proofs.Ytbfdokfelolmbaa.TensW
set_option maxRecDepth 10000
set_option linter.unusedSimpArgs false
set_option linter.unusedVariables false

/-! All the calls together. -/
noncomputable def baseT : Base := { P := Try.prog, glob := fun _ => none, lend := fun _ => false, raw := fun _ => false, ext := fun _ => none }
def fuelA : AV → Nat
  | .s (.str l) => l.length
  | .s (.ssl rows) => rows.length
  | .s (.int _ n) => n.toNat
  | .agg [_, .s (.ssl rows)] => rows.length
  | _ => 0
def fuel (args : List AV) : Nat := (args.map fuelA).sum + 10
noncomputable def lvl : Nat → Vai.Call
  | 0 => fun _ _ _ => none
  | k + 1 => fun f args blks => callF baseT (lvl k) (fuel args) f args blks
noncomputable def envT (k : Nat) : Env := baseT.env (lvl k)
theorem mixed : Try.prog.follows .mixedOrders = true := by kernel_rfl
theorem lvl_sound : ∀ k, SoundCall Try.prog (fun _ => none) (lvl k)
  | 0 => fun _ _ _ _ _ e => by cases e
  | k + 1 => fun f args blks r outs e => body_call (B := baseT) mixed (lvl_sound k) (fun f g h => by cases h) (fuel args) f args blks r outs e
theorem lvl_body {k : Nat} {f : FuncId} {fn : Func} {args : List AV} {r : AV × Outs} (hf : Try.prog.funcs[f]? = some fn) (h : absBody (envT k) (fuel args) f fn args [] = some r) : lvl (k + 1) f args [] = some r := by
  show callF baseT (lvl k) (fuel args) f args [] = some r
  unfold callF
  have : baseT.ext f = none := rfl
  have hP : baseT.P.funcs[f]? = some fn := hf
  rw [this, hP]
  exact h

theorem k12 {k : Nat} {l : List UInt8} (h : Small l) : lvl (k + 1) 12 [.s (.str l)] [] = some (.s (.bool (formedL l)), []) :=
  lvl_body Try.func12 (formed_abs (envT k) rfl rfl _ l (by simp [fuel, fuelA] <;> omega) h)
theorem k27 {k : Nat} {l : List UInt8} (h : l ≠ []) : lvl (k + 1) 27 [.s (.str l)] [] = some (.tup [.s (.bool (negL l)), .s (.str (digL l))], []) := by
  cases l with
  | nil => exact absurd rfl h
  | cons b l => exact lvl_body Try.func27 (split_abs (envT k) rfl rfl _ b l)
theorem k30 {k : Nat} {a b : List UInt8} (h : Small a ∧ Small b) : lvl (k + 1) 30 [.s (.str a), .s (.str b)] [] = some (.s (.int .i64 (sizeL a b)), []) :=
  lvl_body Try.func30 (size_abs (envT k) rfl rfl _ a b h.1 h.2)
theorem k28 {k : Nat} {t : Bool} {l : List UInt8} (h : Small l) : lvl (k + 1) 28 [.s (.bool t), .s (.str l)] [] = some (.s (.str (signedL t l)), []) :=
  lvl_body Try.func28 (signed_abs (envT k) rfl rfl _ t l h)
theorem k40 {k : Nat} {l : List UInt8} (h : Small l) : lvl (k + 1) 40 [.s (.ssl (strRows l))] [] = some (.s (.str (textL l)), []) :=
  lvl_body Try.func40 (text_abs (envT k) rfl rfl _ l (by simp [fuel, fuelA, strRows_length] <;> omega) h)
theorem small_of {l : List UInt8} (h : l.length ≤ 70368744177664) : Small l := by unfold Small; omega
theorem k31 {k : Nat} {a b : List UInt8} (h : Fits a ∧ Fits b) : lvl (k + 2) 31 [.s (.str a), .s (.str b)] [] = some (.s (.str (minusL a b)), []) :=
  lvl_body Try.func31 (minus_abs (envT (k + 1)) rfl rfl rfl (fun l hl => k40 (small_of hl)) _ a b (by simp [fuel, fuelA] <;> omega) (by have := h.1.2; omega) (by have := h.2.2; omega))
theorem k29 {k : Nat} {a b : List UInt8} (h : Fits a ∧ Fits b) : lvl (k + 2) 29 [.s (.str a), .s (.str b)] [] = some (.s (.str (plusL a b)), []) :=
  lvl_body Try.func29 (plus_abs (envT (k + 1)) rfl rfl rfl (fun l hl => k40 (small_of hl)) _ a b (by simp [fuel, fuelA] <;> omega) (by simp [fuel, fuelA] <;> omega) (by have := h.1.2; omega) (by have := h.2.2; omega) h.1.1 h.2.1)
theorem knowsT (k : Nat) : Knows (envT (k + 1)) := ⟨fun l h => k12 h, fun l h => k27 h, fun a b h => k30 h, rfl, rfl, rfl⟩
theorem sumsT (k : Nat) : Sums (envT (k + 2)) := ⟨fun a b h => k29 h, fun a b h => k31 h, fun t l h => k28 h, rfl, rfl, rfl⟩
theorem k16 {k : Nat} {a b : List UInt8} (ha : Small a) (hb : Small b) (hfa : formedL a = true) (hfb : formedL b = true) : lvl (k + 2) 16 [.s (.str a), .s (.str b)] [] = some (.tup [.s (.int .i64 (cmpL a b)), .s (.int .i64 0)], []) :=
  lvl_body Try.func16 (cmp_good (envT (k + 1)) rfl (knowsT k) rfl _ a b ha hb hfa hfb)
theorem k15 {k : Nat} {a b : List UInt8} (ha : a.length < 35184372088832) (hb : b.length < 35184372088832) (hfa : formedL a = true) (hfb : formedL b = true) : lvl (k + 3) 15 [.s (.str a), .s (.str b)] [] = some (.tup [.s (.str (addL a b)), .s (.int .i64 0)], []) :=
  lvl_body Try.func15 (add_good (envT (k + 2)) rfl (knowsT (k + 1)) (sumsT k) rfl _ a b ha hb hfa hfb (formed_split hfa).1.ne (formed_split hfb).1.ne)

/-! The document's side. -/
theorem k39 {k : Nat} {l : List Nat} {i : Nat} : lvl (k + 1) 39 [.s (.ssl (intRows l)), .s (.int .i64 (i : Int))] [] = some (.s (.int .i64 ((l.getD i 0 : Nat) : Int)), []) :=
  lvl_body Try.func39 (digit_abs (envT k) rfl rfl _ l i)
theorem digT (k : Nat) : Dig (envT (k + 1)) := ⟨fun l i => k39, rfl⟩
theorem k24 {k : Nat} {a b : List Nat} (h : a.length < 4398046511104 ∧ b.length < 4398046511104 ∧ Tens a ∧ Tens b) : lvl (k + 1) 24 [.s (.ssl (intRows a)), .s (.ssl (intRows b))] [] = some (.s (.int .i64 (sizeN a b)), []) :=
  lvl_body Try.func24 (sizeN_abs (envT k) rfl rfl _ a b (by simp [fuel, fuelA, intRows_length] <;> omega) (by omega))
theorem k25 {k : Nat} {a b : List Nat} (h : a.length < 4398046511104 ∧ b.length < 4398046511104 ∧ Tens a ∧ Tens b) : lvl (k + 2) 25 [.s (.ssl (intRows a)), .s (.ssl (intRows b))] [] = some (.s (.ssl (intRows (sumOut a b))), []) :=
  lvl_body Try.func25 (sum_abs (envT (k + 1)) rfl (digT k) rfl _ a b (by simp [fuel, fuelA, intRows_length] <;> omega) (by simp [fuel, fuelA, intRows_length] <;> omega) h.2.2.1 h.2.2.2 h.1 h.2.1)
theorem k26 {k : Nat} {a b : List Nat} (h : a.length < 4398046511104 ∧ b.length < 4398046511104 ∧ Tens a ∧ Tens b) : lvl (k + 2) 26 [.s (.ssl (intRows a)), .s (.ssl (intRows b))] [] = some (.s (.ssl (intRows (restOut a b))), []) :=
  lvl_body Try.func26 (rest_abs (envT (k + 1)) rfl (digT k) rfl _ a b (by simp [fuel, fuelA, intRows_length] <;> omega) h.2.2.1 h.2.2.2 h.1)
theorem k23 {k : Nat} {b : Bool} {l : List Nat} (h : l.length < 4398046511104) : lvl (k + 1) 23 [numA b l] [] = some (trimA b l, []) :=
  lvl_body Try.func23 (trim_abs (envT k) rfl rfl _ b l (by simp [fuel, fuelA, numA, intRows_length] <;> omega) (by omega))
theorem trimsT (k : Nat) : Trims (envT (k + 1)) := ⟨fun b l h => k23 h, rfl⟩
theorem refsT (k : Nat) : Refs (envT (k + 2)) := ⟨fun a b h => k24 h, fun a b h => k25 h, fun a b h => k26 h, rfl, rfl, rfl⟩
theorem k7 {k : Nat} {l : List UInt8} (h : Small l) : lvl (k + 1) 7 [.s (.str l)] [] = some (.s (.bool (refF l)), []) :=
  lvl_body Try.func7 (refF_abs (envT k) rfl rfl _ l (by simp [fuel, fuelA] <;> omega) h)
theorem k8 {k : Nat} {l : List UInt8} (h0 : l ≠ []) (h : l.length < 4398046511104) : lvl (k + 2) 8 [.s (.str l)] [] = some (nA (readP l), []) :=
  lvl_body Try.func8 (read_abs (envT (k + 1)) rfl (trimsT k) rfl _ l h0 (by simp [fuel, fuelA] <;> omega) h)
theorem k10 {k : Nat} {x : Num} (h : okN x) : lvl (k + 1) 10 [nA x] [] = some (.s (.str (writeP x)), []) :=
  lvl_body Try.func10 (write_abs (envT k) rfl rfl _ x.1 x.2 (by simp [fuel, fuelA, nA, numA, intRows_length] <;> omega) h.1 (by have := h.2; omega))
theorem k9 {k : Nat} {x y : Num} (hx : okN x) (hy : okN y) : lvl (k + 3) 9 [nA x, nA y] [] = some (.s (.int .i64 (orderP x y)), []) :=
  lvl_body Try.func9 (order_abs (envT (k + 2)) rfl (refsT k) rfl _ x.1 x.2 y.1 y.2 ⟨by have := hx.2; omega, by have := hy.2; omega, hx.1, hy.1⟩)
theorem k11 {k : Nat} {x y : Num} (hx : okN x) (hy : okN y) : lvl (k + 3) 11 [nA x, nA y] [] = some (nA (addP x y), []) := by
  rw [← addN_eq]
  refine lvl_body Try.func11 (add_abs (envT (k + 2)) rfl (refsT k) (trimsT (k + 1)) rfl _ x.1 x.2 y.1 y.2 ⟨by have := hx.2; omega, by have := hy.2; omega, hx.1, hy.1⟩ ?_)
  have := sumOut_len (a := x.2) (b := y.2)
  have := hx.2
  have := hy.2
  omega
theorem sf7 (k : Nat) : ∀ l, Small l → (envT (k + 3)).call 7 [.s (.str l)] [] = some (.s (.bool (refF l)), []) := fun l h => k7 (k := k + 2) h
theorem sf8 (k : Nat) : ∀ l, l ≠ [] → l.length < 4398046511104 → (envT (k + 3)).call 8 [.s (.str l)] [] = some (nA (readP l), []) := fun l h0 h => k8 (k := k + 1) h0 h
theorem sf9 (k : Nat) : ∀ x y, okN x → okN y → (envT (k + 3)).call 9 [nA x, nA y] [] = some (.s (.int .i64 (orderP x y)), []) := fun x y hx hy => k9 (k := k) hx hy
theorem sf10 (k : Nat) : ∀ x, okN x → (envT (k + 3)).call 10 [nA x] [] = some (.s (.str (writeP x)), []) := fun x h => k10 (k := k + 2) h
theorem sf11 (k : Nat) : ∀ x y, okN x → okN y → (envT (k + 3)).call 11 [nA x, nA y] [] = some (nA (addP x y), []) := fun x y hx hy => k11 (k := k) hx hy
theorem stepsT (k : Nat) : StepsKnow (envT (k + 3)) := ⟨sf7 k, sf8 k, sf9 k, sf10 k, sf11 k, rfl, rfl, rfl, rfl, rfl⟩
theorem readD_tens {s : List UInt8} (h : refF s = true) : Tens (readD s) := by
  rw [refF_formed] at h
  exact D_tens (formed_split h).1.all
theorem k4 {a b c : List UInt8} {m : Nat} (hm : m ≤ 1000) (ha : a.length < 1099511627776) (hb : b.length < 1099511627776) (hc : c.length < 1099511627776) : lvl 4 4 [.s (.str a), .s (.str b), .s (.str c), .s (.int .i64 (m : Int))] [] = some (.s (.ssl (cellRows ((refStepsL a b c m).map SV.str))), []) :=
  lvl_body Try.func4 (steps_abs (envT 3) rfl (stepsT 0) rfl _ a b c m hm (by simp [fuel, fuelA] <;> omega) ha hb hc readD_tens readD_tens readD_tens)
end Go.Proofs.Ytbfdokfelolmbaa.TensW
end

section
open Go.Proofs.Ytbfdokfelolmbaa.Vai Go.RowKit
namespace Go.Proofs.Ytbfdokfelolmbaa.Vai
open Go.RowKit
/-- A call from outside, and that what it has made lies in new blocks. -/
theorem CallSpec.calls2 {P : Program} {f : FuncId} {args : List AV} {r : AV} {outs : Outs} (h : CallSpec P (fun _ => none) f args [] r outs) {w : World} {vs : List Value} (hr : RepL (fun _ _ => none) (fun _ => none) args vs) :
    Calls P f ⟨vs⟩ w fun e w' => ∃ x M' V', e = .returned x ∧ Holds M' w' ∧ (∀ b o, b < w.heap.size → M' b o = none) ∧ RepA M' V' r x ∧ Below w.heap.size w w' := by
  refine (h (fun b => b < w.heap.size) (fun _ _ => none) (fun _ => none) w vs (fun g l e => by cases e) ⟨fun b o v e => (by cases e), fun k => ?_, fun k1 k2 b1 b2 _ _ _ v1 => (by cases v1), fun b hb => hb, fun s bi hv => (by cases hv)⟩ hr (fun _ _ => rfl) (fun s hs => by simp at hs)).mono ?_
  · show BlkRel _ (fun _ _ => none) _ w (canon [] k).1 (canon [] k).2
    unfold canon
    simp only [List.getElem?_nil]
    trivial
  · rintro e w' ⟨x, M', V', he, R', hs, hn, ho, rr, _⟩
    exact ⟨x, M', V', he, R'.mem, fun b o hb => hn b hb hb o, rr, ⟨ho.os, ho.tape, ho.output, ho.size, fun k hk => ho.block k hk⟩⟩
end Go.Proofs.Ytbfdokfelolmbaa.Vai
namespace Go.Proofs.Ytbfdokfelolmbaa.TensW
open Go.RowKit
set_option maxRecDepth 10000
set_option linter.unusedSimpArgs false
set_option linter.unusedVariables false

abbrev strV (l : List UInt8) : Value := .string ⟨⟨l⟩⟩
theorem rep1 {M : Mem} {V : Val} {l : List UInt8} : RepL M V [.s (.str l)] [strV l] := by
  refine ⟨rfl, fun i h1 h2 => ?_⟩
  match i, h1 with
  | 0, _ => exact .s _ _ (.str l)
theorem rep2 {M : Mem} {V : Val} {a b : List UInt8} : RepL M V [.s (.str a), .s (.str b)] [strV a, strV b] := by
  refine ⟨rfl, fun i h1 h2 => ?_⟩
  match i, h1 with
  | 0, _ => exact .s _ _ (.str a)
  | 1, _ => exact .s _ _ (.str b)
theorem rep4 {M : Mem} {V : Val} {a b c : List UInt8} {m : Int} : RepL M V [.s (.str a), .s (.str b), .s (.str c), .s (.int .i64 m)] [strV a, strV b, strV c, .int .i64 m] := by
  refine ⟨rfl, fun i h1 h2 => ?_⟩
  match i, h1 with
  | 0, _ => exact .s _ _ (.str a)
  | 1, _ => exact .s _ _ (.str b)
  | 2, _ => exact .s _ _ (.str c)
  | 3, _ => exact .s _ _ (.int _ _)

theorem formed_calls {l : List UInt8} (h : Small l) (w : World) : Calls Try.prog 12 #[strV l] w fun e w' => e = .returned (.bool (formedL l)) ∧ Below w.heap.size w w' := by
  refine ((lvl_sound 1 12 _ _ _ _ (k12 (k := 0) h)).calls2 (vs := [strV l]) rep1).mono ?_
  rintro e w' ⟨x, M', V', rfl, _, _, hr, hb⟩
  cases hr with
  | s _ _ h => cases h with
    | bool b => exact ⟨rfl, hb⟩
theorem known_calls_of (h : CallSpec Try.prog (fun _ => none) 6 [] [] (.s (.bool true)) []) (w : World) : Calls Try.prog 6 #[] w fun e w' => e = .returned (.bool true) ∧ Below w.heap.size w w' := by
  refine (h.calls2 (vs := []) ⟨rfl, fun i h => by simp at h⟩).mono ?_
  rintro e w' ⟨x, M', V', rfl, _, _, hr, hb⟩
  cases hr with
  | s _ _ h => cases h with
    | bool b => exact ⟨rfl, hb⟩
theorem tup2 {M : Mem} {V : Val} {a b : SV} {x : Value} (h : RepA M V (.tup [.s a, .s b]) x) : ∃ u v, x = .tuple #[u, v] ∧ RepS M a u ∧ RepS M b v := by
  cases h with
  | tup _ cs hl r =>
    match cs, hl with
    | [u, v], _ =>
      have h0 := r 0 (by simp) (by simp)
      have h1 := r 1 (by simp) (by simp)
      simp only [List.getElem_cons_zero, List.getElem_cons_succ] at h0 h1
      cases h0 with
      | s _ _ h0 => cases h1 with
        | s _ _ h1 => exact ⟨u, v, rfl, h0, h1⟩
theorem cmp_calls {a b : List UInt8} (ha : Small a) (hb : Small b) (hfa : formedL a = true) (hfb : formedL b = true) (w : World) : Calls Try.prog 16 #[strV a, strV b] w fun e w' => e = .returned (.tuple #[.int .i64 (cmpL a b), .int .i64 0]) ∧ Below w.heap.size w w' := by
  refine ((lvl_sound 2 16 _ _ _ _ (k16 (k := 0) ha hb hfa hfb)).calls2 (vs := [strV a, strV b]) rep2).mono ?_
  rintro e w' ⟨x, M', V', rfl, _, _, hr, hb⟩
  obtain ⟨u, v, rfl, h0, h1⟩ := tup2 hr
  cases h0; cases h1
  exact ⟨rfl, hb⟩
theorem add_calls {a b : List UInt8} (ha : a.length < 35184372088832) (hb : b.length < 35184372088832) (hfa : formedL a = true) (hfb : formedL b = true) (w : World) : Calls Try.prog 15 #[strV a, strV b] w fun e w' => e = .returned (.tuple #[strV (addL a b), .int .i64 0]) ∧ Below w.heap.size w w' := by
  refine ((lvl_sound 3 15 _ _ _ _ (k15 (k := 0) ha hb hfa hfb)).calls2 (vs := [strV a, strV b]) rep2).mono ?_
  rintro e w' ⟨x, M', V', rfl, _, _, hr, hb⟩
  obtain ⟨u, v, rfl, h0, h1⟩ := tup2 hr
  cases h0; cases h1
  exact ⟨rfl, hb⟩

/-- A slice of texts in blocks from n0 on. -/
def Texts (W : World) (n0 : Nat) (x : Value) (l : List (List UInt8)) : Prop :=
  ∃ a cap, x = .slice a l.length cap ∧ (l ≠ [] → ∃ b o, a = some ⟨b, o, none⟩ ∧ n0 ≤ b ∧ ∀ i (h : i < l.length), W.cell? ⟨b, o + i, none⟩ = some (strV l[i]))
theorem cells_flat {l : List SV} : (cellRows l).flatten = l := by
  induction l with
  | nil => rfl
  | cons a l ih => simp only [cellRows, List.map_cons, List.flatten_cons] at ih ⊢; rw [ih]; rfl
theorem steps_calls {a b c : List UInt8} {m : Nat} (hm : m ≤ 1000) (ha : a.length < 1099511627776) (hb : b.length < 1099511627776) (hc : c.length < 1099511627776) (w : World) :
    Calls Try.prog 4 #[strV a, strV b, strV c, .int .i64 (m : Int)] w fun e w' => ∃ x, e = .returned x ∧ Texts w' w.heap.size x (refStepsL a b c m) ∧ Below w.heap.size w w' := by
  refine ((lvl_sound 4 4 _ _ _ _ (k4 hm ha hb hc)).calls2 (vs := [strV a, strV b, strV c, .int .i64 (m : Int)]) rep4).mono ?_
  rintro e w' ⟨x, M', V', rfl, hH, hn, hr, hb⟩
  refine ⟨x, rfl, ?_, hb⟩
  generalize refStepsL a b c m = l at hr
  cases hr with
  | s _ _ h =>
    generalize hro : cellRows (l.map SV.str) = rows at h
    have hfl : rows.flatten = l.map SV.str := by rw [← hro, cells_flat]
    have hlen : rows.length = l.length := by rw [← hro, cellRows_length, List.length_map]
    cases h with
    | ssl0 a cap =>
      have : l = [] := by
        cases l with
        | nil => rfl
        | cons x r => simp [cellRows] at hro
      subst this
      exact ⟨a, cap, rfl, fun h => absurd rfl h⟩
    | ssl _ w1 b1 o cap f h0 hw hc1 hm1 r =>
      refine ⟨some ⟨b1, o, none⟩, cap, by rw [hlen], fun hne => ⟨b1, o, rfl, ?_, fun i hi => ?_⟩⟩
      · rcases Nat.lt_or_ge b1 w.heap.size with h | h
        · have hpos : 0 < rows.flatten.length := by
            rw [hfl, List.length_map]; exact List.length_pos_iff.2 hne
          have h1 := hm1 0 hpos
          rw [hn b1 _ h] at h1
          cases h1
        · exact h
      · have hi' : i < rows.flatten.length := by rw [hfl, List.length_map]; exact hi
        have h1 := (hH _ _ _ (hm1 i hi')).1
        have h2 := r i hi'
        have h3 : rows.flatten[i] = SV.str l[i] := by
          have : rows.flatten[i]? = some (SV.str l[i]) := by rw [hfl, List.getElem?_map, List.getElem?_eq_getElem hi]; rfl
          rw [List.getElem?_eq_getElem hi', Option.some.injEq] at this
          exact this
        rw [h3] at h2
        rw [h1]
        generalize f i = v at h2
        cases h2
        rfl
end Go.Proofs.Ytbfdokfelolmbaa.TensW
end
