import Derived.Test.YtbfdokfelolmbaaRc
/-
  The plain law: both reckon alike, and the steps come to an end.
-/
set_option linter.all false
section
open Go.Proofs.Ytbfdokfelolmbaa.Vai
namespace Go.Proofs.Ytbfdokfelolmbaa.TensW
set_option maxRecDepth 10000
set_option linter.unusedSimpArgs false

/-! The plain law: both reckon alike. -/

/-- The digit of a place. -/
def pl (l : List Nat) (i : Nat) : Nat := l.getD i 0
theorem pl_out {l : List Nat} {i : Nat} (h : l.length ≤ i) : pl l i = 0 := getD_out h
theorem pl_in {l : List Nat} {i : Nat} (h : i < l.length) : pl l i = l[i] := by
  unfold pl; rw [List.getD_eq_getElem?_getD, List.getElem?_eq_getElem h, Option.getD_some]
theorem pl_some {l : List Nat} {i x : Nat} (h : l[i]? = some x) : pl l i = x := by
  unfold pl; rw [List.getD_eq_getElem?_getD, h, Option.getD_some]

def strip (l : List Nat) : List Nat := l.take (topN l l.length)
theorem topN_spec {l : List Nat} : ∀ n, (∀ i, topN l n ≤ i → i < n → pl l i = 0) ∧ (topN l n = 0 ∨ pl l (topN l n - 1) ≠ 0)
  | 0 => ⟨fun i _ h => by omega, .inl rfl⟩
  | n + 1 => by
    obtain ⟨h1, h2⟩ := topN_spec (l := l) n
    unfold topN
    split
    · rename_i h0
      refine ⟨fun i hi hn => ?_, h2⟩
      rcases Nat.lt_or_ge i n with h | h
      · exact h1 i hi h
      · have : i = n := by omega
        subst this; exact h0
    · rename_i h0
      exact ⟨fun i hi hn => by omega, .inr h0⟩
def topF (l : List Nat) : Nat := topN l l.length
theorem topF_zero {l : List Nat} {i : Nat} (h : topF l ≤ i) : pl l i = 0 := by
  rcases Nat.lt_or_ge i l.length with h1 | h1
  · exact (topN_spec l.length).1 i h h1
  · exact pl_out h1
theorem topF_top {l : List Nat} : topF l = 0 ∨ pl l (topF l - 1) ≠ 0 := (topN_spec l.length).2
theorem topF_le {l : List Nat} : topF l ≤ l.length := topN_le
theorem topF_ext {l m : List Nat} (h : ∀ i, pl l i = pl m i) : topF l = topF m := by
  have h1 : ∀ {l m : List Nat}, (∀ i, pl l i = pl m i) → ¬ topF l < topF m := by
    intro l m h hlt
    rcases topF_top (l := m) with h0 | h0
    · omega
    · exact h0 (by rw [← h]; exact topF_zero (by omega))
  have a := h1 h
  have b := h1 (fun i => (h i).symm)
  omega
theorem strip_len {l : List Nat} : (strip l).length = topF l := by
  unfold strip; rw [List.length_take]; exact Nat.min_eq_left topF_le
theorem strip_pl {l : List Nat} {i : Nat} : pl (strip l) i = pl l i := by
  rcases Nat.lt_or_ge i (topF l) with h | h
  · rw [pl_in (by rw [strip_len]; exact h), pl_in (by have := topF_le (l := l); omega)]
    unfold strip
    rw [List.getElem_take]
  · rw [pl_out (by rw [strip_len]; exact h), topF_zero h]
theorem ext_pl {l m : List Nat} (hl : l.length = m.length) (h : ∀ i, pl l i = pl m i) : l = m := by
  apply List.ext_getElem hl
  intro i h1 h2
  rw [← pl_in h1, ← pl_in h2]; exact h i
theorem strip_ext {l m : List Nat} (h : ∀ i, pl l i = pl m i) : strip l = strip m := by
  apply ext_pl
  · rw [strip_len, strip_len]; exact topF_ext h
  · intro i; rw [strip_pl, strip_pl]; exact h i
theorem trimP_ext {b : Bool} {l m : List Nat} (h : ∀ i, pl l i = pl m i) : trimP b l = trimP b m := by
  have h1 := strip_ext h
  have h2 : topN l l.length = topN m m.length := topF_ext h
  unfold trimP
  unfold strip at h1
  rw [h1, h2]

/-! Digits of a text. -/
def D (d : List UInt8) : List Nat := d.reverse.map dg
def Num0 (d : List UInt8) : Prop := d = [48] ∨ formedT d = true
theorem D_len {d : List UInt8} : (D d).length = d.length := by simp [D]
theorem dig_lt {c : UInt8} (h : isDig c = true) : dg c < 10 ∧ c.toNat = 48 + dg c := by
  unfold isDig at h
  simp only [Bool.and_eq_true, decide_eq_true_eq] at h
  unfold dg
  have h1 : (48 : UInt8).toNat = 48 := rfl
  have h2 := c.toNat_lt
  rw [UInt8.toNat_sub, h1]; omega
theorem ch_dg {c : UInt8} (h : isDig c = true) : ch (dg c) = c := by
  obtain ⟨h1, h2⟩ := dig_lt h
  apply UInt8.toNat_inj.1
  unfold ch
  rw [UInt8.toNat_add, UInt8.toNat_ofNat']
  have h3 : (48 : UInt8).toNat = 48 := rfl
  rw [h3]; omega
theorem ch_nat {x : Nat} (h : x < 200) : (ch x).toNat = 48 + x := by
  unfold ch
  rw [UInt8.toNat_add, UInt8.toNat_ofNat']
  have h3 : (48 : UInt8).toNat = 48 := rfl
  rw [h3]; omega
theorem dg_ch {x : Nat} (h : x < 10) : dg (ch x) = x := by
  unfold dg
  rw [UInt8.toNat_sub, ch_nat (by omega)]
  have h1 : (48 : UInt8).toNat = 48 := rfl
  rw [h1]; omega
theorem isDig_ch {x : Nat} (h : x < 10) : isDig (ch x) = true := by
  unfold isDig; rw [ch_nat (by omega)]; simp; omega
theorem D_tens {d : List UInt8} (h : d.all isDig = true) : Tens (D d) := by
  intro x hx
  unfold D at hx
  rw [List.mem_map] at hx
  obtain ⟨c, hc, rfl⟩ := hx
  exact (dig_lt (List.all_eq_true.1 h c (by simpa using hc))).1
theorem Num0.all {d : List UInt8} (h : Num0 d) : d.all isDig = true := by
  rcases h with rfl | h
  · rfl
  · cases d with
    | nil => simp [formedT] at h
    | cons c r => simp only [formedT, Bool.and_eq_true] at h; exact h.2
theorem Num0.ne {d : List UInt8} (h : Num0 d) : d ≠ [] := by
  rintro rfl
  rcases h with h | h
  · cases h
  · simp [formedT] at h

/-- The digits without noughts at the top are all, but for nought. -/
theorem strip_D {d : List UInt8} (h : Num0 d) : strip (D d) = if d = [48] then [] else D d := by
  split
  · rename_i h0; subst h0; rfl
  · rename_i h0
    rcases h with h | h
    · exact absurd h h0
    · cases d with
      | nil => simp [formedT] at h
      | cons c r =>
        have hall := (Num0.inr h : Num0 (c :: r)).all
        simp only [formedT, Bool.and_eq_true, decide_eq_true_eq] at h
        have hc : isDig c = true := List.all_eq_true.1 hall c (by simp)
        have hp : pl (D (c :: r)) r.length = dg c := by
          apply pl_some
          unfold D
          simp
        have hnz : dg c ≠ 0 := by have := dig_lt hc; omega
        have htop : topF (D (c :: r)) = (c :: r).length := by
          have h1 := topF_le (l := D (c :: r))
          rw [D_len] at h1
          rcases Nat.lt_or_ge r.length (topF (D (c :: r))) with h2 | h2
          · simp only [List.length_cons] at *; omega
          · exact absurd (topF_zero h2) (by rw [hp]; exact hnz)
        unfold strip
        unfold topF at htop
        rw [htop, List.take_of_length_le (by rw [D_len]; exact Nat.le_refl _)]
where Num0.inr {d : List UInt8} (h : formedT d = true) : Num0 d := .inr h

theorem topF_D {d : List UInt8} (h : Num0 d) : decide (0 < topF (D d)) = !(d == [48]) := by
  rw [← strip_len, strip_D h]
  by_cases h0 : d = [48]
  · subst h0; rfl
  · have hl := List.length_pos_iff.2 h.ne
    rw [if_neg h0, D_len]
    have : (d == [48]) = false := by simpa using h0
    rw [this]; simpa using hl

theorem formedL_bare {s : List UInt8} : formedL s = (s == [48] || formedT (bare s)) := rfl
theorem bare_other {c : UInt8} {r : List UInt8} (h : c ≠ 45) : bare (c :: r) = c :: r := by
  unfold bare
  split
  · rename_i h2; rw [List.cons.injEq] at h2; exact absurd h2.1 h
  · rfl
theorem bare_num {d : List UInt8} (h : Num0 d) : bare d = d := by
  have hall := h.all
  cases d with
  | nil => rfl
  | cons c r =>
    have hc : isDig c = true := List.all_eq_true.1 hall c (by simp)
    exact bare_other (by rintro rfl; simp [isDig] at hc)
/-- A number's text, from sign and digits. -/
theorem neg_dig {d : List UInt8} (h : Num0 d) : negL d = false ∧ digL d = d := by
  have hall := h.all
  cases d with
  | nil => exact absurd rfl h.ne
  | cons c r =>
    have hc : isDig c = true := List.all_eq_true.1 hall c (by simp)
    have : c ≠ 45 := by rintro rfl; simp [isDig] at hc
    exact ⟨by simp [negL, this], by simp [digL, this]⟩
theorem neg_signed {p : Bool} {d : List UInt8} (h : Num0 d) : negL (signedL p d) = (p && !(d == [48])) ∧ digL (signedL p d) = d := by
  unfold signedL
  cases hq : (p && !(d == [48])) with
  | true => exact ⟨by simp [negL], by simp [digL]⟩
  | false => simpa using neg_dig h
theorem read_signed {p : Bool} {d : List UInt8} (h : Num0 d) : readP (signedL p d) = trimP p (D d) := by
  obtain ⟨h1, h2⟩ := neg_signed (p := p) h
  have h3 := topF_D h
  have hd : ∀ s, digL s = d → readD s = D d := by intro s hs; unfold readD D; rw [hs]
  unfold readP
  rw [hd _ h2, h1]
  unfold trimP
  unfold topF at h3
  rw [h3]
  cases p <;> simp
theorem formed_signed {p : Bool} {d : List UInt8} (h : Num0 d) : formedL (signedL p d) = true := by
  have hb : ∀ {d : List UInt8}, Num0 d → d ≠ [48] → formedT d = true := by
    intro d h h0
    rcases h with h | h
    · exact absurd h h0
    · exact h
  unfold signedL
  cases hq : (p && !(d == [48])) with
  | true =>
    simp only [Bool.and_eq_true, Bool.not_eq_true', beq_eq_false_iff_ne, ne_eq] at hq
    have e : bare (45 :: d) = d := rfl
    simp only [if_true, formedL_bare, e, hb h hq.2, Bool.or_true]
  | false =>
    simp only [Bool.false_eq_true, if_false]
    rw [formedL_bare, bare_num h]
    by_cases h0 : d = [48]
    · subst h0; rfl
    · rw [hb h h0, Bool.or_true]
/-- And back: a number's text is made so. -/
theorem formed_split {x : List UInt8} (h : formedL x = true) : Num0 (digL x) ∧ x = signedL (negL x) (digL x) := by
  rw [formedL_bare] at h
  by_cases h0 : x = [48]
  · subst h0; exact ⟨.inl rfl, rfl⟩
  · have hx : (x == [48]) = false := by simpa using h0
    rw [hx, Bool.false_or] at h
    cases x with
    | nil => simp [bare, formedT] at h
    | cons c r =>
      by_cases hc : c = 45
      · subst hc
        have e : bare (45 :: r) = r := rfl
        rw [e] at h
        have hn : r ≠ [48] := by rintro rfl; simp [formedT] at h
        have hr : (r == [48]) = false := by simpa using hn
        refine ⟨.inr (by simpa [digL] using h), ?_⟩
        simp [digL, negL, signedL, hr]
      · rw [bare_other hc] at h
        refine ⟨.inr (by simpa [digL, hc] using h), ?_⟩
        simp [digL, negL, signedL, hc]
theorem write_trim {p : Bool} {d : List UInt8} (h : Num0 d) : writeP (trimP p (D d)) = signedL p d := by
  have hs : (trimP p (D d)).2 = strip (D d) := rfl
  have hp : (trimP p (D d)).1 = (p && !(d == [48])) := by rw [← topF_D h]; rfl
  unfold writeP writeL
  rw [hs, hp, strip_D h]
  by_cases h0 : d = [48]
  · subst h0; simp [signedL]
  · have hd : (d == [48]) = false := by simpa using h0
    have hne : D d ≠ [] := by
      intro h2
      have := D_len (d := d)
      rw [h2] at this
      exact h.ne (List.length_eq_zero_iff.1 this.symm)
    have hback : (D d).reverse.map ch = d := by
      unfold D
      rw [← List.map_reverse, List.reverse_reverse, List.map_map]
      have : ∀ c ∈ d, (ch ∘ dg) c = id c := fun c hc => ch_dg (List.all_eq_true.1 h.all c hc)
      rw [List.map_congr_left this, List.map_id]
    rw [if_neg h0, if_neg hne, hback, hd]
    unfold signedL signW
    rw [hd]
    cases p <;> simp

/-- Both ask alike whether a text is a number. -/
theorem refF_formed (s : List UInt8) : refF s = formedL s := by
  have hdig : ∀ c, digB c = isDig c := by
    intro c
    unfold digB isDig
    have h1 : decide (c < 48) = decide (c.toNat < 48) := by
      apply Bool.eq_iff_iff.2; simp only [decide_eq_true_eq, UInt8.lt_iff_toNat_lt]; exact Iff.rfl
    have h2 : decide (57 < c) = decide (57 < c.toNat) := by
      apply Bool.eq_iff_iff.2; simp only [decide_eq_true_eq, UInt8.lt_iff_toNat_lt]; exact Iff.rfl
    rw [h1, h2]
    apply Bool.eq_iff_iff.2
    simp
  have hfun : digB = isDig := funext hdig
  rw [formedL_bare]
  unfold refF
  rw [hfun]
  by_cases h0 : s = [48]
  · subst h0; rfl
  · have hs : (s == [48]) = false := by simpa using h0
    rw [hs]
    cases bare s with
    | nil => rfl
    | cons c r =>
      simp only [formedT, Bool.or_false, Bool.false_or]
      have : decide (c ≠ 48) = decide (c.toNat ≠ 48) := by
        apply Bool.eq_iff_iff.2
        simp only [decide_eq_true_eq, ne_eq]
        rw [← UInt8.toNat_inj]
        exact Iff.rfl
      rw [this, Bool.and_comm]
end Go.Proofs.Ytbfdokfelolmbaa.TensW
end

section
open Go.Proofs.Ytbfdokfelolmbaa.Vai
namespace Go.Proofs.Ytbfdokfelolmbaa.TensW
set_option maxRecDepth 10000
set_option linter.unusedSimpArgs false

/-! The sum, place by place. -/
def carryS (f g : Nat → Nat) : Nat → Nat
  | 0 => 0
  | i + 1 => (f i + g i + carryS f g i) / 10
def dS (f g : Nat → Nat) (i : Nat) : Nat := (f i + g i + carryS f g i) % 10
theorem carryS_comm {f g : Nat → Nat} : ∀ i, carryS f g i = carryS g f i
  | 0 => rfl
  | i + 1 => by simp only [carryS, carryS_comm i]; congr 1; omega
theorem dS_comm {f g : Nat → Nat} {i : Nat} : dS f g i = dS g f i := by
  unfold dS; rw [carryS_comm]; congr 1; omega
theorem carryS_le {f g : Nat → Nat} (hf : ∀ i, f i < 10) (hg : ∀ i, g i < 10) : ∀ i, carryS f g i ≤ 1
  | 0 => by simp [carryS]
  | i + 1 => by
    have := carryS_le hf hg i
    have h1 := hf i
    have h2 := hg i
    simp only [carryS]; omega

theorem sumRun_carryS {a b : List Nat} : ∀ i, (sumRun a b i).2 = carryS (pl a) (pl b) i
  | 0 => rfl
  | i + 1 => by simp only [sumRun, carryS, sumRun_carryS i]; rfl
theorem sumRun_pl {a b : List Nat} : ∀ i j, j < i → pl (sumRun a b i).1 j = dS (pl a) (pl b) j
  | 0, j, h => by omega
  | i + 1, j, h => by
    have hl := sumRun_length (a := a) (b := b) (i := i)
    have e : (sumRun a b (i + 1)).1 = (sumRun a b i).1 ++ [(a.getD i 0 + b.getD i 0 + (sumRun a b i).2) % 10] := rfl
    rw [e]
    rcases Nat.lt_or_ge j i with h2 | h2
    · rw [← sumRun_pl i j h2]
      unfold pl
      simp only [List.getD_eq_getElem?_getD]
      rw [List.getElem?_append_left (by omega)]
    · have : j = i := by omega
      subst this
      apply pl_some
      rw [List.getElem?_append_right (by omega), hl, Nat.sub_self]
      simp only [List.getElem?_cons_zero, dS, sumRun_carryS]; rfl
theorem pl_lt {l : List Nat} (h : Tens l) (i : Nat) : pl l i < 10 := h.get i
theorem carry_far {a b : List Nat} (ha : Tens a) (hb : Tens b) : ∀ i, max a.length b.length < i → carryS (pl a) (pl b) i = 0
  | 0, h => by omega
  | i + 1, h => by
    have h1 : pl a i = 0 := pl_out (by omega)
    have h2 : pl b i = 0 := pl_out (by omega)
    have h3 := carryS_le (pl_lt ha) (pl_lt hb) i
    simp only [carryS, h1, h2]; omega
theorem carry_stay {a b : List Nat} {m : Nat} (hm : m = max a.length b.length) (h0 : carryS (pl a) (pl b) m = 0) : ∀ i, carryS (pl a) (pl b) (m + i) = 0
  | 0 => h0
  | i + 1 => by
    have h1 : pl a (m + i) = 0 := pl_out (by omega)
    have h2 : pl b (m + i) = 0 := pl_out (by omega)
    show carryS _ _ (m + i + 1) = 0
    simp only [carryS, h1, h2, carry_stay hm h0 i]
theorem dS_far {a b : List Nat} (ha : Tens a) (hb : Tens b) {i : Nat} (h : max a.length b.length < i) : dS (pl a) (pl b) i = 0 := by
  have h1 : pl a i = 0 := pl_out (by omega)
  have h2 : pl b i = 0 := pl_out (by omega)
  unfold dS; rw [h1, h2, carry_far ha hb i h]
theorem sumOut_pl {a b : List Nat} (ha : Tens a) (hb : Tens b) (i : Nat) : pl (sumOut a b) i = dS (pl a) (pl b) i := by
  obtain ⟨m, hm⟩ : ∃ m, m = max a.length b.length := ⟨_, rfl⟩
  unfold sumOut
  rw [← hm]
  split
  · rename_i h0
    rw [sumRun_carryS] at h0
    rcases Nat.lt_or_ge i m with h | h
    · exact sumRun_pl m i h
    · rw [pl_out (by rw [sumRun_length]; exact h)]
      have h1 : pl a i = 0 := pl_out (by omega)
      have h2 : pl b i = 0 := pl_out (by omega)
      have h3 := carry_stay hm h0 (i - m)
      rw [show m + (i - m) = i by omega] at h3
      unfold dS; rw [h1, h2, h3]
  · rcases Nat.lt_or_ge i (m + 1) with h | h
    · exact sumRun_pl (m + 1) i h
    · rw [pl_out (by rw [sumRun_length]; exact h), dS_far ha hb (by omega)]

/-! The program's sum. -/
theorem rev_get {α : Type} {l : List α} {i : Nat} (h : i < l.length) : l.reverse[i]? = l[l.length - 1 - i]? := List.getElem?_reverse h

/-- The byte of a place. -/
def pb (l : List UInt8) (i : Nat) : Option UInt8 := if i < l.length then l[l.length - 1 - i]? else none
theorem pb_D {l : List UInt8} {i : Nat} {c : UInt8} (h : pb l i = some c) : pl (D l) i = dg c := by
  unfold pb at h
  split at h
  · rename_i hi
    apply pl_some
    unfold D
    rw [List.getElem?_map, rev_get hi, h]; rfl
  · cases h
theorem pb_set {l : List UInt8} {i j : Nat} {y : UInt8} (hi : i < l.length) : pb (l.set (l.length - 1 - i) y) j = if j = i then some y else pb l j := by
  unfold pb
  rw [List.length_set]
  split
  · rename_i hj
    split
    · rename_i h; subst h
      rw [List.getElem?_set_self (by omega)]
    · rename_i h
      rw [List.getElem?_set_ne (by omega)]
  · rename_i hj
    split
    · rename_i h; subst h; exact absurd hi hj
    · rfl
theorem pb_get {l : List UInt8} {i : Nat} (h : i < l.length) : pb l i = some (l[l.length - 1 - i]'(by omega)) := by
  unfold pb; rw [if_pos h, List.getElem?_eq_getElem]
theorem pb_dig {l : List UInt8} (hl : l.all isDig = true) {i : Nat} (h : i < l.length) : ∃ c, pb l i = some c ∧ isDig c = true ∧ pl (D l) i = dg c ∧ c.toNat = 48 + pl (D l) i ∧ pl (D l) i < 10 := by
  have e := pb_get h
  have hd := List.all_eq_true.1 hl _ (List.getElem_mem (show l.length - 1 - i < l.length by omega))
  have h2 := pb_D e
  have h3 := dig_lt hd
  exact ⟨_, e, hd, h2, by rw [h2]; exact h3.2, by rw [h2]; exact h3.1⟩

theorem plusRun_is {A B : List UInt8} (hA : A.all isDig = true) (hB : B.all isDig = true) (hAB : B.length ≤ A.length) : ∀ i, i ≤ A.length →
    (plusRun B A i).2.toNat = carryS (pl (D A)) (pl (D B)) i ∧ (∀ j, j < i → pb (plusRun B A i).1 j = some (ch (dS (pl (D A)) (pl (D B)) j))) ∧ (∀ j, i ≤ j → pb (plusRun B A i).1 j = pb (48 :: A) j)
  | 0, _ => ⟨rfl, fun j h => by omega, fun j _ => rfl⟩
  | i + 1, hi => by
    obtain ⟨h1, h2, h3⟩ := plusRun_is hA hB hAB i (by omega)
    have hc := carryS_le (pl_lt (D_tens hA)) (pl_lt (D_tens hB)) i
    have hlen := plusRun_length (b := B) (a := A) (i := i)
    have hrun : plusRun B A (i + 1) = plusStep B (i + 1) (plusRun B A i) := rfl
    generalize plusRun B A i = p at *
    obtain ⟨l, c⟩ := p
    simp only at h1 h2 h3 hlen
    obtain ⟨x, hx, hxd, hxp, hxn, hx10⟩ := pb_dig hA (i := i) (by omega)
    have hxl : pb l i = some x := by
      rw [h3 i (Nat.le_refl _)]
      unfold pb at hx ⊢
      rw [if_pos (by omega)] at hx
      rw [if_pos (by simp; omega), ← hx]
      simp only [List.length_cons]
      rw [show A.length + 1 - 1 - i = (A.length - 1 - i) + 1 by omega, List.getElem?_cons_succ]
    have hxl2 : l[l.length - (i + 1)]? = some x := by
      unfold pb at hxl
      rw [if_pos (by omega)] at hxl
      rw [← hxl]; congr 1; omega
    obtain ⟨y, hy⟩ : ∃ y, y = (if i + 1 ≤ B.length then x + c + (B.getD (B.length - (i + 1)) 0 - 48) else x + c) := ⟨_, rfl⟩
    have hstep := plusStep_of (b := B) (c := c) rfl hxl2 hy
    have hg10 := pl_lt (D_tens hB) i
    have hyn : y.toNat = 48 + (pl (D A) i + pl (D B) i + carryS (pl (D A)) (pl (D B)) i) := by
      rw [hy]
      split
      · rename_i hb
        obtain ⟨z, hz, hzd, hzp, hzn, hz10⟩ := pb_dig hB (i := i) (by omega)
        have hz2 : B.getD (B.length - (i + 1)) 0 = z := by
          unfold pb at hz
          rw [if_pos (by omega)] at hz
          rw [List.getD_eq_getElem?_getD, show B.length - (i + 1) = B.length - 1 - i by omega, hz]; rfl
        rw [hz2]
        have hz3 : (z - 48).toNat = pl (D B) i := by rw [hzp]; rfl
        rw [UInt8.toNat_add, UInt8.toNat_add, hz3, hxn, h1]; omega
      · have hz : pl (D B) i = 0 := pl_out (by rw [D_len]; omega)
        rw [UInt8.toNat_add, hxn, h1, hz]; omega
    have hlt : (57 < y) ↔ 10 ≤ pl (D A) i + pl (D B) i + carryS (pl (D A)) (pl (D B)) i := by
      rw [UInt8.lt_iff_toNat_lt, hyn]
      have : (57 : UInt8).toNat = 57 := rfl
      rw [this]; omega
    have hdig : (if 57 < y then y - 10 else y) = ch (dS (pl (D A)) (pl (D B)) i) := by
      apply UInt8.toNat_inj.1
      have hd10 : dS (pl (D A)) (pl (D B)) i < 10 := by unfold dS; omega
      rw [ch_nat (by omega)]
      split
      · rename_i h
        have := hlt.1 h
        rw [UInt8.toNat_sub, hyn]
        have e : (10 : UInt8).toNat = 10 := rfl
        rw [e]; unfold dS; omega
      · rename_i h
        have : ¬ _ := fun h2 => h (hlt.2 h2)
        rw [hyn]; unfold dS; omega
    have hcar : ((if 57 < y then (1 : UInt8) else 0)).toNat = carryS (pl (D A)) (pl (D B)) (i + 1) := by
      simp only [carryS]
      split
      · rename_i h
        have := hlt.1 h
        have e : (1 : UInt8).toNat = 1 := rfl
        rw [e]; omega
      · rename_i h
        have : ¬ _ := fun h2 => h (hlt.2 h2)
        have e : (0 : UInt8).toNat = 0 := rfl
        rw [e]; omega
    rw [hrun, hstep]
    refine ⟨hcar, fun j hj => ?_, fun j hj => ?_⟩
    · simp only
      rw [show l.length - (i + 1) = l.length - 1 - i by omega, pb_set (by omega)]
      split
      · rename_i h; subst h; rw [hdig]
      · exact h2 j (by omega)
    · simp only
      rw [show l.length - (i + 1) = l.length - 1 - i by omega, pb_set (by omega), if_neg (by omega)]
      exact h3 j (by omega)

theorem plusEnd_is {A B : List UInt8} (hA : A.all isDig = true) (hB : B.all isDig = true) (hAB : B.length ≤ A.length) {j : Nat} (hj : j < A.length + 1) : pb (plusEnd (plusRun B A A.length)) j = some (ch (dS (pl (D A)) (pl (D B)) j)) := by
  obtain ⟨h1, h2, h3⟩ := plusRun_is hA hB hAB A.length (Nat.le_refl _)
  have hlen := plusRun_length (b := B) (a := A) (i := A.length)
  have hc := carryS_le (pl_lt (D_tens hA)) (pl_lt (D_tens hB)) A.length
  generalize plusRun B A A.length = p at *
  obtain ⟨l, c⟩ := p
  simp only at h1 h2 h3 hlen
  have h0 : l[0]? = some 48 := by
    have := h3 A.length (Nat.le_refl _)
    unfold pb at this
    rw [if_pos (by omega), if_pos (by simp)] at this
    rw [show l.length - 1 - A.length = 0 by omega] at this
    rw [this]; simp
  unfold plusEnd
  simp only [List.getD_eq_getElem?_getD, h0, Option.getD_some]
  have e := pb_set (l := l) (i := A.length) (j := j) (y := 48 + c) (by omega)
  rw [show l.length - 1 - A.length = 0 by omega] at e
  rw [e]
  split
  · rename_i h
    subst h
    congr 1
    apply UInt8.toNat_inj.1
    have hd : dS (pl (D A)) (pl (D B)) A.length = carryS (pl (D A)) (pl (D B)) A.length := by
      have e1 : pl (D A) A.length = 0 := pl_out (by rw [D_len]; exact Nat.le_refl _)
      have e2 : pl (D B) A.length = 0 := pl_out (by rw [D_len]; exact hAB)
      unfold dS; rw [e1, e2]; omega
    rw [hd, ch_nat (by omega), UInt8.toNat_add, h1]
    have e3 : (48 : UInt8).toNat = 48 := rfl
    rw [e3]; omega
  · exact h2 j (by omega)

/-! Noughts ahead. -/
theorem D_cons {c : UInt8} {r : List UInt8} : D (c :: r) = D r ++ [dg c] := by simp [D]
theorem pl_zero_end {l : List Nat} {i : Nat} : pl (l ++ [0]) i = pl l i := by
  rcases Nat.lt_or_ge i l.length with h | h
  · unfold pl; rw [List.getD_eq_getElem?_getD, List.getD_eq_getElem?_getD, List.getElem?_append_left h]
  · rw [pl_out h]
    rcases Nat.lt_or_ge i (l.length + 1) with h2 | h2
    · have : i = l.length := by omega
      subst this
      apply pl_some; simp
    · exact pl_out (by simpa using h2)
theorem textL_pl : ∀ {l : List UInt8} {i : Nat}, pl (D (textL l)) i = pl (D l) i := by
  intro l
  fun_induction textL l with
  | case1 b r ih =>
    intro i
    rw [ih, D_cons (c := 48)]
    have : dg 48 = 0 := rfl
    rw [this, pl_zero_end]
  | case2 l h => intro i; rfl
theorem textL_num : ∀ {l : List UInt8}, l ≠ [] → l.all isDig = true → Num0 (textL l) := by
  intro l
  fun_induction textL l with
  | case1 b r ih =>
    intro _ h2
    exact ih (by simp) (by simp only [List.all_cons, Bool.and_eq_true] at h2 ⊢; exact h2.2)
  | case2 l h =>
    intro h1 h2
    cases l with
    | nil => exact absurd rfl h1
    | cons c r =>
      by_cases hc : c = 48
      · subst hc
        cases r with
        | nil => exact .inl rfl
        | cons b r => exact absurd rfl (h b r)
      · refine .inr ?_
        simp only [formedT, h2, Bool.and_true, decide_eq_true_eq]
        intro h3; exact hc (UInt8.toNat_inj.1 h3)
theorem all_pb {l : List UInt8} (h : ∀ j, j < l.length → ∃ x, x < 10 ∧ pb l j = some (ch x)) : l.all isDig = true := by
  rw [List.all_eq_true]
  intro c hc
  obtain ⟨i, hi, rfl⟩ := List.getElem_of_mem hc
  obtain ⟨x, hx, hp⟩ := h (l.length - 1 - i) (by omega)
  unfold pb at hp
  rw [if_pos (by omega), show l.length - 1 - (l.length - 1 - i) = i by omega, List.getElem?_eq_getElem hi, Option.some.injEq] at hp
  rw [hp]; exact isDig_ch hx

theorem plus0_num {A B : List UInt8} (hA : A.all isDig = true) (hB : B.all isDig = true) (hAB : B.length ≤ A.length) : Num0 (plus0 A B) ∧ ∀ i, pl (D (plus0 A B)) i = dS (pl (D A)) (pl (D B)) i := by
  have hlen : (plusEnd (plusRun B A A.length)).length = A.length + 1 := by
    unfold plusEnd; rw [List.length_set, plusRun_length]
  have hpl : ∀ i, pl (D (plusEnd (plusRun B A A.length))) i = dS (pl (D A)) (pl (D B)) i := by
    intro i
    rcases Nat.lt_or_ge i (A.length + 1) with h | h
    · rw [pb_D (plusEnd_is hA hB hAB h), dg_ch (by unfold dS; omega)]
    · rw [pl_out (by rw [D_len, hlen]; exact h), dS_far (D_tens hA) (D_tens hB) (by rw [D_len, D_len]; omega)]
  refine ⟨textL_num (by intro h; rw [h] at hlen; simp at hlen) (all_pb fun j hj => ⟨_, ?_, plusEnd_is hA hB hAB (by omega)⟩), fun i => ?_⟩
  · unfold dS; omega
  · unfold plus0; rw [textL_pl, hpl]
theorem plusL_num {a b : List UInt8} (ha : a.all isDig = true) (hb : b.all isDig = true) : Num0 (plusL a b) ∧ ∀ i, pl (D (plusL a b)) i = dS (pl (D a)) (pl (D b)) i := by
  unfold plusL
  split
  · rename_i h
    obtain ⟨h1, h2⟩ := plus0_num hb ha (by omega)
    exact ⟨h1, fun i => by rw [h2, dS_comm]⟩
  · rename_i h
    exact plus0_num ha hb (by omega)
end Go.Proofs.Ytbfdokfelolmbaa.TensW
end

section
open Go.Proofs.Ytbfdokfelolmbaa.Vai
namespace Go.Proofs.Ytbfdokfelolmbaa.TensW
set_option maxRecDepth 10000
set_option linter.unusedSimpArgs false

/-! The rest, place by place. -/
def lentS (f g : Nat → Nat) : Nat → Nat
  | 0 => 0
  | i + 1 => if f i < g i + lentS f g i then 1 else 0
def dR (f g : Nat → Nat) (i : Nat) : Nat := if f i < g i + lentS f g i then f i + 10 - (g i + lentS f g i) else f i - (g i + lentS f g i)
theorem lentS_le {f g : Nat → Nat} : ∀ i, lentS f g i ≤ 1
  | 0 => by simp [lentS]
  | i + 1 => by simp only [lentS]; split <;> omega
theorem restRun_lentS {a b : List Nat} : ∀ i, (restRun a b i).2 = lentS (pl a) (pl b) i
  | 0 => rfl
  | i + 1 => by
    simp only [restRun, restStep, lentS, restRun_lentS i, pl]
    split
    · rename_i h; simp only [h, if_true]
    · rename_i h; simp only [h, if_false]
theorem restRun_step {a b : List Nat} {i : Nat} : (restRun a b (i + 1)).1 = (restRun a b i).1 ++ [dR (pl a) (pl b) i] := by
  simp only [restRun, restStep, dR, restRun_lentS i, pl]
  split
  · rename_i h; simp only [h, if_true]
  · rename_i h; simp only [h, if_false]
theorem restRun_pl {a b : List Nat} : ∀ i j, j < i → pl (restRun a b i).1 j = dR (pl a) (pl b) j
  | 0, j, h => by omega
  | i + 1, j, h => by
    have hl := restRun_length (a := a) (b := b) (i := i)
    rw [restRun_step]
    rcases Nat.lt_or_ge j i with h2 | h2
    · rw [← restRun_pl i j h2]
      unfold pl
      simp only [List.getD_eq_getElem?_getD]
      rw [List.getElem?_append_left (by omega)]
    · have : j = i := by omega
      subst this
      apply pl_some
      rw [List.getElem?_append_right (by omega), hl, Nat.sub_self]
      simp only [List.getElem?_cons_zero]
theorem restOut_pl {a b : List Nat} (i : Nat) : pl (restOut a b) i = if i < a.length then dR (pl a) (pl b) i else 0 := by
  split
  · rename_i h; exact restRun_pl _ i h
  · rename_i h; exact pl_out (by rw [restOut_len]; omega)

theorem dR_lt {f g : Nat → Nat} (hf : ∀ i, f i < 10) (hg : ∀ i, g i < 10) (i : Nat) : dR f g i < 10 := by
  have h1 := hf i
  have h2 := hg i
  have h3 := lentS_le (f := f) (g := g) i
  unfold dR; split <;> omega

theorem minusRun_is {A B : List UInt8} (hA : A.all isDig = true) (hB : B.all isDig = true) : ∀ i, i ≤ A.length →
    (minusRun B A i).2.toNat = lentS (pl (D A)) (pl (D B)) i ∧ (∀ j, j < i → pb (minusRun B A i).1 j = some (ch (dR (pl (D A)) (pl (D B)) j))) ∧ (∀ j, i ≤ j → pb (minusRun B A i).1 j = pb A j)
  | 0, _ => ⟨rfl, fun j h => by omega, fun j _ => rfl⟩
  | i + 1, hi => by
    obtain ⟨h1, h2, h3⟩ := minusRun_is hA hB i (by omega)
    have hc := lentS_le (f := pl (D A)) (g := pl (D B)) i
    have hlen := minusRun_length (b := B) (a := A) (i := i)
    have hrun : minusRun B A (i + 1) = minusStep B (i + 1) (minusRun B A i) := rfl
    generalize minusRun B A i = p at *
    obtain ⟨l, c⟩ := p
    simp only at h1 h2 h3 hlen
    obtain ⟨x, hx, hxd, hxp, hxn, hx10⟩ := pb_dig hA (i := i) (by omega)
    have hxl : pb l i = some x := by rw [h3 i (Nat.le_refl _), hx]
    have hxl2 : l[l.length - (i + 1)]? = some x := by
      unfold pb at hxl
      rw [if_pos (by omega)] at hxl
      rw [← hxl]; congr 1; omega
    obtain ⟨t, ht⟩ : ∃ t, t = (if i + 1 ≤ B.length then c + (B.getD (B.length - (i + 1)) 0 - 48) else c) := ⟨_, rfl⟩
    have hstep := minusStep_of (b := B) (c := c) rfl ht hxl2
    have hg10 := pl_lt (D_tens hB) i
    have htn : t.toNat = pl (D B) i + lentS (pl (D A)) (pl (D B)) i := by
      rw [ht]
      split
      · rename_i hb
        obtain ⟨z, hz, hzd, hzp, hzn, hz10⟩ := pb_dig hB (i := i) (by omega)
        have hz2 : B.getD (B.length - (i + 1)) 0 = z := by
          unfold pb at hz
          rw [if_pos (by omega)] at hz
          rw [List.getD_eq_getElem?_getD, show B.length - (i + 1) = B.length - 1 - i by omega, hz]; rfl
        rw [hz2]
        have hz3 : (z - 48).toNat = pl (D B) i := by rw [hzp]; rfl
        rw [UInt8.toNat_add, hz3, h1]; omega
      · have hz : pl (D B) i = 0 := pl_out (by rw [D_len]; omega)
        rw [h1, hz]; omega
    have hlt : (x < 48 + t) ↔ pl (D A) i < pl (D B) i + lentS (pl (D A)) (pl (D B)) i := by
      rw [UInt8.lt_iff_toNat_lt, UInt8.toNat_add, hxn, htn]
      have : (48 : UInt8).toNat = 48 := rfl
      rw [this]; omega
    have hdig : (if x < 48 + t then x + 10 else x) - t = ch (dR (pl (D A)) (pl (D B)) i) := by
      apply UInt8.toNat_inj.1
      have hd10 := dR_lt (pl_lt (D_tens hA)) (pl_lt (D_tens hB)) i
      rw [ch_nat (by omega)]
      unfold dR
      split
      · rename_i h
        have h' := hlt.1 h
        rw [if_pos h', UInt8.toNat_sub, UInt8.toNat_add, hxn, htn]
        have e : (10 : UInt8).toNat = 10 := rfl
        rw [e]; omega
      · rename_i h
        have h' : ¬ _ := fun h2 => h (hlt.2 h2)
        rw [if_neg h', UInt8.toNat_sub, hxn, htn]; omega
    have hcar : ((if x < 48 + t then (1 : UInt8) else 0)).toNat = lentS (pl (D A)) (pl (D B)) (i + 1) := by
      simp only [lentS]
      split
      · rename_i h
        rw [if_pos (hlt.1 h)]; rfl
      · rename_i h
        rw [if_neg (fun h2 => h (hlt.2 h2))]; rfl
    rw [hrun, hstep]
    refine ⟨hcar, fun j hj => ?_, fun j hj => ?_⟩
    · simp only
      rw [show l.length - (i + 1) = l.length - 1 - i by omega, pb_set (by omega)]
      split
      · rename_i h; subst h; rw [hdig]
      · exact h2 j (by omega)
    · simp only
      rw [show l.length - (i + 1) = l.length - 1 - i by omega, pb_set (by omega), if_neg (by omega)]
      exact h3 j (by omega)

theorem minusL_num {A B : List UInt8} (hA : A.all isDig = true) (hB : B.all isDig = true) (hne : A ≠ []) : Num0 (minusL A B) ∧ ∀ i, pl (D (minusL A B)) i = if i < A.length then dR (pl (D A)) (pl (D B)) i else 0 := by
  obtain ⟨h1, h2, h3⟩ := minusRun_is hA hB A.length (Nat.le_refl _)
  have hlen := minusRun_length (b := B) (a := A) (i := A.length)
  have hd := dR_lt (pl_lt (D_tens hA)) (pl_lt (D_tens hB))
  refine ⟨textL_num (by intro h; rw [h] at hlen; exact hne (List.length_eq_zero_iff.1 hlen.symm)) (all_pb fun j hj => ⟨_, hd j, h2 j (by omega)⟩), fun i => ?_⟩
  unfold minusL
  rw [textL_pl]
  split
  · rename_i h
    rw [pb_D (h2 i h), dg_ch (hd i)]
  · rename_i h
    exact pl_out (by rw [D_len, hlen]; omega)

/-! Sizes. -/
theorem cmpTop_ext {a b a' b' : List Nat} : ∀ n, (∀ i, i < n → pl a i = pl a' i) → (∀ i, i < n → pl b i = pl b' i) → cmpTop a b n = cmpTop a' b' n
  | 0, _, _ => rfl
  | n + 1, h1, h2 => by
    have e1 : a.getD n 0 = a'.getD n 0 := h1 n (by omega)
    have e2 : b.getD n 0 = b'.getD n 0 := h2 n (by omega)
    simp only [cmpTop, e1, e2, cmpTop_ext n (fun i hi => h1 i (by omega)) (fun i hi => h2 i (by omega))]
theorem cmpTop_neg {a b : List Nat} : ∀ n, -(cmpTop a b n) = cmpTop b a n
  | 0 => rfl
  | n + 1 => by
    simp only [cmpTop]
    split
    · rw [if_neg (by omega)]; rfl
    · split
      · rfl
      · exact cmpTop_neg n
theorem sizeN_neg {a b : List Nat} : -(sizeN a b) = sizeN b a := by
  unfold sizeN
  by_cases h : a.length = b.length
  · rw [if_pos h, if_pos h.symm, cmpTop_neg, h]
  · rw [if_neg h, if_neg (Ne.symm h)]
    split
    · rw [if_neg (by omega)]; rfl
    · rw [if_pos (by omega)]
theorem cmpTop_D : ∀ {x y : List UInt8}, x.length = y.length → x.all isDig = true → y.all isDig = true → cmpTop (D x) (D y) x.length = if Op.bytesLess x y then -1 else if x == y then 0 else 1
  | [], [], _, _, _ => rfl
  | [], _ :: _, h, _, _ => by simp at h
  | _ :: _, [], h, _, _ => by simp at h
  | a :: x, b :: y, h, hx, hy => by
    simp only [List.length_cons, Nat.add_right_cancel_iff] at h
    simp only [List.all_cons, Bool.and_eq_true] at hx hy
    have ih := cmpTop_D h hx.2 hy.2
    have e1 : (D (a :: x)).getD x.length 0 = dg a := by
      show pl _ _ = _
      apply pl_some
      rw [D_cons, List.getElem?_append_right (by rw [D_len]; exact Nat.le_refl _), D_len, Nat.sub_self]; rfl
    have e2 : (D (b :: y)).getD x.length 0 = dg b := by
      show pl _ _ = _
      apply pl_some
      rw [D_cons, List.getElem?_append_right (by rw [D_len, h]; exact Nat.le_refl _), D_len, h, Nat.sub_self]; rfl
    have e3 : cmpTop (D (a :: x)) (D (b :: y)) x.length = cmpTop (D x) (D y) x.length := by
      apply cmpTop_ext
      · intro i hi
        unfold pl
        rw [D_cons, List.getD_eq_getElem?_getD, List.getD_eq_getElem?_getD, List.getElem?_append_left (by rw [D_len]; exact hi)]
      · intro i hi
        unfold pl
        rw [D_cons, List.getD_eq_getElem?_getD, List.getD_eq_getElem?_getD, List.getElem?_append_left (by rw [D_len]; omega)]
    obtain ⟨ha1, ha2⟩ := dig_lt hx.1
    obtain ⟨hb1, hb2⟩ := dig_lt hy.1
    have l1 : dg a < dg b ↔ a < b := by rw [UInt8.lt_iff_toNat_lt]; omega
    have l2 : dg b < dg a ↔ b < a := by rw [UInt8.lt_iff_toNat_lt]; omega
    simp only [List.length_cons, cmpTop, e1, e2, e3, ih, Op.bytesLess]
    by_cases h1 : a < b
    · rw [if_pos (l1.2 h1)]; simp [h1]
    · rw [if_neg (fun h2 => h1 (l1.1 h2))]
      by_cases h2 : b < a
      · rw [if_pos (l2.2 h2)]
        have hne : (a == b) = false := by
          have : a ≠ b := by rintro rfl; exact h1 h2
          simpa using this
        simp [h1, hne]
      · rw [if_neg (fun h3 => h2 (l2.1 h3))]
        have he : a = b := by
          apply UInt8.toNat_inj.1
          rw [UInt8.lt_iff_toNat_lt] at h1 h2; omega
        subst he
        simp [h1]
theorem size_D {x y : List UInt8} (hx : Num0 x) (hy : Num0 y) : sizeN (strip (D x)) (strip (D y)) = sizeL x y := by
  have px := List.length_pos_iff.2 hx.ne
  have py := List.length_pos_iff.2 hy.ne
  have key : ∀ {x y : List UInt8}, x.all isDig = true → y.all isDig = true → x.length = y.length → sizeL x y = cmpTop (D x) (D y) x.length := by
    intro x y h1 h2 h
    rw [cmpTop_D h h1 h2]
    unfold sizeL
    rw [if_neg (by omega), if_neg (by omega)]
  rw [strip_D hx, strip_D hy]
  by_cases h1 : x = [48]
  · by_cases h2 : y = [48]
    · subst h1 h2; rfl
    · subst h1
      rw [if_pos rfl, if_neg h2]
      have e : sizeN [] (D y) = -1 := by
        unfold sizeN
        rw [D_len, if_neg (by simp only [List.length_cons, List.length_nil]; omega), if_pos (by simp only [List.length_cons, List.length_nil]; omega)]
      rw [e]
      by_cases h3 : y.length = 1
      · rw [key rfl hy.all (by simp [h3])]
        have hn : formedT y = true := by
          rcases hy with h | h
          · exact absurd h h2
          · exact h
        match y, h3 with
        | [d], _ =>
          simp only [formedT, Bool.and_eq_true, decide_eq_true_eq] at hn
          have hd := dig_lt (c := d) (by simpa using hn.2)
          have e1 : (D [48]).getD 0 0 = 0 := rfl
          have e2 : (D [d]).getD 0 0 = dg d := rfl
          simp only [List.length_cons, List.length_nil, cmpTop, e1, e2]
          rw [if_pos (by omega)]
      · unfold sizeL
        rw [if_pos (by simp only [List.length_cons, List.length_nil]; omega)]
  · by_cases h2 : y = [48]
    · subst h2
      rw [if_neg h1, if_pos rfl]
      have e : sizeN (D x) [] = 1 := by
        unfold sizeN
        rw [D_len, if_neg (by simp only [List.length_cons, List.length_nil]; omega), if_neg (by simp)]
      rw [e]
      by_cases h3 : x.length = 1
      · rw [key hx.all rfl (by simp [h3])]
        have hn : formedT x = true := by
          rcases hx with h | h
          · exact absurd h h1
          · exact h
        match x, h3 with
        | [d], _ =>
          simp only [formedT, Bool.and_eq_true, decide_eq_true_eq] at hn
          have hd := dig_lt (c := d) (by simpa using hn.2)
          have e1 : (D [48]).getD 0 0 = 0 := rfl
          have e2 : (D [d]).getD 0 0 = dg d := rfl
          simp only [List.length_cons, List.length_nil, cmpTop, e1, e2]
          rw [if_neg (by omega), if_pos (by omega)]
      · unfold sizeL
        rw [if_neg (by simp only [List.length_cons, List.length_nil]; omega), if_pos (by simp only [List.length_cons, List.length_nil]; omega)]
    · rw [if_neg h1, if_neg h2]
      unfold sizeN
      rw [D_len, D_len]
      by_cases h3 : x.length = y.length
      · rw [if_pos h3, key hx.all hy.all h3]
      · rw [if_neg h3]
        unfold sizeL
        split
        · rfl
        · rw [if_pos (by omega)]

/-! Both together. -/
def stopL (s : List UInt8) (c : Int) : Bool := if negL s then decide (c ≤ 0) else decide (0 ≤ c)
def progSteps (e s : List UInt8) : List UInt8 → Nat → List (List UInt8)
  | _, 0 => []
  | x, m + 1 => if stopL s (cmpL x e) then [] else x :: progSteps e s (addL x s) m

theorem readP_parts {x : List UInt8} (h : formedL x = true) : (readP x).1 = negL x ∧ (readP x).2 = strip (D (digL x)) ∧ (negL x = true → digL x ≠ [48]) := by
  obtain ⟨h1, h2⟩ := formed_split h
  have h3 := neg_signed (p := negL x) h1
  rw [← h2] at h3
  have h4 : readP x = trimP (negL x) (D (digL x)) := by rw [h2, read_signed h1, ← h2]
  have h5 : (trimP (negL x) (D (digL x))).1 = (negL x && !(digL x == [48])) := by rw [← topF_D h1]; rfl
  refine ⟨by rw [h4, h5, ← h3.1], by rw [h4]; rfl, fun hn h0 => ?_⟩
  have := h3.1
  rw [hn, h0] at this
  simp at this
theorem read_eq {x : List UInt8} (h : formedL x = true) : readP x = trimP (negL x) (D (digL x)) := by
  obtain ⟨h1, h2⟩ := formed_split h
  rw [h2, read_signed h1, ← h2]
theorem write_read {x : List UInt8} (h : formedL x = true) : writeP (readP x) = x := by
  obtain ⟨h1, h2⟩ := formed_split h
  rw [read_eq h, write_trim h1, ← h2]
theorem order_read {x y : List UInt8} (hx : formedL x = true) (hy : formedL y = true) : orderP (readP x) (readP y) = cmpL x y := by
  obtain ⟨a1, a2, a3⟩ := readP_parts hx
  obtain ⟨b1, b2, b3⟩ := readP_parts hy
  obtain ⟨c1, _⟩ := formed_split hx
  obtain ⟨d1, _⟩ := formed_split hy
  unfold orderP orderN cmpL
  rw [a1, a2, b1, b2]
  cases negL x <;> cases negL y
  · simp [size_D c1 d1]
  · simp
  · simp
  · simp only [if_true, sizeN_neg, size_D d1 c1]
theorem add_read {x s : List UInt8} (hx : formedL x = true) (hs : formedL s = true) : formedL (addL x s) = true ∧ addP (readP x) (readP s) = readP (addL x s) := by
  obtain ⟨a1, a2, a3⟩ := readP_parts hx
  obtain ⟨b1, b2, b3⟩ := readP_parts hs
  obtain ⟨c1, _⟩ := formed_split hx
  obtain ⟨d1, _⟩ := formed_split hs
  have fx : pl (strip (D (digL x))) = pl (D (digL x)) := funext fun i => strip_pl
  have fs : pl (strip (D (digL s))) = pl (D (digL s)) := funext fun i => strip_pl
  have tx : Tens (strip (D (digL x))) := (D_tens c1.all).take _
  have ts : Tens (strip (D (digL s))) := (D_tens d1.all).take _
  have lx : digL x ≠ [48] → (strip (D (digL x))).length = (digL x).length := by
    intro h; rw [strip_D c1, if_neg h, D_len]
  have ls : digL s ≠ [48] → (strip (D (digL s))).length = (digL s).length := by
    intro h; rw [strip_D d1, if_neg h, D_len]
  have hsz := size_D c1 d1
  unfold addP addL
  rw [a1, a2, b1, b2, hsz]
  by_cases h : negL x = negL s
  · have hb : (negL x == negL s) = true := by simpa using h
    obtain ⟨n1, n2⟩ := plusL_num c1.all d1.all
    rw [if_pos h, hb, if_pos rfl]
    refine ⟨formed_signed n1, ?_⟩
    rw [read_signed n1]
    apply trimP_ext
    intro i
    rw [n2, sumOut_pl tx ts, fx, fs]
  · have hb : (negL x == negL s) = false := by simpa using h
    rw [if_neg h, hb, if_neg (by simp)]
    by_cases h0 : sizeL (digL x) (digL s) < 0
    · rw [if_pos h0, if_pos h0]
      obtain ⟨n1, n2⟩ := minusL_num d1.all c1.all d1.ne
      refine ⟨formed_signed n1, ?_⟩
      rw [read_signed n1]
      apply trimP_ext
      intro i
      have hz : digL s ≠ [48] := by
        intro hz
        by_cases hz2 : digL x = [48]
        · rw [hz, hz2] at h0; revert h0; decide
        · have : 0 < sizeL (digL x) [48] := by
            rw [← hz, ← hsz, strip_D c1, strip_D d1, if_neg hz2, if_pos hz]
            have px := List.length_pos_iff.2 c1.ne
            unfold sizeN
            rw [D_len, if_neg (by simp only [List.length_cons, List.length_nil]; omega), if_neg (by simp)]; decide
          rw [hz] at h0; omega
      rw [n2, restOut_pl, fx, fs, ls hz]
    · rw [if_neg h0, if_neg h0]
      obtain ⟨n1, n2⟩ := minusL_num c1.all d1.all c1.ne
      refine ⟨formed_signed n1, ?_⟩
      rw [read_signed n1]
      apply trimP_ext
      intro i
      have hz : digL x ≠ [48] := by
        intro hz
        have hz2 : digL s ≠ [48] := by
          intro hz2
          have e1 : negL x = false := by
            cases hn : negL x with
            | false => rfl
            | true => exact absurd hz (a3 hn)
          have e2 : negL s = false := by
            cases hn : negL s with
            | false => rfl
            | true => exact absurd hz2 (b3 hn)
          exact h (by rw [e1, e2])
        have : sizeL [48] (digL s) < 0 := by
          rw [← hz, ← hsz, strip_D c1, strip_D d1, if_pos hz, if_neg hz2]
          have px := List.length_pos_iff.2 d1.ne
          unfold sizeN
          rw [D_len, if_neg (by simp only [List.length_cons, List.length_nil]; omega), if_pos (by simp only [List.length_cons, List.length_nil]; omega)]; decide
        rw [hz] at h0; omega
      rw [n2, restOut_pl, fx, fs, lx hz]

theorem steps_same {e s : List UInt8} (he : formedL e = true) (hs : formedL s = true) : ∀ (m : Nat) (x : List UInt8), formedL x = true → refSteps (readP e) (readP s) (readP x) m = progSteps e s x m
  | 0, _, _ => rfl
  | m + 1, x, hx => by
    have h1 := order_read hx he
    obtain ⟨h2, h3⟩ := add_read hx hs
    have h4 : stopP (readP s) (cmpL x e) = stopL s (cmpL x e) := by
      unfold stopP stopL
      rw [(readP_parts hs).1]
    simp only [refSteps, progSteps, h1, h4, h3, write_read hx, steps_same he hs m _ h2]
end Go.Proofs.Ytbfdokfelolmbaa.TensW
end

section
open Go.Proofs.Ytbfdokfelolmbaa.Vai
namespace Go.Proofs.Ytbfdokfelolmbaa.TensW
set_option maxRecDepth 10000
set_option linter.unusedSimpArgs false

/-! What the numbers are worth: the steps come to an end. -/
def V (f : Nat → Nat) : Nat → Nat
  | 0 => 0
  | n + 1 => V f n + f n * 10 ^ n
theorem V_lt {f : Nat → Nat} (hf : ∀ i, f i < 10) : ∀ n, V f n < 10 ^ n
  | 0 => by simp [V]
  | n + 1 => by
    have h1 := V_lt hf n
    have h2 := hf n
    have h3 : f n * 10 ^ n ≤ 9 * 10 ^ n := Nat.mul_le_mul_right _ (by omega)
    rw [V, Nat.pow_succ]; omega
theorem V_ext {f g : Nat → Nat} : ∀ n, (∀ i, i < n → f i = g i) → V f n = V g n
  | 0, _ => rfl
  | n + 1, h => by rw [V, V, V_ext n (fun i hi => h i (by omega)), h n (by omega)]
theorem V_far {f : Nat → Nat} {n : Nat} (h : ∀ i, n ≤ i → f i = 0) : ∀ k, V f (n + k) = V f n
  | 0 => rfl
  | k + 1 => by
    show V f (n + k + 1) = _
    rw [V, V_far h k, h (n + k) (by omega)]; simp
theorem V_sum {f g : Nat → Nat} : ∀ n, V (dS f g) n + carryS f g n * 10 ^ n = V f n + V g n
  | 0 => rfl
  | n + 1 => by
    have ih := V_sum (f := f) (g := g) n
    obtain ⟨s, hs⟩ : ∃ s, s = f n + g n + carryS f g n := ⟨_, rfl⟩
    have hd : dS f g n = s % 10 := by unfold dS; rw [hs]
    have hc : carryS f g (n + 1) = s / 10 := by simp only [carryS]; rw [hs]
    have hm : s % 10 + 10 * (s / 10) = s := Nat.mod_add_div s 10
    have e : (s % 10) * 10 ^ n + (s / 10) * 10 ^ (n + 1) = s * 10 ^ n := by
      rw [Nat.pow_succ, ← Nat.mul_assoc, Nat.mul_right_comm (s / 10), ← Nat.add_mul]; congr 1; omega
    have e2 : s * 10 ^ n = f n * 10 ^ n + g n * 10 ^ n + carryS f g n * 10 ^ n := by rw [hs, Nat.add_mul, Nat.add_mul]
    rw [V, V, V, hd, hc]; omega
theorem V_rest {f g : Nat → Nat} (hf : ∀ i, f i < 10) (hg : ∀ i, g i < 10) : ∀ n, V (dR f g) n + V g n = V f n + lentS f g n * 10 ^ n
  | 0 => rfl
  | n + 1 => by
    have ih := V_rest hf hg n
    have h1 := hf n
    have h2 := hg n
    have h3 := lentS_le (f := f) (g := g) n
    obtain ⟨p, hp⟩ : ∃ p, p = 10 ^ n := ⟨_, rfl⟩
    have hps : (10 : Nat) ^ (n + 1) = 10 * p := by rw [Nat.pow_succ, hp, Nat.mul_comm]
    rw [← hp] at ih
    have key : dR f g n * p + g n * p + lentS f g n * p = f n * p + lentS f g (n + 1) * (10 * p) := by
      rw [← Nat.add_mul, ← Nat.add_mul]
      rw [← Nat.mul_assoc, ← Nat.add_mul]
      congr 1
      simp only [lentS]
      unfold dR
      split <;> omega
    rw [V, V, V, ← hp, hps]; omega

def val (d : List UInt8) : Nat := V (pl (D d)) d.length
theorem val_far {d : List UInt8} {n : Nat} (h : d.length ≤ n) : V (pl (D d)) n = val d := by
  have := V_far (f := pl (D d)) (n := d.length) (fun i hi => pl_out (by rw [D_len]; exact hi)) (n - d.length)
  rw [show d.length + (n - d.length) = n by omega] at this
  exact this
theorem val_plus {a b : List UInt8} (ha : a.all isDig = true) (hb : b.all isDig = true) : val (plusL a b) = val a + val b := by
  obtain ⟨h1, h2⟩ := plusL_num ha hb
  obtain ⟨n, hn⟩ : ∃ n, n = max (max a.length b.length + 1) (plusL a b).length := ⟨_, rfl⟩
  have h3 := V_sum (f := pl (D a)) (g := pl (D b)) n
  rw [carry_far (D_tens ha) (D_tens hb) n (by rw [D_len, D_len]; omega), val_far (d := a) (by omega), val_far (d := b) (by omega)] at h3
  rw [← val_far (d := plusL a b) (n := n) (by omega), V_ext n (fun i _ => h2 i)]
  omega
theorem val_minus {a b : List UInt8} (ha : a.all isDig = true) (hb : b.all isDig = true) (hne : a ≠ []) (hl : b.length ≤ a.length) (hle : val b ≤ val a) : val (minusL a b) = val a - val b := by
  obtain ⟨h1, h2⟩ := minusL_num ha hb hne
  have h3 := V_rest (pl_lt (D_tens ha)) (pl_lt (D_tens hb)) a.length
  have h4 := V_lt (dR_lt (pl_lt (D_tens ha)) (pl_lt (D_tens hb))) a.length
  rw [val_far (d := b) hl] at h3
  have h5 : V (pl (D a)) a.length = val a := rfl
  rw [h5] at h3
  have h6 := lentS_le (f := pl (D a)) (g := pl (D b)) a.length
  have h7 : lentS (pl (D a)) (pl (D b)) a.length = 0 := by
    rcases Nat.lt_or_ge 0 (lentS (pl (D a)) (pl (D b)) a.length) with h | h
    · have : lentS (pl (D a)) (pl (D b)) a.length = 1 := by omega
      rw [this] at h3; omega
    · omega
  rw [h7] at h3
  have h8 : val (minusL a b) = V (dR (pl (D a)) (pl (D b))) a.length := by
    have hm : (minusL a b).length ≤ a.length := minusL_le
    rw [← val_far (d := minusL a b) hm]
    exact V_ext _ fun i hi => by rw [h2, if_pos hi]
  rw [h8]; omega

theorem cmpTop_V {a b : List Nat} (ha : Tens a) (hb : Tens b) : ∀ n, (cmpTop a b n < 0 → V (pl a) n < V (pl b) n) ∧ (0 < cmpTop a b n → V (pl b) n < V (pl a) n) ∧ (cmpTop a b n = 0 → V (pl a) n = V (pl b) n)
  | 0 => by simp [cmpTop, V]
  | n + 1 => by
    obtain ⟨i1, i2, i3⟩ := cmpTop_V ha hb n
    have h1 := V_lt (pl_lt ha) n
    have h2 := V_lt (pl_lt hb) n
    have ea : a.getD n 0 = pl a n := rfl
    have eb : b.getD n 0 = pl b n := rfl
    have hx : ∀ {x y : Nat}, x < y → x * 10 ^ n + 10 ^ n ≤ y * 10 ^ n := by
      intro x y h
      have := Nat.mul_le_mul_right (10 ^ n) (show x + 1 ≤ y by omega)
      rw [Nat.add_mul, Nat.one_mul] at this; exact this
    simp only [cmpTop, V, ea, eb]
    by_cases h : pl a n < pl b n
    · rw [if_pos h]
      have := hx h
      exact ⟨fun _ => by omega, fun h => by omega, fun h => by omega⟩
    · rw [if_neg h]
      by_cases h' : pl b n < pl a n
      · rw [if_pos h']
        have := hx h'
        exact ⟨fun h => by omega, fun _ => by omega, fun h => by omega⟩
      · rw [if_neg h']
        have : pl a n = pl b n := by omega
        rw [this]
        exact ⟨fun h => by have := i1 h; omega, fun h => by have := i2 h; omega, fun h => by have := i3 h; omega⟩

theorem val_top {d : List UInt8} (h : Num0 d) (h1 : 1 < d.length) : 10 ^ (d.length - 1) ≤ val d := by
  have hn : d ≠ [48] := by rintro rfl; simp at h1
  rcases h with h | h
  · exact absurd h hn
  · cases d with
    | nil => simp at h1
    | cons c r =>
      simp only [formedT, Bool.and_eq_true, decide_eq_true_eq] at h
      have hc : isDig c = true := List.all_eq_true.1 h.2 c (by simp)
      have hp : pl (D (c :: r)) r.length = dg c := by apply pl_some; unfold D; simp
      have := dig_lt hc
      unfold val
      simp only [List.length_cons, Nat.add_sub_cancel, V, hp]
      have : 1 * 10 ^ r.length ≤ dg c * 10 ^ r.length := Nat.mul_le_mul_right _ (by omega)
      omega
theorem size_val {a b : List UInt8} (ha : Num0 a) (hb : Num0 b) : (sizeL a b < 0 → val a < val b ∧ a.length ≤ b.length) ∧ (0 < sizeL a b → val b < val a ∧ b.length ≤ a.length) ∧ (sizeL a b = 0 → val a = val b ∧ a.length = b.length) := by
  have key : ∀ {a b : List UInt8}, Num0 a → Num0 b → a.length < b.length → val a < val b := by
    intro a b ha hb h
    have pa := List.length_pos_iff.2 ha.ne
    have h1 := val_top hb (by omega)
    have h2 : val a < 10 ^ a.length := V_lt (pl_lt (D_tens ha.all)) _
    have h3 : 10 ^ a.length ≤ 10 ^ (b.length - 1) := Nat.pow_le_pow_right (by omega) (by omega)
    omega
  unfold sizeL
  by_cases h : a.length < b.length
  · rw [if_pos h]
    exact ⟨fun _ => ⟨key ha hb h, by omega⟩, fun h => by omega, fun h => by omega⟩
  · rw [if_neg h]
    by_cases h' : b.length < a.length
    · rw [if_pos h']
      exact ⟨fun h => by omega, fun _ => ⟨key hb ha h', by omega⟩, fun h => by omega⟩
    · rw [if_neg h']
      have hl : a.length = b.length := by omega
      rw [← cmpTop_D hl ha.all hb.all]
      obtain ⟨i1, i2, i3⟩ := cmpTop_V (D_tens ha.all) (D_tens hb.all) a.length
      have e : V (pl (D b)) a.length = val b := by rw [hl]; rfl
      rw [e] at i1 i2 i3
      exact ⟨fun h => ⟨i1 h, by omega⟩, fun h => ⟨i2 h, by omega⟩, fun h => ⟨i3 h, hl⟩⟩

def num (x : List UInt8) : Int := if negL x then -(val (digL x) : Int) else val (digL x)
theorem val_nought : val [48] = 0 := by rfl
theorem num_signed {p : Bool} {d : List UInt8} (h : Num0 d) : num (signedL p d) = if p then -(val d : Int) else val d := by
  obtain ⟨h1, h2⟩ := neg_signed (p := p) h
  unfold num
  rw [h1, h2]
  by_cases h0 : d = [48]
  · subst h0; rw [val_nought]; cases p <;> rfl
  · have : (d == [48]) = false := by simpa using h0
    rw [this]; cases p <;> rfl
theorem cmp_num {x y : List UInt8} (hx : formedL x = true) (hy : formedL y = true) : (cmpL x y < 0 → num x < num y) ∧ (0 < cmpL x y → num y < num x) := by
  obtain ⟨c1, _⟩ := formed_split hx
  obtain ⟨d1, _⟩ := formed_split hy
  have ix := (readP_parts hx).2.2
  have iy := (readP_parts hy).2.2
  have pos : ∀ {d : List UInt8}, Num0 d → d ≠ [48] → 0 < val d := by
    intro d h h0
    have pd := List.length_pos_iff.2 h.ne
    rcases Nat.lt_or_ge 1 d.length with h1 | h1
    · have := val_top h h1
      have := Nat.pow_pos (n := d.length - 1) (show 0 < 10 by omega)
      omega
    · rcases h with h | h
      · exact absurd h h0
      · match d, (show d.length = 1 by omega) with
        | [c], _ =>
          simp only [formedT, Bool.and_eq_true, decide_eq_true_eq] at h
          have hc : isDig c = true := by simpa using h.2
          have := dig_lt hc
          have : val [c] = dg c := by
            show 0 + pl (D [c]) 0 * 10 ^ 0 = dg c
            have : pl (D [c]) 0 = dg c := rfl
            rw [this]; simp
          omega
  obtain ⟨s1, s2, s3⟩ := size_val c1 d1
  obtain ⟨t1, t2, t3⟩ := size_val d1 c1
  unfold cmpL num
  cases hnx : negL x <;> cases hny : negL y
  · simp only [Bool.false_eq_true, if_false]
    exact ⟨fun h => by have := s1 h; omega, fun h => by have := s2 h; omega⟩
  · simp only [Bool.false_eq_true, if_false, if_true]
    have := pos d1 (iy hny)
    exact ⟨fun h => by omega, fun _ => by omega⟩
  · simp only [Bool.false_eq_true, if_false, if_true]
    have := pos c1 (ix hnx)
    exact ⟨fun _ => by omega, fun h => by omega⟩
  · simp only [if_true]
    exact ⟨fun h => by have := t1 h; omega, fun h => by have := t2 h; omega⟩
theorem add_num {x s : List UInt8} (hx : formedL x = true) (hs : formedL s = true) : num (addL x s) = num x + num s := by
  obtain ⟨c1, _⟩ := formed_split hx
  obtain ⟨d1, _⟩ := formed_split hs
  obtain ⟨s1, s2, s3⟩ := size_val c1 d1
  unfold addL
  by_cases h : negL x = negL s
  · have hb : (negL x == negL s) = true := by simpa using h
    obtain ⟨n1, _⟩ := plusL_num c1.all d1.all
    rw [hb, if_pos rfl, num_signed n1, val_plus c1.all d1.all]
    unfold num
    rw [h]
    cases negL s <;> simp <;> omega
  · have hb : (negL x == negL s) = false := by simpa using h
    rw [hb, if_neg (by simp)]
    by_cases h0 : sizeL (digL x) (digL s) < 0
    · obtain ⟨v1, v2⟩ := s1 h0
      rw [if_pos h0]
      obtain ⟨n1, _⟩ := minusL_num d1.all c1.all d1.ne
      rw [num_signed n1, val_minus d1.all c1.all d1.ne v2 (by omega)]
      unfold num
      cases hnx : negL x <;> cases hns : negL s
      · exact absurd (by rw [hnx, hns]) h
      · simp; omega
      · simp; omega
      · exact absurd (by rw [hnx, hns]) h
    · have v : val (digL s) ≤ val (digL x) ∧ (digL s).length ≤ (digL x).length := by
        rcases Int.lt_or_le 0 (sizeL (digL x) (digL s)) with h1 | h1
        · have := s2 h1; omega
        · have := s3 (by omega); omega
      rw [if_neg h0]
      obtain ⟨n1, _⟩ := minusL_num c1.all d1.all c1.ne
      rw [num_signed n1, val_minus c1.all d1.all c1.ne v.2 v.1]
      unfold num
      cases hnx : negL x <;> cases hns : negL s
      · exact absurd (by rw [hnx, hns]) h
      · simp; omega
      · simp; omega
      · exact absurd (by rw [hnx, hns]) h
theorem num_step {s : List UInt8} (hs : formedL s = true) (h0 : s ≠ [48]) : if negL s then num s < 0 else 0 < num s := by
  have h1 := cmp_num hs (y := [48]) rfl
  have h2 : num [48] = 0 := rfl
  obtain ⟨d1, d2⟩ := formed_split hs
  have i := (readP_parts hs).2.2
  rw [h2] at h1
  by_cases hn : negL s = true
  · rw [if_pos hn]
    refine h1.1 ?_
    unfold cmpL
    rw [if_pos hn, if_neg (by decide)]; decide
  · rw [if_neg hn]
    have hn' : negL s = false := by simpa using hn
    refine h1.2 ?_
    unfold cmpL
    rw [hn']
    have e1 : negL [48] = false := rfl
    have e2 : digL [48] = [48] := rfl
    rw [e1, e2]
    simp only [Bool.false_eq_true, if_false]
    have hd : digL s ≠ [48] := by
      intro h
      rw [hn', h] at d2
      exact h0 d2
    have px := List.length_pos_iff.2 d1.ne
    rw [← size_D d1 (.inl rfl), strip_D d1, strip_D (.inl rfl), if_neg hd, if_pos rfl]
    unfold sizeN
    rw [D_len, if_neg (by simp only [List.length_nil]; omega), if_neg (by simp only [List.length_nil]; omega)]; decide

/-- All that the steps come to. -/
inductive Full (e s : List UInt8) : List UInt8 → List (List UInt8) → Prop where
  | stop {x} (h : stopL s (cmpL x e) = true) : Full e s x []
  | go {x r} (h : stopL s (cmpL x e) = false) (hr : Full e s (addL x s) r) : Full e s x (x :: r)
theorem full_is {e s : List UInt8} (he : formedL e = true) (hs : formedL s = true) (h0 : s ≠ [48]) : ∀ (k : Nat) (x : List UInt8), formedL x = true → (num e - num x).natAbs < k → ∃ r, Full e s x r
  | 0, _, _, h => by omega
  | k + 1, x, hx, h => by
    cases hst : stopL s (cmpL x e) with
    | true => exact ⟨[], .stop hst⟩
    | false =>
      have h1 := num_step hs h0
      have h2 := add_num hx hs
      have h3 := cmp_num hx he
      have h4 : (num e - num (addL x s)).natAbs < (num e - num x).natAbs ∨ stopL s (cmpL (addL x s) e) = true := by
        have h5 := cmp_num (add_read hx hs).1 he
        unfold stopL at hst ⊢
        by_cases hn : negL s = true
        · rw [if_pos hn] at h1 hst ⊢
          have h6 := h3.2 (by simpa using hst)
          rcases Int.lt_or_le (num e) (num (addL x s)) with h7 | h7
          · left; omega
          · right
            simp only [decide_eq_true_eq]
            rcases Int.lt_or_le 0 (cmpL (addL x s) e) with h8 | h8
            · have := h5.2 h8; omega
            · exact h8
        · rw [if_neg hn] at h1 hst ⊢
          have h6 := h3.1 (by simpa using hst)
          rcases Int.lt_or_le (num (addL x s)) (num e) with h7 | h7
          · left; omega
          · right
            simp only [decide_eq_true_eq]
            rcases Int.lt_or_le (cmpL (addL x s) e) 0 with h8 | h8
            · have := h5.1 h8; omega
            · exact h8
      rcases h4 with h4 | h4
      · obtain ⟨r, hr⟩ := full_is he hs h0 k _ (add_read hx hs).1 (by omega)
        exact ⟨_, .go hst hr⟩
      · exact ⟨_, .go hst (.stop h4)⟩
theorem full_some {e s x : List UInt8} (he : formedL e = true) (hs : formedL s = true) (h0 : s ≠ [48]) (hx : formedL x = true) : ∃ r, Full e s x r :=
  full_is he hs h0 _ x hx (Nat.lt_succ_self _)
theorem full_take {e s : List UInt8} : ∀ (m : Nat) {x : List UInt8} {r : List (List UInt8)}, Full e s x r → progSteps e s x m = r.take m
  | 0, _, _, _ => by simp [progSteps]
  | m + 1, _, _, .stop h => by simp [progSteps, h]
  | m + 1, _, _, .go h hr => by simp [progSteps, h, full_take m hr]
end Go.Proofs.Ytbfdokfelolmbaa.TensW
end
