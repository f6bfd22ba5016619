/- Plain laws on texts: numbers in decimal, and their reading; no program in sight. -/
import Derived.Test.YtbggickeomeidaaDoorPlain
import Derived.Lib.ItoaNum
import Derived.Lib.ItoaMem
import Derived.Lib.ParseIntBTie
import Derived.Lib.ParseIntBCases
namespace Go.Proofs.YtbggickeomeidaaDoor.PlainTx
open Go Go.Proofs.YtbggickeomeidaaDoor.Plain

/-- is a byte a digit -/
def isD (c : UInt8) : Bool := decide (48 ≤ c.toNat ∧ c.toNat ≤ 57)
theorem isD_yes {c : UInt8} (h : isD c = true) : 48 ≤ c.toNat ∧ c.toNat ≤ 57 := by simpa [isD] using h
theorem isD_no {c : UInt8} (h : isD c = false) : ¬ (48 ≤ c.toNat ∧ c.toNat ≤ 57) := by
  intro h'
  have : isD c = true := by unfold isD; exact decide_eq_true h'
  rw [this] at h
  cases h
theorem isD_mk {c : UInt8} (h : 48 ≤ c.toNat ∧ c.toNat ≤ 57) : isD c = true := by unfold isD; exact decide_eq_true h
/-- what digits are worth, behind a number -/
def valA (a : Nat) (l : List UInt8) : Nat := l.foldl (fun a c => 10 * a + (c.toNat - 48)) a
theorem valA_snoc (a : Nat) (l : List UInt8) (c : UInt8) : valA a (l ++ [c]) = 10 * valA a l + (c.toNat - 48) := by
  unfold valA
  rw [List.foldl_append, List.foldl_cons, List.foldl_nil]
theorem valA_cons (a : Nat) (l : List UInt8) (c : UInt8) : valA a (c :: l) = valA (10 * a + (c.toNat - 48)) l := by
  unfold valA
  rw [List.foldl_cons]
theorem valA_ge : ∀ (l : List UInt8) (a : Nat), a ≤ valA a l
  | [], a => Nat.le_refl _
  | c :: l, a => by
    rw [valA_cons]
    have := valA_ge l (10 * a + (c.toNat - 48))
    omega
theorem valA_lt : ∀ (l : List UInt8) (a : Nat), l.all isD = true → valA a l < (a + 1) * 10 ^ l.length
  | [], a, _ => by simp [valA]
  | c :: l, a, h => by
    simp only [List.all_cons, Bool.and_eq_true] at h
    have hc := isD_yes h.1
    have ih := valA_lt l (10 * a + (c.toNat - 48)) h.2
    rw [valA_cons, List.length_cons, Nat.pow_succ]
    have h2 : (10 * a + (c.toNat - 48) + 1) * 10 ^ l.length ≤ (10 * (a + 1)) * 10 ^ l.length := Nat.mul_le_mul_right _ (by omega)
    have h3 : (10 * (a + 1)) * 10 ^ l.length = (a + 1) * (10 ^ l.length * 10) := by
      rw [Nat.mul_comm 10 (a + 1), Nat.mul_assoc, Nat.mul_comm 10]
    omega
theorem dig_of (k : Nat) (h : k < 10) : (UInt8.ofNat (48 + k)).toNat = 48 + k := by
  rw [UInt8.toNat_ofNat']
  omega
theorem of_dig {c : UInt8} (h : isD c = true) : UInt8.ofNat (48 + (c.toNat - 48)) = c := by
  have := isD_yes h
  rw [show 48 + (c.toNat - 48) = c.toNat by omega]
  simp
theorem dec_small {u : Nat} (h : u < 10) : Lib.decDigits u = [UInt8.ofNat (48 + u)] := Lib.decDigits_one h
theorem dec_big {u : Nat} (h : ¬ u < 10) : Lib.decDigits u = Lib.decDigits (u / 10) ++ [UInt8.ofNat (48 + u % 10)] := by rw [Lib.decDigits, dif_neg h]
theorem dec_ne (u : Nat) : Lib.decDigits u ≠ [] := by
  intro h
  have h1 := Lib.decDigits_length u
  have h2 := Lib.nDigits_pos u
  rw [h] at h1
  simp at h1
  omega
theorem dec_all (u : Nat) : (Lib.decDigits u).all isD = true := by
  induction u using Nat.strongRecOn with
  | _ u ih =>
    by_cases h : u < 10
    · rw [dec_small h]
      simp only [List.all_cons, List.all_nil, Bool.and_true]
      exact isD_mk (by rw [dig_of u h]; omega)
    · rw [dec_big h, List.all_append, ih (u / 10) (by omega)]
      simp only [List.all_cons, List.all_nil, Bool.and_true, Bool.true_and]
      exact isD_mk (by rw [dig_of _ (by omega)]; omega)
theorem dec_val (u : Nat) : valA 0 (Lib.decDigits u) = u := by
  induction u using Nat.strongRecOn with
  | _ u ih =>
    by_cases h : u < 10
    · rw [dec_small h]
      simp only [valA, List.foldl_cons, List.foldl_nil]
      rw [dig_of u h]
      omega
    · rw [dec_big h, valA_snoc, ih (u / 10) (by omega), dig_of _ (by omega)]
      omega
theorem head_app {l m : List UInt8} (h : l ≠ []) : (l ++ m).head? = l.head? := by
  cases l with
  | nil => exact absurd rfl h
  | cons a b => rfl
theorem dec_head {u : Nat} (h : 1 ≤ u) : (Lib.decDigits u).head? ≠ some 48 := by
  induction u using Nat.strongRecOn with
  | _ u ih =>
    by_cases hu : u < 10
    · rw [dec_small hu]
      intro e
      simp only [List.head?_cons, Option.some.injEq] at e
      have := dig_of u hu
      rw [e] at this
      have h48 : (48 : UInt8).toNat = 48 := rfl
      omega
    · rw [dec_big hu]
      have := ih (u / 10) (by omega) (by omega)
      rw [head_app (dec_ne _)]
      exact this
theorem dec_back (l : List UInt8) : l ≠ [] → l.all isD = true → (l.head? ≠ some 48 ∨ l.length = 1) → Lib.decDigits (valA 0 l) = l := by
  induction hn : l.length generalizing l with
  | zero => intro h; exact absurd (List.eq_nil_of_length_eq_zero hn) h
  | succ n ih =>
    intro _ ha hh
    obtain ⟨xs, c, rfl⟩ : ∃ xs c, l = xs ++ [c] := by
      rcases List.eq_nil_or_concat l with h | ⟨xs, c, h⟩
      · subst h; simp at hn
      · exact ⟨xs, c, by rw [h, List.concat_eq_append]⟩
    have hx : xs.length = n := by simpa using hn
    rw [List.all_append] at ha
    simp only [List.all_cons, List.all_nil, Bool.and_true, Bool.and_eq_true] at ha
    have hc := isD_yes ha.2
    rw [valA_snoc]
    rcases Nat.eq_zero_or_pos n with h0 | h0
    · obtain rfl : xs = [] := List.eq_nil_of_length_eq_zero (by omega)
      rw [show valA 0 ([] : List UInt8) = 0 from rfl, dec_small (by omega), show 48 + (10 * 0 + (c.toNat - 48)) = 48 + (c.toNat - 48) by omega, of_dig ha.2]
      rfl
    · have hne : xs ≠ [] := by intro e; subst e; simp at hx; omega
      have hh1 : xs.head? ≠ some 48 := by
        rcases hh with h | h
        · rwa [head_app hne] at h
        · simp at h; omega
      have e1 := ih xs hx hne ha.1 (.inl hh1)
      have hv : 1 ≤ valA 0 xs := by
        rcases Nat.eq_zero_or_pos (valA 0 xs) with hz | hz
        · rw [hz, dec_small (by omega)] at e1
          rw [← e1] at hh1
          exact absurd rfl hh1
        · exact hz
      rw [dec_big (by omega), show (10 * valA 0 xs + (c.toNat - 48)) / 10 = valA 0 xs by omega, show (10 * valA 0 xs + (c.toNat - 48)) % 10 = c.toNat - 48 by omega, e1, of_dig ha.2]

theorem uintM_ok : ∀ (l : List UInt8) (a : Nat), l.all isD = true → valA a l < 1000000000000000000 → Lib.parseUintM (2 ^ 64 - 1) a l = .ok (valA a l)
  | [], a, _, _ => rfl
  | c :: l, a, h, hv => by
    simp only [List.all_cons, Bool.and_eq_true] at h
    have hc := isD_yes h.1
    rw [valA_cons] at hv ⊢
    have hg := valA_ge l (10 * a + (c.toNat - 48))
    rw [Lib.parseUintM, if_pos hc, if_neg (by omega), if_neg (by omega), show a * 10 + (c.toNat - 48) = 10 * a + (c.toNat - 48) by omega]
    exact uintM_ok l _ h.2 hv
theorem uintB_ok {l : List UInt8} (h0 : l ≠ []) (h : l.all isD = true) (hl : l.length ≤ 18) : Lib.parseUintB 64 l = .ok (valA 0 l) ∧ valA 0 l < 1000000000000000000 := by
  have h1 := valA_lt l 0 h
  have h2 : 10 ^ l.length ≤ 10 ^ 18 := Nat.pow_le_pow_right (by omega) hl
  rw [show (10 : Nat) ^ 18 = 1000000000000000000 by decide] at h2
  have h3 : valA 0 l < 1000000000000000000 := by omega
  refine ⟨?_, h3⟩
  unfold Lib.parseUintB
  rw [if_neg h0]
  exact uintM_ok l 0 h h3

/-- the digits of a text, behind its sign -/
def digF (l : List UInt8) : List UInt8 := if l.head? = some 45 then l.tail else l
/-- the number with a decimal form of at most 18 digits -/
def numF (l : List UInt8) : Option Int :=
  if digF l = [] ∨ 18 < (digF l).length ∨ ((digF l).head? = some 48 ∧ 1 < l.length) ∨ (digF l).all isD = false then none
  else some (if l.head? = some 45 then -(valA 0 (digF l) : Int) else (valA 0 (digF l) : Int))
theorem numF_yes {l : List UInt8} {n : Int} (h : numF l = some n) : digF l ≠ [] ∧ (digF l).length ≤ 18 ∧ ((digF l).head? ≠ some 48 ∨ l.length ≤ 1) ∧ (digF l).all isD = true ∧ n = (if l.head? = some 45 then -(valA 0 (digF l) : Int) else (valA 0 (digF l) : Int)) := by
  unfold numF at h
  split at h
  · cases h
  · rename_i hc
    injection h with h
    refine ⟨fun e => hc (.inl e), ?_, ?_, ?_, h.symm⟩
    · rcases Nat.lt_or_ge 18 (digF l).length with g | g
      · exact absurd (.inr (.inl g)) hc
      · exact g
    · by_cases g : (digF l).head? = some 48
      · rcases Nat.lt_or_ge 1 l.length with g1 | g1
        · exact absurd (.inr (.inr (.inl ⟨g, g1⟩))) hc
        · exact .inr g1
      · exact .inl g
    · cases g : (digF l).all isD
      · exact absurd (.inr (.inr (.inr g))) hc
      · rfl
theorem numF_mk {l : List UInt8} (h1 : digF l ≠ []) (h2 : (digF l).length ≤ 18) (h3 : (digF l).head? ≠ some 48 ∨ l.length ≤ 1) (h4 : (digF l).all isD = true) : numF l = some (if l.head? = some 45 then -(valA 0 (digF l) : Int) else (valA 0 (digF l) : Int)) := by
  unfold numF
  rw [if_neg]
  rintro (h | h | ⟨h, h'⟩ | h)
  · exact h1 h
  · omega
  · rcases h3 with h3 | h3
    · exact h3 h
    · omega
  · rw [h4] at h; cases h
theorem numF_range {l : List UInt8} {n : Int} (h : numF l = some n) : -1000000000000000000 < n ∧ n < 1000000000000000000 := by
  obtain ⟨h1, h2, h3, h4, rfl⟩ := numF_yes h
  have := (uintB_ok h1 h4 h2).2
  split <;> omega
theorem neg_form {l : List UInt8} (h : l.head? = some 45) : l = 45 :: digF l := by
  unfold digF
  rw [if_pos h]
  cases l with
  | nil => cases h
  | cons c r => simp at h; subst h; rfl
theorem pos_form {l : List UInt8} (h : ¬ l.head? = some 45) : digF l = l := by
  unfold digF
  rw [if_neg h]
/-- what is read is written so -/
theorem numF_itoa {l : List UInt8} {n : Int} (h : numF l = some n) : Lib.itoa n = l := by
  obtain ⟨h1, h2, h3, h4, rfl⟩ := numF_yes h
  by_cases hs : l.head? = some 45
  · rw [if_pos hs]
    have hf := neg_form hs
    have hl : l.length = (digF l).length + 1 := by conv => lhs; rw [hf]; simp
    have h3' : (digF l).head? ≠ some 48 := by
      rcases h3 with g | g
      · exact g
      · exact absurd (List.eq_nil_of_length_eq_zero (by omega)) h1
    have hb := dec_back _ h1 h4 (.inl h3')
    have hv : 1 ≤ valA 0 (digF l) := by
      rcases Nat.eq_zero_or_pos (valA 0 (digF l)) with hz | hz
      · rw [hz, dec_small (by omega)] at hb
        rw [← hb] at h3'
        exact absurd rfl h3'
      · exact hz
    rw [Lib.itoa_neg _ hv, hb]
    exact hf.symm
  · rw [if_neg hs, Lib.itoa_nonneg]
    have hp := pos_form hs
    rw [hp] at h1 h2 h3 h4 ⊢
    exact dec_back _ h1 h4 (by
      rcases h3 with g | g
      · exact .inl g
      · refine .inr ?_
        rcases Nat.eq_zero_or_pos l.length with hz | hz
        · exact absurd (List.eq_nil_of_length_eq_zero hz) h1
        · omega)
theorem numF_parse {l : List UInt8} {n : Int} (h : numF l = some n) : Lib.parseIntB 64 l = .ok n := by
  obtain ⟨h1, h2, h3, h4, rfl⟩ := numF_yes h
  obtain ⟨hu, hv⟩ := uintB_ok h1 h4 h2
  by_cases hs : l.head? = some 45
  · rw [if_pos hs]
    conv => lhs; rw [neg_form hs]
    rw [Lib.parseIntB_minus, hu]
    unfold Lib.signedC
    simp only
    rw [if_neg (by omega)]
  · rw [if_neg hs]
    have hp := pos_form hs
    rw [hp] at h1 h4 hu hv ⊢
    match l, h1 with
    | c :: r, _ =>
      simp only [List.all_cons, Bool.and_eq_true] at h4
      have hc := isD_yes h4.1
      rw [Lib.parseIntB_plain 64 c r (by omega) (by omega), hu]
      unfold Lib.signlessC
      simp only
      rw [if_neg (by omega)]
/-- what is written of at most 18 digits is read so -/
theorem itoa_numF {n : Int} {l : List UInt8} (h : Lib.itoa n = l) (hl : (digF l).length ≤ 18) : numF l = some n := by
  by_cases hn : n < 0
  · obtain ⟨u, rfl⟩ : ∃ u : Nat, n = -(u : Int) := ⟨n.natAbs, by omega⟩
    have hu : 1 ≤ u := by omega
    rw [Lib.itoa_neg u hu] at h
    subst h
    have h45 : (45 :: Lib.decDigits u).head? = some 45 := rfl
    have e : digF (45 :: Lib.decDigits u) = Lib.decDigits u := by unfold digF; rw [if_pos h45]; rfl
    rw [numF_mk (by rw [e]; exact dec_ne u) hl (by rw [e]; exact .inl (dec_head hu)) (by rw [e]; exact dec_all u), e, dec_val, if_pos h45]
  · obtain ⟨u, rfl⟩ : ∃ u : Nat, n = (u : Int) := ⟨n.toNat, by omega⟩
    rw [Lib.itoa_nonneg u] at h
    subst h
    have hh : ¬ (Lib.decDigits u).head? = some 45 := by
      have ha := dec_all u
      have hne := dec_ne u
      cases hd : Lib.decDigits u with
      | nil => exact absurd hd hne
      | cons c r =>
        rw [hd] at ha
        simp only [List.all_cons, Bool.and_eq_true] at ha
        have hc := isD_yes ha.1
        intro e
        simp at e
        subst e
        have h45 : (45 : UInt8).toNat = 45 := rfl
        omega
    have e := pos_form hh
    rw [numF_mk (by rw [e]; exact dec_ne u) hl (by
      rw [e]
      rcases Nat.eq_zero_or_pos u with hz | hz
      · subst hz
        rw [dec_small (by omega)]
        exact .inr (by simp)
      · exact .inl (dec_head hz)) (by rw [e]; exact dec_all u), e, dec_val, if_neg hh]
theorem numF_none {l : List UInt8} (h : numF l = none) : ∀ n, Lib.itoa n = l → 18 < (digF l).length := by
  intro n e
  rcases Nat.lt_or_ge 18 (digF l).length with g | g
  · exact g
  · rw [itoa_numF e g] at h
    cases h

end Go.Proofs.YtbggickeomeidaaDoor.PlainTx
