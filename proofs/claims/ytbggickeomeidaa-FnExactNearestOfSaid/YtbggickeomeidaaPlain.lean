/- Plain laws on numbers and lists: no program in sight. -/
import Derived.IntWalk
import Derived.WalkArith
namespace Go.Proofs.Ytbggickeomeidaa.Plain
open Go

theorem ediv_uniq {n c k : Int} (hc : 0 < c) (h1 : k * c ≤ n) (h2 : n < k * c + c) : n / c = k := by
  have h3 : k ≤ n / c := (Int.le_ediv_iff_mul_le hc).2 h1
  have h4 : n / c < k + 1 := (Int.ediv_lt_iff_lt_mul hc).2 (by rw [Int.add_mul]; omega)
  omega

/-- the nearest quotient of a by a positive b, halves away from 0 -/
def divP (a b : Int) : Int := if a < 0 then -((b - 2 * a) / (2 * b)) else (2 * a + b) / (2 * b)
/-- the nearest quotient of a by b, halves away from 0 -/
def divR (a b : Int) : Int := if b < 0 then divP (-a) (-b) else divP a b

/-- what Go's quotient and remainder are, in words that omega reads -/
theorem quorem (a b : Int) : ∃ q r t : Int, a.tdiv b = q ∧ a.tmod b = r ∧ b * q = t ∧ t + r = a ∧ (0 ≤ a → 0 ≤ r) ∧ (a ≤ 0 → r ≤ 0) ∧ (0 < b → r < b ∧ -b < r) ∧ (b < 0 → r < -b ∧ b < r) := by
  refine ⟨_, _, _, rfl, rfl, rfl, Int.mul_tdiv_add_tmod a b, Int.tmod_nonneg b, ?_, ?_, ?_⟩
  · intro h
    have := Int.tmod_nonneg b (a := -a) (by omega)
    rw [Int.neg_tmod] at this
    omega
  · intro h
    have h1 := Int.tmod_lt_of_pos a h
    have h2 := Int.tmod_lt_of_pos (-a) h
    rw [Int.neg_tmod] at h2
    omega
  · intro h
    have h1 := Int.tmod_lt_of_pos a (b := -b) (by omega)
    have h2 := Int.tmod_lt_of_pos (-a) (b := -b) (by omega)
    rw [Int.tmod_neg] at h1
    rw [Int.neg_tmod, Int.tmod_neg] at h2
    omega

/-- the program's way to the nearest quotient -/
theorem divR_eq {a b q r : Int} (hb : b ≠ 0) (hq : a.tdiv b = q) (hr : a.tmod b = r) :
    divR a b = (if (if b < 0 then -b else b) - (if r < 0 then -r else r) ≤ (if r < 0 then -r else r) then (if (a < 0) = (b < 0) then q + 1 else q - 1) else q) := by
  obtain ⟨q', r', t, e1, e2, ht, hs, h1, h2, h3, h4⟩ := quorem a b
  rw [hq] at e1; rw [hr] at e2; subst e1; subst e2
  unfold divR divP
  have m1 : (-b) * q = -t := by rw [Int.neg_mul, ht]
  have k1 : ∀ k : Int, k * (2 * b) = 2 * (b * k) := fun k => by rw [Int.mul_comm k, Int.mul_assoc]
  have k2 : ∀ k : Int, k * (2 * -b) = -(2 * (b * k)) := fun k => by rw [Int.mul_comm k, Int.mul_assoc, Int.neg_mul]; omega
  have p1 : b * (q + 1) = t + b := by rw [Int.mul_add, ht]; omega
  have p2 : b * (q - 1) = t - b := by rw [Int.mul_sub, ht]; omega
  have p3 : b * (-q) = -t := by rw [Int.mul_neg, ht]
  have p4 : b * (-(q + 1)) = -(t + b) := by rw [Int.mul_neg, p1]
  have p5 : b * (-(q - 1)) = -(t - b) := by rw [Int.mul_neg, p2]
  by_cases hb0 : b < 0
  · have g4 := h4 hb0
    by_cases ha0 : a < 0
    · have g2 := h2 (by omega)
      rw [if_pos hb0, if_pos hb0, if_neg (by omega : ¬ (-a < 0))]
      by_cases hr0 : r < 0
      · rw [if_pos hr0]
        by_cases hc : -b - -r ≤ -r
        · rw [if_pos hc, if_pos (by simp [ha0, hb0])]
          exact ediv_uniq (by omega) (by rw [k2, p1]; omega) (by rw [k2, p1]; omega)
        · rw [if_neg hc]
          exact ediv_uniq (by omega) (by rw [k2, ht]; omega) (by rw [k2, ht]; omega)
      · rw [if_neg hr0, if_neg (by omega)]
        exact ediv_uniq (by omega) (by rw [k2, ht]; omega) (by rw [k2, ht]; omega)
    · have g1 := h1 (by omega)
      by_cases hz : a = 0
      · subst hz
        rw [if_pos hb0, if_pos hb0, if_neg (by omega : ¬ (-(0 : Int) < 0)), if_neg (by omega : ¬ r < 0), if_neg (by omega)]
        exact ediv_uniq (by omega) (by rw [k2, ht]; omega) (by rw [k2, ht]; omega)
      · rw [if_pos hb0, if_pos hb0, if_pos (by omega : -a < 0), if_neg (by omega : ¬ r < 0)]
        by_cases hc : -b - r ≤ r
        · rw [if_pos hc, if_neg (by simp [ha0, hb0])]
          have e : (-b - 2 * -a) / (2 * -b) = -(q - 1) := ediv_uniq (by omega) (by rw [k2, p5]; omega) (by rw [k2, p5]; omega)
          rw [e]; omega
        · rw [if_neg hc]
          have e : (-b - 2 * -a) / (2 * -b) = -q := ediv_uniq (by omega) (by rw [k2, p3]; omega) (by rw [k2, p3]; omega)
          rw [e]; omega
  · have g3 := h3 (by omega)
    rw [if_neg hb0, if_neg hb0]
    by_cases ha0 : a < 0
    · have g2 := h2 (by omega)
      rw [if_pos ha0]
      by_cases hr0 : r < 0
      · rw [if_pos hr0]
        by_cases hc : b - -r ≤ -r
        · rw [if_pos hc, if_neg (by simp [ha0, hb0])]
          have e : (b - 2 * a) / (2 * b) = -(q - 1) := ediv_uniq (by omega) (by rw [k1, p5]; omega) (by rw [k1, p5]; omega)
          rw [e]; omega
        · rw [if_neg hc]
          have e : (b - 2 * a) / (2 * b) = -q := ediv_uniq (by omega) (by rw [k1, p3]; omega) (by rw [k1, p3]; omega)
          rw [e]; omega
      · rw [if_neg hr0, if_neg (by omega)]
        have e : (b - 2 * a) / (2 * b) = -q := ediv_uniq (by omega) (by rw [k1, p3]; omega) (by rw [k1, p3]; omega)
        rw [e]; omega
    · have g1 := h1 (by omega)
      rw [if_neg ha0, if_neg (by omega : ¬ r < 0)]
      by_cases hc : b - r ≤ r
      · rw [if_pos hc, if_pos (by simp [ha0, hb0])]
        exact ediv_uniq (by omega) (by rw [k1, p1]; omega) (by rw [k1, p1]; omega)
      · rw [if_neg hc]
        exact ediv_uniq (by omega) (by rw [k1, ht]; omega) (by rw [k1, ht]; omega)

/-- how far a nearest quotient may lie -/
theorem divP_bound {a b : Int} (hb : 0 < b) (M : Int) (h1 : -M ≤ a) (h2 : a ≤ M) : -M ≤ divP a b ∧ divP a b ≤ M := by
  unfold divP
  by_cases ha : a < 0
  · rw [if_pos ha]
    have u : (b - 2 * a) / (2 * b) < -a + 1 := (Int.ediv_lt_iff_lt_mul (by omega)).2 (by
      have e : (-a + 1) * (2 * b) = 2 * ((-a) * b) + 2 * b := by rw [Int.add_mul, Int.one_mul, ← Int.mul_assoc, Int.mul_comm (-a) 2, Int.mul_assoc]
      have f := Int.mul_le_mul_of_nonneg_left (show 1 ≤ b by omega) (show 0 ≤ -a by omega)
      rw [Int.mul_one] at f
      omega)
    have l : 0 ≤ (b - 2 * a) / (2 * b) := Int.ediv_nonneg (by omega) (by omega)
    omega
  · rw [if_neg ha]
    have u : (2 * a + b) / (2 * b) < a + 1 := (Int.ediv_lt_iff_lt_mul (by omega)).2 (by
      have e : (a + 1) * (2 * b) = 2 * (a * b) + 2 * b := by rw [Int.add_mul, Int.one_mul, ← Int.mul_assoc, Int.mul_comm a 2, Int.mul_assoc]
      have f := Int.mul_le_mul_of_nonneg_left (show 1 ≤ b by omega) (show 0 ≤ a by omega)
      rw [Int.mul_one] at f
      omega)
    have l : 0 ≤ (2 * a + b) / (2 * b) := Int.ediv_nonneg (by omega) (by omega)
    omega
theorem divR_bound {a b : Int} (hb : b ≠ 0) (M : Int) (h1 : -M ≤ a) (h2 : a ≤ M) : -M ≤ divR a b ∧ divR a b ≤ M := by
  unfold divR
  by_cases h : b < 0
  · rw [if_pos h]; exact divP_bound (by omega) M (by omega) (by omega)
  · rw [if_neg h]; exact divP_bound (by omega) M h1 h2

/-- the angle between two directions -/
def turnP (a b : Int) : Int := if (a - b) % 360 < 360 - (a - b) % 360 then (a - b) % 360 else 360 - (a - b) % 360

theorem tm360 (a : Int) : ∃ q r : Int, a.tmod 360 = r ∧ a = 360 * q + r ∧ -360 < r ∧ r < 360 ∧ (0 ≤ a → 0 ≤ r) := by
  obtain ⟨q, r, t, _, e2, ht, hs, h1, h2, h3, _⟩ := quorem a 360
  have := h3 (by omega)
  exact ⟨q, r, e2, by omega, by omega, by omega, h1⟩

/-- the square root, rounded down -/
def isqrt : Nat → Nat
  | 0 => 0
  | n + 1 => if (isqrt n + 1) * (isqrt n + 1) ≤ n + 1 then isqrt n + 1 else isqrt n
theorem isqrt_spec (n : Nat) : isqrt n * isqrt n ≤ n ∧ n < (isqrt n + 1) * (isqrt n + 1) := by
  induction n with
  | zero => simp [isqrt]
  | succ n ih =>
    unfold isqrt
    by_cases h : (isqrt n + 1) * (isqrt n + 1) ≤ n + 1
    · rw [if_pos h]
      refine ⟨h, ?_⟩
      have e1 : (isqrt n + 1 + 1) * (isqrt n + 1 + 1) = (isqrt n + 1) * (isqrt n + 1) + 2 * (isqrt n + 1) + 1 := by
        rw [Nat.add_mul (isqrt n + 1) 1, Nat.mul_add (isqrt n + 1)]; omega
      omega
    · rw [if_neg h]
      omega
theorem sq_lt {a b : Nat} (h : a * a < b * b) : a < b := by
  rcases Nat.lt_or_ge a b with h' | h'
  · exact h'
  · have := Nat.mul_le_mul h' h'
    omega
theorem isqrt_uniq {n r : Nat} (h1 : r * r ≤ n) (h2 : n < (r + 1) * (r + 1)) : isqrt n = r := by
  obtain ⟨g1, g2⟩ := isqrt_spec n
  have a := sq_lt (Nat.lt_of_le_of_lt g1 h2)
  have b := sq_lt (Nat.lt_of_le_of_lt h1 g2)
  omega
/-- the square root of a number, rounded down; 0 for negative ones -/
def rootF (n : Int) : Int := (isqrt n.toNat : Nat)
theorem isqrt_le {n : Nat} (h : n < 3037000500 * 3037000500) : isqrt n ≤ 3037000499 := by
  have := sq_lt (Nat.lt_of_le_of_lt (isqrt_spec n).1 h)
  omega
theorem isqrt_small {n m : Nat} (h : n < (m + 1) * (m + 1)) : isqrt n ≤ m := by
  have := sq_lt (Nat.lt_of_le_of_lt (isqrt_spec n).1 h)
  omega
theorem countP_range (N k : Nat) (p : Nat → Bool) (hk : k ≤ N) (h1 : ∀ t, t < k → p t = true) (h2 : ∀ t, k ≤ t → t < N → p t = false) : (List.range N).countP p = k := by
  induction N with
  | zero => simp; omega
  | succ N ih =>
    rw [List.range_succ, List.countP_append]
    by_cases h : k ≤ N
    · rw [ih h (fun t a b => h2 t a (by omega))]
      simp [h2 N h (by omega)]
    · obtain rfl : k = N + 1 := by omega
      have e : (List.range N).countP p = (List.range N).length := List.countP_eq_length.2 (fun t ht => h1 t (by have := List.mem_range.1 ht; omega))
      rw [e]
      simp [h1 N (by omega)]

/-- a number on a line through two points, or that of the nearer end -/
def lineF (x0 y0 x1 y1 x : Int) : Int := if x ≤ x0 ∨ x1 ≤ x0 then y0 else if x1 ≤ x then y1 else y0 + divR ((y1 - y0) * (x - x0)) (x1 - x0)

theorem mul_bound {a b : Int} {A B : Int} (hA : 0 ≤ A) (hB : 0 ≤ B) (h1 : -A ≤ a) (h2 : a ≤ A) (h3 : -B ≤ b) (h4 : b ≤ B) : -(A * B) ≤ a * b ∧ a * b ≤ A * B := by
  have n1 : a.natAbs ≤ A.natAbs := by omega
  have n2 : b.natAbs ≤ B.natAbs := by omega
  have n3 : (a * b).natAbs ≤ (A * B).natAbs := by rw [Int.natAbs_mul, Int.natAbs_mul]; exact Nat.mul_le_mul n1 n2
  have n4 : 0 ≤ A * B := Int.mul_nonneg hA hB
  omega

def absF (x : Int) : Int := if x < 0 then -x else x
theorem absF_range (x : Int) (M : Int) (h1 : -M ≤ x) (h2 : x ≤ M) : 0 ≤ absF x ∧ absF x ≤ M := by unfold absF; split <;> omega
/-- the program's way to the angle -/
theorem turn_impl (r1 r2 q1 q2 a b : Int) (h1 : a = 360 * q1 + r1) (h2 : b = 360 * q2 + r2) : (if absF (r1 - r2) % 360 ≤ 360 - absF (r1 - r2) % 360 then absF (r1 - r2) % 360 else 360 - absF (r1 - r2) % 360) = turnP a b := by
  unfold turnP absF
  by_cases h : r1 - r2 < 0
  · simp only [if_pos h]
    split <;> split <;> omega
  · simp only [if_neg h]
    split <;> split <;> omega

theorem divR_abs {a b q r : Int} (hb : b ≠ 0) (hq : a.tdiv b = q) (hr : a.tmod b = r) :
    divR a b = if absF b - absF r ≤ absF r then (if (decide (a < 0) == decide (b < 0)) = true then q + 1 else q - 1) else q := by
  rw [divR_eq hb hq hr]
  unfold absF
  by_cases h1 : a < 0 <;> by_cases h2 : b < 0 <;> simp [h1, h2]

theorem toNat_lt_of {n : Int} {P : Nat} {Q : Int} (e : (P : Int) = Q) (hp : 0 < P) (h : n < Q) : n.toNat < P := by omega
theorem le_toNat_of {n : Int} {P : Nat} {Q : Int} (e : (P : Int) = Q) (h : Q ≤ n) : P ≤ n.toNat := by omega
theorem lt_of_toNat {n : Int} {P : Nat} {Q : Int} (e : (P : Int) = Q) (h0 : 0 ≤ n) (h : n.toNat < P) : n < Q := by omega
theorem le_of_toNat {n : Int} {P : Nat} {Q : Int} (e : (P : Int) = Q) (h0 : 0 ≤ n) (h : P ≤ n.toNat) : Q ≤ n := by omega
theorem sq_cast (i : Nat) : (((i + 1) * (i + 1) : Nat) : Int) = ((i : Int) + 1) * ((i : Int) + 1) := by simp
theorem rootF_of {n : Int} {r : Nat} (h1 : r = 0 ∨ (r : Int) * r ≤ n) (h2 : n < ((r : Int) + 1) * ((r : Int) + 1)) : rootF n = r := by
  unfold rootF
  have : isqrt n.toNat = r := by
    apply isqrt_uniq
    · rcases h1 with h | h
      · subst h; simp
      · exact le_toNat_of (show ((r * r : Nat) : Int) = (r : Int) * r by simp) h
    · exact toNat_lt_of (sq_cast r) (Nat.mul_pos (by omega) (by omega)) h2
  rw [this]
theorem rootF_range (n : Int) (M : Nat) (h : n < ((M : Int) + 1) * ((M : Int) + 1)) : 0 ≤ rootF n ∧ rootF n ≤ M := by
  unfold rootF
  have := isqrt_small (n := n.toNat) (m := M) (toNat_lt_of (sq_cast M) (Nat.mul_pos (by omega) (by omega)) h)
  omega
/-- how many numbers below N have a square that does not pass n -/
theorem root_count (n : Int) (h0 : 0 ≤ n) (hn : n ≤ 9223372036854775807) : (((List.range 3037000499).countP (fun i : Nat => !decide (n < ((i : Int) + 1) * ((i : Int) + 1))) : Nat) : Int) = rootF n := by
  have hs := isqrt_spec n.toNat
  have hl : isqrt n.toNat ≤ 3037000499 := isqrt_le (by omega)
  unfold rootF
  rw [countP_range _ (isqrt n.toNat) _ hl]
  · intro t ht
    have h := Nat.mul_le_mul (show t + 1 ≤ isqrt n.toNat by omega) (show t + 1 ≤ isqrt n.toNat by omega)
    have := le_of_toNat (sq_cast t) h0 (Nat.le_trans h hs.1)
    simp only [Bool.not_eq_true', decide_eq_false_iff_not]
    omega
  · intro t ht _
    have h := Nat.mul_le_mul (show isqrt n.toNat + 1 ≤ t + 1 by omega) (show isqrt n.toNat + 1 ≤ t + 1 by omega)
    have := lt_of_toNat (sq_cast t) h0 (Nat.lt_of_lt_of_le hs.2 h)
    simp only [Bool.not_eq_false', decide_eq_true_eq]
    exact this

end Go.Proofs.Ytbggickeomeidaa.Plain
