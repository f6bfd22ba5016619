/- Plain laws on decibels: scaled numbers, the logarithm, the search for a power; no program in sight. -/
import Derived.Test.YtbggickeomeidaaDoorPlain
import Derived.Lib.ItoaNum
namespace Go.Proofs.YtbggickeomeidaaDoor.PlainDb
open Go Go.Proofs.YtbggickeomeidaaDoor.Plain

/-- the product of two scaled numbers, and the power of ten by which it has been divided -/
def tmN (a b : Int) : Int := if 1000000000 ≤ a * b / 100000000 then a * b / 100000000 / 10 else a * b / 100000000
def tmE (a b : Int) : Int := if 1000000000 ≤ a * b / 100000000 then 1 else 0
theorem tm_raw {a b : Int} (ha : 100000000 ≤ a ∧ a ≤ 999999999) (hb : 100000000 ≤ b ∧ b ≤ 999999999) : 10000000000000000 ≤ a * b ∧ a * b ≤ 999999998000000001 := by
  have h1 := Int.mul_le_mul ha.1 hb.1 (by omega) (by omega)
  have h2 := Int.mul_le_mul ha.2 hb.2 (by omega) (by omega)
  omega
theorem tmN_range {a b : Int} (ha : 100000000 ≤ a ∧ a ≤ 999999999) (hb : 100000000 ≤ b ∧ b ≤ 999999999) : 100000000 ≤ tmN a b ∧ tmN a b ≤ 999999999 := by
  have h := tm_raw ha hb
  unfold tmN
  split <;> omega
theorem tmE_range (a b : Int) : 0 ≤ tmE a b ∧ tmE a b ≤ 1 := by
  unfold tmE
  split <;> omega

def t2 (x : Int) : Int := tmN x x
def t4 (x : Int) : Int := tmN (t2 x) (t2 x)
def t5 (x : Int) : Int := tmN (t4 x) x
/-- the tenth power of a scaled number, and its power of ten -/
def tenN (x : Int) : Int := tmN (t5 x) (t5 x)
def tenE (x : Int) : Int := 2 * (2 * tmE x x + tmE (t2 x) (t2 x) + tmE (t4 x) x) + tmE (t5 x) (t5 x)
theorem t2_range {x : Int} (h : 100000000 ≤ x ∧ x ≤ 999999999) : 100000000 ≤ t2 x ∧ t2 x ≤ 999999999 := tmN_range h h
theorem t4_range {x : Int} (h : 100000000 ≤ x ∧ x ≤ 999999999) : 100000000 ≤ t4 x ∧ t4 x ≤ 999999999 := tmN_range (t2_range h) (t2_range h)
theorem t5_range {x : Int} (h : 100000000 ≤ x ∧ x ≤ 999999999) : 100000000 ≤ t5 x ∧ t5 x ≤ 999999999 := tmN_range (t4_range h) h
theorem tenN_range {x : Int} (h : 100000000 ≤ x ∧ x ≤ 999999999) : 100000000 ≤ tenN x ∧ tenN x ≤ 999999999 := tmN_range (t5_range h) (t5_range h)
theorem tenE_range (x : Int) : 0 ≤ tenE x ∧ tenE x ≤ 9 := by
  have h1 := tmE_range x x
  have h2 := tmE_range (t2 x) (t2 x)
  have h3 := tmE_range (t4 x) x
  have h4 := tmE_range (t5 x) (t5 x)
  unfold tenE
  omega

/-- k rounds of: raise to the tenth power, note a digit -/
def run4 : Nat → Int × Int → Int × Int
  | 0, p => p
  | k + 1, p => (tenN (run4 k p).1, 10 * (run4 k p).2 + tenE (run4 k p).1)
theorem run4_fst {p : Int × Int} (h : 100000000 ≤ p.1 ∧ p.1 ≤ 999999999) : ∀ k, 100000000 ≤ (run4 k p).1 ∧ (run4 k p).1 ≤ 999999999
  | 0 => h
  | k + 1 => tenN_range (run4_fst h k)
theorem run4_snd (p : Int × Int) : ∀ k : Nat, (run4 k p).2 + 1 ≤ (p.2 + 1) * 10 ^ k ∧ p.2 * 10 ^ k ≤ (run4 k p).2
  | 0 => by simp [run4]
  | k + 1 => by
    have ih := run4_snd p k
    have he := tenE_range (run4 k p).1
    have e1 : (p.2 + 1) * (10 : Int) ^ (k + 1) = (p.2 + 1) * 10 ^ k * 10 := by rw [Int.pow_succ, Int.mul_assoc]
    have e2 : p.2 * (10 : Int) ^ (k + 1) = p.2 * 10 ^ k * 10 := by rw [Int.pow_succ, Int.mul_assoc]
    rw [e1, e2]
    show 10 * (run4 k p).2 + tenE (run4 k p).1 + 1 ≤ _ ∧ _ ≤ 10 * (run4 k p).2 + tenE (run4 k p).1
    omega
theorem run4_bd {p : Int × Int} (h0 : 0 ≤ p.2) (h1 : p.2 ≤ 18) {k : Nat} (hk : k ≤ 4) : 0 ≤ (run4 k p).2 ∧ (run4 k p).2 ≤ 189999 := by
  have h := run4_snd p k
  obtain rfl | rfl | rfl | rfl | rfl : k = 0 ∨ k = 1 ∨ k = 2 ∨ k = 3 ∨ k = 4 := by omega
  · rw [show (10 : Int) ^ 0 = 1 by decide] at h; omega
  · rw [show (10 : Int) ^ 1 = 10 by decide] at h; omega
  · rw [show (10 : Int) ^ 2 = 100 by decide] at h; omega
  · rw [show (10 : Int) ^ 3 = 1000 by decide] at h; omega
  · rw [show (10 : Int) ^ 4 = 10000 by decide] at h; omega

theorem pow_le_nDigits (n : Nat) (h : 1 ≤ n) : 10 ^ (Lib.nDigits n - 1) ≤ n := by
  induction n using Nat.strongRecOn with
  | _ n ih =>
    by_cases hn : n < 10
    · rw [Lib.nDigits_small hn]; simpa using h
    · rw [Lib.nDigits_big hn]
      have h1 := ih (n / 10) (by omega) (by omega)
      have h2 := Lib.nDigits_pos (n / 10)
      obtain ⟨d, hd⟩ : ∃ d, Lib.nDigits (n / 10) = d + 1 := ⟨Lib.nDigits (n / 10) - 1, by omega⟩
      rw [hd] at h1 ⊢
      rw [show d + 1 + 1 - 1 = d + 1 by omega, Nat.pow_succ]
      rw [show d + 1 - 1 = d by omega] at h1
      omega
theorem nDigits_le {n : Nat} (h : 1 ≤ n) (h2 : n ≤ 9223372036854775807) : Lib.nDigits n ≤ 19 := by
  have h1 := pow_le_nDigits n h
  rcases Nat.lt_or_ge 19 (Lib.nDigits n) with hd | hd
  · have h3 : 10 ^ 19 ≤ 10 ^ (Lib.nDigits n - 1) := Nat.pow_le_pow_right (by omega) (by omega)
    rw [show (10 : Nat) ^ 19 = 10000000000000000000 by decide] at h3
    omega
  · exact hd
theorem nDigits_ge {n : Nat} (h : 1000000000 ≤ n) : 10 ≤ Lib.nDigits n := by
  have h1 := Lib.lt_pow_nDigits n
  rcases Nat.lt_or_ge (Lib.nDigits n) 10 with hd | hd
  · have h3 : 10 ^ Lib.nDigits n ≤ 10 ^ 9 := Nat.pow_le_pow_right (by omega) (by omega)
    rw [show (10 : Nat) ^ 9 = 1000000000 by decide] at h3
    omega
  · exact hd

/-- a number brought to nine digits -/
def normN (n : Nat) : Nat := if Lib.nDigits n ≤ 9 then n * 10 ^ (9 - Lib.nDigits n) else n / 10 ^ (Lib.nDigits n - 9)
theorem up_bd {n j : Nat} (h : Lib.nDigits n + j ≤ 9) : n * 10 ^ j < 1000000000 := by
  have h1 := Lib.lt_pow_nDigits n
  have h2 : n * 10 ^ j < 10 ^ Lib.nDigits n * 10 ^ j := Nat.mul_lt_mul_of_pos_right h1 (Nat.pow_pos (by omega))
  rw [← Nat.pow_add] at h2
  have h3 : 10 ^ (Lib.nDigits n + j) ≤ 10 ^ 9 := Nat.pow_le_pow_right (by omega) h
  rw [show (10 : Nat) ^ 9 = 1000000000 by decide] at h3
  omega
theorem normN_range {n : Nat} (h : 1 ≤ n) : 100000000 ≤ normN n ∧ normN n ≤ 999999999 := by
  have h1 := pow_le_nDigits n h
  have h2 := Lib.lt_pow_nDigits n
  have h3 := Lib.nDigits_pos n
  unfold normN
  by_cases hd : Lib.nDigits n ≤ 9
  · rw [if_pos hd]
    have h4 := up_bd (n := n) (j := 9 - Lib.nDigits n) (by omega)
    have h5 : 10 ^ (Lib.nDigits n - 1) * 10 ^ (9 - Lib.nDigits n) ≤ n * 10 ^ (9 - Lib.nDigits n) := Nat.mul_le_mul_right _ h1
    rw [← Nat.pow_add, show Lib.nDigits n - 1 + (9 - Lib.nDigits n) = 8 by omega, show (10 : Nat) ^ 8 = 100000000 by decide] at h5
    omega
  · rw [if_neg hd]
    have hp : 0 < 10 ^ (Lib.nDigits n - 9) := Nat.pow_pos (by omega)
    have h4 : 100000000 ≤ n / 10 ^ (Lib.nDigits n - 9) := by
      rw [Nat.le_div_iff_mul_le hp, show 100000000 = (10 : Nat) ^ 8 by decide, ← Nat.pow_add, show 8 + (Lib.nDigits n - 9) = Lib.nDigits n - 1 by omega]
      exact h1
    have h5 : n / 10 ^ (Lib.nDigits n - 9) < 1000000000 := by
      rw [Nat.div_lt_iff_lt_mul hp, show 1000000000 = (10 : Nat) ^ 9 by decide, ← Nat.pow_add, show 9 + (Lib.nDigits n - 9) = Lib.nDigits n by omega]
      exact h2
    omega
theorem up_step (n j : Nat) : (n * 10 ^ j) * 10 = n * 10 ^ (j + 1) := by rw [Nat.pow_succ, Nat.mul_assoc]
theorem down_step (n j : Nat) : n / 10 ^ j / 10 = n / 10 ^ (j + 1) := by rw [Nat.pow_succ, Nat.div_div_eq_div_mul]

/-- where the rounds begin -/
def nrm (n : Nat) : Int × Int := ((normN n : Int), (Lib.nDigits n : Int) - 1)
/-- the logarithm in thousandths of a decibel -/
def logF (n : Nat) : Int := (run4 4 (nrm n)).2
theorem nrm_fst {n : Nat} (h : 1 ≤ n) : 100000000 ≤ (nrm n).1 ∧ (nrm n).1 ≤ 999999999 := by
  have := normN_range h
  unfold nrm
  show (100000000 : Int) ≤ (normN n : Int) ∧ (normN n : Int) ≤ 999999999
  omega
theorem nrm_snd {n : Nat} (h : 1 ≤ n) (h2 : n ≤ 9223372036854775807) : 0 ≤ (nrm n).2 ∧ (nrm n).2 ≤ 18 := by
  have h1 := nDigits_le h h2
  have h3 := Lib.nDigits_pos n
  show 0 ≤ (Lib.nDigits n : Int) - 1 ∧ (Lib.nDigits n : Int) - 1 ≤ 18
  omega
theorem logF_range {n : Nat} (h : 1 ≤ n) (h2 : n ≤ 9223372036854775807) : 0 ≤ logF n ∧ logF n ≤ 189999 := run4_bd (nrm_snd h h2).1 (nrm_snd h h2).2 (Nat.le_refl 4)
theorem logF_ge {n : Nat} (h : 1000000000 ≤ n) : 90000 ≤ logF n := by
  have h1 := (run4_snd (nrm n) 4).2
  have h2 := nDigits_ge h
  rw [show (10 : Int) ^ 4 = 10000 by decide] at h1
  have h3 : (nrm n).2 = (Lib.nDigits n : Int) - 1 := rfl
  unfold logF
  omega

/-- the search of the least number with at least some logarithm -/
def powG (v : Int) (lo hi : Nat) : Nat :=
  if h : lo < hi then (if v ≤ logF ((lo + hi) / 2) then powG v lo ((lo + hi) / 2) else powG v ((lo + hi) / 2 + 1) hi) else lo
termination_by hi - lo
decreasing_by all_goals omega
theorem powG_lo {v : Int} {lo hi : Nat} (h : lo < hi) (hc : v ≤ logF ((lo + hi) / 2)) : powG v lo hi = powG v lo ((lo + hi) / 2) := by
  rw [powG, dif_pos h, if_pos hc]
theorem powG_hi {v : Int} {lo hi : Nat} (h : lo < hi) (hc : ¬ v ≤ logF ((lo + hi) / 2)) : powG v lo hi = powG v ((lo + hi) / 2 + 1) hi := by
  rw [powG, dif_pos h, if_neg hc]
theorem powG_end {v : Int} {lo hi : Nat} (h : ¬ lo < hi) : powG v lo hi = lo := by
  rw [powG, dif_neg h]
theorem powG_range (v : Int) : ∀ (d lo hi : Nat), hi - lo ≤ d → lo ≤ hi → lo ≤ powG v lo hi ∧ powG v lo hi ≤ hi
  | 0, lo, hi, hd, h => by rw [powG_end (by omega)]; omega
  | d + 1, lo, hi, hd, h => by
    by_cases hl : lo < hi
    · by_cases hc : v ≤ logF ((lo + hi) / 2)
      · rw [powG_lo hl hc]
        have := powG_range v d lo ((lo + hi) / 2) (by omega) (by omega)
        omega
      · rw [powG_hi hl hc]
        have := powG_range v d ((lo + hi) / 2 + 1) hi (by omega) (by omega)
        omega
    · rw [powG_end hl]; omega
theorem powG_le (v : Int) (M : Nat) : ∀ (d lo hi : Nat), hi - lo ≤ d → (∀ m, M ≤ m → m ≤ hi → v ≤ logF m) → lo ≤ M → powG v lo hi ≤ M
  | 0, lo, hi, hd, _, h => by rw [powG_end (by omega)]; exact h
  | d + 1, lo, hi, hd, hm, h => by
    by_cases hl : lo < hi
    · by_cases hc : v ≤ logF ((lo + hi) / 2)
      · rw [powG_lo hl hc]
        exact powG_le v M d lo ((lo + hi) / 2) (by omega) (fun m a b => hm m a (by omega)) h
      · rw [powG_hi hl hc]
        have : (lo + hi) / 2 < M := by
          rcases Nat.lt_or_ge ((lo + hi) / 2) M with h1 | h1
          · exact h1
          · exact absurd (hm _ h1 (by omega)) hc
        exact powG_le v M d ((lo + hi) / 2 + 1) hi (by omega) hm (by omega)
    · rw [powG_end hl]; exact h

/-- the least number with at least some logarithm -/
def powF (v : Int) : Int := (powG v 1 1000000000000000000 : Nat)
theorem powF_range (v : Int) : 1 ≤ powF v ∧ powF v ≤ 1000000000000000000 := by
  have := powG_range v 1000000000000000000 1 1000000000000000000 (by omega) (by omega)
  unfold powF
  omega
theorem powF_le {v : Int} (h : v ≤ 90000) : powF v ≤ 1000000000 := by
  have := powG_le v 1000000000 1000000000000000000 1 1000000000000000000 (by omega) (fun m a _ => Int.le_trans h (logF_ge a)) (by omega)
  unfold powF
  omega

/-- a power at most 0 mdB as a number that is 10^9 for 0 -/
def partF (v : Int) : Int := if v < -90000 then 0 else powF (90000 + v)
theorem partF_range {v : Int} (h : v ≤ 0) : 0 ≤ partF v ∧ partF v ≤ 1000000000 := by
  unfold partF
  split
  · omega
  · have h1 := powF_range (90000 + v)
    have h2 := powF_le (v := 90000 + v) (by omega)
    omega
theorem partF_pos {v : Int} (h : -90000 ≤ v) : 1 ≤ partF v := by
  unfold partF
  rw [if_neg (by omega)]
  exact (powF_range _).1

/-- the logarithm of an integer; 0 where there is none -/
def logZ (n : Int) : Int := if n < 1 then 0 else logF n.toNat
theorem logZ_nat {n : Nat} (h : 1 ≤ n) : logZ (n : Int) = logF n := by
  unfold logZ
  rw [if_neg (by omega), Int.toNat_natCast]
theorem logZ_range {n : Int} (h : n ≤ 9223372036854775807) : 0 ≤ logZ n ∧ logZ n ≤ 189999 := by
  unfold logZ
  split
  · omega
  · exact logF_range (by omega) (by omega)

end Go.Proofs.YtbggickeomeidaaDoor.PlainDb
