/- Plain laws: the height and the clutter at a point of a terrain. -/
import Derived.Test.YtpgjllpiefpjjaaPlainT
namespace Go.Proofs.Ytpgjllpiefpjjaa.PlainH
open Go Go.Proofs.Ytpgjllpiefpjjaa.Base Go.Proofs.Ytpgjllpiefpjjaa.Plain Go.Proofs.Ytpgjllpiefpjjaa.PlainT

def minI (a b : Int) : Int := if a < b then a else b

/-- where a point lies along one axis of the grid: the place below it -/
theorem cell_bd {x s w : Int} (hs : 1 ≤ s) (hw : 2 ≤ w) (hx : 0 ≤ x) (hu : x ≤ (w - 1) * s) :
    0 ≤ minI (x / s) (w - 2) ∧ minI (x / s) (w - 2) ≤ w - 2 ∧ 0 ≤ x - minI (x / s) (w - 2) * s ∧ x - minI (x / s) (w - 2) * s ≤ s ∧ 0 ≤ minI (x / s) (w - 2) * s ∧ minI (x / s) (w - 2) * s ≤ x := by
  have q0 : 0 ≤ x / s := Int.ediv_nonneg hx (by omega)
  have q1 : x / s * s ≤ x := Int.ediv_mul_le x (by omega)
  have q2 : x < x / s * s + s := by
    have := Int.lt_ediv_add_one_mul_self x (show 0 < s by omega)
    rw [Int.add_mul, Int.one_mul] at this
    exact this
  have p0 : 0 ≤ x / s * s := Int.mul_nonneg q0 (by omega)
  unfold minI
  split
  · exact ⟨q0, by omega, by omega, by omega, p0, q1⟩
  · have h1 : w - 2 ≤ x / s := by omega
    have h2 : (w - 2) * s ≤ x / s * s := Int.mul_le_mul_of_nonneg_right h1 (by omega)
    have h3 : (w - 1) * s = (w - 2) * s + s := by rw [show w - 1 = (w - 2) + 1 by omega, Int.add_mul, Int.one_mul]
    have h4 : 0 ≤ (w - 2) * s := Int.mul_nonneg (by omega) (by omega)
    exact ⟨by omega, by omega, by omega, by omega, h4, by omega⟩

/-- the place of a grid point -/
theorem place_bd {i k w h : Int} (hw : 2 ≤ w ∧ w ≤ 24) (hh : 2 ≤ h ∧ h ≤ 24) (hi : 0 ≤ i ∧ i ≤ w - 1) (hk : 0 ≤ k ∧ k ≤ h - 1) : 0 ≤ k * w + i ∧ k * w + i < w * h ∧ 0 ≤ k * w ∧ k * w ≤ 552 := by
  have h1 : k * w ≤ (h - 1) * w := Int.mul_le_mul_of_nonneg_right hk.2 (by omega)
  have h2 : 0 ≤ k * w := Int.mul_nonneg hk.1 (by omega)
  have h3 : (h - 1) * w = w * h - w := by rw [Int.sub_mul, Int.one_mul, Int.mul_comm]
  have h4 : k * w ≤ 23 * 24 := by
    have a1 : k * w ≤ 23 * w := Int.mul_le_mul_of_nonneg_right (by omega) (by omega)
    omega
  omega

/-- one corner's share -/
theorem share_bd {H a b : Int} (hH : 0 ≤ H ∧ H ≤ 90000) (ha : 0 ≤ a ∧ a ≤ 10000) (hb : 0 ≤ b ∧ b ≤ 10000) : (0 ≤ H * a ∧ H * a ≤ 900000000) ∧ (0 ≤ H * a * b ∧ H * a * b ≤ 9000000000000) := by
  have p1 : 0 ≤ H * a := Int.mul_nonneg hH.1 ha.1
  have m1 := mul_bound (a := H) (b := a) (A := 90000) (B := 10000) (by omega) (by omega) (by omega) (by omega) (by omega) (by omega)
  have p2 : 0 ≤ H * a * b := Int.mul_nonneg p1 hb.1
  have m2 := mul_bound (a := H * a) (b := b) (A := 900000000) (B := 10000) (by omega) (by omega) (by omega) (by omega) (by omega) (by omega)
  omega

/-- the height between four corners -/
def sumF (a b c d s u v : Int) : Int := a * (s - u) * (s - v) + b * u * (s - v) + c * (s - u) * v + d * u * v
def hgtQ (a b c d s u v : Int) : Int := (2 * sumF a b c d s u v + s * s) / (2 * s * s)
/-- the column (or row) below a place -/
def colF (x s w : Int) : Int := minI (x / s) (w - 2)
/-- the height at a point of a valid terrain -/
def hgtF (s w h : Int) (hs : List Int) (x y : Int) : Int :=
  hgtQ (hs.getD (colF y s h * w + colF x s w).toNat 0) (hs.getD (colF y s h * w + colF x s w + 1).toNat 0) (hs.getD (colF y s h * w + colF x s w + w).toNat 0) (hs.getD (colF y s h * w + colF x s w + w + 1).toNat 0)
    s (x - colF x s w * s) (y - colF y s h * s)
/-- the clutter at a point of a valid terrain -/
def cluF (s w : Int) (cs : List Int) (x y : Int) : Int := cs.getD ((2 * y + s) / (2 * s) * w + (2 * x + s) / (2 * s)).toNat 0
theorem near_bd {x s w : Int} (hs : 1 ≤ s) (hx : 0 ≤ x) (hu : x ≤ (w - 1) * s) : 0 ≤ (2 * x + s) / (2 * s) ∧ (2 * x + s) / (2 * s) ≤ w - 1 := by
  refine ⟨Int.ediv_nonneg (by omega) (by omega), ?_⟩
  have h : 2 * x + s < (w - 1 + 1) * (2 * s) := by
    have e : (w - 1 + 1) * (2 * s) = 2 * ((w - 1) * s) + 2 * s := by rw [Int.add_mul, Int.one_mul, Int.mul_left_comm]
    omega
  have := Int.ediv_lt_of_lt_mul (show 0 < 2 * s by omega) h
  omega

end Go.Proofs.Ytpgjllpiefpjjaa.PlainH
