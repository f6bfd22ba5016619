/- Plain laws on sines: no program in sight. -/
import Derived.Test.YtbggickeomeidaaDoorPlain
namespace Go.Proofs.YtbggickeomeidaaDoor.PlainD
open Go Go.Proofs.YtbggickeomeidaaDoor.Plain

/-- the sines of 0 to 90 degrees, in millionths -/
def sinL : List Int := [0, 17452, 34899, 52336, 69756, 87156, 104528, 121869, 139173, 156434, 173648, 190809, 207912, 224951, 241922, 258819, 275637, 292372, 309017, 325568, 342020, 358368, 374607, 390731, 406737, 422618, 438371, 453990, 469472, 484810, 500000, 515038, 529919, 544639, 559193, 573576, 587785, 601815, 615661, 629320, 642788, 656059, 669131, 681998, 694658, 707107, 719340, 731354, 743145, 754710, 766044, 777146, 788011, 798636, 809017, 819152, 829038, 838671, 848048, 857167, 866025, 874620, 882948, 891007, 898794, 906308, 913545, 920505, 927184, 933580, 939693, 945519, 951057, 956305, 961262, 965926, 970296, 974370, 978148, 981627, 984808, 987688, 990268, 992546, 994522, 996195, 997564, 998630, 999391, 999848, 1000000]
theorem sinL_len : sinL.length = 91 := by rfl
theorem sinL_all : ∀ x ∈ sinL, 0 ≤ x ∧ x ≤ 1000000 := by decide
/-- the sine of a number of degrees from 0 to 90 -/
def sinI (j : Nat) : Int := sinL.getD j 0
theorem sinI_bd (j : Nat) : 0 ≤ sinI j ∧ sinI j ≤ 1000000 := by
  unfold sinI
  by_cases h : j < sinL.length
  · rw [List.getD_eq_getElem?_getD, List.getElem?_eq_getElem h, Option.getD_some]
    exact sinL_all _ (List.getElem_mem h)
  · rw [List.getD_eq_getElem?_getD, List.getElem?_eq_none (by omega), Option.getD_none]
    omega
/-- of a number of degrees from 0 to 180 -/
def sin2 (d : Int) : Int := sinI (if 90 < d then 180 - d else d).toNat
/-- of a number of degrees from 0 to 359 -/
def sin3 (d : Int) : Int := if 180 ≤ d then -(sin2 (d - 180)) else sin2 d
/-- of any number of degrees -/
def sinF (d : Int) : Int := sin3 (d % 360)
def cosF (d : Int) : Int := sinF (d + 90)
theorem sin2_bd (d : Int) : 0 ≤ sin2 d ∧ sin2 d ≤ 1000000 := sinI_bd _
theorem sin3_bd (d : Int) : -1000000 ≤ sin3 d ∧ sin3 d ≤ 1000000 := by
  have a := sin2_bd d
  have b := sin2_bd (d - 180)
  unfold sin3
  split <;> omega
theorem sinF_bd (d : Int) : -1000000 ≤ sinF d ∧ sinF d ≤ 1000000 := sin3_bd _
theorem cosF_bd (d : Int) : -1000000 ≤ cosF d ∧ cosF d ≤ 1000000 := sin3_bd _
theorem sin2_lo {d : Int} (h : ¬ 90 < d) : sin2 d = sinI d.toNat := by unfold sin2; rw [if_neg h]
theorem sin2_hi {d : Int} (h : 90 < d) : sin2 d = sinI (180 - d).toNat := by unfold sin2; rw [if_pos h]
theorem sin3_lo {d : Int} (h : ¬ 180 ≤ d) : sin3 d = sin2 d := by unfold sin3; rw [if_neg h]
theorem sin3_hi {d : Int} (h : 180 ≤ d) : sin3 d = -(sin2 (d - 180)) := by unfold sin3; rw [if_pos h]
theorem sinF_low {d : Int} (h0 : 0 ≤ d) (h : d < 360) : sinF d = sin3 d := by unfold sinF; rw [Int.emod_eq_of_lt h0 h]

theorem sin_at {k s : Int} (h0 : 0 ≤ k) (h1 : k < 360) (hs : k % 180 = s) : sin3 k = if 180 ≤ k then -(sinI (if 90 < s then 180 - s else s).toNat) else sinI (if 90 < s then 180 - s else s).toNat := by
  unfold sin3 sin2
  by_cases h : 180 ≤ k
  · obtain rfl : s = k - 180 := by omega
    rw [if_pos h, if_pos h]
  · obtain rfl : s = k := by omega
    rw [if_neg h, if_neg h]
/-- how far a step leads in a direction -/
def dotF (u v d : Int) : Int := u * sinF d + v * cosF d
/-- the best direction among those below k -/
def bestF (u v : Int) : Nat → Nat
  | 0 => 0
  | k + 1 => if dotF u v (bestF u v k) < dotF u v k then k else bestF u v k
theorem bestF_lt (u v : Int) (k : Nat) : bestF u v k ≤ k := by
  induction k with
  | zero => simp [bestF]
  | succ k ih => unfold bestF; split <;> omega
theorem bestF_one (u v : Int) : bestF u v 1 = 0 := by simp [bestF]
theorem dotF_bd {u v : Int} (hu : -200000 ≤ u ∧ u ≤ 200000) (hv : -200000 ≤ v ∧ v ≤ 200000) (d : Int) : -400000000000 ≤ dotF u v d ∧ dotF u v d ≤ 400000000000 := by
  have a := sinF_bd d
  have b := cosF_bd d
  have m1 := mul_bound (a := u) (b := sinF d) (A := 200000) (B := 1000000) (by omega) (by omega) (by omega) (by omega) (by omega) (by omega)
  have m2 := mul_bound (a := v) (b := cosF d) (A := 200000) (B := 1000000) (by omega) (by omega) (by omega) (by omega) (by omega) (by omega)
  unfold dotF
  omega
theorem dotF_parts {u v : Int} (hu : -200000 ≤ u ∧ u ≤ 200000) (hv : -200000 ≤ v ∧ v ≤ 200000) (d : Int) :
    (-200000000000 ≤ u * sinF d ∧ u * sinF d ≤ 200000000000) ∧ (-200000000000 ≤ v * cosF d ∧ v * cosF d ≤ 200000000000) := by
  have a := sinF_bd d
  have b := cosF_bd d
  have m1 := mul_bound (a := u) (b := sinF d) (A := 200000) (B := 1000000) (by omega) (by omega) (by omega) (by omega) (by omega) (by omega)
  have m2 := mul_bound (a := v) (b := cosF d) (A := 200000) (B := 1000000) (by omega) (by omega) (by omega) (by omega) (by omega) (by omega)
  exact ⟨by omega, by omega⟩

end Go.Proofs.YtbggickeomeidaaDoor.PlainD
