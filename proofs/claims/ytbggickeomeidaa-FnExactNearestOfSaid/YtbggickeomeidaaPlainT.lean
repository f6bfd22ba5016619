/- Plain laws on lists of numbers, terrains, profiles and antennas. -/
import Derived.Test.YtbggickeomeidaaBase
import Derived.Test.YtbggickeomeidaaPlain
namespace Go.Proofs.Ytbggickeomeidaa.PlainT
open Go Go.Proofs.Ytbggickeomeidaa.Base Go.Proofs.Ytbggickeomeidaa.Plain
set_option linter.unusedVariables false

theorem same_step {zs ys : List Int} {k : Nat} (hz : k < zs.length) (hy : k < ys.length) (h : zs.take k = ys.take k) (e : zs.getD k 0 = ys.getD k 0) : zs.take (k + 1) = ys.take (k + 1) := by
  rw [List.take_succ_eq_append_getElem hz, List.take_succ_eq_append_getElem hy, h]
  have : zs[k] = ys[k] := by simpa [hz, hy] using e
  rw [this]
theorem same_end {zs ys : List Int} {n : Nat} (hz : zs.length = n) (hy : ys.length = n) (h : zs.take n = ys.take n) : zs = ys := by
  rwa [List.take_of_length_le (by omega), List.take_of_length_le (by omega)] at h
theorem same_not {zs ys : List Int} {k : Nat} (e : ¬ zs.getD k 0 = ys.getD k 0) : ¬ zs = ys := fun h => e (by rw [h])

/-- are all numbers from lo to hi -/
def allB (zs : List Int) (lo hi : Int) : Bool := zs.all fun z => inB z lo hi
theorem allB_stop {zs : List Int} {lo hi : Int} {k : Nat} (hk : k < zs.length) (h : inB (zs.getD k 0) lo hi = false) : allB zs lo hi = false := by
  unfold allB
  rw [List.all_eq_false]
  refine ⟨zs.getD k 0, ?_, by rw [h]; simp⟩
  have : zs.getD k 0 = zs[k] := by simp [hk]
  rw [this]
  exact List.getElem_mem hk
theorem allB_end {zs : List Int} {lo hi : Int} {n : Nat} (hl : zs.length = n) (h : ∀ k, k < n → inB (zs.getD k 0) lo hi = true) : allB zs lo hi = true := by
  unfold allB
  rw [List.all_eq_true]
  intro z hz
  obtain ⟨k, hk, rfl⟩ := List.getElem_of_mem hz
  have := h k (by omega)
  simpa [hk] using this
theorem allB_get {zs : List Int} {lo hi : Int} {k : Nat} (h : allB zs lo hi = true) (hk : k < zs.length) : lo ≤ zs.getD k 0 ∧ zs.getD k 0 ≤ hi := by
  unfold allB at h
  rw [List.all_eq_true] at h
  have h1 := h zs[k] (List.getElem_mem hk)
  have : zs.getD k 0 = zs[k] := by simp [hk]
  rw [this]
  exact inB_yes h1

/-- may a terrain have a size -/
def sizeB (s w h : Int) : Bool := inB s 1 10000 && inB w 2 24 && inB h 2 24 && decide ((w - 1) * s ≤ 200000) && decide ((h - 1) * s ≤ 200000)
theorem sizeB_yes {s w h : Int} (e : sizeB s w h = true) : (1 ≤ s ∧ s ≤ 10000) ∧ (2 ≤ w ∧ w ≤ 24) ∧ (2 ≤ h ∧ h ≤ 24) ∧ (w - 1) * s ≤ 200000 ∧ (h - 1) * s ≤ 200000 := by
  unfold sizeB at e
  simp only [Bool.and_eq_true, decide_eq_true_eq] at e
  exact ⟨inB_yes e.1.1.1.1, inB_yes e.1.1.1.2, inB_yes e.1.1.2, e.1.2, e.2⟩
/-- is a terrain valid -/
def terB (s w h : Int) (n m : Nat) (hs cs : List Int) : Bool := sizeB s w h && (decide ((n : Int) = w * h) && (decide (m = n) && (allB hs 0 90000 && allB cs 0 7)))

end Go.Proofs.Ytbggickeomeidaa.PlainT
