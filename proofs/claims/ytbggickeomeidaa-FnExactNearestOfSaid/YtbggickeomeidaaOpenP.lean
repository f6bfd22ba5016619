/- Arguments opened: slices of points. -/
import Derived.Test.YtbggickeomeidaaPts
import Derived.Test.YtbggickeomeidaaOpen
import Derived.Deep.SlicePairs
namespace Go.Proofs.Ytbggickeomeidaa.OpenP
open Go Go.ChangeShapes Go.WideShapes Go.Deep Go.Joins Go.RowKit Go.Proofs.Ytbggickeomeidaa.Pts
set_option linter.unusedVariables false

section
variable {H : Type} {enc : TypeId × Value → H} {w : World} {base : Nat} {spare : Nat → Bool} {held : Bool}
theorem fields : ∃ f0 f1 : Field, Try.prog.underlying 24 = some (.struct #[f0, f1]) ∧ (f0.type = 2 ∧ f0.offset = 0) ∧ f1.type = 2 ∧ f1.offset = 1 :=
  ⟨⟨ "X", 2, 0, false, "", "", 0⟩, ⟨ "Y", 2, 1, false, "", "", 8⟩, by kernel_rfl, ⟨rfl, rfl⟩, rfl, rfl⟩
theorem open_rp {r : Reach} {b0 : Nat} {fuel : Nat} {v : Value} {x : DataW H × List MemPlace}
    (hv : Value.okWide Try.prog w r b0 22 v) (h : DataW.trod enc Try.prog w base spare held fuel 22 v.cells.toList = some x) :
    ∃ (A : Option Addr) (n c : Nat) (ps : List PT), v = .slice A n c ∧ Rp w A n ps ∧ n ≤ maxLen := by
  obtain ⟨a0, len0, cap0, rfl⟩ := okWide_slice Try.underlying22 hv
  obtain ⟨f0, f1, hs, ⟨t0, o0⟩, t1, o1⟩ := fields
  have hc : Try.prog.cellsOf 2 = 1 := by kernel_rfl
  rcases open_slice_pairs Try.underlying22 hs (by kernel_rfl) o0 o1 (by rw [t0]; exact hc) (by rw [t1]; exact hc) h with ⟨h1, _⟩ | ⟨a, len, cap, m, n, V0, V1, D0, D1, P0, P1, h1, _, hl, hm, hmm, _, hx⟩
  · simp [Value.cells] at h1
    obtain ⟨rfl, rfl, rfl⟩ := h1
    exact ⟨none, 0, 0, [], rfl, Rp.nil _ _, Nat.zero_le _⟩
  · simp [Value.cells] at h1
    obtain ⟨rfl, rfl, rfl⟩ := h1
    have hlm : len0 ≤ m := by rw [hmm]; split <;> omega
    refine ⟨some a, len0, cap0, (List.range len0).map fun i => (intOf (V0 i), intOf (V1 i)), rfl, ⟨by simp, fun _ => ⟨a, rfl, fun k hk => ?_⟩⟩, by omega⟩
    obtain ⟨g0, g1, r0, r1⟩ := hx k (by omega)
    rw [t0] at r0
    rw [t1] at r1
    obtain ⟨x0, e0, _, _⟩ := DataW.trod_int Try.underlying2 r0
    obtain ⟨x1, e1, _, _⟩ := DataW.trod_int Try.underlying2 r1
    simp at e0 e1
    have z0 : at0 ((List.range len0).map fun i => (intOf (V0 i), intOf (V1 i))) k = x0 := by simp [at0, hk, e0, intOf]
    have z1 : at1 ((List.range len0).map fun i => (intOf (V0 i), intOf (V1 i))) k = x1 := by simp [at1, hk, e1, intOf]
    rw [z0, z1, g0, g1, e0, e1]
    exact ⟨rfl, rfl⟩
end

end Go.Proofs.Ytbggickeomeidaa.OpenP
