/- Bounds of a terrain. -/
import Derived.Test.YtemjjjjkokfjdaaDoorWalkSH
namespace Go.Proofs.YtemjjjjkokfjdaaDoor.WalkSI0
open Go Go.RowKit Go.Proofs.YtemjjjjkokfjdaaDoor.Base Go.Proofs.YtemjjjjkokfjdaaDoor.Plain Go.Proofs.YtemjjjjkokfjdaaDoor.Words Go.Proofs.YtemjjjjkokfjdaaDoor.Ints Go.Proofs.YtemjjjjkokfjdaaDoor.WalkN Go.Proofs.YtemjjjjkokfjdaaDoor.WalkP Go.Proofs.YtemjjjjkokfjdaaDoor.WalkI Go.Proofs.YtemjjjjkokfjdaaDoor.WalkU Go.Proofs.YtemjjjjkokfjdaaDoor.PlainT Go.Proofs.YtemjjjjkokfjdaaDoor.WalkQ Go.Proofs.YtemjjjjkokfjdaaDoor.WalkW Go.Proofs.YtemjjjjkokfjdaaDoor.WalkSH
set_option linter.unusedVariables false

theorem ter_len {s wd ht : Int} {n m : Nat} {hs cs : List Int} (ty : terB s wd ht n m hs cs = true) : 4 ≤ n ∧ n ≤ 576 ∧ m = n := by
  have t := ter_yes ty
  have b := sizeB_yes t.1
  have p3 : wd * ht ≤ 24 * 24 := Int.mul_le_mul (by omega) (by omega) (by omega) (by omega)
  have p4 : 2 * 2 ≤ wd * ht := Int.mul_le_mul (by omega) (by omega) (by omega) (by omega)
  have := t.2.1
  exact ⟨by omega, by omega, t.2.2.1⟩

/-- a box of five cells that is filled anew -/
theorem box5n {S : World} {g : Nat} {b0 b1 b2 b3 b4 a0 a1 a2 a3 a4 : Value} (h0 : S.cell? ⟨g, 0, none⟩ = some b0) (h1 : S.cell? ⟨g, 1, none⟩ = some b1) (h2 : S.cell? ⟨g, 2, none⟩ = some b2) (h3 : S.cell? ⟨g, 3, none⟩ = some b3) (h4 : S.cell? ⟨g, 4, none⟩ = some b4)
    {W : World} (hW : W = ((((S.setCell ⟨g, 0, none⟩ a0).setCell ⟨g, 1, none⟩ a1).setCell ⟨g, 2, none⟩ a2).setCell ⟨g, 3, none⟩ a3).setCell ⟨g, 4, none⟩ a4) :
    W.cell? ⟨g, 0, none⟩ = some a0 ∧ W.cell? ⟨g, 1, none⟩ = some a1 ∧ W.cell? ⟨g, 2, none⟩ = some a2 ∧ W.cell? ⟨g, 3, none⟩ = some a3 ∧ W.cell? ⟨g, 4, none⟩ = some a4 := by
  have hg : g < W.heap.size := by rw [hW]; have := World.block_lt_of_cell? _ _ h0; simpa using this
  obtain ⟨c0, c1, c2, c3, c4⟩ := box5 (.cells #[] 0) h0 h1 h2 h3 h4 (W := W.alloc (.cells #[] 0)) (by rw [hW])
  rw [World.cell?_alloc_lt _ _ _ hg] at c0 c1 c2 c3 c4
  exact ⟨c0, c1, c2, c3, c4⟩
theorem box5n_below {B : Nat} {a S : World} {g : Nat} {a0 a1 a2 a3 a4 : Value} (h : Below B a S) (hg : B ≤ g)
    {W : World} (hW : W = ((((S.setCell ⟨g, 0, none⟩ a0).setCell ⟨g, 1, none⟩ a1).setCell ⟨g, 2, none⟩ a2).setCell ⟨g, 3, none⟩ a3).setCell ⟨g, 4, none⟩ a4) : Below B a W := by
  subst hW
  exact ((((h.setCell hg _).setCell hg _).setCell hg _).setCell hg _).setCell hg _

end Go.Proofs.YtemjjjjkokfjdaaDoor.WalkSI0
