/- SetGround of the reference. -/
import Derived.Test.YtemjjjjkokfjdaaDoorWalkSG
namespace Go.Proofs.YtemjjjjkokfjdaaDoor.WalkSH
open Go Go.RowKit Go.Proofs.YtemjjjjkokfjdaaDoor.Base Go.Proofs.YtemjjjjkokfjdaaDoor.Plain Go.Proofs.YtemjjjjkokfjdaaDoor.Words Go.Proofs.YtemjjjjkokfjdaaDoor.Ints Go.Proofs.YtemjjjjkokfjdaaDoor.WalkN Go.Proofs.YtemjjjjkokfjdaaDoor.WalkP Go.Proofs.YtemjjjjkokfjdaaDoor.WalkI Go.Proofs.YtemjjjjkokfjdaaDoor.WalkU Go.Proofs.YtemjjjjkokfjdaaDoor.PlainT Go.Proofs.YtemjjjjkokfjdaaDoor.WalkQ Go.Proofs.YtemjjjjkokfjdaaDoor.WalkW Go.Proofs.YtemjjjjkokfjdaaDoor.WalkSG
set_option linter.unusedVariables false
set_option linter.unusedSimpArgs false

theorem ow_at {w : World} {lo : Nat} {A : Option Addr} {n c i : Nat} {zs : List Int} (h : Ow w lo A n c zs) (hi : i < n) : ∃ g, A = some ⟨g, 0, none⟩ ∧ lo ≤ g ∧ g < w.heap.size ∧ w.cell? ⟨g, i, none⟩ = some (.int .i64 (zs.getD i 0)) ∧ w.frozen? ⟨g, i, none⟩ = false := by
  rcases h.form with ⟨rfl, rfl, rfl, rfl⟩ | ⟨g, cs, rfl, hlo, hb, hnc, hcm, hs, ht⟩
  · omega
  · exact ⟨g, rfl, hlo, hb.lt, by rw [hb.cell]; exact take_get ht h.len hi, hb.free i⟩
theorem ow_put {w : World} {lo g n c i : Nat} {zs : List Int} (z : Int) (h : Ow w lo (some ⟨g, 0, none⟩) n c zs) (hi : i < n) : Ow (w.setCell ⟨g, i, none⟩ (.int .i64 z)) lo (some ⟨g, 0, none⟩) n c (zs.set i z) := by
  have hl := h.len
  rcases h.form with ⟨e, _⟩ | ⟨g', cs, e, hlo, hb, hnc, hcm, hs, ht⟩
  · cases e
  · injection e with e
    injection e with e _ _
    subst e
    refine Ow.mk hlo (hb.set_ i (.int .i64 z)) hnc hcm (by rw [Array.size_setIfInBounds]; exact hs) ?_ (by simp [hl])
    apply List.ext_getElem?
    intro j
    by_cases hj : j < n
    · rw [vals_get (by simp [hl]; exact hj), List.getElem?_take, if_pos hj]
      have h2 := take_get ht hl hj
      rw [Array.getElem?_toList, Array.getElem?_setIfInBounds]
      by_cases e : i = j
      · subst e
        rw [if_pos rfl, if_pos (by omega)]
        simp [hl, hj]
      · rw [if_neg e, h2]
        simp [List.getElem?_set, e]
    · rw [List.getElem?_eq_none (by simp; omega), List.getElem?_eq_none (by rw [vals_len]; simp [hl]; omega)]

/-- a terrain in memory of its own, and a code -/
def TerRes (R0 R1 R2 C : Int) (N : Nat) (Z : List Int) (M : Nat) (Y : List Int) (W : World) (e : Ending) (w' : World) : Prop :=
  ∃ (P : Option Addr) (p : Nat) (Q : Option Addr) (q : Nat), e = .returned (.tuple #[.agg #[.int .i64 R0, .int .i64 R1, .int .i64 R2, .slice P N p, .slice Q M q], .int .i64 C]) ∧ Ow w' W.heap.size P N p Z ∧ Ow w' W.heap.size Q M q Y ∧ Ap P Q ∧ Below W.heap.size W w'
structure Ter where
  s : Int
  wd : Int
  ht : Int
  c : Int
  n : Nat
  hs : List Int
  m : Nat
  cs : List Int
/-- no terrain but a code -/
def Ter.no (c : Int) : Ter := ⟨0, 0, 0, c, 0, [], 0, []⟩
def TerR (t : Ter) : World → Ending → World → Prop := TerRes t.s t.wd t.ht t.c t.n t.hs t.m t.cs
/-- may a place of a terrain be set -/
def setB (wd ht x y h k : Int) : Bool := inB x 0 (wd - 1) && (inB y 0 (ht - 1) && (inB h 0 90000 && inB k 0 7))
/-- what SetGround gives -/
def setR (s wd ht : Int) (n m : Nat) (hs cs : List Int) (x y h k : Int) : Ter :=
  bif terB s wd ht n m hs cs then (bif setB wd ht x y h k then ⟨s, wd, ht, 0, n, hs.set (y * wd + x).toNat h, m, cs.set (y * wd + x).toNat k⟩ else Ter.no 2) else Ter.no 1

theorem far_cell {w : World} {g i b j : Nat} (u : Value) (h : b ≠ g) : (w.setCell ⟨g, i, none⟩ u).cell? ⟨b, j, none⟩ = w.cell? ⟨b, j, none⟩ :=
  World.cell?_setCell_other _ _ _ _ (fun e => h (by injection e with e _; exact e.symm))
theorem off_cell {w : World} {g i j : Nat} (u : Value) (h : i ≠ j) : (w.setCell ⟨g, i, none⟩ u).cell? ⟨g, j, none⟩ = w.cell? ⟨g, j, none⟩ :=
  World.cell?_setCell_other _ _ _ _ (fun e => h (by injection e with _ e))
/-- a box of five cells that is filled anew, behind it one more block -/
theorem box5 {S : World} {g : Nat} {b0 b1 b2 b3 b4 a0 a1 a2 a3 a4 : Value} (o : Obj) (h0 : S.cell? ⟨g, 0, none⟩ = some b0) (h1 : S.cell? ⟨g, 1, none⟩ = some b1) (h2 : S.cell? ⟨g, 2, none⟩ = some b2) (h3 : S.cell? ⟨g, 3, none⟩ = some b3) (h4 : S.cell? ⟨g, 4, none⟩ = some b4)
    {W : World} (hW : W = (((((S.setCell ⟨g, 0, none⟩ a0).setCell ⟨g, 1, none⟩ a1).setCell ⟨g, 2, none⟩ a2).setCell ⟨g, 3, none⟩ a3).setCell ⟨g, 4, none⟩ a4).alloc o) :
    W.cell? ⟨g, 0, none⟩ = some a0 ∧ W.cell? ⟨g, 1, none⟩ = some a1 ∧ W.cell? ⟨g, 2, none⟩ = some a2 ∧ W.cell? ⟨g, 3, none⟩ = some a3 ∧ W.cell? ⟨g, 4, none⟩ = some a4 := by
  have hg : g < S.heap.size := World.block_lt_of_cell? _ _ h0
  have hg2 : g < (((((S.setCell ⟨g, 0, none⟩ a0).setCell ⟨g, 1, none⟩ a1).setCell ⟨g, 2, none⟩ a2).setCell ⟨g, 3, none⟩ a3).setCell ⟨g, 4, none⟩ a4).heap.size := by simpa using hg
  subst hW
  refine ⟨?_, ?_, ?_, ?_, ?_⟩ <;> rw [World.cell?_alloc_lt _ _ _ hg2]
  · rw [off_cell _ (by omega), off_cell _ (by omega), off_cell _ (by omega), off_cell _ (by omega)]
    exact World.cell?_setCell_same _ _ _ h0
  · rw [off_cell _ (by omega), off_cell _ (by omega), off_cell _ (by omega)]
    exact World.cell?_setCell_same _ _ _ ((off_cell _ (by omega)).trans h1)
  · rw [off_cell _ (by omega), off_cell _ (by omega)]
    exact World.cell?_setCell_same _ _ _ ((off_cell _ (by omega)).trans ((off_cell _ (by omega)).trans h2))
  · rw [off_cell _ (by omega)]
    exact World.cell?_setCell_same _ _ _ ((off_cell _ (by omega)).trans ((off_cell _ (by omega)).trans ((off_cell _ (by omega)).trans h3)))
  · exact World.cell?_setCell_same _ _ _ ((off_cell _ (by omega)).trans ((off_cell _ (by omega)).trans ((off_cell _ (by omega)).trans ((off_cell _ (by omega)).trans h4))))
theorem box5_below {B : Nat} {a S : World} {g : Nat} {a0 a1 a2 a3 a4 : Value} (o : Obj) (h : Below B a S) (hg : B ≤ g) (hs : B ≤ S.heap.size)
    {W : World} (hW : W = (((((S.setCell ⟨g, 0, none⟩ a0).setCell ⟨g, 1, none⟩ a1).setCell ⟨g, 2, none⟩ a2).setCell ⟨g, 3, none⟩ a3).setCell ⟨g, 4, none⟩ a4).alloc o) : Below B a W := by
  subst hW
  exact (((((h.setCell hg _).setCell hg _).setCell hg _).setCell hg _).setCell hg _).alloc (by simpa using hs) _

end Go.Proofs.YtemjjjjkokfjdaaDoor.WalkSH
