/- Rows of one's own: copies, reversal, appending. -/
import Derived.Test.YtemjjjjkokfjdaaDoorWalkU
import Derived.OwnWalk
import Derived.Laws.AppendOwn
import Derived.RegionTactic
import Derived.Lib.SliceRun
namespace Go.Proofs.YtemjjjjkokfjdaaDoor.WalkQ
open Go Go.RowKit Go.Proofs.YtemjjjjkokfjdaaDoor.Base Go.Proofs.YtemjjjjkokfjdaaDoor.Plain Go.Proofs.YtemjjjjkokfjdaaDoor.Words Go.Proofs.YtemjjjjkokfjdaaDoor.Ints Go.Proofs.YtemjjjjkokfjdaaDoor.WalkN Go.Proofs.YtemjjjjkokfjdaaDoor.WalkP Go.Proofs.YtemjjjjkokfjdaaDoor.WalkI Go.Proofs.YtemjjjjkokfjdaaDoor.WalkU Go.Proofs.YtemjjjjkokfjdaaDoor.PlainT
set_option linter.unusedVariables false
set_option linter.unusedSimpArgs false

theorem row_form {w : World} {lo n : Nat} {v : Value} {zs : List Int} (h : w.ownsRow lo 2 1 v n (vals zs)) (h0 : 0 < n) : ∃ (B : Option Addr) (d : Nat), v = .slice B n d ∧ Ow w lo B n d zs := by
  have h2 := h
  rcases h2.2 with ⟨_, hn⟩ | ⟨g, cap, cur, rfl, _⟩
  · omega
  · exact ⟨_, _, rfl, h⟩
theorem infoI : (Tryd.prog.info? 2).map (fun i => (i.zero, i.size, i.bytes)) = some (some (.int .i64 0), 1, 8) := by kernel_rfl
theorem vals_one (zs : List Int) : ∀ u ∈ vals zs, u.oneCell' = true := by
  intro u hu
  obtain ⟨z, _, rfl⟩ := List.mem_map.1 hu
  rfl
theorem rd_news {w : World} {ad : Addr} {n : Nat} {zs : List Int} (h : Rd w (some ad) n zs) : ∀ j u, (vals zs)[j]? = some u → w.cell? (ad.add j) = some u := by
  intro j u hu
  have hj : j < zs.length := by
    have := (List.getElem?_eq_some_iff.1 hu).1
    rwa [vals_len] at this
  rw [vals_get hj] at hu
  injection hu with hu
  subst hu
  obtain ⟨ad', e, hc⟩ := h.at_ (k := j) (by rw [← h.len]; exact hj)
  injection e with e
  subst e
  exact hc

/-- what a copy of one's own is -/
def Copy (w : World) (n : Nat) (zs : List Int) (e : Ending) (w' : World) : Prop := ∃ (B : Option Addr) (d : Nat), e = .returned (.slice B n d) ∧ Ow w' w.heap.size B n d zs ∧ Below w.heap.size w w'

end Go.Proofs.YtemjjjjkokfjdaaDoor.WalkQ
