/- Arguments opened: slices of numbers, structs of one-cell fields, slices of pairs. -/
import Derived.Test.YtbggickeomeidaaInts
import Derived.Deep.Slices
import Derived.Deep.Fields
import Derived.ChangeSame
import Derived.ChangeSlices
import Derived.Lib.SmallJoins
namespace Go.Proofs.Ytbggickeomeidaa.Open
open Go Go.ChangeShapes Go.WideShapes Go.Deep Go.Joins Go.RowKit Go.Proofs.Ytbggickeomeidaa.Ints

section
variable {H : Type} {enc : TypeId × Value → H} {P : Program} {w : World} {base : Nat} {spare : Nat → Bool} {held : Bool}
theorem open_fields {r : Reach} {b0 : Nat} {t : TypeId} {fs : Array Field} {v : Value} {d : DataW H} {p : List MemPlace} (hs : P.underlying t = some (.struct fs)) (hone : oneCellFields P fs = true) (hC : P.cellsOf t = fs.size)
    (hv : Value.okWide P w r b0 t v) (h : DataW.Trod enc P w base spare held t v d p) :
    ∃ (cs : List Value) (n : Nat), v = .agg ⟨cs⟩ ∧ cs.length = fs.size ∧ ∀ (j : Nat) (f : Field) (u : Value), fs[j]? = some f → cs[j]? = some u → ∃ y, DataW.trod enc P w base spare held n f.type [u] = some y := by
  obtain ⟨cs, rfl, hsz⟩ := okWide_struct hs hv
  obtain ⟨fuel, hf⟩ := h
  obtain ⟨xs, n, _, hx, _, hlen, hg⟩ := DataW.trod_struct hs hf
  obtain ⟨l⟩ := cs
  refine ⟨l, n, rfl, hsz.trans hC, fun j f u hj hu => ?_⟩
  obtain ⟨ho, hk⟩ := hone_of hone j f hj
  have h1 := hg j f hj
  rw [ho, hk] at h1
  have h2 : (List.drop j l).take 1 = [u] := by
    obtain ⟨hlt, rfl⟩ := List.getElem?_eq_some_iff.1 hu
    rw [List.drop_eq_getElem_cons hlt]
    rfl
  have h3 : j < xs.length := by
    have := (Array.getElem?_eq_some_iff.1 hj).1
    omega
  refine ⟨xs[j], ?_⟩
  rw [List.getElem?_eq_getElem h3] at h1
  rw [← h1, ← h2]
  rfl

theorem open_rd {t e : TypeId} {fuel : Nat} {u : Value} {x : DataW H × List MemPlace} (ht : P.underlying t = some (.slice e)) (he : P.underlying e = some (.int .i64)) (hc : P.cellsOf e = 1)
    (h : DataW.trod enc P w base spare held fuel t [u] = some x) :
    ∃ (A : Option Addr) (n c : Nat) (zs : List Int), u = .slice A n c ∧ Rd w A n zs ∧ n ≤ maxLen := by
  rcases open_ints ht he hc h with ⟨h1, _⟩ | ⟨a, len, cap, zs, h1, _, hl, hm, hz, _, hcell, _⟩
  · injection h1 with h1
    exact ⟨none, 0, 0, [], h1, Rd.nil _ _, Nat.zero_le _⟩
  · injection h1 with h1
    refine ⟨some a, len, cap, zs.take len, h1, ⟨?_, fun hn => ⟨a, rfl, fun k hk => ?_⟩⟩, by omega⟩
    · rw [List.length_take, hz]
      split <;> omega
    · have h2 : k < zs.length := by rw [hz]; split <;> omega
      rw [hcell k h2]
      simp [List.getD_eq_getElem?_getD, hk]
theorem open_rd_top {r : Reach} {b0 : Nat} {t e : TypeId} {fuel : Nat} {v : Value} {x : DataW H × List MemPlace} (ht : P.underlying t = some (.slice e)) (he : P.underlying e = some (.int .i64)) (hc : P.cellsOf e = 1)
    (hv : Value.okWide P w r b0 t v) (h : DataW.trod enc P w base spare held fuel t v.cells.toList = some x) :
    ∃ (A : Option Addr) (n c : Nat) (zs : List Int), v = .slice A n c ∧ Rd w A n zs ∧ n ≤ maxLen := by
  obtain ⟨a, len, cap, rfl⟩ := okWide_slice ht hv
  exact open_rd ht he hc h
end

end Go.Proofs.Ytbggickeomeidaa.Open
