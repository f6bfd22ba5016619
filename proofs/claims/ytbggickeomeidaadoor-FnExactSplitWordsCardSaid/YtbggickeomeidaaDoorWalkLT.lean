/- Lists of numbers as texts: the reference's and the program's. -/
import Derived.Test.YtbggickeomeidaaDoorWalkTx
import Derived.Test.YtbggickeomeidaaDoorPlainSp
import Derived.Test.YtbggickeomeidaaDoorPlainT
import Derived.Test.YtbggickeomeidaaDoorWalkI
import Derived.Test.YtbggickeomeidaaDoorShelfJ
namespace Go.Proofs.YtbggickeomeidaaDoor.WalkLT
open Go Go.RowKit Go.Proofs.YtbggickeomeidaaDoor.Base Go.Proofs.YtbggickeomeidaaDoor.Plain Go.Proofs.YtbggickeomeidaaDoor.PlainT Go.Proofs.YtbggickeomeidaaDoor.PlainTx Go.Proofs.YtbggickeomeidaaDoor.PlainSp Go.Proofs.YtbggickeomeidaaDoor.WalkN Go.Proofs.YtbggickeomeidaaDoor.WalkP Go.Proofs.YtbggickeomeidaaDoor.Words Go.Proofs.YtbggickeomeidaaDoor.Ints Go.Proofs.YtbggickeomeidaaDoor.WalkI Go.Proofs.YtbggickeomeidaaDoor.Cells Go.Proofs.YtbggickeomeidaaDoor.Text Go.Proofs.YtbggickeomeidaaDoor.Dec Go.Proofs.YtbggickeomeidaaDoor.WalkTx
set_option linter.unusedVariables false
set_option linter.unusedSimpArgs false

theorem fit_eq (zs : List Int) : fitB zs = (allB zs (-1000000000000) 1000000000000 && decide (zs.length ≤ 64)) := rfl
/-- numbers put together -/
def jn (zs : List Int) : List UInt8 := Lib.join (zs.map Lib.itoa) [44]
theorem jn_one (z : Int) : jn [z] = Lib.itoa z := by
  unfold jn
  rw [List.map_cons, List.map_nil, Lib.join_one]
theorem jn_snoc {zs : List Int} (z : Int) (h : zs ≠ []) : jn (zs ++ [z]) = jn zs ++ [44] ++ Lib.itoa z := by
  unfold jn
  cases zs with
  | nil => exact absurd rfl h
  | cons a r =>
    rw [List.cons_append, List.map_cons, List.map_cons, Lib.join_cons, Lib.join_cons]
    simp [Lib.joinTail]
def jt (zs : List Int) : ByteArray := ⟨(jn zs).toArray⟩
theorem jt_size (zs : List Int) : (jt zs).size = (jn zs).length := by simp [jt, ByteArray.size]
theorem itoa_small {n : Int} (h : -1000000000000 ≤ n ∧ n ≤ 1000000000000) : (Lib.itoa n).length ≤ 20 := by
  have := txt_small (n := n) (by omega)
  rwa [txt_size] at this
theorem take_snocI {zs : List Int} {k : Nat} (h : k < zs.length) : zs.take (k + 1) = zs.take k ++ [zs.getD k 0] := by
  rw [List.take_succ_eq_append_getElem h]
  simp [h]
theorem jn_len {zs : List Int} (h : allB zs (-1000000000000) 1000000000000 = true) : ∀ k, k ≤ zs.length → (jn (zs.take k)).length ≤ 21 * k
  | 0, _ => by simp [jn, Lib.join_nil]
  | k + 1, hk => by
    have ih := jn_len h k (by omega)
    have hz := itoa_small (allB_get (k := k) h (by omega))
    rw [take_snocI (by omega)]
    by_cases h0 : zs.take k = []
    · rw [h0, List.nil_append, jn_one]
      omega
    · rw [jn_snoc _ h0, List.length_append, List.length_append, List.length_singleton]
      omega
theorem jt_next {zs : List Int} {k : Nat} (hk : k < zs.length) (h0 : 1 ≤ k) : jt (zs.take k) ++ ⟨#[44]⟩ ++ txt (zs.getD k 0) = jt (zs.take (k + 1)) := by
  have hne : zs.take k ≠ [] := by
    intro e
    have := congrArg List.length e
    rw [List.length_take, List.length_nil] at this
    omega
  unfold jt txt
  rw [take_snocI hk, jn_snoc _ hne]
  apply ByteArray.ext
  simp
theorem jt_first {zs : List Int} (hk : 0 < zs.length) : txt (zs.getD 0 0) = jt (zs.take 1) := by
  unfold jt txt
  rw [take_snocI hk, List.take_zero, List.nil_append, jn_one]

/-- a list as text -/
def listR (zs : List Int) : ByteArray := ⟨(listF zs).toArray⟩
theorem listR_no {zs : List Int} (h : fitB zs = false) : listR zs = ⟨#[]⟩ := by unfold listR listF; rw [h]; rfl
theorem listR_nil : listR [] = ⟨#[45]⟩ := rfl
theorem listR_yes {zs : List Int} (h : fitB zs = true) (h0 : zs ≠ []) : listR zs = jt zs := by
  unfold listR listF lstF
  rw [h, if_neg h0]
  rfl

end Go.Proofs.YtbggickeomeidaaDoor.WalkLT
