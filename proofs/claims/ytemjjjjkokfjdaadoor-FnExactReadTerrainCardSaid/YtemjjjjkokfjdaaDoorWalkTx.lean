/- Laws on texts of numbers: Decimal, PointText, DbText. -/
import Derived.Test.YtemjjjjkokfjdaaDoorDec
import Derived.Test.YtemjjjjkokfjdaaDoorPlainDb
import Derived.Deep.RegionHeld3
import Derived.Test.YtemjjjjkokfjdaaDoorOver
namespace Go.Proofs.YtemjjjjkokfjdaaDoor.WalkTx
open Go Go.RowKit Go.Proofs.YtemjjjjkokfjdaaDoor.Base Go.Proofs.YtemjjjjkokfjdaaDoor.Plain Go.Proofs.YtemjjjjkokfjdaaDoor.WalkN Go.Proofs.YtemjjjjkokfjdaaDoor.WalkP Go.Proofs.YtemjjjjkokfjdaaDoor.Words Go.Proofs.YtemjjjjkokfjdaaDoor.Ints Go.Proofs.YtemjjjjkokfjdaaDoor.Cells Go.Proofs.YtemjjjjkokfjdaaDoor.Text Go.Proofs.YtemjjjjkokfjdaaDoor.Dec Go.Proofs.YtemjjjjkokfjdaaDoor.Over
set_option linter.unusedVariables false
set_option linter.unusedSimpArgs false

theorem txt_small {n : Int} (h : -9223372036854775808 ≤ n ∧ n ≤ 9223372036854775807) : (txt n).size ≤ 20 := by
  rw [txt_size]
  unfold Lib.itoa
  split
  · rw [List.length_cons, Lib.decDigits_length]
    have := nd_le (N := n.natAbs) (by omega)
    omega
  · rw [Lib.decDigits_length]
    have := nd_le (N := n.toNat) (by omega)
    omega

theorem cat_run (a b c : ByteArray) (h : a.size + b.size ≤ 140737488355328) (hc : a ++ b = c) : ∀ W : World, (Op.stringOp .add a b).run Tryd.prog W = .ok (.string c) W := fun W => by
  rw [run_string_add_sum W a b (by omega), hc]
theorem cat_size (a b : ByteArray) : (a ++ b).size = a.size + b.size := by simp
/-- a point as text -/
def ptxt (x y : Int) : ByteArray := txt x ++ ⟨#[44]⟩ ++ txt y
/-- what PointText gives -/
def ptR (x y : Int) : ByteArray := bif okP x y then ptxt x y else ⟨#[]⟩
theorem ptR_yes {x y : Int} (h : okP x y = true) : ptR x y = ptxt x y := by unfold ptR; rw [h]; rfl
theorem ptR_no {x y : Int} (h : okP x y = false) : ptR x y = ⟨#[]⟩ := by unfold ptR; rw [h]; rfl
theorem ret_str {a b : ByteArray} (h : a = b) : Ending.returned (.string a) = .returned (.string b) := by rw [h]
theorem tab_alloc {w : World} (h : Tab w) (o : Obj) : Tab (w.alloc o) := Tab.below ((Below.refl _ _).alloc (Nat.le_refl _) _) h
theorem nd_four {n : Nat} (h1 : 1000 ≤ n) (h2 : n ≤ 1999) : Lib.nDigits n = 4 := Lib.nDigits_unique 3 n (by rw [show (10 : Nat) ^ 3 = 1000 by decide]; exact h1) (by rw [show (10 : Nat) ^ (3 + 1) = 10000 by decide]; omega)
theorem txt_four {n : Int} (h1 : 1000 ≤ n) (h2 : n ≤ 1999) : (txt n).size = 4 := by
  obtain ⟨m, rfl⟩ : ∃ m : Nat, n = (m : Int) := ⟨n.toNat, by omega⟩
  rw [txt_nat]
  exact nd_four (by omega) (by omega)
/-- a level that is not negative as text -/
def lvP (v : Int) : ByteArray := txt (v / 1000) ++ ⟨#[46]⟩ ++ (txt (1000 + v % 1000)).extract 1 4
/-- a level as text -/
def lvT (v : Int) : ByteArray := if v < 0 then ⟨#[45]⟩ ++ lvP (-v) else lvP v
theorem empty_cat (a : ByteArray) : (⟨#[]⟩ : ByteArray) ++ a = a := by
  apply ByteArray.ext
  simp
theorem absF_neg {a : Int} (h : 1 ≤ a) : absF (-a) = a := by unfold absF; rw [if_pos (by omega)]; omega
theorem absF_pos {a : Int} (h : 0 ≤ a) : absF a = a := by unfold absF; rw [if_neg (by omega)]
/-- what DbText gives -/
def dbR (v : Int) : ByteArray := bif inB v (-300000) 300000 then lvT v else ⟨#[]⟩
theorem dbR_no {v : Int} (h : inB v (-300000) 300000 = false) : dbR v = ⟨#[]⟩ := by unfold dbR; rw [h]; rfl
theorem dbR_neg {a : Int} (h1 : 1 ≤ a) (h2 : a ≤ 300000) : dbR (-a) = ⟨#[45]⟩ ++ lvP a := by
  unfold dbR lvT
  rw [inB_mk (by omega), if_pos (by omega), Int.neg_neg]
  rfl
theorem dbR_pos {a : Int} (h1 : 0 ≤ a) (h2 : a ≤ 300000) : dbR a = lvP a := by
  unfold dbR lvT
  rw [inB_mk (by omega), if_neg (by omega)]
  rfl
end Go.Proofs.YtemjjjjkokfjdaaDoor.WalkTx
