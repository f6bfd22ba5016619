/- Numbers as texts: the library's numeral, and the program's. -/
import Derived.Test.YtbggickeomeidaaDoorWalkN
import Derived.Test.YtbggickeomeidaaDoorShelfF
import Derived.Lib.AppendIntMem
import Derived.Lib.ItoaNum
namespace Go.Proofs.YtbggickeomeidaaDoor.Text
open Go Go.RowKit Go.Proofs.YtbggickeomeidaaDoor.Base Go.Proofs.YtbggickeomeidaaDoor.WalkN
set_option linter.unusedVariables false
set_option linter.unusedSimpArgs false

/-- the library's table of powers of ten -/
def tabName : String := "internal/strconv.uint64pow10"
def Tab (w : World) : Prop := Lib.TabIs Tryd.prog w tabName .u64 Lib.pow10Tab
theorem Tab.below {w w1 : World} (hb : Below w.heap.size w w1) (h : Tab w) : Tab w1 := Lib.tabBelow_of_tabIs h w1 hb

/-- a number in decimal -/
def txt (n : Int) : ByteArray := ⟨(Lib.itoa n).toArray⟩
theorem txt_size (n : Int) : (txt n).size = (Lib.itoa n).length := by simp [txt, ByteArray.size]
theorem txt_nat (n : Nat) : (txt (n : Int)).size = Lib.nDigits n := by
  rw [txt_size, Lib.itoa, if_neg (by omega), Lib.decDigits_length]
  simp

theorem fmtInt (n : Int) (w : World) (hn : -9223372036854775808 ≤ n ∧ n ≤ 9223372036854775807) (hT : Tab w) :
    Calls Tryd.prog 63 #[.int .i64 n, .int .i64 10] w fun e w' => e = .returned (.string (txt n)) ∧ Below w.heap.size w w' :=
  (Tryd.strconv_FormatInt_10 n hn.1 hn.2 w hT).mono fun e w' ⟨he, k, os, hw⟩ => ⟨he, by rw [hw]; exact Lib.below_grow _ _ (Nat.le_refl _) _ _⟩

theorem implDec (n : Int) (w : World) (hn : -9223372036854775808 ≤ n ∧ n ≤ 9223372036854775807) (hT : Tab w) :
    Calls Tryd.prog 36 #[.int .i64 n] w fun e w' => e = .returned (.string (txt n)) ∧ Below w.heap.size w w' := by
  have C := Lib.hid (fmtInt n w hn hT)
  clear hT
  go_enter Tryd.func36, Tryd.ntmps36
  go_wp2_with (go_at_call 63; refine C.out.mono ?_; rintro e w' ⟨rfl, hb⟩)
  go_ret
  exact ⟨rfl, hb⟩

end Go.Proofs.YtbggickeomeidaaDoor.Text
