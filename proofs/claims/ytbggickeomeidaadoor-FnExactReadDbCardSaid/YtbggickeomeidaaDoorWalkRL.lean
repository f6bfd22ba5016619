/- Levels read: the law's walk. -/
import Derived.Test.YtbggickeomeidaaDoorWalkRs
namespace Go.Proofs.YtbggickeomeidaaDoor.WalkRL
open Go Go.RowKit Go.Proofs.YtbggickeomeidaaDoor.Base Go.Proofs.YtbggickeomeidaaDoor.Plain Go.Proofs.YtbggickeomeidaaDoor.PlainTx Go.Proofs.YtbggickeomeidaaDoor.WalkN Go.Proofs.YtbggickeomeidaaDoor.WalkP Go.Proofs.YtbggickeomeidaaDoor.Text Go.Proofs.YtbggickeomeidaaDoor.WalkRD Go.Proofs.YtbggickeomeidaaDoor.WalkRI Go.Proofs.YtbggickeomeidaaDoor.WalkTx Go.Proofs.YtbggickeomeidaaDoor.PlainRb Go.Proofs.YtbggickeomeidaaDoor.WalkRb Go.Proofs.YtbggickeomeidaaDoor.WalkRs
set_option linter.unusedVariables false
set_option linter.unusedSimpArgs false

theorem dbV_form (s : ByteArray) : ∃ (n : Int) (b : Bool), dbV s = .tuple #[.int .i64 n, .bool b] := by
  by_cases h : IsLv s
  · obtain ⟨v, hv, e⟩ := h
    exact ⟨_, _, dbV_yes hv e⟩
  · exact ⟨_, _, dbV_no h⟩
theorem readDb (s : ByteArray) (ws : s.size ≤ maxLen) (w : World) (hE : Env2 w) :
    Calls Tryd.prog 3 #[.string s] w fun e w' => e = .returned (.bool true) ∧ Below w.heap.size w w' := by
  unfold maxLen at ws
  by_cases hs : s.size ≤ 1048576
  · obtain ⟨n, b, hv⟩ := dbV_form s
    have C := Lib.hid (fun W (hb : Below w.heap.size w W) => implRb s W hs (Env2.below hb hE))
    have S := Lib.hid (fun W => specRb s W hs)
    rw [hv] at C S
    clear hE hv
    go_enter Tryd.func3, Tryd.ntmps3
    go_wp2_with (first | (go_at_call 29; refine (S.out _).mono ?_; rintro e w1 ⟨rfl, hb1⟩) | (go_at_call 10; refine (C.out _ (by first | exact hb1 | exact hb2)).mono ?_; rintro e w2 ⟨rfl, hb2⟩) | (go_at_call 9; go_in))
    go_ret
    exact ⟨rfl, hb1.trans (hb2.mono hb1.size)⟩
  · clear hE
    go_enter Tryd.func3, Tryd.ntmps3
    go_wp2
    go_ret
    exact ⟨rfl, Below.refl _ _⟩

end Go.Proofs.YtbggickeomeidaaDoor.WalkRL
