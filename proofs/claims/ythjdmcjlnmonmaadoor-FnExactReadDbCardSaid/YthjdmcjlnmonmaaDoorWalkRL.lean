/- Levels read: the law's walk. -/
import Derived.Test.YthjdmcjlnmonmaaDoorWalkRs
namespace Go.Proofs.YthjdmcjlnmonmaaDoor.WalkRL
open Go Go.RowKit Go.Proofs.YthjdmcjlnmonmaaDoor.Base Go.Proofs.YthjdmcjlnmonmaaDoor.Plain Go.Proofs.YthjdmcjlnmonmaaDoor.PlainTx Go.Proofs.YthjdmcjlnmonmaaDoor.WalkN Go.Proofs.YthjdmcjlnmonmaaDoor.WalkP Go.Proofs.YthjdmcjlnmonmaaDoor.Text Go.Proofs.YthjdmcjlnmonmaaDoor.WalkRD Go.Proofs.YthjdmcjlnmonmaaDoor.WalkRI Go.Proofs.YthjdmcjlnmonmaaDoor.WalkTx Go.Proofs.YthjdmcjlnmonmaaDoor.PlainRb Go.Proofs.YthjdmcjlnmonmaaDoor.WalkRb Go.Proofs.YthjdmcjlnmonmaaDoor.WalkRs
set_option linter.unusedVariables false
set_option linter.unusedSimpArgs false

theorem dbV_form (s : ByteArray) : ∃ (n : Int) (b : Bool), dbV s = .tuple #[.int .i64 n, .bool b] := by
  by_cases h : IsLv s
  · obtain ⟨v, hv, e⟩ := h
    exact ⟨_, _, dbV_yes hv e⟩
  · exact ⟨_, _, dbV_no h⟩
theorem readDb (s : ByteArray) (ws : s.size ≤ maxLen) (w : World) (hE : Env2 w) :
    Calls Tryd.prog 13 #[.string s] w fun e w' => e = .returned (.bool true) ∧ Below w.heap.size w w' := by
  unfold maxLen at ws
  by_cases hs : s.size ≤ 1048576
  · obtain ⟨n, b, hv⟩ := dbV_form s
    have C := Lib.hid (fun W (hb : Below w.heap.size w W) => implRb s W hs (Env2.below hb hE))
    have S := Lib.hid (fun W => specRb s W hs)
    rw [hv] at C S
    clear hE hv
    go_enter Tryd.func13, Tryd.ntmps13
    go_wp2_with (first | (go_at_call 81; refine (S.out _).mono ?_; rintro e w1 ⟨rfl, hb1⟩) | (go_at_call 50; refine (C.out _ (by first | exact hb1 | exact hb2)).mono ?_; rintro e w2 ⟨rfl, hb2⟩) | (go_at_call 49; go_in))
    go_ret
    exact ⟨rfl, hb1.trans (hb2.mono hb1.size)⟩
  · clear hE
    go_enter Tryd.func13, Tryd.ntmps13
    go_wp2
    go_ret
    exact ⟨rfl, Below.refl _ _⟩

end Go.Proofs.YthjdmcjlnmonmaaDoor.WalkRL
