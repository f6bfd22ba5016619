/- The walk of the law FnExactListText: a list of numbers. Printed by a program (mklawi.py). -/
import Derived.Test.YthjdmcjlnmonmaaDoorWalkI
import Derived.Test.YthjdmcjlnmonmaaDoorWalkLU
import Derived.Test.YthjdmcjlnmonmaaDoorWalkLT
namespace Go.Proofs.YthjdmcjlnmonmaaDoor.LawListText
open Go Go.RowKit Go.Proofs.YthjdmcjlnmonmaaDoor.Base Go.Proofs.YthjdmcjlnmonmaaDoor.Plain Go.Proofs.YthjdmcjlnmonmaaDoor.Words Go.Proofs.YthjdmcjlnmonmaaDoor.Ints Go.Proofs.YthjdmcjlnmonmaaDoor.WalkN Go.Proofs.YthjdmcjlnmonmaaDoor.WalkP Go.Proofs.YthjdmcjlnmonmaaDoor.WalkI Go.Proofs.YthjdmcjlnmonmaaDoor.Text Go.Proofs.YthjdmcjlnmonmaaDoor.WalkLU Go.Proofs.YthjdmcjlnmonmaaDoor.WalkLT
set_option linter.unusedVariables false
set_option linter.unusedSimpArgs false
set_option maxHeartbeats 1000000 in
theorem law (A : Option Addr) (n c : Nat) (zs : List Int) (w : World) (hT : Tab w) (ra : Rd w A n zs) (kn : n ≤ maxLen) :
    Calls Tryd.prog 7 #[.slice A n c] w fun e w' => e = .returned (.bool true) ∧ Below w.heap.size w w' := by
  have kn' := kn
  unfold maxLen at kn'
  by_cases hsz : n ≤ 1048576
  · have SP := Lib.hid (fun (W : World) (g : Nat) (ra : Rd W (some ⟨g, 0, none⟩) n zs) => (specListText _ n n zs W ra kn))
    have IM := Lib.hid (fun (W : World) (g : Nat) (ra : Rd W (some ⟨g, 0, none⟩) n zs) (hT : Tab W) => (implListText _ n n zs W ra kn hT))
    have RA := Lib.hid ra
    have HT := Lib.hid hT
    clear ra hT
    go_enter Tryd.func7, Tryd.ntmps7
    go_wp2_with fail
    refine (toInts A n c zs _ RA.out hsz).mono ?_
    rintro e w1 ⟨g1, rfl, o1, b1⟩
    have O1 := Lib.hid o1
    clear o1
    go_wp2_with fail
    refine (SP.out w1 g1 O1.out.rd).mono ?_
    rintro e w2 ⟨rfl, b2⟩
    have B2 : Hid (Below w.heap.size w w2) := Lib.hid (b1.trans (b2.mono b1.size))
    clear b1 b2
    go_wp2_with fail
    refine (toInts A n c zs _ (Rd.below B2.out RA.out) hsz).mono ?_
    rintro e w3 ⟨g3, rfl, o3, b3⟩
    have O3 := Lib.hid o3
    have B3 : Hid (Below w.heap.size w w3) := Lib.hid (B2.out.trans (b3.mono B2.out.size))
    clear o3 b3
    go_wp2_with fail
    refine (IM.out w3 g3 O3.out.rd (Tab.below B3.out HT.out)).mono ?_
    rintro e w4 ⟨rfl, b4⟩
    have B4 : Hid (Below w.heap.size w w4) := Lib.hid (B3.out.trans (b4.mono B3.out.size))
    have O4 : Hid (Rd w4 (some ⟨g3, 0, none⟩) n zs) := Lib.hid (Rd.below b4 O3.out.rd)
    clear b4
    go_wp2_with fail
    refine (toInts A n c zs _ (Rd.below B4.out RA.out) hsz).mono ?_
    rintro e w5 ⟨g5, rfl, o5, b5⟩
    have O5 := Lib.hid o5.rd
    have O6 : Hid (Rd w5 (some ⟨g3, 0, none⟩) n zs) := Lib.hid (Rd.below b5 O4.out)
    have B5 : Hid (Below w.heap.size w w5) := Lib.hid (B4.out.trans (b5.mono B4.out.size))
    clear o5 b5
    go_wp2_with fail
    refine (eqInts _ _ n n n zs _ O6.out O5.out kn).mono ?_
    rintro e w6 ⟨rfl, k, rfl⟩
    go_wp2_with fail
    go_ret
    exact ⟨rfl, below_drewN B5.out _⟩
  · clear ra hT
    go_enter Tryd.func7, Tryd.ntmps7
    go_wp2_with fail
    go_ret
    exact ⟨rfl, Below.refl _ _⟩

end Go.Proofs.YthjdmcjlnmonmaaDoor.LawListText
