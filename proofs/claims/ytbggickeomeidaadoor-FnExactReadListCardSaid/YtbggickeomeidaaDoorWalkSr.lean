/- Lists read: the law's walk. -/
import Derived.Test.YtbggickeomeidaaDoorWalkSq
namespace Go.Proofs.YtbggickeomeidaaDoor.WalkSr
open Go Go.RowKit Go.Proofs.YtbggickeomeidaaDoor.Base Go.Proofs.YtbggickeomeidaaDoor.Plain Go.Proofs.YtbggickeomeidaaDoor.PlainT Go.Proofs.YtbggickeomeidaaDoor.PlainTx Go.Proofs.YtbggickeomeidaaDoor.PlainSp Go.Proofs.YtbggickeomeidaaDoor.PlainSq Go.Proofs.YtbggickeomeidaaDoor.WalkN Go.Proofs.YtbggickeomeidaaDoor.WalkP Go.Proofs.YtbggickeomeidaaDoor.Words Go.Proofs.YtbggickeomeidaaDoor.Ints Go.Proofs.YtbggickeomeidaaDoor.WalkI Go.Proofs.YtbggickeomeidaaDoor.Cells Go.Proofs.YtbggickeomeidaaDoor.Text Go.Proofs.YtbggickeomeidaaDoor.WalkTx Go.Proofs.YtbggickeomeidaaDoor.WalkLT Go.Proofs.YtbggickeomeidaaDoor.WalkLU Go.Proofs.YtbggickeomeidaaDoor.WalkRD Go.Proofs.YtbggickeomeidaaDoor.WalkRI Go.Proofs.YtbggickeomeidaaDoor.WalkSp Go.Proofs.YtbggickeomeidaaDoor.WalkSq
open Go.Proofs.YtbggickeomeidaaDoor.WalkRb (Env2)
set_option linter.unusedVariables false
set_option linter.unusedSimpArgs false

theorem readF_len {l : List UInt8} : ((readF l).getD []).length ≤ 64 := by
  unfold readF
  split
  · simp
  · split
    · simp
    · cases hn : numsF (splF 44 l) with
      | none => simp
      | some zs =>
        simp only
        split
        · have := numsF_len hn
          simp only [Option.getD_some]
          omega
        · simp
theorem got_form {l : List UInt8} {lo : Nat} {e : Ending} {w' : World} {zs : List Int} {b : Bool} {N : Nat} (h : Got l lo e w') (hz : (readF l).getD [] = zs) (hb : (readF l).isSome = b) (hN : zs.length = N) :
    ∃ (A : Option Addr) (q : Nat), e = .returned (.tuple #[.slice A N q, .bool b]) ∧ Ow w' lo A N q zs := by
  rcases h with ⟨hr, he⟩ | ⟨zs', A, n, q, hr, he, ho⟩
  · rw [hr] at hz hb
    simp at hz hb
    subst hz hb
    simp at hN
    subst hN
    exact ⟨none, 0, he, Ow.nil _ _⟩
  · rw [hr] at hz hb
    simp at hz hb
    subst hz hb
    have := ho.len
    obtain rfl : n = N := by omega
    exact ⟨A, q, he, ho⟩
theorem bl_drew {w w1 : World} (h : ∃ k, w1 = w.drewN k) : Below w.heap.size w w1 := by
  obtain ⟨k, rfl⟩ := h
  exact below_drewN (Below.refl _ _) k
set_option maxHeartbeats 1000000 in
theorem readList (s : ByteArray) (ws : s.size ≤ maxLen) (w : World) (hE : Env2 w) :
    Calls Tryd.prog 5 #[.string s] w fun e w' => e = .returned (.bool true) ∧ Below w.heap.size w w' := by
  unfold maxLen at ws
  by_cases hs : s.size ≤ 1048576
  · have h64 := readF_len (l := s.data.toList)
    obtain ⟨zs, hz⟩ : ∃ zs, (readF s.data.toList).getD [] = zs := ⟨_, rfl⟩
    obtain ⟨b, hb⟩ : ∃ b, (readF s.data.toList).isSome = b := ⟨_, rfl⟩
    obtain ⟨N, hN⟩ : ∃ N, zs.length = N := ⟨_, rfl⟩
    rw [hz, hN] at h64
    have SP : Hid (∀ W, Calls Tryd.prog 13 #[.string s] W fun e w' => (∃ (A : Option Addr) (q : Nat), e = .returned (.tuple #[.slice A N q, .bool b]) ∧ Ow w' W.heap.size A N q zs) ∧ Below W.heap.size W w') := Lib.hid (fun W => (specRl s W hs).mono fun e w' h => ⟨got_form h.1 hz hb hN, h.2⟩)
    have IM : Hid (∀ W, Below w.heap.size w W → Calls Tryd.prog 14 #[.string s] W fun e w' => (∃ (A : Option Addr) (q : Nat), e = .returned (.tuple #[.slice A N q, .bool b]) ∧ Ow w' W.heap.size A N q zs) ∧ Below W.heap.size W w') := Lib.hid (fun W hw => (implRl s W hs (Env2.below hw hE)).mono fun e w' h => ⟨got_form h.1 hz hb hN, h.2⟩)
    have nm : N ≤ maxLen := by unfold maxLen; omega
    clear hE hz hb hN
    go_enter Tryd.func5, Tryd.ntmps5
    go_wp2_with fail
    refine (SP.out _).mono ?_
    rintro e w1 ⟨⟨Aw, qw, rfl, ow⟩, hb1⟩
    have OW := Lib.hid ow
    clear ow
    have B1 := Lib.hid hb1
    have z1 := hb1.size
    clear hb1
    go_wp2_with fail
    refine (IM.out _ B1.out).mono ?_
    rintro e w2 ⟨⟨Ag, qg, rfl, og⟩, hb2⟩
    have OG := Lib.hid og
    have OW2 := Lib.hid (Ow.below hb2 OW.out)
    have AP := Lib.hid (Ap.of_lt OW.out og (Nat.le_refl _))
    have B2 := Lib.hid (B1.out.trans (hb2.mono z1))
    have z2 := hb2.size
    have GL := Lib.hid (fun a (ha : Ag = some a) => (og.block ha).1)
    clear og hb2 OW
    go_wp2_with fail
    refine (eqInts Ag Aw N qg qw zs w2 OG.out.rd OW2.out.rd nm).mono ?_
    rintro e w3 ⟨rfl, hk⟩
    have hb3 := bl_drew hk
    have OG3 := Lib.hid (Ow.below hb3 OG.out)
    have OW3 := Lib.hid (Ow.below hb3 OW2.out)
    have B3 := Lib.hid (B2.out.trans (hb3.mono (by omega)))
    have z3 := hb3.size
    clear hk hb3 OG OW2
    go_wp2_with fail
    refine (markInts Ag N qg w1.heap.size zs 1 w3 OG3.out (by omega) (by omega)).mono ?_
    rintro e w4 ⟨rfl, og4, hg4⟩
    have OG4 := Lib.hid og4
    have OW4 := Lib.hid (Ow.gr OW3.out hg4 AP.out)
    have B4 := Lib.hid (B3.out.trans (Gr.below hg4 (b := w.heap.size) (fun a ha => by have := GL.out a ha; omega) (by omega)))
    have z4 := hg4.size
    clear og4 hg4 OG3 OW3
    go_wp2_with fail
    refine (heldInts Ag N qg 1 w4 OG4.out.rd (by omega) (by omega)).mono ?_
    rintro e w' ⟨rfl, rfl⟩
    have d1 := decide_eq_false (show ¬ (1 : Int) + N < 0 by omega)
    go_wp2_with fail
    refine (IM.out _ B4.out).mono ?_
    rintro e w5 ⟨⟨Ah, qh, rfl, oh⟩, hb5⟩
    have OH := Lib.hid oh
    have OW5 := Lib.hid (Ow.below hb5 OW4.out)
    have OG5 := Lib.hid (Ow.below hb5 OG4.out)
    have B5 := Lib.hid (B4.out.trans (hb5.mono (by omega)))
    have z5 := hb5.size
    clear oh hb5 OW4 OG4
    go_wp2_with fail
    refine (eqInts Ah Aw N qh qw zs w5 OH.out.rd OW5.out.rd nm).mono ?_
    rintro e w6 ⟨rfl, hk⟩
    have hb6 := bl_drew hk
    have OG6 := Lib.hid (Ow.below hb6 OG5.out)
    have B6 := Lib.hid (B5.out.trans (hb6.mono (by omega)))
    clear hk hb6 OG5
    go_wp2_with fail
    refine (heldInts Ag N qg 1 w6 OG6.out.rd (by omega) (by omega)).mono ?_
    rintro e w' ⟨rfl, rfl⟩
    go_wp2_with fail
    go_ret
    exact ⟨rfl, B6.out⟩
  · clear hE
    go_enter Tryd.func5, Tryd.ntmps5
    go_wp2
    go_ret
    exact ⟨rfl, Below.refl _ _⟩

end Go.Proofs.YtbggickeomeidaaDoor.WalkSr
