/- The given statement of FnExactTerrainText: for every input the law returns true and its arguments read afterwards as before. No condition. The frame is written by a program (mkfinal.py), the walk is in YtpgjllpiefpjjaaDoorLawTerrainText. -/
import Derived.Test.YtpgjllpiefpjjaaDoorRows
import Derived.Test.YtpgjllpiefpjjaaDoorLawTerrainText
import Derived.WalkKit
import Derived.ProofKit
import Derived.OpenShut
import Derived.ShutString
import Derived.ChangeOld
import Derived.Below
import Derived.Carry
import Derived.Lib.SmallJoins
import Derived.Test.YtpgjllpiefpjjaaDoorOpen
import Derived.Test.YtpgjllpiefpjjaaDoorTie
import Derived.Test.YtpgjllpiefpjjaaDoorCards
import Derived.SevenTiedAt
import Derived.LaidLaws
import Derived.LaidHandle
import Derived.Stop.Joined
import Derived.LaidMore
import Derived.Lib.LaidTab
import Derived.MakeChecks
import Derived.OpenVars
import Derived.ChangeVars
import Derived.Stop.LaidErr
import Derived.Test.YtpgjllpiefpjjaaDoorText
namespace Go.Proofs.YtpgjllpiefpjjaaDoor.fnExactTerrainText
open Go.Proofs.YtpgjllpiefpjjaaDoor.Ints Go.ChangeShapes Go.WideShapes Go.ChangeAt Go.RowKit Go.Joins Go.Proofs.YtpgjllpiefpjjaaDoor.Base
open Go.ChangeMaps (open_string shut_string)
set_option linter.unusedVariables false

theorem own : ownKnob Tryd.prog.godebug = none := by kernel_rfl
theorem laidOut : laidOutB Tryd.prog = true := by kernel_rfl

/-- the table's name -/
def nam : String := Text.tabName
theorem tab_of_laid {W : World} (h : laidMetH Tryd.prog Rows.fnExactTerrainTextRow.laid W) : Text.Tab W := by
  rw [MakeChecks.laidMetH_plain _ _ _ (by kernel_rfl)] at h
  have h0 : laidMet Tryd.prog (_ :: _ :: (nam, Go.Lib.tabData .u64 Go.Lib.pow10Tab) :: []) W := h
  exact Go.Lib.tabIs_of_head (g := 2) (t := 117) (e := 97) (n := 20) (by kernel_rfl) (by kernel_rfl) Tryd.underlying117 Tryd.underlying97 (by kernel_rfl) (by kernel_rfl) h0.tail.tail
theorem door_met (os : Os) (args : Array Value) : laidMetH Tryd.prog Rows.fnExactTerrainTextRow.laid ((World.doorLaid Tryd.prog 77 os).forCall (fun _ _ => 0) ⟨#[], args, []⟩).memory :=
  laidMetH_of_parts3 (fuel := 8) (laidMet_of_run' 8 (by kernel_rfl) (by kernel_rfl)) (by kernel_rfl) (by kernel_rfl)

set_option maxRecDepth 100000 in
theorem lifted (os : Os) (started : os.Started) (H : Type) (enc : TypeId × Value → H) :
    ReturnsInHanded {} Tryd.checked os 3 .any (fun w args => (Rows.fnExactTerrainTextSpec.pre enc Tryd.prog Tryd.f3 [] false w args ∧ laidMetH Tryd.prog Rows.fnExactTerrainTextRow.laid w) ∧ sizedMet enc Tryd.prog Tryd.f3 (OpenSpec.ofChange Rows.fnExactTerrainTextSpec) false w args)
      (Rows.fnExactTerrainTextSpec.post enc Tryd.prog Tryd.f3 false true false false) := by
  refine returnsInHanded_of_change_and (C := Tryd.checked) (X := fun w _ => laidMetH Tryd.prog Rows.fnExactTerrainTextRow.laid w) (fun _ _ _ hh h => h.of_heap hh) own started (by kernel_rfl) Tryd.func3
    (ChangeSpec.witness_shaped (enc := enc) (C := Tryd.checked) (os := os) (X := fun w _ => laidMetH Tryd.prog Rows.fnExactTerrainTextRow.laid w) false (World.doorLaid Tryd.prog 77 os) #[.agg #[.int .i64 0, .int .i64 0, .int .i64 0, .slice none 0 0, .slice none 0 0]] 8 rfl (World.shaped_of_RefB (by kernel_rfl) (by kernel_rfl)) (by kernel_rfl) (by kernel_rfl) (by kernel_rfl) (door_met os _)) ?_
  intro W base args ds gs before hval0 hW hcnd _ hL _
  have hval : ∀ (j : Nat) t v, Tryd.f3.params[j]? = some t → args[j]? = some v → Value.okWide Tryd.prog W .any base t v := hval0
  have hW' := hW
  obtain ⟨p, q, hA0, hV, rfl, hfz, hnd⟩ := hW
  have hA : DataW.TrodAll enc Tryd.prog W 0 (fun _ => true) true Tryd.f3.params.toList args.toList ds p := hA0
  rw [Tryd.params3] at hA hval
  obtain ⟨v0, vs0, d0, ds0, p0, q0, hargs, rfl, rfl, h0, r0⟩ := trodAll_cons hA
  obtain ⟨rfl, rfl, rfl⟩ := trodAll_nil r0
  obtain rfl : args = #[v0] := by cases args; simp_all
  obtain ⟨rfl, rfl⟩ := trodVars_none hV
  have hT := tab_of_laid hL
  have k0 := h0
  have lt0 : ∀ x ∈ p0, x.block < W.heap.size := by obtain ⟨m, hm⟩ := k0; exact DataW.trod_lt m _ _ _ hm
  obtain ⟨ts0, tw0, th0, A0, n0, c0, hs0, B0, m0, e0, cs0, rfl, ra0, rb0, kn0, km0⟩ : ∃ (ts0 : Int) (tw0 : Int) (th0 : Int) (A0 : Option Addr) (n0 c0 : Nat) (hs0 : List Int) (B0 : Option Addr) (m0 e0 : Nat) (cs0 : List Int), v0 = .agg #[.int .i64 ts0, .int .i64 tw0, .int .i64 th0, .slice A0 n0 c0, .slice B0 m0 e0] ∧ Rd W A0 n0 hs0 ∧ Rd W B0 m0 cs0 ∧ n0 ≤ maxLen ∧ m0 ≤ maxLen := by
    obtain ⟨l, q9, hv, hlen, hf⟩ := Open.open_fields Tryd.underlying24 (by kernel_rfl) (by kernel_rfl) (hval 0 24 v0 rfl rfl) h0
    have hlen' : l.length = 5 := hlen
    match l, hlen' with
    | [g0, g1, g2, g3, g4], _ =>
      obtain ⟨y0, e0⟩ := hf 0 _ g0 rfl rfl
      obtain ⟨z0, f0, _, _⟩ := DataW.trod_int Tryd.underlying2 e0
      simp at f0
      obtain ⟨y1, e1⟩ := hf 1 _ g1 rfl rfl
      obtain ⟨z1, f1, _, _⟩ := DataW.trod_int Tryd.underlying2 e1
      simp at f1
      obtain ⟨y2, e2⟩ := hf 2 _ g2 rfl rfl
      obtain ⟨z2, f2, _, _⟩ := DataW.trod_int Tryd.underlying2 e2
      simp at f2
      obtain ⟨y3, e3⟩ := hf 3 _ g3 rfl rfl
      obtain ⟨A3', n3', c3', z3, f3, r3', k3'⟩ := Open.open_rd Tryd.underlying22 Tryd.underlying2 (by kernel_rfl) e3
      obtain ⟨y4, e4⟩ := hf 4 _ g4 rfl rfl
      obtain ⟨A4', n4', c4', z4, f4, r4', k4'⟩ := Open.open_rd Tryd.underlying22 Tryd.underlying2 (by kernel_rfl) e4
      exact ⟨z0, z1, z2, A3', n3', c3', z3, A4', n4', c4', z4, by rw [hv, f0, f1, f2, f3, f4], r3', r4', k3', k4'⟩
  clear hA0 hval0
  refine (LawTerrainText.law ts0 tw0 th0 A0 n0 c0 hs0 B0 m0 e0 cs0 W hT ra0 rb0 kn0 km0).mono fun e W' ⟨he, bel⟩ => ?_
  subst he
  exact ⟨_, rfl, _, _, _, [], _, [], hW', trodAll_mk1 (shut_bool Tryd.underlying4 _), (trodAll_cons_mk (Below.trod laidOut (by kernel_rfl) (of_decide_eq_true (by kernel_rfl)) k0 bel lt0) trodAll_mk0), rfl, bel.frame _, fun h => by cases h⟩

theorem over : Rows.fnExactTerrainTextRow.holds Tryd.pinned (OpenSpec.ofChange Rows.fnExactTerrainTextSpec) :=
  OpenClaim.holds_of_wide 3 Tryd.f3 rfl rfl rfl rfl rfl rfl rfl ⟨rfl, rfl, rfl, rfl, rfl⟩ rfl rfl rfl rfl rfl (by kernel_rfl) Tryd.func3 (by kernel_rfl)
    (of_decide_eq_true (by kernel_rfl)) (by unfold Func.isWrapper; first | (rw [if_pos (by decide +kernel)]; kernel_rfl) | (rw [if_neg (by decide +kernel)]; exact ⟨rfl, rfl⟩))
    (fun os started H enc _ => lifted os started H enc)

theorem proved : Rows.FnExactTerrainTextCardSaid :=
  Claim7.holds_tied_plain_at .later [] [.data, .data, .data] true Rows.fnExactTerrainTextCard.stood.harness Rows.fnExactTerrainTextCard.stood.looks
    over (fun _ h => by cases h) (by kernel_rfl) (fun _ h => by cases h) fnExactTerrainText_row_tie rfl ⟨rfl, rfl⟩ (by kernel_rfl) rfl
    (fun f fn hf hfn => by
      obtain rfl : f = 3 := Option.some.inj ((show Tryd.prog.funcNamed Rows.fnExactTerrainTextRow.func = some 3 by kernel_rfl).symm.trans hf) |>.symm
      obtain rfl : fn = Tryd.f3 := (Option.some.inj (Tryd.func3.symm.trans hfn)).symm
      exact ⟨by kernel_rfl, fun j t ht => by
        rw [Tryd.params3] at ht
        have hm : t ∈ ([24] : List Nat) := by have := Array.mem_of_getElem? ht; simp at this; simp; omega
        have hall : (([24] : List Nat).all fun u => !Tryd.prog.wantsStandIn u) = true := by kernel_rfl
        exact (show Tryd.prog.wantsStandIn t = false by simpa using List.all_eq_true.1 hall t hm)⟩)
    (by kernel_rfl)
#print axioms proved
end Go.Proofs.YtpgjllpiefpjjaaDoor.fnExactTerrainText
