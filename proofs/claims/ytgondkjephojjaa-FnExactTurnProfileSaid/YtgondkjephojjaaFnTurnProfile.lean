/- The given statement of FnExactTurnProfile: for every input the law returns true and its arguments read afterwards as before. No condition. The frame is written by a program (mkfinal.py), the walk is in YtgondkjephojjaaLawTurnProfile. -/
import Derived.Test.YtgondkjephojjaaRows
import Derived.Test.YtgondkjephojjaaLawTurnProfile
import Derived.WalkKit
import Derived.ProofKit
import Derived.OpenShut
import Derived.ShutString
import Derived.ChangeOld
import Derived.Below
import Derived.Carry
import Derived.Lib.SmallJoins
import Derived.Test.YtgondkjephojjaaOpen
namespace Go.Proofs.Ytgondkjephojjaa.fnExactTurnProfile
open Go.Proofs.Ytgondkjephojjaa.Ints Go.ChangeShapes Go.WideShapes Go.ChangeAt Go.RowKit Go.Joins Go.Proofs.Ytgondkjephojjaa.Base
open Go.ChangeMaps (open_string shut_string)
set_option linter.unusedVariables false

theorem own : ownKnob Try.prog.godebug = none := by kernel_rfl
theorem laidOut : laidOutB Try.prog = true := by kernel_rfl

set_option maxRecDepth 100000 in
theorem lifted (os : Os) (started : os.Started) (H : Type) (enc : TypeId × Value → H) :
    ReturnsInHanded {} Try.checked os 12 .any (Rows.fnExactTurnProfileSpec.pre6 enc Try.prog Try.f12 Rows.fnExactTurnProfileRow.domain false) (Rows.fnExactTurnProfileSpec.post enc Try.prog Try.f12 false true false false) := by
  refine returnsInHanded_of_change (C := Try.checked) own started (by kernel_rfl) Try.func12
    (ChangeSpec.witness6 (enc := enc) (C := Try.checked) false ⟨#[], #[.agg #[.int .i64 0, .int .i64 0, .int .i64 0, .slice none 0 0]], []⟩ 8 (by kernel_rfl) (by kernel_rfl) (by kernel_rfl) (by kernel_rfl)) ?_
  intro W base args ds gs before hval0 hW hcnd _
  have hval : ∀ (j : Nat) t v, Try.f12.params[j]? = some t → args[j]? = some v → Value.okWide Try.prog W .any base t v := hval0
  have hW' := hW
  obtain ⟨p, q, hA0, hV, rfl, hfz, hnd⟩ := hW
  have hA : DataW.TrodAll enc Try.prog W 0 (fun _ => true) true Try.f12.params.toList args.toList ds p := hA0
  rw [Try.params12] at hA hval
  obtain ⟨v0, vs0, d0, ds0, p0, q0, hargs, rfl, rfl, h0, r0⟩ := trodAll_cons hA
  obtain ⟨rfl, rfl, rfl⟩ := trodAll_nil r0
  obtain rfl : args = #[v0] := by cases args; simp_all
  obtain ⟨rfl, rfl⟩ := trodVars_none hV
  have k0 := h0
  have lt0 : ∀ x ∈ p0, x.block < W.heap.size := by obtain ⟨m, hm⟩ := k0; exact DataW.trod_lt m _ _ _ hm
  obtain ⟨pd0, pf0, pl0, A0, n0, c0, hs0, rfl, ra0, kn0⟩ : ∃ (pd0 : Int) (pf0 : Int) (pl0 : Int) (A0 : Option Addr) (n0 c0 : Nat) (hs0 : List Int), v0 = .agg #[.int .i64 pd0, .int .i64 pf0, .int .i64 pl0, .slice A0 n0 c0] ∧ Rd W A0 n0 hs0 ∧ n0 ≤ maxLen := by
    obtain ⟨l, q9, hv, hlen, hf⟩ := Open.open_fields Try.underlying24 (by kernel_rfl) (by kernel_rfl) (hval 0 24 v0 rfl rfl) h0
    have hlen' : l.length = 4 := hlen
    match l, hlen' with
    | [g0, g1, g2, g3], _ =>
      obtain ⟨y0, e0⟩ := hf 0 _ g0 rfl rfl
      obtain ⟨z0, f0, _, _⟩ := DataW.trod_int Try.underlying2 e0
      simp at f0
      obtain ⟨y1, e1⟩ := hf 1 _ g1 rfl rfl
      obtain ⟨z1, f1, _, _⟩ := DataW.trod_int Try.underlying2 e1
      simp at f1
      obtain ⟨y2, e2⟩ := hf 2 _ g2 rfl rfl
      obtain ⟨z2, f2, _, _⟩ := DataW.trod_int Try.underlying2 e2
      simp at f2
      obtain ⟨y3, e3⟩ := hf 3 _ g3 rfl rfl
      obtain ⟨A3', n3', c3', z3, f3, r3', k3'⟩ := Open.open_rd Try.underlying22 Try.underlying2 (by kernel_rfl) e3
      exact ⟨z0, z1, z2, A3', n3', c3', z3, by rw [hv, f0, f1, f2, f3], r3', k3'⟩
  clear hA0 hval0
  refine (LawTurnProfile.law pd0 pf0 pl0 A0 n0 c0 hs0 W ra0 kn0).mono fun e W' ⟨he, bel⟩ => ?_
  subst he
  exact ⟨_, rfl, _, _, _, [], _, [], hW', trodAll_mk1 (shut_bool Try.underlying4 _), (trodAll_cons_mk (Below.trod laidOut (by kernel_rfl) (of_decide_eq_true (by kernel_rfl)) k0 bel lt0) trodAll_mk0), rfl, bel.frame _, fun h => by cases h⟩

theorem proved : Rows.FnExactTurnProfileSaid :=
  OpenClaim.holds_of_wide 12 Try.f12 rfl rfl rfl rfl rfl rfl rfl ⟨rfl, rfl, rfl, rfl, rfl⟩ rfl rfl rfl rfl rfl (by kernel_rfl) Try.func12 (by kernel_rfl)
    (of_decide_eq_true (by kernel_rfl)) (by unfold Func.isWrapper; first | (rw [if_pos (by decide +kernel)]; kernel_rfl) | (rw [if_neg (by decide +kernel)]; exact ⟨rfl, rfl⟩))
    (fun os started H enc _ => lifted os started H enc)
#print axioms proved
end Go.Proofs.Ytgondkjephojjaa.fnExactTurnProfile
