/- The given statement of FnExactProfileClutter: for every input the law returns true and its arguments read afterwards as before. No condition. The frame is written by a program (mkfinal.py), the walk is in YtpgjllpiefpjjaaLawProfileClutter. -/
import Derived.Test.YtpgjllpiefpjjaaRows
import Derived.Test.YtpgjllpiefpjjaaLawProfileClutter
import Derived.WalkKit
import Derived.ProofKit
import Derived.OpenShut
import Derived.ShutString
import Derived.ChangeOld
import Derived.Below
import Derived.Carry
import Derived.Lib.SmallJoins
import Derived.Test.YtpgjllpiefpjjaaOpen
namespace Go.Proofs.Ytpgjllpiefpjjaa.fnExactProfileClutter
open Go.Proofs.Ytpgjllpiefpjjaa.Ints Go.ChangeShapes Go.WideShapes Go.ChangeAt Go.RowKit Go.Joins Go.Proofs.Ytpgjllpiefpjjaa.Base
open Go.ChangeMaps (open_string shut_string)
set_option linter.unusedVariables false

theorem own : ownKnob Try.prog.godebug = none := by kernel_rfl
theorem laidOut : laidOutB Try.prog = true := by kernel_rfl

set_option maxRecDepth 100000 in
theorem lifted (os : Os) (started : os.Started) (H : Type) (enc : TypeId × Value → H) :
    ReturnsInHanded {} Try.checked os 8 .any (Rows.fnExactProfileClutterSpec.pre6 enc Try.prog Try.f8 Rows.fnExactProfileClutterRow.domain false) (Rows.fnExactProfileClutterSpec.post enc Try.prog Try.f8 false true false false) := by
  refine returnsInHanded_of_change (C := Try.checked) own started (by kernel_rfl) Try.func8
    (ChangeSpec.witness6 (enc := enc) (C := Try.checked) false ⟨#[], #[.agg #[.int .i64 0, .int .i64 0, .int .i64 0, .slice none 0 0, .slice none 0 0], .agg #[.int .i64 0, .int .i64 0], .agg #[.int .i64 0, .int .i64 0], .int .i64 0], []⟩ 8 (by kernel_rfl) (by kernel_rfl) (by kernel_rfl) (by kernel_rfl)) ?_
  intro W base args ds gs before hval0 hW hcnd _
  have hval : ∀ (j : Nat) t v, Try.f8.params[j]? = some t → args[j]? = some v → Value.okWide Try.prog W .any base t v := hval0
  have hW' := hW
  obtain ⟨p, q, hA0, hV, rfl, hfz, hnd⟩ := hW
  have hA : DataW.TrodAll enc Try.prog W 0 (fun _ => true) true Try.f8.params.toList args.toList ds p := hA0
  rw [Try.params8] at hA hval
  obtain ⟨v0, vs0, d0, ds0, p0, q0, hargs, rfl, rfl, h0, r0⟩ := trodAll_cons hA
  obtain ⟨v1, vs1, d1, ds1, p1, q1, rfl, rfl, rfl, h1, r1⟩ := trodAll_cons r0
  obtain ⟨v2, vs2, d2, ds2, p2, q2, rfl, rfl, rfl, h2, r2⟩ := trodAll_cons r1
  obtain ⟨v3, vs3, d3, ds3, p3, q3, rfl, rfl, rfl, h3, r3⟩ := trodAll_cons r2
  obtain ⟨rfl, rfl, rfl⟩ := trodAll_nil r3
  obtain rfl : args = #[v0, v1, v2, v3] := by cases args; simp_all
  obtain ⟨rfl, rfl⟩ := trodVars_none hV
  have k0 := h0
  have lt0 : ∀ x ∈ p0, x.block < W.heap.size := by obtain ⟨m, hm⟩ := k0; exact DataW.trod_lt m _ _ _ hm
  obtain ⟨ts0, tw0, th0, A0, n0, c0, hs0, B0, m0, e0, cs0, rfl, ra0, rb0, kn0, km0⟩ : ∃ (ts0 : Int) (tw0 : Int) (th0 : Int) (A0 : Option Addr) (n0 c0 : Nat) (hs0 : List Int) (B0 : Option Addr) (m0 e0 : Nat) (cs0 : List Int), v0 = .agg #[.int .i64 ts0, .int .i64 tw0, .int .i64 th0, .slice A0 n0 c0, .slice B0 m0 e0] ∧ Rd W A0 n0 hs0 ∧ Rd W B0 m0 cs0 ∧ n0 ≤ maxLen ∧ m0 ≤ maxLen := by
    obtain ⟨l, q9, hv, hlen, hf⟩ := Open.open_fields Try.underlying46 (by kernel_rfl) (by kernel_rfl) (hval 0 46 v0 rfl rfl) h0
    have hlen' : l.length = 5 := hlen
    match l, hlen' with
    | [g0, g1, g2, g3, g4], _ =>
      obtain ⟨y0, e0⟩ := hf 0 _ g0 rfl rfl
      obtain ⟨z0, f0, _, _⟩ := DataW.trod_int Try.underlying2 e0
      simp at f0
      obtain ⟨y1, e1⟩ := hf 1 _ g1 rfl rfl
      obtain ⟨z1, f1, _, _⟩ := DataW.trod_int Try.underlying2 e1
      simp at f1
      obtain ⟨y2, e2⟩ := hf 2 _ g2 rfl rfl
      obtain ⟨z2, f2, _, _⟩ := DataW.trod_int Try.underlying2 e2
      simp at f2
      obtain ⟨y3, e3⟩ := hf 3 _ g3 rfl rfl
      obtain ⟨A3', n3', c3', z3, f3, r3', k3'⟩ := Open.open_rd Try.underlying38 Try.underlying2 (by kernel_rfl) e3
      obtain ⟨y4, e4⟩ := hf 4 _ g4 rfl rfl
      obtain ⟨A4', n4', c4', z4, f4, r4', k4'⟩ := Open.open_rd Try.underlying38 Try.underlying2 (by kernel_rfl) e4
      exact ⟨z0, z1, z2, A3', n3', c3', z3, A4', n4', c4', z4, by rw [hv, f0, f1, f2, f3, f4], r3', r4', k3', k4'⟩
  have k1 := h1
  have lt1 : ∀ x ∈ p1, x.block < W.heap.size := by obtain ⟨m, hm⟩ := k1; exact DataW.trod_lt m _ _ _ hm
  obtain ⟨a1, b1, rfl, w1, x1⟩ : ∃ a b : Int, v1 = .agg #[.int .i64 a, .int .i64 b] ∧ (Lit.int .i64 a).wf = true ∧ (Lit.int .i64 b).wf = true := by
    obtain ⟨c0, c1, y0, y1, m, hv, _, _, hy0, hy1⟩ := open_agg2 Try.underlying24 (by kernel_rfl) (by kernel_rfl) (hval 1 24 v1 rfl rfl) h1
    obtain ⟨a, e0, _, wa⟩ := DataW.trod_int Try.underlying2 hy0
    obtain ⟨b, e1, _, wb⟩ := DataW.trod_int Try.underlying2 hy1
    simp at e0 e1
    subst e0 e1
    exact ⟨a, b, hv, wa, wb⟩
  have k2 := h2
  have lt2 : ∀ x ∈ p2, x.block < W.heap.size := by obtain ⟨m, hm⟩ := k2; exact DataW.trod_lt m _ _ _ hm
  obtain ⟨a2, b2, rfl, w2, x2⟩ : ∃ a b : Int, v2 = .agg #[.int .i64 a, .int .i64 b] ∧ (Lit.int .i64 a).wf = true ∧ (Lit.int .i64 b).wf = true := by
    obtain ⟨c0, c1, y0, y1, m, hv, _, _, hy0, hy1⟩ := open_agg2 Try.underlying24 (by kernel_rfl) (by kernel_rfl) (hval 2 24 v2 rfl rfl) h2
    obtain ⟨a, e0, _, wa⟩ := DataW.trod_int Try.underlying2 hy0
    obtain ⟨b, e1, _, wb⟩ := DataW.trod_int Try.underlying2 hy1
    simp at e0 e1
    subst e0 e1
    exact ⟨a, b, hv, wa, wb⟩
  have k3 := h3
  have lt3 : ∀ x ∈ p3, x.block < W.heap.size := by obtain ⟨m, hm⟩ := k3; exact DataW.trod_lt m _ _ _ hm
  obtain ⟨a3, rfl, w3⟩ : ∃ a : Int, v3 = .int .i64 a ∧ (Lit.int .i64 a).wf = true := by
    obtain ⟨a, hv, _, _, hw⟩ := open_int Try.underlying2 (hval 3 2 v3 rfl rfl) h3
    exact ⟨a, hv, hw⟩
  clear hA0 hval0
  refine (LawProfileClutter.law ts0 tw0 th0 A0 n0 c0 hs0 B0 m0 e0 cs0 a1 b1 a2 b2 a3 W ra0 rb0 kn0 km0).mono fun e W' ⟨he, bel⟩ => ?_
  subst he
  exact ⟨_, rfl, _, _, _, [], _, [], hW', trodAll_mk1 (shut_bool Try.underlying4 _), (trodAll_cons_mk (Below.trod laidOut (by kernel_rfl) (of_decide_eq_true (by kernel_rfl)) k0 bel lt0) (trodAll_cons_mk (Below.trod laidOut (by kernel_rfl) (of_decide_eq_true (by kernel_rfl)) k1 bel lt1) (trodAll_cons_mk (Below.trod laidOut (by kernel_rfl) (of_decide_eq_true (by kernel_rfl)) k2 bel lt2) (trodAll_cons_mk (Below.trod laidOut (by kernel_rfl) (of_decide_eq_true (by kernel_rfl)) k3 bel lt3) trodAll_mk0)))), rfl, bel.frame _, fun h => by cases h⟩

theorem proved : Rows.FnExactProfileClutterSaid :=
  OpenClaim.holds_of_wide 8 Try.f8 rfl rfl rfl rfl rfl rfl rfl ⟨rfl, rfl, rfl, rfl, rfl⟩ rfl rfl rfl rfl rfl (by kernel_rfl) Try.func8 (by kernel_rfl)
    (of_decide_eq_true (by kernel_rfl)) (by unfold Func.isWrapper; first | (rw [if_pos (by decide +kernel)]; kernel_rfl) | (rw [if_neg (by decide +kernel)]; exact ⟨rfl, rfl⟩))
    (fun os started H enc _ => lifted os started H enc)
#print axioms proved
end Go.Proofs.Ytpgjllpiefpjjaa.fnExactProfileClutter
