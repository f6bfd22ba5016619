/- slices.Reverse over a row of points of one's own. -/
import Derived.Test.YtpgjllpiefpjjaaWalkPI
import Derived.RegionTactic
namespace Go.Proofs.Ytpgjllpiefpjjaa.WalkRvp
open Go Go.RowKit Go.Proofs.Ytpgjllpiefpjjaa.Base Go.Proofs.Ytpgjllpiefpjjaa.Plain Go.Proofs.Ytpgjllpiefpjjaa.Words Go.Proofs.Ytpgjllpiefpjjaa.Ints Go.Proofs.Ytpgjllpiefpjjaa.WalkN Go.Proofs.Ytpgjllpiefpjjaa.WalkP Go.Proofs.Ytpgjllpiefpjjaa.WalkI Go.Proofs.Ytpgjllpiefpjjaa.Cells Go.Proofs.Ytpgjllpiefpjjaa.Pts Go.Proofs.Ytpgjllpiefpjjaa.WalkPI
set_option linter.unusedVariables false
set_option linter.unusedSimpArgs false

theorem rev_at {ps : List PT} {n t : Nat} (hl : ps.length = n) (ht : t < n) : at0 ps.reverse t = at0 ps (n - 1 - t) ∧ at1 ps.reverse t = at1 ps (n - 1 - t) := by
  unfold at0 at1
  rw [List.getD_eq_getElem?_getD, List.getElem?_reverse (by omega), hl, ← List.getD_eq_getElem?_getD]
  exact ⟨rfl, rfl⟩
/-- behind k rounds -/
def swp (k n t : Nat) : Nat := if t < k ∨ n - 1 - t < k then n - 1 - t else t

theorem set_far {cs : Array Value} {i j : Nat} (v : Value) (h : i ≠ j) : (cs.setIfInBounds i v)[j]? = cs[j]? := by rw [Array.getElem?_setIfInBounds, if_neg h]
theorem set_same {cs : Array Value} {i : Nat} (v : Value) (h : i < cs.size) : (cs.setIfInBounds i v)[i]? = some v := by rw [Array.getElem?_setIfInBounds, if_pos rfl, if_pos h]

set_option maxHeartbeats 4000000 in
theorem revPts (A : Option Addr) (n c lo : Nat) (ps : List PT) (w : World) (hr : OwP w lo A n c ps) (h0 : 0 < n) (hn : n ≤ 1048576) :
    Calls Try.prog 66 #[.slice A n c] w fun e w' => (∃ v, e = .returned v) ∧ OwP w' lo A n c ps.reverse ∧ Gr w w' A := by
  have hl := hr.1
  rcases hr.form with ⟨rfl, rfl, rfl, rfl⟩ | ⟨g, cs0, rfl, hlo, hb0, hnc, hcm, hs0, ht⟩
  · omega
  · have hcm2 := hcm
    unfold maxLen at hcm
    have HB0 := Lib.hid hb0
    have HS0 := Lib.hid hs0
    have HV0 := Lib.hid ht
    clear hr hb0 hs0 ht
    go_enter Try.func66, Try.ntmps66
    go_wp2
    go_loopw [2, 3] (fun i j wr => ∃ k m : Nat, k + m + 1 = n ∧ k ≤ m + 1 ∧ i = .int .i64 k ∧ j = .int .i64 m ∧ Hid (Gr w wr (some ⟨g, 0, none⟩)) ∧ ∃ cs : Array Value, Hid (Blk wr g 30 cs) ∧ Hid (cs.size = c * 2) ∧ Hid (∀ t, t < n → cs[t * 2]? = some (.int .i64 (at0 ps (swp k n t))) ∧ cs[t * 2 + 1]? = some (.int .i64 (at1 ps (swp k n t))))) (fun _ j _ => (intOf j).toNat)
    case atStart => exact ⟨0, n - 1, by omega, by omega, rfl, by first | rfl | (go_num) | (congr 1; omega), Lib.hid (Gr.refl _ _), _, Lib.hid HB0.out, Lib.hid HS0.out, Lib.hid (fun t htn => by have h := HV0.out t htn; unfold swp; rw [if_neg (by omega)]; exact h)⟩
    case round =>
      obtain ⟨k, m, hkm, hle, rfl, rfl, HG, cs, HC, HS, HV⟩ := hrel
      by_cases hlt : k < m
      · have f1 := HC.out.free (k * 2)
        have f2 := HC.out.free (m * 2)
        have f3 := HC.out.free (k * 2 + 1)
        have f4 := HC.out.free (m * 2 + 1)
        obtain ⟨x1, hx1⟩ : ∃ x, at0 ps (swp k n k) = x := ⟨_, rfl⟩
        obtain ⟨y1, hy1⟩ : ∃ x, at1 ps (swp k n k) = x := ⟨_, rfl⟩
        obtain ⟨x2, hx2⟩ : ∃ x, at0 ps (swp k n m) = x := ⟨_, rfl⟩
        obtain ⟨y2, hy2⟩ : ∃ x, at1 ps (swp k n m) = x := ⟨_, rfl⟩
        have d1 : wr.cell? ⟨g, k * 2, none⟩ = some (.int .i64 x1) := by rw [HC.out.cell, ← hx1]; exact (HV.out k (by omega)).1
        have d2 : wr.cell? ⟨g, m * 2, none⟩ = some (.int .i64 x2) := by rw [HC.out.cell, ← hx2]; exact (HV.out m (by omega)).1
        have d3 : wr.cell? ⟨g, k * 2 + 1, none⟩ = some (.int .i64 y1) := by rw [HC.out.cell, ← hy1]; exact (HV.out k (by omega)).2
        have d4 : wr.cell? ⟨g, m * 2 + 1, none⟩ = some (.int .i64 y2) := by rw [HC.out.cell, ← hy2]; exact (HV.out m (by omega)).2
        have hkn : k < n := by omega
        have hmn : m < n := by omega
        have HX := Lib.hid (And.intro hx1 (And.intro hy1 (And.intro hx2 hy2)))
        clear hx1 hy1 hx2 hy2
        have n1 : ¬ (k * 2 = m * 2) := by omega
        have n2 : ¬ (k * 2 = m * 2 + 1) := by omega
        have n3 : ¬ (k * 2 + 1 = m * 2) := by omega
        have n4 : ¬ (k * 2 + 1 = m * 2 + 1) := by omega
        have n5 : ¬ (m * 2 = k * 2) := by omega
        have n6 : ¬ (m * 2 + 1 = k * 2) := by omega
        have n7 : ¬ (m * 2 = k * 2 + 1) := by omega
        have n8 : ¬ (m * 2 + 1 = k * 2 + 1) := by omega
        go_wp2_with fail
        go_region
        all_goals (go_wp2_with fail)
        go_roundw
        case rel =>
          obtain ⟨hx1, hy1, hx2, hy2⟩ := HX.out
          have hs := HS.out
          obtain ⟨m, rfl⟩ : ∃ m', m = m' + 1 := ⟨m - 1, by omega⟩
          refine ⟨k + 1, m, by omega, by omega, by go_num, by go_num, Lib.hid (((((HG.out.set _).set _).set _).set _).drew), _, Lib.hid ((((HC.out.set_ (k * 2) _).set_ (k * 2 + 1) _).set_ ((m + 1) * 2) _).set_ ((m + 1) * 2 + 1) _).drew, Lib.hid (by rw [Array.size_setIfInBounds, Array.size_setIfInBounds, Array.size_setIfInBounds, Array.size_setIfInBounds]; exact hs), Lib.hid fun t htn => ?_⟩
          by_cases e : t = m + 1
          · subst e
            have es : swp (k + 1) n (m + 1) = swp k n k := by
              unfold swp
              rw [if_pos (by omega), if_neg (by omega)]
              omega
            rw [es, hx1, hy1]
            constructor
            · rw [set_far _ (by omega), set_same _ (by simp; omega)]
            · rw [set_same _ (by simp; omega)]
          · by_cases e' : t = k
            · subst e'
              have es : swp (t + 1) n t = swp t n (m + 1) := by
                unfold swp
                rw [if_pos (by omega), if_neg (by omega)]
                omega
              rw [es, hx2, hy2]
              constructor
              · rw [set_far _ (by omega), set_far _ (by omega), set_far _ (by omega), set_same _ (by omega)]
              · rw [set_far _ (by omega), set_far _ (by omega), set_same _ (by simp; omega)]
            · have es : swp (k + 1) n t = swp k n t := by
                unfold swp
                by_cases e1 : t < k ∨ n - 1 - t < k
                · rw [if_pos e1, if_pos (by omega)]
                · rw [if_neg e1, if_neg (by omega)]
              rw [es]
              have h := HV.out t htn
              constructor
              · rw [set_far _ (by omega), set_far _ (by omega), set_far _ (by omega), set_far _ (by omega)]
                exact h.1
              · rw [set_far _ (by omega), set_far _ (by omega), set_far _ (by omega), set_far _ (by omega)]
                exact h.2
        case measure => simp [intOf]; omega
      · go_wp2
        refine bodyPost_end (v := .tuple #[]) (by simp [results, Try.results66, go_sem]) rfl ⟨⟨.tuple #[], rfl⟩, ?_, HG.out⟩
        refine OwP.of_cells hlo HC.out HS.out hnc (fun j hj => ?_) (by simp [hl]) hcm2
        rw [(rev_at hl hj).1, (rev_at hl hj).2]
        have h := HV.out j hj
        have e : swp k n j = n - 1 - j := by
          unfold swp
          by_cases e1 : j < k ∨ n - 1 - j < k
          · rw [if_pos e1]
          · rw [if_neg e1]; omega
        rw [e] at h
        exact h

end Go.Proofs.Ytpgjllpiefpjjaa.WalkRvp
