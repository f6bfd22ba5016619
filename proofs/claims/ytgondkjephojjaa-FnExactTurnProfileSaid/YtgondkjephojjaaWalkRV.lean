/- slices.Reverse over a row of one's own. -/
import Derived.Test.YtgondkjephojjaaWalkQ
namespace Go.Proofs.Ytgondkjephojjaa.WalkRV
open Go Go.RowKit Go.Proofs.Ytgondkjephojjaa.Base Go.Proofs.Ytgondkjephojjaa.Plain Go.Proofs.Ytgondkjephojjaa.Words Go.Proofs.Ytgondkjephojjaa.Ints Go.Proofs.Ytgondkjephojjaa.WalkN Go.Proofs.Ytgondkjephojjaa.WalkP Go.Proofs.Ytgondkjephojjaa.WalkI Go.Proofs.Ytgondkjephojjaa.WalkU Go.Proofs.Ytgondkjephojjaa.PlainT Go.Proofs.Ytgondkjephojjaa.WalkQ
set_option linter.unusedVariables false
set_option linter.unusedSimpArgs false

theorem rev_get {zs : List Int} {n t : Nat} (hl : zs.length = n) (ht : t < n) : zs.reverse.getD t 0 = zs.getD (n - 1 - t) 0 := by
  rw [List.getD_eq_getElem?_getD, List.getElem?_reverse (by omega), hl, ← List.getD_eq_getElem?_getD]

/-- behind k rounds -/
def swp (k n t : Nat) : Nat := if t < k ∨ n - 1 - t < k then n - 1 - t else t

set_option maxHeartbeats 4000000 in
theorem implReverse (A : Option Addr) (n c lo : Nat) (zs : List Int) (w : World) (hr : Ow w lo A n c zs) (h0 : 0 < n) (hn : n ≤ 1048576) :
    Calls Try.prog 95 #[.slice A n c] w fun e w' => (∃ v, e = .returned v) ∧ Ow w' lo A n c zs.reverse ∧ Gr w w' A := by
  have hl := hr.len
  rcases hr.form with ⟨rfl, rfl, rfl, rfl⟩ | ⟨g, cs0, rfl, hlo, hb0, hnc, hcm, hs0, ht⟩
  · omega
  · unfold maxLen at hcm
    have HB0 := Lib.hid hb0
    have HS0 := Lib.hid hs0
    have HV0 := Lib.hid (fun t (htn : t < n) => take_get ht hl htn)
    clear hr hb0 hs0 ht
    go_enter Try.func95, Try.ntmps95
    go_wp2
    go_loopw [2, 3] (fun i j wr => ∃ k m : Nat, k + m + 1 = n ∧ k ≤ m + 1 ∧ i = .int .i64 k ∧ j = .int .i64 m ∧ Hid (Gr w wr (some ⟨g, 0, none⟩)) ∧ ∃ cs : Array Value, Hid (Blk wr g 2 cs) ∧ Hid (cs.size = c) ∧ Hid (∀ t, t < n → cs[t]? = some (.int .i64 (zs.getD (swp k n t) 0)))) (fun _ j _ => (intOf j).toNat)
    case atStart => exact ⟨0, n - 1, by omega, by omega, rfl, by first | rfl | (go_num) | (congr 1; omega), Lib.hid (Gr.refl _ _), _, Lib.hid HB0.out, Lib.hid HS0.out, Lib.hid (fun t htn => by have h := HV0.out t htn; unfold swp; rw [if_neg (by omega)]; exact h)⟩
    case round =>
      obtain ⟨k, m, hkm, hle, rfl, rfl, HG, cs, HC, HS, HV⟩ := hrel
      by_cases hlt : k < m
      · have f1 := HC.out.free k
        have f2 := HC.out.free m
        have d1 : wr.cell? ⟨g, k, none⟩ = some (.int .i64 (zs.getD (swp k n k) 0)) := by rw [HC.out.cell]; exact HV.out k (by omega)
        have d2 : wr.cell? ⟨g, m, none⟩ = some (.int .i64 (zs.getD (swp k n m) 0)) := by rw [HC.out.cell]; exact HV.out m (by omega)
        have hkn : k < n := by omega
        have hmn : m < n := by omega
        go_wp2_with fail
        go_region
        all_goals (go_wp2_with fail)
        go_roundw
        case rel =>
          obtain ⟨m, rfl⟩ : ∃ m', m = m' + 1 := ⟨m - 1, by omega⟩
          refine ⟨k + 1, m, by omega, by omega, by go_num, by go_num, Lib.hid (((HG.out.set _).set _).drew), _, Lib.hid ((HC.out.set_ k _).set_ (m + 1) _).drew, Lib.hid (by rw [Array.size_setIfInBounds, Array.size_setIfInBounds]; exact HS.out), Lib.hid fun t htn => ?_⟩
          have hs := HS.out
          rw [Array.getElem?_setIfInBounds, Array.size_setIfInBounds]
          by_cases e : m + 1 = t
          · subst e
            rw [if_pos rfl, if_pos (by omega), ← List.getD_eq_getElem?_getD]
            congr 3
            unfold swp
            rw [if_neg (by omega), if_pos (by omega)]
            omega
          · rw [if_neg e, Array.getElem?_setIfInBounds]
            by_cases e' : k = t
            · subst e'
              rw [if_pos rfl, if_pos (by omega), ← List.getD_eq_getElem?_getD]
              congr 3
              unfold swp
              rw [if_neg (by omega), if_pos (by omega)]
              omega
            · rw [if_neg e', HV.out t htn]
              congr 3
              unfold swp
              by_cases e1 : t < k ∨ n - 1 - t < k
              · rw [if_pos e1, if_pos (by omega)]
              · rw [if_neg e1, if_neg (by omega)]
        case measure => simp [intOf]; omega
      · go_wp2
        refine bodyPost_end (v := .tuple #[]) (by simp [results, Try.results95, go_sem]) rfl ⟨⟨.tuple #[], rfl⟩, ?_, HG.out⟩
        refine Ow.mk hlo HC.out hnc (by unfold maxLen; omega) HS.out ?_ (by simp [hl])
        apply List.ext_getElem?
        intro j
        by_cases hj : j < n
        · rw [vals_get (by simp [hl]; exact hj), List.getElem?_take, if_pos hj, rev_get hl hj]
          have h := HV.out j hj
          have e : swp k n j = n - 1 - j := by
            unfold swp
            by_cases e1 : j < k ∨ n - 1 - j < k
            · rw [if_pos e1]
            · rw [if_neg e1]; omega
          rw [e] at h
          simpa using h
        · rw [List.getElem?_eq_none (by simp; omega), List.getElem?_eq_none (by rw [vals_len]; simp [hl]; omega)]

end Go.Proofs.Ytgondkjephojjaa.WalkRV
