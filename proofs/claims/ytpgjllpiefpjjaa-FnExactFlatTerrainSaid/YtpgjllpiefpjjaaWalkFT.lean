/- FlatTerrain of the reference: the walk. -/
import Derived.Test.YtpgjllpiefpjjaaWalkSG
import Derived.Test.YtpgjllpiefpjjaaWalkSI0
import Derived.Deep.DeepCutAuto
namespace Go.Proofs.Ytpgjllpiefpjjaa.WalkFT
open Go Go.RowKit Go.Proofs.Ytpgjllpiefpjjaa.Base Go.Proofs.Ytpgjllpiefpjjaa.Plain Go.Proofs.Ytpgjllpiefpjjaa.Words Go.Proofs.Ytpgjllpiefpjjaa.Ints Go.Proofs.Ytpgjllpiefpjjaa.WalkN Go.Proofs.Ytpgjllpiefpjjaa.WalkP Go.Proofs.Ytpgjllpiefpjjaa.WalkI Go.Proofs.Ytpgjllpiefpjjaa.WalkU Go.Proofs.Ytpgjllpiefpjjaa.WalkV Go.Proofs.Ytpgjllpiefpjjaa.PlainT Go.Proofs.Ytpgjllpiefpjjaa.WalkQ Go.Proofs.Ytpgjllpiefpjjaa.WalkW Go.Proofs.Ytpgjllpiefpjjaa.WalkSG Go.Proofs.Ytpgjllpiefpjjaa.WalkSH Go.Proofs.Ytpgjllpiefpjjaa.WalkSI0
set_option linter.unusedVariables false
set_option linter.unusedSimpArgs false

/-- what FlatTerrain gives -/
def flatR (s wd ht h : Int) : Ter :=
  bif sizeB s wd ht && inB h 0 90000 then ⟨s, wd, ht, 0, wd.toNat * ht.toNat, List.replicate (wd.toNat * ht.toNat) h, wd.toNat * ht.toNat, List.replicate (wd.toNat * ht.toNat) 0⟩ else Ter.no 2
theorem rep_get {n j : Nat} {h : Int} (hj : j < n) : (List.replicate n h).getD j 0 = h := by simp [List.getD, hj]

set_option maxHeartbeats 8000000 in
theorem specFlat (s h : Int) (wn hn N : Nat) (w : World) (hN : wn * hn = N) (h0 : 0 < N) (hm : N ≤ 576) :
    Calls Try.prog 48 #[.int .i64 s, .int .i64 (wn : Int), .int .i64 (hn : Int), .int .i64 h] w (TerOwn s (wn : Int) (hn : Int) N N (List.replicate N h) (List.replicate N 0) w) := by
  have e1 : (wn : Int) * (hn : Int) = (N : Int) := by rw [← hN, Int.natCast_mul]
  have e2 : IntKind.i64.wrap (N : Int) = (N : Int) := IntWalk.i64_in _ (by omega)
  have hmk := made N (by omega)
  clear hN
  go_enter Try.func48, Try.ntmps48
  go_upto_region 1 with fail
  go_cut [9, 17, 21] (fun s9 s17 s21 wx => ∃ ob gP gQ : Nat, s9 = .pointer (some ⟨ob, 0, none⟩) ∧ s17 = .slice (some ⟨gP, 0, none⟩) N N ∧ s21 = .slice (some ⟨gQ, 0, none⟩) N N ∧ (gP ≠ gQ ∧ ob ≠ gP ∧ ob ≠ gQ ∧ w.heap.size < ob ∧ w.heap.size < gP ∧ w.heap.size < gQ) ∧ Hid (Below w.heap.size w wx) ∧ Hid (Blk wx gP 2 (madeCells #[.int .i64 0] N)) ∧ Hid (Blk wx gQ 2 (madeCells #[.int .i64 0] N)) ∧ Hid (Blk wx w.heap.size 40 #[.int .i64 0, .int .i64 0, .int .i64 0, .slice none 0 0, .slice none 0 0]) ∧
    Hid (wx.cell? ⟨ob, 0, none⟩ = some (.int .i64 s) ∧ wx.cell? ⟨ob, 1, none⟩ = some (.int .i64 (wn : Int)) ∧ wx.cell? ⟨ob, 2, none⟩ = some (.int .i64 (hn : Int)) ∧ wx.cell? ⟨ob, 3, none⟩ = some (.slice (some ⟨gP, 0, none⟩) N N) ∧ wx.cell? ⟨ob, 4, none⟩ = some (.slice (some ⟨gQ, 0, none⟩) N N)))
  case first =>
    go_region
    all_goals (go_wp2_with fail; go_meet; refine ⟨_, _, _, rfl, rfl, rfl, ?_, Lib.hid (by repeat (first | with_reducible exact Below.refl _ _ | with_reducible assumption | (with_reducible refine Below.drew ?_) | (with_reducible refine below_drewN ?_ _) | ((with_reducible refine Below.alloc ?_ ?_ _); rotate_left; (focus first | exact Nat.le_refl _ | omega | (simp; done) | (simp; omega))) | ((with_reducible refine Below.setCell ?_ ?_ _); rotate_left; (focus first | exact Nat.le_refl _ | omega | (simp; done) | (simp; omega))) | ((with_reducible refine below_via (W := ?_) ?_ ?_ ?_); rotate_left; (with_reducible assumption); rotate_left; (focus first | exact Nat.le_refl _ | omega | (simp; done) | (simp; omega))))), Lib.hid (by (repeat (first | with_reducible assumption | (with_reducible refine Blk.drew ?_) | (with_reducible refine Blk.drewN ?_ _) | ((with_reducible refine Blk.new _ _ _ ?_); (focus first | rfl | (simp; done) | omega)) | (with_reducible refine Blk.alloc ?_ _) | ((with_reducible refine Blk.far ?_ _ ?_); rotate_left; (focus first | omega | (simp; done) | (simp; omega))) | ((with_reducible refine Blk.below (w := ?_) ?_ ?_); rotate_left; (with_reducible assumption))))), Lib.hid (by (repeat (first | with_reducible assumption | (with_reducible refine Blk.drew ?_) | (with_reducible refine Blk.drewN ?_ _) | ((with_reducible refine Blk.new _ _ _ ?_); (focus first | rfl | (simp; done) | omega)) | (with_reducible refine Blk.alloc ?_ _) | ((with_reducible refine Blk.far ?_ _ ?_); rotate_left; (focus first | omega | (simp; done) | (simp; omega))) | ((with_reducible refine Blk.below (w := ?_) ?_ ?_); rotate_left; (with_reducible assumption))))), Lib.hid (by (repeat (first | with_reducible assumption | (with_reducible refine Blk.drew ?_) | (with_reducible refine Blk.drewN ?_ _) | ((with_reducible refine Blk.new _ _ _ ?_); (focus first | rfl | (simp; done) | omega)) | (with_reducible refine Blk.alloc ?_ _) | ((with_reducible refine Blk.far ?_ _ ?_); rotate_left; (focus first | omega | (simp; done) | (simp; omega))) | ((with_reducible refine Blk.below (w := ?_) ?_ ?_); rotate_left; (with_reducible assumption))))), Lib.hid (by (((try dsimp only); (repeat' apply And.intro) <;> (repeat (first | with_reducible assumption | (with_reducible refine keep_drew ?_) | (with_reducible refine keep_drewN ?_) | ((with_reducible refine keep_new _ _ _ _ _ _ ?_ ?_) <;> (first | rfl | (simp; done) | omega)) | (with_reducible refine keep_alloc _ ?_) | ((with_reducible refine keep_set _ ?_ ?_); (focus first | omega | (simp; done) | (simp; omega))) | ((with_reducible refine keep_set' _ ?_ ?_); (focus first | omega | (simp; done))) | ((with_reducible refine keep_same (u := ?_) _ ?_); rotate_left) | ((with_reducible refine keep_setA _ ?_ ?_); (focus first | omega | (simp; done) | (simp; omega))) | ((with_reducible refine keep_below (w := ?_) ?_ ?_); rotate_left; (with_reducible assumption)))))))⟩; (focus (simp <;> omega)))
  case rest =>
    obtain ⟨ob, gP, gQ, rfl, rfl, rfl, ⟨d1, d2, d3, d4, d5, d6⟩, HB, HP, HQ, HR, HO⟩ := hcut
    clear hmk e1 e2
    have q3 := HO.out.2.2.2.1
    go_wp2_with fail
    go_loopw [10] (fun i wr => ∃ k : Nat, k ≤ N ∧ i = .int .i64 k ∧ Hid (Below w.heap.size w wr) ∧ (∃ cs : Array Value, Hid (Blk wr gP 2 cs) ∧ Hid (cs.size = N) ∧ Hid (∀ j, j < k → cs[j]? = some (.int .i64 h))) ∧ Hid (Blk wr gQ 2 (madeCells #[.int .i64 0] N)) ∧ Hid (Blk wr w.heap.size 40 #[.int .i64 0, .int .i64 0, .int .i64 0, .slice none 0 0, .slice none 0 0]) ∧
      Hid (wr.cell? ⟨ob, 0, none⟩ = some (.int .i64 s) ∧ wr.cell? ⟨ob, 1, none⟩ = some (.int .i64 (wn : Int)) ∧ wr.cell? ⟨ob, 2, none⟩ = some (.int .i64 (hn : Int)) ∧ wr.cell? ⟨ob, 3, none⟩ = some (.slice (some ⟨gP, 0, none⟩) N N) ∧ wr.cell? ⟨ob, 4, none⟩ = some (.slice (some ⟨gQ, 0, none⟩) N N))) (fun i _ => N - (intOf i).toNat)
    case atStart => exact ⟨0, Nat.zero_le _, rfl, HB, ⟨_, HP, Lib.hid (size_madeCells _ _), Lib.hid (fun j hj => absurd hj (by omega))⟩, HQ, HR, HO⟩
    case round =>
      clear HB HP HQ HR HO q3
      obtain ⟨k, hk, rfl, HB, ⟨cs, HC, HS, HV⟩, HQ, HR, HO⟩ := hrel
      have q3 := HO.out.2.2.2.1
      by_cases hlt : k < N
      · have hf := HC.out.free k
        have hd : wr.cell? ⟨gP, k, none⟩ = some cs[k]! := by
          rw [HC.out.cell]
          have := HS.out
          simp [hlt, this]
        have i0 : (0 : Int) ≤ (k : Int) := by omega
        have i1 : (k : Int) < (N : Int) := by omega
        go_wp2_with fail
        go_roundw
        case rel =>
          refine ⟨k + 1, by omega, by go_num, Lib.hid (HB.out.setCell (by show w.heap.size ≤ gP; omega) _), ⟨_, Lib.hid (HC.out.set_ k _), Lib.hid (by rw [Array.size_setIfInBounds]; exact HS.out), Lib.hid fun j hj => ?_⟩, Lib.hid (HQ.out.far _ (by omega)), Lib.hid (HR.out.far _ (by omega)), Lib.hid ⟨(far_cell _ d2).trans HO.out.1, (far_cell _ d2).trans HO.out.2.1, (far_cell _ d2).trans HO.out.2.2.1, (far_cell _ d2).trans HO.out.2.2.2.1, (far_cell _ d2).trans HO.out.2.2.2.2⟩⟩
          have hs := HS.out
          rw [Array.getElem?_setIfInBounds]
          by_cases e : k = j
          · subst e
            rw [if_pos rfl, if_pos (by omega)]
          · rw [if_neg e]
            exact HV.out j (by omega)
        case measure => simp [intOf]; omega
      · obtain rfl : k = N := by omega
        obtain ⟨o0, o1, o2, o3, o4⟩ := HO.out
        have r0 := HR.out.cell 0
        have r1 := HR.out.cell 1
        have r2 := HR.out.cell 2
        have r3 := HR.out.cell 3
        have r4 := HR.out.cell 4
        have v0 := HR.out.free 0
        have v1 := HR.out.free 1
        have v2 := HR.out.free 2
        have v3 := HR.out.free 3
        have v4 := HR.out.free 4
        simp at r0 r1 r2 r3 r4
        go_wp2_with fail
        refine ret_world fun W hW => ?_
        obtain ⟨c0, c1, c2, c3, c4⟩ := box5n r0 r1 r2 r3 r4 hW
        have hB := box5n_below HB.out (Nat.le_refl _) hW
        have OP : Ow wr (w.heap.size + 1) (some ⟨gP, 0, none⟩) k k (List.replicate k h) := Ow.of_cells (by omega) HC.out HS.out (fun j hj => by rw [rep_get hj]; exact HV.out j hj) (by simp) (by unfold maxLen; omega)
        have OQ : Ow wr (w.heap.size + 1) (some ⟨gQ, 0, none⟩) k k (List.replicate k 0) := Ow.of_cells (by omega) HQ.out (size_madeCells _ _) (fun j hj => by rw [rep_get hj]; exact made_get hj) (by simp) (by unfold maxLen; omega)
        refine bodyPost_ret (v := .agg #[.int .i64 s, .int .i64 (wn : Int), .int .i64 (hn : Int), .slice (some ⟨gP, 0, none⟩) k k, .slice (some ⟨gQ, 0, none⟩) k k]) (by simp [results, Try.results48, go_sem, c0, c1, c2, c3, c4]) rfl ⟨_, k, _, k, rfl, ?_, ?_, fun x y hx hy => by injection hx with hx; injection hy with hy; subst hx hy; exact d1, hB⟩
        · rw [hW]
          exact Ow.lower (Ow.low _ (by omega) (Ow.low _ (by omega) (Ow.low _ (by omega) (Ow.low _ (by omega) (Ow.low _ (by omega) OP))))) (by omega)
        · rw [hW]
          exact Ow.lower (Ow.low _ (by omega) (Ow.low _ (by omega) (Ow.low _ (by omega) (Ow.low _ (by omega) (Ow.low _ (by omega) OQ))))) (by omega)

end Go.Proofs.Ytpgjllpiefpjjaa.WalkFT
