/- NearestOf: the program's. -/
import Derived.Test.YtbggickeomeidaaWalkNr
namespace Go.Proofs.Ytbggickeomeidaa.WalkNs
open Go Go.RowKit Go.Proofs.Ytbggickeomeidaa.Base Go.Proofs.Ytbggickeomeidaa.Plain Go.Proofs.Ytbggickeomeidaa.Words Go.Proofs.Ytbggickeomeidaa.Ints Go.Proofs.Ytbggickeomeidaa.WalkN Go.Proofs.Ytbggickeomeidaa.WalkP Go.Proofs.Ytbggickeomeidaa.WalkI Go.Proofs.Ytbggickeomeidaa.Cells Go.Proofs.Ytbggickeomeidaa.Pts Go.Proofs.Ytbggickeomeidaa.Over Go.Proofs.Ytbggickeomeidaa.WalkPI Go.Proofs.Ytbggickeomeidaa.WalkNr
set_option linter.unusedVariables false
set_option linter.unusedSimpArgs false

theorem badClosure (x y : Int) (w : World) :
    Calls Try.prog 14 #[.agg #[.int .i64 x, .int .i64 y]] w fun e w' => e = .returned (.bool (!okP x y)) ∧ Below w.heap.size w w' := by
  have C := Lib.hid (fun W => implOkB x y W)
  go_enter Try.func14, Try.ntmps14
  go_wp2_with (go_at_call 12; refine (C.out _).mono ?_; rintro e w1 ⟨rfl, hb1⟩)
  go_ret
  exact ⟨rfl, (by repeat (first | with_reducible exact Below.refl _ _ | with_reducible assumption | (with_reducible refine Below.drew ?_) | (with_reducible refine below_drewN ?_ _) | ((with_reducible refine Below.alloc ?_ ?_ _); rotate_left; (focus first | exact Nat.le_refl _ | omega | (simp; done) | (simp; omega))) | ((with_reducible refine Below.setCell ?_ ?_ _); rotate_left; (focus first | exact Nat.le_refl _ | omega | (simp; done) | (simp; omega))) | ((with_reducible refine below_via (W := ?_) ?_ ?_ ?_); rotate_left; (with_reducible assumption); rotate_left; (focus first | exact Nat.le_refl _ | omega | (simp; done) | (simp; omega)))))⟩

theorem badAt (A : Option Addr) (n c : Nat) (ps : List PT) (w : World) (ha : Rp w A n ps) (hn : n ≤ 1048576) :
    Calls Try.prog 20 #[.slice A n c, .func (.func 14) #[] #[]] w fun e w' => ∃ r : Int, e = .returned (.int .i64 r) ∧ decide (0 ≤ r) = (!okPs ps) ∧ Below w.heap.size w w' := by
  have HA := Lib.hid ha
  have HL := Lib.hid ha.len
  clear ha
  go_enter Try.func20, Try.ntmps20
  go_wp2
  go_loopw [5, 8] (fun _ i wr => ∃ k : Nat, k ≤ n ∧ i = .int .i64 k ∧ Hid (Below w.heap.size w wr) ∧ Hid (∀ j, j < k → okP (at0 ps j) (at1 ps j) = true)) (fun _ i _ => n - (intOf i).toNat)
  case atStart => exact ⟨0, Nat.zero_le _, rfl, Lib.hid (Below.refl _ _), Lib.hid (fun j hj => absurd hj (by omega))⟩
  case round =>
    obtain ⟨k, hk, rfl, HB, HK⟩ := hrel
    by_cases hlt : k < n
    · obtain ⟨ad, rfl, hc0, hc1⟩ := (Rp.below HB.out HA.out).at_ hlt
      have CL := Lib.hid (badClosure (at0 ps k) (at1 ps k) wr)
      cases hin : okP (at0 ps k) (at1 ps k)
      · rw [hin] at CL
        have HF := Lib.hid (okPs_stop (by rw [HL.out]; exact hlt) hin)
        clear hin
        go_wp2_with (go_at_call 14; refine CL.out.mono ?_; rintro e w1 ⟨rfl, hb1⟩)
        go_ret
        exact ⟨_, rfl, by rw [HF.out]; simp, below_via hb1 HB.out HB.out.size⟩
      · rw [hin] at CL
        have HIN := Lib.hid hin
        clear hin
        go_wp2_with (go_at_call 14; refine CL.out.mono ?_; rintro e w1 ⟨rfl, hb1⟩)
        go_roundw
        case rel =>
          refine ⟨k + 1, by omega, by go_num, Lib.hid (below_via hb1 HB.out HB.out.size), Lib.hid fun j hj => ?_⟩
          by_cases e : j = k
          · rw [e]; exact HIN.out
          · exact HK.out j (by omega)
        case measure => simp [intOf]; omega
    · have hb := HB.out
      obtain rfl : k = n := by omega
      go_wp2
      go_ret
      exact ⟨_, rfl, by rw [okPs_end HL.out HK.out]; simp, hb⟩

theorem badHas (A : Option Addr) (n c : Nat) (ps : List PT) (w : World) (ha : Rp w A n ps) (hn : n ≤ 1048576) :
    Calls Try.prog 13 #[.slice A n c, .func (.func 14) #[] #[]] w fun e w' => e = .returned (.bool (!okPs ps)) ∧ Below w.heap.size w w' := by
  have HC := Lib.hid (badAt A n c ps w ha hn)
  clear ha
  go_enter Try.func13, Try.ntmps13
  go_wp2_with (go_at_call 20; refine HC.out.mono ?_; rintro e w1 ⟨r, rfl, hr, hb1⟩; have HR := Lib.hid hr; clear hr)
  go_ret
  exact ⟨ret_bool HR.out, hb1⟩

set_option maxHeartbeats 4000000 in
theorem implNear (A : Option Addr) (n c : Nat) (ps : List PT) (x y : Int) (w : World) (ra : Rp w A n ps) (hn : n ≤ 1048576) :
    Calls Try.prog 8 #[.slice A n c, .agg #[.int .i64 x, .int .i64 y]] w fun e w' => e = .returned (nearV ps x y) ∧ Below w.heap.size w w' := by
  have HA := Lib.hid ra
  have HL := Lib.hid ra.len
  have CL := Lib.hid (fun W => implOkB x y W)
  have CH := Lib.hid (fun W (hb : Below w.heap.size w W) => badHas A n c ps W (Rp.below hb HA.out) hn)
  clear ra
  cases hin : okP x y
  · rw [hin] at CL
    have HF := Lib.hid (nearV_eq (show nearR ps x y = (0, 1) by unfold nearR; rw [hin, Bool.and_false]; rfl))
    clear hin
    go_enter Try.func8, Try.ntmps8
    go_wp2_with (go_at_call 12; refine (CL.out _).mono ?_; rintro e w1 ⟨rfl, hb1⟩)
    go_ret2
    exact ⟨by rw [HF.out]; rfl, (by repeat (first | with_reducible exact Below.refl _ _ | with_reducible assumption | (with_reducible refine Below.drew ?_) | (with_reducible refine below_drewN ?_ _) | ((with_reducible refine Below.alloc ?_ ?_ _); rotate_left; (focus first | exact Nat.le_refl _ | omega | (simp; done) | (simp; omega))) | ((with_reducible refine Below.setCell ?_ ?_ _); rotate_left; (focus first | exact Nat.le_refl _ | omega | (simp; done) | (simp; omega))) | ((with_reducible refine below_via (W := ?_) ?_ ?_ ?_); rotate_left; (with_reducible assumption); rotate_left; (focus first | exact Nat.le_refl _ | omega | (simp; done) | (simp; omega)))))⟩
  rw [hin] at CL
  have HIN := Lib.hid hin
  cases hps : okPs ps
  · rw [hps] at CH
    have HF := Lib.hid (nearV_eq (show nearR ps x y = (0, 1) by unfold nearR; rw [hps]; rfl))
    clear hin hps
    go_enter Try.func8, Try.ntmps8
    go_wp2_with (first | (go_at_call 12; refine (CL.out _).mono ?_; rintro e w1 ⟨rfl, hb1⟩; have B1 := Lib.hid (below_via hb1 ((Below.refl w.heap.size w).alloc (Nat.le_refl _) (.cells #[.int .i64 x, .int .i64 y] 30)) (by simp)); clear hb1) | (go_at_call 13; refine (CH.out _ B1.out).mono ?_; rintro e w2 ⟨rfl, hb2⟩))
    go_ret2
    exact ⟨by rw [HF.out]; rfl, below_via hb2 B1.out B1.out.size⟩
  rw [hps] at CH
  have HOK := Lib.hid hps
  by_cases h0 : n = 0
  · subst h0
    have HF := Lib.hid (nearV_eq (show nearR ps x y = (0, 6) by unfold nearR; rw [hps, hin, HL.out]; rfl))
    clear hin hps
    go_enter Try.func8, Try.ntmps8
    go_wp2_with (first | (go_at_call 12; refine (CL.out _).mono ?_; rintro e w1 ⟨rfl, hb1⟩; have B1 := Lib.hid (below_via hb1 ((Below.refl w.heap.size w).alloc (Nat.le_refl _) (.cells #[.int .i64 x, .int .i64 y] 30)) (by simp)); clear hb1) | (go_at_call 13; refine (CH.out _ B1.out).mono ?_; rintro e w2 ⟨rfl, hb2⟩))
    go_ret2
    exact ⟨by rw [HF.out]; rfl, below_via hb2 B1.out B1.out.size⟩
  have HF := Lib.hid (nearV_eq (show nearR ps x y = ((bestN ps x y n : Int), 0) by
    have e : (n == 0) = false := by simp [h0]
    unfold nearR
    rw [hps, hin, HL.out, e]
    rfl))
  have e0 : ((n : Int) == 0) = false := by simp [h0]
  clear hin hps
  go_enter Try.func8, Try.ntmps8
  go_wp2_with (first | (go_at_call 12; refine (CL.out _).mono ?_; rintro e w1 ⟨rfl, hb1⟩; have B1 := Lib.hid (below_via hb1 ((Below.refl w.heap.size w).alloc (Nat.le_refl _) (.cells #[.int .i64 x, .int .i64 y] 30)) (by simp)); have K1 := Lib.hid (Blk.below hb1 (Blk.new w 30 #[.int .i64 x, .int .i64 y] rfl)); clear hb1) | (go_at_call 13; refine (CH.out _ B1.out).mono ?_; rintro e w2 ⟨rfl, hb2⟩))
  have HB1 := Lib.hid (below_via hb2 B1.out B1.out.size)
  have HK1 := Lib.hid (Blk.below hb2 K1.out)
  clear hb2 B1 K1
  go_loopw [6, 23] (fun b i wr => ∃ j : Nat, j ≤ n ∧ i = .int .i64 j ∧ b = .int .i64 (bestN ps x y j : Nat) ∧ Hid (Below w.heap.size w wr) ∧ Hid (Blk wr w.heap.size 30 #[.int .i64 x, .int .i64 y])) (fun _ i _ => n - (intOf i).toNat)
  case atStart => exact ⟨0, Nat.zero_le _, rfl, rfl, HB1, HK1⟩
  case round =>
    clear HB1 HK1
    obtain ⟨j, hj, rfl, rfl, HB, HK⟩ := hrel
    have hbl := bestN_lt ps x y j
    obtain ⟨b, hb⟩ : ∃ b, bestN ps x y j = b := ⟨_, rfl⟩
    have HBN := Lib.hid hb
    rw [hb] at hbl
    rw [hb]
    clear hb
    by_cases hjk : j < n
    · obtain ⟨ad, rfl, hc0, hc1⟩ := (Rp.below HB.out HA.out).at_ hjk
      have C1 := Lib.hid (fun W => implApart (at0 ps j) (at1 ps j) x y W (okPs_at HOK.out (by rw [HL.out]; exact hjk)) HIN.out)
      have C2 := Lib.hid (fun W => implApart (at0 ps b) (at1 ps b) x y W (okPs_at HOK.out (by rw [HL.out]; omega)) HIN.out)
      have HD1 : Hid (dN ps x y j = rootF (distN (at0 ps j) (at1 ps j) x y)) := Lib.hid rfl
      have HD2 : Hid (dN ps x y b = rootF (distN (at0 ps b) (at1 ps b) x y)) := Lib.hid rfl
      obtain ⟨r1, hr1⟩ : ∃ r, rootF (distN (at0 ps j) (at1 ps j) x y) = r := ⟨_, rfl⟩
      obtain ⟨r2, hr2⟩ : ∃ r, rootF (distN (at0 ps b) (at1 ps b) x y) = r := ⟨_, rfl⟩
      rw [hr1] at C1 HD1
      rw [hr2] at C2 HD2
      clear hr1 hr2
      have i0 : (0 : Int) ≤ (j : Int) := by omega
      have i1 : (j : Int) < (n : Int) := by omega
      have i2 : (0 : Int) ≤ (b : Int) := by omega
      have i3 : (b : Int) < (n : Int) := by omega
      go_upto_region 9 with fail
      obtain ⟨ob, hob⟩ : ∃ o, wr.heap.size = o := ⟨_, rfl⟩
      obtain ⟨W1, hW1⟩ : ∃ W, wr.alloc (.cells #[.int .i64 (at0 ps j), .int .i64 (at1 ps j)] 30) = W := ⟨_, rfl⟩
      have hbW : Below wr.heap.size wr W1 := by rw [← hW1]; exact (Below.refl _ _).alloc (Nat.le_refl _) _
      have KN : Blk W1 ob 30 #[.int .i64 (at0 ps j), .int .i64 (at1 ps j)] := by rw [← hW1]; exact Blk.new _ _ _ hob.symm
      rw [hW1]
      have HBW := Lib.hid (below_via hbW HB.out HB.out.size)
      have HKW := Lib.hid (Blk.below hbW HK.out)
      obtain ⟨bd, e, hd0, hd1⟩ := (Rp.below HBW.out HA.out).at_ (show b < n by omega)
      injection e with e
      subst e
      have lb : (ad.add (b * 2)).block < W1.heap.size := World.block_lt_of_cell? _ _ hd0
      have lw := HKW.out.lt
      have lo := KN.lt
      have p0 := HKW.out.cell 0
      have p1 := HKW.out.cell 1
      have t0 := KN.cell 0
      have t1 := KN.cell 1
      simp at p0 p1 t0 t1
      clear hc0 hc1 hbW KN hW1
      try rw [hob]
      have hu := Up.cells W1
      refine region_up (by kernel_rfl) (by kernel_rfl) ?_
      repeat (go_big_quiet_step ((go_at_call 15; first | (with_reducible exact call_up _ (C1.out _)) | (with_reducible exact call_up _ (C2.out _)))))
      refine wpQuiet_nil ?_
      rintro wz ⟨⟨wy, hbz⟩, (e : wz = wy)⟩
      subst e
      clear hu
      have HBZ := Lib.hid (below_via hbz HBW.out HBW.out.size)
      have HKZ := Lib.hid (Blk.below hbz HKW.out)
      clear hbz HB HK HBW HKW hob
      by_cases hd : r1 < r2
      · go_wp2_with fail
        go_roundw
        case rel => exact ⟨j + 1, by omega, by go_num, by rw [best_yes (by rw [HBN.out, HD1.out, HD2.out]; exact hd)], HBZ, HKZ⟩
        case measure => simp [intOf]; omega
      · go_wp2_with fail
        go_roundw
        case rel => exact ⟨j + 1, by omega, by go_num, by rw [best_no (by rw [HBN.out, HD1.out, HD2.out]; exact hd), HBN.out], HBZ, HKZ⟩
        case measure => simp [intOf]; omega
    · obtain rfl : j = n := by omega
      go_wp2_with fail
      go_ret2
      exact ⟨by rw [HF.out, HBN.out]; rfl, HB.out⟩

end Go.Proofs.Ytbggickeomeidaa.WalkNs
