/- Decibels: the program's logarithm. -/
import Derived.Test.YthjdmcjlnmonmabDoorWalkLS
import Derived.Test.YthjdmcjlnmonmabDoorText
import Derived.Test.YthjdmcjlnmonmabDoorWalkP
import Derived.Test.YthjdmcjlnmonmabDoorWords
import Derived.Deep.RegionHeld3
import Derived.Deep.DeepCutAuto
namespace Go.Proofs.YthjdmcjlnmonmabDoor.WalkLI
open Go Go.RowKit Go.Proofs.YthjdmcjlnmonmabDoor.Base Go.Proofs.YthjdmcjlnmonmabDoor.Plain Go.Proofs.YthjdmcjlnmonmabDoor.PlainDb Go.Proofs.YthjdmcjlnmonmabDoor.WalkN Go.Proofs.YthjdmcjlnmonmabDoor.WalkP Go.Proofs.YthjdmcjlnmonmabDoor.Words Go.Proofs.YthjdmcjlnmonmabDoor.WalkLS Go.Proofs.YthjdmcjlnmonmabDoor.Text
set_option linter.unusedVariables false
set_option linter.unusedSimpArgs false

theorem implTimes (a ea b eb c e : Int) (w : World) (ha : 100000000 ≤ a ∧ a ≤ 999999999) (hb : 100000000 ≤ b ∧ b ≤ 999999999) (h1 : -1000 ≤ ea ∧ ea ≤ 1000) (h2 : -1000 ≤ eb ∧ eb ≤ 1000) (hc : tmN a b = c) (he : ea + eb + tmE a b = e) :
    Calls Tryd.prog 35 #[.agg #[.int .i64 a, .int .i64 ea], .agg #[.int .i64 b, .int .i64 eb]] w fun x w' => x = .returned (.agg #[.int .i64 c, .int .i64 e]) ∧ Below w.heap.size w w' := by
  have hm := tm_raw ha hb
  by_cases hc : 1000000000 ≤ a * b / 100000000
  · rw [tmN_hi hc] at *
    rw [tmE_hi hc] at *
    subst c e
    go_enter Tryd.func35, Tryd.ntmps35
    go_wp2
    exact bodyPost_ret (v := .agg #[.int .i64 (a * b / 100000000 / 10), .int .i64 (ea + eb + 1)]) (by simp [results, Tryd.results35, go_sem]) rfl ⟨rfl, (by repeat (first | with_reducible exact Below.refl _ _ | with_reducible assumption | (with_reducible refine Below.drew ?_) | (with_reducible refine below_drewN ?_ _) | ((with_reducible refine Below.alloc ?_ ?_ _); rotate_left; (focus first | exact Nat.le_refl _ | omega | (simp; done) | (simp; omega))) | ((with_reducible refine Below.setCell ?_ ?_ _); rotate_left; (focus first | exact Nat.le_refl _ | omega | (simp; done) | (simp; omega))) | ((with_reducible refine below_via (W := ?_) ?_ ?_ ?_); rotate_left; (with_reducible assumption); rotate_left; (focus first | exact Nat.le_refl _ | omega | (simp; done) | (simp; omega)))))⟩
  · rw [tmN_lo hc] at *
    rw [tmE_lo hc] at *
    subst c e
    go_enter Tryd.func35, Tryd.ntmps35
    go_wp2
    exact bodyPost_ret (v := .agg #[.int .i64 (a * b / 100000000), .int .i64 (ea + eb)]) (by simp [results, Tryd.results35, go_sem]) rfl ⟨by simp, (by repeat (first | with_reducible exact Below.refl _ _ | with_reducible assumption | (with_reducible refine Below.drew ?_) | (with_reducible refine below_drewN ?_ _) | ((with_reducible refine Below.alloc ?_ ?_ _); rotate_left; (focus first | exact Nat.le_refl _ | omega | (simp; done) | (simp; omega))) | ((with_reducible refine Below.setCell ?_ ?_ _); rotate_left; (focus first | exact Nat.le_refl _ | omega | (simp; done) | (simp; omega))) | ((with_reducible refine below_via (W := ?_) ?_ ?_ ?_); rotate_left; (with_reducible assumption); rotate_left; (focus first | exact Nat.le_refl _ | omega | (simp; done) | (simp; omega)))))⟩

theorem norm_of2 {n d M J X Y : Nat} (hd : Lib.nDigits n = d + 1) (hM : d ≤ 8 → M + d = 8) (hM' : 8 < d → M = 0) (hJ : d ≤ 8 → J = 0) (hJ' : 8 < d → J + 8 = d) (hX : X = n * 10 ^ M) (hY : Y = X / 10 ^ J) : Y = normN n := by
  unfold normN
  rw [hd]
  by_cases hd8 : d ≤ 8
  · have := hM hd8
    have := hJ hd8
    subst J
    rw [if_pos (by omega), hY, hX, Nat.pow_zero, Nat.div_one]
    congr 2 <;> omega
  · have := hM' (by omega)
    have := hJ' (by omega)
    subst M
    rw [if_neg (by omega), hY, hX, Nat.pow_zero, Nat.mul_one]
    congr 2 <;> omega
theorem ten_parts {a y2 e2 y4 e4 y5 e5 yt et : Int} (h1 : tmN a a = y2) (h2 : 0 + 0 + tmE a a = e2) (h3 : tmN y2 y2 = y4) (h4 : e2 + e2 + tmE y2 y2 = e4) (h5 : tmN y4 a = y5) (h6 : e4 + 0 + tmE y4 a = e5) (h7 : tmN y5 y5 = yt) (h8 : e5 + e5 + tmE y5 y5 = et) : tenN a = yt ∧ tenE a = et := by
  subst h1
  subst h3
  subst h5
  subst h7
  have e1 : tenE a = 2 * (2 * tmE a a + tmE (tmN a a) (tmN a a) + tmE (tmN (tmN a a) (tmN a a)) a) + tmE (tmN (tmN (tmN a a) (tmN a a)) a) (tmN (tmN (tmN a a) (tmN a a)) a) := rfl
  exact ⟨rfl, by rw [e1]; omega⟩

set_option maxHeartbeats 2000000 in
theorem implLog (n : Nat) (w : World) (h1 : 1 ≤ n) (h2 : n ≤ 9223372036854775807) (hT : Tab w) :
    Calls Tryd.prog 21 #[.int .i64 n] w fun e w' => e = .returned (.int .i64 (logF n)) ∧ Below w.heap.size w w' := by
  obtain ⟨d, hd⟩ : ∃ d, Lib.nDigits n = d + 1 := ⟨Lib.nDigits n - 1, by have := Lib.nDigits_pos n; omega⟩
  have hd18 : d ≤ 18 := by have := nDigits_le h1 h2; omega
  have hts : (txt (n : Int)).size = d + 1 := (txt_nat n).trans hd
  have HD := Lib.hid hd
  have C := Lib.hid (implDec (n : Int) w (by omega) hT)
  have dn : decide ((n : Int) < 1) = false := decide_eq_false (by omega)
  obtain ⟨M, hM, hM1, hM2⟩ : ∃ M : Nat, max ((8 : Int) - d) 0 = (M : Int) ∧ (d ≤ 8 → M + d = 8) ∧ (8 < d → M = 0) := ⟨8 - d, by omega, by omega, by omega⟩
  obtain ⟨L, hL, hL1, hL2⟩ : ∃ L : Nat, max ((d : Int) - 8) 0 = (L : Int) ∧ (d ≤ 8 → L = 0) ∧ (8 < d → L + 8 = d) := ⟨d - 8, by omega, by omega, by omega⟩
  have hMb : M ≤ 8 := by omega
  have hLb : L ≤ 10 := by omega
  have HM1 := Lib.hid hM1
  have HM2 := Lib.hid hM2
  have HL1 := Lib.hid hL1
  have HL2 := Lib.hid hL2
  clear hd hT hM1 hM2 hL1 hL2
  obtain ⟨t, ht⟩ : ∃ t, txt (n : Int) = t := ⟨_, rfl⟩
  rw [ht] at hts C
  clear ht
  go_enter Tryd.func21, Tryd.ntmps21
  go_wp2_with (go_at_call 34; refine C.out.mono ?_; rintro e w1 ⟨rfl, hb1⟩)
  clear hts hM
  go_loop [4, 18] (fun x i => ∃ X K : Nat, x = .int .i64 X ∧ i = .int .i64 K ∧ K ≤ M ∧ 1 ≤ X ∧ X ≤ 9223372036854775807 ∧ Hid (X = n * 10 ^ K)) (fun _ i => (M - intOf i).toNat)
  case atStart => exact ⟨n, 0, rfl, rfl, by omega, h1, h2, Lib.hid (by simp)⟩
  case round =>
    obtain ⟨X, K, rfl, rfl, hK, hX1, hX2, HX⟩ := hrel
    by_cases hlt : K < M
    · have hXb : X < 1000000000 := by
        rw [HX.out]
        exact up_bd (by have h3 := HM1.out; have h4 := HM2.out; have h5 := HD.out; omega)
      have HX2 : Hid (X * 10 = n * 10 ^ (K + 1)) := Lib.hid (by rw [HX.out, up_step])
      go_wp2
      go_round
      case rel => exact ⟨X * 10, K + 1, by go_num, by go_num, by omega, by omega, by omega, HX2⟩
      case measure => simp [intOf]; omega
    · obtain rfl : K = M := by omega
      go_wp2
      clear hL
      go_loop [4, 26] (fun x i => ∃ Y J : Nat, x = .int .i64 Y ∧ i = .int .i64 J ∧ J ≤ L ∧ Y ≤ X ∧ Hid (Y = X / 10 ^ J)) (fun _ i => (L - intOf i).toNat)
      case atStart => exact ⟨X, 0, rfl, rfl, by omega, Nat.le_refl _, Lib.hid (by simp)⟩
      case round =>
        obtain ⟨Y, J, rfl, rfl, hJ, hY, HY⟩ := hrel
        by_cases hlt : J < L
        · have HY2 : Hid (Y / 10 = X / 10 ^ (J + 1)) := Lib.hid (by rw [HY.out, down_step])
          go_wp2
          go_round
          case rel => exact ⟨Y / 10, J + 1, by go_num, by go_num, by omega, by omega, HY2⟩
          case measure => simp [intOf]; omega
        · obtain rfl : J = L := by omega
          have HZ := Lib.hid (norm_of2 HD.out HM1.out HM2.out HL1.out HL2.out HX.out HY.out)
          have b1 := nrm_fst h1
          have b2 := nrm_snd h1 h2
          go_wp2
          go_loopw [3, 4, 31] (fun r x i wr => ∃ (q : Nat) (a b : Int), r = .int .i64 b ∧ x = .int .i64 a ∧ i = .int .i64 q ∧ q ≤ 4 ∧ (100000000 ≤ a ∧ a ≤ 999999999) ∧ 0 ≤ b ∧ b ≤ 189999 ∧ Hid (Below w.heap.size w wr) ∧ Hid (run4 q (nrm n) = (a, b))) (fun _ _ i _ => (4 - intOf i).toNat)
          case atStart => exact ⟨0, (nrm n).1, (nrm n).2, by have := HD.out; unfold nrm; go_num, by unfold nrm; rw [← HZ.out], rfl, by omega, b1, b2.1, by omega, Lib.hid hb1, Lib.hid rfl⟩
          case round =>
            obtain ⟨q, a, b, rfl, rfl, rfl, hq, ha, hb1, hb2, HB, HR⟩ := hrel
            by_cases hq4 : q < 4
            · obtain ⟨y2, k2⟩ : ∃ y, tmN a a = y := ⟨_, rfl⟩
              obtain ⟨e2, l2⟩ : ∃ y, 0 + 0 + tmE a a = y := ⟨_, rfl⟩
              obtain ⟨y4, k4⟩ : ∃ y, tmN y2 y2 = y := ⟨_, rfl⟩
              obtain ⟨e4, l4⟩ : ∃ y, e2 + e2 + tmE y2 y2 = y := ⟨_, rfl⟩
              obtain ⟨y5, k5⟩ : ∃ y, tmN y4 a = y := ⟨_, rfl⟩
              obtain ⟨e5, l5⟩ : ∃ y, e4 + 0 + tmE y4 a = y := ⟨_, rfl⟩
              obtain ⟨yt, kt⟩ : ∃ y, tmN y5 y5 = y := ⟨_, rfl⟩
              obtain ⟨et, lt⟩ : ∃ y, e5 + e5 + tmE y5 y5 = y := ⟨_, rfl⟩
              have r2 := tmN_range ha ha
              rw [k2] at r2
              have r4 := tmN_range r2 r2
              rw [k4] at r4
              have r5 := tmN_range r4 ha
              rw [k5] at r5
              have rt := tmN_range r5 r5
              rw [kt] at rt
              have m1 := tmE_range a a
              have m2 := tmE_range y2 y2
              have m3 := tmE_range y4 a
              have m4 := tmE_range y5 y5
              have n2 : 0 ≤ e2 ∧ e2 ≤ 1 := by omega
              have n4 : 0 ≤ e4 ∧ e4 ≤ 3 := by omega
              have n5 : 0 ≤ e5 ∧ e5 ≤ 4 := by omega
              have nt : 0 ≤ et ∧ et ≤ 9 := by omega
              have HN := Lib.hid (run4_next HR.out)
              obtain ⟨p1, p2⟩ := ten_parts k2 l2 k4 l4 k5 l5 kt lt
              rw [p1, p2] at HN
              have O1 := Lib.hid (fun W => implTimes a 0 a 0 y2 e2 W ha ha (by omega) (by omega) k2 l2)
              have O2 := Lib.hid (fun W => implTimes y2 e2 y2 e2 y4 e4 W r2 r2 (by omega) (by omega) k4 l4)
              have O3 := Lib.hid (fun W => implTimes y4 e4 a 0 y5 e5 W r4 ha (by omega) (by omega) k5 l5)
              have O4 := Lib.hid (fun W => implTimes y5 e5 y5 e5 yt et W r5 r5 (by omega) (by omega) kt lt)
              clear k2 l2 k4 l4 k5 l5 kt lt m1 m2 m3 m4 p1 p2
              have hbd := run4_bd b2.1 b2.2 (show q + 1 ≤ 4 by omega)
              rw [HN.out] at hbd
              have hz := HB.out.size
              go_upto_region 17 with (go_at_call 35; (with_reducible refine (O1.out _).mono ?_); rintro e w2 ⟨rfl, hb2⟩; obtain ⟨hc2, hf2⟩ := bcell hb2; have s2 := hb2.size; (try simp at s2))
              go_cut [7] (fun s7 wx => ∃ g : Nat, s7 = .pointer (some ⟨g, 0, none⟩) ∧ Hid (Below w.heap.size w wx) ∧ w.heap.size ≤ g ∧ Hid (Blk wx g 38 #[.int .i64 y5, .int .i64 e5]))
              case first =>
                go_region_held3 (fun w' => w'.cell? ⟨wr.heap.size, 0, none⟩ = some (.int .i64 a) ∧ w'.cell? ⟨wr.heap.size, 1, none⟩ = some (.int .i64 0) ∧ w'.cell? ⟨w2.heap.size, 0, none⟩ = some (.int .i64 y2) ∧ w'.cell? ⟨w2.heap.size, 1, none⟩ = some (.int .i64 e2)) ((((try dsimp only); (repeat' apply And.intro) <;> (repeat (first | with_reducible assumption | (with_reducible refine keep_drew ?_) | (with_reducible refine keep_drewN ?_) | ((with_reducible refine keep_new _ _ _ _ _ _ ?_ ?_) <;> (first | rfl | (simp; done) | omega)) | (with_reducible refine keep_alloc _ ?_) | ((with_reducible refine keep_set _ ?_ ?_); (focus first | omega | (simp; done) | (simp; omega))) | ((with_reducible refine keep_set' _ ?_ ?_); (focus first | omega | (simp; done))) | ((with_reducible refine keep_same (u := ?_) _ ?_); rotate_left) | ((with_reducible refine keep_setA _ ?_ ?_); (focus first | omega | (simp; done) | (simp; omega))) | ((with_reducible refine keep_below (w := ?_) ?_ ?_); rotate_left; (with_reducible assumption)))))))
                  (first
                    | (go_at_call 35; (with_reducible refine (O2.out _).mono ?_); rintro e w3 ⟨rfl, hb3⟩; obtain ⟨hc3, hf3⟩ := bcell hb3; have s3 := hb3.size; (try simp at s3); have lt3 : w2.heap.size < w3.heap.size := (by omega); (try (have lt3' : w2.heap.size + 1 < w3.heap.size := (by omega))))
                    | (go_at_call 35; (with_reducible refine (O3.out _).mono ?_); rintro e w4 ⟨rfl, hb4⟩; obtain ⟨hc4, hf4⟩ := bcell hb4; have s4 := hb4.size; (try simp at s4); have lt4 : w2.heap.size < w4.heap.size := (by omega); (try (have lt4' : w2.heap.size + 1 < w4.heap.size := (by omega))); (try (have lt4'' : w3.heap.size < w4.heap.size := (by omega)))))
                all_goals (go_wp2_with fail; go_meet; refine ⟨_, rfl, Lib.hid (by have hb := HB.out; clear hc2 hf2 hc3 hf3 hc4 hf4; exact (by repeat (first | with_reducible exact Below.refl _ _ | with_reducible assumption | (with_reducible refine Below.drew ?_) | (with_reducible refine below_drewN ?_ _) | ((with_reducible refine Below.alloc ?_ ?_ _); rotate_left; (focus first | exact Nat.le_refl _ | omega | (simp; done) | (simp; omega))) | ((with_reducible refine Below.setCell ?_ ?_ _); rotate_left; (focus first | exact Nat.le_refl _ | omega | (simp; done) | (simp; omega))) | ((with_reducible refine below_via (W := ?_) ?_ ?_ ?_); rotate_left; (with_reducible assumption); rotate_left; (focus first | exact Nat.le_refl _ | omega | (simp; done) | (simp; omega)))))), by omega, Lib.hid ?_⟩)
                all_goals first
                  | ((repeat (first | with_reducible assumption | (with_reducible refine Blk.drew ?_) | (with_reducible refine Blk.drewN ?_ _) | ((with_reducible refine Blk.new _ _ _ ?_); (focus first | rfl | (simp; done) | omega)) | (with_reducible refine Blk.alloc ?_ _) | ((with_reducible refine Blk.far ?_ _ ?_); rotate_left; (focus first | omega | (simp; done) | (simp; omega))) | ((with_reducible refine Blk.below (w := ?_) ?_ ?_); rotate_left; (with_reducible assumption)))); done)
                  | exact Blk.set_ (Blk.set_ (cs := #[.int .i64 0, .int .i64 0]) (by (repeat (first | with_reducible assumption | (with_reducible refine Blk.drew ?_) | (with_reducible refine Blk.drewN ?_ _) | ((with_reducible refine Blk.new _ _ _ ?_); (focus first | rfl | (simp; done) | omega)) | (with_reducible refine Blk.alloc ?_ _) | ((with_reducible refine Blk.far ?_ _ ?_); rotate_left; (focus first | omega | (simp; done) | (simp; omega))) | ((with_reducible refine Blk.below (w := ?_) ?_ ?_); rotate_left; (with_reducible assumption))))) 0 _) 1 _
              case rest =>
                obtain ⟨g, rfl, HB2, hg, HK⟩ := hcut
                have c0 := HK.out.cell 0
                have c1 := HK.out.cell 1
                simp at c0 c1
                have hgl := HK.out.lt
                go_wp2_with fail
                refine (O4.out _).mono ?_
                rintro e w5 ⟨rfl, hb5⟩
                have K5 : Blk w5 g 38 #[.int .i64 y5, .int .i64 e5] := Blk.below hb5 HK.out
                have d0 := K5.cell 0
                have d1 := K5.cell 1
                have f0 := K5.free 0
                have f1 := K5.free 1
                simp at d0 d1
                have B5 : Hid (Below w.heap.size w w5) := Lib.hid (by have hb := HB2.out; exact (by repeat (first | with_reducible exact Below.refl _ _ | with_reducible assumption | (with_reducible refine Below.drew ?_) | (with_reducible refine below_drewN ?_ _) | ((with_reducible refine Below.alloc ?_ ?_ _); rotate_left; (focus first | exact Nat.le_refl _ | omega | (simp; done) | (simp; omega))) | ((with_reducible refine Below.setCell ?_ ?_ _); rotate_left; (focus first | exact Nat.le_refl _ | omega | (simp; done) | (simp; omega))) | ((with_reducible refine below_via (W := ?_) ?_ ?_ ?_); rotate_left; (with_reducible assumption); rotate_left; (focus first | exact Nat.le_refl _ | omega | (simp; done) | (simp; omega))))))
                clear hb5 K5 c0 c1
                go_wp2_with fail
                have v1 : IntKind.i64.wrap (10 * b) = 10 * b := IntWalk.i64_in _ (by omega)
                have v2 : IntKind.i64.wrap (10 * b + et) = 10 * b + et := IntWalk.i64_in _ (by omega)
                go_quiet (fail)
                clear v1 v2
                go_wp2
                go_roundw
                case rel => exact ⟨q + 1, yt, 10 * b + et, rfl, rfl, by go_num, by omega, rt, hbd.1, hbd.2, Lib.hid (by have hb := B5.out; exact (by repeat (first | with_reducible exact Below.refl _ _ | with_reducible assumption | (with_reducible refine Below.drew ?_) | (with_reducible refine below_drewN ?_ _) | ((with_reducible refine Below.alloc ?_ ?_ _); rotate_left; (focus first | exact Nat.le_refl _ | omega | (simp; done) | (simp; omega))) | ((with_reducible refine Below.setCell ?_ ?_ _); rotate_left; (focus first | exact Nat.le_refl _ | omega | (simp; done) | (simp; omega))) | ((with_reducible refine below_via (W := ?_) ?_ ?_ ?_); rotate_left; (with_reducible assumption); rotate_left; (focus first | exact Nat.le_refl _ | omega | (simp; done) | (simp; omega)))))), HN⟩
                case measure => simp [intOf]; omega
            · obtain rfl : q = 4 := by omega
              have hb := HB.out
              go_wp2
              go_ret
              exact ⟨ret_int (by unfold logF; rw [HR.out]), hb⟩

theorem implLogZ (n : Int) (w : World) (h : -9223372036854775808 ≤ n ∧ n ≤ 9223372036854775807) (hT : Tab w) :
    Calls Tryd.prog 21 #[.int .i64 n] w fun e w' => e = .returned (.int .i64 (logZ n)) ∧ Below w.heap.size w w' := by
  by_cases h1 : n < 1
  · go_enter Tryd.func21, Tryd.ntmps21
    go_wp2
    go_ret
    exact ⟨ret_int (by unfold logZ; rw [if_pos h1]), Below.refl _ _⟩
  · obtain ⟨m, rfl⟩ : ∃ m : Nat, n = (m : Int) := ⟨n.toNat, by omega⟩
    rw [logZ_nat (by omega)]
    exact implLog m w (by omega) (by omega) hT
end Go.Proofs.YthjdmcjlnmonmabDoor.WalkLI
