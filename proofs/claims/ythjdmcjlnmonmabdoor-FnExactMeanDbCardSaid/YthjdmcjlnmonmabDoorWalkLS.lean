/- Decibels: the reference's logarithm and power. -/
import Derived.Test.YthjdmcjlnmonmabDoorWalkN
import Derived.Test.YthjdmcjlnmonmabDoorPlainDb
namespace Go.Proofs.YthjdmcjlnmonmabDoor.WalkLS
open Go.RowKit Go.Proofs.YthjdmcjlnmonmabDoor.Base Go.Proofs.YthjdmcjlnmonmabDoor.Plain Go.Proofs.YthjdmcjlnmonmabDoor.PlainDb Go.Proofs.YthjdmcjlnmonmabDoor.WalkN
set_option linter.unusedVariables false
set_option linter.unusedSimpArgs false

theorem tmN_hi {a b : Int} (h : 1000000000 ≤ a * b / 100000000) : tmN a b = a * b / 100000000 / 10 := by unfold tmN; rw [if_pos h]
theorem tmN_lo {a b : Int} (h : ¬ 1000000000 ≤ a * b / 100000000) : tmN a b = a * b / 100000000 := by unfold tmN; rw [if_neg h]
theorem tmE_hi {a b : Int} (h : 1000000000 ≤ a * b / 100000000) : tmE a b = 1 := by unfold tmE; rw [if_pos h]
theorem tmE_lo {a b : Int} (h : ¬ 1000000000 ≤ a * b / 100000000) : tmE a b = 0 := by unfold tmE; rw [if_neg h]

theorem ret_two {u v u' v' : Value} (h : u = u') (k : v = v') : Ending.returned (.tuple #[u, v]) = .returned (.tuple #[u', v']) := by rw [h, k]
theorem specTimes (a b : Int) (w : World) (ha : 100000000 ≤ a ∧ a ≤ 999999999) (hb : 100000000 ≤ b ∧ b ≤ 999999999) :
    Calls Tryd.prog 39 #[.int .i64 a, .int .i64 b] w fun e w' => e = .returned (.tuple #[.int .i64 (tmN a b), .int .i64 (tmE a b)]) ∧ w = w' := by
  have hm := tm_raw ha hb
  by_cases hc : 1000000000 ≤ a * b / 100000000
  · have H1 := Lib.hid (tmN_hi hc)
    have H2 := Lib.hid (tmE_hi hc)
    go_enter Tryd.func39, Tryd.ntmps39
    go_wp2
    go_ret2
    exact ⟨ret_two (congrArg (Value.int .i64) H1.out.symm) (congrArg (Value.int .i64) H2.out.symm), rfl⟩
  · have H1 := Lib.hid (tmN_lo hc)
    have H2 := Lib.hid (tmE_lo hc)
    go_enter Tryd.func39, Tryd.ntmps39
    go_wp2
    go_ret2
    exact ⟨ret_two (congrArg (Value.int .i64) H1.out.symm) (congrArg (Value.int .i64) H2.out.symm), rfl⟩

theorem specTenth (x : Int) (w : World) (h : 100000000 ≤ x ∧ x ≤ 999999999) :
    Calls Tryd.prog 33 #[.int .i64 x] w fun e w' => e = .returned (.tuple #[.int .i64 (tenN x), .int .i64 (tenE x)]) ∧ w = w' := by
  have h2 := tmN_range h h
  have h4 := tmN_range h2 h2
  have h5 := tmN_range h4 h
  have e1 := tmE_range x x
  have e2 := tmE_range (tmN x x) (tmN x x)
  have e3 := tmE_range (tmN (tmN x x) (tmN x x)) x
  have e4 := tmE_range (tmN (tmN (tmN x x) (tmN x x)) x) (tmN (tmN (tmN x x) (tmN x x)) x)
  go_enter Tryd.func33, Tryd.ntmps33
  go_wp2_with (go_at_call 39; refine (specTimes _ _ _ (by assumption) (by assumption)).mono ?_; rintro e w' ⟨rfl, rfl⟩)
  go_ret2
  exact ⟨rfl, rfl⟩

theorem norm_of {n d K X Y : Nat} (hd : Lib.nDigits n = d + 1) (hX : X = n * 10 ^ (K - d)) (h1 : d ≤ K) (h2 : 8 ≤ K) (h3 : K ≤ 8 ∨ K = d) (J : Nat) (hY : Y = X / 10 ^ (d - J)) (h4 : J ≤ d) (h5 : 8 ≤ J ∨ J = d) (h6 : J ≤ 8) : Y = normN n := by
  unfold normN
  rw [hd]
  by_cases hd8 : d ≤ 8
  · obtain rfl : K = 8 := by omega
    obtain rfl : J = d := by omega
    rw [if_pos (by omega), hY, hX, Nat.sub_self, Nat.pow_zero, Nat.div_one]
    congr 2 <;> omega
  · obtain rfl : K = d := by omega
    obtain rfl : J = 8 := by omega
    rw [if_neg (by omega), hY, hX, Nat.sub_self, Nat.pow_zero, Nat.mul_one]
    congr 2 <;> omega
theorem up_lt {n d K X : Nat} (hd : Lib.nDigits n = d + 1) (hX : X = n * 10 ^ (K - d)) (h1 : d ≤ K) (h : K < 8) : X < 1000000000 := by
  rw [hX]
  exact up_bd (by omega)
theorem up_on {n d K X : Nat} (hX : X = n * 10 ^ (K - d)) (h1 : d ≤ K) : X * 10 = n * 10 ^ (K + 1 - d) := by
  rw [hX, up_step]
  congr 2 <;> omega
theorem down_on {d J X Y : Nat} (hY : Y = X / 10 ^ (d - J)) (h : J ≤ d) (h1 : 1 ≤ J) : Y / 10 = X / 10 ^ (d - (J - 1)) := by
  rw [hY, down_step]
  congr 2 <;> omega
theorem down_le {d J X Y : Nat} (hY : Y = X / 10 ^ (d - J)) : Y ≤ X := by
  rw [hY]
  exact Nat.div_le_self _ _
theorem run4_next {k : Nat} {p : Int × Int} {a b : Int} (h : run4 k p = (a, b)) : run4 (k + 1) p = (tenN a, 10 * b + tenE a) := by
  show (tenN (run4 k p).1, 10 * (run4 k p).2 + tenE (run4 k p).1) = _
  rw [h]

set_option maxHeartbeats 1000000 in
theorem specLog (n : Nat) (w : World) (h1 : 1 ≤ n) (h2 : n ≤ 9223372036854775807) :
    Calls Tryd.prog 20 #[.int .i64 n] w fun e w' => e = .returned (.int .i64 (logF n)) ∧ w = w' := by
  obtain ⟨d, hd⟩ : ∃ d, Lib.nDigits n = d + 1 := ⟨Lib.nDigits n - 1, by have := Lib.nDigits_pos n; omega⟩
  have hd18 : d ≤ 18 := by have := nDigits_le h1 h2; omega
  have HD := Lib.hid hd
  clear hd
  go_enter Tryd.func20, Tryd.ntmps20
  go_wp2
  go_loop [3, 4] (fun r m => ∃ k u : Nat, r = .int .i64 k ∧ m = .int .i64 u ∧ 1 ≤ u ∧ u ≤ n ∧ k ≤ d ∧ Hid (Lib.nDigits u + k = d + 1)) (fun _ m => (intOf m).toNat)
  case atStart => exact ⟨0, n, rfl, rfl, h1, Nat.le_refl _, Nat.zero_le _, Lib.hid HD.out⟩
  case round =>
    obtain ⟨k, u, rfl, rfl, hu1, hu2, hk, HU⟩ := hrel
    by_cases hlt : 10 ≤ u
    · have HN : Hid (Lib.nDigits (u / 10) + (k + 1) = d + 1) := Lib.hid (by have := HU.out; rw [Lib.nDigits_big (by omega)] at this; omega)
      go_wp2
      go_round
      case rel => exact ⟨k + 1, u / 10, by go_num, by go_num, by omega, by omega, by have := HN.out; have := Lib.nDigits_pos (u / 10); omega, HN⟩
      case measure => simp [intOf]; omega
    · obtain rfl : k = d := by have := HU.out; rw [Lib.nDigits_small (by omega)] at this; omega
      clear HU
      go_wp2
      go_loop [5, 6] (fun x kk => ∃ X K : Nat, x = .int .i64 X ∧ kk = .int .i64 K ∧ k ≤ K ∧ (K ≤ 8 ∨ K = k) ∧ 1 ≤ X ∧ X ≤ 9223372036854775807 ∧ Hid (X = n * 10 ^ (K - k))) (fun _ kk => (8 - intOf kk).toNat)
      case atStart => exact ⟨n, k, rfl, rfl, Nat.le_refl _, .inr rfl, h1, h2, Lib.hid (by simp)⟩
      case round =>
        obtain ⟨X, K, rfl, rfl, hK1, hK2, hX1, hX2, HX⟩ := hrel
        by_cases hlt8 : K < 8
        · have hXb := up_lt HD.out HX.out hK1 hlt8
          have HX2 := Lib.hid (up_on HX.out hK1)
          go_wp2
          go_round
          case rel => exact ⟨X * 10, K + 1, by go_num, by go_num, by omega, by omega, by omega, by omega, HX2⟩
          case measure => simp [intOf]; omega
        · go_wp2
          go_loop [5, 7] (fun y kk => ∃ Y J : Nat, y = .int .i64 Y ∧ kk = .int .i64 J ∧ J ≤ k ∧ (8 ≤ J ∨ J = k) ∧ Y ≤ X ∧ Hid (Y = X / 10 ^ (k - J))) (fun _ kk => (intOf kk).toNat)
          case atStart => exact ⟨X, k, rfl, rfl, Nat.le_refl _, .inr rfl, Nat.le_refl _, Lib.hid (by simp)⟩
          case round =>
            obtain ⟨Y, J, rfl, rfl, hJ1, hJ2, hY, HY⟩ := hrel
            by_cases hgt : 8 < J
            · have HY2 := Lib.hid (down_on HY.out hJ1 (by omega))
              go_wp2
              go_round
              case rel => exact ⟨Y / 10, J - 1, by go_num, by go_num, by omega, by omega, by omega, HY2⟩
              case measure => simp [intOf]; omega
            · have HZ := Lib.hid (norm_of HD.out HX.out hK1 (by omega) (by omega) J HY.out hJ1 hJ2 (by omega))
              have b1 := nrm_fst h1
              have b2 := nrm_snd h1 h2
              go_wp2
              go_loop [3, 5, 8] (fun r x i => ∃ (q : Nat) (a b : Int), r = .int .i64 b ∧ x = .int .i64 a ∧ i = .int .i64 q ∧ q ≤ 4 ∧ (100000000 ≤ a ∧ a ≤ 999999999) ∧ 0 ≤ b ∧ b ≤ 189999 ∧ Hid (run4 q (nrm n) = (a, b))) (fun _ _ i => (4 - intOf i).toNat)
              case atStart => exact ⟨0, (nrm n).1, (nrm n).2, by have := HD.out; unfold nrm; go_num, by unfold nrm; rw [← HZ.out], rfl, by omega, b1, b2.1, by omega, Lib.hid rfl⟩
              case round =>
                obtain ⟨q, a, b, rfl, rfl, rfl, hq, ha, hb1, hb2, HR⟩ := hrel
                by_cases hq4 : q < 4
                · have HN := Lib.hid (run4_next HR.out)
                  have t1 := tenN_range ha
                  have t2 := tenE_range a
                  have hbd := run4_bd b2.1 b2.2 (show q + 1 ≤ 4 by omega)
                  rw [HN.out] at hbd
                  go_wp2_with (go_at_call 33; refine (specTenth _ _ (by assumption)).mono ?_; rintro e w' ⟨rfl, rfl⟩)
                  go_round
                  case rel => exact ⟨q + 1, tenN a, 10 * b + tenE a, rfl, rfl, by go_num, by omega, t1, hbd.1, hbd.2, HN⟩
                  case measure => simp [intOf]; omega
                · obtain rfl : q = 4 := by omega
                  go_wp2
                  go_ret
                  exact ⟨ret_int (by unfold logF; rw [HR.out]), rfl⟩

theorem specPow (v : Int) (w : World) (hv : -1000000 ≤ v ∧ v ≤ 1000000) :
    Calls Tryd.prog 23 #[.int .i64 v] w fun e w' => e = .returned (.int .i64 (powF v)) ∧ w = w' := by
  go_enter Tryd.func23, Tryd.ntmps23
  go_wp2
  go_loop [3, 4, 5] (fun low high mid => ∃ lo hi : Nat, low = .int .i64 lo ∧ high = .int .i64 hi ∧ lo ≤ hi ∧ 1 ≤ lo ∧ hi ≤ 1000000000000000000 ∧ Hid (powG v lo hi = powG v 1 1000000000000000000)) (fun low high _ => (intOf high - intOf low).toNat)
  case atStart => exact ⟨1, 1000000000000000000, rfl, rfl, by omega, by omega, by omega, Lib.hid rfl⟩
  case round =>
    obtain ⟨lo, hi, rfl, rfl, h1, h2, h3, HP⟩ := hrel
    by_cases hlt : lo < hi
    · obtain ⟨m, hm⟩ : ∃ m : Nat, (lo + hi) / 2 = m := ⟨_, rfl⟩
      have em : ((lo : Int) + hi) / 2 = (m : Int) := by omega
      have C := Lib.hid (fun W => specLog m W (by omega) (by omega))
      by_cases hc : v ≤ logF m
      · have HP2 := Lib.hid ((powG_lo hlt (by rw [hm]; exact hc)).symm.trans HP.out)
        rw [hm] at HP2
        have m1 : lo ≤ m := by omega
        have m2 : m < hi := by omega
        clear hm
        go_wp2_with (go_at_call 20; refine (C.out _).mono ?_; rintro e w' ⟨rfl, rfl⟩)
        go_round
        case rel => exact ⟨lo, m, rfl, rfl, by omega, by omega, by omega, HP2⟩
        case measure => simp [intOf]; omega
      · have HP2 := Lib.hid ((powG_hi hlt (by rw [hm]; exact hc)).symm.trans HP.out)
        rw [hm] at HP2
        have m1 : lo ≤ m := by omega
        have m2 : m < hi := by omega
        clear hm
        go_wp2_with (go_at_call 20; refine (C.out _).mono ?_; rintro e w' ⟨rfl, rfl⟩)
        go_round
        case rel => exact ⟨m + 1, hi, by go_num, rfl, by omega, by omega, by omega, HP2⟩
        case measure => simp [intOf]; omega
    · go_wp2
      go_ret
      exact ⟨ret_int (by unfold powF; rw [← HP.out, powG_end hlt]), rfl⟩

end Go.Proofs.YthjdmcjlnmonmabDoor.WalkLS
