/- The check value: the walks. -/
import Derived.Test.YtahemohmkgchfaaWalkN
import Derived.Test.YtahemohmkgchfaaPlainS
import Derived.Lib.Strings
namespace Go.Proofs.Ytahemohmkgchfaa.WalkT
open Go.RowKit Go.Proofs.Ytahemohmkgchfaa.Base Go.Proofs.Ytahemohmkgchfaa.Plain Go.Proofs.Ytahemohmkgchfaa.PlainS Go.Proofs.Ytahemohmkgchfaa.WalkN
set_option linter.unusedVariables false
set_option linter.unusedSimpArgs false

/-- one bit of the check value -/
def crcBit (x : Int) : Int := if 65535 < wrap64 (x * 2) then bits BinOp.xor IntKind.i64 (bits BinOp.and IntKind.i64 (wrap64 (x * 2)) 65535) 4129 else wrap64 (x * 2)
def crcIt : Nat → Int → Int
  | 0, x => x
  | m + 1, x => crcBit (crcIt m x)
def crcByte (x : Int) (b : UInt8) : Int := crcIt 8 (bits BinOp.xor IntKind.i64 x (wrap64 (wrap64 (b.toNat : Int) * 256)))
def crcL (l : List UInt8) (c : Int) : Int := l.foldl crcByte c
theorem crcL_next (s : ByteArray) (k : Nat) (h : k < s.size) (c : Int) : crcL (s.data.toList.take (k + 1)) c = crcByte (crcL (s.data.toList.take k) c) s[k] := by
  unfold crcL
  rw [take_snoc s k h, List.foldl_append]
  rfl
theorem bit_yes {x : Int} (h : 65535 < wrap64 (x * 2)) : crcBit x = bits BinOp.xor IntKind.i64 (bits BinOp.and IntKind.i64 (wrap64 (x * 2)) 65535) 4129 := by unfold crcBit; rw [if_pos h]
theorem bit_no {x : Int} (h : ¬ 65535 < wrap64 (x * 2)) : crcBit x = wrap64 (x * 2) := by unfold crcBit; rw [if_neg h]

theorem specCrc (s : ByteArray) (c0 : Int) (w : World) (hs : s.size ≤ 1048576) :
    Calls Try.prog 56 #[.string s, .int .i64 c0] w fun e w' => e = .returned (.int .i64 (crcL s.data.toList c0)) ∧ w = w' := by
  have HE := Lib.hid (take_all s)
  go_enter Try.func56, Try.ntmps56
  go_wp2
  go_loop [1, 5, 6] (fun c i j => ∃ k : Nat, ∃ x : Int, k ≤ s.size ∧ i = .int .i64 k ∧ c = .int .i64 x ∧ Hid (x = crcL (s.data.toList.take k) c0)) (fun c i j => s.size - (intOf i).toNat)
  case atStart => exact ⟨0, c0, Nat.zero_le _, rfl, rfl, Lib.hid rfl⟩
  case round =>
    obtain ⟨k, x, hk, rfl, rfl, HX⟩ := hrel
    by_cases hlt : k < s.size
    · have HN := Lib.hid (crcL_next s k hlt c0)
      go_wp2
      go_loop [1, 6] (fun c j => ∃ m : Nat, ∃ z : Int, m ≤ 8 ∧ j = .int .i64 m ∧ c = .int .i64 z ∧ Hid (z = crcIt m (bits BinOp.xor IntKind.i64 x (wrap64 (wrap64 (s[k].toNat : Int) * 256))))) (fun c j => 8 - (intOf j).toNat)
      case atStart => exact ⟨0, _, by omega, rfl, rfl, Lib.hid rfl⟩
      case round =>
        obtain ⟨m, z, hm, rfl, rfl, HZ⟩ := hrel
        by_cases hmt : m < 8
        · by_cases hb : 65535 < wrap64 (z * 2)
          · have HB := Lib.hid (bit_yes hb)
            go_wp2
            go_round
            case rel => exact ⟨m + 1, _, by omega, by go_num, rfl, Lib.hid (by rw [← HB.out, HZ.out]; rfl)⟩
            case measure => simp [intOf]; omega
          · have HB := Lib.hid (bit_no hb)
            go_wp2
            go_round
            case rel => exact ⟨m + 1, _, by omega, by go_num, rfl, Lib.hid (by rw [← HB.out, HZ.out]; rfl)⟩
            case measure => simp [intOf]; omega
        · obtain rfl : m = 8 := by omega
          go_wp2
          go_round
          case rel => exact ⟨k + 1, _, by omega, by go_num, rfl, Lib.hid (by rw [HN.out, HZ.out, HX.out]; rfl)⟩
          case measure => simp [intOf]; omega
    · go_wp2
      go_ret
      obtain rfl : k = s.size := by omega
      exact ⟨ret_int (by rw [HX.out, HE.out]), rfl⟩

theorem implCrc (s : ByteArray) (c0 : Int) (w : World) (hs : s.size ≤ 1048576) (hc : inB c0 0 65535 = true) :
    Calls Try.prog 30 #[.string s, .int .i64 c0] w fun e w' => e = .returned (.int .i64 (crcL s.data.toList c0)) ∧ w = w' := by
  have HE := Lib.hid (take_all s)
  go_enter Try.func30, Try.ntmps30
  go_wp2_with (first | (go_at_call 51; refine (specIn _ _ _ _).mono ?_; rintro e w' ⟨rfl, rfl⟩) | (go_at_call 49; refine (implIn _ _ _ _).mono ?_; rintro e w' ⟨rfl, rfl⟩) | go_in)
  go_loop [5, 6, 13, 23] (fun c i0 i j => ∃ k : Nat, ∃ x : Int, k ≤ s.size ∧ i = .int .i64 k ∧ c = .int .i64 x ∧ Hid (x = crcL (s.data.toList.take k) c0)) (fun c i0 i j => s.size - (intOf i).toNat)
  case atStart => exact ⟨0, c0, Nat.zero_le _, rfl, rfl, Lib.hid rfl⟩
  case round =>
    obtain ⟨k, x, hk, rfl, rfl, HX⟩ := hrel
    by_cases hlt : k < s.size
    · have HN := Lib.hid (crcL_next s k hlt c0)
      go_wp2
      go_loop [5, 23] (fun c j => ∃ m : Nat, ∃ z : Int, m ≤ 8 ∧ j = .int .i64 m ∧ c = .int .i64 z ∧ Hid (z = crcIt m (bits BinOp.xor IntKind.i64 x (wrap64 (wrap64 (s[k].toNat : Int) * 256))))) (fun c j => 8 - (intOf j).toNat)
      case atStart => exact ⟨0, _, by omega, rfl, rfl, Lib.hid rfl⟩
      case round =>
        obtain ⟨m, z, hm, rfl, rfl, HZ⟩ := hrel
        by_cases hmt : m < 8
        · by_cases hb : 65535 < wrap64 (z * 2)
          · have HB := Lib.hid (bit_yes hb)
            go_wp2
            go_round
            case rel => exact ⟨m + 1, _, by omega, by go_num, rfl, Lib.hid (by rw [← HB.out, HZ.out]; rfl)⟩
            case measure => simp [intOf]; omega
          · have HB := Lib.hid (bit_no hb)
            go_wp2
            go_round
            case rel => exact ⟨m + 1, _, by omega, by go_num, rfl, Lib.hid (by rw [← HB.out, HZ.out]; rfl)⟩
            case measure => simp [intOf]; omega
        · obtain rfl : m = 8 := by omega
          go_wp2
          go_round
          case rel => exact ⟨k + 1, _, by omega, by go_num, rfl, Lib.hid (by rw [HN.out, HZ.out, HX.out]; rfl)⟩
          case measure => simp [intOf]; omega
    · go_wp2
      go_ret
      obtain rfl : k = s.size := by omega
      exact ⟨ret_int (by rw [HX.out, HE.out]), rfl⟩

theorem crc16 (s : ByteArray) (c : Int) (ws : s.size ≤ maxLen) (wc : (Lit.int .i64 c).wf = true) (w : World) :
    Calls Try.prog 9 #[.string s, .int .i64 c] w fun e w' => e = .returned (.bool true) ∧ Below w.heap.size w w' := by
  unfold maxLen at ws
  by_cases h : s.size ≤ 1048576
  · cases hc : inB c 0 65535
    · go_enter Try.func9, Try.ntmps9
      go_wp2_with (first | (go_at_call 51; refine (specIn _ _ _ _).mono ?_; rintro e w' ⟨rfl, rfl⟩) | (go_at_call 49; refine (implIn _ _ _ _).mono ?_; rintro e w' ⟨rfl, rfl⟩) | go_in)
      go_ret
      exact ⟨rfl, Below.refl _ _⟩
    · have L1 := Lib.hid (fun w => implCrc s c w h hc)
      have L2 := Lib.hid (fun w => specCrc s c w h)
      go_enter Try.func9, Try.ntmps9
      go_wp2_with (first | (go_at_call 51; refine (specIn _ _ _ _).mono ?_; rintro e w' ⟨rfl, rfl⟩) | (go_at_call 49; refine (implIn _ _ _ _).mono ?_; rintro e w' ⟨rfl, rfl⟩) | (go_at_call 56; refine (L2.out _).mono ?_; rintro e w' ⟨rfl, rfl⟩) | (go_at_call 30; refine (L1.out _).mono ?_; rintro e w' ⟨rfl, rfl⟩) | go_in)
      go_ret
      exact ⟨rfl, Below.refl _ _⟩
  · go_enter Try.func9, Try.ntmps9
    go_wp2
    go_ret
    exact ⟨rfl, Below.refl _ _⟩

end Go.Proofs.Ytahemohmkgchfaa.WalkT
