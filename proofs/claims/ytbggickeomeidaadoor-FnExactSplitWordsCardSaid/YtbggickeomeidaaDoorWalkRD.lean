/- Numbers read: the reference's way and the program's. -/
import Derived.Test.YtbggickeomeidaaDoorText
import Derived.Test.YtbggickeomeidaaDoorPlainTx
import Derived.Test.YtbggickeomeidaaDoorShelfR
import Derived.Test.YtbggickeomeidaaDoorWalkP
import Derived.Lib.SmallJoins
import Derived.Lib.RabinKarpLaws
namespace Go.Proofs.YtbggickeomeidaaDoor.WalkRD
open Go Go.RowKit Go.Proofs.YtbggickeomeidaaDoor.Base Go.Proofs.YtbggickeomeidaaDoor.Plain Go.Proofs.YtbggickeomeidaaDoor.PlainTx Go.Proofs.YtbggickeomeidaaDoor.WalkN Go.Proofs.YtbggickeomeidaaDoor.WalkP Go.Proofs.YtbggickeomeidaaDoor.Text
set_option linter.unusedVariables false
set_option linter.unusedSimpArgs false

theorem ret_val {u v : Value} (h : u = v) : Ending.returned u = .returned v := by rw [h]
/-- what the reading of a number gives -/
def rdV (l : List UInt8) : Value := match numF l with | some n => .tuple #[.int .i64 n, .bool true] | none => .tuple #[.int .i64 0, .bool false]
theorem rdV_no {l : List UInt8} (h : numF l = none) : rdV l = .tuple #[.int .i64 0, .bool false] := by unfold rdV; rw [h]
theorem rdV_yes {l : List UInt8} {n : Int} (h : numF l = some n) : rdV l = .tuple #[.int .i64 n, .bool true] := by unfold rdV; rw [h]
theorem no_nil {l : List UInt8} (h : digF l = []) : numF l = none := by unfold numF; rw [if_pos (.inl h)]
theorem no_long {l : List UInt8} (h : 18 < (digF l).length) : numF l = none := by unfold numF; rw [if_pos (.inr (.inl h))]
theorem no_zero {l : List UInt8} (h : (digF l).head? = some 48) (h1 : 1 < l.length) : numF l = none := by unfold numF; rw [if_pos (.inr (.inr (.inl ⟨h, h1⟩)))]
theorem no_digit {l : List UInt8} (h : (digF l).all isD = false) : numF l = none := by unfold numF; rw [if_pos (.inr (.inr (.inr h)))]

theorem isD_in (c : UInt8) : isD c = inB (c.toNat : Int) 48 57 := by
  unfold isD inB
  exact decide_eq_decide.2 (by omega)
theorem specDigit (z : Int) (w : World) (h : 0 ≤ z ∧ z ≤ 255) : Calls Tryd.prog 60 #[.int .u8 z] w fun e w' => e = .returned (.bool (inB z 48 57)) ∧ w = w' := by
  rcases (show z < 48 ∨ (48 ≤ z ∧ z ≤ 57) ∨ 57 < z by omega) with c | c | c
  · have H : Hid (inB z 48 57 = false) := Lib.hid (by simp [inB]; omega)
    have e1 := decide_eq_false (show ¬ ((48 : Int) ≤ z) by omega)
    have e2 := decide_eq_true (show z ≤ (57 : Int) by omega)
    go_enter Tryd.func60, Tryd.ntmps60
    go_wp2
    go_ret
    exact ⟨ret_bool H.out.symm, rfl⟩
  · have H : Hid (inB z 48 57 = true) := Lib.hid (by simp [inB]; omega)
    have e1 := decide_eq_true (show ((48 : Int) ≤ z) by omega)
    have e2 := decide_eq_true (show z ≤ (57 : Int) by omega)
    go_enter Tryd.func60, Tryd.ntmps60
    go_wp2
    go_ret
    exact ⟨ret_bool H.out.symm, rfl⟩
  · have H : Hid (inB z 48 57 = false) := Lib.hid (by simp [inB]; omega)
    have e1 := decide_eq_true (show ((48 : Int) ≤ z) by omega)
    have e2 := decide_eq_false (show ¬ (z ≤ (57 : Int)) by omega)
    go_enter Tryd.func60, Tryd.ntmps60
    go_wp2
    go_ret
    exact ⟨ret_bool H.out.symm, rfl⟩

/-- the digits of a text whose sign is known -/
theorem dig_drop0 {s : ByteArray} (h : ¬ s.data.toList.head? = some 45) : digF s.data.toList = s.data.toList.drop 0 := by rw [pos_form h]; rfl
theorem dig_drop1 {s : ByteArray} (h : s.data.toList.head? = some 45) : digF s.data.toList = s.data.toList.drop 1 := by
  unfold digF
  rw [if_pos h, List.drop_one]
theorem head_at {s : ByteArray} (h : 0 < s.size) : s.data.toList.head? = some s[0] := by
  rw [List.head?_eq_getElem?]
  exact Go.Proofs.byte_at s 0 h
theorem drop_len {s : ByteArray} (a : Nat) : (s.data.toList.drop a).length = s.size - a := by
  rw [List.length_drop, Array.length_toList]
  rfl
theorem drop_take {s : ByteArray} {a p : Nat} (ha : a ≤ p) (hp : p < s.size) : (s.data.toList.drop a).take (p + 1 - a) = (s.data.toList.drop a).take (p - a) ++ [s[p]] := by
  have hl : p - a < (s.data.toList.drop a).length := by rw [drop_len]; omega
  rw [show p + 1 - a = p - a + 1 by omega, List.take_succ_eq_append_getElem hl]
  congr 2
  rw [List.getElem_drop]
  have e := Go.Proofs.byte_at s p hp
  have h2 : a + (p - a) = p := by omega
  have h3 : s.data.toList[a + (p - a)]? = some s[p] := by rw [h2]; exact e
  obtain ⟨_, h4⟩ := List.getElem?_eq_some_iff.1 h3
  exact h4
theorem u8_eq {c : UInt8} {k : Nat} (hk : k < 256) : (c = UInt8.ofNat k) ↔ (c.toNat : Int) = (k : Int) := by
  constructor
  · intro h
    subst h
    rw [UInt8.toNat_ofNat']
    omega
  · intro h
    have : c.toNat = k := by omega
    subst this
    simp

theorem all_stop_at {L : List UInt8} {k m : Nat} {c : UInt8} (h : L.take k = L.take m ++ [c]) (hc : isD c = false) : L.all isD = false := by
  have h1 : L = L.take k ++ L.drop k := (List.take_append_drop k L).symm
  rw [h1, h, List.all_append, List.all_append]
  simp [hc]
theorem val_lt {L : List UInt8} {k : Nat} (h : (L.take k).all isD = true) (hl : L.length ≤ 18) : valA 0 (L.take k) < 1000000000000000000 := by
  have h1 := valA_lt _ 0 h
  have h2 : 10 ^ (L.take k).length ≤ 10 ^ 18 := Nat.pow_le_pow_right (by omega) (by rw [List.length_take]; omega)
  rw [show (10 : Nat) ^ 18 = 1000000000000000000 by decide] at h2
  omega

set_option maxHeartbeats 2000000 in
theorem specNumP (s : ByteArray) (w : World) (hs : s.size ≤ 9223372036854775807) (h0 : 0 < s.size) (hh : ¬ (s[0].toNat : Int) = 45) :
    Calls Tryd.prog 34 #[.string s] w fun e w' => e = .returned (rdV s.data.toList) ∧ w = w' := by
  have HS : Hid (¬ s.data.toList.head? = some 45) := Lib.hid (by rw [head_at h0]; intro e; injection e with e; exact hh ((u8_eq (k := 45) (by omega)).1 e))
  have HD := Lib.hid (dig_drop0 HS.out)
  have HNE : Hid (s.data.toList.drop 0 ≠ []) := Lib.hid (by intro e; have := congrArg List.length e; rw [drop_len, List.length_nil] at this; omega)
  have g1 := decide_eq_true (show (0 : Int) < (s.size : Int) by omega)
  have g2 : ((s[0].toNat : Int) == 45) = false := by simpa using hh
  have g3 : ((s.size : Int) == 0) = false := by rw [beq_eq_false_iff_ne]; omega
  by_cases h18 : 18 < s.size
  · have g4 := decide_eq_true (show (18 : Int) < (s.size : Int) by omega)
    have HN := Lib.hid (rdV_no (no_long (l := s.data.toList) (by rw [HD.out, drop_len]; omega)))
    go_enter Tryd.func34, Tryd.ntmps34
    go_wp2
    go_ret2
    exact ⟨ret_val HN.out.symm, rfl⟩
  · have g4 := decide_eq_false (show ¬ (18 : Int) < (s.size : Int) by omega)
    have hz : ((s[0].toNat : Int) == 48) = decide ((s[0].toNat : Int) = 48) := rfl
    by_cases hz1 : (s[0].toNat : Int) = 48 ∧ 1 < s.size
    · have g5 : ((s[0].toNat : Int) == 48) = true := by simpa using hz1.1
      have g6 := decide_eq_true (show (1 : Int) < (s.size : Int) by omega)
      have HN := Lib.hid (rdV_no (no_zero (l := s.data.toList) (by rw [HD.out, List.drop_zero, head_at h0, (u8_eq (c := s[0]) (k := 48) (by omega)).2 hz1.1]; rfl) (by have := hz1.2; rw [Array.length_toList]; exact this)))
      clear hz
      go_enter Tryd.func34, Tryd.ntmps34
      go_wp2
      go_ret2
      exact ⟨ret_val HN.out.symm, rfl⟩
    · have HZ : Hid ((digF s.data.toList).head? ≠ some 48 ∨ s.data.toList.length ≤ 1) := Lib.hid (by
        rw [HD.out, List.drop_zero, head_at h0, Array.length_toList]
        by_cases e : (s[0].toNat : Int) = 48
        · exact .inr (by have := fun h => hz1 ⟨e, h⟩; have h9 : s.data.size = s.size := rfl; omega)
        · exact .inl (fun h => e ((u8_eq (k := 48) (by omega)).1 (by injection h))))
      clear hz
      rcases (show ¬ (s[0].toNat : Int) = 48 ∨ ((s[0].toNat : Int) = 48 ∧ s.size = 1) by omega) with hc | hc
      all_goals first
        | have g5 : ((s[0].toNat : Int) == 48) = false := by simpa using hc
        | have g5 : ((s[0].toNat : Int) == 48) = true := by simpa using hc.1
      all_goals first
        | have g6 := decide_eq_false (show ¬ (1 : Int) < (s.size : Int) by omega)
        | skip
      all_goals clear hz1 hc
      all_goals go_enter Tryd.func34, Tryd.ntmps34
      all_goals
        go_wp2
        go_loop [5, 6] (fun n i => ∃ (p v : Nat), n = .int .i64 v ∧ i = .int .i64 p ∧ 0 ≤ p ∧ p ≤ s.size ∧ v ≤ 1000000000000000000 ∧ Hid (v = valA 0 ((s.data.toList.drop 0).take (p - 0))) ∧ Hid (((s.data.toList.drop 0).take (p - 0)).all isD = true)) (fun _ i => s.size - (intOf i).toNat)
        case atStart => exact ⟨0, 0, rfl, rfl, by omega, by omega, by omega, Lib.hid (by simp [valA]), Lib.hid (by simp)⟩
        case round =>
          obtain ⟨p, v, rfl, rfl, hp1, hp2, hv, HV, HA⟩ := hrel
          by_cases hlt : p < s.size
          · have HT := Lib.hid (drop_take (a := 0) hp1 hlt)
            have hb : 0 ≤ (s[p].toNat : Int) ∧ (s[p].toNat : Int) ≤ 255 := by have := s[p].toNat_lt; omega
            have DG := Lib.hid (fun W => specDigit (s[p].toNat : Int) W hb)
            cases hd : inB (s[p].toNat : Int) 48 57
            · have HN : Hid (rdV s.data.toList = .tuple #[.int .i64 0, .bool false]) := Lib.hid (rdV_no (no_digit (by rw [HD.out]; exact all_stop_at HT.out (by rw [isD_in]; exact hd))))
              rw [hd] at DG
              clear hd
              go_wp2_with (go_at_call 60; refine (DG.out _).mono ?_; rintro e w' ⟨rfl, rfl⟩)
              go_ret2
              exact ⟨ret_val HN.out.symm, rfl⟩
            · have HI : Hid (isD s[p] = true) := Lib.hid (by rw [isD_in]; exact hd)
              have hr := inB_yes hd
              have HV2 : Hid (10 * v + (s[p].toNat - 48) = valA 0 ((s.data.toList.drop 0).take (p + 1 - 0))) := Lib.hid (by rw [HT.out, valA_snoc, ← HV.out])
              have HA2 : Hid (((s.data.toList.drop 0).take (p + 1 - 0)).all isD = true) := Lib.hid (by rw [HT.out, List.all_append, HA.out]; simp [HI.out])
              have hbd := val_lt HA2.out (by rw [drop_len]; omega)
              rw [← HV2.out] at hbd
              rw [hd] at DG
              clear hd
              have hs48 : ((s[p].toNat : Int)) - 48 = ((s[p].toNat - 48 : Nat) : Int) := by omega
              go_wp2_with (go_at_call 60; refine (DG.out _).mono ?_; rintro e w' ⟨rfl, rfl⟩)
              clear hs48
              go_round
              case rel => exact ⟨p + 1, 10 * v + (s[p].toNat - 48), by first | rfl | go_num | exact congrArg (Value.int .i64) (by omega), by go_num, by omega, by omega, by omega, HV2, HA2⟩
              case measure => simp [intOf]; omega
          · obtain rfl : p = s.size := by omega
            have et : (s.data.toList.drop 0).take (s.size - 0) = s.data.toList.drop 0 := List.take_of_length_le (by rw [drop_len]; exact Nat.le_refl _)
            rw [et] at HV HA
            have HN : Hid (rdV s.data.toList = .tuple #[.int .i64 ((v : Int)), .bool true]) := Lib.hid (by
              rw [rdV_yes (numF_mk (by rw [HD.out]; exact HNE.out) (by rw [HD.out, drop_len]; omega) HZ.out (by rw [HD.out]; exact HA.out)), HD.out, ← HV.out, if_neg HS.out])
            go_wp2
            go_ret2
            exact ⟨ret_val HN.out.symm, rfl⟩

theorem head_at1 {s : ByteArray} (h : 1 < s.size) : (s.data.toList.drop 1).head? = some s[1] := by
  rw [List.head?_drop]
  exact Go.Proofs.byte_at s 1 h
set_option maxHeartbeats 2000000 in
theorem specNumN (s : ByteArray) (w : World) (hs : s.size ≤ 9223372036854775807) (h0 : 0 < s.size) (hh : (s[0].toNat : Int) = 45) :
    Calls Tryd.prog 34 #[.string s] w fun e w' => e = .returned (rdV s.data.toList) ∧ w = w' := by
  have HS : Hid (s.data.toList.head? = some 45) := Lib.hid (by rw [head_at h0, (u8_eq (c := s[0]) (k := 45) (by omega)).2 hh]; rfl)
  have HD := Lib.hid (dig_drop1 HS.out)
  have g1 := decide_eq_true (show (0 : Int) < (s.size : Int) by omega)
  have g2 : ((s[0].toNat : Int) == 45) = true := by simpa using hh
  clear hh
  by_cases h1 : s.size = 1
  · have g3 : ((s.size : Int) == 1) = true := by rw [beq_iff_eq]; omega
    have HN := Lib.hid (rdV_no (no_nil (l := s.data.toList) (by rw [HD.out]; exact List.eq_nil_of_length_eq_zero (by rw [drop_len]; omega))))
    go_enter Tryd.func34, Tryd.ntmps34
    go_wp2
    go_ret2
    exact ⟨ret_val HN.out.symm, rfl⟩
  have g3 : ((s.size : Int) == 1) = false := by rw [beq_eq_false_iff_ne]; omega
  have h2 : 1 < s.size := by omega
  have HNE : Hid (s.data.toList.drop 1 ≠ []) := Lib.hid (by intro e; have := congrArg List.length e; rw [drop_len, List.length_nil] at this; omega)
  by_cases h18 : 19 < s.size
  · have g4 := decide_eq_true (show (18 : Int) < (s.size : Int) - 1 by omega)
    have HN := Lib.hid (rdV_no (no_long (l := s.data.toList) (by rw [HD.out, drop_len]; omega)))
    go_enter Tryd.func34, Tryd.ntmps34
    go_wp2
    go_ret2
    exact ⟨ret_val HN.out.symm, rfl⟩
  · have g4 := decide_eq_false (show ¬ (18 : Int) < (s.size : Int) - 1 by omega)
    have g6 := decide_eq_true (show (1 : Int) < (s.size : Int) by omega)
    by_cases hz1 : (s[1].toNat : Int) = 48
    · have g5 : ((s[1].toNat : Int) == 48) = true := by simpa using hz1
      have HN := Lib.hid (rdV_no (no_zero (l := s.data.toList) (by rw [HD.out, head_at1 h2, (u8_eq (c := s[1]) (k := 48) (by omega)).2 hz1]; rfl) (by rw [Array.length_toList]; exact h2)))
      clear hz1
      go_enter Tryd.func34, Tryd.ntmps34
      go_wp2
      go_ret2
      exact ⟨ret_val HN.out.symm, rfl⟩
    · have HZ : Hid ((digF s.data.toList).head? ≠ some 48 ∨ s.data.toList.length ≤ 1) := Lib.hid (by
        rw [HD.out, head_at1 h2]
        exact .inl (fun h => hz1 ((u8_eq (k := 48) (by omega)).1 (by injection h))))
      have g5 : ((s[1].toNat : Int) == 48) = false := by simpa using hz1
      clear hz1
      go_enter Tryd.func34, Tryd.ntmps34
      go_wp2
      go_loop [5, 6] (fun n i => ∃ (p v : Nat), n = .int .i64 v ∧ i = .int .i64 p ∧ 1 ≤ p ∧ p ≤ s.size ∧ v ≤ 1000000000000000000 ∧ Hid (v = valA 0 ((s.data.toList.drop 1).take (p - 1))) ∧ Hid (((s.data.toList.drop 1).take (p - 1)).all isD = true)) (fun _ i => s.size - (intOf i).toNat)
      case atStart => exact ⟨1, 0, rfl, rfl, by omega, by omega, by omega, Lib.hid (by simp [valA]), Lib.hid (by simp)⟩
      case round =>
        obtain ⟨p, v, rfl, rfl, hp1, hp2, hv, HV, HA⟩ := hrel
        by_cases hlt : p < s.size
        · have HT := Lib.hid (drop_take (a := 1) hp1 hlt)
          have hb : 0 ≤ (s[p].toNat : Int) ∧ (s[p].toNat : Int) ≤ 255 := by have := s[p].toNat_lt; omega
          have DG := Lib.hid (fun W => specDigit (s[p].toNat : Int) W hb)
          cases hd : inB (s[p].toNat : Int) 48 57
          · have HN : Hid (rdV s.data.toList = .tuple #[.int .i64 0, .bool false]) := Lib.hid (rdV_no (no_digit (by rw [HD.out]; exact all_stop_at HT.out (by rw [isD_in]; exact hd))))
            rw [hd] at DG
            clear hd
            go_wp2_with (go_at_call 60; refine (DG.out _).mono ?_; rintro e w' ⟨rfl, rfl⟩)
            go_ret2
            exact ⟨ret_val HN.out.symm, rfl⟩
          · have HI : Hid (isD s[p] = true) := Lib.hid (by rw [isD_in]; exact hd)
            have hr := inB_yes hd
            have HV2 : Hid (10 * v + (s[p].toNat - 48) = valA 0 ((s.data.toList.drop 1).take (p + 1 - 1))) := Lib.hid (by rw [HT.out, valA_snoc, ← HV.out])
            have HA2 : Hid (((s.data.toList.drop 1).take (p + 1 - 1)).all isD = true) := Lib.hid (by rw [HT.out, List.all_append, HA.out]; simp [HI.out])
            have hbd := val_lt HA2.out (by rw [drop_len]; omega)
            rw [← HV2.out] at hbd
            rw [hd] at DG
            clear hd
            have hs48 : ((s[p].toNat : Int)) - 48 = ((s[p].toNat - 48 : Nat) : Int) := by omega
            go_wp2_with (go_at_call 60; refine (DG.out _).mono ?_; rintro e w' ⟨rfl, rfl⟩)
            clear hs48
            go_round
            case rel => exact ⟨p + 1, 10 * v + (s[p].toNat - 48), by first | rfl | go_num | exact congrArg (Value.int .i64) (by omega), by go_num, by omega, by omega, by omega, HV2, HA2⟩
            case measure => simp [intOf]; omega
        · obtain rfl : p = s.size := by omega
          have et : (s.data.toList.drop 1).take (s.size - 1) = s.data.toList.drop 1 := List.take_of_length_le (by rw [drop_len]; exact Nat.le_refl _)
          rw [et] at HV HA
          have HN : Hid (rdV s.data.toList = .tuple #[.int .i64 (-(v : Int)), .bool true]) := Lib.hid (by
            rw [rdV_yes (numF_mk (by rw [HD.out]; exact HNE.out) (by rw [HD.out, drop_len]; omega) HZ.out (by rw [HD.out]; exact HA.out)), HD.out, ← HV.out, if_pos HS.out])
          go_wp2
          go_ret2
          exact ⟨ret_val HN.out.symm, rfl⟩

theorem specNum (s : ByteArray) (w : World) (hs : s.size ≤ 9223372036854775807) : Calls Tryd.prog 34 #[.string s] w fun e w' => e = .returned (rdV s.data.toList) ∧ w = w' := by
  by_cases h0 : 0 < s.size
  · by_cases hh : (s[0].toNat : Int) = 45
    · exact specNumN s w hs h0 hh
    · exact specNumP s w hs h0 hh
  · have h1 : s.size = 0 := by omega
    have g1 := decide_eq_false (show ¬ (0 : Int) < (s.size : Int) by omega)
    have g3 : ((s.size : Int) == 0) = true := by rw [beq_iff_eq]; omega
    have HN := Lib.hid (rdV_no (no_nil (l := s.data.toList) (by
      have : s.data.toList = [] := List.eq_nil_of_length_eq_zero (by rw [Array.length_toList]; exact h1)
      rw [this]
      rfl)))
    clear h0 h1
    go_enter Tryd.func34, Tryd.ntmps34
    go_wp2
    go_ret2
    exact ⟨ret_val HN.out.symm, rfl⟩

end Go.Proofs.YtbggickeomeidaaDoor.WalkRD
