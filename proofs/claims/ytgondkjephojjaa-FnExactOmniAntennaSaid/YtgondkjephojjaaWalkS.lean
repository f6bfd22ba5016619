/- Walks over strings: names of codes, names, check values. -/
import Derived.Test.YtgondkjephojjaaWalkN
import Derived.Test.YtgondkjephojjaaPlainS
import Derived.Lib.Strings
namespace Go.Proofs.Ytgondkjephojjaa.WalkS
open Go.RowKit Go.Proofs.Ytgondkjephojjaa.Base Go.Proofs.Ytgondkjephojjaa.Plain Go.Proofs.Ytgondkjephojjaa.PlainS Go.Proofs.Ytgondkjephojjaa.WalkN
set_option linter.unusedVariables false
set_option linter.unusedSimpArgs false

theorem nil_of_size {s : ByteArray} (h : s.size = 0) : s.toList = [] := by
  rw [Go.Lib.toList_data]
  exact List.eq_nil_of_length_eq_zero (by rw [Array.length_toList]; exact h)
theorem notnil_of_size {s : ByteArray} (h : 0 < s.size) : s.toList.isEmpty = false := by
  rw [Go.Lib.toList_data, List.isEmpty_eq_false_iff]
  intro e
  have := congrArg List.length e
  rw [Array.length_toList] at this
  have h' : s.size = s.data.size := rfl
  simp only [List.length_nil] at this
  omega

/-- the reference's walk over a name's bytes -/
theorem specName (s : ByteArray) (w : World) (hs : s.size ≤ 9223372036854775807) :
    Calls Try.prog 69 #[.string s] w fun e w' => e = .returned (.bool (nameB s.data.toList)) ∧ w = w' := by
  by_cases h0 : s.size = 0
  · have H := Lib.hid (nameB_empty s h0)
    have e0 : s.toList.isEmpty = true := by rw [nil_of_size h0]; rfl
    go_enter Try.func69, Try.ntmps69
    go_wp2
    go_ret
    exact ⟨ret_bool H.out.symm, rfl⟩
  · have hp : 0 < s.size := by omega
    have e0 := notnil_of_size hp
    by_cases h1 : 10 < s.size
    · have H := Lib.hid (nameB_long s h1)
      go_enter Try.func69, Try.ntmps69
      go_wp2
      go_ret
      exact ⟨ret_bool H.out.symm, rfl⟩
    · cases hf : inB s[0].toNat 97 122
      · have H := Lib.hid (nameB_first s hp hf)
        have hf' : ¬ ((97 : Int) ≤ (s[0].toNat : Int) ∧ (s[0].toNat : Int) ≤ (122 : Int)) := inB_no hf
        clear hf
        by_cases c1 : (s[0].toNat : Int) < 97
        · go_enter Try.func69, Try.ntmps69
          go_wp2
          go_ret
          exact ⟨ret_bool H.out.symm, rfl⟩
        · have c2 : (122 : Int) < (s[0].toNat : Int) := by omega
          clear hf'
          have d1 := decide_eq_false (show ¬ ((10 : Int) < (s.size : Int)) by omega)
          have e0 := decide_eq_true (show (97 : Int) ≤ (s[0].toNat : Int) by omega); have e1 := decide_eq_false (show ¬ ((s[0].toNat : Int) ≤ (122 : Int)) by omega); have e2 := decide_eq_false (show ¬ ((s[0].toNat : Int) < (97 : Int)) by omega); have e3 := decide_eq_true (show (122 : Int) < (s[0].toNat : Int) by omega)
          go_enter Try.func69, Try.ntmps69
          go_wp2
          go_ret
          exact ⟨ret_bool H.out.symm, rfl⟩
      · have HA := Lib.hid (nameB_all s hp (by omega) hf)
        have hf' : (97 : Int) ≤ (s[0].toNat : Int) ∧ (s[0].toNat : Int) ≤ (122 : Int) := inB_yes hf
        clear hf
        have d1 := decide_eq_false (show ¬ ((10 : Int) < (s.size : Int)) by omega)
        have e0 := decide_eq_true (show (97 : Int) ≤ (s[0].toNat : Int) by omega); have e1 := decide_eq_true (show (s[0].toNat : Int) ≤ (122 : Int) by omega); have e2 := decide_eq_false (show ¬ ((s[0].toNat : Int) < (97 : Int)) by omega); have e3 := decide_eq_false (show ¬ ((122 : Int) < (s[0].toNat : Int)) by omega)
        go_enter Try.func69, Try.ntmps69
        go_wp2
        go_loop [3] (fun i => ∃ k : Nat, k ≤ s.size ∧ i = .int .i64 k ∧ Hid ((s.data.toList.take k).all nb = true)) (fun i => s.size - (intOf i).toNat)
        case atStart => exact ⟨0, Nat.zero_le _, rfl, Lib.hid rfl⟩
        case round =>
          obtain ⟨k, hk, rfl, HK⟩ := hrel
          by_cases hlt : k < s.size
          · rcases (show (s[k].toNat : Int) < (48 : Int) ∨ ((48 : Int) ≤ (s[k].toNat : Int) ∧ (s[k].toNat : Int) ≤ (57 : Int)) ∨ ((57 : Int) < (s[k].toNat : Int) ∧ (s[k].toNat : Int) < (97 : Int)) ∨ ((97 : Int) ≤ (s[k].toNat : Int) ∧ (s[k].toNat : Int) ≤ (122 : Int)) ∨ (122 : Int) < (s[k].toNat : Int) by omega) with c | c | c | c | c
            case' inl => have hn : Hid (nb s[k] = false) := Lib.hid (by unfold nb inB; simp; omega); have e0 := decide_eq_false (show ¬ ((97 : Int) ≤ (s[k].toNat : Int)) by omega); have e1 := decide_eq_true (show (s[k].toNat : Int) ≤ (122 : Int) by omega); have e2 := decide_eq_false (show ¬ ((48 : Int) ≤ (s[k].toNat : Int)) by omega); have e3 := decide_eq_true (show (s[k].toNat : Int) ≤ (57 : Int) by omega); have e4 := decide_eq_true (show (s[k].toNat : Int) < (97 : Int) by omega); have e5 := decide_eq_false (show ¬ ((122 : Int) < (s[k].toNat : Int)) by omega); have e6 := decide_eq_true (show (s[k].toNat : Int) < (48 : Int) by omega); have e7 := decide_eq_false (show ¬ ((57 : Int) < (s[k].toNat : Int)) by omega)
            case' inr.inl => have hn : Hid (nb s[k] = true) := Lib.hid (by unfold nb inB; simp; omega); have e0 := decide_eq_false (show ¬ ((97 : Int) ≤ (s[k].toNat : Int)) by omega); have e1 := decide_eq_true (show (s[k].toNat : Int) ≤ (122 : Int) by omega); have e2 := decide_eq_true (show (48 : Int) ≤ (s[k].toNat : Int) by omega); have e3 := decide_eq_true (show (s[k].toNat : Int) ≤ (57 : Int) by omega); have e4 := decide_eq_true (show (s[k].toNat : Int) < (97 : Int) by omega); have e5 := decide_eq_false (show ¬ ((122 : Int) < (s[k].toNat : Int)) by omega); have e6 := decide_eq_false (show ¬ ((s[k].toNat : Int) < (48 : Int)) by omega); have e7 := decide_eq_false (show ¬ ((57 : Int) < (s[k].toNat : Int)) by omega)
            case' inr.inr.inl => have hn : Hid (nb s[k] = false) := Lib.hid (by unfold nb inB; simp; omega); have e0 := decide_eq_false (show ¬ ((97 : Int) ≤ (s[k].toNat : Int)) by omega); have e1 := decide_eq_true (show (s[k].toNat : Int) ≤ (122 : Int) by omega); have e2 := decide_eq_true (show (48 : Int) ≤ (s[k].toNat : Int) by omega); have e3 := decide_eq_false (show ¬ ((s[k].toNat : Int) ≤ (57 : Int)) by omega); have e4 := decide_eq_true (show (s[k].toNat : Int) < (97 : Int) by omega); have e5 := decide_eq_false (show ¬ ((122 : Int) < (s[k].toNat : Int)) by omega); have e6 := decide_eq_false (show ¬ ((s[k].toNat : Int) < (48 : Int)) by omega); have e7 := decide_eq_true (show (57 : Int) < (s[k].toNat : Int) by omega)
            case' inr.inr.inr.inl => have hn : Hid (nb s[k] = true) := Lib.hid (by unfold nb inB; simp; omega); have e0 := decide_eq_true (show (97 : Int) ≤ (s[k].toNat : Int) by omega); have e1 := decide_eq_true (show (s[k].toNat : Int) ≤ (122 : Int) by omega); have e2 := decide_eq_true (show (48 : Int) ≤ (s[k].toNat : Int) by omega); have e3 := decide_eq_false (show ¬ ((s[k].toNat : Int) ≤ (57 : Int)) by omega); have e4 := decide_eq_false (show ¬ ((s[k].toNat : Int) < (97 : Int)) by omega); have e5 := decide_eq_false (show ¬ ((122 : Int) < (s[k].toNat : Int)) by omega); have e6 := decide_eq_false (show ¬ ((s[k].toNat : Int) < (48 : Int)) by omega); have e7 := decide_eq_true (show (57 : Int) < (s[k].toNat : Int) by omega)
            case' inr.inr.inr.inr => have hn : Hid (nb s[k] = false) := Lib.hid (by unfold nb inB; simp; omega); have e0 := decide_eq_true (show (97 : Int) ≤ (s[k].toNat : Int) by omega); have e1 := decide_eq_false (show ¬ ((s[k].toNat : Int) ≤ (122 : Int)) by omega); have e2 := decide_eq_true (show (48 : Int) ≤ (s[k].toNat : Int) by omega); have e3 := decide_eq_false (show ¬ ((s[k].toNat : Int) ≤ (57 : Int)) by omega); have e4 := decide_eq_false (show ¬ ((s[k].toNat : Int) < (97 : Int)) by omega); have e5 := decide_eq_true (show (122 : Int) < (s[k].toNat : Int) by omega); have e6 := decide_eq_false (show ¬ ((s[k].toNat : Int) < (48 : Int)) by omega); have e7 := decide_eq_true (show (57 : Int) < (s[k].toNat : Int) by omega)
            all_goals go_wp2
            all_goals first
              | (go_ret; exact ⟨ret_bool (by rw [HA.out, all_stop s k hlt nb hn.out]), rfl⟩)
              | (go_round; (case rel => exact ⟨k + 1, by omega, by go_num, Lib.hid (all_next s k hlt nb HK.out hn.out)⟩); (case measure => simp [intOf]; omega))
          · go_wp2
            go_ret
            obtain rfl : k = s.size := by omega
            exact ⟨ret_bool (by rw [HA.out, ← take_all, HK.out]), rfl⟩

/-- the program's walk over a name's bytes -/
theorem implBytes (s : ByteArray) (w : World) (hs : s.size ≤ 9223372036854775807) :
    Calls Try.prog 92 #[.string s] w fun e w' => e = .returned (.bool (bytesB s)) ∧ w = w' := by
  go_enter Try.func92, Try.ntmps92
  go_wp2
  go_loop [3, 4, 7] (fun _ _ i => ∃ k : Nat, k ≤ s.size ∧ i = .int .i64 k ∧ Hid ((s.data.toList.take k).all nb = true)) (fun _ _ i => s.size - (intOf i).toNat)
  case atStart => exact ⟨0, Nat.zero_le _, rfl, Lib.hid rfl⟩
  case round =>
    obtain ⟨k, hk, rfl, HK⟩ := hrel
    by_cases hlt : k < s.size
    · rcases (show (s[k].toNat : Int) < (48 : Int) ∨ ((48 : Int) ≤ (s[k].toNat : Int) ∧ (s[k].toNat : Int) ≤ (57 : Int)) ∨ ((57 : Int) < (s[k].toNat : Int) ∧ (s[k].toNat : Int) < (97 : Int)) ∨ ((97 : Int) ≤ (s[k].toNat : Int) ∧ (s[k].toNat : Int) ≤ (122 : Int)) ∨ (122 : Int) < (s[k].toNat : Int) by omega) with c | c | c | c | c
      case' inl => have hn : Hid (nb s[k] = false) := Lib.hid (by unfold nb inB; simp; omega); have e0 := decide_eq_false (show ¬ ((97 : Int) ≤ (s[k].toNat : Int)) by omega); have e1 := decide_eq_true (show (s[k].toNat : Int) ≤ (122 : Int) by omega); have e2 := decide_eq_false (show ¬ ((48 : Int) ≤ (s[k].toNat : Int)) by omega); have e3 := decide_eq_true (show (s[k].toNat : Int) ≤ (57 : Int) by omega); have e4 := decide_eq_true (show (s[k].toNat : Int) < (97 : Int) by omega); have e5 := decide_eq_false (show ¬ ((122 : Int) < (s[k].toNat : Int)) by omega); have e6 := decide_eq_true (show (s[k].toNat : Int) < (48 : Int) by omega); have e7 := decide_eq_false (show ¬ ((57 : Int) < (s[k].toNat : Int)) by omega)
      case' inr.inl => have hn : Hid (nb s[k] = true) := Lib.hid (by unfold nb inB; simp; omega); have e0 := decide_eq_false (show ¬ ((97 : Int) ≤ (s[k].toNat : Int)) by omega); have e1 := decide_eq_true (show (s[k].toNat : Int) ≤ (122 : Int) by omega); have e2 := decide_eq_true (show (48 : Int) ≤ (s[k].toNat : Int) by omega); have e3 := decide_eq_true (show (s[k].toNat : Int) ≤ (57 : Int) by omega); have e4 := decide_eq_true (show (s[k].toNat : Int) < (97 : Int) by omega); have e5 := decide_eq_false (show ¬ ((122 : Int) < (s[k].toNat : Int)) by omega); have e6 := decide_eq_false (show ¬ ((s[k].toNat : Int) < (48 : Int)) by omega); have e7 := decide_eq_false (show ¬ ((57 : Int) < (s[k].toNat : Int)) by omega)
      case' inr.inr.inl => have hn : Hid (nb s[k] = false) := Lib.hid (by unfold nb inB; simp; omega); have e0 := decide_eq_false (show ¬ ((97 : Int) ≤ (s[k].toNat : Int)) by omega); have e1 := decide_eq_true (show (s[k].toNat : Int) ≤ (122 : Int) by omega); have e2 := decide_eq_true (show (48 : Int) ≤ (s[k].toNat : Int) by omega); have e3 := decide_eq_false (show ¬ ((s[k].toNat : Int) ≤ (57 : Int)) by omega); have e4 := decide_eq_true (show (s[k].toNat : Int) < (97 : Int) by omega); have e5 := decide_eq_false (show ¬ ((122 : Int) < (s[k].toNat : Int)) by omega); have e6 := decide_eq_false (show ¬ ((s[k].toNat : Int) < (48 : Int)) by omega); have e7 := decide_eq_true (show (57 : Int) < (s[k].toNat : Int) by omega)
      case' inr.inr.inr.inl => have hn : Hid (nb s[k] = true) := Lib.hid (by unfold nb inB; simp; omega); have e0 := decide_eq_true (show (97 : Int) ≤ (s[k].toNat : Int) by omega); have e1 := decide_eq_true (show (s[k].toNat : Int) ≤ (122 : Int) by omega); have e2 := decide_eq_true (show (48 : Int) ≤ (s[k].toNat : Int) by omega); have e3 := decide_eq_false (show ¬ ((s[k].toNat : Int) ≤ (57 : Int)) by omega); have e4 := decide_eq_false (show ¬ ((s[k].toNat : Int) < (97 : Int)) by omega); have e5 := decide_eq_false (show ¬ ((122 : Int) < (s[k].toNat : Int)) by omega); have e6 := decide_eq_false (show ¬ ((s[k].toNat : Int) < (48 : Int)) by omega); have e7 := decide_eq_true (show (57 : Int) < (s[k].toNat : Int) by omega)
      case' inr.inr.inr.inr => have hn : Hid (nb s[k] = false) := Lib.hid (by unfold nb inB; simp; omega); have e0 := decide_eq_true (show (97 : Int) ≤ (s[k].toNat : Int) by omega); have e1 := decide_eq_false (show ¬ ((s[k].toNat : Int) ≤ (122 : Int)) by omega); have e2 := decide_eq_true (show (48 : Int) ≤ (s[k].toNat : Int) by omega); have e3 := decide_eq_false (show ¬ ((s[k].toNat : Int) ≤ (57 : Int)) by omega); have e4 := decide_eq_false (show ¬ ((s[k].toNat : Int) < (97 : Int)) by omega); have e5 := decide_eq_true (show (122 : Int) < (s[k].toNat : Int) by omega); have e6 := decide_eq_false (show ¬ ((s[k].toNat : Int) < (48 : Int)) by omega); have e7 := decide_eq_true (show (57 : Int) < (s[k].toNat : Int) by omega)
      all_goals go_wp2
      all_goals first
        | (go_ret; exact ⟨ret_bool (bytesB_stop s k hlt hn.out).symm, rfl⟩)
        | (go_round; (case rel => exact ⟨k + 1, by omega, by go_num, Lib.hid (all_next s k hlt nb HK.out hn.out)⟩); (case measure => simp [intOf]; omega))
    · go_wp2
      go_ret
      obtain rfl : k = s.size := by omega
      exact ⟨ret_bool (bytesB_end s HK.out).symm, rfl⟩

theorem implName (s : ByteArray) (w : World) (hs : s.size ≤ 9223372036854775807) :
    Calls Try.prog 67 #[.string s] w fun e w' => e = .returned (.bool (nameB s.data.toList)) ∧ w = w' := by
  by_cases h0 : s.size = 0
  · have H := Lib.hid (nameB_empty s h0)
    go_enter Try.func67, Try.ntmps67
    go_wp2
    go_ret
    exact ⟨ret_bool H.out.symm, rfl⟩
  · have hp : 0 < s.size := by omega
    by_cases h1 : 10 < s.size
    · have H := Lib.hid (nameB_long s h1)
      go_enter Try.func67, Try.ntmps67
      go_wp2
      go_ret
      exact ⟨ret_bool H.out.symm, rfl⟩
    · cases hf : inB s[0].toNat 97 122
      · have H := Lib.hid (nameB_first s hp hf)
        have hf' : ¬ ((97 : Int) ≤ (s[0].toNat : Int) ∧ (s[0].toNat : Int) ≤ (122 : Int)) := inB_no hf
        clear hf
        by_cases c1 : (s[0].toNat : Int) < (97 : Int)
        · clear hf'
          have d1 := decide_eq_false (show ¬ ((10 : Int) < (s.size : Int)) by omega)
          have e0 := decide_eq_false (show ¬ ((97 : Int) ≤ (s[0].toNat : Int)) by omega); have e1 := decide_eq_true (show (s[0].toNat : Int) ≤ (122 : Int) by omega); have e2 := decide_eq_true (show (s[0].toNat : Int) < (97 : Int) by omega); have e3 := decide_eq_false (show ¬ ((122 : Int) < (s[0].toNat : Int)) by omega)
          go_enter Try.func67, Try.ntmps67
          go_wp2
          go_ret
          exact ⟨ret_bool H.out.symm, rfl⟩
        · have c2 : (122 : Int) < (s[0].toNat : Int) := by omega
          clear hf'
          have d1 := decide_eq_false (show ¬ ((10 : Int) < (s.size : Int)) by omega)
          have e0 := decide_eq_true (show (97 : Int) ≤ (s[0].toNat : Int) by omega); have e1 := decide_eq_false (show ¬ ((s[0].toNat : Int) ≤ (122 : Int)) by omega); have e2 := decide_eq_false (show ¬ ((s[0].toNat : Int) < (97 : Int)) by omega); have e3 := decide_eq_true (show (122 : Int) < (s[0].toNat : Int) by omega)
          go_enter Try.func67, Try.ntmps67
          go_wp2
          go_ret
          exact ⟨ret_bool H.out.symm, rfl⟩
      · have HA : Hid (nameB s.data.toList = bytesB s) := Lib.hid (nameB_all s hp (by omega) hf)
        have hf' : (97 : Int) ≤ (s[0].toNat : Int) ∧ (s[0].toNat : Int) ≤ (122 : Int) := inB_yes hf
        clear hf
        have d1 := decide_eq_false (show ¬ ((10 : Int) < (s.size : Int)) by omega)
        have e0 := decide_eq_true (show (97 : Int) ≤ (s[0].toNat : Int) by omega); have e1 := decide_eq_true (show (s[0].toNat : Int) ≤ (122 : Int) by omega); have e2 := decide_eq_false (show ¬ ((s[0].toNat : Int) < (97 : Int)) by omega); have e3 := decide_eq_false (show ¬ ((122 : Int) < (s[0].toNat : Int)) by omega)
        go_enter Try.func67, Try.ntmps67
        go_wp2_with (go_at_call 92; refine (implBytes _ _ hs).mono ?_; rintro e w' ⟨rfl, rfl⟩)
        go_ret
        exact ⟨ret_bool HA.out.symm, rfl⟩

end Go.Proofs.Ytgondkjephojjaa.WalkS
