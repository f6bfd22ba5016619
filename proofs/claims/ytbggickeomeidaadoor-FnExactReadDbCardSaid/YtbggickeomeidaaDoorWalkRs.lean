/- Levels read: the reference's way, and the law. -/
import Derived.Test.YtbggickeomeidaaDoorWalkRb
namespace Go.Proofs.YtbggickeomeidaaDoor.WalkRs
open Go Go.RowKit Go.Proofs.YtbggickeomeidaaDoor.Base Go.Proofs.YtbggickeomeidaaDoor.Plain Go.Proofs.YtbggickeomeidaaDoor.PlainTx Go.Proofs.YtbggickeomeidaaDoor.WalkN Go.Proofs.YtbggickeomeidaaDoor.WalkP Go.Proofs.YtbggickeomeidaaDoor.Text Go.Proofs.YtbggickeomeidaaDoor.WalkRD Go.Proofs.YtbggickeomeidaaDoor.WalkRI Go.Proofs.YtbggickeomeidaaDoor.WalkTx Go.Proofs.YtbggickeomeidaaDoor.PlainRb Go.Proofs.YtbggickeomeidaaDoor.WalkRb
set_option linter.unusedVariables false
set_option linter.unusedSimpArgs false

theorem specLv {v : Int} (w : World) (hv : inB v (-300000) 300000 = true) : Calls Tryd.prog 54 #[.int .i64 v] w fun e w' => e = .returned (.string (lvT v)) ∧ Below w.heap.size w w' := by
  have b := inB_yes hv
  by_cases hn : v < 0
  · obtain ⟨a, rfl⟩ : ∃ a, v = -a := ⟨-v, by omega⟩
    rw [← dbR_yes hv, dbR_neg (by omega) (by omega)]
    exact specTextN a w (by omega) (by omega)
  · rw [← dbR_yes hv, dbR_pos (by omega) (by omega)]
    exact specTextP v w (by omega) (by omega)

/-- the parts of a level's text as the reference cuts it -/
theorem lv_cut {v : Int} {s : ByteArray} (hv : inB v (-300000) 300000 = true) (h : lvT v = s) : ∃ (k : Nat), k + 4 = s.size ∧ 1 ≤ k ∧ s.data.toList[k]? = some 46 ∧
    ∃ (q r : Nat), q ≤ 300 ∧ r ≤ 999 ∧ numF (49 :: s.data.toList.drop (k + 1)) = some (1000 + (r : Int)) ∧
    ((v = -(1000 * (q : Int) + (r : Int)) ∧ s.data.toList.head? = some 45 ∧ ((1 ≤ q ∧ numF (s.data.toList.take k) = some (-(q : Int)) ∧ s.data.toList.take k ≠ [45, 48]) ∨ (q = 0 ∧ s.data.toList.take k = [45, 48]))) ∨
     (v = 1000 * (q : Int) + (r : Int) ∧ ¬ s.data.toList.head? = some 45 ∧ numF (s.data.toList.take k) = some (q : Int) ∧ s.data.toList.take k ≠ [45, 48])) := by
  obtain ⟨q, D, _, hl, ha, hq, c⟩ := lv_parts hv h
  have hr := val_lt3 hl ha
  have hd : 1 ≤ (Lib.decDigits q).length := by
    have := dec_ne q
    cases h : Lib.decDigits q with
    | nil => exact absurd h this
    | cons _ _ => simp
  have hgen : ∀ pre : List UInt8, s.data.toList = pre ++ 46 :: D → 1 ≤ pre.length → pre.length + 4 = s.size ∧ s.data.toList[pre.length]? = some 46 ∧ s.data.toList.drop (pre.length + 1) = D ∧ s.data.toList.take pre.length = pre := by
    intro pre e hp
    refine ⟨by rw [Lib.size_eq, e, List.length_append, List.length_cons, hl], ?_, ?_, ?_⟩
    · rw [e, List.getElem?_append_right (Nat.le_refl _), Nat.sub_self]
      rfl
    · rw [e, ← List.drop_drop, List.drop_left]
      rfl
    · rw [e, List.take_left]
  rcases c with ⟨a1, a2, a3⟩ | ⟨a1, a2, a3⟩
  · obtain ⟨h1, h2, h3, h4⟩ := hgen (45 :: Lib.decDigits q) (by rw [a3]; rfl) (by simp)
    refine ⟨_, h1, by simp, h2, q, valA 0 D, hq, by omega, by rw [h3]; exact num_one hl ha, .inl ⟨a2, by rw [a3]; rfl, ?_⟩⟩
    rw [h4]
    rcases Nat.eq_zero_or_pos q with rfl | hq1
    · exact .inr ⟨rfl, by rw [dec_small (by omega)]; rfl⟩
    · refine .inl ⟨hq1, num_neg hq1 hq, fun e => ?_⟩
      injection e with _ e
      have := dec_head hq1
      rw [e] at this
      exact this rfl
  · obtain ⟨h1, h2, h3, h4⟩ := hgen (Lib.decDigits q) a3 hd
    refine ⟨_, h1, hd, h2, q, valA 0 D, hq, by omega, by rw [h3]; exact num_one hl ha, .inr ⟨a2, by rw [a3]; exact dec_no45 q _, ?_⟩⟩
    rw [h4]
    refine ⟨num_dec hq, fun e => ?_⟩
    have := dec_no45 q []
    rw [List.append_nil, e] at this
    exact this rfl

theorem rdV_form2 (l : List UInt8) : ∃ (n : Int) (b : Bool), rdV l = .tuple #[.int .i64 n, .bool b] ∧ -1000000000000000000 < n ∧ n < 1000000000000000000 := by
  cases h : numF l with
  | none => exact ⟨_, _, rdV_no h, by omega, by omega⟩
  | some n => exact ⟨_, _, rdV_yes h, numF_range h⟩
theorem ne_of {t s : ByteArray} (h : t ≠ s) : (t.toList == s.toList) = false := by
  rw [beq_eq_false_iff_ne, Go.Lib.toList_data, Go.Lib.toList_data]
  exact fun e => h (by apply ByteArray.ext; exact Array.toList_inj.1 e)

set_option maxHeartbeats 1000000 in
theorem specRb (s : ByteArray) (w : World) (hs : s.size ≤ 1048576) : Calls Tryd.prog 29 #[.string s] w fun e w' => e = .returned (dbV s) ∧ Below w.heap.size w w' := by
  by_cases h5 : s.size < 5
  · have HN := Lib.hid (dbV_no (s := s) (fun h => by have := lv_ne h; omega))
    have g1 := decide_eq_true (show (s.size : Int) - 4 < 1 by omega)
    go_enter Tryd.func29, Tryd.ntmps29
    go_wp2
    go_ret2
    exact ⟨ret_val HN.out.symm, Below.refl _ _⟩
  · obtain ⟨k, hk⟩ : ∃ k, s.size = k + 4 := ⟨s.size - 4, by omega⟩
    have hkk : (s.size : Int) - 4 = (k : Int) := by omega
    have g1 := decide_eq_false (show ¬ (k : Int) < 1 by omega)
    have hkl : k < s.size := by omega
    have hat := WalkRb.byte_at s hkl
    by_cases h46 : (s[k].toNat : Int) = 46
    · have g2 : ((s[k].toNat : Int) != 46) = false := by simpa using h46
      obtain ⟨k1, hk1⟩ : ∃ k1, k + 1 = k1 := ⟨_, rfl⟩
      obtain ⟨t1, ht1⟩ : ∃ t, s.extract k1 s.size = t := ⟨_, rfl⟩
      obtain ⟨t2, ht2⟩ : ∃ t, s.extract 0 k = t := ⟨_, rfl⟩
      have l1 : t1.data.toList = s.data.toList.drop (k + 1) := by
        rw [← ht1, ← hk1, ByteArray.data_extract, Array.toList_extract]
        simp only [List.extract]
        exact List.take_of_length_le (by rw [List.length_drop, ← Lib.size_eq]; exact Nat.le_refl _)
      have l2 : t2.data.toList = s.data.toList.take k := by
        rw [← ht2, ByteArray.data_extract, Array.toList_extract]
        simp [List.extract]
      have z1 : t1.size = 3 := by rw [Lib.size_eq, l1, List.length_drop, ← Lib.size_eq]; omega
      have z2 : t2.size = k := by rw [Lib.size_eq, l2, List.length_take, ← Lib.size_eq]; omega
      have KC := cat_run ⟨#[49]⟩ t1 _ (by rw [z1, show (⟨#[49]⟩ : ByteArray).size = 1 from rfl]; omega) rfl
      obtain ⟨t3, ht3⟩ : ∃ t, ⟨#[49]⟩ ++ t1 = t := ⟨_, rfl⟩
      rw [ht3] at KC
      have l3 : t3.data.toList = 49 :: s.data.toList.drop (k + 1) := by
        rw [← ht3, ByteArray.data_append, Array.toList_append, l1]
        rfl
      have A := Lib.hid (fun W => specNum t3 W (by rw [Lib.size_eq, l3, List.length_cons, List.length_drop, ← Lib.size_eq]; omega))
      have B := Lib.hid (fun W => specNum t2 W (by omega))
      rw [l3] at A
      rw [l2] at B
      have hk2 : (k : Int) + 1 = (k1 : Int) := by omega
      have h0 : 0 < s.size := by omega
      have hh := head_at h0
      have hk3 : k1 ≤ s.size := by omega
      have l4 : (t2.toList == [45, 48]) = decide (s.data.toList.take k = [45, 48]) := by
        rw [Go.Lib.toList_data, l2]
        exact Bool.beq_eq_decide_eq _ _
      clear ht3 l3 hk1
      by_cases HL : IsLv s
      · obtain ⟨v, hv, e⟩ := HL
        have HR := Lib.hid (dbV_yes hv e)
        obtain ⟨k', c1, c2, _, q, r, hq, hr, hn1, c⟩ := lv_cut hv e
        obtain rfl : k = k' := by omega
        rw [rdV_yes hn1] at A
        have L := Lib.hid (fun W => specLv W hv)
        have I := Lib.hid (fun W => specIn v (-300000) 300000 W)
        rw [e] at L
        rw [hv] at I
        obtain ⟨n, hn⟩ : ∃ n : Int, 1000 + (r : Int) = n := ⟨_, rfl⟩
        have bn : 1000 ≤ n ∧ n ≤ 1999 := by omega
        rw [hn] at A
        rcases c with ⟨hv2, hhd, c⟩ | ⟨hv2, hhd, hn2, hne⟩
        · have g3 : ((s[0].toNat : Int) == 45) = true := by
            rw [hh] at hhd
            injection hhd with e9
            rw [e9]
            rfl
          rcases c with ⟨hq1, hn2, hne⟩ | ⟨hq0, hne⟩
          · have g4 : (t2.toList == [45, 48]) = false := by rw [l4]; exact decide_eq_false hne
            rw [rdV_yes hn2] at B
            obtain ⟨m, hm⟩ : ∃ m : Int, -(q : Int) = m := ⟨_, rfl⟩
            have bm : -300 ≤ m ∧ m ≤ 0 := by omega
            rw [hm] at B
            have J := Lib.hid (fun W => specIn m (-300000) 300000 W)
            rw [show inB m (-300000) 300000 = true from inB_mk (by omega)] at J
            have e3 : 1000 * m - n + 1000 = v := by omega
            clear l1 l2 l4 hat hh hhd hn1 hn2 hne c1 c2 hv2 hv e h46 hk hn hm hq hr h5 hq1
            go_enter Tryd.func29, Tryd.ntmps29
            go_wp2_with (first | (go_at_call 34; first | ((with_reducible refine (A.out _).mono ?_); rintro e w' ⟨rfl, rfl⟩) | ((with_reducible refine (B.out _).mono ?_); rintro e w' ⟨rfl, rfl⟩)) | (go_at_call 38; first | ((with_reducible refine (J.out _).mono ?_); rintro e w' ⟨rfl, rfl⟩) | ((with_reducible refine (I.out _).mono ?_); rintro e w' ⟨rfl, rfl⟩)) | (go_at_call 53; go_in) | (go_at_call 54; refine (L.out _).mono ?_; rintro e w1 ⟨rfl, hb1⟩))
            go_ret2
            exact ⟨ret_val HR.out.symm, hb1⟩
          · have g4 : (t2.toList == [45, 48]) = true := by rw [l4]; exact decide_eq_true hne
            obtain ⟨m, is, hB, bm⟩ := rdV_form2 (s.data.toList.take k)
            rw [hB] at B
            have J := Lib.hid (fun W => specIn 0 (-300000) 300000 W)
            rw [show inB 0 (-300000) 300000 = true from inB_mk (by omega)] at J
            have e3 : -n + 1000 = v := by omega
            clear l1 l2 l4 hat hh hhd hn1 hne c1 c2 hv2 hv e h46 hk hn hq hr h5 hB
            go_enter Tryd.func29, Tryd.ntmps29
            go_wp2_with (first | (go_at_call 34; first | ((with_reducible refine (A.out _).mono ?_); rintro e w' ⟨rfl, rfl⟩) | ((with_reducible refine (B.out _).mono ?_); rintro e w' ⟨rfl, rfl⟩)) | (go_at_call 38; first | ((with_reducible refine (J.out _).mono ?_); rintro e w' ⟨rfl, rfl⟩) | ((with_reducible refine (I.out _).mono ?_); rintro e w' ⟨rfl, rfl⟩)) | (go_at_call 53; go_in) | (go_at_call 54; refine (L.out _).mono ?_; rintro e w1 ⟨rfl, hb1⟩))
            go_ret2
            exact ⟨ret_val HR.out.symm, hb1⟩
        · have g3 : ((s[0].toNat : Int) == 45) = false := by
            rw [beq_eq_false_iff_ne]
            intro e9
            rw [hh] at hhd
            exact hhd (by rw [(u8_eq (c := s[0]) (k := 45) (by omega)).2 e9]; rfl)
          have g4 : (t2.toList == [45, 48]) = false := by rw [l4]; exact decide_eq_false hne
          rw [rdV_yes hn2] at B
          have J := Lib.hid (fun W => specIn (q : Int) (-300000) 300000 W)
          rw [show inB (q : Int) (-300000) 300000 = true from inB_mk (by omega)] at J
          have e3 : 1000 * (q : Int) + n - 1000 = v := by omega
          clear l1 l2 l4 hat hh hhd hn1 hn2 hne c1 c2 hv2 hv e h46 hk hn h5 hr
          go_enter Tryd.func29, Tryd.ntmps29
          go_wp2_with (first | (go_at_call 34; first | ((with_reducible refine (A.out _).mono ?_); rintro e w' ⟨rfl, rfl⟩) | ((with_reducible refine (B.out _).mono ?_); rintro e w' ⟨rfl, rfl⟩)) | (go_at_call 38; first | ((with_reducible refine (J.out _).mono ?_); rintro e w' ⟨rfl, rfl⟩) | ((with_reducible refine (I.out _).mono ?_); rintro e w' ⟨rfl, rfl⟩)) | (go_at_call 53; go_in) | (go_at_call 54; refine (L.out _).mono ?_; rintro e w1 ⟨rfl, hb1⟩))
          go_ret2
          exact ⟨ret_val HR.out.symm, hb1⟩
      · have HR := Lib.hid (dbV_no HL)
        have HL' : Hid (∀ v, inB v (-300000) 300000 = true → lvT v ≠ s) := Lib.hid (fun v hv e => HL ⟨v, hv, e⟩)
        obtain ⟨n, ok, hA, bn⟩ := rdV_form2 (49 :: s.data.toList.drop (k + 1))
        obtain ⟨m, is, hB, bm⟩ := rdV_form2 (s.data.toList.take k)
        rw [hA] at A
        rw [hB] at B
        clear l1 l2 l4 hat hh h46 hk hA hB HL h5
        cases g4 : (t2.toList == [45, 48])
        · cases ok
          · skip
            go_enter Tryd.func29, Tryd.ntmps29
            go_wp2_with (first | (go_at_call 34; first | ((with_reducible refine (A.out _).mono ?_); rintro e w' ⟨rfl, rfl⟩) | ((with_reducible refine (B.out _).mono ?_); rintro e w' ⟨rfl, rfl⟩)) | (go_at_call 38; first | ((with_reducible refine (J.out _).mono ?_); rintro e w' ⟨rfl, rfl⟩) | ((with_reducible refine (I.out _).mono ?_); rintro e w' ⟨rfl, rfl⟩)) | (go_at_call 53; go_in) | (go_at_call 54; refine (L.out _).mono ?_; rintro e w1 ⟨rfl, hb1⟩))
            go_ret2
            exact ⟨ret_val HR.out.symm, Below.refl _ _⟩
          · cases is
            · skip
              go_enter Tryd.func29, Tryd.ntmps29
              go_wp2_with (first | (go_at_call 34; first | ((with_reducible refine (A.out _).mono ?_); rintro e w' ⟨rfl, rfl⟩) | ((with_reducible refine (B.out _).mono ?_); rintro e w' ⟨rfl, rfl⟩)) | (go_at_call 38; first | ((with_reducible refine (J.out _).mono ?_); rintro e w' ⟨rfl, rfl⟩) | ((with_reducible refine (I.out _).mono ?_); rintro e w' ⟨rfl, rfl⟩)) | (go_at_call 53; go_in) | (go_at_call 54; refine (L.out _).mono ?_; rintro e w1 ⟨rfl, hb1⟩))
              go_ret2
              exact ⟨ret_val HR.out.symm, Below.refl _ _⟩
            · have J := Lib.hid (fun W => specIn m (-300000) 300000 W)
              cases hin : inB m (-300000) 300000
              · rw [hin] at J
                clear hin
                go_enter Tryd.func29, Tryd.ntmps29
                go_wp2_with (first | (go_at_call 34; first | ((with_reducible refine (A.out _).mono ?_); rintro e w' ⟨rfl, rfl⟩) | ((with_reducible refine (B.out _).mono ?_); rintro e w' ⟨rfl, rfl⟩)) | (go_at_call 38; first | ((with_reducible refine (J.out _).mono ?_); rintro e w' ⟨rfl, rfl⟩) | ((with_reducible refine (I.out _).mono ?_); rintro e w' ⟨rfl, rfl⟩)) | (go_at_call 53; go_in) | (go_at_call 54; refine (L.out _).mono ?_; rintro e w1 ⟨rfl, hb1⟩))
                go_ret2
                exact ⟨ret_val HR.out.symm, Below.refl _ _⟩
              · have bin := inB_yes hin
                rw [hin] at J
                clear hin
                cases g3 : ((s[0].toNat : Int) == 45)
                · obtain ⟨v, e3⟩ : ∃ v, 1000 * m + n - 1000 = v := ⟨_, rfl⟩
                  have I := Lib.hid (fun W => specIn v (-300000) 300000 W)
                  cases hv : inB v (-300000) 300000
                  · rw [hv] at I
                    clear hv
                    go_enter Tryd.func29, Tryd.ntmps29
                    go_wp2_with (first | (go_at_call 34; first | ((with_reducible refine (A.out _).mono ?_); rintro e w' ⟨rfl, rfl⟩) | ((with_reducible refine (B.out _).mono ?_); rintro e w' ⟨rfl, rfl⟩)) | (go_at_call 38; first | ((with_reducible refine (J.out _).mono ?_); rintro e w' ⟨rfl, rfl⟩) | ((with_reducible refine (I.out _).mono ?_); rintro e w' ⟨rfl, rfl⟩)) | (go_at_call 53; go_in) | (go_at_call 54; refine (L.out _).mono ?_; rintro e w1 ⟨rfl, hb1⟩))
                    go_ret2
                    exact ⟨ret_val HR.out.symm, Below.refl _ _⟩
                  · rw [hv] at I
                    have L := Lib.hid (fun W => specLv W hv)
                    have g9 := ne_of (HL'.out v hv)
                    generalize lvT v = tt at L g9
                    clear hv
                    go_enter Tryd.func29, Tryd.ntmps29
                    go_wp2_with (first | (go_at_call 34; first | ((with_reducible refine (A.out _).mono ?_); rintro e w' ⟨rfl, rfl⟩) | ((with_reducible refine (B.out _).mono ?_); rintro e w' ⟨rfl, rfl⟩)) | (go_at_call 38; first | ((with_reducible refine (J.out _).mono ?_); rintro e w' ⟨rfl, rfl⟩) | ((with_reducible refine (I.out _).mono ?_); rintro e w' ⟨rfl, rfl⟩)) | (go_at_call 53; go_in) | (go_at_call 54; refine (L.out _).mono ?_; rintro e w1 ⟨rfl, hb1⟩))
                    go_ret2
                    exact ⟨ret_val HR.out.symm, hb1⟩
                · obtain ⟨v, e3⟩ : ∃ v, 1000 * m - n + 1000 = v := ⟨_, rfl⟩
                  have I := Lib.hid (fun W => specIn v (-300000) 300000 W)
                  cases hv : inB v (-300000) 300000
                  · rw [hv] at I
                    clear hv
                    go_enter Tryd.func29, Tryd.ntmps29
                    go_wp2_with (first | (go_at_call 34; first | ((with_reducible refine (A.out _).mono ?_); rintro e w' ⟨rfl, rfl⟩) | ((with_reducible refine (B.out _).mono ?_); rintro e w' ⟨rfl, rfl⟩)) | (go_at_call 38; first | ((with_reducible refine (J.out _).mono ?_); rintro e w' ⟨rfl, rfl⟩) | ((with_reducible refine (I.out _).mono ?_); rintro e w' ⟨rfl, rfl⟩)) | (go_at_call 53; go_in) | (go_at_call 54; refine (L.out _).mono ?_; rintro e w1 ⟨rfl, hb1⟩))
                    go_ret2
                    exact ⟨ret_val HR.out.symm, Below.refl _ _⟩
                  · rw [hv] at I
                    have L := Lib.hid (fun W => specLv W hv)
                    have g9 := ne_of (HL'.out v hv)
                    generalize lvT v = tt at L g9
                    clear hv
                    go_enter Tryd.func29, Tryd.ntmps29
                    go_wp2_with (first | (go_at_call 34; first | ((with_reducible refine (A.out _).mono ?_); rintro e w' ⟨rfl, rfl⟩) | ((with_reducible refine (B.out _).mono ?_); rintro e w' ⟨rfl, rfl⟩)) | (go_at_call 38; first | ((with_reducible refine (J.out _).mono ?_); rintro e w' ⟨rfl, rfl⟩) | ((with_reducible refine (I.out _).mono ?_); rintro e w' ⟨rfl, rfl⟩)) | (go_at_call 53; go_in) | (go_at_call 54; refine (L.out _).mono ?_; rintro e w1 ⟨rfl, hb1⟩))
                    go_ret2
                    exact ⟨ret_val HR.out.symm, hb1⟩
        · cases ok
          · skip
            go_enter Tryd.func29, Tryd.ntmps29
            go_wp2_with (first | (go_at_call 34; first | ((with_reducible refine (A.out _).mono ?_); rintro e w' ⟨rfl, rfl⟩) | ((with_reducible refine (B.out _).mono ?_); rintro e w' ⟨rfl, rfl⟩)) | (go_at_call 38; first | ((with_reducible refine (J.out _).mono ?_); rintro e w' ⟨rfl, rfl⟩) | ((with_reducible refine (I.out _).mono ?_); rintro e w' ⟨rfl, rfl⟩)) | (go_at_call 53; go_in) | (go_at_call 54; refine (L.out _).mono ?_; rintro e w1 ⟨rfl, hb1⟩))
            go_ret2
            exact ⟨ret_val HR.out.symm, Below.refl _ _⟩
          · have J := Lib.hid (fun W => specIn 0 (-300000) 300000 W)
            rw [show inB 0 (-300000) 300000 = true from inB_mk (by omega)] at J
            cases g3 : ((s[0].toNat : Int) == 45)
            · obtain ⟨v, e3⟩ : ∃ v, n - 1000 = v := ⟨_, rfl⟩
              have I := Lib.hid (fun W => specIn v (-300000) 300000 W)
              cases hv : inB v (-300000) 300000
              · rw [hv] at I
                clear hv
                go_enter Tryd.func29, Tryd.ntmps29
                go_wp2_with (first | (go_at_call 34; first | ((with_reducible refine (A.out _).mono ?_); rintro e w' ⟨rfl, rfl⟩) | ((with_reducible refine (B.out _).mono ?_); rintro e w' ⟨rfl, rfl⟩)) | (go_at_call 38; first | ((with_reducible refine (J.out _).mono ?_); rintro e w' ⟨rfl, rfl⟩) | ((with_reducible refine (I.out _).mono ?_); rintro e w' ⟨rfl, rfl⟩)) | (go_at_call 53; go_in) | (go_at_call 54; refine (L.out _).mono ?_; rintro e w1 ⟨rfl, hb1⟩))
                go_ret2
                exact ⟨ret_val HR.out.symm, Below.refl _ _⟩
              · rw [hv] at I
                have L := Lib.hid (fun W => specLv W hv)
                have g9 := ne_of (HL'.out v hv)
                generalize lvT v = tt at L g9
                clear hv
                go_enter Tryd.func29, Tryd.ntmps29
                go_wp2_with (first | (go_at_call 34; first | ((with_reducible refine (A.out _).mono ?_); rintro e w' ⟨rfl, rfl⟩) | ((with_reducible refine (B.out _).mono ?_); rintro e w' ⟨rfl, rfl⟩)) | (go_at_call 38; first | ((with_reducible refine (J.out _).mono ?_); rintro e w' ⟨rfl, rfl⟩) | ((with_reducible refine (I.out _).mono ?_); rintro e w' ⟨rfl, rfl⟩)) | (go_at_call 53; go_in) | (go_at_call 54; refine (L.out _).mono ?_; rintro e w1 ⟨rfl, hb1⟩))
                go_ret2
                exact ⟨ret_val HR.out.symm, hb1⟩
            · obtain ⟨v, e3⟩ : ∃ v, -n + 1000 = v := ⟨_, rfl⟩
              have I := Lib.hid (fun W => specIn v (-300000) 300000 W)
              cases hv : inB v (-300000) 300000
              · rw [hv] at I
                clear hv
                go_enter Tryd.func29, Tryd.ntmps29
                go_wp2_with (first | (go_at_call 34; first | ((with_reducible refine (A.out _).mono ?_); rintro e w' ⟨rfl, rfl⟩) | ((with_reducible refine (B.out _).mono ?_); rintro e w' ⟨rfl, rfl⟩)) | (go_at_call 38; first | ((with_reducible refine (J.out _).mono ?_); rintro e w' ⟨rfl, rfl⟩) | ((with_reducible refine (I.out _).mono ?_); rintro e w' ⟨rfl, rfl⟩)) | (go_at_call 53; go_in) | (go_at_call 54; refine (L.out _).mono ?_; rintro e w1 ⟨rfl, hb1⟩))
                go_ret2
                exact ⟨ret_val HR.out.symm, Below.refl _ _⟩
              · rw [hv] at I
                have L := Lib.hid (fun W => specLv W hv)
                have g9 := ne_of (HL'.out v hv)
                generalize lvT v = tt at L g9
                clear hv
                go_enter Tryd.func29, Tryd.ntmps29
                go_wp2_with (first | (go_at_call 34; first | ((with_reducible refine (A.out _).mono ?_); rintro e w' ⟨rfl, rfl⟩) | ((with_reducible refine (B.out _).mono ?_); rintro e w' ⟨rfl, rfl⟩)) | (go_at_call 38; first | ((with_reducible refine (J.out _).mono ?_); rintro e w' ⟨rfl, rfl⟩) | ((with_reducible refine (I.out _).mono ?_); rintro e w' ⟨rfl, rfl⟩)) | (go_at_call 53; go_in) | (go_at_call 54; refine (L.out _).mono ?_; rintro e w1 ⟨rfl, hb1⟩))
                go_ret2
                exact ⟨ret_val HR.out.symm, hb1⟩
    · have g2 : ((s[k].toNat : Int) != 46) = true := by simpa using h46
      have HR := Lib.hid (dbV_no (s := s) (fun ⟨v, hv, e⟩ => by
        obtain ⟨k', c1, c2, c3, _⟩ := lv_cut hv e
        obtain rfl : k' = k := by omega
        rw [hat] at c3
        injection c3 with c3
        rw [c3] at h46
        exact h46 rfl))
      clear hat h46 hk h5
      go_enter Tryd.func29, Tryd.ntmps29
      go_wp2
      go_ret2
      exact ⟨ret_val HR.out.symm, Below.refl _ _⟩

end Go.Proofs.YtbggickeomeidaaDoor.WalkRs
