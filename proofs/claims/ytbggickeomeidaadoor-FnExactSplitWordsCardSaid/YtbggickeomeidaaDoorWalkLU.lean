/- Lists of numbers as texts: the program's. -/
import Derived.Test.YtbggickeomeidaaDoorWalkLT
namespace Go.Proofs.YtbggickeomeidaaDoor.WalkLU
open Go Go.RowKit Go.Proofs.YtbggickeomeidaaDoor.Base Go.Proofs.YtbggickeomeidaaDoor.Plain Go.Proofs.YtbggickeomeidaaDoor.PlainT Go.Proofs.YtbggickeomeidaaDoor.PlainTx Go.Proofs.YtbggickeomeidaaDoor.PlainSp Go.Proofs.YtbggickeomeidaaDoor.WalkN Go.Proofs.YtbggickeomeidaaDoor.WalkP Go.Proofs.YtbggickeomeidaaDoor.Words Go.Proofs.YtbggickeomeidaaDoor.Ints Go.Proofs.YtbggickeomeidaaDoor.WalkI Go.Proofs.YtbggickeomeidaaDoor.Cells Go.Proofs.YtbggickeomeidaaDoor.Text Go.Proofs.YtbggickeomeidaaDoor.Dec Go.Proofs.YtbggickeomeidaaDoor.WalkTx Go.Proofs.YtbggickeomeidaaDoor.WalkLT
set_option linter.unusedVariables false
set_option linter.unusedSimpArgs false

theorem infoS : (Tryd.prog.info? 9).map (fun i => (i.zero, i.size, i.bytes)) = some (some (.string ByteArray.empty), 1, 16) := by kernel_rfl
theorem madeS (n : Nat) (hn : n ≤ 1048576) : ∀ w : World, (Instr.makeSlice 35 (.int .i64 0) (.int .i64 (n : Int))).run Tryd.prog w = .ok (.slice (some ⟨w.heap.size, 0, none⟩) 0 n) (w.alloc (.cells (madeCells #[.string ByteArray.empty] n) 9)) := fun w => by
  obtain ⟨i0, hi, hz0, hz1, hz2⟩ := info_parts infoS
  have h := run_make_rowN (P := Tryd.prog) 35 9 i0 (.string ByteArray.empty) Tryd.underlying35 hi hz0 .i64 .i64 0 n (by omega) (by rw [hz2]; omega) (by omega) w
  rw [hz1, Nat.mul_one] at h
  exact h
theorem sts_snoc (zs : List Int) (k : Nat) (hk : k < zs.length) : sts ((zs.take k).map txt) ++ [.string (txt (zs.getD k 0))] = sts ((zs.take (k + 1)).map txt) := by
  rw [take_snocI hk, List.map_append, sts_app]
  rfl
theorem join_txt (zs : List Int) : Lib.join ((zs.map txt).map (·.data.toList)) [44] = jn zs := by
  unfold jn
  rw [List.map_map]
  rfl
theorem join_row {w : World} {g n c lo : Nat} {zs : List Int} (h : Orw w 9 1 lo (some ⟨g, 0, none⟩) n c (sts (zs.map txt))) (hl : zs.length = n) (hs : n ≤ 1000) (hb : (jn zs).length ≤ 100000) :
    Calls Tryd.prog 65 #[.slice (some ⟨g, 0, none⟩) n c, .string ⟨#[44]⟩] w fun e w' => e = .returned (.string (jt zs)) ∧ Below w.heap.size w w' := by
  have hj : Lib.join ((zs.map txt).map (·.data.toList)) (⟨#[44]⟩ : ByteArray).data.toList = jn zs := join_txt zs
  have hn : (zs.map txt).length = n := by rw [List.length_map, hl]
  subst hn
  have hc : (zs.map txt).length ≤ c ∧ c ≤ maxLen := by
    rcases h.form with ⟨e, _⟩ | ⟨g', cs, e, h1, h2, h3, h4, h5, h6⟩
    · cases e
    · exact ⟨h3, h4⟩
  have C := Tryd.strings_Join g 0 c (zs.map txt) ⟨#[44]⟩ w (fun j x hx => by
    have hj : j < (zs.map txt).length := by
      rcases Nat.lt_or_ge j (zs.map txt).length with q | q
      · exact q
      · rw [List.getElem?_eq_none q] at hx; cases hx
    rw [Nat.zero_add, h.cell (by omega), sts_get hj]
    rw [List.getElem?_eq_getElem hj] at hx
    injection hx with hx
    rw [hx]) (h.block rfl).2 (by omega) hc.1 (by rw [hj]; omega)
  rw [hj] at C
  exact C

set_option maxHeartbeats 1000000 in
theorem implListText (A : Option Addr) (n c : Nat) (zs : List Int) (w : World) (ra : Rd w A n zs) (hn : n ≤ maxLen) (hT : Tab w) :
    Calls Tryd.prog 40 #[.slice A n c] w fun e w' => e = .returned (.string (listR zs)) ∧ Below w.heap.size w w' := by
  unfold maxLen at hn
  have hl := ra.len
  by_cases h64 : 64 < n
  · have H := Lib.hid (listR_no (show fitB zs = false by rw [fit_eq, hl, decide_eq_false (by omega), Bool.and_false]))
    clear ra hT hl
    go_enter Tryd.func40, Tryd.ntmps40
    go_wp2
    go_ret
    exact ⟨ret_str H.out.symm, Below.refl _ _⟩
  · by_cases h0 : n = 0
    · subst h0
      obtain rfl : zs = [] := List.eq_nil_of_length_eq_zero hl
      have H := Lib.hid listR_nil
      go_enter Tryd.func40, Tryd.ntmps40
      go_wp2
      go_ret
      exact ⟨ret_str H.out.symm, Below.refl _ _⟩
    · have RA := Lib.hid ra
      have he : ((n : Int) == 0) = false := by simp; omega
      have hmk := madeS n (by omega)
      have DC := Lib.hid (fun (z : Int) (W : World) (hz : -9223372036854775808 ≤ z ∧ z ≤ 9223372036854775807) (hb : Below w.heap.size w W) => implDec z W hz (Tab.below hb hT))
      obtain ⟨i0, hi, hz0, hz1, hz2⟩ := info_parts infoS
      have hown : Orw (w.alloc (.cells (madeCells #[.string ByteArray.empty] n) 9)) 9 1 w.heap.size (some ⟨w.heap.size, 0, none⟩) 0 n (sts ((zs.take 0).map txt)) := World.ownsRow_made (base := w.heap.size) (e := 9) (size := 1) w (madeCells #[.string ByteArray.empty] n) n (Nat.le_refl _) (by unfold maxLen; omega) (by rw [size_madeCells, Nat.mul_one])
      have HO0 := Lib.hid hown
      have HI := Lib.hid (show Tryd.prog.info? 9 = some i0 ∧ i0.zero = some (.string ByteArray.empty) ∧ i0.size = 1 ∧ i0.bytes = 16 from ⟨hi, hz0, hz1, hz2⟩)
      clear ra hT hown hi hz0 hz1 hz2
      go_enter Tryd.func40, Tryd.ntmps40
      go_wp2
      clear hmk
      go_loopw [3, 17] (fun t i wr => ∃ (k q : Nat) (B : Option Addr), k ≤ n ∧ t = .slice B k q ∧ i = .int .i64 k ∧ Hid (Orw wr 9 1 w.heap.size B k q (sts ((zs.take k).map txt))) ∧ Hid (Below w.heap.size w wr) ∧ Hid (∀ j, j < k → inB (zs.getD j 0) (-1000000000000) 1000000000000 = true)) (fun _ i _ => n - (intOf i).toNat)
      case atStart => exact ⟨0, n, _, Nat.zero_le _, rfl, rfl, HO0, Lib.hid (by repeat (first | with_reducible exact Below.refl _ _ | with_reducible assumption | (with_reducible refine Below.drew ?_) | (with_reducible refine below_drewN ?_ _) | ((with_reducible refine Below.alloc ?_ ?_ _); rotate_left; (focus first | exact Nat.le_refl _ | omega | (simp; done) | (simp; omega))) | ((with_reducible refine Below.setCell ?_ ?_ _); rotate_left; (focus first | exact Nat.le_refl _ | omega | (simp; done) | (simp; omega))) | ((with_reducible refine below_via (W := ?_) ?_ ?_ ?_); rotate_left; (with_reducible assumption); rotate_left; (focus first | exact Nat.le_refl _ | omega | (simp; done) | (simp; omega))))), Lib.hid (fun j hj => absurd hj (by omega))⟩
      case round =>
        obtain ⟨k, q, B, hk, rfl, rfl, HO, HB, HK⟩ := hrel
        by_cases hlt : k < n
        · obtain ⟨ad, rfl, hc⟩ := (Rd.below HB.out RA.out).at_ hlt
          have hkz : k < zs.length := by rw [RA.out.len]; exact hlt
          have HV := sts_snoc zs k hkz
          have CL := implIn (zs.getD k 0) (-1000000000000) 1000000000000 wr
          cases hin : inB (zs.getD k 0) (-1000000000000) 1000000000000
          · have H := Lib.hid (listR_no (show fitB zs = false by rw [fit_eq, allB_stop hkz hin]; rfl))
            rw [hin] at CL
            generalize zs.getD k 0 = z at hc CL
            have CH := Lib.hid CL
            have hb := HB.out
            clear CL hin HV
            go_wp2_with (go_at_call 50; refine CH.out.mono ?_; rintro e w' ⟨rfl, rfl⟩)
            go_ret
            exact ⟨ret_str H.out.symm, hb⟩
          · have hzr := inB_yes hin
            have HK2 : Hid (∀ j, j < k + 1 → inB (zs.getD j 0) (-1000000000000) 1000000000000 = true) := Lib.hid (fun j hj => by
              by_cases e : j = k
              · rw [e]; exact hin
              · exact HK.out j (by omega))
            rw [hin] at CL
            clear hin
            generalize zs.getD k 0 = z at hc CL HV hzr
            have CH := Lib.hid CL
            have D := Lib.hid (DC.out z wr (by omega) HB.out)
            have HV2 := Lib.hid HV
            have hz9 := HB.out.size
            clear CL HV hl
            go_wp2_with (first
              | (go_at_call 50; refine CH.out.mono ?_; rintro e w' ⟨rfl, rfl⟩)
              | (go_at_call 36; refine D.out.mono ?_; rintro e w2 ⟨rfl, hb2⟩; have z2 := hb2.size; have HO2 := Lib.hid (Orw.below hb2 HO.out); have HB2 := Lib.hid (HB.out.trans (hb2.mono HB.out.size)); clear hb2)
              | (at_builtin; refine wpList_append_own _ rfl _ _ 35 rfl w.heap.size 9 i0 (.string ByteArray.empty) 1 16 Tryd.underlying35 HI.out.1 HI.out.2.1 HI.out.2.2.1 HI.out.2.2.2 rfl (by decide) _ _ _ rfl (HO2.out.alloc _) ⟨w2.heap.size, 0, none⟩ 1 1 [.string (txt z)] rfl rfl (news_one w2 _ _) (one_cell rfl) (by unfold maxLen; omega) (by omega) (by simp; omega) ?_; intro v' w3 hown3 hgrow3 _; rw [HV2.out] at hown3; obtain ⟨B', q', rfl, ho3⟩ := orw_form hown3 (by omega); have HR3 := Lib.hid ho3; have HG3 := Lib.hid (gr_of hgrow3); clear hown3 hgrow3 ho3))
            all_goals go_roundw
            all_goals first
              | (simp [intOf]; omega)
              | exact ⟨k + 1, q', B', by omega, rfl, by go_num, HR3, Lib.hid (Below.trans (HB2.out.alloc (by omega) _) (Gr.below HG3.out (fun a e => (HO2.out.block e).1) (by simp; omega))), HK2⟩
        · obtain rfl : k = n := by omega
          have hfa := allB_end RA.out.len HK.out
          have hne : zs ≠ [] := fun e => by subst e; simp at hl; omega
          have HF := Lib.hid (listR_yes (show fitB zs = true by rw [fit_eq, hfa, hl, decide_eq_true (by omega)]; rfl) hne)
          rw [List.take_of_length_le (by rw [hl]; exact Nat.le_refl _)] at HO
          have hjl := jn_len hfa k (by omega)
          rw [List.take_of_length_le (by rw [hl]; exact Nat.le_refl _)] at hjl
          obtain ⟨g, rfl, _⟩ := HO.out.at_ (j := 0) (by omega)
          have J := Lib.hid (join_row HO.out hl (by omega) (by omega))
          clear hfa hjl hl hne
          go_wp2_with (go_at_call 65; refine J.out.mono ?_; rintro e w2 ⟨rfl, hb2⟩)
          go_ret
          exact ⟨ret_str HF.out.symm, HB.out.trans (hb2.mono HB.out.size)⟩

end Go.Proofs.YtbggickeomeidaaDoor.WalkLU
