/- Profiles of a terrain: the reference's. -/
import Derived.Test.YtpgjllpiefpjjaaWalkPo
import Derived.Test.YtpgjllpiefpjjaaWalkQ
import Derived.Test.YtpgjllpiefpjjaaWalkAp
namespace Go.Proofs.Ytpgjllpiefpjjaa.WalkPq
open Go Go.RowKit Go.Proofs.Ytpgjllpiefpjjaa.Base Go.Proofs.Ytpgjllpiefpjjaa.Plain Go.Proofs.Ytpgjllpiefpjjaa.PlainT Go.Proofs.Ytpgjllpiefpjjaa.PlainH Go.Proofs.Ytpgjllpiefpjjaa.Words Go.Proofs.Ytpgjllpiefpjjaa.Ints Go.Proofs.Ytpgjllpiefpjjaa.WalkN Go.Proofs.Ytpgjllpiefpjjaa.WalkP Go.Proofs.Ytpgjllpiefpjjaa.WalkI Go.Proofs.Ytpgjllpiefpjjaa.WalkU Go.Proofs.Ytpgjllpiefpjjaa.WalkW Go.Proofs.Ytpgjllpiefpjjaa.WalkY Go.Proofs.Ytpgjllpiefpjjaa.WalkH Go.Proofs.Ytpgjllpiefpjjaa.WalkHH0 Go.Proofs.Ytpgjllpiefpjjaa.WalkHH Go.Proofs.Ytpgjllpiefpjjaa.WalkQ Go.Proofs.Ytpgjllpiefpjjaa.WalkAp Go.Proofs.Ytpgjllpiefpjjaa.Cells Go.Proofs.Ytpgjllpiefpjjaa.Pts Go.Proofs.Ytpgjllpiefpjjaa.WalkPI Go.Proofs.Ytpgjllpiefpjjaa.WalkNr Go.Proofs.Ytpgjllpiefpjjaa.WalkPl Go.Proofs.Ytpgjllpiefpjjaa.WalkPm Go.Proofs.Ytpgjllpiefpjjaa.WalkPn Go.Proofs.Ytpgjllpiefpjjaa.WalkPo
set_option linter.unusedVariables false
set_option linter.unusedSimpArgs false

theorem ow_empty (W : World) (lo : Nat) (h : lo ≤ W.heap.size) : Ow (W.alloc (.cells #[] 2)) lo (some ⟨W.heap.size, 0, none⟩) 0 0 [] :=
  Ow.mk h (Blk.new _ _ _ (by simp)) (Nat.le_refl _) (by unfold maxLen; omega) (by simp) (by simp [vals]) (by simp)
theorem one_one (z : Int) : ∀ u ∈ [Value.int .i64 z], u.oneCell' = true := by
  intro u hu
  simp at hu
  subst hu
  rfl

set_option maxHeartbeats 8000000 in
theorem specProf (f : Int → Int → Int) (ax ay bx cy : Int) (n : Nat) (pb : Nat) (w : World) (h1 : okP ax ay = true) (h2 : okP bx cy = true) (hn : 2 ≤ n ∧ n ≤ 65)
    (hH : ∀ k, k < n → ∀ W, Below w.heap.size w W → Calls Try.prog 70 #[.pointer (some ⟨pb, 0, none⟩), .agg #[.int .i64 (at0 (places ax ay bx cy n) k), .int .i64 (at1 (places ax ay bx cy n) k)]] W fun e w' => e = .returned (.int .i64 (f (at0 (places ax ay bx cy n) k) (at1 (places ax ay bx cy n) k))) ∧ Below W.heap.size W w') :
    Calls Try.prog 56 #[.pointer (some ⟨pb, 0, none⟩), .agg #[.int .i64 ax, .int .i64 ay], .agg #[.int .i64 bx, .int .i64 cy], .int .i64 (n : Int)] w fun e w' => ∃ (B : Option Addr) (q : Nat), e = .returned (.slice B n q) ∧ Ow w' w.heap.size B n q ((places ax ay bx cy n).map fun p => f p.1 p.2) ∧ Below w.heap.size w w' := by
  have HH := Lib.hid hH
  have HP := Lib.hid (fun W => specPl ax ay bx cy n W h1 h2 hn)
  have HL := Lib.hid (places_len ax ay bx cy n)
  clear hH h1 h2
  generalize places ax ay bx cy n = ps at *
  have HE : Hid (ps.length = n) := HL
  obtain ⟨i0, hi, hz0, hz1, hz2⟩ := info_parts infoI
  go_enter Try.func56, Try.ntmps56
  go_wp2_with fail
  refine (HP.out _).mono ?_
  rintro e w1 ⟨B0, q0, rfl, ho0, hb0⟩
  have HB0 : Hid (Below w.heap.size w w1) := Lib.hid ((by repeat (first | with_reducible exact Below.refl _ _ | with_reducible assumption | (with_reducible refine Below.drew ?_) | (with_reducible refine below_drewN ?_ _) | ((with_reducible refine Below.alloc ?_ ?_ _); rotate_left; (focus first | exact Nat.le_refl _ | omega | (simp; done) | (simp; omega))) | ((with_reducible refine Below.setCell ?_ ?_ _); rotate_left; (focus first | exact Nat.le_refl _ | omega | (simp; done) | (simp; omega))) | ((with_reducible refine below_via (W := ?_) ?_ ?_ ?_); rotate_left; (with_reducible assumption); rotate_left; (focus first | exact Nat.le_refl _ | omega | (simp; done) | (simp; omega))))))
  have HR := Lib.hid ho0.rd
  clear ho0 hb0
  go_wp2_with fail
  go_loopw [10, 11] (fun l i wr => ∃ (k : Nat) (B : Option Addr) (q : Nat), k ≤ n ∧ i = .int .i64 (k : Int) ∧ l = .slice B k q ∧ Hid (Below w1.heap.size w1 wr) ∧ Hid (Ow wr w1.heap.size B k q ((ps.map fun p => f p.1 p.2).take k))) (fun _ i _ => n - (intOf i).toNat)
  case atStart => exact ⟨0, _, 0, by omega, rfl, rfl, Lib.hid (by repeat (first | with_reducible exact Below.refl _ _ | with_reducible assumption | (with_reducible refine Below.drew ?_) | (with_reducible refine below_drewN ?_ _) | ((with_reducible refine Below.alloc ?_ ?_ _); rotate_left; (focus first | exact Nat.le_refl _ | omega | (simp; done) | (simp; omega))) | ((with_reducible refine Below.setCell ?_ ?_ _); rotate_left; (focus first | exact Nat.le_refl _ | omega | (simp; done) | (simp; omega))) | ((with_reducible refine below_via (W := ?_) ?_ ?_ ?_); rotate_left; (with_reducible assumption); rotate_left; (focus first | exact Nat.le_refl _ | omega | (simp; done) | (simp; omega))))), Lib.hid (ow_empty _ _ (Nat.le_refl _))⟩
  case round =>
    obtain ⟨k, B, q, hk, rfl, rfl, HB, HO⟩ := hrel
    by_cases hlt : k < n
    · obtain ⟨ad, rfl, hc0, hc1⟩ := (Rp.below HB.out HR.out).at_ hlt
      have la : (ad.add (k * 2)).block < wr.heap.size := World.block_lt_of_cell? _ _ hc0
      have C := Lib.hid (HH.out k hlt wr (below_via HB.out HB0.out HB0.out.size))
      have HN := Lib.hid (pmap_next (f := f) HL.out hlt)
      obtain ⟨z, hz⟩ : ∃ z, f (at0 ps k) (at1 ps k) = z := ⟨_, rfl⟩
      rw [hz] at C HN
      obtain ⟨x, hx⟩ : ∃ x, at0 ps k = x := ⟨_, rfl⟩
      obtain ⟨y, hy⟩ : ∃ y, at1 ps k = y := ⟨_, rfl⟩
      rw [hx, hy] at C
      rw [hx] at hc0
      rw [hy] at hc1
      clear hz hx hy
      go_wp2_with fail
      refine C.out.mono ?_
      rintro e w2 ⟨rfl, hb2⟩
      have HB2 := Lib.hid (below_via hb2 HB.out HB.out.size)
      have HO2 := Lib.hid ((Ow.below hb2 HO.out).alloc (.cells #[.int .i64 z] 2))
      have hs2 : w1.heap.size ≤ (w2.alloc (.cells #[.int .i64 z] 2)).heap.size := by have := HB2.out.size; simp; omega
      clear hb2 hc0 hc1
      go_wp2_with (at_builtin; refine wpList_append_own _ rfl _ _ 38 rfl w1.heap.size 2 i0 (.int .i64 0) 1 8 Try.underlying38 hi hz0 hz1 hz2 rfl (by decide) (.slice B k q) k _ rfl HO2.out ⟨w2.heap.size, 0, none⟩ 1 1 [.int .i64 z] rfl rfl (one_news _ _ _) (one_one z) (by unfold maxLen; omega) (by omega) hs2 ?_; intro v' w3 hown1 hgrow _)
      rw [HN.out] at hown1
      obtain ⟨B', q', rfl, ho1⟩ := row_form hown1 (by omega)
      have HB3 := Lib.hid ((HB2.out.alloc HB2.out.size (.cells #[.int .i64 z] 2)).trans (Gr.below (gr_own hgrow) (fun a e => (HO.out.block e).1) hs2))
      have HO3 := Lib.hid ho1
      clear hown1 hgrow ho1 hs2
      go_wp2_with fail
      go_roundw
      case rel => exact ⟨k + 1, B', q', by omega, by go_num, rfl, HB3, HO3⟩
      case measure => simp [intOf]; omega
    · obtain rfl : k = n := by omega
      have ho := HO.out
      rw [List.take_of_length_le (by rw [List.length_map, HL.out]; exact Nat.le_refl _)] at ho
      have HO2 := Lib.hid ho
      clear ho
      go_wp2_with fail
      go_ret
      exact ⟨B, q, rfl, Ow.lower HO2.out HB0.out.size, below_via HB.out HB0.out HB0.out.size⟩

end Go.Proofs.Ytpgjllpiefpjjaa.WalkPq
