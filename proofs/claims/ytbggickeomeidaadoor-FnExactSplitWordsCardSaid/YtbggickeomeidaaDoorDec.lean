/- Numbers as texts: the reference's. -/
import Derived.Test.YtbggickeomeidaaDoorText
import Derived.Test.YtbggickeomeidaaDoorCells
import Derived.Test.YtbggickeomeidaaDoorPlainTx
import Derived.Laws.IdiomStrings
namespace Go.Proofs.YtbggickeomeidaaDoor.Dec
open Go Go.RowKit Go.Proofs.YtbggickeomeidaaDoor.Base Go.Proofs.YtbggickeomeidaaDoor.Plain Go.Proofs.YtbggickeomeidaaDoor.PlainTx Go.Proofs.YtbggickeomeidaaDoor.WalkN Go.Proofs.YtbggickeomeidaaDoor.WalkP Go.Proofs.YtbggickeomeidaaDoor.Words Go.Proofs.YtbggickeomeidaaDoor.Ints Go.Proofs.YtbggickeomeidaaDoor.Cells Go.Proofs.YtbggickeomeidaaDoor.Text
set_option linter.unusedVariables false
set_option linter.unusedSimpArgs false

theorem infoB : (Tryd.prog.info? 5).map (fun i => (i.zero, i.size, i.bytes)) = some (some (.int .u8 0), 1, 1) := by kernel_rfl

/-- the digits so far, from the last one on -/
def Inv (N u : Nat) (ds : List UInt8) : Prop := (u ≠ 0 → ds ++ (Lib.decDigits u).reverse = (Lib.decDigits N).reverse) ∧ (u = 0 → ds = (Lib.decDigits N).reverse)
theorem inv_start {N : Nat} (h : 1 ≤ N) : Inv N N [] := ⟨fun _ => rfl, fun e => by omega⟩
theorem inv_step {N u : Nat} {ds : List UInt8} (h : Inv N u ds) (hu : 1 ≤ u) : Inv N (u / 10) (ds ++ [UInt8.ofNat (48 + u % 10)]) := by
  have h1 := h.1 (by omega)
  by_cases hs : u < 10
  · rw [dec_small hs] at h1
    refine ⟨fun e => by omega, fun _ => ?_⟩
    rw [← h1, Nat.mod_eq_of_lt hs]
    rfl
  · rw [dec_big hs, List.reverse_append] at h1
    refine ⟨fun _ => ?_, fun e => by omega⟩
    rw [← h1, List.append_assoc]
    rfl
theorem inv_len {N u : Nat} {ds : List UInt8} (h : Inv N u ds) : ds.length ≤ Lib.nDigits N := by
  rw [← Lib.decDigits_length]
  by_cases hu : u = 0
  · rw [h.2 hu]; simp
  · have := congrArg List.length (h.1 hu)
    simp at this
    omega
theorem nd_le {N : Nat} (h2 : N ≤ 9223372036854775808) : Lib.nDigits N ≤ 19 := by
  rcases Nat.eq_zero_or_pos N with h0 | h0
  · subst h0
    rw [Lib.nDigits_small (by omega)]
    omega
  · have hlt : N < 10 ^ (18 + 1) := by rw [show (10 : Nat) ^ (18 + 1) = 10000000000000000000 by decide]; omega
    rcases Nat.lt_or_ge 19 (Lib.nDigits N) with hd | hd
    · obtain ⟨d, hdd⟩ : ∃ d, Lib.nDigits N = d + 1 := ⟨Lib.nDigits N - 1, by omega⟩
      have h3 : 10 ^ d ≤ N := by
        rcases Nat.lt_or_ge N (10 ^ d) with h | h
        · exfalso
          have hx : ∀ (k u : Nat), u < 10 ^ (k + 1) → Lib.nDigits u ≤ k + 1 := by
            intro k
            induction k with
            | zero => intro u hu; rw [Lib.nDigits_small (by simpa using hu)]; omega
            | succ k ih =>
              intro u hu
              by_cases h10 : u < 10
              · rw [Lib.nDigits_small h10]; omega
              · rw [Lib.nDigits_big h10]
                have := ih (u / 10) (by rw [Nat.pow_succ] at hu ⊢; rw [Nat.pow_succ] at hu; rw [Nat.div_lt_iff_lt_mul (by omega)]; omega)
                omega
          have := hx (d - 1) N (by rw [show d - 1 + 1 = d by omega]; exact h)
          omega
        · exact h
      have h4 : 10 ^ 19 ≤ 10 ^ d := Nat.pow_le_pow_right (by omega) (by omega)
      rw [show (10 : Nat) ^ 19 = 10000000000000000000 by decide] at h4
      omega
    · exact hd
theorem bts_snoc (ds : List UInt8) (u : Nat) : bts ds ++ [.int .u8 (48 + (u : Int) % 10)] = bts (ds ++ [UInt8.ofNat (48 + u % 10)]) := by
  rw [bts_app]
  congr 1
  show _ = [Value.int .u8 (((UInt8.ofNat (48 + u % 10)).toNat : Nat) : Int)]
  rw [dig_of _ (by omega)]
  simp
theorem bts_snoc' {z : Int} {ds : List UInt8} {u : Nat} (h : z = 48 + (u : Int) % 10) : bts ds ++ [.int .u8 z] = bts (ds ++ [UInt8.ofNat (48 + u % 10)]) := by
  rw [h]
  exact bts_snoc ds u
theorem own_snoc {w : World} {T : TypeId} {lo n : Nat} {v : Value} {z : Int} {ds : List UInt8} {u : Nat} (h : w.ownsRow lo T 1 v n (bts ds ++ [.int .u8 z])) (e : z = 48 + (u : Int) % 10) : w.ownsRow lo T 1 v n (bts (ds ++ [UInt8.ofNat (48 + u % 10)])) := by
  rw [← bts_snoc' e]
  exact h
theorem bts_rev {D : List UInt8} {n k m : Nat} (hl : D.length = n) (h : k + m + 1 = n) (hm : m < D.length) : bts (D.reverse.take k) ++ [.int .u8 ((D[m]'hm).toNat : Int)] = bts (D.reverse.take (k + 1)) := by
  have hk : k < D.reverse.length := by simp [hl]; omega
  have h1 : D.reverse[k] = D[m] := by
    rw [List.getElem_reverse]
    congr 1
    omega
  rw [List.take_succ_eq_append_getElem hk, h1, bts_app]
  rfl
theorem txt_zero : txt 0 = ⟨#[48]⟩ := by
  unfold txt
  rw [show Lib.itoa 0 = Lib.decDigits 0 by unfold Lib.itoa; rfl, dec_small (by omega)]
  rfl
theorem txt_pos (N : Nat) : txt (N : Int) = ⟨(Lib.decDigits N).reverse.reverse.toArray⟩ := by
  unfold txt
  rw [Lib.itoa_nonneg, List.reverse_reverse]
theorem txt_neg {N : Nat} (h : 1 ≤ N) : txt (-(N : Int)) = ⟨((Lib.decDigits N).reverse ++ [45]).reverse.toArray⟩ := by
  unfold txt
  rw [Lib.itoa_neg N h, List.reverse_append, List.reverse_reverse]
  rfl


theorem conv_row {w : World} {lo g n q : Nat} {l : List UInt8} (h : Orw w 5 1 lo (some ⟨g, 0, none⟩) n q (bts l)) (hl : l.length = n) :
    (convert 70 9 (.slice (some ⟨g, 0, none⟩) n q)).run Tryd.prog w = .ok (.string ⟨l.toArray⟩) w := by
  subst hl
  exact run_convert_bytes_back (P := Tryd.prog) w 70 9 5 ⟨g, 0, none⟩ q l Tryd.underlying70 Tryd.underlying5 Tryd.underlying9 (bts_cells h)

set_option maxHeartbeats 2000000 in
theorem specDecP (N : Nat) (w : World) (h1 : 1 ≤ N) (h2 : N ≤ 9223372036854775807) :
    Calls Tryd.prog 72 #[.int .i64 (N : Int)] w fun e w' => e = .returned (.string (txt (N : Int))) ∧ Below w.heap.size w w' := by
  obtain ⟨i0, hi, hz0, hz1, hz2⟩ := info_parts infoB
  have hnd := nd_le (N := N) (by omega)
  have n0 : ((N : Int) == 0) = false := by simp; omega
  have hown0 : Orw (w.alloc (.cells #[] 5)) 5 1 w.heap.size (some ⟨w.heap.size, 0, none⟩) 0 0 (bts []) := World.ownsRow_made (base := w.heap.size) (e := 5) (size := 1) w #[] 0 (Nat.le_refl _) (by omega) (by simp)
  have HO0 := Lib.hid hown0
  clear hown0
  have H2 := Lib.hid h2
  go_enter Tryd.func72, Tryd.ntmps72
  go_wp2
  go_loopw [3, 4] (fun dv m wr => ∃ (u k c : Nat) (A : Option Addr) (ds : List UInt8), dv = .slice A k c ∧ m = .int .i64 (u : Int) ∧ u ≤ N ∧ k ≤ 19 ∧ Hid (Inv N u ds) ∧ Hid (Orw wr 5 1 w.heap.size A k c (bts ds)) ∧ Hid (Below w.heap.size w wr)) (fun _ m _ => (intOf m).natAbs)
  case atStart => exact ⟨N, 0, 0, _, [], rfl, rfl, Nat.le_refl _, by omega, Lib.hid (inv_start h1), HO0, Lib.hid (by repeat (first | with_reducible exact Below.refl _ _ | with_reducible assumption | (with_reducible refine Below.drew ?_) | (with_reducible refine below_drewN ?_ _) | ((with_reducible refine Below.alloc ?_ ?_ _); rotate_left; (focus first | exact Nat.le_refl _ | omega | (simp; done) | (simp; omega))) | ((with_reducible refine Below.setCell ?_ ?_ _); rotate_left; (focus first | exact Nat.le_refl _ | omega | (simp; done) | (simp; omega))) | ((with_reducible refine below_via (W := ?_) ?_ ?_ ?_); rotate_left; (with_reducible assumption); rotate_left; (focus first | exact Nat.le_refl _ | omega | (simp; done) | (simp; omega)))))⟩
  case round =>
    obtain ⟨u, k, c, A, ds, rfl, rfl, hu, hk, HI, HO, HB⟩ := hrel
    have hlen : ds.length = k := by have := HO.out.len; rw [bts_len] at this; omega
    have hle := inv_len HI.out
    have hz := HB.out.size
    by_cases h0 : 1 ≤ u
    · have HI2 := Lib.hid (inv_step HI.out h0)
      have hle2 := inv_len HI2.out
      rw [List.length_append, hlen] at hle2
      simp only [List.length_singleton] at hle2
      have hu63 : u ≤ 9223372036854775807 := by omega
      have e0 : ((u : Int) != 0) = true := by simp; omega
      have e1 : decide ((u : Int) % 10 < 0) = false := decide_eq_false (by omega)
      all_goals clear hlen n0
      all_goals go_wp2_with (at_builtin; refine wpList_append_own _ rfl _ _ 70 rfl w.heap.size 5 i0 (.int .u8 0) 1 1 Tryd.underlying70 hi hz0 hz1 hz2 rfl (by decide) _ _ _ rfl (HO.out.alloc _) ⟨wr.heap.size, 0, none⟩ 1 1 [.int .u8 (48 + (u : Int) % 10)] rfl rfl (news_one wr _ _) (one_cell rfl) (by unfold maxLen; omega) (by omega) (by simp; omega) ?_; intro v' w1 hown1 hgrow _; rw [bts_snoc] at hown1; obtain ⟨B, q, rfl, ho⟩ := orw_form hown1 (by omega); have HO1 := Lib.hid ho; have HG := Lib.hid (gr_of hgrow); clear hown1 hgrow ho)
      all_goals go_roundw
      all_goals first
        | (simp [intOf]; omega)
        | exact ⟨u / 10, k + 1, q, B, ds ++ [UInt8.ofNat (48 + u % 10)], rfl, by go_num, by omega, by omega, HI2, HO1, Lib.hid (Below.trans (HB.out.alloc (by omega) _) (Gr.below HG.out (fun a e => (HO.out.block e).1) (by simp; omega)))⟩
    · obtain rfl : u = 0 := by omega
      have hD := HI.out.2 rfl
      have hDl : (Lib.decDigits N).reverse.length = Lib.nDigits N := by rw [List.length_reverse, Lib.decDigits_length]
      have hpos := Lib.nDigits_pos N
      rw [hD] at HO hlen
      have HT := Lib.hid (txt_pos N)
      have hnn : decide ((N : Int) < 0) = false := decide_eq_false (by omega)
      generalize hDD : (Lib.decDigits N).reverse = D0 at HO hlen HT hDl
      clear hD hDD HI hle n0
      rw [show ((0 : Nat) : Int) = 0 from rfl]
      go_wp2_with fail
      obtain ⟨wo, rfl⟩ : ∃ wo : World, wo = wr := ⟨_, rfl⟩
      have hL19 : 1 ≤ k ∧ k ≤ 20 := by omega
      have hm : Orw (wo.alloc (.cells #[] 5)) 5 1 wo.heap.size (some ⟨wo.heap.size, 0, none⟩) 0 0 (bts (D0.reverse.take 0)) := World.ownsRow_made (base := wo.heap.size) (e := 5) (size := 1) wo #[] 0 (Nat.le_refl _) (by omega) (by simp)
      have HM := Lib.hid hm
      have HLEN := Lib.hid hlen
      clear hm hlen hDl hnn hpos
      go_loopw [6, 7] (fun o i wx => ∃ (k2 q : Nat) (B : Option Addr), o = .slice B k2 q ∧ i = .int .i64 ((k : Int) - 1 - k2) ∧ k2 ≤ k ∧ Hid (Orw wx 5 1 wo.heap.size B k2 q (bts (D0.reverse.take k2))) ∧ Hid (Orw wx 5 1 w.heap.size A k c (bts D0)) ∧ Hid (Below w.heap.size w wx) ∧ wo.heap.size ≤ wx.heap.size) (fun _ i _ => (intOf i + 1).toNat)
      case atStart => exact ⟨0, 0, _, rfl, congrArg (Value.int .i64) (by omega), by omega, HM, Lib.hid (HO.out.alloc _), Lib.hid (HB.out.alloc (by omega) _), by simp⟩
      case round =>
        obtain ⟨k2, q, B, rfl, rfl, hk2, HR, HA, HX, hbz⟩ := hrel
        have hzx := HX.out.size
        by_cases hlt : k2 < k
        · obtain ⟨m, hm⟩ : ∃ m, k2 + m + 1 = k := ⟨k - 1 - k2, by omega⟩
          have ei : (k : Int) - 1 - k2 = (m : Int) := by omega
          rw [ei]
          have hmD : m < D0.length := by have := HLEN.out; omega
          obtain ⟨g, hAg, hg1, hg2, hc, hf⟩ := HA.out.at_ (j := m) (by omega)
          rw [bts_get hmD] at hc
          have HV := Lib.hid (bts_rev HLEN.out hm hmD)
          generalize hz9 : ((D0[m]'hmD).toNat : Int) = z at hc HV
          clear hz9
          have HO9 := Lib.hid (fun a (e : A = some a) => (HO.out.block e).2)
          rw [hAg]
          rw [hAg] at HA HO9
          clear hAg
          have j0 : (0 : Int) ≤ (m : Int) := by omega
          have j1 : (m : Int) < (k : Int) := by omega
          clear hf hmD
          have HR9 := Lib.hid (fun a e => (HR.out.block (a := a) e).1)
          go_wp2_with (at_builtin; refine wpList_append_own _ rfl _ _ 70 rfl wo.heap.size 5 i0 (.int .u8 0) 1 1 Tryd.underlying70 hi hz0 hz1 hz2 rfl (by decide) _ _ _ rfl (HR.out.alloc _) ⟨wr.heap.size, 0, none⟩ 1 1 [.int .u8 z] rfl rfl (news_one wr _ _) (one_cell rfl) (by unfold maxLen; omega) (by omega) (Nat.le_trans hbz (by simp)) ?_; intro v' w3 hown3 hgrow3 _; rw [HV.out] at hown3; obtain ⟨B', q', rfl, ho3⟩ := orw_form hown3 (by omega); have HR3 := Lib.hid ho3; have HG3 := Lib.hid (gr_of hgrow3); clear hown3 hgrow3 ho3)
          all_goals go_roundw
          all_goals first
            | (simp [intOf]; done)
            | (simp [intOf]; omega)
            | exact ⟨k2 + 1, q', B', rfl, congrArg (Value.int .i64) (by omega), by omega, HR3, Lib.hid ((HA.out.alloc _).gr HG3.out (fun a b ea eb => by have x1 := HO9.out a ea; have x2 := HR9.out b eb; omega)), Lib.hid (Below.trans (HX.out.alloc (by omega) _) (Gr.below HG3.out (fun a e => by have x2 := HR9.out a e; omega) (by simp; omega))), by have := HG3.out.size; simp at this; omega⟩
        · obtain rfl : k2 = k := by omega
          have et : D0.reverse.take k2 = D0.reverse := List.take_of_length_le (by rw [List.length_reverse, HLEN.out]; exact Nat.le_refl _)
          rw [et] at HR
          obtain ⟨g, rfl, _⟩ := HR.out.at_ (j := 0) (by omega)
          have kc := conv_row HR.out (by rw [List.length_reverse, HLEN.out])
          have ei : (k2 : Int) - 1 - k2 = -1 := by omega
          rw [ei]
          go_wp2
          go_ret
          exact ⟨congrArg (fun x => Ending.returned (.string x)) HT.out.symm, HX.out⟩

set_option maxHeartbeats 2000000 in
theorem specDecN (x : Int) (N : Nat) (w : World) (hx : x = -(N : Int)) (h1 : 1 ≤ N) (h2 : N ≤ 9223372036854775808) :
    Calls Tryd.prog 72 #[.int .i64 x] w fun e w' => e = .returned (.string (txt x)) ∧ Below w.heap.size w w' := by
  obtain ⟨i0, hi, hz0, hz1, hz2⟩ := info_parts infoB
  have hnd := nd_le (N := N) (by omega)
  have n0 : (x == 0) = false := by simp; omega
  have hown0 : Orw (w.alloc (.cells #[] 5)) 5 1 w.heap.size (some ⟨w.heap.size, 0, none⟩) 0 0 (bts []) := World.ownsRow_made (base := w.heap.size) (e := 5) (size := 1) w #[] 0 (Nat.le_refl _) (by omega) (by simp)
  have HO0 := Lib.hid hown0
  clear hown0
  have H2 := Lib.hid h2
  have h2i : -9223372036854775808 ≤ x := by omega
  have h2j : x < 0 := by omega
  have HXN := Lib.hid hx
  clear h2 hx
  go_enter Tryd.func72, Tryd.ntmps72
  go_wp2
  go_loopw [3, 4] (fun dv m wr => ∃ (u k c : Nat) (A : Option Addr) (ds : List UInt8) (z : Int), dv = .slice A k c ∧ m = .int .i64 z ∧ z ≤ 0 ∧ -9223372036854775808 ≤ z ∧ Hid (z = -(u : Int)) ∧ u ≤ N ∧ k ≤ 19 ∧ Hid (Inv N u ds) ∧ Hid (Orw wr 5 1 w.heap.size A k c (bts ds)) ∧ Hid (Below w.heap.size w wr)) (fun _ m _ => (intOf m).natAbs)
  case atStart => exact ⟨N, 0, 0, _, [], _, rfl, rfl, by omega, h2i, HXN, Nat.le_refl _, by omega, Lib.hid (inv_start h1), HO0, Lib.hid (by repeat (first | with_reducible exact Below.refl _ _ | with_reducible assumption | (with_reducible refine Below.drew ?_) | (with_reducible refine below_drewN ?_ _) | ((with_reducible refine Below.alloc ?_ ?_ _); rotate_left; (focus first | exact Nat.le_refl _ | omega | (simp; done) | (simp; omega))) | ((with_reducible refine Below.setCell ?_ ?_ _); rotate_left; (focus first | exact Nat.le_refl _ | omega | (simp; done) | (simp; omega))) | ((with_reducible refine below_via (W := ?_) ?_ ?_ ?_); rotate_left; (with_reducible assumption); rotate_left; (focus first | exact Nat.le_refl _ | omega | (simp; done) | (simp; omega)))))⟩
  case round =>
    obtain ⟨u, k, c, A, ds, z, rfl, rfl, zz1, zz2, HZ, hu, hk, HI, HO, HB⟩ := hrel
    have hlen : ds.length = k := by have := HO.out.len; rw [bts_len] at this; omega
    have hle := inv_len HI.out
    have hz := HB.out.size
    by_cases h0 : 1 ≤ u
    · have HI2 := Lib.hid (inv_step HI.out h0)
      have hle2 := inv_len HI2.out
      rw [List.length_append, hlen] at hle2
      simp only [List.length_singleton] at hle2
      have hu63 : -9223372036854775808 ≤ -(u : Int) := by have := HZ.out; omega
      have e0 : (z != 0) = true := by have := HZ.out; simp; omega
      obtain ⟨r, hr⟩ : ∃ r, z.tmod 10 = r := ⟨_, rfl⟩
      obtain ⟨q2, hq2⟩ : ∃ q2, z.tdiv 10 = q2 := ⟨_, rfl⟩
      have r1 : r = -((u : Int) % 10) := by rw [← hr, HZ.out, Int.neg_tmod, Int.tmod_eq_emod_of_nonneg (by omega)]
      have r2 : q2 = -((u : Int) / 10) := by rw [← hq2, HZ.out, Int.neg_tdiv, Int.tdiv_eq_ediv_of_nonneg (by omega)]
      have HRU := Lib.hid r1
      have HQU : Hid (q2 = -((u / 10 : Nat) : Int)) := Lib.hid (by omega)
      have b1 : -9 ≤ r ∧ r ≤ 0 := by omega
      have b2 : -9223372036854775808 ≤ q2 ∧ q2 ≤ 0 := by have := HZ.out; omega
      have ew : IntKind.i64.wrap (z.tdiv 10) = q2 := by rw [hq2]; exact IntWalk.i64_in _ (by omega)
      have zlt : z < 0 := by have := HZ.out; omega
      clear r1 r2 hq2 hu63
      rcases (show r < 0 ∨ r = 0 by omega) with hr0 | hr0
      all_goals try (subst hr0)
      all_goals clear hlen n0
      all_goals go_wp2_with (at_builtin; refine wpList_append_own _ rfl _ _ 70 rfl w.heap.size 5 i0 (.int .u8 0) 1 1 Tryd.underlying70 hi hz0 hz1 hz2 rfl (by decide) _ _ _ rfl (HO.out.alloc _) ⟨wr.heap.size, 0, none⟩ 1 1 _ rfl rfl (news_one wr _ _) (one_cell rfl) (by unfold maxLen; omega) (by omega) (by simp; omega) ?_; intro v' w1 hown1 hgrow _; replace hown1 := own_snoc (u := u) hown1 (by have := HRU.out; omega); obtain ⟨B, q, rfl, ho⟩ := orw_form hown1 (by omega); have HO1 := Lib.hid ho; have HG := Lib.hid (gr_of hgrow); clear hown1 hgrow ho)
      all_goals go_roundw
      all_goals first
        | (simp [intOf]; have := HQU.out; have := HZ.out; omega)
        | exact ⟨u / 10, k + 1, q, B, ds ++ [UInt8.ofNat (48 + u % 10)], q2, rfl, rfl, b2.2, b2.1, HQU, by omega, by omega, HI2, HO1, Lib.hid (Below.trans (HB.out.alloc (by omega) _) (Gr.below HG.out (fun a e => (HO.out.block e).1) (by simp; omega)))⟩
    · obtain rfl : u = 0 := by omega
      have hD := HI.out.2 rfl
      have hDl : (Lib.decDigits N).reverse.length = Lib.nDigits N := by rw [List.length_reverse, Lib.decDigits_length]
      have hpos := Lib.nDigits_pos N
      rw [hD] at HO hlen
      have HT := Lib.hid ((congrArg txt HXN.out).trans (txt_neg h1))
      have hnn : decide (x < 0) = true := decide_eq_true (by omega)
      generalize hDD : (Lib.decDigits N).reverse = D0 at HO hlen HT hDl
      clear hD hDD HI hle n0
      obtain rfl : z = 0 := by have := HZ.out; omega
      go_wp2_with (at_builtin; refine wpList_append_own _ rfl _ _ 70 rfl w.heap.size 5 i0 (.int .u8 0) 1 1 Tryd.underlying70 hi hz0 hz1 hz2 rfl (by decide) _ _ _ rfl (HO.out.alloc _) ⟨wr.heap.size, 0, none⟩ 1 1 [.int .u8 45] rfl rfl (news_one wr _ _) (one_cell rfl) (by unfold maxLen; omega) (by omega) (by simp; omega) ?_; intro v' w1 hown1 hgrow _; obtain ⟨A2, c2, rfl, ho⟩ := orw_form hown1 (by omega); have HO1 : Hid (Orw w1 5 1 w.heap.size A2 (k + 1) c2 (bts (D0 ++ [45]))) := Lib.hid (by rw [bts_app]; exact ho); have HB1 : Hid (Below w.heap.size w w1) := Lib.hid (Below.trans (HB.out.alloc (by omega) _) (Gr.below (gr_of hgrow) (fun a e => (HO.out.block e).1) (by simp; omega))); have hz1' := HB1.out.size; clear hown1 hgrow ho)
      obtain ⟨L, hL⟩ : ∃ L, k + 1 = L := ⟨_, rfl⟩
      obtain ⟨D, hD⟩ : ∃ D, D0 ++ [45] = D := ⟨_, rfl⟩
      have hlD : D.length = L := by rw [← hD, List.length_append]; simp; omega
      have hcast : ((k : Int) + 1) = (L : Int) := by omega
      rw [hL] at HO1 ⊢
      rw [hD] at HO1 HT
      have hlen := hlD
      have hL19 : 1 ≤ L ∧ L ≤ 20 := by omega
      have HKL := Lib.hid hL
      clear hlD hcast hL hD
      have hm : Orw (w1.alloc (.cells #[] 5)) 5 1 w1.heap.size (some ⟨w1.heap.size, 0, none⟩) 0 0 (bts (D.reverse.take 0)) := World.ownsRow_made (base := w1.heap.size) (e := 5) (size := 1) w1 #[] 0 (Nat.le_refl _) (by omega) (by simp)
      have HM := Lib.hid hm
      have HLEN := Lib.hid hlen
      clear hm hlen hDl hnn hpos
      go_loopw [6, 7] (fun o i wx => ∃ (k2 q : Nat) (B : Option Addr), o = .slice B k2 q ∧ i = .int .i64 ((L : Int) - 1 - k2) ∧ k2 ≤ L ∧ Hid (Orw wx 5 1 w1.heap.size B k2 q (bts (D.reverse.take k2))) ∧ Hid (Orw wx 5 1 w.heap.size A2 L c2 (bts D)) ∧ Hid (Below w.heap.size w wx) ∧ w1.heap.size ≤ wx.heap.size) (fun _ i _ => (intOf i + 1).toNat)
      case atStart => exact ⟨0, 0, _, rfl, congrArg (Value.int .i64) (by have := HKL.out; omega), by omega, HM, Lib.hid (HO1.out.alloc _), Lib.hid (HB1.out.alloc (by omega) _), by simp⟩
      case round =>
        obtain ⟨k2, q, B, rfl, rfl, hk2, HR, HA, HX, hbz⟩ := hrel
        have hzx := HX.out.size
        by_cases hlt : k2 < L
        · obtain ⟨m, hm⟩ : ∃ m, k2 + m + 1 = L := ⟨L - 1 - k2, by omega⟩
          have ei : (L : Int) - 1 - k2 = (m : Int) := by omega
          rw [ei]
          have hmD : m < D.length := by have := HLEN.out; omega
          obtain ⟨g, hAg, hg1, hg2, hc, hf⟩ := HA.out.at_ (j := m) (by omega)
          rw [bts_get hmD] at hc
          have HV := Lib.hid (bts_rev HLEN.out hm hmD)
          generalize hz9 : ((D[m]'hmD).toNat : Int) = z at hc HV
          clear hz9
          have HO9 := Lib.hid (fun a (e : A2 = some a) => (HO1.out.block e).2)
          rw [hAg]
          rw [hAg] at HA HO9
          clear hAg
          have j0 : (0 : Int) ≤ (m : Int) := by omega
          have j1 : (m : Int) < (L : Int) := by omega
          clear hf hmD
          have HR9 := Lib.hid (fun a e => (HR.out.block (a := a) e).1)
          go_wp2_with (at_builtin; refine wpList_append_own _ rfl _ _ 70 rfl w1.heap.size 5 i0 (.int .u8 0) 1 1 Tryd.underlying70 hi hz0 hz1 hz2 rfl (by decide) _ _ _ rfl (HR.out.alloc _) ⟨wr.heap.size, 0, none⟩ 1 1 [.int .u8 z] rfl rfl (news_one wr _ _) (one_cell rfl) (by unfold maxLen; omega) (by omega) (Nat.le_trans hbz (by simp)) ?_; intro v' w3 hown3 hgrow3 _; rw [HV.out] at hown3; obtain ⟨B', q', rfl, ho3⟩ := orw_form hown3 (by omega); have HR3 := Lib.hid ho3; have HG3 := Lib.hid (gr_of hgrow3); clear hown3 hgrow3 ho3)
          all_goals go_roundw
          all_goals first
            | (simp [intOf]; done)
            | (simp [intOf]; omega)
            | exact ⟨k2 + 1, q', B', rfl, congrArg (Value.int .i64) (by omega), by omega, HR3, Lib.hid ((HA.out.alloc _).gr HG3.out (fun a b ea eb => by have x1 := HO9.out a ea; have x2 := HR9.out b eb; omega)), Lib.hid (Below.trans (HX.out.alloc (by omega) _) (Gr.below HG3.out (fun a e => by have x2 := HR9.out a e; omega) (by simp; omega))), by have := HG3.out.size; simp at this; omega⟩
        · obtain rfl : k2 = L := by omega
          have et : D.reverse.take k2 = D.reverse := List.take_of_length_le (by rw [List.length_reverse, HLEN.out]; exact Nat.le_refl _)
          rw [et] at HR
          obtain ⟨g, rfl, _⟩ := HR.out.at_ (j := 0) (by omega)
          have kc := conv_row HR.out (by rw [List.length_reverse, HLEN.out])
          have ei : (k2 : Int) - 1 - k2 = -1 := by omega
          rw [ei]
          go_wp2
          go_ret
          exact ⟨congrArg (fun x => Ending.returned (.string x)) HT.out.symm, HX.out⟩

theorem specDec (n : Int) (w : World) (hn : -9223372036854775808 ≤ n ∧ n ≤ 9223372036854775807) :
    Calls Tryd.prog 72 #[.int .i64 n] w fun e w' => e = .returned (.string (txt n)) ∧ Below w.heap.size w w' := by
  by_cases h0 : n = 0
  · subst h0
    have HT := Lib.hid txt_zero
    go_enter Tryd.func72, Tryd.ntmps72
    go_wp2
    go_ret
    exact ⟨congrArg (fun x => Ending.returned (.string x)) HT.out.symm, Below.refl _ _⟩
  · by_cases h1 : n < 0
    · obtain ⟨N, rfl⟩ : ∃ N : Nat, n = -(N : Int) := ⟨n.natAbs, by omega⟩
      exact specDecN _ N w rfl (by omega) (by omega)
    · obtain ⟨N, rfl⟩ : ∃ N : Nat, n = (N : Int) := ⟨n.toNat, by omega⟩
      exact specDecP N w (by omega) (by omega)

end Go.Proofs.YtbggickeomeidaaDoor.Dec
