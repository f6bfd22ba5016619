/- NearestOf: the reference's and the program's. -/
import Derived.Test.YtbggickeomeidaaWalkPI
import Derived.Test.YtbggickeomeidaaWalkU
namespace Go.Proofs.Ytbggickeomeidaa.WalkNr
open Go Go.RowKit Go.Proofs.Ytbggickeomeidaa.Base Go.Proofs.Ytbggickeomeidaa.Plain Go.Proofs.Ytbggickeomeidaa.Words Go.Proofs.Ytbggickeomeidaa.Ints Go.Proofs.Ytbggickeomeidaa.WalkN Go.Proofs.Ytbggickeomeidaa.WalkP Go.Proofs.Ytbggickeomeidaa.WalkI Go.Proofs.Ytbggickeomeidaa.Cells Go.Proofs.Ytbggickeomeidaa.Pts Go.Proofs.Ytbggickeomeidaa.Over Go.Proofs.Ytbggickeomeidaa.WalkPI
set_option linter.unusedVariables false
set_option linter.unusedSimpArgs false

def okPs (ps : List PT) : Bool := ps.all fun p => okP p.1 p.2
theorem at_get {ps : List PT} {k : Nat} (h : k < ps.length) : at0 ps k = ps[k].1 ∧ at1 ps k = ps[k].2 := by simp [at0, at1, h]
theorem okPs_stop {ps : List PT} {k : Nat} (h : k < ps.length) (e : okP (at0 ps k) (at1 ps k) = false) : okPs ps = false := by
  cases q : okPs ps
  · rfl
  · rw [(at_get h).1, (at_get h).2, List.all_eq_true.1 q ps[k] (List.getElem_mem h)] at e
    cases e
theorem okPs_end {ps : List PT} {n : Nat} (hl : ps.length = n) (h : ∀ j, j < n → okP (at0 ps j) (at1 ps j) = true) : okPs ps = true := by
  unfold okPs
  rw [List.all_eq_true]
  intro p hp
  obtain ⟨k, hk, rfl⟩ := List.getElem_of_mem hp
  have := h k (by omega)
  rwa [(at_get hk).1, (at_get hk).2] at this
theorem okPs_at {ps : List PT} {k : Nat} (q : okPs ps = true) (h : k < ps.length) : okP (at0 ps k) (at1 ps k) = true := by
  rw [(at_get h).1, (at_get h).2]
  exact List.all_eq_true.1 q ps[k] (List.getElem_mem h)
/-- how far the k-th point lies -/
def dN (ps : List PT) (x y : Int) (k : Nat) : Int := rootF (distN (at0 ps k) (at1 ps k) x y)
/-- the nearest of the first k points -/
def bestN (ps : List PT) (x y : Int) : Nat → Nat
  | 0 => 0
  | k + 1 => if dN ps x y k < dN ps x y (bestN ps x y k) then k else bestN ps x y k
theorem bestN_lt (ps : List PT) (x y : Int) : ∀ k, bestN ps x y k ≤ k - 1
  | 0 => Nat.le_refl _
  | k + 1 => by
    have := bestN_lt ps x y k
    unfold bestN
    split <;> omega
theorem bestN_one (ps : List PT) (x y : Int) : bestN ps x y 1 = 0 := by
  unfold bestN
  split
  · rfl
  · rfl
theorem best_yes {ps : List PT} {x y : Int} {k : Nat} (h : dN ps x y k < dN ps x y (bestN ps x y k)) : bestN ps x y (k + 1) = k := by
  show (if _ then _ else _) = _
  rw [if_pos h]
theorem best_no {ps : List PT} {x y : Int} {k : Nat} (h : ¬ dN ps x y k < dN ps x y (bestN ps x y k)) : bestN ps x y (k + 1) = bestN ps x y k := by
  show (if _ then _ else _) = _
  rw [if_neg h]
def nearR (ps : List PT) (x y : Int) : Int × Int := bif okPs ps && okP x y then (bif ps.length == 0 then (0, 6) else ((bestN ps x y ps.length : Int), 0)) else (0, 1)
def nearV (ps : List PT) (x y : Int) : Value := .tuple #[.int .i64 (nearR ps x y).1, .int .i64 (nearR ps x y).2]
theorem nearV_eq {ps : List PT} {x y a b : Int} (h : nearR ps x y = (a, b)) : nearV ps x y = .tuple #[.int .i64 a, .int .i64 b] := by unfold nearV; rw [h]

theorem specOkB (x y : Int) (w : World) : Calls Try.prog 10 #[.agg #[.int .i64 x, .int .i64 y]] w fun e w' => e = .returned (.bool (okP x y)) ∧ Below w.heap.size w w' :=
  (specOk x y w).mono fun e w' h => ⟨h.1, by rw [h.2]; exact (by repeat (first | with_reducible exact Below.refl _ _ | with_reducible assumption | (with_reducible refine Below.drew ?_) | (with_reducible refine below_drewN ?_ _) | ((with_reducible refine Below.alloc ?_ ?_ _); rotate_left; (focus first | exact Nat.le_refl _ | omega | (simp; done) | (simp; omega))) | ((with_reducible refine Below.setCell ?_ ?_ _); rotate_left; (focus first | exact Nat.le_refl _ | omega | (simp; done) | (simp; omega))) | ((with_reducible refine below_via (W := ?_) ?_ ?_ ?_); rotate_left; (with_reducible assumption); rotate_left; (focus first | exact Nat.le_refl _ | omega | (simp; done) | (simp; omega)))))⟩
theorem implOkB (x y : Int) (w : World) : Calls Try.prog 12 #[.agg #[.int .i64 x, .int .i64 y]] w fun e w' => e = .returned (.bool (okP x y)) ∧ Below w.heap.size w w' :=
  (implOk x y w).mono fun e w' h => ⟨h.1, by rw [h.2]; exact (by repeat (first | with_reducible exact Below.refl _ _ | with_reducible assumption | (with_reducible refine Below.drew ?_) | (with_reducible refine below_drewN ?_ _) | ((with_reducible refine Below.alloc ?_ ?_ _); rotate_left; (focus first | exact Nat.le_refl _ | omega | (simp; done) | (simp; omega))) | ((with_reducible refine Below.setCell ?_ ?_ _); rotate_left; (focus first | exact Nat.le_refl _ | omega | (simp; done) | (simp; omega))) | ((with_reducible refine below_via (W := ?_) ?_ ?_ ?_); rotate_left; (with_reducible assumption); rotate_left; (focus first | exact Nat.le_refl _ | omega | (simp; done) | (simp; omega)))))⟩
theorem specApartB (x y u v : Int) (w : World) (h1 : okP x y = true) (h2 : okP u v = true) :
    Calls Try.prog 11 #[.agg #[.int .i64 x, .int .i64 y], .agg #[.int .i64 u, .int .i64 v]] w fun e w' => e = .returned (.int .i64 (rootF (distN x y u v))) ∧ Below w.heap.size w w' :=
  (specApart x y u v w h1 h2).mono fun e w' h => ⟨h.1, by rw [h.2]; exact (by repeat (first | with_reducible exact Below.refl _ _ | with_reducible assumption | (with_reducible refine Below.drew ?_) | (with_reducible refine below_drewN ?_ _) | ((with_reducible refine Below.alloc ?_ ?_ _); rotate_left; (focus first | exact Nat.le_refl _ | omega | (simp; done) | (simp; omega))) | ((with_reducible refine Below.setCell ?_ ?_ _); rotate_left; (focus first | exact Nat.le_refl _ | omega | (simp; done) | (simp; omega))) | ((with_reducible refine below_via (W := ?_) ?_ ?_ ?_); rotate_left; (with_reducible assumption); rotate_left; (focus first | exact Nat.le_refl _ | omega | (simp; done) | (simp; omega)))))⟩

set_option maxHeartbeats 4000000 in
theorem specNear (A : Option Addr) (n c : Nat) (ps : List PT) (x y : Int) (w : World) (ra : Rp w A n ps) (hn : n ≤ 1048576) :
    Calls Try.prog 5 #[.slice A n c, .agg #[.int .i64 x, .int .i64 y]] w fun e w' => e = .returned (nearV ps x y) ∧ Below w.heap.size w w' := by
  have HA := Lib.hid ra
  have HL := Lib.hid ra.len
  clear ra
  go_enter Try.func5, Try.ntmps5
  go_wp2
  go_loopw [6] (fun i wr => ∃ k : Nat, k ≤ n ∧ i = .int .i64 k ∧ Hid (Below w.heap.size w wr) ∧ Hid (Blk wr w.heap.size 30 #[.int .i64 x, .int .i64 y]) ∧ Hid (∀ j, j < k → okP (at0 ps j) (at1 ps j) = true)) (fun i _ => n - (intOf i).toNat)
  case atStart => exact ⟨0, Nat.zero_le _, rfl, Lib.hid (by repeat (first | with_reducible exact Below.refl _ _ | with_reducible assumption | (with_reducible refine Below.drew ?_) | (with_reducible refine below_drewN ?_ _) | ((with_reducible refine Below.alloc ?_ ?_ _); rotate_left; (focus first | exact Nat.le_refl _ | omega | (simp; done) | (simp; omega))) | ((with_reducible refine Below.setCell ?_ ?_ _); rotate_left; (focus first | exact Nat.le_refl _ | omega | (simp; done) | (simp; omega))) | ((with_reducible refine below_via (W := ?_) ?_ ?_ ?_); rotate_left; (with_reducible assumption); rotate_left; (focus first | exact Nat.le_refl _ | omega | (simp; done) | (simp; omega))))), Lib.hid (Blk.new _ _ _ rfl), Lib.hid (fun j hj => absurd hj (by omega))⟩
  case round =>
    obtain ⟨k, hk, rfl, HB, HK, HO⟩ := hrel
    by_cases hlt : k < n
    · obtain ⟨ad, rfl, hc0, hc1⟩ := (Rp.below HB.out HA.out).at_ hlt
      have CL := Lib.hid (specOkB (at0 ps k) (at1 ps k) wr)
      cases hin : okP (at0 ps k) (at1 ps k)
      · rw [hin] at CL
        have HF := Lib.hid (nearV_eq (show nearR ps x y = (0, 1) by unfold nearR; rw [okPs_stop (by rw [HL.out]; exact hlt) hin]; rfl))
        clear hin
        go_wp2_with (go_at_call 10; refine CL.out.mono ?_; rintro e w1 ⟨rfl, hb1⟩)
        go_ret2
        exact ⟨by rw [HF.out]; rfl, below_via hb1 HB.out HB.out.size⟩
      · rw [hin] at CL
        have HIN := Lib.hid hin
        clear hin
        go_wp2_with (go_at_call 10; refine CL.out.mono ?_; rintro e w1 ⟨rfl, hb1⟩)
        go_roundw
        case rel =>
          refine ⟨k + 1, by omega, by go_num, Lib.hid (below_via hb1 HB.out HB.out.size), Lib.hid (Blk.below hb1 HK.out), Lib.hid fun j hj => ?_⟩
          by_cases e : j = k
          · rw [e]; exact HIN.out
          · exact HO.out j (by omega)
        case measure => simp [intOf]; omega
    · obtain rfl : k = n := by omega
      have HOK := Lib.hid (okPs_end HL.out HO.out)
      have p0 := HK.out.cell 0
      have p1 := HK.out.cell 1
      simp at p0 p1
      have CL := Lib.hid (specOkB x y wr)
      cases hin : okP x y
      · rw [hin] at CL
        have HF := Lib.hid (nearV_eq (show nearR ps x y = (0, 1) by unfold nearR; rw [hin, Bool.and_false]; rfl))
        clear hin
        go_wp2_with (go_at_call 10; refine CL.out.mono ?_; rintro e w1 ⟨rfl, hb1⟩)
        go_ret2
        exact ⟨by rw [HF.out]; rfl, below_via hb1 HB.out HB.out.size⟩
      · rw [hin] at CL
        have HIN := Lib.hid hin
        by_cases h0 : k = 0
        · subst h0
          have HF := Lib.hid (nearV_eq (show nearR ps x y = (0, 6) by unfold nearR; rw [HOK.out, hin, HL.out]; rfl))
          clear hin
          go_wp2_with (go_at_call 10; refine CL.out.mono ?_; rintro e w1 ⟨rfl, hb1⟩)
          go_ret2
          exact ⟨by rw [HF.out]; rfl, below_via hb1 HB.out HB.out.size⟩
        · have HF := Lib.hid (nearV_eq (show nearR ps x y = ((bestN ps x y k : Int), 0) by
            have e : (k == 0) = false := by simp [h0]
            unfold nearR
            rw [HOK.out, hin, HL.out, e]
            rfl))
          have e0 : ((k : Int) == 0) = false := by simp [h0]
          clear hin
          obtain ⟨W1, eW⟩ : ∃ W, W = wr := ⟨_, rfl⟩
          subst eW
          go_wp2_with (go_at_call 10; refine CL.out.mono ?_; rintro e w1 ⟨rfl, hb1⟩)
          have HB1 := Lib.hid (below_via hb1 HB.out HB.out.size)
          have HK1 := Lib.hid (Blk.below hb1 HK.out)
          have q0 : 1 ≤ k := by omega
          clear HB HK HO p0 p1 hb1
          go_loopw [7, 8] (fun b i wr => ∃ j : Nat, 1 ≤ j ∧ j ≤ k ∧ i = .int .i64 j ∧ b = .int .i64 (bestN ps x y j : Nat) ∧ Hid (Below w.heap.size w wr) ∧ Hid (Blk wr w.heap.size 30 #[.int .i64 x, .int .i64 y])) (fun _ i _ => k - (intOf i).toNat)
          case atStart => exact ⟨1, Nat.le_refl _, q0, by first | rfl | simp, by rw [bestN_one]; rfl, HB1, HK1⟩
          case round =>
            clear HB1 HK1
            obtain ⟨j, hj1, hj, rfl, rfl, HB, HK⟩ := hrel
            have hbl := bestN_lt ps x y j
            obtain ⟨b, hb⟩ : ∃ b, bestN ps x y j = b := ⟨_, rfl⟩
            have HBN := Lib.hid hb
            rw [hb] at hbl
            rw [hb]
            clear hb
            by_cases hjk : j < k
            · obtain ⟨ad, rfl, hc0, hc1⟩ := (Rp.below HB.out HA.out).at_ hjk
              obtain ⟨bd, e, hd0, hd1⟩ := (Rp.below HB.out HA.out).at_ (show b < k by omega)
              injection e with e
              subst e
              have la : (ad.add (j * 2)).block < wr.heap.size := World.block_lt_of_cell? _ _ hc0
              have lb : (ad.add (b * 2)).block < wr.heap.size := World.block_lt_of_cell? _ _ hd0
              have lw := HK.out.lt
              have p0 := HK.out.cell 0
              have p1 := HK.out.cell 1
              simp at p0 p1
              have i0 : (0 : Int) ≤ (j : Int) := by omega
              have i1 : (j : Int) < (k : Int) := by omega
              have i2 : (0 : Int) ≤ (b : Int) := by omega
              have i3 : (b : Int) < (k : Int) := by omega
              have C1 := Lib.hid (fun W => specApartB (at0 ps j) (at1 ps j) x y W (okPs_at HOK.out (by rw [HL.out]; exact hjk)) HIN.out)
              have C2 := Lib.hid (fun W => specApartB (at0 ps b) (at1 ps b) x y W (okPs_at HOK.out (by rw [HL.out]; omega)) HIN.out)
              have HD1 : Hid (dN ps x y j = rootF (distN (at0 ps j) (at1 ps j) x y)) := Lib.hid rfl
              have HD2 : Hid (dN ps x y b = rootF (distN (at0 ps b) (at1 ps b) x y)) := Lib.hid rfl
              obtain ⟨r1, hr1⟩ : ∃ r, rootF (distN (at0 ps j) (at1 ps j) x y) = r := ⟨_, rfl⟩
              obtain ⟨r2, hr2⟩ : ∃ r, rootF (distN (at0 ps b) (at1 ps b) x y) = r := ⟨_, rfl⟩
              rw [hr1] at C1 HD1
              rw [hr2] at C2 HD2
              clear hr1 hr2
              go_upto_region 14 with fail
              have hu := Up.cells wr
              refine region_up (by kernel_rfl) (by kernel_rfl) ?_
              repeat (go_big_quiet_step ((go_at_call 11; first | (with_reducible exact call_up _ (C1.out _)) | (with_reducible exact call_up _ (C2.out _)))))
              refine wpQuiet_nil ?_
              rintro wz ⟨⟨wy, hbz⟩, (e : wz = wy)⟩
              subst e
              clear hu
              have HBZ := Lib.hid (below_via hbz HB.out HB.out.size)
              have HKZ := Lib.hid (Blk.below hbz HK.out)
              clear hbz HB HK
              by_cases hd : r1 < r2
              · go_wp2_with fail
                go_roundw
                case rel => exact ⟨j + 1, by omega, by omega, by go_num, by rw [best_yes (by rw [HBN.out, HD1.out, HD2.out]; exact hd)], HBZ, HKZ⟩
                case measure => simp [intOf]; omega
              · go_wp2_with fail
                go_roundw
                case rel => exact ⟨j + 1, by omega, by omega, by go_num, by rw [best_no (by rw [HBN.out, HD1.out, HD2.out]; exact hd), HBN.out], HBZ, HKZ⟩
                case measure => simp [intOf]; omega
            · obtain rfl : j = k := by omega
              go_wp2_with fail
              go_ret2
              exact ⟨by rw [HF.out, HBN.out]; rfl, HB.out⟩

end Go.Proofs.Ytbggickeomeidaa.WalkNr
