/- The walk of the law FnExactNearestOf. -/
import Derived.Test.YtbggickeomeidaaWalkNs
import Derived.Deep.RegionHeld3
namespace Go.Proofs.Ytbggickeomeidaa.LawNearestOf
open Go Go.RowKit Go.Proofs.Ytbggickeomeidaa.Base Go.Proofs.Ytbggickeomeidaa.Plain Go.Proofs.Ytbggickeomeidaa.Words Go.Proofs.Ytbggickeomeidaa.Ints Go.Proofs.Ytbggickeomeidaa.WalkN Go.Proofs.Ytbggickeomeidaa.WalkP Go.Proofs.Ytbggickeomeidaa.WalkI Go.Proofs.Ytbggickeomeidaa.Cells Go.Proofs.Ytbggickeomeidaa.Pts Go.Proofs.Ytbggickeomeidaa.WalkPI Go.Proofs.Ytbggickeomeidaa.WalkNr Go.Proofs.Ytbggickeomeidaa.WalkNs
set_option linter.unusedVariables false
set_option linter.unusedSimpArgs false

set_option maxHeartbeats 4000000 in
theorem law (A : Option Addr) (n c : Nat) (ps : List PT) (x y : Int) (w : World) (ra : Rp w A n ps) (kn : n ≤ maxLen) :
    Calls Try.prog 3 #[.slice A n c, .agg #[.int .i64 x, .int .i64 y]] w fun e w' => e = .returned (.bool true) ∧ Below w.heap.size w w' := by
  have Z0 := Lib.hid (fun W => szPts A n c 1048576 W kn (by omega))
  by_cases hsz : ((n : Nat) : Int) ≤ 1048576
  · obtain ⟨L0, hL0⟩ : ∃ L, szF n 1048576 = L := ⟨_, rfl⟩
    have q0 : 0 ≤ L0 := by rw [← hL0]; unfold szF; rw [if_neg (by omega)]; omega
    rw [hL0] at Z0
    have hn : n ≤ 1048576 := by omega
    have TT := Lib.hid (fun W (hb : Below w.heap.size w W) => toPts A n c ps W (Rp.below hb ra) hn)
    obtain ⟨V0, V1, HV⟩ : ∃ V0 V1 : Int, nearV ps x y = .tuple #[.int .i64 V0, .int .i64 V1] := ⟨_, _, rfl⟩
    have SP := Lib.hid (fun W (g : Nat) (r : Rp W (some ⟨g, 0, none⟩) n ps) => specNear _ n n ps x y W r hn)
    have IM := Lib.hid (fun W (g : Nat) (r : Rp W (some ⟨g, 0, none⟩) n ps) => implNear _ n n ps x y W r hn)
    rw [HV] at SP IM
    clear ra hL0 HV
    go_enter Try.func3, Try.ntmps3
    go_wp2_with fail
    refine (Z0.out _).mono ?_
    rintro e w' ⟨rfl, rfl⟩
    go_wp2_with fail
    go_region_held3 (fun w' => w'.cell? ⟨w.heap.size, 0, none⟩ = some (.int .i64 x) ∧ w'.cell? ⟨w.heap.size, 1, none⟩ = some (.int .i64 y)) ((((try dsimp only); (repeat' apply And.intro) <;> (repeat (first | with_reducible assumption | (with_reducible refine keep_drew ?_) | (with_reducible refine keep_drewN ?_) | ((with_reducible refine keep_new _ _ _ _ _ _ ?_ ?_) <;> (first | rfl | (simp; done) | omega)) | (with_reducible refine keep_alloc _ ?_) | ((with_reducible refine keep_set _ ?_ ?_); (focus first | omega | (simp; done) | (simp; omega))) | ((with_reducible refine keep_set' _ ?_ ?_); (focus first | omega | (simp; done))) | ((with_reducible refine keep_same (u := ?_) _ ?_); rotate_left) | ((with_reducible refine keep_setA _ ?_ ?_); (focus first | omega | (simp; done) | (simp; omega))) | ((with_reducible refine keep_below (w := ?_) ?_ ?_); rotate_left; (with_reducible assumption)))))))
      (first | (go_at_call 6; (with_reducible refine (TT.out _ (by repeat (first | with_reducible exact Below.refl _ _ | with_reducible assumption | (with_reducible refine Below.drew ?_) | (with_reducible refine below_drewN ?_ _) | ((with_reducible refine Below.alloc ?_ ?_ _); rotate_left; (focus first | exact Nat.le_refl _ | omega | (simp; done) | (simp; omega))) | ((with_reducible refine Below.setCell ?_ ?_ _); rotate_left; (focus first | exact Nat.le_refl _ | omega | (simp; done) | (simp; omega))) | ((with_reducible refine below_via (W := ?_) ?_ ?_ ?_); rotate_left; (with_reducible assumption); rotate_left; (focus first | exact Nat.le_refl _ | omega | (simp; done) | (simp; omega)))))).mono ?_); rintro e wa ⟨ga, rfl, oa, hba⟩; obtain ⟨hca, hfa⟩ := bcell hba; have Pa := Lib.hid oa.rd; clear oa; have sa := hba.size; (try simp at sa)) | (go_at_call 7; (with_reducible refine (toPoint _ _ _).mono ?_); rintro e w' ⟨rfl, rfl⟩) | (go_at_call 5; refine (SP.out _ ga (Rp.below (by repeat (first | with_reducible exact Below.refl _ _ | with_reducible assumption | (with_reducible refine Below.drew ?_) | (with_reducible refine below_drewN ?_ _) | ((with_reducible refine Below.alloc ?_ ?_ _); rotate_left; (focus first | exact Nat.le_refl _ | omega | (simp; done) | (simp; omega))) | ((with_reducible refine Below.setCell ?_ ?_ _); rotate_left; (focus first | exact Nat.le_refl _ | omega | (simp; done) | (simp; omega))) | ((with_reducible refine below_via (W := ?_) ?_ ?_ ?_); rotate_left; (with_reducible assumption); rotate_left; (focus first | exact Nat.le_refl _ | omega | (simp; done) | (simp; omega))))) Pa.out)).mono ?_; rintro e w2 ⟨rfl, hb2⟩; obtain ⟨hc2, hf2⟩ := bcell hb2; have s2 := hb2.size; (try simp at s2)))
    all_goals (try clear hc2 hf2 hca hfa)
    have t0 : w2.cell? ⟨w.heap.size, 0, none⟩ = some (.int .i64 x) := by (((try dsimp only); (repeat' apply And.intro) <;> (repeat (first | with_reducible assumption | (with_reducible refine keep_drew ?_) | (with_reducible refine keep_drewN ?_) | ((with_reducible refine keep_new _ _ _ _ _ _ ?_ ?_) <;> (first | rfl | (simp; done) | omega)) | (with_reducible refine keep_alloc _ ?_) | ((with_reducible refine keep_set _ ?_ ?_); (focus first | omega | (simp; done) | (simp; omega))) | ((with_reducible refine keep_set' _ ?_ ?_); (focus first | omega | (simp; done))) | ((with_reducible refine keep_same (u := ?_) _ ?_); rotate_left) | ((with_reducible refine keep_setA _ ?_ ?_); (focus first | omega | (simp; done) | (simp; omega))) | ((with_reducible refine keep_below (w := ?_) ?_ ?_); rotate_left; (with_reducible assumption))))))
    have t1 : w2.cell? ⟨w.heap.size, 1, none⟩ = some (.int .i64 y) := by (((try dsimp only); (repeat' apply And.intro) <;> (repeat (first | with_reducible assumption | (with_reducible refine keep_drew ?_) | (with_reducible refine keep_drewN ?_) | ((with_reducible refine keep_new _ _ _ _ _ _ ?_ ?_) <;> (first | rfl | (simp; done) | omega)) | (with_reducible refine keep_alloc _ ?_) | ((with_reducible refine keep_set _ ?_ ?_); (focus first | omega | (simp; done) | (simp; omega))) | ((with_reducible refine keep_set' _ ?_ ?_); (focus first | omega | (simp; done))) | ((with_reducible refine keep_same (u := ?_) _ ?_); rotate_left) | ((with_reducible refine keep_setA _ ?_ ?_); (focus first | omega | (simp; done) | (simp; omega))) | ((with_reducible refine keep_below (w := ?_) ?_ ?_); rotate_left; (with_reducible assumption))))))
    have B2 : Below w.heap.size w w2 := (by repeat (first | with_reducible exact Below.refl _ _ | with_reducible assumption | (with_reducible refine Below.drew ?_) | (with_reducible refine below_drewN ?_ _) | ((with_reducible refine Below.alloc ?_ ?_ _); rotate_left; (focus first | exact Nat.le_refl _ | omega | (simp; done) | (simp; omega))) | ((with_reducible refine Below.setCell ?_ ?_ _); rotate_left; (focus first | exact Nat.le_refl _ | omega | (simp; done) | (simp; omega))) | ((with_reducible refine below_via (W := ?_) ?_ ?_ ?_); rotate_left; (with_reducible assumption); rotate_left; (focus first | exact Nat.le_refl _ | omega | (simp; done) | (simp; omega)))))
    have l2 := World.block_lt_of_cell? _ _ t0
    clear hb2 s2 hba sa Pa
    go_wp2_with fail
    refine (TT.out _ B2).mono ?_
    rintro e w3 ⟨g3, rfl, o3, hb3⟩
    have P3 := Lib.hid o3.rd
    have t0' : w3.cell? ⟨w.heap.size, 0, none⟩ = some (.int .i64 x) := keep_below hb3 t0
    have t1' : w3.cell? ⟨w.heap.size, 1, none⟩ = some (.int .i64 y) := keep_below hb3 t1
    have B3 := below_via hb3 B2 B2.size
    have l3 := World.block_lt_of_cell? _ _ t0'
    clear hb3 o3 t0 t1 B2
    go_wp2_with (go_at_call 7; (with_reducible refine (toPoint _ _ _).mono ?_); rintro e w' ⟨rfl, rfl⟩)
    refine (IM.out _ g3 (Rp.below (by repeat (first | with_reducible exact Below.refl _ _ | with_reducible assumption | (with_reducible refine Below.drew ?_) | (with_reducible refine below_drewN ?_ _) | ((with_reducible refine Below.alloc ?_ ?_ _); rotate_left; (focus first | exact Nat.le_refl _ | omega | (simp; done) | (simp; omega))) | ((with_reducible refine Below.setCell ?_ ?_ _); rotate_left; (focus first | exact Nat.le_refl _ | omega | (simp; done) | (simp; omega))) | ((with_reducible refine below_via (W := ?_) ?_ ?_ ?_); rotate_left; (with_reducible assumption); rotate_left; (focus first | exact Nat.le_refl _ | omega | (simp; done) | (simp; omega))))) P3.out)).mono ?_
    rintro e w4 ⟨rfl, hb4⟩
    have Q4 : Hid (Rp w4 (some ⟨g3, 0, none⟩) n ps) := Lib.hid (Rp.below (by repeat (first | with_reducible exact Below.refl _ _ | with_reducible assumption | (with_reducible refine Below.drew ?_) | (with_reducible refine below_drewN ?_ _) | ((with_reducible refine Below.alloc ?_ ?_ _); rotate_left; (focus first | exact Nat.le_refl _ | omega | (simp; done) | (simp; omega))) | ((with_reducible refine Below.setCell ?_ ?_ _); rotate_left; (focus first | exact Nat.le_refl _ | omega | (simp; done) | (simp; omega))) | ((with_reducible refine below_via (W := ?_) ?_ ?_ ?_); rotate_left; (with_reducible assumption); rotate_left; (focus first | exact Nat.le_refl _ | omega | (simp; done) | (simp; omega))))) P3.out)
    have B4 : Below w.heap.size w w4 := (by repeat (first | with_reducible exact Below.refl _ _ | with_reducible assumption | (with_reducible refine Below.drew ?_) | (with_reducible refine below_drewN ?_ _) | ((with_reducible refine Below.alloc ?_ ?_ _); rotate_left; (focus first | exact Nat.le_refl _ | omega | (simp; done) | (simp; omega))) | ((with_reducible refine Below.setCell ?_ ?_ _); rotate_left; (focus first | exact Nat.le_refl _ | omega | (simp; done) | (simp; omega))) | ((with_reducible refine below_via (W := ?_) ?_ ?_ ?_); rotate_left; (with_reducible assumption); rotate_left; (focus first | exact Nat.le_refl _ | omega | (simp; done) | (simp; omega)))))
    clear hb4 B3 t0' t1'
    go_wp2_with fail
    refine (TT.out _ B4).mono ?_
    rintro e w5 ⟨g5, rfl, o5, hb5⟩
    have P5 := Lib.hid o5.rd
    have Q5 : Hid (Rp w5 (some ⟨g3, 0, none⟩) n ps) := Lib.hid (Rp.below hb5 Q4.out)
    have B5 := below_via hb5 B4 B4.size
    clear hb5 o5 Q4 B4
    go_wp2_with fail
    refine (eqPts _ _ n n n ps _ Q5.out P5.out kn).mono ?_
    rintro e w6 ⟨rfl, hb6⟩
    have B6 := below_via hb6 B5 B5.size
    go_wp2_with fail
    go_ret
    exact ⟨rfl, B6⟩
  · have q0 : szF n 1048576 = -1 := by unfold szF; rw [if_pos (by omega)]
    rw [q0] at Z0
    clear ra q0
    go_enter Try.func3, Try.ntmps3
    go_wp2_with fail
    refine (Z0.out _).mono ?_
    rintro e w' ⟨rfl, rfl⟩
    go_wp2_with fail
    go_ret
    exact ⟨rfl, (by repeat (first | with_reducible exact Below.refl _ _ | with_reducible assumption | (with_reducible refine Below.drew ?_) | (with_reducible refine below_drewN ?_ _) | ((with_reducible refine Below.alloc ?_ ?_ _); rotate_left; (focus first | exact Nat.le_refl _ | omega | (simp; done) | (simp; omega))) | ((with_reducible refine Below.setCell ?_ ?_ _); rotate_left; (focus first | exact Nat.le_refl _ | omega | (simp; done) | (simp; omega))) | ((with_reducible refine below_via (W := ?_) ?_ ?_ ?_); rotate_left; (with_reducible assumption); rotate_left; (focus first | exact Nat.le_refl _ | omega | (simp; done) | (simp; omega)))))⟩

end Go.Proofs.Ytbggickeomeidaa.LawNearestOf
