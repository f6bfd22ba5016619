/- FlatTerrain: the reference's and the program's. -/
import Derived.Test.YtpgjllpiefpjjaaWalkFT
import Derived.Test.YtpgjllpiefpjjaaWalkRp
import Derived.Deep.RegionHeld3
import Derived.Deep.RegionWith
import Derived.Deep.DeepCutAuto
namespace Go.Proofs.Ytpgjllpiefpjjaa.WalkFU
open Go Go.RowKit Go.Proofs.Ytpgjllpiefpjjaa.Base Go.Proofs.Ytpgjllpiefpjjaa.Plain Go.Proofs.Ytpgjllpiefpjjaa.Words Go.Proofs.Ytpgjllpiefpjjaa.Ints Go.Proofs.Ytpgjllpiefpjjaa.WalkN Go.Proofs.Ytpgjllpiefpjjaa.WalkP Go.Proofs.Ytpgjllpiefpjjaa.WalkI Go.Proofs.Ytpgjllpiefpjjaa.WalkU Go.Proofs.Ytpgjllpiefpjjaa.WalkV Go.Proofs.Ytpgjllpiefpjjaa.PlainT Go.Proofs.Ytpgjllpiefpjjaa.WalkQ Go.Proofs.Ytpgjllpiefpjjaa.WalkW Go.Proofs.Ytpgjllpiefpjjaa.WalkSG Go.Proofs.Ytpgjllpiefpjjaa.WalkSH Go.Proofs.Ytpgjllpiefpjjaa.WalkSI0 Go.Proofs.Ytpgjllpiefpjjaa.WalkFT Go.Proofs.Ytpgjllpiefpjjaa.WalkRp
set_option linter.unusedVariables false
set_option linter.unusedSimpArgs false

set_option maxHeartbeats 4000000 in
theorem specFlatT (s wd ht h : Int) (w : World) :
    Calls Try.prog 19 #[.int .i64 s, .int .i64 wd, .int .i64 ht, .int .i64 h] w (TerR (flatR s wd ht h) w) := by
  have S1 := Lib.hid (fun W => specSize s wd ht W)
  cases h1 : sizeB s wd ht
  · rw [show flatR s wd ht h = Ter.no 2 by unfold flatR; rw [h1]; rfl]
    rw [h1] at S1
    clear h1
    go_enter Try.func19, Try.ntmps19
    go_wp2_with (first | (go_at_call 47; refine (S1.out _).mono ?_; rintro e w' ⟨rfl, rfl⟩) | (go_at_call 43; refine (specIn _ _ _ _).mono ?_; rintro e w' ⟨rfl, rfl⟩) | (go_at_call 45; refine (implIn _ _ _ _).mono ?_; rintro e w' ⟨rfl, rfl⟩))
    exact bodyPost_ret (v := .tuple #[.agg #[.int .i64 0, .int .i64 0, .int .i64 0, .slice none 0 0, .slice none 0 0], .int .i64 2]) (by simp [results, Try.results19, go_sem]) rfl ⟨none, 0, none, 0, rfl, Ow.nil _ _, Ow.nil _ _, Ap.none_l _, (by repeat (first | with_reducible exact Below.refl _ _ | with_reducible assumption | (with_reducible refine Below.drew ?_) | (with_reducible refine below_drewN ?_ _) | ((with_reducible refine Below.alloc ?_ ?_ _); rotate_left; (focus first | exact Nat.le_refl _ | omega | (simp; done) | (simp; omega))) | ((with_reducible refine Below.setCell ?_ ?_ _); rotate_left; (focus first | exact Nat.le_refl _ | omega | (simp; done) | (simp; omega))) | ((with_reducible refine below_via (W := ?_) ?_ ?_ ?_); rotate_left; (with_reducible assumption); rotate_left; (focus first | exact Nat.le_refl _ | omega | (simp; done) | (simp; omega)))))⟩
  rw [h1] at S1
  cases h2 : inB h 0 90000
  · rw [show flatR s wd ht h = Ter.no 2 by unfold flatR; rw [h1, h2]; rfl]
    clear h1
    go_enter Try.func19, Try.ntmps19
    go_wp2_with (first | (go_at_call 47; refine (S1.out _).mono ?_; rintro e w' ⟨rfl, rfl⟩) | (go_at_call 43; refine (specIn _ _ _ _).mono ?_; rintro e w' ⟨rfl, rfl⟩) | (go_at_call 45; refine (implIn _ _ _ _).mono ?_; rintro e w' ⟨rfl, rfl⟩))
    exact bodyPost_ret (v := .tuple #[.agg #[.int .i64 0, .int .i64 0, .int .i64 0, .slice none 0 0, .slice none 0 0], .int .i64 2]) (by simp [results, Try.results19, go_sem]) rfl ⟨none, 0, none, 0, rfl, Ow.nil _ _, Ow.nil _ _, Ap.none_l _, (by repeat (first | with_reducible exact Below.refl _ _ | with_reducible assumption | (with_reducible refine Below.drew ?_) | (with_reducible refine below_drewN ?_ _) | ((with_reducible refine Below.alloc ?_ ?_ _); rotate_left; (focus first | exact Nat.le_refl _ | omega | (simp; done) | (simp; omega))) | ((with_reducible refine Below.setCell ?_ ?_ _); rotate_left; (focus first | exact Nat.le_refl _ | omega | (simp; done) | (simp; omega))) | ((with_reducible refine below_via (W := ?_) ?_ ?_ ?_); rotate_left; (with_reducible assumption); rotate_left; (focus first | exact Nat.le_refl _ | omega | (simp; done) | (simp; omega)))))⟩
  have tb := sizeB_yes h1
  rw [show flatR s wd ht h = ⟨s, wd, ht, 0, wd.toNat * ht.toNat, List.replicate (wd.toNat * ht.toNat) h, wd.toNat * ht.toNat, List.replicate (wd.toNat * ht.toNat) 0⟩ by unfold flatR; rw [h1, h2]; rfl]
  obtain ⟨wn, rfl⟩ : ∃ k : Nat, wd = (k : Int) := ⟨wd.toNat, by omega⟩
  obtain ⟨hn, rfl⟩ : ∃ k : Nat, ht = (k : Int) := ⟨ht.toNat, by omega⟩
  rw [Int.toNat_natCast, Int.toNat_natCast]
  obtain ⟨N, hN⟩ : ∃ N, wn * hn = N := ⟨_, rfl⟩
  have n576 : N ≤ 576 := by rw [← hN]; exact Nat.mul_le_mul (show wn ≤ 24 by omega) (show hn ≤ 24 by omega)
  have n4 : 0 < N := by rw [← hN]; exact Nat.mul_pos (by omega) (by omega)
  have F1 := Lib.hid (fun W => specFlat s h wn hn N W hN n4 n576)
  rw [hN]
  clear h1 tb hN
  go_enter Try.func19, Try.ntmps19
  go_wp2_with (first | (go_at_call 47; refine (S1.out _).mono ?_; rintro e w' ⟨rfl, rfl⟩) | (go_at_call 43; refine (specIn _ _ _ _).mono ?_; rintro e w' ⟨rfl, rfl⟩) | (go_at_call 45; refine (implIn _ _ _ _).mono ?_; rintro e w' ⟨rfl, rfl⟩))
  refine (F1.out _).mono ?_
  rintro e w2 ⟨P, p, Q, q, rfl, ho, ho2, ap, hb⟩
  have z2 := hb.size
  (try simp at z2)
  have HR : Blk w2 w.heap.size 40 #[.int .i64 0, .int .i64 0, .int .i64 0, .slice none 0 0, .slice none 0 0] := by (repeat (first | with_reducible assumption | (with_reducible refine Blk.drew ?_) | (with_reducible refine Blk.drewN ?_ _) | ((with_reducible refine Blk.new _ _ _ ?_); (focus first | rfl | (simp; done) | omega)) | (with_reducible refine Blk.alloc ?_ _) | ((with_reducible refine Blk.far ?_ _ ?_); rotate_left; (focus first | omega | (simp; done) | (simp; omega))) | ((with_reducible refine Blk.below (w := ?_) ?_ ?_); rotate_left; (with_reducible assumption))))
  have BB := Lib.hid (show Below w.heap.size w w2 from (by repeat (first | with_reducible exact Below.refl _ _ | with_reducible assumption | (with_reducible refine Below.drew ?_) | (with_reducible refine below_drewN ?_ _) | ((with_reducible refine Below.alloc ?_ ?_ _); rotate_left; (focus first | exact Nat.le_refl _ | omega | (simp; done) | (simp; omega))) | ((with_reducible refine Below.setCell ?_ ?_ _); rotate_left; (focus first | exact Nat.le_refl _ | omega | (simp; done) | (simp; omega))) | ((with_reducible refine below_via (W := ?_) ?_ ?_ ?_); rotate_left; (with_reducible assumption); rotate_left; (focus first | exact Nat.le_refl _ | omega | (simp; done) | (simp; omega))))))
  have r0 := HR.cell 0
  have r1 := HR.cell 1
  have r2 := HR.cell 2
  have r3 := HR.cell 3
  have r4 := HR.cell 4
  have v0 := HR.free 0
  have v1 := HR.free 1
  have v2 := HR.free 2
  have v3 := HR.free 3
  have v4 := HR.free 4
  simp at r0 r1 r2 r3 r4
  have HO := Lib.hid (Ow.lower ho (show w.heap.size + 1 ≤ _ by simp))
  have HO2 := Lib.hid (Ow.lower ho2 (show w.heap.size + 1 ≤ _ by simp))
  have AP := Lib.hid ap
  clear ho ho2 ap hb HR
  go_wp2_with fail
  refine ret_world fun W hW => ?_
  obtain ⟨c0, c1, c2, c3, c4⟩ := box5n r0 r1 r2 r3 r4 hW
  have hB := box5n_below BB.out (Nat.le_refl _) hW
  refine bodyPost_ret (v := .tuple #[.agg #[.int .i64 s, .int .i64 (wn : Int), .int .i64 (hn : Int), .slice P N p, .slice Q N q], .int .i64 0]) (by simp [results, Try.results19, go_sem, c0, c1, c2, c3, c4]) rfl ⟨P, p, Q, q, rfl, ?_, ?_, AP.out, hB⟩
  · rw [hW]
    exact Ow.lower (Ow.low _ (by omega) (Ow.low _ (by omega) (Ow.low _ (by omega) (Ow.low _ (by omega) (Ow.low _ (by omega) HO.out))))) (by omega)
  · rw [hW]
    exact Ow.lower (Ow.low _ (by omega) (Ow.low _ (by omega) (Ow.low _ (by omega) (Ow.low _ (by omega) (Ow.low _ (by omega) HO2.out))))) (by omega)

set_option maxHeartbeats 8000000 in
theorem implFlatT (s wd ht h : Int) (w : World) :
    Calls Try.prog 20 #[.int .i64 s, .int .i64 wd, .int .i64 ht, .int .i64 h] w (TerR (flatR s wd ht h) w) := by
  have S1 := Lib.hid (fun W => implSize s wd ht W)
  cases h1 : sizeB s wd ht
  · rw [show flatR s wd ht h = Ter.no 2 by unfold flatR; rw [h1]; rfl]
    rw [h1] at S1
    clear h1
    go_enter Try.func20, Try.ntmps20
    go_wp2_with (first | (go_at_call 49; refine (S1.out _).mono ?_; rintro e w' ⟨rfl, rfl⟩) | (go_at_call 43; refine (specIn _ _ _ _).mono ?_; rintro e w' ⟨rfl, rfl⟩) | (go_at_call 45; refine (implIn _ _ _ _).mono ?_; rintro e w' ⟨rfl, rfl⟩))
    exact bodyPost_ret (v := .tuple #[.agg #[.int .i64 0, .int .i64 0, .int .i64 0, .slice none 0 0, .slice none 0 0], .int .i64 2]) (by simp [results, Try.results20, go_sem]) rfl ⟨none, 0, none, 0, rfl, Ow.nil _ _, Ow.nil _ _, Ap.none_l _, (by repeat (first | with_reducible exact Below.refl _ _ | with_reducible assumption | (with_reducible refine Below.drew ?_) | (with_reducible refine below_drewN ?_ _) | ((with_reducible refine Below.alloc ?_ ?_ _); rotate_left; (focus first | exact Nat.le_refl _ | omega | (simp; done) | (simp; omega))) | ((with_reducible refine Below.setCell ?_ ?_ _); rotate_left; (focus first | exact Nat.le_refl _ | omega | (simp; done) | (simp; omega))) | ((with_reducible refine below_via (W := ?_) ?_ ?_ ?_); rotate_left; (with_reducible assumption); rotate_left; (focus first | exact Nat.le_refl _ | omega | (simp; done) | (simp; omega)))))⟩
  rw [h1] at S1
  cases h2 : inB h 0 90000
  · rw [show flatR s wd ht h = Ter.no 2 by unfold flatR; rw [h1, h2]; rfl]
    clear h1
    go_enter Try.func20, Try.ntmps20
    go_wp2_with (first | (go_at_call 49; refine (S1.out _).mono ?_; rintro e w' ⟨rfl, rfl⟩) | (go_at_call 43; refine (specIn _ _ _ _).mono ?_; rintro e w' ⟨rfl, rfl⟩) | (go_at_call 45; refine (implIn _ _ _ _).mono ?_; rintro e w' ⟨rfl, rfl⟩))
    exact bodyPost_ret (v := .tuple #[.agg #[.int .i64 0, .int .i64 0, .int .i64 0, .slice none 0 0, .slice none 0 0], .int .i64 2]) (by simp [results, Try.results20, go_sem]) rfl ⟨none, 0, none, 0, rfl, Ow.nil _ _, Ow.nil _ _, Ap.none_l _, (by repeat (first | with_reducible exact Below.refl _ _ | with_reducible assumption | (with_reducible refine Below.drew ?_) | (with_reducible refine below_drewN ?_ _) | ((with_reducible refine Below.alloc ?_ ?_ _); rotate_left; (focus first | exact Nat.le_refl _ | omega | (simp; done) | (simp; omega))) | ((with_reducible refine Below.setCell ?_ ?_ _); rotate_left; (focus first | exact Nat.le_refl _ | omega | (simp; done) | (simp; omega))) | ((with_reducible refine below_via (W := ?_) ?_ ?_ ?_); rotate_left; (with_reducible assumption); rotate_left; (focus first | exact Nat.le_refl _ | omega | (simp; done) | (simp; omega)))))⟩
  have tb := sizeB_yes h1
  rw [show flatR s wd ht h = ⟨s, wd, ht, 0, wd.toNat * ht.toNat, List.replicate (wd.toNat * ht.toNat) h, wd.toNat * ht.toNat, List.replicate (wd.toNat * ht.toNat) 0⟩ by unfold flatR; rw [h1, h2]; rfl]
  obtain ⟨wn, rfl⟩ : ∃ k : Nat, wd = (k : Int) := ⟨wd.toNat, by omega⟩
  obtain ⟨hn, rfl⟩ : ∃ k : Nat, ht = (k : Int) := ⟨ht.toNat, by omega⟩
  rw [Int.toNat_natCast, Int.toNat_natCast]
  obtain ⟨N, hN⟩ : ∃ N, wn * hn = N := ⟨_, rfl⟩
  have n576 : N ≤ 576 := by rw [← hN]; exact Nat.mul_le_mul (show wn ≤ 24 by omega) (show hn ≤ 24 by omega)
  have n4 : 0 < N := by rw [← hN]; exact Nat.mul_pos (by omega) (by omega)
  have e1 : (wn : Int) * (hn : Int) = (N : Int) := by rw [← hN, Int.natCast_mul]
  have e2 : IntKind.i64.wrap (N : Int) = (N : Int) := IntWalk.i64_in _ (by omega)
  have hmk := made N (by omega)
  have R1 := Lib.hid (fun (ad : Addr) W (hc : W.cell? ad = some (.int .i64 h)) => repeat1 ad 1 N h W hc (by omega) n576)
  rw [hN]
  clear h1 tb hN
  go_enter Try.func20, Try.ntmps20
  go_upto_region 4 with (first | (go_at_call 49; refine (S1.out _).mono ?_; rintro e w' ⟨rfl, rfl⟩) | (go_at_call 43; refine (specIn _ _ _ _).mono ?_; rintro e w' ⟨rfl, rfl⟩) | (go_at_call 45; refine (implIn _ _ _ _).mono ?_; rintro e w' ⟨rfl, rfl⟩))
  go_region_with (go_at_call 50; refine (R1.out _ _ ?_).mono ?_; (focus (((try dsimp only); (repeat' apply And.intro) <;> (repeat (first | with_reducible assumption | (with_reducible refine keep_drew ?_) | (with_reducible refine keep_drewN ?_) | ((with_reducible refine keep_new _ _ _ _ _ _ ?_ ?_) <;> (first | rfl | (simp; done) | omega)) | (with_reducible refine keep_alloc _ ?_) | ((with_reducible refine keep_set _ ?_ ?_); (focus first | omega | (simp; done) | (simp; omega))) | ((with_reducible refine keep_set' _ ?_ ?_); (focus first | omega | (simp; done))) | ((with_reducible refine keep_same (u := ?_) _ ?_); rotate_left) | ((with_reducible refine keep_setA _ ?_ ?_); (focus first | omega | (simp; done) | (simp; omega))) | ((with_reducible refine keep_below (w := ?_) ?_ ?_); rotate_left; (with_reducible assumption))))))); rintro e w2 ⟨P, p, rfl, ho, hb⟩; have z2 := hb.size; (try simp at z2); have HO := Lib.hid ho; have HBR := Lib.hid hb; have lw : w.heap.size < w2.heap.size := (by omega); have KR : Blk w2 w.heap.size 40 #[.int .i64 0, .int .i64 0, .int .i64 0, .slice none 0 0, .slice none 0 0] := (by (repeat (first | with_reducible assumption | (with_reducible refine Blk.drew ?_) | (with_reducible refine Blk.drewN ?_ _) | ((with_reducible refine Blk.new _ _ _ ?_); (focus first | rfl | (simp; done) | omega)) | (with_reducible refine Blk.alloc ?_ _) | ((with_reducible refine Blk.far ?_ _ ?_); rotate_left; (focus first | omega | (simp; done) | (simp; omega))) | ((with_reducible refine Blk.below (w := ?_) ?_ ?_); rotate_left; (with_reducible assumption))))); have r0 := KR.cell 0; have r1 := KR.cell 1; have r2 := KR.cell 2; have r3 := KR.cell 3; have r4 := KR.cell 4; have v0 := KR.free 0; have v1 := KR.free 1; have v2 := KR.free 2; have v3 := KR.free 3; have v4 := KR.free 4; simp at r0 r1 r2 r3 r4; have HKR := Lib.hid KR; clear ho hb KR)
  all_goals (go_wp2_with fail)
  · clear v0 v1 v2 v3 v4
    have BW : Below w.heap.size w w2 := by have hbb := HBR.out; clear HBR HO; exact (by repeat (first | with_reducible exact Below.refl _ _ | with_reducible assumption | (with_reducible refine Below.drew ?_) | (with_reducible refine below_drewN ?_ _) | ((with_reducible refine Below.alloc ?_ ?_ _); rotate_left; (focus first | exact Nat.le_refl _ | omega | (simp; done) | (simp; omega))) | ((with_reducible refine Below.setCell ?_ ?_ _); rotate_left; (focus first | exact Nat.le_refl _ | omega | (simp; done) | (simp; omega))) | ((with_reducible refine below_via (W := ?_) ?_ ?_ ?_); rotate_left; (with_reducible assumption); rotate_left; (focus first | exact Nat.le_refl _ | omega | (simp; done) | (simp; omega)))))
    have hbl := fun (x : Addr) (hx : P = some x) => HO.out.block hx
    have ho : Ow w2 (w.heap.size + 1) P N p (List.replicate N h) := Ow.lower HO.out (by simp)
    refine ret_world fun W hW => ?_
    obtain ⟨c0, c1, c2, c3, c4⟩ := box5 _ r0 r1 r2 r3 r4 hW
    have hB := box5_below _ BW (Nat.le_refl _) BW.size hW
    have N1 : Ow W w.heap.size P N p (List.replicate N h) := by
      rw [hW]
      exact Ow.lower (Ow.alloc (Ow.low _ (by omega) (Ow.low _ (by omega) (Ow.low _ (by omega) (Ow.low _ (by omega) (Ow.low _ (by omega) ho))))) _) (by omega)
    have KW : Blk W (w2.heap.size) 2 (madeCells #[.int .i64 0] N) := by
      rw [hW]
      exact Blk.new _ _ _ (by simp)
    have N2 : Ow W w.heap.size (some ⟨w2.heap.size, 0, none⟩) N N (List.replicate N 0) := Ow.of_cells (by omega) KW (size_madeCells _ _) (fun j hj => by rw [rep_get hj]; exact made_get hj) (by simp) (by unfold maxLen; omega)
    clear hW
    exact bodyPost_ret (v := .tuple #[.agg #[.int .i64 s, .int .i64 (wn : Int), .int .i64 (hn : Int), .slice P N p, .slice (some ⟨w2.heap.size, 0, none⟩) N N], .int .i64 0]) (by simp [results, Try.results20, go_sem, c0, c1, c2, c3, c4]) rfl ⟨P, p, _, N, rfl, N1, N2, fun x y hx hy => by injection hy with hy; subst hy; have q := hbl x hx; simp at q; show x.block ≠ w2.heap.size; omega, hB⟩
  · clear v0 v1 v2 v3 v4
    have BW : Below w.heap.size w w2 := by have hbb := HBR.out; clear HBR HO; exact (by repeat (first | with_reducible exact Below.refl _ _ | with_reducible assumption | (with_reducible refine Below.drew ?_) | (with_reducible refine below_drewN ?_ _) | ((with_reducible refine Below.alloc ?_ ?_ _); rotate_left; (focus first | exact Nat.le_refl _ | omega | (simp; done) | (simp; omega))) | ((with_reducible refine Below.setCell ?_ ?_ _); rotate_left; (focus first | exact Nat.le_refl _ | omega | (simp; done) | (simp; omega))) | ((with_reducible refine below_via (W := ?_) ?_ ?_ ?_); rotate_left; (with_reducible assumption); rotate_left; (focus first | exact Nat.le_refl _ | omega | (simp; done) | (simp; omega)))))
    have hbl := fun (x : Addr) (hx : P = some x) => HO.out.block hx
    have ho : Ow w2 (w.heap.size + 1) P N p (List.replicate N h) := Ow.lower HO.out (by simp)
    have KS : Blk w2 (w.heap.size + 1 + 1) 2 (madeCells #[.int .i64 0] N) := by have hbb := HBR.out; exact (by (repeat (first | with_reducible assumption | (with_reducible refine Blk.drew ?_) | (with_reducible refine Blk.drewN ?_ _) | ((with_reducible refine Blk.new _ _ _ ?_); (focus first | rfl | (simp; done) | omega)) | (with_reducible refine Blk.alloc ?_ _) | ((with_reducible refine Blk.far ?_ _ ?_); rotate_left; (focus first | omega | (simp; done) | (simp; omega))) | ((with_reducible refine Blk.below (w := ?_) ?_ ?_); rotate_left; (with_reducible assumption)))))
    refine ret_world fun W hW => ?_
    obtain ⟨c0, c1, c2, c3, c4⟩ := box5n r0 r1 r2 r3 r4 hW
    have hB := box5n_below BW (Nat.le_refl _) hW
    have N1 : Ow W w.heap.size P N p (List.replicate N h) := by
      rw [hW]
      exact Ow.lower (Ow.low _ (by omega) (Ow.low _ (by omega) (Ow.low _ (by omega) (Ow.low _ (by omega) (Ow.low _ (by omega) ho))))) (by omega)
    have KW : Blk W (w.heap.size + 1 + 1) 2 (madeCells #[.int .i64 0] N) := by
      rw [hW]
      exact ((((KS.far _ (by omega)).far _ (by omega)).far _ (by omega)).far _ (by omega)).far _ (by omega)
    have N2 : Ow W w.heap.size (some ⟨w.heap.size + 1 + 1, 0, none⟩) N N (List.replicate N 0) := Ow.of_cells (by omega) KW (size_madeCells _ _) (fun j hj => by rw [rep_get hj]; exact made_get hj) (by simp) (by unfold maxLen; omega)
    clear hW
    exact bodyPost_ret (v := .tuple #[.agg #[.int .i64 s, .int .i64 (wn : Int), .int .i64 (hn : Int), .slice P N p, .slice (some ⟨w.heap.size + 1 + 1, 0, none⟩) N N], .int .i64 0]) (by simp [results, Try.results20, go_sem, c0, c1, c2, c3, c4]) rfl ⟨P, p, _, N, rfl, N1, N2, fun x y hx hy => by injection hy with hy; subst hy; have q := hbl x hx; simp at q; show x.block ≠ w.heap.size + 1 + 1; omega, hB⟩
  · clear v0 v1 v2 v3 v4
    have BW : Below w.heap.size w w2 := by have hbb := HBR.out; clear HBR HO; exact (by repeat (first | with_reducible exact Below.refl _ _ | with_reducible assumption | (with_reducible refine Below.drew ?_) | (with_reducible refine below_drewN ?_ _) | ((with_reducible refine Below.alloc ?_ ?_ _); rotate_left; (focus first | exact Nat.le_refl _ | omega | (simp; done) | (simp; omega))) | ((with_reducible refine Below.setCell ?_ ?_ _); rotate_left; (focus first | exact Nat.le_refl _ | omega | (simp; done) | (simp; omega))) | ((with_reducible refine below_via (W := ?_) ?_ ?_ ?_); rotate_left; (with_reducible assumption); rotate_left; (focus first | exact Nat.le_refl _ | omega | (simp; done) | (simp; omega)))))
    have hbl := fun (x : Addr) (hx : P = some x) => HO.out.block hx
    have ho : Ow w2 (w.heap.size + 1) P N p (List.replicate N h) := Ow.lower HO.out (by simp)
    have KS : Blk w2 (w.heap.size + 1) 2 (madeCells #[.int .i64 0] N) := by have hbb := HBR.out; exact (by (repeat (first | with_reducible assumption | (with_reducible refine Blk.drew ?_) | (with_reducible refine Blk.drewN ?_ _) | ((with_reducible refine Blk.new _ _ _ ?_); (focus first | rfl | (simp; done) | omega)) | (with_reducible refine Blk.alloc ?_ _) | ((with_reducible refine Blk.far ?_ _ ?_); rotate_left; (focus first | omega | (simp; done) | (simp; omega))) | ((with_reducible refine Blk.below (w := ?_) ?_ ?_); rotate_left; (with_reducible assumption)))))
    refine ret_world fun W hW => ?_
    obtain ⟨c0, c1, c2, c3, c4⟩ := box5n r0 r1 r2 r3 r4 hW
    have hB := box5n_below BW (Nat.le_refl _) hW
    have N1 : Ow W w.heap.size P N p (List.replicate N h) := by
      rw [hW]
      exact Ow.lower (Ow.low _ (by omega) (Ow.low _ (by omega) (Ow.low _ (by omega) (Ow.low _ (by omega) (Ow.low _ (by omega) ho))))) (by omega)
    have KW : Blk W (w.heap.size + 1) 2 (madeCells #[.int .i64 0] N) := by
      rw [hW]
      exact ((((KS.far _ (by omega)).far _ (by omega)).far _ (by omega)).far _ (by omega)).far _ (by omega)
    have N2 : Ow W w.heap.size (some ⟨w.heap.size + 1, 0, none⟩) N N (List.replicate N 0) := Ow.of_cells (by omega) KW (size_madeCells _ _) (fun j hj => by rw [rep_get hj]; exact made_get hj) (by simp) (by unfold maxLen; omega)
    clear hW
    exact bodyPost_ret (v := .tuple #[.agg #[.int .i64 s, .int .i64 (wn : Int), .int .i64 (hn : Int), .slice P N p, .slice (some ⟨w.heap.size + 1, 0, none⟩) N N], .int .i64 0]) (by simp [results, Try.results20, go_sem, c0, c1, c2, c3, c4]) rfl ⟨P, p, _, N, rfl, N1, N2, fun x y hx hy => by injection hy with hy; subst hy; have q := hbl x hx; simp at q; show x.block ≠ w.heap.size + 1; omega, hB⟩

end Go.Proofs.Ytpgjllpiefpjjaa.WalkFU
