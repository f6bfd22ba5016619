/- CropTerrain of the program: the walk. -/
import Derived.Test.YtpgjllpiefpjjaaWalkCT
import Derived.Test.YtpgjllpiefpjjaaWalkSI0
import Derived.Deep.RegionHeld3
import Derived.Deep.RegionWith
import Derived.Deep.RegionLaw
import Derived.Deep.DeepCutAuto
namespace Go.Proofs.Ytpgjllpiefpjjaa.WalkCU
open Go Go.RowKit Go.Proofs.Ytpgjllpiefpjjaa.Base Go.Proofs.Ytpgjllpiefpjjaa.Plain Go.Proofs.Ytpgjllpiefpjjaa.Words Go.Proofs.Ytpgjllpiefpjjaa.Ints Go.Proofs.Ytpgjllpiefpjjaa.WalkN Go.Proofs.Ytpgjllpiefpjjaa.WalkP Go.Proofs.Ytpgjllpiefpjjaa.WalkI Go.Proofs.Ytpgjllpiefpjjaa.WalkU Go.Proofs.Ytpgjllpiefpjjaa.PlainT Go.Proofs.Ytpgjllpiefpjjaa.WalkQ Go.Proofs.Ytpgjllpiefpjjaa.WalkW Go.Proofs.Ytpgjllpiefpjjaa.WalkSH Go.Proofs.Ytpgjllpiefpjjaa.WalkAp Go.Proofs.Ytpgjllpiefpjjaa.WalkCT Go.Proofs.Ytpgjllpiefpjjaa.WalkSI0
set_option linter.unusedVariables false
set_option linter.unusedSimpArgs false

set_option maxHeartbeats 8000000 in
theorem implCrop (s wd ht : Int) (A B : Option Addr) (n c m d : Nat) (hs cs : List Int) (x y a b : Int) (w : World) (ra : Rd w A n hs) (rb : Rd w B m cs) (hn : n ≤ maxLen) (hm : m ≤ maxLen) (nc : n ≤ c) (md : m ≤ d) :
    Calls Try.prog 27 #[.agg #[.int .i64 s, .int .i64 wd, .int .i64 ht, .slice A n c, .slice B m d], .int .i64 x, .int .i64 y, .int .i64 a, .int .i64 b] w (TerR (cropR s wd ht n m hs cs x y a b) w) := by
  have A1 := Lib.hid (fun W (hb : Below w.heap.size w W) => implTer s wd ht A B n c m d hs cs W (Rd.below hb ra) (Rd.below hb rb) hn hm)
  cases h1 : terB s wd ht n m hs cs
  · rw [show cropR s wd ht n m hs cs x y a b = Ter.no 1 by unfold cropR; rw [h1]; rfl]
    rw [h1] at A1
    clear h1 ra rb
    go_enter Try.func27, Try.ntmps27
    go_wp2_with fail
    refine (A1.out _ (by repeat (first | with_reducible exact Below.refl _ _ | with_reducible assumption | (with_reducible refine Below.drew ?_) | (with_reducible refine below_drewN ?_ _) | ((with_reducible refine Below.alloc ?_ ?_ _); rotate_left; (focus first | exact Nat.le_refl _ | omega | (simp; done) | (simp; omega))) | ((with_reducible refine Below.setCell ?_ ?_ _); rotate_left; (focus first | exact Nat.le_refl _ | omega | (simp; done) | (simp; omega))) | ((with_reducible refine below_via (W := ?_) ?_ ?_ ?_); rotate_left; (with_reducible assumption); rotate_left; (focus first | exact Nat.le_refl _ | omega | (simp; done) | (simp; omega)))))).mono ?_
    rintro e w3 ⟨rfl, hb1⟩
    have s1 := hb1.size
    simp at s1
    have KP : Blk w3 w.heap.size 40 #[.int .i64 s, .int .i64 wd, .int .i64 ht, .slice A n c, .slice B m d] := by (repeat (first | with_reducible assumption | (with_reducible refine Blk.drew ?_) | (with_reducible refine Blk.drewN ?_ _) | ((with_reducible refine Blk.new _ _ _ ?_); (focus first | rfl | (simp; done) | omega)) | (with_reducible refine Blk.alloc ?_ _) | ((with_reducible refine Blk.far ?_ _ ?_); rotate_left; (focus first | omega | (simp; done) | (simp; omega))) | ((with_reducible refine Blk.below (w := ?_) ?_ ?_); rotate_left; (with_reducible assumption))))
    have KR : Blk w3 (w.heap.size + 1) 40 #[.int .i64 0, .int .i64 0, .int .i64 0, .slice none 0 0, .slice none 0 0] := by (repeat (first | with_reducible assumption | (with_reducible refine Blk.drew ?_) | (with_reducible refine Blk.drewN ?_ _) | ((with_reducible refine Blk.new _ _ _ ?_); (focus first | rfl | (simp; done) | omega)) | (with_reducible refine Blk.alloc ?_ _) | ((with_reducible refine Blk.far ?_ _ ?_); rotate_left; (focus first | omega | (simp; done) | (simp; omega))) | ((with_reducible refine Blk.below (w := ?_) ?_ ?_); rotate_left; (with_reducible assumption))))
    have B1 : Below w.heap.size w w3 := (by repeat (first | with_reducible exact Below.refl _ _ | with_reducible assumption | (with_reducible refine Below.drew ?_) | (with_reducible refine below_drewN ?_ _) | ((with_reducible refine Below.alloc ?_ ?_ _); rotate_left; (focus first | exact Nat.le_refl _ | omega | (simp; done) | (simp; omega))) | ((with_reducible refine Below.setCell ?_ ?_ _); rotate_left; (focus first | exact Nat.le_refl _ | omega | (simp; done) | (simp; omega))) | ((with_reducible refine below_via (W := ?_) ?_ ?_ ?_); rotate_left; (with_reducible assumption); rotate_left; (focus first | exact Nat.le_refl _ | omega | (simp; done) | (simp; omega)))))
    have p1 := KP.cell 1
    have p2 := KP.cell 2
    have r0 := KR.cell 0
    have r1 := KR.cell 1
    have r2 := KR.cell 2
    have r3 := KR.cell 3
    have r4 := KR.cell 4
    have v0 := KR.free 0
    have v1 := KR.free 1
    have v2 := KR.free 2
    have v3 := KR.free 3
    have v4 := KR.free 4
    simp at r0 r1 r2 r3 r4 p1 p2
    clear hb1 KR KP A1
    go_wp2_with fail
    exact bodyPost_ret (v := .tuple #[.agg #[.int .i64 0, .int .i64 0, .int .i64 0, .slice none 0 0, .slice none 0 0], .int .i64 1]) (by simp [results, Try.results27, go_sem, r0, r1, r2, r3, r4]) rfl ⟨none, 0, none, 0, rfl, Ow.nil _ _, Ow.nil _ _, Ap.none_l _, (by repeat (first | with_reducible exact Below.refl _ _ | with_reducible assumption | (with_reducible refine Below.drew ?_) | (with_reducible refine below_drewN ?_ _) | ((with_reducible refine Below.alloc ?_ ?_ _); rotate_left; (focus first | exact Nat.le_refl _ | omega | (simp; done) | (simp; omega))) | ((with_reducible refine Below.setCell ?_ ?_ _); rotate_left; (focus first | exact Nat.le_refl _ | omega | (simp; done) | (simp; omega))) | ((with_reducible refine below_via (W := ?_) ?_ ?_ ?_); rotate_left; (with_reducible assumption); rotate_left; (focus first | exact Nat.le_refl _ | omega | (simp; done) | (simp; omega)))))⟩
  have tb := sizeB_yes (ter_yes h1).1
  rw [h1] at A1
  cases hin : cropB wd ht x y a b
  · rw [show cropR s wd ht n m hs cs x y a b = Ter.no 2 by unfold cropR; rw [h1, hin]; rfl]
    have hor := crop_no hin
    clear h1 ra rb hin
    rcases hor with h2 | ⟨h2, h3⟩ | ⟨h2, h3, h4⟩ | ⟨h2, h3, h4, h5⟩
    case inr.inr.inl =>
      have ba := inB_yes h2
      have w1 : IntKind.i64.wrap (wd - a) = wd - a := IntWalk.i64_in _ (by omega)
      clear tb ba
      go_enter Try.func27, Try.ntmps27
      go_wp2_with fail
      refine (A1.out _ (by repeat (first | with_reducible exact Below.refl _ _ | with_reducible assumption | (with_reducible refine Below.drew ?_) | (with_reducible refine below_drewN ?_ _) | ((with_reducible refine Below.alloc ?_ ?_ _); rotate_left; (focus first | exact Nat.le_refl _ | omega | (simp; done) | (simp; omega))) | ((with_reducible refine Below.setCell ?_ ?_ _); rotate_left; (focus first | exact Nat.le_refl _ | omega | (simp; done) | (simp; omega))) | ((with_reducible refine below_via (W := ?_) ?_ ?_ ?_); rotate_left; (with_reducible assumption); rotate_left; (focus first | exact Nat.le_refl _ | omega | (simp; done) | (simp; omega)))))).mono ?_
      rintro e w3 ⟨rfl, hb1⟩
      have s1 := hb1.size
      simp at s1
      have KP : Blk w3 w.heap.size 40 #[.int .i64 s, .int .i64 wd, .int .i64 ht, .slice A n c, .slice B m d] := by (repeat (first | with_reducible assumption | (with_reducible refine Blk.drew ?_) | (with_reducible refine Blk.drewN ?_ _) | ((with_reducible refine Blk.new _ _ _ ?_); (focus first | rfl | (simp; done) | omega)) | (with_reducible refine Blk.alloc ?_ _) | ((with_reducible refine Blk.far ?_ _ ?_); rotate_left; (focus first | omega | (simp; done) | (simp; omega))) | ((with_reducible refine Blk.below (w := ?_) ?_ ?_); rotate_left; (with_reducible assumption))))
      have KR : Blk w3 (w.heap.size + 1) 40 #[.int .i64 0, .int .i64 0, .int .i64 0, .slice none 0 0, .slice none 0 0] := by (repeat (first | with_reducible assumption | (with_reducible refine Blk.drew ?_) | (with_reducible refine Blk.drewN ?_ _) | ((with_reducible refine Blk.new _ _ _ ?_); (focus first | rfl | (simp; done) | omega)) | (with_reducible refine Blk.alloc ?_ _) | ((with_reducible refine Blk.far ?_ _ ?_); rotate_left; (focus first | omega | (simp; done) | (simp; omega))) | ((with_reducible refine Blk.below (w := ?_) ?_ ?_); rotate_left; (with_reducible assumption))))
      have B1 : Below w.heap.size w w3 := (by repeat (first | with_reducible exact Below.refl _ _ | with_reducible assumption | (with_reducible refine Below.drew ?_) | (with_reducible refine below_drewN ?_ _) | ((with_reducible refine Below.alloc ?_ ?_ _); rotate_left; (focus first | exact Nat.le_refl _ | omega | (simp; done) | (simp; omega))) | ((with_reducible refine Below.setCell ?_ ?_ _); rotate_left; (focus first | exact Nat.le_refl _ | omega | (simp; done) | (simp; omega))) | ((with_reducible refine below_via (W := ?_) ?_ ?_ ?_); rotate_left; (with_reducible assumption); rotate_left; (focus first | exact Nat.le_refl _ | omega | (simp; done) | (simp; omega)))))
      have p1 := KP.cell 1
      have p2 := KP.cell 2
      have r0 := KR.cell 0
      have r1 := KR.cell 1
      have r2 := KR.cell 2
      have r3 := KR.cell 3
      have r4 := KR.cell 4
      have v0 := KR.free 0
      have v1 := KR.free 1
      have v2 := KR.free 2
      have v3 := KR.free 3
      have v4 := KR.free 4
      simp at r0 r1 r2 r3 r4 p1 p2
      clear hb1 KR KP A1
      go_wp2_with (first | (go_at_call 43; refine (specIn _ _ _ _).mono ?_; rintro e w' ⟨rfl, rfl⟩) | (go_at_call 45; refine (implIn _ _ _ _).mono ?_; rintro e w' ⟨rfl, rfl⟩))
      exact bodyPost_ret (v := .tuple #[.agg #[.int .i64 0, .int .i64 0, .int .i64 0, .slice none 0 0, .slice none 0 0], .int .i64 2]) (by simp [results, Try.results27, go_sem, r0, r1, r2, r3, r4]) rfl ⟨none, 0, none, 0, rfl, Ow.nil _ _, Ow.nil _ _, Ap.none_l _, (by repeat (first | with_reducible exact Below.refl _ _ | with_reducible assumption | (with_reducible refine Below.drew ?_) | (with_reducible refine below_drewN ?_ _) | ((with_reducible refine Below.alloc ?_ ?_ _); rotate_left; (focus first | exact Nat.le_refl _ | omega | (simp; done) | (simp; omega))) | ((with_reducible refine Below.setCell ?_ ?_ _); rotate_left; (focus first | exact Nat.le_refl _ | omega | (simp; done) | (simp; omega))) | ((with_reducible refine below_via (W := ?_) ?_ ?_ ?_); rotate_left; (with_reducible assumption); rotate_left; (focus first | exact Nat.le_refl _ | omega | (simp; done) | (simp; omega)))))⟩
    case inr.inr.inr =>
      have ba := inB_yes h2
      have bb := inB_yes h3
      have w1 : IntKind.i64.wrap (wd - a) = wd - a := IntWalk.i64_in _ (by omega)
      have w2 : IntKind.i64.wrap (ht - b) = ht - b := IntWalk.i64_in _ (by omega)
      clear tb ba bb
      go_enter Try.func27, Try.ntmps27
      go_wp2_with fail
      refine (A1.out _ (by repeat (first | with_reducible exact Below.refl _ _ | with_reducible assumption | (with_reducible refine Below.drew ?_) | (with_reducible refine below_drewN ?_ _) | ((with_reducible refine Below.alloc ?_ ?_ _); rotate_left; (focus first | exact Nat.le_refl _ | omega | (simp; done) | (simp; omega))) | ((with_reducible refine Below.setCell ?_ ?_ _); rotate_left; (focus first | exact Nat.le_refl _ | omega | (simp; done) | (simp; omega))) | ((with_reducible refine below_via (W := ?_) ?_ ?_ ?_); rotate_left; (with_reducible assumption); rotate_left; (focus first | exact Nat.le_refl _ | omega | (simp; done) | (simp; omega)))))).mono ?_
      rintro e w3 ⟨rfl, hb1⟩
      have s1 := hb1.size
      simp at s1
      have KP : Blk w3 w.heap.size 40 #[.int .i64 s, .int .i64 wd, .int .i64 ht, .slice A n c, .slice B m d] := by (repeat (first | with_reducible assumption | (with_reducible refine Blk.drew ?_) | (with_reducible refine Blk.drewN ?_ _) | ((with_reducible refine Blk.new _ _ _ ?_); (focus first | rfl | (simp; done) | omega)) | (with_reducible refine Blk.alloc ?_ _) | ((with_reducible refine Blk.far ?_ _ ?_); rotate_left; (focus first | omega | (simp; done) | (simp; omega))) | ((with_reducible refine Blk.below (w := ?_) ?_ ?_); rotate_left; (with_reducible assumption))))
      have KR : Blk w3 (w.heap.size + 1) 40 #[.int .i64 0, .int .i64 0, .int .i64 0, .slice none 0 0, .slice none 0 0] := by (repeat (first | with_reducible assumption | (with_reducible refine Blk.drew ?_) | (with_reducible refine Blk.drewN ?_ _) | ((with_reducible refine Blk.new _ _ _ ?_); (focus first | rfl | (simp; done) | omega)) | (with_reducible refine Blk.alloc ?_ _) | ((with_reducible refine Blk.far ?_ _ ?_); rotate_left; (focus first | omega | (simp; done) | (simp; omega))) | ((with_reducible refine Blk.below (w := ?_) ?_ ?_); rotate_left; (with_reducible assumption))))
      have B1 : Below w.heap.size w w3 := (by repeat (first | with_reducible exact Below.refl _ _ | with_reducible assumption | (with_reducible refine Below.drew ?_) | (with_reducible refine below_drewN ?_ _) | ((with_reducible refine Below.alloc ?_ ?_ _); rotate_left; (focus first | exact Nat.le_refl _ | omega | (simp; done) | (simp; omega))) | ((with_reducible refine Below.setCell ?_ ?_ _); rotate_left; (focus first | exact Nat.le_refl _ | omega | (simp; done) | (simp; omega))) | ((with_reducible refine below_via (W := ?_) ?_ ?_ ?_); rotate_left; (with_reducible assumption); rotate_left; (focus first | exact Nat.le_refl _ | omega | (simp; done) | (simp; omega)))))
      have p1 := KP.cell 1
      have p2 := KP.cell 2
      have r0 := KR.cell 0
      have r1 := KR.cell 1
      have r2 := KR.cell 2
      have r3 := KR.cell 3
      have r4 := KR.cell 4
      have v0 := KR.free 0
      have v1 := KR.free 1
      have v2 := KR.free 2
      have v3 := KR.free 3
      have v4 := KR.free 4
      simp at r0 r1 r2 r3 r4 p1 p2
      clear hb1 KR KP A1
      go_wp2_with (first | (go_at_call 43; refine (specIn _ _ _ _).mono ?_; rintro e w' ⟨rfl, rfl⟩) | (go_at_call 45; refine (implIn _ _ _ _).mono ?_; rintro e w' ⟨rfl, rfl⟩))
      exact bodyPost_ret (v := .tuple #[.agg #[.int .i64 0, .int .i64 0, .int .i64 0, .slice none 0 0, .slice none 0 0], .int .i64 2]) (by simp [results, Try.results27, go_sem, r0, r1, r2, r3, r4]) rfl ⟨none, 0, none, 0, rfl, Ow.nil _ _, Ow.nil _ _, Ap.none_l _, (by repeat (first | with_reducible exact Below.refl _ _ | with_reducible assumption | (with_reducible refine Below.drew ?_) | (with_reducible refine below_drewN ?_ _) | ((with_reducible refine Below.alloc ?_ ?_ _); rotate_left; (focus first | exact Nat.le_refl _ | omega | (simp; done) | (simp; omega))) | ((with_reducible refine Below.setCell ?_ ?_ _); rotate_left; (focus first | exact Nat.le_refl _ | omega | (simp; done) | (simp; omega))) | ((with_reducible refine below_via (W := ?_) ?_ ?_ ?_); rotate_left; (with_reducible assumption); rotate_left; (focus first | exact Nat.le_refl _ | omega | (simp; done) | (simp; omega)))))⟩
    all_goals clear tb
    all_goals go_enter Try.func27, Try.ntmps27
    all_goals
      go_wp2_with fail
      refine (A1.out _ (by repeat (first | with_reducible exact Below.refl _ _ | with_reducible assumption | (with_reducible refine Below.drew ?_) | (with_reducible refine below_drewN ?_ _) | ((with_reducible refine Below.alloc ?_ ?_ _); rotate_left; (focus first | exact Nat.le_refl _ | omega | (simp; done) | (simp; omega))) | ((with_reducible refine Below.setCell ?_ ?_ _); rotate_left; (focus first | exact Nat.le_refl _ | omega | (simp; done) | (simp; omega))) | ((with_reducible refine below_via (W := ?_) ?_ ?_ ?_); rotate_left; (with_reducible assumption); rotate_left; (focus first | exact Nat.le_refl _ | omega | (simp; done) | (simp; omega)))))).mono ?_
      rintro e w3 ⟨rfl, hb1⟩
      have s1 := hb1.size
      simp at s1
      have KP : Blk w3 w.heap.size 40 #[.int .i64 s, .int .i64 wd, .int .i64 ht, .slice A n c, .slice B m d] := by (repeat (first | with_reducible assumption | (with_reducible refine Blk.drew ?_) | (with_reducible refine Blk.drewN ?_ _) | ((with_reducible refine Blk.new _ _ _ ?_); (focus first | rfl | (simp; done) | omega)) | (with_reducible refine Blk.alloc ?_ _) | ((with_reducible refine Blk.far ?_ _ ?_); rotate_left; (focus first | omega | (simp; done) | (simp; omega))) | ((with_reducible refine Blk.below (w := ?_) ?_ ?_); rotate_left; (with_reducible assumption))))
      have KR : Blk w3 (w.heap.size + 1) 40 #[.int .i64 0, .int .i64 0, .int .i64 0, .slice none 0 0, .slice none 0 0] := by (repeat (first | with_reducible assumption | (with_reducible refine Blk.drew ?_) | (with_reducible refine Blk.drewN ?_ _) | ((with_reducible refine Blk.new _ _ _ ?_); (focus first | rfl | (simp; done) | omega)) | (with_reducible refine Blk.alloc ?_ _) | ((with_reducible refine Blk.far ?_ _ ?_); rotate_left; (focus first | omega | (simp; done) | (simp; omega))) | ((with_reducible refine Blk.below (w := ?_) ?_ ?_); rotate_left; (with_reducible assumption))))
      have B1 : Below w.heap.size w w3 := (by repeat (first | with_reducible exact Below.refl _ _ | with_reducible assumption | (with_reducible refine Below.drew ?_) | (with_reducible refine below_drewN ?_ _) | ((with_reducible refine Below.alloc ?_ ?_ _); rotate_left; (focus first | exact Nat.le_refl _ | omega | (simp; done) | (simp; omega))) | ((with_reducible refine Below.setCell ?_ ?_ _); rotate_left; (focus first | exact Nat.le_refl _ | omega | (simp; done) | (simp; omega))) | ((with_reducible refine below_via (W := ?_) ?_ ?_ ?_); rotate_left; (with_reducible assumption); rotate_left; (focus first | exact Nat.le_refl _ | omega | (simp; done) | (simp; omega)))))
      have p1 := KP.cell 1
      have p2 := KP.cell 2
      have r0 := KR.cell 0
      have r1 := KR.cell 1
      have r2 := KR.cell 2
      have r3 := KR.cell 3
      have r4 := KR.cell 4
      have v0 := KR.free 0
      have v1 := KR.free 1
      have v2 := KR.free 2
      have v3 := KR.free 3
      have v4 := KR.free 4
      simp at r0 r1 r2 r3 r4 p1 p2
      clear hb1 KR KP A1
      go_wp2_with (first | (go_at_call 43; refine (specIn _ _ _ _).mono ?_; rintro e w' ⟨rfl, rfl⟩) | (go_at_call 45; refine (implIn _ _ _ _).mono ?_; rintro e w' ⟨rfl, rfl⟩))
      exact bodyPost_ret (v := .tuple #[.agg #[.int .i64 0, .int .i64 0, .int .i64 0, .slice none 0 0, .slice none 0 0], .int .i64 2]) (by simp [results, Try.results27, go_sem, r0, r1, r2, r3, r4]) rfl ⟨none, 0, none, 0, rfl, Ow.nil _ _, Ow.nil _ _, Ap.none_l _, (by repeat (first | with_reducible exact Below.refl _ _ | with_reducible assumption | (with_reducible refine Below.drew ?_) | (with_reducible refine below_drewN ?_ _) | ((with_reducible refine Below.alloc ?_ ?_ _); rotate_left; (focus first | exact Nat.le_refl _ | omega | (simp; done) | (simp; omega))) | ((with_reducible refine Below.setCell ?_ ?_ _); rotate_left; (focus first | exact Nat.le_refl _ | omega | (simp; done) | (simp; omega))) | ((with_reducible refine below_via (W := ?_) ?_ ?_ ?_); rotate_left; (with_reducible assumption); rotate_left; (focus first | exact Nat.le_refl _ | omega | (simp; done) | (simp; omega)))))⟩
  obtain ⟨h2, h3, h4, h5⟩ := crop_yes hin
  have ba := inB_yes h2
  have bb := inB_yes h3
  have bx := inB_yes h4
  have b_y := inB_yes h5
  have w1 : IntKind.i64.wrap (wd - a) = wd - a := IntWalk.i64_in _ (by omega)
  have w2 : IntKind.i64.wrap (ht - b) = ht - b := IntWalk.i64_in _ (by omega)
  obtain ⟨wn, rfl⟩ : ∃ k : Nat, wd = (k : Int) := ⟨wd.toNat, by omega⟩
  obtain ⟨hn2, rfl⟩ : ∃ k : Nat, ht = (k : Int) := ⟨ht.toNat, by omega⟩
  obtain ⟨xn, rfl⟩ : ∃ k : Nat, x = (k : Int) := ⟨x.toNat, by omega⟩
  obtain ⟨yn, rfl⟩ : ∃ k : Nat, y = (k : Int) := ⟨y.toNat, by omega⟩
  obtain ⟨an, rfl⟩ : ∃ k : Nat, a = (k : Int) := ⟨a.toNat, by omega⟩
  obtain ⟨bn, rfl⟩ : ∃ k : Nat, b = (k : Int) := ⟨b.toNat, by omega⟩
  rw [show cropR s wn hn2 n m hs cs xn yn an bn = ⟨s, an, bn, 0, bn * an, cutL wn xn yn an hs bn, bn * an, cutL wn xn yn an cs bn⟩ by unfold cropR; rw [h1, hin]; rfl]
  have tn : n = wn * hn2 := by have := (ter_yes h1).2.1; rw [← Int.natCast_mul] at this; omega
  have tm : m = n := (ter_yes h1).2.2.1
  have n576 : n ≤ 576 := by rw [tn]; exact Nat.mul_le_mul (show wn ≤ 24 by omega) (show hn2 ≤ 24 by omega)
  have IN1 := Lib.hid (fun k (hk : k < bn) => crop_in (xn := xn) (yn := yn) (an := an) tn (show xn + an ≤ wn by omega) (show yn + bn ≤ hn2 by omega) hk)
  have HM := Lib.hid tm
  have LA := Lib.hid ra.len
  have LB := Lib.hid rb.len
  have RA := Lib.hid ra
  have RB := Lib.hid rb
  clear h1 hin ra rb tn tm
  go_enter Try.func27, Try.ntmps27
  go_wp2_with fail
  refine (A1.out _ (by repeat (first | with_reducible exact Below.refl _ _ | with_reducible assumption | (with_reducible refine Below.drew ?_) | (with_reducible refine below_drewN ?_ _) | ((with_reducible refine Below.alloc ?_ ?_ _); rotate_left; (focus first | exact Nat.le_refl _ | omega | (simp; done) | (simp; omega))) | ((with_reducible refine Below.setCell ?_ ?_ _); rotate_left; (focus first | exact Nat.le_refl _ | omega | (simp; done) | (simp; omega))) | ((with_reducible refine below_via (W := ?_) ?_ ?_ ?_); rotate_left; (with_reducible assumption); rotate_left; (focus first | exact Nat.le_refl _ | omega | (simp; done) | (simp; omega)))))).mono ?_
  rintro e w3 ⟨rfl, hb1⟩
  have s1 := hb1.size
  simp at s1
  have KP : Blk w3 w.heap.size 40 #[.int .i64 s, .int .i64 (wn : Int), .int .i64 (hn2 : Int), .slice A n c, .slice B m d] := by (repeat (first | with_reducible assumption | (with_reducible refine Blk.drew ?_) | (with_reducible refine Blk.drewN ?_ _) | ((with_reducible refine Blk.new _ _ _ ?_); (focus first | rfl | (simp; done) | omega)) | (with_reducible refine Blk.alloc ?_ _) | ((with_reducible refine Blk.far ?_ _ ?_); rotate_left; (focus first | omega | (simp; done) | (simp; omega))) | ((with_reducible refine Blk.below (w := ?_) ?_ ?_); rotate_left; (with_reducible assumption))))
  have KR : Blk w3 (w.heap.size + 1) 40 #[.int .i64 0, .int .i64 0, .int .i64 0, .slice none 0 0, .slice none 0 0] := by (repeat (first | with_reducible assumption | (with_reducible refine Blk.drew ?_) | (with_reducible refine Blk.drewN ?_ _) | ((with_reducible refine Blk.new _ _ _ ?_); (focus first | rfl | (simp; done) | omega)) | (with_reducible refine Blk.alloc ?_ _) | ((with_reducible refine Blk.far ?_ _ ?_); rotate_left; (focus first | omega | (simp; done) | (simp; omega))) | ((with_reducible refine Blk.below (w := ?_) ?_ ?_); rotate_left; (with_reducible assumption))))
  have B1 : Below w.heap.size w w3 := (by repeat (first | with_reducible exact Below.refl _ _ | with_reducible assumption | (with_reducible refine Below.drew ?_) | (with_reducible refine below_drewN ?_ _) | ((with_reducible refine Below.alloc ?_ ?_ _); rotate_left; (focus first | exact Nat.le_refl _ | omega | (simp; done) | (simp; omega))) | ((with_reducible refine Below.setCell ?_ ?_ _); rotate_left; (focus first | exact Nat.le_refl _ | omega | (simp; done) | (simp; omega))) | ((with_reducible refine below_via (W := ?_) ?_ ?_ ?_); rotate_left; (with_reducible assumption); rotate_left; (focus first | exact Nat.le_refl _ | omega | (simp; done) | (simp; omega)))))
  have p0 := KP.cell 0
  have p1 := KP.cell 1
  have p2 := KP.cell 2
  simp at p0 p1 p2
  have HKP := Lib.hid KP
  have HKR := Lib.hid KR
  obtain ⟨ob, hob0⟩ : ∃ k, w3.heap.size = k := ⟨_, rfl⟩
  have HB1 := Lib.hid B1
  have HI00 : Hid (CInv w (w3.alloc (.cells #[.int .i64 s, .int .i64 (an : Int), .int .i64 (bn : Int), .slice none 0 0, .slice none 0 0] 40)) ob #[.int .i64 s, .int .i64 (wn : Int), .int .i64 (hn2 : Int), .slice A n c, .slice B m d] s (an : Int) (bn : Int) (0 * an) (0 * an) (cutL wn xn yn an hs 0) (cutL wn xn yn an cs 0) none none 0 0) := Lib.hid (by rw [Nat.zero_mul]; exact ⟨(by repeat (first | with_reducible exact Below.refl _ _ | with_reducible assumption | (with_reducible refine Below.drew ?_) | (with_reducible refine below_drewN ?_ _) | ((with_reducible refine Below.alloc ?_ ?_ _); rotate_left; (focus first | exact Nat.le_refl _ | omega | (simp; done) | (simp; omega))) | ((with_reducible refine Below.setCell ?_ ?_ _); rotate_left; (focus first | exact Nat.le_refl _ | omega | (simp; done) | (simp; omega))) | ((with_reducible refine below_via (W := ?_) ?_ ?_ ?_); rotate_left; (with_reducible assumption); rotate_left; (focus first | exact Nat.le_refl _ | omega | (simp; done) | (simp; omega))))), by omega, Ow.nil _ _, Ow.nil _ _, Ap.none_l _, Blk.new _ _ _ hob0.symm, Blk.alloc HKR.out _, Blk.alloc HKP.out _⟩)
  clear hb1 KP KR B1
  go_wp2_with (first | (go_at_call 43; refine (specIn _ _ _ _).mono ?_; rintro e w' ⟨rfl, rfl⟩) | (go_at_call 45; refine (implIn _ _ _ _).mono ?_; rintro e w' ⟨rfl, rfl⟩))
  clear p0 p1 p2
  go_loopw [54] (fun kv wr => ∃ (k : Nat) (P Q : Option Addr) (p q : Nat), k ≤ bn ∧ kv = .int .i64 (k : Int) ∧ Hid (CInv w wr ob #[.int .i64 s, .int .i64 (wn : Int), .int .i64 (hn2 : Int), .slice A n c, .slice B m d] s (an : Int) (bn : Int) (k * an) (k * an) (cutL wn xn yn an hs k) (cutL wn xn yn an cs k) P Q p q)) (fun kv _ => bn - (intOf kv).toNat)
  case atStart => exact ⟨0, none, none, 0, 0, Nat.zero_le _, rfl, HI00⟩
  case round =>
    clear HI00 HKP HKR hob0 HB1
    obtain ⟨k, P, Q, p, q, hk, rfl, HI⟩ := hrel
    by_cases hlt : k < bn
    · have hin2 := IN1.out k hlt
      have hkan : k * an ≤ 24 * 24 := Nat.mul_le_mul (by omega) (by omega)
      obtain ⟨f0, hf0⟩ : ∃ f0 : Nat, (yn + k) * wn = f0 := ⟨_, rfl⟩
      obtain ⟨f, hf⟩ : ∃ f : Nat, (yn + k) * wn + xn = f := ⟨_, rfl⟩
      have e1 : ((yn : Int) + (k : Int)) * (wn : Int) = (f0 : Int) := by rw [← hf0, Int.natCast_mul, Int.natCast_add]
      have e2 : IntKind.i64.wrap (f0 : Int) = (f0 : Int) := IntWalk.i64_in _ (by omega)
      have e5 : (f0 : Int) + (xn : Int) = (f : Int) := by omega
      have e6 : IntKind.i64.wrap (f : Int) = (f : Int) := IntWalk.i64_in _ (by omega)
      have e7 : IntKind.i64.wrap ((yn : Int) + (k : Int)) = (yn : Int) + (k : Int) := IntWalk.i64_in _ (by omega)
      have e8 : IntKind.i64.wrap ((f : Int) + (an : Int)) = (f : Int) + (an : Int) := IntWalk.i64_in _ (by omega)
      have u1 := HI.out.pb.cell 1
      simp at u1
      obtain ⟨i9, hI, hz0, hz1, hz2⟩ := info_parts infoI
      go_upto_region 10 with fail
      go_cut [14] (fun s14 wx => s14 = .int .i64 (f : Int) ∧ ∃ (P' : Option Addr) (p' : Nat), Hid (CInv w wx ob #[.int .i64 s, .int .i64 (wn : Int), .int .i64 (hn2 : Int), .slice A n c, .slice B m d] s (an : Int) (bn : Int) (k * an + an) (k * an) (cutL wn xn yn an hs (k + 1)) (cutL wn xn yn an cs k) P' Q p' q))
      case first =>
          have o3 := HI.out.bob.cell 3
          have u3 := HI.out.bob.free 3
          have e3 := HI.out.pb.cell 3
          simp at o3 e3
          obtain ⟨ad, rfl, _⟩ := (Rd.below HI.out.below RA.out).at_ (k := f) (by have := HM.out; omega)
          have RN := rd_news (rd_cut (Rd.below HI.out.below RA.out) (show f + an ≤ n by have := HM.out; omega))
          have C1 := fun W => cut_run ad n c f an (by have := HM.out; omega) (by omega) W
          have hrt2 : vals (cutL wn xn yn an hs k) ++ vals ((hs.drop f).take an) = vals (cutL wn xn yn an hs (k + 1)) := by rw [← vals_app, ← hf]; rfl
          have hnl : (vals ((hs.drop f).take an)).length = an := by rw [vals_len, List.length_take, List.length_drop, LA.out]; have := HM.out; omega
          have hv1 := vals_one ((hs.drop f).take an)
          have l0 : ob < wr.heap.size := HI.out.bob.lt
          have hob := HI.out.hob
          have RNH := Lib.hid (And.intro RN (And.intro hv1 (And.intro hnl hrt2)))
          clear RN hv1 hnl hrt2
          go_region_law (refine step_append_own rfl (.tmp 66) (.tmp 73) 38 rfl (ob + 1) 2 i9 (.int .i64 0) 1 8 Try.underlying38 hI hz0 hz1 hz2 rfl (by decide) (.slice P (k * an) p) (k * an) (vals (cutL wn xn yn an hs k)) ?_ ?_ (ad.add f) an (c - f) (vals ((hs.drop f).take an)) ?_ ?_ ?_ ?_ ?_ ?_ ?_ ?_; (focus simp [Act.eval, Act.put]); (focus exact HI.out.oP); (focus simp [Act.eval, Act.put]); (focus (rw [RNH.out.2.2.1, Nat.mul_one])); (focus exact RNH.out.1); (focus exact RNH.out.2.1); (focus unfold maxLen; omega); (focus omega); (focus exact l0); intro v' w1 hown1 hgrow hwh; rw [RNH.out.2.2.2] at hown1; obtain ⟨B', q', rfl, ho1⟩ := row_form hown1 (by omega); have g1 := gr_own hgrow; have KO1 := blk_gr g1 (fun a e => by have h := HI.out.oP.block e; omega) HI.out.bob; have o31 := KO1.cell 3; have u31 := KO1.free 3; simp at o31; have HG : Hid (Gr wr w1 P) := Lib.hid (Gr.trans (Gr.drew (Gr.refl _ _)) g1); have HO1 := Lib.hid ho1; have HW : Hid (∀ k', (Value.slice B' (k * an + an) q').ownBlock = some k' → (Value.slice P (k * an) p).ownBlock = some k' ∨ wr.heap.size ≤ k') := Lib.hid hwh; clear hown1 hgrow g1 ho1 KO1 hwh)
          all_goals (go_wp2_with fail; go_meet; refine ⟨rfl, B', q', Lib.hid ?_⟩; exact CInv.left HI.out HG.out HO1.out HW.out)
      case rest =>
          clear u1
          obtain ⟨rfl, P', p', HI1⟩ := hcut
          go_upto_region 11 with fail
          have o3 := HI1.out.bob.cell 4
          have u3 := HI1.out.bob.free 4
          have e3 := HI1.out.pb.cell 4
          simp at o3 e3
          obtain ⟨ad, rfl, _⟩ := (Rd.below HI1.out.below RB.out).at_ (k := f) (by have := HM.out; omega)
          have RN := rd_news (rd_cut (Rd.below HI1.out.below RB.out) (show f + an ≤ m by have := HM.out; omega))
          have C1 := fun W => cut_run ad m d f an (by have := HM.out; omega) (by omega) W
          have hrt2 : vals (cutL wn xn yn an cs k) ++ vals ((cs.drop f).take an) = vals (cutL wn xn yn an cs (k + 1)) := by rw [← vals_app, ← hf]; rfl
          have hnl : (vals ((cs.drop f).take an)).length = an := by rw [vals_len, List.length_take, List.length_drop, LB.out]; have := HM.out; omega
          have hv1 := vals_one ((cs.drop f).take an)
          have l0 : ob < wc.heap.size := HI1.out.bob.lt
          have hob := HI1.out.hob
          have RNH := Lib.hid (And.intro RN (And.intro hv1 (And.intro hnl hrt2)))
          clear RN hv1 hnl hrt2
          go_region_law (refine step_append_own rfl (.tmp 77) (.tmp 84) 38 rfl (ob + 1) 2 i9 (.int .i64 0) 1 8 Try.underlying38 hI hz0 hz1 hz2 rfl (by decide) (.slice Q (k * an) q) (k * an) (vals (cutL wn xn yn an cs k)) ?_ ?_ (ad.add f) an (d - f) (vals ((cs.drop f).take an)) ?_ ?_ ?_ ?_ ?_ ?_ ?_ ?_; (focus simp [Act.eval, Act.put]); (focus exact HI1.out.oQ); (focus simp [Act.eval, Act.put]); (focus (rw [RNH.out.2.2.1, Nat.mul_one])); (focus exact RNH.out.1); (focus exact RNH.out.2.1); (focus unfold maxLen; omega); (focus omega); (focus exact l0); intro v' w1 hown1 hgrow hwh; rw [RNH.out.2.2.2] at hown1; obtain ⟨B', q', rfl, ho1⟩ := row_form hown1 (by omega); have g1 := gr_own hgrow; have KO1 := blk_gr g1 (fun a e => by have h := HI1.out.oQ.block e; omega) HI1.out.bob; have o31 := KO1.cell 4; have u31 := KO1.free 4; simp at o31; have HG : Hid (Gr wc w1 Q) := Lib.hid (Gr.trans (Gr.drew (Gr.refl _ _)) g1); have HO1 := Lib.hid ho1; have HW : Hid (∀ k', (Value.slice B' (k * an + an) q').ownBlock = some k' → (Value.slice Q (k * an) q).ownBlock = some k' ∨ wc.heap.size ≤ k') := Lib.hid hwh; clear hown1 hgrow g1 ho1 KO1 hwh)
          all_goals (go_wp2_with fail; go_roundw)
          all_goals first
            | exact ⟨k + 1, P', B', p', q', by omega, by go_num, Lib.hid (by have h := CInv.right HI1.out HG.out HO1.out HW.out; rw [Nat.add_mul, Nat.one_mul]; exact h)⟩
            | (simp [intOf]; done)
            | (simp [intOf]; omega)
    · obtain rfl : k = bn := by omega
      have o0 := HI.out.bob.cell 0
      have o1 := HI.out.bob.cell 1
      have o2 := HI.out.bob.cell 2
      have o3 := HI.out.bob.cell 3
      have o4 := HI.out.bob.cell 4
      have r0 := HI.out.rb.cell 0
      have r1 := HI.out.rb.cell 1
      have r2 := HI.out.rb.cell 2
      have r3 := HI.out.rb.cell 3
      have r4 := HI.out.rb.cell 4
      have v0 := HI.out.rb.free 0
      have v1 := HI.out.rb.free 1
      have v2 := HI.out.rb.free 2
      have v3 := HI.out.rb.free 3
      have v4 := HI.out.rb.free 4
      simp at o0 o1 o2 o3 o4 r0 r1 r2 r3 r4
      go_wp2_with fail
      refine ret_world fun W hW => ?_
      obtain ⟨c0, c1, c2, c3, c4⟩ := box5n r0 r1 r2 r3 r4 hW
      have hB := box5n_below HI.out.below (by omega) hW
      have hob := HI.out.hob
      refine bodyPost_ret (v := .tuple #[.agg #[.int .i64 s, .int .i64 (an : Int), .int .i64 (k : Int), .slice P (k * an) p, .slice Q (k * an) q], .int .i64 0]) (by simp [results, Try.results27, go_sem, c0, c1, c2, c3, c4]) rfl ⟨P, p, Q, q, rfl, ?_, ?_, HI.out.ap, hB⟩
      · rw [hW]
        exact Ow.lower (Ow.low _ (by omega) (Ow.low _ (by omega) (Ow.low _ (by omega) (Ow.low _ (by omega) (Ow.low _ (by omega) HI.out.oP))))) (by omega)
      · rw [hW]
        exact Ow.lower (Ow.low _ (by omega) (Ow.low _ (by omega) (Ow.low _ (by omega) (Ow.low _ (by omega) (Ow.low _ (by omega) HI.out.oQ))))) (by omega)

end Go.Proofs.Ytpgjllpiefpjjaa.WalkCU
