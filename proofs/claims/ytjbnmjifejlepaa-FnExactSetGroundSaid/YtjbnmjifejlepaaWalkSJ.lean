/- SetGround of the program: the walk. -/
import Derived.Test.YtjbnmjifejlepaaWalkSI
import Derived.Deep.RegionHeld3
import Derived.Deep.RegionWith
import Derived.Deep.DeepCutAuto
namespace Go.Proofs.Ytjbnmjifejlepaa.WalkSJ
open Go Go.RowKit Go.Proofs.Ytjbnmjifejlepaa.Base Go.Proofs.Ytjbnmjifejlepaa.Plain Go.Proofs.Ytjbnmjifejlepaa.Words Go.Proofs.Ytjbnmjifejlepaa.Ints Go.Proofs.Ytjbnmjifejlepaa.WalkN Go.Proofs.Ytjbnmjifejlepaa.WalkP Go.Proofs.Ytjbnmjifejlepaa.WalkI Go.Proofs.Ytjbnmjifejlepaa.WalkU Go.Proofs.Ytjbnmjifejlepaa.PlainT Go.Proofs.Ytjbnmjifejlepaa.WalkQ Go.Proofs.Ytjbnmjifejlepaa.WalkW Go.Proofs.Ytjbnmjifejlepaa.WalkSG Go.Proofs.Ytjbnmjifejlepaa.WalkSH Go.Proofs.Ytjbnmjifejlepaa.WalkSI
set_option linter.unusedVariables false
set_option linter.unusedSimpArgs false

/-- a box of five cells that is filled anew -/
theorem box5n {S : World} {g : Nat} {b0 b1 b2 b3 b4 a0 a1 a2 a3 a4 : Value} (h0 : S.cell? ⟨g, 0, none⟩ = some b0) (h1 : S.cell? ⟨g, 1, none⟩ = some b1) (h2 : S.cell? ⟨g, 2, none⟩ = some b2) (h3 : S.cell? ⟨g, 3, none⟩ = some b3) (h4 : S.cell? ⟨g, 4, none⟩ = some b4)
    {W : World} (hW : W = ((((S.setCell ⟨g, 0, none⟩ a0).setCell ⟨g, 1, none⟩ a1).setCell ⟨g, 2, none⟩ a2).setCell ⟨g, 3, none⟩ a3).setCell ⟨g, 4, none⟩ a4) :
    W.cell? ⟨g, 0, none⟩ = some a0 ∧ W.cell? ⟨g, 1, none⟩ = some a1 ∧ W.cell? ⟨g, 2, none⟩ = some a2 ∧ W.cell? ⟨g, 3, none⟩ = some a3 ∧ W.cell? ⟨g, 4, none⟩ = some a4 := by
  have hg : g < W.heap.size := by rw [hW]; have := World.block_lt_of_cell? _ _ h0; simpa using this
  obtain ⟨c0, c1, c2, c3, c4⟩ := box5 (.cells #[] 0) h0 h1 h2 h3 h4 (W := W.alloc (.cells #[] 0)) (by rw [hW])
  rw [World.cell?_alloc_lt _ _ _ hg] at c0 c1 c2 c3 c4
  exact ⟨c0, c1, c2, c3, c4⟩
theorem box5n_below {B : Nat} {a S : World} {g : Nat} {a0 a1 a2 a3 a4 : Value} (h : Below B a S) (hg : B ≤ g)
    {W : World} (hW : W = ((((S.setCell ⟨g, 0, none⟩ a0).setCell ⟨g, 1, none⟩ a1).setCell ⟨g, 2, none⟩ a2).setCell ⟨g, 3, none⟩ a3).setCell ⟨g, 4, none⟩ a4) : Below B a W := by
  subst hW
  exact ((((h.setCell hg _).setCell hg _).setCell hg _).setCell hg _).setCell hg _

set_option maxHeartbeats 8000000 in
theorem implSet (s wd ht : Int) (A B : Option Addr) (n c m d : Nat) (hs cs : List Int) (x y h k : Int) (w : World) (ra : Rd w A n hs) (rb : Rd w B m cs) (hn : n ≤ maxLen) (hm : m ≤ maxLen) :
    Calls Try.prog 30 #[.agg #[.int .i64 s, .int .i64 wd, .int .i64 ht, .slice A n c, .slice B m d], .int .i64 x, .int .i64 y, .int .i64 h, .int .i64 k] w (TerR (setR s wd ht n m hs cs x y h k) w) := by
  have A1 := Lib.hid (fun W (hb : Below w.heap.size w W) => implTer s wd ht A B n c m d hs cs W (Rd.below hb ra) (Rd.below hb rb) hn hm)
  cases h1 : terB s wd ht n m hs cs
  · rw [show setR s wd ht n m hs cs x y h k = Ter.no 1 by unfold setR; rw [h1]; rfl]
    rw [h1] at A1
    clear h1 ra rb
    go_enter Try.func30, Try.ntmps30
    go_wp2_with fail
    refine (A1.out _ (by repeat (first | with_reducible exact Below.refl _ _ | with_reducible assumption | (with_reducible refine Below.drew ?_) | (with_reducible refine below_drewN ?_ _) | ((with_reducible refine Below.alloc ?_ ?_ _); rotate_left; (focus first | exact Nat.le_refl _ | omega | (simp; done) | (simp; omega))) | ((with_reducible refine Below.setCell ?_ ?_ _); rotate_left; (focus first | exact Nat.le_refl _ | omega | (simp; done) | (simp; omega))) | ((with_reducible refine below_via (W := ?_) ?_ ?_ ?_); rotate_left; (with_reducible assumption); rotate_left; (focus first | exact Nat.le_refl _ | omega | (simp; done) | (simp; omega)))))).mono ?_
    rintro e w1 ⟨rfl, hb1⟩
    have s1 := hb1.size
    simp at s1
    have KR : Blk w1 (w.heap.size + 1) 40 #[.int .i64 0, .int .i64 0, .int .i64 0, .slice none 0 0, .slice none 0 0] := by (repeat (first | with_reducible assumption | (with_reducible refine Blk.drew ?_) | (with_reducible refine Blk.drewN ?_ _) | ((with_reducible refine Blk.new _ _ _ ?_); (focus first | rfl | (simp; done) | omega)) | (with_reducible refine Blk.alloc ?_ _) | ((with_reducible refine Blk.far ?_ _ ?_); rotate_left; (focus first | omega | (simp; done) | (simp; omega))) | ((with_reducible refine Blk.below (w := ?_) ?_ ?_); rotate_left; (with_reducible assumption))))
    have B1 : Below w.heap.size w w1 := (by repeat (first | with_reducible exact Below.refl _ _ | with_reducible assumption | (with_reducible refine Below.drew ?_) | (with_reducible refine below_drewN ?_ _) | ((with_reducible refine Below.alloc ?_ ?_ _); rotate_left; (focus first | exact Nat.le_refl _ | omega | (simp; done) | (simp; omega))) | ((with_reducible refine Below.setCell ?_ ?_ _); rotate_left; (focus first | exact Nat.le_refl _ | omega | (simp; done) | (simp; omega))) | ((with_reducible refine below_via (W := ?_) ?_ ?_ ?_); rotate_left; (with_reducible assumption); rotate_left; (focus first | exact Nat.le_refl _ | omega | (simp; done) | (simp; omega)))))
    have r0 := KR.cell 0
    have r1 := KR.cell 1
    have r2 := KR.cell 2
    have r3 := KR.cell 3
    have r4 := KR.cell 4
    have v0 := KR.free 0
    have v1 := KR.free 1
    have v2 := KR.free 2
    have v3 := KR.free 3
    have v4 := KR.free 4
    simp at r0 r1 r2 r3 r4
    clear hb1 KR A1
    go_wp2_with fail
    exact bodyPost_ret (v := .tuple #[.agg #[.int .i64 0, .int .i64 0, .int .i64 0, .slice none 0 0, .slice none 0 0], .int .i64 1]) (by simp [results, Try.results30, go_sem, r0, r1, r2, r3, r4]) rfl ⟨none, 0, none, 0, rfl, Ow.nil _ _, Ow.nil _ _, Ap.none_l _, (by repeat (first | with_reducible exact Below.refl _ _ | with_reducible assumption | (with_reducible refine Below.drew ?_) | (with_reducible refine below_drewN ?_ _) | ((with_reducible refine Below.alloc ?_ ?_ _); rotate_left; (focus first | exact Nat.le_refl _ | omega | (simp; done) | (simp; omega))) | ((with_reducible refine Below.setCell ?_ ?_ _); rotate_left; (focus first | exact Nat.le_refl _ | omega | (simp; done) | (simp; omega))) | ((with_reducible refine below_via (W := ?_) ?_ ?_ ?_); rotate_left; (with_reducible assumption); rotate_left; (focus first | exact Nat.le_refl _ | omega | (simp; done) | (simp; omega)))))⟩
  have tl := Lib.hid (ter_len h1)
  have tb := sizeB_yes (ter_yes h1).1
  have w1 : IntKind.i64.wrap (wd - 1) = wd - 1 := IntWalk.i64_in _ (by omega)
  have w2 : IntKind.i64.wrap (ht - 1) = ht - 1 := IntWalk.i64_in _ (by omega)
  have HT := Lib.hid h1
  rw [h1] at A1
  have no : setB wd ht x y h k = false → setR s wd ht n m hs cs x y h k = Ter.no 2 := fun e => by unfold setR; rw [HT.out, e]; rfl
  cases hin : setB wd ht x y h k
  · rw [no hin]
    have hor : inB x 0 (wd - 1) = false ∨ (inB x 0 (wd - 1) = true ∧ inB y 0 (ht - 1) = false) ∨ (inB x 0 (wd - 1) = true ∧ inB y 0 (ht - 1) = true ∧ inB h 0 90000 = false) ∨ (inB x 0 (wd - 1) = true ∧ inB y 0 (ht - 1) = true ∧ inB h 0 90000 = true ∧ inB k 0 7 = false) := by
      rcases Bool.eq_false_or_eq_true (inB x 0 (wd - 1)) with e1 | e1
      · rcases Bool.eq_false_or_eq_true (inB y 0 (ht - 1)) with e2 | e2
        · rcases Bool.eq_false_or_eq_true (inB h 0 90000) with e3 | e3
          · rcases Bool.eq_false_or_eq_true (inB k 0 7) with e4 | e4
            · rw [set_yes e1 e2 e3 e4] at hin
              cases hin
            · exact .inr (.inr (.inr ⟨e1, e2, e3, e4⟩))
          · exact .inr (.inr (.inl ⟨e1, e2, e3⟩))
        · exact .inr (.inl ⟨e1, e2⟩)
      · exact .inl e1
    clear no h1 ra rb tl tb HT hin
    rcases hor with h2 | ⟨h2, h3⟩ | ⟨h2, h3, h4⟩ | ⟨h2, h3, h4, h5⟩
    all_goals go_enter Try.func30, Try.ntmps30
    all_goals
      go_wp2_with fail
      refine (A1.out _ (by repeat (first | with_reducible exact Below.refl _ _ | with_reducible assumption | (with_reducible refine Below.drew ?_) | (with_reducible refine below_drewN ?_ _) | ((with_reducible refine Below.alloc ?_ ?_ _); rotate_left; (focus first | exact Nat.le_refl _ | omega | (simp; done) | (simp; omega))) | ((with_reducible refine Below.setCell ?_ ?_ _); rotate_left; (focus first | exact Nat.le_refl _ | omega | (simp; done) | (simp; omega))) | ((with_reducible refine below_via (W := ?_) ?_ ?_ ?_); rotate_left; (with_reducible assumption); rotate_left; (focus first | exact Nat.le_refl _ | omega | (simp; done) | (simp; omega)))))).mono ?_
      rintro e w3 ⟨rfl, hb1⟩
      have s1 := hb1.size
      simp at s1
      have KP : Blk w3 w.heap.size 40 #[.int .i64 s, .int .i64 wd, .int .i64 ht, .slice A n c, .slice B m d] := by (repeat (first | with_reducible assumption | (with_reducible refine Blk.drew ?_) | (with_reducible refine Blk.drewN ?_ _) | ((with_reducible refine Blk.new _ _ _ ?_); (focus first | rfl | (simp; done) | omega)) | (with_reducible refine Blk.alloc ?_ _) | ((with_reducible refine Blk.far ?_ _ ?_); rotate_left; (focus first | omega | (simp; done) | (simp; omega))) | ((with_reducible refine Blk.below (w := ?_) ?_ ?_); rotate_left; (with_reducible assumption))))
      have KR : Blk w3 (w.heap.size + 1) 40 #[.int .i64 0, .int .i64 0, .int .i64 0, .slice none 0 0, .slice none 0 0] := by (repeat (first | with_reducible assumption | (with_reducible refine Blk.drew ?_) | (with_reducible refine Blk.drewN ?_ _) | ((with_reducible refine Blk.new _ _ _ ?_); (focus first | rfl | (simp; done) | omega)) | (with_reducible refine Blk.alloc ?_ _) | ((with_reducible refine Blk.far ?_ _ ?_); rotate_left; (focus first | omega | (simp; done) | (simp; omega))) | ((with_reducible refine Blk.below (w := ?_) ?_ ?_); rotate_left; (with_reducible assumption))))
      have B1 : Below w.heap.size w w3 := (by repeat (first | with_reducible exact Below.refl _ _ | with_reducible assumption | (with_reducible refine Below.drew ?_) | (with_reducible refine below_drewN ?_ _) | ((with_reducible refine Below.alloc ?_ ?_ _); rotate_left; (focus first | exact Nat.le_refl _ | omega | (simp; done) | (simp; omega))) | ((with_reducible refine Below.setCell ?_ ?_ _); rotate_left; (focus first | exact Nat.le_refl _ | omega | (simp; done) | (simp; omega))) | ((with_reducible refine below_via (W := ?_) ?_ ?_ ?_); rotate_left; (with_reducible assumption); rotate_left; (focus first | exact Nat.le_refl _ | omega | (simp; done) | (simp; omega)))))
      have p1 := KP.cell 1
      have p2 := KP.cell 2
      have r0 := KR.cell 0
      have r1 := KR.cell 1
      have r2 := KR.cell 2
      have r3 := KR.cell 3
      have r4 := KR.cell 4
      have v0 := KR.free 0
      have v1 := KR.free 1
      have v2 := KR.free 2
      have v3 := KR.free 3
      have v4 := KR.free 4
      simp at r0 r1 r2 r3 r4 p1 p2
      clear hb1 KR KP A1
      go_wp2_with (first | (go_at_call 46; refine (specIn _ _ _ _).mono ?_; rintro e w' ⟨rfl, rfl⟩) | (go_at_call 48; refine (implIn _ _ _ _).mono ?_; rintro e w' ⟨rfl, rfl⟩))
      exact bodyPost_ret (v := .tuple #[.agg #[.int .i64 0, .int .i64 0, .int .i64 0, .slice none 0 0, .slice none 0 0], .int .i64 2]) (by simp [results, Try.results30, go_sem, r0, r1, r2, r3, r4]) rfl ⟨none, 0, none, 0, rfl, Ow.nil _ _, Ow.nil _ _, Ap.none_l _, (by repeat (first | with_reducible exact Below.refl _ _ | with_reducible assumption | (with_reducible refine Below.drew ?_) | (with_reducible refine below_drewN ?_ _) | ((with_reducible refine Below.alloc ?_ ?_ _); rotate_left; (focus first | exact Nat.le_refl _ | omega | (simp; done) | (simp; omega))) | ((with_reducible refine Below.setCell ?_ ?_ _); rotate_left; (focus first | exact Nat.le_refl _ | omega | (simp; done) | (simp; omega))) | ((with_reducible refine below_via (W := ?_) ?_ ?_ ?_); rotate_left; (with_reducible assumption); rotate_left; (focus first | exact Nat.le_refl _ | omega | (simp; done) | (simp; omega)))))⟩
  have hyes : inB x 0 (wd - 1) = true ∧ inB y 0 (ht - 1) = true ∧ inB h 0 90000 = true ∧ inB k 0 7 = true := by
    unfold setB at hin
    simp only [Bool.and_eq_true] at hin
    exact ⟨hin.1, hin.2.1, hin.2.2.1, hin.2.2.2⟩
  obtain ⟨h2, h3, h4, h5⟩ := hyes
  have hR : setR s wd ht n m hs cs x y h k = ⟨s, wd, ht, 0, n, hs.set (y * wd + x).toNat h, m, cs.set (y * wd + x).toNat k⟩ := by unfold setR; rw [h1, hin]; rfl
  rw [hR]
  obtain ⟨K, hK, hKn, hK0, hK1⟩ := place_num h1 h2 h3
  have x3 : IntKind.i64.wrap (y * wd) = y * wd := IntWalk.i64_in _ (by omega)
  have x4 : IntKind.i64.wrap (y * wd + x) = (K : Int) := by rw [hK]; have := tl.out; exact IntWalk.i64_in _ (by omega)
  have eK : (y * wd + x).toNat = K := by omega
  rw [eK]
  have hKm : K < m := by have := tl.out; omega
  have OA := Lib.hid (fun W (hb : Below w.heap.size w W) => implClone A n c hs W (Rd.below hb ra) (by have := tl.out; omega) (by have := tl.out; omega))
  have OB := Lib.hid (fun W (hb : Below w.heap.size w W) => implClone B m d cs W (Rd.below hb rb) (by have := tl.out; omega) (by have := tl.out; omega))
  clear no h1 ra rb tb HT hR hK hK0 hK1 eK hin
  go_enter Try.func30, Try.ntmps30
  go_wp2_with fail
  refine (A1.out _ (by repeat (first | with_reducible exact Below.refl _ _ | with_reducible assumption | (with_reducible refine Below.drew ?_) | (with_reducible refine below_drewN ?_ _) | ((with_reducible refine Below.alloc ?_ ?_ _); rotate_left; (focus first | exact Nat.le_refl _ | omega | (simp; done) | (simp; omega))) | ((with_reducible refine Below.setCell ?_ ?_ _); rotate_left; (focus first | exact Nat.le_refl _ | omega | (simp; done) | (simp; omega))) | ((with_reducible refine below_via (W := ?_) ?_ ?_ ?_); rotate_left; (with_reducible assumption); rotate_left; (focus first | exact Nat.le_refl _ | omega | (simp; done) | (simp; omega)))))).mono ?_
  rintro e w3 ⟨rfl, hb1⟩
  have s1 := hb1.size
  simp at s1
  have KP : Blk w3 w.heap.size 40 #[.int .i64 s, .int .i64 wd, .int .i64 ht, .slice A n c, .slice B m d] := by (repeat (first | with_reducible assumption | (with_reducible refine Blk.drew ?_) | (with_reducible refine Blk.drewN ?_ _) | ((with_reducible refine Blk.new _ _ _ ?_); (focus first | rfl | (simp; done) | omega)) | (with_reducible refine Blk.alloc ?_ _) | ((with_reducible refine Blk.far ?_ _ ?_); rotate_left; (focus first | omega | (simp; done) | (simp; omega))) | ((with_reducible refine Blk.below (w := ?_) ?_ ?_); rotate_left; (with_reducible assumption))))
  have KR : Blk w3 (w.heap.size + 1) 40 #[.int .i64 0, .int .i64 0, .int .i64 0, .slice none 0 0, .slice none 0 0] := by (repeat (first | with_reducible assumption | (with_reducible refine Blk.drew ?_) | (with_reducible refine Blk.drewN ?_ _) | ((with_reducible refine Blk.new _ _ _ ?_); (focus first | rfl | (simp; done) | omega)) | (with_reducible refine Blk.alloc ?_ _) | ((with_reducible refine Blk.far ?_ _ ?_); rotate_left; (focus first | omega | (simp; done) | (simp; omega))) | ((with_reducible refine Blk.below (w := ?_) ?_ ?_); rotate_left; (with_reducible assumption))))
  have B1 : Below w.heap.size w w3 := (by repeat (first | with_reducible exact Below.refl _ _ | with_reducible assumption | (with_reducible refine Below.drew ?_) | (with_reducible refine below_drewN ?_ _) | ((with_reducible refine Below.alloc ?_ ?_ _); rotate_left; (focus first | exact Nat.le_refl _ | omega | (simp; done) | (simp; omega))) | ((with_reducible refine Below.setCell ?_ ?_ _); rotate_left; (focus first | exact Nat.le_refl _ | omega | (simp; done) | (simp; omega))) | ((with_reducible refine below_via (W := ?_) ?_ ?_ ?_); rotate_left; (with_reducible assumption); rotate_left; (focus first | exact Nat.le_refl _ | omega | (simp; done) | (simp; omega)))))
  have p0 := KP.cell 0
  have p1 := KP.cell 1
  have p2 := KP.cell 2
  have p3 := KP.cell 3
  have p4 := KP.cell 4
  have q3 := KP.free 3
  have q4 := KP.free 4
  simp at p0 p1 p2 p3 p4
  have z1 : w.heap.size < w3.heap.size := by omega
  have HKR := Lib.hid KR
  have HKP := Lib.hid KP
  clear hb1 KP KR A1
  go_upto_region 5 with (first | (go_at_call 46; refine (specIn _ _ _ _).mono ?_; rintro e w' ⟨rfl, rfl⟩) | (go_at_call 48; refine (implIn _ _ _ _).mono ?_; rintro e w' ⟨rfl, rfl⟩))
  go_cut [11] (fun s11 wx => s11 = .int .i64 0 ∧ ∃ (P : Option Addr) (p : Nat) (Q : Option Addr) (q : Nat), Hid (Below w.heap.size w wx) ∧ Hid (Ow wx (w.heap.size + 2) P n p hs) ∧ Hid (Ow wx (w.heap.size + 2) Q m q cs) ∧ Hid (Ap P Q) ∧ Hid (Blk wx (w.heap.size + 1) 40 #[.int .i64 0, .int .i64 0, .int .i64 0, .slice none 0 0, .slice none 0 0]) ∧
    Hid (Blk wx w.heap.size 40 #[.int .i64 s, .int .i64 wd, .int .i64 ht, .slice P n p, .slice Q m q]))
  case first =>
    go_region_with (first
      | (go_at_call 59; (with_reducible refine (OA.out _ (by repeat (first | with_reducible exact Below.refl _ _ | with_reducible assumption | (with_reducible refine Below.drew ?_) | (with_reducible refine below_drewN ?_ _) | ((with_reducible refine Below.alloc ?_ ?_ _); rotate_left; (focus first | exact Nat.le_refl _ | omega | (simp; done) | (simp; omega))) | ((with_reducible refine Below.setCell ?_ ?_ _); rotate_left; (focus first | exact Nat.le_refl _ | omega | (simp; done) | (simp; omega))) | ((with_reducible refine below_via (W := ?_) ?_ ?_ ?_); rotate_left; (with_reducible assumption); rotate_left; (focus first | exact Nat.le_refl _ | omega | (simp; done) | (simp; omega)))))).mono ?_); rintro e wa ⟨P, p, rfl, ho, hba⟩; obtain ⟨hca, hfa⟩ := bcell hba; have sa := hba.size; (try simp at sa); have HOA := Lib.hid ho; have lta : w.heap.size + 1 < wa.heap.size := (by omega); have ea3 : wa.cell? ⟨w.heap.size, 3, none⟩ = some (.slice A n c) := (by (((try dsimp only); (repeat' apply And.intro) <;> (repeat (first | with_reducible assumption | (with_reducible refine keep_drew ?_) | (with_reducible refine keep_drewN ?_) | ((with_reducible refine keep_new _ _ _ _ _ _ ?_ ?_) <;> (first | rfl | (simp; done) | omega)) | (with_reducible refine keep_alloc _ ?_) | ((with_reducible refine keep_set _ ?_ ?_); (focus first | omega | (simp; done) | (simp; omega))) | ((with_reducible refine keep_set' _ ?_ ?_); (focus first | omega | (simp; done))) | ((with_reducible refine keep_same (u := ?_) _ ?_); rotate_left) | ((with_reducible refine keep_setA _ ?_ ?_); (focus first | omega | (simp; done) | (simp; omega))) | ((with_reducible refine keep_below (w := ?_) ?_ ?_); rotate_left; (with_reducible assumption))))))); have ea4 : wa.cell? ⟨w.heap.size, 4, none⟩ = some (.slice B m d) := (by (((try dsimp only); (repeat' apply And.intro) <;> (repeat (first | with_reducible assumption | (with_reducible refine keep_drew ?_) | (with_reducible refine keep_drewN ?_) | ((with_reducible refine keep_new _ _ _ _ _ _ ?_ ?_) <;> (first | rfl | (simp; done) | omega)) | (with_reducible refine keep_alloc _ ?_) | ((with_reducible refine keep_set _ ?_ ?_); (focus first | omega | (simp; done) | (simp; omega))) | ((with_reducible refine keep_set' _ ?_ ?_); (focus first | omega | (simp; done))) | ((with_reducible refine keep_same (u := ?_) _ ?_); rotate_left) | ((with_reducible refine keep_setA _ ?_ ?_); (focus first | omega | (simp; done) | (simp; omega))) | ((with_reducible refine keep_below (w := ?_) ?_ ?_); rotate_left; (with_reducible assumption))))))); have ua3 : wa.frozen? ⟨w.heap.size, 3, none⟩ = false := (by rw [hfa _ _ (by first | (simp; done) | (simp; omega) | omega)]; first | exact q3 | exact ub3); have ua4 : wa.frozen? ⟨w.heap.size, 4, none⟩ = false := (by rw [hfa _ _ (by first | (simp; done) | (simp; omega) | omega)]; first | exact q4 | exact ub4); clear ho hca hfa)
      | (go_at_call 59; (with_reducible refine (OB.out _ (by repeat (first | with_reducible exact Below.refl _ _ | with_reducible assumption | (with_reducible refine Below.drew ?_) | (with_reducible refine below_drewN ?_ _) | ((with_reducible refine Below.alloc ?_ ?_ _); rotate_left; (focus first | exact Nat.le_refl _ | omega | (simp; done) | (simp; omega))) | ((with_reducible refine Below.setCell ?_ ?_ _); rotate_left; (focus first | exact Nat.le_refl _ | omega | (simp; done) | (simp; omega))) | ((with_reducible refine below_via (W := ?_) ?_ ?_ ?_); rotate_left; (with_reducible assumption); rotate_left; (focus first | exact Nat.le_refl _ | omega | (simp; done) | (simp; omega)))))).mono ?_); rintro e wb ⟨Q, q, rfl, ho, hbb⟩; obtain ⟨hcb, hfb⟩ := bcell hbb; have sb := hbb.size; (try simp at sb); have HOB := Lib.hid ho; have ltb : w.heap.size + 1 < wb.heap.size := (by omega); have eb3 : wb.cell? ⟨w.heap.size, 3, none⟩ = some (.slice A n c) := (by (((try dsimp only); (repeat' apply And.intro) <;> (repeat (first | with_reducible assumption | (with_reducible refine keep_drew ?_) | (with_reducible refine keep_drewN ?_) | ((with_reducible refine keep_new _ _ _ _ _ _ ?_ ?_) <;> (first | rfl | (simp; done) | omega)) | (with_reducible refine keep_alloc _ ?_) | ((with_reducible refine keep_set _ ?_ ?_); (focus first | omega | (simp; done) | (simp; omega))) | ((with_reducible refine keep_set' _ ?_ ?_); (focus first | omega | (simp; done))) | ((with_reducible refine keep_same (u := ?_) _ ?_); rotate_left) | ((with_reducible refine keep_setA _ ?_ ?_); (focus first | omega | (simp; done) | (simp; omega))) | ((with_reducible refine keep_below (w := ?_) ?_ ?_); rotate_left; (with_reducible assumption))))))); have eb4 : wb.cell? ⟨w.heap.size, 4, none⟩ = some (.slice B m d) := (by (((try dsimp only); (repeat' apply And.intro) <;> (repeat (first | with_reducible assumption | (with_reducible refine keep_drew ?_) | (with_reducible refine keep_drewN ?_) | ((with_reducible refine keep_new _ _ _ _ _ _ ?_ ?_) <;> (first | rfl | (simp; done) | omega)) | (with_reducible refine keep_alloc _ ?_) | ((with_reducible refine keep_set _ ?_ ?_); (focus first | omega | (simp; done) | (simp; omega))) | ((with_reducible refine keep_set' _ ?_ ?_); (focus first | omega | (simp; done))) | ((with_reducible refine keep_same (u := ?_) _ ?_); rotate_left) | ((with_reducible refine keep_setA _ ?_ ?_); (focus first | omega | (simp; done) | (simp; omega))) | ((with_reducible refine keep_below (w := ?_) ?_ ?_); rotate_left; (with_reducible assumption))))))); have ub3 : wb.frozen? ⟨w.heap.size, 3, none⟩ = false := (by rw [hfb _ _ (by first | (simp; done) | (simp; omega) | omega)]; first | exact q3 | exact ua3); have ub4 : wb.frozen? ⟨w.heap.size, 4, none⟩ = false := (by rw [hfb _ _ (by first | (simp; done) | (simp; omega) | omega)]; first | exact q4 | exact ua4); clear ho hcb hfb))
    all_goals (go_wp2_with fail; go_meet; refine ⟨rfl, P, p, Q, q, Lib.hid (by repeat (first | with_reducible exact Below.refl _ _ | with_reducible assumption | (with_reducible refine Below.drew ?_) | (with_reducible refine below_drewN ?_ _) | ((with_reducible refine Below.alloc ?_ ?_ _); rotate_left; (focus first | exact Nat.le_refl _ | omega | (simp; done) | (simp; omega))) | ((with_reducible refine Below.setCell ?_ ?_ _); rotate_left; (focus first | exact Nat.le_refl _ | omega | (simp; done) | (simp; omega))) | ((with_reducible refine below_via (W := ?_) ?_ ?_ ?_); rotate_left; (with_reducible assumption); rotate_left; (focus first | exact Nat.le_refl _ | omega | (simp; done) | (simp; omega))))), Lib.hid ?_, Lib.hid ?_, Lib.hid ?_, Lib.hid ?_, Lib.hid ?_⟩)
    all_goals first
      | (have ho : Ow wa (w.heap.size + 2) P n p hs := Ow.lower HOA.out (by first | omega | (simp; omega) | (simp; done))
         exact Ow.low _ (by omega) (Ow.low _ (by omega) (Ow.below hbb ho)))
      | (have ho : Ow wb (w.heap.size + 2) Q m q cs := Ow.lower HOB.out (by first | omega | (simp; omega))
         exact Ow.low _ (by omega) (Ow.low _ (by omega) ho))
      | exact Ap.of_lt HOA.out HOB.out (by simp)
      | (have hk := HKR.out
         have hz : Blk wb (w.heap.size + 1) 40 #[.int .i64 0, .int .i64 0, .int .i64 0, .slice none 0 0, .slice none 0 0] := by (repeat (first | with_reducible assumption | (with_reducible refine Blk.drew ?_) | (with_reducible refine Blk.drewN ?_ _) | ((with_reducible refine Blk.new _ _ _ ?_); (focus first | rfl | (simp; done) | omega)) | (with_reducible refine Blk.alloc ?_ _) | ((with_reducible refine Blk.far ?_ _ ?_); rotate_left; (focus first | omega | (simp; done) | (simp; omega))) | ((with_reducible refine Blk.below (w := ?_) ?_ ?_); rotate_left; (with_reducible assumption))))
         exact Blk.far (Blk.far hz _ (by omega)) _ (by omega))
      | (have hk := HKP.out
         have hz : Blk wb w.heap.size 40 #[.int .i64 s, .int .i64 wd, .int .i64 ht, .slice A n c, .slice B m d] := by (repeat (first | with_reducible assumption | (with_reducible refine Blk.drew ?_) | (with_reducible refine Blk.drewN ?_ _) | ((with_reducible refine Blk.new _ _ _ ?_); (focus first | rfl | (simp; done) | omega)) | (with_reducible refine Blk.alloc ?_ _) | ((with_reducible refine Blk.far ?_ _ ?_); rotate_left; (focus first | omega | (simp; done) | (simp; omega))) | ((with_reducible refine Blk.below (w := ?_) ?_ ?_); rotate_left; (with_reducible assumption))))
         have hy := (hz.set_ 3 (.slice P n p)).set_ 4 (.slice Q m q)
         simpa using hy)
  case rest =>
    (try clear w1' w2')
    obtain ⟨rfl, P, p, Q, q, HB, HO, HO2, AP, HK, HK2⟩ := hcut
    have hz := HB.out.size
    obtain ⟨gP, rfl, hP1, hP2, cP, fP⟩ := ow_at HO.out hKn
    obtain ⟨gQ, rfl, hQ1, hQ2, cQ, fQ⟩ := ow_at HO2.out hKm
    have hne : gP ≠ gQ := AP.out _ _ rfl rfl
    have hne2 : gQ ≠ gP := fun e => hne e.symm
    have t0 := HK2.out.cell 0
    have t1 := HK2.out.cell 1
    have t2 := HK2.out.cell 2
    have t3 := HK2.out.cell 3
    have t4 := HK2.out.cell 4
    have r0 := HK.out.cell 0
    have r1 := HK.out.cell 1
    have r2 := HK.out.cell 2
    have r3 := HK.out.cell 3
    have r4 := HK.out.cell 4
    have v0 := HK.out.free 0
    have v1 := HK.out.free 1
    have v2 := HK.out.free 2
    have v3 := HK.out.free 3
    have v4 := HK.out.free 4
    simp at t0 t1 t2 t3 t4 r0 r1 r2 r3 r4
    have l3 : w.heap.size ≠ gP := by omega
    have l4 : w.heap.size ≠ gQ := by omega
    have l5 : w.heap.size + 1 ≠ gP := by omega
    have l6 : w.heap.size + 1 ≠ gQ := by omega
    clear p0 p1 p2 p3 p4 q3 q4 OA OB HKR HKP
    have i0 : (0 : Int) ≤ (K : Int) := by omega
    have i1 : (K : Int) < (n : Int) := by omega
    have i2 : (K : Int) < (m : Int) := by omega
    go_wp2_with fail
    go_region
    go_wp2_with fail
    refine ret_world fun W hW => ?_
    have q1 : w.heap.size ≤ gP := by omega
    have q2 : w.heap.size ≤ gQ := by omega
    obtain ⟨W0, hW0, rfl⟩ : ∃ W0 : World, W0 = ((((((wc.setCell ⟨gP, K, none⟩ (.int .i64 h)).setCell ⟨gQ, K, none⟩ (.int .i64 k)).setCell ⟨w.heap.size + 1, 0, none⟩ (.int .i64 s)).setCell ⟨w.heap.size + 1, 1, none⟩ (.int .i64 wd)).setCell ⟨w.heap.size + 1, 2, none⟩ (.int .i64 ht)).setCell ⟨w.heap.size + 1, 3, none⟩ (.slice (some ⟨gP, 0, none⟩) n p)).setCell ⟨w.heap.size + 1, 4, none⟩ (.slice (some ⟨gQ, 0, none⟩) m q) ∧ W = W0.drew := ⟨_, rfl, hW⟩
    clear hW
    obtain ⟨c0, c1, c2, c3, c4⟩ := box5n ((far_cell _ l6).trans ((far_cell _ l5).trans r0)) ((far_cell _ l6).trans ((far_cell _ l5).trans r1)) ((far_cell _ l6).trans ((far_cell _ l5).trans r2)) ((far_cell _ l6).trans ((far_cell _ l5).trans r3)) ((far_cell _ l6).trans ((far_cell _ l5).trans r4)) hW0
    have hB := box5n_below ((HB.out.setCell (p := ⟨gP, K, none⟩) q1 (.int .i64 h)).setCell (p := ⟨gQ, K, none⟩) q2 (.int .i64 k)) (by omega) hW0
    have d0 : W0.drew.cell? ⟨w.heap.size + 1, 0, none⟩ = some (.int .i64 s) := c0
    have d1 : W0.drew.cell? ⟨w.heap.size + 1, 1, none⟩ = some (.int .i64 wd) := c1
    have d2 : W0.drew.cell? ⟨w.heap.size + 1, 2, none⟩ = some (.int .i64 ht) := c2
    have d3 : W0.drew.cell? ⟨w.heap.size + 1, 3, none⟩ = some (.slice (some ⟨gP, 0, none⟩) n p) := c3
    have d4 : W0.drew.cell? ⟨w.heap.size + 1, 4, none⟩ = some (.slice (some ⟨gQ, 0, none⟩) m q) := c4
    have oP : Ow W0 w.heap.size (some ⟨gP, 0, none⟩) n p (hs.set K h) := by
      rw [hW0]
      exact Ow.lower (Ow.far' _ l5.symm (Ow.far' _ l5.symm (Ow.far' _ l5.symm (Ow.far' _ l5.symm (Ow.far' _ l5.symm (Ow.far' _ hne (ow_put h HO.out hKn))))))) (by omega)
    have oQ : Ow W0 w.heap.size (some ⟨gQ, 0, none⟩) m q (cs.set K k) := by
      rw [hW0]
      exact Ow.lower (Ow.far' _ l6.symm (Ow.far' _ l6.symm (Ow.far' _ l6.symm (Ow.far' _ l6.symm (Ow.far' _ l6.symm (ow_put k (Ow.far' _ hne2 HO2.out) hKm)))))) (by omega)
    clear hW0
    exact bodyPost_ret (v := .tuple #[.agg #[.int .i64 s, .int .i64 wd, .int .i64 ht, .slice (some ⟨gP, 0, none⟩) n p, .slice (some ⟨gQ, 0, none⟩) m q], .int .i64 0]) (by simp [results, Try.results30, go_sem, c0, c1, c2, c3, c4, d0, d1, d2, d3, d4]) rfl ⟨_, p, _, q, rfl, oP.drew, oQ.drew, AP.out, hB.drew⟩

end Go.Proofs.Ytjbnmjifejlepaa.WalkSJ
