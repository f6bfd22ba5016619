/- ProfileOf and ProfileClutter: the reference's. Printed by mkpr.py. -/
import Derived.Test.YtpgjllpiefpjjaaWalkPq
namespace Go.Proofs.Ytpgjllpiefpjjaa.WalkPr
open Go Go.RowKit Go.Proofs.Ytpgjllpiefpjjaa.Base Go.Proofs.Ytpgjllpiefpjjaa.Plain Go.Proofs.Ytpgjllpiefpjjaa.PlainT Go.Proofs.Ytpgjllpiefpjjaa.PlainH Go.Proofs.Ytpgjllpiefpjjaa.Words Go.Proofs.Ytpgjllpiefpjjaa.Ints Go.Proofs.Ytpgjllpiefpjjaa.WalkN Go.Proofs.Ytpgjllpiefpjjaa.WalkP Go.Proofs.Ytpgjllpiefpjjaa.WalkI Go.Proofs.Ytpgjllpiefpjjaa.WalkU Go.Proofs.Ytpgjllpiefpjjaa.WalkW Go.Proofs.Ytpgjllpiefpjjaa.WalkY Go.Proofs.Ytpgjllpiefpjjaa.WalkH Go.Proofs.Ytpgjllpiefpjjaa.WalkHH0 Go.Proofs.Ytpgjllpiefpjjaa.WalkHH Go.Proofs.Ytpgjllpiefpjjaa.WalkQ Go.Proofs.Ytpgjllpiefpjjaa.WalkAp Go.Proofs.Ytpgjllpiefpjjaa.Cells Go.Proofs.Ytpgjllpiefpjjaa.Pts Go.Proofs.Ytpgjllpiefpjjaa.WalkPI Go.Proofs.Ytpgjllpiefpjjaa.WalkNr Go.Proofs.Ytpgjllpiefpjjaa.WalkPl Go.Proofs.Ytpgjllpiefpjjaa.WalkPm Go.Proofs.Ytpgjllpiefpjjaa.WalkPn Go.Proofs.Ytpgjllpiefpjjaa.WalkPo Go.Proofs.Ytpgjllpiefpjjaa.WalkPq
set_option linter.unusedVariables false
set_option linter.unusedSimpArgs false

theorem pro_no {s wd ht : Int} {n m : Nat} {hs cs : List Int} {ax ay bx cy nn C : Int} {f : Int → Int → Int} (hC : askC s wd ht n m hs cs ax ay bx cy nn = C) (h : (C == 0) = false) : proR s wd ht n m hs cs ax ay bx cy nn f = ([], C) := by
  unfold proR
  rw [hC, h]
  rfl
theorem pro_yes {s wd ht : Int} {n m : Nat} {hs cs : List Int} {ax ay bx cy nn : Int} {f : Int → Int → Int} (h : (askC s wd ht n m hs cs ax ay bx cy nn == 0) = true) : proR s wd ht n m hs cs ax ay bx cy nn f = ((places ax ay bx cy nn.toNat).map (fun p => f p.1 p.2), 0) := by
  unfold proR
  rw [h]
  rfl
theorem map_len {ax ay bx cy : Int} {N : Nat} {f : PT → Int} : ((places ax ay bx cy N).map f).length = N := by rw [List.length_map, places_len]

set_option maxHeartbeats 8000000 in
theorem specProfileOf (s wd ht : Int) (A B : Option Addr) (n c m d : Nat) (hs cs : List Int) (ax ay bx cy nn : Int) (w : World) (ra : Rd w A n hs) (rb : Rd w B m cs) (hn : n ≤ maxLen) (hm : m ≤ maxLen) :
    Calls Try.prog 28 #[.agg #[.int .i64 s, .int .i64 wd, .int .i64 ht, .slice A n c, .slice B m d], .agg #[.int .i64 ax, .int .i64 ay], .agg #[.int .i64 bx, .int .i64 cy], .int .i64 nn] w fun e w' => PoRes (proR s wd ht n m hs cs ax ay bx cy nn (fun x y => hgtF s wd ht hs x y)).1 (proR s wd ht n m hs cs ax ay bx cy nn (fun x y => hgtF s wd ht hs x y)).1.length (proR s wd ht n m hs cs ax ay bx cy nn (fun x y => hgtF s wd ht hs x y)).2 w e w' := by
  have A1 := Lib.hid (specAsk s wd ht A B n c m d hs cs ax ay bx cy nn w.heap.size (((w.alloc (.cells #[.int .i64 s, .int .i64 wd, .int .i64 ht, .slice A n c, .slice B m d] 40)).alloc (.cells #[.int .i64 ax, .int .i64 ay] 30)).alloc (.cells #[.int .i64 bx, .int .i64 cy] 30)) (((ra.alloc _).alloc _).alloc _) (((rb.alloc _).alloc _).alloc _) hn hm (by (((try dsimp only); (repeat' apply And.intro) <;> (repeat (first | with_reducible assumption | (with_reducible refine keep_drew ?_) | (with_reducible refine keep_drewN ?_) | ((with_reducible refine keep_new _ _ _ _ _ _ ?_ ?_) <;> (first | rfl | (simp; done) | omega)) | (with_reducible refine keep_alloc _ ?_) | ((with_reducible refine keep_set _ ?_ ?_); (focus first | omega | (simp; done) | (simp; omega))) | ((with_reducible refine keep_set' _ ?_ ?_); (focus first | omega | (simp; done))) | ((with_reducible refine keep_same (u := ?_) _ ?_); rotate_left) | ((with_reducible refine keep_setA _ ?_ ?_); (focus first | omega | (simp; done) | (simp; omega))) | ((with_reducible refine keep_below (w := ?_) ?_ ?_); rotate_left; (with_reducible assumption))))))) (by (((try dsimp only); (repeat' apply And.intro) <;> (repeat (first | with_reducible assumption | (with_reducible refine keep_drew ?_) | (with_reducible refine keep_drewN ?_) | ((with_reducible refine keep_new _ _ _ _ _ _ ?_ ?_) <;> (first | rfl | (simp; done) | omega)) | (with_reducible refine keep_alloc _ ?_) | ((with_reducible refine keep_set _ ?_ ?_); (focus first | omega | (simp; done) | (simp; omega))) | ((with_reducible refine keep_set' _ ?_ ?_); (focus first | omega | (simp; done))) | ((with_reducible refine keep_same (u := ?_) _ ?_); rotate_left) | ((with_reducible refine keep_setA _ ?_ ?_); (focus first | omega | (simp; done) | (simp; omega))) | ((with_reducible refine keep_below (w := ?_) ?_ ?_); rotate_left; (with_reducible assumption))))))) (by (((try dsimp only); (repeat' apply And.intro) <;> (repeat (first | with_reducible assumption | (with_reducible refine keep_drew ?_) | (with_reducible refine keep_drewN ?_) | ((with_reducible refine keep_new _ _ _ _ _ _ ?_ ?_) <;> (first | rfl | (simp; done) | omega)) | (with_reducible refine keep_alloc _ ?_) | ((with_reducible refine keep_set _ ?_ ?_); (focus first | omega | (simp; done) | (simp; omega))) | ((with_reducible refine keep_set' _ ?_ ?_); (focus first | omega | (simp; done))) | ((with_reducible refine keep_same (u := ?_) _ ?_); rotate_left) | ((with_reducible refine keep_setA _ ?_ ?_); (focus first | omega | (simp; done) | (simp; omega))) | ((with_reducible refine keep_below (w := ?_) ?_ ?_); rotate_left; (with_reducible assumption))))))) (by (((try dsimp only); (repeat' apply And.intro) <;> (repeat (first | with_reducible assumption | (with_reducible refine keep_drew ?_) | (with_reducible refine keep_drewN ?_) | ((with_reducible refine keep_new _ _ _ _ _ _ ?_ ?_) <;> (first | rfl | (simp; done) | omega)) | (with_reducible refine keep_alloc _ ?_) | ((with_reducible refine keep_set _ ?_ ?_); (focus first | omega | (simp; done) | (simp; omega))) | ((with_reducible refine keep_set' _ ?_ ?_); (focus first | omega | (simp; done))) | ((with_reducible refine keep_same (u := ?_) _ ?_); rotate_left) | ((with_reducible refine keep_setA _ ?_ ?_); (focus first | omega | (simp; done) | (simp; omega))) | ((with_reducible refine keep_below (w := ?_) ?_ ?_); rotate_left; (with_reducible assumption))))))) (by (((try dsimp only); (repeat' apply And.intro) <;> (repeat (first | with_reducible assumption | (with_reducible refine keep_drew ?_) | (with_reducible refine keep_drewN ?_) | ((with_reducible refine keep_new _ _ _ _ _ _ ?_ ?_) <;> (first | rfl | (simp; done) | omega)) | (with_reducible refine keep_alloc _ ?_) | ((with_reducible refine keep_set _ ?_ ?_); (focus first | omega | (simp; done) | (simp; omega))) | ((with_reducible refine keep_set' _ ?_ ?_); (focus first | omega | (simp; done))) | ((with_reducible refine keep_same (u := ?_) _ ?_); rotate_left) | ((with_reducible refine keep_setA _ ?_ ?_); (focus first | omega | (simp; done) | (simp; omega))) | ((with_reducible refine keep_below (w := ?_) ?_ ?_); rotate_left; (with_reducible assumption))))))))
  have RA := Lib.hid ((((ra.alloc (.cells #[.int .i64 s, .int .i64 wd, .int .i64 ht, .slice A n c, .slice B m d] 40)).alloc (.cells #[.int .i64 ax, .int .i64 ay] 30)).alloc (.cells #[.int .i64 bx, .int .i64 cy] 30)))
  have RB := Lib.hid ((((rb.alloc (.cells #[.int .i64 s, .int .i64 wd, .int .i64 ht, .slice A n c, .slice B m d] 40)).alloc (.cells #[.int .i64 ax, .int .i64 ay] 30)).alloc (.cells #[.int .i64 bx, .int .i64 cy] 30)))
  clear ra rb
  cases hC : askC s wd ht n m hs cs ax ay bx cy nn == 0
  · obtain ⟨C, hA⟩ : ∃ C, askC s wd ht n m hs cs ax ay bx cy nn = C := ⟨_, rfl⟩
    rw [hA] at hC A1
    rw [pro_no hA hC]
    clear hA RA RB
    go_enter Try.func28, Try.ntmps28
    go_wp2_with fail
    refine A1.out.mono ?_
    rintro e w1 ⟨rfl, hb⟩
    go_wp2_with fail
    go_ret2
    exact ⟨none, 0, rfl, Ow.nil _ _, (by repeat (first | with_reducible exact Below.refl _ _ | with_reducible assumption | (with_reducible refine Below.drew ?_) | (with_reducible refine below_drewN ?_ _) | ((with_reducible refine Below.alloc ?_ ?_ _); rotate_left; (focus first | exact Nat.le_refl _ | omega | (simp; done) | (simp; omega))) | ((with_reducible refine Below.setCell ?_ ?_ _); rotate_left; (focus first | exact Nat.le_refl _ | omega | (simp; done) | (simp; omega))) | ((with_reducible refine below_via (W := ?_) ?_ ?_ ?_); rotate_left; (with_reducible assumption); rotate_left; (focus first | exact Nat.le_refl _ | omega | (simp; done) | (simp; omega)))))⟩
  · obtain ⟨hT, h1, h2, h3, h4, h5⟩ := ask_yes hC
    obtain ⟨hz, hnn, hmn, hha, hca⟩ := ter_yes hT
    have hA : askC s wd ht n m hs cs ax ay bx cy nn = 0 := by simpa using hC
    rw [hA] at A1
    rw [pro_yes hC]
    have b3 := inB_yes h3
    obtain ⟨N, rfl⟩ : ∃ N : Nat, nn = (N : Int) := ⟨nn.toNat, by omega⟩
    rw [Int.toNat_natCast, map_len]
    have hN : 2 ≤ N ∧ N ≤ 65 := by omega
    have HIN := Lib.hid (fun k (hk : k < N) => places_in (n := N) (k := k) h4 h5 hN.1 hk)
    have HP := Lib.hid (fun W (t0 : W.cell? ⟨w.heap.size, 0, none⟩ = some (.int .i64 s)) (t1 : W.cell? ⟨w.heap.size, 1, none⟩ = some (.int .i64 wd)) (t2 : W.cell? ⟨w.heap.size, 2, none⟩ = some (.int .i64 ht)) (t3 : W.cell? ⟨w.heap.size, 3, none⟩ = some (.slice A n c)) (r : Rd W A n hs) =>
      specProf (fun x y => hgtF s wd ht hs x y) ax ay bx cy N w.heap.size W h1 h2 hN (fun k hk W' hb' => specHgt s wd ht A n c hs _ _ w.heap.size W' (Rd.below hb' r) hz (HIN.out k hk) hnn hha (keep_below hb' t0) (keep_below hb' t1) (keep_below hb' t2) (keep_below hb' t3)))
    clear hA hC hT h1 h2 h3 h4 h5 hz hnn hmn hha hca
    go_enter Try.func28, Try.ntmps28
    go_wp2_with fail
    refine A1.out.mono ?_
    rintro e w1 ⟨rfl, hb⟩
    have t0 : w1.cell? ⟨w.heap.size, 0, none⟩ = some (.int .i64 s) := by (((try dsimp only); (repeat' apply And.intro) <;> (repeat (first | with_reducible assumption | (with_reducible refine keep_drew ?_) | (with_reducible refine keep_drewN ?_) | ((with_reducible refine keep_new _ _ _ _ _ _ ?_ ?_) <;> (first | rfl | (simp; done) | omega)) | (with_reducible refine keep_alloc _ ?_) | ((with_reducible refine keep_set _ ?_ ?_); (focus first | omega | (simp; done) | (simp; omega))) | ((with_reducible refine keep_set' _ ?_ ?_); (focus first | omega | (simp; done))) | ((with_reducible refine keep_same (u := ?_) _ ?_); rotate_left) | ((with_reducible refine keep_setA _ ?_ ?_); (focus first | omega | (simp; done) | (simp; omega))) | ((with_reducible refine keep_below (w := ?_) ?_ ?_); rotate_left; (with_reducible assumption))))))
    have t1 : w1.cell? ⟨w.heap.size, 1, none⟩ = some (.int .i64 wd) := by (((try dsimp only); (repeat' apply And.intro) <;> (repeat (first | with_reducible assumption | (with_reducible refine keep_drew ?_) | (with_reducible refine keep_drewN ?_) | ((with_reducible refine keep_new _ _ _ _ _ _ ?_ ?_) <;> (first | rfl | (simp; done) | omega)) | (with_reducible refine keep_alloc _ ?_) | ((with_reducible refine keep_set _ ?_ ?_); (focus first | omega | (simp; done) | (simp; omega))) | ((with_reducible refine keep_set' _ ?_ ?_); (focus first | omega | (simp; done))) | ((with_reducible refine keep_same (u := ?_) _ ?_); rotate_left) | ((with_reducible refine keep_setA _ ?_ ?_); (focus first | omega | (simp; done) | (simp; omega))) | ((with_reducible refine keep_below (w := ?_) ?_ ?_); rotate_left; (with_reducible assumption))))))
    have t2 : w1.cell? ⟨w.heap.size, 2, none⟩ = some (.int .i64 ht) := by (((try dsimp only); (repeat' apply And.intro) <;> (repeat (first | with_reducible assumption | (with_reducible refine keep_drew ?_) | (with_reducible refine keep_drewN ?_) | ((with_reducible refine keep_new _ _ _ _ _ _ ?_ ?_) <;> (first | rfl | (simp; done) | omega)) | (with_reducible refine keep_alloc _ ?_) | ((with_reducible refine keep_set _ ?_ ?_); (focus first | omega | (simp; done) | (simp; omega))) | ((with_reducible refine keep_set' _ ?_ ?_); (focus first | omega | (simp; done))) | ((with_reducible refine keep_same (u := ?_) _ ?_); rotate_left) | ((with_reducible refine keep_setA _ ?_ ?_); (focus first | omega | (simp; done) | (simp; omega))) | ((with_reducible refine keep_below (w := ?_) ?_ ?_); rotate_left; (with_reducible assumption))))))
    have t3 : w1.cell? ⟨w.heap.size, 3, none⟩ = some (.slice A n c) := by (((try dsimp only); (repeat' apply And.intro) <;> (repeat (first | with_reducible assumption | (with_reducible refine keep_drew ?_) | (with_reducible refine keep_drewN ?_) | ((with_reducible refine keep_new _ _ _ _ _ _ ?_ ?_) <;> (first | rfl | (simp; done) | omega)) | (with_reducible refine keep_alloc _ ?_) | ((with_reducible refine keep_set _ ?_ ?_); (focus first | omega | (simp; done) | (simp; omega))) | ((with_reducible refine keep_set' _ ?_ ?_); (focus first | omega | (simp; done))) | ((with_reducible refine keep_same (u := ?_) _ ?_); rotate_left) | ((with_reducible refine keep_setA _ ?_ ?_); (focus first | omega | (simp; done) | (simp; omega))) | ((with_reducible refine keep_below (w := ?_) ?_ ?_); rotate_left; (with_reducible assumption))))))
    have p0 : w1.cell? ⟨w.heap.size + 1, 0, none⟩ = some (.int .i64 ax) := by (((try dsimp only); (repeat' apply And.intro) <;> (repeat (first | with_reducible assumption | (with_reducible refine keep_drew ?_) | (with_reducible refine keep_drewN ?_) | ((with_reducible refine keep_new _ _ _ _ _ _ ?_ ?_) <;> (first | rfl | (simp; done) | omega)) | (with_reducible refine keep_alloc _ ?_) | ((with_reducible refine keep_set _ ?_ ?_); (focus first | omega | (simp; done) | (simp; omega))) | ((with_reducible refine keep_set' _ ?_ ?_); (focus first | omega | (simp; done))) | ((with_reducible refine keep_same (u := ?_) _ ?_); rotate_left) | ((with_reducible refine keep_setA _ ?_ ?_); (focus first | omega | (simp; done) | (simp; omega))) | ((with_reducible refine keep_below (w := ?_) ?_ ?_); rotate_left; (with_reducible assumption))))))
    have p1 : w1.cell? ⟨w.heap.size + 1, 1, none⟩ = some (.int .i64 ay) := by (((try dsimp only); (repeat' apply And.intro) <;> (repeat (first | with_reducible assumption | (with_reducible refine keep_drew ?_) | (with_reducible refine keep_drewN ?_) | ((with_reducible refine keep_new _ _ _ _ _ _ ?_ ?_) <;> (first | rfl | (simp; done) | omega)) | (with_reducible refine keep_alloc _ ?_) | ((with_reducible refine keep_set _ ?_ ?_); (focus first | omega | (simp; done) | (simp; omega))) | ((with_reducible refine keep_set' _ ?_ ?_); (focus first | omega | (simp; done))) | ((with_reducible refine keep_same (u := ?_) _ ?_); rotate_left) | ((with_reducible refine keep_setA _ ?_ ?_); (focus first | omega | (simp; done) | (simp; omega))) | ((with_reducible refine keep_below (w := ?_) ?_ ?_); rotate_left; (with_reducible assumption))))))
    have q0 : w1.cell? ⟨w.heap.size + 2, 0, none⟩ = some (.int .i64 bx) := by (((try dsimp only); (repeat' apply And.intro) <;> (repeat (first | with_reducible assumption | (with_reducible refine keep_drew ?_) | (with_reducible refine keep_drewN ?_) | ((with_reducible refine keep_new _ _ _ _ _ _ ?_ ?_) <;> (first | rfl | (simp; done) | omega)) | (with_reducible refine keep_alloc _ ?_) | ((with_reducible refine keep_set _ ?_ ?_); (focus first | omega | (simp; done) | (simp; omega))) | ((with_reducible refine keep_set' _ ?_ ?_); (focus first | omega | (simp; done))) | ((with_reducible refine keep_same (u := ?_) _ ?_); rotate_left) | ((with_reducible refine keep_setA _ ?_ ?_); (focus first | omega | (simp; done) | (simp; omega))) | ((with_reducible refine keep_below (w := ?_) ?_ ?_); rotate_left; (with_reducible assumption))))))
    have q1 : w1.cell? ⟨w.heap.size + 2, 1, none⟩ = some (.int .i64 cy) := by (((try dsimp only); (repeat' apply And.intro) <;> (repeat (first | with_reducible assumption | (with_reducible refine keep_drew ?_) | (with_reducible refine keep_drewN ?_) | ((with_reducible refine keep_new _ _ _ _ _ _ ?_ ?_) <;> (first | rfl | (simp; done) | omega)) | (with_reducible refine keep_alloc _ ?_) | ((with_reducible refine keep_set _ ?_ ?_); (focus first | omega | (simp; done) | (simp; omega))) | ((with_reducible refine keep_set' _ ?_ ?_); (focus first | omega | (simp; done))) | ((with_reducible refine keep_same (u := ?_) _ ?_); rotate_left) | ((with_reducible refine keep_setA _ ?_ ?_); (focus first | omega | (simp; done) | (simp; omega))) | ((with_reducible refine keep_below (w := ?_) ?_ ?_); rotate_left; (with_reducible assumption))))))
    have P1 := Lib.hid (HP.out w1 t0 t1 t2 t3 (Rd.below hb RA.out))
    have B1 : Below w.heap.size w w1 := (by repeat (first | with_reducible exact Below.refl _ _ | with_reducible assumption | (with_reducible refine Below.drew ?_) | (with_reducible refine below_drewN ?_ _) | ((with_reducible refine Below.alloc ?_ ?_ _); rotate_left; (focus first | exact Nat.le_refl _ | omega | (simp; done) | (simp; omega))) | ((with_reducible refine Below.setCell ?_ ?_ _); rotate_left; (focus first | exact Nat.le_refl _ | omega | (simp; done) | (simp; omega))) | ((with_reducible refine below_via (W := ?_) ?_ ?_ ?_); rotate_left; (with_reducible assumption); rotate_left; (focus first | exact Nat.le_refl _ | omega | (simp; done) | (simp; omega)))))
    have lb : w.heap.size + 2 < w1.heap.size := World.block_lt_of_cell? _ _ q0
    clear hb t0 t1 t2 t3
    go_wp2_with fail
    refine P1.out.mono ?_
    rintro e w2 ⟨B2, q2, rfl, ho, hb2⟩
    go_wp2_with fail
    go_ret2
    exact ⟨B2, q2, rfl, Ow.lower ho (by omega), below_via hb2 B1 B1.size⟩

set_option maxHeartbeats 8000000 in
theorem specProfileClutter (s wd ht : Int) (A B : Option Addr) (n c m d : Nat) (hs cs : List Int) (ax ay bx cy nn : Int) (w : World) (ra : Rd w A n hs) (rb : Rd w B m cs) (hn : n ≤ maxLen) (hm : m ≤ maxLen) :
    Calls Try.prog 33 #[.agg #[.int .i64 s, .int .i64 wd, .int .i64 ht, .slice A n c, .slice B m d], .agg #[.int .i64 ax, .int .i64 ay], .agg #[.int .i64 bx, .int .i64 cy], .int .i64 nn] w fun e w' => PoRes (proR s wd ht n m hs cs ax ay bx cy nn (fun x y => cluF s wd cs x y)).1 (proR s wd ht n m hs cs ax ay bx cy nn (fun x y => cluF s wd cs x y)).1.length (proR s wd ht n m hs cs ax ay bx cy nn (fun x y => cluF s wd cs x y)).2 w e w' := by
  have A1 := Lib.hid (specAsk s wd ht A B n c m d hs cs ax ay bx cy nn w.heap.size (((w.alloc (.cells #[.int .i64 s, .int .i64 wd, .int .i64 ht, .slice A n c, .slice B m d] 40)).alloc (.cells #[.int .i64 ax, .int .i64 ay] 30)).alloc (.cells #[.int .i64 bx, .int .i64 cy] 30)) (((ra.alloc _).alloc _).alloc _) (((rb.alloc _).alloc _).alloc _) hn hm (by (((try dsimp only); (repeat' apply And.intro) <;> (repeat (first | with_reducible assumption | (with_reducible refine keep_drew ?_) | (with_reducible refine keep_drewN ?_) | ((with_reducible refine keep_new _ _ _ _ _ _ ?_ ?_) <;> (first | rfl | (simp; done) | omega)) | (with_reducible refine keep_alloc _ ?_) | ((with_reducible refine keep_set _ ?_ ?_); (focus first | omega | (simp; done) | (simp; omega))) | ((with_reducible refine keep_set' _ ?_ ?_); (focus first | omega | (simp; done))) | ((with_reducible refine keep_same (u := ?_) _ ?_); rotate_left) | ((with_reducible refine keep_setA _ ?_ ?_); (focus first | omega | (simp; done) | (simp; omega))) | ((with_reducible refine keep_below (w := ?_) ?_ ?_); rotate_left; (with_reducible assumption))))))) (by (((try dsimp only); (repeat' apply And.intro) <;> (repeat (first | with_reducible assumption | (with_reducible refine keep_drew ?_) | (with_reducible refine keep_drewN ?_) | ((with_reducible refine keep_new _ _ _ _ _ _ ?_ ?_) <;> (first | rfl | (simp; done) | omega)) | (with_reducible refine keep_alloc _ ?_) | ((with_reducible refine keep_set _ ?_ ?_); (focus first | omega | (simp; done) | (simp; omega))) | ((with_reducible refine keep_set' _ ?_ ?_); (focus first | omega | (simp; done))) | ((with_reducible refine keep_same (u := ?_) _ ?_); rotate_left) | ((with_reducible refine keep_setA _ ?_ ?_); (focus first | omega | (simp; done) | (simp; omega))) | ((with_reducible refine keep_below (w := ?_) ?_ ?_); rotate_left; (with_reducible assumption))))))) (by (((try dsimp only); (repeat' apply And.intro) <;> (repeat (first | with_reducible assumption | (with_reducible refine keep_drew ?_) | (with_reducible refine keep_drewN ?_) | ((with_reducible refine keep_new _ _ _ _ _ _ ?_ ?_) <;> (first | rfl | (simp; done) | omega)) | (with_reducible refine keep_alloc _ ?_) | ((with_reducible refine keep_set _ ?_ ?_); (focus first | omega | (simp; done) | (simp; omega))) | ((with_reducible refine keep_set' _ ?_ ?_); (focus first | omega | (simp; done))) | ((with_reducible refine keep_same (u := ?_) _ ?_); rotate_left) | ((with_reducible refine keep_setA _ ?_ ?_); (focus first | omega | (simp; done) | (simp; omega))) | ((with_reducible refine keep_below (w := ?_) ?_ ?_); rotate_left; (with_reducible assumption))))))) (by (((try dsimp only); (repeat' apply And.intro) <;> (repeat (first | with_reducible assumption | (with_reducible refine keep_drew ?_) | (with_reducible refine keep_drewN ?_) | ((with_reducible refine keep_new _ _ _ _ _ _ ?_ ?_) <;> (first | rfl | (simp; done) | omega)) | (with_reducible refine keep_alloc _ ?_) | ((with_reducible refine keep_set _ ?_ ?_); (focus first | omega | (simp; done) | (simp; omega))) | ((with_reducible refine keep_set' _ ?_ ?_); (focus first | omega | (simp; done))) | ((with_reducible refine keep_same (u := ?_) _ ?_); rotate_left) | ((with_reducible refine keep_setA _ ?_ ?_); (focus first | omega | (simp; done) | (simp; omega))) | ((with_reducible refine keep_below (w := ?_) ?_ ?_); rotate_left; (with_reducible assumption))))))) (by (((try dsimp only); (repeat' apply And.intro) <;> (repeat (first | with_reducible assumption | (with_reducible refine keep_drew ?_) | (with_reducible refine keep_drewN ?_) | ((with_reducible refine keep_new _ _ _ _ _ _ ?_ ?_) <;> (first | rfl | (simp; done) | omega)) | (with_reducible refine keep_alloc _ ?_) | ((with_reducible refine keep_set _ ?_ ?_); (focus first | omega | (simp; done) | (simp; omega))) | ((with_reducible refine keep_set' _ ?_ ?_); (focus first | omega | (simp; done))) | ((with_reducible refine keep_same (u := ?_) _ ?_); rotate_left) | ((with_reducible refine keep_setA _ ?_ ?_); (focus first | omega | (simp; done) | (simp; omega))) | ((with_reducible refine keep_below (w := ?_) ?_ ?_); rotate_left; (with_reducible assumption))))))))
  have RA := Lib.hid ((((ra.alloc (.cells #[.int .i64 s, .int .i64 wd, .int .i64 ht, .slice A n c, .slice B m d] 40)).alloc (.cells #[.int .i64 ax, .int .i64 ay] 30)).alloc (.cells #[.int .i64 bx, .int .i64 cy] 30)))
  have RB := Lib.hid ((((rb.alloc (.cells #[.int .i64 s, .int .i64 wd, .int .i64 ht, .slice A n c, .slice B m d] 40)).alloc (.cells #[.int .i64 ax, .int .i64 ay] 30)).alloc (.cells #[.int .i64 bx, .int .i64 cy] 30)))
  clear ra rb
  cases hC : askC s wd ht n m hs cs ax ay bx cy nn == 0
  · obtain ⟨C, hA⟩ : ∃ C, askC s wd ht n m hs cs ax ay bx cy nn = C := ⟨_, rfl⟩
    rw [hA] at hC A1
    rw [pro_no hA hC]
    clear hA RA RB
    go_enter Try.func33, Try.ntmps33
    go_wp2_with fail
    refine A1.out.mono ?_
    rintro e w1 ⟨rfl, hb⟩
    go_wp2_with fail
    go_ret2
    exact ⟨none, 0, rfl, Ow.nil _ _, (by repeat (first | with_reducible exact Below.refl _ _ | with_reducible assumption | (with_reducible refine Below.drew ?_) | (with_reducible refine below_drewN ?_ _) | ((with_reducible refine Below.alloc ?_ ?_ _); rotate_left; (focus first | exact Nat.le_refl _ | omega | (simp; done) | (simp; omega))) | ((with_reducible refine Below.setCell ?_ ?_ _); rotate_left; (focus first | exact Nat.le_refl _ | omega | (simp; done) | (simp; omega))) | ((with_reducible refine below_via (W := ?_) ?_ ?_ ?_); rotate_left; (with_reducible assumption); rotate_left; (focus first | exact Nat.le_refl _ | omega | (simp; done) | (simp; omega)))))⟩
  · obtain ⟨hT, h1, h2, h3, h4, h5⟩ := ask_yes hC
    obtain ⟨hz, hnn, hmn, hha, hca⟩ := ter_yes hT
    have hA : askC s wd ht n m hs cs ax ay bx cy nn = 0 := by simpa using hC
    rw [hA] at A1
    rw [pro_yes hC]
    have b3 := inB_yes h3
    obtain ⟨N, rfl⟩ : ∃ N : Nat, nn = (N : Int) := ⟨nn.toNat, by omega⟩
    rw [Int.toNat_natCast, map_len]
    have hN : 2 ≤ N ∧ N ≤ 65 := by omega
    have HIN := Lib.hid (fun k (hk : k < N) => places_in (n := N) (k := k) h4 h5 hN.1 hk)
    have HH := Lib.hid (fun k (hk : k < N) W (t0 : W.cell? ⟨w.heap.size, 0, none⟩ = some (.int .i64 s)) (t1 : W.cell? ⟨w.heap.size, 1, none⟩ = some (.int .i64 wd)) (t4 : W.cell? ⟨w.heap.size, 4, none⟩ = some (.slice B m d)) (r : Rd W B m cs) =>
      specClu s wd ht B m d cs undef (at0 (places ax ay bx cy N) k) (at1 (places ax ay bx cy N) k) w.heap.size W r hz (HIN.out k hk) (by rw [hmn]; exact hnn) t0 t1 t4)
    have HP := Lib.hid (fun W => specPl ax ay bx cy N W h1 h2 hN)
    have HL := Lib.hid (places_len ax ay bx cy N)
    clear HIN hA hC hT h1 h2 h3 h4 h5 hz hnn hmn hha hca
    generalize places ax ay bx cy N = ps at *
    have HE : Hid (ps.length = N) := HL
    obtain ⟨f, hf⟩ : ∃ f : Int → Int → Int, f = fun x y => cluF s wd cs x y := ⟨_, rfl⟩
    have HFF : Hid (∀ x y, cluF s wd cs x y = f x y) := Lib.hid (fun x y => by rw [hf])
    rw [show (ps.map fun p => cluF s wd cs p.1 p.2) = ps.map fun p => f p.1 p.2 by rw [hf]]
    clear hf
    obtain ⟨i0, hi, hz0, hz1, hz2⟩ := info_parts infoI
    go_enter Try.func33, Try.ntmps33
    go_wp2_with fail
    refine A1.out.mono ?_
    rintro e w1 ⟨rfl, hb⟩
    have t0 : w1.cell? ⟨w.heap.size, 0, none⟩ = some (.int .i64 s) := by (((try dsimp only); (repeat' apply And.intro) <;> (repeat (first | with_reducible assumption | (with_reducible refine keep_drew ?_) | (with_reducible refine keep_drewN ?_) | ((with_reducible refine keep_new _ _ _ _ _ _ ?_ ?_) <;> (first | rfl | (simp; done) | omega)) | (with_reducible refine keep_alloc _ ?_) | ((with_reducible refine keep_set _ ?_ ?_); (focus first | omega | (simp; done) | (simp; omega))) | ((with_reducible refine keep_set' _ ?_ ?_); (focus first | omega | (simp; done))) | ((with_reducible refine keep_same (u := ?_) _ ?_); rotate_left) | ((with_reducible refine keep_setA _ ?_ ?_); (focus first | omega | (simp; done) | (simp; omega))) | ((with_reducible refine keep_below (w := ?_) ?_ ?_); rotate_left; (with_reducible assumption))))))
    have t1 : w1.cell? ⟨w.heap.size, 1, none⟩ = some (.int .i64 wd) := by (((try dsimp only); (repeat' apply And.intro) <;> (repeat (first | with_reducible assumption | (with_reducible refine keep_drew ?_) | (with_reducible refine keep_drewN ?_) | ((with_reducible refine keep_new _ _ _ _ _ _ ?_ ?_) <;> (first | rfl | (simp; done) | omega)) | (with_reducible refine keep_alloc _ ?_) | ((with_reducible refine keep_set _ ?_ ?_); (focus first | omega | (simp; done) | (simp; omega))) | ((with_reducible refine keep_set' _ ?_ ?_); (focus first | omega | (simp; done))) | ((with_reducible refine keep_same (u := ?_) _ ?_); rotate_left) | ((with_reducible refine keep_setA _ ?_ ?_); (focus first | omega | (simp; done) | (simp; omega))) | ((with_reducible refine keep_below (w := ?_) ?_ ?_); rotate_left; (with_reducible assumption))))))
    have t4 : w1.cell? ⟨w.heap.size, 4, none⟩ = some (.slice B m d) := by (((try dsimp only); (repeat' apply And.intro) <;> (repeat (first | with_reducible assumption | (with_reducible refine keep_drew ?_) | (with_reducible refine keep_drewN ?_) | ((with_reducible refine keep_new _ _ _ _ _ _ ?_ ?_) <;> (first | rfl | (simp; done) | omega)) | (with_reducible refine keep_alloc _ ?_) | ((with_reducible refine keep_set _ ?_ ?_); (focus first | omega | (simp; done) | (simp; omega))) | ((with_reducible refine keep_set' _ ?_ ?_); (focus first | omega | (simp; done))) | ((with_reducible refine keep_same (u := ?_) _ ?_); rotate_left) | ((with_reducible refine keep_setA _ ?_ ?_); (focus first | omega | (simp; done) | (simp; omega))) | ((with_reducible refine keep_below (w := ?_) ?_ ?_); rotate_left; (with_reducible assumption))))))
    have p0 : w1.cell? ⟨w.heap.size + 1, 0, none⟩ = some (.int .i64 ax) := by (((try dsimp only); (repeat' apply And.intro) <;> (repeat (first | with_reducible assumption | (with_reducible refine keep_drew ?_) | (with_reducible refine keep_drewN ?_) | ((with_reducible refine keep_new _ _ _ _ _ _ ?_ ?_) <;> (first | rfl | (simp; done) | omega)) | (with_reducible refine keep_alloc _ ?_) | ((with_reducible refine keep_set _ ?_ ?_); (focus first | omega | (simp; done) | (simp; omega))) | ((with_reducible refine keep_set' _ ?_ ?_); (focus first | omega | (simp; done))) | ((with_reducible refine keep_same (u := ?_) _ ?_); rotate_left) | ((with_reducible refine keep_setA _ ?_ ?_); (focus first | omega | (simp; done) | (simp; omega))) | ((with_reducible refine keep_below (w := ?_) ?_ ?_); rotate_left; (with_reducible assumption))))))
    have p1 : w1.cell? ⟨w.heap.size + 1, 1, none⟩ = some (.int .i64 ay) := by (((try dsimp only); (repeat' apply And.intro) <;> (repeat (first | with_reducible assumption | (with_reducible refine keep_drew ?_) | (with_reducible refine keep_drewN ?_) | ((with_reducible refine keep_new _ _ _ _ _ _ ?_ ?_) <;> (first | rfl | (simp; done) | omega)) | (with_reducible refine keep_alloc _ ?_) | ((with_reducible refine keep_set _ ?_ ?_); (focus first | omega | (simp; done) | (simp; omega))) | ((with_reducible refine keep_set' _ ?_ ?_); (focus first | omega | (simp; done))) | ((with_reducible refine keep_same (u := ?_) _ ?_); rotate_left) | ((with_reducible refine keep_setA _ ?_ ?_); (focus first | omega | (simp; done) | (simp; omega))) | ((with_reducible refine keep_below (w := ?_) ?_ ?_); rotate_left; (with_reducible assumption))))))
    have q0 : w1.cell? ⟨w.heap.size + 2, 0, none⟩ = some (.int .i64 bx) := by (((try dsimp only); (repeat' apply And.intro) <;> (repeat (first | with_reducible assumption | (with_reducible refine keep_drew ?_) | (with_reducible refine keep_drewN ?_) | ((with_reducible refine keep_new _ _ _ _ _ _ ?_ ?_) <;> (first | rfl | (simp; done) | omega)) | (with_reducible refine keep_alloc _ ?_) | ((with_reducible refine keep_set _ ?_ ?_); (focus first | omega | (simp; done) | (simp; omega))) | ((with_reducible refine keep_set' _ ?_ ?_); (focus first | omega | (simp; done))) | ((with_reducible refine keep_same (u := ?_) _ ?_); rotate_left) | ((with_reducible refine keep_setA _ ?_ ?_); (focus first | omega | (simp; done) | (simp; omega))) | ((with_reducible refine keep_below (w := ?_) ?_ ?_); rotate_left; (with_reducible assumption))))))
    have q1 : w1.cell? ⟨w.heap.size + 2, 1, none⟩ = some (.int .i64 cy) := by (((try dsimp only); (repeat' apply And.intro) <;> (repeat (first | with_reducible assumption | (with_reducible refine keep_drew ?_) | (with_reducible refine keep_drewN ?_) | ((with_reducible refine keep_new _ _ _ _ _ _ ?_ ?_) <;> (first | rfl | (simp; done) | omega)) | (with_reducible refine keep_alloc _ ?_) | ((with_reducible refine keep_set _ ?_ ?_); (focus first | omega | (simp; done) | (simp; omega))) | ((with_reducible refine keep_set' _ ?_ ?_); (focus first | omega | (simp; done))) | ((with_reducible refine keep_same (u := ?_) _ ?_); rotate_left) | ((with_reducible refine keep_setA _ ?_ ?_); (focus first | omega | (simp; done) | (simp; omega))) | ((with_reducible refine keep_below (w := ?_) ?_ ?_); rotate_left; (with_reducible assumption))))))
    have T1 := Lib.hid (And.intro t0 (And.intro t1 t4))
    have R1 := Lib.hid (Rd.below hb RB.out)
    have B1 : Below w.heap.size w w1 := (by repeat (first | with_reducible exact Below.refl _ _ | with_reducible assumption | (with_reducible refine Below.drew ?_) | (with_reducible refine below_drewN ?_ _) | ((with_reducible refine Below.alloc ?_ ?_ _); rotate_left; (focus first | exact Nat.le_refl _ | omega | (simp; done) | (simp; omega))) | ((with_reducible refine Below.setCell ?_ ?_ _); rotate_left; (focus first | exact Nat.le_refl _ | omega | (simp; done) | (simp; omega))) | ((with_reducible refine below_via (W := ?_) ?_ ?_ ?_); rotate_left; (with_reducible assumption); rotate_left; (focus first | exact Nat.le_refl _ | omega | (simp; done) | (simp; omega)))))
    have lb : w.heap.size + 2 < w1.heap.size := World.block_lt_of_cell? _ _ q0
    clear hb t0 t1 t4 RA RB A1
    go_wp2_with fail
    refine (HP.out _).mono ?_
    rintro e w2 ⟨B0, k0, rfl, ho0, hb0⟩
    have HB0 : Hid (Below w1.heap.size w1 w2) := Lib.hid hb0
    have HB1 : Hid (Below w.heap.size w w1) := Lib.hid B1
    have HR := Lib.hid ho0.rd
    clear ho0 hb0 B1 p0 p1 q0 q1
    go_wp2_with fail
    go_loopw [12, 13] (fun l i wr => ∃ (k : Nat) (B : Option Addr) (q : Nat), k ≤ N ∧ i = .int .i64 (k : Int) ∧ l = .slice B k q ∧ Hid (Below w2.heap.size w2 wr) ∧ Hid (Ow wr w2.heap.size B k q ((ps.map fun p => f p.1 p.2).take k))) (fun _ i _ => N - (intOf i).toNat)
    case atStart => exact ⟨0, _, 0, by omega, rfl, rfl, Lib.hid (by repeat (first | with_reducible exact Below.refl _ _ | with_reducible assumption | (with_reducible refine Below.drew ?_) | (with_reducible refine below_drewN ?_ _) | ((with_reducible refine Below.alloc ?_ ?_ _); rotate_left; (focus first | exact Nat.le_refl _ | omega | (simp; done) | (simp; omega))) | ((with_reducible refine Below.setCell ?_ ?_ _); rotate_left; (focus first | exact Nat.le_refl _ | omega | (simp; done) | (simp; omega))) | ((with_reducible refine below_via (W := ?_) ?_ ?_ ?_); rotate_left; (with_reducible assumption); rotate_left; (focus first | exact Nat.le_refl _ | omega | (simp; done) | (simp; omega))))), Lib.hid (ow_empty _ _ (Nat.le_refl _))⟩
    case round =>
      obtain ⟨k, B3, q3, hk, rfl, rfl, HB, HO⟩ := hrel
      by_cases hlt : k < N
      · obtain ⟨ad, rfl, hc0, hc1⟩ := (Rp.below HB.out HR.out).at_ hlt
        have la : (ad.add (k * 2)).block < wr.heap.size := World.block_lt_of_cell? _ _ hc0
        have hbw := below_via HB.out HB0.out HB0.out.size
        have C := Lib.hid (HH.out k hlt wr (keep_below hbw T1.out.1) (keep_below hbw T1.out.2.1) (keep_below hbw T1.out.2.2) (Rd.below hbw R1.out))
        clear hbw
        rw [HFF.out] at C
        have HN := Lib.hid (pmap_next (f := f) HL.out hlt)
        obtain ⟨z, hz⟩ : ∃ z, f (at0 ps k) (at1 ps k) = z := ⟨_, rfl⟩
        rw [hz] at C HN
        obtain ⟨x, hx⟩ : ∃ x, at0 ps k = x := ⟨_, rfl⟩
        obtain ⟨y, hy⟩ : ∃ y, at1 ps k = y := ⟨_, rfl⟩
        rw [hx, hy] at C
        rw [hx] at hc0
        rw [hy] at hc1
        clear hz hx hy
        go_wp2_with fail
        refine C.out.mono ?_
        rintro e w4 ⟨rfl, hb2⟩
        have HB2 := Lib.hid (below_via hb2 HB.out HB.out.size)
        have HO2 := Lib.hid ((Ow.below hb2 HO.out).alloc (.cells #[.int .i64 z] 2))
        have hs2 : w2.heap.size ≤ (w4.alloc (.cells #[.int .i64 z] 2)).heap.size := by have := HB2.out.size; simp; omega
        clear hb2 hc0 hc1
        go_wp2_with (at_builtin; refine wpList_append_own _ rfl _ _ 38 rfl w2.heap.size 2 i0 (.int .i64 0) 1 8 Try.underlying38 hi hz0 hz1 hz2 rfl (by decide) (.slice B3 k q3) k _ rfl HO2.out ⟨w4.heap.size, 0, none⟩ 1 1 [.int .i64 z] rfl rfl (one_news _ _ _) (one_one z) (by unfold maxLen; omega) (by omega) hs2 ?_; intro v' w5 hown1 hgrow _)
        rw [HN.out] at hown1
        obtain ⟨B', q', rfl, ho1⟩ := row_form hown1 (by omega)
        have HB3 := Lib.hid ((HB2.out.alloc HB2.out.size (.cells #[.int .i64 z] 2)).trans (Gr.below (gr_own hgrow) (fun a e => (HO.out.block e).1) hs2))
        have HO3 := Lib.hid ho1
        clear hown1 hgrow ho1 hs2
        go_wp2_with fail
        go_roundw
        case rel => exact ⟨k + 1, B', q', by omega, by go_num, rfl, HB3, HO3⟩
        case measure => simp [intOf]; omega
      · obtain rfl : k = N := by omega
        have ho := HO.out
        rw [List.take_of_length_le (by rw [List.length_map, HL.out]; exact Nat.le_refl _)] at ho
        have HO2 := Lib.hid ho
        clear ho
        go_wp2_with fail
        go_ret2
        exact ⟨B3, q3, rfl, Ow.lower HO2.out (by have := HB0.out.size; omega), below_via (below_via HB.out HB0.out HB0.out.size) HB1.out HB1.out.size⟩

end Go.Proofs.Ytpgjllpiefpjjaa.WalkPr
