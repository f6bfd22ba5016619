/- ProfileOf and ProfileClutter: the program's. Printed by mkps.py. -/
import Derived.Test.YtpgjllpiefpjjaaWalkPr
namespace Go.Proofs.Ytpgjllpiefpjjaa.WalkPs
open Go Go.RowKit Go.Proofs.Ytpgjllpiefpjjaa.Base Go.Proofs.Ytpgjllpiefpjjaa.Plain Go.Proofs.Ytpgjllpiefpjjaa.PlainT Go.Proofs.Ytpgjllpiefpjjaa.PlainH Go.Proofs.Ytpgjllpiefpjjaa.Words Go.Proofs.Ytpgjllpiefpjjaa.Ints Go.Proofs.Ytpgjllpiefpjjaa.WalkN Go.Proofs.Ytpgjllpiefpjjaa.WalkP Go.Proofs.Ytpgjllpiefpjjaa.WalkI Go.Proofs.Ytpgjllpiefpjjaa.WalkU Go.Proofs.Ytpgjllpiefpjjaa.WalkW Go.Proofs.Ytpgjllpiefpjjaa.WalkY Go.Proofs.Ytpgjllpiefpjjaa.WalkH Go.Proofs.Ytpgjllpiefpjjaa.WalkHH0 Go.Proofs.Ytpgjllpiefpjjaa.WalkHH Go.Proofs.Ytpgjllpiefpjjaa.WalkQ Go.Proofs.Ytpgjllpiefpjjaa.WalkAp Go.Proofs.Ytpgjllpiefpjjaa.Cells Go.Proofs.Ytpgjllpiefpjjaa.Pts Go.Proofs.Ytpgjllpiefpjjaa.WalkPI Go.Proofs.Ytpgjllpiefpjjaa.WalkNr Go.Proofs.Ytpgjllpiefpjjaa.WalkPl Go.Proofs.Ytpgjllpiefpjjaa.WalkPm Go.Proofs.Ytpgjllpiefpjjaa.WalkPn Go.Proofs.Ytpgjllpiefpjjaa.WalkPo Go.Proofs.Ytpgjllpiefpjjaa.WalkPq Go.Proofs.Ytpgjllpiefpjjaa.WalkPr
set_option linter.unusedVariables false
set_option linter.unusedSimpArgs false

/-- the three boxes of a question -/
def TPB (s wd ht : Int) (A B : Option Addr) (n c m d : Nat) (ax ay bx cy : Int) (g : Nat) (W : World) : Prop :=
  Blk W g 40 #[.int .i64 s, .int .i64 wd, .int .i64 ht, .slice A n c, .slice B m d] ∧ Blk W (g + 1) 30 #[.int .i64 ax, .int .i64 ay] ∧ Blk W (g + 2) 30 #[.int .i64 bx, .int .i64 cy]
section
variable {s wd ht : Int} {A B : Option Addr} {n c m d : Nat} {ax ay bx cy : Int} {g : Nat} {W W1 : World}
theorem TPB.below (hb : Below W.heap.size W W1) (h : TPB s wd ht A B n c m d ax ay bx cy g W) : TPB s wd ht A B n c m d ax ay bx cy g W1 := ⟨Blk.below hb h.1, Blk.below hb h.2.1, Blk.below hb h.2.2⟩
theorem TPB.all (h : TPB s wd ht A B n c m d ax ay bx cy g W) : W.cell? ⟨g, 0, none⟩ = some (.int .i64 s) ∧ W.cell? ⟨g, 1, none⟩ = some (.int .i64 wd) ∧ W.cell? ⟨g, 2, none⟩ = some (.int .i64 ht) ∧ W.cell? ⟨g, 3, none⟩ = some (.slice A n c) ∧ W.cell? ⟨g, 4, none⟩ = some (.slice B m d) ∧ W.cell? ⟨g + 1, 0, none⟩ = some (.int .i64 ax) ∧ W.cell? ⟨g + 1, 1, none⟩ = some (.int .i64 ay) ∧ W.cell? ⟨g + 2, 0, none⟩ = some (.int .i64 bx) ∧ W.cell? ⟨g + 2, 1, none⟩ = some (.int .i64 cy) :=
  ⟨h.1.cell 0, h.1.cell 1, h.1.cell 2, h.1.cell 3, h.1.cell 4, h.2.1.cell 0, h.2.1.cell 1, h.2.2.cell 0, h.2.2.cell 1⟩
theorem TPB.lt (h : TPB s wd ht A B n c m d ax ay bx cy g W) : g + 2 < W.heap.size := h.2.2.lt
theorem TPB.new (W : World) : TPB s wd ht A B n c m d ax ay bx cy W.heap.size (((W.alloc (.cells #[.int .i64 s, .int .i64 wd, .int .i64 ht, .slice A n c, .slice B m d] 40)).alloc (.cells #[.int .i64 ax, .int .i64 ay] 30)).alloc (.cells #[.int .i64 bx, .int .i64 cy] 30)) := by
  refine ⟨?_, ?_, ?_⟩
  · exact ((Blk.new W _ _ rfl).alloc _).alloc _
  · have h := (Blk.new (W.alloc (.cells #[.int .i64 s, .int .i64 wd, .int .i64 ht, .slice A n c, .slice B m d] 40)) 30 #[.int .i64 ax, .int .i64 ay] rfl).alloc (.cells #[.int .i64 bx, .int .i64 cy] 30)
    simpa using h
  · have h := Blk.new ((W.alloc (.cells #[.int .i64 s, .int .i64 wd, .int .i64 ht, .slice A n c, .slice B m d] 40)).alloc (.cells #[.int .i64 ax, .int .i64 ay] 30)) 30 #[.int .i64 bx, .int .i64 cy] rfl
    simpa using h
end

theorem eqListI (A A' : Option Addr) (n c c' : Nat) (hs : List Int) (w : World) (r0 : Rd w A n hs) (q0 : Rd w A' n hs) (k0 : n ≤ maxLen) :
    Calls Try.prog 30 #[.slice A n c, .slice A' n c'] w fun e w' => e = .returned (.bool true) ∧ Below w.heap.size w w' :=
  (eqInts A A' n c c' hs w r0 q0 k0).mono fun e w' h => ⟨h.1, by obtain ⟨_, k, rfl⟩ := h; exact (by repeat (first | with_reducible exact Below.refl _ _ | with_reducible assumption | (with_reducible refine Below.drew ?_) | (with_reducible refine below_drewN ?_ _) | ((with_reducible refine Below.alloc ?_ ?_ _); rotate_left; (focus first | exact Nat.le_refl _ | omega | (simp; done) | (simp; omega))) | ((with_reducible refine Below.setCell ?_ ?_ _); rotate_left; (focus first | exact Nat.le_refl _ | omega | (simp; done) | (simp; omega))) | ((with_reducible refine below_via (W := ?_) ?_ ?_ ?_); rotate_left; (with_reducible assumption); rotate_left; (focus first | exact Nat.le_refl _ | omega | (simp; done) | (simp; omega)))))⟩
theorem markListI (A : Option Addr) (n c la : Nat) (hs : List Int) (m0 : Int) (w : World) (r0 : Ow w la A n c hs) (k0 : n ≤ 4194304) (hm : 0 ≤ m0 ∧ m0 ≤ 50000000) :
    Calls Try.prog 31 #[.slice A n c, .int .i64 m0] w fun e w' => e = .returned (.int .i64 (m0 + n)) ∧ Ow w' la A n c (upF m0 n) ∧ Gr2 w w' A none :=
  (markInts A n c la hs m0 w r0 k0 (by omega)).mono fun e w' h => ⟨h.1, h.2.1, (Gr2.refl w A none).left h.2.2⟩
theorem heldListI (A : Option Addr) (n c : Nat) (m0 : Int) (w : World) (r0 : Rd w A n (upF m0 n)) (k0 : n ≤ 4194304) (hm : 0 ≤ m0 ∧ m0 ≤ 50000000) :
    Calls Try.prog 32 #[.slice A n c, .int .i64 m0] w fun e w' => e = .returned (.int .i64 (m0 + n)) ∧ Below w.heap.size w w' :=
  (heldInts A n c m0 w r0 k0 (by omega)).mono fun e w' h => ⟨h.1, by obtain ⟨_, rfl⟩ := h; exact Below.refl _ _⟩

set_option maxHeartbeats 8000000 in
theorem profAt_h (s wd ht : Int) (A B : Option Addr) (n c m d : Nat) (hs cs : List Int) (ax ay bx cy nn : Int) (w : World) (ra : Rd w A n hs) (rb : Rd w B m cs) (hn : n ≤ maxLen) (hm : m ≤ maxLen) :
    Calls Try.prog 57 #[.agg #[.int .i64 s, .int .i64 wd, .int .i64 ht, .slice A n c, .slice B m d], .agg #[.int .i64 ax, .int .i64 ay], .agg #[.int .i64 bx, .int .i64 cy], .int .i64 nn, .func (.func 58) #[.agg #[.int .i64 s, .int .i64 wd, .int .i64 ht, .slice A n c, .slice B m d]] #[]] w fun e w' => PoRes (proR s wd ht n m hs cs ax ay bx cy nn (fun x y => hgtF s wd ht hs x y)).1 (proR s wd ht n m hs cs ax ay bx cy nn (fun x y => hgtF s wd ht hs x y)).1.length (proR s wd ht n m hs cs ax ay bx cy nn (fun x y => hgtF s wd ht hs x y)).2 w e w' := by
  have A1 := Lib.hid (fun W (hb : Below w.heap.size w W) => implTer s wd ht A B n c m d hs cs W (Rd.below hb ra) (Rd.below hb rb) hn hm)
  have V1 := Lib.hid (fun W => implOkB ax ay W)
  have V2 := Lib.hid (fun W => implOkB bx cy W)
  have RA := Lib.hid ra
  have RB := Lib.hid rb
  clear ra rb
  have W3 : ∃ W, W = (((w.alloc (.cells #[.int .i64 s, .int .i64 wd, .int .i64 ht, .slice A n c, .slice B m d] 40)).alloc (.cells #[.int .i64 ax, .int .i64 ay] 30)).alloc (.cells #[.int .i64 bx, .int .i64 cy] 30)) := ⟨_, rfl⟩
  have HT0 := Lib.hid (TPB.new (s := s) (wd := wd) (ht := ht) (A := A) (B := B) (n := n) (c := c) (m := m) (d := d) (ax := ax) (ay := ay) (bx := bx) (cy := cy) w)
  have HB0 : Hid (Below w.heap.size w (((w.alloc (.cells #[.int .i64 s, .int .i64 wd, .int .i64 ht, .slice A n c, .slice B m d] 40)).alloc (.cells #[.int .i64 ax, .int .i64 ay] 30)).alloc (.cells #[.int .i64 bx, .int .i64 cy] 30))) := Lib.hid (by repeat (first | with_reducible exact Below.refl _ _ | with_reducible assumption | (with_reducible refine Below.drew ?_) | (with_reducible refine below_drewN ?_ _) | ((with_reducible refine Below.alloc ?_ ?_ _); rotate_left; (focus first | exact Nat.le_refl _ | omega | (simp; done) | (simp; omega))) | ((with_reducible refine Below.setCell ?_ ?_ _); rotate_left; (focus first | exact Nat.le_refl _ | omega | (simp; done) | (simp; omega))) | ((with_reducible refine below_via (W := ?_) ?_ ?_ ?_); rotate_left; (with_reducible assumption); rotate_left; (focus first | exact Nat.le_refl _ | omega | (simp; done) | (simp; omega)))))
  cases h0 : terB s wd ht n m hs cs
  · rw [pro_no (show askC s wd ht n m hs cs ax ay bx cy nn = 1 by unfold askC; rw [h0]; simp) rfl]
    rw [h0] at A1
    clear h0 RA RB
    go_enter Try.func57, Try.ntmps57
    go_wp2_with fail
    refine (A1.out _ (HB0.out)).mono ?_
    rintro e w1 ⟨rfl, hb⟩
    have HT1 := Lib.hid (TPB.below hb HT0.out)
    have B1 : Below w.heap.size w w1 := below_via hb HB0.out HB0.out.size
    clear hb
    obtain ⟨t0, t1, t2, t3, t4, p0, p1, q0, q1⟩ := HT1.out.all
    have l1 := HT1.out.lt
    go_wp2_with fail
    go_ret2
    exact ⟨none, 0, rfl, Ow.nil _ _, B1⟩
  rw [h0] at A1
  have hz := (ter_yes h0).1
  have H1 := Lib.hid (fun W => implHas s wd ht ax ay A B n c m d W hz)
  have H2 := Lib.hid (fun W => implHas s wd ht bx cy A B n c m d W hz)
  cases h1 : okP ax ay
  · rw [pro_no (show askC s wd ht n m hs cs ax ay bx cy nn = 1 by unfold askC; rw [h0, h1]; simp) rfl]
    rw [h1] at V1
    clear h0 h1 RA RB hz
    go_enter Try.func57, Try.ntmps57
    go_wp2_with fail
    refine (A1.out _ (HB0.out)).mono ?_
    rintro e w1 ⟨rfl, hb⟩
    have HT1 := Lib.hid (TPB.below hb HT0.out)
    have B1 : Below w.heap.size w w1 := below_via hb HB0.out HB0.out.size
    clear hb
    obtain ⟨t0, t1, t2, t3, t4, p0, p1, q0, q1⟩ := HT1.out.all
    have l1 := HT1.out.lt
    go_wp2_with fail
    refine (V1.out _).mono ?_
    rintro e w2 ⟨rfl, hb⟩
    have HT2 := Lib.hid (TPB.below hb HT1.out)
    have B2 : Below w.heap.size w w2 := below_via hb B1 B1.size
    clear hb B1 t0 t1 t2 t3 t4 p0 p1 q0 q1
    obtain ⟨t0, t1, t2, t3, t4, p0, p1, q0, q1⟩ := HT2.out.all
    have l2 := HT2.out.lt
    go_wp2_with fail
    go_ret2
    exact ⟨none, 0, rfl, Ow.nil _ _, B2⟩
  rw [h1] at V1
  cases h2 : okP bx cy
  · rw [pro_no (show askC s wd ht n m hs cs ax ay bx cy nn = 1 by unfold askC; rw [h0, h1, h2]; simp) rfl]
    rw [h2] at V2
    clear h0 h1 h2 RA RB hz
    go_enter Try.func57, Try.ntmps57
    go_wp2_with fail
    refine (A1.out _ (HB0.out)).mono ?_
    rintro e w1 ⟨rfl, hb⟩
    have HT1 := Lib.hid (TPB.below hb HT0.out)
    have B1 : Below w.heap.size w w1 := below_via hb HB0.out HB0.out.size
    clear hb
    obtain ⟨t0, t1, t2, t3, t4, p0, p1, q0, q1⟩ := HT1.out.all
    have l1 := HT1.out.lt
    go_wp2_with fail
    refine (V1.out _).mono ?_
    rintro e w2 ⟨rfl, hb⟩
    have HT2 := Lib.hid (TPB.below hb HT1.out)
    have B2 : Below w.heap.size w w2 := below_via hb B1 B1.size
    clear hb B1 t0 t1 t2 t3 t4 p0 p1 q0 q1
    obtain ⟨t0, t1, t2, t3, t4, p0, p1, q0, q1⟩ := HT2.out.all
    have l2 := HT2.out.lt
    go_wp2_with fail
    refine (V2.out _).mono ?_
    rintro e w3 ⟨rfl, hb⟩
    have HT3 := Lib.hid (TPB.below hb HT2.out)
    have B3 : Below w.heap.size w w3 := below_via hb B2 B2.size
    clear hb B2 t0 t1 t2 t3 t4 p0 p1 q0 q1
    obtain ⟨t0, t1, t2, t3, t4, p0, p1, q0, q1⟩ := HT3.out.all
    have l3 := HT3.out.lt
    go_wp2_with fail
    go_ret2
    exact ⟨none, 0, rfl, Ow.nil _ _, B3⟩
  rw [h2] at V2
  cases h3 : inB nn 2 65
  · rw [pro_no (show askC s wd ht n m hs cs ax ay bx cy nn = 2 by unfold askC; rw [h0, h1, h2, h3]; simp) rfl]
    clear h0 h1 h2 RA RB hz
    go_enter Try.func57, Try.ntmps57
    go_wp2_with fail
    refine (A1.out _ (HB0.out)).mono ?_
    rintro e w1 ⟨rfl, hb⟩
    have HT1 := Lib.hid (TPB.below hb HT0.out)
    have B1 : Below w.heap.size w w1 := below_via hb HB0.out HB0.out.size
    clear hb
    obtain ⟨t0, t1, t2, t3, t4, p0, p1, q0, q1⟩ := HT1.out.all
    have l1 := HT1.out.lt
    go_wp2_with fail
    refine (V1.out _).mono ?_
    rintro e w2 ⟨rfl, hb⟩
    have HT2 := Lib.hid (TPB.below hb HT1.out)
    have B2 : Below w.heap.size w w2 := below_via hb B1 B1.size
    clear hb B1 t0 t1 t2 t3 t4 p0 p1 q0 q1
    obtain ⟨t0, t1, t2, t3, t4, p0, p1, q0, q1⟩ := HT2.out.all
    have l2 := HT2.out.lt
    go_wp2_with fail
    refine (V2.out _).mono ?_
    rintro e w3 ⟨rfl, hb⟩
    have HT3 := Lib.hid (TPB.below hb HT2.out)
    have B3 : Below w.heap.size w w3 := below_via hb B2 B2.size
    clear hb B2 t0 t1 t2 t3 t4 p0 p1 q0 q1
    obtain ⟨t0, t1, t2, t3, t4, p0, p1, q0, q1⟩ := HT3.out.all
    have l3 := HT3.out.lt
    go_wp2_with (first | (go_at_call 43; refine (specIn _ _ _ _).mono ?_; rintro e w' ⟨rfl, rfl⟩) | (go_at_call 45; refine (implIn _ _ _ _).mono ?_; rintro e w' ⟨rfl, rfl⟩))
    go_ret2
    exact ⟨none, 0, rfl, Ow.nil _ _, B3⟩
  cases h4 : hasB s wd ht ax ay
  · rw [pro_no (show askC s wd ht n m hs cs ax ay bx cy nn = 2 by unfold askC; rw [h0, h1, h2, h3, h4]; simp) rfl]
    rw [h4] at H1
    clear h0 h1 h2 h4 RA RB hz
    go_enter Try.func57, Try.ntmps57
    go_wp2_with fail
    refine (A1.out _ (HB0.out)).mono ?_
    rintro e w1 ⟨rfl, hb⟩
    have HT1 := Lib.hid (TPB.below hb HT0.out)
    have B1 : Below w.heap.size w w1 := below_via hb HB0.out HB0.out.size
    clear hb
    obtain ⟨t0, t1, t2, t3, t4, p0, p1, q0, q1⟩ := HT1.out.all
    have l1 := HT1.out.lt
    go_wp2_with fail
    refine (V1.out _).mono ?_
    rintro e w2 ⟨rfl, hb⟩
    have HT2 := Lib.hid (TPB.below hb HT1.out)
    have B2 : Below w.heap.size w w2 := below_via hb B1 B1.size
    clear hb B1 t0 t1 t2 t3 t4 p0 p1 q0 q1
    obtain ⟨t0, t1, t2, t3, t4, p0, p1, q0, q1⟩ := HT2.out.all
    have l2 := HT2.out.lt
    go_wp2_with fail
    refine (V2.out _).mono ?_
    rintro e w3 ⟨rfl, hb⟩
    have HT3 := Lib.hid (TPB.below hb HT2.out)
    have B3 : Below w.heap.size w w3 := below_via hb B2 B2.size
    clear hb B2 t0 t1 t2 t3 t4 p0 p1 q0 q1
    obtain ⟨t0, t1, t2, t3, t4, p0, p1, q0, q1⟩ := HT3.out.all
    have l3 := HT3.out.lt
    go_wp2_with (first | (go_at_call 43; refine (specIn _ _ _ _).mono ?_; rintro e w' ⟨rfl, rfl⟩) | (go_at_call 45; refine (implIn _ _ _ _).mono ?_; rintro e w' ⟨rfl, rfl⟩))
    refine (H1.out _).mono ?_
    rintro e w4 ⟨rfl, hb⟩
    have HT4 := Lib.hid (TPB.below hb HT3.out)
    have B4 : Below w.heap.size w w4 := below_via hb B3 B3.size
    clear hb B3 t0 t1 t2 t3 t4 p0 p1 q0 q1
    obtain ⟨t0, t1, t2, t3, t4, p0, p1, q0, q1⟩ := HT4.out.all
    have l4 := HT4.out.lt
    go_wp2_with fail
    go_ret2
    exact ⟨none, 0, rfl, Ow.nil _ _, B4⟩
  rw [h4] at H1
  cases h5 : hasB s wd ht bx cy
  · rw [pro_no (show askC s wd ht n m hs cs ax ay bx cy nn = 2 by unfold askC; rw [h0, h1, h2, h3, h4, h5]; simp) rfl]
    rw [h5] at H2
    clear h0 h1 h2 h4 h5 RA RB hz
    go_enter Try.func57, Try.ntmps57
    go_wp2_with fail
    refine (A1.out _ (HB0.out)).mono ?_
    rintro e w1 ⟨rfl, hb⟩
    have HT1 := Lib.hid (TPB.below hb HT0.out)
    have B1 : Below w.heap.size w w1 := below_via hb HB0.out HB0.out.size
    clear hb
    obtain ⟨t0, t1, t2, t3, t4, p0, p1, q0, q1⟩ := HT1.out.all
    have l1 := HT1.out.lt
    go_wp2_with fail
    refine (V1.out _).mono ?_
    rintro e w2 ⟨rfl, hb⟩
    have HT2 := Lib.hid (TPB.below hb HT1.out)
    have B2 : Below w.heap.size w w2 := below_via hb B1 B1.size
    clear hb B1 t0 t1 t2 t3 t4 p0 p1 q0 q1
    obtain ⟨t0, t1, t2, t3, t4, p0, p1, q0, q1⟩ := HT2.out.all
    have l2 := HT2.out.lt
    go_wp2_with fail
    refine (V2.out _).mono ?_
    rintro e w3 ⟨rfl, hb⟩
    have HT3 := Lib.hid (TPB.below hb HT2.out)
    have B3 : Below w.heap.size w w3 := below_via hb B2 B2.size
    clear hb B2 t0 t1 t2 t3 t4 p0 p1 q0 q1
    obtain ⟨t0, t1, t2, t3, t4, p0, p1, q0, q1⟩ := HT3.out.all
    have l3 := HT3.out.lt
    go_wp2_with (first | (go_at_call 43; refine (specIn _ _ _ _).mono ?_; rintro e w' ⟨rfl, rfl⟩) | (go_at_call 45; refine (implIn _ _ _ _).mono ?_; rintro e w' ⟨rfl, rfl⟩))
    refine (H1.out _).mono ?_
    rintro e w4 ⟨rfl, hb⟩
    have HT4 := Lib.hid (TPB.below hb HT3.out)
    have B4 : Below w.heap.size w w4 := below_via hb B3 B3.size
    clear hb B3 t0 t1 t2 t3 t4 p0 p1 q0 q1
    obtain ⟨t0, t1, t2, t3, t4, p0, p1, q0, q1⟩ := HT4.out.all
    have l4 := HT4.out.lt
    go_wp2_with (first | (go_at_call 43; refine (specIn _ _ _ _).mono ?_; rintro e w' ⟨rfl, rfl⟩) | (go_at_call 45; refine (implIn _ _ _ _).mono ?_; rintro e w' ⟨rfl, rfl⟩))
    refine (H2.out _).mono ?_
    rintro e w5 ⟨rfl, hb⟩
    have HT5 := Lib.hid (TPB.below hb HT4.out)
    have B5 : Below w.heap.size w w5 := below_via hb B4 B4.size
    clear hb B4 t0 t1 t2 t3 t4 p0 p1 q0 q1
    obtain ⟨t0, t1, t2, t3, t4, p0, p1, q0, q1⟩ := HT5.out.all
    have l5 := HT5.out.lt
    go_wp2_with fail
    go_ret2
    exact ⟨none, 0, rfl, Ow.nil _ _, B5⟩
  rw [h5] at H2
  rw [pro_yes (show (askC s wd ht n m hs cs ax ay bx cy nn == 0) = true by unfold askC; rw [h0, h1, h2, h3, h4, h5]; rfl)]
  have b3 := inB_yes h3
  obtain ⟨N, rfl⟩ : ∃ N : Nat, nn = (N : Int) := ⟨nn.toNat, by omega⟩
  rw [Int.toNat_natCast, map_len]
  have hN : 2 ≤ N ∧ N ≤ 65 := by omega
  have HIN := Lib.hid (fun k (hk : k < N) => places_in (n := N) (k := k) h4 h5 hN.1 hk)
  obtain ⟨_, hnn, hmn, hha, hca⟩ := ter_yes h0
  have HH := Lib.hid (fun k (hk : k < N) W (hb : Below w.heap.size w W) => implHgt s wd ht (at0 (places ax ay bx cy N) k) (at1 (places ax ay bx cy N) k) A B n c m d hs W (Rd.below hb RA.out) hz (HIN.out k hk) hnn hha)
  have HP := Lib.hid (fun W => implPl ax ay bx cy N W h1 h2 hN)
  have HL := Lib.hid (places_len ax ay bx cy N)
  clear HIN h0 h1 h2 h4 h5 hz hnn hmn hha hca RA RB
  generalize places ax ay bx cy N = ps at *
  have HE : Hid (ps.length = N) := HL
  obtain ⟨f, hf⟩ : ∃ f : Int → Int → Int, f = fun x y => hgtF s wd ht hs x y := ⟨_, rfl⟩
  have HFF : Hid (∀ x y, hgtF s wd ht hs x y = f x y) := Lib.hid (fun x y => by rw [hf])
  rw [show (ps.map fun p => hgtF s wd ht hs p.1 p.2) = ps.map fun p => f p.1 p.2 by rw [hf]]
  clear hf
  obtain ⟨i0, hi, hz0, hz1, hz2⟩ := info_parts infoI
  go_enter Try.func57, Try.ntmps57
  go_wp2_with fail
  refine (A1.out _ (HB0.out)).mono ?_
  rintro e w1 ⟨rfl, hb⟩
  have HT1 := Lib.hid (TPB.below hb HT0.out)
  have B1 : Below w.heap.size w w1 := below_via hb HB0.out HB0.out.size
  clear hb
  obtain ⟨t0, t1, t2, t3, t4, p0, p1, q0, q1⟩ := HT1.out.all
  have l1 := HT1.out.lt
  go_wp2_with fail
  refine (V1.out _).mono ?_
  rintro e w2 ⟨rfl, hb⟩
  have HT2 := Lib.hid (TPB.below hb HT1.out)
  have B2 : Below w.heap.size w w2 := below_via hb B1 B1.size
  clear hb B1 t0 t1 t2 t3 t4 p0 p1 q0 q1
  obtain ⟨t0, t1, t2, t3, t4, p0, p1, q0, q1⟩ := HT2.out.all
  have l2 := HT2.out.lt
  go_wp2_with fail
  refine (V2.out _).mono ?_
  rintro e w3 ⟨rfl, hb⟩
  have HT3 := Lib.hid (TPB.below hb HT2.out)
  have B3 : Below w.heap.size w w3 := below_via hb B2 B2.size
  clear hb B2 t0 t1 t2 t3 t4 p0 p1 q0 q1
  obtain ⟨t0, t1, t2, t3, t4, p0, p1, q0, q1⟩ := HT3.out.all
  have l3 := HT3.out.lt
  go_wp2_with (first | (go_at_call 43; refine (specIn _ _ _ _).mono ?_; rintro e w' ⟨rfl, rfl⟩) | (go_at_call 45; refine (implIn _ _ _ _).mono ?_; rintro e w' ⟨rfl, rfl⟩))
  refine (H1.out _).mono ?_
  rintro e w4 ⟨rfl, hb⟩
  have HT4 := Lib.hid (TPB.below hb HT3.out)
  have B4 : Below w.heap.size w w4 := below_via hb B3 B3.size
  clear hb B3 t0 t1 t2 t3 t4 p0 p1 q0 q1
  obtain ⟨t0, t1, t2, t3, t4, p0, p1, q0, q1⟩ := HT4.out.all
  have l4 := HT4.out.lt
  go_wp2_with (first | (go_at_call 43; refine (specIn _ _ _ _).mono ?_; rintro e w' ⟨rfl, rfl⟩) | (go_at_call 45; refine (implIn _ _ _ _).mono ?_; rintro e w' ⟨rfl, rfl⟩))
  refine (H2.out _).mono ?_
  rintro e w5 ⟨rfl, hb⟩
  have HT5 := Lib.hid (TPB.below hb HT4.out)
  have B5 : Below w.heap.size w w5 := below_via hb B4 B4.size
  clear hb B4 t0 t1 t2 t3 t4 p0 p1 q0 q1
  obtain ⟨t0, t1, t2, t3, t4, p0, p1, q0, q1⟩ := HT5.out.all
  have l5 := HT5.out.lt
  go_wp2_with fail
  refine (HP.out _).mono ?_
  rintro e w6 ⟨B0, k0, rfl, ho0, hb0⟩
  have HB6 := Lib.hid (below_via hb0 B5 B5.size)
  have HR := Lib.hid ho0.rd
  have l6 : w.heap.size + 2 < w6.heap.size := by have := hb0.size; omega
  clear ho0 hb0 B5 t0 t1 t2 t3 t4 p0 p1 q0 q1
  go_wp2_with fail
  go_loopw [12, 50] (fun l i wr => ∃ (k : Nat) (B : Option Addr) (q : Nat), k ≤ N ∧ i = .int .i64 (k : Int) ∧ l = .slice B k q ∧ Hid (Below w6.heap.size w6 wr) ∧ Hid (Ow wr w6.heap.size B k q ((ps.map fun p => f p.1 p.2).take k))) (fun _ i _ => N - (intOf i).toNat)
  case atStart => exact ⟨0, _, 0, by omega, rfl, rfl, Lib.hid (Below.refl _ _), Lib.hid (Ow.nil _ _)⟩
  case round =>
    obtain ⟨k, B3, q3, hk, rfl, rfl, HB, HO⟩ := hrel
    by_cases hlt : k < N
    · obtain ⟨ad, rfl, hc0, hc1⟩ := (Rp.below HB.out HR.out).at_ hlt
      have la : (ad.add (k * 2)).block < wr.heap.size := World.block_lt_of_cell? _ _ hc0
      have C := Lib.hid (fun W (hb : Below w6.heap.size w6 W) => HH.out k hlt W (below_via hb HB6.out HB6.out.size))
      rw [HFF.out] at C
      have HN := Lib.hid (pmap_next (f := f) HL.out hlt)
      obtain ⟨z, hz⟩ : ∃ z, f (at0 ps k) (at1 ps k) = z := ⟨_, rfl⟩
      rw [hz] at C HN
      obtain ⟨x, hx⟩ : ∃ x, at0 ps k = x := ⟨_, rfl⟩
      obtain ⟨y, hy⟩ : ∃ y, at1 ps k = y := ⟨_, rfl⟩
      rw [hx, hy] at C
      rw [hx] at hc0
      rw [hy] at hc1
      clear hz hx hy
      have hbr := HB.out
      have lr := HB.out.size
      go_wp2_with fail
      refine (C.out _ (by repeat (first | with_reducible exact Below.refl _ _ | with_reducible assumption | (with_reducible refine Below.drew ?_) | (with_reducible refine below_drewN ?_ _) | ((with_reducible refine Below.alloc ?_ ?_ _); rotate_left; (focus first | exact Nat.le_refl _ | omega | (simp; done) | (simp; omega))) | ((with_reducible refine Below.setCell ?_ ?_ _); rotate_left; (focus first | exact Nat.le_refl _ | omega | (simp; done) | (simp; omega))) | ((with_reducible refine below_via (W := ?_) ?_ ?_ ?_); rotate_left; (with_reducible assumption); rotate_left; (focus first | exact Nat.le_refl _ | omega | (simp; done) | (simp; omega)))))).mono ?_
      rintro e w8 ⟨rfl, hb2⟩
      have hb3 : Below wr.heap.size wr w8 := by clear hbr; exact (by repeat (first | with_reducible exact Below.refl _ _ | with_reducible assumption | (with_reducible refine Below.drew ?_) | (with_reducible refine below_drewN ?_ _) | ((with_reducible refine Below.alloc ?_ ?_ _); rotate_left; (focus first | exact Nat.le_refl _ | omega | (simp; done) | (simp; omega))) | ((with_reducible refine Below.setCell ?_ ?_ _); rotate_left; (focus first | exact Nat.le_refl _ | omega | (simp; done) | (simp; omega))) | ((with_reducible refine below_via (W := ?_) ?_ ?_ ?_); rotate_left; (with_reducible assumption); rotate_left; (focus first | exact Nat.le_refl _ | omega | (simp; done) | (simp; omega)))))
      have HB2 := Lib.hid (below_via hb3 HB.out HB.out.size)
      have HO2 := Lib.hid ((Ow.below hb3 HO.out).alloc (.cells #[.int .i64 z] 2))
      have hs2 : w6.heap.size ≤ (w8.alloc (.cells #[.int .i64 z] 2)).heap.size := by have := HB2.out.size; simp; omega
      clear hb2 hb3 hc0 hc1 hbr
      go_wp2_with (at_builtin; refine wpList_append_own _ rfl _ _ 38 rfl w6.heap.size 2 i0 (.int .i64 0) 1 8 Try.underlying38 hi hz0 hz1 hz2 rfl (by decide) (.slice B3 k q3) k _ rfl HO2.out ⟨w8.heap.size, 0, none⟩ 1 1 [.int .i64 z] rfl rfl (one_news _ _ _) (one_one z) (by unfold maxLen; omega) (by omega) hs2 ?_; intro v' w9 hown1 hgrow _)
      rw [HN.out] at hown1
      obtain ⟨B', q', rfl, ho1⟩ := row_form hown1 (by omega)
      have HB3 := Lib.hid ((HB2.out.alloc HB2.out.size (.cells #[.int .i64 z] 2)).trans (Gr.below (gr_own hgrow) (fun a e => (HO.out.block e).1) hs2))
      have HO3 := Lib.hid ho1
      clear hown1 hgrow ho1 hs2
      go_wp2_with fail
      go_roundw
      case rel => exact ⟨k + 1, B', q', by omega, by go_num, rfl, HB3, HO3⟩
      case measure => simp [intOf]; omega
    · obtain rfl : k = N := by omega
      have ho := HO.out
      rw [List.take_of_length_le (by rw [List.length_map, HL.out]; exact Nat.le_refl _)] at ho
      have HO2 := Lib.hid ho
      clear ho
      go_wp2_with fail
      go_ret2
      exact ⟨B3, q3, rfl, Ow.lower HO2.out HB6.out.size, below_via HB.out HB6.out HB6.out.size⟩

set_option maxHeartbeats 8000000 in
theorem profAt_c (s wd ht : Int) (A B : Option Addr) (n c m d : Nat) (hs cs : List Int) (ax ay bx cy nn : Int) (w : World) (ra : Rd w A n hs) (rb : Rd w B m cs) (hn : n ≤ maxLen) (hm : m ≤ maxLen) :
    Calls Try.prog 57 #[.agg #[.int .i64 s, .int .i64 wd, .int .i64 ht, .slice A n c, .slice B m d], .agg #[.int .i64 ax, .int .i64 ay], .agg #[.int .i64 bx, .int .i64 cy], .int .i64 nn, .func (.func 60) #[.agg #[.int .i64 s, .int .i64 wd, .int .i64 ht, .slice A n c, .slice B m d]] #[]] w fun e w' => PoRes (proR s wd ht n m hs cs ax ay bx cy nn (fun x y => cluF s wd cs x y)).1 (proR s wd ht n m hs cs ax ay bx cy nn (fun x y => cluF s wd cs x y)).1.length (proR s wd ht n m hs cs ax ay bx cy nn (fun x y => cluF s wd cs x y)).2 w e w' := by
  have A1 := Lib.hid (fun W (hb : Below w.heap.size w W) => implTer s wd ht A B n c m d hs cs W (Rd.below hb ra) (Rd.below hb rb) hn hm)
  have V1 := Lib.hid (fun W => implOkB ax ay W)
  have V2 := Lib.hid (fun W => implOkB bx cy W)
  have RA := Lib.hid ra
  have RB := Lib.hid rb
  clear ra rb
  have W3 : ∃ W, W = (((w.alloc (.cells #[.int .i64 s, .int .i64 wd, .int .i64 ht, .slice A n c, .slice B m d] 40)).alloc (.cells #[.int .i64 ax, .int .i64 ay] 30)).alloc (.cells #[.int .i64 bx, .int .i64 cy] 30)) := ⟨_, rfl⟩
  have HT0 := Lib.hid (TPB.new (s := s) (wd := wd) (ht := ht) (A := A) (B := B) (n := n) (c := c) (m := m) (d := d) (ax := ax) (ay := ay) (bx := bx) (cy := cy) w)
  have HB0 : Hid (Below w.heap.size w (((w.alloc (.cells #[.int .i64 s, .int .i64 wd, .int .i64 ht, .slice A n c, .slice B m d] 40)).alloc (.cells #[.int .i64 ax, .int .i64 ay] 30)).alloc (.cells #[.int .i64 bx, .int .i64 cy] 30))) := Lib.hid (by repeat (first | with_reducible exact Below.refl _ _ | with_reducible assumption | (with_reducible refine Below.drew ?_) | (with_reducible refine below_drewN ?_ _) | ((with_reducible refine Below.alloc ?_ ?_ _); rotate_left; (focus first | exact Nat.le_refl _ | omega | (simp; done) | (simp; omega))) | ((with_reducible refine Below.setCell ?_ ?_ _); rotate_left; (focus first | exact Nat.le_refl _ | omega | (simp; done) | (simp; omega))) | ((with_reducible refine below_via (W := ?_) ?_ ?_ ?_); rotate_left; (with_reducible assumption); rotate_left; (focus first | exact Nat.le_refl _ | omega | (simp; done) | (simp; omega)))))
  cases h0 : terB s wd ht n m hs cs
  · rw [pro_no (show askC s wd ht n m hs cs ax ay bx cy nn = 1 by unfold askC; rw [h0]; simp) rfl]
    rw [h0] at A1
    clear h0 RA RB
    go_enter Try.func57, Try.ntmps57
    go_wp2_with fail
    refine (A1.out _ (HB0.out)).mono ?_
    rintro e w1 ⟨rfl, hb⟩
    have HT1 := Lib.hid (TPB.below hb HT0.out)
    have B1 : Below w.heap.size w w1 := below_via hb HB0.out HB0.out.size
    clear hb
    obtain ⟨t0, t1, t2, t3, t4, p0, p1, q0, q1⟩ := HT1.out.all
    have l1 := HT1.out.lt
    go_wp2_with fail
    go_ret2
    exact ⟨none, 0, rfl, Ow.nil _ _, B1⟩
  rw [h0] at A1
  have hz := (ter_yes h0).1
  have H1 := Lib.hid (fun W => implHas s wd ht ax ay A B n c m d W hz)
  have H2 := Lib.hid (fun W => implHas s wd ht bx cy A B n c m d W hz)
  cases h1 : okP ax ay
  · rw [pro_no (show askC s wd ht n m hs cs ax ay bx cy nn = 1 by unfold askC; rw [h0, h1]; simp) rfl]
    rw [h1] at V1
    clear h0 h1 RA RB hz
    go_enter Try.func57, Try.ntmps57
    go_wp2_with fail
    refine (A1.out _ (HB0.out)).mono ?_
    rintro e w1 ⟨rfl, hb⟩
    have HT1 := Lib.hid (TPB.below hb HT0.out)
    have B1 : Below w.heap.size w w1 := below_via hb HB0.out HB0.out.size
    clear hb
    obtain ⟨t0, t1, t2, t3, t4, p0, p1, q0, q1⟩ := HT1.out.all
    have l1 := HT1.out.lt
    go_wp2_with fail
    refine (V1.out _).mono ?_
    rintro e w2 ⟨rfl, hb⟩
    have HT2 := Lib.hid (TPB.below hb HT1.out)
    have B2 : Below w.heap.size w w2 := below_via hb B1 B1.size
    clear hb B1 t0 t1 t2 t3 t4 p0 p1 q0 q1
    obtain ⟨t0, t1, t2, t3, t4, p0, p1, q0, q1⟩ := HT2.out.all
    have l2 := HT2.out.lt
    go_wp2_with fail
    go_ret2
    exact ⟨none, 0, rfl, Ow.nil _ _, B2⟩
  rw [h1] at V1
  cases h2 : okP bx cy
  · rw [pro_no (show askC s wd ht n m hs cs ax ay bx cy nn = 1 by unfold askC; rw [h0, h1, h2]; simp) rfl]
    rw [h2] at V2
    clear h0 h1 h2 RA RB hz
    go_enter Try.func57, Try.ntmps57
    go_wp2_with fail
    refine (A1.out _ (HB0.out)).mono ?_
    rintro e w1 ⟨rfl, hb⟩
    have HT1 := Lib.hid (TPB.below hb HT0.out)
    have B1 : Below w.heap.size w w1 := below_via hb HB0.out HB0.out.size
    clear hb
    obtain ⟨t0, t1, t2, t3, t4, p0, p1, q0, q1⟩ := HT1.out.all
    have l1 := HT1.out.lt
    go_wp2_with fail
    refine (V1.out _).mono ?_
    rintro e w2 ⟨rfl, hb⟩
    have HT2 := Lib.hid (TPB.below hb HT1.out)
    have B2 : Below w.heap.size w w2 := below_via hb B1 B1.size
    clear hb B1 t0 t1 t2 t3 t4 p0 p1 q0 q1
    obtain ⟨t0, t1, t2, t3, t4, p0, p1, q0, q1⟩ := HT2.out.all
    have l2 := HT2.out.lt
    go_wp2_with fail
    refine (V2.out _).mono ?_
    rintro e w3 ⟨rfl, hb⟩
    have HT3 := Lib.hid (TPB.below hb HT2.out)
    have B3 : Below w.heap.size w w3 := below_via hb B2 B2.size
    clear hb B2 t0 t1 t2 t3 t4 p0 p1 q0 q1
    obtain ⟨t0, t1, t2, t3, t4, p0, p1, q0, q1⟩ := HT3.out.all
    have l3 := HT3.out.lt
    go_wp2_with fail
    go_ret2
    exact ⟨none, 0, rfl, Ow.nil _ _, B3⟩
  rw [h2] at V2
  cases h3 : inB nn 2 65
  · rw [pro_no (show askC s wd ht n m hs cs ax ay bx cy nn = 2 by unfold askC; rw [h0, h1, h2, h3]; simp) rfl]
    clear h0 h1 h2 RA RB hz
    go_enter Try.func57, Try.ntmps57
    go_wp2_with fail
    refine (A1.out _ (HB0.out)).mono ?_
    rintro e w1 ⟨rfl, hb⟩
    have HT1 := Lib.hid (TPB.below hb HT0.out)
    have B1 : Below w.heap.size w w1 := below_via hb HB0.out HB0.out.size
    clear hb
    obtain ⟨t0, t1, t2, t3, t4, p0, p1, q0, q1⟩ := HT1.out.all
    have l1 := HT1.out.lt
    go_wp2_with fail
    refine (V1.out _).mono ?_
    rintro e w2 ⟨rfl, hb⟩
    have HT2 := Lib.hid (TPB.below hb HT1.out)
    have B2 : Below w.heap.size w w2 := below_via hb B1 B1.size
    clear hb B1 t0 t1 t2 t3 t4 p0 p1 q0 q1
    obtain ⟨t0, t1, t2, t3, t4, p0, p1, q0, q1⟩ := HT2.out.all
    have l2 := HT2.out.lt
    go_wp2_with fail
    refine (V2.out _).mono ?_
    rintro e w3 ⟨rfl, hb⟩
    have HT3 := Lib.hid (TPB.below hb HT2.out)
    have B3 : Below w.heap.size w w3 := below_via hb B2 B2.size
    clear hb B2 t0 t1 t2 t3 t4 p0 p1 q0 q1
    obtain ⟨t0, t1, t2, t3, t4, p0, p1, q0, q1⟩ := HT3.out.all
    have l3 := HT3.out.lt
    go_wp2_with (first | (go_at_call 43; refine (specIn _ _ _ _).mono ?_; rintro e w' ⟨rfl, rfl⟩) | (go_at_call 45; refine (implIn _ _ _ _).mono ?_; rintro e w' ⟨rfl, rfl⟩))
    go_ret2
    exact ⟨none, 0, rfl, Ow.nil _ _, B3⟩
  cases h4 : hasB s wd ht ax ay
  · rw [pro_no (show askC s wd ht n m hs cs ax ay bx cy nn = 2 by unfold askC; rw [h0, h1, h2, h3, h4]; simp) rfl]
    rw [h4] at H1
    clear h0 h1 h2 h4 RA RB hz
    go_enter Try.func57, Try.ntmps57
    go_wp2_with fail
    refine (A1.out _ (HB0.out)).mono ?_
    rintro e w1 ⟨rfl, hb⟩
    have HT1 := Lib.hid (TPB.below hb HT0.out)
    have B1 : Below w.heap.size w w1 := below_via hb HB0.out HB0.out.size
    clear hb
    obtain ⟨t0, t1, t2, t3, t4, p0, p1, q0, q1⟩ := HT1.out.all
    have l1 := HT1.out.lt
    go_wp2_with fail
    refine (V1.out _).mono ?_
    rintro e w2 ⟨rfl, hb⟩
    have HT2 := Lib.hid (TPB.below hb HT1.out)
    have B2 : Below w.heap.size w w2 := below_via hb B1 B1.size
    clear hb B1 t0 t1 t2 t3 t4 p0 p1 q0 q1
    obtain ⟨t0, t1, t2, t3, t4, p0, p1, q0, q1⟩ := HT2.out.all
    have l2 := HT2.out.lt
    go_wp2_with fail
    refine (V2.out _).mono ?_
    rintro e w3 ⟨rfl, hb⟩
    have HT3 := Lib.hid (TPB.below hb HT2.out)
    have B3 : Below w.heap.size w w3 := below_via hb B2 B2.size
    clear hb B2 t0 t1 t2 t3 t4 p0 p1 q0 q1
    obtain ⟨t0, t1, t2, t3, t4, p0, p1, q0, q1⟩ := HT3.out.all
    have l3 := HT3.out.lt
    go_wp2_with (first | (go_at_call 43; refine (specIn _ _ _ _).mono ?_; rintro e w' ⟨rfl, rfl⟩) | (go_at_call 45; refine (implIn _ _ _ _).mono ?_; rintro e w' ⟨rfl, rfl⟩))
    refine (H1.out _).mono ?_
    rintro e w4 ⟨rfl, hb⟩
    have HT4 := Lib.hid (TPB.below hb HT3.out)
    have B4 : Below w.heap.size w w4 := below_via hb B3 B3.size
    clear hb B3 t0 t1 t2 t3 t4 p0 p1 q0 q1
    obtain ⟨t0, t1, t2, t3, t4, p0, p1, q0, q1⟩ := HT4.out.all
    have l4 := HT4.out.lt
    go_wp2_with fail
    go_ret2
    exact ⟨none, 0, rfl, Ow.nil _ _, B4⟩
  rw [h4] at H1
  cases h5 : hasB s wd ht bx cy
  · rw [pro_no (show askC s wd ht n m hs cs ax ay bx cy nn = 2 by unfold askC; rw [h0, h1, h2, h3, h4, h5]; simp) rfl]
    rw [h5] at H2
    clear h0 h1 h2 h4 h5 RA RB hz
    go_enter Try.func57, Try.ntmps57
    go_wp2_with fail
    refine (A1.out _ (HB0.out)).mono ?_
    rintro e w1 ⟨rfl, hb⟩
    have HT1 := Lib.hid (TPB.below hb HT0.out)
    have B1 : Below w.heap.size w w1 := below_via hb HB0.out HB0.out.size
    clear hb
    obtain ⟨t0, t1, t2, t3, t4, p0, p1, q0, q1⟩ := HT1.out.all
    have l1 := HT1.out.lt
    go_wp2_with fail
    refine (V1.out _).mono ?_
    rintro e w2 ⟨rfl, hb⟩
    have HT2 := Lib.hid (TPB.below hb HT1.out)
    have B2 : Below w.heap.size w w2 := below_via hb B1 B1.size
    clear hb B1 t0 t1 t2 t3 t4 p0 p1 q0 q1
    obtain ⟨t0, t1, t2, t3, t4, p0, p1, q0, q1⟩ := HT2.out.all
    have l2 := HT2.out.lt
    go_wp2_with fail
    refine (V2.out _).mono ?_
    rintro e w3 ⟨rfl, hb⟩
    have HT3 := Lib.hid (TPB.below hb HT2.out)
    have B3 : Below w.heap.size w w3 := below_via hb B2 B2.size
    clear hb B2 t0 t1 t2 t3 t4 p0 p1 q0 q1
    obtain ⟨t0, t1, t2, t3, t4, p0, p1, q0, q1⟩ := HT3.out.all
    have l3 := HT3.out.lt
    go_wp2_with (first | (go_at_call 43; refine (specIn _ _ _ _).mono ?_; rintro e w' ⟨rfl, rfl⟩) | (go_at_call 45; refine (implIn _ _ _ _).mono ?_; rintro e w' ⟨rfl, rfl⟩))
    refine (H1.out _).mono ?_
    rintro e w4 ⟨rfl, hb⟩
    have HT4 := Lib.hid (TPB.below hb HT3.out)
    have B4 : Below w.heap.size w w4 := below_via hb B3 B3.size
    clear hb B3 t0 t1 t2 t3 t4 p0 p1 q0 q1
    obtain ⟨t0, t1, t2, t3, t4, p0, p1, q0, q1⟩ := HT4.out.all
    have l4 := HT4.out.lt
    go_wp2_with (first | (go_at_call 43; refine (specIn _ _ _ _).mono ?_; rintro e w' ⟨rfl, rfl⟩) | (go_at_call 45; refine (implIn _ _ _ _).mono ?_; rintro e w' ⟨rfl, rfl⟩))
    refine (H2.out _).mono ?_
    rintro e w5 ⟨rfl, hb⟩
    have HT5 := Lib.hid (TPB.below hb HT4.out)
    have B5 : Below w.heap.size w w5 := below_via hb B4 B4.size
    clear hb B4 t0 t1 t2 t3 t4 p0 p1 q0 q1
    obtain ⟨t0, t1, t2, t3, t4, p0, p1, q0, q1⟩ := HT5.out.all
    have l5 := HT5.out.lt
    go_wp2_with fail
    go_ret2
    exact ⟨none, 0, rfl, Ow.nil _ _, B5⟩
  rw [h5] at H2
  rw [pro_yes (show (askC s wd ht n m hs cs ax ay bx cy nn == 0) = true by unfold askC; rw [h0, h1, h2, h3, h4, h5]; rfl)]
  have b3 := inB_yes h3
  obtain ⟨N, rfl⟩ : ∃ N : Nat, nn = (N : Int) := ⟨nn.toNat, by omega⟩
  rw [Int.toNat_natCast, map_len]
  have hN : 2 ≤ N ∧ N ≤ 65 := by omega
  have HIN := Lib.hid (fun k (hk : k < N) => places_in (n := N) (k := k) h4 h5 hN.1 hk)
  obtain ⟨_, hnn, hmn, hha, hca⟩ := ter_yes h0
  have HH := Lib.hid (fun k (hk : k < N) W (hb : Below w.heap.size w W) => implClu s wd ht (at0 (places ax ay bx cy N) k) (at1 (places ax ay bx cy N) k) A B n c m d cs W (Rd.below hb RB.out) hz (HIN.out k hk) (by rw [hmn]; exact hnn))
  have HP := Lib.hid (fun W => implPl ax ay bx cy N W h1 h2 hN)
  have HL := Lib.hid (places_len ax ay bx cy N)
  clear HIN h0 h1 h2 h4 h5 hz hnn hmn hha hca RA RB
  generalize places ax ay bx cy N = ps at *
  have HE : Hid (ps.length = N) := HL
  obtain ⟨f, hf⟩ : ∃ f : Int → Int → Int, f = fun x y => cluF s wd cs x y := ⟨_, rfl⟩
  have HFF : Hid (∀ x y, cluF s wd cs x y = f x y) := Lib.hid (fun x y => by rw [hf])
  rw [show (ps.map fun p => cluF s wd cs p.1 p.2) = ps.map fun p => f p.1 p.2 by rw [hf]]
  clear hf
  obtain ⟨i0, hi, hz0, hz1, hz2⟩ := info_parts infoI
  go_enter Try.func57, Try.ntmps57
  go_wp2_with fail
  refine (A1.out _ (HB0.out)).mono ?_
  rintro e w1 ⟨rfl, hb⟩
  have HT1 := Lib.hid (TPB.below hb HT0.out)
  have B1 : Below w.heap.size w w1 := below_via hb HB0.out HB0.out.size
  clear hb
  obtain ⟨t0, t1, t2, t3, t4, p0, p1, q0, q1⟩ := HT1.out.all
  have l1 := HT1.out.lt
  go_wp2_with fail
  refine (V1.out _).mono ?_
  rintro e w2 ⟨rfl, hb⟩
  have HT2 := Lib.hid (TPB.below hb HT1.out)
  have B2 : Below w.heap.size w w2 := below_via hb B1 B1.size
  clear hb B1 t0 t1 t2 t3 t4 p0 p1 q0 q1
  obtain ⟨t0, t1, t2, t3, t4, p0, p1, q0, q1⟩ := HT2.out.all
  have l2 := HT2.out.lt
  go_wp2_with fail
  refine (V2.out _).mono ?_
  rintro e w3 ⟨rfl, hb⟩
  have HT3 := Lib.hid (TPB.below hb HT2.out)
  have B3 : Below w.heap.size w w3 := below_via hb B2 B2.size
  clear hb B2 t0 t1 t2 t3 t4 p0 p1 q0 q1
  obtain ⟨t0, t1, t2, t3, t4, p0, p1, q0, q1⟩ := HT3.out.all
  have l3 := HT3.out.lt
  go_wp2_with (first | (go_at_call 43; refine (specIn _ _ _ _).mono ?_; rintro e w' ⟨rfl, rfl⟩) | (go_at_call 45; refine (implIn _ _ _ _).mono ?_; rintro e w' ⟨rfl, rfl⟩))
  refine (H1.out _).mono ?_
  rintro e w4 ⟨rfl, hb⟩
  have HT4 := Lib.hid (TPB.below hb HT3.out)
  have B4 : Below w.heap.size w w4 := below_via hb B3 B3.size
  clear hb B3 t0 t1 t2 t3 t4 p0 p1 q0 q1
  obtain ⟨t0, t1, t2, t3, t4, p0, p1, q0, q1⟩ := HT4.out.all
  have l4 := HT4.out.lt
  go_wp2_with (first | (go_at_call 43; refine (specIn _ _ _ _).mono ?_; rintro e w' ⟨rfl, rfl⟩) | (go_at_call 45; refine (implIn _ _ _ _).mono ?_; rintro e w' ⟨rfl, rfl⟩))
  refine (H2.out _).mono ?_
  rintro e w5 ⟨rfl, hb⟩
  have HT5 := Lib.hid (TPB.below hb HT4.out)
  have B5 : Below w.heap.size w w5 := below_via hb B4 B4.size
  clear hb B4 t0 t1 t2 t3 t4 p0 p1 q0 q1
  obtain ⟨t0, t1, t2, t3, t4, p0, p1, q0, q1⟩ := HT5.out.all
  have l5 := HT5.out.lt
  go_wp2_with fail
  refine (HP.out _).mono ?_
  rintro e w6 ⟨B0, k0, rfl, ho0, hb0⟩
  have HB6 := Lib.hid (below_via hb0 B5 B5.size)
  have HR := Lib.hid ho0.rd
  have l6 : w.heap.size + 2 < w6.heap.size := by have := hb0.size; omega
  clear ho0 hb0 B5 t0 t1 t2 t3 t4 p0 p1 q0 q1
  go_wp2_with fail
  go_loopw [12, 50] (fun l i wr => ∃ (k : Nat) (B : Option Addr) (q : Nat), k ≤ N ∧ i = .int .i64 (k : Int) ∧ l = .slice B k q ∧ Hid (Below w6.heap.size w6 wr) ∧ Hid (Ow wr w6.heap.size B k q ((ps.map fun p => f p.1 p.2).take k))) (fun _ i _ => N - (intOf i).toNat)
  case atStart => exact ⟨0, _, 0, by omega, rfl, rfl, Lib.hid (Below.refl _ _), Lib.hid (Ow.nil _ _)⟩
  case round =>
    obtain ⟨k, B3, q3, hk, rfl, rfl, HB, HO⟩ := hrel
    by_cases hlt : k < N
    · obtain ⟨ad, rfl, hc0, hc1⟩ := (Rp.below HB.out HR.out).at_ hlt
      have la : (ad.add (k * 2)).block < wr.heap.size := World.block_lt_of_cell? _ _ hc0
      have C := Lib.hid (fun W (hb : Below w6.heap.size w6 W) => HH.out k hlt W (below_via hb HB6.out HB6.out.size))
      rw [HFF.out] at C
      have HN := Lib.hid (pmap_next (f := f) HL.out hlt)
      obtain ⟨z, hz⟩ : ∃ z, f (at0 ps k) (at1 ps k) = z := ⟨_, rfl⟩
      rw [hz] at C HN
      obtain ⟨x, hx⟩ : ∃ x, at0 ps k = x := ⟨_, rfl⟩
      obtain ⟨y, hy⟩ : ∃ y, at1 ps k = y := ⟨_, rfl⟩
      rw [hx, hy] at C
      rw [hx] at hc0
      rw [hy] at hc1
      clear hz hx hy
      have hbr := HB.out
      have lr := HB.out.size
      go_wp2_with fail
      refine (C.out _ (by repeat (first | with_reducible exact Below.refl _ _ | with_reducible assumption | (with_reducible refine Below.drew ?_) | (with_reducible refine below_drewN ?_ _) | ((with_reducible refine Below.alloc ?_ ?_ _); rotate_left; (focus first | exact Nat.le_refl _ | omega | (simp; done) | (simp; omega))) | ((with_reducible refine Below.setCell ?_ ?_ _); rotate_left; (focus first | exact Nat.le_refl _ | omega | (simp; done) | (simp; omega))) | ((with_reducible refine below_via (W := ?_) ?_ ?_ ?_); rotate_left; (with_reducible assumption); rotate_left; (focus first | exact Nat.le_refl _ | omega | (simp; done) | (simp; omega)))))).mono ?_
      rintro e w8 ⟨rfl, hb2⟩
      have hb3 : Below wr.heap.size wr w8 := by clear hbr; exact (by repeat (first | with_reducible exact Below.refl _ _ | with_reducible assumption | (with_reducible refine Below.drew ?_) | (with_reducible refine below_drewN ?_ _) | ((with_reducible refine Below.alloc ?_ ?_ _); rotate_left; (focus first | exact Nat.le_refl _ | omega | (simp; done) | (simp; omega))) | ((with_reducible refine Below.setCell ?_ ?_ _); rotate_left; (focus first | exact Nat.le_refl _ | omega | (simp; done) | (simp; omega))) | ((with_reducible refine below_via (W := ?_) ?_ ?_ ?_); rotate_left; (with_reducible assumption); rotate_left; (focus first | exact Nat.le_refl _ | omega | (simp; done) | (simp; omega)))))
      have HB2 := Lib.hid (below_via hb3 HB.out HB.out.size)
      have HO2 := Lib.hid ((Ow.below hb3 HO.out).alloc (.cells #[.int .i64 z] 2))
      have hs2 : w6.heap.size ≤ (w8.alloc (.cells #[.int .i64 z] 2)).heap.size := by have := HB2.out.size; simp; omega
      clear hb2 hb3 hc0 hc1 hbr
      go_wp2_with (at_builtin; refine wpList_append_own _ rfl _ _ 38 rfl w6.heap.size 2 i0 (.int .i64 0) 1 8 Try.underlying38 hi hz0 hz1 hz2 rfl (by decide) (.slice B3 k q3) k _ rfl HO2.out ⟨w8.heap.size, 0, none⟩ 1 1 [.int .i64 z] rfl rfl (one_news _ _ _) (one_one z) (by unfold maxLen; omega) (by omega) hs2 ?_; intro v' w9 hown1 hgrow _)
      rw [HN.out] at hown1
      obtain ⟨B', q', rfl, ho1⟩ := row_form hown1 (by omega)
      have HB3 := Lib.hid ((HB2.out.alloc HB2.out.size (.cells #[.int .i64 z] 2)).trans (Gr.below (gr_own hgrow) (fun a e => (HO.out.block e).1) hs2))
      have HO3 := Lib.hid ho1
      clear hown1 hgrow ho1 hs2
      go_wp2_with fail
      go_roundw
      case rel => exact ⟨k + 1, B', q', by omega, by go_num, rfl, HB3, HO3⟩
      case measure => simp [intOf]; omega
    · obtain rfl : k = N := by omega
      have ho := HO.out
      rw [List.take_of_length_le (by rw [List.length_map, HL.out]; exact Nat.le_refl _)] at ho
      have HO2 := Lib.hid ho
      clear ho
      go_wp2_with fail
      go_ret2
      exact ⟨B3, q3, rfl, Ow.lower HO2.out HB6.out.size, below_via HB.out HB6.out HB6.out.size⟩

set_option maxHeartbeats 8000000 in
theorem implProfileOf (s wd ht : Int) (A B : Option Addr) (n c m d : Nat) (hs cs : List Int) (ax ay bx cy nn : Int) (w : World) (ra : Rd w A n hs) (rb : Rd w B m cs) (hn : n ≤ maxLen) (hm : m ≤ maxLen) :
    Calls Try.prog 29 #[.agg #[.int .i64 s, .int .i64 wd, .int .i64 ht, .slice A n c, .slice B m d], .agg #[.int .i64 ax, .int .i64 ay], .agg #[.int .i64 bx, .int .i64 cy], .int .i64 nn] w fun e w' => PoRes (proR s wd ht n m hs cs ax ay bx cy nn (fun x y => hgtF s wd ht hs x y)).1 (proR s wd ht n m hs cs ax ay bx cy nn (fun x y => hgtF s wd ht hs x y)).1.length (proR s wd ht n m hs cs ax ay bx cy nn (fun x y => hgtF s wd ht hs x y)).2 w e w' := by
  have A1 := Lib.hid (fun W (hb : Below w.heap.size w W) => profAt_h s wd ht A B n c m d hs cs ax ay bx cy nn W (Rd.below hb ra) (Rd.below hb rb) hn hm)
  clear ra rb
  generalize proR s wd ht n m hs cs ax ay bx cy nn (fun x y => hgtF s wd ht hs x y) = R at *
  go_enter Try.func29, Try.ntmps29
  go_wp2_with fail
  refine (A1.out _ (by repeat (first | with_reducible exact Below.refl _ _ | with_reducible assumption | (with_reducible refine Below.drew ?_) | (with_reducible refine below_drewN ?_ _) | ((with_reducible refine Below.alloc ?_ ?_ _); rotate_left; (focus first | exact Nat.le_refl _ | omega | (simp; done) | (simp; omega))) | ((with_reducible refine Below.setCell ?_ ?_ _); rotate_left; (focus first | exact Nat.le_refl _ | omega | (simp; done) | (simp; omega))) | ((with_reducible refine below_via (W := ?_) ?_ ?_ ?_); rotate_left; (with_reducible assumption); rotate_left; (focus first | exact Nat.le_refl _ | omega | (simp; done) | (simp; omega)))))).mono ?_
  rintro e w1 ⟨B1, q1, rfl, ho, hb⟩
  have B2 : Below w.heap.size w w1 := by clear ho; exact (by repeat (first | with_reducible exact Below.refl _ _ | with_reducible assumption | (with_reducible refine Below.drew ?_) | (with_reducible refine below_drewN ?_ _) | ((with_reducible refine Below.alloc ?_ ?_ _); rotate_left; (focus first | exact Nat.le_refl _ | omega | (simp; done) | (simp; omega))) | ((with_reducible refine Below.setCell ?_ ?_ _); rotate_left; (focus first | exact Nat.le_refl _ | omega | (simp; done) | (simp; omega))) | ((with_reducible refine below_via (W := ?_) ?_ ?_ ?_); rotate_left; (with_reducible assumption); rotate_left; (focus first | exact Nat.le_refl _ | omega | (simp; done) | (simp; omega)))))
  have HO : Hid (Ow w1 w.heap.size B1 R.1.length q1 R.1) := Lib.hid (Ow.lower ho (by simp; omega))
  clear ho hb A1
  go_wp2_with fail
  go_ret2
  exact ⟨B1, q1, rfl, HO.out, B2⟩

set_option maxHeartbeats 8000000 in
theorem implProfileClutter (s wd ht : Int) (A B : Option Addr) (n c m d : Nat) (hs cs : List Int) (ax ay bx cy nn : Int) (w : World) (ra : Rd w A n hs) (rb : Rd w B m cs) (hn : n ≤ maxLen) (hm : m ≤ maxLen) :
    Calls Try.prog 34 #[.agg #[.int .i64 s, .int .i64 wd, .int .i64 ht, .slice A n c, .slice B m d], .agg #[.int .i64 ax, .int .i64 ay], .agg #[.int .i64 bx, .int .i64 cy], .int .i64 nn] w fun e w' => PoRes (proR s wd ht n m hs cs ax ay bx cy nn (fun x y => cluF s wd cs x y)).1 (proR s wd ht n m hs cs ax ay bx cy nn (fun x y => cluF s wd cs x y)).1.length (proR s wd ht n m hs cs ax ay bx cy nn (fun x y => cluF s wd cs x y)).2 w e w' := by
  have A1 := Lib.hid (fun W (hb : Below w.heap.size w W) => profAt_c s wd ht A B n c m d hs cs ax ay bx cy nn W (Rd.below hb ra) (Rd.below hb rb) hn hm)
  clear ra rb
  generalize proR s wd ht n m hs cs ax ay bx cy nn (fun x y => cluF s wd cs x y) = R at *
  go_enter Try.func34, Try.ntmps34
  go_wp2_with fail
  refine (A1.out _ (by repeat (first | with_reducible exact Below.refl _ _ | with_reducible assumption | (with_reducible refine Below.drew ?_) | (with_reducible refine below_drewN ?_ _) | ((with_reducible refine Below.alloc ?_ ?_ _); rotate_left; (focus first | exact Nat.le_refl _ | omega | (simp; done) | (simp; omega))) | ((with_reducible refine Below.setCell ?_ ?_ _); rotate_left; (focus first | exact Nat.le_refl _ | omega | (simp; done) | (simp; omega))) | ((with_reducible refine below_via (W := ?_) ?_ ?_ ?_); rotate_left; (with_reducible assumption); rotate_left; (focus first | exact Nat.le_refl _ | omega | (simp; done) | (simp; omega)))))).mono ?_
  rintro e w1 ⟨B1, q1, rfl, ho, hb⟩
  have B2 : Below w.heap.size w w1 := by clear ho; exact (by repeat (first | with_reducible exact Below.refl _ _ | with_reducible assumption | (with_reducible refine Below.drew ?_) | (with_reducible refine below_drewN ?_ _) | ((with_reducible refine Below.alloc ?_ ?_ _); rotate_left; (focus first | exact Nat.le_refl _ | omega | (simp; done) | (simp; omega))) | ((with_reducible refine Below.setCell ?_ ?_ _); rotate_left; (focus first | exact Nat.le_refl _ | omega | (simp; done) | (simp; omega))) | ((with_reducible refine below_via (W := ?_) ?_ ?_ ?_); rotate_left; (with_reducible assumption); rotate_left; (focus first | exact Nat.le_refl _ | omega | (simp; done) | (simp; omega)))))
  have HO : Hid (Ow w1 w.heap.size B1 R.1.length q1 R.1) := Lib.hid (Ow.lower ho (by simp; omega))
  clear ho hb A1
  go_wp2_with fail
  go_ret2
  exact ⟨B1, q1, rfl, HO.out, B2⟩

end Go.Proofs.Ytpgjllpiefpjjaa.WalkPs
