/- The height at a point of a terrain: the reference's and the program's. -/
import Derived.Test.YtpgjllpiefpjjaaWalkHH0
import Derived.Deep.DeepCutAuto
namespace Go.Proofs.Ytpgjllpiefpjjaa.WalkHH
open Go Go.RowKit Go.Proofs.Ytpgjllpiefpjjaa.Base Go.Proofs.Ytpgjllpiefpjjaa.Plain Go.Proofs.Ytpgjllpiefpjjaa.Words Go.Proofs.Ytpgjllpiefpjjaa.Ints Go.Proofs.Ytpgjllpiefpjjaa.WalkN Go.Proofs.Ytpgjllpiefpjjaa.WalkP Go.Proofs.Ytpgjllpiefpjjaa.WalkI Go.Proofs.Ytpgjllpiefpjjaa.WalkU Go.Proofs.Ytpgjllpiefpjjaa.WalkV Go.Proofs.Ytpgjllpiefpjjaa.PlainT Go.Proofs.Ytpgjllpiefpjjaa.WalkW Go.Proofs.Ytpgjllpiefpjjaa.WalkY Go.Proofs.Ytpgjllpiefpjjaa.PlainH Go.Proofs.Ytpgjllpiefpjjaa.WalkH Go.Proofs.Ytpgjllpiefpjjaa.WalkHH0
set_option linter.unusedVariables false
set_option linter.unusedSimpArgs false

/-- the closure that reads a grid point -/
theorem gridAt (wd X Y : Int) (ad : Addr) (n c : Nat) (v : Int) (g : Nat) (w : World) (hi : 0 ≤ Y * wd + X ∧ Y * wd + X < n) (hy : 0 ≤ Y * wd ∧ Y * wd ≤ 1000000)
    (t1 : w.cell? ⟨g, 1, none⟩ = some (.int .i64 wd)) (t3 : w.cell? ⟨g, 3, none⟩ = some (.slice (some ad) n c)) (hv : w.cell? (ad.add (Y * wd + X).toNat) = some (.int .i64 v)) (hn : (n : Int) ≤ 1000000) :
    Calls Try.prog 72 #[.int .i64 X, .int .i64 Y, .pointer (some ⟨g, 0, none⟩)] w fun e w' => e = .returned (.int .i64 v) ∧ w = w' := by
  have i1 := hi.1
  have i2 := hi.2
  go_enter Try.func72, Try.ntmps72
  go_wp2_with fail
  go_ret
  exact ⟨rfl, rfl⟩

set_option maxRecDepth 100000 in
set_option maxHeartbeats 8000000 in
theorem implHgt (s wd ht x y : Int) (A B : Option Addr) (n c m d : Nat) (hs : List Int) (w : World) (ra : Rd w A n hs) (hz : sizeB s wd ht = true) (hp : hasB s wd ht x y = true) (hn : (n : Int) = wd * ht) (ha : allB hs 0 90000 = true) :
    Calls Try.prog 58 #[.agg #[.int .i64 s, .int .i64 wd, .int .i64 ht, .slice A n c, .slice B m d], .agg #[.int .i64 x, .int .i64 y]] w fun e w' => e = .returned (.int .i64 (hgtF s wd ht hs x y)) ∧ Below w.heap.size w w' := by
  have b := sizeB_yes hz
  have p := has_yes hp
  have q := size_mul hz
  have bx := cell_bd b.1.1 b.2.1.1 p.1.1 p.1.2
  have by_ := cell_bd b.1.1 b.2.2.1.1 p.2.1 p.2.2
  have mn := mul_bound (a := wd) (b := ht) (A := 24) (B := 24) (by omega) (by omega) (by omega) (by omega) (by omega) (by omega)
  have HF := Lib.hid (hgtF_eq s wd ht hs x y)
  have e1 := quo_eq (a := x) (b := s) (by omega) (by omega) (by omega)
  have e2 := quo_eq (a := y) (b := s) (by omega) (by omega) (by omega)
  have m1 : ∃ I, minI (x / s) (wd - 2) = I ∧ (if x / s < wd - 2 then x / s else wd - 2) = I := ⟨_, rfl, rfl⟩
  have m2 : ∃ K, minI (y / s) (ht - 2) = K ∧ (if y / s < ht - 2 then y / s else ht - 2) = K := ⟨_, rfl, rfl⟩
  obtain ⟨I, hI, hI'⟩ := m1
  obtain ⟨K, hK, hK'⟩ := m2
  rw [hI] at bx HF
  rw [hK] at by_ HF
  generalize x / s = X1 at e1 hI hI'
  generalize y / s = Y1 at e2 hK hK'
  have pl := place_bd b.2.1 b.2.2.1 (i := I + 1) (k := K + 1) (by omega) (by omega)
  rw [Int.add_mul, Int.one_mul] at pl
  have pk : 0 ≤ K * wd := Int.mul_nonneg (by omega) (by omega)
  obtain ⟨U, hU⟩ : ∃ U, x - I * s = U := ⟨_, rfl⟩
  obtain ⟨V, hV⟩ : ∃ V, y - K * s = V := ⟨_, rfl⟩
  rw [hU, hV] at HF
  have k1 : (K + 1) * wd = K * wd + wd := by rw [Int.add_mul, Int.one_mul]
  obtain ⟨ad, rfl, c0, c1, c2, c3⟩ := four ra (p := K * wd + I) (q := K * wd + I + 1) (r := K * wd + I + wd) (t := K * wd + I + wd + 1) (by omega) (by omega) (by omega) (by omega)
  have bA := allB_get ha (k := (K * wd + I).toNat) (by rw [ra.len]; omega)
  have bB := allB_get ha (k := (K * wd + I + 1).toNat) (by rw [ra.len]; omega)
  have bC := allB_get ha (k := (K * wd + I + wd).toNat) (by rw [ra.len]; omega)
  have bD := allB_get ha (k := (K * wd + I + wd + 1).toNat) (by rw [ra.len]; omega)
  generalize hs.getD (K * wd + I).toNat 0 = a at c0 bA HF
  generalize hs.getD (K * wd + I + 1).toNat 0 = bb at c1 bB HF
  generalize hs.getD (K * wd + I + wd).toNat 0 = cc at c2 bC HF
  generalize hs.getD (K * wd + I + wd + 1).toNat 0 = dd at c3 bD HF
  obtain ⟨W0, hW0⟩ : ∃ W0, W0 = (w.alloc (.cells #[.int .i64 s, .int .i64 wd, .int .i64 ht, .slice (some ad) n c, .slice B m d] 40)).alloc (.cells #[.int .i64 x, .int .i64 y] 30) := ⟨_, rfl⟩
  have g1 : W0.cell? ⟨w.heap.size, 1, none⟩ = some (.int .i64 wd) := by rw [hW0]; (((try dsimp only); (repeat' apply And.intro) <;> (repeat (first | with_reducible assumption | (with_reducible refine keep_drew ?_) | (with_reducible refine keep_drewN ?_) | ((with_reducible refine keep_new _ _ _ _ _ _ ?_ ?_) <;> (first | rfl | (simp; done) | omega)) | (with_reducible refine keep_alloc _ ?_) | ((with_reducible refine keep_set _ ?_ ?_); (focus first | omega | (simp; done) | (simp; omega))) | ((with_reducible refine keep_set' _ ?_ ?_); (focus first | omega | (simp; done))) | ((with_reducible refine keep_same (u := ?_) _ ?_); rotate_left) | ((with_reducible refine keep_setA _ ?_ ?_); (focus first | omega | (simp; done) | (simp; omega))) | ((with_reducible refine keep_below (w := ?_) ?_ ?_); rotate_left; (with_reducible assumption))))))
  have g3 : W0.cell? ⟨w.heap.size, 3, none⟩ = some (.slice (some ad) n c) := by rw [hW0]; (((try dsimp only); (repeat' apply And.intro) <;> (repeat (first | with_reducible assumption | (with_reducible refine keep_drew ?_) | (with_reducible refine keep_drewN ?_) | ((with_reducible refine keep_new _ _ _ _ _ _ ?_ ?_) <;> (first | rfl | (simp; done) | omega)) | (with_reducible refine keep_alloc _ ?_) | ((with_reducible refine keep_set _ ?_ ?_); (focus first | omega | (simp; done) | (simp; omega))) | ((with_reducible refine keep_set' _ ?_ ?_); (focus first | omega | (simp; done))) | ((with_reducible refine keep_same (u := ?_) _ ?_); rotate_left) | ((with_reducible refine keep_setA _ ?_ ?_); (focus first | omega | (simp; done) | (simp; omega))) | ((with_reducible refine keep_below (w := ?_) ?_ ?_); rotate_left; (with_reducible assumption))))))
  have d0 : W0.cell? (ad.add (K * wd + I).toNat) = some (.int .i64 a) := by rw [hW0]; (((try dsimp only); (repeat' apply And.intro) <;> (repeat (first | with_reducible assumption | (with_reducible refine keep_drew ?_) | (with_reducible refine keep_drewN ?_) | ((with_reducible refine keep_new _ _ _ _ _ _ ?_ ?_) <;> (first | rfl | (simp; done) | omega)) | (with_reducible refine keep_alloc _ ?_) | ((with_reducible refine keep_set _ ?_ ?_); (focus first | omega | (simp; done) | (simp; omega))) | ((with_reducible refine keep_set' _ ?_ ?_); (focus first | omega | (simp; done))) | ((with_reducible refine keep_same (u := ?_) _ ?_); rotate_left) | ((with_reducible refine keep_setA _ ?_ ?_); (focus first | omega | (simp; done) | (simp; omega))) | ((with_reducible refine keep_below (w := ?_) ?_ ?_); rotate_left; (with_reducible assumption))))))
  have d1 : W0.cell? (ad.add (K * wd + I + 1).toNat) = some (.int .i64 bb) := by rw [hW0]; (((try dsimp only); (repeat' apply And.intro) <;> (repeat (first | with_reducible assumption | (with_reducible refine keep_drew ?_) | (with_reducible refine keep_drewN ?_) | ((with_reducible refine keep_new _ _ _ _ _ _ ?_ ?_) <;> (first | rfl | (simp; done) | omega)) | (with_reducible refine keep_alloc _ ?_) | ((with_reducible refine keep_set _ ?_ ?_); (focus first | omega | (simp; done) | (simp; omega))) | ((with_reducible refine keep_set' _ ?_ ?_); (focus first | omega | (simp; done))) | ((with_reducible refine keep_same (u := ?_) _ ?_); rotate_left) | ((with_reducible refine keep_setA _ ?_ ?_); (focus first | omega | (simp; done) | (simp; omega))) | ((with_reducible refine keep_below (w := ?_) ?_ ?_); rotate_left; (with_reducible assumption))))))
  have d2 : W0.cell? (ad.add (K * wd + I + wd).toNat) = some (.int .i64 cc) := by rw [hW0]; (((try dsimp only); (repeat' apply And.intro) <;> (repeat (first | with_reducible assumption | (with_reducible refine keep_drew ?_) | (with_reducible refine keep_drewN ?_) | ((with_reducible refine keep_new _ _ _ _ _ _ ?_ ?_) <;> (first | rfl | (simp; done) | omega)) | (with_reducible refine keep_alloc _ ?_) | ((with_reducible refine keep_set _ ?_ ?_); (focus first | omega | (simp; done) | (simp; omega))) | ((with_reducible refine keep_set' _ ?_ ?_); (focus first | omega | (simp; done))) | ((with_reducible refine keep_same (u := ?_) _ ?_); rotate_left) | ((with_reducible refine keep_setA _ ?_ ?_); (focus first | omega | (simp; done) | (simp; omega))) | ((with_reducible refine keep_below (w := ?_) ?_ ?_); rotate_left; (with_reducible assumption))))))
  have d3 : W0.cell? (ad.add (K * wd + I + wd + 1).toNat) = some (.int .i64 dd) := by rw [hW0]; (((try dsimp only); (repeat' apply And.intro) <;> (repeat (first | with_reducible assumption | (with_reducible refine keep_drew ?_) | (with_reducible refine keep_drewN ?_) | ((with_reducible refine keep_new _ _ _ _ _ _ ?_ ?_) <;> (first | rfl | (simp; done) | omega)) | (with_reducible refine keep_alloc _ ?_) | ((with_reducible refine keep_set _ ?_ ?_); (focus first | omega | (simp; done) | (simp; omega))) | ((with_reducible refine keep_set' _ ?_ ?_); (focus first | omega | (simp; done))) | ((with_reducible refine keep_same (u := ?_) _ ?_); rotate_left) | ((with_reducible refine keep_setA _ ?_ ?_); (focus first | omega | (simp; done) | (simp; omega))) | ((with_reducible refine keep_below (w := ?_) ?_ ?_); rotate_left; (with_reducible assumption))))))
  have G0 := Lib.hid (fun q => gridAt wd I K ad n c a w.heap.size (W0.drewN q) (by omega) (by omega) g1 g3 d0 (by omega))
  have G1 := Lib.hid (fun q => gridAt wd (I + 1) K ad n c bb w.heap.size (W0.drewN q) (by omega) (by omega) g1 g3 (by rw [show K * wd + (I + 1) = K * wd + I + 1 by omega]; exact d1) (by omega))
  have G2 := Lib.hid (fun q => gridAt wd I (K + 1) ad n c cc w.heap.size (W0.drewN q) (by omega) (by omega) g1 g3 (by rw [show (K + 1) * wd + I = K * wd + I + wd by omega]; exact d2) (by omega))
  have G3 := Lib.hid (fun q => gridAt wd (I + 1) (K + 1) ad n c dd w.heap.size (W0.drewN q) (by omega) (by omega) g1 g3 (by rw [show (K + 1) * wd + (I + 1) = K * wd + I + wd + 1 by omega]; exact d3) (by omega))
  rw [hW0] at G0 G1 G2 G3
  have f1 := share_bd bA (a := s - U) (b := s - V) (by omega) (by omega)
  have f2 := share_bd bB (a := U) (b := s - V) (by omega) (by omega)
  have f3 := share_bd bC (a := s - U) (b := V) (by omega) (by omega)
  have f4 := share_bd bD (a := U) (b := V) (by omega) (by omega)
  have ss := mul_bound (a := s) (b := s) (A := 10000) (B := 10000) (by omega) (by omega) (by omega) (by omega) (by omega) (by omega)
  have sp : 1 ≤ s * s := by have := Int.mul_le_mul b.1.1 b.1.1 (by omega) (by omega); omega
  have s2 : Hid (2 * s * s = 2 * (s * s)) := Lib.hid (Int.mul_assoc 2 s s)
  have DV := Lib.hid (fun w => implDiv (sumF a bb cc dd s U V) (s * s) w (by omega) (by unfold sumF; omega) (by omega))
  have sn : Hid (0 ≤ sumF a bb cc dd s U V) := Lib.hid (by unfold sumF; omega)
  unfold sumF at DV
  have w1 : IntKind.i64.wrap (wd - 2) = wd - 2 := wr (by omega)
  have w2 : IntKind.i64.wrap (ht - 2) = ht - 2 := wr (by omega)
  have w3 : IntKind.i64.wrap (I * s) = I * s := wr (by omega)
  have w4 : IntKind.i64.wrap (x - I * s) = U := by rw [hU]; exact wr (by omega)
  have w5 : IntKind.i64.wrap (K * s) = K * s := wr (by omega)
  have w6 : IntKind.i64.wrap (y - K * s) = V := by rw [hV]; exact wr (by omega)
  have v1 : IntKind.i64.wrap (s - U) = s - U := wr (by omega)
  have v2 : IntKind.i64.wrap (s - V) = s - V := wr (by omega)
  have v3 : IntKind.i64.wrap (I + 1) = I + 1 := wr (by omega)
  have v4 : IntKind.i64.wrap (K + 1) = K + 1 := wr (by omega)
  have u1 : IntKind.i64.wrap (a * (s - U)) = a * (s - U) := wr (by omega)
  have u2 : IntKind.i64.wrap (a * (s - U) * (s - V)) = a * (s - U) * (s - V) := wr (by omega)
  have u3 : IntKind.i64.wrap (bb * U) = bb * U := wr (by omega)
  have u4 : IntKind.i64.wrap (bb * U * (s - V)) = bb * U * (s - V) := wr (by omega)
  have u5 : IntKind.i64.wrap (cc * (s - U)) = cc * (s - U) := wr (by omega)
  have u6 : IntKind.i64.wrap (cc * (s - U) * V) = cc * (s - U) * V := wr (by omega)
  have u7 : IntKind.i64.wrap (dd * U) = dd * U := wr (by omega)
  have u8 : IntKind.i64.wrap (dd * U * V) = dd * U * V := wr (by omega)
  have r1 : IntKind.i64.wrap (a * (s - U) * (s - V) + bb * U * (s - V)) = a * (s - U) * (s - V) + bb * U * (s - V) := wr (by omega)
  have r2 : IntKind.i64.wrap (a * (s - U) * (s - V) + bb * U * (s - V) + cc * (s - U) * V) = a * (s - U) * (s - V) + bb * U * (s - V) + cc * (s - U) * V := wr (by omega)
  have r3 : IntKind.i64.wrap (a * (s - U) * (s - V) + bb * U * (s - V) + cc * (s - U) * V + dd * U * V) = a * (s - U) * (s - V) + bb * U * (s - V) + cc * (s - U) * V + dd * U * V := wr (by omega)
  clear ra hz hp ha hn q bx by_ pl hU hV pk c0 c1 c2 c3 d0 d1 d2 d3 g1 g3 hW0 hI hK k1
  have N1 : (X1 < wd - 2 → X1 = I) ∧ (wd - 2 ≤ X1 → wd - 2 = I) := by constructor <;> intro h <;> (rw [← hI']; first | rw [if_pos h] | rw [if_neg (by omega)])
  have N2 : (Y1 < ht - 2 → Y1 = K) ∧ (ht - 2 ≤ Y1 → ht - 2 = K) := by constructor <;> intro h <;> (rw [← hK']; first | rw [if_pos h] | rw [if_neg (by omega)])
  have J1 := Lib.hid N1
  have J2 := Lib.hid N2
  clear N1 N2 hI' hK'
  go_enter Try.func58, Try.ntmps58
  go_upto_region 1 with fail
  go_cut [5, 6] (fun a b wx => a = .int .i64 I ∧ b = .int .i64 K ∧ ∃ q, wx = ((w.alloc (.cells #[.int .i64 s, .int .i64 wd, .int .i64 ht, .slice (some ad) n c, .slice B m d] 40)).alloc (.cells #[.int .i64 x, .int .i64 y] 30)).drewN q)
  case first =>
    go_quiet (fail)
    clear w3 w4 w5 w6 v1 v2 v3 v4 u1 u2 u3 u4 u5 u6 u7 u8 r1 r2 r3
    go_wp2_with fail
    all_goals (go_meet; have j1 := J1.out; have j2 := J2.out; exact ⟨by congr 1; omega, by congr 1; omega, _, rfl⟩)
  case rest =>
    obtain ⟨rfl, rfl, q, rfl⟩ := hcut
    go_wp2_with fail
    go_quiet (fail)
    go_wp2_with fail
    go_quiet ((first | (with_reducible exact quietL2 (G0.out _)) | (with_reducible exact quietL2 (G1.out _)) | (with_reducible exact quietL2 (G2.out _)) | (with_reducible exact quietL2 (G3.out _))))
    clear w1 w2 w3 w4 w5 w6 v1 v2 v3 v4 u1 u2 u3 u4 u5 u6 u7 u8 r1 r2 r3
    go_wp2_with (go_at_call 65; refine (DV.out _).mono ?_; rintro e w' ⟨rfl, nq, rfl⟩)
    go_ret
    refine ⟨ret_int ?_, (by repeat (first | with_reducible exact Below.refl _ _ | with_reducible assumption | (with_reducible refine Below.drew ?_) | (with_reducible refine below_drewN ?_ _) | ((with_reducible refine Below.alloc ?_ ?_ _); rotate_left; (focus first | exact Nat.le_refl _ | omega | (simp; done) | (simp; omega))) | ((with_reducible refine Below.setCell ?_ ?_ _); rotate_left; (focus first | exact Nat.le_refl _ | omega | (simp; done) | (simp; omega))) | ((with_reducible refine below_via (W := ?_) ?_ ?_ ?_); rotate_left; (with_reducible assumption); rotate_left; (focus first | exact Nat.le_refl _ | omega | (simp; done) | (simp; omega)))))⟩
    rw [HF.out]
    unfold hgtQ
    rw [s2.out]
    have h0 := sn.out
    show divR (sumF a bb cc dd s U V) (s * s) = _
    unfold divR divP
    rw [if_neg (by omega), if_neg (by omega)]

/-- what HeightAt gives -/
def hgtR (s wd ht : Int) (n m : Nat) (hs cs : List Int) (x y : Int) : Int × Int :=
  bif terB s wd ht n m hs cs then (bif hasB s wd ht x y then (hgtF s wd ht hs x y, 0) else (0, 2)) else (0, 1)
def hgtV (s wd ht : Int) (n m : Nat) (hs cs : List Int) (x y : Int) : Value := .tuple #[.int .i64 (hgtR s wd ht n m hs cs x y).1, .int .i64 (hgtR s wd ht n m hs cs x y).2]
theorem hgtV_eq {s wd ht : Int} {n m : Nat} {hs cs : List Int} {x y a c : Int} (h : hgtR s wd ht n m hs cs x y = (a, c)) : hgtV s wd ht n m hs cs x y = .tuple #[.int .i64 a, .int .i64 c] := by unfold hgtV; rw [h]

end Go.Proofs.Ytpgjllpiefpjjaa.WalkHH
