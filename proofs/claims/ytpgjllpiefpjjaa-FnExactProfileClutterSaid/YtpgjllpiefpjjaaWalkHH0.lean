/- The height at a point of a terrain: the reference's and the program's. -/
import Derived.Test.YtpgjllpiefpjjaaWalkH
import Derived.Deep.DeepCutAuto
namespace Go.Proofs.Ytpgjllpiefpjjaa.WalkHH0
open Go Go.RowKit Go.Proofs.Ytpgjllpiefpjjaa.Base Go.Proofs.Ytpgjllpiefpjjaa.Plain Go.Proofs.Ytpgjllpiefpjjaa.Words Go.Proofs.Ytpgjllpiefpjjaa.Ints Go.Proofs.Ytpgjllpiefpjjaa.WalkN Go.Proofs.Ytpgjllpiefpjjaa.WalkP Go.Proofs.Ytpgjllpiefpjjaa.WalkI Go.Proofs.Ytpgjllpiefpjjaa.WalkU Go.Proofs.Ytpgjllpiefpjjaa.WalkV Go.Proofs.Ytpgjllpiefpjjaa.PlainT Go.Proofs.Ytpgjllpiefpjjaa.WalkW Go.Proofs.Ytpgjllpiefpjjaa.WalkY Go.Proofs.Ytpgjllpiefpjjaa.PlainH Go.Proofs.Ytpgjllpiefpjjaa.WalkH
set_option linter.unusedVariables false
set_option linter.unusedSimpArgs false

theorem four {W : World} {A : Option Addr} {n : Nat} {hs : List Int} (ra : Rd W A n hs) {p q r t : Int} (hp : 0 ≤ p ∧ p < n) (hq : 0 ≤ q ∧ q < n) (hr : 0 ≤ r ∧ r < n) (ht : 0 ≤ t ∧ t < n) :
    ∃ ad, A = some ad ∧ W.cell? (ad.add p.toNat) = some (.int .i64 (hs.getD p.toNat 0)) ∧ W.cell? (ad.add q.toNat) = some (.int .i64 (hs.getD q.toNat 0)) ∧ W.cell? (ad.add r.toNat) = some (.int .i64 (hs.getD r.toNat 0)) ∧ W.cell? (ad.add t.toNat) = some (.int .i64 (hs.getD t.toNat 0)) := by
  obtain ⟨ad, hA, hc⟩ := ra.2 (by omega)
  exact ⟨ad, hA, hc _ (by omega), hc _ (by omega), hc _ (by omega), hc _ (by omega)⟩
theorem hgtF_eq (s w h : Int) (hs : List Int) (x y : Int) : hgtF s w h hs x y =
  hgtQ (hs.getD (minI (y / s) (h - 2) * w + minI (x / s) (w - 2)).toNat 0) (hs.getD (minI (y / s) (h - 2) * w + minI (x / s) (w - 2) + 1).toNat 0) (hs.getD (minI (y / s) (h - 2) * w + minI (x / s) (w - 2) + w).toNat 0) (hs.getD (minI (y / s) (h - 2) * w + minI (x / s) (w - 2) + w + 1).toNat 0)
    s (x - minI (x / s) (w - 2) * s) (y - minI (y / s) (h - 2) * s) := rfl
theorem wr {a : Int} (h : -9223372036854775808 ≤ a ∧ a ≤ 9223372036854775807) : IntKind.i64.wrap a = a := IntWalk.i64_in _ (by omega)

set_option maxRecDepth 100000 in
set_option maxHeartbeats 8000000 in
theorem specHgt (s wd ht : Int) (A : Option Addr) (n c : Nat) (hs : List Int) (x y : Int) (g : Nat) (w : World) (ra : Rd w A n hs) (hz : sizeB s wd ht = true) (hp : hasB s wd ht x y = true) (hn : (n : Int) = wd * ht) (ha : allB hs 0 90000 = true)
    (t0 : w.cell? ⟨g, 0, none⟩ = some (.int .i64 s)) (t1 : w.cell? ⟨g, 1, none⟩ = some (.int .i64 wd)) (t2 : w.cell? ⟨g, 2, none⟩ = some (.int .i64 ht)) (t3 : w.cell? ⟨g, 3, none⟩ = some (.slice A n c)) :
    Calls Try.prog 70 #[.pointer (some ⟨g, 0, none⟩), .agg #[.int .i64 x, .int .i64 y]] w fun e w' => e = .returned (.int .i64 (hgtF s wd ht hs x y)) ∧ Below w.heap.size w w' := by
  have b := sizeB_yes hz
  have p := has_yes hp
  have q := size_mul hz
  have bx := cell_bd b.1.1 b.2.1.1 p.1.1 p.1.2
  have by_ := cell_bd b.1.1 b.2.2.1.1 p.2.1 p.2.2
  have g0 := World.block_lt_of_cell? _ _ t0
  have HF := Lib.hid (hgtF_eq s wd ht hs x y)
  have M1 := Lib.hid (fun w => specMin (x / s) (wd - 2) w)
  have M2 := Lib.hid (fun w => specMin (y / s) (ht - 2) w)
  have e1 := quo_eq (a := x) (b := s) (by omega) (by omega) (by omega)
  have e2 := quo_eq (a := y) (b := s) (by omega) (by omega) (by omega)
  generalize minI (x / s) (wd - 2) = I at bx HF M1
  generalize minI (y / s) (ht - 2) = K at by_ HF M2
  generalize x / s = X1 at e1 M1
  generalize y / s = Y1 at e2 M2
  have pl := place_bd b.2.1 b.2.2.1 (i := I + 1) (k := K + 1) (by omega) (by omega)
  rw [Int.add_mul, Int.one_mul] at pl
  have pk : 0 ≤ K * wd := Int.mul_nonneg (by omega) (by omega)
  obtain ⟨U, hU⟩ : ∃ U, x - I * s = U := ⟨_, rfl⟩
  obtain ⟨V, hV⟩ : ∃ V, y - K * s = V := ⟨_, rfl⟩
  obtain ⟨P, hP⟩ : ∃ P, K * wd + I = P := ⟨_, rfl⟩
  rw [hU, hV, hP] at HF
  obtain ⟨ad, rfl, c0, c1, c2, c3⟩ := four ra (p := P) (q := P + 1) (r := P + wd) (t := P + wd + 1) (by omega) (by omega) (by omega) (by omega)
  have bA := allB_get ha (k := P.toNat) (by rw [ra.len]; omega)
  have bB := allB_get ha (k := (P + 1).toNat) (by rw [ra.len]; omega)
  have bC := allB_get ha (k := (P + wd).toNat) (by rw [ra.len]; omega)
  have bD := allB_get ha (k := (P + wd + 1).toNat) (by rw [ra.len]; omega)
  generalize hs.getD P.toNat 0 = a at c0 bA HF
  generalize hs.getD (P + 1).toNat 0 = bb at c1 bB HF
  generalize hs.getD (P + wd).toNat 0 = cc at c2 bC HF
  generalize hs.getD (P + wd + 1).toNat 0 = dd at c3 bD HF
  have hb0 := World.block_lt_of_cell? _ _ c0
  have hb1 := World.block_lt_of_cell? _ _ c1
  have hb2 := World.block_lt_of_cell? _ _ c2
  have hb3 := World.block_lt_of_cell? _ _ c3
  have f1 := share_bd bA (a := s - U) (b := s - V) (by omega) (by omega)
  have f2 := share_bd bB (a := U) (b := s - V) (by omega) (by omega)
  have f3 := share_bd bC (a := s - U) (b := V) (by omega) (by omega)
  have f4 := share_bd bD (a := U) (b := V) (by omega) (by omega)
  have ss := mul_bound (a := s) (b := s) (A := 10000) (B := 10000) (by omega) (by omega) (by omega) (by omega) (by omega) (by omega)
  have sp : 1 ≤ s * s := by have := Int.mul_le_mul b.1.1 b.1.1 (by omega) (by omega); omega
  have s2 : Hid (2 * s * s = 2 * (s * s)) := Lib.hid (Int.mul_assoc 2 s s)
  have s3 : 1 ≤ 2 * s * s ∧ 2 * s * s ≤ 200000000 := by rw [s2.out]; omega
  have s4 : (2 * s * s == 0) = false := by simp only [beq_eq_false_iff_ne]; omega
  have w1 : IntKind.i64.wrap (wd - 2) = wd - 2 := wr (by omega)
  have w2 : IntKind.i64.wrap (ht - 2) = ht - 2 := wr (by omega)
  have w3 : IntKind.i64.wrap (I * s) = I * s := wr (by omega)
  have w4 : IntKind.i64.wrap (x - I * s) = U := by rw [hU]; exact wr (by omega)
  have w5 : IntKind.i64.wrap (K * s) = K * s := wr (by omega)
  have w6 : IntKind.i64.wrap (y - K * s) = V := by rw [hV]; exact wr (by omega)
  have w7 : IntKind.i64.wrap (K * wd) = K * wd := wr (by omega)
  have w8 : IntKind.i64.wrap (K * wd + I) = P := by rw [hP]; exact wr (by omega)
  have v1 : IntKind.i64.wrap (s - U) = s - U := wr (by omega)
  have v2 : IntKind.i64.wrap (s - V) = s - V := wr (by omega)
  have v3 : IntKind.i64.wrap (P + 1) = P + 1 := wr (by omega)
  have v4 : IntKind.i64.wrap (P + wd) = P + wd := wr (by omega)
  have v5 : IntKind.i64.wrap (P + wd + 1) = P + wd + 1 := wr (by omega)
  have u1 : IntKind.i64.wrap (a * (s - U)) = a * (s - U) := wr (by omega)
  have u2 : IntKind.i64.wrap (a * (s - U) * (s - V)) = a * (s - U) * (s - V) := wr (by omega)
  have u3 : IntKind.i64.wrap (bb * U) = bb * U := wr (by omega)
  have u4 : IntKind.i64.wrap (bb * U * (s - V)) = bb * U * (s - V) := wr (by omega)
  have u5 : IntKind.i64.wrap (cc * (s - U)) = cc * (s - U) := wr (by omega)
  have u6 : IntKind.i64.wrap (cc * (s - U) * V) = cc * (s - U) * V := wr (by omega)
  have u7 : IntKind.i64.wrap (dd * U) = dd * U := wr (by omega)
  have u8 : IntKind.i64.wrap (dd * U * V) = dd * U * V := wr (by omega)
  have r1 : IntKind.i64.wrap (a * (s - U) * (s - V) + bb * U * (s - V)) = a * (s - U) * (s - V) + bb * U * (s - V) := wr (by omega)
  have r2 : IntKind.i64.wrap (a * (s - U) * (s - V) + bb * U * (s - V) + cc * (s - U) * V) = a * (s - U) * (s - V) + bb * U * (s - V) + cc * (s - U) * V := wr (by omega)
  have r3 : IntKind.i64.wrap (a * (s - U) * (s - V) + bb * U * (s - V) + cc * (s - U) * V + dd * U * V) = a * (s - U) * (s - V) + bb * U * (s - V) + cc * (s - U) * V + dd * U * V := wr (by omega)
  have i0 : 0 ≤ P ∧ P < (n : Int) ∧ 0 ≤ P + 1 ∧ P + 1 < (n : Int) ∧ 0 ≤ P + wd ∧ P + wd < (n : Int) ∧ 0 ≤ P + wd + 1 ∧ P + wd + 1 < (n : Int) := by omega
  obtain ⟨i1, i2, i3, i4, i5, i6, i7, i8⟩ := i0
  clear ra hz hp ha hn q bx by_ pl hU hV hP pk
  go_enter Try.func70, Try.ntmps70
  go_wp2_with fail
  go_quiet ((go_at_call 80; exact quietL (M1.out _)))
  go_wp2_with fail
  go_quiet ((go_at_call 80; first | (with_reducible exact quietL (M2.out _)) | (with_reducible exact quietL2 (M2.out _))))
  go_wp2_with fail
  go_quiet (fail)
  go_wp2_with fail
  go_quiet (fail)
  go_wp2_with fail
  go_quiet (fail)
  clear w1 w2 w3 w4 w5 w6 w7 w8 v1 v2 v3 v4 v5 u1 u2 u3 u4 u5 u6 u7 u8 r1 r2 r3 c0 c1 c2 c3
  go_wp2_with fail
  go_ret
  exact ⟨ret_int (by rw [HF.out]; unfold hgtQ sumF; first | rfl | rw [s2.out]), (by repeat (first | with_reducible exact Below.refl _ _ | with_reducible assumption | (with_reducible refine Below.drew ?_) | (with_reducible refine below_drewN ?_ _) | ((with_reducible refine Below.alloc ?_ ?_ _); rotate_left; (focus first | exact Nat.le_refl _ | omega | (simp; done) | (simp; omega))) | ((with_reducible refine Below.setCell ?_ ?_ _); rotate_left; (focus first | exact Nat.le_refl _ | omega | (simp; done) | (simp; omega))) | ((with_reducible refine below_via (W := ?_) ?_ ?_ ?_); rotate_left; (with_reducible assumption); rotate_left; (focus first | exact Nat.le_refl _ | omega | (simp; done) | (simp; omega)))))⟩

end Go.Proofs.Ytpgjllpiefpjjaa.WalkHH0
