/- The height and the clutter at a point of a terrain: the reference's and the program's. -/
import Derived.Test.YtpgjllpiefpjjaaWalkY
import Derived.Test.YtpgjllpiefpjjaaPlainH
namespace Go.Proofs.Ytpgjllpiefpjjaa.WalkH
open Go Go.RowKit Go.Proofs.Ytpgjllpiefpjjaa.Base Go.Proofs.Ytpgjllpiefpjjaa.Plain Go.Proofs.Ytpgjllpiefpjjaa.Words Go.Proofs.Ytpgjllpiefpjjaa.Ints Go.Proofs.Ytpgjllpiefpjjaa.WalkN Go.Proofs.Ytpgjllpiefpjjaa.WalkP Go.Proofs.Ytpgjllpiefpjjaa.WalkI Go.Proofs.Ytpgjllpiefpjjaa.WalkU Go.Proofs.Ytpgjllpiefpjjaa.WalkV Go.Proofs.Ytpgjllpiefpjjaa.PlainT Go.Proofs.Ytpgjllpiefpjjaa.WalkW Go.Proofs.Ytpgjllpiefpjjaa.WalkY Go.Proofs.Ytpgjllpiefpjjaa.PlainH
set_option linter.unusedVariables false
set_option linter.unusedSimpArgs false

theorem specMin (a b : Int) (w : World) : Calls Try.prog 80 #[.int .i64 a, .int .i64 b] w fun e w' => e = .returned (.int .i64 (minI a b)) ∧ w = w' := by
  by_cases h : a < b
  · have H : Hid (minI a b = a) := Lib.hid (by unfold minI; rw [if_pos h])
    go_enter Try.func80, Try.ntmps80
    go_wp2
    go_ret
    exact ⟨ret_int H.out.symm, rfl⟩
  · have H : Hid (minI a b = b) := Lib.hid (by unfold minI; rw [if_neg h])
    go_enter Try.func80, Try.ntmps80
    go_wp2
    go_ret
    exact ⟨ret_int H.out.symm, rfl⟩
theorem has_yes {s wd ht x y : Int} (h : hasB s wd ht x y = true) : (0 ≤ x ∧ x ≤ (wd - 1) * s) ∧ (0 ≤ y ∧ y ≤ (ht - 1) * s) := by
  unfold hasB at h
  rw [Bool.and_eq_true] at h
  exact ⟨inB_yes h.1, inB_yes h.2⟩
theorem quo_eq {a b : Int} (ha : 0 ≤ a) (hb : 1 ≤ b) (hm : a ≤ 1000000000000000000) : IntKind.i64.wrap (a.tdiv b) = a / b := by
  rw [Int.tdiv_eq_ediv_of_nonneg ha]
  have h1 : 0 ≤ a / b := Int.ediv_nonneg ha (by omega)
  have h2 : a / b ≤ a := Int.ediv_le_self _ ha
  exact IntWalk.i64_in _ (by omega)

set_option maxHeartbeats 2000000 in
theorem specClu (s wd ht : Int) (B : Option Addr) (m d : Nat) (cs : List Int) (v3 : Value) (x y : Int) (g : Nat) (w : World) (rb : Rd w B m cs) (hz : sizeB s wd ht = true) (hp : hasB s wd ht x y = true) (hm : (m : Int) = wd * ht)
    (t0 : w.cell? ⟨g, 0, none⟩ = some (.int .i64 s)) (t1 : w.cell? ⟨g, 1, none⟩ = some (.int .i64 wd)) (t4 : w.cell? ⟨g, 4, none⟩ = some (.slice B m d)) :
    Calls Try.prog 59 #[.pointer (some ⟨g, 0, none⟩), .agg #[.int .i64 x, .int .i64 y]] w fun e w' => e = .returned (.int .i64 (cluF s wd cs x y)) ∧ Below w.heap.size w w' := by
  have b := sizeB_yes hz
  have p := has_yes hp
  have q := size_mul hz
  have bx := near_bd b.1.1 p.1.1 p.1.2
  have by_ := near_bd b.1.1 p.2.1 p.2.2
  have pl := place_bd b.2.1 b.2.2.1 bx by_
  have g0 := World.block_lt_of_cell? _ _ t0
  have e1 : IntKind.i64.wrap (2 * x) = 2 * x := IntWalk.i64_in _ (by omega)
  have e2 : IntKind.i64.wrap (2 * x + s) = 2 * x + s := IntWalk.i64_in _ (by omega)
  have e3 : IntKind.i64.wrap (2 * s) = 2 * s := IntWalk.i64_in _ (by omega)
  have e4 : IntKind.i64.wrap (2 * y) = 2 * y := IntWalk.i64_in _ (by omega)
  have e5 : IntKind.i64.wrap (2 * y + s) = 2 * y + s := IntWalk.i64_in _ (by omega)
  have e6 := quo_eq (a := 2 * x + s) (b := 2 * s) (by omega) (by omega) (by omega)
  have e7 := quo_eq (a := 2 * y + s) (b := 2 * s) (by omega) (by omega) (by omega)
  have HF : Hid (cluF s wd cs x y = cs.getD ((2 * y + s) / (2 * s) * wd + (2 * x + s) / (2 * s)).toNat 0) := Lib.hid rfl
  generalize (2 * x + s) / (2 * s) = X at bx pl e6 HF
  generalize (2 * y + s) / (2 * s) = Y at by_ pl e7 HF
  have e8 : IntKind.i64.wrap (Y * wd) = Y * wd := IntWalk.i64_in _ (by omega)
  have e9 : IntKind.i64.wrap (Y * wd + X) = Y * wd + X := IntWalk.i64_in _ (by omega)
  have n0 : 2 * s ≠ 0 := by omega
  have n1 : (2 * s == 0) = false := by simpa using n0
  have hlt : (Y * wd + X).toNat < m := by omega
  have i1 : Y * wd + X < (m : Int) := by omega
  have i0 : 0 ≤ Y * wd + X := by omega
  obtain ⟨ad, rfl, hc⟩ := rb.at_ hlt
  have hcb := World.block_lt_of_cell? _ _ hc
  clear rb hz hp hlt
  go_enter Try.func59, Try.ntmps59
  go_wp2_with fail
  go_quiet (fail)
  go_wp2_with fail
  go_quiet (fail)
  go_wp2_with fail
  go_quiet (fail)
  clear e1 e2 e3 e4 e5 e6 e7 e8 e9
  go_wp2_with fail
  go_ret
  exact ⟨ret_int HF.out.symm, (by repeat (first | with_reducible exact Below.refl _ _ | with_reducible assumption | (with_reducible refine Below.drew ?_) | (with_reducible refine below_drewN ?_ _) | ((with_reducible refine Below.alloc ?_ ?_ _); rotate_left; (focus first | exact Nat.le_refl _ | omega | (simp; done) | (simp; omega))) | ((with_reducible refine Below.setCell ?_ ?_ _); rotate_left; (focus first | exact Nat.le_refl _ | omega | (simp; done) | (simp; omega))) | ((with_reducible refine below_via (W := ?_) ?_ ?_ ?_); rotate_left; (with_reducible assumption); rotate_left; (focus first | exact Nat.le_refl _ | omega | (simp; done) | (simp; omega)))))⟩

set_option maxHeartbeats 2000000 in
theorem implClu (s wd ht x y : Int) (A B : Option Addr) (n c m d : Nat) (cs : List Int) (w : World) (rb : Rd w B m cs) (hz : sizeB s wd ht = true) (hp : hasB s wd ht x y = true) (hm : (m : Int) = wd * ht) :
    Calls Try.prog 60 #[.agg #[.int .i64 s, .int .i64 wd, .int .i64 ht, .slice A n c, .slice B m d], .agg #[.int .i64 x, .int .i64 y]] w fun e w' => e = .returned (.int .i64 (cluF s wd cs x y)) ∧ Below w.heap.size w w' := by
  have b := sizeB_yes hz
  have p := has_yes hp
  have q := size_mul hz
  have bx := near_bd b.1.1 p.1.1 p.1.2
  have by_ := near_bd b.1.1 p.2.1 p.2.2
  have pl := place_bd b.2.1 b.2.2.1 bx by_
  have e1 : IntKind.i64.wrap (2 * x) = 2 * x := IntWalk.i64_in _ (by omega)
  have e2 : IntKind.i64.wrap (2 * x + s) = 2 * x + s := IntWalk.i64_in _ (by omega)
  have e3 : IntKind.i64.wrap (2 * s) = 2 * s := IntWalk.i64_in _ (by omega)
  have e4 : IntKind.i64.wrap (2 * y) = 2 * y := IntWalk.i64_in _ (by omega)
  have e5 : IntKind.i64.wrap (2 * y + s) = 2 * y + s := IntWalk.i64_in _ (by omega)
  have e6 := quo_eq (a := 2 * x + s) (b := 2 * s) (by omega) (by omega) (by omega)
  have e7 := quo_eq (a := 2 * y + s) (b := 2 * s) (by omega) (by omega) (by omega)
  have HF : Hid (cluF s wd cs x y = cs.getD ((2 * y + s) / (2 * s) * wd + (2 * x + s) / (2 * s)).toNat 0) := Lib.hid rfl
  generalize (2 * x + s) / (2 * s) = X at bx pl e6 HF
  generalize (2 * y + s) / (2 * s) = Y at by_ pl e7 HF
  have e8 : IntKind.i64.wrap (Y * wd) = Y * wd := IntWalk.i64_in _ (by omega)
  have e9 : IntKind.i64.wrap (Y * wd + X) = Y * wd + X := IntWalk.i64_in _ (by omega)
  have n1 : (2 * s == 0) = false := by simp; omega
  have hlt : (Y * wd + X).toNat < m := by omega
  have i1 : Y * wd + X < (m : Int) := by omega
  have i0 : 0 ≤ Y * wd + X := by omega
  obtain ⟨ad, rfl, hc⟩ := rb.at_ hlt
  have hcb := World.block_lt_of_cell? _ _ hc
  have hcb' : (ad.add (Y * wd + X).toNat).block < w.heap.size + 1 := by omega
  clear rb hz hp hlt
  go_enter Try.func60, Try.ntmps60
  go_wp2_with fail
  go_quiet (fail)
  clear e1 e2 e3 e4 e5 e6 e7
  go_wp2_with fail
  go_ret
  exact ⟨ret_int HF.out.symm, (by repeat (first | with_reducible exact Below.refl _ _ | with_reducible assumption | (with_reducible refine Below.drew ?_) | (with_reducible refine below_drewN ?_ _) | ((with_reducible refine Below.alloc ?_ ?_ _); rotate_left; (focus first | exact Nat.le_refl _ | omega | (simp; done) | (simp; omega))) | ((with_reducible refine Below.setCell ?_ ?_ _); rotate_left; (focus first | exact Nat.le_refl _ | omega | (simp; done) | (simp; omega))) | ((with_reducible refine below_via (W := ?_) ?_ ?_ ?_); rotate_left; (with_reducible assumption); rotate_left; (focus first | exact Nat.le_refl _ | omega | (simp; done) | (simp; omega)))))⟩

/-- what ClutterAt gives -/
def cluR (s wd ht : Int) (n m : Nat) (hs cs : List Int) (x y : Int) : Int × Int :=
  bif terB s wd ht n m hs cs then (bif hasB s wd ht x y then (cluF s wd cs x y, 0) else (0, 2)) else (0, 1)
def cluV (s wd ht : Int) (n m : Nat) (hs cs : List Int) (x y : Int) : Value := .tuple #[.int .i64 (cluR s wd ht n m hs cs x y).1, .int .i64 (cluR s wd ht n m hs cs x y).2]
theorem cluV_eq {s wd ht : Int} {n m : Nat} {hs cs : List Int} {x y a c : Int} (h : cluR s wd ht n m hs cs x y = (a, c)) : cluV s wd ht n m hs cs x y = .tuple #[.int .i64 a, .int .i64 c] := by unfold cluV; rw [h]

end Go.Proofs.Ytpgjllpiefpjjaa.WalkH
