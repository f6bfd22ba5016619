/- Laws on texts of numbers: Decimal, PointText, DbText. -/
import Derived.Test.YtbggickeomeidaaDoorDec
import Derived.Test.YtbggickeomeidaaDoorPlainDb
import Derived.Deep.RegionHeld3
import Derived.Test.YtbggickeomeidaaDoorOver
namespace Go.Proofs.YtbggickeomeidaaDoor.WalkTx
open Go Go.RowKit Go.Proofs.YtbggickeomeidaaDoor.Base Go.Proofs.YtbggickeomeidaaDoor.Plain Go.Proofs.YtbggickeomeidaaDoor.WalkN Go.Proofs.YtbggickeomeidaaDoor.WalkP Go.Proofs.YtbggickeomeidaaDoor.Words Go.Proofs.YtbggickeomeidaaDoor.Ints Go.Proofs.YtbggickeomeidaaDoor.Cells Go.Proofs.YtbggickeomeidaaDoor.Text Go.Proofs.YtbggickeomeidaaDoor.Dec Go.Proofs.YtbggickeomeidaaDoor.Over
set_option linter.unusedVariables false
set_option linter.unusedSimpArgs false

theorem txt_small {n : Int} (h : -9223372036854775808 ≤ n ∧ n ≤ 9223372036854775807) : (txt n).size ≤ 20 := by
  rw [txt_size]
  unfold Lib.itoa
  split
  · rw [List.length_cons, Lib.decDigits_length]
    have := nd_le (N := n.natAbs) (by omega)
    omega
  · rw [Lib.decDigits_length]
    have := nd_le (N := n.toNat) (by omega)
    omega

theorem cat_run (a b c : ByteArray) (h : a.size + b.size ≤ 140737488355328) (hc : a ++ b = c) : ∀ W : World, (Op.stringOp .add a b).run Tryd.prog W = .ok (.string c) W := fun W => by
  rw [run_string_add_sum W a b (by omega), hc]
theorem cat_size (a b : ByteArray) : (a ++ b).size = a.size + b.size := by simp
/-- a point as text -/
def ptxt (x y : Int) : ByteArray := txt x ++ ⟨#[44]⟩ ++ txt y
/-- what PointText gives -/
def ptR (x y : Int) : ByteArray := bif okP x y then ptxt x y else ⟨#[]⟩
theorem ptR_yes {x y : Int} (h : okP x y = true) : ptR x y = ptxt x y := by unfold ptR; rw [h]; rfl
theorem ptR_no {x y : Int} (h : okP x y = false) : ptR x y = ⟨#[]⟩ := by unfold ptR; rw [h]; rfl
theorem ret_str {a b : ByteArray} (h : a = b) : Ending.returned (.string a) = .returned (.string b) := by rw [h]
theorem tab_alloc {w : World} (h : Tab w) (o : Obj) : Tab (w.alloc o) := Tab.below ((Below.refl _ _).alloc (Nat.le_refl _) _) h
theorem implPoint (x y : Int) (w : World) (hT : Tab w) :
    Calls Tryd.prog 43 #[.agg #[.int .i64 x, .int .i64 y]] w fun e w' => e = .returned (.string (ptR x y)) ∧ Below w.heap.size w w' := by
  have A := Lib.hid (fun W => implOk x y W)
  cases ho : okP x y
  · have H := Lib.hid (ptR_no ho)
    rw [ho] at A
    clear ho hT
    go_enter Tryd.func43, Tryd.ntmps43
    go_wp2_with (go_at_call 49; refine (A.out _).mono ?_; rintro e w' ⟨rfl, rfl⟩)
    go_ret
    exact ⟨ret_str H.out.symm, (by repeat (first | with_reducible exact Below.refl _ _ | with_reducible assumption | (with_reducible refine Below.drew ?_) | (with_reducible refine below_drewN ?_ _) | ((with_reducible refine Below.alloc ?_ ?_ _); rotate_left; (focus first | exact Nat.le_refl _ | omega | (simp; done) | (simp; omega))) | ((with_reducible refine Below.setCell ?_ ?_ _); rotate_left; (focus first | exact Nat.le_refl _ | omega | (simp; done) | (simp; omega))) | ((with_reducible refine below_via (W := ?_) ?_ ?_ ?_); rotate_left; (with_reducible assumption); rotate_left; (focus first | exact Nat.le_refl _ | omega | (simp; done) | (simp; omega)))))⟩
  · have H := Lib.hid (ptR_yes ho)
    have b := okP_yes ho
    have HT := Lib.hid (tab_alloc (tab_alloc hT (.cells #[.int .i64 x, .int .i64 y] 31)) (.cells #[.int .i64 x, .int .i64 y] 31))
    rw [ho] at A
    have sx := txt_small (n := x) (by omega)
    have sy := txt_small (n := y) (by omega)
    have s44 : (⟨#[44]⟩ : ByteArray).size = 1 := rfl
    have K1 := cat_run (txt x) ⟨#[44]⟩ _ (by rw [s44]; omega) rfl
    have K2 := cat_run (txt x ++ ⟨#[44]⟩) (txt y) (ptxt x y) (by rw [cat_size, s44]; omega) rfl
    clear ho hT s44 sx sy
    go_enter Tryd.func43, Tryd.ntmps43
    go_wp2_with (go_at_call 49; refine (A.out _).mono ?_; rintro e w' ⟨rfl, rfl⟩)
    have hu := Up.cells ((w.alloc (.cells #[.int .i64 x, .int .i64 y] 31)).alloc (.cells #[.int .i64 x, .int .i64 y] 31))
    refine region_up (by kernel_rfl) (by kernel_rfl) ?_
    repeat (go_big_quiet_step ((go_at_call 36; exact call_up _ (implDec _ _ (by omega) (Tab.below (Subtype.property _) HT.out)))))
    refine wpQuiet_nil ?_
    rintro _ ⟨⟨w1, hb1⟩, rfl⟩
    clear hu K1 K2
    go_wp2_with fail
    go_ret
    exact ⟨ret_str H.out.symm, (by repeat (first | with_reducible exact Below.refl _ _ | with_reducible assumption | (with_reducible refine Below.drew ?_) | (with_reducible refine below_drewN ?_ _) | ((with_reducible refine Below.alloc ?_ ?_ _); rotate_left; (focus first | exact Nat.le_refl _ | omega | (simp; done) | (simp; omega))) | ((with_reducible refine Below.setCell ?_ ?_ _); rotate_left; (focus first | exact Nat.le_refl _ | omega | (simp; done) | (simp; omega))) | ((with_reducible refine below_via (W := ?_) ?_ ?_ ?_); rotate_left; (with_reducible assumption); rotate_left; (focus first | exact Nat.le_refl _ | omega | (simp; done) | (simp; omega)))))⟩
theorem nd_four {n : Nat} (h1 : 1000 ≤ n) (h2 : n ≤ 1999) : Lib.nDigits n = 4 := Lib.nDigits_unique 3 n (by rw [show (10 : Nat) ^ 3 = 1000 by decide]; exact h1) (by rw [show (10 : Nat) ^ (3 + 1) = 10000 by decide]; omega)
theorem txt_four {n : Int} (h1 : 1000 ≤ n) (h2 : n ≤ 1999) : (txt n).size = 4 := by
  obtain ⟨m, rfl⟩ : ∃ m : Nat, n = (m : Int) := ⟨n.toNat, by omega⟩
  rw [txt_nat]
  exact nd_four (by omega) (by omega)
/-- a level that is not negative as text -/
def lvP (v : Int) : ByteArray := txt (v / 1000) ++ ⟨#[46]⟩ ++ (txt (1000 + v % 1000)).extract 1 4
/-- a level as text -/
def lvT (v : Int) : ByteArray := if v < 0 then ⟨#[45]⟩ ++ lvP (-v) else lvP v
theorem empty_cat (a : ByteArray) : (⟨#[]⟩ : ByteArray) ++ a = a := by
  apply ByteArray.ext
  simp
set_option maxHeartbeats 1000000 in
theorem specTextN (a : Int) (w : World) (h1 : 1 ≤ a) (h2 : a ≤ 300000) :
    Calls Tryd.prog 54 #[.int .i64 (-a)] w fun e w' => e = .returned (.string (⟨#[45]⟩ ++ lvP a)) ∧ Below w.heap.size w w' := by
  have sx := txt_small (n := a / 1000) (by omega)
  have s4 := txt_four (n := 1000 + a % 1000) (by omega) (by omega)
  have s45 : (⟨#[45]⟩ : ByteArray).size = 1 := rfl
  have s46 : (⟨#[46]⟩ : ByteArray).size = 1 := rfl
  have HR : Hid (⟨#[45]⟩ ++ lvP a = ⟨#[45]⟩ ++ txt (a / 1000) ++ ⟨#[46]⟩ ++ (txt (1000 + a % 1000)).extract 1 4) := Lib.hid (by unfold lvP; simp only [ByteArray.append_assoc])
  obtain ⟨t4, ht4⟩ : ∃ t, txt (1000 + a % 1000) = t := ⟨_, rfl⟩
  have A := Lib.hid (fun W => specDec (1000 + a % 1000) W (by omega))
  have B := Lib.hid (fun W => specDec (a / 1000) W (by omega))
  rw [ht4] at s4 HR A
  have se : (t4.extract 1 4).size ≤ 4 := by rw [ByteArray.size_extract]; omega
  have K1 := cat_run ⟨#[45]⟩ (txt (a / 1000)) _ (by rw [s45]; omega) rfl
  have K2 := cat_run (⟨#[45]⟩ ++ txt (a / 1000)) ⟨#[46]⟩ _ (by rw [cat_size, s45, s46]; omega) rfl
  have K3 := cat_run (⟨#[45]⟩ ++ txt (a / 1000) ++ ⟨#[46]⟩) (t4.extract 1 4) _ (by rw [cat_size, cat_size, s45, s46]; omega) rfl
  have i0 : (1 : Int) ≤ (t4.size : Int) := by omega
  clear sx s45 s46 se ht4
  go_enter Tryd.func54, Tryd.ntmps54
  go_wp2_with (go_at_call 72; refine (A.out _).mono ?_; rintro e w1 ⟨rfl, hb1⟩)
  refine region_up (by kernel_rfl) (by kernel_rfl) ?_
  repeat (go_big_quiet_step ((go_at_call 72; exact call_up _ (B.out _))))
  refine wpQuiet_nil ?_
  rintro _ ⟨⟨w2, hb2⟩, rfl⟩
  clear K1 K2 K3 s4
  have z1 := hb1.size
  go_wp2_with fail
  go_ret
  exact ⟨ret_str HR.out.symm, (by repeat (first | with_reducible exact Below.refl _ _ | with_reducible assumption | (with_reducible refine Below.drew ?_) | (with_reducible refine below_drewN ?_ _) | ((with_reducible refine Below.alloc ?_ ?_ _); rotate_left; (focus first | exact Nat.le_refl _ | omega | (simp; done) | (simp; omega))) | ((with_reducible refine Below.setCell ?_ ?_ _); rotate_left; (focus first | exact Nat.le_refl _ | omega | (simp; done) | (simp; omega))) | ((with_reducible refine below_via (W := ?_) ?_ ?_ ?_); rotate_left; (with_reducible assumption); rotate_left; (focus first | exact Nat.le_refl _ | omega | (simp; done) | (simp; omega)))))⟩

set_option maxHeartbeats 1000000 in
theorem specTextP (a : Int) (w : World) (h1 : 0 ≤ a) (h2 : a ≤ 300000) :
    Calls Tryd.prog 54 #[.int .i64 a] w fun e w' => e = .returned (.string (lvP a)) ∧ Below w.heap.size w w' := by
  have sx := txt_small (n := a / 1000) (by omega)
  have s4 := txt_four (n := 1000 + a % 1000) (by omega) (by omega)
  have s0 : (⟨#[]⟩ : ByteArray).size = 0 := rfl
  have s46 : (⟨#[46]⟩ : ByteArray).size = 1 := rfl
  have HR : Hid (lvP a = txt (a / 1000) ++ ⟨#[46]⟩ ++ (txt (1000 + a % 1000)).extract 1 4) := Lib.hid rfl
  obtain ⟨t4, ht4⟩ : ∃ t, txt (1000 + a % 1000) = t := ⟨_, rfl⟩
  have A := Lib.hid (fun W => specDec (1000 + a % 1000) W (by omega))
  have B := Lib.hid (fun W => specDec (a / 1000) W (by omega))
  rw [ht4] at s4 HR A
  have se : (t4.extract 1 4).size ≤ 4 := by rw [ByteArray.size_extract]; omega
  have K1 := cat_run ⟨#[]⟩ (txt (a / 1000)) (txt (a / 1000)) (by rw [s0]; omega) (empty_cat _)
  have K2 := cat_run (txt (a / 1000)) ⟨#[46]⟩ _ (by rw [s46]; omega) rfl
  have K3 := cat_run (txt (a / 1000) ++ ⟨#[46]⟩) (t4.extract 1 4) _ (by rw [cat_size, s46]; omega) rfl
  have i0 : (1 : Int) ≤ (t4.size : Int) := by omega
  clear sx s0 s46 se ht4
  go_enter Tryd.func54, Tryd.ntmps54
  go_wp2_with (go_at_call 72; refine (A.out _).mono ?_; rintro e w1 ⟨rfl, hb1⟩)
  refine region_up (by kernel_rfl) (by kernel_rfl) ?_
  repeat (go_big_quiet_step ((go_at_call 72; exact call_up _ (B.out _))))
  refine wpQuiet_nil ?_
  rintro _ ⟨⟨w2, hb2⟩, rfl⟩
  clear K1 K2 K3 s4
  have z1 := hb1.size
  go_wp2_with fail
  go_ret
  exact ⟨ret_str HR.out.symm, (by repeat (first | with_reducible exact Below.refl _ _ | with_reducible assumption | (with_reducible refine Below.drew ?_) | (with_reducible refine below_drewN ?_ _) | ((with_reducible refine Below.alloc ?_ ?_ _); rotate_left; (focus first | exact Nat.le_refl _ | omega | (simp; done) | (simp; omega))) | ((with_reducible refine Below.setCell ?_ ?_ _); rotate_left; (focus first | exact Nat.le_refl _ | omega | (simp; done) | (simp; omega))) | ((with_reducible refine below_via (W := ?_) ?_ ?_ ?_); rotate_left; (with_reducible assumption); rotate_left; (focus first | exact Nat.le_refl _ | omega | (simp; done) | (simp; omega)))))⟩
theorem absF_neg {a : Int} (h : 1 ≤ a) : absF (-a) = a := by unfold absF; rw [if_pos (by omega)]; omega
theorem absF_pos {a : Int} (h : 0 ≤ a) : absF a = a := by unfold absF; rw [if_neg (by omega)]
set_option maxHeartbeats 1000000 in
theorem implTextN (a : Int) (w : World) (h1 : 1 ≤ a) (h2 : a ≤ 300000) (hT : Tab w) :
    Calls Tryd.prog 33 #[.int .i64 (-a)] w fun e w' => e = .returned (.string (⟨#[45]⟩ ++ lvP a)) ∧ Below w.heap.size w w' := by
  have sx := txt_small (n := a / 1000) (by omega)
  have s4 := txt_four (n := 1000 + a % 1000) (by omega) (by omega)
  have s45 : (⟨#[45]⟩ : ByteArray).size = 1 := rfl
  have s46 : (⟨#[46]⟩ : ByteArray).size = 1 := rfl
  have HR : Hid (⟨#[45]⟩ ++ lvP a = ⟨#[45]⟩ ++ (txt (a / 1000) ++ ⟨#[46]⟩ ++ (txt (1000 + a % 1000)).extract 1 4)) := Lib.hid rfl
  obtain ⟨t4, ht4⟩ : ∃ t, txt (1000 + a % 1000) = t := ⟨_, rfl⟩
  have A := Lib.hid (fun W (hb : Below w.heap.size w W) => implDec (1000 + a % 1000) W (by omega) (Tab.below hb hT))
  have B := Lib.hid (fun W (hb : Below w.heap.size w W) => implDec (a / 1000) W (by omega) (Tab.below hb hT))
  have C := Lib.hid (fun W => (abs_any (-a) W (by omega)))
  rw [absF_neg (by omega)] at C
  rw [ht4] at s4 HR A
  have se : (t4.extract 1 4).size ≤ 4 := by rw [ByteArray.size_extract]; omega
  have K2 := cat_run (txt (a / 1000)) ⟨#[46]⟩ _ (by rw [s46]; omega) rfl
  have K3 := cat_run (txt (a / 1000) ++ ⟨#[46]⟩) (t4.extract 1 4) _ (by rw [cat_size, s46]; omega) rfl
  have K4 := cat_run ⟨#[45]⟩ (txt (a / 1000) ++ ⟨#[46]⟩ ++ t4.extract 1 4) _ (by rw [cat_size, cat_size, s45, s46]; omega) rfl
  have i0 : (1 : Int) ≤ (t4.size : Int) := by omega
  have hin : inB (-a) (-300000) 300000 = true := inB_mk (by omega)
  clear sx s45 s46 se ht4 hT
  go_enter Tryd.func33, Tryd.ntmps33
  go_wp2_with (first | (go_at_call 38; refine (specIn _ _ _ _).mono ?_; rintro e w' ⟨rfl, rfl⟩) | (go_at_call 50; refine (implIn _ _ _ _).mono ?_; rintro e w' ⟨rfl, rfl⟩) | (go_at_call 59; refine (C.out _).mono ?_; rintro e w' ⟨rfl, rfl⟩) | (go_at_call 36; first | ((with_reducible refine (A.out _ (by repeat (first | with_reducible exact Below.refl _ _ | with_reducible assumption | (with_reducible refine Below.drew ?_) | (with_reducible refine below_drewN ?_ _) | ((with_reducible refine Below.alloc ?_ ?_ _); rotate_left; (focus first | exact Nat.le_refl _ | omega | (simp; done) | (simp; omega))) | ((with_reducible refine Below.setCell ?_ ?_ _); rotate_left; (focus first | exact Nat.le_refl _ | omega | (simp; done) | (simp; omega))) | ((with_reducible refine below_via (W := ?_) ?_ ?_ ?_); rotate_left; (with_reducible assumption); rotate_left; (focus first | exact Nat.le_refl _ | omega | (simp; done) | (simp; omega)))))).mono ?_); rintro e w1 ⟨rfl, hb1⟩; have z1 := hb1.size) | ((with_reducible refine (B.out _ (by repeat (first | with_reducible exact Below.refl _ _ | with_reducible assumption | (with_reducible refine Below.drew ?_) | (with_reducible refine below_drewN ?_ _) | ((with_reducible refine Below.alloc ?_ ?_ _); rotate_left; (focus first | exact Nat.le_refl _ | omega | (simp; done) | (simp; omega))) | ((with_reducible refine Below.setCell ?_ ?_ _); rotate_left; (focus first | exact Nat.le_refl _ | omega | (simp; done) | (simp; omega))) | ((with_reducible refine below_via (W := ?_) ?_ ?_ ?_); rotate_left; (with_reducible assumption); rotate_left; (focus first | exact Nat.le_refl _ | omega | (simp; done) | (simp; omega)))))).mono ?_); rintro e w2 ⟨rfl, hb2⟩)) | (go_at_call 58; go_in))
  clear K2 K3 K4 s4
  go_ret
  exact ⟨ret_str HR.out.symm, (by repeat (first | with_reducible exact Below.refl _ _ | with_reducible assumption | (with_reducible refine Below.drew ?_) | (with_reducible refine below_drewN ?_ _) | ((with_reducible refine Below.alloc ?_ ?_ _); rotate_left; (focus first | exact Nat.le_refl _ | omega | (simp; done) | (simp; omega))) | ((with_reducible refine Below.setCell ?_ ?_ _); rotate_left; (focus first | exact Nat.le_refl _ | omega | (simp; done) | (simp; omega))) | ((with_reducible refine below_via (W := ?_) ?_ ?_ ?_); rotate_left; (with_reducible assumption); rotate_left; (focus first | exact Nat.le_refl _ | omega | (simp; done) | (simp; omega)))))⟩
set_option maxHeartbeats 1000000 in
theorem implTextP (a : Int) (w : World) (h1 : 0 ≤ a) (h2 : a ≤ 300000) (hT : Tab w) :
    Calls Tryd.prog 33 #[.int .i64 a] w fun e w' => e = .returned (.string (lvP a)) ∧ Below w.heap.size w w' := by
  have sx := txt_small (n := a / 1000) (by omega)
  have s4 := txt_four (n := 1000 + a % 1000) (by omega) (by omega)
  have s46 : (⟨#[46]⟩ : ByteArray).size = 1 := rfl
  have HR : Hid (lvP a = txt (a / 1000) ++ ⟨#[46]⟩ ++ (txt (1000 + a % 1000)).extract 1 4) := Lib.hid rfl
  obtain ⟨t4, ht4⟩ : ∃ t, txt (1000 + a % 1000) = t := ⟨_, rfl⟩
  have A := Lib.hid (fun W (hb : Below w.heap.size w W) => implDec (1000 + a % 1000) W (by omega) (Tab.below hb hT))
  have B := Lib.hid (fun W (hb : Below w.heap.size w W) => implDec (a / 1000) W (by omega) (Tab.below hb hT))
  have C := Lib.hid (fun W => (abs_any a W (by omega)))
  rw [absF_pos (by omega)] at C
  rw [ht4] at s4 HR A
  have se : (t4.extract 1 4).size ≤ 4 := by rw [ByteArray.size_extract]; omega
  have K2 := cat_run (txt (a / 1000)) ⟨#[46]⟩ _ (by rw [s46]; omega) rfl
  have K3 := cat_run (txt (a / 1000) ++ ⟨#[46]⟩) (t4.extract 1 4) _ (by rw [cat_size, s46]; omega) rfl
  have i0 : (1 : Int) ≤ (t4.size : Int) := by omega
  have hin : inB a (-300000) 300000 = true := inB_mk (by omega)
  clear sx s46 se ht4 hT
  go_enter Tryd.func33, Tryd.ntmps33
  go_wp2_with (first | (go_at_call 38; refine (specIn _ _ _ _).mono ?_; rintro e w' ⟨rfl, rfl⟩) | (go_at_call 50; refine (implIn _ _ _ _).mono ?_; rintro e w' ⟨rfl, rfl⟩) | (go_at_call 59; refine (C.out _).mono ?_; rintro e w' ⟨rfl, rfl⟩) | (go_at_call 36; first | ((with_reducible refine (A.out _ (by repeat (first | with_reducible exact Below.refl _ _ | with_reducible assumption | (with_reducible refine Below.drew ?_) | (with_reducible refine below_drewN ?_ _) | ((with_reducible refine Below.alloc ?_ ?_ _); rotate_left; (focus first | exact Nat.le_refl _ | omega | (simp; done) | (simp; omega))) | ((with_reducible refine Below.setCell ?_ ?_ _); rotate_left; (focus first | exact Nat.le_refl _ | omega | (simp; done) | (simp; omega))) | ((with_reducible refine below_via (W := ?_) ?_ ?_ ?_); rotate_left; (with_reducible assumption); rotate_left; (focus first | exact Nat.le_refl _ | omega | (simp; done) | (simp; omega)))))).mono ?_); rintro e w1 ⟨rfl, hb1⟩; have z1 := hb1.size) | ((with_reducible refine (B.out _ (by repeat (first | with_reducible exact Below.refl _ _ | with_reducible assumption | (with_reducible refine Below.drew ?_) | (with_reducible refine below_drewN ?_ _) | ((with_reducible refine Below.alloc ?_ ?_ _); rotate_left; (focus first | exact Nat.le_refl _ | omega | (simp; done) | (simp; omega))) | ((with_reducible refine Below.setCell ?_ ?_ _); rotate_left; (focus first | exact Nat.le_refl _ | omega | (simp; done) | (simp; omega))) | ((with_reducible refine below_via (W := ?_) ?_ ?_ ?_); rotate_left; (with_reducible assumption); rotate_left; (focus first | exact Nat.le_refl _ | omega | (simp; done) | (simp; omega)))))).mono ?_); rintro e w2 ⟨rfl, hb2⟩)) | (go_at_call 58; go_in))
  clear K2 K3 s4
  go_ret
  exact ⟨ret_str HR.out.symm, (by repeat (first | with_reducible exact Below.refl _ _ | with_reducible assumption | (with_reducible refine Below.drew ?_) | (with_reducible refine below_drewN ?_ _) | ((with_reducible refine Below.alloc ?_ ?_ _); rotate_left; (focus first | exact Nat.le_refl _ | omega | (simp; done) | (simp; omega))) | ((with_reducible refine Below.setCell ?_ ?_ _); rotate_left; (focus first | exact Nat.le_refl _ | omega | (simp; done) | (simp; omega))) | ((with_reducible refine below_via (W := ?_) ?_ ?_ ?_); rotate_left; (with_reducible assumption); rotate_left; (focus first | exact Nat.le_refl _ | omega | (simp; done) | (simp; omega)))))⟩
/-- what DbText gives -/
def dbR (v : Int) : ByteArray := bif inB v (-300000) 300000 then lvT v else ⟨#[]⟩
theorem dbR_no {v : Int} (h : inB v (-300000) 300000 = false) : dbR v = ⟨#[]⟩ := by unfold dbR; rw [h]; rfl
theorem dbR_neg {a : Int} (h1 : 1 ≤ a) (h2 : a ≤ 300000) : dbR (-a) = ⟨#[45]⟩ ++ lvP a := by
  unfold dbR lvT
  rw [inB_mk (by omega), if_pos (by omega), Int.neg_neg]
  rfl
theorem dbR_pos {a : Int} (h1 : 0 ≤ a) (h2 : a ≤ 300000) : dbR a = lvP a := by
  unfold dbR lvT
  rw [inB_mk (by omega), if_neg (by omega)]
  rfl
theorem implDb (v : Int) (w : World) (hT : Tab w) : Calls Tryd.prog 33 #[.int .i64 v] w fun e w' => e = .returned (.string (dbR v)) ∧ Below w.heap.size w w' := by
  cases hv : inB v (-300000) 300000
  · have H := Lib.hid (dbR_no hv)
    have I := Lib.hid (fun W => implIn v (-300000) 300000 W)
    rw [hv] at I
    clear hv hT
    go_enter Tryd.func33, Tryd.ntmps33
    go_wp2_with (first | (go_at_call 50; refine (I.out _).mono ?_; rintro e w' ⟨rfl, rfl⟩) | (go_at_call 58; go_in))
    go_ret
    exact ⟨ret_str H.out.symm, Below.refl _ _⟩
  · have b := inB_yes hv
    by_cases hn : v < 0
    · obtain ⟨a, rfl⟩ : ∃ a, v = -a := ⟨-v, by omega⟩
      rw [dbR_neg (by omega) (by omega)]
      exact implTextN a w (by omega) (by omega) hT
    · rw [dbR_pos (by omega) (by omega)]
      exact implTextP v w (by omega) (by omega) hT
end Go.Proofs.YtbggickeomeidaaDoor.WalkTx
