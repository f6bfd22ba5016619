/- Decibels: sums and means. -/
import Derived.Test.YthjdmcjlnmonmabDoorWalkDD
import Derived.Test.YthjdmcjlnmonmabDoorWalkMx
import Derived.Test.YthjdmcjlnmonmabDoorWalkU
import Derived.Test.YthjdmcjlnmonmabDoorPlainT
namespace Go.Proofs.YthjdmcjlnmonmabDoor.WalkDS
open Go Go.RowKit Go.Proofs.YthjdmcjlnmonmabDoor.Base Go.Proofs.YthjdmcjlnmonmabDoor.Plain Go.Proofs.YthjdmcjlnmonmabDoor.PlainT Go.Proofs.YthjdmcjlnmonmabDoor.PlainDb Go.Proofs.YthjdmcjlnmonmabDoor.WalkN Go.Proofs.YthjdmcjlnmonmabDoor.WalkP Go.Proofs.YthjdmcjlnmonmabDoor.Words Go.Proofs.YthjdmcjlnmonmabDoor.Ints Go.Proofs.YthjdmcjlnmonmabDoor.WalkI Go.Proofs.YthjdmcjlnmonmabDoor.WalkU Go.Proofs.YthjdmcjlnmonmabDoor.WalkMx Go.Proofs.YthjdmcjlnmonmabDoor.WalkLS Go.Proofs.YthjdmcjlnmonmabDoor.Text Go.Proofs.YthjdmcjlnmonmabDoor.WalkLI Go.Proofs.YthjdmcjlnmonmabDoor.WalkDP Go.Proofs.YthjdmcjlnmonmabDoor.WalkDD
set_option linter.unusedVariables false
set_option linter.unusedSimpArgs false

/-- the code of a list of levels -/
def codeL (zs : List Int) : Int := bif allB zs (-300000) 300000 then (if 64 < zs.length then 5 else if zs.length = 0 then 6 else 0) else 2
theorem code_out {zs : List Int} (h : allB zs (-300000) 300000 = false) : codeL zs = 2 := by unfold codeL; rw [h]; rfl
theorem code_in {zs : List Int} (h : allB zs (-300000) 300000 = true) : codeL zs = if 64 < zs.length then 5 else if zs.length = 0 then 6 else 0 := by unfold codeL; rw [h]; rfl

theorem specCheck (A : Option Addr) (n c : Nat) (zs : List Int) (w : World) (ra : Rd w A n zs) (hn : n ≤ maxLen) :
    Calls Tryd.prog 29 #[.slice A n c] w fun e w' => e = .returned (.int .i64 (codeL zs)) ∧ w = w' := by
  unfold maxLen at hn
  have RA := Lib.hid ra
  clear ra
  go_enter Tryd.func29, Tryd.ntmps29
  go_wp2
  go_loop [3] (fun i => ∃ k : Nat, k ≤ n ∧ i = .int .i64 k ∧ Hid (∀ j, j < k → inB (zs.getD j 0) (-300000) 300000 = true)) (fun i => n - (intOf i).toNat)
  case atStart => exact ⟨0, Nat.zero_le _, rfl, Lib.hid (fun j hj => absurd hj (by omega))⟩
  case round =>
    obtain ⟨k, hk, rfl, HK⟩ := hrel
    by_cases hlt : k < n
    · obtain ⟨ad, rfl, hc⟩ := RA.out.at_ hlt
      generalize hx : zs.getD k 0 = x at hc
      have HX := Lib.hid hx
      clear hx
      have CL := specLv x w
      unfold lvB at CL
      cases hin : inB x (-300000) 300000
      · have HF : Hid (codeL zs = 2) := Lib.hid (code_out (allB_stop (k := k) (by rw [RA.out.len]; exact hlt) (by rw [HX.out]; exact hin)))
        rw [hin] at CL
        have CH := Lib.hid CL
        clear CL hin
        go_wp2_with (go_at_call 25; refine CH.out.mono ?_; rintro e w' ⟨rfl, rfl⟩)
        go_ret
        exact ⟨ret_int HF.out.symm, rfl⟩
      · rw [hin] at CL
        have CH := Lib.hid CL
        have HIN := Lib.hid hin
        clear CL hin
        go_wp2_with (go_at_call 25; refine CH.out.mono ?_; rintro e w' ⟨rfl, rfl⟩)
        go_round
        case rel =>
          refine ⟨k + 1, by omega, by go_num, Lib.hid fun j hj => ?_⟩
          by_cases e : j = k
          · rw [e, HX.out]
            exact HIN.out
          · exact HK.out j (by omega)
        case measure => simp [intOf]; omega
    · obtain rfl : k = n := by omega
      have HF := Lib.hid (code_in (allB_end RA.out.len HK.out))
      rw [RA.out.len] at HF
      by_cases h64 : 64 < k
      · rw [if_pos h64] at HF
        go_wp2
        go_ret
        exact ⟨ret_int HF.out.symm, rfl⟩
      · rw [if_neg h64] at HF
        by_cases h0 : k = 0
        · rw [if_pos h0] at HF
          subst h0
          go_wp2
          go_ret
          exact ⟨ret_int HF.out.symm, rfl⟩
        · rw [if_neg h0] at HF
          have he : ((k : Int) == 0) = false := by simp; omega
          go_wp2
          go_ret
          exact ⟨ret_int HF.out.symm, rfl⟩

theorem implCheck (A : Option Addr) (n c : Nat) (zs : List Int) (w : World) (ra : Rd w A n zs) (hn : n ≤ maxLen) :
    Calls Tryd.prog 31 #[.slice A n c] w fun e w' => e = .returned (.int .i64 (codeL zs)) ∧ Below w.heap.size w w' := by
  have C := Lib.hid (implAll A n c zs (-300000) 300000 w ra hn)
  have hl := ra.len
  unfold maxLen at hn
  clear ra
  cases ha : allB zs (-300000) 300000
  · have HF := Lib.hid (code_out ha)
    rw [ha] at C
    clear ha hl
    go_enter Tryd.func31, Tryd.ntmps31
    go_wp2_with (go_at_call 37; refine C.out.mono ?_; rintro e w1 ⟨rfl, hb1⟩)
    go_ret
    exact ⟨ret_int HF.out.symm, hb1⟩
  · have HF := Lib.hid (code_in ha)
    rw [ha] at C
    rw [hl] at HF
    clear ha hl
    by_cases h64 : 64 < n
    · rw [if_pos h64] at HF
      go_enter Tryd.func31, Tryd.ntmps31
      go_wp2_with (go_at_call 37; refine C.out.mono ?_; rintro e w1 ⟨rfl, hb1⟩)
      go_ret
      exact ⟨ret_int HF.out.symm, hb1⟩
    · rw [if_neg h64] at HF
      by_cases h0 : n = 0
      · rw [if_pos h0] at HF
        subst h0
        go_enter Tryd.func31, Tryd.ntmps31
        go_wp2_with (go_at_call 37; refine C.out.mono ?_; rintro e w1 ⟨rfl, hb1⟩)
        go_ret
        exact ⟨ret_int HF.out.symm, hb1⟩
      · rw [if_neg h0] at HF
        have he : ((n : Int) == 0) = false := by simp; omega
        go_enter Tryd.func31, Tryd.ntmps31
        go_wp2_with (go_at_call 37; refine C.out.mono ?_; rintro e w1 ⟨rfl, hb1⟩)
        go_ret
        exact ⟨ret_int HF.out.symm, hb1⟩

/-- the sum of the first k parts -/
def sumK (zs : List Int) (M : Int) : Nat → Int
  | 0 => 0
  | k + 1 => sumK zs M k + partF (zs.getD k 0 - M)
theorem sumK_bd {zs : List Int} {M : Int} {n : Nat} (h : ∀ j, j < n → zs.getD j 0 ≤ M) : ∀ k, k ≤ n → 0 ≤ sumK zs M k ∧ sumK zs M k ≤ 1000000000 * k
  | 0, _ => by simp [sumK]
  | k + 1, hk => by
    have ih := sumK_bd h k (by omega)
    have hp := partF_range (v := zs.getD k 0 - M) (by have := h k (by omega); omega)
    show 0 ≤ sumK zs M k + partF (zs.getD k 0 - M) ∧ sumK zs M k + partF (zs.getD k 0 - M) ≤ _
    omega
theorem sumK_pos {zs : List Int} {M : Int} {n t : Nat} (h : ∀ j, j < n → zs.getD j 0 ≤ M) (ht : zs.getD t 0 = M) : ∀ k, t < k → k ≤ n → 1 ≤ sumK zs M k
  | 0, h0, _ => absurd h0 (by omega)
  | k + 1, h0, hk => by
    have hb := sumK_bd h k (by omega)
    have hp := partF_range (v := zs.getD k 0 - M) (by have := h k (by omega); omega)
    show 1 ≤ sumK zs M k + partF (zs.getD k 0 - M)
    by_cases e : k = t
    · rw [e, ht]
      have := partF_pos (v := M - M) (by omega)
      rw [e] at hb
      omega
    · have := sumK_pos h ht k (by omega) (by omega)
      omega
/-- the greatest level -/
def mostF (zs : List Int) : Int := zs.getD (topN zs zs.length) 0
/-- the sum of levels -/
def sumF (zs : List Int) : Int := mostF zs - 90000 + logZ (sumK zs (mostF zs) zs.length)

theorem specMaxR (a b : Int) (w : World) (h : a ≤ b) : Calls Tryd.prog 36 #[.int .i64 a, .int .i64 b] w fun e w' => e = .returned (.int .i64 b) ∧ w = w' := by
  go_enter Tryd.func36, Tryd.ntmps36
  go_wp2
  go_ret
  exact ⟨rfl, rfl⟩
theorem specMaxL (a b : Int) (w : World) (h : b ≤ a) : Calls Tryd.prog 36 #[.int .i64 a, .int .i64 b] w fun e w' => e = .returned (.int .i64 a) ∧ w = w' := by
  by_cases e : a = b
  · subst e
    exact specMaxR a a w h
  · go_enter Tryd.func36, Tryd.ntmps36
    go_wp2
    go_ret
    exact ⟨rfl, rfl⟩

/-- levels, of which there is one at least and which are not too many -/
structure Lvs (n : Nat) (zs : List Int) : Prop where
  len : zs.length = n
  pos : 1 ≤ n
  le : n ≤ 64
  rng : ∀ j, j < n → -300000 ≤ zs.getD j 0 ∧ zs.getD j 0 ≤ 300000
theorem Lvs.most {n : Nat} {zs : List Int} (h : Lvs n zs) : (∀ j, j < n → zs.getD j 0 ≤ mostF zs) ∧ zs.getD (topN zs n) 0 = mostF zs ∧ topN zs n < n ∧ -300000 ≤ mostF zs ∧ mostF zs ≤ 300000 := by
  have ht := topN_lt zs n (by have := h.pos; omega)
  have e : mostF zs = zs.getD (topN zs n) 0 := by unfold mostF; rw [h.len]
  rw [e]
  exact ⟨fun j hj => topN_max zs n j hj, rfl, ht, (h.rng _ ht).1, (h.rng _ ht).2⟩
theorem Lvs.sum {n : Nat} {zs : List Int} (h : Lvs n zs) : 1 ≤ sumK zs (mostF zs) n ∧ sumK zs (mostF zs) n ≤ 64000000000 := by
  have m := h.most
  have b := sumK_bd m.1 n (Nat.le_refl _)
  have p := sumK_pos m.1 m.2.1 n m.2.2.1 (Nat.le_refl _)
  have := h.le
  omega
theorem Lvs.val {n : Nat} {zs : List Int} (h : Lvs n zs) : sumF zs = mostF zs - 90000 + logZ (sumK zs (mostF zs) n) := by unfold sumF; rw [h.len]
theorem Lvs.mk' {n : Nat} {zs : List Int} (hl : zs.length = n) (h : codeL zs = 0) : Lvs n zs := by
  cases ha : allB zs (-300000) 300000
  · rw [code_out ha] at h; cases h
  · rw [code_in ha, hl] at h
    by_cases h64 : 64 < n
    · rw [if_pos h64] at h; cases h
    · by_cases h0 : n = 0
      · rw [if_neg h64, if_pos h0] at h; cases h
      · exact ⟨hl, by omega, by omega, fun j hj => allB_get ha (by omega)⟩

set_option maxHeartbeats 1000000 in
theorem specSum (A : Option Addr) (n c : Nat) (zs : List Int) (w : World) (ra : Rd w A n zs) (hv : Lvs n zs) :
    Calls Tryd.prog 30 #[.slice A n c] w fun e w' => e = .returned (.int .i64 (sumF zs)) ∧ w = w' := by
  have RA := Lib.hid ra
  have HV := Lib.hid hv
  have h1 := hv.pos
  have h64 := hv.le
  clear ra hv
  obtain ⟨ad, rfl, hc0⟩ := RA.out.at_ (show 0 < n by omega)
  have hc1 : w.cell? ad = some (.int .i64 (zs.getD 0 0)) := hc0
  generalize hx : zs.getD 0 0 = x at hc1
  have HX := Lib.hid hx
  clear hc0 hx
  go_enter Tryd.func30, Tryd.ntmps30
  go_wp2
  clear hc1
  go_loop [3, 4] (fun m i => ∃ k : Nat, ∃ M : Int, 1 ≤ k ∧ k ≤ n ∧ i = .int .i64 k ∧ m = .int .i64 M ∧ Hid (M = zs.getD (topN zs k) 0)) (fun _ i => n - (intOf i).toNat)
  case atStart => exact ⟨1, _, by omega, by omega, rfl, rfl, Lib.hid (by rw [topN_one, HX.out])⟩
  case round =>
    obtain ⟨k, M, hk1, hk, rfl, rfl, HM⟩ := hrel
    by_cases hlt : k < n
    · obtain ⟨ad', hA, hd⟩ := RA.out.at_ hlt
      injection hA with hA
      subst hA
      generalize hy : zs.getD k 0 = y at hd
      have HY := Lib.hid hy
      clear hy
      by_cases hm : M < y
      · have HT : Hid (y = zs.getD (topN zs (k + 1)) 0) := Lib.hid (by rw [topN_up (by rw [← HM.out, HY.out]; exact hm), HY.out])
        have C := Lib.hid (specMaxR M y w (by omega))
        go_wp2_with (go_at_call 36; refine C.out.mono ?_; rintro e w' ⟨rfl, rfl⟩)
        go_round
        case rel => exact ⟨k + 1, _, by omega, by omega, by go_num, rfl, HT⟩
        case measure => simp [intOf]; omega
      · have HT : Hid (M = zs.getD (topN zs (k + 1)) 0) := Lib.hid (by rw [topN_stay (by rw [← HM.out, HY.out]; exact hm), HM.out])
        have C := Lib.hid (specMaxL M y w (by omega))
        go_wp2_with (go_at_call 36; refine C.out.mono ?_; rintro e w' ⟨rfl, rfl⟩)
        go_round
        case rel => exact ⟨k + 1, _, by omega, by omega, by go_num, rfl, HT⟩
        case measure => simp [intOf]; omega
    · obtain rfl : k = n := by omega
      have mm := HV.out.most
      have HMM : Hid (M = mostF zs) := Lib.hid (HM.out.trans mm.2.1)
      have hMb : -300000 ≤ M ∧ M ≤ 300000 := by rw [HMM.out]; exact mm.2.2.2
      have HLE : Hid (∀ j, j < k → zs.getD j 0 ≤ M) := Lib.hid (by rw [HMM.out]; exact mm.1)
      clear mm
      go_wp2
      go_loop [5, 6] (fun s i => ∃ (q : Nat) (S : Int), q ≤ k ∧ i = .int .i64 q ∧ s = .int .i64 S ∧ 0 ≤ S ∧ S ≤ 64000000000 ∧ Hid (S = sumK zs M q)) (fun _ i => k - (intOf i).toNat)
      case atStart => exact ⟨0, 0, Nat.zero_le _, rfl, rfl, by omega, by omega, Lib.hid rfl⟩
      case round =>
        obtain ⟨q, S, hq, rfl, rfl, hS1, hS2, HS⟩ := hrel
        by_cases hlt2 : q < k
        · obtain ⟨ad', hA, hd⟩ := RA.out.at_ hlt2
          injection hA with hA
          subst hA
          have rg := HV.out.rng q hlt2
          have le := HLE.out q hlt2
          have HN : Hid (S + partF (zs.getD q 0 - M) = sumK zs M (q + 1)) := Lib.hid (by rw [HS.out]; rfl)
          have bd := sumK_bd HLE.out (q + 1) (by omega)
          rw [← HN.out] at bd
          generalize zs.getD q 0 = y at hd rg le HN bd
          have pr := partF_range (v := y - M) (by omega)
          have P := Lib.hid (fun W => specPart (y - M) W (by omega))
          generalize partF (y - M) = p at P HN bd pr
          go_wp2_with (go_at_call 26; refine (P.out _).mono ?_; rintro e w' ⟨rfl, rfl⟩)
          go_round
          case rel => exact ⟨q + 1, S + p, by omega, by go_num, rfl, by omega, by omega, HN⟩
          case measure => simp [intOf]; omega
        · obtain rfl : q = k := by omega
          have sm := HV.out.sum
          rw [← HMM.out, ← HS.out] at sm
          obtain ⟨m, rfl⟩ : ∃ m : Nat, S = (m : Int) := ⟨S.toNat, by omega⟩
          have HF : Hid (sumF zs = M - 90000 + logF m) := Lib.hid (by rw [HV.out.val, ← HMM.out, ← HS.out, logZ_nat (by omega)])
          have L := Lib.hid (fun W => specLog m W (by omega) (by omega))
          have lr := logF_range (n := m) (by omega) (by omega)
          go_wp2_with (go_at_call 20; refine (L.out _).mono ?_; rintro e w' ⟨rfl, rfl⟩)
          go_ret
          exact ⟨ret_int HF.out.symm, rfl⟩

set_option maxHeartbeats 1000000 in
theorem implSum (A : Option Addr) (n c : Nat) (zs : List Int) (w : World) (ra : Rd w A n zs) (hv : Lvs n zs) (hT : Tab w) :
    Calls Tryd.prog 32 #[.slice A n c] w fun e w' => e = .returned (.int .i64 (sumF zs)) ∧ Below w.heap.size w w' := by
  have RA := Lib.hid ra
  have HV := Lib.hid hv
  have h1 := hv.pos
  have h64 := hv.le
  have mm := hv.most
  have HMX := implMax A n c zs w ra (by unfold maxLen; omega) (by omega)
  rw [mm.2.1] at HMX
  obtain ⟨M, hM⟩ : ∃ M, mostF zs = M := ⟨_, rfl⟩
  rw [hM] at mm HMX
  have MX := Lib.hid HMX
  have HMM := Lib.hid hM
  have hMb := mm.2.2.2
  have HLE := Lib.hid mm.1
  have PT := Lib.hid (fun (v : Int) (W : World) (hv : -1000000 ≤ v ∧ v ≤ 0) (hb : Below w.heap.size w W) => implPart v W hv (Tab.below hb hT))
  have LG := Lib.hid (fun (m : Int) (W : World) (h : -9223372036854775808 ≤ m ∧ m ≤ 9223372036854775807) (hb : Below w.heap.size w W) => implLogZ m W h (Tab.below hb hT))
  clear ra hv mm HMX hM hT
  go_enter Tryd.func32, Tryd.ntmps32
  go_wp2_with (go_at_call 38; refine MX.out.mono ?_; rintro e w' ⟨rfl, rfl⟩)
  go_loopw [4, 11] (fun s i wr => ∃ (q : Nat) (S : Int), q ≤ n ∧ i = .int .i64 q ∧ s = .int .i64 S ∧ 0 ≤ S ∧ S ≤ 64000000000 ∧ Hid (S = sumK zs M q) ∧ Hid (Below w.heap.size w wr)) (fun _ i _ => n - (intOf i).toNat)
  case atStart => exact ⟨0, 0, Nat.zero_le _, rfl, rfl, by omega, by omega, Lib.hid rfl, Lib.hid (Below.refl _ _)⟩
  case round =>
    obtain ⟨q, S, hq, rfl, rfl, hS1, hS2, HS, HB⟩ := hrel
    by_cases hlt2 : q < n
    · obtain ⟨ad, rfl, hd⟩ := (Rd.below HB.out RA.out).at_ hlt2
      have rg := HV.out.rng q hlt2
      have le := HLE.out q hlt2
      have HN : Hid (S + partF (zs.getD q 0 - M) = sumK zs M (q + 1)) := Lib.hid (by rw [HS.out]; rfl)
      have bd := sumK_bd HLE.out (q + 1) (by omega)
      rw [← HN.out] at bd
      generalize zs.getD q 0 = y at hd rg le HN bd
      have pr := partF_range (v := y - M) (by omega)
      have P := Lib.hid (PT.out (y - M) wr (by omega) HB.out)
      generalize partF (y - M) = p at P HN bd pr
      go_wp2_with (go_at_call 28; refine P.out.mono ?_; rintro e w2 ⟨rfl, hb2⟩)
      go_roundw
      case rel => exact ⟨q + 1, S + p, by omega, by go_num, rfl, by omega, by omega, HN, Lib.hid (HB.out.trans (hb2.mono HB.out.size))⟩
      case measure => simp [intOf]; omega
    · obtain rfl : q = n := by omega
      have sm := HV.out.sum
      rw [HMM.out, ← HS.out] at sm
      have HF : Hid (sumF zs = M - 90000 + logZ S) := Lib.hid (by rw [HV.out.val, HMM.out, ← HS.out])
      have L := Lib.hid (LG.out S wr (by omega) HB.out)
      have lr := logZ_range (n := S) (by omega)
      go_wp2_with (go_at_call 21; refine L.out.mono ?_; rintro e w2 ⟨rfl, hb2⟩)
      go_ret
      exact ⟨ret_int HF.out.symm, HB.out.trans (hb2.mono HB.out.size)⟩
theorem sumF_range {n : Nat} {zs : List Int} (h : Lvs n zs) : -390000 ≤ sumF zs ∧ sumF zs ≤ 400000 := by
  have m := h.most
  have s := h.sum
  have l := logZ_range (n := sumK zs (mostF zs) n) (by omega)
  rw [h.val]
  omega

/-- what SumDb and MeanDb give -/
def smR (zs : List Int) : Int := if codeL zs = 0 then sumF zs else 0
def mnR (zs : List Int) : Int := if codeL zs = 0 then sumF zs - logZ zs.length else 0
theorem specSumDb (A : Option Addr) (n c : Nat) (zs : List Int) (w : World) (ra : Rd w A n zs) (hn : n ≤ maxLen) :
    Calls Tryd.prog 18 #[.slice A n c] w fun e w' => e = .returned (.tuple #[.int .i64 (smR zs), .int .i64 (codeL zs)]) ∧ w = w' := by
  have C := Lib.hid (specCheck A n c zs w ra hn)
  by_cases h0 : codeL zs = 0
  · have hv := Lvs.mk' ra.len h0
    have H : Hid (smR zs = sumF zs) := Lib.hid (by unfold smR; rw [if_pos h0])
    have S := Lib.hid (specSum A n c zs w ra hv)
    rw [h0] at C ⊢
    clear h0 ra hv
    go_enter Tryd.func18, Tryd.ntmps18
    go_wp2_with (first | (go_at_call 29; refine C.out.mono ?_; rintro e w' ⟨rfl, rfl⟩) | (go_at_call 30; refine S.out.mono ?_; rintro e w' ⟨rfl, rfl⟩))
    go_ret2
    exact ⟨ret_val (by rw [H.out]; rfl), rfl⟩
  · have H : Hid (smR zs = 0) := Lib.hid (by unfold smR; rw [if_neg h0])
    obtain ⟨k, hk⟩ : ∃ k, codeL zs = k := ⟨_, rfl⟩
    rw [hk] at C h0 ⊢
    have h1 : (k != 0) = true := by simp; exact h0
    clear hk ra h0
    go_enter Tryd.func18, Tryd.ntmps18
    go_wp2_with (go_at_call 29; refine C.out.mono ?_; rintro e w' ⟨rfl, rfl⟩)
    go_ret2
    exact ⟨ret_val (by rw [H.out]; rfl), rfl⟩
theorem implSumDb (A : Option Addr) (n c : Nat) (zs : List Int) (w : World) (ra : Rd w A n zs) (hn : n ≤ maxLen) (hT : Tab w) :
    Calls Tryd.prog 19 #[.slice A n c] w fun e w' => e = .returned (.tuple #[.int .i64 (smR zs), .int .i64 (codeL zs)]) ∧ Below w.heap.size w w' := by
  have C := Lib.hid (implCheck A n c zs w ra hn)
  by_cases h0 : codeL zs = 0
  · have hv := Lvs.mk' ra.len h0
    have H : Hid (smR zs = sumF zs) := Lib.hid (by unfold smR; rw [if_pos h0])
    have S := Lib.hid (fun W (hb : Below w.heap.size w W) => implSum A n c zs W (Rd.below hb ra) hv (Tab.below hb hT))
    rw [h0] at C ⊢
    clear h0 ra hv hT
    go_enter Tryd.func19, Tryd.ntmps19
    go_wp2_with (first | (go_at_call 31; refine C.out.mono ?_; rintro e w1 ⟨rfl, hb1⟩; have z1 := hb1.size) | (go_at_call 32; refine (S.out _ (by repeat (first | with_reducible exact Below.refl _ _ | with_reducible assumption | (with_reducible refine Below.drew ?_) | (with_reducible refine below_drewN ?_ _) | ((with_reducible refine Below.alloc ?_ ?_ _); rotate_left; (focus first | exact Nat.le_refl _ | omega | (simp; done) | (simp; omega))) | ((with_reducible refine Below.setCell ?_ ?_ _); rotate_left; (focus first | exact Nat.le_refl _ | omega | (simp; done) | (simp; omega))) | ((with_reducible refine below_via (W := ?_) ?_ ?_ ?_); rotate_left; (with_reducible assumption); rotate_left; (focus first | exact Nat.le_refl _ | omega | (simp; done) | (simp; omega)))))).mono ?_; rintro e w2 ⟨rfl, hb2⟩))
    go_ret2
    exact ⟨ret_val (by rw [H.out]; rfl), (by repeat (first | with_reducible exact Below.refl _ _ | with_reducible assumption | (with_reducible refine Below.drew ?_) | (with_reducible refine below_drewN ?_ _) | ((with_reducible refine Below.alloc ?_ ?_ _); rotate_left; (focus first | exact Nat.le_refl _ | omega | (simp; done) | (simp; omega))) | ((with_reducible refine Below.setCell ?_ ?_ _); rotate_left; (focus first | exact Nat.le_refl _ | omega | (simp; done) | (simp; omega))) | ((with_reducible refine below_via (W := ?_) ?_ ?_ ?_); rotate_left; (with_reducible assumption); rotate_left; (focus first | exact Nat.le_refl _ | omega | (simp; done) | (simp; omega)))))⟩
  · have H : Hid (smR zs = 0) := Lib.hid (by unfold smR; rw [if_neg h0])
    obtain ⟨k, hk⟩ : ∃ k, codeL zs = k := ⟨_, rfl⟩
    rw [hk] at C h0 ⊢
    have h1 : (k != 0) = true := by simp; exact h0
    clear hk ra h0 hT
    go_enter Tryd.func19, Tryd.ntmps19
    go_wp2_with (go_at_call 31; refine C.out.mono ?_; rintro e w1 ⟨rfl, hb1⟩)
    go_ret2
    exact ⟨ret_val (by rw [H.out]; rfl), hb1⟩
theorem specMeanDb (A : Option Addr) (n c : Nat) (zs : List Int) (w : World) (ra : Rd w A n zs) (hn : n ≤ maxLen) :
    Calls Tryd.prog 14 #[.slice A n c] w fun e w' => e = .returned (.tuple #[.int .i64 (mnR zs), .int .i64 (codeL zs)]) ∧ w = w' := by
  have C := Lib.hid (specCheck A n c zs w ra hn)
  by_cases h0 : codeL zs = 0
  · have hv := Lvs.mk' ra.len h0
    have hp := hv.pos
    have h64 := hv.le
    have H : Hid (mnR zs = sumF zs - logF n) := Lib.hid (by unfold mnR; rw [if_pos h0, hv.len, logZ_nat hp])
    have S := Lib.hid (specSum A n c zs w ra hv)
    have L := Lib.hid (specLog n w (by omega) (by omega))
    have r1 := sumF_range hv
    have r2 := logF_range (n := n) (by omega) (by omega)
    rw [h0] at C ⊢
    clear h0 ra hv
    go_enter Tryd.func14, Tryd.ntmps14
    go_wp2_with (first | (go_at_call 29; refine C.out.mono ?_; rintro e w' ⟨rfl, rfl⟩) | (go_at_call 30; refine S.out.mono ?_; rintro e w' ⟨rfl, rfl⟩) | (go_at_call 20; refine L.out.mono ?_; rintro e w' ⟨rfl, rfl⟩))
    go_ret2
    exact ⟨ret_val (by rw [H.out]; rfl), rfl⟩
  · have H : Hid (mnR zs = 0) := Lib.hid (by unfold mnR; rw [if_neg h0])
    obtain ⟨k, hk⟩ : ∃ k, codeL zs = k := ⟨_, rfl⟩
    rw [hk] at C h0 ⊢
    have h1 : (k != 0) = true := by simp; exact h0
    clear hk ra h0
    go_enter Tryd.func14, Tryd.ntmps14
    go_wp2_with (go_at_call 29; refine C.out.mono ?_; rintro e w' ⟨rfl, rfl⟩)
    go_ret2
    exact ⟨ret_val (by rw [H.out]; rfl), rfl⟩
theorem implMeanDb (A : Option Addr) (n c : Nat) (zs : List Int) (w : World) (ra : Rd w A n zs) (hn : n ≤ maxLen) (hT : Tab w) :
    Calls Tryd.prog 16 #[.slice A n c] w fun e w' => e = .returned (.tuple #[.int .i64 (mnR zs), .int .i64 (codeL zs)]) ∧ Below w.heap.size w w' := by
  have C := Lib.hid (implCheck A n c zs w ra hn)
  by_cases h0 : codeL zs = 0
  · have hv := Lvs.mk' ra.len h0
    have hp := hv.pos
    have h64 := hv.le
    have H : Hid (mnR zs = sumF zs - logF n) := Lib.hid (by unfold mnR; rw [if_pos h0, hv.len, logZ_nat hp])
    have S := Lib.hid (fun W (hb : Below w.heap.size w W) => implSum A n c zs W (Rd.below hb ra) hv (Tab.below hb hT))
    have L := Lib.hid (fun W (hb : Below w.heap.size w W) => implLog n W (by omega) (by omega) (Tab.below hb hT))
    have r1 := sumF_range hv
    have r2 := logF_range (n := n) (by omega) (by omega)
    rw [h0] at C ⊢
    clear h0 ra hv hT
    go_enter Tryd.func16, Tryd.ntmps16
    go_wp2_with (first | (go_at_call 31; refine C.out.mono ?_; rintro e w1 ⟨rfl, hb1⟩; have z1 := hb1.size) | (go_at_call 32; refine (S.out _ (by repeat (first | with_reducible exact Below.refl _ _ | with_reducible assumption | (with_reducible refine Below.drew ?_) | (with_reducible refine below_drewN ?_ _) | ((with_reducible refine Below.alloc ?_ ?_ _); rotate_left; (focus first | exact Nat.le_refl _ | omega | (simp; done) | (simp; omega))) | ((with_reducible refine Below.setCell ?_ ?_ _); rotate_left; (focus first | exact Nat.le_refl _ | omega | (simp; done) | (simp; omega))) | ((with_reducible refine below_via (W := ?_) ?_ ?_ ?_); rotate_left; (with_reducible assumption); rotate_left; (focus first | exact Nat.le_refl _ | omega | (simp; done) | (simp; omega)))))).mono ?_; rintro e w2 ⟨rfl, hb2⟩; have z2 := hb2.size) | (go_at_call 21; refine (L.out _ (by repeat (first | with_reducible exact Below.refl _ _ | with_reducible assumption | (with_reducible refine Below.drew ?_) | (with_reducible refine below_drewN ?_ _) | ((with_reducible refine Below.alloc ?_ ?_ _); rotate_left; (focus first | exact Nat.le_refl _ | omega | (simp; done) | (simp; omega))) | ((with_reducible refine Below.setCell ?_ ?_ _); rotate_left; (focus first | exact Nat.le_refl _ | omega | (simp; done) | (simp; omega))) | ((with_reducible refine below_via (W := ?_) ?_ ?_ ?_); rotate_left; (with_reducible assumption); rotate_left; (focus first | exact Nat.le_refl _ | omega | (simp; done) | (simp; omega)))))).mono ?_; rintro e w3 ⟨rfl, hb3⟩))
    go_ret2
    exact ⟨ret_val (by rw [H.out]; rfl), (by repeat (first | with_reducible exact Below.refl _ _ | with_reducible assumption | (with_reducible refine Below.drew ?_) | (with_reducible refine below_drewN ?_ _) | ((with_reducible refine Below.alloc ?_ ?_ _); rotate_left; (focus first | exact Nat.le_refl _ | omega | (simp; done) | (simp; omega))) | ((with_reducible refine Below.setCell ?_ ?_ _); rotate_left; (focus first | exact Nat.le_refl _ | omega | (simp; done) | (simp; omega))) | ((with_reducible refine below_via (W := ?_) ?_ ?_ ?_); rotate_left; (with_reducible assumption); rotate_left; (focus first | exact Nat.le_refl _ | omega | (simp; done) | (simp; omega)))))⟩
  · have H : Hid (mnR zs = 0) := Lib.hid (by unfold mnR; rw [if_neg h0])
    obtain ⟨k, hk⟩ : ∃ k, codeL zs = k := ⟨_, rfl⟩
    rw [hk] at C h0 ⊢
    have h1 : (k != 0) = true := by simp; exact h0
    clear hk ra h0 hT
    go_enter Tryd.func16, Tryd.ntmps16
    go_wp2_with (go_at_call 31; refine C.out.mono ?_; rintro e w1 ⟨rfl, hb1⟩)
    go_ret2
    exact ⟨ret_val (by rw [H.out]; rfl), hb1⟩

end Go.Proofs.YthjdmcjlnmonmabDoor.WalkDS
