/- The greatest of some numbers: the library's Max at int64. -/
import Derived.Test.YthjdmcjlnmonmabDoorInts
import Derived.Test.YthjdmcjlnmonmabDoorWalkI
import Derived.Test.YthjdmcjlnmonmabDoorWalkN
import Derived.WalkLawsBesides
namespace Go.Proofs.YthjdmcjlnmonmabDoor.WalkMx
open Go Go.RowKit Go.Proofs.YthjdmcjlnmonmabDoor.Base Go.Proofs.YthjdmcjlnmonmabDoor.Plain Go.Proofs.YthjdmcjlnmonmabDoor.Words Go.Proofs.YthjdmcjlnmonmabDoor.Ints Go.Proofs.YthjdmcjlnmonmabDoor.WalkN Go.Proofs.YthjdmcjlnmonmabDoor.WalkP Go.Proofs.YthjdmcjlnmonmabDoor.WalkI
set_option linter.unusedVariables false
set_option linter.unusedSimpArgs false

/-- where the first greatest one of the first k numbers stands -/
def topN (zs : List Int) : Nat → Nat
  | 0 => 0
  | k + 1 => if zs.getD (topN zs k) 0 < zs.getD k 0 then k else topN zs k
theorem topN_one (zs : List Int) : topN zs 1 = 0 := by
  unfold topN
  split <;> rfl
theorem topN_lt (zs : List Int) : ∀ k, 0 < k → topN zs k < k
  | 0, h => absurd h (by omega)
  | k + 1, _ => by
    unfold topN
    split
    · omega
    · rcases Nat.eq_zero_or_pos k with h | h
      · subst h; show 0 < 1; omega
      · have := topN_lt zs k h; omega
theorem topN_max (zs : List Int) : ∀ k j, j < k → zs.getD j 0 ≤ zs.getD (topN zs k) 0
  | 0, j, h => absurd h (by omega)
  | k + 1, j, h => by
    unfold topN
    split
    · rename_i hl
      by_cases e : j = k
      · rw [e]; omega
      · have := topN_max zs k j (by omega); omega
    · rename_i hl
      by_cases e : j = k
      · rw [e]; omega
      · exact topN_max zs k j (by omega)
theorem topN_first (zs : List Int) : ∀ k j, j < topN zs k → zs.getD j 0 < zs.getD (topN zs k) 0
  | 0, j, h => absurd h (by show ¬ j < 0; omega)
  | k + 1, j, h => by
    unfold topN at h ⊢
    split at h
    · rename_i hl
      rw [if_pos hl]
      have := topN_max zs k j h
      omega
    · rename_i hl
      rw [if_neg hl]
      exact topN_first zs k j h
theorem topN_up {zs : List Int} {k : Nat} (h : zs.getD (topN zs k) 0 < zs.getD k 0) : topN zs (k + 1) = k := by rw [topN, if_pos h]
theorem topN_stay {zs : List Int} {k : Nat} (h : ¬ zs.getD (topN zs k) 0 < zs.getD k 0) : topN zs (k + 1) = topN zs k := by rw [topN, if_neg h]

theorem implMax (A : Option Addr) (n c : Nat) (zs : List Int) (w : World) (ra : Rd w A n zs) (hn : n ≤ maxLen) (h0 : 0 < n) :
    Calls Tryd.prog 38 #[.slice A n c] w fun e w' => e = .returned (.int .i64 (zs.getD (topN zs n) 0)) ∧ w = w' := by
  unfold maxLen at hn
  have RA := Lib.hid ra
  clear ra
  obtain ⟨ad, rfl, hc⟩ := RA.out.at_ h0
  have hc0 : w.cell? ad = some (.int .i64 (zs.getD 0 0)) := hc
  generalize hx : zs.getD 0 0 = x at hc0
  have HX := Lib.hid hx
  clear hc hx
  go_enter Tryd.func38, Tryd.ntmps38
  go_wp2
  clear hc0
  go_loop [3, 4] (fun m i => ∃ k : Nat, ∃ M : Int, 1 ≤ k ∧ k ≤ n ∧ i = .int .i64 k ∧ m = .int .i64 M ∧ Hid (M = zs.getD (topN zs k) 0)) (fun _ i => n - (intOf i).toNat)
  case atStart => exact ⟨1, _, by omega, by omega, rfl, rfl, Lib.hid (by rw [topN_one, HX.out])⟩
  case round =>
    obtain ⟨k, M, h1, hk, rfl, rfl, HM⟩ := hrel
    by_cases hlt : k < n
    · obtain ⟨ad', hA, hd⟩ := RA.out.at_ hlt
      injection hA with hA
      subst hA
      generalize hy : zs.getD k 0 = y at hd
      have HY := Lib.hid hy
      clear hy
      by_cases hm : M < y
      · have HT : Hid (y = zs.getD (topN zs (k + 1)) 0) := Lib.hid (by rw [topN_up (by rw [← HM.out, HY.out]; exact hm), HY.out])
        go_wp2
        go_round
        case rel => exact ⟨k + 1, _, by omega, by omega, by go_num, by first | rfl | (congr 1; omega), HT⟩
        case measure => simp [intOf]; omega
      · have HT : Hid (M = zs.getD (topN zs (k + 1)) 0) := Lib.hid (by rw [topN_stay (by rw [← HM.out, HY.out]; exact hm), HM.out])
        go_wp2
        all_goals
          go_round
          case rel => exact ⟨k + 1, _, by omega, by omega, by go_num, by first | rfl | (congr 1; omega), HT⟩
          case measure => simp [intOf]; omega
    · go_wp2
      go_ret
      obtain rfl : k = n := by omega
      exact ⟨ret_int HM.out, rfl⟩

end Go.Proofs.YthjdmcjlnmonmabDoor.WalkMx
