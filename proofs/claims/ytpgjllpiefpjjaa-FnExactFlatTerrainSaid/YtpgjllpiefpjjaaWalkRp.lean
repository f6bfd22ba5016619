/- slices.Repeat of a slice of one number. -/
import Derived.Test.YtpgjllpiefpjjaaWalkQ
import Derived.Test.YtpgjllpiefpjjaaShelfM
import Derived.Laws.CopyOwn
import Derived.Deep.RegionLaw
namespace Go.Proofs.Ytpgjllpiefpjjaa.WalkRp
open Go Go.RowKit Go.Proofs.Ytpgjllpiefpjjaa.Base Go.Proofs.Ytpgjllpiefpjjaa.Plain Go.Proofs.Ytpgjllpiefpjjaa.Words Go.Proofs.Ytpgjllpiefpjjaa.Ints Go.Proofs.Ytpgjllpiefpjjaa.WalkN Go.Proofs.Ytpgjllpiefpjjaa.WalkP Go.Proofs.Ytpgjllpiefpjjaa.WalkI Go.Proofs.Ytpgjllpiefpjjaa.WalkU Go.Proofs.Ytpgjllpiefpjjaa.PlainT Go.Proofs.Ytpgjllpiefpjjaa.WalkQ
set_option linter.unusedVariables false
set_option linter.unusedSimpArgs false

theorem mul1 (N : Nat) (w : World) (hN : N ≤ 576) : Calls Try.prog 67 #[.int .u64 1, .int .u64 (N : Int)] w fun e w' => e = .returned (.tuple #[.int .u64 0, .int .u64 (N : Int)]) ∧ w = w' := by
  have C := fun W => Try.bits_Mul64 1 N (by omega) (by omega) W
  have e1 : ((1 * N / 18446744073709551616 : Nat) : Int) = 0 := by omega
  have e2 : ((1 * N % 18446744073709551616 : Nat) : Int) = (N : Int) := by omega
  rw [e1, e2] at C
  have CH := Lib.hid C
  clear C e1 e2
  go_enter Try.func67, Try.ntmps67
  go_wp2_with (go_at_call 77; refine (CH.out _).mono ?_; rintro e w' ⟨rfl, rfl⟩)
  go_ret2
  exact ⟨rfl, rfl⟩

/-- k cells h of N, the others z -/
def repC (k N : Nat) (h z : Value) : List Value := List.replicate k h ++ List.replicate (N - k) z
theorem repC_len {k N : Nat} {h z : Value} (hk : k ≤ N) : (repC k N h z).length = N := by simp [repC]; omega
theorem rep_splice {k m N : Nat} {h z : Value} (hk : k + m ≤ N) : splice (repC k N h z) k (List.replicate m h) = repC (k + m) N h z := by
  unfold splice repC
  rw [List.take_append_of_le_length (by simp), List.take_of_length_le (by simp), List.length_replicate, List.drop_append]
  have e1 : List.drop (k + m) (List.replicate k h) = [] := by simp
  have e2 : k + m - (List.replicate k h).length = m := by simp
  rw [e1, e2, List.nil_append, List.drop_replicate, ← List.append_assoc, List.replicate_append_replicate, Nat.sub_sub]
theorem repC_get {k N j : Nat} {h z : Value} (hj : j < k) : (repC k N h z)[j]? = some h := by
  unfold repC
  rw [List.getElem?_append_left (by simpa using hj)]
  simp [hj]
theorem made_rep (N : Nat) (z : Value) (h : Value) : madeCells #[z] N = (repC 0 N h z).toArray := by
  apply Array.toList_inj.1
  rw [toList_madeCells_one]
  simp [repC]
theorem rep_one {N k : Nat} {h : Value} {ad : Addr} {w : World} {g : Nat} {z : Value} {T : TypeId} (hb : Blk w g T (repC k N h z).toArray) {m : Nat} (hm : m ≤ k) : ∀ j v, (List.replicate m h)[j]? = some v → w.cell? ((⟨g, 0, none⟩ : Addr).add j) = some v := by
  intro j v hv
  have hj : j < m := by
    rcases Nat.lt_or_ge j m with q | q
    · exact q
    · rw [List.getElem?_eq_none (by simpa using q)] at hv; cases hv
  have e : v = h := by simp [hj] at hv; exact hv.symm
  subst e
  rw [Addr.add_lit, Nat.zero_add, hb.cell]
  simpa using repC_get (N := N) (z := z) (show j < k by omega)
theorem rep_own {N m : Nat} {h : Value} (h1 : h.oneCell' = true) : ∀ u ∈ List.replicate m h, u.oneCell' = true := fun u hu => by rw [List.eq_of_mem_replicate hu]; exact h1

set_option maxRecDepth 100000 in
set_option maxHeartbeats 8000000 in
theorem repeat1 (ad : Addr) (c N : Nat) (h : Int) (w : World) (hc : w.cell? ad = some (.int .i64 h)) (h0 : 1 ≤ N) (hN : N ≤ 576) :
    Calls Try.prog 50 #[.slice (some ad) 1 c, .int .i64 (N : Int)] w (Copy w N (List.replicate N h)) := by
  have hmk := made N (by omega)
  rw [made_rep N _ (.int .i64 h)] at hmk
  have M1 := Lib.hid (fun W => mul1 N W hN)
  have hu : IntKind.u64.wrap (N : Int) = (N : Int) := IntWalk.u64_in _ (by omega)
  have hi : IntKind.i64.wrap (N : Int) = (N : Int) := IntWalk.i64_in _ (by omega)
  have hc2 := Lib.hid hc
  have hB0 := Lib.hid (show Below w.heap.size w (w.alloc (.cells (repC 0 N (.int .i64 h) (.int .i64 0)).toArray 2)) from (by repeat (first | with_reducible exact Below.refl _ _ | with_reducible assumption | (with_reducible refine Below.drew ?_) | (with_reducible refine below_drewN ?_ _) | ((with_reducible refine Below.alloc ?_ ?_ _); rotate_left; (focus first | exact Nat.le_refl _ | omega | (simp; done) | (simp; omega))) | ((with_reducible refine Below.setCell ?_ ?_ _); rotate_left; (focus first | exact Nat.le_refl _ | omega | (simp; done) | (simp; omega))) | ((with_reducible refine below_via (W := ?_) ?_ ?_ ?_); rotate_left; (with_reducible assumption); rotate_left; (focus first | exact Nat.le_refl _ | omega | (simp; done) | (simp; omega))))))
  clear hc
  obtain ⟨w2, hcp, HG2, hB2⟩ : ∃ w2, (Builtin.copy_ #[38, 38] 3 #[.slice (some ⟨w.heap.size, 0, none⟩) N N, .slice (some ad) 1 c]).run Try.prog (w.alloc (.cells (repC 0 N (.int .i64 h) (.int .i64 0)).toArray 2)) = .ok (.int .i64 1) w2 ∧ Hid (w2.heap[w.heap.size]? = some (.cells (splice (repC 0 N (.int .i64 h) (.int .i64 0)) 0 (List.replicate 1 (.int .i64 h))).toArray 2 (0, 0))) ∧ Below w.heap.size w w2 := by
    have hg := Blk.new w 2 (repC 0 N (.int .i64 h) (.int .i64 0)).toArray rfl
    have hrun := run_copy_row (P := Try.prog) (w.alloc (.cells (repC 0 N (.int .i64 h) (.int .i64 0)).toArray 2)) 38 38 3 2 w.heap.size 0 N N ad 1 c (repC 0 N (.int .i64 h) (.int .i64 0)).toArray 2 [.int .i64 h] Try.underlying38 (by kernel_rfl) hg (Nat.min_eq_left h0).symm (fun j v hv => by
      rcases j with _ | j
      · simp at hv
        subst hv
        exact keep_alloc _ hc2.out
      · simp at hv) (by simp [repC_len]; omega) (by intro v hv; simp at hv; subst hv; rfl)
    refine ⟨_, hrun, ?_, below_setRow hB0.out (Nat.le_refl _) _⟩
    exact Lib.hid ((setRow_heap _ _ _ _ _ _ hg).trans (by simp [splice]))
  go_enter Try.func50, Try.ntmps50
  go_wp2_with (go_at_call 67; refine (M1.out _).mono ?_; rintro e w' ⟨rfl, rfl⟩)
  have e0 : splice (repC 0 N (.int .i64 h) (.int .i64 0)) 0 (List.replicate 1 (.int .i64 h)) = repC 1 N (.int .i64 h) (.int .i64 0) := by rw [rep_splice (by omega)]
  rw [e0] at HG2
  have HK0 : Hid (Blk w2 w.heap.size 2 (repC 1 N (.int .i64 h) (.int .i64 0)).toArray) := HG2
  have HB0 := Lib.hid hB2
  clear hB2 HG2 e0 hmk M1 hu hi hB0 hc2 hcp
  go_loopw [8] (fun i wr => ∃ k : Nat, 1 ≤ k ∧ k ≤ N ∧ i = .int .i64 k ∧ Hid (Below w.heap.size w wr) ∧ Hid (Blk wr w.heap.size 2 (repC k N (.int .i64 h) (.int .i64 0)).toArray)) (fun i _ => N - (intOf i).toNat)
  case atStart => exact ⟨1, Nat.le_refl _, h0, by first | rfl | simp, HB0, HK0⟩
  case round =>
    obtain ⟨k, hk1, hk, rfl, HB, HK⟩ := hrel
    by_cases hlt : k < N
    · obtain ⟨m, hm⟩ : ∃ m, Nat.min k (N - k) = m := ⟨_, rfl⟩
      have hm2 : 1 ≤ m ∧ m ≤ k ∧ k + m ≤ N := by
        rw [← hm]
        rcases Nat.le_total k (N - k) with q | q
        · rw [show Nat.min k (N - k) = k from Nat.min_eq_left q]; omega
        · rw [show Nat.min k (N - k) = N - k from Nat.min_eq_right q]; omega
      have hs : (sizeOf (Try.prog.elem 38)).run Try.prog wr = .ok 1 wr := by kernel_rfl
      have C1 : ∀ W, (Instr.slice 38 (.slice (some ⟨w.heap.size, 0, none⟩) N N) (some (.int .i64 (k : Int))) none none).run Try.prog W = .ok (.slice (some ⟨w.heap.size, k, none⟩) (N - k) (N - k)) W := fun W => by
        have hs : (sizeOf (Try.prog.elem 38)).run Try.prog W = .ok 1 W := by kernel_rfl
        rw [run_slice_l W 38 (some ⟨w.heap.size, 0, none⟩) N N (by kernel_rfl) .i64 (k : Int) (by omega) (by omega), hs]
        simp [sliced, Addr.add_lit]
        omega
      have C2 : ∀ W, (Instr.slice 38 (.slice (some ⟨w.heap.size, 0, none⟩) N N) none (some (.int .i64 (k : Int))) none).run Try.prog W = .ok (.slice (some ⟨w.heap.size, 0, none⟩) k N) W := fun W => by
        have hs : (sizeOf (Try.prog.elem 38)).run Try.prog W = .ok 1 W := by kernel_rfl
        rw [run_slice_h W 38 (some ⟨w.heap.size, 0, none⟩) N N (by kernel_rfl) .i64 (k : Int) (by omega) (by omega), hs]
        simp [sliced, Addr.add_lit]
      have HM := Lib.hid (And.intro hm hm2)
      have ew : IntKind.i64.wrap ((k : Int) + (m : Int)) = (k : Int) + (m : Int) := IntWalk.i64_in _ (by omega)
      clear hm hs
      go_wp2_with fail
      go_region_law (refine step_copy_splice rfl (.tmp 41) (.tmp 44) 38 38 rfl 2 Try.underlying38 (by kernel_rfl) (some ⟨w.heap.size, k, none⟩) (some ⟨w.heap.size, 0, none⟩) (N - k) (N - k) k N ?_ ?_ w.heap.size k (repC k N (.int .i64 h) (.int .i64 0)) 2 ?_ (List.replicate m (.int .i64 h)) ?_ ?_ ?_ (rep_own (N := N) (h := Value.int .i64 h) rfl) w.heap.size w ?_ (Nat.le_refl _) ?_; (focus simp [Act.eval, Act.put]); (focus simp [Act.eval, Act.put]); (focus exact HK.out); (focus (rw [List.length_replicate]; exact HM.out.1.symm)); (focus (intro _; exact ⟨rfl, _, rfl, rep_one (ad := ad) HK.out HM.out.2.2.1⟩)); (focus (rw [repC_len hk, List.length_replicate]; exact HM.out.2.2.2)); (focus exact HB.out.drew); intro w3 HG3 hB3; rw [rep_splice HM.out.2.2.2] at HG3; have HB3 := Lib.hid hB3; clear hB3)
      all_goals (go_wp2_with fail; go_roundw)
      all_goals have hm2 := HM.out.2
      all_goals have ew2 : IntKind.i64.wrap ((k : Int) + (m : Int)) = (k : Int) + (m : Int) := IntWalk.i64_in _ (by omega)
      all_goals first
        | (simp [intOf, Act.put, ew2]; refine ⟨k + m, ?_, ?_, ?_, HB3, HG3⟩ <;> omega)
        | (simp [intOf, Act.put, ew2]; done)
        | (simp [intOf, Act.put, ew2]; omega)
    · obtain rfl : k = N := by omega
      go_wp2_with fail
      go_ret
      refine ⟨some ⟨w.heap.size, 0, none⟩, k, rfl, Ow.of_cells (Nat.le_refl _) HK.out (by simp [repC_len]) (fun j hj => ?_) (by simp) (by unfold maxLen; omega), HB.out⟩
      simp only [List.getElem?_toArray]
      rw [repC_get hj]
      simp [List.getD, hj]

end Go.Proofs.Ytpgjllpiefpjjaa.WalkRp
