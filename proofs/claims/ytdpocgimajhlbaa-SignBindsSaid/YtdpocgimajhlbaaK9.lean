/- Texts of this claim, merged: what the functions that the law reaches compute, and what that says. -/
import Derived.Laws.CopyOwn
import Derived.Test.YtdpocgimajhlbaaK8
section Const_
namespace Go.Proofs.Ytdpocgimajhlbaa.Sch
open Go.RowKit Go.Proofs.Ytdpocgimajhlbaa.P Go.Proofs.Ytdpocgimajhlbaa.ShaL Go.Proofs.YtdpocgimajhlbaaW.PrintWords Go.Proofs.YtdpocgimajhlbaaW.PrintLast Go.Proofs.YtdpocgimajhlbaaW.PrintMore
set_option linter.unusedVariables false
theorem cellsW_size (l : List Nat) : (cellsW l).size = l.length := by simp only [cellsW, List.size_toArray, List.length_map]
theorem cellsW_one (l : List Nat) : (cellsW l).all (·.oneCell') = true := by
  rw [Array.all_eq_true_iff_forall_mem]
  intro v hv
  simp only [cellsW, List.mem_toArray, List.mem_map] at hv
  obtain ⟨n, _, rfl⟩ := hv; rfl
theorem info64 : (Try.prog.info? 81).map (·.size) = some 64 := by kernel_rfl
theorem info8 : (Try.prog.info? 64).map (·.size) = some 8 := by kernel_rfl
set_option maxHeartbeats 2000000 in
set_option maxRecDepth 100000 in
theorem start (w : World) : Calls Try.prog 56 #[] w fun e w' => e = .returned (.agg (cellsW h0L)) ∧ Below w.heap.size w w' := by
  go_enter Try.func56, Try.ntmps56
  go_wp2
  refine bodyPost_ret (v := .agg (cellsW h0L)) (results_cell_row rfl _ _ w.heap.size 64 (cellsW h0L) (0, 0) _ rfl (heap_alloc_new _ _) Try.underlying64 rfl info8) rfl ⟨rfl, (Below.refl _ _).alloc (Nat.le_refl _) _⟩
set_option maxHeartbeats 2000000 in
set_option maxRecDepth 100000 in
theorem constants (w : World) : Calls Try.prog 69 #[] w fun e w' => e = .returned (.agg (cellsW kL)) ∧ Below w.heap.size w w' := by
  go_enter Try.func69, Try.ntmps69
  go_wp2_with (first | (refine wpList_build rfl 81 _ rfl (by as_aux_lemma => kernel_rfl) ?_) | (refine wpList_store_row rfl 81 _ _ rfl w.heap.size (cellsW kL) rfl (by as_aux_lemma => kernel_rfl) 81 _ (heap_alloc_new _ _) info64 (by as_aux_lemma => kernel_rfl) (cellsW_one kL) ?_))
  refine bodyPost_ret (v := .agg (cellsW kL)) (results_cell_row rfl _ _ w.heap.size 81 (cellsW kL) (0, 0) _ rfl (setRow_heap _ _ _ _ _ _ (heap_alloc_new _ _)) Try.underlying81 rfl info64) rfl ⟨rfl, below_setRow ((Below.refl _ _).alloc (Nat.le_refl _) _) (Nat.le_refl _) _⟩
end Go.Proofs.Ytdpocgimajhlbaa.Sch
end Const_
