/- Texts of this claim, merged: what the functions that the law reaches compute, and what that says. -/
import Derived.Laws.CopyOwn
import Derived.Test.YtggmjfonhcinhaaKB14
section Const_
namespace Go.Proofs.Ytggmjfonhcinhaa.Sch
open Go.RowKit Go.Proofs.Ytggmjfonhcinhaa.P Go.Proofs.Ytggmjfonhcinhaa.ShaL Go.Proofs.YtggmjfonhcinhaaW.PrintWords Go.Proofs.YtggmjfonhcinhaaW.PrintLast Go.Proofs.YtggmjfonhcinhaaW.PrintMore
set_option linter.unusedVariables false
theorem cellsW_size (l : List Nat) : (cellsW l).size = l.length := by simp only [cellsW, List.size_toArray, List.length_map]
theorem cellsW_one (l : List Nat) : (cellsW l).all (·.oneCell') = true := by
  rw [Array.all_eq_true_iff_forall_mem]
  intro v hv
  simp only [cellsW, List.mem_toArray, List.mem_map] at hv
  obtain ⟨n, _, rfl⟩ := hv; rfl
theorem info64 : (Try.prog.info? 72).map (·.size) = some 64 := by kernel_rfl
theorem info8 : (Try.prog.info? 52).map (·.size) = some 8 := by kernel_rfl
set_option maxHeartbeats 2000000 in
set_option maxRecDepth 100000 in
theorem start (w : World) : Calls Try.prog 36 #[] w fun e w' => e = .returned (.agg (cellsW h0L)) ∧ Below w.heap.size w w' := by
  go_enter Try.func36, Try.ntmps36
  go_wp2
  refine bodyPost_ret (v := .agg (cellsW h0L)) (results_cell_row rfl _ _ w.heap.size 52 (cellsW h0L) (0, 0) _ rfl (heap_alloc_new _ _) Try.underlying52 rfl info8) rfl ⟨rfl, (Below.refl _ _).alloc (Nat.le_refl _) _⟩
set_option maxHeartbeats 2000000 in
set_option maxRecDepth 100000 in
theorem constants (w : World) : Calls Try.prog 54 #[] w fun e w' => e = .returned (.agg (cellsW kL)) ∧ Below w.heap.size w w' := by
  go_enter Try.func54, Try.ntmps54
  go_wp2_with (first | (refine wpList_build rfl 72 _ rfl (by as_aux_lemma => kernel_rfl) ?_) | (refine wpList_store_row rfl 72 _ _ rfl w.heap.size (cellsW kL) rfl (by as_aux_lemma => kernel_rfl) 72 _ (heap_alloc_new _ _) info64 (by as_aux_lemma => kernel_rfl) (cellsW_one kL) ?_))
  refine bodyPost_ret (v := .agg (cellsW kL)) (results_cell_row rfl _ _ w.heap.size 72 (cellsW kL) (0, 0) _ rfl (setRow_heap _ _ _ _ _ _ (heap_alloc_new _ _)) Try.underlying72 rfl info64) rfl ⟨rfl, below_setRow ((Below.refl _ _).alloc (Nat.le_refl _) _) (Nat.le_refl _) _⟩
end Go.Proofs.Ytggmjfonhcinhaa.Sch
end Const_
