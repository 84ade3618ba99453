/- Texts of this claim, merged: what the functions that the law reaches compute, and what that says. -/
import Derived.Laws.Tables
import Derived.Laws.Rows
import Derived.Laws.CopyRow
import Derived.Laws.BitsAllLaws
import Derived.StillTailTactics
import Derived.Deep.QuietTactic
import Derived.BigQuiet
import Derived.BigRegion
import Derived.IntWalk
import Derived.Lib.Hide
import Derived.Test.YtggmjfonhcinhaaKB5
import Derived.Test.YtggmjfonhcinhaaKB13
section Sched_
namespace Go.Proofs.Ytggmjfonhcinhaa.Sch
open Go.RowKit Go.Proofs.Ytggmjfonhcinhaa.P Go.Proofs.Ytggmjfonhcinhaa.ShaL Go.Proofs.YtggmjfonhcinhaaW.PrintWords Go.Proofs.YtggmjfonhcinhaaW.PrintLast Go.Proofs.YtggmjfonhcinhaaW.PrintMore
set_option linter.unusedVariables false
/-- words as the cells of an array -/
def cellsW (l : List Nat) : Array Value := (l.map fun (n : Nat) => Value.int .u32 (n : Int)).toArray
theorem cellsW_get (l : List Nat) (j : Nat) (h : j < l.length) : (cellsW l)[j]? = some (.int .u32 (l.getD j 0 : Nat)) := by
  simp [cellsW, List.getD_eq_getElem?_getD, h]
theorem cell_of {w : World} {g T : Nat} {fr : Nat × Nat} {l : List Nat} (hg : w.heap[g]? = some (.cells (cellsW l) T fr)) (j : Nat) (h : j < l.length) :
    w.cell? ⟨g, j, none⟩ = some (.int .u32 (l.getD j 0 : Nat)) := by
  rw [cell_of_row w g j _ T fr hg]; exact cellsW_get l j h
theorem set_of {w : World} {g T : Nat} {l : List Nat} (hg : w.heap[g]? = some (.cells (cellsW l) T (0, 0))) (j n : Nat) :
    (w.setCell ⟨g, j, none⟩ (.int .u32 (n : Nat))).heap[g]? = some (.cells (cellsW (l.set j n)) T (0, 0)) := by
  rw [heap_setCell_same w g j _ T _ hg]
  simp [cellsW, List.map_set]
theorem wLt (s : ByteArray) (i j : Nat) : (wTo (bts s) i).getD j 0 < 4294967296 := by
  rw [List.getD_eq_getElem?_getD]
  cases e : (wTo (bts s) i)[j]? with
  | none => simp
  | some x => simpa using wTo_lt _ (bts_lt s) i x (List.mem_of_getElem? e)
theorem shr_int (x n : Nat) (k : Int) (h : ((2 ^ n : Nat) : Int) = k) : (x : Int) / k = ((x >>> n : Nat) : Int) := by
  rw [← h, Nat.shiftRight_eq_div_pow]; exact (Int.natCast_ediv x (2 ^ n)).symm
theorem sg0_int (x : Nat) (hx : x < 4294967296) : Go.bits .xor .u32 (Go.bits .xor .u32 ((rotr x 7 : Nat) : Int) ((rotr x 18 : Nat) : Int)) ((x : Int) / 8) = ((sg0 x : Nat) : Int) := by
  rw [xor_nat _ _ (rotr_lt _ _ hx) (rotr_lt _ _ hx), shr_int x 3 8 rfl,
    xor_nat _ _ (xor_lt _ _ (rotr_lt _ _ hx) (rotr_lt _ _ hx)) (Nat.lt_of_le_of_lt (Nat.shiftRight_le x 3) hx)]; rfl
theorem sg1_int (x : Nat) (hx : x < 4294967296) : Go.bits .xor .u32 (Go.bits .xor .u32 ((rotr x 17 : Nat) : Int) ((rotr x 19 : Nat) : Int)) ((x : Int) / 1024) = ((sg1 x : Nat) : Int) := by
  rw [xor_nat _ _ (rotr_lt _ _ hx) (rotr_lt _ _ hx), shr_int x 10 1024 rfl,
    xor_nat _ _ (xor_lt _ _ (rotr_lt _ _ hx) (rotr_lt _ _ hx)) (Nat.lt_of_le_of_lt (Nat.shiftRight_le x 10) hx)]; rfl
set_option maxHeartbeats 2000000 in
set_option maxRecDepth 100000 in
theorem schedule (s : ByteArray) (w : World) (hs : 64 ≤ s.size) (hs2 : s.size ≤ 1099511627776) :
    Calls Try.prog 53 #[.string s] w fun e w' => e = .returned (.agg (cellsW (wTo (bts s) 64))) ∧ Below w.heap.size w w' := by
  go_enter Try.func53, Try.ntmps53
  go_wp2_with fail
  go_loopg [8] 64 (fun kq v8 wr => ∃ i : Nat, i + kq = 64 ∧ v8 = .int .i64 (i : Int) ∧ wr.heap[w.heap.size]? = some (.cells (cellsW (wMem (bts s) i)) 72 (0, 0)) ∧ Below w.heap.size w wr)
  case atStart => exact ⟨0, by omega, rfl, by rw [heap_alloc_new]; rfl, (Below.refl _ _).alloc (Nat.le_refl _) _⟩
  case round =>
    obtain ⟨i, hi, rfl, hg, hb⟩ := hrel
    have hlen := wMem_length (bts s) i (by omega)
    have fz : ∀ j, wr.frozen? ⟨w.heap.size, j, none⟩ = false := fun j => frozen_of_row wr _ j _ _ hg
    rcases Nat.lt_or_ge i 16 with h16 | h16
    · have fi := fz i
      have ci := cell_of hg i (by omega)
      clear fz
      go_wp2_with fail
      refine (sum_word.calls _ _ _ (word_eq s i (by omega))).mono ?_
      rintro e w1 ⟨rfl, ⟨nd, rfl⟩⟩
      go_wp2_with fail
      go_roundg (gk - 1)
      case measure => omega
      case rel =>
        refine ⟨i + 1, by omega, by go_num, ?_, (pw_below_drewN hb nd).setCell (p := ⟨w.heap.size, i, none⟩) (Nat.le_refl _) _⟩
        have hn : wNext (bts s) (wTo (bts s) i) i = word (bts s) i := by unfold wNext; rw [if_pos h16]
        rw [← wMem_set _ _ (by omega), hn]
        exact set_of (w := wr.drewN nd) hg i _
    · rcases Nat.lt_or_ge i 64 with h64 | h64
      · have fi := fz i
        have ci := cell_of hg i (by omega)
        have c15 := cell_of hg (i - 15) (by omega)
        have c2 := cell_of hg (i - 2) (by omega)
        have c16 := cell_of hg (i - 16) (by omega)
        have c7 := cell_of hg (i - 7) (by omega)
        have l15 := wLt s i (i - 15)
        have l2 := wLt s i (i - 2)
        have l16 := wLt s i (i - 16)
        have l7 := wLt s i (i - 7)
        rw [wMem_get _ _ _ (by omega)] at c15 c2 c16 c7
        have hw : wNext (bts s) (wTo (bts s) i) i = ((wTo (bts s) i).getD (i - 16) 0 + sg0 ((wTo (bts s) i).getD (i - 15) 0) + (wTo (bts s) i).getD (i - 7) 0 + sg1 ((wTo (bts s) i).getD (i - 2) 0)) % 4294967296 := by
          unfold wNext; rw [if_neg (by omega)]
        generalize (wTo (bts s) i).getD (i - 16) 0 = x16 at c16 l16 hw
        generalize (wTo (bts s) i).getD (i - 15) 0 = x15 at c15 l15 hw
        generalize (wTo (bts s) i).getD (i - 7) 0 = x7 at c7 l7 hw
        generalize (wTo (bts s) i).getD (i - 2) 0 = x2 at c2 l2 hw
        have HW := Lib.hid hw
        clear hw fz
        go_wp2_with fail
        go_quiet (fail)
        go_wp2_with fail
        refine (bits_RotateLeft32.calls _ _ _ _ (rot_eq x15 7 l15 (by decide) (by decide))).mono ?_
        rintro e w1 ⟨rfl, ⟨n1, rfl⟩⟩
        go_wp2_with fail
        refine (bits_RotateLeft32.calls _ _ _ _ (rot_eq x15 18 l15 (by decide) (by decide))).mono ?_
        rintro e w1 ⟨rfl, ⟨n2, rfl⟩⟩
        go_wp2_with fail
        refine (bits_RotateLeft32.calls _ _ _ _ (rot_eq x2 17 l2 (by decide) (by decide))).mono ?_
        rintro e w1 ⟨rfl, ⟨n3, rfl⟩⟩
        go_wp2_with fail
        refine (bits_RotateLeft32.calls _ _ _ _ (rot_eq x2 19 l2 (by decide) (by decide))).mono ?_
        rintro e w1 ⟨rfl, ⟨n4, rfl⟩⟩
        go_wp2_with fail
        have s16 : IntKind.i64.wrap ((i : Int) - 16) = (i : Int) - 16 := IntWalk.i64_in _ (by omega)
        have s7 : IntKind.i64.wrap ((i : Int) - 7) = (i : Int) - 7 := IntWalk.i64_in _ (by omega)
        have t16 : ((i : Int) - 16).toNat = i - 16 := by omega
        have t7 : ((i : Int) - 7).toNat = i - 7 := by omega
        have z16 : 0 ≤ (i : Int) - 16 := by omega
        have z7 : 0 ≤ (i : Int) - 7 := by omega
        go_region
        clear s16 s7 t16 t7 z16 z7
        go_wp2_with fail
        go_roundg (gk - 1)
        case measure => omega
        case rel =>
          refine ⟨i + 1, by omega, by go_num, ?_, (pw_below_drewN hb _).setCell (p := ⟨w.heap.size, i, none⟩) (Nat.le_refl _) _⟩
          rw [sg0_int x15 l15, sg1_int x2 l2, show ((x16 : Int) + (sg0 x15 : Nat) + x7 + (sg1 x2 : Nat)) % 4294967296 = (((x16 + sg0 x15 + x7 + sg1 x2) % 4294967296 : Nat) : Int) by omega, ← HW.out, ← wMem_set _ _ h64]
          exact set_of (w := wr.drewN _) hg i _
      · obtain rfl : i = 64 := by omega
        have hsz : (cellsW (wMem (bts s) 64)).size = 64 := by simp only [cellsW, List.size_toArray, List.length_map]; exact hlen
        have hi57 : (Try.prog.info? 72).map (·.size) = some (cellsW (wMem (bts s) 64)).size := by rw [hsz]; kernel_rfl
        have H := Lib.hid hi57
        have hone : (cellsW (wMem (bts s) 64)).all (·.oneCell') = true := by
          rw [Array.all_eq_true_iff_forall_mem]
          intro v hv
          simp only [cellsW, List.mem_toArray, List.mem_map] at hv
          obtain ⟨n, _, rfl⟩ := hv; rfl
        have HO := Lib.hid hone
        have HG := Lib.hid hg
        have HL := Lib.hid (show cellsW (wMem (bts s) 64) = cellsW (wTo (bts s) 64) by simp [wMem])
        clear hi57 hone hg hsz hlen fz
        generalize cellsW (wMem (bts s) 64) = cs at H HO HG HL
        go_wp2_with (first | (refine wpList_load_row rfl 72 _ rfl w.heap.size rfl 72 cs (0, 0) _ HG.out Try.underlying72 rfl H.out ?_) | (refine wpList_store_row rfl 72 _ _ rfl w.heap.size cs rfl rfl 72 cs HG.out H.out rfl HO.out ?_))
        rw [setRow_self wr w.heap.size cs _ _ HG.out]
        refine bodyPost_ret (v := .agg cs) (results_cell_row rfl _ _ w.heap.size 72 cs (0, 0) _ rfl HG.out Try.underlying72 rfl H.out) rfl ⟨?_, hb⟩
        rw [HL.out]
end Go.Proofs.Ytggmjfonhcinhaa.Sch
end Sched_
