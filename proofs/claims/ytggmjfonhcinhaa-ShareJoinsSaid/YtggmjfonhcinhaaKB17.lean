/- Texts of this claim, merged: what the functions that the law reaches compute, and what that says. -/
import Derived.Outline
import Derived.Test.YtggmjfonhcinhaaKB16
section Step_
namespace Go.Proofs.Ytggmjfonhcinhaa.Sch
open Go.RowKit Go.Proofs.Ytggmjfonhcinhaa.P Go.Proofs.Ytggmjfonhcinhaa.ShaL Go.Proofs.YtggmjfonhcinhaaW.PrintWords Go.Proofs.YtggmjfonhcinhaaW.PrintLast Go.Proofs.YtggmjfonhcinhaaW.PrintMore
set_option linter.unusedVariables false
theorem not_nat (x : Nat) (hx : x < 4294967296) : Go.bits .xor .u32 IntKind.u32.max (x : Int) = ((4294967295 ^^^ x : Nat) : Int) := xor_nat 4294967295 x (by decide) hx
theorem and_lt (x y : Nat) (hx : x < 4294967296) : x &&& y < 4294967296 := Nat.lt_of_le_of_lt Nat.and_le_left hx
theorem tOne_int (e f g h k w : Nat) (he : e < 4294967296) (hf : f < 4294967296) (hg : g < 4294967296) :
    ((h : Int) + (bs1 e : Nat) + Go.bits .xor .u32 (Go.bits .and .u32 (e : Int) f) (Go.bits .and .u32 (Go.bits .xor .u32 IntKind.u32.max (e : Int)) g) + k + w) % 4294967296 = ((tOne e f g h k w : Nat) : Int) := by
  have hn : 4294967295 ^^^ e < 4294967296 := xor_lt _ _ (by decide) he
  rw [not_nat e he, and_nat _ _ he hf, and_nat _ _ hn hg, xor_nat _ _ (and_lt _ _ he) (and_lt _ _ hn)]
  unfold tOne; omega
theorem tTwo_int (a b c : Nat) (ha : a < 4294967296) (hb : b < 4294967296) (hc : c < 4294967296) :
    (((bs0 a : Nat) : Int) + Go.bits .xor .u32 (Go.bits .xor .u32 (Go.bits .and .u32 (a : Int) b) (Go.bits .and .u32 (a : Int) c)) (Go.bits .and .u32 (b : Int) c)) % 4294967296 = ((tTwo a b c : Nat) : Int) := by
  rw [and_nat _ _ ha hb, and_nat _ _ ha hc, and_nat _ _ hb hc, xor_nat _ _ (and_lt _ _ ha) (and_lt _ _ ha), xor_nat _ _ (xor_lt _ _ (and_lt _ _ ha) (and_lt _ _ ha)) (and_lt _ _ hb)]
  unfold tTwo; omega
theorem copy_src {w : World} {g T : Nat} {fr : Nat × Nat} {x0 x1 x2 x3 x4 x5 x6 x7 : Nat} (h : w.heap[g]? = some (.cells (cellsW [x0, x1, x2, x3, x4, x5, x6, x7]) T fr)) :
    ∀ j v, (cellsW [x0, x1, x2, x3, x4, x5, x6]).toList[j]? = some v → w.cell? ((⟨g, 0, none⟩ : Addr).add j) = some v := by
  intro j v hj
  have hj7 : j < 7 := (List.getElem?_eq_some_iff.1 hj).1
  rw [show (⟨g, 0, none⟩ : Addr).add j = ⟨g, j, none⟩ by simp [Addr.add]; omega, cell_of_row w g j _ T fr h, ← hj]
  rcases j with _ | _ | _ | _ | _ | _ | _ | j
  all_goals first | rfl | omega
theorem copy_one (l : List Nat) : ∀ v ∈ (cellsW l).toList, v.oneCell' = true := by
  intro v hv
  simp only [cellsW, List.mem_map] at hv
  obtain ⟨n, _, rfl⟩ := hv; rfl
/-- the state while h is added -/
def midL (r h : List Nat) (j : Nat) : List Nat := (List.zipWith (fun x y => (x + y) % 4294967296) r h).take j ++ r.drop j
theorem midL_set {r h : List Nat} (hr : r.length = 8) (hh : h.length = 8) (j : Nat) (hj : j < 8) : (midL r h j).set j ((r.getD j 0 + h.getD j 0) % 4294967296) = midL r h (j + 1) := by
  match r, h, hr, hh with
  | [_, _, _, _, _, _, _, _], [_, _, _, _, _, _, _, _], _, _ =>
    rcases j with _ | _ | _ | _ | _ | _ | _ | _ | j
    all_goals first | rfl | omega
theorem midL_get {r h : List Nat} (hr : r.length = 8) (hh : h.length = 8) (j : Nat) (hj : j < 8) : (midL r h j).getD j 0 = r.getD j 0 := by
  match r, h, hr, hh with
  | [_, _, _, _, _, _, _, _], [_, _, _, _, _, _, _, _], _, _ =>
    rcases j with _ | _ | _ | _ | _ | _ | _ | _ | j
    all_goals first | rfl | omega
theorem midL_length {r h : List Nat} (hr : r.length = 8) (hh : h.length = 8) (j : Nat) (hj : j ≤ 8) : (midL r h j).length = 8 := by
  simp [midL, hr, hh]; omega
theorem midL_end {r h : List Nat} (hr : r.length = 8) (hh : h.length = 8) : midL r h 8 = List.zipWith (fun x y => (x + y) % 4294967296) r h := by
  rw [midL, List.take_of_length_le (by simp [hr, hh]), List.drop_eq_nil_of_le (by omega), List.append_nil]
theorem getLt {l : List Nat} (h : ∀ n ∈ l, n < 4294967296) (j : Nat) : l.getD j 0 < 4294967296 := by
  rw [List.getD_eq_getElem?_getD]
  cases e : l[j]? with
  | none => simp
  | some x => simpa using h x (List.mem_of_getElem? e)
noncomputable def T1 : Bool × List (List Nat × List Nat) := rtab .any (opsOf Try.f38 1)
def B1 : List Nat := [0, 1, 3, 0, 0, 0, 0, 119, 247, 511]
theorem tab1 : rtab .any (opsOf Try.f38 1) = T1 := rfl
theorem bits1 : waitsOk T1.2 B1 = true := by kernel_rfl
set_option maxHeartbeats 4000000 in
set_option maxRecDepth 100000 in
theorem step (h : List Nat) (s : ByteArray) (w : World) (hh : h.length = 8) (hlt : ∀ n ∈ h, n < 4294967296) (hs : 64 ≤ s.size) (hs2 : s.size ≤ 1099511627776) :
    Calls Try.prog 38 #[.agg (cellsW h), .string s] w fun e w' => e = .returned (.agg (cellsW (stepL h (bts s)))) ∧ Below w.heap.size w w' := by
  have hsz : (cellsW h).size = 8 := by rw [cellsW_size, hh]
  have HS := Lib.hid hsz
  have H8 := Lib.hid (show (Try.prog.info? 52).map (·.size) = some (cellsW h).size by rw [hsz]; exact info8)
  have HONE := Lib.hid (cellsW_one h)
  obtain ⟨Hc, hHc⟩ : ∃ Hc, cellsW h = Hc := ⟨_, rfl⟩
  rw [hHc] at HS H8 HONE ⊢
  have HHC := Lib.hid hHc
  clear hHc hsz
  go_enter Try.func38, Try.ntmps38
  go_wp2_with fail
  obtain ⟨W1, hW1⟩ : ∃ W1, ((w.alloc (.cells Hc 52)).alloc (.cells #[Value.int .u32 0, Value.int .u32 0, Value.int .u32 0, Value.int .u32 0, Value.int .u32 0, Value.int .u32 0, Value.int .u32 0, Value.int .u32 0] 52)) = W1 := ⟨_, rfl⟩
  have b0W : W1.heap[w.heap.size]? = some (.cells Hc 52 (0, 0)) := by rw [← hW1]; exact keep_alloc _ _ _ _ (heap_alloc_new _ _)
  have b4W : W1.heap[w.heap.size + 1]? = some (.cells (cellsW [0, 0, 0, 0, 0, 0, 0, 0]) 52 (0, 0)) := by
    have := heap_alloc_new (w.alloc (.cells Hc 52)) (.cells #[Value.int .u32 0, Value.int .u32 0, Value.int .u32 0, Value.int .u32 0, Value.int .u32 0, Value.int .u32 0, Value.int .u32 0, Value.int .u32 0] 52)
    rw [World.size_alloc, hW1] at this; exact this
  have hBW : Below w.heap.size w W1 := by rw [← hW1]; exact ((Below.refl _ _).alloc (Nat.le_refl _) _).alloc (by rw [World.size_alloc]; omega) _
  rw [hW1]
  clear hW1
  have B0 := Lib.hid b0W
  have B4 := Lib.hid b4W
  have BW := Lib.hid hBW
  clear b0W b4W hBW
  refine start_ (n := 10) (S := fun w' => True) (ds := []) #[false, false, false, false, false, false, false, false, false, false] (by kernel_rfl) rfl rfl trivial (fun hHeld => ?_)
  refine with_tabW tab1 bits1 (fun HT_ HW_ => ?_)
  clear hHeld
  refine pure_ (i := 0) (N := some 14) (v := ?_) (a' := ?_) #[true, false, false, false, false, false, false, false, false, false] rfl rfl (any_of HT_.out (by kernel_rfl)) (fun _ _ _ h => h) (Or.inl ⟨by rfl, ?_⟩) ?_ ?_
  rotate_left
  · intro w'
    go_simp
    with_reducible rfl
  rotate_left
  · simp only [Act.put, List.setIfInBounds_toArray, List.set_cons_zero, List.set_cons_succ]
    rfl
  refine inv_at [1, 2, 3, 4, 5, 6, 7, 8, 9] (Inv W1 W1.heap.size w.heap.size Hc (cellsW (wTo (bts s) 64)) (cellsW kL) (cellsW (List.replicate 64 0)) (cellsW [0, 0, 0, 0, 0, 0, 0, 0])) HT_.out HW_.out (by kernel_rfl) (by kernel_rfl) ?_ ?_ ?_
  · refine ⟨0, 0, 0, by simp only [putSel, Bool.false_eq_true, if_false], ⟨rfl, rfl, rfl, Nat.le_refl _, fun _ _ => rfl⟩, ?_, some_lt B0.out, B0.out, ?_, ?_, ?_, ?_, ?_, ?_⟩
    · exact Nat.le_refl _
    all_goals exact fun h_ => absurd h_ (by decide)

  refine steps_cons ?_ ?_
  · rintro b a w' ⟨g5, g6, g7, ha, hF⟩ hb_ hon hoff
    refine ⟨_, rfl, fun K hK => ?_⟩
    have e14 : a.tmps[14]? = some (Value.string s) := by rw [ha]; exact (putSel_off rfl).trans rfl
    replace ha := Aside0.mk ha
    refine goes_ Try.func53 (by kernel_rfl) rfl #[.string s] (by rfl) rfl rfl (by simp only [List.map_toArray, List.map_cons, List.map_nil, Act.eval, Array.getD_eq_getD_getElem?, Option.getD_some, e14]) ?_
    refine (schedule s w' hs hs2).mono ?_
    rintro e w2 ⟨rfl, hb2⟩
    exact ⟨_, rfl, hK.out _ _ ⟨g5, g6, g7, by rw [ha.out]; exact putSel_upk 0 hb_ rfl rfl rfl, hF.quiet (by decide) (keep_below hb2) (hF.1.trans (hb2.mono hF.2.1)) hb2.size⟩⟩
  refine steps_cons ?_ ?_
  · rintro b a w' ⟨g5, g6, g7, ha, hF⟩ hb_ hon hoff
    refine ⟨_, rfl, fun K hK => ?_⟩
    replace ha := Aside0.mk ha
    refine goes_ Try.func54 (by kernel_rfl) rfl #[] (by rfl) rfl rfl (by simp only [List.map_toArray, List.map_nil]) ?_
    refine (constants w').mono ?_
    rintro e w2 ⟨rfl, hb2⟩
    exact ⟨_, rfl, hK.out _ _ ⟨g5, g6, g7, by rw [ha.out]; exact putSel_upk 1 hb_ rfl rfl rfl, hF.quiet (by decide) (keep_below hb2) (hF.1.trans (hb2.mono hF.2.1)) hb2.size⟩⟩
  refine steps_cons ?_ ?_
  · rintro b a w' ⟨g5, g6, g7, ha, hF⟩ hb_ hon hoff
    refine ⟨_, rfl, fun K hK => ?_⟩
    have e2 : a.tmps[2]? = some (ptr w.heap.size) := by rw [ha]; exact (putSel_off rfl).trans rfl
    replace ha := Aside0.mk ha
    rw [if_pos (by rfl)]
    refine wp_load_row 52 (.tmp 2) rfl w.heap.size (by simp only [Act.eval, Array.getD_eq_getD_getElem?, Option.getD_some, e2]; rfl) 52 Hc (0, 0) _ hF.2.2.2.1 Try.underlying52 rfl H8.out ?_
    exact hK.out _ _ ⟨g5, g6, g7, by rw [ha.out]; exact putSel_upk 2 hb_ rfl rfl rfl, hF.quiet (by decide) (fun _ _ h => h) hF.1 (Nat.le_refl _)⟩
  refine steps_cons ?_ ?_
  · rintro b a w' ⟨g5, g6, g7, ha, hF⟩ hb_ hon hoff
    refine ⟨_, rfl, fun K hK => ?_⟩
    replace ha := Aside0.mk ha
    refine value_ (w1 := w'.alloc (.cells (cellsW (List.replicate 64 0)) 72)) (v := ptr w'.heap.size) (by rfl) rfl ?_ ?_
    · go_simp
      exact ⟨rfl, rfl⟩
    exact hK.out _ _ ⟨w'.heap.size, g6, g7, by rw [ha.out]; exact putSel_upk 3 hb_ rfl rfl rfl, hF.alloc4 (hoff 7 (by kernel_rfl))⟩
  refine steps_cons ?_ ?_
  · rintro b a w' ⟨g5, g6, g7, ha, hF⟩ hb_ hon hoff
    refine ⟨_, rfl, fun K hK => ?_⟩
    replace ha := Aside0.mk ha
    refine value_ (w1 := w'.alloc (.cells (cellsW (List.replicate 64 0)) 72)) (v := ptr w'.heap.size) (by rfl) rfl ?_ ?_
    · go_simp
      exact ⟨rfl, rfl⟩
    exact hK.out _ _ ⟨g5, w'.heap.size, g7, by rw [ha.out]; exact putSel_upk 4 hb_ rfl rfl rfl, hF.alloc5 (hoff 8 (by kernel_rfl))⟩
  refine steps_cons ?_ ?_
  · rintro b a w' ⟨g5, g6, g7, ha, hF⟩ hb_ hon hoff
    refine ⟨_, rfl, fun K hK => ?_⟩
    replace ha := Aside0.mk ha
    refine value_ (w1 := w'.alloc (.cells (cellsW [0, 0, 0, 0, 0, 0, 0, 0]) 52)) (v := ptr w'.heap.size) (by rfl) rfl ?_ ?_
    · go_simp
      exact ⟨rfl, rfl⟩
    exact hK.out _ _ ⟨g5, g6, w'.heap.size, by rw [ha.out]; exact putSel_upk 5 hb_ rfl rfl rfl, hF.alloc6 (hoff 9 (by kernel_rfl))⟩
  refine steps_cons ?_ ?_
  · rintro b a w' ⟨g5, g6, g7, ha, hF⟩ hb_ hon hoff
    refine ⟨_, rfl, fun K hK => ?_⟩
    have e5 : a.tmps[5]? = some (ptr g5) := by rw [ha]; exact putSel_on (e := (4, 5, ptr g5)) 3 rfl rfl (hon 4 (by kernel_rfl)) rfl
    have e15 : a.tmps[15]? = some (Value.agg (cellsW (wTo (bts s) 64))) := by rw [ha]; exact putSel_on (e := (1, 15, Value.agg (cellsW (wTo (bts s) 64)))) 0 rfl rfl (hon 1 (by kernel_rfl)) rfl
    replace ha := Aside0.mk ha
    have n4 := hon 4 (by kernel_rfl)
    have n5 := hon 5 (by kernel_rfl)
    have n6 := hon 6 (by kernel_rfl)
    have blk := (hF.2.2.2.2.1 n4).2.2
    rw [hb_, if_neg (by decide)] at blk
    rw [if_pos (by rfl)]
    refine wp_store_row 72 (.tmp 5) (.tmp 15) rfl g5 (cellsW (wTo (bts s) 64)) (by simp only [Act.eval, Array.getD_eq_getD_getElem?, Option.getD_some, e5]; rfl) (by simp only [Act.eval, Array.getD_eq_getD_getElem?, Option.getD_some, e15]) 72 _ blk (by rw [cellsW_size, wTo_length]; exact info64) (by rw [cellsW_size, cellsW_size, wTo_length]; rfl) (cellsW_one _) ?_
    exact hK.out _ _ ⟨g5, g6, g7, by rw [ha.out]; exact putSel_none (v := undef) rfl, hF.put7 n4 n5 n6⟩
  refine steps_cons ?_ ?_
  · rintro b a w' ⟨g5, g6, g7, ha, hF⟩ hb_ hon hoff
    refine ⟨_, rfl, fun K hK => ?_⟩
    have e6 : a.tmps[6]? = some (ptr g6) := by rw [ha]; exact putSel_on (e := (5, 6, ptr g6)) 4 rfl rfl (hon 5 (by kernel_rfl)) rfl
    have e16 : a.tmps[16]? = some (Value.agg (cellsW kL)) := by rw [ha]; exact putSel_on (e := (2, 16, Value.agg (cellsW kL))) 1 rfl rfl (hon 2 (by kernel_rfl)) rfl
    replace ha := Aside0.mk ha
    have n4 := hon 4 (by kernel_rfl)
    have n5 := hon 5 (by kernel_rfl)
    have n6 := hon 6 (by kernel_rfl)
    have blk := (hF.2.2.2.2.2.1 n5).2.2
    rw [hb_, if_neg (by decide)] at blk
    rw [if_pos (by rfl)]
    refine wp_store_row 72 (.tmp 6) (.tmp 16) rfl g6 (cellsW kL) (by simp only [Act.eval, Array.getD_eq_getD_getElem?, Option.getD_some, e6]; rfl) (by simp only [Act.eval, Array.getD_eq_getD_getElem?, Option.getD_some, e16]) 72 _ blk (by rw [cellsW_size]; exact info64) (by rw [cellsW_size, cellsW_size]; rfl) (cellsW_one _) ?_
    exact hK.out _ _ ⟨g5, g6, g7, by rw [ha.out]; exact putSel_none (v := undef) rfl, hF.put8 n4 n5 n6⟩
  refine steps_cons ?_ ?_
  · rintro b a w' ⟨g5, g6, g7, ha, hF⟩ hb_ hon hoff
    refine ⟨_, rfl, fun K hK => ?_⟩
    have e7 : a.tmps[7]? = some (ptr g7) := by rw [ha]; exact putSel_on (e := (6, 7, ptr g7)) 5 rfl rfl (hon 6 (by kernel_rfl)) rfl
    have e17 : a.tmps[17]? = some (Value.agg Hc) := by rw [ha]; exact putSel_on (e := (3, 17, Value.agg Hc)) 2 rfl rfl (hon 3 (by kernel_rfl)) rfl
    replace ha := Aside0.mk ha
    have n4 := hon 4 (by kernel_rfl)
    have n5 := hon 5 (by kernel_rfl)
    have n6 := hon 6 (by kernel_rfl)
    have blk := (hF.2.2.2.2.2.2.1 n6).2.2
    rw [hb_, if_neg (by decide)] at blk
    rw [if_pos (by rfl)]
    refine wp_store_row 52 (.tmp 7) (.tmp 17) rfl g7 (Hc) (by simp only [Act.eval, Array.getD_eq_getD_getElem?, Option.getD_some, e7]; rfl) (by simp only [Act.eval, Array.getD_eq_getD_getElem?, Option.getD_some, e17]) 52 _ blk H8.out (by rw [HS.out]; rfl) HONE.out ?_
    exact hK.out _ _ ⟨g5, g6, g7, by rw [ha.out]; exact putSel_none (v := undef) rfl, hF.put9 n4 n5 n6⟩
  exact steps_nil
  · rintro b a w' hall ⟨g5, g6, g7, ha, hbl, hbs, hb0, hh0, f5, f6, f7, d56, d57, d67⟩
    have hb1_ := hall 1 (by kernel_rfl)
    have hb2_ := hall 2 (by kernel_rfl)
    have hb3_ := hall 3 (by kernel_rfl)
    have hb4_ := hall 4 (by kernel_rfl)
    have hb5_ := hall 5 (by kernel_rfl)
    have hb6_ := hall 6 (by kernel_rfl)
    have hb7_ := hall 7 (by kernel_rfl)
    have hb8_ := hall 8 (by kernel_rfl)
    have hb9_ := hall 9 (by kernel_rfl)
    subst ha
    simp only [putSel, hb1_, hb2_, hb3_, hb4_, hb5_, hb6_, if_true, Act.put, List.setIfInBounds_toArray, List.set_cons_zero, List.set_cons_succ]
    have F5 := Lib.hid (f5 hb4_)
    have F6 := Lib.hid (f6 hb5_)
    have F7 := Lib.hid (f7 hb6_)
    rw [hb7_, if_pos rfl] at F5
    rw [hb8_, if_pos rfl] at F6
    rw [hb9_, if_pos rfl] at F7
    have D56 := Lib.hid (d56 hb4_ hb5_)
    have D57 := Lib.hid (d57 hb4_ hb6_)
    have D67 := Lib.hid (d67 hb5_ hb6_)
    clear hall hb1_ hb2_ hb3_ hb4_ hb5_ hb6_ hb7_ hb8_ hb9_ HT_ HW_ f5 f6 f7 d56 d57 d67
    have HB0 := Lib.hid hh0
    have BW2 := Lib.hid (BW.out.trans (hbl.mono (Nat.le_of_lt (some_lt B0.out))))
    have hbase : w.heap.size + 2 ≤ W1.heap.size := some_lt B4.out
    have G5 := F5.out.1
    have G6 := F6.out.1
    have G7 := F7.out.1
    have B4' := Lib.hid ((hbl.block _ (some_lt B4.out)).trans B4.out)
    clear hbl hh0 B0 B4 BW b
    unfold ptr

    go_wp2_with fail
    go_loopg [18] 64 (fun kq v18 wr => ∃ i : Nat, i + kq = 64 ∧ v18 = .int .i64 (i : Int) ∧ wr.heap[g7]? = some (.cells (cellsW (rTo h (bts s) i)) 52 (0, 0)) ∧ wr.heap[g6]? = some (.cells (cellsW kL) 72 (0, 0)) ∧
      wr.heap[g5]? = some (.cells (cellsW (wTo (bts s) 64)) 72 (0, 0)) ∧ wr.heap[w.heap.size]? = some (.cells Hc 52 (0, 0)) ∧ wr.heap[w.heap.size + 1]? = some (.cells (cellsW [0, 0, 0, 0, 0, 0, 0, 0]) 52 (0, 0)) ∧ Below w.heap.size w wr)
    case atStart => exact ⟨0, by omega, rfl, by rw [F7.out.2.2, ← HHC.out]; rfl, F6.out.2.2, F5.out.2.2, HB0.out, B4'.out, BW2.out⟩
    case round =>
      obtain ⟨i, hi, rfl, hv, hk6, hw5, hb0', hb4', hb⟩ := hrel
      have HB := Lib.hid hb
      have HV := Lib.hid hv
      have HK := Lib.hid hk6
      have HW := Lib.hid hw5
      have HH := Lib.hid hb0'
      have H4 := Lib.hid hb4'
      clear hv hk6 hw5 hb0' hb4' hb
      rcases Nat.lt_or_ge i 64 with h64 | h64
      · obtain ⟨x0, x1, x2, x3, x4, x5, x6, x7, hx⟩ : ∃ x0 x1 x2 x3 x4 x5 x6 x7, rTo h (bts s) i = [x0, x1, x2, x3, x4, x5, x6, x7] := by
          have hl := rTo_length (bts s) hh i
          match rTo h (bts s) i, hl with
          | [x0, x1, x2, x3, x4, x5, x6, x7], _ => exact ⟨x0, x1, x2, x3, x4, x5, x6, x7, rfl⟩
        have hlt8 := rTo_lt (bts s) hlt i
        rw [hx] at hlt8
        simp only [List.mem_cons, List.not_mem_nil, or_false, forall_eq_or_imp, forall_eq] at hlt8
        obtain ⟨q0, q1, q2, q3, q4, q5, q6, q7⟩ := hlt8
        have HV' := HV.out
        rw [hx] at HV'
        have HX := Lib.hid hx
        clear hx HV
        have HV := Lib.hid HV'
        clear HV'
        have c0 := cell_of HV.out 0 (Nat.le_of_ble_eq_true rfl)
        have c1 := cell_of HV.out 1 (Nat.le_of_ble_eq_true rfl)
        have c2 := cell_of HV.out 2 (Nat.le_of_ble_eq_true rfl)
        have c3 := cell_of HV.out 3 (Nat.le_of_ble_eq_true rfl)
        have c4 := cell_of HV.out 4 (Nat.le_of_ble_eq_true rfl)
        have c5 := cell_of HV.out 5 (Nat.le_of_ble_eq_true rfl)
        have c6 := cell_of HV.out 6 (Nat.le_of_ble_eq_true rfl)
        have c7 := cell_of HV.out 7 (Nat.le_of_ble_eq_true rfl)
        have ck := cell_of HK.out i (by rw [kL_length]; omega)
        have cw := cell_of HW.out i (by rw [wTo_length]; omega)
        have lw := wLt s 64 i
        have lk : kL.getD i 0 < 4294967296 := by
          rw [List.getD_eq_getElem?_getD]
          cases e : kL[i]? with
          | none => simp
          | some x => simpa using kL_lt x (List.mem_of_getElem? e)
        simp only [List.getD_cons_zero, List.getD_cons_succ] at c0 c1 c2 c3 c4 c5 c6 c7
        have HR := Lib.hid (show rTo h (bts s) (i + 1) = round [x0, x1, x2, x3, x4, x5, x6, x7] (kL.getD i 0) ((wTo (bts s) 64).getD i 0) by rw [rTo, HX.out])
        generalize kL.getD i 0 = xk at ck lk HR
        generalize (wTo (bts s) 64).getD i 0 = xw at cw lw HR
        have r1 : sum_rotations.f x4 6 11 25 = some ((bs1 x4 : Nat) : Int) := rots_eq x4 6 11 25 q4 (by decide) (by decide) (by decide)
        have r2 : sum_rotations.f x0 2 13 22 = some ((bs0 x0 : Nat) : Int) := rots_eq x0 2 13 22 q0 (by decide) (by decide) (by decide)
        go_wp2_with fail
        go_quiet (fail)
        go_wp2_with fail
        go_quiet (first | (go_at_call 55; (with_reducible refine (sum_rotations.calls _ _ _ _ _ _ r1).mono ?_); rintro e w' ⟨rfl, ⟨nd, rfl⟩⟩; (first | exact ⟨rfl, _, World.drewN_drewN _ _ _⟩ | exact ⟨rfl, _, Eq.trans (World.drewN_drewN _ _ _) (congrArg (World.drewN _) (Nat.add_assoc _ _ _))⟩)))
        go_wp2_with fail
        go_quiet (first | (go_at_call 55; (with_reducible refine (sum_rotations.calls _ _ _ _ _ _ r2).mono ?_); rintro e w' ⟨rfl, ⟨nd, rfl⟩⟩; (first | exact ⟨rfl, _, World.drewN_drewN _ _ _⟩ | exact ⟨rfl, _, Eq.trans (World.drewN_drewN _ _ _) (congrArg (World.drewN _) (Nat.add_assoc _ _ _))⟩)))
        go_wp2_with fail
        have t1 : ((x7 : Int) + (bs1 x4 : Nat) + Go.bits .xor .u32 (Go.bits .and .u32 (x4 : Int) x5) (Go.bits .and .u32 (Go.bits .xor .u32 IntKind.u32.max (x4 : Int)) x6) + xk + xw) % 4294967296 = ((tOne x4 x5 x6 x7 xk xw : Nat) : Int) := tOne_int x4 x5 x6 x7 xk xw q4 q5 q6
        have t2 : ((bs0 x0 : Nat) + Go.bits .xor .u32 (Go.bits .xor .u32 (Go.bits .and .u32 (x0 : Int) x1) (Go.bits .and .u32 (x0 : Int) x2)) (Go.bits .and .u32 (x1 : Int) x2)) % 4294967296 = ((tTwo x0 x1 x2 : Nat) : Int) := tTwo_int x0 x1 x2 q0 q1 q2
        rw [t1, t2]
        clear t1 t2 r1 r2
        go_region_law (refine step_copy_own rfl (.tmp 67) (.tmp 68) 76 76 rfl 50 rfl (by kernel_rfl) g7 1 7 7 ⟨g7, 0, none⟩ 7 8 rfl rfl (cellsW [x0, x1, x2, x3, x4, x5, x6, x7]) 52 HV.out (cellsW [x0, x1, x2, x3, x4, x5, x6]).toList rfl (copy_src HV.out) (Nat.le_of_ble_eq_true rfl) (copy_one _) ?_)
        refine gen_ (fun w4 hw4 => ?_)
        have hn0 : w.heap.size ≠ g7 := by omega
        have hn1 : w.heap.size + 1 ≠ g7 := by omega
        have hn2 : w.heap.size ≤ g7 := by omega
        have hv4 : w4.heap[g7]? = some (.cells (cellsW [x0, x0, x1, x2, x3, x4, x5, x6]) 52 (0, 0)) := by rw [hw4]; exact setRow_heap _ _ _ _ _ _ HV.out
        have hk4 : w4.heap[g6]? = some (.cells (cellsW kL) 72 (0, 0)) := by rw [hw4, setRow_other _ _ _ _ D67.out]; exact HK.out
        have hw5 : w4.heap[g5]? = some (.cells (cellsW (wTo (bts s) 64)) 72 (0, 0)) := by rw [hw4, setRow_other _ _ _ _ D57.out]; exact HW.out
        have hh4 : w4.heap[w.heap.size]? = some (.cells Hc 52 (0, 0)) := by rw [hw4, setRow_other _ _ _ _ hn0]; exact HH.out
        have h44 : w4.heap[w.heap.size + 1]? = some (.cells (cellsW [0, 0, 0, 0, 0, 0, 0, 0]) 52 (0, 0)) := by rw [hw4, setRow_other _ _ _ _ hn1]; exact H4.out
        have hb4 : Below w.heap.size w w4 := by rw [hw4]; exact below_setRow (pw_below_drewN HB.out _) hn2 _
        have HK4 := Lib.hid hk4
        have HW4 := Lib.hid hw5
        have HH4 := Lib.hid hh4
        have H44 := Lib.hid h44
        have HB4 := Lib.hid hb4
        have HV4 := Lib.hid hv4
        clear hk4 hw5 hh4 h44 hb4 hw4 HK HW HH H4 HB HV c0 c1 c2 c3 c4 c5 c6 c7 ck cw hv4
        have c0 := cell_of HV4.out 0 (Nat.le_of_ble_eq_true rfl)
        have c4 := cell_of HV4.out 4 (Nat.le_of_ble_eq_true rfl)
        have f0 := frozen_of_row w4 g7 0 _ _ HV4.out
        have f4 := frozen_of_row w4 g7 4 _ _ HV4.out
        simp only [List.getD_cons_zero, List.getD_cons_succ] at c0 c4
        generalize hT1 : tOne x4 x5 x6 x7 xk xw = T1v
        generalize hT2 : tTwo x0 x1 x2 = T2v
        go_wp2_with fail
        go_roundg (gk - 1)
        case measure => omega
        case rel =>
          have n1 : ((x3 : Int) + T1v) % 4294967296 = (((x3 + T1v) % 4294967296 : Nat) : Int) := by omega
          have n2 : ((T1v : Int) + T2v) % 4294967296 = (((T1v + T2v) % 4294967296 : Nat) : Int) := by omega
          refine ⟨i + 1, by omega, by go_num, ?_, ?_, ?_, ?_, ?_, ?_⟩
          · rw [n1, n2, HR.out, ← hT1, ← hT2]
            exact set_of (set_of HV4.out 4 _) 0 _
          · rw [Below.heap_setCell _ _ _ _ D67.out, Below.heap_setCell _ _ _ _ D67.out]; exact HK4.out
          · rw [Below.heap_setCell _ _ _ _ D57.out, Below.heap_setCell _ _ _ _ D57.out]; exact HW4.out
          · rw [Below.heap_setCell _ _ _ _ hn0, Below.heap_setCell _ _ _ _ hn0]; exact HH4.out
          · rw [Below.heap_setCell _ _ _ _ hn1, Below.heap_setCell _ _ _ _ hn1]; exact H44.out
          · exact (HB4.out.setCell (p := ⟨g7, 4, none⟩) hn2 _).setCell (p := ⟨g7, 0, none⟩) hn2 _
      · obtain rfl : i = 64 := by omega
        have hrl := rTo_length (bts s) hh 64
        have hrlt := rTo_lt (bts s) hlt 64
        obtain ⟨r, hr⟩ : ∃ r, rTo h (bts s) 64 = r := ⟨_, rfl⟩
        have HST := Lib.hid (show stepL h (bts s) = List.zipWith (fun x y => (x + y) % 4294967296) r h by rw [stepL, hr])
        rw [hr] at hrl hrlt HV
        rw [← HHC.out] at HH
        clear hr HK HW
        go_wp2_with fail
        go_loopg [80] 8 (fun kq v80 wq => ∃ j : Nat, j + kq = 8 ∧ v80 = .int .i64 (j : Int) ∧ wq.heap[g7]? = some (.cells (cellsW (midL r h j)) 52 (0, 0)) ∧
          wq.heap[w.heap.size]? = some (.cells (cellsW h) 52 (0, 0)) ∧ wq.heap[w.heap.size + 1]? = some (.cells (cellsW [0, 0, 0, 0, 0, 0, 0, 0]) 52 (0, 0)) ∧ Below w.heap.size w wq)
        case atStart => exact ⟨0, by omega, rfl, HV.out, HH.out, H4.out, HB.out⟩
        case round =>
          obtain ⟨j, hj, rfl, hv, hh0, h4, hb⟩ := hrel
          have HB2 := Lib.hid hb
          have HV2 := Lib.hid hv
          have HH2 := Lib.hid hh0
          have H42 := Lib.hid h4
          have hn0 : w.heap.size ≠ g7 := by omega
          have hn1 : w.heap.size + 1 ≠ g7 := by omega
          have hn2 : w.heap.size ≤ g7 := by omega
          clear hv hh0 h4 hb HV HH H4 HB
          rcases Nat.lt_or_ge j 8 with h8 | h8
          · have cv := cell_of HV2.out j (by rw [midL_length hrl hh j (by omega)]; omega)
            rw [midL_get hrl hh j h8] at cv
            have ch := cell_of HH2.out j (by rw [hh]; omega)
            have fv := frozen_of_row _ g7 j _ _ HV2.out
            have lv := getLt hrlt j
            have lh := getLt hlt j
            have HM := Lib.hid (midL_set hrl hh j h8)
            generalize r.getD j 0 = xv at cv lv HM
            generalize h.getD j 0 = xh at ch lh HM
            go_wp2_with fail
            go_region
            go_wp2_with fail
            go_roundg (gk - 1)
            case measure => omega
            case rel =>
              have n1 : ((xv : Int) + xh) % 4294967296 = (((xv + xh) % 4294967296 : Nat) : Int) := by omega
              refine ⟨j + 1, by omega, by go_num, ?_, ?_, ?_, ?_⟩
              · rw [n1, ← HM.out]
                exact set_of HV2.out j _
              · exact (Below.heap_setCell wr ⟨g7, j, none⟩ _ _ hn0).trans HH2.out
              · exact (Below.heap_setCell wr ⟨g7, j, none⟩ _ _ hn1).trans H42.out
              · exact (HB2.out.setCell (p := ⟨g7, j, none⟩) hn2 _).drew
          · obtain rfl : j = 8 := by omega
            rw [midL_end hrl hh, ← HST.out] at HV2
            have HS8 := Lib.hid (show (Try.prog.info? 52).map (·.size) = some (cellsW (stepL h (bts s))).size by rw [cellsW_size, stepL_length _ hh]; exact info8)
            have HSZ := Lib.hid (show (cellsW [0, 0, 0, 0, 0, 0, 0, 0]).size = (cellsW (stepL h (bts s))).size by rw [cellsW_size, cellsW_size, stepL_length _ hh]; rfl)
            have HSO := Lib.hid (cellsW_one (stepL h (bts s)))
            obtain ⟨cs, hcs⟩ : ∃ cs, cellsW (stepL h (bts s)) = cs := ⟨_, rfl⟩
            rw [hcs] at HV2 HS8 HSZ HSO
            have HCS := Lib.hid hcs
            clear hcs
            go_wp2_with (first | (refine wpList_load_row rfl 52 _ rfl g7 rfl 52 cs (0, 0) _ HV2.out Try.underlying52 rfl HS8.out ?_) | (refine wpList_store_row rfl 52 _ _ rfl (w.heap.size + 1) cs rfl rfl 52 _ H42.out HS8.out HSZ.out HSO.out ?_))
            refine bodyPost_ret (v := .agg cs) (results_cell_row rfl _ _ (w.heap.size + 1) 52 cs (0, 0) _ rfl (setRow_heap _ _ _ _ _ _ H42.out) Try.underlying52 rfl HS8.out) rfl ⟨by rw [HCS.out], below_setRow HB2.out (Nat.le_succ _) _⟩
end Go.Proofs.Ytggmjfonhcinhaa.Sch
end Step_
