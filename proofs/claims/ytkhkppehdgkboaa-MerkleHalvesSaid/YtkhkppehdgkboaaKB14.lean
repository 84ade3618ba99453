/- Texts of this claim, merged: what the functions that the law reaches compute, and what that says. -/
import Derived.Test.YtkhkppehdgkboaaKB4
import Derived.Test.YtkhkppehdgkboaaKB6
import Derived.Test.YtkhkppehdgkboaaKB10
import Derived.Test.YtkhkppehdgkboaaKB13
section Sha_
namespace Go.Proofs.Ytkhkppehdgkboaa.Sch
open Go.RowKit Go.Proofs.Ytkhkppehdgkboaa.P Go.Proofs.Ytkhkppehdgkboaa.ShaL Go.Proofs.YtkhkppehdgkboaaW.PrintWords Go.Proofs.YtkhkppehdgkboaaW.PrintLast Go.Proofs.YtkhkppehdgkboaaW.PrintMore
set_option linter.unusedVariables false
/-- the state after i blocks -/
def hTo (b : List Nat) : Nat → List Nat
  | 0 => h0L
  | i + 1 => stepL (hTo b i) ((b.drop (64 * i)).take 64)
theorem hTo_length (b : List Nat) (i : Nat) : (hTo b i).length = 8 := by
  induction i with
  | zero => rfl
  | succ i ih => exact stepL_length _ ih
theorem hTo_lt (b : List Nat) (i : Nat) : ∀ n ∈ hTo b i, n < 4294967296 := by
  cases i with
  | zero => exact h0L_lt
  | succ i => exact stepL_lt _ _
theorem extract_extract (p : ByteArray) (a b : Nat) : (p.extract a p.size).extract b (p.extract a p.size).size = p.extract (a + b) p.size := by
  apply ByteArray.ext
  rw [ByteArray.data_extract, ByteArray.data_extract, ByteArray.data_extract, Array.extract_extract]
  congr 1
  rw [ByteArray.size_extract]
  omega
/-- a word's bytes -/
def wordB (n : Nat) : List Nat := [n / 16777216 % 256, n / 65536 % 256, n / 256 % 256, n % 256]
def outL (h : List Nat) : List Nat := h.flatMap wordB
theorem outL_length (h : List Nat) : (outL h).length = 4 * h.length := by
  induction h with
  | nil => rfl
  | cons a l ih => rw [outL, List.flatMap_cons, List.length_append, ← outL, ih]; simp [wordB]; omega
theorem outL_take (h : List Nat) (j : Nat) (hj : j < h.length) : outL (h.take (j + 1)) = outL (h.take j) ++ wordB (h.getD j 0) := by
  rw [List.take_add_one, List.getElem?_eq_getElem hj, outL, List.flatMap_append]
  simp [outL, List.getD_eq_getElem?_getD, List.getElem?_eq_getElem hj]
theorem run_index_row (w : World) (l : List Nat) (j : Nat) (hl : l.length = 8) (hj : j < 8) :
    (Instr.index 56 (.agg (cellsW l)) (.int .i64 (j : Int))).run Try.prog w = .ok (.int .u32 ((l.getD j 0 : Nat) : Int)) w := by
  have h := cellsW_get l j (by omega)
  simp [Instr.index, run_underlying Try.underlying56, asIntOf, go_sem, hj, h]
noncomputable def T2 : Bool × List (List Nat × List Nat) := rtab .any (opsOf Try.f27 5)
def B2 : List Nat := [0, 0, 2, 7, 15]
theorem tab2 : rtab .any (opsOf Try.f27 5) = T2 := rfl
theorem bits2 : waitsOk T2.2 B2 = true := by kernel_rfl
def F2 (w0 : World) (base g : Nat) (Hi Hn : Array Value) (b : Nat → Bool) (w' : World) : Prop :=
  Below base w0 w' ∧ w'.heap[g]? = some (.cells (if b 4 = true then Hn else Hi) 56 (0, 0))
def Inv2 (w0 : World) (base g : Nat) (Hi Hn : Array Value) (q : ByteArray) (a0 : Act) (b : Nat → Bool) (a : Act) (w' : World) : Prop :=
  a = putSel a0 b [(0, 15, .agg Hi), (2, 17, .string q), (3, 18, .agg Hn)] ∧ F2 w0 base g Hi Hn b w'
/-- the padded message and the digest, on numbers -/
def padN (b : List Nat) : List Nat := b ++ [128] ++ List.replicate (Bld.zerosFor b.length) 0 ++ Bld.lenBytes b.length 8
def shaN (b : List Nat) : List Nat := outL (hTo (padN b) ((padN b).length / 64))
def shaB (s : ByteArray) : ByteArray := ⟨((shaN (bts s)).map UInt8.ofNat).toArray⟩
theorem padL_eq (s : ByteArray) : Bld.padL s.data.toList = padN (bts s) := by
  unfold Bld.padL padN
  rw [show s.data.toList.map UInt8.toNat = bts s from rfl, show s.data.toList.length = (bts s).length by rw [bts, List.length_map]]
theorem padN_length (b : List Nat) : (padN b).length = b.length + 9 + Bld.zerosFor b.length := by
  simp only [padN, Bld.lenBytes, List.length_append, List.length_cons, List.length_nil, List.length_replicate, List.length_map, List.length_range]; omega
theorem padN_lt {b : List Nat} (h : ∀ n ∈ b, n < 256) : ∀ n ∈ padN b, n < 256 := by
  intro n hn
  simp only [padN, List.mem_append, List.mem_singleton, List.mem_replicate, Bld.lenBytes, List.mem_map] at hn
  rcases hn with ((hb | rfl) | ⟨_, rfl⟩) | ⟨k, _, rfl⟩
  · exact h n hb
  · decide
  · decide
  · exact Nat.mod_lt _ (by decide)
theorem padN_blocks (b : List Nat) : (padN b).length = 64 * ((padN b).length / 64) := by
  rw [padN_length]; unfold Bld.zerosFor; omega
theorem bts_of (l : List Nat) (h : ∀ n ∈ l, n < 256) : bts ⟨(l.map UInt8.ofNat).toArray⟩ = l := by
  simp only [bts, List.map_map]
  conv => rhs; rw [← List.map_id l]
  refine List.map_congr_left fun n hn => ?_
  have := h n hn
  simp only [Function.comp_apply, id]
  rw [UInt8.toNat_ofNat']; omega
set_option maxHeartbeats 4000000 in
set_option maxRecDepth 100000 in
theorem sha (s : ByteArray) (w : World) (hs : s.size ≤ 1099511627776) :
    Calls Try.prog 27 #[.string s] w fun e w' => e = .returned (.string (shaB s)) ∧ Below w.heap.size w w' := by
  go_enter Try.func27, Try.ntmps27
  go_wp2_with fail
  refine (start w).mono ?_
  rintro e w1 ⟨rfl, hb1⟩
  have HB1 := Lib.hid hb1
  clear hb1
  have HI := Lib.hid (show (Try.prog.info? 56).map (·.size) = some (cellsW h0L).size by rw [cellsW_size]; exact info8)
  go_wp2_with (refine wpList_store_row rfl 56 _ _ rfl w1.heap.size (cellsW h0L) rfl rfl 56 _ (heap_alloc_new _ _) HI.out (by rw [cellsW_size]; rfl) (cellsW_one _) ?_)
  refine (Bld.padded s _ hs).mono ?_
  rintro e w2 ⟨rfl, hb2⟩
  have hh2 : w2.heap[w1.heap.size]? = some (.cells (cellsW h0L) 56 (0, 0)) := keep_below hb2 _ _ (setRow_heap _ _ _ _ _ _ (heap_alloc_new _ _))
  have hB2 : Below w.heap.size w w2 := (below_setRow (HB1.out.alloc HB1.out.size _) HB1.out.size _).trans (hb2.mono (by rw [setRow_size, World.size_alloc]; have := HB1.out.size; omega))
  have HH2 := Lib.hid hh2
  have HB2 := Lib.hid hB2
  have G1 := HB1.out.size
  clear hb2 hh2 hB2 HB1
  go_wp2_with fail
  obtain ⟨p0, hp0⟩ : ∃ p0 : ByteArray, (⟨((Bld.padL s.data.toList).map UInt8.ofNat).toArray⟩ : ByteArray) = p0 := ⟨_, rfl⟩
  have hbt : bts p0 = padN (bts s) := by rw [← hp0, padL_eq, bts_of _ (padN_lt (bts_lt s))]
  obtain ⟨m, hm, hm2, hm3⟩ : ∃ m, p0.size = 64 * m ∧ m ≤ 17179869188 ∧ m = (padN (bts s)).length / 64 := by
    refine ⟨_, ?_, ?_, rfl⟩
    · rw [← bts_length p0, hbt]; exact padN_blocks _
    · rw [padN_length, bts_length]; unfold Bld.zerosFor; omega
  have HBT := Lib.hid hbt
  have HM3 := Lib.hid hm3
  clear hbt hm3
  rw [hp0]
  have HP := Lib.hid hp0
  have HM := Lib.hid hm
  clear hp0 hm
  go_loopg [4] m (fun kq v4 wr => ∃ i : Nat, i + kq = m ∧ v4 = .string (p0.extract (64 * i) p0.size) ∧ wr.heap[w1.heap.size]? = some (.cells (cellsW (hTo (bts p0) i)) 56 (0, 0)) ∧ Below w.heap.size w wr)
  case atStart => exact ⟨0, by omega, by rw [Nat.mul_zero, ByteArray.extract_zero_size], HH2.out, HB2.out⟩
  case round =>
    obtain ⟨i, hi, rfl, hh, hb⟩ := hrel
    have hsz : (p0.extract (64 * i) p0.size).size = 64 * (m - i) := by rw [ByteArray.size_extract]; have := HM.out; omega
    rcases Nat.lt_or_ge i m with him | him
    · have hne : (p0.extract (64 * i) p0.size).toList.isEmpty = false := by
        rw [← decide_eq_emptyBytes]
        refine decide_eq_false fun e => ?_
        rw [e] at hsz
        have : (ByteArray.empty).size = 0 := rfl
        omega
      go_wp2_with fail
      have hq : 64 ≤ (p0.extract (64 * i) p0.size).size := by omega
      have hq2 : (p0.extract (64 * i) p0.size).size ≤ 1099511628032 := by omega
      have HN : Hid (cellsW (hTo (bts p0) (i + 1)) = cellsW (stepL (hTo (bts p0) i) (bts ((p0.extract (64 * i) p0.size).extract 0 64)))) := Lib.hid (by
        rw [hTo, bts_extract, bts_extract, List.drop_zero, Nat.sub_zero, List.take_take, Nat.min_eq_left]
        have := HM.out; omega)
      have HE : Hid ((p0.extract (64 * i) p0.size).extract 64 (p0.extract (64 * i) p0.size).size = p0.extract (64 * (i + 1)) p0.size) := Lib.hid ((extract_extract p0 (64 * i) 64).trans (by rw [Nat.mul_add]))
      generalize p0.extract (64 * i) p0.size = q at hq hq2 HN HE hsz hne ⊢
      have hl := hTo_length (bts p0) i
      have hlt := hTo_lt (bts p0) i
      generalize hTo (bts p0) i = h at hl hlt HN hh
      obtain ⟨h', hh'⟩ : ∃ h', hTo (bts p0) (i + 1) = h' := ⟨_, rfl⟩
      rw [hh'] at HN
      have HH' := Lib.hid hh'
      clear hh'
      have HH := Lib.hid hh
      have HB := Lib.hid hb
      clear hh hb hsz hne
      refine start_ (n := 5) (S := fun w' => True) (ds := []) #[false, false, false, false, false] (by kernel_rfl) rfl rfl trivial (fun hHeld => ?_)
      refine with_tabW tab2 bits2 (fun HT_ HW_ => ?_)
      clear hHeld
      refine pure_ (i := 1) (N := some 16) (v := ?_) (a' := ?_) #[false, true, false, false, false] rfl rfl (any_of HT_.out (by kernel_rfl)) (fun _ _ _ h => h) (Or.inl ⟨by rfl, ?_⟩) ?_ ?_
      rotate_left
      · intro w'
        go_simp
        with_reducible rfl
      rotate_left
      · simp only [Act.put, List.setIfInBounds_toArray, List.set_cons_zero, List.set_cons_succ]
        rfl
      refine inv_at [0, 2, 3, 4] (Inv2 wr w.heap.size w1.heap.size (cellsW h) (cellsW h') (q.extract 0 64)) HT_.out HW_.out (by kernel_rfl) (by kernel_rfl) ?_ ?_ ?_
      · refine ⟨by simp only [putSel, Bool.false_eq_true, if_false], ⟨rfl, rfl, rfl, Nat.le_refl _, fun _ _ => rfl⟩, ?_⟩
        rw [if_neg (by decide)]; exact HH.out
      refine steps_cons ?_ ?_
      · rintro b a w' ⟨ha, hF⟩ hb_ hon hoff
        refine ⟨_, rfl, fun K hK => ?_⟩
        have e3 : a.tmps[3]? = some (ptr w1.heap.size) := by rw [ha]; exact (putSel_off rfl).trans rfl
        replace ha := Aside0.mk ha
        have blk := hF.2
        rw [hoff 4 (by kernel_rfl), if_neg (by decide)] at blk
        rw [if_pos (by rfl)]
        refine wp_load_row 56 (.tmp 3) rfl w1.heap.size (by simp only [Act.eval, Array.getD_eq_getD_getElem?, Option.getD_some, e3]; rfl) 56 _ (0, 0) _ blk Try.underlying56 rfl (by rw [cellsW_size, hl]; exact info8) ?_
        exact hK.out _ _ ⟨by rw [ha.out]; exact putSel_upk 0 hb_ rfl rfl rfl, hF.1, by rw [up_ne (by decide)]; exact hF.2⟩
      refine steps_cons ?_ ?_
      · rintro b a w' ⟨ha, hF⟩ hb_ hon hoff
        refine ⟨_, rfl, fun K hK => ?_⟩
        have e16 : a.tmps[16]? = some (Value.string q) := by rw [ha]; exact (putSel_off rfl).trans rfl
        replace ha := Aside0.mk ha
        refine value_ (w1 := w') (v := .string (q.extract 0 64)) (by rfl) rfl ?_ ?_
        · go_simp
          first | done | rfl | exact fun h_ => absurd h_ (by omega)
        exact hK.out _ _ ⟨by rw [ha.out]; exact putSel_upk 1 hb_ rfl rfl rfl, hF.1, by rw [up_ne (by decide)]; exact hF.2⟩
      refine steps_cons ?_ ?_
      · rintro b a w' ⟨ha, hF⟩ hb_ hon hoff
        refine ⟨_, rfl, fun K hK => ?_⟩
        have e15 : a.tmps[15]? = some (Value.agg (cellsW h)) := by rw [ha]; exact putSel_on (e := (0, 15, Value.agg (cellsW h))) 0 rfl rfl (hon 0 (by kernel_rfl)) rfl
        have e17 : a.tmps[17]? = some (Value.string (q.extract 0 64)) := by rw [ha]; exact putSel_on (e := (2, 17, Value.string (q.extract 0 64))) 1 rfl rfl (hon 2 (by kernel_rfl)) rfl
        replace ha := Aside0.mk ha
        have hqs : (q.extract 0 64).size = 64 := by rw [ByteArray.size_extract]; omega
        refine goes_ Try.func42 (by kernel_rfl) rfl #[.agg (cellsW h), .string (q.extract 0 64)] (by rfl) rfl rfl (by simp only [List.map_toArray, List.map_cons, List.map_nil, Act.eval, Array.getD_eq_getD_getElem?, Option.getD_some, e15, e17]) ?_
        refine (step h (q.extract 0 64) w' hl hlt (by omega) (by omega)).mono ?_
        rintro e w3 ⟨rfl, hb3⟩
        rw [← HN.out]
        exact ⟨_, rfl, hK.out _ _ ⟨by rw [ha.out]; exact putSel_upk 2 hb_ rfl rfl rfl, hF.1.trans (hb3.mono (by have := HB.out.size; have := hF.1.size; omega)), by rw [up_ne (by decide)]; exact keep_below hb3 _ _ hF.2⟩⟩
      refine steps_cons ?_ ?_
      · rintro b a w' ⟨ha, hF⟩ hb_ hon hoff
        refine ⟨_, rfl, fun K hK => ?_⟩
        have e3 : a.tmps[3]? = some (ptr w1.heap.size) := by rw [ha]; exact (putSel_off rfl).trans rfl
        have e18 : a.tmps[18]? = some (Value.agg (cellsW h')) := by rw [ha]; exact putSel_on (e := (3, 18, Value.agg (cellsW h'))) 2 rfl rfl (hon 3 (by kernel_rfl)) rfl
        replace ha := Aside0.mk ha
        have blk := hF.2
        rw [hb_, if_neg (by decide)] at blk
        have hl' : (cellsW h').size = 8 := by rw [HN.out, cellsW_size, stepL_length _ hl]
        rw [if_pos (by rfl)]
        refine wp_store_row 56 (.tmp 3) (.tmp 18) rfl w1.heap.size (cellsW h') (by simp only [Act.eval, Array.getD_eq_getD_getElem?, Option.getD_some, e3]; rfl) (by simp only [Act.eval, Array.getD_eq_getD_getElem?, Option.getD_some, e18]) 56 _ blk (by rw [hl']; exact info8) (by rw [hl', cellsW_size, hl]) (cellsW_one _) ?_
        exact hK.out _ _ ⟨by rw [ha.out]; exact putSel_none (v := undef) rfl, below_setRow hF.1 G1 _, by rw [up_self, if_pos rfl]; exact setRow_heap _ _ _ _ _ _ blk⟩
      exact steps_nil
      · rintro b a w' hall ⟨ha, hb3, hh3⟩
        rw [hall 4 (by kernel_rfl), if_pos rfl] at hh3
        have hb0_ := hall 0 (by kernel_rfl)
        have hb2_ := hall 2 (by kernel_rfl)
        have hb3_ := hall 3 (by kernel_rfl)
        subst ha
        simp only [putSel, hb0_, hb2_, hb3_, if_true, Act.put, List.setIfInBounds_toArray, List.set_cons_zero, List.set_cons_succ]
        have HH3 := Lib.hid hh3
        have HB3 := Lib.hid (HB.out.trans hb3)
        clear hall hb0_ hb2_ hb3_ hh3 hb3 HT_ HW_
        go_wp2_with fail
        go_roundg (gk - 1)
        case measure => omega
        case rel => exact ⟨i + 1, by omega, by rw [HE.out], by rw [HH'.out]; exact HH3.out, HB3.out⟩
    · obtain rfl : i = m := by omega
      have he : (p0.extract (64 * i) p0.size).toList.isEmpty = true := by
        rw [← decide_eq_emptyBytes]
        refine decide_eq_true ?_
        apply ByteArray.ext; apply Array.eq_empty_of_size_eq_zero
        have : (p0.extract (64 * i) p0.size).data.size = (p0.extract (64 * i) p0.size).size := rfl
        omega
      go_wp2_with (refine wpList_load_row rfl 56 _ rfl w1.heap.size rfl 56 _ (0, 0) _ hh Try.underlying56 rfl (by rw [cellsW_size, hTo_length]; exact info8) ?_)
      have hl := hTo_length (bts p0) i
      have hlt := hTo_lt (bts p0) i
      have HB := Lib.hid hb
      clear hh hb
      obtain ⟨h, hh⟩ : ∃ h, hTo (bts p0) i = h := ⟨_, rfl⟩
      rw [hh] at hl hlt ⊢
      have HHE := Lib.hid hh
      clear hh he hsz
      obtain ⟨i0, hi0, hz0, hz1, hz2⟩ := info_parts Bld.infoByte
      go_loopg [5, 20] 8 (fun kq v5 v20 wr => ∃ j : Nat, j + kq = 8 ∧ v20 = .int .i64 (j : Int) ∧ wr.ownsRow w.heap.size 5 1 v5 (4 * j) (Bld.cellsOf (outL (h.take j))) ∧ Below w.heap.size w wr)
      case atStart => exact ⟨0, by omega, rfl, World.ownsRow_nil _ _ _ _, HB.out⟩
      case round =>
        obtain ⟨j, hj, rfl, hown, hbw⟩ := hrel
        rcases Nat.lt_or_ge j 8 with h8 | h8
        · have rj := run_index_row wr h j hl h8
          have HO := Lib.hid (outL_take h j (by omega))
          have lx := getLt hlt j
          have hsz := hbw.size
          have lt := outL_length (h.take j)
          rw [List.length_take, Nat.min_eq_left (by omega)] at lt
          generalize h.getD j 0 = x at rj HO lx
          generalize outL (h.take j) = os at hown HO lt
          go_wp2_with (at_builtin; refine wpList_append_own _ rfl _ _ 59 rfl w.heap.size 5 i0 (.int .u8 0) 1 1 Try.underlying59 hi0 hz0 hz1 hz2 rfl (by decide) _ _ _ rfl (hown.alloc _) ⟨wr.heap.size, 0, none⟩ 4 4 (Bld.cellsOf (wordB x)) rfl rfl ?c1 ?c2 ?c3 ?c4 ?c5 ?_)
          case c1 =>
            intro k u hk
            rw [show (⟨wr.heap.size, 0, none⟩ : Addr).add k = ⟨wr.heap.size, k, none⟩ by simp [Addr.add]; omega, World.cell?_alloc_new]
            rw [← hk]
            have e1 : ((x / 16777216 % 256 : Nat) : Int) = (x : Int) / 16777216 := by omega
            have e2 : ((x / 65536 % 256 : Nat) : Int) = (x : Int) / 65536 % 256 := by omega
            have e3 : ((x / 256 % 256 : Nat) : Int) = (x : Int) / 256 % 256 := by omega
            have e4 : ((x % 256 : Nat) : Int) = (x : Int) % 256 := by omega
            simp only [Bld.cellsOf, wordB, List.map_cons, List.map_nil, e1, e2, e3, e4]
            exact List.getElem?_toArray
          case c2 => intro u hu; simp only [Bld.cellsOf, List.mem_map] at hu; obtain ⟨n, _, rfl⟩ := hu; rfl
          case c3 => unfold maxLen; omega
          case c4 => omega
          case c5 => simp; omega
          intro v' w2 hown' hgrow _
          have hblk := hown.lt
          go_wp2_with fail
          go_roundg (gk - 1)
          case measure => omega
          case rel =>
            refine ⟨j + 1, by omega, by go_num, ?_, (hbw.alloc hbw.size _).grown hgrow (by rw [World.size_alloc]; omega) (fun k hk => (hblk k hk).1)⟩
            rw [HO.out, show 4 * (j + 1) = 4 * j + 4 by omega]
            have := hown'
            rw [show Bld.cellsOf os ++ Bld.cellsOf (wordB x) = Bld.cellsOf (os ++ wordB x) by simp [Bld.cellsOf]] at this
            exact this
        · obtain rfl : j = 8 := by omega
          rw [List.take_of_length_le (by omega)] at hown
          have hcv := own_string (P := Try.prog) Try.underlying59 Try.underlying5 Try.underlying9 (xs := (outL h).map fun n : Nat => (n : Int)) (by rw [show nums .u8 ((outL h).map fun n : Nat => (n : Int)) = Bld.cellsOf (outL h) by simp [nums, Bld.cellsOf]]; exact hown)
          go_wp2_with fail
          go_ret
          refine ⟨?_, hbw⟩
          rw [← HHE.out, HBT.out, HM3.out]
          congr 2
          unfold strOfNums shaB shaN
          rw [List.map_map]
          rfl
end Go.Proofs.Ytkhkppehdgkboaa.Sch
namespace Go.Proofs.Ytkhkppehdgkboaa.P
open Go.RowKit Go.Proofs.YtkhkppehdgkboaaW.PrintWords
/-- sum.Sha, for the print -/
def sum_Sha.f (a0 : ByteArray) : Option ByteArray := if a0.size ≤ 1099511627776 then some (Sch.shaB a0) else none
theorem sum_Sha.calls (a0 : ByteArray) (r : ByteArray) (w : World) (h : sum_Sha.f a0 = some r) :
    Calls Try.prog 27 #[.string a0] w fun e w' => e = .returned (.string r) ∧ Below w.heap.size w w' := by
  unfold sum_Sha.f at h
  split at h
  · obtain rfl := Option.some.inj h
    exact Sch.sha a0 w (by assumption)
  · cases h
end Go.Proofs.Ytkhkppehdgkboaa.P
end Sha_
section P4_
namespace Go.Proofs.Ytkhkppehdgkboaa.P
open Go.RowKit Go.Proofs.YtkhkppehdgkboaaW.PrintWords Go.Proofs.YtkhkppehdgkboaaW.PrintLast Go.Proofs.YtkhkppehdgkboaaW.PrintMore
attribute [local go_sem] max2_int min2_int max_two min_two max_three min_three max_four min_four   -- for this text's walks alone
set_option linter.unusedVariables false
set_option linter.unusedSimpArgs false
def merkle_node.f (a0 : ByteArray) (a1 : ByteArray) : Option (ByteArray) := if 1 + a0.size ≤ 9223372036854775807 then (if ((⟨#[1]⟩ : ByteArray) ++ a0).size + a1.size ≤ 9223372036854775807 then ((sum_Sha.f (((⟨#[1]⟩ : ByteArray) ++ a0) ++ a1)).bind fun t108 => (some t108)) else (none)) else (none)
set_option maxHeartbeats 8000000 in
set_option maxRecDepth 100000 in
theorem merkle_node.calls (a0 : ByteArray) (a1 : ByteArray) (r : ByteArray) (w : World) (h : merkle_node.f a0 a1 = some r) :
    Calls Try.prog 32 #[.string a0, .string a1] w fun e w' => e = .returned (.string r) ∧ Below w.heap.size w w' := by
  have HB := Aside0.mk (Below.refl w.heap.size w)
  have H : (if 1 + a0.size ≤ 9223372036854775807 then (if ((⟨#[1]⟩ : ByteArray) ++ a0).size + a1.size ≤ 9223372036854775807 then ((sum_Sha.f (((⟨#[1]⟩ : ByteArray) ++ a0) ++ a1)).bind fun t108 => (some t108)) else (none)) else (none)) = some r := h
  clear h
  by_cases c3 : 1 + a0.size ≤ 9223372036854775807
  · rw [if_pos c3] at H
    have c3b0 := eq_true c3
    have c3b1 : decide (1 + a0.size ≤ 9223372036854775807) = true := decide_eq_true c3
    try have c3b2 : (9223372036854775807 < 1 + a0.size) = False := eq_false (Nat.not_lt.2 c3)
    by_cases c4 : ((⟨#[1]⟩ : ByteArray) ++ a0).size + a1.size ≤ 9223372036854775807
    · rw [if_pos c4] at H
      have c4b0 := eq_true c4
      have c4b1 : decide (((⟨#[1]⟩ : ByteArray) ++ a0).size + a1.size ≤ 9223372036854775807) = true := decide_eq_true c4
      try have c4b2 : (9223372036854775807 < ((⟨#[1]⟩ : ByteArray) ++ a0).size + a1.size) = False := eq_false (Nat.not_lt.2 c4)
      try (have c4b3 := c4b2; simp only [ByteArray.size_append] at c4b3)
      replace H := Option.bind_eq_some_iff.mp H
      obtain ⟨t108, A50, H⟩ := H
      replace H : (some t108) = some r := H
      have A5 := Aside0.mk A50
      clear A50
      obtain rfl := Option.some.inj H
      go_enter Try.func32, Try.ntmps32
      go_wp2_with (first | ((with_reducible refine gate_callee (f := 27) rfl ?_); refine goesL_ (some 9) rfl rfl Try.func27 (by kernel_rfl) rfl #[.string (((⟨#[1]⟩ : ByteArray) ++ a0) ++ a1)] rfl (by (try simp only [List.map_toArray, List.map_cons, List.map_nil]); first | done | rfl | (simp only [List.length_drop, List.length_take]; rfl)) ?_; (with_reducible refine (sum_Sha.calls (((⟨#[1]⟩ : ByteArray) ++ a0) ++ a1) t108 _ A5.out).mono ?_); rintro e w6 ⟨rfl, hb⟩; refine ⟨_, rfl, ?_⟩; have n0_ := Aside0.mk (below_step (by repeat (first | (with_reducible first | exact HB.out | apply below_alloc | apply pw_below_drewN | apply below_drew1) | exact HB.out)) hb); clear HB; have HB := n0_; clear n0_; (try clear hb); (try clear hb2); (try clear hk); (try clear hi)))
      go_ret
      exact ⟨by first | rfl | (simp [errW_none, errW_some] <;> rfl) | (simp [*, errW_none, errW_some] <;> rfl), by repeat (first | (with_reducible first | exact HB.out | apply below_alloc | apply pw_below_drewN | apply below_drew1) | exact HB.out)⟩
    · rw [if_neg c4] at H
      exact absurd H (by simp)
  · rw [if_neg c3] at H
    exact absurd H (by simp)
end Go.Proofs.Ytkhkppehdgkboaa.P
end P4_
section Root_
namespace Go.Proofs.Ytkhkppehdgkboaa.Mk
open Go.RowKit Go.Proofs.Ytkhkppehdgkboaa.P Go.Proofs.YtkhkppehdgkboaaW.PrintWords Go.Proofs.YtkhkppehdgkboaaW.PrintLast Go.Proofs.YtkhkppehdgkboaaW.PrintMore
attribute [local go_sem] max2_int min2_int max_two min_two max_three min_three max_four min_four   -- for this text's walks alone
set_option linter.unusedVariables false
set_option linter.unusedSimpArgs false
theorem spl_pos (n : Nat) : 1 ≤ spl n := Nat.one_le_two_pow
theorem spl_lt (n : Nat) (h : 2 ≤ n) : spl n < n := by
  have := Nat.log2_self_le (n := n - 1) (by omega)
  unfold spl; omega
/-- the node of two strings -/
def nodeB (a b : ByteArray) : ByteArray := Sch.shaB (((⟨#[1]⟩ : ByteArray) ++ a) ++ b)
/-- the root of a list -/
def rootF : Nat → List ByteArray → ByteArray
  | 0, _ => ⟨#[]⟩
  | n + 1, l => if l.length = 0 then Sch.shaB ⟨#[]⟩ else if l.length = 1 then l.getD 0 ByteArray.empty else nodeB (rootF n (l.take (spl l.length))) (rootF n (l.drop (spl l.length)))
def rootB (l : List ByteArray) : ByteArray := rootF (l.length + 1) l
theorem rootF_fuel : ∀ (n m : Nat) (l : List ByteArray), l.length < n → l.length < m → rootF n l = rootF m l
  | 0, _, _, h, _ => by omega
  | _, 0, _, _, h => by omega
  | n + 1, m + 1, l, h1, h2 => by
    rw [rootF, rootF]
    by_cases h0 : l.length = 0
    · rw [if_pos h0, if_pos h0]
    rw [if_neg h0, if_neg h0]
    by_cases h1' : l.length = 1
    · rw [if_pos h1', if_pos h1']
    rw [if_neg h1', if_neg h1']
    have p1 := spl_pos l.length
    have p2 := spl_lt l.length (by omega)
    rw [rootF_fuel n m (l.take (spl l.length)) (by rw [List.length_take]; omega) (by rw [List.length_take]; omega), rootF_fuel n m (l.drop (spl l.length)) (by rw [List.length_drop]; omega) (by rw [List.length_drop]; omega)]
theorem rootB_nil (l : List ByteArray) (h : l.length = 0) : rootB l = Sch.shaB ⟨#[]⟩ := by rw [rootB, rootF, if_pos h]
theorem rootB_one (l : List ByteArray) (h : l.length = 1) : rootB l = l.getD 0 ByteArray.empty := by rw [rootB, rootF, if_neg (by omega), if_pos h]
theorem rootB_more (l : List ByteArray) (h : 2 ≤ l.length) : rootB l = nodeB (rootB (l.take (spl l.length))) (rootB (l.drop (spl l.length))) := by
  have p1 := spl_pos l.length
  have p2 := spl_lt l.length h
  rw [rootB, rootF, if_neg (by omega), if_neg (by omega), rootB, rootB, rootF_fuel l.length _ (l.take (spl l.length)) (by rw [List.length_take]; omega) (Nat.lt_succ_self _), rootF_fuel l.length _ (l.drop (spl l.length)) (by rw [List.length_drop]; omega) (Nat.lt_succ_self _)]
/-- lists that the contracts speak of -/
def Dom (l : List ByteArray) : Prop := l.length < 129 ∧ ∀ x ∈ l, x.size ≤ 1000000000
theorem Dom.take {l : List ByteArray} (h : Dom l) (k : Nat) : Dom (l.take k) := ⟨by rw [List.length_take]; have := h.1; omega, fun x hx => h.2 x (List.mem_of_mem_take hx)⟩
theorem Dom.drop {l : List ByteArray} (h : Dom l) (k : Nat) : Dom (l.drop k) := ⟨by rw [List.length_drop]; have := h.1; omega, fun x hx => h.2 x (List.mem_of_mem_drop hx)⟩
theorem shaB_size (s : ByteArray) : (Sch.shaB s).size = 32 := by
  unfold Sch.shaB
  simp only [ByteArray.size, List.size_toArray, List.length_map]
  rw [Sch.shaN, Sch.outL_length, Sch.hTo_length]
theorem root_size (l : List ByteArray) (h : Dom l) : (rootB l).size ≤ 1000000000 := by
  rcases Nat.lt_or_ge l.length 2 with h2 | h2
  · rcases Nat.eq_zero_or_pos l.length with h0 | h0
    · rw [rootB_nil l h0, shaB_size]; omega
    · rw [rootB_one l (by omega), List.getD_eq_getElem?_getD, List.getElem?_eq_getElem h0]; exact h.2 _ (List.getElem_mem h0)
  · rw [rootB_more l h2, nodeB, shaB_size]; omega
theorem node_at (a b : ByteArray) (ha : a.size ≤ 1000000000) (hb : b.size ≤ 1000000000) : merkle_node.f a b = some (nodeB a b) := by
  have s0 : (ByteArray.mk #[1]).size = 1 := rfl
  unfold merkle_node.f
  rw [if_pos (by omega), if_pos (by rw [ByteArray.size_append]; omega), sum_Sha.f, if_pos (by rw [ByteArray.size_append, ByteArray.size_append]; omega), Option.bind_some]; rfl
set_option maxHeartbeats 4000000 in
set_option maxRecDepth 100000 in
theorem root_calls : ∀ (n : Nat) (A0 : Option Addr) (c0 : Nat) (l0 : List ByteArray) (w : World) (hn : l0.length ≤ n) (hd : Dom l0) (hr0 : Kd.C Kd.string w A0 l0.length l0) (hc0 : l0.length ≤ c0),
    Calls Try.prog 15 #[.slice A0 l0.length c0] w fun e w' => e = .returned (.string (rootB l0)) ∧ Below w.heap.size w w' := by
  intro n
  induction n using Nat.strongRecOn with
  | _ n ih =>
  intro A0 c0 l0 w hn hd hr0 hc0
  have HB := Aside0.mk (Below.refl w.heap.size w)
  rcases Nat.lt_or_ge l0.length 2 with h2 | h2
  · rcases Nat.eq_zero_or_pos l0.length with h0 | h0
    · rw [rootB_nil l0 h0]
      have c2b0 : ((l0.length : Int) == 0) = true := beq_iff_eq.mpr (by omega)
      have hsh : sum_Sha.f (⟨#[]⟩ : ByteArray) = some (Sch.shaB ⟨#[]⟩) := by rw [sum_Sha.f, if_pos (by decide)]
      clear hr0 hc0 hd ih hn h2 h0
      go_enter Try.func15, Try.ntmps15
      go_wp2_with (first | (go_at_call 27; (with_reducible refine (sum_Sha.calls (⟨#[]⟩ : ByteArray) _ _ hsh).mono ?_); rintro e w4 ⟨rfl, hb⟩; have n0_ := Aside0.mk (below_step (by repeat (first | (with_reducible first | exact HB.out | apply below_alloc | apply pw_below_drewN | apply below_drew1) | exact HB.out)) hb); clear HB; have HB := n0_; clear n0_; (try clear hb)))
      go_ret
      exact ⟨by first | rfl | (simp; done) | (simp [*]; done), by repeat (first | (with_reducible first | exact HB.out | apply below_alloc | apply pw_below_drewN | apply below_drew1) | exact HB.out)⟩
    · have h1 : l0.length = 1 := by omega
      rw [rootB_one l0 h1]
      have c2b0 : ((l0.length : Int) == 0) = false := beq_eq_false_iff_ne.mpr (by omega)
      have c5b0 : ((l0.length : Int) == 1) = true := beq_iff_eq.mpr (by omega)
      have q261 : (0 : Int) < (l0.length : Int) := by omega
      obtain ⟨ad261, e261, hx261_0⟩ := Kd.at_string hr0 0 (by omega) q261
      cases e261
      have qi261 : (0 < l0.length) = True := eq_true (by omega)
      (try rw [show ((0 : Int)).toNat = 0 from rfl] at hx261_0)
      (try rw [Addr.add_zero'] at hx261_0)
      replace q261 := eq_true q261
      clear hc0 hd ih hn h2 h0 h1
      go_enter Try.func15, Try.ntmps15
      go_wp2
      go_ret
      exact ⟨by first | rfl | (simp; done) | (simp [*]; done), by repeat (first | (with_reducible first | exact HB.out | apply below_alloc | apply pw_below_drewN | apply below_drew1) | exact HB.out)⟩
  · rw [rootB_more l0 h2]
    obtain ⟨A1, hC1, hcalls⟩ := halves_calls A0 c0 l0 hc0 h2 hd.1
    have p1 := spl_pos l0.length
    have p2 := spl_lt l0.length h2
    have hDt := hd.take (spl l0.length)
    have hDd := hd.drop (spl l0.length)
    have hlt : (l0.take (spl l0.length)).length = spl l0.length := by rw [List.length_take]; omega
    have hld : (l0.drop (spl l0.length)).length = l0.length - spl l0.length := List.length_drop
    have HRt : Aside0 (Kd.C Kd.string w A0 (l0.take (spl l0.length)).length (l0.take (spl l0.length))) := by
      obtain ⟨i0, hi0, _, hsz0, _⟩ := info_parts info9
      obtain ⟨_, hA, _⟩ := print_take_of (P := Try.prog) Value.string (⟨#[]⟩ : ByteArray) 22 9 .i64 Try.underlying22 hi0 hsz0 A0 c0 l0 ((spl l0.length : Nat) : Int) (by omega) (by omega) hc0
      rw [Int.toNat_natCast] at hA
      exact ⟨Kd.C_of_reads (h1 := fun _ => rfl) (hA _ (Kd.reads_of_C hr0))⟩
    have HRd := Aside0.mk (hC1 w hr0)
    have i1 := ih (l0.take (spl l0.length)).length (by omega) A0 (spl l0.length) (l0.take (spl l0.length))
    have i2 := ih (l0.drop (spl l0.length)).length (by omega) A1 (c0 - spl l0.length) (l0.drop (spl l0.length))
    have hc2 : (l0.take (spl l0.length)).length ≤ spl l0.length := by omega
    have hc3 : (l0.drop (spl l0.length)).length ≤ c0 - spl l0.length := by omega
    have hnode := node_at (rootB (l0.take (spl l0.length))) (rootB (l0.drop (spl l0.length))) (root_size _ hDt) (root_size _ hDd)
    have c2b0 : ((l0.length : Int) == 0) = false := beq_eq_false_iff_ne.mpr (by omega)
    have c5b0 : ((l0.length : Int) == 1) = false := beq_eq_false_iff_ne.mpr (by omega)
    have I1 := Aside0.mk (fun W (h : Kd.C Kd.string W A0 (l0.take (spl l0.length)).length (l0.take (spl l0.length))) => i1 W (Nat.le_refl _) hDt h hc2)
    have I2 := Aside0.mk (fun W (h : Kd.C Kd.string W A1 (l0.drop (spl l0.length)).length (l0.drop (spl l0.length))) => i2 W (Nat.le_refl _) hDd h hc3)
    have HH := Aside0.mk hcalls
    have HN := Aside0.mk hnode
    clear hcalls i1 i2 hnode hDt hDd hC1 hr0 hd ih hn hc2 hc3 hc0
    generalize rootB (l0.take (spl l0.length)) = r1 at I1 HN ⊢
    generalize rootB (l0.drop (spl l0.length)) = r2 at I2 HN ⊢
    generalize nodeB r1 r2 = r3 at HN ⊢
    generalize l0.take (spl l0.length) = lt at HRt I1 HH hlt
    generalize l0.drop (spl l0.length) = ld at HRd I2 HH hld
    generalize spl l0.length = k at HRt HRd I1 I2 HH hlt hld p1 p2
    clear p1 p2 hlt hld h2
    go_enter Try.func15, Try.ntmps15
    go_wp2_with (first
      | (go_at_call 30; (refine (HH.out _).mono ?_); rintro e w' ⟨rfl, ⟨nd, rfl⟩⟩)
      | (go_at_call 15; with_reducible refine (I1.out _ ?s1).mono ?_; (case s1 => repeat (first | exact HRt.out | (with_reducible refine Kd.C_alloc ?_ _) | (with_reducible refine Kd.C_drewN ?_ _) | (with_reducible refine Kd.C_drew ?_))); rintro e w8 ⟨rfl, hb⟩; have n0_ := Aside0.mk (below_step (by repeat (first | (with_reducible first | exact HB.out | apply below_alloc | apply pw_below_drewN | apply below_drew1) | exact HB.out)) hb); clear HB; have HB := n0_; clear n0_; (try clear hb))
      | (go_at_call 15; with_reducible refine (I2.out _ ?s1).mono ?_; (case s1 => exact Kd.C_below HRd.out HB.out); rintro e w9 ⟨rfl, hb⟩; have n0_ := Aside0.mk (below_step (by repeat (first | (with_reducible first | exact HB.out | apply below_alloc | apply pw_below_drewN | apply below_drew1) | exact HB.out)) hb); clear HB; have HB := n0_; clear n0_; (try clear hb))
      | (go_at_call 32; (with_reducible refine (merkle_node.calls r1 r2 _ _ HN.out).mono ?_); rintro e w10 ⟨rfl, hb⟩; have n0_ := Aside0.mk (below_step (by repeat (first | (with_reducible first | exact HB.out | apply below_alloc | apply pw_below_drewN | apply below_drew1) | exact HB.out)) hb); clear HB; have HB := n0_; clear n0_; (try clear hb)))
    go_ret
    exact ⟨by first | rfl | (simp; done) | (simp [*]; done), by repeat (first | (with_reducible first | exact HB.out | apply below_alloc | apply pw_below_drewN | apply below_drew1) | exact HB.out)⟩
end Go.Proofs.Ytkhkppehdgkboaa.Mk
namespace Go.Proofs.Ytkhkppehdgkboaa.P
open Go.RowKit Go.Proofs.YtkhkppehdgkboaaW.PrintWords
/-- merkle.Root, for the print -/
def merkle_Root.f (l0 : List ByteArray) : Option ByteArray := if l0.length < 129 ∧ (l0.all fun x => decide (x.size ≤ 1000000000)) = true then some (Mk.rootB l0) else none
theorem merkle_dom {l : List ByteArray} (h : l.length < 129 ∧ (l.all fun x => decide (x.size ≤ 1000000000)) = true) : Mk.Dom l := ⟨h.1, fun x hx => of_decide_eq_true (List.all_eq_true.1 h.2 x hx)⟩
theorem merkle_Root.calls (A0 : Option Addr) (c0 : Nat) (l0 : List ByteArray) (r : ByteArray) (w : World) (hr0 : Kd.C Kd.string w A0 l0.length l0) (hc0 : l0.length ≤ c0) (h : merkle_Root.f l0 = some r) :
    Calls Try.prog 15 #[.slice A0 l0.length c0] w fun e w' => e = .returned (.string r) ∧ Below w.heap.size w w' := by
  unfold merkle_Root.f at h
  split at h
  · rename_i hh
    obtain rfl := Option.some.inj h
    exact Mk.root_calls l0.length A0 c0 l0 w (Nat.le_refl _) (merkle_dom hh) hr0 hc0
  · cases h
end Go.Proofs.Ytkhkppehdgkboaa.P
end Root_
section P5_
namespace Go.Proofs.Ytkhkppehdgkboaa.P
open Go.RowKit Go.Proofs.YtkhkppehdgkboaaW.PrintWords Go.Proofs.YtkhkppehdgkboaaW.PrintLast Go.Proofs.YtkhkppehdgkboaaW.PrintMore
attribute [local go_sem] max2_int min2_int max_two min_two max_three min_three max_four min_four   -- for this text's walks alone
set_option linter.unusedVariables false
set_option linter.unusedSimpArgs false
private theorem isEmpty_ne_ (l : List UInt8) : (l != []) = !l.isEmpty := by cases l <;> rfl
def agoraref08_Same.l0 : Nat → List ByteArray → List ByteArray → Int → Option (Bool)
  | 0, _, _, _ => none
  | k + 1, x0, x1, x5 => if x5 < (x0.length : Int) then (if 0 ≤ x5 then (if x5 < (x1.length : Int) then (if (rdOf ByteArray.empty x0 x5).toList = (rdOf ByteArray.empty x1 x5).toList then (agoraref08_Same.l0 k x0 x1 (wrap64 (x5 + 1))) else (some false)) else (none)) else (none)) else (some true)
def agoraref08_Same.f (k : Nat) (l0 : List ByteArray) (l1 : List ByteArray) : Option (Bool) := if (l0.length : Int) = (l1.length : Int) then (agoraref08_Same.l0 k l0 l1 0) else (some false)
set_option maxHeartbeats 8000000 in
set_option maxRecDepth 100000 in
theorem agoraref08_Same.calls (k : Nat) (A0 : Option Addr) (c0 : Nat) (l0 : List ByteArray) (A1 : Option Addr) (c1 : Nat) (l1 : List ByteArray) (r : Bool) (w : World) (hr0 : Kd.C Kd.string w A0 l0.length l0) (hc0 : l0.length ≤ c0) (hr1 : Kd.C Kd.string w A1 l1.length l1) (hc1 : l1.length ≤ c1) (h : agoraref08_Same.f k l0 l1 = some r) :
    Calls Try.prog 17 #[.slice A0 l0.length c0, .slice A1 l1.length c1] w fun e w' => e = .returned (.bool r) ∧ Drawn0 w w' := by
  have HR0 := Aside0.mk hr0
  have HC0 := Aside0.mk hc0
  clear hr0 hc0
  have HR1 := Aside0.mk hr1
  have HC1 := Aside0.mk hc1
  clear hr1 hc1
  have H : (if (l0.length : Int) = (l1.length : Int) then (agoraref08_Same.l0 k l0 l1 0) else (some false)) = some r := h
  clear h
  by_cases c3 : (l0.length : Int) = (l1.length : Int)
  · rw [if_pos c3] at H
    have c3b0 : ((l0.length : Int) == (l1.length : Int)) = true := beq_iff_eq.mpr c3
    have c3b1 : ((l0.length : Int) != (l1.length : Int)) = false := bne_eq_false_iff_eq.mpr c3
    have c3b2 : (l0.length == l1.length) = true := by first | simpa using c3 | (simp at c3 ⊢; omega)
    clear c3
    have H' := Aside0.mk H
    clear H
    go_enter Try.func17, Try.ntmps17
    go_wp2
    repeat (go_quiet (fail); try go_wp2)
    go_loopg [5] k (fun kq v5 w' => ∃ (x5_1 : Int), v5 = .int .i64 x5_1 ∧ Aside0 (agoraref08_Same.l0 kq l0 l1 x5_1 = some r) ∧ Aside0 (kq ≤ k) ∧ Drawn0 w w')
    case atStart => exact ⟨(0), (by first | rfl | (simp; done) | (simp [*]; done) | (simp [isEmpty_ne_]; done)), H', ⟨Nat.le_refl _⟩, by repeat (first | exact Drawn0.refl _ | apply Drawn0.step)⟩
    case round =>
      clear H'
      try clear c1
      try clear p2
      try clear c3
      try clear c3b0
      try clear c3b1
      try clear c3b2
      obtain ⟨x5_1, rfl, HA, HK1, ⟨m1, rfl⟩⟩ := hrel
      cases gk with
      | zero => exact absurd HA.out (by simp [agoraref08_Same.l0])
      | succ k1 =>
        have H := HA.out
        clear HA
        simp only [agoraref08_Same.l0] at H
        by_cases c4 : x5_1 < (l0.length : Int)
        · rw [if_pos c4] at H
          have c4b0 : decide (x5_1 < (l0.length : Int)) = true := decide_eq_true c4
          clear c4
          by_cases c5 : 0 ≤ x5_1
          · rw [if_pos c5] at H
            have c5b0 : decide (0 ≤ x5_1) = true := decide_eq_true c5
            clear c5
            by_cases c6 : x5_1 < (l1.length : Int)
            · rw [if_pos c6] at H
              have c6b0 : decide (x5_1 < (l1.length : Int)) = true := decide_eq_true c6
              clear c6
              by_cases c7 : (rdOf ByteArray.empty l0 x5_1).toList = (rdOf ByteArray.empty l1 x5_1).toList
              · rw [if_pos c7] at H
                have c7b0 : ((rdOf ByteArray.empty l0 x5_1).toList == (rdOf ByteArray.empty l1 x5_1).toList) = true := beq_iff_eq.mpr c7
                have c7b1 : ((rdOf ByteArray.empty l0 x5_1).toList != (rdOf ByteArray.empty l1 x5_1).toList) = false := bne_eq_false_iff_eq.mpr c7
                clear c7
                have H' := Aside0.mk H
                clear H
                have p109 : 0 ≤ (x5_1 : Int) := of_decide_eq_true (by first | (with_reducible assumption) | assumption)
                have q109 : x5_1 < (l0.length : Int) := of_decide_eq_true (by first | (with_reducible assumption) | assumption)
                obtain ⟨ad109, e109, hx109_0⟩ := Kd.at_string HR0.out x5_1 p109 q109
                cases e109
                replace p109 := eq_true p109
                replace q109 := eq_true q109
                have p110 : 0 ≤ (x5_1 : Int) := of_decide_eq_true (by first | (with_reducible assumption) | assumption)
                have q110 : x5_1 < (l1.length : Int) := of_decide_eq_true (by first | (with_reducible assumption) | assumption)
                obtain ⟨ad110, e110, hx110_0⟩ := Kd.at_string HR1.out x5_1 p110 q110
                cases e110
                replace p110 := eq_true p110
                replace q110 := eq_true q110
                go_wp2
                repeat (go_quiet (fail); try go_wp2)
                go_roundg k1
                case measure => have := HK1.out; omega
                case rel => exact ⟨(wrap64 (x5_1 + 1)), (by first | rfl | (simp; done) | (simp [*]; done) | (simp [isEmpty_ne_]; done)), H', ⟨by have := HK1.out; omega⟩, by repeat (first | exact Drawn0.refl _ | apply Drawn0.step)⟩
              · rw [if_neg c7] at H
                have c7b0 : ((rdOf ByteArray.empty l0 x5_1).toList == (rdOf ByteArray.empty l1 x5_1).toList) = false := beq_eq_false_iff_ne.mpr c7
                have c7b1 : ((rdOf ByteArray.empty l0 x5_1).toList != (rdOf ByteArray.empty l1 x5_1).toList) = true := bne_iff_ne.mpr c7
                obtain rfl := Option.some.inj H
                have p109 : 0 ≤ (x5_1 : Int) := of_decide_eq_true (by first | (with_reducible assumption) | assumption)
                have q109 : x5_1 < (l0.length : Int) := of_decide_eq_true (by first | (with_reducible assumption) | assumption)
                obtain ⟨ad109, e109, hx109_0⟩ := Kd.at_string HR0.out x5_1 p109 q109
                cases e109
                replace p109 := eq_true p109
                replace q109 := eq_true q109
                have p110 : 0 ≤ (x5_1 : Int) := of_decide_eq_true (by first | (with_reducible assumption) | assumption)
                have q110 : x5_1 < (l1.length : Int) := of_decide_eq_true (by first | (with_reducible assumption) | assumption)
                obtain ⟨ad110, e110, hx110_0⟩ := Kd.at_string HR1.out x5_1 p110 q110
                cases e110
                replace p110 := eq_true p110
                replace q110 := eq_true q110
                go_wp2
                repeat (go_quiet (fail); try go_wp2)
                go_ret
                exact ⟨by first | rfl | (simp; done) | (simp [*]; done), by repeat (first | exact Drawn0.refl _ | apply Drawn0.step)⟩
            · rw [if_neg c6] at H
              exact absurd H (by simp)
          · rw [if_neg c5] at H
            exact absurd H (by simp)
        · rw [if_neg c4] at H
          have c4b0 : decide (x5_1 < (l0.length : Int)) = false := decide_eq_false c4
          clear c4
          obtain rfl := Option.some.inj H
          go_wp2
          repeat (go_quiet (fail); try go_wp2)
          go_ret
          exact ⟨by first | rfl | (simp; done) | (simp [*]; done), by repeat (first | exact Drawn0.refl _ | apply Drawn0.step)⟩
  · rw [if_neg c3] at H
    have c3b0 : ((l0.length : Int) == (l1.length : Int)) = false := beq_eq_false_iff_ne.mpr c3
    have c3b1 : ((l0.length : Int) != (l1.length : Int)) = true := bne_iff_ne.mpr c3
    have c3b2 : (l0.length == l1.length) = false := by first | simpa using c3 | (simp at c3 ⊢; omega)
    obtain rfl := Option.some.inj H
    go_enter Try.func17, Try.ntmps17
    go_wp2
    repeat (go_quiet (fail); try go_wp2)
    go_ret
    exact ⟨by first | rfl | (simp; done) | (simp [*]; done), by repeat (first | exact Drawn0.refl _ | apply Drawn0.step)⟩
def merkle_digests.l0 : Nat → List ByteArray → Int → Int → Option (Bool)
  | 0, _, _, _ => none
  | k + 1, x5, x6, x7 => if x7 < x6 then (if 0 ≤ x7 then (if x7 < (x5.length : Int) then (if ((rdOf ByteArray.empty x5 x7).size : Int) = 32 then (merkle_digests.l0 k x5 x6 (wrap64 (x7 + 1))) else (some false)) else (none)) else (none)) else (some true)
def merkle_digests.f (k : Nat) (l0 : List ByteArray) : Option (Bool) := merkle_digests.l0 k l0 (l0.length : Int) 0
set_option maxHeartbeats 8000000 in
set_option maxRecDepth 100000 in
theorem merkle_digests.calls (k : Nat) (A0 : Option Addr) (c0 : Nat) (l0 : List ByteArray) (r : Bool) (w : World) (hr0 : Kd.C Kd.string w A0 l0.length l0) (hc0 : l0.length ≤ c0) (h : merkle_digests.f k l0 = some r) :
    Calls Try.prog 36 #[.slice A0 l0.length c0] w fun e w' => e = .returned (.bool r) ∧ Drawn0 w w' := by
  have HR0 := Aside0.mk hr0
  have HC0 := Aside0.mk hc0
  clear hr0 hc0
  have H : (merkle_digests.l0 k l0 (l0.length : Int) 0) = some r := h
  clear h
  have H' := Aside0.mk H
  clear H
  go_enter Try.func36, Try.ntmps36
  go_wp2
  go_loopg [7] k (fun kq v7 w' => ∃ (x7_1 : Int), v7 = .int .i64 x7_1 ∧ Aside0 (merkle_digests.l0 kq l0 (l0.length : Int) x7_1 = some r) ∧ Aside0 (kq ≤ k) ∧ Drawn0 w w')
  case atStart => exact ⟨(0), (by first | rfl | (simp; done) | (simp [*]; done) | (simp [isEmpty_ne_]; done)), H', ⟨Nat.le_refl _⟩, by repeat (first | exact Drawn0.refl _ | apply Drawn0.step)⟩
  case round =>
    clear H'
    obtain ⟨x7_1, rfl, HA, HK1, ⟨m1, rfl⟩⟩ := hrel
    cases gk with
    | zero => exact absurd HA.out (by simp [merkle_digests.l0])
    | succ k1 =>
      have H := HA.out
      clear HA
      simp only [merkle_digests.l0] at H
      by_cases c2 : x7_1 < (l0.length : Int)
      · rw [if_pos c2] at H
        have c2b0 : decide (x7_1 < (l0.length : Int)) = true := decide_eq_true c2
        clear c2
        by_cases c3 : 0 ≤ x7_1
        · rw [if_pos c3] at H
          have c3b0 : decide (0 ≤ x7_1) = true := decide_eq_true c3
          clear c3
          by_cases c4 : x7_1 < (l0.length : Int)
          · rw [if_pos c4] at H
            have c4b0 : decide (x7_1 < (l0.length : Int)) = true := decide_eq_true c4
            clear c4
            by_cases c5 : ((rdOf ByteArray.empty l0 x7_1).size : Int) = 32
            · rw [if_pos c5] at H
              have c5b0 : (((rdOf ByteArray.empty l0 x7_1).size : Int) == 32) = true := beq_iff_eq.mpr c5
              have c5b1 : (((rdOf ByteArray.empty l0 x7_1).size : Int) != 32) = false := bne_eq_false_iff_eq.mpr c5
              clear c5
              have H' := Aside0.mk H
              clear H
              have p111 : 0 ≤ (x7_1 : Int) := of_decide_eq_true (by first | (with_reducible assumption) | assumption)
              have q111 : x7_1 < (l0.length : Int) := of_decide_eq_true (by first | (with_reducible assumption) | assumption)
              obtain ⟨ad111, e111, hx111_0⟩ := Kd.at_string HR0.out x7_1 p111 q111
              cases e111
              replace p111 := eq_true p111
              replace q111 := eq_true q111
              go_wp2
              go_roundg k1
              case measure => have := HK1.out; omega
              case rel => exact ⟨(wrap64 (x7_1 + 1)), (by first | rfl | (simp; done) | (simp [*]; done) | (simp [isEmpty_ne_]; done)), H', ⟨by have := HK1.out; omega⟩, by repeat (first | exact Drawn0.refl _ | apply Drawn0.step)⟩
            · rw [if_neg c5] at H
              have c5b0 : (((rdOf ByteArray.empty l0 x7_1).size : Int) == 32) = false := beq_eq_false_iff_ne.mpr c5
              have c5b1 : (((rdOf ByteArray.empty l0 x7_1).size : Int) != 32) = true := bne_iff_ne.mpr c5
              obtain rfl := Option.some.inj H
              have p111 : 0 ≤ (x7_1 : Int) := of_decide_eq_true (by first | (with_reducible assumption) | assumption)
              have q111 : x7_1 < (l0.length : Int) := of_decide_eq_true (by first | (with_reducible assumption) | assumption)
              obtain ⟨ad111, e111, hx111_0⟩ := Kd.at_string HR0.out x7_1 p111 q111
              cases e111
              replace p111 := eq_true p111
              replace q111 := eq_true q111
              go_wp2
              go_ret
              exact ⟨by first | rfl | (simp; done) | (simp [*]; done), by repeat (first | exact Drawn0.refl _ | apply Drawn0.step)⟩
          · rw [if_neg c4] at H
            exact absurd H (by simp)
        · rw [if_neg c3] at H
          exact absurd H (by simp)
      · rw [if_neg c2] at H
        have c2b0 : decide (x7_1 < (l0.length : Int)) = false := decide_eq_false c2
        clear c2
        obtain rfl := Option.some.inj H
        go_wp2
        go_ret
        exact ⟨by first | rfl | (simp; done) | (simp [*]; done), by repeat (first | exact Drawn0.refl _ | apply Drawn0.step)⟩
def merkle_turns.l0 : Nat → Int → Int → List Bool → Option (List Bool)
  | 0, _, _, _ => none
  | k + 1, x0, x1, x5 => if x1 > 1 then ((merkle_split.f k x1).bind fun t112 => (if x5.length < 140737488355328 then ((some (x5 ++ [decide (x0 < t112)] : List Bool)).bind fun y113 => (if x0 < t112 then (merkle_turns.l0 k x0 t112 y113) else (merkle_turns.l0 k (wrap64 (x0 - t112)) (wrap64 (x1 - t112)) y113))) else (none))) else (some x5)
def merkle_turns.f (k : Nat) (a0 : Int) (a1 : Int) : Option (List Bool) := merkle_turns.l0 k a0 a1 ([] : List Bool)
set_option maxHeartbeats 8000000 in
set_option maxRecDepth 100000 in
theorem merkle_turns.calls (k : Nat) (a0 : Int) (a1 : Int) (r : List Bool) (w : World) (h : merkle_turns.f k a0 a1 = some r) :
    Calls Try.prog 37 #[.int .i64 a0, .int .i64 a1] w fun e w' => ∃ v0_ : Value, e = .returned (v0_) ∧ Kd.R Kd.bool 4 w' w.heap.size (fun _ => True) v0_ r ∧ Below w.heap.size w w' := by
  have HB := Aside0.mk (Below.refl w.heap.size w)
  have H : (merkle_turns.l0 k a0 a1 ([] : List Bool)) = some r := h
  clear h
  have H' := Aside0.mk H
  clear H
  go_enter Try.func37, Try.ntmps37
  go_wp2
  go_loopg [0, 1, 5] k (fun kq v0 v1 v5 w' => ∃ (x0_1 : Int) (x1_1 : Int) (x5_1 : List Bool), v0 = .int .i64 x0_1 ∧ v1 = .int .i64 x1_1 ∧ Aside0 (merkle_turns.l0 kq x0_1 x1_1 x5_1 = some r) ∧ Aside0 (kq ≤ k) ∧ Aside0 (Kd.R Kd.bool 4 w' w.heap.size (fun _ => True) v5 x5_1) ∧ Aside0 (Below w.heap.size w w'))
  case atStart => exact ⟨(a0), (a1), (([] : List Bool)), (by first | rfl | (simp; done) | (simp [*]; done) | (simp [isEmpty_ne_]; done)), (by first | rfl | (simp; done) | (simp [*]; done) | (simp [isEmpty_ne_]; done)), H', ⟨Nat.le_refl _⟩, ⟨by first | exact Kd.R_nil _ _ _ _ _ | exact Kd.N_nil _ _ _ _ _ | exact Kd.V_nil _ _ _ _ _ | exact Kd.Q_nil _ _ _ _ _ | exact Kd.S_nil _ _ _ _ _⟩, ⟨by repeat (first | (with_reducible first | exact HB.out | apply below_alloc | apply pw_below_drewN | apply below_drew1) | exact HB.out)⟩⟩
  case round =>
    clear H'
    try clear p2
    obtain ⟨x0_1, x1_1, x5_1, rfl, rfl, HA, HK1, HO_5, HB⟩ := hrel
    cases gk with
    | zero => exact absurd HA.out (by simp [merkle_turns.l0])
    | succ k1 =>
      have H := HA.out
      clear HA
      simp only [merkle_turns.l0] at H
      by_cases c3 : x1_1 > 1
      · rw [if_pos c3] at H
        have c3b0 : decide (1 < x1_1) = true := decide_eq_true c3
        clear c3
        replace H := Option.bind_eq_some_iff.mp H
        obtain ⟨t112, A40, H⟩ := H
        replace H : (if x5_1.length < 140737488355328 then ((some (x5_1 ++ [decide (x0_1 < t112)] : List Bool)).bind fun y113 => (if x0_1 < t112 then (merkle_turns.l0 k1 x0_1 t112 y113) else (merkle_turns.l0 k1 (wrap64 (x0_1 - t112)) (wrap64 (x1_1 - t112)) y113))) else (none)) = some r := H
        have A4 := Aside0.mk A40
        clear A40
        by_cases c5 : x5_1.length < 140737488355328
        · rw [if_pos c5] at H
          have LMc5 := Aside0.mk c5
          clear c5
          obtain ⟨y113, hy113⟩ : ∃ y_ : List Bool, y_ = (x5_1 ++ [decide (x0_1 < t112)]) := ⟨_, rfl⟩
          replace H : (if x0_1 < t112 then (merkle_turns.l0 k1 x0_1 t112 y113) else (merkle_turns.l0 k1 (wrap64 (x0_1 - t112)) (wrap64 (x1_1 - t112)) y113)) = some r := by first | (rw [hy113]; with_reducible exact H) | (have H2_ := (Option.bind_some _ _).symm.trans H; rw [hy113]; with_reducible exact H2_) | (have H2_ := (Option.bind_some _ _).symm.trans H; with_reducible exact H2_) | with_reducible exact H | (rw [hy113]; exact H) | exact H
          have Ny113 := Aside0.mk hy113
          clear hy113
          by_cases c6 : x0_1 < t112
          · rw [if_pos c6] at H
            have c6b0 : decide (x0_1 < t112) = true := decide_eq_true c6
            clear c6
            have H' := Aside0.mk H
            clear H
            replace Ny113 : Aside0 (y113 = (x5_1 ++ [true] : List Bool)) := ⟨Eq.trans Ny113.out (by first | rfl | rw [c6b0])⟩
            go_wp2_with (first | ((with_reducible refine gate_callee (f := 38) rfl ?_); refine goesL_ (some 11) rfl rfl Try.func38 (by kernel_rfl) rfl #[.int .i64 x1_1] rfl (by (try simp only [List.map_toArray, List.map_cons, List.map_nil]); first | done | rfl | (simp only [List.length_drop, List.length_take]; rfl)) ?_; (with_reducible refine (merkle_split.calls k1 x1_1 t112 _ A4.out).mono ?_); rintro e w' ⟨rfl, ⟨nd, rfl⟩⟩; refine ⟨_, rfl, ?_⟩) | ((with_reducible refine gate_builtin (b := .append) (xs := #[.tmp 15, .tmp 17]) rfl ?_); at_builtin; refine Kd.R_append Kd.bool (w0 := w) w.heap.size rfl (.tmp 15) (.tmp 17) 52 4 (.bool false) 1 rfl Try.underlying52 info4 rfl (by decide) (by omega) u5 x5_1 true [.bool true] (fun _ => True) (fun _ => False) rfl rfl ?aP (fun _ hk => hk.elim) ?aF ?aO ?aB ?aS ?aL ?_; (case aP => exact rfl); (case aB => exact (by repeat (first | (with_reducible first | exact HB.out | apply below_alloc | apply pw_below_drewN | apply below_drew1) | exact HB.out))); (case aF => exact (fun _ _ => trivial)); (case aO => exact (by (with_reducible repeat (first | apply Kd.R_alloc | apply Kd.R_drewN | apply Kd.R_drew)); exact HO_5.out)); (case aS => exact (below_size (by repeat (first | (with_reducible first | exact HB.out | apply below_alloc | apply pw_below_drewN | apply below_drew1) | exact HB.out)))); (case aL => have := LMc5.out; omega); intro v114 w7 ho hb hg hat; rw [← Ny113.out] at ho; have n0_ := Aside0.mk (hb); have n1_ := Aside0.mk (ho); clear HB; clear HO_5; have HB := n0_; have HO115 := n1_; clear n0_ n1_; clear ho hb hg hat))
            go_roundg k1
            case measure => have := HK1.out; omega
            case rel => exact ⟨(x0_1), (t112), (y113), (by first | rfl | (simp; done) | (simp [*]; done) | (simp [isEmpty_ne_]; done)), (by first | rfl | (simp; done) | (simp [*]; done) | (simp [isEmpty_ne_]; done)), H', ⟨by have := HK1.out; omega⟩, ⟨by (with_reducible repeat (first | apply Kd.R_alloc | apply Kd.R_drewN | apply Kd.R_drew)); exact HO115.out⟩, ⟨by repeat (first | (with_reducible first | exact HB.out | apply below_alloc | apply pw_below_drewN | apply below_drew1) | exact HB.out)⟩⟩
          · rw [if_neg c6] at H
            have c6b0 : decide (x0_1 < t112) = false := decide_eq_false c6
            clear c6
            have H' := Aside0.mk H
            clear H
            replace Ny113 : Aside0 (y113 = (x5_1 ++ [false] : List Bool)) := ⟨Eq.trans Ny113.out (by first | rfl | rw [c6b0])⟩
            go_wp2_with (first | ((with_reducible refine gate_callee (f := 38) rfl ?_); refine goesL_ (some 11) rfl rfl Try.func38 (by kernel_rfl) rfl #[.int .i64 x1_1] rfl (by (try simp only [List.map_toArray, List.map_cons, List.map_nil]); first | done | rfl | (simp only [List.length_drop, List.length_take]; rfl)) ?_; (with_reducible refine (merkle_split.calls k1 x1_1 t112 _ A4.out).mono ?_); rintro e w' ⟨rfl, ⟨nd, rfl⟩⟩; refine ⟨_, rfl, ?_⟩) | ((with_reducible refine gate_builtin (b := .append) (xs := #[.tmp 15, .tmp 17]) rfl ?_); at_builtin; refine Kd.R_append Kd.bool (w0 := w) w.heap.size rfl (.tmp 15) (.tmp 17) 52 4 (.bool false) 1 rfl Try.underlying52 info4 rfl (by decide) (by omega) u5 x5_1 false [.bool false] (fun _ => True) (fun _ => False) rfl rfl ?aP (fun _ hk => hk.elim) ?aF ?aO ?aB ?aS ?aL ?_; (case aP => exact rfl); (case aB => exact (by repeat (first | (with_reducible first | exact HB.out | apply below_alloc | apply pw_below_drewN | apply below_drew1) | exact HB.out))); (case aF => exact (fun _ _ => trivial)); (case aO => exact (by (with_reducible repeat (first | apply Kd.R_alloc | apply Kd.R_drewN | apply Kd.R_drew)); exact HO_5.out)); (case aS => exact (below_size (by repeat (first | (with_reducible first | exact HB.out | apply below_alloc | apply pw_below_drewN | apply below_drew1) | exact HB.out)))); (case aL => have := LMc5.out; omega); intro v114 w8 ho hb hg hat; rw [← Ny113.out] at ho; have n0_ := Aside0.mk (hb); have n1_ := Aside0.mk (ho); clear HB; clear HO_5; have HB := n0_; have HO115 := n1_; clear n0_ n1_; clear ho hb hg hat))
            go_roundg k1
            case measure => have := HK1.out; omega
            case rel => exact ⟨(wrap64 (x0_1 - t112)), (wrap64 (x1_1 - t112)), (y113), (by first | rfl | (simp; done) | (simp [*]; done) | (simp [isEmpty_ne_]; done)), (by first | rfl | (simp; done) | (simp [*]; done) | (simp [isEmpty_ne_]; done)), H', ⟨by have := HK1.out; omega⟩, ⟨by (with_reducible repeat (first | apply Kd.R_alloc | apply Kd.R_drewN | apply Kd.R_drew)); exact HO115.out⟩, ⟨by repeat (first | (with_reducible first | exact HB.out | apply below_alloc | apply pw_below_drewN | apply below_drew1) | exact HB.out)⟩⟩
        · rw [if_neg c5] at H
          exact absurd H (by simp)
      · rw [if_neg c3] at H
        have c3b0 : decide (1 < x1_1) = false := decide_eq_false c3
        clear c3
        obtain rfl := Option.some.inj H
        go_wp2
        go_ret
        exact ⟨_, by first | rfl | (simp [errW_none, errW_some] <;> rfl) | (simp [*, errW_none, errW_some] <;> rfl), by (with_reducible repeat (first | apply Kd.R_alloc | apply Kd.R_drewN | apply Kd.R_drew)); exact HO_5.out, by repeat (first | (with_reducible first | exact HB.out | apply below_alloc | apply pw_below_drewN | apply below_drew1) | exact HB.out)⟩
mutual
def merkle_Includes.j0 : Nat → ByteArray → Int → Int → ByteArray → List ByteArray → Bool → Option (Bool)
  | 0, _, _, _, _, _, _ => none
  | k + 1, x0, x1, x2, x3, x4, x31 => if x31 = true then (some false) else ((merkle_turns.f k x1 x2).bind fun t121 => (if (t121.length : Int) = (x4.length : Int) then (merkle_Includes.l0 k x0 x3 t121 x4 (x4.length : Int) 0) else (some false)))
def merkle_Includes.l0 : Nat → ByteArray → ByteArray → List Bool → List ByteArray → Int → Int → Option (Bool)
  | 0, _, _, _, _, _, _ => none
  | k + 1, x0, x3, x11, x40, x41, x42 => if x42 < x41 then (if 0 ≤ x42 then (if x42 < (x40.length : Int) then (if 0 ≤ (wrap64 ((wrap64 ((x11.length : Int) - 1)) - x42)) then (if (wrap64 ((wrap64 ((x11.length : Int) - 1)) - x42)) < (x11.length : Int) then (if rdOf false x11 (wrap64 ((wrap64 ((x11.length : Int) - 1)) - x42)) = true then ((merkle_node.f x0 (rdOf ByteArray.empty x40 x42)).bind fun t126 => (merkle_Includes.l0 k t126 x3 x11 x40 x41 (wrap64 (x42 + 1)))) else ((merkle_node.f (rdOf ByteArray.empty x40 x42) x0).bind fun t127 => (merkle_Includes.l0 k t127 x3 x11 x40 x41 (wrap64 (x42 + 1))))) else (none)) else (none)) else (none)) else (none)) else (some (x0.toList == x3.toList))
end
def merkle_Includes.f (k : Nat) (a0 : ByteArray) (a1 : Int) (a2 : Int) (a3 : ByteArray) (l4 : List ByteArray) : Option (Bool) := if a1 < 0 then (merkle_Includes.j0 k a0 a1 a2 a3 l4 true) else (if a1 ≥ a2 then (merkle_Includes.j0 k a0 a1 a2 a3 l4 true) else ((merkle_digests.f k (([a0] : List ByteArray))).bind fun t119 => (if t119 = true then ((merkle_digests.f k l4).bind fun t120 => (merkle_Includes.j0 k a0 a1 a2 a3 l4 (!t120))) else (merkle_Includes.j0 k a0 a1 a2 a3 l4 true))))
set_option maxHeartbeats 8000000 in
set_option maxRecDepth 100000 in
theorem merkle_Includes.calls (k : Nat) (a0 : ByteArray) (a1 : Int) (a2 : Int) (a3 : ByteArray) (A4 : Option Addr) (c4 : Nat) (l4 : List ByteArray) (r : Bool) (w : World) (hr4 : Kd.C Kd.string w A4 l4.length l4) (hc4 : l4.length ≤ c4) (h : merkle_Includes.f k a0 a1 a2 a3 l4 = some r) :
    Calls Try.prog 21 #[.string a0, .int .i64 a1, .int .i64 a2, .string a3, .slice A4 l4.length c4] w fun e w' => e = .returned (.bool r) ∧ Below w.heap.size w w' := by
  have HR4 := Aside0.mk hr4
  have HC4 := Aside0.mk hc4
  clear hr4 hc4
  have HB := Aside0.mk (Below.refl w.heap.size w)
  have H : (if a1 < 0 then (merkle_Includes.j0 k a0 a1 a2 a3 l4 true) else (if a1 ≥ a2 then (merkle_Includes.j0 k a0 a1 a2 a3 l4 true) else ((merkle_digests.f k (([a0] : List ByteArray))).bind fun t119 => (if t119 = true then ((merkle_digests.f k l4).bind fun t120 => (merkle_Includes.j0 k a0 a1 a2 a3 l4 (!t120))) else (merkle_Includes.j0 k a0 a1 a2 a3 l4 true))))) = some r := h
  clear h
  have HC6 := Aside0.mk H
  clear H
  go_enter Try.func21, Try.ntmps21
  go_upto_region 1 with (fail)
  go_cut [31] (fun v31 wc => ∃ (kq : Nat) (x31_5 : Bool), v31 = .bool x31_5 ∧ Aside0 (merkle_Includes.j0 kq a0 a1 a2 a3 l4 x31_5 = some r) ∧ Aside0 (kq ≤ k) ∧ Aside0 (Below w.heap.size w wc))
  case first =>
    have H := HC6.out
    clear HC6
    by_cases c7 : a1 < 0
    · rw [if_pos c7] at H
      have c7b0 : decide (a1 < 0) = true := decide_eq_true c7
      clear c7
      (first | rw [c7b0] | (simp only [i64_w, i32_w]; rw [c7b0]) | skip)
      have H' := Aside0.mk H
      clear H
      go_wp2
      go_meet
      case rel => exact ⟨_, (true), (by first | rfl | (simp; done) | (simp [*]; done) | (simp [isEmpty_ne_]; done)), H', ⟨by first | omega | exact Nat.le_refl _⟩, ⟨by repeat (first | (with_reducible first | exact HB.out | apply below_alloc | apply pw_below_drewN | apply below_drew1) | exact HB.out)⟩⟩
    · rw [if_neg c7] at H
      have c7b0 : decide (a1 < 0) = false := decide_eq_false c7
      clear c7
      (first | rw [c7b0] | (simp only [i64_w, i32_w]; rw [c7b0]) | skip)
      by_cases c8 : a1 ≥ a2
      · rw [if_pos c8] at H
        have c8b0 : decide (a2 ≤ a1) = true := decide_eq_true c8
        clear c8
        have H' := Aside0.mk H
        clear H
        go_wp2
        go_meet
        case rel => exact ⟨_, (true), (by first | rfl | (simp; done) | (simp [*]; done) | (simp [isEmpty_ne_]; done)), H', ⟨by first | omega | exact Nat.le_refl _⟩, ⟨by repeat (first | (with_reducible first | exact HB.out | apply below_alloc | apply pw_below_drewN | apply below_drew1) | exact HB.out)⟩⟩
      · rw [if_neg c8] at H
        have c8b0 : decide (a2 ≤ a1) = false := decide_eq_false c8
        clear c8
        obtain ⟨y116, hy116⟩ : ∃ y_ : List ByteArray, y_ = (([a0] : List ByteArray)) := ⟨_, rfl⟩
        replace H : ((merkle_digests.f k y116).bind fun t119 => (if t119 = true then ((merkle_digests.f k l4).bind fun t120 => (merkle_Includes.j0 k a0 a1 a2 a3 l4 (!t120))) else (merkle_Includes.j0 k a0 a1 a2 a3 l4 true))) = some r := by first | (rw [hy116]; with_reducible exact H) | (have H2_ := (Option.bind_some _ _).symm.trans H; rw [hy116]; with_reducible exact H2_) | (have H2_ := (Option.bind_some _ _).symm.trans H; with_reducible exact H2_) | with_reducible exact H | (rw [hy116]; exact H) | exact H
        have Ny116 := Aside0.mk hy116
        clear hy116
        replace H := Option.bind_eq_some_iff.mp H
        obtain ⟨t119, A90, H⟩ := H
        replace H : (if t119 = true then ((merkle_digests.f k l4).bind fun t120 => (merkle_Includes.j0 k a0 a1 a2 a3 l4 (!t120))) else (merkle_Includes.j0 k a0 a1 a2 a3 l4 true)) = some r := H
        have A9 := Aside0.mk A90
        clear A90
        by_cases c10 : t119 = true
        · subst c10
          have H1 : ((merkle_digests.f k l4).bind fun t120 => (merkle_Includes.j0 k a0 a1 a2 a3 l4 (!t120))) = some r := by rw [if_pos rfl] at H; exact H
          clear H
          have H := H1
          clear H1
          replace H := Option.bind_eq_some_iff.mp H
          obtain ⟨t120, A110, H⟩ := H
          replace H : (merkle_Includes.j0 k a0 a1 a2 a3 l4 (!t120)) = some r := H
          have A11 := Aside0.mk A110
          clear A110
          have H' := Aside0.mk H
          clear H
          go_wp2_with (first | ((with_reducible refine gate_dst (N := 23) rfl ?_); (try (refine gate_guard (by rfl) ?_; dsimp only)); refine Kd.R_lit Kd.string _ 9 ?hg (N := 23) ?hd (xs := ([a0] : List ByteArray)) (inner := [.string a0]) (ok := fun _ => True) (okp := fun _ => True) ?hr ?hp (fun _ hk => hk) trivial (Below.refl _ _) (Nat.le_refl _) (by simp) ?_; (case hd => rfl); (case hg => rfl); (case hr => first | (go_simp; done) | (go_simp; rfl) | (go_simp; simp only [IntKind.wrap_u32', Int.emod_add_emod, Int.add_emod_emod])); (case hp => exact (Reps.one (show Kd.M Kd.string _ _ _ a0 [.string a0] from rfl) (Reps.none _ _))); intro v117 w12 ho13 hb hg_ hnew_; clear hg_ hnew_; (first | rw [← Ny116.out] at ho13 | (simp only [Int.reduceToNat] at ho13; rw [← Ny116.out] at ho13)); have n0_ := Aside0.mk (Kd.R_lower ho13 (below_size (by repeat (first | (with_reducible first | exact HB.out | apply below_alloc | apply pw_below_drewN | apply below_drew1) | exact HB.out)))); have n1_ := Aside0.mk (below_step (by repeat (first | (with_reducible first | exact HB.out | apply below_alloc | apply pw_below_drewN | apply below_drew1) | exact HB.out)) hb); clear HB; have HO118 := n0_; have HB := n1_; clear n0_ n1_; clear hb ho13; obtain ⟨Ao14, co14, eo14⟩ := Kd.R_slice HO118.out; subst eo14) | (go_at_call 36; (with_reducible refine (merkle_digests.calls k _ _ y116 true _ ?side1 ?side2 A9.out).mono ?_); (case side1 => repeat (first | exact (Kd.R_reads' HO118.out).2.2 | (with_reducible refine Kd.C_alloc ?_ _) | (with_reducible refine Kd.C_drewN ?_ _) | (with_reducible refine Kd.C_drew ?_))); (case side2 => exact (Kd.R_reads' HO118.out).2.1); rintro e w' ⟨rfl, ⟨nd, rfl⟩⟩) | (go_at_call 36; (with_reducible refine (merkle_digests.calls k _ _ l4 t120 _ ?side1 ?side2 A11.out).mono ?_); (case side1 => repeat (first | exact (Kd.C_below HR4.out (by repeat (first | (with_reducible first | exact HB.out | apply below_alloc | apply pw_below_drewN | apply below_drew1) | exact HB.out))) | (with_reducible refine Kd.C_alloc ?_ _) | (with_reducible refine Kd.C_drewN ?_ _) | (with_reducible refine Kd.C_drew ?_))); (case side2 => exact HC4.out); rintro e w' ⟨rfl, ⟨nd, rfl⟩⟩))
          go_meet
          case rel => exact ⟨_, (!t120), (by first | rfl | (simp; done) | (simp [*]; done) | (simp [isEmpty_ne_]; done)), H', ⟨by first | omega | exact Nat.le_refl _⟩, ⟨by repeat (first | (with_reducible first | exact HB.out | apply below_alloc | apply pw_below_drewN | apply below_drew1) | exact HB.out)⟩⟩
        · replace c10 := Bool.eq_false_iff.mpr c10
          subst c10
          have H1 : (merkle_Includes.j0 k a0 a1 a2 a3 l4 true) = some r := by rw [if_neg (show ¬ (false = true) by decide)] at H; exact H
          clear H
          have H := H1
          clear H1
          have H' := Aside0.mk H
          clear H
          go_wp2_with (first | ((with_reducible refine gate_dst (N := 23) rfl ?_); (try (refine gate_guard (by rfl) ?_; dsimp only)); refine Kd.R_lit Kd.string _ 9 ?hg (N := 23) ?hd (xs := ([a0] : List ByteArray)) (inner := [.string a0]) (ok := fun _ => True) (okp := fun _ => True) ?hr ?hp (fun _ hk => hk) trivial (Below.refl _ _) (Nat.le_refl _) (by simp) ?_; (case hd => rfl); (case hg => rfl); (case hr => first | (go_simp; done) | (go_simp; rfl) | (go_simp; simp only [IntKind.wrap_u32', Int.emod_add_emod, Int.add_emod_emod])); (case hp => exact (Reps.one (show Kd.M Kd.string _ _ _ a0 [.string a0] from rfl) (Reps.none _ _))); intro v117 w15 ho16 hb hg_ hnew_; clear hg_ hnew_; (first | rw [← Ny116.out] at ho16 | (simp only [Int.reduceToNat] at ho16; rw [← Ny116.out] at ho16)); have n0_ := Aside0.mk (Kd.R_lower ho16 (below_size (by repeat (first | (with_reducible first | exact HB.out | apply below_alloc | apply pw_below_drewN | apply below_drew1) | exact HB.out)))); have n1_ := Aside0.mk (below_step (by repeat (first | (with_reducible first | exact HB.out | apply below_alloc | apply pw_below_drewN | apply below_drew1) | exact HB.out)) hb); clear HB; have HO118 := n0_; have HB := n1_; clear n0_ n1_; clear hb ho16; obtain ⟨Ao17, co17, eo17⟩ := Kd.R_slice HO118.out; subst eo17) | (go_at_call 36; (with_reducible refine (merkle_digests.calls k _ _ y116 false _ ?side1 ?side2 A9.out).mono ?_); (case side1 => repeat (first | exact (Kd.R_reads' HO118.out).2.2 | (with_reducible refine Kd.C_alloc ?_ _) | (with_reducible refine Kd.C_drewN ?_ _) | (with_reducible refine Kd.C_drew ?_))); (case side2 => exact (Kd.R_reads' HO118.out).2.1); rintro e w' ⟨rfl, ⟨nd, rfl⟩⟩))
          go_meet
          case rel => exact ⟨_, (true), (by first | rfl | (simp; done) | (simp [*]; done) | (simp [isEmpty_ne_]; done)), H', ⟨by first | omega | exact Nat.le_refl _⟩, ⟨by repeat (first | (with_reducible first | exact HB.out | apply below_alloc | apply pw_below_drewN | apply below_drew1) | exact HB.out)⟩⟩
  case rest =>
    clear HC6
    try clear c1
    try clear c2
    try clear p2
    try clear c4
    try clear c7
    try clear c7b0
    try clear c8
    try clear c8b0
    try clear c10
    obtain ⟨kq, x31_5, rfl, HA, HJ5, HB⟩ := hcut
    cases kq with
    | zero => exact absurd HA.out (by simp [merkle_Includes.j0])
    | succ kj5 =>
      have H := HA.out
      clear HA
      simp only [merkle_Includes.j0] at H
      by_cases c18 : x31_5 = true
      · subst c18
        have H1 : (some false) = some r := by rw [if_pos rfl] at H; exact H
        clear H
        have H := H1
        clear H1
        obtain rfl := Option.some.inj H
        go_wp2
        go_ret
        exact ⟨by first | rfl | (simp [errW_none, errW_some] <;> rfl) | (simp [*, errW_none, errW_some] <;> rfl), by repeat (first | (with_reducible first | exact HB.out | apply below_alloc | apply pw_below_drewN | apply below_drew1) | exact HB.out)⟩
      · replace c18 := Bool.eq_false_iff.mpr c18
        subst c18
        have H1 : ((merkle_turns.f kj5 a1 a2).bind fun t121 => (if (t121.length : Int) = (l4.length : Int) then (merkle_Includes.l0 kj5 a0 a3 t121 l4 (l4.length : Int) 0) else (some false))) = some r := by rw [if_neg (show ¬ (false = true) by decide)] at H; exact H
        clear H
        have H := H1
        clear H1
        replace H := Option.bind_eq_some_iff.mp H
        obtain ⟨t121, A190, H⟩ := H
        replace H : (if (t121.length : Int) = (l4.length : Int) then (merkle_Includes.l0 kj5 a0 a3 t121 l4 (l4.length : Int) 0) else (some false)) = some r := H
        have A19 := Aside0.mk A190
        clear A190
        by_cases c20 : (t121.length : Int) = (l4.length : Int)
        · rw [if_pos c20] at H
          have c20b0 : ((t121.length : Int) == (l4.length : Int)) = true := beq_iff_eq.mpr c20
          have c20b1 : ((t121.length : Int) != (l4.length : Int)) = false := bne_eq_false_iff_eq.mpr c20
          have c20b2 : (t121.length == l4.length) = true := by first | simpa using c20 | (simp at c20 ⊢; omega)
          clear c20
          have H' := Aside0.mk H
          clear H
          go_wp2_with (first | ((with_reducible refine gate_callee (f := 37) rfl ?_); refine goesL_ (some 34) rfl rfl Try.func37 (by kernel_rfl) rfl #[.int .i64 a1, .int .i64 a2] rfl (by (try simp only [List.map_toArray, List.map_cons, List.map_nil]); first | done | rfl | (simp only [List.length_drop, List.length_take]; rfl)) ?_; (with_reducible refine (merkle_turns.calls kj5 a1 a2 t121 _ A19.out).mono ?_); rintro e w21 ⟨v122, rfl, ho0, hb⟩; refine ⟨_, rfl, ?_⟩; have n0_ := Aside0.mk (Kd.R_lower ho0 (below_size (by repeat (first | (with_reducible first | exact HB.out | apply below_alloc | apply pw_below_drewN | apply below_drew1) | exact HB.out)))); have n1_ := Aside0.mk (below_step (by repeat (first | (with_reducible first | exact HB.out | apply below_alloc | apply pw_below_drewN | apply below_drew1) | exact HB.out)) hb); clear HB; have HO123 := n0_; have HB := n1_; clear n0_ n1_; (try clear hb); (try clear hb2); (try clear hk); (try clear hi); (try clear ho0); obtain ⟨Ao22, co22, eo22⟩ := Kd.R_slice HO123.out; subst eo22))
          go_loopg [0, 42] kj5 (fun kq v0 v42 w' => ∃ (x0_2 : ByteArray) (x42_2 : Int), v0 = .string x0_2 ∧ v42 = .int .i64 x42_2 ∧ Aside0 (merkle_Includes.l0 kq x0_2 a3 t121 l4 (l4.length : Int) x42_2 = some r) ∧ Aside0 (kq ≤ kj5) ∧ Aside0 (Kd.R Kd.bool 4 w' w.heap.size (fun _ => True) (.slice Ao22 t121.length co22) t121) ∧ Aside0 (Below w.heap.size w w'))
          case atStart => exact ⟨(a0), (0), (by first | rfl | (simp; done) | (simp [*]; done) | (simp [isEmpty_ne_]; done)), (by first | rfl | (simp; done) | (simp [*]; done) | (simp [isEmpty_ne_]; done)), H', ⟨Nat.le_refl _⟩, ⟨by (with_reducible repeat (first | apply Kd.R_alloc | apply Kd.R_drewN | apply Kd.R_drew)); exact HO123.out⟩, ⟨by repeat (first | (with_reducible first | exact HB.out | apply below_alloc | apply pw_below_drewN | apply below_drew1) | exact HB.out)⟩⟩
          case round =>
            clear H'
            try clear c1
            try clear c2
            try clear p2
            try clear c3
            try clear c4
            try clear c7
            try clear c7b0
            try clear c8
            try clear c8b0
            try clear c10
            try clear c18
            try clear c20
            try clear c20b0
            try clear c20b1
            try clear c20b2
            try clear c21
            try clear p2
            obtain ⟨x0_2, x42_2, rfl, rfl, HA, HK2, HO_11, HB⟩ := hrel
            cases gk with
            | zero => exact absurd HA.out (by simp [merkle_Includes.l0])
            | succ k2 =>
              have H := HA.out
              clear HA
              simp only [merkle_Includes.l0] at H
              by_cases c23 : x42_2 < (l4.length : Int)
              · rw [if_pos c23] at H
                have c23b0 : decide (x42_2 < (l4.length : Int)) = true := decide_eq_true c23
                clear c23
                by_cases c24 : 0 ≤ x42_2
                · rw [if_pos c24] at H
                  have c24b0 : decide (0 ≤ x42_2) = true := decide_eq_true c24
                  clear c24
                  by_cases c25 : x42_2 < (l4.length : Int)
                  · rw [if_pos c25] at H
                    have c25b0 : decide (x42_2 < (l4.length : Int)) = true := decide_eq_true c25
                    clear c25
                    obtain ⟨ji26, hji26⟩ : ∃ j_ : Int, (wrap64 ((wrap64 ((t121.length : Int) - 1)) - x42_2)) = j_ := ⟨_, rfl⟩
                    replace H : (if 0 ≤ (ji26) then (if (ji26) < (t121.length : Int) then (if rdOf false t121 (ji26) = true then ((merkle_node.f x0_2 (rdOf ByteArray.empty l4 x42_2)).bind fun t126 => (merkle_Includes.l0 k2 t126 a3 t121 l4 (l4.length : Int) (wrap64 (x42_2 + 1)))) else ((merkle_node.f (rdOf ByteArray.empty l4 x42_2) x0_2).bind fun t127 => (merkle_Includes.l0 k2 t127 a3 t121 l4 (l4.length : Int) (wrap64 (x42_2 + 1))))) else (none)) else (none)) = some r := by first | (rw [hji26] at H; exact H) | (simp only [hji26] at H ⊢; exact H)
                    have hji26w : (IntKind.i64.wrap ((wrap64 ((t121.length : Int) - 1)) - x42_2)) = ji26 := (i64_w _).trans hji26
                    by_cases c27 : 0 ≤ (ji26)
                    · rw [if_pos c27] at H
                      have c27b0 : decide (0 ≤ (ji26)) = true := decide_eq_true c27
                      clear c27
                      by_cases c28 : (ji26) < (t121.length : Int)
                      · rw [if_pos c28] at H
                        have c28b0 : decide ((ji26) < (t121.length : Int)) = true := decide_eq_true c28
                        clear c28
                        obtain ⟨bq29, hbq29⟩ : ∃ b_ : Bool, b_ = (rdOf false t121 (ji26)) := ⟨_, rfl⟩
                        replace H : (if bq29 = true then ((merkle_node.f x0_2 (rdOf ByteArray.empty l4 x42_2)).bind fun t126 => (merkle_Includes.l0 k2 t126 a3 t121 l4 (l4.length : Int) (wrap64 (x42_2 + 1)))) else ((merkle_node.f (rdOf ByteArray.empty l4 x42_2) x0_2).bind fun t127 => (merkle_Includes.l0 k2 t127 a3 t121 l4 (l4.length : Int) (wrap64 (x42_2 + 1))))) = some r := by rw [← hbq29] at H; exact H
                        have Nbq29 := Aside0.mk hbq29
                        clear hbq29
                        by_cases c30 : bq29 = true
                        · subst c30
                          have H1 : ((merkle_node.f x0_2 (rdOf ByteArray.empty l4 x42_2)).bind fun t126 => (merkle_Includes.l0 k2 t126 a3 t121 l4 (l4.length : Int) (wrap64 (x42_2 + 1)))) = some r := by rw [if_pos rfl] at H; exact H
                          clear H
                          have H := H1
                          clear H1
                          replace H := Option.bind_eq_some_iff.mp H
                          obtain ⟨t126, A310, H⟩ := H
                          replace H : (merkle_Includes.l0 k2 t126 a3 t121 l4 (l4.length : Int) (wrap64 (x42_2 + 1))) = some r := H
                          have A31 := Aside0.mk A310
                          clear A310
                          have H' := Aside0.mk H
                          clear H
                          have p124 : 0 ≤ (x42_2 : Int) := of_decide_eq_true (by first | (with_reducible assumption) | assumption)
                          have q124 : x42_2 < (l4.length : Int) := of_decide_eq_true (by first | (with_reducible assumption) | assumption)
                          obtain ⟨ad124, e124, hx124_0⟩ := Kd.at_string HR4.out x42_2 p124 q124
                          cases e124
                          replace hx124_0 := (HB.out.cell (World.block_lt_of_cell? w _ hx124_0)).trans hx124_0
                          replace p124 := eq_true p124
                          replace q124 := eq_true q124
                          have p125 : 0 ≤ ((ji26) : Int) := of_decide_eq_true (by first | (with_reducible assumption) | assumption)
                          have q125 : (ji26) < (t121.length : Int) := of_decide_eq_true (by first | (with_reducible assumption) | assumption)
                          obtain ⟨ad125, e125, hx125_0⟩ := Kd.at_bool (Kd.R_reads' HO_11.out).2.2 (ji26) p125 q125
                          (try rw [← Nbq29.out] at hx125_0)
                          cases e125
                          replace p125 := eq_true p125
                          replace q125 := eq_true q125
                          go_wp2_with (first | ((with_reducible refine gate_callee (f := 32) rfl ?_); refine goesL_ (some 57) rfl rfl Try.func32 (by kernel_rfl) rfl #[.string x0_2, .string (rdOf ByteArray.empty l4 x42_2)] rfl (by (try simp only [List.map_toArray, List.map_cons, List.map_nil]); first | done | rfl | (simp only [List.length_drop, List.length_take]; rfl)) ?_; (with_reducible refine (merkle_node.calls x0_2 (rdOf ByteArray.empty l4 x42_2) t126 _ A31.out).mono ?_); rintro e w32 ⟨rfl, hb⟩; refine ⟨_, rfl, ?_⟩; have n0_ := Aside0.mk (Kd.R_below (by (with_reducible repeat (first | apply Kd.R_alloc | apply Kd.R_drewN | apply Kd.R_drew)); exact HO_11.out) hb); have n1_ := Aside0.mk (below_step (by repeat (first | (with_reducible first | exact HB.out | apply below_alloc | apply pw_below_drewN | apply below_drew1) | exact HB.out)) hb); clear HO_11; clear HB; have HO_11 := n0_; have HB := n1_; clear n0_ n1_; (try clear hb); (try clear hb2); (try clear hk); (try clear hi)))
                          go_roundg k2
                          case measure => have := HJ5.out; have := HK2.out; omega
                          case rel => exact ⟨(t126), (wrap64 (x42_2 + 1)), (by first | rfl | (simp; done) | (simp [*]; done) | (simp [isEmpty_ne_]; done)), (by first | rfl | (simp; done) | (simp [*]; done) | (simp [isEmpty_ne_]; done)), H', ⟨by have := HJ5.out; have := HK2.out; omega⟩, ⟨by (with_reducible repeat (first | apply Kd.R_alloc | apply Kd.R_drewN | apply Kd.R_drew)); exact HO_11.out⟩, ⟨by repeat (first | (with_reducible first | exact HB.out | apply below_alloc | apply pw_below_drewN | apply below_drew1) | exact HB.out)⟩⟩
                        · replace c30 := Bool.eq_false_iff.mpr c30
                          subst c30
                          have H1 : ((merkle_node.f (rdOf ByteArray.empty l4 x42_2) x0_2).bind fun t127 => (merkle_Includes.l0 k2 t127 a3 t121 l4 (l4.length : Int) (wrap64 (x42_2 + 1)))) = some r := by rw [if_neg (show ¬ (false = true) by decide)] at H; exact H
                          clear H
                          have H := H1
                          clear H1
                          replace H := Option.bind_eq_some_iff.mp H
                          obtain ⟨t127, A330, H⟩ := H
                          replace H : (merkle_Includes.l0 k2 t127 a3 t121 l4 (l4.length : Int) (wrap64 (x42_2 + 1))) = some r := H
                          have A33 := Aside0.mk A330
                          clear A330
                          have H' := Aside0.mk H
                          clear H
                          have p124 : 0 ≤ (x42_2 : Int) := of_decide_eq_true (by first | (with_reducible assumption) | assumption)
                          have q124 : x42_2 < (l4.length : Int) := of_decide_eq_true (by first | (with_reducible assumption) | assumption)
                          obtain ⟨ad124, e124, hx124_0⟩ := Kd.at_string HR4.out x42_2 p124 q124
                          cases e124
                          replace hx124_0 := (HB.out.cell (World.block_lt_of_cell? w _ hx124_0)).trans hx124_0
                          replace p124 := eq_true p124
                          replace q124 := eq_true q124
                          have p125 : 0 ≤ ((ji26) : Int) := of_decide_eq_true (by first | (with_reducible assumption) | assumption)
                          have q125 : (ji26) < (t121.length : Int) := of_decide_eq_true (by first | (with_reducible assumption) | assumption)
                          obtain ⟨ad125, e125, hx125_0⟩ := Kd.at_bool (Kd.R_reads' HO_11.out).2.2 (ji26) p125 q125
                          (try rw [← Nbq29.out] at hx125_0)
                          cases e125
                          replace p125 := eq_true p125
                          replace q125 := eq_true q125
                          go_wp2_with (first | ((with_reducible refine gate_callee (f := 32) rfl ?_); refine goesL_ (some 60) rfl rfl Try.func32 (by kernel_rfl) rfl #[.string (rdOf ByteArray.empty l4 x42_2), .string x0_2] rfl (by (try simp only [List.map_toArray, List.map_cons, List.map_nil]); first | done | rfl | (simp only [List.length_drop, List.length_take]; rfl)) ?_; (with_reducible refine (merkle_node.calls (rdOf ByteArray.empty l4 x42_2) x0_2 t127 _ A33.out).mono ?_); rintro e w34 ⟨rfl, hb⟩; refine ⟨_, rfl, ?_⟩; have n0_ := Aside0.mk (Kd.R_below (by (with_reducible repeat (first | apply Kd.R_alloc | apply Kd.R_drewN | apply Kd.R_drew)); exact HO_11.out) hb); have n1_ := Aside0.mk (below_step (by repeat (first | (with_reducible first | exact HB.out | apply below_alloc | apply pw_below_drewN | apply below_drew1) | exact HB.out)) hb); clear HO_11; clear HB; have HO_11 := n0_; have HB := n1_; clear n0_ n1_; (try clear hb); (try clear hb2); (try clear hk); (try clear hi)))
                          go_roundg k2
                          case measure => have := HJ5.out; have := HK2.out; omega
                          case rel => exact ⟨(t127), (wrap64 (x42_2 + 1)), (by first | rfl | (simp; done) | (simp [*]; done) | (simp [isEmpty_ne_]; done)), (by first | rfl | (simp; done) | (simp [*]; done) | (simp [isEmpty_ne_]; done)), H', ⟨by have := HJ5.out; have := HK2.out; omega⟩, ⟨by (with_reducible repeat (first | apply Kd.R_alloc | apply Kd.R_drewN | apply Kd.R_drew)); exact HO_11.out⟩, ⟨by repeat (first | (with_reducible first | exact HB.out | apply below_alloc | apply pw_below_drewN | apply below_drew1) | exact HB.out)⟩⟩
                      · rw [if_neg c28] at H
                        exact absurd H (by simp)
                    · rw [if_neg c27] at H
                      exact absurd H (by simp)
                  · rw [if_neg c25] at H
                    exact absurd H (by simp)
                · rw [if_neg c24] at H
                  exact absurd H (by simp)
              · rw [if_neg c23] at H
                have c23b0 : decide (x42_2 < (l4.length : Int)) = false := decide_eq_false c23
                clear c23
                obtain rfl := Option.some.inj H
                go_wp2
                go_ret
                exact ⟨by first | rfl | (simp [errW_none, errW_some] <;> rfl) | (simp [*, errW_none, errW_some] <;> rfl), by repeat (first | (with_reducible first | exact HB.out | apply below_alloc | apply pw_below_drewN | apply below_drew1) | exact HB.out)⟩
        · rw [if_neg c20] at H
          have c20b0 : ((t121.length : Int) == (l4.length : Int)) = false := beq_eq_false_iff_ne.mpr c20
          have c20b1 : ((t121.length : Int) != (l4.length : Int)) = true := bne_iff_ne.mpr c20
          have c20b2 : (t121.length == l4.length) = false := by first | simpa using c20 | (simp at c20 ⊢; omega)
          obtain rfl := Option.some.inj H
          go_wp2_with (first | ((with_reducible refine gate_callee (f := 37) rfl ?_); refine goesL_ (some 34) rfl rfl Try.func37 (by kernel_rfl) rfl #[.int .i64 a1, .int .i64 a2] rfl (by (try simp only [List.map_toArray, List.map_cons, List.map_nil]); first | done | rfl | (simp only [List.length_drop, List.length_take]; rfl)) ?_; (with_reducible refine (merkle_turns.calls kj5 a1 a2 t121 _ A19.out).mono ?_); rintro e w35 ⟨v122, rfl, ho0, hb⟩; refine ⟨_, rfl, ?_⟩; have n0_ := Aside0.mk (Kd.R_lower ho0 (below_size (by repeat (first | (with_reducible first | exact HB.out | apply below_alloc | apply pw_below_drewN | apply below_drew1) | exact HB.out)))); have n1_ := Aside0.mk (below_step (by repeat (first | (with_reducible first | exact HB.out | apply below_alloc | apply pw_below_drewN | apply below_drew1) | exact HB.out)) hb); clear HB; have HO123 := n0_; have HB := n1_; clear n0_ n1_; (try clear hb); (try clear hb2); (try clear hk); (try clear hi); (try clear ho0); obtain ⟨Ao36, co36, eo36⟩ := Kd.R_slice HO123.out; subst eo36))
          go_ret
          exact ⟨by first | rfl | (simp [errW_none, errW_some] <;> rfl) | (simp [*, errW_none, errW_some] <;> rfl), by repeat (first | (with_reducible first | exact HB.out | apply below_alloc | apply pw_below_drewN | apply below_drew1) | exact HB.out)⟩
end Go.Proofs.Ytkhkppehdgkboaa.P
end P5_
section P6_
namespace Go.Proofs.Ytkhkppehdgkboaa.P
open Go.RowKit Go.Proofs.YtkhkppehdgkboaaW.PrintWords Go.Proofs.YtkhkppehdgkboaaW.PrintLast Go.Proofs.YtkhkppehdgkboaaW.PrintMore
attribute [local go_sem] max2_int min2_int max_two min_two max_three min_three max_four min_four   -- for this text's walks alone
set_option linter.unusedVariables false
set_option linter.unusedSimpArgs false
mutual
def merkle_Extends.j0 : Nat → Int → Int → ByteArray → ByteArray → List ByteArray → Bool → Option (Bool)
  | 0, _, _, _, _, _, _ => none
  | k + 1, x0, x1, x2, x3, x4, x37 => if x37 = true then (some false) else (if x0 = 0 then ((sum_Sha.f (⟨#[]⟩ : ByteArray)).bind fun t133 => (if x2.toList = t133.toList then (some ((x4.length : Int) == 0)) else (some false))) else (merkle_Extends.l0 k x0 x1 x2 x3 x4 true ([] : List Bool)))
def merkle_Extends.l0 : Nat → Int → Int → ByteArray → ByteArray → List ByteArray → Bool → List Bool → Option (Bool)
  | 0, _, _, _, _, _, _, _ => none
  | k + 1, x0, x1, x2, x3, x4, x11, x12 => if x0 < x1 then ((merkle_split.f k x1).bind fun t134 => (if x12.length < 140737488355328 then ((some (x12 ++ [decide (x0 ≤ t134)] : List Bool)).bind fun y135 => (if x0 ≤ t134 then (merkle_Extends.l0 k x0 t134 x2 x3 x4 x11 y135) else (merkle_Extends.l0 k (wrap64 (x0 - t134)) (wrap64 (x1 - t134)) x2 x3 x4 false y135))) else (none))) else (if x11 = true then (merkle_Extends.j2 k x2 x3 x4 x12 x2 x2) else (if (x4.length : Int) = 0 then (some false) else (if 0 < (x4.length : Int) then (if 1 ≤ (x4.length : Int) then (merkle_Extends.j2 k x2 x3 (x4.drop 1) x12 (rdOf ByteArray.empty x4 0) (rdOf ByteArray.empty x4 0)) else (none)) else (none))))
def merkle_Extends.j2 : Nat → ByteArray → ByteArray → List ByteArray → List Bool → ByteArray → ByteArray → Option (Bool)
  | 0, _, _, _, _, _, _ => none
  | k + 1, x2, x3, x4, x12, x15, x16 => if (x4.length : Int) = (x12.length : Int) then (merkle_Extends.l1 k x2 x3 x12 x15 x16 x4 (x4.length : Int) 0) else (some false)
def merkle_Extends.l1 : Nat → ByteArray → ByteArray → List Bool → ByteArray → ByteArray → List ByteArray → Int → Int → Option (Bool)
  | 0, _, _, _, _, _, _, _, _ => none
  | k + 1, x2, x3, x12, x15, x16, x88, x89, x90 => if x90 < x89 then (if 0 ≤ x90 then (if x90 < (x88.length : Int) then (if 0 ≤ (wrap64 ((wrap64 ((x12.length : Int) - 1)) - x90)) then (if (wrap64 ((wrap64 ((x12.length : Int) - 1)) - x90)) < (x12.length : Int) then (if rdOf false x12 (wrap64 ((wrap64 ((x12.length : Int) - 1)) - x90)) = true then ((merkle_node.f x16 (rdOf ByteArray.empty x88 x90)).bind fun t147 => (merkle_Extends.l1 k x2 x3 x12 x15 t147 x88 x89 (wrap64 (x90 + 1)))) else ((merkle_node.f (rdOf ByteArray.empty x88 x90) x15).bind fun t148 => ((merkle_node.f (rdOf ByteArray.empty x88 x90) x16).bind fun t149 => (merkle_Extends.l1 k x2 x3 x12 t148 t149 x88 x89 (wrap64 (x90 + 1)))))) else (none)) else (none)) else (none)) else (none)) else (if x15.toList = x2.toList then (some (x16.toList == x3.toList)) else (some false))
end
def merkle_Extends.f (k : Nat) (a0 : Int) (a1 : Int) (a2 : ByteArray) (a3 : ByteArray) (l4 : List ByteArray) : Option (Bool) := if a0 < 0 then (merkle_Extends.j0 k a0 a1 a2 a3 l4 true) else (if a0 > a1 then (merkle_Extends.j0 k a0 a1 a2 a3 l4 true) else ((merkle_digests.f k (([a2, a3] : List ByteArray))).bind fun t131 => (if t131 = true then ((merkle_digests.f k l4).bind fun t132 => (merkle_Extends.j0 k a0 a1 a2 a3 l4 (!t132))) else (merkle_Extends.j0 k a0 a1 a2 a3 l4 true))))
set_option maxHeartbeats 8000000 in
set_option maxRecDepth 100000 in
theorem merkle_Extends.calls (k : Nat) (a0 : Int) (a1 : Int) (a2 : ByteArray) (a3 : ByteArray) (P4_ : Nat → Prop) (A4 : Option Addr) (c4 : Nat) (l4 : List ByteArray) (r : Bool) (w : World) (hs4 : Kd.V Kd.string 9 w w.heap.size (fun k_ => P4_ k_) (.slice A4 l4.length c4) l4) (h : merkle_Extends.f k a0 a1 a2 a3 l4 = some r) :
    Calls Try.prog 22 #[.int .i64 a0, .int .i64 a1, .string a2, .string a3, .slice A4 l4.length c4] w fun e w' => e = .returned (.bool r) ∧ Below w.heap.size w w' := by
  have HO4 := Aside0.mk (show Kd.V Kd.string 9 w w.heap.size (fun k_ => (P4_ k_ ∨ w.heap.size ≤ k_)) (.slice A4 l4.length c4) l4 from Kd.V_mono hs4 (fun k_ hk => .inl hk))
  have HB := Aside0.mk (Below.refl w.heap.size w)
  have H : (if a0 < 0 then (merkle_Extends.j0 k a0 a1 a2 a3 l4 true) else (if a0 > a1 then (merkle_Extends.j0 k a0 a1 a2 a3 l4 true) else ((merkle_digests.f k (([a2, a3] : List ByteArray))).bind fun t131 => (if t131 = true then ((merkle_digests.f k l4).bind fun t132 => (merkle_Extends.j0 k a0 a1 a2 a3 l4 (!t132))) else (merkle_Extends.j0 k a0 a1 a2 a3 l4 true))))) = some r := h
  clear h
  have HC6 := Aside0.mk H
  clear H
  go_enter Try.func22, Try.ntmps22
  go_upto_region 1 with (fail)
  repeat (go_quiet (fail); go_upto_region 1 with (fail))
  go_cut [37] (fun v37 wc => ∃ (kq : Nat) (x37_5 : Bool), v37 = .bool x37_5 ∧ Aside0 (merkle_Extends.j0 kq a0 a1 a2 a3 l4 x37_5 = some r) ∧ Aside0 (kq ≤ k) ∧ Aside0 (Kd.V Kd.string 9 wc w.heap.size (fun k_ => (P4_ k_ ∨ w.heap.size ≤ k_)) (.slice A4 l4.length c4) l4) ∧ Aside0 (Below w.heap.size w wc))
  case first =>
    have H := HC6.out
    clear HC6
    by_cases c7 : a0 < 0
    · rw [if_pos c7] at H
      have c7b0 : decide (a0 < 0) = true := decide_eq_true c7
      clear c7
      (first | rw [c7b0] | (simp only [i64_w, i32_w]; rw [c7b0]) | skip)
      have H' := Aside0.mk H
      clear H
      go_wp2
      repeat (go_quiet (fail); try go_wp2)
      go_meet
      case rel => exact ⟨_, (true), (by first | rfl | (simp; done) | (simp [*]; done)), H', ⟨by first | omega | exact Nat.le_refl _⟩, ⟨by (with_reducible repeat (first | apply Kd.V_alloc | apply Kd.V_drewN | apply Kd.V_drew)); exact HO4.out⟩, ⟨by repeat (first | (with_reducible first | exact HB.out | apply below_alloc | apply pw_below_drewN | apply below_drew1) | exact HB.out)⟩⟩
    · rw [if_neg c7] at H
      have c7b0 : decide (a0 < 0) = false := decide_eq_false c7
      clear c7
      (first | rw [c7b0] | (simp only [i64_w, i32_w]; rw [c7b0]) | skip)
      by_cases c8 : a0 > a1
      · rw [if_pos c8] at H
        have c8b0 : decide (a1 < a0) = true := decide_eq_true c8
        clear c8
        have H' := Aside0.mk H
        clear H
        go_wp2
        repeat (go_quiet (fail); try go_wp2)
        go_meet
        case rel => exact ⟨_, (true), (by first | rfl | (simp; done) | (simp [*]; done)), H', ⟨by first | omega | exact Nat.le_refl _⟩, ⟨by (with_reducible repeat (first | apply Kd.V_alloc | apply Kd.V_drewN | apply Kd.V_drew)); exact HO4.out⟩, ⟨by repeat (first | (with_reducible first | exact HB.out | apply below_alloc | apply pw_below_drewN | apply below_drew1) | exact HB.out)⟩⟩
      · rw [if_neg c8] at H
        have c8b0 : decide (a1 < a0) = false := decide_eq_false c8
        clear c8
        obtain ⟨y128, hy128⟩ : ∃ y_ : List ByteArray, y_ = (([a2, a3] : List ByteArray)) := ⟨_, rfl⟩
        replace H : ((merkle_digests.f k y128).bind fun t131 => (if t131 = true then ((merkle_digests.f k l4).bind fun t132 => (merkle_Extends.j0 k a0 a1 a2 a3 l4 (!t132))) else (merkle_Extends.j0 k a0 a1 a2 a3 l4 true))) = some r := by first | (rw [hy128]; with_reducible exact H) | (have H2_ := (Option.bind_some _ _).symm.trans H; rw [hy128]; with_reducible exact H2_) | (have H2_ := (Option.bind_some _ _).symm.trans H; with_reducible exact H2_) | with_reducible exact H | (rw [hy128]; exact H) | exact H
        have Ny128 := Aside0.mk hy128
        clear hy128
        replace H := Option.bind_eq_some_iff.mp H
        obtain ⟨t131, A90, H⟩ := H
        replace H : (if t131 = true then ((merkle_digests.f k l4).bind fun t132 => (merkle_Extends.j0 k a0 a1 a2 a3 l4 (!t132))) else (merkle_Extends.j0 k a0 a1 a2 a3 l4 true)) = some r := H
        have A9 := Aside0.mk A90
        clear A90
        by_cases c10 : t131 = true
        · subst c10
          have H1 : ((merkle_digests.f k l4).bind fun t132 => (merkle_Extends.j0 k a0 a1 a2 a3 l4 (!t132))) = some r := by rw [if_pos rfl] at H; exact H
          clear H
          have H := H1
          clear H1
          replace H := Option.bind_eq_some_iff.mp H
          obtain ⟨t132, A110, H⟩ := H
          replace H : (merkle_Extends.j0 k a0 a1 a2 a3 l4 (!t132)) = some r := H
          have A11 := Aside0.mk A110
          clear A110
          have H' := Aside0.mk H
          clear H
          go_wp2_with (first | ((with_reducible refine gate_dst (N := 29) rfl ?_); (try (refine gate_guard (by rfl) ?_; dsimp only)); refine Kd.R_lit Kd.string _ 9 ?hg (N := 29) ?hd (xs := ([a2, a3] : List ByteArray)) (inner := [.string a2, .string a3]) (ok := fun _ => True) (okp := fun _ => True) ?hr ?hp (fun _ hk => hk) trivial (Below.refl _ _) (Nat.le_refl _) (by simp) ?_; (case hd => rfl); (case hg => rfl); (case hr => first | (go_simp; done) | (go_simp; rfl) | (go_simp; simp only [IntKind.wrap_u32', Int.emod_add_emod, Int.add_emod_emod])); (case hp => exact (Reps.one (show Kd.M Kd.string _ _ _ a2 [.string a2] from rfl) (Reps.one (show Kd.M Kd.string _ _ _ a3 [.string a3] from rfl) (Reps.none _ _)))); intro v129 w12 ho13 hb hg_ hnew_; clear hg_ hnew_; (first | rw [← Ny128.out] at ho13 | (simp only [Int.reduceToNat] at ho13; rw [← Ny128.out] at ho13)); have n0_ := Aside0.mk (Kd.V_elder' (by (with_reducible repeat (first | apply Kd.V_alloc | apply Kd.V_drewN | apply Kd.V_drew)); exact HO4.out) (Kd.R_base ho13) hb); have n1_ := Aside0.mk (Kd.R_lower (Kd.R_newM (M := fun k_ => (w.heap.size ≤ k_)) ho13 (below_size (by repeat (first | (with_reducible first | exact HB.out | apply below_alloc | apply pw_below_drewN | apply below_drew1) | exact HB.out))) (fun k_ h_ => h_)) (below_size (by repeat (first | (with_reducible first | exact HB.out | apply below_alloc | apply pw_below_drewN | apply below_drew1) | exact HB.out)))); have n2_ := Aside0.mk (below_step (by repeat (first | (with_reducible first | exact HB.out | apply below_alloc | apply pw_below_drewN | apply below_drew1) | exact HB.out)) hb); clear HO4; clear HB; have HO4 := n0_; have HO130 := n1_; have HB := n2_; clear n0_ n1_ n2_; clear hb ho13; obtain ⟨Ao14, co14, eo14⟩ := Kd.R_slice HO130.out; subst eo14) | (go_at_call 36; (with_reducible refine (merkle_digests.calls k _ _ y128 true _ ?side1 ?side2 A9.out).mono ?_); (case side1 => repeat (first | exact (Kd.R_reads' HO130.out).2.2 | (with_reducible refine Kd.C_alloc ?_ _) | (with_reducible refine Kd.C_drewN ?_ _) | (with_reducible refine Kd.C_drew ?_))); (case side2 => exact (Kd.R_reads' HO130.out).2.1); rintro e w' ⟨rfl, ⟨nd, rfl⟩⟩; (try first | exact ⟨rfl, _, World.drewN_drewN _ _ _⟩ | exact ⟨rfl, _, Eq.trans (World.drewN_drewN _ _ _) (congrArg (World.drewN _) (Nat.add_assoc _ _ _))⟩)) | (go_at_call 36; (with_reducible refine (merkle_digests.calls k _ _ l4 t132 _ ?side1 ?side2 A11.out).mono ?_); (case side1 => repeat (first | exact (Kd.V_reads' HO4.out).2.2 | (with_reducible refine Kd.C_alloc ?_ _) | (with_reducible refine Kd.C_drewN ?_ _) | (with_reducible refine Kd.C_drew ?_))); (case side2 => exact (Kd.V_reads' HO4.out).2.1); rintro e w' ⟨rfl, ⟨nd, rfl⟩⟩; (try first | exact ⟨rfl, _, World.drewN_drewN _ _ _⟩ | exact ⟨rfl, _, Eq.trans (World.drewN_drewN _ _ _) (congrArg (World.drewN _) (Nat.add_assoc _ _ _))⟩)))
          repeat (go_quiet (first | ((with_reducible refine gate_dst (N := 29) rfl ?_); (try (refine gate_guard (by rfl) ?_; dsimp only)); refine Kd.R_lit Kd.string _ 9 ?hg (N := 29) ?hd (xs := ([a2, a3] : List ByteArray)) (inner := [.string a2, .string a3]) (ok := fun _ => True) (okp := fun _ => True) ?hr ?hp (fun _ hk => hk) trivial (Below.refl _ _) (Nat.le_refl _) (by simp) ?_; (case hd => rfl); (case hg => rfl); (case hr => first | (go_simp; done) | (go_simp; rfl) | (go_simp; simp only [IntKind.wrap_u32', Int.emod_add_emod, Int.add_emod_emod])); (case hp => exact (Reps.one (show Kd.M Kd.string _ _ _ a2 [.string a2] from rfl) (Reps.one (show Kd.M Kd.string _ _ _ a3 [.string a3] from rfl) (Reps.none _ _)))); intro v129 w12 ho13 hb hg_ hnew_; clear hg_ hnew_; (first | rw [← Ny128.out] at ho13 | (simp only [Int.reduceToNat] at ho13; rw [← Ny128.out] at ho13)); have n0_ := Aside0.mk (Kd.V_elder' (by (with_reducible repeat (first | apply Kd.V_alloc | apply Kd.V_drewN | apply Kd.V_drew)); exact HO4.out) (Kd.R_base ho13) hb); have n1_ := Aside0.mk (Kd.R_lower (Kd.R_newM (M := fun k_ => (w.heap.size ≤ k_)) ho13 (below_size (by repeat (first | (with_reducible first | exact HB.out | apply below_alloc | apply pw_below_drewN | apply below_drew1) | exact HB.out))) (fun k_ h_ => h_)) (below_size (by repeat (first | (with_reducible first | exact HB.out | apply below_alloc | apply pw_below_drewN | apply below_drew1) | exact HB.out)))); have n2_ := Aside0.mk (below_step (by repeat (first | (with_reducible first | exact HB.out | apply below_alloc | apply pw_below_drewN | apply below_drew1) | exact HB.out)) hb); clear HO4; clear HB; have HO4 := n0_; have HO130 := n1_; have HB := n2_; clear n0_ n1_ n2_; clear hb ho13; obtain ⟨Ao14, co14, eo14⟩ := Kd.R_slice HO130.out; subst eo14) | (go_at_call 36; (with_reducible refine (merkle_digests.calls k _ _ y128 true _ ?side1 ?side2 A9.out).mono ?_); (case side1 => repeat (first | exact (Kd.R_reads' HO130.out).2.2 | (with_reducible refine Kd.C_alloc ?_ _) | (with_reducible refine Kd.C_drewN ?_ _) | (with_reducible refine Kd.C_drew ?_))); (case side2 => exact (Kd.R_reads' HO130.out).2.1); rintro e w' ⟨rfl, ⟨nd, rfl⟩⟩; (try first | exact ⟨rfl, _, World.drewN_drewN _ _ _⟩ | exact ⟨rfl, _, Eq.trans (World.drewN_drewN _ _ _) (congrArg (World.drewN _) (Nat.add_assoc _ _ _))⟩)) | (go_at_call 36; (with_reducible refine (merkle_digests.calls k _ _ l4 t132 _ ?side1 ?side2 A11.out).mono ?_); (case side1 => repeat (first | exact (Kd.V_reads' HO4.out).2.2 | (with_reducible refine Kd.C_alloc ?_ _) | (with_reducible refine Kd.C_drewN ?_ _) | (with_reducible refine Kd.C_drew ?_))); (case side2 => exact (Kd.V_reads' HO4.out).2.1); rintro e w' ⟨rfl, ⟨nd, rfl⟩⟩; (try first | exact ⟨rfl, _, World.drewN_drewN _ _ _⟩ | exact ⟨rfl, _, Eq.trans (World.drewN_drewN _ _ _) (congrArg (World.drewN _) (Nat.add_assoc _ _ _))⟩))); try go_wp2_with (first | ((with_reducible refine gate_dst (N := 29) rfl ?_); (try (refine gate_guard (by rfl) ?_; dsimp only)); refine Kd.R_lit Kd.string _ 9 ?hg (N := 29) ?hd (xs := ([a2, a3] : List ByteArray)) (inner := [.string a2, .string a3]) (ok := fun _ => True) (okp := fun _ => True) ?hr ?hp (fun _ hk => hk) trivial (Below.refl _ _) (Nat.le_refl _) (by simp) ?_; (case hd => rfl); (case hg => rfl); (case hr => first | (go_simp; done) | (go_simp; rfl) | (go_simp; simp only [IntKind.wrap_u32', Int.emod_add_emod, Int.add_emod_emod])); (case hp => exact (Reps.one (show Kd.M Kd.string _ _ _ a2 [.string a2] from rfl) (Reps.one (show Kd.M Kd.string _ _ _ a3 [.string a3] from rfl) (Reps.none _ _)))); intro v129 w12 ho13 hb hg_ hnew_; clear hg_ hnew_; (first | rw [← Ny128.out] at ho13 | (simp only [Int.reduceToNat] at ho13; rw [← Ny128.out] at ho13)); have n0_ := Aside0.mk (Kd.V_elder' (by (with_reducible repeat (first | apply Kd.V_alloc | apply Kd.V_drewN | apply Kd.V_drew)); exact HO4.out) (Kd.R_base ho13) hb); have n1_ := Aside0.mk (Kd.R_lower (Kd.R_newM (M := fun k_ => (w.heap.size ≤ k_)) ho13 (below_size (by repeat (first | (with_reducible first | exact HB.out | apply below_alloc | apply pw_below_drewN | apply below_drew1) | exact HB.out))) (fun k_ h_ => h_)) (below_size (by repeat (first | (with_reducible first | exact HB.out | apply below_alloc | apply pw_below_drewN | apply below_drew1) | exact HB.out)))); have n2_ := Aside0.mk (below_step (by repeat (first | (with_reducible first | exact HB.out | apply below_alloc | apply pw_below_drewN | apply below_drew1) | exact HB.out)) hb); clear HO4; clear HB; have HO4 := n0_; have HO130 := n1_; have HB := n2_; clear n0_ n1_ n2_; clear hb ho13; obtain ⟨Ao14, co14, eo14⟩ := Kd.R_slice HO130.out; subst eo14) | (go_at_call 36; (with_reducible refine (merkle_digests.calls k _ _ y128 true _ ?side1 ?side2 A9.out).mono ?_); (case side1 => repeat (first | exact (Kd.R_reads' HO130.out).2.2 | (with_reducible refine Kd.C_alloc ?_ _) | (with_reducible refine Kd.C_drewN ?_ _) | (with_reducible refine Kd.C_drew ?_))); (case side2 => exact (Kd.R_reads' HO130.out).2.1); rintro e w' ⟨rfl, ⟨nd, rfl⟩⟩; (try first | exact ⟨rfl, _, World.drewN_drewN _ _ _⟩ | exact ⟨rfl, _, Eq.trans (World.drewN_drewN _ _ _) (congrArg (World.drewN _) (Nat.add_assoc _ _ _))⟩)) | (go_at_call 36; (with_reducible refine (merkle_digests.calls k _ _ l4 t132 _ ?side1 ?side2 A11.out).mono ?_); (case side1 => repeat (first | exact (Kd.V_reads' HO4.out).2.2 | (with_reducible refine Kd.C_alloc ?_ _) | (with_reducible refine Kd.C_drewN ?_ _) | (with_reducible refine Kd.C_drew ?_))); (case side2 => exact (Kd.V_reads' HO4.out).2.1); rintro e w' ⟨rfl, ⟨nd, rfl⟩⟩; (try first | exact ⟨rfl, _, World.drewN_drewN _ _ _⟩ | exact ⟨rfl, _, Eq.trans (World.drewN_drewN _ _ _) (congrArg (World.drewN _) (Nat.add_assoc _ _ _))⟩))))
          go_meet
          case rel => exact ⟨_, (!t132), (by first | rfl | (simp; done) | (simp [*]; done)), H', ⟨by first | omega | exact Nat.le_refl _⟩, ⟨by (with_reducible repeat (first | apply Kd.V_alloc | apply Kd.V_drewN | apply Kd.V_drew)); exact Kd.V_mono HO4.out (fun _ hk => hk.1)⟩, ⟨by repeat (first | (with_reducible first | exact HB.out | apply below_alloc | apply pw_below_drewN | apply below_drew1) | exact HB.out)⟩⟩
        · replace c10 := Bool.eq_false_iff.mpr c10
          subst c10
          have H1 : (merkle_Extends.j0 k a0 a1 a2 a3 l4 true) = some r := by rw [if_neg (show ¬ (false = true) by decide)] at H; exact H
          clear H
          have H := H1
          clear H1
          have H' := Aside0.mk H
          clear H
          go_wp2_with (first | ((with_reducible refine gate_dst (N := 29) rfl ?_); (try (refine gate_guard (by rfl) ?_; dsimp only)); refine Kd.R_lit Kd.string _ 9 ?hg (N := 29) ?hd (xs := ([a2, a3] : List ByteArray)) (inner := [.string a2, .string a3]) (ok := fun _ => True) (okp := fun _ => True) ?hr ?hp (fun _ hk => hk) trivial (Below.refl _ _) (Nat.le_refl _) (by simp) ?_; (case hd => rfl); (case hg => rfl); (case hr => first | (go_simp; done) | (go_simp; rfl) | (go_simp; simp only [IntKind.wrap_u32', Int.emod_add_emod, Int.add_emod_emod])); (case hp => exact (Reps.one (show Kd.M Kd.string _ _ _ a2 [.string a2] from rfl) (Reps.one (show Kd.M Kd.string _ _ _ a3 [.string a3] from rfl) (Reps.none _ _)))); intro v129 w15 ho16 hb hg_ hnew_; clear hg_ hnew_; (first | rw [← Ny128.out] at ho16 | (simp only [Int.reduceToNat] at ho16; rw [← Ny128.out] at ho16)); have n0_ := Aside0.mk (Kd.V_elder' (by (with_reducible repeat (first | apply Kd.V_alloc | apply Kd.V_drewN | apply Kd.V_drew)); exact HO4.out) (Kd.R_base ho16) hb); have n1_ := Aside0.mk (Kd.R_lower (Kd.R_newM (M := fun k_ => (w.heap.size ≤ k_)) ho16 (below_size (by repeat (first | (with_reducible first | exact HB.out | apply below_alloc | apply pw_below_drewN | apply below_drew1) | exact HB.out))) (fun k_ h_ => h_)) (below_size (by repeat (first | (with_reducible first | exact HB.out | apply below_alloc | apply pw_below_drewN | apply below_drew1) | exact HB.out)))); have n2_ := Aside0.mk (below_step (by repeat (first | (with_reducible first | exact HB.out | apply below_alloc | apply pw_below_drewN | apply below_drew1) | exact HB.out)) hb); clear HO4; clear HB; have HO4 := n0_; have HO130 := n1_; have HB := n2_; clear n0_ n1_ n2_; clear hb ho16; obtain ⟨Ao17, co17, eo17⟩ := Kd.R_slice HO130.out; subst eo17) | (go_at_call 36; (with_reducible refine (merkle_digests.calls k _ _ y128 false _ ?side1 ?side2 A9.out).mono ?_); (case side1 => repeat (first | exact (Kd.R_reads' HO130.out).2.2 | (with_reducible refine Kd.C_alloc ?_ _) | (with_reducible refine Kd.C_drewN ?_ _) | (with_reducible refine Kd.C_drew ?_))); (case side2 => exact (Kd.R_reads' HO130.out).2.1); rintro e w' ⟨rfl, ⟨nd, rfl⟩⟩; (try first | exact ⟨rfl, _, World.drewN_drewN _ _ _⟩ | exact ⟨rfl, _, Eq.trans (World.drewN_drewN _ _ _) (congrArg (World.drewN _) (Nat.add_assoc _ _ _))⟩)))
          repeat (go_quiet (first | ((with_reducible refine gate_dst (N := 29) rfl ?_); (try (refine gate_guard (by rfl) ?_; dsimp only)); refine Kd.R_lit Kd.string _ 9 ?hg (N := 29) ?hd (xs := ([a2, a3] : List ByteArray)) (inner := [.string a2, .string a3]) (ok := fun _ => True) (okp := fun _ => True) ?hr ?hp (fun _ hk => hk) trivial (Below.refl _ _) (Nat.le_refl _) (by simp) ?_; (case hd => rfl); (case hg => rfl); (case hr => first | (go_simp; done) | (go_simp; rfl) | (go_simp; simp only [IntKind.wrap_u32', Int.emod_add_emod, Int.add_emod_emod])); (case hp => exact (Reps.one (show Kd.M Kd.string _ _ _ a2 [.string a2] from rfl) (Reps.one (show Kd.M Kd.string _ _ _ a3 [.string a3] from rfl) (Reps.none _ _)))); intro v129 w15 ho16 hb hg_ hnew_; clear hg_ hnew_; (first | rw [← Ny128.out] at ho16 | (simp only [Int.reduceToNat] at ho16; rw [← Ny128.out] at ho16)); have n0_ := Aside0.mk (Kd.V_elder' (by (with_reducible repeat (first | apply Kd.V_alloc | apply Kd.V_drewN | apply Kd.V_drew)); exact HO4.out) (Kd.R_base ho16) hb); have n1_ := Aside0.mk (Kd.R_lower (Kd.R_newM (M := fun k_ => (w.heap.size ≤ k_)) ho16 (below_size (by repeat (first | (with_reducible first | exact HB.out | apply below_alloc | apply pw_below_drewN | apply below_drew1) | exact HB.out))) (fun k_ h_ => h_)) (below_size (by repeat (first | (with_reducible first | exact HB.out | apply below_alloc | apply pw_below_drewN | apply below_drew1) | exact HB.out)))); have n2_ := Aside0.mk (below_step (by repeat (first | (with_reducible first | exact HB.out | apply below_alloc | apply pw_below_drewN | apply below_drew1) | exact HB.out)) hb); clear HO4; clear HB; have HO4 := n0_; have HO130 := n1_; have HB := n2_; clear n0_ n1_ n2_; clear hb ho16; obtain ⟨Ao17, co17, eo17⟩ := Kd.R_slice HO130.out; subst eo17) | (go_at_call 36; (with_reducible refine (merkle_digests.calls k _ _ y128 false _ ?side1 ?side2 A9.out).mono ?_); (case side1 => repeat (first | exact (Kd.R_reads' HO130.out).2.2 | (with_reducible refine Kd.C_alloc ?_ _) | (with_reducible refine Kd.C_drewN ?_ _) | (with_reducible refine Kd.C_drew ?_))); (case side2 => exact (Kd.R_reads' HO130.out).2.1); rintro e w' ⟨rfl, ⟨nd, rfl⟩⟩; (try first | exact ⟨rfl, _, World.drewN_drewN _ _ _⟩ | exact ⟨rfl, _, Eq.trans (World.drewN_drewN _ _ _) (congrArg (World.drewN _) (Nat.add_assoc _ _ _))⟩))); try go_wp2_with (first | ((with_reducible refine gate_dst (N := 29) rfl ?_); (try (refine gate_guard (by rfl) ?_; dsimp only)); refine Kd.R_lit Kd.string _ 9 ?hg (N := 29) ?hd (xs := ([a2, a3] : List ByteArray)) (inner := [.string a2, .string a3]) (ok := fun _ => True) (okp := fun _ => True) ?hr ?hp (fun _ hk => hk) trivial (Below.refl _ _) (Nat.le_refl _) (by simp) ?_; (case hd => rfl); (case hg => rfl); (case hr => first | (go_simp; done) | (go_simp; rfl) | (go_simp; simp only [IntKind.wrap_u32', Int.emod_add_emod, Int.add_emod_emod])); (case hp => exact (Reps.one (show Kd.M Kd.string _ _ _ a2 [.string a2] from rfl) (Reps.one (show Kd.M Kd.string _ _ _ a3 [.string a3] from rfl) (Reps.none _ _)))); intro v129 w15 ho16 hb hg_ hnew_; clear hg_ hnew_; (first | rw [← Ny128.out] at ho16 | (simp only [Int.reduceToNat] at ho16; rw [← Ny128.out] at ho16)); have n0_ := Aside0.mk (Kd.V_elder' (by (with_reducible repeat (first | apply Kd.V_alloc | apply Kd.V_drewN | apply Kd.V_drew)); exact HO4.out) (Kd.R_base ho16) hb); have n1_ := Aside0.mk (Kd.R_lower (Kd.R_newM (M := fun k_ => (w.heap.size ≤ k_)) ho16 (below_size (by repeat (first | (with_reducible first | exact HB.out | apply below_alloc | apply pw_below_drewN | apply below_drew1) | exact HB.out))) (fun k_ h_ => h_)) (below_size (by repeat (first | (with_reducible first | exact HB.out | apply below_alloc | apply pw_below_drewN | apply below_drew1) | exact HB.out)))); have n2_ := Aside0.mk (below_step (by repeat (first | (with_reducible first | exact HB.out | apply below_alloc | apply pw_below_drewN | apply below_drew1) | exact HB.out)) hb); clear HO4; clear HB; have HO4 := n0_; have HO130 := n1_; have HB := n2_; clear n0_ n1_ n2_; clear hb ho16; obtain ⟨Ao17, co17, eo17⟩ := Kd.R_slice HO130.out; subst eo17) | (go_at_call 36; (with_reducible refine (merkle_digests.calls k _ _ y128 false _ ?side1 ?side2 A9.out).mono ?_); (case side1 => repeat (first | exact (Kd.R_reads' HO130.out).2.2 | (with_reducible refine Kd.C_alloc ?_ _) | (with_reducible refine Kd.C_drewN ?_ _) | (with_reducible refine Kd.C_drew ?_))); (case side2 => exact (Kd.R_reads' HO130.out).2.1); rintro e w' ⟨rfl, ⟨nd, rfl⟩⟩; (try first | exact ⟨rfl, _, World.drewN_drewN _ _ _⟩ | exact ⟨rfl, _, Eq.trans (World.drewN_drewN _ _ _) (congrArg (World.drewN _) (Nat.add_assoc _ _ _))⟩))))
          go_meet
          case rel => exact ⟨_, (true), (by first | rfl | (simp; done) | (simp [*]; done)), H', ⟨by first | omega | exact Nat.le_refl _⟩, ⟨by (with_reducible repeat (first | apply Kd.V_alloc | apply Kd.V_drewN | apply Kd.V_drew)); exact Kd.V_mono HO4.out (fun _ hk => hk.1)⟩, ⟨by repeat (first | (with_reducible first | exact HB.out | apply below_alloc | apply pw_below_drewN | apply below_drew1) | exact HB.out)⟩⟩
  case rest =>
    clear HC6
    try clear c1
    try clear c2
    try clear p2
    try clear c4
    try clear c7
    try clear c7b0
    try clear c8
    try clear c8b0
    try clear c10
    obtain ⟨kq, x37_5, rfl, HA, HJ5, HO_4, HB⟩ := hcut
    cases kq with
    | zero => exact absurd HA.out (by simp [merkle_Extends.j0])
    | succ kj5 =>
      have H := HA.out
      clear HA
      simp only [merkle_Extends.j0] at H
      by_cases c18 : x37_5 = true
      · subst c18
        have H1 : (some false) = some r := by rw [if_pos rfl] at H; exact H
        clear H
        have H := H1
        clear H1
        obtain rfl := Option.some.inj H
        go_wp2
        repeat (go_quiet (fail); try go_wp2)
        go_ret
        exact ⟨by first | rfl | (simp [errW_none, errW_some] <;> rfl) | (simp [*, errW_none, errW_some] <;> rfl), by repeat (first | (with_reducible first | exact HB.out | apply below_alloc | apply pw_below_drewN | apply below_drew1) | exact HB.out)⟩
      · replace c18 := Bool.eq_false_iff.mpr c18
        subst c18
        have H1 : (if a0 = 0 then ((sum_Sha.f (⟨#[]⟩ : ByteArray)).bind fun t133 => (if a2.toList = t133.toList then (some ((l4.length : Int) == 0)) else (some false))) else (merkle_Extends.l0 kj5 a0 a1 a2 a3 l4 true ([] : List Bool))) = some r := by rw [if_neg (show ¬ (false = true) by decide)] at H; exact H
        clear H
        have H := H1
        clear H1
        by_cases c19 : a0 = 0
        · rw [if_pos c19] at H
          have c19b0 : (a0 == 0) = true := beq_iff_eq.mpr c19
          have c19b1 : (a0 != 0) = false := bne_eq_false_iff_eq.mpr c19
          clear c19
          replace H := Option.bind_eq_some_iff.mp H
          obtain ⟨t133, A200, H⟩ := H
          replace H : (if a2.toList = t133.toList then (some ((l4.length : Int) == 0)) else (some false)) = some r := H
          have A20 := Aside0.mk A200
          clear A200
          by_cases c21 : a2.toList = t133.toList
          · rw [if_pos c21] at H
            have c21b0 : (a2.toList == t133.toList) = true := beq_iff_eq.mpr c21
            have c21b1 : (a2.toList != t133.toList) = false := bne_eq_false_iff_eq.mpr c21
            clear c21
            obtain rfl := Option.some.inj H
            go_wp2_with (first | (go_at_call 27; (with_reducible refine (sum_Sha.calls (⟨#[]⟩ : ByteArray) t133 _ A20.out).mono ?_); rintro e w22 ⟨rfl, hb⟩; have n0_ := Aside0.mk (Kd.V_below (by (with_reducible repeat (first | apply Kd.V_alloc | apply Kd.V_drewN | apply Kd.V_drew)); exact HO_4.out) hb); have n1_ := Aside0.mk (below_step (by repeat (first | (with_reducible first | exact HB.out | apply below_alloc | apply pw_below_drewN | apply below_drew1) | exact HB.out)) hb); clear HO_4; clear HB; have HO_4 := n0_; have HB := n1_; clear n0_ n1_; (try clear hb); (try clear hb2); (try clear hk); (try clear hi)))
            repeat (go_quiet (first | (go_at_call 27; (with_reducible refine (sum_Sha.calls (⟨#[]⟩ : ByteArray) t133 _ A20.out).mono ?_); rintro e w22 ⟨rfl, hb⟩; have n0_ := Aside0.mk (Kd.V_below (by (with_reducible repeat (first | apply Kd.V_alloc | apply Kd.V_drewN | apply Kd.V_drew)); exact HO_4.out) hb); have n1_ := Aside0.mk (below_step (by repeat (first | (with_reducible first | exact HB.out | apply below_alloc | apply pw_below_drewN | apply below_drew1) | exact HB.out)) hb); clear HO_4; clear HB; have HO_4 := n0_; have HB := n1_; clear n0_ n1_; (try clear hb); (try clear hb2); (try clear hk); (try clear hi))); try go_wp2_with (first | (go_at_call 27; (with_reducible refine (sum_Sha.calls (⟨#[]⟩ : ByteArray) t133 _ A20.out).mono ?_); rintro e w22 ⟨rfl, hb⟩; have n0_ := Aside0.mk (Kd.V_below (by (with_reducible repeat (first | apply Kd.V_alloc | apply Kd.V_drewN | apply Kd.V_drew)); exact HO_4.out) hb); have n1_ := Aside0.mk (below_step (by repeat (first | (with_reducible first | exact HB.out | apply below_alloc | apply pw_below_drewN | apply below_drew1) | exact HB.out)) hb); clear HO_4; clear HB; have HO_4 := n0_; have HB := n1_; clear n0_ n1_; (try clear hb); (try clear hb2); (try clear hk); (try clear hi))))
            go_ret
            exact ⟨by first | rfl | (simp [errW_none, errW_some] <;> rfl) | (simp [*, errW_none, errW_some] <;> rfl), by repeat (first | (with_reducible first | exact HB.out | apply below_alloc | apply pw_below_drewN | apply below_drew1) | exact HB.out)⟩
          · rw [if_neg c21] at H
            have c21b0 : (a2.toList == t133.toList) = false := beq_eq_false_iff_ne.mpr c21
            have c21b1 : (a2.toList != t133.toList) = true := bne_iff_ne.mpr c21
            obtain rfl := Option.some.inj H
            go_wp2_with (first | (go_at_call 27; (with_reducible refine (sum_Sha.calls (⟨#[]⟩ : ByteArray) t133 _ A20.out).mono ?_); rintro e w23 ⟨rfl, hb⟩; have n0_ := Aside0.mk (Kd.V_below (by (with_reducible repeat (first | apply Kd.V_alloc | apply Kd.V_drewN | apply Kd.V_drew)); exact HO_4.out) hb); have n1_ := Aside0.mk (below_step (by repeat (first | (with_reducible first | exact HB.out | apply below_alloc | apply pw_below_drewN | apply below_drew1) | exact HB.out)) hb); clear HO_4; clear HB; have HO_4 := n0_; have HB := n1_; clear n0_ n1_; (try clear hb); (try clear hb2); (try clear hk); (try clear hi)))
            repeat (go_quiet (first | (go_at_call 27; (with_reducible refine (sum_Sha.calls (⟨#[]⟩ : ByteArray) t133 _ A20.out).mono ?_); rintro e w23 ⟨rfl, hb⟩; have n0_ := Aside0.mk (Kd.V_below (by (with_reducible repeat (first | apply Kd.V_alloc | apply Kd.V_drewN | apply Kd.V_drew)); exact HO_4.out) hb); have n1_ := Aside0.mk (below_step (by repeat (first | (with_reducible first | exact HB.out | apply below_alloc | apply pw_below_drewN | apply below_drew1) | exact HB.out)) hb); clear HO_4; clear HB; have HO_4 := n0_; have HB := n1_; clear n0_ n1_; (try clear hb); (try clear hb2); (try clear hk); (try clear hi))); try go_wp2_with (first | (go_at_call 27; (with_reducible refine (sum_Sha.calls (⟨#[]⟩ : ByteArray) t133 _ A20.out).mono ?_); rintro e w23 ⟨rfl, hb⟩; have n0_ := Aside0.mk (Kd.V_below (by (with_reducible repeat (first | apply Kd.V_alloc | apply Kd.V_drewN | apply Kd.V_drew)); exact HO_4.out) hb); have n1_ := Aside0.mk (below_step (by repeat (first | (with_reducible first | exact HB.out | apply below_alloc | apply pw_below_drewN | apply below_drew1) | exact HB.out)) hb); clear HO_4; clear HB; have HO_4 := n0_; have HB := n1_; clear n0_ n1_; (try clear hb); (try clear hb2); (try clear hk); (try clear hi))))
            go_ret
            exact ⟨by first | rfl | (simp [errW_none, errW_some] <;> rfl) | (simp [*, errW_none, errW_some] <;> rfl), by repeat (first | (with_reducible first | exact HB.out | apply below_alloc | apply pw_below_drewN | apply below_drew1) | exact HB.out)⟩
        · rw [if_neg c19] at H
          have c19b0 : (a0 == 0) = false := beq_eq_false_iff_ne.mpr c19
          have c19b1 : (a0 != 0) = true := bne_iff_ne.mpr c19
          have H' := Aside0.mk H
          clear H
          go_wp2
          repeat (go_quiet (fail); try go_wp2)
          go_loopg [0, 1, 11, 12] kj5 (fun kq v0 v1 v11 v12 w' => ∃ (x0_2 : Int) (x1_2 : Int) (x11_2 : Bool) (x12_2 : List Bool), v0 = .int .i64 x0_2 ∧ v1 = .int .i64 x1_2 ∧ v11 = .bool x11_2 ∧ Aside0 (merkle_Extends.l0 kq x0_2 x1_2 a2 a3 l4 x11_2 x12_2 = some r) ∧ Aside0 (kq ≤ kj5) ∧ Aside0 (Kd.V Kd.string 9 w' w.heap.size (fun k_ => (P4_ k_ ∨ w.heap.size ≤ k_) ∧ some k_ ≠ (v12 : Value).ownBlock) (.slice A4 l4.length c4) l4) ∧ Aside0 (Kd.R Kd.bool 4 w' w.heap.size (fun k_ => (w.heap.size ≤ k_)) v12 x12_2) ∧ Aside0 (Below w.heap.size w w'))
          case atStart => exact ⟨(a0), (a1), (true), (([] : List Bool)), (by first | rfl | (simp; done) | (simp [*]; done)), (by first | rfl | (simp; done) | (simp [*]; done)), (by first | rfl | (simp; done) | (simp [*]; done)), H', ⟨Nat.le_refl _⟩, ⟨by (with_reducible repeat (first | apply Kd.V_alloc | apply Kd.V_drewN | apply Kd.V_drew)); exact Kd.V_mono HO_4.out (fun _ hk => ⟨hk, (by simp [Value.ownBlock])⟩)⟩, ⟨by first | exact Kd.R_nil _ _ _ _ _ | exact Kd.N_nil _ _ _ _ _ | exact Kd.V_nil _ _ _ _ _ | exact Kd.Q_nil _ _ _ _ _ | exact Kd.S_nil _ _ _ _ _⟩, ⟨by repeat (first | (with_reducible first | exact HB.out | apply below_alloc | apply pw_below_drewN | apply below_drew1) | exact HB.out)⟩⟩
          case round =>
            clear H'
            try clear c1
            try clear c2
            try clear p2
            try clear c4
            try clear c7
            try clear c7b0
            try clear c8
            try clear c8b0
            try clear c10
            try clear c18
            try clear c19
            try clear c19b0
            try clear c19b1
            try clear c21
            try clear c21b0
            try clear c21b1
            try clear c22
            try clear p2
            obtain ⟨x0_2, x1_2, x11_2, x12_2, rfl, rfl, rfl, HA, HK2, HO_4, HO_12, HB⟩ := hrel
            cases gk with
            | zero => exact absurd HA.out (by simp [merkle_Extends.l0])
            | succ k2 =>
              have H := HA.out
              clear HA
              simp only [merkle_Extends.l0] at H
              by_cases c24 : x0_2 < x1_2
              · rw [if_pos c24] at H
                have c24b0 : decide (x0_2 < x1_2) = true := decide_eq_true c24
                clear c24
                replace H := Option.bind_eq_some_iff.mp H
                obtain ⟨t134, A250, H⟩ := H
                replace H : (if x12_2.length < 140737488355328 then ((some (x12_2 ++ [decide (x0_2 ≤ t134)] : List Bool)).bind fun y135 => (if x0_2 ≤ t134 then (merkle_Extends.l0 k2 x0_2 t134 a2 a3 l4 x11_2 y135) else (merkle_Extends.l0 k2 (wrap64 (x0_2 - t134)) (wrap64 (x1_2 - t134)) a2 a3 l4 false y135))) else (none)) = some r := H
                have A25 := Aside0.mk A250
                clear A250
                by_cases c26 : x12_2.length < 140737488355328
                · rw [if_pos c26] at H
                  have LMc26 := Aside0.mk c26
                  clear c26
                  obtain ⟨y135, hy135⟩ : ∃ y_ : List Bool, y_ = (x12_2 ++ [decide (x0_2 ≤ t134)]) := ⟨_, rfl⟩
                  replace H : (if x0_2 ≤ t134 then (merkle_Extends.l0 k2 x0_2 t134 a2 a3 l4 x11_2 y135) else (merkle_Extends.l0 k2 (wrap64 (x0_2 - t134)) (wrap64 (x1_2 - t134)) a2 a3 l4 false y135)) = some r := by first | (rw [hy135]; with_reducible exact H) | (have H2_ := (Option.bind_some _ _).symm.trans H; rw [hy135]; with_reducible exact H2_) | (have H2_ := (Option.bind_some _ _).symm.trans H; with_reducible exact H2_) | with_reducible exact H | (rw [hy135]; exact H) | exact H
                  have Ny135 := Aside0.mk hy135
                  clear hy135
                  by_cases c27 : x0_2 ≤ t134
                  · rw [if_pos c27] at H
                    have c27b0 : decide (x0_2 ≤ t134) = true := decide_eq_true c27
                    clear c27
                    have H' := Aside0.mk H
                    clear H
                    replace Ny135 : Aside0 (y135 = (x12_2 ++ [true] : List Bool)) := ⟨Eq.trans Ny135.out (by first | rfl | rw [c27b0])⟩
                    go_wp2_with (first | (go_at_call 38; (with_reducible refine (merkle_split.calls k2 x1_2 t134 _ A25.out).mono ?_); rintro e w' ⟨rfl, ⟨nd, rfl⟩⟩; (try first | exact ⟨rfl, _, World.drewN_drewN _ _ _⟩ | exact ⟨rfl, _, Eq.trans (World.drewN_drewN _ _ _) (congrArg (World.drewN _) (Nat.add_assoc _ _ _))⟩)) | ((with_reducible refine gate_builtin (b := .append) (xs := #[.tmp 56, .tmp 58]) rfl ?_); (try (refine gate_guard (by rfl) ?_; dsimp only)); at_builtin; refine Kd.R_append Kd.bool (w0 := w) w.heap.size rfl (.tmp 56) (.tmp 58) 52 4 (.bool false) 1 rfl Try.underlying52 info4 rfl (by decide) (by omega) u12 x12_2 true [.bool true] (fun k_ => (w.heap.size ≤ k_)) (fun _ => False) rfl rfl ?aP (fun _ hk => hk.elim) ?aF ?aO ?aB ?aS ?aL ?_; (case aP => exact rfl); (case aB => exact (by repeat (first | (with_reducible first | exact HB.out | apply below_alloc | apply pw_below_drewN | apply below_drew1) | exact HB.out))); (case aF => exact (fun k_ hk => (Nat.le_trans (below_size (by repeat (first | (with_reducible first | exact HB.out | apply below_alloc | apply pw_below_drewN | apply below_drew1) | exact HB.out))) hk))); (case aO => exact (by (with_reducible repeat (first | apply Kd.R_alloc | apply Kd.R_drewN | apply Kd.R_drew)); exact HO_12.out)); (case aS => exact (below_size (by repeat (first | (with_reducible first | exact HB.out | apply below_alloc | apply pw_below_drewN | apply below_drew1) | exact HB.out)))); (case aL => have := LMc26.out; omega); intro v136 w28 ho hb hg hat; rw [← Ny135.out] at ho; have n0_ := Aside0.mk (Kd.V_afterv (ok := (fun k_ => (P4_ k_ ∨ w.heap.size ≤ k_))) (by (with_reducible repeat (first | apply Kd.V_alloc | apply Kd.V_drewN | apply Kd.V_drew)); exact HO_4.out) hg hat); have n1_ := Aside0.mk (hb); have n2_ := Aside0.mk (ho); clear HO_4; clear HB; clear HO_12; have HO_4 := n0_; have HB := n1_; have HO137 := n2_; clear n0_ n1_ n2_; clear ho hb hg hat))
                    replace Ny135 : Aside0 (y135 = (x12_2 ++ [true] : List Bool)) := ⟨Eq.trans Ny135.out (by first | rfl | rw [c27b0])⟩
                    repeat (go_quiet (first | (go_at_call 38; (with_reducible refine (merkle_split.calls k2 x1_2 t134 _ A25.out).mono ?_); rintro e w' ⟨rfl, ⟨nd, rfl⟩⟩; (try first | exact ⟨rfl, _, World.drewN_drewN _ _ _⟩ | exact ⟨rfl, _, Eq.trans (World.drewN_drewN _ _ _) (congrArg (World.drewN _) (Nat.add_assoc _ _ _))⟩)) | ((with_reducible refine gate_builtin (b := .append) (xs := #[.tmp 56, .tmp 58]) rfl ?_); (try (refine gate_guard (by rfl) ?_; dsimp only)); at_builtin; refine Kd.R_append Kd.bool (w0 := w) w.heap.size rfl (.tmp 56) (.tmp 58) 52 4 (.bool false) 1 rfl Try.underlying52 info4 rfl (by decide) (by omega) u12 x12_2 true [.bool true] (fun k_ => (w.heap.size ≤ k_)) (fun _ => False) rfl rfl ?aP (fun _ hk => hk.elim) ?aF ?aO ?aB ?aS ?aL ?_; (case aP => exact rfl); (case aB => exact (by repeat (first | (with_reducible first | exact HB.out | apply below_alloc | apply pw_below_drewN | apply below_drew1) | exact HB.out))); (case aF => exact (fun k_ hk => (Nat.le_trans (below_size (by repeat (first | (with_reducible first | exact HB.out | apply below_alloc | apply pw_below_drewN | apply below_drew1) | exact HB.out))) hk))); (case aO => exact (by (with_reducible repeat (first | apply Kd.R_alloc | apply Kd.R_drewN | apply Kd.R_drew)); exact HO_12.out)); (case aS => exact (below_size (by repeat (first | (with_reducible first | exact HB.out | apply below_alloc | apply pw_below_drewN | apply below_drew1) | exact HB.out)))); (case aL => have := LMc26.out; omega); intro v136 w28 ho hb hg hat; rw [← Ny135.out] at ho; have n0_ := Aside0.mk (Kd.V_afterv (ok := (fun k_ => (P4_ k_ ∨ w.heap.size ≤ k_))) (by (with_reducible repeat (first | apply Kd.V_alloc | apply Kd.V_drewN | apply Kd.V_drew)); exact HO_4.out) hg hat); have n1_ := Aside0.mk (hb); have n2_ := Aside0.mk (ho); clear HO_4; clear HB; clear HO_12; have HO_4 := n0_; have HB := n1_; have HO137 := n2_; clear n0_ n1_ n2_; clear ho hb hg hat)); try go_wp2_with (first | (go_at_call 38; (with_reducible refine (merkle_split.calls k2 x1_2 t134 _ A25.out).mono ?_); rintro e w' ⟨rfl, ⟨nd, rfl⟩⟩; (try first | exact ⟨rfl, _, World.drewN_drewN _ _ _⟩ | exact ⟨rfl, _, Eq.trans (World.drewN_drewN _ _ _) (congrArg (World.drewN _) (Nat.add_assoc _ _ _))⟩)) | ((with_reducible refine gate_builtin (b := .append) (xs := #[.tmp 56, .tmp 58]) rfl ?_); (try (refine gate_guard (by rfl) ?_; dsimp only)); at_builtin; refine Kd.R_append Kd.bool (w0 := w) w.heap.size rfl (.tmp 56) (.tmp 58) 52 4 (.bool false) 1 rfl Try.underlying52 info4 rfl (by decide) (by omega) u12 x12_2 true [.bool true] (fun k_ => (w.heap.size ≤ k_)) (fun _ => False) rfl rfl ?aP (fun _ hk => hk.elim) ?aF ?aO ?aB ?aS ?aL ?_; (case aP => exact rfl); (case aB => exact (by repeat (first | (with_reducible first | exact HB.out | apply below_alloc | apply pw_below_drewN | apply below_drew1) | exact HB.out))); (case aF => exact (fun k_ hk => (Nat.le_trans (below_size (by repeat (first | (with_reducible first | exact HB.out | apply below_alloc | apply pw_below_drewN | apply below_drew1) | exact HB.out))) hk))); (case aO => exact (by (with_reducible repeat (first | apply Kd.R_alloc | apply Kd.R_drewN | apply Kd.R_drew)); exact HO_12.out)); (case aS => exact (below_size (by repeat (first | (with_reducible first | exact HB.out | apply below_alloc | apply pw_below_drewN | apply below_drew1) | exact HB.out)))); (case aL => have := LMc26.out; omega); intro v136 w28 ho hb hg hat; rw [← Ny135.out] at ho; have n0_ := Aside0.mk (Kd.V_afterv (ok := (fun k_ => (P4_ k_ ∨ w.heap.size ≤ k_))) (by (with_reducible repeat (first | apply Kd.V_alloc | apply Kd.V_drewN | apply Kd.V_drew)); exact HO_4.out) hg hat); have n1_ := Aside0.mk (hb); have n2_ := Aside0.mk (ho); clear HO_4; clear HB; clear HO_12; have HO_4 := n0_; have HB := n1_; have HO137 := n2_; clear n0_ n1_ n2_; clear ho hb hg hat)))
                    go_roundg k2
                    case measure => have := HJ5.out; have := HK2.out; omega
                    case rel => exact ⟨(x0_2), (t134), (x11_2), (y135), (by first | rfl | (simp; done) | (simp [*]; done)), (by first | rfl | (simp; done) | (simp [*]; done)), (by first | rfl | (simp; done) | (simp [*]; done)), H', ⟨by have := HJ5.out; have := HK2.out; omega⟩, ⟨by (with_reducible repeat (first | apply Kd.V_alloc | apply Kd.V_drewN | apply Kd.V_drew)); exact HO_4.out⟩, ⟨by (with_reducible repeat (first | apply Kd.R_alloc | apply Kd.R_drewN | apply Kd.R_drew)); exact HO137.out⟩, ⟨by repeat (first | (with_reducible first | exact HB.out | apply below_alloc | apply pw_below_drewN | apply below_drew1) | exact HB.out)⟩⟩
                  · rw [if_neg c27] at H
                    have c27b0 : decide (x0_2 ≤ t134) = false := decide_eq_false c27
                    clear c27
                    have H' := Aside0.mk H
                    clear H
                    replace Ny135 : Aside0 (y135 = (x12_2 ++ [false] : List Bool)) := ⟨Eq.trans Ny135.out (by first | rfl | rw [c27b0])⟩
                    go_wp2_with (first | (go_at_call 38; (with_reducible refine (merkle_split.calls k2 x1_2 t134 _ A25.out).mono ?_); rintro e w' ⟨rfl, ⟨nd, rfl⟩⟩; (try first | exact ⟨rfl, _, World.drewN_drewN _ _ _⟩ | exact ⟨rfl, _, Eq.trans (World.drewN_drewN _ _ _) (congrArg (World.drewN _) (Nat.add_assoc _ _ _))⟩)) | ((with_reducible refine gate_builtin (b := .append) (xs := #[.tmp 56, .tmp 58]) rfl ?_); (try (refine gate_guard (by rfl) ?_; dsimp only)); at_builtin; refine Kd.R_append Kd.bool (w0 := w) w.heap.size rfl (.tmp 56) (.tmp 58) 52 4 (.bool false) 1 rfl Try.underlying52 info4 rfl (by decide) (by omega) u12 x12_2 false [.bool false] (fun k_ => (w.heap.size ≤ k_)) (fun _ => False) rfl rfl ?aP (fun _ hk => hk.elim) ?aF ?aO ?aB ?aS ?aL ?_; (case aP => exact rfl); (case aB => exact (by repeat (first | (with_reducible first | exact HB.out | apply below_alloc | apply pw_below_drewN | apply below_drew1) | exact HB.out))); (case aF => exact (fun k_ hk => (Nat.le_trans (below_size (by repeat (first | (with_reducible first | exact HB.out | apply below_alloc | apply pw_below_drewN | apply below_drew1) | exact HB.out))) hk))); (case aO => exact (by (with_reducible repeat (first | apply Kd.R_alloc | apply Kd.R_drewN | apply Kd.R_drew)); exact HO_12.out)); (case aS => exact (below_size (by repeat (first | (with_reducible first | exact HB.out | apply below_alloc | apply pw_below_drewN | apply below_drew1) | exact HB.out)))); (case aL => have := LMc26.out; omega); intro v136 w29 ho hb hg hat; rw [← Ny135.out] at ho; have n0_ := Aside0.mk (Kd.V_afterv (ok := (fun k_ => (P4_ k_ ∨ w.heap.size ≤ k_))) (by (with_reducible repeat (first | apply Kd.V_alloc | apply Kd.V_drewN | apply Kd.V_drew)); exact HO_4.out) hg hat); have n1_ := Aside0.mk (hb); have n2_ := Aside0.mk (ho); clear HO_4; clear HB; clear HO_12; have HO_4 := n0_; have HB := n1_; have HO137 := n2_; clear n0_ n1_ n2_; clear ho hb hg hat))
                    replace Ny135 : Aside0 (y135 = (x12_2 ++ [false] : List Bool)) := ⟨Eq.trans Ny135.out (by first | rfl | rw [c27b0])⟩
                    repeat (go_quiet (first | (go_at_call 38; (with_reducible refine (merkle_split.calls k2 x1_2 t134 _ A25.out).mono ?_); rintro e w' ⟨rfl, ⟨nd, rfl⟩⟩; (try first | exact ⟨rfl, _, World.drewN_drewN _ _ _⟩ | exact ⟨rfl, _, Eq.trans (World.drewN_drewN _ _ _) (congrArg (World.drewN _) (Nat.add_assoc _ _ _))⟩)) | ((with_reducible refine gate_builtin (b := .append) (xs := #[.tmp 56, .tmp 58]) rfl ?_); (try (refine gate_guard (by rfl) ?_; dsimp only)); at_builtin; refine Kd.R_append Kd.bool (w0 := w) w.heap.size rfl (.tmp 56) (.tmp 58) 52 4 (.bool false) 1 rfl Try.underlying52 info4 rfl (by decide) (by omega) u12 x12_2 false [.bool false] (fun k_ => (w.heap.size ≤ k_)) (fun _ => False) rfl rfl ?aP (fun _ hk => hk.elim) ?aF ?aO ?aB ?aS ?aL ?_; (case aP => exact rfl); (case aB => exact (by repeat (first | (with_reducible first | exact HB.out | apply below_alloc | apply pw_below_drewN | apply below_drew1) | exact HB.out))); (case aF => exact (fun k_ hk => (Nat.le_trans (below_size (by repeat (first | (with_reducible first | exact HB.out | apply below_alloc | apply pw_below_drewN | apply below_drew1) | exact HB.out))) hk))); (case aO => exact (by (with_reducible repeat (first | apply Kd.R_alloc | apply Kd.R_drewN | apply Kd.R_drew)); exact HO_12.out)); (case aS => exact (below_size (by repeat (first | (with_reducible first | exact HB.out | apply below_alloc | apply pw_below_drewN | apply below_drew1) | exact HB.out)))); (case aL => have := LMc26.out; omega); intro v136 w29 ho hb hg hat; rw [← Ny135.out] at ho; have n0_ := Aside0.mk (Kd.V_afterv (ok := (fun k_ => (P4_ k_ ∨ w.heap.size ≤ k_))) (by (with_reducible repeat (first | apply Kd.V_alloc | apply Kd.V_drewN | apply Kd.V_drew)); exact HO_4.out) hg hat); have n1_ := Aside0.mk (hb); have n2_ := Aside0.mk (ho); clear HO_4; clear HB; clear HO_12; have HO_4 := n0_; have HB := n1_; have HO137 := n2_; clear n0_ n1_ n2_; clear ho hb hg hat)); try go_wp2_with (first | (go_at_call 38; (with_reducible refine (merkle_split.calls k2 x1_2 t134 _ A25.out).mono ?_); rintro e w' ⟨rfl, ⟨nd, rfl⟩⟩; (try first | exact ⟨rfl, _, World.drewN_drewN _ _ _⟩ | exact ⟨rfl, _, Eq.trans (World.drewN_drewN _ _ _) (congrArg (World.drewN _) (Nat.add_assoc _ _ _))⟩)) | ((with_reducible refine gate_builtin (b := .append) (xs := #[.tmp 56, .tmp 58]) rfl ?_); (try (refine gate_guard (by rfl) ?_; dsimp only)); at_builtin; refine Kd.R_append Kd.bool (w0 := w) w.heap.size rfl (.tmp 56) (.tmp 58) 52 4 (.bool false) 1 rfl Try.underlying52 info4 rfl (by decide) (by omega) u12 x12_2 false [.bool false] (fun k_ => (w.heap.size ≤ k_)) (fun _ => False) rfl rfl ?aP (fun _ hk => hk.elim) ?aF ?aO ?aB ?aS ?aL ?_; (case aP => exact rfl); (case aB => exact (by repeat (first | (with_reducible first | exact HB.out | apply below_alloc | apply pw_below_drewN | apply below_drew1) | exact HB.out))); (case aF => exact (fun k_ hk => (Nat.le_trans (below_size (by repeat (first | (with_reducible first | exact HB.out | apply below_alloc | apply pw_below_drewN | apply below_drew1) | exact HB.out))) hk))); (case aO => exact (by (with_reducible repeat (first | apply Kd.R_alloc | apply Kd.R_drewN | apply Kd.R_drew)); exact HO_12.out)); (case aS => exact (below_size (by repeat (first | (with_reducible first | exact HB.out | apply below_alloc | apply pw_below_drewN | apply below_drew1) | exact HB.out)))); (case aL => have := LMc26.out; omega); intro v136 w29 ho hb hg hat; rw [← Ny135.out] at ho; have n0_ := Aside0.mk (Kd.V_afterv (ok := (fun k_ => (P4_ k_ ∨ w.heap.size ≤ k_))) (by (with_reducible repeat (first | apply Kd.V_alloc | apply Kd.V_drewN | apply Kd.V_drew)); exact HO_4.out) hg hat); have n1_ := Aside0.mk (hb); have n2_ := Aside0.mk (ho); clear HO_4; clear HB; clear HO_12; have HO_4 := n0_; have HB := n1_; have HO137 := n2_; clear n0_ n1_ n2_; clear ho hb hg hat)))
                    go_roundg k2
                    case measure => have := HJ5.out; have := HK2.out; omega
                    case rel => exact ⟨(wrap64 (x0_2 - t134)), (wrap64 (x1_2 - t134)), (false), (y135), (by first | rfl | (simp; done) | (simp [*]; done)), (by first | rfl | (simp; done) | (simp [*]; done)), (by first | rfl | (simp; done) | (simp [*]; done)), H', ⟨by have := HJ5.out; have := HK2.out; omega⟩, ⟨by (with_reducible repeat (first | apply Kd.V_alloc | apply Kd.V_drewN | apply Kd.V_drew)); exact HO_4.out⟩, ⟨by (with_reducible repeat (first | apply Kd.R_alloc | apply Kd.R_drewN | apply Kd.R_drew)); exact HO137.out⟩, ⟨by repeat (first | (with_reducible first | exact HB.out | apply below_alloc | apply pw_below_drewN | apply below_drew1) | exact HB.out)⟩⟩
                · rw [if_neg c26] at H
                  exact absurd H (by simp)
              · rw [if_neg c24] at H
                have c24b0 : decide (x0_2 < x1_2) = false := decide_eq_false c24
                clear c24
                have HC30 := Aside0.mk H
                clear H
                go_upto_if 71 with (fail)
                repeat (go_quiet (fail); go_upto_if 71 with (fail))
                go_cut [4, 15, 16] (fun v4 v15 v16 wc => ∃ (kq : Nat) (x4_29 : List ByteArray) (x15_29 : ByteArray) (x16_29 : ByteArray), v15 = .string x15_29 ∧ v16 = .string x16_29 ∧ Aside0 (merkle_Extends.j2 kq a2 a3 x4_29 x12_2 x15_29 x16_29 = some r) ∧ Aside0 (kq ≤ k2) ∧ Aside0 (Kd.V Kd.string 9 wc w.heap.size (fun k_ => (P4_ k_ ∨ w.heap.size ≤ k_) ∧ some k_ ≠ (u12 : Value).ownBlock) v4 x4_29) ∧ Aside0 (Kd.R Kd.bool 4 wc w.heap.size (fun k_ => (w.heap.size ≤ k_)) u12 x12_2) ∧ Aside0 (Below w.heap.size w wc))
                case first =>
                  have H := HC30.out
                  clear HC30
                  by_cases c31 : x11_2 = true
                  · subst c31
                    have H1 : (merkle_Extends.j2 k2 a2 a3 l4 x12_2 a2 a2) = some r := by rw [if_pos rfl] at H; exact H
                    clear H
                    have H := H1
                    clear H1
                    have H' := Aside0.mk H
                    clear H
                    go_wp2
                    repeat (go_quiet (fail); try go_wp2)
                    go_meet
                    case rel => exact ⟨_, (l4), (a2), (a2), (by first | rfl | (simp; done) | (simp [*]; done)), (by first | rfl | (simp; done) | (simp [*]; done)), H', ⟨by have := HJ5.out; have := HK2.out; first | omega | exact Nat.le_refl _⟩, ⟨by (with_reducible repeat (first | apply Kd.V_alloc | apply Kd.V_drewN | apply Kd.V_drew)); exact HO_4.out⟩, ⟨by (with_reducible repeat (first | apply Kd.R_alloc | apply Kd.R_drewN | apply Kd.R_drew)); exact HO_12.out⟩, ⟨by repeat (first | (with_reducible first | exact HB.out | apply below_alloc | apply pw_below_drewN | apply below_drew1) | exact HB.out)⟩⟩
                  · replace c31 := Bool.eq_false_iff.mpr c31
                    subst c31
                    have H1 : (if (l4.length : Int) = 0 then (some false) else (if 0 < (l4.length : Int) then (if 1 ≤ (l4.length : Int) then (merkle_Extends.j2 k2 a2 a3 (l4.drop 1) x12_2 (rdOf ByteArray.empty l4 0) (rdOf ByteArray.empty l4 0)) else (none)) else (none))) = some r := by rw [if_neg (show ¬ (false = true) by decide)] at H; exact H
                    clear H
                    have H := H1
                    clear H1
                    by_cases c32 : (l4.length : Int) = 0
                    · rw [if_pos c32] at H
                      have c32b0 : ((l4.length : Int) == 0) = true := beq_iff_eq.mpr c32
                      have c32b1 : ((l4.length : Int) != 0) = false := bne_eq_false_iff_eq.mpr c32
                      clear c32
                      (first | rw [c32b0] | (simp only [i64_w, i32_w]; rw [c32b0]) | skip)
                      obtain rfl := Option.some.inj H
                      go_wp2
                      repeat (go_quiet (fail); try go_wp2)
                      go_ret
                      exact ⟨by first | rfl | (simp [errW_none, errW_some] <;> rfl) | (simp [*, errW_none, errW_some] <;> rfl), by repeat (first | (with_reducible first | exact HB.out | apply below_alloc | apply pw_below_drewN | apply below_drew1) | exact HB.out)⟩
                    · rw [if_neg c32] at H
                      have c32b0 : ((l4.length : Int) == 0) = false := beq_eq_false_iff_ne.mpr c32
                      have c32b1 : ((l4.length : Int) != 0) = true := bne_iff_ne.mpr c32
                      have c32b2 : ¬ (l4 = []) := fun h_ => c32 (by rw [h_]; rfl)
                      (first | rw [c32b0] | (simp only [i64_w, i32_w]; rw [c32b0]) | skip)
                      by_cases c33 : 0 < (l4.length : Int)
                      · rw [if_pos c33] at H
                        have c33b0 : decide (0 < (l4.length : Int)) = true := decide_eq_true c33
                        have c33b1 : decide (0 < l4.length) = true := decide_eq_true (by omega)
                        clear c33
                        by_cases c34 : 1 ≤ (l4.length : Int)
                        · rw [if_pos c34] at H
                          have c34b0 := eq_true c34
                          have c34b1 : decide (1 ≤ (l4.length : Int)) = true := decide_eq_true c34
                          clear c34
                          obtain ⟨y140, hy140⟩ : ∃ y_ : List ByteArray, y_ = (l4.drop 1) := ⟨_, rfl⟩
                          replace H : (merkle_Extends.j2 k2 a2 a3 y140 x12_2 (rdOf ByteArray.empty l4 0) (rdOf ByteArray.empty l4 0)) = some r := by first | (rw [hy140]; with_reducible exact H) | (have H2_ := (Option.bind_some _ _).symm.trans H; rw [hy140]; with_reducible exact H2_) | (have H2_ := (Option.bind_some _ _).symm.trans H; with_reducible exact H2_) | with_reducible exact H | (rw [hy140]; exact H) | exact H
                          have Ny140 := Aside0.mk hy140
                          clear hy140
                          have H' := Aside0.mk H
                          clear H
                          have p138 : 0 ≤ (0 : Int) := (by omega)
                          have q138 : 0 < (l4.length : Int) := of_decide_eq_true (by first | (with_reducible assumption) | assumption)
                          obtain ⟨ad138, e138, hx138_0⟩ := Kd.at_string (Kd.V_reads' HO_4.out).2.2 0 p138 q138
                          cases e138
                          have qi138 : (0 < l4.length) = True := eq_true (by omega)
                          (try rw [show ((0 : Int)).toNat = 0 from rfl] at hx138_0)
                          (try rw [Addr.add_zero'] at hx138_0)
                          replace p138 := eq_true p138
                          replace q138 := eq_true q138
                          have p139 : 0 ≤ (0 : Int) := (by omega)
                          have q139 : 0 < (l4.length : Int) := of_decide_eq_true (by first | (with_reducible assumption) | assumption)
                          obtain ⟨ad139, e139, hx139_0⟩ := Kd.at_string (Kd.V_reads' HO_4.out).2.2 0 p139 q139
                          obtain rfl : ad138 = ad139 := (by injection e139)
                          have qi139 : (0 < l4.length) = True := eq_true (by omega)
                          (try rw [show ((0 : Int)).toNat = 0 from rfl] at hx139_0)
                          (try rw [Addr.add_zero'] at hx139_0)
                          replace p139 := eq_true p139
                          replace q139 := eq_true q139
                          have q35 : (1 : Int) ≤ ((l4.length : Int) : Int) := of_decide_eq_true (by first | (with_reducible assumption) | assumption)
                          obtain ⟨i035, hi035, _, hsz35, _⟩ := info_parts info9
                          have hroom35 : l4.length ≤ c4 := (Kd.V_reads' HO_4.out).2.1
                          have hC35 : Kd.F Kd.string _ _ (some ad138) l4.length l4 := (Kd.V_at (base := w.heap.size) HO_4.out).2.2
                          have hcut35 := cut_from (P := Try.prog) 22 9 .i64 Try.underlying22 hi035 1 hsz35 (some ad138) l4.length c4 1 (by omega) q35
                          have hr35 := Kd.F_cut (m := (1 : Int).toNat) (c := c4) hC35 (by omega) hroom35
                          obtain ⟨A35, hA35⟩ : ∃ A1, A1 = (if c4 = (1 : Int).toNat then (some ad138) else ((some ad138) : Option Addr).map (·.add ((1 : Int).toNat * 1))) := ⟨_, rfl⟩
                          obtain ⟨c35, hc35⟩ : ∃ c1, c1 = c4 - (1 : Int).toNat := ⟨_, rfl⟩
                          have hy35 : y140.length = l4.length - (1 : Int).toNat := (by rw [Ny140.out, List.length_drop] <;> omega)
                          rw [show (l4).drop (1 : Int).toNat = y140 from Ny140.out.symm] at hr35
                          replace hr35 : Kd.F Kd.string _ _ A35 y140.length y140 := (by rw [hA35]; exact hr35)
                          rw [← hy35, ← hA35, ← hc35] at hcut35
                          have HO144 := Aside0.mk (show Kd.V Kd.string 9 _ w.heap.size _ (.slice A35 y140.length c35) y140 from Kd.V_mk (by rw [hy35, hc35]; exact Nat.sub_le_sub_right hroom35 _) hr35)
                          have HC144 := Aside0.mk (show y140.length ≤ c35 from by rw [hy35, hc35]; exact Nat.sub_le_sub_right hroom35 _)
                          clear hr35 hC35 hroom35 hi035 hsz35 hc35
                          have KY35 := Aside0.mk hy35
                          have KA35 := Aside0.mk hA35
                          clear hy35 hA35
                          replace q35 := eq_true q35
                          go_wp2
                          repeat (go_quiet (fail); try go_wp2)
                          go_meet
                          case rel => exact ⟨_, (y140), (rdOf ByteArray.empty l4 0), (rdOf ByteArray.empty l4 0), (by first | rfl | (simp; done) | (simp [*]; done)), (by first | rfl | (simp; done) | (simp [*]; done)), H', ⟨by have := HJ5.out; have := HK2.out; first | omega | exact Nat.le_refl _⟩, ⟨by (with_reducible repeat (first | apply Kd.V_alloc | apply Kd.V_drewN | apply Kd.V_drew)); exact HO144.out⟩, ⟨by (with_reducible repeat (first | apply Kd.R_alloc | apply Kd.R_drewN | apply Kd.R_drew)); exact HO_12.out⟩, ⟨by repeat (first | (with_reducible first | exact HB.out | apply below_alloc | apply pw_below_drewN | apply below_drew1) | exact HB.out)⟩⟩
                        · rw [if_neg c34] at H
                          exact absurd H (by simp)
                      · rw [if_neg c33] at H
                        exact absurd H (by simp)
                case rest =>
                  clear HC30
                  try clear c1
                  try clear p1
                  try clear q1
                  try clear hx1
                  try clear qi1
                  try clear c2
                  try clear p2
                  try clear c3
                  try clear q3
                  try clear c4
                  try clear p6
                  try clear c7
                  try clear c7b0
                  try clear c8
                  try clear c8b0
                  try clear c10
                  try clear p13
                  try clear q13
                  try clear hx13
                  try clear qi13
                  try clear c18
                  try clear c19
                  try clear c19b0
                  try clear c19b1
                  try clear c21
                  try clear c21b0
                  try clear c21b1
                  try clear c22
                  try clear c24
                  try clear c24b0
                  try clear c26
                  try clear c27
                  try clear c27b0
                  try clear c31
                  try clear c32
                  try clear c32b0
                  try clear c32b1
                  try clear c32b2
                  try clear c33
                  try clear c33b0
                  try clear c33b1
                  try clear c34
                  try clear c34b0
                  try clear c34b1
                  try clear c35
                  try clear q35
                  try clear hx138_0
                  try clear hx139_0
                  try clear p138
                  try clear p139
                  try clear p2
                  try clear q138
                  try clear q139
                  try clear q35
                  obtain ⟨kq, x4_29, x15_29, x16_29, rfl, rfl, HA, HJ29, HO_4, HO_12, HB⟩ := hcut
                  cases kq with
                  | zero => exact absurd HA.out (by simp [merkle_Extends.j2])
                  | succ kj29 =>
                    have H := HA.out
                    clear HA
                    simp only [merkle_Extends.j2] at H
                    by_cases c36 : (x4_29.length : Int) = (x12_2.length : Int)
                    · rw [if_pos c36] at H
                      have c36b0 : ((x4_29.length : Int) == (x12_2.length : Int)) = true := beq_iff_eq.mpr c36
                      have c36b1 : ((x4_29.length : Int) != (x12_2.length : Int)) = false := bne_eq_false_iff_eq.mpr c36
                      have c36b2 : (x4_29.length == x12_2.length) = true := by first | simpa using c36 | (simp at c36 ⊢; omega)
                      clear c36
                      have H' := Aside0.mk H
                      clear H
                      obtain ⟨Ao37, co37, eo37⟩ := Kd.V_slice HO_4.out
                      subst eo37
                      obtain ⟨Ao38, co38, eo38⟩ := Kd.R_slice HO_12.out
                      subst eo38
                      go_wp2
                      repeat (go_quiet (fail); try go_wp2)
                      go_loopg [15, 16, 90] kj29 (fun kq v15 v16 v90 w' => ∃ (x15_4 : ByteArray) (x16_4 : ByteArray) (x90_4 : Int), v15 = .string x15_4 ∧ v16 = .string x16_4 ∧ v90 = .int .i64 x90_4 ∧ Aside0 (merkle_Extends.l1 kq a2 a3 x12_2 x15_4 x16_4 x4_29 (x4_29.length : Int) x90_4 = some r) ∧ Aside0 (kq ≤ kj29) ∧ Aside0 (Kd.R Kd.bool 4 w' w.heap.size (fun k_ => (w.heap.size ≤ k_)) (.slice Ao38 x12_2.length co38) x12_2) ∧ Aside0 (Kd.V Kd.string 9 w' w.heap.size (fun k_ => (P4_ k_ ∨ w.heap.size ≤ k_) ∧ some k_ ≠ ((.slice Ao38 x12_2.length co38) : Value).ownBlock) (.slice Ao37 x4_29.length co37) x4_29) ∧ Aside0 (Below w.heap.size w w'))
                      case atStart => exact ⟨(x15_29), (x16_29), (0), (by first | rfl | (simp; done) | (simp [*]; done)), (by first | rfl | (simp; done) | (simp [*]; done)), (by first | rfl | (simp; done) | (simp [*]; done)), H', ⟨Nat.le_refl _⟩, ⟨by (with_reducible repeat (first | apply Kd.R_alloc | apply Kd.R_drewN | apply Kd.R_drew)); exact HO_12.out⟩, ⟨by (with_reducible repeat (first | apply Kd.V_alloc | apply Kd.V_drewN | apply Kd.V_drew)); exact HO_4.out⟩, ⟨by repeat (first | (with_reducible first | exact HB.out | apply below_alloc | apply pw_below_drewN | apply below_drew1) | exact HB.out)⟩⟩
                      case round =>
                        clear H'
                        try clear c1
                        try clear p1
                        try clear q1
                        try clear hx1
                        try clear qi1
                        try clear c2
                        try clear p2
                        try clear c3
                        try clear q3
                        try clear c4
                        try clear p6
                        try clear c7
                        try clear c7b0
                        try clear c8
                        try clear c8b0
                        try clear c10
                        try clear p13
                        try clear q13
                        try clear hx13
                        try clear qi13
                        try clear c18
                        try clear c19
                        try clear c19b0
                        try clear c19b1
                        try clear c21
                        try clear c21b0
                        try clear c21b1
                        try clear c22
                        try clear c24
                        try clear c24b0
                        try clear c26
                        try clear c27
                        try clear c27b0
                        try clear c31
                        try clear c32
                        try clear c32b0
                        try clear c32b1
                        try clear c32b2
                        try clear c33
                        try clear c33b0
                        try clear c33b1
                        try clear c34
                        try clear c34b0
                        try clear c34b1
                        try clear c35
                        try clear q35
                        try clear c36
                        try clear c36b0
                        try clear c36b1
                        try clear c36b2
                        try clear hx138_0
                        try clear hx139_0
                        try clear p1
                        try clear p13
                        try clear p138
                        try clear p139
                        try clear p2
                        try clear p6
                        try clear q1
                        try clear q13
                        try clear q138
                        try clear q139
                        try clear q3
                        try clear q35
                        obtain ⟨x15_4, x16_4, x90_4, rfl, rfl, rfl, HA, HK4, HO_12, HO_88, HB⟩ := hrel
                        cases gk with
                        | zero => exact absurd HA.out (by simp [merkle_Extends.l1])
                        | succ k4 =>
                          have H := HA.out
                          clear HA
                          simp only [merkle_Extends.l1] at H
                          by_cases c39 : x90_4 < (x4_29.length : Int)
                          · rw [if_pos c39] at H
                            have c39b0 : decide (x90_4 < (x4_29.length : Int)) = true := decide_eq_true c39
                            clear c39
                            by_cases c40 : 0 ≤ x90_4
                            · rw [if_pos c40] at H
                              have c40b0 : decide (0 ≤ x90_4) = true := decide_eq_true c40
                              clear c40
                              by_cases c41 : x90_4 < (x4_29.length : Int)
                              · rw [if_pos c41] at H
                                have c41b0 : decide (x90_4 < (x4_29.length : Int)) = true := decide_eq_true c41
                                clear c41
                                obtain ⟨ji42, hji42⟩ : ∃ j_ : Int, (wrap64 ((wrap64 ((x12_2.length : Int) - 1)) - x90_4)) = j_ := ⟨_, rfl⟩
                                replace H : (if 0 ≤ (ji42) then (if (ji42) < (x12_2.length : Int) then (if rdOf false x12_2 (ji42) = true then ((merkle_node.f x16_4 (rdOf ByteArray.empty x4_29 x90_4)).bind fun t147 => (merkle_Extends.l1 k4 a2 a3 x12_2 x15_4 t147 x4_29 (x4_29.length : Int) (wrap64 (x90_4 + 1)))) else ((merkle_node.f (rdOf ByteArray.empty x4_29 x90_4) x15_4).bind fun t148 => ((merkle_node.f (rdOf ByteArray.empty x4_29 x90_4) x16_4).bind fun t149 => (merkle_Extends.l1 k4 a2 a3 x12_2 t148 t149 x4_29 (x4_29.length : Int) (wrap64 (x90_4 + 1)))))) else (none)) else (none)) = some r := by first | (rw [hji42] at H; exact H) | (simp only [hji42] at H ⊢; exact H)
                                have hji42w : (IntKind.i64.wrap ((wrap64 ((x12_2.length : Int) - 1)) - x90_4)) = ji42 := (i64_w _).trans hji42
                                by_cases c43 : 0 ≤ (ji42)
                                · rw [if_pos c43] at H
                                  have c43b0 : decide (0 ≤ (ji42)) = true := decide_eq_true c43
                                  clear c43
                                  by_cases c44 : (ji42) < (x12_2.length : Int)
                                  · rw [if_pos c44] at H
                                    have c44b0 : decide ((ji42) < (x12_2.length : Int)) = true := decide_eq_true c44
                                    clear c44
                                    obtain ⟨bq45, hbq45⟩ : ∃ b_ : Bool, b_ = (rdOf false x12_2 (ji42)) := ⟨_, rfl⟩
                                    replace H : (if bq45 = true then ((merkle_node.f x16_4 (rdOf ByteArray.empty x4_29 x90_4)).bind fun t147 => (merkle_Extends.l1 k4 a2 a3 x12_2 x15_4 t147 x4_29 (x4_29.length : Int) (wrap64 (x90_4 + 1)))) else ((merkle_node.f (rdOf ByteArray.empty x4_29 x90_4) x15_4).bind fun t148 => ((merkle_node.f (rdOf ByteArray.empty x4_29 x90_4) x16_4).bind fun t149 => (merkle_Extends.l1 k4 a2 a3 x12_2 t148 t149 x4_29 (x4_29.length : Int) (wrap64 (x90_4 + 1)))))) = some r := by rw [← hbq45] at H; exact H
                                    have Nbq45 := Aside0.mk hbq45
                                    clear hbq45
                                    by_cases c46 : bq45 = true
                                    · subst c46
                                      have H1 : ((merkle_node.f x16_4 (rdOf ByteArray.empty x4_29 x90_4)).bind fun t147 => (merkle_Extends.l1 k4 a2 a3 x12_2 x15_4 t147 x4_29 (x4_29.length : Int) (wrap64 (x90_4 + 1)))) = some r := by rw [if_pos rfl] at H; exact H
                                      clear H
                                      have H := H1
                                      clear H1
                                      replace H := Option.bind_eq_some_iff.mp H
                                      obtain ⟨t147, A470, H⟩ := H
                                      replace H : (merkle_Extends.l1 k4 a2 a3 x12_2 x15_4 t147 x4_29 (x4_29.length : Int) (wrap64 (x90_4 + 1))) = some r := H
                                      have A47 := Aside0.mk A470
                                      clear A470
                                      have H' := Aside0.mk H
                                      clear H
                                      have p145 : 0 ≤ (x90_4 : Int) := of_decide_eq_true (by first | (with_reducible assumption) | assumption)
                                      have q145 : x90_4 < (x4_29.length : Int) := of_decide_eq_true (by first | (with_reducible assumption) | assumption)
                                      obtain ⟨ad145, e145, hx145_0⟩ := Kd.at_string (Kd.V_reads' HO_88.out).2.2 x90_4 p145 q145
                                      cases e145
                                      replace p145 := eq_true p145
                                      replace q145 := eq_true q145
                                      have p146 : 0 ≤ ((ji42) : Int) := of_decide_eq_true (by first | (with_reducible assumption) | assumption)
                                      have q146 : (ji42) < (x12_2.length : Int) := of_decide_eq_true (by first | (with_reducible assumption) | assumption)
                                      obtain ⟨ad146, e146, hx146_0⟩ := Kd.at_bool (Kd.R_reads' HO_12.out).2.2 (ji42) p146 q146
                                      (try rw [← Nbq45.out] at hx146_0)
                                      cases e146
                                      replace p146 := eq_true p146
                                      replace q146 := eq_true q146
                                      go_wp2_with (first | (go_at_call 32; (with_reducible refine (merkle_node.calls x16_4 (rdOf ByteArray.empty x4_29 x90_4) t147 _ A47.out).mono ?_); rintro e w48 ⟨rfl, hb⟩; have n0_ := Aside0.mk (Kd.R_below (by (with_reducible repeat (first | apply Kd.R_alloc | apply Kd.R_drewN | apply Kd.R_drew)); exact HO_12.out) hb); have n1_ := Aside0.mk (Kd.V_below (by (with_reducible repeat (first | apply Kd.V_alloc | apply Kd.V_drewN | apply Kd.V_drew)); exact HO_88.out) hb); have n2_ := Aside0.mk (below_step (by repeat (first | (with_reducible first | exact HB.out | apply below_alloc | apply pw_below_drewN | apply below_drew1) | exact HB.out)) hb); clear HO_12; clear HO_88; clear HB; have HO_12 := n0_; have HO_88 := n1_; have HB := n2_; clear n0_ n1_ n2_; (try clear hb); (try clear hb2); (try clear hk); (try clear hi)))
                                      repeat (go_quiet (first | (go_at_call 32; (with_reducible refine (merkle_node.calls x16_4 (rdOf ByteArray.empty x4_29 x90_4) t147 _ A47.out).mono ?_); rintro e w48 ⟨rfl, hb⟩; have n0_ := Aside0.mk (Kd.R_below (by (with_reducible repeat (first | apply Kd.R_alloc | apply Kd.R_drewN | apply Kd.R_drew)); exact HO_12.out) hb); have n1_ := Aside0.mk (Kd.V_below (by (with_reducible repeat (first | apply Kd.V_alloc | apply Kd.V_drewN | apply Kd.V_drew)); exact HO_88.out) hb); have n2_ := Aside0.mk (below_step (by repeat (first | (with_reducible first | exact HB.out | apply below_alloc | apply pw_below_drewN | apply below_drew1) | exact HB.out)) hb); clear HO_12; clear HO_88; clear HB; have HO_12 := n0_; have HO_88 := n1_; have HB := n2_; clear n0_ n1_ n2_; (try clear hb); (try clear hb2); (try clear hk); (try clear hi))); try go_wp2_with (first | (go_at_call 32; (with_reducible refine (merkle_node.calls x16_4 (rdOf ByteArray.empty x4_29 x90_4) t147 _ A47.out).mono ?_); rintro e w48 ⟨rfl, hb⟩; have n0_ := Aside0.mk (Kd.R_below (by (with_reducible repeat (first | apply Kd.R_alloc | apply Kd.R_drewN | apply Kd.R_drew)); exact HO_12.out) hb); have n1_ := Aside0.mk (Kd.V_below (by (with_reducible repeat (first | apply Kd.V_alloc | apply Kd.V_drewN | apply Kd.V_drew)); exact HO_88.out) hb); have n2_ := Aside0.mk (below_step (by repeat (first | (with_reducible first | exact HB.out | apply below_alloc | apply pw_below_drewN | apply below_drew1) | exact HB.out)) hb); clear HO_12; clear HO_88; clear HB; have HO_12 := n0_; have HO_88 := n1_; have HB := n2_; clear n0_ n1_ n2_; (try clear hb); (try clear hb2); (try clear hk); (try clear hi))))
                                      go_roundg k4
                                      case measure => have := HJ5.out; have := HK2.out; have := HJ29.out; have := HK4.out; omega
                                      case rel => exact ⟨(x15_4), (t147), (wrap64 (x90_4 + 1)), (by first | rfl | (simp; done) | (simp [*]; done)), (by first | rfl | (simp; done) | (simp [*]; done)), (by first | rfl | (simp; done) | (simp [*]; done)), H', ⟨by have := HJ5.out; have := HK2.out; have := HJ29.out; have := HK4.out; omega⟩, ⟨by (with_reducible repeat (first | apply Kd.R_alloc | apply Kd.R_drewN | apply Kd.R_drew)); exact HO_12.out⟩, ⟨by (with_reducible repeat (first | apply Kd.V_alloc | apply Kd.V_drewN | apply Kd.V_drew)); exact HO_88.out⟩, ⟨by repeat (first | (with_reducible first | exact HB.out | apply below_alloc | apply pw_below_drewN | apply below_drew1) | exact HB.out)⟩⟩
                                    · replace c46 := Bool.eq_false_iff.mpr c46
                                      subst c46
                                      have H1 : ((merkle_node.f (rdOf ByteArray.empty x4_29 x90_4) x15_4).bind fun t148 => ((merkle_node.f (rdOf ByteArray.empty x4_29 x90_4) x16_4).bind fun t149 => (merkle_Extends.l1 k4 a2 a3 x12_2 t148 t149 x4_29 (x4_29.length : Int) (wrap64 (x90_4 + 1))))) = some r := by rw [if_neg (show ¬ (false = true) by decide)] at H; exact H
                                      clear H
                                      have H := H1
                                      clear H1
                                      replace H := Option.bind_eq_some_iff.mp H
                                      obtain ⟨t148, A490, H⟩ := H
                                      replace H : ((merkle_node.f (rdOf ByteArray.empty x4_29 x90_4) x16_4).bind fun t149 => (merkle_Extends.l1 k4 a2 a3 x12_2 t148 t149 x4_29 (x4_29.length : Int) (wrap64 (x90_4 + 1)))) = some r := H
                                      have A49 := Aside0.mk A490
                                      clear A490
                                      replace H := Option.bind_eq_some_iff.mp H
                                      obtain ⟨t149, A500, H⟩ := H
                                      replace H : (merkle_Extends.l1 k4 a2 a3 x12_2 t148 t149 x4_29 (x4_29.length : Int) (wrap64 (x90_4 + 1))) = some r := H
                                      have A50 := Aside0.mk A500
                                      clear A500
                                      have H' := Aside0.mk H
                                      clear H
                                      have p145 : 0 ≤ (x90_4 : Int) := of_decide_eq_true (by first | (with_reducible assumption) | assumption)
                                      have q145 : x90_4 < (x4_29.length : Int) := of_decide_eq_true (by first | (with_reducible assumption) | assumption)
                                      obtain ⟨ad145, e145, hx145_0⟩ := Kd.at_string (Kd.V_reads' HO_88.out).2.2 x90_4 p145 q145
                                      cases e145
                                      replace p145 := eq_true p145
                                      replace q145 := eq_true q145
                                      have p146 : 0 ≤ ((ji42) : Int) := of_decide_eq_true (by first | (with_reducible assumption) | assumption)
                                      have q146 : (ji42) < (x12_2.length : Int) := of_decide_eq_true (by first | (with_reducible assumption) | assumption)
                                      obtain ⟨ad146, e146, hx146_0⟩ := Kd.at_bool (Kd.R_reads' HO_12.out).2.2 (ji42) p146 q146
                                      (try rw [← Nbq45.out] at hx146_0)
                                      cases e146
                                      replace p146 := eq_true p146
                                      replace q146 := eq_true q146
                                      go_wp2_with (first | (go_at_call 32; (with_reducible refine (merkle_node.calls (rdOf ByteArray.empty x4_29 x90_4) x15_4 t148 _ A49.out).mono ?_); rintro e w51 ⟨rfl, hb⟩; have n0_ := Aside0.mk (Kd.R_below (by (with_reducible repeat (first | apply Kd.R_alloc | apply Kd.R_drewN | apply Kd.R_drew)); exact HO_12.out) hb); have n1_ := Aside0.mk (Kd.V_below (by (with_reducible repeat (first | apply Kd.V_alloc | apply Kd.V_drewN | apply Kd.V_drew)); exact HO_88.out) hb); have n2_ := Aside0.mk (below_step (by repeat (first | (with_reducible first | exact HB.out | apply below_alloc | apply pw_below_drewN | apply below_drew1) | exact HB.out)) hb); clear HO_12; clear HO_88; clear HB; have HO_12 := n0_; have HO_88 := n1_; have HB := n2_; clear n0_ n1_ n2_; (try clear hb); (try clear hb2); (try clear hk); (try clear hi)) | (go_at_call 32; (with_reducible refine (merkle_node.calls (rdOf ByteArray.empty x4_29 x90_4) x16_4 t149 _ A50.out).mono ?_); rintro e w52 ⟨rfl, hb⟩; have n0_ := Aside0.mk (Kd.R_below (by (with_reducible repeat (first | apply Kd.R_alloc | apply Kd.R_drewN | apply Kd.R_drew)); exact HO_12.out) hb); have n1_ := Aside0.mk (Kd.V_below (by (with_reducible repeat (first | apply Kd.V_alloc | apply Kd.V_drewN | apply Kd.V_drew)); exact HO_88.out) hb); have n2_ := Aside0.mk (below_step (by repeat (first | (with_reducible first | exact HB.out | apply below_alloc | apply pw_below_drewN | apply below_drew1) | exact HB.out)) hb); clear HO_12; clear HO_88; clear HB; have HO_12 := n0_; have HO_88 := n1_; have HB := n2_; clear n0_ n1_ n2_; (try clear hb); (try clear hb2); (try clear hk); (try clear hi)))
                                      repeat (go_quiet (first | (go_at_call 32; (with_reducible refine (merkle_node.calls (rdOf ByteArray.empty x4_29 x90_4) x15_4 t148 _ A49.out).mono ?_); rintro e w51 ⟨rfl, hb⟩; have n0_ := Aside0.mk (Kd.R_below (by (with_reducible repeat (first | apply Kd.R_alloc | apply Kd.R_drewN | apply Kd.R_drew)); exact HO_12.out) hb); have n1_ := Aside0.mk (Kd.V_below (by (with_reducible repeat (first | apply Kd.V_alloc | apply Kd.V_drewN | apply Kd.V_drew)); exact HO_88.out) hb); have n2_ := Aside0.mk (below_step (by repeat (first | (with_reducible first | exact HB.out | apply below_alloc | apply pw_below_drewN | apply below_drew1) | exact HB.out)) hb); clear HO_12; clear HO_88; clear HB; have HO_12 := n0_; have HO_88 := n1_; have HB := n2_; clear n0_ n1_ n2_; (try clear hb); (try clear hb2); (try clear hk); (try clear hi)) | (go_at_call 32; (with_reducible refine (merkle_node.calls (rdOf ByteArray.empty x4_29 x90_4) x16_4 t149 _ A50.out).mono ?_); rintro e w52 ⟨rfl, hb⟩; have n0_ := Aside0.mk (Kd.R_below (by (with_reducible repeat (first | apply Kd.R_alloc | apply Kd.R_drewN | apply Kd.R_drew)); exact HO_12.out) hb); have n1_ := Aside0.mk (Kd.V_below (by (with_reducible repeat (first | apply Kd.V_alloc | apply Kd.V_drewN | apply Kd.V_drew)); exact HO_88.out) hb); have n2_ := Aside0.mk (below_step (by repeat (first | (with_reducible first | exact HB.out | apply below_alloc | apply pw_below_drewN | apply below_drew1) | exact HB.out)) hb); clear HO_12; clear HO_88; clear HB; have HO_12 := n0_; have HO_88 := n1_; have HB := n2_; clear n0_ n1_ n2_; (try clear hb); (try clear hb2); (try clear hk); (try clear hi))); try go_wp2_with (first | (go_at_call 32; (with_reducible refine (merkle_node.calls (rdOf ByteArray.empty x4_29 x90_4) x15_4 t148 _ A49.out).mono ?_); rintro e w51 ⟨rfl, hb⟩; have n0_ := Aside0.mk (Kd.R_below (by (with_reducible repeat (first | apply Kd.R_alloc | apply Kd.R_drewN | apply Kd.R_drew)); exact HO_12.out) hb); have n1_ := Aside0.mk (Kd.V_below (by (with_reducible repeat (first | apply Kd.V_alloc | apply Kd.V_drewN | apply Kd.V_drew)); exact HO_88.out) hb); have n2_ := Aside0.mk (below_step (by repeat (first | (with_reducible first | exact HB.out | apply below_alloc | apply pw_below_drewN | apply below_drew1) | exact HB.out)) hb); clear HO_12; clear HO_88; clear HB; have HO_12 := n0_; have HO_88 := n1_; have HB := n2_; clear n0_ n1_ n2_; (try clear hb); (try clear hb2); (try clear hk); (try clear hi)) | (go_at_call 32; (with_reducible refine (merkle_node.calls (rdOf ByteArray.empty x4_29 x90_4) x16_4 t149 _ A50.out).mono ?_); rintro e w52 ⟨rfl, hb⟩; have n0_ := Aside0.mk (Kd.R_below (by (with_reducible repeat (first | apply Kd.R_alloc | apply Kd.R_drewN | apply Kd.R_drew)); exact HO_12.out) hb); have n1_ := Aside0.mk (Kd.V_below (by (with_reducible repeat (first | apply Kd.V_alloc | apply Kd.V_drewN | apply Kd.V_drew)); exact HO_88.out) hb); have n2_ := Aside0.mk (below_step (by repeat (first | (with_reducible first | exact HB.out | apply below_alloc | apply pw_below_drewN | apply below_drew1) | exact HB.out)) hb); clear HO_12; clear HO_88; clear HB; have HO_12 := n0_; have HO_88 := n1_; have HB := n2_; clear n0_ n1_ n2_; (try clear hb); (try clear hb2); (try clear hk); (try clear hi))))
                                      go_roundg k4
                                      case measure => have := HJ5.out; have := HK2.out; have := HJ29.out; have := HK4.out; omega
                                      case rel => exact ⟨(t148), (t149), (wrap64 (x90_4 + 1)), (by first | rfl | (simp; done) | (simp [*]; done)), (by first | rfl | (simp; done) | (simp [*]; done)), (by first | rfl | (simp; done) | (simp [*]; done)), H', ⟨by have := HJ5.out; have := HK2.out; have := HJ29.out; have := HK4.out; omega⟩, ⟨by (with_reducible repeat (first | apply Kd.R_alloc | apply Kd.R_drewN | apply Kd.R_drew)); exact HO_12.out⟩, ⟨by (with_reducible repeat (first | apply Kd.V_alloc | apply Kd.V_drewN | apply Kd.V_drew)); exact HO_88.out⟩, ⟨by repeat (first | (with_reducible first | exact HB.out | apply below_alloc | apply pw_below_drewN | apply below_drew1) | exact HB.out)⟩⟩
                                  · rw [if_neg c44] at H
                                    exact absurd H (by simp)
                                · rw [if_neg c43] at H
                                  exact absurd H (by simp)
                              · rw [if_neg c41] at H
                                exact absurd H (by simp)
                            · rw [if_neg c40] at H
                              exact absurd H (by simp)
                          · rw [if_neg c39] at H
                            have c39b0 : decide (x90_4 < (x4_29.length : Int)) = false := decide_eq_false c39
                            clear c39
                            by_cases c53 : x15_4.toList = a2.toList
                            · rw [if_pos c53] at H
                              have c53b0 : (x15_4.toList == a2.toList) = true := beq_iff_eq.mpr c53
                              have c53b1 : (x15_4.toList != a2.toList) = false := bne_eq_false_iff_eq.mpr c53
                              clear c53
                              obtain rfl := Option.some.inj H
                              go_wp2
                              repeat (go_quiet (fail); try go_wp2)
                              go_ret
                              exact ⟨by first | rfl | (simp [errW_none, errW_some] <;> rfl) | (simp [*, errW_none, errW_some] <;> rfl), by repeat (first | (with_reducible first | exact HB.out | apply below_alloc | apply pw_below_drewN | apply below_drew1) | exact HB.out)⟩
                            · rw [if_neg c53] at H
                              have c53b0 : (x15_4.toList == a2.toList) = false := beq_eq_false_iff_ne.mpr c53
                              have c53b1 : (x15_4.toList != a2.toList) = true := bne_iff_ne.mpr c53
                              obtain rfl := Option.some.inj H
                              go_wp2
                              repeat (go_quiet (fail); try go_wp2)
                              go_ret
                              exact ⟨by first | rfl | (simp [errW_none, errW_some] <;> rfl) | (simp [*, errW_none, errW_some] <;> rfl), by repeat (first | (with_reducible first | exact HB.out | apply below_alloc | apply pw_below_drewN | apply below_drew1) | exact HB.out)⟩
                    · rw [if_neg c36] at H
                      have c36b0 : ((x4_29.length : Int) == (x12_2.length : Int)) = false := beq_eq_false_iff_ne.mpr c36
                      have c36b1 : ((x4_29.length : Int) != (x12_2.length : Int)) = true := bne_iff_ne.mpr c36
                      have c36b2 : (x4_29.length == x12_2.length) = false := by first | simpa using c36 | (simp at c36 ⊢; omega)
                      obtain rfl := Option.some.inj H
                      obtain ⟨Ao54, co54, eo54⟩ := Kd.V_slice HO_4.out
                      subst eo54
                      obtain ⟨Ao55, co55, eo55⟩ := Kd.R_slice HO_12.out
                      subst eo55
                      go_wp2
                      repeat (go_quiet (fail); try go_wp2)
                      go_ret
                      exact ⟨by first | rfl | (simp [errW_none, errW_some] <;> rfl) | (simp [*, errW_none, errW_some] <;> rfl), by repeat (first | (with_reducible first | exact HB.out | apply below_alloc | apply pw_below_drewN | apply below_drew1) | exact HB.out)⟩
end Go.Proofs.Ytkhkppehdgkboaa.P
end P6_
section P2_
namespace Go.Proofs.Ytkhkppehdgkboaa.P
open Go.RowKit Go.Proofs.YtkhkppehdgkboaaW.PrintWords Go.Proofs.YtkhkppehdgkboaaW.PrintLast Go.Proofs.YtkhkppehdgkboaaW.PrintMore
attribute [local go_sem] max2_int min2_int max_two min_two max_three min_three max_four min_four   -- for this text's walks alone
set_option linter.unusedVariables false
set_option linter.unusedSimpArgs false
def merkle_Leaf.f (a0 : ByteArray) : Option (ByteArray) := if 1 + a0.size ≤ 9223372036854775807 then ((sum_Sha.f ((⟨#[0]⟩ : ByteArray) ++ a0)).bind fun t104 => (some t104)) else (none)
set_option maxHeartbeats 8000000 in
set_option maxRecDepth 100000 in
theorem merkle_Leaf.calls (a0 : ByteArray) (r : ByteArray) (w : World) (h : merkle_Leaf.f a0 = some r) :
    Calls Try.prog 11 #[.string a0] w fun e w' => e = .returned (.string r) ∧ Below w.heap.size w w' := by
  have HB := Aside0.mk (Below.refl w.heap.size w)
  have H : (if 1 + a0.size ≤ 9223372036854775807 then ((sum_Sha.f ((⟨#[0]⟩ : ByteArray) ++ a0)).bind fun t104 => (some t104)) else (none)) = some r := h
  clear h
  by_cases c2 : 1 + a0.size ≤ 9223372036854775807
  · rw [if_pos c2] at H
    have c2b0 := eq_true c2
    have c2b1 : decide (1 + a0.size ≤ 9223372036854775807) = true := decide_eq_true c2
    try have c2b2 : (9223372036854775807 < 1 + a0.size) = False := eq_false (Nat.not_lt.2 c2)
    replace H := Option.bind_eq_some_iff.mp H
    obtain ⟨t104, A30, H⟩ := H
    replace H : (some t104) = some r := H
    have A3 := Aside0.mk A30
    clear A30
    obtain rfl := Option.some.inj H
    go_enter Try.func11, Try.ntmps11
    go_wp2_with (first | ((with_reducible refine gate_callee (f := 27) rfl ?_); refine goesL_ (some 5) rfl rfl Try.func27 (by kernel_rfl) rfl #[.string ((⟨#[0]⟩ : ByteArray) ++ a0)] rfl (by (try simp only [List.map_toArray, List.map_cons, List.map_nil]); first | done | rfl | (simp only [List.length_drop, List.length_take]; rfl)) ?_; (with_reducible refine (sum_Sha.calls ((⟨#[0]⟩ : ByteArray) ++ a0) t104 _ A3.out).mono ?_); rintro e w4 ⟨rfl, hb⟩; refine ⟨_, rfl, ?_⟩; have n0_ := Aside0.mk (below_step (by repeat (first | (with_reducible first | exact HB.out | apply below_alloc | apply pw_below_drewN | apply below_drew1) | exact HB.out)) hb); clear HB; have HB := n0_; clear n0_; (try clear hb); (try clear hb2); (try clear hk); (try clear hi)))
    go_ret
    exact ⟨by first | rfl | (simp [errW_none, errW_some] <;> rfl) | (simp [*, errW_none, errW_some] <;> rfl), by repeat (first | (with_reducible first | exact HB.out | apply below_alloc | apply pw_below_drewN | apply below_drew1) | exact HB.out)⟩
  · rw [if_neg c2] at H
    exact absurd H (by simp)
end Go.Proofs.Ytkhkppehdgkboaa.P
end P2_
