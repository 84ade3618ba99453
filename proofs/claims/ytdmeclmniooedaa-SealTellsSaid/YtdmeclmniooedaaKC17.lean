/- Texts of this claim, merged: what the functions that the law reaches compute, and what that says. -/
import Derived.Test.YtdmeclmniooedaaKC5
import Derived.Test.YtdmeclmniooedaaKC8
import Derived.Test.YtdmeclmniooedaaKC10
import Derived.Test.YtdmeclmniooedaaKC16
section Sha_
namespace Go.Proofs.Ytdmeclmniooedaa.Sch
open Go.RowKit Go.Proofs.Ytdmeclmniooedaa.P Go.Proofs.Ytdmeclmniooedaa.ShaL Go.Proofs.YtdmeclmniooedaaW.PrintWords Go.Proofs.YtdmeclmniooedaaW.PrintLast Go.Proofs.YtdmeclmniooedaaW.PrintMore
set_option linter.unusedVariables false
def hTo (b : List Nat) : Nat → List Nat
  | 0 => h0L
  | i + 1 => stepL (hTo b i) ((b.drop (64 * i)).take 64)
theorem hTo_length (b : List Nat) (i : Nat) : (hTo b i).length = 8 := by
  induction i with
  | zero => rfl
  | succ i ih => exact stepL_length _ ih
theorem hTo_lt (b : List Nat) (i : Nat) : ∀ n ∈ hTo b i, n < 4294967296 := by
  cases i with
  | zero => exact h0L_lt
  | succ i => exact stepL_lt _ _
theorem extract_extract (p : ByteArray) (a b : Nat) : (p.extract a p.size).extract b (p.extract a p.size).size = p.extract (a + b) p.size := by
  apply ByteArray.ext
  rw [ByteArray.data_extract, ByteArray.data_extract, ByteArray.data_extract, Array.extract_extract]
  congr 1
  rw [ByteArray.size_extract]
  omega
def wordB (n : Nat) : List Nat := [n / 16777216 % 256, n / 65536 % 256, n / 256 % 256, n % 256]
def outL (h : List Nat) : List Nat := h.flatMap wordB
theorem outL_length (h : List Nat) : (outL h).length = 4 * h.length := by
  induction h with
  | nil => rfl
  | cons a l ih => rw [outL, List.flatMap_cons, List.length_append, ← outL, ih]; simp [wordB]; omega
theorem outL_take (h : List Nat) (j : Nat) (hj : j < h.length) : outL (h.take (j + 1)) = outL (h.take j) ++ wordB (h.getD j 0) := by
  rw [List.take_add_one, List.getElem?_eq_getElem hj, outL, List.flatMap_append]
  simp [outL, List.getD_eq_getElem?_getD, List.getElem?_eq_getElem hj]
theorem run_index_row (w : World) (l : List Nat) (j : Nat) (hl : l.length = 8) (hj : j < 8) :
    (Instr.index 56 (.agg (cellsW l)) (.int .i64 (j : Int))).run Try.prog w = .ok (.int .u32 ((l.getD j 0 : Nat) : Int)) w := by
  have h := cellsW_get l j (by omega)
  simp [Instr.index, run_underlying Try.underlying56, asIntOf, go_sem, hj, h]
noncomputable def T2 : Bool × List (List Nat × List Nat) := rtab .any (opsOf Try.f20 5)
def B2 : List Nat := [0, 0, 2, 7, 15]
theorem tab2 : rtab .any (opsOf Try.f20 5) = T2 := rfl
theorem bits2 : waitsOk T2.2 B2 = true := by kernel_rfl
def F2 (w0 : World) (base g : Nat) (Hi Hn : Array Value) (b : Nat → Bool) (w' : World) : Prop :=
  Below base w0 w' ∧ w'.heap[g]? = some (.cells (if b 4 = true then Hn else Hi) 56 (0, 0))
def Inv2 (w0 : World) (base g : Nat) (Hi Hn : Array Value) (q : ByteArray) (a0 : Act) (b : Nat → Bool) (a : Act) (w' : World) : Prop :=
  a = putSel a0 b [(0, 15, .agg Hi), (2, 17, .string q), (3, 18, .agg Hn)] ∧ F2 w0 base g Hi Hn b w'
def padN (b : List Nat) : List Nat := b ++ [128] ++ List.replicate (Bld.zerosFor b.length) 0 ++ Bld.lenBytes b.length 8
def shaN (b : List Nat) : List Nat := outL (hTo (padN b) ((padN b).length / 64))
def shaB (s : ByteArray) : ByteArray := ⟨((shaN (bts s)).map UInt8.ofNat).toArray⟩
theorem padL_eq (s : ByteArray) : Bld.padL s.data.toList = padN (bts s) := by
  unfold Bld.padL padN
  rw [show s.data.toList.map UInt8.toNat = bts s from rfl, show s.data.toList.length = (bts s).length by rw [bts, List.length_map]]
theorem padN_length (b : List Nat) : (padN b).length = b.length + 9 + Bld.zerosFor b.length := by
  simp only [padN, Bld.lenBytes, List.length_append, List.length_cons, List.length_nil, List.length_replicate, List.length_map, List.length_range]; omega
theorem padN_lt {b : List Nat} (h : ∀ n ∈ b, n < 256) : ∀ n ∈ padN b, n < 256 := by
  intro n hn
  simp only [padN, List.mem_append, List.mem_singleton, List.mem_replicate, Bld.lenBytes, List.mem_map] at hn
  rcases hn with ((hb | rfl) | ⟨_, rfl⟩) | ⟨k, _, rfl⟩
  · exact h n hb
  · decide
  · decide
  · exact Nat.mod_lt _ (by decide)
theorem padN_blocks (b : List Nat) : (padN b).length = 64 * ((padN b).length / 64) := by
  rw [padN_length]; unfold Bld.zerosFor; omega
theorem bts_of (l : List Nat) (h : ∀ n ∈ l, n < 256) : bts ⟨(l.map UInt8.ofNat).toArray⟩ = l := by
  simp only [bts, List.map_map]
  conv => rhs; rw [← List.map_id l]
  refine List.map_congr_left fun n hn => ?_
  have := h n hn
  simp only [Function.comp_apply, id]
  rw [UInt8.toNat_ofNat']; omega
set_option maxHeartbeats 4000000 in
set_option maxRecDepth 100000 in
theorem sha (s : ByteArray) (w : World) (hs : s.size ≤ 1099511627776) :
    Calls Try.prog 20 #[.string s] w fun e w' => e = .returned (.string (shaB s)) ∧ Below w.heap.size w w' := by
  go_enter Try.func20, Try.ntmps20
  go_wp2_with fail
  refine (start w).mono ?_
  rintro e w1 ⟨rfl, hb1⟩
  have HB1 := Lib.hid hb1
  clear hb1
  have HI := Lib.hid (show (Try.prog.info? 56).map (·.size) = some (cellsW h0L).size by rw [cellsW_size]; exact info8)
  go_wp2_with (refine wpList_store_row rfl 56 _ _ rfl w1.heap.size (cellsW h0L) rfl rfl 56 _ (heap_alloc_new _ _) HI.out (by rw [cellsW_size]; rfl) (cellsW_one _) ?_)
  refine (Bld.padded s _ hs).mono ?_
  rintro e w2 ⟨rfl, hb2⟩
  have hh2 : w2.heap[w1.heap.size]? = some (.cells (cellsW h0L) 56 (0, 0)) := keep_below hb2 _ _ (setRow_heap _ _ _ _ _ _ (heap_alloc_new _ _))
  have hB2 : Below w.heap.size w w2 := (below_setRow (HB1.out.alloc HB1.out.size _) HB1.out.size _).trans (hb2.mono (by rw [setRow_size, World.size_alloc]; have := HB1.out.size; omega))
  have HH2 := Lib.hid hh2
  have HB2 := Lib.hid hB2
  have G1 := HB1.out.size
  clear hb2 hh2 hB2 HB1
  go_wp2_with fail
  obtain ⟨p0, hp0⟩ : ∃ p0 : ByteArray, (⟨((Bld.padL s.data.toList).map UInt8.ofNat).toArray⟩ : ByteArray) = p0 := ⟨_, rfl⟩
  have hbt : bts p0 = padN (bts s) := by rw [← hp0, padL_eq, bts_of _ (padN_lt (bts_lt s))]
  obtain ⟨m, hm, hm2, hm3⟩ : ∃ m, p0.size = 64 * m ∧ m ≤ 17179869188 ∧ m = (padN (bts s)).length / 64 := by
    refine ⟨_, ?_, ?_, rfl⟩
    · rw [← bts_length p0, hbt]; exact padN_blocks _
    · rw [padN_length, bts_length]; unfold Bld.zerosFor; omega
  have HBT := Lib.hid hbt
  have HM3 := Lib.hid hm3
  clear hbt hm3
  rw [hp0]
  have HP := Lib.hid hp0
  have HM := Lib.hid hm
  clear hp0 hm
  go_loopg [4] m (fun kq v4 wr => ∃ i : Nat, i + kq = m ∧ v4 = .string (p0.extract (64 * i) p0.size) ∧ wr.heap[w1.heap.size]? = some (.cells (cellsW (hTo (bts p0) i)) 56 (0, 0)) ∧ Below w.heap.size w wr)
  case atStart => exact ⟨0, by omega, by rw [Nat.mul_zero, ByteArray.extract_zero_size], HH2.out, HB2.out⟩
  case round =>
    obtain ⟨i, hi, rfl, hh, hb⟩ := hrel
    have hsz : (p0.extract (64 * i) p0.size).size = 64 * (m - i) := by rw [ByteArray.size_extract]; have := HM.out; omega
    rcases Nat.lt_or_ge i m with him | him
    · have hne : (p0.extract (64 * i) p0.size).toList.isEmpty = false := by
        rw [← decide_eq_emptyBytes]
        refine decide_eq_false fun e => ?_
        rw [e] at hsz
        have : (ByteArray.empty).size = 0 := rfl
        omega
      go_wp2_with fail
      have hq : 64 ≤ (p0.extract (64 * i) p0.size).size := by omega
      have hq2 : (p0.extract (64 * i) p0.size).size ≤ 1099511628032 := by omega
      have HN : Hid (cellsW (hTo (bts p0) (i + 1)) = cellsW (stepL (hTo (bts p0) i) (bts ((p0.extract (64 * i) p0.size).extract 0 64)))) := Lib.hid (by
        rw [hTo, bts_extract, bts_extract, List.drop_zero, Nat.sub_zero, List.take_take, Nat.min_eq_left]
        have := HM.out; omega)
      have HE : Hid ((p0.extract (64 * i) p0.size).extract 64 (p0.extract (64 * i) p0.size).size = p0.extract (64 * (i + 1)) p0.size) := Lib.hid ((extract_extract p0 (64 * i) 64).trans (by rw [Nat.mul_add]))
      generalize p0.extract (64 * i) p0.size = q at hq hq2 HN HE hsz hne ⊢
      have hl := hTo_length (bts p0) i
      have hlt := hTo_lt (bts p0) i
      generalize hTo (bts p0) i = h at hl hlt HN hh
      obtain ⟨h', hh'⟩ : ∃ h', hTo (bts p0) (i + 1) = h' := ⟨_, rfl⟩
      rw [hh'] at HN
      have HH' := Lib.hid hh'
      clear hh'
      have HH := Lib.hid hh
      have HB := Lib.hid hb
      clear hh hb hsz hne
      refine start_ (n := 5) (S := fun w' => True) (ds := []) #[false, false, false, false, false] (by kernel_rfl) rfl rfl trivial (fun hHeld => ?_)
      refine with_tabW tab2 bits2 (fun HT_ HW_ => ?_)
      clear hHeld
      refine pure_ (i := 1) (N := some 16) (v := ?_) (a' := ?_) #[false, true, false, false, false] rfl rfl (any_of HT_.out (by kernel_rfl)) (fun _ _ _ h => h) (Or.inl ⟨by rfl, ?_⟩) ?_ ?_
      rotate_left
      · intro w'
        go_simp
        with_reducible rfl
      rotate_left
      · simp only [Act.put, List.setIfInBounds_toArray, List.set_cons_zero, List.set_cons_succ]
        rfl
      refine inv_at [0, 2, 3, 4] (Inv2 wr w.heap.size w1.heap.size (cellsW h) (cellsW h') (q.extract 0 64)) HT_.out HW_.out (by kernel_rfl) (by kernel_rfl) ?_ ?_ ?_
      · refine ⟨by simp only [putSel, Bool.false_eq_true, if_false], ⟨rfl, rfl, rfl, Nat.le_refl _, fun _ _ => rfl⟩, ?_⟩
        rw [if_neg (by decide)]; exact HH.out
      refine steps_cons ?_ ?_
      · rintro b a w' ⟨ha, hF⟩ hb_ hon hoff
        refine ⟨_, rfl, fun K hK => ?_⟩
        have e3 : a.tmps[3]? = some (ptr w1.heap.size) := by rw [ha]; exact (putSel_off rfl).trans rfl
        replace ha := Aside0.mk ha
        have blk := hF.2
        rw [hoff 4 (by kernel_rfl), if_neg (by decide)] at blk
        rw [if_pos (by rfl)]
        refine wp_load_row 56 (.tmp 3) rfl w1.heap.size (by simp only [Act.eval, Array.getD_eq_getD_getElem?, Option.getD_some, e3]; rfl) 56 _ (0, 0) _ blk Try.underlying56 rfl (by rw [cellsW_size, hl]; exact info8) ?_
        exact hK.out _ _ ⟨by rw [ha.out]; exact putSel_upk 0 hb_ rfl rfl rfl, hF.1, by rw [up_ne (by decide)]; exact hF.2⟩
      refine steps_cons ?_ ?_
      · rintro b a w' ⟨ha, hF⟩ hb_ hon hoff
        refine ⟨_, rfl, fun K hK => ?_⟩
        have e16 : a.tmps[16]? = some (Value.string q) := by rw [ha]; exact (putSel_off rfl).trans rfl
        replace ha := Aside0.mk ha
        refine value_ (w1 := w') (v := .string (q.extract 0 64)) (by rfl) rfl ?_ ?_
        · go_simp
          first | done | rfl | exact fun h_ => absurd h_ (by omega)
        exact hK.out _ _ ⟨by rw [ha.out]; exact putSel_upk 1 hb_ rfl rfl rfl, hF.1, by rw [up_ne (by decide)]; exact hF.2⟩
      refine steps_cons ?_ ?_
      · rintro b a w' ⟨ha, hF⟩ hb_ hon hoff
        refine ⟨_, rfl, fun K hK => ?_⟩
        have e15 : a.tmps[15]? = some (Value.agg (cellsW h)) := by rw [ha]; exact putSel_on (e := (0, 15, Value.agg (cellsW h))) 0 rfl rfl (hon 0 (by kernel_rfl)) rfl
        have e17 : a.tmps[17]? = some (Value.string (q.extract 0 64)) := by rw [ha]; exact putSel_on (e := (2, 17, Value.string (q.extract 0 64))) 1 rfl rfl (hon 2 (by kernel_rfl)) rfl
        replace ha := Aside0.mk ha
        have hqs : (q.extract 0 64).size = 64 := by rw [ByteArray.size_extract]; omega
        refine goes_ Try.func39 (by kernel_rfl) rfl #[.agg (cellsW h), .string (q.extract 0 64)] (by rfl) rfl rfl (by simp only [List.map_toArray, List.map_cons, List.map_nil, Act.eval, Array.getD_eq_getD_getElem?, Option.getD_some, e15, e17]) ?_
        refine (step h (q.extract 0 64) w' hl hlt (by omega) (by omega)).mono ?_
        rintro e w3 ⟨rfl, hb3⟩
        rw [← HN.out]
        exact ⟨_, rfl, hK.out _ _ ⟨by rw [ha.out]; exact putSel_upk 2 hb_ rfl rfl rfl, hF.1.trans (hb3.mono (by have := HB.out.size; have := hF.1.size; omega)), by rw [up_ne (by decide)]; exact keep_below hb3 _ _ hF.2⟩⟩
      refine steps_cons ?_ ?_
      · rintro b a w' ⟨ha, hF⟩ hb_ hon hoff
        refine ⟨_, rfl, fun K hK => ?_⟩
        have e3 : a.tmps[3]? = some (ptr w1.heap.size) := by rw [ha]; exact (putSel_off rfl).trans rfl
        have e18 : a.tmps[18]? = some (Value.agg (cellsW h')) := by rw [ha]; exact putSel_on (e := (3, 18, Value.agg (cellsW h'))) 2 rfl rfl (hon 3 (by kernel_rfl)) rfl
        replace ha := Aside0.mk ha
        have blk := hF.2
        rw [hb_, if_neg (by decide)] at blk
        have hl' : (cellsW h').size = 8 := by rw [HN.out, cellsW_size, stepL_length _ hl]
        rw [if_pos (by rfl)]
        refine wp_store_row 56 (.tmp 3) (.tmp 18) rfl w1.heap.size (cellsW h') (by simp only [Act.eval, Array.getD_eq_getD_getElem?, Option.getD_some, e3]; rfl) (by simp only [Act.eval, Array.getD_eq_getD_getElem?, Option.getD_some, e18]) 56 _ blk (by rw [hl']; exact info8) (by rw [hl', cellsW_size, hl]) (cellsW_one _) ?_
        exact hK.out _ _ ⟨by rw [ha.out]; exact putSel_none (v := undef) rfl, below_setRow hF.1 G1 _, by rw [up_self, if_pos rfl]; exact setRow_heap _ _ _ _ _ _ blk⟩
      exact steps_nil
      · rintro b a w' hall ⟨ha, hb3, hh3⟩
        rw [hall 4 (by kernel_rfl), if_pos rfl] at hh3
        have hb0_ := hall 0 (by kernel_rfl)
        have hb2_ := hall 2 (by kernel_rfl)
        have hb3_ := hall 3 (by kernel_rfl)
        subst ha
        simp only [putSel, hb0_, hb2_, hb3_, if_true, Act.put, List.setIfInBounds_toArray, List.set_cons_zero, List.set_cons_succ]
        have HH3 := Lib.hid hh3
        have HB3 := Lib.hid (HB.out.trans hb3)
        clear hall hb0_ hb2_ hb3_ hh3 hb3 HT_ HW_
        go_wp2_with fail
        go_roundg (gk - 1)
        case measure => omega
        case rel => exact ⟨i + 1, by omega, by rw [HE.out], by rw [HH'.out]; exact HH3.out, HB3.out⟩
    · obtain rfl : i = m := by omega
      have he : (p0.extract (64 * i) p0.size).toList.isEmpty = true := by
        rw [← decide_eq_emptyBytes]
        refine decide_eq_true ?_
        apply ByteArray.ext; apply Array.eq_empty_of_size_eq_zero
        have : (p0.extract (64 * i) p0.size).data.size = (p0.extract (64 * i) p0.size).size := rfl
        omega
      go_wp2_with (refine wpList_load_row rfl 56 _ rfl w1.heap.size rfl 56 _ (0, 0) _ hh Try.underlying56 rfl (by rw [cellsW_size, hTo_length]; exact info8) ?_)
      have hl := hTo_length (bts p0) i
      have hlt := hTo_lt (bts p0) i
      have HB := Lib.hid hb
      clear hh hb
      obtain ⟨h, hh⟩ : ∃ h, hTo (bts p0) i = h := ⟨_, rfl⟩
      rw [hh] at hl hlt ⊢
      have HHE := Lib.hid hh
      clear hh he hsz
      obtain ⟨i0, hi0, hz0, hz1, hz2⟩ := info_parts Bld.infoByte
      go_loopg [5, 20] 8 (fun kq v5 v20 wr => ∃ j : Nat, j + kq = 8 ∧ v20 = .int .i64 (j : Int) ∧ wr.ownsRow w.heap.size 5 1 v5 (4 * j) (Bld.cellsOf (outL (h.take j))) ∧ Below w.heap.size w wr)
      case atStart => exact ⟨0, by omega, rfl, World.ownsRow_nil _ _ _ _, HB.out⟩
      case round =>
        obtain ⟨j, hj, rfl, hown, hbw⟩ := hrel
        rcases Nat.lt_or_ge j 8 with h8 | h8
        · have rj := run_index_row wr h j hl h8
          have HO := Lib.hid (outL_take h j (by omega))
          have lx := getLt hlt j
          have hsz := hbw.size
          have lt := outL_length (h.take j)
          rw [List.length_take, Nat.min_eq_left (by omega)] at lt
          generalize h.getD j 0 = x at rj HO lx
          generalize outL (h.take j) = os at hown HO lt
          go_wp2_with (at_builtin; refine wpList_append_own _ rfl _ _ 59 rfl w.heap.size 5 i0 (.int .u8 0) 1 1 Try.underlying59 hi0 hz0 hz1 hz2 rfl (by decide) _ _ _ rfl (hown.alloc _) ⟨wr.heap.size, 0, none⟩ 4 4 (Bld.cellsOf (wordB x)) rfl rfl ?c1 ?c2 ?c3 ?c4 ?c5 ?_)
          case c1 =>
            intro k u hk
            rw [show (⟨wr.heap.size, 0, none⟩ : Addr).add k = ⟨wr.heap.size, k, none⟩ by simp [Addr.add]; omega, World.cell?_alloc_new]
            rw [← hk]
            have e1 : ((x / 16777216 % 256 : Nat) : Int) = (x : Int) / 16777216 := by omega
            have e2 : ((x / 65536 % 256 : Nat) : Int) = (x : Int) / 65536 % 256 := by omega
            have e3 : ((x / 256 % 256 : Nat) : Int) = (x : Int) / 256 % 256 := by omega
            have e4 : ((x % 256 : Nat) : Int) = (x : Int) % 256 := by omega
            simp only [Bld.cellsOf, wordB, List.map_cons, List.map_nil, e1, e2, e3, e4]
            exact List.getElem?_toArray
          case c2 => intro u hu; simp only [Bld.cellsOf, List.mem_map] at hu; obtain ⟨n, _, rfl⟩ := hu; rfl
          case c3 => unfold maxLen; omega
          case c4 => omega
          case c5 => simp; omega
          intro v' w2 hown' hgrow _
          have hblk := hown.lt
          go_wp2_with fail
          go_roundg (gk - 1)
          case measure => omega
          case rel =>
            refine ⟨j + 1, by omega, by go_num, ?_, (hbw.alloc hbw.size _).grown hgrow (by rw [World.size_alloc]; omega) (fun k hk => (hblk k hk).1)⟩
            rw [HO.out, show 4 * (j + 1) = 4 * j + 4 by omega]
            have := hown'
            rw [show Bld.cellsOf os ++ Bld.cellsOf (wordB x) = Bld.cellsOf (os ++ wordB x) by simp [Bld.cellsOf]] at this
            exact this
        · obtain rfl : j = 8 := by omega
          rw [List.take_of_length_le (by omega)] at hown
          have hcv := own_string (P := Try.prog) Try.underlying59 Try.underlying5 Try.underlying9 (xs := (outL h).map fun n : Nat => (n : Int)) (by rw [show nums .u8 ((outL h).map fun n : Nat => (n : Int)) = Bld.cellsOf (outL h) by simp [nums, Bld.cellsOf]]; exact hown)
          go_wp2_with fail
          go_ret
          refine ⟨?_, hbw⟩
          rw [← HHE.out, HBT.out, HM3.out]
          congr 2
          unfold strOfNums shaB shaN
          rw [List.map_map]
          rfl
end Go.Proofs.Ytdmeclmniooedaa.Sch
namespace Go.Proofs.Ytdmeclmniooedaa.P
open Go.RowKit Go.Proofs.YtdmeclmniooedaaW.PrintWords
def sum_Sha.f (a0 : ByteArray) : Option ByteArray := if a0.size ≤ 1099511627776 then some (Sch.shaB a0) else none
theorem sum_Sha.calls (a0 : ByteArray) (r : ByteArray) (w : World) (h : sum_Sha.f a0 = some r) :
    Calls Try.prog 20 #[.string a0] w fun e w' => e = .returned (.string r) ∧ Below w.heap.size w w' := by
  unfold sum_Sha.f at h
  split at h
  · obtain rfl := Option.some.inj h
    exact Sch.sha a0 w (by assumption)
  · cases h
end Go.Proofs.Ytdmeclmniooedaa.P
end Sha_
section P5_
namespace Go.Proofs.Ytdmeclmniooedaa.P
open Go.RowKit Go.Proofs.YtdmeclmniooedaaW.PrintWords Go.Proofs.YtdmeclmniooedaaW.PrintLast Go.Proofs.YtdmeclmniooedaaW.PrintMore
attribute [local go_sem] max2_int min2_int max_two min_two max_three min_three max_four min_four   -- for this text's walks alone
set_option linter.unusedVariables false
set_option linter.unusedSimpArgs false
def seal_h.f (l0 : List ByteArray) : Option (ByteArray) := (code_List.f l0).bind fun t105 => ((sum_Sha.f t105).bind fun t106 => (some t106))
set_option maxHeartbeats 8000000 in
set_option maxRecDepth 100000 in
theorem seal_h.calls (A0 : Option Addr) (c0 : Nat) (l0 : List ByteArray) (r : ByteArray) (w : World) (hr0 : Kd.C Kd.string w A0 l0.length l0) (hc0 : l0.length ≤ c0) (h : seal_h.f l0 = some r) :
    Calls Try.prog 28 #[.slice A0 l0.length c0] w fun e w' => e = .returned (.string r) ∧ Below w.heap.size w w' := by
  have HR0 := Aside0.mk hr0
  have HC0 := Aside0.mk hc0
  clear hr0 hc0
  have HB := Aside0.mk (Below.refl w.heap.size w)
  have H : ((code_List.f l0).bind fun t105 => ((sum_Sha.f t105).bind fun t106 => (some t106))) = some r := h
  clear h
  replace H := Option.bind_eq_some_iff.mp H
  obtain ⟨t105, A20, H⟩ := H
  replace H : ((sum_Sha.f t105).bind fun t106 => (some t106)) = some r := H
  have A2 := Aside0.mk A20
  clear A20
  replace H := Option.bind_eq_some_iff.mp H
  obtain ⟨t106, A30, H⟩ := H
  replace H : (some t106) = some r := H
  have A3 := Aside0.mk A30
  clear A30
  obtain rfl := Option.some.inj H
  go_enter Try.func28, Try.ntmps28
  go_wp2_with (first | ((with_reducible refine gate_callee (f := 21) rfl ?_); refine goesL_ (some 4) rfl rfl Try.func21 (by kernel_rfl) rfl #[.slice A0 l0.length c0] rfl (by (try simp only [List.map_toArray, List.map_cons, List.map_nil]); first | done | rfl | (simp only [List.length_drop, List.length_take]; rfl)) ?_; (with_reducible refine (code_List.calls _ _ l0 t105 _ ?side1 ?side2 A2.out).mono ?_); (case side1 => repeat (first | exact HR0.out | (with_reducible refine Kd.C_alloc ?_ _) | (with_reducible refine Kd.C_drewN ?_ _) | (with_reducible refine Kd.C_drew ?_))); (case side2 => exact HC0.out); rintro e w4 ⟨rfl, hb⟩; refine ⟨_, rfl, ?_⟩; have n0_ := Aside0.mk (below_step (by repeat (first | (with_reducible first | exact HB.out | apply below_alloc | apply pw_below_drewN | apply below_drew1) | exact HB.out)) hb); clear HB; have HB := n0_; clear n0_; (try clear hb); (try clear hb2); (try clear hk); (try clear hi)) | ((with_reducible refine gate_callee (f := 20) rfl ?_); refine goesL_ (some 5) rfl rfl Try.func20 (by kernel_rfl) rfl #[.string t105] rfl (by (try simp only [List.map_toArray, List.map_cons, List.map_nil]); first | done | rfl | (simp only [List.length_drop, List.length_take]; rfl)) ?_; (with_reducible refine (sum_Sha.calls t105 t106 _ A3.out).mono ?_); rintro e w5 ⟨rfl, hb⟩; refine ⟨_, rfl, ?_⟩; have n0_ := Aside0.mk (below_step (by repeat (first | (with_reducible first | exact HB.out | apply below_alloc | apply pw_below_drewN | apply below_drew1) | exact HB.out)) hb); clear HB; have HB := n0_; clear n0_; (try clear hb); (try clear hb2); (try clear hk); (try clear hi)))
  go_ret
  exact ⟨by first | rfl | (simp [errW_none, errW_some] <;> rfl) | (simp [*, errW_none, errW_some] <;> rfl), by repeat (first | (with_reducible first | exact HB.out | apply below_alloc | apply pw_below_drewN | apply below_drew1) | exact HB.out)⟩
def seal_tag.f (a0 : ByteArray) (a1 : ByteArray) (a2 : ByteArray) : Option (ByteArray) := (seal_h.f (([(⟨#[116, 97, 103]⟩ : ByteArray), a0, a1, a2] : List ByteArray))).bind fun t110 => (if 0 ≤ 16 then (if 16 ≤ (t110.size : Int) then (some (t110.extract 0 16)) else (none)) else (none))
set_option maxHeartbeats 8000000 in
set_option maxRecDepth 100000 in
theorem seal_tag.calls (a0 : ByteArray) (a1 : ByteArray) (a2 : ByteArray) (r : ByteArray) (w : World) (h : seal_tag.f a0 a1 a2 = some r) :
    Calls Try.prog 23 #[.string a0, .string a1, .string a2] w fun e w' => e = .returned (.string r) ∧ Below w.heap.size w w' := by
  have HB := Aside0.mk (Below.refl w.heap.size w)
  have H : ((seal_h.f (([(⟨#[116, 97, 103]⟩ : ByteArray), a0, a1, a2] : List ByteArray))).bind fun t110 => (if 0 ≤ 16 then (if 16 ≤ (t110.size : Int) then (some (t110.extract 0 16)) else (none)) else (none))) = some r := h
  clear h
  obtain ⟨y107, hy107⟩ : ∃ y_ : List ByteArray, y_ = (([(⟨#[116, 97, 103]⟩ : ByteArray), a0, a1, a2] : List ByteArray)) := ⟨_, rfl⟩
  replace H : ((seal_h.f y107).bind fun t110 => (if 0 ≤ 16 then (if 16 ≤ (t110.size : Int) then (some (t110.extract 0 16)) else (none)) else (none))) = some r := by first | (rw [hy107]; with_reducible exact H) | (have H2_ := (Option.bind_some _ _).symm.trans H; rw [hy107]; with_reducible exact H2_) | (have H2_ := (Option.bind_some _ _).symm.trans H; with_reducible exact H2_) | with_reducible exact H | (rw [hy107]; exact H) | exact H
  have Ny107 := Aside0.mk hy107
  clear hy107
  replace H := Option.bind_eq_some_iff.mp H
  obtain ⟨t110, A40, H⟩ := H
  replace H : (if 0 ≤ 16 then (if 16 ≤ (t110.size : Int) then (some (t110.extract 0 16)) else (none)) else (none)) = some r := H
  have A4 := Aside0.mk A40
  clear A40
  by_cases c5 : 0 ≤ 16
  · rw [if_pos c5] at H
    have c5b0 := eq_true c5
    have c5b1 : decide (0 ≤ 16) = true := decide_eq_true c5
    clear c5
    by_cases c6 : 16 ≤ (t110.size : Int)
    · rw [if_pos c6] at H
      have c6b0 := eq_true c6
      have c6b1 : decide (16 ≤ (t110.size : Int)) = true := decide_eq_true c6
      clear c6
      obtain rfl := Option.some.inj H
      go_enter Try.func23, Try.ntmps23
      go_wp2_with (first | ((with_reducible refine gate_dst (N := 10) rfl ?_); refine Kd.R_lit Kd.string _ 9 ?hg (N := 10) ?hd (xs := ([(⟨#[116, 97, 103]⟩ : ByteArray), a0, a1, a2] : List ByteArray)) (inner := [.string (⟨#[116, 97, 103]⟩ : ByteArray), .string a0, .string a1, .string a2]) (ok := fun _ => True) (okp := fun _ => True) ?hr ?hp (fun _ hk => hk) trivial (Below.refl _ _) (Nat.le_refl _) (by simp) ?_; (case hd => rfl); (case hg => rfl); (case hr => first | (go_simp; done) | (go_simp; rfl) | (go_simp; simp only [IntKind.wrap_u32', Int.emod_add_emod, Int.add_emod_emod])); (case hp => exact (Reps.one (show Kd.M Kd.string _ _ _ (⟨#[116, 97, 103]⟩ : ByteArray) [.string (⟨#[116, 97, 103]⟩ : ByteArray)] from rfl) (Reps.one (show Kd.M Kd.string _ _ _ a0 [.string a0] from rfl) (Reps.one (show Kd.M Kd.string _ _ _ a1 [.string a1] from rfl) (Reps.one (show Kd.M Kd.string _ _ _ a2 [.string a2] from rfl) (Reps.none _ _)))))); intro v108 w7 ho8 hb hg_ hnew_; clear hg_ hnew_; (first | rw [← Ny107.out] at ho8 | (simp only [Int.reduceToNat] at ho8; rw [← Ny107.out] at ho8)); have n0_ := Aside0.mk (Kd.R_lower ho8 (below_size (by repeat (first | (with_reducible first | exact HB.out | apply below_alloc | apply pw_below_drewN | apply below_drew1) | exact HB.out)))); have n1_ := Aside0.mk (below_step (by repeat (first | (with_reducible first | exact HB.out | apply below_alloc | apply pw_below_drewN | apply below_drew1) | exact HB.out)) hb); clear HB; have HO109 := n0_; have HB := n1_; clear n0_ n1_; clear hb ho8; obtain ⟨Ao9, co9, eo9⟩ := Kd.R_slice HO109.out; subst eo9) | ((with_reducible refine gate_callee (f := 28) rfl ?_); refine goesL_ (some 11) rfl rfl Try.func28 (by kernel_rfl) rfl #[.slice Ao9 y107.length co9] rfl (by (try simp only [List.map_toArray, List.map_cons, List.map_nil]); first | done | rfl | (simp only [List.length_drop, List.length_take]; rfl)) ?_; (with_reducible refine (seal_h.calls _ _ y107 t110 _ ?side1 ?side2 A4.out).mono ?_); (case side1 => repeat (first | exact (Kd.R_reads' HO109.out).2.2 | (with_reducible refine Kd.C_alloc ?_ _) | (with_reducible refine Kd.C_drewN ?_ _) | (with_reducible refine Kd.C_drew ?_))); (case side2 => exact (Kd.R_reads' HO109.out).2.1); rintro e w10 ⟨rfl, hb⟩; refine ⟨_, rfl, ?_⟩; have n0_ := Aside0.mk (Kd.R_below (by (with_reducible repeat (first | apply Kd.R_alloc | apply Kd.R_drewN | apply Kd.R_drew)); exact HO109.out) hb); have n1_ := Aside0.mk (below_step (by repeat (first | (with_reducible first | exact HB.out | apply below_alloc | apply pw_below_drewN | apply below_drew1) | exact HB.out)) hb); clear HO109; clear HB; have HO109 := n0_; have HB := n1_; clear n0_ n1_; (try clear hb); (try clear hb2); (try clear hk); (try clear hi)))
      go_ret
      exact ⟨by first | rfl | (simp [errW_none, errW_some] <;> rfl) | (simp [*, errW_none, errW_some] <;> rfl), by repeat (first | (with_reducible first | exact HB.out | apply below_alloc | apply pw_below_drewN | apply below_drew1) | exact HB.out)⟩
    · rw [if_neg c6] at H
      exact absurd H (by simp)
  · rw [if_neg c5] at H
    exact absurd H (by simp)
end Go.Proofs.Ytdmeclmniooedaa.P
end P5_
