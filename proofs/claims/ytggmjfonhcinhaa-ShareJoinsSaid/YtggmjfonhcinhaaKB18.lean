/- Texts of this claim, merged: what the functions that the law reaches compute, and what that says. -/
import Derived.Test.YtggmjfonhcinhaaKB5
import Derived.Test.YtggmjfonhcinhaaKB9
import Derived.Test.YtggmjfonhcinhaaKB10
import Derived.Test.YtggmjfonhcinhaaKB11
import Derived.Test.YtggmjfonhcinhaaKB17
section Sha_
namespace Go.Proofs.Ytggmjfonhcinhaa.Sch
open Go.RowKit Go.Proofs.Ytggmjfonhcinhaa.P Go.Proofs.Ytggmjfonhcinhaa.ShaL Go.Proofs.YtggmjfonhcinhaaW.PrintWords Go.Proofs.YtggmjfonhcinhaaW.PrintLast Go.Proofs.YtggmjfonhcinhaaW.PrintMore
set_option linter.unusedVariables false
/-- the state after i blocks -/
def hTo (b : List Nat) : Nat → List Nat
  | 0 => h0L
  | i + 1 => stepL (hTo b i) ((b.drop (64 * i)).take 64)
theorem hTo_length (b : List Nat) (i : Nat) : (hTo b i).length = 8 := by
  induction i with
  | zero => rfl
  | succ i ih => exact stepL_length _ ih
theorem hTo_lt (b : List Nat) (i : Nat) : ∀ n ∈ hTo b i, n < 4294967296 := by
  cases i with
  | zero => exact h0L_lt
  | succ i => exact stepL_lt _ _
theorem extract_extract (p : ByteArray) (a b : Nat) : (p.extract a p.size).extract b (p.extract a p.size).size = p.extract (a + b) p.size := by
  apply ByteArray.ext
  rw [ByteArray.data_extract, ByteArray.data_extract, ByteArray.data_extract, Array.extract_extract]
  congr 1
  rw [ByteArray.size_extract]
  omega
/-- a word's bytes -/
def wordB (n : Nat) : List Nat := [n / 16777216 % 256, n / 65536 % 256, n / 256 % 256, n % 256]
def outL (h : List Nat) : List Nat := h.flatMap wordB
theorem outL_length (h : List Nat) : (outL h).length = 4 * h.length := by
  induction h with
  | nil => rfl
  | cons a l ih => rw [outL, List.flatMap_cons, List.length_append, ← outL, ih]; simp [wordB]; omega
theorem outL_take (h : List Nat) (j : Nat) (hj : j < h.length) : outL (h.take (j + 1)) = outL (h.take j) ++ wordB (h.getD j 0) := by
  rw [List.take_add_one, List.getElem?_eq_getElem hj, outL, List.flatMap_append]
  simp [outL, List.getD_eq_getElem?_getD, List.getElem?_eq_getElem hj]
theorem run_index_row (w : World) (l : List Nat) (j : Nat) (hl : l.length = 8) (hj : j < 8) :
    (Instr.index 52 (.agg (cellsW l)) (.int .i64 (j : Int))).run Try.prog w = .ok (.int .u32 ((l.getD j 0 : Nat) : Int)) w := by
  have h := cellsW_get l j (by omega)
  simp [Instr.index, run_underlying Try.underlying52, asIntOf, go_sem, hj, h]
noncomputable def T2 : Bool × List (List Nat × List Nat) := rtab .any (opsOf Try.f24 5)
def B2 : List Nat := [0, 0, 2, 7, 15]
theorem tab2 : rtab .any (opsOf Try.f24 5) = T2 := rfl
theorem bits2 : waitsOk T2.2 B2 = true := by kernel_rfl
def F2 (w0 : World) (base g : Nat) (Hi Hn : Array Value) (b : Nat → Bool) (w' : World) : Prop :=
  Below base w0 w' ∧ w'.heap[g]? = some (.cells (if b 4 = true then Hn else Hi) 52 (0, 0))
def Inv2 (w0 : World) (base g : Nat) (Hi Hn : Array Value) (q : ByteArray) (a0 : Act) (b : Nat → Bool) (a : Act) (w' : World) : Prop :=
  a = putSel a0 b [(0, 15, .agg Hi), (2, 17, .string q), (3, 18, .agg Hn)] ∧ F2 w0 base g Hi Hn b w'
/-- the padded message and the digest, on numbers -/
def padN (b : List Nat) : List Nat := b ++ [128] ++ List.replicate (Bld.zerosFor b.length) 0 ++ Bld.lenBytes b.length 8
def shaN (b : List Nat) : List Nat := outL (hTo (padN b) ((padN b).length / 64))
def shaB (s : ByteArray) : ByteArray := ⟨((shaN (bts s)).map UInt8.ofNat).toArray⟩
theorem padL_eq (s : ByteArray) : Bld.padL s.data.toList = padN (bts s) := by
  unfold Bld.padL padN
  rw [show s.data.toList.map UInt8.toNat = bts s from rfl, show s.data.toList.length = (bts s).length by rw [bts, List.length_map]]
theorem padN_length (b : List Nat) : (padN b).length = b.length + 9 + Bld.zerosFor b.length := by
  simp only [padN, Bld.lenBytes, List.length_append, List.length_cons, List.length_nil, List.length_replicate, List.length_map, List.length_range]; omega
theorem padN_lt {b : List Nat} (h : ∀ n ∈ b, n < 256) : ∀ n ∈ padN b, n < 256 := by
  intro n hn
  simp only [padN, List.mem_append, List.mem_singleton, List.mem_replicate, Bld.lenBytes, List.mem_map] at hn
  rcases hn with ((hb | rfl) | ⟨_, rfl⟩) | ⟨k, _, rfl⟩
  · exact h n hb
  · decide
  · decide
  · exact Nat.mod_lt _ (by decide)
theorem padN_blocks (b : List Nat) : (padN b).length = 64 * ((padN b).length / 64) := by
  rw [padN_length]; unfold Bld.zerosFor; omega
theorem bts_of (l : List Nat) (h : ∀ n ∈ l, n < 256) : bts ⟨(l.map UInt8.ofNat).toArray⟩ = l := by
  simp only [bts, List.map_map]
  conv => rhs; rw [← List.map_id l]
  refine List.map_congr_left fun n hn => ?_
  have := h n hn
  simp only [Function.comp_apply, id]
  rw [UInt8.toNat_ofNat']; omega
set_option maxHeartbeats 4000000 in
set_option maxRecDepth 100000 in
theorem sha (s : ByteArray) (w : World) (hs : s.size ≤ 1099511627776) :
    Calls Try.prog 24 #[.string s] w fun e w' => e = .returned (.string (shaB s)) ∧ Below w.heap.size w w' := by
  go_enter Try.func24, Try.ntmps24
  go_wp2_with fail
  refine (start w).mono ?_
  rintro e w1 ⟨rfl, hb1⟩
  have HB1 := Lib.hid hb1
  clear hb1
  have HI := Lib.hid (show (Try.prog.info? 52).map (·.size) = some (cellsW h0L).size by rw [cellsW_size]; exact info8)
  go_wp2_with (refine wpList_store_row rfl 52 _ _ rfl w1.heap.size (cellsW h0L) rfl rfl 52 _ (heap_alloc_new _ _) HI.out (by rw [cellsW_size]; rfl) (cellsW_one _) ?_)
  refine (Bld.padded s _ hs).mono ?_
  rintro e w2 ⟨rfl, hb2⟩
  have hh2 : w2.heap[w1.heap.size]? = some (.cells (cellsW h0L) 52 (0, 0)) := keep_below hb2 _ _ (setRow_heap _ _ _ _ _ _ (heap_alloc_new _ _))
  have hB2 : Below w.heap.size w w2 := (below_setRow (HB1.out.alloc HB1.out.size _) HB1.out.size _).trans (hb2.mono (by rw [setRow_size, World.size_alloc]; have := HB1.out.size; omega))
  have HH2 := Lib.hid hh2
  have HB2 := Lib.hid hB2
  have G1 := HB1.out.size
  clear hb2 hh2 hB2 HB1
  go_wp2_with fail
  obtain ⟨p0, hp0⟩ : ∃ p0 : ByteArray, (⟨((Bld.padL s.data.toList).map UInt8.ofNat).toArray⟩ : ByteArray) = p0 := ⟨_, rfl⟩
  have hbt : bts p0 = padN (bts s) := by rw [← hp0, padL_eq, bts_of _ (padN_lt (bts_lt s))]
  obtain ⟨m, hm, hm2, hm3⟩ : ∃ m, p0.size = 64 * m ∧ m ≤ 17179869188 ∧ m = (padN (bts s)).length / 64 := by
    refine ⟨_, ?_, ?_, rfl⟩
    · rw [← bts_length p0, hbt]; exact padN_blocks _
    · rw [padN_length, bts_length]; unfold Bld.zerosFor; omega
  have HBT := Lib.hid hbt
  have HM3 := Lib.hid hm3
  clear hbt hm3
  rw [hp0]
  have HP := Lib.hid hp0
  have HM := Lib.hid hm
  clear hp0 hm
  go_loopg [4] m (fun kq v4 wr => ∃ i : Nat, i + kq = m ∧ v4 = .string (p0.extract (64 * i) p0.size) ∧ wr.heap[w1.heap.size]? = some (.cells (cellsW (hTo (bts p0) i)) 52 (0, 0)) ∧ Below w.heap.size w wr)
  case atStart => exact ⟨0, by omega, by rw [Nat.mul_zero, ByteArray.extract_zero_size], HH2.out, HB2.out⟩
  case round =>
    obtain ⟨i, hi, rfl, hh, hb⟩ := hrel
    have hsz : (p0.extract (64 * i) p0.size).size = 64 * (m - i) := by rw [ByteArray.size_extract]; have := HM.out; omega
    rcases Nat.lt_or_ge i m with him | him
    · have hne : (p0.extract (64 * i) p0.size).toList.isEmpty = false := by
        rw [← decide_eq_emptyBytes]
        refine decide_eq_false fun e => ?_
        rw [e] at hsz
        have : (ByteArray.empty).size = 0 := rfl
        omega
      go_wp2_with fail
      have hq : 64 ≤ (p0.extract (64 * i) p0.size).size := by omega
      have hq2 : (p0.extract (64 * i) p0.size).size ≤ 1099511628032 := by omega
      have HN : Hid (cellsW (hTo (bts p0) (i + 1)) = cellsW (stepL (hTo (bts p0) i) (bts ((p0.extract (64 * i) p0.size).extract 0 64)))) := Lib.hid (by
        rw [hTo, bts_extract, bts_extract, List.drop_zero, Nat.sub_zero, List.take_take, Nat.min_eq_left]
        have := HM.out; omega)
      have HE : Hid ((p0.extract (64 * i) p0.size).extract 64 (p0.extract (64 * i) p0.size).size = p0.extract (64 * (i + 1)) p0.size) := Lib.hid ((extract_extract p0 (64 * i) 64).trans (by rw [Nat.mul_add]))
      generalize p0.extract (64 * i) p0.size = q at hq hq2 HN HE hsz hne ⊢
      have hl := hTo_length (bts p0) i
      have hlt := hTo_lt (bts p0) i
      generalize hTo (bts p0) i = h at hl hlt HN hh
      obtain ⟨h', hh'⟩ : ∃ h', hTo (bts p0) (i + 1) = h' := ⟨_, rfl⟩
      rw [hh'] at HN
      have HH' := Lib.hid hh'
      clear hh'
      have HH := Lib.hid hh
      have HB := Lib.hid hb
      clear hh hb hsz hne
      refine start_ (n := 5) (S := fun w' => True) (ds := []) #[false, false, false, false, false] (by kernel_rfl) rfl rfl trivial (fun hHeld => ?_)
      refine with_tabW tab2 bits2 (fun HT_ HW_ => ?_)
      clear hHeld
      refine pure_ (i := 1) (N := some 16) (v := ?_) (a' := ?_) #[false, true, false, false, false] rfl rfl (any_of HT_.out (by kernel_rfl)) (fun _ _ _ h => h) (Or.inl ⟨by rfl, ?_⟩) ?_ ?_
      rotate_left
      · intro w'
        go_simp
        with_reducible rfl
      rotate_left
      · simp only [Act.put, List.setIfInBounds_toArray, List.set_cons_zero, List.set_cons_succ]
        rfl
      refine inv_at [0, 2, 3, 4] (Inv2 wr w.heap.size w1.heap.size (cellsW h) (cellsW h') (q.extract 0 64)) HT_.out HW_.out (by kernel_rfl) (by kernel_rfl) ?_ ?_ ?_
      · refine ⟨by simp only [putSel, Bool.false_eq_true, if_false], ⟨rfl, rfl, rfl, Nat.le_refl _, fun _ _ => rfl⟩, ?_⟩
        rw [if_neg (by decide)]; exact HH.out
      refine steps_cons ?_ ?_
      · rintro b a w' ⟨ha, hF⟩ hb_ hon hoff
        refine ⟨_, rfl, fun K hK => ?_⟩
        have e3 : a.tmps[3]? = some (ptr w1.heap.size) := by rw [ha]; exact (putSel_off rfl).trans rfl
        replace ha := Aside0.mk ha
        have blk := hF.2
        rw [hoff 4 (by kernel_rfl), if_neg (by decide)] at blk
        rw [if_pos (by rfl)]
        refine wp_load_row 52 (.tmp 3) rfl w1.heap.size (by simp only [Act.eval, Array.getD_eq_getD_getElem?, Option.getD_some, e3]; rfl) 52 _ (0, 0) _ blk Try.underlying52 rfl (by rw [cellsW_size, hl]; exact info8) ?_
        exact hK.out _ _ ⟨by rw [ha.out]; exact putSel_upk 0 hb_ rfl rfl rfl, hF.1, by rw [up_ne (by decide)]; exact hF.2⟩
      refine steps_cons ?_ ?_
      · rintro b a w' ⟨ha, hF⟩ hb_ hon hoff
        refine ⟨_, rfl, fun K hK => ?_⟩
        have e16 : a.tmps[16]? = some (Value.string q) := by rw [ha]; exact (putSel_off rfl).trans rfl
        replace ha := Aside0.mk ha
        refine value_ (w1 := w') (v := .string (q.extract 0 64)) (by rfl) rfl ?_ ?_
        · go_simp
          first | done | rfl | exact fun h_ => absurd h_ (by omega)
        exact hK.out _ _ ⟨by rw [ha.out]; exact putSel_upk 1 hb_ rfl rfl rfl, hF.1, by rw [up_ne (by decide)]; exact hF.2⟩
      refine steps_cons ?_ ?_
      · rintro b a w' ⟨ha, hF⟩ hb_ hon hoff
        refine ⟨_, rfl, fun K hK => ?_⟩
        have e15 : a.tmps[15]? = some (Value.agg (cellsW h)) := by rw [ha]; exact putSel_on (e := (0, 15, Value.agg (cellsW h))) 0 rfl rfl (hon 0 (by kernel_rfl)) rfl
        have e17 : a.tmps[17]? = some (Value.string (q.extract 0 64)) := by rw [ha]; exact putSel_on (e := (2, 17, Value.string (q.extract 0 64))) 1 rfl rfl (hon 2 (by kernel_rfl)) rfl
        replace ha := Aside0.mk ha
        have hqs : (q.extract 0 64).size = 64 := by rw [ByteArray.size_extract]; omega
        refine goes_ Try.func38 (by kernel_rfl) rfl #[.agg (cellsW h), .string (q.extract 0 64)] (by rfl) rfl rfl (by simp only [List.map_toArray, List.map_cons, List.map_nil, Act.eval, Array.getD_eq_getD_getElem?, Option.getD_some, e15, e17]) ?_
        refine (step h (q.extract 0 64) w' hl hlt (by omega) (by omega)).mono ?_
        rintro e w3 ⟨rfl, hb3⟩
        rw [← HN.out]
        exact ⟨_, rfl, hK.out _ _ ⟨by rw [ha.out]; exact putSel_upk 2 hb_ rfl rfl rfl, hF.1.trans (hb3.mono (by have := HB.out.size; have := hF.1.size; omega)), by rw [up_ne (by decide)]; exact keep_below hb3 _ _ hF.2⟩⟩
      refine steps_cons ?_ ?_
      · rintro b a w' ⟨ha, hF⟩ hb_ hon hoff
        refine ⟨_, rfl, fun K hK => ?_⟩
        have e3 : a.tmps[3]? = some (ptr w1.heap.size) := by rw [ha]; exact (putSel_off rfl).trans rfl
        have e18 : a.tmps[18]? = some (Value.agg (cellsW h')) := by rw [ha]; exact putSel_on (e := (3, 18, Value.agg (cellsW h'))) 2 rfl rfl (hon 3 (by kernel_rfl)) rfl
        replace ha := Aside0.mk ha
        have blk := hF.2
        rw [hb_, if_neg (by decide)] at blk
        have hl' : (cellsW h').size = 8 := by rw [HN.out, cellsW_size, stepL_length _ hl]
        rw [if_pos (by rfl)]
        refine wp_store_row 52 (.tmp 3) (.tmp 18) rfl w1.heap.size (cellsW h') (by simp only [Act.eval, Array.getD_eq_getD_getElem?, Option.getD_some, e3]; rfl) (by simp only [Act.eval, Array.getD_eq_getD_getElem?, Option.getD_some, e18]) 52 _ blk (by rw [hl']; exact info8) (by rw [hl', cellsW_size, hl]) (cellsW_one _) ?_
        exact hK.out _ _ ⟨by rw [ha.out]; exact putSel_none (v := undef) rfl, below_setRow hF.1 G1 _, by rw [up_self, if_pos rfl]; exact setRow_heap _ _ _ _ _ _ blk⟩
      exact steps_nil
      · rintro b a w' hall ⟨ha, hb3, hh3⟩
        rw [hall 4 (by kernel_rfl), if_pos rfl] at hh3
        have hb0_ := hall 0 (by kernel_rfl)
        have hb2_ := hall 2 (by kernel_rfl)
        have hb3_ := hall 3 (by kernel_rfl)
        subst ha
        simp only [putSel, hb0_, hb2_, hb3_, if_true, Act.put, List.setIfInBounds_toArray, List.set_cons_zero, List.set_cons_succ]
        have HH3 := Lib.hid hh3
        have HB3 := Lib.hid (HB.out.trans hb3)
        clear hall hb0_ hb2_ hb3_ hh3 hb3 HT_ HW_
        go_wp2_with fail
        go_roundg (gk - 1)
        case measure => omega
        case rel => exact ⟨i + 1, by omega, by rw [HE.out], by rw [HH'.out]; exact HH3.out, HB3.out⟩
    · obtain rfl : i = m := by omega
      have he : (p0.extract (64 * i) p0.size).toList.isEmpty = true := by
        rw [← decide_eq_emptyBytes]
        refine decide_eq_true ?_
        apply ByteArray.ext; apply Array.eq_empty_of_size_eq_zero
        have : (p0.extract (64 * i) p0.size).data.size = (p0.extract (64 * i) p0.size).size := rfl
        omega
      go_wp2_with (refine wpList_load_row rfl 52 _ rfl w1.heap.size rfl 52 _ (0, 0) _ hh Try.underlying52 rfl (by rw [cellsW_size, hTo_length]; exact info8) ?_)
      have hl := hTo_length (bts p0) i
      have hlt := hTo_lt (bts p0) i
      have HB := Lib.hid hb
      clear hh hb
      obtain ⟨h, hh⟩ : ∃ h, hTo (bts p0) i = h := ⟨_, rfl⟩
      rw [hh] at hl hlt ⊢
      have HHE := Lib.hid hh
      clear hh he hsz
      obtain ⟨i0, hi0, hz0, hz1, hz2⟩ := info_parts Bld.infoByte
      go_loopg [5, 20] 8 (fun kq v5 v20 wr => ∃ j : Nat, j + kq = 8 ∧ v20 = .int .i64 (j : Int) ∧ wr.ownsRow w.heap.size 5 1 v5 (4 * j) (Bld.cellsOf (outL (h.take j))) ∧ Below w.heap.size w wr)
      case atStart => exact ⟨0, by omega, rfl, World.ownsRow_nil _ _ _ _, HB.out⟩
      case round =>
        obtain ⟨j, hj, rfl, hown, hbw⟩ := hrel
        rcases Nat.lt_or_ge j 8 with h8 | h8
        · have rj := run_index_row wr h j hl h8
          have HO := Lib.hid (outL_take h j (by omega))
          have lx := getLt hlt j
          have hsz := hbw.size
          have lt := outL_length (h.take j)
          rw [List.length_take, Nat.min_eq_left (by omega)] at lt
          generalize h.getD j 0 = x at rj HO lx
          generalize outL (h.take j) = os at hown HO lt
          go_wp2_with (at_builtin; refine wpList_append_own _ rfl _ _ 55 rfl w.heap.size 5 i0 (.int .u8 0) 1 1 Try.underlying55 hi0 hz0 hz1 hz2 rfl (by decide) _ _ _ rfl (hown.alloc _) ⟨wr.heap.size, 0, none⟩ 4 4 (Bld.cellsOf (wordB x)) rfl rfl ?c1 ?c2 ?c3 ?c4 ?c5 ?_)
          case c1 =>
            intro k u hk
            rw [show (⟨wr.heap.size, 0, none⟩ : Addr).add k = ⟨wr.heap.size, k, none⟩ by simp [Addr.add]; omega, World.cell?_alloc_new]
            rw [← hk]
            have e1 : ((x / 16777216 % 256 : Nat) : Int) = (x : Int) / 16777216 := by omega
            have e2 : ((x / 65536 % 256 : Nat) : Int) = (x : Int) / 65536 % 256 := by omega
            have e3 : ((x / 256 % 256 : Nat) : Int) = (x : Int) / 256 % 256 := by omega
            have e4 : ((x % 256 : Nat) : Int) = (x : Int) % 256 := by omega
            simp only [Bld.cellsOf, wordB, List.map_cons, List.map_nil, e1, e2, e3, e4]
            exact List.getElem?_toArray
          case c2 => intro u hu; simp only [Bld.cellsOf, List.mem_map] at hu; obtain ⟨n, _, rfl⟩ := hu; rfl
          case c3 => unfold maxLen; omega
          case c4 => omega
          case c5 => simp; omega
          intro v' w2 hown' hgrow _
          have hblk := hown.lt
          go_wp2_with fail
          go_roundg (gk - 1)
          case measure => omega
          case rel =>
            refine ⟨j + 1, by omega, by go_num, ?_, (hbw.alloc hbw.size _).grown hgrow (by rw [World.size_alloc]; omega) (fun k hk => (hblk k hk).1)⟩
            rw [HO.out, show 4 * (j + 1) = 4 * j + 4 by omega]
            have := hown'
            rw [show Bld.cellsOf os ++ Bld.cellsOf (wordB x) = Bld.cellsOf (os ++ wordB x) by simp [Bld.cellsOf]] at this
            exact this
        · obtain rfl : j = 8 := by omega
          rw [List.take_of_length_le (by omega)] at hown
          have hcv := own_string (P := Try.prog) Try.underlying55 Try.underlying5 Try.underlying9 (xs := (outL h).map fun n : Nat => (n : Int)) (by rw [show nums .u8 ((outL h).map fun n : Nat => (n : Int)) = Bld.cellsOf (outL h) by simp [nums, Bld.cellsOf]]; exact hown)
          go_wp2_with fail
          go_ret
          refine ⟨?_, hbw⟩
          rw [← HHE.out, HBT.out, HM3.out]
          congr 2
          unfold strOfNums shaB shaN
          rw [List.map_map]
          rfl
end Go.Proofs.Ytggmjfonhcinhaa.Sch
namespace Go.Proofs.Ytggmjfonhcinhaa.P
open Go.RowKit Go.Proofs.YtggmjfonhcinhaaW.PrintWords
/-- sum.Sha, for the print -/
def sum_Sha.f (a0 : ByteArray) : Option ByteArray := if a0.size ≤ 1099511627776 then some (Sch.shaB a0) else none
theorem sum_Sha.calls (a0 : ByteArray) (r : ByteArray) (w : World) (h : sum_Sha.f a0 = some r) :
    Calls Try.prog 24 #[.string a0] w fun e w' => e = .returned (.string r) ∧ Below w.heap.size w w' := by
  unfold sum_Sha.f at h
  split at h
  · obtain rfl := Option.some.inj h
    exact Sch.sha a0 w (by assumption)
  · cases h
end Go.Proofs.Ytggmjfonhcinhaa.P
end Sha_
section Split_
namespace Go.Proofs.Ytggmjfonhcinhaa.P
open Go.RowKit Go.Proofs.YtggmjfonhcinhaaW.PrintWords Go.Proofs.YtggmjfonhcinhaaW.PrintLast Go.Proofs.YtggmjfonhcinhaaW.PrintMore
attribute [local go_sem] max2_int min2_int max_two min_two max_three min_three max_four min_four   -- for this text's walks alone
set_option linter.unusedVariables false
set_option linter.unusedSimpArgs false
private theorem field38_0_ (c0 c1 : Value) (w : World) : (Instr.field 38 (.agg #[c0, c1]) 0).run Try.prog w = .ok c0 w := by kernel_rfl
private theorem field38_1_ (c0 c1 : Value) (w : World) : (Instr.field 38 (.agg #[c0, c1]) 1).run Try.prog w = .ok c1 w := by kernel_rfl
attribute [local go_sem] field38_0_ field38_1_
/-- make([]T, 0, n), n at most 64: an empty row of one's own -/
theorem R_make0 {P : Program} {ops : Array Oper} {rest : List Oper} {o : Oper} {a : Act} {Q : Exit → Act → World → Prop} {α : Type} (d : Kd α) {w0 W : World} (base e : Nat) (hgd : o.guard = none) (t : TypeId) (x y : Operand) (ho : o.op = .makeSlice t x y) (n : Int)
    (hx : a.eval x = .int .i64 0) (hy : a.eval y = .int .i64 n) (ht : P.underlying t = some (.slice e)) (z : Value) (bytes : Nat) (hinfo : (P.info? e).map (fun i => (i.zero, i.size, i.bytes)) = some (some z, d.sz, bytes)) (hsz : d.sz ≤ 100) (hby : bytes ≤ 1000)
    (h0 : 0 ≤ n) (h64 : n ≤ 64) (HB : Below base w0 W) (hbase : base ≤ W.heap.size)
    (h : ∀ v1 w1, d.R e w1 base (fun _ => True) v1 [] → Below base w0 w1 → W.grownBy w1 none → wpList P ops Q rest (a.put o.dst v1) w1) : wpList P ops Q (o :: rest) a W := by
  obtain ⟨c, rfl⟩ := Int.eq_ofNat_of_zero_le h0
  have hc : c ≤ 64 := by omega
  obtain ⟨i0, hi, hzz⟩ := Option.map_eq_some_iff.1 hinfo
  simp only [Prod.mk.injEq] at hzz
  obtain ⟨hz0, hz1, hz2⟩ := hzz
  obtain ⟨w', hr, hown, hg⟩ := run_makeSlice_owned (w := W) base t e i0 z d.sz ht hi hz0 hz1 .i64 .i64 c (Nat.le_trans (Nat.mul_le_mul hc hsz) (by decide)) (by rw [hz2]; exact Nat.le_trans (Nat.mul_le_mul hby hc) (by decide)) (Nat.le_trans hc (by decide)) hbase
  refine wpList_plain hgd fun K hK => ?_
  unfold Oper.wp execOp
  simp only [ho, hx, hy, Sem.run_bind, Sem.run_pure, Result.andThen_ok, hr]
  exact hK _ _ (h _ _ ⟨fun _ _ => trivial, [], hown, Reps.none _ _⟩ (HB.grown hg hbase (fun _ he => by cases he)) hg)
mutual
def share_Split.j0 : Nat → Int → Int → Int → ByteArray → Bool → Option ((List (S38)) × Bool)
  | 0, _, _, _, _, _ => none
  | k + 1, x0, x1, x2, x3, x36 => if x36 = true then (some (([] : List (S38)), false)) else (share_Split.l0 k x1 x2 x3 (([x0] : List Int)) 1)
def share_Split.l0 : Nat → Int → Int → ByteArray → List Int → Int → Option ((List (S38)) × Bool)
  | 0, _, _, _, _, _ => none
  | k + 1, x1, x2, x3, x10, x11 => if x11 < x1 then ((code_Text.f x3).bind fun t121 => ((code_Num.f x11).bind fun t122 => (if t121.size + t122.size ≤ 9223372036854775807 then ((sum_Sha.f (t121 ++ t122)).bind fun t123 => ((sum_Num.f k t123).bind fun t124 => (if x10.length < 17592186044416 then (share_Split.l0 k x1 x2 x3 (x10 ++ [Int.tmod t124 2305843009213693951]) (wrap64 (x11 + 1))) else (none)))) else (none)))) else (if 0 ≤ x2 then (if x2 ≤ 64 then (share_Split.l1 k x2 x10 ([] : List (S38)) 1) else (none)) else (none))
def share_Split.l1 : Nat → Int → List Int → List (S38) → Int → Option ((List (S38)) × Bool)
  | 0, _, _, _, _ => none
  | k + 1, x2, x10, x12, x13 => if x13 ≤ x2 then (share_Split.l2 k x2 x10 x12 x13 0 1 x10 (x10.length : Int) 0) else (some (x12, true))
def share_Split.l2 : Nat → Int → List Int → List (S38) → Int → Int → Int → List Int → Int → Int → Option ((List (S38)) × Bool)
  | 0, _, _, _, _, _, _, _, _, _ => none
  | k + 1, x2, x10, x12, x13, x14, x15, x62, x63, x64 => if x64 < x63 then (if 0 ≤ x64 then (if x64 < (x62.length : Int) then ((group_Mul.f k (rd x62 x64) x15).bind fun t129 => ((group_Add.f x14 t129).bind fun t130 => ((group_Mul.f k x15 x13).bind fun t131 => (share_Split.l2 k x2 x10 x12 x13 t130 t131 x62 x63 (wrap64 (x64 + 1)))))) else (none)) else (none)) else (if x12.length < 8796093022208 then (share_Split.l1 k x2 x10 (x12 ++ [(⟨x13, x14⟩ : S38)]) (wrap64 (x13 + 1))) else (none))
end
def share_Split.f (k : Nat) (a0 : Int) (a1 : Int) (a2 : Int) (a3 : ByteArray) : Option ((List (S38)) × Bool) := if a1 < 1 then (share_Split.j0 k a0 a1 a2 a3 true) else (if a1 > a2 then (share_Split.j0 k a0 a1 a2 a3 true) else (if a2 > 64 then (share_Split.j0 k a0 a1 a2 a3 true) else (if a0 < 0 then (share_Split.j0 k a0 a1 a2 a3 true) else (share_Split.j0 k a0 a1 a2 a3 (decide (a0 ≥ 2305843009213693951))))))
theorem share_Split.mono_l : ∀ k, (∀ y0 y1 y2 y3 y4, LeO (share_Split.j0 k y0 y1 y2 y3 y4) (share_Split.j0 (k + 1) y0 y1 y2 y3 y4)) ∧ (∀ y0 y1 y2 y3 y4, LeO (share_Split.l0 k y0 y1 y2 y3 y4) (share_Split.l0 (k + 1) y0 y1 y2 y3 y4)) ∧ (∀ y0 y1 y2 y3, LeO (share_Split.l1 k y0 y1 y2 y3) (share_Split.l1 (k + 1) y0 y1 y2 y3)) ∧ (∀ y0 y1 y2 y3 y4 y5 y6 y7 y8, LeO (share_Split.l2 k y0 y1 y2 y3 y4 y5 y6 y7 y8) (share_Split.l2 (k + 1) y0 y1 y2 y3 y4 y5 y6 y7 y8))
  | 0 => ⟨fun _ _ _ _ _ r h => by simp [share_Split.j0] at h, fun _ _ _ _ _ r h => by simp [share_Split.l0] at h, fun _ _ _ _ r h => by simp [share_Split.l1] at h, fun _ _ _ _ _ _ _ _ _ r h => by simp [share_Split.l2] at h⟩
  | k + 1 => by
    obtain ⟨ih0, ih1, ih2, ih3⟩ := share_Split.mono_l k
    refine ⟨?_, ?_, ?_, ?_⟩
    · intro y0 y1 y2 y3 y4
      unfold share_Split.j0
      repeat' first
      | (with_reducible exact ih0 _ _ _ _ _)
      | (with_reducible exact ih1 _ _ _ _ _)
      | (with_reducible exact ih2 _ _ _ _)
      | (with_reducible exact ih3 _ _ _ _ _ _ _ _ _)
      | (with_reducible exact group_Mul.mono _ _ _)
      | (with_reducible exact sum_Num.mono _ _)
      | (with_reducible exact LeO.refl _)
      | (with_reducible exact LeO.none _)
      | (with_reducible refine LeO.ite ?_ ?_)
      | (with_reducible refine LeO.bind ?_ (fun _ => ?_))
      | exact ih0 _ _ _ _ _
      | exact ih1 _ _ _ _ _
      | exact ih2 _ _ _ _
      | exact ih3 _ _ _ _ _ _ _ _ _
      | exact group_Mul.mono _ _ _
      | exact sum_Num.mono _ _
      | exact LeO.none _
      | refine LeO.ite ?_ ?_
      | refine LeO.bind ?_ (fun _ => ?_)
    · intro y0 y1 y2 y3 y4
      unfold share_Split.l0
      repeat' first
      | (with_reducible exact ih0 _ _ _ _ _)
      | (with_reducible exact ih1 _ _ _ _ _)
      | (with_reducible exact ih2 _ _ _ _)
      | (with_reducible exact ih3 _ _ _ _ _ _ _ _ _)
      | (with_reducible exact group_Mul.mono _ _ _)
      | (with_reducible exact sum_Num.mono _ _)
      | (with_reducible exact LeO.refl _)
      | (with_reducible exact LeO.none _)
      | (with_reducible refine LeO.ite ?_ ?_)
      | (with_reducible refine LeO.bind ?_ (fun _ => ?_))
      | exact ih0 _ _ _ _ _
      | exact ih1 _ _ _ _ _
      | exact ih2 _ _ _ _
      | exact ih3 _ _ _ _ _ _ _ _ _
      | exact group_Mul.mono _ _ _
      | exact sum_Num.mono _ _
      | exact LeO.none _
      | refine LeO.ite ?_ ?_
      | refine LeO.bind ?_ (fun _ => ?_)
    · intro y0 y1 y2 y3
      unfold share_Split.l1
      repeat' first
      | (with_reducible exact ih0 _ _ _ _ _)
      | (with_reducible exact ih1 _ _ _ _ _)
      | (with_reducible exact ih2 _ _ _ _)
      | (with_reducible exact ih3 _ _ _ _ _ _ _ _ _)
      | (with_reducible exact group_Mul.mono _ _ _)
      | (with_reducible exact sum_Num.mono _ _)
      | (with_reducible exact LeO.refl _)
      | (with_reducible exact LeO.none _)
      | (with_reducible refine LeO.ite ?_ ?_)
      | (with_reducible refine LeO.bind ?_ (fun _ => ?_))
      | exact ih0 _ _ _ _ _
      | exact ih1 _ _ _ _ _
      | exact ih2 _ _ _ _
      | exact ih3 _ _ _ _ _ _ _ _ _
      | exact group_Mul.mono _ _ _
      | exact sum_Num.mono _ _
      | exact LeO.none _
      | refine LeO.ite ?_ ?_
      | refine LeO.bind ?_ (fun _ => ?_)
    · intro y0 y1 y2 y3 y4 y5 y6 y7 y8
      unfold share_Split.l2
      repeat' first
      | (with_reducible exact ih0 _ _ _ _ _)
      | (with_reducible exact ih1 _ _ _ _ _)
      | (with_reducible exact ih2 _ _ _ _)
      | (with_reducible exact ih3 _ _ _ _ _ _ _ _ _)
      | (with_reducible exact group_Mul.mono _ _ _)
      | (with_reducible exact sum_Num.mono _ _)
      | (with_reducible exact LeO.refl _)
      | (with_reducible exact LeO.none _)
      | (with_reducible refine LeO.ite ?_ ?_)
      | (with_reducible refine LeO.bind ?_ (fun _ => ?_))
      | exact ih0 _ _ _ _ _
      | exact ih1 _ _ _ _ _
      | exact ih2 _ _ _ _
      | exact ih3 _ _ _ _ _ _ _ _ _
      | exact group_Mul.mono _ _ _
      | exact sum_Num.mono _ _
      | exact LeO.none _
      | refine LeO.ite ?_ ?_
      | refine LeO.bind ?_ (fun _ => ?_)
theorem share_Split.mono : ∀ a0 a1 a2 a3 k, LeO (share_Split.f k a0 a1 a2 a3) (share_Split.f (k + 1) a0 a1 a2 a3) := by
  intro a0 a1 a2 a3 k
  obtain ⟨ih0, ih1, ih2, ih3⟩ := share_Split.mono_l k
  unfold share_Split.f
  repeat' first
      | (with_reducible exact ih0 _ _ _ _ _)
      | (with_reducible exact ih1 _ _ _ _ _)
      | (with_reducible exact ih2 _ _ _ _)
      | (with_reducible exact ih3 _ _ _ _ _ _ _ _ _)
      | (with_reducible exact group_Mul.mono _ _ _)
      | (with_reducible exact sum_Num.mono _ _)
      | (with_reducible exact LeO.refl _)
      | (with_reducible exact LeO.none _)
      | (with_reducible refine LeO.ite ?_ ?_)
      | (with_reducible refine LeO.bind ?_ (fun _ => ?_))
      | exact ih0 _ _ _ _ _
      | exact ih1 _ _ _ _ _
      | exact ih2 _ _ _ _
      | exact ih3 _ _ _ _ _ _ _ _ _
      | exact group_Mul.mono _ _ _
      | exact sum_Num.mono _ _
      | exact LeO.none _
      | refine LeO.ite ?_ ?_
      | refine LeO.bind ?_ (fun _ => ?_)
set_option maxHeartbeats 8000000 in
set_option maxRecDepth 100000 in
theorem share_Split.calls (k : Nat) (a0 : Int) (a1 : Int) (a2 : Int) (a3 : ByteArray) (r1 : List (S38)) (r2 : Bool) (w : World) (h : share_Split.f k a0 a1 a2 a3 = some (r1, r2)) :
    Calls Try.prog 9 #[.int .i64 a0, .int .i64 a1, .int .i64 a2, .string a3] w fun e w' => ∃ v0_ : Value, e = .returned (.tuple #[v0_, .bool r2]) ∧ Kd.R k38 38 w' w.heap.size (fun _ => True) v0_ r1 ∧ Below w.heap.size w w' := by
  have hu38 := Try.underlying38
  have HB := Aside0.mk (Below.refl w.heap.size w)
  have H : (if a1 < 1 then (share_Split.j0 k a0 a1 a2 a3 true) else (if a1 > a2 then (share_Split.j0 k a0 a1 a2 a3 true) else (if a2 > 64 then (share_Split.j0 k a0 a1 a2 a3 true) else (if a0 < 0 then (share_Split.j0 k a0 a1 a2 a3 true) else (share_Split.j0 k a0 a1 a2 a3 (decide (a0 ≥ 2305843009213693951))))))) = some (r1, r2) := h
  clear h
  have HC5 := Aside0.mk H
  clear H
  go_enter Try.func9, Try.ntmps9
  go_upto_region 1 with (fail)
  go_cut [36] (fun v36 wc => ∃ (kq : Nat) (x36_4 : Bool), v36 = .bool x36_4 ∧ Aside0 (share_Split.j0 kq a0 a1 a2 a3 x36_4 = some (r1, r2)) ∧ Aside0 (kq ≤ k) ∧ Aside0 (Below w.heap.size w wc))
  case first =>
    have H := HC5.out
    clear HC5
    by_cases c6 : a1 < 1
    · rw [if_pos c6] at H
      have c6b0 : decide (a1 < 1) = true := decide_eq_true c6
      clear c6
      (first | rw [c6b0] | (simp only [i64_w, i32_w]; rw [c6b0]) | skip)
      have H' := Aside0.mk H
      clear H
      go_wp2
      go_meet
      case rel => exact ⟨_, (true), (by first | rfl | (simp; done) | (simp [*]; done)), H', ⟨by first | omega | exact Nat.le_refl _⟩, ⟨by repeat (first | (with_reducible first | exact HB.out | apply below_alloc | apply pw_below_drewN | apply below_drew1) | exact HB.out)⟩⟩
    · rw [if_neg c6] at H
      have c6b0 : decide (a1 < 1) = false := decide_eq_false c6
      clear c6
      (first | rw [c6b0] | (simp only [i64_w, i32_w]; rw [c6b0]) | skip)
      by_cases c7 : a1 > a2
      · rw [if_pos c7] at H
        have c7b0 : decide (a2 < a1) = true := decide_eq_true c7
        clear c7
        have H' := Aside0.mk H
        clear H
        go_wp2
        go_meet
        case rel => exact ⟨_, (true), (by first | rfl | (simp; done) | (simp [*]; done)), H', ⟨by first | omega | exact Nat.le_refl _⟩, ⟨by repeat (first | (with_reducible first | exact HB.out | apply below_alloc | apply pw_below_drewN | apply below_drew1) | exact HB.out)⟩⟩
      · rw [if_neg c7] at H
        have c7b0 : decide (a2 < a1) = false := decide_eq_false c7
        clear c7
        by_cases c8 : a2 > 64
        · rw [if_pos c8] at H
          have c8b0 : decide (64 < a2) = true := decide_eq_true c8
          clear c8
          have H' := Aside0.mk H
          clear H
          go_wp2
          go_meet
          case rel => exact ⟨_, (true), (by first | rfl | (simp; done) | (simp [*]; done)), H', ⟨by first | omega | exact Nat.le_refl _⟩, ⟨by repeat (first | (with_reducible first | exact HB.out | apply below_alloc | apply pw_below_drewN | apply below_drew1) | exact HB.out)⟩⟩
        · rw [if_neg c8] at H
          have c8b0 : decide (64 < a2) = false := decide_eq_false c8
          clear c8
          by_cases c9 : a0 < 0
          · rw [if_pos c9] at H
            have c9b0 : decide (a0 < 0) = true := decide_eq_true c9
            clear c9
            have H' := Aside0.mk H
            clear H
            go_wp2
            go_meet
            case rel => exact ⟨_, (true), (by first | rfl | (simp; done) | (simp [*]; done)), H', ⟨by first | omega | exact Nat.le_refl _⟩, ⟨by repeat (first | (with_reducible first | exact HB.out | apply below_alloc | apply pw_below_drewN | apply below_drew1) | exact HB.out)⟩⟩
          · rw [if_neg c9] at H
            have c9b0 : decide (a0 < 0) = false := decide_eq_false c9
            clear c9
            have H' := Aside0.mk H
            clear H
            go_wp2
            go_meet
            case rel => exact ⟨_, (decide (a0 ≥ 2305843009213693951)), (by first | rfl | (simp; done) | (simp [*]; done)), H', ⟨by first | omega | exact Nat.le_refl _⟩, ⟨by repeat (first | (with_reducible first | exact HB.out | apply below_alloc | apply pw_below_drewN | apply below_drew1) | exact HB.out)⟩⟩
  case rest =>
    clear HC5
    try clear p2
    try clear c6
    try clear c6b0
    try clear c7
    try clear c7b0
    try clear c8
    try clear c8b0
    try clear c9
    try clear c9b0
    obtain ⟨kq, x36_4, rfl, HA, HJ4, HB⟩ := hcut
    cases kq with
    | zero => exact absurd HA.out (by simp [share_Split.j0])
    | succ kj4 =>
      have H := HA.out
      clear HA
      simp only [share_Split.j0] at H
      by_cases c10 : x36_4 = true
      · subst c10
        have H1 : (some (([] : List (S38)), false)) = some (r1, r2) := by rw [if_pos rfl] at H; exact H
        clear H
        have H := H1
        clear H1
        simp only [Option.some.injEq, Prod.mk.injEq] at H
        obtain ⟨rfl, rfl⟩ := H
        go_wp2
        go_ret2
        exact ⟨_, by first | rfl | (simp [errW_none, errW_some] <;> rfl) | (simp [*, errW_none, errW_some] <;> rfl), by first | exact Kd.R_nil _ _ _ _ _ | exact Kd.N_nil _ _ _ _ _ | exact Kd.V_nil _ _ _ _ _ | exact Kd.Q_nil _ _ _ _ _ | exact Kd.S_nil _ _ _ _ _, by repeat (first | (with_reducible first | exact HB.out | apply below_alloc | apply pw_below_drewN | apply below_drew1) | exact HB.out)⟩
      · replace c10 := Bool.eq_false_iff.mpr c10
        subst c10
        have H1 : (share_Split.l0 kj4 a1 a2 a3 (([a0] : List Int)) 1) = some (r1, r2) := by rw [if_neg (show ¬ (false = true) by decide)] at H; exact H
        clear H
        have H := H1
        clear H1
        obtain ⟨y118, hy118⟩ : ∃ y_ : List Int, y_ = (([a0] : List Int)) := ⟨_, rfl⟩
        replace H : (share_Split.l0 kj4 a1 a2 a3 y118 1) = some (r1, r2) := by first | (rw [hy118]; with_reducible exact H) | (have H2_ := (Option.bind_some _ _).symm.trans H; rw [hy118]; with_reducible exact H2_) | (have H2_ := (Option.bind_some _ _).symm.trans H; with_reducible exact H2_) | with_reducible exact H | (rw [hy118]; exact H) | exact H
        have Ny118 := Aside0.mk hy118
        clear hy118
        have H' := Aside0.mk H
        clear H
        go_wp2_with (first | ((with_reducible refine gate_dst (N := 38) rfl ?_); refine Kd.R_lit (Kd.int .i64) _ 3 ?hg (N := 38) ?hd (xs := ([a0] : List Int)) (inner := [.int .i64 a0]) (ok := fun _ => True) (okp := fun _ => True) ?hr ?hp (fun _ hk => hk) trivial (Below.refl _ _) (Nat.le_refl _) (by simp) ?_; (case hd => rfl); (case hg => rfl); (case hr => first | (go_simp; done) | (go_simp; rfl) | (go_simp; simp only [IntKind.wrap_u32', Int.emod_add_emod, Int.add_emod_emod])); (case hp => exact (Reps.one (show Kd.M (Kd.int .i64) _ _ _ a0 [.int .i64 a0] from rfl) (Reps.none _ _))); intro v119 w11 ho12 hb hg_ hnew_; clear hg_ hnew_; (first | rw [← Ny118.out] at ho12 | (simp only [Int.reduceToNat] at ho12; rw [← Ny118.out] at ho12)); have n0_ := Aside0.mk (Kd.R_lower ho12 (below_size (by repeat (first | (with_reducible first | exact HB.out | apply below_alloc | apply pw_below_drewN | apply below_drew1) | exact HB.out)))); have n1_ := Aside0.mk (below_step (by repeat (first | (with_reducible first | exact HB.out | apply below_alloc | apply pw_below_drewN | apply below_drew1) | exact HB.out)) hb); clear HB; have HO120 := n0_; have HB := n1_; clear n0_ n1_; clear hb ho12))
        go_loopg [10, 11] kj4 (fun kq v10 v11 w' => ∃ (x10_2 : List Int) (x11_2 : Int), v11 = .int .i64 x11_2 ∧ Aside0 (share_Split.l0 kq a1 a2 a3 x10_2 x11_2 = some (r1, r2)) ∧ Aside0 (kq ≤ kj4) ∧ Aside0 (Kd.R (Kd.int .i64) 3 w' w.heap.size (fun _ => True) v10 x10_2) ∧ Aside0 (Below w.heap.size w w'))
        case atStart => exact ⟨(y118), (1), (by first | rfl | (simp; done) | (simp [*]; done)), H', ⟨Nat.le_refl _⟩, ⟨by (with_reducible repeat (first | apply Kd.R_alloc | apply Kd.R_drewN | apply Kd.R_drew)); exact HO120.out⟩, ⟨by repeat (first | (with_reducible first | exact HB.out | apply below_alloc | apply pw_below_drewN | apply below_drew1) | exact HB.out)⟩⟩
        case round =>
          clear H'
          try clear c1
          try clear p2
          try clear c6
          try clear c6b0
          try clear c7
          try clear c7b0
          try clear c8
          try clear c8b0
          try clear c9
          try clear c9b0
          try clear c10
          try clear p2
          obtain ⟨x10_2, x11_2, rfl, HA, HK2, HO_10, HB⟩ := hrel
          cases gk with
          | zero => exact absurd HA.out (by simp [share_Split.l0])
          | succ k2 =>
            have H := HA.out
            clear HA
            simp only [share_Split.l0] at H
            by_cases c13 : x11_2 < a1
            · rw [if_pos c13] at H
              have c13b0 : decide (x11_2 < a1) = true := decide_eq_true c13
              clear c13
              replace H := Option.bind_eq_some_iff.mp H
              obtain ⟨t121, A140, H⟩ := H
              replace H : ((code_Num.f x11_2).bind fun t122 => (if t121.size + t122.size ≤ 9223372036854775807 then ((sum_Sha.f (t121 ++ t122)).bind fun t123 => ((sum_Num.f k2 t123).bind fun t124 => (if x10_2.length < 17592186044416 then (share_Split.l0 k2 a1 a2 a3 (x10_2 ++ [Int.tmod t124 2305843009213693951]) (wrap64 (x11_2 + 1))) else (none)))) else (none))) = some (r1, r2) := H
              have A14 := Aside0.mk A140
              clear A140
              replace H := Option.bind_eq_some_iff.mp H
              obtain ⟨t122, A150, H⟩ := H
              replace H : (if t121.size + t122.size ≤ 9223372036854775807 then ((sum_Sha.f (t121 ++ t122)).bind fun t123 => ((sum_Num.f k2 t123).bind fun t124 => (if x10_2.length < 17592186044416 then (share_Split.l0 k2 a1 a2 a3 (x10_2 ++ [Int.tmod t124 2305843009213693951]) (wrap64 (x11_2 + 1))) else (none)))) else (none)) = some (r1, r2) := H
              have A15 := Aside0.mk A150
              clear A150
              by_cases c16 : t121.size + t122.size ≤ 9223372036854775807
              · rw [if_pos c16] at H
                have c16b0 := eq_true c16
                have c16b1 : decide (t121.size + t122.size ≤ 9223372036854775807) = true := decide_eq_true c16
                try have c16b2 : (9223372036854775807 < t121.size + t122.size) = False := eq_false (Nat.not_lt.2 c16)
                replace H := Option.bind_eq_some_iff.mp H
                obtain ⟨t123, A170, H⟩ := H
                replace H : ((sum_Num.f k2 t123).bind fun t124 => (if x10_2.length < 17592186044416 then (share_Split.l0 k2 a1 a2 a3 (x10_2 ++ [Int.tmod t124 2305843009213693951]) (wrap64 (x11_2 + 1))) else (none))) = some (r1, r2) := H
                have A17 := Aside0.mk A170
                clear A170
                replace H := Option.bind_eq_some_iff.mp H
                obtain ⟨t124, A180, H⟩ := H
                replace H : (if x10_2.length < 17592186044416 then (share_Split.l0 k2 a1 a2 a3 (x10_2 ++ [Int.tmod t124 2305843009213693951]) (wrap64 (x11_2 + 1))) else (none)) = some (r1, r2) := H
                have A18 := Aside0.mk A180
                clear A180
                by_cases c19 : x10_2.length < 17592186044416
                · rw [if_pos c19] at H
                  have LMc19 := Aside0.mk c19
                  clear c19
                  obtain ⟨y125, hy125⟩ : ∃ y_ : List Int, y_ = (x10_2 ++ [Int.tmod t124 2305843009213693951]) := ⟨_, rfl⟩
                  replace H : (share_Split.l0 k2 a1 a2 a3 y125 (wrap64 (x11_2 + 1))) = some (r1, r2) := by first | (rw [hy125]; with_reducible exact H) | (have H2_ := (Option.bind_some _ _).symm.trans H; rw [hy125]; with_reducible exact H2_) | (have H2_ := (Option.bind_some _ _).symm.trans H; with_reducible exact H2_) | with_reducible exact H | (rw [hy125]; exact H) | exact H
                  have Ny125 := Aside0.mk hy125
                  clear hy125
                  have H' := Aside0.mk H
                  clear H
                  go_wp2_with (first | ((with_reducible refine gate_callee (f := 25) rfl ?_); refine goesL_ (some 46) rfl rfl Try.func25 (by kernel_rfl) rfl #[.string a3] rfl (by (try simp only [List.map_toArray, List.map_cons, List.map_nil]); first | done | rfl | (simp only [List.length_drop, List.length_take]; rfl)) ?_; (with_reducible refine (code_Text.calls a3 t121 _ A14.out).mono ?_); rintro e w20 ⟨rfl, hb⟩; refine ⟨_, rfl, ?_⟩; have n0_ := Aside0.mk (Kd.R_below (by (with_reducible repeat (first | apply Kd.R_alloc | apply Kd.R_drewN | apply Kd.R_drew)); exact HO_10.out) hb); have n1_ := Aside0.mk (below_step (by repeat (first | (with_reducible first | exact HB.out | apply below_alloc | apply pw_below_drewN | apply below_drew1) | exact HB.out)) hb); clear HO_10; clear HB; have HO_10 := n0_; have HB := n1_; clear n0_ n1_; (try clear hb); (try clear hb2); (try clear hk); (try clear hi)) | ((with_reducible refine gate_callee (f := 26) rfl ?_); refine goesL_ (some 48) rfl rfl Try.func26 (by kernel_rfl) rfl #[.int .i64 x11_2] rfl (by (try simp only [List.map_toArray, List.map_cons, List.map_nil]); first | done | rfl | (simp only [List.length_drop, List.length_take]; rfl)) ?_; (with_reducible refine (code_Num.calls x11_2 t122 _ A15.out).mono ?_); rintro e w21 ⟨rfl, hb⟩; refine ⟨_, rfl, ?_⟩; have n0_ := Aside0.mk (Kd.R_below (by (with_reducible repeat (first | apply Kd.R_alloc | apply Kd.R_drewN | apply Kd.R_drew)); exact HO_10.out) hb); have n1_ := Aside0.mk (below_step (by repeat (first | (with_reducible first | exact HB.out | apply below_alloc | apply pw_below_drewN | apply below_drew1) | exact HB.out)) hb); clear HO_10; clear HB; have HO_10 := n0_; have HB := n1_; clear n0_ n1_; (try clear hb); (try clear hb2); (try clear hk); (try clear hi)) | ((with_reducible refine gate_callee (f := 24) rfl ?_); refine goesL_ (some 50) rfl rfl Try.func24 (by kernel_rfl) rfl #[.string (t121 ++ t122)] rfl (by (try simp only [List.map_toArray, List.map_cons, List.map_nil]); first | done | rfl | (simp only [List.length_drop, List.length_take]; rfl)) ?_; (with_reducible refine (sum_Sha.calls (t121 ++ t122) t123 _ A17.out).mono ?_); rintro e w22 ⟨rfl, hb⟩; refine ⟨_, rfl, ?_⟩; have n0_ := Aside0.mk (Kd.R_below (by (with_reducible repeat (first | apply Kd.R_alloc | apply Kd.R_drewN | apply Kd.R_drew)); exact HO_10.out) hb); have n1_ := Aside0.mk (below_step (by repeat (first | (with_reducible first | exact HB.out | apply below_alloc | apply pw_below_drewN | apply below_drew1) | exact HB.out)) hb); clear HO_10; clear HB; have HO_10 := n0_; have HB := n1_; clear n0_ n1_; (try clear hb); (try clear hb2); (try clear hk); (try clear hi)) | ((with_reducible refine gate_callee (f := 23) rfl ?_); refine goesL_ (some 51) rfl rfl Try.func23 (by kernel_rfl) rfl #[.string t123] rfl (by (try simp only [List.map_toArray, List.map_cons, List.map_nil]); first | done | rfl | (simp only [List.length_drop, List.length_take]; rfl)) ?_; (with_reducible refine (sum_Num.calls k2 t123 t124 _ A18.out).mono ?_); rintro e w' ⟨rfl, ⟨nd, rfl⟩⟩; refine ⟨_, rfl, ?_⟩) | ((with_reducible refine gate_builtin (b := .append) (xs := #[.tmp 44, .tmp 53]) rfl ?_); at_builtin; refine Kd.R_append (Kd.int .i64) (w0 := w) w.heap.size rfl (.tmp 44) (.tmp 53) 31 3 (.int .i64 0) 8 rfl Try.underlying31 info3 rfl (by decide) (by omega) u10 x10_2 (Int.tmod t124 2305843009213693951) [.int .i64 (Int.tmod t124 2305843009213693951)] (fun _ => True) (fun _ => False) rfl rfl ?aP (fun _ hk => hk.elim) ?aF ?aO ?aB ?aS ?aL ?_; (case aP => exact rfl); (case aB => exact (by repeat (first | (with_reducible first | exact HB.out | apply below_alloc | apply pw_below_drewN | apply below_drew1) | exact HB.out))); (case aF => exact (fun _ _ => trivial)); (case aO => exact (by (with_reducible repeat (first | apply Kd.R_alloc | apply Kd.R_drewN | apply Kd.R_drew)); exact HO_10.out)); (case aS => exact (below_size (by repeat (first | (with_reducible first | exact HB.out | apply below_alloc | apply pw_below_drewN | apply below_drew1) | exact HB.out)))); (case aL => have := LMc19.out; omega); intro v126 w23 ho hb hg hat; rw [← Ny125.out] at ho; have n0_ := Aside0.mk (hb); have n1_ := Aside0.mk (ho); clear HB; clear HO_10; have HB := n0_; have HO127 := n1_; clear n0_ n1_; clear ho hb hg hat))
                  go_roundg k2
                  case measure => have := HJ4.out; have := HK2.out; omega
                  case rel => exact ⟨(y125), (wrap64 (x11_2 + 1)), (by first | rfl | (simp; done) | (simp [*]; done)), H', ⟨by have := HJ4.out; have := HK2.out; omega⟩, ⟨by (with_reducible repeat (first | apply Kd.R_alloc | apply Kd.R_drewN | apply Kd.R_drew)); exact HO127.out⟩, ⟨by repeat (first | (with_reducible first | exact HB.out | apply below_alloc | apply pw_below_drewN | apply below_drew1) | exact HB.out)⟩⟩
                · rw [if_neg c19] at H
                  exact absurd H (by simp)
              · rw [if_neg c16] at H
                exact absurd H (by simp)
            · rw [if_neg c13] at H
              have c13b0 : decide (x11_2 < a1) = false := decide_eq_false c13
              clear c13
              have cA : 0 ≤ a2 := by
                by_cases c : 0 ≤ a2
                · exact c
                · rw [if_neg c] at H; exact absurd H (by simp)
              rw [if_pos cA] at H
              have cB : a2 ≤ 64 := by
                by_cases c : a2 ≤ 64
                · exact c
                · rw [if_neg c] at H; exact absurd H (by simp)
              rw [if_pos cB] at H
              have HCA := Aside0.mk (And.intro cA cB)
              clear cA cB
              have H' := Aside0.mk H
              clear H
              go_wp2_with (first | ((with_reducible refine gate_dst (N := 56) rfl ?_); (refine R_make0 k38 (w0 := w) w.heap.size 38 rfl 22 _ _ rfl a2 rfl rfl Try.underlying22 (.agg #[.int .i64 0, .int .i64 0]) 16 info38 (by decide) (by decide) HCA.out.1 HCA.out.2 (by repeat (first | (with_reducible first | exact HB.out | apply below_alloc | apply pw_below_drewN | apply below_drew1) | exact HB.out)) (below_size (by repeat (first | (with_reducible first | exact HB.out | apply below_alloc | apply pw_below_drewN | apply below_drew1) | exact HB.out))) ?_); intro v56_ w56_ ho hb hg; have n0_ := Aside0.mk (Kd.R_grown (by (with_reducible repeat (first | apply Kd.R_alloc | apply Kd.R_drewN | apply Kd.R_drew)); exact HO_10.out) hg (fun _ _ h => by cases h)); have HO12_ := Aside0.mk ho; have n2_ := Aside0.mk hb; clear HO_10 HB ho hb hg; have HO_10 := n0_; have HB := n2_; clear n0_ n2_))
              go_loopg [12, 13] k2 (fun kq v12 v13 w' => ∃ (x12_3 : List (S38)) (x13_3 : Int), v13 = .int .i64 x13_3 ∧ Aside0 (share_Split.l1 kq a2 x10_2 x12_3 x13_3 = some (r1, r2)) ∧ Aside0 (kq ≤ k2) ∧ Aside0 (Kd.R (Kd.int .i64) 3 w' w.heap.size (fun _ => True) u10 x10_2) ∧ Aside0 (Kd.R k38 38 w' w.heap.size (fun _ => True) v12 x12_3) ∧ Aside0 (Below w.heap.size w w'))
              case atStart => exact ⟨(([] : List (S38))), (1), (by first | rfl | (simp; done) | (simp [*]; done)), H', ⟨Nat.le_refl _⟩, ⟨by (with_reducible repeat (first | apply Kd.R_alloc | apply Kd.R_drewN | apply Kd.R_drew)); exact HO_10.out⟩, ⟨HO12_.out⟩, ⟨by repeat (first | (with_reducible first | exact HB.out | apply below_alloc | apply pw_below_drewN | apply below_drew1) | exact HB.out)⟩⟩
              case round =>
                clear H'
                try clear c1
                try clear c2
                try clear p2
                try clear c6
                try clear c6b0
                try clear p6
                try clear c7
                try clear c7b0
                try clear c8
                try clear c8b0
                try clear c9
                try clear c9b0
                try clear c10
                try clear c13
                try clear c13b0
                try clear c16
                try clear c16b0
                try clear c16b1
                try clear c16b2
                try clear c19
                try clear c23
                try clear p2
                obtain ⟨x12_3, x13_3, rfl, HA, HK3, HO_10, HO_12, HB⟩ := hrel
                cases gk with
                | zero => exact absurd HA.out (by simp [share_Split.l1])
                | succ k3 =>
                  have H := HA.out
                  clear HA
                  simp only [share_Split.l1] at H
                  by_cases c24 : x13_3 ≤ a2
                  · rw [if_pos c24] at H
                    have c24b0 : decide (x13_3 ≤ a2) = true := decide_eq_true c24
                    clear c24
                    have H' := Aside0.mk H
                    clear H
                    obtain ⟨Ao25, co25, eo25⟩ := Kd.R_slice HO_10.out
                    subst eo25
                    go_wp2
                    go_loopg [14, 15, 64] k3 (fun kq v14 v15 v64 w' => ∃ (x14_4 : Int) (x15_4 : Int) (x64_4 : Int), v14 = .int .i64 x14_4 ∧ v15 = .int .i64 x15_4 ∧ v64 = .int .i64 x64_4 ∧ Aside0 (share_Split.l2 kq a2 x10_2 x12_3 x13_3 x14_4 x15_4 x10_2 (x10_2.length : Int) x64_4 = some (r1, r2)) ∧ Aside0 (kq ≤ k3) ∧ Aside0 (Kd.R (Kd.int .i64) 3 w' w.heap.size (fun _ => True) (.slice Ao25 x10_2.length co25) x10_2) ∧ Aside0 (Kd.R k38 38 w' w.heap.size (fun _ => True) u12 x12_3) ∧ Aside0 (Kd.R (Kd.int .i64) 3 w' w.heap.size (fun _ => True) (.slice Ao25 x10_2.length co25) x10_2) ∧ Aside0 (Below w.heap.size w w'))
                    case atStart => exact ⟨(0), (1), (0), (by first | rfl | (simp; done) | (simp [*]; done)), (by first | rfl | (simp; done) | (simp [*]; done)), (by first | rfl | (simp; done) | (simp [*]; done)), H', ⟨Nat.le_refl _⟩, ⟨by (with_reducible repeat (first | apply Kd.R_alloc | apply Kd.R_drewN | apply Kd.R_drew)); exact HO_10.out⟩, ⟨by (with_reducible repeat (first | apply Kd.R_alloc | apply Kd.R_drewN | apply Kd.R_drew)); exact HO_12.out⟩, ⟨by (with_reducible repeat (first | apply Kd.R_alloc | apply Kd.R_drewN | apply Kd.R_drew)); exact HO_10.out⟩, ⟨by repeat (first | (with_reducible first | exact HB.out | apply below_alloc | apply pw_below_drewN | apply below_drew1) | exact HB.out)⟩⟩
                    case round =>
                      clear H'
                      try clear c1
                      try clear c2
                      try clear p2
                      try clear c6
                      try clear c6b0
                      try clear p6
                      try clear c7
                      try clear c7b0
                      try clear c8
                      try clear c8b0
                      try clear c9
                      try clear c9b0
                      try clear c10
                      try clear c13
                      try clear c13b0
                      try clear c16
                      try clear c16b0
                      try clear c16b1
                      try clear c16b2
                      try clear c19
                      try clear c23
                      try clear c24
                      try clear c24b0
                      try clear c25
                      try clear p2
                      try clear p6
                      obtain ⟨x14_4, x15_4, x64_4, rfl, rfl, rfl, HA, HK4, HO_10, HO_12, HO_62, HB⟩ := hrel
                      cases gk with
                      | zero => exact absurd HA.out (by simp [share_Split.l2])
                      | succ k4 =>
                        have H := HA.out
                        clear HA
                        simp only [share_Split.l2] at H
                        by_cases c26 : x64_4 < (x10_2.length : Int)
                        · rw [if_pos c26] at H
                          have c26b0 : decide (x64_4 < (x10_2.length : Int)) = true := decide_eq_true c26
                          clear c26
                          by_cases c27 : 0 ≤ x64_4
                          · rw [if_pos c27] at H
                            have c27b0 : decide (0 ≤ x64_4) = true := decide_eq_true c27
                            clear c27
                            by_cases c28 : x64_4 < (x10_2.length : Int)
                            · rw [if_pos c28] at H
                              have c28b0 : decide (x64_4 < (x10_2.length : Int)) = true := decide_eq_true c28
                              clear c28
                              replace H := Option.bind_eq_some_iff.mp H
                              obtain ⟨t129, A290, H⟩ := H
                              replace H : ((group_Add.f x14_4 t129).bind fun t130 => ((group_Mul.f k4 x15_4 x13_3).bind fun t131 => (share_Split.l2 k4 a2 x10_2 x12_3 x13_3 t130 t131 x10_2 (x10_2.length : Int) (wrap64 (x64_4 + 1))))) = some (r1, r2) := H
                              have A29 := Aside0.mk A290
                              clear A290
                              replace H := Option.bind_eq_some_iff.mp H
                              obtain ⟨t130, A300, H⟩ := H
                              replace H : ((group_Mul.f k4 x15_4 x13_3).bind fun t131 => (share_Split.l2 k4 a2 x10_2 x12_3 x13_3 t130 t131 x10_2 (x10_2.length : Int) (wrap64 (x64_4 + 1)))) = some (r1, r2) := H
                              have A30 := Aside0.mk A300
                              clear A300
                              replace H := Option.bind_eq_some_iff.mp H
                              obtain ⟨t131, A310, H⟩ := H
                              replace H : (share_Split.l2 k4 a2 x10_2 x12_3 x13_3 t130 t131 x10_2 (x10_2.length : Int) (wrap64 (x64_4 + 1))) = some (r1, r2) := H
                              have A31 := Aside0.mk A310
                              clear A310
                              have H' := Aside0.mk H
                              clear H
                              have p128 : 0 ≤ (x64_4 : Int) := of_decide_eq_true (by first | (with_reducible assumption) | assumption)
                              have q128 : x64_4 < (x10_2.length : Int) := of_decide_eq_true (by first | (with_reducible assumption) | assumption)
                              obtain ⟨ad128, e128, hx128_0⟩ := Kd.at_int (Kd.R_reads' HO_62.out).2.2 x64_4 p128 q128
                              cases e128
                              replace p128 := eq_true p128
                              replace q128 := eq_true q128
                              go_wp2_with (first | ((with_reducible refine gate_callee (f := 21) rfl ?_); refine goesL_ (some 71) rfl rfl Try.func21 (by kernel_rfl) rfl #[.int .i64 (rd x10_2 x64_4), .int .i64 x15_4] rfl (by (try simp only [List.map_toArray, List.map_cons, List.map_nil]); first | done | rfl | (simp only [List.length_drop, List.length_take]; rfl)) ?_; (with_reducible refine (group_Mul.calls k4 (rd x10_2 x64_4) x15_4 t129 _ A29.out).mono ?_); rintro e w' ⟨rfl, ⟨nd, rfl⟩⟩; refine ⟨_, rfl, ?_⟩) | ((with_reducible refine gate_callee (f := 22) rfl ?_); refine goesL_ (some 72) rfl rfl Try.func22 (by kernel_rfl) rfl #[.int .i64 x14_4, .int .i64 t129] rfl (by (try simp only [List.map_toArray, List.map_cons, List.map_nil]); first | done | rfl | (simp only [List.length_drop, List.length_take]; rfl)) ?_; (with_reducible refine (group_Add.calls x14_4 t129 t130 _ A30.out).mono ?_); rintro e w' ⟨rfl, ⟨nd, rfl⟩⟩; refine ⟨_, rfl, ?_⟩) | ((with_reducible refine gate_callee (f := 21) rfl ?_); refine goesL_ (some 75) rfl rfl Try.func21 (by kernel_rfl) rfl #[.int .i64 x15_4, .int .i64 x13_3] rfl (by (try simp only [List.map_toArray, List.map_cons, List.map_nil]); first | done | rfl | (simp only [List.length_drop, List.length_take]; rfl)) ?_; (with_reducible refine (group_Mul.calls k4 x15_4 x13_3 t131 _ A31.out).mono ?_); rintro e w' ⟨rfl, ⟨nd, rfl⟩⟩; refine ⟨_, rfl, ?_⟩))
                              go_roundg k4
                              case measure => have := HJ4.out; have := HK2.out; have := HK3.out; have := HK4.out; omega
                              case rel => exact ⟨(t130), (t131), (wrap64 (x64_4 + 1)), (by first | rfl | (simp; done) | (simp [*]; done)), (by first | rfl | (simp; done) | (simp [*]; done)), (by first | rfl | (simp; done) | (simp [*]; done)), H', ⟨by have := HJ4.out; have := HK2.out; have := HK3.out; have := HK4.out; omega⟩, ⟨by (with_reducible repeat (first | apply Kd.R_alloc | apply Kd.R_drewN | apply Kd.R_drew)); exact HO_10.out⟩, ⟨by (with_reducible repeat (first | apply Kd.R_alloc | apply Kd.R_drewN | apply Kd.R_drew)); exact HO_12.out⟩, ⟨by (with_reducible repeat (first | apply Kd.R_alloc | apply Kd.R_drewN | apply Kd.R_drew)); exact HO_62.out⟩, ⟨by repeat (first | (with_reducible first | exact HB.out | apply below_alloc | apply pw_below_drewN | apply below_drew1) | exact HB.out)⟩⟩
                            · rw [if_neg c28] at H
                              exact absurd H (by simp)
                          · rw [if_neg c27] at H
                            exact absurd H (by simp)
                        · rw [if_neg c26] at H
                          have c26b0 : decide (x64_4 < (x10_2.length : Int)) = false := decide_eq_false c26
                          clear c26
                          by_cases c32 : x12_3.length < 8796093022208
                          · rw [if_pos c32] at H
                            have LMc32 := Aside0.mk c32
                            clear c32
                            obtain ⟨y132, hy132⟩ : ∃ y_ : List (S38), y_ = (x12_3 ++ [(⟨x13_3, x14_4⟩ : S38)]) := ⟨_, rfl⟩
                            replace H : (share_Split.l1 k4 a2 x10_2 y132 (wrap64 (x13_3 + 1))) = some (r1, r2) := by first | (rw [hy132]; with_reducible exact H) | (have H2_ := (Option.bind_some _ _).symm.trans H; rw [hy132]; with_reducible exact H2_) | (have H2_ := (Option.bind_some _ _).symm.trans H; with_reducible exact H2_) | with_reducible exact H | (rw [hy132]; exact H) | exact H
                            have Ny132 := Aside0.mk hy132
                            clear hy132
                            have H' := Aside0.mk H
                            clear H
                            go_wp2_with (first | ((with_reducible refine gate_builtin (b := .append) (xs := #[.tmp 77, .tmp 81]) rfl ?_); at_builtin; refine Kd.R_append k38 (w0 := w) w.heap.size rfl (.tmp 77) (.tmp 81) 22 38 (.agg #[(.int .i64 0), (.int .i64 0)]) 16 rfl Try.underlying22 info38 rfl (by decide) (by omega) u12 x12_3 (⟨x13_3, x14_4⟩ : S38) [.int .i64 x13_3, .int .i64 x14_4] (fun _ => True) (fun _ => False) rfl rfl ?aP (fun _ hk => hk.elim) ?aF ?aO ?aB ?aS ?aL ?_; (case aP => exact k38_mkM _ _ _ (⟨x13_3, x14_4⟩ : S38)); (case aB => exact (by repeat (first | (with_reducible first | exact HB.out | apply below_alloc | apply pw_below_drewN | apply below_drew1) | exact HB.out))); (case aF => exact (fun _ _ => trivial)); (case aO => exact (by (with_reducible repeat (first | apply Kd.R_alloc | apply Kd.R_drewN | apply Kd.R_drew)); exact HO_12.out)); (case aS => exact (below_size (by repeat (first | (with_reducible first | exact HB.out | apply below_alloc | apply pw_below_drewN | apply below_drew1) | exact HB.out)))); (case aL => have := LMc32.out; omega); intro v133 w33 ho hb hg hat; rw [← Ny132.out] at ho; have n0_ := Aside0.mk (Kd.R_over' (by (with_reducible repeat (first | apply Kd.R_alloc | apply Kd.R_drewN | apply Kd.R_drew)); exact HO_10.out) (Kd.R_typed (by (with_reducible repeat (first | apply Kd.R_alloc | apply Kd.R_drewN | apply Kd.R_drew)); exact HO_12.out)) (by decide) hg); have n1_ := Aside0.mk (Kd.R_over' (by (with_reducible repeat (first | apply Kd.R_alloc | apply Kd.R_drewN | apply Kd.R_drew)); exact HO_62.out) (Kd.R_typed (by (with_reducible repeat (first | apply Kd.R_alloc | apply Kd.R_drewN | apply Kd.R_drew)); exact HO_12.out)) (by decide) hg); have n2_ := Aside0.mk (hb); have n3_ := Aside0.mk (ho); clear HO_10; clear HO_62; clear HB; clear HO_12; have HO_10 := n0_; have HO_62 := n1_; have HB := n2_; have HO134 := n3_; clear n0_ n1_ n2_ n3_; clear ho hb hg hat))
                            go_roundg k4
                            case measure => have := HJ4.out; have := HK2.out; have := HK3.out; have := HK4.out; omega
                            case rel => exact ⟨(y132), (wrap64 (x13_3 + 1)), (by first | rfl | (simp; done) | (simp [*]; done)), H', ⟨by have := HJ4.out; have := HK2.out; have := HK3.out; have := HK4.out; omega⟩, ⟨by (with_reducible repeat (first | apply Kd.R_alloc | apply Kd.R_drewN | apply Kd.R_drew)); exact HO_10.out⟩, ⟨by (with_reducible repeat (first | apply Kd.R_alloc | apply Kd.R_drewN | apply Kd.R_drew)); exact HO134.out⟩, ⟨by repeat (first | (with_reducible first | exact HB.out | apply below_alloc | apply pw_below_drewN | apply below_drew1) | exact HB.out)⟩⟩
                          · rw [if_neg c32] at H
                            exact absurd H (by simp)
                  · rw [if_neg c24] at H
                    have c24b0 : decide (x13_3 ≤ a2) = false := decide_eq_false c24
                    clear c24
                    simp only [Option.some.injEq, Prod.mk.injEq] at H
                    obtain ⟨rfl, rfl⟩ := H
                    go_wp2
                    go_ret2
                    exact ⟨_, by first | rfl | (simp [errW_none, errW_some] <;> rfl) | (simp [*, errW_none, errW_some] <;> rfl), by (with_reducible repeat (first | apply Kd.R_alloc | apply Kd.R_drewN | apply Kd.R_drew)); exact HO_12.out, by repeat (first | (with_reducible first | exact HB.out | apply below_alloc | apply pw_below_drewN | apply below_drew1) | exact HB.out)⟩
end Go.Proofs.Ytggmjfonhcinhaa.P
end Split_
