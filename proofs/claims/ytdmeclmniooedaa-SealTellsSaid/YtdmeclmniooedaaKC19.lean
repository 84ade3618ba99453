/- Texts of this claim, merged: what the functions that the law reaches compute, and what that says. -/
import Derived.Test.YtdmeclmniooedaaKC17
import Derived.Test.YtdmeclmniooedaaKC18
section Stream_
namespace Go.Proofs.Ytdmeclmniooedaa.Rng
open Go.RowKit Go.Proofs.Ytdmeclmniooedaa.P Go.Proofs.YtdmeclmniooedaaW.PrintWords Go.Proofs.YtdmeclmniooedaaW.PrintLast Go.Proofs.YtdmeclmniooedaaW.PrintMore
set_option linter.unusedVariables false
set_option linter.unusedSimpArgs false
attribute [local go_sem] Oper.semAt_some
open ShaL in
def blockB (key nonce : ByteArray) (i : Nat) : ByteArray := Sch.shaB (listB [⟨#[115, 116, 114, 101, 97, 109]⟩, key, nonce, numB (i : Int)])
def strm (key nonce : ByteArray) (j : Nat) : Nat := (ShaL.bts (blockB key nonce (j / 32))).getD (j % 32) 0
theorem listB_size (l : List ByteArray) : (listB l).size ≤ 10 + 10 * l.length + szs l := by
  have h1 := listTo_length l
  have h2 := numB_size (l.length : Int)
  have h3 : (numB (l.length : Int)).data.toList.length = (numB (l.length : Int)).size := by rw [Array.length_toList]; rfl
  have h4 : (listB l).size = (numB (l.length : Int)).data.toList.length + (listTo l).length := by
    simp only [listB, ByteArray.size, List.size_toArray, List.length_append]
  omega
theorem shaB_size (s : ByteArray) : (Sch.shaB s).size = 32 := by
  unfold Sch.shaB
  simp only [ByteArray.size, List.size_toArray, List.length_map]
  rw [Sch.shaN, Sch.outL_length, Sch.hTo_length]
noncomputable def T2 : Bool × List (List Nat × List Nat) := rtab .any (opsOf Try.f56 2)
def B2 : List Nat := [0, 0, 0, 4, 15, 31, 63]
theorem tab2 : rtab .any (opsOf Try.f56 2) = T2 := rfl
theorem bits2 : waitsOk T2.2 B2 = true := by kernel_rfl
set_option maxHeartbeats 4000000 in
set_option maxRecDepth 100000 in
theorem stream1 (n : Nat) (hn : 1 ≤ n) (key nonce : ByteArray) (hk : key.size ≤ 1000000) (hno : nonce.size ≤ 1000000) (bk bn : Nat) (w : World) (hck : w.cell? ⟨bk, 0, none⟩ = some (.string key)) (hcn : w.cell? ⟨bn, 0, none⟩ = some (.string nonce)) :
    Hands Fence.wide n Try.prog 56 #[.pointer (some ⟨bk, 0, none⟩), .pointer (some ⟨bn, 0, none⟩)] (fun j => #[.int .u8 ((strm key nonce j : Nat) : Int)]) (fun A B => B.cell? ⟨bk, 0, none⟩ = A.cell? ⟨bk, 0, none⟩ ∧ B.cell? ⟨bn, 0, none⟩ = A.cell? ⟨bn, 0, none⟩) w := by
  intro l J X N W hN40 hW hJ hN hY h0
  have ltof : ∀ (A : World) (b : Nat) (v : Value), A.cell? ⟨b, 0, none⟩ = some v → b < A.heap.size := by
    intro A b v h
    rcases Nat.lt_or_ge b A.heap.size with h' | h'
    · exact h'
    · simp [World.cell?, Array.getElem?_eq_none h'] at h
  have mv : ∀ (A B : World) (b : Nat) (v : Value), A.cell? ⟨b, 0, none⟩ = some v → Below A.heap.size A B → B.cell? ⟨b, 0, none⟩ = some v := fun A B b v h hb => (hb.cell (p := ⟨b, 0, none⟩) (ltof A b v h)).trans h
  have hWk : W.cell? ⟨bk, 0, none⟩ = some (.string key) := mv w W bk _ hck hW
  have hWn : W.cell? ⟨bn, 0, none⟩ = some (.string nonce) := mv w W bn _ hcn hW
  have MV := Lib.hid mv
  clear mv ltof
  have HHN := Lib.hid hN
  have HHY := Lib.hid hY
  refine callsIn_wide.2 ?_
  go_enter Try.func56, Try.ntmps56
  go_wp2_with fail
  clear hN hY
  go_loopg [4] N (fun kq v4 wr => ∃ i : Nat, 32 * i + kq = N ∧ v4 = .int .i64 (i : Int) ∧ J (32 * i) wr ∧ wr.cell? ⟨bk, 0, none⟩ = some (.string key) ∧ wr.cell? ⟨bn, 0, none⟩ = some (.string nonce))
  case atStart => exact ⟨0, by omega, rfl, h0, hWk, hWn⟩
  case round =>
    obtain ⟨i, hi, rfl, hj, ck, cn⟩ := hrel
    have hlt := HHN.out _ _ hj
    have hblock : seal_h.f [⟨#[115, 116, 114, 101, 97, 109]⟩, key, nonce, numB (i : Int)] = some (blockB key nonce i) := by
      have := numB_size (i : Int)
      have hl : code_List.f [⟨#[115, 116, 114, 101, 97, 109]⟩, key, nonce, numB (i : Int)] = some (listB [⟨#[115, 116, 114, 101, 97, 109]⟩, key, nonce, numB (i : Int)]) := by
        unfold code_List.f
        have h2 : (ByteArray.mk #[115, 116, 114, 101, 97, 109]).size = 6 := rfl
        rw [if_pos ⟨by simp, by simp only [szs, List.map_cons, List.map_nil, List.sum_cons, List.sum_nil]; omega⟩]
      have hsz : (listB [⟨#[115, 116, 114, 101, 97, 109]⟩, key, nonce, numB (i : Int)]).size ≤ 1099511627776 := by
        have h1 := listB_size [⟨#[115, 116, 114, 101, 97, 109]⟩, key, nonce, numB (i : Int)]
        have h2 : (ByteArray.mk #[115, 116, 114, 101, 97, 109]).size = 6 := rfl
        simp only [szs, List.map_cons, List.map_nil, List.sum_cons, List.sum_nil, List.length_cons, List.length_nil] at h1
        omega
      unfold seal_h.f
      rw [hl, Option.bind_some, show sum_Sha.f _ = some _ from if_pos hsz, Option.bind_some]; rfl
    try go_wp2_with fail
    refine start_ (n := 7) (S := fun w' => w'.cell? ⟨bk, 0, none⟩ = some (.string key) ∧ w'.cell? ⟨bn, 0, none⟩ = some (.string nonce)) (ds := []) #[false, false, false, false, false, false, false] (by kernel_rfl) rfl rfl ⟨ck, cn⟩ (fun hHeld => ?_); refine with_tabW tab2 bits2 (fun HT_ HW_ => ?_)
    generalize hWd : wr.drew = wd at hHeld ⊢
    have hjd : J (32 * i) wd := by rw [← hWd]; exact hJ _ _ _ hj (below_drew1 (Below.refl _ _))
    have ckd : wd.cell? ⟨bk, 0, none⟩ = some (.string key) := by rw [← hWd]; exact MV.out _ _ _ _ ck (below_drew1 (Below.refl _ _))
    have cnd : wd.cell? ⟨bn, 0, none⟩ = some (.string nonce) := by rw [← hWd]; exact MV.out _ _ _ _ cn (below_drew1 (Below.refl _ _))
    refine take_ (i := 0) (N := some 9) (v := ?_) (a' := ?_) #[true, false, false, false, false, false, false] rfl rfl (take_ofW HT_.out HW_.out (by kernel_rfl)) (fun _ _ _ h => h) (Or.inl ⟨by rfl, ?_⟩) hHeld ?_ ?_
    rotate_left
    · rintro w' ⟨s0, s1⟩
      go_simp
      with_reducible rfl
    rotate_left
    · simp only [Act.put, List.setIfInBounds_toArray, List.set_cons_zero, List.set_cons_succ, i64_w, i32_w]
      rfl
    refine take_ (i := 1) (N := some 10) (v := ?_) (a' := ?_) #[true, true, false, false, false, false, false] rfl rfl (take_ofW HT_.out HW_.out (by kernel_rfl)) (fun _ _ _ h => h) (Or.inl ⟨by rfl, ?_⟩) hHeld ?_ ?_
    rotate_left
    · rintro w' ⟨s0, s1⟩
      go_simp
      with_reducible rfl
    rotate_left
    · simp only [Act.put, List.setIfInBounds_toArray, List.set_cons_zero, List.set_cons_succ, i64_w, i32_w]
      rfl
    refine pure_ (i := 2) (N := some 11) (v := ?_) (a' := ?_) #[true, true, true, false, false, false, false] rfl rfl (any_of HT_.out (by kernel_rfl)) (fun _ _ _ h => h) (Or.inl ⟨by rfl, ?_⟩) ?_ ?_
    rotate_left
    · intro w'
      go_simp
      with_reducible rfl
    rotate_left
    · simp only [Act.put, List.setIfInBounds_toArray, List.set_cons_zero, List.set_cons_succ, i64_w, i32_w]
      rfl
    refine one_ (i := 3) (N := some 12) #[true, true, true, true, false, false, false] rfl rfl (one_of HT_.out (by kernel_rfl)) (by decide) (fun K hK => ?_)
    refine goes_ Try.func22 (by kernel_rfl) rfl #[.int .i64 (i : Int)] (by rfl) rfl rfl (by (try simp only [List.map_toArray, List.map_cons, List.map_nil]); first | done | rfl) ?_
    refine (code_Num.calls (i : Int) _ _ (num_at (i : Int) (by omega) (by omega))).mono ?_
    rintro e w3 ⟨rfl, hb3⟩
    refine ⟨_, rfl, ?_⟩
    have hjd3 : J (32 * i) w3 := hJ _ _ _ hjd hb3
    have ck3 : w3.cell? ⟨bk, 0, none⟩ = some (.string key) := MV.out _ _ _ _ ckd hb3
    have cn3 : w3.cell? ⟨bn, 0, none⟩ = some (.string nonce) := MV.out _ _ _ _ cnd hb3
    refine hK.out _ _ ⟨ck3, cn3⟩ (fun hHeld => ?_)
    clear hK K
    refine norm_ (a' := ?_) ?_ ?_
    rotate_left
    · show Act.put _ (some 12) _ = _
      simp only [Act.put, List.setIfInBounds_toArray, List.set_cons_zero, List.set_cons_succ, i64_w, i32_w]
      rfl
    refine one_ (i := 4) (N := some 13) #[true, true, true, true, true, false, false] rfl rfl (one_of HT_.out (by kernel_rfl)) (by decide) (fun K hK => ?_)
    refine Kd.R_lit_step Kd.string _ 9 ?hg (N := 13) ?hd (xs := ([⟨#[115, 116, 114, 101, 97, 109]⟩, key, nonce, numB (i : Int)] : List ByteArray)) (inner := [.string ⟨#[115, 116, 114, 101, 97, 109]⟩, .string key, .string nonce, .string (numB (i : Int))]) (ok := fun _ => True) (okp := fun _ => True) ?hr ?hp (fun _ hk => hk) trivial (Below.refl _ _) (Nat.le_refl _) (by simp) ?_; (case hd => rfl); (case hg => rfl); (case hr => first | (go_simp; done) | (go_simp; rfl)); (case hp => exact (Reps.one (show Kd.M Kd.string _ _ _ _ [.string _] from rfl) (Reps.one (show Kd.M Kd.string _ _ _ _ [.string _] from rfl) (Reps.one (show Kd.M Kd.string _ _ _ _ [.string _] from rfl) (Reps.one (show Kd.M Kd.string _ _ _ _ [.string _] from rfl) (Reps.none _ _))))))
    intro v153 w4 ho hb4 hg_ hnew_
    clear hg_ hnew_
    have hjd4 : J (32 * i) w4 := hJ _ _ _ hjd3 hb4
    have ck4 : w4.cell? ⟨bk, 0, none⟩ = some (.string key) := MV.out _ _ _ _ ck3 hb4
    have cn4 : w4.cell? ⟨bn, 0, none⟩ = some (.string nonce) := MV.out _ _ _ _ cn3 hb4
    obtain ⟨Ao, co, rfl⟩ := Kd.R_slice ho
    refine hK.out _ _ ⟨ck4, cn4⟩ (fun hHeld => ?_)
    clear hK K
    refine norm_ (a' := ?_) ?_ ?_
    rotate_left
    · show Act.put _ (some 13) _ = _
      simp only [Act.put, List.setIfInBounds_toArray, List.set_cons_zero, List.set_cons_succ, i64_w, i32_w]
      rfl
    refine one_ (i := 5) (N := some 14) #[true, true, true, true, true, true, false] rfl rfl (one_of HT_.out (by kernel_rfl)) (by decide) (fun K hK => ?_)
    refine goes_ Try.func28 (by kernel_rfl) rfl #[.slice Ao 4 co] (by rfl) rfl rfl (by (try simp only [List.map_toArray, List.map_cons, List.map_nil]); first | done | rfl) ?_
    refine (seal_h.calls Ao co [⟨#[115, 116, 114, 101, 97, 109]⟩, key, nonce, numB (i : Int)] (blockB key nonce i) _ (Kd.R_reads' ho).2.2 (Kd.R_reads' ho).2.1 hblock).mono ?_
    rintro e w5 ⟨rfl, hb5⟩
    refine ⟨_, rfl, ?_⟩
    have hjd5 : J (32 * i) w5 := hJ _ _ _ hjd4 hb5
    have ck5 : w5.cell? ⟨bk, 0, none⟩ = some (.string key) := MV.out _ _ _ _ ck4 hb5
    have cn5 : w5.cell? ⟨bn, 0, none⟩ = some (.string nonce) := MV.out _ _ _ _ cn4 hb5
    refine hK.out _ _ ⟨ck5, cn5⟩ (fun hHeld => ?_)
    clear hK K
    refine norm_ (a' := ?_) ?_ ?_
    rotate_left
    · show Act.put _ (some 14) _ = _
      simp only [Act.put, List.setIfInBounds_toArray, List.set_cons_zero, List.set_cons_succ, i64_w, i32_w]
      rfl
    refine pure_ (i := 6) (N := some 5) (v := ?_) (a' := ?_) #[true, true, true, true, true, true, true] rfl rfl (any_of HT_.out (by kernel_rfl)) (fun _ _ _ h => h) (Or.inl ⟨by rfl, ?_⟩) ?_ ?_
    rotate_left
    · intro w'
      go_simp
      with_reducible rfl
    rotate_left
    · simp only [Act.put, List.setIfInBounds_toArray, List.set_cons_zero, List.set_cons_succ, i64_w, i32_w]
      rfl
    refine done_ (done_of HT_.out (by kernel_rfl)) ?_
    have HJ5 := Lib.hid hjd5
    have HB5 := Lib.hid (And.intro ck5 cn5)
    clear ck cn ckd cnd ck3 cn3 ck4 cn4 ck5 cn5 hjd hjd3 hjd4 hjd5 hb3 hb4 hb5 ho hHeld HT_ HW_ hWd hj
    go_wp2_with fail
    have hbs := shaB_size (listB [⟨#[115, 116, 114, 101, 97, 109]⟩, key, nonce, numB (i : Int)])
    rw [show Sch.shaB (listB [⟨#[115, 116, 114, 101, 97, 109]⟩, key, nonce, numB (i : Int)]) = blockB key nonce i from rfl] at hbs
    have hstr : ∀ k, k < 32 → strm key nonce (32 * i + k) = (ShaL.bts (blockB key nonce i)).getD k 0 := by
      intro k hk
      rw [strm, show (32 * i + k) / 32 = i by omega, show (32 * i + k) % 32 = k by omega]
    have HSTR := Lib.hid hstr
    clear hstr hblock
    generalize blockB key nonce i = blk at hbs HSTR
    rw [hbs]
    go_loopg [17] 32 (fun kq v17 wr => ∃ k : Nat, k + kq = 32 ∧ v17 = .int .i64 (k : Int) ∧ J (32 * i + k) wr ∧ wr.cell? ⟨bk, 0, none⟩ = some (.string key) ∧ wr.cell? ⟨bn, 0, none⟩ = some (.string nonce))
    case atStart => exact ⟨0, by omega, rfl, HJ5.out, HB5.out.1, HB5.out.2⟩
    case round =>
      obtain ⟨k, hk, rfl, hjk, hbk⟩ := hrel
      clear HJ5 HB5
      rcases Nat.lt_or_ge k 32 with hk32 | hk32
      · refine (wpIn_wide (n := n)).1 ?_
        obtain ⟨fn, tmps, assign, body, hy, hR⟩ := HHY.out _ _ hjk
        have hxb := ShaL.bt_nat blk k (by omega)
        rw [← HSTR.out k hk32] at hxb
        have hx := bt_at blk (k : Int) (by rw [Int.toNat_natCast]; omega)
        rw [hxb] at hx
        have hx2 : (blk[k]'(by omega)).toNat = strm key nonce (32 * i + k) := by
          have h_ : (((blk[k]'(by omega)).toNat : Nat) : Int) = ((strm key nonce (32 * i + k) : Nat) : Int) := hx
          omega
        clear hx hxb
        have HB := Lib.hid hbk
        clear hbk
        gi_wp2
        refine hR.mono ?_
        rintro e W3 (⟨rfl, hJ3, hk3⟩ | ⟨rfl, hX3⟩)
        · have HJ3 := Lib.hid hJ3
          have HB3 := Lib.hid (And.intro (hk3.1.trans HB.out.1) (hk3.2.trans HB.out.2))
          clear hJ3 hk3 hR hy hjk
          gi_wp2
          go_roundg (gk - 1)
          case measure => omega
          case rel => exact ⟨k + 1, by omega, by go_num, HJ3.out, HB3.out.1, HB3.out.2⟩
        · gi_wp2
          refine bodyPost_ret (results_none rfl _ _ _) rfl ?_
          exact ⟨⟨_, rfl⟩, hX3⟩
      · obtain rfl : k = 32 := by omega
        have hlt2 := HHN.out _ _ hjk
        go_wp2_with fail
        go_roundg (N - (32 * (i + 1)))
        case measure => omega
        case rel => exact ⟨i + 1, by omega, by go_num, hjk, hbk.1, hbk.2⟩
end Go.Proofs.Ytdmeclmniooedaa.Rng
end Stream_
