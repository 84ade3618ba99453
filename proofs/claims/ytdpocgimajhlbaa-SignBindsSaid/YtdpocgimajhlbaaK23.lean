/- Texts of this claim, merged: what the functions that the law reaches compute, and what that says. -/
import Derived.Test.YtdpocgimajhlbaaK15
import Derived.Test.YtdpocgimajhlbaaK20
import Derived.Test.YtdpocgimajhlbaaK21
import Derived.Test.YtdpocgimajhlbaaK22
section ShaRef_
namespace Go.Proofs.Ytdpocgimajhlbaa.Mark
open Go.RowKit Go.Proofs.Ytdpocgimajhlbaa.P Go.Proofs.Ytdpocgimajhlbaa.ShaL Go.Proofs.Ytdpocgimajhlbaa.Sch Go.Proofs.YtdpocgimajhlbaaW.PrintWords Go.Proofs.YtdpocgimajhlbaaW.PrintLast Go.Proofs.YtdpocgimajhlbaaW.PrintMore
set_option linter.unusedVariables false
/-- 64 bytes of a row that has been made, as a row that is read -/
theorem markC {w : World} {g : Nat} {T : TypeId} {cur : Array Value} {fr : Nat × Nat} {l : List Nat} (hh : w.heap[g]? = some (.cells cur T fr)) (htake : cur.toList.take l.length = Bld.cellsOf l) (i : Nat) (hi : i + 64 ≤ l.length) :
    Kd.C (Kd.int .u8) w (some ⟨g, i, none⟩) 64 (nt ((l.drop i).take 64)) := by
  refine ⟨?_, by decide, fun _ => ⟨_, rfl, fun j p hj => ⟨[.int .u8 p], rfl, rfl, fun q u hu => ?_⟩⟩⟩
  · rw [nt_length, List.length_take, List.length_drop]; omega
  · rcases q with _ | q
    · obtain rfl : Value.int .u8 p = u := by simpa using hu
      rw [show (⟨g, i, none⟩ : Addr).add (j * (Kd.int IntKind.u8).sz + 0) = ⟨g, i + j, none⟩ by
        simp [Addr.add, Kd.int, Kd.scalar], cell_of_row w g _ cur T fr hh]
      simp only [nt, List.getElem?_map, List.getElem?_take] at hj
      split at hj
      · rw [List.getElem?_drop] at hj
        have h1 : (Bld.cellsOf l)[i + j]? = some (.int .u8 p) := by
          simp only [Bld.cellsOf, List.getElem?_map]
          cases e : l[i + j]? with
          | none => rw [e] at hj; cases hj
          | some x => rw [e] at hj; simp only [Option.map_some, Option.some.injEq] at hj ⊢; rw [hj]
        rw [← htake, List.getElem?_take] at h1
        split at h1
        · rw [← h1, Array.getElem?_toList]
        · cases h1
      · cases hj
    · simp at hu
theorem outL_at : ∀ (h : List Nat) (i : Nat), h.length = 8 → i < 32 → (outL h).take (i + 1) = (outL h).take i ++ [h.getD (i / 4) 0 / 2 ^ (24 - 8 * (i % 4)) % 256]
  | [_, _, _, _, _, _, _, _], 0, _, _ => rfl
  | [_, _, _, _, _, _, _, _], 1, _, _ => rfl
  | [_, _, _, _, _, _, _, _], 2, _, _ => rfl
  | [_, _, _, _, _, _, _, _], 3, _, _ => by simp [outL, wordB]
  | [_, _, _, _, _, _, _, _], 4, _, _ => rfl
  | [_, _, _, _, _, _, _, _], 5, _, _ => rfl
  | [_, _, _, _, _, _, _, _], 6, _, _ => rfl
  | [_, _, _, _, _, _, _, _], 7, _, _ => by simp [outL, wordB]
  | [_, _, _, _, _, _, _, _], 8, _, _ => rfl
  | [_, _, _, _, _, _, _, _], 9, _, _ => rfl
  | [_, _, _, _, _, _, _, _], 10, _, _ => rfl
  | [_, _, _, _, _, _, _, _], 11, _, _ => by simp [outL, wordB]
  | [_, _, _, _, _, _, _, _], 12, _, _ => rfl
  | [_, _, _, _, _, _, _, _], 13, _, _ => rfl
  | [_, _, _, _, _, _, _, _], 14, _, _ => rfl
  | [_, _, _, _, _, _, _, _], 15, _, _ => by simp [outL, wordB]
  | [_, _, _, _, _, _, _, _], 16, _, _ => rfl
  | [_, _, _, _, _, _, _, _], 17, _, _ => rfl
  | [_, _, _, _, _, _, _, _], 18, _, _ => rfl
  | [_, _, _, _, _, _, _, _], 19, _, _ => by simp [outL, wordB]
  | [_, _, _, _, _, _, _, _], 20, _, _ => rfl
  | [_, _, _, _, _, _, _, _], 21, _, _ => rfl
  | [_, _, _, _, _, _, _, _], 22, _, _ => rfl
  | [_, _, _, _, _, _, _, _], 23, _, _ => by simp [outL, wordB]
  | [_, _, _, _, _, _, _, _], 24, _, _ => rfl
  | [_, _, _, _, _, _, _, _], 25, _, _ => rfl
  | [_, _, _, _, _, _, _, _], 26, _, _ => rfl
  | [_, _, _, _, _, _, _, _], 27, _, _ => by simp [outL, wordB]
  | [_, _, _, _, _, _, _, _], 28, _, _ => rfl
  | [_, _, _, _, _, _, _, _], 29, _, _ => rfl
  | [_, _, _, _, _, _, _, _], 30, _, _ => rfl
  | [_, _, _, _, _, _, _, _], 31, _, _ => by simp [outL, wordB]
  | [_, _, _, _, _, _, _, _], n + 32, _, h => absurd h (by omega)
theorem next_calls (h b : List Nat) (hh : h.length = 8) (hlt : ∀ n ∈ h, n < 4294967296) (hb : ∀ n ∈ b, n < 256) (hl : b.length = 64) (A0 A1 : Option Addr) (c0 c1 : Nat) (w : World)
    (h0 : Kd.C (Kd.int .u32) w A0 8 (nt h)) (hc0 : 8 ≤ c0) (h1 : Kd.C (Kd.int .u8) w A1 64 (nt b)) (hc1 : 64 ≤ c1) :
    Calls Try.prog 54 #[.slice A0 8 c0, .slice A1 64 c1] w fun e w' => ∃ v0_ : Value, e = .returned v0_ ∧ Kd.R (Kd.int .u32) 61 w' w.heap.size (fun _ => True) v0_ (nt (stepL h b)) ∧ Below w.heap.size w w' := by
  have e0 : (nt h).length = 8 := by rw [nt_length, hh]
  have e1 : (nt b).length = 64 := by rw [nt_length, hl]
  have := agoraref03_next.calls 200 A0 c0 (nt h) A1 c1 (nt b) _ w (by rw [e0]; exact h0) (by rw [e0]; exact hc0) (by rw [e1]; exact h1) (by rw [e1]; exact hc1) (next_at h b hh hlt hb hl 200 (Nat.le_refl _))
  rw [e0, e1] at this
  exact this
set_option maxHeartbeats 4000000 in
set_option maxRecDepth 100000 in
theorem refSha (s : ByteArray) (w : World) (hs : s.size ≤ 1099511627776) :
    Calls Try.prog 47 #[.string s] w fun e w' => e = .returned (.string (shaB s)) ∧ Below w.heap.size w w' := by
  obtain ⟨i0, hi0, hz0, hz1, hz2⟩ := info_parts Bld.infoByte
  go_enter Try.func47, Try.ntmps47
  have hcv := Lib.run_convert_string_bytes (P := Try.prog) w 9 49 5 s Try.underlying9 Try.underlying49 Try.underlying5
  have hconv := OwnM.conv w w.heap.size 5 s (Nat.le_refl _) (by unfold maxLen; omega)
  have hsl : (Lib.strCells s).length = s.size := Lib.strCells_length s
  have hbw := Lib.bytesWorld_below w 5 s
  have hbz := Lib.bytesWorld_size w 5 s
  go_wp2_with (at_builtin; refine wpList_append_mark _ rfl _ _ 49 rfl w.heap.size 5 i0 (.int .u8 0) Try.underlying49 hi0 hz0 hz1 hz2 rfl _ _ rfl (hconv.alloc _) _ 1 (.int .u8 128) rfl ?c1 rfl rfl ?c2 ?c3 ?_)
  case c1 =>
    have := World.cell?_alloc_new (w := Lib.bytesWorld w 5 s) #[Value.int .u8 128] 5 0
    rw [hbz] at this
    exact this
  case c2 => omega
  case c3 => rw [World.size_alloc]; omega
  intro v1 w1 hown1 hb1
  have hB1 : Below w.heap.size w w1 := (hbw.alloc hbw.size _).trans hb1
  rw [Bld.cellsOf_str, show (Value.int .u8 128) = .int .u8 ((128 : Nat) : Int) from rfl, Bld.cellsOf_snoc, show s.data.toList.map UInt8.toNat = bts s from rfl] at hown1
  clear hcv hconv hsl hbw hbz hb1
  have hlb := bts_length s
  have hz := Bld.zerosFor_le s.size
  have HS := Lib.hid hs
  have I0 := Lib.hid hi0
  have I1 := Lib.hid hz0
  have I2 := Lib.hid hz1
  have I3 := Lib.hid hz2
  clear hi0 hz0 hz1 hz2
  go_wp2_with fail
  go_loopg [3] (Bld.zerosFor s.size) (fun kq v3 wr => ∃ j, j + kq = Bld.zerosFor s.size ∧ OwnM wr w.heap.size 5 v3 (Bld.cellsOf (bts s ++ [128] ++ List.replicate j 0)) ∧ Below w.heap.size w wr)
  case atStart => exact ⟨0, by omega, by rw [List.replicate_zero, List.append_nil]; exact hown1, hB1⟩
  case round =>
    obtain ⟨j, hj, hown, hb⟩ := hrel
    clear hown1 hB1
    have hlen : (Bld.cellsOf (bts s ++ [128] ++ List.replicate j 0)).length = s.size + 1 + j := by
      rw [Bld.cellsOf_length]; simp only [List.length_append, List.length_cons, List.length_nil, List.length_replicate]; omega
    obtain ⟨g, cap, rfl⟩ : ∃ g cap, u3 = Value.slice (some ⟨g, 0, none⟩) (s.size + 1 + j) cap := by
      obtain ⟨g, cap, _, _, h, _⟩ := id hown
      exact ⟨g, cap, by rw [h, hlen]⟩
    have HB := Lib.hid hb
    have hbz := hb.size
    clear hb
    have HX := Lib.hid (show Bld.cellsOf (bts s ++ [128] ++ List.replicate (j + 1) 0) = Bld.cellsOf (bts s ++ [128] ++ List.replicate j 0) ++ [.int .u8 0] by
      rw [List.replicate_succ', ← List.append_assoc, ← Bld.cellsOf_snoc]; rfl)
    rcases Nat.lt_or_ge j (Bld.zerosFor s.size) with h8 | h8
    · have ht : (s.size + 1 + j) % 64 ≠ 56 := by unfold Bld.zerosFor at h8; omega
      generalize Bld.cellsOf (bts s ++ [128] ++ List.replicate j 0) = xs at hown hlen HX
      have ht' : ((((s.size : Int) + 1 + j) % 64) != 56) = true := by rw [bne_iff_ne]; omega
      clear hs
      go_wp2_with (at_builtin; refine wpList_append_mark _ rfl _ _ 49 rfl w.heap.size 5 i0 (.int .u8 0) Try.underlying49 I0.out I1.out I2.out I3.out rfl _ xs rfl (hown.alloc _) _ 1 (.int .u8 0) rfl ?c1 rfl rfl ?c2 ?c3 ?_)
      case c1 => exact World.cell?_alloc_new (w := wr) #[Value.int .u8 0] 5 0
      case c2 => have := HS.out; omega
      case c3 => rw [World.size_alloc]; omega
      intro v2 w2 hown2 hb2
      go_wp2_with fail
      go_roundg (gk - 1)
      case measure => omega
      case rel => exact ⟨j + 1, by omega, by rw [HX.out]; exact hown2, (HB.out.alloc hbz _).trans hb2⟩
    · obtain rfl : j = Bld.zerosFor s.size := by omega
      have ht : (s.size + 1 + Bld.zerosFor s.size) % 64 = 56 := by unfold Bld.zerosFor; omega
      have ht' : ((((s.size : Int) + 1 + (Bld.zerosFor s.size : Nat)) % 64) != 56) = false := by rw [bne_eq_false_iff_eq]; omega
      clear hs
      go_wp2_with fail
      have hn8 : IntKind.u64.wrap (8 * IntKind.u64.wrap (s.size : Int)) = ((8 * s.size : Nat) : Int) := by
        have := HS.out; rw [IntKind.wrap_u64, IntKind.wrap_u64]; omega
      rw [hn8]
      have H0 := Lib.hid hown
      have HB0 := Lib.hid HB.out
      clear hn8 hown HX ht ht' h8 hbz HB
      go_loopg [3, 5] 8 (fun kq v3 v5 wr => ∃ i : Nat, i + kq = 8 ∧ v5 = .int .i64 (56 - 8 * (i : Int)) ∧ OwnM wr w.heap.size 5 v3 (Bld.cellsOf (bts s ++ [128] ++ List.replicate (Bld.zerosFor s.size) 0 ++ Bld.lenBytes s.size i)) ∧ Below w.heap.size w wr)
      case atStart => exact ⟨0, by omega, by rfl, by rw [show Bld.lenBytes s.size 0 = [] from rfl, List.append_nil]; exact H0.out, HB0.out⟩
      case round =>
        obtain ⟨i, hi, rfl, hown, hb⟩ := hrel
        have hlen6 : (Bld.cellsOf (bts s ++ [128] ++ List.replicate (Bld.zerosFor s.size) 0 ++ Bld.lenBytes s.size i)).length = s.size + 1 + Bld.zerosFor s.size + i := by
          rw [Bld.cellsOf_length]; simp only [Bld.lenBytes, List.length_append, List.length_map, List.length_cons, List.length_nil, List.length_replicate, List.length_range]; omega
        obtain ⟨g2, cap2, rfl⟩ : ∃ g cap, u3 = Value.slice (some ⟨g, 0, none⟩) (s.size + 1 + Bld.zerosFor s.size + i) cap := by
          obtain ⟨g, cap, _, _, h, _⟩ := id hown
          exact ⟨g, cap, by rw [h, hlen6]⟩
        have HB := Lib.hid hb
        have hbz := hb.size
        clear hb
        have HX := Lib.hid (show Bld.cellsOf (bts s ++ [128] ++ List.replicate (Bld.zerosFor s.size) 0 ++ Bld.lenBytes s.size (i + 1)) = Bld.cellsOf (bts s ++ [128] ++ List.replicate (Bld.zerosFor s.size) 0 ++ Bld.lenBytes s.size i) ++ [.int .u8 ((8 * s.size / 2 ^ (56 - 8 * i) % 256 : Nat) : Int)] by
          rw [Bld.cellsOf_snoc, List.append_assoc _ (Bld.lenBytes s.size i), show Bld.lenBytes s.size i ++ [8 * s.size / 2 ^ (56 - 8 * i) % 256] = Bld.lenBytes s.size (i + 1) by simp [Bld.lenBytes, List.range_succ]])
        rcases Nat.lt_or_ge i 8 with h8 | h8
        · generalize Bld.cellsOf (bts s ++ [128] ++ List.replicate (Bld.zerosFor s.size) 0 ++ Bld.lenBytes s.size i) = xs at hown hlen6 HX
          go_wp2_with (at_builtin; refine wpList_append_mark _ rfl _ _ 49 rfl w.heap.size 5 i0 (.int .u8 0) Try.underlying49 I0.out I1.out I2.out I3.out rfl _ xs rfl (hown.alloc _) _ 1 (.int .u8 (((8 * s.size : Nat) : Int) / 2 ^ (56 - 8 * i) % 256)) rfl ?c1 rfl rfl ?c2 ?c3 ?_)
          case c1 => exact World.cell?_alloc_new (w := wr) #[_] 5 0
          case c2 => have := HS.out; omega
          case c3 => rw [World.size_alloc]; omega
          intro v2 w2 hown2 hb2
          go_wp2_with fail
          go_roundg (gk - 1)
          case measure => omega
          case rel => exact ⟨i + 1, by omega, by congr 1; omega, by rw [HX.out, Int.natCast_emod, Int.natCast_ediv, Int.natCast_pow]; exact hown2, (HB.out.alloc hbz _).trans hb2⟩
        · obtain rfl : i = 8 := by omega
          go_wp2_with fail
          have hw8 : w.heap.size ≤ wr.heap.size := hbz
          refine (agoraref03_firsts.calls (nt h0L) wr (by rfl)).mono ?_
          rintro e w3 ⟨vh, rfl, hR, hb3⟩
          have hpad : Bld.cellsOf (bts s ++ [128] ++ List.replicate (Bld.zerosFor s.size) 0 ++ Bld.lenBytes s.size 8) = Bld.cellsOf (padN (bts s)) := by
            rw [padN, bts_length]
          have hpl := padN_length (bts s)
          rw [hlb] at hpl
          rw [hpad] at hown
          have hown3 := hown.keep hb3 (Nat.le_refl _)
          have hB3 : Below w.heap.size w w3 := HB.out.trans (hb3.mono hw8)
          have hR3 := Kd.R_lower hR hw8
          obtain ⟨m, hm, hm2⟩ : ∃ m, (padN (bts s)).length = 64 * m ∧ m ≤ 17179869188 := by
            refine ⟨_, padN_blocks _, ?_⟩
            have := HS.out
            rw [hpl]; omega
          have hszm : s.size + 1 + Bld.zerosFor s.size + 8 = 64 * m := by omega
          have HPL := Lib.hid hm
          have HSHA := Lib.hid (show shaN (bts s) = outL (hTo (padN (bts s)) m) by rw [shaN, hm, Nat.mul_div_cancel_left _ (by decide)])
          have HPLT := Lib.hid (padN_lt (bts_lt s))
          clear hm hpl hpad HX hlen6 hown hR hb3 HB H0 HB0 hlen
          rw [hszm] at hown3 ⊢
          generalize padN (bts s) = P at hown3 HPL HSHA HPLT
          have HO := Lib.hid hown3
          have HR := Lib.hid hR3
          have HB := Lib.hid hB3
          clear hown3 hR3 hB3
          go_wp2_with fail
          go_loopg [6, 7] m (fun kq v6 v7 wr => ∃ j : Nat, j + kq = m ∧ v7 = .int .i64 ((64 * j : Nat) : Int) ∧ OwnM wr w.heap.size 5 (Value.slice (some ⟨g2, 0, none⟩) (64 * m) cap2) (Bld.cellsOf P) ∧ Kd.R (Kd.int .u32) 61 wr w.heap.size (fun _ => True) v6 (nt (hTo P j)) ∧ Below w.heap.size w wr)
          case atStart => exact ⟨0, by omega, rfl, HO.out, HR.out, HB.out⟩
          case round =>
            obtain ⟨j, hj, rfl, hown, hR, hb⟩ := hrel
            clear HO HR HB
            have hl8 := hTo_length P j
            have hlt8 := hTo_lt P j
            obtain ⟨A6, c6, rfl, hc6, hC⟩ := Kd.R_reads hR
            rw [nt_length, hl8] at hC hc6 hR ⊢
            obtain ⟨ad, rfl, _⟩ := hC.2.2 (by decide)
            have hsz := hb.size
            have HC := Lib.hid hC
            have HR := Lib.hid hR
            have HB := Lib.hid hb
            have HO := Lib.hid hown
            clear hR hb hown hC
            rcases Nat.lt_or_ge j m with hjm | hjm
            · obtain ⟨g', cap', cur, fr, he, _, hh, _, h1, _, _, htk⟩ := HO.out
              have hl : (Bld.cellsOf P).length = 64 * m := by rw [Bld.cellsOf_length, HPL.out]
              rw [hl] at he h1 htk
              obtain ⟨rfl, rfl⟩ : g2 = g' ∧ cap2 = cap' := by
                injection he with e1 e2 e3
                injection e1 with e1
                injection e1 with e1
                exact ⟨e1, e3⟩
              have HC1 := Lib.hid (markC (l := P) hh (by rw [HPL.out]; exact htk) (64 * j) (by rw [HPL.out]; omega))
              have HN := Lib.hid (show stepL (hTo P j) ((P.drop (64 * j)).take 64) = hTo P (j + 1) from rfl)
              have hbl : ((P.drop (64 * j)).take 64).length = 64 := by rw [List.length_take, List.length_drop, HPL.out]; omega
              have hbs : ∀ n ∈ (P.drop (64 * j)).take 64, n < 256 := fun n hn => HPLT.out n (List.mem_of_mem_drop (List.mem_of_mem_take hn))
              generalize (P.drop (64 * j)).take 64 = bk at HC1 HN hbl hbs
              generalize hTo P j = hj0 at HC HR HN hl8 hlt8
              clear he hh htk hl
              go_wp2_with fail
              refine (next_calls hj0 bk hl8 hlt8 hbs hbl _ _ c6 (cap2 - 64 * j) _ HC.out hc6 HC1.out (by omega)).mono ?_
              rintro e w4 ⟨v0, rfl, hR4, hb4⟩
              rw [HN.out] at hR4
              have HR4 := Lib.hid (Kd.R_lower hR4 hsz)
              have HB4 := Lib.hid (HB.out.trans (hb4.mono hsz))
              have HO4 := Lib.hid (HO.out.keep hb4 (Nat.le_refl _))
              clear hR4 hb4 hbl hbs hl8 hlt8 h1 HC1 HN HR HC
              go_wp2_with fail
              go_roundg (gk - 1)
              case measure => omega
              case rel => exact ⟨j + 1, by omega, by go_num, HO4.out, HR4.out, HB4.out⟩
            · obtain rfl : j = m := by omega
              go_wp2_with fail
              obtain ⟨h, hh⟩ : ∃ h, hTo P j = h := ⟨_, rfl⟩
              rw [hh] at hl8 hlt8 HC HSHA
              clear HR hh HPL HPLT HO
              obtain ⟨W0, rfl⟩ : ∃ W0, W0 = wr := ⟨_, rfl⟩
              go_loopg [8, 9] 32 (fun kq v8 v9 wq => ∃ i : Nat, i + kq = 32 ∧ v9 = .int .i64 (i : Int) ∧ wq.ownsRow W0.heap.size 5 1 v8 i (Bld.cellsOf ((outL h).take i)) ∧ Below W0.heap.size W0 wq)
              case atStart => exact ⟨0, by omega, rfl, World.ownsRow_nil _ _ _ _, Below.refl _ _⟩
              case round =>
                obtain ⟨i, hi, rfl, hown, hb⟩ := hrel
                have hsz2 := hb.size
                have HB2 := Lib.hid hb
                rcases Nat.lt_or_ge i 32 with hi2 | hi2
                · obtain ⟨ad', e', hcell⟩ := Kd.at_int (Kd.C_below HC.out hb) ((i / 4 : Nat) : Int) (by omega) (by omega)
                  obtain rfl : ad = ad' := by injection e'
                  rw [rd_nt, Int.toNat_natCast] at hcell
                  have hlx := getLt hlt8 (i / 4)
                  have HT := Lib.hid (outL_at h i hl8 hi2)
                  have hll : ((outL h).take i).length = i := by rw [List.length_take, outL_length, hl8]; omega
                  clear hb e'
                  generalize h.getD (i / 4) 0 = x at hcell hlx HT
                  generalize (outL h).take i = os at hown HT hll
                  have t1 : Int.tdiv (i : Int) 4 = ((i / 4 : Nat) : Int) := by rw [Int.tdiv_eq_ediv_of_nonneg (by omega)]; omega
                  have t2 : Int.tmod (i : Int) 4 = ((i % 4 : Nat) : Int) := by rw [Int.tmod_eq_emod_of_nonneg (by omega)]; omega
                  go_wp2_with (at_builtin; refine wpList_append_own _ rfl _ _ 49 rfl W0.heap.size 5 i0 (.int .u8 0) 1 1 Try.underlying49 I0.out I1.out I2.out I3.out rfl (by decide) _ _ _ rfl (hown.alloc _) ⟨wr.heap.size, 0, none⟩ 1 1 [.int .u8 ((x : Int) / 2 ^ (24 - 8 * (i % 4)) % 256)] rfl rfl ?c1 ?c2 ?c3 ?c4 ?c5 ?_)
                  case c1 =>
                    intro k u hk
                    rcases k with _ | k
                    · rw [show (⟨wr.heap.size, 0, none⟩ : Addr).add 0 = ⟨wr.heap.size, 0, none⟩ from rfl, World.cell?_alloc_new]
                      simpa using hk
                    · simp at hk
                  case c2 => intro u hu; obtain rfl := List.mem_singleton.1 hu; rfl
                  case c3 => unfold maxLen; omega
                  case c4 => omega
                  case c5 => simp; omega
                  intro v' w2 hown' hgrow _
                  have hblk := hown.lt
                  go_wp2_with fail
                  go_roundg (gk - 1)
                  case measure => omega
                  case rel =>
                    refine ⟨i + 1, by omega, by go_num, ?_, (HB2.out.alloc hsz2 _).grown hgrow (by rw [World.size_alloc]; omega) (fun k hk => (hblk k hk).1)⟩
                    rw [HT.out, ← Bld.cellsOf_snoc, Int.natCast_emod, Int.natCast_ediv, Int.natCast_pow]
                    exact hown'
                · obtain rfl : i = 32 := by omega
                  rw [List.take_of_length_le (by rw [outL_length, hl8]; decide)] at hown
                  have hcv := own_string (P := Try.prog) Try.underlying49 Try.underlying5 Try.underlying9 (xs := (outL h).map fun n : Nat => (n : Int)) (by rw [show nums .u8 ((outL h).map fun n : Nat => (n : Int)) = Bld.cellsOf (outL h) by simp [nums, Bld.cellsOf]]; exact hown)
                  go_wp2_with fail
                  go_ret
                  refine ⟨?_, HB.out.trans (HB2.out.mono hsz)⟩
                  rw [shaB, HSHA.out]
                  congr 2
                  unfold strOfNums
                  rw [List.map_map]
                  rfl
end Go.Proofs.Ytdpocgimajhlbaa.Mark
namespace Go.Proofs.Ytdpocgimajhlbaa.P
open Go.RowKit Go.Proofs.YtdpocgimajhlbaaW.PrintWords
/-- agoraref03.Sha, for the print -/
def agoraref03_Sha.f (a0 : ByteArray) : Option ByteArray := if a0.size ≤ 1099511627776 then some (Sch.shaB a0) else none
theorem agoraref03_Sha.calls (a0 : ByteArray) (r : ByteArray) (w : World) (h : agoraref03_Sha.f a0 = some r) :
    Calls Try.prog 47 #[.string a0] w fun e w' => e = .returned (.string r) ∧ Below w.heap.size w w' := by
  unfold agoraref03_Sha.f at h
  split at h
  · obtain rfl := Option.some.inj h
    exact Mark.refSha a0 w (by assumption)
  · cases h
end Go.Proofs.Ytdpocgimajhlbaa.P
end ShaRef_
