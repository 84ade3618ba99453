/- agoralaw03.flip -/
import Derived.Test.YtloieoneckjjeaaStep
import Derived.Test.YtloieoneckjjeaaPad
import Derived.Lib.ConvBytes
import Derived.Lib.AtoiErrMem
namespace Go.Proofs.Ytloieoneckjjeaa.Flip
open Go.RowKit Go.Proofs.Ytloieoneckjjeaa.P Go.Proofs.YtloieoneckjjeaaW.PrintWords Go.Proofs.YtloieoneckjjeaaW.PrintLast Go.Proofs.YtloieoneckjjeaaW.PrintMore
set_option linter.unusedVariables false
/-- is bit k of the pattern laid upon a bit of the string? -/
def hits (n : Nat) (f : Int) (pat k : Nat) : Prop := pat / 2 ^ k % 2 = 1 ∧ 0 ≤ f + (k : Int) ∧ f + (k : Int) < 8 * (n : Int)
instance (n : Nat) (f : Int) (pat k : Nat) : Decidable (hits n f pat k) := by unfold hits; infer_instance
/-- the bytes, and whether one was turned, after k bits -/
def flipTo (b : List Nat) (f : Int) (pat : Nat) : Nat → List Nat × Bool
  | 0 => (b, false)
  | k + 1 => if hits b.length f pat k then
      ((flipTo b f pat k).1.set ((f + (k : Int)).toNat / 8) ((flipTo b f pat k).1.getD ((f + (k : Int)).toNat / 8) 0 ^^^ 2 ^ ((f + (k : Int)).toNat % 8)), true)
    else flipTo b f pat k
theorem flipTo_length (b : List Nat) (f : Int) (pat k : Nat) : (flipTo b f pat k).1.length = b.length := by
  induction k with
  | zero => rfl
  | succ k ih =>
    rw [flipTo]; split
    · rw [List.length_set, ih]
    · exact ih
theorem flipTo_lt {b : List Nat} (hb : ∀ n ∈ b, n < 256) (f : Int) (pat k : Nat) : ∀ n ∈ (flipTo b f pat k).1, n < 256 := by
  induction k with
  | zero => exact hb
  | succ k ih =>
    rw [flipTo]; split
    · intro n hn
      rcases List.mem_or_eq_of_mem_set hn with h | rfl
      · exact ih n h
      · have h1 : (flipTo b f pat k).1.getD ((f + (k : Int)).toNat / 8) 0 < 2 ^ 8 := by
          rw [List.getD_eq_getElem?_getD]
          cases e : (flipTo b f pat k).1[(f + (k : Int)).toNat / 8]? with
          | none => simp
          | some x => simpa using ih x (List.mem_of_getElem? e)
        exact Nat.xor_lt_two_pow (n := 8) h1 (Nat.pow_lt_pow_right (by decide) (Nat.mod_lt _ (by decide)))
    · exact ih
theorem xor8_nat (a b : Nat) (ha : a < 256) (hb : b < 256) : Go.bits .xor .u8 (a : Int) (b : Int) = ((a ^^^ b : Nat) : Int) := u8_xor_nat a b ha hb
theorem heap_setCell_fr {w : World} {b i : Nat} {cs : Array Value} {T : TypeId} {fr : Nat × Nat} (hb : w.heap[b]? = some (.cells cs T fr)) (v : Value) :
    (w.setCell ⟨b, i, none⟩ v).heap[b]? = some (.cells (cs.setIfInBounds i v) T fr) := by
  rw [setCell_eq_setRow w b i cs T fr v hb]
  exact setRow_heap w b cs _ T fr hb
open Bld in
def blkOf (g c : Nat) (L : List Nat) (w : World) : Prop := ∃ R : List Value, w.heap[g]? = some (.cells (cellsOf L ++ R).toArray 5 (c, c + 1)) ∧ L.length ≤ c

set_option maxHeartbeats 4000000 in
set_option maxRecDepth 100000 in
theorem flip (s : ByteArray) (from_ : Int) (pat : Nat) (w : World) (hs : s.size ≤ 1099511627776) (hf1 : -1099511627776 ≤ from_) (hf2 : from_ ≤ 1099511627776) (hp : pat < 4294967296) :
    Calls Try.prog 20 #[.string s, .int .i64 from_, .int .u32 (pat : Int)] w fun e w' => e = .returned (.tuple #[.string ⟨((flipTo (ShaL.bts s) from_ pat 32).1.map UInt8.ofNat).toArray⟩, .bool (flipTo (ShaL.bts s) from_ pat 32).2]) ∧ Below w.heap.size w w' := by
  go_enter Try.func20, Try.ntmps20
  have hcv := Lib.run_convert_string_bytes (P := Try.prog) w 9 34 5 s Try.underlying9 Try.underlying34 Try.underlying5
  go_wp2_with fail
  go_loopg [9, 10] 32 (fun kq v9 v10 wr => ∃ k : Nat, k + kq = 32 ∧ v9 = .bool (flipTo (ShaL.bts s) from_ pat k).2 ∧ v10 = .int .i64 (k : Int) ∧ blkOf w.heap.size (Lib.bytesCells w 5 s).size (flipTo (ShaL.bts s) from_ pat k).1 wr ∧ Below w.heap.size w wr)
  case atStart => 
    refine ⟨0, by omega, rfl, rfl, ⟨List.replicate (grownCap w s.size 0 5 - s.size) (Value.int .u8 0), ?_, ?_⟩, Lib.bytesWorld_below w _ s⟩
    · rw [Lib.bytesWorld_at_new]
      rw [show Lib.bytesCells w 5 s = (Bld.cellsOf (ShaL.bts s) ++ List.replicate (grownCap w s.size 0 5 - s.size) (Value.int .u8 0)).toArray by
        apply Array.toList_inj.1
        simp [Lib.bytesCells, Bld.cellsOf, ShaL.bts, List.map_map, Function.comp_def]]
      rfl
    · rw [flipTo, ShaL.bts_length]; simp [Lib.bytesCells]
  case round =>
    obtain ⟨k, hk, rfl, rfl, hbk, hb⟩ := hrel
    rcases Nat.lt_or_ge k 32 with h32 | h32
    · obtain ⟨t, ht, ht2⟩ : ∃ t : Nat, Go.bits .and .u32 ((pat : Int) / 2 ^ k) 1 = (t : Int) ∧ pat / 2 ^ k % 2 = t := by
        refine ⟨_, ?_, rfl⟩
        have h1 : pat / 2 ^ k < 4294967296 := Nat.lt_of_le_of_lt (Nat.div_le_self _ _) hp
        have h2 := ShaL.and_nat (pat / 2 ^ k) 1 h1 (by decide)
        rw [Nat.and_one_is_mod, Int.natCast_ediv, Int.natCast_pow] at h2
        exact h2
      have hbl : (ShaL.bts s).length = s.size := ShaL.bts_length s
      have HB := Lib.hid hb
      have HK := Lib.hid hbk
      clear hb hbk
      by_cases hneg : from_ + (k : Int) < 0
      · have hn : ¬ hits (ShaL.bts s).length from_ pat k := fun h => by have := h.2.1; omega
        clear ht2
        go_wp2_with fail
        all_goals
          go_roundg (gk - 1)
          case measure => omega
          case rel => exact ⟨k + 1, by omega, by rw [flipTo, if_neg hn], by go_num, by rw [flipTo, if_neg hn]; exact HK.out, HB.out⟩
      · obtain ⟨i, hi⟩ : ∃ i : Nat, from_ + (k : Int) = (i : Int) := ⟨(from_ + (k : Int)).toNat, by omega⟩
        by_cases hh : i < 8 * s.size ∧ t = 1
        · have hH : hits (ShaL.bts s).length from_ pat k := ⟨by omega, by omega, by rw [hbl]; omega⟩
          obtain ⟨hi8, rfl⟩ := hh
          obtain ⟨R, hR, hLc⟩ := HK.out
          have hLl := flipTo_length (ShaL.bts s) from_ pat k
          have hLt := flipTo_lt (ShaL.bts_lt s) from_ pat k
          have HE := Lib.hid (show (flipTo (ShaL.bts s) from_ pat (k + 1)) = ((flipTo (ShaL.bts s) from_ pat k).1.set (i / 8) ((flipTo (ShaL.bts s) from_ pat k).1.getD (i / 8) 0 ^^^ 2 ^ (i % 8)), true) by rw [flipTo, if_pos hH, hi, Int.toNat_natCast])
          generalize (flipTo (ShaL.bts s) from_ pat k).1 = L at hR hLc hLl hLt HE
          have hj : i / 8 < L.length := by omega
          have cj : wr.cell? ⟨w.heap.size, i / 8, none⟩ = some (.int .u8 ((L.getD (i / 8) 0 : Nat) : Int)) := by
            rw [cell_of_row wr _ _ _ _ _ hR]
            simp [Bld.cellsOf, hj, List.getElem?_append, List.getD_eq_getElem?_getD]
          have fj : wr.frozen? ⟨w.heap.size, i / 8, none⟩ = false := by
            simp only [World.frozen?, hR]
            simp
            omega
          have hx : L.getD (i / 8) 0 < 256 := by
            rw [List.getD_eq_getElem?_getD]
            cases e : L[i / 8]? with
            | none => simp
            | some x => simpa using hLt x (List.mem_of_getElem? e)
          have HR := Lib.hid hR
          clear hR hH ht2 hbl hLt
          generalize L.getD (i / 8) 0 = x at cj hx HE
          go_wp2_with fail
          go_region
          all_goals go_wp2_with fail
          all_goals
            go_roundg (gk - 1)
            case measure => omega
            case rel =>
              refine ⟨k + 1, by omega, by rw [HE.out], by go_num, ⟨R, ?_, ?_⟩, (HB.out.setCell (p := ⟨w.heap.size, i / 8, none⟩) (Nat.le_refl _) _).drew⟩
              · rw [HE.out]
                have hpw : 2 ^ (i % 8) < 256 := by
                  have : i % 8 < 8 := Nat.mod_lt _ (by decide)
                  exact Nat.pow_lt_pow_right (n := 8) (by decide) this
                have hv : Go.bits .xor .u8 (x : Int) (2 ^ (i % 8) % 256) = ((x ^^^ 2 ^ (i % 8) : Nat) : Int) := by
                  rw [show ((2 : Int) ^ (i % 8) % 256) = ((2 ^ (i % 8) : Nat) : Int) by rw [Int.natCast_pow]; exact Int.emod_eq_of_lt (Int.pow_nonneg (by decide)) (by exact_mod_cast hpw)]
                  exact xor8_nat x _ hx hpw
                rw [hv]
                have h1 := heap_setCell_fr HR.out (i := i / 8) (Value.int .u8 ((x ^^^ 2 ^ (i % 8) : Nat) : Int))
                refine Eq.trans ?_ (h1.trans ?_)
                · rfl
                · congr 2
                  apply Array.toList_inj.1
                  simp only [Array.toList_setIfInBounds, Bld.cellsOf]
                  rw [List.set_append_left _ _ (by rw [List.length_map]; exact hj), List.map_set]
              · rw [HE.out, List.length_set]; exact hLc
        · have hn : ¬ hits (ShaL.bts s).length from_ pat k := fun h => hh ⟨by have := h.2.2; omega, by have := h.1; omega⟩
          clear ht2
          rcases Nat.lt_or_ge i (8 * s.size) with h8 | h8
          · have ht1 : t ≠ 1 := fun e => hh ⟨h8, e⟩
            clear hh
            go_wp2_with fail
            all_goals
              go_roundg (gk - 1)
              case measure => omega
              case rel => exact ⟨k + 1, by omega, by rw [flipTo, if_neg hn], by go_num, by rw [flipTo, if_neg hn]; exact HK.out, HB.out⟩
          · clear hh
            go_wp2_with fail
            all_goals
              go_roundg (gk - 1)
              case measure => omega
              case rel => exact ⟨k + 1, by omega, by rw [flipTo, if_neg hn], by go_num, by rw [flipTo, if_neg hn]; exact HK.out, HB.out⟩
    · obtain rfl : k = 32 := by omega
      obtain ⟨R, hR, hLc⟩ := hbk
      have hl32 := flipTo_length (ShaL.bts s) from_ pat 32
      rw [ShaL.bts_length] at hl32
      have HE := Lib.hid (show (⟨((flipTo (ShaL.bts s) from_ pat 32).1.map UInt8.ofNat).toArray⟩ : ByteArray) = strOfNums ((flipTo (ShaL.bts s) from_ pat 32).1.map fun n : Nat => (n : Int)) by unfold strOfNums; rw [List.map_map]; rfl)
      have hcv2 := run_convert_bytes_arg (P := Try.prog) (w := wr) 34 5 Try.underlying34 Try.underlying5 w.heap.size 0 s.size (grownCap w s.size 0 5) ((flipTo (ShaL.bts s) from_ pat 32).1.map fun n : Nat => (n : Int)) (by rw [List.length_map, hl32]) (fun j hj => by
        rw [Nat.zero_add, cell_of_row wr _ _ _ _ _ hR]
        simp [Bld.cellsOf, hl32, hj, List.getElem?_append, List.getD_eq_getElem?_getD]) 9 Try.underlying9
      go_wp2_with fail
      go_ret2
      exact ⟨by rw [HE.out]; rfl, hb⟩
end Go.Proofs.Ytloieoneckjjeaa.Flip
namespace Go.Proofs.Ytloieoneckjjeaa.P
open Go.RowKit Go.Proofs.YtloieoneckjjeaaW.PrintWords
/-- agoralaw03.flip, for the print -/
def agoralaw03_flip.f (a0 : ByteArray) (a1 a2 : Int) : Option (ByteArray × Bool) :=
  if a0.size ≤ 1099511627776 ∧ -1099511627776 ≤ a1 ∧ a1 ≤ 1099511627776 ∧ 0 ≤ a2 ∧ a2 < 4294967296 then
    some (⟨((Flip.flipTo (ShaL.bts a0) a1 a2.toNat 32).1.map UInt8.ofNat).toArray⟩, (Flip.flipTo (ShaL.bts a0) a1 a2.toNat 32).2) else none
theorem agoralaw03_flip.calls (a0 : ByteArray) (a1 a2 : Int) (r1 : ByteArray) (r2 : Bool) (w : World) (h : agoralaw03_flip.f a0 a1 a2 = some (r1, r2)) :
    Calls Try.prog 20 #[.string a0, .int .i64 a1, .int .u32 a2] w fun e w' => e = .returned (.tuple #[.string r1, .bool r2]) ∧ Below w.heap.size w w' := by
  unfold agoralaw03_flip.f at h
  split at h
  · rename_i hc
    obtain ⟨h1, h2, h3, h4, h5⟩ := hc
    simp only [Option.some.injEq, Prod.mk.injEq] at h
    obtain ⟨rfl, rfl⟩ := h
    obtain ⟨p, rfl⟩ := Int.eq_ofNat_of_zero_le h4
    exact Flip.flip a0 a1 p w h1 h2 h3 (by omega)
  · cases h
end Go.Proofs.Ytloieoneckjjeaa.P
