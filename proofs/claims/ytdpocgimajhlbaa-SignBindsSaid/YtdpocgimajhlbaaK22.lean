/- Texts of this claim, merged: what the functions that the law reaches compute, and what that says. -/
import Derived.Test.YtdpocgimajhlbaaK7
import Derived.Test.YtdpocgimajhlbaaK11
import Derived.Test.YtdpocgimajhlbaaK20
section Next_
namespace Go.Proofs.Ytdpocgimajhlbaa.Sch
open Go.RowKit Go.Proofs.Ytdpocgimajhlbaa.P Go.Proofs.Ytdpocgimajhlbaa.ShaL Go.Proofs.YtdpocgimajhlbaaW.PrintWords Go.Proofs.YtdpocgimajhlbaaW.PrintLast Go.Proofs.YtdpocgimajhlbaaW.PrintMore
set_option linter.unusedVariables false
def nt (l : List Nat) : List Int := l.map fun n : Nat => (n : Int)
theorem nt_length (l : List Nat) : (nt l).length = l.length := by simp [nt]
theorem rd_nt (l : List Nat) (i : Nat) : rd (nt l) (i : Int) = ((l.getD i 0 : Nat) : Int) := by
  simp only [rd, nt, Int.toNat_natCast, List.getD_eq_getElem?_getD, List.getElem?_map]
  cases l[i]? <;> rfl
theorem turn_eq (x n : Nat) (hx : x < 4294967296) (h0 : 0 < n) (hn : n < 32) : agoraref03_turn.f (x : Int) (n : Int) = some ((rotr x n : Nat) : Int) := by
  unfold agoraref03_turn.f
  have e2 : wrap64 (32 - (n : Int)) = ((32 - n : Nat) : Int) := by rw [wrap64]; omega
  rw [e2, if_pos (by omega), if_pos (by omega)]
  have e3 : shl .u32 (x : Int) ((32 - n : Nat) : Int) = (((x <<< (32 - n)) % 4294967296 : Nat) : Int) := by
    unfold shl
    rw [Int.toNat_natCast, show min (32 - n) IntKind.u32.bits = 32 - n by have : IntKind.u32.bits = 32 := rfl; omega, IntKind.wrap_u32', Nat.shiftLeft_eq]
    simp only [Int.natCast_emod, Int.natCast_mul, Int.natCast_pow]; rfl
  have e4 : shr .u32 (x : Int) (n : Int) = ((x >>> n : Nat) : Int) := by
    unfold shr
    rw [Int.toNat_natCast, show min n IntKind.u32.bits = n by have : IntKind.u32.bits = 32 := rfl; omega, Nat.shiftRight_eq_div_pow]
    simp only [Int.natCast_ediv, Int.natCast_pow]; rfl
  rw [e3, e4, or_nat _ _ (Nat.lt_of_le_of_lt (Nat.shiftRight_le x n) hx) (Nat.mod_lt _ (by decide))]
  rfl
theorem getLt256 {l : List Nat} (h : ∀ n ∈ l, n < 256) (j : Nat) : l.getD j 0 < 256 := by
  rw [List.getD_eq_getElem?_getD]
  cases e : l[j]? with
  | none => simp
  | some x => simpa using h x (List.mem_of_getElem? e)
theorem wNext_ge (b l : List Nat) (i : Nat) (h : 16 ≤ i) : wNext b l i = (l.getD (i - 16) 0 + sg0 (l.getD (i - 15) 0) + l.getD (i - 7) 0 + sg1 (l.getD (i - 2) 0)) % 4294967296 := if_neg (Nat.not_lt.2 h)
theorem wNext_lt (b l : List Nat) (i : Nat) (h : i < 16) : wNext b l i = b.getD (4 * i) 0 * 16777216 + b.getD (4 * i + 1) 0 * 65536 + b.getD (4 * i + 2) 0 * 256 + b.getD (4 * i + 3) 0 := if_pos h
theorem sum_mod (a b c d e : Int) : ((((a + b) % 4294967296 + c) % 4294967296 + d) % 4294967296 + e) % 4294967296 = (a + b + c + d + e) % 4294967296 := by
  rw [Int.emod_add_emod (a + b) _ c, Int.emod_add_emod (a + b + c) _ d, Int.emod_add_emod (a + b + c + d) _ e]
theorem four (x16 y0 x7 y1 : Nat) : ((((x16 : Int) + (y0 : Int)) % 4294967296 + (x7 : Int)) % 4294967296 + (y1 : Int)) % 4294967296 = (((x16 + y0 + x7 + y1) % 4294967296 : Nat) : Int) := by
  rw [Int.emod_add_emod ((x16 : Int) + y0) _ x7, Int.emod_add_emod ((x16 : Int) + y0 + x7) _ y1]; omega
theorem bytes4 (x0 x1 x2 x3 : Nat) (g0 : x0 < 256) (g1 : x1 < 256) (g2 : x2 < 256) (g3 : x3 < 256) : (((((((x0 : Int) % 4294967296 * 16777216) % 4294967296 + ((x1 : Int) % 4294967296 * 65536) % 4294967296) % 4294967296) + ((x2 : Int) % 4294967296 * 256) % 4294967296) % 4294967296 + (x3 : Int) % 4294967296) % 4294967296) = ((x0 * 16777216 + x1 * 65536 + x2 * 256 + x3 : Nat) : Int) := by
  have e0 : (x0 : Int) % 4294967296 * 16777216 % 4294967296 = ((x0 * 16777216 : Nat) : Int) := by omega
  have e1 : (x1 : Int) % 4294967296 * 65536 % 4294967296 = ((x1 * 65536 : Nat) : Int) := by omega
  have e2 : (x2 : Int) % 4294967296 * 256 % 4294967296 = ((x2 * 256 : Nat) : Int) := by omega
  have e3 : (x3 : Int) % 4294967296 = (x3 : Int) := by omega
  rw [e0, e1, e2, e3]; clear e0 e1 e2 e3
  rw [Int.emod_add_emod ((x0 * 16777216 : Nat) + (x1 * 65536 : Nat) : Int) _ (x2 * 256 : Nat), Int.emod_add_emod _ _ (x3 : Int)]
  omega
theorem words_l1_step (k : Nat) (X : List Int) (i : Nat) (hX : X.length = i) (h16 : 16 ≤ i) (h64 : i < 64) (x16 x15 x7 x2 : Nat) (l15 : x15 < 4294967296) (l2 : x2 < 4294967296) :
    (rd X ((i - 16 : Nat) : Int) = (x16 : Int)) → (rd X ((i - 15 : Nat) : Int) = (x15 : Int)) → (rd X ((i - 7 : Nat) : Int) = (x7 : Int)) → (rd X ((i - 2 : Nat) : Int) = (x2 : Int)) → 
    agoraref03_words.l1 (k + 1) X (i : Int) = agoraref03_words.l1 k (X ++ [(((x16 + sg0 x15 + x7 + sg1 x2) % 4294967296 : Nat) : Int)]) ((i + 1 : Nat) : Int) := by
  have c0 : (i : Int) < 64 := by omega
  have c1 : (0 : Int) ≤ ((i - 15 : Nat) : Int) := by omega
  have c2 : ((i - 15 : Nat) : Int) < (i : Int) := by omega
  have c3 : (0 : Int) ≤ ((i - 2 : Nat) : Int) := by omega
  have c4 : ((i - 2 : Nat) : Int) < (i : Int) := by omega
  have c5 : (0 : Int) ≤ ((i - 16 : Nat) : Int) := by omega
  have c6 : ((i - 16 : Nat) : Int) < (i : Int) := by omega
  have c7 : (0 : Int) ≤ ((i - 7 : Nat) : Int) := by omega
  have c8 : ((i - 7 : Nat) : Int) < (i : Int) := by omega
  have c9 : i < 35184372088832 := by omega
  have C := Lib.hid (And.intro c0 (And.intro c1 (And.intro c2 (And.intro c3 (And.intro c4 (And.intro c5 (And.intro c6 (And.intro c7 (And.intro c8 c9)))))))))
  clear c0 c1 c2 c3 c4 c5 c6 c7 c8 c9
  have w15 : wrap64 ((i : Int) - 15) = ((i - 15 : Nat) : Int) := by rw [wrap64]; omega
  have w2 : wrap64 ((i : Int) - 2) = ((i - 2 : Nat) : Int) := by rw [wrap64]; omega
  have w16 : wrap64 ((i : Int) - 16) = ((i - 16 : Nat) : Int) := by rw [wrap64]; omega
  have w7 : wrap64 ((i : Int) - 7) = ((i - 7 : Nat) : Int) := by rw [wrap64]; omega
  have w1 : wrap64 ((i : Int) + 1) = ((i + 1 : Nat) : Int) := by rw [wrap64]; omega
  have r1 : agoraref03_turn.f (x15 : Int) 7 = _ := turn_eq x15 7 l15 (by decide) (by decide)
  have r2 : agoraref03_turn.f (x15 : Int) 18 = _ := turn_eq x15 18 l15 (by decide) (by decide)
  have r3 : agoraref03_turn.f (x2 : Int) 17 = _ := turn_eq x2 17 l2 (by decide) (by decide)
  have r4 : agoraref03_turn.f (x2 : Int) 19 = _ := turn_eq x2 19 l2 (by decide) (by decide)
  have s0 := sg0_int x15 l15
  have s1 := sg1_int x2 l2
  obtain ⟨c0, c1, c2, c3, c4, c5, c6, c7, c8, c9⟩ := C.out
  intro e16 e15 e7 e2
  rw [agoraref03_words.l1, if_pos c0, w15, w2, w16, w7, w1, e16, e15, e7, e2, hX, if_pos c1, if_pos c2, if_pos c3, if_pos c4, r1, Option.bind_some, r2, Option.bind_some, r3, Option.bind_some, r4, Option.bind_some, if_pos c5, if_pos c6, if_pos c7, if_pos c8, if_pos c9, s0, s1]
  generalize sg0 x15 = y0
  generalize sg1 x2 = y1
  clear r1 r2 r3 r4 s0 s1 e16 e15 e7 e2
  rw [four]
theorem nt_snoc (l : List Nat) (n : Nat) : nt (l ++ [n]) = nt l ++ [(n : Int)] := by simp only [nt, List.map_append, List.map_cons, List.map_nil]
theorem wTo_succ (b : List Nat) (i : Nat) : wTo b (i + 1) = wTo b i ++ [wNext b (wTo b i) i] := rfl
theorem words_l1 (b : List Nat) (hb : ∀ n ∈ b, n < 256) (m : Nat) : ∀ k i, i + m = 64 → 16 ≤ i → m + 1 ≤ k → agoraref03_words.l1 k (nt (wTo b i)) (i : Int) = some (nt (wTo b 64)) := by
  induction m with
  | zero =>
    intro k i hi h16 hk
    obtain ⟨k, rfl⟩ : ∃ k', k = k' + 1 := ⟨k - 1, by omega⟩
    obtain rfl : i = 64 := by omega
    rw [agoraref03_words.l1, if_neg (by omega)]
  | succ m ih =>
    intro k i hi h16 hk
    obtain ⟨k, rfl⟩ : ∃ k', k = k' + 1 := ⟨k - 1, by omega⟩
    have hi' : i < 64 := by omega
    have := ih k (i + 1) (by omega) (by omega) (by omega)
    rw [words_l1_step k (nt (wTo b i)) i (by rw [nt_length, wTo_length]) h16 hi' _ _ _ _ (getLt (wTo_lt b hb i) (i - 15)) (getLt (wTo_lt b hb i) (i - 2)) (rd_nt _ _) (rd_nt _ _) (rd_nt _ _) (rd_nt _ _)]
    rw [wTo_succ, wNext_ge _ _ _ h16, nt_snoc] at this
    exact this
theorem words_l0_step (k : Nat) (B X : List Int) (i : Nat) (hB : B.length = 64) (hX : X.length = i) (h16 : i < 16) (x0 x1 x2 x3 : Nat) (g0 : x0 < 256) (g1 : x1 < 256) (g2 : x2 < 256) (g3 : x3 < 256) :
    (rd B ((4 * i : Nat) : Int) = (x0 : Int)) → (rd B ((4 * i + 1 : Nat) : Int) = (x1 : Int)) → (rd B ((4 * i + 2 : Nat) : Int) = (x2 : Int)) → (rd B ((4 * i + 3 : Nat) : Int) = (x3 : Int)) → 
    agoraref03_words.l0 (k + 1) B X (i : Int) = agoraref03_words.l0 k B (X ++ [((x0 * 16777216 + x1 * 65536 + x2 * 256 + x3 : Nat) : Int)]) ((i + 1 : Nat) : Int) := by
  have c0 : (i : Int) < 16 := by omega
  have c1 : (0 : Int) ≤ ((4 * i : Nat) : Int) := by omega
  have c2 : ((4 * i : Nat) : Int) < ((64 : Nat) : Int) := by omega
  have c3 : (0 : Int) ≤ ((4 * i + 1 : Nat) : Int) := by omega
  have c4 : ((4 * i + 1 : Nat) : Int) < ((64 : Nat) : Int) := by omega
  have c5 : (0 : Int) ≤ ((4 * i + 2 : Nat) : Int) := by omega
  have c6 : ((4 * i + 2 : Nat) : Int) < ((64 : Nat) : Int) := by omega
  have c7 : (0 : Int) ≤ ((4 * i + 3 : Nat) : Int) := by omega
  have c8 : ((4 * i + 3 : Nat) : Int) < ((64 : Nat) : Int) := by omega
  have c9 : i < 35184372088832 := by omega
  have C := Lib.hid (And.intro c0 (And.intro c1 (And.intro c2 (And.intro c3 (And.intro c4 (And.intro c5 (And.intro c6 (And.intro c7 (And.intro c8 c9)))))))))
  clear c0 c1 c2 c3 c4 c5 c6 c7 c8 c9
  have q0 : wrap64 (4 * (i : Int)) = ((4 * i : Nat) : Int) := by rw [wrap64]; omega
  have q1 : wrap64 (((4 * i : Nat) : Int) + 1) = ((4 * i + 1 : Nat) : Int) := by rw [wrap64]; omega
  have q2 : wrap64 (((4 * i : Nat) : Int) + 2) = ((4 * i + 2 : Nat) : Int) := by rw [wrap64]; omega
  have q3 : wrap64 (((4 * i : Nat) : Int) + 3) = ((4 * i + 3 : Nat) : Int) := by rw [wrap64]; omega
  have w1 : wrap64 ((i : Int) + 1) = ((i + 1 : Nat) : Int) := by rw [wrap64]; omega
  obtain ⟨c0, c1, c2, c3, c4, c5, c6, c7, c8, c9⟩ := C.out
  intro e0 e1 e2 e3
  rw [agoraref03_words.l0, if_pos c0, q0, q1, q2, q3, w1, e0, e1, e2, e3, hB, hX, if_pos c1, if_pos c2, if_pos c3, if_pos c4, if_pos c5, if_pos c6, if_pos c7, if_pos c8, if_pos c9]
  rw [bytes4 x0 x1 x2 x3 g0 g1 g2 g3]
theorem words_l0 (b : List Nat) (hb : ∀ n ∈ b, n < 256) (hl : b.length = 64) (m : Nat) : ∀ k i, i + m = 16 → m + 100 ≤ k → agoraref03_words.l0 k (nt b) (nt (wTo b i)) (i : Int) = some (nt (wTo b 64)) := by
  induction m with
  | zero =>
    intro k i hi hk
    obtain ⟨k, rfl⟩ : ∃ k', k = k' + 1 := ⟨k - 1, by omega⟩
    obtain rfl : i = 16 := by omega
    rw [agoraref03_words.l0, if_neg (by omega)]
    exact words_l1 b hb 48 k 16 rfl (Nat.le_refl _) (by omega)
  | succ m ih =>
    intro k i hi hk
    obtain ⟨k, rfl⟩ : ∃ k', k = k' + 1 := ⟨k - 1, by omega⟩
    have hi' : i < 16 := by omega
    have := ih k (i + 1) (by omega) (by omega)
    rw [words_l0_step k (nt b) (nt (wTo b i)) i (by rw [nt_length, hl]) (by rw [nt_length, wTo_length]) hi' _ _ _ _ (getLt256 hb (4 * i)) (getLt256 hb (4 * i + 1)) (getLt256 hb (4 * i + 2)) (getLt256 hb (4 * i + 3)) (rd_nt _ _) (rd_nt _ _) (rd_nt _ _) (rd_nt _ _)]
    rw [wTo_succ, wNext_lt _ _ _ hi', nt_snoc] at this
    exact this
theorem words_at (b : List Nat) (hb : ∀ n ∈ b, n < 256) (hl : b.length = 64) (k : Nat) (hk : 200 ≤ k) : agoraref03_words.f k (nt b) = some (nt (wTo b 64)) :=
  words_l0 b hb hl 16 k 0 rfl (by omega)
theorem nt_set (l : List Nat) (j n : Nat) : (nt l).set j (n : Int) = nt (l.set j n) := by simp only [nt, List.map_set]
theorem next_l1 (r h : List Nat) (hr : r.length = 8) (hh : h.length = 8) (m : Nat) : ∀ k j, j + m = 8 → m + 1 ≤ k → agoraref03_next.l1 k (nt h) (nt (midL r h j)) (j : Int) = some (nt (midL r h 8)) := by
  induction m with
  | zero =>
    intro k j hj hk
    obtain ⟨k, rfl⟩ : ∃ k', k = k' + 1 := ⟨k - 1, by omega⟩
    obtain rfl : j = 8 := by omega
    rw [agoraref03_next.l1, if_neg (by omega)]
  | succ m ih =>
    intro k j hj hk
    obtain ⟨k, rfl⟩ : ∃ k', k = k' + 1 := ⟨k - 1, by omega⟩
    have w1 : wrap64 ((j : Int) + 1) = ((j + 1 : Nat) : Int) := by rw [wrap64]; omega
    have l1 : (nt (midL r h j)).length = 8 := by rw [nt_length, midL_length hr hh j (by omega)]
    have l2 : (nt h).length = 8 := by rw [nt_length, hh]
    have := ih k (j + 1) (by omega) (by omega)
    rw [agoraref03_next.l1, if_pos (by omega), if_pos (by omega), l1, l2, if_pos (by omega), if_pos (by omega), w1, rd_nt, rd_nt, midL_get hr hh j (by omega), Int.toNat_natCast,
      show (((r.getD j 0 : Nat) : Int) + ((h.getD j 0 : Nat) : Int)) % 4294967296 = (((r.getD j 0 + h.getD j 0) % 4294967296 : Nat) : Int) by omega, nt_set, midL_set hr hh j (by omega)]
    exact this
theorem bs1_int (x : Nat) (hx : x < 4294967296) : Go.bits .xor .u32 (Go.bits .xor .u32 ((rotr x 6 : Nat) : Int) ((rotr x 11 : Nat) : Int)) ((rotr x 25 : Nat) : Int) = ((bs1 x : Nat) : Int) := by
  rw [xor_nat _ _ (rotr_lt _ _ hx) (rotr_lt _ _ hx), xor_nat _ _ (xor_lt _ _ (rotr_lt _ _ hx) (rotr_lt _ _ hx)) (rotr_lt _ _ hx)]; rfl
theorem bs0_int (x : Nat) (hx : x < 4294967296) : Go.bits .xor .u32 (Go.bits .xor .u32 ((rotr x 2 : Nat) : Int) ((rotr x 13 : Nat) : Int)) ((rotr x 22 : Nat) : Int) = ((bs0 x : Nat) : Int) := by
  rw [xor_nat _ _ (rotr_lt _ _ hx) (rotr_lt _ _ hx), xor_nat _ _ (xor_lt _ _ (rotr_lt _ _ hx) (rotr_lt _ _ hx)) (rotr_lt _ _ hx)]; rfl
theorem next_l0 (h b : List Nat) (hh : h.length = 8) (hlt : ∀ n ∈ h, n < 4294967296) (m : Nat) : ∀ k i, i + m = 64 → m + 20 ≤ k →
    agoraref03_next.l0 k (nt h) (nt (wTo b 64)) (nt kL) (nt (rTo h b i)) (i : Int) = some (nt (stepL h b)) := by
  induction m with
  | zero =>
    intro k i hi hk
    obtain ⟨k, rfl⟩ : ∃ k', k = k' + 1 := ⟨k - 1, by omega⟩
    obtain rfl : i = 64 := by omega
    have hr := rTo_length b hh 64
    have := next_l1 (rTo h b 64) h hr hh 8 k 0 (by omega) (by omega)
    rw [midL_end hr hh, show midL (rTo h b 64) h 0 = rTo h b 64 by rw [midL, List.take_zero, List.drop_zero, List.nil_append]] at this
    rw [agoraref03_next.l0, if_neg (by omega)]
    exact this
  | succ m ih =>
    intro k i hi hk
    obtain ⟨k, rfl⟩ : ∃ k', k = k' + 1 := ⟨k - 1, by omega⟩
    have hR := rTo_length b hh i
    have hRl := rTo_lt b hlt i
    have := ih k (i + 1) (by omega) (by omega)
    have w1 : wrap64 ((i : Int) + 1) = ((i + 1 : Nat) : Int) := by rw [wrap64]; omega
    have hW : (nt (wTo b 64)).length = 64 := by rw [nt_length, wTo_length]
    have hK : (nt kL).length = 64 := by rw [nt_length, kL_length]
    have rW := rd_nt (wTo b 64) i
    have rK := rd_nt kL i
    rw [show rTo h b (i + 1) = round (rTo h b i) (kL.getD i 0) ((wTo b 64).getD i 0) from rfl] at this
    generalize rTo h b i = v at hR hRl this ⊢
    generalize (wTo b 64).getD i 0 = ww at rW this
    generalize kL.getD i 0 = kk at rK this
    generalize nt (wTo b 64) = W at hW rW this ⊢
    generalize nt kL = K at hK rK this ⊢
    match v, hR with
    | [a0, a1, a2, a3, a4, a5, a6, a7], _ =>
    have l0 : a0 < 4294967296 := hRl a0 (by simp)
    have l1 : a1 < 4294967296 := hRl a1 (by simp)
    have l2 : a2 < 4294967296 := hRl a2 (by simp)
    have l3 : a3 < 4294967296 := hRl a3 (by simp)
    have l4 : a4 < 4294967296 := hRl a4 (by simp)
    have l5 : a5 < 4294967296 := hRl a5 (by simp)
    have l6 : a6 < 4294967296 := hRl a6 (by simp)
    have l7 : a7 < 4294967296 := hRl a7 (by simp)
    obtain ⟨X, hX⟩ : ∃ X, X = nt [a0, a1, a2, a3, a4, a5, a6, a7] := ⟨_, rfl⟩
    have hL : X.length = 8 := by rw [hX]; rfl
    have x0 : rd X 0 = (a0 : Int) := by rw [hX]; rfl
    have x1 : rd X 1 = (a1 : Int) := by rw [hX]; rfl
    have x2 : rd X 2 = (a2 : Int) := by rw [hX]; rfl
    have x3 : rd X 3 = (a3 : Int) := by rw [hX]; rfl
    have x4 : rd X 4 = (a4 : Int) := by rw [hX]; rfl
    have x5 : rd X 5 = (a5 : Int) := by rw [hX]; rfl
    have x6 : rd X 6 = (a6 : Int) := by rw [hX]; rfl
    have x7 : rd X 7 = (a7 : Int) := by rw [hX]; rfl
    have t6 : agoraref03_turn.f (a4 : Int) 6 = _ := turn_eq a4 6 l4 (by decide) (by decide)
    have t11 : agoraref03_turn.f (a4 : Int) 11 = _ := turn_eq a4 11 l4 (by decide) (by decide)
    have t25 : agoraref03_turn.f (a4 : Int) 25 = _ := turn_eq a4 25 l4 (by decide) (by decide)
    have t2 : agoraref03_turn.f (a0 : Int) 2 = _ := turn_eq a0 2 l0 (by decide) (by decide)
    have t13 : agoraref03_turn.f (a0 : Int) 13 = _ := turn_eq a0 13 l0 (by decide) (by decide)
    have t22 : agoraref03_turn.f (a0 : Int) 22 = _ := turn_eq a0 22 l0 (by decide) (by decide)
    have e1 := tOne_int a4 a5 a6 a7 kk ww l4 l5 l6
    have e2 := tTwo_int a0 a1 a2 l0 l1 l2
    rw [← sum_mod] at e1
    rw [← hX, agoraref03_next.l0, if_pos (by omega), if_pos (by omega), x4, t6, Option.bind_some, t11, Option.bind_some, t25, Option.bind_some, if_pos (by omega), if_pos (by omega), if_pos (by omega), if_pos (by omega), if_pos (by omega), if_pos (by omega), if_pos (by omega),
      x0, t2, Option.bind_some, t13, Option.bind_some, t22, Option.bind_some, if_pos (by omega), if_pos (by omega), if_pos (by omega), x7, x5, x6, x1, x2, x3, rW, rK, w1, bs1_int a4 l4, bs0_int a0 l0, e1, e2]
    rw [show [(((tOne a4 a5 a6 a7 kk ww : Nat) : Int) + ((tTwo a0 a1 a2 : Nat) : Int)) % 4294967296, (a0 : Int), (a1 : Int), (a2 : Int), ((a3 : Int) + ((tOne a4 a5 a6 a7 kk ww : Nat) : Int)) % 4294967296, (a4 : Int), (a5 : Int), (a6 : Int)] = nt (round [a0, a1, a2, a3, a4, a5, a6, a7] kk ww) from rfl]
    exact this
theorem next_at (h b : List Nat) (hh : h.length = 8) (hlt : ∀ n ∈ h, n < 4294967296) (hb : ∀ n ∈ b, n < 256) (hl : b.length = 64) (k : Nat) (hk : 200 ≤ k) : agoraref03_next.f k (nt h) (nt b) = some (nt (stepL h b)) := by
  have ha : agoraref03_adds.f = some (nt kL) := by rfl
  have h0 := next_l0 h b hh hlt 64 k 0 (by omega) (by omega)
  unfold agoraref03_next.f
  rw [words_at b hb hl k hk, Option.bind_some, ha, Option.bind_some, Option.bind_some, List.nil_append, if_pos (by rw [nt_length, hh]; simp)]
  exact h0
end Go.Proofs.Ytdpocgimajhlbaa.Sch
end Next_
