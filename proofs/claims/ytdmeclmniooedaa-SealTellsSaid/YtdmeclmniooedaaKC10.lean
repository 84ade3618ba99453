/- Texts of this claim, merged: what the functions that the law reaches compute, and what that says. -/
import Derived.Test.YtdmeclmniooedaaKC1
import Derived.Test.YtdmeclmniooedaaKC2
import Derived.Test.YtdmeclmniooedaaKC3
import Derived.Test.YtdmeclmniooedaaKC5
import Derived.Test.YtdmeclmniooedaaKC8
import Derived.Test.YtdmeclmniooedaaKC9
section P4_
namespace Go.Proofs.Ytdmeclmniooedaa.P
open Go.RowKit Go.Proofs.YtdmeclmniooedaaW.PrintWords Go.Proofs.YtdmeclmniooedaaW.PrintLast Go.Proofs.YtdmeclmniooedaaW.PrintMore
attribute [local go_sem] max2_int min2_int max_two min_two max_three min_three max_four min_four   -- for this text's walks alone
set_option linter.unusedVariables false
set_option linter.unusedSimpArgs false
def code_Text.f (a0 : ByteArray) : Option (ByteArray) := (code_Num.f (a0.size : Int)).bind fun t104 => (if t104.size + a0.size ≤ 9223372036854775807 then (some (t104 ++ a0)) else (none))
set_option maxHeartbeats 8000000 in
set_option maxRecDepth 100000 in
theorem code_Text.calls (a0 : ByteArray) (r : ByteArray) (w : World) (h : code_Text.f a0 = some r) :
    Calls Try.prog 41 #[.string a0] w fun e w' => e = .returned (.string r) ∧ Below w.heap.size w w' := by
  have HB := Aside0.mk (Below.refl w.heap.size w)
  have H : ((code_Num.f (a0.size : Int)).bind fun t104 => (if t104.size + a0.size ≤ 9223372036854775807 then (some (t104 ++ a0)) else (none))) = some r := h
  clear h
  replace H := Option.bind_eq_some_iff.mp H
  obtain ⟨t104, A20, H⟩ := H
  replace H : (if t104.size + a0.size ≤ 9223372036854775807 then (some (t104 ++ a0)) else (none)) = some r := H
  have A2 := Aside0.mk A20
  clear A20
  by_cases c3 : t104.size + a0.size ≤ 9223372036854775807
  · rw [if_pos c3] at H
    have c3b0 := eq_true c3
    have c3b1 : decide (t104.size + a0.size ≤ 9223372036854775807) = true := decide_eq_true c3
    try have c3b2 : (9223372036854775807 < t104.size + a0.size) = False := eq_false (Nat.not_lt.2 c3)
    obtain rfl := Option.some.inj H
    go_enter Try.func41, Try.ntmps41
    go_wp2_with (first | ((with_reducible refine gate_callee (f := 22) rfl ?_); refine goesL_ (some 5) rfl rfl Try.func22 (by kernel_rfl) rfl #[.int .i64 (a0.size : Int)] rfl (by (try simp only [List.map_toArray, List.map_cons, List.map_nil]); first | done | rfl | (simp only [List.length_drop, List.length_take]; rfl)) ?_; (with_reducible refine (code_Num.calls (a0.size : Int) t104 _ A2.out).mono ?_); rintro e w4 ⟨rfl, hb⟩; refine ⟨_, rfl, ?_⟩; have n0_ := Aside0.mk (below_step (by repeat (first | (with_reducible first | exact HB.out | apply below_alloc | apply pw_below_drewN | apply below_drew1) | exact HB.out)) hb); clear HB; have HB := n0_; clear n0_; (try clear hb); (try clear hb2); (try clear hk); (try clear hi)))
    go_ret
    exact ⟨by first | rfl | (simp [errW_none, errW_some] <;> rfl) | (simp [*, errW_none, errW_some] <;> rfl), by repeat (first | (with_reducible first | exact HB.out | apply below_alloc | apply pw_below_drewN | apply below_drew1) | exact HB.out)⟩
  · rw [if_neg c3] at H
    exact absurd H (by simp)
end Go.Proofs.Ytdmeclmniooedaa.P
end P4_
section List_
namespace Go.Proofs.Ytdmeclmniooedaa.P
open Go.RowKit Go.Proofs.YtdmeclmniooedaaW.PrintWords Go.Proofs.YtdmeclmniooedaaW.PrintLast Go.Proofs.YtdmeclmniooedaaW.PrintMore
set_option linter.unusedVariables false
def numB (n : Int) : ByteArray := strOfNums ((numF 9 n.toNat).map fun n : Nat => (n : Int))
def textB (s : ByteArray) : ByteArray := numB (s.size : Int) ++ s
def listTo (l : List ByteArray) : List UInt8 := l.flatMap fun s => (textB s).data.toList
def listB (l : List ByteArray) : ByteArray := ⟨((numB (l.length : Int)).data.toList ++ listTo l).toArray⟩
theorem sz_of (l : List Int) : (strOfNums l).size = l.length := by simp [strOfNums, ByteArray.size]
theorem numF_length (k n : Nat) : (numF k n).length ≤ k + 1 := by
  induction k generalizing n with
  | zero => simp [numF]
  | succ k ih =>
    rw [numF]; split
    · simp
    · have := ih (n / 128); rw [List.length_cons]; omega
theorem numB_size (n : Int) : (numB n).size ≤ 10 := by rw [numB, sz_of, List.length_map]; exact numF_length 9 _
theorem textB_size (s : ByteArray) : (textB s).size ≤ 10 + s.size := by
  rw [textB, ByteArray.size_append]; have := numB_size (s.size : Int); omega
theorem num_at (n : Int) (h0 : 0 ≤ n) (h : n < 9223372036854775808) : code_Num.f n = some (numB n) := by
  unfold code_Num.f
  rw [if_neg (by omega), if_pos h]; rfl
theorem text_at (s : ByteArray) (h : s.size ≤ 1099511627776) : code_Text.f s = some (textB s) := by
  have := numB_size (s.size : Int)
  unfold code_Text.f
  rw [num_at _ (by omega) (by omega), Option.bind_some, if_pos (by omega)]; rfl
def szs (l : List ByteArray) : Nat := (l.map ByteArray.size).sum
theorem szs_take (l : List ByteArray) (j : Nat) : szs (l.take j) ≤ szs l := by
  induction l generalizing j with
  | nil => simp [szs]
  | cons a l ih =>
    cases j with
    | zero => simp [szs]
    | succ j => have := ih j; simp only [szs, List.take_succ_cons, List.map_cons, List.sum_cons] at this ⊢; omega
theorem szs_get (l : List ByteArray) (j : Nat) (x : ByteArray) (h : l[j]? = some x) : x.size ≤ szs l := by
  induction l generalizing j with
  | nil => simp at h
  | cons a l ih =>
    cases j with
    | zero => obtain rfl : a = x := by simpa using h
              simp only [szs, List.map_cons, List.sum_cons]; omega
    | succ j => have := ih j (by simpa using h); simp only [szs, List.map_cons, List.sum_cons] at this ⊢; omega
theorem listTo_length (l : List ByteArray) : (listTo l).length ≤ 10 * l.length + szs l := by
  induction l with
  | nil => simp [listTo]
  | cons a l ih =>
    have := textB_size a
    have e : (textB a).data.toList.length = (textB a).size := by rw [Array.length_toList]; rfl
    simp only [listTo, List.flatMap_cons, List.length_append, szs, List.map_cons, List.sum_cons, List.length_cons] at ih ⊢
    omega
theorem listTo_take (l : List ByteArray) (j : Nat) (x : ByteArray) (h : l[j]? = some x) : listTo (l.take (j + 1)) = listTo (l.take j) ++ (textB x).data.toList := by
  rw [List.take_add_one, h, listTo, List.flatMap_append]
  simp [listTo]
theorem strBytes (s : ByteArray) : Lib.strCells s = Lib.byteCells s.data.toList := by simp [Lib.strCells, Lib.byteCells]
theorem byteApp (a b : List UInt8) : Lib.byteCells a ++ Lib.byteCells b = Lib.byteCells (a ++ b) := by simp [Lib.byteCells]
theorem byteLen (a : List UInt8) : (Lib.byteCells a).length = a.length := by simp [Lib.byteCells]
theorem builderAt_keep {T e : TypeId} {B b : Nat} {p : Value} {bs : List Value} {w w' : World} (h : Lib.BuilderAt T e B b p bs w) (hB : Below w.heap.size w w') : Lib.BuilderAt T e B b p bs w' := by
  have hlt := h.lt
  obtain ⟨h1, v, hbk, hown, hne⟩ := h
  exact ⟨h1, v, (hB.block b hlt).trans hbk, own_move hown (fun k hk => hB.block k (own_lt hown k hk)), hne⟩
theorem builder_keep {T e : TypeId} {B b : Nat} {bs : List Value} {w w' : World} (h : Lib.IsBuilder T e B b bs w) (hB : Below w.heap.size w w') : Lib.IsBuilder T e B b bs w' := by
  rcases h with h | h
  · exact Or.inl (builderAt_keep h hB)
  · exact Or.inr (builderAt_keep h hB)
set_option maxHeartbeats 4000000 in
set_option maxRecDepth 100000 in
theorem write_calls (A0 : Option Addr) (c0 : Nat) (l0 : List ByteArray) (w : World) (hr0 : Kd.C Kd.string w A0 l0.length l0) (hc0 : l0.length ≤ c0) (hn : l0.length ≤ 1000) (hs : szs l0 ≤ 1099511627776) :
    Calls Try.prog 40 #[.slice A0 l0.length c0, .func (.func 41) #[] #[]] w fun e w' => e = .returned (.string (listB l0)) ∧ Below w.heap.size w w' := by
  have HR := Lib.hid hr0
  have HS := Lib.hid hs
  have hnb := numB_size (l0.length : Int)
  have hnl : (numB (l0.length : Int)).data.toList.length = (numB (l0.length : Int)).size := by rw [Array.length_toList]; rfl
  have HN := Lib.hid (num_at (l0.length : Int) (by omega) (by omega))
  clear hr0 hs
  go_enter Try.func40, Try.ntmps40
  go_wp2_with fail
  refine (code_Num.calls _ _ _ HN.out).mono ?_
  rintro e w1 ⟨rfl, hb1⟩
  have hbl := builder_keep (Lib.fresh_isBuilder 69 5 w) hb1
  have hB1 : Below w.heap.size w w1 := ((Below.refl _ _).alloc (Nat.le_refl _) _).trans (hb1.mono (by rw [World.size_alloc]; omega))
  clear hb1
  go_wp2_with fail
  refine (Bld.writeString w.heap.size w.heap.size [] (numB (l0.length : Int)) _ hbl (by simp only [List.length_nil]; omega) hB1.size).mono ?_
  rintro e w2 ⟨rfl, h2, hb2⟩
  have hB2 : Below w.heap.size w w2 := hB1.trans hb2
  rw [List.nil_append, strBytes] at h2
  have H2 := Lib.hid h2
  have HB2 := Lib.hid hB2
  clear hbl hB1 hb2 h2 hB2
  obtain ⟨nb, hnb'⟩ : ∃ nb, (numB (l0.length : Int)).data.toList = nb := ⟨_, rfl⟩
  rw [hnb'] at H2 hnl
  have HNB := Lib.hid hnb'
  clear hnb'
  go_wp2_with fail
  go_loopg [14] l0.length (fun kq v14 wr => ∃ j : Nat, j + kq = l0.length ∧ v14 = .int .i64 (j : Int) ∧ Lib.BuilderAt 69 5 w.heap.size w.heap.size (.pointer (some ⟨w.heap.size, 0, none⟩)) (Lib.byteCells (nb ++ listTo (l0.take j))) wr ∧ Below w.heap.size w wr)
  case atStart => exact ⟨0, by omega, rfl, by rw [List.take_zero, show listTo [] = [] from rfl, List.append_nil]; exact H2.out, HB2.out⟩
  case round =>
    obtain ⟨j, hj, rfl, hbd, hb⟩ := hrel
    have hsz := hb.size
    have HB := Lib.hid hb
    have HD := Lib.hid hbd
    have hll := listTo_length (l0.take j)
    have hst := szs_take l0 j
    rw [List.length_take] at hll
    have hS := HS.out
    rcases Nat.lt_or_ge j l0.length with hjl | hjl
    · obtain ⟨ad, e0, hcell⟩ := Kd.at_string (Kd.C_below HR.out hb) (j : Int) (by omega) (by omega)
      rw [rdOf, Int.toNat_natCast] at hcell
      have hget : l0[j]? = some (l0.getD j ByteArray.empty) := by
        rw [List.getD_eq_getElem?_getD, List.getElem?_eq_getElem hjl]; rfl
      have HT := Lib.hid (listTo_take l0 j _ hget)
      have hxs := szs_get l0 j _ hget
      generalize l0.getD j ByteArray.empty = x at hcell HT hxs
      have htb := textB_size x
      have hte := text_at x (by omega)
      have HTX := Lib.hid hte
      obtain rfl := e0
      clear hb hbd hget hte
      go_wp2_with fail
      refine (code_Text.calls _ _ _ HTX.out).mono ?_
      rintro e w3 ⟨rfl, hb3⟩
      have hbd3 := builderAt_keep HD.out hb3
      have HB3 := Lib.hid (HB.out.trans (hb3.mono hsz))
      have hsz3 := HB3.out.size
      clear hb3
      go_wp2_with fail
      refine (Bld.writeString w.heap.size w.heap.size _ (textB x) _ (Or.inr hbd3) (by rw [byteLen, List.length_append]; omega) hsz3).mono ?_
      rintro e w4 ⟨rfl, h4, hb4⟩
      rw [strBytes, byteApp, List.append_assoc, ← HT.out] at h4
      have H4 := Lib.hid h4
      have HB4 := Lib.hid (HB3.out.trans hb4)
      clear hbd3 h4 hb4
      go_wp2_with fail
      go_roundg (gk - 1)
      case measure => omega
      case rel => exact ⟨j + 1, by omega, by go_num, H4.out, HB4.out⟩
    · obtain rfl : j = l0.length := by omega
      rw [List.take_length] at HD
      clear hb hbd
      go_wp2_with fail
      refine (Try.Builder_String_any w.heap.size w.heap.size _ _ (Or.inr HD.out) hsz).mono ?_
      rintro e w3 ⟨rfl, hb3⟩
      go_wp2_with fail
      go_ret
      exact ⟨by rw [listB, HNB.out]; rfl, HB.out.trans hb3⟩
def code_List.f (l0 : List ByteArray) : Option ByteArray := if l0.length ≤ 1000 ∧ szs l0 ≤ 1099511627776 then some (listB l0) else none
set_option maxHeartbeats 4000000 in
set_option maxRecDepth 100000 in
theorem code_List.calls (A0 : Option Addr) (c0 : Nat) (l0 : List ByteArray) (r : ByteArray) (w : World) (hr0 : Kd.C Kd.string w A0 l0.length l0) (hc0 : l0.length ≤ c0) (h : code_List.f l0 = some r) :
    Calls Try.prog 21 #[.slice A0 l0.length c0] w fun e w' => e = .returned (.string r) ∧ Below w.heap.size w w' := by
  unfold code_List.f at h
  split at h
  · rename_i hh
    obtain rfl := Option.some.inj h
    have HR := Lib.hid hr0
    clear h hr0
    go_enter Try.func21, Try.ntmps21
    go_wp2_with fail
    refine (write_calls A0 c0 l0 _ HR.out hc0 hh.1 hh.2).mono ?_
    rintro e w1 ⟨rfl, hb1⟩
    go_wp2_with fail
    go_ret
    exact ⟨rfl, hb1⟩
  · cases h
end Go.Proofs.Ytdmeclmniooedaa.P
end List_
