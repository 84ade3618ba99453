/- The row of the law agoralaw06_SealRefuses: for every input the call returns true, and each argument reads behind it as before. -/
import Derived.Test.YtdmeclmniooedaaRows
import Derived.WalkKit
import Derived.ProofKit
import Derived.OpenShut
import Derived.ShutString
import Derived.ChangeOld
import Derived.Below
import Derived.SizedLaws
import Derived.Lib.SmallJoins
import Derived.Test.YtdmeclmniooedaaKB5
import Derived.Test.YtdmeclmniooedaaKB20
import Derived.Test.YtdmeclmniooedaaKB21
import Derived.Test.YtdmeclmniooedaaKBSealRefusesF
import Derived.Test.YtdmeclmniooedaaKBSealRefusesG
namespace Go.Proofs.Ytdmeclmniooedaa.sealRefuses
open Go.ChangeShapes Go.WideShapes Go.ChangeAt Go.RowKit Go.Joins
open Go.ChangeMaps (open_string shut_string)
set_option linter.unusedVariables false
set_option linter.unusedSimpArgs false
theorem own : ownKnob Try.prog.godebug = none := by kernel_rfl
theorem lst3 {α : Type} {l : List α} (h : l.length = 3) : ∃ c0 c1 c2, l = [c0, c1, c2] := by
  match l, h with
  | [c0, c1, c2], _ => exact ⟨c0, c1, c2, rfl⟩
theorem lst5 {α : Type} {l : List α} (h : l.length = 5) : ∃ c0 c1 c2 c3 c4, l = [c0, c1, c2, c3, c4] := by
  match l, h with
  | [c0, c1, c2, c3, c4], _ => exact ⟨c0, c1, c2, c3, c4, rfl⟩
theorem cells3 : Try.prog.cellsOf 3 = 1 := by kernel_rfl
theorem cells9 : Try.prog.cellsOf 9 = 1 := by kernel_rfl
theorem cells23 : Try.prog.cellsOf 23 = 3 := by kernel_rfl
theorem cells25 : Try.prog.cellsOf 25 = 5 := by kernel_rfl
theorem open23 {H : Type} {enc : TypeId × Value → H} {w : World} {base : Nat} {spare : Nat → Bool} {held : Bool} {fuel : Nat} {cs : List Value} {x : DataW H × List MemPlace}
    (h : DataW.trod enc Try.prog w base spare held fuel 23 cs = some x) :
    ∃ (b0 : ByteArray) (b1 : ByteArray) (b2 : ByteArray), cs = [.string b0, .string b1, .string b2] ∧ x = (.agg [.lit (.string b0.data.toList), .lit (.string b1.data.toList), .lit (.string b2.data.toList)], []) ∧ b0.size ≤ maxLen ∧ b1.size ≤ maxLen ∧ b2.size ≤ maxLen := by
  obtain ⟨xs, n, _, rfl, hl, hlen, hf⟩ := DataW.trod_struct Try.underlying23 h
  rw [cells23] at hl
  obtain ⟨c0, c1, c2, rfl⟩ := lst3 hl
  obtain ⟨y0, y1, y2, rfl⟩ := lst3 (show xs.length = 3 from hlen)
  have h0 : DataW.trod enc Try.prog w base spare held n 9 [c0] = some y0 := by simpa [cells3, cells9, cells23, cells25] using hf 0 _ rfl
  obtain ⟨b0, e0, rfl, z0⟩ := DataW.trod_string Try.underlying9 h0
  obtain rfl := (List.cons.inj e0).1
  have h1 : DataW.trod enc Try.prog w base spare held n 9 [c1] = some y1 := by simpa [cells3, cells9, cells23, cells25] using hf 1 _ rfl
  obtain ⟨b1, e1, rfl, z1⟩ := DataW.trod_string Try.underlying9 h1
  obtain rfl := (List.cons.inj e1).1
  have h2 : DataW.trod enc Try.prog w base spare held n 9 [c2] = some y2 := by simpa [cells3, cells9, cells23, cells25] using hf 2 _ rfl
  obtain ⟨b2, e2, rfl, z2⟩ := DataW.trod_string Try.underlying9 h2
  obtain rfl := (List.cons.inj e2).1
  exact ⟨b0, b1, b2, rfl, rfl, z0, z1, z2⟩
theorem shut23 {H : Type} {enc : TypeId × Value → H} {w : World} {base : Nat} {spare : Nat → Bool} {held : Bool} (b0 : ByteArray) (b1 : ByteArray) (b2 : ByteArray) (z0 : b0.size ≤ maxLen) (z1 : b1.size ≤ maxLen) (z2 : b2.size ≤ maxLen) :
    ∃ n, DataW.trod enc Try.prog w base spare held n 23 [.string b0, .string b1, .string b2] = some (.agg [.lit (.string b0.data.toList), .lit (.string b1.data.toList), .lit (.string b2.data.toList)], []) := by
  obtain ⟨n0, t0⟩ : ∃ n, DataW.trod enc Try.prog w base spare held n 9 [.string b0] = some (.lit (.string b0.data.toList), []) := ⟨1, by simp [DataW.trod, Try.underlying9, z0]⟩
  obtain ⟨n1, t1⟩ : ∃ n, DataW.trod enc Try.prog w base spare held n 9 [.string b1] = some (.lit (.string b1.data.toList), []) := ⟨1, by simp [DataW.trod, Try.underlying9, z1]⟩
  obtain ⟨n2, t2⟩ : ∃ n, DataW.trod enc Try.prog w base spare held n 9 [.string b2] = some (.lit (.string b2.data.toList), []) := ⟨1, by simp [DataW.trod, Try.underlying9, z2]⟩
  have u0 := DataW.trod_le (show n0 ≤ n0 + n1 + n2 by omega) t0
  have u1 := DataW.trod_le (show n1 ≤ n0 + n1 + n2 by omega) t1
  have u2 := DataW.trod_le (show n2 ≤ n0 + n1 + n2 by omega) t2
  have := Go.ChangeShapes.trod_struct_mk (enc := enc) (w := w) (base := base) (spare := spare) (held := held) (n := n0 + n1 + n2) (cs := [.string b0, .string b1, .string b2]) (xs := [(.lit (.string b0.data.toList), []), (.lit (.string b1.data.toList), []), (.lit (.string b2.data.toList), [])]) Try.underlying23 (by simp [cells3, cells9, cells23, cells25]) (by simp [cells3, cells9, cells23, cells25, u0, u1, u2])
  exact ⟨_, by simpa using this⟩
theorem open25 {H : Type} {enc : TypeId × Value → H} {w : World} {base : Nat} {spare : Nat → Bool} {held : Bool} {fuel : Nat} {cs : List Value} {x : DataW H × List MemPlace}
    (h : DataW.trod enc Try.prog w base spare held fuel 25 cs = some x) :
    ∃ (b0 : Int) (b1 : Int) (b2 : ByteArray) (b3 : ByteArray) (b4 : ByteArray), cs = [.int .i64 b0, .int .i64 b1, .string b2, .string b3, .string b4] ∧ x = (.agg [.lit (.int .i64 b0), .lit (.int .i64 b1), .agg [.lit (.string b2.data.toList), .lit (.string b3.data.toList), .lit (.string b4.data.toList)]], []) ∧ (Lit.int .i64 b0).wf = true ∧ (Lit.int .i64 b1).wf = true ∧ b2.size ≤ maxLen ∧ b3.size ≤ maxLen ∧ b4.size ≤ maxLen := by
  obtain ⟨xs, n, _, rfl, hl, hlen, hf⟩ := DataW.trod_struct Try.underlying25 h
  rw [cells25] at hl
  obtain ⟨c0, c1, c2, c3, c4, rfl⟩ := lst5 hl
  obtain ⟨y0, y1, y2, rfl⟩ := lst3 (show xs.length = 3 from hlen)
  have h0 : DataW.trod enc Try.prog w base spare held n 3 [c0] = some y0 := by simpa [cells3, cells9, cells23, cells25] using hf 0 _ rfl
  obtain ⟨b0, e0, rfl, z0⟩ := DataW.trod_int Try.underlying3 h0
  obtain rfl := (List.cons.inj e0).1
  have h1 : DataW.trod enc Try.prog w base spare held n 3 [c1] = some y1 := by simpa [cells3, cells9, cells23, cells25] using hf 1 _ rfl
  obtain ⟨b1, e1, rfl, z1⟩ := DataW.trod_int Try.underlying3 h1
  obtain rfl := (List.cons.inj e1).1
  have h2 : DataW.trod enc Try.prog w base spare held n 23 [c2, c3, c4] = some y2 := by simpa [cells3, cells9, cells23, cells25] using hf 2 _ rfl
  obtain ⟨b2, b3, b4, e2, rfl, z2, z3, z4⟩ := open23 h2
  simp only [List.cons.injEq, and_true] at e2
  obtain ⟨rfl, rfl, rfl⟩ := e2
  exact ⟨b0, b1, b2, b3, b4, rfl, rfl, z0, z1, z2, z3, z4⟩
theorem shut25 {H : Type} {enc : TypeId × Value → H} {w : World} {base : Nat} {spare : Nat → Bool} {held : Bool} (b0 : Int) (b1 : Int) (b2 : ByteArray) (b3 : ByteArray) (b4 : ByteArray) (z0 : (Lit.int .i64 b0).wf = true) (z1 : (Lit.int .i64 b1).wf = true) (z2 : b2.size ≤ maxLen) (z3 : b3.size ≤ maxLen) (z4 : b4.size ≤ maxLen) :
    ∃ n, DataW.trod enc Try.prog w base spare held n 25 [.int .i64 b0, .int .i64 b1, .string b2, .string b3, .string b4] = some (.agg [.lit (.int .i64 b0), .lit (.int .i64 b1), .agg [.lit (.string b2.data.toList), .lit (.string b3.data.toList), .lit (.string b4.data.toList)]], []) := by
  obtain ⟨n0, t0⟩ : ∃ n, DataW.trod enc Try.prog w base spare held n 3 [.int .i64 b0] = some (.lit (.int .i64 b0), []) := ⟨1, by simp [DataW.trod, Try.underlying3, z0]⟩
  obtain ⟨n1, t1⟩ : ∃ n, DataW.trod enc Try.prog w base spare held n 3 [.int .i64 b1] = some (.lit (.int .i64 b1), []) := ⟨1, by simp [DataW.trod, Try.underlying3, z1]⟩
  obtain ⟨n2, t2⟩ : ∃ n, DataW.trod enc Try.prog w base spare held n 23 [.string b2, .string b3, .string b4] = some (.agg [.lit (.string b2.data.toList), .lit (.string b3.data.toList), .lit (.string b4.data.toList)], []) := shut23 b2 b3 b4 z2 z3 z4
  have u0 := DataW.trod_le (show n0 ≤ n0 + n1 + n2 by omega) t0
  have u1 := DataW.trod_le (show n1 ≤ n0 + n1 + n2 by omega) t1
  have u2 := DataW.trod_le (show n2 ≤ n0 + n1 + n2 by omega) t2
  have := Go.ChangeShapes.trod_struct_mk (enc := enc) (w := w) (base := base) (spare := spare) (held := held) (n := n0 + n1 + n2) (cs := [.int .i64 b0, .int .i64 b1, .string b2, .string b3, .string b4]) (xs := [(.lit (.int .i64 b0), []), (.lit (.int .i64 b1), []), (.agg [.lit (.string b2.data.toList), .lit (.string b3.data.toList), .lit (.string b4.data.toList)], [])]) Try.underlying25 (by simp [cells3, cells9, cells23, cells25]) (by simp [cells3, cells9, cells23, cells25, u0, u1, u2])
  exact ⟨_, by simpa using this⟩
set_option maxRecDepth 100000 in
theorem lifted (os : Os) (started : os.Started) (H : Type) (enc : TypeId × Value → H) :
    ReturnsInHanded {} Try.checked os 7 .any (Rows.sealRefusesSpec.pre6 enc Try.prog Try.f7 Rows.sealRefusesRow.domain false) (Rows.sealRefusesSpec.post enc Try.prog Try.f7 false true false false) := by
  refine returnsInHanded_of_change_sized (C := Try.checked) own started (by kernel_rfl) Try.func7
    (ChangeSpec.witness6 (enc := enc) (C := Try.checked) false ⟨#[], #[.int .i64 0, .string ByteArray.empty, .string ByteArray.empty, .agg #[.int .i64 0, .int .i64 0, .string ByteArray.empty, .string ByteArray.empty, .string ByteArray.empty]], []⟩ 8 (by kernel_rfl) (by kernel_rfl) (by kernel_rfl) (by kernel_rfl)) ?_
  intro W base args ds gs before hval0 hW hcnd hsz0 _
  have hsz : (DataW.weightsEach Try.prog (Try.f7.params.toList ++ Rows.sealRefusesSpec.plain.varTypes Try.prog) (ds ++ gs)).all (· ≤ reachBytes) = true := hsz0
  have hval : ∀ (j : Nat) t v, Try.f7.params[j]? = some t → args[j]? = some v → Value.okWide Try.prog W .any base t v := hval0
  have hW' := hW
  obtain ⟨p, q, hA0, hV, rfl, hfz, hnd⟩ := hW
  have hA : DataW.TrodAll enc Try.prog W 0 (fun _ => true) true Try.f7.params.toList args.toList ds p := hA0
  rw [Try.params7] at hA hval hsz
  obtain ⟨v0, vs0, d0, ds0, p0, q0, hargs, rfl, rfl, h0, r0⟩ := trodAll_cons hA
  obtain ⟨v1, vs1, d1, ds1, p1, q1, rfl, rfl, rfl, h1, r1⟩ := trodAll_cons r0
  obtain ⟨v2, vs2, d2, ds2, p2, q2, rfl, rfl, rfl, h2, r2⟩ := trodAll_cons r1
  obtain ⟨v3, vs3, d3, ds3, p3, q3, rfl, rfl, rfl, h3, r3⟩ := trodAll_cons r2
  obtain ⟨rfl, rfl, rfl⟩ := trodAll_nil r3
  obtain rfl : args = #[v0, v1, v2, v3] := by cases args; simp_all
  obtain ⟨rfl, rfl⟩ := trodVars_none hV
  obtain ⟨a0, rfl, rfl, rfl, w0⟩ := open_int Try.underlying3 (hval 0 3 v0 rfl rfl) h0
  obtain ⟨a1, rfl, rfl, rfl, y1⟩ := open_string Try.underlying9 (hval 1 9 v1 rfl rfl) h1
  have w1 : a1.size ≤ 140737488351232 := by
    have z := sized_string hsz (j := 1) (t := 9) rfl rfl
    rw [Array.length_toList] at z
    exact z
  obtain ⟨a2, rfl, rfl, rfl, y2⟩ := open_string Try.underlying9 (hval 2 9 v2 rfl rfl) h2
  have w2 : a2.size ≤ 140737488351232 := by
    have z := sized_string hsz (j := 2) (t := 9) rfl rfl
    rw [Array.length_toList] at z
    exact z
  obtain ⟨cs3, rfl, hz3⟩ := okWide_struct Try.underlying25 (hval 3 25 v3 rfl rfl)
  obtain ⟨fu3, hf3⟩ := h3
  obtain ⟨a3_0, a3_1, a3_2, a3_3, a3_4, ecs3, ex3, y3_0, y3_1, y3_2, y3_3, y3_4⟩ := open25 (show DataW.trod enc Try.prog W 0 (fun _ => true) true fu3 25 cs3.toList = some (d3, p3) from hf3)
  obtain rfl : cs3 = #[.int .i64 a3_0, .int .i64 a3_1, .string a3_2, .string a3_3, .string a3_4] := Array.toList_inj.1 ecs3
  obtain ⟨rfl, rfl⟩ := Prod.mk.inj ex3
  have w3_0 := y3_0
  have w3_1 := y3_1
  have w3_2 : a3_2.size ≤ 140737488351232 := by
    have z := of_decide_eq_true (List.all_eq_true.1 hsz _ (DataW.weights_mem_each (j := 3) (t := 25) rfl rfl a3_2.data.toList.length (by simp [DataW.weights, DataW.weightsEach, Try.underlying23, Try.underlying25])))
    rw [Array.length_toList] at z
    exact z
  have w3_3 : a3_3.size ≤ 140737488351232 := by
    have z := of_decide_eq_true (List.all_eq_true.1 hsz _ (DataW.weights_mem_each (j := 3) (t := 25) rfl rfl a3_3.data.toList.length (by simp [DataW.weights, DataW.weightsEach, Try.underlying23, Try.underlying25])))
    rw [Array.length_toList] at z
    exact z
  have w3_4 : a3_4.size ≤ 140737488351232 := by
    have z := of_decide_eq_true (List.all_eq_true.1 hsz _ (DataW.weights_mem_each (j := 3) (t := 25) rfl rfl a3_4.data.toList.length (by simp [DataW.weights, DataW.weightsEach, Try.underlying23, Try.underlying25])))
    rw [Array.length_toList] at z
    exact z
  clear hA0 hval0 hsz0 hsz
  refine (P.agoralaw06_SealRefuses.calls 300 a0 a1 a2 a3_0 a3_1 a3_2 a3_3 a3_4 true W (Pure.SealRefuses a0 a1 a2 a3_0 a3_1 a3_2 a3_3 a3_4 w0 w1 w2 w3_2 w3_3 w3_4)).mono fun e W' ⟨he, bel⟩ => ?_
  subst he
  exact ⟨_, rfl, _, _, _, [], _, [], hW', trodAll_mk1 (shut_bool Try.underlying4 _), (trodAll_cons_mk (shut_int Try.underlying3 w0) (trodAll_cons_mk (shut_string Try.underlying9 y1) (trodAll_cons_mk (shut_string Try.underlying9 y2) (trodAll_cons_mk (show DataW.Trod _ _ _ _ _ _ 25 (.agg #[.int .i64 a3_0, .int .i64 a3_1, .string a3_2, .string a3_3, .string a3_4]) (.agg [.lit (.int .i64 a3_0), .lit (.int .i64 a3_1), .agg [.lit (.string a3_2.data.toList), .lit (.string a3_3.data.toList), .lit (.string a3_4.data.toList)]]) [] from shut25 a3_0 a3_1 a3_2 a3_3 a3_4 y3_0 y3_1 y3_2 y3_3 y3_4) trodAll_mk0)))), rfl, bel.frame _, fun h => by cases h⟩
theorem over : Rows.sealRefusesRow.holds Try.pinned (OpenSpec.ofChange Rows.sealRefusesSpec) :=
  OpenClaim.holds_of_wide 7 Try.f7 rfl rfl rfl rfl rfl rfl rfl ⟨rfl, rfl, rfl, rfl, rfl⟩ rfl rfl rfl rfl rfl (by kernel_rfl) Try.func7 (by kernel_rfl)
    (of_decide_eq_true (by kernel_rfl)) (by unfold Func.isWrapper; first | (rw [if_pos (by decide +kernel)]; kernel_rfl) | (rw [if_neg (by decide +kernel)]; exact ⟨rfl, rfl⟩))
    (fun os started H enc _ => lifted os started H enc)
theorem proved : Rows.SealRefusesSaid := over
#print axioms proved
end Go.Proofs.Ytdmeclmniooedaa.sealRefuses
namespace Go.Proofs.Ytdmeclmniooedaa
/-- The row, under a short name, for the claim. -/
theorem sealRefuses_holds : Rows.SealRefusesSaid := sealRefuses.proved
end Go.Proofs.Ytdmeclmniooedaa
