/- The row of the law agoralaw08_MerkleHalves: for every input the call returns true, and each argument reads behind it as before. -/
import Derived.Test.YtkhkppehdgkboaaRows
import Derived.WalkKit
import Derived.ProofKit
import Derived.OpenShut
import Derived.ShutString
import Derived.ChangeOld
import Derived.Below
import Derived.SizedLaws
import Derived.Lib.SmallJoins
import Derived.Deep.Strs
import Derived.Test.YtkhkppehdgkboaaKB17
import Derived.Test.YtkhkppehdgkboaaKBMerkleHalvesF
namespace Go.Proofs.Ytkhkppehdgkboaa.merkleHalves
open Go.ChangeShapes Go.WideShapes Go.ChangeAt Go.RowKit Go.Joins
open Go.ChangeMaps (open_string shut_string)
set_option linter.unusedVariables false
set_option linter.unusedSimpArgs false
open Go.Proofs.YtkhkppehdgkboaaW.PrintWords
theorem laidOut : laidOutB Try.prog = true := by kernel_rfl
theorem strs_row {w : World} {x : Addr} {n : Nat} {Sx : Nat → ByteArray} (hn : n ≤ 9223372036854775807) (h : ∀ i, i < n → w.cell? (x.add i) = some (.string (Sx i))) : Kd.C Kd.string w (some x) ((List.range n).map Sx).length ((List.range n).map Sx) := by
  refine ⟨rfl, by simpa using hn, fun _ => ⟨x, rfl, fun j p hp => ⟨[.string p], rfl, rfl, fun i u hu => ?_⟩⟩⟩
  obtain ⟨hj, hp⟩ := List.getElem?_eq_some_iff.1 hp
  simp only [List.getElem_map, List.getElem_range] at hp
  simp only [List.length_map, List.length_range] at hj
  match i, hu with
  | 0, hu =>
    simp only [List.getElem?_cons_zero, Option.some.injEq] at hu
    subst hu hp
    simpa [Kd.string, Kd.scalar] using h j hj
  | _ + 1, hu => simp at hu
theorem strs_open {H : Type} {enc : TypeId × Value → H} {P : Program} {W : World} {t e : TypeId} {fuel : Nat} {a : Option Addr} {n c : Nat} {x : DataW H × List MemPlace} (ht : P.underlying t = some (.slice e)) (he : P.underlying e = some .string) (hc : P.cellsOf e = 1)
    (h : DataW.trod enc P W 0 (fun _ => true) true fuel t (Value.cells (.slice a n c)).toList = some x) : ∃ zs : List ByteArray, n = zs.length ∧ Kd.C Kd.string W a zs.length zs ∧ zs.length ≤ c := by
  rcases Go.Deep.open_strs ht he hc h with ⟨hcs, _⟩ | ⟨y, l, cp, m, Sx, hcs, _, hl, hm, hmm, _, hcell⟩
  · simp [Value.cells] at hcs
    obtain ⟨rfl, rfl, rfl⟩ := hcs
    exact ⟨[], rfl, Kd.C_nil _ _, Nat.le_refl _⟩
  · simp [Value.cells] at hcs
    obtain ⟨rfl, rfl, rfl⟩ := hcs
    simp only [if_true] at hmm
    subst hmm
    refine ⟨(List.range n).map Sx, by simp, strs_row (Nat.le_trans (Nat.le_trans hl hm) (by decide)) (fun i hi => (hcell i (by omega)).1), by simpa using hl⟩
theorem own : ownKnob Try.prog.godebug = none := by kernel_rfl
set_option maxRecDepth 100000 in
theorem lifted (os : Os) (started : os.Started) (H : Type) (enc : TypeId × Value → H) :
    ReturnsInHanded {} Try.checked os 8 .any (Rows.merkleHalvesSpec.pre6 enc Try.prog Try.f8 Rows.merkleHalvesRow.domain false) (Rows.merkleHalvesSpec.post enc Try.prog Try.f8 false true false false) := by
  refine returnsInHanded_of_change_sized (C := Try.checked) own started (by kernel_rfl) Try.func8
    (ChangeSpec.witness6 (enc := enc) (C := Try.checked) false ⟨#[], #[.slice none 0 0, .int .i64 0], []⟩ 8 (by kernel_rfl) (by kernel_rfl) (by kernel_rfl) (by kernel_rfl)) ?_
  intro W base args ds gs before hval0 hW hcnd hsz0 _
  have hsz : (DataW.weightsEach Try.prog (Try.f8.params.toList ++ Rows.merkleHalvesSpec.plain.varTypes Try.prog) (ds ++ gs)).all (· ≤ reachBytes) = true := hsz0
  have hval : ∀ (j : Nat) t v, Try.f8.params[j]? = some t → args[j]? = some v → Value.okWide Try.prog W .any base t v := hval0
  have hW' := hW
  obtain ⟨p, q, hA0, hV, rfl, hfz, hnd⟩ := hW
  have hA : DataW.TrodAll enc Try.prog W 0 (fun _ => true) true Try.f8.params.toList args.toList ds p := hA0
  rw [Try.params8] at hA hval hsz
  obtain ⟨v0, vs0, d0, ds0, p0, q0, hargs, rfl, rfl, h0, r0⟩ := trodAll_cons hA
  obtain ⟨v1, vs1, d1, ds1, p1, q1, rfl, rfl, rfl, h1, r1⟩ := trodAll_cons r0
  obtain ⟨rfl, rfl, rfl⟩ := trodAll_nil r1
  obtain rfl : args = #[v0, v1] := by cases args; simp_all
  obtain ⟨rfl, rfl⟩ := trodVars_none hV
  obtain ⟨a0, n0, c0, rfl⟩ := okWide_slice Try.underlying22 (hval 0 22 v0 rfl rfl)
  have k0 := h0
  have lt0 : ∀ x ∈ p0, x.block < W.heap.size := by obtain ⟨m, hm⟩ := k0; exact DataW.trod_lt m _ _ _ hm
  obtain ⟨z0, rfl, hr0, hc0⟩ : ∃ zs : List ByteArray, n0 = zs.length ∧ Kd.C Kd.string W a0 zs.length zs ∧ zs.length ≤ c0 := by
    obtain ⟨fuel, hf⟩ := h0
    exact strs_open Try.underlying22 Try.underlying9 (by kernel_rfl) hf
  obtain ⟨a1, rfl, rfl, rfl, w1⟩ := open_int Try.underlying3 (hval 1 3 v1 rfl rfl) h1
  clear hA0 hval0 hsz0 hsz
  refine (P.agoralaw08_MerkleHalves.calls 300 a0 c0 z0 a1 true W hr0 hc0 (Pure.MerkleHalves z0 a1)).mono fun e W' ⟨he, bel⟩ => ?_
  subst he
  exact ⟨_, rfl, _, _, _, [], _, [], hW', trodAll_mk1 (shut_bool Try.underlying4 _), (trodAll_cons_mk (Below.trod laidOut (by kernel_rfl) (of_decide_eq_true (by kernel_rfl)) k0 bel lt0) (trodAll_cons_mk (shut_int Try.underlying3 w1) trodAll_mk0)), rfl, bel.frame _, fun h => by cases h⟩
theorem over : Rows.merkleHalvesRow.holds Try.pinned (OpenSpec.ofChange Rows.merkleHalvesSpec) :=
  OpenClaim.holds_of_wide 8 Try.f8 rfl rfl rfl rfl rfl rfl rfl ⟨rfl, rfl, rfl, rfl, rfl⟩ rfl rfl rfl rfl rfl (by kernel_rfl) Try.func8 (by kernel_rfl)
    (of_decide_eq_true (by kernel_rfl)) (by unfold Func.isWrapper; first | (rw [if_pos (by decide +kernel)]; kernel_rfl) | (rw [if_neg (by decide +kernel)]; exact ⟨rfl, rfl⟩))
    (fun os started H enc _ => lifted os started H enc)
theorem proved : Rows.MerkleHalvesSaid := over
#print axioms proved
end Go.Proofs.Ytkhkppehdgkboaa.merkleHalves
namespace Go.Proofs.Ytkhkppehdgkboaa
/-- The row, under a short name, for the claim. -/
theorem merkleHalves_holds : Rows.MerkleHalvesSaid := merkleHalves.proved
end Go.Proofs.Ytkhkppehdgkboaa
