/- The row of the law agoralaw07_ShareJoins: for every input the call returns true, and each argument reads behind it as before. -/
import Derived.Test.YtggmjfonhcinhaaRows
import Derived.WalkKit
import Derived.ProofKit
import Derived.OpenShut
import Derived.ShutString
import Derived.ChangeOld
import Derived.Below
import Derived.SizedLaws
import Derived.Lib.SmallJoins
import Derived.Deep.Strs
import Derived.ChangeSlices
import Derived.DataReads
import Derived.Test.YtggmjfonhcinhaaKB5
import Derived.Test.YtggmjfonhcinhaaKB6
import Derived.Test.YtggmjfonhcinhaaKB13
import Derived.Test.YtggmjfonhcinhaaKB18
import Derived.Test.YtggmjfonhcinhaaKB19
import Derived.Test.YtggmjfonhcinhaaKBShareJoinsF
import Derived.Test.YtggmjfonhcinhaaKBShareJoinsG
import Derived.Test.YtggmjfonhcinhaaKB23
namespace Go.Proofs.Ytggmjfonhcinhaa.shareJoins
open Go.ChangeShapes Go.WideShapes Go.ChangeAt Go.RowKit Go.Joins
open Go.ChangeMaps (open_string shut_string)
set_option linter.unusedVariables false
set_option linter.unusedSimpArgs false
open Go.Proofs.YtggmjfonhcinhaaW Go.Proofs.YtggmjfonhcinhaaW.PrintWords Go.Proofs.Ytggmjfonhcinhaa.P
theorem laidOut : laidOutB Try.prog = true := by kernel_rfl
theorem strs_row {w : World} {x : Addr} {n : Nat} {Sx : Nat → ByteArray} (hn : n ≤ 9223372036854775807) (h : ∀ i, i < n → w.cell? (x.add i) = some (.string (Sx i))) : Kd.C Kd.string w (some x) ((List.range n).map Sx).length ((List.range n).map Sx) := by
  refine ⟨rfl, by simpa using hn, fun _ => ⟨x, rfl, fun j p hp => ⟨[.string p], rfl, rfl, fun i u hu => ?_⟩⟩⟩
  obtain ⟨hj, hp⟩ := List.getElem?_eq_some_iff.1 hp
  simp only [List.getElem_map, List.getElem_range] at hp
  simp only [List.length_map, List.length_range] at hj
  match i, hu with
  | 0, hu =>
    simp only [List.getElem?_cons_zero, Option.some.injEq] at hu
    subst hu hp
    simpa [Kd.string, Kd.scalar] using h j hj
  | _ + 1, hu => simp at hu
theorem strs_open {H : Type} {enc : TypeId × Value → H} {P : Program} {W : World} {t e : TypeId} {fuel : Nat} {a : Option Addr} {n c : Nat} {x : DataW H × List MemPlace} (ht : P.underlying t = some (.slice e)) (he : P.underlying e = some .string) (hc : P.cellsOf e = 1)
    (h : DataW.trod enc P W 0 (fun _ => true) true fuel t (Value.cells (.slice a n c)).toList = some x) : ∃ zs : List ByteArray, n = zs.length ∧ Kd.C Kd.string W a zs.length zs ∧ zs.length ≤ c := by
  rcases Go.Deep.open_strs ht he hc h with ⟨hcs, _⟩ | ⟨y, l, cp, m, Sx, hcs, _, hl, hm, hmm, _, hcell⟩
  · simp [Value.cells] at hcs
    obtain ⟨rfl, rfl, rfl⟩ := hcs
    exact ⟨[], rfl, Kd.C_nil _ _, Nat.le_refl _⟩
  · simp [Value.cells] at hcs
    obtain ⟨rfl, rfl, rfl⟩ := hcs
    simp only [if_true] at hmm
    subst hmm
    refine ⟨(List.range n).map Sx, by simp, strs_row (Nat.le_trans (Nat.le_trans hl hm) (by decide)) (fun i hi => (hcell i (by omega)).1), by simpa using hl⟩
theorem ints_open {H : Type} {enc : TypeId × Value → H} {P : Program} {W : World} {t e : TypeId} {fuel : Nat} {a : Option Addr} {n c : Nat} {x : DataW H × List MemPlace} (ht : P.underlying t = some (.slice e)) (he : P.underlying e = some (.int .i64)) (hc : P.cellsOf e = 1)
    (h : DataW.trod enc P W 0 (fun _ => true) true fuel t (Value.cells (.slice a n c)).toList = some x) : ∃ zs : List Int, n = zs.length ∧ Kd.C (Kd.int .i64) W a zs.length zs ∧ zs.length ≤ c := by
  rcases open_ints ht he hc h with ⟨hcs, _⟩ | ⟨y, l, cp, zs, hcs, _, hl, hm, hz, _, hcell, hwz⟩
  · simp [Value.cells] at hcs
    obtain ⟨rfl, rfl, rfl⟩ := hcs
    exact ⟨[], rfl, Kd.C_nil _ _, Nat.le_refl _⟩
  · simp [Value.cells] at hcs
    obtain ⟨rfl, rfl, rfl⟩ := hcs
    simp only [if_true] at hz
    have hlt : (zs.take n).length = n := by rw [List.length_take]; omega
    refine ⟨zs.take n, hlt.symm, ⟨rfl, Nat.le_trans (Nat.le_trans (Nat.le_of_eq hlt) (Nat.le_trans hl hm)) (by decide), fun _ => ⟨y, rfl, fun j p hp => ⟨[.int .i64 p], rfl, rfl, fun i u hu => ?_⟩⟩⟩, by omega⟩
    obtain ⟨hj, hp⟩ := List.getElem?_eq_some_iff.1 hp
    rw [hlt] at hj
    match i, hu with
    | 0, hu =>
      simp only [List.getElem?_cons_zero, Option.some.injEq] at hu
      subst hu hp
      have h1 := hcell j (by omega)
      rw [List.getD_eq_getElem?_getD, List.getElem?_eq_getElem (by omega)] at h1
      simpa [Kd.int, Kd.scalar] using h1
    | _ + 1, hu => simp at hu
theorem own : ownKnob Try.prog.godebug = none := by kernel_rfl
theorem lst2 {α : Type} {l : List α} (h : l.length = 2) : ∃ c0 c1, l = [c0, c1] := by
  match l, h with
  | [c0, c1], _ => exact ⟨c0, c1, rfl⟩
theorem cells3 : Try.prog.cellsOf 3 = 1 := by kernel_rfl
theorem cells38 : Try.prog.cellsOf 38 = 2 := by kernel_rfl
theorem open38 {H : Type} {enc : TypeId × Value → H} {w : World} {base : Nat} {spare : Nat → Bool} {held : Bool} {fuel : Nat} {cs : List Value} {x : DataW H × List MemPlace}
    (h : DataW.trod enc Try.prog w base spare held fuel 38 cs = some x) :
    ∃ (b0 : Int) (b1 : Int), cs = [.int .i64 b0, .int .i64 b1] ∧ x = (.agg [.lit (.int .i64 b0), .lit (.int .i64 b1)], []) ∧ (Lit.int .i64 b0).wf = true ∧ (Lit.int .i64 b1).wf = true := by
  obtain ⟨xs, n, _, rfl, hl, hlen, hf⟩ := DataW.trod_struct Try.underlying38 h
  rw [cells38] at hl
  obtain ⟨c0, c1, rfl⟩ := lst2 hl
  obtain ⟨y0, y1, rfl⟩ := lst2 (show xs.length = 2 from hlen)
  have h0 : DataW.trod enc Try.prog w base spare held n 3 [c0] = some y0 := by simpa [cells3, cells38] using hf 0 _ rfl
  obtain ⟨b0, e0, rfl, z0⟩ := DataW.trod_int Try.underlying3 h0
  obtain rfl := (List.cons.inj e0).1
  have h1 : DataW.trod enc Try.prog w base spare held n 3 [c1] = some y1 := by simpa [cells3, cells38] using hf 1 _ rfl
  obtain ⟨b1, e1, rfl, z1⟩ := DataW.trod_int Try.underlying3 h1
  obtain rfl := (List.cons.inj e1).1
  exact ⟨b0, b1, rfl, rfl, z0, z1⟩
theorem shut38 {H : Type} {enc : TypeId × Value → H} {w : World} {base : Nat} {spare : Nat → Bool} {held : Bool} (b0 : Int) (b1 : Int) (z0 : (Lit.int .i64 b0).wf = true) (z1 : (Lit.int .i64 b1).wf = true) :
    ∃ n, DataW.trod enc Try.prog w base spare held n 38 [.int .i64 b0, .int .i64 b1] = some (.agg [.lit (.int .i64 b0), .lit (.int .i64 b1)], []) := by
  obtain ⟨n0, t0⟩ : ∃ n, DataW.trod enc Try.prog w base spare held n 3 [.int .i64 b0] = some (.lit (.int .i64 b0), []) := ⟨1, by simp [DataW.trod, Try.underlying3, z0]⟩
  obtain ⟨n1, t1⟩ : ∃ n, DataW.trod enc Try.prog w base spare held n 3 [.int .i64 b1] = some (.lit (.int .i64 b1), []) := ⟨1, by simp [DataW.trod, Try.underlying3, z1]⟩
  have u0 := DataW.trod_le (show n0 ≤ n0 + n1 by omega) t0
  have u1 := DataW.trod_le (show n1 ≤ n0 + n1 by omega) t1
  have := Go.ChangeShapes.trod_struct_mk (enc := enc) (w := w) (base := base) (spare := spare) (held := held) (n := n0 + n1) (cs := [.int .i64 b0, .int .i64 b1]) (xs := [(.lit (.int .i64 b0), []), (.lit (.int .i64 b1), [])]) Try.underlying38 (by simp [cells3, cells38]) (by simp [cells3, cells38, u0, u1])
  exact ⟨_, by simpa using this⟩
instance : Inhabited S38 := ⟨z38⟩
theorem shares_open {H : Type} {enc : TypeId × Value → H} {W : World} {fuel : Nat} {a : Option Addr} {n c : Nat} {x : DataW H × List MemPlace} (h : DataW.trod enc Try.prog W 0 (fun _ => true) true fuel 22 (Value.cells (.slice a n c)).toList = some x) :
    ∃ zs : List S38, n = zs.length ∧ Kd.C k38 W a zs.length zs ∧ zs.length ≤ c := by
  rcases Go.Deep.open_slice Try.underlying22 h with ⟨hcs, _⟩ | ⟨y, l, cp, m, n1, D, Pl, hcs, _, hl, hm, hmm, _, hx⟩
  · simp [Value.cells] at hcs
    obtain ⟨rfl, rfl, rfl⟩ := hcs
    exact ⟨[], rfl, Kd.C_nil _ _, Nat.le_refl _⟩
  · simp [Value.cells] at hcs
    obtain ⟨rfl, rfl, rfl⟩ := hcs
    simp only [if_true] at hmm
    subst hmm
    rw [cells38] at hx
    have each : ∀ i, i < n → ∃ s : S38, W.cell? (y.add (i * 2)) = some (.int .i64 s.f0) ∧ W.cell? (y.add (i * 2 + 1)) = some (.int .i64 s.f1) := fun i hi => by
      obtain ⟨cs', h1, h2⟩ := hx i (by omega)
      obtain ⟨b0, b1, rfl, _, _⟩ := open38 h2
      have hc := World.cells?_some h1
      exact ⟨⟨b0, b1⟩, by simpa [Addr.add] using hc.2.2 0 (by omega), by
        have h9 := hc.2.2 1 (by omega)
        by_cases h0 : i = 0
        · subst h0; simpa [Addr.add] using h9
        · have h1 : ¬ i * 2 = 0 := by omega
          simpa [Addr.add, h0, h1, Nat.add_assoc] using h9⟩
    obtain ⟨Sx, hS⟩ := Go.Deep.choose_lt each
    refine ⟨(List.range n).map Sx, by simp, ⟨rfl, by simp; exact Nat.le_trans (Nat.le_trans hl hm) (by decide), fun _ => ⟨y, rfl, fun j p hp => ⟨[.int .i64 p.f0, .int .i64 p.f1], rfl, k38_mk W p, fun i u hu => ?_⟩⟩⟩, by simpa using hl⟩
    obtain ⟨hj, hp⟩ := List.getElem?_eq_some_iff.1 hp
    simp only [List.getElem_map, List.getElem_range] at hp
    simp only [List.length_map, List.length_range] at hj
    subst hp
    obtain ⟨g0, g1⟩ := hS j hj
    match i, hu with
    | 0, hu => simp only [List.getElem?_cons_zero, Option.some.injEq] at hu; subst hu; exact g0
    | 1, hu => simp only [List.getElem?_cons_succ, List.getElem?_cons_zero, Option.some.injEq] at hu; subst hu; exact g1
    | _ + 2, hu => simp at hu
set_option maxRecDepth 100000 in
theorem lifted (os : Os) (started : os.Started) (H : Type) (enc : TypeId × Value → H) :
    ReturnsInHanded {} Try.checked os 4 .any (Rows.shareJoinsSpec.pre6 enc Try.prog Try.f4 Rows.shareJoinsRow.domain false) (Rows.shareJoinsSpec.post enc Try.prog Try.f4 false true false false) := by
  refine returnsInHanded_of_change_sized (C := Try.checked) own started (by kernel_rfl) Try.func4
    (ChangeSpec.witness6 (enc := enc) (C := Try.checked) false ⟨#[], #[.int .i64 0, .int .i64 0, .int .i64 0, .string ByteArray.empty, .slice none 0 0, .slice none 0 0], []⟩ 8 (by kernel_rfl) (by kernel_rfl) (by kernel_rfl) (by kernel_rfl)) ?_
  intro W base args ds gs before hval0 hW hcnd hsz0 _
  have hsz : (DataW.weightsEach Try.prog (Try.f4.params.toList ++ Rows.shareJoinsSpec.plain.varTypes Try.prog) (ds ++ gs)).all (· ≤ reachBytes) = true := hsz0
  have hval : ∀ (j : Nat) t v, Try.f4.params[j]? = some t → args[j]? = some v → Value.okWide Try.prog W .any base t v := hval0
  have hW' := hW
  obtain ⟨p, q, hA0, hV, rfl, hfz, hnd⟩ := hW
  have hA : DataW.TrodAll enc Try.prog W 0 (fun _ => true) true Try.f4.params.toList args.toList ds p := hA0
  rw [Try.params4] at hA hval hsz
  obtain ⟨v0, vs0, d0, ds0, p0, q0, hargs, rfl, rfl, h0, r0⟩ := trodAll_cons hA
  obtain ⟨v1, vs1, d1, ds1, p1, q1, rfl, rfl, rfl, h1, r1⟩ := trodAll_cons r0
  obtain ⟨v2, vs2, d2, ds2, p2, q2, rfl, rfl, rfl, h2, r2⟩ := trodAll_cons r1
  obtain ⟨v3, vs3, d3, ds3, p3, q3, rfl, rfl, rfl, h3, r3⟩ := trodAll_cons r2
  obtain ⟨v4, vs4, d4, ds4, p4, q4, rfl, rfl, rfl, h4, r4⟩ := trodAll_cons r3
  obtain ⟨v5, vs5, d5, ds5, p5, q5, rfl, rfl, rfl, h5, r5⟩ := trodAll_cons r4
  obtain ⟨rfl, rfl, rfl⟩ := trodAll_nil r5
  obtain rfl : args = #[v0, v1, v2, v3, v4, v5] := by cases args; simp_all
  obtain ⟨rfl, rfl⟩ := trodVars_none hV
  obtain ⟨a0, rfl, rfl, rfl, w0⟩ := open_int Try.underlying3 (hval 0 3 v0 rfl rfl) h0
  obtain ⟨a1, rfl, rfl, rfl, w1⟩ := open_int Try.underlying3 (hval 1 3 v1 rfl rfl) h1
  obtain ⟨a2, rfl, rfl, rfl, w2⟩ := open_int Try.underlying3 (hval 2 3 v2 rfl rfl) h2
  obtain ⟨a3, rfl, rfl, rfl, y3⟩ := open_string Try.underlying9 (hval 3 9 v3 rfl rfl) h3
  have w3 : a3.size ≤ 140737488351232 := by
    have z := sized_string hsz (j := 3) (t := 9) rfl rfl
    rw [Array.length_toList] at z
    exact z
  obtain ⟨a4, n4, c4, rfl⟩ := okWide_slice Try.underlying31 (hval 4 31 v4 rfl rfl)
  have k4 := h4
  have lt4 : ∀ x ∈ p4, x.block < W.heap.size := by obtain ⟨m, hm⟩ := k4; exact DataW.trod_lt m _ _ _ hm
  have y4 : n4 * 8 ≤ 140737488351232 := PrintWords.sized_ints hsz (j := 4) (t := 31) rfl rfl Try.underlying31 Try.underlying3 (by kernel_rfl) (by kernel_rfl) h4
  obtain ⟨z4, rfl, hr4, hc4⟩ : ∃ zs : List Int, n4 = zs.length ∧ Kd.C (Kd.int .i64) W a4 zs.length zs ∧ zs.length ≤ c4 := by
    obtain ⟨fuel, hf⟩ := h4
    exact ints_open Try.underlying31 Try.underlying3 (by kernel_rfl) hf
  obtain ⟨a5, n5, c5, rfl⟩ := okWide_slice Try.underlying22 (hval 5 22 v5 rfl rfl)
  have k5 := h5
  have lt5 : ∀ x ∈ p5, x.block < W.heap.size := by obtain ⟨m, hm⟩ := k5; exact DataW.trod_lt m _ _ _ hm
  obtain ⟨z5, rfl, hr5, hc5⟩ : ∃ zs : List S38, n5 = zs.length ∧ Kd.C k38 W a5 zs.length zs ∧ zs.length ≤ c5 := by
    obtain ⟨fuel, hf⟩ := h5
    exact shares_open hf
  clear hA0 hval0 hsz0 hsz
  refine (P.agoralaw07_ShareJoins.calls 700000 a0 a1 a2 a3 a4 c4 z4 a5 c5 z5 true W hr4 hc4 hr5 hc5 (Pure.ShareJoins a0 a1 a2 a3 z4 z5 (by omega))).mono fun e W' ⟨he, bel⟩ => ?_
  subst he
  exact ⟨_, rfl, _, _, _, [], _, [], hW', trodAll_mk1 (shut_bool Try.underlying4 _), (trodAll_cons_mk (shut_int Try.underlying3 w0) (trodAll_cons_mk (shut_int Try.underlying3 w1) (trodAll_cons_mk (shut_int Try.underlying3 w2) (trodAll_cons_mk (shut_string Try.underlying9 y3) (trodAll_cons_mk (Below.trod laidOut (by kernel_rfl) (of_decide_eq_true (by kernel_rfl)) k4 bel lt4) (trodAll_cons_mk (Below.trod laidOut (by kernel_rfl) (of_decide_eq_true (by kernel_rfl)) k5 bel lt5) trodAll_mk0)))))), rfl, bel.frame _, fun h => by cases h⟩
theorem over : Rows.shareJoinsRow.holds Try.pinned (OpenSpec.ofChange Rows.shareJoinsSpec) :=
  OpenClaim.holds_of_wide 4 Try.f4 rfl rfl rfl rfl rfl rfl rfl ⟨rfl, rfl, rfl, rfl, rfl⟩ rfl rfl rfl rfl rfl (by kernel_rfl) Try.func4 (by kernel_rfl)
    (of_decide_eq_true (by kernel_rfl)) (by unfold Func.isWrapper; first | (rw [if_pos (by decide +kernel)]; kernel_rfl) | (rw [if_neg (by decide +kernel)]; exact ⟨rfl, rfl⟩))
    (fun os started H enc _ => lifted os started H enc)
theorem proved : Rows.ShareJoinsSaid := over
#print axioms proved
end Go.Proofs.Ytggmjfonhcinhaa.shareJoins
namespace Go.Proofs.Ytggmjfonhcinhaa
/-- The row, under a short name, for the claim. -/
theorem shareJoins_holds : Rows.ShareJoinsSaid := shareJoins.proved
end Go.Proofs.Ytggmjfonhcinhaa
