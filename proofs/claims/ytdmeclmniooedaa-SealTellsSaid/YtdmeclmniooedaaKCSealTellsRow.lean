/- The row of the law agoralaw06_SealTells: for every input the call returns true, and each argument reads behind it as before. -/
import Derived.Test.YtdmeclmniooedaaRows
import Derived.WalkKit
import Derived.ProofKit
import Derived.OpenShut
import Derived.ShutString
import Derived.ChangeOld
import Derived.Below
import Derived.SizedLaws
import Derived.Lib.SmallJoins
import Derived.Test.YtdmeclmniooedaaKC5
import Derived.Test.YtdmeclmniooedaaKC20
import Derived.Test.YtdmeclmniooedaaKC21
import Derived.Test.YtdmeclmniooedaaKC24
import Derived.Test.YtdmeclmniooedaaKCSealTellsF
import Derived.Test.YtdmeclmniooedaaKCSealTellsG
namespace Go.Proofs.Ytdmeclmniooedaa.sealTells
open Go.ChangeShapes Go.WideShapes Go.ChangeAt Go.RowKit Go.Joins
open Go.ChangeMaps (open_string shut_string)
set_option linter.unusedVariables false
set_option linter.unusedSimpArgs false
theorem own : ownKnob Try.prog.godebug = none := by kernel_rfl
theorem lst3 {α : Type} {l : List α} (h : l.length = 3) : ∃ c0 c1 c2, l = [c0, c1, c2] := by
  match l, h with
  | [c0, c1, c2], _ => exact ⟨c0, c1, c2, rfl⟩
theorem lst5 {α : Type} {l : List α} (h : l.length = 5) : ∃ c0 c1 c2 c3 c4, l = [c0, c1, c2, c3, c4] := by
  match l, h with
  | [c0, c1, c2, c3, c4], _ => exact ⟨c0, c1, c2, c3, c4, rfl⟩
theorem lst7 {α : Type} {l : List α} (h : l.length = 7) : ∃ c0 c1 c2 c3 c4 c5 c6, l = [c0, c1, c2, c3, c4, c5, c6] := by
  match l, h with
  | [c0, c1, c2, c3, c4, c5, c6], _ => exact ⟨c0, c1, c2, c3, c4, c5, c6, rfl⟩
theorem lst13 {α : Type} {l : List α} (h : l.length = 13) : ∃ c0 c1 c2 c3 c4 c5 c6 c7 c8 c9 c10 c11 c12, l = [c0, c1, c2, c3, c4, c5, c6, c7, c8, c9, c10, c11, c12] := by
  match l, h with
  | [c0, c1, c2, c3, c4, c5, c6, c7, c8, c9, c10, c11, c12], _ => exact ⟨c0, c1, c2, c3, c4, c5, c6, c7, c8, c9, c10, c11, c12, rfl⟩
theorem cells3 : Try.prog.cellsOf 3 = 1 := by kernel_rfl
theorem cells9 : Try.prog.cellsOf 9 = 1 := by kernel_rfl
theorem cells23 : Try.prog.cellsOf 23 = 3 := by kernel_rfl
theorem cells25 : Try.prog.cellsOf 25 = 5 := by kernel_rfl
theorem cells27 : Try.prog.cellsOf 27 = 13 := by kernel_rfl
theorem open23 {H : Type} {enc : TypeId × Value → H} {w : World} {base : Nat} {spare : Nat → Bool} {held : Bool} {fuel : Nat} {cs : List Value} {x : DataW H × List MemPlace}
    (h : DataW.trod enc Try.prog w base spare held fuel 23 cs = some x) :
    ∃ (b0 : ByteArray) (b1 : ByteArray) (b2 : ByteArray), cs = [.string b0, .string b1, .string b2] ∧ x = (.agg [.lit (.string b0.data.toList), .lit (.string b1.data.toList), .lit (.string b2.data.toList)], []) ∧ b0.size ≤ maxLen ∧ b1.size ≤ maxLen ∧ b2.size ≤ maxLen := by
  obtain ⟨xs, n, _, rfl, hl, hlen, hf⟩ := DataW.trod_struct Try.underlying23 h
  rw [cells23] at hl
  obtain ⟨c0, c1, c2, rfl⟩ := lst3 hl
  obtain ⟨y0, y1, y2, rfl⟩ := lst3 (show xs.length = 3 from hlen)
  have h0 : DataW.trod enc Try.prog w base spare held n 9 [c0] = some y0 := by simpa [cells3, cells9, cells23, cells25, cells27] using hf 0 _ rfl
  obtain ⟨b0, e0, rfl, z0⟩ := DataW.trod_string Try.underlying9 h0
  obtain rfl := (List.cons.inj e0).1
  have h1 : DataW.trod enc Try.prog w base spare held n 9 [c1] = some y1 := by simpa [cells3, cells9, cells23, cells25, cells27] using hf 1 _ rfl
  obtain ⟨b1, e1, rfl, z1⟩ := DataW.trod_string Try.underlying9 h1
  obtain rfl := (List.cons.inj e1).1
  have h2 : DataW.trod enc Try.prog w base spare held n 9 [c2] = some y2 := by simpa [cells3, cells9, cells23, cells25, cells27] using hf 2 _ rfl
  obtain ⟨b2, e2, rfl, z2⟩ := DataW.trod_string Try.underlying9 h2
  obtain rfl := (List.cons.inj e2).1
  exact ⟨b0, b1, b2, rfl, rfl, z0, z1, z2⟩
theorem shut23 {H : Type} {enc : TypeId × Value → H} {w : World} {base : Nat} {spare : Nat → Bool} {held : Bool} (b0 : ByteArray) (b1 : ByteArray) (b2 : ByteArray) (z0 : b0.size ≤ maxLen) (z1 : b1.size ≤ maxLen) (z2 : b2.size ≤ maxLen) :
    ∃ n, DataW.trod enc Try.prog w base spare held n 23 [.string b0, .string b1, .string b2] = some (.agg [.lit (.string b0.data.toList), .lit (.string b1.data.toList), .lit (.string b2.data.toList)], []) := by
  obtain ⟨n0, t0⟩ : ∃ n, DataW.trod enc Try.prog w base spare held n 9 [.string b0] = some (.lit (.string b0.data.toList), []) := ⟨1, by simp [DataW.trod, Try.underlying9, z0]⟩
  obtain ⟨n1, t1⟩ : ∃ n, DataW.trod enc Try.prog w base spare held n 9 [.string b1] = some (.lit (.string b1.data.toList), []) := ⟨1, by simp [DataW.trod, Try.underlying9, z1]⟩
  obtain ⟨n2, t2⟩ : ∃ n, DataW.trod enc Try.prog w base spare held n 9 [.string b2] = some (.lit (.string b2.data.toList), []) := ⟨1, by simp [DataW.trod, Try.underlying9, z2]⟩
  have u0 := DataW.trod_le (show n0 ≤ n0 + n1 + n2 by omega) t0
  have u1 := DataW.trod_le (show n1 ≤ n0 + n1 + n2 by omega) t1
  have u2 := DataW.trod_le (show n2 ≤ n0 + n1 + n2 by omega) t2
  have := Go.ChangeShapes.trod_struct_mk (enc := enc) (w := w) (base := base) (spare := spare) (held := held) (n := n0 + n1 + n2) (cs := [.string b0, .string b1, .string b2]) (xs := [(.lit (.string b0.data.toList), []), (.lit (.string b1.data.toList), []), (.lit (.string b2.data.toList), [])]) Try.underlying23 (by simp [cells3, cells9, cells23, cells25, cells27]) (by simp [cells3, cells9, cells23, cells25, cells27, u0, u1, u2])
  exact ⟨_, by simpa using this⟩
theorem open25 {H : Type} {enc : TypeId × Value → H} {w : World} {base : Nat} {spare : Nat → Bool} {held : Bool} {fuel : Nat} {cs : List Value} {x : DataW H × List MemPlace}
    (h : DataW.trod enc Try.prog w base spare held fuel 25 cs = some x) :
    ∃ (b0 : Int) (b1 : Int) (b2 : ByteArray) (b3 : ByteArray) (b4 : ByteArray), cs = [.int .i64 b0, .int .i64 b1, .string b2, .string b3, .string b4] ∧ x = (.agg [.lit (.int .i64 b0), .lit (.int .i64 b1), .agg [.lit (.string b2.data.toList), .lit (.string b3.data.toList), .lit (.string b4.data.toList)]], []) ∧ (Lit.int .i64 b0).wf = true ∧ (Lit.int .i64 b1).wf = true ∧ b2.size ≤ maxLen ∧ b3.size ≤ maxLen ∧ b4.size ≤ maxLen := by
  obtain ⟨xs, n, _, rfl, hl, hlen, hf⟩ := DataW.trod_struct Try.underlying25 h
  rw [cells25] at hl
  obtain ⟨c0, c1, c2, c3, c4, rfl⟩ := lst5 hl
  obtain ⟨y0, y1, y2, rfl⟩ := lst3 (show xs.length = 3 from hlen)
  have h0 : DataW.trod enc Try.prog w base spare held n 3 [c0] = some y0 := by simpa [cells3, cells9, cells23, cells25, cells27] using hf 0 _ rfl
  obtain ⟨b0, e0, rfl, z0⟩ := DataW.trod_int Try.underlying3 h0
  obtain rfl := (List.cons.inj e0).1
  have h1 : DataW.trod enc Try.prog w base spare held n 3 [c1] = some y1 := by simpa [cells3, cells9, cells23, cells25, cells27] using hf 1 _ rfl
  obtain ⟨b1, e1, rfl, z1⟩ := DataW.trod_int Try.underlying3 h1
  obtain rfl := (List.cons.inj e1).1
  have h2 : DataW.trod enc Try.prog w base spare held n 23 [c2, c3, c4] = some y2 := by simpa [cells3, cells9, cells23, cells25, cells27] using hf 2 _ rfl
  obtain ⟨b2, b3, b4, e2, rfl, z2, z3, z4⟩ := open23 h2
  simp only [List.cons.injEq, and_true] at e2
  obtain ⟨rfl, rfl, rfl⟩ := e2
  exact ⟨b0, b1, b2, b3, b4, rfl, rfl, z0, z1, z2, z3, z4⟩
theorem shut25 {H : Type} {enc : TypeId × Value → H} {w : World} {base : Nat} {spare : Nat → Bool} {held : Bool} (b0 : Int) (b1 : Int) (b2 : ByteArray) (b3 : ByteArray) (b4 : ByteArray) (z0 : (Lit.int .i64 b0).wf = true) (z1 : (Lit.int .i64 b1).wf = true) (z2 : b2.size ≤ maxLen) (z3 : b3.size ≤ maxLen) (z4 : b4.size ≤ maxLen) :
    ∃ n, DataW.trod enc Try.prog w base spare held n 25 [.int .i64 b0, .int .i64 b1, .string b2, .string b3, .string b4] = some (.agg [.lit (.int .i64 b0), .lit (.int .i64 b1), .agg [.lit (.string b2.data.toList), .lit (.string b3.data.toList), .lit (.string b4.data.toList)]], []) := by
  obtain ⟨n0, t0⟩ : ∃ n, DataW.trod enc Try.prog w base spare held n 3 [.int .i64 b0] = some (.lit (.int .i64 b0), []) := ⟨1, by simp [DataW.trod, Try.underlying3, z0]⟩
  obtain ⟨n1, t1⟩ : ∃ n, DataW.trod enc Try.prog w base spare held n 3 [.int .i64 b1] = some (.lit (.int .i64 b1), []) := ⟨1, by simp [DataW.trod, Try.underlying3, z1]⟩
  obtain ⟨n2, t2⟩ : ∃ n, DataW.trod enc Try.prog w base spare held n 23 [.string b2, .string b3, .string b4] = some (.agg [.lit (.string b2.data.toList), .lit (.string b3.data.toList), .lit (.string b4.data.toList)], []) := shut23 b2 b3 b4 z2 z3 z4
  have u0 := DataW.trod_le (show n0 ≤ n0 + n1 + n2 by omega) t0
  have u1 := DataW.trod_le (show n1 ≤ n0 + n1 + n2 by omega) t1
  have u2 := DataW.trod_le (show n2 ≤ n0 + n1 + n2 by omega) t2
  have := Go.ChangeShapes.trod_struct_mk (enc := enc) (w := w) (base := base) (spare := spare) (held := held) (n := n0 + n1 + n2) (cs := [.int .i64 b0, .int .i64 b1, .string b2, .string b3, .string b4]) (xs := [(.lit (.int .i64 b0), []), (.lit (.int .i64 b1), []), (.agg [.lit (.string b2.data.toList), .lit (.string b3.data.toList), .lit (.string b4.data.toList)], [])]) Try.underlying25 (by simp [cells3, cells9, cells23, cells25, cells27]) (by simp [cells3, cells9, cells23, cells25, cells27, u0, u1, u2])
  exact ⟨_, by simpa using this⟩
theorem open27 {H : Type} {enc : TypeId × Value → H} {w : World} {base : Nat} {spare : Nat → Bool} {held : Bool} {fuel : Nat} {cs : List Value} {x : DataW H × List MemPlace}
    (h : DataW.trod enc Try.prog w base spare held fuel 27 cs = some x) :
    ∃ (b0 : ByteArray) (b1 : ByteArray) (b2 : ByteArray) (b3 : ByteArray) (b4 : ByteArray) (b5 : ByteArray) (b6 : Int) (b7 : Int) (b8 : Int) (b9 : Int) (b10 : ByteArray) (b11 : ByteArray) (b12 : ByteArray), cs = [.string b0, .string b1, .string b2, .string b3, .string b4, .string b5, .int .i64 b6, .int .i64 b7, .int .i64 b8, .int .i64 b9, .string b10, .string b11, .string b12] ∧ x = (.agg [.lit (.string b0.data.toList), .lit (.string b1.data.toList), .lit (.string b2.data.toList), .agg [.lit (.string b3.data.toList), .lit (.string b4.data.toList), .lit (.string b5.data.toList)], .lit (.int .i64 b6), .lit (.int .i64 b7), .agg [.lit (.int .i64 b8), .lit (.int .i64 b9), .agg [.lit (.string b10.data.toList), .lit (.string b11.data.toList), .lit (.string b12.data.toList)]]], []) ∧ b0.size ≤ maxLen ∧ b1.size ≤ maxLen ∧ b2.size ≤ maxLen ∧ b3.size ≤ maxLen ∧ b4.size ≤ maxLen ∧ b5.size ≤ maxLen ∧ (Lit.int .i64 b6).wf = true ∧ (Lit.int .i64 b7).wf = true ∧ (Lit.int .i64 b8).wf = true ∧ (Lit.int .i64 b9).wf = true ∧ b10.size ≤ maxLen ∧ b11.size ≤ maxLen ∧ b12.size ≤ maxLen := by
  obtain ⟨xs, n, _, rfl, hl, hlen, hf⟩ := DataW.trod_struct Try.underlying27 h
  rw [cells27] at hl
  obtain ⟨c0, c1, c2, c3, c4, c5, c6, c7, c8, c9, c10, c11, c12, rfl⟩ := lst13 hl
  obtain ⟨y0, y1, y2, y3, y4, y5, y6, rfl⟩ := lst7 (show xs.length = 7 from hlen)
  have h0 : DataW.trod enc Try.prog w base spare held n 9 [c0] = some y0 := by simpa [cells3, cells9, cells23, cells25, cells27] using hf 0 _ rfl
  obtain ⟨b0, e0, rfl, z0⟩ := DataW.trod_string Try.underlying9 h0
  obtain rfl := (List.cons.inj e0).1
  have h1 : DataW.trod enc Try.prog w base spare held n 9 [c1] = some y1 := by simpa [cells3, cells9, cells23, cells25, cells27] using hf 1 _ rfl
  obtain ⟨b1, e1, rfl, z1⟩ := DataW.trod_string Try.underlying9 h1
  obtain rfl := (List.cons.inj e1).1
  have h2 : DataW.trod enc Try.prog w base spare held n 9 [c2] = some y2 := by simpa [cells3, cells9, cells23, cells25, cells27] using hf 2 _ rfl
  obtain ⟨b2, e2, rfl, z2⟩ := DataW.trod_string Try.underlying9 h2
  obtain rfl := (List.cons.inj e2).1
  have h3 : DataW.trod enc Try.prog w base spare held n 23 [c3, c4, c5] = some y3 := by simpa [cells3, cells9, cells23, cells25, cells27] using hf 3 _ rfl
  obtain ⟨b3, b4, b5, e3, rfl, z3, z4, z5⟩ := open23 h3
  simp only [List.cons.injEq, and_true] at e3
  obtain ⟨rfl, rfl, rfl⟩ := e3
  have h4 : DataW.trod enc Try.prog w base spare held n 3 [c6] = some y4 := by simpa [cells3, cells9, cells23, cells25, cells27] using hf 4 _ rfl
  obtain ⟨b6, e4, rfl, z6⟩ := DataW.trod_int Try.underlying3 h4
  obtain rfl := (List.cons.inj e4).1
  have h5 : DataW.trod enc Try.prog w base spare held n 3 [c7] = some y5 := by simpa [cells3, cells9, cells23, cells25, cells27] using hf 5 _ rfl
  obtain ⟨b7, e5, rfl, z7⟩ := DataW.trod_int Try.underlying3 h5
  obtain rfl := (List.cons.inj e5).1
  have h6 : DataW.trod enc Try.prog w base spare held n 25 [c8, c9, c10, c11, c12] = some y6 := by simpa [cells3, cells9, cells23, cells25, cells27] using hf 6 _ rfl
  obtain ⟨b8, b9, b10, b11, b12, e6, rfl, z8, z9, z10, z11, z12⟩ := open25 h6
  simp only [List.cons.injEq, and_true] at e6
  obtain ⟨rfl, rfl, rfl, rfl, rfl⟩ := e6
  exact ⟨b0, b1, b2, b3, b4, b5, b6, b7, b8, b9, b10, b11, b12, rfl, rfl, z0, z1, z2, z3, z4, z5, z6, z7, z8, z9, z10, z11, z12⟩
theorem shut27 {H : Type} {enc : TypeId × Value → H} {w : World} {base : Nat} {spare : Nat → Bool} {held : Bool} (b0 : ByteArray) (b1 : ByteArray) (b2 : ByteArray) (b3 : ByteArray) (b4 : ByteArray) (b5 : ByteArray) (b6 : Int) (b7 : Int) (b8 : Int) (b9 : Int) (b10 : ByteArray) (b11 : ByteArray) (b12 : ByteArray) (z0 : b0.size ≤ maxLen) (z1 : b1.size ≤ maxLen) (z2 : b2.size ≤ maxLen) (z3 : b3.size ≤ maxLen) (z4 : b4.size ≤ maxLen) (z5 : b5.size ≤ maxLen) (z6 : (Lit.int .i64 b6).wf = true) (z7 : (Lit.int .i64 b7).wf = true) (z8 : (Lit.int .i64 b8).wf = true) (z9 : (Lit.int .i64 b9).wf = true) (z10 : b10.size ≤ maxLen) (z11 : b11.size ≤ maxLen) (z12 : b12.size ≤ maxLen) :
    ∃ n, DataW.trod enc Try.prog w base spare held n 27 [.string b0, .string b1, .string b2, .string b3, .string b4, .string b5, .int .i64 b6, .int .i64 b7, .int .i64 b8, .int .i64 b9, .string b10, .string b11, .string b12] = some (.agg [.lit (.string b0.data.toList), .lit (.string b1.data.toList), .lit (.string b2.data.toList), .agg [.lit (.string b3.data.toList), .lit (.string b4.data.toList), .lit (.string b5.data.toList)], .lit (.int .i64 b6), .lit (.int .i64 b7), .agg [.lit (.int .i64 b8), .lit (.int .i64 b9), .agg [.lit (.string b10.data.toList), .lit (.string b11.data.toList), .lit (.string b12.data.toList)]]], []) := by
  obtain ⟨n0, t0⟩ : ∃ n, DataW.trod enc Try.prog w base spare held n 9 [.string b0] = some (.lit (.string b0.data.toList), []) := ⟨1, by simp [DataW.trod, Try.underlying9, z0]⟩
  obtain ⟨n1, t1⟩ : ∃ n, DataW.trod enc Try.prog w base spare held n 9 [.string b1] = some (.lit (.string b1.data.toList), []) := ⟨1, by simp [DataW.trod, Try.underlying9, z1]⟩
  obtain ⟨n2, t2⟩ : ∃ n, DataW.trod enc Try.prog w base spare held n 9 [.string b2] = some (.lit (.string b2.data.toList), []) := ⟨1, by simp [DataW.trod, Try.underlying9, z2]⟩
  obtain ⟨n3, t3⟩ : ∃ n, DataW.trod enc Try.prog w base spare held n 23 [.string b3, .string b4, .string b5] = some (.agg [.lit (.string b3.data.toList), .lit (.string b4.data.toList), .lit (.string b5.data.toList)], []) := shut23 b3 b4 b5 z3 z4 z5
  obtain ⟨n4, t4⟩ : ∃ n, DataW.trod enc Try.prog w base spare held n 3 [.int .i64 b6] = some (.lit (.int .i64 b6), []) := ⟨1, by simp [DataW.trod, Try.underlying3, z6]⟩
  obtain ⟨n5, t5⟩ : ∃ n, DataW.trod enc Try.prog w base spare held n 3 [.int .i64 b7] = some (.lit (.int .i64 b7), []) := ⟨1, by simp [DataW.trod, Try.underlying3, z7]⟩
  obtain ⟨n6, t6⟩ : ∃ n, DataW.trod enc Try.prog w base spare held n 25 [.int .i64 b8, .int .i64 b9, .string b10, .string b11, .string b12] = some (.agg [.lit (.int .i64 b8), .lit (.int .i64 b9), .agg [.lit (.string b10.data.toList), .lit (.string b11.data.toList), .lit (.string b12.data.toList)]], []) := shut25 b8 b9 b10 b11 b12 z8 z9 z10 z11 z12
  have u0 := DataW.trod_le (show n0 ≤ n0 + n1 + n2 + n3 + n4 + n5 + n6 by omega) t0
  have u1 := DataW.trod_le (show n1 ≤ n0 + n1 + n2 + n3 + n4 + n5 + n6 by omega) t1
  have u2 := DataW.trod_le (show n2 ≤ n0 + n1 + n2 + n3 + n4 + n5 + n6 by omega) t2
  have u3 := DataW.trod_le (show n3 ≤ n0 + n1 + n2 + n3 + n4 + n5 + n6 by omega) t3
  have u4 := DataW.trod_le (show n4 ≤ n0 + n1 + n2 + n3 + n4 + n5 + n6 by omega) t4
  have u5 := DataW.trod_le (show n5 ≤ n0 + n1 + n2 + n3 + n4 + n5 + n6 by omega) t5
  have u6 := DataW.trod_le (show n6 ≤ n0 + n1 + n2 + n3 + n4 + n5 + n6 by omega) t6
  have := Go.ChangeShapes.trod_struct_mk (enc := enc) (w := w) (base := base) (spare := spare) (held := held) (n := n0 + n1 + n2 + n3 + n4 + n5 + n6) (cs := [.string b0, .string b1, .string b2, .string b3, .string b4, .string b5, .int .i64 b6, .int .i64 b7, .int .i64 b8, .int .i64 b9, .string b10, .string b11, .string b12]) (xs := [(.lit (.string b0.data.toList), []), (.lit (.string b1.data.toList), []), (.lit (.string b2.data.toList), []), (.agg [.lit (.string b3.data.toList), .lit (.string b4.data.toList), .lit (.string b5.data.toList)], []), (.lit (.int .i64 b6), []), (.lit (.int .i64 b7), []), (.agg [.lit (.int .i64 b8), .lit (.int .i64 b9), .agg [.lit (.string b10.data.toList), .lit (.string b11.data.toList), .lit (.string b12.data.toList)]], [])]) Try.underlying27 (by simp [cells3, cells9, cells23, cells25, cells27]) (by simp [cells3, cells9, cells23, cells25, cells27, u0, u1, u2, u3, u4, u5, u6])
  exact ⟨_, by simpa using this⟩
set_option maxRecDepth 100000 in
theorem lifted (os : Os) (started : os.Started) (H : Type) (enc : TypeId × Value → H) :
    ReturnsInHanded {} Try.checked os 3 .any (Rows.sealTellsSpec.pre6 enc Try.prog Try.f3 Rows.sealTellsRow.domain false) (Rows.sealTellsSpec.post enc Try.prog Try.f3 false true false false) := by
  refine returnsInHanded_of_change_sized (C := Try.checked) own started (by kernel_rfl) Try.func3
    (ChangeSpec.witness6 (enc := enc) (C := Try.checked) false ⟨#[], #[.agg #[.string ByteArray.empty, .string ByteArray.empty, .string ByteArray.empty, .string ByteArray.empty, .string ByteArray.empty, .string ByteArray.empty, .int .i64 0, .int .i64 0, .int .i64 0, .int .i64 0, .string ByteArray.empty, .string ByteArray.empty, .string ByteArray.empty]], []⟩ 8 (by kernel_rfl) (by kernel_rfl) (by kernel_rfl) (by kernel_rfl)) ?_
  intro W base args ds gs before hval0 hW hcnd hsz0 _
  have hsz : (DataW.weightsEach Try.prog (Try.f3.params.toList ++ Rows.sealTellsSpec.plain.varTypes Try.prog) (ds ++ gs)).all (· ≤ reachBytes) = true := hsz0
  have hval : ∀ (j : Nat) t v, Try.f3.params[j]? = some t → args[j]? = some v → Value.okWide Try.prog W .any base t v := hval0
  have hW' := hW
  obtain ⟨p, q, hA0, hV, rfl, hfz, hnd⟩ := hW
  have hA : DataW.TrodAll enc Try.prog W 0 (fun _ => true) true Try.f3.params.toList args.toList ds p := hA0
  rw [Try.params3] at hA hval hsz
  obtain ⟨v0, vs0, d0, ds0, p0, q0, hargs, rfl, rfl, h0, r0⟩ := trodAll_cons hA
  obtain ⟨rfl, rfl, rfl⟩ := trodAll_nil r0
  obtain rfl : args = #[v0] := by cases args; simp_all
  obtain ⟨rfl, rfl⟩ := trodVars_none hV
  obtain ⟨cs0, rfl, hz0⟩ := okWide_struct Try.underlying27 (hval 0 27 v0 rfl rfl)
  obtain ⟨fu0, hf0⟩ := h0
  obtain ⟨a0_0, a0_1, a0_2, a0_3, a0_4, a0_5, a0_6, a0_7, a0_8, a0_9, a0_10, a0_11, a0_12, ecs0, ex0, y0_0, y0_1, y0_2, y0_3, y0_4, y0_5, y0_6, y0_7, y0_8, y0_9, y0_10, y0_11, y0_12⟩ := open27 (show DataW.trod enc Try.prog W 0 (fun _ => true) true fu0 27 cs0.toList = some (d0, p0) from hf0)
  obtain rfl : cs0 = #[.string a0_0, .string a0_1, .string a0_2, .string a0_3, .string a0_4, .string a0_5, .int .i64 a0_6, .int .i64 a0_7, .int .i64 a0_8, .int .i64 a0_9, .string a0_10, .string a0_11, .string a0_12] := Array.toList_inj.1 ecs0
  obtain ⟨rfl, rfl⟩ := Prod.mk.inj ex0
  have w0_0 : a0_0.size ≤ 140737488351232 := by
    have z := of_decide_eq_true (List.all_eq_true.1 hsz _ (DataW.weights_mem_each (j := 0) (t := 27) rfl rfl a0_0.data.toList.length (by simp [DataW.weights, DataW.weightsEach, Try.underlying23, Try.underlying25, Try.underlying27])))
    rw [Array.length_toList] at z
    exact z
  have w0_1 : a0_1.size ≤ 140737488351232 := by
    have z := of_decide_eq_true (List.all_eq_true.1 hsz _ (DataW.weights_mem_each (j := 0) (t := 27) rfl rfl a0_1.data.toList.length (by simp [DataW.weights, DataW.weightsEach, Try.underlying23, Try.underlying25, Try.underlying27])))
    rw [Array.length_toList] at z
    exact z
  have w0_2 : a0_2.size ≤ 140737488351232 := by
    have z := of_decide_eq_true (List.all_eq_true.1 hsz _ (DataW.weights_mem_each (j := 0) (t := 27) rfl rfl a0_2.data.toList.length (by simp [DataW.weights, DataW.weightsEach, Try.underlying23, Try.underlying25, Try.underlying27])))
    rw [Array.length_toList] at z
    exact z
  have w0_3 : a0_3.size ≤ 140737488351232 := by
    have z := of_decide_eq_true (List.all_eq_true.1 hsz _ (DataW.weights_mem_each (j := 0) (t := 27) rfl rfl a0_3.data.toList.length (by simp [DataW.weights, DataW.weightsEach, Try.underlying23, Try.underlying25, Try.underlying27])))
    rw [Array.length_toList] at z
    exact z
  have w0_4 : a0_4.size ≤ 140737488351232 := by
    have z := of_decide_eq_true (List.all_eq_true.1 hsz _ (DataW.weights_mem_each (j := 0) (t := 27) rfl rfl a0_4.data.toList.length (by simp [DataW.weights, DataW.weightsEach, Try.underlying23, Try.underlying25, Try.underlying27])))
    rw [Array.length_toList] at z
    exact z
  have w0_5 : a0_5.size ≤ 140737488351232 := by
    have z := of_decide_eq_true (List.all_eq_true.1 hsz _ (DataW.weights_mem_each (j := 0) (t := 27) rfl rfl a0_5.data.toList.length (by simp [DataW.weights, DataW.weightsEach, Try.underlying23, Try.underlying25, Try.underlying27])))
    rw [Array.length_toList] at z
    exact z
  have w0_6 := y0_6
  have w0_7 := y0_7
  have w0_8 := y0_8
  have w0_9 := y0_9
  have w0_10 : a0_10.size ≤ 140737488351232 := by
    have z := of_decide_eq_true (List.all_eq_true.1 hsz _ (DataW.weights_mem_each (j := 0) (t := 27) rfl rfl a0_10.data.toList.length (by simp [DataW.weights, DataW.weightsEach, Try.underlying23, Try.underlying25, Try.underlying27])))
    rw [Array.length_toList] at z
    exact z
  have w0_11 : a0_11.size ≤ 140737488351232 := by
    have z := of_decide_eq_true (List.all_eq_true.1 hsz _ (DataW.weights_mem_each (j := 0) (t := 27) rfl rfl a0_11.data.toList.length (by simp [DataW.weights, DataW.weightsEach, Try.underlying23, Try.underlying25, Try.underlying27])))
    rw [Array.length_toList] at z
    exact z
  have w0_12 : a0_12.size ≤ 140737488351232 := by
    have z := of_decide_eq_true (List.all_eq_true.1 hsz _ (DataW.weights_mem_each (j := 0) (t := 27) rfl rfl a0_12.data.toList.length (by simp [DataW.weights, DataW.weightsEach, Try.underlying23, Try.underlying25, Try.underlying27])))
    rw [Array.length_toList] at z
    exact z
  clear hA0 hval0 hsz0 hsz
  refine (P.agoralaw06_SealTells.calls 3000 a0_0 a0_1 a0_2 a0_3 a0_4 a0_5 a0_6 a0_7 a0_8 a0_9 a0_10 a0_11 a0_12 true W (Pure.SealTells a0_0 a0_1 a0_2 a0_3 a0_4 a0_5 a0_6 a0_7 a0_8 a0_9 a0_10 a0_11 a0_12 w0_6 w0_7 w0_8 w0_9 w0_0 w0_1 w0_2 w0_3 w0_4 w0_5 w0_10 w0_11 w0_12)).mono fun e W' ⟨he, bel⟩ => ?_
  subst he
  exact ⟨_, rfl, _, _, _, [], _, [], hW', trodAll_mk1 (shut_bool Try.underlying4 _), (trodAll_cons_mk (show DataW.Trod _ _ _ _ _ _ 27 (.agg #[.string a0_0, .string a0_1, .string a0_2, .string a0_3, .string a0_4, .string a0_5, .int .i64 a0_6, .int .i64 a0_7, .int .i64 a0_8, .int .i64 a0_9, .string a0_10, .string a0_11, .string a0_12]) (.agg [.lit (.string a0_0.data.toList), .lit (.string a0_1.data.toList), .lit (.string a0_2.data.toList), .agg [.lit (.string a0_3.data.toList), .lit (.string a0_4.data.toList), .lit (.string a0_5.data.toList)], .lit (.int .i64 a0_6), .lit (.int .i64 a0_7), .agg [.lit (.int .i64 a0_8), .lit (.int .i64 a0_9), .agg [.lit (.string a0_10.data.toList), .lit (.string a0_11.data.toList), .lit (.string a0_12.data.toList)]]]) [] from shut27 a0_0 a0_1 a0_2 a0_3 a0_4 a0_5 a0_6 a0_7 a0_8 a0_9 a0_10 a0_11 a0_12 y0_0 y0_1 y0_2 y0_3 y0_4 y0_5 y0_6 y0_7 y0_8 y0_9 y0_10 y0_11 y0_12) trodAll_mk0), rfl, bel.frame _, fun h => by cases h⟩
theorem over : Rows.sealTellsRow.holds Try.pinned (OpenSpec.ofChange Rows.sealTellsSpec) :=
  OpenClaim.holds_of_wide 3 Try.f3 rfl rfl rfl rfl rfl rfl rfl ⟨rfl, rfl, rfl, rfl, rfl⟩ rfl rfl rfl rfl rfl (by kernel_rfl) Try.func3 (by kernel_rfl)
    (of_decide_eq_true (by kernel_rfl)) (by unfold Func.isWrapper; first | (rw [if_pos (by decide +kernel)]; kernel_rfl) | (rw [if_neg (by decide +kernel)]; exact ⟨rfl, rfl⟩))
    (fun os started H enc _ => lifted os started H enc)
theorem proved : Rows.SealTellsSaid := over
#print axioms proved
end Go.Proofs.Ytdmeclmniooedaa.sealTells
namespace Go.Proofs.Ytdmeclmniooedaa
/-- The row, under a short name, for the claim. -/
theorem sealTells_holds : Rows.SealTellsSaid := sealTells.proved
end Go.Proofs.Ytdmeclmniooedaa
