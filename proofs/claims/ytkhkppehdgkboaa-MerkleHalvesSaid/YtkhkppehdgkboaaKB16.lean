/- Texts of this claim, merged: what the functions that the law reaches compute, and what that says. -/
import Derived.Lib.ConvBytes
import Derived.Lib.AtoiErrMem
import Derived.ArgAppend
import Derived.Laws.AppendOwn
import Derived.Test.YtkhkppehdgkboaaKB12
section Mark_
namespace Go.Proofs.Ytkhkppehdgkboaa.Mark
open Go.RowKit
set_option linter.unusedVariables false
/-- the value is a slice that begins a block from base on; the block's end may be marked -/
def OwnM (w : World) (base : Nat) (e : TypeId) (v : Value) (xs : List Value) : Prop :=
  ∃ g cap cur fr, v = .slice (some ⟨g, 0, none⟩) xs.length cap ∧ base ≤ g ∧ w.heap[g]? = some (.cells cur e fr) ∧ (fr = (0, 0) ∨ fr = (cur.size, cur.size + 1)) ∧ xs.length ≤ cap ∧ cap ≤ maxLen ∧ cur.size = cap ∧ cur.toList.take xs.length = xs
theorem lt_of_heap {w : World} {g : Nat} {o : Obj} (h : w.heap[g]? = some o) : g < w.heap.size := by
  rcases Nat.lt_or_ge g w.heap.size with h' | h'
  · exact h'
  · simp [Array.getElem?_eq_none h'] at h
theorem OwnM.keep {w w' : World} {base B : Nat} {e : TypeId} {v : Value} {xs : List Value} (h : OwnM w base e v xs) (hb : Below B w w') (hB : w.heap.size ≤ B) : OwnM w' base e v xs := by
  obtain ⟨g, cap, cur, fr, hv, hg, hh, r⟩ := h
  exact ⟨g, cap, cur, fr, hv, hg, (hb.block g (Nat.lt_of_lt_of_le (lt_of_heap hh) hB)).trans hh, r⟩
theorem OwnM.alloc {w : World} {base : Nat} {e : TypeId} {v : Value} {xs : List Value} (h : OwnM w base e v xs) (o : Obj) : OwnM (w.alloc o) base e v xs :=
  h.keep ((Below.refl _ _).alloc (Nat.le_refl _) o) (Nat.le_refl _)
theorem OwnM.drew {w : World} {base : Nat} {e : TypeId} {v : Value} {xs : List Value} (h : OwnM w base e v xs) : OwnM w.drew base e v xs := h
section
variable {P : Program} (w : World)
theorem OwnM.conv (base : Nat) (e : TypeId) (s : ByteArray) (hb : base ≤ w.heap.size) (hs : s.size ≤ maxLen) :
    OwnM (Lib.bytesWorld w e s) base e (.slice (some ⟨w.heap.size, 0, none⟩) s.size (grownCap w s.size 0 e)) (Lib.strCells s) := by
  have hge := grownCap_ge w s.size 0 e
  have hl : (Lib.strCells s).length = s.size := Lib.strCells_length s
  refine ⟨w.heap.size, grownCap w s.size 0 e, _, _, by rw [hl], hb, Lib.bytesWorld_at_new w e s, Or.inr rfl, by rw [hl]; exact hge, grownCap_le_maxLen w _ 0 e hs, ?_, ?_⟩
  · simp only [Lib.bytesCells, Array.size_append, Array.size_map, Array.size_replicate]
    have : s.data.size = s.size := rfl
    omega
  · rw [hl]
    simp only [Lib.bytesCells, Array.toList_append]
    rw [List.take_append_of_le_length (by simp), List.take_of_length_le (by simp)]
    simp [Lib.strCells]
end
end Go.Proofs.Ytkhkppehdgkboaa.Mark
end Mark_
