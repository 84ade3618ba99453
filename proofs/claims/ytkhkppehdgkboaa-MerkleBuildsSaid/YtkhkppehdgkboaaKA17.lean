/- Texts of this claim, merged: what the functions that the law reaches compute, and what that says. -/
import Derived.Lib.ConvBytes
import Derived.Lib.AtoiErrMem
import Derived.ArgAppend
import Derived.Laws.AppendOwn
import Derived.Test.YtkhkppehdgkboaaKA12
section Mark_
namespace Go.Proofs.Ytkhkppehdgkboaa.Mark
open Go.RowKit
set_option linter.unusedVariables false
/-- the value is a slice that begins a block from base on; the block's end may be marked -/
def OwnM (w : World) (base : Nat) (e : TypeId) (v : Value) (xs : List Value) : Prop :=
  ∃ g cap cur fr, v = .slice (some ⟨g, 0, none⟩) xs.length cap ∧ base ≤ g ∧ w.heap[g]? = some (.cells cur e fr) ∧ (fr = (0, 0) ∨ fr = (cur.size, cur.size + 1)) ∧ xs.length ≤ cap ∧ cap ≤ maxLen ∧ cur.size = cap ∧ cur.toList.take xs.length = xs
theorem lt_of_heap {w : World} {g : Nat} {o : Obj} (h : w.heap[g]? = some o) : g < w.heap.size := by
  rcases Nat.lt_or_ge g w.heap.size with h' | h'
  · exact h'
  · simp [Array.getElem?_eq_none h'] at h
theorem frozen_mark {w : World} {g : Nat} {cur : Array Value} {e : TypeId} {fr : Nat × Nat} (h : w.heap[g]? = some (.cells cur e fr)) (hf : fr = (0, 0) ∨ fr = (cur.size, cur.size + 1)) (j : Nat) (hj : j < cur.size) : w.frozen? ⟨g, j, none⟩ = false := by
  simp only [World.frozen?, h]
  rcases hf with rfl | rfl
  · simp
  · simp; omega
theorem set_fr {w : World} {b i : Nat} {cs : Array Value} {T : TypeId} {fr : Nat × Nat} (hb : w.heap[b]? = some (.cells cs T fr)) (v : Value) :
    (w.setCell ⟨b, i, none⟩ v).heap[b]? = some (.cells (cs.setIfInBounds i v) T fr) := by
  rw [setCell_eq_setRow w b i cs T fr v hb]
  exact setRow_heap w b cs _ T fr hb
theorem OwnM.keep {w w' : World} {base B : Nat} {e : TypeId} {v : Value} {xs : List Value} (h : OwnM w base e v xs) (hb : Below B w w') (hB : w.heap.size ≤ B) : OwnM w' base e v xs := by
  obtain ⟨g, cap, cur, fr, hv, hg, hh, r⟩ := h
  exact ⟨g, cap, cur, fr, hv, hg, (hb.block g (Nat.lt_of_lt_of_le (lt_of_heap hh) hB)).trans hh, r⟩
theorem OwnM.alloc {w : World} {base : Nat} {e : TypeId} {v : Value} {xs : List Value} (h : OwnM w base e v xs) (o : Obj) : OwnM (w.alloc o) base e v xs :=
  h.keep ((Below.refl _ _).alloc (Nat.le_refl _) o) (Nat.le_refl _)
theorem OwnM.drew {w : World} {base : Nat} {e : TypeId} {v : Value} {xs : List Value} (h : OwnM w base e v xs) : OwnM w.drew base e v xs := h
section
variable {P : Program} (w : World)
/-- append of one value -/
theorem run_append_mark (base : Nat) (t ty e : TypeId) (i : TypeInfo) (z : Value) (ht : P.underlying t = some (.slice e)) (hi : P.info? e = some i) (hz : i.zero = some z) (hsize : i.size = 1) (hby : i.bytes = 1) (hzs : z.cells.size = 1)
    (v : Value) (xs : List Value) (hown : OwnM w base e v xs) (a : Addr) (c : Nat) (u : Value) (hu : w.cell? a = some u) (ha : a.add 0 = a) (h1 : u.oneCell' = true) (hlen : xs.length + 1 ≤ 140737488355328) (hbase : base ≤ w.heap.size) :
    ∃ v' w', (Builtin.append_ #[t, t] ty #[v, .slice (some a) 1 c]).run P w = .ok v' w' ∧ OwnM w' base e v' (xs ++ [u]) ∧ Below base w w' := by
  obtain ⟨g, cap, cur, fr, rfl, hg, hh, hfr, hle, hcap, hcs, htake⟩ := hown
  have hnews : ∀ j q, [u][j]? = some q → w.cell? (a.add j) = some q := by
    intro j q hj
    rcases j with _ | j
    · simp at hj; subst hj; rw [ha]; exact hu
    · simp at hj
  have hgl := lt_of_heap hh
  by_cases hroom : xs.length + 1 ≤ cap
  · have hcell : ∀ j, j < [u].length → (w.cell? ⟨g, 0 + xs.length * i.size + j, none⟩).isSome = true := by
      intro j hj
      have : j = 0 := by simp at hj; exact hj
      subst this
      rw [hsize, cell_of_row w g _ cur e fr hh]
      have : 0 + xs.length * 1 + 0 < cur.size := by omega
      rw [Array.getElem?_eq_getElem this]; rfl
    have hfz : ∀ j, j < [u].length → w.frozen? ⟨g, 0 + xs.length * i.size + j, none⟩ = false := by
      intro j hj
      have : j = 0 := by simp at hj; exact hj
      subst this
      rw [hsize]
      exact frozen_mark hh hfr _ (by omega)
    have hr := run_append_room_cells (P := P) (w := w) t ty e i ht hi g 0 xs.length cap a 1 c [u] (by rw [hsize]; rfl) hnews (by simpa using h1) hroom hcell hfz
    refine ⟨_, _, hr, ?_, ?_⟩
    · rw [hsize, Nat.mul_one, Nat.zero_add]
      refine ⟨g, cap, cur.setIfInBounds xs.length u, fr, by rw [List.length_append]; rfl, hg, set_fr hh u, ?_, by rw [List.length_append]; exact hroom, hcap, by rw [Array.size_setIfInBounds]; exact hcs, ?_⟩
      · rw [Array.size_setIfInBounds]; exact hfr
      · rw [Array.toList_setIfInBounds, List.length_append, List.length_cons, List.length_nil]
        have hl : xs.length < cur.toList.length := by have := Array.length_toList (xs := cur); omega
        rw [List.take_add_one, List.take_set_of_le (Nat.le_refl _), htake, List.getElem?_set_self hl]
        rfl
    · rw [hsize, Nat.mul_one, Nat.zero_add]
      exact (Below.refl base w).setCell (p := ⟨g, xs.length, none⟩) hg u
  · have holds : ∀ j q, xs[j]? = some q → w.cell? ((⟨g, 0, none⟩ : Addr).add j) = some q := by
      intro j q hj
      have hadd : (⟨g, 0, none⟩ : Addr).add j = ⟨g, j, none⟩ := by unfold Addr.add; split <;> simp_all
      rw [hadd, cell_of_row w g j cur e fr hh]
      rw [← htake, List.getElem?_take] at hj
      split at hj
      · simpa using hj
      · cases hj
    have hr := run_append_grow (P := P) w t ty e i z ht hi hz ⟨g, 0, none⟩ xs.length cap xs (by rw [hsize, Nat.mul_one]) holds a 1 c [u] (by rw [hsize]; rfl) hnews (by omega) (by omega) (growslice_fits (by omega) (by rw [hby]; omega))
    have hge := grownCap_ge w (xs.length + 1) cap e
    refine ⟨_, _, hr, ?_, ?_⟩
    · refine ⟨w.heap.size, _, _, (0, 0), by rw [List.length_append]; rfl, hbase, heap_alloc_new w.drew _, Or.inl rfl, by rw [List.length_append]; exact hge, grownCap_le_maxLen w _ cap e (by unfold maxLen; omega), ?_, ?_⟩
      · simp only [Array.size_append, List.size_toArray, size_zeroCells, hzs, List.length_cons, List.length_nil]; omega
      · simp only [Array.toList_append, List.append_assoc]
        rw [← List.append_assoc]
        exact List.take_left
    · exact ((Below.refl base w).drew).alloc (w := w.drew) hbase _
theorem wpList_append_mark {ops : Array Oper} {rest : List Oper} {o : Oper} {a : Act} {Q : Exit → Act → World → Prop} (hgd : o.guard = none) (s x : Operand) (t : TypeId)
    (ho : o.op = .call { callee := .builtin .append, args := #[s, x], argTypes := #[t, t] })
    (base : Nat) (e : TypeId) (i : TypeInfo) (z : Value) (ht : P.underlying t = some (.slice e)) (hi : P.info? e = some i) (hz : i.zero = some z) (hsize : i.size = 1) (hby : i.bytes = 1) (hzs : z.cells.size = 1)
    (v : Value) (xs : List Value) (hs : a.eval s = v) (hown : OwnM w base e v xs) (ad : Addr) (c : Nat) (u : Value) (hx : a.eval x = .slice (some ad) 1 c) (hu : w.cell? ad = some u) (ha : ad.add 0 = ad) (h1 : u.oneCell' = true) (hlen : xs.length + 1 ≤ 140737488355328) (hbase : base ≤ w.heap.size)
    (h : ∀ v' w', OwnM w' base e v' (xs ++ [u]) → Below base w w' → wpList P ops Q rest (a.put o.dst v') w') : wpList P ops Q (o :: rest) a w := by
  refine wpList_plain hgd fun K hK => ?_
  obtain ⟨v', w', hr, h2, h3⟩ := run_append_mark (P := P) w base t o.type e i z ht hi hz hsize hby hzs v xs hown ad c u hu ha h1 hlen hbase
  unfold Oper.wp execOp
  simp only [ho, resolve, invoke, builtin, Sem.run_bind, Sem.run_pure, Result.andThen_ok, List.map_toArray, List.map_cons, List.map_nil, hs, hx, hr]
  exact hK _ _ (h v' w' h2 h3)
theorem OwnM.conv (base : Nat) (e : TypeId) (s : ByteArray) (hb : base ≤ w.heap.size) (hs : s.size ≤ maxLen) :
    OwnM (Lib.bytesWorld w e s) base e (.slice (some ⟨w.heap.size, 0, none⟩) s.size (grownCap w s.size 0 e)) (Lib.strCells s) := by
  have hge := grownCap_ge w s.size 0 e
  have hl : (Lib.strCells s).length = s.size := Lib.strCells_length s
  refine ⟨w.heap.size, grownCap w s.size 0 e, _, _, by rw [hl], hb, Lib.bytesWorld_at_new w e s, Or.inr rfl, by rw [hl]; exact hge, grownCap_le_maxLen w _ 0 e hs, ?_, ?_⟩
  · simp only [Lib.bytesCells, Array.size_append, Array.size_map, Array.size_replicate]
    have : s.data.size = s.size := rfl
    omega
  · rw [hl]
    simp only [Lib.bytesCells, Array.toList_append]
    rw [List.take_append_of_le_length (by simp), List.take_of_length_le (by simp)]
    simp [Lib.strCells]
end
end Go.Proofs.Ytkhkppehdgkboaa.Mark
end Mark_
