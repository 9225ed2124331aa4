/- Engine, part 7: loads and stores. No condition. -/
import Derived.Test.YtghipbccmngkpaaE6
namespace Go.Eng

theorem add_none (b o n : Nat) : (⟨b, o, none⟩ : Addr).add n = ⟨b, o + n, none⟩ := by
  unfold Addr.add; split
  · subst_vars; rfl
  · rfl

theorem wput_wput (w : World) (b : Nat) (x y : Obj) : wput (wput w b x) b y = wput w b y := by
  simp [wput]
theorem wput_self (w : World) (b : Nat) (x : Obj) (h : w.heap[b]? = some x) : wput w b x = w := by
  have : w.heap.setIfInBounds b x = w.heap := by
    apply Array.ext_getElem?
    intro i
    rw [Array.getElem?_setIfInBounds]
    split
    · subst_vars
      split
      · exact h.symm
      · rename_i hlt; rw [Array.getElem?_eq_none (by omega)]
    · rfl
  simp [wput, this]

theorem setCell_wput (w : World) (b o : Nat) (v : Value) (arr : Array Value) (e : TypeId) (fz : Nat × Nat) (h : w.heap[b]? = some (.cells arr e fz)) :
    w.setCell ⟨b, o, none⟩ v = wput w b (.cells (arr.setIfInBounds o v) e fz) := by
  have hb : b < w.heap.size := by
    rcases Nat.lt_or_ge b w.heap.size with h1 | h1
    · exact h1
    · rw [Array.getElem?_eq_none h1] at h; cases h
  unfold World.setCell wput
  congr 1
  apply Array.ext_getElem?
  intro i
  rw [Array.getElem?_modify, Array.getElem?_setIfInBounds]
  by_cases e : b = i
  · subst e; rw [if_pos rfl, if_pos rfl, h, if_pos hb]; rfl
  · rw [if_neg e, if_neg e]

/-- An array, written over from a place on. -/
def arrSet (arr : Array Value) (o : Nat) : List Value → Array Value
  | [] => arr
  | v :: vs => arrSet (arr.setIfInBounds o v) (o + 1) vs
theorem arrSet_size (vs : List Value) : ∀ (arr : Array Value) (o : Nat), (arrSet arr o vs).size = arr.size := by
  induction vs with
  | nil => intro arr o; rfl
  | cons v vs ih => intro arr o; simp [arrSet, ih]
theorem arrSet_toList (vs : List Value) : ∀ (arr : Array Value) (o : Nat), o + vs.length ≤ arr.size → (arrSet arr o vs).toList = arr.toList.take o ++ vs ++ arr.toList.drop (o + vs.length) := by
  induction vs with
  | nil => intro arr o h; simp [arrSet]
  | cons v vs ih =>
    intro arr o h
    simp only [List.length_cons] at h
    rw [arrSet, ih _ _ (by simp; omega)]
    have hlt : o < arr.toList.length := by rw [Array.length_toList]; omega
    rw [Array.toList_setIfInBounds]
    have e1 : (arr.toList.set o v).take (o + 1) = arr.toList.take o ++ [v] := by
      rw [List.take_set, List.set_eq_take_append_cons_drop]
      simp [List.take_take]; omega
    rw [e1]
    simp only [List.append_assoc, List.singleton_append, List.length_cons]
    rw [List.drop_set_of_lt (by omega)]
    rw [show o + 1 + vs.length = o + (vs.length + 1) from by omega]

theorem run_storeCells {P : Program} (e : TypeId) (fz : Nat × Nat) (b o : Nat) : ∀ (vs : List Value) (i : Nat) (w : World) (arr : Array Value), w.heap[b]? = some (.cells arr e fz) → o + i + vs.length ≤ arr.size → (∀ v ∈ vs, oneV v) →
    (∀ k, k < arr.size → ¬ (fz.1 ≤ k ∧ k < fz.2)) → (storeCells ⟨b, o, none⟩ vs i).run P w = .ok () (wput w b (.cells (arrSet arr (o + i) vs) e fz)) := by
  intro vs
  induction vs with
  | nil => intro i w arr h _ _ _; simp [storeCells, arrSet, wput_self w b _ h, Sem.run_pure]
  | cons v vs ih =>
    intro i w arr h hl h1 hf
    simp only [List.length_cons] at hl
    have hb : b < w.heap.size := by
      rcases Nat.lt_or_ge b w.heap.size with h1 | h1
      · exact h1
      · rw [Array.getElem?_eq_none h1] at h; cases h
    have hc : w.cell? ⟨b, o + i, none⟩ = some arr[o + i] := by
      simp [World.cell?, h, Array.getElem?_eq_getElem (show o + i < arr.size by omega)]
    have hz : w.frozen? ⟨b, o + i, none⟩ = false := by
      simp only [World.frozen?, h]
      rw [Bool.eq_false_iff]; intro hh
      simp only [Bool.and_eq_true, decide_eq_true_eq] at hh
      exact hf (o + i) (by omega) hh
    have hst : (store (⟨b, o + i, none⟩ : Addr) v).run P w = .ok () (w.setCell ⟨b, o + i, none⟩ v) := by
      have hv := h1 v (List.mem_cons_self ..)
      cases v <;> first | exact hv.elim | simp [store, Sem.run, hc, hz]
    have h' : (wput w b (.cells (arr.setIfInBounds (o + i) v) e fz)).heap[b]? = some (.cells (arr.setIfInBounds (o + i) v) e fz) := wput_same _ _ _ hb
    rw [storeCells, Sem.run_bind, add_none, hst, setCell_wput w b _ v arr e fz h]
    simp only [Result.andThen]
    rw [ih (i + 1) _ _ h' (by simp; omega) (fun u hu => h1 u (List.mem_cons_of_mem _ hu)) (by simpa using hf), wput_wput, arrSet, show o + (i + 1) = o + i + 1 from by omega]

section
variable {R : Ren} {H : AH} {w : World} {A b d c : Nat} {l : List AV} {e : TypeId} {sz : Nat} {g : Bool}

theorem Rel.cellsAt (h : Rel R H w) (hA : H.h.get A = some (.cells l e sz g)) (hR : R A b d c) : ∃ (arr : Array Value) (fz : Nat × Nat) (pre l' spare : List Value), w.heap[b]? = some (.cells arr e fz) ∧ arr.toList = pre ++ (l' ++ spare) ∧ pre.length = d ∧ VRL R l l' ∧
      (g = false → spare = []) ∧ (g = true → l'.length + spare.length = c * sz) ∧ (∀ i, i < arr.size → ¬ (fz.1 ≤ i ∧ i < fz.2)) := h.obj _ _ _ _ _ hR hA

theorem Rel.live (hA : H.h.get A = some (.cells l e sz g)) : Live H A := ⟨_, hA, trivial⟩

theorem Rel.cell (h : Rel R H w) (hA : H.h.get A = some (.cells l e sz g)) (hR : R A b d c) {o : Nat} {x : AV} (hx : l[o]? = some x) : ∃ v, w.cell? ⟨b, d + o, none⟩ = some v ∧ VR R x v := by
  obtain ⟨arr, fz, pre, l', spare, h1, h2, h3, h4, _⟩ := h.cellsAt hA hR
  obtain ⟨v, hv, hxv⟩ := VRL.get l l' h4 o x hx
  refine ⟨v, ?_, hxv⟩
  simp only [World.cell?, h1, Option.isSome_none, Bool.false_eq_true, if_false]
  have hlt : o < l'.length := (List.getElem?_eq_some_iff.1 hv).1
  rw [← Array.getElem?_toList, h2, List.getElem?_append_right (by omega), show d + o - pre.length = o from by omega, List.getElem?_append_left hlt]
  exact hv

theorem Rel.loads (h : Rel R H w) (hA : H.h.get A = some (.cells l e sz g)) (hR : R A b d c) {P : Program} {o n : Nat} {r : List AV} (hr : subN l o n = some r) :
    ∃ vs : List Value, (loadCells ⟨b, d + o, none⟩ n).run P w = .ok vs.toArray w ∧ VRL R r vs ∧ vs.length = n := by
  obtain ⟨hr1, hr2⟩ := subN_eq _ _ _ _ hr
  obtain ⟨arr, fz, pre, l', spare, h1, h2, h3, h4, _⟩ := h.cellsAt hA hR
  have hll := VRL.length l l' h4
  have hvr : VRL R r ((l'.drop o).take n) := by rw [hr1]; exact (h4.drop o).take n
  have hlen : ((l'.drop o).take n).length = n := by
    rw [List.length_take, List.length_drop]; omega
  refine ⟨(l'.drop o).take n, ?_, hvr, hlen⟩
  have hl := run_loadCells_list (P := P) w ⟨b, d + o, none⟩ ((l'.drop o).take n) (fun j v hj => by
    have hjl := (List.getElem?_eq_some_iff.1 hj).1
    rw [add_none]
    simp only [World.cell?, h1, Option.isSome_none, Bool.false_eq_true, if_false]
    rw [List.getElem?_take_of_lt (by omega), List.getElem?_drop] at hj
    have hlt : o + j < l'.length := (List.getElem?_eq_some_iff.1 hj).1
    rw [← Array.getElem?_toList, h2, List.getElem?_append_right (by omega), show d + o + j - pre.length = o + j from by omega, List.getElem?_append_left hlt]
    exact hj)
  rw [hlen] at hl
  exact hl

/-- Cells written over on both sides. -/
theorem Rel.stores (h : Rel R H w) (hA : H.h.get A = some (.cells l e sz g)) (hR : R A b d c) {P : Program} {o : Nat} {new r : List AV} {vs : List Value} (hs : setAt l o new = some r) (hv : VRL R new vs) (hc : allCells new = true)
    {t' : T AObj} (ht : T.set 40 H.h A (.cells r e sz g) = some t') :
    ∃ w', (storeCells ⟨b, d + o, none⟩ vs).run P w = .ok () w' ∧ Rel R ⟨t', H.next⟩ w' ∧ Ext R H w R ⟨t', H.next⟩ w' := by
  obtain ⟨hr, hle⟩ := setAt_eq _ _ _ _ hs
  obtain ⟨arr, fz, pre, l', spare, h1, h2, h3, h4, h5, h6, h7⟩ := h.cellsAt hA hR
  have hll := VRL.length l l' h4
  have hvl := VRL.length new vs hv
  have hal : arr.size = d + l'.length + spare.length := by
    have := congrArg List.length h2
    simp at this; omega
  have hrun := run_storeCells (P := P) e fz b (d + o) vs 0 w arr h1 (by omega) (allCells_ok hv hc) h7
  refine ⟨_, hrun, ?_, Ext.put hR ht⟩
  refine h.put hR (Rel.live hA) ht ?_
  have hts : (arrSet arr (d + o + 0) vs).toList = pre ++ ((l'.take o ++ vs ++ l'.drop (o + vs.length)) ++ spare) := by
    rw [arrSet_toList _ _ _ (by omega), h2]
    have e1 : (pre ++ (l' ++ spare)).take (d + o + 0) = pre ++ l'.take o := by
      rw [List.take_append, List.take_of_length_le (by omega), List.take_append]
      rw [show d + o + 0 - pre.length = o from by omega]
      rw [show o - l'.length = 0 from by omega]; simp
    have e2 : (pre ++ (l' ++ spare)).drop (d + o + 0 + vs.length) = l'.drop (o + vs.length) ++ spare := by
      rw [List.drop_append, List.drop_eq_nil_of_le (by omega), List.drop_append]
      rw [show d + o + 0 + vs.length - pre.length = o + vs.length from by omega]
      rw [show o + vs.length - l'.length = 0 from by omega]; simp
    rw [e1, e2]; simp
  refine ⟨arrSet arr (d + o + 0) vs, fz, pre, l'.take o ++ vs ++ l'.drop (o + vs.length), spare, rfl, hts, h3, ?_, h5, ?_, ?_⟩
  · rw [hr]
    have hdr : VRL R (l.drop (o + new.length)) (l'.drop (o + vs.length)) := by rw [hvl]; exact h4.drop _
    exact ((h4.take o).append hv).append hdr
  · intro hg
    have := h6 hg
    rw [← this]; simp; omega
  · intro i hi; rw [arrSet_size] at hi; exact h7 i hi
end
end Go.Eng
