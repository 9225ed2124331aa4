/- Engine, part 15: stores, appends and copies, all together. No condition. -/
import Derived.Test.YtghipbccmngkpaaE14
namespace Go.Eng

theorem Rel.heap {R : Ren} {H : AH} {w w' : World} (h : Rel R H w) (e : w'.heap = w.heap) : Rel R H w' :=
  ⟨h.fn, h.inj, fun A b d c o r ho => by rw [e]; exact h.obj A b d c o r ho, fun A b d c r => by rw [e]; exact h.lt A b d c r⟩

theorem VRL.take_of_le {R : Ren} {xs : List AV} {l : List Value} (h : VRL R xs l) (n : Nat) (hn : xs.length ≤ n) : VRL R (xs.take n) l := by rw [List.take_of_length_le hn]; exact h

theorem takeN_some : ∀ (n : Nat) (l : List AV), n ≤ l.length → takeN n l = some (l.take n)
  | 0, l, _ => by simp [takeN]
  | n + 1, [], hl => by simp at hl
  | n + 1, x :: l, hl => by simp only [takeN, takeN_some n l (by simpa using hl)]; rfl
theorem subN_some : ∀ (l : List AV) (o n : Nat), n = 0 ∨ o + n ≤ l.length → subN l o n = some ((l.drop o).take n)
  | l, 0, n, hn => by
    have : subN l 0 n = takeN n l := by cases l <;> rfl
    rw [this, takeN_some n l (by omega)]; simp
  | [], o + 1, n, hn => by
    have : n = 0 := by simp at hn; omega
    subst this; simp [subN]
  | x :: l, o + 1, n, hn => by
    simp only [subN]
    rw [subN_some l o n (by simp at hn; omega)]; simp

theorem cell_heap {w w' : World} (e : w'.heap = w.heap) (a : Addr) : w'.cell? a = w.cell? a := by simp only [World.cell?, e]

theorem Rel.loadsW {R : Ren} {H : AH} {w : World} {A b d c : Nat} {l : List AV} {e : TypeId} {sz : Nat} {g : Bool} (h : Rel R H w) (hA : H.h.get A = some (.cells l e sz g)) (hR : R A b d c) {P : Program} {o n : Nat} {r : List AV} (hr : subN l o n = some r) :
    ∃ vs : List Value, (∀ w' : World, w'.heap = w.heap → (loadCells ⟨b, d + o, none⟩ n).run P w' = .ok vs.toArray w') ∧ VRL R r vs := by
  obtain ⟨hr1, hr2⟩ := subN_eq _ _ _ _ hr
  obtain ⟨arr, fz, pre, l', spare, h1, h2, h3, h4, _⟩ := h.cellsAt hA hR
  have hll := VRL.length l l' h4
  have hvr : VRL R r ((l'.drop o).take n) := by rw [hr1]; exact (h4.drop o).take n
  have hlen : ((l'.drop o).take n).length = n := by
    rw [List.length_take, List.length_drop]; omega
  refine ⟨(l'.drop o).take n, fun w' hw => ?_, hvr⟩
  have hl := run_loadCells_list (P := P) w' ⟨b, d + o, none⟩ ((l'.drop o).take n) (fun j v hj => by
    have hjl := (List.getElem?_eq_some_iff.1 hj).1
    rw [add_none, cell_heap hw]
    simp only [World.cell?, h1, Option.isSome_none, Bool.false_eq_true, if_false]
    rw [List.getElem?_take_of_lt (by omega), List.getElem?_drop] at hj
    have hlt : o + j < l'.length := (List.getElem?_eq_some_iff.1 hj).1
    rw [← Array.getElem?_toList, h2, List.getElem?_append_right (by omega), show d + o + j - pre.length = o + j from by omega, List.getElem?_append_left hlt]
    exact hj)
  rw [hlen] at hl
  exact hl

section
variable {P : Program} {X : Cx} (hX : Ok P X) {R : Ren} {H : AH} {w : World} (hL : Rel R H w)

include hL in
theorem srcOf_ok {sz n : Nat} {x : AV} {new : List AV} {v : Value} (h : srcOf sz x H = some (n, new)) (hv : VR R x v) :
    (∀ w', (Builtin.lenOf v).run P w' = .ok n w') ∧ new.length = n * sz ∧ ∀ m, m ≤ n → ∃ vs : List Value, (∀ w' : World, w'.heap = w.heap → (Builtin.firstCells sz m v).run P w' = .ok vs.toArray w') ∧ VRL R (new.take (m * sz)) vs := by
  unfold srcOf at h
  split at h
  · simp only [Option.some.injEq, Prod.mk.injEq] at h
    obtain ⟨rfl, rfl⟩ := h
    simp only [VR] at hv; subst hv
    exact ⟨fun _ => rfl, by simp, fun m hm => ⟨[], fun w' _ => rfl, by simp [VRL]⟩⟩
  · simp only [Option.some.injEq, Prod.mk.injEq] at h
    obtain ⟨rfl, rfl⟩ := h
    obtain ⟨a, c, rfl⟩ := hv
    refine ⟨fun _ => rfl, by simp, fun m hm => ⟨[], fun w' _ => ?_, by simp [VRL]⟩⟩
    obtain rfl : m = 0 := by omega
    simp only [Builtin.firstCells, Nat.zero_mul]; rfl
  · rename_i A off k cc
    split at h
    · rename_i l e sz' g hA
      split at h
      · rename_i cs hc
        simp only [Option.some.injEq, Prod.mk.injEq] at h
        obtain ⟨rfl, rfl⟩ := h
        obtain ⟨b, d, c, hr, rfl⟩ := hv
        obtain ⟨e1, e2⟩ := subN_eq _ _ _ _ hc
        refine ⟨fun _ => rfl, ?_, fun m hm => ?_⟩
        · rw [e1, List.length_take, List.length_drop]; omega
        · have hmn : m * sz ≤ k * sz := Nat.mul_le_mul_right _ hm
          have hs1 := subN_some l off (m * sz) (by omega)
          have e3 : (l.drop off).take (m * sz) = cs.take (m * sz) := by rw [e1, List.take_take, Nat.min_eq_left hmn]
          rw [e3] at hs1
          obtain ⟨vs', h4, h5⟩ := hL.loadsW hA hr (P := P) hs1
          exact ⟨vs', h4, h5⟩
      · simp at h
    · simp at h
  · rename_i k b
    simp only [cond_eq_ite, Nat.beq_eq] at h
    split at h
    · rename_i hs1
      subst hs1
      simp only [Option.some.injEq, Prod.mk.injEq] at h
      obtain ⟨rfl, rfl⟩ := h
      obtain ⟨s, rfl, rfl, rfl⟩ := hv
      have hb := bytesOf_ok (R := R) s.data.toList
      rw [size_data] at hb
      refine ⟨fun _ => rfl, ?_, fun m hm => ?_⟩
      · have := VRL.length _ _ hb
        simp [size_data] at this; omega
      · refine ⟨((s.extract 0 m).data.map fun b => Value.int .u8 (b.toNat : Int)).toList, fun w' _ => rfl, ?_⟩
        have e : ((s.extract 0 m).data.map fun b => Value.int .u8 (b.toNat : Int)).toList = (s.data.toList.map (fun b => Value.int .u8 (b.toNat : Int))).take m := by
          rw [Array.toList_map, Lib.extract_data]; simp [List.map_take]
        rw [e, Nat.mul_one]
        exact hb.take m
    · simp at h
  · simp at h

/-- What an operation with effects comes to. -/
def Does (P : Program) (s : Sem Value) (R : Ren) (H : AH) (w : World) (v : AV) (H' : AH) : Prop :=
  ∃ (R' : Ren) (w' : World) (z : Value), s.run P w = .ok z w' ∧ VR R' v z ∧ Rel R' H' w' ∧ Ext R H w R' H' w'

theorem zeroOk_ok {sz : Nat} {z : Option Value} (h : zeroOk sz z = true) : ∃ zv, z = some zv ∧ zv.cells.size = sz ∧ 0 < sz := by
  unfold zeroOk at h
  split at h
  · rename_i zv
    split at h
    · rename_i za hza
      simp only [Bool.and_eq_true, Nat.blt_eq, Nat.beq_eq, lenL_zero] at h
      have := VRL.length _ _ (cells_ok (ofV_ok (fun _ _ _ _ => False) zv za hza))
      rw [Array.length_toList] at this
      exact ⟨zv, rfl, by omega, h.1⟩
    · simp at h
  · simp at h

theorem zeroCells_size (z : Array Value) (n : Nat) : (Builtin.zeroCells z n).size = n * z.size := by simp [Builtin.zeroCells]

/-- A row that grows into a new block. -/
theorem grow_ok {t u ty e : TypeId} {du : TypeDesc} {ti : TypeInfo} {zv : Value} {n sLen sCap : Nat} {base : Option Addr} {xv : Value} {oldA newA' : List AV} {oldV newV : List Value} {v : AV} {H' : AH}
    (hL : Rel R H w) (ht : (underlying t).run P w = .ok (.slice e) w) (hu : (underlying u).run P w = .ok du w) (hdu : ∀ k, du ≠ .int k)
    (hi : P.info? e = some ti) (hz : ti.zero = some zv) (hzs : zv.cells.size = ti.size) (hn : (Builtin.lenOf xv).run P w = .ok n w) (hf : ∀ w', w'.heap = w.heap → (Builtin.firstCells ti.size n xv).run P w' = .ok newV.toArray w')
    (ho : ∀ w', w'.heap = w.heap → (Builtin.firstCells ti.size sLen (.slice base sLen sCap)).run P w' = .ok oldV.toArray w') (hlt : sCap < sLen + n) (hroomy : roomy (sLen + n) ti.bytes = true)
    (h1 : VRL R oldA oldV) (h2 : VRL R newA' newV) (hlen : (oldA ++ newA').length = (sLen + n) * ti.size) (hg : agrow (sLen + n) e ti.size (oldA ++ newA') H = some (v, H')) :
    Does P (Builtin.append_ #[t, u] ty #[.slice base sLen sCap, xv]) R H w v H' := by
  simp only [roomy, Bool.and_eq_true, Nat.ble_eq, Nat.blt_eq] at hroomy
  obtain ⟨cap, hc1, hrun⟩ := run_append_grow (ty := ty) ht hu hdu hi hz hn hf ho hlt hroomy.1 hroomy.2
  unfold agrow at hg
  split at hg
  · rename_i A H1 hnew
    obtain ⟨t', hset, rfl, rfl, _⟩ := newA_eq hnew
    · simp only [fN_eq, Option.some.injEq, Prod.mk.injEq] at hg
      obtain ⟨rfl, rfl⟩ := hg
      have hl12 := VRL.length _ _ (h1.append h2)
      have hD : Rel R H w.drew := hL.drew _
      refine ⟨R.add H.next w.heap.size 0 cap, _, _, hrun, ?_, ?_, ?_⟩
      · exact ⟨w.heap.size, 0, cap, R.add_self _ _ _ _, by rw [decap_odd _ (by omega)]; simp⟩
      · refine hD.new hset ?_
        refine ⟨_, (0, 0), [], oldV ++ newV, (Builtin.zeroCells zv.cells (cap - (sLen + n))).toList, rfl, by simp, rfl, VRL.mono (R.sub_add _ _ _ _) _ _ (h1.append h2), fun h => by simp at h, fun _ => ?_, fun i _ => by simp⟩
        rw [hl12, hlen, Array.length_toList, zeroCells_size, hzs, ← Nat.add_mul]
        congr 1; omega
      · exact (Ext.drew R H w _).trans (Ext.add (w := w.drew) hset)
  · simp at hg

set_option maxHeartbeats 1000000 in
include hX hL in
theorem aappend_ok {t u ty : TypeId} {du : TypeDesc} {s x v : AV} {sv xv : Value} {H' : AH} (h : aappend X t s x H = some (v, H')) (hu : X.und u = some du) (hdu : ∀ k, du ≠ .int k) (hs : VR R s sv) (hx : VR R x xv) :
    Does P (Builtin.append_ #[t, u] ty #[sv, xv]) R H w v H' := by
  unfold aappend at h
  split at h
  · rename_i e hd
    split at h
    · rename_i ti hti
      have hi := hX.ty _ _ hti
      simp only [cond_eq_ite] at h
      split at h
      · rename_i hz
        obtain ⟨zv, hz0, hzs, hpos⟩ := zeroOk_ok hz
        split at h
        · rename_i n new hsrc
          obtain ⟨hlen, hnl, hfirst⟩ := srcOf_ok (P := P) hL hsrc hx
          split at h
          · rename_i hcells
            have hsz : (sizeOf e).run P w = .ok ti.size w := by simp [sizeOf, typeInfo, hi]
            obtain ⟨newV, hnf, hnv⟩ := hfirst n (Nat.le_refl _)
            rw [List.take_of_length_le (by omega)] at hnv
            have hund := hX.run_und hd w
            have hundu := hX.run_und hu w
            have hnvl := VRL.length _ _ hnv
            unfold app1 at h
            split at h
            · simp only [VR] at hs; subst hs
              simp only [cond_eq_ite, Nat.beq_eq] at h
              split at h
              · rename_i hn0
                subst hn0
                simp only [Option.some.injEq, Prod.mk.injEq] at h
                obtain ⟨rfl, rfl⟩ := h
                exact ⟨R, w, .slice none 0 0, run_append_in hund hundu hdu hsz (hlen w) (hnf w rfl) (Nat.le_refl _) rfl, rfl, hL, Ext.refl R H w⟩
              · rename_i hn0
                unfold appGrow at h
                simp only [cond_eq_ite] at h
                split at h
                · rename_i hroomy
                  have := grow_ok (P := P) (ty := ty) (sLen := 0) (sCap := 0) (base := none) (xv := xv) (oldA := []) (oldV := []) (n := n) hL hund hundu hdu hi hz0 hzs (hlen w) hnf (fun w' _ => rfl) (by omega) (by rw [Nat.zero_add]; exact hroomy) rfl hnv (by simp [hnl]) (by rw [Nat.zero_add]; exact h)
                  exact this
                · simp at h
            · obtain ⟨a, c, rfl⟩ := hs
              simp only [cond_eq_ite, Nat.beq_eq] at h
              split at h
              · rename_i hn0
                subst hn0
                simp only [Option.some.injEq, Prod.mk.injEq] at h
                obtain ⟨rfl, rfl⟩ := h
                have hnl0 : newV = [] := by
                  have : newV.length = 0 := by rw [hnvl, hnl]; simp
                  exact List.eq_nil_of_length_eq_zero this
                subst hnl0
                exact ⟨R, w, .slice (some a) 0 c, run_append_in (vs := #[]) hund hundu hdu hsz (hlen w) (hnf w rfl) (by omega) rfl, ⟨a, c, rfl⟩, hL, Ext.refl R H w⟩
              · simp at h
            · rename_i A off len cc
              obtain ⟨b, d, c, hr, rfl⟩ := hs
              split at h
              · rename_i l e' sz' g hA
                unfold app2 at h
                simp only [cond_eq_ite] at h
                split at h
                · rename_i hroom
                  rw [Nat.ble_eq] at hroom
                  unfold appIn at h
                  split at h
                  · rename_i l' hset
                    split at h
                    · rename_i H1 hput
                      simp only [fN_eq, Option.some.injEq, Prod.mk.injEq] at h
                      obtain ⟨rfl, rfl⟩ := h
                      unfold putA at hput
                      split at hput
                      · rename_i t' ht'
                        simp only [Option.some.injEq] at hput; subst hput
                        obtain ⟨w', h1, h2, h3⟩ := hL.stores hA hr (P := P) hset hnv hcells ht'
                        have hcap := roomOf_ok hL hA hr hpos (off := off) (cc := cc)
                        refine ⟨R, w', _, run_append_in (base := some ⟨b, d + off, none⟩) hund hundu hdu hsz (hlen w) (hnf w rfl) (by omega) ?_, ⟨b, d, c, hr, rfl⟩, h2, h3⟩
                        simp only [add_none, Nat.add_assoc]
                        exact h1
                      · simp at hput
                    · simp at h
                  · simp at h
                · rename_i hroom
                  rw [Nat.ble_eq] at hroom
                  split at h
                  · rename_i heven
                    rw [Nat.beq_eq] at heven
                    unfold appGrow at h
                    simp only [cond_eq_ite] at h
                    split at h
                    · rename_i hroomy
                      split at h
                      · rename_i old hold
                        obtain ⟨oldV, ho1, ho2⟩ := hL.loadsW hA hr (P := P) hold
                        obtain ⟨e1, e2⟩ := subN_eq _ _ _ _ hold
                        have hro : roomOf l g sz' off cc ti.size = cc / 2 := by
                          unfold roomOf; rw [cond_eq_ite, if_pos (by rw [Nat.beq_eq]; exact heven)]
                        have hol : old.length = len * ti.size := by rw [e1, List.length_take, List.length_drop]; omega
                        exact grow_ok (P := P) (ty := ty) hL hund hundu hdu hi hz0 hzs (hlen w) hnf (fun w' hw => ho1 w' hw) (by rw [decap_even c heven]; omega) hroomy ho2 hnv (by rw [List.length_append, hol, hnl, Nat.add_mul]) h
                      · simp at h
                    · simp at h
                  · rename_i hodd
                    rw [Nat.beq_eq] at hodd
                    split at h
                    · rename_i hcond
                      simp only [Bool.and_eq_true, Nat.beq_eq] at hcond
                      obtain ⟨⟨⟨⟨hg, hend⟩, rfl⟩, rfl⟩, hoff⟩ := hcond
                      subst hg
                      rw [lenL_zero] at hend
                      split at h
                      · rename_i H1 hput
                        unfold putA at hput
                        split at hput
                        · rename_i t1 ht1
                          simp only [Option.some.injEq] at hput; subst hput
                          unfold appGrow at h
                          simp only [cond_eq_ite] at h
                          split at h
                          · rename_i hroomy
                            split at h
                            · rename_i old hold
                              obtain ⟨e1, e2⟩ := subN_eq _ _ _ _ hold
                              have hol : old.length = len * ti.size := by rw [e1, List.length_take, List.length_drop]; omega
                              by_cases hfit : len + n ≤ decap cc c
                              · -- there was room: in place
                                rw [decap_odd c hodd] at hfit
                                unfold agrow at h
                                split at h
                                · rename_i A2 H2 hnew2
                                  obtain ⟨t2, ht2, rfl, rfl, _⟩ := newA_eq hnew2
                                  · simp only [fN_eq, Option.some.injEq, Prod.mk.injEq] at h
                                    obtain ⟨rfl, rfl⟩ := h
                                    obtain ⟨arr, fz, pre, l', spare, a1, a2, a3, a4, a5, a6, a7⟩ := hL.cellsAt hA hr
                                    have hll := VRL.length _ _ a4
                                    have hcs := a6 rfl
                                    have hal : arr.size = d + l'.length + spare.length := by
                                      have := congrArg List.length a2
                                      simp at this; omega
                                    have hmul : (cc / 2 + len + n) * ti.size ≤ c * ti.size := Nat.mul_le_mul_right _ (by omega)
                                    have hexp : (cc / 2 + len + n) * ti.size = cc / 2 * ti.size + len * ti.size + n * ti.size := by rw [Nat.add_mul, Nat.add_mul]
                                    have hsp : n * ti.size ≤ spare.length := by omega
                                    have hst := run_storeCells (P := P) e fz b (d + off + len * ti.size) newV 0 w arr a1 (by omega) (allCells_ok hnv hcells) a7
                                    have hmv := hL.move (d' := d + off) (c' := c - cc / 2) (x := .cells (arrSet arr (d + off + len * ti.size + 0) newV) e fz) hr (Rel.live hA) ht1 ht2 ?_
                                    · refine ⟨_, _, _, run_append_in (base := some ⟨b, d + off, none⟩) hund hundu hdu hsz (hlen w) (hnf w rfl) (by rw [decap_odd c hodd]; exact hfit) ?_, ?_, hmv, Ext.move hr ht1 ht2⟩
                                      · simp only [add_none]; exact hst
                                      · exact ⟨b, d + off, c - cc / 2, R.add_self _ _ _ _, by rw [decap_odd c hodd, decap_odd _ (by omega)]; simp⟩
                                    · refine ⟨_, fz, pre ++ l'.take off, l'.drop off ++ newV, spare.drop (n * ti.size), rfl, ?_, ?_, ?_, fun h => by simp at h, fun _ => ?_, fun i hi => ?_⟩
                                      · rw [arrSet_toList _ _ _ (by omega), a2]
                                        have f1 : (pre ++ (l' ++ spare)).take (d + off + len * ti.size + 0) = pre ++ l' := by
                                          rw [List.take_append, List.take_of_length_le (by omega), List.take_append, List.take_of_length_le (by omega)]
                                          rw [show d + off + len * ti.size + 0 - pre.length - l'.length = 0 from by omega]; simp
                                        have f2 : (pre ++ (l' ++ spare)).drop (d + off + len * ti.size + 0 + newV.length) = spare.drop (n * ti.size) := by
                                          rw [List.drop_append, List.drop_eq_nil_of_le (by omega), List.drop_append, List.drop_eq_nil_of_le (by omega)]
                                          rw [show d + off + len * ti.size + 0 + newV.length - pre.length - l'.length = n * ti.size from by omega]; simp
                                        rw [f1, f2]
                                        simp only [List.append_assoc]
                                        rw [← List.append_assoc (List.take off l'), List.take_append_drop]
                                      · simp; omega
                                      · have : old = l.drop off := by rw [e1, List.take_of_length_le (by rw [List.length_drop]; omega)]
                                        rw [this]
                                        exact VRL.mono (R.sub_add _ _ _ _) _ _ ((a4.drop off).append hnv)
                                      · simp only [List.length_append, List.length_drop, Nat.sub_mul]; omega
                                      · rw [arrSet_size] at hi; exact a7 i hi
                                · simp at h
                              · obtain ⟨oldV, ho1, ho2⟩ := hL.loadsW hA hr (P := P) hold
                                have hK := hL.kill ht1
                                obtain ⟨R', w', z, g1, g2, g3, g4⟩ := grow_ok (P := P) (ty := ty) (sLen := len) (sCap := decap cc c) (base := some ⟨b, d + off, none⟩) (n := n) (xv := xv) hK hund hundu hdu hi hz0 hzs (hlen w) hnf (fun w' hw => ho1 w' hw) (by omega) hroomy ho2 hnv (by rw [List.length_append, hol, hnl, Nat.add_mul]) h
                                exact ⟨R', w', z, g1, g2, g3, (Ext.kill hr ht1).trans g4⟩
                            · simp at h
                          · simp at h
                        · simp at hput
                      · simp at h
                    · simp at h
              · simp at h
            · simp at h
          · simp at h
        · simp at h
      · simp at h
    · simp at h
  · simp at h
end
end Go.Eng
