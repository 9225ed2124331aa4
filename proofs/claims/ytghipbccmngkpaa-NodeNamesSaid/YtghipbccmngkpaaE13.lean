/- Engine, part 13: the operations that make a block. No condition. -/
import Derived.Test.YtghipbccmngkpaaE12
namespace Go.Eng

theorem range_add_list (a b : Nat) : List.range (a + b) = List.range a ++ (List.range b).map (a + ·) := List.range_add

theorem made_toList (z : Array Value) (n : Nat) (hz : 0 < z.size) : ((Array.range (n * z.size)).map (z[· % z.size]!)).toList = (List.replicate n z.toList).flatten := by
  rw [Array.toList_map, Array.toList_range]
  induction n with
  | zero => simp
  | succ n ih =>
    rw [Nat.succ_mul, Nat.add_comm, range_add_list, List.map_append, List.replicate_succ, List.flatten_cons]
    congr 1
    · apply List.ext_getElem?
      intro i
      by_cases hi : i < z.size
      · simp [hi, Nat.mod_eq_of_lt hi]
      · simp [hi]
    · rw [← ih, List.map_map]
      apply List.map_congr_left
      intro j _
      simp [Function.comp]

theorem rep_ok {R : Ren} {za : List AV} {z : List Value} (h : VRL R za z) : ∀ n, VRL R (rep n za) (List.replicate n z).flatten
  | 0 => rfl
  | n + 1 => by
    rw [rep, List.replicate_succ, List.flatten_cons]
    exact h.append (rep_ok h n)

theorem bytesOf_ok {R : Ren} : ∀ (bs : List UInt8), VRL R (bytesOf bs.length (pack bs)) (bs.map (fun b => Value.int .u8 (b.toNat : Int)))
  | [] => rfl
  | b :: bs => by
    have hb : b.toNat < 256 := b.toNat_lt
    have e1 : pack (b :: bs) % 256 = b.toNat := by simp only [pack]; omega
    have e2 : pack (b :: bs) / 256 = pack bs := by simp only [pack]; omega
    simp only [List.length_cons, bytesOf, e1, e2, List.map_cons]
    exact ⟨_, _, rfl, rfl, bytesOf_ok bs⟩

/-- What an operation that makes a block comes to. -/
def MakesA (R : Ren) (P : Program) (s : Sem Value) (o : AObj) (mk : Nat → AV) (w : World) : Prop :=
  ∃ (x : Obj) (c k : Nat) (z : Value), s.run P w = .ok z (World.alloc { w with drawn := k } x) ∧
    ∀ A, ORel (R.add A w.heap.size 0 c) o 0 c (some x) ∧ VR (R.add A w.heap.size 0 c) (mk A) z

section
variable {P : Program} {X : Cx} (hX : Ok P X) {R : Ren} {w : World}
include hX

omit hX in
theorem makes_var {e : TypeId} {x : AV} {v : Value} {s : Sem Value} (hv : VR R x v) (hs : s.run P w = .ok (.pointer (some ⟨w.heap.size, 0, none⟩)) (w.alloc (.cells v.cells e))) :
    MakesA R P s (.cells (cellsA x) e 1 false) (fun A => .ptr A 0) w := by
  refine ⟨.cells v.cells e, 0, w.drawn, _, hs, fun A => ⟨⟨v.cells, (0, 0), [], v.cells.toList, [], rfl, by simp, rfl, VRL.mono (R.sub_add _ _ _ _) _ _ (cells_ok hv), fun _ => rfl, fun h => by simp at h, fun i _ => by simp⟩, ?_⟩⟩
  exact ⟨w.heap.size, 0, 0, R.add_self _ _ _ _, rfl⟩

theorem aABuild_ok {env : T AV} {n : Nat} {fr : Frame} (hE : EnvR R env n fr.tmps) {t : TypeId} {len : Nat} {ps : Array (Nat × Operand)} {o : AObj} {mk : Nat → AV} (h : aABuild X env t len ps = some (o, mk)) :
    MakesA R P (Instr.buildSlice t len (ps.map fun (i, x) => (i, fr.eval x))) o mk w := by
  unfold aABuild at h
  split at h
  · rename_i e hd
    split at h
    · rename_i parts hp
      have hpr := parts_ok hE _ _ hp
      rw [← Array.toList_map] at hpr
      split at h
      · rename_i sz hsz
        split at h
        · rename_i z hz
          simp only [cond_eq_ite] at h
          split at h
          · rename_i hc
            simp only [Bool.and_eq_true, Nat.ble_eq, Nat.blt_eq, Nat.beq_eq, lenL_zero] at hc
            obtain ⟨⟨c1, c2⟩, c3⟩ := hc
            split at h
            · rename_i cs hcs
              simp only [Option.some.injEq, Prod.mk.injEq] at h
              obtain ⟨rfl, rfl⟩ := h
              obtain ⟨zv, hzv, hzr⟩ := hX.run_zero R hz w
              have hzc := cells_ok hzr
              have hzl := VRL.length _ _ hzc
              rw [Array.length_toList, c3] at hzl
              have hrow : ∃ arr0 : Array Value, ((len * sz = 0 ∧ arr0 = #[]) ∨ (¬ len * sz = 0 ∧ arr0 = zv.cells)) ∧
                  ((Array.range (len * sz)).map (arr0[· % arr0.size]!)).toList = (List.replicate len zv.cells.toList).flatten := by
                by_cases h0 : len * sz = 0
                · refine ⟨#[], .inl ⟨h0, rfl⟩, ?_⟩
                  have : len = 0 := by rcases Nat.mul_eq_zero.1 h0 with h | h <;> omega
                  subst this; simp
                · refine ⟨zv.cells, .inr ⟨h0, rfl⟩, ?_⟩
                  rw [show len * sz = len * zv.cells.size from by rw [hzl]]
                  exact made_toList zv.cells len (by omega)
              obtain ⟨arr0, hr0, hl0⟩ := hrow
              obtain ⟨arr', h1, h2⟩ := fill_ok (R := R) (place' := fun i => some (i * sz, sz)) (fun i x hx => hx) hpr hcs (arr := (Array.range (len * sz)).map (arr0[· % arr0.size]!)) (by rw [hl0]; exact rep_ok hzc len)
              refine ⟨.cells arr' e, len, w.drawn, .slice (some ⟨w.heap.size, 0, none⟩) len len, ?_, fun A => ⟨⟨arr', (0, 0), [], arr'.toList, [], rfl, by simp, rfl, VRL.mono (R.sub_add _ _ _ _) _ _ h2, fun _ => rfl, fun h => by simp at h, fun i _ => by simp⟩, ?_⟩⟩
              · have hns : ¬ len * sz > 2 ^ 24 := by omega
                simp only [Instr.buildSlice, Sem.run_bind, hX.run_und hd, Result.andThen, hX.run_size hsz]
                rw [if_neg hns]
                have h1' : Instr.fill (fun i => some (i * sz, sz)) ((Array.range (len * sz)).map (arr0[· % arr0.size]!)) (ps.map fun x => (x.fst, fr.eval x.snd)).toList = some arr' := h1
                rcases hr0 with ⟨h0, rfl⟩ | ⟨h0, rfl⟩
                · rw [if_pos h0]
                  simp only [Sem.run_bind, Sem.run_pure, Result.andThen, h1', newRow, newObj, Sem.run]; rfl
                · rw [if_neg h0]
                  simp only [Sem.run_bind, Sem.run_pure, Result.andThen, hzv, h1', newRow, newObj, Sem.run]; rfl
              · exact ⟨w.heap.size, 0, len, R.add_self _ _ _ _, by rw [decap_even _ (by omega)]; simp⟩
            · simp at h
          · simp at h
        · simp at h
      · simp at h
    · simp at h
  · simp at h

theorem aAMake_ok {t : TypeId} {l c : Option AV} {lv cv : Value} {o : AObj} {mk : Nat → AV} (h : aAMake X t l c = some (o, mk)) (hl : ∀ a, l = some a → VR R a lv) (hc : ∀ a, c = some a → VR R a cv) :
    MakesA R P (Instr.makeSlice t lv cv) o mk w := by
  unfold aAMake at h
  split at h
  · rename_i n
    split at h
    · rename_i m
      have h1 := hl _ rfl
      have h2 := hc _ rfl
      simp only [VR] at h1 h2; subst h1 h2
      split at h
      · rename_i e hd
        split at h
        · rename_i ti hti
          split at h
          · rename_i z hz
            simp only [cond_eq_ite] at h
            split at h
            · rename_i hcc
              simp only [Bool.and_eq_true, Nat.ble_eq, Nat.blt_eq, Nat.beq_eq, lenL_zero] at hcc
              obtain ⟨⟨⟨⟨c1, c2⟩, c3⟩, c4⟩, c5⟩ := hcc
              simp only [Option.some.injEq, Prod.mk.injEq] at h
              obtain ⟨rfl, rfl⟩ := h
              obtain ⟨i, zv, hi, hzv, hzr⟩ := hX.zero R hz
              have hii := hX.ty _ _ hti
              rw [hi] at hii; injection hii with hii; subst hii
              have hzc := cells_ok hzr
              have hzl := VRL.length _ _ hzc
              rw [Array.length_toList, c5] at hzl
              have hm := run_make (P := P) w t e i zv (hX.und hd) hi hzv .i64 .i64 (n : Int) (m : Int) (by omega) (by omega) (by
                have : ((m * i.bytes : Nat) : Int) ≤ 140737488355328 := by omega
                rw [Int.natCast_mul] at this
                rw [Int.mul_comm]; omega) (by omega)
              have hml : (madeCells zv.cells (m * i.size)).toList = (List.replicate m zv.cells.toList).flatten := by
                have e2 : madeCells zv.cells (m * i.size) = (Array.range (m * i.size)).map (zv.cells[· % zv.cells.size]!) := rfl
                rw [e2, show m * i.size = m * zv.cells.size from by rw [hzl]]
                exact made_toList zv.cells m (by omega)
              refine ⟨_, m, w.drawn, _, hm, fun A => ⟨⟨_, (0, 0), [], (List.replicate m zv.cells.toList).flatten, [], rfl, ?_, rfl, VRL.mono (R.sub_add _ _ _ _) _ _ (rep_ok hzc m), fun _ => rfl, fun h => by simp at h, fun i _ => by simp⟩, ?_⟩⟩
              · simp only [Int.toNat_natCast, List.append_nil, List.nil_append]; exact hml
              · exact ⟨w.heap.size, 0, m, R.add_self _ _ _ _, by rw [decap_even _ (by omega), Nat.mul_div_cancel_left m (by omega : 0 < 2), Int.toNat_natCast, Int.toNat_natCast]⟩
            · simp at h
          · simp at h
        · simp at h
      · simp at h
    · simp at h
  · simp at h

theorem aconvA_ok {s d : TypeId} {x : AV} {v : Value} {o : AObj} {mk : Nat → AV} (h : aconvA X s d x = some (o, mk)) (hv : VR R x v) : MakesA R P (convert s d v) o mk w := by
  unfold aconvA at h
  split at h
  · rename_i hs
    split at h
    · rename_i e hd
      split at h
      · rename_i he
        split at h
        · rename_i l b
          simp only [cond_eq_ite, Nat.blt_eq] at h
          split at h
          · rename_i hlt
            simp only [Option.some.injEq, Prod.mk.injEq] at h
            obtain ⟨rfl, rfl⟩ := h
            obtain ⟨st, rfl, rfl, rfl⟩ := hv
            generalize hcap : Question.cut (.appendCap st.size 0 e) (w.tape w.drawn (.appendCap st.size 0 e)) = cap
            have hcl : st.size ≤ cap := by rw [← hcap]; simp only [Question.cut]; omega
            have hsl : (st.data.map fun b => Value.int .u8 (b.toNat : Int)).toList = st.data.toList.map (fun b => Value.int .u8 (b.toNat : Int)) := by simp
            refine ⟨.cells ((st.data.map fun b => Value.int .u8 (b.toNat : Int)) ++ Array.replicate (cap - st.size) (.int .u8 0)) e (cap, cap + 1), cap, w.drawn + 1, .slice (some ⟨w.heap.size, 0, none⟩) st.size cap, ?_, fun A => ⟨⟨_, (cap, cap + 1), [], st.data.toList.map (fun b => Value.int .u8 (b.toNat : Int)), List.replicate (cap - st.size) (.int .u8 0), rfl, ?_, rfl, ?_, fun h => by simp at h, fun _ => ?_, fun i hi => ?_⟩, ?_⟩⟩
            · have hsz : ((st.data.map fun b => Value.int .u8 (b.toNat : Int)) ++ Array.replicate (cap - st.size) (Value.int .u8 0)).size = cap := by
                simp; omega
              have hq : (choose (.appendCap st.size 0 e)).run P w = .ok cap { w with drawn := w.drawn + 1 } := by
                simp only [choose, Sem.run, Question.forced, Bool.false_eq_true, if_false, hcap]
              have hconv : (convert s d (.string st)).run P w = (Conv.stringToBytes e st).run P w := by
                simp [convert, Sem.run_bind, hX.run_und hs, hX.run_und hd, hX.run_und he]
              rw [hconv]
              simp only [Conv.stringToBytes, Sem.run_bind, hq, Result.andThen, newRow, newObj, Sem.run, Sem.run_pure, markStringish, shape, World.shape?, Array.getElem?_push_size, hsz, freeze, World.freeze]
              simp [World.alloc, Sem.run_pure]
              apply Array.ext_getElem?
              intro i
              rw [Array.getElem?_modify]
              by_cases hi : i = w.heap.size
              · subst hi; simp [hsz]
              · simp only [Array.getElem?_push, if_neg hi, if_neg (Ne.symm hi)]
            · simp
            · rw [← size_data]; exact bytesOf_ok _
            · simp [size_data]; omega
            · simp at hi; simp; omega
            · exact ⟨w.heap.size, 0, cap, R.add_self _ _ _ _, by rw [decap_odd _ (by omega)]; simp⟩
          · simp at h
        · simp at h
      · simp at h
    · simp at h
  · simp at h

/-- Whatever makes a block does as the evaluator says. -/
theorem simA {env : T AV} {n : Nat} {fr : Frame} (hE : EnvR R env n fr.tmps) {o : Oper} {ob : AObj} {mk : Nat → AV} (h : aA X env o.op = some (ob, mk)) :
    ∃ s : Sem Value, execOp fr.eval o = (do pure (Next.value (← s))) ∧ MakesA R P s ob mk w := by
  obtain ⟨dst, op, ty, pos, after, guard⟩ := o
  simp only at h
  unfold aA at h
  split at h
  · rename_i e
    refine ⟨_, rfl, ?_⟩
    unfold aA1 at h
    split at h
    · rename_i z hz
      simp only [Option.some.injEq, Prod.mk.injEq] at h
      obtain ⟨rfl, rfl⟩ := h
      obtain ⟨zv, hzv, hzr⟩ := hX.run_zero R hz w
      refine makes_var hzr ?_
      simp only [Instr.alloc, Sem.run_bind, hzv, Result.andThen, newVar, newRow, newObj, Sem.run, Sem.run_pure]; rfl
    · simp at h
  · rename_i e x
    refine ⟨_, rfl, ?_⟩
    unfold aA1 at h
    split at h
    · rename_i z hz
      simp only [Option.some.injEq, Prod.mk.injEq] at h
      obtain ⟨rfl, rfl⟩ := h
      refine makes_var (opd_ok hE _ _ hz) ?_
      simp only [Instr.box, Sem.run_bind, Result.andThen, newVar, newRow, newObj, Sem.run, Sem.run_pure]; rfl
    · simp at h
  · exact ⟨_, rfl, aABuild_ok hX hE h⟩
  · exact ⟨_, rfl, aAMake_ok hX h (fun a ha => opd_ok hE _ _ ha) (fun a ha => opd_ok hE _ _ ha)⟩
  · split at h
    · rename_i a ha
      exact ⟨_, rfl, aconvA_ok hX h (opd_ok hE _ _ ha)⟩
    · simp at h
  · simp at h
end
end Go.Eng
