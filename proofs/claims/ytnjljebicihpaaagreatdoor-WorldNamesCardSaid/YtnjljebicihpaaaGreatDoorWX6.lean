/- Shallow functions, by program (gent4.py). -/
import Derived.Test.YtnjljebicihpaaaGreatDoorWX5
import Derived.Test.YtnjljebicihpaaaGreatDoorProg
import Derived.KernelRfl
noncomputable section
namespace Go.Eng.Sh
open Go.Proofs
set_option maxRecDepth 100000
set_option maxHeartbeats 4000000
set_option linter.all false
def s131 (D : Dyn) (n : Nat) : Tb := ⟨X, [(126, f126 D n), (120, f120 D n), (121, m121 D n), (199, f199 D n), (68, f68 D n), (201, f201 D n), (202, f202 D n)]⟩
def f131l0 (D : Dyn) (n : Nat) (vs : List AV) (H : AH) : Rs :=
  hd vs fun x0_3 vs => hd vs fun x4_2 vs => hd vs fun x32_2 vs => hd vs fun x33 vs => 
  bV (bInt .lss x33 x32_2) fun x34 => 
  cnd x34 (bV (ld1p x4_2 H) fun x36 => 
  bV (pNil x0_3) fun x39 => 
  bV (fAd 0 x39) fun x40 => 
  bV (ld1p x40 H) fun x41 => 
  bR (noPan (m121 D n [x41, x33] H)) fun x43 H => chk (ld1p x4_2 H) x36 <| 
  bV (ixSl 1 x36 x33) fun x44 => 
  bR (stNp 1 x44 x43 H) fun x9999_2 H => 
  bV (bInt .add x33 (.int .i64 (.ofNat 1))) fun x45 => 
  some (.norm [x0_3, x4_2, x32_2, x45], H))
  (some (.exit 0 [x0_3, x4_2], H))
def f131j1 (D : Dyn) (n : Nat) (vs : List AV) (H : AH) : Rs :=
  hd vs fun x0_6 vs => hd vs fun x8_2 vs => hd vs fun x64_2 vs => hd vs fun x65_3 vs => hd vs fun x66_2 vs => 
  bV (bInt .add x66_2 (.int .i64 (.ofNat 1))) fun x90 => 
  some (.norm [x0_6, x8_2, x64_2, x65_3, x90], H)
def f131l2 (D : Dyn) (n : Nat) (vs : List AV) (H : AH) : Rs :=
  hd vs fun x0_5 vs => hd vs fun x8 vs => hd vs fun x64 vs => hd vs fun x65_2 vs => hd vs fun x66 vs => 
  bV (bInt .lss x66 x65_2) fun x67 => 
  cnd x67 (bV (ixSl 3 x64 x66) fun x68 => 
  bV (ldNp 3 x68 H) fun x69 => 
  bA (bxV 137 (.agg [(.int .i64 (.ofNat 0)), (.int .i64 (.ofNat 0)), (.int .u64 (.ofNat 0))])) H fun x10 H => 
  bR (stNp 3 x10 x69 H) fun x9999_3 H => 
  bV (pNil x0_5) fun x72 => 
  bV (fAd 3 x72) fun x73 => 
  bV (ld1p x73 H) fun x74 => 
  bV (fAd 0 x10) fun x75 => 
  bV (ld1p x75 H) fun x76 => 
  bR (noPan (f201 D n [x74, (.int .i64 (.ofNat 0)), x76] H)) fun x77 H => 
  bV (pExtract x77 0) fun x78 => 
  bV (pExtract x77 1) fun x79 => 
  bV (bInt .eql x79 (.int .i64 (.ofNat 0))) fun x81 => 
  jn (wnt x81 true (some (.norm [x78], H)) (some (.norm [undefA], H))) fun vs H => hd vs fun x83 vs => 
  bV (pk3 (some x81) (some x83) (some (.bool false))) fun x84 => 
  jn (cnd x84 (bV (fAd 0 x10) fun x86 => 
  bV (ld1p x86 H) fun x87 => 
  bA (bldLp 3 1 1 [(.int .i64 (.ofNat 0))] [(0, x87)]) H fun x88 H => 
  bR (apPp 3 1 8 x8 x88 H) fun x89 H => 
  some (.norm [x0_5, x89, x64, x65_2, x66], H))
  (some (.norm [x0_5, x8, x64, x65_2, x66], H))) (f131j1 D n))
  (some (.exit 2 [x0_5, x8], H))
def f131b3 (D : Dyn) (n : Nat) (vs : List AV) (H : AH) : Rs :=
  hd vs fun x0_7 vs => hd vs fun x8_3 vs => 
  bV (pNil x0_7) fun x92 => 
  bV (fAd 4 x92) fun x93 => 
  bR (stNp 1 x93 .nilSlice H) fun x9999_4 H => 
  bV (pNil x0_7) fun x95 => 
  bV (fAd 0 x95) fun x96 => 
  bV (ld1p x96 H) fun x97 => 
  bR (noPan (f202 D n [x97, x8_3] H)) fun x99 H => 
  bV (some x99) fun x2_4 => some (.ret x2_4, H)
def f131b4 (D : Dyn) (n : Nat) (vs : List AV) (H : AH) : Rs :=
  hd vs fun x0_4 vs => hd vs fun x4_3 vs => 
  bV (pNil x0_4) fun x48 => 
  bV (fAd 0 x48) fun x49 => 
  bV (ld1p x49 H) fun x50 => 
  bR (noPan (f199 D n [x50] H)) fun x51 H => 
  bV (pExtract x51 0) fun x52 => 
  bV (pExtract x51 1) fun x53 => 
  bV (bInt .neq x53 (.int .i64 (.ofNat 0))) fun x55 => 
  cnd x55 (bV (some x53) fun x2_3 => some (.ret x2_3, H))
  (bR (noPan (f68 D n [x0_4, (.func 200 [] [x4_3])] H)) fun x59 H => 
  bV (pNil x0_4) fun x61 => 
  bV (fAd 4 x61) fun x62 => 
  bV (ld1p x62 H) fun x63 => 
  bV (lnSl x52) fun x65 => 
  jb 2 (loopK n (f131l2 D n) [x0_4, x63, x52, x65, (.int .i64 (.ofNat 0))] H) (f131b3 D n))
def f131j5 (D : Dyn) (n : Nat) (vs : List AV) (H : AH) : Rs :=
  hd vs fun x0_2 vs => 
  bV (pNil x0_2) fun x26 => 
  bV (fAd 0 x26) fun x27 => 
  bV (ld1p x27 H) fun x28 => 
  bR (noPan (f120 D n [x28] H)) fun x29 H => 
  bA (mkSlp 4 1 1 [(.bool false)] x29 x29) H fun x30 H => 
  bA (bxV 36 .nilSlice) H fun x4 H => 
  bR (stNp 1 x4 x30 H) fun x9999 H => 
  bV (ld1p x4 H) fun x31 => 
  bV (lnSl x31) fun x32 => 
  jb 0 (loopK n (f131l0 D n) [x0_2, x4, x32, (.int .i64 (.ofNat 0))] H) (f131b4 D n)
def f131 (D : Dyn) (n : Nat) (vs : List AV) (H : AH) : Option (AV × AH) :=
  outR (hd vs fun x0 vs => nl vs <|
  bR (noPan (f126 D n [x0] H)) fun x14 H => 
  cnd x14 (bV (some (.int .i64 (.ofNat 2))) fun x2 => some (.ret x2, H))
  (bV (pNil x0) fun x16 => 
  bV (fAd 1 x16) fun x17 => 
  bV (ld1p x17 H) fun x18 => 
  bV (bInt .gtr x18 (.int .i64 (.ofNat 0))) fun x19 => 
  jn (cnd x19 (bR (noPan (D.fn 198 [x0] H)) fun x21 H => 
  bV (bInt .neq x21 (.int .i64 (.ofNat 0))) fun x23 => 
  cnd x23 (bV (some x21) fun x2_2 => some (.ret x2_2, H))
  (some (.norm [x0], H)))
  (some (.norm [x0], H))) (f131j5 D n)))
def h131 : Hint := (.s .o (.s (.s .o (.cl (.s .o .o) .o)) (.s (.s .o (.c [0] (.s .o (.s .o (.cl (.s .o .o) .o))) .o)) (.s .o (.s (.s .o (.b [0, 4] (.l [0, 4, 32, 33] (.s .o (.s (.cr .o .o) (.s (.b0 (.s .o .o)) .o)))))) (.s .o (.s (.s .o (.cl (.s .o .o) .o)) (.s .o (.s .o (.s (.s .o (.b [0, 8] (.l [0, 8, 64, 65, 66] (.s .o (.s (.cr .o .o) (.s (.b0 (.s .o (.s .o (.s .o (.c [0, 8, 64, 65, 66] .o .o))))) .o)))))) (.s .o (.s .o .o))))))))))))
theorem f131_eq (D : Dyn) (n : Nat) : f131 D n = funKp (s131 D n) D n 131 Tryz.f131 h131 := by kernel_rfl
theorem f131_ok {D : Dyn} (hD : DP D) (n : Nat) : FP 131 (f131 D n) := fun_okP X_ok hD (SP.cons (f126_ok hD n) (SP.cons (f120_ok hD n) (SP.cons (m121_ok hD n) (SP.cons (f199_ok hD n) (SP.cons (f68_ok hD n) (SP.cons (f201_ok hD n) (SP.cons (f202_ok hD n) (SP.nil)))))))) Tryz.func131 (by kernel_rfl) (by kernel_rfl) (f131_eq D n)
def allB : List AV → Bool
  | [] => true
  | x :: l => match x with | .bool _ => allB l | _ => false
def fillB (Q p m : Nat) (H : AH) : Nat → Nat → Option (List AV)
  | 0, _ => some []
  | k + 1, i => bif Nat.blt i m && Nat.blt i 8192 then match ld1p (.ptr Q (p + 2 + i * 1)) H with
    | some (.int .u8 (.ofNat b)) => match fillB Q p m H k (i + 1) with
      | some l => some (.bool (bif Nat.beq b 1 then true else Nat.beq b 2) :: l)
      | none => none
    | _ => none else none
theorem cset_b : ∀ (l : List AV) (i : Nat) (b : Bool), allB l = true → i < l.length → cset0 l i [.bool b] = some (l.set i (.bool b))
  | [], i, b, _, h => by simp at h
  | x :: l, 0, b, ha, h => by cases x <;> simp [allB] at ha; cases l <;> rfl
  | x :: l, i + 1, b, ha, h => by
    cases x <;> simp [allB] at ha
    have := cset_b l i b ha (by simpa using h)
    show (match cset0 l i [.bool b] with | some r => some (_ :: r) | none => none) = _
    rw [this]; rfl
theorem allB_set : ∀ (l : List AV) (i : Nat) (b : Bool), allB l = true → allB (l.set i (.bool b)) = true
  | [], _, _, h => h
  | x :: l, 0, b, ha => by cases x <;> simp [allB] at ha; exact ha
  | x :: l, i + 1, b, ha => by cases x <;> simp [allB] at ha; exact allB_set l i b ha
theorem ld1p_put {H H' : AH} {A : Nat} {o : AObj} (h : putA H A o = some H') {B : Nat} (hB : B ≠ A) (off : Nat) : ld1p (.ptr B off) H' = ld1p (.ptr B off) H := by
  unfold putA at h
  split at h
  · rename_i t ht; cases h
    have : T.get t B = T.get H.h B := by rw [T.get_set _ _ _ _ _ ht, if_neg hB]
    show (match T.get t B with | some (.cells l _ _ _) => cnth l off | _ => none) = _
    rw [this]; rfl
  · cases h
theorem row_eq {α : Type} (l : List α) (i k : Nat) (x : α) (bs : List α) (hi : i < l.length) : (l.set i x).take (i + 1) ++ (bs ++ (l.set i x).drop (i + 1 + k)) = l.take i ++ (x :: bs ++ l.drop (i + (k + 1))) := by
  have h2 : (l.set i x).drop (i + 1 + k) = l.drop (i + (k + 1)) := by
    rw [List.drop_set, if_pos (by omega), show i + 1 + k = i + (k + 1) by omega]
  have h1 : (l.set i x).take (i + 1) = l.take i ++ [x] := by
    rw [List.take_add_one, List.take_set, List.set_eq_of_length_le (by rw [List.length_take]; omega)]
    simp [hi]
  rw [h1, h2]; simp
theorem putA_putA {H H1 : AH} {A : Nat} {o o' : AObj} (h : putA H A o = some H1) : putA H1 A o' = putA H A o' := by
  unfold putA at h
  split at h
  · rename_i t ht; cases h
    unfold putA; rw [T.set_set ht]
  · cases h
theorem fill_step (D : Dyn) (n : Nat) {V vo C co S o Q p m A len cc a b0 : Nat} {l : List AV} {e : TypeId} {sz : Nat} {g : Bool} {i N : Nat} {b : Nat} {H : AH}
    (hA : H.h.get A = some (.cells l e sz g)) (hb : allB l = true) (hi : i < l.length) (hN : i < N) (hl : i < len) (hm : Nat.blt i m = true) (h8 : Nat.blt i 8192 = true)
    (hC : ld1p (.ptr C co) H = some (.slice A 0 len cc)) (hV : ld1p (.ptr V (vo + 0)) H = some (.ptr S o)) (h1 : ld1p (.ptr S (o + 2)) H = some (.ptr a b0)) (h2 : ld1p (.ptr S (o + 4)) H = some (.ptr Q p))
    (h3 : ld1p (.ptr Q (p + 0)) H = some (.int .i64 (.ofNat m))) (h4 : ld1p (.ptr Q (p + 2 + i * 1)) H = some (.int .u8 (.ofNat b))) :
    ∃ H1, putA H A (.cells (l.set i (.bool (bif Nat.beq b 1 then true else Nat.beq b 2))) e sz g) = some H1 ∧
      f131l0 D n [.ptr V vo, .ptr C co, .int .i64 (.ofNat N), .int .i64 (.ofNat i)] H = some (.norm [.ptr V vo, .ptr C co, .int .i64 (.ofNat N), .int .i64 (.ofNat (i + 1))], H1) := by
  have ht : m121 D n [.ptr S o, .int .i64 (.ofNat i)] H = some (.bool (bif Nat.beq b 1 then true else Nat.beq b 2), H) := by
    have : takK [.ptr S o, .int .i64 (.ofNat i)] H = some (.bool (bif Nat.beq b 1 then true else Nat.beq b 2), H) := by
      simp only [takK, h1, h2, h3, h4, hm, h8, cond_true]
    show (match takK _ H with | some r => some r | none => _) = _
    rw [this]
  generalize (bif Nat.beq b 1 then true else Nat.beq b 2) = v at ht ⊢
  have hs : (T.set 40 H.h A (.cells (l.set i (.bool v)) e sz g)).isSome = true := T.set_some _ _ _ _
  obtain ⟨t, ht'⟩ := Option.isSome_iff_exists.1 hs
  have hp : putA H A (.cells (l.set i (.bool v)) e sz g) = some ⟨t, H.next⟩ := by unfold putA; rw [ht']
  refine ⟨_, hp, ?_⟩
  have e1 : bInt .lss (.int .i64 (.ofNat i)) (.int .i64 (.ofNat N)) = some (.bool true) := by
    have : ilt (.ofNat i) (.ofNat N) = true := by simpa [ilt] using hN
    simp only [bInt, abinI, keq, cond_true, this, mkB]
  have e2 : cset l (0 + i * 1) [.bool v] = some (l.set i (.bool v)) := by
    unfold cset; rw [Nat.zero_add, Nat.mul_one, cset_b l i v hb hi]
  have e3 : bInt .add (.int .i64 (.ofNat i)) (.int .i64 (.ofNat 1)) = some (.int .i64 (.ofNat (i + 1))) := badd (by rw [Nat.blt_eq] at h8; omega)
  have e4 : ixSl 1 (.slice A 0 len cc) (.int .i64 (.ofNat i)) = some (.ptr A (0 + i * 1)) := by
    have : Nat.blt i len = true := by rw [Nat.blt_eq]; exact hl
    simp only [ixSl, natOf, this, cond_true, fN_eq]
  have e5 : stNp 1 (.ptr A (0 + i * 1)) (.bool v) H = some (undefA, ⟨t, H.next⟩) := by
    simp only [stNp, hA, cellsA, e2, hp]
    rfl
  simp only [f131l0, hd, bV, bR, cnd, noPan, pNil, fAd, fN_eq, e1, hC, hV, ht, e4, e5, e3]
  simp [chk, aveq]
theorem f131l0_end (D : Dyn) (n : Nat) (x0 x4 : AV) (N : Nat) (H : AH) : f131l0 D n [x0, x4, .int .i64 (.ofNat N), .int .i64 (.ofNat N)] H = some (.exit 0 [x0, x4], H) := by
  have e1 : bInt .lss (.int .i64 (.ofNat N)) (.int .i64 (.ofNat N)) = some (.bool false) := by
    have : ilt (.ofNat N) (.ofNat N) = false := by show Nat.blt N N = false; rw [Bool.eq_false_iff, ne_eq, Nat.blt_eq]; omega
    simp only [bInt, abinI, keq, cond_true, this, mkB]
  simp only [f131l0, hd, bV, cnd, e1]
theorem fillB_put {Q p m : Nat} {H H' : AH} {A : Nat} {o : AObj} (h : putA H A o = some H') (hQ : Q ≠ A) : ∀ k i, fillB Q p m H' k i = fillB Q p m H k i
  | 0, _ => rfl
  | k + 1, i => by rw [fillB, fillB, ld1p_put h hQ, fillB_put h hQ k (i + 1)]
theorem fill_ok (D : Dyn) (n0 : Nat) {V vo C co S o Q p m A len cc a b0 : Nat} {e : TypeId} {sz : Nat} {g : Bool} (hCA : C ≠ A) (hVA : V ≠ A) (hSA : S ≠ A) (hQA : Q ≠ A) :
    ∀ (k i n : Nat) (H : AH) (l bs : List AV), H.h.get A = some (.cells l e sz g) → allB l = true → i + k ≤ l.length → i + k ≤ len → k < n →
      ld1p (.ptr C co) H = some (.slice A 0 len cc) → ld1p (.ptr V (vo + 0)) H = some (.ptr S o) → ld1p (.ptr S (o + 2)) H = some (.ptr a b0) → ld1p (.ptr S (o + 4)) H = some (.ptr Q p) →
      ld1p (.ptr Q (p + 0)) H = some (.int .i64 (.ofNat m)) → fillB Q p m H k i = some bs →
      ∃ H', loopK n (f131l0 D n0) [.ptr V vo, .ptr C co, .int .i64 (.ofNat (i + k)), .int .i64 (.ofNat i)] H = some (.exit 0 [.ptr V vo, .ptr C co], H') ∧
        (k = 0 → H' = H) ∧ (0 < k → putA H A (.cells (l.take i ++ (bs ++ l.drop (i + k))) e sz g) = some H')
  | 0, i, n, H, l, bs, hA, hb, hl, hL, hn, hC, hV, h1, h2, h3, hf => by
    obtain ⟨n, rfl⟩ : ∃ j, n = j + 1 := ⟨n - 1, by omega⟩
    refine ⟨H, ?_, fun _ => rfl, fun h => absurd h (by omega)⟩
    show jn (f131l0 D n0 [_, _, .int .i64 (.ofNat (i + 0)), .int .i64 (.ofNat i)] H) _ = _
    rw [Nat.add_zero, f131l0_end]; rfl
  | k + 1, i, n, H, l, bs, hA, hb, hl, hL, hn, hC, hV, h1, h2, h3, hf => by
    obtain ⟨n, rfl⟩ : ∃ j, n = j + 1 := ⟨n - 1, by omega⟩
    rw [fillB, cond_eq_ite] at hf
    split at hf
    · rename_i hmm
      rw [Bool.and_eq_true] at hmm
      obtain ⟨hm, h8⟩ := hmm
      split at hf
      · rename_i b h4
        split at hf
        · rename_i bs' hf'
          cases hf
          obtain ⟨H1, hp, hs⟩ := fill_step D n0 (N := i + (k + 1)) hA hb (by omega) (by omega) (by omega) hm h8 hC hV h1 h2 h3 h4
          have hA1 : H1.h.get A = some (.cells (l.set i (.bool (bif Nat.beq b 1 then true else Nat.beq b 2))) e sz g) := by
            unfold putA at hp
            split at hp
            · rename_i t ht; cases hp; show T.get t A = _; rw [T.get_set _ _ _ _ _ ht, if_pos rfl]
            · cases hp
          obtain ⟨H', r1, r2, r3⟩ := fill_ok D n0 hCA hVA hSA hQA k (i + 1) n H1 _ bs' hA1 (allB_set _ _ _ hb) (by rw [List.length_set]; omega) (by omega) (by omega)
            ((ld1p_put hp hCA _).trans hC) ((ld1p_put hp hVA _).trans hV) ((ld1p_put hp hSA _).trans h1) ((ld1p_put hp hSA _).trans h2) ((ld1p_put hp hQA _).trans h3) ((fillB_put hp hQA _ _).trans hf')
          refine ⟨H', ?_, fun h => by omega, fun _ => ?_⟩
          · show jn (f131l0 D n0 [_, _, .int .i64 (.ofNat (i + (k + 1))), .int .i64 (.ofNat i)] H) (loopK n (f131l0 D n0)) = _
            rw [hs]
            show loopK n (f131l0 D n0) _ H1 = _
            rw [show i + (k + 1) = i + 1 + k by omega]; exact r1
          · have hrow : (l.set i (.bool (bif Nat.beq b 1 then true else Nat.beq b 2))).take (i + 1) ++ (bs' ++ (l.set i (.bool (bif Nat.beq b 1 then true else Nat.beq b 2))).drop (i + 1 + k)) = l.take i ++ (.bool (bif Nat.beq b 1 then true else Nat.beq b 2) :: bs' ++ l.drop (i + (k + 1))) := by
              exact row_eq l i k _ bs' (by omega)
            cases k with
            | zero =>
              rw [r2 rfl]
              have : bs' = [] := by rw [fillB] at hf'; cases hf'; rfl
              subst this
              rw [← hp]; congr 2
              rw [List.set_eq_take_append_cons_drop, if_pos (by omega)]; rfl
            | succ k =>
              have := r3 (by omega)
              rw [hrow, putA_putA hp] at this
              exact this
        · cases hf
      · cases hf
    · cases hf
theorem bne {x y : Nat} (h : Nat.beq x y = false) : x ≠ y := fun e => by subst e; rw [show Nat.beq x x = true from Nat.beq_refl x] at h; cases h
def fillK (n : Nat) (x0 x4 x32 : AV) (H : AH) : Rs := match x0, x4, x32 with
  | .ptr V vo, .ptr C co, .int .i64 (.ofNat N) => match ld1p (.ptr C co) H with
    | some (.slice A 0 len cc) => match ld1p (.ptr V (vo + 0)) H with
      | some (.ptr S o) => match ld1p (.ptr S (o + 2)) H with
        | some (.ptr _ _) => match ld1p (.ptr S (o + 4)) H with
          | some (.ptr Q p) => match ld1p (.ptr Q (p + 0)) H with
            | some (.int .i64 (.ofNat m)) => match H.h.get A with
              | some (.cells l e sz g) => bif Nat.blt 0 N && Nat.blt N n && Nat.ble N l.length && Nat.ble N len && allB l && !Nat.beq C A && !Nat.beq V A && !Nat.beq S A && !Nat.beq Q A then match fillB Q p m H N 0 with
                | some bs => match putA H A (.cells (bs ++ l.drop N) e sz g) with
                  | some H' => some (.exit 0 [.ptr V vo, .ptr C co], H')
                  | none => none
                | none => none else none
              | _ => none
            | _ => none
          | _ => none
        | _ => none
      | _ => none
    | _ => none
  | _, _, _ => none
theorem fillK_le (D : Dyn) (n0 n : Nat) (x0 x4 x32 : AV) (H : AH) (r : Ex × AH) (h : fillK n x0 x4 x32 H = some r) : loopK n (f131l0 D n0) [x0, x4, x32, .int .i64 (.ofNat 0)] H = some r := by
  unfold fillK at h
  split at h
  · rename_i V vo C co N
    split at h
    · rename_i A len cc hC
      split at h
      · rename_i S o hV
        split at h
        · rename_i a b0 h1
          split at h
          · rename_i Q p h2
            split at h
            · rename_i m h3
              split at h
              · rename_i l e sz g hA
                rw [cond_eq_ite] at h
                split at h
                · rename_i hc
                  simp only [Bool.and_eq_true, Nat.blt_eq, Nat.ble_eq, Bool.not_eq_true'] at hc
                  obtain ⟨⟨⟨⟨⟨⟨⟨⟨c0, c1⟩, c2⟩, c3⟩, c4⟩, c5⟩, c6⟩, c7⟩, c8⟩ := hc
                  split at h
                  · rename_i bs hf
                    split at h
                    · rename_i H' hp
                      cases h
                      obtain ⟨H2, r1, _, r3⟩ := fill_ok D n0 (bne c5) (bne c6) (bne c7) (bne c8) N 0 n H l bs hA c4 (by omega) (by omega) c1 hC hV h1 h2 h3 hf
                      have := r3 c0
                      rw [List.take_zero, List.nil_append, Nat.zero_add, hp] at this
                      cases this
                      rw [Nat.zero_add] at r1
                      exact r1
                    · cases h
                  · cases h
                · cases h
              · cases h
            · cases h
          · cases h
        · cases h
      · cases h
    · cases h
  · cases h
def f131j5q (D : Dyn) (n : Nat) (vs : List AV) (H : AH) : Rs :=
  hd vs fun x0_2 vs => 
  bV (pNil x0_2) fun x26 => 
  bV (fAd 0 x26) fun x27 => 
  bV (ld1p x27 H) fun x28 => 
  bR (noPan (f120 D n [x28] H)) fun x29 H => 
  bA (mkSlp 4 1 1 [(.bool false)] x29 x29) H fun x30 H => 
  bA (bxV 36 .nilSlice) H fun x4 H => 
  bR (stNp 1 x4 x30 H) fun x9999 H => 
  bV (ld1p x4 H) fun x31 => 
  bV (lnSl x31) fun x32 => 
  jb 0 (fillK n x0_2 x4 x32 H) (f131b4 D n)
theorem f131j5q_le (D : Dyn) (n : Nat) (vs : List AV) (H : AH) (r : Ex × AH) : f131j5q D n vs H = some r → f131j5 D n vs H = some r := by
  unfold f131j5q f131j5
  repeat first | refine hd_le fun _ _ => ?_ | refine nl_le ?_ | refine bV_le fun _ => ?_ | refine bR_le fun _ _ => ?_ | refine bA_le fun _ _ => ?_
  exact jb_le fun s => fillK_le D n n _ _ _ _ s
def f131q (D : Dyn) (n : Nat) (vs : List AV) (H : AH) : Option (AV × AH) :=
  outR (hd vs fun x0 vs => nl vs <|
  bR (noPan (f126 D n [x0] H)) fun x14 H => 
  cnd x14 (bV (some (.int .i64 (.ofNat 2))) fun x2 => some (.ret x2, H))
  (bV (pNil x0) fun x16 => 
  bV (fAd 1 x16) fun x17 => 
  bV (ld1p x17 H) fun x18 => 
  bV (bInt .gtr x18 (.int .i64 (.ofNat 0))) fun x19 => 
  jn (cnd x19 (bR (noPan (D.fn 198 [x0] H)) fun x21 H => 
  bV (bInt .neq x21 (.int .i64 (.ofNat 0))) fun x23 => 
  cnd x23 (bV (some x21) fun x2_2 => some (.ret x2_2, H))
  (some (.norm [x0], H)))
  (some (.norm [x0], H))) (f131j5q D n)))
theorem f131q_le (D : Dyn) (n : Nat) (vs : List AV) (H : AH) (r : AV × AH) : f131q D n vs H = some r → f131 D n vs H = some r := by
  unfold f131q f131
  refine outR_le fun s => ?_
  repeat first | refine hd_le fun _ _ => ?_ | refine nl_le ?_ | refine bV_le fun _ => ?_ | refine bR_le fun _ _ => ?_ | refine bA_le fun _ _ => ?_ | (with_reducible exact fun h => h) | refine cnd_le ?_ ?_ | refine jn_le fun _ _ => f131j5q_le D n _ _ _
def m131 (D : Dyn) (n : Nat) (vs : List AV) (H : AH) : Option (AV × AH) := orF (f131q D n) (f131 D n) vs H
theorem m131_ok {D : Dyn} (hD : DP D) (n : Nat) : FP 131 (m131 D n) := orF_okP (f131_ok hD n) (f131q_le D n)
attribute [local irreducible] m131 f131l0 f131j1 f131l2 f131b3 f131b4 f131j5 f131 f131j5q f131q
end Go.Eng.Sh
