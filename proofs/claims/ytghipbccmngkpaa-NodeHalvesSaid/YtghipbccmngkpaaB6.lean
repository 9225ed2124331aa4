/- A checked evaluator for the program, part 6: no condition. -/
import Derived.Test.YtghipbccmngkpaaB5
import Derived.Test.YtghipbccmngkpaaRows
import Derived.ProofKit
import Derived.OpenShut
import Derived.Carry
set_option linter.all false
set_option linter.unusedVariables false
set_option linter.unusedSimpArgs false
section
namespace Go.Eng.Sh
open Go.Nd (Ptr sumL)
/-- An element of a row of one's own is written over. -/
theorem Own.st {k e n : Nat} {H : AH} {v : AV} {l : List AV} (h : Own k e H v n l) (hk : H.ok) (hpos : 0 < k) {i : Nat} (hi : i < n) {x : AV} (hx : (cellsA x).length = k) (hc : allCells (cellsA x) = true) :
    ∃ p H' l', (∀ κ (z : Int), z = (i : Int) → ixSl k v (.int κ z) = some p) ∧ stN k p x H = some (undefA, H') ∧ Own k e H' v n l' ∧ Stp (Blk v) H H' := by
  obtain ⟨h0, ⟨_, rfl⟩ | ⟨A, rfl, hA, hg⟩⟩ := h
  · omega
  · have hik : i * k + k ≤ n * k := by rw [← Nat.succ_mul]; exact Nat.mul_le_mul_right _ hi
    have hb : Nat.blt i n = true := by rw [Nat.blt_eq]; exact hi
    refine ⟨.ptr A (0 + i * k), _, _, fun κ z hz => ?_, stN_ok hg hpos hx hc (by omega), ⟨?_, .inr ⟨A, rfl, hA, by rw [AH.put_get, if_pos rfl]⟩⟩, (Stp.refl hk).put hA _ (.inr (Blk.slice.2 rfl))⟩
    · subst hz
      simp only [ixSl, natOf_int κ (show (0 : Int) ≤ (i : Int) by omega), Int.toNat_natCast, hb, cond_true, fN_eq]
    · simp only [List.length_append, List.length_take, List.length_drop, hx]; omega
theorem spoil0 (D : Dyn) (n : Nat) {H : AH} (hk : H.ok) {kv : AV} {N : Nat} {l : List AV} (h : Own 1 9 H kv N l) {A : Nat} {c : List AV} {e : TypeId} (hA : H.h.get A = some (.cells c e 1 false)) (hc : c[1]? = some kv) (hb : ¬ Blk kv A) (hN : N ≤ 1000000000) (x y : AV) (n' : Nat) (hn : N < n') :
    ∃ H', loopK n' (f17l0 D n) [.ptr A 0, x, y, .int .i64 (0 : Nat)] H = some (.exit 0 [.ptr A 0, x, y], H') ∧ Stp (Blk kv) H H' := by
  obtain ⟨m, us, H', k1, rfl, k2, l', k3⟩ := loop_inv (b := f17l0 D n) N (fun i us H' => us = [.ptr A 0, x, y, .int .i64 (i : Nat)] ∧ Stp (Blk kv) H H' ∧ ∃ l, Own 1 9 H' kv N l) (fun i us H1 hi ⟨hus, hs, l, hl⟩ => by
    subst hus
    obtain ⟨p, H2, l', p1, p2, p3, p4⟩ := Own.st hl hs.ok (by decide) hi (x := .str 6 128008974200947) rfl rfl
    have hA1 : H1.h.get A = some (.cells c e 1 false) := (hs.keep A (hk.lt hA) hb).trans hA
    have hiI : ((i : Nat) : Int) < ((N : Nat) : Int) := by omega
    refine ⟨_, H2, ?_, rfl, hs.trans p4, l', p3⟩
    simp (disch := omega) only [f17l0, ev, lg, wnt_undef, if_true, if_false, decide_true, decide_false, Bool.not_true, Bool.not_false, Bool.false_eq_true, Bool.true_eq_false, Bool.and_true, Bool.true_and, Bool.and_false, Bool.false_and, Bool.or_true, Bool.true_or, Bool.or_false, Bool.false_or, ld1_get hA1, hc, hl.row.lnSl, hiI, p1, p2, Int.natCast_add]) n' _ H ⟨rfl, Stp.refl hk, l, h⟩ hn
  have hA1 : H'.h.get A = some (.cells c e 1 false) := (k2.keep A (hk.lt hA) hb).trans hA
  exact ⟨H', k1.trans (loop_exit (by simp only [f17l0, ev, lg, wnt_undef, if_true, if_false, decide_true, decide_false, Bool.not_true, Bool.not_false, Bool.false_eq_true, Bool.true_eq_false, Bool.and_true, Bool.true_and, Bool.and_false, Bool.false_and, Bool.or_true, Bool.true_or, Bool.or_false, Bool.false_or, ld1_get hA1, hc, k3.row.lnSl, Int.lt_irrefl])), k2⟩
theorem spoil1 (D : Dyn) (n : Nat) {H : AH} (hk : H.ok) {kv : AV} {N : Nat} {l : List AV} (h : Own 1 9 H kv N l) {A : Nat} {c : List AV} {e : TypeId} (hA : H.h.get A = some (.cells c e 1 false)) (hc : c[2]? = some kv) (hb : ¬ Blk kv A) (hN : N ≤ 1000000000) (x y : AV) (n' : Nat) (hn : N < n') :
    ∃ H', loopK n' (f17l1 D n) [.ptr A 0, x, y, .int .i64 (0 : Nat)] H = some (.exit 2 [.ptr A 0, x, y], H') ∧ Stp (Blk kv) H H' := by
  obtain ⟨m, us, H', k1, rfl, k2, l', k3⟩ := loop_inv (b := f17l1 D n) N (fun i us H' => us = [.ptr A 0, x, y, .int .i64 (i : Nat)] ∧ Stp (Blk kv) H H' ∧ ∃ l, Own 1 9 H' kv N l) (fun i us H1 hi ⟨hus, hs, l, hl⟩ => by
    subst hus
    obtain ⟨p, H2, l', p1, p2, p3, p4⟩ := Own.st hl hs.ok (by decide) hi (x := .str 6 128008974200947) rfl rfl
    have hA1 : H1.h.get A = some (.cells c e 1 false) := (hs.keep A (hk.lt hA) hb).trans hA
    have hiI : ((i : Nat) : Int) < ((N : Nat) : Int) := by omega
    refine ⟨_, H2, ?_, rfl, hs.trans p4, l', p3⟩
    simp (disch := omega) only [f17l1, ev, lg, wnt_undef, if_true, if_false, decide_true, decide_false, Bool.not_true, Bool.not_false, Bool.false_eq_true, Bool.true_eq_false, Bool.and_true, Bool.true_and, Bool.and_false, Bool.false_and, Bool.or_true, Bool.true_or, Bool.or_false, Bool.false_or, ld1_get hA1, hc, hl.row.lnSl, hiI, p1, p2, Int.natCast_add]) n' _ H ⟨rfl, Stp.refl hk, l, h⟩ hn
  have hA1 : H'.h.get A = some (.cells c e 1 false) := (k2.keep A (hk.lt hA) hb).trans hA
  exact ⟨H', k1.trans (loop_exit (by simp only [f17l1, ev, lg, wnt_undef, if_true, if_false, decide_true, decide_false, Bool.not_true, Bool.not_false, Bool.false_eq_true, Bool.true_eq_false, Bool.and_true, Bool.true_and, Bool.and_false, Bool.false_and, Bool.or_true, Bool.true_or, Bool.or_false, Bool.false_or, ld1_get hA1, hc, k3.row.lnSl, Int.lt_irrefl])), k2⟩
theorem spoil2 (D : Dyn) (n : Nat) {H : AH} (hk : H.ok) {kv : AV} {N : Nat} {l : List AV} (h : Own 3 59 H kv N l) {A : Nat} {c : List AV} {e : TypeId} (hA : H.h.get A = some (.cells c e 1 false)) (hc : c[3]? = some kv) (hb : ¬ Blk kv A) (hN : N ≤ 1000000000) (x y : AV) (n' : Nat) (hn : N < n') :
    ∃ H', loopK n' (f17l2 D n) [.ptr A 0, x, y, .int .i64 (0 : Nat)] H = some (.exit 4 [x, y], H') ∧ Stp (Blk kv) H H' := by
  have hbd : bldS [(0, 1), (1, 1), (2, 1)] [.int .i64 ((0 : Nat) : Int), .int .i64 ((0 : Nat) : Int), .int .u64 ((0 : Nat) : Int)] [(0, .int .i64 (Int.negSucc 0))] = some (.agg [.int .i64 (Int.negSucc 0), .int .i64 ((0 : Nat) : Int), .int .u64 ((0 : Nat) : Int)]) := rfl
  obtain ⟨m, us, H', k1, rfl, k2, l', k3⟩ := loop_inv (b := f17l2 D n) N (fun i us H' => us = [.ptr A 0, x, y, .int .i64 (i : Nat)] ∧ Stp (Blk kv) H H' ∧ ∃ l, Own 3 59 H' kv N l) (fun i us H1 hi ⟨hus, hs, l, hl⟩ => by
    subst hus
    obtain ⟨p, H2, l', p1, p2, p3, p4⟩ := Own.st hl hs.ok (by decide) hi (x := .agg [.int .i64 (Int.negSucc 0), .int .i64 ((0 : Nat) : Int), .int .u64 ((0 : Nat) : Int)]) rfl rfl
    have hA1 : H1.h.get A = some (.cells c e 1 false) := (hs.keep A (hk.lt hA) hb).trans hA
    have hiI : ((i : Nat) : Int) < ((N : Nat) : Int) := by omega
    refine ⟨_, H2, ?_, rfl, hs.trans p4, l', p3⟩
    simp (disch := omega) only [f17l2, ev, lg, wnt_undef, if_true, if_false, decide_true, decide_false, Bool.not_true, Bool.not_false, Bool.false_eq_true, Bool.true_eq_false, Bool.and_true, Bool.true_and, Bool.and_false, Bool.false_and, Bool.or_true, Bool.true_or, Bool.or_false, Bool.false_or, ld1_get hA1, hc, hl.row.lnSl, hiI, hbd, p1, p2, Int.natCast_add]) n' _ H ⟨rfl, Stp.refl hk, l, h⟩ hn
  have hA1 : H'.h.get A = some (.cells c e 1 false) := (k2.keep A (hk.lt hA) hb).trans hA
  exact ⟨H', k1.trans (loop_exit (by simp only [f17l2, ev, lg, wnt_undef, if_true, if_false, decide_true, decide_false, Bool.not_true, Bool.not_false, Bool.false_eq_true, Bool.true_eq_false, Bool.and_true, Bool.true_and, Bool.and_false, Bool.false_and, Bool.or_true, Bool.true_or, Bool.or_false, Bool.false_or, ld1_get hA1, hc, k3.row.lnSl, Int.lt_irrefl])), k2⟩
theorem back_ok (D : Dyn) (n : Nat) (hn : 200000000 ≤ n) {H00 H : AH} (hk : H.ok) (h00 : H00.next ≤ H.next) (hkeep : Prs H00 H) {v : AV} {nd : Nd.Node} (h : NodeO H00 H v nd) (hs : small nd) :
    ∃ v' H', f17 D n [v] H = some (v', H') ∧ Prs H00 H' ∧ NodeV H' v' nd := by
  obtain ⟨ks, vs, ps, rfl, o1, o2, o3, ob, d1, d2⟩ := h
  have h1 : Strs H ks nd.keys := o1.row
  have h2 : Strs H vs nd.vals := o2.row
  have h3 : Ptrs H ps nd.kids := o3.row
  have l1 : ∀ B, Blk ks B → B < H.next := fun B hB => Own.lt o1 hB
  have l2 : ∀ B, Blk vs B → B < H.next := fun B hB => Own.lt o2 hB
  have l3 : ∀ B, Blk ps B → B < H.next := fun B hB => Own.lt o3 hB
  have p1 : Prs H (H.push (.cells [.bool nd.leaf, ks, vs, ps] 34 1 false)) := (Stp.refl hk).push _
  have g1 : (H.push (.cells [.bool nd.leaf, ks, vs, ps] 34 1 false)).h.get H.next = some (.cells [.bool nd.leaf, ks, vs, ps] 34 1 false) := AH.push_get_eq _ _
  have n1 : (H.push (.cells [.bool nd.leaf, ks, vs, ps] 34 1 false)).next = H.next + 1 := rfl
  generalize hH1 : H.push (.cells [.bool nd.leaf, ks, vs, ps] 34 1 false) = H1 at p1 g1 n1
  have p2 : Prs H1 (H1.push (.cells [.bool false, .nilSlice, .nilSlice, .nilSlice] 28 1 false)) := (Stp.refl p1.ok).push _
  have g2 : (H1.push (.cells [.bool false, .nilSlice, .nilSlice, .nilSlice] 28 1 false)).h.get H1.next = some (.cells [.bool false, .nilSlice, .nilSlice, .nilSlice] 28 1 false) := AH.push_get_eq _ _
  have n2 : (H1.push (.cells [.bool false, .nilSlice, .nilSlice, .nilSlice] 28 1 false)).next = H1.next + 1 := rfl
  have g12 := p2.get p1.ok g1
  generalize hH2 : H1.push (.cells [.bool false, .nilSlice, .nilSlice, .nilSlice] 28 1 false) = H2 at p2 g2 n2 g12
  have p3 : Prs H2 (H2.push (.cells [] 9 1 false)) := (Stp.refl p2.ok).push _
  have g3 : (H2.push (.cells [] 9 1 false)).h.get H2.next = some (.cells [] 9 1 false) := AH.push_get_eq _ _
  have n3 : (H2.push (.cells [] 9 1 false)).next = H2.next + 1 := rfl
  have g13 := p3.get p2.ok g12
  have g23 := p3.get p2.ok g2
  generalize hH3 : H2.push (.cells [] 9 1 false) = H3 at p3 g3 n3 g13 g23
  have p4 : Prs H3 (H3.push (.cells [] 9 1 false)) := (Stp.refl p3.ok).push _
  have g4 : (H3.push (.cells [] 9 1 false)).h.get H3.next = some (.cells [] 9 1 false) := AH.push_get_eq _ _
  have n4 : (H3.push (.cells [] 9 1 false)).next = H3.next + 1 := rfl
  have g14 := p4.get p3.ok g13
  have g24 := p4.get p3.ok g23
  have g34 := p4.get p3.ok g3
  generalize hH4 : H3.push (.cells [] 9 1 false) = H4 at p4 g4 n4 g14 g24 g34
  have p5 : Prs H4 (H4.push (.cells [] 59 3 false)) := (Stp.refl p4.ok).push _
  have g5 : (H4.push (.cells [] 59 3 false)).h.get H4.next = some (.cells [] 59 3 false) := AH.push_get_eq _ _
  have n5 : (H4.push (.cells [] 59 3 false)).next = H4.next + 1 := rfl
  have g15 := p5.get p4.ok g14
  have g25 := p5.get p4.ok g24
  have g35 := p5.get p4.ok g34
  have g45 := p5.get p4.ok g4
  generalize hH5 : H4.push (.cells [] 59 3 false) = H5 at p5 g5 n5 g15 g25 g35 g45
  have p6 : Prs H5 (H5.push (.cells [.bool false, .nilSlice, .nilSlice, .nilSlice] 28 1 false)) := (Stp.refl p5.ok).push _
  have g6 : (H5.push (.cells [.bool false, .nilSlice, .nilSlice, .nilSlice] 28 1 false)).h.get H5.next = some (.cells [.bool false, .nilSlice, .nilSlice, .nilSlice] 28 1 false) := AH.push_get_eq _ _
  have n6 : (H5.push (.cells [.bool false, .nilSlice, .nilSlice, .nilSlice] 28 1 false)).next = H5.next + 1 := rfl
  have g16 := p6.get p5.ok g15
  have g26 := p6.get p5.ok g25
  have g36 := p6.get p5.ok g35
  have g46 := p6.get p5.ok g45
  have g56 := p6.get p5.ok g5
  generalize hH6 : H5.push (.cells [.bool false, .nilSlice, .nilSlice, .nilSlice] 28 1 false) = H6 at p6 g6 n6 g16 g26 g36 g46 g56
  have P6 : Prs H H6 := ((((p1.trans p2).trans p3).trans p4).trans p5).trans p6
  obtain ⟨k', v', p', H7, H8, H9, a7, a8, a9, t7, t8, t9, r1, r2, r3, fb⟩ := copy3 P6.ok (h1.prs P6) (h2.prs P6) (h3.prs P6) hs g36 g46 g56 (by omega) (by omega) (by omega) (N := H2.next) (fun B hB => by have := l1 B hB; omega) (fun B hB => by have := l2 B hB; omega) (fun B hB => by have := l3 B hB; omega) (by omega) (by omega) (by omega)
  have m7 := t7.next
  have m8 := t8.next
  have m9 := t9.next
  have k17 : H7.h.get H.next = some (.cells [.bool nd.leaf, ks, vs, ps] 34 1 false) := (t7.keep _ (by omega) (by omega)).trans g16
  have k18 : H8.h.get H.next = some (.cells [.bool nd.leaf, ks, vs, ps] 34 1 false) := (t8.keep _ (by omega) (by omega)).trans k17
  have k19 : H9.h.get H.next = some (.cells [.bool nd.leaf, ks, vs, ps] 34 1 false) := (t9.keep _ (by omega) (by omega)).trans k18
  have T9 : Stp (fun B => H2.next ≤ B ∧ (B = H2.next ∨ B = H3.next ∨ B = H4.next)) H6 H9 := ((t7.mono (fun B _ hB => ⟨hB.1, .inl hB.2⟩)).trans (t8.mono (fun B _ hB => ⟨hB.1, .inr (.inl hB.2)⟩))).trans (t9.mono (fun B _ hB => ⟨hB.1, .inr (.inr hB.2)⟩))
  have k29 : H9.h.get H1.next = some (.cells [.bool false, .nilSlice, .nilSlice, .nilSlice] 28 1 false) := (T9.keep _ (by omega) (by omega)).trans g26
  have k69 : H9.h.get H5.next = some (.cells [.bool false, .nilSlice, .nilSlice, .nilSlice] 28 1 false) := (T9.keep _ (by omega) (by omega)).trans g6
  have P9 : Prs H H9 := P6.fresh T9 (fun B hB => by omega)
  -- x3
  obtain ⟨Ha, ea, ga, sa, na⟩ := st_all t9.ok k69 (l' := [.bool nd.leaf, k', v', p']) rfl (allCells4 _ _ _ _ r1.isCell r2.isCell r3.isCell)
  have ea' : stN 4 (.ptr H5.next 0) (.agg [.bool nd.leaf, k', v', p']) H9 = some (undefA, Ha) := ea
  have Pa : Prs H Ha := P9.fresh sa (fun B hB => by omega)
  have k1a : Ha.h.get H.next = some (.cells [.bool nd.leaf, ks, vs, ps] 34 1 false) := (sa.keep _ (by omega) (by omega)).trans k19
  have k2a : Ha.h.get H1.next = some (.cells [.bool false, .nilSlice, .nilSlice, .nilSlice] 28 1 false) := (sa.keep _ (by omega) (by omega)).trans k29
  -- the old rows are written over
  have nxt := Pa.next
  obtain ⟨s1, s2, s3⟩ := hs
  have hkl := Nd.sumL_ge nd.keys
  have hvl := Nd.sumL_ge nd.vals
  have W : ∀ {Hx Hy : AH} {w : AV}, Stp (fun B => H00.next ≤ B ∧ B < H.next) Ha Hx → (∀ B, Blk w B → H00.next ≤ B ∧ B < H.next) → Stp (Blk w) Hx Hy → Stp (fun B => H00.next ≤ B ∧ B < H.next) Ha Hy := fun hx hw hy => hx.trans (hy.mono (fun B _ hB => hw B hB))
  have W0 : Stp (fun B => H00.next ≤ B ∧ B < H.next) Ha Ha := Stp.refl Pa.ok
  have bk1 : ∀ B, Blk ks B → H00.next ≤ B ∧ B < H.next := fun B hB => ⟨ob B (.inl hB), l1 B hB⟩
  have bk2 : ∀ B, Blk vs B → H00.next ≤ B ∧ B < H.next := fun B hB => ⟨ob B (.inr (.inl hB)), l2 B hB⟩
  have bk3 : ∀ B, Blk ps B → H00.next ≤ B ∧ B < H.next := fun B hB => ⟨ob B (.inr (.inr hB)), l3 B hB⟩
  obtain ⟨Hb, eb, sb⟩ := spoil0 D n Pa.ok (o1.mono Pa (fun _ _ x => x)) k1a rfl (fun hB => by have := l1 _ hB; omega) (by omega) (.ptr H1.next 0) (.ptr H5.next 0) n (by omega)
  have Wb := W W0 bk1 sb
  have k1b : Hb.h.get H.next = some (.cells [.bool nd.leaf, ks, vs, ps] 34 1 false) := (Wb.keep _ (by omega) (by omega)).trans k1a
  have o2b : Own 1 9 Hb vs nd.vals.length (nd.vals.map S) := (o2.mono Pa (fun _ _ x => x)).mono sb (fun B hB hh => (d1 B hh).1 hB)
  have o3b : Own 3 59 Hb ps nd.kids.length (nd.kids.flatMap ptrV) := (o3.mono Pa (fun _ _ x => x)).mono sb (fun B hB hh => (d1 B hh).2 hB)
  obtain ⟨Hc, ec, sc⟩ := spoil1 D n Wb.ok o2b k1b rfl (fun hB => by have := l2 _ hB; omega) (by omega) (.ptr H1.next 0) (.ptr H5.next 0) n (by omega)
  have Wc := W Wb bk2 sc
  have nb := Wb.next
  have nc := Wc.next
  have k1c : Hc.h.get H.next = some (.cells [.bool nd.leaf, ks, vs, ps] 34 1 false) := (Wc.keep _ (by omega) (by omega)).trans k1a
  have o3c : Own 3 59 Hc ps nd.kids.length (nd.kids.flatMap ptrV) := o3b.mono sc (fun B hB hh => d2 B hh hB)
  obtain ⟨Hd, ed, sd⟩ := spoil2 D n Wc.ok o3c k1c rfl (fun hB => by have := l3 _ hB; omega) (by omega) (.ptr H1.next 0) (.ptr H5.next 0) n (by omega)
  have Wd := W Wc bk3 sd
  have nd' := Wd.next
  have k6d : Hd.h.get H5.next = some (.cells [.bool nd.leaf, k', v', p'] 28 1 false) := (Wd.keep _ (by omega) (by omega)).trans ga
  have k2d : Hd.h.get H1.next = some (.cells [.bool false, .nilSlice, .nilSlice, .nilSlice] 28 1 false) := (Wd.keep _ (by omega) (by omega)).trans k2a
  obtain ⟨He, ee, ge, se, ne⟩ := st_all Wd.ok k2d (l' := [.bool nd.leaf, k', v', p']) rfl (allCells4 _ _ _ _ r1.isCell r2.isCell r3.isCell)
  have ee' : stN 4 (.ptr H1.next 0) (.agg [.bool nd.leaf, k', v', p']) Hd = some (undefA, He) := ee
  have hz1 : bldL 9 1 0 [.str 0 0] [] = some (.cells [] 9 1 false, fun A => .slice A 0 0 0) := rfl
  have hz2 : ∀ a b c : AV, bldL 59 3 0 [a, b, c] [] = some (.cells [] 59 3 false, fun A => .slice A 0 0 0) := fun _ _ _ => rfl
  have q1 : ∀ B, Blk k' B ∨ Blk v' B ∨ Blk p' B → ¬ B = H5.next := fun B hB => by have := fb B hB; omega
  have q2 : ∀ B, Blk k' B ∨ Blk v' B ∨ Blk p' B → ¬ (H00.next ≤ B ∧ B < H.next) := fun B hB => by have := fb B hB; omega
  have q3 : ∀ B, Blk k' B ∨ Blk v' B ∨ Blk p' B → ¬ B = H1.next := fun B hB => by have := fb B hB; omega
  have keepR : ∀ {j m : Nat} {w : AV} {l : List AV}, Rw j H9 w m l → (∀ B, Blk w B → Blk k' B ∨ Blk v' B ∨ Blk p' B) → Rw j He w m l := fun hr hw =>
    Rw.stp (Rw.stp (Rw.stp hr sa (fun B hB => q1 B (hw B hB))) Wd (fun B hB => q2 B (hw B hB))) se (fun B hB => q3 B (hw B hB))
  refine ⟨.agg [.bool nd.leaf, k', v', p'], He, ?_, ?_, ⟨k', v', p', rfl, keepR r1 (fun B hB => .inl hB), keepR r2 (fun B hB => .inr (.inl hB)), keepR r3 (fun B hB => .inr (.inr hB))⟩⟩
  · simp only [f17, ev, lg, wnt_undef, if_true, if_false, decide_true, decide_false, Bool.not_true, Bool.not_false, Bool.false_eq_true, Bool.true_eq_false, Bool.and_true, Bool.true_and, Bool.and_false, Bool.false_and, Bool.or_true, Bool.true_or, Bool.or_false, Bool.false_or, bA_ok hk, hH1, bA_ok p1.ok, hH2, ld1_get g12, ld1_get g13, ld1_get g14, ld1_get g15, hz1, hz2, bA_ok p2.ok, hH3, bA_ok p3.ok, hH4, bA_ok p4.ok, hH5, bA_ok p5.ok, hH6, a7,
      chk_ok (ld1_get k17 0) (aveq_bool _), chk_ok (ld1_get k17 2) (aveq_row h2), chk_ok (ld1_get k17 3) (aveq_row h3), a8, chk_ok (ld1_get k18 0) (aveq_bool _), chk_ok (ld1_get k18 3) (aveq_row h3), a9, chk_ok (ld1_get k19 0) (aveq_bool _),
      bldN _ _ _ _ r1.isCell r2.isCell r3.isCell, ea', eb, f17b5, ec, f17b4, ed, f17b3, ldN_get k6d, sub4, Option.map_some, ee', ldN_get ge]
  · have W2 := (hkeep.trans Pa).fresh Wd (fun B hB => hB.1)
    exact W2.fresh se (fun B hB => by omega)
end Go.Eng.Sh
end
section
namespace Go.Eng.Sh
open Go.Nd (Ptr sumL)
theorem z_ok (D : Dyn) (n : Nat) (H : AH) : z11 D n [] H = some (.bool true, H) := rfl
theorem encR_may {nd : Nd.Node} (h : Nd.may ltS nd = true) : encR nd = (Nd.encN nd, 0) := by
  simp only [Nd.may, Bool.and_eq_true, decide_eq_true_eq] at h
  simp only [encR, h.1, if_true, if_pos h.2]
theorem encR_no {nd : Nd.Node} (h : Nd.may ltS nd = false) : ¬ (encR nd).2 = 0 := by
  simp only [Nd.may, Bool.and_eq_false_iff, decide_eq_false_iff_not] at h
  simp only [encR]
  split
  · rename_i hs
    split
    · rename_i hz
      rcases h with h | h
      · rw [h] at hs; cases hs
      · exact absurd hz h
    · simp
  · simp
theorem may_small {nd : Nd.Node} (h : Nd.may ltS nd = true) : small nd := by
  simp only [Nd.may, Bool.and_eq_true, decide_eq_true_eq] at h
  have h2 := h.2
  simp only [Nd.size] at h2
  exact ⟨by omega, by omega, by omega⟩
/-- The second half: any text that is read is written as it was. -/
theorem back2 (m n : Nat) (hm : 100 ≤ m) (hn : 200000000 ≤ n) {H : AH} (hk : H.ok) (leaf : Bool) (s : Str) :
    ∃ H', outR (f4zj0 (dy (m + 1)) n [.bool leaf, S s] H) = some (.bool true, H') ∧ Prs H H' := by
  obtain ⟨w, H1, e1, p1, hw, l, rfl, hl, hlc⟩ := decode_ok m n hn hk leaf s
  have p2 : Prs H1 (H1.push (.cells [.bool false, .nilSlice, .nilSlice, .nilSlice] 34 1 false)) := (Stp.refl p1.ok).push _
  have g2 : (H1.push (.cells [.bool false, .nilSlice, .nilSlice, .nilSlice] 34 1 false)).h.get H1.next = some (.cells [.bool false, .nilSlice, .nilSlice, .nilSlice] 34 1 false) := AH.push_get_eq _ _
  generalize hH2 : H1.push (.cells [.bool false, .nilSlice, .nilSlice, .nilSlice] 34 1 false) = H2 at p2 g2
  obtain ⟨H3, e3, g3, s3, n3⟩ := st_all p2.ok g2 (l' := l) hl hlc
  have e3' : stN 4 (.ptr H1.next 0) (.agg l) H2 = some (undefA, H3) := e3
  have P3 : Prs H H3 := p1.trans (p2.fresh s3 (fun B hB => by omega))
  cases hd : Nd.decN ltS leaf s with
  | none =>
    have hne : (((4 : Nat) : Int) ≠ ((0 : Nat) : Int)) := by omega
    rw [hd] at e1
    simp only [Option.isSome_none, Bool.false_eq_true, if_false] at e1
    refine ⟨H3, ?_, P3⟩
    simp only [f4zj0, ev, lg, wnt_undef, if_true, if_false, decide_true, decide_false, Bool.not_true, Bool.not_false, Bool.false_eq_true, Bool.true_eq_false, Bool.and_true, Bool.true_and, Bool.and_false, Bool.false_and, Bool.or_true, Bool.true_or, Bool.or_false, Bool.false_or, e1, pExtract, nth, bA_ok p1.ok, hH2, e3', hne, ne_eq, not_false_eq_true]
  | some nd =>
    obtain ⟨q1, q2, q3, q4⟩ := Nd.encN_decN hd
    have hO := hw nd hd
    have hV := hO.node
    obtain ⟨ks, vs, ps, hag, r1, r2, r3⟩ := hV
    simp only [AV.agg.injEq] at hag
    subst hag
    have hlk := hO
    obtain ⟨ks', vs', ps', hag', o1, o2, o3, ob, _⟩ := hO
    simp only [AV.agg.injEq, List.cons.injEq, and_true, true_and] at hag'
    obtain ⟨rfl, rfl, rfl⟩ := hag'
    have nb : ∀ B, Blk ks B ∨ Blk vs B ∨ Blk ps B → ¬ B = H1.next := fun B hB => by
      rcases hB with h | h | h
      · have := Own.lt o1 h; omega
      · have := Own.lt o2 h; omega
      · have := Own.lt o3 h; omega
    have hN : NodeV H3 (.agg [.bool nd.leaf, ks, vs, ps]) nd := ⟨ks, vs, ps, rfl, Rw.stp (Rw.prs r1 p2) s3 (fun B hB => nb B (.inl hB)), Rw.stp (Rw.prs r2 p2) s3 (fun B hB => nb B (.inr (.inl hB))), Rw.stp (Rw.prs r3 p2) s3 (fun B hB => nb B (.inr (.inr hB)))⟩
    obtain ⟨H4, e4, p4⟩ := encode_ok m n hm hn P3.ok hN (may_small q1) q4
    rw [encR_may q1, q2] at e4
    have g4 := p4.get P3.ok g3
    have h00 : ¬ (((0 : Nat) : Int) ≠ ((0 : Nat) : Int)) := by omega
    have hll : (nd.leaf == leaf) = true := by rw [q3]; simp
    rw [hd] at e1
    simp only [Option.isSome_some, if_true] at e1
    refine ⟨H4, ?_, P3.trans p4⟩
    simp only [f4zj0, ev, lg, wnt_undef, if_true, if_false, decide_true, decide_false, Bool.not_true, Bool.not_false, Bool.false_eq_true, Bool.true_eq_false, Bool.and_true, Bool.true_and, Bool.and_false, Bool.false_and, Bool.or_true, Bool.true_or, Bool.or_false, Bool.false_or, e1, pExtract, nth, bA_ok p1.ok, hH2, e3', h00, ldN_get g3, sub4, Option.map_some, e4, ld1_get g4, hll]
theorem nodeBack_walk (m n : Nat) (hm : 100 ≤ m) (hn : 200000000 ≤ n) {H : AH} (hk : H.ok) {v : AV} {nd : Nd.Node} (h : NodeV H v nd) (hsum : ∀ p ∈ nd.kids, Nd.sumOk p) (leaf : Bool) (s : Str) :
    ∃ H', f4z (dy (m + 1)) n [v, .bool leaf, S s] H = some (.bool true, H') ∧ Prs H H' := by
  have h0 := h
  obtain ⟨ks, vs, ps, rfl, h1, h2, h3⟩ := h
  have p1 : Prs H (H.push (.cells [.bool nd.leaf, ks, vs, ps] 28 1 false)) := (Stp.refl hk).push _
  have g1 : (H.push (.cells [.bool nd.leaf, ks, vs, ps] 28 1 false)).h.get H.next = some (.cells [.bool nd.leaf, ks, vs, ps] 28 1 false) := AH.push_get_eq _ _
  generalize hH1 : H.push (.cells [.bool nd.leaf, ks, vs, ps] 28 1 false) = H1 at p1 g1
  obtain ⟨b, H2, e2, p2, hb⟩ := long_ok (dy (m + 1)) n (by omega) p1.ok (h0.prs p1)
  cases b with
  | true =>
    refine ⟨H2, ?_, p1.trans p2⟩
    simp only [f4z, ev, lg, wnt_undef, if_true, if_false, decide_true, decide_false, Bool.not_true, Bool.not_false, Bool.false_eq_true, Bool.true_eq_false, Bool.and_true, Bool.true_and, Bool.and_false, Bool.false_and, Bool.or_true, Bool.true_or, Bool.or_false, Bool.false_or, bA_ok hk, hH1, ldN_get g1, sub4, Option.map_some, e2, z_ok]
  | false =>
    have hs := hb rfl
    by_cases hl : 2000 < s.length
    · have hlI : ((2000 : Nat) : Int) < ((s.length : Nat) : Int) := by omega
      refine ⟨H2, ?_, p1.trans p2⟩
      simp only [f4z, ev, lg, wnt_undef, if_true, if_false, decide_true, decide_false, Bool.not_true, Bool.not_false, Bool.false_eq_true, Bool.true_eq_false, Bool.and_true, Bool.true_and, Bool.and_false, Bool.false_and, Bool.or_true, Bool.true_or, Bool.or_false, Bool.false_or, bA_ok hk, hH1, ldN_get g1, sub4, Option.map_some, e2, z_ok, hlI]
    · have hlI : ¬ ((2000 : Nat) : Int) < ((s.length : Nat) : Int) := by omega
      have P2 : Prs H H2 := p1.trans p2
      have g2 := p2.get p1.ok g1
      obtain ⟨v3, H3, e3, p3, w3⟩ := given_ok (dy (m + 1)) n P2.ok (h0.prs P2) hs
      obtain ⟨H4, e4, p4⟩ := encode_ok m n hm hn p3.ok w3 hs hsum
      have P4 : Prs H H4 := (P2.trans p3).trans p4
      have g4 := p4.get p3.ok (p3.get p2.ok g2)
      obtain ⟨v5, H5, e5, p5, w5⟩ := given_ok (dy (m + 1)) n P4.ok (h0.prs P4) hs
      obtain ⟨H6, e6, p6⟩ := mayN_ok (dy (m + 1)) n p5.ok w5 hs hn
      have P6 : Prs H H6 := (P4.trans p5).trans p6
      have g6 := p6.get p5.ok (p5.get p4.ok g4)
      cases hmay : Nd.may ltS nd with
      | false =>
        have hne : ¬ (((encR nd).2 : Nat) : Int) = ((0 : Nat) : Int) := by have := encR_no hmay; omega
        obtain ⟨H7, e7, p7⟩ := back2 m n hm hn P6.ok leaf s
        refine ⟨H7, ?_, P6.trans p7⟩
        rw [hmay] at e6
        simp only [f4z, ev, lg, wnt_undef, if_true, if_false, decide_true, decide_false, Bool.not_true, Bool.not_false, Bool.false_eq_true, Bool.true_eq_false, Bool.and_true, Bool.true_and, Bool.and_false, Bool.false_and, Bool.or_true, Bool.true_or, Bool.or_false, Bool.false_or, bA_ok hk, hH1, ldN_get g1, sub4, Option.map_some, e2, z_ok, hlI, ldN_get g2, e3, e4, pExtract, nth, ldN_get g4, e5, e6, hne, beq_self_eq_true]
        exact e7
      | true =>
        rw [encR_may hmay] at e4
        rw [hmay] at e6
        have hdec := Nd.decN_encN hmay hsum
        obtain ⟨w, H7, e7, p7, hw, l, rfl, hll, hlc⟩ := decode_ok m n hn P6.ok nd.leaf (Nd.encN nd)
        rw [hdec] at e7
        simp only [Option.isSome_some, if_true] at e7
        have hO := hw nd hdec
        have q8 : Prs H7 (H7.push (.cells [.bool false, .nilSlice, .nilSlice, .nilSlice] 34 1 false)) := (Stp.refl p7.ok).push _
        have g8 : (H7.push (.cells [.bool false, .nilSlice, .nilSlice, .nilSlice] 34 1 false)).h.get H7.next = some (.cells [.bool false, .nilSlice, .nilSlice, .nilSlice] 34 1 false) := AH.push_get_eq _ _
        generalize hH8 : H7.push (.cells [.bool false, .nilSlice, .nilSlice, .nilSlice] 34 1 false) = H8 at q8 g8
        obtain ⟨H9, e9, g9, s9, n9⟩ := st_all q8.ok g8 (l' := l) hll hlc
        have e9' : stN 4 (.ptr H7.next 0) (.agg l) H8 = some (undefA, H9) := e9
        have P9 : Prs H7 H9 := q8.fresh s9 (fun B hB => by omega)
        have P69 : Prs H6 H9 := p7.trans P9
        have hO9 : NodeO H6 H9 (.agg l) nd := by
          obtain ⟨ks', vs', ps', ha, o1, o2, o3, ob⟩ := hO
          exact ⟨ks', vs', ps', ha, o1.mono P9 (fun _ _ x => x), o2.mono P9 (fun _ _ x => x), o3.mono P9 (fun _ _ x => x), ob⟩
        have hln : l = l := rfl
        obtain ⟨v10, H10, e10, p10, w10⟩ := back_ok (dy (m + 1)) n hn P69.ok P69.next P69 hO9 hs
        have P10 : Prs H H10 := P6.trans p10
        have g10 := p10.get P6.ok g6
        obtain ⟨H11, e11, p11⟩ := same_ok (dy (m + 1)) n hn p10.ok w10 (h0.prs P10) hs
        have P11 : Prs H H11 := P10.trans p11
        have g11 := p11.get p10.ok g10
        obtain ⟨v12, H12, e12, p12, w12⟩ := given_ok (dy (m + 1)) n P11.ok (h0.prs P11) hs
        obtain ⟨z, H13, e13, rfl, p13⟩ := size_ok (dy (m + 1)) n p12.ok w12 hs hn
        have P13 : Prs H H13 := (P11.trans p12).trans p13
        obtain ⟨H14, e14, p14⟩ := back2 m n hm hn P13.ok leaf s
        have hlen : (((Nd.encN nd).length : Nat) : Int) = ((Nd.size nd : Nat) : Int) := by
          rw [Nd.encN_length (lt := ltS)]
          simp only [Nd.may, Bool.and_eq_true] at hmay; exact hmay.1
        have g9l : subN l 0 4 = some l := by rw [subN_some _ _ _ (.inr (by omega)), List.drop_zero, List.take_of_length_le (by omega)]
        have g69 := P69.get P6.ok g6
        have hav : aveq (.agg [.bool nd.leaf, ks, vs, ps]) (.agg [.bool nd.leaf, ks, vs, ps]) = true := by
          simp only [aveq, aveqL, aveq_row h1, aveq_row h2, aveq_row h3, Bool.and_self, beq_self_eq_true]
        refine ⟨H14, ?_, P13.trans p14⟩
        simp only [f4z, ev, lg, wnt_undef, if_true, if_false, decide_true, decide_false, Bool.not_true, Bool.not_false, Bool.false_eq_true, Bool.true_eq_false, Bool.and_true, Bool.true_and, Bool.and_false, Bool.false_and, Bool.or_true, Bool.true_or, Bool.or_false, Bool.false_or, bA_ok hk, hH1, ldN_get g1, sub4, Option.map_some, e2, z_ok, hlI, ldN_get g2, e3, e4, pExtract, nth, ldN_get g4, e5, e6, beq_self_eq_true,
          ld1_get g6, e7, bA_ok p7.ok, hH8, e9', ne_eq, not_true_eq_false, ldN_get g9, g9l, ldN_get g69, e10, chk_ok (show ldN 4 (.ptr H.next 0) H10 = some (.agg [.bool nd.leaf, ks, vs, ps]) by rw [ldN_get g10]; rfl) hav, e11, ldN_get g11, e12, e13, hlen]
        exact e14
end Go.Eng.Sh
end
section
namespace Go.Eng.Sh
open Go.Nd (Ptr)
open Go.Proofs
theorem cells_at {w : World} {base n : Nat} {a : Addr} {cs : List Value} (h : w.cells? base a n = some cs) (hn : 0 < n) : a.spot = none ∧ ∃ arr e fz, w.heap[a.block]? = some (.cells arr e fz) ∧ ∀ j, j < n → arr[a.off + j]? = cs[j]? := by
  obtain ⟨_, hl, hc⟩ := World.cells?_some h
  have h0 := hc 0 hn
  rw [List.getElem?_eq_getElem (by omega)] at h0
  obtain ⟨c1, arr, te, fz, hg, _⟩ := cell_some h0
  have hsp : a.spot = none := by simpa [Addr.add] using c1
  obtain ⟨b, o, sp⟩ := a
  simp only at hsp; subst hsp
  have hb : (Addr.add ⟨b, o, none⟩ 0).block = b := by simp [Addr.add]
  rw [hb] at hg
  refine ⟨rfl, arr, te, fz, hg, fun j hj => ?_⟩
  have hj' := hc j hj
  rw [List.getElem?_eq_getElem (by omega)] at hj' ⊢
  obtain ⟨_, arr', te', fz', hg', hv⟩ := cell_some hj'
  rw [add_none] at hg' hv
  simp only at hg' hv
  rw [hg] at hg'
  simp only [Option.some.injEq, Obj.cells.injEq] at hg'
  rw [← hg'.1] at hv; exact hv
theorem cellsOf59 : Try.prog.cellsOf 59 = 3 := by kernel_rfl
theorem cellsOf3 : Try.prog.cellsOf 3 = 1 := by kernel_rfl
theorem cellsOf22 : Try.prog.cellsOf 22 = 1 := by kernel_rfl
theorem cellsOf9 : Try.prog.cellsOf 9 = 1 := by kernel_rfl
theorem cellsOf28 : Try.prog.cellsOf 28 = 4 := by kernel_rfl
theorem cellsOf4 : Try.prog.cellsOf 4 = 1 := by kernel_rfl
theorem cellsOf25 : Try.prog.cellsOf 25 = 1 := by kernel_rfl
theorem cellsOf26 : Try.prog.cellsOf 26 = 1 := by kernel_rfl
theorem ptr_cells {H : Type} {enc : TypeId × Value → H} {w : World} {base : Nat} {sp : Nat → Bool} {held : Bool} {fuel : Nat} {cs : List Value} {x : DataW H × List MemPlace} (h : DataW.trod enc Try.prog w base sp held fuel 59 cs = some x) :
    ∃ p : Ptr, cs = [.int .i64 p.at_, .int .i64 p.birth, .int .u64 p.sum] ∧ Nd.sumOk p := by
  obtain ⟨y0, y1, y2, n, _, hl, h0, h1, h2⟩ := Deep.trod_struct3 Try.underlying59 h
  simp only [cellsOf3, cellsOf22] at h0 h1 h2
  obtain ⟨a, ha, _⟩ := DataW.trod_int Try.underlying3 h0
  obtain ⟨b, hb, _⟩ := DataW.trod_int Try.underlying3 h1
  obtain ⟨c, hc, _, hw⟩ := DataW.trod_int Try.underlying22 h2
  rw [cellsOf59] at hl
  match cs, hl with
  | [u, v, z], _ =>
    simp at ha hb hc
    subst ha; subst hb; subst hc
    refine ⟨⟨a, b, c⟩, rfl, ?_⟩
    simp only [Lit.wf, IntKind.min, IntKind.max, IntKind.signed, IntKind.bits, Bool.and_eq_true, decide_eq_true_eq] at hw
    simp only [Nd.sumOk]
    simp at hw
    omega
theorem flat_get : ∀ (ps : List Ptr) (i j : Nat), i < ps.length → j < 3 → (ps.flatMap ptrV)[i * 3 + j]? = (ptrV (ps.getD i pz))[j]?
  | [], i, j, h, _ => by simp at h
  | p :: ps, 0, j, _, hj => by
    simp only [List.flatMap_cons, Nat.zero_mul, Nat.zero_add]
    rw [List.getElem?_append_left (by exact hj)]; rfl
  | p :: ps, i + 1, j, h, hj => by
    have ih := flat_get ps i j (by simpa using h) hj
    simp only [List.flatMap_cons]
    rw [List.getElem?_append_right (by show 3 ≤ _; omega)]
    have : (i + 1) * 3 + j - (ptrV p).length = i * 3 + j := by show (i + 1) * 3 + j - 3 = _; omega
    rw [this, ih]; rfl
theorem flat_len : ∀ ps : List Ptr, (ps.flatMap ptrV).length = ps.length * 3
  | [] => rfl
  | p :: ps => by rw [List.flatMap_cons, List.length_append, flat_len ps, List.length_cons]; show 3 + _ = _; omega
theorem ptrs_arg {H : Type} {enc : TypeId × Value → H} {w : World} {base : Nat} {held : Bool} {fuel : Nat} {v : Value} {x : DataW H × List MemPlace} (h : DataW.trod enc Try.prog w base (fun _ => true) held fuel 26 [v] = some x) :
    ∃ l : List Ptr, Ptrs (H0 w) (argCell w.heap.size v) l ∧ ∀ p ∈ l, Nd.sumOk p := by
  rcases Deep.open_slice Try.underlying26 h with ⟨h1, _⟩ | ⟨a, len, cap, m, n, D, Pl, h1, _, hl, _, hm, _, hx⟩
  · simp only [List.cons.injEq, and_true] at h1; subst h1
    exact ⟨[], ⟨by simp, .inl ⟨rfl, rfl⟩⟩, by simp⟩
  · simp only [List.cons.injEq, and_true] at h1; subst h1
    simp only [if_true] at hm; subst hm
    by_cases h0 : m = 0
    · subst h0
      obtain rfl : len = 0 := by omega
      exact ⟨[], ⟨by simp, .inr (.inl ⟨rfl, rfl⟩)⟩, by simp⟩
    · simp only [cellsOf59] at hx
      have hp : ∀ i, i < m → ∃ p : Ptr, w.cells? base (a.add (i * 3)) 3 = some [.int .i64 p.at_, .int .i64 p.birth, .int .u64 p.sum] ∧ Nd.sumOk p := fun i hi => by
        obtain ⟨cs, k1, k2⟩ := hx i hi
        obtain ⟨p, rfl, hs⟩ := ptr_cells k2
        exact ⟨p, k1, hs⟩
      haveI : Inhabited Ptr := ⟨pz⟩
      obtain ⟨Px, hP⟩ := Deep.choose_lt hp
      obtain ⟨b, o, sp⟩ := a
      obtain ⟨c1, arr, te, fz, hg, hat0⟩ := cells_at (hP 0 (by omega)).1 (by omega)
      have hsp : sp = none := by simpa [Addr.add] using c1
      subst hsp
      rw [add_none] at hg
      simp only at hg
      have hat : ∀ i, i < m → ∀ j, j < 3 → arr[o + i * 3 + j]? = ([.int .i64 (Px i).at_, .int .i64 (Px i).birth, .int .u64 (Px i).sum] : List Value)[j]? := fun i hi j hj => by
        obtain ⟨_, arr', te', fz', hg', hv⟩ := cells_at (hP i hi).1 (by omega)
        rw [add_none] at hg' hv
        simp only at hg' hv
        rw [hg] at hg'
        simp only [Option.some.injEq, Obj.cells.injEq] at hg'
        rw [hg'.1]; exact hv j hj
      have hsz : o + m * 3 ≤ arr.size := by
        have h2 := hat (m - 1) (by omega) 2 (by omega)
        simp only [List.getElem?_cons_succ, List.getElem?_cons_zero] at h2
        have := (Array.getElem?_eq_some_iff.1 h2).1; omega
      rw [argSlice w (by omega) (heap_lt hg)]
      refine ⟨(List.range len).map Px, ⟨flat_len _, .inr (.inr ⟨b, o, 2 * m, _, te, 0, false, by simp, H0_cells w hg, heap_lt hg, by simp; omega, ?_⟩)⟩, ?_⟩
      · apply List.ext_getElem?
        intro q
        simp only [List.length_map, List.length_range]
        by_cases hq : q < len * 3
        · have hqi : q / 3 < len := by omega
          have hqj : q % 3 < 3 := Nat.mod_lt _ (by omega)
          have e1 : q = q / 3 * 3 + q % 3 := by omega
          rw [List.getElem?_take_of_lt hq, List.getElem?_drop, List.getElem?_map, Array.getElem?_toList]
          have h3 := hat (q / 3) (by omega) (q % 3) hqj
          rw [show o + q / 3 * 3 + q % 3 = o + q from by omega] at h3
          have h4 := flat_get ((List.range len).map Px) (q / 3) (q % 3) (by simpa using hqi) hqj
          rw [← e1] at h4
          rw [h3, h4, getD_lt (by simpa using hqi)]
          simp only [List.getElem_map, List.getElem_range]
          generalize q % 3 = r at hqj
          match r, hqj with
          | 0, _ => rfl
          | 1, _ => rfl
          | 2, _ => rfl
        · rw [List.getElem?_eq_none (by simp; omega), List.getElem?_eq_none (by rw [flat_len]; simp; omega)]
      · intro p hp
        obtain ⟨i, hi, rfl⟩ := List.mem_map.1 hp
        exact (hP i (by have := List.mem_range.1 hi; omega)).2
/-- The law's first argument: a node. -/
theorem node_arg {H : Type} {enc : TypeId × Value → H} {w : World} {base : Nat} {held : Bool} {v : Value} {d : DataW H} {ps : List MemPlace} (h : DataW.Trod enc Try.prog w base (fun _ => true) held 28 v d ps) :
    ∃ nd : Nd.Node, NodeV (H0 w) (argAV w.heap.size v) nd ∧ ∀ p ∈ nd.kids, Nd.sumOk p := by
  obtain ⟨fuel, hf⟩ := h
  obtain ⟨xs, n, _, _, hl, hlen, hx⟩ := DataW.trod_struct Try.underlying28 hf
  rw [cellsOf28] at hl
  have hv : ∃ c0 c1 c2 c3, v = .agg #[c0, c1, c2, c3] := by
    have hag : ∀ a : Array Value, a.toList.length = 4 → ∃ c0 c1 c2 c3, a = #[c0, c1, c2, c3] := by
      rintro ⟨l⟩ hl
      match l, hl with
      | [c0, c1, c2, c3], _ => exact ⟨c0, c1, c2, c3, rfl⟩
    have hone : ∀ u : Value, (#[u] : Array Value).toList.length = 4 → False := fun u h => by simp at h
    cases v with
    | agg a => obtain ⟨c0, c1, c2, c3, rfl⟩ := hag a hl; exact ⟨c0, c1, c2, c3, rfl⟩
    | _ => exact (hone _ hl).elim
  obtain ⟨c0, c1, c2, c3, rfl⟩ := hv
  match xs, hlen with
  | [y0, y1, y2, y3], _ =>
    have k0 : DataW.trod enc Try.prog w base (fun _ => true) held n 4 [c0] = some y0 := by
      have this : DataW.trod enc Try.prog w base (fun _ => true) held n 4 (List.take (Try.prog.cellsOf 4) (List.drop 0 [c0, c1, c2, c3])) = some y0 := hx 0 _ rfl
      rw [cellsOf4] at this; exact this
    have k1 : DataW.trod enc Try.prog w base (fun _ => true) held n 25 [c1] = some y1 := by
      have this : DataW.trod enc Try.prog w base (fun _ => true) held n 25 (List.take (Try.prog.cellsOf 25) (List.drop 1 [c0, c1, c2, c3])) = some y1 := hx 1 _ rfl
      rw [cellsOf25] at this; exact this
    have k2 : DataW.trod enc Try.prog w base (fun _ => true) held n 25 [c2] = some y2 := by
      have this : DataW.trod enc Try.prog w base (fun _ => true) held n 25 (List.take (Try.prog.cellsOf 25) (List.drop 2 [c0, c1, c2, c3])) = some y2 := hx 2 _ rfl
      rw [cellsOf25] at this; exact this
    have k3 : DataW.trod enc Try.prog w base (fun _ => true) held n 26 [c3] = some y3 := by
      have this : DataW.trod enc Try.prog w base (fun _ => true) held n 26 (List.take (Try.prog.cellsOf 26) (List.drop 3 [c0, c1, c2, c3])) = some y3 := hx 3 _ rfl
      rw [cellsOf26] at this; exact this
    clear hx hf hl
    obtain ⟨b, hb, _⟩ := DataW.trod_bool Try.underlying4 k0
    obtain rfl : c0 = .bool b := (List.cons.inj hb).1
    obtain ⟨l1, s1⟩ := strs_arg Try.underlying25 Try.underlying9 cellsOf9 k1
    obtain ⟨l2, s2⟩ := strs_arg Try.underlying25 Try.underlying9 cellsOf9 k2
    obtain ⟨l3, s3, hs⟩ := ptrs_arg k3
    exact ⟨⟨b, l1, l2, l3⟩, ⟨_, _, _, rfl, s1, s2, s3⟩, hs⟩
end Go.Eng.Sh
end
section
namespace Go.Nd
theorem rising_ix (lt : Str → Str → Bool) : ∀ l : List Str, rising lt l = true ↔ ∀ i (h : i + 1 < l.length), lt l[i] l[i + 1] = true
  | [] => by simp [rising]
  | [a] => by simp [rising]
  | a :: b :: l => by
    have ih := rising_ix lt (b :: l)
    simp only [rising, Bool.and_eq_true, ih]
    constructor
    · rintro ⟨h1, h2⟩ i h
      cases i with
      | zero => exact h1
      | succ i => exact h2 i (by simpa using h)
    · intro h
      exact ⟨h 0 (by simp), fun i hi => h (i + 1) (by simpa using hi)⟩
theorem rising_take {lt : Str → Str → Bool} {l : List Str} (h : rising lt l = true) (k : Nat) : rising lt (l.take k) = true := by
  rw [rising_ix] at h ⊢
  intro i hi
  simp only [List.length_take] at hi
  simp only [List.getElem_take]
  exact h i (by omega)
theorem rising_drop {lt : Str → Str → Bool} {l : List Str} (h : rising lt l = true) (k : Nat) : rising lt (l.drop k) = true := by
  rw [rising_ix] at h ⊢
  intro i hi
  simp only [List.length_drop] at hi
  simp only [List.getElem_drop]
  exact h (k + i) (by omega)
theorem all_take {α : Type} {f : α → Bool} {l : List α} (h : l.all f = true) (k : Nat) : (l.take k).all f = true := by
  simp only [List.all_eq_true] at h ⊢
  exact fun x hx => h x (List.mem_of_mem_take hx)
theorem all_drop {α : Type} {f : α → Bool} {l : List α} (h : l.all f = true) (k : Nat) : (l.drop k).all f = true := by
  simp only [List.all_eq_true] at h ⊢
  exact fun x hx => h x (List.mem_of_mem_drop hx)
/-- The first half: so many Keys; the second one. -/
def cutA (n : Node) (k : Nat) : Node := if n.leaf then ⟨true, n.keys.take k, n.vals.take k, []⟩ else ⟨false, n.keys.take k, [], n.kids.take (k + 1)⟩
def cutB (n : Node) (k : Nat) : Node := if n.leaf then ⟨true, n.keys.drop k, n.vals.drop k, []⟩ else ⟨false, n.keys.drop (k + 1), [], n.kids.drop (k + 1)⟩
def joinN (a : Node) (sep : Str) (b : Node) : Node := if a.leaf then ⟨true, a.keys ++ b.keys, a.vals ++ b.vals, []⟩ else ⟨false, a.keys ++ ([sep] ++ b.keys), [], a.kids ++ b.kids⟩
/-- Where a node may be cut. -/
def cutOk (n : Node) (k : Nat) : Prop := 1 ≤ k ∧ k + (if n.leaf then 1 else 2) ≤ n.keys.length
theorem cut_shaped {lt : Str → Str → Bool} {n : Node} {k : Nat} (h : shaped lt n = true) (hk : cutOk n k) : shaped lt (cutA n k) = true ∧ shaped lt (cutB n k) = true := by
  obtain ⟨leaf, keys, vals, kids⟩ := n
  obtain ⟨k1, k2⟩ := hk
  cases leaf with
  | true =>
    simp only [shaped, if_true, Bool.and_eq_true, decide_eq_true_eq] at h k2
    obtain ⟨⟨h1, h2⟩, ⟨h3, h4⟩, h5⟩ := h
    simp only [shaped, cutA, cutB, if_true, Bool.and_eq_true, decide_eq_true_eq]
    exact ⟨⟨⟨all_take h1 k, rising_take h2 k⟩, ⟨by simp [h3], trivial⟩, all_take h5 k⟩, ⟨all_drop h1 k, rising_drop h2 k⟩, ⟨by simp [h3], trivial⟩, all_drop h5 k⟩
  | false =>
    simp only [shaped, Bool.false_eq_true, if_false, Bool.and_eq_true, decide_eq_true_eq] at h k2
    obtain ⟨⟨h1, h2⟩, ⟨⟨h3, h4⟩, h5⟩, h6⟩ := h
    simp only [shaped, cutA, cutB, Bool.false_eq_true, if_false, Bool.and_eq_true, decide_eq_true_eq]
    refine ⟨⟨⟨all_take h1 k, rising_take h2 k⟩, ⟨⟨?_, trivial⟩, ?_⟩, all_take h6 _⟩, ⟨all_drop h1 _, rising_drop h2 _⟩, ⟨⟨?_, trivial⟩, ?_⟩, all_drop h6 _⟩
    · intro e; have := congrArg List.length e; rw [List.length_take] at this; simp only [List.length_nil] at this; omega
    · rw [List.length_take, List.length_take]; omega
    · intro e; have := congrArg List.length e; rw [List.length_drop] at this; simp only [List.length_nil] at this; omega
    · rw [List.length_drop, List.length_drop]; omega
theorem cut_join {lt : Str → Str → Bool} {n : Node} {k : Nat} (h : shaped lt n = true) (hk : cutOk n k) : joinN (cutA n k) (n.keys.getD k []) (cutB n k) = n := by
  obtain ⟨leaf, keys, vals, kids⟩ := n
  obtain ⟨k1, k2⟩ := hk
  cases leaf with
  | true =>
    simp only [shaped, if_true, Bool.and_eq_true, decide_eq_true_eq] at h
    simp only [joinN, cutA, cutB, if_true, List.take_append_drop, h.2.1.2]
  | false =>
    simp only [shaped, Bool.false_eq_true, if_false, Bool.and_eq_true, decide_eq_true_eq] at h
    simp only [Bool.false_eq_true, if_false] at k2
    have hk : k < keys.length := by omega
    simp only [joinN, cutA, cutB, Bool.false_eq_true, if_false, List.take_append_drop, h.2.1.1.2]
    congr 1
    rw [List.getD_eq_getElem?_getD, List.getElem?_eq_getElem hk]
    show keys.take k ++ ([keys[k]] ++ keys.drop (k + 1)) = keys
    rw [List.singleton_append, ← List.drop_eq_getElem_cons hk, List.take_append_drop]
theorem sumL_drop_le (l : List Str) (k : Nat) : sumL (l.drop k) ≤ sumL l := by
  have : sumL l = sumL (l.take k) + sumL (l.drop k) := by rw [← sumL_append, List.take_append_drop]
  omega
theorem sumL_take_le (l : List Str) (k : Nat) : sumL (l.take k) ≤ sumL l := by
  have : sumL l = sumL (l.take k) + sumL (l.drop k) := by rw [← sumL_append, List.take_append_drop]
  omega
theorem sumL_parts (l : List Str) (k : Nat) : sumL l = sumL (l.take k) + sumL (l.drop k) := by rw [← sumL_append, List.take_append_drop]
theorem cut_size {lt : Str → Str → Bool} {n : Node} {k : Nat} (h : shaped lt n = true) (hk : cutOk n k) : size (cutA n k) < size n ∧ size (cutB n k) < size n := by
  obtain ⟨leaf, keys, vals, kids⟩ := n
  obtain ⟨k1, k2⟩ := hk
  have p1 := sumL_parts keys k
  have g1 := sumL_ge (keys.take k)
  have g2 := sumL_ge (keys.drop k)
  simp only [List.length_take, List.length_drop] at g1 g2
  cases leaf with
  | true =>
    simp only [if_true] at k2
    simp only [shaped, if_true, Bool.and_eq_true, decide_eq_true_eq] at h
    have p2 := sumL_parts vals k
    simp only [cutA, cutB, if_true, size, List.length_nil, h.2.1.2]
    omega
  | false =>
    simp only [Bool.false_eq_true, if_false] at k2
    simp only [shaped, Bool.false_eq_true, if_false, Bool.and_eq_true, decide_eq_true_eq] at h
    have h5 := h.2.1.2
    have p3 := sumL_parts keys (k + 1)
    have g3 := sumL_ge (keys.take (k + 1))
    simp only [List.length_take] at g3
    simp only [cutA, cutB, Bool.false_eq_true, if_false, size, h.2.1.1.2, List.length_take, List.length_drop]
    have : sumL [] = 0 := rfl
    omega
/-- The separator stands between the halves. -/
theorem cut_between {lt : Str → Str → Bool} {n : Node} {k : Nat} (h : shaped lt n = true) (hk : cutOk n k) :
    mayK (n.keys.getD k []) = true ∧ lt (n.keys.getD (k - 1) []) (n.keys.getD k []) = true ∧ (n.leaf = false → lt (n.keys.getD k []) (n.keys.getD (k + 1) []) = true) := by
  obtain ⟨k1, k2⟩ := hk
  have hlt : k < n.keys.length := by split at k2 <;> omega
  simp only [shaped, Bool.and_eq_true] at h
  obtain ⟨⟨h1, h2⟩, _⟩ := h
  rw [rising_ix] at h2
  simp only [List.all_eq_true] at h1
  have g : ∀ i (hi : i < n.keys.length), n.keys.getD i [] = n.keys[i] := fun i hi => by rw [List.getD_eq_getElem?_getD, List.getElem?_eq_getElem hi]; rfl
  refine ⟨?_, ?_, fun hl => ?_⟩
  · rw [g k hlt]; exact h1 _ (List.getElem_mem hlt)
  · have := h2 (k - 1) (by omega)
    rw [g k hlt, g (k - 1) (by omega)]
    simpa [show k - 1 + 1 = k by omega] using this
  · rw [hl] at k2; simp only [Bool.false_eq_true, if_false] at k2
    rw [g k hlt, g (k + 1) (by omega)]
    exact h2 k (by omega)
end Go.Nd
end
section
namespace Go.Eng.Sh
open Go.Nd (Ptr sumL)
theorem ble0 (x : Nat) : Nat.ble 0 x = true := by rw [Nat.ble_eq]; omega
/-- The first i elements. -/
theorem slSl_hi {k e n : Nat} {H : AH} {v : AV} {l : List AV} (h : Grow k e H v n l) (hpos : 0 < k) {i : Nat} (hi : i ≤ n) (κ κ' : IntKind) :
    ∃ r, slSl k v none (some (.int κ (i : Nat))) (some (.int κ' (i : Nat))) H = some r ∧ Rw k H r i (l.take (i * k)) ∧ (0 < i → r ≠ .nilSlice ∧ r ≠ .emptySl) := by
  have n1 := natOf_int κ (z := ((i : Nat) : Int)) (by omega)
  have n2 := natOf_int κ' (z := ((i : Nat) : Int)) (by omega)
  simp only [Int.toNat_natCast] at n1 n2
  have hb : Nat.blt 0 k = true := by rw [Nat.blt_eq]; exact hpos
  have hz : Nat.beq i 0 = decide (i = 0) := by rw [Bool.eq_iff_iff]; simp
  have hmul : i * k ≤ n * k := Nat.mul_le_mul_right _ hi
  have b1 : Nat.ble i n = true := by rw [Nat.ble_eq]; exact hi
  have b2 : Nat.ble i i = true := by rw [Nat.ble_eq]; exact Nat.le_refl _
  have b3 : Nat.ble 0 i = true := by rw [Nat.ble_eq]; omega
  rcases h with ⟨h0, ⟨rfl, rfl⟩ | ⟨A, rfl, hA, hg⟩⟩ | ⟨h0, A, e', g, rfl, hA, hg⟩
  · obtain rfl : i = 0 := by omega
    exact ⟨.nilSlice, by simp only [slSl, natOpt, n1, n2]; simp, ⟨by simp, .inl ⟨rfl, rfl⟩⟩, fun h => absurd h (by omega)⟩
  · have hroom : roomOf l true k 0 1 k = n := by
      simp only [roomOf, show ((1 % 2).beq 0) = false from rfl, cond_false, Nat.beq_refl, show Nat.beq 0 (1 / 2 * k) = true from by simp, Bool.and_self, cond_true, lenL_zero, h0, Nat.sub_zero]
      exact Nat.mul_div_cancel _ hpos
    by_cases hi0 : i = 0
    · subst hi0
      refine ⟨.slice A 0 0 0, ?_, ⟨by simp, .inr (.inr ⟨A, 0, 0, l, e, k, true, rfl, hg, hA, by simp, by simp⟩)⟩, fun h => absurd h (by omega)⟩
      simp only [slSl, natOpt, n1, n2, hg, hb, cond_true]; simp [acut, hroom, fN_eq, ble0]
    · have hz0 : Nat.beq i 0 = false := by rw [hz]; simpa using hi0
      refine ⟨.slice A 0 i (2 * i), ?_, ⟨by rw [List.length_take, h0, Nat.min_eq_left hmul], .inr (.inr ⟨A, 0, 2 * i, l, e, k, true, rfl, hg, hA, by omega, by simp⟩)⟩, fun _ => ⟨by simp, by simp⟩⟩
      simp only [slSl, natOpt, n1, n2, hg, hb, cond_true]; simp [acut, hroom, b1, b2, hz0, fN_eq, ble0]
  · have hroom : roomOf l g k 0 (2 * n) k = n := by
      simp only [roomOf, show ((2 * n) % 2).beq 0 = true by rw [Nat.mul_mod_right]; rfl, cond_true, Nat.mul_div_cancel_left n (show 0 < 2 by omega)]
    by_cases hi0 : i = 0
    · subst hi0
      refine ⟨.slice A 0 0 0, ?_, ⟨by simp, .inr (.inr ⟨A, 0, 0, l, e', k, g, rfl, hg, hA, by simp, by simp⟩)⟩, fun h => absurd h (by omega)⟩
      simp only [slSl, natOpt, n1, n2, hg, hb, cond_true]; simp [acut, hroom, fN_eq, ble0]
    · have hz0 : Nat.beq i 0 = false := by rw [hz]; simpa using hi0
      refine ⟨.slice A 0 i (2 * i), ?_, ⟨by rw [List.length_take, h0, Nat.min_eq_left hmul], .inr (.inr ⟨A, 0, 2 * i, l, e', k, g, rfl, hg, hA, by omega, by simp⟩)⟩, fun _ => ⟨by simp, by simp⟩⟩
      simp only [slSl, natOpt, n1, n2, hg, hb, cond_true]; simp [acut, hroom, b1, b2, hz0, fN_eq, ble0]
/-- What stands from element i on. -/
theorem slSl_lo {k e n : Nat} {H : AH} {v : AV} {l : List AV} (h : Grow k e H v n l) (hpos : 0 < k) {i : Nat} (hi : i < n) (κ : IntKind) :
    ∃ r, slSl k v (some (.int κ (i : Nat))) none none H = some r ∧ Rw k H r (n - i) (l.drop (i * k)) ∧ r ≠ .nilSlice ∧ r ≠ .emptySl := by
  have n1 := natOf_int κ (z := ((i : Nat) : Int)) (by omega)
  simp only [Int.toNat_natCast] at n1
  have hb : Nat.blt 0 k = true := by rw [Nat.blt_eq]; exact hpos
  have hmul : i * k ≤ n * k := Nat.mul_le_mul_right _ (by omega)
  have hsub : (n - i) * k = n * k - i * k := Nat.sub_mul _ _ _
  have b1 : Nat.ble n n = true := by rw [Nat.ble_eq]; exact Nat.le_refl _
  have b2 : Nat.ble i n = true := by rw [Nat.ble_eq]; omega
  have b3 : Nat.blt i n = true := by rw [Nat.blt_eq]; exact hi
  have b4 : Nat.beq n i = false := by rw [Bool.eq_false_iff]; intro h; have := Nat.eq_of_beq_eq_true h; omega
  rcases h with ⟨h0, ⟨rfl, rfl⟩ | ⟨A, rfl, hA, hg⟩⟩ | ⟨h0, A, e', g, rfl, hA, hg⟩
  · omega
  · have hroom : roomOf l true k 0 1 k = n := by
      simp only [roomOf, show ((1 % 2).beq 0) = false from rfl, cond_false, Nat.beq_refl, show Nat.beq 0 (1 / 2 * k) = true from by simp, Bool.and_self, cond_true, lenL_zero, h0, Nat.sub_zero]
      exact Nat.mul_div_cancel _ hpos
    by_cases hi0 : i = 0
    · subst hi0
      refine ⟨.slice A 0 n 1, ?_, ⟨by simp [h0], .inr (.inr ⟨A, 0, 1, l, e, k, true, by simp, hg, hA, by simp [h0], by rw [Nat.sub_zero, Nat.zero_mul, List.drop_zero, List.take_of_length_le (by omega)]⟩)⟩, by simp, by simp⟩
      simp only [slSl, natOpt, n1, hg, hb, cond_true]; simp [acut, hroom, b1, fN_eq, ble0, show Nat.beq 1 0 = false from rfl]
    · have hz0 : Nat.beq i 0 = false := by rw [Bool.eq_false_iff]; intro h; exact hi0 (Nat.eq_of_beq_eq_true h)
      refine ⟨.slice A (0 + i * k) (n - i) (1 + 2 * i), ?_, ⟨by simp [h0, hsub], .inr (.inr ⟨A, 0 + i * k, 1 + 2 * i, l, e, k, true, rfl, hg, hA, by omega, by rw [Nat.zero_add, List.take_of_length_le (by simp [h0, hsub])]⟩)⟩, by simp, by simp⟩
      simp only [slSl, natOpt, n1, hg, hb, cond_true]; simp [acut, hroom, b1, b2, b3, hz0, fN_eq, show Nat.beq 1 0 = false from rfl]
  · have hroom : roomOf l g k 0 (2 * n) k = n := by
      simp only [roomOf, show ((2 * n) % 2).beq 0 = true by rw [Nat.mul_mod_right]; rfl, cond_true, Nat.mul_div_cancel_left n (show 0 < 2 by omega)]
    have b4' : Nat.beq (2 * n / 2) i = false := by rw [Nat.mul_div_cancel_left n (show 0 < 2 by omega)]; exact b4
    refine ⟨.slice A (0 + i * k) (n - i) (2 * (2 * n / 2 - i)), ?_, ⟨by simp [h0, hsub], .inr (.inr ⟨A, 0 + i * k, 2 * (2 * n / 2 - i), l, e', k, g, rfl, hg, hA, by omega, by rw [Nat.zero_add, List.take_of_length_le (by simp [h0, hsub])]⟩)⟩, by simp, by simp⟩
    simp only [slSl, natOpt, n1, hg, hb, cond_true]; simp [acut, hroom, b1, b2, b4', fN_eq, b4]
/-- slices.Clone of texts. -/
theorem cloneS_ok (D : Dyn) (n : Nat) {H : AH} (hk : H.ok) {v : AV} {l : List Str} (h : Strs H v l) (hn : v ≠ .nilSlice) (he : v ≠ .emptySl) (hl : l.length ≤ 1000000000) :
    ∃ v' H', f39 D n [v] H = some (v', H') ∧ Prs H H' ∧ Grow 1 9 H' v' l.length (l.map S) ∧ ∀ B, Blk v' B → H.next ≤ B := by
  have p1 : Prs H (H.push (.cells [] 9 1 false)) := (Stp.refl hk).push _
  have g1 : (H.push (.cells [] 9 1 false)).h.get H.next = some (.cells [] 9 1 false) := AH.push_get_eq _ _
  have n1 : (H.push (.cells [] 9 1 false)).next = H.next + 1 := rfl
  generalize hH1 : H.push (.cells [] 9 1 false) = H1 at p1 g1 n1
  obtain ⟨v', H2, e2, w2, s2, f2⟩ := (Grow.zero 1 9 g1 p1.ok).app (bytes := 16) p1.ok (by decide) (Rw.srcOf (h.prs p1)) (by simp) (map_cells _) (by omega) (by decide)
  have hz1 : bldL 9 1 0 [.str 0 0] [] = some (.cells [] 9 1 false, fun A => .slice A 0 0 0) := rfl
  have heq : cmpO .eql (eqS v .nilSlice) = some (.bool false) := by
    obtain ⟨_, ⟨rfl, _⟩ | ⟨rfl, _⟩ | ⟨A, off, cc, c, e, sz, g, rfl, _⟩⟩ := h
    · exact absurd rfl hn
    · exact absurd rfl he
    · rfl
  refine ⟨v', H2, ?_, p1.fresh s2 (fun B hB => by rw [Blk.slice.1 hB]; exact Nat.le_refl _), by simpa using w2, fun B hB => ?_⟩
  · simp only [f39, ev, lg, wnt_undef, if_true, if_false, decide_true, decide_false, Bool.not_true, Bool.not_false, Bool.false_eq_true, Bool.true_eq_false, Bool.and_true, Bool.true_and, Bool.and_false, Bool.false_and, Bool.or_true, Bool.true_or, Bool.or_false, Bool.false_or, heq, hz1, bA_ok hk, hH1, e2]
  · rcases f2 B hB with h | h
    · rw [Blk.slice.1 h]; exact Nat.le_refl _
    · omega
theorem cloneP_ok (D : Dyn) (n : Nat) {H : AH} (hk : H.ok) {v : AV} {l : List Ptr} (h : Ptrs H v l) (hn : v ≠ .nilSlice) (he : v ≠ .emptySl) (hl : l.length ≤ 1000000000) :
    ∃ v' H', f40 D n [v] H = some (v', H') ∧ Prs H H' ∧ Grow 3 59 H' v' l.length (l.flatMap ptrV) ∧ ∀ B, Blk v' B → H.next ≤ B := by
  have p1 : Prs H (H.push (.cells [] 59 3 false)) := (Stp.refl hk).push _
  have g1 : (H.push (.cells [] 59 3 false)).h.get H.next = some (.cells [] 59 3 false) := AH.push_get_eq _ _
  have n1 : (H.push (.cells [] 59 3 false)).next = H.next + 1 := rfl
  generalize hH1 : H.push (.cells [] 59 3 false) = H1 at p1 g1 n1
  obtain ⟨v', H2, e2, w2, s2, f2⟩ := (Grow.zero 3 59 g1 p1.ok).app (bytes := 24) p1.ok (by decide) (Rw.srcOf (h.prs p1)) h.1 (flat_cells _) (by omega) (by decide)
  have hz1 : ∀ a b c : AV, bldL 59 3 0 [a, b, c] [] = some (.cells [] 59 3 false, fun A => .slice A 0 0 0) := fun _ _ _ => rfl
  have heq : cmpO .eql (eqS v .nilSlice) = some (.bool false) := by
    obtain ⟨_, ⟨rfl, _⟩ | ⟨rfl, _⟩ | ⟨A, off, cc, c, e, sz, g, rfl, _⟩⟩ := h
    · exact absurd rfl hn
    · exact absurd rfl he
    · rfl
  refine ⟨v', H2, ?_, p1.fresh s2 (fun B hB => by rw [Blk.slice.1 hB]; exact Nat.le_refl _), by simpa using w2, fun B hB => ?_⟩
  · simp only [f40, ev, lg, wnt_undef, if_true, if_false, decide_true, decide_false, Bool.not_true, Bool.not_false, Bool.false_eq_true, Bool.true_eq_false, Bool.and_true, Bool.true_and, Bool.and_false, Bool.false_and, Bool.or_true, Bool.true_or, Bool.or_false, Bool.false_or, heq, hz1, bA_ok hk, hH1, e2]
  · rcases f2 B hB with h | h
    · rw [Blk.slice.1 h]; exact Nat.le_refl _
    · omega
end Go.Eng.Sh
end
section
namespace Go.Eng.Sh
open Go.Nd (Ptr sumL cutOk)
/-- May a node be cut? -/
def cuttable (nd : Nd.Node) : Prop := 2 ≤ nd.keys.length ∧ (nd.leaf = true ∨ 3 ≤ nd.keys.length)
theorem halfLoop (D : Dyn) (n : Nat) {H : AH} {ks vs ps : AV} {nd : Nd.Node} (h1 : Strs H ks nd.keys) (h2 : Strs H vs nd.vals) (hv : nd.leaf = true → nd.vals.length = nd.keys.length) {A : Nat} {e : TypeId} (hA : H.h.get A = some (.cells [.bool nd.leaf, ks, vs, ps] e 1 false))
    (most z : Int) (L : Nat) (hL : L ≤ nd.keys.length) (hb : nd.keys.length ≤ 1000000000) (n' : Nat) (hn : L < n') :
    Fin (loopK n' (f38l1 D n) [.ptr A 0, .int .i64 most, .int .i64 (L : Nat), .int .i64 z, .int .i64 (L : Nat), .int .i64 (0 : Nat)] H) fun x H' => H' = H ∧ ((∃ j : Nat, 0 < j ∧ j < L ∧ x = .ret (.int .i64 (j : Nat))) ∨ x = .exit 0 [.int .i64 (L : Nat)]) := by
  refine Fin.loop (fun k us H' => H' = H ∧ ∃ (i : Nat) (z : Int), us = [.ptr A 0, .int .i64 most, .int .i64 (L : Nat), .int .i64 z, .int .i64 (L : Nat), .int .i64 (i : Nat)] ∧ i ≤ L ∧ k = L - i) ?_ n' L _ H ⟨rfl, 0, z, rfl, by omega, by omega⟩ hn
  rintro k us H' ⟨rfl, i, z, rfl, hi, rfl⟩
  by_cases hlt : i < L
  · have hik : i < nd.keys.length := by omega
    obtain ⟨p, p1, p2⟩ := h1.at hik
    have hiI : ((i : Nat) : Int) < ((L : Nat) : Int) := by omega
    have tail : ∀ z' : Int, Fin (f38j0 D n [.ptr A 0, .int .i64 most, .int .i64 (L : Nat), .int .i64 z', .int .i64 (i : Nat), .int .i64 (L : Nat), .int .i64 (i : Nat)] H')
        (orN (fun us' H'' => ∃ k', k' < L - i ∧ H'' = H' ∧ ∃ (i : Nat) (z : Int), us' = [.ptr A 0, .int .i64 most, .int .i64 (L : Nat), .int .i64 z, .int .i64 (L : Nat), .int .i64 (i : Nat)] ∧ i ≤ L ∧ k' = L - i)
          (fun x H'' => H'' = H' ∧ ((∃ j : Nat, 0 < j ∧ j < L ∧ x = .ret (.int .i64 (j : Nat))) ∨ x = .exit 0 [.int .i64 (L : Nat)]))) := by
      intro z'
      by_cases hc : 0 < i ∧ most < z'
      · have c1 : ((0 : Nat) : Int) < (i : Int) := by omega
        have c2 : most < z' := hc.2
        have : f38j0 D n [.ptr A 0, .int .i64 most, .int .i64 (L : Nat), .int .i64 z', .int .i64 (i : Nat), .int .i64 (L : Nat), .int .i64 (i : Nat)] H' = some (.ret (.int .i64 (i : Nat)), H') := by
          simp (disch := omega) only [f38j0, ev, lg, wnt_undef, if_true, if_false, decide_true, decide_false, Bool.not_true, Bool.not_false, Bool.false_eq_true, Bool.true_eq_false, Bool.and_true, Bool.true_and, Bool.and_false, Bool.false_and, Bool.or_true, Bool.true_or, Bool.or_false, Bool.false_or, c1, c2]
        rw [this]
        exact ⟨_, _, rfl, rfl, .inl ⟨i, hc.1, hlt, rfl⟩⟩
      · have hcb : (decide (((0 : Nat) : Int) < (i : Int)) && decide (most < z')) = false := by
          rw [Bool.eq_false_iff]; intro hh
          simp only [Bool.and_eq_true, decide_eq_true_eq] at hh
          exact hc ⟨by omega, hh.2⟩
        have : f38j0 D n [.ptr A 0, .int .i64 most, .int .i64 (L : Nat), .int .i64 z', .int .i64 (i : Nat), .int .i64 (L : Nat), .int .i64 (i : Nat)] H' = some (.norm [.ptr A 0, .int .i64 most, .int .i64 (L : Nat), .int .i64 z', .int .i64 (L : Nat), .int .i64 ((i + 1 : Nat) : Int)], H') := by
          simp (disch := omega) only [f38j0, ev, lg, wnt_undef, if_true, if_false, decide_true, decide_false, Bool.not_true, Bool.not_false, Bool.false_eq_true, Bool.true_eq_false, Bool.and_true, Bool.true_and, Bool.and_false, Bool.false_and, Bool.or_true, Bool.true_or, Bool.or_false, Bool.false_or, hcb, Int.natCast_add]
        rw [this]
        exact ⟨_, _, rfl, L - (i + 1), by omega, rfl, i + 1, z', rfl, by omega, rfl⟩
    cases hl : nd.leaf with
    | true =>
      rw [hl] at hA
      obtain ⟨q, q1, q2⟩ := h2.at (i := i) (by rw [hv hl]; exact hik)
      have : ∃ z', f38l1 D n [.ptr A 0, .int .i64 most, .int .i64 (L : Nat), .int .i64 z, .int .i64 (L : Nat), .int .i64 (i : Nat)] H' = jn (some (.norm [.ptr A 0, .int .i64 most, .int .i64 (L : Nat), .int .i64 z', .int .i64 (i : Nat), .int .i64 (L : Nat), .int .i64 (i : Nat)], H')) (f38j0 D n) := by
        apply Exists.intro
        simp (disch := omega) only [f38l1, ev, lg, wnt_undef, if_true, if_false, decide_true, decide_false, Bool.not_true, Bool.not_false, Bool.false_eq_true, Bool.true_eq_false, Bool.and_true, Bool.true_and, Bool.and_false, Bool.false_and, Bool.or_true, Bool.true_or, Bool.or_false, Bool.false_or, hiI, ld1_get hA, p1, p2, q1, q2]
        rfl
      obtain ⟨z', hz⟩ := this
      rw [hz, jn_norm]; exact tail z'
    | false =>
      rw [hl] at hA
      have : ∃ z', f38l1 D n [.ptr A 0, .int .i64 most, .int .i64 (L : Nat), .int .i64 z, .int .i64 (L : Nat), .int .i64 (i : Nat)] H' = jn (some (.norm [.ptr A 0, .int .i64 most, .int .i64 (L : Nat), .int .i64 z', .int .i64 (i : Nat), .int .i64 (L : Nat), .int .i64 (i : Nat)], H')) (f38j0 D n) := by
        apply Exists.intro
        simp (disch := omega) only [f38l1, ev, lg, wnt_undef, if_true, if_false, decide_true, decide_false, Bool.not_true, Bool.not_false, Bool.false_eq_true, Bool.true_eq_false, Bool.and_true, Bool.true_and, Bool.and_false, Bool.false_and, Bool.or_true, Bool.true_or, Bool.or_false, Bool.false_or, hiI, ld1_get hA, p1, p2]
        rfl
      obtain ⟨z', hz⟩ := this
      rw [hz, jn_norm]; exact tail z'
  · have hiI : ¬ ((i : Nat) : Int) < ((L : Nat) : Int) := by omega
    refine ⟨.exit 0 [.int .i64 (L : Nat)], H', ?_, rfl, .inr rfl⟩
    simp only [f38l1, ev, lg, wnt_undef, if_true, if_false, decide_true, decide_false, Bool.not_true, Bool.not_false, Bool.false_eq_true, Bool.true_eq_false, Bool.and_true, Bool.true_and, Bool.and_false, Bool.false_and, Bool.or_true, Bool.true_or, Bool.or_false, Bool.false_or, hiI]
theorem half_ok (D : Dyn) (n : Nat) (hn : 200000000 ≤ n) {H : AH} (hk : H.ok) {v : AV} {nd : Nd.Node} (h : NodeV H v nd) (hs : small nd) (hsh : Nd.shaped ltS nd = true) (hc : cuttable nd) :
    ∃ (k : Nat) (H' : AH), f38 D n [v] H = some (.int .i64 (k : Nat), H') ∧ Prs H H' ∧ cutOk nd k := by
  have h0 := h
  obtain ⟨ks, vs, ps, rfl, h1, h2, h3⟩ := h
  have hkl := Nd.sumL_ge nd.keys
  obtain ⟨s1, s2, s3⟩ := id hs
  obtain ⟨c1, c2⟩ := hc
  have hv : nd.leaf = true → nd.vals.length = nd.keys.length := by
    intro hl
    simp only [Nd.shaped, hl, if_true, Bool.and_eq_true, decide_eq_true_eq] at hsh
    exact hsh.2.1.1
  have p1 : Prs H (H.push (.cells [.bool nd.leaf, ks, vs, ps] 34 1 false)) := (Stp.refl hk).push _
  have g1 : (H.push (.cells [.bool nd.leaf, ks, vs, ps] 34 1 false)).h.get H.next = some (.cells [.bool nd.leaf, ks, vs, ps] 34 1 false) := AH.push_get_eq _ _
  generalize hH1 : H.push (.cells [.bool nd.leaf, ks, vs, ps] 34 1 false) = H1 at p1 g1
  obtain ⟨z, H2, e2, rfl, p2⟩ := size_ok D n p1.ok (h0.prs p1) hs hn
  have g2 := p2.get p1.ok g1
  have P : Prs H H2 := p1.trans p2
  have hq := bInt_quo .i64 (((Nd.size nd : Nat) : Int) - ((2 : Nat) : Int)) ((2 : Nat) : Int) (by omega)
  have hsz : ((Nd.size nd : Nat) : Int) ≤ 1000000000 := by simp only [Nd.size]; omega
  generalize IntKind.wrap .i64 ((((Nd.size nd : Nat) : Int) - ((2 : Nat) : Int)).tdiv ((2 : Nat) : Int)) = most at hq
  cases hl : nd.leaf with
  | true =>
    obtain ⟨x, H3, e3, rfl, hx⟩ := halfLoop D n (h1.prs P) (h2.prs P) hv g2 most ((0 : Nat) : Int) (nd.keys.length - 1) (by omega) (by omega) n (by omega)
    have hL : ((nd.keys.length : Nat) : Int) - ((1 : Nat) : Int) = ((nd.keys.length - 1 : Nat) : Int) := by omega
    rw [hl] at g2 hH1 e2
    rcases hx with ⟨j, j1, j2, rfl⟩ | rfl
    · refine ⟨j, H3, ?_, P, j1, by rw [hl]; simp only [if_true]; omega⟩
      simp (disch := omega) only [f38, ev, lg, wnt_undef, if_true, if_false, decide_true, decide_false, Bool.not_true, Bool.not_false, Bool.false_eq_true, Bool.true_eq_false, Bool.and_true, Bool.true_and, Bool.and_false, Bool.false_and, Bool.or_true, Bool.true_or, Bool.or_false, Bool.false_or, bA_ok hk, hH1, sub4, Option.map_some, hl, e2, hq, ld1_get g2, h1.lnSl, hL, f38j3, e3]
    · refine ⟨nd.keys.length - 1, H3, ?_, P, by omega, by rw [hl]; simp only [if_true]; omega⟩
      simp (disch := omega) only [f38, ev, lg, wnt_undef, if_true, if_false, decide_true, decide_false, Bool.not_true, Bool.not_false, Bool.false_eq_true, Bool.true_eq_false, Bool.and_true, Bool.true_and, Bool.and_false, Bool.false_and, Bool.or_true, Bool.true_or, Bool.or_false, Bool.false_or, bA_ok hk, hH1, sub4, Option.map_some, hl, e2, hq, ld1_get g2, h1.lnSl, hL, f38j3, e3, f38b2]
  | false =>
    have c3 : 3 ≤ nd.keys.length := by rcases c2 with h | h; rw [hl] at h; cases h; exact h
    obtain ⟨x, H3, e3, rfl, hx⟩ := halfLoop D n (h1.prs P) (h2.prs P) hv g2 most ((16 : Nat) : Int) (nd.keys.length - 2) (by omega) (by omega) n (by omega)
    have hL : ((nd.keys.length : Nat) : Int) - ((1 : Nat) : Int) - ((1 : Nat) : Int) = ((nd.keys.length - 2 : Nat) : Int) := by omega
    rw [hl] at g2 hH1 e2
    rcases hx with ⟨j, j1, j2, rfl⟩ | rfl
    · refine ⟨j, H3, ?_, P, j1, by rw [hl]; simp only [Bool.false_eq_true, if_false]; omega⟩
      simp (disch := omega) only [f38, ev, lg, wnt_undef, if_true, if_false, decide_true, decide_false, Bool.not_true, Bool.not_false, Bool.false_eq_true, Bool.true_eq_false, Bool.and_true, Bool.true_and, Bool.and_false, Bool.false_and, Bool.or_true, Bool.true_or, Bool.or_false, Bool.false_or, bA_ok hk, hH1, sub4, Option.map_some, hl, e2, hq, ld1_get g2, h1.lnSl, hL, f38j3, e3]
    · refine ⟨nd.keys.length - 2, H3, ?_, P, by omega, by rw [hl]; simp only [Bool.false_eq_true, if_false]; omega⟩
      simp (disch := omega) only [f38, ev, lg, wnt_undef, if_true, if_false, decide_true, decide_false, Bool.not_true, Bool.not_false, Bool.false_eq_true, Bool.true_eq_false, Bool.and_true, Bool.true_and, Bool.and_false, Bool.false_and, Bool.or_true, Bool.true_or, Bool.or_false, Bool.false_or, bA_ok hk, hH1, sub4, Option.map_some, hl, e2, hq, ld1_get g2, h1.lnSl, hL, f38j3, e3, f38b2]
end Go.Eng.Sh
end
section
namespace Go.Eng.Sh
open Go.Nd (Ptr sumL cutOk cutA cutB)
/-- A cut hangs on the slice alone. -/
theorem slSl_same {k e n : Nat} {H H' : AH} {v : AV} {l l' : List AV} (h : Grow k e H v n l) (h' : Grow k e H' v n l') (hpos : 0 < k) (lo hi mx : Option AV) : slSl k v lo hi mx H' = slSl k v lo hi mx H := by
  have room1 : ∀ l : List AV, l.length = n * k → roomOf l true k 0 1 k = n := fun l h0 => by
    simp only [roomOf, show ((1 % 2).beq 0) = false from rfl, cond_false, Nat.beq_refl, show Nat.beq 0 (1 / 2 * k) = true from by simp, Bool.and_self, cond_true, lenL_zero, h0, Nat.sub_zero]
    exact Nat.mul_div_cancel _ hpos
  have room2 : ∀ (l : List AV) (g : Bool), roomOf l g k 0 (2 * n) k = n := fun l g => by
    simp only [roomOf, show ((2 * n) % 2).beq 0 = true by rw [Nat.mul_mod_right]; rfl, cond_true, Nat.mul_div_cancel_left n (show 0 < 2 by omega)]
  rcases h with ⟨h0, ⟨rfl, _⟩ | ⟨A, rfl, hA, hg⟩⟩ | ⟨h0, A, e', g, rfl, hA, hg⟩
  · rfl
  · rcases h' with ⟨h0', ⟨hv, _⟩ | ⟨A', hv, hA', hg'⟩⟩ | ⟨h0', A', e'', g', hv, hA', hg'⟩
    · cases hv
    · simp only [AV.slice.injEq] at hv; obtain ⟨rfl, _⟩ := hv
      simp only [slSl, hg, hg', room1 l h0, room1 l' h0']
    · simp only [AV.slice.injEq] at hv; omega
  · rcases h' with ⟨h0', ⟨hv, _⟩ | ⟨A', hv, hA', hg'⟩⟩ | ⟨h0', A', e'', g', hv, hA', hg'⟩
    · cases hv
    · simp only [AV.slice.injEq] at hv; omega
    · simp only [AV.slice.injEq] at hv; obtain ⟨rfl, _⟩ := hv
      simp only [slSl, hg, hg', room2]
/-- A field of a struct's block is written. -/
theorem st_fld {H : AH} (hk : H.ok) {A o : Nat} {l : List AV} {e : TypeId} {x : AV} (h : H.h.get A = some (.cells l e 1 false)) (hx : isCell x = true) (ho : o < l.length) :
    ∃ H', stN 1 (.ptr A o) x H = some (undefA, H') ∧ H'.h.get A = some (.cells (l.set o x) e 1 false) ∧ Stp (fun B => B = A) H H' ∧ H'.next = H.next :=
  ⟨_, st1_ok h (by decide) hx ho, by rw [AH.put_get, if_pos rfl], (Stp.refl hk).put (hk.lt h) _ (.inr rfl), rfl⟩
theorem map_take (l : List Str) (k : Nat) : (l.map S).take (k * 1) = (l.take k).map S := by simp
theorem map_drop (l : List Str) (k : Nat) : (l.map S).drop (k * 1) = (l.drop k).map S := by simp
theorem flat_take : ∀ (l : List Ptr) (k : Nat), (l.flatMap ptrV).take (k * 3) = (l.take k).flatMap ptrV
  | _, 0 => by simp
  | [], k + 1 => by simp
  | p :: l, k + 1 => by
    have ih := flat_take l k
    rw [show (k + 1) * 3 = k * 3 + 3 from by omega]
    show ((ptrV p) ++ l.flatMap ptrV).take (k * 3 + 3) = ptrV p ++ (l.take k).flatMap ptrV
    rw [← ih]; rfl
theorem flat_drop : ∀ (l : List Ptr) (k : Nat), (l.flatMap ptrV).drop (k * 3) = (l.drop k).flatMap ptrV
  | _, 0 => by simp
  | [], k + 1 => by simp
  | p :: l, k + 1 => by
    have ih := flat_drop l k
    rw [show (k + 1) * 3 = k * 3 + 3 from by omega]
    show ((ptrV p) ++ l.flatMap ptrV).drop (k * 3 + 3) = (l.drop k).flatMap ptrV
    rw [← ih]; rfl
/-- What Cut keeps: the node's box, and its two results' ones. -/
structure CutI (H0 : AH) (A1 A2 A4 : Nat) (H : AH) (l1 l2 l4 : List AV) : Prop where
  prs : Prs H0 H
  a1 : H.h.get A1 = some (.cells l1 34 1 false)
  a2 : H.h.get A2 = some (.cells l2 34 1 false)
  a4 : H.h.get A4 = some (.cells l4 34 1 false)
  o1 : H0.next ≤ A1
  o2 : A1 < A2
  o4 : A2 < A4
theorem CutI.lt {H0 H : AH} {A1 A2 A4 : Nat} {l1 l2 l4 : List AV} (h : CutI H0 A1 A2 A4 H l1 l2 l4) : A4 < H.next := h.prs.ok.lt h.a4
theorem CutI.step {H0 H H' : AH} {A1 A2 A4 : Nat} {l1 l2 l4 : List AV} (h : CutI H0 A1 A2 A4 H l1 l2 l4) (s : Prs H H') : CutI H0 A1 A2 A4 H' l1 l2 l4 :=
  ⟨h.prs.trans s, s.get h.prs.ok h.a1, s.get h.prs.ok h.a2, s.get h.prs.ok h.a4, h.o1, h.o2, h.o4⟩
theorem CutI.st2 {H0 H : AH} {A1 A2 A4 : Nat} {l1 l2 l4 : List AV} (h : CutI H0 A1 A2 A4 H l1 l2 l4) {o : Nat} {x : AV} (hx : isCell x = true) (ho : o < l2.length) :
    ∃ H', stN 1 (.ptr A2 o) x H = some (undefA, H') ∧ CutI H0 A1 A2 A4 H' l1 (l2.set o x) l4 ∧ Stp (fun B => B = A2) H H' := by
  obtain ⟨H', e, g, s, n⟩ := st_fld h.prs.ok h.a2 hx ho
  have := h.o1; have := h.o2; have := h.o4; have l4 := h.lt
  exact ⟨H', e, ⟨h.prs.fresh s (fun B hB => by omega), by rw [s.keep _ (by omega) (by omega)]; exact h.a1, g, by rw [s.keep _ l4 (by omega)]; exact h.a4, h.o1, h.o2, h.o4⟩, s⟩
theorem CutI.st4 {H0 H : AH} {A1 A2 A4 : Nat} {l1 l2 l4 : List AV} (h : CutI H0 A1 A2 A4 H l1 l2 l4) {o : Nat} {x : AV} (hx : isCell x = true) (ho : o < l4.length) :
    ∃ H', stN 1 (.ptr A4 o) x H = some (undefA, H') ∧ CutI H0 A1 A2 A4 H' l1 l2 (l4.set o x) ∧ Stp (fun B => B = A4) H H' := by
  obtain ⟨H', e, g, s, n⟩ := st_fld h.prs.ok h.a4 hx ho
  have := h.o1; have := h.o2; have := h.o4; have l4 := h.lt
  exact ⟨H', e, ⟨h.prs.fresh s (fun B hB => by omega), by rw [s.keep _ (by omega) (by omega)]; exact h.a1, by rw [s.keep _ (by omega) (by omega)]; exact h.a2, g, h.o1, h.o2, h.o4⟩, s⟩
/-- A struct's block that is written over whole, by itself. -/
theorem CutI.all2 {H0 H : AH} {A1 A2 A4 : Nat} {l1 l2 l4 l' : List AV} (h : CutI H0 A1 A2 A4 H l1 l2 l4) (hl : l'.length = l2.length) (hc : allCells l' = true) :
    ∃ H', stN l2.length (.ptr A2 0) (.agg l') H = some (undefA, H') ∧ CutI H0 A1 A2 A4 H' l1 l' l4 ∧ Stp (fun B => B = A2) H H' := by
  obtain ⟨H', e, g, s, n⟩ := st_all h.prs.ok h.a2 hl hc
  have := h.o1; have := h.o2; have := h.o4; have l4 := h.lt
  exact ⟨H', e, ⟨h.prs.fresh s (fun B hB => by omega), by rw [s.keep _ (by omega) (by omega)]; exact h.a1, g, by rw [s.keep _ l4 (by omega)]; exact h.a4, h.o1, h.o2, h.o4⟩, s⟩
theorem CutI.all4 {H0 H : AH} {A1 A2 A4 : Nat} {l1 l2 l4 l' : List AV} (h : CutI H0 A1 A2 A4 H l1 l2 l4) (hl : l'.length = l4.length) (hc : allCells l' = true) :
    ∃ H', stN l4.length (.ptr A4 0) (.agg l') H = some (undefA, H') ∧ CutI H0 A1 A2 A4 H' l1 l2 l' ∧ Stp (fun B => B = A4) H H' := by
  obtain ⟨H', e, g, s, n⟩ := st_all h.prs.ok h.a4 hl hc
  have := h.o1; have := h.o2; have := h.o4; have l4 := h.lt
  exact ⟨H', e, ⟨h.prs.fresh s (fun B hB => by omega), by rw [s.keep _ (by omega) (by omega)]; exact h.a1, by rw [s.keep _ (by omega) (by omega)]; exact h.a2, g, h.o1, h.o2, h.o4⟩, s⟩
end Go.Eng.Sh
end
section
namespace Go.Eng.Sh
open Go.Nd (Ptr sumL cutOk cutA cutB)
/-- A fresh row behind the boxes. -/
structure FrG (A k e : Nat) (H : AH) (v : AV) (n : Nat) (l : List AV) : Prop where
  g : Grow k e H v n l
  f : ∀ B, Blk v B → A < B
theorem FrG.prs {A k e n : Nat} {H H' : AH} {v : AV} {l : List AV} (h : FrG A k e H v n l) (s : Prs H H') : FrG A k e H' v n l := ⟨h.g.mono s (fun _ _ x => x), h.f⟩
theorem FrG.stp {A A' k e n : Nat} {H H' : AH} {v : AV} {l : List AV} (h : FrG A k e H v n l) (s : Stp (fun B => B = A') H H') (hA : A' ≤ A) : FrG A k e H' v n l :=
  ⟨h.g.mono s (fun B hB e => by have := h.f B hB; omega), h.f⟩
theorem aveq_S (l : Str) : aveq (S l) (S l) = true := by simp [S, aveq]
theorem FrG.nil (A k e : Nat) (H : AH) : FrG A k e H .nilSlice 0 [] := ⟨.inl ⟨by simp, .inl ⟨rfl, rfl⟩⟩, fun B hB => (Blk.nil.1 hB).elim⟩
theorem FrG.isCell {A k e n : Nat} {H : AH} {v : AV} {l : List AV} (h : FrG A k e H v n l) : isCell v = true := h.g.isCell
theorem FrG.aveq {A k e n : Nat} {H : AH} {v : AV} {l : List AV} (h : FrG A k e H v n l) : aveq v v = true := aveq_row h.g.row
/-- What a node's half is while Cut runs. -/
structure FrN (A : Nat) (H : AH) (a b c : AV) (nd : Nd.Node) : Prop where
  k : FrG A 1 9 H a nd.keys.length (nd.keys.map S)
  v : FrG A 1 9 H b nd.vals.length (nd.vals.map S)
  p : FrG A 3 59 H c nd.kids.length (nd.kids.flatMap ptrV)
theorem FrN.stp {A A' : Nat} {H H' : AH} {a b c : AV} {nd : Nd.Node} (h : FrN A H a b c nd) (s : Stp (fun B => B = A') H H') (hA : A' ≤ A) : FrN A H' a b c nd := ⟨h.k.stp s hA, h.v.stp s hA, h.p.stp s hA⟩
theorem cutJ_ok (D : Dyn) (n : Nat) {H0 H : AH} {A1 A2 A4 k : Nat} {b : Bool} {ks vs ps k2 v2 p2 k4 v4 p4 : AV} {keys : List Str} {na nb : Nd.Node}
    (h : CutI H0 A1 A2 A4 H [.bool b, ks, vs, ps] [.bool b, k2, v2, p2] [.bool b, k4, v4, p4]) (hks : Strs H ks keys) (hR : ∀ B, Blk ks B → B < H0.next) (hk : k < keys.length) (ha : FrN A4 H k2 v2 p2 na) (hb : FrN A4 H k4 v4 p4 nb) :
    ∃ H', f19j0 D n [.ptr A1 0, .ptr A2 0, .ptr A4 0, .int .i64 (k : Nat)] H = some (.ret (.tuple [.agg [.bool b, k2, v2, p2], S (keys.getD k []), .agg [.bool b, k4, v4, p4], .int .i64 ((0 : Nat) : Int)]), H') ∧ Prs H0 H' ∧ FrN A4 H' k2 v2 p2 na ∧ FrN A4 H' k4 v4 p4 nb := by
  have o1 := h.o1; have o2 := h.o2; have o4 := h.o4
  obtain ⟨q, q1, q2⟩ := hks.at hk
  obtain ⟨H1, e1, h1, s1⟩ := h.all2 (l' := [.bool b, k2, v2, p2]) rfl (allCells4 _ _ _ _ ha.k.isCell ha.v.isCell ha.p.isCell)
  have hks1 : Strs H1 ks keys := Rw.stp hks s1 (fun B hB e => by have := hR B hB; omega)
  obtain ⟨q', q1', q2'⟩ := hks1.at hk
  obtain rfl : q = q' := by have := q1 .i64 k rfl; rw [q1' .i64 k rfl] at this; cases this; rfl
  obtain ⟨H2, e2, h2, s2⟩ := h1.all4 (l' := [.bool b, k4, v4, p4]) rfl (allCells4 _ _ _ _ hb.k.isCell hb.v.isCell hb.p.isCell)
  have e1' : stN 4 (.ptr A2 0) (.agg [.bool b, k2, v2, p2]) H = some (undefA, H1) := e1
  have e2' : stN 4 (.ptr A4 0) (.agg [.bool b, k4, v4, p4]) H1 = some (undefA, H2) := e2
  have hagg : aveq (.agg [.bool b, k4, v4, p4]) (.agg [.bool b, k4, v4, p4]) = true := by simp [Eng.aveq, aveqL, hb.k.aveq, hb.v.aveq, hb.p.aveq]
  have hg : keys.getD k [] = keys[k] := by rw [List.getD_eq_getElem?_getD, List.getElem?_eq_getElem hk]; rfl
  have l4 : ldN 4 (.ptr A4 0) H1 = some (.agg [.bool b, k4, v4, p4]) := by rw [ldN_get h1.a4]; rfl
  refine ⟨H2, ?_, h2.prs, (ha.stp s1 (by omega)).stp s2 (by omega), (hb.stp s1 (by omega)).stp s2 (by omega)⟩
  rw [hg]
  simp (disch := omega) only [f19j0, ev, lg, wnt_undef, if_true, if_false, decide_true, decide_false, Bool.not_true, Bool.not_false, Bool.false_eq_true, Bool.true_eq_false, Bool.and_true, Bool.true_and, Bool.and_false, Bool.false_and, Bool.or_true, Bool.true_or, Bool.or_false, Bool.false_or, ldN_get h.a2, ldN_get h.a4, ld1_get h.a1, q1, q2, e1', e2', chk_ok (ld1_get h1.a1 1) (aveq_row hks), chk_ok q2' (aveq_S _), chk_ok l4 hagg, ldN_get h2.a2, ldN_get h2.a4, sub4, Option.map_some]
end Go.Eng.Sh
end
section
namespace Go.Eng.Sh
open Go.Nd (Ptr sumL cutOk cutA cutB)
/-- A row is cut at its end, and what remains is copied. -/
theorem hiS_ok (D : Dyn) (n : Nat) {H : AH} (hk : H.ok) {v : AV} {l : List Str} (h : Grow 1 9 H v l.length (l.map S)) (hl : l.length ≤ 1000000000) {i : Nat} (h0 : 0 < i) (hi : i ≤ l.length) (A : Nat) (hA : A < H.next) :
    ∃ r v' H', slSl 1 v none (some (.int .i64 (i : Nat))) (some (.int .i64 (i : Nat))) H = some r ∧ f39 D n [r] H = some (v', H') ∧ Prs H H' ∧ FrG A 1 9 H' v' (l.take i).length ((l.take i).map S) := by
  obtain ⟨r, e1, w, hz⟩ := slSl_hi h (by decide) hi .i64 .i64
  rw [map_take] at w
  have hlen : (l.take i).length = i := by rw [List.length_take]; omega
  have w' : Strs H r (l.take i) := by rw [Strs, hlen]; exact w
  obtain ⟨v', H', e2, p, g, f⟩ := cloneS_ok D n hk w' (hz h0).1 (hz h0).2 (by omega)
  exact ⟨r, v', H', e1, e2, p, g, fun B hB => by have := f B hB; omega⟩
theorem loS_ok (D : Dyn) (n : Nat) {H : AH} (hk : H.ok) {v : AV} {l : List Str} (h : Grow 1 9 H v l.length (l.map S)) (hl : l.length ≤ 1000000000) {i : Nat} (hi : i < l.length) (A : Nat) (hA : A < H.next) :
    ∃ r v' H', aveq r r = true ∧ slSl 1 v (some (.int .i64 (i : Nat))) none none H = some r ∧ f39 D n [r] H = some (v', H') ∧ Prs H H' ∧ FrG A 1 9 H' v' (l.drop i).length ((l.drop i).map S) := by
  obtain ⟨r, e1, w, z1, z2⟩ := slSl_lo h (by decide) hi .i64
  rw [map_drop] at w
  have hlen : (l.drop i).length = l.length - i := by rw [List.length_drop]
  have w' : Strs H r (l.drop i) := by rw [Strs, hlen]; exact w
  obtain ⟨v', H', e2, p, g, f⟩ := cloneS_ok D n hk w' z1 z2 (by omega)
  exact ⟨r, v', H', aveq_row w, e1, e2, p, g, fun B hB => by have := f B hB; omega⟩
theorem hiP_ok (D : Dyn) (n : Nat) {H : AH} (hk : H.ok) {v : AV} {l : List Ptr} (h : Grow 3 59 H v l.length (l.flatMap ptrV)) (hl : l.length ≤ 1000000000) {i : Nat} (h0 : 0 < i) (hi : i ≤ l.length) (A : Nat) (hA : A < H.next) :
    ∃ r v' H', slSl 3 v none (some (.int .i64 (i : Nat))) (some (.int .i64 (i : Nat))) H = some r ∧ f40 D n [r] H = some (v', H') ∧ Prs H H' ∧ FrG A 3 59 H' v' (l.take i).length ((l.take i).flatMap ptrV) := by
  obtain ⟨r, e1, w, hz⟩ := slSl_hi h (by decide) hi .i64 .i64
  rw [flat_take] at w
  have hlen : (l.take i).length = i := by rw [List.length_take]; omega
  have w' : Ptrs H r (l.take i) := by rw [Ptrs, hlen]; exact w
  obtain ⟨v', H', e2, p, g, f⟩ := cloneP_ok D n hk w' (hz h0).1 (hz h0).2 (by omega)
  exact ⟨r, v', H', e1, e2, p, g, fun B hB => by have := f B hB; omega⟩
theorem loP_ok (D : Dyn) (n : Nat) {H : AH} (hk : H.ok) {v : AV} {l : List Ptr} (h : Grow 3 59 H v l.length (l.flatMap ptrV)) (hl : l.length ≤ 1000000000) {i : Nat} (hi : i < l.length) (A : Nat) (hA : A < H.next) :
    ∃ r v' H', aveq r r = true ∧ slSl 3 v (some (.int .i64 (i : Nat))) none none H = some r ∧ f40 D n [r] H = some (v', H') ∧ Prs H H' ∧ FrG A 3 59 H' v' (l.drop i).length ((l.drop i).flatMap ptrV) := by
  obtain ⟨r, e1, w, z1, z2⟩ := slSl_lo h (by decide) hi .i64
  rw [flat_drop] at w
  have hlen : (l.drop i).length = l.length - i := by rw [List.length_drop]
  have w' : Ptrs H r (l.drop i) := by rw [Ptrs, hlen]; exact w
  obtain ⟨v', H', e2, p, g, f⟩ := cloneP_ok D n hk w' z1 z2 (by omega)
  exact ⟨r, v', H', aveq_row w, e1, e2, p, g, fun B hB => by have := f B hB; omega⟩
end Go.Eng.Sh
end
section
namespace Go.Eng.Sh
open Go.Nd (Ptr sumL cutOk cutA cutB)
/-- Cut's beginning: three boxes, the node is shaped. -/
theorem cutHead (D : Dyn) (n : Nat) (hn : 200000000 ≤ n) {H : AH} (hk : H.ok) {b : Bool} {ks vs ps : AV} {nd : Nd.Node} (hb : nd.leaf = b) (h : NodeV H (.agg [.bool b, ks, vs, ps]) nd) (hs : small nd) :
    ∃ H1 H2 H3 H4 A1 A2 A4, (∀ K, bA (some (AObj.cells [.bool b, ks, vs, ps] 34 1 false, fun A => AV.ptr A 0)) H K = K (.ptr A1 0) H1) ∧ (∀ K, bA (some (AObj.cells [.bool false, .nilSlice, .nilSlice, .nilSlice] 34 1 false, fun A => AV.ptr A 0)) H1 K = K (.ptr A2 0) H2) ∧
      (∀ K, bA (some (AObj.cells [.bool false, .nilSlice, .nilSlice, .nilSlice] 34 1 false, fun A => AV.ptr A 0)) H2 K = K (.ptr A4 0) H3) ∧ f30 D n [.agg [.bool b, ks, vs, ps]] H3 = some (.bool (Nd.shaped ltS nd), H4) ∧
      CutI H A1 A2 A4 H3 [.bool b, ks, vs, ps] [.bool false, .nilSlice, .nilSlice, .nilSlice] [.bool false, .nilSlice, .nilSlice, .nilSlice] ∧ CutI H A1 A2 A4 H4 [.bool b, ks, vs, ps] [.bool false, .nilSlice, .nilSlice, .nilSlice] [.bool false, .nilSlice, .nilSlice, .nilSlice] := by
  have p1 : Prs H (H.push (.cells [.bool b, ks, vs, ps] 34 1 false)) := (Stp.refl hk).push _
  have g1 : (H.push (.cells [.bool b, ks, vs, ps] 34 1 false)).h.get H.next = some (.cells [.bool b, ks, vs, ps] 34 1 false) := AH.push_get_eq _ _
  have n1 : (H.push (.cells [.bool b, ks, vs, ps] 34 1 false)).next = H.next + 1 := rfl
  generalize hH1 : H.push (.cells [.bool b, ks, vs, ps] 34 1 false) = H1 at p1 g1 n1
  have p2 : Prs H1 (H1.push (.cells [.bool false, .nilSlice, .nilSlice, .nilSlice] 34 1 false)) := (Stp.refl p1.ok).push _
  have g2 : (H1.push (.cells [.bool false, .nilSlice, .nilSlice, .nilSlice] 34 1 false)).h.get H1.next = some (.cells [.bool false, .nilSlice, .nilSlice, .nilSlice] 34 1 false) := AH.push_get_eq _ _
  have n2 : (H1.push (.cells [.bool false, .nilSlice, .nilSlice, .nilSlice] 34 1 false)).next = H1.next + 1 := rfl
  have g12 := p2.get p1.ok g1
  generalize hH2 : H1.push (.cells [.bool false, .nilSlice, .nilSlice, .nilSlice] 34 1 false) = H2 at p2 g2 n2 g12
  have p3 : Prs H2 (H2.push (.cells [.bool false, .nilSlice, .nilSlice, .nilSlice] 34 1 false)) := (Stp.refl p2.ok).push _
  have g3 : (H2.push (.cells [.bool false, .nilSlice, .nilSlice, .nilSlice] 34 1 false)).h.get H2.next = some (.cells [.bool false, .nilSlice, .nilSlice, .nilSlice] 34 1 false) := AH.push_get_eq _ _
  have g13 := p3.get p2.ok g12
  have g23 := p3.get p2.ok g2
  generalize hH3 : H2.push (.cells [.bool false, .nilSlice, .nilSlice, .nilSlice] 34 1 false) = H3 at p3 g3 g13 g23
  have P3 : Prs H H3 := (p1.trans p2).trans p3
  obtain ⟨H4, e4, p4⟩ := shaped_ok D n p3.ok (h.prs P3) hs hn
  have c3 : CutI H H.next H1.next H2.next H3 [.bool b, ks, vs, ps] [.bool false, .nilSlice, .nilSlice, .nilSlice] [.bool false, .nilSlice, .nilSlice, .nilSlice] := ⟨P3, g13, g23, g3, by omega, by omega, by omega⟩
  refine ⟨H1, H2, H3, H4, H.next, H1.next, H2.next, fun K => ?_, fun K => ?_, fun K => ?_, e4, c3, c3.step p4⟩
  · simp only [ev, lg, wnt_undef, if_true, if_false, decide_true, decide_false, Bool.not_true, Bool.not_false, Bool.false_eq_true, Bool.true_eq_false, Bool.and_true, Bool.true_and, Bool.and_false, Bool.false_and, Bool.or_true, Bool.true_or, Bool.or_false, Bool.false_or, bA_ok hk, hH1]
  · simp only [ev, lg, wnt_undef, if_true, if_false, decide_true, decide_false, Bool.not_true, Bool.not_false, Bool.false_eq_true, Bool.true_eq_false, Bool.and_true, Bool.true_and, Bool.and_false, Bool.false_and, Bool.or_true, Bool.true_or, Bool.or_false, Bool.false_or, bA_ok p1.ok, hH2]
  · simp only [ev, lg, wnt_undef, if_true, if_false, decide_true, decide_false, Bool.not_true, Bool.not_false, Bool.false_eq_true, Bool.true_eq_false, Bool.and_true, Bool.true_and, Bool.and_false, Bool.false_and, Bool.or_true, Bool.true_or, Bool.or_false, Bool.false_or, bA_ok p2.ok, hH3]
end Go.Eng.Sh
end
section
namespace Go.Eng.Sh
open Go.Nd (Ptr sumL cutOk cutA cutB)
theorem cutLeaf (D : Dyn) (n : Nat) (hn : 200000000 ≤ n) {H : AH} (hk : H.ok) {v : AV} {nd : Nd.Node} (h : NodeG H v nd) (hs : small nd) (hsh : Nd.shaped ltS nd = true) (hc : cuttable nd) (hl : nd.leaf = true) :
    ∃ k va vb H', f19 D n [v] H = some (.tuple [va, S (nd.keys.getD k []), vb, .int .i64 ((0 : Nat) : Int)], H') ∧ Prs H H' ∧ NodeG H' va (cutA nd k) ∧ NodeG H' vb (cutB nd k) ∧ cutOk nd k := by
  have h0 := h.node
  obtain ⟨ks, vs, ps, rfl, h1, h2, h3⟩ := h
  rw [hl] at h0
  have hkl := Nd.sumL_ge nd.keys
  have hvl : nd.vals.length = nd.keys.length := by
    simp only [Nd.shaped, hl, if_true, Bool.and_eq_true, decide_eq_true_eq] at hsh
    exact hsh.2.1.1
  obtain ⟨s1, s2, s3⟩ := id hs
  obtain ⟨c1, c2⟩ := id hc
  obtain ⟨H1, H2, H3, H4, A1, A2, A4, b1, b2, b3, e4, i3, i4⟩ := cutHead D n hn hk hl h0 hs
  obtain ⟨k, H5, e5, p5, k1, k2⟩ := half_ok D n hn i4.prs.ok (h0.prs i4.prs) hs hsh hc
  simp only [hl, if_true] at k2
  have i5 := i4.step p5
  obtain ⟨H6, e6, i6, t6⟩ := i5.st2 (o := 0) (x := .bool true) rfl (by simp)
  obtain ⟨H7, e7, i7, t7⟩ := i6.st4 (o := 0) (x := .bool true) rfl (by simp)
  have m {H' : AH} (p : Prs H H') := h1.mono p (fun _ _ x => x)
  have m2 {H' : AH} (p : Prs H H') := h2.mono p (fun _ _ x => x)
  obtain ⟨r8, k8, H8, c8, e8, p8, f8⟩ := hiS_ok D n i7.prs.ok (m i7.prs) (by omega) k1 (by omega) A4 i7.lt
  have i8 := i7.step p8
  obtain ⟨H9, e9, i9, t9⟩ := i8.st2 (o := 1) (x := k8) f8.isCell (by simp)
  have f9 := f8.stp t9 (by have := i8.o4; omega)
  obtain ⟨r10, k10, H10, _, c10, e10, p10, f10⟩ := loS_ok D n i9.prs.ok (m i9.prs) (by omega) (show k < _ by omega) A4 i9.lt
  have i10 := i9.step p10
  obtain ⟨H11, e11, i11, t11⟩ := i10.st4 (o := 1) (x := k10) f10.isCell (by simp)
  have f11 := f10.stp t11 (by omega)
  obtain ⟨r12, k12, H12, c12, e12, p12, f12⟩ := hiS_ok D n i11.prs.ok (m2 i11.prs) (by omega) k1 (by omega) A4 i11.lt
  have i12 := i11.step p12
  obtain ⟨r13, k13, H13, q13, c13, e13, p13, f13⟩ := loS_ok D n i12.prs.ok (m2 i12.prs) (by omega) (show k < _ by omega) A4 i12.lt
  have c13' : slSl 1 vs (some (.int .i64 (k : Nat))) none none H11 = some r13 := by rw [slSl_same (m2 i12.prs) (m2 i11.prs) (by decide)]; exact c13
  have i13 := i12.step p13
  obtain ⟨H14, e14, i14, t14⟩ := i13.st2 (o := 2) (x := k12) f12.isCell (by simp)
  obtain ⟨H15, e15, i15, t15⟩ := i14.st4 (o := 2) (x := k13) f13.isCell (by simp)
  have o4 := i15.o4
  have h24 := i15.o1
  have F8 : FrG A4 1 9 H15 k8 _ _ := (((((f9.prs p10).stp t11 (by omega)).prs p12).prs p13).stp t14 (by omega)).stp t15 (by omega)
  have F10 : FrG A4 1 9 H15 k10 _ _ := (((f11.prs p12).prs p13).stp t14 (by omega)).stp t15 (by omega)
  have F12 : FrG A4 1 9 H15 k12 _ _ := ((f12.prs p13).stp t14 (by omega)).stp t15 (by omega)
  have F13 : FrG A4 1 9 H15 k13 _ _ := (f13.stp t14 (by omega)).stp t15 (by omega)
  have na : FrN A4 H15 k8 k12 .nilSlice (cutA nd k) := by
    simp only [cutA, hl, if_true]; exact ⟨F8, F12, FrG.nil ..⟩
  have nb : FrN A4 H15 k10 k13 .nilSlice (cutB nd k) := by
    simp only [cutB, hl, if_true]; exact ⟨F10, F13, FrG.nil ..⟩
  obtain ⟨H16, e16, P, fa, fb⟩ := cutJ_ok D n i15 ((m i15.prs).row) (fun B hB => h1.lt hB) (show k < nd.keys.length by omega) na nb
  refine ⟨k, .agg [.bool true, k8, k12, .nilSlice], .agg [.bool true, k10, k13, .nilSlice], H16, ?_, P, ?_, ?_, k1, by rw [hl]; simp only [if_true]; omega⟩
  · have t2 : ¬ ((nd.keys.length : Nat) : Int) < ((2 : Nat) : Int) := by omega
    simp (config := { maxSteps := 1000000 }) (disch := omega) only [f19, ev, lg, wnt_undef, if_true, if_false, decide_true, decide_false, Bool.not_true, Bool.not_false, Bool.false_eq_true, Bool.true_eq_false, Bool.and_true, Bool.true_and, Bool.and_false, Bool.false_and, Bool.or_true, Bool.true_or, Bool.or_false, Bool.false_or, hl, b1, b2, b3, ldN_get i3.a1, ldN_get i4.a1, sub4, Option.map_some, e4, hsh, ld1_get i4.a1, h1.row.lnSl, t2, e5, ld1_get i5.a1, e6, chk_ok (ld1_get i6.a1 0) (aveq_bool _), e7, ld1_get i7.a1, c8, e8, e9, ld1_get i9.a1, c10, e10, e11, ld1_get i11.a1, c12, c13', e12, chk_ok (ld1_get i12.a1 2) (aveq_row h2.row), chk_ok c13 q13, e13, e14, e15, e16]
  · exact ⟨k8, k12, .nilSlice, by simp only [cutA, hl, if_true], fa.k.g, fa.v.g, fa.p.g⟩
  · exact ⟨k10, k13, .nilSlice, by simp only [cutB, hl, if_true], fb.k.g, fb.v.g, fb.p.g⟩
end Go.Eng.Sh
end
section
namespace Go.Eng.Sh
open Go.Nd (Ptr sumL cutOk cutA cutB)
theorem cutInner (D : Dyn) (n : Nat) (hn : 200000000 ≤ n) {H : AH} (hk : H.ok) {v : AV} {nd : Nd.Node} (h : NodeG H v nd) (hs : small nd) (hsh : Nd.shaped ltS nd = true) (hc : cuttable nd) (hl : nd.leaf = false) :
    ∃ k va vb H', f19 D n [v] H = some (.tuple [va, S (nd.keys.getD k []), vb, .int .i64 ((0 : Nat) : Int)], H') ∧ Prs H H' ∧ NodeG H' va (cutA nd k) ∧ NodeG H' vb (cutB nd k) ∧ cutOk nd k := by
  have h0 := h.node
  obtain ⟨ks, vs, ps, rfl, h1, h2, h3⟩ := h
  rw [hl] at h0
  have hkl := Nd.sumL_ge nd.keys
  have hpl : nd.kids.length = nd.keys.length + 1 := by
    simp only [Nd.shaped, hl, Bool.false_eq_true, if_false, Bool.and_eq_true, decide_eq_true_eq] at hsh
    exact hsh.2.1.2
  obtain ⟨s1, s2, s3⟩ := id hs
  obtain ⟨c1, c2⟩ := id hc
  obtain ⟨H1, H2, H3, H4, A1, A2, A4, b1, b2, b3, e4, i3, i4⟩ := cutHead D n hn hk hl h0 hs
  obtain ⟨k, H5, e5, p5, k1, k2⟩ := half_ok D n hn i4.prs.ok (h0.prs i4.prs) hs hsh hc
  simp only [hl, Bool.false_eq_true, if_false] at k2
  have i5 := i4.step p5
  obtain ⟨H6, e6, i6, t6⟩ := i5.st2 (o := 0) (x := .bool false) rfl (by simp)
  obtain ⟨H7, e7, i7, t7⟩ := i6.st4 (o := 0) (x := .bool false) rfl (by simp)
  have m {H' : AH} (p : Prs H H') := h1.mono p (fun _ _ x => x)
  have m2 {H' : AH} (p : Prs H H') := h3.mono p (fun _ _ x => x)
  obtain ⟨r8, k8, H8, c8, e8, p8, f8⟩ := hiS_ok D n i7.prs.ok (m i7.prs) (by omega) k1 (by omega) A4 i7.lt
  have i8 := i7.step p8
  obtain ⟨H9, e9, i9, t9⟩ := i8.st2 (o := 1) (x := k8) f8.isCell (by simp)
  have f9 := f8.stp t9 (by have := i8.o4; omega)
  obtain ⟨r10, k10, H10, _, c10, e10, p10, f10⟩ := loS_ok D n i9.prs.ok (m i9.prs) (by omega) (show k + 1 < _ by omega) A4 i9.lt
  have i10 := i9.step p10
  obtain ⟨H11, e11, i11, t11⟩ := i10.st4 (o := 1) (x := k10) f10.isCell (by simp)
  have f11 := f10.stp t11 (by omega)
  obtain ⟨r12, k12, H12, c12, e12, p12, f12⟩ := hiP_ok D n i11.prs.ok (m2 i11.prs) (by omega) (show 0 < k + 1 by omega) (by omega) A4 i11.lt
  have i12 := i11.step p12
  obtain ⟨r13, k13, H13, q13, c13, e13, p13, f13⟩ := loP_ok D n i12.prs.ok (m2 i12.prs) (by omega) (show k + 1 < _ by omega) A4 i12.lt
  have c13' : slSl 3 ps (some (.int .i64 ((k + 1 : Nat) : Int))) none none H11 = some r13 := by rw [slSl_same (m2 i12.prs) (m2 i11.prs) (by decide)]; exact c13
  have i13 := i12.step p13
  obtain ⟨H14, e14, i14, t14⟩ := i13.st2 (o := 3) (x := k12) f12.isCell (by simp)
  obtain ⟨H15, e15, i15, t15⟩ := i14.st4 (o := 3) (x := k13) f13.isCell (by simp)
  simp only [Int.natCast_add] at c10 c12 c13 c13'
  have o4 := i15.o4
  have h24 := i15.o1
  have F8 : FrG A4 1 9 H15 k8 _ _ := (((((f9.prs p10).stp t11 (by omega)).prs p12).prs p13).stp t14 (by omega)).stp t15 (by omega)
  have F10 : FrG A4 1 9 H15 k10 _ _ := (((f11.prs p12).prs p13).stp t14 (by omega)).stp t15 (by omega)
  have F12 : FrG A4 3 59 H15 k12 _ _ := ((f12.prs p13).stp t14 (by omega)).stp t15 (by omega)
  have F13 : FrG A4 3 59 H15 k13 _ _ := (f13.stp t14 (by omega)).stp t15 (by omega)
  have na : FrN A4 H15 k8 .nilSlice k12 (cutA nd k) := by
    simp only [cutA, hl, Bool.false_eq_true, if_false]; exact ⟨F8, FrG.nil .., F12⟩
  have nb : FrN A4 H15 k10 .nilSlice k13 (cutB nd k) := by
    simp only [cutB, hl, Bool.false_eq_true, if_false]; exact ⟨F10, FrG.nil .., F13⟩
  obtain ⟨H16, e16, P, fa, fb⟩ := cutJ_ok D n i15 ((m i15.prs).row) (fun B hB => h1.lt hB) (show k < nd.keys.length by omega) na nb
  refine ⟨k, .agg [.bool false, k8, .nilSlice, k12], .agg [.bool false, k10, .nilSlice, k13], H16, ?_, P, ?_, ?_, k1, by rw [hl]; simp only [Bool.false_eq_true, if_false]; omega⟩
  · have t2 : ¬ ((nd.keys.length : Nat) : Int) < ((2 : Nat) : Int) := by omega
    have t3 : ¬ ((nd.keys.length : Nat) : Int) < ((3 : Nat) : Int) := by omega
    simp (config := { maxSteps := 1000000 }) (disch := omega) only [f19, ev, lg, wnt_undef, if_true, if_false, decide_true, decide_false, Bool.not_true, Bool.not_false, Bool.false_eq_true, Bool.true_eq_false, Bool.and_true, Bool.true_and, Bool.and_false, Bool.false_and, Bool.or_true, Bool.true_or, Bool.or_false, Bool.false_or, hl, b1, b2, b3, ldN_get i3.a1, ldN_get i4.a1, sub4, Option.map_some, e4, hsh, ld1_get i4.a1, h1.row.lnSl, t2, t3, e5, ld1_get i5.a1, e6, chk_ok (ld1_get i6.a1 0) (aveq_bool _), e7, ld1_get i7.a1, c8, e8, e9, ld1_get i9.a1, c10, e10, e11, ld1_get i11.a1, c12, c13', e12, chk_ok (ld1_get i12.a1 3) (aveq_row h3.row), chk_ok c13 q13, e13, e14, e15, e16]
  · exact ⟨k8, .nilSlice, k12, by simp only [cutA, hl, Bool.false_eq_true, if_false], fa.k.g, fa.v.g, fa.p.g⟩
  · exact ⟨k10, .nilSlice, k13, by simp only [cutB, hl, Bool.false_eq_true, if_false], fb.k.g, fb.v.g, fb.p.g⟩
end Go.Eng.Sh
end
section
namespace Go.Eng
namespace T
variable {α : Type}
theorem setF_any : ∀ (f g : Nat) (t : T α) (n : Nat) (a : α) (t' t'' : T α), setF f t n a = some t' → setF g t n a = some t'' → t' = t'' := by
  intro f
  induction f with
  | zero => intro g t n a t' t'' h; simp [setF_zero] at h
  | succ f ih =>
    intro g t n a t' t'' h h'
    cases g with
    | zero => simp [setF_zero] at h'
    | succ g =>
      cases t with
      | leaf =>
        rw [setF_leaf] at h h'
        split at h
        · rename_i h0; rw [if_pos h0] at h'; rw [h] at h'; simpa using h'
        · rename_i h0
          rw [if_neg h0] at h'
          split at h
          · rename_i hm
            rw [if_pos hm] at h'
            split at h
            · rename_i l hl
              split at h'
              · rename_i l' hl'
                have := ih g _ _ _ _ _ hl hl'
                subst this; rw [h] at h'; simpa using h'
              · simp at h'
            · simp at h
          · rename_i hm
            rw [if_neg hm] at h'
            split at h
            · rename_i l hl
              split at h'
              · rename_i l' hl'
                have := ih g _ _ _ _ _ hl hl'
                subst this; rw [h] at h'; simpa using h'
              · simp at h'
            · simp at h
      | node l v r =>
        rw [setF_node] at h h'
        split at h
        · rename_i h0; rw [if_pos h0] at h'; rw [h] at h'; simpa using h'
        · rename_i h0
          rw [if_neg h0] at h'
          split at h
          · rename_i hm
            rw [if_pos hm] at h'
            split at h
            · rename_i l hl
              split at h'
              · rename_i l' hl'
                have := ih g _ _ _ _ _ hl hl'
                subst this; rw [h] at h'; simpa using h'
              · simp at h'
            · simp at h
          · rename_i hm
            rw [if_neg hm] at h'
            split at h
            · rename_i l hl
              split at h'
              · rename_i l' hl'
                have := ih g _ _ _ _ _ hl hl'
                subst this; rw [h] at h'; simpa using h'
              · simp at h'
            · simp at h
/-- Set, told by its cases. -/
noncomputable def st (t : T α) (n : Nat) (a : α) : T α := (T.set 40 t n a).getD .leaf
theorem st_of {f : Nat} {t : T α} {n : Nat} {a : α} {t' : T α} (h : setF f t n a = some t') : st t n a = t' := by
  obtain ⟨t2, h2⟩ := Option.isSome_iff_exists.1 (T.set_some 40 t n a)
  have := setF_any _ _ _ _ _ _ _ h2 h
  simp only [st, h2, Option.getD_some, this]
theorem st_big (t : T α) (n : Nat) (a : α) : ∃ f, setF f t n a = some (st t n a) := by
  obtain ⟨t2, h2⟩ := Option.isSome_iff_exists.1 (T.set_some 40 t n a)
  exact ⟨_, by simp only [st, h2, Option.getD_some]; exact h2⟩
theorem st_leaf (n : Nat) (a : α) : st (.leaf : T α) n a = if n = 0 then .node .leaf (some a) .leaf else if n % 2 = 1 then .node (st .leaf (n / 2) a) none .leaf else .node .leaf none (st .leaf (n / 2 - 1) a) := by
  by_cases h0 : n = 0
  · rw [if_pos h0]; exact st_of (f := 1) (by rw [setF_leaf, if_pos h0])
  · rw [if_neg h0]
    by_cases hm : n % 2 = 1
    · rw [if_pos hm]
      obtain ⟨f, hf⟩ := st_big (.leaf : T α) (n / 2) a
      exact st_of (f := f + 1) (by rw [setF_leaf, if_neg h0, if_pos hm, hf])
    · rw [if_neg hm]
      obtain ⟨f, hf⟩ := st_big (.leaf : T α) (n / 2 - 1) a
      exact st_of (f := f + 1) (by rw [setF_leaf, if_neg h0, if_neg hm, hf])
theorem st_node (l : T α) (v : Option α) (r : T α) (n : Nat) (a : α) : st (.node l v r) n a = if n = 0 then .node l (some a) r else if n % 2 = 1 then .node (st l (n / 2) a) v r else .node l v (st r (n / 2 - 1) a) := by
  by_cases h0 : n = 0
  · rw [if_pos h0]; exact st_of (f := 1) (by rw [setF_node, if_pos h0])
  · rw [if_neg h0]
    by_cases hm : n % 2 = 1
    · rw [if_pos hm]
      obtain ⟨f, hf⟩ := st_big l (n / 2) a
      exact st_of (f := f + 1) (by rw [setF_node, if_neg h0, if_pos hm, hf])
    · rw [if_neg hm]
      obtain ⟨f, hf⟩ := st_big r (n / 2 - 1) a
      exact st_of (f := f + 1) (by rw [setF_node, if_neg h0, if_neg hm, hf])
theorem st_st (n : Nat) : ∀ (t : T α) (a b : α), st (st t n a) n b = st t n b := by
  induction n using Nat.strongRecOn with
  | ind n ih =>
    intro t a b
    cases t with
    | leaf =>
      rw [st_leaf n a, st_leaf n b]
      by_cases h0 : n = 0
      · rw [if_pos h0, if_pos h0, st_node, if_pos h0]
      · rw [if_neg h0, if_neg h0]
        by_cases hm : n % 2 = 1
        · rw [if_pos hm, if_pos hm, st_node, if_neg h0, if_pos hm, ih (n / 2) (by omega)]
        · rw [if_neg hm, if_neg hm, st_node, if_neg h0, if_neg hm, ih (n / 2 - 1) (by omega)]
    | node l v r =>
      rw [st_node l v r n a, st_node l v r n b]
      by_cases h0 : n = 0
      · rw [if_pos h0, if_pos h0, st_node, if_pos h0]
      · rw [if_neg h0, if_neg h0]
        by_cases hm : n % 2 = 1
        · rw [if_pos hm, if_pos hm, st_node, if_neg h0, if_pos hm, ih (n / 2) (by omega)]
        · rw [if_neg hm, if_neg hm, st_node, if_neg h0, if_neg hm, ih (n / 2 - 1) (by omega)]
theorem st_comm (n : Nat) : ∀ (m : Nat) (t : T α) (a b : α), m ≠ n → st (st t n a) m b = st (st t m b) n a := by
  induction n using Nat.strongRecOn with
  | ind n ih =>
    intro m t a b hne
    have key : ∀ (l : T α) (v : Option α) (r : T α), st (st (.node l v r) n a) m b = st (st (.node l v r) m b) n a := by
      intro l v r
      rw [st_node l v r n a, st_node l v r m b]
      by_cases n0 : n = 0
      · rw [if_pos n0]
        have m0 : m ≠ 0 := by omega
        rw [if_neg m0, st_node, if_neg m0]
        by_cases mm : m % 2 = 1
        · rw [if_pos mm, if_pos mm, st_node, if_pos n0]
        · rw [if_neg mm, if_neg mm, st_node, if_pos n0]
      · rw [if_neg n0]
        by_cases nm : n % 2 = 1
        · rw [if_pos nm, st_node]
          by_cases m0 : m = 0
          · rw [if_pos m0, if_pos m0, st_node, if_neg n0, if_pos nm]
          · rw [if_neg m0, if_neg m0]
            by_cases mm : m % 2 = 1
            · rw [if_pos mm, if_pos mm, st_node, if_neg n0, if_pos nm, ih (n / 2) (by omega) (m / 2) _ _ _ (by omega)]
            · rw [if_neg mm, if_neg mm, st_node, if_neg n0, if_pos nm]
        · rw [if_neg nm, st_node]
          by_cases m0 : m = 0
          · rw [if_pos m0, if_pos m0, st_node, if_neg n0, if_neg nm]
          · rw [if_neg m0, if_neg m0]
            by_cases mm : m % 2 = 1
            · rw [if_pos mm, if_pos mm, st_node, if_neg n0, if_neg nm]
            · rw [if_neg mm, if_neg mm, st_node, if_neg n0, if_neg nm, ih (n / 2 - 1) (by omega) (m / 2 - 1) _ _ _ (by omega)]
    cases t with
    | node l v r => exact key l v r
    | leaf =>
      have e : ∀ (k : Nat) (c : α), st (.leaf : T α) k c = st (.node .leaf none .leaf) k c := fun k c => by rw [st_leaf, st_node]
      rw [e n a, e m b]; exact key _ _ _
end T
theorem AH.push_st (H : AH) (o : AObj) : H.push o = ⟨T.st H.h H.next o, H.next + 1⟩ := rfl
theorem AH.put_st (H : AH) (A : Nat) (o : AObj) : H.put A o = ⟨T.st H.h A o, H.next⟩ := rfl
theorem AH.put_push (H : AH) (o o' : AObj) : (H.push o).put H.next o' = H.push o' := by
  simp only [AH.push_st, AH.put_st, T.st_st]
theorem AH.put_put (H : AH) (A : Nat) (o o' : AObj) : (H.put A o).put A o' = H.put A o' := by
  simp only [AH.put_st, T.st_st]
theorem AH.put_in (H : AH) (o o' : AObj) {A : Nat} (h : A ≠ H.next) : (H.push o).put A o' = (H.put A o').push o := by
  simp only [AH.push_st, AH.put_st]; rw [T.st_comm H.next A _ _ _ h]
/-- A fresh block is written over, whole, or in one cell. -/
theorem stN_push {H : AH} {n : Nat} {z l : List AV} {e sz : Nat} {g : Bool} (hz : 0 < sz) (hl : l.length = n) (hn : z.length = n) (hc : allCells l = true) :
    stN n (.ptr H.next 0) (.agg l) (H.push (.cells z e sz g)) = some (undefA, H.push (.cells l e sz g)) := by
  rw [stN_ok (x := .agg l) (AH.push_get_eq _ _) hz hl hc (by omega), AH.put_push]
  simp [cellsA, List.drop_eq_nil_of_le, hn]
theorem st1_push {H : AH} {o : Nat} {z : List AV} {x : AV} {e sz : Nat} {g : Bool} (hz : 0 < sz) (hx : isCell x = true) (ho : o < z.length) :
    stN 1 (.ptr H.next o) x (H.push (.cells z e sz g)) = some (undefA, H.push (.cells (z.set o x) e sz g)) := by
  rw [st1_ok (AH.push_get_eq _ _) hz hx ho, AH.put_push]
/-- Reading what was there. -/
theorem Stp.ld1 {S : Nat → Prop} {H H' : AH} (s : Stp S H H') {A : Nat} (o : Nat) (h : A < H.next) (hS : ¬ S A) : Eng.ld1 (.ptr A o) H' = Eng.ld1 (.ptr A o) H := by simp only [Eng.ld1, s.keep A h hS]
theorem Stp.ldN {S : Nat → Prop} {H H' : AH} (s : Stp S H H') {A : Nat} (o n : Nat) (h : A < H.next) (hS : ¬ S A) : Eng.ldN n (.ptr A o) H' = Eng.ldN n (.ptr A o) H := by simp only [Eng.ldN, s.keep A h hS]
theorem Prs.l1 {H H' : AH} (s : Prs H H') (A : Nat) (o : Nat) (h : A < H.next) : Eng.ld1 (.ptr A o) H' = Eng.ld1 (.ptr A o) H := s.ld1 o h (fun x => x)
theorem Prs.lN {H H' : AH} (s : Prs H H') (A : Nat) (o n : Nat) (h : A < H.next) : Eng.ldN n (.ptr A o) H' = Eng.ldN n (.ptr A o) H := s.ldN o n h (fun x => x)
/-- Boxes that were pushed are read in whatever heap came of it. -/
theorem Prs.b1 {H H' : AH} {l : List AV} {e sz : Nat} {g : Bool} (s : Prs (H.push (.cells l e sz g)) H') (o : Nat) : Eng.ld1 (.ptr H.next o) H' = l[o]? := by
  rw [s.l1 _ _ (by rw [AH.push_next]; omega), ld1_push]
theorem Prs.bN {H H' : AH} {l : List AV} {e sz : Nat} {g : Bool} (s : Prs (H.push (.cells l e sz g)) H') (o n : Nat) : Eng.ldN n (.ptr H.next o) H' = (subN l o n).map .agg := by
  rw [s.lN _ _ _ (by rw [AH.push_next]; omega), ldN_push]
theorem Prs.refl {H : AH} (h : H.ok) : Prs H H := Stp.refl h
theorem Prs.pushed {H : AH} (h : H.ok) (o : AObj) : Prs H (H.push o) := (Stp.refl h).push o
theorem Prs.of_push {H H' : AH} {o : AObj} (h : H.ok) (s : Prs (H.push o) H') : Prs H H' := (Prs.pushed h o).trans s
end Go.Eng
end
section
namespace Go.Eng
/-- Rows, each with its cells. -/
def Rws (k : Nat) (H : AH) : List AV → List (Nat × List AV) → Prop
  | [], [] => True
  | v :: vs, r :: rs => (Rw k H v r.1 r.2 ∧ allCells r.2 = true) ∧ Rws k H vs rs
  | _, _ => False
theorem Rws.len {k : Nat} {H : AH} : ∀ {vs : List AV} {rs : List (Nat × List AV)}, Rws k H vs rs → vs.length = rs.length
  | [], [], _ => rfl
  | _ :: vs, _ :: rs, h => by simp only [List.length_cons, Rws.len h.2]
  | [], _ :: _, h => h.elim
  | _ :: _, [], h => h.elim
theorem Rws.at {k : Nat} {H : AH} : ∀ {vs : List AV} {rs : List (Nat × List AV)} {i : Nat} {x : AV}, Rws k H vs rs → vs[i]? = some x → ∃ r, rs[i]? = some r ∧ Rw k H x r.1 r.2 ∧ allCells r.2 = true
  | [], [], _, _, _, h => by simp at h
  | _ :: vs, r :: rs, 0, x, h, hx => by simp only [List.getElem?_cons_zero, Option.some.injEq] at hx; subst hx; exact ⟨r, rfl, h.1⟩
  | _ :: vs, _ :: rs, i + 1, x, h, hx => by simp only [List.getElem?_cons_succ] at hx ⊢; exact Rws.at h.2 hx
  | [], _ :: _, _, _, h, _ => h.elim
  | _ :: _, [], _, _, h, _ => h.elim
theorem Rws.prs {k : Nat} {H H' : AH} (s : Prs H H') : ∀ {vs : List AV} {rs : List (Nat × List AV)}, Rws k H vs rs → Rws k H' vs rs
  | [], [], _ => trivial
  | _ :: vs, _ :: rs, h => ⟨⟨h.1.1.prs s, h.1.2⟩, Rws.prs s h.2⟩
  | [], _ :: _, h => h.elim
  | _ :: _, [], h => h.elim
def sumN (rs : List (Nat × List AV)) : Nat := (rs.map Prod.fst).sum
def catN (rs : List (Nat × List AV)) : List AV := rs.flatMap Prod.snd
theorem sumN_take {rs : List (Nat × List AV)} {i : Nat} {r : Nat × List AV} (h : rs[i]? = some r) : sumN (rs.take (i + 1)) = sumN (rs.take i) + r.1 := by
  obtain ⟨hi, rfl⟩ := List.getElem?_eq_some_iff.1 h
  rw [List.take_succ_eq_append_getElem hi]; simp only [sumN, List.map_append, List.sum_append, List.map_cons, List.map_nil, List.sum_cons, List.sum_nil, Nat.add_zero]
theorem catN_take {rs : List (Nat × List AV)} {i : Nat} {r : Nat × List AV} (h : rs[i]? = some r) : catN (rs.take (i + 1)) = catN (rs.take i) ++ r.2 := by
  obtain ⟨hi, rfl⟩ := List.getElem?_eq_some_iff.1 h
  rw [List.take_succ_eq_append_getElem hi]; simp only [catN, List.flatMap_append, List.flatMap_cons, List.flatMap_nil, List.append_nil]
theorem sumN_le (rs : List (Nat × List AV)) (i : Nat) : sumN (rs.take i) ≤ sumN rs := by
  have : rs = rs.take i ++ rs.drop i := (List.take_append_drop i rs).symm
  conv => rhs; rw [this]
  simp only [sumN, List.map_append, List.sum_append]; omega
/-- A row that is being filled, so many elements in all. -/
def Part (k e : Nat) (H : AH) (v : AV) (n : Nat) (l : List AV) (tot : Nat) : Prop :=
  (tot = 0 ∧ v = .nilSlice ∧ n = 0 ∧ l = []) ∨ ∃ A rest, v = .slice A 0 n 1 ∧ A < H.next ∧ H.h.get A = some (.cells (l ++ rest) e k true) ∧ l.length = n * k ∧ rest.length = (tot - n) * k ∧ n ≤ tot
theorem Part.own {k e : Nat} {H : AH} {v : AV} {n : Nat} {l : List AV} (h : Part k e H v n l n) : Own k e H v n l := by
  rcases h with ⟨rfl, rfl, _, rfl⟩ | ⟨A, rest, rfl, hA, hg, hl, hr, _⟩
  · exact Own.nil _ _ _
  · have : rest = [] := List.eq_nil_of_length_eq_zero (by rw [hr, Nat.sub_self, Nat.zero_mul])
    subst this; rw [List.append_nil] at hg
    exact ⟨hl, .inr ⟨A, rfl, hA, hg⟩⟩
theorem Part.app {k e bytes : Nat} {H : AH} {v s : AV} {n m tot : Nat} {l new : List AV} (hk : H.ok) (hpos : 0 < k) (h : Part k e H v n l tot) (hs : srcOf k s H = some (m, new)) (hm : new.length = m * k) (hc : allCells new = true) (hle : n + m ≤ tot) :
    ∃ v' H', apP e k bytes v s H = some (v', H') ∧ Part k e H' v' (n + m) (l ++ new) tot ∧ Stp (Blk v) H H' ∧ H'.next = H.next ∧ ∀ B, Blk v' B → Blk v B := by
  rcases h with ⟨rfl, rfl, rfl, rfl⟩ | ⟨A, rest, rfl, hA, hg, hl, hr, hn⟩
  · obtain rfl : m = 0 := by omega
    have : new = [] := List.eq_nil_of_length_eq_zero (by simpa using hm)
    subst this
    exact ⟨.nilSlice, H, by simp [apP, hs, hc, app1], .inl ⟨rfl, rfl, rfl, rfl⟩, Stp.refl hk, rfl, fun _ x => x⟩
  · have hlen : (l ++ rest).length = tot * k := by rw [List.length_append, hl, hr, ← Nat.add_mul]; congr 1; omega
    have hroom : roomOf (l ++ rest) true k 0 1 k = tot := by
      simp only [roomOf, show ((1 % 2).beq 0) = false from rfl, cond_false, Nat.beq_refl, show Nat.beq 0 (1 / 2 * k) = true from by simp, Bool.and_self, cond_true, lenL_zero, hlen, Nat.sub_zero]
      exact Nat.mul_div_cancel _ hpos
    have b1 : Nat.ble (n + m) tot = true := by rw [Nat.ble_eq]; exact hle
    have hz : Nat.blt 0 k = true := by rw [Nat.blt_eq]; exact hpos
    have hmr : m * k ≤ rest.length := by rw [hr]; exact Nat.mul_le_mul_right _ (by omega)
    have hset : setAt (l ++ rest) (0 + n * k) new = some (l ++ new ++ rest.drop (m * k)) := by
      rw [setAt_some (by rw [hlen, hm, Nat.zero_add, ← Nat.add_mul]; exact Nat.mul_le_mul_right _ hle), Nat.zero_add, hm]
      congr 1
      rw [List.take_append_of_le_length (by omega), List.take_of_length_le (by omega), List.drop_append, ← hl, List.drop_of_length_le (by omega), List.nil_append]
      congr 2; omega
    refine ⟨.slice A 0 (n + m) 1, H.put A (.cells (l ++ new ++ rest.drop (m * k)) e k true), ?_, .inr ⟨A, rest.drop (m * k), rfl, hA, by rw [AH.put_get, if_pos rfl], by rw [List.length_append, hl, hm, Nat.add_mul], by rw [List.length_drop, hr, ← Nat.sub_mul]; congr 1; omega, hle⟩, (Stp.refl hk).put hA _ (.inr (Blk.slice.2 rfl)), rfl, fun B hB => Blk.slice.2 (Blk.slice.1 hB)⟩
    simp only [apP, hs, hc, cond_true, app1, hg, app2, hroom, b1, hz, hset, appIn, putA_ok, fN_eq]
theorem Part.stp {k e : Nat} {S : Nat → Prop} {H H' : AH} {v : AV} {n tot : Nat} {l : List AV} (h : Part k e H v n l tot) (s : Stp S H H') (hS : ∀ A, Blk v A → ¬ S A) : Part k e H' v n l tot := by
  rcases h with h | ⟨A, rest, rfl, hA, hg, hr⟩
  · exact .inl h
  · exact .inr ⟨A, rest, rfl, Nat.lt_of_lt_of_le hA s.next, by rw [s.keep A hA (hS A (Blk.slice.2 rfl))]; exact hg, hr⟩
theorem rep_len (z : AV) : ∀ m : Nat, (rep m [z]).length = m
  | 0 => rfl
  | m + 1 => by simp [rep, rep_len z m]
theorem rep_len3 (a b c : AV) : ∀ m : Nat, (rep m [a, b, c]).length = m * 3
  | 0 => rfl
  | m + 1 => by simp only [rep, List.length_append, rep_len3 a b c m, List.length_cons, List.length_nil]; omega
/-- A row of nothing yet. -/
theorem grow_z {k e bytes m : Nat} {H : AH} {z : List AV} (hk : H.ok) (hpos : 0 < k) (hz : (rep m z).length = m * k) (hm0 : 0 < m) (hm : m ≤ 1000000000) (hb : bytes ≤ 1000) :
    apZ e k bytes z .nilSlice (.int .i64 ((m : Nat) : Int)) H = some (.slice H.next 0 m 1, H.push (.cells (rep m z) e k true)) ∧
    slSl k (.slice H.next 0 m 1) none (some (.int .i64 ((0 : Nat) : Int))) none (H.push (.cells (rep m z) e k true)) = some (.slice H.next 0 0 1) ∧
    Part k e (H.push (.cells (rep m z) e k true)) (.slice H.next 0 0 1) 0 [] m := by
  have b1 : Nat.ble (m * bytes) 281474976710656 = true := by
    rw [Nat.ble_eq]; exact Nat.le_trans (Nat.mul_le_mul hm hb) (by decide)
  have b2 : Nat.blt m 4611686018427387904 = true := by rw [Nat.blt_eq]; omega
  have b3 : Nat.beq m 0 = false := by rw [Bool.eq_false_iff]; intro h; have := Nat.eq_of_beq_eq_true h; omega
  have hroom : roomOf (rep m z) true k 0 1 k = m := by
    simp only [roomOf, show ((1 % 2).beq 0) = false from rfl, cond_false, Nat.beq_refl, show Nat.beq 0 (1 / 2 * k) = true from by simp, Bool.and_self, cond_true, lenL_zero, hz, Nat.sub_zero]
    exact Nat.mul_div_cancel _ hpos
  have hb' : Nat.blt 0 k = true := by rw [Nat.blt_eq]; exact hpos
  refine ⟨?_, ?_, .inr ⟨H.next, rep m z, rfl, Nat.lt_succ_self _, AH.push_get_eq _ _, by simp, by simpa using hz, by omega⟩⟩
  · show apZ e k bytes z .nilSlice (.int .i64 (Int.ofNat m)) H = _
    simp only [apZ, b1, b2, Bool.and_self, cond_true, app1, show m.beq 0 = false from b3, cond_false, appGrow, roomy_ok hm hb, agrow, List.nil_append, newA_ok hk, fN_eq]
  · have n0 := natOf_int .i64 (z := ((0 : Nat) : Int)) (by omega)
    simp only [slSl, natOpt, n0, AH.push_get_eq, hb', cond_true]
    simp [acut, hroom, fN_eq, show Nat.ble 0 m = true from by rw [Nat.ble_eq]; omega, show Nat.ble 0 0 = true from rfl, show Nat.beq 1 0 = false from rfl]
end Go.Eng
namespace Go.Eng.Sh
open Go.Nd (Ptr sumL cutOk cutA cutB)
theorem growS_ok (D : Dyn) (n m : Nat) (hm : m ≤ 1000000000) {H : AH} (hk : H.ok) :
    ∃ v H', f56 D n [.nilSlice, .int .i64 (m : Nat)] H = some (v, H') ∧ Prs H H' ∧ Part 1 9 H' v 0 [] m ∧ ∀ B, Blk v B → H.next ≤ B := by
  have hcap : acap X 25 .nilSlice = some (.int .i64 ((0 : Nat) : Int)) := rfl
  have hln : lnSl .nilSlice = some (.int .i64 ((0 : Nat) : Int)) := rfl
  have hs : slSl 1 .nilSlice none (some (.int .i64 ((0 : Nat) : Int))) none H = some .nilSlice := rfl
  have h0 : ¬ ((m : Nat) : Int) < ((0 : Nat) : Int) := by omega
  by_cases hp : m = 0
  · subst hp
    refine ⟨.nilSlice, H, ?_, Stp.refl hk, .inl ⟨rfl, rfl, rfl, rfl⟩, fun B hB => (Blk.nil.1 hB).elim⟩
    simp (disch := omega) only [f56, f56j1, f56j0, ev, lg, wnt_undef, if_true, if_false, decide_true, decide_false, Bool.not_true, Bool.not_false, Bool.false_eq_true, Bool.true_eq_false, Bool.and_true, Bool.true_and, Bool.and_false, Bool.false_and, Bool.or_true, Bool.true_or, Bool.or_false, Bool.false_or, h0, hcap, hln, Int.sub_zero, Int.lt_irrefl, Int.sub_self]
  · obtain ⟨e1, e2, p⟩ := grow_z (k := 1) (e := 9) (bytes := 16) (m := m) (z := [.str 0 0]) hk (by decide) (by rw [rep_len]; omega) (by omega) hm (by decide)
    have hsub : ((m : Nat) : Int) - (((0 : Nat) : Int) - ((0 : Nat) : Int)) = ((m : Nat) : Int) := by omega
    have hpI : ((0 : Nat) : Int) < ((m : Nat) : Int) := by omega
    refine ⟨_, _, ?_, (Stp.refl hk).push _, p, fun B hB => by rw [Blk.slice.1 hB]; exact Nat.le_refl _⟩
    simp (disch := omega) only [f56, f56j1, f56j0, ev, lg, wnt_undef, if_true, if_false, decide_true, decide_false, Bool.not_true, Bool.not_false, Bool.false_eq_true, Bool.true_eq_false, Bool.and_true, Bool.true_and, Bool.and_false, Bool.false_and, Bool.or_true, Bool.true_or, Bool.or_false, Bool.false_or, h0, hcap, hln, hs, hsub, hpI, e1, e2]
theorem growP_ok (D : Dyn) (n m : Nat) (hm : m ≤ 1000000000) {H : AH} (hk : H.ok) :
    ∃ v H', f57 D n [.nilSlice, .int .i64 (m : Nat)] H = some (v, H') ∧ Prs H H' ∧ Part 3 59 H' v 0 [] m ∧ ∀ B, Blk v B → H.next ≤ B := by
  have hcap : acap X 26 .nilSlice = some (.int .i64 ((0 : Nat) : Int)) := rfl
  have hln : lnSl .nilSlice = some (.int .i64 ((0 : Nat) : Int)) := rfl
  have hs : slSl 3 .nilSlice none (some (.int .i64 ((0 : Nat) : Int))) none H = some .nilSlice := rfl
  have h0 : ¬ ((m : Nat) : Int) < ((0 : Nat) : Int) := by omega
  by_cases hp : m = 0
  · subst hp
    refine ⟨.nilSlice, H, ?_, Stp.refl hk, .inl ⟨rfl, rfl, rfl, rfl⟩, fun B hB => (Blk.nil.1 hB).elim⟩
    simp (disch := omega) only [f57, f57j1, f57j0, ev, lg, wnt_undef, if_true, if_false, decide_true, decide_false, Bool.not_true, Bool.not_false, Bool.false_eq_true, Bool.true_eq_false, Bool.and_true, Bool.true_and, Bool.and_false, Bool.false_and, Bool.or_true, Bool.true_or, Bool.or_false, Bool.false_or, h0, hcap, hln, Int.sub_zero, Int.lt_irrefl, Int.sub_self]
  · obtain ⟨e1, e2, p⟩ := grow_z (k := 3) (e := 59) (bytes := 24) (m := m) (z := [.int .i64 (.ofNat 0), .int .i64 (.ofNat 0), .int .u64 (.ofNat 0)]) hk (by decide) (by rw [rep_len3]) (by omega) hm (by decide)
    have hsub : ((m : Nat) : Int) - (((0 : Nat) : Int) - ((0 : Nat) : Int)) = ((m : Nat) : Int) := by omega
    have hpI : ((0 : Nat) : Int) < ((m : Nat) : Int) := by omega
    refine ⟨_, _, ?_, (Stp.refl hk).push _, p, fun B hB => by rw [Blk.slice.1 hB]; exact Nat.le_refl _⟩
    simp only [Int.ofNat_eq_natCast] at e1 e2
    simp (disch := omega) only [f57, f57j1, f57j0, ev, lg, wnt_undef, if_true, if_false, decide_true, decide_false, Bool.not_true, Bool.not_false, Bool.false_eq_true, Bool.true_eq_false, Bool.and_true, Bool.true_and, Bool.and_false, Bool.false_and, Bool.or_true, Bool.true_or, Bool.or_false, Bool.false_or, h0, hcap, hln, hs, hsub, hpI, e1, e2]
end Go.Eng.Sh
end
section
namespace Go.Eng.Sh
open Go.Nd (Ptr sumL cutOk cutA cutB)
theorem catS1 (D : Dyn) (n : Nat) {H : AH} {v : AV} {vs : List AV} {rs : List (Nat × List AV)} (hv : Rw 1 H v vs.length vs) (h : Rws 1 H vs rs) (hb : sumN rs ≤ 1000000000) (hl : vs.length ≤ 1000000000) (n' : Nat) (hn : vs.length < n') :
    loopK n' (f42l1 D n) [v, .int .i64 ((0 : Nat) : Int), v, .int .i64 (vs.length : Nat), .int .i64 ((0 : Nat) : Int)] H = some (.exit 0 [v, .int .i64 (sumN rs : Nat)], H) := by
  have hlen := h.len
  refine loop_for (fun i => [v, .int .i64 (sumN (rs.take i) : Nat), v, .int .i64 (vs.length : Nat), .int .i64 (i : Nat)]) vs.length ?_ ?_ n' hn
  · intro i hi
    obtain ⟨p, x, p1, p2, p3⟩ := hv.ld1 hi
    obtain ⟨r, r1, r2, r3⟩ := h.at p3
    have hiI : ((i : Nat) : Int) < ((vs.length : Nat) : Int) := by omega
    have hs := sumN_take r1
    have hs2 := sumN_le rs i
    have hs3 := sumN_le rs (i + 1)
    have hneg : ¬ ((sumN (rs.take i) : Nat) : Int) + ((r.1 : Nat) : Int) < ((0 : Nat) : Int) := by omega
    have hc : ((sumN (rs.take (i + 1)) : Nat) : Int) = ((sumN (rs.take i) : Nat) : Int) + ((r.1 : Nat) : Int) := by omega
    rw [hc]
    simp (disch := omega) only [f42l1, f42j0, ev, lg, wnt_undef, if_true, if_false, decide_true, decide_false, Bool.not_true, Bool.not_false, Bool.false_eq_true, Bool.true_eq_false, Bool.and_true, Bool.true_and, Bool.and_false, Bool.false_and, Bool.or_true, Bool.true_or, Bool.or_false, Bool.false_or, hiI, p1, p2, r2.lnSl, hneg, Int.natCast_add]
  · intro m
    refine loop_exit ?_
    have : rs.take vs.length = rs := by rw [hlen]; exact List.take_length
    simp only [f42l1, ev, lg, wnt_undef, if_true, if_false, decide_true, decide_false, Bool.not_true, Bool.not_false, Bool.false_eq_true, Bool.true_eq_false, Bool.and_true, Bool.true_and, Bool.and_false, Bool.false_and, Bool.or_true, Bool.true_or, Bool.or_false, Bool.false_or, Int.lt_irrefl, this]
theorem catS2 (D : Dyn) (n : Nat) {H : AH} (hk : H.ok) {v : AV} {vs : List AV} {rs : List (Nat × List AV)} (hv : Rw 1 H v vs.length vs) (h : Rws 1 H vs rs) (hl : vs.length ≤ 1000000000)
    {w : AV} (hw : Part 1 9 H w 0 [] (sumN rs)) (hd1 : ∀ B, Blk w B → ¬ Blk v B) (hd2 : ∀ B, Blk w B → ∀ x ∈ vs, ¬ Blk x B) (n' : Nat) (hn : vs.length < n') :
    ∃ w' H', loopK n' (f42l2 D n) [w, v, .int .i64 (vs.length : Nat), .int .i64 ((0 : Nat) : Int)] H = some (.exit 2 [w'], H') ∧ Stp (Blk w) H H' ∧ Part 1 9 H' w' (sumN rs) (catN rs) (sumN rs) ∧ ∀ B, Blk w' B → Blk w B := by
  have hlen := h.len
  obtain ⟨m, us, H', k1, w', rfl, k3, k4, k5⟩ := loop_inv (b := f42l2 D n) vs.length (fun i us H' => ∃ w', us = [w', v, .int .i64 (vs.length : Nat), .int .i64 (i : Nat)] ∧ Stp (Blk w) H H' ∧ Part 1 9 H' w' (sumN (rs.take i)) (catN (rs.take i)) (sumN rs) ∧ ∀ B, Blk w' B → Blk w B) (fun i us H1 hi ⟨w1, hus, hs, hp, hB⟩ => by
    subst hus
    obtain ⟨p, x, p1, p2, p3⟩ := (hv.stp hs (fun A hA hh => hd1 A hh hA)).ld1 hi
    obtain ⟨r, r1, r2, r3⟩ := h.at p3
    have hx : x ∈ vs := List.mem_of_getElem? p3
    have r2' := r2.stp hs (fun A hA hh => hd2 A hh x hx hA)
    have hiI : ((i : Nat) : Int) < ((vs.length : Nat) : Int) := by omega
    have hs3 := sumN_le rs (i + 1)
    have hst := sumN_take r1
    obtain ⟨w2, H2, e2, q2, s2, n2, b2⟩ := hp.app (bytes := 16) hs.ok (by decide) r2'.srcOf r2.1 r3 (by omega)
    rw [← hst, ← catN_take r1] at q2
    refine ⟨_, H2, ?_, w2, rfl, hs.trans (s2.mono fun A _ hA => hB A hA), q2, fun B hb => hB B (b2 B hb)⟩
    simp (disch := omega) only [f42l2, ev, lg, wnt_undef, if_true, if_false, decide_true, decide_false, Bool.not_true, Bool.not_false, Bool.false_eq_true, Bool.true_eq_false, Bool.and_true, Bool.true_and, Bool.and_false, Bool.false_and, Bool.or_true, Bool.true_or, Bool.or_false, Bool.false_or, hiI, p1, p2, e2, Int.natCast_add]) n' _ H ⟨w, rfl, Stp.refl hk, hw, fun _ x => x⟩ hn
  rw [hlen, List.take_length] at k4
  exact ⟨w', H', k1.trans (loop_exit (by simp only [f42l2, ev, lg, wnt_undef, if_true, if_false, decide_true, decide_false, Bool.not_true, Bool.not_false, Bool.false_eq_true, Bool.true_eq_false, Bool.and_true, Bool.true_and, Bool.and_false, Bool.false_and, Bool.or_true, Bool.true_or, Bool.or_false, Bool.false_or, Int.lt_irrefl])), k3, k4, k5⟩
theorem catS_ok (D : Dyn) (n : Nat) {H : AH} (hk : H.ok) {v : AV} {vs : List AV} {rs : List (Nat × List AV)} (hv : Rw 1 H v vs.length vs) (h : Rws 1 H vs rs) (hb : sumN rs ≤ 1000000000) (hl : vs.length ≤ 1000000000) (hn : vs.length < n)
    (hv0 : ∀ B, Blk v B → B < H.next) (hx0 : ∀ x ∈ vs, ∀ B, Blk x B → B < H.next) :
    ∃ w H', f42 D n [v] H = some (w, H') ∧ Prs H H' ∧ Own 1 9 H' w (sumN rs) (catN rs) ∧ ∀ B, Blk w B → H.next ≤ B := by
  obtain ⟨w1, H1, e1, p1, q1, f1⟩ := growS_ok D n (sumN rs) hb hk
  obtain ⟨w2, H2, e2, s2, q2, f2⟩ := catS2 D n p1.ok (hv.prs p1) (h.prs p1) hl q1 (fun B hB hh => by have := f1 B hB; have := hv0 B hh; omega) (fun B hB x hx hh => by have := f1 B hB; have := hx0 x hx B hh; omega) n hn
  have l1 := catS1 D n hv h hb hl n hn
  refine ⟨w2, H2, ?_, p1.fresh s2 f1, q2.own, fun B hB => f1 B (f2 B hB)⟩
  simp only [f42, ev, lg, wnt_undef, if_true, if_false, decide_true, decide_false, Bool.not_true, Bool.not_false, Bool.false_eq_true, Bool.true_eq_false, Bool.and_true, Bool.true_and, Bool.and_false, Bool.false_and, Bool.or_true, Bool.true_or, Bool.or_false, Bool.false_or, hv.lnSl, l1, f42b4, e1, e2, f42b3]
end Go.Eng.Sh
end
section
namespace Go.Eng.Sh
open Go.Nd (Ptr sumL cutOk cutA cutB)
theorem catP1 (D : Dyn) (n : Nat) {H : AH} {v : AV} {vs : List AV} {rs : List (Nat × List AV)} (hv : Rw 1 H v vs.length vs) (h : Rws 3 H vs rs) (hb : sumN rs ≤ 1000000000) (hl : vs.length ≤ 1000000000) (n' : Nat) (hn : vs.length < n') :
    loopK n' (f43l1 D n) [v, .int .i64 ((0 : Nat) : Int), v, .int .i64 (vs.length : Nat), .int .i64 ((0 : Nat) : Int)] H = some (.exit 0 [v, .int .i64 (sumN rs : Nat)], H) := by
  have hlen := h.len
  refine loop_for (fun i => [v, .int .i64 (sumN (rs.take i) : Nat), v, .int .i64 (vs.length : Nat), .int .i64 (i : Nat)]) vs.length ?_ ?_ n' hn
  · intro i hi
    obtain ⟨p, x, p1, p2, p3⟩ := hv.ld1 hi
    obtain ⟨r, r1, r2, r3⟩ := h.at p3
    have hiI : ((i : Nat) : Int) < ((vs.length : Nat) : Int) := by omega
    have hs := sumN_take r1
    have hs2 := sumN_le rs i
    have hs3 := sumN_le rs (i + 1)
    have hneg : ¬ ((sumN (rs.take i) : Nat) : Int) + ((r.1 : Nat) : Int) < ((0 : Nat) : Int) := by omega
    have hc : ((sumN (rs.take (i + 1)) : Nat) : Int) = ((sumN (rs.take i) : Nat) : Int) + ((r.1 : Nat) : Int) := by omega
    rw [hc]
    simp (disch := omega) only [f43l1, f43j0, ev, lg, wnt_undef, if_true, if_false, decide_true, decide_false, Bool.not_true, Bool.not_false, Bool.false_eq_true, Bool.true_eq_false, Bool.and_true, Bool.true_and, Bool.and_false, Bool.false_and, Bool.or_true, Bool.true_or, Bool.or_false, Bool.false_or, hiI, p1, p2, r2.lnSl, hneg, Int.natCast_add]
  · intro m
    refine loop_exit ?_
    have : rs.take vs.length = rs := by rw [hlen]; exact List.take_length
    simp only [f43l1, ev, lg, wnt_undef, if_true, if_false, decide_true, decide_false, Bool.not_true, Bool.not_false, Bool.false_eq_true, Bool.true_eq_false, Bool.and_true, Bool.true_and, Bool.and_false, Bool.false_and, Bool.or_true, Bool.true_or, Bool.or_false, Bool.false_or, Int.lt_irrefl, this]
theorem catP2 (D : Dyn) (n : Nat) {H : AH} (hk : H.ok) {v : AV} {vs : List AV} {rs : List (Nat × List AV)} (hv : Rw 1 H v vs.length vs) (h : Rws 3 H vs rs) (hl : vs.length ≤ 1000000000)
    {w : AV} (hw : Part 3 59 H w 0 [] (sumN rs)) (hd1 : ∀ B, Blk w B → ¬ Blk v B) (hd2 : ∀ B, Blk w B → ∀ x ∈ vs, ¬ Blk x B) (n' : Nat) (hn : vs.length < n') :
    ∃ w' H', loopK n' (f43l2 D n) [w, v, .int .i64 (vs.length : Nat), .int .i64 ((0 : Nat) : Int)] H = some (.exit 2 [w'], H') ∧ Stp (Blk w) H H' ∧ Part 3 59 H' w' (sumN rs) (catN rs) (sumN rs) ∧ ∀ B, Blk w' B → Blk w B := by
  have hlen := h.len
  obtain ⟨m, us, H', k1, w', rfl, k3, k4, k5⟩ := loop_inv (b := f43l2 D n) vs.length (fun i us H' => ∃ w', us = [w', v, .int .i64 (vs.length : Nat), .int .i64 (i : Nat)] ∧ Stp (Blk w) H H' ∧ Part 3 59 H' w' (sumN (rs.take i)) (catN (rs.take i)) (sumN rs) ∧ ∀ B, Blk w' B → Blk w B) (fun i us H1 hi ⟨w1, hus, hs, hp, hB⟩ => by
    subst hus
    obtain ⟨p, x, p1, p2, p3⟩ := (hv.stp hs (fun A hA hh => hd1 A hh hA)).ld1 hi
    obtain ⟨r, r1, r2, r3⟩ := h.at p3
    have hx : x ∈ vs := List.mem_of_getElem? p3
    have r2' := r2.stp hs (fun A hA hh => hd2 A hh x hx hA)
    have hiI : ((i : Nat) : Int) < ((vs.length : Nat) : Int) := by omega
    have hs3 := sumN_le rs (i + 1)
    have hst := sumN_take r1
    obtain ⟨w2, H2, e2, q2, s2, n2, b2⟩ := hp.app (bytes := 24) hs.ok (by decide) r2'.srcOf r2.1 r3 (by omega)
    rw [← hst, ← catN_take r1] at q2
    refine ⟨_, H2, ?_, w2, rfl, hs.trans (s2.mono fun A _ hA => hB A hA), q2, fun B hb => hB B (b2 B hb)⟩
    simp (disch := omega) only [f43l2, ev, lg, wnt_undef, if_true, if_false, decide_true, decide_false, Bool.not_true, Bool.not_false, Bool.false_eq_true, Bool.true_eq_false, Bool.and_true, Bool.true_and, Bool.and_false, Bool.false_and, Bool.or_true, Bool.true_or, Bool.or_false, Bool.false_or, hiI, p1, p2, e2, Int.natCast_add]) n' _ H ⟨w, rfl, Stp.refl hk, hw, fun _ x => x⟩ hn
  rw [hlen, List.take_length] at k4
  exact ⟨w', H', k1.trans (loop_exit (by simp only [f43l2, ev, lg, wnt_undef, if_true, if_false, decide_true, decide_false, Bool.not_true, Bool.not_false, Bool.false_eq_true, Bool.true_eq_false, Bool.and_true, Bool.true_and, Bool.and_false, Bool.false_and, Bool.or_true, Bool.true_or, Bool.or_false, Bool.false_or, Int.lt_irrefl])), k3, k4, k5⟩
theorem catP_ok (D : Dyn) (n : Nat) {H : AH} (hk : H.ok) {v : AV} {vs : List AV} {rs : List (Nat × List AV)} (hv : Rw 1 H v vs.length vs) (h : Rws 3 H vs rs) (hb : sumN rs ≤ 1000000000) (hl : vs.length ≤ 1000000000) (hn : vs.length < n)
    (hv0 : ∀ B, Blk v B → B < H.next) (hx0 : ∀ x ∈ vs, ∀ B, Blk x B → B < H.next) :
    ∃ w H', f43 D n [v] H = some (w, H') ∧ Prs H H' ∧ Own 3 59 H' w (sumN rs) (catN rs) ∧ ∀ B, Blk w B → H.next ≤ B := by
  obtain ⟨w1, H1, e1, p1, q1, f1⟩ := growP_ok D n (sumN rs) hb hk
  obtain ⟨w2, H2, e2, s2, q2, f2⟩ := catP2 D n p1.ok (hv.prs p1) (h.prs p1) hl q1 (fun B hB hh => by have := f1 B hB; have := hv0 B hh; omega) (fun B hB x hx hh => by have := f1 B hB; have := hx0 x hx B hh; omega) n hn
  have l1 := catP1 D n hv h hb hl n hn
  refine ⟨w2, H2, ?_, p1.fresh s2 f1, q2.own, fun B hB => f1 B (f2 B hB)⟩
  simp only [f43, ev, lg, wnt_undef, if_true, if_false, decide_true, decide_false, Bool.not_true, Bool.not_false, Bool.false_eq_true, Bool.true_eq_false, Bool.and_true, Bool.true_and, Bool.and_false, Bool.false_and, Bool.or_true, Bool.true_or, Bool.or_false, Bool.false_or, hv.lnSl, l1, f43b4, e1, e2, f43b3]
end Go.Eng.Sh
end
section
namespace Go.Eng
theorem bA_c (o : AObj) (mk : Nat → AV) (H : AH) (K : AV → AH → Rs) (h : H.ok) : bA (some (o, mk)) H K = K (mk H.next) (H.push o) := bA_ok h o mk K
/-- Blocks laid, read, written over while they are fresh. -/
theorem hp : (∀ (o : AObj) (mk : Nat → AV) (H : AH) (K : AV → AH → Rs), H.ok → bA (some (o, mk)) H K = K (mk H.next) (H.push o)) ∧
    (∀ (H : AH) (A o : Nat) (x : AObj), A < H.next → ld1 (.ptr A o) (H.push x) = ld1 (.ptr A o) H) ∧
    (∀ (H : AH) (A o n : Nat) (x : AObj), A < H.next → ldN n (.ptr A o) (H.push x) = ldN n (.ptr A o) H) ∧
    (∀ (l : List AV) (o n : Nat) (a : AV) , o = 0 → n = l.length → (subN l o n).map AV.agg = some (.agg l)) ∧
    (∀ (a b c d : AV), subN [a, b, c, d] 0 4 = some [a, b, c, d]) ∧
    (∀ (l : List AV), (some l).map AV.agg = some (.agg l)) ∧
    (∀ (vs : List AV) (i : Nat), pExtract (.tuple vs) i = vs[i]?) :=
  ⟨fun o mk H K h => bA_ok h o mk K, fun H A o x h => ld1_old o x h, fun H A o n x h => ldN_old o n x h, fun l o n _ h1 h2 => by subst h1; subst h2; rw [subN_some _ _ _ (.inr (by omega)), List.drop_zero, List.take_length]; rfl, fun _ _ _ _ => rfl, fun _ => rfl, fun vs i => by simp only [pExtract, nth_eq]⟩
end Go.Eng
end
section
namespace Go.Nd
/-- May a text stand between two nodes? -/
def partedN (lt : Str → Str → Bool) (a : Node) (sep : Str) (b : Node) : Bool :=
  mayK sep && (a.leaf == b.leaf) && (decide (a.keys.length = 0) || lt (a.keys.getD (a.keys.length - 1) []) sep) && (decide (b.keys.length = 0) || lt sep (b.keys.getD 0 []) || (a.leaf && decide (sep = b.keys.getD 0 [])))
end Go.Nd
namespace Go.Eng.Sh
open Go.Nd (Ptr sumL cutOk cutA cutB partedN)
theorem parted_ok (D : Dyn) (n : Nat) {H : AH} (hk : H.ok) {v w : AV} {a b : Nd.Node} {sep : Str} (h : NodeV H v a) (h' : NodeV H w b) (hs : small a) (hs' : small b) :
    ∃ H', f41 D n [v, S sep, w] H = some (.bool (partedN ltS a sep b), H') ∧ Prs H H' := by
  obtain ⟨ks, vs, ps, rfl, h1, h2, h3⟩ := h
  obtain ⟨ks', vs', ps', rfl, k1, k2, k3⟩ := h'
  have hkl := Nd.sumL_ge a.keys
  have hkl' := Nd.sumL_ge b.keys
  obtain ⟨s1, s2, s3⟩ := hs
  obtain ⟨s1', s2', s3'⟩ := hs'
  have P : Prs H ((H.push (.cells [.bool a.leaf, ks, vs, ps] 34 1 false)).push (.cells [.bool b.leaf, ks', vs', ps'] 34 1 false)) := ((Stp.refl hk).push _).push _
  have l1 := h1.lnSl
  have l2 := k1.lnSl
  have q1 := h1.prs P
  have q2 := k1.prs P
  generalize hH2 : (H.push (.cells [.bool a.leaf, ks, vs, ps] 34 1 false)).push (.cells [.bool b.leaf, ks', vs', ps'] 34 1 false) = H2 at P q1 q2
  have r1 : ∀ o, ld1 (.ptr H.next o) H2 = [.bool a.leaf, ks, vs, ps][o]? := fun o => by rw [← hH2, ld1_old _ _ (by rw [AH.push_next]; omega), ld1_push]
  have r2 : ∀ o, ld1 (.ptr (H.push (.cells [.bool a.leaf, ks, vs, ps] 34 1 false)).next o) H2 = [.bool b.leaf, ks', vs', ps'][o]? := fun o => by rw [← hH2, ld1_push]
  refine ⟨H2, ?_, P⟩
  have hne : ∀ x y : Bool, (!(x == y)) = false → x = y := fun x y => by cases x <;> cases y <;> simp
  cases hm : Nd.mayK sep with
  | false => simp (disch := first | assumption | omega | (simp only [AH.push_next, AH.put_next]; omega) | (repeat (first | assumption | apply AH.ok.push))) only [f41, ev, lg, wnt_undef, if_true, if_false, decide_true, decide_false, Bool.not_true, Bool.not_false, Bool.false_eq_true, Bool.true_eq_false, Bool.and_true, Bool.true_and, Bool.and_false, Bool.false_and, Bool.or_true, Bool.true_or, Bool.or_false, Bool.false_or, hp, hH2, mayKey_ok, hm, partedN]
  | true =>
    cases hl : (a.leaf == b.leaf) with
    | false => simp (disch := first | assumption | omega | (simp only [AH.push_next, AH.put_next]; omega) | (repeat (first | assumption | apply AH.ok.push))) only [f41, ev, lg, wnt_undef, if_true, if_false, decide_true, decide_false, Bool.not_true, Bool.not_false, Bool.false_eq_true, Bool.true_eq_false, Bool.and_true, Bool.true_and, Bool.and_false, Bool.false_and, Bool.or_true, Bool.true_or, Bool.or_false, Bool.false_or, hp, hH2, mayKey_ok, hm, partedN, r1, r2, hl]
    | true =>
      have e : b.leaf = a.leaf := by revert hl; cases a.leaf <;> cases b.leaf <;> simp
      rw [e] at r2 hH2
      simp only [partedN, hm, hl, Bool.true_and]
      rw [e]
      clear hl e hne
      generalize a.leaf = la at *
      have hll : (la == la) = true := by simp
      -- the second part
      have tail :
          (∃ q0, b.keys.length ≠ 0 → (∀ κ (z : Int), z = ((0 : Nat) : Int) → ixSl 1 ks' (.int κ z) = some q0) ∧ Eng.ld1 q0 H2 = some (S (b.keys.getD 0 []))) := by
        by_cases h0 : b.keys.length = 0
        · exact ⟨.nilPtr, fun h => absurd h0 h⟩
        · obtain ⟨q, i1, i2⟩ := q2.at (i := 0) (by omega)
          refine ⟨q, fun _ => ⟨i1, ?_⟩⟩
          rw [getD_lt (by omega)]; exact i2
      obtain ⟨q0, hq0⟩ := tail
      by_cases ha : a.keys.length = 0
      · have ga : ¬ ((0 : Nat) : Int) < ((a.keys.length : Nat) : Int) := by omega
        simp only [ha, decide_true, Bool.true_or, Bool.true_and]
        by_cases hb : b.keys.length = 0
        · have gb : ((b.keys.length : Nat) : Int) = ((0 : Nat) : Int) := by omega
          simp only [hb, decide_true, Bool.true_or]
          simp (disch := first | assumption | omega | (simp only [AH.push_next, AH.put_next]; omega) | (repeat (first | assumption | apply AH.ok.push))) only [f41, ev, lg, wnt_undef, if_true, if_false, decide_true, decide_false, Bool.not_true, Bool.not_false, Bool.false_eq_true, Bool.true_eq_false, Bool.and_true, Bool.true_and, Bool.and_false, Bool.false_and, Bool.or_true, Bool.true_or, Bool.or_false, Bool.false_or, hp, hH2, mayKey_ok, hm, r1, r2, hll, l1, l2, ga, gb]
        · have gb : ¬ ((b.keys.length : Nat) : Int) = ((0 : Nat) : Int) := by omega
          obtain ⟨i1, i2⟩ := hq0 hb
          simp only [hb, decide_false, Bool.false_or]
          cases h1' : ltS sep (b.keys.getD 0 []) <;> cases la <;> simp (disch := first | assumption | omega | (simp only [AH.push_next, AH.put_next]; omega) | (repeat (first | assumption | apply AH.ok.push))) only [f41, ev, lg, wnt_undef, if_true, if_false, decide_true, decide_false, Bool.not_true, Bool.not_false, Bool.false_eq_true, Bool.true_eq_false, Bool.and_true, Bool.true_and, Bool.and_false, Bool.false_and, Bool.or_true, Bool.true_or, Bool.or_false, Bool.false_or, hp, hH2, mayKey_ok, hm, r1, r2, hll, l1, l2, ga, gb, i1, i2, h1']
      · have ga : ((0 : Nat) : Int) < ((a.keys.length : Nat) : Int) := by omega
        obtain ⟨q, j1, j2⟩ := q1.at (i := a.keys.length - 1) (by omega)
        rw [← getD_lt (d := [])] at j2
        have hsub : ((a.keys.length : Nat) : Int) - ((1 : Nat) : Int) = ((a.keys.length - 1 : Nat) : Int) := by omega
        simp only [ha, decide_false, Bool.false_or]
        cases h0' : ltS (a.keys.getD (a.keys.length - 1) []) sep with
        | false => simp (disch := first | assumption | omega | (simp only [AH.push_next, AH.put_next]; omega) | (repeat (first | assumption | apply AH.ok.push))) only [f41, ev, lg, wnt_undef, if_true, if_false, decide_true, decide_false, Bool.not_true, Bool.not_false, Bool.false_eq_true, Bool.true_eq_false, Bool.and_true, Bool.true_and, Bool.and_false, Bool.false_and, Bool.or_true, Bool.true_or, Bool.or_false, Bool.false_or, hp, hH2, mayKey_ok, hm, r1, r2, hll, l1, l2, ga, hsub, j1, j2, h0']
        | true =>
          by_cases hb : b.keys.length = 0
          · have gb : ((b.keys.length : Nat) : Int) = ((0 : Nat) : Int) := by omega
            simp only [hb, decide_true, Bool.true_or]
            simp (disch := first | assumption | omega | (simp only [AH.push_next, AH.put_next]; omega) | (repeat (first | assumption | apply AH.ok.push))) only [f41, ev, lg, wnt_undef, if_true, if_false, decide_true, decide_false, Bool.not_true, Bool.not_false, Bool.false_eq_true, Bool.true_eq_false, Bool.and_true, Bool.true_and, Bool.and_false, Bool.false_and, Bool.or_true, Bool.true_or, Bool.or_false, Bool.false_or, hp, hH2, mayKey_ok, hm, r1, r2, hll, l1, l2, ga, gb, hsub, j1, j2, h0']
          · have gb : ¬ ((b.keys.length : Nat) : Int) = ((0 : Nat) : Int) := by omega
            obtain ⟨i1, i2⟩ := hq0 hb
            simp only [hb, decide_false, Bool.false_or]
            cases h1' : ltS sep (b.keys.getD 0 []) <;> cases la <;> simp (disch := first | assumption | omega | (simp only [AH.push_next, AH.put_next]; omega) | (repeat (first | assumption | apply AH.ok.push))) only [f41, ev, lg, wnt_undef, if_true, if_false, decide_true, decide_false, Bool.not_true, Bool.not_false, Bool.false_eq_true, Bool.true_eq_false, Bool.and_true, Bool.true_and, Bool.and_false, Bool.false_and, Bool.or_true, Bool.true_or, Bool.or_false, Bool.false_or, hp, hH2, mayKey_ok, hm, r1, r2, hll, l1, l2, ga, gb, hsub, j1, j2, h0', i1, i2, h1']
end Go.Eng.Sh
end
section
namespace Go.Eng
/-- A block is laid. -/
theorem box {H : AH} (hk : H.ok) (o : AObj) : ∃ H' A, (∀ (mk : Nat → AV) (K : AV → AH → Rs), bA (some (o, mk)) H K = K (mk A) H') ∧ Prs H H' ∧ H'.h.get A = some o ∧ H.next ≤ A ∧ A < H'.next :=
  ⟨H.push o, H.next, fun mk K => bA_ok hk o mk K, (Stp.refl hk).push o, AH.push_get_eq _ _, Nat.le_refl _, by rw [AH.push_next]; omega⟩
theorem row2 {x y : AV} (e : TypeId) (z : AV) (hx : isCell x = true) (hy : isCell y = true) (hz : isCell z = true) : bldL e 1 2 [z] [(0, x), (1, y)] = some (.cells [x, y] e 1 false, fun A => .slice A 0 2 4) := by
  simp only [bldL, fillA, rep, cellsA_cell hx, cellsA_cell hy]; rfl
theorem row3 {x y w : AV} (e : TypeId) (z : AV) (hx : isCell x = true) (hy : isCell y = true) (hw : isCell w = true) : bldL e 1 3 [z] [(0, x), (1, y), (2, w)] = some (.cells [x, y, w] e 1 false, fun A => .slice A 0 3 6) := by
  simp only [bldL, fillA, rep, cellsA_cell hx, cellsA_cell hy, cellsA_cell hw]; rfl
theorem row1 {x : AV} (e : TypeId) (z : AV) (hx : isCell x = true) : bldL e 1 1 [z] [(0, x)] = some (.cells [x] e 1 false, fun A => .slice A 0 1 2) := by
  simp only [bldL, fillA, rep, cellsA_cell hx]; rfl
theorem Rw.lit {H : AH} {A e : Nat} {l : List AV} {cc : Nat} (hk : H.ok) (h : H.h.get A = some (.cells l e 1 false)) : Rw 1 H (.slice A 0 l.length cc) l.length l :=
  ⟨by simp, .inr (.inr ⟨A, 0, cc, l, e, 1, false, rfl, h, hk.lt h, by simp, by simp⟩)⟩
end Go.Eng
namespace Go.Eng.Sh
open Go.Nd (Ptr sumL cutOk cutA cutB partedN joinN)
/-- The node of nothing. -/
def nd0 : Nd.Node := ⟨false, [], [], []⟩
theorem NodeO.zero (H0 H : AH) : NodeO H0 H (.agg [.bool false, .nilSlice, .nilSlice, .nilSlice]) nd0 :=
  ⟨_, _, _, rfl, Own.nil .., Own.nil .., Own.nil .., fun B hB => by rcases hB with h | h | h <;> exact (Blk.nil.1 h).elim, fun B hB => (Blk.nil.1 hB).elim, fun B hB => (Blk.nil.1 hB).elim⟩
def joinOk (a : Nd.Node) (sep : Str) (b : Nd.Node) : Bool := Nd.shaped ltS a && Nd.shaped ltS b && partedN ltS a sep b
theorem conS2 (D : Dyn) (n : Nat) {H : AH} {A cc : Nat} {x y : AV} {l m : List Str} (hk : H.ok) (hg : H.h.get A = some (.cells [x, y] 25 1 false)) (h1 : Strs H x l) (h2 : Strs H y m) (hb : l.length + m.length ≤ 1000000000) (hn : 100 ≤ n) :
    ∃ w H', f42 D n [.slice A 0 2 cc] H = some (w, H') ∧ Prs H H' ∧ Own 1 9 H' w (l ++ m).length ((l ++ m).map S) ∧ ∀ B, Blk w B → H.next ≤ B := by
  obtain ⟨w, H', e, p, o, f⟩ := catS_ok D n hk (v := .slice A 0 2 cc) (vs := [x, y]) (rs := [(l.length, l.map S), (m.length, m.map S)]) (Rw.lit hk hg) ⟨⟨h1, map_cells _⟩, ⟨h2, map_cells _⟩, trivial⟩ (by simpa [sumN] using hb) (by simp) (by simp; omega)
    (fun B hB => by rw [Blk.slice.1 hB]; exact hk.lt hg) (fun z hz B hB => by
      simp only [List.mem_cons, List.not_mem_nil, or_false] at hz
      rcases hz with rfl | rfl
      · exact Rw.blk h1 hB
      · exact Rw.blk h2 hB)
  exact ⟨w, H', e, p, by simpa [sumN, catN] using o, f⟩
theorem conS3 (D : Dyn) (n : Nat) {H : AH} {A cc : Nat} {x y z : AV} {l m k : List Str} (hk : H.ok) (hg : H.h.get A = some (.cells [x, y, z] 25 1 false)) (h1 : Strs H x l) (h2 : Strs H y m) (h3 : Strs H z k) (hb : l.length + m.length + k.length ≤ 1000000000) (hn : 100 ≤ n) :
    ∃ w H', f42 D n [.slice A 0 3 cc] H = some (w, H') ∧ Prs H H' ∧ Own 1 9 H' w (l ++ (m ++ k)).length ((l ++ (m ++ k)).map S) ∧ ∀ B, Blk w B → H.next ≤ B := by
  obtain ⟨w, H', e, p, o, f⟩ := catS_ok D n hk (v := .slice A 0 3 cc) (vs := [x, y, z]) (rs := [(l.length, l.map S), (m.length, m.map S), (k.length, k.map S)]) (Rw.lit hk hg) ⟨⟨h1, map_cells _⟩, ⟨h2, map_cells _⟩, ⟨h3, map_cells _⟩, trivial⟩ (by simp [sumN]; omega) (by simp) (by simp; omega)
    (fun B hB => by rw [Blk.slice.1 hB]; exact hk.lt hg) (fun z hz B hB => by
      simp only [List.mem_cons, List.not_mem_nil, or_false] at hz
      rcases hz with rfl | rfl | rfl
      · exact Rw.blk h1 hB
      · exact Rw.blk h2 hB
      · exact Rw.blk h3 hB)
  exact ⟨w, H', e, p, by simpa [sumN, catN] using o, f⟩
theorem conP2 (D : Dyn) (n : Nat) {H : AH} {A cc : Nat} {x y : AV} {l m : List Ptr} (hk : H.ok) (hg : H.h.get A = some (.cells [x, y] 26 1 false)) (h1 : Ptrs H x l) (h2 : Ptrs H y m) (hb : l.length + m.length ≤ 1000000000) (hn : 100 ≤ n) :
    ∃ w H', f43 D n [.slice A 0 2 cc] H = some (w, H') ∧ Prs H H' ∧ Own 3 59 H' w (l ++ m).length ((l ++ m).flatMap ptrV) ∧ ∀ B, Blk w B → H.next ≤ B := by
  obtain ⟨w, H', e, p, o, f⟩ := catP_ok D n hk (v := .slice A 0 2 cc) (vs := [x, y]) (rs := [(l.length, l.flatMap ptrV), (m.length, m.flatMap ptrV)]) (Rw.lit hk hg) ⟨⟨h1, flat_cells _⟩, ⟨h2, flat_cells _⟩, trivial⟩ (by simpa [sumN] using hb) (by simp) (by simp; omega)
    (fun B hB => by rw [Blk.slice.1 hB]; exact hk.lt hg) (fun z hz B hB => by
      simp only [List.mem_cons, List.not_mem_nil, or_false] at hz
      rcases hz with rfl | rfl
      · exact Rw.blk h1 hB
      · exact Rw.blk h2 hB)
  exact ⟨w, H', e, p, by simpa [sumN, catN] using o, f⟩
theorem bldN0 : bldS [(0, 1), (1, 1), (2, 1), (3, 1)] [.bool false, .nilSlice, .nilSlice, .nilSlice] [] = some (.agg [.bool false, .nilSlice, .nilSlice, .nilSlice]) := rfl
theorem bldN3 {a b : AV} (x : Bool) (ha : isCell a = true) (hb : isCell b = true) : bldS [(0, 1), (1, 1), (2, 1), (3, 1)] [.bool false, .nilSlice, .nilSlice, .nilSlice] [(0, .bool x), (1, a), (2, b)] = some (.agg [.bool x, a, b, .nilSlice]) := by
  simp only [bldS, fillA, nthP, cellsA_cell ha, cellsA_cell hb]; rfl
theorem bldNi {a b : AV} (ha : isCell a = true) (hb : isCell b = true) : bldS [(0, 1), (1, 1), (2, 1), (3, 1)] [.bool false, .nilSlice, .nilSlice, .nilSlice] [(1, a), (3, b)] = some (.agg [.bool false, a, .nilSlice, b]) := by
  simp only [bldS, fillA, nthP, cellsA_cell ha, cellsA_cell hb]; rfl
theorem join_ok (D : Dyn) (n : Nat) (hn : 200000000 ≤ n) {H : AH} (hk : H.ok) {v w : AV} {a b : Nd.Node} {sep : Str} (h : NodeV H v a) (h' : NodeV H w b) (hs : small a) (hs' : small b) :
    ∃ u H', f20 D n [v, S sep, w] H = some (.tuple [u, .int .i64 ((if joinOk a sep b then 0 else 1 : Nat) : Int)], H') ∧ Prs H H' ∧ NodeO H H' u (if joinOk a sep b then joinN a sep b else nd0) := by
  have i0 := h; have i0' := h'
  obtain ⟨ks, vs, ps, rfl, h1, h2, h3⟩ := h
  obtain ⟨la, hla⟩ : ∃ la, la = a.leaf := ⟨_, rfl⟩
  rw [← hla] at i0 ⊢
  obtain ⟨ks', vs', ps', rfl, k1, k2, k3⟩ := h'
  have hkl := Nd.sumL_ge a.keys
  have hkl' := Nd.sumL_ge b.keys
  have hvl := Nd.sumL_ge a.vals
  have hvl' := Nd.sumL_ge b.vals
  have s0 := hs; have s0' := hs'
  obtain ⟨s1, s2, s3⟩ := hs
  obtain ⟨s1', s2', s3'⟩ := hs'
  obtain ⟨H1, A1, b1, p1, g1, m1, n1⟩ := box hk (.cells [.bool la, ks, vs, ps] 34 1 false)
  obtain ⟨H2, A2, b2, p2, g2, m2, n2⟩ := box p1.ok (.cells [.bool b.leaf, ks', vs', ps'] 34 1 false)
  obtain ⟨H3, A3, b3, p3, g3, m3, n3⟩ := box p2.ok (.cells [.bool false, .nilSlice, .nilSlice, .nilSlice] 34 1 false)
  have P3 : Prs H H3 := (p1.trans p2).trans p3
  have g13 := p3.get p2.ok (p2.get p1.ok g1)
  have g23 := p3.get p2.ok g2
  obtain ⟨H4, e4, p4⟩ := shaped_ok D n P3.ok (i0.prs P3) s0 hn
  have P4 := P3.trans p4
  have g14 := p4.get P3.ok g13; have g24 := p4.get P3.ok g23; have g34 := p4.get P3.ok g3
  have fin : ∀ {Hx : AH} {l : List AV}, Prs H Hx → Hx.h.get A3 = some (.cells [.bool false, .nilSlice, .nilSlice, .nilSlice] 34 1 false) → l.length = 4 → allCells l = true → ∃ Hy, stN 4 (.ptr A3 0) (.agg l) Hx = some (undefA, Hy) ∧ Prs H Hy ∧ Stp (fun B => B = A3) Hx Hy ∧ ldN 4 (.ptr A3 0) Hy = some (.agg l) := fun {Hx l} px hg hl hc => by
    obtain ⟨Hy, e, g, s, _⟩ := st_all px.ok hg hl hc
    have e' : stN 4 (.ptr A3 0) (.agg l) Hx = some (undefA, Hy) := e
    exact ⟨Hy, e', px.fresh s (fun B hB => by omega), s, by rw [ldN_get g, subN_some _ _ _ (.inr (by omega)), List.drop_zero, List.take_of_length_le (by omega)]; rfl⟩
  cases c1 : Nd.shaped ltS a with
  | false =>
    obtain ⟨Hy, ey, py, _, ly⟩ := fin (l := [.bool false, .nilSlice, .nilSlice, .nilSlice]) P4 g34 rfl rfl
    refine ⟨.agg [.bool false, .nilSlice, .nilSlice, .nilSlice], Hy, ?_, py, ?_⟩
    rotate_left
    · simp only [joinOk, c1, Bool.false_and, Bool.false_eq_true, if_false]; exact NodeO.zero _ _
    · simp only [joinOk, c1, Bool.false_and, Bool.false_eq_true, if_false]
      simp (disch := omega) only [f20, ev, lg, wnt_undef, if_true, if_false, decide_true, decide_false, Bool.not_true, Bool.not_false, Bool.false_eq_true, Bool.true_eq_false, Bool.and_true, Bool.true_and, Bool.and_false, Bool.false_and, Bool.or_true, Bool.true_or, Bool.or_false, Bool.false_or, b1, b2, b3, ldN_get g13, sub4, Option.map_some, e4, c1, bldN0, ey, ly]
  | true =>
  obtain ⟨H5, e5, p5⟩ := shaped_ok D n P4.ok (i0'.prs P4) s0' hn
  have P5 := P4.trans p5
  have g15 := p5.get P4.ok g14; have g25 := p5.get P4.ok g24; have g35 := p5.get P4.ok g34
  cases c2 : Nd.shaped ltS b with
  | false =>
    obtain ⟨Hy, ey, py, _, ly⟩ := fin (l := [.bool false, .nilSlice, .nilSlice, .nilSlice]) P5 g35 rfl rfl
    refine ⟨.agg [.bool false, .nilSlice, .nilSlice, .nilSlice], Hy, ?_, py, ?_⟩
    rotate_left
    · simp only [joinOk, c2, Bool.false_and, Bool.and_false, Bool.false_eq_true, if_false]; exact NodeO.zero _ _
    · simp only [joinOk, c2, Bool.false_and, Bool.and_false, Bool.false_eq_true, if_false]
      simp (disch := omega) only [f20, ev, lg, wnt_undef, if_true, if_false, decide_true, decide_false, Bool.not_true, Bool.not_false, Bool.false_eq_true, Bool.true_eq_false, Bool.and_true, Bool.true_and, Bool.and_false, Bool.false_and, Bool.or_true, Bool.true_or, Bool.or_false, Bool.false_or, b1, b2, b3, ldN_get g13, ldN_get g24, sub4, Option.map_some, e4, e5, c1, c2, bldN0, ey, ly]
  | true =>
  obtain ⟨H6, e6, p6⟩ := parted_ok D n P5.ok (sep := sep) (i0.prs P5) (i0'.prs P5) s0 s0'
  have P6 := P5.trans p6
  have g16 := p6.get P5.ok g15; have g26 := p6.get P5.ok g25; have g36 := p6.get P5.ok g35
  cases c3 : partedN ltS a sep b with
  | false =>
    obtain ⟨Hy, ey, py, _, ly⟩ := fin (l := [.bool false, .nilSlice, .nilSlice, .nilSlice]) P6 g36 rfl rfl
    refine ⟨.agg [.bool false, .nilSlice, .nilSlice, .nilSlice], Hy, ?_, py, ?_⟩
    rotate_left
    · simp only [joinOk, c3, Bool.false_and, Bool.and_false, Bool.false_eq_true, if_false]; exact NodeO.zero _ _
    · simp only [joinOk, c3, Bool.false_and, Bool.and_false, Bool.false_eq_true, if_false]
      simp (disch := omega) only [f20, ev, lg, wnt_undef, if_true, if_false, decide_true, decide_false, Bool.not_true, Bool.not_false, Bool.false_eq_true, Bool.true_eq_false, Bool.and_true, Bool.true_and, Bool.and_false, Bool.false_and, Bool.or_true, Bool.true_or, Bool.or_false, Bool.false_or, b1, b2, b3, ldN_get g13, ldN_get g24, ldN_get g15, ldN_get g25, sub4, Option.map_some, e4, e5, e6, c1, c2, c3, bldN0, ey, ly]
  | true =>
  have hj : joinOk a sep b = true := by simp only [joinOk, c1, c2, c3, Bool.and_self]
  simp only [hj, if_true]
  cases la with
  | true =>
    obtain ⟨H7, A7, b7, p7, g7, m7, n7⟩ := box P6.ok (.cells [ks, ks'] 25 1 false)
    have P7 := P6.trans p7
    obtain ⟨H8, A8, b8, p8, g8, m8, n8⟩ := box P7.ok (.cells [vs, vs'] 25 1 false)
    have P8 := P7.trans p8
    obtain ⟨w9, H9, e9, p9, o9, f9⟩ := conS2 D n (cc := 4) P8.ok (p8.get P7.ok g7) (h1.prs P8) (k1.prs P8) (by omega) (by omega)
    have P9 := P8.trans p9
    obtain ⟨w10, H10, e10, p10, o10, f10⟩ := conS2 D n (cc := 4) P9.ok (p9.get P8.ok g8) (h2.prs P9) (k2.prs P9) (by omega) (by omega)
    have P10 := P9.trans p10
    have up {Hx : AH} {o : AObj} {A : Nat} (g : H6.h.get A = some o) (p : Prs H6 Hx) := p.get P6.ok g
    have p69 : Prs H6 H9 := (p7.trans p8).trans p9
    obtain ⟨Hy, ey, py, sy, ly⟩ := fin (l := [.bool true, w9, w10, .nilSlice]) P10 (up g36 (p69.trans p10)) rfl (by simp only [allCells, o9.row.isCell, o10.row.isCell]; rfl)
    have n3' : A3 < H8.next := by have := p4.next; have := p5.next; have := p6.next; have := p7.next; have := p8.next; omega
    have n9 := p9.next
    refine ⟨.agg [.bool true, w9, w10, .nilSlice], Hy, ?_, py, ?_⟩
    rotate_left
    · have : joinN a sep b = ⟨true, a.keys ++ b.keys, a.vals ++ b.vals, []⟩ := by simp only [joinN, ← hla, if_true]
      rw [this]
      refine ⟨w9, w10, .nilSlice, rfl, (o9.mono p10 (fun _ _ x => x)).mono sy (fun B hB e => by have := f9 B hB; omega), o10.mono sy (fun B hB e => by have := f10 B hB; omega), Own.nil .., fun B hB => ?_, fun B hB => ⟨fun h => ?_, fun h => (Blk.nil.1 h).elim⟩, fun B hB h => (Blk.nil.1 h).elim⟩
      · have := P8.next
        rcases hB with h | h | h
        · have := f9 B h; omega
        · have := f10 B h; omega
        · exact (Blk.nil.1 h).elim
      · have := f10 B h; have := Rw.blk o9.row hB; omega
    · simp (disch := omega) only [f20, ev, lg, wnt_undef, if_true, if_false, decide_true, decide_false, Bool.not_true, Bool.not_false, Bool.false_eq_true, Bool.true_eq_false, Bool.and_true, Bool.true_and, Bool.and_false, Bool.false_and, Bool.or_true, Bool.true_or, Bool.or_false, Bool.false_or, b1, b2, b3, ldN_get g13, ldN_get g24, ldN_get g15, ldN_get g25, sub4, Option.map_some, e4, e5, e6, c1, c2, c3, ld1_get g16, ld1_get g26, ld1_get (up g16 p7), ld1_get (up g26 p7), row2 25 .nilSlice h1.isCell k1.isCell rfl, row2 25 .nilSlice h2.isCell k2.isCell rfl, b7, b8, e9,
        chk_ok (ld1_get (up g16 p69) 2) (aveq_row h2), chk_ok (ld1_get (up g26 p69) 2) (aveq_row k2), e10, bldN3 _ o9.row.isCell o10.row.isCell, ey, ly]
  | false =>
    obtain ⟨H7, A7, b7, p7, g7, m7, n7⟩ := box P6.ok (.cells [S sep] 9 1 false)
    have P7 := P6.trans p7
    obtain ⟨H8, A8, b8, p8, g8, m8, n8⟩ := box P7.ok (.cells [ks, .slice A7 0 1 2, ks'] 25 1 false)
    have P8 := P7.trans p8
    obtain ⟨H9, A9, b9, p9, g9, m9, n9⟩ := box P8.ok (.cells [ps, ps'] 26 1 false)
    have P9 := P8.trans p9
    have hsep : Strs H9 (.slice A7 0 1 2) [sep] := Rw.lit (cc := 2) P9.ok (Prs.get (p8.trans p9) P7.ok g7)
    obtain ⟨w10, H10, e10, p10, o10, f10⟩ := conS3 D n (cc := 6) P9.ok (p9.get P8.ok g8) (h1.prs P9) hsep (k1.prs P9) (by simp only [List.length_cons, List.length_nil]; omega) (by omega)
    have P10 := P9.trans p10
    obtain ⟨w11, H11, e11, p11, o11, f11⟩ := conP2 D n (cc := 4) P10.ok (p10.get P9.ok g9) (h3.prs P10) (k3.prs P10) (by omega) (by omega)
    have P11 := P10.trans p11
    have up {Hx : AH} {o : AObj} {A : Nat} (g : H6.h.get A = some o) (p : Prs H6 Hx) := p.get P6.ok g
    have p610 : Prs H6 H10 := ((p7.trans p8).trans p9).trans p10
    obtain ⟨Hy, ey, py, sy, ly⟩ := fin (l := [.bool false, w10, .nilSlice, w11]) P11 (up g36 (p610.trans p11)) rfl (by simp only [allCells, o10.row.isCell, o11.row.isCell]; rfl)
    have n3' : A3 < H9.next := by have := p4.next; have := p5.next; have := p6.next; have := p7.next; have := p8.next; have := p9.next; omega
    have n10 := p10.next
    refine ⟨.agg [.bool false, w10, .nilSlice, w11], Hy, ?_, py, ?_⟩
    rotate_left
    · have : joinN a sep b = ⟨false, a.keys ++ ([sep] ++ b.keys), [], a.kids ++ b.kids⟩ := by simp only [joinN, ← hla, Bool.false_eq_true, if_false]
      rw [this]
      refine ⟨w10, .nilSlice, w11, rfl, (o10.mono p11 (fun _ _ x => x)).mono sy (fun B hB e => by have := f10 B hB; omega), Own.nil .., o11.mono sy (fun B hB e => by have := f11 B hB; omega), fun B hB => ?_, fun B hB => ⟨fun h => (Blk.nil.1 h).elim, fun h => ?_⟩, fun B hB => (Blk.nil.1 hB).elim⟩
      · have := P9.next
        rcases hB with h | h | h
        · have := f10 B h; omega
        · exact (Blk.nil.1 h).elim
        · have := f11 B h; omega
      · have := f11 B h; have := Rw.blk o10.row hB; omega
    · simp (disch := omega) only [f20, ev, lg, wnt_undef, if_true, if_false, decide_true, decide_false, Bool.not_true, Bool.not_false, Bool.false_eq_true, Bool.true_eq_false, Bool.and_true, Bool.true_and, Bool.and_false, Bool.false_and, Bool.or_true, Bool.true_or, Bool.or_false, Bool.false_or, b1, b2, b3, ldN_get g13, ldN_get g24, ldN_get g15, ldN_get g25, sub4, Option.map_some, e4, e5, e6, c1, c2, c3, ld1_get g16, ld1_get g26, ld1_get (up g26 p7), ld1_get (up g16 (p7.trans p8)), ld1_get (up g26 (p7.trans p8)), row1 9 (.str 0 0) (S_cell sep), b7,
        row3 25 .nilSlice h1.isCell (show isCell (.slice A7 0 1 2) = true from rfl) k1.isCell, row2 26 .nilSlice h3.isCell k3.isCell rfl, b8, b9, e10,
        chk_ok (ld1_get (up g16 p610) 3) (aveq_row h3), chk_ok (ld1_get (up g26 p610) 3) (aveq_row k3), e11, bldNi o10.row.isCell o11.row.isCell, ey, ly]
end Go.Eng.Sh
end
section
namespace Go.Nd
theorem cut_parted {lt : Str → Str → Bool} {n : Node} {k : Nat} (h : shaped lt n = true) (hk : cutOk n k) : partedN lt (cutA n k) (n.keys.getD k []) (cutB n k) = true := by
  obtain ⟨b1, b2, b3⟩ := cut_between h hk
  obtain ⟨leaf, keys, vals, kids⟩ := n
  obtain ⟨k1, k2⟩ := hk
  have g : ∀ (l : List Str) i, l.getD i [] = (l[i]?).getD [] := fun l i => by rw [List.getD_eq_getElem?_getD]
  cases leaf with
  | true =>
    simp only [if_true] at k2
    simp only at b1 b2 k2
    have e1 : (keys.take k).getD ((keys.take k).length - 1) [] = keys.getD (k - 1) [] := by
      rw [g, g, List.length_take, Nat.min_eq_left (by omega), List.getElem?_take_of_lt (by omega)]
    have e2 : (keys.drop k).getD 0 [] = keys.getD k [] := by rw [g, g, List.getElem?_drop, Nat.add_zero]
    simp only [partedN, cutA, cutB, if_true, e1, e2, b1, b2, Bool.or_true, Bool.and_true, decide_true, beq_self_eq_true]
  | false =>
    simp only [Bool.false_eq_true, if_false] at k2
    have b3 := b3 rfl
    simp only at b1 b2 b3 k2
    have e1 : (keys.take k).getD ((keys.take k).length - 1) [] = keys.getD (k - 1) [] := by
      rw [g, g, List.length_take, Nat.min_eq_left (by omega), List.getElem?_take_of_lt (by omega)]
    have e2 : (keys.drop (k + 1)).getD 0 [] = keys.getD (k + 1) [] := by rw [g, g, List.getElem?_drop, Nat.add_zero]
    simp only [partedN, cutA, cutB, Bool.false_eq_true, if_false, e1, e2, b1, b2, b3, Bool.or_true, Bool.true_or, Bool.and_true, beq_self_eq_true]
end Go.Nd
namespace Go.Eng.Sh
open Go.Nd (Ptr sumL cutOk cutA cutB)
theorem NodeG.zero (H : AH) : NodeG H (.agg [.bool false, .nilSlice, .nilSlice, .nilSlice]) nd0 :=
  ⟨_, _, _, rfl, .inl (Own.nil ..), .inl (Own.nil ..), .inl (Own.nil ..)⟩
theorem cutNo (D : Dyn) (n : Nat) (hn : 200000000 ≤ n) {H : AH} (hk : H.ok) {v : AV} {nd : Nd.Node} (h : NodeV H v nd) (hs : small nd) (hc : ¬ (Nd.shaped ltS nd = true ∧ cuttable nd)) :
    ∃ H', f19 D n [v] H = some (.tuple [.agg [.bool false, .nilSlice, .nilSlice, .nilSlice], S [], .agg [.bool false, .nilSlice, .nilSlice, .nilSlice], .int .i64 ((1 : Nat) : Int)], H') ∧ Prs H H' := by
  have i0 := h
  obtain ⟨ks, vs, ps, rfl, h1, h2, h3⟩ := h
  obtain ⟨la, hla⟩ : ∃ la, la = nd.leaf := ⟨_, rfl⟩
  rw [← hla] at i0 ⊢
  obtain ⟨H1, H2, H3, H4, A1, A2, A4, b1, b2, b3, e4, i3, i4⟩ := cutHead D n hn hk hla.symm i0 hs
  have o1 := i4.o1; have o2 := i4.o2; have o4 := i4.o4; have l4 := i4.lt
  obtain ⟨H5, e5, i5, s5⟩ := i4.all2 (l' := [.bool false, .nilSlice, .nilSlice, .nilSlice]) rfl rfl
  obtain ⟨H6, e6, i6, s6⟩ := i5.all4 (l' := [.bool false, .nilSlice, .nilSlice, .nilSlice]) rfl rfl
  have e5' : stN 4 (.ptr A2 0) (.agg [.bool false, .nilSlice, .nilSlice, .nilSlice]) H4 = some (undefA, H5) := e5
  have e6' : stN 4 (.ptr A4 0) (.agg [.bool false, .nilSlice, .nilSlice, .nilSlice]) H5 = some (undefA, H6) := e6
  have hln := h1.lnSl
  refine ⟨H6, ?_, i6.prs⟩
  have hS : (AV.str 0 0) = S [] := rfl
  cases c1 : Nd.shaped ltS nd with
  | false =>
    simp (config := { maxSteps := 1000000 }) (disch := omega) only [f19, ev, lg, wnt_undef, if_true, if_false, decide_true, decide_false, Bool.not_true, Bool.not_false, Bool.false_eq_true, Bool.true_eq_false, Bool.and_true, Bool.true_and, Bool.and_false, Bool.false_and, Bool.or_true, Bool.true_or, Bool.or_false, Bool.false_or, b1, b2, b3, ldN_get i3.a1, ldN_get i4.a1, sub4, Option.map_some, e4, c1, bldN0, e5', e6', ldN_get i6.a2, ldN_get i6.a4, hS]
  | true =>
    have hc : ¬ cuttable nd := fun hh => hc ⟨c1, hh⟩
    by_cases t2 : nd.keys.length < 2
    · have t2' : ((nd.keys.length : Nat) : Int) < ((2 : Nat) : Int) := by omega
      simp (config := { maxSteps := 1000000 }) (disch := omega) only [f19, ev, lg, wnt_undef, if_true, if_false, decide_true, decide_false, Bool.not_true, Bool.not_false, Bool.false_eq_true, Bool.true_eq_false, Bool.and_true, Bool.true_and, Bool.and_false, Bool.false_and, Bool.or_true, Bool.true_or, Bool.or_false, Bool.false_or, b1, b2, b3, ldN_get i3.a1, ldN_get i4.a1, sub4, Option.map_some, e4, c1, ld1_get i4.a1, hln, t2', bldN0, e5', e6', ldN_get i6.a2, ldN_get i6.a4, hS]
    · have t2' : ¬ ((nd.keys.length : Nat) : Int) < ((2 : Nat) : Int) := by omega
      have hf : la = false := by
        cases la with
        | false => rfl
        | true => exact absurd ⟨by omega, .inl hla.symm⟩ hc
      have t3 : nd.keys.length < 3 := by
        rcases Nat.lt_or_ge nd.keys.length 3 with h | h
        · exact h
        · exact absurd ⟨by omega, .inr h⟩ hc
      have t3' : ((nd.keys.length : Nat) : Int) < ((3 : Nat) : Int) := by omega
      subst hf
      simp (config := { maxSteps := 1000000 }) (disch := omega) only [f19, ev, lg, wnt_undef, if_true, if_false, decide_true, decide_false, Bool.not_true, Bool.not_false, Bool.false_eq_true, Bool.true_eq_false, Bool.and_true, Bool.true_and, Bool.and_false, Bool.false_and, Bool.or_true, Bool.true_or, Bool.or_false, Bool.false_or, b1, b2, b3, ldN_get i3.a1, ldN_get i4.a1, sub4, Option.map_some, e4, c1, ld1_get i4.a1, hln, t2', t3', bldN0, e5', e6', ldN_get i6.a2, ldN_get i6.a4, hS]
theorem cut_ok (D : Dyn) (n : Nat) (hn : 200000000 ≤ n) {H : AH} (hk : H.ok) {v : AV} {nd : Nd.Node} (h : NodeG H v nd) (hs : small nd) :
    ∃ va sep vb e H', f19 D n [v] H = some (.tuple [va, S sep, vb, .int .i64 ((e : Nat) : Int)], H') ∧ Prs H H' ∧
      ((e = 0 ∧ ∃ k, Nd.shaped ltS nd = true ∧ cutOk nd k ∧ sep = nd.keys.getD k [] ∧ NodeG H' va (cutA nd k) ∧ NodeG H' vb (cutB nd k)) ∨
       (e = 1 ∧ sep = [] ∧ ¬ (Nd.shaped ltS nd = true ∧ cuttable nd) ∧ va = .agg [.bool false, .nilSlice, .nilSlice, .nilSlice] ∧ vb = .agg [.bool false, .nilSlice, .nilSlice, .nilSlice])) := by
  by_cases hc : Nd.shaped ltS nd = true ∧ cuttable nd
  · cases hl : nd.leaf with
    | true =>
      obtain ⟨k, va, vb, H', e, p, ga, gb, ok⟩ := cutLeaf D n hn hk h hs hc.1 hc.2 hl
      exact ⟨va, _, vb, 0, H', e, p, .inl ⟨rfl, k, hc.1, ok, rfl, ga, gb⟩⟩
    | false =>
      obtain ⟨k, va, vb, H', e, p, ga, gb, ok⟩ := cutInner D n hn hk h hs hc.1 hc.2 hl
      exact ⟨va, _, vb, 0, H', e, p, .inl ⟨rfl, k, hc.1, ok, rfl, ga, gb⟩⟩
  · obtain ⟨H', e, p⟩ := cutNo D n hn hk h.node hs hc
    exact ⟨_, [], _, 1, H', e, p, .inr ⟨rfl, rfl, hc, rfl, rfl⟩⟩
end Go.Eng.Sh
end
section
namespace Go.Eng.Sh
open Go.Nd (Ptr sumL cutOk cutA cutB joinN)
theorem NodeG.cells {H : AH} {v : AV} {nd : Nd.Node} (h : NodeG H v nd) : ∃ l, v = .agg l ∧ l.length = 4 ∧ allCells l = true := by
  obtain ⟨ks, vs, ps, rfl, h1, h2, h3⟩ := h
  exact ⟨_, rfl, rfl, allCells4 _ _ _ _ h1.row.isCell h2.row.isCell h3.row.isCell⟩
theorem NodeO.cells {H0 H : AH} {v : AV} {nd : Nd.Node} (h : NodeO H0 H v nd) : ∃ l, v = .agg l ∧ l.length = 4 ∧ allCells l = true := by
  obtain ⟨ks, vs, ps, rfl, h1, h2, h3, _⟩ := h
  exact ⟨_, rfl, rfl, allCells4 _ _ _ _ h1.row.isCell h2.row.isCell h3.row.isCell⟩
theorem cut_small {nd : Nd.Node} (h : small nd) (k : Nat) : small (cutA nd k) ∧ small (cutB nd k) := by
  obtain ⟨leaf, keys, vals, kids⟩ := nd
  obtain ⟨s1, s2, s3⟩ := h
  have t1 := Nd.sumL_take_le keys k; have t2 := Nd.sumL_drop_le keys k; have t3 := Nd.sumL_take_le vals k; have t4 := Nd.sumL_drop_le vals k; have t5 := Nd.sumL_drop_le keys (k + 1)
  have z : sumL [] = 0 := rfl
  simp only at s1 s2 s3
  cases leaf with
  | true => simp only [small, cutA, cutB, if_true, List.length_nil]; omega
  | false => simp only [small, cutA, cutB, Bool.false_eq_true, if_false, List.length_take, List.length_drop]; omega
theorem cut_sums {nd : Nd.Node} (h : ∀ p ∈ nd.kids, Nd.sumOk p) (k : Nat) : (∀ p ∈ (cutA nd k).kids, Nd.sumOk p) ∧ ∀ p ∈ (cutB nd k).kids, Nd.sumOk p := by
  obtain ⟨leaf, keys, vals, kids⟩ := nd
  cases leaf with
  | true => simp [cutA, cutB]
  | false =>
    simp only [cutA, cutB, Bool.false_eq_true, if_false]
    exact ⟨fun p hp => h p (List.mem_of_mem_take hp), fun p hp => h p (List.mem_of_mem_drop hp)⟩
theorem encR_shaped {nd : Nd.Node} (h : Nd.shaped ltS nd = true) : (encR nd).2 = 0 ∨ (encR nd).2 = 40 := by
  simp only [encR, h, if_true]; split
  · exact .inl rfl
  · exact .inr rfl
theorem agg4 {A : Nat} {H : AH} {l : List AV} {e : TypeId} (h : H.h.get A = some (.cells l e 1 false)) (hl : l.length = 4) : ldN 4 (.ptr A 0) H = some (.agg l) := by
  rw [ldN_get h, subN_some _ _ _ (.inr (by omega)), List.drop_zero, List.take_of_length_le (by omega)]; rfl
theorem nodeHalves_walk (m n : Nat) (hm : 100 ≤ m) (hn : 200000000 ≤ n) {H : AH} (hk : H.ok) {v : AV} {nd : Nd.Node} (h : NodeV H v nd) (hsum : ∀ p ∈ nd.kids, Nd.sumOk p) :
    ∃ H', f5z (dy (m + 1)) n [v] H = some (.bool true, H') ∧ Prs H H' := by
  have h0 := h
  obtain ⟨ks, vs, ps, rfl, h1, h2, h3⟩ := h
  obtain ⟨H1, A1, b1, p1, g1, m1, n1⟩ := box hk (.cells [.bool nd.leaf, ks, vs, ps] 28 1 false)
  obtain ⟨b, H2, e2, p2, hb⟩ := long_ok (dy (m + 1)) n (by omega) p1.ok (h0.prs p1)
  cases b with
  | true =>
    refine ⟨H2, ?_, p1.trans p2⟩
    simp only [f5z, ev, lg, wnt_undef, if_true, if_false, decide_true, decide_false, Bool.not_true, Bool.not_false, Bool.false_eq_true, Bool.true_eq_false, Bool.and_true, Bool.true_and, Bool.and_false, Bool.false_and, Bool.or_true, Bool.true_or, Bool.or_false, Bool.false_or, b1, ldN_get g1, sub4, Option.map_some, e2, z_ok]
  | false =>
    have hs := hb rfl
    have P2 : Prs H H2 := p1.trans p2
    have g2 := p2.get p1.ok g1
    obtain ⟨v3, H3, e3, p3, w3⟩ := givenG_ok (dy (m + 1)) n P2.ok (h0.prs P2) hs
    have P3 := P2.trans p3
    obtain ⟨va, sep, vb, e, H4, e4, p4, hcut⟩ := cut_ok (dy (m + 1)) n hn P3.ok w3 hs
    have P4 := P3.trans p4
    have g4 := p4.get P3.ok (p3.get P2.ok g2)
    have hca : ∃ l, va = .agg l ∧ l.length = 4 ∧ allCells l = true := by
      rcases hcut with ⟨_, k, _, _, _, ga, _⟩ | ⟨_, _, _, ha, _⟩
      · exact ga.cells
      · exact ⟨_, ha, rfl, rfl⟩
    have hcb : ∃ l, vb = .agg l ∧ l.length = 4 ∧ allCells l = true := by
      rcases hcut with ⟨_, k, _, _, _, _, gb⟩ | ⟨_, _, _, _, hb⟩
      · exact gb.cells
      · exact ⟨_, hb, rfl, rfl⟩
    obtain ⟨l1, rfl, l1l, l1c⟩ := hca
    obtain ⟨l2, rfl, l2l, l2c⟩ := hcb
    obtain ⟨H5, A3, b3, p5, g5, m5, n5⟩ := box P4.ok (.cells [.bool false, .nilSlice, .nilSlice, .nilSlice] 34 1 false)
    obtain ⟨H6, A5, b5, p6, g6, m6, n6⟩ := box p5.ok (.cells [.bool false, .nilSlice, .nilSlice, .nilSlice] 34 1 false)
    obtain ⟨H7, e7, g7, s7, n7⟩ := st_all p6.ok (p6.get p5.ok g5) (l' := l1) l1l l1c
    obtain ⟨H8, e8, g8, s8, n8⟩ := st_all s7.ok (l' := l2) (show H7.h.get A5 = some (.cells [.bool false, .nilSlice, .nilSlice, .nilSlice] 34 1 false) by rw [s7.keep _ n6 (by omega)]; exact g6) l2l l2c
    have e7' : stN 4 (.ptr A3 0) (.agg l1) H6 = some (undefA, H7) := e7
    have e8' : stN 4 (.ptr A5 0) (.agg l2) H7 = some (undefA, H8) := e8
    have p8 : Prs H4 H8 := ((p5.trans p6).fresh s7 (fun B hB => by omega)).fresh s8 (fun B hB => by have := p5.next; omega)
    have g38 : H8.h.get A3 = some (.cells l1 34 1 false) := by rw [s8.keep _ (by have := p6.next; omega) (by omega)]; exact g7
    have P8 := P4.trans p8
    have g18 := p8.get P4.ok g4
    have l8a := agg4 g38 l1l; have l8b := agg4 g8 l2l
    rcases hcut with ⟨rfl, k, hsh, hck, rfl, ga, gb⟩ | ⟨rfl, rfl, _, _, _⟩
    · obtain ⟨v9, H9, e9, p9, w9⟩ := given_ok (dy (m + 1)) n P8.ok (h0.prs P8) hs
      have P9 := P8.trans p9
      obtain ⟨z10, H10, e10, rfl, p10⟩ := size_ok (dy (m + 1)) n p9.ok w9 hs hn
      have P10 := P9.trans p10
      have q10 : Prs H8 H10 := p9.trans p10
      have up {A : Nat} {o : AObj} {Hx : AH} (p : Prs H8 Hx) (g : H8.h.get A = some o) := p.get P8.ok g
      have ga8 := (ga.prs p8).node; have gb8 := (gb.prs p8).node
      obtain ⟨sa, sb⟩ := cut_small hs k
      obtain ⟨ta, tb⟩ := Nd.cut_shaped hsh hck
      obtain ⟨ua, ub⟩ := cut_sums hsum k
      obtain ⟨za, zb⟩ := Nd.cut_size hsh hck
      obtain ⟨u, H11, e11, p11, w11⟩ := join_ok (dy (m + 1)) n hn P10.ok (sep := nd.keys.getD k []) (ga8.prs q10) (gb8.prs q10) sa sb
      have hj : joinOk (cutA nd k) (nd.keys.getD k []) (cutB nd k) = true := by simp only [joinOk, ta, tb, Nd.cut_parted hsh hck, Bool.and_self]
      rw [hj] at e11 w11
      simp only [if_true, Nd.cut_join hsh hck] at e11 w11
      obtain ⟨l3, rfl, l3l, l3c⟩ := w11.cells
      obtain ⟨H12, A8, b12, p12, g12, m12, n12⟩ := box p11.ok (.cells [.bool false, .nilSlice, .nilSlice, .nilSlice] 34 1 false)
      obtain ⟨H13, e13, g13, s13, n13⟩ := st_all p12.ok g12 (l' := l3) l3l l3c
      have e13' : stN 4 (.ptr A8 0) (.agg l3) H12 = some (undefA, H13) := e13
      have p13 : Prs H11 H13 := p12.fresh s13 (fun B hB => by omega)
      have q13 : Prs H10 H13 := p11.trans p13
      have w13 : NodeO H10 H13 (.agg l3) nd := by
        obtain ⟨ks', vs', ps', ha, o1, o2, o3, ob⟩ := w11
        exact ⟨ks', vs', ps', ha, o1.mono p13 (fun _ _ x => x), o2.mono p13 (fun _ _ x => x), o3.mono p13 (fun _ _ x => x), ob⟩
      obtain ⟨v14, H14, e14, p14, w14⟩ := back_ok (dy (m + 1)) n hn q13.ok q13.next q13 w13 hs
      have q14 : Prs H8 H14 := q10.trans p14
      have P14 := P8.trans q14
      obtain ⟨H15, e15, p15⟩ := same_ok (dy (m + 1)) n hn P14.ok w14 (h0.prs P14) hs
      have q15 := q14.trans p15
      obtain ⟨z16, H16, e16, rfl, p16⟩ := size_ok (dy (m + 1)) n p15.ok (ga8.prs q15) sa hn
      have q16 := q15.trans p16
      obtain ⟨z17, H17, e17, rfl, p17⟩ := size_ok (dy (m + 1)) n p16.ok (gb8.prs q16) sb hn
      have q17 := q16.trans p17
      obtain ⟨H18, e18, p18⟩ := encode_ok m n hm hn p17.ok (ga8.prs q17) sa ua
      have q18 := q17.trans p18
      obtain ⟨H19, e19, p19⟩ := encode_ok m n hm hn p18.ok (gb8.prs q18) sb ub
      have q19 := q18.trans p19
      have r1 : ∀ {Hx : AH}, Prs H8 Hx → ldN 4 (.ptr A1 0) Hx = some (.agg [.bool nd.leaf, ks, vs, ps]) := fun p => by rw [ldN_get (up p g18)]; rfl
      have r3 : ∀ {Hx : AH}, Prs H8 Hx → ldN 4 (.ptr A3 0) Hx = some (.agg l1) := fun p => agg4 (up p g38) l1l
      have r5 : ∀ {Hx : AH}, Prs H8 Hx → ldN 4 (.ptr A5 0) Hx = some (.agg l2) := fun p => agg4 (up p g8) l2l
      have hav : aveq (.agg [.bool nd.leaf, ks, vs, ps]) (.agg [.bool nd.leaf, ks, vs, ps]) = true := by
        simp only [aveq, aveqL, aveq_row h1, aveq_row h2, aveq_row h3, Bool.and_self, beq_self_eq_true]
      have c1 : ¬ ((Nd.size nd : Nat) : Int) ≤ ((Nd.size (cutA nd k) : Nat) : Int) := by omega
      have c2 : ¬ ((Nd.size nd : Nat) : Int) ≤ ((Nd.size (cutB nd k) : Nat) : Int) := by omega
      have h00 : ¬ (((0 : Nat) : Int) ≠ ((0 : Nat) : Int)) := by omega
      refine ⟨H19, ?_, P8.trans q19⟩
      have fin : ∀ x : AH, (∃ i : Nat, (encR (cutA nd k)).2 = i ∧ (i = 0 ∨ i = 40)) → (∃ i : Nat, (encR (cutB nd k)).2 = i ∧ (i = 0 ∨ i = 40)) → True := fun _ _ _ => trivial
      have t40 : ¬ ((40 : Nat) : Int) = ((0 : Nat) : Int) := by omega
      rcases encR_shaped ta with ea | ea <;> rcases encR_shaped tb with eb | eb <;> rw [ea] at e18 <;> rw [eb] at e19 <;>
      simp (config := { maxSteps := 1000000 }) only [f5z, ev, lg, wnt_undef, if_true, if_false, decide_true, decide_false, Bool.not_true, Bool.not_false, Bool.false_eq_true, Bool.true_eq_false, Bool.and_true, Bool.true_and, Bool.and_false, Bool.false_and, Bool.or_true, Bool.true_or, Bool.or_false, Bool.false_or, b1, ldN_get g1, sub4, Option.map_some, e2, z_ok, ldN_get g2, e3, e4, pExtract, nth, b3, b5, e7', e8', h00, r1 (Stp.refl P8.ok), e9, e10, r3 q10, r5 q10, e11, b12, e13', agg4 g13 l3l, r1 (q10.trans q13), e14, chk_ok (r1 q14) hav, e15, r3 q15, e16, c1, r5 q16, e17, c2, r3 q17, e18, r5 q18, e19, t40]
    · have h10 : (((1 : Nat) : Int) ≠ ((0 : Nat) : Int)) := by omega
      have hS : (AV.str 0 0) = S [] := rfl
      refine ⟨H8, ?_, P8⟩
      simp (config := { maxSteps := 1000000 }) only [f5z, ev, lg, wnt_undef, if_true, if_false, decide_true, decide_false, Bool.not_true, Bool.not_false, Bool.false_eq_true, Bool.true_eq_false, Bool.and_true, Bool.true_and, Bool.and_false, Bool.false_and, Bool.or_true, Bool.true_or, Bool.or_false, Bool.false_or, b1, ldN_get g1, sub4, Option.map_some, e2, z_ok, ldN_get g2, e3, e4, pExtract, nth, b3, b5, e7', e8', h10, hS, ne_eq, not_false_eq_true]
end Go.Eng.Sh
end
section
namespace Go.Proofs.Ytghipbccmngkpaa.nodeHalves
open Go.ChangeShapes Go.WideShapes Go.ChangeAt Go.RowKit
open Go.ChangeMaps (open_string shut_string)
theorem own : ownKnob Try.prog.godebug = none := by kernel_rfl
theorem laid : laidOutB Try.prog = true := by kernel_rfl
theorem contract (H : Type) (enc : TypeId × Value → H) (W : World) (base : Nat) (args : Array Value) (ds gs : List (DataW H)) (before : List MemPlace)
    (hval : ∀ (j : Nat) t v, Try.f5.params[j]? = some t → args[j]? = some v → Value.okWide Try.prog W .any base t v)
    (hW : DataW.Whole enc Try.prog Try.f5.params.toList Rows.nodeHalvesSpec.vars false W args.toList ds gs before) :
    Calls Try.prog 5 args W fun e W' => ∃ v, e = .returned v ∧ Rows.nodeHalvesSpec.post enc Try.prog Try.f5 false true false false W args v W' := by
  have hW' := hW
  obtain ⟨p, q, hA0, hV, rfl, hfz, hnd⟩ := hW
  have hA : DataW.TrodAll enc Try.prog W 0 (fun _ => true) true Try.f5.params.toList args.toList ds p := hA0
  rw [Try.params5] at hA hval
  obtain ⟨v0, vs0, d0, ds0, p0, q0, hargs, rfl, rfl, h0, r0⟩ := trodAll_cons hA
  obtain ⟨rfl, rfl, rfl⟩ := trodAll_nil r0
  obtain rfl : args = #[v0] := by cases args; simp_all
  obtain ⟨rfl, rfl⟩ := trodVars_none hV
  clear hA0
  have hlt0 : ∀ x ∈ p0, x.block < W.heap.size := fun x hx => hW'.lt x (by simp [hx])
  obtain ⟨nd, hN, hsum⟩ := Go.Eng.Sh.node_arg h0
  obtain ⟨m, hm⟩ : ∃ m : Nat, 200000000 ≤ m := ⟨_, Nat.le_refl _⟩
  obtain ⟨H', hrun, hP⟩ := Go.Eng.Sh.nodeHalves_walk m (m + 1) (by omega) (by omega) (Go.Eng.H0_ok W) hN hsum
  have hcall := Go.Eng.calls_param (Go.Eng.Sh.f5z_ok (Go.Eng.Sh.dy_ok (m + 1)) (m + 1)) W (args := #[v0]) (H' := H') hrun (fun A hA => hP.keep A hA (fun x => x))
  refine hcall.mono fun e W' ⟨he, hb⟩ => ?_
  subst he
  simp only [List.append_nil] at hW'

  refine ⟨_, rfl, _, _, _, [], p0 ++ [], [], hW', ?_, ?_, rfl, hb.frame _, fun h => by cases h⟩
  · exact trodAll_cons_mk (shut_bool Try.underlying4 _) trodAll_mk0
  · exact trodAll_cons_mk (Below.trod laid (by kernel_rfl) (of_decide_eq_true (by kernel_rfl)) h0 hb hlt0) trodAll_mk0

set_option maxRecDepth 100000 in
theorem lifted (os : Os) (started : os.Started) (H : Type) (enc : TypeId × Value → H) :
    ReturnsInHanded {} Try.checked os 5 .any (Rows.nodeHalvesSpec.pre6 enc Try.prog Try.f5 Rows.nodeHalvesRow.domain false) (Rows.nodeHalvesSpec.post enc Try.prog Try.f5 false true false false) := by
  refine returnsInHanded_of_change (C := Try.checked) own started (by kernel_rfl) Try.func5
    (ChangeSpec.witness6 (enc := enc) (C := Try.checked) false ⟨#[], #[.agg #[.bool false, .slice none 0 0, .slice none 0 0, .slice none 0 0]], []⟩ 8 (by kernel_rfl) (by kernel_rfl) (by kernel_rfl) (by kernel_rfl)) ?_
  intro W base args ds gs before hval hW _ _
  exact contract H enc W base args ds gs before hval hW

theorem holds : Rows.NodeHalvesSaid :=
  OpenClaim.holds_of_wide 5 Try.f5 rfl rfl rfl rfl rfl rfl rfl ⟨rfl, rfl, rfl, rfl, rfl⟩ rfl rfl rfl rfl rfl (by kernel_rfl) Try.func5 (by kernel_rfl)
    (of_decide_eq_true (by kernel_rfl)) (by unfold Func.isWrapper; first | (rw [if_pos (by decide +kernel)]; kernel_rfl) | (rw [if_neg (by decide +kernel)]; exact ⟨rfl, rfl⟩))
    (fun os started H enc _ => lifted os started H enc)
end Go.Proofs.Ytghipbccmngkpaa.nodeHalves
namespace Go.Proofs.Ytghipbccmngkpaa
theorem nodeHalves_holds : Rows.NodeHalvesSaid := nodeHalves.holds
end Go.Proofs.Ytghipbccmngkpaa
end
