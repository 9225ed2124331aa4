/- NodeBack: for every node, every flag and every text the law returns true, and the input reads afterwards as it read before. No condition. -/
import Derived.Test.YtghipbccmngkpaaB5
import Derived.Test.YtghipbccmngkpaaRows
import Derived.ProofKit
import Derived.OpenShut
import Derived.Carry
set_option linter.all false
set_option linter.unusedVariables false
set_option linter.unusedSimpArgs false
section
namespace Go.Eng.Sh
open Go.Nd (Ptr sumL)
/-- An element of a row of one's own is written over. -/
theorem Own.st {k e n : Nat} {H : AH} {v : AV} {l : List AV} (h : Own k e H v n l) (hk : H.ok) (hpos : 0 < k) {i : Nat} (hi : i < n) {x : AV} (hx : (cellsA x).length = k) (hc : allCells (cellsA x) = true) :
    ∃ p H' l', (∀ κ (z : Int), z = (i : Int) → ixSl k v (.int κ z) = some p) ∧ stN k p x H = some (undefA, H') ∧ Own k e H' v n l' ∧ Stp (Blk v) H H' := by
  obtain ⟨h0, ⟨_, rfl⟩ | ⟨A, rfl, hA, hg⟩⟩ := h
  · omega
  · have hik : i * k + k ≤ n * k := by rw [← Nat.succ_mul]; exact Nat.mul_le_mul_right _ hi
    have hb : Nat.blt i n = true := by rw [Nat.blt_eq]; exact hi
    refine ⟨.ptr A (0 + i * k), _, _, fun κ z hz => ?_, stN_ok hg hpos hx hc (by omega), ⟨?_, .inr ⟨A, rfl, hA, by rw [AH.put_get, if_pos rfl]⟩⟩, (Stp.refl hk).put hA _ (.inr (Blk.slice.2 rfl))⟩
    · subst hz
      simp only [ixSl, natOf_int κ (show (0 : Int) ≤ (i : Int) by omega), Int.toNat_natCast, hb, cond_true, fN_eq]
    · simp only [List.length_append, List.length_take, List.length_drop, hx]; omega
theorem spoil0 (D : Dyn) (n : Nat) {H : AH} (hk : H.ok) {kv : AV} {N : Nat} {l : List AV} (h : Own 1 9 H kv N l) {A : Nat} {c : List AV} {e : TypeId} (hA : H.h.get A = some (.cells c e 1 false)) (hc : c[1]? = some kv) (hb : ¬ Blk kv A) (hN : N ≤ 1000000000) (x y : AV) (n' : Nat) (hn : N < n') :
    ∃ H', loopK n' (f17l0 D n) [.ptr A 0, x, y, .int .i64 (0 : Nat)] H = some (.exit 0 [.ptr A 0, x, y], H') ∧ Stp (Blk kv) H H' := by
  obtain ⟨m, us, H', k1, rfl, k2, l', k3⟩ := loop_inv (b := f17l0 D n) N (fun i us H' => us = [.ptr A 0, x, y, .int .i64 (i : Nat)] ∧ Stp (Blk kv) H H' ∧ ∃ l, Own 1 9 H' kv N l) (fun i us H1 hi ⟨hus, hs, l, hl⟩ => by
    subst hus
    obtain ⟨p, H2, l', p1, p2, p3, p4⟩ := Own.st hl hs.ok (by decide) hi (x := .str 6 128008974200947) rfl rfl
    have hA1 : H1.h.get A = some (.cells c e 1 false) := (hs.keep A (hk.lt hA) hb).trans hA
    have hiI : ((i : Nat) : Int) < ((N : Nat) : Int) := by omega
    refine ⟨_, H2, ?_, rfl, hs.trans p4, l', p3⟩
    simp (disch := omega) only [f17l0, ev, lg, wnt_undef, if_true, if_false, decide_true, decide_false, Bool.not_true, Bool.not_false, Bool.false_eq_true, Bool.true_eq_false, Bool.and_true, Bool.true_and, Bool.and_false, Bool.false_and, Bool.or_true, Bool.true_or, Bool.or_false, Bool.false_or, ld1_get hA1, hc, hl.row.lnSl, hiI, p1, p2, Int.natCast_add]) n' _ H ⟨rfl, Stp.refl hk, l, h⟩ hn
  have hA1 : H'.h.get A = some (.cells c e 1 false) := (k2.keep A (hk.lt hA) hb).trans hA
  exact ⟨H', k1.trans (loop_exit (by simp only [f17l0, ev, lg, wnt_undef, if_true, if_false, decide_true, decide_false, Bool.not_true, Bool.not_false, Bool.false_eq_true, Bool.true_eq_false, Bool.and_true, Bool.true_and, Bool.and_false, Bool.false_and, Bool.or_true, Bool.true_or, Bool.or_false, Bool.false_or, ld1_get hA1, hc, k3.row.lnSl, Int.lt_irrefl])), k2⟩
theorem spoil1 (D : Dyn) (n : Nat) {H : AH} (hk : H.ok) {kv : AV} {N : Nat} {l : List AV} (h : Own 1 9 H kv N l) {A : Nat} {c : List AV} {e : TypeId} (hA : H.h.get A = some (.cells c e 1 false)) (hc : c[2]? = some kv) (hb : ¬ Blk kv A) (hN : N ≤ 1000000000) (x y : AV) (n' : Nat) (hn : N < n') :
    ∃ H', loopK n' (f17l1 D n) [.ptr A 0, x, y, .int .i64 (0 : Nat)] H = some (.exit 2 [.ptr A 0, x, y], H') ∧ Stp (Blk kv) H H' := by
  obtain ⟨m, us, H', k1, rfl, k2, l', k3⟩ := loop_inv (b := f17l1 D n) N (fun i us H' => us = [.ptr A 0, x, y, .int .i64 (i : Nat)] ∧ Stp (Blk kv) H H' ∧ ∃ l, Own 1 9 H' kv N l) (fun i us H1 hi ⟨hus, hs, l, hl⟩ => by
    subst hus
    obtain ⟨p, H2, l', p1, p2, p3, p4⟩ := Own.st hl hs.ok (by decide) hi (x := .str 6 128008974200947) rfl rfl
    have hA1 : H1.h.get A = some (.cells c e 1 false) := (hs.keep A (hk.lt hA) hb).trans hA
    have hiI : ((i : Nat) : Int) < ((N : Nat) : Int) := by omega
    refine ⟨_, H2, ?_, rfl, hs.trans p4, l', p3⟩
    simp (disch := omega) only [f17l1, ev, lg, wnt_undef, if_true, if_false, decide_true, decide_false, Bool.not_true, Bool.not_false, Bool.false_eq_true, Bool.true_eq_false, Bool.and_true, Bool.true_and, Bool.and_false, Bool.false_and, Bool.or_true, Bool.true_or, Bool.or_false, Bool.false_or, ld1_get hA1, hc, hl.row.lnSl, hiI, p1, p2, Int.natCast_add]) n' _ H ⟨rfl, Stp.refl hk, l, h⟩ hn
  have hA1 : H'.h.get A = some (.cells c e 1 false) := (k2.keep A (hk.lt hA) hb).trans hA
  exact ⟨H', k1.trans (loop_exit (by simp only [f17l1, ev, lg, wnt_undef, if_true, if_false, decide_true, decide_false, Bool.not_true, Bool.not_false, Bool.false_eq_true, Bool.true_eq_false, Bool.and_true, Bool.true_and, Bool.and_false, Bool.false_and, Bool.or_true, Bool.true_or, Bool.or_false, Bool.false_or, ld1_get hA1, hc, k3.row.lnSl, Int.lt_irrefl])), k2⟩
theorem spoil2 (D : Dyn) (n : Nat) {H : AH} (hk : H.ok) {kv : AV} {N : Nat} {l : List AV} (h : Own 3 59 H kv N l) {A : Nat} {c : List AV} {e : TypeId} (hA : H.h.get A = some (.cells c e 1 false)) (hc : c[3]? = some kv) (hb : ¬ Blk kv A) (hN : N ≤ 1000000000) (x y : AV) (n' : Nat) (hn : N < n') :
    ∃ H', loopK n' (f17l2 D n) [.ptr A 0, x, y, .int .i64 (0 : Nat)] H = some (.exit 4 [x, y], H') ∧ Stp (Blk kv) H H' := by
  have hbd : bldS [(0, 1), (1, 1), (2, 1)] [.int .i64 ((0 : Nat) : Int), .int .i64 ((0 : Nat) : Int), .int .u64 ((0 : Nat) : Int)] [(0, .int .i64 (Int.negSucc 0))] = some (.agg [.int .i64 (Int.negSucc 0), .int .i64 ((0 : Nat) : Int), .int .u64 ((0 : Nat) : Int)]) := rfl
  obtain ⟨m, us, H', k1, rfl, k2, l', k3⟩ := loop_inv (b := f17l2 D n) N (fun i us H' => us = [.ptr A 0, x, y, .int .i64 (i : Nat)] ∧ Stp (Blk kv) H H' ∧ ∃ l, Own 3 59 H' kv N l) (fun i us H1 hi ⟨hus, hs, l, hl⟩ => by
    subst hus
    obtain ⟨p, H2, l', p1, p2, p3, p4⟩ := Own.st hl hs.ok (by decide) hi (x := .agg [.int .i64 (Int.negSucc 0), .int .i64 ((0 : Nat) : Int), .int .u64 ((0 : Nat) : Int)]) rfl rfl
    have hA1 : H1.h.get A = some (.cells c e 1 false) := (hs.keep A (hk.lt hA) hb).trans hA
    have hiI : ((i : Nat) : Int) < ((N : Nat) : Int) := by omega
    refine ⟨_, H2, ?_, rfl, hs.trans p4, l', p3⟩
    simp (disch := omega) only [f17l2, ev, lg, wnt_undef, if_true, if_false, decide_true, decide_false, Bool.not_true, Bool.not_false, Bool.false_eq_true, Bool.true_eq_false, Bool.and_true, Bool.true_and, Bool.and_false, Bool.false_and, Bool.or_true, Bool.true_or, Bool.or_false, Bool.false_or, ld1_get hA1, hc, hl.row.lnSl, hiI, hbd, p1, p2, Int.natCast_add]) n' _ H ⟨rfl, Stp.refl hk, l, h⟩ hn
  have hA1 : H'.h.get A = some (.cells c e 1 false) := (k2.keep A (hk.lt hA) hb).trans hA
  exact ⟨H', k1.trans (loop_exit (by simp only [f17l2, ev, lg, wnt_undef, if_true, if_false, decide_true, decide_false, Bool.not_true, Bool.not_false, Bool.false_eq_true, Bool.true_eq_false, Bool.and_true, Bool.true_and, Bool.and_false, Bool.false_and, Bool.or_true, Bool.true_or, Bool.or_false, Bool.false_or, ld1_get hA1, hc, k3.row.lnSl, Int.lt_irrefl])), k2⟩
theorem back_ok (D : Dyn) (n : Nat) (hn : 200000000 ≤ n) {H00 H : AH} (hk : H.ok) (h00 : H00.next ≤ H.next) (hkeep : Prs H00 H) {v : AV} {nd : Nd.Node} (h : NodeO H00 H v nd) (hs : small nd) :
    ∃ v' H', f17 D n [v] H = some (v', H') ∧ Prs H00 H' ∧ NodeV H' v' nd := by
  obtain ⟨ks, vs, ps, rfl, o1, o2, o3, ob, d1, d2⟩ := h
  have h1 : Strs H ks nd.keys := o1.row
  have h2 : Strs H vs nd.vals := o2.row
  have h3 : Ptrs H ps nd.kids := o3.row
  have l1 : ∀ B, Blk ks B → B < H.next := fun B hB => Own.lt o1 hB
  have l2 : ∀ B, Blk vs B → B < H.next := fun B hB => Own.lt o2 hB
  have l3 : ∀ B, Blk ps B → B < H.next := fun B hB => Own.lt o3 hB
  have p1 : Prs H (H.push (.cells [.bool nd.leaf, ks, vs, ps] 34 1 false)) := (Stp.refl hk).push _
  have g1 : (H.push (.cells [.bool nd.leaf, ks, vs, ps] 34 1 false)).h.get H.next = some (.cells [.bool nd.leaf, ks, vs, ps] 34 1 false) := AH.push_get_eq _ _
  have n1 : (H.push (.cells [.bool nd.leaf, ks, vs, ps] 34 1 false)).next = H.next + 1 := rfl
  generalize hH1 : H.push (.cells [.bool nd.leaf, ks, vs, ps] 34 1 false) = H1 at p1 g1 n1
  have p2 : Prs H1 (H1.push (.cells [.bool false, .nilSlice, .nilSlice, .nilSlice] 28 1 false)) := (Stp.refl p1.ok).push _
  have g2 : (H1.push (.cells [.bool false, .nilSlice, .nilSlice, .nilSlice] 28 1 false)).h.get H1.next = some (.cells [.bool false, .nilSlice, .nilSlice, .nilSlice] 28 1 false) := AH.push_get_eq _ _
  have n2 : (H1.push (.cells [.bool false, .nilSlice, .nilSlice, .nilSlice] 28 1 false)).next = H1.next + 1 := rfl
  have g12 := p2.get p1.ok g1
  generalize hH2 : H1.push (.cells [.bool false, .nilSlice, .nilSlice, .nilSlice] 28 1 false) = H2 at p2 g2 n2 g12
  have p3 : Prs H2 (H2.push (.cells [] 9 1 false)) := (Stp.refl p2.ok).push _
  have g3 : (H2.push (.cells [] 9 1 false)).h.get H2.next = some (.cells [] 9 1 false) := AH.push_get_eq _ _
  have n3 : (H2.push (.cells [] 9 1 false)).next = H2.next + 1 := rfl
  have g13 := p3.get p2.ok g12
  have g23 := p3.get p2.ok g2
  generalize hH3 : H2.push (.cells [] 9 1 false) = H3 at p3 g3 n3 g13 g23
  have p4 : Prs H3 (H3.push (.cells [] 9 1 false)) := (Stp.refl p3.ok).push _
  have g4 : (H3.push (.cells [] 9 1 false)).h.get H3.next = some (.cells [] 9 1 false) := AH.push_get_eq _ _
  have n4 : (H3.push (.cells [] 9 1 false)).next = H3.next + 1 := rfl
  have g14 := p4.get p3.ok g13
  have g24 := p4.get p3.ok g23
  have g34 := p4.get p3.ok g3
  generalize hH4 : H3.push (.cells [] 9 1 false) = H4 at p4 g4 n4 g14 g24 g34
  have p5 : Prs H4 (H4.push (.cells [] 59 3 false)) := (Stp.refl p4.ok).push _
  have g5 : (H4.push (.cells [] 59 3 false)).h.get H4.next = some (.cells [] 59 3 false) := AH.push_get_eq _ _
  have n5 : (H4.push (.cells [] 59 3 false)).next = H4.next + 1 := rfl
  have g15 := p5.get p4.ok g14
  have g25 := p5.get p4.ok g24
  have g35 := p5.get p4.ok g34
  have g45 := p5.get p4.ok g4
  generalize hH5 : H4.push (.cells [] 59 3 false) = H5 at p5 g5 n5 g15 g25 g35 g45
  have p6 : Prs H5 (H5.push (.cells [.bool false, .nilSlice, .nilSlice, .nilSlice] 28 1 false)) := (Stp.refl p5.ok).push _
  have g6 : (H5.push (.cells [.bool false, .nilSlice, .nilSlice, .nilSlice] 28 1 false)).h.get H5.next = some (.cells [.bool false, .nilSlice, .nilSlice, .nilSlice] 28 1 false) := AH.push_get_eq _ _
  have n6 : (H5.push (.cells [.bool false, .nilSlice, .nilSlice, .nilSlice] 28 1 false)).next = H5.next + 1 := rfl
  have g16 := p6.get p5.ok g15
  have g26 := p6.get p5.ok g25
  have g36 := p6.get p5.ok g35
  have g46 := p6.get p5.ok g45
  have g56 := p6.get p5.ok g5
  generalize hH6 : H5.push (.cells [.bool false, .nilSlice, .nilSlice, .nilSlice] 28 1 false) = H6 at p6 g6 n6 g16 g26 g36 g46 g56
  have P6 : Prs H H6 := ((((p1.trans p2).trans p3).trans p4).trans p5).trans p6
  obtain ⟨k', v', p', H7, H8, H9, a7, a8, a9, t7, t8, t9, r1, r2, r3, fb⟩ := copy3 P6.ok (h1.prs P6) (h2.prs P6) (h3.prs P6) hs g36 g46 g56 (by omega) (by omega) (by omega) (N := H2.next) (fun B hB => by have := l1 B hB; omega) (fun B hB => by have := l2 B hB; omega) (fun B hB => by have := l3 B hB; omega) (by omega) (by omega) (by omega)
  have m7 := t7.next
  have m8 := t8.next
  have m9 := t9.next
  have k17 : H7.h.get H.next = some (.cells [.bool nd.leaf, ks, vs, ps] 34 1 false) := (t7.keep _ (by omega) (by omega)).trans g16
  have k18 : H8.h.get H.next = some (.cells [.bool nd.leaf, ks, vs, ps] 34 1 false) := (t8.keep _ (by omega) (by omega)).trans k17
  have k19 : H9.h.get H.next = some (.cells [.bool nd.leaf, ks, vs, ps] 34 1 false) := (t9.keep _ (by omega) (by omega)).trans k18
  have T9 : Stp (fun B => H2.next ≤ B ∧ (B = H2.next ∨ B = H3.next ∨ B = H4.next)) H6 H9 := ((t7.mono (fun B _ hB => ⟨hB.1, .inl hB.2⟩)).trans (t8.mono (fun B _ hB => ⟨hB.1, .inr (.inl hB.2)⟩))).trans (t9.mono (fun B _ hB => ⟨hB.1, .inr (.inr hB.2)⟩))
  have k29 : H9.h.get H1.next = some (.cells [.bool false, .nilSlice, .nilSlice, .nilSlice] 28 1 false) := (T9.keep _ (by omega) (by omega)).trans g26
  have k69 : H9.h.get H5.next = some (.cells [.bool false, .nilSlice, .nilSlice, .nilSlice] 28 1 false) := (T9.keep _ (by omega) (by omega)).trans g6
  have P9 : Prs H H9 := P6.fresh T9 (fun B hB => by omega)
  -- x3
  obtain ⟨Ha, ea, ga, sa, na⟩ := st_all t9.ok k69 (l' := [.bool nd.leaf, k', v', p']) rfl (allCells4 _ _ _ _ r1.isCell r2.isCell r3.isCell)
  have ea' : stN 4 (.ptr H5.next 0) (.agg [.bool nd.leaf, k', v', p']) H9 = some (undefA, Ha) := ea
  have Pa : Prs H Ha := P9.fresh sa (fun B hB => by omega)
  have k1a : Ha.h.get H.next = some (.cells [.bool nd.leaf, ks, vs, ps] 34 1 false) := (sa.keep _ (by omega) (by omega)).trans k19
  have k2a : Ha.h.get H1.next = some (.cells [.bool false, .nilSlice, .nilSlice, .nilSlice] 28 1 false) := (sa.keep _ (by omega) (by omega)).trans k29
  -- the old rows are written over
  have nxt := Pa.next
  obtain ⟨s1, s2, s3⟩ := hs
  have hkl := Nd.sumL_ge nd.keys
  have hvl := Nd.sumL_ge nd.vals
  have W : ∀ {Hx Hy : AH} {w : AV}, Stp (fun B => H00.next ≤ B ∧ B < H.next) Ha Hx → (∀ B, Blk w B → H00.next ≤ B ∧ B < H.next) → Stp (Blk w) Hx Hy → Stp (fun B => H00.next ≤ B ∧ B < H.next) Ha Hy := fun hx hw hy => hx.trans (hy.mono (fun B _ hB => hw B hB))
  have W0 : Stp (fun B => H00.next ≤ B ∧ B < H.next) Ha Ha := Stp.refl Pa.ok
  have bk1 : ∀ B, Blk ks B → H00.next ≤ B ∧ B < H.next := fun B hB => ⟨ob B (.inl hB), l1 B hB⟩
  have bk2 : ∀ B, Blk vs B → H00.next ≤ B ∧ B < H.next := fun B hB => ⟨ob B (.inr (.inl hB)), l2 B hB⟩
  have bk3 : ∀ B, Blk ps B → H00.next ≤ B ∧ B < H.next := fun B hB => ⟨ob B (.inr (.inr hB)), l3 B hB⟩
  obtain ⟨Hb, eb, sb⟩ := spoil0 D n Pa.ok (o1.mono Pa (fun _ _ x => x)) k1a rfl (fun hB => by have := l1 _ hB; omega) (by omega) (.ptr H1.next 0) (.ptr H5.next 0) n (by omega)
  have Wb := W W0 bk1 sb
  have k1b : Hb.h.get H.next = some (.cells [.bool nd.leaf, ks, vs, ps] 34 1 false) := (Wb.keep _ (by omega) (by omega)).trans k1a
  have o2b : Own 1 9 Hb vs nd.vals.length (nd.vals.map S) := (o2.mono Pa (fun _ _ x => x)).mono sb (fun B hB hh => (d1 B hh).1 hB)
  have o3b : Own 3 59 Hb ps nd.kids.length (nd.kids.flatMap ptrV) := (o3.mono Pa (fun _ _ x => x)).mono sb (fun B hB hh => (d1 B hh).2 hB)
  obtain ⟨Hc, ec, sc⟩ := spoil1 D n Wb.ok o2b k1b rfl (fun hB => by have := l2 _ hB; omega) (by omega) (.ptr H1.next 0) (.ptr H5.next 0) n (by omega)
  have Wc := W Wb bk2 sc
  have nb := Wb.next
  have nc := Wc.next
  have k1c : Hc.h.get H.next = some (.cells [.bool nd.leaf, ks, vs, ps] 34 1 false) := (Wc.keep _ (by omega) (by omega)).trans k1a
  have o3c : Own 3 59 Hc ps nd.kids.length (nd.kids.flatMap ptrV) := o3b.mono sc (fun B hB hh => d2 B hh hB)
  obtain ⟨Hd, ed, sd⟩ := spoil2 D n Wc.ok o3c k1c rfl (fun hB => by have := l3 _ hB; omega) (by omega) (.ptr H1.next 0) (.ptr H5.next 0) n (by omega)
  have Wd := W Wc bk3 sd
  have nd' := Wd.next
  have k6d : Hd.h.get H5.next = some (.cells [.bool nd.leaf, k', v', p'] 28 1 false) := (Wd.keep _ (by omega) (by omega)).trans ga
  have k2d : Hd.h.get H1.next = some (.cells [.bool false, .nilSlice, .nilSlice, .nilSlice] 28 1 false) := (Wd.keep _ (by omega) (by omega)).trans k2a
  obtain ⟨He, ee, ge, se, ne⟩ := st_all Wd.ok k2d (l' := [.bool nd.leaf, k', v', p']) rfl (allCells4 _ _ _ _ r1.isCell r2.isCell r3.isCell)
  have ee' : stN 4 (.ptr H1.next 0) (.agg [.bool nd.leaf, k', v', p']) Hd = some (undefA, He) := ee
  have hz1 : bldL 9 1 0 [.str 0 0] [] = some (.cells [] 9 1 false, fun A => .slice A 0 0 0) := rfl
  have hz2 : ∀ a b c : AV, bldL 59 3 0 [a, b, c] [] = some (.cells [] 59 3 false, fun A => .slice A 0 0 0) := fun _ _ _ => rfl
  have q1 : ∀ B, Blk k' B ∨ Blk v' B ∨ Blk p' B → ¬ B = H5.next := fun B hB => by have := fb B hB; omega
  have q2 : ∀ B, Blk k' B ∨ Blk v' B ∨ Blk p' B → ¬ (H00.next ≤ B ∧ B < H.next) := fun B hB => by have := fb B hB; omega
  have q3 : ∀ B, Blk k' B ∨ Blk v' B ∨ Blk p' B → ¬ B = H1.next := fun B hB => by have := fb B hB; omega
  have keepR : ∀ {j m : Nat} {w : AV} {l : List AV}, Rw j H9 w m l → (∀ B, Blk w B → Blk k' B ∨ Blk v' B ∨ Blk p' B) → Rw j He w m l := fun hr hw =>
    Rw.stp (Rw.stp (Rw.stp hr sa (fun B hB => q1 B (hw B hB))) Wd (fun B hB => q2 B (hw B hB))) se (fun B hB => q3 B (hw B hB))
  refine ⟨.agg [.bool nd.leaf, k', v', p'], He, ?_, ?_, ⟨k', v', p', rfl, keepR r1 (fun B hB => .inl hB), keepR r2 (fun B hB => .inr (.inl hB)), keepR r3 (fun B hB => .inr (.inr hB))⟩⟩
  · simp only [f17, ev, lg, wnt_undef, if_true, if_false, decide_true, decide_false, Bool.not_true, Bool.not_false, Bool.false_eq_true, Bool.true_eq_false, Bool.and_true, Bool.true_and, Bool.and_false, Bool.false_and, Bool.or_true, Bool.true_or, Bool.or_false, Bool.false_or, bA_ok hk, hH1, bA_ok p1.ok, hH2, ld1_get g12, ld1_get g13, ld1_get g14, ld1_get g15, hz1, hz2, bA_ok p2.ok, hH3, bA_ok p3.ok, hH4, bA_ok p4.ok, hH5, bA_ok p5.ok, hH6, a7,
      chk_ok (ld1_get k17 0) (aveq_bool _), chk_ok (ld1_get k17 2) (aveq_row h2), chk_ok (ld1_get k17 3) (aveq_row h3), a8, chk_ok (ld1_get k18 0) (aveq_bool _), chk_ok (ld1_get k18 3) (aveq_row h3), a9, chk_ok (ld1_get k19 0) (aveq_bool _),
      bldN _ _ _ _ r1.isCell r2.isCell r3.isCell, ea', eb, f17b5, ec, f17b4, ed, f17b3, ldN_get k6d, sub4, Option.map_some, ee', ldN_get ge]
  · have W2 := (hkeep.trans Pa).fresh Wd (fun B hB => hB.1)
    exact W2.fresh se (fun B hB => by omega)
end Go.Eng.Sh
end
section
namespace Go.Eng.Sh
open Go.Nd (Ptr sumL)
theorem z_ok (D : Dyn) (n : Nat) (H : AH) : z11 D n [] H = some (.bool true, H) := rfl
theorem encR_may {nd : Nd.Node} (h : Nd.may ltS nd = true) : encR nd = (Nd.encN nd, 0) := by
  simp only [Nd.may, Bool.and_eq_true, decide_eq_true_eq] at h
  simp only [encR, h.1, if_true, if_pos h.2]
theorem encR_no {nd : Nd.Node} (h : Nd.may ltS nd = false) : ¬ (encR nd).2 = 0 := by
  simp only [Nd.may, Bool.and_eq_false_iff, decide_eq_false_iff_not] at h
  simp only [encR]
  split
  · rename_i hs
    split
    · rename_i hz
      rcases h with h | h
      · rw [h] at hs; cases hs
      · exact absurd hz h
    · simp
  · simp
theorem may_small {nd : Nd.Node} (h : Nd.may ltS nd = true) : small nd := by
  simp only [Nd.may, Bool.and_eq_true, decide_eq_true_eq] at h
  have h2 := h.2
  simp only [Nd.size] at h2
  exact ⟨by omega, by omega, by omega⟩
/-- The second half: any text that is read is written as it was. -/
theorem back2 (m n : Nat) (hm : 100 ≤ m) (hn : 200000000 ≤ n) {H : AH} (hk : H.ok) (leaf : Bool) (s : Str) :
    ∃ H', outR (f4zj0 (dy (m + 1)) n [.bool leaf, S s] H) = some (.bool true, H') ∧ Prs H H' := by
  obtain ⟨w, H1, e1, p1, hw, l, rfl, hl, hlc⟩ := decode_ok m n hn hk leaf s
  have p2 : Prs H1 (H1.push (.cells [.bool false, .nilSlice, .nilSlice, .nilSlice] 34 1 false)) := (Stp.refl p1.ok).push _
  have g2 : (H1.push (.cells [.bool false, .nilSlice, .nilSlice, .nilSlice] 34 1 false)).h.get H1.next = some (.cells [.bool false, .nilSlice, .nilSlice, .nilSlice] 34 1 false) := AH.push_get_eq _ _
  generalize hH2 : H1.push (.cells [.bool false, .nilSlice, .nilSlice, .nilSlice] 34 1 false) = H2 at p2 g2
  obtain ⟨H3, e3, g3, s3, n3⟩ := st_all p2.ok g2 (l' := l) hl hlc
  have e3' : stN 4 (.ptr H1.next 0) (.agg l) H2 = some (undefA, H3) := e3
  have P3 : Prs H H3 := p1.trans (p2.fresh s3 (fun B hB => by omega))
  cases hd : Nd.decN ltS leaf s with
  | none =>
    have hne : (((4 : Nat) : Int) ≠ ((0 : Nat) : Int)) := by omega
    rw [hd] at e1
    simp only [Option.isSome_none, Bool.false_eq_true, if_false] at e1
    refine ⟨H3, ?_, P3⟩
    simp only [f4zj0, ev, lg, wnt_undef, if_true, if_false, decide_true, decide_false, Bool.not_true, Bool.not_false, Bool.false_eq_true, Bool.true_eq_false, Bool.and_true, Bool.true_and, Bool.and_false, Bool.false_and, Bool.or_true, Bool.true_or, Bool.or_false, Bool.false_or, e1, pExtract, nth, bA_ok p1.ok, hH2, e3', hne, ne_eq, not_false_eq_true]
  | some nd =>
    obtain ⟨q1, q2, q3, q4⟩ := Nd.encN_decN hd
    have hO := hw nd hd
    have hV := hO.node
    obtain ⟨ks, vs, ps, hag, r1, r2, r3⟩ := hV
    simp only [AV.agg.injEq] at hag
    subst hag
    have hlk := hO
    obtain ⟨ks', vs', ps', hag', o1, o2, o3, ob, _⟩ := hO
    simp only [AV.agg.injEq, List.cons.injEq, and_true, true_and] at hag'
    obtain ⟨rfl, rfl, rfl⟩ := hag'
    have nb : ∀ B, Blk ks B ∨ Blk vs B ∨ Blk ps B → ¬ B = H1.next := fun B hB => by
      rcases hB with h | h | h
      · have := Own.lt o1 h; omega
      · have := Own.lt o2 h; omega
      · have := Own.lt o3 h; omega
    have hN : NodeV H3 (.agg [.bool nd.leaf, ks, vs, ps]) nd := ⟨ks, vs, ps, rfl, Rw.stp (Rw.prs r1 p2) s3 (fun B hB => nb B (.inl hB)), Rw.stp (Rw.prs r2 p2) s3 (fun B hB => nb B (.inr (.inl hB))), Rw.stp (Rw.prs r3 p2) s3 (fun B hB => nb B (.inr (.inr hB)))⟩
    obtain ⟨H4, e4, p4⟩ := encode_ok m n hm hn P3.ok hN (may_small q1) q4
    rw [encR_may q1, q2] at e4
    have g4 := p4.get P3.ok g3
    have h00 : ¬ (((0 : Nat) : Int) ≠ ((0 : Nat) : Int)) := by omega
    have hll : (nd.leaf == leaf) = true := by rw [q3]; simp
    rw [hd] at e1
    simp only [Option.isSome_some, if_true] at e1
    refine ⟨H4, ?_, P3.trans p4⟩
    simp only [f4zj0, ev, lg, wnt_undef, if_true, if_false, decide_true, decide_false, Bool.not_true, Bool.not_false, Bool.false_eq_true, Bool.true_eq_false, Bool.and_true, Bool.true_and, Bool.and_false, Bool.false_and, Bool.or_true, Bool.true_or, Bool.or_false, Bool.false_or, e1, pExtract, nth, bA_ok p1.ok, hH2, e3', h00, ldN_get g3, sub4, Option.map_some, e4, ld1_get g4, hll]
theorem nodeBack_walk (m n : Nat) (hm : 100 ≤ m) (hn : 200000000 ≤ n) {H : AH} (hk : H.ok) {v : AV} {nd : Nd.Node} (h : NodeV H v nd) (hsum : ∀ p ∈ nd.kids, Nd.sumOk p) (leaf : Bool) (s : Str) :
    ∃ H', f4z (dy (m + 1)) n [v, .bool leaf, S s] H = some (.bool true, H') ∧ Prs H H' := by
  have h0 := h
  obtain ⟨ks, vs, ps, rfl, h1, h2, h3⟩ := h
  have p1 : Prs H (H.push (.cells [.bool nd.leaf, ks, vs, ps] 28 1 false)) := (Stp.refl hk).push _
  have g1 : (H.push (.cells [.bool nd.leaf, ks, vs, ps] 28 1 false)).h.get H.next = some (.cells [.bool nd.leaf, ks, vs, ps] 28 1 false) := AH.push_get_eq _ _
  generalize hH1 : H.push (.cells [.bool nd.leaf, ks, vs, ps] 28 1 false) = H1 at p1 g1
  obtain ⟨b, H2, e2, p2, hb⟩ := long_ok (dy (m + 1)) n (by omega) p1.ok (h0.prs p1)
  cases b with
  | true =>
    refine ⟨H2, ?_, p1.trans p2⟩
    simp only [f4z, ev, lg, wnt_undef, if_true, if_false, decide_true, decide_false, Bool.not_true, Bool.not_false, Bool.false_eq_true, Bool.true_eq_false, Bool.and_true, Bool.true_and, Bool.and_false, Bool.false_and, Bool.or_true, Bool.true_or, Bool.or_false, Bool.false_or, bA_ok hk, hH1, ldN_get g1, sub4, Option.map_some, e2, z_ok]
  | false =>
    have hs := hb rfl
    by_cases hl : 2000 < s.length
    · have hlI : ((2000 : Nat) : Int) < ((s.length : Nat) : Int) := by omega
      refine ⟨H2, ?_, p1.trans p2⟩
      simp only [f4z, ev, lg, wnt_undef, if_true, if_false, decide_true, decide_false, Bool.not_true, Bool.not_false, Bool.false_eq_true, Bool.true_eq_false, Bool.and_true, Bool.true_and, Bool.and_false, Bool.false_and, Bool.or_true, Bool.true_or, Bool.or_false, Bool.false_or, bA_ok hk, hH1, ldN_get g1, sub4, Option.map_some, e2, z_ok, hlI]
    · have hlI : ¬ ((2000 : Nat) : Int) < ((s.length : Nat) : Int) := by omega
      have P2 : Prs H H2 := p1.trans p2
      have g2 := p2.get p1.ok g1
      obtain ⟨v3, H3, e3, p3, w3⟩ := given_ok (dy (m + 1)) n P2.ok (h0.prs P2) hs
      obtain ⟨H4, e4, p4⟩ := encode_ok m n hm hn p3.ok w3 hs hsum
      have P4 : Prs H H4 := (P2.trans p3).trans p4
      have g4 := p4.get p3.ok (p3.get p2.ok g2)
      obtain ⟨v5, H5, e5, p5, w5⟩ := given_ok (dy (m + 1)) n P4.ok (h0.prs P4) hs
      obtain ⟨H6, e6, p6⟩ := mayN_ok (dy (m + 1)) n p5.ok w5 hs hn
      have P6 : Prs H H6 := (P4.trans p5).trans p6
      have g6 := p6.get p5.ok (p5.get p4.ok g4)
      cases hmay : Nd.may ltS nd with
      | false =>
        have hne : ¬ (((encR nd).2 : Nat) : Int) = ((0 : Nat) : Int) := by have := encR_no hmay; omega
        obtain ⟨H7, e7, p7⟩ := back2 m n hm hn P6.ok leaf s
        refine ⟨H7, ?_, P6.trans p7⟩
        rw [hmay] at e6
        simp only [f4z, ev, lg, wnt_undef, if_true, if_false, decide_true, decide_false, Bool.not_true, Bool.not_false, Bool.false_eq_true, Bool.true_eq_false, Bool.and_true, Bool.true_and, Bool.and_false, Bool.false_and, Bool.or_true, Bool.true_or, Bool.or_false, Bool.false_or, bA_ok hk, hH1, ldN_get g1, sub4, Option.map_some, e2, z_ok, hlI, ldN_get g2, e3, e4, pExtract, nth, ldN_get g4, e5, e6, hne, beq_self_eq_true]
        exact e7
      | true =>
        rw [encR_may hmay] at e4
        rw [hmay] at e6
        have hdec := Nd.decN_encN hmay hsum
        obtain ⟨w, H7, e7, p7, hw, l, rfl, hll, hlc⟩ := decode_ok m n hn P6.ok nd.leaf (Nd.encN nd)
        rw [hdec] at e7
        simp only [Option.isSome_some, if_true] at e7
        have hO := hw nd hdec
        have q8 : Prs H7 (H7.push (.cells [.bool false, .nilSlice, .nilSlice, .nilSlice] 34 1 false)) := (Stp.refl p7.ok).push _
        have g8 : (H7.push (.cells [.bool false, .nilSlice, .nilSlice, .nilSlice] 34 1 false)).h.get H7.next = some (.cells [.bool false, .nilSlice, .nilSlice, .nilSlice] 34 1 false) := AH.push_get_eq _ _
        generalize hH8 : H7.push (.cells [.bool false, .nilSlice, .nilSlice, .nilSlice] 34 1 false) = H8 at q8 g8
        obtain ⟨H9, e9, g9, s9, n9⟩ := st_all q8.ok g8 (l' := l) hll hlc
        have e9' : stN 4 (.ptr H7.next 0) (.agg l) H8 = some (undefA, H9) := e9
        have P9 : Prs H7 H9 := q8.fresh s9 (fun B hB => by omega)
        have P69 : Prs H6 H9 := p7.trans P9
        have hO9 : NodeO H6 H9 (.agg l) nd := by
          obtain ⟨ks', vs', ps', ha, o1, o2, o3, ob⟩ := hO
          exact ⟨ks', vs', ps', ha, o1.mono P9 (fun _ _ x => x), o2.mono P9 (fun _ _ x => x), o3.mono P9 (fun _ _ x => x), ob⟩
        have hln : l = l := rfl
        obtain ⟨v10, H10, e10, p10, w10⟩ := back_ok (dy (m + 1)) n hn P69.ok P69.next P69 hO9 hs
        have P10 : Prs H H10 := P6.trans p10
        have g10 := p10.get P6.ok g6
        obtain ⟨H11, e11, p11⟩ := same_ok (dy (m + 1)) n hn p10.ok w10 (h0.prs P10) hs
        have P11 : Prs H H11 := P10.trans p11
        have g11 := p11.get p10.ok g10
        obtain ⟨v12, H12, e12, p12, w12⟩ := given_ok (dy (m + 1)) n P11.ok (h0.prs P11) hs
        obtain ⟨z, H13, e13, rfl, p13⟩ := size_ok (dy (m + 1)) n p12.ok w12 hs hn
        have P13 : Prs H H13 := (P11.trans p12).trans p13
        obtain ⟨H14, e14, p14⟩ := back2 m n hm hn P13.ok leaf s
        have hlen : (((Nd.encN nd).length : Nat) : Int) = ((Nd.size nd : Nat) : Int) := by
          rw [Nd.encN_length (lt := ltS)]
          simp only [Nd.may, Bool.and_eq_true] at hmay; exact hmay.1
        have g9l : subN l 0 4 = some l := by rw [subN_some _ _ _ (.inr (by omega)), List.drop_zero, List.take_of_length_le (by omega)]
        have g69 := P69.get P6.ok g6
        have hav : aveq (.agg [.bool nd.leaf, ks, vs, ps]) (.agg [.bool nd.leaf, ks, vs, ps]) = true := by
          simp only [aveq, aveqL, aveq_row h1, aveq_row h2, aveq_row h3, Bool.and_self, beq_self_eq_true]
        refine ⟨H14, ?_, P13.trans p14⟩
        simp only [f4z, ev, lg, wnt_undef, if_true, if_false, decide_true, decide_false, Bool.not_true, Bool.not_false, Bool.false_eq_true, Bool.true_eq_false, Bool.and_true, Bool.true_and, Bool.and_false, Bool.false_and, Bool.or_true, Bool.true_or, Bool.or_false, Bool.false_or, bA_ok hk, hH1, ldN_get g1, sub4, Option.map_some, e2, z_ok, hlI, ldN_get g2, e3, e4, pExtract, nth, ldN_get g4, e5, e6, beq_self_eq_true,
          ld1_get g6, e7, bA_ok p7.ok, hH8, e9', ne_eq, not_true_eq_false, ldN_get g9, g9l, ldN_get g69, e10, chk_ok (show ldN 4 (.ptr H.next 0) H10 = some (.agg [.bool nd.leaf, ks, vs, ps]) by rw [ldN_get g10]; rfl) hav, e11, ldN_get g11, e12, e13, hlen]
        exact e14
end Go.Eng.Sh
end
section
namespace Go.Eng.Sh
open Go.Nd (Ptr)
open Go.Proofs
theorem cells_at {w : World} {base n : Nat} {a : Addr} {cs : List Value} (h : w.cells? base a n = some cs) (hn : 0 < n) : a.spot = none ∧ ∃ arr e fz, w.heap[a.block]? = some (.cells arr e fz) ∧ ∀ j, j < n → arr[a.off + j]? = cs[j]? := by
  obtain ⟨_, hl, hc⟩ := World.cells?_some h
  have h0 := hc 0 hn
  rw [List.getElem?_eq_getElem (by omega)] at h0
  obtain ⟨c1, arr, te, fz, hg, _⟩ := cell_some h0
  have hsp : a.spot = none := by simpa [Addr.add] using c1
  obtain ⟨b, o, sp⟩ := a
  simp only at hsp; subst hsp
  have hb : (Addr.add ⟨b, o, none⟩ 0).block = b := by simp [Addr.add]
  rw [hb] at hg
  refine ⟨rfl, arr, te, fz, hg, fun j hj => ?_⟩
  have hj' := hc j hj
  rw [List.getElem?_eq_getElem (by omega)] at hj' ⊢
  obtain ⟨_, arr', te', fz', hg', hv⟩ := cell_some hj'
  rw [add_none] at hg' hv
  simp only at hg' hv
  rw [hg] at hg'
  simp only [Option.some.injEq, Obj.cells.injEq] at hg'
  rw [← hg'.1] at hv; exact hv
theorem cellsOf59 : Try.prog.cellsOf 59 = 3 := by kernel_rfl
theorem cellsOf3 : Try.prog.cellsOf 3 = 1 := by kernel_rfl
theorem cellsOf22 : Try.prog.cellsOf 22 = 1 := by kernel_rfl
theorem cellsOf9 : Try.prog.cellsOf 9 = 1 := by kernel_rfl
theorem cellsOf28 : Try.prog.cellsOf 28 = 4 := by kernel_rfl
theorem cellsOf4 : Try.prog.cellsOf 4 = 1 := by kernel_rfl
theorem cellsOf25 : Try.prog.cellsOf 25 = 1 := by kernel_rfl
theorem cellsOf26 : Try.prog.cellsOf 26 = 1 := by kernel_rfl
theorem ptr_cells {H : Type} {enc : TypeId × Value → H} {w : World} {base : Nat} {sp : Nat → Bool} {held : Bool} {fuel : Nat} {cs : List Value} {x : DataW H × List MemPlace} (h : DataW.trod enc Try.prog w base sp held fuel 59 cs = some x) :
    ∃ p : Ptr, cs = [.int .i64 p.at_, .int .i64 p.birth, .int .u64 p.sum] ∧ Nd.sumOk p := by
  obtain ⟨y0, y1, y2, n, _, hl, h0, h1, h2⟩ := Deep.trod_struct3 Try.underlying59 h
  simp only [cellsOf3, cellsOf22] at h0 h1 h2
  obtain ⟨a, ha, _⟩ := DataW.trod_int Try.underlying3 h0
  obtain ⟨b, hb, _⟩ := DataW.trod_int Try.underlying3 h1
  obtain ⟨c, hc, _, hw⟩ := DataW.trod_int Try.underlying22 h2
  rw [cellsOf59] at hl
  match cs, hl with
  | [u, v, z], _ =>
    simp at ha hb hc
    subst ha; subst hb; subst hc
    refine ⟨⟨a, b, c⟩, rfl, ?_⟩
    simp only [Lit.wf, IntKind.min, IntKind.max, IntKind.signed, IntKind.bits, Bool.and_eq_true, decide_eq_true_eq] at hw
    simp only [Nd.sumOk]
    simp at hw
    omega
theorem flat_get : ∀ (ps : List Ptr) (i j : Nat), i < ps.length → j < 3 → (ps.flatMap ptrV)[i * 3 + j]? = (ptrV (ps.getD i pz))[j]?
  | [], i, j, h, _ => by simp at h
  | p :: ps, 0, j, _, hj => by
    simp only [List.flatMap_cons, Nat.zero_mul, Nat.zero_add]
    rw [List.getElem?_append_left (by exact hj)]; rfl
  | p :: ps, i + 1, j, h, hj => by
    have ih := flat_get ps i j (by simpa using h) hj
    simp only [List.flatMap_cons]
    rw [List.getElem?_append_right (by show 3 ≤ _; omega)]
    have : (i + 1) * 3 + j - (ptrV p).length = i * 3 + j := by show (i + 1) * 3 + j - 3 = _; omega
    rw [this, ih]; rfl
theorem flat_len : ∀ ps : List Ptr, (ps.flatMap ptrV).length = ps.length * 3
  | [] => rfl
  | p :: ps => by rw [List.flatMap_cons, List.length_append, flat_len ps, List.length_cons]; show 3 + _ = _; omega
theorem ptrs_arg {H : Type} {enc : TypeId × Value → H} {w : World} {base : Nat} {held : Bool} {fuel : Nat} {v : Value} {x : DataW H × List MemPlace} (h : DataW.trod enc Try.prog w base (fun _ => true) held fuel 26 [v] = some x) :
    ∃ l : List Ptr, Ptrs (H0 w) (argCell w.heap.size v) l ∧ ∀ p ∈ l, Nd.sumOk p := by
  rcases Deep.open_slice Try.underlying26 h with ⟨h1, _⟩ | ⟨a, len, cap, m, n, D, Pl, h1, _, hl, _, hm, _, hx⟩
  · simp only [List.cons.injEq, and_true] at h1; subst h1
    exact ⟨[], ⟨by simp, .inl ⟨rfl, rfl⟩⟩, by simp⟩
  · simp only [List.cons.injEq, and_true] at h1; subst h1
    simp only [if_true] at hm; subst hm
    by_cases h0 : m = 0
    · subst h0
      obtain rfl : len = 0 := by omega
      exact ⟨[], ⟨by simp, .inr (.inl ⟨rfl, rfl⟩)⟩, by simp⟩
    · simp only [cellsOf59] at hx
      have hp : ∀ i, i < m → ∃ p : Ptr, w.cells? base (a.add (i * 3)) 3 = some [.int .i64 p.at_, .int .i64 p.birth, .int .u64 p.sum] ∧ Nd.sumOk p := fun i hi => by
        obtain ⟨cs, k1, k2⟩ := hx i hi
        obtain ⟨p, rfl, hs⟩ := ptr_cells k2
        exact ⟨p, k1, hs⟩
      haveI : Inhabited Ptr := ⟨pz⟩
      obtain ⟨Px, hP⟩ := Deep.choose_lt hp
      obtain ⟨b, o, sp⟩ := a
      obtain ⟨c1, arr, te, fz, hg, hat0⟩ := cells_at (hP 0 (by omega)).1 (by omega)
      have hsp : sp = none := by simpa [Addr.add] using c1
      subst hsp
      rw [add_none] at hg
      simp only at hg
      have hat : ∀ i, i < m → ∀ j, j < 3 → arr[o + i * 3 + j]? = ([.int .i64 (Px i).at_, .int .i64 (Px i).birth, .int .u64 (Px i).sum] : List Value)[j]? := fun i hi j hj => by
        obtain ⟨_, arr', te', fz', hg', hv⟩ := cells_at (hP i hi).1 (by omega)
        rw [add_none] at hg' hv
        simp only at hg' hv
        rw [hg] at hg'
        simp only [Option.some.injEq, Obj.cells.injEq] at hg'
        rw [hg'.1]; exact hv j hj
      have hsz : o + m * 3 ≤ arr.size := by
        have h2 := hat (m - 1) (by omega) 2 (by omega)
        simp only [List.getElem?_cons_succ, List.getElem?_cons_zero] at h2
        have := (Array.getElem?_eq_some_iff.1 h2).1; omega
      rw [argSlice w (by omega) (heap_lt hg)]
      refine ⟨(List.range len).map Px, ⟨flat_len _, .inr (.inr ⟨b, o, 2 * m, _, te, 0, false, by simp, H0_cells w hg, heap_lt hg, by simp; omega, ?_⟩)⟩, ?_⟩
      · apply List.ext_getElem?
        intro q
        simp only [List.length_map, List.length_range]
        by_cases hq : q < len * 3
        · have hqi : q / 3 < len := by omega
          have hqj : q % 3 < 3 := Nat.mod_lt _ (by omega)
          have e1 : q = q / 3 * 3 + q % 3 := by omega
          rw [List.getElem?_take_of_lt hq, List.getElem?_drop, List.getElem?_map, Array.getElem?_toList]
          have h3 := hat (q / 3) (by omega) (q % 3) hqj
          rw [show o + q / 3 * 3 + q % 3 = o + q from by omega] at h3
          have h4 := flat_get ((List.range len).map Px) (q / 3) (q % 3) (by simpa using hqi) hqj
          rw [← e1] at h4
          rw [h3, h4, getD_lt (by simpa using hqi)]
          simp only [List.getElem_map, List.getElem_range]
          generalize q % 3 = r at hqj
          match r, hqj with
          | 0, _ => rfl
          | 1, _ => rfl
          | 2, _ => rfl
        · rw [List.getElem?_eq_none (by simp; omega), List.getElem?_eq_none (by rw [flat_len]; simp; omega)]
      · intro p hp
        obtain ⟨i, hi, rfl⟩ := List.mem_map.1 hp
        exact (hP i (by have := List.mem_range.1 hi; omega)).2
/-- The law's first argument: a node. -/
theorem node_arg {H : Type} {enc : TypeId × Value → H} {w : World} {base : Nat} {held : Bool} {v : Value} {d : DataW H} {ps : List MemPlace} (h : DataW.Trod enc Try.prog w base (fun _ => true) held 28 v d ps) :
    ∃ nd : Nd.Node, NodeV (H0 w) (argAV w.heap.size v) nd ∧ ∀ p ∈ nd.kids, Nd.sumOk p := by
  obtain ⟨fuel, hf⟩ := h
  obtain ⟨xs, n, _, _, hl, hlen, hx⟩ := DataW.trod_struct Try.underlying28 hf
  rw [cellsOf28] at hl
  have hv : ∃ c0 c1 c2 c3, v = .agg #[c0, c1, c2, c3] := by
    have hag : ∀ a : Array Value, a.toList.length = 4 → ∃ c0 c1 c2 c3, a = #[c0, c1, c2, c3] := by
      rintro ⟨l⟩ hl
      match l, hl with
      | [c0, c1, c2, c3], _ => exact ⟨c0, c1, c2, c3, rfl⟩
    have hone : ∀ u : Value, (#[u] : Array Value).toList.length = 4 → False := fun u h => by simp at h
    cases v with
    | agg a => obtain ⟨c0, c1, c2, c3, rfl⟩ := hag a hl; exact ⟨c0, c1, c2, c3, rfl⟩
    | _ => exact (hone _ hl).elim
  obtain ⟨c0, c1, c2, c3, rfl⟩ := hv
  match xs, hlen with
  | [y0, y1, y2, y3], _ =>
    have k0 : DataW.trod enc Try.prog w base (fun _ => true) held n 4 [c0] = some y0 := by
      have this : DataW.trod enc Try.prog w base (fun _ => true) held n 4 (List.take (Try.prog.cellsOf 4) (List.drop 0 [c0, c1, c2, c3])) = some y0 := hx 0 _ rfl
      rw [cellsOf4] at this; exact this
    have k1 : DataW.trod enc Try.prog w base (fun _ => true) held n 25 [c1] = some y1 := by
      have this : DataW.trod enc Try.prog w base (fun _ => true) held n 25 (List.take (Try.prog.cellsOf 25) (List.drop 1 [c0, c1, c2, c3])) = some y1 := hx 1 _ rfl
      rw [cellsOf25] at this; exact this
    have k2 : DataW.trod enc Try.prog w base (fun _ => true) held n 25 [c2] = some y2 := by
      have this : DataW.trod enc Try.prog w base (fun _ => true) held n 25 (List.take (Try.prog.cellsOf 25) (List.drop 2 [c0, c1, c2, c3])) = some y2 := hx 2 _ rfl
      rw [cellsOf25] at this; exact this
    have k3 : DataW.trod enc Try.prog w base (fun _ => true) held n 26 [c3] = some y3 := by
      have this : DataW.trod enc Try.prog w base (fun _ => true) held n 26 (List.take (Try.prog.cellsOf 26) (List.drop 3 [c0, c1, c2, c3])) = some y3 := hx 3 _ rfl
      rw [cellsOf26] at this; exact this
    clear hx hf hl
    obtain ⟨b, hb, _⟩ := DataW.trod_bool Try.underlying4 k0
    obtain rfl : c0 = .bool b := (List.cons.inj hb).1
    obtain ⟨l1, s1⟩ := strs_arg Try.underlying25 Try.underlying9 cellsOf9 k1
    obtain ⟨l2, s2⟩ := strs_arg Try.underlying25 Try.underlying9 cellsOf9 k2
    obtain ⟨l3, s3, hs⟩ := ptrs_arg k3
    exact ⟨⟨b, l1, l2, l3⟩, ⟨_, _, _, rfl, s1, s2, s3⟩, hs⟩
end Go.Eng.Sh
namespace Go.Proofs.Ytghipbccmngkpaa.nodeBack
open Go.ChangeShapes Go.WideShapes Go.ChangeAt Go.RowKit
open Go.ChangeMaps (open_string shut_string)
theorem own : ownKnob Try.prog.godebug = none := by kernel_rfl
theorem laid : laidOutB Try.prog = true := by kernel_rfl
theorem contract (H : Type) (enc : TypeId × Value → H) (W : World) (base : Nat) (args : Array Value) (ds gs : List (DataW H)) (before : List MemPlace)
    (hval : ∀ (j : Nat) t v, Try.f4.params[j]? = some t → args[j]? = some v → Value.okWide Try.prog W .any base t v)
    (hW : DataW.Whole enc Try.prog Try.f4.params.toList Rows.nodeBackSpec.vars false W args.toList ds gs before) :
    Calls Try.prog 4 args W fun e W' => ∃ v, e = .returned v ∧ Rows.nodeBackSpec.post enc Try.prog Try.f4 false true false false W args v W' := by
  have hW' := hW
  obtain ⟨p, q, hA0, hV, rfl, hfz, hnd⟩ := hW
  have hA : DataW.TrodAll enc Try.prog W 0 (fun _ => true) true Try.f4.params.toList args.toList ds p := hA0
  rw [Try.params4] at hA hval
  obtain ⟨v0, vs0, d0, ds0, p0, q0, hargs, rfl, rfl, h0, r0⟩ := trodAll_cons hA
  obtain ⟨v1, vs1, d1, ds1, p1, q1, rfl, rfl, rfl, h1, r1⟩ := trodAll_cons r0
  obtain ⟨v2, vs2, d2, ds2, p2, q2, rfl, rfl, rfl, h2, r2⟩ := trodAll_cons r1
  obtain ⟨rfl, rfl, rfl⟩ := trodAll_nil r2
  obtain rfl : args = #[v0, v1, v2] := by cases args; simp_all
  obtain ⟨rfl, rfl⟩ := trodVars_none hV
  obtain ⟨b, rfl, rfl, rfl⟩ := open_bool Try.underlying4 (hval 1 4 v1 rfl rfl) h1
  obtain ⟨s, rfl, rfl, rfl, hs⟩ := open_string Try.underlying9 (hval 2 9 v2 rfl rfl) h2
  clear hA0
  have hlt0 : ∀ x ∈ p0, x.block < W.heap.size := fun x hx => hW'.lt x (by simp [hx])
  obtain ⟨nd, hN, hsum⟩ := Go.Eng.Sh.node_arg h0
  obtain ⟨m, hm⟩ : ∃ m : Nat, 200000000 ≤ m := ⟨_, Nat.le_refl _⟩
  obtain ⟨H', hrun, hP⟩ := Go.Eng.Sh.nodeBack_walk m (m + 1) (by omega) (by omega) (Go.Eng.H0_ok W) hN hsum b s.data.toList
  have hcall := Go.Eng.calls_param (Go.Eng.Sh.f4z_ok (Go.Eng.Sh.dy_ok (m + 1)) (m + 1)) W (args := #[v0, .bool b, .string s]) (H' := H') (by
    have e1 : Go.Eng.argAV W.heap.size (.bool b) = .bool b := rfl
    have e2 : Go.Eng.argAV W.heap.size (.string s) = Go.Eng.S s.data.toList := Go.Eng.cellAV_string W.heap.size s
    simp only [List.map_cons, List.map_nil, e1, e2]; exact hrun) (fun A hA => hP.keep A hA (fun x => x))
  refine hcall.mono fun e W' ⟨he, hb⟩ => ?_
  subst he
  simp only [List.append_nil] at hW'
  refine ⟨_, rfl, _, _, _, [], p0 ++ ([] ++ ([] ++ [])), [], hW', ?_, ?_, rfl, hb.frame _, fun h => by cases h⟩
  · exact trodAll_cons_mk (shut_bool Try.underlying4 _) trodAll_mk0
  · exact trodAll_cons_mk (Below.trod laid (by kernel_rfl) (of_decide_eq_true (by kernel_rfl)) h0 hb hlt0) (trodAll_cons_mk (shut_bool Try.underlying4 _) (trodAll_cons_mk (shut_string Try.underlying9 hs) trodAll_mk0))

set_option maxRecDepth 100000 in
theorem lifted (os : Os) (started : os.Started) (H : Type) (enc : TypeId × Value → H) :
    ReturnsInHanded {} Try.checked os 4 .any (Rows.nodeBackSpec.pre6 enc Try.prog Try.f4 Rows.nodeBackRow.domain false) (Rows.nodeBackSpec.post enc Try.prog Try.f4 false true false false) := by
  refine returnsInHanded_of_change (C := Try.checked) own started (by kernel_rfl) Try.func4
    (ChangeSpec.witness6 (enc := enc) (C := Try.checked) false ⟨#[], #[.agg #[.bool false, .slice none 0 0, .slice none 0 0, .slice none 0 0], .bool false, .string .empty], []⟩ 8 (by kernel_rfl) (by kernel_rfl) (by kernel_rfl) (by kernel_rfl)) ?_
  intro W base args ds gs before hval hW _ _
  exact contract H enc W base args ds gs before hval hW

theorem holds : Rows.NodeBackSaid :=
  OpenClaim.holds_of_wide 4 Try.f4 rfl rfl rfl rfl rfl rfl rfl ⟨rfl, rfl, rfl, rfl, rfl⟩ rfl rfl rfl rfl rfl (by kernel_rfl) Try.func4 (by kernel_rfl)
    (of_decide_eq_true (by kernel_rfl)) (by unfold Func.isWrapper; first | (rw [if_pos (by decide +kernel)]; kernel_rfl) | (rw [if_neg (by decide +kernel)]; exact ⟨rfl, rfl⟩))
    (fun os started H enc _ => lifted os started H enc)
end Go.Proofs.Ytghipbccmngkpaa.nodeBack
namespace Go.Proofs.Ytghipbccmngkpaa
theorem nodeBack_holds : Rows.NodeBackSaid := nodeBack.holds
end Go.Proofs.Ytghipbccmngkpaa
end
