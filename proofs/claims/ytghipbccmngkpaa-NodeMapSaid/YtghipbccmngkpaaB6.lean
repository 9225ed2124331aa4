/- A checked evaluator for the program, part 6: no condition. -/
import Derived.Test.YtghipbccmngkpaaB5
set_option linter.all false
set_option linter.unusedVariables false
set_option linter.unusedSimpArgs false
section
namespace Go.Eng
/-- Rows, each with its cells. -/
def Rws (k : Nat) (H : AH) : List AV → List (Nat × List AV) → Prop
  | [], [] => True
  | v :: vs, r :: rs => (Rw k H v r.1 r.2 ∧ allCells r.2 = true) ∧ Rws k H vs rs
  | _, _ => False
theorem Rws.len {k : Nat} {H : AH} : ∀ {vs : List AV} {rs : List (Nat × List AV)}, Rws k H vs rs → vs.length = rs.length
  | [], [], _ => rfl
  | _ :: vs, _ :: rs, h => by simp only [List.length_cons, Rws.len h.2]
  | [], _ :: _, h => h.elim
  | _ :: _, [], h => h.elim
theorem Rws.at {k : Nat} {H : AH} : ∀ {vs : List AV} {rs : List (Nat × List AV)} {i : Nat} {x : AV}, Rws k H vs rs → vs[i]? = some x → ∃ r, rs[i]? = some r ∧ Rw k H x r.1 r.2 ∧ allCells r.2 = true
  | [], [], _, _, _, h => by simp at h
  | _ :: vs, r :: rs, 0, x, h, hx => by simp only [List.getElem?_cons_zero, Option.some.injEq] at hx; subst hx; exact ⟨r, rfl, h.1⟩
  | _ :: vs, _ :: rs, i + 1, x, h, hx => by simp only [List.getElem?_cons_succ] at hx ⊢; exact Rws.at h.2 hx
  | [], _ :: _, _, _, h, _ => h.elim
  | _ :: _, [], _, _, h, _ => h.elim
theorem Rws.prs {k : Nat} {H H' : AH} (s : Prs H H') : ∀ {vs : List AV} {rs : List (Nat × List AV)}, Rws k H vs rs → Rws k H' vs rs
  | [], [], _ => trivial
  | _ :: vs, _ :: rs, h => ⟨⟨h.1.1.prs s, h.1.2⟩, Rws.prs s h.2⟩
  | [], _ :: _, h => h.elim
  | _ :: _, [], h => h.elim
def sumN (rs : List (Nat × List AV)) : Nat := (rs.map Prod.fst).sum
def catN (rs : List (Nat × List AV)) : List AV := rs.flatMap Prod.snd
theorem sumN_take {rs : List (Nat × List AV)} {i : Nat} {r : Nat × List AV} (h : rs[i]? = some r) : sumN (rs.take (i + 1)) = sumN (rs.take i) + r.1 := by
  obtain ⟨hi, rfl⟩ := List.getElem?_eq_some_iff.1 h
  rw [List.take_succ_eq_append_getElem hi]; simp only [sumN, List.map_append, List.sum_append, List.map_cons, List.map_nil, List.sum_cons, List.sum_nil, Nat.add_zero]
theorem catN_take {rs : List (Nat × List AV)} {i : Nat} {r : Nat × List AV} (h : rs[i]? = some r) : catN (rs.take (i + 1)) = catN (rs.take i) ++ r.2 := by
  obtain ⟨hi, rfl⟩ := List.getElem?_eq_some_iff.1 h
  rw [List.take_succ_eq_append_getElem hi]; simp only [catN, List.flatMap_append, List.flatMap_cons, List.flatMap_nil, List.append_nil]
theorem sumN_le (rs : List (Nat × List AV)) (i : Nat) : sumN (rs.take i) ≤ sumN rs := by
  have : rs = rs.take i ++ rs.drop i := (List.take_append_drop i rs).symm
  conv => rhs; rw [this]
  simp only [sumN, List.map_append, List.sum_append]; omega
/-- A row that is being filled, so many elements in all. -/
def Part (k e : Nat) (H : AH) (v : AV) (n : Nat) (l : List AV) (tot : Nat) : Prop :=
  (tot = 0 ∧ v = .nilSlice ∧ n = 0 ∧ l = []) ∨ ∃ A rest, v = .slice A 0 n 1 ∧ A < H.next ∧ H.h.get A = some (.cells (l ++ rest) e k true) ∧ l.length = n * k ∧ rest.length = (tot - n) * k ∧ n ≤ tot
theorem Part.own {k e : Nat} {H : AH} {v : AV} {n : Nat} {l : List AV} (h : Part k e H v n l n) : Own k e H v n l := by
  rcases h with ⟨rfl, rfl, _, rfl⟩ | ⟨A, rest, rfl, hA, hg, hl, hr, _⟩
  · exact Own.nil _ _ _
  · have : rest = [] := List.eq_nil_of_length_eq_zero (by rw [hr, Nat.sub_self, Nat.zero_mul])
    subst this; rw [List.append_nil] at hg
    exact ⟨hl, .inr ⟨A, rfl, hA, hg⟩⟩
theorem Part.app {k e bytes : Nat} {H : AH} {v s : AV} {n m tot : Nat} {l new : List AV} (hk : H.ok) (hpos : 0 < k) (h : Part k e H v n l tot) (hs : srcOf k s H = some (m, new)) (hm : new.length = m * k) (hc : allCells new = true) (hle : n + m ≤ tot) :
    ∃ v' H', apP e k bytes v s H = some (v', H') ∧ Part k e H' v' (n + m) (l ++ new) tot ∧ Stp (Blk v) H H' ∧ H'.next = H.next ∧ ∀ B, Blk v' B → Blk v B := by
  rcases h with ⟨rfl, rfl, rfl, rfl⟩ | ⟨A, rest, rfl, hA, hg, hl, hr, hn⟩
  · obtain rfl : m = 0 := by omega
    have : new = [] := List.eq_nil_of_length_eq_zero (by simpa using hm)
    subst this
    exact ⟨.nilSlice, H, by simp [apP, hs, hc, app1], .inl ⟨rfl, rfl, rfl, rfl⟩, Stp.refl hk, rfl, fun _ x => x⟩
  · have hlen : (l ++ rest).length = tot * k := by rw [List.length_append, hl, hr, ← Nat.add_mul]; congr 1; omega
    have hroom : roomOf (l ++ rest) true k 0 1 k = tot := by
      simp only [roomOf, show ((1 % 2).beq 0) = false from rfl, cond_false, Nat.beq_refl, show Nat.beq 0 (1 / 2 * k) = true from by simp, Bool.and_self, cond_true, lenL_zero, hlen, Nat.sub_zero]
      exact Nat.mul_div_cancel _ hpos
    have b1 : Nat.ble (n + m) tot = true := by rw [Nat.ble_eq]; exact hle
    have hz : Nat.blt 0 k = true := by rw [Nat.blt_eq]; exact hpos
    have hmr : m * k ≤ rest.length := by rw [hr]; exact Nat.mul_le_mul_right _ (by omega)
    have hset : setAt (l ++ rest) (0 + n * k) new = some (l ++ new ++ rest.drop (m * k)) := by
      rw [setAt_some (by rw [hlen, hm, Nat.zero_add, ← Nat.add_mul]; exact Nat.mul_le_mul_right _ hle), Nat.zero_add, hm]
      congr 1
      rw [List.take_append_of_le_length (by omega), List.take_of_length_le (by omega), List.drop_append, ← hl, List.drop_of_length_le (by omega), List.nil_append]
      congr 2; omega
    refine ⟨.slice A 0 (n + m) 1, H.put A (.cells (l ++ new ++ rest.drop (m * k)) e k true), ?_, .inr ⟨A, rest.drop (m * k), rfl, hA, by rw [AH.put_get, if_pos rfl], by rw [List.length_append, hl, hm, Nat.add_mul], by rw [List.length_drop, hr, ← Nat.sub_mul]; congr 1; omega, hle⟩, (Stp.refl hk).put hA _ (.inr (Blk.slice.2 rfl)), rfl, fun B hB => Blk.slice.2 (Blk.slice.1 hB)⟩
    simp only [apP, hs, hc, cond_true, app1, hg, app2, hroom, b1, hz, hset, appIn, putA_ok, fN_eq]
theorem Part.stp {k e : Nat} {S : Nat → Prop} {H H' : AH} {v : AV} {n tot : Nat} {l : List AV} (h : Part k e H v n l tot) (s : Stp S H H') (hS : ∀ A, Blk v A → ¬ S A) : Part k e H' v n l tot := by
  rcases h with h | ⟨A, rest, rfl, hA, hg, hr⟩
  · exact .inl h
  · exact .inr ⟨A, rest, rfl, Nat.lt_of_lt_of_le hA s.next, by rw [s.keep A hA (hS A (Blk.slice.2 rfl))]; exact hg, hr⟩
theorem rep_len (z : AV) : ∀ m : Nat, (rep m [z]).length = m
  | 0 => rfl
  | m + 1 => by simp [rep, rep_len z m]
theorem rep_len3 (a b c : AV) : ∀ m : Nat, (rep m [a, b, c]).length = m * 3
  | 0 => rfl
  | m + 1 => by simp only [rep, List.length_append, rep_len3 a b c m, List.length_cons, List.length_nil]; omega
/-- A row of nothing yet. -/
theorem grow_z {k e bytes m : Nat} {H : AH} {z : List AV} (hk : H.ok) (hpos : 0 < k) (hz : (rep m z).length = m * k) (hm0 : 0 < m) (hm : m ≤ 1000000000) (hb : bytes ≤ 1000) :
    apZ e k bytes z .nilSlice (.int .i64 ((m : Nat) : Int)) H = some (.slice H.next 0 m 1, H.push (.cells (rep m z) e k true)) ∧
    slSl k (.slice H.next 0 m 1) none (some (.int .i64 ((0 : Nat) : Int))) none (H.push (.cells (rep m z) e k true)) = some (.slice H.next 0 0 1) ∧
    Part k e (H.push (.cells (rep m z) e k true)) (.slice H.next 0 0 1) 0 [] m := by
  have b1 : Nat.ble (m * bytes) 281474976710656 = true := by
    rw [Nat.ble_eq]; exact Nat.le_trans (Nat.mul_le_mul hm hb) (by decide)
  have b2 : Nat.blt m 4611686018427387904 = true := by rw [Nat.blt_eq]; omega
  have b3 : Nat.beq m 0 = false := by rw [Bool.eq_false_iff]; intro h; have := Nat.eq_of_beq_eq_true h; omega
  have hroom : roomOf (rep m z) true k 0 1 k = m := by
    simp only [roomOf, show ((1 % 2).beq 0) = false from rfl, cond_false, Nat.beq_refl, show Nat.beq 0 (1 / 2 * k) = true from by simp, Bool.and_self, cond_true, lenL_zero, hz, Nat.sub_zero]
    exact Nat.mul_div_cancel _ hpos
  have hb' : Nat.blt 0 k = true := by rw [Nat.blt_eq]; exact hpos
  refine ⟨?_, ?_, .inr ⟨H.next, rep m z, rfl, Nat.lt_succ_self _, AH.push_get_eq _ _, by simp, by simpa using hz, by omega⟩⟩
  · show apZ e k bytes z .nilSlice (.int .i64 (Int.ofNat m)) H = _
    simp only [apZ, b1, b2, Bool.and_self, cond_true, app1, show m.beq 0 = false from b3, cond_false, appGrow, roomy_ok hm hb, agrow, List.nil_append, newA_ok hk, fN_eq]
  · have n0 := natOf_int .i64 (z := ((0 : Nat) : Int)) (by omega)
    simp only [slSl, natOpt, n0, AH.push_get_eq, hb', cond_true]
    simp [acut, hroom, fN_eq, show Nat.ble 0 m = true from by rw [Nat.ble_eq]; omega, show Nat.ble 0 0 = true from rfl, show Nat.beq 1 0 = false from rfl]
end Go.Eng
namespace Go.Eng.Sh
open Go.Nd (Ptr sumL cutOk cutA cutB)
theorem growS_ok (D : Dyn) (n m : Nat) (hm : m ≤ 1000000000) {H : AH} (hk : H.ok) :
    ∃ v H', f56 D n [.nilSlice, .int .i64 (m : Nat)] H = some (v, H') ∧ Prs H H' ∧ Part 1 9 H' v 0 [] m ∧ ∀ B, Blk v B → H.next ≤ B := by
  have hcap : acap X 25 .nilSlice = some (.int .i64 ((0 : Nat) : Int)) := rfl
  have hln : lnSl .nilSlice = some (.int .i64 ((0 : Nat) : Int)) := rfl
  have hs : slSl 1 .nilSlice none (some (.int .i64 ((0 : Nat) : Int))) none H = some .nilSlice := rfl
  have h0 : ¬ ((m : Nat) : Int) < ((0 : Nat) : Int) := by omega
  by_cases hp : m = 0
  · subst hp
    refine ⟨.nilSlice, H, ?_, Stp.refl hk, .inl ⟨rfl, rfl, rfl, rfl⟩, fun B hB => (Blk.nil.1 hB).elim⟩
    simp (disch := omega) only [f56, f56j1, f56j0, ev, lg, wnt_undef, if_true, if_false, decide_true, decide_false, Bool.not_true, Bool.not_false, Bool.false_eq_true, Bool.true_eq_false, Bool.and_true, Bool.true_and, Bool.and_false, Bool.false_and, Bool.or_true, Bool.true_or, Bool.or_false, Bool.false_or, h0, hcap, hln, Int.sub_zero, Int.lt_irrefl, Int.sub_self]
  · obtain ⟨e1, e2, p⟩ := grow_z (k := 1) (e := 9) (bytes := 16) (m := m) (z := [.str 0 0]) hk (by decide) (by rw [rep_len]; omega) (by omega) hm (by decide)
    have hsub : ((m : Nat) : Int) - (((0 : Nat) : Int) - ((0 : Nat) : Int)) = ((m : Nat) : Int) := by omega
    have hpI : ((0 : Nat) : Int) < ((m : Nat) : Int) := by omega
    refine ⟨_, _, ?_, (Stp.refl hk).push _, p, fun B hB => by rw [Blk.slice.1 hB]; exact Nat.le_refl _⟩
    simp (disch := omega) only [f56, f56j1, f56j0, ev, lg, wnt_undef, if_true, if_false, decide_true, decide_false, Bool.not_true, Bool.not_false, Bool.false_eq_true, Bool.true_eq_false, Bool.and_true, Bool.true_and, Bool.and_false, Bool.false_and, Bool.or_true, Bool.true_or, Bool.or_false, Bool.false_or, h0, hcap, hln, hs, hsub, hpI, e1, e2]
theorem growP_ok (D : Dyn) (n m : Nat) (hm : m ≤ 1000000000) {H : AH} (hk : H.ok) :
    ∃ v H', f57 D n [.nilSlice, .int .i64 (m : Nat)] H = some (v, H') ∧ Prs H H' ∧ Part 3 59 H' v 0 [] m ∧ ∀ B, Blk v B → H.next ≤ B := by
  have hcap : acap X 26 .nilSlice = some (.int .i64 ((0 : Nat) : Int)) := rfl
  have hln : lnSl .nilSlice = some (.int .i64 ((0 : Nat) : Int)) := rfl
  have hs : slSl 3 .nilSlice none (some (.int .i64 ((0 : Nat) : Int))) none H = some .nilSlice := rfl
  have h0 : ¬ ((m : Nat) : Int) < ((0 : Nat) : Int) := by omega
  by_cases hp : m = 0
  · subst hp
    refine ⟨.nilSlice, H, ?_, Stp.refl hk, .inl ⟨rfl, rfl, rfl, rfl⟩, fun B hB => (Blk.nil.1 hB).elim⟩
    simp (disch := omega) only [f57, f57j1, f57j0, ev, lg, wnt_undef, if_true, if_false, decide_true, decide_false, Bool.not_true, Bool.not_false, Bool.false_eq_true, Bool.true_eq_false, Bool.and_true, Bool.true_and, Bool.and_false, Bool.false_and, Bool.or_true, Bool.true_or, Bool.or_false, Bool.false_or, h0, hcap, hln, Int.sub_zero, Int.lt_irrefl, Int.sub_self]
  · obtain ⟨e1, e2, p⟩ := grow_z (k := 3) (e := 59) (bytes := 24) (m := m) (z := [.int .i64 (.ofNat 0), .int .i64 (.ofNat 0), .int .u64 (.ofNat 0)]) hk (by decide) (by rw [rep_len3]) (by omega) hm (by decide)
    have hsub : ((m : Nat) : Int) - (((0 : Nat) : Int) - ((0 : Nat) : Int)) = ((m : Nat) : Int) := by omega
    have hpI : ((0 : Nat) : Int) < ((m : Nat) : Int) := by omega
    refine ⟨_, _, ?_, (Stp.refl hk).push _, p, fun B hB => by rw [Blk.slice.1 hB]; exact Nat.le_refl _⟩
    simp only [Int.ofNat_eq_natCast] at e1 e2
    simp (disch := omega) only [f57, f57j1, f57j0, ev, lg, wnt_undef, if_true, if_false, decide_true, decide_false, Bool.not_true, Bool.not_false, Bool.false_eq_true, Bool.true_eq_false, Bool.and_true, Bool.true_and, Bool.and_false, Bool.false_and, Bool.or_true, Bool.true_or, Bool.or_false, Bool.false_or, h0, hcap, hln, hs, hsub, hpI, e1, e2]
end Go.Eng.Sh
end
section
namespace Go.Eng.Sh
open Go.Nd (Ptr sumL cutOk cutA cutB)
theorem catS1 (D : Dyn) (n : Nat) {H : AH} {v : AV} {vs : List AV} {rs : List (Nat × List AV)} (hv : Rw 1 H v vs.length vs) (h : Rws 1 H vs rs) (hb : sumN rs ≤ 1000000000) (hl : vs.length ≤ 1000000000) (n' : Nat) (hn : vs.length < n') :
    loopK n' (f42l1 D n) [v, .int .i64 ((0 : Nat) : Int), v, .int .i64 (vs.length : Nat), .int .i64 ((0 : Nat) : Int)] H = some (.exit 0 [v, .int .i64 (sumN rs : Nat)], H) := by
  have hlen := h.len
  refine loop_for (fun i => [v, .int .i64 (sumN (rs.take i) : Nat), v, .int .i64 (vs.length : Nat), .int .i64 (i : Nat)]) vs.length ?_ ?_ n' hn
  · intro i hi
    obtain ⟨p, x, p1, p2, p3⟩ := hv.ld1 hi
    obtain ⟨r, r1, r2, r3⟩ := h.at p3
    have hiI : ((i : Nat) : Int) < ((vs.length : Nat) : Int) := by omega
    have hs := sumN_take r1
    have hs2 := sumN_le rs i
    have hs3 := sumN_le rs (i + 1)
    have hneg : ¬ ((sumN (rs.take i) : Nat) : Int) + ((r.1 : Nat) : Int) < ((0 : Nat) : Int) := by omega
    have hc : ((sumN (rs.take (i + 1)) : Nat) : Int) = ((sumN (rs.take i) : Nat) : Int) + ((r.1 : Nat) : Int) := by omega
    rw [hc]
    simp (disch := omega) only [f42l1, f42j0, ev, lg, wnt_undef, if_true, if_false, decide_true, decide_false, Bool.not_true, Bool.not_false, Bool.false_eq_true, Bool.true_eq_false, Bool.and_true, Bool.true_and, Bool.and_false, Bool.false_and, Bool.or_true, Bool.true_or, Bool.or_false, Bool.false_or, hiI, p1, p2, r2.lnSl, hneg, Int.natCast_add]
  · intro m
    refine loop_exit ?_
    have : rs.take vs.length = rs := by rw [hlen]; exact List.take_length
    simp only [f42l1, ev, lg, wnt_undef, if_true, if_false, decide_true, decide_false, Bool.not_true, Bool.not_false, Bool.false_eq_true, Bool.true_eq_false, Bool.and_true, Bool.true_and, Bool.and_false, Bool.false_and, Bool.or_true, Bool.true_or, Bool.or_false, Bool.false_or, Int.lt_irrefl, this]
theorem catS2 (D : Dyn) (n : Nat) {H : AH} (hk : H.ok) {v : AV} {vs : List AV} {rs : List (Nat × List AV)} (hv : Rw 1 H v vs.length vs) (h : Rws 1 H vs rs) (hl : vs.length ≤ 1000000000)
    {w : AV} (hw : Part 1 9 H w 0 [] (sumN rs)) (hd1 : ∀ B, Blk w B → ¬ Blk v B) (hd2 : ∀ B, Blk w B → ∀ x ∈ vs, ¬ Blk x B) (n' : Nat) (hn : vs.length < n') :
    ∃ w' H', loopK n' (f42l2 D n) [w, v, .int .i64 (vs.length : Nat), .int .i64 ((0 : Nat) : Int)] H = some (.exit 2 [w'], H') ∧ Stp (Blk w) H H' ∧ Part 1 9 H' w' (sumN rs) (catN rs) (sumN rs) ∧ ∀ B, Blk w' B → Blk w B := by
  have hlen := h.len
  obtain ⟨m, us, H', k1, w', rfl, k3, k4, k5⟩ := loop_inv (b := f42l2 D n) vs.length (fun i us H' => ∃ w', us = [w', v, .int .i64 (vs.length : Nat), .int .i64 (i : Nat)] ∧ Stp (Blk w) H H' ∧ Part 1 9 H' w' (sumN (rs.take i)) (catN (rs.take i)) (sumN rs) ∧ ∀ B, Blk w' B → Blk w B) (fun i us H1 hi ⟨w1, hus, hs, hp, hB⟩ => by
    subst hus
    obtain ⟨p, x, p1, p2, p3⟩ := (hv.stp hs (fun A hA hh => hd1 A hh hA)).ld1 hi
    obtain ⟨r, r1, r2, r3⟩ := h.at p3
    have hx : x ∈ vs := List.mem_of_getElem? p3
    have r2' := r2.stp hs (fun A hA hh => hd2 A hh x hx hA)
    have hiI : ((i : Nat) : Int) < ((vs.length : Nat) : Int) := by omega
    have hs3 := sumN_le rs (i + 1)
    have hst := sumN_take r1
    obtain ⟨w2, H2, e2, q2, s2, n2, b2⟩ := hp.app (bytes := 16) hs.ok (by decide) r2'.srcOf r2.1 r3 (by omega)
    rw [← hst, ← catN_take r1] at q2
    refine ⟨_, H2, ?_, w2, rfl, hs.trans (s2.mono fun A _ hA => hB A hA), q2, fun B hb => hB B (b2 B hb)⟩
    simp (disch := omega) only [f42l2, ev, lg, wnt_undef, if_true, if_false, decide_true, decide_false, Bool.not_true, Bool.not_false, Bool.false_eq_true, Bool.true_eq_false, Bool.and_true, Bool.true_and, Bool.and_false, Bool.false_and, Bool.or_true, Bool.true_or, Bool.or_false, Bool.false_or, hiI, p1, p2, e2, Int.natCast_add]) n' _ H ⟨w, rfl, Stp.refl hk, hw, fun _ x => x⟩ hn
  rw [hlen, List.take_length] at k4
  exact ⟨w', H', k1.trans (loop_exit (by simp only [f42l2, ev, lg, wnt_undef, if_true, if_false, decide_true, decide_false, Bool.not_true, Bool.not_false, Bool.false_eq_true, Bool.true_eq_false, Bool.and_true, Bool.true_and, Bool.and_false, Bool.false_and, Bool.or_true, Bool.true_or, Bool.or_false, Bool.false_or, Int.lt_irrefl])), k3, k4, k5⟩
theorem catS_ok (D : Dyn) (n : Nat) {H : AH} (hk : H.ok) {v : AV} {vs : List AV} {rs : List (Nat × List AV)} (hv : Rw 1 H v vs.length vs) (h : Rws 1 H vs rs) (hb : sumN rs ≤ 1000000000) (hl : vs.length ≤ 1000000000) (hn : vs.length < n)
    (hv0 : ∀ B, Blk v B → B < H.next) (hx0 : ∀ x ∈ vs, ∀ B, Blk x B → B < H.next) :
    ∃ w H', f42 D n [v] H = some (w, H') ∧ Prs H H' ∧ Own 1 9 H' w (sumN rs) (catN rs) ∧ ∀ B, Blk w B → H.next ≤ B := by
  obtain ⟨w1, H1, e1, p1, q1, f1⟩ := growS_ok D n (sumN rs) hb hk
  obtain ⟨w2, H2, e2, s2, q2, f2⟩ := catS2 D n p1.ok (hv.prs p1) (h.prs p1) hl q1 (fun B hB hh => by have := f1 B hB; have := hv0 B hh; omega) (fun B hB x hx hh => by have := f1 B hB; have := hx0 x hx B hh; omega) n hn
  have l1 := catS1 D n hv h hb hl n hn
  refine ⟨w2, H2, ?_, p1.fresh s2 f1, q2.own, fun B hB => f1 B (f2 B hB)⟩
  simp only [f42, ev, lg, wnt_undef, if_true, if_false, decide_true, decide_false, Bool.not_true, Bool.not_false, Bool.false_eq_true, Bool.true_eq_false, Bool.and_true, Bool.true_and, Bool.and_false, Bool.false_and, Bool.or_true, Bool.true_or, Bool.or_false, Bool.false_or, hv.lnSl, l1, f42b4, e1, e2, f42b3]
end Go.Eng.Sh
end
section
namespace Go.Eng.Sh
open Go.Nd (Ptr sumL cutOk cutA cutB)
theorem catP1 (D : Dyn) (n : Nat) {H : AH} {v : AV} {vs : List AV} {rs : List (Nat × List AV)} (hv : Rw 1 H v vs.length vs) (h : Rws 3 H vs rs) (hb : sumN rs ≤ 1000000000) (hl : vs.length ≤ 1000000000) (n' : Nat) (hn : vs.length < n') :
    loopK n' (f43l1 D n) [v, .int .i64 ((0 : Nat) : Int), v, .int .i64 (vs.length : Nat), .int .i64 ((0 : Nat) : Int)] H = some (.exit 0 [v, .int .i64 (sumN rs : Nat)], H) := by
  have hlen := h.len
  refine loop_for (fun i => [v, .int .i64 (sumN (rs.take i) : Nat), v, .int .i64 (vs.length : Nat), .int .i64 (i : Nat)]) vs.length ?_ ?_ n' hn
  · intro i hi
    obtain ⟨p, x, p1, p2, p3⟩ := hv.ld1 hi
    obtain ⟨r, r1, r2, r3⟩ := h.at p3
    have hiI : ((i : Nat) : Int) < ((vs.length : Nat) : Int) := by omega
    have hs := sumN_take r1
    have hs2 := sumN_le rs i
    have hs3 := sumN_le rs (i + 1)
    have hneg : ¬ ((sumN (rs.take i) : Nat) : Int) + ((r.1 : Nat) : Int) < ((0 : Nat) : Int) := by omega
    have hc : ((sumN (rs.take (i + 1)) : Nat) : Int) = ((sumN (rs.take i) : Nat) : Int) + ((r.1 : Nat) : Int) := by omega
    rw [hc]
    simp (disch := omega) only [f43l1, f43j0, ev, lg, wnt_undef, if_true, if_false, decide_true, decide_false, Bool.not_true, Bool.not_false, Bool.false_eq_true, Bool.true_eq_false, Bool.and_true, Bool.true_and, Bool.and_false, Bool.false_and, Bool.or_true, Bool.true_or, Bool.or_false, Bool.false_or, hiI, p1, p2, r2.lnSl, hneg, Int.natCast_add]
  · intro m
    refine loop_exit ?_
    have : rs.take vs.length = rs := by rw [hlen]; exact List.take_length
    simp only [f43l1, ev, lg, wnt_undef, if_true, if_false, decide_true, decide_false, Bool.not_true, Bool.not_false, Bool.false_eq_true, Bool.true_eq_false, Bool.and_true, Bool.true_and, Bool.and_false, Bool.false_and, Bool.or_true, Bool.true_or, Bool.or_false, Bool.false_or, Int.lt_irrefl, this]
theorem catP2 (D : Dyn) (n : Nat) {H : AH} (hk : H.ok) {v : AV} {vs : List AV} {rs : List (Nat × List AV)} (hv : Rw 1 H v vs.length vs) (h : Rws 3 H vs rs) (hl : vs.length ≤ 1000000000)
    {w : AV} (hw : Part 3 59 H w 0 [] (sumN rs)) (hd1 : ∀ B, Blk w B → ¬ Blk v B) (hd2 : ∀ B, Blk w B → ∀ x ∈ vs, ¬ Blk x B) (n' : Nat) (hn : vs.length < n') :
    ∃ w' H', loopK n' (f43l2 D n) [w, v, .int .i64 (vs.length : Nat), .int .i64 ((0 : Nat) : Int)] H = some (.exit 2 [w'], H') ∧ Stp (Blk w) H H' ∧ Part 3 59 H' w' (sumN rs) (catN rs) (sumN rs) ∧ ∀ B, Blk w' B → Blk w B := by
  have hlen := h.len
  obtain ⟨m, us, H', k1, w', rfl, k3, k4, k5⟩ := loop_inv (b := f43l2 D n) vs.length (fun i us H' => ∃ w', us = [w', v, .int .i64 (vs.length : Nat), .int .i64 (i : Nat)] ∧ Stp (Blk w) H H' ∧ Part 3 59 H' w' (sumN (rs.take i)) (catN (rs.take i)) (sumN rs) ∧ ∀ B, Blk w' B → Blk w B) (fun i us H1 hi ⟨w1, hus, hs, hp, hB⟩ => by
    subst hus
    obtain ⟨p, x, p1, p2, p3⟩ := (hv.stp hs (fun A hA hh => hd1 A hh hA)).ld1 hi
    obtain ⟨r, r1, r2, r3⟩ := h.at p3
    have hx : x ∈ vs := List.mem_of_getElem? p3
    have r2' := r2.stp hs (fun A hA hh => hd2 A hh x hx hA)
    have hiI : ((i : Nat) : Int) < ((vs.length : Nat) : Int) := by omega
    have hs3 := sumN_le rs (i + 1)
    have hst := sumN_take r1
    obtain ⟨w2, H2, e2, q2, s2, n2, b2⟩ := hp.app (bytes := 24) hs.ok (by decide) r2'.srcOf r2.1 r3 (by omega)
    rw [← hst, ← catN_take r1] at q2
    refine ⟨_, H2, ?_, w2, rfl, hs.trans (s2.mono fun A _ hA => hB A hA), q2, fun B hb => hB B (b2 B hb)⟩
    simp (disch := omega) only [f43l2, ev, lg, wnt_undef, if_true, if_false, decide_true, decide_false, Bool.not_true, Bool.not_false, Bool.false_eq_true, Bool.true_eq_false, Bool.and_true, Bool.true_and, Bool.and_false, Bool.false_and, Bool.or_true, Bool.true_or, Bool.or_false, Bool.false_or, hiI, p1, p2, e2, Int.natCast_add]) n' _ H ⟨w, rfl, Stp.refl hk, hw, fun _ x => x⟩ hn
  rw [hlen, List.take_length] at k4
  exact ⟨w', H', k1.trans (loop_exit (by simp only [f43l2, ev, lg, wnt_undef, if_true, if_false, decide_true, decide_false, Bool.not_true, Bool.not_false, Bool.false_eq_true, Bool.true_eq_false, Bool.and_true, Bool.true_and, Bool.and_false, Bool.false_and, Bool.or_true, Bool.true_or, Bool.or_false, Bool.false_or, Int.lt_irrefl])), k3, k4, k5⟩
theorem catP_ok (D : Dyn) (n : Nat) {H : AH} (hk : H.ok) {v : AV} {vs : List AV} {rs : List (Nat × List AV)} (hv : Rw 1 H v vs.length vs) (h : Rws 3 H vs rs) (hb : sumN rs ≤ 1000000000) (hl : vs.length ≤ 1000000000) (hn : vs.length < n)
    (hv0 : ∀ B, Blk v B → B < H.next) (hx0 : ∀ x ∈ vs, ∀ B, Blk x B → B < H.next) :
    ∃ w H', f43 D n [v] H = some (w, H') ∧ Prs H H' ∧ Own 3 59 H' w (sumN rs) (catN rs) ∧ ∀ B, Blk w B → H.next ≤ B := by
  obtain ⟨w1, H1, e1, p1, q1, f1⟩ := growP_ok D n (sumN rs) hb hk
  obtain ⟨w2, H2, e2, s2, q2, f2⟩ := catP2 D n p1.ok (hv.prs p1) (h.prs p1) hl q1 (fun B hB hh => by have := f1 B hB; have := hv0 B hh; omega) (fun B hB x hx hh => by have := f1 B hB; have := hx0 x hx B hh; omega) n hn
  have l1 := catP1 D n hv h hb hl n hn
  refine ⟨w2, H2, ?_, p1.fresh s2 f1, q2.own, fun B hB => f1 B (f2 B hB)⟩
  simp only [f43, ev, lg, wnt_undef, if_true, if_false, decide_true, decide_false, Bool.not_true, Bool.not_false, Bool.false_eq_true, Bool.true_eq_false, Bool.and_true, Bool.true_and, Bool.and_false, Bool.false_and, Bool.or_true, Bool.true_or, Bool.or_false, Bool.false_or, hv.lnSl, l1, f43b4, e1, e2, f43b3]
end Go.Eng.Sh
end
section
namespace Go.Eng
theorem bA_c (o : AObj) (mk : Nat → AV) (H : AH) (K : AV → AH → Rs) (h : H.ok) : bA (some (o, mk)) H K = K (mk H.next) (H.push o) := bA_ok h o mk K
/-- Blocks laid, read, written over while they are fresh. -/
theorem hp : (∀ (o : AObj) (mk : Nat → AV) (H : AH) (K : AV → AH → Rs), H.ok → bA (some (o, mk)) H K = K (mk H.next) (H.push o)) ∧
    (∀ (H : AH) (A o : Nat) (x : AObj), A < H.next → ld1 (.ptr A o) (H.push x) = ld1 (.ptr A o) H) ∧
    (∀ (H : AH) (A o n : Nat) (x : AObj), A < H.next → ldN n (.ptr A o) (H.push x) = ldN n (.ptr A o) H) ∧
    (∀ (l : List AV) (o n : Nat) (a : AV) , o = 0 → n = l.length → (subN l o n).map AV.agg = some (.agg l)) ∧
    (∀ (a b c d : AV), subN [a, b, c, d] 0 4 = some [a, b, c, d]) ∧
    (∀ (l : List AV), (some l).map AV.agg = some (.agg l)) ∧
    (∀ (vs : List AV) (i : Nat), pExtract (.tuple vs) i = vs[i]?) :=
  ⟨fun o mk H K h => bA_ok h o mk K, fun H A o x h => ld1_old o x h, fun H A o n x h => ldN_old o n x h, fun l o n _ h1 h2 => by subst h1; subst h2; rw [subN_some _ _ _ (.inr (by omega)), List.drop_zero, List.take_length]; rfl, fun _ _ _ _ => rfl, fun _ => rfl, fun vs i => by simp only [pExtract, nth_eq]⟩
end Go.Eng
end
section
namespace Go.Nd
/-- May a text stand between two nodes? -/
def partedN (lt : Str → Str → Bool) (a : Node) (sep : Str) (b : Node) : Bool :=
  mayK sep && (a.leaf == b.leaf) && (decide (a.keys.length = 0) || lt (a.keys.getD (a.keys.length - 1) []) sep) && (decide (b.keys.length = 0) || lt sep (b.keys.getD 0 []) || (a.leaf && decide (sep = b.keys.getD 0 [])))
end Go.Nd
namespace Go.Eng.Sh
open Go.Nd (Ptr sumL cutOk cutA cutB partedN)
theorem parted_ok (D : Dyn) (n : Nat) {H : AH} (hk : H.ok) {v w : AV} {a b : Nd.Node} {sep : Str} (h : NodeV H v a) (h' : NodeV H w b) (hs : small a) (hs' : small b) :
    ∃ H', f41 D n [v, S sep, w] H = some (.bool (partedN ltS a sep b), H') ∧ Prs H H' := by
  obtain ⟨ks, vs, ps, rfl, h1, h2, h3⟩ := h
  obtain ⟨ks', vs', ps', rfl, k1, k2, k3⟩ := h'
  have hkl := Nd.sumL_ge a.keys
  have hkl' := Nd.sumL_ge b.keys
  obtain ⟨s1, s2, s3⟩ := hs
  obtain ⟨s1', s2', s3'⟩ := hs'
  have P : Prs H ((H.push (.cells [.bool a.leaf, ks, vs, ps] 34 1 false)).push (.cells [.bool b.leaf, ks', vs', ps'] 34 1 false)) := ((Stp.refl hk).push _).push _
  have l1 := h1.lnSl
  have l2 := k1.lnSl
  have q1 := h1.prs P
  have q2 := k1.prs P
  generalize hH2 : (H.push (.cells [.bool a.leaf, ks, vs, ps] 34 1 false)).push (.cells [.bool b.leaf, ks', vs', ps'] 34 1 false) = H2 at P q1 q2
  have r1 : ∀ o, ld1 (.ptr H.next o) H2 = [.bool a.leaf, ks, vs, ps][o]? := fun o => by rw [← hH2, ld1_old _ _ (by rw [AH.push_next]; omega), ld1_push]
  have r2 : ∀ o, ld1 (.ptr (H.push (.cells [.bool a.leaf, ks, vs, ps] 34 1 false)).next o) H2 = [.bool b.leaf, ks', vs', ps'][o]? := fun o => by rw [← hH2, ld1_push]
  refine ⟨H2, ?_, P⟩
  have hne : ∀ x y : Bool, (!(x == y)) = false → x = y := fun x y => by cases x <;> cases y <;> simp
  cases hm : Nd.mayK sep with
  | false => simp (disch := first | assumption | omega | (simp only [AH.push_next, AH.put_next]; omega) | (repeat (first | assumption | apply AH.ok.push))) only [f41, ev, lg, wnt_undef, if_true, if_false, decide_true, decide_false, Bool.not_true, Bool.not_false, Bool.false_eq_true, Bool.true_eq_false, Bool.and_true, Bool.true_and, Bool.and_false, Bool.false_and, Bool.or_true, Bool.true_or, Bool.or_false, Bool.false_or, hp, hH2, mayKey_ok, hm, partedN]
  | true =>
    cases hl : (a.leaf == b.leaf) with
    | false => simp (disch := first | assumption | omega | (simp only [AH.push_next, AH.put_next]; omega) | (repeat (first | assumption | apply AH.ok.push))) only [f41, ev, lg, wnt_undef, if_true, if_false, decide_true, decide_false, Bool.not_true, Bool.not_false, Bool.false_eq_true, Bool.true_eq_false, Bool.and_true, Bool.true_and, Bool.and_false, Bool.false_and, Bool.or_true, Bool.true_or, Bool.or_false, Bool.false_or, hp, hH2, mayKey_ok, hm, partedN, r1, r2, hl]
    | true =>
      have e : b.leaf = a.leaf := by revert hl; cases a.leaf <;> cases b.leaf <;> simp
      rw [e] at r2 hH2
      simp only [partedN, hm, hl, Bool.true_and]
      rw [e]
      clear hl e hne
      generalize a.leaf = la at *
      have hll : (la == la) = true := by simp
      -- the second part
      have tail :
          (∃ q0, b.keys.length ≠ 0 → (∀ κ (z : Int), z = ((0 : Nat) : Int) → ixSl 1 ks' (.int κ z) = some q0) ∧ Eng.ld1 q0 H2 = some (S (b.keys.getD 0 []))) := by
        by_cases h0 : b.keys.length = 0
        · exact ⟨.nilPtr, fun h => absurd h0 h⟩
        · obtain ⟨q, i1, i2⟩ := q2.at (i := 0) (by omega)
          refine ⟨q, fun _ => ⟨i1, ?_⟩⟩
          rw [getD_lt (by omega)]; exact i2
      obtain ⟨q0, hq0⟩ := tail
      by_cases ha : a.keys.length = 0
      · have ga : ¬ ((0 : Nat) : Int) < ((a.keys.length : Nat) : Int) := by omega
        simp only [ha, decide_true, Bool.true_or, Bool.true_and]
        by_cases hb : b.keys.length = 0
        · have gb : ((b.keys.length : Nat) : Int) = ((0 : Nat) : Int) := by omega
          simp only [hb, decide_true, Bool.true_or]
          simp (disch := first | assumption | omega | (simp only [AH.push_next, AH.put_next]; omega) | (repeat (first | assumption | apply AH.ok.push))) only [f41, ev, lg, wnt_undef, if_true, if_false, decide_true, decide_false, Bool.not_true, Bool.not_false, Bool.false_eq_true, Bool.true_eq_false, Bool.and_true, Bool.true_and, Bool.and_false, Bool.false_and, Bool.or_true, Bool.true_or, Bool.or_false, Bool.false_or, hp, hH2, mayKey_ok, hm, r1, r2, hll, l1, l2, ga, gb]
        · have gb : ¬ ((b.keys.length : Nat) : Int) = ((0 : Nat) : Int) := by omega
          obtain ⟨i1, i2⟩ := hq0 hb
          simp only [hb, decide_false, Bool.false_or]
          cases h1' : ltS sep (b.keys.getD 0 []) <;> cases la <;> simp (disch := first | assumption | omega | (simp only [AH.push_next, AH.put_next]; omega) | (repeat (first | assumption | apply AH.ok.push))) only [f41, ev, lg, wnt_undef, if_true, if_false, decide_true, decide_false, Bool.not_true, Bool.not_false, Bool.false_eq_true, Bool.true_eq_false, Bool.and_true, Bool.true_and, Bool.and_false, Bool.false_and, Bool.or_true, Bool.true_or, Bool.or_false, Bool.false_or, hp, hH2, mayKey_ok, hm, r1, r2, hll, l1, l2, ga, gb, i1, i2, h1']
      · have ga : ((0 : Nat) : Int) < ((a.keys.length : Nat) : Int) := by omega
        obtain ⟨q, j1, j2⟩ := q1.at (i := a.keys.length - 1) (by omega)
        rw [← getD_lt (d := [])] at j2
        have hsub : ((a.keys.length : Nat) : Int) - ((1 : Nat) : Int) = ((a.keys.length - 1 : Nat) : Int) := by omega
        simp only [ha, decide_false, Bool.false_or]
        cases h0' : ltS (a.keys.getD (a.keys.length - 1) []) sep with
        | false => simp (disch := first | assumption | omega | (simp only [AH.push_next, AH.put_next]; omega) | (repeat (first | assumption | apply AH.ok.push))) only [f41, ev, lg, wnt_undef, if_true, if_false, decide_true, decide_false, Bool.not_true, Bool.not_false, Bool.false_eq_true, Bool.true_eq_false, Bool.and_true, Bool.true_and, Bool.and_false, Bool.false_and, Bool.or_true, Bool.true_or, Bool.or_false, Bool.false_or, hp, hH2, mayKey_ok, hm, r1, r2, hll, l1, l2, ga, hsub, j1, j2, h0']
        | true =>
          by_cases hb : b.keys.length = 0
          · have gb : ((b.keys.length : Nat) : Int) = ((0 : Nat) : Int) := by omega
            simp only [hb, decide_true, Bool.true_or]
            simp (disch := first | assumption | omega | (simp only [AH.push_next, AH.put_next]; omega) | (repeat (first | assumption | apply AH.ok.push))) only [f41, ev, lg, wnt_undef, if_true, if_false, decide_true, decide_false, Bool.not_true, Bool.not_false, Bool.false_eq_true, Bool.true_eq_false, Bool.and_true, Bool.true_and, Bool.and_false, Bool.false_and, Bool.or_true, Bool.true_or, Bool.or_false, Bool.false_or, hp, hH2, mayKey_ok, hm, r1, r2, hll, l1, l2, ga, gb, hsub, j1, j2, h0']
          · have gb : ¬ ((b.keys.length : Nat) : Int) = ((0 : Nat) : Int) := by omega
            obtain ⟨i1, i2⟩ := hq0 hb
            simp only [hb, decide_false, Bool.false_or]
            cases h1' : ltS sep (b.keys.getD 0 []) <;> cases la <;> simp (disch := first | assumption | omega | (simp only [AH.push_next, AH.put_next]; omega) | (repeat (first | assumption | apply AH.ok.push))) only [f41, ev, lg, wnt_undef, if_true, if_false, decide_true, decide_false, Bool.not_true, Bool.not_false, Bool.false_eq_true, Bool.true_eq_false, Bool.and_true, Bool.true_and, Bool.and_false, Bool.false_and, Bool.or_true, Bool.true_or, Bool.or_false, Bool.false_or, hp, hH2, mayKey_ok, hm, r1, r2, hll, l1, l2, ga, gb, hsub, j1, j2, h0', i1, i2, h1']
end Go.Eng.Sh
end
section
namespace Go.Eng
/-- A block is laid. -/
theorem box {H : AH} (hk : H.ok) (o : AObj) : ∃ H' A, (∀ (mk : Nat → AV) (K : AV → AH → Rs), bA (some (o, mk)) H K = K (mk A) H') ∧ Prs H H' ∧ H'.h.get A = some o ∧ H.next ≤ A ∧ A < H'.next :=
  ⟨H.push o, H.next, fun mk K => bA_ok hk o mk K, (Stp.refl hk).push o, AH.push_get_eq _ _, Nat.le_refl _, by rw [AH.push_next]; omega⟩
theorem row2 {x y : AV} (e : TypeId) (z : AV) (hx : isCell x = true) (hy : isCell y = true) (hz : isCell z = true) : bldL e 1 2 [z] [(0, x), (1, y)] = some (.cells [x, y] e 1 false, fun A => .slice A 0 2 4) := by
  simp only [bldL, fillA, rep, cellsA_cell hx, cellsA_cell hy]; rfl
theorem row3 {x y w : AV} (e : TypeId) (z : AV) (hx : isCell x = true) (hy : isCell y = true) (hw : isCell w = true) : bldL e 1 3 [z] [(0, x), (1, y), (2, w)] = some (.cells [x, y, w] e 1 false, fun A => .slice A 0 3 6) := by
  simp only [bldL, fillA, rep, cellsA_cell hx, cellsA_cell hy, cellsA_cell hw]; rfl
theorem row1 {x : AV} (e : TypeId) (z : AV) (hx : isCell x = true) : bldL e 1 1 [z] [(0, x)] = some (.cells [x] e 1 false, fun A => .slice A 0 1 2) := by
  simp only [bldL, fillA, rep, cellsA_cell hx]; rfl
theorem Rw.lit {H : AH} {A e : Nat} {l : List AV} {cc : Nat} (hk : H.ok) (h : H.h.get A = some (.cells l e 1 false)) : Rw 1 H (.slice A 0 l.length cc) l.length l :=
  ⟨by simp, .inr (.inr ⟨A, 0, cc, l, e, 1, false, rfl, h, hk.lt h, by simp, by simp⟩)⟩
end Go.Eng
namespace Go.Eng.Sh
open Go.Nd (Ptr sumL cutOk cutA cutB partedN joinN)
theorem agg4 {A : Nat} {H : AH} {l : List AV} {e : TypeId} (h : H.h.get A = some (.cells l e 1 false)) (hl : l.length = 4) : ldN 4 (.ptr A 0) H = some (.agg l) := by
  rw [ldN_get h, subN_some _ _ _ (.inr (by omega)), List.drop_zero, List.take_of_length_le (by omega)]; rfl
/-- The node of nothing. -/
def nd0 : Nd.Node := ⟨false, [], [], []⟩
theorem NodeO.zero (H0 H : AH) : NodeO H0 H (.agg [.bool false, .nilSlice, .nilSlice, .nilSlice]) nd0 :=
  ⟨_, _, _, rfl, Own.nil .., Own.nil .., Own.nil .., fun B hB => by rcases hB with h | h | h <;> exact (Blk.nil.1 h).elim, fun B hB => (Blk.nil.1 hB).elim, fun B hB => (Blk.nil.1 hB).elim⟩
def joinOk (a : Nd.Node) (sep : Str) (b : Nd.Node) : Bool := Nd.shaped ltS a && Nd.shaped ltS b && partedN ltS a sep b
theorem conS2 (D : Dyn) (n : Nat) {H : AH} {A cc : Nat} {x y : AV} {l m : List Str} (hk : H.ok) (hg : H.h.get A = some (.cells [x, y] 25 1 false)) (h1 : Strs H x l) (h2 : Strs H y m) (hb : l.length + m.length ≤ 1000000000) (hn : 100 ≤ n) :
    ∃ w H', f42 D n [.slice A 0 2 cc] H = some (w, H') ∧ Prs H H' ∧ Own 1 9 H' w (l ++ m).length ((l ++ m).map S) ∧ ∀ B, Blk w B → H.next ≤ B := by
  obtain ⟨w, H', e, p, o, f⟩ := catS_ok D n hk (v := .slice A 0 2 cc) (vs := [x, y]) (rs := [(l.length, l.map S), (m.length, m.map S)]) (Rw.lit hk hg) ⟨⟨h1, map_cells _⟩, ⟨h2, map_cells _⟩, trivial⟩ (by simpa [sumN] using hb) (by simp) (by simp; omega)
    (fun B hB => by rw [Blk.slice.1 hB]; exact hk.lt hg) (fun z hz B hB => by
      simp only [List.mem_cons, List.not_mem_nil, or_false] at hz
      rcases hz with rfl | rfl
      · exact Rw.blk h1 hB
      · exact Rw.blk h2 hB)
  exact ⟨w, H', e, p, by simpa [sumN, catN] using o, f⟩
theorem conS3 (D : Dyn) (n : Nat) {H : AH} {A cc : Nat} {x y z : AV} {l m k : List Str} (hk : H.ok) (hg : H.h.get A = some (.cells [x, y, z] 25 1 false)) (h1 : Strs H x l) (h2 : Strs H y m) (h3 : Strs H z k) (hb : l.length + m.length + k.length ≤ 1000000000) (hn : 100 ≤ n) :
    ∃ w H', f42 D n [.slice A 0 3 cc] H = some (w, H') ∧ Prs H H' ∧ Own 1 9 H' w (l ++ (m ++ k)).length ((l ++ (m ++ k)).map S) ∧ ∀ B, Blk w B → H.next ≤ B := by
  obtain ⟨w, H', e, p, o, f⟩ := catS_ok D n hk (v := .slice A 0 3 cc) (vs := [x, y, z]) (rs := [(l.length, l.map S), (m.length, m.map S), (k.length, k.map S)]) (Rw.lit hk hg) ⟨⟨h1, map_cells _⟩, ⟨h2, map_cells _⟩, ⟨h3, map_cells _⟩, trivial⟩ (by simp [sumN]; omega) (by simp) (by simp; omega)
    (fun B hB => by rw [Blk.slice.1 hB]; exact hk.lt hg) (fun z hz B hB => by
      simp only [List.mem_cons, List.not_mem_nil, or_false] at hz
      rcases hz with rfl | rfl | rfl
      · exact Rw.blk h1 hB
      · exact Rw.blk h2 hB
      · exact Rw.blk h3 hB)
  exact ⟨w, H', e, p, by simpa [sumN, catN] using o, f⟩
theorem conP2 (D : Dyn) (n : Nat) {H : AH} {A cc : Nat} {x y : AV} {l m : List Ptr} (hk : H.ok) (hg : H.h.get A = some (.cells [x, y] 26 1 false)) (h1 : Ptrs H x l) (h2 : Ptrs H y m) (hb : l.length + m.length ≤ 1000000000) (hn : 100 ≤ n) :
    ∃ w H', f43 D n [.slice A 0 2 cc] H = some (w, H') ∧ Prs H H' ∧ Own 3 59 H' w (l ++ m).length ((l ++ m).flatMap ptrV) ∧ ∀ B, Blk w B → H.next ≤ B := by
  obtain ⟨w, H', e, p, o, f⟩ := catP_ok D n hk (v := .slice A 0 2 cc) (vs := [x, y]) (rs := [(l.length, l.flatMap ptrV), (m.length, m.flatMap ptrV)]) (Rw.lit hk hg) ⟨⟨h1, flat_cells _⟩, ⟨h2, flat_cells _⟩, trivial⟩ (by simpa [sumN] using hb) (by simp) (by simp; omega)
    (fun B hB => by rw [Blk.slice.1 hB]; exact hk.lt hg) (fun z hz B hB => by
      simp only [List.mem_cons, List.not_mem_nil, or_false] at hz
      rcases hz with rfl | rfl
      · exact Rw.blk h1 hB
      · exact Rw.blk h2 hB)
  exact ⟨w, H', e, p, by simpa [sumN, catN] using o, f⟩
theorem bldN0 : bldS [(0, 1), (1, 1), (2, 1), (3, 1)] [.bool false, .nilSlice, .nilSlice, .nilSlice] [] = some (.agg [.bool false, .nilSlice, .nilSlice, .nilSlice]) := rfl
theorem bldN3 {a b : AV} (x : Bool) (ha : isCell a = true) (hb : isCell b = true) : bldS [(0, 1), (1, 1), (2, 1), (3, 1)] [.bool false, .nilSlice, .nilSlice, .nilSlice] [(0, .bool x), (1, a), (2, b)] = some (.agg [.bool x, a, b, .nilSlice]) := by
  simp only [bldS, fillA, nthP, cellsA_cell ha, cellsA_cell hb]; rfl
theorem bldNi {a b : AV} (ha : isCell a = true) (hb : isCell b = true) : bldS [(0, 1), (1, 1), (2, 1), (3, 1)] [.bool false, .nilSlice, .nilSlice, .nilSlice] [(1, a), (3, b)] = some (.agg [.bool false, a, .nilSlice, b]) := by
  simp only [bldS, fillA, nthP, cellsA_cell ha, cellsA_cell hb]; rfl
theorem join_ok (D : Dyn) (n : Nat) (hn : 200000000 ≤ n) {H : AH} (hk : H.ok) {v w : AV} {a b : Nd.Node} {sep : Str} (h : NodeV H v a) (h' : NodeV H w b) (hs : small a) (hs' : small b) :
    ∃ u H', f20 D n [v, S sep, w] H = some (.tuple [u, .int .i64 ((if joinOk a sep b then 0 else 1 : Nat) : Int)], H') ∧ Prs H H' ∧ NodeO H H' u (if joinOk a sep b then joinN a sep b else nd0) := by
  have i0 := h; have i0' := h'
  obtain ⟨ks, vs, ps, rfl, h1, h2, h3⟩ := h
  obtain ⟨la, hla⟩ : ∃ la, la = a.leaf := ⟨_, rfl⟩
  rw [← hla] at i0 ⊢
  obtain ⟨ks', vs', ps', rfl, k1, k2, k3⟩ := h'
  have hkl := Nd.sumL_ge a.keys
  have hkl' := Nd.sumL_ge b.keys
  have hvl := Nd.sumL_ge a.vals
  have hvl' := Nd.sumL_ge b.vals
  have s0 := hs; have s0' := hs'
  obtain ⟨s1, s2, s3⟩ := hs
  obtain ⟨s1', s2', s3'⟩ := hs'
  obtain ⟨H1, A1, b1, p1, g1, m1, n1⟩ := box hk (.cells [.bool la, ks, vs, ps] 34 1 false)
  obtain ⟨H2, A2, b2, p2, g2, m2, n2⟩ := box p1.ok (.cells [.bool b.leaf, ks', vs', ps'] 34 1 false)
  obtain ⟨H3, A3, b3, p3, g3, m3, n3⟩ := box p2.ok (.cells [.bool false, .nilSlice, .nilSlice, .nilSlice] 34 1 false)
  have P3 : Prs H H3 := (p1.trans p2).trans p3
  have g13 := p3.get p2.ok (p2.get p1.ok g1)
  have g23 := p3.get p2.ok g2
  obtain ⟨H4, e4, p4⟩ := shaped_ok D n P3.ok (i0.prs P3) s0 hn
  have P4 := P3.trans p4
  have g14 := p4.get P3.ok g13; have g24 := p4.get P3.ok g23; have g34 := p4.get P3.ok g3
  have fin : ∀ {Hx : AH} {l : List AV}, Prs H Hx → Hx.h.get A3 = some (.cells [.bool false, .nilSlice, .nilSlice, .nilSlice] 34 1 false) → l.length = 4 → allCells l = true → ∃ Hy, stN 4 (.ptr A3 0) (.agg l) Hx = some (undefA, Hy) ∧ Prs H Hy ∧ Stp (fun B => B = A3) Hx Hy ∧ ldN 4 (.ptr A3 0) Hy = some (.agg l) := fun {Hx l} px hg hl hc => by
    obtain ⟨Hy, e, g, s, _⟩ := st_all px.ok hg hl hc
    have e' : stN 4 (.ptr A3 0) (.agg l) Hx = some (undefA, Hy) := e
    exact ⟨Hy, e', px.fresh s (fun B hB => by omega), s, by rw [ldN_get g, subN_some _ _ _ (.inr (by omega)), List.drop_zero, List.take_of_length_le (by omega)]; rfl⟩
  cases c1 : Nd.shaped ltS a with
  | false =>
    obtain ⟨Hy, ey, py, _, ly⟩ := fin (l := [.bool false, .nilSlice, .nilSlice, .nilSlice]) P4 g34 rfl rfl
    refine ⟨.agg [.bool false, .nilSlice, .nilSlice, .nilSlice], Hy, ?_, py, ?_⟩
    rotate_left
    · simp only [joinOk, c1, Bool.false_and, Bool.false_eq_true, if_false]; exact NodeO.zero _ _
    · simp only [joinOk, c1, Bool.false_and, Bool.false_eq_true, if_false]
      simp (disch := omega) only [f20, ev, lg, wnt_undef, if_true, if_false, decide_true, decide_false, Bool.not_true, Bool.not_false, Bool.false_eq_true, Bool.true_eq_false, Bool.and_true, Bool.true_and, Bool.and_false, Bool.false_and, Bool.or_true, Bool.true_or, Bool.or_false, Bool.false_or, b1, b2, b3, ldN_get g13, sub4, Option.map_some, e4, c1, bldN0, ey, ly]
  | true =>
  obtain ⟨H5, e5, p5⟩ := shaped_ok D n P4.ok (i0'.prs P4) s0' hn
  have P5 := P4.trans p5
  have g15 := p5.get P4.ok g14; have g25 := p5.get P4.ok g24; have g35 := p5.get P4.ok g34
  cases c2 : Nd.shaped ltS b with
  | false =>
    obtain ⟨Hy, ey, py, _, ly⟩ := fin (l := [.bool false, .nilSlice, .nilSlice, .nilSlice]) P5 g35 rfl rfl
    refine ⟨.agg [.bool false, .nilSlice, .nilSlice, .nilSlice], Hy, ?_, py, ?_⟩
    rotate_left
    · simp only [joinOk, c2, Bool.false_and, Bool.and_false, Bool.false_eq_true, if_false]; exact NodeO.zero _ _
    · simp only [joinOk, c2, Bool.false_and, Bool.and_false, Bool.false_eq_true, if_false]
      simp (disch := omega) only [f20, ev, lg, wnt_undef, if_true, if_false, decide_true, decide_false, Bool.not_true, Bool.not_false, Bool.false_eq_true, Bool.true_eq_false, Bool.and_true, Bool.true_and, Bool.and_false, Bool.false_and, Bool.or_true, Bool.true_or, Bool.or_false, Bool.false_or, b1, b2, b3, ldN_get g13, ldN_get g24, sub4, Option.map_some, e4, e5, c1, c2, bldN0, ey, ly]
  | true =>
  obtain ⟨H6, e6, p6⟩ := parted_ok D n P5.ok (sep := sep) (i0.prs P5) (i0'.prs P5) s0 s0'
  have P6 := P5.trans p6
  have g16 := p6.get P5.ok g15; have g26 := p6.get P5.ok g25; have g36 := p6.get P5.ok g35
  cases c3 : partedN ltS a sep b with
  | false =>
    obtain ⟨Hy, ey, py, _, ly⟩ := fin (l := [.bool false, .nilSlice, .nilSlice, .nilSlice]) P6 g36 rfl rfl
    refine ⟨.agg [.bool false, .nilSlice, .nilSlice, .nilSlice], Hy, ?_, py, ?_⟩
    rotate_left
    · simp only [joinOk, c3, Bool.false_and, Bool.and_false, Bool.false_eq_true, if_false]; exact NodeO.zero _ _
    · simp only [joinOk, c3, Bool.false_and, Bool.and_false, Bool.false_eq_true, if_false]
      simp (disch := omega) only [f20, ev, lg, wnt_undef, if_true, if_false, decide_true, decide_false, Bool.not_true, Bool.not_false, Bool.false_eq_true, Bool.true_eq_false, Bool.and_true, Bool.true_and, Bool.and_false, Bool.false_and, Bool.or_true, Bool.true_or, Bool.or_false, Bool.false_or, b1, b2, b3, ldN_get g13, ldN_get g24, ldN_get g15, ldN_get g25, sub4, Option.map_some, e4, e5, e6, c1, c2, c3, bldN0, ey, ly]
  | true =>
  have hj : joinOk a sep b = true := by simp only [joinOk, c1, c2, c3, Bool.and_self]
  simp only [hj, if_true]
  cases la with
  | true =>
    obtain ⟨H7, A7, b7, p7, g7, m7, n7⟩ := box P6.ok (.cells [ks, ks'] 25 1 false)
    have P7 := P6.trans p7
    obtain ⟨H8, A8, b8, p8, g8, m8, n8⟩ := box P7.ok (.cells [vs, vs'] 25 1 false)
    have P8 := P7.trans p8
    obtain ⟨w9, H9, e9, p9, o9, f9⟩ := conS2 D n (cc := 4) P8.ok (p8.get P7.ok g7) (h1.prs P8) (k1.prs P8) (by omega) (by omega)
    have P9 := P8.trans p9
    obtain ⟨w10, H10, e10, p10, o10, f10⟩ := conS2 D n (cc := 4) P9.ok (p9.get P8.ok g8) (h2.prs P9) (k2.prs P9) (by omega) (by omega)
    have P10 := P9.trans p10
    have up {Hx : AH} {o : AObj} {A : Nat} (g : H6.h.get A = some o) (p : Prs H6 Hx) := p.get P6.ok g
    have p69 : Prs H6 H9 := (p7.trans p8).trans p9
    obtain ⟨Hy, ey, py, sy, ly⟩ := fin (l := [.bool true, w9, w10, .nilSlice]) P10 (up g36 (p69.trans p10)) rfl (by simp only [allCells, o9.row.isCell, o10.row.isCell]; rfl)
    have n3' : A3 < H8.next := by have := p4.next; have := p5.next; have := p6.next; have := p7.next; have := p8.next; omega
    have n9 := p9.next
    refine ⟨.agg [.bool true, w9, w10, .nilSlice], Hy, ?_, py, ?_⟩
    rotate_left
    · have : joinN a sep b = ⟨true, a.keys ++ b.keys, a.vals ++ b.vals, []⟩ := by simp only [joinN, ← hla, if_true]
      rw [this]
      refine ⟨w9, w10, .nilSlice, rfl, (o9.mono p10 (fun _ _ x => x)).mono sy (fun B hB e => by have := f9 B hB; omega), o10.mono sy (fun B hB e => by have := f10 B hB; omega), Own.nil .., fun B hB => ?_, fun B hB => ⟨fun h => ?_, fun h => (Blk.nil.1 h).elim⟩, fun B hB h => (Blk.nil.1 h).elim⟩
      · have := P8.next
        rcases hB with h | h | h
        · have := f9 B h; omega
        · have := f10 B h; omega
        · exact (Blk.nil.1 h).elim
      · have := f10 B h; have := Rw.blk o9.row hB; omega
    · simp (disch := omega) only [f20, ev, lg, wnt_undef, if_true, if_false, decide_true, decide_false, Bool.not_true, Bool.not_false, Bool.false_eq_true, Bool.true_eq_false, Bool.and_true, Bool.true_and, Bool.and_false, Bool.false_and, Bool.or_true, Bool.true_or, Bool.or_false, Bool.false_or, b1, b2, b3, ldN_get g13, ldN_get g24, ldN_get g15, ldN_get g25, sub4, Option.map_some, e4, e5, e6, c1, c2, c3, ld1_get g16, ld1_get g26, ld1_get (up g16 p7), ld1_get (up g26 p7), row2 25 .nilSlice h1.isCell k1.isCell rfl, row2 25 .nilSlice h2.isCell k2.isCell rfl, b7, b8, e9,
        chk_ok (ld1_get (up g16 p69) 2) (aveq_row h2), chk_ok (ld1_get (up g26 p69) 2) (aveq_row k2), e10, bldN3 _ o9.row.isCell o10.row.isCell, ey, ly]
  | false =>
    obtain ⟨H7, A7, b7, p7, g7, m7, n7⟩ := box P6.ok (.cells [S sep] 9 1 false)
    have P7 := P6.trans p7
    obtain ⟨H8, A8, b8, p8, g8, m8, n8⟩ := box P7.ok (.cells [ks, .slice A7 0 1 2, ks'] 25 1 false)
    have P8 := P7.trans p8
    obtain ⟨H9, A9, b9, p9, g9, m9, n9⟩ := box P8.ok (.cells [ps, ps'] 26 1 false)
    have P9 := P8.trans p9
    have hsep : Strs H9 (.slice A7 0 1 2) [sep] := Rw.lit (cc := 2) P9.ok (Prs.get (p8.trans p9) P7.ok g7)
    obtain ⟨w10, H10, e10, p10, o10, f10⟩ := conS3 D n (cc := 6) P9.ok (p9.get P8.ok g8) (h1.prs P9) hsep (k1.prs P9) (by simp only [List.length_cons, List.length_nil]; omega) (by omega)
    have P10 := P9.trans p10
    obtain ⟨w11, H11, e11, p11, o11, f11⟩ := conP2 D n (cc := 4) P10.ok (p10.get P9.ok g9) (h3.prs P10) (k3.prs P10) (by omega) (by omega)
    have P11 := P10.trans p11
    have up {Hx : AH} {o : AObj} {A : Nat} (g : H6.h.get A = some o) (p : Prs H6 Hx) := p.get P6.ok g
    have p610 : Prs H6 H10 := ((p7.trans p8).trans p9).trans p10
    obtain ⟨Hy, ey, py, sy, ly⟩ := fin (l := [.bool false, w10, .nilSlice, w11]) P11 (up g36 (p610.trans p11)) rfl (by simp only [allCells, o10.row.isCell, o11.row.isCell]; rfl)
    have n3' : A3 < H9.next := by have := p4.next; have := p5.next; have := p6.next; have := p7.next; have := p8.next; have := p9.next; omega
    have n10 := p10.next
    refine ⟨.agg [.bool false, w10, .nilSlice, w11], Hy, ?_, py, ?_⟩
    rotate_left
    · have : joinN a sep b = ⟨false, a.keys ++ ([sep] ++ b.keys), [], a.kids ++ b.kids⟩ := by simp only [joinN, ← hla, Bool.false_eq_true, if_false]
      rw [this]
      refine ⟨w10, .nilSlice, w11, rfl, (o10.mono p11 (fun _ _ x => x)).mono sy (fun B hB e => by have := f10 B hB; omega), Own.nil .., o11.mono sy (fun B hB e => by have := f11 B hB; omega), fun B hB => ?_, fun B hB => ⟨fun h => (Blk.nil.1 h).elim, fun h => ?_⟩, fun B hB => (Blk.nil.1 hB).elim⟩
      · have := P9.next
        rcases hB with h | h | h
        · have := f10 B h; omega
        · exact (Blk.nil.1 h).elim
        · have := f11 B h; omega
      · have := f11 B h; have := Rw.blk o10.row hB; omega
    · simp (disch := omega) only [f20, ev, lg, wnt_undef, if_true, if_false, decide_true, decide_false, Bool.not_true, Bool.not_false, Bool.false_eq_true, Bool.true_eq_false, Bool.and_true, Bool.true_and, Bool.and_false, Bool.false_and, Bool.or_true, Bool.true_or, Bool.or_false, Bool.false_or, b1, b2, b3, ldN_get g13, ldN_get g24, ldN_get g15, ldN_get g25, sub4, Option.map_some, e4, e5, e6, c1, c2, c3, ld1_get g16, ld1_get g26, ld1_get (up g26 p7), ld1_get (up g16 (p7.trans p8)), ld1_get (up g26 (p7.trans p8)), row1 9 (.str 0 0) (S_cell sep), b7,
        row3 25 .nilSlice h1.isCell (show isCell (.slice A7 0 1 2) = true from rfl) k1.isCell, row2 26 .nilSlice h3.isCell k3.isCell rfl, b8, b9, e10,
        chk_ok (ld1_get (up g16 p610) 3) (aveq_row h3), chk_ok (ld1_get (up g26 p610) 3) (aveq_row k3), e11, bldNi o10.row.isCell o11.row.isCell, ey, ly]
end Go.Eng.Sh
end
section
namespace Go.Nd
theorem cut_parted {lt : Str → Str → Bool} {n : Node} {k : Nat} (h : shaped lt n = true) (hk : cutOk n k) : partedN lt (cutA n k) (n.keys.getD k []) (cutB n k) = true := by
  obtain ⟨b1, b2, b3⟩ := cut_between h hk
  obtain ⟨leaf, keys, vals, kids⟩ := n
  obtain ⟨k1, k2⟩ := hk
  have g : ∀ (l : List Str) i, l.getD i [] = (l[i]?).getD [] := fun l i => by rw [List.getD_eq_getElem?_getD]
  cases leaf with
  | true =>
    simp only [if_true] at k2
    simp only at b1 b2 k2
    have e1 : (keys.take k).getD ((keys.take k).length - 1) [] = keys.getD (k - 1) [] := by
      rw [g, g, List.length_take, Nat.min_eq_left (by omega), List.getElem?_take_of_lt (by omega)]
    have e2 : (keys.drop k).getD 0 [] = keys.getD k [] := by rw [g, g, List.getElem?_drop, Nat.add_zero]
    simp only [partedN, cutA, cutB, if_true, e1, e2, b1, b2, Bool.or_true, Bool.and_true, decide_true, beq_self_eq_true]
  | false =>
    simp only [Bool.false_eq_true, if_false] at k2
    have b3 := b3 rfl
    simp only at b1 b2 b3 k2
    have e1 : (keys.take k).getD ((keys.take k).length - 1) [] = keys.getD (k - 1) [] := by
      rw [g, g, List.length_take, Nat.min_eq_left (by omega), List.getElem?_take_of_lt (by omega)]
    have e2 : (keys.drop (k + 1)).getD 0 [] = keys.getD (k + 1) [] := by rw [g, g, List.getElem?_drop, Nat.add_zero]
    simp only [partedN, cutA, cutB, Bool.false_eq_true, if_false, e1, e2, b1, b2, b3, Bool.or_true, Bool.true_or, Bool.and_true, beq_self_eq_true]
end Go.Nd
namespace Go.Eng.Sh
open Go.Nd (Ptr sumL cutOk cutA cutB)
theorem NodeG.cells {H : AH} {v : AV} {nd : Nd.Node} (h : NodeG H v nd) : ∃ l, v = .agg l ∧ l.length = 4 ∧ allCells l = true := by
  obtain ⟨ks, vs, ps, rfl, h1, h2, h3⟩ := h
  exact ⟨_, rfl, rfl, allCells4 _ _ _ _ h1.row.isCell h2.row.isCell h3.row.isCell⟩
theorem NodeG.zero (H : AH) : NodeG H (.agg [.bool false, .nilSlice, .nilSlice, .nilSlice]) nd0 :=
  ⟨_, _, _, rfl, .inl (Own.nil ..), .inl (Own.nil ..), .inl (Own.nil ..)⟩
theorem cutNo (D : Dyn) (n : Nat) (hn : 200000000 ≤ n) {H : AH} (hk : H.ok) {v : AV} {nd : Nd.Node} (h : NodeV H v nd) (hs : small nd) (hc : ¬ (Nd.shaped ltS nd = true ∧ cuttable nd)) :
    ∃ H', f19 D n [v] H = some (.tuple [.agg [.bool false, .nilSlice, .nilSlice, .nilSlice], S [], .agg [.bool false, .nilSlice, .nilSlice, .nilSlice], .int .i64 ((1 : Nat) : Int)], H') ∧ Prs H H' := by
  have i0 := h
  obtain ⟨ks, vs, ps, rfl, h1, h2, h3⟩ := h
  obtain ⟨la, hla⟩ : ∃ la, la = nd.leaf := ⟨_, rfl⟩
  rw [← hla] at i0 ⊢
  obtain ⟨H1, H2, H3, H4, A1, A2, A4, b1, b2, b3, e4, i3, i4⟩ := cutHead D n hn hk hla.symm i0 hs
  have o1 := i4.o1; have o2 := i4.o2; have o4 := i4.o4; have l4 := i4.lt
  obtain ⟨H5, e5, i5, s5⟩ := i4.all2 (l' := [.bool false, .nilSlice, .nilSlice, .nilSlice]) rfl rfl
  obtain ⟨H6, e6, i6, s6⟩ := i5.all4 (l' := [.bool false, .nilSlice, .nilSlice, .nilSlice]) rfl rfl
  have e5' : stN 4 (.ptr A2 0) (.agg [.bool false, .nilSlice, .nilSlice, .nilSlice]) H4 = some (undefA, H5) := e5
  have e6' : stN 4 (.ptr A4 0) (.agg [.bool false, .nilSlice, .nilSlice, .nilSlice]) H5 = some (undefA, H6) := e6
  have hln := h1.lnSl
  refine ⟨H6, ?_, i6.prs⟩
  have hS : (AV.str 0 0) = S [] := rfl
  cases c1 : Nd.shaped ltS nd with
  | false =>
    simp (config := { maxSteps := 1000000 }) (disch := omega) only [f19, ev, lg, wnt_undef, if_true, if_false, decide_true, decide_false, Bool.not_true, Bool.not_false, Bool.false_eq_true, Bool.true_eq_false, Bool.and_true, Bool.true_and, Bool.and_false, Bool.false_and, Bool.or_true, Bool.true_or, Bool.or_false, Bool.false_or, b1, b2, b3, ldN_get i3.a1, ldN_get i4.a1, sub4, Option.map_some, e4, c1, bldN0, e5', e6', ldN_get i6.a2, ldN_get i6.a4, hS]
  | true =>
    have hc : ¬ cuttable nd := fun hh => hc ⟨c1, hh⟩
    by_cases t2 : nd.keys.length < 2
    · have t2' : ((nd.keys.length : Nat) : Int) < ((2 : Nat) : Int) := by omega
      simp (config := { maxSteps := 1000000 }) (disch := omega) only [f19, ev, lg, wnt_undef, if_true, if_false, decide_true, decide_false, Bool.not_true, Bool.not_false, Bool.false_eq_true, Bool.true_eq_false, Bool.and_true, Bool.true_and, Bool.and_false, Bool.false_and, Bool.or_true, Bool.true_or, Bool.or_false, Bool.false_or, b1, b2, b3, ldN_get i3.a1, ldN_get i4.a1, sub4, Option.map_some, e4, c1, ld1_get i4.a1, hln, t2', bldN0, e5', e6', ldN_get i6.a2, ldN_get i6.a4, hS]
    · have t2' : ¬ ((nd.keys.length : Nat) : Int) < ((2 : Nat) : Int) := by omega
      have hf : la = false := by
        cases la with
        | false => rfl
        | true => exact absurd ⟨by omega, .inl hla.symm⟩ hc
      have t3 : nd.keys.length < 3 := by
        rcases Nat.lt_or_ge nd.keys.length 3 with h | h
        · exact h
        · exact absurd ⟨by omega, .inr h⟩ hc
      have t3' : ((nd.keys.length : Nat) : Int) < ((3 : Nat) : Int) := by omega
      subst hf
      simp (config := { maxSteps := 1000000 }) (disch := omega) only [f19, ev, lg, wnt_undef, if_true, if_false, decide_true, decide_false, Bool.not_true, Bool.not_false, Bool.false_eq_true, Bool.true_eq_false, Bool.and_true, Bool.true_and, Bool.and_false, Bool.false_and, Bool.or_true, Bool.true_or, Bool.or_false, Bool.false_or, b1, b2, b3, ldN_get i3.a1, ldN_get i4.a1, sub4, Option.map_some, e4, c1, ld1_get i4.a1, hln, t2', t3', bldN0, e5', e6', ldN_get i6.a2, ldN_get i6.a4, hS]
theorem cut_ok (D : Dyn) (n : Nat) (hn : 200000000 ≤ n) {H : AH} (hk : H.ok) {v : AV} {nd : Nd.Node} (h : NodeG H v nd) (hs : small nd) :
    ∃ va sep vb e H', f19 D n [v] H = some (.tuple [va, S sep, vb, .int .i64 ((e : Nat) : Int)], H') ∧ Prs H H' ∧
      ((e = 0 ∧ ∃ k, Nd.shaped ltS nd = true ∧ cutOk nd k ∧ sep = nd.keys.getD k [] ∧ NodeG H' va (cutA nd k) ∧ NodeG H' vb (cutB nd k)) ∨
       (e = 1 ∧ sep = [] ∧ ¬ (Nd.shaped ltS nd = true ∧ cuttable nd) ∧ va = .agg [.bool false, .nilSlice, .nilSlice, .nilSlice] ∧ vb = .agg [.bool false, .nilSlice, .nilSlice, .nilSlice])) := by
  by_cases hc : Nd.shaped ltS nd = true ∧ cuttable nd
  · cases hl : nd.leaf with
    | true =>
      obtain ⟨k, va, vb, H', e, p, ga, gb, ok⟩ := cutLeaf D n hn hk h hs hc.1 hc.2 hl
      exact ⟨va, _, vb, 0, H', e, p, .inl ⟨rfl, k, hc.1, ok, rfl, ga, gb⟩⟩
    | false =>
      obtain ⟨k, va, vb, H', e, p, ga, gb, ok⟩ := cutInner D n hn hk h hs hc.1 hc.2 hl
      exact ⟨va, _, vb, 0, H', e, p, .inl ⟨rfl, k, hc.1, ok, rfl, ga, gb⟩⟩
  · obtain ⟨H', e, p⟩ := cutNo D n hn hk h.node hs hc
    exact ⟨_, [], _, 1, H', e, p, .inr ⟨rfl, rfl, hc, rfl, rfl⟩⟩
end Go.Eng.Sh
end
section
namespace Go.Nd
open Go.Eng (ltS ltS_irrefl ltS_trans ltS_tri ltS_asymm ltS_ne)
abbrev Kvs := List (Str × Str)
def lookP (k : Str) : Kvs → Option Str
  | [] => none
  | (a, b) :: l => if a = k then some b else lookP k l
def putP (k v : Str) : Kvs → Kvs
  | [] => [(k, v)]
  | (a, b) :: l => if a = k then (k, v) :: l else if ltS a k then (a, b) :: putP k v l else (k, v) :: (a, b) :: l
def delP (k : Str) : Kvs → Kvs
  | [] => []
  | (a, b) :: l => if a = k then l else (a, b) :: delP k l
/-- Keys rise. -/
def Srt : Kvs → Prop
  | [] => True
  | (a, _) :: l => (∀ p ∈ l, ltS a p.1 = true) ∧ Srt l
theorem rising_cons {a : Str} {l : List Str} : rising ltS (a :: l) = true ↔ (∀ x ∈ l, ltS a x = true) ∧ rising ltS l = true := by
  induction l generalizing a with
  | nil => simp [rising]
  | cons b l ih =>
    rw [rising, Bool.and_eq_true]
    constructor
    · rintro ⟨h1, h2⟩
      refine ⟨fun x hx => ?_, h2⟩
      rcases List.mem_cons.1 hx with rfl | hx
      · exact h1
      · exact ltS_trans h1 ((ih.1 h2).1 x hx)
    · rintro ⟨h1, h2⟩
      exact ⟨h1 b (List.mem_cons_self ..), h2⟩
theorem srt_rising : ∀ l : Kvs, Srt l ↔ rising ltS (l.map Prod.fst) = true
  | [] => by simp [Srt, rising]
  | (a, b) :: l => by
    rw [List.map_cons, rising_cons, Srt, srt_rising l]
    simp only [List.mem_map, forall_exists_index, and_imp]
    constructor
    · rintro ⟨h1, h2⟩; exact ⟨fun x p hp e => e ▸ h1 p hp, h2⟩
    · rintro ⟨h1, h2⟩; exact ⟨fun p hp => h1 _ p hp rfl, h2⟩
theorem look_none {k : Str} : ∀ {l : Kvs}, (∀ p ∈ l, p.1 ≠ k) → lookP k l = none
  | [], _ => rfl
  | (a, b) :: l, h => by
    rw [lookP, if_neg (h (a, b) (List.mem_cons_self ..))]
    exact look_none fun p hp => h p (List.mem_cons_of_mem _ hp)
theorem look_put (k v x : Str) : ∀ l : Kvs, lookP x (putP k v l) = if x = k then some v else lookP x l
  | [] => by
    simp only [putP, lookP]
    by_cases h : x = k
    · rw [if_pos h.symm, if_pos h]
    · rw [if_neg (fun e => h e.symm), if_neg h]
  | (a, b) :: l => by
    have ih := look_put k v x l
    simp only [putP]
    split
    · rename_i e
      subst e
      simp only [lookP]
      by_cases h : x = a
      · rw [if_pos h.symm, if_pos h]
      · rw [if_neg (fun e => h e.symm), if_neg h, if_neg (fun e => h e.symm)]
    · rename_i hak
      split
      · simp only [lookP, ih]
        by_cases h : x = k
        · subst h; rw [if_neg hak, if_pos rfl, if_pos rfl]
        · rw [if_neg h, if_neg h]
      · simp only [lookP]
        by_cases h : x = k
        · rw [if_pos h.symm, if_pos h]
        · rw [if_neg (fun e => h e.symm), if_neg h]
theorem mem_put {k v : Str} {p : Str × Str} : ∀ {l : Kvs}, p ∈ putP k v l → p = (k, v) ∨ p ∈ l
  | [], h => by simpa [putP] using h
  | (a, b) :: l, h => by
    simp only [putP] at h
    split at h
    · rcases List.mem_cons.1 h with h | h
      · exact .inl h
      · exact .inr (List.mem_cons_of_mem _ h)
    · split at h
      · rcases List.mem_cons.1 h with h | h
        · exact .inr (h ▸ List.mem_cons_self ..)
        · rcases mem_put h with h | h
          · exact .inl h
          · exact .inr (List.mem_cons_of_mem _ h)
      · rcases List.mem_cons.1 h with h | h
        · exact .inl h
        · exact .inr h
theorem srt_put (k v : Str) : ∀ {l : Kvs}, Srt l → Srt (putP k v l)
  | [], _ => ⟨by simp, trivial⟩
  | (a, b) :: l, h => by
    simp only [putP]
    split
    · rename_i e; subst e; exact h
    · rename_i hak
      split
      · rename_i hlt
        refine ⟨fun p hp => ?_, srt_put k v h.2⟩
        rcases mem_put hp with rfl | hp
        · exact hlt
        · exact h.1 p hp
      · rename_i hlt
        have hka : ltS k a = true := by
          cases hk : ltS k a with
          | true => rfl
          | false => exact absurd (ltS_tri (by simpa using hlt) hk) hak
        refine ⟨fun p hp => ?_, h⟩
        rcases List.mem_cons.1 hp with rfl | hp
        · exact hka
        · exact ltS_trans hka (h.1 p hp)
theorem mem_del {k : Str} {p : Str × Str} : ∀ {l : Kvs}, p ∈ delP k l → p ∈ l
  | [], h => h
  | (a, b) :: l, h => by
    simp only [delP] at h
    split at h
    · exact List.mem_cons_of_mem _ h
    · rcases List.mem_cons.1 h with h | h
      · exact h ▸ List.mem_cons_self ..
      · exact List.mem_cons_of_mem _ (mem_del h)
theorem srt_del (k : Str) : ∀ {l : Kvs}, Srt l → Srt (delP k l)
  | [], _ => trivial
  | (a, b) :: l, h => by
    simp only [delP]
    split
    · exact h.2
    · exact ⟨fun p hp => h.1 p (mem_del hp), srt_del k h.2⟩
theorem look_del (k x : Str) : ∀ {l : Kvs}, Srt l → lookP x (delP k l) = if x = k then none else lookP x l
  | [], _ => by simp [delP, lookP]
  | (a, b) :: l, h => by
    have ih := look_del k x h.2
    simp only [delP]
    split
    · rename_i e; subst e
      by_cases hx : x = a
      · rw [if_pos hx, look_none]; intro p hp e; subst hx; exact ltS_ne (h.1 p hp) e.symm
      · rw [if_neg hx, lookP, if_neg (fun e => hx e.symm)]
    · rename_i hak
      simp only [lookP, ih]
      by_cases hx : x = k
      · subst hx; rw [if_neg hak, if_pos rfl, if_pos rfl]
      · rw [if_neg hx, if_neg hx]
theorem len_put (k v : Str) : ∀ {l : Kvs}, Srt l → (putP k v l).length = if (lookP k l).isSome then l.length else l.length + 1
  | [], _ => rfl
  | (a, b) :: l, h => by
    have ih := len_put k v h.2
    simp only [putP, lookP]
    split
    · simp
    · rename_i hak
      split
      · simp only [List.length_cons, ih]; split <;> omega
      · rename_i hlt
        have : lookP k l = none := look_none fun p hp e => hlt (by
          have := h.1 p hp; rw [e] at this; exact this)
        rw [this]; rfl
theorem len_del (k : Str) : ∀ (l : Kvs), (delP k l).length = if (lookP k l).isSome then l.length - 1 else l.length
  | [] => rfl
  | (a, b) :: l => by
    have ih := len_del k l
    simp only [delP, lookP]
    split
    · simp
    · simp only [List.length_cons, ih]
      split
      · rename_i hs
        have : 0 < l.length := by cases l with | nil => simp [lookP] at hs | cons => simp
        omega
      · rfl
/-- Where a key stands, or would stand. -/
def whereN (n : Node) (key : Str) : Nat := (n.keys.filter fun k => ltS k key || (!n.leaf && decide (k = key))).length
theorem whereN_le (n : Node) (key : Str) : whereN n key ≤ n.keys.length := List.length_filter_le _ _
def leafOf (l : Kvs) : Node := ⟨true, l.map Prod.fst, l.map Prod.snd, []⟩
theorem where_cons {a b key : Str} {l : Kvs} (h : Srt ((a, b) :: l)) : whereN (leafOf ((a, b) :: l)) key = if ltS a key then whereN (leafOf l) key + 1 else 0 := by
  simp only [whereN, leafOf, List.map_cons, Bool.not_true, Bool.false_and, Bool.or_false]
  cases hl : ltS a key with
  | true => simp [hl]
  | false =>
    rw [List.filter_cons, hl]
    simp only [Bool.false_eq_true, if_false]
    rw [List.length_eq_zero_iff, List.filter_eq_nil_iff]
    intro x hx hlt
    obtain ⟨p, hp, rfl⟩ := List.mem_map.1 hx
    have := ltS_trans (h.1 p hp) hlt
    rw [hl] at this; cases this
/-- Is the key there? -/
def hereN (n : Node) (key : Str) : Bool := decide (whereN n key < n.keys.length) && decide (n.keys.getD (whereN n key) [] = key)
theorem here_look (key : Str) : ∀ {l : Kvs}, Srt l → hereN (leafOf l) key = (lookP key l).isSome
  | [], _ => by simp [hereN, leafOf, lookP]
  | (a, b) :: l, h => by
    have ih := here_look key h.2
    have e1 : (leafOf ((a, b) :: l)).keys = a :: (leafOf l).keys := rfl
    simp only [hereN, where_cons h, lookP, e1] at ih ⊢
    cases hl : ltS a key with
    | true =>
      have hne : a ≠ key := ltS_ne hl
      simp only [if_true, if_neg hne, List.length_cons, Nat.add_lt_add_iff_right, List.getD_cons_succ]
      exact ih
    | false =>
      simp only [Bool.false_eq_true, if_false, List.length_cons, List.getD_cons_zero, Nat.zero_lt_succ, decide_true, Bool.true_and]
      by_cases e : a = key
      · simp [e]
      · rw [if_neg e, look_none]
        · simp [e]
        · intro p hp e2
          have := h.1 p hp; rw [e2, hl] at this; cases this
def putN (n : Node) (key value : Str) : Node :=
  if hereN n key then ⟨true, n.keys, n.vals.set (whereN n key) value, []⟩
  else ⟨true, n.keys.take (whereN n key) ++ [key] ++ n.keys.drop (whereN n key), n.vals.take (whereN n key) ++ [value] ++ n.vals.drop (whereN n key), []⟩
def delN (n : Node) (key : Str) : Node := ⟨true, n.keys.take (whereN n key) ++ n.keys.drop (whereN n key + 1), n.vals.take (whereN n key) ++ n.vals.drop (whereN n key + 1), []⟩
theorem put_leaf (key value : Str) : ∀ {l : Kvs}, Srt l → putN (leafOf l) key value = leafOf (putP key value l)
  | [], _ => by simp [putN, hereN, leafOf, putP, whereN]
  | (a, b) :: l, h => by
    have ih := put_leaf key value h.2
    have hh := here_look key h
    have hh' := here_look key h.2
    simp only [putN, hh, hh', where_cons h, lookP, putP] at ih ⊢
    by_cases e : a = key
    · subst e
      simp [ltS_irrefl, leafOf]
    · rw [if_neg e, if_neg e]
      cases hl : ltS a key with
      | true =>
        simp only [if_true]
        have g : ∀ (q : Kvs), leafOf ((a, b) :: q) = ⟨true, a :: (leafOf q).keys, b :: (leafOf q).vals, []⟩ := fun q => rfl
        rw [g (putP key value l), ← ih, g l]
        split
        · simp
        · simp
      | false =>
        have : lookP key l = none := look_none fun p hp e2 => by have := h.1 p hp; rw [e2, hl] at this; cases this
        rw [this]
        simp [leafOf]
theorem del_leaf (key : Str) : ∀ {l : Kvs}, Srt l → hereN (leafOf l) key = true → delN (leafOf l) key = leafOf (delP key l)
  | [], _, h => by simp [hereN, leafOf] at h
  | (a, b) :: l, h, hr => by
    have hh := here_look key h
    have hh' := here_look key h.2
    rw [hh] at hr
    simp only [delN, where_cons h, delP]
    by_cases e : a = key
    · subst e
      simp [ltS_irrefl, leafOf]
    · simp only [lookP, if_neg e] at hr
      rw [if_neg e]
      have hl : ltS a key = true := by
        cases hl : ltS a key with
        | true => rfl
        | false =>
          have : lookP key l = none := look_none fun p hp e2 => by have := h.1 p hp; rw [e2, hl] at this; cases this
          rw [this] at hr; cases hr
      have ih := del_leaf key h.2 (hh'.trans hr)
      simp only [hl, if_true]
      have g : ∀ (q : Kvs), leafOf ((a, b) :: q) = ⟨true, a :: (leafOf q).keys, b :: (leafOf q).vals, []⟩ := fun q => rfl
      rw [g (delP key l), ← ih, g l]
      simp [delN]
/-- The value of a key: the first one that stands by it. -/
def getN (n : Node) (key : Str) : Option Str := if n.leaf then lookP key (n.keys.zip n.vals) else none
theorem leafOf_zip {n : Node} (hl : n.leaf = true) (hv : n.vals.length = n.keys.length) (hp : n.kids = []) : n = leafOf (n.keys.zip n.vals) := by
  obtain ⟨leaf, keys, vals, kids⟩ := n
  simp only at hl hv hp
  subst hl; subst hp
  simp only [leafOf, Node.mk.injEq, true_and, and_true]
  constructor
  · rw [List.map_fst_zip (by omega)]
  · rw [List.map_snd_zip (by omega)]
theorem get_leaf (key : Str) (l : Kvs) : getN (leafOf l) key = lookP key l := by
  simp only [getN, leafOf, if_true]
  congr 1
  induction l with
  | nil => rfl
  | cons p l ih => simp [ih]
/-- A shaped leaf is one of pairs. -/
theorem shaped_leaf {n : Node} (h : shaped ltS n = true) (hl : n.leaf = true) : ∃ l : Kvs, n = leafOf l ∧ Srt l := by
  simp only [shaped, hl, if_true, Bool.and_eq_true, decide_eq_true_eq] at h
  have e := leafOf_zip hl h.2.1.1 h.2.1.2
  refine ⟨_, e, ?_⟩
  rw [srt_rising]
  have h2 := h.1.2
  rw [e] at h2; exact h2
theorem leaf_shaped {l : Kvs} (h : Srt l) (h1 : ∀ p ∈ l, mayK p.1 = true ∧ p.2.length ≤ 200) : shaped ltS (leafOf l) = true := by
  simp only [shaped, leafOf, if_true, Bool.and_eq_true, decide_eq_true_eq, List.all_eq_true, List.mem_map, forall_exists_index, and_imp, List.length_map, true_and]
  exact ⟨⟨fun x p hp e => e ▸ (h1 p hp).1, (srt_rising l).1 h⟩, fun x p hp e => e ▸ (h1 p hp).2⟩
theorem shaped_pairs {l : Kvs} (h : shaped ltS (leafOf l) = true) : Srt l ∧ ∀ p ∈ l, mayK p.1 = true ∧ p.2.length ≤ 200 := by
  simp only [shaped, leafOf, if_true, Bool.and_eq_true, decide_eq_true_eq, List.all_eq_true, List.mem_map, forall_exists_index, and_imp, List.length_map, true_and] at h
  exact ⟨(srt_rising l).2 h.1.2, fun p hp => ⟨h.1.1 _ p hp rfl, h.2 _ p hp rfl⟩⟩
end Go.Nd
end
section
namespace Go.Nd
theorem look_zip {key : Str} : ∀ {ks vs : List Str} {i : Nat}, (∀ j, j < i → ks.getD j [] ≠ key) → i < ks.length → ks.getD i [] = key → lookP key (ks.zip vs) = vs[i]?
  | [], _, _, _, h, _ => by simp at h
  | k :: ks, [], i, _, _, _ => by simp [lookP]
  | k :: ks, v :: vs, 0, _, _, h => by simp at h; simp [lookP, h]
  | k :: ks, v :: vs, i + 1, h0, h1, h2 => by
    have h00 : k ≠ key := by simpa using h0 0 (by omega)
    have ih := look_zip (key := key) (ks := ks) (vs := vs) (i := i) (fun j hj => by simpa using h0 (j + 1) (by omega)) (by simpa using h1) (by simpa using h2)
    simp only [List.zip_cons_cons, lookP, if_neg h00, List.getElem?_cons_succ, ih]
theorem look_zip0 {key : Str} : ∀ {ks vs : List Str}, (∀ j, j < ks.length → ks.getD j [] ≠ key) → lookP key (ks.zip vs) = none
  | [], _, _ => by simp [lookP]
  | k :: ks, [], _ => by simp [lookP]
  | k :: ks, v :: vs, h0 => by
    have h00 : k ≠ key := by simpa using h0 0 (by simp)
    have ih := look_zip0 (key := key) (ks := ks) (vs := vs) (fun j hj => by simpa using h0 (j + 1) (by simp; omega))
    simp only [List.zip_cons_cons, lookP, if_neg h00, ih]
end Go.Nd
namespace Go.Eng.Sh
open Go.Nd (Ptr sumL cutOk cutA cutB whereN getN lookP)
theorem filter_take {f : Str → Bool} (l : List Str) {i : Nat} (h : i < l.length) : ((l.take (i + 1)).filter f).length = ((l.take i).filter f).length + if f (l.getD i []) then 1 else 0 := by
  rw [List.take_succ_eq_append_getElem h, List.filter_append, List.length_append, getD_lt h]
  congr 1
  cases hf : f l[i] <;> simp [hf]
theorem where_ok (D : Dyn) (n : Nat) (hn : 200000000 ≤ n) {H : AH} (hk : H.ok) {v : AV} {nd : Nd.Node} {key : Str} (h : NodeV H v nd) (hs : small nd) :
    ∃ H', f29 D n [v, S key] H = some (.int .i64 (whereN nd key : Nat), H') ∧ Prs H H' := by
  obtain ⟨ks, vs, ps, rfl, h1, h2, h3⟩ := h
  obtain ⟨la, hla⟩ : ∃ la, la = nd.leaf := ⟨_, rfl⟩
  rw [← hla]
  have hkl := Nd.sumL_ge nd.keys
  obtain ⟨s1, s2, s3⟩ := hs
  obtain ⟨H1, A1, b1, p1, g1, m1, n1⟩ := box hk (.cells [.bool la, ks, vs, ps] 34 1 false)
  have r1 := h1.prs p1
  have lp : loopK n (f29l1 D n) [S key, .ptr A1 0, .int .i64 ((0 : Nat) : Int), ks, .int .i64 (nd.keys.length : Nat), .int .i64 ((0 : Nat) : Int)] H1 = some (.exit 0 [.int .i64 (whereN nd key : Nat)], H1) := by
    refine loop_for (fun i => [S key, .ptr A1 0, .int .i64 ((((nd.keys.take i).filter fun k => ltS k key || (!nd.leaf && decide (k = key))).length : Nat) : Int), ks, .int .i64 (nd.keys.length : Nat), .int .i64 (i : Nat)]) nd.keys.length ?_ ?_ n (by omega)
    · intro i hi
      obtain ⟨p, i1, i2⟩ := r1.at hi
      rw [← getD_lt (d := [])] at i2
      have hiI : ((i : Nat) : Int) < ((nd.keys.length : Nat) : Int) := by omega
      rw [filter_take nd.keys hi, ← hla]
      have hle : ((nd.keys.take i).filter fun k => ltS k key || (!la && decide (k = key))).length ≤ nd.keys.length := Nat.le_trans (List.length_filter_le _ _) (by rw [List.length_take]; omega)
      generalize ((nd.keys.take i).filter fun k => ltS k key || (!la && decide (k = key))).length = c at hle
      generalize nd.keys.getD i [] = x at i2
      cases hx : ltS x key with
      | true => simp (disch := omega) only [f29l1, f29j0, ev, lg, wnt_undef, if_true, if_false, decide_true, decide_false, Bool.not_true, Bool.not_false, Bool.false_eq_true, Bool.true_eq_false, Bool.and_true, Bool.true_and, Bool.and_false, Bool.false_and, Bool.or_true, Bool.true_or, Bool.or_false, Bool.false_or, hiI, i1, i2, hx, Int.natCast_add]
      | false =>
        cases la with
        | true => simp (disch := omega) only [f29l1, f29j0, ev, lg, wnt_undef, if_true, if_false, decide_true, decide_false, Bool.not_true, Bool.not_false, Bool.false_eq_true, Bool.true_eq_false, Bool.and_true, Bool.true_and, Bool.and_false, Bool.false_and, Bool.or_true, Bool.true_or, Bool.or_false, Bool.false_or, hiI, i1, i2, hx, ld1_get g1, Int.natCast_add, Nat.add_zero]
        | false =>
          by_cases he : x = key
          · subst he
            simp (disch := omega) only [f29l1, f29j0, ev, lg, wnt_undef, if_true, if_false, decide_true, decide_false, Bool.not_true, Bool.not_false, Bool.false_eq_true, Bool.true_eq_false, Bool.and_true, Bool.true_and, Bool.and_false, Bool.false_and, Bool.or_true, Bool.true_or, Bool.or_false, Bool.false_or, hiI, i1, i2, hx, ld1_get g1, Int.natCast_add]
          · simp (disch := omega) only [f29l1, f29j0, ev, lg, wnt_undef, if_true, if_false, decide_true, decide_false, Bool.not_true, Bool.not_false, Bool.false_eq_true, Bool.true_eq_false, Bool.and_true, Bool.true_and, Bool.and_false, Bool.false_and, Bool.or_true, Bool.true_or, Bool.or_false, Bool.false_or, hiI, i1, i2, hx, ld1_get g1, he, Int.natCast_add, Nat.add_zero]
    · intro m
      refine loop_exit ?_
      rw [List.take_length]
      simp only [f29l1, ev, lg, wnt_undef, if_true, if_false, decide_true, decide_false, Bool.not_true, Bool.not_false, Bool.false_eq_true, Bool.true_eq_false, Bool.and_true, Bool.true_and, Bool.and_false, Bool.false_and, Bool.or_true, Bool.true_or, Bool.or_false, Bool.false_or, Int.lt_irrefl, whereN]
  refine ⟨H1, ?_, p1⟩
  simp only [f29, ev, lg, wnt_undef, if_true, if_false, decide_true, decide_false, Bool.not_true, Bool.not_false, Bool.false_eq_true, Bool.true_eq_false, Bool.and_true, Bool.true_and, Bool.and_false, Bool.false_and, Bool.or_true, Bool.true_or, Bool.or_false, Bool.false_or, b1, ld1_get g1, h1.lnSl, lp, f29b2]
theorem index_ok (D : Dyn) (n : Nat) {H : AH} {v : AV} {l : List Str} {key : Str} (h : Strs H v l) (hl : l.length ≤ 1000000000) (hn : l.length < n) :
    ∃ z : Int, f46 D n [v, S key] H = some (.int .i64 z, H) ∧ ((∃ i : Nat, z = i ∧ i < l.length ∧ l.getD i [] = key ∧ ∀ j, j < i → l.getD j [] ≠ key) ∨ (z = -1 ∧ ∀ j, j < l.length → l.getD j [] ≠ key)) := by
  have lp : Fin (loopK n (f46l0 D n) [v, S key, .int .i64 (l.length : Nat), .int .i64 ((0 : Nat) : Int)] H) fun x H' => H' = H ∧ ((∃ i : Nat, x = .ret (.int .i64 (i : Nat)) ∧ i < l.length ∧ l.getD i [] = key ∧ ∀ j, j < i → l.getD j [] ≠ key) ∨ (x = .exit 0 [] ∧ ∀ j, j < l.length → l.getD j [] ≠ key)) := by
    refine Fin.loop (fun k us H' => H' = H ∧ ∃ i : Nat, us = [v, S key, .int .i64 (l.length : Nat), .int .i64 (i : Nat)] ∧ i ≤ l.length ∧ k = l.length - i ∧ ∀ j, j < i → l.getD j [] ≠ key) ?_ n l.length _ H ⟨rfl, 0, rfl, by omega, by omega, fun j hj => by omega⟩ (by omega)
    rintro k us H' ⟨rfl, i, rfl, hi, rfl, hj⟩
    by_cases hlt : i < l.length
    · obtain ⟨p, i1, i2⟩ := h.at hlt
      rw [← getD_lt (d := [])] at i2
      have hiI : ((i : Nat) : Int) < ((l.length : Nat) : Int) := by omega
      by_cases he : l.getD i [] = key
      · rw [he] at i2
        have e : f46l0 D n [v, S key, .int .i64 (l.length : Nat), .int .i64 (i : Nat)] H' = some (.ret (.int .i64 (i : Nat)), H') := by
          simp (disch := omega) only [f46l0, ev, lg, wnt_undef, if_true, if_false, decide_true, decide_false, Bool.not_true, Bool.not_false, Bool.false_eq_true, Bool.true_eq_false, Bool.and_true, Bool.true_and, Bool.and_false, Bool.false_and, Bool.or_true, Bool.true_or, Bool.or_false, Bool.false_or, hiI, i1, i2]
        rw [e]
        exact ⟨_, _, rfl, rfl, .inl ⟨i, rfl, hlt, he, hj⟩⟩
      · have he' : ¬ key = l.getD i [] := fun e => he e.symm
        have e : f46l0 D n [v, S key, .int .i64 (l.length : Nat), .int .i64 (i : Nat)] H' = some (.norm [v, S key, .int .i64 (l.length : Nat), .int .i64 ((i + 1 : Nat) : Int)], H') := by
          simp (disch := omega) only [f46l0, ev, lg, wnt_undef, if_true, if_false, decide_true, decide_false, Bool.not_true, Bool.not_false, Bool.false_eq_true, Bool.true_eq_false, Bool.and_true, Bool.true_and, Bool.and_false, Bool.false_and, Bool.or_true, Bool.true_or, Bool.or_false, Bool.false_or, hiI, i1, i2, he', Int.natCast_add]
        rw [e]
        refine ⟨_, _, rfl, l.length - (i + 1), by omega, rfl, i + 1, rfl, by omega, rfl, fun j hj' => ?_⟩
        rcases Nat.lt_succ_iff_lt_or_eq.1 hj' with h | rfl
        · exact hj j h
        · exact he
    · have hiI : ¬ ((i : Nat) : Int) < ((l.length : Nat) : Int) := by omega
      refine ⟨.exit 0 [], H', ?_, rfl, .inr ⟨rfl, fun j hj' => hj j (by omega)⟩⟩
      simp only [f46l0, ev, lg, wnt_undef, if_true, if_false, decide_true, decide_false, Bool.not_true, Bool.not_false, Bool.false_eq_true, Bool.true_eq_false, Bool.and_true, Bool.true_and, Bool.and_false, Bool.false_and, Bool.or_true, Bool.true_or, Bool.or_false, Bool.false_or, hiI]
  obtain ⟨x, H', e, rfl, hx⟩ := lp
  rcases hx with ⟨i, rfl, h1, h2, h3⟩ | ⟨rfl, h1⟩
  · refine ⟨i, ?_, .inl ⟨i, rfl, h1, h2, h3⟩⟩
    simp only [f46, ev, lg, wnt_undef, if_true, if_false, decide_true, decide_false, Bool.not_true, Bool.not_false, Bool.false_eq_true, Bool.true_eq_false, Bool.and_true, Bool.true_and, Bool.and_false, Bool.false_and, Bool.or_true, Bool.true_or, Bool.or_false, Bool.false_or, h.lnSl, e]
  · refine ⟨-1, ?_, .inr ⟨rfl, h1⟩⟩
    simp only [f46, ev, lg, wnt_undef, if_true, if_false, decide_true, decide_false, Bool.not_true, Bool.not_false, Bool.false_eq_true, Bool.true_eq_false, Bool.and_true, Bool.true_and, Bool.and_false, Bool.false_and, Bool.or_true, Bool.true_or, Bool.or_false, Bool.false_or, h.lnSl, e, f46b1]
    rfl
theorem getNd_ok (D : Dyn) (n : Nat) (hn : 200000000 ≤ n) {H : AH} (hk : H.ok) {v : AV} {nd : Nd.Node} {key : Str} (h : NodeV H v nd) (hs : small nd) :
    ∃ H', f23 D n [v, S key] H = some (.tuple [S ((getN nd key).getD []), .bool (getN nd key).isSome], H') ∧ Prs H H' := by
  obtain ⟨ks, vs, ps, rfl, h1, h2, h3⟩ := h
  obtain ⟨la, hla⟩ : ∃ la, la = nd.leaf := ⟨_, rfl⟩
  simp only [getN]
  rw [← hla]
  have hkl := Nd.sumL_ge nd.keys
  have hvl := Nd.sumL_ge nd.vals
  obtain ⟨s1, s2, s3⟩ := hs
  obtain ⟨H1, A1, b1, p1, g1, m1, n1⟩ := box hk (.cells [.bool la, ks, vs, ps] 34 1 false)
  have hS : (AV.str 0 0) = S [] := rfl
  refine ⟨H1, ?_, p1⟩
  cases la with
  | false => simp only [f23, ev, lg, wnt_undef, if_true, if_false, decide_true, decide_false, Bool.not_true, Bool.not_false, Bool.false_eq_true, Bool.true_eq_false, Bool.and_true, Bool.true_and, Bool.and_false, Bool.false_and, Bool.or_true, Bool.true_or, Bool.or_false, Bool.false_or, b1, ld1_get g1, hS, Option.getD_none, Option.isSome_none]
  | true =>
    obtain ⟨z, e1, hz⟩ := index_ok D n (key := key) (h1.prs p1) (by omega) (by omega)
    rcases hz with ⟨i, rfl, hi, he, hj⟩ | ⟨rfl, hj⟩
    · have hlk := Nd.look_zip (vs := nd.vals) hj hi he
      have c1 : ¬ ((i : Nat) : Int) < ((0 : Nat) : Int) := by omega
      by_cases hv : i < nd.vals.length
      · obtain ⟨p, i1, i2⟩ := (h2.prs p1).at hv
        have c2 : ¬ ((nd.vals.length : Nat) : Int) ≤ ((i : Nat) : Int) := by omega
        rw [List.getElem?_eq_getElem hv] at hlk
        simp only [hlk, if_true]
        simp (disch := omega) only [f23, ev, lg, wnt_undef, if_true, if_false, decide_true, decide_false, Bool.not_true, Bool.not_false, Bool.false_eq_true, Bool.true_eq_false, Bool.and_true, Bool.true_and, Bool.and_false, Bool.false_and, Bool.or_true, Bool.true_or, Bool.or_false, Bool.false_or, b1, ld1_get g1, e1, c1, h2.lnSl, c2, i1, i2, Option.getD_some, Option.isSome_some]
      · have c2 : ((nd.vals.length : Nat) : Int) ≤ ((i : Nat) : Int) := by omega
        rw [List.getElem?_eq_none (by omega)] at hlk
        simp only [hlk, if_true]
        simp (disch := omega) only [f23, ev, lg, wnt_undef, if_true, if_false, decide_true, decide_false, Bool.not_true, Bool.not_false, Bool.false_eq_true, Bool.true_eq_false, Bool.and_true, Bool.true_and, Bool.and_false, Bool.false_and, Bool.or_true, Bool.true_or, Bool.or_false, Bool.false_or, b1, ld1_get g1, e1, c1, h2.lnSl, c2, hS, Option.getD_none, Option.isSome_none]
    · have hlk := Nd.look_zip0 (vs := nd.vals) hj
      have c1 : (-1 : Int) < ((0 : Nat) : Int) := by omega
      simp only [hlk, if_true]
      simp (disch := omega) only [f23, ev, lg, wnt_undef, if_true, if_false, decide_true, decide_false, Bool.not_true, Bool.not_false, Bool.false_eq_true, Bool.true_eq_false, Bool.and_true, Bool.true_and, Bool.and_false, Bool.false_and, Bool.or_true, Bool.true_or, Bool.or_false, Bool.false_or, b1, ld1_get g1, e1, c1, hS, Option.getD_none, Option.isSome_none]
end Go.Eng.Sh
end
section
namespace Go.Eng
theorem putA_some (H : AH) (A : Nat) (o : AObj) : putA H A o = some (H.put A o) := putA_ok H A o
/-- What stands behind the last element. -/
theorem slSl_end {k e n : Nat} {H : AH} {v : AV} {l : List AV} (h : Grow k e H v n l) (hpos : 0 < k) (h0 : 0 < n) (κ : IntKind) :
    ∃ r, slSl k v (some (.int κ (n : Nat))) none none H = some r ∧ Rw k H r 0 [] := by
  have n1 := natOf_int κ (z := ((n : Nat) : Int)) (by omega)
  simp only [Int.toNat_natCast] at n1
  have hb : Nat.blt 0 k = true := by rw [Nat.blt_eq]; exact hpos
  have b1 : Nat.ble n n = true := by rw [Nat.ble_eq]; exact Nat.le_refl _
  have b2 : Nat.blt n n = false := by rw [Bool.eq_false_iff]; intro h; rw [Nat.blt_eq] at h; omega
  have b3 : Nat.beq n 0 = false := by rw [Bool.eq_false_iff]; intro h; have := Nat.eq_of_beq_eq_true h; omega
  rcases h with ⟨h1, ⟨rfl, rfl⟩ | ⟨A, rfl, hA, hg⟩⟩ | ⟨h1, A, e', g, rfl, hA, hg⟩
  · omega
  · have hroom : roomOf l true k 0 1 k = n := by
      simp only [roomOf, show ((1 % 2).beq 0) = false from rfl, cond_false, Nat.beq_refl, show Nat.beq 0 (1 / 2 * k) = true from by simp, Bool.and_self, cond_true, lenL_zero, h1, Nat.sub_zero]
      exact Nat.mul_div_cancel _ hpos
    refine ⟨.emptySl, ?_, ⟨by simp, .inr (.inl ⟨rfl, rfl⟩)⟩⟩
    simp only [slSl, natOpt, n1, hg, hb, cond_true]; simp [acut, hroom, b1, b2, b3, show Nat.beq 1 0 = false from rfl]
  · have hroom : roomOf l g k 0 (2 * n) k = n := by
      simp only [roomOf, show ((2 * n) % 2).beq 0 = true by rw [Nat.mul_mod_right]; rfl, cond_true, Nat.mul_div_cancel_left n (show 0 < 2 by omega)]
    have b4 : Nat.beq (2 * n / 2) n = true := by rw [Nat.mul_div_cancel_left n (show 0 < 2 by omega), Nat.beq_refl]
    refine ⟨.slice A 0 0 (2 * (2 * n / 2 - n)), ?_, ⟨by simp, .inr (.inr ⟨A, 0, _, l, e', k, g, rfl, hg, hA, by omega, by simp⟩)⟩⟩
    simp only [slSl, natOpt, n1, hg, hb, cond_true]; simp [acut, hroom, b1, b4, fN_eq]
end Go.Eng
namespace Go.Eng.Sh
open Go.Nd (Ptr sumL)
theorem cloneG_ok (D : Dyn) (n : Nat) {H : AH} (hk : H.ok) {v : AV} {l : List Str} (h : Grow 1 9 H v l.length (l.map S)) (hl : l.length ≤ 1000000000) :
    ∃ v' H', f39 D n [v] H = some (v', H') ∧ Prs H H' ∧ Grow 1 9 H' v' l.length (l.map S) ∧ (∀ B, Blk v' B → H.next ≤ B) ∧ (0 < l.length → Own 1 9 H' v' l.length (l.map S)) := by
  have hr := h.row
  by_cases hv : v = .nilSlice
  · subst hv
    have hl0 : l = [] := by
      rcases h with ⟨_, ⟨_, h0⟩ | ⟨A, h0, _⟩⟩ | ⟨_, A, _, _, h0, _⟩
      · exact List.eq_nil_of_length_eq_zero h0
      · cases h0
      · cases h0
    subst hl0
    refine ⟨.nilSlice, H, ?_, Stp.refl hk, .inl (Own.nil ..), fun B hB => (Blk.nil.1 hB).elim, fun h => absurd h (by simp)⟩
    have heq : cmpO .eql (eqS .nilSlice .nilSlice) = some (.bool true) := rfl
    simp only [f39, ev, lg, wnt_undef, if_true, if_false, decide_true, decide_false, Bool.not_true, Bool.not_false, Bool.false_eq_true, Bool.true_eq_false, Bool.and_true, Bool.true_and, Bool.and_false, Bool.false_and, Bool.or_true, Bool.true_or, Bool.or_false, Bool.false_or, heq]
  · have hne : v ≠ .emptySl := by
      rcases h with ⟨_, ⟨rfl, _⟩ | ⟨A, rfl, _⟩⟩ | ⟨_, A, _, _, rfl, _⟩ <;> simp
    by_cases h0 : l.length = 0
    · obtain ⟨v', H', e, p, g, f⟩ := cloneS_ok D n hk hr hv hne hl
      exact ⟨v', H', e, p, g, f, fun h => absurd h (by omega)⟩
    · have p1 : Prs H (H.push (.cells [] 9 1 false)) := (Stp.refl hk).push _
      have g1 : (H.push (.cells [] 9 1 false)).h.get H.next = some (.cells [] 9 1 false) := AH.push_get_eq _ _
      have n1 : (H.push (.cells [] 9 1 false)).next = H.next + 1 := rfl
      generalize hH1 : H.push (.cells [] 9 1 false) = H1 at p1 g1 n1
      have e2 := app1_full (k := 1) (e := 9) (bytes := 16) (n := 0) (m := l.length) (off := 0) (new := l.map S) p1.ok g1 (by simp) (by omega) (by omega) (by decide)
      have e3 : apP 9 1 16 (.slice H.next 0 0 0) v H1 = some (.slice H1.next 0 (0 + l.length) 1, H1.push (.cells (([] : List AV).drop 0 |>.take (0 * 1) |> (· ++ l.map S)) 9 1 true)) := by
        simp only [apP, (hr.prs p1).srcOf, map_cells, cond_true]; exact e2
      have hz1 : bldL 9 1 0 [.str 0 0] [] = some (.cells [] 9 1 false, fun A => .slice A 0 0 0) := rfl
      have heq : cmpO .eql (eqS v .nilSlice) = some (.bool false) := by
        rcases h with ⟨_, ⟨rfl, _⟩ | ⟨A, rfl, _⟩⟩ | ⟨_, A, _, _, rfl, _⟩
        · exact absurd rfl hv
        · rfl
        · rfl
      simp only [List.drop_nil, List.take_nil, List.nil_append, Nat.zero_add] at e3
      have hO : Own 1 9 (H1.push (.cells (l.map S) 9 1 true)) (.slice H1.next 0 l.length 1) l.length (l.map S) := ⟨by simp, .inr ⟨_, rfl, Nat.lt_succ_self _, AH.push_get_eq _ _⟩⟩
      refine ⟨.slice H1.next 0 l.length 1, H1.push (.cells (l.map S) 9 1 true), ?_, p1.push _, .inl hO, fun B hB => by rw [Blk.slice.1 hB]; omega, fun _ => hO⟩
      simp only [f39, ev, lg, wnt_undef, if_true, if_false, decide_true, decide_false, Bool.not_true, Bool.not_false, Bool.false_eq_true, Bool.true_eq_false, Bool.and_true, Bool.true_and, Bool.and_false, Bool.false_and, Bool.or_true, Bool.true_or, Bool.or_false, Bool.false_or, heq, hz1, bA_ok hk, hH1, e3]
/-- One text is inserted. -/
theorem insert_ok (D : Dyn) (n : Nat) {H : AH} (hk : H.ok) {v : AV} {l : List Str} {i B : Nat} {x : Str} (h : Grow 1 9 H v l.length (l.map S)) (ho : 0 < l.length → Own 1 9 H v l.length (l.map S)) (hi : i ≤ l.length) (hl : l.length ≤ 200000000) (hB : H.h.get B = some (.cells [S x] 9 1 false)) :
    ∃ v' H', m45 D n [v, .int .i64 (i : Nat), .slice B 0 1 2] H = some (v', H') ∧ Stp (Blk v) H H' ∧ Grow 1 9 H' v' (l.take i ++ [x] ++ l.drop i).length ((l.take i ++ [x] ++ l.drop i).map S) ∧ ∀ C, Blk v' C → Blk v C ∨ H.next ≤ C := by
  have hx : Strs H (.slice B 0 1 2) [x] := Rw.lit (cc := 2) hk hB
  have l1 : lnSl (.slice B 0 1 2) = some (.int .i64 ((1 : Nat) : Int)) := rfl
  have t10 : ¬ ((1 : Nat) : Int) = ((0 : Nat) : Int) := by omega
  by_cases hil : i = l.length
  · subst hil
    have hs : ∃ r, slSl 1 v (some (.int .i64 (l.length : Nat))) none none H = some r := by
      by_cases h0 : 0 < l.length
      · obtain ⟨r, e, _⟩ := slSl_end h (by decide) h0 .i64; exact ⟨r, e⟩
      · have hz : l.length = 0 := by omega
        rw [hz]
        rcases h with ⟨_, ⟨rfl, _⟩ | ⟨A, rfl, _, hg⟩⟩ | ⟨_, A, e', g, rfl, _, hg⟩
        · exact ⟨.nilSlice, rfl⟩
        · rw [hz]
          have : l = [] := List.eq_nil_of_length_eq_zero hz
          subst this
          exact ⟨.slice A 0 0 1, by simp [slSl, natOpt, natOf_int, hg, acut, fN_eq, roomOf, show Nat.blt 0 1 = true from rfl, show Nat.ble 0 0 = true from rfl, show Nat.beq 1 0 = false from rfl, show Nat.beq 0 0 = true from rfl, natOf, show Nat.beq 1 1 = true from rfl, lenL, bne]⟩
        · rw [hz]
          have : l = [] := List.eq_nil_of_length_eq_zero hz
          subst this
          exact ⟨.slice A 0 0 0, by simp [slSl, natOpt, natOf_int, hg, acut, fN_eq, roomOf, show Nat.blt 0 1 = true from rfl, show Nat.ble 0 0 = true from rfl, show Nat.beq 0 0 = true from rfl, natOf]⟩
    obtain ⟨r, hr⟩ := hs
    obtain ⟨v', H', e2, w2, s2, f2⟩ := h.app (bytes := 16) hk (by decide) hx.srcOf (by simp) (map_cells _) (by simp; omega) (by decide)
    refine ⟨v', H', ?_, s2, by simpa using w2, f2⟩
    have : f45 D n [v, .int .i64 (l.length : Nat), .slice B 0 1 2] H = some (v', H') := by
      simp only [f45, ev, lg, wnt_undef, if_true, if_false, decide_true, decide_false, Bool.not_true, Bool.not_false, Bool.false_eq_true, Bool.true_eq_false, Bool.and_true, Bool.true_and, Bool.and_false, Bool.false_and, Bool.or_true, Bool.true_or, Bool.or_false, Bool.false_or, hr, l1, t10, h.row.lnSl, e2]
    show insK (f45 D n) _ H = _
    simp only [insK, this]
  · have hlt : i < l.length := by omega
    have hO := ho (by omega)
    obtain ⟨_, ⟨_, h0⟩ | ⟨A, rfl, hA, hg⟩⟩ := id hO
    · omega
    · obtain ⟨r, hr, _⟩ := slSl_lo h (by decide) hlt .i64
      have hil' : ¬ ((i : Nat) : Int) = ((l.length : Nat) : Int) := by omega
      have hcap : acap X 25 (.slice A 0 l.length 1) = none := rfl
      have hno : f45 D n [.slice A 0 l.length 1, .int .i64 (i : Nat), .slice B 0 1 2] H = none := by
        simp (disch := omega) only [f45, ev, lg, wnt_undef, if_true, if_false, decide_true, decide_false, Bool.not_true, Bool.not_false, Bool.false_eq_true, Bool.true_eq_false, Bool.and_true, Bool.true_and, Bool.and_false, Bool.false_and, Bool.or_true, Bool.true_or, Bool.or_false, Bool.false_or, hr, l1, t10, h.row.lnSl, hil', hcap]
        rfl
      have b1 : Nat.blt i l.length = true := by rw [Nat.blt_eq]; exact hlt
      have b2 : Nat.ble ((l.length + 1) * 16) 140737488355328 = true := by rw [Nat.ble_eq]; omega
      have hpd : (H.put A .dead).ok := hk.put hA _
      refine ⟨.slice (H.put A .dead).next 0 (l.length + 1) 1, (H.put A .dead).push (.cells ((l.map S).take i ++ [S x] ++ (l.map S).drop i) 9 1 true), ?_, ((Stp.refl hk).put hA _ (.inr (Blk.slice.2 rfl))).push _, ?_, fun C hC => .inr (by rw [Blk.slice.1 hC]; exact Nat.le_refl _)⟩
      · show insK (f45 D n) _ H = _
        simp only [insK, hno]
        show insT 9 [.slice A 0 l.length 1, .int .i64 (.ofNat i), .slice B 0 1 2] H = _
        simp only [insT, hg, hB, b1, b2, map_cells, lenL_zero, List.length_map, Nat.beq_refl, show Nat.blt 0 1 = true from rfl, show Nat.beq 1 1 = true from rfl, show Nat.beq 0 0 = true from rfl, show Nat.beq 9 9 = true from rfl, Bool.and_self, Bool.not_false, cond_true, subN, takeN, allCells, S_cell, putA_ok, agrow, newA_ok hpd, fN_eq]
      · have hlen : (l.take i ++ [x] ++ l.drop i).length = l.length + 1 := by simp; omega
        have hmap : (l.take i ++ [x] ++ l.drop i).map S = (l.map S).take i ++ [S x] ++ (l.map S).drop i := by simp
        rw [hlen, hmap]
        exact .inl ⟨by simp; omega, .inr ⟨_, rfl, Nat.lt_succ_self _, AH.push_get_eq _ _⟩⟩
end Go.Eng.Sh
end
section
namespace Go.Eng
theorem Own.set1 {e : Nat} {H : AH} {v : AV} {l : List Str} (hk : H.ok) (h : Own 1 e H v l.length (l.map S)) {i : Nat} (hi : i < l.length) (x : Str) :
    ∃ p H', (∀ κ (z : Int), z = (i : Int) → ixSl 1 v (.int κ z) = some p) ∧ stN 1 p (S x) H = some (undefA, H') ∧ Own 1 e H' v (l.set i x).length ((l.set i x).map S) ∧ Stp (Blk v) H H' := by
  obtain ⟨h0, ⟨_, h1⟩ | ⟨A, rfl, hA, hg⟩⟩ := h
  · omega
  · have hb : Nat.blt i l.length = true := by rw [Nat.blt_eq]; exact hi
    refine ⟨.ptr A (0 + i * 1), _, fun κ z hz => ?_, st1_ok hg (by decide) (S_cell x) (by simpa using hi), ⟨by simp, .inr ⟨A, by simp, hA, by rw [AH.put_get, if_pos rfl]; simp [List.map_set]⟩⟩, (Stp.refl hk).put hA _ (.inr (Blk.slice.2 rfl))⟩
    subst hz
    simp only [ixSl, natOf_int κ (show (0 : Int) ≤ (i : Int) by omega), Int.toNat_natCast, hb, cond_true, fN_eq]
end Go.Eng
namespace Go.Eng.Sh
open Go.Nd (Ptr sumL whereN hereN putN)
def putOk (nd : Nd.Node) (key value : Str) : Bool := Nd.shaped ltS nd && nd.leaf && Nd.mayK key && decide (value.length ≤ 200)
theorem putNd_ok (D : Dyn) (n : Nat) (hn : 200000000 ≤ n) {H : AH} (hk : H.ok) {v : AV} {nd : Nd.Node} {key value : Str} (h : NodeG H v nd) (hs : small nd) :
    ∃ u H', f21 D n [v, S key, S value] H = some (.tuple [u, .int .i64 ((if putOk nd key value then 0 else 1 : Nat) : Int)], H') ∧ Prs H H' ∧ NodeG H' u (if putOk nd key value then putN nd key value else nd0) := by
  have i0 := h.node
  obtain ⟨ks, vs, ps, rfl, h1, h2, h3⟩ := h
  have hkl := Nd.sumL_ge nd.keys
  have hvl := Nd.sumL_ge nd.vals
  have s0 := hs
  obtain ⟨s1, s2, s3⟩ := hs
  obtain ⟨la, hla⟩ : ∃ la, la = nd.leaf := ⟨_, rfl⟩
  obtain ⟨po, hpo⟩ : ∃ po, po = putOk nd key value := ⟨_, rfl⟩
  rw [← hpo, ← hla]
  rw [← hla] at i0
  simp only [putOk, ← hla] at hpo
  obtain ⟨H1, A1, b1, p1, g1, m1, n1⟩ := box hk (.cells [.bool la, ks, vs, ps] 34 1 false)
  obtain ⟨H2, A2, b2, p2, g2, m2, n2⟩ := box p1.ok (.cells [.bool false, .nilSlice, .nilSlice, .nilSlice] 34 1 false)
  have P2 : Prs H H2 := p1.trans p2
  have g12 := p2.get p1.ok g1
  obtain ⟨H4, e4, p4⟩ := shaped_ok D n P2.ok (i0.prs P2) s0 hn
  have P4 := P2.trans p4
  have g14 := p4.get P2.ok g12; have g24 := p4.get P2.ok g2
  obtain ⟨Hr, er, gr, sr, nr⟩ := st_all P4.ok g24 (l' := [.bool false, .nilSlice, .nilSlice, .nilSlice]) rfl rfl
  have er' : stN 4 (.ptr A2 0) (.agg [.bool false, .nilSlice, .nilSlice, .nilSlice]) H4 = some (undefA, Hr) := er
  have Pr : Prs H Hr := P4.fresh sr (fun B hB => by omega)
  have lr := agg4 gr rfl
  cases c1 : Nd.shaped ltS nd with
  | false =>
    simp only [c1, Bool.false_and, Bool.and_false] at hpo
    subst hpo
    refine ⟨.agg [.bool false, .nilSlice, .nilSlice, .nilSlice], Hr, ?_, Pr, NodeG.zero _⟩
    simp only [Bool.false_eq_true, if_false]
    simp (config := { maxSteps := 1000000 }) (disch := omega) only [f21, ev, lg, wnt_undef, if_true, if_false, decide_true, decide_false, Bool.not_true, Bool.not_false, Bool.false_eq_true, Bool.true_eq_false, Bool.and_true, Bool.true_and, Bool.and_false, Bool.false_and, Bool.or_true, Bool.true_or, Bool.or_false, Bool.false_or, b1, b2, ldN_get g12, sub4, Option.map_some, e4, c1, bldN0, er', lr]
  | true =>
  cases la with
  | false =>
    simp only [Bool.false_and, Bool.and_false] at hpo
    subst hpo
    refine ⟨.agg [.bool false, .nilSlice, .nilSlice, .nilSlice], Hr, ?_, Pr, NodeG.zero _⟩
    simp only [Bool.false_eq_true, if_false]
    simp (config := { maxSteps := 1000000 }) (disch := omega) only [f21, ev, lg, wnt_undef, if_true, if_false, decide_true, decide_false, Bool.not_true, Bool.not_false, Bool.false_eq_true, Bool.true_eq_false, Bool.and_true, Bool.true_and, Bool.and_false, Bool.false_and, Bool.or_true, Bool.true_or, Bool.or_false, Bool.false_or, b1, b2, ldN_get g12, sub4, Option.map_some, e4, c1, ld1_get g14, bldN0, er', lr]
  | true =>
  cases c2 : Nd.mayK key with
  | false =>
    simp only [c2, Bool.false_and, Bool.and_false] at hpo
    subst hpo
    refine ⟨.agg [.bool false, .nilSlice, .nilSlice, .nilSlice], Hr, ?_, Pr, NodeG.zero _⟩
    simp only [Bool.false_eq_true, if_false]
    simp (config := { maxSteps := 1000000 }) (disch := omega) only [f21, ev, lg, wnt_undef, if_true, if_false, decide_true, decide_false, Bool.not_true, Bool.not_false, Bool.false_eq_true, Bool.true_eq_false, Bool.and_true, Bool.true_and, Bool.and_false, Bool.false_and, Bool.or_true, Bool.true_or, Bool.or_false, Bool.false_or, b1, b2, ldN_get g12, sub4, Option.map_some, e4, c1, ld1_get g14, mayKey_ok, c2, bldN0, er', lr]
  | true =>
  by_cases c3 : value.length ≤ 200
  case neg =>
    have c3' : ((200 : Nat) : Int) < ((value.length : Nat) : Int) := by omega
    simp only [c3, decide_false, Bool.and_false] at hpo
    subst hpo
    refine ⟨.agg [.bool false, .nilSlice, .nilSlice, .nilSlice], Hr, ?_, Pr, NodeG.zero _⟩
    · simp only [Bool.false_eq_true, if_false]
      simp (config := { maxSteps := 1000000 }) (disch := omega) only [f21, ev, lg, wnt_undef, if_true, if_false, decide_true, decide_false, Bool.not_true, Bool.not_false, Bool.false_eq_true, Bool.true_eq_false, Bool.and_true, Bool.true_and, Bool.and_false, Bool.false_and, Bool.or_true, Bool.true_or, Bool.or_false, Bool.false_or, b1, b2, ldN_get g12, sub4, Option.map_some, e4, c1, ld1_get g14, mayKey_ok, c2, c3', bldN0, er', lr]
  case pos =>
  have c3' : ¬ ((200 : Nat) : Int) < ((value.length : Nat) : Int) := by omega
  simp only [c1, c2, c3, decide_true, Bool.and_self] at hpo
  subst hpo
  simp only [if_true]
  have hvk : nd.vals.length = nd.keys.length := by
    simp only [Nd.shaped, ← hla, if_true, Bool.and_eq_true, decide_eq_true_eq] at c1; exact c1.2.1.1
  obtain ⟨H5, A3, b5, p5, g5, m5, n5⟩ := box P4.ok (.cells [.bool false, .nilSlice, .nilSlice, .nilSlice] 34 1 false)
  have P5 := P4.trans p5
  have up1 {Hx : AH} (p : Prs H4 Hx) := Prs.get p P4.ok g14
  have up2 {Hx : AH} (p : Prs H4 Hx) := Prs.get p P4.ok g24
  have q1 {Hx : AH} (p : Prs H Hx) : Grow 1 9 Hx ks nd.keys.length (nd.keys.map S) := h1.mono p (fun _ _ x => x)
  have q2 {Hx : AH} (p : Prs H Hx) : Grow 1 9 Hx vs nd.vals.length (nd.vals.map S) := h2.mono p (fun _ _ x => x)
  obtain ⟨w1, H6, e6, p6, o6, f6, t6⟩ := cloneG_ok D n P5.ok (q1 P5) (by omega)
  have P6 := P5.trans p6
  obtain ⟨w2, H7, e7, p7, o7, f7, t7⟩ := cloneG_ok D n P6.ok (q2 P6) (by omega)
  have P7 := P6.trans p7
  obtain ⟨H8, e8, g8, s8, n8⟩ := st_all P7.ok (Prs.get (p6.trans p7) P5.ok g5) (l' := [.bool true, w1, w2, .nilSlice]) rfl (by simp only [allCells, o6.row.isCell, o7.row.isCell]; rfl)
  have e8' : stN 4 (.ptr A3 0) (.agg [.bool true, w1, w2, .nilSlice]) H7 = some (undefA, H8) := e8
  have N6 := p6.next
  have N7 := p7.next
  have p47 : Prs H4 H7 := (p5.trans p6).trans p7
  have p48 : Prs H4 H8 := p47.fresh s8 (fun B hB => by omega)
  have P8 := P4.trans p48
  have k1 : Grow 1 9 H8 w1 nd.keys.length (nd.keys.map S) := (o6.mono p7 (fun _ _ x => x)).mono s8 (fun B hB e => by have := f6 B hB; omega)
  have k2 : Grow 1 9 H8 w2 nd.vals.length (nd.vals.map S) := o7.mono s8 (fun B hB e => by have := f7 B hB; omega)
  have b1k : ∀ B, Blk w1 B → A3 < B ∧ B < H6.next := fun B hB => ⟨by have := f6 B hB; omega, o6.lt hB⟩
  have b2k : ∀ B, Blk w2 B → H6.next ≤ B ∧ B < H8.next := fun B hB => ⟨f7 B hB, k2.lt hB⟩
  obtain ⟨H9, e9, p9⟩ := where_ok D n hn P8.ok (key := key) (i0.prs P8) s0
  have P9 := P8.trans p9
  have p49 : Prs H4 H9 := p48.trans p9
  have g39 := p9.get P8.ok g8
  have hle := Nd.whereN_le nd key
  have hln := h1.row.lnSl
  have N9 := p9.next
  have N5 := p5.next
  have N4 := p4.next
  -- the end: the result's box
  have fin : ∀ {Hx : AH} {l : List AV}, Prs H Hx → Hx.h.get A2 = some (.cells [.bool false, .nilSlice, .nilSlice, .nilSlice] 34 1 false) → l.length = 4 → allCells l = true → ∃ Hy, stN 4 (.ptr A2 0) (.agg l) Hx = some (undefA, Hy) ∧ Prs H Hy ∧ Stp (fun B => B = A2) Hx Hy ∧ ldN 4 (.ptr A2 0) Hy = some (.agg l) := fun {Hx l} px hg hl hc => by
    obtain ⟨Hy, e, g, s, _⟩ := st_all px.ok hg hl hc
    have e' : stN 4 (.ptr A2 0) (.agg l) Hx = some (undefA, Hy) := e
    exact ⟨Hy, e', px.fresh s (fun B hB => by omega), s, agg4 g hl⟩
  -- the way of an insertion
  obtain ⟨H10, B1, b10, p10, g10, m10, n10⟩ := box P9.ok (.cells [S key] 9 1 false)
  have Q10 : Prs H4 H10 := p49.trans p10
  have ow1 : 0 < nd.keys.length → Own 1 9 H10 w1 nd.keys.length (nd.keys.map S) := fun h => (((t6 h).mono p7 (fun _ _ x => x)).mono s8 (fun B hB e => by have := f6 B hB; omega)).mono (p9.trans p10) (fun _ _ x => x)
  obtain ⟨w1', H11, e11, s11, o11, f11⟩ := insert_ok D n p10.ok (k1.mono (p9.trans p10) (fun _ _ x => x)) ow1 hle (by omega) (x := key) g10
  have g3a : H11.h.get A3 = some (.cells [.bool true, w1, w2, .nilSlice] 34 1 false) := by rw [s11.keep _ (by have := p10.next; omega) (fun hB => by have := b1k _ hB; omega)]; exact p10.get P9.ok g39
  have Q11 : Prs H4 H11 := Q10.fresh s11 (fun B hB => by have := b1k B hB; omega)
  obtain ⟨H12, e12, g12', s12, n12⟩ := st_fld Q11.ok g3a (o := 1) (x := w1') o11.row.isCell (by simp)
  have g12' : H12.h.get A3 = some (.cells [.bool true, w1', w2, .nilSlice] 34 1 false) := g12'
  have Q12 : Prs H4 H12 := Q11.fresh s12 (fun B hB => by omega)
  obtain ⟨H13, B2, b13, p13, g13, m13, n13⟩ := box Q12.ok (.cells [S value] 9 1 false)
  have Q13 : Prs H4 H13 := Q12.trans p13
  have d12 : ∀ B, Blk w2 B → ¬ Blk w1 B := fun B hB hB' => by have := b1k B hB'; have := b2k B hB; omega
  have kw2 : Grow 1 9 H13 w2 nd.vals.length (nd.vals.map S) := (((k2.mono (p9.trans p10) (fun _ _ x => x)).mono s11 d12).mono s12 (fun B hB e => by have := b2k B hB; omega)).mono p13 (fun _ _ x => x)
  have ow2 : 0 < nd.vals.length → Own 1 9 H13 w2 nd.vals.length (nd.vals.map S) := fun h => (((((t7 h).mono s8 (fun B hB e => by have := f7 B hB; omega)).mono (p9.trans p10) (fun _ _ x => x)).mono s11 d12).mono s12 (fun B hB e => by have := b2k B hB; omega)).mono p13 (fun _ _ x => x)
  obtain ⟨w2', H14, e14, s14, o14, f14⟩ := insert_ok D n p13.ok kw2 ow2 (i := whereN nd key) (by omega) (by omega) (x := value) g13
  have N10 := p10.next
  have N11 := s11.next
  have N12 := s12.next
  have N13 := p13.next
  have g3b : H14.h.get A3 = some (.cells [.bool true, w1', w2, .nilSlice] 34 1 false) := by rw [s14.keep _ (by omega) (fun hB => by have := b2k _ hB; omega)]; exact p13.get Q12.ok g12'
  have Q14 : Prs H4 H14 := Q13.fresh s14 (fun B hB => by have := b2k B hB; omega)
  obtain ⟨H15, e15, g15, s15, n15⟩ := st_fld Q14.ok g3b (o := 2) (x := w2') o14.row.isCell (by simp)
  have g15 : H15.h.get A3 = some (.cells [.bool true, w1', w2', .nilSlice] 34 1 false) := g15
  have Q15 : Prs H4 H15 := Q14.fresh s15 (fun B hB => by omega)
  have c15 : allCells [.bool true, w1', w2', .nilSlice] = true := by simp only [allCells, o11.row.isCell, o14.row.isCell]; rfl
  obtain ⟨Hz, ez, Pz, sz, lz⟩ := fin (l := [.bool true, w1', w2', .nilSlice]) (P4.trans Q15) (up2 Q15) rfl c15
  have bw1 : ∀ B, Blk w1' B → A3 < B ∧ (B < H6.next ∨ H10.next ≤ B) := fun B hB => by
    rcases f11 B hB with h | h
    · have := b1k B h; omega
    · omega
  have bw2 : ∀ B, Blk w2' B → A3 < B := fun B hB => by
    rcases f14 B hB with h | h
    · have := b2k B h; omega
    · omega
  have rz : NodeG Hz (.agg [.bool true, w1', w2', .nilSlice]) ⟨true, nd.keys.take (whereN nd key) ++ [key] ++ nd.keys.drop (whereN nd key), nd.vals.take (whereN nd key) ++ [value] ++ nd.vals.drop (whereN nd key), []⟩ :=
    ⟨w1', w2', .nilSlice, rfl, ((((o11.mono s12 (fun B hB e => by have := bw1 B hB; omega)).mono p13 (fun _ _ x => x)).mono s14 (fun B hB hB' => by have := bw1 B hB; have := b2k B hB'; omega)).mono s15 (fun B hB e => by have := bw1 B hB; omega)).mono sz (fun B hB e => by have := bw1 B hB; omega),
      (o14.mono s15 (fun B hB e => by have := bw2 B hB; omega)).mono sz (fun B hB e => by have := bw2 B hB; omega), .inl (Own.nil ..)⟩
  by_cases hlt : whereN nd key < nd.keys.length
  · obtain ⟨q, j1, j2⟩ := (q1 P9).row |> (fun (r : Strs H9 ks nd.keys) => r.at hlt)
    rw [← getD_lt (d := [])] at j2
    have hltI : ((whereN nd key : Nat) : Int) < ((nd.keys.length : Nat) : Int) := by omega
    by_cases heq : nd.keys.getD (whereN nd key) [] = key
    · have hh : hereN nd key = true := by simp only [hereN, heq, decide_true, Bool.and_true, decide_eq_true_eq]; exact hlt
      rw [heq] at j2
      have t7' := (t7 (by omega)).mono s8 (fun B hB e => by have := f7 B hB; omega)
      obtain ⟨p, H10, i1, i2, i3, i4⟩ := Own.set1 P9.ok (t7'.mono p9 (fun _ _ x => x)) (i := whereN nd key) (by omega) value
      have P10 : Prs H H10 := P9.fresh i4 (fun B hB => by have := b2k B hB; have := P5.next; omega)
      have g3' : H10.h.get A3 = some (.cells [.bool true, w1, w2, .nilSlice] 34 1 false) := by rw [i4.keep _ (by omega) (fun hB => by have := b2k _ hB; omega)]; exact g39
      have g2' : H10.h.get A2 = some (.cells [.bool false, .nilSlice, .nilSlice, .nilSlice] 34 1 false) := by rw [i4.keep _ (by omega) (fun hB => by have := b2k _ hB; omega)]; exact up2 p49
      obtain ⟨Hy, ey, Py, sy, ly⟩ := fin (l := [.bool true, w1, w2, .nilSlice]) P10 g2' rfl (by simp only [allCells, o6.row.isCell, o7.row.isCell]; rfl)
      refine ⟨.agg [.bool true, w1, w2, .nilSlice], Hy, ?_, Py, ?_⟩
      · simp (config := { maxSteps := 1000000 }) (disch := omega) only [f21, ev, lg, wnt_undef, if_true, if_false, decide_true, decide_false, Bool.not_true, Bool.not_false, Bool.false_eq_true, Bool.true_eq_false, Bool.and_true, Bool.true_and, Bool.and_false, Bool.false_and, Bool.or_true, Bool.true_or, Bool.or_false, Bool.false_or, b1, b2, ldN_get g12, sub4, Option.map_some, e4, c1, ld1_get g14, mayKey_ok, c2, c3', b5, e6, chk_ok (ld1_get (up1 (p5.trans p6)) 2) (aveq_row h2.row), e7, bldN3 _ o6.row.isCell o7.row.isCell, e8', ldN_get (up1 p48), e9, ld1_get (up1 p49), hln, hltI, j1, j2, ld1_get g39, i1, i2, agg4 g3' rfl, ey, ly]
      · have : putN nd key value = ⟨true, nd.keys, nd.vals.set (whereN nd key) value, []⟩ := by simp only [putN, hh, if_true]
        rw [this]
        refine ⟨w1, w2, .nilSlice, rfl, ?_, ?_, .inl (Own.nil ..)⟩
        · exact ((k1.mono p9 (fun _ _ x => x)).mono i4 (fun B hB hB' => by have := b1k B hB; have := b2k B hB'; omega)).mono sy (fun B hB e => by have := b1k B hB; omega)
        · exact .inl (i3.mono sy (fun B hB e => by have := b2k B hB; omega))
    · have hh : hereN nd key = false := by simp only [hereN, heq, decide_false, Bool.and_false]
      refine ⟨.agg [.bool true, w1', w2', .nilSlice], Hz, ?_, Pz, ?_⟩
      · simp (config := { maxSteps := 1000000 }) (disch := omega) only [f21, ev, lg, wnt_undef, if_true, if_false, decide_true, decide_false, Bool.not_true, Bool.not_false, Bool.false_eq_true, Bool.true_eq_false, Bool.and_true, Bool.true_and, Bool.and_false, Bool.false_and, Bool.or_true, Bool.true_or, Bool.or_false, Bool.false_or, b1, b2, ldN_get g12, sub4, Option.map_some, e4, c1, ld1_get g14, mayKey_ok, c2, c3', b5, e6, chk_ok (ld1_get (up1 (p5.trans p6)) 2) (aveq_row h2.row), e7, bldN3 _ o6.row.isCell o7.row.isCell, e8', ldN_get (up1 p48), e9, ld1_get (up1 p49), hln, hltI, j1, j2, heq, ld1_get g39, row1 9 (.str 0 0) (S_cell key), b10, e11, e12, ld1_get g12', row1 9 (.str 0 0) (S_cell value), b13, e14, e15, agg4 g15 rfl, ez, lz]
      · simp only [putN, hh, Bool.false_eq_true, if_false]; exact rz
  · have hh : hereN nd key = false := by simp only [hereN, hlt, decide_false, Bool.false_and]
    have hltI : ¬ ((whereN nd key : Nat) : Int) < ((nd.keys.length : Nat) : Int) := by omega
    refine ⟨.agg [.bool true, w1', w2', .nilSlice], Hz, ?_, Pz, ?_⟩
    · simp (config := { maxSteps := 1000000 }) (disch := omega) only [f21, ev, lg, wnt_undef, if_true, if_false, decide_true, decide_false, Bool.not_true, Bool.not_false, Bool.false_eq_true, Bool.true_eq_false, Bool.and_true, Bool.true_and, Bool.and_false, Bool.false_and, Bool.or_true, Bool.true_or, Bool.or_false, Bool.false_or, b1, b2, ldN_get g12, sub4, Option.map_some, e4, c1, ld1_get g14, mayKey_ok, c2, c3', b5, e6, chk_ok (ld1_get (up1 (p5.trans p6)) 2) (aveq_row h2.row), e7, bldN3 _ o6.row.isCell o7.row.isCell, e8', ldN_get (up1 p48), e9, ld1_get (up1 p49), hln, hltI,  ld1_get g39, row1 9 (.str 0 0) (S_cell key), b10, e11, e12, ld1_get g12', row1 9 (.str 0 0) (S_cell value), b13, e14, e15, agg4 g15 rfl, ez, lz]
    · simp only [putN, hh, Bool.false_eq_true, if_false]; exact rz
end Go.Eng.Sh
end
section
namespace Go.Eng.Sh
open Go.Nd (Ptr sumL whereN hereN delN)
theorem hi1 {H : AH} {v : AV} {l : List Str} (h : Grow 1 9 H v l.length (l.map S)) {i : Nat} (hi : i ≤ l.length) :
    ∃ r, slSl 1 v none (some (.int .i64 (i : Nat))) (some (.int .i64 (i : Nat))) H = some r ∧ Strs H r (l.take i) := by
  obtain ⟨r, e1, w, _⟩ := slSl_hi h (by decide) hi .i64 .i64
  rw [map_take] at w
  have hlen : (l.take i).length = i := by rw [List.length_take]; omega
  exact ⟨r, e1, by rw [Strs, hlen]; exact w⟩
theorem lo1 {H : AH} {v : AV} {l : List Str} (h : Grow 1 9 H v l.length (l.map S)) {i : Nat} (hi : i ≤ l.length) (h0 : 0 < l.length) :
    ∃ r, slSl 1 v (some (.int .i64 (i : Nat))) none none H = some r ∧ Strs H r (l.drop i) := by
  by_cases hlt : i < l.length
  · obtain ⟨r, e1, w, _⟩ := slSl_lo h (by decide) hlt .i64
    rw [map_drop] at w
    have hlen : (l.drop i).length = l.length - i := by rw [List.length_drop]
    exact ⟨r, e1, by rw [Strs, hlen]; exact w⟩
  · obtain rfl : i = l.length := by omega
    obtain ⟨r, e1, w⟩ := slSl_end h (by decide) h0 .i64
    exact ⟨r, e1, by rw [List.drop_length]; exact w⟩
def delE (nd : Nd.Node) (key : Str) : Nat := if Nd.shaped ltS nd && nd.leaf then (if hereN nd key then 0 else 5) else 1
theorem delNd_ok (D : Dyn) (n : Nat) (hn : 200000000 ≤ n) {H : AH} (hk : H.ok) {v : AV} {nd : Nd.Node} {key : Str} (h : NodeG H v nd) (hs : small nd) :
    ∃ u H', f22 D n [v, S key] H = some (.tuple [u, .int .i64 ((delE nd key : Nat) : Int)], H') ∧ Prs H H' ∧ NodeG H' u (if delE nd key = 0 then delN nd key else nd0) := by
  have i0 := h.node
  obtain ⟨ks, vs, ps, rfl, h1, h2, h3⟩ := h
  have hkl := Nd.sumL_ge nd.keys
  have hvl := Nd.sumL_ge nd.vals
  have s0 := hs
  obtain ⟨s1, s2, s3⟩ := hs
  obtain ⟨la, hla⟩ : ∃ la, la = nd.leaf := ⟨_, rfl⟩
  obtain ⟨po, hpo⟩ : ∃ po, po = delE nd key := ⟨_, rfl⟩
  rw [← hpo, ← hla]
  rw [← hla] at i0
  simp only [delE, ← hla] at hpo
  obtain ⟨H1, A1, b1, p1, g1, m1, n1⟩ := box hk (.cells [.bool la, ks, vs, ps] 34 1 false)
  obtain ⟨H2, A2, b2, p2, g2, m2, n2⟩ := box p1.ok (.cells [.bool false, .nilSlice, .nilSlice, .nilSlice] 34 1 false)
  have P2 : Prs H H2 := p1.trans p2
  have g12 := p2.get p1.ok g1
  obtain ⟨H4, e4, p4⟩ := shaped_ok D n P2.ok (i0.prs P2) s0 hn
  have P4 := P2.trans p4
  have g14 := p4.get P2.ok g12; have g24 := p4.get P2.ok g2
  have fin : ∀ {Hx : AH} {l : List AV}, Prs H4 Hx → l.length = 4 → allCells l = true → ∃ Hy, stN 4 (.ptr A2 0) (.agg l) Hx = some (undefA, Hy) ∧ Prs H Hy ∧ Stp (fun B => B = A2) Hx Hy ∧ ldN 4 (.ptr A2 0) Hy = some (.agg l) := fun {Hx l} px hl hc => by
    obtain ⟨Hy, e, g, s, _⟩ := st_all px.ok (Prs.get px P4.ok g24) hl hc
    have e' : stN 4 (.ptr A2 0) (.agg l) Hx = some (undefA, Hy) := e
    exact ⟨Hy, e', (P4.trans px).fresh s (fun B hB => by omega), s, agg4 g hl⟩
  obtain ⟨Hr, er, Pr, sr, lr⟩ := fin (Prs.refl P4.ok) (l := [.bool false, .nilSlice, .nilSlice, .nilSlice]) rfl rfl
  cases c1 : Nd.shaped ltS nd with
  | false =>
    simp only [c1, Bool.false_and, Bool.false_eq_true, if_false] at hpo
    subst hpo
    refine ⟨.agg [.bool false, .nilSlice, .nilSlice, .nilSlice], Hr, ?_, Pr, NodeG.zero _⟩
    simp (config := { maxSteps := 1000000 }) (disch := omega) only [f22, ev, lg, wnt_undef, if_true, if_false, decide_true, decide_false, Bool.not_true, Bool.not_false, Bool.false_eq_true, Bool.true_eq_false, Bool.and_true, Bool.true_and, Bool.and_false, Bool.false_and, Bool.or_true, Bool.true_or, Bool.or_false, Bool.false_or, b1, b2, ldN_get g12, sub4, Option.map_some, e4, c1, bldN0, er, lr]
  | true =>
  cases la with
  | false =>
    simp only [Bool.and_false, Bool.false_eq_true, if_false] at hpo
    subst hpo
    refine ⟨.agg [.bool false, .nilSlice, .nilSlice, .nilSlice], Hr, ?_, Pr, NodeG.zero _⟩
    simp (config := { maxSteps := 1000000 }) (disch := omega) only [f22, ev, lg, wnt_undef, if_true, if_false, decide_true, decide_false, Bool.not_true, Bool.not_false, Bool.false_eq_true, Bool.true_eq_false, Bool.and_true, Bool.true_and, Bool.and_false, Bool.false_and, Bool.or_true, Bool.true_or, Bool.or_false, Bool.false_or, b1, b2, ldN_get g12, sub4, Option.map_some, e4, c1, ld1_get g14, bldN0, er, lr]
  | true =>
  have hvk : nd.vals.length = nd.keys.length := by
    simp only [Nd.shaped, ← hla, if_true, Bool.and_eq_true, decide_eq_true_eq] at c1; exact c1.2.1.1
  simp only [c1, Bool.and_self, if_true] at hpo
  obtain ⟨H5, e5, p5⟩ := where_ok D n hn P4.ok (key := key) (i0.prs P4) s0
  have P5 := P4.trans p5
  have g15 := p5.get P4.ok g14
  have hle := Nd.whereN_le nd key
  have hln := h1.row.lnSl
  obtain ⟨Hs, es, Ps, ss, ls⟩ := fin p5 (l := [.bool false, .nilSlice, .nilSlice, .nilSlice]) rfl rfl
  have q1 {Hx : AH} (p : Prs H Hx) : Grow 1 9 Hx ks nd.keys.length (nd.keys.map S) := h1.mono p (fun _ _ x => x)
  have q2 {Hx : AH} (p : Prs H Hx) : Grow 1 9 Hx vs nd.vals.length (nd.vals.map S) := h2.mono p (fun _ _ x => x)
  by_cases hlt : whereN nd key < nd.keys.length
  case neg =>
    have hh : hereN nd key = false := by simp only [hereN, hlt, decide_false, Bool.false_and]
    have hltI : ((nd.keys.length : Nat) : Int) ≤ ((whereN nd key : Nat) : Int) := by omega
    simp only [hh, Bool.false_eq_true, if_false] at hpo
    subst hpo
    refine ⟨.agg [.bool false, .nilSlice, .nilSlice, .nilSlice], Hs, ?_, Ps, NodeG.zero _⟩
    simp (config := { maxSteps := 1000000 }) (disch := omega) only [f22, ev, lg, wnt_undef, if_true, if_false, decide_true, decide_false, Bool.not_true, Bool.not_false, Bool.false_eq_true, Bool.true_eq_false, Bool.and_true, Bool.true_and, Bool.and_false, Bool.false_and, Bool.or_true, Bool.true_or, Bool.or_false, Bool.false_or, b1, b2, ldN_get g12, sub4, Option.map_some, e4, c1, ld1_get g14, ldN_get g14, e5, ld1_get g15, hln, hltI, bldN0, es, ls]
  case pos =>
  obtain ⟨q, j1, j2⟩ := (q1 P5).row |> (fun (r : Strs H5 ks nd.keys) => r.at hlt)
  rw [← getD_lt (d := [])] at j2
  have hltI : ¬ ((nd.keys.length : Nat) : Int) ≤ ((whereN nd key : Nat) : Int) := by omega
  by_cases heq : nd.keys.getD (whereN nd key) [] = key
  case neg =>
    have hh : hereN nd key = false := by simp only [hereN, heq, decide_false, Bool.and_false]
    simp only [hh, Bool.false_eq_true, if_false] at hpo
    subst hpo
    refine ⟨.agg [.bool false, .nilSlice, .nilSlice, .nilSlice], Hs, ?_, Ps, NodeG.zero _⟩
    simp (config := { maxSteps := 1000000 }) (disch := omega) only [f22, ev, lg, wnt_undef, if_true, if_false, decide_true, decide_false, Bool.not_true, Bool.not_false, Bool.false_eq_true, Bool.true_eq_false, Bool.and_true, Bool.true_and, Bool.and_false, Bool.false_and, Bool.or_true, Bool.true_or, Bool.or_false, Bool.false_or, b1, b2, ldN_get g12, sub4, Option.map_some, e4, c1, ld1_get g14, ldN_get g14, e5, ld1_get g15, hln, hltI, j1, j2, ne_eq, heq, not_false_eq_true, bldN0, es, ls]
  case pos =>
  have hh : hereN nd key = true := by simp only [hereN, heq, decide_true, Bool.and_true, decide_eq_true_eq]; exact hlt
  simp only [hh, if_true] at hpo
  subst hpo
  generalize hw : whereN nd key = i at *
  obtain ⟨r1, c1', x1⟩ := hi1 (q1 P5) (i := i) (by omega)
  obtain ⟨r2, c2', x2⟩ := lo1 (q1 P5) (i := i + 1) (by omega) (by omega)
  obtain ⟨r3, c3', x3⟩ := hi1 (q2 P5) (i := i) (by omega)
  obtain ⟨r4, c4', x4⟩ := lo1 (q2 P5) (i := i + 1) (by omega) (by omega)
  obtain ⟨H6, A6, b6, p6, g6, m6, n6⟩ := box P5.ok (.cells [r1, r2] 25 1 false)
  have P6 := P5.trans p6
  obtain ⟨H7, A7, b7, p7, g7, m7, n7⟩ := box P6.ok (.cells [r3, r4] 25 1 false)
  have P7 := P6.trans p7
  have p57 : Prs H5 H7 := p6.trans p7
  obtain ⟨w8, H8, e8, p8, o8, f8⟩ := conS2 D n (cc := 4) P7.ok (p7.get P6.ok g6) (x1.prs p57) (x2.prs p57) (by simp only [List.length_take, List.length_drop]; omega) (by omega)
  have P8 := P7.trans p8
  have p58 := p57.trans p8
  obtain ⟨w9, H9, e9, p9, o9, f9⟩ := conS2 D n (cc := 4) P8.ok (p8.get P7.ok g7) (x3.prs p58) (x4.prs p58) (by simp only [List.length_take, List.length_drop]; omega) (by omega)
  have p59 := p58.trans p9
  obtain ⟨Hy, ey, Py, sy, ly⟩ := fin (p5.trans p59) (l := [.bool true, w8, w9, .nilSlice]) rfl (by simp only [allCells, o8.row.isCell, o9.row.isCell]; rfl)
  have N7 := p57.next; have N5 := p5.next; have N4 := p4.next; have N8 := p8.next
  simp only [Int.natCast_add] at c2' c4'
  have up {Hx : AH} (p : Prs H5 Hx) := Prs.get p P5.ok g15
  refine ⟨.agg [.bool true, w8, w9, .nilSlice], Hy, ?_, Py, ?_⟩
  · simp (config := { maxSteps := 1000000 }) (disch := omega) only [f22, ev, lg, wnt_undef, if_true, if_false, decide_true, decide_false, Bool.not_true, Bool.not_false, Bool.false_eq_true, Bool.true_eq_false, Bool.and_true, Bool.true_and, Bool.and_false, Bool.false_and, Bool.or_true, Bool.true_or, Bool.or_false, Bool.false_or, b1, b2, ldN_get g12, sub4, Option.map_some, e4, c1, ld1_get g14, ldN_get g14, e5, ld1_get g15, hln, hltI, j1, j2, ne_eq, heq, not_true_eq_false, c1', c2', row2 25 .nilSlice x1.isCell x2.isCell rfl, b6, ld1_get (up p6), slSl_same (q2 P5) (q2 P6) (by decide), c3', c4', row2 25 .nilSlice x3.isCell x4.isCell rfl, b7, e8,
      chk_ok (ld1_get (up p58) 2) (aveq_row h2.row), slSl_same (q2 P5) (q2 P8) (by decide), chk_ok rfl (aveq_row x3), chk_ok rfl (aveq_row x4), e9, bldN3 _ o8.row.isCell o9.row.isCell, ey, ly]
  · simp only [if_true, delN, hw]
    exact ⟨w8, w9, .nilSlice, rfl, .inl ((o8.mono p9 (fun _ _ x => x)).mono sy (fun B hB e => by have := f8 B hB; omega)), .inl (o9.mono sy (fun B hB e => by have := f9 B hB; omega)), .inl (Own.nil ..)⟩
end Go.Eng.Sh
end
section
namespace Go.Nd
open Go.Eng (ltS)
/-- Put into a map. -/
def setQ (k v : Str) : Kvs → Kvs
  | [] => [(k, v)]
  | (a, b) :: l => if a = k then (k, v) :: l else (a, b) :: setQ k v l
/-- No key twice. -/
def Dst : Kvs → Prop
  | [] => True
  | (a, _) :: l => (∀ p ∈ l, p.1 ≠ a) ∧ Dst l
theorem look_set (k v x : Str) : ∀ l : Kvs, lookP x (setQ k v l) = if x = k then some v else lookP x l
  | [] => by
    simp only [setQ, lookP]
    by_cases h : x = k
    · rw [if_pos h.symm, if_pos h]
    · rw [if_neg (fun e => h e.symm), if_neg h]
  | (a, b) :: l => by
    have ih := look_set k v x l
    simp only [setQ]
    split
    · rename_i e
      subst e
      simp only [lookP]
      by_cases h : x = a
      · rw [if_pos h.symm, if_pos h]
      · rw [if_neg (fun e => h e.symm), if_neg h, if_neg (fun e => h e.symm)]
    · rename_i hak
      simp only [lookP, ih]
      by_cases h : x = k
      · subst h; rw [if_neg hak, if_pos rfl, if_pos rfl]
      · rw [if_neg h, if_neg h]
theorem len_set (k v : Str) : ∀ l : Kvs, (setQ k v l).length = if (lookP k l).isSome then l.length else l.length + 1
  | [] => rfl
  | (a, b) :: l => by
    have ih := len_set k v l
    simp only [setQ, lookP]
    split
    · simp
    · simp only [List.length_cons, ih]; split <;> omega
theorem mem_set {k v : Str} {p : Str × Str} : ∀ {l : Kvs}, p ∈ setQ k v l → p = (k, v) ∨ p ∈ l
  | [], h => by simpa [setQ] using h
  | (a, b) :: l, h => by
    simp only [setQ] at h
    split at h
    · rcases List.mem_cons.1 h with h | h
      · exact .inl h
      · exact .inr (List.mem_cons_of_mem _ h)
    · rcases List.mem_cons.1 h with h | h
      · exact .inr (h ▸ List.mem_cons_self ..)
      · rcases mem_set h with h | h
        · exact .inl h
        · exact .inr (List.mem_cons_of_mem _ h)
theorem dst_set (k v : Str) : ∀ {l : Kvs}, Dst l → Dst (setQ k v l)
  | [], _ => ⟨by simp, trivial⟩
  | (a, b) :: l, h => by
    simp only [setQ]
    split
    · rename_i e; subst e; exact h
    · rename_i hak
      refine ⟨fun p hp => ?_, dst_set k v h.2⟩
      rcases mem_set hp with rfl | hp
      · exact fun e => hak e.symm
      · exact h.1 p hp
theorem dst_del (k : Str) : ∀ {l : Kvs}, Dst l → Dst (delP k l)
  | [], _ => trivial
  | (a, b) :: l, h => by
    simp only [delP]
    split
    · exact h.2
    · exact ⟨fun p hp => h.1 p (mem_del hp), dst_del k h.2⟩
theorem look_ddel (k x : Str) : ∀ {l : Kvs}, Dst l → lookP x (delP k l) = if x = k then none else lookP x l
  | [], _ => by simp [delP, lookP]
  | (a, b) :: l, h => by
    have ih := look_ddel k x h.2
    simp only [delP]
    split
    · rename_i e; subst e
      by_cases hx : x = a
      · rw [if_pos hx, look_none]; intro p hp; subst hx; exact h.1 p hp
      · rw [if_neg hx, lookP, if_neg (fun e => hx e.symm)]
    · rename_i hak
      simp only [lookP, ih]
      by_cases hx : x = k
      · subst hx; rw [if_neg hak, if_pos rfl, if_pos rfl]
      · rw [if_neg hx, if_neg hx]
theorem look_at {l : Kvs} (h : Srt l) {i : Nat} {p : Str × Str} (hp : l[i]? = some p) : lookP p.1 l = some p.2 := by
  induction l generalizing i with
  | nil => simp at hp
  | cons q l ih =>
    obtain ⟨a, b⟩ := q
    cases i with
    | zero => simp only [List.getElem?_cons_zero, Option.some.injEq] at hp; subst hp; simp [lookP]
    | succ i =>
      simp only [List.getElem?_cons_succ] at hp
      have hm := List.mem_of_getElem? hp
      rw [lookP, if_neg (Go.Eng.ltS_ne (h.1 p hm)), ih h.2 hp]
end Go.Nd
namespace Go.Eng
open Go.Nd (Kvs lookP setQ delP)
theorem bStr_leq (l m : Str) : bStr .leq (S l) (S m) = some (.bool (!ltS m l)) := by
  have h : (ltS l m || decide (l = m)) = !ltS m l := by
    cases h1 : ltS l m with
    | true => simp [ltS_asymm h1]
    | false =>
      cases h2 : ltS m l with
      | true => have := ltS_ne h2; simp; exact fun e => this e.symm
      | false => simp [ltS_tri h1 h2]
  rw [← h]
  simp only [bStr, S, abinS, mkB_eq, sless_eq, ltS, S_eq]
/-- A map's entries. -/
def ents (q : Kvs) : List (AV × AV) := q.map fun p => (S p.1, .agg [S p.2])
theorem aveqS (l m : Str) : aveq (S l) (S m) = decide (l = m) := by
  show (Nat.beq l.length m.length && Nat.beq (pack l) (pack m)) = _
  rw [S_eq]
theorem find_ents (k : Str) : ∀ q : Kvs, findA (S k) (ents q) = (lookP k q).map fun v => .agg [S v]
  | [] => rfl
  | (a, b) :: q => by
    have ih := find_ents k q
    simp only [ents, List.map_cons, findA, aveqS, lookP] at ih ⊢
    rw [ih]
    by_cases h : k = a
    · simp [h]
    · rw [if_neg (fun e => h e.symm)]; simp [h]
theorem set_ents (k v : Str) : ∀ q : Kvs, setA (S k) (.agg [S v]) (ents q) = if (lookP k q).isSome then some (ents (setQ k v q)) else none
  | [] => rfl
  | (a, b) :: q => by
    have ih := set_ents k v q
    simp only [ents, List.map_cons, setA, aveqS, lookP, setQ] at ih ⊢
    rw [ih]
    by_cases h : k = a
    · subst h; simp
    · have hn : ¬ a = k := fun e => h e.symm
      cases hs : (lookP k q).isSome <;> simp [h, hn, hs]
theorem set_new (k v : Str) : ∀ q : Kvs, (lookP k q).isSome = false → setQ k v q = q ++ [(k, v)]
  | [], _ => rfl
  | (a, b) :: q, h => by
    simp only [lookP] at h
    split at h
    · cases h
    · rename_i e
      simp only [setQ, if_neg e, set_new k v q h, List.cons_append]
theorem del_ents (k : Str) : ∀ q : Kvs, delA (S k) (ents q) = if (lookP k q).isSome then some (ents (delP k q)) else none
  | [] => rfl
  | (a, b) :: q => by
    have ih := del_ents k q
    simp only [ents, List.map_cons, delA, aveqS, lookP, delP] at ih ⊢
    rw [ih]
    by_cases h : k = a
    · subst h; simp
    · have hn : ¬ a = k := fun e => h e.symm
      cases hs : (lookP k q).isSome <;> simp [h, hn, hs]
theorem keyS (k : Str) : keyOk [2] (S k) = true := rfl
theorem lk_ents {H : AH} {M : Nat} {q : Kvs} (h : H.h.get M = some (.map [2] (ents q))) (z : AV) (c : Bool) (k : Str) : lkM [2] z c (.map M) (S k) H = some (lkR (lookP k q).isSome c (((lookP k q).map fun v => .agg [S v]).getD z)) := by
  simp only [lkM, keyS, h, find_ents, show eqNL [2] [2] = true from rfl, cond_true]
  cases lookP k q <;> rfl
theorem up_ents {H : AH} {M : Nat} {q : Kvs} (h : H.h.get M = some (.map [2] (ents q))) (k v : Str) : upM [2] (.map M) (S k) (.agg [S v]) H = some (undefA, H.put M (.map [2] (ents (setQ k v q)))) := by
  simp only [upM, keyS, h, set_ents, show eqNL [2] [2] = true from rfl, cond_true, putA_ok]
  cases hs : (lookP k q).isSome with
  | true => rfl
  | false =>
    rw [set_new k v q hs]
    simp only [Bool.false_eq_true, if_false, ents, List.map_append, List.map_cons, List.map_nil]
theorem dl_ents {H : AH} {M : Nat} {q : Kvs} (h : H.h.get M = some (.map [2] (ents q))) (k : Str) (hs : (lookP k q).isSome = true) : dlM [2] (.map M) (S k) H = some (.tuple [], H.put M (.map [2] (ents (delP k q)))) := by
  simp only [dlM, keyS, h, del_ents, show eqNL [2] [2] = true from rfl, cond_true, putA_ok, hs, if_true]
theorem ln_ents {H : AH} {M : Nat} {q : Kvs} (h : H.h.get M = some (.map [2] (ents q))) : lnMap (.map M) H = some (.int .i64 ((q.length : Nat) : Int)) := by
  simp only [lnMap, h, fN_eq, ents, List.length_map]; rfl
end Go.Eng
namespace Go.Eng.Sh
open Go.Nd (Ptr sumL Kvs lookP setQ delP putP Srt Dst leafOf)
theorem Grow.sep {k e n : Nat} {H : AH} {v : AV} {l : List AV} (h : Grow k e H v n l) {A : Nat} {o : AObj} (hA : H.h.get A = some o) (ho : ∀ e' g, o ≠ .cells l e' k g) : ¬ Blk v A := by
  intro hb
  rcases h with ⟨_, ⟨rfl, _⟩ | ⟨B, rfl, _, hg⟩⟩ | ⟨_, B, e', g, rfl, _, hg⟩
  · exact Blk.nil.1 hb
  · rw [Blk.slice.1 hb] at hA; rw [hg] at hA; exact ho _ _ (Option.some.inj hA).symm
  · rw [Blk.slice.1 hb] at hA; rw [hg] at hA; exact ho _ _ (Option.some.inj hA).symm
/-- A struct of a node, or a map, is none of its rows. -/
theorem NodeG.keep {H H' : AH} {v : AV} {nd : Nd.Node} {A : Nat} {o : AObj} (h : NodeG H v nd) (hA : H.h.get A = some o) (ho : (∃ b r e, o = .cells (.bool b :: r) e 1 false) ∨ ∃ ks es, o = .map ks es) (s : Stp (fun B => B = A) H H') : NodeG H' v nd := by
  obtain ⟨ks, vs, ps, rfl, h1, h2, h3⟩ := h
  have hS : ∀ (l : List Str) (k : Nat), ∀ e' g, o ≠ .cells (l.map S) e' k g := fun l k e' g e => by
    rcases ho with ⟨b, r, e2, rfl⟩ | ⟨_, _, rfl⟩
    · simp only [AObj.cells.injEq] at e
      cases l with
      | nil => simp at e
      | cons x l => simp [S] at e
    · cases e
  have hP : ∀ e' g, o ≠ .cells (nd.kids.flatMap ptrV) e' 3 g := fun e' g e => by
    rcases ho with ⟨b, r, e2, rfl⟩ | ⟨_, _, rfl⟩
    · simp only [AObj.cells.injEq] at e; omega
    · cases e
  exact ⟨ks, vs, ps, rfl, h1.mono s (fun B hB e => by subst e; exact Grow.sep h1 hA (hS _ _) hB), h2.mono s (fun B hB e => by subst e; exact Grow.sep h2 hA (hS _ _) hB), h3.mono s (fun B hB e => by subst e; exact Grow.sep h3 hA hP hB)⟩
/-- How things stand at the loop's head. -/
structure St (H0 : AH) (A M : Nat) (H : AH) (l : List AV) (ps q : Kvs) (n : Nat) : Prop where
  prs : Prs H0 H
  gA : H.h.get A = some (.cells l 34 1 false)
  gM : H.h.get M = some (.map [2] (ents q))
  oA : H0.next ≤ A
  oM : H0.next ≤ M
  ne : A ≠ M
  nd : NodeG H (.agg l) (leafOf ps)
  srt : Srt ps
  ok : ∀ p ∈ ps, Nd.mayK p.1 = true ∧ p.2.length ≤ 200
  dst : Dst q
  lk : ∀ k, lookP k q = lookP k ps
  len : q.length = ps.length
  few : ps.length ≤ n
theorem St.step {H0 H H' : AH} {A M n : Nat} {l : List AV} {ps q : Kvs} (h : St H0 A M H l ps q n) (s : Prs H H') : St H0 A M H' l ps q n :=
  ⟨h.prs.trans s, Prs.get s h.prs.ok h.gA, Prs.get s h.prs.ok h.gM, h.oA, h.oM, h.ne, h.nd.prs s, h.srt, h.ok, h.dst, h.lk, h.len, h.few⟩
theorem St.more {H0 H : AH} {A M n m : Nat} {l : List AV} {ps q : Kvs} (h : St H0 A M H l ps q n) (hm : n ≤ m) : St H0 A M H l ps q m :=
  ⟨h.prs, h.gA, h.gM, h.oA, h.oM, h.ne, h.nd, h.srt, h.ok, h.dst, h.lk, h.len, Nat.le_trans h.few hm⟩
theorem St.shaped {H0 H : AH} {A M n : Nat} {l : List AV} {ps q : Kvs} (h : St H0 A M H l ps q n) : Nd.shaped ltS (leafOf ps) = true := Nd.leaf_shaped h.srt h.ok
theorem St.small {H0 H : AH} {A M n : Nat} {l : List AV} {ps q : Kvs} (h : St H0 A M H l ps q n) (hn : n ≤ 1000) : small (leafOf ps) := by
  have h1 := h.ok; have h2 := h.few
  have a := sumL_le ((leafOf ps).keys) (fun s hs => by
    obtain ⟨p, hp, rfl⟩ := List.mem_map.1 hs
    have := (h1 p hp).1
    simp only [Nd.mayK, Bool.and_eq_true, decide_eq_true_eq] at this; omega)
  have b := sumL_le ((leafOf ps).vals) (fun s hs => by
    obtain ⟨p, hp, rfl⟩ := List.mem_map.1 hs
    have := (h1 p hp).2; omega)
  simp only [leafOf, List.length_map] at a b
  refine ⟨by simp [leafOf], ?_, ?_⟩
  · show sumL (ps.map Prod.fst) ≤ _; omega
  · show sumL (ps.map Prod.snd) ≤ _; omega
theorem St.head {H0 H : AH} {A M n : Nat} {l : List AV} {ps q : Kvs} (h : St H0 A M H l ps q n) : ∃ ks vs pp, l = [.bool true, ks, vs, pp] ∧ Grow 1 9 H ks ps.length ((ps.map Prod.fst).map S) ∧ Grow 1 9 H vs ps.length ((ps.map Prod.snd).map S) := by
  obtain ⟨ks, vs, pp, e, h1, h2, _⟩ := h.nd
  simp only [AV.agg.injEq] at e
  refine ⟨ks, vs, pp, e, ?_, ?_⟩
  · simpa [leafOf] using h1
  · simpa [leafOf] using h2
/-- The leaf's box and the map are written, one behind the other. -/
theorem St.upd {H0 H : AH} {A M n m : Nat} {l l' : List AV} {ps q ps' q' : Kvs} (h : St H0 A M H l ps q n) (hn : NodeG H (.agg l') (leafOf ps'))
    (srt : Srt ps') (ok : ∀ p ∈ ps', Nd.mayK p.1 = true ∧ p.2.length ≤ 200) (dst : Dst q') (lk : ∀ k, lookP k q' = lookP k ps') (len : q'.length = ps'.length) (few : ps'.length ≤ m) :
    ∃ H1, stN 4 (.ptr A 0) (.agg l') H = some (undefA, H1) ∧ H1.h.get M = some (.map [2] (ents q)) ∧ Prs H0 H1 ∧ St H0 A M (H1.put M (.map [2] (ents q'))) l' ps' q' m := by
  obtain ⟨ks, vs, pp, rfl, _, _⟩ := h.head
  obtain ⟨ks', vs', pp', e', h1, h2, h3⟩ := id hn
  simp only [AV.agg.injEq] at e'
  obtain ⟨H1, e1, g1, s1, n1⟩ := st_all h.prs.ok h.gA (l' := l') (by rw [e']; rfl) (by rw [e']; exact allCells4 _ _ _ _ h1.row.isCell h2.row.isCell h3.row.isCell)
  have e1' : stN 4 (.ptr A 0) (.agg l') H = some (undefA, H1) := e1
  have ne := h.ne
  have gM : H1.h.get M = some (.map [2] (ents q)) := by rw [s1.keep _ (h.prs.ok.lt h.gM) (fun e => ne e.symm)]; exact h.gM
  have P1 : Prs H0 H1 := h.prs.fresh s1 (fun B hB => by have := h.oA; omega)
  have hn1 : NodeG H1 (.agg l') (leafOf ps') := hn.keep h.gA (.inl ⟨_, _, _, rfl⟩) s1
  have s2 : Stp (fun B => B = M) H1 (H1.put M (.map [2] (ents q'))) := (Stp.refl P1.ok).put (P1.ok.lt gM) _ (.inr rfl)
  refine ⟨H1, e1', gM, P1, P1.fresh s2 (fun B hB => by have := h.oM; omega), ?_, by rw [AH.put_get, if_pos rfl], h.oA, h.oM, h.ne, hn1.keep gM (.inr ⟨_, _, rfl⟩) s2, srt, ok, dst, lk, len, few⟩
  rw [s2.keep _ (P1.ok.lt g1) ne]; exact g1
end Go.Eng.Sh
end
section
namespace Go.Eng.Sh
open Go.Nd (Ptr sumL Kvs lookP setQ delP putP Srt Dst leafOf)
/-- What is done: a value that is put, or a key that is taken away. -/
structure Act where
  kind : Nat
  key : Str
  value : Str
def actV (a : Act) : List AV := [.int .u8 (a.kind : Nat), S a.key, S a.value]
def Acts (H : AH) (v : AV) (l : List Act) : Prop := Rw 3 H v l.length (l.flatMap actV)
def actZ : Act := ⟨0, [], []⟩
theorem act_get : ∀ (ps : List Act) (i j : Nat), i < ps.length → j < 3 → (ps.flatMap actV)[i * 3 + j]? = (actV (ps.getD i actZ))[j]?
  | [], i, j, h, _ => by simp at h
  | p :: ps, 0, j, _, hj => by
    simp only [List.flatMap_cons, Nat.zero_mul, Nat.zero_add]
    rw [List.getElem?_append_left (by exact hj)]; rfl
  | p :: ps, i + 1, j, h, hj => by
    have ih := act_get ps i j (by simpa using h) hj
    simp only [List.flatMap_cons]
    rw [List.getElem?_append_right (by show 3 ≤ _; omega)]
    have : (i + 1) * 3 + j - (actV p).length = i * 3 + j := by show (i + 1) * 3 + j - 3 = _; omega
    rw [this, ih]; rfl
theorem act_len : ∀ ps : List Act, (ps.flatMap actV).length = ps.length * 3
  | [] => rfl
  | p :: ps => by rw [List.flatMap_cons, List.length_append, act_len ps, List.length_cons]; show 3 + _ = _; omega
theorem Acts.at {H0 : AH} {v : AV} {l : List Act} (h : Acts H0 v l) {i : Nat} (hi : i < l.length) :
    ∃ A o, (∀ κ (z : Int), z = (i : Int) → ixSl 3 v (.int κ z) = some (.ptr A o)) ∧ (∀ {H : AH}, Prs H0 H → ld1 (.ptr A o) H = some (.int .u8 ((l.getD i actZ).kind : Nat)) ∧ ld1 (.ptr A (o + 1)) H = some (S (l.getD i actZ).key) ∧ ld1 (.ptr A (o + 2)) H = some (S (l.getD i actZ).value)) := by
  obtain ⟨A, o, c, e, sz, g, h1, h2, h3, h4, h5⟩ := Rw.at h hi
  have hg : ∀ j, j < 3 → c[o + j]? = (actV (l.getD i actZ))[j]? := fun j hj => by
    rw [← act_get l i j hi hj]
    have e1 : ((c.drop o).take 3)[j]? = (((l.flatMap actV).drop (i * 3)).take 3)[j]? := by rw [h5]
    rw [List.getElem?_take_of_lt hj, List.getElem?_take_of_lt hj, List.getElem?_drop, List.getElem?_drop] at e1
    exact e1
  exact ⟨A, o, h1, fun {H} p => ⟨by rw [p.l1 _ _ h3, ld1_get h2]; exact hg 0 (by omega), by rw [p.l1 _ _ h3, ld1_get h2]; exact hg 1 (by omega), by rw [p.l1 _ _ h3, ld1_get h2]; exact hg 2 (by omega)⟩⟩
theorem Acts.lnSl {H : AH} {v : AV} {l : List Act} (h : Acts H v l) : Eng.lnSl v = some (.int .i64 (l.length : Int)) := Rw.lnSl h
theorem mapJ (D : Dyn) (n : Nat) (hn : 200000000 ≤ n) {H0 H : AH} {A M N i : Nat} {l : List AV} {ps q : Kvs} {v : AV} {acts : List Act} (ha : Acts H0 v acts) (h : St H0 A M H l ps q N) (hN : N ≤ 1000) (hi : i < acts.length) (hl : acts.length ≤ 150) :
    ∃ H', f6zj2 D n [v, .ptr A 0, .map M, .int .i64 (i : Nat)] H = some (.norm [v, .ptr A 0, .map M, .int .i64 ((i + 1 : Nat) : Int)], H') ∧ St H0 A M H' l ps q N := by
  obtain ⟨B, o, i1, i2⟩ := ha.at hi
  generalize acts.getD i actZ = a at i2
  obtain ⟨ks, vs, pp, rfl, k1, k2⟩ := h.head
  obtain ⟨H1, e1, p1⟩ := getNd_ok D n hn h.prs.ok (key := a.key) h.nd.node (h.small hN)
  have h1 := h.step p1
  obtain ⟨H2, A2, b2, p2, g2, m2, n2⟩ := box h1.prs.ok (.cells [S []] 51 1 false)
  have h2 := h1.step p2
  have hlk := h.lk a.key
  rw [Nd.get_leaf] at e1
  have hle := h.len
  have hfe := h.few
  have hS : (AV.str 0 0) = S [] := rfl
  have t0 : ∀ x : Str, ∃ H3, stN 1 (.ptr A2 0) (.agg [S x]) H2 = some (undefA, H3) ∧ ld1 (.ptr A2 0) H3 = some (S x) ∧ St H0 A M H3 [.bool true, ks, vs, pp] ps q N := fun x => by
    obtain ⟨H3, e3, g3, s3, n3⟩ := st_all h2.prs.ok g2 (l' := [S x]) rfl rfl
    exact ⟨H3, e3, by rw [ld1_get g3]; rfl, h1.step (p2.fresh s3 (fun B hB => by omega))⟩
  have c1 : ((ps.length : Nat) : Int) ≠ ((q.length : Nat) : Int) ↔ False := by simp; omega
  have c2 : (ps.length : Int) = (q.length : Int) := by omega
  cases hlq : lookP a.key ps with
  | none =>
    obtain ⟨H3, e3, r3, h3⟩ := t0 []
    have lk := lk_ents h1.gM (.agg [S []]) true a.key
    rw [hlk, hlq] at lk
    rw [hlq] at e1
    simp only [Option.getD_none, Option.isSome_none, Option.map_none, lkR, cond_true] at lk e1
    refine ⟨H3, ?_, h3⟩
    have bb : (false == false) = true := rfl
    simp (config := { maxSteps := 1000000 }) (disch := omega) only [f6zj2, ev, lg, wnt_undef, if_true, if_false, decide_true, decide_false, Bool.not_true, Bool.not_false, Bool.false_eq_true, Bool.true_eq_false, Bool.and_true, Bool.true_and, Bool.and_false, Bool.false_and, Bool.or_true, Bool.true_or, Bool.or_false, Bool.false_or, agg4 h.gA rfl, i1, (i2 h.prs).2.1, e1, pExtract, nth, (i2 h1.prs).2.1, hS, lk, b2, e3, r3, ne_eq, not_true_eq_false, bb, ld1_get h3.gA, k1.row.lnSl, k2.row.lnSl, ln_ents h3.gM, c2, Int.natCast_add]
  | some w =>
    obtain ⟨H3, e3, r3, h3⟩ := t0 w
    have lk := lk_ents h1.gM (.agg [S []]) true a.key
    rw [hlk, hlq] at lk
    rw [hlq] at e1
    simp only [Option.getD_some, Option.isSome_some, Option.map_some, lkR, cond_true] at lk e1
    refine ⟨H3, ?_, h3⟩
    have bb : (true == true) = true := rfl
    simp (config := { maxSteps := 1000000 }) (disch := omega) only [f6zj2, ev, lg, wnt_undef, if_true, if_false, decide_true, decide_false, Bool.not_true, Bool.not_false, Bool.false_eq_true, Bool.true_eq_false, Bool.and_true, Bool.true_and, Bool.and_false, Bool.false_and, Bool.or_true, Bool.true_or, Bool.or_false, Bool.false_or, agg4 h.gA rfl, i1, (i2 h.prs).2.1, e1, pExtract, nth, (i2 h1.prs).2.1, hS, lk, b2, e3, r3, ne_eq, not_true_eq_false, bb, ld1_get h3.gA, k1.row.lnSl, k2.row.lnSl, ln_ents h3.gM, c2, Int.natCast_add]
end Go.Eng.Sh
end
section
namespace Go.Eng.Sh
open Go.Nd (Ptr sumL Kvs lookP setQ delP putP Srt Dst leafOf)
set_option maxHeartbeats 1000000 in
theorem mapL (D : Dyn) (n : Nat) (hn : 200000000 ≤ n) {H0 H : AH} {A M i : Nat} {l : List AV} {ps q : Kvs} {v : AV} {acts : List Act} (ha : Acts H0 v acts) (h : St H0 A M H l ps q i) (hi : i < acts.length) (hl : acts.length ≤ 150) :
    (∃ H', f6zl3 D n [v, .ptr A 0, .map M, .int .i64 (i : Nat)] H = some (.ret (.bool true), H') ∧ Prs H0 H') ∨
    ∃ l' ps' q' H', f6zl3 D n [v, .ptr A 0, .map M, .int .i64 (i : Nat)] H = some (.norm [v, .ptr A 0, .map M, .int .i64 ((i + 1 : Nat) : Int)], H') ∧ St H0 A M H' l' ps' q' (i + 1) := by
  have hmj := fun {H : AH} {l : List AV} {ps q : Kvs} (h : St H0 A M H l ps q (i + 1)) => mapJ D n hn ha h (by omega) hi hl
  obtain ⟨B, o, i1, i2⟩ := ha.at hi
  generalize acts.getD i actZ = a at i2
  have hln := ha.lnSl
  have hiI : ((i : Nat) : Int) < ((acts.length : Nat) : Int) := by omega
  by_cases c1 : 1000 < a.key.length
  · have c1' : ((1000 : Nat) : Int) < ((a.key.length : Nat) : Int) := by omega
    left
    refine ⟨H, ?_, h.prs⟩
    simp (config := { maxSteps := 1000000 }) (disch := omega) only [f6zl3, ev, lg, wnt_undef, if_true, if_false, decide_true, decide_false, Bool.not_true, Bool.not_false, Bool.false_eq_true, Bool.true_eq_false, Bool.and_true, Bool.true_and, Bool.and_false, Bool.false_and, Bool.or_true, Bool.true_or, Bool.or_false, Bool.false_or, hln, hiI, i1, (i2 h.prs).2.1, c1']
  have c1' : ¬ ((1000 : Nat) : Int) < ((a.key.length : Nat) : Int) := by omega
  by_cases c2 : 1000 < a.value.length
  · have c2' : ((1000 : Nat) : Int) < ((a.value.length : Nat) : Int) := by omega
    left
    refine ⟨H, ?_, h.prs⟩
    simp (config := { maxSteps := 1000000 }) (disch := omega) only [f6zl3, ev, lg, wnt_undef, if_true, if_false, decide_true, decide_false, Bool.not_true, Bool.not_false, Bool.false_eq_true, Bool.true_eq_false, Bool.and_true, Bool.true_and, Bool.and_false, Bool.false_and, Bool.or_true, Bool.true_or, Bool.or_false, Bool.false_or, hln, hiI, i1, (i2 h.prs).2.1, (i2 h.prs).2.2, c1', c2']
  have c2' : ¬ ((1000 : Nat) : Int) < ((a.value.length : Nat) : Int) := by omega
  right
  obtain ⟨ks, vs, pp, rfl, k1, k2⟩ := h.head
  have hS : (AV.str 0 0) = S [] := rfl
  obtain ⟨H2, A2, b2, p2, g2, m2, n2⟩ := box h.prs.ok (.cells [S []] 51 1 false)
  have h2 := h.step p2
  have lk := lk_ents h.gM (.agg [S []]) true a.key
  have hlk := h.lk a.key
  have t0 : ∃ H3 w, ((lookP a.key q).map fun v => AV.agg [S v]).getD (.agg [S []]) = .agg [S w] ∧ stN 1 (.ptr A2 0) (.agg [S w]) H2 = some (undefA, H3) ∧ St H0 A M H3 [.bool true, ks, vs, pp] ps q i := by
    have : ∃ w, ((lookP a.key q).map fun v => AV.agg [S v]).getD (.agg [S []]) = .agg [S w] := by
      cases lookP a.key q with
      | none => exact ⟨[], rfl⟩
      | some w => exact ⟨w, rfl⟩
    obtain ⟨w, hw⟩ := this
    obtain ⟨H3, e3, g3, s3, n3⟩ := st_all h2.prs.ok g2 (l' := [S w]) rfl rfl
    exact ⟨H3, w, hw, e3, h.step (p2.fresh s3 (fun B hB => by omega))⟩
  obtain ⟨H3, w, hw, e3, h3⟩ := t0
  rw [hw, hlk] at lk
  simp only [lkR, cond_true] at lk
  obtain ⟨H4, A4, b4, p4, g4, m4, n4⟩ := box h3.prs.ok (.cells [.bool false, .nilSlice, .nilSlice, .nilSlice] 34 1 false)
  have h4 := h3.step p4
  have hsm := h.small (by omega)
  have hsh := h.shaped
  have j0 : ∀ {x : AV}, ∀ Hx : AH, f6zj0 D n [v, .ptr A 0, .map M, x] Hx = some (.norm [v, .ptr A 0, .map M, x], Hx) := fun Hx => rfl
  have j1 : ∀ {x : AV}, ∀ Hx : AH, f6zj1 D n [v, .ptr A 0, .map M, x] Hx = some (.norm [v, .ptr A 0, .map M, x], Hx) := fun Hx => rfl
  by_cases ck : a.kind = 0
  · -- a value is put
    have ckI : ((a.kind : Nat) : Int) = ((0 : Nat) : Int) := by omega
    obtain ⟨u, H5, e5, p5, w5⟩ := putNd_ok D n hn h4.prs.ok (key := a.key) (value := a.value) h4.nd hsm
    have h5 := h4.step p5
    have g5 := Prs.get p5 h4.prs.ok g4
    obtain ⟨l5, rfl, l5l, l5c⟩ := w5.cells
    obtain ⟨H6, e6, g6, s6, n6⟩ := st_all h5.prs.ok g5 (l' := l5) l5l l5c
    have e6' : stN 4 (.ptr A4 0) (.agg l5) H5 = some (undefA, H6) := e6
    have h6 := h3.step ((p4.trans p5).fresh s6 (fun B hB => by omega))
    have w6 := w5.keep g5 (.inl ⟨_, _, _, rfl⟩) s6
    have l6 := agg4 g6 l5l
    have hpo : putOk (leafOf ps) a.key a.value = (Nd.mayK a.key && decide (a.value.length ≤ 200)) := by
      simp only [putOk, hsh, show (leafOf ps).leaf = true from rfl, Bool.true_and]
    cases hp : (Nd.mayK a.key && decide (a.value.length ≤ 200)) with
    | true =>
      rw [hpo, hp] at e5
      simp only [hpo, hp, if_true, Nd.put_leaf _ _ h.srt] at w6
      simp only [if_true] at e5
      simp only [Bool.and_eq_true, decide_eq_true_eq] at hp
      have hl2 := Nd.len_put a.key a.value h.srt
      have hl1 := Nd.len_set a.key a.value q
      have hle := h.len
      have hfe := h.few
      rw [hlk] at hl1
      obtain ⟨H7, e7, gM, P7, h8⟩ := h6.upd (m := i + 1) (q' := setQ a.key a.value q) w6 (Nd.srt_put _ _ h.srt) (fun p hp' => by
          rcases Nd.mem_put hp' with rfl | hp'
          · exact hp
          · exact h.ok p hp') (Nd.dst_set _ _ h.dst) (fun k => by rw [Nd.look_set, Nd.look_put, h.lk]) (by
          rw [hl1, hl2]; split <;> omega) (by rw [hl2]; split <;> omega)
      obtain ⟨H9, e9, h9⟩ := hmj h8
      refine ⟨l5, _, _, H9, ?_, h9⟩
      have bs : bldS [(0, 1)] [S []] [(0, S a.value)] = some (.agg [S a.value]) := rfl
      simp (config := { maxSteps := 1000000 }) (disch := omega) only [f6zl3, ev, lg, wnt_undef, if_true, if_false, decide_true, decide_false, Bool.not_true, Bool.not_false, Bool.false_eq_true, Bool.true_eq_false, Bool.and_true, Bool.true_and, Bool.and_false, Bool.false_and, Bool.or_true, Bool.true_or, Bool.or_false, Bool.false_or, hS, hln, hiI, i1, Nat.add_zero, (i2 h.prs).2.1, (i2 h.prs).2.2, c1', c2', lk, pExtract, nth, b2, e3, (i2 h3.prs).1, ckI, agg4 h3.gA rfl, (i2 h3.prs).2.1, (i2 h3.prs).2.2, b4, e5, e6', l6, e7, (i2 P7).2.1, (i2 P7).2.2, bs, up_ents gM, j0, e9]
    | false =>
      have : ¬ (Nd.mayK a.key = true ∧ a.value.length ≤ 200) := by
        intro hh; rw [hh.1] at hp; simp [hh.2] at hp
      rw [hpo, hp] at e5
      simp only [Bool.false_eq_true, if_false] at e5
      obtain ⟨H9, e9, h9⟩ := hmj (h6.more (Nat.le_succ i))
      refine ⟨_, _, _, H9, ?_, h9⟩
      have t10 : ¬ ((1 : Nat) : Int) = ((0 : Nat) : Int) := by omega
      have hb : ((decide (((1 : Nat) : Int) ≤ ((a.key.length : Nat) : Int)) && decide (((a.key.length : Nat) : Int) ≤ ((40 : Nat) : Int))) && decide (((a.value.length : Nat) : Int) ≤ ((200 : Nat) : Int))) = false := by
        rw [← hp, Bool.eq_iff_iff]; simp only [Nd.mayK, Bool.and_eq_true, decide_eq_true_eq]; omega
      simp (config := { maxSteps := 1000000 }) (disch := omega) only [f6zl3, ev, lg, wnt_undef, if_true, if_false, decide_true, decide_false, Bool.not_true, Bool.not_false, Bool.false_eq_true, Bool.true_eq_false, Bool.and_true, Bool.true_and, Bool.and_false, Bool.false_and, Bool.or_true, Bool.true_or, Bool.or_false, Bool.false_or, hS, hln, hiI, i1, Nat.add_zero, (i2 h.prs).2.1, (i2 h.prs).2.2, c1', c2', lk, pExtract, nth, b2, e3, (i2 h3.prs).1, ckI, agg4 h3.gA rfl, (i2 h3.prs).2.1, (i2 h3.prs).2.2, b4, e5, e6', t10, (i2 h6.prs).2.1, (i2 h6.prs).2.2, hb, j0, e9]
  · -- a key is taken away
    have ckI : ¬ ((a.kind : Nat) : Int) = ((0 : Nat) : Int) := by omega
    obtain ⟨u, H5, e5, p5, w5⟩ := delNd_ok D n hn h4.prs.ok (key := a.key) h4.nd hsm
    have h5 := h4.step p5
    have g5 := Prs.get p5 h4.prs.ok g4
    obtain ⟨l5, rfl, l5l, l5c⟩ := w5.cells
    obtain ⟨H6, e6, g6, s6, n6⟩ := st_all h5.prs.ok g5 (l' := l5) l5l l5c
    have e6' : stN 4 (.ptr A4 0) (.agg l5) H5 = some (undefA, H6) := e6
    have h6 := h3.step ((p4.trans p5).fresh s6 (fun B hB => by omega))
    have w6 := w5.keep g5 (.inl ⟨_, _, _, rfl⟩) s6
    have l6 := agg4 g6 l5l
    have hde : delE (leafOf ps) a.key = if (lookP a.key ps).isSome then 0 else 5 := by
      simp only [delE, hsh, show (leafOf ps).leaf = true from rfl, Bool.and_self, if_true, Nd.here_look _ h.srt]
    cases hs : (lookP a.key ps).isSome with
    | true =>
      simp only [hs, if_true] at hde
      rw [hde] at e5
      rw [hs] at lk
      simp only [hde, if_true, Nd.del_leaf _ h.srt ((Nd.here_look _ h.srt).trans hs)] at w6
      have hl2 := Nd.len_del a.key ps
      have hl1 := Nd.len_del a.key q
      have hle := h.len
      have hfe := h.few
      rw [hlk] at hl1
      simp only [hs, if_true] at hl1 hl2
      obtain ⟨H7, e7, gM, P7, h8⟩ := h6.upd (m := i + 1) (q' := delP a.key q) w6 (Nd.srt_del _ h.srt) (fun p hp' => h.ok p (Nd.mem_del hp')) (Nd.dst_del _ h.dst) (fun k => by rw [Nd.look_ddel _ _ h.dst, Nd.look_del _ _ h.srt, h.lk]) (by rw [hl1, hl2]; omega) (by rw [hl2]; omega)
      obtain ⟨H9, e9, h9⟩ := hmj h8
      refine ⟨l5, _, _, H9, ?_, h9⟩
      have bb : (true == true) = true := rfl
      simp (config := { maxSteps := 1000000 }) (disch := omega) only [f6zl3, ev, lg, wnt_undef, if_true, if_false, decide_true, decide_false, Bool.not_true, Bool.not_false, Bool.false_eq_true, Bool.true_eq_false, Bool.and_true, Bool.true_and, Bool.and_false, Bool.false_and, Bool.or_true, Bool.true_or, Bool.or_false, Bool.false_or, hS, hln, hiI, i1, Nat.add_zero, (i2 h.prs).2.1, (i2 h.prs).2.2, c1', c2', lk, pExtract, nth, b2, e3, (i2 h3.prs).1, ckI, agg4 h3.gA rfl, (i2 h3.prs).2.1, b4, e5, e6', bb, l6, e7, (i2 P7).2.1, dl_ents gM a.key (by rw [hlk]; exact hs), j1, e9]
    | false =>
      simp only [hs, Bool.false_eq_true, if_false] at hde
      rw [hde] at e5
      rw [hs] at lk
      obtain ⟨H9, e9, h9⟩ := hmj (h6.more (Nat.le_succ i))
      refine ⟨_, _, _, H9, ?_, h9⟩
      have t50 : ¬ ((5 : Nat) : Int) = ((0 : Nat) : Int) := by omega
      have bb : (false == false) = true := rfl
      simp (config := { maxSteps := 1000000 }) (disch := omega) only [f6zl3, ev, lg, wnt_undef, if_true, if_false, decide_true, decide_false, Bool.not_true, Bool.not_false, Bool.false_eq_true, Bool.true_eq_false, Bool.and_true, Bool.true_and, Bool.and_false, Bool.false_and, Bool.or_true, Bool.true_or, Bool.or_false, Bool.false_or, hS, hln, hiI, i1, Nat.add_zero, (i2 h.prs).2.1, (i2 h.prs).2.2, c1', c2', lk, pExtract, nth, b2, e3, (i2 h3.prs).1, ckI, agg4 h3.gA rfl, (i2 h3.prs).2.1, b4, e5, e6', t50, bb, j1, e9]
end Go.Eng.Sh
end
section
namespace Go.Eng.Sh
open Go.Nd (Ptr sumL Kvs lookP setQ delP putP Srt Dst leafOf)
theorem mapEnd (D : Dyn) (n : Nat) (hn : 200000000 ≤ n) {H0 H : AH} {A M N : Nat} {l : List AV} {ps q : Kvs} (h : St H0 A M H l ps q N) (hN : N ≤ 1000) :
    loopK n (f6zl4 D n) [.ptr A 0, .map M, .int .i64 ((0 : Nat) : Int)] H = some (.exit 2 [], H) := by
  obtain ⟨ks, vs, pp, rfl, k1, k2⟩ := h.head
  have hfe := h.few
  have s1 : Strs H ks (ps.map Prod.fst) := by have := k1.row; simpa [Strs] using this
  have s2 : Strs H vs (ps.map Prod.snd) := by have := k2.row; simpa [Strs] using this
  have hln := k1.row.lnSl
  have hr := (Nd.srt_rising ps).1 h.srt
  rw [Nd.rising_ix] at hr
  refine loop_for (fun i => [.ptr A 0, .map M, .int .i64 (i : Nat)]) ps.length ?_ ?_ n (by omega)
  · intro i hi
    obtain ⟨p, i1, i2⟩ := s1.at (i := i) (by simpa using hi)
    obtain ⟨p', j1, j2⟩ := s2.at (i := i) (by simpa using hi)
    simp only [List.getElem_map] at i2 j2
    have hlk : lookP (ps[i]).1 q = some (ps[i]).2 := by rw [h.lk]; exact Nd.look_at h.srt (List.getElem?_eq_getElem hi)
    have lk := lk_ents h.gM (.agg [.str 0 0]) false (ps[i]).1
    rw [hlk] at lk
    simp only [lkR, cond_false, Option.map_some, Option.getD_some] at lk
    have hiI : ((i : Nat) : Int) < ((ps.length : Nat) : Int) := by omega
    by_cases h0 : i = 0
    · subst h0
      have h00 : ¬ ((0 : Nat) : Int) < ((0 : Nat) : Int) := by omega
      simp (config := { maxSteps := 1000000 }) (disch := omega) only [f6zl4, ev, lg, wnt_undef, if_true, if_false, decide_true, decide_false, Bool.not_true, Bool.not_false, Bool.false_eq_true, Bool.true_eq_false, Bool.and_true, Bool.true_and, Bool.and_false, Bool.false_and, Bool.or_true, Bool.true_or, Bool.or_false, Bool.false_or, ld1_get h.gA, hln, hiI, i1, i2, lk, fd1_agg, j1, j2, ne_eq, not_true_eq_false, h00, show ((0 : Nat) : Int) + ((1 : Nat) : Int) = ((0 + 1 : Nat) : Int) from rfl]
    · have hpos : ((0 : Nat) : Int) < ((i : Nat) : Int) := by omega
      obtain ⟨p2, m1, m2⟩ := s1.at (i := i - 1) (by simp; omega)
      simp only [List.getElem_map] at m2
      have hsub : ((i : Nat) : Int) - ((1 : Nat) : Int) = ((i - 1 : Nat) : Int) := by omega
      have hlt : ltS (ps[i - 1]).1 (ps[i]).1 = true := by
        have := hr (i - 1) (by simp; omega)
        simp only [List.getElem_map] at this
        simpa [show i - 1 + 1 = i by omega] using this
      simp (config := { maxSteps := 1000000 }) (disch := omega) only [f6zl4, ev, lg, wnt_undef, if_true, if_false, decide_true, decide_false, Bool.not_true, Bool.not_false, Bool.false_eq_true, Bool.true_eq_false, Bool.and_true, Bool.true_and, Bool.and_false, Bool.false_and, Bool.or_true, Bool.true_or, Bool.or_false, Bool.false_or, ld1_get h.gA, hln, hiI, i1, i2, lk, fd1_agg, j1, j2, ne_eq, not_true_eq_false, hpos, hsub, m1, m2, bStr_leq, hlt, Int.natCast_add]
  · intro m
    refine loop_exit ?_
    simp only [f6zl4, ev, lg, wnt_undef, if_true, if_false, decide_true, decide_false, Bool.not_true, Bool.not_false, Bool.false_eq_true, Bool.true_eq_false, Bool.and_true, Bool.true_and, Bool.and_false, Bool.false_and, Bool.or_true, Bool.true_or, Bool.or_false, Bool.false_or, ld1_get h.gA, hln, Int.lt_irrefl]
theorem nodeMap_walk (D : Dyn) (n : Nat) (hn : 200000000 ≤ n) {H : AH} (hk : H.ok) {v : AV} {acts : List Act} (ha : Acts H v acts) :
    ∃ H', f6z D n [v] H = some (.bool true, H') ∧ Prs H H' := by
  have hln := ha.lnSl
  have zok : ∀ H : AH, z11 D n [] H = some (.bool true, H) := fun H => z_ok D n H
  by_cases hl : acts.length ≤ 150
  case neg =>
    have hlI : ((150 : Nat) : Int) < ((acts.length : Nat) : Int) := by omega
    refine ⟨H, ?_, Stp.refl hk⟩
    simp only [f6z, ev, lg, wnt_undef, if_true, if_false, decide_true, decide_false, Bool.not_true, Bool.not_false, Bool.false_eq_true, Bool.true_eq_false, Bool.and_true, Bool.true_and, Bool.and_false, Bool.false_and, Bool.or_true, Bool.true_or, Bool.or_false, Bool.false_or, hln, hlI, zok]
  case pos =>
  have hlI : ¬ ((150 : Nat) : Int) < ((acts.length : Nat) : Int) := by omega
  obtain ⟨H1, A, b1, p1, g1, m1, n1⟩ := box hk (.cells [.bool false, .nilSlice, .nilSlice, .nilSlice] 34 1 false)
  obtain ⟨H2, e2, g2, s2, n2⟩ := st_all p1.ok g1 (l' := [.bool true, .nilSlice, .nilSlice, .nilSlice]) rfl rfl
  have e2' : stN 4 (.ptr A 0) (.agg [.bool true, .nilSlice, .nilSlice, .nilSlice]) H1 = some (undefA, H2) := e2
  have P2 : Prs H H2 := p1.fresh s2 (fun B hB => by omega)
  obtain ⟨H3, M, b3, p3, g3, m3, n3⟩ := box P2.ok (.map [2] [])
  have P3 : Prs H H3 := P2.trans p3
  have h3 : St H A M H3 [.bool true, .nilSlice, .nilSlice, .nilSlice] [] [] 0 :=
    ⟨P3, Prs.get p3 P2.ok g2, g3, by omega, by have := P2.next; omega, by omega, ⟨_, _, _, rfl, .inl (Own.nil ..), .inl (Own.nil ..), .inl (Own.nil ..)⟩, trivial, by simp, trivial, fun k => rfl, rfl, by simp⟩
  have lp : Fin (loopK n (f6zl3 D n) [v, .ptr A 0, .map M, .int .i64 ((0 : Nat) : Int)] H3) fun x H' => Prs H H' ∧ (x = .ret (.bool true) ∨ (x = .exit 0 [.ptr A 0, .map M] ∧ ∃ l ps q, St H A M H' l ps q acts.length)) := by
    refine Fin.loop (fun k us H' => ∃ (i : Nat) (l : List AV) (ps q : Kvs), us = [v, .ptr A 0, .map M, .int .i64 (i : Nat)] ∧ St H A M H' l ps q i ∧ i ≤ acts.length ∧ k = acts.length - i) ?_ n acts.length _ H3 ⟨0, _, _, _, rfl, h3, by omega, by omega⟩ (by omega)
    rintro k us H' ⟨i, l, ps, q, rfl, h, hi, rfl⟩
    by_cases hlt : i < acts.length
    · rcases mapL D n hn ha h hlt hl with ⟨H'', e, p⟩ | ⟨l', ps', q', H'', e, h'⟩
      · exact ⟨_, _, e, p, .inl rfl⟩
      · exact ⟨_, _, e, acts.length - (i + 1), by omega, i + 1, l', ps', q', rfl, h', by omega, rfl⟩
    · obtain rfl : i = acts.length := by omega
      refine ⟨.exit 0 [.ptr A 0, .map M], H', ?_, h.prs, .inr ⟨rfl, _, _, _, h⟩⟩
      simp only [f6zl3, ev, lg, wnt_undef, if_true, if_false, decide_true, decide_false, Bool.not_true, Bool.not_false, Bool.false_eq_true, Bool.true_eq_false, Bool.and_true, Bool.true_and, Bool.and_false, Bool.false_and, Bool.or_true, Bool.true_or, Bool.or_false, Bool.false_or, hln, Int.lt_irrefl]
  have bs : bldS [(0, 1), (1, 1), (2, 1), (3, 1)] [.bool false, .nilSlice, .nilSlice, .nilSlice] [(0, .bool true)] = some (.agg [.bool true, .nilSlice, .nilSlice, .nilSlice]) := rfl
  have mm : mkM [2] = some (.map [2] [], fun A => .map A) := rfl
  obtain ⟨x, H4, e4, P4, rfl | ⟨rfl, l, ps, q, h4⟩⟩ := lp
  · refine ⟨H4, ?_, P4⟩
    simp only [f6z, ev, lg, wnt_undef, if_true, if_false, decide_true, decide_false, Bool.not_true, Bool.not_false, Bool.false_eq_true, Bool.true_eq_false, Bool.and_true, Bool.true_and, Bool.and_false, Bool.false_and, Bool.or_true, Bool.true_or, Bool.or_false, Bool.false_or, hln, hlI, zok, bs, b1, e2', mm, b3, e4]
  · refine ⟨H4, ?_, P4⟩
    simp only [f6z, ev, lg, wnt_undef, if_true, if_false, decide_true, decide_false, Bool.not_true, Bool.not_false, Bool.false_eq_true, Bool.true_eq_false, Bool.and_true, Bool.true_and, Bool.and_false, Bool.false_and, Bool.or_true, Bool.true_or, Bool.or_false, Bool.false_or, hln, hlI, zok, bs, b1, e2', mm, b3, e4, f6zb6, mapEnd D n hn h4 (by omega), f6zb5]
end Go.Eng.Sh
end
section
namespace Go.Eng.Sh
open Go.Proofs
theorem cellsOf49 : Try.prog.cellsOf 49 = 3 := by kernel_rfl
theorem cellsOf5 : Try.prog.cellsOf 5 = 1 := by kernel_rfl
theorem act_cells {H : Type} {enc : TypeId × Value → H} {w : World} {base : Nat} {sp : Nat → Bool} {held : Bool} {fuel : Nat} {cs : List Value} {x : DataW H × List MemPlace} (h : DataW.trod enc Try.prog w base sp held fuel 49 cs = some x) :
    ∃ (k : Nat) (s t : ByteArray), cs = [.int .u8 (k : Nat), .string s, .string t] := by
  obtain ⟨y0, y1, y2, n, _, hl, h0, h1, h2⟩ := Deep.trod_struct3 Try.underlying49 h
  simp only [cellsOf5, cellsOf9] at h0 h1 h2
  obtain ⟨a, ha, _, hw⟩ := DataW.trod_int Try.underlying5 h0
  obtain ⟨b, hb, _⟩ := DataW.trod_string Try.underlying9 h1
  obtain ⟨c, hc, _⟩ := DataW.trod_string Try.underlying9 h2
  rw [cellsOf49] at hl
  match cs, hl with
  | [u, v, z], _ =>
    simp at ha hb hc
    subst ha; subst hb; subst hc
    simp only [Lit.wf, IntKind.min, IntKind.max, IntKind.signed, IntKind.bits, Bool.and_eq_true, decide_eq_true_eq] at hw
    simp at hw
    exact ⟨a.toNat, b, c, by rw [show ((a.toNat : Nat) : Int) = a from by omega]⟩
theorem acts_arg {H : Type} {enc : TypeId × Value → H} {w : World} {base : Nat} {held : Bool} {v : Value} {d : DataW H} {ps : List MemPlace} (hv : ∃ a len cap, v = .slice a len cap) (h : DataW.Trod enc Try.prog w base (fun _ => true) held 46 v d ps) :
    ∃ l : List Act, Acts (H0 w) (argAV w.heap.size v) l := by
  obtain ⟨a0, len0, cap0, rfl⟩ := hv
  obtain ⟨fuel, hf⟩ := h
  show ∃ l : List Act, Acts (H0 w) (argCell w.heap.size (.slice a0 len0 cap0)) l
  rcases Deep.open_slice Try.underlying46 (cs := [.slice a0 len0 cap0]) hf with ⟨h1, _⟩ | ⟨a, len, cap, m, n, D, Pl, h1, _, hl, _, hm, _, hx⟩
  · simp only [List.cons.injEq, and_true] at h1; rw [h1]
    exact ⟨[], by simp, .inl ⟨rfl, rfl⟩⟩
  · simp only [List.cons.injEq, and_true] at h1; rw [h1]
    simp only [if_true] at hm; subst hm
    by_cases h0 : m = 0
    · subst h0
      obtain rfl : len = 0 := by omega
      exact ⟨[], by simp, .inr (.inl ⟨rfl, rfl⟩)⟩
    · simp only [cellsOf49] at hx
      have hp : ∀ i, i < m → ∃ p : Nat × ByteArray × ByteArray, w.cells? base (a.add (i * 3)) 3 = some [.int .u8 (p.1 : Nat), .string p.2.1, .string p.2.2] := fun i hi => by
        obtain ⟨cs, k1, k2⟩ := hx i hi
        obtain ⟨k, s, t, rfl⟩ := act_cells k2
        exact ⟨(k, s, t), k1⟩
      obtain ⟨Px, hP⟩ := Deep.choose_lt hp
      obtain ⟨b, o, sp⟩ := a
      obtain ⟨c1, arr, te, fz, hg, hat0⟩ := cells_at (hP 0 (by omega)) (by omega)
      have hsp : sp = none := by simpa [Addr.add] using c1
      subst hsp
      rw [add_none] at hg
      simp only at hg
      have hat : ∀ i, i < m → ∀ j, j < 3 → arr[o + i * 3 + j]? = ([.int .u8 ((Px i).1 : Nat), .string (Px i).2.1, .string (Px i).2.2] : List Value)[j]? := fun i hi j hj => by
        obtain ⟨_, arr', te', fz', hg', hv⟩ := cells_at (hP i hi) (by omega)
        rw [add_none] at hg' hv
        simp only at hg' hv
        rw [hg] at hg'
        simp only [Option.some.injEq, Obj.cells.injEq] at hg'
        rw [hg'.1]; exact hv j hj
      have hsz : o + m * 3 ≤ arr.size := by
        have h2 := hat (m - 1) (by omega) 2 (by omega)
        simp only [List.getElem?_cons_succ, List.getElem?_cons_zero] at h2
        have := (Array.getElem?_eq_some_iff.1 h2).1; omega
      rw [argSlice w (by omega) (heap_lt hg)]
      refine ⟨(List.range len).map (fun i => ⟨(Px i).1, (Px i).2.1.data.toList, (Px i).2.2.data.toList⟩), ⟨act_len _, .inr (.inr ⟨b, o, 2 * m, _, te, 0, false, by simp, H0_cells w hg, heap_lt hg, by simp; omega, ?_⟩)⟩⟩
      apply List.ext_getElem?
      intro q
      simp only [List.length_map, List.length_range]
      by_cases hq : q < len * 3
      · have hqi : q / 3 < len := by omega
        have hqj : q % 3 < 3 := Nat.mod_lt _ (by omega)
        have e1 : q = q / 3 * 3 + q % 3 := by omega
        rw [List.getElem?_take_of_lt hq, List.getElem?_drop, List.getElem?_map, Array.getElem?_toList]
        have h3 := hat (q / 3) (by omega) (q % 3) hqj
        rw [show o + q / 3 * 3 + q % 3 = o + q from by omega] at h3
        have h4 := act_get ((List.range len).map (fun i => (⟨(Px i).1, (Px i).2.1.data.toList, (Px i).2.2.data.toList⟩ : Act))) (q / 3) (q % 3) (by simpa using hqi) hqj
        rw [← e1] at h4
        rw [h3, h4, getD_lt (by simpa using hqi)]
        simp only [List.getElem_map, List.getElem_range]
        generalize q % 3 = r at hqj
        match r, hqj with
        | 0, _ => rfl
        | 1, _ => exact congrArg some (cellAV_string _ _)
        | 2, _ => exact congrArg some (cellAV_string _ _)
      · rw [List.getElem?_eq_none (by simp; omega), List.getElem?_eq_none (by rw [act_len]; simp; omega)]
end Go.Eng.Sh
namespace Go.Proofs.Ytghipbccmngkpaa.nodeMap
open Go.ChangeShapes Go.WideShapes Go.ChangeAt Go.RowKit
open Go.ChangeMaps (open_string shut_string)
theorem own : ownKnob Try.prog.godebug = none := by kernel_rfl
theorem laid : laidOutB Try.prog = true := by kernel_rfl
theorem contract (H : Type) (enc : TypeId × Value → H) (W : World) (base : Nat) (args : Array Value) (ds gs : List (DataW H)) (before : List MemPlace)
    (hval : ∀ (j : Nat) t v, Try.f6.params[j]? = some t → args[j]? = some v → Value.okWide Try.prog W .any base t v)
    (hW : DataW.Whole enc Try.prog Try.f6.params.toList Rows.nodeMapSpec.vars false W args.toList ds gs before) :
    Calls Try.prog 6 args W fun e W' => ∃ v, e = .returned v ∧ Rows.nodeMapSpec.post enc Try.prog Try.f6 false true false false W args v W' := by
  have hW' := hW
  obtain ⟨p, q, hA0, hV, rfl, hfz, hnd⟩ := hW
  have hA : DataW.TrodAll enc Try.prog W 0 (fun _ => true) true Try.f6.params.toList args.toList ds p := hA0
  rw [Try.params6] at hA hval
  obtain ⟨v0, vs0, d0, ds0, p0, q0, hargs, rfl, rfl, h0, r0⟩ := trodAll_cons hA
  obtain ⟨rfl, rfl, rfl⟩ := trodAll_nil r0
  obtain rfl : args = #[v0] := by cases args; simp_all
  obtain ⟨rfl, rfl⟩ := trodVars_none hV
  clear hA0
  have hlt0 : ∀ x ∈ p0, x.block < W.heap.size := fun x hx => hW'.lt x (by simp [hx])
  obtain ⟨acts, hN⟩ := Go.Eng.Sh.acts_arg (okWide_slice Try.underlying46 (hval 0 46 v0 rfl rfl)) h0
  obtain ⟨m, hm⟩ : ∃ m : Nat, 200000000 ≤ m := ⟨_, Nat.le_refl _⟩
  obtain ⟨H', hrun, hP⟩ := Go.Eng.Sh.nodeMap_walk (Go.Eng.Sh.dy (m + 1)) (m + 1) (by omega) (Go.Eng.H0_ok W) hN
  have hcall := Go.Eng.calls_param (Go.Eng.Sh.f6z_ok (Go.Eng.Sh.dy_ok (m + 1)) (m + 1)) W (args := #[v0]) (H' := H') hrun (fun A hA => hP.keep A hA (fun x => x))
  refine hcall.mono fun e W' ⟨he, hb⟩ => ?_
  subst he
  simp only [List.append_nil] at hW'

  refine ⟨_, rfl, _, _, _, [], p0 ++ [], [], hW', ?_, ?_, rfl, hb.frame _, fun h => by cases h⟩
  · exact trodAll_cons_mk (shut_bool Try.underlying4 _) trodAll_mk0
  · exact trodAll_cons_mk (Below.trod laid (by kernel_rfl) (of_decide_eq_true (by kernel_rfl)) h0 hb hlt0) trodAll_mk0

set_option maxRecDepth 100000 in
theorem lifted (os : Os) (started : os.Started) (H : Type) (enc : TypeId × Value → H) :
    ReturnsInHanded {} Try.checked os 6 .any (Rows.nodeMapSpec.pre6 enc Try.prog Try.f6 Rows.nodeMapRow.domain false) (Rows.nodeMapSpec.post enc Try.prog Try.f6 false true false false) := by
  refine returnsInHanded_of_change (C := Try.checked) own started (by kernel_rfl) Try.func6
    (ChangeSpec.witness6 (enc := enc) (C := Try.checked) false ⟨#[], #[.slice none 0 0], []⟩ 8 (by kernel_rfl) (by kernel_rfl) (by kernel_rfl) (by kernel_rfl)) ?_
  intro W base args ds gs before hval hW _ _
  exact contract H enc W base args ds gs before hval hW

theorem holds : Rows.NodeMapSaid :=
  OpenClaim.holds_of_wide 6 Try.f6 rfl rfl rfl rfl rfl rfl rfl ⟨rfl, rfl, rfl, rfl, rfl⟩ rfl rfl rfl rfl rfl (by kernel_rfl) Try.func6 (by kernel_rfl)
    (of_decide_eq_true (by kernel_rfl)) (by unfold Func.isWrapper; first | (rw [if_pos (by decide +kernel)]; kernel_rfl) | (rw [if_neg (by decide +kernel)]; exact ⟨rfl, rfl⟩))
    (fun os started H enc _ => lifted os started H enc)
end Go.Proofs.Ytghipbccmngkpaa.nodeMap
namespace Go.Proofs.Ytghipbccmngkpaa
theorem nodeMap_holds : Rows.NodeMapSaid := nodeMap.holds
end Go.Proofs.Ytghipbccmngkpaa
end
