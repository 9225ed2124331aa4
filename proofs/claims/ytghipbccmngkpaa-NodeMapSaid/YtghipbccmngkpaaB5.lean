/- A checked evaluator for the program, part 5: no condition. -/
import Derived.Test.YtghipbccmngkpaaB4
import Derived.Test.YtghipbccmngkpaaRows
import Derived.ProofKit
import Derived.OpenShut
import Derived.Carry
set_option linter.all false
set_option linter.unusedVariables false
set_option linter.unusedSimpArgs false
section
namespace Go.Eng.Sh
open Go.Nd (Ptr be mayP encP)
theorem be_cons : ∀ (i n : Nat), be (i + 1) n = UInt8.ofNat (n / 256 ^ i) :: be i n
  | 0, n => by simp [be]
  | i + 1, n => by
    rw [be, be_cons i (n / 256), Nat.div_div_eq_div_mul, Nat.mul_comm 256, ← Nat.pow_succ]; rfl
theorem set_seg {c m : List AV} {o : Nat} {x : AV} (h : o < c.length) : (c.take (o + 1) ++ m).set o x = c.take o ++ (x :: m) := by
  have hl : (c.take o).length = o := by simp; omega
  rw [sum_take_succ c o h, List.append_assoc, List.set_append_right _ _ (by omega), hl]
  simp
theorem put_ok (D : Dyn) (n : Nat) {H : AH} (hk : H.ok) {A off k cc : Nat} {c : List AV} {e : TypeId} {g : Bool} (z : Nat) (hA : H.h.get A = some (.cells c e 1 g)) (hc : off + k ≤ c.length) (hkk : k ≤ 8) (hn : 100 ≤ n) :
    ∃ H', f53 D n [.slice A off k cc, .int .u64 (z : Nat)] H = some (.tuple [], H') ∧ H'.h.get A = some (.cells (c.take off ++ (bytesV (be k z) ++ c.drop (off + k))) e 1 g) ∧ Stp (fun B => B = A) H H' ∧ H'.next = H.next := by
  have hlt := hk.lt hA
  have key := loop_inv (b := f53l0 D n) k (fun i vs H' => vs = [.slice A off k cc, .int .u64 (z : Nat), .int .i64 (k : Nat), .int .i64 (i : Nat)] ∧ i ≤ k ∧ H'.h.get A = some (.cells (c.take (off + (k - i)) ++ (bytesV (be i z) ++ c.drop (off + k))) e 1 g) ∧ Stp (fun B => B = A) H H' ∧ H'.next = H.next)
    (fun i vs H' hi ⟨hvs, hik, hg, hst, hnx⟩ => by
      subst hvs
      have hb : Nat.blt (k - 1 - i) k = true := by rw [Nat.blt_eq]; omega
      have hsub : (((k : Nat) : Int) - 1 - (i : Int)) = ((k - 1 - i : Nat) : Int) := by omega
      have hix : ixSl 1 (.slice A off k cc) (.int .i64 ((k - 1 - i : Nat) : Int)) = some (.ptr A (off + (k - 1 - i))) := by
        simp only [ixSl, natOf_int _ (show (0 : Int) ≤ ((k - 1 - i : Nat) : Int) by omega), Int.toNat_natCast, hb, cond_true, fN_eq, Nat.mul_one]
      have hst1 := st1_ok (x := .int .u8 ((((z / 256 ^ i % 256 : Nat) : Nat)) : Int)) (o := off + (k - 1 - i)) hg (by decide) rfl (by simp [bytesV, Nd.be_length]; omega)
      have hcell : (c.take (off + (k - i)) ++ (bytesV (be i z) ++ c.drop (off + k))).set (off + (k - 1 - i)) (.int .u8 (((z / 256 ^ i % 256 : Nat)) : Int)) = c.take (off + (k - (i + 1))) ++ (bytesV (be (i + 1) z) ++ c.drop (off + k)) := by
        rw [show off + (k - i) = off + (k - 1 - i) + 1 by omega, set_seg (by omega), be_cons, show k - (i + 1) = k - 1 - i by omega]
        simp [bytesV]
      have hsh : ((z : Nat) : Int) / 2 ^ (8 * i) = ((z / 256 ^ i : Nat) : Int) := by
        rw [← pow256]; simp
      refine ⟨_, H'.put A (.cells (c.take (off + (k - (i + 1))) ++ (bytesV (be (i + 1) z) ++ c.drop (off + k))) e 1 g), ?_, rfl, by omega, by rw [AH.put_get, if_pos rfl], ?_, hnx⟩
      · rw [hcell] at hst1
        have hsh' := bInt_shr .u64 .i64 (a := (z : Nat)) (s := 8 * i) (by omega) (by simp [IntKind.bits]; omega)
        rw [hsh] at hsh'
        have h8 : (((8 : Nat) : Int) * (i : Int)) = ((8 * i : Nat) : Int) := by omega
        have hw : IntKind.wrap .u8 ((z / 256 ^ i : Nat) : Int) = ((z / 256 ^ i % 256 : Nat) : Int) := by rw [wrap_u8]; omega
        have h1 : ((k : Nat) : Int) - ((1 : Nat) : Int) - (i : Int) = ((k - 1 - i : Nat) : Int) := by omega
        simp (disch := omega) only [f53l0, ev, lnSl, h1, hix, h8, hsh', hw, hst1]
        simp [hi]
      · exact hst.put (by omega) _ (.inr rfl)) n _ H ⟨rfl, Nat.zero_le _, by simpa [be, bytesV] using hA, Stp.refl hk, rfl⟩ (by omega)
  obtain ⟨m, vs', H', h1, rfl, _, h3, h4, h5⟩ := key
  refine ⟨H', ?_, by simpa using h3, h4, h5⟩
  have hl : loopK (m + 1) (f53l0 D n) [.slice A off k cc, .int .u64 (z : Nat), .int .i64 (k : Nat), .int .i64 (k : Nat)] H' = some (.exit 0 [], H') := loop_exit (by simp [f53l0, ev])
  rw [hl] at h1
  simp only [f53, ev, lnSl, h1, f53b1]
theorem eqA_ptr (p q : Ptr) : eqA [6, 6, 10] (.agg (ptrV p)) (.agg (ptrV q)) = some (decide (p = q)) := by
  obtain ⟨a, b, c⟩ := p; obtain ⟨a', b', c'⟩ := q
  have h1 := fun x y => cellEq_int .i64 x y
  have h2 := fun x y => cellEq_int .u64 x y
  simp only [icode] at h1 h2
  simp only [eqA, ptrV, lenL, Nat.succ_eq_add_one, Nat.beq_refl, List.length_cons, List.length_nil, Bool.and_self, cond_true, cellsEq, h1, h2]
  by_cases e1 : a = a' <;> by_cases e2 : b = b' <;> by_cases e3 : c = c' <;> simp [e1, e2, e3]
theorem cmpO_eql (b : Bool) : cmpO .eql (some b) = some (.bool b) := by simp only [cmpO, mkB_eq]
theorem cmpO_neq (b : Bool) : cmpO .neq (some b) = some (.bool !b) := by simp only [cmpO, mkB_eq]
theorem may_ok (D : Dyn) (n : Nat) {H : AH} (hk : H.ok) (p : Ptr) : ∃ H', f52 D n [.agg (ptrV p)] H = some (.bool (mayP p), H') ∧ Prs H H' := by
  refine ⟨H.push (.cells (ptrV p) 59 1 false), ?_, (Stp.refl hk).push _⟩
  have hz : eqA [6, 6, 10] (.agg (ptrV p)) (.agg (ptrV ⟨0, 0, 0⟩)) = _ := eqA_ptr p ⟨0, 0, 0⟩
  obtain ⟨a, b, c⟩ := p
  simp only [ptrV] at hz
  simp only [f52, ev, bA_ok hk, ptrV, subN, takeN, Option.map_some, lg, bldS, fillA]
  by_cases h0 : a = 0
  · subst h0
    simp only [show ((0 : Nat) : Int) = 0 from rfl, if_true, hz, cmpO_eql, ev, mayP]
    simp
  · simp only [show ((0 : Nat) : Int) = 0 from rfl, if_neg h0, ev, mayP]
    rfl
def Z (n : Nat) : List AV := List.replicate n (.int .u8 ((0 : Nat) : Int))
theorem rep16 : rep 16 [.int .u8 ((0 : Nat) : Int)] = Z 16 := rfl
theorem put_seg (D : Dyn) (n : Nat) {H : AH} (hk : H.ok) {A off k cc : Nat} {pre seg post : List AV} {e : TypeId} {g : Bool} (z : Nat) (hA : H.h.get A = some (.cells (pre ++ (seg ++ post)) e 1 g)) (hp : pre.length = off) (hs : seg.length = k) (hkk : k ≤ 8) (hn : 100 ≤ n) :
    ∃ H', f53 D n [.slice A off k cc, .int .u64 (z : Nat)] H = some (.tuple [], H') ∧ H'.h.get A = some (.cells (pre ++ (bytesV (be k z) ++ post)) e 1 g) ∧ Stp (fun B => B = A) H H' ∧ H'.next = H.next := by
  obtain ⟨H', h1, h2, h3⟩ := put_ok D n hk (cc := cc) (k := k) (off := off) z hA (by simp; omega) hkk hn
  refine ⟨H', h1, ?_, h3⟩
  have hd : (pre ++ (seg ++ post)).drop (off + k) = post := by rw [← List.append_assoc, List.drop_left' (by rw [List.length_append]; omega)]
  rw [List.take_left' hp, hd] at h2
  exact h2
theorem slA (A lo hi : Nat) (h1 : lo ≤ hi) (h2 : hi ≤ 16) (h3 : lo < 16) : slArr 16 1 (.ptr A 0) (some (.int .i64 (lo : Nat))) (some (.int .i64 (hi : Nat))) none = some (.slice A lo (hi - lo) (2 * (16 - lo))) := by
  have e1 : Nat.ble hi 16 = true := by rw [Nat.ble_eq]; exact h2
  have e2 : Nat.ble lo hi = true := by rw [Nat.ble_eq]; exact h1
  have e3 : Nat.beq 16 lo = false := by rw [Bool.eq_false_iff]; intro h; have := Nat.eq_of_beq_eq_true h; omega
  simp [slArr, natOpt, natOf_int, acut, e1, e2, e3, fN_eq, show ((32 % 2).beq 0) = true from rfl, show (32 / 2).beq lo = false from e3, show Nat.blt 0 1 = true from rfl]
theorem slA_hi (A : Nat) : slArr 16 1 (.ptr A 0) none (some (.int .i64 ((4 : Nat) : Int))) none = some (.slice A 0 4 32) := rfl
theorem slA_lo (A : Nat) : slArr 16 1 (.ptr A 0) (some (.int .i64 ((8 : Nat) : Int))) none none = some (.slice A 8 8 16) := rfl
theorem slA_no (A : Nat) : slArr 16 1 (.ptr A 0) none none none = some (.slice A 0 16 32) := rfl
theorem encPtr_no (D : Dyn) (n : Nat) {H : AH} (hk : H.ok) {p : Ptr} (hp : mayP p = false) : ∃ H', f33 D n [.agg (ptrV p)] H = some (.tuple [S [], .int .i64 (4 : Nat)], H') ∧ Prs H H' := by
  have hP : Prs H (H.push (.cells (ptrV p) 59 1 false)) := (Stp.refl hk).push _
  obtain ⟨H2, h2, hP2⟩ := may_ok D n hP.ok p
  have hd : takeN 3 (ptrV p) = some (ptrV p) := rfl
  refine ⟨H2, ?_, hP.trans hP2⟩
  have hs : (AV.str 0 0) = S [] := rfl
  have hd' : subN (ptrV p) 0 3 = some (ptrV p) := rfl
  simp only [f33, ev, bA_ok hk, hd', Option.map_some, h2, hp, hs]
  simp [ev]
theorem encPtr_ok (D : Dyn) (n : Nat) {H : AH} (hk : H.ok) {p : Ptr} (hp : mayP p = true) (hs : Nd.sumOk p) (hn : 100 ≤ n) : ∃ H', f33 D n [.agg (ptrV p)] H = some (.tuple [S (encP p), .int .i64 (0 : Nat)], H') ∧ Prs H H' := by
  have hP : Prs H (H.push (.cells (ptrV p) 59 1 false)) := (Stp.refl hk).push _
  obtain ⟨H2, h2, hP2⟩ := may_ok D n hP.ok p
  have hd' : subN (ptrV p) 0 3 = some (ptrV p) := rfl
  have h0 : ∃ a b s : Nat, p = ⟨a, b, s⟩ ∧ a < 4294967296 ∧ b < 4294967296 ∧ s < 18446744073709551616 := by
    obtain ⟨a, b, s⟩ := p
    simp only [Nd.sumOk] at hs
    have h1 : 0 ≤ a ∧ a < 8192 ∧ 0 ≤ b ∧ b ≤ 2147483647 := by
      simp only [mayP] at hp
      split at hp
      · simp only [Bool.and_eq_true, decide_eq_true_eq] at hp; omega
      · simp only [Bool.and_eq_true, decide_eq_true_eq] at hp; omega
    exact ⟨a.toNat, b.toNat, s.toNat, by congr 1 <;> omega, by omega, by omega, by omega⟩
  obtain ⟨a, b, s, rfl, ha, hb, hss⟩ := h0
  have hw : ∀ x : Nat, x < 18446744073709551616 → IntKind.wrap .u64 (x : Int) = (x : Int) := fun x hx => by rw [wrap_u64]; omega
  -- the bytes' own block
  have hP3 : Prs H2 (H2.push (.cells (Z 16) 89 1 false)) := (Stp.refl hP2.ok).push _
  have hB : (H2.push (.cells (Z 16) 89 1 false)).h.get H2.next = some (.cells ([] ++ (Z 4 ++ Z 12)) 89 1 false) := AH.push_get_eq _ _
  have hn3 : (H2.push (.cells (Z 16) 89 1 false)).next = H2.next + 1 := rfl
  generalize hH3 : H2.push (.cells (Z 16) 89 1 false) = H3 at hP3 hB hn3
  obtain ⟨H4, e4, g4, st4, n4⟩ := put_seg D n hP3.ok (cc := 32) (k := 4) (off := 0) a hB rfl (by simp [Z]) (by omega) hn
  rw [show [] ++ (bytesV (be 4 a) ++ Z 12) = bytesV (be 4 a) ++ (Z 4 ++ Z 8) from rfl] at g4
  obtain ⟨H5, e5, g5, st5, n5⟩ := put_seg D n st4.ok (cc := 24) (k := 4) (off := 4) b g4 (by simp [bytesV, Nd.be_length]) (by simp [Z]) (by omega) hn
  rw [← List.append_assoc, show Z 8 = Z 8 ++ [] from rfl] at g5
  obtain ⟨H6, e6, g6, st6, n6⟩ := put_seg D n st5.ok (cc := 16) (k := 8) (off := 8) s g5 (by simp [bytesV, Nd.be_length]) (by simp [Z]) (by omega) hn
  have hx3 : H3.h.get H.next = some (.cells (ptrV ⟨a, b, s⟩) 59 1 false) := hP3.get hP2.ok (hP2.get hP.ok (AH.push_get_eq _ _))
  have hlt2 : H.next < H2.next := by have := hP2.next; rw [AH.push_next] at this; omega
  have hx4 : H4.h.get H.next = some (.cells (ptrV ⟨a, b, s⟩) 59 1 false) := by rw [st4.keep _ (by have := hP3.next; omega) (by omega)]; exact hx3
  have hx5 : H5.h.get H.next = some (.cells (ptrV ⟨a, b, s⟩) 59 1 false) := by rw [st5.keep _ (by have := hP3.next; omega) (by omega)]; exact hx4
  have hbytes : bytesV (be 4 a) ++ bytesV (be 4 b) ++ (bytesV (be 8 s) ++ []) = bytesV (encP ⟨a, b, s⟩) := by simp [encP, bytesV]
  rw [hbytes] at g6
  have hcv : cvBS (.slice H2.next 0 16 32) H6 = some (S (encP ⟨a, b, s⟩)) := cvBS_row ⟨by simp [bytesV, Nd.encP_length], .inr (.inr ⟨_, _, _, _, _, _, _, rfl, g6, by have := (st6.ok).lt g6; exact this, by simp [bytesV, Nd.encP_length], by simp [List.take_of_length_le, bytesV, Nd.encP_length]⟩)⟩ (by simp)
  refine ⟨H6, ?_, ?_⟩
  · simp only [f33, ev, bA_ok hk, hd', Option.map_some, h2, hp]
    simp only [ev, bA_ok hP2.ok, Bool.not_true, Bool.false_eq_true, if_false, rep16, hH3, slA_hi, slA_lo, slA_no, slA _ 4 8 (by omega) (by omega) (by omega), ld1_get hx3, ld1_get hx4, ld1_get hx5, ptrV, hw a (by omega), hw b (by omega), hw s (by omega), e4, e5, e6, hcv]
  · have hst : Stp (fun B => B = H2.next) H3 H6 := (st4.trans st5).trans st6
    exact (hP.trans hP2).trans (hP3.fresh hst (fun A hA => by omega))
end Go.Eng.Sh
end
section
namespace Go.Eng.Sh
open Go.Nd (Ptr)
theorem rising_iff (lt : Str → Str → Bool) : ∀ l : List Str, Nd.rising lt l = true ↔ ∀ i (h : i + 1 < l.length), lt l[i] l[i + 1] = true
  | [] => by simp [Nd.rising]
  | [a] => by simp [Nd.rising]
  | a :: b :: l => by
    have ih := rising_iff lt (b :: l)
    simp only [Nd.rising, Bool.and_eq_true, ih]
    constructor
    · rintro ⟨h1, h2⟩ i h
      cases i with
      | zero => exact h1
      | succ i => exact h2 i (by simpa using h)
    · intro h
      exact ⟨h 0 (by simp), fun i hi => h (i + 1) (by simpa using hi)⟩
/-- May key i stand where it stands? -/
def goodK (l : List Str) (i : Nat) : Bool := Nd.mayK (l.getD i []) && (decide (i = 0) || ltS (l.getD (i - 1) []) (l.getD i []))
theorem goodK_all (l : List Str) : (List.range l.length).all (goodK l) = (l.all Nd.mayK && Nd.rising ltS l) := by
  rw [Bool.eq_iff_iff, Bool.and_eq_true, rising_iff]
  simp only [List.all_eq_true, List.mem_range, goodK, Bool.and_eq_true, Bool.or_eq_true, decide_eq_true_eq]
  constructor
  · intro h
    refine ⟨fun x hx => ?_, fun i hi => ?_⟩
    · obtain ⟨i, hi, rfl⟩ := List.mem_iff_getElem.1 hx
      have := (h i hi).1
      rwa [List.getD_eq_getElem?_getD, List.getElem?_eq_getElem hi] at this
    · have := (h (i + 1) hi).2
      simp only [Nat.add_eq_zero_iff, Nat.one_ne_zero, and_false, false_or, Nat.add_sub_cancel] at this
      rwa [List.getD_eq_getElem?_getD, List.getElem?_eq_getElem (by omega), List.getD_eq_getElem?_getD, List.getElem?_eq_getElem hi] at this
  · rintro ⟨h1, h2⟩ i hi
    refine ⟨?_, ?_⟩
    · rw [List.getD_eq_getElem?_getD, List.getElem?_eq_getElem hi]; exact h1 _ (List.getElem_mem hi)
    · by_cases h0 : i = 0
      · exact .inl h0
      · right
        have := h2 (i - 1) (by omega)
        rw [List.getD_eq_getElem?_getD, List.getElem?_eq_getElem (show i - 1 < l.length by omega), List.getD_eq_getElem?_getD, List.getElem?_eq_getElem hi]
        simpa [show i - 1 + 1 = i by omega] using this
theorem all_range {α : Type} (l : List α) (d : α) (f : α → Bool) : (List.range l.length).all (fun i => f (l.getD i d)) = l.all f := by
  rw [Bool.eq_iff_iff]
  simp only [List.all_eq_true, List.mem_range]
  constructor
  · intro h x hx
    obtain ⟨i, hi, rfl⟩ := List.mem_iff_getElem.1 hx
    have := h i hi
    rwa [List.getD_eq_getElem?_getD, List.getElem?_eq_getElem hi] at this
  · intro h i hi
    rw [List.getD_eq_getElem?_getD, List.getElem?_eq_getElem hi]; exact h _ (List.getElem_mem hi)
theorem getD_lt {α : Type} {l : List α} {i : Nat} {d : α} (h : i < l.length) : l.getD i d = l[i] := by rw [List.getD_eq_getElem?_getD, List.getElem?_eq_getElem h]; rfl
theorem shaped0 (D : Dyn) (n : Nat) {H : AH} {ks : AV} {l : List Str} (h : Strs H ks l) {A e : Nat} {c : List AV} (hA : H.h.get A = some (.cells c e 1 false)) (hc : c[1]? = some ks) (hl : l.length ≤ 1000000000) (n' : Nat) (hn : l.length < n') :
    ∃ e H', loopK n' (f30l0 D n) [.ptr A 0, ks, .int .i64 (l.length : Nat), .int .i64 (0 : Nat)] H = some (e, H') ∧ if (List.range l.length).all (goodK l) then (e = .exit 0 [.ptr A 0] ∧ H' = H) else (e = .ret (.bool false) ∧ H' = H) := by
  refine loop_all l.length (goodK l) (fun i vs H' => H' = H ∧ vs = [.ptr A 0, ks, .int .i64 (l.length : Nat), .int .i64 (i : Nat)]) (fun e H' => e = .exit 0 [.ptr A 0] ∧ H' = H) (fun e H' => e = .ret (.bool false) ∧ H' = H) ?_ ?_ ?_ n' _ H ⟨rfl, rfl⟩ hn
  · rintro i vs H' hi ⟨rfl, rfl⟩ hg
    obtain ⟨p, h1, h2⟩ := h.at hi
    simp only [goodK, getD_lt hi, Bool.and_eq_true, Bool.or_eq_true, decide_eq_true_eq] at hg
    refine ⟨_, H', ?_, rfl, rfl⟩
    have hiI : ((i : Nat) : Int) < ((l.length : Nat) : Int) := by omega
    by_cases h0 : i = 0
    · subst h0
      simp (disch := omega) only [f30l0, ev, lg, wnt_undef, if_true, if_false, decide_true, decide_false, Bool.not_true, Bool.not_false, Bool.false_eq_true, Bool.true_eq_false, Bool.and_true, Bool.true_and, Bool.and_false, Bool.false_and, Bool.or_true, Bool.true_or, Bool.or_false, Bool.false_or, hiI, h1, h2, mayKey_ok, hg.1, Int.lt_irrefl, show ((0 : Nat) : Int) + ((1 : Nat) : Int) = ((0 + 1 : Nat) : Int) from rfl]
    · have hlt : i - 1 < l.length := by omega
      obtain ⟨q, q1, q2⟩ := h.at hlt
      have hg2 := hg.2.resolve_left h0
      rw [getD_lt hlt] at hg2
      have hsub : ((i : Nat) : Int) - ((1 : Nat) : Int) = ((i - 1 : Nat) : Int) := by omega
      have hpos : ((0 : Nat) : Int) < (i : Int) := by omega
      simp (disch := omega) only [f30l0, ev, lg, wnt_undef, if_true, if_false, decide_true, decide_false, Bool.not_true, Bool.not_false, Bool.false_eq_true, Bool.true_eq_false, Bool.and_true, Bool.true_and, Bool.and_false, Bool.false_and, Bool.or_true, Bool.true_or, Bool.or_false, Bool.false_or, hiI, hpos, h1, h2, mayKey_ok, hg.1, ld1_get hA, hc, hsub, q1, q2, hg2, Int.natCast_add]
  · rintro i vs H' hi ⟨rfl, rfl⟩ hg
    obtain ⟨p, h1, h2⟩ := h.at hi
    have hiI : ((i : Nat) : Int) < ((l.length : Nat) : Int) := by omega
    refine ⟨.ret (.bool false), H', ?_, rfl, rfl, rfl⟩
    simp only [goodK, getD_lt hi] at hg
    cases hm : Nd.mayK l[i] with
    | false => simp (disch := omega) only [f30l0, ev, lg, wnt_undef, if_true, if_false, decide_true, decide_false, Bool.not_true, Bool.not_false, Bool.false_eq_true, Bool.true_eq_false, Bool.and_true, Bool.true_and, Bool.and_false, Bool.false_and, Bool.or_true, Bool.true_or, Bool.or_false, Bool.false_or, hiI, h1, h2, mayKey_ok, hm]
    | true =>
      simp only [hm, Bool.true_and, Bool.or_eq_false_iff, decide_eq_false_iff_not] at hg
      have hlt : i - 1 < l.length := by omega
      obtain ⟨q, q1, q2⟩ := h.at hlt
      have hg2 := hg.2
      rw [getD_lt hlt] at hg2
      have hsub : ((i : Nat) : Int) - ((1 : Nat) : Int) = ((i - 1 : Nat) : Int) := by omega
      have hpos : ((0 : Nat) : Int) < (i : Int) := by omega
      simp (disch := omega) only [f30l0, ev, lg, wnt_undef, if_true, if_false, decide_true, decide_false, Bool.not_true, Bool.not_false, Bool.false_eq_true, Bool.true_eq_false, Bool.and_true, Bool.true_and, Bool.and_false, Bool.false_and, Bool.or_true, Bool.true_or, Bool.or_false, Bool.false_or, hiI, hpos, h1, h2, mayKey_ok, hm, ld1_get hA, hc, hsub, q1, q2, hg2]
  · rintro vs H' ⟨rfl, rfl⟩
    refine ⟨.exit 0 [.ptr A 0], H', ?_, rfl, rfl, rfl⟩
    simp only [f30l0, ev, lg, wnt_undef, if_true, if_false, decide_true, decide_false, Bool.not_true, Bool.not_false, Bool.false_eq_true, Bool.true_eq_false, Bool.and_true, Bool.true_and, Bool.and_false, Bool.false_and, Bool.or_true, Bool.true_or, Bool.or_false, Bool.false_or, Int.lt_irrefl]
theorem shaped1 (D : Dyn) (n : Nat) {H : AH} {vs : AV} {l : List Str} (h : Strs H vs l) (hl : l.length ≤ 1000000000) (n' : Nat) (hn : l.length < n') :
    ∃ e H', loopK n' (f30l1 D n) [vs, .int .i64 (l.length : Nat), .int .i64 (0 : Nat)] H = some (e, H') ∧ if (List.range l.length).all (fun i => decide ((l.getD i []).length ≤ 200)) then (e = .exit 2 [] ∧ H' = H) else (e = .ret (.bool false) ∧ H' = H) := by
  refine loop_all l.length _ (fun i us H' => H' = H ∧ us = [vs, .int .i64 (l.length : Nat), .int .i64 (i : Nat)]) (fun e H' => e = .exit 2 [] ∧ H' = H) (fun e H' => e = .ret (.bool false) ∧ H' = H) ?_ ?_ ?_ n' _ H ⟨rfl, rfl⟩ hn
  · rintro i us H' hi ⟨rfl, rfl⟩ hg
    obtain ⟨p, h1, h2⟩ := h.at hi
    simp only [getD_lt hi, decide_eq_true_eq] at hg
    refine ⟨_, H', ?_, rfl, rfl⟩
    have hiI : ((i : Nat) : Int) < ((l.length : Nat) : Int) := by omega
    have hg' : ¬ ((200 : Nat) : Int) < ((l[i].length : Nat) : Int) := by omega
    simp (disch := omega) only [f30l1, ev, lg, wnt_undef, if_true, if_false, decide_true, decide_false, Bool.not_true, Bool.not_false, Bool.false_eq_true, Bool.true_eq_false, Bool.and_true, Bool.true_and, Bool.and_false, Bool.false_and, Bool.or_true, Bool.true_or, Bool.or_false, Bool.false_or, hiI, h1, h2, hg', Int.natCast_add]
  · rintro i us H' hi ⟨rfl, rfl⟩ hg
    obtain ⟨p, h1, h2⟩ := h.at hi
    simp only [getD_lt hi, decide_eq_false_iff_not] at hg
    refine ⟨.ret (.bool false), H', ?_, rfl, rfl, rfl⟩
    have hiI : ((i : Nat) : Int) < ((l.length : Nat) : Int) := by omega
    have hg' : ((200 : Nat) : Int) < ((l[i].length : Nat) : Int) := by omega
    simp (disch := omega) only [f30l1, ev, lg, wnt_undef, if_true, if_false, decide_true, decide_false, Bool.not_true, Bool.not_false, Bool.false_eq_true, Bool.true_eq_false, Bool.and_true, Bool.true_and, Bool.and_false, Bool.false_and, Bool.or_true, Bool.true_or, Bool.or_false, Bool.false_or, hiI, h1, h2, hg', Int.natCast_add]
  · rintro us H' ⟨rfl, rfl⟩
    refine ⟨.exit 2 [], H', ?_, rfl, rfl, rfl⟩
    simp only [f30l1, ev, lg, wnt_undef, if_true, if_false, decide_true, decide_false, Bool.not_true, Bool.not_false, Bool.false_eq_true, Bool.true_eq_false, Bool.and_true, Bool.true_and, Bool.and_false, Bool.false_and, Bool.or_true, Bool.true_or, Bool.or_false, Bool.false_or, Int.lt_irrefl]
def pz : Ptr := ⟨0, 0, 0⟩
theorem kid_b (x : Ptr) : (((decide (x.at_ < ((1 : Nat) : Int)) || decide (((8192 : Nat) : Int) ≤ x.at_)) || decide (x.birth < ((0 : Nat) : Int))) || decide (((2147483647 : Nat) : Int) < x.birth)) = !(Nd.kidOk x) := by
  rw [Bool.eq_iff_iff]; simp only [Nd.kidOk, Bool.or_eq_true, decide_eq_true_eq, Bool.not_eq_true', Bool.and_eq_false_iff, decide_eq_false_iff_not]; omega
theorem box_ptr {H' : AH} (hk : H'.ok) (x : Ptr) : ∃ H2, stN 3 (.ptr H'.next 0) (.agg (ptrV x)) (H'.push (.cells [.int .i64 (0 : Nat), .int .i64 (0 : Nat), .int .u64 (0 : Nat)] 59 1 false)) = some (undefA, H2) ∧ Prs H' H2 ∧ H2.next = H'.next + 1 ∧ H2.h.get H'.next = some (.cells (ptrV x) 59 1 false) := by
  refine ⟨_, stN_ok (AH.push_get_eq _ _) (by decide) rfl rfl (by decide), ?_, rfl, by rw [AH.put_get, if_pos rfl]; rfl⟩
  exact ((Stp.refl hk).push _).fresh ((Stp.refl (hk.push _)).put (by rw [AH.push_next]; omega) _ (.inr rfl)) (fun A hA => by omega)
theorem shaped3 (D : Dyn) (n : Nat) {H : AH} (hk : H.ok) {vs : AV} {l : List Ptr} (h : Ptrs H vs l) (hl : l.length ≤ 1000000000) (n' : Nat) (hn : l.length < n') :
    ∃ e H', loopK n' (f30l3 D n) [vs, .int .i64 (l.length : Nat), .int .i64 (0 : Nat)] H = some (e, H') ∧ if (List.range l.length).all (fun i => Nd.kidOk (l.getD i pz)) then (e = .exit 4 [] ∧ Prs H H') else (e = .ret (.bool false) ∧ Prs H H') := by
  refine loop_all l.length _ (fun i us H' => Prs H H' ∧ us = [vs, .int .i64 (l.length : Nat), .int .i64 (i : Nat)]) (fun e H' => e = .exit 4 [] ∧ Prs H H') (fun e H' => e = .ret (.bool false) ∧ Prs H H') ?_ ?_ ?_ n' _ H ⟨Stp.refl hk, rfl⟩ hn
  · rintro i us H' hi ⟨hP, rfl⟩ hg
    obtain ⟨p, h1, h2⟩ := (h.prs hP).at hi
    simp only [getD_lt hi] at hg
    generalize l[i] = x at hg h2
    obtain ⟨H2, hH2, hP2, n2, g2⟩ := box_ptr hP.ok x
    have hiI : ((i : Nat) : Int) < ((l.length : Nat) : Int) := by omega
    have hb := kid_b x
    rw [hg] at hb
    simp only [ptrV] at g2 hH2 h2
    refine ⟨_, H2, ?_, hP.trans hP2, rfl⟩
    simp (disch := omega) only [f30l3, ev, lg, wnt_undef, if_true, if_false, decide_true, decide_false, Bool.not_true, Bool.not_false, Bool.false_eq_true, Bool.true_eq_false, Bool.and_true, Bool.true_and, Bool.and_false, Bool.false_and, Bool.or_true, Bool.true_or, Bool.or_false, Bool.false_or, hiI, h1, h2, bA_ok hP.ok, hH2, ld1_get g2, hb, Int.natCast_add]
  · rintro i us H' hi ⟨hP, rfl⟩ hg
    obtain ⟨p, h1, h2⟩ := (h.prs hP).at hi
    simp only [getD_lt hi] at hg
    generalize l[i] = x at hg h2
    obtain ⟨H2, hH2, hP2, n2, g2⟩ := box_ptr hP.ok x
    have hiI : ((i : Nat) : Int) < ((l.length : Nat) : Int) := by omega
    have hb := kid_b x
    rw [hg] at hb
    simp only [ptrV] at g2 hH2 h2
    refine ⟨.ret (.bool false), H2, ?_, rfl, rfl, hP.trans hP2⟩
    simp (disch := omega) only [f30l3, ev, lg, wnt_undef, if_true, if_false, decide_true, decide_false, Bool.not_true, Bool.not_false, Bool.false_eq_true, Bool.true_eq_false, Bool.and_true, Bool.true_and, Bool.and_false, Bool.false_and, Bool.or_true, Bool.true_or, Bool.or_false, Bool.false_or, hiI, h1, h2, bA_ok hP.ok, hH2, ld1_get g2, hb]
  · rintro us H' ⟨hP, rfl⟩
    refine ⟨.exit 4 [], H', ?_, rfl, rfl, hP⟩
    simp only [f30l3, ev, lg, wnt_undef, if_true, if_false, decide_true, decide_false, Bool.not_true, Bool.not_false, Bool.false_eq_true, Bool.true_eq_false, Bool.and_true, Bool.true_and, Bool.and_false, Bool.false_and, Bool.or_true, Bool.true_or, Bool.or_false, Bool.false_or, Int.lt_irrefl]
end Go.Eng.Sh
end
section
namespace Go.Eng.Sh
open Go.Nd (Ptr sumL)
theorem shaped_ok (D : Dyn) (n : Nat) {H : AH} (hk : H.ok) {v : AV} {nd : Nd.Node} (h : NodeV H v nd) (hs : small nd) (hn : 200000000 ≤ n) :
    ∃ H', f30 D n [v] H = some (.bool (Nd.shaped ltS nd), H') ∧ Prs H H' := by
  obtain ⟨ks, vs, ps, rfl, h1, h2, h3⟩ := h
  obtain ⟨s1, s2, s3⟩ := hs
  have hP : Prs H (H.push (.cells [.bool nd.leaf, ks, vs, ps] 34 1 false)) := (Stp.refl hk).push _
  have hg : (H.push (.cells [.bool nd.leaf, ks, vs, ps] 34 1 false)).h.get H.next = some (.cells [.bool nd.leaf, ks, vs, ps] 34 1 false) := AH.push_get_eq _ _
  have hkl := Nd.sumL_ge nd.keys
  have hvl := Nd.sumL_ge nd.vals
  have hf : f30 D n [.agg [.bool nd.leaf, ks, vs, ps]] H = outR (jb 0 (loopK n (f30l0 D n) [.ptr H.next 0, ks, .int .i64 (nd.keys.length : Nat), .int .i64 (0 : Nat)] (H.push (.cells [.bool nd.leaf, ks, vs, ps] 34 1 false))) (f30b5 D n)) := by
    simp only [f30, ev, lg, wnt_undef, if_true, if_false, decide_true, decide_false, Bool.not_true, Bool.not_false, Bool.false_eq_true, Bool.true_eq_false, Bool.and_true, Bool.true_and, Bool.and_false, Bool.false_and, Bool.or_true, Bool.true_or, Bool.or_false, Bool.false_or, bA_ok hk, h1.lnSl]
  rw [hf]
  generalize H.push (.cells [.bool nd.leaf, ks, vs, ps] 34 1 false) = H1 at hP hg
  obtain ⟨e0, H2, e1, e2⟩ := shaped0 D n (h1.prs hP) hg (by rfl) (by omega) n (by omega)
  rw [e1]
  rw [goodK_all] at e2
  split at e2
  · rename_i hgood
    obtain ⟨rfl, rfl⟩ := e2
    simp only [Nd.shaped, hgood, Bool.true_and]
    obtain ⟨leaf, keys, vals, kids⟩ := nd
    simp only at h1 h2 h3 hg hkl hvl s1 s2 s3 hgood ⊢
    cases leaf with
    | true =>
      by_cases hc : vals.length = keys.length ∧ kids.length = 0
      · obtain ⟨hc1, hc2⟩ := hc
        obtain ⟨e3, H3, e4, e5⟩ := shaped1 D n (h2.prs hP) (by omega) n (by omega)
        have hz : ¬ (((vals.length : Nat) : Int) ≠ ((keys.length : Nat) : Int)) := by omega
        have hz2 : ¬ (((kids.length : Nat) : Int) ≠ ((0 : Nat) : Int)) := by omega
        have hkn : kids = [] := List.eq_nil_of_length_eq_zero hc2
        rw [all_range vals ([] : Str) (fun v => decide (v.length ≤ 200))] at e5
        split at e5
        · rename_i hv
          obtain ⟨rfl, rfl⟩ := e5
          refine ⟨H3, ?_, hP⟩
          have hr : (decide (vals.length = keys.length) && decide (kids = []) && vals.all fun v => decide (v.length ≤ 200)) = true := by simp only [hc1, hkn, hv, decide_true, Bool.and_self]
          simp only [f30b5, ev, lg, wnt_undef, if_true, if_false, decide_true, decide_false, Bool.not_true, Bool.not_false, Bool.false_eq_true, Bool.true_eq_false, Bool.and_true, Bool.true_and, Bool.and_false, Bool.false_and, Bool.or_true, Bool.true_or, Bool.or_false, Bool.false_or, ld1_get hg, h1.lnSl, h2.lnSl, h3.lnSl, hz, hz2, e4, f30b2, hr]
        · rename_i hv
          obtain ⟨rfl, rfl⟩ := e5
          refine ⟨H3, ?_, hP⟩
          have hr : (decide (vals.length = keys.length) && decide (kids = []) && vals.all fun v => decide (v.length ≤ 200)) = false := by simp only [Bool.eq_false_iff.2 hv, Bool.and_false]
          simp only [f30b5, ev, lg, wnt_undef, if_true, if_false, decide_true, decide_false, Bool.not_true, Bool.not_false, Bool.false_eq_true, Bool.true_eq_false, Bool.and_true, Bool.true_and, Bool.and_false, Bool.false_and, Bool.or_true, Bool.true_or, Bool.or_false, Bool.false_or, ld1_get hg, h1.lnSl, h2.lnSl, h3.lnSl, hz, hz2, e4, f30b2, hr]
      · refine ⟨H2, ?_, hP⟩
        have hr : (decide (vals.length = keys.length) && decide (kids = [])) = false := by
          rw [Bool.and_eq_false_iff, decide_eq_false_iff_not, decide_eq_false_iff_not]
          by_cases ha : vals.length = keys.length
          · right; intro hb; exact hc ⟨ha, by rw [hb]; rfl⟩
          · exact .inl ha
        simp only [f30b5, ev, lg, wnt_undef, if_true, if_false, decide_true, decide_false, Bool.not_true, Bool.not_false, Bool.false_eq_true, Bool.true_eq_false, Bool.and_true, Bool.true_and, Bool.and_false, Bool.false_and, Bool.or_true, Bool.true_or, Bool.or_false, Bool.false_or, ld1_get hg, h1.lnSl, h2.lnSl, h3.lnSl, hr]
        rw [if_pos (by simp only [Bool.or_eq_true, decide_eq_true_eq]; omega)]
        simp only [ev, lg, wnt_undef, if_true, if_false, decide_true, decide_false, Bool.not_true, Bool.not_false, Bool.false_eq_true, Bool.true_eq_false, Bool.and_true, Bool.true_and, Bool.and_false, Bool.false_and, Bool.or_true, Bool.true_or, Bool.or_false, Bool.false_or]
    | false =>
      by_cases hc : keys.length ≠ 0 ∧ vals.length = 0 ∧ kids.length = keys.length + 1
      · obtain ⟨hc1, hc2, hc3⟩ := hc
        obtain ⟨e3, H3, e4, e5⟩ := shaped3 D n hP.ok (h3.prs hP) (by omega) n (by omega)
        have hz : ¬ (((keys.length : Nat) : Int) = ((0 : Nat) : Int)) := by omega
        have hz2 : ¬ (((vals.length : Nat) : Int) ≠ ((0 : Nat) : Int)) := by omega
        have hz3 : ¬ (((kids.length : Nat) : Int) ≠ ((keys.length : Nat) : Int) + ((1 : Nat) : Int)) := by omega
        have hvn : vals = [] := List.eq_nil_of_length_eq_zero hc2
        have hkn : keys ≠ [] := fun e => hc1 (by rw [e]; rfl)
        rw [all_range kids pz Nd.kidOk] at e5
        split at e5
        · rename_i hv
          obtain ⟨rfl, hP3⟩ := e5
          refine ⟨H3, ?_, hP.trans hP3⟩
          have hr : (decide (keys ≠ []) && decide (vals = []) && decide (kids.length = keys.length + 1) && kids.all Nd.kidOk) = true := by simp only [hc3, hvn, hv, decide_eq_true hkn, decide_true, Bool.and_self]
          simp (disch := omega) only [f30b5, ev, lg, wnt_undef, if_true, if_false, decide_true, decide_false, Bool.not_true, Bool.not_false, Bool.false_eq_true, Bool.true_eq_false, Bool.and_true, Bool.true_and, Bool.and_false, Bool.false_and, Bool.or_true, Bool.true_or, Bool.or_false, Bool.false_or, ld1_get hg, h1.lnSl, h2.lnSl, h3.lnSl, hz, hz2, hz3, e4, f30b4, hr]
        · rename_i hv
          obtain ⟨rfl, hP3⟩ := e5
          refine ⟨H3, ?_, hP.trans hP3⟩
          have hr : (decide (keys ≠ []) && decide (vals = []) && decide (kids.length = keys.length + 1) && kids.all Nd.kidOk) = false := by simp only [Bool.eq_false_iff.2 hv, Bool.and_false]
          simp (disch := omega) only [f30b5, ev, lg, wnt_undef, if_true, if_false, decide_true, decide_false, Bool.not_true, Bool.not_false, Bool.false_eq_true, Bool.true_eq_false, Bool.and_true, Bool.true_and, Bool.and_false, Bool.false_and, Bool.or_true, Bool.true_or, Bool.or_false, Bool.false_or, ld1_get hg, h1.lnSl, h2.lnSl, h3.lnSl, hz, hz2, hz3, e4, f30b4, hr]
      · refine ⟨H2, ?_, hP⟩
        have hr : (decide (keys ≠ []) && decide (vals = []) && decide (kids.length = keys.length + 1)) = false := by
          rw [Bool.eq_false_iff]; intro hh
          simp only [Bool.and_eq_true, decide_eq_true_eq] at hh
          exact hc ⟨fun e => hh.1.1 (List.eq_nil_of_length_eq_zero e), by rw [hh.1.2]; rfl, hh.2⟩
        simp (disch := omega) only [f30b5, ev, lg, wnt_undef, if_true, if_false, decide_true, decide_false, Bool.not_true, Bool.not_false, Bool.false_eq_true, Bool.true_eq_false, Bool.and_true, Bool.true_and, Bool.and_false, Bool.false_and, Bool.or_true, Bool.true_or, Bool.or_false, Bool.false_or, ld1_get hg, h1.lnSl, h2.lnSl, h3.lnSl, hr]
        rw [if_pos (by simp only [Bool.or_eq_true, decide_eq_true_eq]; omega)]
        simp only [ev, lg, wnt_undef, if_true, if_false, decide_true, decide_false, Bool.not_true, Bool.not_false, Bool.false_eq_true, Bool.true_eq_false, Bool.and_true, Bool.true_and, Bool.and_false, Bool.false_and, Bool.or_true, Bool.true_or, Bool.or_false, Bool.false_or]
  · rename_i hbad
    obtain ⟨rfl, rfl⟩ := e2
    refine ⟨H2, ?_, hP⟩
    simp only [Nd.shaped, Bool.eq_false_iff.2 hbad, ev, lg, wnt_undef, if_true, if_false, decide_true, decide_false, Bool.not_true, Bool.not_false, Bool.false_eq_true, Bool.true_eq_false, Bool.and_true, Bool.true_and, Bool.and_false, Bool.false_and, Bool.or_true, Bool.true_or, Bool.or_false, Bool.false_or]
theorem nodeV_sub (nd : Nd.Node) (ks vs ps : AV) : subN [.bool nd.leaf, ks, vs, ps] 0 4 = some [.bool nd.leaf, ks, vs, ps] := rfl
theorem mayN_ok (D : Dyn) (n : Nat) {H : AH} (hk : H.ok) {v : AV} {nd : Nd.Node} (h : NodeV H v nd) (hs : small nd) (hn : 200000000 ≤ n) :
    ∃ H', f14 D n [v] H = some (.bool (Nd.may ltS nd), H') ∧ Prs H H' := by
  have h0 := h
  obtain ⟨ks, vs, ps, rfl, h1, h2, h3⟩ := h
  have hP : Prs H (H.push (.cells [.bool nd.leaf, ks, vs, ps] 34 1 false)) := (Stp.refl hk).push _
  have hg : (H.push (.cells [.bool nd.leaf, ks, vs, ps] 34 1 false)).h.get H.next = some (.cells [.bool nd.leaf, ks, vs, ps] 34 1 false) := AH.push_get_eq _ _
  obtain ⟨H2, e2, hP2⟩ := shaped_ok D n hP.ok (h0.prs hP) hs hn
  obtain ⟨z, H3, e3, rfl, hP3⟩ := size_ok D n hP2.ok (h0.prs (hP.trans hP2)) hs hn
  cases hsh : Nd.shaped ltS nd with
  | true =>
    refine ⟨H3, ?_, (hP.trans hP2).trans hP3⟩
    have hsz : (((Nd.size nd : Nat) : Int) ≤ ((500 : Nat) : Int)) = (Nd.size nd ≤ 500) := by rw [eq_iff_iff]; omega
    simp only [f14, ev, lg, wnt_undef, if_true, if_false, decide_true, decide_false, Bool.not_true, Bool.not_false, Bool.false_eq_true, Bool.true_eq_false, Bool.and_true, Bool.true_and, Bool.and_false, Bool.false_and, Bool.or_true, Bool.true_or, Bool.or_false, Bool.false_or, bA_ok hk, nodeV_sub, Option.map_some, e2, hsh, ldN_get (hP2.get hP.ok hg), e3, hsz, Nd.may]
  | false =>
    refine ⟨H2, ?_, hP.trans hP2⟩
    simp only [f14, ev, lg, wnt_undef, if_true, if_false, decide_true, decide_false, Bool.not_true, Bool.not_false, Bool.false_eq_true, Bool.true_eq_false, Bool.and_true, Bool.true_and, Bool.and_false, Bool.false_and, Bool.or_true, Bool.true_or, Bool.or_false, Bool.false_or, bA_ok hk, nodeV_sub, Option.map_some, e2, hsh, Nd.may]
end Go.Eng.Sh
end
section
namespace Go.Eng.Sh
open Go.Nd (Ptr sumL encT encP)
/-- A row of bytes in a variable; P: what is not to be touched. -/
def OutB (P : Nat → Prop) (H : AH) (A : Nat) (l : Str) : Prop := ∃ v, Box H A v ∧ Grow 1 5 H v l.length (bytesV l) ∧ (∀ B, Blk v B → ¬ P B ∧ B ≠ A) ∧ ¬ P A
theorem bldL1 (e sz : Nat) (z x : AV) (h : isCell x = true) : bldL e 1 1 [z] [(0, x)] = some (.cells [x] e 1 false, fun A => .slice A 0 1 2) := by
  simp only [bldL, fillA, cellsA_cell h, lenL, Nat.beq_refl, cond_true, rep]
  rfl
/-- One more piece. -/
theorem OutB.app {P : Nat → Prop} {H : AH} {A : Nat} {l m : Str} (h : OutB P H A l) (hk : H.ok) (hP : ∀ B, P B → B < H.next) {s : AV} (hs : srcOf 1 s H = some (m.length, bytesV m)) (hn : l.length + m.length ≤ 1000000000) :
    ∃ v v' H' H'', ld1 (.ptr A 0) H = some v ∧ apP 5 1 1 v s H = some (v', H') ∧ stN 1 (.ptr A 0) v' H' = some (undefA, H'') ∧ OutB P H'' A (l ++ m) ∧ Stp (fun B => ¬ P B) H H'' := by
  obtain ⟨v, hb, hg, hv, hA⟩ := h
  obtain ⟨v', H', e1, g1, s1, n1⟩ := hg.app (bytes := 1) hk (by decide) hs (by simp [bytesV]) (bytesV_cells m) hn (by decide)
  have hb' : Box H' A v := hb.mono hk s1 (fun x => (hv A x).2 rfl)
  obtain ⟨H'', e2, b2, s2⟩ := hb'.st s1.ok g1.isCell
  have hlt := hb.lt hk
  have hne : ∀ B, Blk v' B → B ≠ A := fun B hB e => by
    rcases n1 B hB with h | h
    · exact (hv B h).2 e
    · omega
  refine ⟨v, v', H', H'', hb.ld, e1, e2, ⟨v', b2, ?_, fun B hB => ⟨fun hp => ?_, hne B hB⟩, hA⟩, ?_⟩
  · have := g1.mono s2 (fun B hB => hne B hB)
    simpa [bytesV] using this
  · rcases n1 B hB with h | h
    · exact (hv B h).1 hp
    · have := hP B hp; omega
  · exact (s1.mono (fun B _ hB => (hv B hB).1)).trans (s2.mono (fun B _ hB => by rw [hB]; exact hA))
theorem text_ok (D : Dyn) (n : Nat) {P : Nat → Prop} {H : AH} {A : Nat} {l s : Str} (h : OutB P H A l) (hk : H.ok) (hP : ∀ B, P B → B < H.next) (hn : l.length + s.length + 1 ≤ 1000000000) :
    ∃ H', f31 D n [S s, .ptr A 0] H = some (.tuple [], H') ∧ OutB P H' A (l ++ encT s) ∧ Stp (fun B => ¬ P B) H H' := by
  have hw : IntKind.wrap .u8 ((s.length : Nat) : Int) = (((UInt8.ofNat s.length).toNat : Nat) : Int) := by rw [wrap_u8, UInt8.toNat_ofNat']; omega
  have hp1 : Prs H (H.push (.cells [.int .u8 (((UInt8.ofNat s.length).toNat : Nat) : Int)] 5 1 false)) := (Stp.refl hk).push _
  have h1 : OutB P (H.push (.cells [.int .u8 (((UInt8.ofNat s.length).toNat : Nat) : Int)] 5 1 false)) A l := by
    obtain ⟨v, hb, hg, hv, hA⟩ := h
    exact ⟨v, hb.mono hk hp1 (fun x => x), hg.mono hp1 (fun _ _ x => x), hv, hA⟩
  have hs1 := srcOf_new (k := 1) H (bytesV [UInt8.ofNat s.length]) 5 1 false 1 2 rfl
  obtain ⟨v, v', H1, H2, e1, e2, e3, h2, st2⟩ := h1.app hp1.ok (fun B hB => Nat.lt_succ_of_lt (hP B hB)) (m := [UInt8.ofNat s.length]) hs1 (by simp; omega)
  obtain ⟨u, u', H3, H4, e4, e5, e6, h4, st4⟩ := h2.app st2.ok (fun B hB => Nat.lt_of_lt_of_le (hP B hB) (Nat.le_trans hp1.next st2.next)) (m := s) (srcOf_S s H2) (by simp; omega)
  have hld : ld1 (.ptr A 0) H = some v := by
    have := e1
    rw [ld1_old _ _ (by obtain ⟨v, hb, _⟩ := h; exact hb.lt hk)] at this; exact this
  refine ⟨H4, ?_, ?_, (hp1.stp.trans st2).trans st4⟩
  · simp only [f31, ev, lg, wnt_undef, if_true, if_false, decide_true, decide_false, Bool.not_true, Bool.not_false, Bool.false_eq_true, Bool.true_eq_false, Bool.and_true, Bool.true_and, Bool.and_false, Bool.false_and, Bool.or_true, Bool.true_or, Bool.or_false, Bool.false_or, hld, hw]
    rw [bldL1 5 1 _ _ rfl]
    simp only [ev, lg, wnt_undef, if_true, if_false, decide_true, decide_false, Bool.not_true, Bool.not_false, Bool.false_eq_true, Bool.true_eq_false, Bool.and_true, Bool.true_and, Bool.and_false, Bool.false_and, Bool.or_true, Bool.true_or, Bool.or_false, Bool.false_or, bA_ok hk, e2, e3, e4, e5, e6]
  · simpa [encT] using h4
theorem kid_ok (D : Dyn) (n : Nat) {P : Nat → Prop} {H : AH} {A E : Nat} {l : Str} {p : Ptr} (h : OutB P H A l) (hk : H.ok) (hP : ∀ B, P B → B < H.next) (hp : Nd.mayP p = true) (hs : Nd.sumOk p) (hn : l.length + 16 ≤ 1000000000) (hn1 : 100 ≤ n) :
    ∃ H', f32 D n [.agg (ptrV p), .ptr E 0, .ptr A 0] H = some (.tuple [], H') ∧ OutB P H' A (l ++ encP p) ∧ Stp (fun B => ¬ P B) H H' := by
  have hp1 : Prs H (H.push (.cells (ptrV p) 59 1 false)) := (Stp.refl hk).push _
  obtain ⟨H2, e2, hp2⟩ := encPtr_ok D n hp1.ok hp hs hn1
  have hp12 := hp1.trans hp2
  have h1 : OutB P H2 A l := by
    obtain ⟨v, hb, hg, hv, hA⟩ := h
    exact ⟨v, hb.mono hk hp12 (fun x => x), hg.mono hp12 (fun _ _ x => x), hv, hA⟩
  obtain ⟨v, v', H3, H4, e3, e4, e5, h4, st4⟩ := h1.app hp12.ok (fun B hB => Nat.lt_of_lt_of_le (hP B hB) hp12.next) (m := encP p) (srcOf_S _ _) (by rw [Nd.encP_length]; omega)
  refine ⟨H4, ?_, h4, (Prs.stp hp12).trans st4⟩
  simp only [f32, ev, lg, wnt_undef, if_true, if_false, decide_true, decide_false, Bool.not_true, Bool.not_false, Bool.false_eq_true, Bool.true_eq_false, Bool.and_true, Bool.true_and, Bool.and_false, Bool.false_and, Bool.or_true, Bool.true_or, Bool.or_false, Bool.false_or, bA_ok hk, show subN (ptrV p) 0 3 = some (ptrV p) from rfl, Option.map_some, e2, pExtract, nth, ne_eq, not_true_eq_false, f32j0, e3, e4, e5]
theorem callT (m n : Nat) (x a : AV) (H : AH) : callV (s12 (dy (m + 1)) n).S (dy (m + 1)) (.func 31 [] [a]) [x] H = f31 (dy m) m [x, a] H := rfl
theorem callKd (m n : Nat) (x e a : AV) (H : AH) : callV (s12 (dy (m + 1)) n).S (dy (m + 1)) (.func 32 [] [e, a]) [x] H = f32 (dy m) m [x, e, a] H := rfl
/-- What Encode's loop keeps. -/
structure EncI (N E : Nat) (A : Nat) (H0 H : AH) (l : Str) : Prop where
  prs : Prs H0 H
  n : H0.next = N
  out : OutB (fun B => B < N ∨ B = E) H A l
  err : Box H E (.int .i64 (0 : Nat))
theorem EncI.step {N E A : Nat} {H0 H H' : AH} {l l' : Str} (h : EncI N E A H0 H l) (h1 : OutB (fun B => B < N ∨ B = E) H' A l') (h2 : Stp (fun B => ¬ (B < N ∨ B = E)) H H') : EncI N E A H0 H' l' :=
  ⟨h.prs.fresh h2 (fun B hB => by rw [h.n]; omega), h.n, h1, h.err.mono h.prs.ok h2 (fun hh => hh (.inr rfl))⟩
theorem EncI.lt {N E A : Nat} {H0 H : AH} {l : Str} (h : EncI N E A H0 H l) : ∀ B, (B < N ∨ B = E) → B < H.next := by
  rintro B (hB | rfl)
  · have := h.prs.next; rw [h.n] at this; omega
  · exact h.err.lt h.prs.ok
theorem encLoopL (m n : Nat) {N E A X : Nat} {H0 H : AH} {ks vs ps : AV} {keys vals : List Str} (hX : H0.h.get X = some (.cells [.bool true, ks, vs, ps] 34 1 false)) (hk0 : H0.ok) (h1 : Strs H0 ks keys) (h2 : Strs H0 vs vals) (hl : vals.length = keys.length)
    (hb : sumL keys + sumL vals ≤ 10000000) (hd : Str) (hhd : hd.length ≤ 1000) (h : EncI N E A H0 H hd) (n' : Nat) (hn' : keys.length < n') :
    ∃ H', loopK n' (f12l1 (dy (m + 1)) n) [.ptr X 0, .ptr A 0, .ptr E 0, .func 31 [] [.ptr A 0], .func 32 [] [.ptr E 0, .ptr A 0], ks, .int .i64 (keys.length : Nat), .int .i64 (0 : Nat)] H = some (.exit 0 [.ptr A 0, .ptr E 0], H') ∧ EncI N E A H0 H' (hd ++ Nd.encL keys vals) := by
  have hkl := Nd.sumL_ge keys
  have key := loop_inv (b := f12l1 (dy (m + 1)) n) keys.length (fun i us H' => us = [.ptr X 0, .ptr A 0, .ptr E 0, .func 31 [] [.ptr A 0], .func 32 [] [.ptr E 0, .ptr A 0], ks, .int .i64 (keys.length : Nat), .int .i64 (i : Nat)] ∧ EncI N E A H0 H' (hd ++ Nd.encL (keys.take i) (vals.take i)))
    (fun i us H1 hi ⟨hus, hI⟩ => by
      subst hus
      have hiv : i < vals.length := by omega
      obtain ⟨p, p1, p2⟩ := (h1.prs hI.prs).at hi
      obtain ⟨_, hs1⟩ := sumL_at keys i hi
      obtain ⟨_, hs2⟩ := sumL_at vals i hiv
      have hlen : (Nd.encL (keys.take i) (vals.take i)).length = sumL (keys.take i) + sumL (vals.take i) := Nd.encL_length _ _ (by simp [hl])
      obtain ⟨H2, e2, o2, st2⟩ := text_ok (dy m) m (s := keys[i]) hI.out hI.prs.ok hI.lt (by simp only [List.length_append, hlen]; omega)
      have hI2 := hI.step o2 st2
      obtain ⟨q, q1, q2⟩ := (h2.prs hI2.prs).at hiv
      obtain ⟨H3, e3, o3, st3⟩ := text_ok (dy m) m (s := vals[i]) hI2.out hI2.prs.ok hI2.lt (by simp only [List.length_append, hlen, Nd.encT, List.length_cons]; omega)
      have hI3 := hI2.step o3 st3
      have hiI : ((i : Nat) : Int) < ((keys.length : Nat) : Int) := by omega
      refine ⟨_, H3, ?_, rfl, ?_⟩
      · simp (disch := omega) only [f12l1, ev, lg, wnt_undef, if_true, if_false, decide_true, decide_false, Bool.not_true, Bool.not_false, Bool.false_eq_true, Bool.true_eq_false, Bool.and_true, Bool.true_and, Bool.and_false, Bool.false_and, Bool.or_true, Bool.true_or, Bool.or_false, Bool.false_or, hiI, p1, p2, callT, e2, ld1_get (hI2.prs.get hk0 hX), q1, q2, e3, f12j0, Int.natCast_add]
      · rw [sum_take_succ keys i hi, sum_take_succ vals i hiv, Nd.encL_snoc _ _ _ _ (by simp [hl])]
        simpa using hI3) n' _ H ⟨rfl, by simpa [Nd.encL] using h⟩ hn'
  obtain ⟨k, us, H', e1, rfl, hI⟩ := key
  refine ⟨H', ?_, by rw [List.take_of_length_le (Nat.le_refl _), List.take_of_length_le (by omega)] at hI; exact hI⟩
  rw [e1]
  exact loop_exit (by simp only [f12l1, ev, lg, wnt_undef, if_true, if_false, decide_true, decide_false, Bool.not_true, Bool.not_false, Bool.false_eq_true, Bool.true_eq_false, Bool.and_true, Bool.true_and, Bool.and_false, Bool.false_and, Bool.or_true, Bool.true_or, Bool.or_false, Bool.false_or, Int.lt_irrefl])
theorem encLoopI (m n : Nat) (hm : 100 ≤ m) {N E A X : Nat} {H0 H : AH} {ks vs ps : AV} {keys : List Str} {k0 : Ptr} {kids : List Ptr} (hX : H0.h.get X = some (.cells [.bool false, ks, vs, ps] 34 1 false)) (hk0 : H0.ok) (h1 : Strs H0 ks keys) (h2 : Ptrs H0 ps (k0 :: kids)) (hl : kids.length = keys.length)
    (hkid : ∀ p ∈ kids, Nd.mayP p = true ∧ Nd.sumOk p) (hb : sumL keys + 16 * kids.length ≤ 10000000) (hd : Str) (hhd : hd.length ≤ 1000) (h : EncI N E A H0 H hd) (n' : Nat) (hn' : keys.length < n') :
    ∃ H', loopK n' (f12l1 (dy (m + 1)) n) [.ptr X 0, .ptr A 0, .ptr E 0, .func 31 [] [.ptr A 0], .func 32 [] [.ptr E 0, .ptr A 0], ks, .int .i64 (keys.length : Nat), .int .i64 (0 : Nat)] H = some (.exit 0 [.ptr A 0, .ptr E 0], H') ∧ EncI N E A H0 H' (hd ++ Nd.encI keys kids) := by
  have hkl := Nd.sumL_ge keys
  have key := loop_inv (b := f12l1 (dy (m + 1)) n) keys.length (fun i us H' => us = [.ptr X 0, .ptr A 0, .ptr E 0, .func 31 [] [.ptr A 0], .func 32 [] [.ptr E 0, .ptr A 0], ks, .int .i64 (keys.length : Nat), .int .i64 (i : Nat)] ∧ EncI N E A H0 H' (hd ++ Nd.encI (keys.take i) (kids.take i)))
    (fun i us H1 hi ⟨hus, hI⟩ => by
      subst hus
      have hiv : i < kids.length := by omega
      obtain ⟨p, p1, p2⟩ := (h1.prs hI.prs).at hi
      obtain ⟨_, hs1⟩ := sumL_at keys i hi
      have hlen : (Nd.encI (keys.take i) (kids.take i)).length = sumL (keys.take i) + 16 * (kids.take i).length := Nd.encI_length _ _ (by simp [hl])
      have htl : (kids.take i).length = i := by simp; omega
      obtain ⟨H2, e2, o2, st2⟩ := text_ok (dy m) m (s := keys[i]) hI.out hI.prs.ok hI.lt (by simp only [List.length_append, hlen, htl]; omega)
      have hI2 := hI.step o2 st2
      obtain ⟨q, q1, q2⟩ := (h2.prs hI2.prs).at (i := i + 1) (by simpa using hiv)
      obtain ⟨hm1, hm2⟩ := hkid _ (List.getElem_mem hiv)
      obtain ⟨H3, e3, o3, st3⟩ := kid_ok (dy m) m (E := E) (p := kids[i]) hI2.out hI2.prs.ok hI2.lt hm1 hm2 (by simp only [List.length_append, hlen, htl, Nd.encT, List.length_cons]; omega) hm
      have hI3 := hI2.step o3 st3
      have hiI : ((i : Nat) : Int) < ((keys.length : Nat) : Int) := by omega
      simp only [List.getElem_cons_succ] at q2
      refine ⟨_, H3, ?_, rfl, ?_⟩
      · simp (disch := omega) only [f12l1, ev, lg, wnt_undef, if_true, if_false, decide_true, decide_false, Bool.not_true, Bool.not_false, Bool.false_eq_true, Bool.true_eq_false, Bool.and_true, Bool.true_and, Bool.and_false, Bool.false_and, Bool.or_true, Bool.true_or, Bool.or_false, Bool.false_or, hiI, p1, p2, callT, e2, ld1_get (hI2.prs.get hk0 hX), q1, q2, callKd, e3, f12j0, Int.natCast_add]
      · rw [sum_take_succ keys i hi, sum_take_succ kids i hiv, Nd.encI_snoc _ _ _ _ (by simp [hl])]
        simpa using hI3) n' _ H ⟨rfl, by simpa [Nd.encI] using h⟩ hn'
  obtain ⟨k, us, H', e1, rfl, hI⟩ := key
  refine ⟨H', ?_, by rw [List.take_of_length_le (Nat.le_refl _), List.take_of_length_le (by omega)] at hI; exact hI⟩
  rw [e1]
  exact loop_exit (by simp only [f12l1, ev, lg, wnt_undef, if_true, if_false, decide_true, decide_false, Bool.not_true, Bool.not_false, Bool.false_eq_true, Bool.true_eq_false, Bool.and_true, Bool.true_and, Bool.and_false, Bool.false_and, Bool.or_true, Bool.true_or, Bool.or_false, Bool.false_or, Int.lt_irrefl])
end Go.Eng.Sh
end
section
namespace Go.Eng.Sh
open Go.Nd (Ptr sumL encT encP)
theorem Box.new (H : AH) (v : AV) (e : TypeId) : Box (H.push (.cells [v] e 1 false)) H.next v := ⟨e, AH.push_get_eq _ _⟩
theorem encHead {H : AH} (hk : H.ok) (k : Nat) : ∃ H6 H8, stN 1 (.ptr (H.next + 1) 0) (.slice H.next 0 2 4) ((H.push (.cells [.int .u8 (((UInt8.ofNat (k / 256)).toNat : Nat) : Int), .int .u8 (((UInt8.ofNat k).toNat : Nat) : Int)] 5 1 false)).push (.cells [.nilSlice] 61 1 false)) = some (undefA, H6) ∧ H6.ok ∧ H6.next = H.next + 2 ∧
    stN 1 (.ptr (H.next + 2) 0) (.int .i64 (0 : Nat)) (H6.push (.cells [.int .i64 (0 : Nat)] 31 1 false)) = some (undefA, H8) ∧ EncI H.next (H.next + 2) (H.next + 1) H H8 (Nd.be 2 k) := by
  have h4 : Prs H (H.push (.cells [.int .u8 (((UInt8.ofNat (k / 256)).toNat : Nat) : Int), .int .u8 (((UInt8.ofNat k).toNat : Nat) : Int)] 5 1 false)) := (Stp.refl hk).push _
  have g4 : (H.push (.cells [.int .u8 (((UInt8.ofNat (k / 256)).toNat : Nat) : Int), .int .u8 (((UInt8.ofNat k).toNat : Nat) : Int)] 5 1 false)).h.get H.next = some (.cells (bytesV (Nd.be 2 k)) 5 1 false) := AH.push_get_eq _ _
  have n4 : (H.push (.cells [.int .u8 (((UInt8.ofNat (k / 256)).toNat : Nat) : Int), .int .u8 (((UInt8.ofNat k).toNat : Nat) : Int)] 5 1 false)).next = H.next + 1 := rfl
  generalize H.push (.cells [.int .u8 (((UInt8.ofNat (k / 256)).toNat : Nat) : Int), .int .u8 (((UInt8.ofNat k).toNat : Nat) : Int)] 5 1 false) = H4 at h4 g4 n4
  have b5 := Box.new H4 .nilSlice 61
  have h5 : Prs H4 (H4.push (.cells [.nilSlice] 61 1 false)) := (Stp.refl h4.ok).push _
  have n5 : (H4.push (.cells [.nilSlice] 61 1 false)).next = H4.next + 1 := rfl
  have g5 := h5.get h4.ok g4
  generalize H4.push (.cells [.nilSlice] 61 1 false) = H5 at h5 b5 n5 g5
  rw [n4] at b5 n5
  obtain ⟨H6, e6, b6, s6⟩ := b5.st h5.ok (x := .slice H.next 0 2 4) rfl
  have n6 := s6.next
  have g6 : H6.h.get H.next = some (.cells (bytesV (Nd.be 2 k)) 5 1 false) := by rw [s6.keep _ (by omega) (by omega)]; exact g5
  have hn6 : H6.next = H.next + 2 := by
    have : H6.next = H5.next := by
      obtain ⟨e, hb⟩ := b5
      have := st1_ok (x := .slice H.next 0 2 4) (o := 0) hb (by decide) rfl (by simp)
      rw [this] at e6
      simp only [Option.some.injEq, Prod.mk.injEq, true_and] at e6
      rw [← e6]; rfl
    omega
  have p6 : Prs H H6 := (h4.trans h5).fresh s6 (fun A hA => by omega)
  have b7 := Box.new H6 (.int .i64 (0 : Nat)) 31
  have h7 : Prs H6 (H6.push (.cells [.int .i64 (0 : Nat)] 31 1 false)) := (Stp.refl s6.ok).push _
  have n7 : (H6.push (.cells [.int .i64 (0 : Nat)] 31 1 false)).next = H6.next + 1 := rfl
  have g7 := h7.get s6.ok g6
  have b67 := b6.mono s6.ok h7 (fun x => x)
  generalize hH7 : H6.push (.cells [.int .i64 (0 : Nat)] 31 1 false) = H7 at h7 b7 n7 g7 b67
  rw [hn6] at b7 n7
  obtain ⟨H8, e8, b8, s8⟩ := b7.st h7.ok (x := .int .i64 (0 : Nat)) rfl
  have n8 := s8.next
  refine ⟨H6, H8, e6, s6.ok, hn6, by rw [hH7]; exact e8, ⟨(p6.trans h7).fresh s8 (fun A hA => by omega), rfl, ⟨_, b67.mono h7.ok s8 (by omega), .inr ⟨rfl, H.next, 5, false, rfl, by omega, by rw [s8.keep _ (by omega) (by omega)]; exact g7⟩, ?_, by omega⟩, b8⟩⟩
  intro B hB
  rw [Blk.slice] at hB
  omega
theorem sub4 (a b c d : AV) : subN [a, b, c, d] 0 4 = some [a, b, c, d] := rfl
/-- What Encode tells. -/
def encR (nd : Nd.Node) : Str × Nat := if Nd.shaped ltS nd then if Nd.size nd ≤ 500 then (Nd.encN nd, 0) else ([], 40) else ([], 4)
theorem encode_ok (m n : Nat) (hm : 100 ≤ m) (hn : 200000000 ≤ n) {H : AH} (hk : H.ok) {v : AV} {nd : Nd.Node} (h : NodeV H v nd) (hs : small nd) (hsum : ∀ p ∈ nd.kids, Nd.sumOk p) :
    ∃ H', f12 (dy (m + 1)) n [v] H = some (.tuple [S (encR nd).1, .int .i64 ((encR nd).2 : Nat)], H') ∧ Prs H H' := by
  obtain ⟨leaf, keys, vals, kids⟩ := nd
  have h0 := h
  obtain ⟨ks, vs, ps, rfl, h1, h2, h3⟩ := h
  simp only at h0 h1 h2 h3 hsum ⊢
  have hP : Prs H (H.push (.cells [.bool leaf, ks, vs, ps] 34 1 false)) := (Stp.refl hk).push _
  have hg : (H.push (.cells [.bool leaf, ks, vs, ps] 34 1 false)).h.get H.next = some (.cells [.bool leaf, ks, vs, ps] 34 1 false) := AH.push_get_eq _ _
  obtain ⟨H2, e2, hP2⟩ := shaped_ok (dy (m + 1)) n hP.ok (h0.prs hP) hs hn
  have hse : (AV.str 0 0) = S [] := rfl
  cases hsh : Nd.shaped ltS ⟨leaf, keys, vals, kids⟩ with
  | false =>
    refine ⟨H2, ?_, hP.trans hP2⟩
    simp only [f12, ev, lg, wnt_undef, if_true, if_false, decide_true, decide_false, Bool.not_true, Bool.not_false, Bool.false_eq_true, Bool.true_eq_false, Bool.and_true, Bool.true_and, Bool.and_false, Bool.false_and, Bool.or_true, Bool.true_or, Bool.or_false, Bool.false_or, bA_ok hk, sub4, Option.map_some, e2, hsh, encR, hse]
  | true =>
    have hg2 := hP2.get hP.ok hg
    have hP12 : Prs H H2 := hP.trans hP2
    obtain ⟨z, H3, e3, rfl, hP3⟩ := size_ok (dy (m + 1)) n hP2.ok (h0.prs hP12) hs hn
    have hg3 := hP3.get hP2.ok hg2
    have hP13 : Prs H H3 := hP12.trans hP3
    by_cases hsz : Nd.size ⟨leaf, keys, vals, kids⟩ ≤ 500
    · have hszI : ¬ ((500 : Nat) : Int) < ((Nd.size ⟨leaf, keys, vals, kids⟩ : Nat) : Int) := by omega
      obtain ⟨H6, H8, e6, ok6, n6, e8, hI⟩ := encHead hP3.ok keys.length
      have hlen := Nd.be_length 2 keys.length
      have w1 : IntKind.wrap .u8 (((keys.length : Nat) : Int) / 2 ^ 8) = (((UInt8.ofNat (keys.length / 256)).toNat : Nat) : Int) := by rw [wrap_u8, UInt8.toNat_ofNat']; omega
      have w2 : IntKind.wrap .u8 ((keys.length : Nat) : Int) = (((UInt8.ofNat keys.length).toNat : Nat) : Int) := by rw [wrap_u8, UInt8.toNat_ofNat']; omega
      have hbl : ∀ x y : Int, bldL 5 1 2 [.int .u8 ((0 : Nat) : Int)] [(0, .int .u8 x), (1, .int .u8 y)] = some (.cells [.int .u8 x, .int .u8 y] 5 1 false, fun A => .slice A 0 2 4) := fun x y => rfl
      have hsh' := hsh
      simp only [Nd.shaped, Bool.and_eq_true] at hsh'
      have hkl := Nd.sumL_ge keys
      have hsz' := hsz
      simp only [Nd.size] at hsz'
      have hsr := bInt_shr .i64 .u64 (a := ((keys.length : Nat) : Int)) (s := 8) (by omega) (by decide)
      have hcn : cellsA AV.nilSlice = [AV.nilSlice] := rfl
      have hci : ∀ z : Int, cellsA (AV.int .i64 z) = [AV.int .i64 z] := fun _ => rfl
      have hend : ∀ (H9 : AH) (l : Str), EncI H3.next (H3.next + 2) (H3.next + 1) H3 H9 l → ∃ v, ld1 (.ptr (H3.next + 2) 0) H9 = some (.int .i64 (0 : Nat)) ∧ ld1 (.ptr (H3.next + 1) 0) H9 = some v ∧ cvBS v H9 = some (S l) := by
        intro H9 l hI
        obtain ⟨v, hb, hg, _⟩ := hI.out
        refine ⟨v, hI.err.ld, hb.ld, cvBS_row hg.row ?_⟩
        rcases hg with ⟨_, ⟨rfl, _⟩ | ⟨A, rfl, _⟩⟩ | ⟨_, A, e', g, rfl, _⟩ <;> simp
      cases leaf with
      | true =>
        simp only [if_true, Bool.and_eq_true, decide_eq_true_eq] at hsh'
        obtain ⟨H9, e9, hI9⟩ := encLoopL m n hg3 hP3.ok (h1.prs hP13) (h2.prs hP13) hsh'.2.1.1 (by omega) _ (by omega) hI n (by omega)
        obtain ⟨u, u1, u2, u3⟩ := hend _ _ hI9
        refine ⟨H9, ?_, hP13.trans hI9.prs⟩
        simp (disch := omega) only [f12, ev, lg, wnt_undef, if_true, if_false, decide_true, decide_false, Bool.not_true, Bool.not_false, Bool.false_eq_true, Bool.true_eq_false, Bool.and_true, Bool.true_and, Bool.and_false, Bool.false_and, Bool.or_true, Bool.true_or, Bool.or_false, Bool.false_or, bA_ok hk, sub4, Option.map_some, e2, hsh, ldN_get hg2, e3, hszI, ld1_get hg3, h1.lnSl, hsr, w1, w2, hbl, bA_ok hP3.ok, bA_ok (hP3.ok.push _), AH.push_next, hcn, e6, bA_ok ok6, n6, hci, e8, f12j3, ld1_get (hI.prs.get hP3.ok hg3), e9, f12b2, u1, u2, u3, ne_eq, not_true_eq_false]
        simp only [encR, hsh, if_true, if_pos hsz, Nd.encN, Nd.encB]
      | false =>
        simp only [Bool.false_eq_true, if_false, Bool.and_eq_true, decide_eq_true_eq, List.all_eq_true] at hsh'
        cases kids with
        | nil => simp at hsh'
        | cons k0 kids =>
          simp only [List.length_cons] at hsz' hsh'
          have hk0 := hsh'.2.2 k0 (List.mem_cons_self ..)
          obtain ⟨p, p1, p2⟩ := (h3.prs (hP13.trans hI.prs)).at (i := 0) (by simp)
          simp only [List.getElem_cons_zero] at p2
          obtain ⟨H9, e9, o9, st9⟩ := kid_ok (dy m) m (E := H3.next + 2) (p := k0) hI.out hI.prs.ok hI.lt (Nd.kidOk_may hk0) (hsum k0 (List.mem_cons_self ..)) (by omega) hm
          have hI9 := hI.step o9 st9
          obtain ⟨H10, e10, hI10⟩ := encLoopI m n hm hg3 hP3.ok (h1.prs hP13) (h3.prs hP13) (by omega) (fun q hq => ⟨Nd.kidOk_may (hsh'.2.2 q (List.mem_cons_of_mem _ hq)), hsum q (List.mem_cons_of_mem _ hq)⟩) (by omega) _ (by rw [List.length_append, Nd.encP_length]; omega) hI9 n (by omega)
          obtain ⟨u, u1, u2, u3⟩ := hend _ _ hI10
          refine ⟨H10, ?_, hP13.trans hI10.prs⟩
          simp (disch := omega) only [f12, ev, lg, wnt_undef, if_true, if_false, decide_true, decide_false, Bool.not_true, Bool.not_false, Bool.false_eq_true, Bool.true_eq_false, Bool.and_true, Bool.true_and, Bool.and_false, Bool.false_and, Bool.or_true, Bool.true_or, Bool.or_false, Bool.false_or, bA_ok hk, sub4, Option.map_some, e2, hsh, ldN_get hg2, e3, hszI, ld1_get hg3, h1.lnSl, hsr, w1, w2, hbl, bA_ok hP3.ok, bA_ok (hP3.ok.push _), AH.push_next, hcn, e6, bA_ok ok6, n6, hci, e8, ld1_get (hI.prs.get hP3.ok hg3), p1, p2, callKd, e9, f12j3, ld1_get (hI9.prs.get hP3.ok hg3), e10, f12b2, u1, u2, u3, ne_eq, not_true_eq_false]
          simp only [encR, hsh, if_true, if_pos hsz, Nd.encN, Nd.encB, Bool.false_eq_true, if_false, List.append_assoc]
    · have hszI : ((500 : Nat) : Int) < ((Nd.size ⟨leaf, keys, vals, kids⟩ : Nat) : Int) := by omega
      refine ⟨H3, ?_, hP13⟩
      simp only [f12, ev, lg, wnt_undef, if_true, if_false, decide_true, decide_false, Bool.not_true, Bool.not_false, Bool.false_eq_true, Bool.true_eq_false, Bool.and_true, Bool.true_and, Bool.and_false, Bool.false_and, Bool.or_true, Bool.true_or, Bool.or_false, Bool.false_or, bA_ok hk, sub4, Option.map_some, e2, hsh, ldN_get hg2, e3, hszI, encR, hsz, hse]
end Go.Eng.Sh
end
section
namespace Go.Eng.Sh
open Go.Nd (Ptr bee mayP ptrOf)
theorem bInt_or_u64 {a b : Nat} (ha : a < 18446744073709551616) (hb : b < 256) : bInt .or (.int .u64 ((a * 256 : Nat) : Int)) (.int .u64 (b : Int)) = some (.int .u64 (((a * 256 + b) : Nat) : Int)) ∨ 18446744073709551616 ≤ a * 256 := by
  by_cases h : a * 256 < 18446744073709551616
  · left
    have h1 : Nat.blt (a * 256) (kmod .u64) = true := by rw [Nat.blt_eq]; exact h
    have h2 : Nat.blt b (kmod .u64) = true := by rw [Nat.blt_eq]; exact Nat.lt_trans hb (by decide)
    have h3 : Nat.lor (a * 256) b = a * 256 + b := by
      have := Nat.two_pow_add_eq_or_of_lt (b := b) (i := 8) (by omega) a
      rw [Nat.mul_comm a 256]; exact this.symm
    have hk : keq .u64 .u64 = true := rfl
    have h5 : IntKind.wrap .u64 ((a * 256 + b : Nat) : Int) = ((a * 256 + b : Nat) : Int) := by rw [wrap_u64]; omega
    have h4 : abits .or .u64 (.ofNat (a * 256)) (.ofNat b) = some (.int .u64 ((a * 256 + b : Nat) : Int)) := by
      simp only [abits, IntKind.signed, Bool.not_false, h1, h2, Bool.and_self, cond_true, h3, mkI_eq, Int.ofNat_eq_natCast, h5]
    have h6 : bInt .or (.int .u64 (.ofNat (a * 256))) (.int .u64 (.ofNat b)) = abits .or .u64 (.ofNat (a * 256)) (.ofNat b) := by simp only [bInt, abinI, hk, cond_true]
    exact h6.trans h4
  · right; omega
theorem bytesV_get (l : Str) (i : Nat) (h : i < l.length) : (bytesV l)[i]? = some (.int .u8 ((l[i].toNat : Nat) : Int)) := by simp [bytesV, h]
theorem bee_take (l : Str) (i : Nat) (h : i < l.length) : bee (l.take (i + 1)) = bee (l.take i) * 256 + l[i].toNat := by rw [sum_take_succ l i h, Nd.bee_snoc]
theorem get_ok (D : Dyn) (n : Nat) {H : AH} {v : AV} {l : Str} (h : Rw 1 H v l.length (bytesV l)) (hl : l.length ≤ 8) (hn : 100 ≤ n) : f61 D n [v] H = some (.int .u64 (bee l : Nat), H) := by
  have key := loop_for (b := f61l0 D n) (H := H) (r := some (.exit 0 [.int .u64 (bee l : Nat)], H)) (fun i => [.int .u64 (bee (l.take i) : Nat), v, .int .i64 (l.length : Nat), .int .i64 (i : Nat)]) l.length (fun i hi => by
    obtain ⟨p, x, p1, p2, p3⟩ := h.ld1 hi
    rw [bytesV_get l i hi] at p3
    simp only [Option.some.injEq] at p3
    subst p3
    have hlt := Nd.bee_lt (l.take i)
    have hlen : (l.take i).length = i := by simp; omega
    have hp : 256 ^ i ≤ 256 ^ 7 := Nat.pow_le_pow_right (by omega) (by omega)
    rw [hlen] at hlt
    have hb : bee (l.take i) < 72057594037927936 := by
      have : (256 : Nat) ^ 7 = 72057594037927936 := by decide
      omega
    have hc : l[i].toNat < 256 := l[i].toNat_lt
    have hiI : ((i : Nat) : Int) < ((l.length : Nat) : Int) := by omega
    have w1 : IntKind.wrap .u64 (((bee (l.take i) : Nat) : Int) * 2 ^ 8) = ((bee (l.take i) * 256 : Nat) : Int) := by rw [wrap_u64]; omega
    have w2 : IntKind.wrap .u64 ((l[i].toNat : Nat) : Int) = ((l[i].toNat : Nat) : Int) := by rw [wrap_u64]; omega
    have hor := (bInt_or_u64 (a := bee (l.take i)) (b := l[i].toNat) (by omega) hc).resolve_right (by omega)
    have hsl := bInt_shl .u64 .u64 ((bee (l.take i) : Nat) : Int) (s := 8) (by decide)
    rw [w1] at hsl
    simp (disch := omega) only [f61l0, ev, lg, wnt_undef, if_true, if_false, decide_true, decide_false, Bool.not_true, Bool.not_false, Bool.false_eq_true, Bool.true_eq_false, Bool.and_true, Bool.true_and, Bool.and_false, Bool.false_and, Bool.or_true, Bool.true_or, Bool.or_false, Bool.false_or, hiI, p1, p2, hsl, w2, hor, bee_take l i hi]
    simp only [Int.natCast_add]) (fun n => loop_exit (by
    simp only [f61l0, ev, lg, wnt_undef, if_true, if_false, decide_true, decide_false, Bool.not_true, Bool.not_false, Bool.false_eq_true, Bool.true_eq_false, Bool.and_true, Bool.true_and, Bool.and_false, Bool.false_and, Bool.or_true, Bool.true_or, Bool.or_false, Bool.false_or, Int.lt_irrefl, List.take_of_length_le (Nat.le_refl _)])) n (by omega)
  have hf : f61 D n [v] H = outR (jb 0 (loopK n (f61l0 D n) [.int .u64 (bee (l.take 0) : Nat), v, .int .i64 (l.length : Nat), .int .i64 (0 : Nat)] H) (f61b1 D n)) := by
    simp only [f61, ev, lg, wnt_undef, if_true, if_false, decide_true, decide_false, Bool.not_true, Bool.not_false, Bool.false_eq_true, Bool.true_eq_false, Bool.and_true, Bool.true_and, Bool.and_false, Bool.false_and, Bool.or_true, Bool.true_or, Bool.or_false, Bool.false_or, h.lnSl]; rfl
  rw [hf, key]
  simp only [ev, lg, wnt_undef, if_true, if_false, decide_true, decide_false, Bool.not_true, Bool.not_false, Bool.false_eq_true, Bool.true_eq_false, Bool.and_true, Bool.true_and, Bool.and_false, Bool.false_and, Bool.or_true, Bool.true_or, Bool.or_false, Bool.false_or, f61b1]
theorem cvSB_S (s : Str) (h : s.length < 4611686018427387904) : cvSB 5 (S s) = some (.cells (bytesV s) 5 1 true, fun A => .slice A 0 s.length 1) := by
  have : Nat.blt s.length 4611686018427387904 = true := by rw [Nat.blt_eq]; exact h
  simp only [cvSB, S, this, cond_true, bytesOf_S]
theorem bldP (a b c : Int) (x y z : Int) : bldS [(0, 1), (1, 1), (2, 1)] [.int .i64 a, .int .i64 b, .int .u64 c] [(0, .int .i64 x), (1, .int .i64 y), (2, .int .u64 z)] = some (.agg [.int .i64 x, .int .i64 y, .int .u64 z]) := rfl
/-- A struct's block that is written over whole. -/
theorem st_all {H : AH} (hk : H.ok) {A : Nat} {l l' : List AV} {e : TypeId} (h : H.h.get A = some (.cells l e 1 false)) (hl : l'.length = l.length) (hc : allCells l' = true) :
    ∃ H', stN l.length (.ptr A 0) (.agg l') H = some (undefA, H') ∧ H'.h.get A = some (.cells l' e 1 false) ∧ Stp (fun B => B = A) H H' ∧ H'.next = H.next := by
  refine ⟨_, stN_ok h (by decide) hl hc (by omega), ?_, (Stp.refl hk).put (hk.lt h) _ (.inr rfl), rfl⟩
  rw [AH.put_get, if_pos rfl]
  simp [cellsA]
theorem decPtr_ok (D : Dyn) (n : Nat) {H : AH} (hk : H.ok) {s : Str} (hs : s.length = 16) (hn : 100 ≤ n) :
    ∃ H', f55 D n [S s] H = some (.tuple [.agg (ptrV (if mayP (ptrOf s) then ptrOf s else pz)), .int .i64 ((if mayP (ptrOf s) then 0 else 4 : Nat) : Int)], H') ∧ Prs H H' := by
  have h16 : ¬ (((s.length : Nat) : Int) ≠ ((16 : Nat) : Int)) := by omega
  -- x2
  have p1 : Prs H (H.push (.cells (ptrV pz) 59 1 false)) := (Stp.refl hk).push _
  have g1 : (H.push (.cells (ptrV pz) 59 1 false)).h.get H.next = some (.cells (ptrV pz) 59 1 false) := AH.push_get_eq _ _
  have n1 : (H.push (.cells (ptrV pz) 59 1 false)).next = H.next + 1 := rfl
  generalize hH1 : H.push (.cells (ptrV pz) 59 1 false) = H1 at p1 g1 n1
  -- the bytes
  have p2 : Prs H1 (H1.push (.cells (bytesV s) 5 1 true)) := (Stp.refl p1.ok).push _
  have g2 : (H1.push (.cells (bytesV s) 5 1 true)).h.get H1.next = some (.cells (bytesV s) 5 1 true) := AH.push_get_eq _ _
  have n2 : (H1.push (.cells (bytesV s) 5 1 true)).next = H1.next + 1 := rfl
  generalize hH2 : H1.push (.cells (bytesV s) 5 1 true) = H2 at p2 g2 n2
  have hld16 : ldN 16 (.ptr H1.next 0) H2 = some (.agg (bytesV s)) := by
    rw [ldN_get g2, subN_some _ _ _ (.inr (by simp [bytesV, hs])), List.drop_zero, List.take_of_length_le (by simp [bytesV, hs])]; rfl
  have p3 : Prs H2 (H2.push (.cells (Z 16) 89 1 false)) := (Stp.refl p2.ok).push _
  have g3 : (H2.push (.cells (Z 16) 89 1 false)).h.get H2.next = some (.cells (Z 16) 89 1 false) := AH.push_get_eq _ _
  have n3 : (H2.push (.cells (Z 16) 89 1 false)).next = H2.next + 1 := rfl
  generalize hH3 : H2.push (.cells (Z 16) 89 1 false) = H3 at p3 g3 n3
  obtain ⟨H4, e4, g4, s4, n4⟩ := st_all p3.ok g3 (l' := bytesV s) (by simp [bytesV, Z, hs]) (bytesV_cells s)
  have e4' : stN 16 (.ptr H2.next 0) (.agg (bytesV s)) H3 = some (undefA, H4) := e4
  have p5 : Prs H4 (H4.push (.cells (ptrV pz) 59 1 false)) := (Stp.refl s4.ok).push _
  have g5 : (H4.push (.cells (ptrV pz) 59 1 false)).h.get H4.next = some (.cells (ptrV pz) 59 1 false) := AH.push_get_eq _ _
  have n5 : (H4.push (.cells (ptrV pz) 59 1 false)).next = H4.next + 1 := rfl
  have g45 := p5.get s4.ok g4
  generalize hH5 : H4.push (.cells (ptrV pz) 59 1 false) = H5 at p5 g5 n5 g45
  -- the three numbers
  have rw1 : Rw 1 H5 (.slice H2.next 0 4 32) (s.take 4).length (bytesV (s.take 4)) := by
    refine ⟨by simp [bytesV], .inr (.inr ⟨H2.next, 0, 32, _, _, _, _, ?_, g45, by omega, by simp [bytesV]; omega, ?_⟩)⟩
    · simp [hs]
    · simp [bytesV, hs]
  have rw2 : Rw 1 H5 (.slice H2.next 4 4 24) ((s.drop 4).take 4).length (bytesV ((s.drop 4).take 4)) := by
    refine ⟨by simp [bytesV], .inr (.inr ⟨H2.next, 4, 24, _, _, _, _, ?_, g45, by omega, by simp [bytesV]; omega, ?_⟩)⟩
    · simp [hs]
    · simp [bytesV, hs]
  have rw3 : Rw 1 H5 (.slice H2.next 8 8 16) (s.drop 8).length (bytesV (s.drop 8)) := by
    refine ⟨by simp [bytesV], .inr (.inr ⟨H2.next, 8, 16, _, _, _, _, ?_, g45, by omega, by simp [bytesV]; omega, ?_⟩)⟩
    · simp [hs]
    · rw [List.take_of_length_le (by simp [bytesV, hs])]; simp [bytesV]
  have q1 := get_ok D n rw1 (by simp; omega) hn
  have q2 := get_ok D n rw2 (by simp; omega) hn
  have q3 := get_ok D n rw3 (by simp; omega) hn
  have b1 := Nd.bee_lt (s.take 4)
  have b2 := Nd.bee_lt ((s.drop 4).take 4)
  rw [show (s.take 4).length = 4 by simp; omega] at b1
  rw [show ((s.drop 4).take 4).length = 4 by simp; omega] at b2
  have w1 : IntKind.wrap .i64 ((bee (s.take 4) : Nat) : Int) = ((bee (s.take 4) : Nat) : Int) := wrap_i64 (by omega) (by omega)
  have w2 : IntKind.wrap .i64 ((bee ((s.drop 4).take 4) : Nat) : Int) = ((bee ((s.drop 4).take 4) : Nat) : Int) := wrap_i64 (by omega) (by omega)
  obtain ⟨H6, e6, g6, s6, n6⟩ := st_all p5.ok g5 (l' := ptrV (ptrOf s)) rfl rfl
  have e6' : stN 3 (.ptr H4.next 0) (.agg (ptrV (ptrOf s))) H5 = some (undefA, H6) := e6
  obtain ⟨H7, e7, p7⟩ := may_ok D n s6.ok (ptrOf s)
  have g7 := p7.get s6.ok g6
  have hge1 : Prs H1 H6 := ((((p2.trans p3).fresh s4 (fun B hB => by omega)).trans p5).fresh s6 (fun B hB => by omega))
  have g17 := p7.get s6.ok (hge1.get p1.ok g1)
  have hP7 : Prs H H7 := (p1.trans hge1).trans p7
  have hsub : subN (ptrV (ptrOf s)) 0 3 = some (ptrV (ptrOf s)) := rfl
  have hpz : (AV.agg [.int .i64 ((0 : Nat) : Int), .int .i64 ((0 : Nat) : Int), .int .u64 ((0 : Nat) : Int)]) = .agg (ptrV pz) := rfl
  have hpz' : ([.int .i64 ((0 : Nat) : Int), .int .i64 ((0 : Nat) : Int), .int .u64 ((0 : Nat) : Int)] : List AV) = ptrV pz := rfl
  have hbz : bldS [(0, 1), (1, 1), (2, 1)] (ptrV pz) [] = some (.agg (ptrV pz)) := rfl
  have hbp : bldS [(0, 1), (1, 1), (2, 1)] (ptrV pz) [(0, .int .i64 ((bee (s.take 4) : Nat) : Int)), (1, .int .i64 ((bee ((s.drop 4).take 4) : Nat) : Int)), (2, .int .u64 ((bee (s.drop 8) : Nat) : Int))] = some (.agg (ptrV (ptrOf s))) := rfl
  have hs2 : ∀ A : Nat, s2a 16 (.slice A 0 16 1) = some (.ptr A 0) := fun _ => rfl
  have hgetz : subN (ptrV pz) 0 3 = some (ptrV pz) := rfl
  cases hm : mayP (ptrOf s) with
  | false =>
    obtain ⟨H8, e8, g8, s8, n8⟩ := st_all hP7.ok g17 (l' := ptrV pz) rfl rfl
    have e8' : stN 3 (.ptr H.next 0) (.agg (ptrV pz)) H7 = some (undefA, H8) := e8
    refine ⟨H8, ?_, hP7.fresh s8 (fun B hB => by omega)⟩
    simp (disch := omega) only [f55, ev, lg, wnt_undef, if_true, if_false, decide_true, decide_false, Bool.not_true, Bool.not_false, Bool.false_eq_true, Bool.true_eq_false, Bool.and_true, Bool.true_and, Bool.and_false, Bool.false_and, Bool.or_true, Bool.true_or, Bool.or_false, Bool.false_or, hpz', bA_ok hk, hH1, h16, cvSB_S s (by omega), hs, bA_ok p1.ok, hH2, hs2, hld16, bA_ok p2.ok, rep16, hH3, e4', slA_hi, slA_lo, slA _ 4 8 (by omega) (by omega) (by omega), bA_ok s4.ok, hH5, q1, w1, q2, w2, q3, hbp, e6', ldN_get g6, hsub, Option.map_some, e7, hm, hbz, e8', ldN_get g8, hgetz]
    rfl
  | true =>
    obtain ⟨H8, e8, g8, s8, n8⟩ := st_all hP7.ok g17 (l' := ptrV (ptrOf s)) rfl rfl
    have e8' : stN 3 (.ptr H.next 0) (.agg (ptrV (ptrOf s))) H7 = some (undefA, H8) := e8
    refine ⟨H8, ?_, hP7.fresh s8 (fun B hB => by omega)⟩
    simp (disch := omega) only [f55, ev, lg, wnt_undef, if_true, if_false, decide_true, decide_false, Bool.not_true, Bool.not_false, Bool.false_eq_true, Bool.true_eq_false, Bool.and_true, Bool.true_and, Bool.and_false, Bool.false_and, Bool.or_true, Bool.true_or, Bool.or_false, Bool.false_or, hpz', bA_ok hk, hH1, h16, cvSB_S s (by omega), hs, bA_ok p1.ok, hH2, hs2, hld16, bA_ok p2.ok, rep16, hH3, e4', slA_hi, slA_lo, slA _ 4 8 (by omega) (by omega) (by omega), bA_ok s4.ok, hH5, q1, w1, q2, w2, q3, hbp, e6', ldN_get g6, hsub, Option.map_some, e7, hm, ldN_get g7, e8', ldN_get g8]
    rfl
end Go.Eng.Sh
end
section
namespace Go.Eng.Sh
open Go.Nd (Ptr bee mayP ptrOf takeT takeP)
theorem Stp.via {S T : Nat → Prop} {H0 H H1 : AH} (h : Stp S H0 H) (k : Stp T H H1) (f : ∀ A, T A → H0.next ≤ A ∨ S A) : Stp S H0 H1 :=
  ⟨k.ok, Nat.le_trans h.next k.next, fun A hA hS => by
    rw [k.keep A (Nat.lt_of_lt_of_le hA h.next) (fun x => by rcases f A x with y | y; omega; exact hS y), h.keep A hA hS]⟩
structure RdI (R : Nat) (H0 H : AH) (rest : Str) (bad leaf : Bool) (kv vv pv : AV) (ks vs : List Str) (ps : List Ptr) : Prop where
  prs : Stp (fun B => B = R) H0 H
  get : ∃ e, H.h.get R = some (.cells [S rest, .bool bad, .bool leaf, kv, vv, pv] e 1 false)
  k : Own 1 9 H kv ks.length (ks.map S)
  v : Own 1 9 H vv vs.length (vs.map S)
  p : Own 3 59 H pv ps.length (ps.flatMap ptrV)
  kb : ∀ B, Blk kv B → H0.next ≤ B ∧ B ≠ R ∧ ¬ Blk vv B ∧ ¬ Blk pv B
  vb : ∀ B, Blk vv B → H0.next ≤ B ∧ B ≠ R ∧ ¬ Blk pv B
  pb : ∀ B, Blk pv B → H0.next ≤ B ∧ B ≠ R
  small : rest.length ≤ 10000 ∧ ks.length ≤ 1000000 ∧ vs.length ≤ 1000000 ∧ ps.length ≤ 1000000
/-- The reader's own block is written over. -/
theorem RdI.put {R : Nat} {H0 H : AH} {rest : Str} {bad leaf : Bool} {kv vv pv : AV} {ks vs : List Str} {ps : List Ptr} (h : RdI R H0 H rest bad leaf kv vv pv ks vs ps) {o : Nat} {x : AV} (hx : isCell x = true) (ho : o < 6) {rest' : Str} {bad' : Bool} (hr : rest'.length ≤ 10000)
    (hl : [S rest, .bool bad, .bool leaf, kv, vv, pv].set o x = [S rest', .bool bad', .bool leaf, kv, vv, pv]) : ∃ H', stN 1 (.ptr R o) x H = some (undefA, H') ∧ RdI R H0 H' rest' bad' leaf kv vv pv ks vs ps := by
  obtain ⟨e, hg⟩ := h.get
  have hlt := h.prs.ok.lt hg
  have hst : Stp (fun B => B = R) H (H.put R (.cells ([S rest, .bool bad, .bool leaf, kv, vv, pv].set o x) e 1 false)) := (Stp.refl h.prs.ok).put hlt _ (.inr rfl)
  refine ⟨_, st1_ok hg (by decide) hx ho, ⟨h.prs.trans hst, ⟨e, by rw [AH.put_get, if_pos rfl, hl]⟩, h.k.mono hst (fun B hB => (h.kb B hB).2.1), h.v.mono hst (fun B hB => (h.vb B hB).2.1), h.p.mono hst (fun B hB => (h.pb B hB).2), h.kb, h.vb, h.pb, hr, h.small.2⟩⟩
def takeM (rest : Str) (bad : Bool) (k : Nat) : Str × Str × Bool := if bad then ([], rest, true) else if rest.length < k then ([], rest, true) else (rest.take k, rest.drop k, false)
theorem S_nil : S [] = .str 0 0 := rfl
theorem take_ok (D : Dyn) (n : Nat) {R : Nat} {H0 H : AH} {rest : Str} {bad leaf : Bool} {kv vv pv : AV} {ks vs : List Str} {ps : List Ptr} (h : RdI R H0 H rest bad leaf kv vv pv ks vs ps) (k : Nat) :
    ∃ H', f34 D n [.ptr R 0, .int .i64 (k : Nat)] H = some (S (takeM rest bad k).1, H') ∧ RdI R H0 H' (takeM rest bad k).2.1 (takeM rest bad k).2.2 leaf kv vv pv ks vs ps := by
  obtain ⟨e, hg⟩ := h.get
  cases bad with
  | true =>
    obtain ⟨H1, e1, h1⟩ := h.put (o := 1) (x := .bool true) rfl (by decide) (rest' := rest) (bad' := true) h.small.1 rfl
    refine ⟨H1, ?_, h1⟩
    simp only [f34, ev, lg, wnt_undef, if_true, if_false, decide_true, decide_false, Bool.not_true, Bool.not_false, Bool.false_eq_true, Bool.true_eq_false, Bool.and_true, Bool.true_and, Bool.and_false, Bool.false_and, Bool.or_true, Bool.true_or, Bool.or_false, Bool.false_or, ld1_get hg, e1, takeM, S_nil]
  | false =>
    by_cases hk : rest.length < k
    · obtain ⟨H1, e1, h1⟩ := h.put (o := 1) (x := .bool true) rfl (by decide) (rest' := rest) (bad' := true) h.small.1 rfl
      have hkI : ((rest.length : Nat) : Int) < ((k : Nat) : Int) := by omega
      simp only [takeM, hk, if_true, Bool.false_eq_true, if_false]
      refine ⟨H1, ?_, h1⟩
      simp only [f34, ev, lg, wnt_undef, if_true, if_false, decide_true, decide_false, Bool.not_true, Bool.not_false, Bool.false_eq_true, Bool.true_eq_false, Bool.and_true, Bool.true_and, Bool.and_false, Bool.false_and, Bool.or_true, Bool.true_or, Bool.or_false, Bool.false_or, ld1_get hg, e1, hkI, S_nil]
    · obtain ⟨H1, e1, h1⟩ := h.put (o := 0) (x := S (rest.drop k)) rfl (by decide) (rest' := rest.drop k) (bad' := false) (by have := h.small.1; simp; omega) rfl
      have hkI : ¬ ((rest.length : Nat) : Int) < ((k : Nat) : Int) := by omega
      have h2 := slStr_hi rest .i64 (z := ((k : Nat) : Int)) (by omega) (by omega)
      have h3 := slStr_lo rest .i64 (z := ((k : Nat) : Int)) (by omega) (by omega)
      simp only [Int.toNat_natCast] at h2 h3
      simp only [takeM, hk, Bool.false_eq_true, if_false]
      refine ⟨H1, ?_, h1⟩
      simp only [f34, ev, lg, wnt_undef, if_true, if_false, decide_true, decide_false, Bool.not_true, Bool.not_false, Bool.false_eq_true, Bool.true_eq_false, Bool.and_true, Bool.true_and, Bool.and_false, Bool.false_and, Bool.or_true, Bool.true_or, Bool.or_false, Bool.false_or, ld1_get hg, e1, hkI, h2, h3]
def textM (rest : Str) (bad : Bool) : Str × Str × Bool := if (takeM rest bad 1).2.2 then ([], (takeM rest bad 1).2) else takeM (takeM rest bad 1).2.1 false ((takeM rest bad 1).1.getD 0 0).toNat
theorem textM_bad (rest : Str) : (textM rest true).2.2 = true := by simp [textM, takeM]
theorem textM_some {rest a r : Str} (h : takeT rest = some (a, r)) : textM rest false = (a, r, false) := by
  cases rest with
  | nil => simp [takeT] at h
  | cons c s =>
    simp only [takeT] at h
    split at h
    · rename_i hc
      simp only [Option.some.injEq, Prod.mk.injEq] at h
      obtain ⟨rfl, rfl⟩ := h
      simp [textM, takeM]; omega
    · simp at h
theorem textM_none {rest : Str} (h : takeT rest = none) : (textM rest false).2.2 = true := by
  cases rest with
  | nil => simp [textM, takeM]
  | cons c s =>
    simp only [takeT] at h
    split at h
    · simp at h
    · rename_i hc
      have h1 : ¬ (c :: s).length < 1 := by simp
      have h2 : s.length < c.toNat := by omega
      simp [textM, takeM, h2]
theorem takeM_small {rest : Str} {bad : Bool} {k : Nat} (h : rest.length ≤ 10000) : (takeM rest bad k).1.length ≤ 10000 ∧ (takeM rest bad k).2.1.length ≤ 10000 := by
  unfold takeM; split
  · exact ⟨by simp, h⟩
  · split
    · exact ⟨by simp, h⟩
    · exact ⟨by simp; omega, by simp; omega⟩
theorem txt_ok (D : Dyn) (n : Nat) {R : Nat} {H0 H : AH} {rest : Str} {bad leaf : Bool} {kv vv pv : AV} {ks vs : List Str} {ps : List Ptr} (h : RdI R H0 H rest bad leaf kv vv pv ks vs ps) :
    ∃ H', f54 D n [.ptr R 0] H = some (S (textM rest bad).1, H') ∧ RdI R H0 H' (textM rest bad).2.1 (textM rest bad).2.2 leaf kv vv pv ks vs ps := by
  obtain ⟨H1, e1, h1⟩ := take_ok D n h 1
  obtain ⟨e, g1⟩ := h1.get
  by_cases hb : (takeM rest bad 1).2.2 = true
  · rw [hb] at h1 g1
    refine ⟨H1, ?_, by simp only [textM, hb, if_true]; exact h1⟩
    simp only [f54, ev, lg, wnt_undef, if_true, if_false, decide_true, decide_false, Bool.not_true, Bool.not_false, Bool.false_eq_true, Bool.true_eq_false, Bool.and_true, Bool.true_and, Bool.and_false, Bool.false_and, Bool.or_true, Bool.true_or, Bool.or_false, Bool.false_or, e1, ld1_get g1, textM, hb, S_nil]
  · have hb' : (takeM rest bad 1).2.2 = false := by simpa using hb
    have hlen : (takeM rest bad 1).1.length = 1 := by
      revert hb'; unfold takeM
      split
      · intro h; simp at h
      · split
        · intro h; simp at h
        · intro _; simp; omega
    rw [hb'] at h1 g1
    obtain ⟨H2, e2, h2⟩ := take_ok D n h1 ((takeM rest bad 1).1.getD 0 0).toNat
    have hix := ixStr_S (takeM rest bad 1).1 .i64 (z := ((0 : Nat) : Int)) (by omega) (by simp [hlen])
    have hgd : (takeM rest bad 1).1[(((0 : Nat) : Int)).toNat]'(by simp [hlen]) = (takeM rest bad 1).1.getD 0 0 := by
      rw [List.getD_eq_getElem?_getD, List.getElem?_eq_getElem (by omega)]; rfl
    rw [hgd] at hix
    have hw : IntKind.wrap .i64 ((((takeM rest bad 1).1.getD 0 0).toNat : Nat) : Int) = ((((takeM rest bad 1).1.getD 0 0).toNat : Nat) : Int) := wrap_i64 (by omega) (by have := ((takeM rest bad 1).1.getD 0 0).toNat_lt; omega)
    have htm : textM rest bad = takeM (takeM rest bad 1).2.1 false ((takeM rest bad 1).1.getD 0 0).toNat := by simp only [textM, hb', Bool.false_eq_true, if_false]
    rw [htm]
    refine ⟨H2, ?_, h2⟩
    simp only [f54, ev, lg, wnt_undef, if_true, if_false, decide_true, decide_false, Bool.not_true, Bool.not_false, Bool.false_eq_true, Bool.true_eq_false, Bool.and_true, Bool.true_and, Bool.and_false, Bool.false_and, Bool.or_true, Bool.true_or, Bool.or_false, Bool.false_or, e1, ld1_get g1, hix, hw, e2]
theorem bldL9 (x : AV) (h : isCell x = true) : bldL 9 1 1 [.str 0 0] [(0, x)] = some (.cells [x] 9 1 false, fun A => .slice A 0 1 2) := bldL1 9 1 _ x h
theorem aveq_own {k e n : Nat} {H : AH} {v : AV} {l : List AV} (h : Own k e H v n l) : aveq v v = true := aveq_row h.row
/-- A new block beside the reader's. -/
theorem RdI.prsH {R : Nat} {H0 H H' : AH} {rest : Str} {bad leaf : Bool} {kv vv pv : AV} {ks vs : List Str} {ps : List Ptr} (h : RdI R H0 H rest bad leaf kv vv pv ks vs ps) (s : Prs H H') : RdI R H0 H' rest bad leaf kv vv pv ks vs ps := by
  obtain ⟨e, hg⟩ := h.get
  exact ⟨h.prs.trans (Prs.stp s), ⟨e, s.get h.prs.ok hg⟩, h.k.mono s (fun _ _ x => x), h.v.mono s (fun _ _ x => x), h.p.mono s (fun _ _ x => x), h.kb, h.vb, h.pb, h.small⟩
theorem RdI.lt {R : Nat} {H0 H : AH} {rest : Str} {bad leaf : Bool} {kv vv pv : AV} {ks vs : List Str} {ps : List Ptr} (h : RdI R H0 H rest bad leaf kv vv pv ks vs ps) : R < H.next := by
  obtain ⟨e, hg⟩ := h.get; exact h.prs.ok.lt hg
theorem Own.lt {k e n : Nat} {H : AH} {v : AV} {l : List AV} (h : Own k e H v n l) {B : Nat} (hB : Blk v B) : B < H.next := (Grow.lt (.inl h) hB)
theorem rowNew (H : AH) (x : AV) (e : Nat) : Prs H (H.push (.cells [x] e 1 false)) → srcOf 1 (.slice H.next 0 1 2) (H.push (.cells [x] e 1 false)) = some (1, [x]) := fun _ => srcOf_new H [x] e 1 false 1 2 rfl
theorem key_ok (D : Dyn) (n : Nat) {R : Nat} {H0 H : AH} {rest : Str} {bad leaf : Bool} {kv vv pv : AV} {ks vs : List Str} {ps : List Ptr} (h : RdI R H0 H rest bad leaf kv vv pv ks vs ps) (hs : ks.length < 1000000) :
    ∃ H' kv', f35 D n [.ptr R 0] H = some (.tuple [], H') ∧ RdI R H0 H' (textM rest bad).2.1 (textM rest bad).2.2 leaf kv' vv pv (ks ++ [(textM rest bad).1]) vs ps := by
  obtain ⟨H1, e1, h1⟩ := txt_ok D n h
  generalize textM rest bad = t at e1 h1 ⊢
  obtain ⟨e, g0⟩ := h.get
  obtain ⟨e', g1⟩ := h1.get
  have p2 : Prs H1 (H1.push (.cells [S t.1] 9 1 false)) := (Stp.refl h1.prs.ok).push _
  have h2 := h1.prsH p2
  obtain ⟨H3, e3, o3, s3, n3⟩ := apP_own (bytes := 16) p2.ok (by decide) h2.k (rowNew H1 (S t.1) 9 p2) rfl rfl (Nat.le_refl 1) (by omega) (by decide)
  generalize hv3 : AV.slice (H1.push (.cells [S t.1] 9 1 false)).next 0 (ks.length + 1) 1 = kv' at e3 o3
  have hb3 : ∀ B, Blk kv' B → B = H1.next + 1 := fun B hB => by rw [← hv3, Blk.slice] at hB; exact hB
  have hlt := h1.lt
  have n2 : (H1.push (.cells [S t.1] 9 1 false)).next = H1.next + 1 := rfl
  have hn0 := h1.prs.next
  obtain ⟨e'', g2⟩ := h2.get
  have g3 : H3.h.get R = some (.cells [S t.2.1, .bool t.2.2, .bool leaf, kv, vv, pv] e'' 1 false) := by rw [s3.keep _ (by omega) (fun hh => (h2.kb _ hh).2.1 rfl)]; exact g2
  have hlt3 := s3.ok.lt g3
  have hst : Stp (fun B => B = R) H3 (H3.put R (.cells ([S t.2.1, .bool t.2.2, .bool leaf, kv, vv, pv].set 3 kv') e'' 1 false)) := (Stp.refl s3.ok).put hlt3 _ (.inr rfl)
  have hst1 := st1_ok (o := 3) (x := kv') g3 (by decide) o3.row.isCell (by simp)
  have hne : ∀ B, Blk vv B → ¬ Blk kv B := fun B hB hk => (h2.kb B hk).2.2.1 hB
  have hne2 : ∀ B, Blk pv B → ¬ Blk kv B := fun B hB hk => (h2.kb B hk).2.2.2 hB
  refine ⟨_, kv', ?_, ⟨(Stp.via h2.prs s3 (fun B hB => .inl (h2.kb B hB).1)).trans hst, ⟨e'', by rw [AH.put_get, if_pos rfl]; rfl⟩, ?_, (h2.v.mono s3 hne).mono hst (fun B hB => (h2.vb B hB).2.1), (h2.p.mono s3 hne2).mono hst (fun B hB => (h2.pb B hB).2), ?_, h2.vb, h2.pb, ⟨h1.small.1, by simp; omega, h.small.2.2⟩⟩⟩
  · simp only [f35, ev, lg, wnt_undef, if_true, if_false, decide_true, decide_false, Bool.not_true, Bool.not_false, Bool.false_eq_true, Bool.true_eq_false, Bool.and_true, Bool.true_and, Bool.and_false, Bool.false_and, Bool.or_true, Bool.true_or, Bool.or_false, Bool.false_or, ld1_get g0, e1]
    rw [chk_ok (by rw [ld1_get g1]; rfl) (aveq_own h.k), bldL9 _ rfl]
    simp only [ev, lg, wnt_undef, if_true, if_false, decide_true, decide_false, Bool.not_true, Bool.not_false, Bool.false_eq_true, Bool.true_eq_false, Bool.and_true, Bool.true_and, Bool.and_false, Bool.false_and, Bool.or_true, Bool.true_or, Bool.or_false, Bool.false_or, bA_ok h1.prs.ok, e3]
    rw [hst1]
    simp only [ev, lg, wnt_undef, if_true, if_false, decide_true, decide_false, Bool.not_true, Bool.not_false, Bool.false_eq_true, Bool.true_eq_false, Bool.and_true, Bool.true_and, Bool.and_false, Bool.false_and, Bool.or_true, Bool.true_or, Bool.or_false, Bool.false_or]
  · have := o3.mono hst (fun B hB => by have := hb3 B hB; omega)
    simpa using this
  · intro B hB
    have := hb3 B hB
    refine ⟨by omega, by omega, fun hh => ?_, fun hh => ?_⟩
    · have := Own.lt h1.v hh; omega
    · have := Own.lt h1.p hh; omega
theorem value_ok (D : Dyn) (n : Nat) {R : Nat} {H0 H : AH} {rest : Str} {bad leaf : Bool} {kv vv pv : AV} {ks vs : List Str} {ps : List Ptr} (h : RdI R H0 H rest bad leaf kv vv pv ks vs ps) (hs : vs.length < 1000000) :
    ∃ H' vv', f37 D n [.ptr R 0] H = some (.tuple [], H') ∧ RdI R H0 H' (textM rest bad).2.1 (textM rest bad).2.2 leaf kv vv' pv ks (vs ++ [(textM rest bad).1]) ps := by
  obtain ⟨H1, e1, h1⟩ := txt_ok D n h
  generalize textM rest bad = t at e1 h1 ⊢
  obtain ⟨e, g0⟩ := h.get
  obtain ⟨e', g1⟩ := h1.get
  have p2 : Prs H1 (H1.push (.cells [S t.1] 9 1 false)) := (Stp.refl h1.prs.ok).push _
  have h2 := h1.prsH p2
  obtain ⟨H3, e3, o3, s3, n3⟩ := apP_own (bytes := 16) p2.ok (by decide) h2.v (rowNew H1 (S t.1) 9 p2) rfl rfl (Nat.le_refl 1) (by omega) (by decide)
  generalize hv3 : AV.slice (H1.push (.cells [S t.1] 9 1 false)).next 0 (vs.length + 1) 1 = vv' at e3 o3
  have hb3 : ∀ B, Blk vv' B → B = H1.next + 1 := fun B hB => by rw [← hv3, Blk.slice] at hB; exact hB
  have hlt := h1.lt
  have n2 : (H1.push (.cells [S t.1] 9 1 false)).next = H1.next + 1 := rfl
  have hn0 := h1.prs.next
  obtain ⟨e'', g2⟩ := h2.get
  have g3 : H3.h.get R = some (.cells [S t.2.1, .bool t.2.2, .bool leaf, kv, vv, pv] e'' 1 false) := by rw [s3.keep _ (by omega) (fun hh => (h2.vb _ hh).2.1 rfl)]; exact g2
  have hlt3 := s3.ok.lt g3
  have hst : Stp (fun B => B = R) H3 (H3.put R (.cells ([S t.2.1, .bool t.2.2, .bool leaf, kv, vv, pv].set 4 vv') e'' 1 false)) := (Stp.refl s3.ok).put hlt3 _ (.inr rfl)
  have hst1 := st1_ok (o := 4) (x := vv') g3 (by decide) o3.row.isCell (by simp)
  have hne : ∀ B, Blk kv B → ¬ Blk vv B := fun B hB hk => (h2.kb B hB).2.2.1 hk
  have hne2 : ∀ B, Blk pv B → ¬ Blk vv B := fun B hB hk => (h2.vb B hk).2.2 hB
  refine ⟨_, vv', ?_, ⟨(Stp.via h2.prs s3 (fun B hB => .inl (h2.vb B hB).1)).trans hst, ⟨e'', by rw [AH.put_get, if_pos rfl]; rfl⟩, (h2.k.mono s3 hne).mono hst (fun B hB => (h2.kb B hB).2.1), ?_, (h2.p.mono s3 hne2).mono hst (fun B hB => (h2.pb B hB).2), ?_, ?_, h2.pb, ⟨h1.small.1, h.small.2.1, by simp; omega, h.small.2.2.2⟩⟩⟩
  · simp only [f37, ev, lg, wnt_undef, if_true, if_false, decide_true, decide_false, Bool.not_true, Bool.not_false, Bool.false_eq_true, Bool.true_eq_false, Bool.and_true, Bool.true_and, Bool.and_false, Bool.false_and, Bool.or_true, Bool.true_or, Bool.or_false, Bool.false_or, ld1_get g0, e1]
    rw [chk_ok (by rw [ld1_get g1]; rfl) (aveq_own h.v), bldL9 _ rfl]
    simp only [ev, lg, wnt_undef, if_true, if_false, decide_true, decide_false, Bool.not_true, Bool.not_false, Bool.false_eq_true, Bool.true_eq_false, Bool.and_true, Bool.true_and, Bool.and_false, Bool.false_and, Bool.or_true, Bool.true_or, Bool.or_false, Bool.false_or, bA_ok h1.prs.ok, e3]
    rw [hst1]
    simp only [ev, lg, wnt_undef, if_true, if_false, decide_true, decide_false, Bool.not_true, Bool.not_false, Bool.false_eq_true, Bool.true_eq_false, Bool.and_true, Bool.true_and, Bool.and_false, Bool.false_and, Bool.or_true, Bool.true_or, Bool.or_false, Bool.false_or]
  · have := o3.mono hst (fun B hB => by have := hb3 B hB; omega)
    simpa using this
  · intro B hB
    have hk := h2.kb B hB
    refine ⟨hk.1, hk.2.1, fun hh => ?_, hk.2.2.2⟩
    have := hb3 B hh; have := Own.lt h1.k hB; omega
  · intro B hB
    have := hb3 B hB
    refine ⟨by omega, by omega, fun hh => ?_⟩
    have := Own.lt h1.p hh; omega
def kidM (rest : Str) (bad : Bool) (ps : List Ptr) : Str × Bool × List Ptr := if (takeM rest bad 16).2.2 then ((takeM rest bad 16).2.1, true, ps) else if mayP (ptrOf (takeM rest bad 16).1) then ((takeM rest bad 16).2.1, false, ps ++ [ptrOf (takeM rest bad 16).1]) else ((takeM rest bad 16).2.1, true, ps)
theorem kidM_bad (rest : Str) (ps : List Ptr) : (kidM rest true ps).2.1 = true := by simp [kidM, takeM]
theorem kidM_some {rest r : Str} {p : Ptr} (ps : List Ptr) (h : takeP rest = some (p, r)) : kidM rest false ps = (r, false, ps ++ [p]) := by
  simp only [takeP, Nd.decP] at h
  split at h
  · rename_i hl
    split at h
    · rename_i q hq
      simp only [Option.some.injEq, Prod.mk.injEq] at h
      obtain ⟨rfl, rfl⟩ := h
      split at hq
      · rename_i hm
        simp only [Option.some.injEq] at hq
        subst hq
        have : ¬ rest.length < 16 := by omega
        simp [kidM, takeM, this, hm]
      · simp at hq
    · simp at h
  · simp at h
theorem kidM_none {rest : Str} (ps : List Ptr) (h : takeP rest = none) : (kidM rest false ps).2.1 = true := by
  simp only [takeP, Nd.decP] at h
  split at h
  · rename_i hl
    split at h
    · simp at h
    · rename_i hq
      split at hq
      · simp at hq
      · rename_i hm
        have : ¬ rest.length < 16 := by omega
        simp [kidM, takeM, this, hm]
  · rename_i hl
    have : rest.length < 16 := by omega
    simp [kidM, takeM, this]
theorem kidR_ok (D : Dyn) (n : Nat) (hn : 100 ≤ n) {R : Nat} {H0 H : AH} {rest : Str} {bad leaf : Bool} {kv vv pv : AV} {ks vs : List Str} {ps : List Ptr} (h : RdI R H0 H rest bad leaf kv vv pv ks vs ps) (hs : ps.length < 1000000) :
    ∃ H' pv', f36 D n [.ptr R 0] H = some (.tuple [], H') ∧ RdI R H0 H' (kidM rest bad ps).1 (kidM rest bad ps).2.1 leaf kv vv pv' ks vs (kidM rest bad ps).2.2 := by
  obtain ⟨H1, e1, h1⟩ := take_ok D n h 16
  obtain ⟨e, g1⟩ := h1.get
  have hlen : (takeM rest bad 16).2.2 = false → (takeM rest bad 16).1.length = 16 := by
    unfold takeM
    split
    · intro h; simp at h
    · split
      · intro h; simp at h
      · intro _; simp; omega
  simp only [kidM]
  generalize takeM rest bad 16 = t at e1 h1 g1 hlen ⊢
  obtain ⟨s, r, b⟩ := t
  simp only at e1 h1 g1 hlen ⊢
  cases b with
  | true =>
    refine ⟨H1, pv, ?_, by simpa using h1⟩
    simp only [f36, ev, lg, wnt_undef, if_true, if_false, decide_true, decide_false, Bool.not_true, Bool.not_false, Bool.false_eq_true, Bool.true_eq_false, Bool.and_true, Bool.true_and, Bool.and_false, Bool.false_and, Bool.or_true, Bool.true_or, Bool.or_false, Bool.false_or, e1, ld1_get g1]
  | false =>
    obtain ⟨H2, e2, p2⟩ := decPtr_ok D n h1.prs.ok (hlen rfl) hn
    have h2 := h1.prsH p2
    have hbox : ∀ x : Ptr, ∃ H3, stN 3 (.ptr H2.next 0) (.agg (ptrV x)) (H2.push (.cells [.int .i64 (0 : Nat), .int .i64 (0 : Nat), .int .u64 (0 : Nat)] 59 1 false)) = some (undefA, H3) ∧ Prs H2 H3 ∧ H3.next = H2.next + 1 ∧ H3.h.get H2.next = some (.cells (ptrV x) 59 1 false) := box_ptr h2.prs.ok
    cases hm : mayP (ptrOf s) with
    | false =>
      obtain ⟨H3, e3, p3, n3, g3⟩ := hbox pz
      have h3 := h2.prsH p3
      obtain ⟨H4, e4, h4⟩ := h3.put (o := 1) (x := .bool true) rfl (by decide) (rest' := r) (bad' := true) h1.small.1 rfl
      refine ⟨H4, pv, ?_, by simpa using h4⟩
      rw [hm] at e2
      simp only [if_false, Bool.false_eq_true] at e2
      have h40 : (((4 : Nat) : Int) ≠ ((0 : Nat) : Int)) := by omega
      simp only [f36, ev, lg, wnt_undef, if_true, if_false, decide_true, decide_false, Bool.not_true, Bool.not_false, Bool.false_eq_true, Bool.true_eq_false, Bool.and_true, Bool.true_and, Bool.and_false, Bool.false_and, Bool.or_true, Bool.true_or, Bool.or_false, Bool.false_or, e1, ld1_get g1, e2, pExtract, nth, bA_ok h2.prs.ok, e3, h40, e4, ne_eq, not_false_eq_true]
    | true =>
      obtain ⟨H3, e3, p3, n3, g3⟩ := hbox (ptrOf s)
      have h3 := h2.prsH p3
      rw [hm] at e2
      simp only [if_true] at e2
      have p4 : Prs H3 (H3.push (.cells (ptrV (ptrOf s)) 59 3 false)) := (Stp.refl h3.prs.ok).push _
      have h4 := h3.prsH p4
      have n4 : (H3.push (.cells (ptrV (ptrOf s)) 59 3 false)).next = H3.next + 1 := rfl
      have hsrc : srcOf 3 (.slice H3.next 0 1 2) (H3.push (.cells (ptrV (ptrOf s)) 59 3 false)) = some (1, ptrV (ptrOf s)) := srcOf_new H3 _ 59 3 false 1 2 rfl
      obtain ⟨H5, e5, o5, s5, n5⟩ := apP_own (bytes := 24) p4.ok (by decide) h4.p hsrc rfl rfl (Nat.le_refl 1) (by omega) (by decide)
      generalize hv5 : AV.slice (H3.push (.cells (ptrV (ptrOf s)) 59 3 false)).next 0 (ps.length + 1) 1 = pv' at e5 o5
      have hb5 : ∀ B, Blk pv' B → B = H3.next + 1 := fun B hB => by rw [← hv5, Blk.slice] at hB; exact hB
      have hlt := h3.lt
      have hn0 := h3.prs.next
      obtain ⟨e3', g30⟩ := h3.get
      obtain ⟨e'', g4⟩ := h4.get
      have g5 : H5.h.get R = some (.cells [S r, .bool false, .bool leaf, kv, vv, pv] e'' 1 false) := by rw [s5.keep _ (by omega) (fun hh => (h4.pb _ hh).2 rfl)]; exact g4
      have hlt5 := s5.ok.lt g5
      have hst : Stp (fun B => B = R) H5 (H5.put R (.cells ([S r, .bool false, .bool leaf, kv, vv, pv].set 5 pv') e'' 1 false)) := (Stp.refl s5.ok).put hlt5 _ (.inr rfl)
      have hst1 := st1_ok (o := 5) (x := pv') g5 (by decide) o5.row.isCell (by simp)
      have hne : ∀ B, Blk kv B → ¬ Blk pv B := fun B hB hk => (h4.kb B hB).2.2.2 hk
      have hne2 : ∀ B, Blk vv B → ¬ Blk pv B := fun B hB hk => (h4.vb B hB).2.2 hk
      have hbl : bldL 59 3 1 [.int .i64 ((0 : Nat) : Int), .int .i64 ((0 : Nat) : Int), .int .u64 ((0 : Nat) : Int)] [(0, .agg (ptrV (ptrOf s)))] = some (.cells (ptrV (ptrOf s)) 59 3 false, fun A => .slice A 0 1 2) := rfl
      have h00 : ¬ (((0 : Nat) : Int) ≠ ((0 : Nat) : Int)) := by omega
      refine ⟨_, pv', ?_, ⟨(Stp.via h4.prs s5 (fun B hB => .inl (h4.pb B hB).1)).trans hst, ⟨e'', by rw [AH.put_get, if_pos rfl]; rfl⟩, (h4.k.mono s5 hne).mono hst (fun B hB => (h4.kb B hB).2.1), (h4.v.mono s5 hne2).mono hst (fun B hB => (h4.vb B hB).2.1), ?_, ?_, ?_, ?_, ⟨h1.small.1, h.small.2.1, h.small.2.2.1, by simp; omega⟩⟩⟩
      · have hsb : subN (ptrV (ptrOf s)) 0 3 = some (ptrV (ptrOf s)) := rfl
        simp only [f36, ev, lg, wnt_undef, if_true, if_false, decide_true, decide_false, Bool.not_true, Bool.not_false, Bool.false_eq_true, Bool.true_eq_false, Bool.and_true, Bool.true_and, Bool.and_false, Bool.false_and, Bool.or_true, Bool.true_or, Bool.or_false, Bool.false_or, e1, ld1_get g1, e2, pExtract, nth, bA_ok h2.prs.ok, e3, h00, ld1_get g30, ldN_get g3, hsb, Option.map_some, hbl, bA_ok h3.prs.ok, e5]
        rw [hst1]
        simp only [ev, lg, wnt_undef, if_true, if_false, decide_true, decide_false, Bool.not_true, Bool.not_false, Bool.false_eq_true, Bool.true_eq_false, Bool.and_true, Bool.true_and, Bool.and_false, Bool.false_and, Bool.or_true, Bool.true_or, Bool.or_false, Bool.false_or]
      · have := o5.mono hst (fun B hB => by have := hb5 B hB; omega)
        simpa using this
      · intro B hB
        have hk := h4.kb B hB
        refine ⟨hk.1, hk.2.1, hk.2.2.1, fun hh => ?_⟩
        have := hb5 B hh; have := Own.lt h3.k hB; omega
      · intro B hB
        have hk := h4.vb B hB
        refine ⟨hk.1, hk.2.1, fun hh => ?_⟩
        have := hb5 B hh; have := Own.lt h3.v hB; omega
      · intro B hB
        have := hb5 B hB
        exact ⟨by omega, by omega⟩
end Go.Eng.Sh
end
section
namespace Go.Eng.Sh
open Go.Nd (Ptr bee mayP ptrOf takeT takeP decL decI)
theorem callKey (m n R : Nat) (H : AH) : callV (s15 (dy (m + 1)) n).S (dy (m + 1)) (.func 35 [.ptr R 0] []) [] H = f35 (dy m) m [.ptr R 0] H := rfl
theorem callVal (m n R : Nat) (H : AH) : callV (s15 (dy (m + 1)) n).S (dy (m + 1)) (.func 37 [.ptr R 0] []) [] H = f37 (dy m) m [.ptr R 0] H := rfl
theorem callKid (m n R : Nat) (H : AH) : callV (s15 (dy (m + 1)) n).S (dy (m + 1)) (.func 36 [.ptr R 0] []) [] H = f36 (dy (m + 1)) n [.ptr R 0] H := rfl
theorem ix2 (Pb : Nat) (i : Nat) (h : i < 2) : ixSl 1 (.slice Pb 0 2 4) (.int .i64 ((i : Nat) : Int)) = some (.ptr Pb i) := by
  have hb : Nat.blt i 2 = true := by rw [Nat.blt_eq]; exact h
  simp only [ixSl, natOf_int _ (show (0 : Int) ≤ ((i : Nat) : Int) by omega), Int.toNat_natCast, hb, cond_true, fN_eq, Nat.zero_add, Nat.mul_one]
/-- Both parts are read. -/
theorem inner (m n : Nat) {R Pb : Nat} {g1 g2 : AV} {H H1 H2 : AH} {a k i : AV} {e : TypeId} (hg : H.h.get Pb = some (.cells [g1, g2] e 1 false)) (hg1 : H1.h.get Pb = some (.cells [g1, g2] e 1 false))
    (e1 : callV (s15 (dy (m + 1)) n).S (dy (m + 1)) g1 [] H = some (.tuple [], H1)) (e2 : callV (s15 (dy (m + 1)) n).S (dy (m + 1)) g2 [] H1 = some (.tuple [], H2)) (n' : Nat) (hn : 3 ≤ n') :
    loopK n' (f15l0 (dy (m + 1)) n) [a, .ptr R 0, .slice Pb 0 2 4, k, i, .slice Pb 0 2 4, .int .i64 (2 : Nat), .int .i64 (0 : Nat)] H = some (.exit 2 [a, .ptr R 0, .slice Pb 0 2 4, k, i], H2) := by
  obtain ⟨n', rfl⟩ : ∃ j, n' = j + 3 := ⟨n' - 3, by omega⟩
  have h02 : ((0 : Nat) : Int) < ((2 : Nat) : Int) := by omega
  have h12 : ((1 : Nat) : Int) < ((2 : Nat) : Int) := by omega
  have h22 : ¬ ((2 : Nat) : Int) < ((2 : Nat) : Int) := by omega
  have a1 : ((0 : Nat) : Int) + ((1 : Nat) : Int) = ((1 : Nat) : Int) := rfl
  have a2 : ((1 : Nat) : Int) + ((1 : Nat) : Int) = ((2 : Nat) : Int) := rfl
  have x0 := ix2 Pb 0 (by omega)
  have x1 := ix2 Pb 1 (by omega)
  rw [loop_next (vs' := [a, .ptr R 0, .slice Pb 0 2 4, k, i, .slice Pb 0 2 4, .int .i64 (2 : Nat), .int .i64 (1 : Nat)]) (H' := H1) (by
    simp (disch := omega) only [f15l0, ev, lg, wnt_undef, if_true, if_false, decide_true, decide_false, Bool.not_true, Bool.not_false, Bool.false_eq_true, Bool.true_eq_false, Bool.and_true, Bool.true_and, Bool.and_false, Bool.false_and, Bool.or_true, Bool.true_or, Bool.or_false, Bool.false_or, h02, x0, ld1_get hg, e1, a1])]
  rw [loop_next (vs' := [a, .ptr R 0, .slice Pb 0 2 4, k, i, .slice Pb 0 2 4, .int .i64 (2 : Nat), .int .i64 (2 : Nat)]) (H' := H2) (by
    simp (disch := omega) only [f15l0, ev, lg, wnt_undef, if_true, if_false, decide_true, decide_false, Bool.not_true, Bool.not_false, Bool.false_eq_true, Bool.true_eq_false, Bool.and_true, Bool.true_and, Bool.and_false, Bool.false_and, Bool.or_true, Bool.true_or, Bool.or_false, Bool.false_or, h12, x1, ld1_get hg1, e2, a2])]
  exact loop_exit (by simp only [f15l0, ev, lg, wnt_undef, if_true, if_false, decide_true, decide_false, Bool.not_true, Bool.not_false, Bool.false_eq_true, Bool.true_eq_false, Bool.and_true, Bool.true_and, Bool.and_false, Bool.false_and, Bool.or_true, Bool.true_or, Bool.or_false, Bool.false_or, h22])
theorem loopDL (m n : Nat) (hn : 3 ≤ n) {R Pb A4 : Nat} {Hp : AH} {e : TypeId} (hpb : Hp.h.get Pb = some (.cells [.func 35 [.ptr R 0] [], .func 37 [.ptr R 0] []] e 1 false)) (hk : Hp.ok) (hR : Pb ≠ R)
    {s0 : Str} (K : Nat) (hK : K < 1000000) (h0 : RdI R Hp Hp s0 false true .nilSlice .nilSlice .nilSlice [] [] []) (n' : Nat) (hn' : K < n') :
    ∃ H', loopK n' (f15l2 (dy (m + 1)) n) [.ptr A4 0, .ptr R 0, .slice Pb 0 2 4, .int .i64 (K : Nat), .int .i64 (0 : Nat)] Hp = some (.exit 0 [.ptr A4 0, .ptr R 0], H') ∧
      ∃ kv vv ks vs rest, (match decL K s0 with | some (a, b, r) => ks = a ∧ vs = b ∧ rest = r ∧ RdI R Hp H' rest false true kv vv .nilSlice ks vs [] | none => RdI R Hp H' rest true true kv vv .nilSlice ks vs []) := by
  have key := loop_all (b := f15l2 (dy (m + 1)) n) K (fun i => (decL (i + 1) s0).isSome)
    (fun i us H => us = [.ptr A4 0, .ptr R 0, .slice Pb 0 2 4, .int .i64 (K : Nat), .int .i64 (i : Nat)] ∧ ∃ kv vv ks vs rest, decL i s0 = some (ks, vs, rest) ∧ RdI R Hp H rest false true kv vv .nilSlice ks vs [])
    (fun x H' => x = .exit 0 [.ptr A4 0, .ptr R 0] ∧ ∃ kv vv ks vs rest, decL K s0 = some (ks, vs, rest) ∧ RdI R Hp H' rest false true kv vv .nilSlice ks vs [])
    (fun x H' => x = .exit 0 [.ptr A4 0, .ptr R 0] ∧ ∃ kv vv ks vs rest, RdI R Hp H' rest true true kv vv .nilSlice ks vs []) ?_ ?_ ?_ n' _ Hp ⟨rfl, _, _, _, _, _, rfl, h0⟩ hn'
  · obtain ⟨x, H', k1, k2⟩ := key
    rw [Nd.decL_all] at k2
    cases hd : decL K s0 with
    | none =>
      rw [hd] at k2
      simp only [Option.isSome_none, Bool.false_eq_true, if_false] at k2
      obtain ⟨rfl, kv, vv, ks, vs, rest, h⟩ := k2
      exact ⟨H', k1, kv, vv, ks, vs, rest, h⟩
    | some y =>
      rw [hd] at k2
      simp only [Option.isSome_some, if_true] at k2
      obtain ⟨rfl, kv, vv, ks, vs, rest, h1, h⟩ := k2
      simp only [Option.some.injEq] at h1; subst h1
      exact ⟨H', k1, kv, vv, ks, vs, rest, rfl, rfl, rfl, h⟩
  · rintro i us H hi ⟨rfl, kv, vv, ks, vs, rest, hd, hI⟩ hg
    obtain ⟨_, hl1, hl2⟩ := Nd.decL_eq hd
    obtain ⟨H1, kv', e1, h1⟩ := key_ok (dy m) m hI (by omega)
    obtain ⟨H2, vv', e2, h2⟩ := value_ok (dy m) m h1 (by omega)
    have hp : H.h.get Pb = _ := (hI.prs.keep Pb (hk.lt hpb) hR).trans hpb
    have hp1 : H1.h.get Pb = _ := (h1.prs.keep Pb (hk.lt hpb) hR).trans hpb
    have hin := inner m n (R := R) (a := .ptr A4 0) (k := .int .i64 (K : Nat)) (i := .int .i64 (i : Nat)) hp hp1 ((callKey m n R H).trans e1) ((callVal m n R H1).trans e2) n hn
    rw [Nd.decL_snoc, hd] at hg
    simp only [Option.bind_some] at hg
    have hiI : ((i : Nat) : Int) < ((K : Nat) : Int) := by omega
    cases ht : takeT rest with
    | none => rw [ht] at hg; simp at hg
    | some a =>
      obtain ⟨a, r1⟩ := a
      rw [ht] at hg; simp only [Option.bind_some] at hg
      rw [textM_some ht] at h1 h2
      simp only at h1 h2
      cases ht2 : takeT r1 with
      | none => rw [ht2] at hg; simp at hg
      | some b =>
        obtain ⟨b, r2⟩ := b
        rw [textM_some ht2] at h2
        simp only at h2
        obtain ⟨ee, g2⟩ := h2.get
        refine ⟨_, H2, ?_, rfl, _, _, _, _, _, ?_, h2⟩
        · simp (disch := omega) only [f15l2, ev, lg, wnt_undef, if_true, if_false, decide_true, decide_false, Bool.not_true, Bool.not_false, Bool.false_eq_true, Bool.true_eq_false, Bool.and_true, Bool.true_and, Bool.and_false, Bool.false_and, Bool.or_true, Bool.true_or, Bool.or_false, Bool.false_or, hiI, lnSl, hin, f15b1, ld1_get g2, Int.natCast_add]
        · rw [Nd.decL_snoc, hd]; simp only [Option.bind_some, ht, ht2]
  · rintro i us H hi ⟨rfl, kv, vv, ks, vs, rest, hd, hI⟩ hg
    obtain ⟨_, hl1, hl2⟩ := Nd.decL_eq hd
    obtain ⟨H1, kv', e1, h1⟩ := key_ok (dy m) m hI (by omega)
    obtain ⟨H2, vv', e2, h2⟩ := value_ok (dy m) m h1 (by omega)
    have hp : H.h.get Pb = _ := (hI.prs.keep Pb (hk.lt hpb) hR).trans hpb
    have hp1 : H1.h.get Pb = _ := (h1.prs.keep Pb (hk.lt hpb) hR).trans hpb
    have hin := inner m n (R := R) (a := .ptr A4 0) (k := .int .i64 (K : Nat)) (i := .int .i64 (i : Nat)) hp hp1 ((callKey m n R H).trans e1) ((callVal m n R H1).trans e2) n hn
    rw [Nd.decL_snoc, hd] at hg
    simp only [Option.bind_some] at hg
    have hiI : ((i : Nat) : Int) < ((K : Nat) : Int) := by omega
    have hbad : (textM (textM rest false).2.1 (textM rest false).2.2).2.2 = true := by
      cases ht : takeT rest with
      | none => rw [textM_none ht]; exact textM_bad _
      | some a =>
        obtain ⟨a, r1⟩ := a
        rw [ht] at hg; simp only [Option.bind_some] at hg
        rw [textM_some ht]
        cases ht2 : takeT r1 with
        | none => exact textM_none ht2
        | some b => rw [ht2] at hg; simp at hg
    rw [hbad] at h2
    obtain ⟨ee, g2⟩ := h2.get
    refine ⟨.exit 0 [.ptr A4 0, .ptr R 0], H2, ?_, rfl, rfl, _, _, _, _, _, h2⟩
    simp (disch := omega) only [f15l2, ev, lg, wnt_undef, if_true, if_false, decide_true, decide_false, Bool.not_true, Bool.not_false, Bool.false_eq_true, Bool.true_eq_false, Bool.and_true, Bool.true_and, Bool.and_false, Bool.false_and, Bool.or_true, Bool.true_or, Bool.or_false, Bool.false_or, hiI, lnSl, hin, f15b1, ld1_get g2]
  · rintro us H ⟨rfl, kv, vv, ks, vs, rest, hd, hI⟩
    refine ⟨.exit 0 [.ptr A4 0, .ptr R 0], H, ?_, rfl, rfl, _, _, _, _, _, hd, hI⟩
    simp only [f15l2, ev, lg, wnt_undef, if_true, if_false, decide_true, decide_false, Bool.not_true, Bool.not_false, Bool.false_eq_true, Bool.true_eq_false, Bool.and_true, Bool.true_and, Bool.and_false, Bool.false_and, Bool.or_true, Bool.true_or, Bool.or_false, Bool.false_or, Int.lt_irrefl]
theorem loopDI (m n : Nat) (hn : 100 ≤ n) {R Pb A4 : Nat} {Hp Hs : AH} {e : TypeId} (hpb : Hp.h.get Pb = some (.cells [.func 35 [.ptr R 0] [], .func 36 [.ptr R 0] []] e 1 false)) (hk : Hp.ok) (hR : Pb ≠ R)
    {s0 : Str} {pv0 : AV} {p0 : Ptr} (K : Nat) (hK : K < 1000000) (h0 : RdI R Hp Hs s0 false false .nilSlice .nilSlice pv0 [] [] [p0]) (n' : Nat) (hn' : K < n') :
    ∃ H', loopK n' (f15l2 (dy (m + 1)) n) [.ptr A4 0, .ptr R 0, .slice Pb 0 2 4, .int .i64 (K : Nat), .int .i64 (0 : Nat)] Hs = some (.exit 0 [.ptr A4 0, .ptr R 0], H') ∧
      ∃ kv pv ks ps rest, (match decI K s0 with | some (a, b, r) => ks = a ∧ ps = p0 :: b ∧ rest = r ∧ RdI R Hp H' rest false false kv .nilSlice pv ks [] ps | none => RdI R Hp H' rest true false kv .nilSlice pv ks [] ps) := by
  have key := loop_all (b := f15l2 (dy (m + 1)) n) K (fun i => (decI (i + 1) s0).isSome)
    (fun i us H => us = [.ptr A4 0, .ptr R 0, .slice Pb 0 2 4, .int .i64 (K : Nat), .int .i64 (i : Nat)] ∧ ∃ kv pv ks ps rest, decI i s0 = some (ks, ps, rest) ∧ RdI R Hp H rest false false kv .nilSlice pv ks [] (p0 :: ps))
    (fun x H' => x = .exit 0 [.ptr A4 0, .ptr R 0] ∧ ∃ kv pv ks ps rest, decI K s0 = some (ks, ps, rest) ∧ RdI R Hp H' rest false false kv .nilSlice pv ks [] (p0 :: ps))
    (fun x H' => x = .exit 0 [.ptr A4 0, .ptr R 0] ∧ ∃ kv pv ks ps rest, RdI R Hp H' rest true false kv .nilSlice pv ks [] ps) ?_ ?_ ?_ n' _ Hs ⟨rfl, _, _, _, _, _, rfl, h0⟩ hn'
  · obtain ⟨x, H', k1, k2⟩ := key
    rw [Nd.decI_all] at k2
    cases hd : decI K s0 with
    | none =>
      rw [hd] at k2
      simp only [Option.isSome_none, Bool.false_eq_true, if_false] at k2
      obtain ⟨rfl, kv, pv, ks, ps, rest, h⟩ := k2
      exact ⟨H', k1, kv, pv, ks, ps, rest, h⟩
    | some y =>
      rw [hd] at k2
      simp only [Option.isSome_some, if_true] at k2
      obtain ⟨rfl, kv, pv, ks, ps, rest, h1, h⟩ := k2
      simp only [Option.some.injEq] at h1; subst h1
      exact ⟨H', k1, kv, pv, ks, p0 :: ps, rest, rfl, rfl, rfl, h⟩
  · rintro i us H hi ⟨rfl, kv, pv, ks, ps, rest, hd, hI⟩ hg
    obtain ⟨_, hl1, hl2, _⟩ := Nd.decI_eq hd
    obtain ⟨H1, kv', e1, h1⟩ := key_ok (dy m) m hI (by omega)
    obtain ⟨H2, pv', e2, h2⟩ := kidR_ok (dy (m + 1)) n hn h1 (by simp; omega)
    have hp : H.h.get Pb = _ := (hI.prs.keep Pb (hk.lt hpb) hR).trans hpb
    have hp1 : H1.h.get Pb = _ := (h1.prs.keep Pb (hk.lt hpb) hR).trans hpb
    have hin := inner m n (R := R) (a := .ptr A4 0) (k := .int .i64 (K : Nat)) (i := .int .i64 (i : Nat)) hp hp1 ((callKey m n R H).trans e1) ((callKid m n R H1).trans e2) n (by omega)
    rw [Nd.decI_snoc, hd] at hg
    simp only [Option.bind_some] at hg
    have hiI : ((i : Nat) : Int) < ((K : Nat) : Int) := by omega
    cases ht : takeT rest with
    | none => rw [ht] at hg; simp at hg
    | some a =>
      obtain ⟨a, r1⟩ := a
      rw [ht] at hg; simp only [Option.bind_some] at hg
      rw [textM_some ht] at h1 h2
      simp only at h1 h2
      cases ht2 : takeP r1 with
      | none => rw [ht2] at hg; simp at hg
      | some b =>
        obtain ⟨b, r2⟩ := b
        rw [kidM_some _ ht2] at h2
        simp only at h2
        obtain ⟨ee, g2⟩ := h2.get
        refine ⟨_, H2, ?_, rfl, _, _, _, _, _, ?_, h2⟩
        · simp (disch := omega) only [f15l2, ev, lg, wnt_undef, if_true, if_false, decide_true, decide_false, Bool.not_true, Bool.not_false, Bool.false_eq_true, Bool.true_eq_false, Bool.and_true, Bool.true_and, Bool.and_false, Bool.false_and, Bool.or_true, Bool.true_or, Bool.or_false, Bool.false_or, hiI, lnSl, hin, f15b1, ld1_get g2, Int.natCast_add]
        · rw [Nd.decI_snoc, hd]; simp only [Option.bind_some, ht, ht2]; rfl
  · rintro i us H hi ⟨rfl, kv, pv, ks, ps, rest, hd, hI⟩ hg
    obtain ⟨_, hl1, hl2, _⟩ := Nd.decI_eq hd
    obtain ⟨H1, kv', e1, h1⟩ := key_ok (dy m) m hI (by omega)
    obtain ⟨H2, pv', e2, h2⟩ := kidR_ok (dy (m + 1)) n hn h1 (by simp; omega)
    have hp : H.h.get Pb = _ := (hI.prs.keep Pb (hk.lt hpb) hR).trans hpb
    have hp1 : H1.h.get Pb = _ := (h1.prs.keep Pb (hk.lt hpb) hR).trans hpb
    have hin := inner m n (R := R) (a := .ptr A4 0) (k := .int .i64 (K : Nat)) (i := .int .i64 (i : Nat)) hp hp1 ((callKey m n R H).trans e1) ((callKid m n R H1).trans e2) n (by omega)
    rw [Nd.decI_snoc, hd] at hg
    simp only [Option.bind_some] at hg
    have hiI : ((i : Nat) : Int) < ((K : Nat) : Int) := by omega
    have hbad : (kidM (textM rest false).2.1 (textM rest false).2.2 (p0 :: ps)).2.1 = true := by
      cases ht : takeT rest with
      | none => rw [textM_none ht]; exact kidM_bad _ _
      | some a =>
        obtain ⟨a, r1⟩ := a
        rw [ht] at hg; simp only [Option.bind_some] at hg
        rw [textM_some ht]
        cases ht2 : takeP r1 with
        | none => exact kidM_none _ ht2
        | some b => rw [ht2] at hg; simp at hg
    rw [hbad] at h2
    obtain ⟨ee, g2⟩ := h2.get
    refine ⟨.exit 0 [.ptr A4 0, .ptr R 0], H2, ?_, rfl, rfl, _, _, _, _, _, h2⟩
    simp (disch := omega) only [f15l2, ev, lg, wnt_undef, if_true, if_false, decide_true, decide_false, Bool.not_true, Bool.not_false, Bool.false_eq_true, Bool.true_eq_false, Bool.and_true, Bool.true_and, Bool.and_false, Bool.false_and, Bool.or_true, Bool.true_or, Bool.or_false, Bool.false_or, hiI, lnSl, hin, f15b1, ld1_get g2]
  · rintro us H ⟨rfl, kv, pv, ks, ps, rest, hd, hI⟩
    refine ⟨.exit 0 [.ptr A4 0, .ptr R 0], H, ?_, rfl, rfl, _, _, _, _, _, hd, hI⟩
    simp only [f15l2, ev, lg, wnt_undef, if_true, if_false, decide_true, decide_false, Bool.not_true, Bool.not_false, Bool.false_eq_true, Bool.true_eq_false, Bool.and_true, Bool.true_and, Bool.and_false, Bool.false_and, Bool.or_true, Bool.true_or, Bool.or_false, Bool.false_or, Int.lt_irrefl]
end Go.Eng.Sh
end
section
namespace Go.Eng.Sh
open Go.Nd (Ptr bee mayP ptrOf takeT takeP decL decI)
/-- A node in rows of its own. -/
def NodeO (H0 H : AH) (v : AV) (nd : Nd.Node) : Prop := ∃ ks vs ps, v = .agg [.bool nd.leaf, ks, vs, ps] ∧ Own 1 9 H ks nd.keys.length (nd.keys.map S) ∧ Own 1 9 H vs nd.vals.length (nd.vals.map S) ∧ Own 3 59 H ps nd.kids.length (nd.kids.flatMap ptrV) ∧ (∀ B, Blk ks B ∨ Blk vs B ∨ Blk ps B → H0.next ≤ B) ∧ (∀ B, Blk ks B → ¬ Blk vs B ∧ ¬ Blk ps B) ∧ ∀ B, Blk vs B → ¬ Blk ps B
theorem NodeO.node {H0 H : AH} {v : AV} {nd : Nd.Node} (h : NodeO H0 H v nd) : NodeV H v nd := by
  obtain ⟨ks, vs, ps, e, h1, h2, h3, _⟩ := h; exact ⟨ks, vs, ps, e, h1.row, h2.row, h3.row⟩
theorem bInt_or_i64 {a b : Nat} (ha : a < 256) (hb : b < 256) : bInt .or (.int .i64 ((a * 256 : Nat) : Int)) (.int .i64 (b : Int)) = some (.int .i64 (((a * 256 + b) : Nat) : Int)) := by
  have h3 : a * 256 ||| b = a * 256 + b := by
    have := Nat.two_pow_add_eq_or_of_lt (b := b) (i := 8) (by omega) a
    rw [Nat.mul_comm a 256]; exact this.symm
  have hk : keq .i64 .i64 = true := rfl
  have hA : BitVec.ofInt 64 ((a * 256 : Nat) : Int) = BitVec.ofNat 64 (a * 256) := BitVec.ofInt_natCast _ _
  have hB : BitVec.ofInt 64 (b : Int) = BitVec.ofNat 64 b := BitVec.ofInt_natCast _ _
  have hv : (BitVec.ofNat 64 (a * 256) ||| BitVec.ofNat 64 b).toNat = a * 256 + b := by
    rw [BitVec.toNat_or, BitVec.toNat_ofNat, BitVec.toNat_ofNat, Nat.mod_eq_of_lt (by omega), Nat.mod_eq_of_lt (by omega), h3]
  have h6 : bInt .or (.int .i64 (.ofNat (a * 256))) (.int .i64 (.ofNat b)) = abits.slow .or .i64 (.ofNat (a * 256)) (.ofNat b) := by
    simp only [bInt, abinI, hk, cond_true, abits, IntKind.signed, Bool.not_true, Bool.false_and, cond_false]
  have h7 : abits.slow .or .i64 (.ofNat (a * 256)) (.ofNat b) = some (.int .i64 ((a * 256 + b : Nat) : Int)) := by
    have h8 : abits.slow .or .i64 (.ofNat (a * 256)) (.ofNat b) = fI (IntKind.wrap .i64 ((BitVec.ofInt 64 ((a * 256 : Nat) : Int) ||| BitVec.ofInt 64 (b : Int)).toNat : Nat)) (fun n => some (.int .i64 n)) := rfl
    rw [h8, fI_eq, hA, hB, hv, wrap_i64 (by omega) (by omega)]
  exact h6.trans h7
theorem head2 {s : Str} (h : 2 ≤ s.length) : ∃ a b, s.take 2 = [a, b] ∧ bee (s.take 2) = a.toNat * 256 + b.toNat := by
  match s, h with
  | a :: b :: l, _ => exact ⟨a, b, rfl, by simp [bee]⟩
theorem RdI.base {R : Nat} {H0 H H' : AH} {rest : Str} {bad leaf : Bool} (h : RdI R H0 H rest bad leaf .nilSlice .nilSlice .nilSlice [] [] []) (s : Prs H H') : RdI R H' H' rest bad leaf .nilSlice .nilSlice .nilSlice [] [] [] := by
  obtain ⟨e, hg⟩ := h.get
  exact ⟨Stp.refl s.ok, ⟨e, s.get h.prs.ok hg⟩, Own.nil _ _ _, Own.nil _ _ _, Own.nil _ _ _, fun B hB => (Blk.nil.1 hB).elim, fun B hB => (Blk.nil.1 hB).elim, fun B hB => (Blk.nil.1 hB).elim, h.small⟩
/-- What Decode does behind its loop. -/
theorem decEnd (D : Dyn) (n : Nat) (hn : 200000000 ≤ n) {R A4 : Nat} {H0 Hp H : AH} {rest : Str} {bad leaf : Bool} {kv vv pv : AV} {ks vs : List Str} {ps : List Ptr} (hI : RdI R Hp H rest bad leaf kv vv pv ks vs ps) (hA : ∃ c e, c.length = 4 ∧ Hp.h.get A4 = some (.cells c e 1 false)) (hAR : A4 ≠ R)
    (hkp : Hp.ok) (h0 : Prs H0 Hp) (hR : H0.next ≤ R) (hA4 : H0.next ≤ A4) (hsm : bad = true ∨ small ⟨leaf, ks, vs, ps⟩) :
    ∃ v H', outR (f15b3 D n [.ptr A4 0, .ptr R 0] H) = some (.tuple [v, .int .i64 ((if bad = false ∧ rest = [] ∧ Nd.may ltS ⟨leaf, ks, vs, ps⟩ = true then 0 else 4 : Nat) : Int)], H') ∧ Prs H0 H' ∧ ((bad = false ∧ rest = [] ∧ Nd.may ltS ⟨leaf, ks, vs, ps⟩ = true) → NodeO H0 H' v ⟨leaf, ks, vs, ps⟩) ∧ ∃ l, v = .agg l ∧ l.length = 4 ∧ allCells l = true := by
  obtain ⟨e, hg⟩ := hI.get
  obtain ⟨c, ec, hc, hga⟩ := hA
  have hbz : bldS [(0, 1), (1, 1), (2, 1), (3, 1)] [.bool false, .nilSlice, .nilSlice, .nilSlice] [] = some (.agg [.bool false, .nilSlice, .nilSlice, .nilSlice]) := rfl
  have hgA : H.h.get A4 = some (.cells c ec 1 false) := (hI.prs.keep A4 (hkp.lt hga) hAR).trans hga
  have hP : Prs H0 H := h0.fresh hI.prs (fun B hB => by rw [hB]; exact hR)
  -- the refusal
  have refuse : ∀ H2, Prs H H2 → ∃ H3, stN 4 (.ptr A4 0) (.agg [.bool false, .nilSlice, .nilSlice, .nilSlice]) H2 = some (undefA, H3) ∧ ldN 4 (.ptr A4 0) H3 = some (.agg [.bool false, .nilSlice, .nilSlice, .nilSlice]) ∧ Prs H0 H3 := by
    intro H2 p2
    obtain ⟨H3, e3, g3, s3, n3⟩ := st_all p2.ok (p2.get hI.prs.ok hgA) (l' := [.bool false, .nilSlice, .nilSlice, .nilSlice]) (by simp [hc]) rfl
    rw [hc] at e3
    refine ⟨H3, e3, by rw [ldN_get g3]; rfl, (hP.trans p2).fresh s3 (fun B hB => by rw [hB]; exact hA4)⟩
  cases bad with
  | true =>
    obtain ⟨H3, e3, l3, p3⟩ := refuse H (Stp.refl hI.prs.ok)
    refine ⟨.agg [.bool false, .nilSlice, .nilSlice, .nilSlice], H3, ?_, p3, fun h => by simp at h, _, rfl, rfl, rfl⟩
    simp only [f15b3, ev, lg, wnt_undef, if_true, if_false, decide_true, decide_false, Bool.not_true, Bool.not_false, Bool.false_eq_true, Bool.true_eq_false, Bool.and_true, Bool.true_and, Bool.and_false, Bool.false_and, Bool.or_true, Bool.true_or, Bool.or_false, Bool.false_or, ld1_get hg, hbz, e3, l3, false_and, Bool.true_eq_false]
  | false =>
    have hsm := hsm.resolve_left (by simp)
    by_cases hr : rest = []
    · subst hr
      have hnode : NodeV H (.agg [.bool leaf, kv, vv, pv]) ⟨leaf, ks, vs, ps⟩ := ⟨kv, vv, pv, rfl, hI.k.row, hI.v.row, hI.p.row⟩
      obtain ⟨H2, e2, p2⟩ := mayN_ok D n hI.prs.ok hnode hsm hn
      have hne : ¬ (([] : Str) ≠ []) := by simp
      have hs0 : (AV.str 0 0) = S [] := rfl
      have hsub : subN [S [], .bool false, .bool leaf, kv, vv, pv] 2 4 = some [.bool leaf, kv, vv, pv] := rfl
      cases hm : Nd.may ltS ⟨leaf, ks, vs, ps⟩ with
      | false =>
        obtain ⟨H3, e3, l3, p3⟩ := refuse H2 p2
        rw [hm] at e2
        refine ⟨.agg [.bool false, .nilSlice, .nilSlice, .nilSlice], H3, ?_, p3, fun h => by simp at h, _, rfl, rfl, rfl⟩
        simp only [f15b3, ev, lg, wnt_undef, if_true, if_false, decide_true, decide_false, Bool.not_true, Bool.not_false, Bool.false_eq_true, Bool.true_eq_false, Bool.and_true, Bool.true_and, Bool.and_false, Bool.false_and, Bool.or_true, Bool.true_or, Bool.or_false, Bool.false_or, ld1_get hg, ldN_get hg, hsub, Option.map_some, hs0, hne, e2, hbz, e3, l3, and_false]
      | true =>
        rw [hm] at e2
        have hcl : allCells [.bool leaf, kv, vv, pv] = true := by
          rw [allCells_mem]; intro x hx
          simp only [List.mem_cons, List.not_mem_nil, or_false] at hx
          rcases hx with rfl | rfl | rfl | rfl
          · rfl
          · exact hI.k.row.isCell
          · exact hI.v.row.isCell
          · exact hI.p.row.isCell
        obtain ⟨H3, e3, g3, s3, n3⟩ := st_all p2.ok (p2.get hI.prs.ok hgA) (l' := [.bool leaf, kv, vv, pv]) (by simp [hc]) hcl
        rw [hc] at e3
        have hl3 : ldN 4 (.ptr A4 0) H3 = some (.agg [.bool leaf, kv, vv, pv]) := by rw [ldN_get g3]; rfl
        have hltA : A4 < Hp.next := hkp.lt hga
        have kb : ∀ B, Blk kv B ∨ Blk vv B ∨ Blk pv B → Hp.next ≤ B := by
          rintro B (h | h | h)
          · exact (hI.kb B h).1
          · exact (hI.vb B h).1
          · exact (hI.pb B h).1
        refine ⟨.agg [.bool leaf, kv, vv, pv], H3, ?_, (hP.trans p2).fresh s3 (fun B hB => by rw [hB]; exact hA4), fun _ => ⟨kv, vv, pv, rfl, (hI.k.mono p2 (fun _ _ x => x)).mono s3 (fun B hB => by have := kb B (.inl hB); omega), (hI.v.mono p2 (fun _ _ x => x)).mono s3 (fun B hB => by have := kb B (.inr (.inl hB)); omega), (hI.p.mono p2 (fun _ _ x => x)).mono s3 (fun B hB => by have := kb B (.inr (.inr hB)); omega), fun B hB => by have := kb B hB; have := h0.next; omega, fun B hB => (hI.kb B hB).2.2, fun B hB => (hI.vb B hB).2.2⟩, _, rfl, rfl, hcl⟩
        simp only [f15b3, ev, lg, wnt_undef, if_true, if_false, decide_true, decide_false, Bool.not_true, Bool.not_false, Bool.false_eq_true, Bool.true_eq_false, Bool.and_true, Bool.true_and, Bool.and_false, Bool.false_and, Bool.or_true, Bool.true_or, Bool.or_false, Bool.false_or, ld1_get hg, ldN_get hg, ldN_get (p2.get hI.prs.ok hg), hsub, Option.map_some, hs0, hne, e2, e3, hl3, and_self]
    · obtain ⟨H3, e3, l3, p3⟩ := refuse H (Stp.refl hI.prs.ok)
      have hne : rest ≠ [] := hr
      have hs0 : (AV.str 0 0) = S [] := rfl
      refine ⟨.agg [.bool false, .nilSlice, .nilSlice, .nilSlice], H3, ?_, p3, fun h => absurd h.2.1 hr, _, rfl, rfl, rfl⟩
      simp only [f15b3, ev, lg, wnt_undef, if_true, if_false, decide_true, decide_false, Bool.not_true, Bool.not_false, Bool.false_eq_true, Bool.true_eq_false, Bool.and_true, Bool.true_and, Bool.and_false, Bool.false_and, Bool.or_true, Bool.true_or, Bool.or_false, Bool.false_or, ld1_get hg, hs0, hne, hbz, e3, l3, false_and, and_false, ne_eq, not_false_eq_true, hr]
/-- A reader that is bad already. -/
theorem loopBad (m n : Nat) (hn : 100 ≤ n) {R Pb A4 : Nat} {Hp Hs : AH} {e : TypeId} (hpb : Hp.h.get Pb = some (.cells [.func 35 [.ptr R 0] [], .func 36 [.ptr R 0] []] e 1 false)) (hk : Hp.ok) (hR : Pb ≠ R)
    {s0 : Str} {pv : AV} {ps : List Ptr} (hps : ps.length < 1000) (K : Nat) (h0 : RdI R Hp Hs s0 true false .nilSlice .nilSlice pv [] [] ps) (n' : Nat) (hn' : K < n') :
    ∃ H', loopK n' (f15l2 (dy (m + 1)) n) [.ptr A4 0, .ptr R 0, .slice Pb 0 2 4, .int .i64 (K : Nat), .int .i64 (0 : Nat)] Hs = some (.exit 0 [.ptr A4 0, .ptr R 0], H') ∧ ∃ kv pv ks ps rest, RdI R Hp H' rest true false kv .nilSlice pv ks [] ps := by
  obtain ⟨n', rfl⟩ : ∃ j, n' = j + 1 := ⟨n' - 1, by omega⟩
  by_cases hK : K = 0
  · subst hK
    refine ⟨Hs, loop_exit ?_, _, _, _, _, _, h0⟩
    simp only [f15l2, ev, lg, wnt_undef, if_true, if_false, decide_true, decide_false, Bool.not_true, Bool.not_false, Bool.false_eq_true, Bool.true_eq_false, Bool.and_true, Bool.true_and, Bool.and_false, Bool.false_and, Bool.or_true, Bool.true_or, Bool.or_false, Bool.false_or, Int.lt_irrefl]
  · obtain ⟨H1, kv', e1, h1⟩ := key_ok (dy m) m h0 (by simp)
    have hb1 := textM_bad s0
    obtain ⟨H2, pv', e2, h2⟩ := kidR_ok (dy (m + 1)) n hn h1 (by omega)
    have hp0 : Hs.h.get Pb = _ := (h0.prs.keep Pb (hk.lt hpb) hR).trans hpb
    have hp1 : H1.h.get Pb = _ := (h1.prs.keep Pb (hk.lt hpb) hR).trans hpb
    have hin := inner m n (R := R) (a := .ptr A4 0) (k := .int .i64 (K : Nat)) (i := .int .i64 (0 : Nat)) hp0 hp1 ((callKey m n R Hs).trans e1) ((callKid m n R H1).trans e2) n (by omega)
    have hbad : (kidM (textM s0 true).2.1 (textM s0 true).2.2 ps).2.1 = true := by rw [hb1]; exact kidM_bad _ _
    rw [hbad] at h2
    obtain ⟨ee, g2⟩ := h2.get
    have hiI : ((0 : Nat) : Int) < ((K : Nat) : Int) := by omega
    refine ⟨H2, loop_exit ?_, _, _, _, _, _, h2⟩
    simp (disch := omega) only [f15l2, ev, lg, wnt_undef, if_true, if_false, decide_true, decide_false, Bool.not_true, Bool.not_false, Bool.false_eq_true, Bool.true_eq_false, Bool.and_true, Bool.true_and, Bool.and_false, Bool.false_and, Bool.or_true, Bool.true_or, Bool.or_false, Bool.false_or, hiI, lnSl, hin, f15b1, ld1_get g2]
theorem RdI.cap {R : Nat} {H0 H : AH} {rest : Str} {bad leaf : Bool} {kv vv pv : AV} {ks vs : List Str} {ps : List Ptr} (h : RdI R H0 H rest bad leaf kv vv pv ks vs ps) : rest.length ≤ 10000 := h.small.1
theorem decode_ok (m n : Nat) (hn : 200000000 ≤ n) {H : AH} (hk : H.ok) (leaf : Bool) (s : Str) :
    ∃ v H', f15 (dy (m + 1)) n [.bool leaf, S s] H = some (.tuple [v, .int .i64 ((if (Nd.decN ltS leaf s).isSome then 0 else 4 : Nat) : Int)], H') ∧ Prs H H' ∧ (∀ nd, Nd.decN ltS leaf s = some nd → NodeO H H' v nd) ∧ ∃ l, v = .agg l ∧ l.length = 4 ∧ allCells l = true := by
  have hbz : bldS [(0, 1), (1, 1), (2, 1), (3, 1)] [.bool false, .nilSlice, .nilSlice, .nilSlice] [] = some (.agg [.bool false, .nilSlice, .nilSlice, .nilSlice]) := rfl
  have p1 : Prs H (H.push (.cells [.bool false, .nilSlice, .nilSlice, .nilSlice] 34 1 false)) := (Stp.refl hk).push _
  have g1 : (H.push (.cells [.bool false, .nilSlice, .nilSlice, .nilSlice] 34 1 false)).h.get H.next = some (.cells [.bool false, .nilSlice, .nilSlice, .nilSlice] 34 1 false) := AH.push_get_eq _ _
  have n1 : (H.push (.cells [.bool false, .nilSlice, .nilSlice, .nilSlice] 34 1 false)).next = H.next + 1 := rfl
  generalize hH1 : H.push (.cells [.bool false, .nilSlice, .nilSlice, .nilSlice] 34 1 false) = H1 at p1 g1 n1
  have refuse : ∀ H2, Prs H1 H2 → ∃ H3, stN 4 (.ptr H.next 0) (.agg [.bool false, .nilSlice, .nilSlice, .nilSlice]) H2 = some (undefA, H3) ∧ ldN 4 (.ptr H.next 0) H3 = some (.agg [.bool false, .nilSlice, .nilSlice, .nilSlice]) ∧ Prs H H3 := by
    intro H2 p2
    obtain ⟨H3, e3, g3, s3, n3⟩ := st_all p2.ok (p2.get p1.ok g1) (l' := [.bool false, .nilSlice, .nilSlice, .nilSlice]) rfl rfl
    exact ⟨H3, e3, by rw [ldN_get g3]; rfl, (p1.trans p2).fresh s3 (fun B hB => by omega)⟩
  by_cases h500 : s.length ≤ 500
  · have h5I : ¬ ((500 : Nat) : Int) < ((s.length : Nat) : Int) := by omega
    have hb4 : bldS [(0, 1), (1, 1), (2, 1), (3, 1)] [.bool false, .nilSlice, .nilSlice, .nilSlice] [(0, .bool leaf)] = some (.agg [.bool leaf, .nilSlice, .nilSlice, .nilSlice]) := rfl
    have hb6 : bldS [(0, 1), (1, 1), (2, 4)] [.str 0 0, .bool false, .bool false, .nilSlice, .nilSlice, .nilSlice] [(0, S s), (2, .agg [.bool leaf, .nilSlice, .nilSlice, .nilSlice])] = some (.agg [S s, .bool false, .bool leaf, .nilSlice, .nilSlice, .nilSlice]) := rfl
    have p2 : Prs H1 (H1.push (.cells [S s, .bool false, .bool leaf, .nilSlice, .nilSlice, .nilSlice] 72 1 false)) := (Stp.refl p1.ok).push _
    have g2 : (H1.push (.cells [S s, .bool false, .bool leaf, .nilSlice, .nilSlice, .nilSlice] 72 1 false)).h.get H1.next = some (.cells [S s, .bool false, .bool leaf, .nilSlice, .nilSlice, .nilSlice] 72 1 false) := AH.push_get_eq _ _
    have n2 : (H1.push (.cells [S s, .bool false, .bool leaf, .nilSlice, .nilSlice, .nilSlice] 72 1 false)).next = H1.next + 1 := rfl
    generalize hH2 : H1.push (.cells [S s, .bool false, .bool leaf, .nilSlice, .nilSlice, .nilSlice] 72 1 false) = H2 at p2 g2 n2
    have hI2 : RdI H1.next H2 H2 s false leaf .nilSlice .nilSlice .nilSlice [] [] [] := ⟨Stp.refl p2.ok, ⟨_, g2⟩, Own.nil _ _ _, Own.nil _ _ _, Own.nil _ _ _, fun B hB => (Blk.nil.1 hB).elim, fun B hB => (Blk.nil.1 hB).elim, fun B hB => (Blk.nil.1 hB).elim, by omega, by simp, by simp, by simp⟩
    obtain ⟨H3, e3, hI3⟩ := take_ok (dy (m + 1)) n hI2 2
    obtain ⟨e3', g3⟩ := hI3.get
    have p13 : Prs H1 H3 := p2.fresh hI3.prs (fun B hB => by omega)
    by_cases h2 : s.length < 2
    · have ht : takeM s false 2 = ([], s, true) := by simp [takeM, h2]
      rw [ht] at e3 hI3 g3
      simp only at e3 hI3 g3
      obtain ⟨H4, e4, l4, p4⟩ := refuse H3 p13
      have hd : Nd.decN ltS leaf s = none := by simp only [Nd.decN]; rw [if_neg (by omega)]
      refine ⟨.agg [.bool false, .nilSlice, .nilSlice, .nilSlice], H4, ?_, p4, (fun nd h => by rw [hd] at h; cases h), _, rfl, rfl, rfl⟩
      rw [hd]
      simp only [f15, ev, lg, wnt_undef, if_true, if_false, decide_true, decide_false, Bool.not_true, Bool.not_false, Bool.false_eq_true, Bool.true_eq_false, Bool.and_true, Bool.true_and, Bool.and_false, Bool.false_and, Bool.or_true, Bool.true_or, Bool.or_false, Bool.false_or, bA_ok hk, hH1, h5I, hb4, hb6, bA_ok p1.ok, hH2, e3, ld1_get g3, hbz, e4, l4, Option.isSome_none]
    · have ht : takeM s false 2 = (s.take 2, s.drop 2, false) := by simp [takeM, h2]
      rw [ht] at e3 hI3 g3
      simp only at e3 hI3 g3
      obtain ⟨a, b, hab, hK⟩ := head2 (s := s) (by omega)
      have ha : a.toNat < 256 := a.toNat_lt
      have hb : b.toNat < 256 := b.toNat_lt
      have x0 := ixStr_S (s.take 2) .i64 (z := ((0 : Nat) : Int)) (by omega) (by simp; omega)
      have x1 := ixStr_S (s.take 2) .i64 (z := ((1 : Nat) : Int)) (by omega) (by simp; omega)
      simp only [hab] at x0 x1
      replace x0 : ixStr (S (s.take 2)) (.int .i64 ((0 : Nat) : Int)) = some (.int .u8 ((a.toNat : Nat) : Int)) := by rw [hab]; exact x0
      replace x1 : ixStr (S (s.take 2)) (.int .i64 ((1 : Nat) : Int)) = some (.int .u8 ((b.toNat : Nat) : Int)) := by rw [hab]; exact x1
      have wa : IntKind.wrap .i64 ((a.toNat : Nat) : Int) = ((a.toNat : Nat) : Int) := wrap_i64 (by omega) (by omega)
      have wb : IntKind.wrap .i64 ((b.toNat : Nat) : Int) = ((b.toNat : Nat) : Int) := wrap_i64 (by omega) (by omega)
      have hsl := bInt_shl .i64 .u64 ((a.toNat : Nat) : Int) (s := 8) (by decide)
      rw [show IntKind.wrap .i64 (((a.toNat : Nat) : Int) * 2 ^ 8) = ((a.toNat * 256 : Nat) : Int) from by rw [wrap_i64 (by omega) (by omega)]; omega] at hsl
      have hor := bInt_or_i64 ha hb
      rw [← hK] at hor
      have hKs : bee (s.take 2) < 65536 := by omega
      generalize hKd : bee (s.take 2) = K at hor hKs hK
      have hbl : ∀ (f g : FuncId) (xs ys : List AV), bldL 1 1 2 [.nilFunc] [(0, .func f xs []), (1, .func g ys [])] = some (.cells [.func f xs [], .func g ys []] 1 1 false, fun A => .slice A 0 2 4) := fun _ _ _ _ => rfl
      have p4 : Prs H3 (H3.push (.cells [.func 35 [.ptr H1.next 0] [], .func 36 [.ptr H1.next 0] []] 1 1 false)) := (Stp.refl hI3.prs.ok).push _
      have g4 : (H3.push (.cells [.func 35 [.ptr H1.next 0] [], .func 36 [.ptr H1.next 0] []] 1 1 false)).h.get H3.next = some (.cells [.func 35 [.ptr H1.next 0] [], .func 36 [.ptr H1.next 0] []] 1 1 false) := AH.push_get_eq _ _
      have n4 : (H3.push (.cells [.func 35 [.ptr H1.next 0] [], .func 36 [.ptr H1.next 0] []] 1 1 false)).next = H3.next + 1 := rfl
      generalize hH4 : H3.push (.cells [.func 35 [.ptr H1.next 0] [], .func 36 [.ptr H1.next 0] []] 1 1 false) = H4 at p4 g4 n4
      have n3 := hI3.prs.next
      have hlen2 : (s.drop 2).length = s.length - 2 := by simp
      -- both ways end alike
      have fin : ∀ (Hp H9 : AH) (rest : Str) (bad : Bool) (kv vv pv : AV) (ks vs : List Str) (ps : List Ptr), RdI H1.next Hp H9 rest bad leaf kv vv pv ks vs ps → Prs H1 Hp → (bad = true ∨ small ⟨leaf, ks, vs, ps⟩) →
          (Nd.decN ltS leaf s = if bad = false ∧ rest = [] ∧ Nd.may ltS ⟨leaf, ks, vs, ps⟩ = true then some ⟨leaf, ks, vs, ps⟩ else none) →
          f15 (dy (m + 1)) n [.bool leaf, S s] H = outR (f15b3 (dy (m + 1)) n [.ptr H.next 0, .ptr H1.next 0] H9) →
          ∃ v H', f15 (dy (m + 1)) n [.bool leaf, S s] H = some (.tuple [v, .int .i64 ((if (Nd.decN ltS leaf s).isSome then 0 else 4 : Nat) : Int)], H') ∧ Prs H H' ∧ (∀ nd, Nd.decN ltS leaf s = some nd → NodeO H H' v nd) ∧ ∃ l, v = .agg l ∧ l.length = 4 ∧ allCells l = true := by
        intro Hp H9 rest bad kv vv pv ks vs ps hI hp hsm hdec hrun
        obtain ⟨v, H', e, p, hn', l⟩ := decEnd (dy (m + 1)) n hn (A4 := H.next) hI ⟨_, _, rfl, hp.get p1.ok g1⟩ (by omega) hp.ok (p1.trans hp) (by omega) (Nat.le_refl _) hsm
        refine ⟨v, H', ?_, p, ?_, l⟩
        · rw [hrun, e, hdec]
          split <;> rfl
        · intro nd hnd
          rw [hdec] at hnd
          split at hnd
          · rename_i hc
            simp only [Option.some.injEq] at hnd; subst hnd
            exact hn' hc
          · cases hnd
      cases leaf with
      | true =>
        have p5 : Prs H4 (H4.push (.cells [.func 35 [.ptr H1.next 0] [], .func 37 [.ptr H1.next 0] []] 1 1 false)) := (Stp.refl p4.ok).push _
        have g5 : (H4.push (.cells [.func 35 [.ptr H1.next 0] [], .func 37 [.ptr H1.next 0] []] 1 1 false)).h.get H4.next = some (.cells [.func 35 [.ptr H1.next 0] [], .func 37 [.ptr H1.next 0] []] 1 1 false) := AH.push_get_eq _ _
        generalize hH5 : H4.push (.cells [.func 35 [.ptr H1.next 0] [], .func 37 [.ptr H1.next 0] []] 1 1 false) = H5 at p5 g5
        have hI5 := hI3.base (p4.trans p5)
        obtain ⟨H9, e9, kv, vv, ks, vs, rest, h9⟩ := loopDL m n (by omega) (A4 := H.next) g5 p5.ok (by omega) K (by omega) hI5 n (by omega)
        have hrun : f15 (dy (m + 1)) n [.bool true, S s] H = outR (f15b3 (dy (m + 1)) n [.ptr H.next 0, .ptr H1.next 0] H9) := by
          simp (disch := omega) only [f15, ev, lg, wnt_undef, if_true, if_false, decide_true, decide_false, Bool.not_true, Bool.not_false, Bool.false_eq_true, Bool.true_eq_false, Bool.and_true, Bool.true_and, Bool.and_false, Bool.false_and, Bool.or_true, Bool.true_or, Bool.or_false, Bool.false_or, bA_ok hk, hH1, h5I, hb4, hb6, bA_ok p1.ok, hH2, e3, ld1_get g3, hbl, bA_ok hI3.prs.ok, hH4, bA_ok p4.ok, hH5, f15j4, x0, x1, wa, wb, hsl, hor, e9]
        have hp15 : Prs H1 H5 := (p13.trans p4).trans p5
        cases hd : decL K (s.drop 2) with
        | none =>
          rw [hd] at h9
          exact fin H5 H9 _ _ _ _ _ _ _ _ h9 hp15 (.inl rfl) (by simp only [Nd.decN, Nd.decB, hKd, hd]; simp) hrun
        | some y =>
          obtain ⟨y1, y2, y3⟩ := y
          rw [hd] at h9
          obtain ⟨rfl, rfl, rfl, h9⟩ := h9
          obtain ⟨q1, q2, q3⟩ := Nd.decL_eq hd
          have hq := congrArg List.length q1
          rw [List.length_append, Nd.encL_length _ _ (by omega)] at hq
          exact fin H5 H9 _ _ _ _ _ _ _ _ h9 hp15 (.inr ⟨by simp, by simp; omega, by simp; omega⟩) (by simp only [Nd.decN, Nd.decB, hKd, hd]; rw [if_pos ⟨h500, by omega⟩]; simp) hrun
      | false =>
        have hI4 := hI3.base p4
        obtain ⟨H5, pv, e5, hI5⟩ := kidR_ok (dy (m + 1)) n (by omega) hI4 (by simp)
        have hp14 : Prs H1 H4 := p13.trans p4
        cases ht : takeP (s.drop 2) with
        | none =>
          have hb5 := kidM_none [] ht
          rw [hb5] at hI5
          have hps : (kidM (s.drop 2) false []).2.2.length < 1000 := by
            simp only [kidM]
            split
            · simp
            · split <;> simp
          obtain ⟨H9, e9, kv, pv', ks, ps, rest, h9⟩ := loopBad m n (by omega) (A4 := H.next) g4 p4.ok (by omega) hps K hI5 n (by omega)
          have hrun : f15 (dy (m + 1)) n [.bool false, S s] H = outR (f15b3 (dy (m + 1)) n [.ptr H.next 0, .ptr H1.next 0] H9) := by
            simp (disch := omega) only [f15, ev, lg, wnt_undef, if_true, if_false, decide_true, decide_false, Bool.not_true, Bool.not_false, Bool.false_eq_true, Bool.true_eq_false, Bool.and_true, Bool.true_and, Bool.and_false, Bool.false_and, Bool.or_true, Bool.true_or, Bool.or_false, Bool.false_or, bA_ok hk, hH1, h5I, hb4, hb6, bA_ok p1.ok, hH2, e3, ld1_get g3, hbl, bA_ok hI3.prs.ok, hH4, e5, f15j4, x0, x1, wa, wb, hsl, hor, e9]
          exact fin H4 H9 _ _ _ _ _ _ _ _ h9 hp14 (.inl rfl) (by simp only [Nd.decN, Nd.decB, hKd, ht]; simp) hrun
        | some y =>
          obtain ⟨p0, r0⟩ := y
          rw [kidM_some [] ht] at hI5
          obtain ⟨hq0, _, _⟩ := Nd.takeP_eq ht
          have hq0l := congrArg List.length hq0
          rw [List.length_append, Nd.encP_length] at hq0l
          obtain ⟨H9, e9, kv, pv', ks, ps, rest, h9⟩ := loopDI m n (by omega) (A4 := H.next) g4 p4.ok (by omega) K (by omega) hI5 n (by omega)
          have hrun : f15 (dy (m + 1)) n [.bool false, S s] H = outR (f15b3 (dy (m + 1)) n [.ptr H.next 0, .ptr H1.next 0] H9) := by
            simp (disch := omega) only [f15, ev, lg, wnt_undef, if_true, if_false, decide_true, decide_false, Bool.not_true, Bool.not_false, Bool.false_eq_true, Bool.true_eq_false, Bool.and_true, Bool.true_and, Bool.and_false, Bool.false_and, Bool.or_true, Bool.true_or, Bool.or_false, Bool.false_or, bA_ok hk, hH1, h5I, hb4, hb6, bA_ok p1.ok, hH2, e3, ld1_get g3, hbl, bA_ok hI3.prs.ok, hH4, e5, f15j4, x0, x1, wa, wb, hsl, hor, e9]
          cases hd : decI K r0 with
          | none =>
            rw [hd] at h9
            exact fin H4 H9 _ _ _ _ _ _ _ _ h9 hp14 (.inl rfl) (by simp only [Nd.decN, Nd.decB, hKd, ht, hd]; simp) hrun
          | some y =>
            obtain ⟨y1, y2, y3⟩ := y
            rw [hd] at h9
            obtain ⟨rfl, rfl, rfl, h9⟩ := h9
            obtain ⟨q1, q2, q3, _⟩ := Nd.decI_eq hd
            have hq := congrArg List.length q1
            rw [List.length_append, Nd.encI_length _ _ (by omega)] at hq
            exact fin H4 H9 _ _ _ _ _ _ _ _ h9 hp14 (.inr ⟨by simp; omega, by simp; omega, by simp [Nd.sumL]⟩) (by simp only [Nd.decN, Nd.decB, hKd, ht, hd]; rw [if_pos ⟨h500, by omega⟩]; simp) hrun
  · have h5I : ((500 : Nat) : Int) < ((s.length : Nat) : Int) := by omega
    obtain ⟨H3, e3, l3, p3⟩ := refuse H1 (Stp.refl p1.ok)
    have hd : Nd.decN ltS leaf s = none := by simp only [Nd.decN]; rw [if_neg (by omega)]
    refine ⟨.agg [.bool false, .nilSlice, .nilSlice, .nilSlice], H3, ?_, p3, (fun nd h => by rw [hd] at h; cases h), _, rfl, rfl, rfl⟩
    rw [hd]
    simp only [f15, ev, lg, wnt_undef, if_true, if_false, decide_true, decide_false, Bool.not_true, Bool.not_false, Bool.false_eq_true, Bool.true_eq_false, Bool.and_true, Bool.true_and, Bool.and_false, Bool.false_and, Bool.or_true, Bool.true_or, Bool.or_false, Bool.false_or, bA_ok hk, hH1, h5I, hbz, e3, l3, Option.isSome_none]
end Go.Eng.Sh
end
section
namespace Go.Eng.Sh
open Go.Nd (Ptr sumL)
theorem bldN (x : Bool) (a b c : AV) (ha : isCell a = true) (hb : isCell b = true) (hc : isCell c = true) : bldS [(0, 1), (1, 1), (2, 1), (3, 1)] [.bool false, .nilSlice, .nilSlice, .nilSlice] [(0, .bool x), (1, a), (2, b), (3, c)] = some (.agg [.bool x, a, b, c]) := by
  simp only [bldS, fillA, nthP, cellsA_cell ha, cellsA_cell hb, cellsA_cell hc]
  rfl
theorem allCells4 (x : Bool) (a b c : AV) (ha : isCell a = true) (hb : isCell b = true) (hc : isCell c = true) : allCells [.bool x, a, b, c] = true := by
  simp only [allCells, ha, hb, hc]; rfl
theorem Grow.zero (k e : Nat) {H : AH} {A : Nat} {e' : TypeId} {g : Bool} (h : H.h.get A = some (.cells [] e' k g)) (hk : H.ok) : Grow k e H (.slice A 0 0 0) 0 [] := .inr ⟨by simp, A, e', g, rfl, hk.lt h, h⟩
theorem aveq_bool (b : Bool) : aveq (.bool b) (.bool b) = true := by cases b <;> rfl
theorem map_cells (l : List Str) : allCells (l.map S) = true := by
  rw [allCells_mem]; intro x hx; obtain ⟨s, _, rfl⟩ := List.mem_map.1 hx; rfl
theorem flat_cells (l : List Ptr) : allCells (l.flatMap ptrV) = true := by
  rw [allCells_mem]; intro x hx
  obtain ⟨p, _, hp⟩ := List.mem_flatMap.1 hx
  simp only [ptrV, List.mem_cons, List.not_mem_nil, or_false] at hp
  rcases hp with rfl | rfl | rfl <;> rfl
/-- Copies of three rows. -/
theorem copy3G {H : AH} (hk : H.ok) {ks vs ps : AV} {nd : Nd.Node} (h1 : Strs H ks nd.keys) (h2 : Strs H vs nd.vals) (h3 : Ptrs H ps nd.kids) (hs : small nd) {B1 B2 B3 : Nat} {e1 e2 e3 : TypeId}
    (g1 : H.h.get B1 = some (.cells [] e1 1 false)) (g2 : H.h.get B2 = some (.cells [] e2 1 false)) (g3 : H.h.get B3 = some (.cells [] e3 3 false)) (h12 : B1 ≠ B2) (h13 : B1 ≠ B3) (h23 : B2 ≠ B3) {N : Nat}
    (hks : ∀ B, Blk ks B → B < N) (hvs : ∀ B, Blk vs B → B < N) (hps : ∀ B, Blk ps B → B < N) (n1 : N ≤ B1) (n2 : N ≤ B2) (n3 : N ≤ B3) :
    ∃ k' v' p' H1 H2 H3, apP 9 1 16 (.slice B1 0 0 0) ks H = some (k', H1) ∧ apP 9 1 16 (.slice B2 0 0 0) vs H1 = some (v', H2) ∧ apP 59 3 24 (.slice B3 0 0 0) ps H2 = some (p', H3) ∧
      Stp (fun B => N ≤ B ∧ B = B1) H H1 ∧ Stp (fun B => N ≤ B ∧ B = B2) H1 H2 ∧ Stp (fun B => N ≤ B ∧ B = B3) H2 H3 ∧ Grow 1 9 H3 k' nd.keys.length (nd.keys.map S) ∧ Grow 1 9 H3 v' nd.vals.length (nd.vals.map S) ∧ Grow 3 59 H3 p' nd.kids.length (nd.kids.flatMap ptrV) ∧ (∀ B, Blk k' B ∨ Blk v' B ∨ Blk p' B → N ≤ B ∧ (H.next ≤ B ∨ B = B1 ∨ B = B2 ∨ B = B3)) := by
  obtain ⟨s1, s2, s3⟩ := hs
  have hkl := Nd.sumL_ge nd.keys
  have hvl := Nd.sumL_ge nd.vals
  have hb : ∀ {A o n c B : Nat}, Blk (.slice A o n c) B → B = A := fun h => Blk.slice.1 h
  obtain ⟨k', H1, a1, w1, t1, f1⟩ := (Grow.zero 1 9 g1 hk).app (bytes := 16) hk (by decide) h1.srcOf (by simp) (map_cells _) (by omega) (by decide)
  have t1' : Stp (fun B => N ≤ B ∧ B = B1) H H1 := t1.mono (fun B _ hB => by have := hb hB; omega)
  have lt1 := hk.lt g1
  have lt2 := hk.lt g2
  have lt3 := hk.lt g3
  obtain ⟨v', H2, a2, w2, t2, f2⟩ := (Grow.zero 1 9 (H := H1) (A := B2) ((t1'.keep _ lt2 (by omega)).trans g2) t1.ok).app (bytes := 16) t1.ok (by decide) (s := vs) (Rw.srcOf (Rw.stp h2 t1' (fun B hB => by have := hvs B hB; omega))) (by simp) (map_cells _) (by omega) (by decide)
  have t2' : Stp (fun B => N ≤ B ∧ B = B2) H1 H2 := t2.mono (fun B _ hB => by have := hb hB; omega)
  have nn1 := t1.next
  have g3' : H2.h.get B3 = some (.cells [] e3 3 false) := ((t2'.keep _ (by omega) (by omega)).trans (t1'.keep _ lt3 (by omega))).trans g3
  have h3' : Ptrs H2 ps nd.kids := Rw.stp (Rw.stp h3 t1' (fun B hB => by have := hps B hB; omega)) t2' (fun B hB => by have := hps B hB; omega)
  obtain ⟨p', H3, a3, w3, t3, f3⟩ := (Grow.zero 3 59 g3' t2.ok).app (bytes := 24) t2.ok (by decide) (s := ps) (Rw.srcOf h3') h3'.1 (flat_cells _) (by omega) (by decide)
  have t3' : Stp (fun B => N ≤ B ∧ B = B3) H2 H3 := t3.mono (fun B _ hB => by have := hb hB; omega)
  have nn2 := t2.next
  have bk : ∀ B, Blk k' B → B = B1 ∨ H.next ≤ B := fun B hB => (f1 B hB).imp hb id
  have bv : ∀ B, Blk v' B → B = B2 ∨ H1.next ≤ B := fun B hB => (f2 B hB).imp hb id
  have bp : ∀ B, Blk p' B → B = B3 ∨ H2.next ≤ B := fun B hB => (f3 B hB).imp hb id
  have kl : ∀ B, Blk k' B → B < H1.next := fun B hB => w1.lt hB
  have vl : ∀ B, Blk v' B → B < H2.next := fun B hB => w2.lt hB
  refine ⟨k', v', p', H1, H2, H3, a1, a2, a3, t1', t2', t3', ?_, ?_, ?_, ?_⟩
  · have := (w1.mono t2' (fun B hB => by have := bk B hB; omega)).mono t3' (fun B hB => by have := bk B hB; omega)
    simpa using this
  · have := w2.mono t3' (fun B hB => by have := bv B hB; omega)
    simpa using this
  · simpa using w3
  · rintro B (h | h | h)
    · rcases bk B h with h | h <;> omega
    · rcases bv B h with h | h <;> omega
    · rcases bp B h with h | h <;> omega
theorem copy3 {H : AH} (hk : H.ok) {ks vs ps : AV} {nd : Nd.Node} (h1 : Strs H ks nd.keys) (h2 : Strs H vs nd.vals) (h3 : Ptrs H ps nd.kids) (hs : small nd) {B1 B2 B3 : Nat} {e1 e2 e3 : TypeId}
    (g1 : H.h.get B1 = some (.cells [] e1 1 false)) (g2 : H.h.get B2 = some (.cells [] e2 1 false)) (g3 : H.h.get B3 = some (.cells [] e3 3 false)) (h12 : B1 ≠ B2) (h13 : B1 ≠ B3) (h23 : B2 ≠ B3) {N : Nat}
    (hks : ∀ B, Blk ks B → B < N) (hvs : ∀ B, Blk vs B → B < N) (hps : ∀ B, Blk ps B → B < N) (n1 : N ≤ B1) (n2 : N ≤ B2) (n3 : N ≤ B3) :
    ∃ k' v' p' H1 H2 H3, apP 9 1 16 (.slice B1 0 0 0) ks H = some (k', H1) ∧ apP 9 1 16 (.slice B2 0 0 0) vs H1 = some (v', H2) ∧ apP 59 3 24 (.slice B3 0 0 0) ps H2 = some (p', H3) ∧
      Stp (fun B => N ≤ B ∧ B = B1) H H1 ∧ Stp (fun B => N ≤ B ∧ B = B2) H1 H2 ∧ Stp (fun B => N ≤ B ∧ B = B3) H2 H3 ∧ Strs H3 k' nd.keys ∧ Strs H3 v' nd.vals ∧ Ptrs H3 p' nd.kids ∧ (∀ B, Blk k' B ∨ Blk v' B ∨ Blk p' B → N ≤ B ∧ (H.next ≤ B ∨ B = B1 ∨ B = B2 ∨ B = B3)) := by
  obtain ⟨k', v', p', H1, H2, H3, a1, a2, a3, t1, t2, t3, r1, r2, r3, fb⟩ := copy3G hk h1 h2 h3 hs g1 g2 g3 h12 h13 h23 hks hvs hps n1 n2 n3
  exact ⟨k', v', p', H1, H2, H3, a1, a2, a3, t1, t2, t3, r1.row, r2.row, r3.row, fb⟩
theorem Rw.blk {k n : Nat} {H : AH} {v : AV} {l : List AV} (h : Rw k H v n l) {B : Nat} (hB : Blk v B) : B < H.next := by
  obtain ⟨_, ⟨rfl, _⟩ | ⟨rfl, _⟩ | ⟨A, off, cc, c, e, sz, g, rfl, _, hlt, _⟩⟩ := h
  · exact (Blk.nil.1 hB).elim
  · obtain ⟨_, _, _, h⟩ := hB; cases h
  · rw [Blk.slice.1 hB]; exact hlt
/-- A node in rows that may be appended to. -/
def NodeG (H : AH) (v : AV) (nd : Nd.Node) : Prop := ∃ ks vs ps, v = .agg [.bool nd.leaf, ks, vs, ps] ∧ Grow 1 9 H ks nd.keys.length (nd.keys.map S) ∧ Grow 1 9 H vs nd.vals.length (nd.vals.map S) ∧ Grow 3 59 H ps nd.kids.length (nd.kids.flatMap ptrV)
theorem NodeG.node {H : AH} {v : AV} {nd : Nd.Node} (h : NodeG H v nd) : NodeV H v nd := by
  obtain ⟨ks, vs, ps, e, h1, h2, h3⟩ := h; exact ⟨ks, vs, ps, e, h1.row, h2.row, h3.row⟩
theorem NodeG.prs {H H' : AH} {v : AV} {nd : Nd.Node} (h : NodeG H v nd) (s : Prs H H') : NodeG H' v nd := by
  obtain ⟨ks, vs, ps, e, h1, h2, h3⟩ := h; exact ⟨ks, vs, ps, e, h1.mono s (fun _ _ x => x), h2.mono s (fun _ _ x => x), h3.mono s (fun _ _ x => x)⟩
theorem givenG_ok (D : Dyn) (n : Nat) {H : AH} (hk : H.ok) {v : AV} {nd : Nd.Node} (h : NodeV H v nd) (hs : small nd) :
    ∃ v' H', f13 D n [v] H = some (v', H') ∧ Prs H H' ∧ NodeG H' v' nd := by
  obtain ⟨ks, vs, ps, rfl, h1, h2, h3⟩ := h
  have p1 : Prs H (H.push (.cells [.bool nd.leaf, ks, vs, ps] 28 1 false)) := (Stp.refl hk).push _
  have g1 : (H.push (.cells [.bool nd.leaf, ks, vs, ps] 28 1 false)).h.get H.next = some (.cells [.bool nd.leaf, ks, vs, ps] 28 1 false) := AH.push_get_eq _ _
  have n1 : (H.push (.cells [.bool nd.leaf, ks, vs, ps] 28 1 false)).next = H.next + 1 := rfl
  generalize hH1 : H.push (.cells [.bool nd.leaf, ks, vs, ps] 28 1 false) = H1 at p1 g1 n1
  have p2 : Prs H1 (H1.push (.cells [.bool false, .nilSlice, .nilSlice, .nilSlice] 34 1 false)) := (Stp.refl p1.ok).push _
  have g2 : (H1.push (.cells [.bool false, .nilSlice, .nilSlice, .nilSlice] 34 1 false)).h.get H1.next = some (.cells [.bool false, .nilSlice, .nilSlice, .nilSlice] 34 1 false) := AH.push_get_eq _ _
  have n2 : (H1.push (.cells [.bool false, .nilSlice, .nilSlice, .nilSlice] 34 1 false)).next = H1.next + 1 := rfl
  have g12 := p2.get p1.ok g1
  generalize hH2 : H1.push (.cells [.bool false, .nilSlice, .nilSlice, .nilSlice] 34 1 false) = H2 at p2 g2 n2 g12
  have p3 : Prs H2 (H2.push (.cells [] 9 1 false)) := (Stp.refl p2.ok).push _
  have g3 : (H2.push (.cells [] 9 1 false)).h.get H2.next = some (.cells [] 9 1 false) := AH.push_get_eq _ _
  have n3 : (H2.push (.cells [] 9 1 false)).next = H2.next + 1 := rfl
  have g13 := p3.get p2.ok g12
  have g23 := p3.get p2.ok g2
  generalize hH3 : H2.push (.cells [] 9 1 false) = H3 at p3 g3 n3 g13 g23
  have p4 : Prs H3 (H3.push (.cells [] 9 1 false)) := (Stp.refl p3.ok).push _
  have g4 : (H3.push (.cells [] 9 1 false)).h.get H3.next = some (.cells [] 9 1 false) := AH.push_get_eq _ _
  have n4 : (H3.push (.cells [] 9 1 false)).next = H3.next + 1 := rfl
  have g14 := p4.get p3.ok g13
  have g24 := p4.get p3.ok g23
  have g34 := p4.get p3.ok g3
  generalize hH4 : H3.push (.cells [] 9 1 false) = H4 at p4 g4 n4 g14 g24 g34
  have p5 : Prs H4 (H4.push (.cells [] 59 3 false)) := (Stp.refl p4.ok).push _
  have g5 : (H4.push (.cells [] 59 3 false)).h.get H4.next = some (.cells [] 59 3 false) := AH.push_get_eq _ _
  have n5 : (H4.push (.cells [] 59 3 false)).next = H4.next + 1 := rfl
  have g15 := p5.get p4.ok g14
  have g25 := p5.get p4.ok g24
  have g35 := p5.get p4.ok g34
  have g45 := p5.get p4.ok g4
  generalize hH5 : H4.push (.cells [] 59 3 false) = H5 at p5 g5 n5 g15 g25 g35 g45
  have P5 : Prs H H5 := (((p1.trans p2).trans p3).trans p4).trans p5
  obtain ⟨k', v', p', H6, H7, H8, a6, a7, a8, t6, t7, t8, r1, r2, r3, fb⟩ := copy3G P5.ok (h1.prs P5) (h2.prs P5) (h3.prs P5) hs g35 g45 g5 (by omega) (by omega) (by omega) (N := H2.next) (fun B hB => by have := Rw.blk h1 hB; omega) (fun B hB => by have := Rw.blk h2 hB; omega) (fun B hB => by have := Rw.blk h3 hB; omega) (by omega) (by omega) (by omega)
  have m6 := t6.next
  have m7 := t7.next
  have g16 : H6.h.get H.next = some (.cells [.bool nd.leaf, ks, vs, ps] 28 1 false) := (t6.keep _ (by omega) (by omega)).trans g15
  have g17 : H7.h.get H.next = some (.cells [.bool nd.leaf, ks, vs, ps] 28 1 false) := (t7.keep _ (by omega) (by omega)).trans g16
  have g18 : H8.h.get H.next = some (.cells [.bool nd.leaf, ks, vs, ps] 28 1 false) := (t8.keep _ (by omega) (by omega)).trans g17
  have g28 : H8.h.get H1.next = some (.cells [.bool false, .nilSlice, .nilSlice, .nilSlice] 34 1 false) := (t8.keep _ (by omega) (by omega)).trans ((t7.keep _ (by omega) (by omega)).trans ((t6.keep _ (by omega) (by omega)).trans g25))
  obtain ⟨H9, e9, g9, s9, n9⟩ := st_all t8.ok g28 (l' := [.bool nd.leaf, k', v', p']) rfl (allCells4 _ _ _ _ r1.isCell r2.isCell r3.isCell)
  have e9' : stN 4 (.ptr H1.next 0) (.agg [.bool nd.leaf, k', v', p']) H8 = some (undefA, H9) := e9
  have P8 : Prs H H8 := ((P5.fresh t6 (fun B hB => by omega)).fresh t7 (fun B hB => by omega)).fresh t8 (fun B hB => by omega)
  have hz1 : bldL 9 1 0 [.str 0 0] [] = some (.cells [] 9 1 false, fun A => .slice A 0 0 0) := rfl
  have hz2 : ∀ a b c : AV, bldL 59 3 0 [a, b, c] [] = some (.cells [] 59 3 false, fun A => .slice A 0 0 0) := fun _ _ _ => rfl
  have nb : ∀ B, Blk k' B ∨ Blk v' B ∨ Blk p' B → ¬ B = H1.next := fun B hB => by have := fb B hB; omega
  refine ⟨.agg [.bool nd.leaf, k', v', p'], H9, ?_, P8.fresh s9 (fun B hB => by omega), ⟨k', v', p', rfl, r1.mono s9 (fun B hB => nb B (.inl hB)), r2.mono s9 (fun B hB => nb B (.inr (.inl hB))), r3.mono s9 (fun B hB => nb B (.inr (.inr hB)))⟩⟩
  simp only [f13, ev, lg, wnt_undef, if_true, if_false, decide_true, decide_false, Bool.not_true, Bool.not_false, Bool.false_eq_true, Bool.true_eq_false, Bool.and_true, Bool.true_and, Bool.and_false, Bool.false_and, Bool.or_true, Bool.true_or, Bool.or_false, Bool.false_or, bA_ok hk, hH1, bA_ok p1.ok, hH2, ld1_get g12, ld1_get g13, ld1_get g14, ld1_get g15, hz1, hz2, bA_ok p2.ok, hH3, bA_ok p3.ok, hH4, bA_ok p4.ok, hH5, a6,
    chk_ok (ld1_get g16 0) (aveq_bool _), chk_ok (ld1_get g16 2) (aveq_row h2), chk_ok (ld1_get g16 3) (aveq_row h3), a7, chk_ok (ld1_get g17 0) (aveq_bool _), chk_ok (ld1_get g17 3) (aveq_row h3), a8, chk_ok (ld1_get g18 0) (aveq_bool _),
    bldN _ _ _ _ r1.isCell r2.isCell r3.isCell, e9', ldN_get g9, sub4, Option.map_some]
theorem given_ok (D : Dyn) (n : Nat) {H : AH} (hk : H.ok) {v : AV} {nd : Nd.Node} (h : NodeV H v nd) (hs : small nd) :
    ∃ v' H', f13 D n [v] H = some (v', H') ∧ Prs H H' ∧ NodeV H' v' nd := by
  obtain ⟨v', H', h1, h2, h3⟩ := givenG_ok D n hk h hs
  exact ⟨v', H', h1, h2, h3.node⟩
end Go.Eng.Sh
end
section
namespace Go.Eng.Sh
open Go.Nd (Ptr sumL)
theorem sumL_le (l : List Str) (h : ∀ s ∈ l, s.length ≤ 1000) : sumL l ≤ 1001 * l.length := by
  induction l with
  | nil => simp [sumL]
  | cons s l ih =>
    have := ih (fun x hx => h x (List.mem_cons_of_mem _ hx))
    have := h s (List.mem_cons_self ..)
    rw [Nd.sumL_cons, List.length_cons]; omega
theorem long0 (D : Dyn) (n : Nat) {H : AH} {ks : AV} {l : List Str} (h : Strs H ks l) {A : Nat} {c : List AV} {e : TypeId} (hA : H.h.get A = some (.cells c e 1 false)) (hc : c[1]? = some ks) (hl : l.length ≤ 150) (n' : Nat) (hn : l.length < n') :
    ∃ e H', loopK n' (f10l0 D n) [.ptr A 0, .int .i64 (0 : Nat)] H = some (e, H') ∧ if (List.range l.length).all (fun i => decide ((l.getD i []).length ≤ 1000)) then (e = .exit 0 [.ptr A 0] ∧ H' = H) else (e = .ret (.bool true) ∧ H' = H) := by
  refine loop_all l.length _ (fun i us H' => H' = H ∧ us = [.ptr A 0, .int .i64 (i : Nat)]) (fun e H' => e = .exit 0 [.ptr A 0] ∧ H' = H) (fun e H' => e = .ret (.bool true) ∧ H' = H) ?_ ?_ ?_ n' _ H ⟨rfl, rfl⟩ hn
  · rintro i us H' hi ⟨rfl, rfl⟩ hg
    obtain ⟨p, h1, h2⟩ := h.at hi
    simp only [getD_lt hi, decide_eq_true_eq] at hg
    have hiI : ((i : Nat) : Int) < ((l.length : Nat) : Int) := by omega
    have hg' : ¬ ((1000 : Nat) : Int) < ((l[i].length : Nat) : Int) := by omega
    refine ⟨_, H', ?_, rfl, rfl⟩
    simp (disch := omega) only [f10l0, ev, lg, wnt_undef, if_true, if_false, decide_true, decide_false, Bool.not_true, Bool.not_false, Bool.false_eq_true, Bool.true_eq_false, Bool.and_true, Bool.true_and, Bool.and_false, Bool.false_and, Bool.or_true, Bool.true_or, Bool.or_false, Bool.false_or, ld1_get hA, hc, h.lnSl, hiI, h1, h2, hg', Int.natCast_add]
  · rintro i us H' hi ⟨rfl, rfl⟩ hg
    obtain ⟨p, h1, h2⟩ := h.at hi
    simp only [getD_lt hi, decide_eq_false_iff_not] at hg
    have hiI : ((i : Nat) : Int) < ((l.length : Nat) : Int) := by omega
    have hg' : ((1000 : Nat) : Int) < ((l[i].length : Nat) : Int) := by omega
    refine ⟨.ret (.bool true), H', ?_, rfl, rfl, rfl⟩
    simp (disch := omega) only [f10l0, ev, lg, wnt_undef, if_true, if_false, decide_true, decide_false, Bool.not_true, Bool.not_false, Bool.false_eq_true, Bool.true_eq_false, Bool.and_true, Bool.true_and, Bool.and_false, Bool.false_and, Bool.or_true, Bool.true_or, Bool.or_false, Bool.false_or, ld1_get hA, hc, h.lnSl, hiI, h1, h2, hg']
  · rintro us H' ⟨rfl, rfl⟩
    refine ⟨.exit 0 [.ptr A 0], H', ?_, rfl, rfl, rfl⟩
    simp only [f10l0, ev, lg, wnt_undef, if_true, if_false, decide_true, decide_false, Bool.not_true, Bool.not_false, Bool.false_eq_true, Bool.true_eq_false, Bool.and_true, Bool.true_and, Bool.and_false, Bool.false_and, Bool.or_true, Bool.true_or, Bool.or_false, Bool.false_or, ld1_get hA, hc, h.lnSl, Int.lt_irrefl]
theorem long1 (D : Dyn) (n : Nat) {H : AH} {ks : AV} {l : List Str} (h : Strs H ks l) {A : Nat} {c : List AV} {e : TypeId} (hA : H.h.get A = some (.cells c e 1 false)) (hc : c[2]? = some ks) (hl : l.length ≤ 150) (n' : Nat) (hn : l.length < n') :
    ∃ e H', loopK n' (f10l1 D n) [.ptr A 0, .int .i64 (0 : Nat)] H = some (e, H') ∧ if (List.range l.length).all (fun i => decide ((l.getD i []).length ≤ 1000)) then (e = .exit 2 [] ∧ H' = H) else (e = .ret (.bool true) ∧ H' = H) := by
  refine loop_all l.length _ (fun i us H' => H' = H ∧ us = [.ptr A 0, .int .i64 (i : Nat)]) (fun e H' => e = .exit 2 [] ∧ H' = H) (fun e H' => e = .ret (.bool true) ∧ H' = H) ?_ ?_ ?_ n' _ H ⟨rfl, rfl⟩ hn
  · rintro i us H' hi ⟨rfl, rfl⟩ hg
    obtain ⟨p, h1, h2⟩ := h.at hi
    simp only [getD_lt hi, decide_eq_true_eq] at hg
    have hiI : ((i : Nat) : Int) < ((l.length : Nat) : Int) := by omega
    have hg' : ¬ ((1000 : Nat) : Int) < ((l[i].length : Nat) : Int) := by omega
    refine ⟨_, H', ?_, rfl, rfl⟩
    simp (disch := omega) only [f10l1, ev, lg, wnt_undef, if_true, if_false, decide_true, decide_false, Bool.not_true, Bool.not_false, Bool.false_eq_true, Bool.true_eq_false, Bool.and_true, Bool.true_and, Bool.and_false, Bool.false_and, Bool.or_true, Bool.true_or, Bool.or_false, Bool.false_or, ld1_get hA, hc, h.lnSl, hiI, h1, h2, hg', Int.natCast_add]
  · rintro i us H' hi ⟨rfl, rfl⟩ hg
    obtain ⟨p, h1, h2⟩ := h.at hi
    simp only [getD_lt hi, decide_eq_false_iff_not] at hg
    have hiI : ((i : Nat) : Int) < ((l.length : Nat) : Int) := by omega
    have hg' : ((1000 : Nat) : Int) < ((l[i].length : Nat) : Int) := by omega
    refine ⟨.ret (.bool true), H', ?_, rfl, rfl, rfl⟩
    simp (disch := omega) only [f10l1, ev, lg, wnt_undef, if_true, if_false, decide_true, decide_false, Bool.not_true, Bool.not_false, Bool.false_eq_true, Bool.true_eq_false, Bool.and_true, Bool.true_and, Bool.and_false, Bool.false_and, Bool.or_true, Bool.true_or, Bool.or_false, Bool.false_or, ld1_get hA, hc, h.lnSl, hiI, h1, h2, hg']
  · rintro us H' ⟨rfl, rfl⟩
    refine ⟨.exit 2 [], H', ?_, rfl, rfl, rfl⟩
    simp only [f10l1, ev, lg, wnt_undef, if_true, if_false, decide_true, decide_false, Bool.not_true, Bool.not_false, Bool.false_eq_true, Bool.true_eq_false, Bool.and_true, Bool.true_and, Bool.and_false, Bool.false_and, Bool.or_true, Bool.true_or, Bool.or_false, Bool.false_or, ld1_get hA, hc, h.lnSl, Int.lt_irrefl]
theorem long_ok (D : Dyn) (n : Nat) (hn : 1000 ≤ n) {H : AH} (hk : H.ok) {v : AV} {nd : Nd.Node} (h : NodeV H v nd) :
    ∃ b H', f10 D n [v] H = some (.bool b, H') ∧ Prs H H' ∧ (b = false → small nd) := by
  obtain ⟨ks, vs, ps, rfl, h1, h2, h3⟩ := h
  have p1 : Prs H (H.push (.cells [.bool nd.leaf, ks, vs, ps] 28 1 false)) := (Stp.refl hk).push _
  have g1 : (H.push (.cells [.bool nd.leaf, ks, vs, ps] 28 1 false)).h.get H.next = some (.cells [.bool nd.leaf, ks, vs, ps] 28 1 false) := AH.push_get_eq _ _
  generalize hH1 : H.push (.cells [.bool nd.leaf, ks, vs, ps] 28 1 false) = H1 at p1 g1
  have hb : ((decide (((150 : Nat) : Int) < ((nd.keys.length : Nat) : Int)) || decide (((150 : Nat) : Int) < ((nd.vals.length : Nat) : Int))) || decide (((150 : Nat) : Int) < ((nd.kids.length : Nat) : Int))) = !decide (nd.keys.length ≤ 150 ∧ nd.vals.length ≤ 150 ∧ nd.kids.length ≤ 150) := by
    rw [Bool.eq_iff_iff]; simp only [Bool.or_eq_true, decide_eq_true_eq, Bool.not_eq_true', decide_eq_false_iff_not]; omega
  by_cases hc : nd.keys.length ≤ 150 ∧ nd.vals.length ≤ 150 ∧ nd.kids.length ≤ 150
  · obtain ⟨c1, c2, c3⟩ := id hc
    obtain ⟨e0, H2, e1, e2⟩ := long0 D n (h1.prs p1) g1 rfl c1 n (by omega)
    rw [all_range nd.keys ([] : Str) (fun s => decide (s.length ≤ 1000))] at e2
    split at e2
    · rename_i k1
      obtain ⟨rfl, rfl⟩ := e2
      obtain ⟨e3, H3, e4, e5⟩ := long1 D n (h2.prs p1) g1 rfl c2 n (by omega)
      rw [all_range nd.vals ([] : Str) (fun s => decide (s.length ≤ 1000))] at e5
      split at e5
      · rename_i k2
        obtain ⟨rfl, rfl⟩ := e5
        refine ⟨false, H3, ?_, p1, fun _ => ?_⟩
        · simp only [f10, ev, lg, wnt_undef, if_true, if_false, decide_true, decide_false, Bool.not_true, Bool.not_false, Bool.false_eq_true, Bool.true_eq_false, Bool.and_true, Bool.true_and, Bool.and_false, Bool.false_and, Bool.or_true, Bool.true_or, Bool.or_false, Bool.false_or, bA_ok hk, hH1, ld1_get g1, h1.lnSl, h2.lnSl, h3.lnSl, hb, hc, and_self, e1, f10b3, e4, f10b2]
        · simp only [List.all_eq_true, decide_eq_true_eq] at k1 k2
          have := sumL_le _ k1; have := sumL_le _ k2
          exact ⟨by omega, by omega, by omega⟩
      · rename_i k2
        obtain ⟨rfl, rfl⟩ := e5
        refine ⟨true, H3, ?_, p1, fun h => by simp at h⟩
        simp only [f10, ev, lg, wnt_undef, if_true, if_false, decide_true, decide_false, Bool.not_true, Bool.not_false, Bool.false_eq_true, Bool.true_eq_false, Bool.and_true, Bool.true_and, Bool.and_false, Bool.false_and, Bool.or_true, Bool.true_or, Bool.or_false, Bool.false_or, bA_ok hk, hH1, ld1_get g1, h1.lnSl, h2.lnSl, h3.lnSl, hb, hc, and_self, e1, f10b3, e4]
    · obtain ⟨rfl, rfl⟩ := e2
      refine ⟨true, H2, ?_, p1, fun h => by simp at h⟩
      simp only [f10, ev, lg, wnt_undef, if_true, if_false, decide_true, decide_false, Bool.not_true, Bool.not_false, Bool.false_eq_true, Bool.true_eq_false, Bool.and_true, Bool.true_and, Bool.and_false, Bool.false_and, Bool.or_true, Bool.true_or, Bool.or_false, Bool.false_or, bA_ok hk, hH1, ld1_get g1, h1.lnSl, h2.lnSl, h3.lnSl, hb, hc, and_self, e1]
  · refine ⟨true, H1, ?_, p1, fun h => by simp at h⟩
    simp only [f10, ev, lg, wnt_undef, if_true, if_false, decide_true, decide_false, Bool.not_true, Bool.not_false, Bool.false_eq_true, Bool.true_eq_false, Bool.and_true, Bool.true_and, Bool.and_false, Bool.false_and, Bool.or_true, Bool.true_or, Bool.or_false, Bool.false_or, bA_ok hk, hH1, ld1_get g1, h1.lnSl, h2.lnSl, h3.lnSl, hb, hc]
/-- The same texts: no round finds them unlike. -/
theorem same0 (D : Dyn) (n : Nat) {H : AH} {a b : AV} {l : List Str} (h : Strs H a l) (h' : Strs H b l) {A B : Nat} {c d : List AV} {e e' : TypeId} (hA : H.h.get A = some (.cells c e 1 false)) (hB : H.h.get B = some (.cells d e' 1 false)) (hc : c[1]? = some a) (hd : d[1]? = some b) (hl : l.length ≤ 1000000000) (n' : Nat) (hn : l.length < n') :
    loopK n' (f16l0 D n) [.ptr A 0, .ptr B 0, .int .i64 (0 : Nat)] H = some (.exit 0 [.ptr A 0, .ptr B 0], H) :=
  loop_for (b := f16l0 D n) (fun i => [.ptr A 0, .ptr B 0, .int .i64 (i : Nat)]) l.length (fun i hi => by
    obtain ⟨p, h1, h2⟩ := h.at hi
    obtain ⟨q, q1, q2⟩ := h'.at hi
    have hiI : ((i : Nat) : Int) < ((l.length : Nat) : Int) := by omega
    simp (disch := omega) only [f16l0, ev, lg, wnt_undef, if_true, if_false, decide_true, decide_false, Bool.not_true, Bool.not_false, Bool.false_eq_true, Bool.true_eq_false, Bool.and_true, Bool.true_and, Bool.and_false, Bool.false_and, Bool.or_true, Bool.true_or, Bool.or_false, Bool.false_or, ld1_get hA, ld1_get hB, hc, hd, h.lnSl, hiI, h1, h2, q1, q2, ne_eq, not_true_eq_false, Int.natCast_add]) (fun n => loop_exit (by
    simp only [f16l0, ev, lg, wnt_undef, if_true, if_false, decide_true, decide_false, Bool.not_true, Bool.not_false, Bool.false_eq_true, Bool.true_eq_false, Bool.and_true, Bool.true_and, Bool.and_false, Bool.false_and, Bool.or_true, Bool.true_or, Bool.or_false, Bool.false_or, ld1_get hA, hc, h.lnSl, Int.lt_irrefl])) n' hn
theorem same1 (D : Dyn) (n : Nat) {H : AH} {a b : AV} {l : List Str} (h : Strs H a l) (h' : Strs H b l) {A B : Nat} {c d : List AV} {e e' : TypeId} (hA : H.h.get A = some (.cells c e 1 false)) (hB : H.h.get B = some (.cells d e' 1 false)) (hc : c[2]? = some a) (hd : d[2]? = some b) (hl : l.length ≤ 1000000000) (n' : Nat) (hn : l.length < n') :
    loopK n' (f16l1 D n) [.ptr A 0, .ptr B 0, .int .i64 (0 : Nat)] H = some (.exit 2 [.ptr A 0, .ptr B 0], H) :=
  loop_for (b := f16l1 D n) (fun i => [.ptr A 0, .ptr B 0, .int .i64 (i : Nat)]) l.length (fun i hi => by
    obtain ⟨p, h1, h2⟩ := h.at hi
    obtain ⟨q, q1, q2⟩ := h'.at hi
    have hiI : ((i : Nat) : Int) < ((l.length : Nat) : Int) := by omega
    simp (disch := omega) only [f16l1, ev, lg, wnt_undef, if_true, if_false, decide_true, decide_false, Bool.not_true, Bool.not_false, Bool.false_eq_true, Bool.true_eq_false, Bool.and_true, Bool.true_and, Bool.and_false, Bool.false_and, Bool.or_true, Bool.true_or, Bool.or_false, Bool.false_or, ld1_get hA, ld1_get hB, hc, hd, h.lnSl, hiI, h1, h2, q1, q2, ne_eq, not_true_eq_false, Int.natCast_add]) (fun n => loop_exit (by
    simp only [f16l1, ev, lg, wnt_undef, if_true, if_false, decide_true, decide_false, Bool.not_true, Bool.not_false, Bool.false_eq_true, Bool.true_eq_false, Bool.and_true, Bool.true_and, Bool.and_false, Bool.false_and, Bool.or_true, Bool.true_or, Bool.or_false, Bool.false_or, ld1_get hA, hc, h.lnSl, Int.lt_irrefl])) n' hn
theorem same2 (D : Dyn) (n : Nat) {H : AH} {a b : AV} {l : List Ptr} (h : Ptrs H a l) (h' : Ptrs H b l) {A B : Nat} {c d : List AV} {e e' : TypeId} (hA : H.h.get A = some (.cells c e 1 false)) (hB : H.h.get B = some (.cells d e' 1 false)) (hc : c[3]? = some a) (hd : d[3]? = some b) (hl : l.length ≤ 1000000000) (n' : Nat) (hn : l.length < n') :
    loopK n' (f16l2 D n) [.ptr A 0, .ptr B 0, .int .i64 (0 : Nat)] H = some (.exit 4 [], H) :=
  loop_for (b := f16l2 D n) (fun i => [.ptr A 0, .ptr B 0, .int .i64 (i : Nat)]) l.length (fun i hi => by
    obtain ⟨p, h1, h2⟩ := h.at hi
    obtain ⟨q, q1, q2⟩ := h'.at hi
    have hiI : ((i : Nat) : Int) < ((l.length : Nat) : Int) := by omega
    simp (disch := omega) only [f16l2, ev, lg, wnt_undef, if_true, if_false, decide_true, decide_false, Bool.not_true, Bool.not_false, Bool.false_eq_true, Bool.true_eq_false, Bool.and_true, Bool.true_and, Bool.and_false, Bool.false_and, Bool.or_true, Bool.true_or, Bool.or_false, Bool.false_or, ld1_get hA, ld1_get hB, hc, hd, h.lnSl, hiI, h1, h2, q1, q2, eqA_ptr, cmpO_neq, Int.natCast_add]) (fun n => loop_exit (by
    simp only [f16l2, ev, lg, wnt_undef, if_true, if_false, decide_true, decide_false, Bool.not_true, Bool.not_false, Bool.false_eq_true, Bool.true_eq_false, Bool.and_true, Bool.true_and, Bool.and_false, Bool.false_and, Bool.or_true, Bool.true_or, Bool.or_false, Bool.false_or, ld1_get hA, hc, h.lnSl, Int.lt_irrefl])) n' hn
theorem same_ok (D : Dyn) (n : Nat) (hn : 200000000 ≤ n) {H : AH} (hk : H.ok) {v w : AV} {nd : Nd.Node} (h : NodeV H v nd) (h' : NodeV H w nd) (hs : small nd) :
    ∃ H', f16 D n [v, w] H = some (.bool true, H') ∧ Prs H H' := by
  obtain ⟨ks, vs, ps, rfl, h1, h2, h3⟩ := h
  obtain ⟨ks', vs', ps', rfl, k1, k2, k3⟩ := h'
  obtain ⟨s1, s2, s3⟩ := hs
  have hkl := Nd.sumL_ge nd.keys
  have hvl := Nd.sumL_ge nd.vals
  have p1 : Prs H (H.push (.cells [.bool nd.leaf, ks, vs, ps] 28 1 false)) := (Stp.refl hk).push _
  have g1 : (H.push (.cells [.bool nd.leaf, ks, vs, ps] 28 1 false)).h.get H.next = some (.cells [.bool nd.leaf, ks, vs, ps] 28 1 false) := AH.push_get_eq _ _
  generalize hH1 : H.push (.cells [.bool nd.leaf, ks, vs, ps] 28 1 false) = H1 at p1 g1
  have p2 : Prs H1 (H1.push (.cells [.bool nd.leaf, ks', vs', ps'] 28 1 false)) := (Stp.refl p1.ok).push _
  have g2 : (H1.push (.cells [.bool nd.leaf, ks', vs', ps'] 28 1 false)).h.get H1.next = some (.cells [.bool nd.leaf, ks', vs', ps'] 28 1 false) := AH.push_get_eq _ _
  generalize hH2 : H1.push (.cells [.bool nd.leaf, ks', vs', ps'] 28 1 false) = H2 at p2 g2
  have g12 := p2.get p1.ok g1
  have P : Prs H H2 := p1.trans p2
  have l0 := same0 D n (h1.prs P) (k1.prs P) g12 g2 rfl rfl (by omega) n (by omega)
  have l1 := same1 D n (h2.prs P) (k2.prs P) g12 g2 rfl rfl (by omega) n (by omega)
  have l2 := same2 D n (h3.prs P) (k3.prs P) g12 g2 rfl rfl (by omega) n (by omega)
  have hbb : (nd.leaf == nd.leaf) = true := by simp
  refine ⟨H2, ?_, P⟩
  simp only [f16, ev, lg, wnt_undef, if_true, if_false, decide_true, decide_false, Bool.not_true, Bool.not_false, Bool.false_eq_true, Bool.true_eq_false, Bool.and_true, Bool.true_and, Bool.and_false, Bool.false_and, Bool.or_true, Bool.true_or, Bool.or_false, Bool.false_or, bA_ok hk, hH1, bA_ok p1.ok, hH2, ld1_get g12, ld1_get g2, h1.lnSl, h2.lnSl, h3.lnSl, k1.lnSl, k2.lnSl, k3.lnSl, hbb, ne_eq, not_true_eq_false, l0, f16b5, l1, f16b4, l2, f16b3]
end Go.Eng.Sh
end
section
namespace Go.Eng.Sh
open Go.Nd (Ptr sumL)
/-- An element of a row of one's own is written over. -/
theorem Own.st {k e n : Nat} {H : AH} {v : AV} {l : List AV} (h : Own k e H v n l) (hk : H.ok) (hpos : 0 < k) {i : Nat} (hi : i < n) {x : AV} (hx : (cellsA x).length = k) (hc : allCells (cellsA x) = true) :
    ∃ p H' l', (∀ κ (z : Int), z = (i : Int) → ixSl k v (.int κ z) = some p) ∧ stN k p x H = some (undefA, H') ∧ Own k e H' v n l' ∧ Stp (Blk v) H H' := by
  obtain ⟨h0, ⟨_, rfl⟩ | ⟨A, rfl, hA, hg⟩⟩ := h
  · omega
  · have hik : i * k + k ≤ n * k := by rw [← Nat.succ_mul]; exact Nat.mul_le_mul_right _ hi
    have hb : Nat.blt i n = true := by rw [Nat.blt_eq]; exact hi
    refine ⟨.ptr A (0 + i * k), _, _, fun κ z hz => ?_, stN_ok hg hpos hx hc (by omega), ⟨?_, .inr ⟨A, rfl, hA, by rw [AH.put_get, if_pos rfl]⟩⟩, (Stp.refl hk).put hA _ (.inr (Blk.slice.2 rfl))⟩
    · subst hz
      simp only [ixSl, natOf_int κ (show (0 : Int) ≤ (i : Int) by omega), Int.toNat_natCast, hb, cond_true, fN_eq]
    · simp only [List.length_append, List.length_take, List.length_drop, hx]; omega
theorem spoil0 (D : Dyn) (n : Nat) {H : AH} (hk : H.ok) {kv : AV} {N : Nat} {l : List AV} (h : Own 1 9 H kv N l) {A : Nat} {c : List AV} {e : TypeId} (hA : H.h.get A = some (.cells c e 1 false)) (hc : c[1]? = some kv) (hb : ¬ Blk kv A) (hN : N ≤ 1000000000) (x y : AV) (n' : Nat) (hn : N < n') :
    ∃ H', loopK n' (f17l0 D n) [.ptr A 0, x, y, .int .i64 (0 : Nat)] H = some (.exit 0 [.ptr A 0, x, y], H') ∧ Stp (Blk kv) H H' := by
  obtain ⟨m, us, H', k1, rfl, k2, l', k3⟩ := loop_inv (b := f17l0 D n) N (fun i us H' => us = [.ptr A 0, x, y, .int .i64 (i : Nat)] ∧ Stp (Blk kv) H H' ∧ ∃ l, Own 1 9 H' kv N l) (fun i us H1 hi ⟨hus, hs, l, hl⟩ => by
    subst hus
    obtain ⟨p, H2, l', p1, p2, p3, p4⟩ := Own.st hl hs.ok (by decide) hi (x := .str 6 128008974200947) rfl rfl
    have hA1 : H1.h.get A = some (.cells c e 1 false) := (hs.keep A (hk.lt hA) hb).trans hA
    have hiI : ((i : Nat) : Int) < ((N : Nat) : Int) := by omega
    refine ⟨_, H2, ?_, rfl, hs.trans p4, l', p3⟩
    simp (disch := omega) only [f17l0, ev, lg, wnt_undef, if_true, if_false, decide_true, decide_false, Bool.not_true, Bool.not_false, Bool.false_eq_true, Bool.true_eq_false, Bool.and_true, Bool.true_and, Bool.and_false, Bool.false_and, Bool.or_true, Bool.true_or, Bool.or_false, Bool.false_or, ld1_get hA1, hc, hl.row.lnSl, hiI, p1, p2, Int.natCast_add]) n' _ H ⟨rfl, Stp.refl hk, l, h⟩ hn
  have hA1 : H'.h.get A = some (.cells c e 1 false) := (k2.keep A (hk.lt hA) hb).trans hA
  exact ⟨H', k1.trans (loop_exit (by simp only [f17l0, ev, lg, wnt_undef, if_true, if_false, decide_true, decide_false, Bool.not_true, Bool.not_false, Bool.false_eq_true, Bool.true_eq_false, Bool.and_true, Bool.true_and, Bool.and_false, Bool.false_and, Bool.or_true, Bool.true_or, Bool.or_false, Bool.false_or, ld1_get hA1, hc, k3.row.lnSl, Int.lt_irrefl])), k2⟩
theorem spoil1 (D : Dyn) (n : Nat) {H : AH} (hk : H.ok) {kv : AV} {N : Nat} {l : List AV} (h : Own 1 9 H kv N l) {A : Nat} {c : List AV} {e : TypeId} (hA : H.h.get A = some (.cells c e 1 false)) (hc : c[2]? = some kv) (hb : ¬ Blk kv A) (hN : N ≤ 1000000000) (x y : AV) (n' : Nat) (hn : N < n') :
    ∃ H', loopK n' (f17l1 D n) [.ptr A 0, x, y, .int .i64 (0 : Nat)] H = some (.exit 2 [.ptr A 0, x, y], H') ∧ Stp (Blk kv) H H' := by
  obtain ⟨m, us, H', k1, rfl, k2, l', k3⟩ := loop_inv (b := f17l1 D n) N (fun i us H' => us = [.ptr A 0, x, y, .int .i64 (i : Nat)] ∧ Stp (Blk kv) H H' ∧ ∃ l, Own 1 9 H' kv N l) (fun i us H1 hi ⟨hus, hs, l, hl⟩ => by
    subst hus
    obtain ⟨p, H2, l', p1, p2, p3, p4⟩ := Own.st hl hs.ok (by decide) hi (x := .str 6 128008974200947) rfl rfl
    have hA1 : H1.h.get A = some (.cells c e 1 false) := (hs.keep A (hk.lt hA) hb).trans hA
    have hiI : ((i : Nat) : Int) < ((N : Nat) : Int) := by omega
    refine ⟨_, H2, ?_, rfl, hs.trans p4, l', p3⟩
    simp (disch := omega) only [f17l1, ev, lg, wnt_undef, if_true, if_false, decide_true, decide_false, Bool.not_true, Bool.not_false, Bool.false_eq_true, Bool.true_eq_false, Bool.and_true, Bool.true_and, Bool.and_false, Bool.false_and, Bool.or_true, Bool.true_or, Bool.or_false, Bool.false_or, ld1_get hA1, hc, hl.row.lnSl, hiI, p1, p2, Int.natCast_add]) n' _ H ⟨rfl, Stp.refl hk, l, h⟩ hn
  have hA1 : H'.h.get A = some (.cells c e 1 false) := (k2.keep A (hk.lt hA) hb).trans hA
  exact ⟨H', k1.trans (loop_exit (by simp only [f17l1, ev, lg, wnt_undef, if_true, if_false, decide_true, decide_false, Bool.not_true, Bool.not_false, Bool.false_eq_true, Bool.true_eq_false, Bool.and_true, Bool.true_and, Bool.and_false, Bool.false_and, Bool.or_true, Bool.true_or, Bool.or_false, Bool.false_or, ld1_get hA1, hc, k3.row.lnSl, Int.lt_irrefl])), k2⟩
theorem spoil2 (D : Dyn) (n : Nat) {H : AH} (hk : H.ok) {kv : AV} {N : Nat} {l : List AV} (h : Own 3 59 H kv N l) {A : Nat} {c : List AV} {e : TypeId} (hA : H.h.get A = some (.cells c e 1 false)) (hc : c[3]? = some kv) (hb : ¬ Blk kv A) (hN : N ≤ 1000000000) (x y : AV) (n' : Nat) (hn : N < n') :
    ∃ H', loopK n' (f17l2 D n) [.ptr A 0, x, y, .int .i64 (0 : Nat)] H = some (.exit 4 [x, y], H') ∧ Stp (Blk kv) H H' := by
  have hbd : bldS [(0, 1), (1, 1), (2, 1)] [.int .i64 ((0 : Nat) : Int), .int .i64 ((0 : Nat) : Int), .int .u64 ((0 : Nat) : Int)] [(0, .int .i64 (Int.negSucc 0))] = some (.agg [.int .i64 (Int.negSucc 0), .int .i64 ((0 : Nat) : Int), .int .u64 ((0 : Nat) : Int)]) := rfl
  obtain ⟨m, us, H', k1, rfl, k2, l', k3⟩ := loop_inv (b := f17l2 D n) N (fun i us H' => us = [.ptr A 0, x, y, .int .i64 (i : Nat)] ∧ Stp (Blk kv) H H' ∧ ∃ l, Own 3 59 H' kv N l) (fun i us H1 hi ⟨hus, hs, l, hl⟩ => by
    subst hus
    obtain ⟨p, H2, l', p1, p2, p3, p4⟩ := Own.st hl hs.ok (by decide) hi (x := .agg [.int .i64 (Int.negSucc 0), .int .i64 ((0 : Nat) : Int), .int .u64 ((0 : Nat) : Int)]) rfl rfl
    have hA1 : H1.h.get A = some (.cells c e 1 false) := (hs.keep A (hk.lt hA) hb).trans hA
    have hiI : ((i : Nat) : Int) < ((N : Nat) : Int) := by omega
    refine ⟨_, H2, ?_, rfl, hs.trans p4, l', p3⟩
    simp (disch := omega) only [f17l2, ev, lg, wnt_undef, if_true, if_false, decide_true, decide_false, Bool.not_true, Bool.not_false, Bool.false_eq_true, Bool.true_eq_false, Bool.and_true, Bool.true_and, Bool.and_false, Bool.false_and, Bool.or_true, Bool.true_or, Bool.or_false, Bool.false_or, ld1_get hA1, hc, hl.row.lnSl, hiI, hbd, p1, p2, Int.natCast_add]) n' _ H ⟨rfl, Stp.refl hk, l, h⟩ hn
  have hA1 : H'.h.get A = some (.cells c e 1 false) := (k2.keep A (hk.lt hA) hb).trans hA
  exact ⟨H', k1.trans (loop_exit (by simp only [f17l2, ev, lg, wnt_undef, if_true, if_false, decide_true, decide_false, Bool.not_true, Bool.not_false, Bool.false_eq_true, Bool.true_eq_false, Bool.and_true, Bool.true_and, Bool.and_false, Bool.false_and, Bool.or_true, Bool.true_or, Bool.or_false, Bool.false_or, ld1_get hA1, hc, k3.row.lnSl, Int.lt_irrefl])), k2⟩
theorem back_ok (D : Dyn) (n : Nat) (hn : 200000000 ≤ n) {H00 H : AH} (hk : H.ok) (h00 : H00.next ≤ H.next) (hkeep : Prs H00 H) {v : AV} {nd : Nd.Node} (h : NodeO H00 H v nd) (hs : small nd) :
    ∃ v' H', f17 D n [v] H = some (v', H') ∧ Prs H00 H' ∧ NodeV H' v' nd := by
  obtain ⟨ks, vs, ps, rfl, o1, o2, o3, ob, d1, d2⟩ := h
  have h1 : Strs H ks nd.keys := o1.row
  have h2 : Strs H vs nd.vals := o2.row
  have h3 : Ptrs H ps nd.kids := o3.row
  have l1 : ∀ B, Blk ks B → B < H.next := fun B hB => Own.lt o1 hB
  have l2 : ∀ B, Blk vs B → B < H.next := fun B hB => Own.lt o2 hB
  have l3 : ∀ B, Blk ps B → B < H.next := fun B hB => Own.lt o3 hB
  have p1 : Prs H (H.push (.cells [.bool nd.leaf, ks, vs, ps] 34 1 false)) := (Stp.refl hk).push _
  have g1 : (H.push (.cells [.bool nd.leaf, ks, vs, ps] 34 1 false)).h.get H.next = some (.cells [.bool nd.leaf, ks, vs, ps] 34 1 false) := AH.push_get_eq _ _
  have n1 : (H.push (.cells [.bool nd.leaf, ks, vs, ps] 34 1 false)).next = H.next + 1 := rfl
  generalize hH1 : H.push (.cells [.bool nd.leaf, ks, vs, ps] 34 1 false) = H1 at p1 g1 n1
  have p2 : Prs H1 (H1.push (.cells [.bool false, .nilSlice, .nilSlice, .nilSlice] 28 1 false)) := (Stp.refl p1.ok).push _
  have g2 : (H1.push (.cells [.bool false, .nilSlice, .nilSlice, .nilSlice] 28 1 false)).h.get H1.next = some (.cells [.bool false, .nilSlice, .nilSlice, .nilSlice] 28 1 false) := AH.push_get_eq _ _
  have n2 : (H1.push (.cells [.bool false, .nilSlice, .nilSlice, .nilSlice] 28 1 false)).next = H1.next + 1 := rfl
  have g12 := p2.get p1.ok g1
  generalize hH2 : H1.push (.cells [.bool false, .nilSlice, .nilSlice, .nilSlice] 28 1 false) = H2 at p2 g2 n2 g12
  have p3 : Prs H2 (H2.push (.cells [] 9 1 false)) := (Stp.refl p2.ok).push _
  have g3 : (H2.push (.cells [] 9 1 false)).h.get H2.next = some (.cells [] 9 1 false) := AH.push_get_eq _ _
  have n3 : (H2.push (.cells [] 9 1 false)).next = H2.next + 1 := rfl
  have g13 := p3.get p2.ok g12
  have g23 := p3.get p2.ok g2
  generalize hH3 : H2.push (.cells [] 9 1 false) = H3 at p3 g3 n3 g13 g23
  have p4 : Prs H3 (H3.push (.cells [] 9 1 false)) := (Stp.refl p3.ok).push _
  have g4 : (H3.push (.cells [] 9 1 false)).h.get H3.next = some (.cells [] 9 1 false) := AH.push_get_eq _ _
  have n4 : (H3.push (.cells [] 9 1 false)).next = H3.next + 1 := rfl
  have g14 := p4.get p3.ok g13
  have g24 := p4.get p3.ok g23
  have g34 := p4.get p3.ok g3
  generalize hH4 : H3.push (.cells [] 9 1 false) = H4 at p4 g4 n4 g14 g24 g34
  have p5 : Prs H4 (H4.push (.cells [] 59 3 false)) := (Stp.refl p4.ok).push _
  have g5 : (H4.push (.cells [] 59 3 false)).h.get H4.next = some (.cells [] 59 3 false) := AH.push_get_eq _ _
  have n5 : (H4.push (.cells [] 59 3 false)).next = H4.next + 1 := rfl
  have g15 := p5.get p4.ok g14
  have g25 := p5.get p4.ok g24
  have g35 := p5.get p4.ok g34
  have g45 := p5.get p4.ok g4
  generalize hH5 : H4.push (.cells [] 59 3 false) = H5 at p5 g5 n5 g15 g25 g35 g45
  have p6 : Prs H5 (H5.push (.cells [.bool false, .nilSlice, .nilSlice, .nilSlice] 28 1 false)) := (Stp.refl p5.ok).push _
  have g6 : (H5.push (.cells [.bool false, .nilSlice, .nilSlice, .nilSlice] 28 1 false)).h.get H5.next = some (.cells [.bool false, .nilSlice, .nilSlice, .nilSlice] 28 1 false) := AH.push_get_eq _ _
  have n6 : (H5.push (.cells [.bool false, .nilSlice, .nilSlice, .nilSlice] 28 1 false)).next = H5.next + 1 := rfl
  have g16 := p6.get p5.ok g15
  have g26 := p6.get p5.ok g25
  have g36 := p6.get p5.ok g35
  have g46 := p6.get p5.ok g45
  have g56 := p6.get p5.ok g5
  generalize hH6 : H5.push (.cells [.bool false, .nilSlice, .nilSlice, .nilSlice] 28 1 false) = H6 at p6 g6 n6 g16 g26 g36 g46 g56
  have P6 : Prs H H6 := ((((p1.trans p2).trans p3).trans p4).trans p5).trans p6
  obtain ⟨k', v', p', H7, H8, H9, a7, a8, a9, t7, t8, t9, r1, r2, r3, fb⟩ := copy3 P6.ok (h1.prs P6) (h2.prs P6) (h3.prs P6) hs g36 g46 g56 (by omega) (by omega) (by omega) (N := H2.next) (fun B hB => by have := l1 B hB; omega) (fun B hB => by have := l2 B hB; omega) (fun B hB => by have := l3 B hB; omega) (by omega) (by omega) (by omega)
  have m7 := t7.next
  have m8 := t8.next
  have m9 := t9.next
  have k17 : H7.h.get H.next = some (.cells [.bool nd.leaf, ks, vs, ps] 34 1 false) := (t7.keep _ (by omega) (by omega)).trans g16
  have k18 : H8.h.get H.next = some (.cells [.bool nd.leaf, ks, vs, ps] 34 1 false) := (t8.keep _ (by omega) (by omega)).trans k17
  have k19 : H9.h.get H.next = some (.cells [.bool nd.leaf, ks, vs, ps] 34 1 false) := (t9.keep _ (by omega) (by omega)).trans k18
  have T9 : Stp (fun B => H2.next ≤ B ∧ (B = H2.next ∨ B = H3.next ∨ B = H4.next)) H6 H9 := ((t7.mono (fun B _ hB => ⟨hB.1, .inl hB.2⟩)).trans (t8.mono (fun B _ hB => ⟨hB.1, .inr (.inl hB.2)⟩))).trans (t9.mono (fun B _ hB => ⟨hB.1, .inr (.inr hB.2)⟩))
  have k29 : H9.h.get H1.next = some (.cells [.bool false, .nilSlice, .nilSlice, .nilSlice] 28 1 false) := (T9.keep _ (by omega) (by omega)).trans g26
  have k69 : H9.h.get H5.next = some (.cells [.bool false, .nilSlice, .nilSlice, .nilSlice] 28 1 false) := (T9.keep _ (by omega) (by omega)).trans g6
  have P9 : Prs H H9 := P6.fresh T9 (fun B hB => by omega)
  -- x3
  obtain ⟨Ha, ea, ga, sa, na⟩ := st_all t9.ok k69 (l' := [.bool nd.leaf, k', v', p']) rfl (allCells4 _ _ _ _ r1.isCell r2.isCell r3.isCell)
  have ea' : stN 4 (.ptr H5.next 0) (.agg [.bool nd.leaf, k', v', p']) H9 = some (undefA, Ha) := ea
  have Pa : Prs H Ha := P9.fresh sa (fun B hB => by omega)
  have k1a : Ha.h.get H.next = some (.cells [.bool nd.leaf, ks, vs, ps] 34 1 false) := (sa.keep _ (by omega) (by omega)).trans k19
  have k2a : Ha.h.get H1.next = some (.cells [.bool false, .nilSlice, .nilSlice, .nilSlice] 28 1 false) := (sa.keep _ (by omega) (by omega)).trans k29
  -- the old rows are written over
  have nxt := Pa.next
  obtain ⟨s1, s2, s3⟩ := hs
  have hkl := Nd.sumL_ge nd.keys
  have hvl := Nd.sumL_ge nd.vals
  have W : ∀ {Hx Hy : AH} {w : AV}, Stp (fun B => H00.next ≤ B ∧ B < H.next) Ha Hx → (∀ B, Blk w B → H00.next ≤ B ∧ B < H.next) → Stp (Blk w) Hx Hy → Stp (fun B => H00.next ≤ B ∧ B < H.next) Ha Hy := fun hx hw hy => hx.trans (hy.mono (fun B _ hB => hw B hB))
  have W0 : Stp (fun B => H00.next ≤ B ∧ B < H.next) Ha Ha := Stp.refl Pa.ok
  have bk1 : ∀ B, Blk ks B → H00.next ≤ B ∧ B < H.next := fun B hB => ⟨ob B (.inl hB), l1 B hB⟩
  have bk2 : ∀ B, Blk vs B → H00.next ≤ B ∧ B < H.next := fun B hB => ⟨ob B (.inr (.inl hB)), l2 B hB⟩
  have bk3 : ∀ B, Blk ps B → H00.next ≤ B ∧ B < H.next := fun B hB => ⟨ob B (.inr (.inr hB)), l3 B hB⟩
  obtain ⟨Hb, eb, sb⟩ := spoil0 D n Pa.ok (o1.mono Pa (fun _ _ x => x)) k1a rfl (fun hB => by have := l1 _ hB; omega) (by omega) (.ptr H1.next 0) (.ptr H5.next 0) n (by omega)
  have Wb := W W0 bk1 sb
  have k1b : Hb.h.get H.next = some (.cells [.bool nd.leaf, ks, vs, ps] 34 1 false) := (Wb.keep _ (by omega) (by omega)).trans k1a
  have o2b : Own 1 9 Hb vs nd.vals.length (nd.vals.map S) := (o2.mono Pa (fun _ _ x => x)).mono sb (fun B hB hh => (d1 B hh).1 hB)
  have o3b : Own 3 59 Hb ps nd.kids.length (nd.kids.flatMap ptrV) := (o3.mono Pa (fun _ _ x => x)).mono sb (fun B hB hh => (d1 B hh).2 hB)
  obtain ⟨Hc, ec, sc⟩ := spoil1 D n Wb.ok o2b k1b rfl (fun hB => by have := l2 _ hB; omega) (by omega) (.ptr H1.next 0) (.ptr H5.next 0) n (by omega)
  have Wc := W Wb bk2 sc
  have nb := Wb.next
  have nc := Wc.next
  have k1c : Hc.h.get H.next = some (.cells [.bool nd.leaf, ks, vs, ps] 34 1 false) := (Wc.keep _ (by omega) (by omega)).trans k1a
  have o3c : Own 3 59 Hc ps nd.kids.length (nd.kids.flatMap ptrV) := o3b.mono sc (fun B hB hh => d2 B hh hB)
  obtain ⟨Hd, ed, sd⟩ := spoil2 D n Wc.ok o3c k1c rfl (fun hB => by have := l3 _ hB; omega) (by omega) (.ptr H1.next 0) (.ptr H5.next 0) n (by omega)
  have Wd := W Wc bk3 sd
  have nd' := Wd.next
  have k6d : Hd.h.get H5.next = some (.cells [.bool nd.leaf, k', v', p'] 28 1 false) := (Wd.keep _ (by omega) (by omega)).trans ga
  have k2d : Hd.h.get H1.next = some (.cells [.bool false, .nilSlice, .nilSlice, .nilSlice] 28 1 false) := (Wd.keep _ (by omega) (by omega)).trans k2a
  obtain ⟨He, ee, ge, se, ne⟩ := st_all Wd.ok k2d (l' := [.bool nd.leaf, k', v', p']) rfl (allCells4 _ _ _ _ r1.isCell r2.isCell r3.isCell)
  have ee' : stN 4 (.ptr H1.next 0) (.agg [.bool nd.leaf, k', v', p']) Hd = some (undefA, He) := ee
  have hz1 : bldL 9 1 0 [.str 0 0] [] = some (.cells [] 9 1 false, fun A => .slice A 0 0 0) := rfl
  have hz2 : ∀ a b c : AV, bldL 59 3 0 [a, b, c] [] = some (.cells [] 59 3 false, fun A => .slice A 0 0 0) := fun _ _ _ => rfl
  have q1 : ∀ B, Blk k' B ∨ Blk v' B ∨ Blk p' B → ¬ B = H5.next := fun B hB => by have := fb B hB; omega
  have q2 : ∀ B, Blk k' B ∨ Blk v' B ∨ Blk p' B → ¬ (H00.next ≤ B ∧ B < H.next) := fun B hB => by have := fb B hB; omega
  have q3 : ∀ B, Blk k' B ∨ Blk v' B ∨ Blk p' B → ¬ B = H1.next := fun B hB => by have := fb B hB; omega
  have keepR : ∀ {j m : Nat} {w : AV} {l : List AV}, Rw j H9 w m l → (∀ B, Blk w B → Blk k' B ∨ Blk v' B ∨ Blk p' B) → Rw j He w m l := fun hr hw =>
    Rw.stp (Rw.stp (Rw.stp hr sa (fun B hB => q1 B (hw B hB))) Wd (fun B hB => q2 B (hw B hB))) se (fun B hB => q3 B (hw B hB))
  refine ⟨.agg [.bool nd.leaf, k', v', p'], He, ?_, ?_, ⟨k', v', p', rfl, keepR r1 (fun B hB => .inl hB), keepR r2 (fun B hB => .inr (.inl hB)), keepR r3 (fun B hB => .inr (.inr hB))⟩⟩
  · simp only [f17, ev, lg, wnt_undef, if_true, if_false, decide_true, decide_false, Bool.not_true, Bool.not_false, Bool.false_eq_true, Bool.true_eq_false, Bool.and_true, Bool.true_and, Bool.and_false, Bool.false_and, Bool.or_true, Bool.true_or, Bool.or_false, Bool.false_or, bA_ok hk, hH1, bA_ok p1.ok, hH2, ld1_get g12, ld1_get g13, ld1_get g14, ld1_get g15, hz1, hz2, bA_ok p2.ok, hH3, bA_ok p3.ok, hH4, bA_ok p4.ok, hH5, bA_ok p5.ok, hH6, a7,
      chk_ok (ld1_get k17 0) (aveq_bool _), chk_ok (ld1_get k17 2) (aveq_row h2), chk_ok (ld1_get k17 3) (aveq_row h3), a8, chk_ok (ld1_get k18 0) (aveq_bool _), chk_ok (ld1_get k18 3) (aveq_row h3), a9, chk_ok (ld1_get k19 0) (aveq_bool _),
      bldN _ _ _ _ r1.isCell r2.isCell r3.isCell, ea', eb, f17b5, ec, f17b4, ed, f17b3, ldN_get k6d, sub4, Option.map_some, ee', ldN_get ge]
  · have W2 := (hkeep.trans Pa).fresh Wd (fun B hB => hB.1)
    exact W2.fresh se (fun B hB => by omega)
end Go.Eng.Sh
end
section
namespace Go.Eng.Sh
open Go.Nd (Ptr sumL)
theorem z_ok (D : Dyn) (n : Nat) (H : AH) : z11 D n [] H = some (.bool true, H) := rfl
theorem encR_may {nd : Nd.Node} (h : Nd.may ltS nd = true) : encR nd = (Nd.encN nd, 0) := by
  simp only [Nd.may, Bool.and_eq_true, decide_eq_true_eq] at h
  simp only [encR, h.1, if_true, if_pos h.2]
theorem encR_no {nd : Nd.Node} (h : Nd.may ltS nd = false) : ¬ (encR nd).2 = 0 := by
  simp only [Nd.may, Bool.and_eq_false_iff, decide_eq_false_iff_not] at h
  simp only [encR]
  split
  · rename_i hs
    split
    · rename_i hz
      rcases h with h | h
      · rw [h] at hs; cases hs
      · exact absurd hz h
    · simp
  · simp
theorem may_small {nd : Nd.Node} (h : Nd.may ltS nd = true) : small nd := by
  simp only [Nd.may, Bool.and_eq_true, decide_eq_true_eq] at h
  have h2 := h.2
  simp only [Nd.size] at h2
  exact ⟨by omega, by omega, by omega⟩
/-- The second half: any text that is read is written as it was. -/
theorem back2 (m n : Nat) (hm : 100 ≤ m) (hn : 200000000 ≤ n) {H : AH} (hk : H.ok) (leaf : Bool) (s : Str) :
    ∃ H', outR (f4zj0 (dy (m + 1)) n [.bool leaf, S s] H) = some (.bool true, H') ∧ Prs H H' := by
  obtain ⟨w, H1, e1, p1, hw, l, rfl, hl, hlc⟩ := decode_ok m n hn hk leaf s
  have p2 : Prs H1 (H1.push (.cells [.bool false, .nilSlice, .nilSlice, .nilSlice] 34 1 false)) := (Stp.refl p1.ok).push _
  have g2 : (H1.push (.cells [.bool false, .nilSlice, .nilSlice, .nilSlice] 34 1 false)).h.get H1.next = some (.cells [.bool false, .nilSlice, .nilSlice, .nilSlice] 34 1 false) := AH.push_get_eq _ _
  generalize hH2 : H1.push (.cells [.bool false, .nilSlice, .nilSlice, .nilSlice] 34 1 false) = H2 at p2 g2
  obtain ⟨H3, e3, g3, s3, n3⟩ := st_all p2.ok g2 (l' := l) hl hlc
  have e3' : stN 4 (.ptr H1.next 0) (.agg l) H2 = some (undefA, H3) := e3
  have P3 : Prs H H3 := p1.trans (p2.fresh s3 (fun B hB => by omega))
  cases hd : Nd.decN ltS leaf s with
  | none =>
    have hne : (((4 : Nat) : Int) ≠ ((0 : Nat) : Int)) := by omega
    rw [hd] at e1
    simp only [Option.isSome_none, Bool.false_eq_true, if_false] at e1
    refine ⟨H3, ?_, P3⟩
    simp only [f4zj0, ev, lg, wnt_undef, if_true, if_false, decide_true, decide_false, Bool.not_true, Bool.not_false, Bool.false_eq_true, Bool.true_eq_false, Bool.and_true, Bool.true_and, Bool.and_false, Bool.false_and, Bool.or_true, Bool.true_or, Bool.or_false, Bool.false_or, e1, pExtract, nth, bA_ok p1.ok, hH2, e3', hne, ne_eq, not_false_eq_true]
  | some nd =>
    obtain ⟨q1, q2, q3, q4⟩ := Nd.encN_decN hd
    have hO := hw nd hd
    have hV := hO.node
    obtain ⟨ks, vs, ps, hag, r1, r2, r3⟩ := hV
    simp only [AV.agg.injEq] at hag
    subst hag
    have hlk := hO
    obtain ⟨ks', vs', ps', hag', o1, o2, o3, ob, _⟩ := hO
    simp only [AV.agg.injEq, List.cons.injEq, and_true, true_and] at hag'
    obtain ⟨rfl, rfl, rfl⟩ := hag'
    have nb : ∀ B, Blk ks B ∨ Blk vs B ∨ Blk ps B → ¬ B = H1.next := fun B hB => by
      rcases hB with h | h | h
      · have := Own.lt o1 h; omega
      · have := Own.lt o2 h; omega
      · have := Own.lt o3 h; omega
    have hN : NodeV H3 (.agg [.bool nd.leaf, ks, vs, ps]) nd := ⟨ks, vs, ps, rfl, Rw.stp (Rw.prs r1 p2) s3 (fun B hB => nb B (.inl hB)), Rw.stp (Rw.prs r2 p2) s3 (fun B hB => nb B (.inr (.inl hB))), Rw.stp (Rw.prs r3 p2) s3 (fun B hB => nb B (.inr (.inr hB)))⟩
    obtain ⟨H4, e4, p4⟩ := encode_ok m n hm hn P3.ok hN (may_small q1) q4
    rw [encR_may q1, q2] at e4
    have g4 := p4.get P3.ok g3
    have h00 : ¬ (((0 : Nat) : Int) ≠ ((0 : Nat) : Int)) := by omega
    have hll : (nd.leaf == leaf) = true := by rw [q3]; simp
    rw [hd] at e1
    simp only [Option.isSome_some, if_true] at e1
    refine ⟨H4, ?_, P3.trans p4⟩
    simp only [f4zj0, ev, lg, wnt_undef, if_true, if_false, decide_true, decide_false, Bool.not_true, Bool.not_false, Bool.false_eq_true, Bool.true_eq_false, Bool.and_true, Bool.true_and, Bool.and_false, Bool.false_and, Bool.or_true, Bool.true_or, Bool.or_false, Bool.false_or, e1, pExtract, nth, bA_ok p1.ok, hH2, e3', h00, ldN_get g3, sub4, Option.map_some, e4, ld1_get g4, hll]
theorem nodeBack_walk (m n : Nat) (hm : 100 ≤ m) (hn : 200000000 ≤ n) {H : AH} (hk : H.ok) {v : AV} {nd : Nd.Node} (h : NodeV H v nd) (hsum : ∀ p ∈ nd.kids, Nd.sumOk p) (leaf : Bool) (s : Str) :
    ∃ H', f4z (dy (m + 1)) n [v, .bool leaf, S s] H = some (.bool true, H') ∧ Prs H H' := by
  have h0 := h
  obtain ⟨ks, vs, ps, rfl, h1, h2, h3⟩ := h
  have p1 : Prs H (H.push (.cells [.bool nd.leaf, ks, vs, ps] 28 1 false)) := (Stp.refl hk).push _
  have g1 : (H.push (.cells [.bool nd.leaf, ks, vs, ps] 28 1 false)).h.get H.next = some (.cells [.bool nd.leaf, ks, vs, ps] 28 1 false) := AH.push_get_eq _ _
  generalize hH1 : H.push (.cells [.bool nd.leaf, ks, vs, ps] 28 1 false) = H1 at p1 g1
  obtain ⟨b, H2, e2, p2, hb⟩ := long_ok (dy (m + 1)) n (by omega) p1.ok (h0.prs p1)
  cases b with
  | true =>
    refine ⟨H2, ?_, p1.trans p2⟩
    simp only [f4z, ev, lg, wnt_undef, if_true, if_false, decide_true, decide_false, Bool.not_true, Bool.not_false, Bool.false_eq_true, Bool.true_eq_false, Bool.and_true, Bool.true_and, Bool.and_false, Bool.false_and, Bool.or_true, Bool.true_or, Bool.or_false, Bool.false_or, bA_ok hk, hH1, ldN_get g1, sub4, Option.map_some, e2, z_ok]
  | false =>
    have hs := hb rfl
    by_cases hl : 2000 < s.length
    · have hlI : ((2000 : Nat) : Int) < ((s.length : Nat) : Int) := by omega
      refine ⟨H2, ?_, p1.trans p2⟩
      simp only [f4z, ev, lg, wnt_undef, if_true, if_false, decide_true, decide_false, Bool.not_true, Bool.not_false, Bool.false_eq_true, Bool.true_eq_false, Bool.and_true, Bool.true_and, Bool.and_false, Bool.false_and, Bool.or_true, Bool.true_or, Bool.or_false, Bool.false_or, bA_ok hk, hH1, ldN_get g1, sub4, Option.map_some, e2, z_ok, hlI]
    · have hlI : ¬ ((2000 : Nat) : Int) < ((s.length : Nat) : Int) := by omega
      have P2 : Prs H H2 := p1.trans p2
      have g2 := p2.get p1.ok g1
      obtain ⟨v3, H3, e3, p3, w3⟩ := given_ok (dy (m + 1)) n P2.ok (h0.prs P2) hs
      obtain ⟨H4, e4, p4⟩ := encode_ok m n hm hn p3.ok w3 hs hsum
      have P4 : Prs H H4 := (P2.trans p3).trans p4
      have g4 := p4.get p3.ok (p3.get p2.ok g2)
      obtain ⟨v5, H5, e5, p5, w5⟩ := given_ok (dy (m + 1)) n P4.ok (h0.prs P4) hs
      obtain ⟨H6, e6, p6⟩ := mayN_ok (dy (m + 1)) n p5.ok w5 hs hn
      have P6 : Prs H H6 := (P4.trans p5).trans p6
      have g6 := p6.get p5.ok (p5.get p4.ok g4)
      cases hmay : Nd.may ltS nd with
      | false =>
        have hne : ¬ (((encR nd).2 : Nat) : Int) = ((0 : Nat) : Int) := by have := encR_no hmay; omega
        obtain ⟨H7, e7, p7⟩ := back2 m n hm hn P6.ok leaf s
        refine ⟨H7, ?_, P6.trans p7⟩
        rw [hmay] at e6
        simp only [f4z, ev, lg, wnt_undef, if_true, if_false, decide_true, decide_false, Bool.not_true, Bool.not_false, Bool.false_eq_true, Bool.true_eq_false, Bool.and_true, Bool.true_and, Bool.and_false, Bool.false_and, Bool.or_true, Bool.true_or, Bool.or_false, Bool.false_or, bA_ok hk, hH1, ldN_get g1, sub4, Option.map_some, e2, z_ok, hlI, ldN_get g2, e3, e4, pExtract, nth, ldN_get g4, e5, e6, hne, beq_self_eq_true]
        exact e7
      | true =>
        rw [encR_may hmay] at e4
        rw [hmay] at e6
        have hdec := Nd.decN_encN hmay hsum
        obtain ⟨w, H7, e7, p7, hw, l, rfl, hll, hlc⟩ := decode_ok m n hn P6.ok nd.leaf (Nd.encN nd)
        rw [hdec] at e7
        simp only [Option.isSome_some, if_true] at e7
        have hO := hw nd hdec
        have q8 : Prs H7 (H7.push (.cells [.bool false, .nilSlice, .nilSlice, .nilSlice] 34 1 false)) := (Stp.refl p7.ok).push _
        have g8 : (H7.push (.cells [.bool false, .nilSlice, .nilSlice, .nilSlice] 34 1 false)).h.get H7.next = some (.cells [.bool false, .nilSlice, .nilSlice, .nilSlice] 34 1 false) := AH.push_get_eq _ _
        generalize hH8 : H7.push (.cells [.bool false, .nilSlice, .nilSlice, .nilSlice] 34 1 false) = H8 at q8 g8
        obtain ⟨H9, e9, g9, s9, n9⟩ := st_all q8.ok g8 (l' := l) hll hlc
        have e9' : stN 4 (.ptr H7.next 0) (.agg l) H8 = some (undefA, H9) := e9
        have P9 : Prs H7 H9 := q8.fresh s9 (fun B hB => by omega)
        have P69 : Prs H6 H9 := p7.trans P9
        have hO9 : NodeO H6 H9 (.agg l) nd := by
          obtain ⟨ks', vs', ps', ha, o1, o2, o3, ob⟩ := hO
          exact ⟨ks', vs', ps', ha, o1.mono P9 (fun _ _ x => x), o2.mono P9 (fun _ _ x => x), o3.mono P9 (fun _ _ x => x), ob⟩
        have hln : l = l := rfl
        obtain ⟨v10, H10, e10, p10, w10⟩ := back_ok (dy (m + 1)) n hn P69.ok P69.next P69 hO9 hs
        have P10 : Prs H H10 := P6.trans p10
        have g10 := p10.get P6.ok g6
        obtain ⟨H11, e11, p11⟩ := same_ok (dy (m + 1)) n hn p10.ok w10 (h0.prs P10) hs
        have P11 : Prs H H11 := P10.trans p11
        have g11 := p11.get p10.ok g10
        obtain ⟨v12, H12, e12, p12, w12⟩ := given_ok (dy (m + 1)) n P11.ok (h0.prs P11) hs
        obtain ⟨z, H13, e13, rfl, p13⟩ := size_ok (dy (m + 1)) n p12.ok w12 hs hn
        have P13 : Prs H H13 := (P11.trans p12).trans p13
        obtain ⟨H14, e14, p14⟩ := back2 m n hm hn P13.ok leaf s
        have hlen : (((Nd.encN nd).length : Nat) : Int) = ((Nd.size nd : Nat) : Int) := by
          rw [Nd.encN_length (lt := ltS)]
          simp only [Nd.may, Bool.and_eq_true] at hmay; exact hmay.1
        have g9l : subN l 0 4 = some l := by rw [subN_some _ _ _ (.inr (by omega)), List.drop_zero, List.take_of_length_le (by omega)]
        have g69 := P69.get P6.ok g6
        have hav : aveq (.agg [.bool nd.leaf, ks, vs, ps]) (.agg [.bool nd.leaf, ks, vs, ps]) = true := by
          simp only [aveq, aveqL, aveq_row h1, aveq_row h2, aveq_row h3, Bool.and_self, beq_self_eq_true]
        refine ⟨H14, ?_, P13.trans p14⟩
        simp only [f4z, ev, lg, wnt_undef, if_true, if_false, decide_true, decide_false, Bool.not_true, Bool.not_false, Bool.false_eq_true, Bool.true_eq_false, Bool.and_true, Bool.true_and, Bool.and_false, Bool.false_and, Bool.or_true, Bool.true_or, Bool.or_false, Bool.false_or, bA_ok hk, hH1, ldN_get g1, sub4, Option.map_some, e2, z_ok, hlI, ldN_get g2, e3, e4, pExtract, nth, ldN_get g4, e5, e6, beq_self_eq_true,
          ld1_get g6, e7, bA_ok p7.ok, hH8, e9', ne_eq, not_true_eq_false, ldN_get g9, g9l, ldN_get g69, e10, chk_ok (show ldN 4 (.ptr H.next 0) H10 = some (.agg [.bool nd.leaf, ks, vs, ps]) by rw [ldN_get g10]; rfl) hav, e11, ldN_get g11, e12, e13, hlen]
        exact e14
end Go.Eng.Sh
end
section
namespace Go.Eng.Sh
open Go.Nd (Ptr)
open Go.Proofs
theorem cells_at {w : World} {base n : Nat} {a : Addr} {cs : List Value} (h : w.cells? base a n = some cs) (hn : 0 < n) : a.spot = none ∧ ∃ arr e fz, w.heap[a.block]? = some (.cells arr e fz) ∧ ∀ j, j < n → arr[a.off + j]? = cs[j]? := by
  obtain ⟨_, hl, hc⟩ := World.cells?_some h
  have h0 := hc 0 hn
  rw [List.getElem?_eq_getElem (by omega)] at h0
  obtain ⟨c1, arr, te, fz, hg, _⟩ := cell_some h0
  have hsp : a.spot = none := by simpa [Addr.add] using c1
  obtain ⟨b, o, sp⟩ := a
  simp only at hsp; subst hsp
  have hb : (Addr.add ⟨b, o, none⟩ 0).block = b := by simp [Addr.add]
  rw [hb] at hg
  refine ⟨rfl, arr, te, fz, hg, fun j hj => ?_⟩
  have hj' := hc j hj
  rw [List.getElem?_eq_getElem (by omega)] at hj' ⊢
  obtain ⟨_, arr', te', fz', hg', hv⟩ := cell_some hj'
  rw [add_none] at hg' hv
  simp only at hg' hv
  rw [hg] at hg'
  simp only [Option.some.injEq, Obj.cells.injEq] at hg'
  rw [← hg'.1] at hv; exact hv
theorem cellsOf59 : Try.prog.cellsOf 59 = 3 := by kernel_rfl
theorem cellsOf3 : Try.prog.cellsOf 3 = 1 := by kernel_rfl
theorem cellsOf22 : Try.prog.cellsOf 22 = 1 := by kernel_rfl
theorem cellsOf9 : Try.prog.cellsOf 9 = 1 := by kernel_rfl
theorem cellsOf28 : Try.prog.cellsOf 28 = 4 := by kernel_rfl
theorem cellsOf4 : Try.prog.cellsOf 4 = 1 := by kernel_rfl
theorem cellsOf25 : Try.prog.cellsOf 25 = 1 := by kernel_rfl
theorem cellsOf26 : Try.prog.cellsOf 26 = 1 := by kernel_rfl
theorem ptr_cells {H : Type} {enc : TypeId × Value → H} {w : World} {base : Nat} {sp : Nat → Bool} {held : Bool} {fuel : Nat} {cs : List Value} {x : DataW H × List MemPlace} (h : DataW.trod enc Try.prog w base sp held fuel 59 cs = some x) :
    ∃ p : Ptr, cs = [.int .i64 p.at_, .int .i64 p.birth, .int .u64 p.sum] ∧ Nd.sumOk p := by
  obtain ⟨y0, y1, y2, n, _, hl, h0, h1, h2⟩ := Deep.trod_struct3 Try.underlying59 h
  simp only [cellsOf3, cellsOf22] at h0 h1 h2
  obtain ⟨a, ha, _⟩ := DataW.trod_int Try.underlying3 h0
  obtain ⟨b, hb, _⟩ := DataW.trod_int Try.underlying3 h1
  obtain ⟨c, hc, _, hw⟩ := DataW.trod_int Try.underlying22 h2
  rw [cellsOf59] at hl
  match cs, hl with
  | [u, v, z], _ =>
    simp at ha hb hc
    subst ha; subst hb; subst hc
    refine ⟨⟨a, b, c⟩, rfl, ?_⟩
    simp only [Lit.wf, IntKind.min, IntKind.max, IntKind.signed, IntKind.bits, Bool.and_eq_true, decide_eq_true_eq] at hw
    simp only [Nd.sumOk]
    simp at hw
    omega
theorem flat_get : ∀ (ps : List Ptr) (i j : Nat), i < ps.length → j < 3 → (ps.flatMap ptrV)[i * 3 + j]? = (ptrV (ps.getD i pz))[j]?
  | [], i, j, h, _ => by simp at h
  | p :: ps, 0, j, _, hj => by
    simp only [List.flatMap_cons, Nat.zero_mul, Nat.zero_add]
    rw [List.getElem?_append_left (by exact hj)]; rfl
  | p :: ps, i + 1, j, h, hj => by
    have ih := flat_get ps i j (by simpa using h) hj
    simp only [List.flatMap_cons]
    rw [List.getElem?_append_right (by show 3 ≤ _; omega)]
    have : (i + 1) * 3 + j - (ptrV p).length = i * 3 + j := by show (i + 1) * 3 + j - 3 = _; omega
    rw [this, ih]; rfl
theorem flat_len : ∀ ps : List Ptr, (ps.flatMap ptrV).length = ps.length * 3
  | [] => rfl
  | p :: ps => by rw [List.flatMap_cons, List.length_append, flat_len ps, List.length_cons]; show 3 + _ = _; omega
theorem ptrs_arg {H : Type} {enc : TypeId × Value → H} {w : World} {base : Nat} {held : Bool} {fuel : Nat} {v : Value} {x : DataW H × List MemPlace} (h : DataW.trod enc Try.prog w base (fun _ => true) held fuel 26 [v] = some x) :
    ∃ l : List Ptr, Ptrs (H0 w) (argCell w.heap.size v) l ∧ ∀ p ∈ l, Nd.sumOk p := by
  rcases Deep.open_slice Try.underlying26 h with ⟨h1, _⟩ | ⟨a, len, cap, m, n, D, Pl, h1, _, hl, _, hm, _, hx⟩
  · simp only [List.cons.injEq, and_true] at h1; subst h1
    exact ⟨[], ⟨by simp, .inl ⟨rfl, rfl⟩⟩, by simp⟩
  · simp only [List.cons.injEq, and_true] at h1; subst h1
    simp only [if_true] at hm; subst hm
    by_cases h0 : m = 0
    · subst h0
      obtain rfl : len = 0 := by omega
      exact ⟨[], ⟨by simp, .inr (.inl ⟨rfl, rfl⟩)⟩, by simp⟩
    · simp only [cellsOf59] at hx
      have hp : ∀ i, i < m → ∃ p : Ptr, w.cells? base (a.add (i * 3)) 3 = some [.int .i64 p.at_, .int .i64 p.birth, .int .u64 p.sum] ∧ Nd.sumOk p := fun i hi => by
        obtain ⟨cs, k1, k2⟩ := hx i hi
        obtain ⟨p, rfl, hs⟩ := ptr_cells k2
        exact ⟨p, k1, hs⟩
      haveI : Inhabited Ptr := ⟨pz⟩
      obtain ⟨Px, hP⟩ := Deep.choose_lt hp
      obtain ⟨b, o, sp⟩ := a
      obtain ⟨c1, arr, te, fz, hg, hat0⟩ := cells_at (hP 0 (by omega)).1 (by omega)
      have hsp : sp = none := by simpa [Addr.add] using c1
      subst hsp
      rw [add_none] at hg
      simp only at hg
      have hat : ∀ i, i < m → ∀ j, j < 3 → arr[o + i * 3 + j]? = ([.int .i64 (Px i).at_, .int .i64 (Px i).birth, .int .u64 (Px i).sum] : List Value)[j]? := fun i hi j hj => by
        obtain ⟨_, arr', te', fz', hg', hv⟩ := cells_at (hP i hi).1 (by omega)
        rw [add_none] at hg' hv
        simp only at hg' hv
        rw [hg] at hg'
        simp only [Option.some.injEq, Obj.cells.injEq] at hg'
        rw [hg'.1]; exact hv j hj
      have hsz : o + m * 3 ≤ arr.size := by
        have h2 := hat (m - 1) (by omega) 2 (by omega)
        simp only [List.getElem?_cons_succ, List.getElem?_cons_zero] at h2
        have := (Array.getElem?_eq_some_iff.1 h2).1; omega
      rw [argSlice w (by omega) (heap_lt hg)]
      refine ⟨(List.range len).map Px, ⟨flat_len _, .inr (.inr ⟨b, o, 2 * m, _, te, 0, false, by simp, H0_cells w hg, heap_lt hg, by simp; omega, ?_⟩)⟩, ?_⟩
      · apply List.ext_getElem?
        intro q
        simp only [List.length_map, List.length_range]
        by_cases hq : q < len * 3
        · have hqi : q / 3 < len := by omega
          have hqj : q % 3 < 3 := Nat.mod_lt _ (by omega)
          have e1 : q = q / 3 * 3 + q % 3 := by omega
          rw [List.getElem?_take_of_lt hq, List.getElem?_drop, List.getElem?_map, Array.getElem?_toList]
          have h3 := hat (q / 3) (by omega) (q % 3) hqj
          rw [show o + q / 3 * 3 + q % 3 = o + q from by omega] at h3
          have h4 := flat_get ((List.range len).map Px) (q / 3) (q % 3) (by simpa using hqi) hqj
          rw [← e1] at h4
          rw [h3, h4, getD_lt (by simpa using hqi)]
          simp only [List.getElem_map, List.getElem_range]
          generalize q % 3 = r at hqj
          match r, hqj with
          | 0, _ => rfl
          | 1, _ => rfl
          | 2, _ => rfl
        · rw [List.getElem?_eq_none (by simp; omega), List.getElem?_eq_none (by rw [flat_len]; simp; omega)]
      · intro p hp
        obtain ⟨i, hi, rfl⟩ := List.mem_map.1 hp
        exact (hP i (by have := List.mem_range.1 hi; omega)).2
/-- The law's first argument: a node. -/
theorem node_arg {H : Type} {enc : TypeId × Value → H} {w : World} {base : Nat} {held : Bool} {v : Value} {d : DataW H} {ps : List MemPlace} (h : DataW.Trod enc Try.prog w base (fun _ => true) held 28 v d ps) :
    ∃ nd : Nd.Node, NodeV (H0 w) (argAV w.heap.size v) nd ∧ ∀ p ∈ nd.kids, Nd.sumOk p := by
  obtain ⟨fuel, hf⟩ := h
  obtain ⟨xs, n, _, _, hl, hlen, hx⟩ := DataW.trod_struct Try.underlying28 hf
  rw [cellsOf28] at hl
  have hv : ∃ c0 c1 c2 c3, v = .agg #[c0, c1, c2, c3] := by
    have hag : ∀ a : Array Value, a.toList.length = 4 → ∃ c0 c1 c2 c3, a = #[c0, c1, c2, c3] := by
      rintro ⟨l⟩ hl
      match l, hl with
      | [c0, c1, c2, c3], _ => exact ⟨c0, c1, c2, c3, rfl⟩
    have hone : ∀ u : Value, (#[u] : Array Value).toList.length = 4 → False := fun u h => by simp at h
    cases v with
    | agg a => obtain ⟨c0, c1, c2, c3, rfl⟩ := hag a hl; exact ⟨c0, c1, c2, c3, rfl⟩
    | _ => exact (hone _ hl).elim
  obtain ⟨c0, c1, c2, c3, rfl⟩ := hv
  match xs, hlen with
  | [y0, y1, y2, y3], _ =>
    have k0 : DataW.trod enc Try.prog w base (fun _ => true) held n 4 [c0] = some y0 := by
      have this : DataW.trod enc Try.prog w base (fun _ => true) held n 4 (List.take (Try.prog.cellsOf 4) (List.drop 0 [c0, c1, c2, c3])) = some y0 := hx 0 _ rfl
      rw [cellsOf4] at this; exact this
    have k1 : DataW.trod enc Try.prog w base (fun _ => true) held n 25 [c1] = some y1 := by
      have this : DataW.trod enc Try.prog w base (fun _ => true) held n 25 (List.take (Try.prog.cellsOf 25) (List.drop 1 [c0, c1, c2, c3])) = some y1 := hx 1 _ rfl
      rw [cellsOf25] at this; exact this
    have k2 : DataW.trod enc Try.prog w base (fun _ => true) held n 25 [c2] = some y2 := by
      have this : DataW.trod enc Try.prog w base (fun _ => true) held n 25 (List.take (Try.prog.cellsOf 25) (List.drop 2 [c0, c1, c2, c3])) = some y2 := hx 2 _ rfl
      rw [cellsOf25] at this; exact this
    have k3 : DataW.trod enc Try.prog w base (fun _ => true) held n 26 [c3] = some y3 := by
      have this : DataW.trod enc Try.prog w base (fun _ => true) held n 26 (List.take (Try.prog.cellsOf 26) (List.drop 3 [c0, c1, c2, c3])) = some y3 := hx 3 _ rfl
      rw [cellsOf26] at this; exact this
    clear hx hf hl
    obtain ⟨b, hb, _⟩ := DataW.trod_bool Try.underlying4 k0
    obtain rfl : c0 = .bool b := (List.cons.inj hb).1
    obtain ⟨l1, s1⟩ := strs_arg Try.underlying25 Try.underlying9 cellsOf9 k1
    obtain ⟨l2, s2⟩ := strs_arg Try.underlying25 Try.underlying9 cellsOf9 k2
    obtain ⟨l3, s3, hs⟩ := ptrs_arg k3
    exact ⟨⟨b, l1, l2, l3⟩, ⟨_, _, _, rfl, s1, s2, s3⟩, hs⟩
end Go.Eng.Sh
end
section
namespace Go.Nd
theorem rising_ix (lt : Str → Str → Bool) : ∀ l : List Str, rising lt l = true ↔ ∀ i (h : i + 1 < l.length), lt l[i] l[i + 1] = true
  | [] => by simp [rising]
  | [a] => by simp [rising]
  | a :: b :: l => by
    have ih := rising_ix lt (b :: l)
    simp only [rising, Bool.and_eq_true, ih]
    constructor
    · rintro ⟨h1, h2⟩ i h
      cases i with
      | zero => exact h1
      | succ i => exact h2 i (by simpa using h)
    · intro h
      exact ⟨h 0 (by simp), fun i hi => h (i + 1) (by simpa using hi)⟩
theorem rising_take {lt : Str → Str → Bool} {l : List Str} (h : rising lt l = true) (k : Nat) : rising lt (l.take k) = true := by
  rw [rising_ix] at h ⊢
  intro i hi
  simp only [List.length_take] at hi
  simp only [List.getElem_take]
  exact h i (by omega)
theorem rising_drop {lt : Str → Str → Bool} {l : List Str} (h : rising lt l = true) (k : Nat) : rising lt (l.drop k) = true := by
  rw [rising_ix] at h ⊢
  intro i hi
  simp only [List.length_drop] at hi
  simp only [List.getElem_drop]
  exact h (k + i) (by omega)
theorem all_take {α : Type} {f : α → Bool} {l : List α} (h : l.all f = true) (k : Nat) : (l.take k).all f = true := by
  simp only [List.all_eq_true] at h ⊢
  exact fun x hx => h x (List.mem_of_mem_take hx)
theorem all_drop {α : Type} {f : α → Bool} {l : List α} (h : l.all f = true) (k : Nat) : (l.drop k).all f = true := by
  simp only [List.all_eq_true] at h ⊢
  exact fun x hx => h x (List.mem_of_mem_drop hx)
/-- The first half: so many Keys; the second one. -/
def cutA (n : Node) (k : Nat) : Node := if n.leaf then ⟨true, n.keys.take k, n.vals.take k, []⟩ else ⟨false, n.keys.take k, [], n.kids.take (k + 1)⟩
def cutB (n : Node) (k : Nat) : Node := if n.leaf then ⟨true, n.keys.drop k, n.vals.drop k, []⟩ else ⟨false, n.keys.drop (k + 1), [], n.kids.drop (k + 1)⟩
def joinN (a : Node) (sep : Str) (b : Node) : Node := if a.leaf then ⟨true, a.keys ++ b.keys, a.vals ++ b.vals, []⟩ else ⟨false, a.keys ++ ([sep] ++ b.keys), [], a.kids ++ b.kids⟩
/-- Where a node may be cut. -/
def cutOk (n : Node) (k : Nat) : Prop := 1 ≤ k ∧ k + (if n.leaf then 1 else 2) ≤ n.keys.length
theorem cut_shaped {lt : Str → Str → Bool} {n : Node} {k : Nat} (h : shaped lt n = true) (hk : cutOk n k) : shaped lt (cutA n k) = true ∧ shaped lt (cutB n k) = true := by
  obtain ⟨leaf, keys, vals, kids⟩ := n
  obtain ⟨k1, k2⟩ := hk
  cases leaf with
  | true =>
    simp only [shaped, if_true, Bool.and_eq_true, decide_eq_true_eq] at h k2
    obtain ⟨⟨h1, h2⟩, ⟨h3, h4⟩, h5⟩ := h
    simp only [shaped, cutA, cutB, if_true, Bool.and_eq_true, decide_eq_true_eq]
    exact ⟨⟨⟨all_take h1 k, rising_take h2 k⟩, ⟨by simp [h3], trivial⟩, all_take h5 k⟩, ⟨all_drop h1 k, rising_drop h2 k⟩, ⟨by simp [h3], trivial⟩, all_drop h5 k⟩
  | false =>
    simp only [shaped, Bool.false_eq_true, if_false, Bool.and_eq_true, decide_eq_true_eq] at h k2
    obtain ⟨⟨h1, h2⟩, ⟨⟨h3, h4⟩, h5⟩, h6⟩ := h
    simp only [shaped, cutA, cutB, Bool.false_eq_true, if_false, Bool.and_eq_true, decide_eq_true_eq]
    refine ⟨⟨⟨all_take h1 k, rising_take h2 k⟩, ⟨⟨?_, trivial⟩, ?_⟩, all_take h6 _⟩, ⟨all_drop h1 _, rising_drop h2 _⟩, ⟨⟨?_, trivial⟩, ?_⟩, all_drop h6 _⟩
    · intro e; have := congrArg List.length e; rw [List.length_take] at this; simp only [List.length_nil] at this; omega
    · rw [List.length_take, List.length_take]; omega
    · intro e; have := congrArg List.length e; rw [List.length_drop] at this; simp only [List.length_nil] at this; omega
    · rw [List.length_drop, List.length_drop]; omega
theorem cut_join {lt : Str → Str → Bool} {n : Node} {k : Nat} (h : shaped lt n = true) (hk : cutOk n k) : joinN (cutA n k) (n.keys.getD k []) (cutB n k) = n := by
  obtain ⟨leaf, keys, vals, kids⟩ := n
  obtain ⟨k1, k2⟩ := hk
  cases leaf with
  | true =>
    simp only [shaped, if_true, Bool.and_eq_true, decide_eq_true_eq] at h
    simp only [joinN, cutA, cutB, if_true, List.take_append_drop, h.2.1.2]
  | false =>
    simp only [shaped, Bool.false_eq_true, if_false, Bool.and_eq_true, decide_eq_true_eq] at h
    simp only [Bool.false_eq_true, if_false] at k2
    have hk : k < keys.length := by omega
    simp only [joinN, cutA, cutB, Bool.false_eq_true, if_false, List.take_append_drop, h.2.1.1.2]
    congr 1
    rw [List.getD_eq_getElem?_getD, List.getElem?_eq_getElem hk]
    show keys.take k ++ ([keys[k]] ++ keys.drop (k + 1)) = keys
    rw [List.singleton_append, ← List.drop_eq_getElem_cons hk, List.take_append_drop]
theorem sumL_drop_le (l : List Str) (k : Nat) : sumL (l.drop k) ≤ sumL l := by
  have : sumL l = sumL (l.take k) + sumL (l.drop k) := by rw [← sumL_append, List.take_append_drop]
  omega
theorem sumL_take_le (l : List Str) (k : Nat) : sumL (l.take k) ≤ sumL l := by
  have : sumL l = sumL (l.take k) + sumL (l.drop k) := by rw [← sumL_append, List.take_append_drop]
  omega
theorem sumL_parts (l : List Str) (k : Nat) : sumL l = sumL (l.take k) + sumL (l.drop k) := by rw [← sumL_append, List.take_append_drop]
theorem cut_size {lt : Str → Str → Bool} {n : Node} {k : Nat} (h : shaped lt n = true) (hk : cutOk n k) : size (cutA n k) < size n ∧ size (cutB n k) < size n := by
  obtain ⟨leaf, keys, vals, kids⟩ := n
  obtain ⟨k1, k2⟩ := hk
  have p1 := sumL_parts keys k
  have g1 := sumL_ge (keys.take k)
  have g2 := sumL_ge (keys.drop k)
  simp only [List.length_take, List.length_drop] at g1 g2
  cases leaf with
  | true =>
    simp only [if_true] at k2
    simp only [shaped, if_true, Bool.and_eq_true, decide_eq_true_eq] at h
    have p2 := sumL_parts vals k
    simp only [cutA, cutB, if_true, size, List.length_nil, h.2.1.2]
    omega
  | false =>
    simp only [Bool.false_eq_true, if_false] at k2
    simp only [shaped, Bool.false_eq_true, if_false, Bool.and_eq_true, decide_eq_true_eq] at h
    have h5 := h.2.1.2
    have p3 := sumL_parts keys (k + 1)
    have g3 := sumL_ge (keys.take (k + 1))
    simp only [List.length_take] at g3
    simp only [cutA, cutB, Bool.false_eq_true, if_false, size, h.2.1.1.2, List.length_take, List.length_drop]
    have : sumL [] = 0 := rfl
    omega
/-- The separator stands between the halves. -/
theorem cut_between {lt : Str → Str → Bool} {n : Node} {k : Nat} (h : shaped lt n = true) (hk : cutOk n k) :
    mayK (n.keys.getD k []) = true ∧ lt (n.keys.getD (k - 1) []) (n.keys.getD k []) = true ∧ (n.leaf = false → lt (n.keys.getD k []) (n.keys.getD (k + 1) []) = true) := by
  obtain ⟨k1, k2⟩ := hk
  have hlt : k < n.keys.length := by split at k2 <;> omega
  simp only [shaped, Bool.and_eq_true] at h
  obtain ⟨⟨h1, h2⟩, _⟩ := h
  rw [rising_ix] at h2
  simp only [List.all_eq_true] at h1
  have g : ∀ i (hi : i < n.keys.length), n.keys.getD i [] = n.keys[i] := fun i hi => by rw [List.getD_eq_getElem?_getD, List.getElem?_eq_getElem hi]; rfl
  refine ⟨?_, ?_, fun hl => ?_⟩
  · rw [g k hlt]; exact h1 _ (List.getElem_mem hlt)
  · have := h2 (k - 1) (by omega)
    rw [g k hlt, g (k - 1) (by omega)]
    simpa [show k - 1 + 1 = k by omega] using this
  · rw [hl] at k2; simp only [Bool.false_eq_true, if_false] at k2
    rw [g k hlt, g (k + 1) (by omega)]
    exact h2 k (by omega)
end Go.Nd
end
section
namespace Go.Eng.Sh
open Go.Nd (Ptr sumL)
theorem ble0 (x : Nat) : Nat.ble 0 x = true := by rw [Nat.ble_eq]; omega
/-- The first i elements. -/
theorem slSl_hi {k e n : Nat} {H : AH} {v : AV} {l : List AV} (h : Grow k e H v n l) (hpos : 0 < k) {i : Nat} (hi : i ≤ n) (κ κ' : IntKind) :
    ∃ r, slSl k v none (some (.int κ (i : Nat))) (some (.int κ' (i : Nat))) H = some r ∧ Rw k H r i (l.take (i * k)) ∧ (0 < i → r ≠ .nilSlice ∧ r ≠ .emptySl) := by
  have n1 := natOf_int κ (z := ((i : Nat) : Int)) (by omega)
  have n2 := natOf_int κ' (z := ((i : Nat) : Int)) (by omega)
  simp only [Int.toNat_natCast] at n1 n2
  have hb : Nat.blt 0 k = true := by rw [Nat.blt_eq]; exact hpos
  have hz : Nat.beq i 0 = decide (i = 0) := by rw [Bool.eq_iff_iff]; simp
  have hmul : i * k ≤ n * k := Nat.mul_le_mul_right _ hi
  have b1 : Nat.ble i n = true := by rw [Nat.ble_eq]; exact hi
  have b2 : Nat.ble i i = true := by rw [Nat.ble_eq]; exact Nat.le_refl _
  have b3 : Nat.ble 0 i = true := by rw [Nat.ble_eq]; omega
  rcases h with ⟨h0, ⟨rfl, rfl⟩ | ⟨A, rfl, hA, hg⟩⟩ | ⟨h0, A, e', g, rfl, hA, hg⟩
  · obtain rfl : i = 0 := by omega
    exact ⟨.nilSlice, by simp only [slSl, natOpt, n1, n2]; simp, ⟨by simp, .inl ⟨rfl, rfl⟩⟩, fun h => absurd h (by omega)⟩
  · have hroom : roomOf l true k 0 1 k = n := by
      simp only [roomOf, show ((1 % 2).beq 0) = false from rfl, cond_false, Nat.beq_refl, show Nat.beq 0 (1 / 2 * k) = true from by simp, Bool.and_self, cond_true, lenL_zero, h0, Nat.sub_zero]
      exact Nat.mul_div_cancel _ hpos
    by_cases hi0 : i = 0
    · subst hi0
      refine ⟨.slice A 0 0 0, ?_, ⟨by simp, .inr (.inr ⟨A, 0, 0, l, e, k, true, rfl, hg, hA, by simp, by simp⟩)⟩, fun h => absurd h (by omega)⟩
      simp only [slSl, natOpt, n1, n2, hg, hb, cond_true]; simp [acut, hroom, fN_eq, ble0]
    · have hz0 : Nat.beq i 0 = false := by rw [hz]; simpa using hi0
      refine ⟨.slice A 0 i (2 * i), ?_, ⟨by rw [List.length_take, h0, Nat.min_eq_left hmul], .inr (.inr ⟨A, 0, 2 * i, l, e, k, true, rfl, hg, hA, by omega, by simp⟩)⟩, fun _ => ⟨by simp, by simp⟩⟩
      simp only [slSl, natOpt, n1, n2, hg, hb, cond_true]; simp [acut, hroom, b1, b2, hz0, fN_eq, ble0]
  · have hroom : roomOf l g k 0 (2 * n) k = n := by
      simp only [roomOf, show ((2 * n) % 2).beq 0 = true by rw [Nat.mul_mod_right]; rfl, cond_true, Nat.mul_div_cancel_left n (show 0 < 2 by omega)]
    by_cases hi0 : i = 0
    · subst hi0
      refine ⟨.slice A 0 0 0, ?_, ⟨by simp, .inr (.inr ⟨A, 0, 0, l, e', k, g, rfl, hg, hA, by simp, by simp⟩)⟩, fun h => absurd h (by omega)⟩
      simp only [slSl, natOpt, n1, n2, hg, hb, cond_true]; simp [acut, hroom, fN_eq, ble0]
    · have hz0 : Nat.beq i 0 = false := by rw [hz]; simpa using hi0
      refine ⟨.slice A 0 i (2 * i), ?_, ⟨by rw [List.length_take, h0, Nat.min_eq_left hmul], .inr (.inr ⟨A, 0, 2 * i, l, e', k, g, rfl, hg, hA, by omega, by simp⟩)⟩, fun _ => ⟨by simp, by simp⟩⟩
      simp only [slSl, natOpt, n1, n2, hg, hb, cond_true]; simp [acut, hroom, b1, b2, hz0, fN_eq, ble0]
/-- What stands from element i on. -/
theorem slSl_lo {k e n : Nat} {H : AH} {v : AV} {l : List AV} (h : Grow k e H v n l) (hpos : 0 < k) {i : Nat} (hi : i < n) (κ : IntKind) :
    ∃ r, slSl k v (some (.int κ (i : Nat))) none none H = some r ∧ Rw k H r (n - i) (l.drop (i * k)) ∧ r ≠ .nilSlice ∧ r ≠ .emptySl := by
  have n1 := natOf_int κ (z := ((i : Nat) : Int)) (by omega)
  simp only [Int.toNat_natCast] at n1
  have hb : Nat.blt 0 k = true := by rw [Nat.blt_eq]; exact hpos
  have hmul : i * k ≤ n * k := Nat.mul_le_mul_right _ (by omega)
  have hsub : (n - i) * k = n * k - i * k := Nat.sub_mul _ _ _
  have b1 : Nat.ble n n = true := by rw [Nat.ble_eq]; exact Nat.le_refl _
  have b2 : Nat.ble i n = true := by rw [Nat.ble_eq]; omega
  have b3 : Nat.blt i n = true := by rw [Nat.blt_eq]; exact hi
  have b4 : Nat.beq n i = false := by rw [Bool.eq_false_iff]; intro h; have := Nat.eq_of_beq_eq_true h; omega
  rcases h with ⟨h0, ⟨rfl, rfl⟩ | ⟨A, rfl, hA, hg⟩⟩ | ⟨h0, A, e', g, rfl, hA, hg⟩
  · omega
  · have hroom : roomOf l true k 0 1 k = n := by
      simp only [roomOf, show ((1 % 2).beq 0) = false from rfl, cond_false, Nat.beq_refl, show Nat.beq 0 (1 / 2 * k) = true from by simp, Bool.and_self, cond_true, lenL_zero, h0, Nat.sub_zero]
      exact Nat.mul_div_cancel _ hpos
    by_cases hi0 : i = 0
    · subst hi0
      refine ⟨.slice A 0 n 1, ?_, ⟨by simp [h0], .inr (.inr ⟨A, 0, 1, l, e, k, true, by simp, hg, hA, by simp [h0], by rw [Nat.sub_zero, Nat.zero_mul, List.drop_zero, List.take_of_length_le (by omega)]⟩)⟩, by simp, by simp⟩
      simp only [slSl, natOpt, n1, hg, hb, cond_true]; simp [acut, hroom, b1, fN_eq, ble0, show Nat.beq 1 0 = false from rfl]
    · have hz0 : Nat.beq i 0 = false := by rw [Bool.eq_false_iff]; intro h; exact hi0 (Nat.eq_of_beq_eq_true h)
      refine ⟨.slice A (0 + i * k) (n - i) (1 + 2 * i), ?_, ⟨by simp [h0, hsub], .inr (.inr ⟨A, 0 + i * k, 1 + 2 * i, l, e, k, true, rfl, hg, hA, by omega, by rw [Nat.zero_add, List.take_of_length_le (by simp [h0, hsub])]⟩)⟩, by simp, by simp⟩
      simp only [slSl, natOpt, n1, hg, hb, cond_true]; simp [acut, hroom, b1, b2, b3, hz0, fN_eq, show Nat.beq 1 0 = false from rfl]
  · have hroom : roomOf l g k 0 (2 * n) k = n := by
      simp only [roomOf, show ((2 * n) % 2).beq 0 = true by rw [Nat.mul_mod_right]; rfl, cond_true, Nat.mul_div_cancel_left n (show 0 < 2 by omega)]
    have b4' : Nat.beq (2 * n / 2) i = false := by rw [Nat.mul_div_cancel_left n (show 0 < 2 by omega)]; exact b4
    refine ⟨.slice A (0 + i * k) (n - i) (2 * (2 * n / 2 - i)), ?_, ⟨by simp [h0, hsub], .inr (.inr ⟨A, 0 + i * k, 2 * (2 * n / 2 - i), l, e', k, g, rfl, hg, hA, by omega, by rw [Nat.zero_add, List.take_of_length_le (by simp [h0, hsub])]⟩)⟩, by simp, by simp⟩
    simp only [slSl, natOpt, n1, hg, hb, cond_true]; simp [acut, hroom, b1, b2, b4', fN_eq, b4]
/-- slices.Clone of texts. -/
theorem cloneS_ok (D : Dyn) (n : Nat) {H : AH} (hk : H.ok) {v : AV} {l : List Str} (h : Strs H v l) (hn : v ≠ .nilSlice) (he : v ≠ .emptySl) (hl : l.length ≤ 1000000000) :
    ∃ v' H', f39 D n [v] H = some (v', H') ∧ Prs H H' ∧ Grow 1 9 H' v' l.length (l.map S) ∧ ∀ B, Blk v' B → H.next ≤ B := by
  have p1 : Prs H (H.push (.cells [] 9 1 false)) := (Stp.refl hk).push _
  have g1 : (H.push (.cells [] 9 1 false)).h.get H.next = some (.cells [] 9 1 false) := AH.push_get_eq _ _
  have n1 : (H.push (.cells [] 9 1 false)).next = H.next + 1 := rfl
  generalize hH1 : H.push (.cells [] 9 1 false) = H1 at p1 g1 n1
  obtain ⟨v', H2, e2, w2, s2, f2⟩ := (Grow.zero 1 9 g1 p1.ok).app (bytes := 16) p1.ok (by decide) (Rw.srcOf (h.prs p1)) (by simp) (map_cells _) (by omega) (by decide)
  have hz1 : bldL 9 1 0 [.str 0 0] [] = some (.cells [] 9 1 false, fun A => .slice A 0 0 0) := rfl
  have heq : cmpO .eql (eqS v .nilSlice) = some (.bool false) := by
    obtain ⟨_, ⟨rfl, _⟩ | ⟨rfl, _⟩ | ⟨A, off, cc, c, e, sz, g, rfl, _⟩⟩ := h
    · exact absurd rfl hn
    · exact absurd rfl he
    · rfl
  refine ⟨v', H2, ?_, p1.fresh s2 (fun B hB => by rw [Blk.slice.1 hB]; exact Nat.le_refl _), by simpa using w2, fun B hB => ?_⟩
  · simp only [f39, ev, lg, wnt_undef, if_true, if_false, decide_true, decide_false, Bool.not_true, Bool.not_false, Bool.false_eq_true, Bool.true_eq_false, Bool.and_true, Bool.true_and, Bool.and_false, Bool.false_and, Bool.or_true, Bool.true_or, Bool.or_false, Bool.false_or, heq, hz1, bA_ok hk, hH1, e2]
  · rcases f2 B hB with h | h
    · rw [Blk.slice.1 h]; exact Nat.le_refl _
    · omega
theorem cloneP_ok (D : Dyn) (n : Nat) {H : AH} (hk : H.ok) {v : AV} {l : List Ptr} (h : Ptrs H v l) (hn : v ≠ .nilSlice) (he : v ≠ .emptySl) (hl : l.length ≤ 1000000000) :
    ∃ v' H', f40 D n [v] H = some (v', H') ∧ Prs H H' ∧ Grow 3 59 H' v' l.length (l.flatMap ptrV) ∧ ∀ B, Blk v' B → H.next ≤ B := by
  have p1 : Prs H (H.push (.cells [] 59 3 false)) := (Stp.refl hk).push _
  have g1 : (H.push (.cells [] 59 3 false)).h.get H.next = some (.cells [] 59 3 false) := AH.push_get_eq _ _
  have n1 : (H.push (.cells [] 59 3 false)).next = H.next + 1 := rfl
  generalize hH1 : H.push (.cells [] 59 3 false) = H1 at p1 g1 n1
  obtain ⟨v', H2, e2, w2, s2, f2⟩ := (Grow.zero 3 59 g1 p1.ok).app (bytes := 24) p1.ok (by decide) (Rw.srcOf (h.prs p1)) h.1 (flat_cells _) (by omega) (by decide)
  have hz1 : ∀ a b c : AV, bldL 59 3 0 [a, b, c] [] = some (.cells [] 59 3 false, fun A => .slice A 0 0 0) := fun _ _ _ => rfl
  have heq : cmpO .eql (eqS v .nilSlice) = some (.bool false) := by
    obtain ⟨_, ⟨rfl, _⟩ | ⟨rfl, _⟩ | ⟨A, off, cc, c, e, sz, g, rfl, _⟩⟩ := h
    · exact absurd rfl hn
    · exact absurd rfl he
    · rfl
  refine ⟨v', H2, ?_, p1.fresh s2 (fun B hB => by rw [Blk.slice.1 hB]; exact Nat.le_refl _), by simpa using w2, fun B hB => ?_⟩
  · simp only [f40, ev, lg, wnt_undef, if_true, if_false, decide_true, decide_false, Bool.not_true, Bool.not_false, Bool.false_eq_true, Bool.true_eq_false, Bool.and_true, Bool.true_and, Bool.and_false, Bool.false_and, Bool.or_true, Bool.true_or, Bool.or_false, Bool.false_or, heq, hz1, bA_ok hk, hH1, e2]
  · rcases f2 B hB with h | h
    · rw [Blk.slice.1 h]; exact Nat.le_refl _
    · omega
end Go.Eng.Sh
end
section
namespace Go.Eng.Sh
open Go.Nd (Ptr sumL cutOk)
/-- May a node be cut? -/
def cuttable (nd : Nd.Node) : Prop := 2 ≤ nd.keys.length ∧ (nd.leaf = true ∨ 3 ≤ nd.keys.length)
theorem halfLoop (D : Dyn) (n : Nat) {H : AH} {ks vs ps : AV} {nd : Nd.Node} (h1 : Strs H ks nd.keys) (h2 : Strs H vs nd.vals) (hv : nd.leaf = true → nd.vals.length = nd.keys.length) {A : Nat} {e : TypeId} (hA : H.h.get A = some (.cells [.bool nd.leaf, ks, vs, ps] e 1 false))
    (most z : Int) (L : Nat) (hL : L ≤ nd.keys.length) (hb : nd.keys.length ≤ 1000000000) (n' : Nat) (hn : L < n') :
    Fin (loopK n' (f38l1 D n) [.ptr A 0, .int .i64 most, .int .i64 (L : Nat), .int .i64 z, .int .i64 (L : Nat), .int .i64 (0 : Nat)] H) fun x H' => H' = H ∧ ((∃ j : Nat, 0 < j ∧ j < L ∧ x = .ret (.int .i64 (j : Nat))) ∨ x = .exit 0 [.int .i64 (L : Nat)]) := by
  refine Fin.loop (fun k us H' => H' = H ∧ ∃ (i : Nat) (z : Int), us = [.ptr A 0, .int .i64 most, .int .i64 (L : Nat), .int .i64 z, .int .i64 (L : Nat), .int .i64 (i : Nat)] ∧ i ≤ L ∧ k = L - i) ?_ n' L _ H ⟨rfl, 0, z, rfl, by omega, by omega⟩ hn
  rintro k us H' ⟨rfl, i, z, rfl, hi, rfl⟩
  by_cases hlt : i < L
  · have hik : i < nd.keys.length := by omega
    obtain ⟨p, p1, p2⟩ := h1.at hik
    have hiI : ((i : Nat) : Int) < ((L : Nat) : Int) := by omega
    have tail : ∀ z' : Int, Fin (f38j0 D n [.ptr A 0, .int .i64 most, .int .i64 (L : Nat), .int .i64 z', .int .i64 (i : Nat), .int .i64 (L : Nat), .int .i64 (i : Nat)] H')
        (orN (fun us' H'' => ∃ k', k' < L - i ∧ H'' = H' ∧ ∃ (i : Nat) (z : Int), us' = [.ptr A 0, .int .i64 most, .int .i64 (L : Nat), .int .i64 z, .int .i64 (L : Nat), .int .i64 (i : Nat)] ∧ i ≤ L ∧ k' = L - i)
          (fun x H'' => H'' = H' ∧ ((∃ j : Nat, 0 < j ∧ j < L ∧ x = .ret (.int .i64 (j : Nat))) ∨ x = .exit 0 [.int .i64 (L : Nat)]))) := by
      intro z'
      by_cases hc : 0 < i ∧ most < z'
      · have c1 : ((0 : Nat) : Int) < (i : Int) := by omega
        have c2 : most < z' := hc.2
        have : f38j0 D n [.ptr A 0, .int .i64 most, .int .i64 (L : Nat), .int .i64 z', .int .i64 (i : Nat), .int .i64 (L : Nat), .int .i64 (i : Nat)] H' = some (.ret (.int .i64 (i : Nat)), H') := by
          simp (disch := omega) only [f38j0, ev, lg, wnt_undef, if_true, if_false, decide_true, decide_false, Bool.not_true, Bool.not_false, Bool.false_eq_true, Bool.true_eq_false, Bool.and_true, Bool.true_and, Bool.and_false, Bool.false_and, Bool.or_true, Bool.true_or, Bool.or_false, Bool.false_or, c1, c2]
        rw [this]
        exact ⟨_, _, rfl, rfl, .inl ⟨i, hc.1, hlt, rfl⟩⟩
      · have hcb : (decide (((0 : Nat) : Int) < (i : Int)) && decide (most < z')) = false := by
          rw [Bool.eq_false_iff]; intro hh
          simp only [Bool.and_eq_true, decide_eq_true_eq] at hh
          exact hc ⟨by omega, hh.2⟩
        have : f38j0 D n [.ptr A 0, .int .i64 most, .int .i64 (L : Nat), .int .i64 z', .int .i64 (i : Nat), .int .i64 (L : Nat), .int .i64 (i : Nat)] H' = some (.norm [.ptr A 0, .int .i64 most, .int .i64 (L : Nat), .int .i64 z', .int .i64 (L : Nat), .int .i64 ((i + 1 : Nat) : Int)], H') := by
          simp (disch := omega) only [f38j0, ev, lg, wnt_undef, if_true, if_false, decide_true, decide_false, Bool.not_true, Bool.not_false, Bool.false_eq_true, Bool.true_eq_false, Bool.and_true, Bool.true_and, Bool.and_false, Bool.false_and, Bool.or_true, Bool.true_or, Bool.or_false, Bool.false_or, hcb, Int.natCast_add]
        rw [this]
        exact ⟨_, _, rfl, L - (i + 1), by omega, rfl, i + 1, z', rfl, by omega, rfl⟩
    cases hl : nd.leaf with
    | true =>
      rw [hl] at hA
      obtain ⟨q, q1, q2⟩ := h2.at (i := i) (by rw [hv hl]; exact hik)
      have : ∃ z', f38l1 D n [.ptr A 0, .int .i64 most, .int .i64 (L : Nat), .int .i64 z, .int .i64 (L : Nat), .int .i64 (i : Nat)] H' = jn (some (.norm [.ptr A 0, .int .i64 most, .int .i64 (L : Nat), .int .i64 z', .int .i64 (i : Nat), .int .i64 (L : Nat), .int .i64 (i : Nat)], H')) (f38j0 D n) := by
        apply Exists.intro
        simp (disch := omega) only [f38l1, ev, lg, wnt_undef, if_true, if_false, decide_true, decide_false, Bool.not_true, Bool.not_false, Bool.false_eq_true, Bool.true_eq_false, Bool.and_true, Bool.true_and, Bool.and_false, Bool.false_and, Bool.or_true, Bool.true_or, Bool.or_false, Bool.false_or, hiI, ld1_get hA, p1, p2, q1, q2]
        rfl
      obtain ⟨z', hz⟩ := this
      rw [hz, jn_norm]; exact tail z'
    | false =>
      rw [hl] at hA
      have : ∃ z', f38l1 D n [.ptr A 0, .int .i64 most, .int .i64 (L : Nat), .int .i64 z, .int .i64 (L : Nat), .int .i64 (i : Nat)] H' = jn (some (.norm [.ptr A 0, .int .i64 most, .int .i64 (L : Nat), .int .i64 z', .int .i64 (i : Nat), .int .i64 (L : Nat), .int .i64 (i : Nat)], H')) (f38j0 D n) := by
        apply Exists.intro
        simp (disch := omega) only [f38l1, ev, lg, wnt_undef, if_true, if_false, decide_true, decide_false, Bool.not_true, Bool.not_false, Bool.false_eq_true, Bool.true_eq_false, Bool.and_true, Bool.true_and, Bool.and_false, Bool.false_and, Bool.or_true, Bool.true_or, Bool.or_false, Bool.false_or, hiI, ld1_get hA, p1, p2]
        rfl
      obtain ⟨z', hz⟩ := this
      rw [hz, jn_norm]; exact tail z'
  · have hiI : ¬ ((i : Nat) : Int) < ((L : Nat) : Int) := by omega
    refine ⟨.exit 0 [.int .i64 (L : Nat)], H', ?_, rfl, .inr rfl⟩
    simp only [f38l1, ev, lg, wnt_undef, if_true, if_false, decide_true, decide_false, Bool.not_true, Bool.not_false, Bool.false_eq_true, Bool.true_eq_false, Bool.and_true, Bool.true_and, Bool.and_false, Bool.false_and, Bool.or_true, Bool.true_or, Bool.or_false, Bool.false_or, hiI]
theorem half_ok (D : Dyn) (n : Nat) (hn : 200000000 ≤ n) {H : AH} (hk : H.ok) {v : AV} {nd : Nd.Node} (h : NodeV H v nd) (hs : small nd) (hsh : Nd.shaped ltS nd = true) (hc : cuttable nd) :
    ∃ (k : Nat) (H' : AH), f38 D n [v] H = some (.int .i64 (k : Nat), H') ∧ Prs H H' ∧ cutOk nd k := by
  have h0 := h
  obtain ⟨ks, vs, ps, rfl, h1, h2, h3⟩ := h
  have hkl := Nd.sumL_ge nd.keys
  obtain ⟨s1, s2, s3⟩ := id hs
  obtain ⟨c1, c2⟩ := hc
  have hv : nd.leaf = true → nd.vals.length = nd.keys.length := by
    intro hl
    simp only [Nd.shaped, hl, if_true, Bool.and_eq_true, decide_eq_true_eq] at hsh
    exact hsh.2.1.1
  have p1 : Prs H (H.push (.cells [.bool nd.leaf, ks, vs, ps] 34 1 false)) := (Stp.refl hk).push _
  have g1 : (H.push (.cells [.bool nd.leaf, ks, vs, ps] 34 1 false)).h.get H.next = some (.cells [.bool nd.leaf, ks, vs, ps] 34 1 false) := AH.push_get_eq _ _
  generalize hH1 : H.push (.cells [.bool nd.leaf, ks, vs, ps] 34 1 false) = H1 at p1 g1
  obtain ⟨z, H2, e2, rfl, p2⟩ := size_ok D n p1.ok (h0.prs p1) hs hn
  have g2 := p2.get p1.ok g1
  have P : Prs H H2 := p1.trans p2
  have hq := bInt_quo .i64 (((Nd.size nd : Nat) : Int) - ((2 : Nat) : Int)) ((2 : Nat) : Int) (by omega)
  have hsz : ((Nd.size nd : Nat) : Int) ≤ 1000000000 := by simp only [Nd.size]; omega
  generalize IntKind.wrap .i64 ((((Nd.size nd : Nat) : Int) - ((2 : Nat) : Int)).tdiv ((2 : Nat) : Int)) = most at hq
  cases hl : nd.leaf with
  | true =>
    obtain ⟨x, H3, e3, rfl, hx⟩ := halfLoop D n (h1.prs P) (h2.prs P) hv g2 most ((0 : Nat) : Int) (nd.keys.length - 1) (by omega) (by omega) n (by omega)
    have hL : ((nd.keys.length : Nat) : Int) - ((1 : Nat) : Int) = ((nd.keys.length - 1 : Nat) : Int) := by omega
    rw [hl] at g2 hH1 e2
    rcases hx with ⟨j, j1, j2, rfl⟩ | rfl
    · refine ⟨j, H3, ?_, P, j1, by rw [hl]; simp only [if_true]; omega⟩
      simp (disch := omega) only [f38, ev, lg, wnt_undef, if_true, if_false, decide_true, decide_false, Bool.not_true, Bool.not_false, Bool.false_eq_true, Bool.true_eq_false, Bool.and_true, Bool.true_and, Bool.and_false, Bool.false_and, Bool.or_true, Bool.true_or, Bool.or_false, Bool.false_or, bA_ok hk, hH1, sub4, Option.map_some, hl, e2, hq, ld1_get g2, h1.lnSl, hL, f38j3, e3]
    · refine ⟨nd.keys.length - 1, H3, ?_, P, by omega, by rw [hl]; simp only [if_true]; omega⟩
      simp (disch := omega) only [f38, ev, lg, wnt_undef, if_true, if_false, decide_true, decide_false, Bool.not_true, Bool.not_false, Bool.false_eq_true, Bool.true_eq_false, Bool.and_true, Bool.true_and, Bool.and_false, Bool.false_and, Bool.or_true, Bool.true_or, Bool.or_false, Bool.false_or, bA_ok hk, hH1, sub4, Option.map_some, hl, e2, hq, ld1_get g2, h1.lnSl, hL, f38j3, e3, f38b2]
  | false =>
    have c3 : 3 ≤ nd.keys.length := by rcases c2 with h | h; rw [hl] at h; cases h; exact h
    obtain ⟨x, H3, e3, rfl, hx⟩ := halfLoop D n (h1.prs P) (h2.prs P) hv g2 most ((16 : Nat) : Int) (nd.keys.length - 2) (by omega) (by omega) n (by omega)
    have hL : ((nd.keys.length : Nat) : Int) - ((1 : Nat) : Int) - ((1 : Nat) : Int) = ((nd.keys.length - 2 : Nat) : Int) := by omega
    rw [hl] at g2 hH1 e2
    rcases hx with ⟨j, j1, j2, rfl⟩ | rfl
    · refine ⟨j, H3, ?_, P, j1, by rw [hl]; simp only [Bool.false_eq_true, if_false]; omega⟩
      simp (disch := omega) only [f38, ev, lg, wnt_undef, if_true, if_false, decide_true, decide_false, Bool.not_true, Bool.not_false, Bool.false_eq_true, Bool.true_eq_false, Bool.and_true, Bool.true_and, Bool.and_false, Bool.false_and, Bool.or_true, Bool.true_or, Bool.or_false, Bool.false_or, bA_ok hk, hH1, sub4, Option.map_some, hl, e2, hq, ld1_get g2, h1.lnSl, hL, f38j3, e3]
    · refine ⟨nd.keys.length - 2, H3, ?_, P, by omega, by rw [hl]; simp only [Bool.false_eq_true, if_false]; omega⟩
      simp (disch := omega) only [f38, ev, lg, wnt_undef, if_true, if_false, decide_true, decide_false, Bool.not_true, Bool.not_false, Bool.false_eq_true, Bool.true_eq_false, Bool.and_true, Bool.true_and, Bool.and_false, Bool.false_and, Bool.or_true, Bool.true_or, Bool.or_false, Bool.false_or, bA_ok hk, hH1, sub4, Option.map_some, hl, e2, hq, ld1_get g2, h1.lnSl, hL, f38j3, e3, f38b2]
end Go.Eng.Sh
end
section
namespace Go.Eng.Sh
open Go.Nd (Ptr sumL cutOk cutA cutB)
/-- A cut hangs on the slice alone. -/
theorem slSl_same {k e n : Nat} {H H' : AH} {v : AV} {l l' : List AV} (h : Grow k e H v n l) (h' : Grow k e H' v n l') (hpos : 0 < k) (lo hi mx : Option AV) : slSl k v lo hi mx H' = slSl k v lo hi mx H := by
  have room1 : ∀ l : List AV, l.length = n * k → roomOf l true k 0 1 k = n := fun l h0 => by
    simp only [roomOf, show ((1 % 2).beq 0) = false from rfl, cond_false, Nat.beq_refl, show Nat.beq 0 (1 / 2 * k) = true from by simp, Bool.and_self, cond_true, lenL_zero, h0, Nat.sub_zero]
    exact Nat.mul_div_cancel _ hpos
  have room2 : ∀ (l : List AV) (g : Bool), roomOf l g k 0 (2 * n) k = n := fun l g => by
    simp only [roomOf, show ((2 * n) % 2).beq 0 = true by rw [Nat.mul_mod_right]; rfl, cond_true, Nat.mul_div_cancel_left n (show 0 < 2 by omega)]
  rcases h with ⟨h0, ⟨rfl, _⟩ | ⟨A, rfl, hA, hg⟩⟩ | ⟨h0, A, e', g, rfl, hA, hg⟩
  · rfl
  · rcases h' with ⟨h0', ⟨hv, _⟩ | ⟨A', hv, hA', hg'⟩⟩ | ⟨h0', A', e'', g', hv, hA', hg'⟩
    · cases hv
    · simp only [AV.slice.injEq] at hv; obtain ⟨rfl, _⟩ := hv
      simp only [slSl, hg, hg', room1 l h0, room1 l' h0']
    · simp only [AV.slice.injEq] at hv; omega
  · rcases h' with ⟨h0', ⟨hv, _⟩ | ⟨A', hv, hA', hg'⟩⟩ | ⟨h0', A', e'', g', hv, hA', hg'⟩
    · cases hv
    · simp only [AV.slice.injEq] at hv; omega
    · simp only [AV.slice.injEq] at hv; obtain ⟨rfl, _⟩ := hv
      simp only [slSl, hg, hg', room2]
/-- A field of a struct's block is written. -/
theorem st_fld {H : AH} (hk : H.ok) {A o : Nat} {l : List AV} {e : TypeId} {x : AV} (h : H.h.get A = some (.cells l e 1 false)) (hx : isCell x = true) (ho : o < l.length) :
    ∃ H', stN 1 (.ptr A o) x H = some (undefA, H') ∧ H'.h.get A = some (.cells (l.set o x) e 1 false) ∧ Stp (fun B => B = A) H H' ∧ H'.next = H.next :=
  ⟨_, st1_ok h (by decide) hx ho, by rw [AH.put_get, if_pos rfl], (Stp.refl hk).put (hk.lt h) _ (.inr rfl), rfl⟩
theorem map_take (l : List Str) (k : Nat) : (l.map S).take (k * 1) = (l.take k).map S := by simp
theorem map_drop (l : List Str) (k : Nat) : (l.map S).drop (k * 1) = (l.drop k).map S := by simp
theorem flat_take : ∀ (l : List Ptr) (k : Nat), (l.flatMap ptrV).take (k * 3) = (l.take k).flatMap ptrV
  | _, 0 => by simp
  | [], k + 1 => by simp
  | p :: l, k + 1 => by
    have ih := flat_take l k
    rw [show (k + 1) * 3 = k * 3 + 3 from by omega]
    show ((ptrV p) ++ l.flatMap ptrV).take (k * 3 + 3) = ptrV p ++ (l.take k).flatMap ptrV
    rw [← ih]; rfl
theorem flat_drop : ∀ (l : List Ptr) (k : Nat), (l.flatMap ptrV).drop (k * 3) = (l.drop k).flatMap ptrV
  | _, 0 => by simp
  | [], k + 1 => by simp
  | p :: l, k + 1 => by
    have ih := flat_drop l k
    rw [show (k + 1) * 3 = k * 3 + 3 from by omega]
    show ((ptrV p) ++ l.flatMap ptrV).drop (k * 3 + 3) = (l.drop k).flatMap ptrV
    rw [← ih]; rfl
/-- What Cut keeps: the node's box, and its two results' ones. -/
structure CutI (H0 : AH) (A1 A2 A4 : Nat) (H : AH) (l1 l2 l4 : List AV) : Prop where
  prs : Prs H0 H
  a1 : H.h.get A1 = some (.cells l1 34 1 false)
  a2 : H.h.get A2 = some (.cells l2 34 1 false)
  a4 : H.h.get A4 = some (.cells l4 34 1 false)
  o1 : H0.next ≤ A1
  o2 : A1 < A2
  o4 : A2 < A4
theorem CutI.lt {H0 H : AH} {A1 A2 A4 : Nat} {l1 l2 l4 : List AV} (h : CutI H0 A1 A2 A4 H l1 l2 l4) : A4 < H.next := h.prs.ok.lt h.a4
theorem CutI.step {H0 H H' : AH} {A1 A2 A4 : Nat} {l1 l2 l4 : List AV} (h : CutI H0 A1 A2 A4 H l1 l2 l4) (s : Prs H H') : CutI H0 A1 A2 A4 H' l1 l2 l4 :=
  ⟨h.prs.trans s, s.get h.prs.ok h.a1, s.get h.prs.ok h.a2, s.get h.prs.ok h.a4, h.o1, h.o2, h.o4⟩
theorem CutI.st2 {H0 H : AH} {A1 A2 A4 : Nat} {l1 l2 l4 : List AV} (h : CutI H0 A1 A2 A4 H l1 l2 l4) {o : Nat} {x : AV} (hx : isCell x = true) (ho : o < l2.length) :
    ∃ H', stN 1 (.ptr A2 o) x H = some (undefA, H') ∧ CutI H0 A1 A2 A4 H' l1 (l2.set o x) l4 ∧ Stp (fun B => B = A2) H H' := by
  obtain ⟨H', e, g, s, n⟩ := st_fld h.prs.ok h.a2 hx ho
  have := h.o1; have := h.o2; have := h.o4; have l4 := h.lt
  exact ⟨H', e, ⟨h.prs.fresh s (fun B hB => by omega), by rw [s.keep _ (by omega) (by omega)]; exact h.a1, g, by rw [s.keep _ l4 (by omega)]; exact h.a4, h.o1, h.o2, h.o4⟩, s⟩
theorem CutI.st4 {H0 H : AH} {A1 A2 A4 : Nat} {l1 l2 l4 : List AV} (h : CutI H0 A1 A2 A4 H l1 l2 l4) {o : Nat} {x : AV} (hx : isCell x = true) (ho : o < l4.length) :
    ∃ H', stN 1 (.ptr A4 o) x H = some (undefA, H') ∧ CutI H0 A1 A2 A4 H' l1 l2 (l4.set o x) ∧ Stp (fun B => B = A4) H H' := by
  obtain ⟨H', e, g, s, n⟩ := st_fld h.prs.ok h.a4 hx ho
  have := h.o1; have := h.o2; have := h.o4; have l4 := h.lt
  exact ⟨H', e, ⟨h.prs.fresh s (fun B hB => by omega), by rw [s.keep _ (by omega) (by omega)]; exact h.a1, by rw [s.keep _ (by omega) (by omega)]; exact h.a2, g, h.o1, h.o2, h.o4⟩, s⟩
/-- A struct's block that is written over whole, by itself. -/
theorem CutI.all2 {H0 H : AH} {A1 A2 A4 : Nat} {l1 l2 l4 l' : List AV} (h : CutI H0 A1 A2 A4 H l1 l2 l4) (hl : l'.length = l2.length) (hc : allCells l' = true) :
    ∃ H', stN l2.length (.ptr A2 0) (.agg l') H = some (undefA, H') ∧ CutI H0 A1 A2 A4 H' l1 l' l4 ∧ Stp (fun B => B = A2) H H' := by
  obtain ⟨H', e, g, s, n⟩ := st_all h.prs.ok h.a2 hl hc
  have := h.o1; have := h.o2; have := h.o4; have l4 := h.lt
  exact ⟨H', e, ⟨h.prs.fresh s (fun B hB => by omega), by rw [s.keep _ (by omega) (by omega)]; exact h.a1, g, by rw [s.keep _ l4 (by omega)]; exact h.a4, h.o1, h.o2, h.o4⟩, s⟩
theorem CutI.all4 {H0 H : AH} {A1 A2 A4 : Nat} {l1 l2 l4 l' : List AV} (h : CutI H0 A1 A2 A4 H l1 l2 l4) (hl : l'.length = l4.length) (hc : allCells l' = true) :
    ∃ H', stN l4.length (.ptr A4 0) (.agg l') H = some (undefA, H') ∧ CutI H0 A1 A2 A4 H' l1 l2 l' ∧ Stp (fun B => B = A4) H H' := by
  obtain ⟨H', e, g, s, n⟩ := st_all h.prs.ok h.a4 hl hc
  have := h.o1; have := h.o2; have := h.o4; have l4 := h.lt
  exact ⟨H', e, ⟨h.prs.fresh s (fun B hB => by omega), by rw [s.keep _ (by omega) (by omega)]; exact h.a1, by rw [s.keep _ (by omega) (by omega)]; exact h.a2, g, h.o1, h.o2, h.o4⟩, s⟩
end Go.Eng.Sh
end
section
namespace Go.Eng.Sh
open Go.Nd (Ptr sumL cutOk cutA cutB)
/-- A fresh row behind the boxes. -/
structure FrG (A k e : Nat) (H : AH) (v : AV) (n : Nat) (l : List AV) : Prop where
  g : Grow k e H v n l
  f : ∀ B, Blk v B → A < B
theorem FrG.prs {A k e n : Nat} {H H' : AH} {v : AV} {l : List AV} (h : FrG A k e H v n l) (s : Prs H H') : FrG A k e H' v n l := ⟨h.g.mono s (fun _ _ x => x), h.f⟩
theorem FrG.stp {A A' k e n : Nat} {H H' : AH} {v : AV} {l : List AV} (h : FrG A k e H v n l) (s : Stp (fun B => B = A') H H') (hA : A' ≤ A) : FrG A k e H' v n l :=
  ⟨h.g.mono s (fun B hB e => by have := h.f B hB; omega), h.f⟩
theorem aveq_S (l : Str) : aveq (S l) (S l) = true := by simp [S, aveq]
theorem FrG.nil (A k e : Nat) (H : AH) : FrG A k e H .nilSlice 0 [] := ⟨.inl ⟨by simp, .inl ⟨rfl, rfl⟩⟩, fun B hB => (Blk.nil.1 hB).elim⟩
theorem FrG.isCell {A k e n : Nat} {H : AH} {v : AV} {l : List AV} (h : FrG A k e H v n l) : isCell v = true := h.g.isCell
theorem FrG.aveq {A k e n : Nat} {H : AH} {v : AV} {l : List AV} (h : FrG A k e H v n l) : aveq v v = true := aveq_row h.g.row
/-- What a node's half is while Cut runs. -/
structure FrN (A : Nat) (H : AH) (a b c : AV) (nd : Nd.Node) : Prop where
  k : FrG A 1 9 H a nd.keys.length (nd.keys.map S)
  v : FrG A 1 9 H b nd.vals.length (nd.vals.map S)
  p : FrG A 3 59 H c nd.kids.length (nd.kids.flatMap ptrV)
theorem FrN.stp {A A' : Nat} {H H' : AH} {a b c : AV} {nd : Nd.Node} (h : FrN A H a b c nd) (s : Stp (fun B => B = A') H H') (hA : A' ≤ A) : FrN A H' a b c nd := ⟨h.k.stp s hA, h.v.stp s hA, h.p.stp s hA⟩
theorem cutJ_ok (D : Dyn) (n : Nat) {H0 H : AH} {A1 A2 A4 k : Nat} {b : Bool} {ks vs ps k2 v2 p2 k4 v4 p4 : AV} {keys : List Str} {na nb : Nd.Node}
    (h : CutI H0 A1 A2 A4 H [.bool b, ks, vs, ps] [.bool b, k2, v2, p2] [.bool b, k4, v4, p4]) (hks : Strs H ks keys) (hR : ∀ B, Blk ks B → B < H0.next) (hk : k < keys.length) (ha : FrN A4 H k2 v2 p2 na) (hb : FrN A4 H k4 v4 p4 nb) :
    ∃ H', f19j0 D n [.ptr A1 0, .ptr A2 0, .ptr A4 0, .int .i64 (k : Nat)] H = some (.ret (.tuple [.agg [.bool b, k2, v2, p2], S (keys.getD k []), .agg [.bool b, k4, v4, p4], .int .i64 ((0 : Nat) : Int)]), H') ∧ Prs H0 H' ∧ FrN A4 H' k2 v2 p2 na ∧ FrN A4 H' k4 v4 p4 nb := by
  have o1 := h.o1; have o2 := h.o2; have o4 := h.o4
  obtain ⟨q, q1, q2⟩ := hks.at hk
  obtain ⟨H1, e1, h1, s1⟩ := h.all2 (l' := [.bool b, k2, v2, p2]) rfl (allCells4 _ _ _ _ ha.k.isCell ha.v.isCell ha.p.isCell)
  have hks1 : Strs H1 ks keys := Rw.stp hks s1 (fun B hB e => by have := hR B hB; omega)
  obtain ⟨q', q1', q2'⟩ := hks1.at hk
  obtain rfl : q = q' := by have := q1 .i64 k rfl; rw [q1' .i64 k rfl] at this; cases this; rfl
  obtain ⟨H2, e2, h2, s2⟩ := h1.all4 (l' := [.bool b, k4, v4, p4]) rfl (allCells4 _ _ _ _ hb.k.isCell hb.v.isCell hb.p.isCell)
  have e1' : stN 4 (.ptr A2 0) (.agg [.bool b, k2, v2, p2]) H = some (undefA, H1) := e1
  have e2' : stN 4 (.ptr A4 0) (.agg [.bool b, k4, v4, p4]) H1 = some (undefA, H2) := e2
  have hagg : aveq (.agg [.bool b, k4, v4, p4]) (.agg [.bool b, k4, v4, p4]) = true := by simp [Eng.aveq, aveqL, hb.k.aveq, hb.v.aveq, hb.p.aveq]
  have hg : keys.getD k [] = keys[k] := by rw [List.getD_eq_getElem?_getD, List.getElem?_eq_getElem hk]; rfl
  have l4 : ldN 4 (.ptr A4 0) H1 = some (.agg [.bool b, k4, v4, p4]) := by rw [ldN_get h1.a4]; rfl
  refine ⟨H2, ?_, h2.prs, (ha.stp s1 (by omega)).stp s2 (by omega), (hb.stp s1 (by omega)).stp s2 (by omega)⟩
  rw [hg]
  simp (disch := omega) only [f19j0, ev, lg, wnt_undef, if_true, if_false, decide_true, decide_false, Bool.not_true, Bool.not_false, Bool.false_eq_true, Bool.true_eq_false, Bool.and_true, Bool.true_and, Bool.and_false, Bool.false_and, Bool.or_true, Bool.true_or, Bool.or_false, Bool.false_or, ldN_get h.a2, ldN_get h.a4, ld1_get h.a1, q1, q2, e1', e2', chk_ok (ld1_get h1.a1 1) (aveq_row hks), chk_ok q2' (aveq_S _), chk_ok l4 hagg, ldN_get h2.a2, ldN_get h2.a4, sub4, Option.map_some]
end Go.Eng.Sh
end
section
namespace Go.Eng.Sh
open Go.Nd (Ptr sumL cutOk cutA cutB)
/-- A row is cut at its end, and what remains is copied. -/
theorem hiS_ok (D : Dyn) (n : Nat) {H : AH} (hk : H.ok) {v : AV} {l : List Str} (h : Grow 1 9 H v l.length (l.map S)) (hl : l.length ≤ 1000000000) {i : Nat} (h0 : 0 < i) (hi : i ≤ l.length) (A : Nat) (hA : A < H.next) :
    ∃ r v' H', slSl 1 v none (some (.int .i64 (i : Nat))) (some (.int .i64 (i : Nat))) H = some r ∧ f39 D n [r] H = some (v', H') ∧ Prs H H' ∧ FrG A 1 9 H' v' (l.take i).length ((l.take i).map S) := by
  obtain ⟨r, e1, w, hz⟩ := slSl_hi h (by decide) hi .i64 .i64
  rw [map_take] at w
  have hlen : (l.take i).length = i := by rw [List.length_take]; omega
  have w' : Strs H r (l.take i) := by rw [Strs, hlen]; exact w
  obtain ⟨v', H', e2, p, g, f⟩ := cloneS_ok D n hk w' (hz h0).1 (hz h0).2 (by omega)
  exact ⟨r, v', H', e1, e2, p, g, fun B hB => by have := f B hB; omega⟩
theorem loS_ok (D : Dyn) (n : Nat) {H : AH} (hk : H.ok) {v : AV} {l : List Str} (h : Grow 1 9 H v l.length (l.map S)) (hl : l.length ≤ 1000000000) {i : Nat} (hi : i < l.length) (A : Nat) (hA : A < H.next) :
    ∃ r v' H', aveq r r = true ∧ slSl 1 v (some (.int .i64 (i : Nat))) none none H = some r ∧ f39 D n [r] H = some (v', H') ∧ Prs H H' ∧ FrG A 1 9 H' v' (l.drop i).length ((l.drop i).map S) := by
  obtain ⟨r, e1, w, z1, z2⟩ := slSl_lo h (by decide) hi .i64
  rw [map_drop] at w
  have hlen : (l.drop i).length = l.length - i := by rw [List.length_drop]
  have w' : Strs H r (l.drop i) := by rw [Strs, hlen]; exact w
  obtain ⟨v', H', e2, p, g, f⟩ := cloneS_ok D n hk w' z1 z2 (by omega)
  exact ⟨r, v', H', aveq_row w, e1, e2, p, g, fun B hB => by have := f B hB; omega⟩
theorem hiP_ok (D : Dyn) (n : Nat) {H : AH} (hk : H.ok) {v : AV} {l : List Ptr} (h : Grow 3 59 H v l.length (l.flatMap ptrV)) (hl : l.length ≤ 1000000000) {i : Nat} (h0 : 0 < i) (hi : i ≤ l.length) (A : Nat) (hA : A < H.next) :
    ∃ r v' H', slSl 3 v none (some (.int .i64 (i : Nat))) (some (.int .i64 (i : Nat))) H = some r ∧ f40 D n [r] H = some (v', H') ∧ Prs H H' ∧ FrG A 3 59 H' v' (l.take i).length ((l.take i).flatMap ptrV) := by
  obtain ⟨r, e1, w, hz⟩ := slSl_hi h (by decide) hi .i64 .i64
  rw [flat_take] at w
  have hlen : (l.take i).length = i := by rw [List.length_take]; omega
  have w' : Ptrs H r (l.take i) := by rw [Ptrs, hlen]; exact w
  obtain ⟨v', H', e2, p, g, f⟩ := cloneP_ok D n hk w' (hz h0).1 (hz h0).2 (by omega)
  exact ⟨r, v', H', e1, e2, p, g, fun B hB => by have := f B hB; omega⟩
theorem loP_ok (D : Dyn) (n : Nat) {H : AH} (hk : H.ok) {v : AV} {l : List Ptr} (h : Grow 3 59 H v l.length (l.flatMap ptrV)) (hl : l.length ≤ 1000000000) {i : Nat} (hi : i < l.length) (A : Nat) (hA : A < H.next) :
    ∃ r v' H', aveq r r = true ∧ slSl 3 v (some (.int .i64 (i : Nat))) none none H = some r ∧ f40 D n [r] H = some (v', H') ∧ Prs H H' ∧ FrG A 3 59 H' v' (l.drop i).length ((l.drop i).flatMap ptrV) := by
  obtain ⟨r, e1, w, z1, z2⟩ := slSl_lo h (by decide) hi .i64
  rw [flat_drop] at w
  have hlen : (l.drop i).length = l.length - i := by rw [List.length_drop]
  have w' : Ptrs H r (l.drop i) := by rw [Ptrs, hlen]; exact w
  obtain ⟨v', H', e2, p, g, f⟩ := cloneP_ok D n hk w' z1 z2 (by omega)
  exact ⟨r, v', H', aveq_row w, e1, e2, p, g, fun B hB => by have := f B hB; omega⟩
end Go.Eng.Sh
end
section
namespace Go.Eng.Sh
open Go.Nd (Ptr sumL cutOk cutA cutB)
/-- Cut's beginning: three boxes, the node is shaped. -/
theorem cutHead (D : Dyn) (n : Nat) (hn : 200000000 ≤ n) {H : AH} (hk : H.ok) {b : Bool} {ks vs ps : AV} {nd : Nd.Node} (hb : nd.leaf = b) (h : NodeV H (.agg [.bool b, ks, vs, ps]) nd) (hs : small nd) :
    ∃ H1 H2 H3 H4 A1 A2 A4, (∀ K, bA (some (AObj.cells [.bool b, ks, vs, ps] 34 1 false, fun A => AV.ptr A 0)) H K = K (.ptr A1 0) H1) ∧ (∀ K, bA (some (AObj.cells [.bool false, .nilSlice, .nilSlice, .nilSlice] 34 1 false, fun A => AV.ptr A 0)) H1 K = K (.ptr A2 0) H2) ∧
      (∀ K, bA (some (AObj.cells [.bool false, .nilSlice, .nilSlice, .nilSlice] 34 1 false, fun A => AV.ptr A 0)) H2 K = K (.ptr A4 0) H3) ∧ f30 D n [.agg [.bool b, ks, vs, ps]] H3 = some (.bool (Nd.shaped ltS nd), H4) ∧
      CutI H A1 A2 A4 H3 [.bool b, ks, vs, ps] [.bool false, .nilSlice, .nilSlice, .nilSlice] [.bool false, .nilSlice, .nilSlice, .nilSlice] ∧ CutI H A1 A2 A4 H4 [.bool b, ks, vs, ps] [.bool false, .nilSlice, .nilSlice, .nilSlice] [.bool false, .nilSlice, .nilSlice, .nilSlice] := by
  have p1 : Prs H (H.push (.cells [.bool b, ks, vs, ps] 34 1 false)) := (Stp.refl hk).push _
  have g1 : (H.push (.cells [.bool b, ks, vs, ps] 34 1 false)).h.get H.next = some (.cells [.bool b, ks, vs, ps] 34 1 false) := AH.push_get_eq _ _
  have n1 : (H.push (.cells [.bool b, ks, vs, ps] 34 1 false)).next = H.next + 1 := rfl
  generalize hH1 : H.push (.cells [.bool b, ks, vs, ps] 34 1 false) = H1 at p1 g1 n1
  have p2 : Prs H1 (H1.push (.cells [.bool false, .nilSlice, .nilSlice, .nilSlice] 34 1 false)) := (Stp.refl p1.ok).push _
  have g2 : (H1.push (.cells [.bool false, .nilSlice, .nilSlice, .nilSlice] 34 1 false)).h.get H1.next = some (.cells [.bool false, .nilSlice, .nilSlice, .nilSlice] 34 1 false) := AH.push_get_eq _ _
  have n2 : (H1.push (.cells [.bool false, .nilSlice, .nilSlice, .nilSlice] 34 1 false)).next = H1.next + 1 := rfl
  have g12 := p2.get p1.ok g1
  generalize hH2 : H1.push (.cells [.bool false, .nilSlice, .nilSlice, .nilSlice] 34 1 false) = H2 at p2 g2 n2 g12
  have p3 : Prs H2 (H2.push (.cells [.bool false, .nilSlice, .nilSlice, .nilSlice] 34 1 false)) := (Stp.refl p2.ok).push _
  have g3 : (H2.push (.cells [.bool false, .nilSlice, .nilSlice, .nilSlice] 34 1 false)).h.get H2.next = some (.cells [.bool false, .nilSlice, .nilSlice, .nilSlice] 34 1 false) := AH.push_get_eq _ _
  have g13 := p3.get p2.ok g12
  have g23 := p3.get p2.ok g2
  generalize hH3 : H2.push (.cells [.bool false, .nilSlice, .nilSlice, .nilSlice] 34 1 false) = H3 at p3 g3 g13 g23
  have P3 : Prs H H3 := (p1.trans p2).trans p3
  obtain ⟨H4, e4, p4⟩ := shaped_ok D n p3.ok (h.prs P3) hs hn
  have c3 : CutI H H.next H1.next H2.next H3 [.bool b, ks, vs, ps] [.bool false, .nilSlice, .nilSlice, .nilSlice] [.bool false, .nilSlice, .nilSlice, .nilSlice] := ⟨P3, g13, g23, g3, by omega, by omega, by omega⟩
  refine ⟨H1, H2, H3, H4, H.next, H1.next, H2.next, fun K => ?_, fun K => ?_, fun K => ?_, e4, c3, c3.step p4⟩
  · simp only [ev, lg, wnt_undef, if_true, if_false, decide_true, decide_false, Bool.not_true, Bool.not_false, Bool.false_eq_true, Bool.true_eq_false, Bool.and_true, Bool.true_and, Bool.and_false, Bool.false_and, Bool.or_true, Bool.true_or, Bool.or_false, Bool.false_or, bA_ok hk, hH1]
  · simp only [ev, lg, wnt_undef, if_true, if_false, decide_true, decide_false, Bool.not_true, Bool.not_false, Bool.false_eq_true, Bool.true_eq_false, Bool.and_true, Bool.true_and, Bool.and_false, Bool.false_and, Bool.or_true, Bool.true_or, Bool.or_false, Bool.false_or, bA_ok p1.ok, hH2]
  · simp only [ev, lg, wnt_undef, if_true, if_false, decide_true, decide_false, Bool.not_true, Bool.not_false, Bool.false_eq_true, Bool.true_eq_false, Bool.and_true, Bool.true_and, Bool.and_false, Bool.false_and, Bool.or_true, Bool.true_or, Bool.or_false, Bool.false_or, bA_ok p2.ok, hH3]
end Go.Eng.Sh
end
section
namespace Go.Eng.Sh
open Go.Nd (Ptr sumL cutOk cutA cutB)
theorem cutLeaf (D : Dyn) (n : Nat) (hn : 200000000 ≤ n) {H : AH} (hk : H.ok) {v : AV} {nd : Nd.Node} (h : NodeG H v nd) (hs : small nd) (hsh : Nd.shaped ltS nd = true) (hc : cuttable nd) (hl : nd.leaf = true) :
    ∃ k va vb H', f19 D n [v] H = some (.tuple [va, S (nd.keys.getD k []), vb, .int .i64 ((0 : Nat) : Int)], H') ∧ Prs H H' ∧ NodeG H' va (cutA nd k) ∧ NodeG H' vb (cutB nd k) ∧ cutOk nd k := by
  have h0 := h.node
  obtain ⟨ks, vs, ps, rfl, h1, h2, h3⟩ := h
  rw [hl] at h0
  have hkl := Nd.sumL_ge nd.keys
  have hvl : nd.vals.length = nd.keys.length := by
    simp only [Nd.shaped, hl, if_true, Bool.and_eq_true, decide_eq_true_eq] at hsh
    exact hsh.2.1.1
  obtain ⟨s1, s2, s3⟩ := id hs
  obtain ⟨c1, c2⟩ := id hc
  obtain ⟨H1, H2, H3, H4, A1, A2, A4, b1, b2, b3, e4, i3, i4⟩ := cutHead D n hn hk hl h0 hs
  obtain ⟨k, H5, e5, p5, k1, k2⟩ := half_ok D n hn i4.prs.ok (h0.prs i4.prs) hs hsh hc
  simp only [hl, if_true] at k2
  have i5 := i4.step p5
  obtain ⟨H6, e6, i6, t6⟩ := i5.st2 (o := 0) (x := .bool true) rfl (by simp)
  obtain ⟨H7, e7, i7, t7⟩ := i6.st4 (o := 0) (x := .bool true) rfl (by simp)
  have m {H' : AH} (p : Prs H H') := h1.mono p (fun _ _ x => x)
  have m2 {H' : AH} (p : Prs H H') := h2.mono p (fun _ _ x => x)
  obtain ⟨r8, k8, H8, c8, e8, p8, f8⟩ := hiS_ok D n i7.prs.ok (m i7.prs) (by omega) k1 (by omega) A4 i7.lt
  have i8 := i7.step p8
  obtain ⟨H9, e9, i9, t9⟩ := i8.st2 (o := 1) (x := k8) f8.isCell (by simp)
  have f9 := f8.stp t9 (by have := i8.o4; omega)
  obtain ⟨r10, k10, H10, _, c10, e10, p10, f10⟩ := loS_ok D n i9.prs.ok (m i9.prs) (by omega) (show k < _ by omega) A4 i9.lt
  have i10 := i9.step p10
  obtain ⟨H11, e11, i11, t11⟩ := i10.st4 (o := 1) (x := k10) f10.isCell (by simp)
  have f11 := f10.stp t11 (by omega)
  obtain ⟨r12, k12, H12, c12, e12, p12, f12⟩ := hiS_ok D n i11.prs.ok (m2 i11.prs) (by omega) k1 (by omega) A4 i11.lt
  have i12 := i11.step p12
  obtain ⟨r13, k13, H13, q13, c13, e13, p13, f13⟩ := loS_ok D n i12.prs.ok (m2 i12.prs) (by omega) (show k < _ by omega) A4 i12.lt
  have c13' : slSl 1 vs (some (.int .i64 (k : Nat))) none none H11 = some r13 := by rw [slSl_same (m2 i12.prs) (m2 i11.prs) (by decide)]; exact c13
  have i13 := i12.step p13
  obtain ⟨H14, e14, i14, t14⟩ := i13.st2 (o := 2) (x := k12) f12.isCell (by simp)
  obtain ⟨H15, e15, i15, t15⟩ := i14.st4 (o := 2) (x := k13) f13.isCell (by simp)
  have o4 := i15.o4
  have h24 := i15.o1
  have F8 : FrG A4 1 9 H15 k8 _ _ := (((((f9.prs p10).stp t11 (by omega)).prs p12).prs p13).stp t14 (by omega)).stp t15 (by omega)
  have F10 : FrG A4 1 9 H15 k10 _ _ := (((f11.prs p12).prs p13).stp t14 (by omega)).stp t15 (by omega)
  have F12 : FrG A4 1 9 H15 k12 _ _ := ((f12.prs p13).stp t14 (by omega)).stp t15 (by omega)
  have F13 : FrG A4 1 9 H15 k13 _ _ := (f13.stp t14 (by omega)).stp t15 (by omega)
  have na : FrN A4 H15 k8 k12 .nilSlice (cutA nd k) := by
    simp only [cutA, hl, if_true]; exact ⟨F8, F12, FrG.nil ..⟩
  have nb : FrN A4 H15 k10 k13 .nilSlice (cutB nd k) := by
    simp only [cutB, hl, if_true]; exact ⟨F10, F13, FrG.nil ..⟩
  obtain ⟨H16, e16, P, fa, fb⟩ := cutJ_ok D n i15 ((m i15.prs).row) (fun B hB => h1.lt hB) (show k < nd.keys.length by omega) na nb
  refine ⟨k, .agg [.bool true, k8, k12, .nilSlice], .agg [.bool true, k10, k13, .nilSlice], H16, ?_, P, ?_, ?_, k1, by rw [hl]; simp only [if_true]; omega⟩
  · have t2 : ¬ ((nd.keys.length : Nat) : Int) < ((2 : Nat) : Int) := by omega
    simp (config := { maxSteps := 1000000 }) (disch := omega) only [f19, ev, lg, wnt_undef, if_true, if_false, decide_true, decide_false, Bool.not_true, Bool.not_false, Bool.false_eq_true, Bool.true_eq_false, Bool.and_true, Bool.true_and, Bool.and_false, Bool.false_and, Bool.or_true, Bool.true_or, Bool.or_false, Bool.false_or, hl, b1, b2, b3, ldN_get i3.a1, ldN_get i4.a1, sub4, Option.map_some, e4, hsh, ld1_get i4.a1, h1.row.lnSl, t2, e5, ld1_get i5.a1, e6, chk_ok (ld1_get i6.a1 0) (aveq_bool _), e7, ld1_get i7.a1, c8, e8, e9, ld1_get i9.a1, c10, e10, e11, ld1_get i11.a1, c12, c13', e12, chk_ok (ld1_get i12.a1 2) (aveq_row h2.row), chk_ok c13 q13, e13, e14, e15, e16]
  · exact ⟨k8, k12, .nilSlice, by simp only [cutA, hl, if_true], fa.k.g, fa.v.g, fa.p.g⟩
  · exact ⟨k10, k13, .nilSlice, by simp only [cutB, hl, if_true], fb.k.g, fb.v.g, fb.p.g⟩
end Go.Eng.Sh
end
section
namespace Go.Eng.Sh
open Go.Nd (Ptr sumL cutOk cutA cutB)
theorem cutInner (D : Dyn) (n : Nat) (hn : 200000000 ≤ n) {H : AH} (hk : H.ok) {v : AV} {nd : Nd.Node} (h : NodeG H v nd) (hs : small nd) (hsh : Nd.shaped ltS nd = true) (hc : cuttable nd) (hl : nd.leaf = false) :
    ∃ k va vb H', f19 D n [v] H = some (.tuple [va, S (nd.keys.getD k []), vb, .int .i64 ((0 : Nat) : Int)], H') ∧ Prs H H' ∧ NodeG H' va (cutA nd k) ∧ NodeG H' vb (cutB nd k) ∧ cutOk nd k := by
  have h0 := h.node
  obtain ⟨ks, vs, ps, rfl, h1, h2, h3⟩ := h
  rw [hl] at h0
  have hkl := Nd.sumL_ge nd.keys
  have hpl : nd.kids.length = nd.keys.length + 1 := by
    simp only [Nd.shaped, hl, Bool.false_eq_true, if_false, Bool.and_eq_true, decide_eq_true_eq] at hsh
    exact hsh.2.1.2
  obtain ⟨s1, s2, s3⟩ := id hs
  obtain ⟨c1, c2⟩ := id hc
  obtain ⟨H1, H2, H3, H4, A1, A2, A4, b1, b2, b3, e4, i3, i4⟩ := cutHead D n hn hk hl h0 hs
  obtain ⟨k, H5, e5, p5, k1, k2⟩ := half_ok D n hn i4.prs.ok (h0.prs i4.prs) hs hsh hc
  simp only [hl, Bool.false_eq_true, if_false] at k2
  have i5 := i4.step p5
  obtain ⟨H6, e6, i6, t6⟩ := i5.st2 (o := 0) (x := .bool false) rfl (by simp)
  obtain ⟨H7, e7, i7, t7⟩ := i6.st4 (o := 0) (x := .bool false) rfl (by simp)
  have m {H' : AH} (p : Prs H H') := h1.mono p (fun _ _ x => x)
  have m2 {H' : AH} (p : Prs H H') := h3.mono p (fun _ _ x => x)
  obtain ⟨r8, k8, H8, c8, e8, p8, f8⟩ := hiS_ok D n i7.prs.ok (m i7.prs) (by omega) k1 (by omega) A4 i7.lt
  have i8 := i7.step p8
  obtain ⟨H9, e9, i9, t9⟩ := i8.st2 (o := 1) (x := k8) f8.isCell (by simp)
  have f9 := f8.stp t9 (by have := i8.o4; omega)
  obtain ⟨r10, k10, H10, _, c10, e10, p10, f10⟩ := loS_ok D n i9.prs.ok (m i9.prs) (by omega) (show k + 1 < _ by omega) A4 i9.lt
  have i10 := i9.step p10
  obtain ⟨H11, e11, i11, t11⟩ := i10.st4 (o := 1) (x := k10) f10.isCell (by simp)
  have f11 := f10.stp t11 (by omega)
  obtain ⟨r12, k12, H12, c12, e12, p12, f12⟩ := hiP_ok D n i11.prs.ok (m2 i11.prs) (by omega) (show 0 < k + 1 by omega) (by omega) A4 i11.lt
  have i12 := i11.step p12
  obtain ⟨r13, k13, H13, q13, c13, e13, p13, f13⟩ := loP_ok D n i12.prs.ok (m2 i12.prs) (by omega) (show k + 1 < _ by omega) A4 i12.lt
  have c13' : slSl 3 ps (some (.int .i64 ((k + 1 : Nat) : Int))) none none H11 = some r13 := by rw [slSl_same (m2 i12.prs) (m2 i11.prs) (by decide)]; exact c13
  have i13 := i12.step p13
  obtain ⟨H14, e14, i14, t14⟩ := i13.st2 (o := 3) (x := k12) f12.isCell (by simp)
  obtain ⟨H15, e15, i15, t15⟩ := i14.st4 (o := 3) (x := k13) f13.isCell (by simp)
  simp only [Int.natCast_add] at c10 c12 c13 c13'
  have o4 := i15.o4
  have h24 := i15.o1
  have F8 : FrG A4 1 9 H15 k8 _ _ := (((((f9.prs p10).stp t11 (by omega)).prs p12).prs p13).stp t14 (by omega)).stp t15 (by omega)
  have F10 : FrG A4 1 9 H15 k10 _ _ := (((f11.prs p12).prs p13).stp t14 (by omega)).stp t15 (by omega)
  have F12 : FrG A4 3 59 H15 k12 _ _ := ((f12.prs p13).stp t14 (by omega)).stp t15 (by omega)
  have F13 : FrG A4 3 59 H15 k13 _ _ := (f13.stp t14 (by omega)).stp t15 (by omega)
  have na : FrN A4 H15 k8 .nilSlice k12 (cutA nd k) := by
    simp only [cutA, hl, Bool.false_eq_true, if_false]; exact ⟨F8, FrG.nil .., F12⟩
  have nb : FrN A4 H15 k10 .nilSlice k13 (cutB nd k) := by
    simp only [cutB, hl, Bool.false_eq_true, if_false]; exact ⟨F10, FrG.nil .., F13⟩
  obtain ⟨H16, e16, P, fa, fb⟩ := cutJ_ok D n i15 ((m i15.prs).row) (fun B hB => h1.lt hB) (show k < nd.keys.length by omega) na nb
  refine ⟨k, .agg [.bool false, k8, .nilSlice, k12], .agg [.bool false, k10, .nilSlice, k13], H16, ?_, P, ?_, ?_, k1, by rw [hl]; simp only [Bool.false_eq_true, if_false]; omega⟩
  · have t2 : ¬ ((nd.keys.length : Nat) : Int) < ((2 : Nat) : Int) := by omega
    have t3 : ¬ ((nd.keys.length : Nat) : Int) < ((3 : Nat) : Int) := by omega
    simp (config := { maxSteps := 1000000 }) (disch := omega) only [f19, ev, lg, wnt_undef, if_true, if_false, decide_true, decide_false, Bool.not_true, Bool.not_false, Bool.false_eq_true, Bool.true_eq_false, Bool.and_true, Bool.true_and, Bool.and_false, Bool.false_and, Bool.or_true, Bool.true_or, Bool.or_false, Bool.false_or, hl, b1, b2, b3, ldN_get i3.a1, ldN_get i4.a1, sub4, Option.map_some, e4, hsh, ld1_get i4.a1, h1.row.lnSl, t2, t3, e5, ld1_get i5.a1, e6, chk_ok (ld1_get i6.a1 0) (aveq_bool _), e7, ld1_get i7.a1, c8, e8, e9, ld1_get i9.a1, c10, e10, e11, ld1_get i11.a1, c12, c13', e12, chk_ok (ld1_get i12.a1 3) (aveq_row h3.row), chk_ok c13 q13, e13, e14, e15, e16]
  · exact ⟨k8, .nilSlice, k12, by simp only [cutA, hl, Bool.false_eq_true, if_false], fa.k.g, fa.v.g, fa.p.g⟩
  · exact ⟨k10, .nilSlice, k13, by simp only [cutB, hl, Bool.false_eq_true, if_false], fb.k.g, fb.v.g, fb.p.g⟩
end Go.Eng.Sh
end
section
namespace Go.Eng
namespace T
variable {α : Type}
theorem setF_any : ∀ (f g : Nat) (t : T α) (n : Nat) (a : α) (t' t'' : T α), setF f t n a = some t' → setF g t n a = some t'' → t' = t'' := by
  intro f
  induction f with
  | zero => intro g t n a t' t'' h; simp [setF_zero] at h
  | succ f ih =>
    intro g t n a t' t'' h h'
    cases g with
    | zero => simp [setF_zero] at h'
    | succ g =>
      cases t with
      | leaf =>
        rw [setF_leaf] at h h'
        split at h
        · rename_i h0; rw [if_pos h0] at h'; rw [h] at h'; simpa using h'
        · rename_i h0
          rw [if_neg h0] at h'
          split at h
          · rename_i hm
            rw [if_pos hm] at h'
            split at h
            · rename_i l hl
              split at h'
              · rename_i l' hl'
                have := ih g _ _ _ _ _ hl hl'
                subst this; rw [h] at h'; simpa using h'
              · simp at h'
            · simp at h
          · rename_i hm
            rw [if_neg hm] at h'
            split at h
            · rename_i l hl
              split at h'
              · rename_i l' hl'
                have := ih g _ _ _ _ _ hl hl'
                subst this; rw [h] at h'; simpa using h'
              · simp at h'
            · simp at h
      | node l v r =>
        rw [setF_node] at h h'
        split at h
        · rename_i h0; rw [if_pos h0] at h'; rw [h] at h'; simpa using h'
        · rename_i h0
          rw [if_neg h0] at h'
          split at h
          · rename_i hm
            rw [if_pos hm] at h'
            split at h
            · rename_i l hl
              split at h'
              · rename_i l' hl'
                have := ih g _ _ _ _ _ hl hl'
                subst this; rw [h] at h'; simpa using h'
              · simp at h'
            · simp at h
          · rename_i hm
            rw [if_neg hm] at h'
            split at h
            · rename_i l hl
              split at h'
              · rename_i l' hl'
                have := ih g _ _ _ _ _ hl hl'
                subst this; rw [h] at h'; simpa using h'
              · simp at h'
            · simp at h
/-- Set, told by its cases. -/
noncomputable def st (t : T α) (n : Nat) (a : α) : T α := (T.set 40 t n a).getD .leaf
theorem st_of {f : Nat} {t : T α} {n : Nat} {a : α} {t' : T α} (h : setF f t n a = some t') : st t n a = t' := by
  obtain ⟨t2, h2⟩ := Option.isSome_iff_exists.1 (T.set_some 40 t n a)
  have := setF_any _ _ _ _ _ _ _ h2 h
  simp only [st, h2, Option.getD_some, this]
theorem st_big (t : T α) (n : Nat) (a : α) : ∃ f, setF f t n a = some (st t n a) := by
  obtain ⟨t2, h2⟩ := Option.isSome_iff_exists.1 (T.set_some 40 t n a)
  exact ⟨_, by simp only [st, h2, Option.getD_some]; exact h2⟩
theorem st_leaf (n : Nat) (a : α) : st (.leaf : T α) n a = if n = 0 then .node .leaf (some a) .leaf else if n % 2 = 1 then .node (st .leaf (n / 2) a) none .leaf else .node .leaf none (st .leaf (n / 2 - 1) a) := by
  by_cases h0 : n = 0
  · rw [if_pos h0]; exact st_of (f := 1) (by rw [setF_leaf, if_pos h0])
  · rw [if_neg h0]
    by_cases hm : n % 2 = 1
    · rw [if_pos hm]
      obtain ⟨f, hf⟩ := st_big (.leaf : T α) (n / 2) a
      exact st_of (f := f + 1) (by rw [setF_leaf, if_neg h0, if_pos hm, hf])
    · rw [if_neg hm]
      obtain ⟨f, hf⟩ := st_big (.leaf : T α) (n / 2 - 1) a
      exact st_of (f := f + 1) (by rw [setF_leaf, if_neg h0, if_neg hm, hf])
theorem st_node (l : T α) (v : Option α) (r : T α) (n : Nat) (a : α) : st (.node l v r) n a = if n = 0 then .node l (some a) r else if n % 2 = 1 then .node (st l (n / 2) a) v r else .node l v (st r (n / 2 - 1) a) := by
  by_cases h0 : n = 0
  · rw [if_pos h0]; exact st_of (f := 1) (by rw [setF_node, if_pos h0])
  · rw [if_neg h0]
    by_cases hm : n % 2 = 1
    · rw [if_pos hm]
      obtain ⟨f, hf⟩ := st_big l (n / 2) a
      exact st_of (f := f + 1) (by rw [setF_node, if_neg h0, if_pos hm, hf])
    · rw [if_neg hm]
      obtain ⟨f, hf⟩ := st_big r (n / 2 - 1) a
      exact st_of (f := f + 1) (by rw [setF_node, if_neg h0, if_neg hm, hf])
theorem st_st (n : Nat) : ∀ (t : T α) (a b : α), st (st t n a) n b = st t n b := by
  induction n using Nat.strongRecOn with
  | ind n ih =>
    intro t a b
    cases t with
    | leaf =>
      rw [st_leaf n a, st_leaf n b]
      by_cases h0 : n = 0
      · rw [if_pos h0, if_pos h0, st_node, if_pos h0]
      · rw [if_neg h0, if_neg h0]
        by_cases hm : n % 2 = 1
        · rw [if_pos hm, if_pos hm, st_node, if_neg h0, if_pos hm, ih (n / 2) (by omega)]
        · rw [if_neg hm, if_neg hm, st_node, if_neg h0, if_neg hm, ih (n / 2 - 1) (by omega)]
    | node l v r =>
      rw [st_node l v r n a, st_node l v r n b]
      by_cases h0 : n = 0
      · rw [if_pos h0, if_pos h0, st_node, if_pos h0]
      · rw [if_neg h0, if_neg h0]
        by_cases hm : n % 2 = 1
        · rw [if_pos hm, if_pos hm, st_node, if_neg h0, if_pos hm, ih (n / 2) (by omega)]
        · rw [if_neg hm, if_neg hm, st_node, if_neg h0, if_neg hm, ih (n / 2 - 1) (by omega)]
theorem st_comm (n : Nat) : ∀ (m : Nat) (t : T α) (a b : α), m ≠ n → st (st t n a) m b = st (st t m b) n a := by
  induction n using Nat.strongRecOn with
  | ind n ih =>
    intro m t a b hne
    have key : ∀ (l : T α) (v : Option α) (r : T α), st (st (.node l v r) n a) m b = st (st (.node l v r) m b) n a := by
      intro l v r
      rw [st_node l v r n a, st_node l v r m b]
      by_cases n0 : n = 0
      · rw [if_pos n0]
        have m0 : m ≠ 0 := by omega
        rw [if_neg m0, st_node, if_neg m0]
        by_cases mm : m % 2 = 1
        · rw [if_pos mm, if_pos mm, st_node, if_pos n0]
        · rw [if_neg mm, if_neg mm, st_node, if_pos n0]
      · rw [if_neg n0]
        by_cases nm : n % 2 = 1
        · rw [if_pos nm, st_node]
          by_cases m0 : m = 0
          · rw [if_pos m0, if_pos m0, st_node, if_neg n0, if_pos nm]
          · rw [if_neg m0, if_neg m0]
            by_cases mm : m % 2 = 1
            · rw [if_pos mm, if_pos mm, st_node, if_neg n0, if_pos nm, ih (n / 2) (by omega) (m / 2) _ _ _ (by omega)]
            · rw [if_neg mm, if_neg mm, st_node, if_neg n0, if_pos nm]
        · rw [if_neg nm, st_node]
          by_cases m0 : m = 0
          · rw [if_pos m0, if_pos m0, st_node, if_neg n0, if_neg nm]
          · rw [if_neg m0, if_neg m0]
            by_cases mm : m % 2 = 1
            · rw [if_pos mm, if_pos mm, st_node, if_neg n0, if_neg nm]
            · rw [if_neg mm, if_neg mm, st_node, if_neg n0, if_neg nm, ih (n / 2 - 1) (by omega) (m / 2 - 1) _ _ _ (by omega)]
    cases t with
    | node l v r => exact key l v r
    | leaf =>
      have e : ∀ (k : Nat) (c : α), st (.leaf : T α) k c = st (.node .leaf none .leaf) k c := fun k c => by rw [st_leaf, st_node]
      rw [e n a, e m b]; exact key _ _ _
end T
theorem AH.push_st (H : AH) (o : AObj) : H.push o = ⟨T.st H.h H.next o, H.next + 1⟩ := rfl
theorem AH.put_st (H : AH) (A : Nat) (o : AObj) : H.put A o = ⟨T.st H.h A o, H.next⟩ := rfl
theorem AH.put_push (H : AH) (o o' : AObj) : (H.push o).put H.next o' = H.push o' := by
  simp only [AH.push_st, AH.put_st, T.st_st]
theorem AH.put_put (H : AH) (A : Nat) (o o' : AObj) : (H.put A o).put A o' = H.put A o' := by
  simp only [AH.put_st, T.st_st]
theorem AH.put_in (H : AH) (o o' : AObj) {A : Nat} (h : A ≠ H.next) : (H.push o).put A o' = (H.put A o').push o := by
  simp only [AH.push_st, AH.put_st]; rw [T.st_comm H.next A _ _ _ h]
/-- A fresh block is written over, whole, or in one cell. -/
theorem stN_push {H : AH} {n : Nat} {z l : List AV} {e sz : Nat} {g : Bool} (hz : 0 < sz) (hl : l.length = n) (hn : z.length = n) (hc : allCells l = true) :
    stN n (.ptr H.next 0) (.agg l) (H.push (.cells z e sz g)) = some (undefA, H.push (.cells l e sz g)) := by
  rw [stN_ok (x := .agg l) (AH.push_get_eq _ _) hz hl hc (by omega), AH.put_push]
  simp [cellsA, List.drop_eq_nil_of_le, hn]
theorem st1_push {H : AH} {o : Nat} {z : List AV} {x : AV} {e sz : Nat} {g : Bool} (hz : 0 < sz) (hx : isCell x = true) (ho : o < z.length) :
    stN 1 (.ptr H.next o) x (H.push (.cells z e sz g)) = some (undefA, H.push (.cells (z.set o x) e sz g)) := by
  rw [st1_ok (AH.push_get_eq _ _) hz hx ho, AH.put_push]
/-- Reading what was there. -/
theorem Stp.ld1 {S : Nat → Prop} {H H' : AH} (s : Stp S H H') {A : Nat} (o : Nat) (h : A < H.next) (hS : ¬ S A) : Eng.ld1 (.ptr A o) H' = Eng.ld1 (.ptr A o) H := by simp only [Eng.ld1, s.keep A h hS]
theorem Stp.ldN {S : Nat → Prop} {H H' : AH} (s : Stp S H H') {A : Nat} (o n : Nat) (h : A < H.next) (hS : ¬ S A) : Eng.ldN n (.ptr A o) H' = Eng.ldN n (.ptr A o) H := by simp only [Eng.ldN, s.keep A h hS]
theorem Prs.l1 {H H' : AH} (s : Prs H H') (A : Nat) (o : Nat) (h : A < H.next) : Eng.ld1 (.ptr A o) H' = Eng.ld1 (.ptr A o) H := s.ld1 o h (fun x => x)
theorem Prs.lN {H H' : AH} (s : Prs H H') (A : Nat) (o n : Nat) (h : A < H.next) : Eng.ldN n (.ptr A o) H' = Eng.ldN n (.ptr A o) H := s.ldN o n h (fun x => x)
/-- Boxes that were pushed are read in whatever heap came of it. -/
theorem Prs.b1 {H H' : AH} {l : List AV} {e sz : Nat} {g : Bool} (s : Prs (H.push (.cells l e sz g)) H') (o : Nat) : Eng.ld1 (.ptr H.next o) H' = l[o]? := by
  rw [s.l1 _ _ (by rw [AH.push_next]; omega), ld1_push]
theorem Prs.bN {H H' : AH} {l : List AV} {e sz : Nat} {g : Bool} (s : Prs (H.push (.cells l e sz g)) H') (o n : Nat) : Eng.ldN n (.ptr H.next o) H' = (subN l o n).map .agg := by
  rw [s.lN _ _ _ (by rw [AH.push_next]; omega), ldN_push]
theorem Prs.refl {H : AH} (h : H.ok) : Prs H H := Stp.refl h
theorem Prs.pushed {H : AH} (h : H.ok) (o : AObj) : Prs H (H.push o) := (Stp.refl h).push o
theorem Prs.of_push {H H' : AH} {o : AObj} (h : H.ok) (s : Prs (H.push o) H') : Prs H H' := (Prs.pushed h o).trans s
end Go.Eng
end
