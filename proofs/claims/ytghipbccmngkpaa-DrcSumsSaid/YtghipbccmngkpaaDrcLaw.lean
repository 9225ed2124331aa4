/- What drc.Sum, the document's Sum and the law DrcSums return: the walks above digest's. Strings within the model's length bound. -/
import Derived.Test.YtghipbccmngkpaaDrcWalks
namespace Go.Proofs.Ytghipbccmngkpaa
open Go.RowKit

theorem strOf4_max (u : Int) : (strOf (bytes4 u)).size ≤ maxLen := by rw [strOf_size]; show 4 ≤ maxLen; unfold maxLen; omega
theorem two_cells (W : World) (T : TypeId) (s0 s1 : ByteArray) :
    (W.alloc (.cells #[.string s0, .string s1] T)).cell? ⟨W.heap.size, 0, none⟩ = some (.string s0) ∧ (W.alloc (.cells #[.string s0, .string s1] T)).cell? ⟨W.heap.size, 1, none⟩ = some (.string s1) :=
  ⟨cell_of_row _ _ _ _ _ _ (heap_alloc_new W _), cell_of_row _ _ _ _ _ _ (heap_alloc_new W _)⟩

set_option maxHeartbeats 1000000 in
theorem sum_any (n : Int) (s : ByteArray) (w : World) (hs : s.size ≤ maxLen) :
    Calls Try.prog 8 #[.int .i64 n, .string s] w fun e w' => e = .returned (.int .u64 (ofAll [strOf (bytes4 (IntKind.u64.wrap n)), s])) ∧ Below w.heap.size w w' := by
  have hm := strOf4_max (IntKind.u64.wrap n)
  generalize ht : strOf (bytes4 (IntKind.u64.wrap n)) = t at *
  generalize hz : ofAll [t, s] = z
  have HZ := Lib.hid hz; have HT := Lib.hid ht; clear hz ht
  go_enter Try.func8, Try.ntmps8
  go_wp2_with fail
  refine (digits_any _ _).mono ?_
  rw [HT.out]
  rintro e w1 ⟨rfl, hb⟩
  have hsz := hb.size
  go_wp2_with fail
  refine (digestOf_any _ t s _ (by simp) hm hs (two_cells w1 _ t s).1 (two_cells w1 _ t s).2).mono ?_
  rw [HZ.out]
  rintro e w2 ⟨rfl, hb2⟩
  go_wp2
  go_ret
  exact ⟨rfl, (hb.alloc hsz _).trans (hb2.mono (by simp; omega))⟩

set_option maxHeartbeats 1000000 in
theorem refSum_any (n : Int) (s : ByteArray) (w : World) (hs : s.size ≤ maxLen) :
    Calls Try.prog 9 #[.int .i64 n, .string s] w fun e w' => e = .returned (.int .u64 (ofAll [strOf (bytes4 (IntKind.u64.wrap n)), s])) ∧ Below w.heap.size w w' := by
  rw [bytes4_same]
  have hm := strOf4_max (IntKind.u32.wrap n)
  generalize ht : strOf (bytes4 (IntKind.u32.wrap n)) = t at *
  generalize hz : ofAll [t, s] = z
  have HZ := Lib.hid hz; have HT := Lib.hid ht; clear hz ht
  go_enter Try.func9, Try.ntmps9
  go_wp2_with fail
  refine (four_any _ _).mono ?_
  rw [HT.out]
  rintro e w1 ⟨rfl, hb⟩
  have hsz := hb.size
  go_wp2_with fail
  refine (refOf_any _ t s _ (by simp) hm hs (two_cells w1 _ t s).1 (two_cells w1 _ t s).2).mono ?_
  rw [HZ.out]
  rintro e w2 ⟨rfl, hb2⟩
  go_wp2
  go_ret
  exact ⟨rfl, (hb.alloc hsz _).trans (hb2.mono (by simp; omega))⟩

set_option maxHeartbeats 1000000 in
theorem drcSums_walk (n : Int) (s : ByteArray) (w : World) (hs : s.size ≤ maxLen) :
    Calls Try.prog 3 #[.int .i64 n, .string s] w fun e w' => e = .returned (.bool true) ∧ Below w.heap.size w w' := by
  by_cases hl : 10000 < s.size
  · go_enter Try.func3, Try.ntmps3
    go_wp2
    go_ret
    exact ⟨rfl, Below.refl _ _⟩
  · go_enter Try.func3, Try.ntmps3
    go_wp2_with fail
    refine (sum_any _ _ _ hs).mono ?_
    rintro e w1 ⟨rfl, hb⟩
    generalize hx : ofAll [strOf (bytes4 (IntKind.u64.wrap n)), s] = x at *
    have HX := Lib.hid hx; clear hx
    have hsz := hb.size
    go_wp2_with fail
    refine (refSum_any _ _ _ hs).mono ?_
    rw [HX.out]
    rintro e w2 ⟨rfl, hb2⟩
    go_wp2
    go_ret
    exact ⟨by simp, below_next hb hb2⟩
end Go.Proofs.Ytghipbccmngkpaa
