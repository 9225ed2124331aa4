/- The walks of DrcSums: what each function of the sums returns. Strings within the model's length bound. -/
import Derived.Test.YtghipbccmngkpaaRows
import Derived.Test.YtghipbccmngkpaaDrcPlain
import Derived.WalkKit
import Derived.WalkSpells
import Derived.WalkLawsBesides
import Derived.Lib.Hide
import Derived.Deep.RegionHeld3
namespace Go.Proofs.Ytghipbccmngkpaa
open Go.RowKit

set_option maxHeartbeats 400000 in
theorem sumS_any (u : Int) (s : ByteArray) (w : World) (hs : s.size ≤ maxLen) :
    Calls Try.prog 47 #[.int .u64 u, .string s] w fun e w' => e = .returned (.int .u64 (sumI u (ints s))) ∧ w = w' := by
  unfold maxLen at hs
  go_enter Try.func47, Try.ntmps47
  go_wp2
  go_loop [0, 8] (fun x i => ∃ k : Nat, k ≤ s.size ∧ i = .int .i64 k ∧ x = .int .u64 (sumI u ((ints s).take k))) (fun _ i => s.size - (intOf i).toNat)
  case atStart => exact ⟨0, Nat.zero_le _, rfl, by simp [sumI]⟩
  case round =>
    obtain ⟨k, hk, rfl, rfl⟩ := hrel
    by_cases hlt : k < s.size
    · have HS : Hid (sumI u ((ints s).take (k + 1)) = onI (sumI u ((ints s).take k)) s[k].toNat) := by rw [ints_take s k hlt]; exact sumI_snoc _ _ _
      go_wp2
      go_round
      case rel => exact ⟨k + 1, by omega, by go_num, by rw [HS.out]; rfl⟩
      case measure => simp [intOf]; omega
    · go_wp2
      go_ret
      exact ⟨ret_int (by rw [List.take_of_length_le (by rw [ints_length]; omega)]), rfl⟩

set_option maxHeartbeats 400000 in
theorem from_any (u : Int) (s : ByteArray) (w : World) (hs : s.size ≤ maxLen) :
    Calls Try.prog 49 #[.int .u64 u, .string s] w fun e w' => e = .returned (.int .u64 (sumI u (ints s))) ∧ w = w' := by
  unfold maxLen at hs
  go_enter Try.func49, Try.ntmps49
  go_wp2
  go_loop [0, 5] (fun x i => ∃ k : Nat, k ≤ s.size ∧ i = .int .i64 k ∧ x = .int .u64 (sumI u ((ints s).take k))) (fun _ i => s.size - (intOf i).toNat)
  case atStart => exact ⟨0, Nat.zero_le _, rfl, by simp [sumI]⟩
  case round =>
    obtain ⟨k, hk, rfl, rfl⟩ := hrel
    by_cases hlt : k < s.size
    · have HS : Hid (sumI u ((ints s).take (k + 1)) = onI (sumI u ((ints s).take k)) s[k].toNat) := by rw [ints_take s k hlt]; exact sumI_snoc _ _ _
      go_wp2
      go_round
      case rel => exact ⟨k + 1, by omega, by go_num, by rw [HS.out]; rfl⟩
      case measure => simp [intOf]; omega
    · go_wp2
      go_ret
      exact ⟨ret_int (by rw [List.take_of_length_le (by rw [ints_length]; omega)]), rfl⟩

set_option maxHeartbeats 400000 in
theorem sumB_any (u : Int) (b off cap : Nat) (l : List Int) (w : World) (hs : l.length ≤ maxLen)
    (hc : ∀ k, k < l.length → w.cell? ⟨b, off + k, none⟩ = some (.int .u8 (l[k]?.getD 0))) :
    Calls Try.prog 48 #[.int .u64 u, .slice (some ⟨b, off, none⟩) l.length cap] w fun e w' => e = .returned (.int .u64 (sumI u l)) ∧ w = w' := by
  unfold maxLen at hs
  have HC := Lib.hid hc; clear hc
  go_enter Try.func48, Try.ntmps48
  go_wp2
  go_loop [0, 8] (fun x i => ∃ k : Nat, k ≤ l.length ∧ i = .int .i64 k ∧ x = .int .u64 (sumI u (l.take k))) (fun _ i => l.length - (intOf i).toNat)
  case atStart => exact ⟨0, Nat.zero_le _, rfl, by simp [sumI]⟩
  case round =>
    obtain ⟨k, hk, rfl, rfl⟩ := hrel
    by_cases hlt : k < l.length
    · have HS : Hid (sumI u (l.take (k + 1)) = onI (sumI u (l.take k)) (l[k]?.getD 0)) := by
        rw [take_snocI l k hlt]; exact sumI_snoc _ _ _
      obtain ⟨c, hcc⟩ : ∃ c, c = l[k]?.getD 0 := ⟨_, rfl⟩
      have h1 := HC.out k hlt
      rw [← hcc] at HS h1
      clear hcc
      go_wp2
      go_round
      case rel => exact ⟨k + 1, by omega, by go_num, by rw [HS.out]; rfl⟩
      case measure => simp [intOf]; omega
    · go_wp2
      go_ret
      exact ⟨ret_int (by rw [List.take_of_length_le (by omega)]), rfl⟩

set_option maxHeartbeats 2000000 in
set_option maxRecDepth 100000 in
theorem long_any (u : Int) (w : World) :
    Calls Try.prog 50 #[.int .u64 u] w fun e w' => e = .returned (.string (strOf (bytes8 u))) ∧ Below w.heap.size w w' := by
  have hmk : ∀ w, (Instr.makeSlice 61 (.int .i64 8) (.int .i64 8)).run Try.prog w = .ok (.slice (some ⟨w.heap.size, 0, none⟩) 8 8) (w.alloc (.cells #[.int .u8 0, .int .u8 0, .int .u8 0, .int .u8 0, .int .u8 0, .int .u8 0, .int .u8 0, .int .u8 0] 5)) := fun _ => by kernel_rfl
  have hcv := conv_new (P := Try.prog) w 61 9 5 5 8 (bytes8 u) (0, 0) Try.underlying61 Try.underlying5 Try.underlying9
  simp only [bytes8, List.length_cons, List.length_nil, List.map_cons, List.map_nil] at hcv
  generalize hr : strOf [u / 72057594037927936 % 256, u / 281474976710656 % 256, u / 1099511627776 % 256, u / 4294967296 % 256, u / 16777216 % 256, u / 65536 % 256, u / 256 % 256, u % 256] = r at hcv
  have HR : Hid (strOf (bytes8 u) = r) := hr
  clear hr
  go_enter Try.func50, Try.ntmps50
  go_wp2
  refine wp_loop_rounds 9 ?_
  iterate 9 (rw [rounds_succ]; go_wp2)
  go_ret
  rw [HR.out]
  exact ⟨rfl, (Below.refl _ _).alloc (Nat.le_refl _) _⟩

theorem info5 : (Try.prog.info? 5).map (fun i => (i.zero, i.size, i.bytes)) = some (some (.int .u8 0), 1, 1) := by kernel_rfl

set_option maxHeartbeats 2000000 in
set_option maxRecDepth 100000 in
theorem digits_any (u : Int) (w : World) :
    Calls Try.prog 26 #[.int .u64 u, .int .i64 4] w fun e w' => e = .returned (.string (strOf (bytes4 u))) ∧ Below w.heap.size w w' := by
  have hmk : ∀ w, (Instr.makeSlice 61 (.int .i64 4) (.int .i64 4)).run Try.prog w = .ok (.slice (some ⟨w.heap.size, 0, none⟩) 4 4) (w.alloc (.cells #[.int .u8 0, .int .u8 0, .int .u8 0, .int .u8 0] 5)) := fun _ => by kernel_rfl
  have hcv := conv_new (P := Try.prog) w 61 9 5 5 4 (bytes4 u) (0, 0) Try.underlying61 Try.underlying5 Try.underlying9
  simp only [bytes4, List.length_cons, List.length_nil, List.map_cons, List.map_nil] at hcv
  generalize hr : strOf [u / 16777216 % 256, u / 65536 % 256, u / 256 % 256, u % 256] = r at hcv
  have HR : Hid (strOf (bytes4 u) = r) := hr
  clear hr
  go_enter Try.func26, Try.ntmps26
  go_wp2
  refine wp_loop_rounds 5 ?_
  iterate 5 (rw [rounds_succ]; go_wp2)
  go_ret
  rw [HR.out]
  exact ⟨rfl, (Below.refl _ _).alloc (Nat.le_refl _) _⟩


set_option maxHeartbeats 2000000 in
set_option maxRecDepth 100000 in
theorem word_any (n : Int) (w : World) (h0 : 0 ≤ n) (h1 : n ≤ 4294967295) :
    Calls Try.prog 51 #[.slice none 0 0, .int .u32 n] w fun e w' => ∃ v, e = .returned v ∧ w'.ownsRow w.heap.size 5 1 v 4 ((bytes4 n).map (Value.int .u8)) ∧ Below w.heap.size w w' := by
  have hap : ∀ (a : Addr) (w : World), (Builtin.append_ #[61, 61] 61 #[.slice (some a) 0 0, .slice none 0 0]).run Try.prog w = .ok (.slice (some a) 0 0) w := fun _ _ => by kernel_rfl
  obtain ⟨i0, hi, hz0, hz1, hz2⟩ := info_parts info5
  go_enter Try.func51, Try.ntmps51
  go_wp2
  go_loopw [5, 6] (fun v i wr => ∃ m : Nat, m ≤ 4 ∧ i = .int .i64 (3 - (m : Int)) ∧ wr.ownsRow w.heap.size 5 1 v m (((bytes4 n).take m).map (Value.int .u8)) ∧ Below w.heap.size w wr) (fun _ i _ => (intOf i + 1).toNat)
  case atStart =>
    exact ⟨0, by omega, rfl, ⟨by simp, .inr ⟨w.heap.size, 0, #[], rfl, Nat.le_refl _, heap_alloc_new w _, by omega, by unfold maxLen; omega, by simp, by simp⟩⟩, (Below.refl _ _).alloc (Nat.le_refl _) _⟩
  case round =>
    obtain ⟨m, hm, rfl, hown, hb⟩ := hrel
    clear hap
    by_cases hlt : m < 4
    · have HL := Lib.hid (dv_last n m hlt)
      have hsz := hb.size
      go_wp2
      go_loop [7, 8] (fun k j => ∃ q : Nat, q ≤ 3 - m ∧ j = .int .i64 q ∧ k = .int .u32 (dv n q)) (fun _ j => (3 - (m : Int) - intOf j).toNat)
      case atStart => exact ⟨0, by omega, rfl, by simp [dv]⟩
      case round =>
        obtain ⟨q, hq, rfl, rfl⟩ := hrel
        obtain ⟨d0, d1⟩ := dv_in n q h0 h1
        have HD := Lib.hid (dv_succ n q)
        by_cases hlq : q < 3 - m
        · have : (q : Int) < 3 - m := by omega
          go_wp2
          go_round
          case rel => exact ⟨q + 1, by omega, by go_num, by rw [← HD.out]⟩
          case measure => simp [intOf]; omega
        · have hn : ¬ (q : Int) < 3 - m := by omega
          obtain rfl : q = 3 - m := by omega
          generalize hx : dv n (3 - m) = x at *
          go_wp2_with ((at_builtin; refine wpList_append_own _ rfl _ _ 61 rfl w.heap.size 5 i0 (.int .u8 0) 1 1 Try.underlying61 hi hz0 hz1 hz2 rfl (by decide) _ _ _ rfl (hown.alloc _) ⟨_, 0, none⟩ 1 1 [.int .u8 (x % 256)] rfl rfl ?c1 ?c2 ?c3 ?c4 ?c5 ?_))
          case c2 => rfl
          case c3 => unfold maxLen; omega
          case c4 => omega
          case c5 => omega
          intro v' w1 hown1 hgr1 _
          have hown2 : w1.ownsRow w.heap.size 5 1 v' (m + 1) (((bytes4 n).take (m + 1)).map (Value.int .u8)) := by
            rw [HL.out]; simpa using hown1
          have hb2 : Below w.heap.size w w1 := (hb.alloc hsz _).grown hgr1 (by simp; omega) (fun k hk => (hown.lt k hk).1)
          clear hown1 hgr1 hown
          go_wp2
          go_roundw
          case rel => exact ⟨m + 1, by omega, by go_num, hown2, hb2⟩
          case measure => simp [intOf]; omega
    · obtain rfl : m = 4 := by omega
      go_wp2
      go_ret
      exact ⟨_, rfl, hown, hb⟩
set_option maxHeartbeats 400000 in
theorem four_any (n : Int) (w : World) :
    Calls Try.prog 28 #[.int .i64 n] w fun e w' => e = .returned (.string (strOf (bytes4 (IntKind.u32.wrap n)))) ∧ Below w.heap.size w w' := by
  have hr : 0 ≤ IntKind.u32.wrap n ∧ IntKind.u32.wrap n ≤ 4294967295 := by
    simp only [IntKind.wrap, IntKind.signed, IntKind.bits]; simp; omega
  generalize hx : IntKind.u32.wrap n = x at *
  go_enter Try.func28, Try.ntmps28
  go_wp2_with fail
  clear hx
  refine (word_any x _ hr.1 hr.2).mono ?_
  rintro e w' ⟨v, rfl, hown, hb⟩
  have hcv := conv_own (P := Try.prog) w' 61 9 5 5 _ 4 v _ Try.underlying61 Try.underlying5 Try.underlying9 hown (by omega)
  clear hown
  go_wp2
  go_ret
  exact ⟨rfl, hb⟩

set_option maxHeartbeats 2000000 in
set_option maxRecDepth 100000 in
theorem digestOf_any (b : Nat) (s0 s1 : ByteArray) (w : World) (hb0 : b < w.heap.size) (hs0 : s0.size ≤ maxLen) (hs1 : s1.size ≤ maxLen)
    (hc0 : w.cell? ⟨b, 0, none⟩ = some (.string s0)) (hc1 : w.cell? ⟨b, 1, none⟩ = some (.string s1)) :
    Calls Try.prog 25 #[.slice (some ⟨b, 0, none⟩) 2 2] w fun e w' => e = .returned (.int .u64 (ofAll [s0, s1])) ∧ Below w.heap.size w w' := by
  have HF : Hid (ofAll [s0, s1] = sumI (sumI (sumI (sumI 14695981039346656037 (bytes8 (IntKind.u64.wrap s0.size))) (ints s0)) (bytes8 (IntKind.u64.wrap s1.size))) (ints s1)) := rfl
  go_enter Try.func25, Try.ntmps25
  go_wp2
  refine wp_loop_rounds 3 ?_
  rw [rounds_succ]; go_wp2
  refine wp_loop_rounds 9 ?_
  iterate 9 (rw [rounds_succ]; go_wp2_with fail)
  refine (sumB_any 14695981039346656037 w.heap.size 0 8 (bytes8 (IntKind.u64.wrap s0.size)) _ (by show 8 ≤ maxLen; unfold maxLen; omega) (fun k hk => cell_newB w 82 _ k hk)).mono ?_
  rintro e w' ⟨rfl, rfl⟩
  generalize hx1 : sumI 14695981039346656037 (bytes8 (IntKind.u64.wrap s0.size)) = x1
  rw [hx1] at HF; clear hx1
  go_wp2_with fail
  refine (sumS_any _ _ _ hs0).mono ?_
  rintro e w' ⟨rfl, rfl⟩
  generalize hx2 : sumI x1 (ints s0) = x2
  rw [hx2] at HF; clear hx2
  have hc1' := cell_old (.cells ((bytes8 (IntKind.u64.wrap s0.size)).map (Value.int .u8)).toArray 82) hb0 hc1
  have hb1 : Below w.heap.size w (w.alloc (.cells ((bytes8 (IntKind.u64.wrap s0.size)).map (Value.int .u8)).toArray 82)) := (Below.refl _ _).alloc (Nat.le_refl _) _
  have hsz : w.heap.size ≤ (w.alloc (.cells ((bytes8 (IntKind.u64.wrap s0.size)).map (Value.int .u8)).toArray 82)).heap.size := by simp
  clear hc0 hc1
  revert hc1' hb1 hsz
  generalize (w.alloc (.cells ((bytes8 (IntKind.u64.wrap s0.size)).map (Value.int .u8)).toArray 82)) = W1
  intro hc1' hb1 hsz
  go_wp2
  rw [rounds_succ]; go_wp2
  refine wp_loop_rounds 9 ?_
  iterate 9 (rw [rounds_succ]; go_wp2_with fail)
  refine (sumB_any x2 W1.heap.size 0 8 (bytes8 (IntKind.u64.wrap s1.size)) _ (by show 8 ≤ maxLen; unfold maxLen; omega) (fun k hk => cell_newB W1 82 _ k hk)).mono ?_
  rintro e w' ⟨rfl, rfl⟩
  generalize hx3 : sumI x2 (bytes8 (IntKind.u64.wrap s1.size)) = x3
  rw [hx3] at HF; clear hx3
  go_wp2_with fail
  refine (sumS_any _ _ _ hs1).mono ?_
  rintro e w' ⟨rfl, rfl⟩
  generalize hx4 : sumI x3 (ints s1) = x4
  rw [hx4] at HF; clear hx4
  go_wp2
  rw [rounds_succ]; go_wp2
  go_ret
  rw [HF.out]
  exact ⟨rfl, hb1.alloc hsz _⟩

theorem strOf8_max (u : Int) : (strOf (bytes8 u)).size ≤ maxLen := by rw [strOf_size]; show 8 ≤ maxLen; unfold maxLen; omega

def S2 (b : Nat) (s0 s1 : ByteArray) (w w' : World) : Prop := w'.cell? ⟨b, 0, none⟩ = some (.string s0) ∧ w'.cell? ⟨b, 1, none⟩ = some (.string s1) ∧ Below w.heap.size w w'
theorem S2.of (b : Nat) (s0 s1 : ByteArray) (w w' : World) (hb0 : b < w.heap.size) (hc0 : w.cell? ⟨b, 0, none⟩ = some (.string s0)) (hc1 : w.cell? ⟨b, 1, none⟩ = some (.string s1)) (h : Below w.heap.size w w') : S2 b s0 s1 w w' :=
  ⟨cell_below hc0 hb0 h, cell_below hc1 hb0 h, h⟩
theorem below_next {w a c : World} (h : Below w.heap.size w a) (k : Below a.heap.size a c) : Below w.heap.size w c := h.trans (k.mono h.size)

set_option maxHeartbeats 4000000 in
set_option maxRecDepth 100000 in
theorem refOf_any (b : Nat) (s0 s1 : ByteArray) (w : World) (hb0 : b < w.heap.size) (hs0 : s0.size ≤ maxLen) (hs1 : s1.size ≤ maxLen)
    (hc0 : w.cell? ⟨b, 0, none⟩ = some (.string s0)) (hc1 : w.cell? ⟨b, 1, none⟩ = some (.string s1)) :
    Calls Try.prog 27 #[.slice (some ⟨b, 0, none⟩) 2 2] w fun e w' => e = .returned (.int .u64 (ofAll [s0, s1])) ∧ Below w.heap.size w w' := by
  have HF : Hid (ofAll [s0, s1] = sumI (sumI (sumI (sumI 14695981039346656037 (ints (strOf (bytes8 (IntKind.u64.wrap s0.size))))) (ints s0)) (ints (strOf (bytes8 (IntKind.u64.wrap s1.size))))) (ints s1)) := by
    rw [ints_strOf _ (bytes8_in _), ints_strOf _ (bytes8_in _)]; rfl
  have hm0 := strOf8_max (IntKind.u64.wrap s0.size)
  have hm1 := strOf8_max (IntKind.u64.wrap s1.size)
  have HB := (Below.refl w.heap.size w).drew
  have HS := Lib.hid (S2.of b s0 s1 w · hb0 hc0 hc1)
  go_enter Try.func27, Try.ntmps27
  go_wp2
  refine wp_loop_rounds 3 ?_
  rw [rounds_succ]; go_wp2
  go_region_held3 (fun w' => w'.cell? ⟨b, 0, none⟩ = some (.string s0) ∧ w'.cell? ⟨b, 1, none⟩ = some (.string s1) ∧ Below w.heap.size w w') ((apply HS.out; first | assumption | (apply Below.drew; assumption)))
    (first
      | (go_at_call 50; refine (long_any _ _).mono ?_; rintro e w' ⟨rfl, hb⟩; have hb2 := below_next (by assumption) hb; clear hb)
      | (go_at_call 49; refine (from_any _ _ _ (by assumption)).mono ?_; rintro e w' ⟨rfl, rfl⟩))
  go_wp2
  rw [rounds_succ]; go_wp2
  have HB2 := hb2.drew
  go_region_held3 (fun w' => w'.cell? ⟨b, 0, none⟩ = some (.string s0) ∧ w'.cell? ⟨b, 1, none⟩ = some (.string s1) ∧ Below w.heap.size w w') ((apply HS.out; first | assumption | (apply Below.drew; assumption)))
    (first
      | (go_at_call 50; refine (long_any _ _).mono ?_; rintro e w' ⟨rfl, hb⟩; have hb2 := below_next (by assumption) hb; clear hb)
      | (go_at_call 49; refine (from_any _ _ _ (by assumption)).mono ?_; rintro e w' ⟨rfl, rfl⟩))
  go_wp2
  rw [rounds_succ]; go_wp2
  go_ret
  rw [HF.out]
  exact ⟨rfl, by assumption⟩
end Go.Proofs.Ytghipbccmngkpaa
