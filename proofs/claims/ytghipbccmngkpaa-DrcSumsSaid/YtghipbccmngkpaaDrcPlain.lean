/- The plain part of DrcSums: the sum over bytes, the bytes of a number, and that both ways of writing a number into bytes agree. No condition. -/
import Derived.Below
import Derived.Laws.BytesString
import Derived.Laws.NewBlocks
import Derived.WalkKit
namespace Go.Proofs.Ytghipbccmngkpaa
open Go.RowKit

def onI (u c : Int) : Int := IntKind.u64.wrap (bits BinOp.xor IntKind.u64 u (IntKind.u64.wrap c) * 1099511628211)
def sumI (u : Int) (l : List Int) : Int := l.foldl onI u
theorem sumI_snoc (u : Int) (l : List Int) (c : Int) : sumI u (l ++ [c]) = onI (sumI u l) c := by simp [sumI]
/-- The numbers of a text's bytes. -/
def ints (s : ByteArray) : List Int := s.data.toList.map (fun c => (c.toNat : Int))
theorem ints_length (s : ByteArray) : (ints s).length = s.size := by simp [ints]
theorem ints_take (s : ByteArray) (k : Nat) (h : k < s.size) : (ints s).take (k + 1) = (ints s).take k ++ [(s[k].toNat : Int)] := by
  rw [List.take_succ_eq_append_getElem (by simpa [ints] using h)]
  simp [ints]; rfl
theorem take_snocI (l : List Int) (k : Nat) (h : k < l.length) : l.take (k + 1) = l.take k ++ [l[k]?.getD 0] := by
  rw [List.take_succ_eq_append_getElem h, List.getElem?_eq_getElem h]; rfl
theorem ret_int {k : IntKind} {a b : Int} (h : a = b) : Ending.returned (.int k a) = .returned (.int k b) := by rw [h]
/-- A text of given bytes. -/
def strOf (zs : List Int) : ByteArray := ⟨(zs.map (fun z => UInt8.ofNat z.toNat)).toArray⟩
theorem strOf_size (zs : List Int) : (strOf zs).size = zs.length := by simp [strOf, ByteArray.size]
theorem strOf_push : ∀ (zs : List Int) (r : ByteArray), zs.foldl (fun r n => r.push (UInt8.ofNat n.toNat)) r = ⟨r.data ++ (zs.map (fun z => UInt8.ofNat z.toNat)).toArray⟩
  | [], r => by simp
  | z :: l, r => by
    simp only [List.map_cons, List.foldl_cons]
    rw [strOf_push l]
    simp [ByteArray.push]
theorem ints_strOf (zs : List Int) (h : ∀ z ∈ zs, 0 ≤ z ∧ z < 256) : ints (strOf zs) = zs := by
  simp only [ints, strOf, List.map_map]
  refine (List.map_congr_left (g := id) fun z hz => ?_).trans (List.map_id _)
  have := h z hz
  simp only [Function.comp, UInt8.toNat_ofNat', id]
  omega
/-- The eight bytes of a number. -/
def bytes8 (u : Int) : List Int := [u / 72057594037927936 % 256, u / 281474976710656 % 256, u / 1099511627776 % 256, u / 4294967296 % 256, u / 16777216 % 256, u / 65536 % 256, u / 256 % 256, u % 256]
theorem bytes8_in (u : Int) : ∀ z ∈ bytes8 u, 0 ≤ z ∧ z < 256 := by
  intro z hz; simp [bytes8] at hz; omega
def bytes4 (u : Int) : List Int := [u / 16777216 % 256, u / 65536 % 256, u / 256 % 256, u % 256]
theorem bytes4_in (u : Int) : ∀ z ∈ bytes4 u, 0 ≤ z ∧ z < 256 := by
  intro z hz; simp [bytes4] at hz; omega
/-- One part's share in the sum of parts. -/
def ofPart (u : Int) (s : ByteArray) : Int := sumI (sumI u (bytes8 (IntKind.u64.wrap s.size))) (ints s)
def ofAll (ss : List ByteArray) : Int := ss.foldl ofPart 14695981039346656037

/-- 'string(b)' where b is a new row of bytes. -/
theorem conv_new {P : Program} (w : World) (src dst e T : TypeId) (cap : Nat) (zs : List Int) (fz : Nat × Nat) (hs : P.underlying src = some (.slice e)) (he : P.underlying e = some (.int .u8)) (hd : P.underlying dst = some .string) :
    (convert src dst (.slice (some ⟨w.heap.size, 0, none⟩) zs.length cap)).run P (w.alloc (.cells (zs.map (Value.int .u8)).toArray T fz)) = .ok (.string (strOf zs)) (w.alloc (.cells (zs.map (Value.int .u8)).toArray T fz)) := by
  rw [run_convert_bytes_string _ src dst e _ _ cap hs he hd]
  have hl := run_loadCells_list (P := P) (w.alloc (.cells (zs.map (Value.int .u8)).toArray T fz)) ⟨w.heap.size, 0, none⟩ (zs.map (Value.int .u8)) (fun j v hj => by
    have hj' := (List.getElem?_eq_some_iff.1 hj).1
    have ea : (⟨w.heap.size, 0, none⟩ : Addr).add j = ⟨w.heap.size, j, none⟩ := by
      unfold Addr.add; split
      · subst_vars; rfl
      · simp
    rw [ea]
    show (match (w.heap.push _)[w.heap.size]? with | some (.cells c _ _) => _ | _ => _) = _
    simp only [Array.getElem?_push_size]
    simp only [Option.isSome_none, Bool.false_eq_true, if_false, List.getElem?_toArray]
    exact hj)
  simp only [List.length_map] at hl
  rw [run_bytesToString _ _ _ cap _ hl, strOf_push]
  have he0 : ByteArray.empty.data = #[] := rfl
  rw [he0]; simp [strOf]
/-- 'string(b)' where b owns a row of bytes. -/
theorem conv_own {P : Program} (w : World) (src dst e T : TypeId) (base n : Nat) (v : Value) (zs : List Int) (hs : P.underlying src = some (.slice e)) (he : P.underlying e = some (.int .u8)) (hd : P.underlying dst = some .string)
    (h : w.ownsRow base T 1 v n (zs.map (Value.int .u8))) (hn : 0 < n) :
    (convert src dst v).run P w = .ok (.string (strOf zs)) w := by
  obtain ⟨hlen, h2⟩ := h
  simp only [List.length_map, Nat.mul_one] at hlen h2
  rcases h2 with ⟨_, h0⟩ | ⟨g, cap, cur, rfl, _, hg, hnc, _, hsz, hcur⟩
  · omega
  rw [run_convert_bytes_string _ src dst e _ _ cap hs he hd]
  have hl := run_loadCells_list (P := P) w ⟨g, 0, none⟩ (zs.map (Value.int .u8)) (fun j u hj => by
    have hj' := (List.getElem?_eq_some_iff.1 hj).1
    simp only [List.length_map] at hj'
    have ea : (⟨g, 0, none⟩ : Addr).add j = ⟨g, j, none⟩ := by
      unfold Addr.add; split
      · subst_vars; rfl
      · simp
    rw [ea]
    show (match w.heap[g]? with | some (.cells c _ _) => _ | _ => _) = _
    rw [hg]
    simp only [Option.isSome_none, Bool.false_eq_true, if_false]
    rw [← hcur] at hj
    rw [List.getElem?_take_of_lt (by omega)] at hj
    simpa using hj)
  simp only [List.length_map] at hl
  rw [← hlen, run_bytesToString _ _ _ cap _ hl, strOf_push]
  have he0 : ByteArray.empty.data = #[] := rfl
  rw [he0]; simp [strOf]
theorem cell_newB (w : World) (T : TypeId) (zs : List Int) (k : Nat) (h : k < zs.length) :
    (w.alloc (.cells (zs.map (Value.int .u8)).toArray T)).cell? ⟨w.heap.size, 0 + k, none⟩ = some (.int .u8 (zs[k]?.getD 0)) := by
  rw [cell_of_row _ _ _ _ _ _ (heap_alloc_new w _)]
  simp [List.getElem?_eq_getElem h]
theorem cell_old {w : World} (o : Obj) {b k : Nat} {v : Value} (hb : b < w.heap.size) (h : w.cell? ⟨b, k, none⟩ = some v) : (w.alloc o).cell? ⟨b, k, none⟩ = some v :=
  (World.cell?_alloc_lt w o ⟨b, k, none⟩ hb).trans h
theorem cell_below {w w' : World} {b k : Nat} {v : Value} (h : w.cell? ⟨b, k, none⟩ = some v) (hb : b < w.heap.size) (hB : Below w.heap.size w w') : w'.cell? ⟨b, k, none⟩ = some v :=
  (hB.cell (p := ⟨b, k, none⟩) hb).trans h
def dv (n : Int) (q : Nat) : Int := n / 256 ^ q
theorem dv_in (n : Int) (q : Nat) (h0 : 0 ≤ n) (h1 : n ≤ 4294967295) : 0 ≤ dv n q ∧ dv n q ≤ 4294967295 := by
  unfold dv
  have hp : (0 : Int) < 256 ^ q := Int.pow_pos (by omega)
  exact ⟨Int.ediv_nonneg h0 (by omega), Int.le_trans (Int.ediv_le_self _ h0) h1⟩
theorem dv_succ (n : Int) (q : Nat) : dv n q / 256 = dv n (q + 1) := by
  unfold dv
  rw [Int.ediv_ediv_of_nonneg (Int.le_of_lt (Int.pow_pos (by omega))), Int.pow_succ]
theorem dv_last (n : Int) (m : Nat) (h : m < 4) : (bytes4 n).take (m + 1) = (bytes4 n).take m ++ [dv n (3 - m) % 256] := by
  have : m = 0 ∨ m = 1 ∨ m = 2 ∨ m = 3 := by omega
  rcases this with rfl | rfl | rfl | rfl <;> simp [bytes4, dv]
/-- The four bytes of a number, taken off its 64-bit form and off its 32-bit form. -/
theorem bytes4_same (n : Int) : bytes4 (IntKind.u64.wrap n) = bytes4 (IntKind.u32.wrap n) := by
  simp only [bytes4, IntKind.wrap, IntKind.signed, IntKind.bits]
  simp
  omega
end Go.Proofs.Ytghipbccmngkpaa
