/- Engine, part 18: what an operation hangs on. No condition. -/
import Derived.Test.YtghipbccmngkpaaE17
namespace Go.Eng

mutual
theorem aveq_eq : ∀ (x y : AV), aveq x y = true → x = y
  | .bool a, .bool b, h => by simp [aveq] at h; rw [h]
  | .int k a, .int k' b, h => by simp [aveq, keq_eq, ieq_eq] at h; rw [h.1, h.2]
  | .str l b, .str m c, h => by simp [aveq] at h; rw [h.1, h.2]
  | .nilPtr, .nilPtr, _ => rfl
  | .ptr a o, .ptr b p, h => by simp [aveq] at h; rw [h.1, h.2]
  | .nilSlice, .nilSlice, _ => rfl
  | .slice a b c d, .slice a' b' c' d', h => by simp [aveq] at h; rw [h.1.1.1, h.1.1.2, h.1.2, h.2]
  | .nilMap, .nilMap, _ => rfl
  | .map a, .map b, h => by simp [aveq] at h; rw [h]
  | .func f a b, .func g c d, h => by simp [aveq] at h; rw [h.1.1, aveqL_eq a c h.1.2, aveqL_eq b d h.2]
  | .yieldTo a, .yieldTo b, h => by simp [aveq] at h; rw [h]
  | .nilFunc, .nilFunc, _ => rfl
  | .iface t x, .iface u y, h => by simp [aveq] at h; rw [h.1, aveq_eq x y h.2]
  | .nilIface, .nilIface, _ => rfl
  | .agg a, .agg b, h => by simp [aveq] at h; rw [aveqL_eq a b h]
  | .tuple a, .tuple b, h => by simp [aveq] at h; rw [aveqL_eq a b h]
  | .emptySl, y, h => by cases y <;> simp [aveq] at h
  | .bool _, .int _ _, h | .bool _, .str _ _, h | .bool _, .nilPtr, h | .bool _, .ptr _ _, h | .bool _, .nilSlice, h | .bool _, .slice _ _ _ _, h | .bool _, .emptySl, h | .bool _, .nilMap, h | .bool _, .map _, h | .bool _, .func _ _ _, h | .bool _, .yieldTo _, h | .bool _, .nilFunc, h | .bool _, .iface _ _, h | .bool _, .nilIface, h | .bool _, .agg _, h | .bool _, .tuple _, h => by simp [aveq] at h
  | .int _ _, .bool _, h | .int _ _, .str _ _, h | .int _ _, .nilPtr, h | .int _ _, .ptr _ _, h | .int _ _, .nilSlice, h | .int _ _, .slice _ _ _ _, h | .int _ _, .emptySl, h | .int _ _, .nilMap, h | .int _ _, .map _, h | .int _ _, .func _ _ _, h | .int _ _, .yieldTo _, h | .int _ _, .nilFunc, h | .int _ _, .iface _ _, h | .int _ _, .nilIface, h | .int _ _, .agg _, h | .int _ _, .tuple _, h => by simp [aveq] at h
  | .str _ _, .bool _, h | .str _ _, .int _ _, h | .str _ _, .nilPtr, h | .str _ _, .ptr _ _, h | .str _ _, .nilSlice, h | .str _ _, .slice _ _ _ _, h | .str _ _, .emptySl, h | .str _ _, .nilMap, h | .str _ _, .map _, h | .str _ _, .func _ _ _, h | .str _ _, .yieldTo _, h | .str _ _, .nilFunc, h | .str _ _, .iface _ _, h | .str _ _, .nilIface, h | .str _ _, .agg _, h | .str _ _, .tuple _, h => by simp [aveq] at h
  | .nilPtr, .bool _, h | .nilPtr, .int _ _, h | .nilPtr, .str _ _, h | .nilPtr, .ptr _ _, h | .nilPtr, .nilSlice, h | .nilPtr, .slice _ _ _ _, h | .nilPtr, .emptySl, h | .nilPtr, .nilMap, h | .nilPtr, .map _, h | .nilPtr, .func _ _ _, h | .nilPtr, .yieldTo _, h | .nilPtr, .nilFunc, h | .nilPtr, .iface _ _, h | .nilPtr, .nilIface, h | .nilPtr, .agg _, h | .nilPtr, .tuple _, h => by simp [aveq] at h
  | .ptr _ _, .bool _, h | .ptr _ _, .int _ _, h | .ptr _ _, .str _ _, h | .ptr _ _, .nilPtr, h | .ptr _ _, .nilSlice, h | .ptr _ _, .slice _ _ _ _, h | .ptr _ _, .emptySl, h | .ptr _ _, .nilMap, h | .ptr _ _, .map _, h | .ptr _ _, .func _ _ _, h | .ptr _ _, .yieldTo _, h | .ptr _ _, .nilFunc, h | .ptr _ _, .iface _ _, h | .ptr _ _, .nilIface, h | .ptr _ _, .agg _, h | .ptr _ _, .tuple _, h => by simp [aveq] at h
  | .nilSlice, .bool _, h | .nilSlice, .int _ _, h | .nilSlice, .str _ _, h | .nilSlice, .nilPtr, h | .nilSlice, .ptr _ _, h | .nilSlice, .slice _ _ _ _, h | .nilSlice, .emptySl, h | .nilSlice, .nilMap, h | .nilSlice, .map _, h | .nilSlice, .func _ _ _, h | .nilSlice, .yieldTo _, h | .nilSlice, .nilFunc, h | .nilSlice, .iface _ _, h | .nilSlice, .nilIface, h | .nilSlice, .agg _, h | .nilSlice, .tuple _, h => by simp [aveq] at h
  | .slice _ _ _ _, .bool _, h | .slice _ _ _ _, .int _ _, h | .slice _ _ _ _, .str _ _, h | .slice _ _ _ _, .nilPtr, h | .slice _ _ _ _, .ptr _ _, h | .slice _ _ _ _, .nilSlice, h | .slice _ _ _ _, .emptySl, h | .slice _ _ _ _, .nilMap, h | .slice _ _ _ _, .map _, h | .slice _ _ _ _, .func _ _ _, h | .slice _ _ _ _, .yieldTo _, h | .slice _ _ _ _, .nilFunc, h | .slice _ _ _ _, .iface _ _, h | .slice _ _ _ _, .nilIface, h | .slice _ _ _ _, .agg _, h | .slice _ _ _ _, .tuple _, h => by simp [aveq] at h
  | .nilMap, .bool _, h | .nilMap, .int _ _, h | .nilMap, .str _ _, h | .nilMap, .nilPtr, h | .nilMap, .ptr _ _, h | .nilMap, .nilSlice, h | .nilMap, .slice _ _ _ _, h | .nilMap, .emptySl, h | .nilMap, .map _, h | .nilMap, .func _ _ _, h | .nilMap, .yieldTo _, h | .nilMap, .nilFunc, h | .nilMap, .iface _ _, h | .nilMap, .nilIface, h | .nilMap, .agg _, h | .nilMap, .tuple _, h => by simp [aveq] at h
  | .map _, .bool _, h | .map _, .int _ _, h | .map _, .str _ _, h | .map _, .nilPtr, h | .map _, .ptr _ _, h | .map _, .nilSlice, h | .map _, .slice _ _ _ _, h | .map _, .emptySl, h | .map _, .nilMap, h | .map _, .func _ _ _, h | .map _, .yieldTo _, h | .map _, .nilFunc, h | .map _, .iface _ _, h | .map _, .nilIface, h | .map _, .agg _, h | .map _, .tuple _, h => by simp [aveq] at h
  | .func _ _ _, .bool _, h | .func _ _ _, .int _ _, h | .func _ _ _, .str _ _, h | .func _ _ _, .nilPtr, h | .func _ _ _, .ptr _ _, h | .func _ _ _, .nilSlice, h | .func _ _ _, .slice _ _ _ _, h | .func _ _ _, .emptySl, h | .func _ _ _, .nilMap, h | .func _ _ _, .map _, h | .func _ _ _, .yieldTo _, h | .func _ _ _, .nilFunc, h | .func _ _ _, .iface _ _, h | .func _ _ _, .nilIface, h | .func _ _ _, .agg _, h | .func _ _ _, .tuple _, h => by simp [aveq] at h
  | .yieldTo _, .bool _, h | .yieldTo _, .int _ _, h | .yieldTo _, .str _ _, h | .yieldTo _, .nilPtr, h | .yieldTo _, .ptr _ _, h | .yieldTo _, .nilSlice, h | .yieldTo _, .slice _ _ _ _, h | .yieldTo _, .emptySl, h | .yieldTo _, .nilMap, h | .yieldTo _, .map _, h | .yieldTo _, .func _ _ _, h | .yieldTo _, .nilFunc, h | .yieldTo _, .iface _ _, h | .yieldTo _, .nilIface, h | .yieldTo _, .agg _, h | .yieldTo _, .tuple _, h => by simp [aveq] at h
  | .nilFunc, .bool _, h | .nilFunc, .int _ _, h | .nilFunc, .str _ _, h | .nilFunc, .nilPtr, h | .nilFunc, .ptr _ _, h | .nilFunc, .nilSlice, h | .nilFunc, .slice _ _ _ _, h | .nilFunc, .emptySl, h | .nilFunc, .nilMap, h | .nilFunc, .map _, h | .nilFunc, .func _ _ _, h | .nilFunc, .yieldTo _, h | .nilFunc, .iface _ _, h | .nilFunc, .nilIface, h | .nilFunc, .agg _, h | .nilFunc, .tuple _, h => by simp [aveq] at h
  | .iface _ _, .bool _, h | .iface _ _, .int _ _, h | .iface _ _, .str _ _, h | .iface _ _, .nilPtr, h | .iface _ _, .ptr _ _, h | .iface _ _, .nilSlice, h | .iface _ _, .slice _ _ _ _, h | .iface _ _, .emptySl, h | .iface _ _, .nilMap, h | .iface _ _, .map _, h | .iface _ _, .func _ _ _, h | .iface _ _, .yieldTo _, h | .iface _ _, .nilFunc, h | .iface _ _, .nilIface, h | .iface _ _, .agg _, h | .iface _ _, .tuple _, h => by simp [aveq] at h
  | .nilIface, .bool _, h | .nilIface, .int _ _, h | .nilIface, .str _ _, h | .nilIface, .nilPtr, h | .nilIface, .ptr _ _, h | .nilIface, .nilSlice, h | .nilIface, .slice _ _ _ _, h | .nilIface, .emptySl, h | .nilIface, .nilMap, h | .nilIface, .map _, h | .nilIface, .func _ _ _, h | .nilIface, .yieldTo _, h | .nilIface, .nilFunc, h | .nilIface, .iface _ _, h | .nilIface, .agg _, h | .nilIface, .tuple _, h => by simp [aveq] at h
  | .agg _, .bool _, h | .agg _, .int _ _, h | .agg _, .str _ _, h | .agg _, .nilPtr, h | .agg _, .ptr _ _, h | .agg _, .nilSlice, h | .agg _, .slice _ _ _ _, h | .agg _, .emptySl, h | .agg _, .nilMap, h | .agg _, .map _, h | .agg _, .func _ _ _, h | .agg _, .yieldTo _, h | .agg _, .nilFunc, h | .agg _, .iface _ _, h | .agg _, .nilIface, h | .agg _, .tuple _, h => by simp [aveq] at h
  | .tuple _, .bool _, h | .tuple _, .int _ _, h | .tuple _, .str _ _, h | .tuple _, .nilPtr, h | .tuple _, .ptr _ _, h | .tuple _, .nilSlice, h | .tuple _, .slice _ _ _ _, h | .tuple _, .emptySl, h | .tuple _, .nilMap, h | .tuple _, .map _, h | .tuple _, .func _ _ _, h | .tuple _, .yieldTo _, h | .tuple _, .nilFunc, h | .tuple _, .iface _ _, h | .tuple _, .nilIface, h | .tuple _, .agg _, h => by simp [aveq] at h
theorem aveqL_eq : ∀ (x y : List AV), aveqL x y = true → x = y
  | [], [], _ => rfl
  | x :: xs, y :: ys, h => by simp [aveqL] at h; rw [aveq_eq x y h.1, aveqL_eq xs ys h.2]
  | [], _ :: _, h => by simp [aveqL] at h
  | _ :: _, [], h => by simp [aveqL] at h
end
end Go.Eng
