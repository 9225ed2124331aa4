/- Engine, part 4: the evaluator. Definitions only. -/
import Derived.Test.YtghipbccmngkpaaE3
noncomputable section
namespace Go.Eng

/-- What the evaluator looks things up in: types, functions, and functions whose work is told by a function of ours. -/
structure Cx where
  ty : T TypeInfo
  fn : T Func
  sm : T (List AV → AH → Option (AV × AH))

def Cx.und (X : Cx) (t : TypeId) : Option TypeDesc :=
  match X.ty.get t with
  | some i => match i.desc with
    | .named _ u => match X.ty.get u with
      | some j => some j.desc
      | none => none
    | d => some d
  | none => none
def Cx.size (X : Cx) (t : TypeId) : Option Nat :=
  match X.ty.get t with
  | some i => some i.size
  | none => none

mutual
/-- A constant of the program as an abstract value. -/
def ofV : Value → Option AV
  | .bool b => some (.bool b)
  | .int k n => some (.int k n)
  | .string s => some (.str s.data.toList.length (pack s.data.toList))
  | .pointer none => some .nilPtr
  | .slice none 0 0 => some .nilSlice
  | .map none => some .nilMap
  | .nilFunc => some .nilFunc
  | .nilIface => some .nilIface
  | .agg a => match ofVA a with | some l => some (.agg l) | none => none
  | .tuple a => match ofVA a with | some l => some (.tuple l) | none => none
  | _ => none
def ofVA : Array Value → Option (List AV)
  | ⟨l⟩ => ofVL l
def ofVL : List Value → Option (List AV)
  | [] => some []
  | v :: l => match ofV v, ofVL l with
    | some x, some xs => some (x :: xs)
    | _, _ => none
end

def opd (env : T AV) : Operand → Option AV
  | .tmp t => some (look env t)
  | .const v => ofV v
  | .func f => some (.func f [] [])
  | .global _ => none

def opds (env : T AV) : List Operand → Option (List AV)
  | [] => some []
  | x :: xs => match opd env x, opds env xs with
    | some v, some vs => some (v :: vs)
    | _, _ => none

def cellsA : AV → List AV
  | .agg l => l
  | v => [v]
/-- May it lie in one cell? -/
def isCell : AV → Bool
  | .agg _ => false
  | .tuple _ => false
  | _ => true
def allCells : List AV → Bool
  | [] => true
  | v :: l => isCell v && allCells l

def isAggD : TypeDesc → Bool
  | .struct _ => true
  | .array _ _ => true
  | _ => false

def takeN : Nat → List AV → Option (List AV)
  | 0, _ => some []
  | n + 1, x :: xs => match takeN n xs with | some r => some (x :: r) | none => none
  | _ + 1, [] => none
/-- So many cells from a place on. -/
def subN : List AV → Nat → Nat → Option (List AV)
  | l, 0, n => takeN n l
  | _ :: l, o + 1, n => subN l o n
  | [], _ + 1, n => bif n.beq 0 then some [] else none
def nth : List AV → Nat → Option AV
  | x :: _, 0 => some x
  | _ :: l, n + 1 => nth l n
  | [], _ => none
def over : List AV → List AV → Option (List AV)
  | l, [] => some l
  | _ :: l, y :: ys => match over l ys with | some r => some (y :: r) | none => none
  | [], _ :: _ => none
/-- Cells written over from a place on. -/
def setAt : List AV → Nat → List AV → Option (List AV)
  | l, 0, new => over l new
  | x :: l, n + 1, new => match setAt l n new with | some r => some (x :: r) | none => none
  | [], _ + 1, _ => none
def lenL : List AV → Nat → Nat
  | [], n => n
  | _ :: l, n => lenL l (Nat.succ n)
def rep : Nat → List AV → List AV
  | 0, _ => []
  | n + 1, z => z ++ rep n z

def zeroA (X : Cx) (t : TypeId) : Option AV :=
  match X.ty.get t with
  | some i => match i.zero with | some z => ofV z | none => none
  | none => none

def newA0 (H : AH) (o : AObj) : Option (Nat × AH) :=
  match T.set 40 H.h H.next o with
  | some t => some (H.next, ⟨t, H.next + 1⟩)
  | none => none
def newA (H : AH) (o : AObj) : Option (Nat × AH) :=
  match T.get H.h H.next with
  | none => newA0 H o
  | some _ => none
theorem newA_eq {H H' : AH} {o : AObj} {A : Nat} (h : newA H o = some (A, H')) : ∃ t', T.set 40 H.h H.next o = some t' ∧ A = H.next ∧ H' = ⟨t', H.next + 1⟩ ∧ T.get H.h H.next = none := by
  unfold newA at h
  split at h
  · rename_i hn
    unfold newA0 at h
    split at h
    · rename_i t ht
      simp only [Option.some.injEq, Prod.mk.injEq] at h
      exact ⟨t, ht, h.1.symm, h.2.symm, hn⟩
    · simp at h
  · simp at h
def putA (H : AH) (A : Nat) (o : AObj) : Option AH :=
  match T.set 40 H.h A o with
  | some t => some ⟨t, H.next⟩
  | none => none

/-- Parts laid over cells. -/
def fillA (place : Nat → Option (Nat × Nat)) (cells : List AV) : List (Nat × AV) → Option (List AV)
  | [] => some cells
  | (i, v) :: rest =>
    match place i with
    | none => none
    | some (off, size) =>
      bif (lenL (cellsA v) 0).beq size then
        match setAt cells off (cellsA v) with
        | some cells' => fillA place cells' rest
        | none => none
      else none

def placesA (X : Cx) : List Field → Option (List (Nat × Nat))
  | [] => some []
  | f :: fs => match X.size f.type, placesA X fs with
    | some n, some r => some ((f.offset, n) :: r)
    | _, _ => none
def nthP : List (Nat × Nat) → Nat → Option (Nat × Nat)
  | x :: _, 0 => some x
  | _ :: l, n + 1 => nthP l n
  | [], _ => none

def partsA (env : T AV) : List (Nat × Operand) → Option (List (Nat × AV))
  | [] => some []
  | (i, x) :: r => match opd env x, partsA env r with
    | some v, some vs => some ((i, v) :: vs)
    | _, _ => none

/-- Numbers, wrapped round. -/
def kmod : IntKind → Nat
  | .i8 | .u8 => 256
  | .i16 | .u16 => 65536
  | .i32 | .u32 => 4294967296
  | .i64 | .u64 => 18446744073709551616
def khalf : IntKind → Nat
  | .i8 | .u8 => 128
  | .i16 | .u16 => 32768
  | .i32 | .u32 => 2147483648
  | .i64 | .u64 => 9223372036854775808
def fwrap (k : IntKind) : Int → Int
  | .ofNat m => bif k.signed then (bif Nat.blt m (khalf k) then .ofNat m else k.wrap (.ofNat m)) else .ofNat (m % kmod k)
  | .negSucc m => bif k.signed && Nat.blt m (khalf k) then .negSucc m else k.wrap (.negSucc m)
def ilt : Int → Int → Bool
  | .ofNat m, .ofNat n => Nat.blt m n
  | .ofNat _, .negSucc _ => false
  | .negSucc _, .ofNat _ => true
  | .negSucc m, .negSucc n => Nat.blt n m
def ieq : Int → Int → Bool
  | .ofNat m, .ofNat n => Nat.beq m n
  | .negSucc m, .negSucc n => Nat.beq m n
  | _, _ => false
def keq : IntKind → IntKind → Bool
  | .i8, .i8 | .i16, .i16 | .i32, .i32 | .i64, .i64 | .u8, .u8 | .u16, .u16 | .u32, .u32 | .u64, .u64 => true
  | _, _ => false

/-- Its parts reckoned out. -/
def fN {α : Type} (n : Nat) (k : Nat → α) : α := Nat.rec (k 0) (fun m _ => k (Nat.succ m)) n
def fI {α : Type} (n : Int) (k : Int → α) : α :=
  match n with
  | .ofNat m => fN m fun m => k (.ofNat m)
  | .negSucc m => fN m fun m => k (.negSucc m)

def mkI (k : IntKind) (n : Int) : Option AV := fI (fwrap k n) fun n => some (.int k n)
def mkB (b : Bool) : Option AV := match b with | true => some (.bool true) | false => some (.bool false)
def mkS (len bits : Nat) : Option AV := fN len fun len => fN bits fun bits => some (.str len bits)

def sless : Nat → Nat → Nat → Nat → Bool
  | _, _, 0, _ => false
  | 0, _, _ + 1, _ => true
  | l + 1, b, m + 1, c => Nat.blt (b % 256) (c % 256) || (Nat.beq (b % 256) (c % 256) && sless l (b / 256) m (c / 256))

def abits (op : BinOp) (k : IntKind) (a b : Int) : Option AV :=
  match op, a, b with
  | .and, .ofNat m, .ofNat n => bif !k.signed && Nat.blt m (kmod k) && Nat.blt n (kmod k) then mkI k (.ofNat (Nat.land m n)) else slow
  | .or, .ofNat m, .ofNat n => bif !k.signed && Nat.blt m (kmod k) && Nat.blt n (kmod k) then mkI k (.ofNat (Nat.lor m n)) else slow
  | .xor, .ofNat m, .ofNat n => bif !k.signed && Nat.blt m (kmod k) && Nat.blt n (kmod k) then mkI k (.ofNat (Nat.xor m n)) else slow
  | _, _, _ => slow
where slow : Option AV :=
  match op with
  | .and => fI (k.wrap (BitVec.ofInt k.bits a &&& BitVec.ofInt k.bits b).toNat) fun n => some (.int k n)
  | .or => fI (k.wrap (BitVec.ofInt k.bits a ||| BitVec.ofInt k.bits b).toNat) fun n => some (.int k n)
  | .xor => fI (k.wrap (BitVec.ofInt k.bits a ^^^ BitVec.ofInt k.bits b).toNat) fun n => some (.int k n)
  | .andNot => fI (k.wrap (BitVec.ofInt k.bits a &&& ~~~ BitVec.ofInt k.bits b).toNat) fun n => some (.int k n)
  | _ => none

def abinI (op : BinOp) (k : IntKind) (a : Int) (k' : IntKind) (b : Int) : Option AV :=
  match op with
  | .shl => match b with
    | .ofNat n => mkI k (a * (2 ^ (Nat.min n k.bits) : Nat))
    | .negSucc _ => none
  | .shr => match b with
    | .ofNat n => fI (a.fdiv ((2 ^ (Nat.min n k.bits) : Nat) : Int)) fun r => some (.int k r)
    | .negSucc _ => none
  | _ => bif keq k k' then
      match op with
      | .add => mkI k (a + b)
      | .sub => mkI k (a - b)
      | .mul => mkI k (a * b)
      | .quo => bif ieq b 0 then none else mkI k (a.tdiv b)
      | .rem => bif ieq b 0 then none else fI (a.tmod b) fun r => some (.int k r)
      | .and | .or | .xor | .andNot => abits op k a b
      | .eql => mkB (ieq a b)
      | .neq => mkB (!ieq a b)
      | .lss => mkB (ilt a b)
      | .leq => mkB (!ilt b a)
      | .gtr => mkB (ilt b a)
      | .geq => mkB (!ilt a b)
      | _ => none
    else none

def abinS (op : BinOp) (l b m c : Nat) : Option AV :=
  match op with
  | .add => bif Nat.blt (l + m) 4611686018427387904 then mkS (l + m) (b + c * 2 ^ (8 * l)) else none
  | .eql => mkB (Nat.beq l m && Nat.beq b c)
  | .neq => mkB !(Nat.beq l m && Nat.beq b c)
  | .lss => mkB (sless l b m c)
  | .leq => mkB (sless l b m c || (Nat.beq l m && Nat.beq b c))
  | .gtr => mkB !(sless l b m c || (Nat.beq l m && Nat.beq b c))
  | .geq => mkB !(sless l b m c)
  | _ => none

/-- Is it the same? By the type; numbers, texts, yes and no, and what is made of these; nil. -/
def aeq (X : Cx) : Nat → TypeId → AV → AV → Option Bool
  | 0, _, _, _ => none
  | d + 1, t, x, y =>
    match X.und t with
    | some .bool => match x, y with
      | .bool a, .bool b => some (a == b)
      | _, _ => none
    | some (.int _) => match x, y with
      | .int k a, .int k' b => bif keq k k' then some (ieq a b) else none
      | _, _ => none
    | some .string => match x, y with
      | .str l b, .str m c => some (Nat.beq l m && Nat.beq b c)
      | _, _ => none
    | some (.pointer e) => match x, y with
      | .nilPtr, .nilPtr => some true
      | .nilPtr, .ptr _ _ => some false
      | .ptr _ _, .nilPtr => some false
      | .ptr A o, .ptr B p => match X.size e with
        | some 0 => none
        | some _ => bif Nat.beq A B then some (Nat.beq o p) else none
        | none => none
      | _, _ => none
    | some (.slice _) => match x, y with
      | .nilSlice, .nilSlice => some true
      | .nilSlice, .slice _ _ _ _ => some false
      | .slice _ _ _ _, .nilSlice => some false
      | _, _ => none
    | some (.map _ _) => match x, y with
      | .nilMap, .nilMap => some true
      | .nilMap, .map _ => some false
      | .map _, .nilMap => some false
      | _, _ => none
    | some (.func _ _ _) => match x, y with
      | .nilFunc, .nilFunc => some true
      | .nilFunc, .func _ _ _ => some false
      | .func _ _ _, .nilFunc => some false
      | _, _ => none
    | _ => none

def eqable : AV → Bool
  | .int _ _ => false
  | .str _ _ => false
  | .agg _ => false
  | .nilIface => false
  | .iface _ _ => false
  | .tuple _ => false
  | _ => true
def abinE (X : Cx) (op : BinOp) (t : TypeId) (x y : AV) : Option AV :=
  match op with
  | .eql => match aeq X 9 t x y with | some b => mkB b | none => none
  | .neq => match aeq X 9 t x y with | some b => mkB !b | none => none
  | _ => none
def abin (X : Cx) (op : BinOp) (t : TypeId) (x y : AV) : Option AV :=
  match x, y with
  | .int k a, .int k' b => abinI op k a k' b
  | .str l b, .str m c => abinS op l b m c
  | x, y => bif eqable x then abinE X op t x y else none

def aun (op : UnOp) (x : AV) : Option AV :=
  match op, x with
  | .neg, .int k n => mkI k (0 - n)
  | .not, .bool b => mkB !b
  | _, _ => none

def aload (X : Cx) (t : TypeId) (p : AV) (H : AH) : Option AV :=
  match p with
  | .ptr A off => match H.h.get A with
    | some (.cells l _ _ _) => match X.und t with
      | some d => bif isAggD d then
          match X.size t with
          | some n => match subN l off n with | some c => some (.agg c) | none => none
          | none => none
        else nth l off
      | none => none
    | _ => none
  | _ => none

def astore (X : Cx) (t : TypeId) (p x : AV) (H : AH) : Option AH :=
  match p with
  | .ptr A off => match H.h.get A with
    | some (.cells l e sz g) => match X.size t with
      | some n => bif (lenL (cellsA x) 0).beq n && allCells (cellsA x) then
          match setAt l off (cellsA x) with
          | some l' => putA H A (.cells l' e sz g)
          | none => none
        else none
      | none => none
    | _ => none
  | _ => none

/-- The bytes of a text, from the last one on. -/
def bytesOf : Nat → Nat → List AV
  | 0, _ => []
  | l + 1, b => .int .u8 (.ofNat (b % 256)) :: bytesOf l (b / 256)
/-- A text of bytes: how many, and the number that they make. -/
def textOf : List AV → Option (Nat × Nat)
  | [] => some (0, 0)
  | .int .u8 (.ofNat m) :: l => bif Nat.blt m 256 then
      match textOf l with
      | some (n, b) => fN n fun n => fN b fun b => some (n + 1, m + 256 * b)
      | none => none
    else none
  | _ => none

/-- Conversions that touch no memory. -/
def aconvP (X : Cx) (src dst : TypeId) (x : AV) : Option AV :=
  match X.und src with
  | none => none
  | some ds => match X.und dst with
    | some (.int k) => match x with
      | .int _ n => mkI k n
      | _ => none
    | some .string => match ds, x with
      | .string, .str l b => some (.str l b)
      | _, _ => none
    | _ => none
/-- A text of the bytes of a slice. -/
def aconvL (X : Cx) (src dst : TypeId) (x : AV) (H : AH) : Option AV :=
  match X.und src with
  | some (.slice e) => match X.und dst with
    | some .string => match X.und e with
      | some (.int .u8) => match x with
        | .nilSlice => some (.str 0 0)
        | .slice A off len _ => match H.h.get A with
          | some (.cells l _ _ _) => match subN l off len with
            | some c => match textOf c with
              | some (n, b) => mkS n b
              | none => none
            | none => none
          | _ => none
        | _ => none
      | _ => none
    | _ => none
  | _ => none
/-- The bytes of a text in a new row. -/
def aconvA (X : Cx) (src dst : TypeId) (x : AV) : Option (AObj × (Nat → AV)) :=
  match X.und src with
  | some .string => match X.und dst with
    | some (.slice e) => match X.und e with
      | some (.int .u8) => match x with
        | .str l b => bif Nat.blt l 4611686018427387904 then some (.cells (bytesOf l b) e 1 true, fun A => .slice A 0 l 1) else none
        | _ => none
      | _ => none
    | _ => none
  | _ => none

/-- The number in a value. -/
def natOf : AV → Option Nat
  | .int _ (.ofNat n) => some n
  | _ => none
def natOpt : Option AV → Option (Option Nat)
  | none => some none
  | some v => match natOf v with | some n => some (some n) | none => none

/-- A text cut. -/
def acutS (len bits : Nat) (lo hi : Option Nat) : Option AV :=
  let l := lo.getD 0
  let h := hi.getD len
  bif Nat.ble h len && Nat.ble l h then mkS (h - l) ((bits / 2 ^ (8 * l)) % 2 ^ (8 * (h - l))) else none

/-- A slice cut: 'room': how many elements surely lie in reach; cc: the capacity as AV has it. -/
def acut (A off len cc sz room : Nat) (lo hi mx : Option Nat) : Option AV :=
  let l := lo.getD 0
  let h := hi.getD len
  match mx with
  | some m => match hi with
    | some h =>
      bif Nat.ble m room && Nat.ble h m && Nat.ble l h then
        fN (bif m.beq l then off else off + l * sz) fun o => fN (h - l) fun n => fN (2 * (m - l)) fun c => some (.slice A o n c)
      else none
    | none => none
  | none =>
    bif Nat.ble h room && Nat.ble l h then
      bif (cc % 2).beq 0 then
        fN (bif (cc / 2).beq l then off else off + l * sz) fun o => fN (h - l) fun n => fN (2 * (cc / 2 - l)) fun c => some (.slice A o n c)
      else
        bif l.beq 0 then fN h fun n => some (.slice A off n cc)
        else bif Nat.blt l h then fN (off + l * sz) fun o => fN (h - l) fun n => fN (cc + 2 * l) fun c => some (.slice A o n c)
        else some .emptySl
    else none

/-- How many elements of a slice's block surely lie behind its head. -/
def roomOf (l : List AV) (g : Bool) (sz' off cc sz : Nat) : Nat :=
  bif (cc % 2).beq 0 then cc / 2 else bif g && Nat.beq sz' sz && Nat.beq off (cc / 2 * sz) then (lenL l 0 - off) / sz else 0

def aslice (X : Cx) (t : TypeId) (x : AV) (lo hi mx : Option AV) (H : AH) : Option AV :=
  match natOpt lo, natOpt hi, natOpt mx with
  | some lo, some hi, some mx =>
    match X.und t, x with
    | some .string, .str len bits => match mx with | none => acutS len bits lo hi | some _ => none
    | some (.slice e), .nilSlice => match X.size e with
      | some _ => bif (lo.getD 0).beq 0 && (hi.getD 0).beq 0 && (mx.getD 0).beq 0 && (mx.isNone || hi.isSome) then some .nilSlice else none
      | none => none
    | some (.slice e), .slice A off len cc => match X.size e with
      | some sz => match H.h.get A with
        | some (.cells l _ sz' g) => bif Nat.blt 0 sz then acut A off len cc sz (roomOf l g sz' off cc sz) lo hi mx else none
        | _ => none
      | none => none
    | some (.slice e), .emptySl => match X.size e with
      | some _ => match mx with
        | none => bif (lo.getD 0).beq 0 && (hi.getD 0).beq 0 then some .emptySl else none
        | some _ => none
      | none => none
    | some (.array n e), .ptr A off => match X.size e with
      | some sz => bif Nat.blt 0 sz then acut A off n (2 * n) sz n lo hi mx else none
      | none => none
    | some (.pointer arr), .ptr A off => match X.und arr with
      | some (.array n e) => match X.size e with
        | some sz => bif Nat.blt 0 sz then acut A off n (2 * n) sz n lo hi mx else none
        | none => none
      | _ => none
    | _, _ => none
  | _, _, _ => none

def aindexAddr (X : Cx) (t : TypeId) (x ix : AV) : Option AV :=
  match natOf ix with
  | some i => match X.und t, x with
    | some (.array n e), .ptr A off => match X.size e with
      | some sz => bif Nat.blt i n then fN (off + i * sz) fun o => some (.ptr A o) else none
      | none => none
    | some (.slice e), .slice A off len _ => match X.size e with
      | some sz => bif Nat.blt i len then fN (off + i * sz) fun o => some (.ptr A o) else none
      | none => none
    | _, _ => none
  | none => none

def aindex (X : Cx) (t : TypeId) (x ix : AV) : Option AV :=
  match natOf ix with
  | some i => match X.und t, x with
    | some .string, .str len bits => bif Nat.blt i len then fN ((bits / 2 ^ (8 * i)) % 256) fun b => some (.int .u8 (.ofNat b)) else none
    | some (.array n e), .agg cs => match X.und e, X.size e with
      | some d, some sz => bif Nat.blt i n then
          bif isAggD d then match subN cs (i * sz) sz with | some c => some (.agg c) | none => none
          else nth cs (i * sz)
        else none
      | _, _ => none
    | _, _ => none
  | none => none

def nthF : List Field → Nat → Option Field
  | x :: _, 0 => some x
  | _ :: l, n + 1 => nthF l n
  | [], _ => none

def afield (X : Cx) (t : TypeId) (x : AV) (f : Nat) : Option AV :=
  match X.und t, x with
  | some (.struct fs), .agg cs => match nthF fs.toList f with
    | some fl => match X.und fl.type, X.size fl.type with
      | some d, some n => bif isAggD d then match subN cs fl.offset n with | some c => some (.agg c) | none => none
          else nth cs fl.offset
      | _, _ => none
    | none => none
  | _, _ => none

def afieldAddr (X : Cx) (s : TypeId) (x : AV) (f : Nat) : Option AV :=
  match X.und s, x with
  | some (.struct fs), .ptr A off => match nthF fs.toList f with
    | some fl => match X.size fl.type with
      | some 0 => none
      | some _ => fN (off + fl.offset) fun o => some (.ptr A o)
      | none => none
    | none => none
  | _, _ => none

def alen (X : Cx) (t : TypeId) (x : AV) (H : AH) : Option AV :=
  match X.und t, x with
  | some .string, .str l _ => some (.int .i64 (.ofNat l))
  | some (.slice _), .nilSlice => some (.int .i64 0)
  | some (.slice _), .slice _ _ n _ => some (.int .i64 (.ofNat n))
  | some (.slice _), .emptySl => some (.int .i64 0)
  | some (.array n _), _ => some (.int .i64 (.ofNat n))
  | some (.map _ _), .nilMap => some (.int .i64 0)
  | some (.map _ _), .map A => match H.h.get A with
    | some (.map es) => some (.int .i64 (.ofNat es.length))
    | _ => none
  | _, _ => none

def acap (X : Cx) (t : TypeId) (x : AV) : Option AV :=
  match X.und t, x with
  | some (.slice _), .nilSlice => some (.int .i64 0)
  | some (.slice _), .slice _ _ _ cc => bif (cc % 2).beq 0 then fN (cc / 2) fun n => some (.int .i64 (.ofNat n)) else none
  | _, _ => none

/-- What is appended, or copied: how many elements, and so many cells. -/
def srcOf (sz : Nat) (x : AV) (H : AH) : Option (Nat × List AV) :=
  match x with
  | .nilSlice => some (0, [])
  | .emptySl => some (0, [])
  | .slice A off n _ => match H.h.get A with
    | some (.cells l _ _ _) => match subN l off (n * sz) with | some c => some (n, c) | none => none
    | _ => none
  | .str l b => bif sz.beq 1 then some (l, bytesOf l b) else none
  | _ => none

/-- A new row for a slice that has outgrown its own. -/
def agrow (need e sz : Nat) (cells : List AV) (H : AH) : Option (AV × AH) :=
  match newA H (.cells cells e sz true) with
  | some (A, H') => fN need fun n => some (.slice A 0 n 1, H')
  | none => none

/-- May a row of so many elements be asked for? -/
def roomy (need bytes : Nat) : Bool := Nat.ble ((need + need / 4 + 192) * bytes) 281474976710656 && Nat.blt need 4611686018427387904
def appGrow (need e sz bytes : Nat) (old : Option (List AV)) (new : List AV) (H : AH) : Option (AV × AH) :=
  bif roomy need bytes then
    match old with
    | some old => agrow need e sz (old ++ new) H
    | none => none
  else none
def appIn (A off len cc n e' sz' : Nat) (g : Bool) (l' : Option (List AV)) (H : AH) : Option (AV × AH) :=
  match l' with
  | some l' => match putA H A (.cells l' e' sz' g) with
    | some H' => fN (len + n) fun m => some (.slice A off m cc, H')
    | none => none
  | none => none
def app2 (e sz bytes n : Nat) (new : List AV) (A off len cc : Nat) (l : List AV) (e' sz' : Nat) (g : Bool) (H : AH) : Option (AV × AH) :=
  bif Nat.ble (len + n) (roomOf l g sz' off cc sz) then appIn A off len cc n e' sz' g (setAt l (off + len * sz) new) H
  else bif (cc % 2).beq 0 then appGrow (len + n) e sz bytes (subN l off (len * sz)) new H
  else bif g && Nat.beq (off + len * sz) (lenL l 0) && Nat.beq e e' && Nat.beq sz' sz && Nat.beq off (cc / 2 * sz) then
    match putA H A .dead with
    | some H1 => appGrow (len + n) e sz bytes (subN l off (len * sz)) new H1
    | none => none
  else none
def app1 (e sz bytes n : Nat) (new : List AV) (s : AV) (H : AH) : Option (AV × AH) :=
  match s with
  | .nilSlice => bif n.beq 0 then some (.nilSlice, H) else appGrow n e sz bytes (some []) new H
  | .emptySl => bif n.beq 0 then some (.emptySl, H) else none
  | .slice A off len cc => match H.h.get A with
    | some (.cells l e' sz' g) => app2 e sz bytes n new A off len cc l e' sz' g H
    | _ => none
  | _ => none
def zeroOk (sz : Nat) (z : Option Value) : Bool :=
  match z with
  | some z => match ofV z with
    | some za => Nat.blt 0 sz && Nat.beq (lenL (cellsA za) 0) sz
    | none => false
  | none => false
def aappend (X : Cx) (t : TypeId) (s x : AV) (H : AH) : Option (AV × AH) :=
  match X.und t with
  | some (.slice e) => match X.ty.get e with
    | some ti => bif zeroOk ti.size ti.zero then
        match srcOf ti.size x H with
        | some (n, new) => bif allCells new then app1 e ti.size ti.bytes n new s H else none
        | none => none
      else none
    | none => none
  | _ => none

def acopy (X : Cx) (t : TypeId) (dst src : AV) (H : AH) : Option (AV × AH) :=
  match X.und t with
  | some (.slice e) => match X.size e with
    | some sz => match dst with
      | .nilSlice => match src with
        | .nilSlice => some (.int .i64 0, H)
        | .slice _ _ _ _ => some (.int .i64 0, H)
        | .str _ _ => some (.int .i64 0, H)
        | _ => none
      | .slice A off len _ => match srcOf sz src H with
        | some (n, new) =>
          let m := Nat.min n len
          match takeN (m * sz) new with
          | some new => bif allCells new then
              match H.h.get A with
              | some (.cells l e' sz' g) => match setAt l off new with
                | some l' => match putA H A (.cells l' e' sz' g) with
                  | some H' => fN m fun m => some (.int .i64 (.ofNat m), H')
                  | none => none
                | none => none
              | _ => none
            else none
          | none => none
        | none => none
      | _ => none
    | none => none
  | _ => none


def optOf (env : T AV) : Option Operand → Option (Option AV)
  | none => some none
  | some y => match opd env y with | some b => some (some b) | none => none

def pPick (env : T AV) (c a b : Operand) : Option AV :=
  match opd env c with
  | some (.bool true) => opd env a
  | some (.bool false) => opd env b
  | _ => none
def pBuild (X : Cx) (env : T AV) (t : TypeId) (ps : Array (Nat × Operand)) : Option AV :=
  match zeroA X t with
  | some z => match partsA env ps.toList with
    | some parts => match X.und t with
      | some (.struct fs) => match placesA X fs.toList with
        | some pl => match fillA (nthP pl) (cellsA z) parts with | some c => some (.agg c) | none => none
        | none => none
      | some (.array _ e) => match X.size e with
        | some sz => match fillA (fun i => some (i * sz, sz)) (cellsA z) parts with | some c => some (.agg c) | none => none
        | none => none
      | _ => none
    | none => none
  | none => none
def pNil (x : AV) : Option AV :=
  match x with
  | .ptr A off => some (.ptr A off)
  | .func f a b => some (.func f a b)
  | .yieldTo A => some (.yieldTo A)
  | _ => none
def pFunc (env : T AV) (f : FuncId) (first cap : Array Operand) : Option AV :=
  match opds env first.toList with
  | some a => match opds env cap.toList with
    | some b => some (.func f a b)
    | none => none
  | none => none
def pArr (X : Cx) (arr : TypeId) (x : AV) : Option AV :=
  match x with
  | .slice A off len _ => match X.und arr with
    | some (.array n _) => bif Nat.ble n len then some (.ptr A off) else none
    | _ => none
  | _ => none
def pExtract (x : AV) (i : Nat) : Option AV :=
  match x with
  | .tuple vs => nth vs i
  | _ => none
def b1 (x : Option AV) (f : AV → Option AV) : Option AV := match x with | some a => f a | none => none
def b2 (x y : Option AV) (f : AV → AV → Option AV) : Option AV :=
  match x with
  | some a => match y with | some b => f a b | none => none
  | none => none

def aA1 (e : TypeId) (x : Option AV) : Option (AObj × (Nat → AV)) :=
  match x with
  | some z => some (.cells (cellsA z) e 1 false, fun A => .ptr A 0)
  | none => none
def aABuild (X : Cx) (env : T AV) (t : TypeId) (len : Nat) (ps : Array (Nat × Operand)) : Option (AObj × (Nat → AV)) :=
  match X.und t with
  | some (.slice e) => match partsA env ps.toList with
    | some parts => match X.size e with
      | some sz => match zeroA X e with
        | some z => bif Nat.ble (len * sz) 16777216 && Nat.blt 0 sz && Nat.beq (lenL (cellsA z) 0) sz then
            match fillA (fun i => some (i * sz, sz)) (rep len (cellsA z)) parts with
            | some c => some (.cells c e sz false, fun A => .slice A 0 len (2 * len))
            | none => none
          else none
        | none => none
      | none => none
    | none => none
  | _ => none
def aAMake (X : Cx) (t : TypeId) (l c : Option AV) : Option (AObj × (Nat → AV)) :=
  match l with
  | some (.int .i64 (.ofNat n)) => match c with
    | some (.int .i64 (.ofNat m)) => match X.und t with
      | some (.slice e) => match X.ty.get e with
        | some ti => match zeroA X e with
          | some z => bif Nat.ble n m && Nat.ble (m * ti.bytes) 140737488355328 && Nat.blt m 9223372036854775808 && Nat.blt 0 ti.size && Nat.beq (lenL (cellsA z) 0) ti.size then
              some (.cells (rep m (cellsA z)) e ti.size false, fun A => .slice A 0 n (2 * m))
            else none
          | none => none
        | none => none
      | _ => none
    | _ => none
  | _ => none

/-- What kind of operation: by its own (P), reading memory (L), making a block (A), else (E); a call of a function (C). -/
inductive Cls where
  | P | L | A | E | C

def clsConv (X : Cx) (s d : TypeId) : Cls :=
  match X.und s with
  | some (.slice _) => .L
  | some .string => match X.und d with
    | some (.slice _) => .A
    | _ => .P
  | _ => .P
def clsB : Builtin → Cls
  | .len => .L
  | .cap => .P
  | _ => .E
def clsCall : Callee → Cls
  | .value _ => .C
  | .invoke _ _ => .C
  | .builtin b => clsB b
def cls (X : Cx) : Op → Cls
  | .move _ => .P
  | .assign _ => .P
  | .pick _ _ _ => .P
  | .build _ _ => .P
  | .nilCheck _ => .P
  | .binOp _ _ _ _ _ => .P
  | .unOp _ _ _ => .P
  | .makeFunc _ _ _ => .P
  | .fieldAddr _ _ _ => .P
  | .field _ _ _ => .P
  | .indexAddr _ _ _ => .P
  | .index _ _ _ => .P
  | .sliceToArrayPointer _ _ => .P
  | .extract _ _ => .P
  | .load _ _ => .L
  | .slice _ _ _ _ _ => .L
  | .alloc _ => .A
  | .box _ _ => .A
  | .buildSlice _ _ _ => .A
  | .makeSlice _ _ _ => .A
  | .convert s d _ => clsConv X s d
  | .call c => clsCall c.callee
  | _ => .E

def aP (X : Cx) (env : T AV) : Op → Option AV
  | .move x => opd env x
  | .assign x => opd env x
  | .pick c a b => pPick env c a b
  | .build t ps => pBuild X env t ps
  | .nilCheck x => b1 (opd env x) pNil
  | .binOp op t x y _ => b2 (opd env x) (opd env y) (abin X op t)
  | .unOp op _ x => b1 (opd env x) (aun op)
  | .convert s d x => b1 (opd env x) (aconvP X s d)
  | .makeFunc (.func f) first cap => pFunc env f first cap
  | .fieldAddr s x f => b1 (opd env x) (afieldAddr X s · f)
  | .field t x f => b1 (opd env x) (afield X t · f)
  | .indexAddr t x i => b2 (opd env x) (opd env i) (aindexAddr X t)
  | .index t x i => b2 (opd env x) (opd env i) (aindex X t)
  | .sliceToArrayPointer arr x => b1 (opd env x) (pArr X arr)
  | .extract x i => b1 (opd env x) (pExtract · i)
  | .call c => match c.callee with
    | .builtin .cap => match c.args.toList with
      | [x] => match c.argTypes.toList with
        | t :: _ => b1 (opd env x) (acap X t)
        | _ => none
      | _ => none
    | _ => none
  | _ => none

def lSlice (X : Cx) (env : T AV) (t : TypeId) (x : Operand) (lo hi mx : Option Operand) (H : AH) : Option AV :=
  match opd env x with
  | some a => match optOf env lo with
    | some lo => match optOf env hi with
      | some hi => match optOf env mx with
        | some mx => aslice X t a lo hi mx H
        | none => none
      | none => none
    | none => none
  | none => none
def aL (X : Cx) (env : T AV) (H : AH) : Op → Option AV
  | .load t a => b1 (opd env a) (aload X t · H)
  | .slice t x lo hi mx => lSlice X env t x lo hi mx H
  | .convert s d x => b1 (opd env x) (aconvL X s d · H)
  | .call c => match c.callee with
    | .builtin .len => match c.args.toList with
      | [x] => match c.argTypes.toList with
        | t :: _ => b1 (opd env x) (alen X t · H)
        | _ => none
      | _ => none
    | _ => none
  | _ => none

def aA (X : Cx) (env : T AV) : Op → Option (AObj × (Nat → AV))
  | .alloc e => aA1 e (zeroA X e)
  | .box e x => aA1 e (opd env x)
  | .buildSlice t len ps => aABuild X env t len ps
  | .makeSlice t l c => aAMake X t (opd env l) (opd env c)
  | .convert s d x => match opd env x with | some a => aconvA X s d a | none => none
  | _ => none

def eStore (X : Cx) (t : TypeId) (p y : Option AV) (H : AH) : Option (AV × AH) :=
  match p with
  | some p => match y with
    | some y => match astore X t p y H with | some H' => some (undefA, H') | none => none
    | none => none
  | none => none
def eAppend (X : Cx) (t u : TypeId) (s x : Option AV) (H : AH) : Option (AV × AH) :=
  match s with
  | some a => match x with
    | some b => match X.und u with
      | some (.slice _) => aappend X t a b H
      | some .string => aappend X t a b H
      | _ => none
    | none => none
  | none => none
def eCopy (X : Cx) (t : TypeId) (s x : Option AV) (H : AH) : Option (AV × AH) :=
  match s with
  | some a => match x with
    | some b => acopy X t a b H
    | none => none
  | none => none
def eBuiltin (X : Cx) (env : T AV) (b : Builtin) (args : List Operand) (types : List TypeId) (H : AH) : Option (AV × AH) :=
  match b with
  | .append => match args with
    | [s, x] => match types with
      | [t, u] => eAppend X t u (opd env s) (opd env x) H
      | _ => none
    | _ => none
  | .copy => match args with
    | [s, x] => match types with
      | t :: _ => eCopy X t (opd env s) (opd env x) H
      | _ => none
    | _ => none
  | _ => none
def aE (X : Cx) (env : T AV) (H : AH) : Op → Option (AV × AH)
  | .store t a x => eStore X t (opd env a) (opd env x) H
  | .call c => match c.callee with
    | .builtin b => eBuiltin X env b c.args.toList c.argTypes.toList H
    | _ => none
  | _ => none

def wV (H : AH) (r : Option AV) : Option (AV × AH) := match r with | some x => some (x, H) | none => none
def wA (H : AH) (r : Option (AObj × (Nat → AV))) : Option (AV × AH) :=
  match r with
  | some (o, mk) => match newA H o with
    | some (A, H') => some (mk A, H')
    | none => none
  | none => none

/-- A slot is filled. -/
def setD (nt : Nat) (env : T AV) : Option Tmp → AV → Option (T AV)
  | some d, v => bif Nat.blt d nt then T.set 40 env d v else none
  | none, _ => some env

def nthO : List Oper → Nat → Option Oper
  | x :: _, 0 => some x
  | _ :: l, n + 1 => nthO l n
  | [], _ => none
/-- Is an operation asked for? -/
def wantG (ops : Array Oper) (env : T AV) (j : Nat) (want : Bool) : Bool :=
  match nthO ops.toList j with
  | some p => match p.dst with
    | some d => match look env d with
      | .bool b => b == want
      | _ => false
    | none => false
  | none => false
def wantA (ops : Array Oper) (env : T AV) (o : Oper) : Bool :=
  match o.guard with
  | none => true
  | some (j, want) => wantG ops env j want

def argsAt : Nat → List AV → T AV → Option (T AV)
  | _, [], t => some t
  | i, x :: xs, t => match T.set 40 t i x with | some t' => argsAt (i + 1) xs t' | none => none

def aresult (X : Cx) (env : T AV) (H : AH) : ResultVar → Option AV
  | .tmp t => some (look env t)
  | .cell a t => aload X t (look env a) H
def aresults (X : Cx) (env : T AV) (H : AH) : List ResultVar → Option (List AV)
  | [] => some []
  | r :: rs => match aresult X env H r with
    | some v => match aresults X env H rs with
      | some vs => some (v :: vs)
      | none => none
    | none => none

mutual
def aveq : AV → AV → Bool
  | .bool a, .bool b => a == b
  | .int k a, .int k' b => keq k k' && ieq a b
  | .str l b, .str m c => Nat.beq l m && Nat.beq b c
  | .nilPtr, .nilPtr => true
  | .ptr a o, .ptr b p => Nat.beq a b && Nat.beq o p
  | .nilSlice, .nilSlice => true
  | .emptySl, .emptySl => false
  | .slice a b c d, .slice a' b' c' d' => Nat.beq a a' && Nat.beq b b' && Nat.beq c c' && Nat.beq d d'
  | .nilMap, .nilMap => true
  | .map a, .map b => Nat.beq a b
  | .func f a b, .func g c d => Nat.beq f g && aveqL a c && aveqL b d
  | .yieldTo a, .yieldTo b => Nat.beq a b
  | .nilFunc, .nilFunc => true
  | .iface t x, .iface u y => Nat.beq t u && aveq x y
  | .nilIface, .nilIface => true
  | .agg a, .agg b => aveqL a b
  | .tuple a, .tuple b => aveqL a b
  | _, _ => false
def aveqL : List AV → List AV → Bool
  | [], [] => true
  | x :: xs, y :: ys => aveq x y && aveqL xs ys
  | _, _ => false
end

/-- The masks of what must come ahead of each operation. -/
def maskOf (acc : List Nat) (es : List Edge) : Nat := es.foldl (fun s e => bif Region.binds .any e then s ||| 2 ^ e.on ||| acc.getD e.on 0 else s) 0
def befores : List Oper → List Nat → List Nat
  | [], acc => acc
  | o :: rest, acc => befores rest (acc ++ [maskOf acc o.after.toList])
def isEff : Cls → Bool
  | .E => true
  | .C => true
  | _ => false
def tmpOf : Operand → Option Nat
  | .tmp t => some t
  | _ => none
/-- The slots that an operation reads. -/
def namesOf (ops : Array Oper) (o : Oper) : List Nat :=
  o.op.operands.toList.filterMap tmpOf ++ (match o.guard with
    | some (j, _) => match nthO ops.toList j with
      | some p => p.dst.toList
      | none => []
    | none => [])
def slotsMeet (ops : Array Oper) (a b : Oper) : Bool :=
  (match a.dst with | some d => (namesOf ops b).contains d | none => false) || (match b.dst with | some d => (namesOf ops a).contains d | none => false)
/-- May 'a' stand ahead of 'b' in the row that is gone through? -/
def pairOk (X : Cx) (ops : Array Oper) (masks : List Nat) (a b : Nat × Oper) : Bool :=
  (match a.2.dst, b.2.dst with | some d, some e => !Nat.beq d e | _, _ => true) &&
  (!(isEff (cls X a.2.op) || slotsMeet ops a.2 b.2) || (masks.getD b.1 0).testBit a.1)
def pairsOk (X : Cx) (ops : Array Oper) (masks : List Nat) : List (Nat × Oper) → Bool
  | [] => true
  | a :: l => l.all (pairOk X ops masks a) && pairsOk X ops masks l
/-- Whatever the mode, all operations come up. -/
def modesOk (ops : Array Oper) : Bool := Nat.beq (Region.linearise .any ops 0).length ops.size && Nat.beq (Region.linearise .text ops 0).length ops.size && Nat.beq (Region.linearise .gc ops 0).length ops.size
def stageOf (masks effs : List Nat) (i : Nat) : Nat := (effs.filter fun e => (masks.getD i 0).testBit e).length
def rowOf (X : Cx) (ops : Array Oper) (masks : List Nat) : List (Nat × Oper) :=
  let l := (List.range ops.size).filterMap fun i => match nthO ops.toList i with | some o => some (i, o) | none => none
  let effs := (l.filter fun a => isEff (cls X a.2.op))
  let rest := (l.filter fun a => !isEff (cls X a.2.op))
  let en := effs.map (·.1)
  (List.range (effs.length + 1)).flatMap fun s => (rest.filter fun a => Nat.beq (stageOf masks en a.1) s) ++ (match effs[s]? with | some e => [e] | none => [])
def nodupB : List Nat → Bool
  | [] => true
  | x :: l => !l.contains x && nodupB l
def rowOk (X : Cx) (ops : Array Oper) (masks : List Nat) (row : List (Nat × Oper)) : Bool :=
  modesOk ops && nodupB (row.map (·.1)) && pairsOk X ops masks row && (List.range ops.size).all (fun i => (row.map (·.1)).contains i) && row.all (fun a => match nthO ops.toList a.1 with | some _ => true | none => false)
def plan (X : Cx) (ops : Array Oper) : Option (List (Nat × Oper) × List Nat) :=
  let masks := befores ops.toList []
  let row := rowOf X ops masks
  bif rowOk X ops masks row then some (row, masks) else none

inductive AExit where
  | normal
  | exit (id : Nat)
  | ret

/-- The functions of one round of the evaluator, by those of the round below. -/
structure Fns where
  code : Nat → Code → T AV → AH → Option (AExit × T AV × AH)
  ops : Nat → Array Oper → List Oper → T AV → AH → Option (T AV × AH)
  call : FuncId → List AV → AH → Option (AV × AH)

def opF (X : Cx) (r : Fns) (env : T AV) (H : AH) (o : Op) : Option (AV × AH) :=
  match cls X o with
  | .P => wV H (aP X env o)
  | .L => wV H (aL X env H o)
  | .A => wA H (aA X env o)
  | .E => aE X env H o
  | .C => callO r env H o
where
  callV (r : Fns) (H : AH) (f : Option AV) (as : Option (List AV)) : Option (AV × AH) :=
    match f with
    | some (.func g first cap) => match as with
      | some as => r.call g (first ++ as ++ cap) H
      | none => none
    | _ => none
  callO (r : Fns) (env : T AV) (H : AH) : Op → Option (AV × AH)
    | .call c => match c.callee with
      | .value f => callV r H (opd env f) (opds env c.args.toList)
      | _ => none
    | _ => none

def setK (nt : Nat) (env : T AV) (dst : Option Tmp) (v : AV) (k : T AV → Option (T AV × AH)) : Option (T AV × AH) :=
  match setD nt env dst v with
  | some env' => k env'
  | none => none

def opsF (X : Cx) (r : Fns) (nt : Nat) (ops : Array Oper) (l : List Oper) (env : T AV) (H : AH) : Option (T AV × AH) :=
  match l with
  | [] => some (env, H)
  | o :: rest =>
    bif wantA ops env o then
      match opF X r env H o.op with
      | some (v, H') => setK nt env o.dst v fun env' => r.ops nt ops rest env' H'
      | none => none
    else setK nt env o.dst undefA fun env' => r.ops nt ops rest env' H

/-- An operation as it was met in the row. -/
structure Ent where
  i : Nat
  o : Oper
  want : Bool
  env : T AV
  H : AH
  v : AV
  H' : AH
def entD (X : Cx) (r : Fns) (ops : Array Oper) (env : T AV) (H : AH) (i : Nat) (o : Oper) : Option Ent :=
  bif wantA ops env o then
    match opF X r env H o.op with
    | some (v, H') => some ⟨i, o, true, env, H, v, H'⟩
    | none => none
  else some ⟨i, o, false, env, H, undefA, H⟩
def consD (e : Ent) (x : Option (List Ent × T AV × AH)) : Option (List Ent × T AV × AH) :=
  match x with
  | some (es, env, H) => some (e :: es, env, H)
  | none => none
def runD (X : Cx) (r : Fns) (nt : Nat) (ops : Array Oper) : List (Nat × Oper) → T AV → AH → Option (List Ent × T AV × AH)
  | [], env, H => some ([], env, H)
  | (i, o) :: rest, env, H => match entD X r ops env H i o with
    | some e => match setD nt env o.dst e.v with
      | some env' => consD e (runD X r nt ops rest env' e.H')
      | none => none
    | none => none
/-- What was read ahead of an effect reads so behind it, if the effect may come first. -/
def seeOk (X : Cx) (masks : List Nat) (a b : Ent) : Bool :=
  bif a.want && isEff (cls X b.o.op) && !(masks.getD b.i 0).testBit a.i then
    match cls X a.o.op with
    | .L => match aL X a.env b.H' a.o.op with
      | some v => aveq v a.v
      | none => false
    | _ => true
  else true
def seesOk (X : Cx) (masks : List Nat) : List Ent → Bool
  | [] => true
  | a :: l => l.all (seeOk X masks a) && seesOk X masks l
def drawF (X : Cx) (r : Fns) (nt : Nat) (ops : Array Oper) (env : T AV) (H : AH) : Option (T AV × AH) :=
  match plan X ops with
  | some (row, masks) => match runD X r nt ops row env H with
    | some (es, env', H') => bif seesOk X masks es then some (env', H') else none
    | none => none
  | none => none

def retF (X : Cx) (rs : List ResultVar) (x : Option (AExit × T AV × AH)) : Option (AV × AH) :=
  match x with
  | some (.exit _, _, _) => none
  | some (_, env, H) => match aresults X env H rs with
    | some [v] => some (v, H)
    | some vs => some (.tuple vs, H)
    | none => none
  | none => none
def enterF (X : Cx) (r : Fns) (fn : Func) (args : List AV) (H : AH) : Option (AV × AH) :=
  match fn.body with
  | some body => match argsAt 0 args .leaf with
    | some env => bif Nat.ble (lenL args 0) fn.ntmps then retF X fn.results.toList (r.code fn.ntmps body env H) else none
    | none => none
  | none => none
def callF (X : Cx) (r : Fns) (f : FuncId) (args : List AV) (H : AH) : Option (AV × AH) :=
  match X.sm.get f with
  | some g => g args H
  | none => match X.fn.get f with
    | some fn => enterF X r fn args H
    | none => none

def thenF (x : Option (AExit × T AV × AH)) (k : T AV → AH → Option (AExit × T AV × AH)) : Option (AExit × T AV × AH) :=
  match x with
  | some (.normal, env, H) => k env H
  | r => r
def blockF (id : Nat) (x : Option (AExit × T AV × AH)) : Option (AExit × T AV × AH) :=
  match x with
  | some (.exit id', env, H) => bif Nat.beq id' id then some (.normal, env, H) else some (.exit id', env, H)
  | r => r
def normalF (x : Option (T AV × AH)) : Option (AExit × T AV × AH) :=
  match x with
  | some (env, H) => some (.normal, env, H)
  | none => none
def condF (r : Fns) (nt : Nat) (c : Option AV) (a b : Code) (env : T AV) (H : AH) : Option (AExit × T AV × AH) :=
  match c with
  | some (.bool true) => r.code nt a env H
  | some (.bool false) => r.code nt b env H
  | _ => none
def codeF (X : Cx) (r : Fns) (nt : Nat) (c : Code) (env : T AV) (H : AH) : Option (AExit × T AV × AH) :=
  match c with
  | .skip => some (.normal, env, H)
  | .label _ => some (.normal, env, H)
  | .seq a b => thenF (r.code nt a env H) (r.code nt b)
  | .cond c a b => condF r nt (opd env c) a b env H
  | .block id b => blockF id (r.code nt b env H)
  | .loop b => thenF (r.code nt b env H) (r.code nt (.loop b))
  | .exit id => some (.exit id, env, H)
  | .ret => some (.ret, env, H)
  | .region _ ops draw => bif draw then normalF (drawF X r nt ops env H) else normalF (r.ops nt ops ops.toList env H)
  | _ => none

def ev (X : Cx) (n : Nat) : Fns :=
  Nat.rec ⟨fun _ _ _ _ => none, fun _ _ _ _ _ => none, fun _ _ _ => none⟩ (fun _ r => ⟨codeF X r, opsF X r, callF X r⟩) n
theorem ev_zero (X : Cx) : ev X 0 = ⟨fun _ _ _ _ => none, fun _ _ _ _ _ => none, fun _ _ _ => none⟩ := rfl
theorem ev_succ (X : Cx) (n : Nat) : ev X (n + 1) = ⟨codeF X (ev X n), opsF X (ev X n), callF X (ev X n)⟩ := rfl

end Go.Eng
