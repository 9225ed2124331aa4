/- A checked evaluator for the program, part 3: no condition. -/
import Derived.Test.YtghipbccmngkpaaB2
import Derived.KernelRfl
import Derived.Maps.RangeRun
set_option linter.all false
set_option linter.unusedVariables false
set_option linter.unusedSimpArgs false
section
noncomputable section
namespace Go.Eng

/-- How a piece of code ends: at its end, at the end of a block, with the function's result; what is told are the slots that are asked for behind it. -/
inductive Ex where
  | norm (vs : List AV)
  | exit (id : Nat) (vs : List AV)
  | ret (v : AV)

abbrev Rs := Option (Ex × AH)
def bV (x : Option AV) (K : AV → Rs) : Rs := Option.rec (motive := fun _ => Rs) none (fun v => K v) x
def bR (x : Option (AV × AH)) (K : AV → AH → Rs) : Rs := Option.rec (motive := fun _ => Rs) none (fun p => Prod.rec (motive := fun _ => Rs) (fun v H => K v H) p) x
def hd (vs : List AV) (K : AV → List AV → Rs) : Rs := List.rec (motive := fun _ => Rs) none (fun v l _ => K v l) vs
def cnd (c : AV) (a b : Rs) : Rs := match c with | .bool true => a | .bool false => b | _ => none
/-- Ways meet. -/
def jn (x : Rs) (K : List AV → AH → Rs) : Rs := match x with
  | some (.norm vs, H) => K vs H
  | some (.exit id vs, H) => some (.exit id vs, H)
  | some (.ret v, H) => some (.ret v, H)
  | none => none
/-- A block's end. -/
def jb (id : Nat) (x : Rs) (K : List AV → AH → Rs) : Rs := match x with
  | some (.norm vs, H) => K vs H
  | some (.exit i vs, H) => bif Nat.beq i id then K vs H else some (.exit i vs, H)
  | some (.ret v, H) => some (.ret v, H)
  | none => none
def loopK (n : Nat) (b : List AV → AH → Rs) : List AV → AH → Rs :=
  Nat.rec (motive := fun _ => List AV → AH → Rs) (fun _ _ => none) (fun _ ih vs H => jn (b vs H) ih) n
def wnt (x : AV) (want : Bool) (a b : Rs) : Rs := bif isW x want then a else b
def chk (x : Option AV) (v : AV) (K : Rs) : Rs := match x with | some y => bif aveq y v then K else none | none => none

def newB (H : AH) (o : AObj) (K : Nat → AH → Rs) : Rs :=
  match T.get H.h H.next with
  | none => match T.set 40 H.h H.next o with
    | some t => fN (Nat.succ H.next) fun m => K H.next ⟨t, m⟩
    | none => none
  | some _ => none
def bA (x : Option (AObj × (Nat → AV))) (H : AH) (K : AV → AH → Rs) : Rs :=
  match x with
  | some (o, mk) => newB H o fun A H' => K (mk A) H'
  | none => none

/- Primitives. -/
def bInt (op : BinOp) (x y : AV) : Option AV := match x with
  | .int k a => match y with | .int k' b => abinI op k a k' b | _ => none
  | _ => none
def bStr (op : BinOp) (x y : AV) : Option AV := match x with
  | .str l b => match y with | .str m c => abinS op l b m c | _ => none
  | _ => none
def bBool (op : BinOp) (x y : AV) : Option AV := match x with
  | .bool a => match y with
    | .bool b => match op with
      | .eql => mkB (a == b)
      | .neq => mkB !(a == b)
      | _ => none
    | _ => none
  | _ => none
def cmpO (op : BinOp) (r : Option Bool) : Option AV := match r with
  | some b => match op with
    | .eql => mkB b
    | .neq => mkB !b
    | _ => none
  | none => none
def eqP (x y : AV) : Option Bool := match x with
  | .nilPtr => match y with
    | .nilPtr => some true
    | .ptr _ _ => some false
    | _ => none
  | .ptr A o => match y with
    | .nilPtr => some false
    | .ptr B p => bif Nat.beq A B then some (Nat.beq o p) else none
    | _ => none
  | _ => none
def eqS (x y : AV) : Option Bool := match x with
  | .nilSlice => match y with
    | .nilSlice => some true
    | .slice _ _ _ _ => some false
    | _ => none
  | .slice _ _ _ _ => match y with
    | .nilSlice => some false
    | _ => none
  | _ => none
def eqM (x y : AV) : Option Bool := match x with
  | .nilMap => match y with
    | .nilMap => some true
    | .map _ => some false
    | _ => none
  | .map _ => match y with
    | .nilMap => some false
    | _ => none
  | _ => none
def eqF (x y : AV) : Option Bool := match x with
  | .nilFunc => match y with
    | .nilFunc => some true
    | .func _ _ _ => some false
    | _ => none
  | .func _ _ _ => match y with
    | .nilFunc => some false
    | _ => none
  | _ => none
def eqA (qs : List Nat) (x y : AV) : Option Bool := match x with
  | .agg a => match y with
    | .agg b => bif Nat.beq (lenL a 0) (lenL b 0) && Nat.beq qs.length (lenL a 0) then cellsEq qs a b else none
    | _ => none
  | _ => none
def eqPL (x y : AV) (H : AH) : Option Bool := match x with
  | .nilPtr => match y with
    | .nilPtr => some true
    | .ptr _ _ => some false
    | _ => none
  | .ptr A o => match y with
    | .nilPtr => some false
    | .ptr B p => bif Nat.beq A B then some (Nat.beq o p) else bif liveA A H && liveA B H then some false else none
    | _ => none
  | _ => none
def tBinL (X : Cx) (op : BinOp) (t : TypeId) (x y : AV) (H : AH) : Option AV :=
  match X.und t with
  | some (.pointer e) => match X.size e with
    | some 0 => none
    | some _ => cmpO op (eqPL x y H)
    | none => none
  | _ => none
def tBin (X : Cx) (op : BinOp) (t : TypeId) (x y : AV) : Option AV :=
  match X.und t with
  | some (.int _) => bInt op x y
  | some .string => bStr op x y
  | some .bool => bBool op x y
  | some (.pointer e) => match X.size e with
    | some 0 => none
    | some _ => cmpO op (eqP x y)
    | none => none
  | some (.slice _) => cmpO op (eqS x y)
  | some (.map _ _) => cmpO op (eqM x y)
  | some (.func _ _ _) => cmpO op (eqF x y)
  | some (.struct _) => match flOf t X.fl with | some qs => cmpO op (eqA qs x y) | none => none
  | some (.array _ _) => match flOf t X.fl with | some qs => cmpO op (eqA qs x y) | none => none
  | _ => none

def ldN (n : Nat) (p : AV) (H : AH) : Option AV := match p with
  | .ptr A off => match H.h.get A with
    | some (.cells l _ _ _) => match subN l off n with | some c => some (.agg c) | none => none
    | _ => none
  | _ => none
def ld1 (p : AV) (H : AH) : Option AV := match p with
  | .ptr A off => match H.h.get A with
    | some (.cells l _ _ _) => nth l off
    | _ => none
  | _ => none
def tLoad (X : Cx) (t : TypeId) (p : AV) (H : AH) : Option AV :=
  match X.und t with
  | some d => bif isAggD d then (match X.size t with | some n => ldN n p H | none => none) else ld1 p H
  | none => none
def stN (n : Nat) (p x : AV) (H : AH) : Option (AV × AH) := match p with
  | .ptr A off => match H.h.get A with
    | some (.cells l e sz g) => bif (lenL (cellsA x) 0).beq n && allCells (cellsA x) && Nat.blt 0 sz then
        match setAt l off (cellsA x) with
        | some l' => match putA H A (.cells l' e sz g) with
          | some H' => some (undefA, H')
          | none => none
        | none => none
      else none
    | _ => none
  | _ => none
def tStore (X : Cx) (t : TypeId) (p x : AV) (H : AH) : Option (AV × AH) :=
  match X.size t with | some n => stN n p x H | none => none

def cvI (k : IntKind) (x : AV) : Option AV := match x with | .int _ n => mkI k n | _ => none
def cvSS (x : AV) : Option AV := match x with | .str l b => some (.str l b) | _ => none
def tConvP (X : Cx) (src dst : TypeId) (x : AV) : Option AV :=
  match X.und src with
  | none => none
  | some ds => match X.und dst with
    | some (.int k) => cvI k x
    | some .string => match ds with
      | .string => cvSS x
      | _ => none
    | _ => none
def cvBS (x : AV) (H : AH) : Option AV := match x with
  | .nilSlice => some (.str 0 0)
  | .slice A off len _ => match H.h.get A with
    | some (.cells l _ _ _) => match subN l off len with
      | some c => match textOf c with
        | some (n, b) => mkS n b
        | none => none
      | none => none
    | _ => none
  | _ => none
def tConvL (X : Cx) (src dst : TypeId) (x : AV) (H : AH) : Option AV :=
  match X.und src with
  | some (.slice e) => match X.und dst with
    | some .string => match X.und e with
      | some (.int .u8) => cvBS x H
      | _ => none
    | _ => none
  | _ => none
def cvSB (e : TypeId) (x : AV) : Option (AObj × (Nat → AV)) := match x with
  | .str l b => bif Nat.blt l 4611686018427387904 then some (.cells (bytesOf l b) e 1 true, fun A => .slice A 0 l 1) else none
  | _ => none
def tConvA (X : Cx) (src dst : TypeId) (x : AV) : Option (AObj × (Nat → AV)) :=
  match X.und src with
  | some .string => match X.und dst with
    | some (.slice e) => match X.und e with
      | some (.int .u8) => cvSB e x
      | _ => none
    | _ => none
  | _ => none

def slStr (x : AV) (lo hi : Option AV) : Option AV := match natOpt lo, natOpt hi with
  | some lo, some hi => match x with | .str len bits => acutS len bits lo hi | _ => none
  | _, _ => none
def slSl (sz : Nat) (x : AV) (lo hi mx : Option AV) (H : AH) : Option AV := match natOpt lo, natOpt hi, natOpt mx with
  | some lo, some hi, some mx => match x with
    | .nilSlice => bif (lo.getD 0).beq 0 && (hi.getD 0).beq 0 && (mx.getD 0).beq 0 && (mx.isNone || hi.isSome) then some .nilSlice else none
    | .slice A off len cc => match H.h.get A with
      | some (.cells l _ sz' g) => bif Nat.blt 0 sz then acut A off len cc sz (roomOf l g sz' off cc sz) lo hi mx else none
      | _ => none
    | .emptySl => match mx with
      | none => bif (lo.getD 0).beq 0 && (hi.getD 0).beq 0 then some .emptySl else none
      | some _ => none
    | _ => none
  | _, _, _ => none
def slArr (n sz : Nat) (x : AV) (lo hi mx : Option AV) : Option AV := match natOpt lo, natOpt hi, natOpt mx with
  | some lo, some hi, some mx => match x with
    | .ptr A off => bif Nat.blt 0 sz then acut A off n (2 * n) sz n lo hi mx else none
    | _ => none
  | _, _, _ => none
def tSlice (X : Cx) (t : TypeId) (x : AV) (lo hi mx : Option AV) (H : AH) : Option AV :=
  match X.und t with
  | some .string => match mx with | none => slStr x lo hi | some _ => none
  | some (.slice e) => match X.size e with | some sz => slSl sz x lo hi mx H | none => none
  | some (.array n e) => match X.size e with | some sz => slArr n sz x lo hi mx | none => none
  | some (.pointer arr) => match X.und arr with
    | some (.array n e) => match X.size e with | some sz => slArr n sz x lo hi mx | none => none
    | _ => none
  | _ => none

def ixArr (n sz : Nat) (x ix : AV) : Option AV := match natOf ix with
  | some i => match x with
    | .ptr A off => bif Nat.blt i n then fN (off + i * sz) fun o => some (.ptr A o) else none
    | _ => none
  | none => none
def ixSl (sz : Nat) (x ix : AV) : Option AV := match natOf ix with
  | some i => match x with
    | .slice A off len _ => bif Nat.blt i len then fN (off + i * sz) fun o => some (.ptr A o) else none
    | _ => none
  | none => none
def tIxAddr (X : Cx) (t : TypeId) (x ix : AV) : Option AV :=
  match X.und t with
  | some (.array n e) => match X.size e with | some sz => ixArr n sz x ix | none => none
  | some (.slice e) => match X.size e with | some sz => ixSl sz x ix | none => none
  | _ => none
def ixStr (x ix : AV) : Option AV := match natOf ix with
  | some i => match x with
    | .str len bits => bif Nat.blt i len then fN ((bits / 2 ^ (8 * i)) % 256) fun b => some (.int .u8 (.ofNat b)) else none
    | _ => none
  | none => none
def ixAg1 (n sz : Nat) (x ix : AV) : Option AV := match natOf ix with
  | some i => match x with
    | .agg cs => bif Nat.blt i n then nth cs (i * sz) else none
    | _ => none
  | none => none
def ixAgN (n sz : Nat) (x ix : AV) : Option AV := match natOf ix with
  | some i => match x with
    | .agg cs => bif Nat.blt i n then match subN cs (i * sz) sz with | some c => some (.agg c) | none => none else none
    | _ => none
  | none => none
def tIndex (X : Cx) (t : TypeId) (x ix : AV) : Option AV :=
  match X.und t with
  | some .string => ixStr x ix
  | some (.array n e) => match X.und e, X.size e with
    | some d, some sz => bif isAggD d then ixAgN n sz x ix else ixAg1 n sz x ix
    | _, _ => none
  | _ => none
def fd1 (off : Nat) (x : AV) : Option AV := match x with | .agg cs => nth cs off | _ => none
def fdN (off n : Nat) (x : AV) : Option AV := match x with | .agg cs => (match subN cs off n with | some c => some (.agg c) | none => none) | _ => none
def tField (X : Cx) (t : TypeId) (x : AV) (f : Nat) : Option AV :=
  match X.und t with
  | some (.struct fs) => match nthF fs.toList f with
    | some fl => match X.und fl.type, X.size fl.type with
      | some d, some n => bif isAggD d then fdN fl.offset n x else fd1 fl.offset x
      | _, _ => none
    | none => none
  | _ => none
def fAd (off : Nat) (x : AV) : Option AV := match x with | .ptr A o => fN (o + off) fun o => some (.ptr A o) | _ => none
def tFieldAddr (X : Cx) (s : TypeId) (x : AV) (f : Nat) : Option AV :=
  match X.und s with
  | some (.struct fs) => match nthF fs.toList f with
    | some fl => match X.size fl.type with
      | some 0 => none
      | some _ => fAd fl.offset x
      | none => none
    | none => none
  | _ => none
def lnStr (x : AV) : Option AV := match x with | .str l _ => some (.int .i64 (.ofNat l)) | _ => none
def lnSl (x : AV) : Option AV := match x with
  | .nilSlice => some (.int .i64 (.ofNat 0))
  | .slice _ _ n _ => some (.int .i64 (.ofNat n))
  | .emptySl => some (.int .i64 (.ofNat 0))
  | _ => none
def lnMap (x : AV) (H : AH) : Option AV := match x with
  | .nilMap => some (.int .i64 (.ofNat 0))
  | .map A => match H.h.get A with
    | some (.map _ es) => fN es.length fun n => some (.int .i64 (.ofNat n))
    | _ => none
  | _ => none
def tLen (X : Cx) (t : TypeId) (x : AV) (H : AH) : Option AV :=
  match X.und t with
  | some .string => lnStr x
  | some (.slice _) => lnSl x
  | some (.array n _) => some (.int .i64 (.ofNat n))
  | some (.map _ _) => lnMap x H
  | _ => none
def apP (e sz bytes : Nat) (s x : AV) (H : AH) : Option (AV × AH) :=
  match srcOf sz x H with
  | some (n, new) => bif allCells new then app1 e sz bytes n new s H else none
  | none => none
def apZ (e sz bytes : Nat) (z : List AV) (s x : AV) (H : AH) : Option (AV × AH) := match x with
  | .int .i64 (.ofNat n) => bif Nat.ble (n * bytes) 281474976710656 && Nat.blt n 4611686018427387904 then app1 e sz bytes n (rep n z) s H else none
  | _ => none
def tApp (X : Cx) (t u : TypeId) (s x : AV) (H : AH) : Option (AV × AH) :=
  match X.und t with
  | some (.slice e) => match X.ty.get e with
    | some ti => match X.und u with
      | some (.slice _) => bif zeroOk ti.size ti.zero then apP e ti.size ti.bytes s x H else none
      | some .string => bif zeroOk ti.size ti.zero then apP e ti.size ti.bytes s x H else none
      | some (.int _) => match zeroA X e with
        | some z => bif zeroOk ti.size ti.zero && allCells (cellsA z) then apZ e ti.size ti.bytes (cellsA z) s x H else none
        | none => none
      | _ => none
    | none => none
  | _ => none
def cpy (sz : Nat) (dst src : AV) (H : AH) : Option (AV × AH) :=
  match dst with
  | .nilSlice => match src with
    | .nilSlice => some (.int .i64 (.ofNat 0), H)
    | .slice _ _ _ _ => some (.int .i64 (.ofNat 0), H)
    | .str _ _ => some (.int .i64 (.ofNat 0), H)
    | _ => none
  | .slice A off len _ => match srcOf sz src H with
    | some (n, new) =>
      match takeN (Nat.min n len * sz) new with
      | some new => bif allCells new then
          match H.h.get A with
          | some (.cells l e' sz' g) => match (bif Nat.blt 0 sz' then setAt l off new else none) with
            | some l' => match putA H A (.cells l' e' sz' g) with
              | some H' => fN (Nat.min n len) fun m => some (.int .i64 (.ofNat m), H')
              | none => none
            | none => none
          | _ => none
        else none
      | none => none
    | none => none
  | _ => none
def tCopy (X : Cx) (t : TypeId) (dst src : AV) (H : AH) : Option (AV × AH) :=
  match X.und t with
  | some (.slice e) => match X.size e with | some sz => cpy sz dst src H | none => none
  | _ => none

def bldS (pl : List (Nat × Nat)) (z : List AV) (parts : List (Nat × AV)) : Option AV :=
  match fillA (nthP pl) z parts with | some c => some (.agg c) | none => none
def bldA (sz : Nat) (z : List AV) (parts : List (Nat × AV)) : Option AV :=
  match fillA (fun i => some (i * sz, sz)) z parts with | some c => some (.agg c) | none => none
def tBuild (X : Cx) (t : TypeId) (ps : Option (List (Nat × AV))) : Option AV :=
  match zeroA X t with
  | some z => match ps with
    | some parts => match X.und t with
      | some (.struct fs) => match placesA X fs.toList with
        | some pl => bldS pl (cellsA z) parts
        | none => none
      | some (.array _ e) => match X.size e with
        | some sz => bldA sz (cellsA z) parts
        | none => none
      | _ => none
    | none => none
  | none => none
def pk3 (c a b : Option AV) : Option AV := match c with
  | some (.bool true) => a
  | some (.bool false) => b
  | _ => none
def s2a (n : Nat) (x : AV) : Option AV := match x with
  | .slice A off len _ => bif Nat.ble n len then some (.ptr A off) else none
  | _ => none
def tArr (X : Cx) (arr : TypeId) (x : AV) : Option AV := match X.und arr with | some (.array n _) => s2a n x | _ => none
def bxV (e : TypeId) (x : AV) : Option (AObj × (Nat → AV)) := some (.cells (cellsA x) e 1 false, fun A => .ptr A 0)
def bldL (e sz len : Nat) (z : List AV) (parts : List (Nat × AV)) : Option (AObj × (Nat → AV)) :=
  match fillA (fun i => some (i * sz, sz)) (rep len z) parts with
  | some c => some (.cells c e sz false, fun A => .slice A 0 len (2 * len))
  | none => none
def tBuildL (X : Cx) (t : TypeId) (len : Nat) (ps : Option (List (Nat × AV))) : Option (AObj × (Nat → AV)) :=
  match X.und t with
  | some (.slice e) => match ps with
    | some parts => match X.size e with
      | some sz => match zeroA X e with
        | some z => bif Nat.ble (len * sz) 16777216 && Nat.blt 0 sz && Nat.beq (lenL (cellsA z) 0) sz then bldL e sz len (cellsA z) parts else none
        | none => none
      | none => none
    | none => none
  | _ => none
def mkSl (e sz bytes : Nat) (z : List AV) (l c : AV) : Option (AObj × (Nat → AV)) := match l with
  | .int .i64 (.ofNat n) => match c with
    | .int .i64 (.ofNat m) => bif Nat.ble n m && Nat.ble (m * bytes) 140737488355328 && Nat.blt m 9223372036854775808 then
        some (.cells (rep m z) e sz false, fun A => .slice A 0 n (2 * m)) else none
    | _ => none
  | _ => none
def tMake (X : Cx) (t : TypeId) (l c : AV) : Option (AObj × (Nat → AV)) :=
  match X.und t with
  | some (.slice e) => match X.ty.get e with
    | some ti => match zeroA X e with
      | some z => bif Nat.blt 0 ti.size && Nat.beq (lenL (cellsA z) 0) ti.size then mkSl e ti.size ti.bytes (cellsA z) l c else none
      | none => none
    | none => none
  | _ => none

def tLk (X : Cx) (t : TypeId) (ok : Bool) (x k : AV) (H : AH) : Option AV := match X.und t with
  | some (.map kt et) => match kOf X kt, zeroA X et with
    | some ks, some z => lkM ks z ok x k H
    | _, _ => none
  | _ => none
def tUp (X : Cx) (t : TypeId) (x k v : AV) (H : AH) : Option (AV × AH) := match X.und t with
  | some (.map kt _) => match kOf X kt with
    | some ks => upM ks x k v H
    | none => none
  | _ => none
def tDl (X : Cx) (t : TypeId) (x k : AV) (H : AH) : Option (AV × AH) := match X.und t with
  | some (.map kt _) => match kOf X kt with
    | some ks => dlM ks x k H
    | none => none
  | _ => none
def mkM (ks : List Nat) : Option (AObj × (Nat → AV)) := some (.map ks [], fun A => .map A)
def tMkM (X : Cx) (t : TypeId) : Option (AObj × (Nat → AV)) := match X.und t with
  | some (.map kt _) => match kOf X kt with
    | some ks => mkM ks
    | none => none
  | _ => none
def q3 {α : Type} (x y z : Option AV) (f : AV → AV → AV → Option α) : Option α := match x with
  | some a => match y with
    | some b => match z with | some c => f a b c | none => none
    | none => none
  | none => none
def q1 {α : Type} (x : Option AV) (f : AV → Option α) : Option α := match x with | some a => f a | none => none
def q2 {α : Type} (x y : Option AV) (f : AV → AV → Option α) : Option α := match x with
  | some a => match y with | some b => f a b | none => none
  | none => none

/-- What functions are called by. -/
structure Dyn where
  fn : FuncId → List AV → AH → Option (AV × AH)
  yld : Nat → List AV → AH → Option (AV × AH)

/-- Tables: types, functions that are told. -/
structure Tb where
  X : Cx
  S : List (Nat × (List AV → AH → Option (AV × AH)))

def callG (S : List (Nat × (List AV → AH → Option (AV × AH)))) (D : Dyn) (g : FuncId) (az : List AV) (H : AH) : Option (AV × AH) := match S with
  | [] => D.fn g az H
  | (i, m) :: S => bif Nat.beq i g then m az H else callG S D g az H
def callV (S : List (Nat × (List AV → AH → Option (AV × AH)))) (D : Dyn) (f : AV) (az : List AV) (H : AH) : Option (AV × AH) := match f with
  | .func g first cap => callG S D g (first ++ az ++ cap) H
  | .yieldTo A => D.yld A az H
  | _ => none
def callO (B : Tb) (D : Dyn) (env : Env) (H : AH) (f : Operand) (args : List Operand) : Option (AV × AH) :=
  match opds env args with
  | some az => match opd env f with | some v => callV B.S D v az H | none => none
  | none => none

def opK (B : Tb) (D : Dyn) (env : Env) (H : AH) (K : AV → AH → Rs) : Op → Rs
  | .move x => match opd env x with | some v => K v H | none => none
  | .assign x => match opd env x with | some v => K v H | none => none
  | .pick c a b => bV (pk3 (opd env c) (opd env a) (opd env b)) fun v => K v H
  | .build t ps => bV (tBuild B.X t (partsA env ps.toList)) fun v => K v H
  | .nilCheck x => bV (q1 (opd env x) pNil) fun v => K v H
  | .binOp op t x y _ => bif ptrCmp B.X t x y then bV (q2 (opd env x) (opd env y) (tBinL B.X op t · · H)) fun v => K v H
    else bV (q2 (opd env x) (opd env y) (tBin B.X op t)) fun v => K v H
  | .unOp op _ x => bV (q1 (opd env x) (aun op)) fun v => K v H
  | .makeFunc (.func f) first cap => match opds env first.toList with
    | some a => match opds env cap.toList with
      | some b => K (.func f a b) H
      | none => none
    | none => none
  | .fieldAddr s x f => bV (q1 (opd env x) (tFieldAddr B.X s · f)) fun v => K v H
  | .field t x f => bV (q1 (opd env x) (tField B.X t · f)) fun v => K v H
  | .indexAddr t x i => bV (q2 (opd env x) (opd env i) (tIxAddr B.X t)) fun v => K v H
  | .index t x i => bV (q2 (opd env x) (opd env i) (tIndex B.X t)) fun v => K v H
  | .sliceToArrayPointer arr x => bV (q1 (opd env x) (tArr B.X arr)) fun v => K v H
  | .extract x i => bV (q1 (opd env x) (pExtract · i)) fun v => K v H
  | .load t a => bV (q1 (opd env a) (tLoad B.X t · H)) fun v => K v H
  | .slice t x lo hi mx => match optOf env lo, optOf env hi, optOf env mx with
    | some lo, some hi, some mx => bV (q1 (opd env x) (tSlice B.X t · lo hi mx H)) fun v => K v H
    | _, _, _ => none
  | .convert s d x => match clsConv B.X s d with
    | .P => bV (q1 (opd env x) (tConvP B.X s d)) fun v => K v H
    | .L => bV (q1 (opd env x) (tConvL B.X s d · H)) fun v => K v H
    | .A => bA (q1 (opd env x) (tConvA B.X s d)) H K
    | _ => none
  | .alloc e => match zeroA B.X e with | some z => bA (bxV e z) H K | none => none
  | .box e x => bA (q1 (opd env x) (bxV e)) H K
  | .buildSlice t len ps => bA (tBuildL B.X t len (partsA env ps.toList)) H K
  | .makeSlice t l c => bA (q2 (opd env l) (opd env c) (tMake B.X t)) H K
  | .lookup t x k ok => bV (q2 (opd env x) (opd env k) (tLk B.X t ok · · H)) fun v => K v H
  | .makeMap t none => bA (tMkM B.X t) H K
  | .mapUpdate t m k v => bR (q3 (opd env m) (opd env k) (opd env v) (tUp B.X t · · · H)) K
  | .store t a x => bR (q2 (opd env a) (opd env x) (tStore B.X t · · H)) K
  | .call c => match c.callee with
    | .value f => bR (callO B D env H f c.args.toList) K
    | .builtin .len => match c.args.toList, c.argTypes.toList with
      | [x], t :: _ => bV (q1 (opd env x) (tLen B.X t · H)) fun v => K v H
      | _, _ => none
    | .builtin .cap => match c.args.toList, c.argTypes.toList with
      | [x], t :: _ => bV (q1 (opd env x) (acap B.X t)) fun v => K v H
      | _, _ => none
    | .builtin .append => match c.args.toList, c.argTypes.toList with
      | [s, x], [t, u] => bR (q2 (opd env s) (opd env x) (tApp B.X t u · · H)) K
      | _, _ => none
    | .builtin .copy => match c.args.toList, c.argTypes.toList with
      | [s, x], t :: _ => bR (q2 (opd env s) (opd env x) (tCopy B.X t · · H)) K
      | _, _ => none
    | .builtin .min => match c.args.toList with
      | [x, y] => bV (q2 (opd env x) (opd env y) mn2) fun v => K v H
      | _ => none
    | .builtin .max => match c.args.toList with
      | [x, y] => bV (q2 (opd env x) (opd env y) mx2) fun v => K v H
      | _ => none
    | .builtin .delete => match c.args.toList, c.argTypes.toList with
      | [m, k], t :: _ => bR (q2 (opd env m) (opd env k) (tDl B.X t · · H)) K
      | _, _ => none
    | .builtin .clear => match c.args.toList, c.argTypes.toList with
      | [m], t :: _ => bR (q1 (opd env m) (acl B.X t · H)) K
      | _, _ => none
    | _ => none
  | _ => none

/- Slots that are asked for. -/
def pck (L : List Nat) (env : Env) (K : List AV → Rs) : Rs := match L with
  | [] => K []
  | l :: L => match env l with
    | some v => pck L env fun vs => K (v :: vs)
    | none => none
def unp (L : List Nat) (vs : List AV) (env : Env) (K : Env → Rs) : Rs := match L with
  | [] => K env
  | l :: L => hd vs fun v vs => unp L vs (upd env l v) K

def nl (vs : List AV) (K : Rs) : Rs := match vs with | [] => K | _ :: _ => none
def unpA (k i : Nat) (vs : List AV) (env : Env) (K : Env → Rs) : Rs := match k with
  | 0 => nl vs (K env)
  | k + 1 => hd vs fun v vs => unpA k (i + 1) vs (upd env i v) K
def dropE (L : List Nat) (env : Env) : Env := match L with
  | [] => env
  | l :: L => fun t => bif Nat.beq t l then none else dropE L env t
def setE (nt : Nat) (env : Env) (d : Option Tmp) (v : AV) (K : Env → Rs) : Rs := match d with
  | some d => bif Nat.blt d nt then K (upd env d v) else none
  | none => K env

def isL (X : Cx) (o : Op) : Bool := match cls X o with | .L => true | _ => false
/-- Is it a reading that may turn out otherwise? -/
def mayTurn (X : Cx) (o : Op) : Bool := match o with
  | .load _ _ => true
  | .lookup _ _ _ _ => true
  | .slice t _ _ _ _ => match X.und t with | some (.slice _) => true | _ => false
  | .convert _ _ _ => isL X o
  | .binOp _ t x y _ => ptrCmp X t x y
  | .call c => match c.callee with
    | .builtin .len => match c.argTypes.toList with
      | t :: _ => match X.und t with | some (.map _ _) => true | _ => false
      | _ => false
    | _ => false
  | _ => false
/- Operations in their row. Those with one guard stand together. -/
def sameG : Option (Nat × Bool) → Option (Nat × Bool) → Bool
  | some (i, a), some (j, b) => Nat.beq i j && (a == b)
  | _, _ => false
def spanG (g : Option (Nat × Bool)) : List (Nat × Oper) → List (Nat × Oper) × List (Nat × Oper)
  | [] => ([], [])
  | o :: l => bif sameG g o.2.guard then (match spanG g l with | (a, b) => (o :: a, b)) else ([], o :: l)
def slotsOf (ops : Array Oper) (l : List (Nat × Oper)) : List Nat := l.flatMap fun a => namesOf ops a.2
def outOf (ops : Array Oper) (run rest : List (Nat × Oper)) : List Nat :=
  let s := slotsOf ops rest
  run.filterMap fun a => match a.2.dst with
    | some d => bif s.contains d then some d else none
    | none => none
def dstsOf (run : List (Nat × Oper)) : List Nat := run.filterMap fun a => a.2.dst
def runOk (X : Cx) (masks : Option (List Nat)) (run rest : List (Nat × Oper)) : Bool := match masks with
  | none => true
  | some ms => run.all fun a => !mayTurn X a.2.op || rest.all fun b => !isEff (cls X b.2.op) || (ms.getD b.1 0).testBit a.1
def guardV (ops : Array Oper) (env : Env) (j : Nat) : Option AV := match nthO ops.toList j with
  | some p => match p.dst with
    | some d => look env d
    | none => none
  | none => none

/-- A reading whose order among effects Go leaves open. -/
structure Seen where
  i : Nat
  rd : AH → Option AV
  v : AV
def rdOf (B : Tb) (env : Env) (o : Op) (H : AH) : Option AV := match o with
  | .load t a => q1 (opd env a) (tLoad B.X t · H)
  | .lookup t x k ok => q2 (opd env x) (opd env k) (tLk B.X t ok · · H)
  | .slice t x lo hi mx => match optOf env lo, optOf env hi, optOf env mx with
    | some lo, some hi, some mx => q1 (opd env x) (tSlice B.X t · lo hi mx H)
    | _, _, _ => none
  | .convert s d x => q1 (opd env x) (tConvL B.X s d · H)
  | .binOp op t x y _ => q2 (opd env x) (opd env y) (tBinL B.X op t · · H)
  | .call c => match c.args.toList, c.argTypes.toList with
    | [x], t :: _ => q1 (opd env x) (tLen B.X t · H)
    | _, _ => none
  | _ => none
def chks (mask : Nat) (H : AH) (K : Rs) : List Seen → Rs
  | [] => K
  | s :: l => bif Nat.testBit mask s.i then chks mask H K l else chk (s.rd H) s.v (chks mask H K l)
def seenK (B : Tb) (masks : List Nat) (env : Env) (sn : List Seen) (i : Nat) (o : Op) (v : AV) (H' : AH) (K : List Seen → Rs) : Rs :=
  bif isEff (cls B.X o) then chks (masks.getD i 0) H' (K sn) sn
  else bif mayTurn B.X o then K (sn ++ [⟨i, rdOf B env o, v⟩]) else K sn

/-- A row of operations without guards. -/
def rowK (B : Tb) (D : Dyn) (nt : Nat) (masks : Option (List Nat)) (K : List Seen → Env → AH → Rs) : List (Nat × Oper) → List Seen → Env → AH → Rs
  | [], sn, env, H => K sn env H
  | (i, o) :: rest, sn, env, H => opK B D env H (fun v H' => match masks with
      | none => setE nt env o.dst v fun env' => rowK B D nt masks K rest sn env' H'
      | some ms => seenK B ms env sn i o.op v H' fun sn => setE nt env o.dst v fun env' => rowK B D nt masks K rest sn env' H') o.op
/-- Is the slot of a guard not filled by what it guards? -/
def freeG (nt : Nat) (ops : Array Oper) (j : Nat) (run : List (Nat × Oper)) : Bool := match nthO ops.toList j with
  | some p => match p.dst with
    | some d => !(dstsOf run).contains d && (dstsOf run).all fun d => Nat.blt d nt
    | none => false
  | none => false
/-- What is passed over is looked after as if it were done. -/
def skipK (X : Cx) (masks : Option (List Nat)) (sn : List Seen) (H : AH) (K : Rs) : List (Nat × Oper) → Rs
  | [] => K
  | b :: run => match masks with
    | none => skipK X masks sn H K run
    | some ms => bif isEff (cls X b.2.op) then chks (ms.getD b.1 0) H (skipK X masks sn H K run) sn else skipK X masks sn H K run
def runK (B : Tb) (D : Dyn) (nt : Nat) (ops : Array Oper) (masks : Option (List Nat)) (g : AV) (want : Bool) (run : List (Nat × Oper)) (out : List Nat) (sn : List Seen) (env : Env) (H : AH) (K : Env → AH → Rs) : Rs :=
  jn (wnt g want (rowK B D nt masks (fun _ env H => pck out env fun vs => some (.norm vs, H)) run sn env H)
      (skipK B.X masks sn H (some (.norm (out.map fun _ => undefA), H)) run))
    fun vs H => unp out vs (dropE (dstsOf run) env) fun env => K env H
/-- Likewise, but the ways do not meet behind it. -/
def runW (B : Tb) (D : Dyn) (nt : Nat) (masks : Option (List Nat)) (g : AV) (want : Bool) (run : List (Nat × Oper)) (out : List Nat) (sn : List Seen) (env : Env) (H : AH) (K : List Seen → Env → AH → Rs) : Rs :=
  wnt g want (rowK B D nt masks K run sn env H)
    (skipK B.X masks sn H (unp out (out.map fun _ => undefA) (dropE (dstsOf run) env) fun env => K sn env H) run)
def opsK (B : Tb) (D : Dyn) (nt : Nat) (ops : Array Oper) (masks : Option (List Nat)) (fuel : Nat) (K : Env → AH → Rs) : List (Nat × Oper) → List Seen → Env → AH → Rs :=
  Nat.rec (motive := fun _ => List (Nat × Oper) → List Seen → Env → AH → Rs) (fun _ _ _ _ => none)
    (fun _ ih l sn env H => match l with
      | [] => K env H
      | (i, o) :: rest => match o.guard with
        | none => rowK B D nt masks (fun sn env H => ih rest sn env H) [(i, o)] sn env H
        | some (j, want) => match guardV ops env j with
          | none => none
          | some g => match spanG o.guard rest with
            | (run, rest) => bif freeG nt ops j ((i, o) :: run) then
                bif runOk B.X masks ((i, o) :: run) rest then
                  runK B D nt ops masks g want ((i, o) :: run) (outOf ops ((i, o) :: run) rest) sn env H fun env H => ih rest sn env H
                else runW B D nt masks g want ((i, o) :: run) (outOf ops ((i, o) :: run) rest) sn env H fun sn env H => ih rest sn env H
              else none) fuel

def idx (l : List Oper) : Nat → List (Nat × Oper) := match l with
  | [] => fun _ => []
  | o :: l => fun n => (n, o) :: idx l (n + 1)
/-- A region. -/
def regK (B : Tb) (D : Dyn) (nt : Nat) (ops : Array Oper) (draw : Bool) (K : Env → AH → Rs) (env : Env) (H : AH) : Rs :=
  bif draw then
    match plan B.X ops with
    | some (row, masks) => opsK B D nt ops (some masks) (Nat.succ row.length) K row [] env H
    | none => none
  else opsK B D nt ops none (Nat.succ ops.size) K (idx ops.toList 0) [] env H

/-- Hints: which slots are asked for where ways meet. -/
inductive Hint where
  | o
  | s (a b : Hint)
  | c (L : List Nat) (a b : Hint)
  | cl (a b : Hint)
  | cr (a b : Hint)
  | b (L : List Nat) (a : Hint)
  | b0 (a : Hint)
  | l (L : List Nat) (a : Hint)
  | rf (s : Nat) (L : List Nat)
  | t (L : List Nat) (m : List AV → AH → Option AH)

def liveOf (Bk : List (Nat × List Nat)) (id : Nat) : Option (List Nat) := match Bk with
  | [] => none
  | (i, L) :: r => bif Nat.beq i id then some L else liveOf r id
def dropB (Bk : List (Nat × List Nat)) (id : Nat) : List (Nat × List Nat) := Bk.filter fun x => !Nat.beq x.1 id

def resE (X : Cx) (env : Env) (H : AH) : ResultVar → Option AV
  | .tmp t => env t
  | .cell a t => q1 (env a) (tLoad X t · H)
def retK (X : Cx) (rs : List ResultVar) (env : Env) (H : AH) (K : List AV → Rs) : Rs := match rs with
  | [] => K []
  | r :: rs => bV (resE X env H r) fun v => retK X rs env H fun vs => K (v :: vs)
def tupV : List AV → AV
  | [v] => v
  | vs => .tuple vs
def retE (X : Cx) (rs : List ResultVar) (env : Env) (H : AH) : Rs := retK X rs env H fun vs => some (.ret (tupV vs), H)

/- Loops over functions. -/
def rfC (S : List (Nat × (List AV → AH → Option (AV × AH)))) (D : Dyn) (f : AV) (A : Nat) (H : AH) : Option (AV × AH) := match f with
  | .func g first cap => callG S D g (first ++ [.yieldTo A] ++ cap) H
  | _ => none
def beginK (A : Nat) (H : AH) (K : AH → Rs) : Rs := match H.h.get A with
  | some (.loop l) => match l.state with
    | .ready => match putA H A (.loop { l with state := .busy }) with
      | some H' => K H'
      | none => none
    | _ => none
  | _ => none
def endR (A : Nat) (jump : Option Code) (H : AH) : Option (AV × AH) := match H.h.get A with
  | some (.loop l) => match jump with
    | none => match putA H A (.loop { l with state := .ready, pending := none }) with
      | some H' => some (.bool true, H')
      | none => none
    | some j => match putA H A (.loop { l with state := .done, pending := some j }) with
      | some H' => some (.bool false, H')
      | none => none
  | _ => none
def endQ (A : Nat) (x : Rs) : Option (AV × AH) := match x with
  | some (.norm _, H) => endR A none H
  | some (.exit id _, H) => endR A (some (.exit id)) H
  | some (.ret _, H) => endR A (some .ret) H
  | none => none
def endLp (A : Nat) (H : AH) (K : Option Code → AH → Rs) : Rs := match H.h.get A with
  | some (.loop l) => match l.state with
    | .busy => none
    | _ => match putA H A .dead with
      | some H' => K l.pending H'
      | none => none
  | _ => none
def jmpK (j : Option Code) (Kn : Rs) (Kx : Nat → Rs) (Kr : Rs) : Rs := match j with
  | none => Kn
  | some (.exit id) => Kx id
  | some .ret => Kr
  | _ => none
def exS (Bk : List (Nat × List Nat)) (env : Env) (H : AH) (id : Nat) : Rs := match Bk with
  | [] => none
  | (i, L) :: r => bif Nat.beq i id then (pck L env fun vs => some (.exit id vs, H)) else exS r env H id
def unpP (nt : Nat) (ps : List Nat) (az : List AV) (env : Env) (K : Env → Rs) : Rs := match ps with
  | [] => nl az (K env)
  | p :: ps => hd az fun a az => bif Nat.blt p nt then unpP nt ps az (upd env p a) K else none

/-- Code that is told. -/
def tld (x : Option AH) (N : Nat) (K : AH → Rs) : Rs := match x with
  | some H => bif Nat.ble N H.next then K H else none
  | none => none

def codeK (B : Tb) (D : Dyn) (n nt : Nat) (rs : List ResultVar) (f0 : FuncId) (ro : Bool) : Code → Hint → List (Nat × List Nat) → (Env → AH → Rs) → Env → AH → Rs
  | .skip, _, _, K, env, H => K env H
  | .label _, _, _, K, env, H => K env H
  | .region _ ops draw, _, _, K, env, H => regK B D nt ops draw K env H
  | .seq a b, .s ha hb, Bk, K, env, H => codeK B D n nt rs f0 ro a ha Bk (codeK B D n nt rs f0 ro b hb Bk K) env H
  | .seq _ _, .t L m, _, K, env, H => pck L env fun vs => tld (m vs H) H.next fun H => unp L vs env0 fun env => K env H
  | .cond c a b, .c L ha hb, Bk, K, env, H => match opd env c with
    | some v => jn (cnd v (codeK B D n nt rs f0 ro a ha Bk (fun env H => pck L env fun vs => some (.norm vs, H)) env H)
        (codeK B D n nt rs f0 ro b hb Bk (fun env H => pck L env fun vs => some (.norm vs, H)) env H)) fun vs H => unp L vs env0 fun env => K env H
    | none => none
  | .cond c a b, .cl ha hb, Bk, K, env, H => match opd env c with
    | some v => cnd v (codeK B D n nt rs f0 ro a ha Bk (fun _ _ => none) env H) (codeK B D n nt rs f0 ro b hb Bk K env H)
    | none => none
  | .cond c a b, .cr ha hb, Bk, K, env, H => match opd env c with
    | some v => cnd v (codeK B D n nt rs f0 ro a ha Bk K env H) (codeK B D n nt rs f0 ro b hb Bk (fun _ _ => none) env H)
    | none => none
  | .block id b, .b L hb, Bk, K, env, H =>
    jb id (codeK B D n nt rs f0 ro b hb ((id, L) :: Bk) (fun env H => pck L env fun vs => some (.norm vs, H)) env H) fun vs H => unp L vs env0 fun env => K env H
  | .block id b, .b0 hb, Bk, K, env, H => codeK B D n nt rs f0 ro b hb (dropB Bk id) K env H
  | .loop b, .l L hb, Bk, _, env, H => pck L env fun vs =>
    loopK n (fun vs H => unp L vs env0 fun env => codeK B D n nt rs f0 ro b hb Bk (fun env H => pck L env fun vs => some (.norm vs, H)) env H) vs H
  | .exit id, _, Bk, _, env, H => match liveOf Bk id with
    | some L => pck L env fun vs => some (.exit id vs, H)
    | none => none
  | .ret, _, _, _, env, H => retE B.X rs env H
  | .rangeFunc f _ _ _, .rf s L, Bk, K, env, H => bif ro then none else match opd env f with
    | some fv => pck L env fun vs => newB H (.loop ⟨.ready, none, f0, s, L, vs⟩) fun A H => bR (rfC B.S D fv A H) fun _ H =>
        endLp A H fun j H => jmpK j (K env H) (exS Bk env H) (retE B.X rs env H)
    | none => none
  | _, _, _, _, _, _ => none

def outR (x : Rs) : Option (AV × AH) := match x with | some (.ret v, H) => some (v, H) | _ => none
/-- A round of a loop over a function. -/
def rdK (B : Tb) (D : Dyn) (n : Nat) (f0 : FuncId) (nt : Nat) (ps : Array Tmp) (asg body : Code) (L ids : List Nat) (ha hb : Hint) (A : Nat) (l : ALoop) (az : List AV) (H : AH) : Option (AV × AH) :=
  bif eqNL L l.live then
    endQ A (unp L l.vals env0 fun env => unpP nt ps.toList az env fun env =>
      codeK B D n nt [] f0 true asg ha [] (fun env H => beginK A H fun H => codeK B D n nt [] f0 true body hb (ids.map fun i => (i, [])) (fun _ H => some (.norm [], H)) env H) env H)
  else none
def rndK (B : Tb) (D : Dyn) (n : Nat) (f0 : FuncId) (s : Nat) (L ids : List Nat) (ha hb : Hint) (A : Nat) (l : ALoop) (az : List AV) (H : AH) : Option (AV × AH) :=
  match siteC f0 s with
  | some (nt, ps, asg, body) => rdK B D n f0 nt ps asg body L ids ha hb A l az H
  | none => none
/-- Which round: by the function and the place. -/
def rdOfT (t : List ((Nat × Nat) × (Nat → ALoop → List AV → AH → Option (AV × AH)))) (A : Nat) (az : List AV) (H : AH) : Option (AV × AH) :=
  match H.h.get A with
  | some (.loop l) => go l t
  | _ => none
where go (l : ALoop) : List ((Nat × Nat) × (Nat → ALoop → List AV → AH → Option (AV × AH))) → Option (AV × AH)
  | [] => none
  | ((f, s), m) :: t => bif Nat.beq f l.fn && Nat.beq s l.site then m A l az H else go l t
/-- A function, entered. -/
def funK (B : Tb) (D : Dyn) (n : Nat) (f0 : FuncId) (fn : Func) (h : Hint) (az : List AV) (H : AH) : Option (AV × AH) :=
  match fn.body with
  | some body => bif Nat.ble (fn.params.size + fn.nfree) fn.ntmps then outR (unpA (fn.params.size + fn.nfree) 0 az env0 fun env => codeK B D n fn.ntmps fn.results.toList f0 false body h [] (fun env H => retE B.X fn.results.toList env H) env H) else none
  | none => none
end Go.Eng
end
end
section
namespace Go.Eng

theorem bV_some {x : Option AV} {K : AV → Rs} {out : Ex × AH} (h : bV x K = some out) : ∃ v, x = some v ∧ K v = some out := by
  cases x with
  | none => exact absurd h (by simp [bV])
  | some v => exact ⟨_, rfl, h⟩
theorem bR_some {x : Option (AV × AH)} {K : AV → AH → Rs} {out : Ex × AH} (h : bR x K = some out) : ∃ v H, x = some (v, H) ∧ K v H = some out := by
  cases x with
  | none => exact absurd h (by simp [bR])
  | some p => obtain ⟨v, H⟩ := p; exact ⟨_, _, rfl, h⟩
theorem bA_some {x : Option (AObj × (Nat → AV))} {H : AH} {K : AV → AH → Rs} {out : Ex × AH} (h : bA x H K = some out) : ∃ v H', wA H x = some (v, H') ∧ K v H' = some out := by
  unfold bA at h; split at h
  · rename_i o mk
    unfold newB at h
    split at h
    · rename_i hn
      split at h
      · rename_i t ht
        rw [fN_eq] at h
        refine ⟨_, _, ?_, h⟩
        simp only [wA, newA, hn, newA0, ht]
      · simp at h
    · simp at h
  · simp at h
theorem q1_some {α : Type} {x : Option AV} {f : AV → Option α} {r : α} (h : q1 x f = some r) : ∃ a, x = some a ∧ f a = some r := by
  unfold q1 at h; split at h
  · exact ⟨_, rfl, h⟩
  · simp at h
theorem q2_some {α : Type} {x y : Option AV} {f : AV → AV → Option α} {r : α} (h : q2 x y f = some r) : ∃ a b, x = some a ∧ y = some b ∧ f a b = some r := by
  unfold q2 at h; split at h
  · split at h
    · exact ⟨_, _, rfl, rfl, h⟩
    · simp at h
  · simp at h

section
variable {X : Cx}

theorem cmpO_some {op : BinOp} {q : Option Bool} {r : AV} (h : cmpO op q = some r) : ∃ b, q = some b ∧ ((op = .eql ∧ mkB b = some r) ∨ (op = .neq ∧ mkB (!b) = some r)) := by
  unfold cmpO at h; split at h
  · split at h
    · exact ⟨_, rfl, .inl ⟨rfl, h⟩⟩
    · exact ⟨_, rfl, .inr ⟨rfl, h⟩⟩
    · simp at h
  · simp at h
theorem abinE_of {op : BinOp} {t : TypeId} {x y r : AV} {b : Bool} (h : aeq X 9 t x y = some b) (k : (op = .eql ∧ mkB b = some r) ∨ (op = .neq ∧ mkB (!b) = some r)) : abinE X op t x y = some r := by
  unfold abinE
  rcases k with ⟨rfl, k⟩ | ⟨rfl, k⟩ <;> simp only [h, k]

theorem eqA_ok {op : BinOp} {t : TypeId} {x y r : AV} {qs : List Nat} (hq : flOf t X.fl = some qs) (h : cmpO op (eqA qs x y) = some r) : abin X op t x y = some r := by
  obtain ⟨b, hb, hk⟩ := cmpO_some h
  unfold eqA at hb
  split at hb
  · rename_i a
    split at hb
    · rename_i c
      rw [cond_eq_ite] at hb
      split at hb
      · rename_i hc
        show abinG X op t a c = some r
        simp only [abinG, hq, hc, cond_true, hb]
        rcases hk with ⟨rfl, hk⟩ | ⟨rfl, hk⟩
        · exact hk
        · exact hk
      · simp at hb
    · simp at hb
  · simp at hb
theorem tBin_ok {op : BinOp} {t : TypeId} {x y r : AV} (h : tBin X op t x y = some r) : abin X op t x y = some r := by
  unfold tBin at h
  split at h
  · unfold bInt at h
    split at h
    · split at h
      · exact h
      · simp at h
    · simp at h
  · unfold bStr at h
    split at h
    · split at h
      · exact h
      · simp at h
    · simp at h
  · rename_i hu
    unfold bBool at h
    split at h
    · rename_i a
      split at h
      · rename_i b
        have ha : aeq X 9 t (.bool a) (.bool b) = some (a == b) := by simp only [aeq, hu]
        show (bif eqable (.bool a) then abinE X op t (.bool a) (.bool b) else none) = some r
        simp only [eqable, cond_true]
        split at h
        · exact abinE_of ha (.inl ⟨rfl, h⟩)
        · exact abinE_of ha (.inr ⟨rfl, h⟩)
        · simp at h
      · simp at h
    · simp at h
  · rename_i e hu
    split at h
    · simp at h
    · rename_i n hne hn
      obtain ⟨b, hb, hk⟩ := cmpO_some h
      have key : ∀ x y, eqP x y = some b → aeq X 9 t x y = some b ∧ eqable x = true := by
        intro x y hb
        unfold eqP at hb
        split at hb
        · split at hb <;> simp_all [aeq, hu, eqable]
        · split at hb
          · simp_all [aeq, hu, eqable]
          · simp only [aeq, hu, hn, eqable]
            exact ⟨hb, trivial⟩
          · simp at hb
        · simp at hb
      obtain ⟨k1, k2⟩ := key x y hb
      have k3 := abinE_of k1 hk
      unfold abin
      split
      · simp [eqable] at k2
      · simp [eqable] at k2
      · simp [eqable] at k2
      · rw [k2]; exact k3
    · simp at h
  · rename_i e hu
    obtain ⟨b, hb, hk⟩ := cmpO_some h
    have key : aeq X 9 t x y = some b ∧ eqable x = true := by
      unfold eqS at hb
      split at hb
      · split at hb <;> simp_all [aeq, hu, eqable]
      · split at hb <;> simp_all [aeq, hu, eqable]
      · simp at hb
    obtain ⟨k1, k2⟩ := key
    have k3 := abinE_of k1 hk
    unfold abin
    split
    · simp [eqable] at k2
    · simp [eqable] at k2
    · simp [eqable] at k2
    · rw [k2]; exact k3
  · rename_i e1 e2 hu
    obtain ⟨b, hb, hk⟩ := cmpO_some h
    have key : aeq X 9 t x y = some b ∧ eqable x = true := by
      unfold eqM at hb
      split at hb
      · split at hb <;> simp_all [aeq, hu, eqable]
      · split at hb <;> simp_all [aeq, hu, eqable]
      · simp at hb
    obtain ⟨k1, k2⟩ := key
    have k3 := abinE_of k1 hk
    unfold abin
    split
    · simp [eqable] at k2
    · simp [eqable] at k2
    · simp [eqable] at k2
    · rw [k2]; exact k3
  · rename_i e1 e2 e3 hu
    obtain ⟨b, hb, hk⟩ := cmpO_some h
    have key : aeq X 9 t x y = some b ∧ eqable x = true := by
      unfold eqF at hb
      split at hb
      · split at hb <;> simp_all [aeq, hu, eqable]
      · split at hb <;> simp_all [aeq, hu, eqable]
      · simp at hb
    obtain ⟨k1, k2⟩ := key
    have k3 := abinE_of k1 hk
    unfold abin
    split
    · simp [eqable] at k2
    · simp [eqable] at k2
    · simp [eqable] at k2
    · rw [k2]; exact k3
  · split at h
    · rename_i qs hq; exact eqA_ok hq h
    · simp at h
  · split at h
    · rename_i qs hq; exact eqA_ok hq h
    · simp at h
  · simp at h

theorem tBinL_ok {op : BinOp} {t : TypeId} {x y r : AV} {H : AH} (h : tBinL X op t x y H = some r) : abinL X op t x y H = some r := by
  unfold tBinL at h
  split at h
  · rename_i e hu
    split at h
    · simp at h
    · rename_i n hne hn
      have hn0 : n ≠ 0 := fun h0 => hne (by rw [h0])
      obtain ⟨m, rfl⟩ : ∃ m, n = m + 1 := ⟨n - 1, by omega⟩
      have ht : tBin X op t x y = cmpO op (eqP x y) := by simp only [tBin, hu, hn]
      have key : tBin X op t x y = some r ∨ ∃ A o B p, x = .ptr A o ∧ y = .ptr B p ∧ Nat.beq A B = false ∧ liveA A H = true ∧ liveA B H = true ∧ cmpO op (some false) = some r := by
        rw [ht]
        cases x <;> cases y <;> simp only [eqPL] at h <;> first | exact .inl h | (simp [cmpO] at h; done) | skip
        rename_i A o B p
        cases hAB : Nat.beq A B with
        | true => left; simp only [hAB, cond_true, eqP] at h ⊢; exact h
        | false =>
          simp only [hAB, cond_false] at h
          cases hl : (liveA A H && liveA B H) with
          | true =>
            rw [hl] at h; simp only [cond_true] at h
            rw [Bool.and_eq_true] at hl
            exact .inr ⟨A, o, B, p, rfl, rfl, hAB, hl.1, hl.2, h⟩
          | false => rw [hl] at h; simp [cmpO] at h
      rcases key with hk | ⟨A, o, B, p, rfl, rfl, hAB, hA, hB, hc⟩
      · unfold abinL; rw [tBin_ok hk]
      · have hno : abin X op t (.ptr A o) (.ptr B p) = none := by
          show (bif eqable (.ptr A o) then abinE X op t (.ptr A o) (.ptr B p) else none) = none
          simp only [eqable, cond_true]
          unfold abinE
          cases op <;> simp only [aeq, hu, hn, hAB, cond_false]
        unfold abinL
        rw [hno]
        simp only [hu, hn, pNe, hA, hB, hAB, Bool.not_false, Bool.and_self, cond_true]
        cases op <;> first | exact hc | (simp [cmpO] at hc; done)
    · simp at h
  · simp at h

theorem tLoad_ok {t : TypeId} {p r : AV} {H : AH} (h : tLoad X t p H = some r) : aload X t p H = some r := by
  unfold tLoad at h
  split at h
  · rename_i d hd
    rw [cond_eq_ite] at h
    split at h
    · rename_i ha
      split at h
      · rename_i n hn
        unfold ldN at h
        split at h
        · split at h
          · rename_i hA; simp only [aload, hA, hd, ha, cond_true, hn]; exact h
          · simp at h
        · simp at h
      · simp at h
    · rename_i ha
      unfold ld1 at h
      split at h
      · split at h
        · rename_i hA; simp only [aload, hA, hd, Bool.eq_false_iff.2 ha, cond_false]; exact h
        · simp at h
      · simp at h
  · simp at h

theorem tStore_ok {t : TypeId} {p x v : AV} {H H' : AH} (h : tStore X t p x H = some (v, H')) : eStore X t (some p) (some x) H = some (v, H') := by
  unfold tStore at h
  split at h
  · rename_i n hn
    unfold stN at h
    split at h
    · split at h
      · rename_i hA
        rw [cond_eq_ite] at h
        split at h
        · rename_i hc
          split at h
          · rename_i hs
            split at h
            · rename_i hp
              simp only [eStore, astore, hA, hn, hc, cond_true, hs, hp]; exact h
            · simp at h
          · simp at h
        · simp at h
      · simp at h
    · simp at h
  · simp at h

theorem tConvP_ok {s d : TypeId} {x r : AV} (h : tConvP X s d x = some r) : aconvP X s d x = some r := by
  unfold tConvP at h
  split at h
  · simp at h
  · rename_i ds hs
    split at h
    · rename_i k hd
      unfold cvI at h
      split at h
      · simp only [aconvP, hs, hd]; exact h
      · simp at h
    · rename_i hd
      split at h
      · unfold cvSS at h
        split at h
        · simp only [aconvP, hs, hd]; exact h
        · simp at h
      · simp at h
    · simp at h
theorem tConvL_ok {s d : TypeId} {x r : AV} {H : AH} (h : tConvL X s d x H = some r) : aconvL X s d x H = some r := by
  unfold tConvL at h
  split at h
  · rename_i e hs
    split at h
    · rename_i hd
      split at h
      · rename_i he
        simp only [aconvL, hs, hd, he]; exact h
      · simp at h
    · simp at h
  · simp at h
theorem tConvA_ok {s d : TypeId} {x : AV} {r : AObj × (Nat → AV)} (h : tConvA X s d x = some r) : aconvA X s d x = some r := by
  unfold tConvA at h
  split at h
  · rename_i hs
    split at h
    · rename_i e hd
      split at h
      · rename_i he
        simp only [aconvA, hs, hd, he]; exact h
      · simp at h
    · simp at h
  · simp at h

theorem tSlice_ok {t : TypeId} {x r : AV} {lo hi mx : Option AV} {H : AH} (h : tSlice X t x lo hi mx H = some r) : aslice X t x lo hi mx H = some r := by
  unfold tSlice at h
  split at h
  · rename_i ht
    split at h
    · unfold slStr at h
      split at h
      · rename_i l1 l2 h1 h2
        split at h
        · have h3 : natOpt none = some none := rfl
          simp only [aslice, h1, h2, h3, ht]; exact h
        · simp at h
      · simp at h
    · simp at h
  · rename_i e ht
    split at h
    · rename_i sz hsz
      unfold slSl at h
      split at h
      · rename_i l1 l2 l3 h1 h2 h3
        split at h <;> first | (simp only [aslice, h1, h2, h3, ht, hsz]; exact h) | (simp at h; done)
      · simp at h
    · simp at h
  · rename_i n e ht
    split at h
    · rename_i sz hsz
      unfold slArr at h
      split at h
      · rename_i l1 l2 l3 h1 h2 h3
        split at h <;> first | (simp only [aslice, h1, h2, h3, ht, hsz]; exact h) | (simp at h; done)
      · simp at h
    · simp at h
  · rename_i arr ht
    split at h
    · rename_i n e ha
      split at h
      · rename_i sz hsz
        unfold slArr at h
        split at h
        · rename_i l1 l2 l3 h1 h2 h3
          split at h <;> first | (simp only [aslice, h1, h2, h3, ht, ha, hsz]; exact h) | (simp at h; done)
        · simp at h
      · simp at h
    · simp at h
  · simp at h

theorem tIxAddr_ok {t : TypeId} {x i r : AV} (h : tIxAddr X t x i = some r) : aindexAddr X t x i = some r := by
  unfold tIxAddr at h
  split at h
  · rename_i n e ht
    split at h
    · rename_i sz hsz
      unfold ixArr at h
      split at h
      · rename_i k hk
        split at h
        · simp only [aindexAddr, hk, ht, hsz]; exact h
        · simp at h
      · simp at h
    · simp at h
  · rename_i e ht
    split at h
    · rename_i sz hsz
      unfold ixSl at h
      split at h
      · rename_i k hk
        split at h
        · simp only [aindexAddr, hk, ht, hsz]; exact h
        · simp at h
      · simp at h
    · simp at h
  · simp at h
theorem tIndex_ok {t : TypeId} {x i r : AV} (h : tIndex X t x i = some r) : aindex X t x i = some r := by
  unfold tIndex at h
  split at h
  · rename_i ht
    unfold ixStr at h
    split at h
    · rename_i k hk
      split at h
      · simp only [aindex, hk, ht]; exact h
      · simp at h
    · simp at h
  · rename_i n e ht
    split at h
    · rename_i d sz hd hsz
      rw [cond_eq_ite] at h
      split at h
      · rename_i ha
        unfold ixAgN at h
        split at h
        · rename_i k hk
          split at h
          · simp only [aindex, hk, ht, hd, hsz, ha, cond_true]; exact h
          · simp at h
        · simp at h
      · rename_i ha
        unfold ixAg1 at h
        split at h
        · rename_i k hk
          split at h
          · simp only [aindex, hk, ht, hd, hsz, Bool.eq_false_iff.2 ha, cond_false]; exact h
          · simp at h
        · simp at h
    · simp at h
  · simp at h
theorem tField_ok {t : TypeId} {x r : AV} {f : Nat} (h : tField X t x f = some r) : afield X t x f = some r := by
  unfold tField at h
  split at h
  · rename_i fs ht
    split at h
    · rename_i fl hf
      split at h
      · rename_i d n hd hn
        rw [cond_eq_ite] at h
        split at h
        · rename_i ha
          unfold fdN at h
          split at h
          · simp only [afield, ht, hf, hd, hn, ha, cond_true]; exact h
          · simp at h
        · rename_i ha
          unfold fd1 at h
          split at h
          · simp only [afield, ht, hf, hd, hn, Bool.eq_false_iff.2 ha, cond_false]; exact h
          · simp at h
      · simp at h
    · simp at h
  · simp at h
theorem tFieldAddr_ok {t : TypeId} {x r : AV} {f : Nat} (h : tFieldAddr X t x f = some r) : afieldAddr X t x f = some r := by
  unfold tFieldAddr at h
  split at h
  · rename_i fs ht
    split at h
    · rename_i fl hf
      split at h
      · simp at h
      · rename_i n hne hn
        unfold fAd at h
        split at h
        · simp only [afieldAddr, ht, hf, hn]; exact h
        · simp at h
      · simp at h
    · simp at h
  · simp at h
theorem tLen_ok {t : TypeId} {x r : AV} {H : AH} (h : tLen X t x H = some r) : alen X t x H = some r := by
  unfold tLen at h
  split at h
  · rename_i ht
    unfold lnStr at h
    split at h
    · simp only [alen, ht]; exact h
    · simp at h
  · rename_i e ht
    unfold lnSl at h
    split at h <;> first | (simp only [alen, ht]; exact h) | (simp at h; done)
  · rename_i n e ht
    simp only [alen, ht]; exact h
  · rename_i a b ht
    unfold lnMap at h
    split at h
    · simp only [alen, ht]; exact h
    · split at h
      · rename_i hA
        rw [fN_eq] at h
        simp only [alen, ht, hA]; exact h
      · simp at h
    · simp at h
  · simp at h
theorem tCopy_ok {t : TypeId} {d s v : AV} {H H' : AH} (h : tCopy X t d s H = some (v, H')) : acopy X t d s H = some (v, H') := by
  unfold tCopy at h
  split at h
  · rename_i e ht
    split at h
    · rename_i sz hsz
      simp only [acopy, ht, hsz]; exact h
    · simp at h
  · simp at h
theorem tBuild_ok {env : Env} {t : TypeId} {ps : Array (Nat × Operand)} {r : AV} (h : tBuild X t (partsA env ps.toList) = some r) : pBuild X env t ps = some r := by
  unfold tBuild at h
  split at h
  · rename_i z hz
    split at h
    · rename_i parts hp
      split at h
      · rename_i fs ht
        split at h
        · rename_i pl hpl
          simp only [pBuild, hz, hp, ht, hpl]; exact h
        · simp at h
      · rename_i n e ht
        split at h
        · rename_i sz hsz
          simp only [pBuild, hz, hp, ht, hsz]; exact h
        · simp at h
      · simp at h
    · simp at h
  · simp at h
theorem tArr_ok {arr : TypeId} {x r : AV} (h : tArr X arr x = some r) : pArr X arr x = some r := by
  unfold tArr at h
  split at h
  · rename_i n e ht
    unfold s2a at h
    split at h
    · simp only [pArr, ht]; exact h
    · simp at h
  · simp at h
theorem tBuildL_ok {env : Env} {t : TypeId} {len : Nat} {ps : Array (Nat × Operand)} {r : AObj × (Nat → AV)} (h : tBuildL X t len (partsA env ps.toList) = some r) : aABuild X env t len ps = some r := by
  unfold tBuildL at h
  split at h
  · rename_i e ht
    split at h
    · rename_i parts hp
      split at h
      · rename_i sz hsz
        split at h
        · rename_i z hz
          simp only [aABuild, ht, hp, hsz, hz]; exact h
        · simp at h
      · simp at h
    · simp at h
  · simp at h
theorem tMake_ok {t : TypeId} {l c : AV} {r : AObj × (Nat → AV)} (h : tMake X t l c = some r) : aAMake X t (some l) (some c) = some r := by
  unfold tMake at h
  split at h
  · rename_i e ht
    split at h
    · rename_i ti hti
      split at h
      · rename_i z hz
        rw [cond_eq_ite] at h
        split at h
        · rename_i hc1
          unfold mkSl at h
          split at h
          · split at h
            · rw [cond_eq_ite] at h
              split at h
              · rename_i hc2
                simp only [aAMake, ht, hti, hz]
                simp only [Bool.and_eq_true] at hc1 hc2
                simp only [hc1.1, hc1.2, hc2.1.1, hc2.1.2, hc2.2, Bool.and_self, cond_true]; exact h
              · simp at h
            · simp at h
          · simp at h
        · simp at h
      · simp at h
    · simp at h
  · simp at h
theorem tApp_ok {t u : TypeId} {s x v : AV} {H H' : AH} (h : tApp X t u s x H = some (v, H')) : eAppend X t u (some s) (some x) H = some (v, H') := by
  unfold tApp at h
  split at h
  · rename_i e ht
    split at h
    · rename_i ti hti
      split at h
      · rename_i hu
        rw [cond_eq_ite] at h
        split at h
        · rename_i hz
          simp only [eAppend, hu, aappend, ht, hti, hz, cond_true]; exact h
        · simp at h
      · rename_i hu
        rw [cond_eq_ite] at h
        split at h
        · rename_i hz
          simp only [eAppend, hu, aappend, ht, hti, hz, cond_true]; exact h
        · simp at h
      · rename_i k hu
        split at h
        · rename_i z hzA
          rw [cond_eq_ite] at h
          split at h
          · rename_i hz
            simp only [Bool.and_eq_true] at hz
            unfold apZ at h
            split at h
            · rename_i n
              rw [cond_eq_ite] at h
              split at h
              · rename_i hc
                simp only [Bool.and_eq_true] at hc
                simp only [eAppend, hu, aappZ, ht, hti, hzA, hz.1, hz.2, hc.1, hc.2, cond_true, Bool.and_self]; exact h
              · simp at h
            · simp at h
          · simp at h
        · simp at h
      · simp at h
    · simp at h
  · simp at h
theorem q3_some {α : Type} {x y z : Option AV} {f : AV → AV → AV → Option α} {r : α} (h : q3 x y z f = some r) : ∃ a b c, x = some a ∧ y = some b ∧ z = some c ∧ f a b c = some r := by
  unfold q3 at h; split at h
  · split at h
    · split at h
      · exact ⟨_, _, _, rfl, rfl, rfl, h⟩
      · simp at h
    · simp at h
  · simp at h
theorem tLk_ok {t : TypeId} {ok : Bool} {x k r : AV} {H : AH} (h : tLk X t ok x k H = some r) : alook X t ok x k H = some r := by
  unfold tLk at h
  split at h
  · rename_i ht
    split at h
    · rename_i hk hz; simp only [alook, ht, hk, hz]; exact h
    · simp at h
  · simp at h
theorem tUp_ok {t : TypeId} {x k v r : AV} {H H' : AH} (h : tUp X t x k v H = some (r, H')) : aup X t x k v H = some (r, H') := h
theorem tDl_ok {t : TypeId} {x k r : AV} {H H' : AH} (h : tDl X t x k H = some (r, H')) : adl X t x k H = some (r, H') := h
theorem tMkM_ok {t : TypeId} {r : AObj × (Nat → AV)} (h : tMkM X t = some r) : aMap X t = some r := h
end
end Go.Eng
end
section
namespace Go.Eng

/-- What functions are called by, as the first evaluator has it. -/
def rOf (B : Tb) (D : Dyn) : Fns := ⟨fun g az H => callG B.S D g az H, D.yld⟩

theorem b1_of {x : Option AV} {f : AV → Option AV} {a r : AV} (h : x = some a) (k : f a = some r) : b1 x f = some r := by simp only [b1, h, k]
theorem b2_of {x y : Option AV} {f : AV → AV → Option AV} {a b r : AV} (h : x = some a) (h' : y = some b) (k : f a b = some r) : b2 x y f = some r := by simp only [b2, h, h', k]

section
variable {B : Tb} {D : Dyn} {env : Env} {H : AH}

theorem opP_of {o : Op} {v : AV} (hc : cls B.X o = .P) (h : aP B.X env o = some v) : opF B.X (rOf B D) env H o = some (v, H) := by
  simp only [opF, hc, h, wV]
theorem opL_of {o : Op} {v : AV} (hc : cls B.X o = .L) (h : aL B.X env H o = some v) : opF B.X (rOf B D) env H o = some (v, H) := by
  simp only [opF, hc, h, wV]
theorem opA_of {o : Op} {v : AV} {H' : AH} (hc : cls B.X o = .A) (h : wA H (aA B.X env o) = some (v, H')) : opF B.X (rOf B D) env H o = some (v, H') := by
  simp only [opF, hc, h]
theorem opE_of {o : Op} {v : AV} {H' : AH} (hc : cls B.X o = .E) (h : aE B.X env H o = some (v, H')) : opF B.X (rOf B D) env H o = some (v, H') := by
  simp only [opF, hc, h]

theorem wA_arg {x y : Option (AObj × (Nat → AV))} {v : AV} {H' : AH} (h : wA H x = some (v, H')) (k : ∀ r, x = some r → y = some r) : wA H y = some (v, H') := by
  cases x with
  | none => simp [wA] at h
  | some r => rw [k r rfl]; exact h

theorem opK_ok {K : AV → AH → Rs} {o : Op} {out : Ex × AH} (h : opK B D env H K o = some out) : ∃ v H', opF B.X (rOf B D) env H o = some (v, H') ∧ K v H' = some out := by
  unfold opK at h
  split at h
  · -- move
    rename_i x
    split at h
    · rename_i v hv; exact ⟨v, H, opP_of rfl hv, h⟩
    · simp at h
  · rename_i x
    split at h
    · rename_i v hv; exact ⟨v, H, opP_of rfl hv, h⟩
    · simp at h
  · -- pick
    rename_i c a b
    obtain ⟨v, hv, hk⟩ := bV_some h
    refine ⟨v, H, opP_of rfl ?_, hk⟩
    show pPick env c a b = some v
    unfold pk3 at hv
    unfold pPick
    exact hv
  · -- build
    obtain ⟨v, hv, hk⟩ := bV_some h
    exact ⟨v, H, opP_of rfl (tBuild_ok hv), hk⟩
  · obtain ⟨v, hv, hk⟩ := bV_some h
    obtain ⟨a, ha, hf⟩ := q1_some hv
    exact ⟨v, H, opP_of rfl (b1_of ha hf), hk⟩
  · -- binOp
    rw [cond_eq_ite] at h
    split at h
    · rename_i hp
      obtain ⟨v, hv, hk⟩ := bV_some h
      obtain ⟨a, b, ha, hb, hf⟩ := q2_some hv
      exact ⟨v, H, opL_of (by simp [cls, hp]) (b2_of ha hb (tBinL_ok hf)), hk⟩
    · rename_i hp
      obtain ⟨v, hv, hk⟩ := bV_some h
      obtain ⟨a, b, ha, hb, hf⟩ := q2_some hv
      exact ⟨v, H, opP_of (by simp [cls, hp]) (b2_of ha hb (tBin_ok hf)), hk⟩
  · obtain ⟨v, hv, hk⟩ := bV_some h
    obtain ⟨a, ha, hf⟩ := q1_some hv
    exact ⟨v, H, opP_of rfl (b1_of ha hf), hk⟩
  · -- makeFunc
    split at h
    · rename_i a ha
      split at h
      · rename_i b hb
        refine ⟨_, H, opP_of rfl ?_, h⟩
        show pFunc env _ _ _ = _
        simp only [pFunc, ha, hb]
      · simp at h
    · simp at h
  · obtain ⟨v, hv, hk⟩ := bV_some h
    obtain ⟨a, ha, hf⟩ := q1_some hv
    exact ⟨v, H, opP_of rfl (b1_of ha (tFieldAddr_ok hf)), hk⟩
  · obtain ⟨v, hv, hk⟩ := bV_some h
    obtain ⟨a, ha, hf⟩ := q1_some hv
    exact ⟨v, H, opP_of rfl (b1_of ha (tField_ok hf)), hk⟩
  · obtain ⟨v, hv, hk⟩ := bV_some h
    obtain ⟨a, b, ha, hb, hf⟩ := q2_some hv
    exact ⟨v, H, opP_of rfl (b2_of ha hb (tIxAddr_ok hf)), hk⟩
  · obtain ⟨v, hv, hk⟩ := bV_some h
    obtain ⟨a, b, ha, hb, hf⟩ := q2_some hv
    exact ⟨v, H, opP_of rfl (b2_of ha hb (tIndex_ok hf)), hk⟩
  · obtain ⟨v, hv, hk⟩ := bV_some h
    obtain ⟨a, ha, hf⟩ := q1_some hv
    exact ⟨v, H, opP_of rfl (b1_of ha (tArr_ok hf)), hk⟩
  · obtain ⟨v, hv, hk⟩ := bV_some h
    obtain ⟨a, ha, hf⟩ := q1_some hv
    exact ⟨v, H, opP_of rfl (b1_of ha hf), hk⟩
  · -- load
    obtain ⟨v, hv, hk⟩ := bV_some h
    obtain ⟨a, ha, hf⟩ := q1_some hv
    exact ⟨v, H, opL_of rfl (b1_of ha (tLoad_ok hf)), hk⟩
  · -- slice
    split at h
    · rename_i lo hi mx hlo hhi hmx
      obtain ⟨v, hv, hk⟩ := bV_some h
      obtain ⟨a, ha, hf⟩ := q1_some hv
      refine ⟨v, H, opL_of rfl ?_, hk⟩
      show lSlice _ _ _ _ _ _ _ _ = _
      simp only [lSlice, ha, hlo, hhi, hmx]; exact tSlice_ok hf
    · simp at h
  · -- convert
    split at h
    · rename_i hc
      obtain ⟨v, hv, hk⟩ := bV_some h
      obtain ⟨a, ha, hf⟩ := q1_some hv
      exact ⟨v, H, opP_of hc (b1_of ha (tConvP_ok hf)), hk⟩
    · rename_i hc
      obtain ⟨v, hv, hk⟩ := bV_some h
      obtain ⟨a, ha, hf⟩ := q1_some hv
      exact ⟨v, H, opL_of hc (b1_of ha (tConvL_ok hf)), hk⟩
    · rename_i hc
      obtain ⟨v, H', hv, hk⟩ := bA_some h
      refine ⟨v, H', opA_of hc (wA_arg hv fun r hr => ?_), hk⟩
      obtain ⟨a, ha, hf⟩ := q1_some hr
      simp only [aA, ha]; exact tConvA_ok hf
    · simp at h
  · -- alloc
    split at h
    · rename_i z hz
      obtain ⟨v, H', hv, hk⟩ := bA_some h
      refine ⟨v, H', opA_of rfl (wA_arg hv fun r hr => ?_), hk⟩
      simp only [aA, hz, aA1]; exact hr
    · simp at h
  · obtain ⟨v, H', hv, hk⟩ := bA_some h
    refine ⟨v, H', opA_of rfl (wA_arg hv fun r hr => ?_), hk⟩
    obtain ⟨a, ha, hf⟩ := q1_some hr
    simp only [aA, ha, aA1]; exact hf
  · obtain ⟨v, H', hv, hk⟩ := bA_some h
    exact ⟨v, H', opA_of rfl (wA_arg hv fun r hr => tBuildL_ok hr), hk⟩
  · obtain ⟨v, H', hv, hk⟩ := bA_some h
    refine ⟨v, H', opA_of rfl (wA_arg hv fun r hr => ?_), hk⟩
    obtain ⟨a, b, ha, hb, hf⟩ := q2_some hr
    simp only [aA, ha, hb]; exact tMake_ok hf
  · -- lookup
    obtain ⟨v, hv, hk⟩ := bV_some h
    obtain ⟨a, b, ha, hb, hf⟩ := q2_some hv
    exact ⟨v, H, opL_of rfl (b2_of ha hb (tLk_ok hf)), hk⟩
  · obtain ⟨v, H', hv, hk⟩ := bA_some h
    exact ⟨v, H', opA_of rfl (wA_arg hv fun r hr => tMkM_ok hr), hk⟩
  · obtain ⟨v, H', hv, hk⟩ := bR_some h
    obtain ⟨a, b, c, ha, hb, hc, hf⟩ := q3_some hv
    refine ⟨v, H', opE_of rfl ?_, hk⟩
    simp only [aE, ha, hb, hc, c3]; exact tUp_ok hf
  · -- store
    obtain ⟨v, H', hv, hk⟩ := bR_some h
    obtain ⟨a, b, ha, hb, hf⟩ := q2_some hv
    refine ⟨v, H', opE_of rfl ?_, hk⟩
    simp only [aE, ha, hb]; exact tStore_ok hf
  · -- call
    rename_i c
    obtain ⟨callee, args, types⟩ := c
    split at h
    · rename_i f hc
      simp only at hc; subst hc
      obtain ⟨v, H', hv, hk⟩ := bR_some h
      refine ⟨v, H', ?_, hk⟩
      unfold callO at hv
      split at hv
      · rename_i az has
        split at hv
        · rename_i fv hfv
          unfold callV at hv
          split at hv
          · simp only at has
            simp only [opF, cls, clsCall, opF.callO, hfv, has, opF.callV, rOf]; exact hv
          · simp only at has
            simp only [opF, cls, clsCall, opF.callO, hfv, has, opF.callV, rOf]; exact hv
          · simp at hv
        · simp at hv
      · simp at hv
    · rename_i hc
      simp only at hc; subst hc
      split at h
      · rename_i x t ts hargs htypes
        obtain ⟨v, hv, hk⟩ := bV_some h
        obtain ⟨a, ha, hf⟩ := q1_some hv
        refine ⟨v, H, opL_of rfl ?_, hk⟩
        simp only at hargs htypes
        simp only [aL, hargs, htypes]; exact b1_of ha (tLen_ok hf)
      · simp at h
    · rename_i hc
      simp only at hc; subst hc
      split at h
      · rename_i x t ts hargs htypes
        obtain ⟨v, hv, hk⟩ := bV_some h
        obtain ⟨a, ha, hf⟩ := q1_some hv
        refine ⟨v, H, opP_of rfl ?_, hk⟩
        simp only at hargs htypes
        simp only [aP, hargs, htypes]; exact b1_of ha hf
      · simp at h
    · rename_i hc
      simp only at hc; subst hc
      split at h
      · rename_i s x t u hargs htypes
        obtain ⟨v, H', hv, hk⟩ := bR_some h
        obtain ⟨a, b, ha, hb, hf⟩ := q2_some hv
        refine ⟨v, H', opE_of rfl ?_, hk⟩
        simp only at hargs htypes
        simp only [aE, eBuiltin, hargs, htypes, ha, hb]; exact tApp_ok hf
      · simp at h
    · rename_i hc
      simp only at hc; subst hc
      split at h
      · rename_i s x t ts hargs htypes
        obtain ⟨v, H', hv, hk⟩ := bR_some h
        obtain ⟨a, b, ha, hb, hf⟩ := q2_some hv
        refine ⟨v, H', opE_of rfl ?_, hk⟩
        simp only at hargs htypes
        simp only [aE, eBuiltin, hargs, htypes, ha, hb, eCopy]; exact tCopy_ok hf
      · simp at h
    · rename_i hc
      simp only at hc; subst hc
      split at h
      · rename_i x y hargs
        obtain ⟨v, hv, hk⟩ := bV_some h
        obtain ⟨a, b, ha, hb, hf⟩ := q2_some hv
        refine ⟨v, H, opP_of rfl ?_, hk⟩
        simp only at hargs
        simp only [aP, hargs]; exact b2_of ha hb hf
      · simp at h
    · rename_i hc
      simp only at hc; subst hc
      split at h
      · rename_i x y hargs
        obtain ⟨v, hv, hk⟩ := bV_some h
        obtain ⟨a, b, ha, hb, hf⟩ := q2_some hv
        refine ⟨v, H, opP_of rfl ?_, hk⟩
        simp only at hargs
        simp only [aP, hargs]; exact b2_of ha hb hf
      · simp at h
    · rename_i hc
      simp only at hc; subst hc
      split at h
      · rename_i s x t ts hargs htypes
        obtain ⟨v, H', hv, hk⟩ := bR_some h
        obtain ⟨a, b, ha, hb, hf⟩ := q2_some hv
        refine ⟨v, H', opE_of rfl ?_, hk⟩
        simp only at hargs htypes
        simp only [aE, eBuiltin, hargs, htypes, ha, hb, c2]; exact tDl_ok hf
      · simp at h
    · rename_i hc
      simp only at hc; subst hc
      split at h
      · rename_i s t ts hargs htypes
        obtain ⟨v, H', hv, hk⟩ := bR_some h
        obtain ⟨a, ha, hf⟩ := q1_some hv
        refine ⟨v, H', opE_of rfl ?_, hk⟩
        simp only at hargs htypes
        simp only [aE, eBuiltin, hargs, htypes, ha, c1]; exact hf
      · simp at h
    · simp at h
  · simp at h
end
end Go.Eng
end
section
namespace Go.Eng

def Le (env env2 : Env) : Prop := ∀ t x, look env t = some x → look env2 t = some x
theorem Le.refl (env : Env) : Le env env := fun _ _ h => h
theorem Le.trans {a b c : Env} (h : Le a b) (k : Le b c) : Le a c := fun t x e => k t x (h t x e)
theorem Le.upd {a b : Env} (h : Le a b) (d : Nat) (v : AV) : Le (upd a d v) (upd b d v) := by
  intro t x e
  simp only [look, upd_at] at e ⊢
  split
  · rename_i hd; rw [if_pos hd] at e; exact e
  · rename_i hd; rw [if_neg hd] at e; exact h t x e
theorem EnvR.le {R : Ren} {env env2 : Env} {n : Nat} {tmps : Array Value} (h : EnvR R env2 n tmps) (k : Le env env2) : EnvR R env n tmps :=
  ⟨h.size, fun t x e => h.get t x (k t x e), fun t ht => by
    cases e : look env t with
    | none => rfl
    | some x => have := k t x e; rw [h.out t ht] at this; simp at this⟩

section
variable {env env2 : Env} (hl : Le env env2)
include hl
theorem opd_mono (x : Operand) (a : AV) (h : opd env x = some a) : opd env2 x = some a := by
  cases x with
  | tmp t => exact hl t a h
  | _ => exact h
theorem opds_mono : ∀ (xs : List Operand) (az : List AV), opds env xs = some az → opds env2 xs = some az
  | [], az, h => h
  | x :: xs, az, h => by
    simp only [opds] at h ⊢
    split at h
    · rename_i v vs hv hvs; rw [opd_mono hl x v hv, opds_mono xs vs hvs]; exact h
    · simp at h
theorem parts_mono : ∀ (xs : List (Nat × Operand)) (az : List (Nat × AV)), partsA env xs = some az → partsA env2 xs = some az
  | [], az, h => h
  | (i, x) :: xs, az, h => by
    simp only [partsA] at h ⊢
    split at h
    · rename_i v vs hv hvs; rw [opd_mono hl x v hv, parts_mono xs vs hvs]; exact h
    · simp at h
theorem optOf_mono (x : Option Operand) (a : Option AV) (h : optOf env x = some a) : optOf env2 x = some a := by
  cases x with
  | none => exact h
  | some y =>
    simp only [optOf] at h ⊢
    split at h
    · rename_i b hb; rw [opd_mono hl y b hb]; exact h
    · simp at h
theorem b1_mono {x : Operand} {f : AV → Option AV} {r : AV} (h : b1 (opd env x) f = some r) : b1 (opd env2 x) f = some r := by
  unfold b1 at h; split at h
  · rename_i a ha; rw [opd_mono hl x a ha]; exact h
  · simp at h
theorem b2_mono {x y : Operand} {f : AV → AV → Option AV} {r : AV} (h : b2 (opd env x) (opd env y) f = some r) : b2 (opd env2 x) (opd env2 y) f = some r := by
  unfold b2 at h; split at h
  · rename_i a ha
    split at h
    · rename_i b hb; rw [opd_mono hl x a ha, opd_mono hl y b hb]; exact h
    · simp at h
  · simp at h
theorem aP_mono {X : Cx} {o : Op} {v : AV} (h : aP X env o = some v) : aP X env2 o = some v := by
  unfold aP at h ⊢
  split at h
  · exact opd_mono hl _ _ h
  · exact opd_mono hl _ _ h
  · unfold pPick at h ⊢
    split at h
    · rename_i hc; rw [opd_mono hl _ _ hc]; exact opd_mono hl _ _ h
    · rename_i hc; rw [opd_mono hl _ _ hc]; exact opd_mono hl _ _ h
    · simp at h
  · unfold pBuild at h ⊢
    split at h
    · rename_i z hz
      split at h
      · rename_i ps hps; rw [parts_mono hl _ _ hps]; exact h
      · simp at h
    · simp at h
  · exact b1_mono hl h
  · exact b2_mono hl h
  · exact b1_mono hl h
  · exact b1_mono hl h
  · unfold pFunc at h ⊢
    split at h
    · rename_i a ha
      split at h
      · rename_i b hb; rw [opds_mono hl _ _ ha, opds_mono hl _ _ hb]; exact h
      · simp at h
    · simp at h
  · exact b1_mono hl h
  · exact b1_mono hl h
  · exact b2_mono hl h
  · exact b2_mono hl h
  · exact b1_mono hl h
  · exact b1_mono hl h
  · split at h
    · split at h
      · split at h
        · exact b1_mono hl h
        · simp at h
      · simp at h
    · split at h
      · exact b2_mono hl h
      · simp at h
    · split at h
      · exact b2_mono hl h
      · simp at h
    · simp at h
  · simp at h
theorem aL_mono {X : Cx} {H : AH} {o : Op} {v : AV} (h : aL X env H o = some v) : aL X env2 H o = some v := by
  unfold aL at h ⊢
  split at h
  · exact b1_mono hl h
  · unfold lSlice at h ⊢
    split at h
    · rename_i a ha
      split at h
      · rename_i lo hlo
        split at h
        · rename_i hi hhi
          split at h
          · rename_i mx hmx
            rw [opd_mono hl _ _ ha, optOf_mono hl _ _ hlo, optOf_mono hl _ _ hhi, optOf_mono hl _ _ hmx]; exact h
          · simp at h
        · simp at h
      · simp at h
    · simp at h
  · exact b2_mono hl h
  · exact b1_mono hl h
  · exact b2_mono hl h
  · split at h
    · split at h
      · split at h
        · exact b1_mono hl h
        · simp at h
      · simp at h
    · simp at h
  · simp at h
theorem aA_mono {X : Cx} {o : Op} {v : AObj × (Nat → AV)} (h : aA X env o = some v) : aA X env2 o = some v := by
  unfold aA at h ⊢
  split at h
  · exact h
  · unfold aA1 at h ⊢
    split at h
    · rename_i a ha; rw [opd_mono hl _ _ ha]; exact h
    · simp at h
  · unfold aABuild at h ⊢
    split at h
    · rename_i e he
      split at h
      · rename_i ps hps; simp only [parts_mono hl _ _ hps]; exact h
      · simp at h
    · simp at h
  · unfold aAMake at h ⊢
    split at h
    · rename_i n hn
      split at h
      · rename_i m hm; simp only [opd_mono hl _ _ hn, opd_mono hl _ _ hm]; exact h
      · simp at h
    · simp at h
  · split at h
    · rename_i a ha; rw [opd_mono hl _ _ ha]; exact h
    · simp at h
  · exact h
  · simp at h
theorem aE_mono {X : Cx} {H : AH} {o : Op} {v : AV × AH} (h : aE X env H o = some v) : aE X env2 H o = some v := by
  unfold aE at h ⊢
  split at h
  · unfold eStore at h ⊢
    split at h
    · rename_i p hp
      split at h
      · rename_i y hy; rw [opd_mono hl _ _ hp, opd_mono hl _ _ hy]; exact h
      · simp at h
    · simp at h
  · unfold c3 at h ⊢
    split at h
    · rename_i a ha
      split at h
      · rename_i b hb
        split at h
        · rename_i c hc; rw [opd_mono hl _ _ ha, opd_mono hl _ _ hb, opd_mono hl _ _ hc]; exact h
        · simp at h
      · simp at h
    · simp at h
  · split at h
    · unfold eBuiltin at h ⊢
      split at h
      · split at h
        · split at h
          · unfold eAppend at h ⊢
            split at h
            · rename_i a ha
              split at h
              · rename_i b hb; simp only [opd_mono hl _ _ ha, opd_mono hl _ _ hb]; exact h
              · simp at h
            · simp at h
          · simp at h
        · simp at h
      · split at h
        · split at h
          · unfold eCopy at h ⊢
            split at h
            · rename_i a ha
              split at h
              · rename_i b hb; simp only [opd_mono hl _ _ ha, opd_mono hl _ _ hb]; exact h
              · simp at h
            · simp at h
          · simp at h
        · simp at h
      · split at h
        · split at h
          · unfold c2 at h ⊢
            split at h
            · rename_i a ha
              split at h
              · rename_i b hb; simp only [opd_mono hl _ _ ha, opd_mono hl _ _ hb]; exact h
              · simp at h
            · simp at h
          · simp at h
        · simp at h
      · split at h
        · split at h
          · unfold c1 at h ⊢
            split at h
            · rename_i a ha; simp only [opd_mono hl _ _ ha]; exact h
            · simp at h
          · simp at h
        · simp at h
      · simp at h
    · simp at h
  · simp at h
theorem opF_mono {X : Cx} {r : Fns} {H : AH} {o : Op} {v : AV × AH} (h : opF X r env H o = some v) : opF X r env2 H o = some v := by
  unfold opF at h ⊢
  split at h
  · rename_i hc
    unfold wV at h ⊢
    split at h
    · rename_i x hx; simp only [hc, aP_mono hl hx]; exact h
    · simp at h
  · rename_i hc
    unfold wV at h ⊢
    split at h
    · rename_i x hx; simp only [hc, aL_mono hl hx]; exact h
    · simp at h
  · rename_i hc
    cases hx : aA X env o with
    | none => rw [hx] at h; simp [wA] at h
    | some x => simp only [hc, aA_mono hl hx]; rw [hx] at h; exact h
  · exact aE_mono hl h
  · unfold opF.callO at h ⊢
    split at h
    · split at h
      · unfold opF.callV at h ⊢
        split at h
        · rename_i g a b hf
          split at h
          · rename_i az has; simp only [opd_mono hl _ _ hf, opds_mono hl _ _ has]; exact h
          · simp at h
        · rename_i A hf
          split at h
          · rename_i az has; simp only [opd_mono hl _ _ hf, opds_mono hl _ _ has]; exact h
          · simp at h
        · simp at h
      · simp at h
    · simp at h
theorem want_mono {ops : Array Oper} {o : Oper} {b : Bool} (h : wantA ops env o = some b) : wantA ops env2 o = some b := by
  unfold wantA at h ⊢
  split at h
  · exact h
  · unfold wantG at h ⊢
    split at h
    · split at h
      · split at h
        · rename_i x hx; simp only [hl _ _ hx]; exact h
        · simp at h
      · exact h
    · exact h
end
end Go.Eng
end
section
namespace Go.Eng

theorem hd_some {vs : List AV} {K : AV → List AV → Rs} {out : Ex × AH} (h : hd vs K = some out) : ∃ v l, vs = v :: l ∧ K v l = some out := by
  cases vs with
  | nil => exact absurd h (by simp [hd])
  | cons v l => exact ⟨_, _, rfl, h⟩
/-- Slots, and what they hold. -/
def PK (env : Env) : List Nat → List AV → Prop
  | [], vs => vs = []
  | l :: L, vs => ∃ v vs', vs = v :: vs' ∧ look env l = some v ∧ PK env L vs'
theorem pck_some : ∀ {L : List Nat} {env : Env} {K : List AV → Rs} {out : Ex × AH}, pck L env K = some out → ∃ vs, PK env L vs ∧ K vs = some out
  | [], env, K, out, h => ⟨[], rfl, h⟩
  | l :: L, env, K, out, h => by
    simp only [pck] at h
    split at h
    · rename_i v hv
      obtain ⟨vs, h1, h2⟩ := pck_some h
      exact ⟨v :: vs, ⟨v, vs, rfl, hv, h1⟩, h2⟩
    · simp at h
theorem unp_some : ∀ {L : List Nat} {vs : List AV} {base : Env} {K : Env → Rs} {out : Ex × AH}, unp L vs base K = some out → ∀ env, PK env L vs → ∃ env', K env' = some out ∧ ∀ t, (t ∈ L → look env' t = look env t) ∧ (t ∉ L → look env' t = look base t)
  | [], vs, base, K, out, h, env, _ => ⟨base, h, fun t => ⟨fun h => by simp at h, fun _ => rfl⟩⟩
  | l :: L, vs, base, K, out, h, env, ⟨v, vs', e, hv, hp⟩ => by
    subst e
    simp only [unp, hd] at h
    obtain ⟨env', h1, h2⟩ := unp_some h env hp
    refine ⟨env', h1, fun t => ⟨fun ht => ?_, fun ht => ?_⟩⟩
    · by_cases htL : t ∈ L
      · exact (h2 t).1 htL
      · rw [(h2 t).2 htL]
        have : t = l := by simp at ht; rcases ht with h | h
                           · exact h
                           · exact absurd h htL
        subst this
        simp only [look, upd_at, if_true]; exact hv.symm
    · simp only [List.mem_cons, not_or] at ht
      rw [(h2 t).2 ht.2]
      simp only [look, upd_at, if_neg ht.1]
theorem dropE_look : ∀ (L : List Nat) (env : Env) (t : Nat), look (dropE L env) t = if t ∈ L then none else look env t
  | [], env, t => by simp [dropE]
  | l :: L, env, t => by
    have ih := dropE_look L env t
    simp only [look] at ih ⊢
    simp only [dropE, cond_eq_ite, Nat.beq_eq, List.mem_cons, ih]
    by_cases h1 : t = l <;> by_cases h2 : t ∈ L <;> simp [h1, h2]

theorem chks_some {mask : Nat} {H : AH} {K : Rs} {out : Ex × AH} : ∀ {sn : List Seen}, chks mask H K sn = some out → K = some out ∧ ∀ s ∈ sn, mask.testBit s.i = false → s.rd H = some s.v
  | [], h => ⟨h, by simp⟩
  | s :: l, h => by
    simp only [chks, cond_eq_ite] at h
    split at h
    · rename_i hb
      obtain ⟨h1, h2⟩ := chks_some h
      refine ⟨h1, fun q hq hm => ?_⟩
      rcases List.mem_cons.1 hq with rfl | hq
      · rw [hb] at hm; simp at hm
      · exact h2 q hq hm
    · unfold chk at h
      split at h
      · rename_i y hy
        rw [cond_eq_ite] at h
        split at h
        · rename_i hv
          obtain ⟨h1, h2⟩ := chks_some h
          refine ⟨h1, fun q hq hm => ?_⟩
          rcases List.mem_cons.1 hq with rfl | hq
          · rw [hy, aveq_eq _ _ hv]
          · exact h2 q hq hm
        · simp at h
      · simp at h

section
variable {B : Tb} {D : Dyn} {nt : Nat} {ops : Array Oper}

/-- A reading, taken again. -/
theorem rdOf_ok {env envC : Env} (hl : Le env envC) {o : Op} {H : AH} {v : AV} (hm : mayTurn B.X o = true) (h : rdOf B env o H = some v) : aL B.X envC H o = some v := by
  apply aL_mono hl
  unfold rdOf at h
  split at h
  · obtain ⟨a, ha, hf⟩ := q1_some h
    exact b1_of ha (tLoad_ok hf)
  · obtain ⟨a, b, ha, hb, hf⟩ := q2_some h
    exact b2_of ha hb (tLk_ok hf)
  · split at h
    · rename_i lo hi mx hlo hhi hmx
      obtain ⟨a, ha, hf⟩ := q1_some h
      show lSlice _ _ _ _ _ _ _ _ = _
      simp only [lSlice, ha, hlo, hhi, hmx]; exact tSlice_ok hf
    · simp at h
  · obtain ⟨a, ha, hf⟩ := q1_some h
    exact b1_of ha (tConvL_ok hf)
  · obtain ⟨a, b, ha, hb, hf⟩ := q2_some h
    exact b2_of ha hb (tBinL_ok hf)
  · rename_i c
    split at h
    · rename_i x t ts hargs htypes
      obtain ⟨a, ha, hf⟩ := q1_some h
      simp only [mayTurn] at hm
      split at hm
      · rename_i hc
        simp only [aL, hc, hargs, htypes]; exact b1_of ha (tLen_ok hf)
      · simp at hm
    · simp at h
  · simp at h

theorem alen_still {X : Cx} {t : TypeId} {x r : AV} {H : AH} (h : alen X t x H = some r) (hn : ∀ a b, X.und t ≠ some (.map a b)) (H2 : AH) : alen X t x H2 = some r := by
  unfold alen at h ⊢
  split at h <;> first | exact h | (rename_i hu; exact absurd hu (hn _ _)) | (simp at h; done)
/-- A reading that does not hang on memory. -/
theorem still_ok {env : Env} {o : Op} {H : AH} {v : AV} (hc : cls B.X o = .L) (hm : mayTurn B.X o = false) (h : aL B.X env H o = some v) (H2 : AH) : aL B.X env H2 o = some v := by
  unfold aL at h ⊢
  split at h
  · simp [mayTurn] at hm
  · rename_i t x lo hi mx
    simp only [mayTurn] at hm
    unfold lSlice at h ⊢
    split at h
    · split at h
      · split at h
        · split at h
          · unfold aslice at h ⊢
            split at h
            · rename_i a _ _ _ _ _ _ _ _ _ _ _
              split at h
              · exact h
              · rename_i hu _; simp [hu] at hm
              · rename_i hu _; simp [hu] at hm
              · rename_i hu _; simp [hu] at hm
              · exact h
              · exact h
              · simp at h
            · simp at h
          · simp at h
        · simp at h
      · simp at h
    · simp at h
  · simp [mayTurn] at hm
  · simp only [mayTurn, isL] at hm
    rw [hc] at hm; simp at hm
  · simp only [mayTurn] at hm
    simp [cls, hm] at hc
  · rename_i c
    split at h
    · rename_i hcal
      split at h
      · rename_i x hx
        split at h
        · rename_i t ts ht
          unfold b1 at h ⊢
          split at h
          · refine alen_still h (fun a b hu => ?_) H2
            simp only [mayTurn, hcal, ht, hu] at hm
            simp at hm
          · simp at h
        · simp at h
      · simp at h
    · simp at h
  · simp at h

/-- The slot that an operation's guard asks. -/
def gslot (ops : Array Oper) (o : Oper) : Option Nat := match o.guard with
  | none => none
  | some (j, _) => match nthO ops.toList j with
    | some p => p.dst
    | none => none
theorem want_look {env env' : Env} {o : Oper} (h : ∀ d, gslot ops o = some d → look env d = look env' d) : wantA ops env o = wantA ops env' o := by
  unfold wantA
  unfold gslot at h
  split
  · rfl
  · rename_i j want hg
    rw [hg] at h
    simp only at h
    unfold wantG
    split
    · rename_i p hp
      rw [hp] at h
      simp only at h
      split
      · rename_i d hd; rw [h d hd]
      · rfl
    · rfl

def SeeP (X : Cx) (ms : List Nat) (a b : Ent) : Prop := a.want = true → isEff (cls X b.o.op) = true → (ms.getD b.i 0).testBit a.i = false → cls X a.o.op = .L → aL X a.env b.H' a.o.op = some a.v
/-- What was read is looked after, or need not be. -/
def Tr (X : Cx) (ms : List Nat) (sn : List Seen) (pre : List Ent) (rest : List (Nat × Oper)) : Prop :=
  ∀ a ∈ pre, a.want = true → cls X a.o.op = .L → (∃ s ∈ sn, s.i = a.i ∧ s.v = a.v ∧ ∀ H v, s.rd H = some v → aL X a.env H a.o.op = some v) ∨ (∀ H, aL X a.env H a.o.op = some a.v) ∨ (∀ b ∈ rest, isEff (cls X b.2.op) = true → (ms.getD b.1 0).testBit a.i = true)

theorem Tr.see {X : Cx} {ms : List Nat} {sn : List Seen} {pre : List Ent} {rest : List (Nat × Oper)} (h : Tr X ms sn pre rest) {b : Ent} (hb : (b.i, b.o) ∈ rest) (hc : isEff (cls X b.o.op) = true → ∀ s ∈ sn, (ms.getD b.i 0).testBit s.i = false → s.rd b.H' = some s.v) : ∀ a ∈ pre, SeeP X ms a b := by
  intro a ha hw he hbit hL
  rcases h a ha hw hL with ⟨s, hs, h1, h2, h3⟩ | h1 | h1
  · have := hc he s hs (by rw [h1]; exact hbit)
    rw [← h2]; exact h3 _ _ this
  · exact h1 _
  · have := h1 _ hb he
    simp only at this; rw [this] at hbit; simp at hbit
theorem Tr.less {X : Cx} {ms : List Nat} {sn sn' : List Seen} {pre : List Ent} {rest rest' : List (Nat × Oper)} (h : Tr X ms sn pre rest) (hs : ∀ s ∈ sn, s ∈ sn') (hr : ∀ b ∈ rest', b ∈ rest) : Tr X ms sn' pre rest' := by
  intro a ha hw hL
  rcases h a ha hw hL with ⟨s, hs1, h1⟩ | h1 | h1
  · exact .inl ⟨s, hs s hs1, h1⟩
  · exact .inr (.inl h1)
  · exact .inr (.inr fun b hb => h1 b (hr b hb))

theorem setE_some {env : Env} {d : Option Tmp} {v : AV} {K : Env → Rs} {out : Ex × AH} (h : setE nt env d v K = some out) {envC : Env} (hl : Le env envC) :
    ∃ env' envC', setD nt envC d v = some envC' ∧ Le env' envC' ∧ K env' = some out := by
  unfold setE at h
  split at h
  · rename_i d
    rw [cond_eq_ite] at h
    split at h
    · rename_i hd
      exact ⟨_, _, by simp only [setD, hd, cond_true], hl.upd d v, h⟩
    · simp at h
  · exact ⟨_, _, rfl, hl, h⟩

theorem seenK_some {ms : List Nat} {env : Env} {sn : List Seen} {i : Nat} {o : Op} {v : AV} {H' : AH} {K : List Seen → Rs} {out : Ex × AH} (h : seenK B ms env sn i o v H' K = some out) :
    ∃ sn', K sn' = some out ∧ (∀ s ∈ sn, s ∈ sn') ∧ (isEff (cls B.X o) = true → ∀ s ∈ sn, (ms.getD i 0).testBit s.i = false → s.rd H' = some s.v) ∧
      (isEff (cls B.X o) = false → mayTurn B.X o = true → (⟨i, rdOf B env o, v⟩ : Seen) ∈ sn') := by
  unfold seenK at h
  simp only [cond_eq_ite] at h
  split at h
  · rename_i he
    obtain ⟨h1, h2⟩ := chks_some h
    exact ⟨sn, h1, fun _ h => h, fun _ => h2, fun h => by rw [he] at h; simp at h⟩
  · rename_i he
    split at h
    · exact ⟨_, h, fun s hs => by simp [hs], fun h => absurd h he, fun _ _ => by simp⟩
    · rename_i hm; exact ⟨_, h, fun _ h => h, fun h => absurd h he, fun _ h => absurd h hm⟩

theorem setD_keep {env env' : Env} {d : Option Tmp} {v : AV} (h : setD nt env d v = some env') {t : Nat} (ht : d ≠ some t) : look env' t = look env t := by
  rw [setD_look h, if_neg ht]

theorem rowK_chain {masks : Option (List Nat)} {K : List Seen → Env → AH → Rs} {out : Ex × AH} {rest : List (Nat × Oper)} : ∀ (row : List (Nat × Oper)) (sn : List Seen) (env : Env) (H : AH) (envC : Env) (pre : List Ent),
    rowK B D nt masks K row sn env H = some out → Le env envC → (∀ io ∈ row, wantA ops envC io.2 = some true) → (∀ io ∈ row, ∀ io' ∈ row, ∀ d, io.2.dst = some d → gslot ops io'.2 ≠ some d) →
    (∀ ms, masks = some ms → Tr B.X ms sn pre (row ++ rest)) →
    ∃ es envF HF sn' env', Chain B.X (rOf B D) nt ops envC H es envF HF ∧ es.map (fun e => (e.i, e.o)) = row ∧ (∀ e ∈ es, e.want = true) ∧ Le env' envF ∧ K sn' env' HF = some out ∧
      (∀ ms, masks = some ms → (∀ a ∈ pre, ∀ b ∈ es, SeeP B.X ms a b) ∧ es.Pairwise (SeeP B.X ms) ∧ Tr B.X ms sn' (pre ++ es) rest)
  | [], sn, env, H, envC, pre, h, hl, _, _, hT => ⟨[], envC, H, sn, env, ⟨rfl, rfl⟩, rfl, by simp, hl, h, fun ms hms => ⟨by simp, List.Pairwise.nil, by simpa using hT ms hms⟩⟩
  | (i, o) :: row, sn, env, H, envC, pre, h, hl, hw, hst, hT => by
    simp only [rowK] at h
    obtain ⟨v, H', hop, hk⟩ := opK_ok h
    have hopC := opF_mono hl hop
    have hwo := hw (i, o) (List.mem_cons_self ..)
    have hent : entD B.X (rOf B D) ops envC H i o = some ⟨i, o, true, envC, H, v, H'⟩ := by
      simp only at hwo
      simp only [entD, hwo, hopC]
    -- go on behind it
    have go : ∀ (sn' : List Seen) (env' envC' : Env), setD nt envC o.dst v = some envC' → Le env' envC' → rowK B D nt masks K row sn' env' H' = some out →
        (∀ ms, masks = some ms → (∀ s ∈ sn, s ∈ sn') ∧ (isEff (cls B.X o.op) = true → ∀ s ∈ sn, (ms.getD i 0).testBit s.i = false → s.rd H' = some s.v) ∧ (isEff (cls B.X o.op) = false → mayTurn B.X o.op = true → (⟨i, rdOf B env o.op, v⟩ : Seen) ∈ sn')) →
        ∃ es envF HF sn' env', Chain B.X (rOf B D) nt ops envC H es envF HF ∧ es.map (fun e => (e.i, e.o)) = (i, o) :: row ∧ (∀ e ∈ es, e.want = true) ∧ Le env' envF ∧ K sn' env' HF = some out ∧
          (∀ ms, masks = some ms → (∀ a ∈ pre, ∀ b ∈ es, SeeP B.X ms a b) ∧ es.Pairwise (SeeP B.X ms) ∧ Tr B.X ms sn' (pre ++ es) rest) := by
      intro sn' env' envC' hset hle hrow hsn
      obtain ⟨es, envF, HF, sn2, env2, c1, c2, c3, c4, c5, c6⟩ := rowK_chain row sn' env' H' envC' (pre ++ [⟨i, o, true, envC, H, v, H'⟩]) hrow hle
        (fun io hio => by
          rw [← hw io (List.mem_cons_of_mem _ hio)]
          exact want_look fun d hd => setD_keep hset (fun hc => hst (i, o) (List.mem_cons_self ..) io (List.mem_cons_of_mem _ hio) d hc hd))
        (fun io hio io' hio' => hst io (List.mem_cons_of_mem _ hio) io' (List.mem_cons_of_mem _ hio'))
        (fun ms hms => by
          obtain ⟨s1, s2, s3⟩ := hsn ms hms
          have hT' := (hT ms hms).less (sn' := sn') (rest' := row ++ rest) s1 (fun b hb => by simp only [List.cons_append]; exact List.mem_cons_of_mem _ hb)
          intro a ha hwa hLa
          rcases List.mem_append.1 ha with ha | ha
          · exact hT' a ha hwa hLa
          · simp only [List.mem_singleton] at ha
            subst ha
            simp only at hLa ⊢
            have hne : isEff (cls B.X o.op) = false := by rw [hLa]; rfl
            have hLv : aL B.X envC H o.op = some v := by
              have := hopC
              simp only [opF, hLa, wV] at this
              split at this
              · rename_i x hx; simp only [Option.some.injEq, Prod.mk.injEq] at this; rw [hx, this.1]
              · simp at this
            cases hmt : mayTurn B.X o.op with
            | true => exact .inl ⟨_, s3 hne hmt, rfl, rfl, fun H v hv => rdOf_ok hl hmt hv⟩
            | false => exact .inr (.inl fun H2 => still_ok hLa hmt hLv H2))
      refine ⟨⟨i, o, true, envC, H, v, H'⟩ :: es, envF, HF, sn2, env2, ⟨rfl, rfl, hent, envC', hset, c1⟩, by simp [c2], ?_, c4, c5, fun ms hms => ?_⟩
      · intro e he
        rcases List.mem_cons.1 he with rfl | he
        · rfl
        · exact c3 e he
      · obtain ⟨s1, s2, s3⟩ := hsn ms hms
        obtain ⟨d1, d2, d3⟩ := c6 ms hms
        have hsee := (hT ms hms).see (b := ⟨i, o, true, envC, H, v, H'⟩) (by simp) s2
        refine ⟨fun a ha b hb => ?_, List.Pairwise.cons (fun b hb => d1 _ (by simp) b hb) d2, by simpa using d3⟩
        rcases List.mem_cons.1 hb with rfl | hb
        · exact hsee a ha
        · exact d1 a (List.mem_append_left _ ha) b hb
    split at hk
    · obtain ⟨env', envC', h1, h2, h3⟩ := setE_some hk hl
      exact go sn env' envC' h1 h2 h3 (fun ms hms => by simp at hms)
    · rename_i ms
      obtain ⟨sn', k1, k2, k3, k4⟩ := seenK_some hk
      obtain ⟨env', envC', h1, h2, h3⟩ := setE_some k1 hl
      exact go sn' env' envC' h1 h2 h3 (fun ms' hms => by injection hms with hms; subst hms; exact ⟨k2, k3, k4⟩)

theorem chain_keep {X : Cx} {r : Fns} : ∀ {es : List Ent} {env : Env} {H : AH} {envF : Env} {HF : AH}, Chain X r nt ops env H es envF HF → ∀ t, (∀ e ∈ es, e.o.dst ≠ some t) → look envF t = look env t
  | [], _, _, _, _, h, t, _ => by rw [h.1]
  | e :: es, env, H, envF, HF, ⟨h1, h2, h3, env', h4, h5⟩, t, ht => by
    rw [chain_keep h5 t (fun q hq => ht q (List.mem_cons_of_mem _ hq)), setD_keep h4 (ht e (List.mem_cons_self ..))]

theorem chain_append {X : Cx} {r : Fns} : ∀ {es es2 : List Ent} {env : Env} {H : AH} {env1 : Env} {H1 : AH} {envF : Env} {HF : AH}, Chain X r nt ops env H es env1 H1 → Chain X r nt ops env1 H1 es2 envF HF → Chain X r nt ops env H (es ++ es2) envF HF
  | [], _, _, _, _, _, _, _, ⟨h1, h2⟩, k => by subst h1 h2; exact k
  | e :: es, es2, env, H, env1, H1, envF, HF, ⟨h1, h2, h3, env', h4, h5⟩, k => ⟨h1, h2, h3, env', h4, chain_append h5 k⟩

/-- A run that is not wanted. -/
theorem skip_chain {H : AH} : ∀ (run : List (Nat × Oper)) (envC : Env), (∀ io ∈ run, wantA ops envC io.2 = some false) → (∀ io ∈ run, ∀ io' ∈ run, ∀ d, io.2.dst = some d → gslot ops io'.2 ≠ some d) → (∀ io ∈ run, ∀ d, io.2.dst = some d → d < nt) →
    ∃ es envF, Chain B.X (rOf B D) nt ops envC H es envF H ∧ es.map (fun e => (e.i, e.o)) = run ∧ (∀ e ∈ es, e.want = false ∧ e.H' = H) ∧ ∀ t, t ∈ dstsOf run → look envF t = some undefA
  | [], envC, _, _, _ => ⟨[], envC, ⟨rfl, rfl⟩, rfl, by simp, fun t ht => by simp [dstsOf] at ht⟩
  | (i, o) :: run, envC, hw, hst, hlt => by
    have hwo := hw (i, o) (List.mem_cons_self ..)
    have hent : entD B.X (rOf B D) ops envC H i o = some ⟨i, o, false, envC, H, undefA, H⟩ := by
      simp only at hwo
      simp only [entD, hwo]
    have hset : ∃ envC', setD nt envC o.dst undefA = some envC' := by
      cases hd : o.dst with
      | none => exact ⟨_, rfl⟩
      | some d => exact ⟨upd envC d undefA, by simp only [setD, cond_eq_ite, Nat.blt_eq, if_pos (hlt (i, o) (List.mem_cons_self ..) d hd)]⟩
    obtain ⟨envC', hset⟩ := hset
    obtain ⟨es, envF, c1, c2, c3, c4⟩ := skip_chain run envC'
      (fun io hio => by
        rw [← hw io (List.mem_cons_of_mem _ hio)]
        exact want_look fun d hd => setD_keep hset (fun hc => hst (i, o) (List.mem_cons_self ..) io (List.mem_cons_of_mem _ hio) d hc hd))
      (fun io hio io' hio' => hst io (List.mem_cons_of_mem _ hio) io' (List.mem_cons_of_mem _ hio'))
      (fun io hio => hlt io (List.mem_cons_of_mem _ hio))
    refine ⟨⟨i, o, false, envC, H, undefA, H⟩ :: es, envF, ⟨rfl, rfl, hent, envC', hset, c1⟩, by simp [c2], ?_, fun t ht => ?_⟩
    · intro e he
      rcases List.mem_cons.1 he with rfl | he
      · exact ⟨rfl, rfl⟩
      · exact c3 e he
    · by_cases htr : t ∈ dstsOf run
      · exact c4 t htr
      · have hdt : o.dst = some t := by
          simp only [dstsOf, List.filterMap_cons] at ht htr
          split at ht
          · exact absurd ht htr
          · rename_i d hd
            rcases List.mem_cons.1 ht with rfl | ht
            · exact hd
            · exact absurd ht htr
        rw [chain_keep c1 t (fun e he hc => htr ?_), setD_look hset, if_pos hdt]
        have : (e.i, e.o) ∈ run := by rw [← c2]; exact List.mem_map.2 ⟨e, he, rfl⟩
        simp only [dstsOf, List.mem_filterMap]
        exact ⟨_, this, hc⟩
end
end Go.Eng
end
section
namespace Go.Eng

theorem jn_some {x : Rs} {K : List AV → AH → Rs} {out : Ex × AH} (h : jn x K = some out) : (∃ vs H, x = some (.norm vs, H) ∧ K vs H = some out) ∨ (∃ id vs H, x = some (.exit id vs, H) ∧ out = (.exit id vs, H)) ∨ (∃ v H, x = some (.ret v, H) ∧ out = (.ret v, H)) := by
  unfold jn at h; split at h
  · exact .inl ⟨_, _, rfl, h⟩
  · injection h with h; exact .inr (.inl ⟨_, _, _, rfl, h.symm⟩)
  · injection h with h; exact .inr (.inr ⟨_, _, rfl, h.symm⟩)
  · simp at h

theorem sameG_eq {a b : Option (Nat × Bool)} (h : sameG a b = true) : a = b := by
  unfold sameG at h; split at h
  · simp only [Bool.and_eq_true, Nat.beq_eq, beq_iff_eq] at h; rw [h.1, h.2]
  · simp at h
theorem spanG_ok {g : Option (Nat × Bool)} : ∀ {l run rest : List (Nat × Oper)}, spanG g l = (run, rest) → l = run ++ rest ∧ ∀ io ∈ run, io.2.guard = g
  | [], run, rest, h => by simp only [spanG, Prod.mk.injEq] at h; obtain ⟨rfl, rfl⟩ := h; simp
  | o :: l, run, rest, h => by
    simp only [spanG, cond_eq_ite] at h
    split at h
    · rename_i hg
      cases hs : spanG g l with
      | mk a b =>
        rw [hs] at h
        simp only [Prod.mk.injEq] at h
        obtain ⟨rfl, rfl⟩ := h
        obtain ⟨h1, h2⟩ := spanG_ok hs
        refine ⟨by rw [h1]; rfl, fun io hio => ?_⟩
        rcases List.mem_cons.1 hio with rfl | hio
        · exact (sameG_eq hg).symm
        · exact h2 io hio
    · simp only [Prod.mk.injEq] at h; obtain ⟨rfl, rfl⟩ := h; simp

section
variable {B : Tb} {D : Dyn} {nt : Nat} {ops : Array Oper}

theorem skipK_some {X : Cx} {masks : Option (List Nat)} {sn : List Seen} {H : AH} {K : Rs} {out : Ex × AH} : ∀ {run : List (Nat × Oper)}, skipK X masks sn H K run = some out → K = some out ∧ ∀ ms, masks = some ms → ∀ b ∈ run, isEff (cls X b.2.op) = true → ∀ s ∈ sn, (ms.getD b.1 0).testBit s.i = false → s.rd H = some s.v
  | [], h => ⟨h, by simp⟩
  | b :: run, h => by
    unfold skipK at h
    split at h
    · obtain ⟨h1, _⟩ := skipK_some h
      exact ⟨h1, fun ms hms => by simp at hms⟩
    · rename_i ms
      rw [cond_eq_ite] at h
      split at h
      · obtain ⟨h1, h2⟩ := chks_some h
        obtain ⟨h3, h4⟩ := skipK_some h1
        refine ⟨h3, fun ms' hms q hq => ?_⟩
        injection hms with hms; subst hms
        rcases List.mem_cons.1 hq with rfl | hq
        · exact fun _ => h2
        · exact h4 _ rfl q hq
      · rename_i hne
        obtain ⟨h3, h4⟩ := skipK_some h
        refine ⟨h3, fun ms' hms q hq => ?_⟩
        injection hms with hms; subst hms
        rcases List.mem_cons.1 hq with rfl | hq
        · exact fun he => absurd he hne
        · exact h4 _ rfl q hq

theorem chain_ent {X : Cx} {r : Fns} : ∀ {es : List Ent} {env : Env} {H : AH} {envF : Env} {HF : AH}, Chain X r nt ops env H es envF HF → ∀ e ∈ es, entD X r ops e.env e.H e.i e.o = some e
  | [], _, _, _, _, _, e, he => by simp at he
  | q :: es, env, H, envF, HF, ⟨h1, h2, h3, env', h4, h5⟩, e, he => by
    rcases List.mem_cons.1 he with rfl | he
    · rw [h1, h2]; exact h3
    · exact chain_ent h5 e he

theorem PK_map {env : Env} {v : AV} : ∀ {L : List Nat}, (∀ t ∈ L, look env t = some v) → PK env L (L.map fun _ => v)
  | [], _ => rfl
  | l :: L, h => ⟨v, _, rfl, h l (List.mem_cons_self ..), PK_map fun t ht => h t (List.mem_cons_of_mem _ ht)⟩

theorem outOf_sub {run rest : List (Nat × Oper)} {t : Nat} (h : t ∈ outOf ops run rest) : t ∈ dstsOf run := by
  simp only [outOf, List.mem_filterMap] at h
  obtain ⟨a, ha, h1⟩ := h
  simp only [dstsOf, List.mem_filterMap]
  refine ⟨a, ha, ?_⟩
  split at h1
  · rename_i d hd
    rw [cond_eq_ite] at h1
    split at h1
    · rw [hd]; exact h1
    · simp at h1
  · simp at h1

theorem opsK_succ (masks : Option (List Nat)) (K : Env → AH → Rs) (fuel : Nat) (row : List (Nat × Oper)) (sn : List Seen) (env : Env) (H : AH) : opsK B D nt ops masks (fuel + 1) K row sn env H = (match row with
      | [] => K env H
      | (i, o) :: rest => match o.guard with
        | none => rowK B D nt masks (fun sn env H => opsK B D nt ops masks fuel K rest sn env H) [(i, o)] sn env H
        | some (j, want) => match guardV ops env j with
          | none => none
          | some g => match spanG o.guard rest with
            | (run, rest) => bif freeG nt ops j ((i, o) :: run) then
                bif runOk B.X masks ((i, o) :: run) rest then
                  runK B D nt ops masks g want ((i, o) :: run) (outOf ops ((i, o) :: run) rest) sn env H fun env H => opsK B D nt ops masks fuel K rest sn env H
                else runW B D nt masks g want ((i, o) :: run) (outOf ops ((i, o) :: run) rest) sn env H fun sn env H => opsK B D nt ops masks fuel K rest sn env H
              else none) := rfl

theorem opsK_chain {masks : Option (List Nat)} {K : Env → AH → Rs} {out : Ex × AH} : ∀ (fuel : Nat) (row : List (Nat × Oper)) (sn : List Seen) (env : Env) (H : AH) (envC : Env) (pre : List Ent),
    opsK B D nt ops masks fuel K row sn env H = some out → Le env envC → (∀ ms, masks = some ms → Tr B.X ms sn pre row) →
    ∃ es envF HF env', Chain B.X (rOf B D) nt ops envC H es envF HF ∧ es.map (fun e => (e.i, e.o)) = row ∧ Le env' envF ∧ K env' HF = some out ∧
      (∀ ms, masks = some ms → (∀ a ∈ pre, ∀ b ∈ es, SeeP B.X ms a b) ∧ es.Pairwise (SeeP B.X ms))
  | 0, row, sn, env, H, envC, pre, h, hl, hT => by
    have h' : (none : Rs) = some out := h
    simp at h'
  | fuel + 1, row, sn, env, H, envC, pre, h, hl, hT => by
    have ih := opsK_chain (masks := masks) (K := K) (out := out) fuel
    have h0 := h
    rw [opsK_succ] at h0
    clear h
    split at h0
    · exact ⟨[], envC, H, env, ⟨rfl, rfl⟩, rfl, hl, h0, fun ms hms => ⟨by simp, List.Pairwise.nil⟩⟩
    · rename_i i o rest
      split at h0
      · rename_i hg
        obtain ⟨es, envF, HF, sn', env', c1, c2, c3, c4, c5, c6⟩ := rowK_chain (ops := ops) (rest := rest) [(i, o)] sn env H envC pre h0 hl
          (fun io hio => by simp only [List.mem_singleton] at hio; subst hio; simp [wantA, hg])
          (fun io hio io' hio' d hd => by simp only [List.mem_singleton] at hio'; subst hio'; simp [gslot, hg])
          (fun ms hms => by simpa using hT ms hms)
        obtain ⟨es2, envF2, HF2, env2, d1, d2, d3, d4, d5⟩ := ih rest sn' env' HF envF (pre ++ es) c5 c4 (fun ms hms => (c6 ms hms).2.2)
        refine ⟨es ++ es2, envF2, HF2, env2, chain_append c1 d1, by rw [List.map_append, c2, d2]; rfl, d3, d4, fun ms hms => ?_⟩
        obtain ⟨e1, e2, e3⟩ := c6 ms hms
        obtain ⟨f1, f2⟩ := d5 ms hms
        refine ⟨fun a ha b hb => ?_, List.pairwise_append.2 ⟨e2, f2, fun a ha b hb => f1 a (List.mem_append_right _ ha) b hb⟩⟩
        rcases List.mem_append.1 hb with hb | hb
        · exact e1 a ha b hb
        · exact f1 a (List.mem_append_left _ ha) b hb
      · rename_i j want hg
        split at h0
        · simp at h0
        · rename_i g hgv
          cases hsp : spanG o.guard rest with
          | mk run rest' =>
            rw [hsp] at h0
            simp only [cond_eq_ite] at h0
            split at h0
            · rename_i hfree
              obtain ⟨hsplit, hguards⟩ := spanG_ok hsp
              have hrow : (i, o) :: rest = ((i, o) :: run) ++ rest' := by rw [hsplit]; rfl
              generalize hRUN : (i, o) :: run = RUN at h0 hfree hrow
              have hgd : ∀ io ∈ RUN, io.2.guard = some (j, want) := by
                intro io hio
                rw [← hRUN] at hio
                rcases List.mem_cons.1 hio with rfl | hio
                · exact hg
                · rw [hguards io hio, hg]
              -- the guard's slot
              unfold guardV at hgv
              unfold freeG at hfree
              split at hgv
              · rename_i p hp
                simp only [hp] at hfree
                split at hgv
                · rename_i dg hdg
                  simp only [hdg, Bool.and_eq_true, Bool.not_eq_true', List.contains_eq_mem, decide_eq_false_iff_not, List.all_eq_true, Nat.blt_eq] at hfree
                  obtain ⟨hnd, hlt⟩ := hfree
                  have hgs : ∀ io ∈ RUN, gslot ops io.2 = some dg := fun io hio => by simp only [gslot, hgd io hio, hp, hdg]
                  have hwt : ∀ io ∈ RUN, wantA ops envC io.2 = some (isW g want) := fun io hio => by
                    simp only [wantA, hgd io hio, wantG, hp, hdg, hl _ _ hgv]
                  have hst : ∀ io ∈ RUN, ∀ io' ∈ RUN, ∀ d, io.2.dst = some d → gslot ops io'.2 ≠ some d := fun io hio io' hio' d hd hc => by
                    rw [hgs io' hio'] at hc; injection hc with hc; subst hc
                    exact hnd (by simp only [dstsOf, List.mem_filterMap]; exact ⟨io, hio, hd⟩)
                  have hTr : ∀ ms, masks = some ms → Tr B.X ms sn pre (RUN ++ rest') := fun ms hms => by rw [← hrow]; exact hT ms hms
                  -- the run, whichever way
                  have key : ∃ es1 envF1 HF1 env2 sn2, Chain B.X (rOf B D) nt ops envC H es1 envF1 HF1 ∧ es1.map (fun e => (e.i, e.o)) = RUN ∧ Le env2 envF1 ∧ opsK B D nt ops masks fuel K rest' sn2 env2 HF1 = some out ∧
                      (∀ ms, masks = some ms → (∀ a ∈ pre, ∀ b ∈ es1, SeeP B.X ms a b) ∧ es1.Pairwise (SeeP B.X ms) ∧ Tr B.X ms sn2 (pre ++ es1) rest') := by
                    have hle2 : ∀ {es1 : List Ent} {envF1 : Env} {HF1 : AH} {env2 : Env}, Chain B.X (rOf B D) nt ops envC H es1 envF1 HF1 → es1.map (fun e => (e.i, e.o)) = RUN →
                        (∀ t, t ∉ outOf ops RUN rest' → look env2 t = look (dropE (dstsOf RUN) env) t) → (∀ t x, t ∈ outOf ops RUN rest' → look env2 t = some x → look envF1 t = some x) → Le env2 envF1 := by
                      intro es1 envF1 HF1 env2 hc hm h1 h2 t x hx
                      by_cases ht : t ∈ outOf ops RUN rest'
                      · exact h2 t x ht hx
                      · rw [h1 t ht, dropE_look] at hx
                        split at hx
                        · simp at hx
                        · rename_i htd
                          rw [chain_keep hc t (fun e he hce => htd ?_)]
                          · exact hl t x hx
                          · have : (e.i, e.o) ∈ RUN := by rw [← hm]; exact List.mem_map.2 ⟨e, he, rfl⟩
                            simp only [dstsOf, List.mem_filterMap]
                            exact ⟨_, this, hce⟩
                    split at h0
                    · rename_i hrun
                      unfold runK at h0
                      cases hwb : isW g want with
                      | true =>
                        simp only [wnt, hwb, cond_true] at h0
                        have hx : ∃ vs H1, rowK B D nt masks (fun _ env H => pck (outOf ops RUN rest') env fun vs => some (.norm vs, H)) RUN sn env H = some (.norm vs, H1) ∧ (unp (outOf ops RUN rest') vs (dropE (dstsOf RUN) env) fun env => opsK B D nt ops masks fuel K rest' sn env H1) = some out ∧ True := by
                          rcases jn_some h0 with ⟨vs, H1, h1, h2⟩ | ⟨id, vs, H1, h1, h2⟩ | ⟨v, H1, h1, h2⟩
                          · exact ⟨vs, H1, h1, h2, trivial⟩
                          · obtain ⟨_, _, _, _, _, _, _, _, _, c5, _⟩ := rowK_chain (ops := ops) (rest := rest') RUN sn env H envC pre h1 hl (fun io hio => by rw [hwt io hio, hwb]) hst hTr
                            obtain ⟨_, _, c7⟩ := pck_some c5
                            simp at c7
                          · obtain ⟨_, _, _, _, _, _, _, _, _, c5, _⟩ := rowK_chain (ops := ops) (rest := rest') RUN sn env H envC pre h1 hl (fun io hio => by rw [hwt io hio, hwb]) hst hTr
                            obtain ⟨_, _, c7⟩ := pck_some c5
                            simp at c7
                        obtain ⟨vs, H1, h1, h2, _⟩ := hx
                        obtain ⟨es1, envF1, HF1, sn1, env1, c1, c2, c3, c4, c5, c6⟩ := rowK_chain (ops := ops) (rest := rest') RUN sn env H envC pre h1 hl (fun io hio => by rw [hwt io hio, hwb]) hst hTr
                        obtain ⟨vs', c7, c8⟩ := pck_some c5
                        simp only [Option.some.injEq, Prod.mk.injEq, Ex.norm.injEq] at c8
                        obtain ⟨rfl, rfl⟩ := c8
                        obtain ⟨env2, u1, u2⟩ := unp_some h2 env1 c7
                        refine ⟨es1, envF1, HF1, env2, sn, c1, c2, hle2 c1 c2 (fun t ht => (u2 t).2 ht) (fun t x ht hx => c4 t x (by rw [← (u2 t).1 ht]; exact hx)), u1, fun ms hms => ?_⟩
                        obtain ⟨e1, e2, e3⟩ := c6 ms hms
                        refine ⟨e1, e2, fun a ha hwa hLa => ?_⟩
                        rcases List.mem_append.1 ha with ha | ha
                        · exact ((hTr ms hms).less (fun _ h => h) (fun b hb => List.mem_append_right _ hb)) a ha hwa hLa
                        · have hent := chain_ent c1 a ha
                          have hopa := (ent_ok _ _ _ hent).2.1 hwa
                          have hLv : aL B.X a.env a.H a.o.op = some a.v := by
                            simp only [opF, hLa, wV] at hopa
                            split at hopa
                            · rename_i x hx; simp only [Option.some.injEq, Prod.mk.injEq] at hopa; rw [hx, hopa.1]
                            · simp at hopa
                          cases hmt : mayTurn B.X a.o.op with
                          | false => exact .inr (.inl fun H2 => still_ok hLa hmt hLv H2)
                          | true =>
                            refine .inr (.inr fun b hb he => ?_)
                            simp only [runOk, hms, List.all_eq_true, Bool.or_eq_true, Bool.not_eq_true'] at hrun
                            have hmem : (a.i, a.o) ∈ RUN := by rw [← c2]; exact List.mem_map.2 ⟨a, ha, rfl⟩
                            rcases hrun _ hmem with hr | hr
                            · simp only at hr; rw [hmt] at hr; simp at hr
                            · rcases hr b hb with hr | hr
                              · rw [he] at hr; simp at hr
                              · exact hr
                      | false =>
                        simp only [wnt, hwb, cond_false] at h0
                        have hx : ∃ vs H1, skipK B.X masks sn H (some (.norm ((outOf ops RUN rest').map fun _ => undefA), H)) RUN = some (.norm vs, H1) ∧ (unp (outOf ops RUN rest') vs (dropE (dstsOf RUN) env) fun env => opsK B D nt ops masks fuel K rest' sn env H1) = some out := by
                          rcases jn_some h0 with ⟨vs, H1, h1, h2⟩ | ⟨id, vs, H1, h1, h2⟩ | ⟨v, H1, h1, h2⟩
                          · exact ⟨vs, H1, h1, h2⟩
                          · have := (skipK_some h1).1; simp at this
                          · have := (skipK_some h1).1; simp at this
                        obtain ⟨vs, H1, h1, h2⟩ := hx
                        obtain ⟨h3, h4⟩ := skipK_some h1
                        simp only [Option.some.injEq, Prod.mk.injEq, Ex.norm.injEq] at h3
                        obtain ⟨rfl, rfl⟩ := h3
                        obtain ⟨es1, envF1, c1, c2, c3, c4⟩ := skip_chain (B := B) (D := D) (nt := nt) (ops := ops) (H := H) RUN envC (fun io hio => by rw [hwt io hio, hwb]) hst (fun io hio d hd => hlt d (by simp only [dstsOf, List.mem_filterMap]; exact ⟨io, hio, hd⟩))
                        obtain ⟨env2, u1, u2⟩ := unp_some h2 envF1 (PK_map fun t ht => c4 t (outOf_sub ht))
                        refine ⟨es1, envF1, H, env2, sn, c1, c2, hle2 c1 c2 (fun t ht => (u2 t).2 ht) (fun t x ht hx => by rw [← (u2 t).1 ht]; exact hx), u1, fun ms hms => ⟨fun a ha b hb => ?_, ?_, fun a ha hwa hLa => ?_⟩⟩
                        · have hmem : (b.i, b.o) ∈ RUN := by rw [← c2]; exact List.mem_map.2 ⟨b, hb, rfl⟩
                          refine (hTr ms hms).see (List.mem_append_left _ hmem) (fun he => ?_) a ha
                          rw [(c3 b hb).2]
                          exact h4 ms hms _ hmem he
                        · refine List.Pairwise.imp_of_mem (R := fun _ _ => True) (fun {a b} ha _ _ hw => ?_) (List.pairwise_of_forall fun _ _ => trivial)
                          rw [(c3 a ha).1] at hw; simp at hw
                        · rcases List.mem_append.1 ha with ha | ha
                          · exact ((hTr ms hms).less (fun _ h => h) (fun b hb => List.mem_append_right _ hb)) a ha hwa hLa
                          · rw [(c3 a ha).1] at hwa; simp at hwa
                    · unfold runW at h0
                      cases hwb : isW g want with
                      | true =>
                        simp only [wnt, hwb, cond_true] at h0
                        obtain ⟨es1, envF1, HF1, sn1, env1, c1, c2, c3, c4, c5, c6⟩ := rowK_chain (ops := ops) (rest := rest') RUN sn env H envC pre h0 hl (fun io hio => by rw [hwt io hio, hwb]) hst hTr
                        exact ⟨es1, envF1, HF1, env1, sn1, c1, c2, c4, c5, fun ms hms => c6 ms hms⟩
                      | false =>
                        simp only [wnt, hwb, cond_false] at h0
                        obtain ⟨h2, h4⟩ := skipK_some h0
                        obtain ⟨es1, envF1, c1, c2, c3, c4⟩ := skip_chain (B := B) (D := D) (nt := nt) (ops := ops) (H := H) RUN envC (fun io hio => by rw [hwt io hio, hwb]) hst (fun io hio d hd => hlt d (by simp only [dstsOf, List.mem_filterMap]; exact ⟨io, hio, hd⟩))
                        obtain ⟨env2, u1, u2⟩ := unp_some h2 envF1 (PK_map fun t ht => c4 t (outOf_sub ht))
                        refine ⟨es1, envF1, H, env2, sn, c1, c2, hle2 c1 c2 (fun t ht => (u2 t).2 ht) (fun t x ht hx => by rw [← (u2 t).1 ht]; exact hx), u1, fun ms hms => ⟨fun a ha b hb => ?_, ?_, fun a ha hwa hLa => ?_⟩⟩
                        · have hmem : (b.i, b.o) ∈ RUN := by rw [← c2]; exact List.mem_map.2 ⟨b, hb, rfl⟩
                          refine (hTr ms hms).see (List.mem_append_left _ hmem) (fun he => ?_) a ha
                          rw [(c3 b hb).2]
                          exact h4 ms hms _ hmem he
                        · refine List.Pairwise.imp_of_mem (R := fun _ _ => True) (fun {a b} ha _ _ hw => ?_) (List.pairwise_of_forall fun _ _ => trivial)
                          rw [(c3 a ha).1] at hw; simp at hw
                        · rcases List.mem_append.1 ha with ha | ha
                          · exact ((hTr ms hms).less (fun _ h => h) (fun b hb => List.mem_append_right _ hb)) a ha hwa hLa
                          · rw [(c3 a ha).1] at hwa; simp at hwa
                  obtain ⟨es1, envF1, HF1, env2, sn2, k1, k2, k3, k4, k5⟩ := key
                  obtain ⟨es2, envF2, HF2, env3, d1, d2, d3, d4, d5⟩ := ih rest' sn2 env2 HF1 envF1 (pre ++ es1) k4 k3 (fun ms hms => (k5 ms hms).2.2)
                  refine ⟨es1 ++ es2, envF2, HF2, env3, chain_append k1 d1, by rw [List.map_append, k2, d2, hrow], d3, d4, fun ms hms => ?_⟩
                  obtain ⟨e1, e2, e3⟩ := k5 ms hms
                  obtain ⟨f1, f2⟩ := d5 ms hms
                  refine ⟨fun a ha b hb => ?_, List.pairwise_append.2 ⟨e2, f2, fun a ha b hb => f1 a (List.mem_append_right _ ha) b hb⟩⟩
                  rcases List.mem_append.1 hb with hb | hb
                  · exact e1 a ha b hb
                  · exact f1 a (List.mem_append_left _ ha) b hb
                · simp at hgv
              · simp at hgv
            · simp at h0
end
end Go.Eng
end
section
namespace Go.Eng

/-- The marks of loops over functions in a frame: blocks that nobody else knows, with no deferred calls. -/
def Marks (lo : Nat) (R : Ren) (w : World) (ds : List Deferred) : Prop :=
  ds.Pairwise (fun a b => ∀ r, a = ⟨.collected r, #[]⟩ → b ≠ ⟨.collected r, #[]⟩) ∧
  ∀ d ∈ ds, ∃ r, d = ⟨.collected r, #[]⟩ ∧ lo ≤ r ∧ r < w.heap.size ∧ (∀ A d c, ¬ R A r d c) ∧ w.heap[r]? = some (.deferred (some []))
theorem Marks.nil (lo : Nat) (R : Ren) (w : World) : Marks lo R w [] := ⟨List.Pairwise.nil, by simp⟩
theorem Marks.ext {lo : Nat} {R R' : Ren} {H H' : AH} {w w' : World} {ds : List Deferred} (h : Marks lo R w ds) (k : Ext R H w R' H' w') : Marks lo R' w' ds := by
  refine ⟨h.1, fun d hd => ?_⟩
  obtain ⟨r, h1, h0, h2, h3, h4⟩ := h.2 d hd
  refine ⟨r, h1, h0, Nat.lt_of_lt_of_le h2 k.size, fun A d c hr => ?_, by rw [k.keep r h2 h3]; exact h4⟩
  rcases k.new _ _ _ _ hr with h5 | h5 | ⟨A0, d0, c0, h5⟩
  · exact h3 _ _ _ h5
  · omega
  · exact h3 _ _ _ h5

/-- Where the machine stands behind a piece of code. -/
def Ends (k : List Item) (post : Env → AH → Prop) (exits : Nat → Env → AH → Prop) (rets : Env → AH → Prop) (td : List Item) (env : Env) (H : AH) : Prop :=
  (td = k ∧ post env H) ∨ (∃ id k', td = .code (.exit id) :: k' ∧ exitTo id k' = exitTo id k ∧ exits id env H) ∨ (∃ k', td = .code .ret :: k' ∧ rets env H)

/-- What a machine does that begins with some item. -/
def SimI (P : Program) (nt : Nat) (f0 : FuncId) (ro : Bool) (it : Item) (env : Env) (H : AH) (post : Env → AH → Prop) (exits : Nat → Env → AH → Prop) (rets : Env → AH → Prop) : Prop :=
  ∀ (lo : Nat) (R : Ren) (fr : Frame) (k : List Item) (cs : List Frame) (w : World), fr.mode = .run → (ro = false → fr.roundOf = none ∧ fr.fn = f0) → fr.todo = it :: k → EnvR R env nt fr.tmps → Rel R H w → Marks lo R w fr.defers → lo ≤ w.heap.size →
    ∃ R' w' tmps' td ds env' H', Steps P (lone fr cs w) (lone { fr with tmps := tmps', todo := td, defers := ds } cs w') ∧ EnvR R' env' nt tmps' ∧ Rel R' H' w' ∧ Ext R H w R' H' w' ∧ H.next ≤ H'.next ∧ Marks lo R' w' ds ∧ Ends k post exits rets td env' H'

theorem SimI.mono {P : Program} {nt : Nat} {f0 : FuncId} {ro : Bool} {it : Item} {env : Env} {H : AH} {post post' : Env → AH → Prop} {exits exits' : Nat → Env → AH → Prop} {rets rets' : Env → AH → Prop} (h : SimI P nt f0 ro it env H post exits rets)
    (h1 : ∀ e H', post e H' → post' e H') (h2 : ∀ i e H', exits i e H' → exits' i e H') (h3 : ∀ e H', rets e H' → rets' e H') : SimI P nt f0 ro it env H post' exits' rets' := by
  intro lo R fr k cs w hm hro ht hE hL hM hlo
  obtain ⟨R', w', t', td, ds, env', H', a1, a2, a3, a4, a5, a6, a7⟩ := h lo R fr k cs w hm hro ht hE hL hM hlo
  refine ⟨R', w', t', td, ds, env', H', a1, a2, a3, a4, a5, a6, ?_⟩
  rcases a7 with ⟨b1, b2⟩ | ⟨id, k', b1, b2, b3⟩ | ⟨k', b1, b2⟩
  · exact .inl ⟨b1, h1 _ _ b2⟩
  · exact .inr (.inl ⟨id, k', b1, b2, h2 _ _ _ b3⟩)
  · exact .inr (.inr ⟨k', b1, h3 _ _ b2⟩)

/-- One piece behind another: the first one's normal end is the second one's beginning. -/
theorem SimI.then {P : Program} {nt : Nat} {f0 : FuncId} {ro : Bool} {it : Item} {env : Env} {H : AH} {post : Env → AH → Prop} {exits : Nat → Env → AH → Prop} {rets : Env → AH → Prop} {mid : Env → AH → Prop}
    (its : List Item) (hex : ∀ id k, exitTo id (its ++ k) = exitTo id k)
    (h : SimI P nt f0 ro it env H mid exits rets)
    (g : ∀ env1 H1, mid env1 H1 → ∀ (lo : Nat) (R : Ren) (fr : Frame) (k : List Item) (cs : List Frame) (w : World), fr.mode = .run → (ro = false → fr.roundOf = none ∧ fr.fn = f0) → fr.todo = its ++ k → EnvR R env1 nt fr.tmps → Rel R H1 w → Marks lo R w fr.defers → lo ≤ w.heap.size →
      ∃ R' w' tmps' td ds env' H', Steps P (lone fr cs w) (lone { fr with tmps := tmps', todo := td, defers := ds } cs w') ∧ EnvR R' env' nt tmps' ∧ Rel R' H' w' ∧ Ext R H1 w R' H' w' ∧ H1.next ≤ H'.next ∧ Marks lo R' w' ds ∧ Ends k post exits rets td env' H')
    (lo : Nat) (R : Ren) (fr : Frame) (k : List Item) (cs : List Frame) (w : World) (hm : fr.mode = .run) (hro : ro = false → fr.roundOf = none ∧ fr.fn = f0) (ht : fr.todo = it :: (its ++ k)) (hE : EnvR R env nt fr.tmps) (hL : Rel R H w) (hM : Marks lo R w fr.defers) (hlo : lo ≤ w.heap.size) :
      ∃ R' w' tmps' td ds env' H', Steps P (lone fr cs w) (lone { fr with tmps := tmps', todo := td, defers := ds } cs w') ∧ EnvR R' env' nt tmps' ∧ Rel R' H' w' ∧ Ext R H w R' H' w' ∧ H.next ≤ H'.next ∧ Marks lo R' w' ds ∧ Ends k post exits rets td env' H' := by
  obtain ⟨R1, w1, t1, td1, ds1, env1, H1, a1, a2, a3, a4, a5, a6, a7⟩ := h lo R fr (its ++ k) cs w hm hro ht hE hL hM hlo
  rcases a7 with ⟨rfl, b2⟩ | ⟨id, k', b1, b2, b3⟩ | ⟨k', b1, b2⟩
  · obtain ⟨R2, w2, t2, td2, ds2, env2, H2, c1, c2, c3, c4, c5, c6, c7⟩ := g env1 H1 b2 lo R1 { fr with tmps := t1, todo := its ++ k, defers := ds1 } k cs w1 hm hro rfl a2 a3 a6 (Nat.le_trans hlo a4.size)
    exact ⟨R2, w2, t2, td2, ds2, env2, H2, a1.trans c1, c2, c3, a4.trans c4, Nat.le_trans a5 c5, c6, c7⟩
  · exact ⟨R1, w1, t1, td1, ds1, env1, H1, a1, a2, a3, a4, a5, a6, .inr (.inl ⟨id, k', b1, by rw [b2, hex], b3⟩)⟩
  · exact ⟨R1, w1, t1, td1, ds1, env1, H1, a1, a2, a3, a4, a5, a6, .inr (.inr ⟨k', b1, b2⟩)⟩

/-- A single step first. -/
theorem SimI.step {P : Program} {nt : Nat} {H : AH} {fr fr1 : Frame} {k : List Item} {cs : List Frame} {w : World} {lo : Nat} {R : Ren} {post : Env → AH → Prop} {exits : Nat → Env → AH → Prop} {rets : Env → AH → Prop} {td0 : List Item}
    (hs : step P (lone fr cs w) = .next (lone fr1 cs w)) (hf : fr1 = { fr with todo := td0 })
    (g : ∃ R' w' tmps' td ds env' H', Steps P (lone { fr with todo := td0 } cs w) (lone { fr with tmps := tmps', todo := td, defers := ds } cs w') ∧ EnvR R' env' nt tmps' ∧ Rel R' H' w' ∧ Ext R H w R' H' w' ∧ H.next ≤ H'.next ∧ Marks lo R' w' ds ∧ Ends k post exits rets td env' H') :
    ∃ R' w' tmps' td ds env' H', Steps P (lone fr cs w) (lone { fr with tmps := tmps', todo := td, defers := ds } cs w') ∧ EnvR R' env' nt tmps' ∧ Rel R' H' w' ∧ Ext R H w R' H' w' ∧ H.next ≤ H'.next ∧ Marks lo R' w' ds ∧ Ends k post exits rets td env' H' := by
  subst hf
  obtain ⟨R', w', t', td, ds, env', H', a1, a2⟩ := g
  exact ⟨R', w', t', td, ds, env', H', (Steps.one hs).trans a1, a2⟩

theorem idx_get : ∀ (l : List Oper) (n : Nat), (idx l n).map (·.1) = (List.range l.length).map (n + ·) ∧ ∀ a ∈ idx l n, n ≤ a.1 ∧ l[a.1 - n]? = some a.2
  | [], n => by simp [idx]
  | o :: l, n => by
    obtain ⟨h1, h2⟩ := idx_get l (n + 1)
    refine ⟨?_, fun a ha => ?_⟩
    · simp only [idx, List.map_cons, h1, List.length_cons, List.range_succ_eq_map, List.map_map]
      simp only [Nat.add_zero, List.cons.injEq, true_and]
      apply List.map_congr_left
      intro x _; simp only [Function.comp]; omega
    · simp only [idx, List.mem_cons] at ha
      rcases ha with rfl | ha
      · simp
      · obtain ⟨h3, h4⟩ := h2 a ha
        refine ⟨by omega, ?_⟩
        rw [show a.1 - n = (a.1 - (n + 1)) + 1 from by omega, List.getElem?_cons_succ]; exact h4

section
variable {P : Program} {B : Tb} {D : Dyn} (hX : Ok P B.X) (hr : Good P (rOf B D)) {nt : Nat}

include hX hr in
/-- A chain, gone through in the text's order. -/
theorem chain_run {ops : Array Oper} : ∀ {es : List Ent} {env : Env} {H : AH} {envF : Env} {HF : AH}, Chain B.X (rOf B D) nt ops env H es envF HF → (∀ e ∈ es, ops[e.i]? = some e.o) →
    ∀ (R : Ren) (fr : Frame) (k : List Item) (cs : List Frame) (w : World), fr.mode = .run → fr.todo = .inRegion ops (es.map (·.i)) :: k → EnvR R env nt fr.tmps → Rel R H w →
    ∃ R' w' tmps', Steps P (lone fr cs w) (lone { fr with tmps := tmps', todo := .inRegion ops [] :: k } cs w') ∧ EnvR R' envF nt tmps' ∧ Rel R' HF w' ∧ Ext R H w R' HF w'
  | [], env, H, envF, HF, ⟨h1, h2⟩, _, R, fr, k, cs, w, hm, ht, hE, hL => by
    subst h1 h2
    refine ⟨R, w, fr.tmps, ?_, hE, hL, Ext.refl R H w⟩
    have : ({ fr with tmps := fr.tmps, todo := .inRegion ops [] :: k } : Frame) = fr := by
      have ht' : fr.todo = .inRegion ops [] :: k := ht
      rw [← ht']
    rw [this]; exact .refl _ _
  | e :: es, env, H, envF, HF, ⟨h1, h2, h3, env', h4, h5⟩, hmem, R, fr, k, cs, w, hm, ht, hE, hL => by
    have ho := hmem e (List.mem_cons_self ..)
    obtain ⟨hw, hyes, hno⟩ := ent_ok _ _ _ h3
    have hwd := want_ok hE hw
    have ht' : fr.todo = .inRegion ops (e.i :: es.map (·.i)) :: k := ht
    have key : ∃ R1 w1 z, Steps P (lone fr cs w) (lone { fr with tmps := putT fr.tmps e.o.dst z, todo := .inRegion ops (es.map (·.i)) :: k } cs w1) ∧ VR R1 e.v z ∧ Rel R1 e.H' w1 ∧ Ext R H w R1 e.H' w1 := by
      cases hwe : e.want with
      | true =>
        rw [hwe] at hwd
        exact opF_ok hX hr (cs := cs) hm ht' ho hwd hE hL (hyes hwe)
      | false =>
        rw [hwe] at hwd
        obtain ⟨e1, e2⟩ := hno hwe
        refine ⟨R, w, undef, ?_, by rw [e1]; exact VR_undef R, by rw [e2]; exact hL, by rw [e2]; exact Ext.refl R H w⟩
        rw [← finish_region ht' ho]; exact .one (st_passed hm ht' ho hwd)
    obtain ⟨R1, w1, z, s1, v1, l1, x1⟩ := key
    obtain ⟨R2, w2, t2, s2, e2, l2, x2⟩ := chain_run h5 (fun q hq => hmem q (List.mem_cons_of_mem _ hq)) R1 { fr with tmps := putT fr.tmps e.o.dst z, todo := .inRegion ops (es.map (·.i)) :: k } k cs w1 hm rfl ((hE.mono x1.sub).put v1 h4) l1
    exact ⟨R2, w2, t2, s1.trans s2, e2, l2, x1.trans x2⟩

include hX hr in
theorem regK_ok {ops : Array Oper} {draw : Bool} {K : Env → AH → Rs} {env : Env} {H : AH} {out : Ex × AH} {id : Nat} (h : regK B D nt ops draw K env H = some out) (f0 : FuncId) (ro : Bool) (exits : Nat → Env → AH → Prop) (rets : Env → AH → Prop) :
    SimI P nt f0 ro (.code (.region id ops draw)) env H (fun env' H' => K env' H' = some out) exits rets := by
  unfold regK at h
  rw [cond_eq_ite] at h
  have fin : ∀ {env' envF : Env} {HF : AH}, SimCode P nt (.region id ops draw) env H .normal envF HF → Le env' envF → H.next ≤ HF.next → K env' HF = some out →
      SimI P nt f0 ro (.code (.region id ops draw)) env H (fun env' H' => K env' H' = some out) exits rets := by
    intro env' envF HF hs hl hn hk lo R fr k cs w hm _ ht hE hL hM hlo
    obtain ⟨R', w', t', td, a1, a2, a3, a4, a5⟩ := hs R fr k cs w hm ht hE hL
    simp only [Out] at a2; subst a2
    exact ⟨R', w', t', td, fr.defers, env', HF, a1, a3.le hl, a4, a5, hn, hM.ext a5, .inl ⟨rfl, hk⟩⟩
  split at h
  · rename_i hd
    subst hd
    split at h
    · rename_i row masks hplan
      obtain ⟨es, envF, HF, env', c1, c2, c3, c4, c5⟩ := opsK_chain _ row [] env H env [] h (Le.refl env) (fun ms hms => by intro a ha; simp at ha)
      exact fin (draw_core hX hr hr.mono hplan c1 c2 (c5 _ rfl).2) c3 (chain_next hr.mono c1).1 c4
    · simp at h
  · rename_i hd
    have hd' : draw = false := by simpa using hd
    subst hd'
    obtain ⟨es, envF, HF, env', c1, c2, c3, c4, _⟩ := opsK_chain _ _ [] env H env [] h (Le.refl env) (fun ms hms => by simp at hms)
    refine fin ?_ c3 (chain_next hr.mono c1).1 c4
    intro R fr k cs w hm ht hE hL
    obtain ⟨i1, i2⟩ := idx_get ops.toList 0
    have hi : es.map (·.i) = List.range ops.size := by
      have : es.map (·.i) = (idx ops.toList 0).map (·.1) := by rw [← c2]; simp
      rw [this, i1]; simp
    have hmem : ∀ e ∈ es, ops[e.i]? = some e.o := by
      intro e he
      have : (e.i, e.o) ∈ idx ops.toList 0 := by rw [← c2]; exact List.mem_map.2 ⟨e, he, rfl⟩
      have := (i2 _ this).2
      simpa using this
    obtain ⟨R1, w1, t1, s1, e1, l1, x1⟩ := chain_run hX hr c1 hmem R { fr with todo := .inRegion ops (List.range ops.size) :: k } k cs w hm (by rw [hi]) hE hL
    exact ⟨R1, w1, t1, k, (Steps.one (st_region hm ht)).trans (s1.trans (.one (st_region_end (fr := { fr with tmps := t1, todo := .inRegion ops [] :: k }) hm rfl))), rfl, e1, l1, x1⟩
end
end Go.Eng
end
section
namespace Go.Eng

theorem jb_some {id : Nat} {x : Rs} {K : List AV → AH → Rs} {out : Ex × AH} (h : jb id x K = some out) : ∃ y, x = some y ∧ ((∃ vs H, y = (.norm vs, H) ∧ K vs H = some out) ∨ (∃ vs H, y = (.exit id vs, H) ∧ K vs H = some out) ∨ (∃ i vs H, i ≠ id ∧ y = (.exit i vs, H) ∧ out = y) ∨ (∃ v H, y = (.ret v, H) ∧ out = y)) := by
  unfold jb at h; split at h
  · exact ⟨_, rfl, .inl ⟨_, _, rfl, h⟩⟩
  · rename_i i vs H
    rw [cond_eq_ite] at h
    split at h
    · rename_i hi; rw [Nat.beq_eq] at hi; subst hi; exact ⟨_, rfl, .inr (.inl ⟨_, _, rfl, h⟩)⟩
    · rename_i hi; rw [Nat.beq_eq] at hi; injection h with h; exact ⟨_, rfl, .inr (.inr (.inl ⟨_, _, _, hi, rfl, h.symm⟩))⟩
  · injection h with h; exact ⟨_, rfl, .inr (.inr (.inr ⟨_, _, rfl, h.symm⟩))⟩
  · simp at h
theorem cnd_some {c : AV} {a b : Rs} {out : Ex × AH} (h : cnd c a b = some out) : (c = .bool true ∧ a = some out) ∨ (c = .bool false ∧ b = some out) := by
  unfold cnd at h; split at h
  · exact .inl ⟨rfl, h⟩
  · exact .inr ⟨rfl, h⟩
  · simp at h

/-- What is known of the slots behind a meeting. -/
theorem unp_le {L : List Nat} {vs : List AV} {K : Env → Rs} {out : Ex × AH} (h : unp L vs env0 K = some out) {env : Env} (hp : PK env L vs) : ∃ env', K env' = some out ∧ Le env' env := by
  obtain ⟨env', h1, h2⟩ := unp_some h env hp
  refine ⟨env', h1, fun t x hx => ?_⟩
  by_cases ht : t ∈ L
  · rw [← (h2 t).1 ht]; exact hx
  · rw [(h2 t).2 ht] at hx; simp [look, env0] at hx

theorem liveOf_drop {Bk : List (Nat × List Nat)} {id i : Nat} {L : List Nat} (h : liveOf (dropB Bk id) i = some L) : i ≠ id ∧ liveOf Bk i = some L := by
  induction Bk with
  | nil => simp [dropB, liveOf] at h
  | cons x Bk ih =>
    obtain ⟨j, M⟩ := x
    unfold dropB at h
    simp only [List.filter_cons] at h
    split at h
    · rename_i hj
      simp only [Bool.not_eq_true'] at hj
      have hj' : j ≠ id := fun e => by rw [e] at hj; simp [Nat.beq_refl] at hj
      simp only [liveOf, cond_eq_ite, Nat.beq_eq] at h ⊢
      split at h
      · rename_i e; subst e; rw [if_pos rfl]; exact ⟨hj', h⟩
      · rename_i e; rw [if_neg e]; exact ih h
    · rename_i hj
      have hj' : j = id := by
        have : Nat.beq j id = true := by simpa using hj
        simpa using this
      obtain ⟨h1, h2⟩ := ih h
      refine ⟨h1, ?_⟩
      simp only [liveOf, cond_eq_ite, Nat.beq_eq]
      rw [if_neg (fun e => h1 (by rw [← e, hj']))]; exact h2

/-- How code may end, by what the evaluator says. -/
def XP (Bk : List (Nat × List Nat)) (out : Ex × AH) (id : Nat) (env : Env) (H : AH) : Prop := ∃ L vs, liveOf Bk id = some L ∧ PK env L vs ∧ out = (.exit id vs, H)
def RP (X : Cx) (rs : List ResultVar) (out : Ex × AH) (env : Env) (H : AH) : Prop := retE X rs env H = some out

theorem retK_form {X : Cx} {env : Env} {H : AH} : ∀ (rs : List ResultVar) (G : List AV → Rs), (∀ vs z, G vs = some z → ∃ v, z = (.ret v, H)) → ∀ z, retK X rs env H G = some z → ∃ v, z = (.ret v, H)
  | [], G, hG, z, hz => hG _ _ hz
  | r :: rs, G, hG, z, hz => by
    simp only [retK] at hz
    obtain ⟨v, _, h2⟩ := bV_some hz
    exact retK_form rs _ (fun vs z hz => hG _ _ hz) z h2
theorem retE_form {X : Cx} {rs : List ResultVar} {env : Env} {H : AH} {y : Ex × AH} (h : RP X rs y env H) : ∃ v, y = (.ret v, H) :=
  retK_form rs _ (fun vs z hz => by injection hz with hz; exact ⟨_, hz.symm⟩) _ h

/-- Is what is told of a piece of code true? -/
def ToldOk (P : Program) (nt : Nat) (f0 : FuncId) (c : Code) (L : List Nat) (m : List AV → AH → Option AH) : Prop :=
  ∀ (ro : Bool) (env : Env) (vs : List AV) (H H' : AH), PK env L vs → m vs H = some H' → H.next ≤ H'.next → SimI P nt f0 ro (.code c) env H (fun env' H'' => PK env' L vs ∧ H'' = H') (fun _ _ _ => False) (fun _ _ => False)
theorem tld_some {x : Option AH} {N : Nat} {K : AH → Rs} {out : Ex × AH} (h : tld x N K = some out) : ∃ H', x = some H' ∧ N ≤ H'.next ∧ K H' = some out := by
  unfold tld at h
  split at h
  · rename_i H'
    rw [cond_eq_ite] at h
    split at h
    · rename_i hle; rw [Nat.ble_eq] at hle; exact ⟨H', rfl, hle, h⟩
    · simp at h
  · simp at h

/-- Are the loops over functions where the hints say? -/
def SitesP (P : Program) (f0 : FuncId) (nt : Nat) : Code → Hint → Prop
  | .seq a b, .s ha hb => SitesP P f0 nt a ha ∧ SitesP P f0 nt b hb
  | .cond _ a b, .c _ ha hb => SitesP P f0 nt a ha ∧ SitesP P f0 nt b hb
  | .cond _ a b, .cl ha hb => SitesP P f0 nt a ha ∧ SitesP P f0 nt b hb
  | .cond _ a b, .cr ha hb => SitesP P f0 nt a ha ∧ SitesP P f0 nt b hb
  | .block _ b, .b _ hb => SitesP P f0 nt b hb
  | .block _ b, .b0 hb => SitesP P f0 nt b hb
  | .seq a b, .t L m => ToldOk P nt f0 (.seq a b) L m
  | .loop b, .l _ hb => SitesP P f0 nt b hb
  | .rangeFunc _ ps a b, .rf s _ => siteC f0 s = some (nt, ps, a, b)
  | _, _ => True

theorem newB_some {H : AH} {o : AObj} {K : Nat → AH → Rs} {out : Ex × AH} (h : newB H o K = some out) : ∃ t, T.set 40 H.h H.next o = some t ∧ T.get H.h H.next = none ∧ K H.next ⟨t, H.next + 1⟩ = some out := by
  unfold newB at h
  split at h
  · rename_i hn
    split at h
    · rename_i t ht; rw [fN_eq] at h; exact ⟨t, ht, hn, h⟩
    · simp at h
  · simp at h
theorem endLp_some {A : Nat} {H : AH} {K : Option Code → AH → Rs} {out : Ex × AH} (h : endLp A H K = some out) : ∃ l H', H.h.get A = some (.loop l) ∧ l.state ≠ .busy ∧ putA H A .dead = some H' ∧ K l.pending H' = some out := by
  unfold endLp at h
  split at h
  · rename_i l hA
    split at h
    · simp at h
    · rename_i hb
      split at h
      · rename_i H' hp; exact ⟨l, H', hA, hb, hp, h⟩
      · simp at h
  · simp at h
theorem exS_some {env : Env} {H : AH} {id : Nat} {out : Ex × AH} : ∀ {Bk : List (Nat × List Nat)}, exS Bk env H id = some out → XP Bk out id env H
  | [], h => by simp [exS] at h
  | (i, L) :: r, h => by
    simp only [exS, cond_eq_ite, Nat.beq_eq] at h
    split at h
    · rename_i e
      obtain ⟨vs, h1, h2⟩ := pck_some h
      injection h2 with h2
      exact ⟨L, vs, by simp [liveOf, e], h1, h2.symm⟩
    · rename_i e
      obtain ⟨L', vs, h1, h2, h3⟩ := exS_some h
      refine ⟨L', vs, ?_, h2, h3⟩
      simp only [liveOf, cond_eq_ite, Nat.beq_eq, if_neg e]; exact h1
theorem envA_look {env : Env} : ∀ {L : List Nat} {vs : List AV} {base : Env}, PK env L vs → ∀ t, (t ∈ L → look (envA L vs base) t = look env t) ∧ (t ∉ L → look (envA L vs base) t = look base t)
  | [], vs, base, h, t => by
    simp only [PK] at h; subst h
    exact ⟨fun h => by simp at h, fun _ => rfl⟩
  | l :: L, vs, base, ⟨v, vs', e, hv, hp⟩, t => by
    subst e
    obtain ⟨h1, h2⟩ := envA_look (base := upd base l v) hp t
    simp only [envA]
    refine ⟨fun ht => ?_, fun ht => ?_⟩
    · by_cases htL : t ∈ L
      · exact h1 htL
      · rw [h2 htL]
        have : t = l := by simp at ht; rcases ht with h | h
                           · exact h
                           · exact absurd h htL
        subst this
        simp only [look, upd_at, if_true]; exact hv.symm
    · simp only [List.mem_cons, not_or] at ht
      rw [h2 ht.2]
      simp only [look, upd_at, if_neg ht.1]
theorem envL_le {env : Env} {L : List Nat} {vs : List AV} (h : PK env L vs) : Le (envL L vs) env := by
  intro t x hx
  obtain ⟨h1, h2⟩ := envA_look (base := env0) h t
  by_cases ht : t ∈ L
  · rw [← h1 ht]; exact hx
  · have := h2 ht
    simp only [envL] at hx
    rw [this] at hx; simp [look, env0] at hx

theorem Rel.alloc_out {R : Ren} {H : AH} {w : World} (h : Rel R H w) (o : Obj) : Rel R H (w.alloc o) :=
  ⟨h.fn, h.inj, fun A b d c x r hx => by rw [heap_alloc_old _ _ _ (h.lt _ _ _ _ r).1]; exact h.obj A b d c x r hx, fun A b d c r => by rw [heap_alloc_size]; exact ⟨Nat.lt_succ_of_lt (h.lt _ _ _ _ r).1, (h.lt _ _ _ _ r).2⟩⟩
theorem Ext.alloc_out (R : Ren) (H : AH) (w : World) (o : Obj) : Ext R H w R H (w.alloc o) :=
  ⟨Sub.refl R, fun _ _ _ _ h => .inl h, fun _ _ _ _ h => .inl h, Nat.le_refl _, fun _ _ _ => rfl, rfl, rfl, rfl, by rw [heap_alloc_size]; omega, fun b hb _ => heap_alloc_old _ _ _ hb⟩

section
variable {P : Program} {B : Tb} {D : Dyn} (hX : Ok P B.X) (hr : Good P (rOf B D)) {nt : Nat} {rs : List ResultVar} {f0 : FuncId} {ro : Bool}

/-- A normal end, one item more. -/
theorem ends_block {id : Nat} {k : List Item} {fr : Frame} {cs : List Frame} {w0 w : World} {tmps : Array Value} {ds : List Deferred} (hm : fr.mode = .run) (h : Steps P (lone fr cs w0) (lone { fr with tmps := tmps, todo := .inBlock id :: k, defers := ds } cs w)) :
    Steps P (lone fr cs w0) (lone { fr with tmps := tmps, todo := k, defers := ds } cs w) :=
  h.trans (.one (st_inBlock (fr := { fr with tmps := tmps, todo := .inBlock id :: k, defers := ds }) hm rfl))
theorem ends_exit {id : Nat} {k k' : List Item} {fr : Frame} {cs : List Frame} {w0 w : World} {tmps : Array Value} {ds : List Deferred} (hm : fr.mode = .run) (hk : exitTo id k' = some k) (h : Steps P (lone fr cs w0) (lone { fr with tmps := tmps, todo := .code (.exit id) :: k', defers := ds } cs w)) :
    Steps P (lone fr cs w0) (lone { fr with tmps := tmps, todo := k, defers := ds } cs w) :=
  h.trans (.one (st_exit (fr := { fr with tmps := tmps, todo := .code (.exit id) :: k', defers := ds }) hm rfl hk))

include hX hr in
theorem codeK_ok {n : Nat} : ∀ (c : Code) (h : Hint) (Bk : List (Nat × List Nat)) (K : Env → AH → Rs) (env : Env) (H : AH) (out : Ex × AH), SitesP P f0 nt c h → codeK B D n nt rs f0 ro c h Bk K env H = some out →
    SimI P nt f0 ro (.code c) env H (fun env' H' => K env' H' = some out) (XP Bk out) (RP B.X rs out) := by
  intro c
  induction c with
  | skip =>
    intro h Bk K env H out hs hk lo R fr k cs w hm hro ht hE hL hM hlo
    simp only [codeK] at hk
    exact ⟨R, w, fr.tmps, k, fr.defers, env, H, .one (st_skip hm ht), hE, hL, Ext.refl R H w, Nat.le_refl _, hM, .inl ⟨rfl, hk⟩⟩
  | label l =>
    intro h Bk K env H out hs hk lo R fr k cs w hm hro ht hE hL hM hlo
    simp only [codeK] at hk
    exact ⟨R, w, fr.tmps, k, fr.defers, env, H, .one (st_label hm ht), hE, hL, Ext.refl R H w, Nat.le_refl _, hM, .inl ⟨rfl, hk⟩⟩
  | region id ops draw =>
    intro h Bk K env H out hs hk
    simp only [codeK] at hk
    exact regK_ok hX hr hk f0 ro _ _
  | seq a b iha ihb =>
    intro h Bk K env H out hs hk
    cases h with
    | s ha hb =>
      simp only [codeK] at hk
      intro lo R fr k cs w hm hro ht hE hL hM hlo
      refine SimI.step (st_seq hm ht) rfl ?_
      refine SimI.then [.code b] (fun id k => rfl) (iha ha Bk _ env H out hs.1 hk) (fun env1 H1 hmid lo R fr k cs w hm hro ht hE hL hM hlo => ?_) lo R { fr with todo := .code a :: .code b :: k } k cs w hm hro rfl hE hL hM hlo
      exact ihb hb Bk K env1 H1 out hs.2 hmid lo R fr k cs w hm hro ht hE hL hM hlo
    | t L m =>
      simp only [codeK] at hk
      obtain ⟨vs, hp, hk⟩ := pck_some hk
      obtain ⟨H', hm, hle, hk⟩ := tld_some hk
      intro lo R fr k cs w hmo hro ht hE hL hM hlo
      obtain ⟨R', w', t', td, ds, env', H'', a1, a2, a3, a4, a5, a6, a7⟩ := hs ro env vs H H' hp hm hle lo R fr k cs w hmo hro ht hE hL hM hlo
      rcases a7 with ⟨b1, b2, rfl⟩ | ⟨i, k', b1, b2, b3⟩ | ⟨k', b1, b2⟩
      · obtain ⟨env'', c1, c2⟩ := unp_le hk b2
        exact ⟨R', w', t', td, ds, env'', H'', a1, a2.le c2, a3, a4, a5, a6, .inl ⟨b1, c1⟩⟩
      · exact b3.elim
      · exact b2.elim
    | _ => simp [codeK] at hk
  | cond c a b iha ihb =>
    intro h Bk K env H out hs hk
    cases h with
    | c L ha hb =>
      simp only [codeK] at hk
      split at hk
      · rename_i v hv
        intro lo R fr k cs w hm hro ht hE hL hM hlo
        have hvR := opd_ok hE _ _ hv
        -- the branch that is taken
        have key : ∀ (t : Bool) (cc : Code) (hh : Hint), v = .bool t → cc = (if t then a else b) →
            (∀ y, codeK B D n nt rs f0 ro cc hh Bk (fun env H => pck L env fun vs => some (.norm vs, H)) env H = some y → SimI P nt f0 ro (.code cc) env H (fun env' H' => (pck L env' fun vs => some (.norm vs, H')) = some y) (XP Bk y) (RP B.X rs y)) →
            jn (codeK B D n nt rs f0 ro cc hh Bk (fun env H => pck L env fun vs => some (.norm vs, H)) env H) (fun vs H => unp L vs env0 fun env => K env H) = some out →
            ∃ R' w' tmps' td ds env' H', Steps P (lone fr cs w) (lone { fr with tmps := tmps', todo := td, defers := ds } cs w') ∧ EnvR R' env' nt tmps' ∧ Rel R' H' w' ∧ Ext R H w R' H' w' ∧ H.next ≤ H'.next ∧ Marks lo R' w' ds ∧ Ends k (fun env' H' => K env' H' = some out) (XP Bk out) (RP B.X rs out) td env' H' := by
          intro t cc hh hvt hcc ih hj
          subst hvt hcc
          refine SimI.step (st_cond hm ht hvR) rfl ?_
          cases hy : codeK B D n nt rs f0 ro (if t then a else b) hh Bk (fun env H => pck L env fun vs => some (.norm vs, H)) env H with
          | none => rw [hy] at hj; simp [jn] at hj
          | some y =>
            rw [hy] at hj
            obtain ⟨R', w', t', td, ds, env', H', a1, a2, a3, a4, a5, a6, a7⟩ := ih y hy lo R { fr with todo := .code (if t then a else b) :: k } k cs w hm hro rfl hE hL hM hlo
            rcases a7 with ⟨b1, b2⟩ | ⟨id, k', b1, b2, L', vs', b3, b4, b5⟩ | ⟨k', b1, b2⟩
            · obtain ⟨vs, c1, c2⟩ := pck_some b2
              injection c2 with c2; subst c2
              obtain ⟨env2, d1, d2⟩ := unp_le hj c1
              exact ⟨R', w', t', td, ds, env2, H', a1, a2.le d2, a3, a4, a5, a6, .inl ⟨b1, d1⟩⟩
            · subst b5
              simp only [jn, Option.some.injEq] at hj
              exact ⟨R', w', t', td, ds, env', H', a1, a2, a3, a4, a5, a6, .inr (.inl ⟨id, k', b1, b2, L', vs', b3, b4, hj.symm⟩)⟩
            · have hret := retE_form b2
              obtain ⟨v, rfl⟩ := hret
              simp only [jn, Option.some.injEq] at hj
              subst hj
              exact ⟨R', w', t', td, ds, env', H', a1, a2, a3, a4, a5, a6, .inr (.inr ⟨k', b1, b2⟩)⟩
        have hk' := hk
        cases v with
        | bool t =>
          cases t with
          | true => exact key true a ha rfl rfl (fun y hy => iha ha Bk _ env H y hs.1 hy) hk
          | false => exact key false b hb rfl rfl (fun y hy => ihb hb Bk _ env H y hs.2 hy) hk
        | _ => simp [cnd, jn] at hk
      · simp at hk
    | cl ha hb =>
      simp only [codeK] at hk
      split at hk
      · rename_i v hv
        intro lo R fr k cs w hm hro ht hE hL hM hlo
        have hvR := opd_ok hE _ _ hv
        rcases cnd_some hk with ⟨rfl, h1⟩ | ⟨rfl, h1⟩
        · refine SimI.step (st_cond hm ht hvR) rfl ?_
          exact ((iha ha Bk _ env H out hs.1 h1).mono (fun _ _ h => by simp at h) (fun _ _ _ h => h) (fun _ _ h => h)) lo R { fr with todo := .code a :: k } k cs w hm hro rfl hE hL hM hlo
        · refine SimI.step (st_cond hm ht hvR) rfl ?_
          exact ihb hb Bk _ env H out hs.2 h1 lo R { fr with todo := .code b :: k } k cs w hm hro rfl hE hL hM hlo
      · simp at hk
    | cr ha hb =>
      simp only [codeK] at hk
      split at hk
      · rename_i v hv
        intro lo R fr k cs w hm hro ht hE hL hM hlo
        have hvR := opd_ok hE _ _ hv
        rcases cnd_some hk with ⟨rfl, h1⟩ | ⟨rfl, h1⟩
        · refine SimI.step (st_cond hm ht hvR) rfl ?_
          exact iha ha Bk _ env H out hs.1 h1 lo R { fr with todo := .code a :: k } k cs w hm hro rfl hE hL hM hlo
        · refine SimI.step (st_cond hm ht hvR) rfl ?_
          exact ((ihb hb Bk _ env H out hs.2 h1).mono (fun _ _ h => by simp at h) (fun _ _ _ h => h) (fun _ _ h => h)) lo R { fr with todo := .code b :: k } k cs w hm hro rfl hE hL hM hlo
      · simp at hk
    | _ => simp [codeK] at hk
  | block id b ih =>
    intro h Bk K env H out hs hk
    cases h with
    | b L hb =>
      simp only [codeK] at hk
      intro lo R fr k cs w hm hro ht hE hL hM hlo
      obtain ⟨y, hy, hcases⟩ := jb_some hk
      refine SimI.step (st_block hm ht) rfl ?_
      obtain ⟨R', w', t', td, ds, env', H', a1, a2, a3, a4, a5, a6, a7⟩ := ih hb _ _ env H y hs hy lo R { fr with todo := .code b :: .inBlock id :: k } (.inBlock id :: k) cs w hm hro rfl hE hL hM hlo
      rcases a7 with ⟨b1, b2⟩ | ⟨i, k', b1, b2, L', vs', b3, b4, b5⟩ | ⟨k', b1, b2⟩
      · obtain ⟨vs, c1, c2⟩ := pck_some b2
        injection c2 with c2; subst c2
        rcases hcases with ⟨vs2, H2, e1, e2⟩ | ⟨vs2, H2, e1, _⟩ | ⟨i, vs2, H2, _, e1, _⟩ | ⟨v, H2, e1, _⟩
        · simp only [Prod.mk.injEq, Ex.norm.injEq] at e1
          obtain ⟨rfl, rfl⟩ := e1
          obtain ⟨env2, d1, d2⟩ := unp_le e2 c1
          subst b1
          exact ⟨R', w', t', k, ds, env2, H', ends_block (fr := { fr with todo := .code b :: .inBlock id :: k }) hm a1, a2.le d2, a3, a4, a5, a6, .inl ⟨rfl, d1⟩⟩
        · simp at e1
        · simp at e1
        · simp at e1
      · subst b5
        by_cases hi : i = id
        · subst hi
          simp only [liveOf, Nat.beq_refl, cond_true, Option.some.injEq] at b3
          subst b3
          rcases hcases with ⟨vs2, H2, e1, _⟩ | ⟨vs2, H2, e1, e2⟩ | ⟨j, vs2, H2, hne, e1, _⟩ | ⟨v, H2, e1, _⟩
          · simp at e1
          · simp only [Prod.mk.injEq, Ex.exit.injEq, true_and] at e1
            obtain ⟨rfl, rfl⟩ := e1
            obtain ⟨env2, d1, d2⟩ := unp_le e2 b4
            subst b1
            have hex : exitTo i k' = some k := by rw [b2]; simp [exitTo]
            exact ⟨R', w', t', k, ds, env2, H', ends_exit (fr := { fr with todo := .code b :: .inBlock i :: k }) hm hex a1, a2.le d2, a3, a4, a5, a6, .inl ⟨rfl, d1⟩⟩
          · simp only [Prod.mk.injEq, Ex.exit.injEq] at e1; exact absurd e1.1.1.symm hne
          · simp at e1
        · have b3' : liveOf Bk i = some L' := by
            simp only [liveOf, cond_eq_ite, Nat.beq_eq, if_neg (fun e => hi (Eq.symm e))] at b3; exact b3
          have b2' : exitTo i k' = exitTo i k := by
            rw [b2]; simp only [exitTo]; rw [if_neg (by simpa using fun e => hi (Eq.symm e))]
          rcases hcases with ⟨vs2, H2, e1, _⟩ | ⟨vs2, H2, e1, _⟩ | ⟨j, vs2, H2, hne, e1, e2⟩ | ⟨v, H2, e1, _⟩
          · simp at e1
          · simp only [Prod.mk.injEq, Ex.exit.injEq] at e1; exact absurd e1.1.1 hi
          · exact ⟨R', w', t', td, ds, env', H', a1, a2, a3, a4, a5, a6, .inr (.inl ⟨i, k', b1, b2', L', vs', b3', b4, e2⟩)⟩
          · simp at e1
      · have hret := retE_form b2
        obtain ⟨v, rfl⟩ := hret
        rcases hcases with ⟨vs2, H2, e1, _⟩ | ⟨vs2, H2, e1, _⟩ | ⟨j, vs2, H2, hne, e1, _⟩ | ⟨v2, H2, e1, e2⟩
        · simp at e1
        · simp at e1
        · simp at e1
        · subst e2
          exact ⟨R', w', t', td, ds, env', H', a1, a2, a3, a4, a5, a6, .inr (.inr ⟨k', b1, b2⟩)⟩
    | b0 hb =>
      simp only [codeK] at hk
      intro lo R fr k cs w hm hro ht hE hL hM hlo
      refine SimI.step (st_block hm ht) rfl ?_
      obtain ⟨R', w', t', td, ds, env', H', a1, a2, a3, a4, a5, a6, a7⟩ := ih hb _ _ env H out hs hk lo R { fr with todo := .code b :: .inBlock id :: k } (.inBlock id :: k) cs w hm hro rfl hE hL hM hlo
      rcases a7 with ⟨b1, b2⟩ | ⟨i, k', b1, b2, L', vs', b3, b4, b5⟩ | ⟨k', b1, b2⟩
      · subst b1
        exact ⟨R', w', t', k, ds, env', H', ends_block (fr := { fr with todo := .code b :: .inBlock id :: k }) hm a1, a2, a3, a4, a5, a6, .inl ⟨rfl, b2⟩⟩
      · obtain ⟨hi, b3'⟩ := liveOf_drop b3
        have b2' : exitTo i k' = exitTo i k := by
          rw [b2]; simp only [exitTo]; rw [if_neg (by simpa using fun e => hi (Eq.symm e))]
        exact ⟨R', w', t', td, ds, env', H', a1, a2, a3, a4, a5, a6, .inr (.inl ⟨i, k', b1, b2', L', vs', b3', b4, b5⟩)⟩
      · exact ⟨R', w', t', td, ds, env', H', a1, a2, a3, a4, a5, a6, .inr (.inr ⟨k', b1, b2⟩)⟩
    | _ => simp [codeK] at hk
  | loop b ih =>
    intro h Bk K env H out hs hk
    cases h with
    | l L hb =>
      simp only [codeK] at hk
      obtain ⟨vs0, hp0, hk⟩ := pck_some hk
      -- round after round
      have key : ∀ (m : Nat) (vs : List AV) (env : Env) (H : AH), PK env L vs → loopK m (fun vs H => unp L vs env0 fun env => codeK B D n nt rs f0 ro b hb Bk (fun env H => pck L env fun vs => some (.norm vs, H)) env H) vs H = some out →
          ∀ (lo : Nat) (R : Ren) (fr : Frame) (k : List Item) (cs : List Frame) (w : World), fr.mode = .run → (ro = false → fr.roundOf = none ∧ fr.fn = f0) → fr.todo = .code b :: .inLoop b :: k → EnvR R env nt fr.tmps → Rel R H w → Marks lo R w fr.defers → lo ≤ w.heap.size →
          ∃ R' w' tmps' td ds env' H', Steps P (lone fr cs w) (lone { fr with tmps := tmps', todo := td, defers := ds } cs w') ∧ EnvR R' env' nt tmps' ∧ Rel R' H' w' ∧ Ext R H w R' H' w' ∧ H.next ≤ H'.next ∧ Marks lo R' w' ds ∧ Ends k (fun env' H' => K env' H' = some out) (XP Bk out) (RP B.X rs out) td env' H' := by
        intro m
        induction m with
        | zero => intro vs env H _ hl; have hl' : (none : Rs) = some out := hl; simp at hl'
        | succ m ihm =>
          intro vs env H hp hl lo R fr k cs w hm hro ht hE hL hM hlo
          have hl' : jn (unp L vs env0 fun env => codeK B D n nt rs f0 ro b hb Bk (fun env H => pck L env fun vs => some (.norm vs, H)) env H) (loopK m (fun vs H => unp L vs env0 fun env => codeK B D n nt rs f0 ro b hb Bk (fun env H => pck L env fun vs => some (.norm vs, H)) env H)) = some out := hl
          cases hy : (unp L vs env0 fun env => codeK B D n nt rs f0 ro b hb Bk (fun env H => pck L env fun vs => some (.norm vs, H)) env H) with
          | none => rw [hy] at hl'; simp [jn] at hl'
          | some y =>
            rw [hy] at hl'
            obtain ⟨env1, d1, d2⟩ := unp_le hy hp
            obtain ⟨R', w', t', td, ds, env', H', a1, a2, a3, a4, a5, a6, a7⟩ := ih hb Bk _ env1 H y hs d1 lo R fr (.inLoop b :: k) cs w hm hro ht (hE.le d2) hL hM hlo
            rcases a7 with ⟨b1, b2⟩ | ⟨i, k', b1, b2, L', vs', b3, b4, b5⟩ | ⟨k', b1, b2⟩
            · obtain ⟨vs2, c1, c2⟩ := pck_some b2
              injection c2 with c2; subst c2
              subst b1
              have hl2 : loopK m (fun vs H => unp L vs env0 fun env => codeK B D n nt rs f0 ro b hb Bk (fun env H => pck L env fun vs => some (.norm vs, H)) env H) vs2 H' = some out := hl'
              obtain ⟨R2, w2, t2, td2, ds2, env2, H2, e1, e2, e3, e4, e5, e6, e7⟩ := ihm vs2 env' H' c1 hl2 lo R' { fr with tmps := t', todo := .code b :: .inLoop b :: k, defers := ds } k cs w' hm hro rfl a2 a3 a6 (Nat.le_trans hlo a4.size)
              have hstep := Steps.one (st_inLoop (P := P) (cs := cs) (w := w') (fr := { fr with tmps := t', todo := .inLoop b :: k, defers := ds }) hm rfl)
              exact ⟨R2, w2, t2, td2, ds2, env2, H2, a1.trans (hstep.trans e1), e2, e3, a4.trans e4, Nat.le_trans a5 e5, e6, e7⟩
            · subst b5
              simp only [jn, Option.some.injEq] at hl'
              exact ⟨R', w', t', td, ds, env', H', a1, a2, a3, a4, a5, a6, .inr (.inl ⟨i, k', b1, b2, L', vs', b3, b4, hl'.symm⟩)⟩
            · have hret := retE_form b2
              obtain ⟨v, rfl⟩ := hret
              simp only [jn, Option.some.injEq] at hl'
              subst hl'
              exact ⟨R', w', t', td, ds, env', H', a1, a2, a3, a4, a5, a6, .inr (.inr ⟨k', b1, b2⟩)⟩
      intro lo R fr k cs w hm hro ht hE hL hM hlo
      refine SimI.step (st_loop hm ht) rfl ?_
      exact key n vs0 env H hp0 hk lo R { fr with todo := .code b :: .inLoop b :: k } k cs w hm hro rfl hE hL hM hlo
    | _ => simp [codeK] at hk
  | exit id =>
    intro h Bk K env H out hs hk lo R fr k cs w hm hro ht hE hL hM hlo
    simp only [codeK] at hk
    split at hk
    · rename_i L hL'
      obtain ⟨vs, h1, h2⟩ := pck_some hk
      injection h2 with h2
      refine ⟨R, w, fr.tmps, fr.todo, fr.defers, env, H, ?_, hE, hL, Ext.refl R H w, Nat.le_refl _, hM, .inr (.inl ⟨id, k, ht, rfl, L, vs, hL', h1, h2.symm⟩)⟩
      exact .refl _ _
    · simp at hk
  | ret =>
    intro h Bk K env H out hs hk lo R fr k cs w hm hro ht hE hL hM hlo
    simp only [codeK] at hk
    refine ⟨R, w, fr.tmps, fr.todo, fr.defers, env, H, ?_, hE, hL, Ext.refl R H w, Nat.le_refl _, hM, .inr (.inr ⟨k, ht, hk⟩)⟩
    exact .refl _ _
  | rangeFunc f params assign body _ _ =>
    intro h Bk K env H out hs hk
    cases h with
    | rf s L =>
      simp only [codeK, cond_eq_ite] at hk
      split at hk
      · simp at hk
      · rename_i hrof
        have hrof' : ro = false := by simpa using hrof
        split at hk
        · rename_i fv hfv
          obtain ⟨vs, hp, hk⟩ := pck_some hk
          obtain ⟨t', hset, hnone, hk⟩ := newB_some hk
          obtain ⟨v, H2, hcall, hk⟩ := bR_some hk
          obtain ⟨lp, H3, hA2, hbusy, hput, hk⟩ := endLp_some hk
          unfold rfC at hcall
          split at hcall
          · rename_i g first cap _ _
            intro lo R fr k cs w hm hro ht hE hL hM hlo
            obtain ⟨hno, hfr0⟩ := hro hrof'
            obtain ⟨hnx, hsim⟩ := hr.call _ _ _ _ _ hcall
            obtain ⟨first', cap', hfe, hv1, hv2⟩ := opd_ok hE _ _ hfv
            -- the two blocks
            let LP : Loop := { state := .ready, pending := none, fn := fr.fn, tmps := fr.tmps, params := params, assign := assign, body := body, defers := w.heap.size }
            let W1 : World := (w.alloc (.deferred (some []))).alloc (.loop LP)
            let FR1 : Frame := { fr with todo := .inRangeFunc (w.heap.size + 1) :: k, defers := { target := .collected w.heap.size, args := #[] } :: fr.defers }
            let R1 : Ren := R.add H.next (w.heap.size + 1) 0 0
            have hLd := hL.alloc_out (.deferred (some []))
            have hszd : (w.alloc (.deferred (some []))).heap.size = w.heap.size + 1 := heap_alloc_size _ _
            have hR1 : Rel R1 ⟨t', H.next + 1⟩ W1 := by
              have := hLd.new (c := 0) (x := .loop LP) hset ⟨LP, nt, rfl, hs, rfl, rfl, hfr0, (hE.le (envL_le hp)).mono (R.sub_add _ _ _ _)⟩
              rw [hszd] at this; exact this
            have hx1 : Ext R H w R1 ⟨t', H.next + 1⟩ W1 := by
              have := (Ext.alloc_out R H w (.deferred (some []))).trans (Ext.add (c := 0) (x := .loop LP) hset)
              rw [hszd] at this; exact this
            have hRA : R1 H.next (w.heap.size + 1) 0 0 := R.add_self _ _ _ _
            have hM1 : Marks lo R1 W1 FR1.defers := by
              have hMe := hM.ext hx1
              refine ⟨List.pairwise_cons.2 ⟨fun q hq r e => ?_, hMe.1⟩, fun q hq => ?_⟩
              · obtain ⟨r', e', _, h2, _, _⟩ := hM.2 q hq
                rw [e']
                intro e2
                simp only [Deferred.mk.injEq, Target.collected.injEq, and_true] at e e2
                omega
              · rcases List.mem_cons.1 hq with rfl | hq
                · refine ⟨w.heap.size, rfl, hlo, ?_, ?_, ?_⟩
                  · show w.heap.size < W1.heap.size
                    simp only [W1, heap_alloc_size]; omega
                  · rintro A d c (h | ⟨_, h, _⟩)
                    · have := (hL.lt _ _ _ _ h).1; omega
                    · omega
                  · show ((w.alloc (.deferred (some []))).alloc (.loop LP)).heap[w.heap.size]? = _
                    rw [heap_alloc_old _ _ _ (by rw [hszd]; omega), heap_alloc_same]
                · exact hMe.2 q hq
            -- into the function
            have hy1 : VRL R1 [AV.yieldTo H.next] [Value.func (.yield (w.heap.size + 1)) #[] #[]] := ⟨_, [], rfl, ⟨_, _, _, hRA, rfl⟩, rfl⟩
            have hargs : VRL R1 (first ++ [AV.yieldTo H.next] ++ cap) ((first' ++ [Value.func (.yield (w.heap.size + 1)) #[] #[]]) ++ cap') :=
              ((VRL.mono hx1.sub _ _ hv1).append hy1).append (VRL.mono hx1.sub _ _ hv2)
            have hen := run_enterLoop_outer (P := P) (w := w) fr.fn fr.tmps params assign body
            have hres : ∀ F : Frame, F.tmps = fr.tmps → (resolve F.eval { callee := .value f, args := #[.const (.func (.yield (w.heap.size + 1)) #[] #[])], argTypes := #[] } 0).run P ((w.alloc (.deferred (some []))).alloc (.loop { state := .ready, pending := none, fn := fr.fn, tmps := fr.tmps, params := params, assign := assign, body := body, defers := w.heap.size })) =
                .ok { target := .fn (.func g) ⟨cap'⟩, args := ⟨first' ++ [Value.func (.yield (w.heap.size + 1)) #[] #[]]⟩ } ((w.alloc (.deferred (some []))).alloc (.loop { state := .ready, pending := none, fn := fr.fn, tmps := fr.tmps, params := params, assign := assign, body := body, defers := w.heap.size })) := by
              intro F hF
              have hev : F.eval f = fr.eval f := by cases f <;> simp [Frame.eval, hF]
              have hfe' : F.eval f = .func (.func g) ⟨first'⟩ ⟨cap'⟩ := hev.trans hfe
              have hc' : F.eval (.const (.func (.yield (w.heap.size + 1)) #[] #[])) = .func (.yield (w.heap.size + 1)) #[] #[] := rfl
              simp [resolve, hfe', Deferred.ofValue, hc']
            have hinv : ∀ w', (invoke (.fn (.func g) ⟨cap'⟩) ⟨first' ++ [Value.func (.yield (w.heap.size + 1)) #[] #[]]⟩).run P w' = (callFunc g ⟨(first' ++ [Value.func (.yield (w.heap.size + 1)) #[] #[]]) ++ cap'⟩).run P w' := by
              intro w'
              have hea : (⟨first' ++ [Value.func (.yield (w.heap.size + 1)) #[] #[]]⟩ : Array Value) ++ ⟨cap'⟩ = ⟨(first' ++ [Value.func (.yield (w.heap.size + 1)) #[] #[]]) ++ cap'⟩ := by
                apply Array.toList_inj.1; simp
              simp only [invoke, hea]
            have hreach : ∃ R2 w2 z, Steps P (lone fr cs w) (lone { FR1 with todo := .endRangeFunc (w.heap.size + 1) :: k } cs w2) ∧ VR R2 v z ∧ Rel R2 H2 w2 ∧ Ext R1 ⟨t', H.next + 1⟩ W1 R2 H2 w2 := by
              rcases hsim with ⟨⟨fn, hfn, hbody⟩, hcl⟩ | hdir
              · have hstep1 : step P (lone fr cs w) = .next (lone (Frame.enter P g ⟨(first' ++ [Value.func (.yield (w.heap.size + 1)) #[] #[]]) ++ cap'⟩ .normal) (FR1 :: cs) W1) := by
                  refine step_lone_go ?_
                  have hnm := hX.nm g fn hfn
                  have hb : fn.body.isNone = false := by cases hh : fn.body <;> simp_all
                  have hcf : ∀ w', (callFunc g ⟨(first' ++ [Value.func (.yield (w.heap.size + 1)) #[] #[]]) ++ cap'⟩).run P w' = .ok (.enter g ⟨(first' ++ [Value.func (.yield (w.heap.size + 1)) #[] #[]]) ++ cap'⟩) w' := by
                    intro w'
                    simp only [callFunc, program, Sem.run_bind, Sem.run, Result.andThen, hfn, hnm, Bool.false_eq_true, if_false, hb, Sem.run_pure]
                  simp only [stepG, stepG.exec, hm, ht, hno, Sem.runT_eq, hen, stepG.apply, Sem.run_bind]
                  simp only [List.cons_append, List.nil_append, if_true]
                  simp only [List.append_assoc, List.cons_append, List.nil_append] at hinv hcf ⊢
                  simp [hres, hinv, hcf, FR1, W1, LP, hm, hno]
                obtain ⟨R2, w2, z, fr', s2, f2, lv2, v2, l2, x2⟩ := hcl R1 _ (FR1 :: cs) W1 hargs hR1
                have hstep2 : step P (lone fr' (FR1 :: cs) w2) = .next (lone { FR1 with todo := .endRangeFunc (w.heap.size + 1) :: k } cs w2) := step_leave_returned lv2
                exact ⟨R2, w2, z, (Steps.one hstep1).trans (s2.trans (.one hstep2)), v2, l2, x2⟩
              · obtain ⟨R2, w2, z, hrun, v2, l2, x2⟩ := hdir R1 _ W1 hargs hR1
                have hstep1 : step P (lone fr cs w) = .next (lone { FR1 with todo := .endRangeFunc (w.heap.size + 1) :: k } cs w2) := by
                  refine step_lone_go ?_
                  have hrun' : (callFunc g ⟨(first' ++ [Value.func (.yield (w.heap.size + 1)) #[] #[]]) ++ cap'⟩).run P ((w.alloc (.deferred (some []))).alloc (.loop { state := .ready, pending := none, fn := fr.fn, tmps := fr.tmps, params := params, assign := assign, body := body, defers := w.heap.size })) = .ok (.value z) w2 := hrun
                  simp only [stepG, stepG.exec, hm, ht, hno, Sem.runT_eq, hen, stepG.apply, Sem.run_bind]
                  simp only [List.cons_append, List.nil_append, if_true]
                  simp only [List.append_assoc, List.cons_append, List.nil_append] at hinv hrun'
                  simp [hres, hinv, hrun', FR1, hm, hno, Frame.finish]
                exact ⟨R2, w2, z, .one hstep1, v2, l2, x2⟩
            obtain ⟨R2, w2, z, s2, v2, l2, x2⟩ := hreach
            have hRA2 : R2 H.next (w.heap.size + 1) 0 0 := x2.sub _ _ _ _ hRA
            obtain ⟨L2, nt2, hb2, _, hst2, hpe2, _, _⟩ := l2.obj _ _ _ _ _ hRA2 hA2
            have hel := run_endLoop (P := P) hb2 (by rw [hst2]; exact hbusy)
            have hstep3 : step P (lone { FR1 with todo := .endRangeFunc (w.heap.size + 1) :: k } cs w2) = .next (lone { FR1 with todo := (lp.pending.map Item.code).toList ++ k } cs (wput w2 (w.heap.size + 1) (.loop { L2 with state := .exhausted }))) := by
              refine step_lone_go ?_
              have hm' : FR1.mode = .run := hm
              simp only [stepG, stepG.exec, hm', Sem.runT_eq, hel, hpe2]
              simp [World.putObj, wput]
            unfold putA at hput
            split at hput
            · rename_i t3 ht3
              simp only [Option.some.injEq] at hput; subst hput
              have l3 := l2.put hRA2 ⟨_, hA2, trivial⟩ ht3 (x := .loop { L2 with state := .exhausted }) (o' := .dead) trivial
              have x3 : Ext R2 H2 w2 R2 ⟨t3, H2.next⟩ (wput w2 (w.heap.size + 1) (.loop { L2 with state := .exhausted })) := Ext.put hRA2 ht3
              have xall := hx1.trans (x2.trans x3)
              have hMall := (hM1.ext x2).ext x3
              have hEall : EnvR R2 env nt fr.tmps := hE.mono (hx1.sub.trans x2.sub)
              have hsteps := s2.trans (Steps.one hstep3)
              have hnxt : H.next ≤ H2.next := Nat.le_trans (Nat.le_succ _) hnx
              unfold jmpK at hk
              split at hk
              · rename_i hj
                rw [hj] at hsteps
                exact ⟨R2, _, fr.tmps, k, FR1.defers, env, _, hsteps, hEall, l3, xall, hnxt, hMall, .inl ⟨rfl, hk⟩⟩
              · rename_i id hj
                rw [hj] at hsteps
                exact ⟨R2, _, fr.tmps, .code (.exit id) :: k, FR1.defers, env, _, hsteps, hEall, l3, xall, hnxt, hMall, .inr (.inl ⟨id, k, rfl, rfl, exS_some hk⟩)⟩
              · rename_i hj
                rw [hj] at hsteps
                exact ⟨R2, _, fr.tmps, .code .ret :: k, FR1.defers, env, _, hsteps, hEall, l3, xall, hnxt, hMall, .inr (.inr ⟨k, rfl, hk⟩)⟩
              · simp at hk
            · simp at hput
          · simp at hcall
        · simp at hk
    | _ => simp [codeK] at hk
  | scope b _ => intro h Bk K env H out hs hk; simp [codeK] at hk
  | goto l => intro h Bk K env H out hs hk; simp [codeK] at hk
  | refuse why => intro h Bk K env H out hs hk; simp [codeK] at hk
end
end Go.Eng
end
section
namespace Go.Eng

theorem Rel.wput_out {R : Ren} {H : AH} {w : World} (h : Rel R H w) {r : Nat} {x : Obj} (hr : ∀ A d c, ¬ R A r d c) : Rel R H (wput w r x) :=
  ⟨h.fn, h.inj, fun A b d c o ho hg => by
    rw [wput_other _ _ _ _ (fun e => by subst e; exact hr _ _ _ ho)]; exact h.obj A b d c o ho hg,
   fun A b d c ho => by rw [wput_size]; exact h.lt A b d c ho⟩
theorem Ext.wput_above {R R' : Ren} {H H' : AH} {w0 w : World} (h : Ext R H w0 R' H' w) {r : Nat} (x : Obj) (hr : w0.heap.size ≤ r) : Ext R H w0 R' H' (wput w r x) where
  sub := h.sub
  new := h.new
  newA := h.newA
  next := h.next
  keepA := h.keepA
  os := h.os
  tape := h.tape
  output := h.output
  size := by rw [wput_size]; exact h.size
  keep b hb hR := by rw [wput_other _ _ _ _ (by omega)]; exact h.keep b hb hR

/-- The marks are taken off. -/
theorem unwind_marks {P : Program} {w0 : World} {R0 : Ren} {H0 : AH} {cs : List Frame} : ∀ (ds : List Deferred) (fr : Frame) (w : World) (R : Ren) (H : AH), fr.mode = .returning → fr.defers = ds → Marks w0.heap.size R w ds → Rel R H w → Ext R0 H0 w0 R H w →
    ∃ w', Steps P (lone fr cs w) (lone { fr with defers := [] } cs w') ∧ Rel R H w' ∧ Ext R0 H0 w0 R H w'
  | [], fr, w, R, H, hm, hd, _, hL, hx => ⟨w, by
      have : ({ fr with defers := [] } : Frame) = fr := by rw [← hd]
      rw [this]; exact .refl _ _, hL, hx⟩
  | d :: ds, fr, w, R, H, hm, hd, hM, hL, hx => by
    obtain ⟨r, rfl, h0, h1, h2, h3⟩ := hM.2 d (List.mem_cons_self ..)
    have hrun : (Instr.takeDeferred r).run P w = .ok [] (wput w r (.deferred none)) := by
      simp [Instr.takeDeferred, getObj, setObj, Sem.run_bind, Sem.run, h3, wput, Result.andThen]
    have hstep : step P (lone fr cs w) = .next (lone { fr with defers := ds } cs (wput w r (.deferred none))) := by
      refine step_lone_go ?_
      simp [stepG, unwind, hm, hd, Sem.runT_eq, hrun]
    have hM' : Marks w0.heap.size R (wput w r (.deferred none)) ds := by
      refine ⟨(List.pairwise_cons.1 hM.1).2, fun q hq => ?_⟩
      obtain ⟨r', e, g0, g1, g2, g3⟩ := hM.2 q (List.mem_cons_of_mem _ hq)
      have hne : r' ≠ r := fun e' => by subst e'; exact (List.pairwise_cons.1 hM.1).1 q hq r' rfl e
      exact ⟨r', e, g0, by rw [wput_size]; exact g1, g2, by rw [wput_other _ _ _ _ hne]; exact g3⟩
    obtain ⟨w', s1, s2, s3⟩ := unwind_marks ds { fr with defers := ds } (wput w r (.deferred none)) R H hm rfl hM' (hL.wput_out h2) (hx.wput_above _ h0)
    exact ⟨w', (Steps.one hstep).trans s1, s2, s3⟩

theorem unpA_some : ∀ {k i : Nat} {vs : List AV} {env : Env} {K : Env → Rs} {out : Ex × AH}, unpA k i vs env K = some out → vs.length = k ∧ ∃ env', K env' = some out ∧ ∀ t, look env' t = if i ≤ t ∧ t < i + k then vs[t - i]? else look env t
  | 0, i, vs, env, K, out, h => by
    simp only [unpA, nl] at h
    split at h
    · exact ⟨rfl, env, h, fun t => by rw [if_neg (by omega)]⟩
    · simp at h
  | k + 1, i, vs, env, K, out, h => by
    simp only [unpA] at h
    obtain ⟨v, l, rfl, h1⟩ := hd_some h
    obtain ⟨h2, env', h3, h4⟩ := unpA_some h1
    refine ⟨by simp [h2], env', h3, fun t => ?_⟩
    rw [h4 t]
    by_cases e : t = i
    · subst e
      rw [if_neg (by omega), if_pos (by omega)]
      simp [look, upd_at]
    · by_cases h5 : i ≤ t ∧ t < i + (k + 1)
      · rw [if_pos (by omega), if_pos h5, show t - i = (t - (i + 1)) + 1 from by omega, List.getElem?_cons_succ]
      · rw [if_neg (by omega), if_neg h5]; simp [look, upd_at, e]

theorem retK_some {X : Cx} {env : Env} {H : AH} : ∀ (rs : List ResultVar) (G : List AV → Rs) (z : Ex × AH), retK X rs env H G = some z → ∃ vs, aresults X env H rs = some vs ∧ G vs = some z
  | [], G, z, h => ⟨[], rfl, h⟩
  | r :: rs, G, z, h => by
    simp only [retK] at h
    obtain ⟨v, h1, h2⟩ := bV_some h
    obtain ⟨vs, h3, h4⟩ := retK_some rs _ z h2
    refine ⟨v :: vs, ?_, h4⟩
    have : aresult X env H r = some v := by
      cases r with
      | tmp t => exact h1
      | cell a t =>
        simp only [resE] at h1
        obtain ⟨p, hp, hl⟩ := q1_some h1
        exact b1_of hp (tLoad_ok hl)
    simp only [aresults, this, h3]

section
variable {P : Program} {X : Cx} (hX : Ok P X)
include hX in
theorem results_ok {R : Ren} {H : AH} {w : World} (hL : Rel R H w) {env : Env} {nt : Nat} {tmps : Array Value} (hE : EnvR R env nt tmps) : ∀ (rs : List ResultVar) (vs : List AV), aresults X env H rs = some vs →
    ∃ zs : List Value, (rs.mapM (fun | .tmp t => pure (tmps.getD t undef) | .cell a t => do loadVar t (← asAddr (tmps.getD a undef)) : ResultVar → Sem Value)).run P w = .ok zs w ∧ VRL R vs zs
  | [], vs, h => by simp only [aresults, Option.some.injEq] at h; subst h; exact ⟨[], rfl, rfl⟩
  | r :: rs, vs, h => by
    simp only [aresults] at h
    split at h
    · rename_i v hv
      split at h
      · rename_i vs' hvs
        simp only [Option.some.injEq] at h; subst h
        obtain ⟨zs, h1, h2⟩ := results_ok hL hE rs vs' hvs
        have hone : ∃ z, (match r with | .tmp t => pure (tmps.getD t undef) | .cell a t => do loadVar t (← asAddr (tmps.getD a undef)) : Sem Value).run P w = .ok z w ∧ VR R v z := by
          cases r with
          | tmp t => exact ⟨_, rfl, hE.get t v hv⟩
          | cell a t =>
            simp only [aresult] at hv
            unfold b1 at hv
            split at hv
            · rename_i p hpl
              have hp := hE.get a p hpl
              obtain ⟨z, h3, h4⟩ := aload_ok (P := P) hX hL hv hp
              refine ⟨z, ?_, h4⟩
              cases p with
              | ptr A off =>
                obtain ⟨b, d, c, hr, e⟩ := hp
                show (do loadVar t (← asAddr (tmps.getD a undef)) : Sem Value).run P w = .ok z w
                rw [e] at h3 ⊢
                simp only [Instr.loadAt, Instr.sureAddr, Sem.run_bind, Sem.run_pure, Result.andThen] at h3
                simp only [asAddr, Sem.run_bind, Sem.run_pure, Result.andThen]
                exact h3
              | _ => simp [aload] at hv
            · simp at hv
        obtain ⟨z, hz1, hz2⟩ := hone
        refine ⟨z :: zs, ?_, z, zs, rfl, hz2, h2⟩
        rw [List.mapM_cons]
        simp only [Sem.run_bind, hz1, Result.andThen, h1]; rfl
      · simp at h
    · simp at h
end

theorem tupV_ok {R : Ren} {vs : List AV} {zs : List Value} (h : VRL R vs zs) : VR R (tupV vs) (if h : zs.toArray.size = 1 then zs.toArray[0] else .tuple zs.toArray) := by
  unfold tupV
  split
  · rename_i v
    obtain ⟨z, zs', rfl, h1, h2⟩ := h
    simp only [VRL] at h2; subst h2
    simpa using h1
  · rename_i hne
    have hl := VRL.length _ _ h
    have : ¬ zs.toArray.size = 1 := by
      intro h1
      simp only [List.size_toArray] at h1
      rw [hl] at h1
      match vs, h1 with
      | [x], _ => exact hne x rfl
    rw [dif_neg this]
    exact ⟨zs, rfl, h⟩

section
variable {P : Program} {B : Tb} {D : Dyn} (hr : Good P (rOf B D)) {nt : Nat} {rs : List ResultVar} {f0 : FuncId} {ro : Bool}
include hr in
theorem regK_next {ops : Array Oper} {draw : Bool} {K : Env → AH → Rs} {env : Env} {H : AH} {out : Ex × AH} (hK : ∀ e H', K e H' = some out → H'.next ≤ out.2.next) (h : regK B D nt ops draw K env H = some out) : H.next ≤ out.2.next := by
  unfold regK at h
  rw [cond_eq_ite] at h
  split at h
  · split at h
    · rename_i row masks hplan
      obtain ⟨es, envF, HF, env', c1, c2, c3, c4, c5⟩ := opsK_chain _ row [] env H env [] h (Le.refl env) (fun ms hms => by intro a ha; simp at ha)
      exact Nat.le_trans (chain_next hr.mono c1).1 (hK _ _ c4)
    · simp at h
  · obtain ⟨es, envF, HF, env', c1, c2, c3, c4, _⟩ := opsK_chain _ _ [] env H env [] h (Le.refl env) (fun ms hms => by simp at hms)
    exact Nat.le_trans (chain_next hr.mono c1).1 (hK _ _ c4)
theorem unp_any : ∀ {L : List Nat} {vs : List AV} {base : Env} {K : Env → Rs} {out : Ex × AH}, unp L vs base K = some out → ∃ env', K env' = some out
  | [], vs, base, K, out, h => ⟨base, h⟩
  | l :: L, vs, base, K, out, h => by
    simp only [unp] at h
    obtain ⟨v, l', rfl, h1⟩ := hd_some h
    exact unp_any h1
theorem pck_norm {L : List Nat} {env : Env} {H : AH} {y : Ex × AH} (h : (pck L env fun vs => some (.norm vs, H)) = some y) : H.next ≤ y.2.next := by
  obtain ⟨vs, _, h2⟩ := pck_some h
  injection h2 with h2; rw [← h2]; exact Nat.le_refl _
include hr in
theorem codeK_next {n : Nat} : ∀ (c : Code) (h : Hint) (Bk : List (Nat × List Nat)) (K : Env → AH → Rs) (env : Env) (H : AH) (out : Ex × AH), (∀ e H', K e H' = some out → H'.next ≤ out.2.next) → codeK B D n nt rs f0 ro c h Bk K env H = some out → H.next ≤ out.2.next := by
  intro c
  induction c with
  | skip => intro h Bk K env H out hK hk; simp only [codeK] at hk; exact hK _ _ hk
  | label l => intro h Bk K env H out hK hk; simp only [codeK] at hk; exact hK _ _ hk
  | region id ops draw => intro h Bk K env H out hK hk; simp only [codeK] at hk; exact regK_next hr hK hk
  | seq a b iha ihb =>
    intro h Bk K env H out hK hk
    cases h with
    | s ha hb => simp only [codeK] at hk; exact iha ha Bk _ env H out (fun e H' h => ihb hb Bk K e H' out hK h) hk
    | t L m =>
      simp only [codeK] at hk
      obtain ⟨vs, _, hk⟩ := pck_some hk
      obtain ⟨H', _, hle, hk⟩ := tld_some hk
      obtain ⟨env', hk⟩ := unp_any hk
      exact Nat.le_trans hle (hK _ _ hk)
    | _ => simp [codeK] at hk
  | cond c a b iha ihb =>
    intro h Bk K env H out hK hk
    cases h with
    | c L ha hb =>
      simp only [codeK] at hk
      split at hk
      · have key : ∀ y, (codeK B D n nt rs f0 ro a ha Bk (fun env H => pck L env fun vs => some (.norm vs, H)) env H = some y ∨ codeK B D n nt rs f0 ro b hb Bk (fun env H => pck L env fun vs => some (.norm vs, H)) env H = some y) → H.next ≤ y.2.next := by
          rintro y (h1 | h1)
          · exact iha ha Bk _ env H y (fun e H' h => pck_norm h) h1
          · exact ihb hb Bk _ env H y (fun e H' h => pck_norm h) h1
        rcases jn_some hk with ⟨vs, H1, h1, h2⟩ | ⟨id, vs, H1, h1, rfl⟩ | ⟨v, H1, h1, rfl⟩
        · have h3 := key _ (by rcases cnd_some h1 with ⟨_, h⟩ | ⟨_, h⟩; exact .inl h; exact .inr h)
          obtain ⟨env', h4⟩ := unp_any h2
          exact Nat.le_trans h3 (hK _ _ h4)
        · exact key _ (by rcases cnd_some h1 with ⟨_, h⟩ | ⟨_, h⟩; exact .inl h; exact .inr h)
        · exact key _ (by rcases cnd_some h1 with ⟨_, h⟩ | ⟨_, h⟩; exact .inl h; exact .inr h)
      · simp at hk
    | cl ha hb =>
      simp only [codeK] at hk
      split at hk
      · rcases cnd_some hk with ⟨_, h1⟩ | ⟨_, h1⟩
        · exact iha ha Bk _ env H out (fun _ _ h => by simp at h) h1
        · exact ihb hb Bk _ env H out hK h1
      · simp at hk
    | cr ha hb =>
      simp only [codeK] at hk
      split at hk
      · rcases cnd_some hk with ⟨_, h1⟩ | ⟨_, h1⟩
        · exact iha ha Bk _ env H out hK h1
        · exact ihb hb Bk _ env H out (fun _ _ h => by simp at h) h1
      · simp at hk
    | _ => simp [codeK] at hk
  | block id b ih =>
    intro h Bk K env H out hK hk
    cases h with
    | b L hb =>
      simp only [codeK] at hk
      obtain ⟨y, hy, hc⟩ := jb_some hk
      have h1 := ih hb _ _ env H y (fun e H' h => pck_norm h) hy
      rcases hc with ⟨vs, H2, rfl, e2⟩ | ⟨vs, H2, rfl, e2⟩ | ⟨i, vs, H2, _, rfl, rfl⟩ | ⟨v, H2, rfl, rfl⟩
      · obtain ⟨env', h4⟩ := unp_any e2; exact Nat.le_trans h1 (hK _ _ h4)
      · obtain ⟨env', h4⟩ := unp_any e2; exact Nat.le_trans h1 (hK _ _ h4)
      · exact h1
      · exact h1
    | b0 hb => simp only [codeK] at hk; exact ih hb _ _ env H out hK hk
    | _ => simp [codeK] at hk
  | loop b ih =>
    intro h Bk K env H out hK hk
    cases h with
    | l L hb =>
      simp only [codeK] at hk
      obtain ⟨vs0, _, hk⟩ := pck_some hk
      have key : ∀ (m : Nat) (vs : List AV) (H : AH), loopK m (fun vs H => unp L vs env0 fun env => codeK B D n nt rs f0 ro b hb Bk (fun env H => pck L env fun vs => some (.norm vs, H)) env H) vs H = some out → H.next ≤ out.2.next := by
        intro m
        induction m with
        | zero => intro vs H hl; have hl' : (none : Rs) = some out := hl; simp at hl'
        | succ m ihm =>
          intro vs H hl
          have hl' : jn (unp L vs env0 fun env => codeK B D n nt rs f0 ro b hb Bk (fun env H => pck L env fun vs => some (.norm vs, H)) env H) (loopK m (fun vs H => unp L vs env0 fun env => codeK B D n nt rs f0 ro b hb Bk (fun env H => pck L env fun vs => some (.norm vs, H)) env H)) = some out := hl
          rcases jn_some hl' with ⟨vs, H1, h1, h2⟩ | ⟨id, vs, H1, h1, rfl⟩ | ⟨v, H1, h1, rfl⟩
          · obtain ⟨env', h4⟩ := unp_any h1
            exact Nat.le_trans (ih hb Bk _ env' H _ (fun e H' h => pck_norm h) h4) (ihm vs H1 h2)
          · obtain ⟨env', h4⟩ := unp_any h1
            exact ih hb Bk _ env' H _ (fun e H' h => pck_norm h) h4
          · obtain ⟨env', h4⟩ := unp_any h1
            exact ih hb Bk _ env' H _ (fun e H' h => pck_norm h) h4
      exact key n vs0 H hk
    | _ => simp [codeK] at hk
  | exit id =>
    intro h Bk K env H out hK hk
    simp only [codeK] at hk
    split at hk
    · obtain ⟨vs, _, h2⟩ := pck_some hk
      injection h2 with h2; rw [← h2]; exact Nat.le_refl _
    · simp at hk
  | ret =>
    intro h Bk K env H out hK hk
    simp only [codeK] at hk
    obtain ⟨v, e⟩ := retE_form hk
    rw [e]; exact Nat.le_refl _
  | rangeFunc f params assign body _ _ =>
    intro h Bk K env H out hK hk
    cases h with
    | rf s L =>
      simp only [codeK, cond_eq_ite] at hk
      split at hk
      · simp at hk
      · split at hk
        · obtain ⟨vs, _, hk⟩ := pck_some hk
          obtain ⟨t', _, _, hk⟩ := newB_some hk
          obtain ⟨v, H2, hcall, hk⟩ := bR_some hk
          obtain ⟨lp, H3, hA2, _, hput, hk⟩ := endLp_some hk
          have h1 : H.next + 1 ≤ H2.next := by
            unfold rfC at hcall
            split at hcall
            · exact (hr.call _ _ _ _ _ hcall).1
            · simp at hcall
          have h2 := putA_next hput
          have h3 : H3.next ≤ out.2.next := by
            unfold jmpK at hk
            split at hk
            · exact hK _ _ hk
            · obtain ⟨L', vs', _, _, e⟩ := exS_some hk
              rw [e]; exact Nat.le_refl _
            · obtain ⟨v, e⟩ := retE_form hk
              rw [e]; exact Nat.le_refl _
            · simp at hk
          omega
        · simp at hk
    | _ => simp [codeK] at hk
  | scope b _ => intro h Bk K env H out _ hk; simp [codeK] at hk
  | goto l => intro h Bk K env H out _ hk; simp [codeK] at hk
  | refuse why => intro h Bk K env H out _ hk; simp [codeK] at hk
end

section
variable {P : Program} {B : Tb} {D : Dyn} (hX : Ok P B.X) (hr : Good P (rOf B D))
include hX hr in
theorem funK_in {f : FuncId} {fn : Func} (hfn : P.funcs[f]? = some fn) {n : Nat} {hint : Hint} (hsites : ∀ body, fn.body = some body → SitesP P f fn.ntmps body hint) {args : List AV} {H H' : AH} {v : AV} (h : funK B D n f fn hint args H = some (v, H')) : H.next ≤ H'.next ∧ SimIn P f args H v H' := by
  unfold funK at h
  split at h
  · rename_i body hbody
    rw [cond_eq_ite] at h
    split at h
    · rename_i hle
      rw [Nat.ble_eq] at hle
      unfold outR at h
      split at h
      · rename_i v' H1 hc
        simp only [Option.some.injEq, Prod.mk.injEq] at h
        obtain ⟨rfl, rfl⟩ := h
        obtain ⟨hlen, env, hk, hlk⟩ := unpA_some hc
        have hS := codeK_ok hX hr body hint [] _ env H _ (hsites body hbody) hk
        -- what is there to be shown of every world
        have main : ∀ (R : Ren) (az : List Value) (cs : List Frame) (w : World), VRL R args az → Rel R H w → H.next ≤ H1.next ∧
            ∃ R' w' z fr', Steps P (lone (Frame.enter P f ⟨az⟩ .normal) cs w) (lone fr' cs w') ∧ fr'.fn = f ∧ fr'.leaving P w' (.returned z) ∧ VR R' v' z ∧ Rel R' H1 w' ∧ Ext R H w R' H1 w' := by
          intro R az cs w hv hL
          have hlas := VRL.length _ _ hv
          have hE : EnvR R env fn.ntmps (Frame.enter P f ⟨az⟩ .normal).tmps := by
            have htm : (Frame.enter P f ⟨az⟩ .normal).tmps = (⟨az⟩ : Array Value) ++ Array.replicate (fn.ntmps - az.length) undef := by
              simp [Frame.enter, hfn]
            rw [htm]
            refine ⟨by simp; omega, fun t x hx => ?_, fun t ht => ?_⟩
            · rw [hlk t] at hx
              split at hx
              · rename_i htk
                rw [Nat.sub_zero] at hx
                obtain ⟨z, hz1, hz2⟩ := VRL.get _ _ hv t x hx
                have hta : t < az.length := by omega
                rw [Array.getD_eq_getD_getElem?, Array.getElem?_append_left (by simpa using hta)]
                have : (⟨az⟩ : Array Value)[t]? = some z := by simpa using hz1
                rw [this]; exact hz2
              · simp [look, env0] at hx
            · rw [hlk t, if_neg (by omega)]; rfl
          have htd : (Frame.enter P f ⟨az⟩ .normal).todo = .code body :: [] := by simp [Frame.enter, hfn, hbody]
          obtain ⟨R1, w1, t1, td1, ds1, env1, H2, s1, e1, l1, x1, n1, m1, o1⟩ := hS w.heap.size R (Frame.enter P f ⟨az⟩ .normal) [] cs w rfl (fun _ => ⟨rfl, rfl⟩) htd hE hL (Marks.nil _ _ _) (Nat.le_refl _)
          have hfin : ∃ fr' : Frame, Steps P (lone (Frame.enter P f ⟨az⟩ .normal) cs w) (lone fr' cs w1) ∧ fr'.fn = f ∧ fr'.mode = .returning ∧ fr'.defers = ds1 ∧ fr'.kind = .normal ∧ fr'.tmps = t1 ∧ retE B.X fn.results.toList env1 H2 = some (.ret v', H1) := by
            rcases o1 with ⟨rfl, b2⟩ | ⟨id, k', b1, b2, L, vs, b3, _⟩ | ⟨k', rfl, b2⟩
            · exact ⟨_, s1.trans (.one (st_end (fr := { Frame.enter P f ⟨az⟩ .normal with tmps := t1, todo := [], defers := ds1 }) rfl rfl rfl)), rfl, rfl, rfl, rfl, rfl, b2⟩
            · simp [liveOf] at b3
            · exact ⟨_, s1.trans (.one (st_ret (fr := { Frame.enter P f ⟨az⟩ .normal with tmps := t1, todo := .code .ret :: k', defers := ds1 }) rfl rfl rfl)), rfl, rfl, rfl, rfl, rfl, b2⟩
          obtain ⟨fr', hs, f1, f2, f3, f4, f5, hret⟩ := hfin
          obtain ⟨vs, hvs, hg⟩ := retK_some _ _ _ hret
          simp only [Option.some.injEq, Prod.mk.injEq, Ex.ret.injEq] at hg
          obtain ⟨rfl, rfl⟩ := hg
          obtain ⟨w2, u1, u2, u3⟩ := unwind_marks (P := P) (cs := cs) ds1 fr' w1 R1 H2 f2 f3 m1 l1 x1
          obtain ⟨zs, z1, z2⟩ := results_ok hX u2 e1 _ _ hvs
          refine ⟨n1, R1, w2, _, { fr' with defers := [] }, hs.trans u1, f1, ⟨f2, rfl, f4, fn, by rw [f1]; exact hfn, ?_⟩, tupV_ok z2, u2, u3⟩
          simp only [f5, results, Array.mapM_eq_mapM_toList, Sem.run_bind, Sem.run_map]
          erw [z1]
          rfl
        refine ⟨?_, ⟨fn, hfn, by simp [hbody]⟩, fun R az cs w hv hL => (main R az cs w hv hL).2⟩
        exact codeK_next hr body hint [] _ env H _ (fun e H' hh => by obtain ⟨v, e⟩ := retE_form hh; rw [e]; exact Nat.le_refl _) hk
      · simp at h
    · simp at h
  · simp at h
include hX hr in
theorem funK_ok {f : FuncId} {fn : Func} (hfn : P.funcs[f]? = some fn) {n : Nat} {hint : Hint} (hsites : ∀ body, fn.body = some body → SitesP P f fn.ntmps body hint) {args : List AV} {H H' : AH} {v : AV} (h : funK B D n f fn hint args H = some (v, H')) : SimCall P f args H v H' :=
  have k := funK_in hX hr hfn hsites h; ⟨k.1, .inl k.2⟩
end
end Go.Eng
end
section
namespace Go.Eng

theorem unp_env {L : List Nat} {vs : List AV} {base : Env} {K : Env → Rs} {out : Ex × AH} (h : unp L vs base K = some out) : K (envA L vs base) = some out := by
  induction L generalizing vs base with
  | nil => cases vs <;> exact h
  | cons l L ih =>
    simp only [unp] at h
    obtain ⟨v, l', rfl, h1⟩ := hd_some h
    exact ih h1

theorem unpP_ok {nt : Nat} {R : Ren} : ∀ {ps : List Nat} {az : List AV} {env : Env} {K : Env → Rs} {out : Ex × AH} {vs : List Value} {tmps : Array Value}, unpP nt ps az env K = some out → VRL R az vs → EnvR R env nt tmps →
    vs.length = ps.length ∧ ∃ env', K env' = some out ∧ EnvR R env' nt ((ps.zip vs).foldl (fun tmps (x : Nat × Value) => tmps.setIfInBounds x.1 x.2) tmps)
  | [], az, env, K, out, vs, tmps, h, hv, hE => by
    simp only [unpP, nl] at h
    split at h
    · simp only [VRL] at hv; subst hv; exact ⟨rfl, env, h, hE⟩
    · simp at h
  | p :: ps, az, env, K, out, vs, tmps, h, hv, hE => by
    simp only [unpP] at h
    obtain ⟨a, az', rfl, h1⟩ := hd_some h
    obtain ⟨v, vs', rfl, h2, h3⟩ := hv
    rw [cond_eq_ite] at h1
    split at h1
    · rename_i hlt
      have hE1 : EnvR R (upd env p a) nt (tmps.setIfInBounds p v) := hE.put (dst := some p) h2 (by simp only [setD, hlt, cond_true])
      obtain ⟨i1, env', i2, i3⟩ := unpP_ok h1 h3 hE1
      exact ⟨by simp [i1], env', i2, i3⟩
    · simp at h1
theorem unpP_any {nt : Nat} : ∀ {ps : List Nat} {az : List AV} {env : Env} {K : Env → Rs} {out : Ex × AH}, unpP nt ps az env K = some out → ∃ env', K env' = some out
  | [], az, env, K, out, h => by
    simp only [unpP, nl] at h
    split at h
    · exact ⟨env, h⟩
    · simp at h
  | p :: ps, az, env, K, out, h => by
    simp only [unpP] at h
    obtain ⟨a, az', rfl, h1⟩ := hd_some h
    rw [cond_eq_ite] at h1
    split at h1
    · exact unpP_any h1
    · simp at h1

theorem beginK_some {A : Nat} {H : AH} {K : AH → Rs} {out : Ex × AH} (h : beginK A H K = some out) : ∃ l H', H.h.get A = some (.loop l) ∧ l.state = .ready ∧ putA H A (.loop { l with state := .busy }) = some H' ∧ K H' = some out := by
  unfold beginK at h
  split at h
  · rename_i l hA
    split at h
    · rename_i hs
      split at h
      · rename_i H' hp; exact ⟨l, H', hA, hs, hp, h⟩
      · simp at h
    · simp at h
  · simp at h

def stOf : Option Code → LoopState
  | none => .ready
  | some _ => .done
theorem endR_some {A : Nat} {j : Option Code} {H H' : AH} {v : AV} (h : endR A j H = some (v, H')) : ∃ l, H.h.get A = some (.loop l) ∧ putA H A (.loop { l with state := stOf j, pending := j }) = some H' ∧ v = .bool j.isNone := by
  unfold endR at h
  split at h
  · rename_i l hA
    split at h
    · split at h
      · rename_i H1 hp; simp only [Option.some.injEq, Prod.mk.injEq] at h; obtain ⟨rfl, rfl⟩ := h; exact ⟨l, hA, hp, rfl⟩
      · simp at h
    · split at h
      · rename_i H1 hp; simp only [Option.some.injEq, Prod.mk.injEq] at h; obtain ⟨rfl, rfl⟩ := h; exact ⟨l, hA, hp, rfl⟩
      · simp at h
  · simp at h

/-- How a round leaves. -/
def Leaves (td : List Item) : Option Code → Prop
  | none => td = []
  | some (.exit id) => ∃ k, td = .code (.exit id) :: k ∧ exitTo id k = none
  | some .ret => ∃ k, td = .code .ret :: k
  | some _ => False

theorem leave_step {P : Program} {F fr : Frame} {cs : List Frame} {w w' : World} {b : Nat} {j : Option Code} {v : Value} (hm : F.mode = .run) (hk : F.kind = .normal) (hb : F.roundOf = some b) (ht : Leaves F.todo j) (hr : (Instr.endRound b j).run P w = .ok v w') :
    Go.step P (lone F (fr :: cs) w) = .next (lone (fr.finish v) cs w') := by
  refine step_lone_go ?_
  cases j with
  | none =>
    simp only [Leaves] at ht
    simp [stepG, stepG.exec, hm, ht, hb, Sem.runT_eq, hr, doReturn, hk]
  | some c =>
    cases c <;> simp only [Leaves] at ht
    · obtain ⟨k, ht, he⟩ := ht
      simp [stepG, stepG.exec, hm, ht, hb, he, Sem.runT_eq, hr, doReturn, hk]
    · obtain ⟨k, ht⟩ := ht
      simp [stepG, stepG.exec, hm, ht, hb, Sem.runT_eq, hr, doReturn, hk]

section
variable {P : Program} {B : Tb} {D : Dyn} (hX : Ok P B.X) (hr : Good P (rOf B D))

/-- The loop's own block. -/
theorem Rel.loopAt {R : Ren} {H : AH} {w : World} (h : Rel R H w) {A b d c : Nat} {l : ALoop} (hA : H.h.get A = some (.loop l)) (hR : R A b d c) :
    ∃ (L : Loop) (nt : Nat), w.heap[b]? = some (.loop L) ∧ siteC l.fn l.site = some (nt, L.params, L.assign, L.body) ∧ L.state = l.state ∧ L.pending = l.pending ∧ L.fn = l.fn ∧ EnvR R (envL l.live l.vals) nt L.tmps := h.obj A b d c _ hR hA
/-- It turns. -/
theorem Rel.loopPut {R : Ren} {H H' : AH} {w : World} (h : Rel R H w) {A b d c : Nat} {l : ALoop} (hA : H.h.get A = some (.loop l)) (hR : R A b d c) {st : LoopState} {pe : Option Code} (hp : putA H A (.loop { l with state := st, pending := pe }) = some H') {L : Loop} (hb : w.heap[b]? = some (.loop L)) :
    Rel R H' (wput w b (.loop { L with state := st, pending := pe })) ∧ Ext R H w R H' (wput w b (.loop { L with state := st, pending := pe })) := by
  obtain ⟨L', nt, hb', h1, h2, h3, h4, h5⟩ := h.loopAt hA hR
  rw [hb] at hb'; injection hb' with hb'; injection hb' with hb'; subst hb'
  unfold putA at hp
  split at hp
  · rename_i t' ht'
    simp only [Option.some.injEq] at hp; subst hp
    exact ⟨h.put hR ⟨_, hA, trivial⟩ ht' ⟨_, nt, rfl, h1, rfl, rfl, h4, h5⟩, Ext.put hR ht'⟩
  · simp at hp

theorem endQ_some {A : Nat} {x : Rs} {v : AV} {H' : AH} (h : endQ A x = some (v, H')) : ∃ y, x = some y ∧ ((∃ vs, y.1 = .norm vs ∧ endR A none y.2 = some (v, H')) ∨ (∃ id vs, y.1 = .exit id vs ∧ endR A (some (.exit id)) y.2 = some (v, H')) ∨ (∃ u, y.1 = .ret u ∧ endR A (some .ret) y.2 = some (v, H'))) := by
  unfold endQ at h
  split at h
  · exact ⟨_, rfl, .inl ⟨_, rfl, h⟩⟩
  · exact ⟨_, rfl, .inr (.inl ⟨_, _, rfl, h⟩)⟩
  · exact ⟨_, rfl, .inr (.inr ⟨_, rfl, h⟩)⟩
  · simp at h
theorem endR_next {A : Nat} {j : Option Code} {H H' : AH} {v : AV} (h : endR A j H = some (v, H')) : H'.next = H.next := by
  obtain ⟨l, _, hp, _⟩ := endR_some h; exact putA_next hp

include hX hr in
theorem rndK_ok {n : Nat} {f0 : FuncId} {s : Nat} {L ids : List Nat} {ha hb : Hint} (hsites : ∀ nt ps asg body, siteC f0 s = some (nt, ps, asg, body) → SitesP P f0 nt asg ha ∧ SitesP P f0 nt body hb) {A : Nat} {l : ALoop} {az : List AV} {H H' : AH} {v : AV}
    (hA : H.h.get A = some (.loop l)) (hf : l.fn = f0) (hs : l.site = s) (h : rndK B D n f0 s L ids ha hb A l az H = some (v, H')) : SimYld P A az H v H' := by
  unfold rndK at h
  split at h
  · rename_i nt ps asg body hsite
    obtain ⟨hsa, hsb⟩ := hsites _ _ _ _ hsite
    unfold rdK at h
    rw [cond_eq_ite] at h
    split at h
    · rename_i hLL
      obtain rfl := eqNL_eq _ _ hLL
      obtain ⟨y, hy, hcase⟩ := endQ_some h
      have hnxt : H.next ≤ H'.next := by
        have h1 : H.next ≤ y.2.next := by
          have hy1 := unp_env hy
          obtain ⟨env', hy2⟩ := unpP_any hy1
          refine codeK_next hr asg ha [] _ env' H y (fun e H1 hk => ?_) hy2
          obtain ⟨l1, H2, _, _, hp, hk2⟩ := beginK_some hk
          rw [← putA_next hp]
          exact codeK_next hr body hb _ _ e H2 y (fun e H3 hk3 => by injection hk3 with hk3; rw [← hk3]; exact Nat.le_refl _) hk2
        rcases hcase with ⟨vs, _, he⟩ | ⟨id, vs, _, he⟩ | ⟨u, _, he⟩ <;> rw [endR_next he] <;> exact h1
      refine ⟨hnxt, fun R as' fr cs w b d c hRA hargs hL => ?_⟩
      obtain ⟨Lr, nt', hb0, hsite', hst0, hpe0, hfn0, hE0⟩ := hL.loopAt hA hRA
      rw [hf, hs, hsite] at hsite'
      simp only [Option.some.injEq, Prod.mk.injEq] at hsite'
      obtain ⟨rfl, hps, hasg, hbody⟩ := hsite'
      obtain ⟨hlen, env1, hy1, hE1⟩ := unpP_ok (unp_env hy) hargs hE0
      refine ⟨Lr, hb0, by rw [hlen, ← hps]; simp, ?_⟩
      have hfold : ((Lr.params.zip as'.toArray).foldl (fun tmps (t, a) => tmps.setIfInBounds t a) Lr.tmps) = ((ps.toList.zip as').foldl (fun tmps (x : Nat × Value) => tmps.setIfInBounds x.1 x.2) Lr.tmps) := by
        rw [← hps, ← Array.foldl_toList]
        simp only [Array.toList_zip]
      rw [hfold, hfn0, hf, ← hasg, ← hbody]
      have hS1 := codeK_ok hX hr asg ha [] _ env1 H y hsa hy1
      obtain ⟨R1, w1, t1, td1, ds1, env2, H1, s1, e1, l1, x1, n1, m1, o1⟩ := hS1 w.heap.size R (Frame.round b f0 ((ps.toList.zip as').foldl (fun tmps (x : Nat × Value) => tmps.setIfInBounds x.1 x.2) Lr.tmps) asg body .normal) [.beginRound, .code body] (fr :: cs) w rfl (fun h => by simp at h) rfl hE1 hL (Marks.nil _ _ _) (Nat.le_refl _)
      -- how it ends
      have fin : ∀ (R2 : Ren) (w2 : World) (H2 : AH) (F : Frame) (j : Option Code), Steps P (lone (Frame.round b f0 ((ps.toList.zip as').foldl (fun tmps (x : Nat × Value) => tmps.setIfInBounds x.1 x.2) Lr.tmps) asg body .normal) (fr :: cs) w) (lone F (fr :: cs) w2) →
          F.mode = .run → F.kind = .normal → F.roundOf = some b → Leaves F.todo j → Rel R2 H2 w2 → Ext R H w R2 H2 w2 → endR A j H2 = some (v, H') →
          ∃ R' w' z, Steps P (lone (Frame.round b f0 ((ps.toList.zip as').foldl (fun tmps (x : Nat × Value) => tmps.setIfInBounds x.1 x.2) Lr.tmps) asg body .normal) (fr :: cs) w) (lone (fr.finish z) cs w') ∧ VR R' v z ∧ Rel R' H' w' ∧ Ext R H w R' H' w' := by
        intro R2 w2 H2 F j hst hm hk hro hlv hL2 hx2 hend
        obtain ⟨l2, hA2, hp2, rfl⟩ := endR_some hend
        have hRA2 := hx2.sub _ _ _ _ hRA
        obtain ⟨L2, _, hb2, _⟩ := hL2.loopAt hA2 hRA2
        obtain ⟨hL3, hx3⟩ := hL2.loopPut hA2 hRA2 hp2 hb2
        have hrun := run_endRound (P := P) j hb2
        refine ⟨R2, _, _, hst.trans (.one (leave_step hm hk hro hlv hrun)), rfl, ?_, ?_⟩
        · have : (if j.isNone = true then LoopState.ready else LoopState.done) = stOf j := by cases j <;> rfl
          rw [this]; exact hL3
        · have : (if j.isNone = true then LoopState.ready else LoopState.done) = stOf j := by cases j <;> rfl
          rw [this]; exact hx2.trans hx3
      rcases o1 with ⟨rfl, b2⟩ | ⟨id, k', b1, b2, L', vs, b3, _⟩ | ⟨k', rfl, b2⟩
      · obtain ⟨lp, H2, hA1, hrdy, hp, hk2⟩ := beginK_some b2
        have hRA1 := x1.sub _ _ _ _ hRA
        obtain ⟨L1, _, hb1, _, hst1, hpe1, _, _⟩ := l1.loopAt hA1 hRA1
        have hp' : putA H1 A (.loop { lp with state := .busy, pending := lp.pending }) = some H2 := hp
        obtain ⟨l2, x2⟩ := l1.loopPut hA1 hRA1 hp' hb1
        rw [← hpe1] at l2 x2
        have hrun := run_beginRound (P := P) hb1 (by rw [hst1]; exact hrdy)
        have hstep : Go.step P (lone { (Frame.round b f0 ((ps.toList.zip as').foldl (fun tmps (x : Nat × Value) => tmps.setIfInBounds x.1 x.2) Lr.tmps) asg body .normal) with tmps := t1, todo := [.beginRound, .code body], defers := ds1 } (fr :: cs) w1) =
            .next (lone { (Frame.round b f0 ((ps.toList.zip as').foldl (fun tmps (x : Nat × Value) => tmps.setIfInBounds x.1 x.2) Lr.tmps) asg body .normal) with tmps := t1, todo := [.code body], defers := ds1 } (fr :: cs) (wput w1 b (.loop { L1 with state := .busy, pending := L1.pending }))) := by
          refine step_lone_go ?_
          simp [stepG, stepG.exec, stepG.apply, Frame.round, Sem.runT_eq, Sem.run_bind, hrun, Frame.finish, World.putObj, wput]
        have hS2 := codeK_ok hX hr body hb _ _ env2 H2 y hsb hk2
        obtain ⟨R3, w3, t3, td3, ds3, env3, H3, s3, e3, l3, x3, n3, m3, o3⟩ := hS2 w.heap.size R1 { (Frame.round b f0 ((ps.toList.zip as').foldl (fun tmps (x : Nat × Value) => tmps.setIfInBounds x.1 x.2) Lr.tmps) asg body .normal) with tmps := t1, todo := [.code body], defers := ds1 } [] (fr :: cs) _ rfl (fun h => by simp at h) rfl e1 l2 (m1.ext x2) (by rw [wput_size]; exact x1.size)
        have hall := s1.trans ((Steps.one hstep).trans s3)
        have xall := x1.trans (x2.trans x3)
        rcases o3 with ⟨rfl, c2⟩ | ⟨id, k', rfl, c2, L', vs, c3, c4, c5⟩ | ⟨k', rfl, c2⟩
        · injection c2 with c2; subst c2
          rcases hcase with ⟨vs, _, he⟩ | ⟨id, vs, e, _⟩ | ⟨u, e, _⟩
          · exact fin R3 w3 H3 _ none hall rfl rfl rfl rfl l3 xall he
          · simp at e
          · simp at e
        · subst c5
          rcases hcase with ⟨vs, e, _⟩ | ⟨id', vs', e, he⟩ | ⟨u, e, _⟩
          · simp at e
          · simp only [Ex.exit.injEq] at e
            obtain ⟨rfl, rfl⟩ := e
            exact fin R3 w3 H3 _ (some (.exit id)) hall rfl rfl rfl ⟨k', rfl, by rw [c2]; rfl⟩ l3 xall he
          · simp at e
        · obtain ⟨u, e⟩ := retE_form c2
          subst e
          rcases hcase with ⟨vs, e, _⟩ | ⟨id', vs', e, _⟩ | ⟨u, e, he⟩
          · simp at e
          · simp at e
          · exact fin R3 w3 H3 _ (some .ret) hall rfl rfl rfl ⟨k', rfl⟩ l3 xall he
      · simp [liveOf] at b3
      · obtain ⟨u, e⟩ := retE_form b2
        subst e
        rcases hcase with ⟨vs, e, _⟩ | ⟨id', vs', e, _⟩ | ⟨u, e, he⟩
        · simp at e
        · simp at e
        · exact fin R1 w1 H1 _ (some .ret) s1 rfl rfl rfl ⟨k', rfl⟩ l1 x1 he
    · simp at h
  · simp at h
end
end Go.Eng
end
section
namespace Go.Eng

theorem getD_ofList {α : Type} (l : List α) (m : Nat) (x : α) (h : ((T.ofList 0 l .leaf).getD .leaf).get m = some x) : l[m]? = some x := by
  cases hl : T.ofList 0 l .leaf with
  | none => rw [hl] at h; simp [T.get_leaf] at h
  | some t =>
    rw [hl] at h
    simp only [Option.getD_some] at h
    rw [T.get_ofList l 0 .leaf t hl m] at h
    split at h
    · simpa using h
    · simp [T.get_leaf] at h

def named (P : Program) : Bool := P.funcs.toList.all fun g => !(g.name == "runtime.NumGoroutine")
def flatB (P : Program) (fl : List (TypeId × List Nat)) : Bool := fl.all fun x => (flatK P P.depth x.1 == some x.2) && isAggT P x.1 && Nat.ble P.depth 10000

theorem cx_ok {P : Program} {fl : List (TypeId × List Nat)} (h : named P = true) (hf : flatB P fl = true) : Ok P ⟨(T.ofList 0 P.types.toList .leaf).getD .leaf, fl⟩ := by
  refine ⟨fun t i ht => ?_, fun x hx => ?_, fun f g hf => ?_⟩
  · have := getD_ofList _ _ _ ht
    simp only [Array.getElem?_toList] at this
    have hlt : t < P.types.size := (Array.getElem?_eq_some_iff.1 this).1
    unfold Tables.info?
    first
      | (rw [if_pos hlt]; exact this)
      | (simp only [hlt, if_true, this]; done)
      | (rw [this]; done)
      | (rw [this]; rfl)
      | simp_all
  · simp only [flatB, List.all_eq_true, Bool.and_eq_true, beq_iff_eq, Nat.ble_eq] at hf
    obtain ⟨⟨h1, h2⟩, h3⟩ := hf x hx
    exact ⟨h1, h2, h3⟩
  · simp only [named, List.all_eq_true, Bool.not_eq_true'] at h
    exact h g (by
      have := Array.mem_of_getElem? hf
      simpa using this)

/- Where the loops over functions are. -/
def noRF : Hint → Bool
  | .o => true
  | .s a b => noRF a && noRF b
  | .c _ a b => noRF a && noRF b
  | .cl a b => noRF a && noRF b
  | .cr a b => noRF a && noRF b
  | .b _ a => noRF a
  | .b0 a => noRF a
  | .l _ a => noRF a
  | .rf _ _ => false
  | .t _ _ => false
def numRF : Code → Hint → Nat → Bool
  | .seq _ _, .t _ _, _ => false
  | .seq a b, .s ha hb, k => numRF a ha k && numRF b hb (k + (sites a).length)
  | .cond _ a b, .c _ ha hb, k => numRF a ha k && numRF b hb (k + (sites a).length)
  | .cond _ a b, .cl ha hb, k => numRF a ha k && numRF b hb (k + (sites a).length)
  | .cond _ a b, .cr ha hb, k => numRF a ha k && numRF b hb (k + (sites a).length)
  | .block _ b, .b _ hb, k => numRF b hb k
  | .block _ b, .b0 hb, k => numRF b hb k
  | .loop b, .l _ hb, k => numRF b hb k
  | .rangeFunc _ _ _ _, .rf s _, k => Nat.beq s k
  | _, _, _ => true
theorem noRF_ok {P : Program} (f0 : FuncId) (nt : Nat) : ∀ (c : Code) (h : Hint), noRF h = true → SitesP P f0 nt c h := by
  intro c
  induction c with
  | seq a b iha ihb => intro h hh; cases h <;> simp_all [SitesP, noRF]
  | cond c a b iha ihb => intro h hh; cases h <;> simp_all [SitesP, noRF]
  | block id b ih => intro h hh; cases h <;> simp_all [SitesP, noRF]
  | loop b ih => intro h hh; cases h <;> simp_all [SitesP, noRF]
  | rangeFunc f ps a b _ _ => intro h hh; cases h <;> simp_all [SitesP, noRF]
  | _ => intro h hh; simp [SitesP]
theorem numRF_ok {P : Program} (f0 : FuncId) (nt : Nat) (all : List (Array Tmp × Code × Code)) (hall : ∀ (s : Nat) (x : Array Tmp × Code × Code), all[s]? = some x → siteC f0 s = some (nt, x)) :
    ∀ (c : Code) (h : Hint) (k : Nat), numRF c h k = true → (∀ (j : Nat) (x : Array Tmp × Code × Code), (sites c)[j]? = some x → all[k + j]? = some x) → SitesP P f0 nt c h := by
  have two : ∀ (a b : Code) (k : Nat), (∀ (j : Nat) (x : Array Tmp × Code × Code), (sites a ++ sites b)[j]? = some x → all[k + j]? = some x) →
      (∀ (j : Nat) (x : Array Tmp × Code × Code), (sites a)[j]? = some x → all[k + j]? = some x) ∧ (∀ (j : Nat) (x : Array Tmp × Code × Code), (sites b)[j]? = some x → all[k + (sites a).length + j]? = some x) := by
    intro a b k hk
    refine ⟨fun j x hx => hk j x ?_, fun j x hx => ?_⟩
    · rw [List.getElem?_append_left (List.getElem?_eq_some_iff.1 hx).1]; exact hx
    · rw [Nat.add_assoc]; refine hk _ x ?_
      rw [List.getElem?_append_right (by omega), show (sites a).length + j - (sites a).length = j from by omega]; exact hx
  intro c
  induction c with
  | seq a b iha ihb =>
    intro h k hn hk
    obtain ⟨h1, h2⟩ := two a b k hk
    cases h <;> simp only [SitesP] <;> first | (simp only [numRF, Bool.and_eq_true] at hn; exact ⟨iha _ k hn.1 h1, ihb _ _ hn.2 h2⟩) | (simp [numRF] at hn)
  | cond c a b iha ihb =>
    intro h k hn hk
    obtain ⟨h1, h2⟩ := two a b k hk
    cases h <;> simp only [SitesP] <;> (simp only [numRF, Bool.and_eq_true] at hn; exact ⟨iha _ k hn.1 h1, ihb _ _ hn.2 h2⟩)
  | block id b ih =>
    intro h k hn hk
    cases h <;> simp only [SitesP] <;> first | exact ih _ k hn hk | (simp [numRF] at hn)
  | loop b ih =>
    intro h k hn hk
    cases h <;> simp only [SitesP]
    exact ih _ k hn hk
  | rangeFunc f ps a b _ _ =>
    intro h k hn hk
    cases h <;> simp only [SitesP]
    simp only [numRF, Nat.beq_eq] at hn
    subst hn
    exact hall _ _ (hk 0 _ rfl)
  | _ => intro h k hn hk; simp [SitesP]

def sitesB (fn : Func) (h : Hint) : Bool := noRF h || match fn.body with
  | some b => numRF b h 0
  | none => true

noncomputable abbrev PP : Program := Go.Proofs.Try.prog
theorem sitesB_ok {f : FuncId} {fn : Func} (hfn : PP.funcs[f]? = some fn) {h : Hint} (hs : sitesB fn h = true) : ∀ body, fn.body = some body → SitesP PP f fn.ntmps body h := by
  intro body hb
  simp only [sitesB, Bool.or_eq_true] at hs
  rcases hs with hs | hs
  · exact noRF_ok _ _ _ _ hs
  · simp only [hb] at hs
    refine numRF_ok f fn.ntmps (sites body) (fun s x hx => ?_) body h 0 hs (fun j x hx => by rw [Nat.zero_add]; exact hx)
    unfold siteC
    have hfn' : Go.Proofs.Try.prog.funcs[f]? = some fn := hfn
    simp only [hfn', hb, hx]

/-- A function's telling is true. -/
def FS (g : FuncId) (m : List AV → AH → Option (AV × AH)) : Prop := ∀ az H v H', m az H = some (v, H') → SimCall PP g az H v H'
def FI (g : FuncId) (m : List AV → AH → Option (AV × AH)) : Prop := ∀ az H v H', m az H = some (v, H') → H.next ≤ H'.next ∧ SimIn PP g az H v H'
theorem FI.fs {g : FuncId} {m : List AV → AH → Option (AV × AH)} (h : FI g m) : FS g m := fun az H v H' e => ⟨(h az H v H' e).1, .inl (h az H v H' e).2⟩
structure DG (D : Dyn) : Prop where
  fn : ∀ g, FS g (D.fn g)
  yld : ∀ A args H v H', D.yld A args H = some (v, H') → SimYld PP A args H v H'
def SOk : List (Nat × (List AV → AH → Option (AV × AH))) → Prop
  | [] => True
  | (i, m) :: S => FS i m ∧ SOk S
theorem SOk.nil : SOk [] := trivial
theorem SOk.cons {i : Nat} {m : List AV → AH → Option (AV × AH)} {S : List (Nat × (List AV → AH → Option (AV × AH)))} (h : FS i m) (k : SOk S) : SOk ((i, m) :: S) := ⟨h, k⟩
theorem callG_ok {D : Dyn} (hD : DG D) : ∀ {S : List (Nat × (List AV → AH → Option (AV × AH)))}, SOk S → ∀ g, FS g (callG S D g)
  | [], _, g => fun az H v H' h => hD.fn g az H v H' h
  | (i, m) :: S, hS, g => fun az H v H' h => by
    simp only [callG, cond_eq_ite] at h
    split at h
    · rename_i e
      rw [Nat.beq_eq] at e; subst e
      exact hS.1 az H v H' h
    · exact callG_ok hD hS.2 g az H v H' h
theorem good_of {X : Cx} {S : List (Nat × (List AV → AH → Option (AV × AH)))} {D : Dyn} (hD : DG D) (hS : SOk S) : Good PP (rOf ⟨X, S⟩ D) :=
  ⟨fun f args H v H' h => callG_ok hD hS f args H v H' h, fun A args H v H' h => hD.yld A args H v H' h⟩

theorem fun_ok {X : Cx} (hX : Ok PP X) {S : List (Nat × (List AV → AH → Option (AV × AH)))} {D : Dyn} (hD : DG D) (hS : SOk S) {f : FuncId} {fn : Func} (hfn : PP.funcs[f]? = some fn) {n : Nat} {h : Hint} (hs : sitesB fn h = true) {m : List AV → AH → Option (AV × AH)} (he : m = funK ⟨X, S⟩ D n f fn h) : FI f m := by
  subst he
  intro az H v H' e
  exact funK_in hX (good_of hD hS) hfn (sitesB_ok hfn hs) e

theorem fun_okT {X : Cx} (hX : Ok PP X) {S : List (Nat × (List AV → AH → Option (AV × AH)))} {D : Dyn} (hD : DG D) (hS : SOk S) {f : FuncId} {fn : Func} (hfn : PP.funcs[f]? = some fn) {n : Nat} {h : Hint} (hs : ∀ body, fn.body = some body → SitesP PP f fn.ntmps body h) {m : List AV → AH → Option (AV × AH)} (he : m = funK ⟨X, S⟩ D n f fn h) : FI f m := by
  subst he
  intro az H v H' e
  exact funK_in hX (good_of hD hS) hfn hs e

/-- A round's telling is true. -/
def RS (f s : Nat) (m : Nat → ALoop → List AV → AH → Option (AV × AH)) : Prop :=
  ∀ A l az H v H', H.h.get A = some (.loop l) → l.fn = f → l.site = s → m A l az H = some (v, H') → SimYld PP A az H v H'
theorem round_ok {X : Cx} (hX : Ok PP X) {S : List (Nat × (List AV → AH → Option (AV × AH)))} {D : Dyn} (hD : DG D) (hS : SOk S) {f s : Nat} {n : Nat} {L ids : List Nat} {ha hb : Hint} (hs : (noRF ha && noRF hb) = true) {m : Nat → ALoop → List AV → AH → Option (AV × AH)} (he : m = rndK ⟨X, S⟩ D n f s L ids ha hb) : RS f s m := by
  subst he
  intro A l az H v H' hA hf hsi e
  rw [Bool.and_eq_true] at hs
  exact rndK_ok hX (good_of hD hS) (fun nt ps asg body _ => ⟨noRF_ok _ _ _ _ hs.1, noRF_ok _ _ _ _ hs.2⟩) hA hf hsi e
def ROk : List ((Nat × Nat) × (Nat → ALoop → List AV → AH → Option (AV × AH))) → Prop
  | [] => True
  | ((f, s), m) :: t => RS f s m ∧ ROk t
theorem ROk.nil : ROk [] := trivial
theorem ROk.cons {f s : Nat} {m : Nat → ALoop → List AV → AH → Option (AV × AH)} {t : List ((Nat × Nat) × (Nat → ALoop → List AV → AH → Option (AV × AH)))} (h : RS f s m) (k : ROk t) : ROk (((f, s), m) :: t) := ⟨h, k⟩
theorem rdOfT_ok {t : List ((Nat × Nat) × (Nat → ALoop → List AV → AH → Option (AV × AH)))} (ht : ROk t) {A : Nat} {az : List AV} {H H' : AH} {v : AV} (h : rdOfT t A az H = some (v, H')) : SimYld PP A az H v H' := by
  unfold rdOfT at h
  split at h
  · rename_i l hA
    induction t with
    | nil => simp [rdOfT.go] at h
    | cons x t ih =>
      obtain ⟨⟨f, s⟩, m⟩ := x
      simp only [rdOfT.go, cond_eq_ite] at h
      split at h
      · rename_i e
        simp only [Bool.and_eq_true, Nat.beq_eq] at e
        exact ht.1 A l az H v H' hA e.1.symm e.2.symm h
      · exact ih ht.2 h
  · simp at h

def dNone : Dyn := ⟨fun _ _ _ => none, fun _ _ _ => none⟩
theorem dNone_ok : DG dNone := ⟨fun _ _ _ _ _ h => by simp [dNone] at h, fun _ _ _ _ _ h => by simp [dNone] at h⟩
/-- Functions that are called by name or by value, to some depth. -/
noncomputable def dyOf (tab : Dyn → Nat → List (Nat × (List AV → AH → Option (AV × AH)))) (tabR : Dyn → Nat → List ((Nat × Nat) × (Nat → ALoop → List AV → AH → Option (AV × AH)))) (n : Nat) : Dyn :=
  Nat.rec dNone (fun m D => ⟨fun g vs H => callG (tab D m) dNone g vs H, rdOfT (tabR D m)⟩) n
theorem dyOf_ok {tab : Dyn → Nat → List (Nat × (List AV → AH → Option (AV × AH)))} {tabR : Dyn → Nat → List ((Nat × Nat) × (Nat → ALoop → List AV → AH → Option (AV × AH)))} (h1 : ∀ D n, DG D → SOk (tab D n)) (h2 : ∀ D n, DG D → ROk (tabR D n)) : ∀ n, DG (dyOf tab tabR n)
  | 0 => dNone_ok
  | n + 1 => by
    have ih := dyOf_ok h1 h2 n
    exact ⟨fun g az H v H' e => callG_ok dNone_ok (h1 _ n ih) g az H v H' e, fun A args H v H' e => rdOfT_ok (h2 _ n ih) e⟩

/-- Does the reckoning come to 'true'? -/
def saysT (x : Option (AV × AH)) : Bool := match x with
  | some (.bool true, _) => true
  | _ => false
theorem calls_of {f : FuncId} {m : List AV → AH → Option (AV × AH)} (hm : FI f m) (h : saysT (m [] ⟨.leaf, 0⟩) = true) (w : World) : Calls PP f #[] w fun e w' => e = .returned (.bool true) ∧ RowKit.Below w.heap.size w w' := by
  unfold saysT at h
  split at h
  · rename_i H' hc
    intro cs
    obtain ⟨_, _, hc⟩ := hm _ _ _ _ hc
    obtain ⟨R', w', z, fr', h1, h2, h3, h4, h5, h6⟩ := hc (fun _ _ _ _ => False) [] cs w rfl (Rel.empty w)
    simp only [VR] at h4; subst h4
    refine ⟨.returned (.bool true), w', fr', ⟨rfl, ?_⟩, h1, h2, h3⟩
    exact ⟨h6.os, h6.tape, h6.output, h6.size, fun k hk => h6.keep k hk (fun _ _ _ h => h)⟩
  · simp at h
end Go.Eng
end
section
namespace Go.Eng

theorem run_range_map {P : Program} {w : World} {t kt vt : TypeId} {m : Nat} {arr : Array MapEntry} {clock : Nat} (ht : (underlying t).run P w = .ok (.map kt vt) w) (hm : w.heap[m]? = some (.map arr clock)) :
    (Instr.range t (.map (some m))).run P w = .ok (.pointer (some ⟨w.heap.size, 0, none⟩)) (w.alloc (.mapIter (some m) clock #[] clock)) := by
  simp [Instr.range, Sem.run_bind, ht, getObj, Sem.run, hm, newObj, Result.andThen]
end Go.Eng
end
section
namespace Go.Eng

/-- A loop over a map, as it stands in a text. -/
structure ML where
  rA : Nat
  rB : Nat
  rC : Nat
  pre : List Oper
  oR : Oper
  oN : Oper
  oX : Oper
  oE : Oper
  rest : List Oper
  id : Nat
  id2 : Nat
  body : Code
  t : TypeId
  x : Operand
  it : Nat
  nx : Nat
  ok : Nat
  en : Nat
def ML.opsA (q : ML) : Array Oper := ⟨q.pre ++ [q.oR]⟩
def ML.opsB (q : ML) : Array Oper := ⟨[q.oN, q.oX]⟩
def ML.opsC (q : ML) : Array Oper := ⟨q.oE :: q.rest⟩
def ML.round (q : ML) : Code := .seq (.region q.rB q.opsB false) (.seq (.cond (.tmp q.ok) .skip (.exit q.id)) (.block q.id2 (.seq (.region q.rC q.opsC false) q.body)))
def ML.code (q : ML) : Code := .seq (.region q.rA q.opsA false) (.block q.id (.loop q.round))
structure ML.Fits (q : ML) (nt : Nat) : Prop where
  gR : q.oR.guard = none
  pR : q.oR.op = .range q.t q.x
  dR : q.oR.dst = some q.it
  gN : q.oN.guard = none
  pN : q.oN.op = .next (.tmp q.it) false
  dN : q.oN.dst = some q.nx
  gX : q.oX.guard = none
  pX : q.oX.op = .extract (.tmp q.nx) 0
  dX : q.oX.dst = some q.ok
  gE : q.oE.guard = none
  pE : q.oE.op = .entry (.tmp q.it)
  dE : q.oE.dst = some q.en
  it : q.it < nt
  nx : q.nx < nt
  ok : q.ok < nt
  en : q.en < nt
  itnx : q.it ≠ q.nx
  itok : q.it ≠ q.ok
  iten : q.it ≠ q.en
  nxok : q.nx ≠ q.ok

/-- A round's reckoning, behind 'entry'. -/
noncomputable def ML.roundK (q : ML) (B : Tb) (D : Dyn) (n nt : Nat) (hb : Hint) (L : List Nat) (I : Nat) (vs : List AV) (k v : AV) (H : AH) : Rs :=
  unp (q.it :: L) (.ptr I 0 :: vs) env0 fun e =>
    opsK B D nt q.opsC none (Nat.succ q.rest.length) (fun env H => codeK B D n nt [] 0 true q.body hb [] (fun env H => pck (q.it :: L) env fun vs => some (.norm vs, H)) env H) (idx q.rest 1) [] (upd e q.en (.tuple [k, v])) H

/-- Blocks that are told otherwise, though the world stays. -/
theorem Rel.told {R : Ren} {H : AH} {w : World} (h : Rel R H w) {A b d c : Nat} {o o' : AObj} {t' : T AObj} (hR : R A b d c) (hA : H.h.get A = some o) (hl : Live H A) (hs : T.set 40 H.h A o' = some t') (ho : ORel R o' d c w.heap[b]?) : Rel R ⟨t', H.next⟩ w := by
  have hg := T.get_set _ _ _ _ _ hs
  have hlv : ∀ A', Live ⟨t', H.next⟩ A' → Live H A' := fun A' ⟨p, hp, hd⟩ => by
    simp only [hg] at hp
    by_cases e : A' = A
    · subst e; exact hl
    · rw [if_neg e] at hp; exact ⟨p, hp, hd⟩
  refine ⟨h.fn, fun A1 A2 b d c d' c' r r' l l' => h.inj _ _ _ _ _ _ _ r r' (hlv _ l) (hlv _ l'), fun A1 b1 d1 c1 p r hp => ?_, h.lt⟩
  simp only [hg] at hp
  by_cases e : A1 = A
  · subst e
    rw [if_pos rfl] at hp; injection hp with hp; subst hp
    obtain ⟨rfl, rfl, rfl⟩ := h.fn _ _ _ _ _ _ _ r hR
    exact ho
  · rw [if_neg e] at hp; exact h.obj _ _ _ _ _ r hp

section
variable {P : Program} {fr : Frame} {k : List Item} {cs : List Frame} {w : World}
theorem st_next_map {ops : Array Oper} {i : Nat} {rest : List Nat} {o : Oper} {it d : Nat} {v : Value} {w' : World} (hm : fr.mode = .run) (ht : fr.todo = .inRegion ops (i :: rest) :: k) (ho : ops[i]? = some o)
    (hg : o.guard = none) (hop : o.op = .next (.tmp it) false) (hd : o.dst = some d) (hr : (Instr.next (fr.tmps.getD it undef) false o.type).run P w = .ok v w') :
    step P (lone fr cs w) = .next (lone { fr with tmps := fr.tmps.setIfInBounds d v, todo := .inRegion ops rest :: k } cs w') := by
  have h1 : (execOp fr.eval o).run P w = .ok (.value v) w' := by
    have he : fr.eval (.tmp it) = fr.tmps.getD it undef := rfl
    simp only [execOp, hop, he, Sem.run_bind, hr, Result.andThen_ok]
    rfl
  have h2 := st_value (cs := cs) hm ht ho (by simp [Region.wanted, hg]) (by intro c; rw [hop]; simp) h1
  rw [h2, finish_region ht ho, hd]; rfl
theorem st_entry_map {ops : Array Oper} {i : Nat} {rest : List Nat} {o : Oper} {it d : Nat} {v : Value} {w' : World} (hm : fr.mode = .run) (ht : fr.todo = .inRegion ops (i :: rest) :: k) (ho : ops[i]? = some o)
    (hg : o.guard = none) (hop : o.op = .entry (.tmp it)) (hd : o.dst = some d) (hr : (Instr.entry (fr.tmps.getD it undef)).run P w = .ok v w') :
    step P (lone fr cs w) = .next (lone { fr with tmps := fr.tmps.setIfInBounds d v, todo := .inRegion ops rest :: k } cs w') := by
  have h1 : (execOp fr.eval o).run P w = .ok (.value v) w' := by
    have he : fr.eval (.tmp it) = fr.tmps.getD it undef := rfl
    simp only [execOp, hop, he, Sem.run_bind, hr, Result.andThen_ok]
    rfl
  have h2 := st_value (cs := cs) hm ht ho (by simp [Region.wanted, hg]) (by intro c; rw [hop]; simp) h1
  rw [h2, finish_region ht ho, hd]; rfl
theorem st_range_map {ops : Array Oper} {i : Nat} {rest : List Nat} {o : Oper} {t : TypeId} {x : Operand} {d : Nat} {v : Value} {w' : World} (hm : fr.mode = .run) (ht : fr.todo = .inRegion ops (i :: rest) :: k) (ho : ops[i]? = some o)
    (hg : o.guard = none) (hop : o.op = .range t x) (hd : o.dst = some d) (hr : (Instr.range t (fr.eval x)).run P w = .ok v w') :
    step P (lone fr cs w) = .next (lone { fr with tmps := fr.tmps.setIfInBounds d v, todo := .inRegion ops rest :: k } cs w') := by
  have h1 : (execOp fr.eval o).run P w = .ok (.value v) w' := by
    simp [execOp, hop, Sem.run_bind, hr, Result.andThen]
  have h2 := st_value (cs := cs) hm ht ho (by simp [Region.wanted, hg]) (by intro c; rw [hop]; simp) h1
  rw [h2, finish_region ht ho, hd]; rfl
theorem st_extract {ops : Array Oper} {i : Nat} {rest : List Nat} {o : Oper} {nx d j : Nat} {v : Value} {a : Array Value} (hm : fr.mode = .run) (ht : fr.todo = .inRegion ops (i :: rest) :: k) (ho : ops[i]? = some o)
    (hg : o.guard = none) (hop : o.op = .extract (.tmp nx) j) (hd : o.dst = some d) (hr : fr.tmps.getD nx undef = .tuple a) (ha : a[j]? = some v) :
    step P (lone fr cs w) = .next (lone { fr with tmps := fr.tmps.setIfInBounds d v, todo := .inRegion ops rest :: k } cs w) := by
  have h1 : (execOp fr.eval o).run P w = .ok (.value v) w := by
    have he : fr.eval (.tmp nx) = .tuple a := hr
    simp [execOp, hop, he, ha, Instr.extract, Sem.run_bind, Result.andThen]
  have h2 := st_value (cs := cs) hm ht ho (by simp [Region.wanted, hg]) (by intro c; rw [hop]; simp) h1
  rw [h2, finish_region ht ho, hd]; rfl
end

theorem EnvR.slot {R : Ren} {env : Env} {n : Nat} {tmps : Array Value} (h : EnvR R env n tmps) {d : Nat} (hd : d < n) (z : Value) : EnvR R (fun t => bif Nat.beq t d then none else env t) n (tmps.setIfInBounds d z) := by
  refine ⟨by rw [Array.size_setIfInBounds]; exact h.size, fun t x hx => ?_, fun t ht => ?_⟩
  · simp only [look, cond_eq_ite, Nat.beq_eq] at hx
    split at hx
    · simp at hx
    · rename_i hne
      have := h.get t x hx
      rw [Array.getD_eq_getD_getElem?, Array.getElem?_setIfInBounds_ne (fun e => hne e.symm), ← Array.getD_eq_getD_getElem?]; exact this
  · simp only [look, cond_eq_ite]
    split
    · rfl
    · exact h.out t ht

/-- The loop's state ahead of a round: the iterator lies in the block r of the model's, the map in m. -/
structure AtHead (q : ML) (nt : Nat) (L : List Nat) (I M r m : Nat) (vs : List AV) (arr : Array MapEntry) (clock : Nat) (seen : Array Nat) (R : Ren) (H : AH) (tmps : Array Value) (w : World) : Prop where
  rel : Rel R H w
  env : ∃ e, PK e (q.it :: L) (.ptr I 0 :: vs) ∧ EnvR R e nt tmps
  ri : R I r 0 0
  rm : ∃ d c, R M m d c
  gi : H.h.get I = some (.raw (.mapIter (some m) clock seen clock))
  gm : H.h.get M = some (.raw (.map arr clock))
  bo : Born arr.toList clock

theorem PK_drop {e : Env} {d : Nat} : ∀ {L : List Nat} {vs : List AV}, PK e L vs → (∀ l ∈ L, l ≠ d) → PK (fun t => bif Nat.beq t d then none else e t) L vs
  | [], vs, h, _ => h
  | l :: L, vs, ⟨v, vs', h1, h2, h3⟩, hd => by
    refine ⟨v, vs', h1, ?_, PK_drop h3 (fun x hx => hd x (List.mem_cons_of_mem _ hx))⟩
    have := hd l (List.mem_cons_self ..)
    simp only [look, cond_eq_ite, Nat.beq_eq, if_neg this]; exact h2

theorem getD_set_same (t : Array Value) (d : Nat) (z : Value) (h : d < t.size) : (t.setIfInBounds d z).getD d undef = z := by
  rw [Array.getD_eq_getD_getElem?, Array.getElem?_setIfInBounds_self_of_lt h]; rfl
theorem getD_set_ne (t : Array Value) (d j : Nat) (z : Value) (h : d ≠ j) : (t.setIfInBounds d z).getD j undef = t.getD j undef := by
  rw [Array.getD_eq_getD_getElem?, Array.getElem?_setIfInBounds_ne h, ← Array.getD_eq_getD_getElem?]

theorem head_step {P : Program} {q : ML} {nt : Nat} (hq : q.Fits nt) {L : List Nat} (hLd : ∀ l ∈ q.it :: L, l ≠ q.nx ∧ l ≠ q.ok ∧ l ≠ q.en) {I M r m : Nat} {vs : List AV} {arr : Array MapEntry} {clock : Nat} {seen : Array Nat} {R : Ren} {H : AH} {fr : Frame} {w : World} {k : List Item} {cs : List Frame}
    (h : AtHead q nt L I M r m vs arr clock seen R H fr.tmps w) (hm : fr.mode = .run) (ht : fr.todo = .code q.round :: .inLoop q.round :: .inBlock q.id :: k) :
    ((∀ e ∈ arr.toList, e.born ∈ seen.toList) ∧ ∃ tmps', Steps P (lone fr cs w) (lone { fr with tmps := tmps', todo := k } cs w) ∧ ∃ e, PK e (q.it :: L) (.ptr I 0 :: vs) ∧ EnvR R e nt tmps') ∨
    (∃ e ∈ arr.toList, e.born ∉ seen.toList ∧ ∃ tmps' d', Steps P (lone fr cs w) (lone { fr with tmps := tmps', todo := .inRegion q.opsC ((List.range q.rest.length).map Nat.succ) :: .code q.body :: .inBlock q.id2 :: .inLoop q.round :: .inBlock q.id :: k } cs (wput { w with drawn := d' } r (.mapIter (some m) clock (seen.push e.born) clock))) ∧
      (∃ en, PK en (q.it :: L) (.ptr I 0 :: vs) ∧ EnvR R en nt tmps') ∧ tmps'.getD q.en undef = .tuple #[e.key, e.val]) := by
  obtain ⟨e0, hp, hE⟩ := h.env
  obtain ⟨v0, vs0, hv0, hlk, hp'⟩ := id hp
  obtain ⟨rfl, rfl⟩ : v0 = .ptr I 0 ∧ vs0 = vs := by injection hv0 with a b; exact ⟨a.symm, b.symm⟩
  obtain ⟨b, d, c, hR, hz⟩ := hE.get _ _ hlk
  obtain ⟨rfl, rfl, rfl⟩ := h.rel.fn _ _ _ _ _ _ _ hR h.ri
  have hz' : fr.tmps.getD q.it undef = .pointer (some ⟨b, 0, none⟩) := by rw [hz]
  have hri : w.heap[b]? = some (.mapIter (some m) clock seen clock) := h.rel.obj _ _ _ _ _ h.ri h.gi
  obtain ⟨dm, cm, hRm⟩ := h.rm
  have hrm : w.heap[m]? = some (.map arr clock) := h.rel.obj _ _ _ _ _ hRm h.gm
  have hblt : b < w.heap.size := (h.rel.lt _ _ _ _ h.ri).1
  have hmb : m ≠ b := fun e => by rw [e] at hrm; rw [hri] at hrm; simp at hrm
  have hsz := hE.size
  have s0 : Steps P (lone fr cs w) (lone { fr with todo := .inRegion q.opsB [0, 1] :: .code (.seq (.cond (.tmp q.ok) .skip (.exit q.id)) (.block q.id2 (.seq (.region q.rC q.opsC false) q.body))) :: .inLoop q.round :: .inBlock q.id :: k } cs w) :=
    (Steps.one (st_seq hm ht)).trans (.one (st_region (fr := { fr with todo := .code (.region q.rB q.opsB false) :: .code (.seq (.cond (.tmp q.ok) .skip (.exit q.id)) (.block q.id2 (.seq (.region q.rC q.opsC false) q.body))) :: .inLoop q.round :: .inBlock q.id :: k }) hm rfl))
  rcases run_next_at (P := P) w q.oN.type b m clock clock seen arr clock hri hrm h.bo.2 (Nat.le_refl _) with ⟨hl0, hrun⟩ | ⟨e, he, w1, hw1, hrun⟩
  · left
    refine ⟨fun e he => ?_, ?_⟩
    · apply Classical.byContradiction
      intro hne
      have : e ∈ (leftOf arr seen).toList := by
        simp only [leftOf, Array.toList_filter, List.mem_filter]
        refine ⟨he, ?_⟩
        simpa using hne
      have h2 : 0 < (leftOf arr seen).size := by
        have := List.length_pos_of_mem this
        simpa using this
      omega
    · have s1 := st_next_map (P := P) (cs := cs) (fr := { fr with todo := .inRegion q.opsB [0, 1] :: .code (.seq (.cond (.tmp q.ok) .skip (.exit q.id)) (.block q.id2 (.seq (.region q.rC q.opsC false) q.body))) :: .inLoop q.round :: .inBlock q.id :: k }) (w := w) hm rfl (o := q.oN) rfl hq.gN hq.pN hq.dN (by rw [hz']; exact hrun)
      have s2 := st_extract (P := P) (cs := cs) (w := w) (fr := { fr with tmps := fr.tmps.setIfInBounds q.nx (.tuple #[.bool false]), todo := .inRegion q.opsB [1] :: .code (.seq (.cond (.tmp q.ok) .skip (.exit q.id)) (.block q.id2 (.seq (.region q.rC q.opsC false) q.body))) :: .inLoop q.round :: .inBlock q.id :: k }) hm rfl (o := q.oX) rfl hq.gX hq.pX hq.dX (getD_set_same _ _ _ (by have := hq.nx; omega)) (v := .bool false) rfl
      have s3 := st_region_end (P := P) (cs := cs) (w := w) (fr := { fr with tmps := (fr.tmps.setIfInBounds q.nx (.tuple #[.bool false])).setIfInBounds q.ok (.bool false), todo := .inRegion q.opsB [] :: .code (.seq (.cond (.tmp q.ok) .skip (.exit q.id)) (.block q.id2 (.seq (.region q.rC q.opsC false) q.body))) :: .inLoop q.round :: .inBlock q.id :: k }) hm rfl
      have s4 := st_seq (P := P) (cs := cs) (w := w) (fr := { fr with tmps := (fr.tmps.setIfInBounds q.nx (.tuple #[.bool false])).setIfInBounds q.ok (.bool false), todo := .code (.seq (.cond (.tmp q.ok) .skip (.exit q.id)) (.block q.id2 (.seq (.region q.rC q.opsC false) q.body))) :: .inLoop q.round :: .inBlock q.id :: k }) hm rfl
      have s5 := st_cond (P := P) (cs := cs) (w := w) (fr := { fr with tmps := (fr.tmps.setIfInBounds q.nx (.tuple #[.bool false])).setIfInBounds q.ok (.bool false), todo := .code (.cond (.tmp q.ok) .skip (.exit q.id)) :: .code (.block q.id2 (.seq (.region q.rC q.opsC false) q.body)) :: .inLoop q.round :: .inBlock q.id :: k }) (t := false) hm rfl (getD_set_same _ _ _ (by have := hq.ok; rw [Array.size_setIfInBounds]; omega))
      have s6 := st_exit (P := P) (cs := cs) (w := w) (fr := { fr with tmps := (fr.tmps.setIfInBounds q.nx (.tuple #[.bool false])).setIfInBounds q.ok (.bool false), todo := .code (.exit q.id) :: .code (.block q.id2 (.seq (.region q.rC q.opsC false) q.body)) :: .inLoop q.round :: .inBlock q.id :: k }) (k' := k) hm rfl (by simp [exitTo])
      refine ⟨_, s0.trans ((Steps.one s1).trans ((Steps.one s2).trans ((Steps.one s3).trans ((Steps.one s4).trans ((Steps.one s5).trans (.one s6)))))), _, PK_drop (PK_drop hp (fun l hl => (hLd l hl).1)) (fun l hl => (hLd l hl).2.1), (hE.slot hq.nx _).slot hq.ok _⟩
  · right
    obtain ⟨d', rfl⟩ : ∃ d', w1 = { w with drawn := d' } := by
      rcases hw1 with rfl | rfl
      · exact ⟨w1.drawn, rfl⟩
      · exact ⟨w.drawn + 1, rfl⟩
    have he' : e ∈ arr.toList ∧ e.born ∉ seen.toList := by
      simp only [leftOf, Array.toList_filter, List.mem_filter] at he
      exact ⟨he.1, by simpa using he.2⟩
    refine ⟨e, he'.1, he'.2, ?_⟩
    have hrun' : (Instr.next (.pointer (some ⟨b, 0, none⟩)) false q.oN.type).run P w = .ok (.tuple #[.bool true, e.key, e.val]) (wput { w with drawn := d' } b (.mapIter (some m) clock (seen.push e.born) clock)) := hrun
    generalize hw2 : wput { w with drawn := d' } b (.mapIter (some m) clock (seen.push e.born) clock) = w2 at hrun'
    have hi2 : w2.heap[b]? = some (.mapIter (some m) clock (seen.push e.born) clock) := by rw [← hw2]; exact wput_same _ _ _ hblt
    have hm2 : w2.heap[m]? = some (.map arr clock) := by rw [← hw2, wput_other _ _ _ _ hmb]; exact hrm
    have s1 := st_next_map (P := P) (cs := cs) (fr := { fr with todo := .inRegion q.opsB [0, 1] :: .code (.seq (.cond (.tmp q.ok) .skip (.exit q.id)) (.block q.id2 (.seq (.region q.rC q.opsC false) q.body))) :: .inLoop q.round :: .inBlock q.id :: k }) (w := w) hm rfl (o := q.oN) rfl hq.gN hq.pN hq.dN (by rw [hz']; exact hrun')
    have s2 := st_extract (P := P) (cs := cs) (w := w2) (fr := { fr with tmps := fr.tmps.setIfInBounds q.nx (.tuple #[.bool true, e.key, e.val]), todo := .inRegion q.opsB [1] :: .code (.seq (.cond (.tmp q.ok) .skip (.exit q.id)) (.block q.id2 (.seq (.region q.rC q.opsC false) q.body))) :: .inLoop q.round :: .inBlock q.id :: k }) hm rfl (o := q.oX) rfl hq.gX hq.pX hq.dX (getD_set_same _ _ _ (by have := hq.nx; omega)) (v := .bool true) rfl
    generalize ht2 : (fr.tmps.setIfInBounds q.nx (.tuple #[.bool true, e.key, e.val])).setIfInBounds q.ok (.bool true) = t2 at s2
    have hE2 : EnvR R (fun t => bif Nat.beq t q.ok then none else (fun t => bif Nat.beq t q.nx then none else e0 t) t) nt t2 := by rw [← ht2]; exact (hE.slot hq.nx _).slot hq.ok _
    have hok2 : t2.getD q.ok undef = .bool true := by rw [← ht2]; exact getD_set_same _ _ _ (by have := hq.ok; rw [Array.size_setIfInBounds]; omega)
    have hit2 : t2.getD q.it undef = .pointer (some ⟨b, 0, none⟩) := by rw [← ht2, getD_set_ne _ _ _ _ (fun x => hq.itok x.symm), getD_set_ne _ _ _ _ (fun x => hq.itnx x.symm)]; exact hz'
    have s3 := st_region_end (P := P) (cs := cs) (w := w2) (fr := { fr with tmps := t2, todo := .inRegion q.opsB [] :: .code (.seq (.cond (.tmp q.ok) .skip (.exit q.id)) (.block q.id2 (.seq (.region q.rC q.opsC false) q.body))) :: .inLoop q.round :: .inBlock q.id :: k }) hm rfl
    have s4 := st_seq (P := P) (cs := cs) (w := w2) (fr := { fr with tmps := t2, todo := .code (.seq (.cond (.tmp q.ok) .skip (.exit q.id)) (.block q.id2 (.seq (.region q.rC q.opsC false) q.body))) :: .inLoop q.round :: .inBlock q.id :: k }) hm rfl
    have s5 := st_cond (P := P) (cs := cs) (w := w2) (fr := { fr with tmps := t2, todo := .code (.cond (.tmp q.ok) .skip (.exit q.id)) :: .code (.block q.id2 (.seq (.region q.rC q.opsC false) q.body)) :: .inLoop q.round :: .inBlock q.id :: k }) (t := true) hm rfl hok2
    have s6 := st_skip (P := P) (cs := cs) (w := w2) (fr := { fr with tmps := t2, todo := .code .skip :: .code (.block q.id2 (.seq (.region q.rC q.opsC false) q.body)) :: .inLoop q.round :: .inBlock q.id :: k }) hm rfl
    have s7 := st_block (P := P) (cs := cs) (w := w2) (fr := { fr with tmps := t2, todo := .code (.block q.id2 (.seq (.region q.rC q.opsC false) q.body)) :: .inLoop q.round :: .inBlock q.id :: k }) hm rfl
    have s8 := st_seq (P := P) (cs := cs) (w := w2) (fr := { fr with tmps := t2, todo := .code (.seq (.region q.rC q.opsC false) q.body) :: .inBlock q.id2 :: .inLoop q.round :: .inBlock q.id :: k }) hm rfl
    have s9 := st_region (P := P) (cs := cs) (w := w2) (fr := { fr with tmps := t2, todo := .code (.region q.rC q.opsC false) :: .code q.body :: .inBlock q.id2 :: .inLoop q.round :: .inBlock q.id :: k }) hm rfl
    have hrg : List.range q.opsC.size = 0 :: (List.range q.rest.length).map Nat.succ := by
      rw [← List.range_succ_eq_map]; rfl
    rw [hrg] at s9
    have s10 := st_entry_map (P := P) (cs := cs) (w := w2) (fr := { fr with tmps := t2, todo := .inRegion q.opsC (0 :: (List.range q.rest.length).map Nat.succ) :: .code q.body :: .inBlock q.id2 :: .inLoop q.round :: .inBlock q.id :: k }) hm rfl (o := q.oE) rfl hq.gE hq.pE hq.dE (by
      rw [hit2]; exact run_entry_at w2 b m clock seen arr clock e hi2 hm2 he'.1 h.bo.1)
    refine ⟨_, d', ?_, ⟨_, PK_drop (PK_drop (PK_drop hp (fun l hl => (hLd l hl).1)) (fun l hl => (hLd l hl).2.1)) (fun l hl => (hLd l hl).2.2), hE2.slot hq.en _⟩, getD_set_same _ _ _ (by have := hq.en; rw [hE2.size]; exact this)⟩
    rw [hw2]
    exact s0.trans ((Steps.one s1).trans ((Steps.one s2).trans ((Steps.one s3).trans ((Steps.one s4).trans ((Steps.one s5).trans ((Steps.one s6).trans ((Steps.one s7).trans ((Steps.one s8).trans ((Steps.one s9).trans (.one s10))))))))))
end Go.Eng
end
section
namespace Go.Eng

theorem EnvR.know {R : Ren} {env : Env} {n : Nat} {tmps : Array Value} (h : EnvR R env n tmps) {d : Nat} (hd : d < n) {x : AV} (hx : VR R x (tmps.getD d undef)) : EnvR R (upd env d x) n tmps := by
  refine ⟨h.size, fun t y hy => ?_, fun t ht => ?_⟩
  · simp only [look, upd_at] at hy
    split at hy
    · rename_i e; subst e; injection hy with hy; subst hy; exact hx
    · exact h.get t y hy
  · simp only [look, upd_at]
    rw [if_neg (by omega)]; exact h.out t ht
section
variable {P : Program} {B : Tb} {D : Dyn} (hX : Ok P B.X) (hr : Good P (rOf B D))
include hX hr in
theorem round_step {q : ML} {nt : Nat} (hq : q.Fits nt) {L : List Nat} {hb : Hint} (hsb : SitesP P 0 nt q.body hb) {n : Nat} {I M r m : Nat} {vs : List AV} {arr : Array MapEntry} {clock : Nat} {seen : Array Nat} {R : Ren} {H H3 : AH} {tmps : Array Value} {w : World} {kA vA : AV} {e : MapEntry} {d' : Nat} {t' : T AObj}
    (h : AtHead q nt L I M r m vs arr clock seen R H tmps w) (hset : T.set 40 H.h I (.raw (.mapIter (some m) clock (seen.push e.born) clock)) = some t')
    (hk : VR R kA e.key) (hv : VR R vA e.val) (hrd : q.roundK B D n nt hb L I vs kA vA ⟨t', H.next⟩ = some (.norm (.ptr I 0 :: vs), H3)) (hgi : H3.h.get I = t'.get I) (hgm : H3.h.get M = t'.get M) (hIM : M ≠ I)
    {fr : Frame} {k : List Item} {cs : List Frame} {lo : Nat} (hm : fr.mode = .run) (ht : fr.todo = .inRegion q.opsC ((List.range q.rest.length).map Nat.succ) :: .code q.body :: .inBlock q.id2 :: .inLoop q.round :: .inBlock q.id :: k)
    (hE : ∃ en, PK en (q.it :: L) (.ptr I 0 :: vs) ∧ EnvR R en nt fr.tmps) (hen : fr.tmps.getD q.en undef = .tuple #[e.key, e.val]) (hM : Marks lo R w fr.defers) (hlo : lo ≤ w.heap.size) :
    ∃ R' w' tmps' ds, Steps P (lone fr cs (wput { w with drawn := d' } r (.mapIter (some m) clock (seen.push e.born) clock))) (lone { fr with tmps := tmps', todo := .code q.round :: .inLoop q.round :: .inBlock q.id :: k, defers := ds } cs w') ∧
      AtHead q nt L I M r m vs arr clock (seen.push e.born) R' H3 tmps' w' ∧ Ext R H w R' H3 w' ∧ Marks lo R' w' ds ∧ H.next ≤ H3.next := by
  have hLi : Live H I := ⟨_, h.gi, trivial⟩
  have hRel2 : Rel R ⟨t', H.next⟩ (wput { w with drawn := d' } r (.mapIter (some m) clock (seen.push e.born) clock)) := (h.rel.drew d').put h.ri hLi hset rfl
  have hExt2 : Ext R H w R ⟨t', H.next⟩ (wput { w with drawn := d' } r (.mapIter (some m) clock (seen.push e.born) clock)) := (Ext.drew R H w d').trans (Ext.put h.ri hset)
  obtain ⟨en, hp, hEn⟩ := hE
  unfold ML.roundK at hrd
  obtain ⟨e', hops, hle⟩ := unp_le hrd hp
  have htup : VR R (.tuple [kA, vA]) (fr.tmps.getD q.en undef) := by
    rw [hen]; exact ⟨[e.key, e.val], rfl, _, _, rfl, hk, _, _, rfl, hv, rfl⟩
  have hE1 : EnvR R (upd e' q.en (.tuple [kA, vA])) nt fr.tmps := (hEn.know hq.en htup).le (hle.upd _ _)
  obtain ⟨es, envF, HF, env', c1, c2, c3, c4, _⟩ := opsK_chain _ _ [] _ _ _ [] hops (Le.refl _) (fun ms hms => by simp at hms)
  obtain ⟨i1, i2⟩ := idx_get q.rest 1
  have hi : es.map (·.i) = (List.range q.rest.length).map Nat.succ := by
    have : es.map (·.i) = (idx q.rest 1).map (·.1) := by rw [← c2]; simp
    rw [this, i1]
    apply List.map_congr_left
    intro x _; omega
  have hmem : ∀ e ∈ es, q.opsC[e.i]? = some e.o := by
    intro e he
    have h1 : (e.i, e.o) ∈ idx q.rest 1 := by rw [← c2]; exact List.mem_map.2 ⟨e, he, rfl⟩
    obtain ⟨h2, h3⟩ := i2 _ h1
    show (q.oE :: q.rest).toArray[e.i]? = some e.o
    have h2' : 1 ≤ e.i := h2
    rw [show e.i = (e.i - 1) + 1 from by omega, List.getElem?_toArray, List.getElem?_cons_succ]
    exact h3
  obtain ⟨R1, w1, t1, s1, e1, l1, x1⟩ := chain_run hX hr c1 hmem R fr (.code q.body :: .inBlock q.id2 :: .inLoop q.round :: .inBlock q.id :: k) cs _ hm (by rw [hi]; exact ht) hE1 hRel2
  have hst := codeK_ok hX hr (ro := true) (f0 := 0) (rs := []) (nt := nt) (n := n) q.body hb [] _ env' HF _ hsb c4
  have hM1 : Marks lo R1 w1 fr.defers := (hM.ext hExt2).ext x1
  obtain ⟨R2, w2, t2, td2, ds2, env2, H2, s2, e2, l2, x2, n2, m2, o2⟩ := hst lo R1 { fr with tmps := t1, todo := .code q.body :: .inBlock q.id2 :: .inLoop q.round :: .inBlock q.id :: k } (.inBlock q.id2 :: .inLoop q.round :: .inBlock q.id :: k) cs w1 hm (fun h => by simp at h) rfl (e1.le c3) l1 hM1 (Nat.le_trans hlo (hExt2.trans x1).size)
  have hnx := (chain_next hr.mono c1).1
  rcases o2 with ⟨rfl, b2⟩ | ⟨id, k', rfl, b2, L', vs', b3, _⟩ | ⟨k', rfl, b2⟩
  · obtain ⟨vs2, p1, p2⟩ := pck_some b2
    simp only [Option.some.injEq, Prod.mk.injEq, Ex.norm.injEq] at p2
    obtain ⟨rfl, rfl⟩ := p2
    have hx := hExt2.trans (x1.trans x2)
    refine ⟨R2, w2, t2, ds2, ?_, ⟨l2, ⟨env2, p1, e2⟩, hx.sub _ _ _ _ h.ri, ?_, ?_, ?_, h.bo⟩, hx, m2, Nat.le_trans (show H.next ≤ HF.next from hnx) n2⟩
    · refine s1.trans ((Steps.one (st_region_end (fr := { fr with tmps := t1, todo := .inRegion q.opsC [] :: .code q.body :: .inBlock q.id2 :: .inLoop q.round :: .inBlock q.id :: k }) hm rfl)).trans (s2.trans ?_))
      refine (Steps.one (st_inBlock (fr := { fr with tmps := t2, todo := .inBlock q.id2 :: .inLoop q.round :: .inBlock q.id :: k, defers := ds2 }) hm rfl)).trans ?_
      exact .one (st_inLoop (fr := { fr with tmps := t2, todo := .inLoop q.round :: .inBlock q.id :: k, defers := ds2 }) hm rfl)
    · obtain ⟨d, c, hr⟩ := h.rm
      exact ⟨d, c, hx.sub _ _ _ _ hr⟩
    · rw [hgi, T.get_set _ _ _ _ _ hset, if_pos rfl]
    · rw [hgm, T.get_set _ _ _ _ _ hset, if_neg hIM]; exact h.gm
  · simp [liveOf] at b3
  · obtain ⟨u, e⟩ := retE_form b2
    simp at e
end
end Go.Eng
end
