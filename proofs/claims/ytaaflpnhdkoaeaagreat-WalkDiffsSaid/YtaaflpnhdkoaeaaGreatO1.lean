/- Part 1: no condition. -/
import GoSem.Step
import Derived.Control
import Derived.Calls
import Derived.Laws.NewBlocks
import Derived.Below
import Derived.Test.YtaaflpnhdkoaeaaGreatProg
import Derived.Lib.Strings
import Derived.WalkKit
import Derived.Deep.DeepAppendWide
import Derived.Laws.Tables
import Derived.Laws.StructEq
import Derived.ChangeKeysEq
import Derived.MapKept
import Derived.WideKeyRuns
set_option linter.all false
set_option maxHeartbeats 8000000
set_option maxRecDepth 20000
variable {h a:Go.TypeId}{n E j:Nat}{i s:Go.Value}{v:List Nat}{p:Array Go.Oper}{t:Go.World}{q:Go.Program}{B:Go.IntKind}{C:Go.BinOp}{D:Go.Oper}{F:Array Go.TypeId}{G:Array Go.Value}{I:List Go.Value}{J:Array (Nat×Go.Operand)}{L:Go.TypeDesc}{M f u:Option Go.Value}{N:Go.MapEntry}{Q:Go.Frame}{U:Option Nat}{V:Go.Code}{W:List Go.MapEntry}{Y:Bool}{m:Go.Operand}{r:Type}{z:Int}
namespace Go
def zB:=@Option.some.injEq
def zC:=@List.mem_cons_of_mem
def zE:=@Bool.and_eq_true
def zF:=@cond_eq_ite
def zH:=@Sem.run_bind
def zJ:=@List.mem_cons_self
def zK:=@List.mem_cons
def zL:=@Bool.false_eq_true
def zM:=@Nat.le_refl
def zO:=@Sem.run_pure
def zP:=@cond_true
def zQ:=@List.getElem?_eq_getElem
def zR:=@decide_eq_true_eq
def zT:=@List.length_cons
def zU:=@Prod.mk.injEq
def zV:=@List.length_append
def zW:=@List.eq_nil_of_length_eq_zero
def zX:=@Nat.beq_eq
def zY:=@List.take_of_length_le
def zZ:=@List.append_assoc
def qA:=@List.mem_append
def qB:=@Option.map_some
def qC:=@List.length_take
def qD:=@if_false
def qE:=@Nat.blt_eq
def qF:=@List.cons_append
def qG:=@Nat.lt_of_lt_of_le
def qH:=@cond_false
def qI:=@List.drop_eq_getElem_cons
def qJ:=@List.flatMap_cons
def qK:=@List.getD_eq_getElem?_getD
def qL:=@List.length_drop
def qM:=@List.take_succ_eq_append_getElem
def qN:=@Nat.le_trans
def qO:=@List.drop_eq_nil_of_le
def qP:=@Bool.and_self
def qQ:=@Option.isSome_iff_exists
def qR:=@List.getElem?_eq_some_iff
def qS:=@List.mem_singleton
def qT:=@Option.some.inj
def qU:=@List.mem_append_left
def qV:=@List.pairwise_cons
def qW:=@Nat.ble_eq
def qX:=@List.nil_append
def qY:=@Bool.eq_false_iff
def qZ:=@List.mem_map
def y5:=@List.getElem?_set_ne
def y6:=@List.take_append_drop
def y7:=@Int.lt_irrefl
def y8:=@List.cons.injEq
def y9:=@Option.getD_some
def yA:=@Array.getD_eq_getD_getElem?
def yB:=@List.append_nil
def yC:=@Int.toNat_natCast
def yD:=@not_false_eq_true
def yE:=@List.all_eq_true
def yF:=@Nat.beq_refl
def yG:=@List.length_nil
def yH:=@Int.natCast_add
def yI:=@Bool.eq_iff_iff
def yJ:=@List.map_cons
def yK:=@Option.bind_some
def yL:=@List.drop_zero
def yM:=@List.getElem_mem
def yN:=@Nat.mul_le_mul_right
def yO:=@decide_eq_false_iff_not
def yP:=@Nat.mul_div_cancel_left
def yQ:=@List.mem_append_right
def yR:=@List.length_singleton
def yS:=@Array.getElem?_toList
def yU:=@Bool.not_eq_true'
def yV:=@List.flatMap_append
def yW:=@Array.length_toList
def yX:=@List.drop_left'
def yY:=@List.getElem?_append_left
def yZ:=@Nat.zero_add
def j5:=@List.pairwise_append
def j6:=@Bool.or_eq_true
def j7:=@List.getElem?_cons_succ
def j8:=@Nat.add_mul
def j9:=@List.take_length
def jA:=@List.take_left'
def jB:=@List.getElem?_append_right
def jC:=@Nat.mul_mod_right
def jD:=@Nat.sub_zero
def jE:=@List.length_map
def jF:=@List.getElem?_take_of_lt
def jG:=@List.getElem?_drop
def jH:=@List.filter_append
def jI:=@Nat.succ_mul
def jJ:=@Option.isSome_some
def jK:=@List.getElem?_map
def jL:=@List.getElem_of_mem
end Go
section
namespace Go.Eng
inductive T (α:Type) where
 | leaf
 | node (l:T α) (v:Option α) (r:T α)
namespace T
variable {α:Type}
noncomputable def get (t:T α):Nat->Option α:=
 T.rec (motive:=fun _=>Nat->Option α) (fun _=>none)
  (fun _ v _ gl a n=>Bool.rec (Bool.rec (a (Nat.sub (Nat.div n 2) 1)) (gl (Nat.div n 2)) (Nat.beq (Nat.mod n 2) 1)) v (Nat.beq n 0)) t
noncomputable def zB2 (f:Nat):T α->Nat->α->Option (T α):=
 Nat.rec (motive:=fun _=>T α->Nat->α->Option (T α)) (fun _ _ _=>none)
  (fun _ h t n a=>T.rec (motive:=fun _=>Option (T α))
   (Bool.rec (Bool.rec
     (Option.rec none (fun r=>some (.node .leaf none r)) (h .leaf (Nat.sub (Nat.div n 2) 1) a))
     (Option.rec none (fun l=>some (.node l none .leaf)) (h .leaf (Nat.div n 2) a)) (Nat.beq (Nat.mod n 2) 1)) (some (.node .leaf (some a) .leaf)) (Nat.beq n 0))
   (fun l v r _ _=>Bool.rec (Bool.rec
     (Option.rec none (fun r=>some (.node l v r)) (h r (Nat.sub (Nat.div n 2) 1) a))
     (Option.rec none (fun l=>some (.node l v r)) (h l (Nat.div n 2) a)) (Nat.beq (Nat.mod n 2) 1)) (some (.node l (some a) r)) (Nat.beq n 0)) t) f
theorem zPu (p:Prop)[Decidable p](b:Bool)(h:b=true↔p)(x y:r):Bool.rec (motive:=fun _=>r) x y b=if p then y else x:=by
 cases b with
 | true=>rw[if_pos (h.1 rfl)]
 | false=>rw[if_neg (fun hp=>by have:=h.2 hp;simp at this)]
theorem get_leaf (n:Nat):get (.leaf:T α) n=none:=rfl
theorem uY (l:T α)(v:Option α)(r:T α)(n:Nat):
  get (.node l v r) n=if n=0 then v else if n % 2=1 then l.get (n / 2)else r.get (n / 2 - 1):=by
 show Bool.rec (motive:=fun _=>Option α) (Bool.rec (motive:=fun _=>Option α) (r.get (n / 2 - 1)) (l.get (n / 2)) (Nat.beq (n % 2) 1)) v (Nat.beq n 0)=_;rw[zPu (n=0) _ (by rw[zX]),zPu (n % 2=1) _ (by rw[zX])]
theorem zH6 (t:T α)(n:Nat)(a:α):zB2 0 t n a=none:=rfl
theorem zBs (f:Nat)(n:Nat)(a:α):zB2 (f+1) .leaf n a=
  if n=0 then some (.node .leaf (some a) .leaf)
  else if n % 2=1 then(match zB2 f .leaf (n / 2) a with | some l=>some (.node l none .leaf) | none=>none)
  else(match zB2 f .leaf (n / 2 - 1) a with | some r=>some (.node .leaf none r) | none=>none):=by
 show Bool.rec (motive:=fun _=>Option (T α)) (Bool.rec (motive:=fun _=>Option (T α))
   (Option.rec (motive:=fun _=>Option (T α)) none (fun r=>some (.node .leaf none r)) (zB2 f .leaf (n / 2 - 1) a))
   (Option.rec (motive:=fun _=>Option (T α)) none (fun l=>some (.node l none .leaf)) (zB2 f .leaf (n / 2) a)) (Nat.beq (n % 2) 1)) (some (.node .leaf (some a) .leaf)) (Nat.beq n 0)=_
 rw[zPu (n=0) _ (by rw[zX]),zPu (n % 2=1) _ (by rw[zX])]
 cases zB2 f .leaf (n / 2) a<;>cases zB2 f .leaf (n / 2 - 1) a<;>rfl
theorem zBr (f:Nat)(l:T α)(v:Option α)(r:T α)(n:Nat)(a:α):zB2 (f+1) (.node l v r) n a=
  if n=0 then some (.node l (some a) r)
  else if n % 2=1 then(match zB2 f l (n / 2) a with | some l'=>some (.node l' v r) | none=>none)
  else(match zB2 f r (n / 2 - 1) a with | some r'=>some (.node l v r') | none=>none):=by
 show Bool.rec (motive:=fun _=>Option (T α)) (Bool.rec (motive:=fun _=>Option (T α))
   (Option.rec (motive:=fun _=>Option (T α)) none (fun r=>some (.node l v r)) (zB2 f r (n / 2 - 1) a))
   (Option.rec (motive:=fun _=>Option (T α)) none (fun l=>some (.node l v r)) (zB2 f l (n / 2) a)) (Nat.beq (n % 2) 1)) (some (.node l (some a) r)) (Nat.beq n 0)=_
 rw[zPu (n=0) _ (by rw[zX]),zPu (n % 2=1) _ (by rw[zX])]
 cases zB2 f l (n / 2) a<;>cases zB2 f r (n / 2 - 1) a<;>rfl
theorem zD9: ∀(f:Nat) (t:T α) (n:Nat) (a:α),n+1<2 ^ f->(zB2 f t n a).isSome=true:=by
 intro f
 induction f with
 | zero=>intro t n a h;simp at h
 | succ f ih=>
  intro t n a h;have hp:2 ^ (f+1)=2*2 ^ f:=by rw[Nat.pow_succ];omega
  have m:n % 2=1->n / 2+1<2 ^ f:=fun _=>by omega
  have o:n≠0->n % 2≠1->n / 2 - 1+1<2 ^ f:=fun _ _=>by omega
  cases t with
  | leaf=>
   rw[zBs];split
   .rfl
   .rename_i j;split
    .rename_i hm;obtain⟨l,hl⟩:=qQ.1 (ih .leaf (n / 2) a (m hm));rw[hl];rfl
    .rename_i hm;obtain⟨l,hl⟩:=qQ.1 (ih .leaf (n / 2 - 1) a (o j hm));rw[hl];rfl
  | node l v r=>
   rw[zBr];split
   .rfl
   .rename_i j;split
    .rename_i hm;obtain⟨l',hl⟩:=qQ.1 (ih l (n / 2) a (m hm));rw[hl];rfl
    .rename_i hm;obtain⟨l',hl⟩:=qQ.1 (ih r (n / 2 - 1) a (o j hm));rw[hl];rfl
theorem zL4: ∀(f:Nat) (t:T α) (n:Nat) (a:α) (j:T α),zB2 f t n a=some j-> ∀m,get j m=if m=n then some a else get t m:=by
 intro f
 induction f with
 | zero=>intro t n a j h;simp[zH6]at h
 | succ f ih=>
  intro t n a j h m
  cases t with
  | leaf=>
   rw[zBs]at h;split at h
   .simp only[zB]at h;subst h;rw[uY];by_cases hm:m=0<;>simp_all [get_leaf]
   .split at h
    .split at h
     .rename_i l hl;simp only[zB]at h;subst h;rw[uY,ih _ _ _ _ hl];by_cases hm:m=0
      .rw[if_pos hm,if_neg (by omega),get_leaf]
      .by_cases hp:m % 2=1
       .rw[if_neg hm,if_pos hp];by_cases e:m=n
        .rw[if_pos (by omega),if_pos e]
        .rw[if_neg (by omega),if_neg e,get_leaf,get_leaf]
       .rw[if_neg hm,if_neg hp,if_neg (by omega),get_leaf,get_leaf]
     .simp at h
    .split at h
     .rename_i r hr;simp only[zB]at h;subst h;rw[uY,ih _ _ _ _ hr];by_cases hm:m=0
      .rw[if_pos hm,if_neg (by omega),get_leaf]
      .by_cases hp:m % 2=1
       .rw[if_neg hm,if_pos hp,if_neg (by omega),get_leaf,get_leaf]
       .rw[if_neg hm,if_neg hp];by_cases e:m=n
        .rw[if_pos (by omega),if_pos e]
        .rw[if_neg (by omega),if_neg e,get_leaf,get_leaf]
     .simp at h
  | node l v r=>
   rw[zBr]at h;split at h
   .simp only[zB]at h;subst h;rw[uY,uY];by_cases hm:m=0<;>simp_all
   .split at h
    .split at h
     .rename_i l' hl;simp only[zB]at h;subst h;rw[uY,uY,ih _ _ _ _ hl];by_cases hm:m=0
      .rw[if_pos hm,if_neg (by omega),if_pos hm]
      .by_cases hp:m % 2=1
       .rw[if_neg hm,if_pos hp,if_neg hm,if_pos hp];by_cases e:m=n
        .rw[if_pos (by omega),if_pos e]
        .rw[if_neg (by omega),if_neg e]
       .rw[if_neg hm,if_neg hp,if_neg (by omega),if_neg hm,if_neg hp]
     .simp at h
    .split at h
     .rename_i o hr;simp only[zB]at h;subst h;rw[uY,uY,ih _ _ _ _ hr];by_cases hm:m=0
      .rw[if_pos hm,if_neg (by omega),if_pos hm]
      .by_cases hp:m % 2=1
       .rw[if_neg hm,if_pos hp,if_neg (by omega),if_neg hm,if_pos hp]
       .rw[if_neg hm,if_neg hp,if_neg hm,if_neg hp];by_cases e:m=n
        .rw[if_pos (by omega),if_pos e]
        .rw[if_neg (by omega),if_neg e]
     .simp at h
noncomputable def set (_f:Nat)(t:T α)(n:Nat)(a:α):Option (T α):=zB2 (Nat.succ (Nat.log2 (Nat.succ n))) t n a
def set_some (f:Nat)(t:T α)(n:Nat)(a:α):(set f t n a).isSome=true:=zD9 _ t n a Nat.lt_log2_self
def get_set (f:Nat)(t:T α)(n:Nat)(a:α)(j:T α)(h:set f t n a=some j): ∀m,get j m=if m=n then some a else get t m:=zL4 _ t n a j h
noncomputable def ofList:Nat->List α->T α->Option (T α)
 | _,[],t=>some t
 | i,x::xs,t=>match set 40 t i x with
  | some t'=>ofList (i+1) xs t'
  | none=>none
theorem get_ofList: ∀(xs:List α) (i:Nat) (t a:T α),ofList i xs t=some a-> ∀m,get a m=if i<=m/\m<i+xs.length then xs[m - i]? else get t m:=by
 intro xs
 induction xs with
 | nil=>intro i t a h m;simp[ofList]at h;subst h;simp;omega
 | cons x xs ih=>
  intro i t a h m;simp only[ofList]at h;split at h
  .rename_i t1 j;rw[ih _ _ _ h m,get_set _ _ _ _ _ j];simp only[zT];by_cases e:m=i
   .subst e;rw[if_neg (by omega),if_pos rfl,if_pos (by omega)];simp
   .by_cases f:i<=m/\m<i+(xs.length+1)
    .rw[if_pos (by omega),if_pos f,show m - i=(m - (i+1))+1 from by omega,j7]
    .rw[if_neg (by omega),if_neg e,if_neg f]
  .simp at h
end T
def pack:List UInt8->Nat
 | []=>0
 | b::bs=>b.toNat+256*pack bs
inductive AV where
 | bool (b:Bool)
 | int (k:IntKind) (n:Int)
 | str (len bits:Nat)
 | nP
 | ptr (A off:Nat)
 | nS
 | slice (A off len cap:Nat)
 | eS
 | nM
 | map (A:Nat)
 | func (fn:FuncId) (first captured:List AV)
 | yT (A:Nat)
 | nilFunc
 | iface (t:TypeId) (v:AV)
 | nilIface
 | agg (cells:List AV)
 | tuple (vs:List AV)
 | val (v:Value)
def bB (cc c:Nat):Nat:=bif (cc % 2).beq 0 then cc / 2 else c - cc / 2
abbrev Ren:=Nat->Nat->Nat->Nat->Prop
mutual
def VR (R:Ren):AV->Value->Prop
 | .bool b,v=>v= .bool b
 | .int k n,v=>v= .int k n
 | .str n b,v=> ∃s:ByteArray,v= .string s/\s.size=n/\pack s.data.toList=b
 | .nP,v=>v= .pointer none
 | .ptr A off,v=> ∃b d c,R A b d c/\v= .pointer (some ⟨b,d+off,none⟩)
 | .nS,v=>v= .slice none 0 0
 | .slice A off len cc,v=> ∃b d c,R A b d c/\v= .slice (some ⟨b,d+off,none⟩) len (bB cc c)
 | .eS,v=> ∃a c,v= .slice (some a) 0 c
 | .nM,v=>v= .map none
 | .map A,v=> ∃b d c,R A b d c/\v= .map (some b)
 | .func fn xs ys,v=> ∃xs' ys',v= .func (.func fn) ⟨xs'⟩ ⟨ys'⟩/\VRL R xs xs'/\VRL R ys ys'
 | .yT A,v=> ∃b d c,R A b d c/\v= .func (.yield b) #[] #[]
 | .nilFunc,v=>v= .nilFunc
 | .iface t x,v=> ∃x',v= .iface t x'/\VR R x x'
 | .nilIface,v=>v= .nilIface
 | .agg xs,v=> ∃xs',v= .agg ⟨xs'⟩/\VRL R xs xs'
 | .tuple xs,v=> ∃xs',v= .tuple ⟨xs'⟩/\VRL R xs xs'
 | .val x,v=>v=x
def VRL (R:Ren):List AV->List Value->Prop
 | [],l=>l=[]
 | x::xs,l=> ∃x' xs',l=x'::xs'/\VR R x x'/\VRL R xs xs'
end
def Sub (R a:Ren):Prop:= ∀A b d c,R A b d c->a A b d c
def Sub.refl (R:Ren):Sub R R:=fun _ _ _ _ h=>h
def zRm:=@Sub.refl
def Sub.trans {R f a:Ren}(h:Sub R f)(k:Sub f a):Sub R a:=fun A b d c x=>k A b d c (h A b d c x)
mutual
theorem VR.mono {R R':Ren}(h:Sub R R'): ∀(x:AV) (v:Value),VR R x v->VR R' x v
 | .bool _,_,k=>k
 | .int _ _,_,k=>k
 | .str _ _,_,k=>k
 | .nP,_,k=>k
 | .ptr _ _,_,k=>by simp only[VR]at k⊢;obtain⟨b,d,c,hr,e⟩:=k;exact⟨b,d,c,h _ _ _ _ hr,e⟩
 | .nS,_,k=>k
 | .slice _ _ _ _,_,k=>by simp only[VR]at k⊢;obtain⟨b,d,c,hr,e⟩:=k;exact⟨b,d,c,h _ _ _ _ hr,e⟩
 | .eS,_,k=>k
 | .nM,_,k=>k
 | .map _,_,k=>by simp only[VR]at k⊢;obtain⟨b,d,c,hr,e⟩:=k;exact⟨b,d,c,h _ _ _ _ hr,e⟩
 | .func _ xs ys,_,k=>by simp only[VR]at k⊢;obtain⟨x,y,e,k1,k2⟩:=k;exact⟨x,y,e,VRL.mono h xs _ k1,VRL.mono h ys _ k2⟩
 | .yT _,_,k=>by simp only[VR]at k⊢;obtain⟨b,d,c,hr,e⟩:=k;exact⟨b,d,c,h _ _ _ _ hr,e⟩
 | .nilFunc,_,k=>k
 | .iface _ x,_,k=>by simp only[VR]at k⊢;obtain⟨x',e,k1⟩:=k;exact⟨x',e,VR.mono h x _ k1⟩
 | .nilIface,_,k=>k
 | .agg xs,_,k=>by simp only[VR]at k⊢;obtain⟨x',e,k1⟩:=k;exact⟨x',e,VRL.mono h xs _ k1⟩
 | .tuple xs,_,k=>by simp only[VR]at k⊢;obtain⟨x',e,k1⟩:=k;exact⟨x',e,VRL.mono h xs _ k1⟩
 | .val _,_,k=>k
theorem VRL.mono {R R':Ren}(h:Sub R R'): ∀(xs:List AV) (l:List Value),VRL R xs l->VRL R' xs l
 | [],_,k=>k
 | x::xs,_,k=>by simp only[VRL]at k⊢;obtain⟨x',l',e,k1,k2⟩:=k;exact⟨x',l',e,VR.mono h x _ k1,VRL.mono h xs _ k2⟩
end
theorem VRL.length {R:Ren} : ∀(xs:List AV) (l:List Value),VRL R xs l->l.length=xs.length
 | [],_,k=>by simp only[VRL]at k;simp[k]
 | x::xs,_,k=>by simp only[VRL]at k;obtain⟨a,l',rfl,_,k2⟩:=k;simp[VRL.length xs l' k2]
def zRj:=@VRL.length
theorem VRL.get {R:Ren} : ∀(xs:List AV) (l:List Value),VRL R xs l-> ∀(i:Nat) (x:AV),xs[i]? =some x-> ∃v,l[i]? =some v/\VR R x v
 | [],_,_,i,x,h=>by simp at h
 | y::xs,_,k,i,x,h=>by
  simp only[VRL]at k;obtain⟨a,l',rfl,k1,k2⟩:=k
  cases i with
  | zero=>simp at h;subst h;exact⟨a,by simp,k1⟩
  | succ i=>simp at h⊢;exact VRL.get xs l' k2 i x h
theorem VRL.of {R:Ren} : ∀(xs:List AV) (l:List Value),l.length=xs.length->(∀(i:Nat) (x:AV) (v:Value),xs[i]? =some x->l[i]? =some v->VR R x v)->VRL R xs l
 | [],l,hl,_=>by simp only[VRL];simpa using hl
 | x::xs,[],hl,_=>by simp at hl
 | x::xs,v::l,hl,h=>by
  simp only[VRL];exact⟨v,l,rfl,h 0 x v rfl rfl,VRL.of xs l (by simpa using hl) (fun i y u a f=>h (i+1) y u (by simpa using a) (by simpa using f))⟩
theorem VRL.append {R:Ren}{xs a:List AV}{m:List Value}(h:VRL R xs I)(k:VRL R a m):VRL R (xs++a) (I++m):=by
 induction xs generalizing I with
 | nil=>simp only[VRL]at h;subst h;simpa using k
 | cons x xs ih=>simp only[VRL]at h;obtain⟨f,l',rfl,j,o⟩:=h;exact⟨f,l'++m,rfl,j,ih o⟩
theorem VRL.split {R:Ren}{xs f:List AV}(h:VRL R (xs++f) I): ∃l1 a,I=l1++a/\VRL R xs l1/\VRL R f a:=by
 induction xs generalizing I with
 | nil=>exact⟨[],I,rfl,rfl,h⟩
 | cons x xs ih=>
  obtain⟨j,l',rfl,m,o⟩:=h;obtain⟨l1,a,rfl,p,q⟩:=ih o;exact⟨j::l1,a,rfl,⟨j,l1,rfl,m,p⟩,q⟩
theorem VRL.take {R:Ren}{xs:List AV}{l:List Value}(h:VRL R xs l)(n:Nat):VRL R (xs.take n) (l.take n):=by
 induction xs generalizing l n with
 | nil=>simp only[VRL]at h;subst h;simp[VRL]
 | cons x xs ih=>
  obtain⟨a,l',rfl,f,j⟩:=h
  cases n with
  | zero=>simp[VRL]
  | succ n=>exact⟨a,l'.take n,rfl,f,ih j n⟩
theorem VRL.drop {R:Ren}{xs:List AV}{l:List Value}(h:VRL R xs l)(n:Nat):VRL R (xs.drop n) (l.drop n):=by
 induction xs generalizing l n with
 | nil=>simp only[VRL]at h;subst h;simp[VRL]
 | cons x xs ih=>
  obtain⟨f,l',rfl,j,a⟩:=h
  cases n with
  | zero=>exact⟨f,l',rfl,j,a⟩
  | succ n=>exact ih a n
theorem VRL.set {R:Ren}{xs:List AV}{l:List Value}{x:AV}{v:Value}(h:VRL R xs l)(k:VR R x v)(n:Nat):VRL R (xs.set n x) (l.set n v):=by
 induction xs generalizing l n with
 | nil=>simp only[VRL]at h;subst h;simp[VRL]
 | cons y xs ih=>
  obtain⟨f,l',rfl,j,a⟩:=h
  cases n with
  | zero=>exact⟨v,l',rfl,k,a⟩
  | succ n=>exact⟨f,l'.set n v,rfl,j,ih a n⟩
theorem VRL.replicate {R:Ren}{x:AV}{v:Value}(k:VR R x v): ∀n,VRL R (List.replicate n x) (List.replicate n v)
 | 0=>rfl
 | n+1=>⟨v,List.replicate n v,rfl,k,VRL.replicate k n⟩
abbrev Env:=Nat->Option AV
def upd (env:Env)(d:Nat)(v:AV):Env:=fun t=>bif Nat.beq t d then some v else env t
theorem bI (env:Env)(d:Nat)(v:AV)(t:Nat):upd env d v t=if t=d then some v else env t:=by
 simp only[upd,zF,zX]
def uQ:Env:=fun _=>none
structure ALoop where
 state:LoopState
 pending:Option Code
 fn:FuncId
 site:Nat
 live:List Nat
 vals:List AV
def sites:Code->List (Array Tmp×Code×Code)
 | .seq a b=>sites a++sites b
 | .cond _ a b=>sites a++sites b
 | .block _ a=>sites a
 | .loop a=>sites a
 | .scope a=>sites a
 | .rangeFunc _ ps a b=>(ps,a,b)::(sites a++sites b)
 | _=>[]
noncomputable def zAi (f:FuncId)(s:Nat):Option (Nat×Array Tmp×Code×Code):=
 match Go.Proofs.Tryz.prog.funcs[f]? with
 | some fn=>match fn.body with
  | some b=>match(sites b)[s]? with
   | some x=>some (fn.ntmps,x)
   | none=>none
  | none=>none
 | none=>none
def zPp:List Nat->List AV->Env->Env
 | l::L,v::vs,e=>zPp L vs (upd e l v)
 | _,_,e=>e
def envL (L:List Nat)(vs:List AV):Env:=zPp L vs uQ
inductive AObj where
 | cells (c:List AV) (elem:TypeId) (sz:Nat) (grow:Bool)
 | map (ks:List Nat) (es:List (AV×AV))
 | loop (l:ALoop)
 | raw (x:Obj)
 | dead
structure AH where
 h:T AObj
 next:Nat
def jQ:AV:= .tuple []
def look (env:Env)(t:Nat):Option AV:=env t
structure EnvR (R:Ren)(env:Env)(n:Nat)(tmps:Array Value):Prop where
 size:tmps.size=n
 get: ∀t x,look env t=some x->VR R x (tmps.getD t undef)
 out: ∀t,n<=t->look env t=none
def ZP:IntKind->Nat
 | .i8=>3 | .i16=>4 | .i32=>5 | .i64=>6 | .u8=>7 | .u16=>8 | .u32=>9 | .u64=>10
def K2:AV->Nat
 | .bool _=>0
 | .str _ _=>2
 | .int k _=>ZP k
 | _=>1
def wR:List AV->List Nat->Bool
 | [],[]=>true
 | x::xs,q::qs=>Nat.beq (K2 x) q&&wR xs qs
 | _,_=>false
def xO (ks:List Nat)(k:AV):Bool:=
 match ks with
 | []=>false
 | q::qs=>bif Nat.beq q 1 then(match k with | .agg l=>wR l qs&& !qs.contains 1 | _=>false)else(match qs with | []=>Nat.beq (K2 k) q | _::_=>false)
def MR (R:Ren)(es:List (AV×AV))(l:List MapEntry):Prop:=
 ∃m:List MapEntry,m.Perm l/\VRL R (es.map (·.1)) (m.map (·.key))/\VRL R (es.map (·.2)) (m.map (·.val))
def zDS (l:List MapEntry)(a:Nat):Prop:=(l.map (·.born)).Nodup/\ ∀e∈l,e.born<a
def tri:Nat->Nat
 | 0=>0
 | n+1=>tri n+n+1
theorem zM6 (h:n<E):tri n+n+1<=tri E:=by
 induction E with
 | zero=>omega
 | succ E ih=>
  rcases Nat.lt_succ_iff_lt_or_eq.1 h with a | rfl
  .have:=ih a;simp only[tri];omega
  .simp[tri]
def enc (p:Nat×Nat):Nat:=tri (p.1+p.2)+p.2
theorem zOF {p q:Nat×Nat}(h:enc p=enc q):p=q:=by
 obtain⟨a,b⟩:=p;obtain⟨c,d⟩:=q;simp only[enc]at h;have e:a+b=c+d:=by
  rcases Nat.lt_trichotomy (a+b) (c+d)with f | f | f
  .have:=zM6 f;omega
  .exact f
  .have:=zM6 f;omega
 rw[e]at h;have hb:b=d:=by omega
 subst hb;have j:a=c:=by omega
 subst j;rfl
def zJZ (R:Ren)(o:AObj)(d c:Nat)(x:Option Obj):Prop:=
 match o with
 | .cells l e sz g=> ∃(arr:Array Value) (f:Nat×Nat) (pre l' h:List Value),x=some (.cells arr e f)/\arr.toList=pre++(l'++h)/\pre.length=d/\VRL R l l'/\
   (g=false->h=[]/\(0<sz->f=(0,0))/\(sz=0->c=enc f))/\(g=true->l'.length+h.length=c*sz/\c<9223372036854775808)/\(0<sz-> ∀i,i<arr.size-> ¬(f.1<=i/\i<f.2))/\ ∃m,VRL R m h
 | .map ks es=> ∃(arr:Array MapEntry) (j:Nat),x=some (.map arr j)/\MR R es arr.toList/\(∀e∈es,xO ks e.1=true)/\es.Pairwise (fun a b=>a.1≠b.1)/\zDS arr.toList j
 | .loop l=> ∃(L:Loop) (nt:Nat),x=some (.loop L)/\zAi l.fn l.site=some (nt,L.params,L.assign,L.body)/\L.state=l.state/\L.pending=l.pending/\L.fn=l.fn/\EnvR R (envL l.live l.vals) nt L.tmps
 | .raw y=>x=some y
 | .dead=>True
def JZ (H:AH)(A:Nat):Prop:= ∃o,H.h.get A=some o/\(match o with | .dead=>False | _=>True)
structure Rel (R:Ren)(H:AH)(w:World):Prop where
 fn: ∀A b d c b' d' c',R A b d c->R A b' d' c'->b=b'/\d=d'/\c=c'
 inj: ∀A A' b d c d' c',R A b d c->R A' b d' c'->JZ H A->JZ H A'->A=A'
 obj: ∀A b d c o,R A b d c->H.h.get A=some o->zJZ R o d c w.heap[b]?
 lt: ∀A b d c,R A b d c->b<w.heap.size/\A<H.next
structure Ext (R:Ren)(H:AH)(w:World)(R':Ren)(H':AH)(w':World):Prop where
 sub:Sub R R'
 new: ∀A b d c,R' A b d c->R A b d c\/w.heap.size<=b\/ ∃A0 d0 c0,R A0 b d0 c0
 newA: ∀A b d c,R' A b d c->R A b d c\/H.next<=A
 next:H.next<=H'.next
 keepA: ∀A,A<H.next->(∀b d c,¬R A b d c)->H'.h.get A=H.h.get A
 os:w'.os=w.os
 tape:w'.tape=w.tape
 output:w'.output=w.output
 size:w.heap.size<=w'.heap.size
 keep: ∀b,b<w.heap.size->(∀A d c,¬R A b d c)->w'.heap[b]? =w.heap[b]?
def Ext.refl (R:Ren)(H:AH)(w:World):Ext R H w R H w:=
 ⟨zRm R,fun _ _ _ _ h=> .inl h,fun _ _ _ _ h=> .inl h,zM _,fun _ _ _=>rfl,rfl,rfl,rfl,zM _,fun _ _ _=>rfl⟩
def zRr:=@Ext.refl
theorem Ext.trans {R m a:Ren}{H H' f:AH}{w o j:World}(h:Ext R H w m H' o)(k:Ext m H' o a f j):Ext R H w a f j where
 sub:=h.sub.trans k.sub
 new A b d c x:=by
  rcases k.new A b d c x with y | y | ⟨p,q,t,y⟩
  .exact h.new _ _ _ _ y
  .exact .inr (.inl (qN h.size y))
  .rcases h.new _ _ _ _ y with z | z | z
   .exact .inr (.inr ⟨_,_,_,z⟩)
   .exact .inr (.inl z)
   .exact .inr (.inr z)
 newA A b d c x:=by
  rcases k.newA A b d c x with y | y
  .exact h.newA _ _ _ _ y
  .exact .inr (qN h.next y)
 next:=qN h.next k.next
 keepA A hA hR:=by
  rw[k.keepA A (qG hA h.next) (fun b d c x=> ?_)]
  .exact h.keepA A hA hR
  .rcases h.newA _ _ _ _ x with y | y
   .exact hR _ _ _ y
   .omega
 os:=k.os.trans h.os
 tape:=k.tape.trans h.tape
 output:=k.output.trans h.output
 size:=qN h.size k.size
 keep b hb hR:=by
  rw[k.keep b (qG hb h.size) (fun A d c x=> ?_)]
  .exact h.keep b hb hR
  .rcases h.new _ _ _ _ x with y | y | ⟨p,q,t,y⟩
   .exact hR _ _ _ y
   .omega
   .exact hR _ _ _ y
def Ext.drew (R:Ren)(H:AH)(w:World)(k:Nat):Ext R H w R H { w with drawn:=k} :=
 ⟨zRm R,fun _ _ _ _ h=> .inl h,fun _ _ _ _ h=> .inl h,zM _,fun _ _ _=>rfl,rfl,rfl,rfl,zM _,fun _ _ _=>rfl⟩
def Rel.drew {R:Ren}{H:AH}(h:Rel R H t)(k:Nat):Rel R H { t with drawn:=k} :=⟨h.fn,h.inj,h.obj,h.lt⟩
theorem EnvR.mono {R f:Ren}(h:Sub R f){env:Env}{n:Nat}{a:Array Value}(k:EnvR R env n a):EnvR f env n a:=
 ⟨k.size,fun t x j=>VR.mono h _ _ (k.get t x j),k.out⟩
theorem MR.mono {R a:Ren}(h:Sub R a){es:List (AV×AV)}{l:List MapEntry}(k:MR R es l):MR a es l:=by
 obtain⟨m,hp,f,j⟩:=k;exact⟨m,hp,VRL.mono h _ _ f,VRL.mono h _ _ j⟩
theorem zJZ.mono {R t:Ren}(h:Sub R t){o:AObj}{d c:Nat}{x:Option Obj}(k:zJZ R o d c x):zJZ t o d c x:=by
 cases o with
 | cells l e sz g=>
  obtain⟨arr,C,pre,l',u,a,f,j,m,p,q,J,K,N⟩:=k;exact⟨arr,C,pre,l',u,a,f,j,VRL.mono h _ _ m,p,q,J,K,VRL.mono h _ _ N⟩
 | map ks es=>obtain⟨arr,z,a,f,j⟩:=k;exact⟨arr,z,a,f.mono h,j⟩
 | loop l=>
  obtain⟨L,nt,a,f,j,m,p,q⟩:=k;exact⟨L,nt,a,f,j,m,p,q.mono h⟩
 | raw y=>exact k
 | dead=>trivial
def Rel.empty (w:World):Rel (fun _ _ _ _=>False) ⟨.leaf,0⟩ w:=
 ⟨fun _ _ _ _ _ _ _ h=>h.elim,fun _ _ _ _ _ _ _ h=>h.elim,fun _ _ _ _ _ h=>h.elim,fun _ _ _ _ h=>h.elim⟩
theorem Rel.fresh {R:Ren}{H:AH}(h:Rel R H t){o:AObj}{f:T AObj}(q:T.set 40 H.h H.next o=some f):Rel R ⟨f,H.next+1⟩ t:=by
 have m:=T.get_set _ _ _ _ _ q;have j: ∀A b d c,R A b d c->A≠H.next:=fun A b d c r=>by have:=(h.lt _ _ _ _ r).2;omega
 have hl: ∀A b d c,R A b d c->JZ ⟨f,H.next+1⟩ A->JZ H A:=fun A b d c r ⟨o,a,hd⟩=>by
  simp only[m,if_neg (j _ _ _ _ r)]at a;exact⟨o,a,hd⟩
 exact⟨h.fn,fun A w b d c d' c' r p l l'=>h.inj A w b d c d' c' r p (hl _ _ _ _ r l) (hl _ _ _ _ p l'),
  fun A b d c o r a=>h.obj A b d c o r (by simpa only[m,if_neg (j _ _ _ _ r)]using a),
  fun A b d c r=>⟨(h.lt _ _ _ _ r).1,Nat.lt_succ_of_lt (h.lt _ _ _ _ r).2⟩⟩
def Ren.add (R:Ren)(a f h j:Nat):Ren:=fun A b d c=>R A b d c\/(A=a/\b=f/\d=h/\c=j)
def Ren.sub_add (R:Ren)(A b d c:Nat):Sub R (R.add A b d c):=fun _ _ _ _ h=> .inl h
def Ren.add_self (R:Ren)(A b d c:Nat):R.add A b d c A b d c:= .inr ⟨rfl,rfl,rfl,rfl⟩
def heap_alloc_old (w:World)(o:Obj)(k:Nat)(h:k<w.heap.size):(w.alloc o).heap[k]? =w.heap[k]? :=RowKit.Below.heap_alloc w o k h
def bX (w:World)(o:Obj):(w.alloc o).heap[w.heap.size]? =some o:=heap_alloc_new w o
theorem kV (w:World)(o:Obj):(w.alloc o).heap.size=w.heap.size+1:=by simp
theorem Rel.add {R:Ren}{H:AH}{w:World}(h:Rel R H w){A c:Nat}{o:AObj}{x:Obj}(m:H.h.get A=some o)(j:A<H.next)(f: ∀b d c,¬R A b d c)
  (p:zJZ (R.add A w.heap.size 0 c) o 0 c (some x)):Rel (R.add A w.heap.size 0 c) H (w.alloc x):=by
 refine⟨?_, ?_, ?_, ?_⟩
 .rintro A1 b d c1 b' d' c' (r | ⟨rfl,rfl,rfl,rfl⟩) (r' | ⟨e1,rfl,rfl,rfl⟩)
  .exact h.fn _ _ _ _ _ _ _ r r'
  .subst e1;exact absurd r (f _ _ _)
  .exact absurd r' (f _ _ _)
  .exact⟨rfl,rfl,rfl⟩
 .rintro A1 A2 b d c1 d' c' (r | ⟨rfl,rfl,rfl,rfl⟩) (r' | ⟨rfl,e2,rfl,rfl⟩) l l'
  .exact h.inj _ _ _ _ _ _ _ r r' l l'
  .have:=(h.lt _ _ _ _ r).1;omega
  .have:=(h.lt _ _ _ _ r').1;omega
  .rfl
 .rintro A1 b d c1 q (r | ⟨rfl,rfl,rfl,rfl⟩) a
  .rw[heap_alloc_old _ _ _ (h.lt _ _ _ _ r).1];exact(h.obj _ _ _ _ _ r a).mono (R.sub_add _ _ _ _)
  .rw[bX];rw[m]at a;injection a with a;subst a
   exact p
 .rintro A1 b d c1 (r | ⟨rfl,rfl,rfl,rfl⟩)
  .rw[kV];exact⟨Nat.lt_succ_of_lt (h.lt _ _ _ _ r).1,(h.lt _ _ _ _ r).2⟩
  .rw[kV];exact⟨Nat.lt_succ_self _,j⟩
theorem Ext.add {R:Ren}{H:AH}{w:World}{c:Nat}{x:Obj}{o:AObj}{a:T AObj}(f:T.set 40 H.h H.next o=some a):Ext R H w (R.add H.next w.heap.size 0 c) ⟨a,H.next+1⟩ (w.alloc x) where
 sub:=R.sub_add _ _ _ _
 new A1 b d c1:=by
  rintro(r | ⟨rfl,rfl,rfl,rfl⟩)
  .exact .inl r
  .exact .inr (.inl (zM _))
 newA A1 b d c1:=by
  rintro(r | ⟨rfl,rfl,rfl,rfl⟩)
  .exact .inl r
  .exact .inr (zM _)
 next:=Nat.le_succ _
 keepA A hA _:=by
  show a.get A=_;rw[T.get_set _ _ _ _ _ f,if_neg (by omega)]
 os:=rfl
 tape:=rfl
 output:=rfl
 size:=by rw[kV];omega
 keep b hb _:=heap_alloc_old _ _ _ hb
theorem Rel.new {R:Ren}{H:AH}(h:Rel R H t){c:Nat}{x:Obj}{o:AObj}{a:T AObj}(f:T.set 40 H.h H.next o=some a)(j:zJZ (R.add H.next t.heap.size 0 c) o 0 c (some x)):
  Rel (R.add H.next t.heap.size 0 c) ⟨a,H.next+1⟩ (t.alloc x):=by
 refine(h.fresh f).add (o:=o) ?_ (Nat.lt_succ_self _) (fun b d c r=> ?_) j
 .show a.get _=_;rw[T.get_set _ _ _ _ _ f,if_pos rfl]
 .have:=(h.lt _ _ _ _ r).2;omega
def vX (w:World)(b:Nat)(x:Obj):World:= { w with heap:=w.heap.setIfInBounds b x}
theorem bH (w:World)(b:Nat)(x:Obj)(h:b<w.heap.size):(vX w b x).heap[b]? =some x:=by
 simp[vX,h]
theorem vG (w:World)(b k:Nat)(x:Obj)(h:k≠b):(vX w b x).heap[k]? =w.heap[k]? :=by
 simp[vX,Array.getElem?_setIfInBounds,Ne.symm h]
theorem vK (w:World)(b:Nat)(x:Obj):(vX w b x).heap.size=w.heap.size:=by simp[vX]
theorem Rel.put {R:Ren}{H:AH}(h:Rel R H t){b:Nat}{o':AObj}{x:Obj}{w:T AObj}(hR:R n b E j)(hl:JZ H n)(K:T.set 40 H.h n o'=some w)
  (p:zJZ R o' E j (some x)):Rel R ⟨w,H.next⟩ (vX t b x):=by
 have y:=T.get_set _ _ _ _ _ K;have m: ∀q,JZ ⟨w,H.next⟩ q->q≠n->JZ H q:=fun q ⟨o,p,hd⟩ hne=>by
  simp only[y,if_neg hne]at p;exact⟨o,p,hd⟩
 refine⟨h.fn, ?_, ?_, ?_⟩
 .intro A1 A2 b1 z c1 O c2 r u l l';by_cases f:A1=n
  .by_cases A:A2=n
   .rw[f,A]
   .subst f;exact h.inj _ _ _ _ _ _ _ r u hl (m _ l' A)
  .by_cases A:A2=n
   .subst A;exact h.inj _ _ _ _ _ _ _ r u (m _ l f) hl
   .exact h.inj _ _ _ _ _ _ _ r u (m _ l f) (m _ l' A)
 .intro A1 b1 z c1 N r a;simp only[y]at a;by_cases f:A1=n
  .subst f;obtain⟨rfl,rfl,rfl⟩:=h.fn _ _ _ _ _ _ _ r hR;rw[if_pos rfl]at a;injection a with a;subst a
   rw[bH _ _ _ (h.lt _ _ _ _ r).1];exact p
  .rw[if_neg f]at a;by_cases C:b1=b
   .subst C;have J: ¬JZ H A1:=fun l1=>f (h.inj _ _ _ _ _ _ _ r hR l1 hl)
    cases N with
    | dead=>trivial
    | _=>exact absurd ⟨_,a,trivial⟩ J
   .rw[vG _ _ _ _ C];exact h.obj _ _ _ _ _ r a
 .intro A1 b1 z c1 r;rw[vK];exact h.lt _ _ _ _ r
def Ext.put {R:Ren}{H:AH}{b:Nat}{x:Obj}{o':AObj}{a:T AObj}(hR:R n b E j)(f:T.set 40 H.h n o'=some a):Ext R H t R ⟨a,H.next⟩ (vX t b x) where
 sub:=zRm R
 new _ _ _ _ h:= .inl h
 newA _ _ _ _ h:= .inl h
 next:=zM _
 keepA A1 _ hk:=by
  show a.get A1=_;rw[T.get_set _ _ _ _ _ f,if_neg (fun e=>by subst e;exact hk _ _ _ hR)]
 os:=rfl
 tape:=rfl
 output:=rfl
 size:=by rw[vK];omega
 keep k _ hk:=vG _ _ _ _ (fun e=>by subst e;exact hk _ _ _ hR)
section
variable {P:Program}{fr:Frame}{cs:List Frame}{w:World}{k:List Item}
def zGV (hm:fr.mode= .run)(a:fr.todo= .code .skip::k):step P (lone fr cs w)= .next (lone { fr with todo:=k} cs w):=
 step_lone_go (by simp[stepG,stepG.exec,hm,a])
def zKg (hm:fr.mode= .run)(a:fr.todo= .code (.label n)::k):step P (lone fr cs w)= .next (lone { fr with todo:=k} cs w):=
 step_lone_go (by simp[stepG,stepG.exec,hm,a])
def U9 (hm:fr.mode= .run)(a:fr.todo= .inBlock n::k):step P (lone fr cs w)= .next (lone { fr with todo:=k} cs w):=
 step_lone_go (by simp[stepG,stepG.exec,hm,a])
def U8 {b:Code}(hm:fr.mode= .run)(f:fr.todo= .code (.seq V b)::k):step P (lone fr cs w)= .next (lone { fr with todo:= .code V:: .code b::k} cs w):=
 step_lone_go (by simp[stepG,stepG.exec,hm,f])
def ZI {b:Code}{t:Bool}(hm:fr.mode= .run)(f:fr.todo= .code (.cond m V b)::k)(h:fr.eval m= .bool t):
  step P (lone fr cs w)= .next (lone { fr with todo:= .code (if t then V else b)::k} cs w):=
 step_lone_go (by simp[stepG,stepG.exec,hm,f,h])
def K6 (hm:fr.mode= .run)(a:fr.todo= .code (.block n V)::k):step P (lone fr cs w)= .next (lone { fr with todo:= .code V:: .inBlock n::k} cs w):=
 step_lone_go (by simp[stepG,stepG.exec,hm,a])
def zGW (hm:fr.mode= .run)(a:fr.todo= .code (.loop V)::k):step P (lone fr cs w)= .next (lone { fr with todo:= .code V:: .inLoop V::k} cs w):=
 step_lone_go (by simp[stepG,stepG.exec,hm,a])
def zBk (hm:fr.mode= .run)(a:fr.todo= .inLoop V::k):step P (lone fr cs w)= .next (lone { fr with todo:= .code V:: .inLoop V::k} cs w):=
 step_lone_go (by simp[stepG,stepG.exec,hm,a])
def zGX {k':List Item}(hm:fr.mode= .run)(a:fr.todo= .code (.exit n)::k)(f:exitTo n k=some k'):step P (lone fr cs w)= .next (lone { fr with todo:=k'} cs w):=
 step_lone_go (by simp[stepG,stepG.exec,hm,a,f])
def zPL (hm:fr.mode= .run)(hr:fr.roundOf=none)(a:fr.todo= .code .ret::k):step P (lone fr cs w)= .next (lone { fr with mode:= .returning} cs w):=
 step_lone_go (by simp[stepG,stepG.exec,hm,a,hr])
def zPM (hm:fr.mode= .run)(hr:fr.roundOf=none)(a:fr.todo=[]):step P (lone fr cs w)= .next (lone { fr with mode:= .returning} cs w):=
 step_lone_go (by simp[stepG,stepG.exec,hm,a,hr])
def QK (hm:fr.mode= .run)(a:fr.todo= .code (.region n p false)::k):
  step P (lone fr cs w)= .next (lone { fr with todo:= .inRegion p (List.range p.size)::k} cs w):=
 step_lone_go (by simp[stepG,stepG.exec,hm,a])
def zNt (hm:fr.mode= .run)(a:fr.todo= .code (.region n p true)::k):
  step P (lone fr cs w)= .next (lone { fr with todo:= .inRegion p (Region.schedule (P.follows .mixedOrders) p (w.tape w.drawn (.order fr.fn n)))::k} cs { w with drawn:=w.drawn+1}):=
 step_lone_go (by simp[stepG,stepG.exec,hm,a,choose,Sem.run,Question.forced,Question.cut])
def xU (hm:fr.mode= .run)(a:fr.todo= .inRegion p []::k):step P (lone fr cs w)= .next (lone { fr with todo:=k} cs w):=
 step_lone_go (by simp[stepG,stepG.exec,hm,a])
def zCW (t:Array Value):Option Tmp->Value->Array Value
 | some d,v=>t.setIfInBounds d v
 | none,_=>t
theorem kH (a:fr.todo= .inRegion p (n::v)::k)(f:p[n]? =some D)(ops:Value):
  fr.finish ops= { fr with tmps:=zCW fr.tmps D.dst ops,todo:= .inRegion p v::k} :=by
 cases h:D.dst<;>simp[Frame.finish,a,f,h,zCW]
def WH (hm:fr.mode= .run)(a:fr.todo= .inRegion p (n::v)::k)(f:p[n]? =some D)
  (h:Region.wanted D (yielded p fr.tmps)=false):step P (lone fr cs w)= .next (lone (fr.finish undef) cs w):=
 step_lone_go (by simp[stepG,stepG.exec,hm,a,f,h])
theorem zKf (hm:fr.mode= .run)(a:fr.todo= .inRegion p (n::v)::k)(f:p[n]? =some D)
  (j:Region.wanted D (yielded p fr.tmps)=true) (hd: ∀c,D.op≠ .defer c):
  stepG P true { frame:=fr,callers:=cs,status:= .running,dying:=none} w=stepG.apply P true fr cs none (execOp fr.eval D) w:=by
 have m:stepG P true { frame:=fr,callers:=cs,status:= .running,dying:=none} w=stepG.oper P true fr cs none w:=by
  simp[stepG,stepG.exec,hm,a,f,j]
 rw[m];simp only[stepG.oper,Frame.oper?,a,f];split
 .rename_i l c _ h;exact absurd h (hd c)
 .rfl
def uV (hm:fr.mode= .run)(f:fr.todo= .inRegion p (n::v)::k)(h:p[n]? =some D)
  (j:Region.wanted D (yielded p fr.tmps)=true) (hd: ∀c,D.op≠ .defer c) (hr:(execOp fr.eval D).run P w= .ok (.value i) t):
  step P (lone fr cs w)= .next (lone (fr.finish i) cs t):=
 step_lone_go (by rw[zKf hm f h j hd];simp[stepG.apply,Sem.runT_eq,hr])
def zFB (hm:fr.mode= .run)(f:fr.todo= .inRegion p (n::v)::k)(h:p[n]? =some D)
  (j:Region.wanted D (yielded p fr.tmps)=true) (hd: ∀c,D.op≠ .defer c) (hr:(execOp fr.eval D).run P w= .ok .skip t):
  step P (lone fr cs w)= .next (lone (fr.finish undef) cs t):=
 step_lone_go (by rw[zKf hm f h j hd];simp[stepG.apply,Sem.runT_eq,hr])
def zKh {f:FuncId}(hm:fr.mode= .run)(h:fr.todo= .inRegion p (n::v)::k)(j:p[n]? =some D)
  (m:Region.wanted D (yielded p fr.tmps)=true) (hd: ∀c,D.op≠ .defer c) (hr:(execOp fr.eval D).run P w= .ok (.enter f G) t):
  step P (lone fr cs w)= .next (lone (Frame.enter P f G .normal) (fr::cs) t):=
 step_lone_go (by rw[zKf hm h j m hd];simp[stepG.apply,Sem.runT_eq,hr,h])
def zKe {body:Code}(hm:fr.mode= .run)(m:fr.todo= .inRegion p (n::v)::k)(ops:p[n]? =some D)
  (q:Region.wanted D (yielded p fr.tmps)=true) (hd: ∀c,D.op≠ .defer c) (hr:(execOp fr.eval D).run P w= .ok (.round E j G V body) t):
  step P (lone fr cs w)= .next (lone (Frame.round E j G V body .normal) (fr::cs) t):=
 step_lone_go (by rw[zKf hm m ops q hd];simp[stepG.apply,Sem.runT_eq,hr])
end
end Go.Eng
end
section
noncomputable section
namespace Go.Eng
structure Cx where
 ty:T TypeInfo
 fl:List (TypeId×List Nat)
def Cx.und (X:Cx)(t:TypeId):Option TypeDesc:=
 match X.ty.get t with
 | some i=>match i.desc with
  | .named _ u=>match X.ty.get u with
   | some j=>some j.desc
   | none=>none
  | d=>some d
 | none=>none
def Cx.size (X:Cx)(t:TypeId):Option Nat:=
 match X.ty.get t with
 | some i=>some i.size
 | none=>none
mutual
def ofV:Value->Option AV
 | .bool b=>some (.bool b)
 | .int k n=>some (.int k n)
 | .string s=>some (.str s.data.toList.length (pack s.data.toList))
 | .pointer none=>some .nP
 | .slice none 0 0=>some .nS
 | .map none=>some .nM
 | .nilFunc=>some .nilFunc
 | .nilIface=>some .nilIface
 | .agg a=>match ofVA a with | some l=>some (.agg l) | none=>none
 | .tuple a=>match ofVA a with | some l=>some (.tuple l) | none=>none
 | _=>none
def ofVA:Array Value->Option (List AV)
 | ⟨l⟩=>zQ1 l
def zQ1:List Value->Option (List AV)
 | []=>some []
 | v::l=>match ofV v,zQ1 l with
  | some x,some xs=>some (x::xs)
  | _,_=>none
end
def opd (env:Env):Operand->Option AV
 | .tmp t=>look env t
 | .const v=>ofV v
 | .func f=>some (.func f [] [])
 | .global _=>none
def zCX (env:Env):List Operand->Option (List AV)
 | []=>some []
 | x::xs=>match opd env x,zCX env xs with
  | some v,some vs=>some (v::vs)
  | _,_=>none
def jU:AV->List AV
 | .agg l=>l
 | .val v=>v.cells.toList.map AV.val
 | v=>[v]
def isCell:AV->Bool
 | .agg _=>false
 | .val _=>false
 | .tuple _=>false
 | _=>true
def jP:List AV->Bool
 | []=>true
 | v::l=>isCell v&&jP l
def dI:TypeDesc->Bool
 | .struct _=>true
 | .array _ _=>true
 | _=>false
def takeN:Nat->List AV->Option (List AV)
 | 0,_=>some []
 | n+1,x::xs=>match takeN n xs with | some r=>some (x::r) | none=>none
 | _+1,[]=>none
def bC:List AV->Nat->Nat->Option (List AV)
 | l,0,n=>takeN n l
 | _::l,o+1,n=>bC l o n
 | [],_+1,n=>bif n.beq 0 then some []else none
def nth:List AV->Nat->Option AV
 | x::_,0=>some x
 | _::l,n+1=>nth l n
 | [],_=>none
def over:List AV->List AV->Option (List AV)
 | l,[]=>some l
 | _::l,y::ys=>match over l ys with | some r=>some (y::r) | none=>none
 | [],_::_=>none
def setAt:List AV->Nat->List AV->Option (List AV)
 | l,0,new=>over l new
 | x::l,n+1,new=>match setAt l n new with | some r=>some (x::r) | none=>none
 | [],_+1,_=>none
def Z9:List AV->Nat->Nat
 | [],n=>n
 | _::l,n=>Z9 l (Nat.succ n)
def rep:Nat->List AV->List AV
 | 0,_=>[]
 | n+1,z=>z++rep n z
def aW (X:Cx)(t:TypeId):Option AV:=
 match X.ty.get t with
 | some i=>match i.zero with | some z=>ofV z | none=>none
 | none=>none
def zKN (H:AH)(o:AObj):Option (Nat×AH):=
 match T.set 40 H.h H.next o with
 | some t=>some (H.next,⟨t,H.next+1⟩)
 | none=>none
def newA (H:AH)(o:AObj):Option (Nat×AH):=
 match T.get H.h H.next with
 | none=>zKN H o
 | some _=>none
theorem fY {H H':AH}{o:AObj}(h:newA H o=some (n,H')): ∃a,T.set 40 H.h H.next o=some a/\n=H.next/\H'=⟨a,H.next+1⟩/\T.get H.h H.next=none:=by
 unfold newA at h;split at h
 .rename_i f;unfold zKN at h;split at h
  .rename_i t j;simp only[zB,zU]at h;exact⟨t,j,h.1.symm,h.2.symm,f⟩
  .simp at h
 .simp at h
def fX (H:AH)(A:Nat)(o:AObj):Option AH:=
 match T.set 40 H.h A o with
 | some t=>some ⟨t,H.next⟩
 | none=>none
def fD (a:Nat->Option (Nat×Nat))(cells:List AV):List (Nat×AV)->Option (List AV)
 | []=>some cells
 | (i,v)::rest=>
  match a i with
  | none=>none
  | some (off,size)=>
   bif (Z9 (jU v) 0).beq size then
    match setAt cells off (jU v)with
    | some cells'=>fD a cells' rest
    | none=>none
   else none
def YR (X:Cx):List Field->Option (List (Nat×Nat))
 | []=>some []
 | f::fs=>match X.size f.type,YR X fs with
  | some n,some r=>some ((f.offset,n)::r)
  | _,_=>none
def zJY:List (Nat×Nat)->Nat->Option (Nat×Nat)
 | x::_,0=>some x
 | _::l,n+1=>zJY l n
 | [],_=>none
def uN (env:Env):List (Nat×Operand)->Option (List (Nat×AV))
 | []=>some []
 | (i,x)::r=>match opd env x,uN env r with
  | some v,some vs=>some ((i,v)::vs)
  | _,_=>none
def KE:IntKind->Nat
 | .i8 | .u8=>256
 | .i16 | .u16=>65536
 | .i32 | .u32=>4294967296
 | .i64 | .u64=>18446744073709551616
def zBZ:IntKind->Nat
 | .i8 | .u8=>128
 | .i16 | .u16=>32768
 | .i32 | .u32=>2147483648
 | .i64 | .u64=>9223372036854775808
def zL6 (k:IntKind):Int->Int
 | .ofNat m=>bif k.signed then(bif Nat.blt m (zBZ k)then .ofNat m else k.wrap (.ofNat m))else .ofNat (m % KE k)
 | .negSucc m=>bif k.signed&&Nat.blt m (zBZ k)then .negSucc m else k.wrap (.negSucc m)
def ilt:Int->Int->Bool
 | .ofNat m, .ofNat n=>Nat.blt m n
 | .ofNat _, .negSucc _=>false
 | .negSucc _, .ofNat _=>true
 | .negSucc m, .negSucc n=>Nat.blt n m
def ieq:Int->Int->Bool
 | .ofNat m, .ofNat n=>Nat.beq m n
 | .negSucc m, .negSucc n=>Nat.beq m n
 | _,_=>false
def keq:IntKind->IntKind->Bool
 | .i8, .i8 | .i16, .i16 | .i32, .i32 | .i64, .i64 | .u8, .u8 | .u16, .u16 | .u32, .u32 | .u64, .u64=>true
 | _,_=>false
def fN {α:Type}(n:Nat)(k:Nat->α):α:=Nat.rec (k 0) (fun m _=>k (Nat.succ m)) n
def fI {α:Type}(n:Int)(k:Int->α):α:=
 match n with
 | .ofNat m=>fN m fun m=>k (.ofNat m)
 | .negSucc m=>fN m fun m=>k (.negSucc m)
def mkI (k:IntKind)(n:Int):Option AV:=fI (zL6 k n) fun n=>some (.int k n)
def mkB (b:Bool):Option AV:=match b with | true=>some (.bool true) | false=>some (.bool false)
def mkS (len a:Nat):Option AV:=fN len fun len=>fN a fun a=>some (.str len a)
def zBn:Nat->Nat->Nat->Nat->Bool
 | _,_,0,_=>false
 | 0,_,_+1,_=>true
 | l+1,b,m+1,c=>Nat.blt (b % 256) (c % 256)||(Nat.beq (b % 256) (c % 256)&&zBn l (b / 256) m (c / 256))
def Q1 (f:BinOp)(k:IntKind)(a b:Int):Option AV:=
 match f,a,b with
 | .and, .ofNat m, .ofNat n=>bif !k.signed&&Nat.blt m (KE k)&&Nat.blt n (KE k)then mkI k (.ofNat (Nat.land m n))else slow
 | .or, .ofNat m, .ofNat n=>bif !k.signed&&Nat.blt m (KE k)&&Nat.blt n (KE k)then mkI k (.ofNat (Nat.lor m n))else slow
 | .xor, .ofNat m, .ofNat n=>bif !k.signed&&Nat.blt m (KE k)&&Nat.blt n (KE k)then mkI k (.ofNat (Nat.xor m n))else slow
 | _,_,_=>slow
where slow:Option AV:=
 match f with
 | .and=>fI (k.wrap (BitVec.ofInt k.bits a&&& BitVec.ofInt k.bits b).toNat) fun n=>some (.int k n)
 | .or=>fI (k.wrap (BitVec.ofInt k.bits a||| BitVec.ofInt k.bits b).toNat) fun n=>some (.int k n)
 | .xor=>fI (k.wrap (BitVec.ofInt k.bits a ^^^ BitVec.ofInt k.bits b).toNat) fun n=>some (.int k n)
 | .andNot=>fI (k.wrap (BitVec.ofInt k.bits a&&& ~~~ BitVec.ofInt k.bits b).toNat) fun n=>some (.int k n)
 | _=>none
def fF (f:BinOp)(k:IntKind)(a:Int)(k':IntKind)(b:Int):Option AV:=
 match f with
 | .shl=>match b with
  | .ofNat n=>mkI k (a*(2 ^ (Nat.min n k.bits):Nat))
  | .negSucc _=>none
 | .shr=>match b with
  | .ofNat n=>fI (a.fdiv ((2 ^ (Nat.min n k.bits):Nat):Int)) fun r=>some (.int k r)
  | .negSucc _=>none
 | _=>bif keq k k' then
   match f with
   | .add=>mkI k (a+b)
   | .sub=>mkI k (a - b)
   | .mul=>mkI k (a*b)
   | .quo=>bif ieq b 0 then none else mkI k (a.tdiv b)
   | .rem=>bif ieq b 0 then none else fI (a.tmod b) fun r=>some (.int k r)
   | .and | .or | .xor | .andNot=>Q1 f k a b
   | .eql=>mkB (ieq a b)
   | .neq=>mkB (!ieq a b)
   | .lss=>mkB (ilt a b)
   | .leq=>mkB (!ilt b a)
   | .gtr=>mkB (ilt b a)
   | .geq=>mkB (!ilt a b)
   | _=>none
  else none
def VZ (a:BinOp)(l b m c:Nat):Option AV:=
 match a with
 | .add=>bif Nat.blt (l+m) 4611686018427387904 then mkS (l+m) (b+c*2 ^ (8*l))else none
 | .eql=>mkB (Nat.beq l m&&Nat.beq b c)
 | .neq=>mkB !(Nat.beq l m&&Nat.beq b c)
 | .lss=>mkB (zBn l b m c)
 | .leq=>mkB (zBn l b m c||(Nat.beq l m&&Nat.beq b c))
 | .gtr=>mkB !(zBn l b m c||(Nat.beq l m&&Nat.beq b c))
 | .geq=>mkB !(zBn l b m c)
 | _=>none
def aeq (X:Cx):Nat->TypeId->AV->AV->Option Bool
 | 0,_,_,_=>none
 | d+1,t,x,y=>
  match X.und t with
  | some .bool=>match x,y with
   | .bool a, .bool b=>some (a==b)
   | _,_=>none
  | some (.int _)=>match x,y with
   | .int k a, .int k' b=>bif keq k k' then some (ieq a b)else none
   | _,_=>none
  | some .string=>match x,y with
   | .str l b, .str m c=>some (Nat.beq l m&&Nat.beq b c)
   | _,_=>none
  | some (.pointer e)=>match x,y with
   | .nP, .nP=>some true
   | .nP, .ptr _ _=>some false
   | .ptr _ _, .nP=>some false
   | .ptr A o, .ptr B p=>match X.size e with
    | some 0=>none
    | some _=>bif Nat.beq A B then some (Nat.beq o p)else none
    | none=>none
   | _,_=>none
  | some (.slice _)=>match x,y with
   | .nS, .nS=>some true
   | .nS, .slice _ _ _ _=>some false
   | .slice _ _ _ _, .nS=>some false
   | _,_=>none
  | some (.map _ _)=>match x,y with
   | .nM, .nM=>some true
   | .nM, .map _=>some false
   | .map _, .nM=>some false
   | _,_=>none
  | some (.func _ _ _)=>match x,y with
   | .nilFunc, .nilFunc=>some true
   | .nilFunc, .func _ _ _=>some false
   | .func _ _ _, .nilFunc=>some false
   | _,_=>none
  | _=>none
def JV (q:Nat)(x y:AV):Option Bool:=
 match x,y with
 | .bool a, .bool b=>bif Nat.beq q 0 then some (a==b)else none
 | .int k a, .int k' b=>bif Nat.beq q (ZP k)&&keq k k' then some (ieq a b)else none
 | .str l b, .str m c=>bif Nat.beq q 2 then some (Nat.beq l m&&Nat.beq b c)else none
 | _,_=>none
def uC:List Nat->List AV->List AV->Option Bool
 | [],[],[]=>some true
 | q::qs,x::xs,y::ys=>match JV q x y with
  | some true=>uC qs xs ys
  | some false=>some false
  | none=>none
 | _,_,_=>none
def zDv (t:Nat):List (TypeId×List Nat)->Option (List Nat)
 | []=>none
 | (i,qs)::l=>bif Nat.beq i t then some qs else zDv t l
def zJM (X:Cx)(f:BinOp)(t:TypeId)(a b:List AV):Option AV:=
 match zDv t X.fl with
 | some qs=>bif Nat.beq (Z9 a 0) (Z9 b 0)&&Nat.beq qs.length (Z9 a 0)then
   match uC qs a b with
   | some r=>match f with
    | .eql=>mkB r
    | .neq=>mkB !r
    | _=>none
   | none=>none
  else none
 | none=>none
def wM:AV->Bool
 | .int _ _=>false
 | .str _ _=>false
 | .agg _=>false
 | .nilIface=>false
 | .iface _ _=>false
 | .tuple _=>false
 | .val _=>false
 | _=>true
def zCU (X:Cx)(a:BinOp)(t:TypeId)(x y:AV):Option AV:=
 match a with
 | .eql=>match aeq X 9 t x y with | some b=>mkB b | none=>none
 | .neq=>match aeq X 9 t x y with | some b=>mkB !b | none=>none
 | _=>none
def zJN (X:Cx)(f:BinOp)(t:TypeId)(x y:AV):Option AV:=
 match x,y with
 | .int k a, .int k' b=>fF f k a k' b
 | .str l b, .str m c=>VZ f l b m c
 | .agg a, .agg b=>zJM X f t a b
 | x,y=>bif wM x then zCU X f t x y else none
def aun (a:UnOp)(x:AV):Option AV:=
 match a,x with
 | .neg, .int k n=>mkI k (0 - n)
 | .not, .bool b=>mkB !b
 | _,_=>none
def VF (X:Cx)(t:TypeId)(p:AV)(H:AH):Option AV:=
 match p with
 | .ptr A off=>match H.h.get A with
  | some (.cells l _ _ _)=>match X.und t with
   | some d=>bif dI d then
     match X.size t with
     | some n=>match bC l off n with | some c=>some (.agg c) | none=>none
     | none=>none
    else nth l off
   | none=>none
  | _=>none
 | _=>none
def zCL (X:Cx)(t:TypeId)(p x:AV)(H:AH):Option AH:=
 match p with
 | .ptr A off=>match H.h.get A with
  | some (.cells l e sz g)=>match X.size t with
   | some n=>bif (Z9 (jU x) 0).beq n&&jP (jU x)&&Nat.blt 0 sz then
     match setAt l off (jU x)with
     | some l'=>fX H A (.cells l' e sz g)
     | none=>none
    else none
   | none=>none
  | _=>none
 | _=>none
def bytesOf:Nat->Nat->List AV
 | 0,_=>[]
 | l+1,b=> .int .u8 (.ofNat (b % 256))::bytesOf l (b / 256)
def QI:List AV->Option (Nat×Nat)
 | []=>some (0,0)
 | .int .u8 (.ofNat m)::l=>bif Nat.blt m 256 then
   match QI l with
   | some (n,b)=>fN n fun n=>fN b fun b=>some (n+1,m+256*b)
   | none=>none
  else none
 | _=>none
def zA1 (X:Cx)(a dst:TypeId)(x:AV):Option AV:=
 match X.und a with
 | none=>none
 | some ds=>match X.und dst with
  | some (.int k)=>match x with
   | .int _ n=>mkI k n
   | _=>none
  | some .string=>match ds,x with
   | .string, .str l b=>some (.str l b)
   | _,_=>none
  | _=>none
def JX (X:Cx)(a dst:TypeId)(x:AV)(H:AH):Option AV:=
 match X.und a with
 | some (.slice e)=>match X.und dst with
  | some .string=>match X.und e with
   | some (.int .u8)=>match x with
    | .nS=>some (.str 0 0)
    | .slice A off len _=>match H.h.get A with
     | some (.cells l _ _ _)=>match bC l off len with
      | some c=>match QI c with
       | some (n,b)=>mkS n b
       | none=>none
      | none=>none
     | _=>none
    | _=>none
   | _=>none
  | _=>none
 | _=>none
def zCT (X:Cx)(a dst:TypeId)(x:AV):Option (AObj×(Nat->AV)):=
 match X.und a with
 | some .string=>match X.und dst with
  | some (.slice e)=>match X.und e with
   | some (.int .u8)=>match x with
    | .str l b=>bif Nat.blt l 4611686018427387904 then some (.cells (bytesOf l b) e 1 true,fun A=> .slice A 0 l 1)else none
    | _=>none
   | _=>none
  | _=>none
 | _=>none
def YW:AV->Option Nat
 | .int _ (.ofNat n)=>some n
 | _=>none
def kY:Option AV->Option (Option Nat)
 | none=>some none
 | some v=>match YW v with | some n=>some (some n) | none=>none
def zJH (len a:Nat)(lo hi:Option Nat):Option AV:=
 let l:=lo.getD 0
 let h:=hi.getD len
 bif Nat.ble h len&&Nat.ble l h then mkS (h - l) ((a / 2 ^ (8*l)) % 2 ^ (8*(h - l)))else none
def JC (A off len cc sz room:Nat)(lo hi a:Option Nat):Option AV:=
 let l:=lo.getD 0
 let h:=hi.getD len
 match a with
 | some m=>match hi with
  | some h=>
   bif Nat.ble m room&&Nat.ble h m&&Nat.ble l h then
    fN (bif m.beq l then off else off+l*sz) fun o=>fN (h - l) fun n=>fN (2*(m - l)) fun c=>some (.slice A o n c)
   else none
  | none=>none
 | none=>
  bif Nat.ble h room&&Nat.ble l h then
   bif (cc % 2).beq 0 then
    fN (bif (cc / 2).beq l then off else off+l*sz) fun o=>fN (h - l) fun n=>fN (2*(cc / 2 - l)) fun c=>some (.slice A o n c)
   else
    bif l.beq 0 then fN h fun n=>some (.slice A off n cc)
    else bif Nat.blt l h then fN (off+l*sz) fun o=>fN (h - l) fun n=>fN (cc+2*l) fun c=>some (.slice A o n c)
    else some .eS
  else none
def kQ (l:List AV)(g:Bool)(a off cc sz:Nat):Nat:=
 bif (cc % 2).beq 0 then cc / 2 else bif g&&Nat.beq a sz&&Nat.beq off (cc / 2*sz)then(Z9 l 0 - off) / sz else 0
def ZE (X:Cx)(t:TypeId)(x:AV)(lo hi a:Option AV)(H:AH):Option AV:=
 match kY lo,kY hi,kY a with
 | some lo,some hi,some a=>
  match X.und t,x with
  | some .string, .str len bits=>match a with | none=>zJH len bits lo hi | some _=>none
  | some (.slice e), .nS=>match X.size e with
   | some _=>bif (lo.getD 0).beq 0&&(hi.getD 0).beq 0&&(a.getD 0).beq 0&&(a.isNone||hi.isSome)then some .nS else none
   | none=>none
  | some (.slice e), .slice A off len cc=>match X.size e with
   | some sz=>match H.h.get A with
    | some (.cells l _ sz' g)=>bif Nat.blt 0 sz then JC A off len cc sz (kQ l g sz' off cc sz) lo hi a else none
    | _=>none
   | none=>none
  | some (.slice e), .eS=>match X.size e with
   | some _=>match a with
    | none=>bif (lo.getD 0).beq 0&&(hi.getD 0).beq 0 then some .eS else none
    | some _=>none
   | none=>none
  | some (.array n e), .ptr A off=>match X.size e with
   | some sz=>bif Nat.blt 0 sz then JC A off n (2*n) sz n lo hi a else none
   | none=>none
  | some (.pointer arr), .ptr A off=>match X.und arr with
   | some (.array n e)=>match X.size e with
    | some sz=>bif Nat.blt 0 sz then JC A off n (2*n) sz n lo hi a else none
    | none=>none
   | _=>none
  | _,_=>none
 | _,_,_=>none
def bG (X:Cx)(t:TypeId)(x a:AV):Option AV:=
 match YW a with
 | some i=>match X.und t,x with
  | some (.array n e), .ptr A off=>match X.size e with
   | some sz=>bif Nat.blt i n then fN (off+i*sz) fun o=>some (.ptr A o)else none
   | none=>none
  | some (.slice e), .slice A off len _=>match X.size e with
   | some sz=>bif Nat.blt i len then fN (off+i*sz) fun o=>some (.ptr A o)else none
   | none=>none
  | _,_=>none
 | none=>none
def VG (X:Cx)(t:TypeId)(x a:AV):Option AV:=
 match YW a with
 | some i=>match X.und t,x with
  | some .string, .str len bits=>bif Nat.blt i len then fN ((bits / 2 ^ (8*i)) % 256) fun b=>some (.int .u8 (.ofNat b))else none
  | some (.array n e), .agg cs=>match X.und e,X.size e with
   | some d,some sz=>bif Nat.blt i n then
     bif dI d then match bC cs (i*sz) sz with | some c=>some (.agg c) | none=>none
     else nth cs (i*sz)
    else none
   | _,_=>none
  | _,_=>none
 | none=>none
def zNY:List Field->Nat->Option Field
 | x::_,0=>some x
 | _::l,n+1=>zNY l n
 | [],_=>none
def BY (X:Cx)(t:TypeId)(x:AV)(f:Nat):Option AV:=
 match X.und t,x with
 | some (.struct fs), .agg cs=>match zNY fs.toList f with
  | some fl=>match X.und fl.type,X.size fl.type with
   | some d,some n=>bif dI d then match bC cs fl.offset n with | some c=>some (.agg c) | none=>none
     else nth cs fl.offset
   | _,_=>none
  | none=>none
 | _,_=>none
def fU (X:Cx)(s:TypeId)(x:AV)(f:Nat):Option AV:=
 match X.und s,x with
 | some (.struct fs), .ptr A off=>match zNY fs.toList f with
  | some fl=>match X.size fl.type with
   | some 0=>none
   | some _=>fN (off+fl.offset) fun o=>some (.ptr A o)
   | none=>none
  | none=>none
 | _,_=>none
def zDP (X:Cx)(t:TypeId)(x:AV)(H:AH):Option AV:=
 match X.und t,x with
 | some .string, .str l _=>some (.int .i64 (.ofNat l))
 | some (.slice _), .nS=>some (.int .i64 0)
 | some (.slice _), .slice _ _ n _=>some (.int .i64 (.ofNat n))
 | some (.slice _), .eS=>some (.int .i64 0)
 | some (.array n _),_=>some (.int .i64 (.ofNat n))
 | some (.map _ _), .nM=>some (.int .i64 0)
 | some (.map _ _), .map A=>match H.h.get A with
  | some (.map _ es)=>some (.int .i64 (.ofNat es.length))
  | _=>none
 | _,_=>none
def zOZ (X:Cx)(t:TypeId)(x:AV):Option AV:=
 match X.und t,x with
 | some (.slice _), .nS=>some (.int .i64 0)
 | some (.slice _), .slice _ _ _ cc=>bif (cc % 2).beq 0 then fN (cc / 2) fun n=>some (.int .i64 (.ofNat n))else none
 | _,_=>none
def kOf (X:Cx)(kt:TypeId):Option (List Nat):=
 match X.und kt with
 | some .bool=>some [0]
 | some (.int k)=>some [ZP k]
 | some .string=>some [2]
 | some (.struct _)=>match zDv kt X.fl with | some qs=>some (1::qs) | none=>none
 | some (.array _ _)=>match zDv kt X.fl with | some qs=>some (1::qs) | none=>none
 | _=>none
def Y4:List Nat->List Nat->Bool
 | [],[]=>true
 | x::a,y::b=>Nat.beq x y&&Y4 a b
 | _,_=>false
mutual
def aveq:AV->AV->Bool
 | .bool a, .bool b=>a==b
 | .int k a, .int k' b=>keq k k'&&ieq a b
 | .str l b, .str m c=>Nat.beq l m&&Nat.beq b c
 | .nP, .nP=>true
 | .ptr a o, .ptr b p=>Nat.beq a b&&Nat.beq o p
 | .nS, .nS=>true
 | .eS, .eS=>true
 | .slice a b c d, .slice a' b' c' d'=>Nat.beq a a'&&Nat.beq b b'&&Nat.beq c c'&&Nat.beq d d'
 | .nM, .nM=>true
 | .map a, .map b=>Nat.beq a b
 | .func f a b, .func g c d=>Nat.beq f g&&aZ a c&&aZ b d
 | .yT a, .yT b=>Nat.beq a b
 | .nilFunc, .nilFunc=>true
 | .iface t x, .iface u y=>Nat.beq t u&&aveq x y
 | .nilIface, .nilIface=>true
 | .agg a, .agg b=>aZ a b
 | .tuple a, .tuple b=>aZ a b
 | _,_=>false
def aZ:List AV->List AV->Bool
 | [],[]=>true
 | x::xs,y::ys=>aveq x y&&aZ xs ys
 | _,_=>false
end
def wB (k:AV):List (AV×AV)->Option AV
 | []=>none
 | (a,b)::l=>bif aveq k a then some b else wB k l
def K1 (k v:AV):List (AV×AV)->Option (List (AV×AV))
 | []=>none
 | (a,b)::l=>bif aveq k a then some ((a,v)::l)else match K1 k v l with | some r=>some ((a,b)::r) | none=>none
def zJ8 (k:AV):List (AV×AV)->Option (List (AV×AV))
 | []=>none
 | (a,b)::l=>bif aveq k a then some l else match zJ8 k l with | some r=>some ((a,b)::r) | none=>none
def lkR (ok:Bool)(a:Bool)(v:AV):AV:=bif a then .tuple [v, .bool ok]else v
def lkM (ks:List Nat)(z:AV)(a:Bool)(x k:AV)(H:AH):Option AV:=
 bif xO ks k then
  match x with
  | .nM=>some (lkR false a z)
  | .map A=>match H.h.get A with
   | some (.map ks' es)=>bif Y4 ks ks' then
     match wB k es with
     | some v=>some (lkR true a v)
     | none=>some (lkR false a z)
    else none
   | _=>none
  | _=>none
 else none
def upM (ks:List Nat)(x k v:AV)(H:AH):Option (AV×AH):=
 bif xO ks k then
  match x with
  | .map A=>match H.h.get A with
   | some (.map ks' es)=>bif Y4 ks ks' then
     match K1 k v es with
     | some es'=>match fX H A (.map ks es')with | some H'=>some (jQ,H') | none=>none
     | none=>match fX H A (.map ks (es++[(k,v)]))with | some H'=>some (jQ,H') | none=>none
    else none
   | _=>none
  | _=>none
 else none
def dlM (ks:List Nat)(x k:AV)(H:AH):Option (AV×AH):=
 bif xO ks k then
  match x with
  | .nM=>some (.tuple [],H)
  | .map A=>match H.h.get A with
   | some (.map ks' es)=>bif Y4 ks ks' then
     match zJ8 k es with
     | some es'=>match fX H A (.map ks es')with | some H'=>some (.tuple [],H') | none=>none
     | none=>some (.tuple [],H)
    else none
   | _=>none
  | _=>none
 else none
def clM (x:AV)(H:AH):Option (AV×AH):=match x with
 | .nM=>some (.tuple [],H)
 | .map A=>match H.h.get A with
  | some (.map ks _)=>match fX H A (.map ks [])with | some H'=>some (.tuple [],H') | none=>none
  | _=>none
 | _=>none
def srcOf (sz:Nat)(x:AV)(H:AH):Option (Nat×List AV):=
 match x with
 | .nS=>some (0,[])
 | .eS=>some (0,[])
 | .slice A off n _=>match H.h.get A with
  | some (.cells l _ _ _)=>match bC l off (n*sz)with | some c=>some (n,c) | none=>none
  | _=>none
 | .str l b=>bif sz.beq 1 then some (l,bytesOf l b)else none
 | _=>none
def Z4 (a e sz:Nat)(cells:List AV)(H:AH):Option (AV×AH):=
 match newA H (.cells cells e sz true)with
 | some (A,H')=>fN a fun n=>some (.slice A 0 n 1,H')
 | none=>none
def roomy (a bytes:Nat):Bool:=Nat.ble ((a+a / 4+192)*bytes) 281474976710656&&Nat.blt a 4611686018427387904
def vU (a e sz bytes:Nat)(old:Option (List AV))(new:List AV)(H:AH):Option (AV×AH):=
 bif roomy a bytes then
  match old with
  | some old=>Z4 a e sz (old++new) H
  | none=>none
 else none
def zCO (A off len cc n f a:Nat)(g:Bool)(l':Option (List AV))(H:AH):Option (AV×AH):=
 match l' with
 | some l'=>match fX H A (.cells l' f a g)with
  | some H'=>fN (len+n) fun m=>some (.slice A off m cc,H')
  | none=>none
 | none=>none
def zGg (e sz bytes n:Nat)(new:List AV)(A off len cc:Nat)(l:List AV)(f a:Nat)(g:Bool)(H:AH):Option (AV×AH):=
 bif Nat.ble (len+n) (kQ l g a off cc sz)then zCO A off len cc n f a g (bif Nat.blt 0 a then setAt l (off+len*sz) new else none) H
 else bif (cc % 2).beq 0 then vU (len+n) e sz bytes (bC l off (len*sz)) new H
 else bif g&&Nat.beq (off+len*sz) (Z9 l 0)&&Nat.beq e f&&Nat.beq a sz&&Nat.beq off (cc / 2*sz)then
  match fX H A .dead with
  | some H1=>vU (len+n) e sz bytes (bC l off (len*sz)) new H1
  | none=>none
 else none
def app1 (e sz bytes n:Nat)(new:List AV)(s:AV)(H:AH):Option (AV×AH):=
 match s with
 | .nS=>bif n.beq 0 then some (.nS,H)else vU n e sz bytes (some []) new H
 | .eS=>bif n.beq 0 then some (.eS,H)else none
 | .slice A off len cc=>match H.h.get A with
  | some (.cells l e' sz' g)=>zGg e sz bytes n new A off len cc l e' sz' g H
  | _=>none
 | _=>none
def KW (sz:Nat)(z:Option Value):Bool:=
 match z with
 | some z=>match ofV z with
  | some za=>Nat.blt 0 sz&&Nat.beq (Z9 (jU za) 0) sz
  | none=>false
 | none=>false
def d9 (X:Cx)(t:TypeId)(s x:AV)(H:AH):Option (AV×AH):=
 match X.und t with
 | some (.slice e)=>match X.ty.get e with
  | some ti=>bif KW ti.size ti.zero then
    match srcOf ti.size x H with
    | some (n,new)=>bif jP new then app1 e ti.size ti.bytes n new s H else none
    | none=>none
   else none
  | none=>none
 | _=>none
def zJO (X:Cx)(t:TypeId)(s x:AV)(H:AH):Option (AV×AH):=
 match X.und t with
 | some (.slice e)=>match X.ty.get e with
  | some ti=>match aW X e with
   | some z=>bif KW ti.size ti.zero then
     match x with
     | .int .i64 (.ofNat n)=>bif Nat.ble (n*ti.bytes) 281474976710656&&Nat.blt n 4611686018427387904&&jP (jU z)then app1 e ti.size ti.bytes n (rep n (jU z)) s H else none
     | _=>none
    else none
   | none=>none
  | none=>none
 | _=>none
def zGc (X:Cx)(t:TypeId)(dst a:AV)(H:AH):Option (AV×AH):=
 match X.und t with
 | some (.slice e)=>match X.size e with
  | some sz=>match dst with
   | .nS=>match a with
    | .nS=>some (.int .i64 0,H)
    | .slice _ _ _ _=>some (.int .i64 0,H)
    | .str _ _=>some (.int .i64 0,H)
    | _=>none
   | .slice A off len _=>match srcOf sz a H with
    | some (n,new)=>
     let m:=Nat.min n len
     match takeN (m*sz) new with
     | some new=>bif jP new then
       match H.h.get A with
       | some (.cells l e' sz' g)=>match(bif Nat.blt 0 sz' then setAt l off new else none)with
        | some l'=>match fX H A (.cells l' e' sz' g)with
         | some H'=>fN m fun m=>some (.int .i64 (.ofNat m),H')
         | none=>none
        | none=>none
       | _=>none
      else none
     | none=>none
    | none=>none
   | _=>none
  | none=>none
 | _=>none
def dK (env:Env):Option Operand->Option (Option AV)
 | none=>some none
 | some y=>match opd env y with | some b=>some (some b) | none=>none
def zFL (env:Env)(c a b:Operand):Option AV:=
 match opd env c with
 | some (.bool true)=>opd env a
 | some (.bool false)=>opd env b
 | _=>none
def JI (X:Cx)(env:Env)(t:TypeId)(ps:Array (Nat×Operand)):Option AV:=
 match aW X t with
 | some z=>match uN env ps.toList with
  | some parts=>match X.und t with
   | some (.struct fs)=>match YR X fs.toList with
    | some pl=>match fD (zJY pl) (jU z) parts with | some c=>some (.agg c) | none=>none
    | none=>none
   | some (.array _ e)=>match X.size e with
    | some sz=>match fD (fun i=>some (i*sz,sz)) (jU z) parts with | some c=>some (.agg c) | none=>none
    | none=>none
   | _=>none
  | none=>none
 | none=>none
def uW (x:AV):Option AV:=
 match x with
 | .ptr A off=>some (.ptr A off)
 | .func f a b=>some (.func f a b)
 | .yT A=>some (.yT A)
 | _=>none
def zFM (env:Env)(f:FuncId)(first cap:Array Operand):Option AV:=
 match zCX env first.toList with
 | some a=>match zCX env cap.toList with
  | some b=>some (.func f a b)
  | none=>none
 | none=>none
def zPY (X:Cx)(arr:TypeId)(x:AV):Option AV:=
 match x with
 | .slice A off len _=>match X.und arr with
  | some (.array n _)=>bif Nat.ble n len then some (.ptr A off)else none
  | _=>none
 | _=>none
def jN (x:AV)(i:Nat):Option AV:=
 match x with
 | .tuple vs=>nth vs i
 | _=>none
def b1 (x:Option AV)(f:AV->Option AV):Option AV:=match x with | some a=>f a | none=>none
def b2 (x y:Option AV)(f:AV->AV->Option AV):Option AV:=
 match x with
 | some a=>match y with | some b=>f a b | none=>none
 | none=>none
def aA1 (e:TypeId)(x:Option AV):Option (AObj×(Nat->AV)):=
 match x with
 | some z=>some (.cells (jU z) e 1 false,fun A=> .ptr A 0)
 | none=>none
def Q9 (X:Cx)(env:Env)(t:TypeId)(len:Nat)(ps:Array (Nat×Operand)):Option (AObj×(Nat->AV)):=
 match X.und t with
 | some (.slice e)=>match uN env ps.toList with
  | some parts=>match X.size e with
   | some sz=>match aW X e with
    | some z=>bif Nat.ble (len*sz) 16777216&&Nat.blt 0 sz&&Nat.beq (Z9 (jU z) 0) sz then
      match fD (fun i=>some (i*sz,sz)) (rep len (jU z)) parts with
      | some c=>some (.cells c e sz false,fun A=> .slice A 0 len (2*len))
      | none=>none
     else none
    | none=>none
   | none=>none
  | none=>none
 | _=>none
def zA2 (X:Cx)(t:TypeId)(l c:Option AV):Option (AObj×(Nat->AV)):=
 match l with
 | some (.int .i64 (.ofNat n))=>match c with
  | some (.int .i64 (.ofNat m))=>match X.und t with
   | some (.slice e)=>match X.ty.get e with
    | some ti=>match aW X e with
     | some z=>bif Nat.ble n m&&Nat.ble (m*ti.bytes) 140737488355328&&Nat.blt m 9223372036854775808&&Nat.blt 0 ti.size&&Nat.beq (Z9 (jU z) 0) ti.size then
       some (.cells (rep m (jU z)) e ti.size false,fun A=> .slice A 0 n (2*m))
      else none
     | none=>none
    | none=>none
   | _=>none
  | _=>none
 | _=>none
inductive Cls where
 | P | L | A | E | C
def zJi (X:Cx)(s d:TypeId):Cls:=
 match X.und s with
 | some (.slice _)=> .L
 | some .string=>match X.und d with
  | some (.slice _)=> .A
  | _=> .P
 | _=> .P
def clsB:Builtin->Cls
 | .len=> .L
 | .cap=> .P
 | .min=> .P
 | .max=> .P
 | _=> .E
def zAQ:Callee->Cls
 | .value _=> .C
 | .invoke _ _=> .C
 | .builtin b=>clsB b
def zQm:Operand->Bool
 | .const _=>true
 | _=>false
def zHB (X:Cx)(t:TypeId)(x y:Operand):Bool:=match X.und t with
 | some (.pointer _)=> !(zQm x||zQm y)
 | _=>false
def QS (A:Nat)(H:AH):Bool:=match H.h.get A with
 | some o=>match o with | .cells _ _ sz g=>Nat.blt 0 sz&& !g | _=>false
 | none=>false
def pNe (a:BinOp)(x y:AV)(H:AH):Option AV:=match x with
 | .ptr A _=>match y with
  | .ptr B _=>bif QS A H&&(QS B H&& !Nat.beq A B)then
    (match a with | .eql=>mkB false | .neq=>mkB true | _=>none)
   else none
  | _=>none
 | _=>none
def zAX (X:Cx)(a:BinOp)(t:TypeId)(x y:AV)(H:AH):Option AV:=match zJN X a t x y with
 | some r=>some r
 | none=>match X.und t with
  | some (.pointer e)=>match X.size e with
   | some 0=>none
   | some _=>pNe a x y H
   | none=>none
  | _=>none
def cls (X:Cx):Op->Cls
 | .move _=> .P
 | .assign _=> .P
 | .pick _ _ _=> .P
 | .build _ _=> .P
 | .nilCheck _=> .P
 | .binOp _ t x y _=>bif zHB X t x y then .L else .P
 | .unOp _ _ _=> .P
 | .makeFunc _ _ _=> .P
 | .fieldAddr _ _ _=> .P
 | .field _ _ _=> .P
 | .indexAddr _ _ _=> .P
 | .index _ _ _=> .P
 | .sliceToArrayPointer _ _=> .P
 | .extract _ _=> .P
 | .load _ _=> .L
 | .lookup _ _ _ _=> .L
 | .slice _ _ _ _ _=> .L
 | .makeMap _ _=> .A
 | .alloc _=> .A
 | .box _ _=> .A
 | .buildSlice _ _ _=> .A
 | .makeSlice _ _ _=> .A
 | .convert s d _=>zJi X s d
 | .call c=>zAQ c.callee
 | _=> .E
def mn2 (x y:AV):Option AV:=match x with
 | .int k a=>match y with | .int _ b=>bif ilt b a then some (.int k b)else some (.int k a) | _=>none
 | _=>none
def mx2 (x y:AV):Option AV:=match x with
 | .int k a=>match y with | .int _ b=>bif ilt a b then some (.int k b)else some (.int k a) | _=>none
 | _=>none
def zJC (X:Cx)(t:TypeId)(a:Bool)(x k:AV)(H:AH):Option AV:=match X.und t with
 | some (.map kt et)=>match kOf X kt with
  | some ks=>match aW X et with
   | some z=>lkM ks z a x k H
   | none=>none
  | none=>none
 | _=>none
def aMap (X:Cx)(t:TypeId):Option (AObj×(Nat->AV)):=match X.und t with
 | some (.map kt _)=>match kOf X kt with
  | some ks=>some (.map ks [],fun A=> .map A)
  | none=>none
 | _=>none
def aup (X:Cx)(t:TypeId)(x k v:AV)(H:AH):Option (AV×AH):=match X.und t with
 | some (.map kt _)=>match kOf X kt with
  | some ks=>upM ks x k v H
  | none=>none
 | _=>none
def adl (X:Cx)(t:TypeId)(x k:AV)(H:AH):Option (AV×AH):=match X.und t with
 | some (.map kt _)=>match kOf X kt with
  | some ks=>dlM ks x k H
  | none=>none
 | _=>none
def acl (X:Cx)(t:TypeId)(x:AV)(H:AH):Option (AV×AH):=match X.und t with
 | some (.map _ _)=>clM x H
 | _=>none
def c1 (x:Option AV)(f:AV->Option (AV×AH)):Option (AV×AH):=match x with | some a=>f a | none=>none
def c2 (x y:Option AV)(f:AV->AV->Option (AV×AH)):Option (AV×AH):=match x with
 | some a=>match y with | some b=>f a b | none=>none
 | none=>none
def c3 (x y z:Option AV)(f:AV->AV->AV->Option (AV×AH)):Option (AV×AH):=match x with
 | some a=>match y with
  | some b=>match z with | some c=>f a b c | none=>none
  | none=>none
 | none=>none
def aP (X:Cx)(env:Env):Op->Option AV
 | .move x=>opd env x
 | .assign x=>opd env x
 | .pick c a b=>zFL env c a b
 | .build t ps=>JI X env t ps
 | .nilCheck x=>b1 (opd env x) uW
 | .binOp op t x y _=>b2 (opd env x) (opd env y) (zJN X op t)
 | .unOp op _ x=>b1 (opd env x) (aun op)
 | .convert s d x=>b1 (opd env x) (zA1 X s d)
 | .makeFunc (.func f) first cap=>zFM env f first cap
 | .fieldAddr s x f=>b1 (opd env x) (fU X s · f)
 | .field t x f=>b1 (opd env x) (BY X t · f)
 | .indexAddr t x i=>b2 (opd env x) (opd env i) (bG X t)
 | .index t x i=>b2 (opd env x) (opd env i) (VG X t)
 | .sliceToArrayPointer arr x=>b1 (opd env x) (zPY X arr)
 | .extract x i=>b1 (opd env x) (jN · i)
 | .call c=>match c.callee with
  | .builtin .cap=>match c.args.toList with
   | [x]=>match c.argTypes.toList with
    | t::_=>b1 (opd env x) (zOZ X t)
    | _=>none
   | _=>none
  | .builtin .min=>match c.args.toList with
   | [x,y]=>b2 (opd env x) (opd env y) mn2
   | _=>none
  | .builtin .max=>match c.args.toList with
   | [x,y]=>b2 (opd env x) (opd env y) mx2
   | _=>none
  | _=>none
 | _=>none
def ZA (X:Cx)(env:Env)(t:TypeId)(x:Operand)(lo hi f:Option Operand)(H:AH):Option AV:=
 match opd env x with
 | some a=>match dK env lo with
  | some lo=>match dK env hi with
   | some hi=>match dK env f with
    | some f=>ZE X t a lo hi f H
    | none=>none
   | none=>none
  | none=>none
 | none=>none
def aL (X:Cx)(env:Env)(H:AH):Op->Option AV
 | .load t a=>b1 (opd env a) (VF X t · H)
 | .slice t x lo hi mx=>ZA X env t x lo hi mx H
 | .lookup t x k ok=>b2 (opd env x) (opd env k) (zJC X t ok · · H)
 | .convert s d x=>b1 (opd env x) (JX X s d · H)
 | .binOp op t x y _=>b2 (opd env x) (opd env y) (zAX X op t · · H)
 | .call c=>match c.callee with
  | .builtin .len=>match c.args.toList with
   | [x]=>match c.argTypes.toList with
    | t::_=>b1 (opd env x) (zDP X t · H)
    | _=>none
   | _=>none
  | _=>none
 | _=>none
def aA (X:Cx)(env:Env):Op->Option (AObj×(Nat->AV))
 | .alloc e=>aA1 e (aW X e)
 | .box e x=>aA1 e (opd env x)
 | .buildSlice t len ps=>Q9 X env t len ps
 | .makeSlice t l c=>zA2 X t (opd env l) (opd env c)
 | .convert s d x=>match opd env x with | some a=>zCT X s d a | none=>none
 | .makeMap t none=>aMap X t
 | _=>none
def BK (X:Cx)(t:TypeId)(p y:Option AV)(H:AH):Option (AV×AH):=
 match p with
 | some p=>match y with
  | some y=>match zCL X t p y H with | some H'=>some (jQ,H') | none=>none
  | none=>none
 | none=>none
def cV (X:Cx)(t u:TypeId)(s x:Option AV)(H:AH):Option (AV×AH):=
 match s with
 | some a=>match x with
  | some b=>match X.und u with
   | some (.slice _)=>d9 X t a b H
   | some .string=>d9 X t a b H
   | some (.int _)=>zJO X t a b H
   | _=>none
  | none=>none
 | none=>none
def zIZ (X:Cx)(t:TypeId)(s x:Option AV)(H:AH):Option (AV×AH):=
 match s with
 | some a=>match x with
  | some b=>zGc X t a b H
  | none=>none
 | none=>none
def uZ (X:Cx)(env:Env)(b:Builtin)(args:List Operand)(a:List TypeId)(H:AH):Option (AV×AH):=
 match b with
 | .append=>match args with
  | [s,x]=>match a with
   | [t,u]=>cV X t u (opd env s) (opd env x) H
   | _=>none
  | _=>none
 | .copy=>match args with
  | [s,x]=>match a with
   | t::_=>zIZ X t (opd env s) (opd env x) H
   | _=>none
  | _=>none
 | .delete=>match args with
  | [m,k]=>match a with
   | t::_=>c2 (opd env m) (opd env k) (adl X t · · H)
   | _=>none
  | _=>none
 | .clear=>match args with
  | [m]=>match a with
   | t::_=>c1 (opd env m) (acl X t · H)
   | _=>none
  | _=>none
 | _=>none
def aE (X:Cx)(env:Env)(H:AH):Op->Option (AV×AH)
 | .store t a x=>BK X t (opd env a) (opd env x) H
 | .mapUpdate t m k v=>c3 (opd env m) (opd env k) (opd env v) (aup X t · · · H)
 | .call c=>match c.callee with
  | .builtin b=>uZ X env b c.args.toList c.argTypes.toList H
  | _=>none
 | _=>none
def wV (H:AH)(r:Option AV):Option (AV×AH):=match r with | some x=>some (x,H) | none=>none
def wA (H:AH)(r:Option (AObj×(Nat->AV))):Option (AV×AH):=
 match r with
 | some (o,mk)=>match newA H o with
  | some (A,H')=>some (mk A,H')
  | none=>none
 | none=>none
def VM (nt:Nat)(env:Env):Option Tmp->AV->Option (Env)
 | some d,v=>bif Nat.blt d nt then some (upd env d v)else none
 | none,_=>some env
def zGf:List Oper->Nat->Option Oper
 | x::_,0=>some x
 | _::l,n+1=>zGf l n
 | [],_=>none
def isW (x:AV)(a:Bool):Bool:=match x with | .bool b=>b==a | .val (.bool b)=>b==a | _=>false
def zGm (ops:Array Oper)(env:Env)(j:Nat)(a:Bool):Option Bool:=
 match zGf ops.toList j with
 | some p=>match p.dst with
  | some d=>match look env d with
   | some x=>some (isW x a)
   | none=>none
  | none=>some false
 | none=>some false
def ZF (ops:Array Oper)(env:Env)(o:Oper):Option Bool:=
 match o.guard with
 | none=>some true
 | some (j,want)=>zGm ops env j want
def zDN (X:Cx)(env:Env)(H:AH):ResultVar->Option AV
 | .tmp t=>look env t
 | .cell a t=>b1 (look env a) (VF X t · H)
def aT (X:Cx)(env:Env)(H:AH):List ResultVar->Option (List AV)
 | []=>some []
 | r::rs=>match zDN X env H r with
  | some v=>match aT X env H rs with
   | some vs=>some (v::vs)
   | none=>none
  | none=>none
def zHW (acc:List Nat)(es:List Edge):Nat:=es.foldl (fun s e=>bif Region.binds .any e then s||| 2 ^ e.on||| acc.getD e.on 0 else s) 0
def xD:List Oper->List Nat->List Nat
 | [],acc=>acc
 | o::rest,acc=>xD rest (acc++[zHW acc o.after.toList])
def xC:Cls->Bool
 | .E=>true
 | .C=>true
 | _=>false
def tmpOf:Operand->Option Nat
 | .tmp t=>some t
 | _=>none
def cI (ops:Array Oper)(o:Oper):List Nat:=
 o.op.operands.toList.filterMap tmpOf++(match o.guard with
  | some (j,_)=>match zGf ops.toList j with
   | some p=>p.dst.toList
   | none=>[]
  | none=>[])
def fM (ops:Array Oper)(a b:Oper):Bool:=
 (match a.dst with | some d=>(cI ops b).contains d | none=>false)||(match b.dst with | some d=>(cI ops a).contains d | none=>false)
def zHI (X:Cx)(ops:Array Oper)(masks:List Nat)(a b:Nat×Oper):Bool:=
 (match a.2.dst,b.2.dst with | some d,some e=> !Nat.beq d e | _,_=>true)&&
 ((masks.getD b.1 0).testBit a.1|| !(xC (cls X a.2.op)||fM ops a.2 b.2))
def zAp (X:Cx)(ops:Array Oper)(masks:List Nat):List (Nat×Oper)->Bool
 | []=>true
 | a::l=>l.all (zHI X ops masks a)&&zAp X ops masks l
def zJx:List Oper->Nat->Bool
 | [],_=>true
 | o::l,n=>(o.after.toList.all fun e=>Nat.blt e.on n)&&fN (Nat.succ n) (zJx l)
def zDm (ops:Array Oper):Bool:=zJx ops.toList 0||Nat.beq (Region.linearise .any ops 0).length ops.size&&Nat.beq (Region.linearise .text ops 0).length ops.size&&Nat.beq (Region.linearise .gc ops 0).length ops.size
def zNs (masks a:List Nat)(i:Nat):Nat:=(a.filter fun e=>(masks.getD i 0).testBit e).length
def rowOf (X:Cx)(ops:Array Oper)(masks:List Nat):List (Nat×Oper):=
 let l:=(List.range ops.size).filterMap fun i=>match zGf ops.toList i with | some o=>some (i,o) | none=>none
 let f:=(l.filter fun a=>xC (cls X a.2.op))
 let rest:=(l.filter fun a=> !xC (cls X a.2.op))
 let h:=f.map (·.1)
 (List.range (f.length+1)).flatMap fun s=>(rest.filter fun a=>Nat.beq (zNs masks h a.1) s)++(match f[s]? with | some e=>[e] | none=>[])
def zEv:List Nat->Bool
 | []=>true
 | x::l=> !l.contains x&&zEv l
def zPS (X:Cx)(ops:Array Oper)(masks:List Nat)(row:List (Nat×Oper)):Bool:=
 zDm ops&&zEv (row.map (·.1))&&zAp X ops masks row&&(List.range ops.size).all (fun i=>(row.map (·.1)).contains i)&&row.all (fun a=>match zGf ops.toList a.1 with | some _=>true | none=>false)
def plan (X:Cx)(ops:Array Oper):Option (List (Nat×Oper)×List Nat):=
 let masks:=xD ops.toList []
 let row:=rowOf X ops masks
 bif zPS X ops masks row then some (row,masks)else none
inductive AExit where
 | normal
 | exit (id:Nat)
 | ret
structure Fns where
 call:FuncId->List AV->AH->Option (AV×AH)
 yld:Nat->List AV->AH->Option (AV×AH)
def opF (X:Cx)(r:Fns)(env:Env)(H:AH)(o:Op):Option (AV×AH):=
 match cls X o with
 | .P=>wV H (aP X env o)
 | .L=>wV H (aL X env H o)
 | .A=>wA H (aA X env o)
 | .E=>aE X env H o
 | .C=>callO r env H o
where
 callV (r:Fns) (H:AH) (f:Option AV) (az:Option (List AV)):Option (AV×AH):=
  match f with
  | some (.func g first cap)=>match az with
   | some az=>r.call g (first++az++cap) H
   | none=>none
  | some (.yT A)=>match az with
   | some az=>r.yld A az H
   | none=>none
  | _=>none
 callO (r:Fns) (env:Env) (H:AH):Op->Option (AV×AH)
  | .call c=>match c.callee with
   | .value f=>callV r H (opd env f) (zCX env c.args.toList)
   | _=>none
  | _=>none
structure Ent where
 i:Nat
 o:Oper
 want:Bool
 env:Env
 H:AH
 v:AV
 H':AH
def zIT (X:Cx)(r:Fns)(ops:Array Oper)(env:Env)(H:AH)(i:Nat)(o:Oper):Option Ent:=
 match ZF ops env o with
 | some true=>match opF X r env H o.op with
  | some (v,H')=>some ⟨i,o,true,env,H,v,H'⟩
  | none=>none
 | some false=>some ⟨i,o,false,env,H,jQ,H⟩
 | none=>none
theorem uS (a:B.min<=z)(f:z<=B.max):B.wrap z=z:=by
 cases B<;>simp[IntKind.wrap,IntKind.signed,IntKind.bits,IntKind.min,IntKind.max]at* <;>omega
theorem zL5 (k:IntKind)(n:Int):zL6 k n=k.wrap n:=by
 cases n with
 | ofNat m=>
  simp only[zL6]
  cases f:k.signed with
  | true=>
   simp only[zP]
   cases hb:Nat.blt m (zBZ k)with
   | false=>rfl
   | true=>
    have a:m<zBZ k:=by rw[<-qE];exact hb
    simp only[zP]
    symm
    apply uS<;>cases k<;>simp[IntKind.signed,zBZ,IntKind.min,IntKind.max,IntKind.bits]at* <;>omega
  | false=>
   simp only[qH]
   cases k<;>simp[IntKind.signed,IntKind.wrap,IntKind.bits,KE]at*
 | negSucc m=>
  simp only[zL6]
  cases hb:(k.signed&&Nat.blt m (zBZ k))with
  | false=>rfl
  | true=>
   simp only[zP];rw[zE]at hb;have a:m<zBZ k:=by rw[<-qE];exact hb.2
   symm
   apply uS<;>cases k<;>simp[IntKind.signed,zBZ,IntKind.min,IntKind.max,IntKind.bits]at* <;>omega
theorem uO (a b:Int):ilt a b=decide (a<b):=by
 cases a<;>cases b<;>simp only[ilt]<;>rw[yI]<;>simp[qE]<;>omega
theorem xY (a b:Int):ieq a b=(a==b):=by
 cases a<;>cases b<;>simp only[ieq]<;>rw[yI]<;>simp[zX]<;>omega
theorem xX (a b:IntKind):keq a b=decide (a=b):=by
 cases a<;>cases b<;>rfl
theorem kF (n:Nat)(k:Nat->r):fN n k=k n:=by cases n<;>rfl
theorem zFY (n:Int)(k:Int->r):fI n k=k n:=by cases n<;>simp[fI,kF]
theorem vZ (k:IntKind)(n:Int):mkI k n=some (.int k (k.wrap n)):=by simp[mkI,zFY,zL5]
theorem wD (b:Bool):mkB b=some (.bool b):=by cases b<;>rfl
theorem zBO (l b:Nat):mkS l b=some (.str l b):=by simp[mkS,kF]
theorem zI1 (l:List AV)(n:Nat):Z9 l n=l.length+n:=by
 induction l generalizing n with
 | nil=>simp[Z9]
 | cons x l ih=>simp[Z9,ih];omega
theorem jY (l:List AV):Z9 l 0=l.length:=by rw[zI1];rfl
theorem QM: ∀l m:List UInt8,l.length=m.length->pack l=pack m->l=m
 | [],[],_,_=>rfl
 | [],_::_,h,_=>by simp at h
 | _::_,[],h,_=>by simp at h
 | b::l,c::m,hl,h=>by
  have hb:b.toNat<256:=b.toNat_lt;have j:c.toNat<256:=c.toNat_lt;simp only[pack]at h;have a:b.toNat=c.toNat:=by omega
  have f:pack l=pack m:=by omega
  rw[UInt8.toNat_inj.1 a,QM l m (by simpa using hl) f]
theorem pow8 (n:Nat):2 ^ (8*n)=256 ^ n:=by rw[Nat.pow_mul]
theorem zDi (l m:List UInt8):pack (l++m)=pack l+pack m*256 ^ l.length:=by
 induction l with
 | nil=>simp[pack]
 | cons b l ih=>
  simp only[qF,pack,ih,zT,Nat.pow_succ];rw[Nat.mul_add,Nat.add_assoc,Nat.mul_left_comm 256 (pack m),Nat.mul_comm 256 (256 ^ l.length)]
theorem WW (l:List UInt8)(n:Nat):pack (l.drop n)=pack l / 256 ^ n:=by
 induction n generalizing l with
 | zero=>simp
 | succ n ih=>
  cases l with
  | nil=>simp[pack]
  | cons b l=>
   have hb:b.toNat<256:=b.toNat_lt;rw[List.drop_succ_cons,ih,pack,Nat.pow_succ,Nat.mul_comm (256 ^ n),<-Nat.div_div_eq_div_mul];congr 1;omega
theorem zBG (l:List UInt8)(n:Nat):pack (l.take n)=pack l % 256 ^ n:=by
 induction n generalizing l with
 | zero=>simp[pack,Nat.mod_one]
 | succ n ih=>
  cases l with
  | nil=>simp[pack]
  | cons b l=>
   have hb:b.toNat<256:=b.toNat_lt;have e:(b.toNat+256*pack l) / 256=pack l:=by omega
   rw[List.take_succ_cons,pack,pack,ih,Nat.pow_succ,Nat.mul_comm (256 ^ n),Nat.mod_mul,e];omega
theorem zEp (l:List UInt8)(i:Nat)(h:i<l.length):l[i].toNat=pack l / 256 ^ i % 256:=by
 rw[<-WW,qI h,pack];have hb:l[i].toNat<256:=l[i].toNat_lt;omega
theorem aJ: ∀(l m:List UInt8),zBn l.length (pack l) m.length (pack m)=Op.bytesLess l m
 | [],[]=>rfl
 | [],_::_=>rfl
 | b::l,[]=>rfl
 | b::l,c::m=>by
  have hb:b.toNat<256:=b.toNat_lt;have o:c.toNat<256:=c.toNat_lt;have a:pack (b::l) % 256=b.toNat:=by simp only[pack];omega
  have f:pack (c::m) % 256=c.toNat:=by simp only[pack];omega
  have h:pack (b::l) / 256=pack l:=by simp only[pack];omega
  have j:pack (c::m) / 256=pack m:=by simp only[pack];omega
  simp only[zT,zBn,Op.bytesLess,a,f,h,j,aJ l m];congr 1
  .rw[yI];simp[qE,UInt8.lt_iff_toNat_lt]
  .congr 1;rw[yI];simp[zX,UInt8.toNat_inj]
theorem toList_data (s:ByteArray):s.toList=s.data.toList:=Lib.toList_data s
theorem size_data (s:ByteArray):s.data.toList.length=s.size:=by rw[yW];rfl
theorem zAa: ∀(n:Nat) (l r:List AV),takeN n l=some r->r=l.take n/\n<=l.length
 | 0,l,r,h=>by simp[takeN]at h;simp[<-h]
 | n+1,[],r,h=>by simp[takeN]at h
 | n+1,x::l,r,h=>by
  simp only[takeN]at h;split at h
  .rename_i a hr;obtain⟨rfl,f⟩:=zAa n l a hr;simp only[zB]at h;subst h;simp[f]
  .simp at h
theorem cD: ∀(l:List AV) (o n:Nat) (r:List AV),bC l o n=some r->r=(l.drop o).take n/\(n=0\/o+n<=l.length)
 | l,0,n,r,h=>by
  cases l<;>(simp only[bC]at h;obtain⟨f,a⟩:=zAa _ _ _ h;exact⟨by simpa using f, .inr (by omega)⟩)
 | x::l,o+1,n,r,h=>by
  simp only[bC]at h;obtain⟨f,a⟩:=cD l o n r h;exact⟨by simpa using f,by rcases a with a | a<;>simp<;>omega⟩
 | [],o+1,n,r,h=>by
  simp only[bC,zF,zX]at h;split at h
  .simp only[zB]at h;subst h;simp_all
  .simp at h
theorem QN: ∀(l:List AV) (n:Nat),nth l n=l[n]?
 | [],n=>by cases n<;>rfl
 | x::l,0=>rfl
 | x::l,n+1=>by simp[nth,QN l n]
theorem zHK: ∀(l new r:List AV),over l new=some r->r=new++l.drop new.length/\new.length<=l.length
 | l,[],r,h=>by cases l<;>simp_all [over]
 | [],y::ys,r,h=>by simp[over]at h
 | x::l,y::ys,r,h=>by
  simp only[over]at h;split at h
  .rename_i a hr;obtain⟨rfl,f⟩:=zHK l ys a hr;simp only[zB]at h;subst h;simp[f]
  .simp at h
theorem zAj: ∀(l:List AV) (n:Nat) (new r:List AV),setAt l n new=some r->r=l.take n++new++l.drop (n+new.length)/\n+new.length<=l.length
 | l,0,new,r,h=>by
  have a:over l new=some r:=by cases l<;>simpa only[setAt]using h
  obtain⟨rfl,f⟩:=zHK l new r a;exact⟨by simp,by omega⟩
 | x::l,n+1,new,r,h=>by
  simp only[setAt]at h;split at h
  .rename_i j hr;obtain⟨rfl,f⟩:=zAj l n new j hr;simp only[zB]at h;subst h;refine⟨?_,by simp;omega⟩;rw[show n+1+new.length=(n+new.length)+1 from by omega];simp
  .simp at h
 | [],n+1,new,r,h=>by simp[setAt]at h
theorem zPU (n:Nat)(z:List AV):rep n z=(List.replicate n z).flatten:=by
 induction n with
 | zero=>rfl
 | succ n ih=>simp[rep,ih,List.replicate_succ]
theorem zHR: ∀(l:List (Nat×Nat)) (n:Nat),zJY l n=l[n]?
 | [],n=>by cases n<;>rfl
 | x::l,0=>rfl
 | x::l,n+1=>by simp[zJY,zHR l n]
theorem zDk: ∀(l:List Field) (n:Nat),zNY l n=l[n]?
 | [],n=>by cases n<;>rfl
 | x::l,0=>rfl
 | x::l,n+1=>by simp[zNY,zDk l n]
theorem zDj: ∀(l:List Oper) (n:Nat),zGf l n=l[n]?
 | [],n=>by cases n<;>rfl
 | x::l,0=>rfl
 | x::l,n+1=>by simp[zGf,zDj l n]
mutual
theorem UN (R:Ren): ∀(v:Value) (x:AV),ofV v=some x->VR R x v
 | .bool b,x,h=>by simp only[ofV,zB]at h;subst h;simp[VR]
 | .int k n,x,h=>by simp only[ofV,zB]at h;subst h;simp[VR]
 | .string s,x,h=>by simp only[ofV,zB]at h;subst h;exact⟨s,rfl,(size_data s).symm,rfl⟩
 | .pointer none,x,h=>by simp only[ofV,zB]at h;subst h;simp[VR]
 | .pointer (some a),x,h=>by simp[ofV]at h
 | .slice none 0 0,x,h=>by simp only[ofV,zB]at h;subst h;simp[VR]
 | .slice none 0 (c+1),x,h=>by simp[ofV]at h
 | .slice none (n+1) c,x,h=>by simp[ofV]at h
 | .slice (some a) n c,x,h=>by simp[ofV]at h
 | .map none,x,h=>by simp only[ofV,zB]at h;subst h;simp[VR]
 | .map (some a),x,h=>by simp[ofV]at h
 | .nilFunc,x,h=>by simp only[ofV,zB]at h;subst h;simp[VR]
 | .nilIface,x,h=>by simp only[ofV,zB]at h;subst h;simp[VR]
 | .agg a,x,h=>by
  simp only[ofV]at h;split at h
  .rename_i l hl;simp only[zB]at h;subst h;exact⟨a.toList,rfl,zHQ R a l hl⟩
  .simp at h
 | .tuple a,x,h=>by
  simp only[ofV]at h;split at h
  .rename_i l hl;simp only[zB]at h;subst h;exact⟨a.toList,rfl,zHQ R a l hl⟩
  .simp at h
 | .float _ _,x,h=>by simp[ofV]at h
 | .complex _ _ _,x,h=>by simp[ofV]at h
 | .chan _,x,h=>by simp[ofV]at h
 | .func _ _ _,x,h=>by simp[ofV]at h
 | .iface _ _,x,h=>by simp[ofV]at h
theorem zHQ (R:Ren): ∀(a:Array Value) (l:List AV),ofVA a=some l->VRL R l a.toList
 | ⟨m⟩,l,h=>by simp only[ofVA]at h;exact zHP R m l h
theorem zHP (R:Ren): ∀(m:List Value) (l:List AV),zQ1 m=some l->VRL R l m
 | [],l,h=>by simp only[zQ1,zB]at h;subst h;rfl
 | v::m,l,h=>by
  simp only[zQ1]at h;split at h
  .rename_i x xs hx hxs;simp only[zB]at h;subst h;exact⟨v,m,rfl,UN R v x hx,zHP R m xs hxs⟩
  .simp at h
end
theorem kR {R:Ren}{env:Env}{fr:Frame}(h:EnvR R env n fr.tmps): ∀(x:Operand) (a:AV),opd env x=some a->VR R a (fr.eval x)
 | .tmp t,a,e=>h.get t a e
 | .const v,a,e=>UN R v a e
 | .func f,a,e=>by simp only[opd,zB]at e;subst e;exact⟨[],[],rfl,rfl,rfl⟩
 | .global g,a,e=>by simp[opd]at e
theorem WZ {R:Ren}{env:Env}{n:Nat}{fr:Frame}(h:EnvR R env n fr.tmps): ∀(xs:List Operand) (az:List AV),zCX env xs=some az->VRL R az (xs.map fr.eval)
 | [],az,e=>by simp only[zCX,zB]at e;subst e;rfl
 | x::xs,az,e=>by
  simp only[zCX]at e;split at e
  .rename_i v vs f a;simp only[zB]at e;subst e;exact⟨_,_,rfl,kR h x v f,WZ h xs vs a⟩
  .simp at e
theorem EnvR.put {R:Ren}{env env':Env}(h:EnvR R env n G){dst:Option Tmp}{x:AV}(m:VR R x i)(a:VM n env dst x=some env'):EnvR R env' n (zCW G dst i):=by
 cases dst with
 | none=>simp only[VM,zB]at a;subst a;exact h
 | some d=>
  simp only[VM,zF,qE]at a;split at a
  .rename_i hd;injection a with a;subst a
   have hl: ∀t,Eng.look (upd env d x) t=if t=d then some x else Eng.look env t:=fun t=>bI env d x t
   refine⟨by simp[zCW,h.size],fun t y f=> ?_,fun t o=> ?_⟩
   .rw[hl]at f;simp only[zCW];rw[yA,Array.getElem?_setIfInBounds];by_cases e:t=d
    .subst e;rw[if_pos rfl]at f;injection f with f;subst f;rw[if_pos rfl,if_pos (by rw[h.size];exact hd)];exact m
    .rw[if_neg e]at f;rw[if_neg (Ne.symm e),<-yA];exact h.get t y f
   .rw[hl,if_neg (by omega)];exact h.out t o
  .simp at a
def zAG (P:Program)(rec:TypeId->Option (List Nat)):List Field->Nat->Option (List Nat)
 | [],_=>some []
 | f::fs,acc=>match rec f.type,P.info? f.type with
  | some k,some j=>bif !(f.name== "_")&&Nat.beq f.offset acc&&Nat.beq k.length j.size then
    match zAG P rec fs (acc+j.size)with
    | some r=>some (k++r)
    | none=>none
   else none
  | _,_=>none
def dQ (P:Program):Nat->TypeId->Option (List Nat)
 | 0,_=>none
 | d+1,t=>match P.underlying t,P.info? t with
  | some .bool,some i=>bif Nat.beq i.size 1 then some [0]else none
  | some (.int k),some i=>bif Nat.beq i.size 1 then some [ZP k]else none
  | some .string,some i=>bif Nat.beq i.size 1 then some [2]else none
  | some (.struct fs),some i=>bif !P.stoodInHeld t then
    match zAG P (dQ P d) fs.toList 0 with
    | some r=>bif Nat.beq r.length i.size then some r else none
    | none=>none
   else none
  | some (.array len e),some i=>match dQ P d e,P.info? e with
   | some k,some j=>bif Nat.beq (len*j.size) i.size&&Nat.beq k.length j.size then some (List.replicate len k).flatten else none
   | _,_=>none
  | _,_=>none
def xH (P:Program)(t:TypeId):Bool:=match P.underlying t with
 | some (.struct _)=>true
 | some (.array _ _)=>true
 | _=>false
structure Ok (P:Program)(X:Cx):Prop where
 ty: ∀t i,X.ty.get t=some i->P.info? t=some i
 fl: ∀x∈X.fl,dQ P P.depth x.1=some x.2/\xH P x.1=true/\P.depth<=10000
 nm: ∀(f:FuncId) (g:Func),P.funcs[f]? =some g->(g.name== "runtime.NumGoroutine")=false
section
variable {P:Program}{X:Cx}(hX:Ok P X)
include hX
theorem Ok.und {t:TypeId}{d:TypeDesc}(h:X.und t=some d):P.underlying t=some d:=by
 simp only[Cx.und]at h;split at h
 .rename_i i hi;have f:=hX.ty _ _ hi;split at h
  .rename_i x u hd;split at h
   .rename_i j o;simp only[zB]at h;subst h;have p:=hX.ty _ _ o;obtain⟨q⟩:=i;simp only at hd;subst hd;simp[Program.underlying,f,p]
   .simp at h
  .rename_i q m;simp only[zB]at h;subst h;unfold Program.underlying;rw[f];split
   .rename_i a;simp only[zB]at a;subst a;exact absurd rfl (m _ _)
   .rename_i a;simp only[zB]at a;subst a;rfl
   .rename_i a;simp at a
 .simp at h
theorem Ok.size {t:TypeId}{n:Nat}(h:X.size t=some n): ∃i,P.info? t=some i/\i.size=n:=by
 simp only[Cx.size]at h;split at h
 .rename_i i hi;simp only[zB]at h;exact⟨i,hX.ty _ _ hi,h⟩
 .simp at h
def Ok.run_und (t:X.und h=some L)(w:World):(underlying h).run P w= .ok L w:=run_underlying (hX.und t) w
theorem Ok.run_size (t:X.size h=some n)(w:World):(sizeOf h).run P w= .ok n w:=by
 obtain⟨i,a,f⟩:=hX.size t;simp[sizeOf,typeInfo,a,f]
theorem Ok.run_isAgg (t:X.und h=some L)(w:World):(isAgg h).run P w= .ok (dI L) w:=by
 unfold isAgg;simp only[zH,hX.run_und t,Result.andThen]
 cases L<;>rfl
theorem Ok.zero (R:Ren){t:TypeId}{x:AV}(h:aW X t=some x): ∃i v,P.info? t=some i/\i.zero=some v/\VR R x v:=by
 simp only[aW]at h;split at h
 .rename_i i hi;split at h
  .rename_i z a;exact⟨i,z,hX.ty _ _ hi,a,UN R z x h⟩
  .simp at h
 .simp at h
theorem Ok.run_zero (R:Ren){x:AV}(t:aW X h=some x)(w:World): ∃v,(zeroValue h).run P w= .ok v w/\VR R x v:=by
 obtain⟨i,v,a,f,j⟩:=hX.zero R t;exact⟨v,by simp[zeroValue,typeInfo,a,f],j⟩
end
theorem zGr {R:Ren} : ∀l:List Value,VRL R (l.map AV.val) l
 | []=>rfl
 | v::l=>⟨v,l,rfl,rfl,zGr l⟩
theorem uG {R:Ren} : ∀ {x:AV} {v:Value},VR R x v->VRL R (jU x) v.cells.toList:=by
 intro x v h
 cases x with
 | agg l=>obtain⟨l',rfl,j⟩:=h;exact j
 | bool b=>simp only[VR]at h;subst h;exact⟨_,_,rfl,by simp[VR],rfl⟩
 | int k n=>simp only[VR]at h;subst h;exact⟨_,_,rfl,by simp[VR],rfl⟩
 | str n b=>obtain⟨s,rfl,j⟩:=h;exact⟨_,_,rfl,⟨s,rfl,j⟩,rfl⟩
 | nP=>simp only[VR]at h;subst h;exact⟨_,_,rfl,by simp[VR],rfl⟩
 | ptr A o=>obtain⟨b,d,c,j,rfl⟩:=h;exact⟨_,_,rfl,⟨b,d,c,j,rfl⟩,rfl⟩
 | nS=>simp only[VR]at h;subst h;exact⟨_,_,rfl,by simp[VR],rfl⟩
 | slice A o n cc=>obtain⟨b,d,c,j,rfl⟩:=h;exact⟨_,_,rfl,⟨b,d,c,j,rfl⟩,rfl⟩
 | eS=>obtain⟨a,c,rfl⟩:=h;exact⟨_,_,rfl,⟨a,c,rfl⟩,rfl⟩
 | nM=>simp only[VR]at h;subst h;exact⟨_,_,rfl,by simp[VR],rfl⟩
 | map A=>obtain⟨b,d,c,j,rfl⟩:=h;exact⟨_,_,rfl,⟨b,d,c,j,rfl⟩,rfl⟩
 | func f xs ys=>obtain⟨m,p,rfl,j,q⟩:=h;exact⟨_,_,rfl,⟨m,p,rfl,j,q⟩,rfl⟩
 | yT A=>obtain⟨b,d,c,j,rfl⟩:=h;exact⟨_,_,rfl,⟨b,d,c,j,rfl⟩,rfl⟩
 | nilFunc=>simp only[VR]at h;subst h;exact⟨_,_,rfl,by simp[VR],rfl⟩
 | iface t x=>obtain⟨u,rfl,j⟩:=h;exact⟨_,_,rfl,⟨u,rfl,j⟩,rfl⟩
 | nilIface=>simp only[VR]at h;subst h;exact⟨_,_,rfl,by simp[VR],rfl⟩
 | tuple l=>obtain⟨l',rfl,j⟩:=h;exact⟨_,_,rfl,⟨l',rfl,j⟩,rfl⟩
 | val x=>simp only[VR]at h;subst h;exact zGr _
def zQ0:Value->Prop
 | .agg _=>False
 | .tuple _=>False
 | _=>True
theorem zI8 {R:Ren}{x:AV}(h:VR R x i)(m:isCell x=true):zQ0 i:=by
 cases x with
 | agg l=>simp[isCell]at m
 | tuple l=>simp[isCell]at m
 | bool b=>simp only[VR]at h;subst h;trivial
 | int k n=>simp only[VR]at h;subst h;trivial
 | str n b=>obtain⟨s,rfl,j⟩:=h;trivial
 | nP=>simp only[VR]at h;subst h;trivial
 | ptr A o=>obtain⟨b,d,c,j,rfl⟩:=h;trivial
 | nS=>simp only[VR]at h;subst h;trivial
 | slice A o n cc=>obtain⟨b,d,c,j,rfl⟩:=h;trivial
 | eS=>obtain⟨a,c,rfl⟩:=h;trivial
 | nM=>simp only[VR]at h;subst h;trivial
 | map A=>obtain⟨b,d,c,j,rfl⟩:=h;trivial
 | func f xs ys=>obtain⟨p,q,rfl,j,u⟩:=h;trivial
 | yT A=>obtain⟨b,d,c,j,rfl⟩:=h;trivial
 | nilFunc=>simp only[VR]at h;subst h;trivial
 | iface t x=>obtain⟨y,rfl,j⟩:=h;trivial
 | nilIface=>simp only[VR]at h;subst h;trivial
 | val x=>simp[isCell]at m
theorem gI {R:Ren} : ∀ {l:List AV} {m:List Value},VRL R l m->jP l=true-> ∀v∈m,zQ0 v
 | [],m,h,_=>by simp only[VRL]at h;subst h;simp
 | x::l,m,h,hc=>by
  obtain⟨o,p,rfl,f,j⟩:=h;simp only[jP,zE]at hc;intro v a;rcases zK.1 a with rfl | a
  .exact zI8 f hc.1
  .exact gI j hc.2 v a
theorem xF (b o n:Nat):(⟨b,o,none⟩:Addr).add n=⟨b,o+n,none⟩:=by
 unfold Addr.add;split
 .subst_vars;rfl
 .rfl
theorem QE (w:World)(b:Nat)(x y:Obj):vX (vX w b x) b y=vX w b y:=by
 simp[vX]
theorem KX (w:World)(b:Nat)(x:Obj)(h:w.heap[b]? =some x):vX w b x=w:=by
 have:w.heap.setIfInBounds b x=w.heap:=by
  apply Array.ext_getElem?;intro i;rw[Array.getElem?_setIfInBounds];split
  .subst_vars
   split
   .exact h.symm
   .rename_i a;rw[Array.getElem?_eq_none (by omega)]
  .rfl
 simp[vX,this]
theorem zBu (w:World)(b o:Nat)(v:Value)(arr:Array Value)(e:TypeId)(f:Nat×Nat)(h:w.heap[b]? =some (.cells arr e f)):
  w.setCell ⟨b,o,none⟩ v=vX w b (.cells (arr.setIfInBounds o v) e f):=by
 have hb:b<w.heap.size:=by
  rcases Nat.lt_or_ge b w.heap.size with a | a
  .exact a
  .rw[Array.getElem?_eq_none a]at h;cases h
 unfold World.setCell vX;congr 1;apply Array.ext_getElem?;intro i;rw[Array.getElem?_modify,Array.getElem?_setIfInBounds];by_cases e:b=i
 .subst e;rw[if_pos rfl,if_pos rfl,h,if_pos hb];rfl
 .rw[if_neg e,if_neg e]
def wZ (arr:Array Value)(o:Nat):List Value->Array Value
 | []=>arr
 | v::vs=>wZ (arr.setIfInBounds o v) (o+1) vs
theorem uD (vs:List Value): ∀(arr:Array Value) (o:Nat),(wZ arr o vs).size=arr.size:=by
 induction vs with
 | nil=>intro arr o;rfl
 | cons v vs ih=>intro arr o;simp[wZ,ih]
theorem xE (vs:List Value): ∀(arr:Array Value) (o:Nat),o+vs.length<=arr.size->(wZ arr o vs).toList=arr.toList.take o++vs++arr.toList.drop (o+vs.length):=by
 induction vs with
 | nil=>intro arr o h;simp[wZ]
 | cons v vs ih=>
  intro arr o h;simp only[zT]at h;rw[wZ,ih _ _ (by simp;omega)];have f:o<arr.toList.length:=by rw[yW];omega
  rw[Array.toList_setIfInBounds];have a:(arr.toList.set o v).take (o+1)=arr.toList.take o++[v]:=by
   rw[List.take_set,List.set_eq_take_append_cons_drop];simp[List.take_take];omega
  rw[a];simp only[zZ,List.singleton_append,zT];rw[List.drop_set_of_lt (by omega)];rw[show o+1+vs.length=o+(vs.length+1)from by omega]
theorem Z7 {P:Program}(e:TypeId)(a:Nat×Nat)(b o:Nat): ∀(vs:List Value) (i:Nat) (w:World) (arr:Array Value),w.heap[b]? =some (.cells arr e a)->o+i+vs.length<=arr.size->(∀v∈vs,zQ0 v)->
  (∀k,k<arr.size-> ¬(a.1<=k/\k<a.2))->(storeCells ⟨b,o,none⟩ vs i).run P w= .ok () (vX w b (.cells (wZ arr (o+i) vs) e a)):=by
 intro vs
 induction vs with
 | nil=>intro i w arr h _ _ _;simp[storeCells,wZ,KX w b _ h,zO]
 | cons v vs ih=>
  intro i w arr h hl f j;simp only[zT]at hl;have hb:b<w.heap.size:=by
   rcases Nat.lt_or_ge b w.heap.size with f | f
   .exact f
   .rw[Array.getElem?_eq_none f]at h;cases h
  have q:w.cell? ⟨b,o+i,none⟩=some arr[o+i]:=by
   simp[World.cell?,h,Array.getElem?_eq_getElem (show o+i<arr.size by omega)]
  have t:w.frozen? ⟨b,o+i,none⟩=false:=by
   simp only[World.frozen?,h];rw[qY];intro m;simp only[zE,zR]at m;exact j (o+i) (by omega) m
  have p:(store (⟨b,o+i,none⟩:Addr) v).run P w= .ok () (w.setCell ⟨b,o+i,none⟩ v):=by
   have x:=f v (zJ ..)
   cases v<;>first | exact x.elim | simp[store,Sem.run,q,t]
  have y:(vX w b (.cells (arr.setIfInBounds (o+i) v) e a)).heap[b]? =some (.cells (arr.setIfInBounds (o+i) v) e a):=bH _ _ _ hb;rw[storeCells,zH,xF,p,zBu w b _ v arr e a h];simp only[Result.andThen];rw[ih (i+1) _ _ y (by simp;omega) (fun u z=>f u (zC _ z)) (by simpa using j),QE,wZ,show o+(i+1)=o+i+1 from by omega]
theorem zH5 {l new r:List AV}(h:(bif Nat.blt 0 n then setAt l E new else none)=some r):setAt l E new=some r/\0<n:=by
 rw[zF]at h;split at h
 .rename_i a;exact⟨h,by simpa using a⟩
 .simp at h
section
variable {R:Ren}{H:AH}{w:World}{A b d c:Nat}{l:List AV}{e:TypeId}{sz:Nat}{g:Bool}
def Rel.cellsAt (h:Rel R H w)(j:H.h.get A=some (.cells l e sz g))(hR:R A b d c): ∃(arr:Array Value) (a:Nat×Nat) (pre l' f:List Value),w.heap[b]? =some (.cells arr e a)/\arr.toList=pre++(l'++f)/\pre.length=d/\VRL R l l'/\
   (g=false->f=[]/\(0<sz->a=(0,0))/\(sz=0->c=enc a))/\(g=true->l'.length+f.length=c*sz/\c<9223372036854775808)/\(0<sz-> ∀i,i<arr.size-> ¬(a.1<=i/\i<a.2))/\ ∃m,VRL R m f:=h.obj _ _ _ _ _ hR j
def Rel.live (a:H.h.get A=some (.cells l e sz g)):JZ H A:=⟨_,a,trivial⟩
theorem Rel.cell (h:Rel R H w)(m:H.h.get A=some (.cells l e sz g))(hR:R A b d c){o:Nat}{x:AV}(p:l[o]? =some x): ∃v,w.cell? ⟨b,d+o,none⟩=some v/\VR R x v:=by
 obtain⟨arr,z,pre,l',y,q,t,C,u,_⟩:=h.cellsAt m hR;obtain⟨v,a,f⟩:=VRL.get l l' u o x p;refine⟨v, ?_,f⟩;simp only[World.cell?,q,Option.isSome_none,zL,qD];have j:o<l'.length:=(qR.1 a).1;rw[<-yS,t,jB (by omega),show d+o - pre.length=o from by omega,yY j];exact a
theorem Rel.loads (h:Rel R H w)(u:H.h.get A=some (.cells l e sz g))(hR:R A b d c){P:Program}{r:List AV}(hr:bC l n E=some r):
  ∃vs:List Value,(loadCells ⟨b,d+n,none⟩ E).run P w= .ok vs.toArray w/\VRL R r vs/\vs.length=E:=by
 obtain⟨p,C⟩:=cD _ _ _ _ hr;obtain⟨arr,N,pre,l',z,x,y,O,m,_⟩:=h.cellsAt u hR;have J:=zRj l l' m;have q:VRL R r ((l'.drop n).take E):=by rw[p];exact(m.drop n).take E
 have f:((l'.drop n).take E).length=E:=by
  rw[qC,qL];omega
 refine⟨(l'.drop n).take E, ?_,q,f⟩;have hl:=run_loadCells_list (P:=P) w ⟨b,d+n,none⟩ ((l'.drop n).take E) (fun j v a=>by
  have K:=(qR.1 a).1;rw[xF];simp only[World.cell?,x,Option.isSome_none,zL,qD];rw[jF (by omega),jG]at a;have t:n+j<l'.length:=(qR.1 a).1;rw[<-yS,y,jB (by omega),show d+n+j - pre.length=n+j from by omega,yY t];exact a)
 rw[f]at hl;exact hl
theorem Rel.stores (h:Rel R H w)(t:H.h.get A=some (.cells l e sz g))(hR:R A b d c){P:Program}{new r:List AV}(Y:setAt l n new=some r)(f:0<sz)(j:VRL R new I)(Z:jP new=true)
  {m:T AObj} (u:T.set 40 H.h A (.cells r e sz g)=some m):
  ∃p,(storeCells ⟨b,d+n,none⟩ I).run P w= .ok () p/\Rel R ⟨m,H.next⟩ p/\Ext R H w R ⟨m,H.next⟩ p:=by
 obtain⟨hr,a0⟩:=zAj _ _ _ _ Y;obtain⟨arr,x,pre,l',a,h1,y,h3,q,h5,z,C,h8⟩:=h.cellsAt t hR;have a1:=zRj l l' q;have N:=zRj new I j;have a2:arr.size=d+l'.length+a.length:=by
  have:=congrArg List.length y;simp at this;omega
 have K:=Z7 (P:=P) e x b (d+n) I 0 w arr h1 (by omega) (gI j Z) (C f);refine⟨_,K, ?_,Ext.put hR u⟩;refine h.put hR (Rel.live t) u ?_;have O:(wZ arr (d+n+0) I).toList=pre++((l'.take n++I++l'.drop (n+I.length))++a):=by
  rw[xE _ _ _ (by omega),y];have e1:(pre++(l'++a)).take (d+n+0)=pre++l'.take n:=by
   rw[List.take_append,zY (by omega),List.take_append];rw[show d+n+0 - pre.length=n from by omega];rw[show n - l'.length=0 from by omega];simp
  have e2:(pre++(l'++a)).drop (d+n+0+I.length)=l'.drop (n+I.length)++a:=by
   rw[List.drop_append,qO (by omega),List.drop_append];rw[show d+n+0+I.length - pre.length=n+I.length from by omega];rw[show n+I.length - l'.length=0 from by omega];simp
  rw[e1,e2];simp
 refine⟨wZ arr (d+n+0) I,x,pre,l'.take n++I++l'.drop (n+I.length),a,rfl,O,h3, ?_,h5, ?_, ?_,h8⟩
 .rw[hr];have S:VRL R (l.drop (n+new.length)) (l'.drop (n+I.length)):=by rw[N];exact q.drop _
  exact((q.take n).append j).append S
 .intro J;refine⟨?_,(z J).2⟩;have:=(z J).1;rw[<-this];simp;omega
 .intro f i hi;rw[uD]at hi;exact C f i hi
end
def RFn (R:Ren):Prop:= ∀A b d c b' d' c',R A b d c->R A b' d' c'->b=b'/\d=d'/\c=c'
theorem zLB (hm:n<KE B)(h:E<KE B):(BitVec.ofInt B.bits (Int.ofNat n)&&& BitVec.ofInt B.bits (Int.ofNat E)).toNat=Nat.land n E:=by
 have a:(BitVec.ofInt B.bits (Int.ofNat n)).toNat=n:=by
  cases B<;>simp[BitVec.toNat_ofInt,IntKind.bits,KE]at* <;>omega
 have f:(BitVec.ofInt B.bits (Int.ofNat E)).toNat=E:=by
  cases B<;>simp[BitVec.toNat_ofInt,IntKind.bits,KE]at* <;>omega
 rw[BitVec.toNat_and,a,f];rfl
theorem zOS (hm:n<KE B)(h:E<KE B):(BitVec.ofInt B.bits (Int.ofNat n)||| BitVec.ofInt B.bits (Int.ofNat E)).toNat=Nat.lor n E:=by
 have a:(BitVec.ofInt B.bits (Int.ofNat n)).toNat=n:=by
  cases B<;>simp[BitVec.toNat_ofInt,IntKind.bits,KE]at* <;>omega
 have f:(BitVec.ofInt B.bits (Int.ofNat E)).toNat=E:=by
  cases B<;>simp[BitVec.toNat_ofInt,IntKind.bits,KE]at* <;>omega
 rw[BitVec.toNat_or,a,f];rfl
theorem zLA (hm:n<KE B)(h:E<KE B):(BitVec.ofInt B.bits (Int.ofNat n) ^^^ BitVec.ofInt B.bits (Int.ofNat E)).toNat=Nat.xor n E:=by
 have a:(BitVec.ofInt B.bits (Int.ofNat n)).toNat=n:=by
  cases B<;>simp[BitVec.toNat_ofInt,IntKind.bits,KE]at* <;>omega
 have f:(BitVec.ofInt B.bits (Int.ofNat E)).toNat=E:=by
  cases B<;>simp[BitVec.toNat_ofInt,IntKind.bits,KE]at* <;>omega
 rw[BitVec.toNat_xor,a,f];rfl
theorem aU {b:Int}{r:AV}(h:Q1.slow C B z b=some r) : ∃n,r= .int B n/\(Op.intBits C B z b).run q t= .ok (.int B n) t:=by
 cases C<;>simp only[Q1.slow,zFY,zB]at h<;>first | (subst h;exact⟨_,rfl,rfl⟩) | (simp at h)
theorem KU {b:Int}{r:AV}(h:Q1 C B z b=some r){P:Program}{w:World} : ∃n,r= .int B n/\(Op.intBits C B z b).run P w= .ok (.int B n) w:=by
 unfold Q1 at h;split at h
 .rename_i m n;rw[zF]at h;split at h
  .rename_i f;simp only[zE,qE]at f;rw[vZ,zB]at h;subst h;refine⟨_,rfl, ?_⟩;simp only[Op.intBits,zLB f.1.2 f.2];rfl
  .exact aU h
 .rename_i m n;rw[zF]at h;split at h
  .rename_i f;simp only[zE,qE]at f;rw[vZ,zB]at h;subst h;refine⟨_,rfl, ?_⟩;simp only[Op.intBits,zOS f.1.2 f.2];rfl
  .exact aU h
 .rename_i m n;rw[zF]at h;split at h
  .rename_i f;simp only[zE,qE]at f;rw[vZ,zB]at h;subst h;refine⟨_,rfl, ?_⟩;simp only[Op.intBits,zLA f.1.2 f.2];rfl
  .exact aU h
 .exact aU h
theorem zLQ {k':IntKind}{b:Int}{r:AV}(k:fF C B z k' b=some r)(R:Ren):
  ∃j,(binOp C h (.int B z) (.int k' b)).run q t= .ok j t/\VR R r j:=by
 cases C
 case shl=>
  cases b with
  | negSucc m=>simp[fF]at k
  | ofNat m=>
   simp only[fF,vZ,zB]at k;subst k;refine⟨_, ?_,rfl⟩;simp[binOp,Op.shift,zO,Nat.min_def];intro p;omega
 case shr=>
  cases b with
  | negSucc m=>simp[fF]at k
  | ofNat m=>
   simp only[fF,zFY,zB]at k;subst k;refine⟨_, ?_,rfl⟩;simp[binOp,Op.shift,zO,Nat.min_def];intro p;omega
 all_goals
  simp only[fF,xX]at k;rw[zF]at k;split at k
  rotate_left
  .simp at k
  rename_i o;simp only[zR]at o;subst o
 case add=>rw[vZ,zB]at k;subst k;exact⟨_,by simp[binOp,Op.intArith,zO],rfl⟩
 case sub=>rw[vZ,zB]at k;subst k;exact⟨_,by simp[binOp,Op.intArith,zO],rfl⟩
 case mul=>rw[vZ,zB]at k;subst k;exact⟨_,by simp[binOp,Op.intArith,zO],rfl⟩
 case quo=>
  rw[xY,zF]at k;split at k
  .simp at k
  .rename_i hb;rw[vZ,zB]at k;subst k;have f: ¬b=0:=by simpa using hb
   exact⟨_,by simp[binOp,Op.intDiv,f,zO],rfl⟩
 case rem=>
  rw[xY,zF]at k;split at k
  .simp at k
  .rename_i hb;rw[zFY,zB]at k;subst k;have f: ¬b=0:=by simpa using hb
   exact⟨_,by simp[binOp,Op.intDiv,f,zO],rfl⟩
 case and=>obtain⟨n,rfl,hr⟩:=KU (P:=q) (w:=t) k;exact⟨_,by simp[binOp,hr],rfl⟩
 case or=>obtain⟨n,rfl,hr⟩:=KU (P:=q) (w:=t) k;exact⟨_,by simp[binOp,hr],rfl⟩
 case xor=>obtain⟨n,rfl,hr⟩:=KU (P:=q) (w:=t) k;exact⟨_,by simp[binOp,hr],rfl⟩
 case andNot=>obtain⟨n,rfl,hr⟩:=KU (P:=q) (w:=t) k;exact⟨_,by simp[binOp,hr],rfl⟩
 case eql=>rw[wD,zB,xY]at k;subst k;exact⟨_,by simp[binOp,Op.intCmp,zO],rfl⟩
 case neq=>rw[wD,zB,xY]at k;subst k;exact⟨_,by simp[binOp,Op.intCmp,zO];rfl,rfl⟩
 case lss=>rw[wD,zB,uO]at k;subst k;exact⟨_,by simp[binOp,Op.intCmp,zO],rfl⟩
 case leq=>
  rw[wD,zB,uO]at k;subst k;refine⟨.bool (decide (z<=b)),by simp[binOp,Op.intCmp,zO], ?_⟩;simp only[VR,Value.bool.injEq];rw[yI];simp
 case gtr=>rw[wD,zB,uO]at k;subst k;exact⟨.bool (decide (b<z)),by simp[binOp,Op.intCmp,zO],rfl⟩
 case geq=>
  rw[wD,zB,uO]at k;subst k;refine⟨.bool (decide (b<=z)),by simp[binOp,Op.intCmp,zO], ?_⟩;simp only[VR,Value.bool.injEq];rw[yI];simp
theorem zGT (s u:ByteArray):(Nat.beq s.size u.size&&Nat.beq (pack s.data.toList) (pack u.data.toList))=(s.data.toList==u.data.toList):=by
 rw[yI];simp only[zE,zX,beq_iff_eq];constructor
 .rintro⟨h1,h2⟩
  exact QM _ _ (by rw[size_data,size_data];exact h1) h2
 .intro h;refine⟨?_,by rw[h]⟩;rw[<-size_data,<-size_data,h]
theorem zLO {s u:ByteArray}{r:AV}(a:VZ C s.size (pack s.data.toList) u.size (pack u.data.toList)=some r)(R:Ren):
  ∃z,(binOp C h (.string s) (.string u)).run q t= .ok z t/\VR R r z:=by
 have hl:zBn s.size (pack s.data.toList) u.size (pack u.data.toList)=Op.bytesLess s.data.toList u.data.toList:=by
  rw[<-size_data,<-size_data];exact aJ _ _
 cases C<;>simp only[VZ,zGT,hl]at a
 case add=>
  rw[zF]at a;split at a
  .rename_i f;rw[qE]at f;rw[zBO,zB]at a;subst a;refine⟨.string (s++u), ?_,s++u,rfl,ByteArray.size_append, ?_⟩
   .have: ¬(((s.size+u.size:Nat):Int)>IntKind.i64.max):=by
     simp only[IntKind.max,IntKind.signed,IntKind.bits];simp;omega
    simp only[binOp,Op.stringOp];rw[if_neg this];rfl
   .rw[ByteArray.data_append,Array.toList_append,zDi,size_data,pow8]
  .simp at a
 case eql=>rw[wD,zB]at a;subst a;exact⟨_,by simp[binOp,Op.stringOp,toList_data,zO],rfl⟩
 case neq=>rw[wD,zB]at a;subst a;exact⟨_,by simp[binOp,Op.stringOp,toList_data,zO],rfl⟩
 case lss=>rw[wD,zB]at a;subst a;exact⟨_,by simp[binOp,Op.stringOp,toList_data,zO],rfl⟩
 case leq=>rw[wD,zB]at a;subst a;exact⟨_,by simp[binOp,Op.stringOp,toList_data,zO],rfl⟩
 case gtr=>rw[wD,zB]at a;subst a;exact⟨_,by simp only[binOp,Op.stringOp,toList_data];rfl,rfl⟩
 case geq=>rw[wD,zB]at a;subst a;exact⟨_,by simp[binOp,Op.stringOp,toList_data,zO],rfl⟩
 all_goals simp at a
theorem bytes_beq (s t:ByteArray):(s==t)=(s.data.toList==t.data.toList):=by
 have h:(s==t)=(s.data==t.data):=rfl;rw[h,yI];simp[<-Array.toList_inj]
section
variable {P:Program}{X:Cx}(hX:Ok P X){R:Ren}(hR:RFn R){w:World}
include hX hR
theorem zN4 {m:Nat}{x y:AV}(t:aeq X n h x y=some Y)(a:VR R x i)(f:VR R y s):(Op.equalIn (m+1) h i s).run P w= .ok Y w:=by
 cases n with
 | zero=>simp[aeq]at t
 | succ n=>
  simp only[aeq]at t;split at t
  .rename_i hd;have e:=hX.run_und hd w
   cases x<;>cases y<;>simp at t
   simp only[VR]at a f;subst a f t;simp[Op.equalIn,zH,e,zO]
  .rename_i hd;have e:=hX.run_und hd w
   cases x<;>cases y<;>simp[zF,xX,xY]at t
   obtain⟨rfl,rfl⟩:=t;simp only[VR]at a f;subst a f;simp[Op.equalIn,zH,e,zO]
  .rename_i hd;have e:=hX.run_und hd w
   cases x<;>cases y<;>simp at t
   obtain⟨v,rfl,rfl,rfl⟩:=a;obtain⟨s',rfl,rfl,rfl⟩:=f;rw[<-t,zGT v s',<-bytes_beq];simp[Op.equalIn,zH,e,zO]
  .rename_i o hd;have e:=hX.run_und hd w
   cases x<;>cases y<;>simp at t
   .simp only[VR]at a f;subst a f t;simp[Op.equalIn,zH,e,zO]
   .simp only[VR]at a;obtain⟨b1,j,c1,r1,rfl⟩:=f;subst a t;simp[Op.equalIn,zH,e,zO]
   .simp only[VR]at f;obtain⟨b1,j,c1,r1,rfl⟩:=a;subst f t;simp[Op.equalIn,zH,e,zO]
   .obtain⟨b1,j,c1,r1,rfl⟩:=a;obtain⟨b2,S,c2,z,rfl⟩:=f;split at t
    .simp at t
    .rename_i k C J;have es:=hX.run_size J w;rw[zF]at t;split at t
     .rename_i p;rw[zX]at p;subst p;obtain⟨rfl,rfl,rfl⟩:=hR _ _ _ _ _ _ _ r1 z;simp only[zB]at t;subst t;have q: ¬k=0:=fun K=>C (by rw[K])
      simp only[Op.equalIn,zH,e,es,Result.andThen,ne_eq,q,yD,if_true,sameAddr,beq_self_eq_true];simp only[zO];congr 1;rw[yI];simp[zX]
     .simp at t
    .simp at t
  .rename_i o hd;have e:=hX.run_und hd w
   cases x<;>cases y<;>simp at t
   .simp only[VR]at a f;subst a f t;simp[Op.equalIn,zH,e,zO]
   .simp only[VR]at a;obtain⟨b1,j,c1,r1,rfl⟩:=f;subst a t;simp[Op.equalIn,zH,e,zO]
   .simp only[VR]at f;obtain⟨b1,j,c1,r1,rfl⟩:=a;subst f t;simp[Op.equalIn,zH,e,zO]
  .rename_i o O hd;have e:=hX.run_und hd w
   cases x<;>cases y<;>simp at t
   .simp only[VR]at a f;subst a f t;simp[Op.equalIn,zH,e,zO]
   .simp only[VR]at a;obtain⟨b1,j,c1,r1,rfl⟩:=f;subst a t;simp[Op.equalIn,zH,e,zO]
   .simp only[VR]at f;obtain⟨b1,j,c1,r1,rfl⟩:=a;subst f t;simp[Op.equalIn,zH,e,zO]
  .rename_i T u Z hd;have e:=hX.run_und hd w
   cases x<;>cases y<;>simp at t
   .obtain⟨xs,N,rfl,_⟩:=a;simp only[VR]at f;subst f t;simp[Op.equalIn,zH,e,zO]
   .simp only[VR]at a;obtain⟨xs,N,rfl,_⟩:=f;subst a t;simp[Op.equalIn,zH,e,zO]
   .simp only[VR]at a f;subst a f t;simp[Op.equalIn,zH,e,zO]
  .simp at t
end
theorem zC3 {b:IntKind}(h:ZP B=ZP b):B=b:=by cases B<;>cases b<;>simp[ZP]at h<;>rfl
theorem gL (a:IntKind):3<=ZP a:=by cases a<;>simp[ZP]
def vEq (q:Nat)(x y:Value):Option Bool:=
 match x,y with
 | .bool a, .bool b=>if q=0 then some (a==b)else none
 | .int k a, .int k' b=>if q=ZP k/\k=k' then some (a==b)else none
 | .string a, .string b=>if q=2 then some (a==b)else none
 | _,_=>none
def U3:List Nat->List Value->List Value->Option Bool
 | [],[],[]=>some true
 | q::qs,x::xs,y::ys=>match vEq q x y with
  | some true=>U3 qs xs ys
  | some false=>some false
  | none=>none
 | _,_,_=>none
theorem ZG: ∀(f:List Nat) (rs:List Nat) (a b c d:List Value),a.length=f.length->b.length=f.length->U3 (f++rs) (a++c) (b++d)=(match U3 f a b with | some true=>U3 rs c d | some false=>some false | none=>none)
 | [],rs,a,b,c,d,h1,h2=>by
  have:a=[]:=zW h1;have:b=[]:=zW h2;subst a b;simp[U3]
 | q::f,rs,x::a,y::b,c,d,h1,h2=>by
  simp only[qF,U3]
  cases vEq q x y with
  | none=>rfl
  | some r=>cases r with
   | false=>rfl
   | true=>exact ZG f rs a b c d (by simpa using h1) (by simpa using h2)
 | _::_,_,[],_,_,_,h,_=>by simp at h
 | _::_,_,_::_,[],_,_,_,h=>by simp at h
theorem zCD {R:Ren}{x y:AV}(h:JV n x y=some Y)(a:VR R x i)(f:VR R y s):vEq n i s=some Y:=by
 unfold JV at h;split at h
 .simp only[zF,zX]at h;simp only[VR]at a f;subst a f;exact h
 .simp only[zF,xX,zE,zX,zR]at h;simp only[VR]at a f;subst a f;simp only[vEq];rw[xY]at h;exact h
 .simp only[zF,zX]at h;obtain⟨q,rfl,rfl,rfl⟩:=a;obtain⟨s',rfl,rfl,rfl⟩:=f;rw[zGT]at h;simp only[vEq];rw[bytes_beq];exact h
 .simp at h
theorem BR {R:Ren} : ∀ {f:List Nat} {xs j:List AV} {vs a:List Value} {b:Bool},uC f xs j=some b->VRL R xs vs->VRL R j a->U3 f vs a=some b
 | [],[],[],vs,a,b,h,hv,hu=>by simp only[VRL]at hv hu;subst hv hu;exact h
 | q::f,x::xs,y::j,vs,a,b,h,hv,hu=>by
  obtain⟨v,vs',rfl,m,p⟩:=hv;obtain⟨u,z,rfl,o,t⟩:=hu;simp only[uC]at h;simp only[U3];split at h
  .rename_i e;rw[zCD e m o];exact BR h p t
  .rename_i e;rw[zCD e m o];exact h
  .simp at h
 | [],[],_::_,_,_,_,h,_,_=>by simp[uC]at h
 | [],_::_,_,_,_,_,h,_,_=>by simp[uC]at h
 | _::_,[],_,_,_,_,h,_,_=>by simp[uC]at h
 | _::_,_::_,[],_,_,_,h,_,_=>by simp[uC]at h
section
variable {P:Program}
def EqF (P:Program)(m:Nat)(t:TypeId)(a:List Nat):Prop:=
 ∀(w:World) (xs f:Array Value) (off:Nat) (b:Bool),off+a.length<=xs.size->off+a.length<=f.size->U3 a ((xs.toList.drop off).take a.length) ((f.toList.drop off).take a.length)=some b->
  ∃x y,(part t xs off).run P w= .ok x w/\(part t f off).run P w= .ok y w/\(Op.equalIn m t x y).run P w= .ok b w
theorem QL {xs:Array Value}{n:Nat} :xs.toList.drop E=(xs.toList.drop E).take n++xs.toList.drop (E+n):=by
 rw[<-List.drop_drop,y6]
theorem zAk (h:n+E<=G.size):((G.toList.drop n).take E).length=E:=by
 simp;omega
theorem Y5 {m:Nat}{xs a:Array Value}{n:Nat}(T:xs.size=n)(Y:a.size=n){rec:TypeId->Option (List Nat)}(q: ∀t k,rec t=some k->EqF P m t k): ∀(fs:List Field) (acc:Nat) (r:List Nat) (b:Bool) (w:World),zAG P rec fs acc=some r->acc+r.length=n->
  U3 r (xs.toList.drop acc) (a.toList.drop acc)=some b->(Op.eqFields m xs a fs).run P w= .ok b w
 | [],acc,r,b,w,h,hn,hb=>by
  simp only[zAG,zB]at h;subst h;have Z:xs.toList.drop acc=[]:=qO (by simp at hn⊢;omega);have e2:a.toList.drop acc=[]:=qO (by simp at hn⊢;omega);rw[Z,e2]at hb;simp only[U3,zB]at hb;subst hb;simp[Op.eqFields]
 | f::fs,acc,r,b,w,h,hn,hb=>by
  simp only[zAG]at h;split at h
  .rename_i k j J hj;rw[zF]at h;split at h
   .rename_i K;simp only[zE,yU,zX]at K;obtain⟨⟨h1,N⟩,h3⟩:=K;split at h
    .rename_i r' O;simp only[zB]at h;subst h;simp only[zV]at hn;have u:acc+k.length<=xs.size:=by omega
     have z:acc+k.length<=a.size:=by omega
     rw[QL (n:=k.length),QL (xs:=a) (n:=k.length),ZG _ _ _ _ _ _ (zAk u) (zAk z)]at hb
     have S:f.name≠ "_":=by simpa using h1
     simp only[Op.eqFields,if_pos S];split at hb
     .rename_i e;obtain⟨x,y,o,p,C⟩:=q _ _ J w xs a acc true u z e;rw[<-N]at o p;simp only[zH,o,p,C,Result.andThen_ok];simpa using Y5 T Y q fs (acc+j.size) r' b w O (by omega) (by rw[<-h3];exact hb)
     .rename_i e;obtain⟨x,y,o,p,C⟩:=q _ _ J w xs a acc false u z e;rw[<-N]at o p;simp only[zB]at hb;subst hb;simp[zH,o,p,C]
     .simp at hb
    .simp at h
   .simp at h
  .simp at h
theorem JS {m c:Nat}{k:List Nat}{e:TypeId}{xs a:Array Value}(t:k.length=c)(j:EqF P m e k): ∀(n i:Nat) (b:Bool) (w:World),xs.size=(i+n)*c->a.size=(i+n)*c->
  U3 (List.replicate n k).flatten (xs.toList.drop (i*c)) (a.toList.drop (i*c))=some b->(Op.eqItems m e c xs a (List.range' i n)).run P w= .ok b w
 | 0,i,b,w,hx,hy,hb=>by
  have u:xs.toList.drop (i*c)=[]:=qO (by simp;rw[hx];simp);have z:a.toList.drop (i*c)=[]:=qO (by simp;rw[hy];simp);rw[u,z]at hb;simp only[List.replicate_zero,List.flatten_nil,U3,zB]at hb;subst hb;simp[Op.eqItems]
 | n+1,i,b,w,hx,hy,hb=>by
  subst t;have C:(i+(n+1))*k.length=i*k.length+k.length+n*k.length:=by rw[j8,j8];omega
  have f:i*k.length+k.length<=xs.size:=by omega
  have h:i*k.length+k.length<=a.size:=by omega
  have hi:i*k.length+k.length=(i+1)*k.length:=by rw[j8];omega
  rw[List.replicate_succ,List.flatten_cons,QL (n:=k.length),QL (xs:=a) (n:=k.length),ZG _ _ _ _ _ _ (zAk f) (zAk h)]at hb;simp only[List.range'_succ,Op.eqItems];split at hb
  .rename_i e;obtain⟨x,y,o,p,q⟩:=j w xs a (i*k.length) true f h e;simp only[zH,o,p,q,Result.andThen_ok];have:=JS rfl j n (i+1) b w (by rw[hx];congr 1;omega) (by rw[hy];congr 1;omega) (by rw[<-hi];exact hb);simpa using this
  .rename_i e;obtain⟨x,y,o,p,q⟩:=j w xs a (i*k.length) false f h e;simp only[zB]at hb;subst hb;simp[zH,o,p,q]
  .simp at hb
theorem zAV: ∀(d:Nat) (t:TypeId) (o:List Nat),dQ P d t=some o-> ∀m,d<=m->
  EqF P m t o/\ ∀(w:World) (xs a:Array Value) (b:Bool),xH P t=true->xs.size=o.length->a.size=o.length->U3 o xs.toList a.toList=some b->(Op.equalIn m t (.agg xs) (.agg a)).run P w= .ok b w
 | 0,t,o,h,_,_=>by simp[dQ]at h
 | d+1,t,o,h,m,hm=>by
  obtain⟨m,rfl⟩: ∃m',m=m'+1:=⟨m - 1,by omega⟩;have ih:=zAV d;have a2:xH P t=true->(∀i,P.info? t=some i->i.size=o.length)->(∀(w:World) (xs a:Array Value) (b:Bool),xs.size=o.length->a.size=o.length->U3 o xs.toList a.toList=some b->(Op.equalIn (m+1) t (.agg xs) (.agg a)).run P w= .ok b w)->
    (∃i,P.info? t=some i)->EqF P (m+1) t o:=by
   intro N a7 J ⟨i,hi⟩ w xs a off b S T hb;have a8:=a7 i hi;have a3: ∀w,(sizeOf t).run P w= .ok o.length w:=fun w=>by simp[sizeOf,typeInfo,hi,a8]
   have a0: ∀p:Array Value,off+o.length<=p.size->(p.extract off (off+o.length)).toList=(p.toList.drop off).take o.length/\(p.extract off (off+o.length)).size=o.length:=by
    intro p hz;refine⟨by rw[Array.toList_extract];simp[List.extract],by simp;omega⟩
   have Y:(isAgg t).run P w= .ok true w:=by
    unfold xH at N;split at N
    .rename_i fs f;simp[isAgg,zH,run_underlying f]
    .rename_i n e f;simp[isAgg,zH,run_underlying f]
    .simp at N
   refine⟨.agg (xs.extract off (off+o.length)), .agg (a.extract off (off+o.length)), ?_, ?_, ?_⟩
   .simp[part,zH,Y,a3]
   .simp[part,zH,Y,a3]
   .refine J w _ _ b (a0 xs S).2 (a0 a T).2 ?_;rw[(a0 xs S).1,(a0 a T).1];exact hb
  have a1: ∀q,o=[q]->(∃u,P.underlying t=some u/\dI u=false)->(∀w x y b,vEq q x y=some b->(Op.equalIn (m+1) t x y).run P w= .ok b w)->EqF P (m+1) t o:=by
   intro q a9 ⟨u,f,N⟩ hq w xs a off b S T hb;subst a9;simp only[yR]at S T hb;have Y:(isAgg t).run P w= .ok false w:=by
    cases u<;>first | (simp[dI]at N;done) | simp[isAgg,zH,run_underlying f]
   have hg: ∀p:Array Value,off+1<=p.size-> ∃z,p[off]? =some z/\(p.toList.drop off).take 1=[z]:=by
    intro p hz;have b0:off<p.size:=hz;refine⟨p[off],by simp, ?_⟩;rw[qI (by simpa using b0)];simp
   obtain⟨x,x1,x2⟩:=hg xs S;obtain⟨y,y1,y2⟩:=hg a T;rw[x2,y2]at hb;have b1:vEq q x y=some b:=by
    simp only[U3]at hb;split at hb
    .rename_i e;rw[e];exact hb
    .rename_i e;rw[e];exact hb
    .simp at hb
   exact⟨x,y,by simp[part,zH,Y,x1],by simp[part,zH,Y,y1],hq w x y b b1⟩
  unfold dQ at h;split at h
  .rename_i j f C;rw[zF]at h;split at h
   .simp only[zB]at h;subst h;refine⟨a1 0 rfl ⟨_,f,rfl⟩ (fun w x y b hb=> ?_),fun _ _ _ _ Z=>by simp[xH,f]at Z⟩
    cases x<;>cases y<;>simp[vEq]at hb
    .subst hb;simp[Op.equalIn,zH,run_underlying f]
    .rename_i k1 n1 k2 n2;have:=gL k1;omega
   .simp at h
  .rename_i k j f C;rw[zF]at h;split at h
   .simp only[zB]at h;subst h;refine⟨a1 (ZP k) rfl ⟨_,f,rfl⟩ (fun w x y b hb=> ?_),fun _ _ _ _ Z=>by simp[xH,f]at Z⟩;have b3:=gL k
    cases x<;>cases y<;>simp[vEq]at hb
    .omega
    .obtain⟨⟨_,h2⟩,rfl⟩:=hb;subst h2;simp[Op.equalIn,zH,run_underlying f]
    .omega
   .simp at h
  .rename_i j f C;rw[zF]at h;split at h
   .simp only[zB]at h;subst h;refine⟨a1 2 rfl ⟨_,f,rfl⟩ (fun w x y b hb=> ?_),fun _ _ _ _ Z=>by simp[xH,f]at Z⟩
    cases x<;>cases y<;>simp[vEq]at hb
    .rename_i k1 n1 k2 n2;have:=gL k1;omega
    .subst hb;simp[Op.equalIn,zH,run_underlying f]
   .simp at h
  .rename_i fs j f C;rw[zF]at h;split at h
   .rename_i a4;simp only[yU]at a4;split at h
    .rename_i r hr;rw[zF]at h;split at h
     .rename_i O;rw[zX]at O;simp only[zB]at h;subst h;have hn:xH P t=true:=by simp[xH,f]
      have J: ∀(w:World) (xs a:Array Value) (b:Bool),xs.size=r.length->a.size=r.length->U3 r xs.toList a.toList=some b->(Op.equalIn (m+1) t (.agg xs) (.agg a)).run P w= .ok b w:=by
       intro w xs a b hx hy hb;have a5:P.fieldsOf t=fs:=by simp[Program.fieldsOf,f]
       rw[run_equalIn_struct w m t xs a (by rw[a5];exact f) a4,a5];exact Y5 hx hy (rec:=dQ P d) (fun t' k h1=>(ih t' k h1 m (by omega)).1) fs.toList 0 r b w hr (by omega) (by simpa using hb)
      exact⟨a2 hn (fun i hi=>by rw[C]at hi;injection hi with hi;subst hi;exact O.symm) J ⟨j,C⟩,fun w xs a b _=>J w xs a b⟩
     .simp at h
    .simp at h
   .simp at h
  .rename_i len e j f C;split at h
   .rename_i k ei hk a6;rw[zF]at h;split at h
    .rename_i K;simp only[zE,zX]at K;simp only[zB]at h;subst h;have hn:xH P t=true:=by simp[xH,f]
     have b2:P.cellsOf e=ei.size:=by simp[Program.cellsOf,a6]
     have O:(List.replicate len k).flatten.length=len*k.length:=by simp
     have J: ∀(w:World) (xs a:Array Value) (b:Bool),xs.size=(List.replicate len k).flatten.length->a.size=(List.replicate len k).flatten.length->U3 (List.replicate len k).flatten xs.toList a.toList=some b->(Op.equalIn (m+1) t (.agg xs) (.agg a)).run P w= .ok b w:=by
      intro w xs a b hx hy hb;rw[run_equalIn_array w m xs a f a6,b2,List.range_eq_range'];rw[O]at hx hy;exact JS K.2 (ih e k hk m (by omega)).1 len 0 b w (by rw[hx,K.2];simp) (by rw[hy,K.2];simp) (by simpa using hb)
     exact⟨a2 hn (fun i hi=>by rw[C]at hi;injection hi with hi;subst hi;rw[O,K.2,K.1]) J ⟨j,C⟩,fun w xs a b _=>J w xs a b⟩
    .simp at h
   .simp at h
  .simp at h
theorem zC8 {rec:TypeId->Option (List Nat)} : ∀ {fs:List Field} {acc:Nat} {r:List Nat},zAG P rec fs acc=some r-> ∀f∈fs,∃k,rec f.type=some k
 | [],_,_,_,f,a=>by simp at a
 | g::fs,acc,r,h,f,a=>by
  simp only[zAG]at h;split at h
  .rename_i k j o p;rcases zK.1 a with rfl | a
   .exact⟨k,o⟩
   .rw[zF]at h;split at h
    .split at h
     .rename_i q m;exact zC8 m f a
     .simp at h
    .simp at h
  .simp at h
theorem US: ∀(d:Nat) (t:TypeId) (f:List Nat),dQ P d t=some f-> ∀m,d<=m->P.eqGuardType m t=false
 | 0,t,f,h,_,_=>by simp[dQ]at h
 | d+1,t,f,h,m,hm=>by
  obtain⟨m,rfl⟩: ∃q,m=q+1:=⟨m - 1,by omega⟩;have p:=US d;unfold dQ at h;unfold Program.eqGuardType;split at h
  .rename_i a _;simp[a]
  .rename_i a _;simp[a]
  .rename_i a _;simp[a]
  .rename_i fs j a u;rw[zF]at h;split at h
   .split at h
    .rename_i r hr;simp only[a];rw[Array.any_eq_false];intro i hi;obtain⟨k,o⟩:=zC8 hr fs[i] (by simp);rw[p _ _ o m (by omega)];simp
    .simp at h
   .simp at h
  .rename_i len e j a u;split at h
   .rename_i k y o x;simp only[a];exact p _ _ o m (by omega)
   .simp at h
  .simp at h
end
theorem wE {oy:Operand}(P: ∀a,i≠ .agg a)(j:i≠ .nilIface):(eqGuard C h m oy i s).run q t= .ok () t:=by
 cases C<;>first
  | rfl
  | (cases i<;>first | (exact absurd rfl (P _)) | (exact absurd rfl j) | rfl)
section
variable {P:Program}{X:Cx}(hX:Ok P X){R:Ren}(hR:RFn R){w:World}
include hX hR
theorem vV {x y r:AV}(t:zCU X C h x y=some r)(f:VR R x i)(j:VR R y s)
  (o: ∀k n,i≠ .int k n) (p: ∀v,i≠ .string v) (q: ∀k n,i≠ .float k n) (a: ∀k n m,i≠ .complex k n m): ∃z,(binOp C h i s).run P w= .ok z w/\VR R r z:=by
 unfold zCU at t;split at t
 .split at t
  .rename_i b hb;rw[wD,zB]at t;subst t;have e:=zN4 hX hR (w:=w) (m:=9999) hb f j;refine⟨.bool b, ?_,rfl⟩;have:binOp .eql h i s=(do pure (.bool (← Op.equal h i s)):Sem Value):=by
    cases i<;>first | (exact absurd rfl (o _ _)) | (exact absurd rfl (p _)) | (exact absurd rfl (q _ _)) | (exact absurd rfl (a _ _ _)) | rfl
   rw[this];simp only[Op.equal,Op.maxDepth,zH,e,Result.andThen];rfl
  .simp at t
 .split at t
  .rename_i b hb;rw[wD,zB]at t;subst t;have e:=zN4 hX hR (w:=w) (m:=9999) hb f j;refine⟨.bool !b, ?_,rfl⟩;have:binOp .neq h i s=(do pure (.bool (!(← Op.equal h i s))):Sem Value):=by
    cases i<;>first | (exact absurd rfl (o _ _)) | (exact absurd rfl (p _)) | (exact absurd rfl (q _ _)) | (exact absurd rfl (a _ _ _)) | rfl
   rw[this];simp only[Op.equal,Op.maxDepth,zH,e,Result.andThen];rfl
  .simp at t
 .simp at t
omit hR in
theorem zLR {oy:Operand}{a b:List AV}{r:AV}(t:zJM X C h a b=some r)(j:VR R (.agg a) i)(ox:VR R (.agg b) s):
  (eqGuard C h m oy i s).run P w= .ok () w/\ ∃z,(binOp C h i s).run P w= .ok z w/\VR R r z:=by
 obtain⟨vs,rfl,j⟩:=j;obtain⟨K,rfl,ox⟩:=ox;unfold zJM at t;split at t
 .rename_i N f;have J:(h,N)∈X.fl:=by
   generalize X.fl=l at f
   induction l with
   | nil=>simp[zDv]at f
   | cons x l ih=>
    obtain⟨v,ks⟩:=x;simp only[zDv,zF,zX]at f;split at f
    .rename_i e;simp only[zB]at f;subst e f;simp
    .exact zC _ (ih f)
  obtain⟨q,O,S⟩:=hX.fl _ J;rw[zF]at t;split at t
  .rename_i T;simp only[zE,zX,jY]at T;have Y:=zRj _ _ j;have Z:=zRj _ _ ox;split at t
   .rename_i p hb;have y:=(zAV _ _ _ q 10000 S).2 w ⟨vs⟩ ⟨K⟩ p O (by simp;omega) (by simp;omega) (BR hb j ox);have o:=US _ _ _ q P.depth (zM _);split at t
    .rw[wD,zB]at t;subst t;refine⟨by simp[eqGuard,zH,program,Sem.run,o], .bool p, ?_,rfl⟩;rw[run_eql_struct,y];rfl
    .rw[wD,zB]at t;subst t;refine⟨by simp[eqGuard,zH,program,Sem.run,o], .bool !p, ?_,rfl⟩;rw[run_neq_struct,y];rfl
    .simp at t
   .simp at t
  .simp at t
 .simp at t
theorem zJL {ox oy:Operand}{x y r:AV}(j:zJN X C h x y=some r)(a:VR R x i)(f:VR R y s):
  (eqGuard C h ox oy i s).run P w= .ok () w/\ ∃z,(binOp C h i s).run P w= .ok z w/\VR R r z:=by
 unfold zJN at j;split at j
 .simp only[VR]at a f;subst a f;exact⟨wE (by simp) (by simp),zLQ j R⟩
 .obtain⟨t,rfl,rfl,rfl⟩:=a;obtain⟨s',rfl,rfl,rfl⟩:=f;exact⟨wE (by simp) (by simp),zLO j R⟩
 .exact zLR hX j a f
 .rw[zF]at j;split at j
  .rename_i o
   cases x<;>first | (simp[wM]at o;done) | skip
   case bool=>have e:=a;simp only[VR]at e;subst e;exact⟨wE (by simp) (by simp),vV hX hR j a f (by simp) (by simp) (by simp) (by simp)⟩
   case nP=>have e:i= .pointer none:=a;subst e;exact⟨wE (by simp) (by simp),vV hX hR j a f (by simp) (by simp) (by simp) (by simp)⟩
   case ptr=>obtain⟨b1,m,c1,r1,rfl⟩:=id a;exact⟨wE (by simp) (by simp),vV hX hR j a f (by simp) (by simp) (by simp) (by simp)⟩
   case nS=>have e:i= .slice none 0 0:=a;subst e;exact⟨wE (by simp) (by simp),vV hX hR j a f (by simp) (by simp) (by simp) (by simp)⟩
   case slice=>obtain⟨b1,m,c1,r1,rfl⟩:=id a;exact⟨wE (by simp) (by simp),vV hX hR j a f (by simp) (by simp) (by simp) (by simp)⟩
   case eS=>obtain⟨p,c1,rfl⟩:=id a;exact⟨wE (by simp) (by simp),vV hX hR j a f (by simp) (by simp) (by simp) (by simp)⟩
   case nM=>have e:i= .map none:=a;subst e;exact⟨wE (by simp) (by simp),vV hX hR j a f (by simp) (by simp) (by simp) (by simp)⟩
   case map=>obtain⟨b1,m,c1,r1,rfl⟩:=id a;exact⟨wE (by simp) (by simp),vV hX hR j a f (by simp) (by simp) (by simp) (by simp)⟩
   case func=>obtain⟨xs,q,rfl,_⟩:=id a;exact⟨wE (by simp) (by simp),vV hX hR j a f (by simp) (by simp) (by simp) (by simp)⟩
   case yT=>obtain⟨b1,m,c1,r1,rfl⟩:=id a;exact⟨wE (by simp) (by simp),vV hX hR j a f (by simp) (by simp) (by simp) (by simp)⟩
   case nilFunc=>have e:i= .nilFunc:=a;subst e;exact⟨wE (by simp) (by simp),vV hX hR j a f (by simp) (by simp) (by simp) (by simp)⟩
  .simp at j
end
mutual
theorem JB: ∀(x y:AV),aveq x y=true->x=y
 | .bool a, .bool b,h=>by simp[aveq]at h;rw[h]
 | .int k a, .int k' b,h=>by simp[aveq,xX,xY]at h;rw[h.1,h.2]
 | .str l b, .str m c,h=>by simp[aveq]at h;rw[h.1,h.2]
 | .nP, .nP,_=>rfl
 | .ptr a o, .ptr b p,h=>by simp[aveq]at h;rw[h.1,h.2]
 | .nS, .nS,_=>rfl
 | .slice a b c d, .slice a' b' c' d',h=>by simp[aveq]at h;rw[h.1.1.1,h.1.1.2,h.1.2,h.2]
 | .nM, .nM,_=>rfl
 | .map a, .map b,h=>by simp[aveq]at h;rw[h]
 | .func f a b, .func g c d,h=>by simp[aveq]at h;rw[h.1.1,YD a c h.1.2,YD b d h.2]
 | .yT a, .yT b,h=>by simp[aveq]at h;rw[h]
 | .nilFunc, .nilFunc,_=>rfl
 | .iface t x, .iface u y,h=>by simp[aveq]at h;rw[h.1,JB x y h.2]
 | .nilIface, .nilIface,_=>rfl
 | .agg a, .agg b,h=>by simp[aveq]at h;rw[YD a b h]
 | .tuple a, .tuple b,h=>by simp[aveq]at h;rw[YD a b h]
 | .eS,y,h=>by cases y<;>first | rfl | (simp[aveq]at h)
 | .val _, .val _,h | .val _, .bool _,h | .val _, .int _ _,h | .val _, .str _ _,h | .val _, .nP,h | .val _, .ptr _ _,h | .val _, .nS,h | .val _, .slice _ _ _ _,h | .val _, .eS,h | .val _, .nM,h | .val _, .map _,h | .val _, .func _ _ _,h | .val _, .yT _,h | .val _, .nilFunc,h | .val _, .iface _ _,h | .val _, .nilIface,h | .val _, .agg _,h | .val _, .tuple _,h=>by simp[aveq]at h
 | .bool _, .val _,h | .int _ _, .val _,h | .str _ _, .val _,h | .nP, .val _,h | .ptr _ _, .val _,h | .nS, .val _,h | .slice _ _ _ _, .val _,h | .nM, .val _,h | .map _, .val _,h | .func _ _ _, .val _,h | .yT _, .val _,h | .nilFunc, .val _,h | .iface _ _, .val _,h | .nilIface, .val _,h | .agg _, .val _,h | .tuple _, .val _,h=>by simp[aveq]at h
 | .bool _, .int _ _,h | .bool _, .str _ _,h | .bool _, .nP,h | .bool _, .ptr _ _,h | .bool _, .nS,h | .bool _, .slice _ _ _ _,h | .bool _, .eS,h | .bool _, .nM,h | .bool _, .map _,h | .bool _, .func _ _ _,h | .bool _, .yT _,h | .bool _, .nilFunc,h | .bool _, .iface _ _,h | .bool _, .nilIface,h | .bool _, .agg _,h | .bool _, .tuple _,h=>by simp[aveq]at h
 | .int _ _, .bool _,h | .int _ _, .str _ _,h | .int _ _, .nP,h | .int _ _, .ptr _ _,h | .int _ _, .nS,h | .int _ _, .slice _ _ _ _,h | .int _ _, .eS,h | .int _ _, .nM,h | .int _ _, .map _,h | .int _ _, .func _ _ _,h | .int _ _, .yT _,h | .int _ _, .nilFunc,h | .int _ _, .iface _ _,h | .int _ _, .nilIface,h | .int _ _, .agg _,h | .int _ _, .tuple _,h=>by simp[aveq]at h
 | .str _ _, .bool _,h | .str _ _, .int _ _,h | .str _ _, .nP,h | .str _ _, .ptr _ _,h | .str _ _, .nS,h | .str _ _, .slice _ _ _ _,h | .str _ _, .eS,h | .str _ _, .nM,h | .str _ _, .map _,h | .str _ _, .func _ _ _,h | .str _ _, .yT _,h | .str _ _, .nilFunc,h | .str _ _, .iface _ _,h | .str _ _, .nilIface,h | .str _ _, .agg _,h | .str _ _, .tuple _,h=>by simp[aveq]at h
 | .nP, .bool _,h | .nP, .int _ _,h | .nP, .str _ _,h | .nP, .ptr _ _,h | .nP, .nS,h | .nP, .slice _ _ _ _,h | .nP, .eS,h | .nP, .nM,h | .nP, .map _,h | .nP, .func _ _ _,h | .nP, .yT _,h | .nP, .nilFunc,h | .nP, .iface _ _,h | .nP, .nilIface,h | .nP, .agg _,h | .nP, .tuple _,h=>by simp[aveq]at h
 | .ptr _ _, .bool _,h | .ptr _ _, .int _ _,h | .ptr _ _, .str _ _,h | .ptr _ _, .nP,h | .ptr _ _, .nS,h | .ptr _ _, .slice _ _ _ _,h | .ptr _ _, .eS,h | .ptr _ _, .nM,h | .ptr _ _, .map _,h | .ptr _ _, .func _ _ _,h | .ptr _ _, .yT _,h | .ptr _ _, .nilFunc,h | .ptr _ _, .iface _ _,h | .ptr _ _, .nilIface,h | .ptr _ _, .agg _,h | .ptr _ _, .tuple _,h=>by simp[aveq]at h
 | .nS, .bool _,h | .nS, .int _ _,h | .nS, .str _ _,h | .nS, .nP,h | .nS, .ptr _ _,h | .nS, .slice _ _ _ _,h | .nS, .eS,h | .nS, .nM,h | .nS, .map _,h | .nS, .func _ _ _,h | .nS, .yT _,h | .nS, .nilFunc,h | .nS, .iface _ _,h | .nS, .nilIface,h | .nS, .agg _,h | .nS, .tuple _,h=>by simp[aveq]at h
 | .slice _ _ _ _, .bool _,h | .slice _ _ _ _, .int _ _,h | .slice _ _ _ _, .str _ _,h | .slice _ _ _ _, .nP,h | .slice _ _ _ _, .ptr _ _,h | .slice _ _ _ _, .nS,h | .slice _ _ _ _, .eS,h | .slice _ _ _ _, .nM,h | .slice _ _ _ _, .map _,h | .slice _ _ _ _, .func _ _ _,h | .slice _ _ _ _, .yT _,h | .slice _ _ _ _, .nilFunc,h | .slice _ _ _ _, .iface _ _,h | .slice _ _ _ _, .nilIface,h | .slice _ _ _ _, .agg _,h | .slice _ _ _ _, .tuple _,h=>by simp[aveq]at h
 | .nM, .bool _,h | .nM, .int _ _,h | .nM, .str _ _,h | .nM, .nP,h | .nM, .ptr _ _,h | .nM, .nS,h | .nM, .slice _ _ _ _,h | .nM, .eS,h | .nM, .map _,h | .nM, .func _ _ _,h | .nM, .yT _,h | .nM, .nilFunc,h | .nM, .iface _ _,h | .nM, .nilIface,h | .nM, .agg _,h | .nM, .tuple _,h=>by simp[aveq]at h
 | .map _, .bool _,h | .map _, .int _ _,h | .map _, .str _ _,h | .map _, .nP,h | .map _, .ptr _ _,h | .map _, .nS,h | .map _, .slice _ _ _ _,h | .map _, .eS,h | .map _, .nM,h | .map _, .func _ _ _,h | .map _, .yT _,h | .map _, .nilFunc,h | .map _, .iface _ _,h | .map _, .nilIface,h | .map _, .agg _,h | .map _, .tuple _,h=>by simp[aveq]at h
 | .func _ _ _, .bool _,h | .func _ _ _, .int _ _,h | .func _ _ _, .str _ _,h | .func _ _ _, .nP,h | .func _ _ _, .ptr _ _,h | .func _ _ _, .nS,h | .func _ _ _, .slice _ _ _ _,h | .func _ _ _, .eS,h | .func _ _ _, .nM,h | .func _ _ _, .map _,h | .func _ _ _, .yT _,h | .func _ _ _, .nilFunc,h | .func _ _ _, .iface _ _,h | .func _ _ _, .nilIface,h | .func _ _ _, .agg _,h | .func _ _ _, .tuple _,h=>by simp[aveq]at h
 | .yT _, .bool _,h | .yT _, .int _ _,h | .yT _, .str _ _,h | .yT _, .nP,h | .yT _, .ptr _ _,h | .yT _, .nS,h | .yT _, .slice _ _ _ _,h | .yT _, .eS,h | .yT _, .nM,h | .yT _, .map _,h | .yT _, .func _ _ _,h | .yT _, .nilFunc,h | .yT _, .iface _ _,h | .yT _, .nilIface,h | .yT _, .agg _,h | .yT _, .tuple _,h=>by simp[aveq]at h
 | .nilFunc, .bool _,h | .nilFunc, .int _ _,h | .nilFunc, .str _ _,h | .nilFunc, .nP,h | .nilFunc, .ptr _ _,h | .nilFunc, .nS,h | .nilFunc, .slice _ _ _ _,h | .nilFunc, .eS,h | .nilFunc, .nM,h | .nilFunc, .map _,h | .nilFunc, .func _ _ _,h | .nilFunc, .yT _,h | .nilFunc, .iface _ _,h | .nilFunc, .nilIface,h | .nilFunc, .agg _,h | .nilFunc, .tuple _,h=>by simp[aveq]at h
 | .iface _ _, .bool _,h | .iface _ _, .int _ _,h | .iface _ _, .str _ _,h | .iface _ _, .nP,h | .iface _ _, .ptr _ _,h | .iface _ _, .nS,h | .iface _ _, .slice _ _ _ _,h | .iface _ _, .eS,h | .iface _ _, .nM,h | .iface _ _, .map _,h | .iface _ _, .func _ _ _,h | .iface _ _, .yT _,h | .iface _ _, .nilFunc,h | .iface _ _, .nilIface,h | .iface _ _, .agg _,h | .iface _ _, .tuple _,h=>by simp[aveq]at h
 | .nilIface, .bool _,h | .nilIface, .int _ _,h | .nilIface, .str _ _,h | .nilIface, .nP,h | .nilIface, .ptr _ _,h | .nilIface, .nS,h | .nilIface, .slice _ _ _ _,h | .nilIface, .eS,h | .nilIface, .nM,h | .nilIface, .map _,h | .nilIface, .func _ _ _,h | .nilIface, .yT _,h | .nilIface, .nilFunc,h | .nilIface, .iface _ _,h | .nilIface, .agg _,h | .nilIface, .tuple _,h=>by simp[aveq]at h
 | .agg _, .bool _,h | .agg _, .int _ _,h | .agg _, .str _ _,h | .agg _, .nP,h | .agg _, .ptr _ _,h | .agg _, .nS,h | .agg _, .slice _ _ _ _,h | .agg _, .eS,h | .agg _, .nM,h | .agg _, .map _,h | .agg _, .func _ _ _,h | .agg _, .yT _,h | .agg _, .nilFunc,h | .agg _, .iface _ _,h | .agg _, .nilIface,h | .agg _, .tuple _,h=>by simp[aveq]at h
 | .tuple _, .bool _,h | .tuple _, .int _ _,h | .tuple _, .str _ _,h | .tuple _, .nP,h | .tuple _, .ptr _ _,h | .tuple _, .nS,h | .tuple _, .slice _ _ _ _,h | .tuple _, .eS,h | .tuple _, .nM,h | .tuple _, .map _,h | .tuple _, .func _ _ _,h | .tuple _, .yT _,h | .tuple _, .nilFunc,h | .tuple _, .iface _ _,h | .tuple _, .nilIface,h | .tuple _, .agg _,h=>by simp[aveq]at h
theorem YD: ∀(x y:List AV),aZ x y=true->x=y
 | [],[],_=>rfl
 | x::xs,y::ys,h=>by simp[aZ]at h;rw[JB x y h.1,YD xs ys h.2]
 | [],_::_,h=>by simp[aZ]at h
 | _::_,[],h=>by simp[aZ]at h
end
theorem uJ {R:Ren}{x:AV}(h:K2 x=n)(f:n≠1)(a:VR R x i):(∃b,x= .bool b/\i= .bool b/\n=0)\/(∃k v,x= .int k v/\i= .int k v/\n=ZP k)\/(∃s:ByteArray,x= .str s.size (pack s.data.toList)/\i= .string s/\n=2):=by
 cases x with
 | bool b=>simp only[VR]at a;exact .inl ⟨b,rfl,a,h.symm⟩
 | int k v=>simp only[VR]at a;exact .inr (.inl ⟨k,v,rfl,a,h.symm⟩)
 | str v b=>obtain⟨s,rfl,rfl,rfl⟩:=a;exact .inr (.inr ⟨s,rfl,rfl,h.symm⟩)
 | _=>simp[K2]at h;omega
theorem zHO {R m:Ren}{x y:AV}(h:K2 x=n)(o:K2 y=n)(f:n≠1)(p:VR R x i)(t:VR m y s):(x=y↔i=s):=by
 have hi:=gL;rcases uJ h f p with⟨b,rfl,rfl,e⟩ | ⟨k,u,rfl,rfl,e⟩ | ⟨v,rfl,rfl,e⟩<;>rcases uJ o f t with⟨b',rfl,rfl,j⟩ | ⟨k',C,rfl,rfl,j⟩ | ⟨s',rfl,rfl,j⟩
 .simp
 .have:=hi k';omega
 .omega
 .have:=hi k;omega
 .simp
 .have:=hi k;omega
 .omega
 .have:=hi k';omega
 .constructor
  .intro a;simp only[AV.str.injEq]at a;have z:=QM _ _ (by rw[size_data,size_data];exact a.1) a.2;congr 1;have:v.data=s'.data:=Array.toList_inj.1 z
   cases v;cases s';simp_all
  .intro a;injection a with a;rw[a]
theorem zEw {R m:Ren} : ∀ {a:List Nat} {xs f:List AV} {vs j:List Value},wR xs a=true->wR f a=true->1∉a->VRL R xs vs->VRL m f j->(xs=f↔vs=j)
 | [],[],[],vs,j,_,_,_,hv,hu=>by simp only[VRL]at hv hu;subst hv hu;simp
 | q::a,x::xs,y::f,vs,j,h1,h2,hq,hv,hu=>by
  obtain⟨v,vs',rfl,o,p⟩:=hv;obtain⟨u,K,rfl,t,z⟩:=hu;simp only[wR,zE,zX]at h1 h2;simp only[zK,not_or]at hq;have C:=zHO h1.1 h2.1 (Ne.symm hq.1) o t;have J:=zEw h1.2 h2.2 hq.2 p z;simp only[y8,C,J]
 | [],_::_,_,_,_,h,_,_,_,_=>by simp[wR]at h
 | [],[],_::_,_,_,_,h,_,_,_=>by simp[wR]at h
 | _::_,[],_,_,_,h,_,_,_,_=>by simp[wR]at h
 | _::_,_::_,[],_,_,_,h,_,_,_=>by simp[wR]at h
theorem cO {R o:Ren}{x y:AV}(h:xO v x=true)(a:xO v y=true)(f:VR R x i)(j:VR o y s):(x=y↔i=s):=by
 unfold xO at h a;split at h
 .simp at h
 .rename_i q p;simp only[zF,zX]at h a;split at h
  .rename_i m;rw[if_pos m]at a;split at h
   .rename_i l;split at a
    .rename_i l';simp only[zE,yU,List.contains_eq_mem,yO]at h a;obtain⟨vs,rfl,f⟩:=f;obtain⟨t,rfl,j⟩:=j;have:=zEw h.1 a.1 h.2 f j;simp only[AV.agg.injEq,Value.agg.injEq,Array.mk.injEq,this]
    .simp at a
   .simp at h
  .rename_i m;rw[if_neg m]at a;split at h
   .rw[zX]at h a;exact zHO h a m f j
   .simp at h
structure KeyT (P:Program)(kt:TypeId)(K:Value->Prop):Prop where
 check: ∀v e w,K v->(Instr.checkKey e 10000 kt v).run P w= .ok () w
 find: ∀v (l:List MapEntry) w,K v->(∀x∈l,K x.key)->((Instr.findKey kt v l).run P w= .ok none w/\ ∀x∈l,x.key≠v)\/ ∃j e,(Instr.findKey kt v l).run P w= .ok (some (j,e.val)) w/\l[j]? =some e/\e.key=v
 stays: ∀v w,K v->(Instr.keyThatStays v v).run P w= .ok v w
def KeyT.plain (hd:q.underlying h=some L):KeyT q h (MapKept.IsKey L) where
 check v e w hk:=MapKept.run_checkKey hd hk e 9999
 find v l w hk hl:=by
  rcases MapKept.findNow_spec hk l 0 hl with⟨a,f⟩ | ⟨j,e,a,f,P⟩
  .exact .inl ⟨MapKept.run_findKey hd a,f⟩
  .exact .inr ⟨j,e,by simpa using MapKept.run_findKey hd a,f,P⟩
 stays v w hk:=MapKept.run_keyThatStays hk
def KV (ks:List Nat)(v:Value):Prop:= ∃(R:Ren) (k:AV),xO ks k=true/\VR R k v
theorem zPD {R h:Ren}{x y:AV}(j:K2 x=n)(m:K2 y=n)(a:n≠1)(o:VR R x i)(p:VR h y s): ∃b:Bool,vEq n i s=some b/\(b=true↔i=s):=by
 have hi:=gL;rcases uJ j a o with⟨b,rfl,rfl,e⟩ | ⟨k,q,rfl,rfl,e⟩ | ⟨v,rfl,rfl,e⟩<;>rcases uJ m a p with⟨b',rfl,rfl,f⟩ | ⟨k',t,rfl,rfl,f⟩ | ⟨s',rfl,rfl,f⟩
 .subst e;exact⟨b==b',by simp[vEq],by simp⟩
 .have:=hi k';omega
 .omega
 .have:=hi k;omega
 .have z:k=k':=zC3 (by omega);subst z;exact⟨q==t,by simp[vEq,e],by simp⟩
 .have:=hi k;omega
 .omega
 .have:=hi k';omega
 .subst e;exact⟨v==s',by simp[vEq],by rw[MapKept.bytes_beq];simp⟩
theorem zGn {R o:Ren} : ∀ {a:List Nat} {xs j:List AV} {vs f:List Value},wR xs a=true->wR j a=true->1∉a->VRL R xs vs->VRL o j f-> ∃b:Bool,U3 a vs f=some b/\(b=true↔vs=f)
 | [],[],[],vs,f,_,_,_,hv,hu=>by simp only[VRL]at hv hu;subst hv hu;exact⟨true,rfl,by simp⟩
 | q::a,x::xs,y::j,vs,f,h1,h2,hq,hv,hu=>by
  obtain⟨v,vs',rfl,p,t⟩:=hv;obtain⟨u,O,rfl,z,C⟩:=hu;simp only[wR,zE,zX]at h1 h2;simp only[zK,not_or]at hq;obtain⟨b2,J,K⟩:=zGn h1.2 h2.2 hq.2 t C;obtain⟨b1,N,m⟩:=zPD h1.1 h2.1 (Ne.symm hq.1) p z;simp only[U3,N]
  cases b1 with
  | true=>exact⟨b2,J,by rw[K];simp[m.1 rfl]⟩
  | false=>exact⟨false,rfl,by
    simp only[zL,y8,false_iff,not_and];intro h;exact absurd (m.2 h) (by simp)⟩
 | [],_::_,_,_,_,h,_,_,_,_=>by simp[wR]at h
 | [],[],_::_,_,_,_,h,_,_,_=>by simp[wR]at h
 | _::_,[],_,_,_,h,_,_,_,_=>by simp[wR]at h
 | _::_,_::_,[],_,_,_,h,_,_,_=>by simp[wR]at h
theorem aR: ∀ {xs:List AV} {a:List Nat},wR xs a=true->xs.length=a.length
 | [],[],_=>rfl
 | _::_,_::_,h=>by simp only[wR,zE]at h;simp[aR h.2]
 | [],_::_,h=>by simp[wR]at h
 | _::_,[],h=>by simp[wR]at h
theorem zAF {P:Program}{α:Type}{w:World}{body:α->Sem (ForInStep PUnit)} : ∀(l:List α),(∀f∈l,(body f).run P w= .ok (.yield ⟨⟩) w)->(forIn l PUnit.unit fun f _=>body f:Sem PUnit).run P w= .ok ⟨⟩ w
 | [],_=>by simp
 | f::l,h=>by
  simp only[List.forIn_cons,zH,h f (zJ ..),Result.andThen_ok];exact zAF l (fun g a=>h g (zC _ a))
theorem zBF {i:TypeInfo}(hi:q.info? h=some i)(a: ∃u,q.underlying h=some u){xs:Array Value}{off:Nat}(P:off+i.size<=xs.size)(m:xH q h=false->i.size=1)(w:World):
  ∃x,(part h xs off).run q w= .ok x w/\(xH q h=true-> ∃arr,x= .agg arr/\arr.size=i.size):=by
 obtain⟨u,a⟩:=a
 cases f:xH q h with
 | true=>
  have j:(isAgg h).run q w= .ok true w:=by
   unfold xH at f;split at f
   .rename_i fs a;simp[isAgg,zH,run_underlying a]
   .rename_i n e a;simp[isAgg,zH,run_underlying a]
   .simp at f
  have o: ∀w,(sizeOf h).run q w= .ok i.size w:=fun w=>by simp[sizeOf,typeInfo,hi]
  exact⟨.agg (xs.extract off (off+i.size)),by simp[part,zH,j,o],fun _=>⟨_,rfl,by simp;omega⟩⟩
 | false=>
  have j:(isAgg h).run q w= .ok false w:=by
   unfold xH at f
   cases u<;>first | (simp[a]at f;done) | simp[isAgg,zH,run_underlying a]
  have y:=m f;have p:off<xs.size:=by omega
  exact⟨xs[off],by simp[part,zH,j,p],fun t=>by simp at t⟩
theorem zC9 (d:dQ q n h=some v):(∃u,q.underlying h=some u)/\ ∀i,q.info? h=some i->(xH q h=false->i.size=1)/\v.length=i.size:=by
 cases n with
 | zero=>simp[dQ]at d
 | succ n=>
  unfold dQ at d;split at d
  .rename_i j a m;refine⟨⟨_,a⟩,fun i hi=> ?_⟩;rw[m]at hi;injection hi with hi;subst hi
   rw[zF]at d;split at d
   .rename_i f;rw[zX]at f;simp only[zB]at d;subst d;exact⟨fun _=>f,by simp[f]⟩
   .simp at d
  .rename_i P j a m;refine⟨⟨_,a⟩,fun i hi=> ?_⟩;rw[m]at hi;injection hi with hi;subst hi
   rw[zF]at d;split at d
   .rename_i f;rw[zX]at f;simp only[zB]at d;subst d;exact⟨fun _=>f,by simp[f]⟩
   .simp at d
  .rename_i j a m;refine⟨⟨_,a⟩,fun i hi=> ?_⟩;rw[m]at hi;injection hi with hi;subst hi
   rw[zF]at d;split at d
   .rename_i f;rw[zX]at f;simp only[zB]at d;subst d;exact⟨fun _=>f,by simp[f]⟩
   .simp at d
  .rename_i fs j a m;refine⟨⟨_,a⟩,fun i hi=> ?_⟩;rw[m]at hi;injection hi with hi;subst hi
   rw[zF]at d;split at d
   .split at d
    .rw[zF]at d;split at d
     .rename_i hl;rw[zX]at hl;simp only[zB]at d;subst d;exact⟨fun o=>by simp[xH,a]at o,hl⟩
     .simp at d
    .simp at d
   .simp at d
  .rename_i len e j a m;refine⟨⟨_,a⟩,fun i hi=> ?_⟩;rw[m]at hi;injection hi with hi;subst hi
   split at d
   .rename_i k' y z x;rw[zF]at d;split at d
    .rename_i p;simp only[zE,zX]at p;simp only[zB]at d;subst d;refine⟨fun o=>by simp[xH,a]at o, ?_⟩;simp[p.2,p.1]
    .simp at d
   .simp at d
  .simp at d
theorem zIo {P:Program}{rec:TypeId->Option (List Nat)} : ∀ {fs:List Field} {acc:Nat} {r:List Nat},zAG P rec fs acc=some r-> ∀f∈fs,∃k j,rec f.type=some k/\P.info? f.type=some j/\f.offset+j.size<=acc+r.length
 | [],_,_,_,f,a=>by simp at a
 | g::fs,acc,r,h,f,a=>by
  simp only[zAG]at h;split at h
  .rename_i k j o p;rw[zF]at h;split at h
   .rename_i q;simp only[zE,zX]at q;split at h
    .rename_i y m;simp only[zB]at h;subst h;simp only[zV];rcases zK.1 a with rfl | a
     .exact⟨k,j,o,p,by omega⟩
     .obtain⟨k2,t,u,x,z⟩:=zIo m f a;exact⟨k2,t,u,x,by omega⟩
    .simp at h
   .simp at h
  .simp at h
theorem BO {P:Program} : ∀(d:Nat) (t:TypeId) (q:List Nat),dQ P d t=some q-> ∀m,d<=m-> ∀(e:Bool) (w:World),∀(v:Value),(xH P t=true-> ∃arr,v= .agg arr/\arr.size=q.length)->(Instr.checkKey e m t v).run P w= .ok () w
 | 0,t,q,h,_,_=>by simp[dQ]at h
 | d+1,t,q,h,m,hm=>by
  obtain⟨m,rfl⟩: ∃m',m=m'+1:=⟨m - 1,by omega⟩;have K:=BO (P:=P) d;intro e w v N;have h0:=h;unfold dQ at h;split at h
  .rename_i a _;simp[Instr.checkKey,run_underlying a]
  .rename_i a _;simp[Instr.checkKey,run_underlying a]
  .rename_i a _;simp[Instr.checkKey,run_underlying a]
  .rename_i fs j a hj;obtain⟨arr,rfl,u⟩:=N (by simp[xH,a]);rw[zF]at h;split at h
   .split at h
    .rename_i r hr;rw[zF]at h;split at h
     .simp only[zB]at h;subst h;simp only[Instr.checkKey,zH,run_underlying a,Result.andThen_ok];rw[<-Array.forIn_toList];rw[zAF _ (fun f hf=> ?_)]
      .rfl
      obtain⟨k2,O,S,y,a3⟩:=zIo hr f hf;obtain⟨b1,b2⟩:=zC9 S;obtain⟨x,z,C⟩:=zBF y b1 (xs:=arr) (off:=f.offset) (by omega) (b2 O y).1 w;split
      .simp only[zH,z,Result.andThen_ok];rw[K _ _ S m (by omega) e w x (fun J=>by rw[(b2 O y).2];exact C J)];rfl
      .rfl
     .simp at h
    .simp at h
   .simp at h
  .rename_i len el j a hj;obtain⟨arr,rfl,u⟩:=N (by simp[xH,a]);split at h
   .rename_i k o T p;rw[zF]at h;split at h
    .rename_i Y;simp only[zE,zX]at Y;simp only[zB]at h;subst h;have Z:(List.replicate len k).flatten.length=len*k.length:=by simp
     rw[Z]at u;simp only[Instr.checkKey,zH,run_underlying a,Result.andThen_ok];simp only[Std.Legacy.Range.forIn_eq_forIn_range',Std.Legacy.Range.size,jD,Nat.add_one_sub_one,Nat.div_one];rw[zAF _ (fun i hi=> ?_)]
     .rfl
     have a5:i<len:=by simp[List.mem_range']at hi;omega
     have a0:(i+1)*o.size<=len*o.size:=yN _ a5;rw[j8]at a0;have a4: ∀w,(sizeOf el).run P w= .ok o.size w:=fun w=>by simp[sizeOf,typeInfo,p]
     obtain⟨b1,b2⟩:=zC9 T;obtain⟨x,z,C⟩:=zBF p b1 (xs:=arr) (off:=i*o.size) (by rw[u,Y.2];omega) (b2 o p).1 w;simp only[zH,a4,z,Result.andThen_ok];rw[K _ _ T m (by omega) e w x (fun J=>by rw[(b2 o p).2];exact C J)];rfl
    .simp at h
   .simp at h
  .simp at h
theorem QU {R:Ren}{k:AV}(h:xO (1::v) k=true)(a:VR R k i): ∃l vs,k= .agg l/\i= .agg ⟨vs⟩/\VRL R l vs/\wR l v=true/\1∉v:=by
 simp only[xO,yF,zP]at h;split at h
 .rename_i l;simp only[zE,yU,List.contains_eq_mem,yO]at h;obtain⟨vs,rfl,hl⟩:=a;exact⟨l,vs,rfl,rfl,hl,h.1,h.2⟩
 .simp at h
theorem Z6 {R:Ren} : ∀ {cs:List Nat} {l:List AV} {vs:List Value} (n:Nat),wR l cs=true->1∉cs->VRL R l vs->((vs.zip vs).all fun(x,y)=>Instr.sameBits n x y)=true
 | [],[],vs,n,_,_,hv=>by simp only[VRL]at hv;subst hv;rfl
 | q::cs,x::l,vs,n,h,hq,hv=>by
  obtain⟨v,vs',rfl,a,f⟩:=hv;simp only[wR,zE,zX]at h;simp only[zK,not_or]at hq;simp only[List.zip_cons_cons,List.all_cons,Z6 n h.2 hq.2 f,Bool.and_true];rcases uJ h.1 (Ne.symm hq.1) a with⟨b,rfl,rfl,_⟩ | ⟨k,m,rfl,rfl,_⟩ | ⟨s,rfl,rfl,_⟩
  .simp[Instr.sameBits]
  .simp[Instr.sameBits]
  .simp[Instr.sameBits,MapKept.bytes_beq]
 | [],_::_,_,_,h,_,_=>by simp[wR]at h
 | _::_,[],_,_,h,_,_=>by simp[wR]at h
theorem KeyT.flat (N:dQ q q.depth h=some v)(t:xH q h=true)(hd:q.depth<=10000):KeyT q h (KV (1::v)) where
 check cs e w hk:=by
  obtain⟨R,k,a,f⟩:=hk;obtain⟨l,vs,rfl,rfl,kt,m,y⟩:=QU a f;refine BO _ _ _ N 10000 hd e w _ (fun _=>⟨⟨vs⟩,rfl, ?_⟩);have:=zRj _ _ kt;have:=aR m;simp;omega
 find cs l w hk hl:=by
  have O:(match q.underlying h with | some (.array _ _) | some (.struct _)=>true | _=>false)=true:=by
   unfold xH at t;split at t
   .rename_i o;simp[o]
   .rename_i o;simp[o]
   .simp at t
  have S: ∀u,KV (1::v) u-> ∃b:Bool,(Op.equal h cs u).run q w= .ok b w/\(b=true↔cs=u):=by
   intro u o;obtain⟨R,k,a,f⟩:=hk;obtain⟨R',k',T,Y⟩:=o;obtain⟨l,vs,rfl,rfl,kt,m,y⟩:=QU a f;obtain⟨l',us,rfl,rfl,J,K,_⟩:=QU T Y;obtain⟨b,e1,e2⟩:=zGn m K y kt J;have l1:=zRj _ _ kt;have l2:=zRj _ _ J;have l3:=aR m;have l4:=aR K;refine⟨b,(zAV _ _ _ N 10000 hd).2 w ⟨vs⟩ ⟨us⟩ b t (by simp;omega) (by simp;omega) e1, ?_⟩;rw[e2];simp
  have key: ∀(l:List MapEntry) (i:Nat),(∀x∈l,KV (1::v) x.key)->((Instr.findAsking h cs l i).run q w= .ok none w/\ ∀x∈l,x.key≠cs)\/ ∃j e,(Instr.findAsking h cs l i).run q w= .ok (some (i+j,e.val)) w/\l[j]? =some e/\e.key=cs:=by
   intro l
   induction l with
   | nil=>intro i _;exact .inl ⟨by simp[Instr.findAsking],by simp⟩
   | cons e l ih=>
    intro i hl;obtain⟨b,a,f⟩:=S e.key (hl e (zJ ..))
    cases b with
    | true=>exact .inr ⟨0,e,by simp[Instr.findAsking,zH,a],rfl,(f.1 rfl).symm⟩
    | false=>
     have Z:e.key≠cs:=fun P=>by have:=f.2 P.symm;simp at this
     rcases ih (i+1) (fun x p=>hl x (zC _ p))with⟨z,C⟩ | ⟨j,e',z,C,g3⟩
     .refine .inl ⟨by simp[Instr.findAsking,zH,a,z],fun x p=> ?_⟩;rcases zK.1 p with rfl | p
      .exact Z
      .exact C x p
     .exact .inr ⟨j+1,e',by simp[Instr.findAsking,zH,a,z];omega,by simpa using C,g3⟩
  rw[run_findKey_eq w O];simpa using key l 0 hl
 stays cs w hk:=by
  obtain⟨R,k,a,f⟩:=hk;obtain⟨l,vs,rfl,rfl,kt,m,y⟩:=QU a f;have hs:=Z6 9999 m y kt;have:Instr.sameBits 10000 (.agg ⟨vs⟩) (.agg ⟨vs⟩)=true:=by
   simp only[Instr.sameBits,beq_self_eq_true,Bool.true_and];exact hs
  simp only[Instr.keyThatStays,this,if_true];rfl
section
variable {P:Program}{X:Cx}(hX:Ok P X)
include hX
theorem zI4 (kt:kOf X h=some v): ∃K,KeyT P h K/\ ∀R k ks,xO v k=true->VR R k ks->K ks:=by
 unfold kOf at kt;split at kt
 .rename_i o;simp only[zB]at kt;subst kt;refine⟨_,KeyT.plain (hX.und o),fun R k ks f m=> ?_⟩;simp only[xO,zX,zF]at f;have t:K2 k=0:=by simpa using f
  rcases uJ t (by simp) m with⟨b,rfl,rfl,_⟩ | ⟨q,n,rfl,rfl,e⟩ | ⟨s,rfl,rfl,e⟩
  .trivial
  .have:=gL q;omega
  .simp at e
 .rename_i q o;simp only[zB]at kt;subst kt;have C:=gL q;refine⟨_,KeyT.plain (hX.und o),fun R k ks f m=> ?_⟩;simp only[xO,zX,zF]at f;rw[if_neg (by omega),zX]at f;rcases uJ f (by omega) m with⟨b,rfl,rfl,e⟩ | ⟨J,n,rfl,rfl,e⟩ | ⟨s,rfl,rfl,e⟩
  .omega
  .exact(zC3 e).symm
  .omega
 .rename_i o;simp only[zB]at kt;subst kt;refine⟨_,KeyT.plain (hX.und o),fun R k ks f m=> ?_⟩;simp only[xO,zX,zF]at f;have t:K2 k=2:=by simpa using f
  rcases uJ t (by simp) m with⟨b,rfl,rfl,e⟩ | ⟨q,n,rfl,rfl,e⟩ | ⟨s,rfl,rfl,e⟩
  .simp at e
  .have:=gL q;omega
  .trivial
 .have key: ∀ {j},zDv h X.fl=some j->v=1::j-> ∃K,KeyT P h K/\ ∀R k ks,xO v k=true->VR R k ks->K ks:=by
   intro j a e;subst e;have p:(h,j)∈X.fl:=by
    generalize X.fl=l at a
    induction l with
    | nil=>simp[zDv]at a
    | cons x l ih=>
     obtain⟨i,v⟩:=x;simp only[zDv,zF,zX]at a;split at a
     .rename_i e;simp only[zB]at a;subst e a;simp
     .exact zC _ (ih a)
   obtain⟨u,y,z⟩:=hX.fl _ p;exact⟨_,KeyT.flat u y z,fun R k ks f m=>⟨R,k,f,m⟩⟩
  split at kt
  .rename_i j a;simp only[zB]at kt;exact key a kt.symm
  .simp at kt
 .have key: ∀ {j},zDv h X.fl=some j->v=1::j-> ∃K,KeyT P h K/\ ∀R k ks,xO v k=true->VR R k ks->K ks:=by
   intro j a e;subst e;have p:(h,j)∈X.fl:=by
    generalize X.fl=l at a
    induction l with
    | nil=>simp[zDv]at a
    | cons x l ih=>
     obtain⟨i,v⟩:=x;simp only[zDv,zF,zX]at a;split at a
     .rename_i e;simp only[zB]at a;subst e a;simp
     .exact zC _ (ih a)
   obtain⟨u,y,z⟩:=hX.fl _ p;exact⟨_,KeyT.flat u y z,fun R k ks f m=>⟨R,k,f,m⟩⟩
  split at kt
  .rename_i j a;simp only[zB]at kt;exact key a kt.symm
  .simp at kt
 .simp at kt
end
theorem ZT: ∀(a b:List Nat),Y4 a b=true->a=b
 | [],[],_=>rfl
 | x::a,y::b,h=>by simp only[Y4,zE,zX]at h;rw[h.1,ZT a b h.2]
 | [],_::_,h=>by simp[Y4]at h
 | _::_,[],h=>by simp[Y4]at h
theorem UX {k:AV} : ∀ {es:List (AV×AV)} {v:AV},wB k es=some v-> ∃f j,es=f++(k,v)::j
 | [],v,h=>by simp[wB]at h
 | (a,b)::es,v,h=>by
  simp only[wB,zF]at h;split at h
  .rename_i e;rw[JB _ _ e];simp only[zB]at h;subst h;exact⟨[],es,rfl⟩
  .obtain⟨m,o,rfl⟩:=UX h;exact⟨(a,b)::m,o,rfl⟩
theorem zEt {x:AV}(h:K2 x≠1):aveq x x=true:=by
 cases x<;>simp[K2]at h<;>simp[aveq,xX,xY]
theorem zBQ: ∀ {a:List Nat} {xs:List AV},wR xs a=true->1∉a->aZ xs xs=true
 | [],[],_,_=>by simp[aZ]
 | q::a,x::xs,h,hq=>by
  simp only[wR,zE,zX]at h;simp only[zK,not_or]at hq;simp only[aZ,zE];exact⟨zEt (by rw[h.1];exact Ne.symm hq.1),zBQ h.2 hq.2⟩
 | [],_::_,h,_=>by simp[wR]at h
 | _::_,[],h,_=>by simp[wR]at h
theorem zAy {k:AV}(h:xO v k=true):aveq k k=true:=by
 unfold xO at h;split at h
 .simp at h
 .rename_i q f;simp only[zF,zX]at h;split at h
  .split at h
   .simp only[zE,yU,List.contains_eq_mem,yO]at h;simp only[aveq];exact zBQ h.1 h.2
   .simp at h
  .rename_i a;split at h
   .rw[zX]at h;exact zEt (by rw[h];exact a)
   .simp at h
theorem UZ {ks:List Nat}{k:AV}(m:xO ks k=true): ∀ {es:List (AV×AV)},wB k es=none-> ∀e∈es,e.1≠k
 | [],_,e,f=>by simp at f
 | (a,b)::es,h,e,f=>by
  simp only[wB,zF]at h;split at h
  .simp at h
  .rename_i j;rcases zK.1 f with rfl | f
   .intro o;simp only at o;rw[o,zAy m]at j;simp at j
   .exact UZ m h e f
theorem WP {k v:AV} : ∀ {es es':List (AV×AV)},K1 k v es=some es'-> ∃j f m,es=j++(k,f)::m/\es'=j++(k,v)::m
 | [],es',h=>by simp[K1]at h
 | (a,b)::es,es',h=>by
  simp only[K1,zF]at h;split at h
  .rename_i e;simp only[zB]at h;subst h;rw[JB _ _ e];exact⟨[],b,es,rfl,rfl⟩
  .split at h
   .rename_i l hl;simp only[zB]at h;subst h;obtain⟨o,f,p,rfl,rfl⟩:=WP hl;exact⟨(a,b)::o,f,p,rfl,rfl⟩
   .simp at h
theorem setA_none {ks:List Nat}{k v:AV}(m:xO ks k=true): ∀ {es:List (AV×AV)},K1 k v es=none-> ∀e∈es,e.1≠k
 | [],_,e,f=>by simp at f
 | (a,b)::es,h,e,f=>by
  simp only[K1,zF]at h;split at h
  .simp at h
  .rename_i j;split at h
   .simp at h
   .rename_i p;rcases zK.1 f with rfl | f
    .intro o;simp only at o;rw[o,zAy m]at j;simp at j
    .exact setA_none m p e f
theorem zCr {k:AV} : ∀ {es es':List (AV×AV)},zJ8 k es=some es'-> ∃j f m,es=j++(k,f)::m/\es'=j++m
 | [],es',h=>by simp[zJ8]at h
 | (a,b)::es,es',h=>by
  simp only[zJ8,zF]at h;split at h
  .rename_i e;simp only[zB]at h;subst h;rw[JB _ _ e];exact⟨[],b,es,rfl,rfl⟩
  .split at h
   .rename_i l hl;simp only[zB]at h;subst h;obtain⟨o,f,p,rfl,rfl⟩:=zCr hl;exact⟨(a,b)::o,f,p,rfl,rfl⟩
   .simp at h
theorem zCs {ks:List Nat}{k:AV}(m:xO ks k=true): ∀ {es:List (AV×AV)},zJ8 k es=none-> ∀e∈es,e.1≠k
 | [],_,e,f=>by simp at f
 | (a,b)::es,h,e,f=>by
  simp only[zJ8,zF]at h;split at h
  .simp at h
  .rename_i j;split at h
   .simp at h
   .rename_i p;rcases zK.1 f with rfl | f
    .intro o;simp only at o;rw[o,zAy m]at j;simp at j
    .exact zCs m p e f
def ER (R:Ren):List (AV×AV)->List MapEntry->Prop
 | [],m=>m=[]
 | e::es,m=> ∃x a,m=x::a/\VR R e.1 x.key/\VR R e.2 x.val/\ER R es a
theorem ER.of {R:Ren} : ∀ {es:List (AV×AV)} {m:List MapEntry},VRL R (es.map (·.1)) (m.map (·.key))->VRL R (es.map (·.2)) (m.map (·.val))->ER R es m
 | [],m,h,_=>by simp only[List.map_nil,VRL,List.map_eq_nil_iff]at h;exact h
 | e::es,m,h,h'=>by
  obtain⟨k,ks,a,j,o⟩:=h;obtain⟨v,vs,f,p,q⟩:=h'
  cases m with
  | nil=>simp at a
  | cons x m=>
   simp only[yJ,y8]at a f;obtain⟨rfl,rfl⟩:=a;obtain⟨rfl,rfl⟩:=f;exact⟨x,m,rfl,j,p,ER.of o q⟩
theorem ER.to {R:Ren} : ∀ {es:List (AV×AV)} {m:List MapEntry},ER R es m->VRL R (es.map (·.1)) (m.map (·.key))/\VRL R (es.map (·.2)) (m.map (·.val))
 | [],m,h=>by simp only[ER]at h;subst h;exact⟨rfl,rfl⟩
 | e::es,m,⟨x,m',e1,h1,h2,h3⟩=>by
  subst e1;exact⟨⟨_,_,rfl,h1,(ER.to h3).1⟩,⟨_,_,rfl,h2,(ER.to h3).2⟩⟩
theorem ER.split {R:Ren} : ∀ {a:List (AV×AV)} {e:AV×AV} {b:List (AV×AV)} {m:List MapEntry},ER R (a++e::b) m-> ∃f x h,m=f++x::h/\ER R a f/\VR R e.1 x.key/\VR R e.2 x.val/\ER R b h
 | [],e,b,m,⟨x,m',e1,h1,h2,h3⟩=>⟨[],x,m',e1,rfl,h1,h2,h3⟩
 | y::a,e,b,m,⟨x,m',e1,h1,h2,h3⟩=>by
  subst e1;obtain⟨f,z,h,rfl,k1,k2,k3,k4⟩:=ER.split (a:=a) h3;exact⟨x::f,z,h,rfl,⟨x,f,rfl,h1,h2,k1⟩,k2,k3,k4⟩
theorem ER.append {R:Ren} : ∀ {a b:List (AV×AV)} {m n:List MapEntry},ER R a m->ER R b n->ER R (a++b) (m++n)
 | [],b,m,n,h,k=>by simp only[ER]at h;subst h;exact k
 | y::a,b,m,n,⟨x,m',e1,h1,h2,h3⟩,k=>by subst e1;exact⟨x,m'++n,rfl,h1,h2,ER.append h3 k⟩
theorem ER.mem {R:Ren} : ∀ {a:List (AV×AV)} {m:List MapEntry},ER R a m-> ∀x∈m,∃e∈a,VR R e.1 x.key
 | [],m,h,x,f=>by simp only[ER]at h;subst h;simp at f
 | y::a,m,⟨z,m',e1,h1,h2,h3⟩,x,f=>by
  subst e1;rcases zK.1 f with rfl | f
  .exact⟨y,zJ ..,h1⟩
  .obtain⟨e,j,o⟩:=ER.mem h3 x f;exact⟨e,zC _ j,o⟩
theorem XN {R:Ren}{u y:List (AV×AV)}{k f:AV}(hm:MR R (u++(k,f)::y) W)(z: ∀N∈u++(k,f)::y,xO v N.1=true)(hd:(u++(k,f)::y).Pairwise (fun a b=>a.1≠b.1))(ks:VR R k i)
    (S:W[n]? =some N) (J:N.key=i): ∃o p,ER R u o/\ER R y p/\VR R f N.val/\(o++N::p).Perm W:=by
 obtain⟨m,hp,T,Y⟩:=hm;obtain⟨o,x,p,rfl,r1,r2,Z,O⟩:=(ER.of T Y).split;have K:xO v k=true:=z (k,f) (by simp);have he:N∈o++x::p:=hp.symm.subset (List.mem_of_getElem? S);have:N=x:=by
  rcases qA.1 he with h | h
  .obtain⟨q,t,C⟩:=ER.mem r1 N h;have:=(cO (z q (qU _ t)) K C ks).2 J;exact absurd this ((j5.1 hd).2.2 q t (k,f) (zJ ..))
  .rcases zK.1 h with h | h
   .exact h
   .obtain⟨q,t,C⟩:=ER.mem O N h;have:=(cO (z q (by simp[t])) K C ks).2 J;exact absurd this.symm ((qV.1 (j5.1 hd).2.1).1 q t)
 subst this;exact⟨o,p,r1,O,Z,hp⟩
section
variable {P:Program}{X:Cx}(hX:Ok P X){R:Ren}{H:AH}{w:World}(hL:Rel R H w)
def Rel.mapAt (h:Rel R H w){c:Nat}{es:List (AV×AV)}(A:H.h.get n=some (.map v es))(hR:R n E j c):
  ∃(arr:Array MapEntry) (f:Nat),w.heap[E]? =some (.map arr f)/\MR R es arr.toList/\(∀e∈es,xO v e.1=true)/\es.Pairwise (fun a E=>a.1≠E.1)/\zDS arr.toList f:=h.obj n E j c _ hR A
theorem zI0 {a:Bool}{v:AV}(h:VR R v i):VR R (lkR Y a v) (if a then .tuple #[i, .bool Y]else i):=by
 unfold lkR
 cases a with
 | true=>exact⟨[i, .bool Y],rfl,i,[.bool Y],rfl,h, .bool Y,[],rfl,rfl,rfl⟩
 | false=>exact h
include hX hL in
theorem zQ9 {et:TypeId}{za:AV}{x k r:AV}(ht:X.und h=some (.map a et))(hk:kOf X a=some v)(hz:aW X et=some za)(t:lkM v za Y x k H=some r)(hx:VR R x i)(N:VR R k s):
  ∃z,(Instr.lookup h i s Y).run P w= .ok z w/\VR R r z:=by
 obtain⟨K,C,a1⟩:=zI4 hX hk;unfold lkM at t;rw[zF]at t;split at t
 .rename_i O;have y:=a1 R k s O N;obtain⟨zv,a2,a3⟩:=hX.run_zero R hz w;split at t
  .have:i= .map none:=hx;subst this;simp only[zB]at t;subst t;refine⟨_, ?_,zI0 a3⟩;have J:=C.find s [] w y (by simp);rcases J with⟨f,_⟩ | ⟨j,e,_,kt,_⟩
   .simp only[Instr.lookup,zH,hX.run_und ht w,Result.andThen_ok,zO,C.check s _ w y];have a4:(Instr.findKey a s (#[]:Array MapEntry).toList).run P w= .ok none w:=f;simp only[a4,Result.andThen_ok,zH,a2,zO]
   .simp at kt
  .rename_i A;obtain⟨b,d,c,hr,rfl⟩:=hx;split at t
   .rename_i a7 es hA;rw[zF]at t;split at t
    .rename_i u;obtain rfl:=ZT _ _ u;obtain⟨arr,a6,hb,hm,S,hd,a8⟩:=hL.mapAt hA hr;have a0: ∀x∈arr.toList,K x.key:=by
      intro q T;obtain⟨m,hp,f,kt⟩:=hm;obtain⟨e,u,Z⟩:=ER.mem (ER.of f kt) q (hp.symm.subset T);exact a1 R _ _ (S e u) Z
     have pre: ∀(o:Option (Nat×Value)),(Instr.findKey a s arr.toList).run P w= .ok o w->(Instr.lookup h (.map (some b)) s Y).run P w=(match o with
       | some (_,ks)=> .ok (if Y then .tuple #[ks, .bool true]else ks) w
       | none=> .ok (if Y then .tuple #[zv, .bool false]else zv) w):=by
      intro o ho;simp only[Instr.lookup,zH,hX.run_und ht w,Result.andThen_ok,MapKept.run_getObj_map hb,zO,C.check s _ w y,ho]
      cases o with
      | none=>simp only[Result.andThen_ok,zH,a2,zO]
      | some p=>obtain⟨xv,ks⟩:=p;simp only[Result.andThen_ok,zH,zO]
     split at t
     .rename_i ks J;simp only[zB]at t;subst t;obtain⟨a9,b0,rfl⟩:=UX J;rcases C.find s arr.toList w y a0 with⟨f,kt⟩ | ⟨j,e,f,kt,h3⟩
      .obtain⟨m,hp,g1,g2⟩:=hm;obtain⟨m1,x,m2,rfl,r1,r2,r3,r4⟩:=(ER.of g1 g2).split;have:=(cO (S (k,ks) (by simp)) O r2 N).1 rfl;exact absurd this (kt x (hp.subset (by simp)))
      .obtain⟨m1,m2,_,_,Z,_⟩:=XN hm S hd N kt h3;exact⟨_,pre _ f,zI0 Z⟩
     .rename_i J;simp only[zB]at t;subst t;rcases C.find s arr.toList w y a0 with⟨f,kt⟩ | ⟨j,e,f,kt,h3⟩
      .exact⟨_,pre _ f,zI0 a3⟩
      .obtain⟨m,hp,g1,g2⟩:=hm;obtain⟨q,T,a5⟩:=ER.mem (ER.of g1 g2) e (hp.symm.subset (List.mem_of_getElem? kt));exact absurd ((cO (S q T) O a5 N).2 h3) (UZ O J q T)
    .simp at t
   .simp at t
  .simp at t
 .simp at t
theorem JZ.map {A:Nat}{ks:List Nat}{es:List (AV×AV)}(h:H.h.get A=some (.map ks es)):JZ H A:=⟨_,h,trivial⟩
theorem zDS.turn {f:List MapEntry}{j:MapEntry}(h:zDS (W++N::f) n)(m:j.born=N.born):zDS (W++j::f) n:=by
 obtain⟨o,a⟩:=h;refine⟨by simpa[m]using o,fun q p=> ?_⟩;rcases qA.1 p with k | k
 .exact a q (qU _ k)
 .rcases zK.1 k with rfl | k
  .rw[m];exact a N (by simp)
  .exact a q (by simp[k])
theorem zDS.more {l:List MapEntry}{e:MapEntry}{c:Nat}(h:zDS l c)(t:e.born=c):zDS (l++[e]) (c+1):=by
 obtain⟨j,f⟩:=h;refine⟨?_,fun q m=> ?_⟩
 .rw[List.map_append,List.nodup_append];refine⟨j,by simp,fun a o b hb=> ?_⟩;simp only[yJ,List.map_nil,qS]at hb;obtain⟨x,p,rfl⟩:=qZ.1 o;have:=f x p;omega
 .rcases qA.1 m with k | k
  .exact Nat.lt_succ_of_lt (f q k)
  .simp only[qS]at k;subst k;omega
theorem zDS.less {a:List MapEntry}(h:zDS (W++N::a) n):zDS (W++a) n:=by
 obtain⟨j,m⟩:=h;have f:(W++a).Sublist (W++N::a):=(List.Sublist.refl W).append (List.sublist_cons_self N a);exact⟨j.sublist (f.map _),fun q o=>m q (f.subset o)⟩
theorem Rel.mapPut (h:Rel R H w){c:Nat}{es es':List (AV×AV)}{H':AH}(o:H.h.get n=some (.map v es))(hR:R n E j c)(hp:fX H n (.map v es')=some H'){arr':Array MapEntry}{clock':Nat}
  (hm:MR R es' arr'.toList) (A: ∀e∈es',xO v e.1=true) (hd:es'.Pairwise (fun a E=>a.1≠E.1)) (m:zDS arr'.toList clock'):Rel R H' (vX w E (.map arr' clock'))/\Ext R H w R H' (vX w E (.map arr' clock')):=by
 unfold fX at hp;split at hp
 .rename_i p f;simp only[zB]at hp;subst hp;exact⟨h.put hR (JZ.map o) f ⟨arr',clock',rfl,hm,A,hd,m⟩,Ext.put hR f⟩
 .simp at hp
theorem zFO (l1:List MapEntry)(e:MapEntry)(a:List MapEntry)(f:MapEntry->MapEntry):(l1++e::a).modify l1.length f=l1++f e::a:=by
 induction l1 with
 | nil=>simp
 | cons x l ih=>simp[ih]
theorem zCM {arr:Array MapEntry}(h:arr.toList[n]? =some N): ∃l1 a,arr.toList=l1++N::a/\l1.length=n:=by
 obtain⟨f,m⟩:=qR.1 h;refine⟨arr.toList.take n,arr.toList.drop (n+1), ?_,by simp;simp at f;omega⟩;rw[<-m,List.getElem_cons_drop,y6]
include hX hL in
theorem zPF {kt et:TypeId}{x k ks r:AV}{u:Value}{H':AH}(ht:X.und h=some (.map kt et))(hk:kOf X kt=some v)(t:upM v x k ks H=some (r,H'))(hx:VR R x i)(J:VR R k s)(a6:VR R ks u):
  r=jQ/\ ∃w',(Instr.mapUpdate h i s u).run P w= .ok () w'/\Rel R H' w'/\Ext R H w R H' w':=by
 obtain⟨K,S,a7⟩:=zI4 hX hk;unfold upM at t;rw[zF]at t;split at t
 .rename_i y;have N:=a7 R k s y J;split at t
  .rename_i A;obtain⟨b,d,c,hr,rfl⟩:=hx;split at t
   .rename_i b4 es hA;rw[zF]at t;split at t
    .rename_i he;obtain rfl:=ZT _ _ he;obtain⟨arr,Z,hb,hm,z,hd,a1⟩:=hL.mapAt hA hr;have a3: ∀x∈arr.toList,K x.key:=by
      intro q f;obtain⟨m,hp,C,p⟩:=hm;obtain⟨e,he,hv⟩:=ER.mem (ER.of C p) q (hp.symm.subset f);exact a7 R _ _ (z e he) hv
     have a4: ∀o,(setObj b o).run P w= .ok () (vX w b o):=fun o=>MapKept.run_setObj_map o hb
     split at t
     .rename_i es' hs;split at t
      .rename_i H1 hp;simp only[zB,zU]at t;obtain⟨rfl,rfl⟩:=t;refine⟨rfl, ?_⟩;obtain⟨a8,v0,a9,rfl,rfl⟩:=WP hs;rcases S.find s arr.toList w N a3 with⟨C,p⟩ | ⟨j,e,C,p,h3⟩
       .obtain⟨m,O,T,Y⟩:=hm;obtain⟨m1,x,m2,rfl,r1,r2,r3,r4⟩:=(ER.of T Y).split;have:=(cO (z (k,v0) (by simp)) y r2 J).1 rfl;exact absurd this (p x (O.subset (by simp)))
       .obtain⟨m1,m2,e1,e2,_,a2⟩:=XN hm z hd J p h3;obtain⟨l1,l2,hl,b0⟩:=zCM p;have b1:arr[j]? =some e:=by simpa using p
        have a5:(arr.modify j fun x=> { x with key:=s,val:=u}).toList=l1++ { e with key:=s,val:=u} ::l2:=by
         rw[Array.toList_modify,hl,<-b0,zFO]
        have a0:=hL.mapPut hA hr hp (arr':=arr.modify j fun x=> { x with key:=s,val:=u}) (clock':=Z) (es':=a8++(k,ks)::a9) ?_ (fun q f=> ?_) ?_ (by rw[a5];rw[hl]at a1;exact a1.turn rfl)
        .refine⟨_, ?_,a0⟩;simp only[Instr.mapUpdate,zH,hX.run_und ht w,Result.andThen_ok,MapKept.run_getObj_map hb,S.check s _ w N,C];simp only[b1,qB,y9,h3,S.stays s w N,Result.andThen_ok,a4]
        .rw[a5];refine⟨m1++ { e with key:=s,val:=u} ::m2, ?_, ?_⟩
         .rw[hl]at a2;have:=(List.perm_middle (a:=e) (l₁:=m1) (l₂:=m2)).symm.trans (a2.trans List.perm_middle);have:=(List.perm_cons e).1 this;exact List.perm_middle.trans ((this.cons _).trans List.perm_middle.symm)
         .exact ER.to (e1.append ⟨_,m2,rfl,J,a6,e2⟩)
        .have b2:q∈a8++(k,ks)::a9:=f;rcases qA.1 b2 with t | t
         .exact z q (qU _ t)
         .rcases zK.1 t with rfl | t
          .exact y
          .exact z q (by simp[t])
        .obtain⟨p1,p2,p3⟩:=j5.1 hd;obtain⟨p4,p5⟩:=qV.1 p2;refine j5.2 ⟨p1,qV.2 ⟨fun q f=>p4 q f,p5⟩,fun a ha q f=> ?_⟩;rcases zK.1 f with rfl | f
         .exact p3 a ha (k,v0) (zJ ..)
         .exact p3 a ha q (zC _ f)
      .simp at t
     .rename_i hs;split at t
      .rename_i H1 hp;simp only[zB,zU]at t;obtain⟨rfl,rfl⟩:=t;refine⟨rfl, ?_⟩;rcases S.find s arr.toList w N a3 with⟨C,p⟩ | ⟨j,e,C,p,h3⟩
       .have a0:=hL.mapPut hA hr hp (arr':=arr.push { key:=s,val:=u,born:=Z}) (clock':=Z+1) (es':=es++[(k,ks)]) ?_ (fun q f=> ?_) ?_ (by rw[Array.toList_push];exact a1.more rfl)
        .refine⟨_, ?_,a0⟩;simp only[Instr.mapUpdate,zH,hX.run_und ht w,Result.andThen_ok,MapKept.run_getObj_map hb,S.check s _ w N,C,a4]
        .obtain⟨m,O,T,Y⟩:=hm;refine⟨m++[{ key:=s,val:=u,born:=Z}],by rw[Array.toList_push];exact O.append_right _, ?_⟩;exact ER.to ((ER.of T Y).append ⟨_,[],rfl,J,a6,rfl⟩)
        .rcases qA.1 f with t | t
         .exact z q t
         .simp only[qS]at t;subst t;exact y
        .refine j5.2 ⟨hd,List.pairwise_singleton _ _,fun a ha q f=> ?_⟩;simp only[qS]at f;subst f;exact setA_none y hs a ha
       .obtain⟨m,O,T,Y⟩:=hm;obtain⟨q,f,b3⟩:=ER.mem (ER.of T Y) e (O.symm.subset (List.mem_of_getElem? p));exact absurd ((cO (z q f) y b3 J).2 h3) (setA_none y hs q f)
      .simp at t
    .simp at t
   .simp at t
  .simp at t
 .simp at t
include hX hL in
theorem zQP {kt et ty:TypeId}{x k r:AV}{H':AH}(O:F[0]? =some h)(T:X.und h=some (.map kt et))(hk:kOf X kt=some v)(t:dlM v x k H=some (r,H'))(hx:VR R x i)(J:VR R k s):
  r= .tuple []/\ ∃Y,(Builtin.delete_ F ty #[i,s]).run P w= .ok (.tuple #[]) Y/\Rel R H' Y/\Ext R H w R H' Y:=by
 obtain⟨K,C,a5⟩:=zI4 hX hk;unfold dlM at t;rw[zF]at t;split at t
 .rename_i N;have z:=a5 R k s N J;split at t
  .have:i= .map none:=hx;subst this;simp only[zB,zU]at t;obtain⟨rfl,rfl⟩:=t;refine⟨rfl,w, ?_,hL,zRr R H w⟩;simp[Builtin.delete_,zH,O,hX.run_und T w,C.check s _ w z]
  .rename_i A;obtain⟨b,d,c,hr,rfl⟩:=hx;split at t
   .rename_i b3 es hA;rw[zF]at t;split at t
    .rename_i Z;obtain rfl:=ZT _ _ Z;obtain⟨arr,a0,hb,hm,y,hd,a6⟩:=hL.mapAt hA hr;have a2: ∀x∈arr.toList,K x.key:=by
      intro q p;obtain⟨m,hp,u,f⟩:=hm;obtain⟨e,Z,hv⟩:=ER.mem (ER.of u f) q (hp.symm.subset p);exact a5 R _ _ (y e Z) hv
     have a3: ∀o,(setObj b o).run P w= .ok () (vX w b o):=fun o=>MapKept.run_setObj_map o hb
     split at t
     .rename_i es' hs;split at t
      .rename_i H1 hp;simp only[zB,zU]at t;obtain⟨rfl,rfl⟩:=t;refine⟨rfl, ?_⟩;obtain⟨b0,v0,b1,rfl,rfl⟩:=zCr hs;rcases C.find s arr.toList w z a2 with⟨u,f⟩ | ⟨j,e,u,f,h3⟩
       .obtain⟨m,S,g1,g2⟩:=hm;obtain⟨m1,x,m2,rfl,r1,r2,r3,r4⟩:=(ER.of g1 g2).split;have:=(cO (y (k,v0) (by simp)) N r2 J).1 rfl;exact absurd this (f x (S.subset (by simp)))
       .obtain⟨m1,m2,e1,e2,_,a1⟩:=XN hm y hd J f h3;obtain⟨l1,l2,hl,a8⟩:=zCM f;have a4:(arr.eraseIdxIfInBounds j).toList=l1++l2:=by
         have:(arr.eraseIdxIfInBounds j).toList=arr.toList.eraseIdx j:=by
          unfold Array.eraseIdxIfInBounds;split
          .simp[Array.toList_eraseIdx]
          .rw[List.eraseIdx_of_length_le (by simp;omega)]
         rw[this,hl,<-a8,List.eraseIdx_append_of_length_le (by simp)];simp
        have a9:=hL.mapPut hA hr hp (arr':=arr.eraseIdxIfInBounds j) (clock':=a0) (es':=b0++b1) ?_ (fun q p=> ?_) ?_ (by rw[a4];rw[hl]at a6;exact a6.less)
        .refine⟨_, ?_,a9⟩;simp[Builtin.delete_,zH,O,hX.run_und T w,MapKept.run_getObj_map hb,C.check s _ w z,u,a3]
        .rw[a4];refine⟨m1++m2, ?_,ER.to (e1.append e2)⟩;rw[hl]at a1;have:=(List.perm_middle (a:=e) (l₁:=m1) (l₂:=m2)).symm.trans (a1.trans List.perm_middle);exact(List.perm_cons e).1 this
        .rcases qA.1 p with t | t
         .exact y q (qU _ t)
         .exact y q (by simp[t])
        .obtain⟨p1,p2,p3⟩:=j5.1 hd;obtain⟨p4,p5⟩:=qV.1 p2;exact j5.2 ⟨p1,p5,fun a ha q p=>p3 a ha q (zC _ p)⟩
      .simp at t
     .rename_i hs;simp only[zB,zU]at t;obtain⟨rfl,rfl⟩:=t;refine⟨rfl,w, ?_,hL,zRr R H w⟩;rcases C.find s arr.toList w z a2 with⟨u,f⟩ | ⟨j,e,u,f,h3⟩
      .have a7:vX w b (.map arr a0)=w:=KX w b _ hb;simp[Builtin.delete_,zH,O,hX.run_und T w,MapKept.run_getObj_map hb,C.check s _ w z,u,a3,a7]
      .obtain⟨m,S,g1,g2⟩:=hm;obtain⟨q,p,b2⟩:=ER.mem (ER.of g1 g2) e (S.symm.subset (List.mem_of_getElem? f));exact absurd ((cO (y q p) N b2 J).2 h3) (zCs N hs q p)
    .simp at t
   .simp at t
  .simp at t
 .simp at t
include hX hL in
theorem zQW {z ty:TypeId}{x r:AV}{H':AH}(f:F[0]? =some h)(j:X.und h=some (.map a z))(t:clM x H=some (r,H'))(m:VR R x i):
  r= .tuple []/\ ∃kt,(Builtin.clear_ F ty #[i]).run P w= .ok (.tuple #[]) kt/\Rel R H' kt/\Ext R H w R H' kt:=by
 unfold clM at t;split at t
 .have:i= .map none:=m;subst this;simp only[zB,zU]at t;obtain⟨rfl,rfl⟩:=t;refine⟨rfl,w, ?_,hL,zRr R H w⟩;simp[Builtin.clear_,zH,f,hX.run_und j w]
 .rename_i A;obtain⟨b,d,c,hr,rfl⟩:=m;split at t
  .rename_i ks es p;split at t
   .rename_i K hp;simp only[zB,zU]at t;obtain⟨rfl,rfl⟩:=t;refine⟨rfl, ?_⟩;obtain⟨arr,q,hb,hm,C,hd,J⟩:=hL.mapAt p hr;have u: ∀o,(setObj b o).run P w= .ok () (vX w b o):=fun o=>MapKept.run_setObj_map o hb
    have y:=hL.mapPut p hr hp (arr':= #[]) (clock':=q) (es':=[]) ⟨[],by simp,rfl,rfl⟩ (by simp) List.Pairwise.nil (by simp[zDS]);refine⟨_, ?_,y⟩;simp[Builtin.clear_,zH,f,hX.run_und j w,MapKept.run_getObj_map hb,u]
   .simp at t
  .simp at t
 .simp at t
end
theorem xP {s:Sem Value}{a:World}(h:s.run q t= .ok i a):(do pure (Next.value (← s)):Sem Next).run q t= .ok (.value i) a:=by
 simp only[zH,h,Result.andThen];rfl
theorem JK (off:Nat): ∀(l:List Value) (k:Nat) (arr:Array Value),(l.zipIdx k).foldl (fun cs (x:Value×Nat)=>cs.setIfInBounds (off+x.2) x.1) arr=wZ arr (off+k) l
 | [],_,_=>rfl
 | v::l,k,arr=>by
  simp only[List.zipIdx_cons,List.foldl_cons,wZ];rw[JK off l (k+1)];rfl
inductive PR (R:Ren):List (Nat×AV)->List (Nat×Value)->Prop
 | nil:PR R [] []
 | cons {i:Nat} {x:AV} {v:Value} {l:List (Nat×AV)} {m:List (Nat×Value)} (h:VR R x v) (t:PR R l m):PR R ((i,x)::l) ((i,v)::m)
theorem zDx {R:Ren}{o place':Nat->Option (Nat×Nat)}(hp: ∀i x,o i=some x->place' i=some x): ∀ {ps:List (Nat×AV)} {j:List (Nat×Value)},PR R ps j-> ∀ {cells r:List AV} {arr:Array Value},fD o cells ps=some r->VRL R cells arr.toList->
  ∃arr',Instr.fill place' arr j=some arr'/\VRL R r arr'.toList:=by
 intro ps j h
 induction h with
 | nil=>intro cells r arr a f;simp only[fD,zB]at a;subst a;exact⟨arr,rfl,f⟩
 | @cons i x v l m hx ht ih=>
  intro cells r arr a f;simp only[fD]at a;split at a
  .simp at a
  .rename_i off size y;simp only[zF,jY,zX]at a;split at a
   .rename_i Y;split at a
    .rename_i t J;obtain⟨K,Z⟩:=zAj _ _ _ _ J;have q:=uG hx;have p:=zRj _ _ q;have C:=zRj _ _ f;rw[yW]at p C;have u:VRL R t (wZ arr off v.cells.toList).toList:=by
      rw[xE _ _ _ (by rw[yW];omega),K];refine(VRL.append ((f.take off).append q) ?_);have N:v.cells.toList.length=(jU x).length:=by rw[yW];exact p
      rw[N];exact f.drop _
     obtain⟨arr',O,S⟩:=ih a u;refine⟨arr', ?_,S⟩;rw[Instr.fill,hp _ _ y];simp only;rw[if_neg (by simp;omega)];have T:v.cells.zipIdx.foldl (fun cs (x:Value×Nat)=>cs.setIfInBounds (off+x.2) x.1) arr=wZ arr off v.cells.toList:=by
      rw[<-Array.foldl_toList,Array.toList_zipIdx,JK];rfl
     exact(congrArg (fun z=>Instr.fill place' z m) T).trans O
    .simp at a
   .simp at a
theorem zAt {R:Ren}{x:AV}(h:YW x=some n)(a:VR R x i): ∃k,i= .int k (n:Int):=by
 unfold YW at h;split at h
 .rename_i k m;simp only[zB]at h;subst h;simp only[VR]at a;exact⟨k,a⟩
 .simp at h
theorem zAo {R:Ren}{env:Env}{n:Nat}{fr:Frame}(h:EnvR R env n fr.tmps): ∀(ps:List (Nat×Operand)) (a:List (Nat×AV)),uN env ps=some a->PR R a (ps.map fun(i,x)=>(i,fr.eval x))
 | [],a,e=>by simp only[uN,zB]at e;subst e;exact .nil
 | (i,x)::ps,a,e=>by
  simp only[uN]at e;split at e
  .rename_i v vs j f;simp only[zB]at e;subst e;exact .cons (kR h x v j) (zAo h ps vs f)
  .simp at e
section
variable {P:Program}{X:Cx}(hX:Ok P X){R:Ren}(hR:RFn R){w:World}
include hX
theorem zBD: ∀(fs:List Field) (a:List (Nat×Nat)),YR X fs=some a->fs.mapM (fun f=>(P.info? f.type).map fun i=>(f.offset,i.size))=some a
 | [],a,h=>by simp only[YR,zB]at h;subst h;rfl
 | f::fs,a,h=>by
  simp only[YR]at h;split at h
  .rename_i n r j hr;simp only[zB]at h;subst h;obtain⟨i,m,o⟩:=hX.size j;simp[List.mapM_cons,m,o,zBD fs r hr]
  .simp at h
theorem zHH {off:Nat}{cs:List AV}{r:AV}(hd:X.und h=some L)(o:X.size h=some n)(hl:VRL R cs I)
  (t:(bif dI L then(match bC cs off n with | some c=>some (.agg c) | none=>none)else nth cs off)=some r): ∃v,(part h ⟨I⟩ off).run P w= .ok v w/\VR R r v:=by
 rw[zF]at t;split at t
 .rename_i a;split at t
  .rename_i c p;simp only[zB]at t;subst t;obtain⟨q,x⟩:=cD _ _ _ _ p;refine⟨.agg ((⟨I⟩:Array Value).extract off (off+n)), ?_, ?_⟩
   .simp only[part,zH,hX.run_isAgg hd,hX.run_size o,Result.andThen,a,if_true];rfl
   .refine⟨((⟨I⟩:Array Value).extract off (off+n)).toList,rfl, ?_⟩;rw[q,Array.toList_extract];have:=(hl.drop off).take n;simpa[List.extract,List.take_drop]using this
  .simp at t
 .rename_i a;rw[QN]at t;obtain⟨v,u,f⟩:=VRL.get _ _ hl _ _ t;refine⟨v, ?_,f⟩;have j:dI L=false:=by simpa using a
  have m:(⟨I⟩:Array Value)[off]? =some v:=by simpa using u
  simp only[part,zH,hX.run_isAgg hd,Result.andThen,j,zL,qD,m];rfl
theorem zJE {x r:AV}(t:BY X h x n=some r)(p:VR R x i): ∃z,(Instr.field h i n).run P w= .ok z w/\VR R r z:=by
 unfold BY at t;split at t
 .rename_i fs cs hd;split at t
  .rename_i fl a;split at t
   .rename_i d f j q;obtain⟨l,rfl,hl⟩:=p;obtain⟨z,u,m⟩:=zHH hX (w:=w) j q hl t;refine⟨z, ?_,m⟩;rw[zDk]at a;have o:fs[n]? =some fl:=by simpa using a
    simp only[Instr.field,zH,hX.run_und hd,Result.andThen,o];exact u
   .simp at t
  .simp at t
 .simp at t
theorem zJD {x v r:AV}(t:VG X h x v=some r)(j:VR R x i)(q:VR R v s): ∃z,(Instr.index h i s).run P w= .ok z w/\VR R r z:=by
 unfold VG at t;split at t
 .rename_i m hm;obtain⟨k,rfl⟩:=zAt hm q;split at t
  .rename_i len J hd;obtain⟨u,rfl,rfl,rfl⟩:=j;simp only[zF,qE]at t;split at t
   .rename_i a;rw[kF,zB]at t;subst t;refine⟨.int .u8 u[m].toNat, ?_, ?_⟩
    .have e:(if 0<=(m:Int)then u[(m:Int).toNat]? else none)=some u[m]:=by
      rw[if_pos (by omega),yC];exact getElem?_pos u m a
     simp only[Instr.index,asIntOf,zH,zO,hX.run_und hd,Result.andThen,e]
    .simp only[VR];congr 1;have:=zEp u.data.toList m (by rw[size_data];exact a);rw[pow8];have y:u.data.toList[m]'(by rw[size_data];exact a)=u[m]:=by simp;rfl
     rw[<-y,this];rfl
   .simp at t
  .rename_i n e cs hd;obtain⟨l,rfl,hl⟩:=j;split at t
   .rename_i d sz o f;simp only[zF,qE]at t;split at t
    .rename_i a;obtain⟨z,C,p⟩:=zHH hX (w:=w) (off:=m*sz) o f hl (by rw[zF];exact t);refine⟨z, ?_,p⟩;simp only[Instr.index,asIntOf,zH,zO,hX.run_und hd,Result.andThen];rw[if_pos (by omega)];simp only[zH,hX.run_size f,Result.andThen,yC];exact C
    .simp at t
   .simp at t
  .simp at t
 .simp at t
theorem zAU {x v r:AV}(t:bG X h x v=some r)(f:VR R x i)(o:VR R v s): ∃z,(Instr.indexAt h i s).run P w= .ok z w/\VR R r z:=by
 unfold bG at t;split at t
 .rename_i m hm;obtain⟨k,rfl⟩:=zAt hm o;split at t
  .rename_i n e A off hd;obtain⟨b,d,c,hr,rfl⟩:=f;split at t
   .rename_i sz a;simp only[zF,qE]at t;split at t
    .rename_i j;rw[kF,zB]at t;subst t;refine⟨.pointer (some ⟨b,d+(off+m*sz),none⟩), ?_,b,d,c,hr,rfl⟩;simp only[Instr.indexAt,asIntOf,zH,zO,hX.run_und hd,Result.andThen,Instr.sureAddr];rw[if_pos (by omega)];simp only[zH,hX.run_size a,Result.andThen,yC,xF,Nat.add_assoc,zO]
    .simp at t
   .simp at t
  .rename_i e A off len cc hd;obtain⟨b,d,c,hr,rfl⟩:=f;split at t
   .rename_i sz a;simp only[zF,qE]at t;split at t
    .rename_i j;rw[kF,zB]at t;subst t;refine⟨.pointer (some ⟨b,d+(off+m*sz),none⟩), ?_,b,d,c,hr,rfl⟩;simp only[Instr.indexAt,asIntOf,zH,zO,hX.run_und hd,Result.andThen];rw[if_pos (by omega)];simp only[zH,hX.run_size a,Result.andThen,yC,xF,Nat.add_assoc,zO]
    .simp at t
   .simp at t
  .simp at t
 .simp at t
theorem zAW {x r:AV}(t:fU X h x n=some r)(p:VR R x i): ∃z,(Instr.fieldAt h i n).run P w= .ok z w/\VR R r z:=by
 unfold fU at t;split at t
 .rename_i fs A off hd;split at t
  .rename_i fl a;rw[zDk]at a;have j:fs[n]? =some fl:=by simpa using a
   split at t
   .simp at t
   .rename_i sz m o;rw[kF,zB]at t;subst t;obtain⟨b,d,c,hr,rfl⟩:=p;have q: ¬sz=0:=fun e=>m (by rw[e])
    refine⟨.pointer (some ⟨b,d+(off+fl.offset),none⟩), ?_,b,d,c,hr,rfl⟩;simp only[Instr.fieldAt,zH,hX.run_und hd,Result.andThen,j,Instr.sureAddr,zO,fieldPlace,hX.run_size o,if_neg q,xF,Nat.add_assoc]
   .simp at t
  .simp at t
 .simp at t
theorem zOY {ty:TypeId}{x r:AV}(f:F[0]? =some h)(t:zOZ X h x=some r)(a:VR R x i): ∃z,(Builtin.cap_ F ty #[i]).run P w= .ok z w/\VR R r z:=by
 unfold zOZ at t;split at t
 .rename_i e hd;simp only[zB]at t;subst t;simp only[VR]at a;subst a;exact⟨goInt 0,by simp[Builtin.cap_,f,zH,hX.run_und hd,zO],rfl⟩
 .rename_i e A off len cc hd;simp only[zF,zX]at t;split at t
  .rename_i j;rw[kF,zB]at t;subst t;obtain⟨b,d,c,hr,rfl⟩:=a;refine⟨goInt (cc / 2:Nat), ?_,rfl⟩;have:bB cc c=cc / 2:=by simp[bB,j]
   simp[Builtin.cap_,f,zH,hX.run_und hd,zO,this]
  .simp at t
 .simp at t
theorem zJI {x r:AV}(s:zA1 X h a x=some r)(d:VR R x i): ∃z,(convert h a i).run P w= .ok z w/\VR R r z:=by
 unfold zA1 at s;split at s
 .simp at s
 .rename_i o f;split at s
  .rename_i k hd;split at s
   .rename_i k' n;rw[vZ,zB]at s;subst s;simp only[VR]at d;subst d;exact⟨.int k (k.wrap n),by simp[convert,zH,hX.run_und f,hX.run_und hd,Conv.intToInt,zO],rfl⟩
   .simp at s
  .rename_i hd;split at s
   .rename_i l b;simp only[zB]at s;subst s;obtain⟨s',rfl,j,m⟩:=d;exact⟨.string s',by simp[convert,zH,hX.run_und f,hX.run_und hd,zO],s',rfl,j,m⟩
   .simp at s
  .simp at s
theorem zR7 {f:UnOp}{x r:AV}(h:aun f x=some r)(a:VR R x i): ∃z,(Op.unary f i).run P w= .ok z w/\VR R r z:=by
 have _:=hX;unfold aun at h;split at h
 .rename_i k n;rw[vZ,zB]at h;subst h;simp only[VR]at a;subst a;exact⟨_,rfl,rfl⟩
 .rename_i b;rw[wD,zB]at h;subst h;simp only[VR]at a;subst a;exact⟨_,rfl,rfl⟩
 .simp at h
theorem zHJ {env:Env}(t:EnvR R env n Q.tmps){r:AV}(fr:JI X env h J=some r):
  ∃z,(Instr.build h (J.map fun(i,x)=>(i,Q.eval x))).run P w= .ok z w/\VR R r z:=by
 unfold JI at fr;split at fr
 .rename_i z K;obtain⟨S,p,q⟩:=hX.run_zero R K w;split at fr
  .rename_i O hp;have j:=zAo t _ _ hp;rw[<-Array.toList_map]at j;split at fr
   .rename_i fs hd;split at fr
    .rename_i N y;split at fr
     .rename_i c m;simp only[zB]at fr;subst fr;obtain⟨arr',a,o⟩:=zDx (place':=(N.toArray[·]?)) (fun i x f=>by rw[zHR]at f;simpa using f) j m (uG q);have u:=run_places w _ _ (zBD hX _ _ y);refine⟨.agg arr', ?_,arr'.toList,rfl,o⟩;simp at a;simp[Instr.build,zH,p,hX.run_und hd,Array.mapM_eq_mapM_toList,u,a,zO]
     .simp at fr
    .simp at fr
   .rename_i len e hd;split at fr
    .rename_i sz C;split at fr
     .rename_i c m;simp only[zB]at fr;subst fr;obtain⟨arr',a,o⟩:=zDx (place':=fun i=>some (i*sz,sz)) (fun i x f=>f) j m (uG q);refine⟨.agg arr', ?_,arr'.toList,rfl,o⟩;simp at a;simp[Instr.build,zH,p,hX.run_und hd,hX.run_size C,a,zO]
     .simp at fr
    .simp at fr
   .simp at fr
  .simp at fr
 .simp at fr
theorem zNV {x r:AV}(arr:zPY X h x=some r)(a:VR R x i): ∃z,(Instr.arrayAt h i).run P w= .ok z w/\VR R r z:=by
 unfold zPY at arr;split at arr
 .rename_i A off len cc;split at arr
  .rename_i n e hd;simp only[zF,qW]at arr;split at arr
   .rename_i f;simp only[zB]at arr;subst arr;obtain⟨b,d,c,hr,rfl⟩:=a;refine⟨.pointer (some ⟨b,d+off,none⟩), ?_,b,d,c,hr,rfl⟩;simp only[Instr.arrayAt,zH,hX.run_und hd,Result.andThen];rw[if_neg (by omega)];rfl
   .simp at arr
  .simp at arr
 .simp at arr
omit hX in
theorem zQ4 {ts:Array TypeId}{ty:TypeId}{x y r:AV}(h:mn2 x y=some r)(j:VR R x i)(m:VR R y s): ∃z,(Builtin.min_ ts ty #[i,s]).run P w= .ok z w/\VR R r z:=by
 unfold mn2 at h;split at h
 .rename_i k a;split at h
  .rename_i k' b;simp only[VR]at j m;subst j m;rw[zF,uO]at h;refine⟨.int k (if b<a then b else a),by simp[Builtin.min_,Builtin.min2], ?_⟩
   split at h
   .rename_i f;have f:=of_decide_eq_true f;simp only[zB]at h;subst h;rw[if_pos f];rfl
   .rename_i f;have f: ¬b<a:=by simpa using f
    simp only[zB]at h;subst h;rw[if_neg f];rfl
  .simp at h
 .simp at h
omit hX in
theorem zQ3 {ts:Array TypeId}{ty:TypeId}{x y r:AV}(h:mx2 x y=some r)(j:VR R x i)(m:VR R y s): ∃z,(Builtin.max_ ts ty #[i,s]).run P w= .ok z w/\VR R r z:=by
 unfold mx2 at h;split at h
 .rename_i k a;split at h
  .rename_i k' b;simp only[VR]at j m;subst j m;rw[zF,uO]at h;refine⟨.int k (if b>a then b else a),by simp[Builtin.max_,Builtin.max2], ?_⟩
   split at h
   .rename_i f;have f:=of_decide_eq_true f;simp only[zB]at h;subst h;rw[if_pos f];rfl
   .rename_i f;have f: ¬a<b:=by simpa using f
    simp only[zB]at h;subst h;rw[if_neg f];rfl
  .simp at h
 .simp at h
include hR in
theorem simP {env:Env}(u:EnvR R env n Q.tmps){r:AV}(h:aP X env D.op=some r): ∃z,(execOp Q.eval D).run P w= .ok (.value z) w/\VR R r z:=by
 have J: ∀ {x:Operand} {f:AV->Option AV},b1 (opd env x) f=some r-> ∃a,VR R a (Q.eval x)/\f a=some r:=by
  intro x f hb;unfold b1 at hb;split at hb
  .rename_i a m;exact⟨a,kR u x a m,hb⟩
  .simp at hb
 have O: ∀ {x y:Operand} {f:AV->AV->Option AV},b2 (opd env x) (opd env y) f=some r-> ∃a b,VR R a (Q.eval x)/\VR R b (Q.eval y)/\f a b=some r:=by
  intro x y f hb;unfold b2 at hb;split at hb
  .rename_i a m;split at hb
   .rename_i b Z;exact⟨a,b,kR u x a m,kR u y b Z,hb⟩
   .simp at hb
  .simp at hb
 obtain⟨dst,op,ty,a4,a2,a3⟩:=D;simp only at h;unfold aP at h;split at h
 .exact⟨_,rfl,kR u _ _ h⟩
 .exact⟨_,rfl,kR u _ _ h⟩
 .rename_i c a b;unfold zFL at h;split at h
  .rename_i C;have hb:=kR u _ _ C;simp only[VR]at hb;exact⟨_,by simp[execOp,hb,asBool,zH,zO],kR u _ _ h⟩
  .rename_i C;have hb:=kR u _ _ C;simp only[VR]at hb;exact⟨_,by simp[execOp,hb,asBool,zH,zO],kR u _ _ h⟩
  .simp at h
 .obtain⟨z,p,q⟩:=zHJ hX (w:=w) u h;exact⟨z,xP p,q⟩
 .rename_i x;obtain⟨a,m,j⟩:=J h;unfold uW at j;split at j<;>first | (simp at j;done) | skip
  .simp only[zB]at j;subst j;obtain⟨b,d,c,hr,e⟩:=id m;exact⟨_,by simp[execOp,e,zO];rfl,by rw[<-e];exact m⟩
  .simp only[zB]at j;subst j;obtain⟨xs,ys,e,_⟩:=id m;exact⟨_,by simp[execOp,e,zO];rfl,by rw[<-e];exact m⟩
  .simp only[zB]at j;subst j;obtain⟨b,d,c,hr,e⟩:=id m;exact⟨_,by simp[execOp,e,zO];rfl,by rw[<-e];exact m⟩
 .rename_i a5 t x y _;obtain⟨a,b,m,hb,j⟩:=O h;obtain⟨p,z,q,h3⟩:=zJL hX hR (w:=w) (ox:=x) (oy:=y) j m hb;refine⟨z,xP ?_,h3⟩;simp only[zH,p,Result.andThen,q]
 .obtain⟨a,m,j⟩:=J h;obtain⟨z,p,q⟩:=zR7 hX (w:=w) j m;exact⟨z,xP p,q⟩
 .obtain⟨a,m,j⟩:=J h;obtain⟨z,p,q⟩:=zJI hX (w:=w) j m;exact⟨z,xP p,q⟩
 .rename_i f first cap
  unfold zFM at h;split at h
  .rename_i a m;split at h
   .rename_i b hb;simp only[zB]at h;subst h;refine⟨_,xP rfl, ?_⟩;exact⟨(first.map Q.eval).toList,(cap.map Q.eval).toList,rfl,by simpa using WZ u _ _ m,by simpa using WZ u _ _ hb⟩
   .simp at h
  .simp at h
 .obtain⟨a,m,j⟩:=J h;obtain⟨z,p,q⟩:=zAW hX (w:=w) j m;exact⟨z,xP p,q⟩
 .obtain⟨a,m,j⟩:=J h;obtain⟨z,p,q⟩:=zJE hX (w:=w) j m;exact⟨z,xP p,q⟩
 .obtain⟨a,b,m,hb,j⟩:=O h;obtain⟨z,p,q⟩:=zAU hX (w:=w) j m hb;exact⟨z,xP p,q⟩
 .obtain⟨a,b,m,hb,j⟩:=O h;obtain⟨z,p,q⟩:=zJD hX (w:=w) j m hb;exact⟨z,xP p,q⟩
 .obtain⟨a,m,j⟩:=J h;obtain⟨z,p,q⟩:=zNV hX (w:=w) j m;exact⟨z,xP p,q⟩
 .rename_i xx ix;obtain⟨a,m,j⟩:=J h;unfold jN at j;split at j
  .rename_i vs;rw[QN]at j;obtain⟨l,e,hl⟩:=m;obtain⟨z,p,q⟩:=VRL.get _ _ hl _ _ j;refine⟨z,xP ?_,q⟩;have a0:(⟨l⟩:Array Value)[ix]? =some z:=by simpa using p
   simp only[Instr.extract,e,a0];rfl
  .simp at j
 .rename_i c;split at h
  .rename_i C;split at h
   .rename_i x K;split at h
    .rename_i t ts Y;obtain⟨a,m,j⟩:=J h;obtain⟨T,args,N⟩:=c;simp only at C K Y;subst C;have a1:N[0]? =some t:=by rw[<-yS,Y];rfl
     obtain⟨z,p,q⟩:=zOY hX (w:=w) (ty:=ty) a1 j m;have S:args.map Q.eval= #[Q.eval x]:=by
      apply Array.toList_inj.1;simp[K]
     refine⟨z, ?_,q⟩;simp only[execOp,resolve,invoke,builtin,S,zH,zO,Result.andThen,p]
    .simp at h
   .simp at h
  .rename_i C;split at h
   .rename_i x y K;obtain⟨a,b,m,hb,j⟩:=O h;obtain⟨T,args,N⟩:=c;simp only at C K;subst C;have S:args.map Q.eval= #[Q.eval x,Q.eval y]:=by
     apply Array.toList_inj.1;simp[K]
    obtain⟨z,p,q⟩:=zQ4 (P:=P) (w:=w) (ts:=N) (ty:=ty) j m hb;exact⟨z,by simp only[execOp,resolve,invoke,builtin,S,zH,zO,Result.andThen,p],q⟩
   .simp at h
  .rename_i C;split at h
   .rename_i x y K;obtain⟨a,b,m,hb,j⟩:=O h;obtain⟨T,args,N⟩:=c;simp only at C K;subst C;have S:args.map Q.eval= #[Q.eval x,Q.eval y]:=by
     apply Array.toList_inj.1;simp[K]
    obtain⟨z,p,q⟩:=zQ3 (P:=P) (w:=w) (ts:=N) (ty:=ty) j m hb;exact⟨z,by simp only[execOp,resolve,invoke,builtin,S,zH,zO,Result.andThen,p],q⟩
   .simp at h
  .simp at h
 .simp at h
end
section
variable {P:Program}{X:Cx}(hX:Ok P X){R:Ren}{H:AH}{w:World}(hL:Rel R H w)
include hX hL
theorem zFp {p r:AV}(t:VF X h p H=some r)(q:VR R p i): ∃z,(Instr.loadAt h i).run P w= .ok z w/\VR R r z:=by
 unfold VF at t;split at t
 .rename_i A off;split at t
  .rename_i l e sz g m;obtain⟨b,d,c,hr,rfl⟩:=q;split at t
   .rename_i u hd;rw[zF]at t;split at t
    .rename_i a;split at t
     .rename_i n x;split at t
      .rename_i cs y;simp only[zB]at t;subst t;obtain⟨vs,f,j,C⟩:=hL.loads m hr (P:=P) y;refine⟨.agg vs.toArray, ?_,vs,rfl,j⟩;simp only[Instr.loadAt,Instr.sureAddr,loadVar,zH,zO,Result.andThen,hX.run_isAgg hd,a,if_true,hX.run_size x,f]
      .simp at t
     .simp at t
    .rename_i a;have o:dI u=false:=by simpa using a
     rw[QN]at t;obtain⟨z,f,j⟩:=hL.cell m hr t;refine⟨z, ?_,j⟩;simp only[Instr.loadAt,Instr.sureAddr,loadVar,zH,zO,Result.andThen,hX.run_isAgg hd,o,zL,qD];simp[load,Sem.run,f]
   .simp at t
  .simp at t
 .simp at t
theorem zOX {ty:TypeId}{x r:AV}(j:F[0]? =some h)(t:zDP X h x H=some r)(f:VR R x i): ∃z,(Builtin.len_ F ty #[i]).run P w= .ok z w/\VR R r z:=by
 unfold zDP at t;split at t
 .rename_i l b hd;simp only[zB]at t;subst t;obtain⟨s,rfl,rfl,rfl⟩:=f;exact⟨goInt s.size,by simp[Builtin.len_,j,zH,hX.run_und hd,zO],rfl⟩
 .rename_i e hd;simp only[zB]at t;subst t;simp only[VR]at f;subst f;exact⟨goInt 0,by simp[Builtin.len_,j,zH,hX.run_und hd,zO],rfl⟩
 .rename_i e A off n cc hd;simp only[zB]at t;subst t;obtain⟨b,d,c,hr,rfl⟩:=f;exact⟨goInt n,by simp[Builtin.len_,j,zH,hX.run_und hd,zO],rfl⟩
 .rename_i e hd;simp only[zB]at t;subst t;obtain⟨a,c,rfl⟩:=f;exact⟨goInt 0,by simp[Builtin.len_,j,zH,hX.run_und hd,zO],rfl⟩
 .rename_i n e hd;simp only[zB]at t;subst t;exact⟨goInt n,by simp[Builtin.len_,j,zH,hX.run_und hd,zO],rfl⟩
 .rename_i k e hd;simp only[zB]at t;subst t;simp only[VR]at f;subst f;exact⟨goInt 0,by simp[Builtin.len_,j,zH,hX.run_und hd,zO],rfl⟩
 .rename_i k e A hd;split at t
  .rename_i ks es q;simp only[zB]at t;subst t;obtain⟨b,d,c,hr,rfl⟩:=f;obtain⟨arr,o,u,⟨m,hp,y,N⟩,_⟩:=hL.obj _ _ _ _ _ hr q;have p:arr.size=es.length:=by
    have C:=hp.length_eq;have J:=zRj _ _ y;simp at C J;omega
   have K:(getObj b).run P w= .ok (.map arr o) w:=by simp[getObj,Sem.run,u]
   exact⟨goInt arr.size,by simp[Builtin.len_,j,zH,hX.run_und hd,K,zO],by rw[p];rfl⟩
  .simp at t
 .simp at t
omit hX hL in
theorem zB8: ∀ {l:List AV} {m:List Value} {n b:Nat},QI l=some (n,b)->VRL R l m-> ∃a:List UInt8,m=a.map (fun c=>Value.int .u8 (c.toNat:Int))/\a.length=n/\pack a=b
 | [],m,n,b,h,hv=>by
  simp only[QI,zB,zU]at h;simp only[VRL]at hv;subst hv;exact⟨[],rfl,h.1,h.2⟩
 | x::l,m,n,b,h,hv=>by
  unfold QI at h;split at h
  .rename_i f;simp at f
  .rename_i k rest f;simp only[y8]at f;obtain⟨rfl,rfl⟩:=f;simp only[zF,qE]at h;split at h
   .rename_i j;split at h
    .rename_i u b' hr;simp only[kF,zB,zU]at h;obtain⟨y,z,rfl,o,p⟩:=hv;obtain⟨a,rfl,q,t⟩:=zB8 hr p;simp only[VR]at o;subst o;refine⟨UInt8.ofNat k::a, ?_,by simp[q,<-h.1], ?_⟩
     .simp only[yJ,UInt8.toNat_ofNat',y8,and_true];congr 1;rw[Nat.mod_eq_of_lt j];rfl
     .simp only[pack,UInt8.toNat_ofNat',t,<-h.2];rw[Nat.mod_eq_of_lt j]
    .simp at h
   .simp at h
  .simp at h
theorem zJJ {x r:AV}(s:JX X h a x H=some r)(d:VR R x i): ∃z,(convert h a i).run P w= .ok z w/\VR R r z:=by
 unfold JX at s;split at s
 .rename_i e j;split at s
  .rename_i hd;split at s
   .rename_i m;split at s
    .simp only[zB]at s;subst s;simp only[VR]at d;subst d;refine⟨.string .empty, ?_, .empty,rfl,rfl,rfl⟩;rw[run_convert_bytes_string w h a e none 0 0 (hX.und j) (hX.und m) (hX.und hd)];rfl
    .rename_i A off len cc;split at s
     .rename_i l S sz g q;split at s
      .rename_i cs t;split at s
       .rename_i n b u;rw[zBO,zB]at s;subst s;obtain⟨y,C,c,hr,rfl⟩:=d;obtain⟨vs,J,K,T⟩:=hL.loads q hr (P:=P) t;obtain⟨f,rfl,N,O⟩:=zB8 u K;refine⟨.string ⟨f.toArray⟩, ?_,⟨f.toArray⟩,rfl,by simpa[ByteArray.size]using N,by simpa using O⟩;rw[run_convert_bytes_string w h a e _ _ _ (hX.und j) (hX.und m) (hX.und hd)];have o:(loadCells ⟨y,C+off,none⟩ len).run P w= .ok ((f.map (fun b=>(b.toNat:Int))).map (Value.int .u8)).toArray w:=by
         rw[J];simp[List.map_map,Function.comp_def]
        rw[run_bytesToString w _ _ _ _ o,foldl_push_byteCells];have p:ByteArray.empty.data= #[]:=rfl;rw[p];simp
       .simp at s
      .simp at s
     .simp at s
    .simp at s
   .simp at s
  .simp at s
 .simp at s
end
inductive OR:Option Nat->Option Value->Prop
 | none:OR none none
 | some {n:Nat} {k:IntKind} :OR (some n) (some (.int k (n:Int)))
theorem X2 {R:Ren}{x:Option AV}(h:kY x=some U)(f:(x=none/\M=none)\/ ∃a u,x=some a/\M=some u/\VR R a u):OR U M:=by
 rcases f with⟨rfl,rfl⟩ | ⟨a,u,rfl,rfl,j⟩
 .simp only[kY,zB]at h;subst h;exact .none
 .simp only[kY]at h;split at h
  .rename_i m hm;simp only[zB]at h;subst h;obtain⟨k,rfl⟩:=zAt hm j;exact .some
  .simp at h
theorem wG {code:BoundsCode}(h:n<=E):(Instr.sliceBound (.int B (n:Int)) E code).run q t= .ok n t:=by
 simp only[Instr.sliceBound,asIntOf,zH,zO,Result.andThen];rw[if_pos (by omega)];simp[zO]
theorem BT {P:Program}{w:World}{is:Bool}{len cap:Nat}(p:OR U M)(q:OR (some E) f)(t:OR (some j) u)(hl:n=U.getD 0)(hm:j<=cap)(o:E<=j)(a:n<=E):
  (Instr.sliceBounds is len cap M f u).run P w= .ok (n,E,j) w:=by
 subst hl
 cases q;cases t;cases p
 .simp only[Instr.sliceBounds,zH,wG hm,wG o,zO,Result.andThen];rfl
 .simp only[y9]at a;simp only[Instr.sliceBounds,zH,wG hm,wG o,wG a,zO,Result.andThen];rfl
theorem gQ {P:Program}{w:World}{is:Bool}{len cap:Nat}{hi:Option Nat}(m:OR U M)(o:OR hi f)(hl:n=U.getD 0)(p:E=hi.getD len)(l:E<=cap)(a:n<=E):
  (Instr.sliceBounds is len cap M f none).run P w= .ok (n,E,cap) w:=by
 subst hl p
 cases o<;>cases m
 .simp only[Instr.sliceBounds,zH,zO,Result.andThen];rfl
 .simp only[y9,Option.getD_none]at a;simp only[Instr.sliceBounds,zH,wG a,zO,Result.andThen];rfl
 .simp only[y9]at l;simp only[Instr.sliceBounds,zH,wG l,zO,Result.andThen];rfl
 .simp only[y9]at l a;simp only[Instr.sliceBounds,zH,wG l,wG a,zO,Result.andThen];rfl
theorem aS (c:Nat)(h:n % 2=0):bB n c=n / 2:=by
 have:(n % 2).beq 0=true:=by rw[zX];exact h
 simp only[bB,this,zP]
theorem xQ (c:Nat)(h: ¬n % 2=0):bB n c=c - n / 2:=by
 have:(n % 2).beq 0=false:=by rw[qY,ne_eq,zX];exact h
 simp only[bB,this,qH]
theorem zDQ {P:Program}{w:World}{R:Ren}{c off len cc sz room cp:Nat}{hi d:Option Nat}{r:AV}{is:Bool}(hR:R n E j c)(p:cp=bB cc c)(N:room<=cp)
  (h:JC n off len cc sz room U hi d=some r) (z:OR U M) (C:OR hi f) (J:OR d u):
  ∃l h m,(Instr.sliceBounds is len cp M f u).run P w= .ok (l,h,m) w/\VR R r (.slice (some (if m=l then(⟨E,j+off,none⟩:Addr)else(⟨E,j+off,none⟩:Addr).add (l*sz))) (h - l) (m - l)):=by
 unfold JC at h;simp only at h;split at h
 .rename_i m;split at h
  .rename_i K;simp only[zF]at h;split at h
   .rename_i a;simp only[zE,qW]at a;simp only[kF,zB]at h;subst h;refine⟨U.getD 0,K,m,BT z C J rfl (by omega) a.1.2 a.2,E,j,c,hR, ?_⟩;have b:bB (2*(m - U.getD 0)) c=m - U.getD 0:=by simp[bB]
    rw[b,xF];by_cases e:m=U.getD 0
    .rw[if_pos e];simp[zX,e]
    .rw[if_neg e];simp[zX,e,Nat.add_assoc]
   .simp at h
  .simp at h
 .cases J
  simp only[zF]at h;split at h
  .rename_i a;simp only[zE,qW]at a;have hb:=gQ (P:=P) (w:=w) (is:=is) (cap:=cp) z C rfl rfl (by omega) a.2;refine⟨_,_,_,hb, ?_⟩;split at h
   .rename_i A;rw[zX]at A;simp only[kF,zB]at h;subst h;have o:cp=cc / 2:=by rw[p];simp[bB,A]
    refine⟨E,j,c,hR, ?_⟩;have b:bB (2*(cc / 2 - U.getD 0)) c=cp - U.getD 0:=by simp[bB,o]
    rw[b,xF];by_cases e:cp=U.getD 0
    .rw[if_pos e];rw[o]at e;simp[zX,e]
    .rw[if_neg e];rw[o]at e;simp[zX,e,Nat.add_assoc]
   .rename_i A;rw[zX]at A;have o:cp=c - cc / 2:=by rw[p,xQ c A]
    split at h
    .rename_i q;rw[zX]at q;simp only[kF,zB]at h;subst h;refine⟨E,j,c,hR, ?_⟩;rw[q,jD,jD,<-p,Nat.zero_mul,xF,Nat.add_zero];split<;>rfl
    .rename_i q;split at h
     .rename_i t;rw[qE]at t;simp only[kF,zB]at h;subst h;refine⟨E,j,c,hR, ?_⟩;rw[if_neg (by omega),xF,Nat.add_assoc];have b:bB (cc+2*U.getD 0) c=cp - U.getD 0:=by
       rw[xQ c (by omega),o];omega
      rw[b]
     .rename_i t;rw[qE]at t;simp only[zB]at h;subst h;exact⟨_,_,by rw[show hi.getD len - U.getD 0=0 from by omega]⟩
  .simp at h
theorem zBy {R:Ren}{H:AH}(hL:Rel R H t){c:Nat}{l:List AV}{e a off cc sz:Nat}(m:H.h.get n=some (.cells l e a Y))(hR:R n E j c)(u:0<sz):kQ l Y a off cc sz<=bB cc c:=by
 unfold kQ;rw[zF];split
 .rename_i f;rw[zX]at f;rw[aS c f];exact zM _
 .rename_i f;rw[zX]at f;rw[xQ c f,zF];split
  .rename_i A;simp only[zE,zX]at A;obtain⟨⟨o,rfl⟩,rfl⟩:=A;obtain⟨arr,C,pre,l',w,J,K,N,p,O,q,S,_⟩:=hL.cellsAt m hR;have x:=zRj l l' p;have y:=(q o).1;rw[jY];have z:l.length<=c*a:=by omega
   have:l.length - cc / 2*a<=(c - cc / 2)*a:=by rw[Nat.sub_mul];omega
   exact Nat.div_le_of_le_mul (by rw[Nat.mul_comm a];exact this)
  .exact Nat.zero_le _
section
variable {P:Program}{X:Cx}(hX:Ok P X){R:Ren}{H:AH}{w:World}(hL:Rel R H w)
include hX hL
theorem zJA {x r:AV}{lo hi K:Option AV}(t:ZE X h x lo hi K H=some r)(o:VR R x i)
  (h1:(lo=none/\M=none)\/ ∃a lv,lo=some a/\M=some lv/\VR R a lv) (h2:(hi=none/\f=none)\/ ∃a lv,hi=some a/\f=some lv/\VR R a lv) (h3:(K=none/\u=none)\/ ∃a lv,K=some a/\u=some lv/\VR R a lv):
  ∃z,(Instr.sliceAt h i M f u).run P w= .ok z w/\VR R r z:=by
 unfold ZE at t;split at t
 .rename_i a0 T a1 e1 e2 e3;have p:=X2 e1 h1;have q:=X2 e2 h2;have y:=X2 e3 h3;split at t
  .rename_i len a3 hd;split at t
   .unfold zJH at t;simp only[zF]at t;split at t
    .rename_i j;simp only[zE,qW]at j;rw[zBO,zB]at t;subst t;obtain⟨s,rfl,rfl,rfl⟩:=o
     cases y
     have hb:=gQ (P:=P) (w:=w) (is:=false) (len:=s.size) (cap:=s.size) p q rfl rfl j.1 j.2;refine⟨.string (s.extract (a0.getD 0) (T.getD s.size)), ?_,_,rfl, ?_, ?_⟩
     .simp only[Instr.sliceAt,Instr.slice,zH,hX.run_und hd,Result.andThen];simp[hb,zH,zO]
     .rw[ByteArray.size_extract];omega
     .rw[Lib.extract_data,zBG,WW,pow8,pow8]
    .simp at t
   .simp at t
  .rename_i e hd;split at t
   .rename_i sz v;simp only[zF]at t;split at t
    .rename_i j;simp only[zE,zX]at j;obtain⟨⟨⟨c1,c2⟩,c3⟩,c4⟩:=j;simp only[zB]at t;subst t;simp only[VR]at o;subst o;refine⟨.slice none 0 0, ?_,rfl⟩
     cases a1 with
     | none=>
      cases y
      have hb:=gQ (P:=P) (w:=w) (is:=true) (len:=0) (cap:=0) p q rfl rfl (by omega) (by omega);simp[Instr.sliceAt,Instr.slice,zH,hX.run_und hd,hb,hX.run_size v,zO,c1,c2]
     | some m=>
      cases T with
      | none=>simp at c4
      | some S=>
       simp only[y9]at c2 c3;subst c2 c3;have hb:=BT (P:=P) (w:=w) (is:=true) (len:=0) (cap:=0) p q y rfl (zM _) (zM _) (by omega);simp[Instr.sliceAt,Instr.slice,zH,hX.run_und hd,hb,hX.run_size v,zO,c1]
    .simp at t
   .simp at t
  .rename_i e A off len cc hd;split at t
   .rename_i sz v;split at t
    .rename_i l e' a4 g hA;simp only[zF,qE]at t;split at t
     .rename_i J;obtain⟨b,d,c,hr,rfl⟩:=o;obtain⟨Y,S,Z,hb,C⟩:=zDQ (P:=P) (w:=w) (is:=true) hr rfl (zBy hL hA hr J) t p q y;refine⟨_, ?_,C⟩;simp only[Instr.sliceAt,Instr.slice,zH,hX.run_und hd,Result.andThen,hb,hX.run_size v,zO];congr 1;split<;>simp_all
     .simp at t
    .simp at t
   .simp at t
  .rename_i e hd;split at t
   .rename_i sz v;split at t
    .simp only[zF]at t;split at t
     .rename_i j;simp only[zE,zX]at j;obtain⟨c1,c2⟩:=j;simp only[zB]at t;subst t;obtain⟨a,cp,rfl⟩:=o
      cases y
      have hb:=gQ (P:=P) (w:=w) (is:=true) (len:=0) (cap:=cp) p q rfl rfl (by omega) (by omega);rw[c1,c2]at hb;refine⟨.slice (some a) 0 cp, ?_,a,cp,rfl⟩;simp[Instr.sliceAt,Instr.slice,zH,hX.run_und hd,hb,hX.run_size v,zO,Addr.add]
     .simp at t
    .simp at t
   .simp at t
  .rename_i n e A off hd;split at t
   .rename_i sz v;simp only[zF,qE]at t;split at t
    .rename_i J;obtain⟨b,d,c,hr,rfl⟩:=o;obtain⟨Y,S,Z,hb,C⟩:=zDQ (P:=P) (w:=w) (is:=false) (cp:=n) hr (by simp[bB]) (zM _) t p q y;refine⟨_, ?_,C⟩;simp only[Instr.sliceAt,Instr.sureAddr,zH,hX.run_und hd,Result.andThen,hb,hX.run_size v,zO]
    .simp at t
   .simp at t
  .rename_i arr A off hd;split at t
   .rename_i n e a2;split at t
    .rename_i sz v;simp only[zF,qE]at t;split at t
     .rename_i J;obtain⟨b,d,c,hr,rfl⟩:=o;obtain⟨Y,S,Z,hb,C⟩:=zDQ (P:=P) (w:=w) (is:=false) (cp:=n) hr (by simp[bB]) (zM _) t p q y;refine⟨_, ?_,C⟩;simp only[Instr.sliceAt,Instr.slice,asAddr,zH,hX.run_und hd,hX.run_und a2,Result.andThen,hb,hX.run_size v,zO]
     .simp at t
    .simp at t
   .simp at t
  .simp at t
 .simp at t
omit hX hL in
theorem zAw (h:QS n H=true): ∃l e sz,H.h.get n=some (.cells l e sz false)/\0<sz:=by
 unfold QS at h;split at h
 .rename_i o a
  cases o with
  | cells l e sz g=>
   cases g with
   | false=>exact⟨l,e,sz,a,by simpa using h⟩
   | true=>simp at h
  | _=>simp at h
 .simp at h
omit hX in
theorem zEA {c:Nat}(h:QS n H=true)(r:R n E j c): ∃arr e,w.heap[E]? =some (.cells arr e (0,0)):=by
 obtain⟨l,e,sz,f,hp⟩:=zAw h;obtain⟨arr,o,pre,l',m,a,_,_,_,A,_⟩:=hL.obj _ _ _ _ _ r f;rw[(A rfl).2.1 hp]at a;exact⟨arr,_,a⟩
theorem zLP {ox oy:Operand}{x y r:AV}(t:zAX X C h x y H=some r)(q:VR R x i)(J:VR R y s):
  (eqGuard C h ox oy i s).run P w= .ok () w/\ ∃z,(binOp C h i s).run P w= .ok z w/\VR R r z:=by
 unfold zAX at t;split at t
 .rename_i r' hr;simp only[zB]at t;subst t;exact zJL hX hL.fn hr q J
 .split at t
  .rename_i e hd;split at t
   .simp at t
   .rename_i k hk hs;have a3: ¬k=0:=fun h0=>hk (by rw[h0])
    unfold pNe at t;split at t
    .rename_i A o;split at t
     .rename_i B p;rw[zF]at t;split at t
      .rename_i a;simp only[zE]at a;obtain⟨b1,d1,c1,r1,rfl⟩:=id q;obtain⟨b2,d2,c2,K,rfl⟩:=id J;have a4:b1≠b2:=by
        rintro rfl
        obtain⟨l1,u1,s1,g1,_⟩:=zAw a.1;obtain⟨l2,u2,s2,g2,_⟩:=zAw a.2.1;have:=hL.inj _ _ _ _ _ _ _ r1 K ⟨_,g1,trivial⟩ ⟨_,g2,trivial⟩;subst this;have N:=a.2.2;rw[yF]at N;simp at N
       obtain⟨Z,a5,ha⟩:=zEA hL a.1 r1;obtain⟨a0,a6,hb⟩:=zEA hL a.2.1 K;have e1:=hX.run_und hd w;have e2:=hX.run_size hs w;have O: ∀(m:Nat) (f j:Addr),f.block=b1->j.block=b2->(Op.equalIn (m+1) h (.pointer (some f)) (.pointer (some j))).run P w= .ok false w:=by
        intro m f j S T;have a7:w.heap[f.block]? =some (.cells Z a5 (0,0)):=by rw[S];exact ha
        have a8:w.heap[j.block]? =some (.cells a0 a6 (0,0)):=by rw[T];exact hb
        have a9: ¬f.block=j.block:=by rw[S,T];exact a4
        have Y:(sameAddr f j).run P w= .ok false w:=by
         simp[sameAddr,a9,World.frozen?,a7,a8,noView,viewAt,World.shape?,mayBeOne,stringish]
        simp only[Op.equalIn,zH,e1,e2,Result.andThen,ne_eq,a3,yD,if_true,Y]
       refine⟨wE (by simp) (by simp), ?_⟩;split at t
       .rw[wD,zB]at t;subst t;refine⟨.bool false, ?_,rfl⟩;show(do pure (.bool (← Op.equal h _ _)):Sem Value).run P w=_
        simp only[Op.equal,Op.maxDepth,zH];rw[O 9999 _ _ rfl rfl];rfl
       .rw[wD,zB]at t;subst t;refine⟨.bool true, ?_,rfl⟩;show(do pure (.bool (!(← Op.equal h _ _))):Sem Value).run P w=_
        simp only[Op.equal,Op.maxDepth,zH];rw[O 9999 _ _ rfl rfl];rfl
       .simp at t
      .simp at t
     .simp at t
    .simp at t
   .simp at t
  .simp at t
theorem simL {env:Env}(q:EnvR R env n Q.tmps){r:AV}(h:aL X env H D.op=some r): ∃z,(execOp Q.eval D).run P w= .ok (.value z) w/\VR R r z:=by
 have K: ∀ {x:Operand} {f:AV->Option AV},b1 (opd env x) f=some r-> ∃a,VR R a (Q.eval x)/\f a=some r:=by
  intro x f hb;unfold b1 at hb;split at hb
  .rename_i a j;exact⟨a,kR q x a j,hb⟩
  .simp at hb
 have N: ∀ {x:Option Operand} {y:Option AV},dK env x=some y->(y=none/\x.map Q.eval=none)\/ ∃a u,y=some a/\x.map Q.eval=some u/\VR R a u:=by
  intro x y hb
  cases x with
  | none=>simp only[dK,zB]at hb;exact .inl ⟨hb.symm,rfl⟩
  | some x=>
   simp only[dK]at hb;split at hb
   .rename_i b Y;simp only[zB]at hb;exact .inr ⟨b,_,hb.symm,rfl,kR q x b Y⟩
   .simp at hb
 obtain⟨dst,op,ty,a6,a4,a5⟩:=D;simp only at h;unfold aL at h;split at h
 .obtain⟨a,j,C⟩:=K h;obtain⟨z,m,p⟩:=zFp hX hL C j;exact⟨z,xP m,p⟩
 .unfold ZA at h;split at h
  .rename_i a j;split at h
   .rename_i a7 Z;split at h
    .rename_i a8 a0;split at h
     .rename_i a9 a1;obtain⟨z,m,p⟩:=zJA hX hL h (kR q _ _ j) (N Z) (N a0) (N a1);exact⟨z,xP m,p⟩
     .simp at h
    .simp at h
   .simp at h
  .simp at h
 .unfold b2 at h;split at h
  .rename_i a j;split at h
   .rename_i b hb;unfold zJC at h;split at h
    .rename_i kt et J;split at h
     .rename_i ks hk;split at h
      .rename_i z hz;obtain⟨zz,m,p⟩:=zQ9 hX hL J hk hz h (kR q _ _ j) (kR q _ _ hb);exact⟨zz,xP m,p⟩
      .simp at h
     .simp at h
    .simp at h
   .simp at h
  .simp at h
 .obtain⟨a,j,C⟩:=K h;obtain⟨z,m,p⟩:=zJJ hX hL C j;exact⟨z,xP m,p⟩
 .rename_i b0 t x y _;unfold b2 at h;split at h
  .rename_i a j;split at h
   .rename_i b hb;obtain⟨m,z,p,h3⟩:=zLP hX hL (ox:=x) (oy:=y) h (kR q _ _ j) (kR q _ _ hb);refine⟨z,xP ?_,h3⟩;simp only[zH,m,Result.andThen,p]
   .simp at h
  .simp at h
 .rename_i c;split at h
  .rename_i O;split at h
   .rename_i x S;split at h
    .rename_i t ts J;obtain⟨a,j,C⟩:=K h;obtain⟨a3,args,T⟩:=c;simp only at O S J;subst O;have a2:T[0]? =some t:=by rw[<-yS,J];rfl
     obtain⟨z,m,p⟩:=zOX hX hL (ty:=ty) a2 C j;have ea:args.map Q.eval= #[Q.eval x]:=by
      apply Array.toList_inj.1;simp[S]
     refine⟨z, ?_,p⟩;simp only[execOp,resolve,invoke,builtin,ea,zH,zO,Result.andThen,m]
    .simp at h
   .simp at h
  .simp at h
 .simp at h
end
def VT (a b:Nat):List.range (a+b)=List.range a++(List.range b).map (a+ ·):=List.range_add
theorem X8 (z:Array Value)(n:Nat)(a:0<z.size):((Array.range (n*z.size)).map (z[· % z.size]!)).toList=(List.replicate n z.toList).flatten:=by
 rw[Array.toList_map,Array.toList_range]
 induction n with
 | zero=>simp
 | succ n ih=>
  rw[jI,Nat.add_comm,VT,List.map_append,List.replicate_succ,List.flatten_cons];congr 1
  .apply List.ext_getElem?;intro i;by_cases hi:i<z.size
   .simp[hi,Nat.mod_eq_of_lt hi]
   .simp[hi]
  .rw[<-ih,List.map_map];apply List.map_congr_left;intro j _;simp[Function.comp]
theorem zHe {R:Ren}{a:List AV}{z:List Value}(h:VRL R a z): ∀n,VRL R (rep n a) (List.replicate n z).flatten
 | 0=>rfl
 | n+1=>by
  rw[rep,List.replicate_succ,List.flatten_cons];exact h.append (zHe h n)
theorem J8 {R:Ren} : ∀(a:List UInt8),VRL R (bytesOf a.length (pack a)) (a.map (fun b=>Value.int .u8 (b.toNat:Int)))
 | []=>rfl
 | b::a=>by
  have hb:b.toNat<256:=b.toNat_lt;have f:pack (b::a) % 256=b.toNat:=by simp only[pack];omega
  have h:pack (b::a) / 256=pack a:=by simp only[pack];omega
  simp only[zT,bytesOf,f,h,yJ];exact⟨_,_,rfl,rfl,J8 a⟩
def zA3 (R:Ren)(P:Program)(s:Sem Value)(o:AObj)(a:Nat->AV)(w:World):Prop:=
 ∃(x:Obj) (c k:Nat) (z:Value),s.run P w= .ok z (World.alloc { w with drawn:=k} x)/\
  ∀A,zJZ (R.add A w.heap.size 0 c) o 0 c (some x)/\VR (R.add A w.heap.size 0 c) (a A) z
section
variable {P:Program}{X:Cx}(hX:Ok P X){R:Ren}{w:World}
include hX
omit hX in
theorem zBR {x:AV}{s:Sem Value}(a:VR R x i)(f:s.run P w= .ok (.pointer (some ⟨w.heap.size,0,none⟩)) (w.alloc (.cells i.cells h))):
  zA3 R P s (.cells (jU x) h 1 false) (fun A=> .ptr A 0) w:=by
 refine⟨.cells i.cells h,0,w.drawn,_,f,fun A=>⟨⟨i.cells,(0,0),[],i.cells.toList,[],rfl,by simp,rfl,VRL.mono (R.sub_add _ _ _ _) _ _ (uG a),fun _=>⟨rfl,fun _=>rfl,fun e=>by omega⟩,fun e=>by simp at e,fun _ v _=>by simp,[],rfl⟩, ?_⟩⟩;exact⟨w.heap.size,0,0,R.add_self _ _ _ _,rfl⟩
theorem zGe {env:Env}(hE:EnvR R env n Q.tmps){o:AObj}{y:Nat->AV}(fr:Q9 X env h E J=some (o,y)):
  zA3 R P (Instr.buildSlice h E (J.map fun(i,x)=>(i,Q.eval x))) o y w:=by
 unfold Q9 at fr;split at fr
 .rename_i e hd;split at fr
  .rename_i a0 hp;have m:=zAo hE _ _ hp;rw[<-Array.toList_map]at m;split at fr
   .rename_i sz K;split at fr
    .rename_i z hz;simp only[zF]at fr;split at fr
     .rename_i C;simp only[zE,qW,qE,zX,jY]at C;obtain⟨⟨c1,c2⟩,c3⟩:=C;split at fr
      .rename_i cs N;simp only[zB,zU]at fr;obtain⟨rfl,rfl⟩:=fr;obtain⟨j,O,S⟩:=hX.run_zero R hz w;have p:=uG S;have q:=zRj _ _ p;rw[yW,c3]at q;have t: ∃a:Array Value,((E*sz=0/\a= #[])\/(¬E*sz=0/\a=j.cells))/\
         ((Array.range (E*sz)).map (a[· % a.size]!)).toList=(List.replicate E j.cells.toList).flatten:=by
        by_cases f:E*sz=0
        .refine⟨#[], .inl ⟨f,rfl⟩, ?_⟩;have:E=0:=by rcases Nat.mul_eq_zero.1 f with fr | fr<;>omega
         subst this;simp
        .refine⟨j.cells, .inr ⟨f,rfl⟩, ?_⟩;rw[show E*sz=E*j.cells.size from by rw[q]];exact X8 j.cells E (by omega)
       obtain⟨a,T,Y⟩:=t;obtain⟨arr',h1,h2⟩:=zDx (R:=R) (place':=fun i=>some (i*sz,sz)) (fun i x hx=>hx) m N (arr:=(Array.range (E*sz)).map (a[· % a.size]!)) (by rw[Y];exact zHe p E);refine⟨.cells arr' e,E,w.drawn, .slice (some ⟨w.heap.size,0,none⟩) E E, ?_,fun A=>⟨⟨arr',(0,0),[],arr'.toList,[],rfl,by simp,rfl,VRL.mono (R.sub_add _ _ _ _) _ _ h2,fun _=>⟨rfl,fun _=>rfl,fun fr=>by omega⟩,fun fr=>by simp at fr,fun _ i _=>by simp,[],rfl⟩, ?_⟩⟩
       .have Z: ¬E*sz>2 ^ 24:=by omega
        simp only[Instr.buildSlice,zH,hX.run_und hd,Result.andThen,hX.run_size K];rw[if_neg Z];have u:Instr.fill (fun i=>some (i*sz,sz)) ((Array.range (E*sz)).map (a[· % a.size]!)) (J.map fun x=>(x.fst,Q.eval x.snd)).toList=some arr':=h1;rcases T with⟨f,rfl⟩ | ⟨f,rfl⟩
        .rw[if_pos f];simp only[zH,zO,Result.andThen,u,newRow,newObj,Sem.run];rfl
        .rw[if_neg f];simp only[zH,zO,Result.andThen,O,u,newRow,newObj,Sem.run];rfl
       .exact⟨w.heap.size,0,E,R.add_self _ _ _ _,by rw[aS _ (by omega)];simp⟩
      .simp at fr
     .simp at fr
    .simp at fr
   .simp at fr
  .simp at fr
 .simp at fr
theorem zJQ {l c:Option AV}{o:AObj}{y:Nat->AV}(t:zA2 X h l c=some (o,y))(hl: ∀a,l=some a->VR R a i)(T: ∀a,c=some a->VR R a s):
  zA3 R P (Instr.makeSlice h i s) o y w:=by
 unfold zA2 at t;split at t
 .rename_i n;split at t
  .rename_i m;have C:=hl _ rfl;have J:=T _ rfl;simp only[VR]at C J;subst C J;split at t
   .rename_i e hd;split at t
    .rename_i ti K;split at t
     .rename_i z Y;simp only[zF]at t;split at t
      .rename_i p;simp only[zE,qW,qE,zX,jY]at p;obtain⟨⟨⟨⟨c1,c2⟩,c3⟩,c4⟩,Z⟩:=p;simp only[zB,zU]at t;obtain⟨rfl,rfl⟩:=t;obtain⟨lv,f,hi,N,O⟩:=hX.zero R Y;have j:=hX.ty _ _ K;rw[hi]at j;injection j with j;subst j
       have q:=uG O;have u:=zRj _ _ q;rw[yW,Z]at u;have hm:=run_make (P:=P) w h e lv f (hX.und hd) hi N .i64 .i64 (n:Int) (m:Int) (by omega) (by omega) (by
        have:((m*lv.bytes:Nat):Int)<=140737488355328:=by omega
        rw[Int.natCast_mul]at this;rw[Int.mul_comm];omega) (by omega)
       have S:(madeCells f.cells (m*lv.size)).toList=(List.replicate m f.cells.toList).flatten:=by
        have e2:madeCells f.cells (m*lv.size)=(Array.range (m*lv.size)).map (f.cells[· % f.cells.size]!):=rfl;rw[e2,show m*lv.size=m*f.cells.size from by rw[u]];exact X8 f.cells m (by omega)
       refine⟨_,m,w.drawn,_,hm,fun A=>⟨⟨_,(0,0),[],(List.replicate m f.cells.toList).flatten,[],rfl, ?_,rfl,VRL.mono (R.sub_add _ _ _ _) _ _ (zHe q m),fun _=>⟨rfl,fun _=>rfl,fun t=>by omega⟩,fun t=>by simp at t,fun _ lv _=>by simp,[],rfl⟩, ?_⟩⟩
       .simp only[yC,yB,qX];exact S
       .exact⟨w.heap.size,0,m,R.add_self _ _ _ _,by rw[aS _ (by omega),yP m (by omega:0<2),yC,yC]⟩
      .simp at t
     .simp at t
    .simp at t
   .simp at t
  .simp at t
 .simp at t
theorem zJK {x:AV}{o:AObj}{j:Nat->AV}(s:zCT X h a x=some (o,j))(t:VR R x i):zA3 R P (convert h a i) o j w:=by
 unfold zCT at s;split at s
 .rename_i u;split at s
  .rename_i e hd;split at s
   .rename_i y;split at s
    .rename_i l b;simp only[zF,qE]at s;split at s
     .rename_i q;simp only[zB,zU]at s;obtain⟨rfl,rfl⟩:=s;obtain⟨st,rfl,rfl,rfl⟩:=t;generalize d:Question.cut (.appendCap st.size 0 e) (w.tape w.drawn (.appendCap st.size 0 e))=cap;have J:st.size<=cap:=by rw[<-d];simp only[Question.cut];omega
      have p:cap<9223372036854775808:=by
       rw[<-d];simp only[Question.cut];have C:st.size<4611686018427387904:=by first | exact q | omega
       have:=Nat.mod_lt (w.tape w.drawn (.appendCap st.size 0 e)) (show 2 ^ 63 - st.size>0 by omega);omega
      have K:(st.data.map fun b=>Value.int .u8 (b.toNat:Int)).toList=st.data.toList.map (fun b=>Value.int .u8 (b.toNat:Int)):=by simp
      refine⟨.cells ((st.data.map fun b=>Value.int .u8 (b.toNat:Int))++Array.replicate (cap - st.size) (.int .u8 0)) e (cap,cap+1),cap,w.drawn+1, .slice (some ⟨w.heap.size,0,none⟩) st.size cap, ?_,fun A=>⟨⟨_,(cap,cap+1),[],st.data.toList.map (fun b=>Value.int .u8 (b.toNat:Int)),List.replicate (cap - st.size) (.int .u8 0),rfl, ?_,rfl, ?_,fun s=>by simp at s,fun _=>⟨?_,p⟩,fun _ v hi=> ?_,_,VRL.replicate (x:= .int .u8 0) (v:= .int .u8 0) rfl _⟩, ?_⟩⟩
      .have f:((st.data.map fun b=>Value.int .u8 (b.toNat:Int))++Array.replicate (cap - st.size) (Value.int .u8 0)).size=cap:=by
        simp;omega
       have z:(choose (.appendCap st.size 0 e)).run P w= .ok cap { w with drawn:=w.drawn+1} :=by
        simp only[choose,Sem.run,Question.forced,zL,qD,d]
       have m:(convert h a (.string st)).run P w=(Conv.stringToBytes e st).run P w:=by
        simp[convert,zH,hX.run_und u,hX.run_und hd,hX.run_und y]
       rw[m];simp only[Conv.stringToBytes,zH,z,Result.andThen,newRow,newObj,Sem.run,zO,markStringish,shape,World.shape?,Array.getElem?_push_size,f,freeze,World.freeze];simp[World.alloc,zO];apply Array.ext_getElem?;intro v;rw[Array.getElem?_modify];by_cases hi:v=w.heap.size
       .subst hi;simp[f]
       .simp only[Array.getElem?_push,if_neg hi,if_neg (Ne.symm hi)]
      .simp
      .rw[<-size_data];exact J8 _
      .simp[size_data];omega
      .simp at hi;simp;omega
      .exact⟨w.heap.size,0,cap,R.add_self _ _ _ _,by rw[xQ _ (by omega)];simp⟩
     .simp at s
    .simp at s
   .simp at s
  .simp at s
 .simp at s
theorem simA {env:Env}(f:EnvR R env n Q.tmps){p:AObj}{q:Nat->AV}(h:aA X env D.op=some (p,q)):
  ∃s:Sem Value,execOp Q.eval D=(do pure (Next.value (← s)))/\zA3 R P s p q w:=by
 obtain⟨dst,N,ty,K,C,J⟩:=D;simp only at h;unfold aA at h;split at h
 .rename_i e;refine⟨_,rfl, ?_⟩;unfold aA1 at h;split at h
  .rename_i z m;simp only[zB,zU]at h;obtain⟨rfl,rfl⟩:=h;obtain⟨O,u,y⟩:=hX.run_zero R m w;refine zBR y ?_;simp only[Instr.alloc,zH,u,Result.andThen,newVar,newRow,newObj,Sem.run,zO];rfl
  .simp at h
 .rename_i e x;refine⟨_,rfl, ?_⟩;unfold aA1 at h;split at h
  .rename_i z m;simp only[zB,zU]at h;obtain⟨rfl,rfl⟩:=h;refine zBR (kR f _ _ m) ?_;simp only[Instr.box,zH,Result.andThen,newVar,newRow,newObj,Sem.run,zO];rfl
  .simp at h
 .exact⟨_,rfl,zGe hX f h⟩
 .exact⟨_,rfl,zJQ hX h (fun a j=>kR f _ _ j) (fun a j=>kR f _ _ j)⟩
 .split at h
  .rename_i a j;exact⟨_,rfl,zJK hX h (kR f _ _ j)⟩
  .simp at h
 .rename_i t;refine⟨_,rfl, ?_⟩;unfold aMap at h;split at h
  .split at h
   .simp only[zB,zU]at h;obtain⟨rfl,rfl⟩:=h;refine⟨.map #[] 0,0,w.drawn, .map (some w.heap.size), ?_,fun A=>⟨⟨#[],0,rfl,⟨[],by simp,rfl,rfl⟩,by simp,List.Pairwise.nil,by simp[zDS]⟩,⟨_,_,_,R.add_self _ _ _ _,rfl⟩⟩⟩;simp[Instr.makeMap,newObj,zH,Sem.run]
   .simp at h
  .simp at h
 .simp at h
end
end Go.Eng
end




