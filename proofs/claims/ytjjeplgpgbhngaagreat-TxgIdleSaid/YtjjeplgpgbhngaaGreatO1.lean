/- A checked evaluator for the program, and what it tells, part 1: no condition. -/
import GoSem.Step
import Derived.Control
import Derived.Calls
import Derived.Laws.NewBlocks
import Derived.Below
import Derived.Test.YtjjeplgpgbhngaaGreatProg
import Derived.Lib.Strings
import Derived.WalkKit
import Derived.Deep.DeepAppendWide
import Derived.Laws.Tables
import Derived.Laws.StructEq
import Derived.ChangeKeysEq
import Derived.MapKept
import Derived.WideKeyRuns
set_option linter.all false
set_option linter.unusedVariables false
set_option linter.unusedSimpArgs false
set_option maxHeartbeats 8000000
set_option maxRecDepth 20000
variable {h a:Go.TypeId}{n E j:Nat}{i s:Go.Value}{v:List Nat}{p:Array Go.Oper}{t:Go.World}{q:Go.Program}{B:Go.IntKind}{C:Go.BinOp}{D:Go.Oper}{F:Array Go.TypeId}{G:Array Go.Value}{I:List Go.Value}{J:Array (Nat×Go.Operand)}{L:Go.TypeDesc}{M f u:Option Go.Value}{N:Go.MapEntry}{Q:Go.Frame}{U:Option Nat}{V:Go.Code}{W:List Go.MapEntry}{Y:Bool}{m:Go.Operand}{r:Type}{z:Int}
namespace Go
def zB:=@Option.some.injEq
def zC:=@List.mem_cons_of_mem
def zE:=@Bool.and_eq_true
def zF:=@cond_eq_ite
def zG:=@Sem.run_bind
def zH:=@List.mem_cons_self
def zJ:=@Sem.run_pure
def zK:=@Nat.le_refl
def zL:=@Bool.false_eq_true
def zM:=@List.mem_cons
def zO:=@List.getElem?_eq_getElem
def zP:=@cond_true
def zQ:=@Prod.mk.injEq
def zR:=@List.eq_nil_of_length_eq_zero
def zT:=@List.length_append
def zU:=@decide_eq_true_eq
def zV:=@List.length_cons
def zW:=@List.take_of_length_le
def zX:=@Nat.beq_eq
def zY:=@Option.map_some
def zZ:=@List.mem_append
def q9:=@Nat.blt_eq
def qA:=@List.length_take
def qB:=@List.cons_append
def qC:=@List.append_assoc
def qD:=@if_false
def qE:=@List.getD_eq_getElem?_getD
def qF:=@Nat.lt_of_lt_of_le
def qG:=@List.append_nil
def qH:=@List.take_succ_eq_append_getElem
def qI:=@Option.isSome_iff_exists
def qJ:=@Bool.and_self
def qK:=@List.length_drop
def qL:=@List.drop_eq_getElem_cons
def qM:=@List.mem_map
def qN:=@List.getElem?_eq_some_iff
def qO:=@Nat.ble_eq
def qP:=@Nat.le_trans
def qQ:=@List.drop_eq_nil_of_le
def qR:=@List.take_append_drop
def qS:=@List.getElem?_set_ne
def qT:=@List.mem_append_right
def qU:=@Int.toNat_natCast
def qV:=@List.nil_append
def qW:=@Array.getD_eq_getD_getElem?
def qX:=@Bool.eq_false_iff
def qY:=@List.all_eq_true
def qZ:=@List.mem_append_left
def y0:=@Option.some.inj
def y6:=@List.map_cons
def y7:=@Int.natCast_add
def y8:=@List.mem_singleton
def y9:=@cond_false
def yA:=@Int.lt_irrefl
def yB:=@Option.getD_some
def yC:=@Nat.beq_refl
def yD:=@Option.bind_some
def yE:=@List.drop_zero
def yF:=@List.cons.injEq
def yG:=@Bool.eq_iff_iff
def yH:=@List.getElem_mem
def yI:=@List.length_nil
def yJ:=@List.pairwise_cons
def yK:=@decide_eq_false_iff_not
def yL:=@Nat.mul_div_cancel_left
def yM:=@Array.getElem?_toList
def yN:=@Array.length_toList
def yO:=@List.drop_left'
def yP:=@Nat.mul_le_mul_right
def yQ:=@List.getElem?_append_left
def yR:=@List.flatMap_cons
def yS:=@Bool.not_eq_true'
def yU:=@Nat.zero_add
def yV:=@List.pairwise_append
def yW:=@Bool.or_eq_true
def yX:=@List.take_left'
def yY:=@List.getElem?_cons_succ
def yZ:=@Nat.add_mul
def j5:=@List.getElem?_append_right
def j6:=@Nat.mul_mod_right
def j7:=@Nat.sub_zero
def j8:=@List.take_length
def j9:=@List.length_singleton
def jA:=@not_false_eq_true
def jB:=@List.flatMap_append
def jC:=@List.length_map
def jD:=@List.getElem?_take_of_lt
def jE:=@List.getElem?_drop
def jF:=@List.filter_append
def jG:=@List.getElem?_map
def jH:=@List.getElem_of_mem
def jI:=@Nat.succ_mul
def jJ:=@Option.isSome_some
end Go
section
namespace Go.Eng
inductive T (α:Type) where
 | leaf
 | node (l:T α) (v:Option α) (r:T α)
namespace T
variable {α:Type}
noncomputable def get (t:T α):Nat->Option α:=
 T.rec (motive:=fun _=>Nat->Option α) (fun _=>none)
  (fun _ v _ gl a n=>Bool.rec (Bool.rec (a (Nat.sub (Nat.div n 2) 1)) (gl (Nat.div n 2)) (Nat.beq (Nat.mod n 2) 1)) v (Nat.beq n 0)) t
noncomputable def setF (f:Nat):T α->Nat->α->Option (T α):=
 Nat.rec (motive:=fun _=>T α->Nat->α->Option (T α)) (fun _ _ _=>none)
  (fun _ h t n a=>T.rec (motive:=fun _=>Option (T α))
   (Bool.rec (Bool.rec
     (Option.rec none (fun r=>some (.node .leaf none r)) (h .leaf (Nat.sub (Nat.div n 2) 1) a))
     (Option.rec none (fun l=>some (.node l none .leaf)) (h .leaf (Nat.div n 2) a)) (Nat.beq (Nat.mod n 2) 1)) (some (.node .leaf (some a) .leaf)) (Nat.beq n 0))
   (fun l v r _ _=>Bool.rec (Bool.rec
     (Option.rec none (fun r=>some (.node l v r)) (h r (Nat.sub (Nat.div n 2) 1) a))
     (Option.rec none (fun l=>some (.node l v r)) (h l (Nat.div n 2) a)) (Nat.beq (Nat.mod n 2) 1)) (some (.node l (some a) r)) (Nat.beq n 0)) t) f
theorem brec (p:Prop)[Decidable p](b:Bool)(h:b=true↔p)(x y:r):Bool.rec (motive:=fun _=>r) x y b=if p then y else x:=by
 cases b with
 | true=>rw[if_pos (h.1 rfl)]
 | false=>rw[if_neg (fun hp=>by have:=h.2 hp;simp at this)]
theorem get_leaf (n:Nat):get (.leaf:T α) n=none:=rfl
theorem get_node (l:T α)(v:Option α)(r:T α)(n:Nat):
  get (.node l v r) n=if n=0 then v else if n % 2=1 then l.get (n / 2)else r.get (n / 2 - 1):=by
 show Bool.rec (motive:=fun _=>Option α) (Bool.rec (motive:=fun _=>Option α) (r.get (n / 2 - 1)) (l.get (n / 2)) (Nat.beq (n % 2) 1)) v (Nat.beq n 0)=_;rw[brec (n=0) _ (by rw[zX]),brec (n % 2=1) _ (by rw[zX])]
theorem setF_zero (t:T α)(n:Nat)(a:α):setF 0 t n a=none:=rfl
theorem setF_leaf (f:Nat)(n:Nat)(a:α):setF (f+1) .leaf n a=
  if n=0 then some (.node .leaf (some a) .leaf)
  else if n % 2=1 then(match setF f .leaf (n / 2) a with | some l=>some (.node l none .leaf) | none=>none)
  else(match setF f .leaf (n / 2 - 1) a with | some r=>some (.node .leaf none r) | none=>none):=by
 show Bool.rec (motive:=fun _=>Option (T α)) (Bool.rec (motive:=fun _=>Option (T α))
   (Option.rec (motive:=fun _=>Option (T α)) none (fun r=>some (.node .leaf none r)) (setF f .leaf (n / 2 - 1) a))
   (Option.rec (motive:=fun _=>Option (T α)) none (fun l=>some (.node l none .leaf)) (setF f .leaf (n / 2) a)) (Nat.beq (n % 2) 1)) (some (.node .leaf (some a) .leaf)) (Nat.beq n 0)=_
 rw[brec (n=0) _ (by rw[zX]),brec (n % 2=1) _ (by rw[zX])]
 cases setF f .leaf (n / 2) a<;>cases setF f .leaf (n / 2 - 1) a<;>rfl
theorem setF_node (f:Nat)(l:T α)(v:Option α)(r:T α)(n:Nat)(a:α):setF (f+1) (.node l v r) n a=
  if n=0 then some (.node l (some a) r)
  else if n % 2=1 then(match setF f l (n / 2) a with | some l'=>some (.node l' v r) | none=>none)
  else(match setF f r (n / 2 - 1) a with | some r'=>some (.node l v r') | none=>none):=by
 show Bool.rec (motive:=fun _=>Option (T α)) (Bool.rec (motive:=fun _=>Option (T α))
   (Option.rec (motive:=fun _=>Option (T α)) none (fun r=>some (.node l v r)) (setF f r (n / 2 - 1) a))
   (Option.rec (motive:=fun _=>Option (T α)) none (fun l=>some (.node l v r)) (setF f l (n / 2) a)) (Nat.beq (n % 2) 1)) (some (.node l (some a) r)) (Nat.beq n 0)=_
 rw[brec (n=0) _ (by rw[zX]),brec (n % 2=1) _ (by rw[zX])]
 cases setF f l (n / 2) a<;>cases setF f r (n / 2 - 1) a<;>rfl
theorem setF_isSome: ∀(f:Nat) (t:T α) (n:Nat) (a:α),n+1<2 ^ f->(setF f t n a).isSome=true:=by
 intro f
 induction f with
 | zero=>intro t n a h;simp at h
 | succ f ih=>
  intro t n a h;have hp:2 ^ (f+1)=2*2 ^ f:=by rw[Nat.pow_succ];omega
  have j:n % 2=1->n / 2+1<2 ^ f:=fun _=>by omega
  have m:n≠0->n % 2≠1->n / 2 - 1+1<2 ^ f:=fun _ _=>by omega
  cases t with
  | leaf=>
   rw[setF_leaf];split
   .rfl
   .rename_i i;split
    .rename_i hm;obtain⟨l,hl⟩:=qI.1 (ih .leaf (n / 2) a (j hm));rw[hl];rfl
    .rename_i hm;obtain⟨l,hl⟩:=qI.1 (ih .leaf (n / 2 - 1) a (m i hm));rw[hl];rfl
  | node l v r=>
   rw[setF_node];split
   .rfl
   .rename_i i;split
    .rename_i hm;obtain⟨l',hl⟩:=qI.1 (ih l (n / 2) a (j hm));rw[hl];rfl
    .rename_i hm;obtain⟨l',hl⟩:=qI.1 (ih r (n / 2 - 1) a (m i hm));rw[hl];rfl
theorem get_setF: ∀(f:Nat) (t:T α) (n:Nat) (a:α) (i:T α),setF f t n a=some i-> ∀m,get i m=if m=n then some a else get t m:=by
 intro f
 induction f with
 | zero=>intro t n a i h;simp[setF_zero]at h
 | succ f ih=>
  intro t n a i h m
  cases t with
  | leaf=>
   rw[setF_leaf]at h;split at h
   .simp only[zB]at h;subst h;rw[get_node];by_cases hm:m=0<;>simp_all [get_leaf]
   .split at h
    .split at h
     .rename_i l hl;simp only[zB]at h;subst h;rw[get_node,ih _ _ _ _ hl];by_cases hm:m=0
      .rw[if_pos hm,if_neg (by omega),get_leaf]
      .by_cases hp:m % 2=1
       .rw[if_neg hm,if_pos hp];by_cases e:m=n
        .rw[if_pos (by omega),if_pos e]
        .rw[if_neg (by omega),if_neg e,get_leaf,get_leaf]
       .rw[if_neg hm,if_neg hp,if_neg (by omega),get_leaf,get_leaf]
     .simp at h
    .split at h
     .rename_i r hr;simp only[zB]at h;subst h;rw[get_node,ih _ _ _ _ hr];by_cases hm:m=0
      .rw[if_pos hm,if_neg (by omega),get_leaf]
      .by_cases hp:m % 2=1
       .rw[if_neg hm,if_pos hp,if_neg (by omega),get_leaf,get_leaf]
       .rw[if_neg hm,if_neg hp];by_cases e:m=n
        .rw[if_pos (by omega),if_pos e]
        .rw[if_neg (by omega),if_neg e,get_leaf,get_leaf]
     .simp at h
  | node l v r=>
   rw[setF_node]at h;split at h
   .simp only[zB]at h;subst h;rw[get_node,get_node];by_cases hm:m=0<;>simp_all
   .split at h
    .split at h
     .rename_i l' hl;simp only[zB]at h;subst h;rw[get_node,get_node,ih _ _ _ _ hl];by_cases hm:m=0
      .rw[if_pos hm,if_neg (by omega),if_pos hm]
      .by_cases hp:m % 2=1
       .rw[if_neg hm,if_pos hp,if_neg hm,if_pos hp];by_cases e:m=n
        .rw[if_pos (by omega),if_pos e]
        .rw[if_neg (by omega),if_neg e]
       .rw[if_neg hm,if_neg hp,if_neg (by omega),if_neg hm,if_neg hp]
     .simp at h
    .split at h
     .rename_i j hr;simp only[zB]at h;subst h;rw[get_node,get_node,ih _ _ _ _ hr];by_cases hm:m=0
      .rw[if_pos hm,if_neg (by omega),if_pos hm]
      .by_cases hp:m % 2=1
       .rw[if_neg hm,if_pos hp,if_neg (by omega),if_neg hm,if_pos hp]
       .rw[if_neg hm,if_neg hp,if_neg hm,if_neg hp];by_cases e:m=n
        .rw[if_pos (by omega),if_pos e]
        .rw[if_neg (by omega),if_neg e]
     .simp at h
noncomputable def set (_f:Nat)(t:T α)(n:Nat)(a:α):Option (T α):=setF (Nat.succ (Nat.log2 (Nat.succ n))) t n a
theorem set_some (f:Nat)(t:T α)(n:Nat)(a:α):(set f t n a).isSome=true:=setF_isSome _ t n a Nat.lt_log2_self
theorem get_set (f:Nat)(t:T α)(n:Nat)(a:α)(i:T α)(h:set f t n a=some i): ∀m,get i m=if m=n then some a else get t m:=get_setF _ t n a i h
noncomputable def ofList:Nat->List α->T α->Option (T α)
 | _,[],t=>some t
 | i,x::xs,t=>match set 40 t i x with
  | some t'=>ofList (i+1) xs t'
  | none=>none
theorem get_ofList: ∀(xs:List α) (i:Nat) (t a:T α),ofList i xs t=some a-> ∀m,get a m=if i<=m/\m<i+xs.length then xs[m - i]? else get t m:=by
 intro xs
 induction xs with
 | nil=>intro i t a h m;simp[ofList]at h;subst h;simp;omega
 | cons x xs ih=>
  intro i t a h m;simp only[ofList]at h;split at h
  .rename_i t1 j;rw[ih _ _ _ h m,get_set _ _ _ _ _ j];simp only[zV];by_cases e:m=i
   .subst e;rw[if_neg (by omega),if_pos rfl,if_pos (by omega)];simp
   .by_cases f:i<=m/\m<i+(xs.length+1)
    .rw[if_pos (by omega),if_pos f,show m - i=(m - (i+1))+1 from by omega,yY]
    .rw[if_neg (by omega),if_neg e,if_neg f]
  .simp at h
end T
def pack:List UInt8->Nat
 | []=>0
 | b::bs=>b.toNat+256*pack bs
inductive AV where
 | bool (b:Bool)
 | int (k:IntKind) (n:Int)
 | str (len bits:Nat)
 | nP
 | ptr (A off:Nat)
 | nS
 | slice (A off len cap:Nat)
 | eS
 | nM
 | map (A:Nat)
 | func (fn:FuncId) (first captured:List AV)
 | yT (A:Nat)
 | nilFunc
 | iface (t:TypeId) (v:AV)
 | nilIface
 | agg (cells:List AV)
 | tuple (vs:List AV)
 | val (v:Value)
def decap (cc c:Nat):Nat:=bif (cc % 2).beq 0 then cc / 2 else c - cc / 2
abbrev Ren:=Nat->Nat->Nat->Nat->Prop
mutual
def VR (R:Ren):AV->Value->Prop
 | .bool b,v=>v= .bool b
 | .int k n,v=>v= .int k n
 | .str n b,v=> ∃s:ByteArray,v= .string s/\s.size=n/\pack s.data.toList=b
 | .nP,v=>v= .pointer none
 | .ptr A off,v=> ∃b d c,R A b d c/\v= .pointer (some ⟨b,d+off,none⟩)
 | .nS,v=>v= .slice none 0 0
 | .slice A off len cc,v=> ∃b d c,R A b d c/\v= .slice (some ⟨b,d+off,none⟩) len (decap cc c)
 | .eS,v=> ∃a c,v= .slice (some a) 0 c
 | .nM,v=>v= .map none
 | .map A,v=> ∃b d c,R A b d c/\v= .map (some b)
 | .func fn xs ys,v=> ∃xs' ys',v= .func (.func fn) ⟨xs'⟩ ⟨ys'⟩/\VRL R xs xs'/\VRL R ys ys'
 | .yT A,v=> ∃b d c,R A b d c/\v= .func (.yield b) #[] #[]
 | .nilFunc,v=>v= .nilFunc
 | .iface t x,v=> ∃x',v= .iface t x'/\VR R x x'
 | .nilIface,v=>v= .nilIface
 | .agg xs,v=> ∃xs',v= .agg ⟨xs'⟩/\VRL R xs xs'
 | .tuple xs,v=> ∃xs',v= .tuple ⟨xs'⟩/\VRL R xs xs'
 | .val x,v=>v=x
def VRL (R:Ren):List AV->List Value->Prop
 | [],l=>l=[]
 | x::xs,l=> ∃x' xs',l=x'::xs'/\VR R x x'/\VRL R xs xs'
end
def Sub (R a:Ren):Prop:= ∀A b d c,R A b d c->a A b d c
theorem Sub.refl (R:Ren):Sub R R:=fun _ _ _ _ h=>h
def jT:=@Sub.refl
theorem Sub.trans {R f a:Ren}(h:Sub R f)(k:Sub f a):Sub R a:=fun A b d c x=>k A b d c (h A b d c x)
mutual
theorem VR.mono {R R':Ren}(h:Sub R R'): ∀(x:AV) (v:Value),VR R x v->VR R' x v
 | .bool _,_,k=>k
 | .int _ _,_,k=>k
 | .str _ _,_,k=>k
 | .nP,_,k=>k
 | .ptr _ _,_,k=>by simp only[VR]at k⊢;obtain⟨b,d,c,hr,e⟩:=k;exact⟨b,d,c,h _ _ _ _ hr,e⟩
 | .nS,_,k=>k
 | .slice _ _ _ _,_,k=>by simp only[VR]at k⊢;obtain⟨b,d,c,hr,e⟩:=k;exact⟨b,d,c,h _ _ _ _ hr,e⟩
 | .eS,_,k=>k
 | .nM,_,k=>k
 | .map _,_,k=>by simp only[VR]at k⊢;obtain⟨b,d,c,hr,e⟩:=k;exact⟨b,d,c,h _ _ _ _ hr,e⟩
 | .func _ xs ys,_,k=>by simp only[VR]at k⊢;obtain⟨x,y,e,k1,k2⟩:=k;exact⟨x,y,e,VRL.mono h xs _ k1,VRL.mono h ys _ k2⟩
 | .yT _,_,k=>by simp only[VR]at k⊢;obtain⟨b,d,c,hr,e⟩:=k;exact⟨b,d,c,h _ _ _ _ hr,e⟩
 | .nilFunc,_,k=>k
 | .iface _ x,_,k=>by simp only[VR]at k⊢;obtain⟨x',e,k1⟩:=k;exact⟨x',e,VR.mono h x _ k1⟩
 | .nilIface,_,k=>k
 | .agg xs,_,k=>by simp only[VR]at k⊢;obtain⟨x',e,k1⟩:=k;exact⟨x',e,VRL.mono h xs _ k1⟩
 | .tuple xs,_,k=>by simp only[VR]at k⊢;obtain⟨x',e,k1⟩:=k;exact⟨x',e,VRL.mono h xs _ k1⟩
 | .val _,_,k=>k
theorem VRL.mono {R R':Ren}(h:Sub R R'): ∀(xs:List AV) (l:List Value),VRL R xs l->VRL R' xs l
 | [],_,k=>k
 | x::xs,_,k=>by simp only[VRL]at k⊢;obtain⟨x',l',e,k1,k2⟩:=k;exact⟨x',l',e,VR.mono h x _ k1,VRL.mono h xs _ k2⟩
end
theorem VRL.length {R:Ren} : ∀(xs:List AV) (l:List Value),VRL R xs l->l.length=xs.length
 | [],_,k=>by simp only[VRL]at k;simp[k]
 | x::xs,_,k=>by simp only[VRL]at k;obtain⟨a,l',rfl,_,k2⟩:=k;simp[VRL.length xs l' k2]
def jN:=@VRL.length
theorem VRL.get {R:Ren} : ∀(xs:List AV) (l:List Value),VRL R xs l-> ∀(i:Nat) (x:AV),xs[i]? =some x-> ∃v,l[i]? =some v/\VR R x v
 | [],_,_,i,x,h=>by simp at h
 | y::xs,_,k,i,x,h=>by
  simp only[VRL]at k;obtain⟨a,l',rfl,k1,k2⟩:=k
  cases i with
  | zero=>simp at h;subst h;exact⟨a,by simp,k1⟩
  | succ i=>simp at h⊢;exact VRL.get xs l' k2 i x h
theorem VRL.of {R:Ren} : ∀(xs:List AV) (l:List Value),l.length=xs.length->(∀(i:Nat) (x:AV) (v:Value),xs[i]? =some x->l[i]? =some v->VR R x v)->VRL R xs l
 | [],l,hl,_=>by simp only[VRL];simpa using hl
 | x::xs,[],hl,_=>by simp at hl
 | x::xs,v::l,hl,h=>by
  simp only[VRL];exact⟨v,l,rfl,h 0 x v rfl rfl,VRL.of xs l (by simpa using hl) (fun i y u a f=>h (i+1) y u (by simpa using a) (by simpa using f))⟩
theorem VRL.append {R:Ren}{xs a:List AV}{m:List Value}(h:VRL R xs I)(k:VRL R a m):VRL R (xs++a) (I++m):=by
 induction xs generalizing I with
 | nil=>simp only[VRL]at h;subst h;simpa using k
 | cons x xs ih=>simp only[VRL]at h;obtain⟨f,l',rfl,i,j⟩:=h;exact⟨f,l'++m,rfl,i,ih j⟩
theorem VRL.split {R:Ren}{xs i:List AV}(h:VRL R (xs++i) I): ∃a f,I=a++f/\VRL R xs a/\VRL R i f:=by
 induction xs generalizing I with
 | nil=>exact⟨[],I,rfl,rfl,h⟩
 | cons x xs ih=>
  obtain⟨j,l',rfl,m,o⟩:=h;obtain⟨a,f,rfl,h3,p⟩:=ih o;exact⟨j::a,f,rfl,⟨j,a,rfl,m,h3⟩,p⟩
theorem VRL.take {R:Ren}{xs:List AV}{l:List Value}(h:VRL R xs l)(n:Nat):VRL R (xs.take n) (l.take n):=by
 induction xs generalizing l n with
 | nil=>simp only[VRL]at h;subst h;simp[VRL]
 | cons x xs ih=>
  obtain⟨a,l',rfl,f,i⟩:=h
  cases n with
  | zero=>simp[VRL]
  | succ n=>exact⟨a,l'.take n,rfl,f,ih i n⟩
theorem VRL.drop {R:Ren}{xs:List AV}{l:List Value}(h:VRL R xs l)(n:Nat):VRL R (xs.drop n) (l.drop n):=by
 induction xs generalizing l n with
 | nil=>simp only[VRL]at h;subst h;simp[VRL]
 | cons x xs ih=>
  obtain⟨f,l',rfl,i,a⟩:=h
  cases n with
  | zero=>exact⟨f,l',rfl,i,a⟩
  | succ n=>exact ih a n
theorem VRL.set {R:Ren}{xs:List AV}{l:List Value}{x:AV}{v:Value}(h:VRL R xs l)(k:VR R x v)(n:Nat):VRL R (xs.set n x) (l.set n v):=by
 induction xs generalizing l n with
 | nil=>simp only[VRL]at h;subst h;simp[VRL]
 | cons y xs ih=>
  obtain⟨f,l',rfl,i,a⟩:=h
  cases n with
  | zero=>exact⟨v,l',rfl,k,a⟩
  | succ n=>exact⟨f,l'.set n v,rfl,i,ih a n⟩
theorem VRL.replicate {R:Ren}{x:AV}{v:Value}(k:VR R x v): ∀n,VRL R (List.replicate n x) (List.replicate n v)
 | 0=>rfl
 | n+1=>⟨v,List.replicate n v,rfl,k,VRL.replicate k n⟩
abbrev Env:=Nat->Option AV
def upd (env:Env)(d:Nat)(v:AV):Env:=fun t=>bif Nat.beq t d then some v else env t
theorem upd_at (env:Env)(d:Nat)(v:AV)(t:Nat):upd env d v t=if t=d then some v else env t:=by
 simp only[upd,zF,zX]
def env0:Env:=fun _=>none
structure ALoop where
 state:LoopState
 pending:Option Code
 fn:FuncId
 site:Nat
 live:List Nat
 vals:List AV
def sites:Code->List (Array Tmp×Code×Code)
 | .seq a b=>sites a++sites b
 | .cond _ a b=>sites a++sites b
 | .block _ a=>sites a
 | .loop a=>sites a
 | .scope a=>sites a
 | .rangeFunc _ ps a b=>(ps,a,b)::(sites a++sites b)
 | _=>[]
noncomputable def siteC (f:FuncId)(s:Nat):Option (Nat×Array Tmp×Code×Code):=
 match Go.Proofs.Tryz.prog.funcs[f]? with
 | some fn=>match fn.body with
  | some b=>match(sites b)[s]? with
   | some x=>some (fn.ntmps,x)
   | none=>none
  | none=>none
 | none=>none
def envA:List Nat->List AV->Env->Env
 | l::L,v::vs,e=>envA L vs (upd e l v)
 | _,_,e=>e
def envL (L:List Nat)(vs:List AV):Env:=envA L vs env0
inductive AObj where
 | cells (c:List AV) (elem:TypeId) (sz:Nat) (grow:Bool)
 | map (ks:List Nat) (es:List (AV×AV))
 | loop (l:ALoop)
 | raw (x:Obj)
 | dead
structure AH where
 h:T AObj
 next:Nat
def undefA:AV:= .tuple []
def look (env:Env)(t:Nat):Option AV:=env t
structure EnvR (R:Ren)(env:Env)(n:Nat)(tmps:Array Value):Prop where
 size:tmps.size=n
 get: ∀t x,look env t=some x->VR R x (tmps.getD t undef)
 out: ∀t,n<=t->look env t=none
def icode:IntKind->Nat
 | .i8=>3 | .i16=>4 | .i32=>5 | .i64=>6 | .u8=>7 | .u16=>8 | .u32=>9 | .u64=>10
def kcode:AV->Nat
 | .bool _=>0
 | .str _ _=>2
 | .int k _=>icode k
 | _=>1
def kcodes:List AV->List Nat->Bool
 | [],[]=>true
 | x::xs,q::qs=>Nat.beq (kcode x) q&&kcodes xs qs
 | _,_=>false
def keyOk (ks:List Nat)(k:AV):Bool:=
 match ks with
 | []=>false
 | q::qs=>bif Nat.beq q 1 then(match k with | .agg l=>kcodes l qs&& !qs.contains 1 | _=>false)else(match qs with | []=>Nat.beq (kcode k) q | _::_=>false)
def MR (R:Ren)(es:List (AV×AV))(l:List MapEntry):Prop:=
 ∃m:List MapEntry,m.Perm l/\VRL R (es.map (·.1)) (m.map (·.key))/\VRL R (es.map (·.2)) (m.map (·.val))
def Born (l:List MapEntry)(a:Nat):Prop:=(l.map (·.born)).Nodup/\ ∀e∈l,e.born<a
def tri:Nat->Nat
 | 0=>0
 | n+1=>tri n+n+1
theorem tri_lt (h:n<E):tri n+n+1<=tri E:=by
 induction E with
 | zero=>omega
 | succ E ih=>
  rcases Nat.lt_succ_iff_lt_or_eq.1 h with a | rfl
  .have:=ih a;simp only[tri];omega
  .simp[tri]
def enc (p:Nat×Nat):Nat:=tri (p.1+p.2)+p.2
theorem enc_inj {p q:Nat×Nat}(h:enc p=enc q):p=q:=by
 obtain⟨a,b⟩:=p;obtain⟨c,d⟩:=q;simp only[enc]at h;have e:a+b=c+d:=by
  rcases Nat.lt_trichotomy (a+b) (c+d)with f | f | f
  .have:=tri_lt f;omega
  .exact f
  .have:=tri_lt f;omega
 rw[e]at h;have hb:b=d:=by omega
 subst hb;have i:a=c:=by omega
 subst i;rfl
def ORel (R:Ren)(o:AObj)(d c:Nat)(x:Option Obj):Prop:=
 match o with
 | .cells l e sz g=> ∃(arr:Array Value) (f:Nat×Nat) (pre l' h:List Value),x=some (.cells arr e f)/\arr.toList=pre++(l'++h)/\pre.length=d/\VRL R l l'/\
   (g=false->h=[]/\(0<sz->f=(0,0))/\(sz=0->c=enc f))/\(g=true->l'.length+h.length=c*sz/\c<9223372036854775808)/\(0<sz-> ∀i,i<arr.size-> ¬(f.1<=i/\i<f.2))/\ ∃m,VRL R m h
 | .map ks es=> ∃(arr:Array MapEntry) (j:Nat),x=some (.map arr j)/\MR R es arr.toList/\(∀e∈es,keyOk ks e.1=true)/\es.Pairwise (fun a b=>a.1≠b.1)/\Born arr.toList j
 | .loop l=> ∃(L:Loop) (nt:Nat),x=some (.loop L)/\siteC l.fn l.site=some (nt,L.params,L.assign,L.body)/\L.state=l.state/\L.pending=l.pending/\L.fn=l.fn/\EnvR R (envL l.live l.vals) nt L.tmps
 | .raw y=>x=some y
 | .dead=>True
def Live (H:AH)(A:Nat):Prop:= ∃o,H.h.get A=some o/\(match o with | .dead=>False | _=>True)
structure Rel (R:Ren)(H:AH)(w:World):Prop where
 fn: ∀A b d c b' d' c',R A b d c->R A b' d' c'->b=b'/\d=d'/\c=c'
 inj: ∀A A' b d c d' c',R A b d c->R A' b d' c'->Live H A->Live H A'->A=A'
 obj: ∀A b d c o,R A b d c->H.h.get A=some o->ORel R o d c w.heap[b]?
 lt: ∀A b d c,R A b d c->b<w.heap.size/\A<H.next
structure Ext (R:Ren)(H:AH)(w:World)(R':Ren)(H':AH)(w':World):Prop where
 sub:Sub R R'
 new: ∀A b d c,R' A b d c->R A b d c\/w.heap.size<=b\/ ∃A0 d0 c0,R A0 b d0 c0
 newA: ∀A b d c,R' A b d c->R A b d c\/H.next<=A
 next:H.next<=H'.next
 keepA: ∀A,A<H.next->(∀b d c,¬R A b d c)->H'.h.get A=H.h.get A
 os:w'.os=w.os
 tape:w'.tape=w.tape
 output:w'.output=w.output
 size:w.heap.size<=w'.heap.size
 keep: ∀b,b<w.heap.size->(∀A d c,¬R A b d c)->w'.heap[b]? =w.heap[b]?
theorem Ext.refl (R:Ren)(H:AH)(w:World):Ext R H w R H w:=
 ⟨jT R,fun _ _ _ _ h=> .inl h,fun _ _ _ _ h=> .inl h,zK _,fun _ _ _=>rfl,rfl,rfl,rfl,zK _,fun _ _ _=>rfl⟩
def jX:=@Ext.refl
theorem Ext.trans {R j a:Ren}{H H' f:AH}{w m i:World}(h:Ext R H w j H' m)(k:Ext j H' m a f i):Ext R H w a f i where
 sub:=h.sub.trans k.sub
 new A b d c x:=by
  rcases k.new A b d c x with y | y | ⟨o,p,q,y⟩
  .exact h.new _ _ _ _ y
  .exact .inr (.inl (qP h.size y))
  .rcases h.new _ _ _ _ y with z | z | z
   .exact .inr (.inr ⟨_,_,_,z⟩)
   .exact .inr (.inl z)
   .exact .inr (.inr z)
 newA A b d c x:=by
  rcases k.newA A b d c x with y | y
  .exact h.newA _ _ _ _ y
  .exact .inr (qP h.next y)
 next:=qP h.next k.next
 keepA A hA hR:=by
  rw[k.keepA A (qF hA h.next) (fun b d c x=> ?_)]
  .exact h.keepA A hA hR
  .rcases h.newA _ _ _ _ x with y | y
   .exact hR _ _ _ y
   .omega
 os:=k.os.trans h.os
 tape:=k.tape.trans h.tape
 output:=k.output.trans h.output
 size:=qP h.size k.size
 keep b hb hR:=by
  rw[k.keep b (qF hb h.size) (fun A d c x=> ?_)]
  .exact h.keep b hb hR
  .rcases h.new _ _ _ _ x with y | y | ⟨o,p,q,y⟩
   .exact hR _ _ _ y
   .omega
   .exact hR _ _ _ y
theorem Ext.drew (R:Ren)(H:AH)(w:World)(k:Nat):Ext R H w R H { w with drawn:=k} :=
 ⟨jT R,fun _ _ _ _ h=> .inl h,fun _ _ _ _ h=> .inl h,zK _,fun _ _ _=>rfl,rfl,rfl,rfl,zK _,fun _ _ _=>rfl⟩
theorem Rel.drew {R:Ren}{H:AH}(h:Rel R H t)(k:Nat):Rel R H { t with drawn:=k} :=⟨h.fn,h.inj,h.obj,h.lt⟩
theorem EnvR.mono {R f:Ren}(h:Sub R f){env:Env}{n:Nat}{a:Array Value}(k:EnvR R env n a):EnvR f env n a:=
 ⟨k.size,fun t x i=>VR.mono h _ _ (k.get t x i),k.out⟩
theorem MR.mono {R a:Ren}(h:Sub R a){es:List (AV×AV)}{l:List MapEntry}(k:MR R es l):MR a es l:=by
 obtain⟨m,hp,f,i⟩:=k;exact⟨m,hp,VRL.mono h _ _ f,VRL.mono h _ _ i⟩
theorem ORel.mono {R j:Ren}(h:Sub R j){o:AObj}{d c:Nat}{x:Option Obj}(k:ORel R o d c x):ORel j o d c x:=by
 cases o with
 | cells l e sz g=>
  obtain⟨arr,q,pre,l',m,a,f,h3,i,h5,h6,h7,s,h8⟩:=k;exact⟨arr,q,pre,l',m,a,f,h3,VRL.mono h _ _ i,h5,h6,h7,s,VRL.mono h _ _ h8⟩
 | map ks es=>obtain⟨arr,p,a,f,h3⟩:=k;exact⟨arr,p,a,f.mono h,h3⟩
 | loop l=>
  obtain⟨L,nt,a,f,h3,i,h5,h6⟩:=k;exact⟨L,nt,a,f,h3,i,h5,h6.mono h⟩
 | raw y=>exact k
 | dead=>trivial
theorem Rel.empty (w:World):Rel (fun _ _ _ _=>False) ⟨.leaf,0⟩ w:=
 ⟨fun _ _ _ _ _ _ _ h=>h.elim,fun _ _ _ _ _ _ _ h=>h.elim,fun _ _ _ _ _ h=>h.elim,fun _ _ _ _ h=>h.elim⟩
theorem Rel.fresh {R:Ren}{H:AH}(h:Rel R H t){o:AObj}{f:T AObj}(p:T.set 40 H.h H.next o=some f):Rel R ⟨f,H.next+1⟩ t:=by
 have j:=T.get_set _ _ _ _ _ p;have i: ∀A b d c,R A b d c->A≠H.next:=fun A b d c r=>by have:=(h.lt _ _ _ _ r).2;omega
 have hl: ∀A b d c,R A b d c->Live ⟨f,H.next+1⟩ A->Live H A:=fun A b d c r ⟨o,a,hd⟩=>by
  simp only[j,if_neg (i _ _ _ _ r)]at a;exact⟨o,a,hd⟩
 exact⟨h.fn,fun A q b d c d' c' r m l l'=>h.inj A q b d c d' c' r m (hl _ _ _ _ r l) (hl _ _ _ _ m l'),
  fun A b d c o r a=>h.obj A b d c o r (by simpa only[j,if_neg (i _ _ _ _ r)]using a),
  fun A b d c r=>⟨(h.lt _ _ _ _ r).1,Nat.lt_succ_of_lt (h.lt _ _ _ _ r).2⟩⟩
def Ren.add (R:Ren)(a f h i:Nat):Ren:=fun A b d c=>R A b d c\/(A=a/\b=f/\d=h/\c=i)
theorem Ren.sub_add (R:Ren)(A b d c:Nat):Sub R (R.add A b d c):=fun _ _ _ _ h=> .inl h
theorem Ren.add_self (R:Ren)(A b d c:Nat):R.add A b d c A b d c:= .inr ⟨rfl,rfl,rfl,rfl⟩
theorem heap_alloc_old (w:World)(o:Obj)(k:Nat)(h:k<w.heap.size):(w.alloc o).heap[k]? =w.heap[k]? :=RowKit.Below.heap_alloc w o k h
theorem heap_alloc_same (w:World)(o:Obj):(w.alloc o).heap[w.heap.size]? =some o:=heap_alloc_new w o
theorem heap_alloc_size (w:World)(o:Obj):(w.alloc o).heap.size=w.heap.size+1:=by simp
theorem Rel.add {R:Ren}{H:AH}{w:World}(h:Rel R H w){A c:Nat}{o:AObj}{x:Obj}(m:H.h.get A=some o)(j:A<H.next)(i: ∀b d c,¬R A b d c)
  (p:ORel (R.add A w.heap.size 0 c) o 0 c (some x)):Rel (R.add A w.heap.size 0 c) H (w.alloc x):=by
 refine⟨?_, ?_, ?_, ?_⟩
 .rintro f b d c1 q d' c' (r | ⟨rfl,rfl,rfl,rfl⟩) (r' | ⟨e1,rfl,rfl,rfl⟩)
  .exact h.fn _ _ _ _ _ _ _ r r'
  .subst e1;exact absurd r (i _ _ _)
  .exact absurd r' (i _ _ _)
  .exact⟨rfl,rfl,rfl⟩
 .rintro f s b d c1 d' c' (r | ⟨rfl,rfl,rfl,rfl⟩) (r' | ⟨rfl,e2,rfl,rfl⟩) l l'
  .exact h.inj _ _ _ _ _ _ _ r r' l l'
  .have:=(h.lt _ _ _ _ r).1;omega
  .have:=(h.lt _ _ _ _ r').1;omega
  .rfl
 .rintro f b d c1 t (r | ⟨rfl,rfl,rfl,rfl⟩) a
  .rw[heap_alloc_old _ _ _ (h.lt _ _ _ _ r).1];exact(h.obj _ _ _ _ _ r a).mono (R.sub_add _ _ _ _)
  .rw[heap_alloc_same];rw[m]at a;injection a with a;subst a
   exact p
 .rintro f b d c1 (r | ⟨rfl,rfl,rfl,rfl⟩)
  .rw[heap_alloc_size];exact⟨Nat.lt_succ_of_lt (h.lt _ _ _ _ r).1,(h.lt _ _ _ _ r).2⟩
  .rw[heap_alloc_size];exact⟨Nat.lt_succ_self _,j⟩
theorem Ext.add {R:Ren}{H:AH}{w:World}{c:Nat}{x:Obj}{o:AObj}{a:T AObj}(f:T.set 40 H.h H.next o=some a):Ext R H w (R.add H.next w.heap.size 0 c) ⟨a,H.next+1⟩ (w.alloc x) where
 sub:=R.sub_add _ _ _ _
 new A1 b d c1:=by
  rintro(r | ⟨rfl,rfl,rfl,rfl⟩)
  .exact .inl r
  .exact .inr (.inl (zK _))
 newA A1 b d c1:=by
  rintro(r | ⟨rfl,rfl,rfl,rfl⟩)
  .exact .inl r
  .exact .inr (zK _)
 next:=Nat.le_succ _
 keepA A hA _:=by
  show a.get A=_;rw[T.get_set _ _ _ _ _ f,if_neg (by omega)]
 os:=rfl
 tape:=rfl
 output:=rfl
 size:=by rw[heap_alloc_size];omega
 keep b hb _:=heap_alloc_old _ _ _ hb
theorem Rel.new {R:Ren}{H:AH}(h:Rel R H t){c:Nat}{x:Obj}{o:AObj}{a:T AObj}(f:T.set 40 H.h H.next o=some a)(i:ORel (R.add H.next t.heap.size 0 c) o 0 c (some x)):
  Rel (R.add H.next t.heap.size 0 c) ⟨a,H.next+1⟩ (t.alloc x):=by
 refine(h.fresh f).add (o:=o) ?_ (Nat.lt_succ_self _) (fun b d c r=> ?_) i
 .show a.get _=_;rw[T.get_set _ _ _ _ _ f,if_pos rfl]
 .have:=(h.lt _ _ _ _ r).2;omega
def wput (w:World)(b:Nat)(x:Obj):World:= { w with heap:=w.heap.setIfInBounds b x}
theorem wput_same (w:World)(b:Nat)(x:Obj)(h:b<w.heap.size):(wput w b x).heap[b]? =some x:=by
 simp[wput,h]
theorem wput_other (w:World)(b k:Nat)(x:Obj)(h:k≠b):(wput w b x).heap[k]? =w.heap[k]? :=by
 simp[wput,Array.getElem?_setIfInBounds,Ne.symm h]
theorem wput_size (w:World)(b:Nat)(x:Obj):(wput w b x).heap.size=w.heap.size:=by simp[wput]
theorem Rel.put {R:Ren}{H:AH}(h:Rel R H t){b:Nat}{o':AObj}{x:Obj}{s:T AObj}(hR:R n b E j)(hl:Live H n)(F:T.set 40 H.h n o'=some s)
  (p:ORel R o' E j (some x)):Rel R ⟨s,H.next⟩ (wput t b x):=by
 have u:=T.get_set _ _ _ _ _ F;have m: ∀q,Live ⟨s,H.next⟩ q->q≠n->Live H q:=fun q ⟨o,p,hd⟩ hne=>by
  simp only[u,if_neg hne]at p;exact⟨o,p,hd⟩
 refine⟨h.fn, ?_, ?_, ?_⟩
 .intro i v b1 y c1 J c2 r w l l';by_cases f:i=n
  .by_cases A:v=n
   .rw[f,A]
   .subst f;exact h.inj _ _ _ _ _ _ _ r w hl (m _ l' A)
  .by_cases A:v=n
   .subst A;exact h.inj _ _ _ _ _ _ _ r w (m _ l f) hl
   .exact h.inj _ _ _ _ _ _ _ r w (m _ l f) (m _ l' A)
 .intro i b1 y c1 G r a;simp only[u]at a;by_cases f:i=n
  .subst f;obtain⟨rfl,rfl,rfl⟩:=h.fn _ _ _ _ _ _ _ r hR;rw[if_pos rfl]at a;injection a with a;subst a
   rw[wput_same _ _ _ (h.lt _ _ _ _ r).1];exact p
  .rw[if_neg f]at a;by_cases z:b1=b
   .subst z;have C: ¬Live H i:=fun I=>f (h.inj _ _ _ _ _ _ _ r hR I hl)
    cases G with
    | dead=>trivial
    | _=>exact absurd ⟨_,a,trivial⟩ C
   .rw[wput_other _ _ _ _ z];exact h.obj _ _ _ _ _ r a
 .intro i b1 y c1 r;rw[wput_size];exact h.lt _ _ _ _ r
theorem Ext.put {R:Ren}{H:AH}{b:Nat}{x:Obj}{o':AObj}{a:T AObj}(hR:R n b E j)(f:T.set 40 H.h n o'=some a):Ext R H t R ⟨a,H.next⟩ (wput t b x) where
 sub:=jT R
 new _ _ _ _ h:= .inl h
 newA _ _ _ _ h:= .inl h
 next:=zK _
 keepA A1 _ hk:=by
  show a.get A1=_;rw[T.get_set _ _ _ _ _ f,if_neg (fun e=>by subst e;exact hk _ _ _ hR)]
 os:=rfl
 tape:=rfl
 output:=rfl
 size:=by rw[wput_size];omega
 keep k _ hk:=wput_other _ _ _ _ (fun e=>by subst e;exact hk _ _ _ hR)
section
variable {P:Program}{fr:Frame}{cs:List Frame}{w:World}{k:List Item}
theorem st_skip (hm:fr.mode= .run)(a:fr.todo= .code .skip::k):step P (lone fr cs w)= .next (lone { fr with todo:=k} cs w):=
 step_lone_go (by simp[stepG,stepG.exec,hm,a])
theorem st_label (hm:fr.mode= .run)(a:fr.todo= .code (.label n)::k):step P (lone fr cs w)= .next (lone { fr with todo:=k} cs w):=
 step_lone_go (by simp[stepG,stepG.exec,hm,a])
theorem st_inBlock (hm:fr.mode= .run)(a:fr.todo= .inBlock n::k):step P (lone fr cs w)= .next (lone { fr with todo:=k} cs w):=
 step_lone_go (by simp[stepG,stepG.exec,hm,a])
theorem st_seq {b:Code}(hm:fr.mode= .run)(f:fr.todo= .code (.seq V b)::k):step P (lone fr cs w)= .next (lone { fr with todo:= .code V:: .code b::k} cs w):=
 step_lone_go (by simp[stepG,stepG.exec,hm,f])
theorem st_cond {b:Code}{t:Bool}(hm:fr.mode= .run)(f:fr.todo= .code (.cond m V b)::k)(h:fr.eval m= .bool t):
  step P (lone fr cs w)= .next (lone { fr with todo:= .code (if t then V else b)::k} cs w):=
 step_lone_go (by simp[stepG,stepG.exec,hm,f,h])
theorem st_block (hm:fr.mode= .run)(a:fr.todo= .code (.block n V)::k):step P (lone fr cs w)= .next (lone { fr with todo:= .code V:: .inBlock n::k} cs w):=
 step_lone_go (by simp[stepG,stepG.exec,hm,a])
theorem st_loop (hm:fr.mode= .run)(a:fr.todo= .code (.loop V)::k):step P (lone fr cs w)= .next (lone { fr with todo:= .code V:: .inLoop V::k} cs w):=
 step_lone_go (by simp[stepG,stepG.exec,hm,a])
theorem st_inLoop (hm:fr.mode= .run)(a:fr.todo= .inLoop V::k):step P (lone fr cs w)= .next (lone { fr with todo:= .code V:: .inLoop V::k} cs w):=
 step_lone_go (by simp[stepG,stepG.exec,hm,a])
theorem st_exit {k':List Item}(hm:fr.mode= .run)(a:fr.todo= .code (.exit n)::k)(f:exitTo n k=some k'):step P (lone fr cs w)= .next (lone { fr with todo:=k'} cs w):=
 step_lone_go (by simp[stepG,stepG.exec,hm,a,f])
theorem st_ret (hm:fr.mode= .run)(hr:fr.roundOf=none)(a:fr.todo= .code .ret::k):step P (lone fr cs w)= .next (lone { fr with mode:= .returning} cs w):=
 step_lone_go (by simp[stepG,stepG.exec,hm,a,hr])
theorem st_end (hm:fr.mode= .run)(hr:fr.roundOf=none)(a:fr.todo=[]):step P (lone fr cs w)= .next (lone { fr with mode:= .returning} cs w):=
 step_lone_go (by simp[stepG,stepG.exec,hm,a,hr])
theorem st_region (hm:fr.mode= .run)(a:fr.todo= .code (.region n p false)::k):
  step P (lone fr cs w)= .next (lone { fr with todo:= .inRegion p (List.range p.size)::k} cs w):=
 step_lone_go (by simp[stepG,stepG.exec,hm,a])
theorem st_draw (hm:fr.mode= .run)(a:fr.todo= .code (.region n p true)::k):
  step P (lone fr cs w)= .next (lone { fr with todo:= .inRegion p (Region.schedule (P.follows .mixedOrders) p (w.tape w.drawn (.order fr.fn n)))::k} cs { w with drawn:=w.drawn+1}):=
 step_lone_go (by simp[stepG,stepG.exec,hm,a,choose,Sem.run,Question.forced,Question.cut])
theorem st_region_end (hm:fr.mode= .run)(a:fr.todo= .inRegion p []::k):step P (lone fr cs w)= .next (lone { fr with todo:=k} cs w):=
 step_lone_go (by simp[stepG,stepG.exec,hm,a])
def putT (t:Array Value):Option Tmp->Value->Array Value
 | some d,v=>t.setIfInBounds d v
 | none,_=>t
theorem finish_region (a:fr.todo= .inRegion p (n::v)::k)(f:p[n]? =some D)(ops:Value):
  fr.finish ops= { fr with tmps:=putT fr.tmps D.dst ops,todo:= .inRegion p v::k} :=by
 cases h:D.dst<;>simp[Frame.finish,a,f,h,putT]
theorem st_passed (hm:fr.mode= .run)(a:fr.todo= .inRegion p (n::v)::k)(f:p[n]? =some D)
  (h:Region.wanted D (yielded p fr.tmps)=false):step P (lone fr cs w)= .next (lone (fr.finish undef) cs w):=
 step_lone_go (by simp[stepG,stepG.exec,hm,a,f,h])
theorem st_op (hm:fr.mode= .run)(a:fr.todo= .inRegion p (n::v)::k)(f:p[n]? =some D)
  (j:Region.wanted D (yielded p fr.tmps)=true) (hd: ∀c,D.op≠ .defer c):
  stepG P true { frame:=fr,callers:=cs,status:= .running,dying:=none} w=stepG.apply P true fr cs none (execOp fr.eval D) w:=by
 have m:stepG P true { frame:=fr,callers:=cs,status:= .running,dying:=none} w=stepG.oper P true fr cs none w:=by
  simp[stepG,stepG.exec,hm,a,f,j]
 rw[m];simp only[stepG.oper,Frame.oper?,a,f];split
 .rename_i l c _ h;exact absurd h (hd c)
 .rfl
theorem st_value (hm:fr.mode= .run)(f:fr.todo= .inRegion p (n::v)::k)(h:p[n]? =some D)
  (j:Region.wanted D (yielded p fr.tmps)=true) (hd: ∀c,D.op≠ .defer c) (hr:(execOp fr.eval D).run P w= .ok (.value i) t):
  step P (lone fr cs w)= .next (lone (fr.finish i) cs t):=
 step_lone_go (by rw[st_op hm f h j hd];simp[stepG.apply,Sem.runT_eq,hr])
theorem st_skipped (hm:fr.mode= .run)(f:fr.todo= .inRegion p (n::v)::k)(h:p[n]? =some D)
  (j:Region.wanted D (yielded p fr.tmps)=true) (hd: ∀c,D.op≠ .defer c) (hr:(execOp fr.eval D).run P w= .ok .skip t):
  step P (lone fr cs w)= .next (lone (fr.finish undef) cs t):=
 step_lone_go (by rw[st_op hm f h j hd];simp[stepG.apply,Sem.runT_eq,hr])
theorem st_enter {f:FuncId}(hm:fr.mode= .run)(h:fr.todo= .inRegion p (n::v)::k)(j:p[n]? =some D)
  (m:Region.wanted D (yielded p fr.tmps)=true) (hd: ∀c,D.op≠ .defer c) (hr:(execOp fr.eval D).run P w= .ok (.enter f G) t):
  step P (lone fr cs w)= .next (lone (Frame.enter P f G .normal) (fr::cs) t):=
 step_lone_go (by rw[st_op hm h j m hd];simp[stepG.apply,Sem.runT_eq,hr,h])
theorem st_round {body:Code}(hm:fr.mode= .run)(m:fr.todo= .inRegion p (n::v)::k)(ops:p[n]? =some D)
  (q:Region.wanted D (yielded p fr.tmps)=true) (hd: ∀c,D.op≠ .defer c) (hr:(execOp fr.eval D).run P w= .ok (.round E j G V body) t):
  step P (lone fr cs w)= .next (lone (Frame.round E j G V body .normal) (fr::cs) t):=
 step_lone_go (by rw[st_op hm m ops q hd];simp[stepG.apply,Sem.runT_eq,hr])
end
end Go.Eng
end
section
noncomputable section
namespace Go.Eng
structure Cx where
 ty:T TypeInfo
 fl:List (TypeId×List Nat)
def Cx.und (X:Cx)(t:TypeId):Option TypeDesc:=
 match X.ty.get t with
 | some i=>match i.desc with
  | .named _ u=>match X.ty.get u with
   | some j=>some j.desc
   | none=>none
  | d=>some d
 | none=>none
def Cx.size (X:Cx)(t:TypeId):Option Nat:=
 match X.ty.get t with
 | some i=>some i.size
 | none=>none
mutual
def ofV:Value->Option AV
 | .bool b=>some (.bool b)
 | .int k n=>some (.int k n)
 | .string s=>some (.str s.data.toList.length (pack s.data.toList))
 | .pointer none=>some .nP
 | .slice none 0 0=>some .nS
 | .map none=>some .nM
 | .nilFunc=>some .nilFunc
 | .nilIface=>some .nilIface
 | .agg a=>match ofVA a with | some l=>some (.agg l) | none=>none
 | .tuple a=>match ofVA a with | some l=>some (.tuple l) | none=>none
 | _=>none
def ofVA:Array Value->Option (List AV)
 | ⟨l⟩=>ofVL l
def ofVL:List Value->Option (List AV)
 | []=>some []
 | v::l=>match ofV v,ofVL l with
  | some x,some xs=>some (x::xs)
  | _,_=>none
end
def opd (env:Env):Operand->Option AV
 | .tmp t=>look env t
 | .const v=>ofV v
 | .func f=>some (.func f [] [])
 | .global _=>none
def opds (env:Env):List Operand->Option (List AV)
 | []=>some []
 | x::xs=>match opd env x,opds env xs with
  | some v,some vs=>some (v::vs)
  | _,_=>none
def cellsA:AV->List AV
 | .agg l=>l
 | .val v=>v.cells.toList.map AV.val
 | v=>[v]
def isCell:AV->Bool
 | .agg _=>false
 | .val _=>false
 | .tuple _=>false
 | _=>true
def allCells:List AV->Bool
 | []=>true
 | v::l=>isCell v&&allCells l
def isAggD:TypeDesc->Bool
 | .struct _=>true
 | .array _ _=>true
 | _=>false
def takeN:Nat->List AV->Option (List AV)
 | 0,_=>some []
 | n+1,x::xs=>match takeN n xs with | some r=>some (x::r) | none=>none
 | _+1,[]=>none
def subN:List AV->Nat->Nat->Option (List AV)
 | l,0,n=>takeN n l
 | _::l,o+1,n=>subN l o n
 | [],_+1,n=>bif n.beq 0 then some []else none
def nth:List AV->Nat->Option AV
 | x::_,0=>some x
 | _::l,n+1=>nth l n
 | [],_=>none
def over:List AV->List AV->Option (List AV)
 | l,[]=>some l
 | _::l,y::ys=>match over l ys with | some r=>some (y::r) | none=>none
 | [],_::_=>none
def setAt:List AV->Nat->List AV->Option (List AV)
 | l,0,new=>over l new
 | x::l,n+1,new=>match setAt l n new with | some r=>some (x::r) | none=>none
 | [],_+1,_=>none
def lenL:List AV->Nat->Nat
 | [],n=>n
 | _::l,n=>lenL l (Nat.succ n)
def rep:Nat->List AV->List AV
 | 0,_=>[]
 | n+1,z=>z++rep n z
def zeroA (X:Cx)(t:TypeId):Option AV:=
 match X.ty.get t with
 | some i=>match i.zero with | some z=>ofV z | none=>none
 | none=>none
def newA0 (H:AH)(o:AObj):Option (Nat×AH):=
 match T.set 40 H.h H.next o with
 | some t=>some (H.next,⟨t,H.next+1⟩)
 | none=>none
def newA (H:AH)(o:AObj):Option (Nat×AH):=
 match T.get H.h H.next with
 | none=>newA0 H o
 | some _=>none
theorem newA_eq {H H':AH}{o:AObj}(h:newA H o=some (n,H')): ∃a,T.set 40 H.h H.next o=some a/\n=H.next/\H'=⟨a,H.next+1⟩/\T.get H.h H.next=none:=by
 unfold newA at h;split at h
 .rename_i f;unfold newA0 at h;split at h
  .rename_i t i;simp only[zB,zQ]at h;exact⟨t,i,h.1.symm,h.2.symm,f⟩
  .simp at h
 .simp at h
def putA (H:AH)(A:Nat)(o:AObj):Option AH:=
 match T.set 40 H.h A o with
 | some t=>some ⟨t,H.next⟩
 | none=>none
def fillA (a:Nat->Option (Nat×Nat))(cells:List AV):List (Nat×AV)->Option (List AV)
 | []=>some cells
 | (i,v)::rest=>
  match a i with
  | none=>none
  | some (off,size)=>
   bif (lenL (cellsA v) 0).beq size then
    match setAt cells off (cellsA v)with
    | some cells'=>fillA a cells' rest
    | none=>none
   else none
def placesA (X:Cx):List Field->Option (List (Nat×Nat))
 | []=>some []
 | f::fs=>match X.size f.type,placesA X fs with
  | some n,some r=>some ((f.offset,n)::r)
  | _,_=>none
def nthP:List (Nat×Nat)->Nat->Option (Nat×Nat)
 | x::_,0=>some x
 | _::l,n+1=>nthP l n
 | [],_=>none
def partsA (env:Env):List (Nat×Operand)->Option (List (Nat×AV))
 | []=>some []
 | (i,x)::r=>match opd env x,partsA env r with
  | some v,some vs=>some ((i,v)::vs)
  | _,_=>none
def kmod:IntKind->Nat
 | .i8 | .u8=>256
 | .i16 | .u16=>65536
 | .i32 | .u32=>4294967296
 | .i64 | .u64=>18446744073709551616
def khalf:IntKind->Nat
 | .i8 | .u8=>128
 | .i16 | .u16=>32768
 | .i32 | .u32=>2147483648
 | .i64 | .u64=>9223372036854775808
def fwrap (k:IntKind):Int->Int
 | .ofNat m=>bif k.signed then(bif Nat.blt m (khalf k)then .ofNat m else k.wrap (.ofNat m))else .ofNat (m % kmod k)
 | .negSucc m=>bif k.signed&&Nat.blt m (khalf k)then .negSucc m else k.wrap (.negSucc m)
def ilt:Int->Int->Bool
 | .ofNat m, .ofNat n=>Nat.blt m n
 | .ofNat _, .negSucc _=>false
 | .negSucc _, .ofNat _=>true
 | .negSucc m, .negSucc n=>Nat.blt n m
def ieq:Int->Int->Bool
 | .ofNat m, .ofNat n=>Nat.beq m n
 | .negSucc m, .negSucc n=>Nat.beq m n
 | _,_=>false
def keq:IntKind->IntKind->Bool
 | .i8, .i8 | .i16, .i16 | .i32, .i32 | .i64, .i64 | .u8, .u8 | .u16, .u16 | .u32, .u32 | .u64, .u64=>true
 | _,_=>false
def fN {α:Type}(n:Nat)(k:Nat->α):α:=Nat.rec (k 0) (fun m _=>k (Nat.succ m)) n
def fI {α:Type}(n:Int)(k:Int->α):α:=
 match n with
 | .ofNat m=>fN m fun m=>k (.ofNat m)
 | .negSucc m=>fN m fun m=>k (.negSucc m)
def mkI (k:IntKind)(n:Int):Option AV:=fI (fwrap k n) fun n=>some (.int k n)
def mkB (b:Bool):Option AV:=match b with | true=>some (.bool true) | false=>some (.bool false)
def mkS (len a:Nat):Option AV:=fN len fun len=>fN a fun a=>some (.str len a)
def sless:Nat->Nat->Nat->Nat->Bool
 | _,_,0,_=>false
 | 0,_,_+1,_=>true
 | l+1,b,m+1,c=>Nat.blt (b % 256) (c % 256)||(Nat.beq (b % 256) (c % 256)&&sless l (b / 256) m (c / 256))
def abits (f:BinOp)(k:IntKind)(a b:Int):Option AV:=
 match f,a,b with
 | .and, .ofNat m, .ofNat n=>bif !k.signed&&Nat.blt m (kmod k)&&Nat.blt n (kmod k)then mkI k (.ofNat (Nat.land m n))else slow
 | .or, .ofNat m, .ofNat n=>bif !k.signed&&Nat.blt m (kmod k)&&Nat.blt n (kmod k)then mkI k (.ofNat (Nat.lor m n))else slow
 | .xor, .ofNat m, .ofNat n=>bif !k.signed&&Nat.blt m (kmod k)&&Nat.blt n (kmod k)then mkI k (.ofNat (Nat.xor m n))else slow
 | _,_,_=>slow
where slow:Option AV:=
 match f with
 | .and=>fI (k.wrap (BitVec.ofInt k.bits a&&& BitVec.ofInt k.bits b).toNat) fun n=>some (.int k n)
 | .or=>fI (k.wrap (BitVec.ofInt k.bits a||| BitVec.ofInt k.bits b).toNat) fun n=>some (.int k n)
 | .xor=>fI (k.wrap (BitVec.ofInt k.bits a ^^^ BitVec.ofInt k.bits b).toNat) fun n=>some (.int k n)
 | .andNot=>fI (k.wrap (BitVec.ofInt k.bits a&&& ~~~ BitVec.ofInt k.bits b).toNat) fun n=>some (.int k n)
 | _=>none
def abinI (f:BinOp)(k:IntKind)(a:Int)(k':IntKind)(b:Int):Option AV:=
 match f with
 | .shl=>match b with
  | .ofNat n=>mkI k (a*(2 ^ (Nat.min n k.bits):Nat))
  | .negSucc _=>none
 | .shr=>match b with
  | .ofNat n=>fI (a.fdiv ((2 ^ (Nat.min n k.bits):Nat):Int)) fun r=>some (.int k r)
  | .negSucc _=>none
 | _=>bif keq k k' then
   match f with
   | .add=>mkI k (a+b)
   | .sub=>mkI k (a - b)
   | .mul=>mkI k (a*b)
   | .quo=>bif ieq b 0 then none else mkI k (a.tdiv b)
   | .rem=>bif ieq b 0 then none else fI (a.tmod b) fun r=>some (.int k r)
   | .and | .or | .xor | .andNot=>abits f k a b
   | .eql=>mkB (ieq a b)
   | .neq=>mkB (!ieq a b)
   | .lss=>mkB (ilt a b)
   | .leq=>mkB (!ilt b a)
   | .gtr=>mkB (ilt b a)
   | .geq=>mkB (!ilt a b)
   | _=>none
  else none
def abinS (a:BinOp)(l b m c:Nat):Option AV:=
 match a with
 | .add=>bif Nat.blt (l+m) 4611686018427387904 then mkS (l+m) (b+c*2 ^ (8*l))else none
 | .eql=>mkB (Nat.beq l m&&Nat.beq b c)
 | .neq=>mkB !(Nat.beq l m&&Nat.beq b c)
 | .lss=>mkB (sless l b m c)
 | .leq=>mkB (sless l b m c||(Nat.beq l m&&Nat.beq b c))
 | .gtr=>mkB !(sless l b m c||(Nat.beq l m&&Nat.beq b c))
 | .geq=>mkB !(sless l b m c)
 | _=>none
def aeq (X:Cx):Nat->TypeId->AV->AV->Option Bool
 | 0,_,_,_=>none
 | d+1,t,x,y=>
  match X.und t with
  | some .bool=>match x,y with
   | .bool a, .bool b=>some (a==b)
   | _,_=>none
  | some (.int _)=>match x,y with
   | .int k a, .int k' b=>bif keq k k' then some (ieq a b)else none
   | _,_=>none
  | some .string=>match x,y with
   | .str l b, .str m c=>some (Nat.beq l m&&Nat.beq b c)
   | _,_=>none
  | some (.pointer e)=>match x,y with
   | .nP, .nP=>some true
   | .nP, .ptr _ _=>some false
   | .ptr _ _, .nP=>some false
   | .ptr A o, .ptr B p=>match X.size e with
    | some 0=>none
    | some _=>bif Nat.beq A B then some (Nat.beq o p)else none
    | none=>none
   | _,_=>none
  | some (.slice _)=>match x,y with
   | .nS, .nS=>some true
   | .nS, .slice _ _ _ _=>some false
   | .slice _ _ _ _, .nS=>some false
   | _,_=>none
  | some (.map _ _)=>match x,y with
   | .nM, .nM=>some true
   | .nM, .map _=>some false
   | .map _, .nM=>some false
   | _,_=>none
  | some (.func _ _ _)=>match x,y with
   | .nilFunc, .nilFunc=>some true
   | .nilFunc, .func _ _ _=>some false
   | .func _ _ _, .nilFunc=>some false
   | _,_=>none
  | _=>none
def cellEq (q:Nat)(x y:AV):Option Bool:=
 match x,y with
 | .bool a, .bool b=>bif Nat.beq q 0 then some (a==b)else none
 | .int k a, .int k' b=>bif Nat.beq q (icode k)&&keq k k' then some (ieq a b)else none
 | .str l b, .str m c=>bif Nat.beq q 2 then some (Nat.beq l m&&Nat.beq b c)else none
 | _,_=>none
def cellsEq:List Nat->List AV->List AV->Option Bool
 | [],[],[]=>some true
 | q::qs,x::xs,y::ys=>match cellEq q x y with
  | some true=>cellsEq qs xs ys
  | some false=>some false
  | none=>none
 | _,_,_=>none
def flOf (t:Nat):List (TypeId×List Nat)->Option (List Nat)
 | []=>none
 | (i,qs)::l=>bif Nat.beq i t then some qs else flOf t l
def abinG (X:Cx)(f:BinOp)(t:TypeId)(a b:List AV):Option AV:=
 match flOf t X.fl with
 | some qs=>bif Nat.beq (lenL a 0) (lenL b 0)&&Nat.beq qs.length (lenL a 0)then
   match cellsEq qs a b with
   | some r=>match f with
    | .eql=>mkB r
    | .neq=>mkB !r
    | _=>none
   | none=>none
  else none
 | none=>none
def eqable:AV->Bool
 | .int _ _=>false
 | .str _ _=>false
 | .agg _=>false
 | .nilIface=>false
 | .iface _ _=>false
 | .tuple _=>false
 | .val _=>false
 | _=>true
def abinE (X:Cx)(a:BinOp)(t:TypeId)(x y:AV):Option AV:=
 match a with
 | .eql=>match aeq X 9 t x y with | some b=>mkB b | none=>none
 | .neq=>match aeq X 9 t x y with | some b=>mkB !b | none=>none
 | _=>none
def abin (X:Cx)(f:BinOp)(t:TypeId)(x y:AV):Option AV:=
 match x,y with
 | .int k a, .int k' b=>abinI f k a k' b
 | .str l b, .str m c=>abinS f l b m c
 | .agg a, .agg b=>abinG X f t a b
 | x,y=>bif eqable x then abinE X f t x y else none
def aun (a:UnOp)(x:AV):Option AV:=
 match a,x with
 | .neg, .int k n=>mkI k (0 - n)
 | .not, .bool b=>mkB !b
 | _,_=>none
def aload (X:Cx)(t:TypeId)(p:AV)(H:AH):Option AV:=
 match p with
 | .ptr A off=>match H.h.get A with
  | some (.cells l _ _ _)=>match X.und t with
   | some d=>bif isAggD d then
     match X.size t with
     | some n=>match subN l off n with | some c=>some (.agg c) | none=>none
     | none=>none
    else nth l off
   | none=>none
  | _=>none
 | _=>none
def astore (X:Cx)(t:TypeId)(p x:AV)(H:AH):Option AH:=
 match p with
 | .ptr A off=>match H.h.get A with
  | some (.cells l e sz g)=>match X.size t with
   | some n=>bif (lenL (cellsA x) 0).beq n&&allCells (cellsA x)&&Nat.blt 0 sz then
     match setAt l off (cellsA x)with
     | some l'=>putA H A (.cells l' e sz g)
     | none=>none
    else none
   | none=>none
  | _=>none
 | _=>none
def bytesOf:Nat->Nat->List AV
 | 0,_=>[]
 | l+1,b=> .int .u8 (.ofNat (b % 256))::bytesOf l (b / 256)
def textOf:List AV->Option (Nat×Nat)
 | []=>some (0,0)
 | .int .u8 (.ofNat m)::l=>bif Nat.blt m 256 then
   match textOf l with
   | some (n,b)=>fN n fun n=>fN b fun b=>some (n+1,m+256*b)
   | none=>none
  else none
 | _=>none
def aconvP (X:Cx)(a dst:TypeId)(x:AV):Option AV:=
 match X.und a with
 | none=>none
 | some ds=>match X.und dst with
  | some (.int k)=>match x with
   | .int _ n=>mkI k n
   | _=>none
  | some .string=>match ds,x with
   | .string, .str l b=>some (.str l b)
   | _,_=>none
  | _=>none
def aconvL (X:Cx)(a dst:TypeId)(x:AV)(H:AH):Option AV:=
 match X.und a with
 | some (.slice e)=>match X.und dst with
  | some .string=>match X.und e with
   | some (.int .u8)=>match x with
    | .nS=>some (.str 0 0)
    | .slice A off len _=>match H.h.get A with
     | some (.cells l _ _ _)=>match subN l off len with
      | some c=>match textOf c with
       | some (n,b)=>mkS n b
       | none=>none
      | none=>none
     | _=>none
    | _=>none
   | _=>none
  | _=>none
 | _=>none
def aconvA (X:Cx)(a dst:TypeId)(x:AV):Option (AObj×(Nat->AV)):=
 match X.und a with
 | some .string=>match X.und dst with
  | some (.slice e)=>match X.und e with
   | some (.int .u8)=>match x with
    | .str l b=>bif Nat.blt l 4611686018427387904 then some (.cells (bytesOf l b) e 1 true,fun A=> .slice A 0 l 1)else none
    | _=>none
   | _=>none
  | _=>none
 | _=>none
def natOf:AV->Option Nat
 | .int _ (.ofNat n)=>some n
 | _=>none
def natOpt:Option AV->Option (Option Nat)
 | none=>some none
 | some v=>match natOf v with | some n=>some (some n) | none=>none
def acutS (len a:Nat)(lo hi:Option Nat):Option AV:=
 let l:=lo.getD 0
 let h:=hi.getD len
 bif Nat.ble h len&&Nat.ble l h then mkS (h - l) ((a / 2 ^ (8*l)) % 2 ^ (8*(h - l)))else none
def acut (A off len cc sz room:Nat)(lo hi a:Option Nat):Option AV:=
 let l:=lo.getD 0
 let h:=hi.getD len
 match a with
 | some m=>match hi with
  | some h=>
   bif Nat.ble m room&&Nat.ble h m&&Nat.ble l h then
    fN (bif m.beq l then off else off+l*sz) fun o=>fN (h - l) fun n=>fN (2*(m - l)) fun c=>some (.slice A o n c)
   else none
  | none=>none
 | none=>
  bif Nat.ble h room&&Nat.ble l h then
   bif (cc % 2).beq 0 then
    fN (bif (cc / 2).beq l then off else off+l*sz) fun o=>fN (h - l) fun n=>fN (2*(cc / 2 - l)) fun c=>some (.slice A o n c)
   else
    bif l.beq 0 then fN h fun n=>some (.slice A off n cc)
    else bif Nat.blt l h then fN (off+l*sz) fun o=>fN (h - l) fun n=>fN (cc+2*l) fun c=>some (.slice A o n c)
    else some .eS
  else none
def roomOf (l:List AV)(g:Bool)(a off cc sz:Nat):Nat:=
 bif (cc % 2).beq 0 then cc / 2 else bif g&&Nat.beq a sz&&Nat.beq off (cc / 2*sz)then(lenL l 0 - off) / sz else 0
def aslice (X:Cx)(t:TypeId)(x:AV)(lo hi a:Option AV)(H:AH):Option AV:=
 match natOpt lo,natOpt hi,natOpt a with
 | some lo,some hi,some a=>
  match X.und t,x with
  | some .string, .str len bits=>match a with | none=>acutS len bits lo hi | some _=>none
  | some (.slice e), .nS=>match X.size e with
   | some _=>bif (lo.getD 0).beq 0&&(hi.getD 0).beq 0&&(a.getD 0).beq 0&&(a.isNone||hi.isSome)then some .nS else none
   | none=>none
  | some (.slice e), .slice A off len cc=>match X.size e with
   | some sz=>match H.h.get A with
    | some (.cells l _ sz' g)=>bif Nat.blt 0 sz then acut A off len cc sz (roomOf l g sz' off cc sz) lo hi a else none
    | _=>none
   | none=>none
  | some (.slice e), .eS=>match X.size e with
   | some _=>match a with
    | none=>bif (lo.getD 0).beq 0&&(hi.getD 0).beq 0 then some .eS else none
    | some _=>none
   | none=>none
  | some (.array n e), .ptr A off=>match X.size e with
   | some sz=>bif Nat.blt 0 sz then acut A off n (2*n) sz n lo hi a else none
   | none=>none
  | some (.pointer arr), .ptr A off=>match X.und arr with
   | some (.array n e)=>match X.size e with
    | some sz=>bif Nat.blt 0 sz then acut A off n (2*n) sz n lo hi a else none
    | none=>none
   | _=>none
  | _,_=>none
 | _,_,_=>none
def aindexAddr (X:Cx)(t:TypeId)(x a:AV):Option AV:=
 match natOf a with
 | some i=>match X.und t,x with
  | some (.array n e), .ptr A off=>match X.size e with
   | some sz=>bif Nat.blt i n then fN (off+i*sz) fun o=>some (.ptr A o)else none
   | none=>none
  | some (.slice e), .slice A off len _=>match X.size e with
   | some sz=>bif Nat.blt i len then fN (off+i*sz) fun o=>some (.ptr A o)else none
   | none=>none
  | _,_=>none
 | none=>none
def aindex (X:Cx)(t:TypeId)(x a:AV):Option AV:=
 match natOf a with
 | some i=>match X.und t,x with
  | some .string, .str len bits=>bif Nat.blt i len then fN ((bits / 2 ^ (8*i)) % 256) fun b=>some (.int .u8 (.ofNat b))else none
  | some (.array n e), .agg cs=>match X.und e,X.size e with
   | some d,some sz=>bif Nat.blt i n then
     bif isAggD d then match subN cs (i*sz) sz with | some c=>some (.agg c) | none=>none
     else nth cs (i*sz)
    else none
   | _,_=>none
  | _,_=>none
 | none=>none
def nthF:List Field->Nat->Option Field
 | x::_,0=>some x
 | _::l,n+1=>nthF l n
 | [],_=>none
def afield (X:Cx)(t:TypeId)(x:AV)(f:Nat):Option AV:=
 match X.und t,x with
 | some (.struct fs), .agg cs=>match nthF fs.toList f with
  | some fl=>match X.und fl.type,X.size fl.type with
   | some d,some n=>bif isAggD d then match subN cs fl.offset n with | some c=>some (.agg c) | none=>none
     else nth cs fl.offset
   | _,_=>none
  | none=>none
 | _,_=>none
def afieldAddr (X:Cx)(s:TypeId)(x:AV)(f:Nat):Option AV:=
 match X.und s,x with
 | some (.struct fs), .ptr A off=>match nthF fs.toList f with
  | some fl=>match X.size fl.type with
   | some 0=>none
   | some _=>fN (off+fl.offset) fun o=>some (.ptr A o)
   | none=>none
  | none=>none
 | _,_=>none
def alen (X:Cx)(t:TypeId)(x:AV)(H:AH):Option AV:=
 match X.und t,x with
 | some .string, .str l _=>some (.int .i64 (.ofNat l))
 | some (.slice _), .nS=>some (.int .i64 0)
 | some (.slice _), .slice _ _ n _=>some (.int .i64 (.ofNat n))
 | some (.slice _), .eS=>some (.int .i64 0)
 | some (.array n _),_=>some (.int .i64 (.ofNat n))
 | some (.map _ _), .nM=>some (.int .i64 0)
 | some (.map _ _), .map A=>match H.h.get A with
  | some (.map _ es)=>some (.int .i64 (.ofNat es.length))
  | _=>none
 | _,_=>none
def acap (X:Cx)(t:TypeId)(x:AV):Option AV:=
 match X.und t,x with
 | some (.slice _), .nS=>some (.int .i64 0)
 | some (.slice _), .slice _ _ _ cc=>bif (cc % 2).beq 0 then fN (cc / 2) fun n=>some (.int .i64 (.ofNat n))else none
 | _,_=>none
def kOf (X:Cx)(kt:TypeId):Option (List Nat):=
 match X.und kt with
 | some .bool=>some [0]
 | some (.int k)=>some [icode k]
 | some .string=>some [2]
 | some (.struct _)=>match flOf kt X.fl with | some qs=>some (1::qs) | none=>none
 | some (.array _ _)=>match flOf kt X.fl with | some qs=>some (1::qs) | none=>none
 | _=>none
def eqNL:List Nat->List Nat->Bool
 | [],[]=>true
 | x::a,y::b=>Nat.beq x y&&eqNL a b
 | _,_=>false
mutual
def aveq:AV->AV->Bool
 | .bool a, .bool b=>a==b
 | .int k a, .int k' b=>keq k k'&&ieq a b
 | .str l b, .str m c=>Nat.beq l m&&Nat.beq b c
 | .nP, .nP=>true
 | .ptr a o, .ptr b p=>Nat.beq a b&&Nat.beq o p
 | .nS, .nS=>true
 | .eS, .eS=>true
 | .slice a b c d, .slice a' b' c' d'=>Nat.beq a a'&&Nat.beq b b'&&Nat.beq c c'&&Nat.beq d d'
 | .nM, .nM=>true
 | .map a, .map b=>Nat.beq a b
 | .func f a b, .func g c d=>Nat.beq f g&&aveqL a c&&aveqL b d
 | .yT a, .yT b=>Nat.beq a b
 | .nilFunc, .nilFunc=>true
 | .iface t x, .iface u y=>Nat.beq t u&&aveq x y
 | .nilIface, .nilIface=>true
 | .agg a, .agg b=>aveqL a b
 | .tuple a, .tuple b=>aveqL a b
 | _,_=>false
def aveqL:List AV->List AV->Bool
 | [],[]=>true
 | x::xs,y::ys=>aveq x y&&aveqL xs ys
 | _,_=>false
end
def findA (k:AV):List (AV×AV)->Option AV
 | []=>none
 | (a,b)::l=>bif aveq k a then some b else findA k l
def setA (k v:AV):List (AV×AV)->Option (List (AV×AV))
 | []=>none
 | (a,b)::l=>bif aveq k a then some ((a,v)::l)else match setA k v l with | some r=>some ((a,b)::r) | none=>none
def delA (k:AV):List (AV×AV)->Option (List (AV×AV))
 | []=>none
 | (a,b)::l=>bif aveq k a then some l else match delA k l with | some r=>some ((a,b)::r) | none=>none
def lkR (ok:Bool)(a:Bool)(v:AV):AV:=bif a then .tuple [v, .bool ok]else v
def lkM (ks:List Nat)(z:AV)(a:Bool)(x k:AV)(H:AH):Option AV:=
 bif keyOk ks k then
  match x with
  | .nM=>some (lkR false a z)
  | .map A=>match H.h.get A with
   | some (.map ks' es)=>bif eqNL ks ks' then
     match findA k es with
     | some v=>some (lkR true a v)
     | none=>some (lkR false a z)
    else none
   | _=>none
  | _=>none
 else none
def upM (ks:List Nat)(x k v:AV)(H:AH):Option (AV×AH):=
 bif keyOk ks k then
  match x with
  | .map A=>match H.h.get A with
   | some (.map ks' es)=>bif eqNL ks ks' then
     match setA k v es with
     | some es'=>match putA H A (.map ks es')with | some H'=>some (undefA,H') | none=>none
     | none=>match putA H A (.map ks (es++[(k,v)]))with | some H'=>some (undefA,H') | none=>none
    else none
   | _=>none
  | _=>none
 else none
def dlM (ks:List Nat)(x k:AV)(H:AH):Option (AV×AH):=
 bif keyOk ks k then
  match x with
  | .nM=>some (.tuple [],H)
  | .map A=>match H.h.get A with
   | some (.map ks' es)=>bif eqNL ks ks' then
     match delA k es with
     | some es'=>match putA H A (.map ks es')with | some H'=>some (.tuple [],H') | none=>none
     | none=>some (.tuple [],H)
    else none
   | _=>none
  | _=>none
 else none
def clM (x:AV)(H:AH):Option (AV×AH):=match x with
 | .nM=>some (.tuple [],H)
 | .map A=>match H.h.get A with
  | some (.map ks _)=>match putA H A (.map ks [])with | some H'=>some (.tuple [],H') | none=>none
  | _=>none
 | _=>none
def srcOf (sz:Nat)(x:AV)(H:AH):Option (Nat×List AV):=
 match x with
 | .nS=>some (0,[])
 | .eS=>some (0,[])
 | .slice A off n _=>match H.h.get A with
  | some (.cells l _ _ _)=>match subN l off (n*sz)with | some c=>some (n,c) | none=>none
  | _=>none
 | .str l b=>bif sz.beq 1 then some (l,bytesOf l b)else none
 | _=>none
def agrow (a e sz:Nat)(cells:List AV)(H:AH):Option (AV×AH):=
 match newA H (.cells cells e sz true)with
 | some (A,H')=>fN a fun n=>some (.slice A 0 n 1,H')
 | none=>none
def roomy (a bytes:Nat):Bool:=Nat.ble ((a+a / 4+192)*bytes) 281474976710656&&Nat.blt a 4611686018427387904
def appGrow (a e sz bytes:Nat)(old:Option (List AV))(new:List AV)(H:AH):Option (AV×AH):=
 bif roomy a bytes then
  match old with
  | some old=>agrow a e sz (old++new) H
  | none=>none
 else none
def appIn (A off len cc n f a:Nat)(g:Bool)(l':Option (List AV))(H:AH):Option (AV×AH):=
 match l' with
 | some l'=>match putA H A (.cells l' f a g)with
  | some H'=>fN (len+n) fun m=>some (.slice A off m cc,H')
  | none=>none
 | none=>none
def app2 (e sz bytes n:Nat)(new:List AV)(A off len cc:Nat)(l:List AV)(f a:Nat)(g:Bool)(H:AH):Option (AV×AH):=
 bif Nat.ble (len+n) (roomOf l g a off cc sz)then appIn A off len cc n f a g (bif Nat.blt 0 a then setAt l (off+len*sz) new else none) H
 else bif (cc % 2).beq 0 then appGrow (len+n) e sz bytes (subN l off (len*sz)) new H
 else bif g&&Nat.beq (off+len*sz) (lenL l 0)&&Nat.beq e f&&Nat.beq a sz&&Nat.beq off (cc / 2*sz)then
  match putA H A .dead with
  | some H1=>appGrow (len+n) e sz bytes (subN l off (len*sz)) new H1
  | none=>none
 else none
def app1 (e sz bytes n:Nat)(new:List AV)(s:AV)(H:AH):Option (AV×AH):=
 match s with
 | .nS=>bif n.beq 0 then some (.nS,H)else appGrow n e sz bytes (some []) new H
 | .eS=>bif n.beq 0 then some (.eS,H)else none
 | .slice A off len cc=>match H.h.get A with
  | some (.cells l e' sz' g)=>app2 e sz bytes n new A off len cc l e' sz' g H
  | _=>none
 | _=>none
def zeroOk (sz:Nat)(z:Option Value):Bool:=
 match z with
 | some z=>match ofV z with
  | some za=>Nat.blt 0 sz&&Nat.beq (lenL (cellsA za) 0) sz
  | none=>false
 | none=>false
def aappend (X:Cx)(t:TypeId)(s x:AV)(H:AH):Option (AV×AH):=
 match X.und t with
 | some (.slice e)=>match X.ty.get e with
  | some ti=>bif zeroOk ti.size ti.zero then
    match srcOf ti.size x H with
    | some (n,new)=>bif allCells new then app1 e ti.size ti.bytes n new s H else none
    | none=>none
   else none
  | none=>none
 | _=>none
def aappZ (X:Cx)(t:TypeId)(s x:AV)(H:AH):Option (AV×AH):=
 match X.und t with
 | some (.slice e)=>match X.ty.get e with
  | some ti=>match zeroA X e with
   | some z=>bif zeroOk ti.size ti.zero then
     match x with
     | .int .i64 (.ofNat n)=>bif Nat.ble (n*ti.bytes) 281474976710656&&Nat.blt n 4611686018427387904&&allCells (cellsA z)then app1 e ti.size ti.bytes n (rep n (cellsA z)) s H else none
     | _=>none
    else none
   | none=>none
  | none=>none
 | _=>none
def acopy (X:Cx)(t:TypeId)(dst a:AV)(H:AH):Option (AV×AH):=
 match X.und t with
 | some (.slice e)=>match X.size e with
  | some sz=>match dst with
   | .nS=>match a with
    | .nS=>some (.int .i64 0,H)
    | .slice _ _ _ _=>some (.int .i64 0,H)
    | .str _ _=>some (.int .i64 0,H)
    | _=>none
   | .slice A off len _=>match srcOf sz a H with
    | some (n,new)=>
     let m:=Nat.min n len
     match takeN (m*sz) new with
     | some new=>bif allCells new then
       match H.h.get A with
       | some (.cells l e' sz' g)=>match(bif Nat.blt 0 sz' then setAt l off new else none)with
        | some l'=>match putA H A (.cells l' e' sz' g)with
         | some H'=>fN m fun m=>some (.int .i64 (.ofNat m),H')
         | none=>none
        | none=>none
       | _=>none
      else none
     | none=>none
    | none=>none
   | _=>none
  | none=>none
 | _=>none
def optOf (env:Env):Option Operand->Option (Option AV)
 | none=>some none
 | some y=>match opd env y with | some b=>some (some b) | none=>none
def pPick (env:Env)(c a b:Operand):Option AV:=
 match opd env c with
 | some (.bool true)=>opd env a
 | some (.bool false)=>opd env b
 | _=>none
def pBuild (X:Cx)(env:Env)(t:TypeId)(a:Array (Nat×Operand)):Option AV:=
 match zeroA X t with
 | some z=>match partsA env a.toList with
  | some parts=>match X.und t with
   | some (.struct fs)=>match placesA X fs.toList with
    | some pl=>match fillA (nthP pl) (cellsA z) parts with | some c=>some (.agg c) | none=>none
    | none=>none
   | some (.array _ e)=>match X.size e with
    | some sz=>match fillA (fun i=>some (i*sz,sz)) (cellsA z) parts with | some c=>some (.agg c) | none=>none
    | none=>none
   | _=>none
  | none=>none
 | none=>none
def pNil (x:AV):Option AV:=
 match x with
 | .ptr A off=>some (.ptr A off)
 | .func f a b=>some (.func f a b)
 | .yT A=>some (.yT A)
 | _=>none
def pFunc (env:Env)(f:FuncId)(first cap:Array Operand):Option AV:=
 match opds env first.toList with
 | some a=>match opds env cap.toList with
  | some b=>some (.func f a b)
  | none=>none
 | none=>none
def pArr (X:Cx)(arr:TypeId)(x:AV):Option AV:=
 match x with
 | .slice A off len _=>match X.und arr with
  | some (.array n _)=>bif Nat.ble n len then some (.ptr A off)else none
  | _=>none
 | _=>none
def pExtract (x:AV)(i:Nat):Option AV:=
 match x with
 | .tuple vs=>nth vs i
 | _=>none
def b1 (x:Option AV)(f:AV->Option AV):Option AV:=match x with | some a=>f a | none=>none
def b2 (x y:Option AV)(f:AV->AV->Option AV):Option AV:=
 match x with
 | some a=>match y with | some b=>f a b | none=>none
 | none=>none
def aA1 (e:TypeId)(x:Option AV):Option (AObj×(Nat->AV)):=
 match x with
 | some z=>some (.cells (cellsA z) e 1 false,fun A=> .ptr A 0)
 | none=>none
def aABuild (X:Cx)(env:Env)(t:TypeId)(len:Nat)(a:Array (Nat×Operand)):Option (AObj×(Nat->AV)):=
 match X.und t with
 | some (.slice e)=>match partsA env a.toList with
  | some parts=>match X.size e with
   | some sz=>match zeroA X e with
    | some z=>bif Nat.ble (len*sz) 16777216&&Nat.blt 0 sz&&Nat.beq (lenL (cellsA z) 0) sz then
      match fillA (fun i=>some (i*sz,sz)) (rep len (cellsA z)) parts with
      | some c=>some (.cells c e sz false,fun A=> .slice A 0 len (2*len))
      | none=>none
     else none
    | none=>none
   | none=>none
  | none=>none
 | _=>none
def aAMake (X:Cx)(t:TypeId)(l c:Option AV):Option (AObj×(Nat->AV)):=
 match l with
 | some (.int .i64 (.ofNat n))=>match c with
  | some (.int .i64 (.ofNat m))=>match X.und t with
   | some (.slice e)=>match X.ty.get e with
    | some ti=>match zeroA X e with
     | some z=>bif Nat.ble n m&&Nat.ble (m*ti.bytes) 140737488355328&&Nat.blt m 9223372036854775808&&Nat.blt 0 ti.size&&Nat.beq (lenL (cellsA z) 0) ti.size then
       some (.cells (rep m (cellsA z)) e ti.size false,fun A=> .slice A 0 n (2*m))
      else none
     | none=>none
    | none=>none
   | _=>none
  | _=>none
 | _=>none
inductive Cls where
 | P | L | A | E | C
def clsConv (X:Cx)(s d:TypeId):Cls:=
 match X.und s with
 | some (.slice _)=> .L
 | some .string=>match X.und d with
  | some (.slice _)=> .A
  | _=> .P
 | _=> .P
def clsB:Builtin->Cls
 | .len=> .L
 | .cap=> .P
 | .min=> .P
 | .max=> .P
 | _=> .E
def clsCall:Callee->Cls
 | .value _=> .C
 | .invoke _ _=> .C
 | .builtin b=>clsB b
def isCst:Operand->Bool
 | .const _=>true
 | _=>false
def ptrCmp (X:Cx)(t:TypeId)(x y:Operand):Bool:=match X.und t with
 | some (.pointer _)=> !(isCst x||isCst y)
 | _=>false
def liveA (A:Nat)(H:AH):Bool:=match H.h.get A with
 | some o=>match o with | .cells _ _ sz g=>Nat.blt 0 sz&& !g | _=>false
 | none=>false
def pNe (a:BinOp)(x y:AV)(H:AH):Option AV:=match x with
 | .ptr A _=>match y with
  | .ptr B _=>bif liveA A H&&(liveA B H&& !Nat.beq A B)then
    (match a with | .eql=>mkB false | .neq=>mkB true | _=>none)
   else none
  | _=>none
 | _=>none
def abinL (X:Cx)(a:BinOp)(t:TypeId)(x y:AV)(H:AH):Option AV:=match abin X a t x y with
 | some r=>some r
 | none=>match X.und t with
  | some (.pointer e)=>match X.size e with
   | some 0=>none
   | some _=>pNe a x y H
   | none=>none
  | _=>none
def cls (X:Cx):Op->Cls
 | .move _=> .P
 | .assign _=> .P
 | .pick _ _ _=> .P
 | .build _ _=> .P
 | .nilCheck _=> .P
 | .binOp _ t x y _=>bif ptrCmp X t x y then .L else .P
 | .unOp _ _ _=> .P
 | .makeFunc _ _ _=> .P
 | .fieldAddr _ _ _=> .P
 | .field _ _ _=> .P
 | .indexAddr _ _ _=> .P
 | .index _ _ _=> .P
 | .sliceToArrayPointer _ _=> .P
 | .extract _ _=> .P
 | .load _ _=> .L
 | .lookup _ _ _ _=> .L
 | .slice _ _ _ _ _=> .L
 | .makeMap _ _=> .A
 | .alloc _=> .A
 | .box _ _=> .A
 | .buildSlice _ _ _=> .A
 | .makeSlice _ _ _=> .A
 | .convert s d _=>clsConv X s d
 | .call c=>clsCall c.callee
 | _=> .E
def mn2 (x y:AV):Option AV:=match x with
 | .int k a=>match y with | .int _ b=>bif ilt b a then some (.int k b)else some (.int k a) | _=>none
 | _=>none
def mx2 (x y:AV):Option AV:=match x with
 | .int k a=>match y with | .int _ b=>bif ilt a b then some (.int k b)else some (.int k a) | _=>none
 | _=>none
def alook (X:Cx)(t:TypeId)(a:Bool)(x k:AV)(H:AH):Option AV:=match X.und t with
 | some (.map kt et)=>match kOf X kt with
  | some ks=>match zeroA X et with
   | some z=>lkM ks z a x k H
   | none=>none
  | none=>none
 | _=>none
def aMap (X:Cx)(t:TypeId):Option (AObj×(Nat->AV)):=match X.und t with
 | some (.map kt _)=>match kOf X kt with
  | some ks=>some (.map ks [],fun A=> .map A)
  | none=>none
 | _=>none
def aup (X:Cx)(t:TypeId)(x k v:AV)(H:AH):Option (AV×AH):=match X.und t with
 | some (.map kt _)=>match kOf X kt with
  | some ks=>upM ks x k v H
  | none=>none
 | _=>none
def adl (X:Cx)(t:TypeId)(x k:AV)(H:AH):Option (AV×AH):=match X.und t with
 | some (.map kt _)=>match kOf X kt with
  | some ks=>dlM ks x k H
  | none=>none
 | _=>none
def acl (X:Cx)(t:TypeId)(x:AV)(H:AH):Option (AV×AH):=match X.und t with
 | some (.map _ _)=>clM x H
 | _=>none
def c1 (x:Option AV)(f:AV->Option (AV×AH)):Option (AV×AH):=match x with | some a=>f a | none=>none
def c2 (x y:Option AV)(f:AV->AV->Option (AV×AH)):Option (AV×AH):=match x with
 | some a=>match y with | some b=>f a b | none=>none
 | none=>none
def c3 (x y z:Option AV)(f:AV->AV->AV->Option (AV×AH)):Option (AV×AH):=match x with
 | some a=>match y with
  | some b=>match z with | some c=>f a b c | none=>none
  | none=>none
 | none=>none
def aP (X:Cx)(env:Env):Op->Option AV
 | .move x=>opd env x
 | .assign x=>opd env x
 | .pick c a b=>pPick env c a b
 | .build t ps=>pBuild X env t ps
 | .nilCheck x=>b1 (opd env x) pNil
 | .binOp op t x y _=>b2 (opd env x) (opd env y) (abin X op t)
 | .unOp op _ x=>b1 (opd env x) (aun op)
 | .convert s d x=>b1 (opd env x) (aconvP X s d)
 | .makeFunc (.func f) first cap=>pFunc env f first cap
 | .fieldAddr s x f=>b1 (opd env x) (afieldAddr X s · f)
 | .field t x f=>b1 (opd env x) (afield X t · f)
 | .indexAddr t x i=>b2 (opd env x) (opd env i) (aindexAddr X t)
 | .index t x i=>b2 (opd env x) (opd env i) (aindex X t)
 | .sliceToArrayPointer arr x=>b1 (opd env x) (pArr X arr)
 | .extract x i=>b1 (opd env x) (pExtract · i)
 | .call c=>match c.callee with
  | .builtin .cap=>match c.args.toList with
   | [x]=>match c.argTypes.toList with
    | t::_=>b1 (opd env x) (acap X t)
    | _=>none
   | _=>none
  | .builtin .min=>match c.args.toList with
   | [x,y]=>b2 (opd env x) (opd env y) mn2
   | _=>none
  | .builtin .max=>match c.args.toList with
   | [x,y]=>b2 (opd env x) (opd env y) mx2
   | _=>none
  | _=>none
 | _=>none
def lSlice (X:Cx)(env:Env)(t:TypeId)(x:Operand)(lo hi f:Option Operand)(H:AH):Option AV:=
 match opd env x with
 | some a=>match optOf env lo with
  | some lo=>match optOf env hi with
   | some hi=>match optOf env f with
    | some f=>aslice X t a lo hi f H
    | none=>none
   | none=>none
  | none=>none
 | none=>none
def aL (X:Cx)(env:Env)(H:AH):Op->Option AV
 | .load t a=>b1 (opd env a) (aload X t · H)
 | .slice t x lo hi mx=>lSlice X env t x lo hi mx H
 | .lookup t x k ok=>b2 (opd env x) (opd env k) (alook X t ok · · H)
 | .convert s d x=>b1 (opd env x) (aconvL X s d · H)
 | .binOp op t x y _=>b2 (opd env x) (opd env y) (abinL X op t · · H)
 | .call c=>match c.callee with
  | .builtin .len=>match c.args.toList with
   | [x]=>match c.argTypes.toList with
    | t::_=>b1 (opd env x) (alen X t · H)
    | _=>none
   | _=>none
  | _=>none
 | _=>none
def aA (X:Cx)(env:Env):Op->Option (AObj×(Nat->AV))
 | .alloc e=>aA1 e (zeroA X e)
 | .box e x=>aA1 e (opd env x)
 | .buildSlice t len ps=>aABuild X env t len ps
 | .makeSlice t l c=>aAMake X t (opd env l) (opd env c)
 | .convert s d x=>match opd env x with | some a=>aconvA X s d a | none=>none
 | .makeMap t none=>aMap X t
 | _=>none
def eStore (X:Cx)(t:TypeId)(p y:Option AV)(H:AH):Option (AV×AH):=
 match p with
 | some p=>match y with
  | some y=>match astore X t p y H with | some H'=>some (undefA,H') | none=>none
  | none=>none
 | none=>none
def eAppend (X:Cx)(t u:TypeId)(s x:Option AV)(H:AH):Option (AV×AH):=
 match s with
 | some a=>match x with
  | some b=>match X.und u with
   | some (.slice _)=>aappend X t a b H
   | some .string=>aappend X t a b H
   | some (.int _)=>aappZ X t a b H
   | _=>none
  | none=>none
 | none=>none
def eCopy (X:Cx)(t:TypeId)(s x:Option AV)(H:AH):Option (AV×AH):=
 match s with
 | some a=>match x with
  | some b=>acopy X t a b H
  | none=>none
 | none=>none
def eBuiltin (X:Cx)(env:Env)(b:Builtin)(args:List Operand)(a:List TypeId)(H:AH):Option (AV×AH):=
 match b with
 | .append=>match args with
  | [s,x]=>match a with
   | [t,u]=>eAppend X t u (opd env s) (opd env x) H
   | _=>none
  | _=>none
 | .copy=>match args with
  | [s,x]=>match a with
   | t::_=>eCopy X t (opd env s) (opd env x) H
   | _=>none
  | _=>none
 | .delete=>match args with
  | [m,k]=>match a with
   | t::_=>c2 (opd env m) (opd env k) (adl X t · · H)
   | _=>none
  | _=>none
 | .clear=>match args with
  | [m]=>match a with
   | t::_=>c1 (opd env m) (acl X t · H)
   | _=>none
  | _=>none
 | _=>none
def aE (X:Cx)(env:Env)(H:AH):Op->Option (AV×AH)
 | .store t a x=>eStore X t (opd env a) (opd env x) H
 | .mapUpdate t m k v=>c3 (opd env m) (opd env k) (opd env v) (aup X t · · · H)
 | .call c=>match c.callee with
  | .builtin b=>eBuiltin X env b c.args.toList c.argTypes.toList H
  | _=>none
 | _=>none
def wV (H:AH)(r:Option AV):Option (AV×AH):=match r with | some x=>some (x,H) | none=>none
def wA (H:AH)(r:Option (AObj×(Nat->AV))):Option (AV×AH):=
 match r with
 | some (o,mk)=>match newA H o with
  | some (A,H')=>some (mk A,H')
  | none=>none
 | none=>none
def setD (nt:Nat)(env:Env):Option Tmp->AV->Option (Env)
 | some d,v=>bif Nat.blt d nt then some (upd env d v)else none
 | none,_=>some env
def nthO:List Oper->Nat->Option Oper
 | x::_,0=>some x
 | _::l,n+1=>nthO l n
 | [],_=>none
def isW (x:AV)(a:Bool):Bool:=match x with | .bool b=>b==a | .val (.bool b)=>b==a | _=>false
def wantG (ops:Array Oper)(env:Env)(j:Nat)(a:Bool):Option Bool:=
 match nthO ops.toList j with
 | some p=>match p.dst with
  | some d=>match look env d with
   | some x=>some (isW x a)
   | none=>none
  | none=>some false
 | none=>some false
def wantA (ops:Array Oper)(env:Env)(o:Oper):Option Bool:=
 match o.guard with
 | none=>some true
 | some (j,want)=>wantG ops env j want
def aresult (X:Cx)(env:Env)(H:AH):ResultVar->Option AV
 | .tmp t=>look env t
 | .cell a t=>b1 (look env a) (aload X t · H)
def aresults (X:Cx)(env:Env)(H:AH):List ResultVar->Option (List AV)
 | []=>some []
 | r::rs=>match aresult X env H r with
  | some v=>match aresults X env H rs with
   | some vs=>some (v::vs)
   | none=>none
  | none=>none
def maskOf (a:List Nat)(es:List Edge):Nat:=es.foldl (fun s e=>bif Region.binds .any e then s||| 2 ^ e.on||| a.getD e.on 0 else s) 0
def befores:List Oper->List Nat->List Nat
 | [],acc=>acc
 | o::rest,acc=>befores rest (acc++[maskOf acc o.after.toList])
def isEff:Cls->Bool
 | .E=>true
 | .C=>true
 | _=>false
def tmpOf:Operand->Option Nat
 | .tmp t=>some t
 | _=>none
def namesOf (ops:Array Oper)(o:Oper):List Nat:=
 o.op.operands.toList.filterMap tmpOf++(match o.guard with
  | some (j,_)=>match nthO ops.toList j with
   | some p=>p.dst.toList
   | none=>[]
  | none=>[])
def slotsMeet (ops:Array Oper)(a b:Oper):Bool:=
 (match a.dst with | some d=>(namesOf ops b).contains d | none=>false)||(match b.dst with | some d=>(namesOf ops a).contains d | none=>false)
def pairOk (X:Cx)(ops:Array Oper)(masks:List Nat)(a b:Nat×Oper):Bool:=
 (match a.2.dst,b.2.dst with | some d,some e=> !Nat.beq d e | _,_=>true)&&
 ((masks.getD b.1 0).testBit a.1|| !(isEff (cls X a.2.op)||slotsMeet ops a.2 b.2))
def pairsOk (X:Cx)(ops:Array Oper)(masks:List Nat):List (Nat×Oper)->Bool
 | []=>true
 | a::l=>l.all (pairOk X ops masks a)&&pairsOk X ops masks l
def backB:List Oper->Nat->Bool
 | [],_=>true
 | o::l,n=>(o.after.toList.all fun e=>Nat.blt e.on n)&&fN (Nat.succ n) (backB l)
def modesOk (ops:Array Oper):Bool:=backB ops.toList 0||Nat.beq (Region.linearise .any ops 0).length ops.size&&Nat.beq (Region.linearise .text ops 0).length ops.size&&Nat.beq (Region.linearise .gc ops 0).length ops.size
def stageOf (masks a:List Nat)(i:Nat):Nat:=(a.filter fun e=>(masks.getD i 0).testBit e).length
def rowOf (X:Cx)(ops:Array Oper)(masks:List Nat):List (Nat×Oper):=
 let l:=(List.range ops.size).filterMap fun i=>match nthO ops.toList i with | some o=>some (i,o) | none=>none
 let f:=(l.filter fun a=>isEff (cls X a.2.op))
 let rest:=(l.filter fun a=> !isEff (cls X a.2.op))
 let h:=f.map (·.1)
 (List.range (f.length+1)).flatMap fun s=>(rest.filter fun a=>Nat.beq (stageOf masks h a.1) s)++(match f[s]? with | some e=>[e] | none=>[])
def nodupB:List Nat->Bool
 | []=>true
 | x::l=> !l.contains x&&nodupB l
def rowOk (X:Cx)(ops:Array Oper)(masks:List Nat)(row:List (Nat×Oper)):Bool:=
 modesOk ops&&nodupB (row.map (·.1))&&pairsOk X ops masks row&&(List.range ops.size).all (fun i=>(row.map (·.1)).contains i)&&row.all (fun a=>match nthO ops.toList a.1 with | some _=>true | none=>false)
def plan (X:Cx)(ops:Array Oper):Option (List (Nat×Oper)×List Nat):=
 let masks:=befores ops.toList []
 let row:=rowOf X ops masks
 bif rowOk X ops masks row then some (row,masks)else none
inductive AExit where
 | normal
 | exit (id:Nat)
 | ret
structure Fns where
 call:FuncId->List AV->AH->Option (AV×AH)
 yld:Nat->List AV->AH->Option (AV×AH)
def opF (X:Cx)(r:Fns)(env:Env)(H:AH)(o:Op):Option (AV×AH):=
 match cls X o with
 | .P=>wV H (aP X env o)
 | .L=>wV H (aL X env H o)
 | .A=>wA H (aA X env o)
 | .E=>aE X env H o
 | .C=>callO r env H o
where
 callV (r:Fns) (H:AH) (f:Option AV) (a:Option (List AV)):Option (AV×AH):=
  match f with
  | some (.func g first cap)=>match a with
   | some a=>r.call g (first++a++cap) H
   | none=>none
  | some (.yT A)=>match a with
   | some a=>r.yld A a H
   | none=>none
  | _=>none
 callO (r:Fns) (env:Env) (H:AH):Op->Option (AV×AH)
  | .call c=>match c.callee with
   | .value f=>callV r H (opd env f) (opds env c.args.toList)
   | _=>none
  | _=>none
structure Ent where
 i:Nat
 o:Oper
 want:Bool
 env:Env
 H:AH
 v:AV
 H':AH
def entD (X:Cx)(r:Fns)(ops:Array Oper)(env:Env)(H:AH)(i:Nat)(o:Oper):Option Ent:=
 match wantA ops env o with
 | some true=>match opF X r env H o.op with
  | some (v,H')=>some ⟨i,o,true,env,H,v,H'⟩
  | none=>none
 | some false=>some ⟨i,o,false,env,H,undefA,H⟩
 | none=>none
theorem wrap_of_range (a:B.min<=z)(f:z<=B.max):B.wrap z=z:=by
 cases B<;>simp[IntKind.wrap,IntKind.signed,IntKind.bits,IntKind.min,IntKind.max]at* <;>omega
theorem fwrap_eq (k:IntKind)(n:Int):fwrap k n=k.wrap n:=by
 cases n with
 | ofNat m=>
  simp only[fwrap]
  cases f:k.signed with
  | true=>
   simp only[zP]
   cases hb:Nat.blt m (khalf k)with
   | false=>rfl
   | true=>
    have a:m<khalf k:=by rw[<-q9];exact hb
    simp only[zP]
    symm
    apply wrap_of_range<;>cases k<;>simp[IntKind.signed,khalf,IntKind.min,IntKind.max,IntKind.bits]at* <;>omega
  | false=>
   simp only[y9]
   cases k<;>simp[IntKind.signed,IntKind.wrap,IntKind.bits,kmod]at*
 | negSucc m=>
  simp only[fwrap]
  cases hb:(k.signed&&Nat.blt m (khalf k))with
  | false=>rfl
  | true=>
   simp only[zP];rw[zE]at hb;have a:m<khalf k:=by rw[<-q9];exact hb.2
   symm
   apply wrap_of_range<;>cases k<;>simp[IntKind.signed,khalf,IntKind.min,IntKind.max,IntKind.bits]at* <;>omega
theorem ilt_eq (a b:Int):ilt a b=decide (a<b):=by
 cases a<;>cases b<;>simp only[ilt]<;>rw[yG]<;>simp[q9]<;>omega
theorem ieq_eq (a b:Int):ieq a b=(a==b):=by
 cases a<;>cases b<;>simp only[ieq]<;>rw[yG]<;>simp[zX]<;>omega
theorem keq_eq (a b:IntKind):keq a b=decide (a=b):=by
 cases a<;>cases b<;>rfl
theorem fN_eq (n:Nat)(k:Nat->r):fN n k=k n:=by cases n<;>rfl
theorem fI_eq (n:Int)(k:Int->r):fI n k=k n:=by cases n<;>simp[fI,fN_eq]
theorem mkI_eq (k:IntKind)(n:Int):mkI k n=some (.int k (k.wrap n)):=by simp[mkI,fI_eq,fwrap_eq]
theorem mkB_eq (b:Bool):mkB b=some (.bool b):=by cases b<;>rfl
theorem mkS_eq (l b:Nat):mkS l b=some (.str l b):=by simp[mkS,fN_eq]
theorem lenL_eq (l:List AV)(n:Nat):lenL l n=l.length+n:=by
 induction l generalizing n with
 | nil=>simp[lenL]
 | cons x l ih=>simp[lenL,ih];omega
theorem lenL_zero (l:List AV):lenL l 0=l.length:=by rw[lenL_eq];rfl
theorem pack_inj: ∀l m:List UInt8,l.length=m.length->pack l=pack m->l=m
 | [],[],_,_=>rfl
 | [],_::_,h,_=>by simp at h
 | _::_,[],h,_=>by simp at h
 | b::l,c::m,hl,h=>by
  have hb:b.toNat<256:=b.toNat_lt;have i:c.toNat<256:=c.toNat_lt;simp only[pack]at h;have a:b.toNat=c.toNat:=by omega
  have f:pack l=pack m:=by omega
  rw[UInt8.toNat_inj.1 a,pack_inj l m (by simpa using hl) f]
theorem pow8 (n:Nat):2 ^ (8*n)=256 ^ n:=by rw[Nat.pow_mul]
theorem pack_append (l m:List UInt8):pack (l++m)=pack l+pack m*256 ^ l.length:=by
 induction l with
 | nil=>simp[pack]
 | cons b l ih=>
  simp only[qB,pack,ih,zV,Nat.pow_succ];rw[Nat.mul_add,Nat.add_assoc,Nat.mul_left_comm 256 (pack m),Nat.mul_comm 256 (256 ^ l.length)]
theorem pack_drop (l:List UInt8)(n:Nat):pack (l.drop n)=pack l / 256 ^ n:=by
 induction n generalizing l with
 | zero=>simp
 | succ n ih=>
  cases l with
  | nil=>simp[pack]
  | cons b l=>
   have hb:b.toNat<256:=b.toNat_lt;rw[List.drop_succ_cons,ih,pack,Nat.pow_succ,Nat.mul_comm (256 ^ n),<-Nat.div_div_eq_div_mul];congr 1;omega
theorem pack_take (l:List UInt8)(n:Nat):pack (l.take n)=pack l % 256 ^ n:=by
 induction n generalizing l with
 | zero=>simp[pack,Nat.mod_one]
 | succ n ih=>
  cases l with
  | nil=>simp[pack]
  | cons b l=>
   have hb:b.toNat<256:=b.toNat_lt;have e:(b.toNat+256*pack l) / 256=pack l:=by omega
   rw[List.take_succ_cons,pack,pack,ih,Nat.pow_succ,Nat.mul_comm (256 ^ n),Nat.mod_mul,e];omega
theorem pack_get (l:List UInt8)(i:Nat)(h:i<l.length):l[i].toNat=pack l / 256 ^ i % 256:=by
 rw[<-pack_drop,qL h,pack];have hb:l[i].toNat<256:=l[i].toNat_lt;omega
theorem sless_eq: ∀(l m:List UInt8),sless l.length (pack l) m.length (pack m)=Op.bytesLess l m
 | [],[]=>rfl
 | [],_::_=>rfl
 | b::l,[]=>rfl
 | b::l,c::m=>by
  have hb:b.toNat<256:=b.toNat_lt;have j:c.toNat<256:=c.toNat_lt;have a:pack (b::l) % 256=b.toNat:=by simp only[pack];omega
  have f:pack (c::m) % 256=c.toNat:=by simp only[pack];omega
  have h:pack (b::l) / 256=pack l:=by simp only[pack];omega
  have i:pack (c::m) / 256=pack m:=by simp only[pack];omega
  simp only[zV,sless,Op.bytesLess,a,f,h,i,sless_eq l m];congr 1
  .rw[yG];simp[q9,UInt8.lt_iff_toNat_lt]
  .congr 1;rw[yG];simp[zX,UInt8.toNat_inj]
theorem toList_data (s:ByteArray):s.toList=s.data.toList:=Lib.toList_data s
theorem size_data (s:ByteArray):s.data.toList.length=s.size:=by rw[yN];rfl
theorem takeN_eq: ∀(n:Nat) (l r:List AV),takeN n l=some r->r=l.take n/\n<=l.length
 | 0,l,r,h=>by simp[takeN]at h;simp[<-h]
 | n+1,[],r,h=>by simp[takeN]at h
 | n+1,x::l,r,h=>by
  simp only[takeN]at h;split at h
  .rename_i a hr;obtain⟨rfl,f⟩:=takeN_eq n l a hr;simp only[zB]at h;subst h;simp[f]
  .simp at h
theorem subN_eq: ∀(l:List AV) (o n:Nat) (r:List AV),subN l o n=some r->r=(l.drop o).take n/\(n=0\/o+n<=l.length)
 | l,0,n,r,h=>by
  cases l<;>(simp only[subN]at h;obtain⟨f,a⟩:=takeN_eq _ _ _ h;exact⟨by simpa using f, .inr (by omega)⟩)
 | x::l,o+1,n,r,h=>by
  simp only[subN]at h;obtain⟨f,a⟩:=subN_eq l o n r h;exact⟨by simpa using f,by rcases a with a | a<;>simp<;>omega⟩
 | [],o+1,n,r,h=>by
  simp only[subN,zF,zX]at h;split at h
  .simp only[zB]at h;subst h;simp_all
  .simp at h
theorem nth_eq: ∀(l:List AV) (n:Nat),nth l n=l[n]?
 | [],n=>by cases n<;>rfl
 | x::l,0=>rfl
 | x::l,n+1=>by simp[nth,nth_eq l n]
theorem over_eq: ∀(l new r:List AV),over l new=some r->r=new++l.drop new.length/\new.length<=l.length
 | l,[],r,h=>by cases l<;>simp_all [over]
 | [],y::ys,r,h=>by simp[over]at h
 | x::l,y::ys,r,h=>by
  simp only[over]at h;split at h
  .rename_i a hr;obtain⟨rfl,f⟩:=over_eq l ys a hr;simp only[zB]at h;subst h;simp[f]
  .simp at h
theorem setAt_eq: ∀(l:List AV) (n:Nat) (new r:List AV),setAt l n new=some r->r=l.take n++new++l.drop (n+new.length)/\n+new.length<=l.length
 | l,0,new,r,h=>by
  have a:over l new=some r:=by cases l<;>simpa only[setAt]using h
  obtain⟨rfl,f⟩:=over_eq l new r a;exact⟨by simp,by omega⟩
 | x::l,n+1,new,r,h=>by
  simp only[setAt]at h;split at h
  .rename_i i hr;obtain⟨rfl,f⟩:=setAt_eq l n new i hr;simp only[zB]at h;subst h;refine⟨?_,by simp;omega⟩;rw[show n+1+new.length=(n+new.length)+1 from by omega];simp
  .simp at h
 | [],n+1,new,r,h=>by simp[setAt]at h
theorem rep_eq (n:Nat)(z:List AV):rep n z=(List.replicate n z).flatten:=by
 induction n with
 | zero=>rfl
 | succ n ih=>simp[rep,ih,List.replicate_succ]
theorem nthP_eq: ∀(l:List (Nat×Nat)) (n:Nat),nthP l n=l[n]?
 | [],n=>by cases n<;>rfl
 | x::l,0=>rfl
 | x::l,n+1=>by simp[nthP,nthP_eq l n]
theorem nthF_eq: ∀(l:List Field) (n:Nat),nthF l n=l[n]?
 | [],n=>by cases n<;>rfl
 | x::l,0=>rfl
 | x::l,n+1=>by simp[nthF,nthF_eq l n]
theorem nthO_eq: ∀(l:List Oper) (n:Nat),nthO l n=l[n]?
 | [],n=>by cases n<;>rfl
 | x::l,0=>rfl
 | x::l,n+1=>by simp[nthO,nthO_eq l n]
mutual
theorem ofV_ok (R:Ren): ∀(v:Value) (x:AV),ofV v=some x->VR R x v
 | .bool b,x,h=>by simp only[ofV,zB]at h;subst h;simp[VR]
 | .int k n,x,h=>by simp only[ofV,zB]at h;subst h;simp[VR]
 | .string s,x,h=>by simp only[ofV,zB]at h;subst h;exact⟨s,rfl,(size_data s).symm,rfl⟩
 | .pointer none,x,h=>by simp only[ofV,zB]at h;subst h;simp[VR]
 | .pointer (some a),x,h=>by simp[ofV]at h
 | .slice none 0 0,x,h=>by simp only[ofV,zB]at h;subst h;simp[VR]
 | .slice none 0 (c+1),x,h=>by simp[ofV]at h
 | .slice none (n+1) c,x,h=>by simp[ofV]at h
 | .slice (some a) n c,x,h=>by simp[ofV]at h
 | .map none,x,h=>by simp only[ofV,zB]at h;subst h;simp[VR]
 | .map (some a),x,h=>by simp[ofV]at h
 | .nilFunc,x,h=>by simp only[ofV,zB]at h;subst h;simp[VR]
 | .nilIface,x,h=>by simp only[ofV,zB]at h;subst h;simp[VR]
 | .agg a,x,h=>by
  simp only[ofV]at h;split at h
  .rename_i l hl;simp only[zB]at h;subst h;exact⟨a.toList,rfl,ofVA_ok R a l hl⟩
  .simp at h
 | .tuple a,x,h=>by
  simp only[ofV]at h;split at h
  .rename_i l hl;simp only[zB]at h;subst h;exact⟨a.toList,rfl,ofVA_ok R a l hl⟩
  .simp at h
 | .float _ _,x,h=>by simp[ofV]at h
 | .complex _ _ _,x,h=>by simp[ofV]at h
 | .chan _,x,h=>by simp[ofV]at h
 | .func _ _ _,x,h=>by simp[ofV]at h
 | .iface _ _,x,h=>by simp[ofV]at h
theorem ofVA_ok (R:Ren): ∀(a:Array Value) (l:List AV),ofVA a=some l->VRL R l a.toList
 | ⟨m⟩,l,h=>by simp only[ofVA]at h;exact ofVL_ok R m l h
theorem ofVL_ok (R:Ren): ∀(m:List Value) (l:List AV),ofVL m=some l->VRL R l m
 | [],l,h=>by simp only[ofVL,zB]at h;subst h;rfl
 | v::m,l,h=>by
  simp only[ofVL]at h;split at h
  .rename_i x xs hx hxs;simp only[zB]at h;subst h;exact⟨v,m,rfl,ofV_ok R v x hx,ofVL_ok R m xs hxs⟩
  .simp at h
end
theorem opd_ok {R:Ren}{env:Env}{fr:Frame}(h:EnvR R env n fr.tmps): ∀(x:Operand) (a:AV),opd env x=some a->VR R a (fr.eval x)
 | .tmp t,a,e=>h.get t a e
 | .const v,a,e=>ofV_ok R v a e
 | .func f,a,e=>by simp only[opd,zB]at e;subst e;exact⟨[],[],rfl,rfl,rfl⟩
 | .global g,a,e=>by simp[opd]at e
theorem opds_ok {R:Ren}{env:Env}{n:Nat}{fr:Frame}(h:EnvR R env n fr.tmps): ∀(xs:List Operand) (a:List AV),opds env xs=some a->VRL R a (xs.map fr.eval)
 | [],a,e=>by simp only[opds,zB]at e;subst e;rfl
 | x::xs,a,e=>by
  simp only[opds]at e;split at e
  .rename_i v vs i f;simp only[zB]at e;subst e;exact⟨_,_,rfl,opd_ok h x v i,opds_ok h xs vs f⟩
  .simp at e
theorem EnvR.put {R:Ren}{env env':Env}(h:EnvR R env n G){dst:Option Tmp}{x:AV}(j:VR R x i)(a:setD n env dst x=some env'):EnvR R env' n (putT G dst i):=by
 cases dst with
 | none=>simp only[setD,zB]at a;subst a;exact h
 | some d=>
  simp only[setD,zF,q9]at a;split at a
  .rename_i hd;injection a with a;subst a
   have hl: ∀t,Eng.look (upd env d x) t=if t=d then some x else Eng.look env t:=fun t=>upd_at env d x t
   refine⟨by simp[putT,h.size],fun t y f=> ?_,fun t m=> ?_⟩
   .rw[hl]at f;simp only[putT];rw[qW,Array.getElem?_setIfInBounds];by_cases e:t=d
    .subst e;rw[if_pos rfl]at f;injection f with f;subst f;rw[if_pos rfl,if_pos (by rw[h.size];exact hd)];exact j
    .rw[if_neg e]at f;rw[if_neg (Ne.symm e),<-qW];exact h.get t y f
   .rw[hl,if_neg (by omega)];exact h.out t m
  .simp at a
def fldsK (P:Program)(rec:TypeId->Option (List Nat)):List Field->Nat->Option (List Nat)
 | [],_=>some []
 | f::fs,acc=>match rec f.type,P.info? f.type with
  | some k,some j=>bif !(f.name== "_")&&Nat.beq f.offset acc&&Nat.beq k.length j.size then
    match fldsK P rec fs (acc+j.size)with
    | some r=>some (k++r)
    | none=>none
   else none
  | _,_=>none
def flatK (P:Program):Nat->TypeId->Option (List Nat)
 | 0,_=>none
 | d+1,t=>match P.underlying t,P.info? t with
  | some .bool,some i=>bif Nat.beq i.size 1 then some [0]else none
  | some (.int k),some i=>bif Nat.beq i.size 1 then some [icode k]else none
  | some .string,some i=>bif Nat.beq i.size 1 then some [2]else none
  | some (.struct fs),some i=>bif !P.stoodInHeld t then
    match fldsK P (flatK P d) fs.toList 0 with
    | some r=>bif Nat.beq r.length i.size then some r else none
    | none=>none
   else none
  | some (.array len e),some i=>match flatK P d e,P.info? e with
   | some k,some j=>bif Nat.beq (len*j.size) i.size&&Nat.beq k.length j.size then some (List.replicate len k).flatten else none
   | _,_=>none
  | _,_=>none
def isAggT (P:Program)(t:TypeId):Bool:=match P.underlying t with
 | some (.struct _)=>true
 | some (.array _ _)=>true
 | _=>false
structure Ok (P:Program)(X:Cx):Prop where
 ty: ∀t i,X.ty.get t=some i->P.info? t=some i
 fl: ∀x∈X.fl,flatK P P.depth x.1=some x.2/\isAggT P x.1=true/\P.depth<=10000
 nm: ∀(f:FuncId) (g:Func),P.funcs[f]? =some g->(g.name== "runtime.NumGoroutine")=false
section
variable {P:Program}{X:Cx}(hX:Ok P X)
include hX
theorem Ok.und {t:TypeId}{d:TypeDesc}(h:X.und t=some d):P.underlying t=some d:=by
 simp only[Cx.und]at h;split at h
 .rename_i i hi;have f:=hX.ty _ _ hi;split at h
  .rename_i s u hd;split at h
   .rename_i j o;simp only[zB]at h;subst h;have p:=hX.ty _ _ o;obtain⟨q⟩:=i;simp only at hd;subst hd;simp[Program.underlying,f,p]
   .simp at h
  .rename_i q m;simp only[zB]at h;subst h;unfold Program.underlying;rw[f];split
   .rename_i a;simp only[zB]at a;subst a;exact absurd rfl (m _ _)
   .rename_i a;simp only[zB]at a;subst a;rfl
   .rename_i a;simp at a
 .simp at h
theorem Ok.size {t:TypeId}{n:Nat}(h:X.size t=some n): ∃i,P.info? t=some i/\i.size=n:=by
 simp only[Cx.size]at h;split at h
 .rename_i i hi;simp only[zB]at h;exact⟨i,hX.ty _ _ hi,h⟩
 .simp at h
theorem Ok.run_und (t:X.und h=some L)(w:World):(underlying h).run P w= .ok L w:=run_underlying (hX.und t) w
theorem Ok.run_size (t:X.size h=some n)(w:World):(sizeOf h).run P w= .ok n w:=by
 obtain⟨i,a,f⟩:=hX.size t;simp[sizeOf,typeInfo,a,f]
theorem Ok.run_isAgg (t:X.und h=some L)(w:World):(isAgg h).run P w= .ok (isAggD L) w:=by
 unfold isAgg;simp only[zG,hX.run_und t,Result.andThen]
 cases L<;>rfl
theorem Ok.zero (R:Ren){t:TypeId}{x:AV}(h:zeroA X t=some x): ∃i v,P.info? t=some i/\i.zero=some v/\VR R x v:=by
 simp only[zeroA]at h;split at h
 .rename_i i hi;split at h
  .rename_i z a;exact⟨i,z,hX.ty _ _ hi,a,ofV_ok R z x h⟩
  .simp at h
 .simp at h
theorem Ok.run_zero (R:Ren){x:AV}(t:zeroA X h=some x)(w:World): ∃v,(zeroValue h).run P w= .ok v w/\VR R x v:=by
 obtain⟨i,v,a,f,h3⟩:=hX.zero R t;exact⟨v,by simp[zeroValue,typeInfo,a,f],h3⟩
end
theorem vals_ok {R:Ren} : ∀l:List Value,VRL R (l.map AV.val) l
 | []=>rfl
 | v::l=>⟨v,l,rfl,rfl,vals_ok l⟩
theorem cells_ok {R:Ren} : ∀ {x:AV} {v:Value},VR R x v->VRL R (cellsA x) v.cells.toList:=by
 intro x v h
 cases x with
 | agg l=>obtain⟨l',rfl,i⟩:=h;exact i
 | bool b=>simp only[VR]at h;subst h;exact⟨_,_,rfl,by simp[VR],rfl⟩
 | int k n=>simp only[VR]at h;subst h;exact⟨_,_,rfl,by simp[VR],rfl⟩
 | str n b=>obtain⟨s,rfl,i⟩:=h;exact⟨_,_,rfl,⟨s,rfl,i⟩,rfl⟩
 | nP=>simp only[VR]at h;subst h;exact⟨_,_,rfl,by simp[VR],rfl⟩
 | ptr A o=>obtain⟨b,d,c,i,rfl⟩:=h;exact⟨_,_,rfl,⟨b,d,c,i,rfl⟩,rfl⟩
 | nS=>simp only[VR]at h;subst h;exact⟨_,_,rfl,by simp[VR],rfl⟩
 | slice A o n cc=>obtain⟨b,d,c,i,rfl⟩:=h;exact⟨_,_,rfl,⟨b,d,c,i,rfl⟩,rfl⟩
 | eS=>obtain⟨a,c,rfl⟩:=h;exact⟨_,_,rfl,⟨a,c,rfl⟩,rfl⟩
 | nM=>simp only[VR]at h;subst h;exact⟨_,_,rfl,by simp[VR],rfl⟩
 | map A=>obtain⟨b,d,c,i,rfl⟩:=h;exact⟨_,_,rfl,⟨b,d,c,i,rfl⟩,rfl⟩
 | func f xs ys=>obtain⟨j,m,rfl,i,p⟩:=h;exact⟨_,_,rfl,⟨j,m,rfl,i,p⟩,rfl⟩
 | yT A=>obtain⟨b,d,c,i,rfl⟩:=h;exact⟨_,_,rfl,⟨b,d,c,i,rfl⟩,rfl⟩
 | nilFunc=>simp only[VR]at h;subst h;exact⟨_,_,rfl,by simp[VR],rfl⟩
 | iface t x=>obtain⟨q,rfl,i⟩:=h;exact⟨_,_,rfl,⟨q,rfl,i⟩,rfl⟩
 | nilIface=>simp only[VR]at h;subst h;exact⟨_,_,rfl,by simp[VR],rfl⟩
 | tuple l=>obtain⟨l',rfl,i⟩:=h;exact⟨_,_,rfl,⟨l',rfl,i⟩,rfl⟩
 | val x=>simp only[VR]at h;subst h;exact vals_ok _
def oneV:Value->Prop
 | .agg _=>False
 | .tuple _=>False
 | _=>True
theorem isCell_ok {R:Ren}{x:AV}(h:VR R x i)(j:isCell x=true):oneV i:=by
 cases x with
 | agg l=>simp[isCell]at j
 | tuple l=>simp[isCell]at j
 | bool b=>simp only[VR]at h;subst h;trivial
 | int k n=>simp only[VR]at h;subst h;trivial
 | str n b=>obtain⟨s,rfl,v⟩:=h;trivial
 | nP=>simp only[VR]at h;subst h;trivial
 | ptr A o=>obtain⟨b,d,c,v,rfl⟩:=h;trivial
 | nS=>simp only[VR]at h;subst h;trivial
 | slice A o n cc=>obtain⟨b,d,c,v,rfl⟩:=h;trivial
 | eS=>obtain⟨a,c,rfl⟩:=h;trivial
 | nM=>simp only[VR]at h;subst h;trivial
 | map A=>obtain⟨b,d,c,v,rfl⟩:=h;trivial
 | func f xs ys=>obtain⟨m,p,rfl,v,q⟩:=h;trivial
 | yT A=>obtain⟨b,d,c,v,rfl⟩:=h;trivial
 | nilFunc=>simp only[VR]at h;subst h;trivial
 | iface t x=>obtain⟨u,rfl,v⟩:=h;trivial
 | nilIface=>simp only[VR]at h;subst h;trivial
 | val x=>simp[isCell]at j
theorem allCells_ok {R:Ren} : ∀ {l:List AV} {m:List Value},VRL R l m->allCells l=true-> ∀v∈m,oneV v
 | [],m,h,_=>by simp only[VRL]at h;subst h;simp
 | x::l,m,h,hc=>by
  obtain⟨j,o,rfl,f,i⟩:=h;simp only[allCells,zE]at hc;intro v a;rcases zM.1 a with rfl | a
  .exact isCell_ok f hc.1
  .exact allCells_ok i hc.2 v a
theorem add_none (b o n:Nat):(⟨b,o,none⟩:Addr).add n=⟨b,o+n,none⟩:=by
 unfold Addr.add;split
 .subst_vars;rfl
 .rfl
theorem wput_wput (w:World)(b:Nat)(x y:Obj):wput (wput w b x) b y=wput w b y:=by
 simp[wput]
theorem wput_self (w:World)(b:Nat)(x:Obj)(h:w.heap[b]? =some x):wput w b x=w:=by
 have:w.heap.setIfInBounds b x=w.heap:=by
  apply Array.ext_getElem?;intro i;rw[Array.getElem?_setIfInBounds];split
  .subst_vars
   split
   .exact h.symm
   .rename_i a;rw[Array.getElem?_eq_none (by omega)]
  .rfl
 simp[wput,this]
theorem setCell_wput (w:World)(b o:Nat)(v:Value)(arr:Array Value)(e:TypeId)(f:Nat×Nat)(h:w.heap[b]? =some (.cells arr e f)):
  w.setCell ⟨b,o,none⟩ v=wput w b (.cells (arr.setIfInBounds o v) e f):=by
 have hb:b<w.heap.size:=by
  rcases Nat.lt_or_ge b w.heap.size with a | a
  .exact a
  .rw[Array.getElem?_eq_none a]at h;cases h
 unfold World.setCell wput;congr 1;apply Array.ext_getElem?;intro i;rw[Array.getElem?_modify,Array.getElem?_setIfInBounds];by_cases e:b=i
 .subst e;rw[if_pos rfl,if_pos rfl,h,if_pos hb];rfl
 .rw[if_neg e,if_neg e]
def arrSet (arr:Array Value)(o:Nat):List Value->Array Value
 | []=>arr
 | v::vs=>arrSet (arr.setIfInBounds o v) (o+1) vs
theorem arrSet_size (vs:List Value): ∀(arr:Array Value) (o:Nat),(arrSet arr o vs).size=arr.size:=by
 induction vs with
 | nil=>intro arr o;rfl
 | cons v vs ih=>intro arr o;simp[arrSet,ih]
theorem arrSet_toList (vs:List Value): ∀(arr:Array Value) (o:Nat),o+vs.length<=arr.size->(arrSet arr o vs).toList=arr.toList.take o++vs++arr.toList.drop (o+vs.length):=by
 induction vs with
 | nil=>intro arr o h;simp[arrSet]
 | cons v vs ih=>
  intro arr o h;simp only[zV]at h;rw[arrSet,ih _ _ (by simp;omega)];have f:o<arr.toList.length:=by rw[yN];omega
  rw[Array.toList_setIfInBounds];have a:(arr.toList.set o v).take (o+1)=arr.toList.take o++[v]:=by
   rw[List.take_set,List.set_eq_take_append_cons_drop];simp[List.take_take];omega
  rw[a];simp only[qC,List.singleton_append,zV];rw[List.drop_set_of_lt (by omega)];rw[show o+1+vs.length=o+(vs.length+1)from by omega]
theorem run_storeCells {P:Program}(e:TypeId)(a:Nat×Nat)(b o:Nat): ∀(vs:List Value) (i:Nat) (w:World) (arr:Array Value),w.heap[b]? =some (.cells arr e a)->o+i+vs.length<=arr.size->(∀v∈vs,oneV v)->
  (∀k,k<arr.size-> ¬(a.1<=k/\k<a.2))->(storeCells ⟨b,o,none⟩ vs i).run P w= .ok () (wput w b (.cells (arrSet arr (o+i) vs) e a)):=by
 intro vs
 induction vs with
 | nil=>intro i w arr h _ _ _;simp[storeCells,arrSet,wput_self w b _ h,zJ]
 | cons v vs ih=>
  intro i w arr h hl f j;simp only[zV]at hl;have hb:b<w.heap.size:=by
   rcases Nat.lt_or_ge b w.heap.size with f | f
   .exact f
   .rw[Array.getElem?_eq_none f]at h;cases h
  have q:w.cell? ⟨b,o+i,none⟩=some arr[o+i]:=by
   simp[World.cell?,h,Array.getElem?_eq_getElem (show o+i<arr.size by omega)]
  have s:w.frozen? ⟨b,o+i,none⟩=false:=by
   simp only[World.frozen?,h];rw[qX];intro m;simp only[zE,zU]at m;exact j (o+i) (by omega) m
  have p:(store (⟨b,o+i,none⟩:Addr) v).run P w= .ok () (w.setCell ⟨b,o+i,none⟩ v):=by
   have t:=f v (zH ..)
   cases v<;>first | exact t.elim | simp[store,Sem.run,q,s]
  have x:(wput w b (.cells (arr.setIfInBounds (o+i) v) e a)).heap[b]? =some (.cells (arr.setIfInBounds (o+i) v) e a):=wput_same _ _ _ hb;rw[storeCells,zG,add_none,p,setCell_wput w b _ v arr e a h];simp only[Result.andThen];rw[ih (i+1) _ _ x (by simp;omega) (fun u y=>f u (zC _ y)) (by simpa using j),wput_wput,arrSet,show o+(i+1)=o+i+1 from by omega]
theorem setW_eq {l new r:List AV}(h:(bif Nat.blt 0 n then setAt l E new else none)=some r):setAt l E new=some r/\0<n:=by
 rw[zF]at h;split at h
 .rename_i a;exact⟨h,by simpa using a⟩
 .simp at h
section
variable {R:Ren}{H:AH}{w:World}{A b d c:Nat}{l:List AV}{e:TypeId}{sz:Nat}{g:Bool}
theorem Rel.cellsAt (h:Rel R H w)(j:H.h.get A=some (.cells l e sz g))(hR:R A b d c): ∃(arr:Array Value) (a:Nat×Nat) (pre l' f:List Value),w.heap[b]? =some (.cells arr e a)/\arr.toList=pre++(l'++f)/\pre.length=d/\VRL R l l'/\
   (g=false->f=[]/\(0<sz->a=(0,0))/\(sz=0->c=enc a))/\(g=true->l'.length+f.length=c*sz/\c<9223372036854775808)/\(0<sz-> ∀i,i<arr.size-> ¬(a.1<=i/\i<a.2))/\ ∃m,VRL R m f:=h.obj _ _ _ _ _ hR j
theorem Rel.live (a:H.h.get A=some (.cells l e sz g)):Live H A:=⟨_,a,trivial⟩
theorem Rel.cell (h:Rel R H w)(j:H.h.get A=some (.cells l e sz g))(hR:R A b d c){o:Nat}{x:AV}(m:l[o]? =some x): ∃v,w.cell? ⟨b,d+o,none⟩=some v/\VR R x v:=by
 obtain⟨arr,u,pre,l',t,p,q,h3,s,_⟩:=h.cellsAt j hR;obtain⟨v,a,f⟩:=VRL.get l l' s o x m;refine⟨v, ?_,f⟩;simp only[World.cell?,p,Option.isSome_none,zL,qD];have i:o<l'.length:=(qN.1 a).1;rw[<-yM,q,j5 (by omega),show d+o - pre.length=o from by omega,yQ i];exact a
theorem Rel.loads (h:Rel R H w)(s:H.h.get A=some (.cells l e sz g))(hR:R A b d c){P:Program}{r:List AV}(hr:subN l n E=some r):
  ∃vs:List Value,(loadCells ⟨b,d+n,none⟩ E).run P w= .ok vs.toArray w/\VRL R r vs/\vs.length=E:=by
 obtain⟨m,y⟩:=subN_eq _ _ _ _ hr;obtain⟨arr,F,pre,l',x,t,u,h3,i,_⟩:=h.cellsAt s hR;have z:=jN l l' i;have p:VRL R r ((l'.drop n).take E):=by rw[m];exact(i.drop n).take E
 have f:((l'.drop n).take E).length=E:=by
  rw[qA,qK];omega
 refine⟨(l'.drop n).take E, ?_,p,f⟩;have hl:=run_loadCells_list (P:=P) w ⟨b,d+n,none⟩ ((l'.drop n).take E) (fun j v a=>by
  have C:=(qN.1 a).1;rw[add_none];simp only[World.cell?,t,Option.isSome_none,zL,qD];rw[jD (by omega),jE]at a;have q:n+j<l'.length:=(qN.1 a).1;rw[<-yM,u,j5 (by omega),show d+n+j - pre.length=n+j from by omega,yQ q];exact a)
 rw[f]at hl;exact hl
theorem Rel.stores (h:Rel R H w)(s:H.h.get A=some (.cells l e sz g))(hR:R A b d c){P:Program}{new r:List AV}(G:setAt l n new=some r)(f:0<sz)(j:VRL R new I)(o:allCells new=true)
  {m:T AObj} (t:T.set 40 H.h A (.cells r e sz g)=some m):
  ∃p,(storeCells ⟨b,d+n,none⟩ I).run P w= .ok () p/\Rel R ⟨m,H.next⟩ p/\Ext R H w R ⟨m,H.next⟩ p:=by
 obtain⟨hr,M⟩:=setAt_eq _ _ _ _ G;obtain⟨arr,u,pre,l',a,J,v,h3,q,h5,h6,h7,h8⟩:=h.cellsAt s hR;have N:=jN l l' q;have z:=jN new I j;have O:arr.size=d+l'.length+a.length:=by
  have:=congrArg List.length v;simp at this;omega
 have y:=run_storeCells (P:=P) e u b (d+n) I 0 w arr J (by omega) (allCells_ok j o) (h7 f);refine⟨_,y, ?_,Ext.put hR t⟩;refine h.put hR (Rel.live s) t ?_;have C:(arrSet arr (d+n+0) I).toList=pre++((l'.take n++I++l'.drop (n+I.length))++a):=by
  rw[arrSet_toList _ _ _ (by omega),v];have K:(pre++(l'++a)).take (d+n+0)=pre++l'.take n:=by
   rw[List.take_append,zW (by omega),List.take_append];rw[show d+n+0 - pre.length=n from by omega];rw[show n - l'.length=0 from by omega];simp
  have L:(pre++(l'++a)).drop (d+n+0+I.length)=l'.drop (n+I.length)++a:=by
   rw[List.drop_append,qQ (by omega),List.drop_append];rw[show d+n+0+I.length - pre.length=n+I.length from by omega];rw[show n+I.length - l'.length=0 from by omega];simp
  rw[K,L];simp
 refine⟨arrSet arr (d+n+0) I,u,pre,l'.take n++I++l'.drop (n+I.length),a,rfl,C,h3, ?_,h5, ?_, ?_,h8⟩
 .rw[hr];have F:VRL R (l.drop (n+new.length)) (l'.drop (n+I.length)):=by rw[z];exact q.drop _
  exact((q.take n).append j).append F
 .intro x;refine⟨?_,(h6 x).2⟩;have:=(h6 x).1;rw[<-this];simp;omega
 .intro f i hi;rw[arrSet_size]at hi;exact h7 f i hi
end
def RFn (R:Ren):Prop:= ∀A b d c a d' c',R A b d c->R A a d' c'->b=a/\d=d'/\c=c'
theorem bits_and (hm:n<kmod B)(h:E<kmod B):(BitVec.ofInt B.bits (Int.ofNat n)&&& BitVec.ofInt B.bits (Int.ofNat E)).toNat=Nat.land n E:=by
 have a:(BitVec.ofInt B.bits (Int.ofNat n)).toNat=n:=by
  cases B<;>simp[BitVec.toNat_ofInt,IntKind.bits,kmod]at* <;>omega
 have f:(BitVec.ofInt B.bits (Int.ofNat E)).toNat=E:=by
  cases B<;>simp[BitVec.toNat_ofInt,IntKind.bits,kmod]at* <;>omega
 rw[BitVec.toNat_and,a,f];rfl
theorem bits_or (hm:n<kmod B)(h:E<kmod B):(BitVec.ofInt B.bits (Int.ofNat n)||| BitVec.ofInt B.bits (Int.ofNat E)).toNat=Nat.lor n E:=by
 have a:(BitVec.ofInt B.bits (Int.ofNat n)).toNat=n:=by
  cases B<;>simp[BitVec.toNat_ofInt,IntKind.bits,kmod]at* <;>omega
 have f:(BitVec.ofInt B.bits (Int.ofNat E)).toNat=E:=by
  cases B<;>simp[BitVec.toNat_ofInt,IntKind.bits,kmod]at* <;>omega
 rw[BitVec.toNat_or,a,f];rfl
theorem bits_xor (hm:n<kmod B)(h:E<kmod B):(BitVec.ofInt B.bits (Int.ofNat n) ^^^ BitVec.ofInt B.bits (Int.ofNat E)).toNat=Nat.xor n E:=by
 have a:(BitVec.ofInt B.bits (Int.ofNat n)).toNat=n:=by
  cases B<;>simp[BitVec.toNat_ofInt,IntKind.bits,kmod]at* <;>omega
 have f:(BitVec.ofInt B.bits (Int.ofNat E)).toNat=E:=by
  cases B<;>simp[BitVec.toNat_ofInt,IntKind.bits,kmod]at* <;>omega
 rw[BitVec.toNat_xor,a,f];rfl
theorem abits_slow {b:Int}{r:AV}(h:abits.slow C B z b=some r) : ∃n,r= .int B n/\(Op.intBits C B z b).run q t= .ok (.int B n) t:=by
 cases C<;>simp only[abits.slow,fI_eq,zB]at h<;>first | (subst h;exact⟨_,rfl,rfl⟩) | (simp at h)
theorem abits_ok {b:Int}{r:AV}(h:abits C B z b=some r){P:Program}{w:World} : ∃n,r= .int B n/\(Op.intBits C B z b).run P w= .ok (.int B n) w:=by
 unfold abits at h;split at h
 .rename_i m n;rw[zF]at h;split at h
  .rename_i f;simp only[zE,q9]at f;rw[mkI_eq,zB]at h;subst h;refine⟨_,rfl, ?_⟩;simp only[Op.intBits,bits_and f.1.2 f.2];rfl
  .exact abits_slow h
 .rename_i m n;rw[zF]at h;split at h
  .rename_i f;simp only[zE,q9]at f;rw[mkI_eq,zB]at h;subst h;refine⟨_,rfl, ?_⟩;simp only[Op.intBits,bits_or f.1.2 f.2];rfl
  .exact abits_slow h
 .rename_i m n;rw[zF]at h;split at h
  .rename_i f;simp only[zE,q9]at f;rw[mkI_eq,zB]at h;subst h;refine⟨_,rfl, ?_⟩;simp only[Op.intBits,bits_xor f.1.2 f.2];rfl
  .exact abits_slow h
 .exact abits_slow h
theorem abinI_ok {k':IntKind}{b:Int}{r:AV}(k:abinI C B z k' b=some r)(R:Ren):
  ∃i,(binOp C h (.int B z) (.int k' b)).run q t= .ok i t/\VR R r i:=by
 cases C
 case shl=>
  cases b with
  | negSucc m=>simp[abinI]at k
  | ofNat m=>
   simp only[abinI,mkI_eq,zB]at k;subst k;refine⟨_, ?_,rfl⟩;simp[binOp,Op.shift,zJ,Nat.min_def];intro o;omega
 case shr=>
  cases b with
  | negSucc m=>simp[abinI]at k
  | ofNat m=>
   simp only[abinI,fI_eq,zB]at k;subst k;refine⟨_, ?_,rfl⟩;simp[binOp,Op.shift,zJ,Nat.min_def];intro o;omega
 all_goals
  simp only[abinI,keq_eq]at k;rw[zF]at k;split at k
  rotate_left
  .simp at k
  rename_i j;simp only[zU]at j;subst j
 case add=>rw[mkI_eq,zB]at k;subst k;exact⟨_,by simp[binOp,Op.intArith,zJ],rfl⟩
 case sub=>rw[mkI_eq,zB]at k;subst k;exact⟨_,by simp[binOp,Op.intArith,zJ],rfl⟩
 case mul=>rw[mkI_eq,zB]at k;subst k;exact⟨_,by simp[binOp,Op.intArith,zJ],rfl⟩
 case quo=>
  rw[ieq_eq,zF]at k;split at k
  .simp at k
  .rename_i hb;rw[mkI_eq,zB]at k;subst k;have f: ¬b=0:=by simpa using hb
   exact⟨_,by simp[binOp,Op.intDiv,f,zJ],rfl⟩
 case rem=>
  rw[ieq_eq,zF]at k;split at k
  .simp at k
  .rename_i hb;rw[fI_eq,zB]at k;subst k;have f: ¬b=0:=by simpa using hb
   exact⟨_,by simp[binOp,Op.intDiv,f,zJ],rfl⟩
 case and=>obtain⟨n,rfl,hr⟩:=abits_ok (P:=q) (w:=t) k;exact⟨_,by simp[binOp,hr],rfl⟩
 case or=>obtain⟨n,rfl,hr⟩:=abits_ok (P:=q) (w:=t) k;exact⟨_,by simp[binOp,hr],rfl⟩
 case xor=>obtain⟨n,rfl,hr⟩:=abits_ok (P:=q) (w:=t) k;exact⟨_,by simp[binOp,hr],rfl⟩
 case andNot=>obtain⟨n,rfl,hr⟩:=abits_ok (P:=q) (w:=t) k;exact⟨_,by simp[binOp,hr],rfl⟩
 case eql=>rw[mkB_eq,zB,ieq_eq]at k;subst k;exact⟨_,by simp[binOp,Op.intCmp,zJ],rfl⟩
 case neq=>rw[mkB_eq,zB,ieq_eq]at k;subst k;exact⟨_,by simp[binOp,Op.intCmp,zJ];rfl,rfl⟩
 case lss=>rw[mkB_eq,zB,ilt_eq]at k;subst k;exact⟨_,by simp[binOp,Op.intCmp,zJ],rfl⟩
 case leq=>
  rw[mkB_eq,zB,ilt_eq]at k;subst k;refine⟨.bool (decide (z<=b)),by simp[binOp,Op.intCmp,zJ], ?_⟩;simp only[VR,Value.bool.injEq];rw[yG];simp
 case gtr=>rw[mkB_eq,zB,ilt_eq]at k;subst k;exact⟨.bool (decide (b<z)),by simp[binOp,Op.intCmp,zJ],rfl⟩
 case geq=>
  rw[mkB_eq,zB,ilt_eq]at k;subst k;refine⟨.bool (decide (b<=z)),by simp[binOp,Op.intCmp,zJ], ?_⟩;simp only[VR,Value.bool.injEq];rw[yG];simp
theorem str_eq (s u:ByteArray):(Nat.beq s.size u.size&&Nat.beq (pack s.data.toList) (pack u.data.toList))=(s.data.toList==u.data.toList):=by
 rw[yG];simp only[zE,zX,beq_iff_eq];constructor
 .rintro⟨h1,h2⟩
  exact pack_inj _ _ (by rw[size_data,size_data];exact h1) h2
 .intro h;refine⟨?_,by rw[h]⟩;rw[<-size_data,<-size_data,h]
theorem abinS_ok {s u:ByteArray}{r:AV}(a:abinS C s.size (pack s.data.toList) u.size (pack u.data.toList)=some r)(R:Ren):
  ∃z,(binOp C h (.string s) (.string u)).run q t= .ok z t/\VR R r z:=by
 have hl:sless s.size (pack s.data.toList) u.size (pack u.data.toList)=Op.bytesLess s.data.toList u.data.toList:=by
  rw[<-size_data,<-size_data];exact sless_eq _ _
 cases C<;>simp only[abinS,str_eq,hl]at a
 case add=>
  rw[zF]at a;split at a
  .rename_i f;rw[q9]at f;rw[mkS_eq,zB]at a;subst a;refine⟨.string (s++u), ?_,s++u,rfl,ByteArray.size_append, ?_⟩
   .have: ¬(((s.size+u.size:Nat):Int)>IntKind.i64.max):=by
     simp only[IntKind.max,IntKind.signed,IntKind.bits];simp;omega
    simp only[binOp,Op.stringOp];rw[if_neg this];rfl
   .rw[ByteArray.data_append,Array.toList_append,pack_append,size_data,pow8]
  .simp at a
 case eql=>rw[mkB_eq,zB]at a;subst a;exact⟨_,by simp[binOp,Op.stringOp,toList_data,zJ],rfl⟩
 case neq=>rw[mkB_eq,zB]at a;subst a;exact⟨_,by simp[binOp,Op.stringOp,toList_data,zJ],rfl⟩
 case lss=>rw[mkB_eq,zB]at a;subst a;exact⟨_,by simp[binOp,Op.stringOp,toList_data,zJ],rfl⟩
 case leq=>rw[mkB_eq,zB]at a;subst a;exact⟨_,by simp[binOp,Op.stringOp,toList_data,zJ],rfl⟩
 case gtr=>rw[mkB_eq,zB]at a;subst a;exact⟨_,by simp only[binOp,Op.stringOp,toList_data];rfl,rfl⟩
 case geq=>rw[mkB_eq,zB]at a;subst a;exact⟨_,by simp[binOp,Op.stringOp,toList_data,zJ],rfl⟩
 all_goals simp at a
theorem bytes_beq (s t:ByteArray):(s==t)=(s.data.toList==t.data.toList):=by
 have h:(s==t)=(s.data==t.data):=rfl;rw[h,yG];simp[<-Array.toList_inj]
section
variable {P:Program}{X:Cx}(hX:Ok P X){R:Ren}(hR:RFn R){w:World}
include hX hR
theorem aeq_ok {m:Nat}{x y:AV}(t:aeq X n h x y=some Y)(a:VR R x i)(f:VR R y s):(Op.equalIn (m+1) h i s).run P w= .ok Y w:=by
 cases n with
 | zero=>simp[aeq]at t
 | succ n=>
  simp only[aeq]at t;split at t
  .rename_i hd;have e:=hX.run_und hd w
   cases x<;>cases y<;>simp at t
   simp only[VR]at a f;subst a f t;simp[Op.equalIn,zG,e,zJ]
  .rename_i hd;have e:=hX.run_und hd w
   cases x<;>cases y<;>simp[zF,keq_eq,ieq_eq]at t
   obtain⟨rfl,rfl⟩:=t;simp only[VR]at a f;subst a f;simp[Op.equalIn,zG,e,zJ]
  .rename_i hd;have e:=hX.run_und hd w
   cases x<;>cases y<;>simp at t
   obtain⟨u,rfl,rfl,rfl⟩:=a;obtain⟨z,rfl,rfl,rfl⟩:=f;rw[<-t,str_eq u z,<-bytes_beq];simp[Op.equalIn,zG,e,zJ]
  .rename_i o hd;have e:=hX.run_und hd w
   cases x<;>cases y<;>simp at t
   .simp only[VR]at a f;subst a f t;simp[Op.equalIn,zG,e,zJ]
   .simp only[VR]at a;obtain⟨b1,j,c1,v,rfl⟩:=f;subst a t;simp[Op.equalIn,zG,e,zJ]
   .simp only[VR]at f;obtain⟨b1,j,c1,v,rfl⟩:=a;subst f t;simp[Op.equalIn,zG,e,zJ]
   .obtain⟨b1,j,c1,v,rfl⟩:=a;obtain⟨b2,L,c2,C,rfl⟩:=f;split at t
    .simp at t
    .rename_i k F G;have es:=hX.run_size G w;rw[zF]at t;split at t
     .rename_i p;rw[zX]at p;subst p;obtain⟨rfl,rfl,rfl⟩:=hR _ _ _ _ _ _ _ v C;simp only[zB]at t;subst t;have q: ¬k=0:=fun I=>F (by rw[I])
      simp only[Op.equalIn,zG,e,es,Result.andThen,ne_eq,q,jA,if_true,sameAddr,beq_self_eq_true];simp only[zJ];congr 1;rw[yG];simp[zX]
     .simp at t
    .simp at t
  .rename_i o hd;have e:=hX.run_und hd w
   cases x<;>cases y<;>simp at t
   .simp only[VR]at a f;subst a f t;simp[Op.equalIn,zG,e,zJ]
   .simp only[VR]at a;obtain⟨b1,j,c1,v,rfl⟩:=f;subst a t;simp[Op.equalIn,zG,e,zJ]
   .simp only[VR]at f;obtain⟨b1,j,c1,v,rfl⟩:=a;subst f t;simp[Op.equalIn,zG,e,zJ]
  .rename_i o K hd;have e:=hX.run_und hd w
   cases x<;>cases y<;>simp at t
   .simp only[VR]at a f;subst a f t;simp[Op.equalIn,zG,e,zJ]
   .simp only[VR]at a;obtain⟨b1,j,c1,v,rfl⟩:=f;subst a t;simp[Op.equalIn,zG,e,zJ]
   .simp only[VR]at f;obtain⟨b1,j,c1,v,rfl⟩:=a;subst f t;simp[Op.equalIn,zG,e,zJ]
  .rename_i M N f3 hd;have e:=hX.run_und hd w
   cases x<;>cases y<;>simp at t
   .obtain⟨xs,J,rfl,_⟩:=a;simp only[VR]at f;subst f t;simp[Op.equalIn,zG,e,zJ]
   .simp only[VR]at a;obtain⟨xs,J,rfl,_⟩:=f;subst a t;simp[Op.equalIn,zG,e,zJ]
   .simp only[VR]at a f;subst a f t;simp[Op.equalIn,zG,e,zJ]
  .simp at t
end
theorem icode_inj {b:IntKind}(h:icode B=icode b):B=b:=by cases B<;>cases b<;>simp[icode]at h<;>rfl
theorem icode_ge (a:IntKind):3<=icode a:=by cases a<;>simp[icode]
def vEq (q:Nat)(x y:Value):Option Bool:=
 match x,y with
 | .bool a, .bool b=>if q=0 then some (a==b)else none
 | .int k a, .int k' b=>if q=icode k/\k=k' then some (a==b)else none
 | .string a, .string b=>if q=2 then some (a==b)else none
 | _,_=>none
def vsEq:List Nat->List Value->List Value->Option Bool
 | [],[],[]=>some true
 | q::qs,x::xs,y::ys=>match vEq q x y with
  | some true=>vsEq qs xs ys
  | some false=>some false
  | none=>none
 | _,_,_=>none
theorem vsEq_append: ∀(f:List Nat) (rs:List Nat) (a b c d:List Value),a.length=f.length->b.length=f.length->vsEq (f++rs) (a++c) (b++d)=(match vsEq f a b with | some true=>vsEq rs c d | some false=>some false | none=>none)
 | [],rs,a,b,c,d,h1,h2=>by
  have:a=[]:=zR h1;have:b=[]:=zR h2;subst a b;simp[vsEq]
 | q::f,rs,x::a,y::b,c,d,h1,h2=>by
  simp only[qB,vsEq]
  cases vEq q x y with
  | none=>rfl
  | some r=>cases r with
   | false=>rfl
   | true=>exact vsEq_append f rs a b c d (by simpa using h1) (by simpa using h2)
 | _::_,_,[],_,_,_,h,_=>by simp at h
 | _::_,_,_::_,[],_,_,_,h=>by simp at h
theorem cellEq_ok {R:Ren}{x y:AV}(h:cellEq n x y=some Y)(a:VR R x i)(f:VR R y s):vEq n i s=some Y:=by
 unfold cellEq at h;split at h
 .simp only[zF,zX]at h;simp only[VR]at a f;subst a f;exact h
 .simp only[zF,keq_eq,zE,zX,zU]at h;simp only[VR]at a f;subst a f;simp only[vEq];rw[ieq_eq]at h;exact h
 .simp only[zF,zX]at h;obtain⟨v,rfl,rfl,rfl⟩:=a;obtain⟨q,rfl,rfl,rfl⟩:=f;rw[str_eq]at h;simp only[vEq];rw[bytes_beq];exact h
 .simp at h
theorem cellsEq_ok {R:Ren} : ∀ {f:List Nat} {xs i:List AV} {vs a:List Value} {b:Bool},cellsEq f xs i=some b->VRL R xs vs->VRL R i a->vsEq f vs a=some b
 | [],[],[],vs,a,b,h,hv,hu=>by simp only[VRL]at hv hu;subst hv hu;exact h
 | q::f,x::xs,y::i,vs,a,b,h,hv,hu=>by
  obtain⟨v,vs',rfl,j,m⟩:=hv;obtain⟨u,p,rfl,h3,o⟩:=hu;simp only[cellsEq]at h;simp only[vsEq];split at h
  .rename_i e;rw[cellEq_ok e j h3];exact cellsEq_ok h m o
  .rename_i e;rw[cellEq_ok e j h3];exact h
  .simp at h
 | [],[],_::_,_,_,_,h,_,_=>by simp[cellsEq]at h
 | [],_::_,_,_,_,_,h,_,_=>by simp[cellsEq]at h
 | _::_,[],_,_,_,_,h,_,_=>by simp[cellsEq]at h
 | _::_,_::_,[],_,_,_,h,_,_=>by simp[cellsEq]at h
section
variable {P:Program}
def EqF (P:Program)(m:Nat)(t:TypeId)(a:List Nat):Prop:=
 ∀(w:World) (xs f:Array Value) (off:Nat) (b:Bool),off+a.length<=xs.size->off+a.length<=f.size->vsEq a ((xs.toList.drop off).take a.length) ((f.toList.drop off).take a.length)=some b->
  ∃x y,(part t xs off).run P w= .ok x w/\(part t f off).run P w= .ok y w/\(Op.equalIn m t x y).run P w= .ok b w
theorem seg_split {xs:Array Value}{n:Nat} :xs.toList.drop E=(xs.toList.drop E).take n++xs.toList.drop (E+n):=by
 rw[<-List.drop_drop,qR]
theorem seg_len (h:n+E<=G.size):((G.toList.drop n).take E).length=E:=by
 simp;omega
theorem eqFields_flat {m:Nat}{xs i:Array Value}{n:Nat}(J:xs.size=n)(K:i.size=n){rec:TypeId->Option (List Nat)}(q: ∀t k,rec t=some k->EqF P m t k): ∀(fs:List Field) (a:Nat) (r:List Nat) (b:Bool) (w:World),fldsK P rec fs a=some r->a+r.length=n->
  vsEq r (xs.toList.drop a) (i.toList.drop a)=some b->(Op.eqFields m xs i fs).run P w= .ok b w
 | [],a,r,b,w,h,hn,hb=>by
  simp only[fldsK,zB]at h;subst h;have L:xs.toList.drop a=[]:=qQ (by simp at hn⊢;omega);have M:i.toList.drop a=[]:=qQ (by simp at hn⊢;omega);rw[L,M]at hb;simp only[vsEq,zB]at hb;subst hb;simp[Op.eqFields]
 | f::fs,a,r,b,w,h,hn,hb=>by
  simp only[fldsK]at h;split at h
  .rename_i k j z Q;rw[zF]at h;split at h
   .rename_i C;simp only[zE,yS,zX]at C;obtain⟨⟨N,F⟩,h3⟩:=C;split at h
    .rename_i O G;simp only[zB]at h;subst h;simp only[zT]at hn;have s:a+k.length<=xs.size:=by omega
     have u:a+k.length<=i.size:=by omega
     rw[seg_split (n:=k.length),seg_split (xs:=i) (n:=k.length),vsEq_append _ _ _ _ _ _ (seg_len s) (seg_len u)]at hb
     have I:f.name≠ "_":=by simpa using N
     simp only[Op.eqFields,if_pos I];split at hb
     .rename_i e;obtain⟨x,y,o,p,v⟩:=q _ _ z w xs i a true s u e;rw[<-F]at o p;simp only[zG,o,p,v,Result.andThen_ok];simpa using eqFields_flat J K q fs (a+j.size) O b w G (by omega) (by rw[<-h3];exact hb)
     .rename_i e;obtain⟨x,y,o,p,v⟩:=q _ _ z w xs i a false s u e;rw[<-F]at o p;simp only[zB]at hb;subst hb;simp[zG,o,p,v]
     .simp at hb
    .simp at h
   .simp at h
  .simp at h
theorem eqItems_flat {m c:Nat}{k:List Nat}{e:TypeId}{xs a:Array Value}(s:k.length=c)(j:EqF P m e k): ∀(n i:Nat) (b:Bool) (w:World),xs.size=(i+n)*c->a.size=(i+n)*c->
  vsEq (List.replicate n k).flatten (xs.toList.drop (i*c)) (a.toList.drop (i*c))=some b->(Op.eqItems m e c xs a (List.range' i n)).run P w= .ok b w
 | 0,i,b,w,hx,hy,hb=>by
  have t:xs.toList.drop (i*c)=[]:=qQ (by simp;rw[hx];simp);have u:a.toList.drop (i*c)=[]:=qQ (by simp;rw[hy];simp);rw[t,u]at hb;simp only[List.replicate_zero,List.flatten_nil,vsEq,zB]at hb;subst hb;simp[Op.eqItems]
 | n+1,i,b,w,hx,hy,hb=>by
  subst s;have v:(i+(n+1))*k.length=i*k.length+k.length+n*k.length:=by rw[yZ,yZ];omega
  have f:i*k.length+k.length<=xs.size:=by omega
  have h:i*k.length+k.length<=a.size:=by omega
  have hi:i*k.length+k.length=(i+1)*k.length:=by rw[yZ];omega
  rw[List.replicate_succ,List.flatten_cons,seg_split (n:=k.length),seg_split (xs:=a) (n:=k.length),vsEq_append _ _ _ _ _ _ (seg_len f) (seg_len h)]at hb;simp only[List.range'_succ,Op.eqItems];split at hb
  .rename_i e;obtain⟨x,y,o,p,q⟩:=j w xs a (i*k.length) true f h e;simp only[zG,o,p,q,Result.andThen_ok];have:=eqItems_flat rfl j n (i+1) b w (by rw[hx];congr 1;omega) (by rw[hy];congr 1;omega) (by rw[<-hi];exact hb);simpa using this
  .rename_i e;obtain⟨x,y,o,p,q⟩:=j w xs a (i*k.length) false f h e;simp only[zB]at hb;subst hb;simp[zG,o,p,q]
  .simp at hb
theorem agg_flat: ∀(d:Nat) (t:TypeId) (o:List Nat),flatK P d t=some o-> ∀m,d<=m->
  EqF P m t o/\ ∀(w:World) (xs a:Array Value) (b:Bool),isAggT P t=true->xs.size=o.length->a.size=o.length->vsEq o xs.toList a.toList=some b->(Op.equalIn m t (.agg xs) (.agg a)).run P w= .ok b w
 | 0,t,o,h,_,_=>by simp[flatK]at h
 | d+1,t,o,h,m,hm=>by
  obtain⟨m,rfl⟩: ∃m',m=m'+1:=⟨m - 1,by omega⟩;have Z:=agg_flat d;have T:isAggT P t=true->(∀i,P.info? t=some i->i.size=o.length)->(∀(w:World) (xs a:Array Value) (b:Bool),xs.size=o.length->a.size=o.length->vsEq o xs.toList a.toList=some b->(Op.equalIn (m+1) t (.agg xs) (.agg a)).run P w= .ok b w)->
    (∃i,P.info? t=some i)->EqF P (m+1) t o:=by
   intro F a0 v ⟨i,hi⟩ w xs a off b I J hb;have a1:=a0 i hi;have U: ∀w,(sizeOf t).run P w= .ok o.length w:=fun w=>by simp[sizeOf,typeInfo,hi,a1]
   have M: ∀p:Array Value,off+o.length<=p.size->(p.extract off (off+o.length)).toList=(p.toList.drop off).take o.length/\(p.extract off (off+o.length)).size=o.length:=by
    intro p hz;refine⟨by rw[Array.toList_extract];simp[List.extract],by simp;omega⟩
   have K:(isAgg t).run P w= .ok true w:=by
    unfold isAggT at F;split at F
    .rename_i fs f;simp[isAgg,zG,run_underlying f]
    .rename_i n e f;simp[isAgg,zG,run_underlying f]
    .simp at F
   refine⟨.agg (xs.extract off (off+o.length)), .agg (a.extract off (off+o.length)), ?_, ?_, ?_⟩
   .simp[part,zG,K,U]
   .simp[part,zG,K,U]
   .refine v w _ _ b (M xs I).2 (M a J).2 ?_;rw[(M xs I).1,(M a J).1];exact hb
  have Q: ∀q,o=[q]->(∃u,P.underlying t=some u/\isAggD u=false)->(∀w x y b,vEq q x y=some b->(Op.equalIn (m+1) t x y).run P w= .ok b w)->EqF P (m+1) t o:=by
   intro q a2 ⟨u,f,F⟩ hq w xs a off b I J hb;subst a2;simp only[j9]at I J hb;have K:(isAgg t).run P w= .ok false w:=by
    cases u<;>first | (simp[isAggD]at F;done) | simp[isAgg,zG,run_underlying f]
   have hg: ∀p:Array Value,off+1<=p.size-> ∃z,p[off]? =some z/\(p.toList.drop off).take 1=[z]:=by
    intro p hz;have a3:off<p.size:=hz;refine⟨p[off],by simp, ?_⟩;rw[qL (by simpa using a3)];simp
   obtain⟨x,x1,x2⟩:=hg xs I;obtain⟨y,y1,y2⟩:=hg a J;rw[x2,y2]at hb;have a4:vEq q x y=some b:=by
    simp only[vsEq]at hb;split at hb
    .rename_i e;rw[e];exact hb
    .rename_i e;rw[e];exact hb
    .simp at hb
   exact⟨x,y,by simp[part,zG,K,x1],by simp[part,zG,K,y1],hq w x y b a4⟩
  unfold flatK at h;split at h
  .rename_i j f s;rw[zF]at h;split at h
   .simp only[zB]at h;subst h;refine⟨Q 0 rfl ⟨_,f,rfl⟩ (fun w x y b hb=> ?_),fun _ _ _ _ L=>by simp[isAggT,f]at L⟩
    cases x<;>cases y<;>simp[vEq]at hb
    .subst hb;simp[Op.equalIn,zG,run_underlying f]
    .rename_i k1 n1 k2 n2;have:=icode_ge k1;omega
   .simp at h
  .rename_i k j f s;rw[zF]at h;split at h
   .simp only[zB]at h;subst h;refine⟨Q (icode k) rfl ⟨_,f,rfl⟩ (fun w x y b hb=> ?_),fun _ _ _ _ L=>by simp[isAggT,f]at L⟩;have a6:=icode_ge k
    cases x<;>cases y<;>simp[vEq]at hb
    .omega
    .obtain⟨⟨_,h2⟩,rfl⟩:=hb;subst h2;simp[Op.equalIn,zG,run_underlying f]
    .omega
   .simp at h
  .rename_i j f s;rw[zF]at h;split at h
   .simp only[zB]at h;subst h;refine⟨Q 2 rfl ⟨_,f,rfl⟩ (fun w x y b hb=> ?_),fun _ _ _ _ L=>by simp[isAggT,f]at L⟩
    cases x<;>cases y<;>simp[vEq]at hb
    .rename_i k1 n1 k2 n2;have:=icode_ge k1;omega
    .subst hb;simp[Op.equalIn,zG,run_underlying f]
   .simp at h
  .rename_i fs j f s;rw[zF]at h;split at h
   .rename_i V;simp only[yS]at V;split at h
    .rename_i r hr;rw[zF]at h;split at h
     .rename_i G;rw[zX]at G;simp only[zB]at h;subst h;have S:isAggT P t=true:=by simp[isAggT,f]
      have v: ∀(w:World) (xs a:Array Value) (b:Bool),xs.size=r.length->a.size=r.length->vsEq r xs.toList a.toList=some b->(Op.equalIn (m+1) t (.agg xs) (.agg a)).run P w= .ok b w:=by
       intro w xs a b N O hb;have W:P.fieldsOf t=fs:=by simp[Program.fieldsOf,f]
       rw[run_equalIn_struct w m t xs a (by rw[W];exact f) V,W];exact eqFields_flat N O (rec:=flatK P d) (fun t' k h1=>(Z t' k h1 m (by omega)).1) fs.toList 0 r b w hr (by omega) (by simpa using hb)
      exact⟨T S (fun i hi=>by rw[s]at hi;injection hi with hi;subst hi;exact G.symm) v ⟨j,s⟩,fun w xs a b _=>v w xs a b⟩
     .simp at h
    .simp at h
   .simp at h
  .rename_i len e j f s;split at h
   .rename_i k ei hk Y;rw[zF]at h;split at h
    .rename_i C;simp only[zE,zX]at C;simp only[zB]at h;subst h;have S:isAggT P t=true:=by simp[isAggT,f]
     have a5:P.cellsOf e=ei.size:=by simp[Program.cellsOf,Y]
     have G:(List.replicate len k).flatten.length=len*k.length:=by simp
     have v: ∀(w:World) (xs a:Array Value) (b:Bool),xs.size=(List.replicate len k).flatten.length->a.size=(List.replicate len k).flatten.length->vsEq (List.replicate len k).flatten xs.toList a.toList=some b->(Op.equalIn (m+1) t (.agg xs) (.agg a)).run P w= .ok b w:=by
      intro w xs a b N O hb;rw[run_equalIn_array w m xs a f Y,a5,List.range_eq_range'];rw[G]at N O;exact eqItems_flat C.2 (Z e k hk m (by omega)).1 len 0 b w (by rw[N,C.2];simp) (by rw[O,C.2];simp) (by simpa using hb)
     exact⟨T S (fun i hi=>by rw[s]at hi;injection hi with hi;subst hi;rw[G,C.2,C.1]) v ⟨j,s⟩,fun w xs a b _=>v w xs a b⟩
    .simp at h
   .simp at h
  .simp at h
theorem fldsK_all {rec:TypeId->Option (List Nat)} : ∀ {fs:List Field} {i:Nat} {r:List Nat},fldsK P rec fs i=some r-> ∀f∈fs,∃k,rec f.type=some k
 | [],_,_,_,f,a=>by simp at a
 | g::fs,i,r,h,f,a=>by
  simp only[fldsK]at h;split at h
  .rename_i k j o p;rcases zM.1 a with rfl | a
   .exact⟨k,o⟩
   .rw[zF]at h;split at h
    .split at h
     .rename_i q m;exact fldsK_all m f a
     .simp at h
    .simp at h
  .simp at h
theorem guard_flat: ∀(d:Nat) (t:TypeId) (f:List Nat),flatK P d t=some f-> ∀m,d<=m->P.eqGuardType m t=false
 | 0,t,f,h,_,_=>by simp[flatK]at h
 | d+1,t,f,h,m,hm=>by
  obtain⟨m,rfl⟩: ∃q,m=q+1:=⟨m - 1,by omega⟩;have p:=guard_flat d;unfold flatK at h;unfold Program.eqGuardType;split at h
  .rename_i a _;simp[a]
  .rename_i a _;simp[a]
  .rename_i a _;simp[a]
  .rename_i fs j a s;rw[zF]at h;split at h
   .split at h
    .rename_i r hr;simp only[a];rw[Array.any_eq_false];intro i hi;obtain⟨k,o⟩:=fldsK_all hr fs[i] (by simp);rw[p _ _ o m (by omega)];simp
    .simp at h
   .simp at h
  .rename_i len e j a s;split at h
   .rename_i k v o u;simp only[a];exact p _ _ o m (by omega)
   .simp at h
  .simp at h
end
theorem eqGuard_ok {oy:Operand}(P: ∀a,i≠ .agg a)(w:i≠ .nilIface):(eqGuard C h m oy i s).run q t= .ok () t:=by
 cases C<;>first
  | rfl
  | (cases i<;>first | (exact absurd rfl (P _)) | (exact absurd rfl w) | rfl)
section
variable {P:Program}{X:Cx}(hX:Ok P X){R:Ren}(hR:RFn R){w:World}
include hX hR
theorem abinE_ok {x y r:AV}(a:abinE X C h x y=some r)(f:VR R x i)(t:VR R y s)
  (j: ∀k n,i≠ .int k n) (o: ∀v,i≠ .string v) (p: ∀k n,i≠ .float k n) (q: ∀k n m,i≠ .complex k n m): ∃z,(binOp C h i s).run P w= .ok z w/\VR R r z:=by
 unfold abinE at a;split at a
 .split at a
  .rename_i b hb;rw[mkB_eq,zB]at a;subst a;have e:=aeq_ok hX hR (w:=w) (m:=9999) hb f t;refine⟨.bool b, ?_,rfl⟩;have:binOp .eql h i s=(do pure (.bool (← Op.equal h i s)):Sem Value):=by
    cases i<;>first | (exact absurd rfl (j _ _)) | (exact absurd rfl (o _)) | (exact absurd rfl (p _ _)) | (exact absurd rfl (q _ _ _)) | rfl
   rw[this];simp only[Op.equal,Op.maxDepth,zG,e,Result.andThen];rfl
  .simp at a
 .split at a
  .rename_i b hb;rw[mkB_eq,zB]at a;subst a;have e:=aeq_ok hX hR (w:=w) (m:=9999) hb f t;refine⟨.bool !b, ?_,rfl⟩;have:binOp .neq h i s=(do pure (.bool (!(← Op.equal h i s))):Sem Value):=by
    cases i<;>first | (exact absurd rfl (j _ _)) | (exact absurd rfl (o _)) | (exact absurd rfl (p _ _)) | (exact absurd rfl (q _ _ _)) | rfl
   rw[this];simp only[Op.equal,Op.maxDepth,zG,e,Result.andThen];rfl
  .simp at a
 .simp at a
omit hR in
theorem abinG_ok {oy:Operand}{a b:List AV}{r:AV}(t:abinG X C h a b=some r)(j:VR R (.agg a) i)(ox:VR R (.agg b) s):
  (eqGuard C h m oy i s).run P w= .ok () w/\ ∃z,(binOp C h i s).run P w= .ok z w/\VR R r z:=by
 obtain⟨vs,rfl,j⟩:=j;obtain⟨F,rfl,ox⟩:=ox;unfold abinG at t;split at t
 .rename_i G f;have o:(h,G)∈X.fl:=by
   generalize X.fl=l at f
   induction l with
   | nil=>simp[flOf]at f
   | cons x l ih=>
    obtain⟨v,ks⟩:=x;simp only[flOf,zF,zX]at f;split at f
    .rename_i e;simp only[zB]at f;subst e f;simp
    .exact zC _ (ih f)
  obtain⟨q,I,h3⟩:=hX.fl _ o;rw[zF]at t;split at t
  .rename_i J;simp only[zE,zX,lenL_zero]at J;have K:=jN _ _ j;have L:=jN _ _ ox;split at t
   .rename_i p hb;have u:=(agg_flat _ _ _ q 10000 h3).2 w ⟨vs⟩ ⟨F⟩ p I (by simp;omega) (by simp;omega) (cellsEq_ok hb j ox);have y:=guard_flat _ _ _ q P.depth (zK _);split at t
    .rw[mkB_eq,zB]at t;subst t;refine⟨by simp[eqGuard,zG,program,Sem.run,y], .bool p, ?_,rfl⟩;rw[run_eql_struct,u];rfl
    .rw[mkB_eq,zB]at t;subst t;refine⟨by simp[eqGuard,zG,program,Sem.run,y], .bool !p, ?_,rfl⟩;rw[run_neq_struct,u];rfl
    .simp at t
   .simp at t
  .simp at t
 .simp at t
theorem abin_ok {ox oy:Operand}{x y r:AV}(v:abin X C h x y=some r)(a:VR R x i)(f:VR R y s):
  (eqGuard C h ox oy i s).run P w= .ok () w/\ ∃z,(binOp C h i s).run P w= .ok z w/\VR R r z:=by
 unfold abin at v;split at v
 .simp only[VR]at a f;subst a f;exact⟨eqGuard_ok (by simp) (by simp),abinI_ok v R⟩
 .obtain⟨u,rfl,rfl,rfl⟩:=a;obtain⟨p,rfl,rfl,rfl⟩:=f;exact⟨eqGuard_ok (by simp) (by simp),abinS_ok v R⟩
 .exact abinG_ok hX v a f
 .rw[zF]at v;split at v
  .rename_i o
   cases x<;>first | (simp[eqable]at o;done) | skip
   case bool=>have e:=a;simp only[VR]at e;subst e;exact⟨eqGuard_ok (by simp) (by simp),abinE_ok hX hR v a f (by simp) (by simp) (by simp) (by simp)⟩
   case nP=>have e:i= .pointer none:=a;subst e;exact⟨eqGuard_ok (by simp) (by simp),abinE_ok hX hR v a f (by simp) (by simp) (by simp) (by simp)⟩
   case ptr=>obtain⟨b1,j,c1,m,rfl⟩:=id a;exact⟨eqGuard_ok (by simp) (by simp),abinE_ok hX hR v a f (by simp) (by simp) (by simp) (by simp)⟩
   case nS=>have e:i= .slice none 0 0:=a;subst e;exact⟨eqGuard_ok (by simp) (by simp),abinE_ok hX hR v a f (by simp) (by simp) (by simp) (by simp)⟩
   case slice=>obtain⟨b1,j,c1,m,rfl⟩:=id a;exact⟨eqGuard_ok (by simp) (by simp),abinE_ok hX hR v a f (by simp) (by simp) (by simp) (by simp)⟩
   case eS=>obtain⟨q,c1,rfl⟩:=id a;exact⟨eqGuard_ok (by simp) (by simp),abinE_ok hX hR v a f (by simp) (by simp) (by simp) (by simp)⟩
   case nM=>have e:i= .map none:=a;subst e;exact⟨eqGuard_ok (by simp) (by simp),abinE_ok hX hR v a f (by simp) (by simp) (by simp) (by simp)⟩
   case map=>obtain⟨b1,j,c1,m,rfl⟩:=id a;exact⟨eqGuard_ok (by simp) (by simp),abinE_ok hX hR v a f (by simp) (by simp) (by simp) (by simp)⟩
   case func=>obtain⟨xs,t,rfl,_⟩:=id a;exact⟨eqGuard_ok (by simp) (by simp),abinE_ok hX hR v a f (by simp) (by simp) (by simp) (by simp)⟩
   case yT=>obtain⟨b1,j,c1,m,rfl⟩:=id a;exact⟨eqGuard_ok (by simp) (by simp),abinE_ok hX hR v a f (by simp) (by simp) (by simp) (by simp)⟩
   case nilFunc=>have e:i= .nilFunc:=a;subst e;exact⟨eqGuard_ok (by simp) (by simp),abinE_ok hX hR v a f (by simp) (by simp) (by simp) (by simp)⟩
  .simp at v
end
mutual
theorem aveq_eq: ∀(x y:AV),aveq x y=true->x=y
 | .bool a, .bool b,h=>by simp[aveq]at h;rw[h]
 | .int k a, .int k' b,h=>by simp[aveq,keq_eq,ieq_eq]at h;rw[h.1,h.2]
 | .str l b, .str m c,h=>by simp[aveq]at h;rw[h.1,h.2]
 | .nP, .nP,_=>rfl
 | .ptr a o, .ptr b p,h=>by simp[aveq]at h;rw[h.1,h.2]
 | .nS, .nS,_=>rfl
 | .slice a b c d, .slice a' b' c' d',h=>by simp[aveq]at h;rw[h.1.1.1,h.1.1.2,h.1.2,h.2]
 | .nM, .nM,_=>rfl
 | .map a, .map b,h=>by simp[aveq]at h;rw[h]
 | .func f a b, .func g c d,h=>by simp[aveq]at h;rw[h.1.1,aveqL_eq a c h.1.2,aveqL_eq b d h.2]
 | .yT a, .yT b,h=>by simp[aveq]at h;rw[h]
 | .nilFunc, .nilFunc,_=>rfl
 | .iface t x, .iface u y,h=>by simp[aveq]at h;rw[h.1,aveq_eq x y h.2]
 | .nilIface, .nilIface,_=>rfl
 | .agg a, .agg b,h=>by simp[aveq]at h;rw[aveqL_eq a b h]
 | .tuple a, .tuple b,h=>by simp[aveq]at h;rw[aveqL_eq a b h]
 | .eS,y,h=>by cases y<;>first | rfl | (simp[aveq]at h)
 | .val _, .val _,h | .val _, .bool _,h | .val _, .int _ _,h | .val _, .str _ _,h | .val _, .nP,h | .val _, .ptr _ _,h | .val _, .nS,h | .val _, .slice _ _ _ _,h | .val _, .eS,h | .val _, .nM,h | .val _, .map _,h | .val _, .func _ _ _,h | .val _, .yT _,h | .val _, .nilFunc,h | .val _, .iface _ _,h | .val _, .nilIface,h | .val _, .agg _,h | .val _, .tuple _,h=>by simp[aveq]at h
 | .bool _, .val _,h | .int _ _, .val _,h | .str _ _, .val _,h | .nP, .val _,h | .ptr _ _, .val _,h | .nS, .val _,h | .slice _ _ _ _, .val _,h | .nM, .val _,h | .map _, .val _,h | .func _ _ _, .val _,h | .yT _, .val _,h | .nilFunc, .val _,h | .iface _ _, .val _,h | .nilIface, .val _,h | .agg _, .val _,h | .tuple _, .val _,h=>by simp[aveq]at h
 | .bool _, .int _ _,h | .bool _, .str _ _,h | .bool _, .nP,h | .bool _, .ptr _ _,h | .bool _, .nS,h | .bool _, .slice _ _ _ _,h | .bool _, .eS,h | .bool _, .nM,h | .bool _, .map _,h | .bool _, .func _ _ _,h | .bool _, .yT _,h | .bool _, .nilFunc,h | .bool _, .iface _ _,h | .bool _, .nilIface,h | .bool _, .agg _,h | .bool _, .tuple _,h=>by simp[aveq]at h
 | .int _ _, .bool _,h | .int _ _, .str _ _,h | .int _ _, .nP,h | .int _ _, .ptr _ _,h | .int _ _, .nS,h | .int _ _, .slice _ _ _ _,h | .int _ _, .eS,h | .int _ _, .nM,h | .int _ _, .map _,h | .int _ _, .func _ _ _,h | .int _ _, .yT _,h | .int _ _, .nilFunc,h | .int _ _, .iface _ _,h | .int _ _, .nilIface,h | .int _ _, .agg _,h | .int _ _, .tuple _,h=>by simp[aveq]at h
 | .str _ _, .bool _,h | .str _ _, .int _ _,h | .str _ _, .nP,h | .str _ _, .ptr _ _,h | .str _ _, .nS,h | .str _ _, .slice _ _ _ _,h | .str _ _, .eS,h | .str _ _, .nM,h | .str _ _, .map _,h | .str _ _, .func _ _ _,h | .str _ _, .yT _,h | .str _ _, .nilFunc,h | .str _ _, .iface _ _,h | .str _ _, .nilIface,h | .str _ _, .agg _,h | .str _ _, .tuple _,h=>by simp[aveq]at h
 | .nP, .bool _,h | .nP, .int _ _,h | .nP, .str _ _,h | .nP, .ptr _ _,h | .nP, .nS,h | .nP, .slice _ _ _ _,h | .nP, .eS,h | .nP, .nM,h | .nP, .map _,h | .nP, .func _ _ _,h | .nP, .yT _,h | .nP, .nilFunc,h | .nP, .iface _ _,h | .nP, .nilIface,h | .nP, .agg _,h | .nP, .tuple _,h=>by simp[aveq]at h
 | .ptr _ _, .bool _,h | .ptr _ _, .int _ _,h | .ptr _ _, .str _ _,h | .ptr _ _, .nP,h | .ptr _ _, .nS,h | .ptr _ _, .slice _ _ _ _,h | .ptr _ _, .eS,h | .ptr _ _, .nM,h | .ptr _ _, .map _,h | .ptr _ _, .func _ _ _,h | .ptr _ _, .yT _,h | .ptr _ _, .nilFunc,h | .ptr _ _, .iface _ _,h | .ptr _ _, .nilIface,h | .ptr _ _, .agg _,h | .ptr _ _, .tuple _,h=>by simp[aveq]at h
 | .nS, .bool _,h | .nS, .int _ _,h | .nS, .str _ _,h | .nS, .nP,h | .nS, .ptr _ _,h | .nS, .slice _ _ _ _,h | .nS, .eS,h | .nS, .nM,h | .nS, .map _,h | .nS, .func _ _ _,h | .nS, .yT _,h | .nS, .nilFunc,h | .nS, .iface _ _,h | .nS, .nilIface,h | .nS, .agg _,h | .nS, .tuple _,h=>by simp[aveq]at h
 | .slice _ _ _ _, .bool _,h | .slice _ _ _ _, .int _ _,h | .slice _ _ _ _, .str _ _,h | .slice _ _ _ _, .nP,h | .slice _ _ _ _, .ptr _ _,h | .slice _ _ _ _, .nS,h | .slice _ _ _ _, .eS,h | .slice _ _ _ _, .nM,h | .slice _ _ _ _, .map _,h | .slice _ _ _ _, .func _ _ _,h | .slice _ _ _ _, .yT _,h | .slice _ _ _ _, .nilFunc,h | .slice _ _ _ _, .iface _ _,h | .slice _ _ _ _, .nilIface,h | .slice _ _ _ _, .agg _,h | .slice _ _ _ _, .tuple _,h=>by simp[aveq]at h
 | .nM, .bool _,h | .nM, .int _ _,h | .nM, .str _ _,h | .nM, .nP,h | .nM, .ptr _ _,h | .nM, .nS,h | .nM, .slice _ _ _ _,h | .nM, .eS,h | .nM, .map _,h | .nM, .func _ _ _,h | .nM, .yT _,h | .nM, .nilFunc,h | .nM, .iface _ _,h | .nM, .nilIface,h | .nM, .agg _,h | .nM, .tuple _,h=>by simp[aveq]at h
 | .map _, .bool _,h | .map _, .int _ _,h | .map _, .str _ _,h | .map _, .nP,h | .map _, .ptr _ _,h | .map _, .nS,h | .map _, .slice _ _ _ _,h | .map _, .eS,h | .map _, .nM,h | .map _, .func _ _ _,h | .map _, .yT _,h | .map _, .nilFunc,h | .map _, .iface _ _,h | .map _, .nilIface,h | .map _, .agg _,h | .map _, .tuple _,h=>by simp[aveq]at h
 | .func _ _ _, .bool _,h | .func _ _ _, .int _ _,h | .func _ _ _, .str _ _,h | .func _ _ _, .nP,h | .func _ _ _, .ptr _ _,h | .func _ _ _, .nS,h | .func _ _ _, .slice _ _ _ _,h | .func _ _ _, .eS,h | .func _ _ _, .nM,h | .func _ _ _, .map _,h | .func _ _ _, .yT _,h | .func _ _ _, .nilFunc,h | .func _ _ _, .iface _ _,h | .func _ _ _, .nilIface,h | .func _ _ _, .agg _,h | .func _ _ _, .tuple _,h=>by simp[aveq]at h
 | .yT _, .bool _,h | .yT _, .int _ _,h | .yT _, .str _ _,h | .yT _, .nP,h | .yT _, .ptr _ _,h | .yT _, .nS,h | .yT _, .slice _ _ _ _,h | .yT _, .eS,h | .yT _, .nM,h | .yT _, .map _,h | .yT _, .func _ _ _,h | .yT _, .nilFunc,h | .yT _, .iface _ _,h | .yT _, .nilIface,h | .yT _, .agg _,h | .yT _, .tuple _,h=>by simp[aveq]at h
 | .nilFunc, .bool _,h | .nilFunc, .int _ _,h | .nilFunc, .str _ _,h | .nilFunc, .nP,h | .nilFunc, .ptr _ _,h | .nilFunc, .nS,h | .nilFunc, .slice _ _ _ _,h | .nilFunc, .eS,h | .nilFunc, .nM,h | .nilFunc, .map _,h | .nilFunc, .func _ _ _,h | .nilFunc, .yT _,h | .nilFunc, .iface _ _,h | .nilFunc, .nilIface,h | .nilFunc, .agg _,h | .nilFunc, .tuple _,h=>by simp[aveq]at h
 | .iface _ _, .bool _,h | .iface _ _, .int _ _,h | .iface _ _, .str _ _,h | .iface _ _, .nP,h | .iface _ _, .ptr _ _,h | .iface _ _, .nS,h | .iface _ _, .slice _ _ _ _,h | .iface _ _, .eS,h | .iface _ _, .nM,h | .iface _ _, .map _,h | .iface _ _, .func _ _ _,h | .iface _ _, .yT _,h | .iface _ _, .nilFunc,h | .iface _ _, .nilIface,h | .iface _ _, .agg _,h | .iface _ _, .tuple _,h=>by simp[aveq]at h
 | .nilIface, .bool _,h | .nilIface, .int _ _,h | .nilIface, .str _ _,h | .nilIface, .nP,h | .nilIface, .ptr _ _,h | .nilIface, .nS,h | .nilIface, .slice _ _ _ _,h | .nilIface, .eS,h | .nilIface, .nM,h | .nilIface, .map _,h | .nilIface, .func _ _ _,h | .nilIface, .yT _,h | .nilIface, .nilFunc,h | .nilIface, .iface _ _,h | .nilIface, .agg _,h | .nilIface, .tuple _,h=>by simp[aveq]at h
 | .agg _, .bool _,h | .agg _, .int _ _,h | .agg _, .str _ _,h | .agg _, .nP,h | .agg _, .ptr _ _,h | .agg _, .nS,h | .agg _, .slice _ _ _ _,h | .agg _, .eS,h | .agg _, .nM,h | .agg _, .map _,h | .agg _, .func _ _ _,h | .agg _, .yT _,h | .agg _, .nilFunc,h | .agg _, .iface _ _,h | .agg _, .nilIface,h | .agg _, .tuple _,h=>by simp[aveq]at h
 | .tuple _, .bool _,h | .tuple _, .int _ _,h | .tuple _, .str _ _,h | .tuple _, .nP,h | .tuple _, .ptr _ _,h | .tuple _, .nS,h | .tuple _, .slice _ _ _ _,h | .tuple _, .eS,h | .tuple _, .nM,h | .tuple _, .map _,h | .tuple _, .func _ _ _,h | .tuple _, .yT _,h | .tuple _, .nilFunc,h | .tuple _, .iface _ _,h | .tuple _, .nilIface,h | .tuple _, .agg _,h=>by simp[aveq]at h
theorem aveqL_eq: ∀(x y:List AV),aveqL x y=true->x=y
 | [],[],_=>rfl
 | x::xs,y::ys,h=>by simp[aveqL]at h;rw[aveq_eq x y h.1,aveqL_eq xs ys h.2]
 | [],_::_,h=>by simp[aveqL]at h
 | _::_,[],h=>by simp[aveqL]at h
end
theorem kcode_one {R:Ren}{x:AV}(h:kcode x=n)(f:n≠1)(a:VR R x i):(∃b,x= .bool b/\i= .bool b/\n=0)\/(∃k v,x= .int k v/\i= .int k v/\n=icode k)\/(∃s:ByteArray,x= .str s.size (pack s.data.toList)/\i= .string s/\n=2):=by
 cases x with
 | bool b=>simp only[VR]at a;exact .inl ⟨b,rfl,a,h.symm⟩
 | int k v=>simp only[VR]at a;exact .inr (.inl ⟨k,v,rfl,a,h.symm⟩)
 | str v b=>obtain⟨s,rfl,rfl,rfl⟩:=a;exact .inr (.inr ⟨s,rfl,rfl,h.symm⟩)
 | _=>simp[kcode]at h;omega
theorem one_fun {R m:Ren}{x y:AV}(h:kcode x=n)(o:kcode y=n)(f:n≠1)(p:VR R x i)(t:VR m y s):(x=y↔i=s):=by
 have hi:=icode_ge;rcases kcode_one h f p with⟨b,rfl,rfl,e⟩ | ⟨k,q,rfl,rfl,e⟩ | ⟨u,rfl,rfl,e⟩<;>rcases kcode_one o f t with⟨C,rfl,rfl,v⟩ | ⟨k',F,rfl,rfl,v⟩ | ⟨j,rfl,rfl,v⟩
 .simp
 .have:=hi k';omega
 .omega
 .have:=hi k;omega
 .simp
 .have:=hi k;omega
 .omega
 .have:=hi k';omega
 .constructor
  .intro a;simp only[AV.str.injEq]at a;have z:=pack_inj _ _ (by rw[size_data,size_data];exact a.1) a.2;congr 1;have:u.data=j.data:=Array.toList_inj.1 z
   cases u;cases j;simp_all
  .intro a;injection a with a;rw[a]
theorem many_fun {R j:Ren} : ∀ {a:List Nat} {xs f:List AV} {vs i:List Value},kcodes xs a=true->kcodes f a=true->1∉a->VRL R xs vs->VRL j f i->(xs=f↔vs=i)
 | [],[],[],vs,i,_,_,_,hv,hu=>by simp only[VRL]at hv hu;subst hv hu;simp
 | q::a,x::xs,y::f,vs,i,h1,h2,hq,hv,hu=>by
  obtain⟨v,vs',rfl,h3,m⟩:=hv;obtain⟨u,s,rfl,h5,h6⟩:=hu;simp only[kcodes,zE,zX]at h1 h2;simp only[zM,not_or]at hq;have o:=one_fun h1.1 h2.1 (Ne.symm hq.1) h3 h5;have p:=many_fun h1.2 h2.2 hq.2 m h6;simp only[yF,o,p]
 | [],_::_,_,_,_,h,_,_,_,_=>by simp[kcodes]at h
 | [],[],_::_,_,_,_,h,_,_,_=>by simp[kcodes]at h
 | _::_,[],_,_,_,h,_,_,_,_=>by simp[kcodes]at h
 | _::_,_::_,[],_,_,_,h,_,_,_=>by simp[kcodes]at h
theorem key_fun {R m:Ren}{x y:AV}(h:keyOk v x=true)(a:keyOk v y=true)(f:VR R x i)(ks:VR m y s):(x=y↔i=s):=by
 unfold keyOk at h a;split at h
 .simp at h
 .rename_i q o;simp only[zF,zX]at h a;split at h
  .rename_i j;rw[if_pos j]at a;split at h
   .rename_i l;split at a
    .rename_i l';simp only[zE,yS,List.contains_eq_mem,yK]at h a;obtain⟨vs,rfl,f⟩:=f;obtain⟨p,rfl,ks⟩:=ks;have:=many_fun h.1 a.1 h.2 f ks;simp only[AV.agg.injEq,Value.agg.injEq,Array.mk.injEq,this]
    .simp at a
   .simp at h
  .rename_i j;rw[if_neg j]at a;split at h
   .rw[zX]at h a;exact one_fun h a j f ks
   .simp at h
structure KeyT (P:Program)(kt:TypeId)(K:Value->Prop):Prop where
 check: ∀v e w,K v->(Instr.checkKey e 10000 kt v).run P w= .ok () w
 find: ∀v (l:List MapEntry) w,K v->(∀x∈l,K x.key)->((Instr.findKey kt v l).run P w= .ok none w/\ ∀x∈l,x.key≠v)\/ ∃j e,(Instr.findKey kt v l).run P w= .ok (some (j,e.val)) w/\l[j]? =some e/\e.key=v
 stays: ∀v w,K v->(Instr.keyThatStays v v).run P w= .ok v w
theorem KeyT.plain (hd:q.underlying h=some L):KeyT q h (MapKept.IsKey L) where
 check v e w hk:=MapKept.run_checkKey hd hk e 9999
 find v l w hk hl:=by
  rcases MapKept.findNow_spec hk l 0 hl with⟨a,f⟩ | ⟨j,e,a,f,h3⟩
  .exact .inl ⟨MapKept.run_findKey hd a,f⟩
  .exact .inr ⟨j,e,by simpa using MapKept.run_findKey hd a,f,h3⟩
 stays v w hk:=MapKept.run_keyThatStays hk
def KV (ks:List Nat)(v:Value):Prop:= ∃(R:Ren) (k:AV),keyOk ks k=true/\VR R k v
theorem v_self {R h:Ren}{x y:AV}(v:kcode x=n)(j:kcode y=n)(a:n≠1)(h3:VR R x i)(h5:VR h y s): ∃b:Bool,vEq n i s=some b/\(b=true↔i=s):=by
 have hi:=icode_ge;rcases kcode_one v a h3 with⟨b,rfl,rfl,e⟩ | ⟨k,q,rfl,rfl,e⟩ | ⟨u,rfl,rfl,e⟩<;>rcases kcode_one j a h5 with⟨m,rfl,rfl,f⟩ | ⟨k',o,rfl,rfl,f⟩ | ⟨p,rfl,rfl,f⟩
 .subst e;exact⟨b==m,by simp[vEq],by simp⟩
 .have:=hi k';omega
 .omega
 .have:=hi k;omega
 .have t:k=k':=icode_inj (by omega);subst t;exact⟨q==o,by simp[vEq,e],by simp⟩
 .have:=hi k;omega
 .omega
 .have:=hi k';omega
 .subst e;exact⟨u==p,by simp[vEq],by rw[MapKept.bytes_beq];simp⟩
theorem vs_self {R m:Ren} : ∀ {a:List Nat} {xs i:List AV} {vs f:List Value},kcodes xs a=true->kcodes i a=true->1∉a->VRL R xs vs->VRL m i f-> ∃b:Bool,vsEq a vs f=some b/\(b=true↔vs=f)
 | [],[],[],vs,f,_,_,_,hv,hu=>by simp only[VRL]at hv hu;subst hv hu;exact⟨true,rfl,by simp⟩
 | q::a,x::xs,y::i,vs,f,h1,h2,hq,hv,hu=>by
  obtain⟨v,vs',rfl,h3,o⟩:=hv;obtain⟨u,z,rfl,h5,h6⟩:=hu;simp only[kcodes,zE,zX]at h1 h2;simp only[zM,not_or]at hq;obtain⟨b2,p,s⟩:=vs_self h1.2 h2.2 hq.2 o h6;obtain⟨b1,t,j⟩:=v_self h1.1 h2.1 (Ne.symm hq.1) h3 h5;simp only[vsEq,t]
  cases b1 with
  | true=>exact⟨b2,p,by rw[s];simp[j.1 rfl]⟩
  | false=>exact⟨false,rfl,by
    simp only[zL,yF,false_iff,not_and];intro h;exact absurd (j.2 h) (by simp)⟩
 | [],_::_,_,_,_,h,_,_,_,_=>by simp[kcodes]at h
 | [],[],_::_,_,_,_,h,_,_,_=>by simp[kcodes]at h
 | _::_,[],_,_,_,h,_,_,_,_=>by simp[kcodes]at h
 | _::_,_::_,[],_,_,_,h,_,_,_=>by simp[kcodes]at h
theorem kcodes_len: ∀ {xs:List AV} {a:List Nat},kcodes xs a=true->xs.length=a.length
 | [],[],_=>rfl
 | _::_,_::_,h=>by simp only[kcodes,zE]at h;simp[kcodes_len h.2]
 | [],_::_,h=>by simp[kcodes]at h
 | _::_,[],h=>by simp[kcodes]at h
theorem forIn_ok {P:Program}{α:Type}{w:World}{body:α->Sem (ForInStep PUnit)} : ∀(l:List α),(∀f∈l,(body f).run P w= .ok (.yield ⟨⟩) w)->(forIn l PUnit.unit fun f _=>body f:Sem PUnit).run P w= .ok ⟨⟩ w
 | [],_=>by simp
 | f::l,h=>by
  simp only[List.forIn_cons,zG,h f (zH ..),Result.andThen_ok];exact forIn_ok l (fun g a=>h g (zC _ a))
theorem part_form {i:TypeInfo}(hi:q.info? h=some i)(a: ∃u,q.underlying h=some u){xs:Array Value}{off:Nat}(P:off+i.size<=xs.size)(m:isAggT q h=false->i.size=1)(w:World):
  ∃x,(part h xs off).run q w= .ok x w/\(isAggT q h=true-> ∃arr,x= .agg arr/\arr.size=i.size):=by
 obtain⟨u,a⟩:=a
 cases f:isAggT q h with
 | true=>
  have j:(isAgg h).run q w= .ok true w:=by
   unfold isAggT at f;split at f
   .rename_i fs a;simp[isAgg,zG,run_underlying a]
   .rename_i n e a;simp[isAgg,zG,run_underlying a]
   .simp at f
  have o: ∀w,(sizeOf h).run q w= .ok i.size w:=fun w=>by simp[sizeOf,typeInfo,hi]
  exact⟨.agg (xs.extract off (off+i.size)),by simp[part,zG,j,o],fun _=>⟨_,rfl,by simp;omega⟩⟩
 | false=>
  have j:(isAgg h).run q w= .ok false w:=by
   unfold isAggT at f
   cases u<;>first | (simp[a]at f;done) | simp[isAgg,zG,run_underlying a]
  have s:=m f;have p:off<xs.size:=by omega
  exact⟨xs[off],by simp[part,zG,j,p],fun t=>by simp at t⟩
theorem flat_info (d:flatK q n h=some v):(∃u,q.underlying h=some u)/\ ∀i,q.info? h=some i->(isAggT q h=false->i.size=1)/\v.length=i.size:=by
 cases n with
 | zero=>simp[flatK]at d
 | succ n=>
  unfold flatK at d;split at d
  .rename_i j a m;refine⟨⟨_,a⟩,fun i hi=> ?_⟩;rw[m]at hi;injection hi with hi;subst hi
   rw[zF]at d;split at d
   .rename_i f;rw[zX]at f;simp only[zB]at d;subst d;exact⟨fun _=>f,by simp[f]⟩
   .simp at d
  .rename_i P j a m;refine⟨⟨_,a⟩,fun i hi=> ?_⟩;rw[m]at hi;injection hi with hi;subst hi
   rw[zF]at d;split at d
   .rename_i f;rw[zX]at f;simp only[zB]at d;subst d;exact⟨fun _=>f,by simp[f]⟩
   .simp at d
  .rename_i j a m;refine⟨⟨_,a⟩,fun i hi=> ?_⟩;rw[m]at hi;injection hi with hi;subst hi
   rw[zF]at d;split at d
   .rename_i f;rw[zX]at f;simp only[zB]at d;subst d;exact⟨fun _=>f,by simp[f]⟩
   .simp at d
  .rename_i fs j a m;refine⟨⟨_,a⟩,fun i hi=> ?_⟩;rw[m]at hi;injection hi with hi;subst hi
   rw[zF]at d;split at d
   .split at d
    .rw[zF]at d;split at d
     .rename_i hl;rw[zX]at hl;simp only[zB]at d;subst d;exact⟨fun o=>by simp[isAggT,a]at o,hl⟩
     .simp at d
    .simp at d
   .simp at d
  .rename_i len e j a m;refine⟨⟨_,a⟩,fun i hi=> ?_⟩;rw[m]at hi;injection hi with hi;subst hi
   split at d
   .rename_i k' t x s;rw[zF]at d;split at d
    .rename_i p;simp only[zE,zX]at p;simp only[zB]at d;subst d;refine⟨fun o=>by simp[isAggT,a]at o, ?_⟩;simp[p.2,p.1]
    .simp at d
   .simp at d
  .simp at d
theorem flds_at {P:Program}{rec:TypeId->Option (List Nat)} : ∀ {fs:List Field} {i:Nat} {r:List Nat},fldsK P rec fs i=some r-> ∀f∈fs,∃k j,rec f.type=some k/\P.info? f.type=some j/\f.offset+j.size<=i+r.length
 | [],_,_,_,f,a=>by simp at a
 | g::fs,i,r,h,f,a=>by
  simp only[fldsK]at h;split at h
  .rename_i k j o p;rw[zF]at h;split at h
   .rename_i q;simp only[zE,zX]at q;split at h
    .rename_i v m;simp only[zB]at h;subst h;simp only[zT];rcases zM.1 a with rfl | a
     .exact⟨k,j,o,p,by omega⟩
     .obtain⟨k2,s,t,u,x⟩:=flds_at m f a;exact⟨k2,s,t,u,by omega⟩
    .simp at h
   .simp at h
  .simp at h
theorem check_flat {P:Program} : ∀(d:Nat) (t:TypeId) (q:List Nat),flatK P d t=some q-> ∀m,d<=m-> ∀(e:Bool) (w:World),∀(v:Value),(isAggT P t=true-> ∃arr,v= .agg arr/\arr.size=q.length)->(Instr.checkKey e m t v).run P w= .ok () w
 | 0,t,q,h,_,_=>by simp[flatK]at h
 | d+1,t,q,h,m,hm=>by
  obtain⟨m,rfl⟩: ∃S,m=S+1:=⟨m - 1,by omega⟩;have F:=check_flat (P:=P) d;intro e w v G;have W:=h;unfold flatK at h;split at h
  .rename_i a _;simp[Instr.checkKey,run_underlying a]
  .rename_i a _;simp[Instr.checkKey,run_underlying a]
  .rename_i a _;simp[Instr.checkKey,run_underlying a]
  .rename_i fs j a T;obtain⟨arr,rfl,s⟩:=G (by simp[isAggT,a]);rw[zF]at h;split at h
   .split at h
    .rename_i r hr;rw[zF]at h;split at h
     .simp only[zB]at h;subst h;simp only[Instr.checkKey,zG,run_underlying a,Result.andThen_ok];rw[<-Array.forIn_toList];rw[forIn_ok _ (fun f U=> ?_)]
      .rfl
      obtain⟨k2,I,J,u,Y⟩:=flds_at hr f U;obtain⟨b1,b2⟩:=flat_info J;obtain⟨x,y,z⟩:=part_form u b1 (xs:=arr) (off:=f.offset) (by omega) (b2 I u).1 w;split
      .simp only[zG,y,Result.andThen_ok];rw[F _ _ J m (by omega) e w x (fun C=>by rw[(b2 I u).2];exact z C)];rfl
      .rfl
     .simp at h
    .simp at h
   .simp at h
  .rename_i len V j a T;obtain⟨arr,rfl,s⟩:=G (by simp[isAggT,a]);split at h
   .rename_i k o K p;rw[zF]at h;split at h
    .rename_i L;simp only[zE,zX]at L;simp only[zB]at h;subst h;have M:(List.replicate len k).flatten.length=len*k.length:=by simp
     rw[M]at s;simp only[Instr.checkKey,zG,run_underlying a,Result.andThen_ok];simp only[Std.Legacy.Range.forIn_eq_forIn_range',Std.Legacy.Range.size,j7,Nat.add_one_sub_one,Nat.div_one];rw[forIn_ok _ (fun i hi=> ?_)]
     .rfl
     have Q:i<len:=by simp[List.mem_range']at hi;omega
     have N:(i+1)*o.size<=len*o.size:=yP _ Q;rw[yZ]at N;have O: ∀w,(sizeOf V).run P w= .ok o.size w:=fun w=>by simp[sizeOf,typeInfo,p]
     obtain⟨b1,b2⟩:=flat_info K;obtain⟨x,y,z⟩:=part_form p b1 (xs:=arr) (off:=i*o.size) (by rw[s,L.2];omega) (b2 o p).1 w;simp only[zG,O,y,Result.andThen_ok];rw[F _ _ K m (by omega) e w x (fun C=>by rw[(b2 o p).2];exact z C)];rfl
    .simp at h
   .simp at h
  .simp at h
theorem keyOk_agg {R:Ren}{k:AV}(h:keyOk (1::v) k=true)(a:VR R k i): ∃l vs,k= .agg l/\i= .agg ⟨vs⟩/\VRL R l vs/\kcodes l v=true/\1∉v:=by
 simp only[keyOk,yC,zP]at h;split at h
 .rename_i l;simp only[zE,yS,List.contains_eq_mem,yK]at h;obtain⟨vs,rfl,hl⟩:=a;exact⟨l,vs,rfl,rfl,hl,h.1,h.2⟩
 .simp at h
theorem sameBits_cells {R:Ren} : ∀ {cs:List Nat} {l:List AV} {vs:List Value} (n:Nat),kcodes l cs=true->1∉cs->VRL R l vs->((vs.zip vs).all fun(x,y)=>Instr.sameBits n x y)=true
 | [],[],vs,n,_,_,hv=>by simp only[VRL]at hv;subst hv;rfl
 | q::cs,x::l,vs,n,h,hq,hv=>by
  obtain⟨v,vs',rfl,a,f⟩:=hv;simp only[kcodes,zE,zX]at h;simp only[zM,not_or]at hq;simp only[List.zip_cons_cons,List.all_cons,sameBits_cells n h.2 hq.2 f,Bool.and_true];rcases kcode_one h.1 (Ne.symm hq.1) a with⟨b,rfl,rfl,_⟩ | ⟨k,m,rfl,rfl,_⟩ | ⟨s,rfl,rfl,_⟩
  .simp[Instr.sameBits]
  .simp[Instr.sameBits]
  .simp[Instr.sameBits,MapKept.bytes_beq]
 | [],_::_,_,_,h,_,_=>by simp[kcodes]at h
 | _::_,[],_,_,h,_,_=>by simp[kcodes]at h
theorem KeyT.flat (C:flatK q q.depth h=some v)(p:isAggT q h=true)(hd:q.depth<=10000):KeyT q h (KV (1::v)) where
 check cs e w hk:=by
  obtain⟨R,k,a,f⟩:=hk;obtain⟨l,vs,rfl,rfl,h3,kt,h5⟩:=keyOk_agg a f;refine check_flat _ _ _ C 10000 hd e w _ (fun _=>⟨⟨vs⟩,rfl, ?_⟩);have:=jN _ _ h3;have:=kcodes_len kt;simp;omega
 find cs l w hk hl:=by
  have F:(match q.underlying h with | some (.array _ _) | some (.struct _)=>true | _=>false)=true:=by
   unfold isAggT at p;split at p
   .rename_i m;simp[m]
   .rename_i m;simp[m]
   .simp at p
  have G: ∀u,KV (1::v) u-> ∃b:Bool,(Op.equal h cs u).run q w= .ok b w/\(b=true↔cs=u):=by
   intro u m;obtain⟨R,k,a,f⟩:=hk;obtain⟨T,k',I,J⟩:=m;obtain⟨l,vs,rfl,rfl,h3,kt,h5⟩:=keyOk_agg a f;obtain⟨l',L,rfl,rfl,y,z,_⟩:=keyOk_agg I J;obtain⟨b,M,N⟩:=vs_self kt z h5 h3 y;have U:=jN _ _ h3;have V:=jN _ _ y;have W:=kcodes_len kt;have Y:=kcodes_len z;refine⟨b,(agg_flat _ _ _ C 10000 hd).2 w ⟨vs⟩ ⟨L⟩ b p (by simp;omega) (by simp;omega) M, ?_⟩;rw[N];simp
  have key: ∀(l:List MapEntry) (i:Nat),(∀x∈l,KV (1::v) x.key)->((Instr.findAsking h cs l i).run q w= .ok none w/\ ∀x∈l,x.key≠cs)\/ ∃j e,(Instr.findAsking h cs l i).run q w= .ok (some (i+j,e.val)) w/\l[j]? =some e/\e.key=cs:=by
   intro l
   induction l with
   | nil=>intro i _;exact .inl ⟨by simp[Instr.findAsking],by simp⟩
   | cons e l ih=>
    intro i hl;obtain⟨b,a,f⟩:=G e.key (hl e (zH ..))
    cases b with
    | true=>exact .inr ⟨0,e,by simp[Instr.findAsking,zG,a],rfl,(f.1 rfl).symm⟩
    | false=>
     have K:e.key≠cs:=fun P=>by have:=f.2 P.symm;simp at this
     rcases ih (i+1) (fun x o=>hl x (zC _ o))with⟨s,t⟩ | ⟨j,O,s,t,Q⟩
     .refine .inl ⟨by simp[Instr.findAsking,zG,a,s],fun x o=> ?_⟩;rcases zM.1 o with rfl | o
      .exact K
      .exact t x o
     .exact .inr ⟨j+1,O,by simp[Instr.findAsking,zG,a,s];omega,by simpa using t,Q⟩
  rw[run_findKey_eq w F];simpa using key l 0 hl
 stays cs w hk:=by
  obtain⟨R,k,a,f⟩:=hk;obtain⟨l,vs,rfl,rfl,h3,kt,h5⟩:=keyOk_agg a f;have S:=sameBits_cells 9999 kt h5 h3;have:Instr.sameBits 10000 (.agg ⟨vs⟩) (.agg ⟨vs⟩)=true:=by
   simp only[Instr.sameBits,beq_self_eq_true,Bool.true_and];exact S
  simp only[Instr.keyThatStays,this,if_true];rfl
section
variable {P:Program}{X:Cx}(hX:Ok P X)
include hX
theorem kOf_ok (kt:kOf X h=some v): ∃K,KeyT P h K/\ ∀R k ks,keyOk v k=true->VR R k ks->K ks:=by
 unfold kOf at kt;split at kt
 .rename_i o;simp only[zB]at kt;subst kt;refine⟨_,KeyT.plain (hX.und o),fun R k ks f m=> ?_⟩;simp only[keyOk,zX,zF]at f;have t:kcode k=0:=by simpa using f
  rcases kcode_one t (by simp) m with⟨b,rfl,rfl,_⟩ | ⟨q,n,rfl,rfl,e⟩ | ⟨s,rfl,rfl,e⟩
  .trivial
  .have:=icode_ge q;omega
  .simp at e
 .rename_i q o;simp only[zB]at kt;subst kt;have z:=icode_ge q;refine⟨_,KeyT.plain (hX.und o),fun R k ks f m=> ?_⟩;simp only[keyOk,zX,zF]at f;rw[if_neg (by omega),zX]at f;rcases kcode_one f (by omega) m with⟨b,rfl,rfl,e⟩ | ⟨C,n,rfl,rfl,e⟩ | ⟨s,rfl,rfl,e⟩
  .omega
  .exact(icode_inj e).symm
  .omega
 .rename_i o;simp only[zB]at kt;subst kt;refine⟨_,KeyT.plain (hX.und o),fun R k ks f m=> ?_⟩;simp only[keyOk,zX,zF]at f;have t:kcode k=2:=by simpa using f
  rcases kcode_one t (by simp) m with⟨b,rfl,rfl,e⟩ | ⟨q,n,rfl,rfl,e⟩ | ⟨s,rfl,rfl,e⟩
  .simp at e
  .have:=icode_ge q;omega
  .trivial
 .have key: ∀ {j},flOf h X.fl=some j->v=1::j-> ∃K,KeyT P h K/\ ∀R k ks,keyOk v k=true->VR R k ks->K ks:=by
   intro j a e;subst e;have p:(h,j)∈X.fl:=by
    generalize X.fl=l at a
    induction l with
    | nil=>simp[flOf]at a
    | cons x l ih=>
     obtain⟨i,v⟩:=x;simp only[flOf,zF,zX]at a;split at a
     .rename_i e;simp only[zB]at a;subst e a;simp
     .exact zC _ (ih a)
   obtain⟨u,y,h3⟩:=hX.fl _ p;exact⟨_,KeyT.flat u y h3,fun R k ks f m=>⟨R,k,f,m⟩⟩
  split at kt
  .rename_i j a;simp only[zB]at kt;exact key a kt.symm
  .simp at kt
 .have key: ∀ {j},flOf h X.fl=some j->v=1::j-> ∃K,KeyT P h K/\ ∀R k ks,keyOk v k=true->VR R k ks->K ks:=by
   intro j a e;subst e;have p:(h,j)∈X.fl:=by
    generalize X.fl=l at a
    induction l with
    | nil=>simp[flOf]at a
    | cons x l ih=>
     obtain⟨i,v⟩:=x;simp only[flOf,zF,zX]at a;split at a
     .rename_i e;simp only[zB]at a;subst e a;simp
     .exact zC _ (ih a)
   obtain⟨u,y,h3⟩:=hX.fl _ p;exact⟨_,KeyT.flat u y h3,fun R k ks f m=>⟨R,k,f,m⟩⟩
  split at kt
  .rename_i j a;simp only[zB]at kt;exact key a kt.symm
  .simp at kt
 .simp at kt
end
theorem eqNL_eq: ∀(a b:List Nat),eqNL a b=true->a=b
 | [],[],_=>rfl
 | x::a,y::b,h=>by simp only[eqNL,zE,zX]at h;rw[h.1,eqNL_eq a b h.2]
 | [],_::_,h=>by simp[eqNL]at h
 | _::_,[],h=>by simp[eqNL]at h
theorem findA_some {k:AV} : ∀ {es:List (AV×AV)} {v:AV},findA k es=some v-> ∃f i,es=f++(k,v)::i
 | [],v,h=>by simp[findA]at h
 | (a,b)::es,v,h=>by
  simp only[findA,zF]at h;split at h
  .rename_i e;rw[aveq_eq _ _ e];simp only[zB]at h;subst h;exact⟨[],es,rfl⟩
  .obtain⟨j,m,rfl⟩:=findA_some h;exact⟨(a,b)::j,m,rfl⟩
theorem one_refl {x:AV}(h:kcode x≠1):aveq x x=true:=by
 cases x<;>simp[kcode]at h<;>simp[aveq,keq_eq,ieq_eq]
theorem many_refl: ∀ {a:List Nat} {xs:List AV},kcodes xs a=true->1∉a->aveqL xs xs=true
 | [],[],_,_=>by simp[aveqL]
 | q::a,x::xs,h,hq=>by
  simp only[kcodes,zE,zX]at h;simp only[zM,not_or]at hq;simp only[aveqL,zE];exact⟨one_refl (by rw[h.1];exact Ne.symm hq.1),many_refl h.2 hq.2⟩
 | [],_::_,h,_=>by simp[kcodes]at h
 | _::_,[],h,_=>by simp[kcodes]at h
theorem key_refl {k:AV}(h:keyOk v k=true):aveq k k=true:=by
 unfold keyOk at h;split at h
 .simp at h
 .rename_i q f;simp only[zF,zX]at h;split at h
  .split at h
   .simp only[zE,yS,List.contains_eq_mem,yK]at h;simp only[aveq];exact many_refl h.1 h.2
   .simp at h
  .rename_i a;split at h
   .rw[zX]at h;exact one_refl (by rw[h];exact a)
   .simp at h
theorem findA_none {ks:List Nat}{k:AV}(j:keyOk ks k=true): ∀ {es:List (AV×AV)},findA k es=none-> ∀e∈es,e.1≠k
 | [],_,e,f=>by simp at f
 | (a,b)::es,h,e,f=>by
  simp only[findA,zF]at h;split at h
  .simp at h
  .rename_i i;rcases zM.1 f with rfl | f
   .intro m;simp only at m;rw[m,key_refl j]at i;simp at i
   .exact findA_none j h e f
theorem setA_some {k v:AV} : ∀ {es es':List (AV×AV)},setA k v es=some es'-> ∃i f j,es=i++(k,f)::j/\es'=i++(k,v)::j
 | [],es',h=>by simp[setA]at h
 | (a,b)::es,es',h=>by
  simp only[setA,zF]at h;split at h
  .rename_i e;simp only[zB]at h;subst h;rw[aveq_eq _ _ e];exact⟨[],b,es,rfl,rfl⟩
  .split at h
   .rename_i l hl;simp only[zB]at h;subst h;obtain⟨m,f,o,rfl,rfl⟩:=setA_some hl;exact⟨(a,b)::m,f,o,rfl,rfl⟩
   .simp at h
theorem setA_none {ks:List Nat}{k v:AV}(j:keyOk ks k=true): ∀ {es:List (AV×AV)},setA k v es=none-> ∀e∈es,e.1≠k
 | [],_,e,f=>by simp at f
 | (a,b)::es,h,e,f=>by
  simp only[setA,zF]at h;split at h
  .simp at h
  .rename_i i;split at h
   .simp at h
   .rename_i o;rcases zM.1 f with rfl | f
    .intro m;simp only at m;rw[m,key_refl j]at i;simp at i
    .exact setA_none j o e f
theorem delA_some {k:AV} : ∀ {es es':List (AV×AV)},delA k es=some es'-> ∃i f j,es=i++(k,f)::j/\es'=i++j
 | [],es',h=>by simp[delA]at h
 | (a,b)::es,es',h=>by
  simp only[delA,zF]at h;split at h
  .rename_i e;simp only[zB]at h;subst h;rw[aveq_eq _ _ e];exact⟨[],b,es,rfl,rfl⟩
  .split at h
   .rename_i l hl;simp only[zB]at h;subst h;obtain⟨m,f,o,rfl,rfl⟩:=delA_some hl;exact⟨(a,b)::m,f,o,rfl,rfl⟩
   .simp at h
theorem delA_none {ks:List Nat}{k:AV}(j:keyOk ks k=true): ∀ {es:List (AV×AV)},delA k es=none-> ∀e∈es,e.1≠k
 | [],_,e,f=>by simp at f
 | (a,b)::es,h,e,f=>by
  simp only[delA,zF]at h;split at h
  .simp at h
  .rename_i i;split at h
   .simp at h
   .rename_i o;rcases zM.1 f with rfl | f
    .intro m;simp only at m;rw[m,key_refl j]at i;simp at i
    .exact delA_none j o e f
def ER (R:Ren):List (AV×AV)->List MapEntry->Prop
 | [],m=>m=[]
 | e::es,m=> ∃x a,m=x::a/\VR R e.1 x.key/\VR R e.2 x.val/\ER R es a
theorem ER.of {R:Ren} : ∀ {es:List (AV×AV)} {m:List MapEntry},VRL R (es.map (·.1)) (m.map (·.key))->VRL R (es.map (·.2)) (m.map (·.val))->ER R es m
 | [],m,h,_=>by simp only[List.map_nil,VRL,List.map_eq_nil_iff]at h;exact h
 | e::es,m,h,h'=>by
  obtain⟨k,ks,a,i,j⟩:=h;obtain⟨v,vs,f,h3,o⟩:=h'
  cases m with
  | nil=>simp at a
  | cons x m=>
   simp only[y6,yF]at a f;obtain⟨rfl,rfl⟩:=a;obtain⟨rfl,rfl⟩:=f;exact⟨x,m,rfl,i,h3,ER.of j o⟩
theorem ER.to {R:Ren} : ∀ {es:List (AV×AV)} {m:List MapEntry},ER R es m->VRL R (es.map (·.1)) (m.map (·.key))/\VRL R (es.map (·.2)) (m.map (·.val))
 | [],m,h=>by simp only[ER]at h;subst h;exact⟨rfl,rfl⟩
 | e::es,m,⟨x,m',e1,h1,h2,h3⟩=>by
  subst e1;exact⟨⟨_,_,rfl,h1,(ER.to h3).1⟩,⟨_,_,rfl,h2,(ER.to h3).2⟩⟩
theorem ER.split {R:Ren} : ∀ {a:List (AV×AV)} {e:AV×AV} {b:List (AV×AV)} {m:List MapEntry},ER R (a++e::b) m-> ∃f x h,m=f++x::h/\ER R a f/\VR R e.1 x.key/\VR R e.2 x.val/\ER R b h
 | [],e,b,m,⟨x,m',e1,h1,h2,h3⟩=>⟨[],x,m',e1,rfl,h1,h2,h3⟩
 | y::a,e,b,m,⟨x,m',e1,h1,h2,h3⟩=>by
  subst e1;obtain⟨f,z,h,rfl,k1,k2,k3,k4⟩:=ER.split (a:=a) h3;exact⟨x::f,z,h,rfl,⟨x,f,rfl,h1,h2,k1⟩,k2,k3,k4⟩
theorem ER.append {R:Ren} : ∀ {a b:List (AV×AV)} {m n:List MapEntry},ER R a m->ER R b n->ER R (a++b) (m++n)
 | [],b,m,n,h,k=>by simp only[ER]at h;subst h;exact k
 | y::a,b,m,n,⟨x,m',e1,h1,h2,h3⟩,k=>by subst e1;exact⟨x,m'++n,rfl,h1,h2,ER.append h3 k⟩
theorem ER.mem {R:Ren} : ∀ {a:List (AV×AV)} {m:List MapEntry},ER R a m-> ∀x∈m,∃e∈a,VR R e.1 x.key
 | [],m,h,x,f=>by simp only[ER]at h;subst h;simp at f
 | y::a,m,⟨z,m',e1,h1,h2,h3⟩,x,f=>by
  subst e1;rcases zM.1 f with rfl | f
  .exact⟨y,zH ..,h1⟩
  .obtain⟨e,i,j⟩:=ER.mem h3 x f;exact⟨e,zC _ i,j⟩
theorem find_both {R:Ren}{s t:List (AV×AV)}{k f:AV}(hm:MR R (s++(k,f)::t) W)(u: ∀N∈s++(k,f)::t,keyOk v N.1=true)(hd:(s++(k,f)::t).Pairwise (fun a b=>a.1≠b.1))(C:VR R k i)
    (I:W[n]? =some N) (y:N.key=i): ∃kv o,ER R s kv/\ER R t o/\VR R f N.val/\(kv++N::o).Perm W:=by
 obtain⟨m,hp,J,K⟩:=hm;obtain⟨kv,x,o,rfl,F,l,L,G⟩:=(ER.of J K).split;have z:keyOk v k=true:=u (k,f) (by simp);have M:N∈kv++x::o:=hp.symm.subset (List.mem_of_getElem? I);have:N=x:=by
  rcases zZ.1 M with h | h
  .obtain⟨q,p,ks⟩:=ER.mem F N h;have:=(key_fun (u q (qZ _ p)) z ks C).2 y;exact absurd this ((yV.1 hd).2.2 q p (k,f) (zH ..))
  .rcases zM.1 h with h | h
   .exact h
   .obtain⟨q,p,ks⟩:=ER.mem G N h;have:=(key_fun (u q (by simp[p])) z ks C).2 y;exact absurd this.symm ((yJ.1 (yV.1 hd).2.1).1 q p)
 subst this;exact⟨kv,o,F,G,L,hp⟩
section
variable {P:Program}{X:Cx}(hX:Ok P X){R:Ren}{H:AH}{w:World}(hL:Rel R H w)
theorem Rel.mapAt (h:Rel R H w){c:Nat}{es:List (AV×AV)}(i:H.h.get n=some (.map v es))(hR:R n E j c):
  ∃(arr:Array MapEntry) (f:Nat),w.heap[E]? =some (.map arr f)/\MR R es arr.toList/\(∀e∈es,keyOk v e.1=true)/\es.Pairwise (fun a E=>a.1≠E.1)/\Born arr.toList f:=h.obj n E j c _ hR i
theorem lkR_ok {a:Bool}{v:AV}(h:VR R v i):VR R (lkR Y a v) (if a then .tuple #[i, .bool Y]else i):=by
 unfold lkR
 cases a with
 | true=>exact⟨[i, .bool Y],rfl,i,[.bool Y],rfl,h, .bool Y,[],rfl,rfl,rfl⟩
 | false=>exact h
include hX hL in
theorem lkM_ok {V:TypeId}{W:AV}{x k r:AV}(xv:X.und h=some (.map a V))(hk:kOf X a=some v)(hz:zeroA X V=some W)(t:lkM v W Y x k H=some r)(Z:VR R x i)(F:VR R k s):
  ∃z,(Instr.lookup h i s Y).run P w= .ok z w/\VR R r z:=by
 obtain⟨K,y,S⟩:=kOf_ok hX hk;unfold lkM at t;rw[zF]at t;split at t
 .rename_i G;have u:=S R k s G F;obtain⟨zv,T,U⟩:=hX.run_zero R hz w;split at t
  .have:i= .map none:=Z;subst this;simp only[zB]at t;subst t;refine⟨_, ?_,lkR_ok U⟩;have C:=y.find s [] w u (by simp);rcases C with⟨f,_⟩ | ⟨j,e,_,kt,_⟩
   .simp only[Instr.lookup,zG,hX.run_und xv w,Result.andThen_ok,zJ,y.check s _ w u];have a0:(Instr.findKey a s (#[]:Array MapEntry).toList).run P w= .ok none w:=f;simp only[a0,Result.andThen_ok,zG,T,zJ]
   .simp at kt
  .rename_i A;obtain⟨b,d,c,hr,rfl⟩:=Z;split at t
   .rename_i a3 es hA;rw[zF]at t;split at t
    .rename_i L;obtain rfl:=eqNL_eq _ _ L;obtain⟨arr,a2,hb,hm,I,hd,a4⟩:=hL.mapAt hA hr;have Q: ∀x∈arr.toList,K x.key:=by
      intro q J;obtain⟨m,hp,f,kt⟩:=hm;obtain⟨e,L,M⟩:=ER.mem (ER.of f kt) q (hp.symm.subset J);exact S R _ _ (I e L) M
     have pre: ∀(o:Option (Nat×Value)),(Instr.findKey a s arr.toList).run P w= .ok o w->(Instr.lookup h (.map (some b)) s Y).run P w=(match o with
       | some (_,ks)=> .ok (if Y then .tuple #[ks, .bool true]else ks) w
       | none=> .ok (if Y then .tuple #[zv, .bool false]else zv) w):=by
      intro o ho;simp only[Instr.lookup,zG,hX.run_und xv w,Result.andThen_ok,MapKept.run_getObj_map hb,zJ,y.check s _ w u,ho]
      cases o with
      | none=>simp only[Result.andThen_ok,zG,T,zJ]
      | some p=>obtain⟨kv,ks⟩:=p;simp only[Result.andThen_ok,zG,zJ]
     split at t
     .rename_i ks C;simp only[zB]at t;subst t;obtain⟨a5,a6,rfl⟩:=findA_some C;rcases y.find s arr.toList w u Q with⟨f,kt⟩ | ⟨j,e,f,kt,h3⟩
      .obtain⟨m,hp,N,O⟩:=hm;obtain⟨m1,x,m2,rfl,r1,r2,r3,r4⟩:=(ER.of N O).split;have:=(key_fun (I (k,ks) (by simp)) G r2 F).1 rfl;exact absurd this (kt x (hp.subset (by simp)))
      .obtain⟨m1,m2,_,_,M,_⟩:=find_both hm I hd F kt h3;exact⟨_,pre _ f,lkR_ok M⟩
     .rename_i C;simp only[zB]at t;subst t;rcases y.find s arr.toList w u Q with⟨f,kt⟩ | ⟨j,e,f,kt,h3⟩
      .exact⟨_,pre _ f,lkR_ok U⟩
      .obtain⟨m,hp,N,O⟩:=hm;obtain⟨q,J,a1⟩:=ER.mem (ER.of N O) e (hp.symm.subset (List.mem_of_getElem? kt));exact absurd ((key_fun (I q J) G a1 F).2 h3) (findA_none G C q J)
    .simp at t
   .simp at t
  .simp at t
 .simp at t
theorem Live.map {A:Nat}{ks:List Nat}{es:List (AV×AV)}(h:H.h.get A=some (.map ks es)):Live H A:=⟨_,h,trivial⟩
theorem Born.turn {i:List MapEntry}{j:MapEntry}(h:Born (W++N::i) n)(m:j.born=N.born):Born (W++j::i) n:=by
 obtain⟨o,a⟩:=h;refine⟨by simpa[m]using o,fun q p=> ?_⟩;rcases zZ.1 p with k | k
 .exact a q (qZ _ k)
 .rcases zM.1 k with rfl | k
  .rw[m];exact a N (by simp)
  .exact a q (by simp[k])
theorem Born.more {l:List MapEntry}{e:MapEntry}{c:Nat}(h:Born l c)(p:e.born=c):Born (l++[e]) (c+1):=by
 obtain⟨i,f⟩:=h;refine⟨?_,fun q j=> ?_⟩
 .rw[List.map_append,List.nodup_append];refine⟨i,by simp,fun a m b hb=> ?_⟩;simp only[y6,List.map_nil,y8]at hb;obtain⟨x,o,rfl⟩:=qM.1 m;have:=f x o;omega
 .rcases zZ.1 j with k | k
  .exact Nat.lt_succ_of_lt (f q k)
  .simp only[y8]at k;subst k;omega
theorem Born.less {f:List MapEntry}(h:Born (W++N::f) n):Born (W++f) n:=by
 obtain⟨j,m⟩:=h;have i:(W++f).Sublist (W++N::f):=(List.Sublist.refl W).append (List.sublist_cons_self N f);exact⟨j.sublist (i.map _),fun q o=>m q (i.subset o)⟩
theorem Rel.mapPut (h:Rel R H w){c:Nat}{es es':List (AV×AV)}{H':AH}(m:H.h.get n=some (.map v es))(hR:R n E j c)(hp:putA H n (.map v es')=some H'){arr':Array MapEntry}{clock':Nat}
  (hm:MR R es' arr'.toList) (i: ∀e∈es',keyOk v e.1=true) (hd:es'.Pairwise (fun a E=>a.1≠E.1)) (A:Born arr'.toList clock'):Rel R H' (wput w E (.map arr' clock'))/\Ext R H w R H' (wput w E (.map arr' clock')):=by
 unfold putA at hp;split at hp
 .rename_i o f;simp only[zB]at hp;subst hp;exact⟨h.put hR (Live.map m) f ⟨arr',clock',rfl,hm,i,hd,A⟩,Ext.put hR f⟩
 .simp at hp
theorem modify_mid (a:List MapEntry)(e:MapEntry)(h:List MapEntry)(f:MapEntry->MapEntry):(a++e::h).modify a.length f=a++f e::h:=by
 induction a with
 | nil=>simp
 | cons x l ih=>simp[ih]
theorem arr_split {arr:Array MapEntry}(h:arr.toList[n]? =some N): ∃a f,arr.toList=a++N::f/\a.length=n:=by
 obtain⟨i,m⟩:=qN.1 h;refine⟨arr.toList.take n,arr.toList.drop (n+1), ?_,by simp;simp at i;omega⟩;rw[<-m,List.getElem_cons_drop,qR]
include hX hL in
theorem upM_ok {kt et:TypeId}{x k ks r:AV}{p:Value}{H':AH}(ht:X.und h=some (.map kt et))(hk:kOf X kt=some v)(t:upM v x k ks H=some (r,H'))(hx:VR R x i)(z:VR R k s)(a2:VR R ks p):
  r=undefA/\ ∃T,(Instr.mapUpdate h i s p).run P w= .ok () T/\Rel R H' T/\Ext R H w R H' T:=by
 obtain⟨K,G,a3⟩:=kOf_ok hX hk;unfold upM at t;rw[zF]at t;split at t
 .rename_i kv;have C:=a3 R k s kv z;split at t
  .rename_i A;obtain⟨b,d,c,hr,rfl⟩:=hx;split at t
   .rename_i b0 es U;rw[zF]at t;split at t
    .rename_i V;obtain rfl:=eqNL_eq _ _ V;obtain⟨arr,L,hb,hm,u,hd,S⟩:=hL.mapAt U hr;have Z: ∀x∈arr.toList,K x.key:=by
      intro q f;obtain⟨m,hp,y,xv⟩:=hm;obtain⟨e,V,hv⟩:=ER.mem (ER.of y xv) q (hp.symm.subset f);exact a3 R _ _ (u e V) hv
     have a0: ∀o,(setObj b o).run P w= .ok () (wput w b o):=fun o=>MapKept.run_setObj_map o hb
     split at t
     .rename_i es' M;split at t
      .rename_i H1 hp;simp only[zB,zQ]at t;obtain⟨rfl,rfl⟩:=t;refine⟨rfl, ?_⟩;obtain⟨a4,v0,a5,rfl,rfl⟩:=setA_some M;rcases G.find s arr.toList w C Z with⟨y,xv⟩ | ⟨j,e,y,xv,h3⟩
       .obtain⟨m,F,I,J⟩:=hm;obtain⟨W,x,N,rfl,r1,r2,r3,r4⟩:=(ER.of I J).split;have:=(key_fun (u (k,v0) (by simp)) kv r2 z).1 rfl;exact absurd this (xv x (F.subset (by simp)))
       .obtain⟨W,N,e1,e2,_,Y⟩:=find_both hm u hd z xv h3;obtain⟨l1,l2,hl,a6⟩:=arr_split xv;have a7:arr[j]? =some e:=by simpa using xv
        have a1:(arr.modify j fun x=> { x with key:=s,val:=p}).toList=l1++ { e with key:=s,val:=p} ::l2:=by
         rw[Array.toList_modify,hl,<-a6,modify_mid]
        have Q:=hL.mapPut U hr hp (arr':=arr.modify j fun x=> { x with key:=s,val:=p}) (clock':=L) (es':=a4++(k,ks)::a5) ?_ (fun q f=> ?_) ?_ (by rw[a1];rw[hl]at S;exact S.turn rfl)
        .refine⟨_, ?_,Q⟩;simp only[Instr.mapUpdate,zG,hX.run_und ht w,Result.andThen_ok,MapKept.run_getObj_map hb,G.check s _ w C,y];simp only[a7,zY,yB,h3,G.stays s w C,Result.andThen_ok,a0]
        .rw[a1];refine⟨W++ { e with key:=s,val:=p} ::N, ?_, ?_⟩
         .rw[hl]at Y;have:=(List.perm_middle (a:=e) (l₁:=W) (l₂:=N)).symm.trans (Y.trans List.perm_middle);have:=(List.perm_cons e).1 this;exact List.perm_middle.trans ((this.cons _).trans List.perm_middle.symm)
         .exact ER.to (e1.append ⟨_,N,rfl,z,a2,e2⟩)
        .have a8:q∈a4++(k,ks)::a5:=f;rcases zZ.1 a8 with t | t
         .exact u q (qZ _ t)
         .rcases zM.1 t with rfl | t
          .exact kv
          .exact u q (by simp[t])
        .obtain⟨p1,p2,p3⟩:=yV.1 hd;obtain⟨p4,p5⟩:=yJ.1 p2;refine yV.2 ⟨p1,yJ.2 ⟨fun q f=>p4 q f,p5⟩,fun a O q f=> ?_⟩;rcases zM.1 f with rfl | f
         .exact p3 a O (k,v0) (zH ..)
         .exact p3 a O q (zC _ f)
      .simp at t
     .rename_i M;split at t
      .rename_i H1 hp;simp only[zB,zQ]at t;obtain⟨rfl,rfl⟩:=t;refine⟨rfl, ?_⟩;rcases G.find s arr.toList w C Z with⟨y,xv⟩ | ⟨j,e,y,xv,h3⟩
       .have Q:=hL.mapPut U hr hp (arr':=arr.push { key:=s,val:=p,born:=L}) (clock':=L+1) (es':=es++[(k,ks)]) ?_ (fun q f=> ?_) ?_ (by rw[Array.toList_push];exact S.more rfl)
        .refine⟨_, ?_,Q⟩;simp only[Instr.mapUpdate,zG,hX.run_und ht w,Result.andThen_ok,MapKept.run_getObj_map hb,G.check s _ w C,y,a0]
        .obtain⟨m,F,I,J⟩:=hm;refine⟨m++[{ key:=s,val:=p,born:=L}],by rw[Array.toList_push];exact F.append_right _, ?_⟩;exact ER.to ((ER.of I J).append ⟨_,[],rfl,z,a2,rfl⟩)
        .rcases zZ.1 f with t | t
         .exact u q t
         .simp only[y8]at t;subst t;exact kv
        .refine yV.2 ⟨hd,List.pairwise_singleton _ _,fun a O q f=> ?_⟩;simp only[y8]at f;subst f;exact setA_none kv M a O
       .obtain⟨m,F,I,J⟩:=hm;obtain⟨q,f,a9⟩:=ER.mem (ER.of I J) e (F.symm.subset (List.mem_of_getElem? xv));exact absurd ((key_fun (u q f) kv a9 z).2 h3) (setA_none kv M q f)
      .simp at t
    .simp at t
   .simp at t
  .simp at t
 .simp at t
include hX hL in
theorem dlM_ok {kt et ty:TypeId}{x k r:AV}{H':AH}(C:F[0]? =some h)(G:X.und h=some (.map kt et))(hk:kOf X kt=some v)(t:dlM v x k H=some (r,H'))(hx:VR R x i)(y:VR R k s):
  r= .tuple []/\ ∃I,(Builtin.delete_ F ty #[i,s]).run P w= .ok (.tuple #[]) I/\Rel R H' I/\Ext R H w R H' I:=by
 obtain⟨K,ks,Y⟩:=kOf_ok hX hk;unfold dlM at t;rw[zF]at t;split at t
 .rename_i z;have u:=Y R k s z y;split at t
  .have:i= .map none:=hx;subst this;simp only[zB,zQ]at t;obtain⟨rfl,rfl⟩:=t;refine⟨rfl,w, ?_,hL,jX R H w⟩;simp[Builtin.delete_,zG,C,hX.run_und G w,ks.check s _ w u]
  .rename_i A;obtain⟨b,d,c,hr,rfl⟩:=hx;split at t
   .rename_i a6 es hA;rw[zF]at t;split at t
    .rename_i J;obtain rfl:=eqNL_eq _ _ J;obtain⟨arr,S,hb,hm,kv,hd,Z⟩:=hL.mapAt hA hr;have U: ∀x∈arr.toList,K x.key:=by
      intro q xv;obtain⟨m,hp,p,f⟩:=hm;obtain⟨e,J,hv⟩:=ER.mem (ER.of p f) q (hp.symm.subset xv);exact Y R _ _ (kv e J) hv
     have V: ∀o,(setObj b o).run P w= .ok () (wput w b o):=fun o=>MapKept.run_setObj_map o hb
     split at t
     .rename_i es' L;split at t
      .rename_i H1 hp;simp only[zB,zQ]at t;obtain⟨rfl,rfl⟩:=t;refine⟨rfl, ?_⟩;obtain⟨a3,v0,a4,rfl,rfl⟩:=delA_some L;rcases ks.find s arr.toList w u U with⟨p,f⟩ | ⟨j,e,p,f,h3⟩
       .obtain⟨m,ts,M,N⟩:=hm;obtain⟨O,x,Q,rfl,r1,r2,r3,r4⟩:=(ER.of M N).split;have:=(key_fun (kv (k,v0) (by simp)) z r2 y).1 rfl;exact absurd this (f x (ts.subset (by simp)))
       .obtain⟨O,Q,e1,e2,_,T⟩:=find_both hm kv hd y f h3;obtain⟨l1,l2,hl,a1⟩:=arr_split f;have W:(arr.eraseIdxIfInBounds j).toList=l1++l2:=by
         have:(arr.eraseIdxIfInBounds j).toList=arr.toList.eraseIdx j:=by
          unfold Array.eraseIdxIfInBounds;split
          .simp[Array.toList_eraseIdx]
          .rw[List.eraseIdx_of_length_le (by simp;omega)]
         rw[this,hl,<-a1,List.eraseIdx_append_of_length_le (by simp)];simp
        have a2:=hL.mapPut hA hr hp (arr':=arr.eraseIdxIfInBounds j) (clock':=S) (es':=a3++a4) ?_ (fun q xv=> ?_) ?_ (by rw[W];rw[hl]at Z;exact Z.less)
        .refine⟨_, ?_,a2⟩;simp[Builtin.delete_,zG,C,hX.run_und G w,MapKept.run_getObj_map hb,ks.check s _ w u,p,V]
        .rw[W];refine⟨O++Q, ?_,ER.to (e1.append e2)⟩;rw[hl]at T;have:=(List.perm_middle (a:=e) (l₁:=O) (l₂:=Q)).symm.trans (T.trans List.perm_middle);exact(List.perm_cons e).1 this
        .rcases zZ.1 xv with t | t
         .exact kv q (qZ _ t)
         .exact kv q (by simp[t])
        .obtain⟨p1,p2,p3⟩:=yV.1 hd;obtain⟨p4,p5⟩:=yJ.1 p2;exact yV.2 ⟨p1,p5,fun a ha q xv=>p3 a ha q (zC _ xv)⟩
      .simp at t
     .rename_i L;simp only[zB,zQ]at t;obtain⟨rfl,rfl⟩:=t;refine⟨rfl,w, ?_,hL,jX R H w⟩;rcases ks.find s arr.toList w u U with⟨p,f⟩ | ⟨j,e,p,f,h3⟩
      .have a0:wput w b (.map arr S)=w:=wput_self w b _ hb;simp[Builtin.delete_,zG,C,hX.run_und G w,MapKept.run_getObj_map hb,ks.check s _ w u,p,V,a0]
      .obtain⟨m,ts,M,N⟩:=hm;obtain⟨q,xv,a5⟩:=ER.mem (ER.of M N) e (ts.symm.subset (List.mem_of_getElem? f));exact absurd ((key_fun (kv q xv) z a5 y).2 h3) (delA_none z L q xv)
    .simp at t
   .simp at t
  .simp at t
 .simp at t
include hX hL in
theorem clM_ok {u ty:TypeId}{x r:AV}{H':AH}(f:F[0]? =some h)(ts:X.und h=some (.map a u))(t:clM x H=some (r,H'))(j:VR R x i):
  r= .tuple []/\ ∃kt,(Builtin.clear_ F ty #[i]).run P w= .ok (.tuple #[]) kt/\Rel R H' kt/\Ext R H w R H' kt:=by
 unfold clM at t;split at t
 .have:i= .map none:=j;subst this;simp only[zB,zQ]at t;obtain⟨rfl,rfl⟩:=t;refine⟨rfl,w, ?_,hL,jX R H w⟩;simp[Builtin.clear_,zG,f,hX.run_und ts w]
 .rename_i A;obtain⟨b,d,c,hr,rfl⟩:=j;split at t
  .rename_i ks es m;split at t
   .rename_i z hp;simp only[zB,zQ]at t;obtain⟨rfl,rfl⟩:=t;refine⟨rfl, ?_⟩;obtain⟨arr,p,hb,hm,v,hd,y⟩:=hL.mapAt m hr;have q: ∀o,(setObj b o).run P w= .ok () (wput w b o):=fun o=>MapKept.run_setObj_map o hb
    have s:=hL.mapPut m hr hp (arr':= #[]) (clock':=p) (es':=[]) ⟨[],by simp,rfl,rfl⟩ (by simp) List.Pairwise.nil (by simp[Born]);refine⟨_, ?_,s⟩;simp[Builtin.clear_,zG,f,hX.run_und ts w,MapKept.run_getObj_map hb,q]
   .simp at t
  .simp at t
 .simp at t
end
theorem run_val {s:Sem Value}{a:World}(h:s.run q t= .ok i a):(do pure (Next.value (← s)):Sem Next).run q t= .ok (.value i) a:=by
 simp only[zG,h,Result.andThen];rfl
theorem foldl_arrSet (off:Nat): ∀(l:List Value) (k:Nat) (arr:Array Value),(l.zipIdx k).foldl (fun cs (x:Value×Nat)=>cs.setIfInBounds (off+x.2) x.1) arr=arrSet arr (off+k) l
 | [],_,_=>rfl
 | v::l,k,arr=>by
  simp only[List.zipIdx_cons,List.foldl_cons,arrSet];rw[foldl_arrSet off l (k+1)];rfl
inductive PR (R:Ren):List (Nat×AV)->List (Nat×Value)->Prop
 | nil:PR R [] []
 | cons {i:Nat} {x:AV} {v:Value} {l:List (Nat×AV)} {m:List (Nat×Value)} (h:VR R x v) (t:PR R l m):PR R ((i,x)::l) ((i,v)::m)
theorem fill_ok {R:Ren}{p place':Nat->Option (Nat×Nat)}(hp: ∀i x,p i=some x->place' i=some x): ∀ {j:List (Nat×AV)} {o:List (Nat×Value)},PR R j o-> ∀ {cells r:List AV} {arr:Array Value},fillA p cells j=some r->VRL R cells arr.toList->
  ∃arr',Instr.fill place' arr o=some arr'/\VRL R r arr'.toList:=by
 intro j o h
 induction h with
 | nil=>intro cells r arr a f;simp only[fillA,zB]at a;subst a;exact⟨arr,rfl,f⟩
 | @cons i x v l m hx ht ih=>
  intro cells r arr a f;simp only[fillA]at a;split at a
  .simp at a
  .rename_i off size y;simp only[zF,lenL_zero,zX]at a;split at a
   .rename_i L;split at a
    .rename_i t F;obtain⟨G,M⟩:=setAt_eq _ _ _ _ F;have s:=cells_ok hx;have q:=jN _ _ s;have C:=jN _ _ f;rw[yN]at q C;have u:VRL R t (arrSet arr off v.cells.toList).toList:=by
      rw[arrSet_toList _ _ _ (by rw[yN];omega),G];refine(VRL.append ((f.take off).append s) ?_);have I:v.cells.toList.length=(cellsA x).length:=by rw[yN];exact q
      rw[I];exact f.drop _
     obtain⟨arr',h3,J⟩:=ih a u;refine⟨arr', ?_,J⟩;rw[Instr.fill,hp _ _ y];simp only;rw[if_neg (by simp;omega)];have K:v.cells.zipIdx.foldl (fun cs (x:Value×Nat)=>cs.setIfInBounds (off+x.2) x.1) arr=arrSet arr off v.cells.toList:=by
      rw[<-Array.foldl_toList,Array.toList_zipIdx,foldl_arrSet];rfl
     exact(congrArg (fun z=>Instr.fill place' z m) K).trans h3
    .simp at a
   .simp at a
theorem natOf_ok {R:Ren}{x:AV}(h:natOf x=some n)(a:VR R x i): ∃k,i= .int k (n:Int):=by
 unfold natOf at h;split at h
 .rename_i k m;simp only[zB]at h;subst h;simp only[VR]at a;exact⟨k,a⟩
 .simp at h
theorem parts_ok {R:Ren}{env:Env}{n:Nat}{fr:Frame}(h:EnvR R env n fr.tmps): ∀(a:List (Nat×Operand)) (f:List (Nat×AV)),partsA env a=some f->PR R f (a.map fun(i,x)=>(i,fr.eval x))
 | [],f,e=>by simp only[partsA,zB]at e;subst e;exact .nil
 | (i,x)::a,f,e=>by
  simp only[partsA]at e;split at e
  .rename_i v vs m j;simp only[zB]at e;subst e;exact .cons (opd_ok h x v m) (parts_ok h a vs j)
  .simp at e
section
variable {P:Program}{X:Cx}(hX:Ok P X){R:Ren}(hR:RFn R){w:World}
include hX
theorem places_ok: ∀(fs:List Field) (a:List (Nat×Nat)),placesA X fs=some a->fs.mapM (fun f=>(P.info? f.type).map fun i=>(f.offset,i.size))=some a
 | [],a,h=>by simp only[placesA,zB]at h;subst h;rfl
 | f::fs,a,h=>by
  simp only[placesA]at h;split at h
  .rename_i n r j hr;simp only[zB]at h;subst h;obtain⟨i,m,o⟩:=hX.size j;simp[List.mapM_cons,m,o,places_ok fs r hr]
  .simp at h
theorem part_ok {off:Nat}{cs:List AV}{r:AV}(hd:X.und h=some L)(m:X.size h=some n)(hl:VRL R cs I)
  (t:(bif isAggD L then(match subN cs off n with | some c=>some (.agg c) | none=>none)else nth cs off)=some r): ∃v,(part h ⟨I⟩ off).run P w= .ok v w/\VR R r v:=by
 rw[zF]at t;split at t
 .rename_i a;split at t
  .rename_i c o;simp only[zB]at t;subst t;obtain⟨p,s⟩:=subN_eq _ _ _ _ o;refine⟨.agg ((⟨I⟩:Array Value).extract off (off+n)), ?_, ?_⟩
   .simp only[part,zG,hX.run_isAgg hd,hX.run_size m,Result.andThen,a,if_true];rfl
   .refine⟨((⟨I⟩:Array Value).extract off (off+n)).toList,rfl, ?_⟩;rw[p,Array.toList_extract];have:=(hl.drop off).take n;simpa[List.extract,List.take_drop]using this
  .simp at t
 .rename_i a;rw[nth_eq]at t;obtain⟨v,q,f⟩:=VRL.get _ _ hl _ _ t;refine⟨v, ?_,f⟩;have i:isAggD L=false:=by simpa using a
  have j:(⟨I⟩:Array Value)[off]? =some v:=by simpa using q
  simp only[part,zG,hX.run_isAgg hd,Result.andThen,i,zL,qD,j];rfl
theorem afield_ok {x r:AV}(t:afield X h x n=some r)(o:VR R x i): ∃z,(Instr.field h i n).run P w= .ok z w/\VR R r z:=by
 unfold afield at t;split at t
 .rename_i fs cs hd;split at t
  .rename_i fl a;split at t
   .rename_i d f v p;obtain⟨l,rfl,hl⟩:=o;obtain⟨z,q,j⟩:=part_ok hX (w:=w) v p hl t;refine⟨z, ?_,j⟩;rw[nthF_eq]at a;have m:fs[n]? =some fl:=by simpa using a
    simp only[Instr.field,zG,hX.run_und hd,Result.andThen,m];exact q
   .simp at t
  .simp at t
 .simp at t
theorem aindex_ok {x v r:AV}(t:aindex X h x v=some r)(j:VR R x i)(q:VR R v s): ∃z,(Instr.index h i s).run P w= .ok z w/\VR R r z:=by
 unfold aindex at t;split at t
 .rename_i m hm;obtain⟨k,rfl⟩:=natOf_ok hm q;split at t
  .rename_i len F hd;obtain⟨u,rfl,rfl,rfl⟩:=j;simp only[zF,q9]at t;split at t
   .rename_i a;rw[fN_eq,zB]at t;subst t;refine⟨.int .u8 u[m].toNat, ?_, ?_⟩
    .have e:(if 0<=(m:Int)then u[(m:Int).toNat]? else none)=some u[m]:=by
      rw[if_pos (by omega),qU];exact getElem?_pos u m a
     simp only[Instr.index,asIntOf,zG,zJ,hX.run_und hd,Result.andThen,e]
    .simp only[VR];congr 1;have:=pack_get u.data.toList m (by rw[size_data];exact a);rw[pow8];have y:u.data.toList[m]'(by rw[size_data];exact a)=u[m]:=by simp;rfl
     rw[<-y,this];rfl
   .simp at t
  .rename_i n e cs hd;obtain⟨l,rfl,hl⟩:=j;split at t
   .rename_i d sz o f;simp only[zF,q9]at t;split at t
    .rename_i a;obtain⟨z,C,p⟩:=part_ok hX (w:=w) (off:=m*sz) o f hl (by rw[zF];exact t);refine⟨z, ?_,p⟩;simp only[Instr.index,asIntOf,zG,zJ,hX.run_und hd,Result.andThen];rw[if_pos (by omega)];simp only[zG,hX.run_size f,Result.andThen,qU];exact C
    .simp at t
   .simp at t
  .simp at t
 .simp at t
theorem aindexAddr_ok {x v r:AV}(t:aindexAddr X h x v=some r)(f:VR R x i)(o:VR R v s): ∃z,(Instr.indexAt h i s).run P w= .ok z w/\VR R r z:=by
 unfold aindexAddr at t;split at t
 .rename_i m hm;obtain⟨k,rfl⟩:=natOf_ok hm o;split at t
  .rename_i n e A off hd;obtain⟨b,d,c,hr,rfl⟩:=f;split at t
   .rename_i sz a;simp only[zF,q9]at t;split at t
    .rename_i j;rw[fN_eq,zB]at t;subst t;refine⟨.pointer (some ⟨b,d+(off+m*sz),none⟩), ?_,b,d,c,hr,rfl⟩;simp only[Instr.indexAt,asIntOf,zG,zJ,hX.run_und hd,Result.andThen,Instr.sureAddr];rw[if_pos (by omega)];simp only[zG,hX.run_size a,Result.andThen,qU,add_none,Nat.add_assoc,zJ]
    .simp at t
   .simp at t
  .rename_i e A off len cc hd;obtain⟨b,d,c,hr,rfl⟩:=f;split at t
   .rename_i sz a;simp only[zF,q9]at t;split at t
    .rename_i j;rw[fN_eq,zB]at t;subst t;refine⟨.pointer (some ⟨b,d+(off+m*sz),none⟩), ?_,b,d,c,hr,rfl⟩;simp only[Instr.indexAt,asIntOf,zG,zJ,hX.run_und hd,Result.andThen];rw[if_pos (by omega)];simp only[zG,hX.run_size a,Result.andThen,qU,add_none,Nat.add_assoc,zJ]
    .simp at t
   .simp at t
  .simp at t
 .simp at t
theorem afieldAddr_ok {x r:AV}(t:afieldAddr X h x n=some r)(o:VR R x i): ∃z,(Instr.fieldAt h i n).run P w= .ok z w/\VR R r z:=by
 unfold afieldAddr at t;split at t
 .rename_i fs A off hd;split at t
  .rename_i fl a;rw[nthF_eq]at a;have f:fs[n]? =some fl:=by simpa using a
   split at t
   .simp at t
   .rename_i sz j m;rw[fN_eq,zB]at t;subst t;obtain⟨b,d,c,hr,rfl⟩:=o;have p: ¬sz=0:=fun e=>j (by rw[e])
    refine⟨.pointer (some ⟨b,d+(off+fl.offset),none⟩), ?_,b,d,c,hr,rfl⟩;simp only[Instr.fieldAt,zG,hX.run_und hd,Result.andThen,f,Instr.sureAddr,zJ,fieldPlace,hX.run_size m,if_neg p,add_none,Nat.add_assoc]
   .simp at t
  .simp at t
 .simp at t
theorem acap_ok {ty:TypeId}{x r:AV}(f:F[0]? =some h)(t:acap X h x=some r)(a:VR R x i): ∃z,(Builtin.cap_ F ty #[i]).run P w= .ok z w/\VR R r z:=by
 unfold acap at t;split at t
 .rename_i e hd;simp only[zB]at t;subst t;simp only[VR]at a;subst a;exact⟨goInt 0,by simp[Builtin.cap_,f,zG,hX.run_und hd,zJ],rfl⟩
 .rename_i e A off len cc hd;simp only[zF,zX]at t;split at t
  .rename_i v;rw[fN_eq,zB]at t;subst t;obtain⟨b,d,c,hr,rfl⟩:=a;refine⟨goInt (cc / 2:Nat), ?_,rfl⟩;have:decap cc c=cc / 2:=by simp[decap,v]
   simp[Builtin.cap_,f,zG,hX.run_und hd,zJ,this]
  .simp at t
 .simp at t
theorem aconvP_ok {x r:AV}(s:aconvP X h a x=some r)(d:VR R x i): ∃z,(convert h a i).run P w= .ok z w/\VR R r z:=by
 unfold aconvP at s;split at s
 .simp at s
 .rename_i ds f;split at s
  .rename_i k hd;split at s
   .rename_i k' n;rw[mkI_eq,zB]at s;subst s;simp only[VR]at d;subst d;exact⟨.int k (k.wrap n),by simp[convert,zG,hX.run_und f,hX.run_und hd,Conv.intToInt,zJ],rfl⟩
   .simp at s
  .rename_i hd;split at s
   .rename_i l b;simp only[zB]at s;subst s;obtain⟨v,rfl,j,m⟩:=d;exact⟨.string v,by simp[convert,zG,hX.run_und f,hX.run_und hd,zJ],v,rfl,j,m⟩
   .simp at s
  .simp at s
theorem aun_ok {f:UnOp}{x r:AV}(h:aun f x=some r)(a:VR R x i): ∃z,(Op.unary f i).run P w= .ok z w/\VR R r z:=by
 have _:=hX;unfold aun at h;split at h
 .rename_i k n;rw[mkI_eq,zB]at h;subst h;simp only[VR]at a;subst a;exact⟨_,rfl,rfl⟩
 .rename_i b;rw[mkB_eq,zB]at h;subst h;simp only[VR]at a;subst a;exact⟨_,rfl,rfl⟩
 .simp at h
theorem pBuild_ok {env:Env}(C:EnvR R env n Q.tmps){r:AV}(fr:pBuild X env h J=some r):
  ∃z,(Instr.build h (J.map fun(i,x)=>(i,Q.eval x))).run P w= .ok z w/\VR R r z:=by
 unfold pBuild at fr;split at fr
 .rename_i z F;obtain⟨t,p,q⟩:=hX.run_zero R F w;split at fr
  .rename_i I hp;have j:=parts_ok C _ _ hp;rw[<-Array.toList_map]at j;split at fr
   .rename_i fs hd;split at fr
    .rename_i G v;split at fr
     .rename_i c m;simp only[zB]at fr;subst fr;obtain⟨arr',a,o⟩:=fill_ok (place':=(G.toArray[·]?)) (fun i x f=>by rw[nthP_eq]at f;simpa using f) j m (cells_ok q);have u:=run_places w _ _ (places_ok hX _ _ v);refine⟨.agg arr', ?_,arr'.toList,rfl,o⟩;simp at a;simp[Instr.build,zG,p,hX.run_und hd,Array.mapM_eq_mapM_toList,u,a,zJ]
     .simp at fr
    .simp at fr
   .rename_i len e hd;split at fr
    .rename_i sz y;split at fr
     .rename_i c m;simp only[zB]at fr;subst fr;obtain⟨arr',a,o⟩:=fill_ok (place':=fun i=>some (i*sz,sz)) (fun i x f=>f) j m (cells_ok q);refine⟨.agg arr', ?_,arr'.toList,rfl,o⟩;simp at a;simp[Instr.build,zG,p,hX.run_und hd,hX.run_size y,a,zJ]
     .simp at fr
    .simp at fr
   .simp at fr
  .simp at fr
 .simp at fr
theorem pArr_ok {x r:AV}(arr:pArr X h x=some r)(a:VR R x i): ∃z,(Instr.arrayAt h i).run P w= .ok z w/\VR R r z:=by
 unfold pArr at arr;split at arr
 .rename_i A off len cc;split at arr
  .rename_i n e hd;simp only[zF,qO]at arr;split at arr
   .rename_i f;simp only[zB]at arr;subst arr;obtain⟨b,d,c,hr,rfl⟩:=a;refine⟨.pointer (some ⟨b,d+off,none⟩), ?_,b,d,c,hr,rfl⟩;simp only[Instr.arrayAt,zG,hX.run_und hd,Result.andThen];rw[if_neg (by omega)];rfl
   .simp at arr
  .simp at arr
 .simp at arr
omit hX in
theorem mn2_ok {ts:Array TypeId}{ty:TypeId}{x y r:AV}(h:mn2 x y=some r)(v:VR R x i)(j:VR R y s): ∃z,(Builtin.min_ ts ty #[i,s]).run P w= .ok z w/\VR R r z:=by
 unfold mn2 at h;split at h
 .rename_i k a;split at h
  .rename_i k' b;simp only[VR]at v j;subst v j;rw[zF,ilt_eq]at h;refine⟨.int k (if b<a then b else a),by simp[Builtin.min_,Builtin.min2], ?_⟩
   split at h
   .rename_i f;have f:=of_decide_eq_true f;simp only[zB]at h;subst h;rw[if_pos f];rfl
   .rename_i f;have f: ¬b<a:=by simpa using f
    simp only[zB]at h;subst h;rw[if_neg f];rfl
  .simp at h
 .simp at h
omit hX in
theorem mx2_ok {ts:Array TypeId}{ty:TypeId}{x y r:AV}(h:mx2 x y=some r)(v:VR R x i)(j:VR R y s): ∃z,(Builtin.max_ ts ty #[i,s]).run P w= .ok z w/\VR R r z:=by
 unfold mx2 at h;split at h
 .rename_i k a;split at h
  .rename_i k' b;simp only[VR]at v j;subst v j;rw[zF,ilt_eq]at h;refine⟨.int k (if b>a then b else a),by simp[Builtin.max_,Builtin.max2], ?_⟩
   split at h
   .rename_i f;have f:=of_decide_eq_true f;simp only[zB]at h;subst h;rw[if_pos f];rfl
   .rename_i f;have f: ¬a<b:=by simpa using f
    simp only[zB]at h;subst h;rw[if_neg f];rfl
  .simp at h
 .simp at h
include hR in
theorem simP {env:Env}(q:EnvR R env n Q.tmps){r:AV}(h:aP X env D.op=some r): ∃z,(execOp Q.eval D).run P w= .ok (.value z) w/\VR R r z:=by
 have u: ∀ {x:Operand} {f:AV->Option AV},b1 (opd env x) f=some r-> ∃a,VR R a (Q.eval x)/\f a=some r:=by
  intro x f hb;unfold b1 at hb;split at hb
  .rename_i a j;exact⟨a,opd_ok q x a j,hb⟩
  .simp at hb
 have F: ∀ {x y:Operand} {f:AV->AV->Option AV},b2 (opd env x) (opd env y) f=some r-> ∃a b,VR R a (Q.eval x)/\VR R b (Q.eval y)/\f a b=some r:=by
  intro x y f hb;unfold b2 at hb;split at hb
  .rename_i a j;split at hb
   .rename_i b K;exact⟨a,b,opd_ok q x a j,opd_ok q y b K,hb⟩
   .simp at hb
  .simp at hb
 obtain⟨dst,U,ty,S,O,fr⟩:=D;simp only at h;unfold aP at h;split at h
 .exact⟨_,rfl,opd_ok q _ _ h⟩
 .exact⟨_,rfl,opd_ok q _ _ h⟩
 .rename_i c a b;unfold pPick at h;split at h
  .rename_i s;have hb:=opd_ok q _ _ s;simp only[VR]at hb;exact⟨_,by simp[execOp,hb,asBool,zG,zJ],opd_ok q _ _ h⟩
  .rename_i s;have hb:=opd_ok q _ _ s;simp only[VR]at hb;exact⟨_,by simp[execOp,hb,asBool,zG,zJ],opd_ok q _ _ h⟩
  .simp at h
 .obtain⟨z,m,p⟩:=pBuild_ok hX (w:=w) q h;exact⟨z,run_val m,p⟩
 .rename_i x;obtain⟨a,j,i⟩:=u h;unfold pNil at i;split at i<;>first | (simp at i;done) | skip
  .simp only[zB]at i;subst i;obtain⟨b,d,c,hr,e⟩:=id j;exact⟨_,by simp[execOp,e,zJ];rfl,by rw[<-e];exact j⟩
  .simp only[zB]at i;subst i;obtain⟨xs,V,e,_⟩:=id j;exact⟨_,by simp[execOp,e,zJ];rfl,by rw[<-e];exact j⟩
  .simp only[zB]at i;subst i;obtain⟨b,d,c,hr,e⟩:=id j;exact⟨_,by simp[execOp,e,zJ];rfl,by rw[<-e];exact j⟩
 .rename_i T t x y _;obtain⟨a,b,j,hb,i⟩:=F h;obtain⟨m,z,p,h3⟩:=abin_ok hX hR (w:=w) (ox:=x) (oy:=y) i j hb;refine⟨z,run_val ?_,h3⟩;simp only[zG,m,Result.andThen,p]
 .obtain⟨a,j,i⟩:=u h;obtain⟨z,m,p⟩:=aun_ok hX (w:=w) i j;exact⟨z,run_val m,p⟩
 .obtain⟨a,j,i⟩:=u h;obtain⟨z,m,p⟩:=aconvP_ok hX (w:=w) i j;exact⟨z,run_val m,p⟩
 .rename_i f first cap
  unfold pFunc at h;split at h
  .rename_i a j;split at h
   .rename_i b hb;simp only[zB]at h;subst h;refine⟨_,run_val rfl, ?_⟩;exact⟨(first.map Q.eval).toList,(cap.map Q.eval).toList,rfl,by simpa using opds_ok q _ _ j,by simpa using opds_ok q _ _ hb⟩
   .simp at h
  .simp at h
 .obtain⟨a,j,i⟩:=u h;obtain⟨z,m,p⟩:=afieldAddr_ok hX (w:=w) i j;exact⟨z,run_val m,p⟩
 .obtain⟨a,j,i⟩:=u h;obtain⟨z,m,p⟩:=afield_ok hX (w:=w) i j;exact⟨z,run_val m,p⟩
 .obtain⟨a,b,j,hb,i⟩:=F h;obtain⟨z,m,p⟩:=aindexAddr_ok hX (w:=w) i j hb;exact⟨z,run_val m,p⟩
 .obtain⟨a,b,j,hb,i⟩:=F h;obtain⟨z,m,p⟩:=aindex_ok hX (w:=w) i j hb;exact⟨z,run_val m,p⟩
 .obtain⟨a,j,i⟩:=u h;obtain⟨z,m,p⟩:=pArr_ok hX (w:=w) i j;exact⟨z,run_val m,p⟩
 .rename_i W N;obtain⟨a,j,i⟩:=u h;unfold pExtract at i;split at i
  .rename_i vs;rw[nth_eq]at i;obtain⟨l,e,hl⟩:=j;obtain⟨z,m,p⟩:=VRL.get _ _ hl _ _ i;refine⟨z,run_val ?_,p⟩;have L:(⟨l⟩:Array Value)[N]? =some z:=by simpa using m
   simp only[Instr.extract,e,L];rfl
  .simp at i
 .rename_i c;split at h
  .rename_i s;split at h
   .rename_i x v;split at h
    .rename_i t ts J;obtain⟨a,j,i⟩:=u h;obtain⟨I,args,C⟩:=c;simp only at s v J;subst s;have M:C[0]? =some t:=by rw[<-yM,J];rfl
     obtain⟨z,m,p⟩:=acap_ok hX (w:=w) (ty:=ty) M i j;have G:args.map Q.eval= #[Q.eval x]:=by
      apply Array.toList_inj.1;simp[v]
     refine⟨z, ?_,p⟩;simp only[execOp,resolve,invoke,builtin,G,zG,zJ,Result.andThen,m]
    .simp at h
   .simp at h
  .rename_i s;split at h
   .rename_i x y v;obtain⟨a,b,j,hb,i⟩:=F h;obtain⟨I,args,C⟩:=c;simp only at s v;subst s;have G:args.map Q.eval= #[Q.eval x,Q.eval y]:=by
     apply Array.toList_inj.1;simp[v]
    obtain⟨z,m,p⟩:=mn2_ok (P:=P) (w:=w) (ts:=C) (ty:=ty) i j hb;exact⟨z,by simp only[execOp,resolve,invoke,builtin,G,zG,zJ,Result.andThen,m],p⟩
   .simp at h
  .rename_i s;split at h
   .rename_i x y v;obtain⟨a,b,j,hb,i⟩:=F h;obtain⟨I,args,C⟩:=c;simp only at s v;subst s;have G:args.map Q.eval= #[Q.eval x,Q.eval y]:=by
     apply Array.toList_inj.1;simp[v]
    obtain⟨z,m,p⟩:=mx2_ok (P:=P) (w:=w) (ts:=C) (ty:=ty) i j hb;exact⟨z,by simp only[execOp,resolve,invoke,builtin,G,zG,zJ,Result.andThen,m],p⟩
   .simp at h
  .simp at h
 .simp at h
end
section
variable {P:Program}{X:Cx}(hX:Ok P X){R:Ren}{H:AH}{w:World}(hL:Rel R H w)
include hX hL
theorem aload_ok {p r:AV}(t:aload X h p H=some r)(o:VR R p i): ∃z,(Instr.loadAt h i).run P w= .ok z w/\VR R r z:=by
 unfold aload at t;split at t
 .rename_i A off;split at t
  .rename_i l e sz g j;obtain⟨b,d,c,hr,rfl⟩:=o;split at t
   .rename_i q hd;rw[zF]at t;split at t
    .rename_i a;split at t
     .rename_i n s;split at t
      .rename_i cs u;simp only[zB]at t;subst t;obtain⟨vs,f,v,h3⟩:=hL.loads j hr (P:=P) u;refine⟨.agg vs.toArray, ?_,vs,rfl,v⟩;simp only[Instr.loadAt,Instr.sureAddr,loadVar,zG,zJ,Result.andThen,hX.run_isAgg hd,a,if_true,hX.run_size s,f]
      .simp at t
     .simp at t
    .rename_i a;have m:isAggD q=false:=by simpa using a
     rw[nth_eq]at t;obtain⟨z,f,v⟩:=hL.cell j hr t;refine⟨z, ?_,v⟩;simp only[Instr.loadAt,Instr.sureAddr,loadVar,zG,zJ,Result.andThen,hX.run_isAgg hd,m,zL,qD];simp[load,Sem.run,f]
   .simp at t
  .simp at t
 .simp at t
theorem alen_ok {ty:TypeId}{x r:AV}(v:F[0]? =some h)(t:alen X h x H=some r)(f:VR R x i): ∃z,(Builtin.len_ F ty #[i]).run P w= .ok z w/\VR R r z:=by
 unfold alen at t;split at t
 .rename_i l b hd;simp only[zB]at t;subst t;obtain⟨s,rfl,rfl,rfl⟩:=f;exact⟨goInt s.size,by simp[Builtin.len_,v,zG,hX.run_und hd,zJ],rfl⟩
 .rename_i e hd;simp only[zB]at t;subst t;simp only[VR]at f;subst f;exact⟨goInt 0,by simp[Builtin.len_,v,zG,hX.run_und hd,zJ],rfl⟩
 .rename_i e A off n cc hd;simp only[zB]at t;subst t;obtain⟨b,d,c,hr,rfl⟩:=f;exact⟨goInt n,by simp[Builtin.len_,v,zG,hX.run_und hd,zJ],rfl⟩
 .rename_i e hd;simp only[zB]at t;subst t;obtain⟨a,c,rfl⟩:=f;exact⟨goInt 0,by simp[Builtin.len_,v,zG,hX.run_und hd,zJ],rfl⟩
 .rename_i n e hd;simp only[zB]at t;subst t;exact⟨goInt n,by simp[Builtin.len_,v,zG,hX.run_und hd,zJ],rfl⟩
 .rename_i k e hd;simp only[zB]at t;subst t;simp only[VR]at f;subst f;exact⟨goInt 0,by simp[Builtin.len_,v,zG,hX.run_und hd,zJ],rfl⟩
 .rename_i k e A hd;split at t
  .rename_i ks es p;simp only[zB]at t;subst t;obtain⟨b,d,c,hr,rfl⟩:=f;obtain⟨arr,j,q,⟨m,hp,u,h3⟩,_⟩:=hL.obj _ _ _ _ _ hr p;have o:arr.size=es.length:=by
    have y:=hp.length_eq;have C:=jN _ _ u;simp at y C;omega
   have ts:(getObj b).run P w= .ok (.map arr j) w:=by simp[getObj,Sem.run,q]
   exact⟨goInt arr.size,by simp[Builtin.len_,v,zG,hX.run_und hd,ts,zJ],by rw[o];rfl⟩
  .simp at t
 .simp at t
omit hX hL in
theorem textOf_ok: ∀ {l:List AV} {m:List Value} {n b:Nat},textOf l=some (n,b)->VRL R l m-> ∃a:List UInt8,m=a.map (fun c=>Value.int .u8 (c.toNat:Int))/\a.length=n/\pack a=b
 | [],m,n,b,h,hv=>by
  simp only[textOf,zB,zQ]at h;simp only[VRL]at hv;subst hv;exact⟨[],rfl,h.1,h.2⟩
 | x::l,m,n,b,h,hv=>by
  unfold textOf at h;split at h
  .rename_i f;simp at f
  .rename_i k rest f;simp only[yF]at f;obtain⟨rfl,rfl⟩:=f;simp only[zF,q9]at h;split at h
   .rename_i i;split at h
    .rename_i q s hr;simp only[fN_eq,zB,zQ]at h;obtain⟨t,u,rfl,j,o⟩:=hv;obtain⟨a,rfl,h3,p⟩:=textOf_ok hr o;simp only[VR]at j;subst j;refine⟨UInt8.ofNat k::a, ?_,by simp[h3,<-h.1], ?_⟩
     .simp only[y6,UInt8.toNat_ofNat',yF,and_true];congr 1;rw[Nat.mod_eq_of_lt i];rfl
     .simp only[pack,UInt8.toNat_ofNat',p,<-h.2];rw[Nat.mod_eq_of_lt i]
    .simp at h
   .simp at h
  .simp at h
theorem aconvL_ok {x r:AV}(s:aconvL X h a x H=some r)(d:VR R x i): ∃z,(convert h a i).run P w= .ok z w/\VR R r z:=by
 unfold aconvL at s;split at s
 .rename_i e v;split at s
  .rename_i hd;split at s
   .rename_i j;split at s
    .simp only[zB]at s;subst s;simp only[VR]at d;subst d;refine⟨.string .empty, ?_, .empty,rfl,rfl,rfl⟩;rw[run_convert_bytes_string w h a e none 0 0 (hX.und v) (hX.und j) (hX.und hd)];rfl
    .rename_i A off len cc;split at s
     .rename_i l I sz g p;split at s
      .rename_i cs q;split at s
       .rename_i n b t;rw[mkS_eq,zB]at s;subst s;obtain⟨u,y,c,hr,rfl⟩:=d;obtain⟨vs,C,F,h3⟩:=hL.loads p hr (P:=P) q;obtain⟨f,rfl,G,h5⟩:=textOf_ok t F;refine⟨.string ⟨f.toArray⟩, ?_,⟨f.toArray⟩,rfl,by simpa[ByteArray.size]using G,by simpa using h5⟩;rw[run_convert_bytes_string w h a e _ _ _ (hX.und v) (hX.und j) (hX.und hd)];have m:(loadCells ⟨u,y+off,none⟩ len).run P w= .ok ((f.map (fun b=>(b.toNat:Int))).map (Value.int .u8)).toArray w:=by
         rw[C];simp[List.map_map,Function.comp_def]
        rw[run_bytesToString w _ _ _ _ m,foldl_push_byteCells];have o:ByteArray.empty.data= #[]:=rfl;rw[o];simp
       .simp at s
      .simp at s
     .simp at s
    .simp at s
   .simp at s
  .simp at s
 .simp at s
end
inductive OR:Option Nat->Option Value->Prop
 | none:OR none none
 | some {n:Nat} {k:IntKind} :OR (some n) (some (.int k (n:Int)))
theorem natOpt_ok {R:Ren}{x:Option AV}(h:natOpt x=some U)(f:(x=none/\M=none)\/ ∃a u,x=some a/\M=some u/\VR R a u):OR U M:=by
 rcases f with⟨rfl,rfl⟩ | ⟨a,u,rfl,rfl,i⟩
 .simp only[natOpt,zB]at h;subst h;exact .none
 .simp only[natOpt]at h;split at h
  .rename_i m hm;simp only[zB]at h;subst h;obtain⟨k,rfl⟩:=natOf_ok hm i;exact .some
  .simp at h
theorem sliceBound_ok {code:BoundsCode}(h:n<=E):(Instr.sliceBound (.int B (n:Int)) E code).run q t= .ok n t:=by
 simp only[Instr.sliceBound,asIntOf,zG,zJ,Result.andThen];rw[if_pos (by omega)];simp[zJ]
theorem bounds_max {P:Program}{w:World}{is:Bool}{len cap:Nat}(p:OR U M)(q:OR (some E) f)(h3:OR (some j) u)(hl:n=U.getD 0)(hm:j<=cap)(o:E<=j)(a:n<=E):
  (Instr.sliceBounds is len cap M f u).run P w= .ok (n,E,j) w:=by
 subst hl
 cases q;cases h3;cases p
 .simp only[Instr.sliceBounds,zG,sliceBound_ok hm,sliceBound_ok o,zJ,Result.andThen];rfl
 .simp only[yB]at a;simp only[Instr.sliceBounds,zG,sliceBound_ok hm,sliceBound_ok o,sliceBound_ok a,zJ,Result.andThen];rfl
theorem bounds_plain {P:Program}{w:World}{is:Bool}{len cap:Nat}{hi:Option Nat}(m:OR U M)(o:OR hi f)(hl:n=U.getD 0)(p:E=hi.getD len)(l:E<=cap)(a:n<=E):
  (Instr.sliceBounds is len cap M f none).run P w= .ok (n,E,cap) w:=by
 subst hl p
 cases o<;>cases m
 .simp only[Instr.sliceBounds,zG,zJ,Result.andThen];rfl
 .simp only[yB,Option.getD_none]at a;simp only[Instr.sliceBounds,zG,sliceBound_ok a,zJ,Result.andThen];rfl
 .simp only[yB]at l;simp only[Instr.sliceBounds,zG,sliceBound_ok l,zJ,Result.andThen];rfl
 .simp only[yB]at l a;simp only[Instr.sliceBounds,zG,sliceBound_ok l,sliceBound_ok a,zJ,Result.andThen];rfl
theorem decap_even (c:Nat)(h:n % 2=0):decap n c=n / 2:=by
 have:(n % 2).beq 0=true:=by rw[zX];exact h
 simp only[decap,this,zP]
theorem decap_odd (c:Nat)(h: ¬n % 2=0):decap n c=c - n / 2:=by
 have:(n % 2).beq 0=false:=by rw[qX,ne_eq,zX];exact h
 simp only[decap,this,y9]
theorem acut_ok {P:Program}{w:World}{R:Ren}{c off len cc sz room cp:Nat}{hi s:Option Nat}{r:AV}{is:Bool}(hR:R n E j c)(o:cp=decap cc c)(C:room<=cp)
  (h:acut n off len cc sz room U hi s=some r) (x:OR U M) (y:OR hi f) (h3:OR s u):
  ∃l h m,(Instr.sliceBounds is len cp M f u).run P w= .ok (l,h,m) w/\VR R r (.slice (some (if m=l then(⟨E,j+off,none⟩:Addr)else(⟨E,j+off,none⟩:Addr).add (l*sz))) (h - l) (m - l)):=by
 unfold acut at h;simp only at h;split at h
 .rename_i m;split at h
  .rename_i z;simp only[zF]at h;split at h
   .rename_i a;simp only[zE,qO]at a;simp only[fN_eq,zB]at h;subst h;refine⟨U.getD 0,z,m,bounds_max x y h3 rfl (by omega) a.1.2 a.2,E,j,c,hR, ?_⟩;have b:decap (2*(m - U.getD 0)) c=m - U.getD 0:=by simp[decap]
    rw[b,add_none];by_cases e:m=U.getD 0
    .rw[if_pos e];simp[zX,e]
    .rw[if_neg e];simp[zX,e,Nat.add_assoc]
   .simp at h
  .simp at h
 .cases h3
  simp only[zF]at h;split at h
  .rename_i a;simp only[zE,qO]at a;have hb:=bounds_plain (P:=P) (w:=w) (is:=is) (cap:=cp) x y rfl rfl (by omega) a.2;refine⟨_,_,_,hb, ?_⟩;split at h
   .rename_i i;rw[zX]at i;simp only[fN_eq,zB]at h;subst h;have A:cp=cc / 2:=by rw[o];simp[decap,i]
    refine⟨E,j,c,hR, ?_⟩;have b:decap (2*(cc / 2 - U.getD 0)) c=cp - U.getD 0:=by simp[decap,A]
    rw[b,add_none];by_cases e:cp=U.getD 0
    .rw[if_pos e];rw[A]at e;simp[zX,e]
    .rw[if_neg e];rw[A]at e;simp[zX,e,Nat.add_assoc]
   .rename_i i;rw[zX]at i;have A:cp=c - cc / 2:=by rw[o,decap_odd c i]
    split at h
    .rename_i p;rw[zX]at p;simp only[fN_eq,zB]at h;subst h;refine⟨E,j,c,hR, ?_⟩;rw[p,j7,j7,<-o,Nat.zero_mul,add_none,Nat.add_zero];split<;>rfl
    .rename_i p;split at h
     .rename_i q;rw[q9]at q;simp only[fN_eq,zB]at h;subst h;refine⟨E,j,c,hR, ?_⟩;rw[if_neg (by omega),add_none,Nat.add_assoc];have b:decap (cc+2*U.getD 0) c=cp - U.getD 0:=by
       rw[decap_odd c (by omega),A];omega
      rw[b]
     .rename_i q;rw[q9]at q;simp only[zB]at h;subst h;exact⟨_,_,by rw[show hi.getD len - U.getD 0=0 from by omega]⟩
  .simp at h
theorem roomOf_ok {R:Ren}{H:AH}(hL:Rel R H t){c:Nat}{l:List AV}{e a off cc sz:Nat}(A:H.h.get n=some (.cells l e a Y))(hR:R n E j c)(q:0<sz):roomOf l Y a off cc sz<=decap cc c:=by
 unfold roomOf;rw[zF];split
 .rename_i f;rw[zX]at f;rw[decap_even c f];exact zK _
 .rename_i f;rw[zX]at f;rw[decap_odd c f,zF];split
  .rename_i i;simp only[zE,zX]at i;obtain⟨⟨m,rfl⟩,rfl⟩:=i;obtain⟨arr,v,pre,l',p,x,y,h3,o,h5,h6,h7,_⟩:=hL.cellsAt A hR;have s:=jN l l' o;have w:=(h6 m).1;rw[lenL_zero];have u:l.length<=c*a:=by omega
   have:l.length - cc / 2*a<=(c - cc / 2)*a:=by rw[Nat.sub_mul];omega
   exact Nat.div_le_of_le_mul (by rw[Nat.mul_comm a];exact this)
  .exact Nat.zero_le _
section
variable {P:Program}{X:Cx}(hX:Ok P X){R:Ren}{H:AH}{w:World}(hL:Rel R H w)
include hX hL
theorem aslice_ok {x r:AV}{lo hi F:Option AV}(t:aslice X h x lo hi F H=some r)(j:VR R x i)
  (T:(lo=none/\M=none)\/ ∃a J,lo=some a/\M=some J/\VR R a J) (U:(hi=none/\f=none)\/ ∃a J,hi=some a/\f=some J/\VR R a J) (h3:(F=none/\u=none)\/ ∃a J,F=some a/\u=some J/\VR R a J):
  ∃z,(Instr.sliceAt h i M f u).run P w= .ok z w/\VR R r z:=by
 unfold aslice at t;split at t
 .rename_i O L Q V W Y;have o:=natOpt_ok V T;have p:=natOpt_ok W U;have q:=natOpt_ok Y h3;split at t
  .rename_i len a0 hd;split at t
   .unfold acutS at t;simp only[zF]at t;split at t
    .rename_i v;simp only[zE,qO]at v;rw[mkS_eq,zB]at t;subst t;obtain⟨s,rfl,rfl,rfl⟩:=j
     cases q
     have hb:=bounds_plain (P:=P) (w:=w) (is:=false) (len:=s.size) (cap:=s.size) o p rfl rfl v.1 v.2;refine⟨.string (s.extract (O.getD 0) (L.getD s.size)), ?_,_,rfl, ?_, ?_⟩
     .simp only[Instr.sliceAt,Instr.slice,zG,hX.run_und hd,Result.andThen];simp[hb,zG,zJ]
     .rw[ByteArray.size_extract];omega
     .rw[Lib.extract_data,pack_take,pack_drop,pow8,pow8]
    .simp at t
   .simp at t
  .rename_i e hd;split at t
   .rename_i sz I;simp only[zF]at t;split at t
    .rename_i v;simp only[zE,zX]at v;obtain⟨⟨⟨c1,c2⟩,c3⟩,Z⟩:=v;simp only[zB]at t;subst t;simp only[VR]at j;subst j;refine⟨.slice none 0 0, ?_,rfl⟩
     cases Q with
     | none=>
      cases q
      have hb:=bounds_plain (P:=P) (w:=w) (is:=true) (len:=0) (cap:=0) o p rfl rfl (by omega) (by omega);simp[Instr.sliceAt,Instr.slice,zG,hX.run_und hd,hb,hX.run_size I,zJ,c1,c2]
     | some m=>
      cases L with
      | none=>simp at Z
      | some K=>
       simp only[yB]at c2 c3;subst c2 c3;have hb:=bounds_max (P:=P) (w:=w) (is:=true) (len:=0) (cap:=0) o p q rfl (zK _) (zK _) (by omega);simp[Instr.sliceAt,Instr.slice,zG,hX.run_und hd,hb,hX.run_size I,zJ,c1]
    .simp at t
   .simp at t
  .rename_i e A off len cc hd;split at t
   .rename_i sz I;split at t
    .rename_i l e' a1 g hA;simp only[zF,q9]at t;split at t
     .rename_i C;obtain⟨b,d,c,hr,rfl⟩:=j;obtain⟨G,K,N,hb,y⟩:=acut_ok (P:=P) (w:=w) (is:=true) hr rfl (roomOf_ok hL hA hr C) t o p q;refine⟨_, ?_,y⟩;simp only[Instr.sliceAt,Instr.slice,zG,hX.run_und hd,Result.andThen,hb,hX.run_size I,zJ];congr 1;split<;>simp_all
     .simp at t
    .simp at t
   .simp at t
  .rename_i e hd;split at t
   .rename_i sz I;split at t
    .simp only[zF]at t;split at t
     .rename_i v;simp only[zE,zX]at v;obtain⟨c1,c2⟩:=v;simp only[zB]at t;subst t;obtain⟨a,cp,rfl⟩:=j
      cases q
      have hb:=bounds_plain (P:=P) (w:=w) (is:=true) (len:=0) (cap:=cp) o p rfl rfl (by omega) (by omega);rw[c1,c2]at hb;refine⟨.slice (some a) 0 cp, ?_,a,cp,rfl⟩;simp[Instr.sliceAt,Instr.slice,zG,hX.run_und hd,hb,hX.run_size I,zJ,Addr.add]
     .simp at t
    .simp at t
   .simp at t
  .rename_i n e A off hd;split at t
   .rename_i sz I;simp only[zF,q9]at t;split at t
    .rename_i C;obtain⟨b,d,c,hr,rfl⟩:=j;obtain⟨G,K,N,hb,y⟩:=acut_ok (P:=P) (w:=w) (is:=false) (cp:=n) hr (by simp[decap]) (zK _) t o p q;refine⟨_, ?_,y⟩;simp only[Instr.sliceAt,Instr.sureAddr,zG,hX.run_und hd,Result.andThen,hb,hX.run_size I,zJ]
    .simp at t
   .simp at t
  .rename_i arr A off hd;split at t
   .rename_i n e S;split at t
    .rename_i sz I;simp only[zF,q9]at t;split at t
     .rename_i C;obtain⟨b,d,c,hr,rfl⟩:=j;obtain⟨G,K,N,hb,y⟩:=acut_ok (P:=P) (w:=w) (is:=false) (cp:=n) hr (by simp[decap]) (zK _) t o p q;refine⟨_, ?_,y⟩;simp only[Instr.sliceAt,Instr.slice,asAddr,zG,hX.run_und hd,hX.run_und S,Result.andThen,hb,hX.run_size I,zJ]
     .simp at t
    .simp at t
   .simp at t
  .simp at t
 .simp at t
omit hX hL in
theorem liveA_ok (h:liveA n H=true): ∃l e sz,H.h.get n=some (.cells l e sz false)/\0<sz:=by
 unfold liveA at h;split at h
 .rename_i o a
  cases o with
  | cells l e sz g=>
   cases g with
   | false=>exact⟨l,e,sz,a,by simpa using h⟩
   | true=>simp at h
  | _=>simp at h
 .simp at h
omit hX in
theorem liveA_at {c:Nat}(h:liveA n H=true)(r:R n E j c): ∃arr e,w.heap[E]? =some (.cells arr e (0,0)):=by
 obtain⟨l,e,sz,f,hp⟩:=liveA_ok h;obtain⟨arr,m,pre,l',A,a,_,_,_,i,_⟩:=hL.obj _ _ _ _ _ r f;rw[(i rfl).2.1 hp]at a;exact⟨arr,_,a⟩
theorem abinL_ok {ox oy:Operand}{x y r:AV}(t:abinL X C h x y H=some r)(q:VR R x i)(u:VR R y s):
  (eqGuard C h ox oy i s).run P w= .ok () w/\ ∃z,(binOp C h i s).run P w= .ok z w/\VR R r z:=by
 unfold abinL at t;split at t
 .rename_i r' hr;simp only[zB]at t;subst t;exact abin_ok hX hL.fn hr q u
 .split at t
  .rename_i e hd;split at t
   .simp at t
   .rename_i k Y Z;have O: ¬k=0:=fun h0=>Y (by rw[h0])
    unfold pNe at t;split at t
    .rename_i A o;split at t
     .rename_i B p;rw[zF]at t;split at t
      .rename_i a;simp only[zE]at a;obtain⟨b1,d1,c1,j,rfl⟩:=id q;obtain⟨b2,d2,c2,F,rfl⟩:=id u;have Q:b1≠b2:=by
        rintro rfl
        obtain⟨l1,u1,s1,g1,_⟩:=liveA_ok a.1;obtain⟨l2,u2,s2,g2,_⟩:=liveA_ok a.2.1;have:=hL.inj _ _ _ _ _ _ _ j F ⟨_,g1,trivial⟩ ⟨_,g2,trivial⟩;subst this;have G:=a.2.2;rw[yC]at G;simp at G
       obtain⟨M,S,ha⟩:=liveA_at hL a.1 j;obtain⟨N,T,hb⟩:=liveA_at hL a.2.1 F;have e1:=hX.run_und hd w;have e2:=hX.run_size Z w;have I: ∀(m:Nat) (f v:Addr),f.block=b1->v.block=b2->(Op.equalIn (m+1) h (.pointer (some f)) (.pointer (some v))).run P w= .ok false w:=by
        intro m f v J K;have U:w.heap[f.block]? =some (.cells M S (0,0)):=by rw[J];exact ha
        have V:w.heap[v.block]? =some (.cells N T (0,0)):=by rw[K];exact hb
        have W: ¬f.block=v.block:=by rw[J,K];exact Q
        have L:(sameAddr f v).run P w= .ok false w:=by
         simp[sameAddr,W,World.frozen?,U,V,noView,viewAt,World.shape?,mayBeOne,stringish]
        simp only[Op.equalIn,zG,e1,e2,Result.andThen,ne_eq,O,jA,if_true,L]
       refine⟨eqGuard_ok (by simp) (by simp), ?_⟩;split at t
       .rw[mkB_eq,zB]at t;subst t;refine⟨.bool false, ?_,rfl⟩;show(do pure (.bool (← Op.equal h _ _)):Sem Value).run P w=_
        simp only[Op.equal,Op.maxDepth,zG];rw[I 9999 _ _ rfl rfl];rfl
       .rw[mkB_eq,zB]at t;subst t;refine⟨.bool true, ?_,rfl⟩;show(do pure (.bool (!(← Op.equal h _ _))):Sem Value).run P w=_
        simp only[Op.equal,Op.maxDepth,zG];rw[I 9999 _ _ rfl rfl];rfl
       .simp at t
      .simp at t
     .simp at t
    .simp at t
   .simp at t
  .simp at t
theorem simL {env:Env}(p:EnvR R env n Q.tmps){r:AV}(h:aL X env H D.op=some r): ∃z,(execOp Q.eval D).run P w= .ok (.value z) w/\VR R r z:=by
 have v: ∀ {x:Operand} {f:AV->Option AV},b1 (opd env x) f=some r-> ∃a,VR R a (Q.eval x)/\f a=some r:=by
  intro x f hb;unfold b1 at hb;split at hb
  .rename_i a i;exact⟨a,opd_ok p x a i,hb⟩
  .simp at hb
 have C: ∀ {x:Option Operand} {y:Option AV},optOf env x=some y->(y=none/\x.map Q.eval=none)\/ ∃a u,y=some a/\x.map Q.eval=some u/\VR R a u:=by
  intro x y hb
  cases x with
  | none=>simp only[optOf,zB]at hb;exact .inl ⟨hb.symm,rfl⟩
  | some x=>
   simp only[optOf]at hb;split at hb
   .rename_i b J;simp only[zB]at hb;exact .inr ⟨b,_,hb.symm,rfl,opd_ok p x b J⟩
   .simp at hb
 obtain⟨dst,op,ty,Y,V,W⟩:=D;simp only at h;unfold aL at h;split at h
 .obtain⟨a,i,q⟩:=v h;obtain⟨z,j,m⟩:=aload_ok hX hL q i;exact⟨z,run_val j,m⟩
 .unfold lSlice at h;split at h
  .rename_i a i;split at h
   .rename_i Z K;split at h
    .rename_i a0 L;split at h
     .rename_i a1 M;obtain⟨z,j,m⟩:=aslice_ok hX hL h (opd_ok p _ _ i) (C K) (C L) (C M);exact⟨z,run_val j,m⟩
     .simp at h
    .simp at h
   .simp at h
  .simp at h
 .unfold b2 at h;split at h
  .rename_i a i;split at h
   .rename_i b hb;unfold alook at h;split at h
    .rename_i kt et s;split at h
     .rename_i ks O;split at h
      .rename_i z fr;obtain⟨S,j,m⟩:=lkM_ok hX hL s O fr h (opd_ok p _ _ i) (opd_ok p _ _ hb);exact⟨S,run_val j,m⟩
      .simp at h
     .simp at h
    .simp at h
   .simp at h
  .simp at h
 .obtain⟨a,i,q⟩:=v h;obtain⟨z,j,m⟩:=aconvL_ok hX hL q i;exact⟨z,run_val j,m⟩
 .rename_i a2 t x y _;unfold b2 at h;split at h
  .rename_i a i;split at h
   .rename_i b hb;obtain⟨j,z,m,h3⟩:=abinL_ok hX hL (ox:=x) (oy:=y) h (opd_ok p _ _ i) (opd_ok p _ _ hb);refine⟨z,run_val ?_,h3⟩;simp only[zG,j,Result.andThen,m]
   .simp at h
  .simp at h
 .rename_i c;split at h
  .rename_i F;split at h
   .rename_i x G;split at h
    .rename_i t ts s;obtain⟨a,i,q⟩:=v h;obtain⟨U,args,I⟩:=c;simp only at F G s;subst F;have N:I[0]? =some t:=by rw[<-yM,s];rfl
     obtain⟨z,j,m⟩:=alen_ok hX hL (ty:=ty) N q i;have T:args.map Q.eval= #[Q.eval x]:=by
      apply Array.toList_inj.1;simp[G]
     refine⟨z, ?_,m⟩;simp only[execOp,resolve,invoke,builtin,T,zG,zJ,Result.andThen,j]
    .simp at h
   .simp at h
  .simp at h
 .simp at h
end
theorem range_add_list (a b:Nat):List.range (a+b)=List.range a++(List.range b).map (a+ ·):=List.range_add
theorem made_toList (z:Array Value)(n:Nat)(a:0<z.size):((Array.range (n*z.size)).map (z[· % z.size]!)).toList=(List.replicate n z.toList).flatten:=by
 rw[Array.toList_map,Array.toList_range]
 induction n with
 | zero=>simp
 | succ n ih=>
  rw[jI,Nat.add_comm,range_add_list,List.map_append,List.replicate_succ,List.flatten_cons];congr 1
  .apply List.ext_getElem?;intro i;by_cases hi:i<z.size
   .simp[hi,Nat.mod_eq_of_lt hi]
   .simp[hi]
  .rw[<-ih,List.map_map];apply List.map_congr_left;intro j _;simp[Function.comp]
theorem rep_ok {R:Ren}{a:List AV}{z:List Value}(h:VRL R a z): ∀n,VRL R (rep n a) (List.replicate n z).flatten
 | 0=>rfl
 | n+1=>by
  rw[rep,List.replicate_succ,List.flatten_cons];exact h.append (rep_ok h n)
theorem bytesOf_ok {R:Ren} : ∀(a:List UInt8),VRL R (bytesOf a.length (pack a)) (a.map (fun b=>Value.int .u8 (b.toNat:Int)))
 | []=>rfl
 | b::a=>by
  have hb:b.toNat<256:=b.toNat_lt;have f:pack (b::a) % 256=b.toNat:=by simp only[pack];omega
  have h:pack (b::a) / 256=pack a:=by simp only[pack];omega
  simp only[zV,bytesOf,f,h,y6];exact⟨_,_,rfl,rfl,bytesOf_ok a⟩
def MakesA (R:Ren)(P:Program)(s:Sem Value)(o:AObj)(a:Nat->AV)(w:World):Prop:=
 ∃(x:Obj) (c k:Nat) (z:Value),s.run P w= .ok z (World.alloc { w with drawn:=k} x)/\
  ∀A,ORel (R.add A w.heap.size 0 c) o 0 c (some x)/\VR (R.add A w.heap.size 0 c) (a A) z
section
variable {P:Program}{X:Cx}(hX:Ok P X){R:Ren}{w:World}
include hX
omit hX in
theorem makes_var {x:AV}{s:Sem Value}(a:VR R x i)(f:s.run P w= .ok (.pointer (some ⟨w.heap.size,0,none⟩)) (w.alloc (.cells i.cells h))):
  MakesA R P s (.cells (cellsA x) h 1 false) (fun A=> .ptr A 0) w:=by
 refine⟨.cells i.cells h,0,w.drawn,_,f,fun A=>⟨⟨i.cells,(0,0),[],i.cells.toList,[],rfl,by simp,rfl,VRL.mono (R.sub_add _ _ _ _) _ _ (cells_ok a),fun _=>⟨rfl,fun _=>rfl,fun e=>by omega⟩,fun e=>by simp at e,fun _ v _=>by simp,[],rfl⟩, ?_⟩⟩;exact⟨w.heap.size,0,0,R.add_self _ _ _ _,rfl⟩
theorem aABuild_ok {env:Env}(N:EnvR R env n Q.tmps){o:AObj}{v:Nat->AV}(t:aABuild X env h E J=some (o,v)):
  MakesA R P (Instr.buildSlice h E (J.map fun(i,x)=>(i,Q.eval x))) o v w:=by
 unfold aABuild at t;split at t
 .rename_i e hd;split at t
  .rename_i U hp;have p:=parts_ok N _ _ hp;rw[<-Array.toList_map]at p;split at t
   .rename_i sz F;split at t
    .rename_i z O;simp only[zF]at t;split at t
     .rename_i y;simp only[zE,qO,q9,zX,lenL_zero]at y;obtain⟨⟨c1,c2⟩,c3⟩:=y;split at t
      .rename_i cs G;simp only[zB,zQ]at t;obtain⟨rfl,rfl⟩:=t;obtain⟨j,I,len⟩:=hX.run_zero R O w;have q:=cells_ok len;have s:=jN _ _ q;rw[yN,c3]at s;have C: ∃a:Array Value,((E*sz=0/\a= #[])\/(¬E*sz=0/\a=j.cells))/\
         ((Array.range (E*sz)).map (a[· % a.size]!)).toList=(List.replicate E j.cells.toList).flatten:=by
        by_cases f:E*sz=0
        .refine⟨#[], .inl ⟨f,rfl⟩, ?_⟩;have:E=0:=by rcases Nat.mul_eq_zero.1 f with t | t<;>omega
         subst this;simp
        .refine⟨j.cells, .inr ⟨f,rfl⟩, ?_⟩;rw[show E*sz=E*j.cells.size from by rw[s]];exact made_toList j.cells E (by omega)
       obtain⟨a,K,L⟩:=C;obtain⟨arr',fr,S⟩:=fill_ok (R:=R) (place':=fun i=>some (i*sz,sz)) (fun i x T=>T) p G (arr:=(Array.range (E*sz)).map (a[· % a.size]!)) (by rw[L];exact rep_ok q E);refine⟨.cells arr' e,E,w.drawn, .slice (some ⟨w.heap.size,0,none⟩) E E, ?_,fun A=>⟨⟨arr',(0,0),[],arr'.toList,[],rfl,by simp,rfl,VRL.mono (R.sub_add _ _ _ _) _ _ S,fun _=>⟨rfl,fun _=>rfl,fun t=>by omega⟩,fun t=>by simp at t,fun _ i _=>by simp,[],rfl⟩, ?_⟩⟩
       .have M: ¬E*sz>2 ^ 24:=by omega
        simp only[Instr.buildSlice,zG,hX.run_und hd,Result.andThen,hX.run_size F];rw[if_neg M];have u:Instr.fill (fun i=>some (i*sz,sz)) ((Array.range (E*sz)).map (a[· % a.size]!)) (J.map fun x=>(x.fst,Q.eval x.snd)).toList=some arr':=fr;rcases K with⟨f,rfl⟩ | ⟨f,rfl⟩
        .rw[if_pos f];simp only[zG,zJ,Result.andThen,u,newRow,newObj,Sem.run];rfl
        .rw[if_neg f];simp only[zG,zJ,Result.andThen,I,u,newRow,newObj,Sem.run];rfl
       .exact⟨w.heap.size,0,E,R.add_self _ _ _ _,by rw[decap_even _ (by omega)];simp⟩
      .simp at t
     .simp at t
    .simp at t
   .simp at t
  .simp at t
 .simp at t
theorem aAMake_ok {l c:Option AV}{o:AObj}{x:Nat->AV}(t:aAMake X h l c=some (o,x))(hl: ∀a,l=some a->VR R a i)(K: ∀a,c=some a->VR R a s):
  MakesA R P (Instr.makeSlice h i s) o x w:=by
 unfold aAMake at t;split at t
 .rename_i n;split at t
  .rename_i m;have y:=hl _ rfl;have C:=K _ rfl;simp only[VR]at y C;subst y C;split at t
   .rename_i e hd;split at t
    .rename_i O F;split at t
     .rename_i z L;simp only[zF]at t;split at t
      .rename_i p;simp only[zE,qO,q9,zX,lenL_zero]at p;obtain⟨⟨⟨⟨c1,c2⟩,c3⟩,Q⟩,M⟩:=p;simp only[zB,zQ]at t;obtain⟨rfl,rfl⟩:=t;obtain⟨u,f,hi,G,I⟩:=hX.zero R L;have j:=hX.ty _ _ F;rw[hi]at j;injection j with j;subst j
       have q:=cells_ok I;have v:=jN _ _ q;rw[yN,M]at v;have hm:=run_make (P:=P) w h e u f (hX.und hd) hi G .i64 .i64 (n:Int) (m:Int) (by omega) (by omega) (by
        have:((m*u.bytes:Nat):Int)<=140737488355328:=by omega
        rw[Int.natCast_mul]at this;rw[Int.mul_comm];omega) (by omega)
       have J:(madeCells f.cells (m*u.size)).toList=(List.replicate m f.cells.toList).flatten:=by
        have N:madeCells f.cells (m*u.size)=(Array.range (m*u.size)).map (f.cells[· % f.cells.size]!):=rfl;rw[N,show m*u.size=m*f.cells.size from by rw[v]];exact made_toList f.cells m (by omega)
       refine⟨_,m,w.drawn,_,hm,fun A=>⟨⟨_,(0,0),[],(List.replicate m f.cells.toList).flatten,[],rfl, ?_,rfl,VRL.mono (R.sub_add _ _ _ _) _ _ (rep_ok q m),fun _=>⟨rfl,fun _=>rfl,fun t=>by omega⟩,fun t=>by simp at t,fun _ u _=>by simp,[],rfl⟩, ?_⟩⟩
       .simp only[qU,qG,qV];exact J
       .exact⟨w.heap.size,0,m,R.add_self _ _ _ _,by rw[decap_even _ (by omega),yL m (by omega:0<2),qU,qU]⟩
      .simp at t
     .simp at t
    .simp at t
   .simp at t
  .simp at t
 .simp at t
theorem aconvA_ok {x:AV}{o:AObj}{j:Nat->AV}(s:aconvA X h a x=some (o,j))(t:VR R x i):MakesA R P (convert h a i) o j w:=by
 unfold aconvA at s;split at s
 .rename_i u;split at s
  .rename_i e hd;split at s
   .rename_i y;split at s
    .rename_i l b;simp only[zF,q9]at s;split at s
     .rename_i q;simp only[zB,zQ]at s;obtain⟨rfl,rfl⟩:=s;obtain⟨st,rfl,rfl,rfl⟩:=t;generalize d:Question.cut (.appendCap st.size 0 e) (w.tape w.drawn (.appendCap st.size 0 e))=cap;have F:st.size<=cap:=by rw[<-d];simp only[Question.cut];omega
      have p:cap<9223372036854775808:=by
       rw[<-d];simp only[Question.cut];have C:st.size<4611686018427387904:=by first | exact q | omega
       have:=Nat.mod_lt (w.tape w.drawn (.appendCap st.size 0 e)) (show 2 ^ 63 - st.size>0 by omega);omega
      have G:(st.data.map fun b=>Value.int .u8 (b.toNat:Int)).toList=st.data.toList.map (fun b=>Value.int .u8 (b.toNat:Int)):=by simp
      refine⟨.cells ((st.data.map fun b=>Value.int .u8 (b.toNat:Int))++Array.replicate (cap - st.size) (.int .u8 0)) e (cap,cap+1),cap,w.drawn+1, .slice (some ⟨w.heap.size,0,none⟩) st.size cap, ?_,fun A=>⟨⟨_,(cap,cap+1),[],st.data.toList.map (fun b=>Value.int .u8 (b.toNat:Int)),List.replicate (cap - st.size) (.int .u8 0),rfl, ?_,rfl, ?_,fun s=>by simp at s,fun _=>⟨?_,p⟩,fun _ v hi=> ?_,_,VRL.replicate (x:= .int .u8 0) (v:= .int .u8 0) rfl _⟩, ?_⟩⟩
      .have f:((st.data.map fun b=>Value.int .u8 (b.toNat:Int))++Array.replicate (cap - st.size) (Value.int .u8 0)).size=cap:=by
        simp;omega
       have z:(choose (.appendCap st.size 0 e)).run P w= .ok cap { w with drawn:=w.drawn+1} :=by
        simp only[choose,Sem.run,Question.forced,zL,qD,d]
       have m:(convert h a (.string st)).run P w=(Conv.stringToBytes e st).run P w:=by
        simp[convert,zG,hX.run_und u,hX.run_und hd,hX.run_und y]
       rw[m];simp only[Conv.stringToBytes,zG,z,Result.andThen,newRow,newObj,Sem.run,zJ,markStringish,shape,World.shape?,Array.getElem?_push_size,f,freeze,World.freeze];simp[World.alloc,zJ];apply Array.ext_getElem?;intro v;rw[Array.getElem?_modify];by_cases hi:v=w.heap.size
       .subst hi;simp[f]
       .simp only[Array.getElem?_push,if_neg hi,if_neg (Ne.symm hi)]
      .simp
      .rw[<-size_data];exact bytesOf_ok _
      .simp[size_data];omega
      .simp at hi;simp;omega
      .exact⟨w.heap.size,0,cap,R.add_self _ _ _ _,by rw[decap_odd _ (by omega)];simp⟩
     .simp at s
    .simp at s
   .simp at s
  .simp at s
 .simp at s
theorem simA {env:Env}(f:EnvR R env n Q.tmps){m:AObj}{p:Nat->AV}(h:aA X env D.op=some (m,p)):
  ∃s:Sem Value,execOp Q.eval D=(do pure (Next.value (← s)))/\MakesA R P s m p w:=by
 obtain⟨dst,F,ty,C,v,y⟩:=D;simp only at h;unfold aA at h;split at h
 .rename_i e;refine⟨_,rfl, ?_⟩;unfold aA1 at h;split at h
  .rename_i z j;simp only[zB,zQ]at h;obtain⟨rfl,rfl⟩:=h;obtain⟨G,q,u⟩:=hX.run_zero R j w;refine makes_var u ?_;simp only[Instr.alloc,zG,q,Result.andThen,newVar,newRow,newObj,Sem.run,zJ];rfl
  .simp at h
 .rename_i e x;refine⟨_,rfl, ?_⟩;unfold aA1 at h;split at h
  .rename_i z j;simp only[zB,zQ]at h;obtain⟨rfl,rfl⟩:=h;refine makes_var (opd_ok f _ _ j) ?_;simp only[Instr.box,zG,Result.andThen,newVar,newRow,newObj,Sem.run,zJ];rfl
  .simp at h
 .exact⟨_,rfl,aABuild_ok hX f h⟩
 .exact⟨_,rfl,aAMake_ok hX h (fun a i=>opd_ok f _ _ i) (fun a i=>opd_ok f _ _ i)⟩
 .split at h
  .rename_i a i;exact⟨_,rfl,aconvA_ok hX h (opd_ok f _ _ i)⟩
  .simp at h
 .rename_i t;refine⟨_,rfl, ?_⟩;unfold aMap at h;split at h
  .split at h
   .simp only[zB,zQ]at h;obtain⟨rfl,rfl⟩:=h;refine⟨.map #[] 0,0,w.drawn, .map (some w.heap.size), ?_,fun A=>⟨⟨#[],0,rfl,⟨[],by simp,rfl,rfl⟩,by simp,List.Pairwise.nil,by simp[Born]⟩,⟨_,_,_,R.add_self _ _ _ _,rfl⟩⟩⟩;simp[Instr.makeMap,newObj,zG,Sem.run]
   .simp at h
  .simp at h
 .simp at h
end
end Go.Eng
end



