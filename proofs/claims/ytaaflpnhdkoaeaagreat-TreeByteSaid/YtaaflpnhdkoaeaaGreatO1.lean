/- A checked evaluator for the program, and what it tells, part 1: no condition. -/
import GoSem.Step
import Derived.Control
import Derived.Calls
import Derived.Laws.NewBlocks
import Derived.Below
import Derived.Test.YtaaflpnhdkoaeaaGreatProg
import Derived.Lib.Strings
import Derived.WalkKit
import Derived.Deep.DeepAppendWide
import Derived.Laws.Tables
import Derived.Laws.StructEq
import Derived.ChangeKeysEq
import Derived.MapKept
import Derived.WideKeyRuns
set_option linter.all false
set_option linter.unusedVariables false
set_option linter.unusedSimpArgs false
set_option maxHeartbeats 8000000
set_option maxRecDepth 20000
variable {h a:Go.TypeId}{n E j:Nat}{i s:Go.Value}{v:List Nat}{p:Array Go.Oper}{t:Go.World}{q:Go.Program}{B:Go.IntKind}{C:Go.BinOp}{D:Go.Oper}{F:Array Go.TypeId}{G:Array Go.Value}{I:List Go.Value}{J:Array (Nat×Go.Operand)}{L:Go.TypeDesc}{M f u:Option Go.Value}{N:Go.MapEntry}{Q:Go.Frame}{U:Option Nat}{V:Go.Code}{W:List Go.MapEntry}{Y:Bool}{m:Go.Operand}{r:Type}{z:Int}
namespace Go
def zC:=@Option.some.injEq
def zE:=@List.mem_cons_of_mem
def zF:=@Bool.and_eq_true
def zG:=@cond_eq_ite
def zH:=@Sem.run_bind
def zJ:=@List.mem_cons_self
def zK:=@List.getElem?_eq_getElem
def zL:=@Sem.run_pure
def zM:=@Bool.false_eq_true
def zO:=@List.mem_cons
def zP:=@Nat.le_refl
def zQ:=@decide_eq_true_eq
def zR:=@List.eq_nil_of_length_eq_zero
def zT:=@Prod.mk.injEq
def zU:=@cond_true
def zV:=@List.length_append
def zX:=@Nat.beq_eq
def zY:=@List.length_cons
def zZ:=@List.take_of_length_le
def qA:=@Option.map_some
def qB:=@List.mem_append
def qC:=@List.length_take
def qD:=@Nat.blt_eq
def qE:=@if_false
def qF:=@List.cons_append
def qG:=@List.getD_eq_getElem?_getD
def qH:=@List.append_assoc
def qI:=@Nat.lt_of_lt_of_le
def qJ:=@List.length_drop
def qK:=@Option.isSome_iff_exists
def qL:=@List.flatMap_cons
def qM:=@List.mem_map
def qN:=@List.drop_eq_getElem_cons
def qO:=@Bool.and_self
def qP:=@List.getElem?_eq_some_iff
def qQ:=@List.take_succ_eq_append_getElem
def qR:=@Nat.le_trans
def qS:=@List.drop_eq_nil_of_le
def qT:=@Nat.ble_eq
def qU:=@List.getElem?_set_ne
def qV:=@List.take_append_drop
def qW:=@List.append_nil
def qX:=@List.mem_append_left
def qY:=@List.mem_append_right
def qZ:=@Array.getD_eq_getD_getElem?
def y9:=@List.cons.injEq
def yA:=@Bool.eq_false_iff
def yB:=@Option.getD_some
def yC:=@List.all_eq_true
def yD:=@List.drop_zero
def yE:=@List.nil_append
def yF:=@List.mem_singleton
def yG:=@Option.some.inj
def yH:=@Int.natCast_add
def yI:=@Int.toNat_natCast
def yJ:=@List.getElem_mem
def yK:=@List.map_cons
def yL:=@Bool.eq_iff_iff
def yM:=@cond_false
def yN:=@Option.bind_some
def yO:=@Nat.beq_refl
def yP:=@List.pairwise_cons
def yQ:=@not_false_eq_true
def yR:=@Nat.mul_le_mul_right
def yS:=@List.length_nil
def yU:=@decide_eq_false_iff_not
def yV:=@Nat.mul_div_cancel_left
def yW:=@List.getElem?_cons_succ
def yX:=@Array.getElem?_toList
def yY:=@Int.lt_irrefl
def yZ:=@Array.length_toList
def j5:=@List.getElem?_append_left
def j6:=@Bool.not_eq_true'
def j7:=@Nat.zero_add
def j8:=@List.pairwise_append
def j9:=@Bool.or_eq_true
def jA:=@List.drop_left'
def jB:=@Nat.add_mul
def jC:=@List.getElem?_append_right
def jD:=@List.take_left'
def jE:=@Nat.mul_mod_right
def jF:=@Nat.sub_zero
def jG:=@List.take_length
def jH:=@List.length_map
def jI:=@List.length_singleton
def jJ:=@List.getElem?_take_of_lt
def jK:=@List.flatMap_append
def jL:=@List.getElem?_drop
def jM:=@Option.isSome_some
def jN:=@List.filter_append
def jO:=@Nat.succ_mul
def jP:=@List.getElem?_map
def jQ:=@List.getElem_of_mem
end Go
section
namespace Go.Eng
inductive T (α:Type) where
 | leaf
 | node (l:T α) (v:Option α) (r:T α)
namespace T
variable {α:Type}
noncomputable def get (t:T α):Nat->Option α:=
 T.rec (motive:=fun _=>Nat->Option α) (fun _=>none)
  (fun _ v _ gl a n=>Bool.rec (Bool.rec (a (Nat.sub (Nat.div n 2) 1)) (gl (Nat.div n 2)) (Nat.beq (Nat.mod n 2) 1)) v (Nat.beq n 0)) t
noncomputable def BI (f:Nat):T α->Nat->α->Option (T α):=
 Nat.rec (motive:=fun _=>T α->Nat->α->Option (T α)) (fun _ _ _=>none)
  (fun _ h t n a=>T.rec (motive:=fun _=>Option (T α))
   (Bool.rec (Bool.rec
     (Option.rec none (fun r=>some (.node .leaf none r)) (h .leaf (Nat.sub (Nat.div n 2) 1) a))
     (Option.rec none (fun l=>some (.node l none .leaf)) (h .leaf (Nat.div n 2) a)) (Nat.beq (Nat.mod n 2) 1)) (some (.node .leaf (some a) .leaf)) (Nat.beq n 0))
   (fun l v r _ _=>Bool.rec (Bool.rec
     (Option.rec none (fun r=>some (.node l v r)) (h r (Nat.sub (Nat.div n 2) 1) a))
     (Option.rec none (fun l=>some (.node l v r)) (h l (Nat.div n 2) a)) (Nat.beq (Nat.mod n 2) 1)) (some (.node l (some a) r)) (Nat.beq n 0)) t) f
theorem zMY (p:Prop)[Decidable p](b:Bool)(h:b=true↔p)(x y:r):Bool.rec (motive:=fun _=>r) x y b=if p then y else x:=by
 cases b with
 | true=>rw[if_pos (h.1 rfl)]
 | false=>rw[if_neg (fun hp=>by have:=h.2 hp;simp at this)]
theorem get_leaf (n:Nat):get (.leaf:T α) n=none:=rfl
theorem uS (l:T α)(v:Option α)(r:T α)(n:Nat):
  get (.node l v r) n=if n=0 then v else if n % 2=1 then l.get (n / 2)else r.get (n / 2 - 1):=by
 show Bool.rec (motive:=fun _=>Option α) (Bool.rec (motive:=fun _=>Option α) (r.get (n / 2 - 1)) (l.get (n / 2)) (Nat.beq (n % 2) 1)) v (Nat.beq n 0)=_;rw[zMY (n=0) _ (by rw[zX]),zMY (n % 2=1) _ (by rw[zX])]
theorem zFe (t:T α)(n:Nat)(a:α):BI 0 t n a=none:=rfl
theorem zA7 (f:Nat)(n:Nat)(a:α):BI (f+1) .leaf n a=
  if n=0 then some (.node .leaf (some a) .leaf)
  else if n % 2=1 then(match BI f .leaf (n / 2) a with | some l=>some (.node l none .leaf) | none=>none)
  else(match BI f .leaf (n / 2 - 1) a with | some r=>some (.node .leaf none r) | none=>none):=by
 show Bool.rec (motive:=fun _=>Option (T α)) (Bool.rec (motive:=fun _=>Option (T α))
   (Option.rec (motive:=fun _=>Option (T α)) none (fun r=>some (.node .leaf none r)) (BI f .leaf (n / 2 - 1) a))
   (Option.rec (motive:=fun _=>Option (T α)) none (fun l=>some (.node l none .leaf)) (BI f .leaf (n / 2) a)) (Nat.beq (n % 2) 1)) (some (.node .leaf (some a) .leaf)) (Nat.beq n 0)=_
 rw[zMY (n=0) _ (by rw[zX]),zMY (n % 2=1) _ (by rw[zX])]
 cases BI f .leaf (n / 2) a<;>cases BI f .leaf (n / 2 - 1) a<;>rfl
theorem zA6 (f:Nat)(l:T α)(v:Option α)(r:T α)(n:Nat)(a:α):BI (f+1) (.node l v r) n a=
  if n=0 then some (.node l (some a) r)
  else if n % 2=1 then(match BI f l (n / 2) a with | some l'=>some (.node l' v r) | none=>none)
  else(match BI f r (n / 2 - 1) a with | some r'=>some (.node l v r') | none=>none):=by
 show Bool.rec (motive:=fun _=>Option (T α)) (Bool.rec (motive:=fun _=>Option (T α))
   (Option.rec (motive:=fun _=>Option (T α)) none (fun r=>some (.node l v r)) (BI f r (n / 2 - 1) a))
   (Option.rec (motive:=fun _=>Option (T α)) none (fun l=>some (.node l v r)) (BI f l (n / 2) a)) (Nat.beq (n % 2) 1)) (some (.node l (some a) r)) (Nat.beq n 0)=_
 rw[zMY (n=0) _ (by rw[zX]),zMY (n % 2=1) _ (by rw[zX])]
 cases BI f l (n / 2) a<;>cases BI f r (n / 2 - 1) a<;>rfl
theorem zBI: ∀(f:Nat) (t:T α) (n:Nat) (a:α),n+1<2 ^ f->(BI f t n a).isSome=true:=by
 intro f
 induction f with
 | zero=>intro t n a h;simp at h
 | succ f ih=>
  intro t n a h;have hp:2 ^ (f+1)=2*2 ^ f:=by rw[Nat.pow_succ];omega
  have j:n % 2=1->n / 2+1<2 ^ f:=fun _=>by omega
  have m:n≠0->n % 2≠1->n / 2 - 1+1<2 ^ f:=fun _ _=>by omega
  cases t with
  | leaf=>
   rw[zA7];split
   .rfl
   .rename_i i;split
    .rename_i hm;obtain⟨l,hl⟩:=qK.1 (ih .leaf (n / 2) a (j hm));rw[hl];rfl
    .rename_i hm;obtain⟨l,hl⟩:=qK.1 (ih .leaf (n / 2 - 1) a (m i hm));rw[hl];rfl
  | node l v r=>
   rw[zA6];split
   .rfl
   .rename_i i;split
    .rename_i hm;obtain⟨l',hl⟩:=qK.1 (ih l (n / 2) a (j hm));rw[hl];rfl
    .rename_i hm;obtain⟨l',hl⟩:=qK.1 (ih r (n / 2 - 1) a (m i hm));rw[hl];rfl
theorem zIU: ∀(f:Nat) (t:T α) (n:Nat) (a:α) (i:T α),BI f t n a=some i-> ∀m,get i m=if m=n then some a else get t m:=by
 intro f
 induction f with
 | zero=>intro t n a i h;simp[zFe]at h
 | succ f ih=>
  intro t n a i h m
  cases t with
  | leaf=>
   rw[zA7]at h;split at h
   .simp only[zC]at h;subst h;rw[uS];by_cases hm:m=0<;>simp_all [get_leaf]
   .split at h
    .split at h
     .rename_i l hl;simp only[zC]at h;subst h;rw[uS,ih _ _ _ _ hl];by_cases hm:m=0
      .rw[if_pos hm,if_neg (by omega),get_leaf]
      .by_cases hp:m % 2=1
       .rw[if_neg hm,if_pos hp];by_cases e:m=n
        .rw[if_pos (by omega),if_pos e]
        .rw[if_neg (by omega),if_neg e,get_leaf,get_leaf]
       .rw[if_neg hm,if_neg hp,if_neg (by omega),get_leaf,get_leaf]
     .simp at h
    .split at h
     .rename_i r hr;simp only[zC]at h;subst h;rw[uS,ih _ _ _ _ hr];by_cases hm:m=0
      .rw[if_pos hm,if_neg (by omega),get_leaf]
      .by_cases hp:m % 2=1
       .rw[if_neg hm,if_pos hp,if_neg (by omega),get_leaf,get_leaf]
       .rw[if_neg hm,if_neg hp];by_cases e:m=n
        .rw[if_pos (by omega),if_pos e]
        .rw[if_neg (by omega),if_neg e,get_leaf,get_leaf]
     .simp at h
  | node l v r=>
   rw[zA6]at h;split at h
   .simp only[zC]at h;subst h;rw[uS,uS];by_cases hm:m=0<;>simp_all
   .split at h
    .split at h
     .rename_i l' hl;simp only[zC]at h;subst h;rw[uS,uS,ih _ _ _ _ hl];by_cases hm:m=0
      .rw[if_pos hm,if_neg (by omega),if_pos hm]
      .by_cases hp:m % 2=1
       .rw[if_neg hm,if_pos hp,if_neg hm,if_pos hp];by_cases e:m=n
        .rw[if_pos (by omega),if_pos e]
        .rw[if_neg (by omega),if_neg e]
       .rw[if_neg hm,if_neg hp,if_neg (by omega),if_neg hm,if_neg hp]
     .simp at h
    .split at h
     .rename_i j hr;simp only[zC]at h;subst h;rw[uS,uS,ih _ _ _ _ hr];by_cases hm:m=0
      .rw[if_pos hm,if_neg (by omega),if_pos hm]
      .by_cases hp:m % 2=1
       .rw[if_neg hm,if_pos hp,if_neg (by omega),if_neg hm,if_pos hp]
       .rw[if_neg hm,if_neg hp,if_neg hm,if_neg hp];by_cases e:m=n
        .rw[if_pos (by omega),if_pos e]
        .rw[if_neg (by omega),if_neg e]
     .simp at h
noncomputable def set (_f:Nat)(t:T α)(n:Nat)(a:α):Option (T α):=BI (Nat.succ (Nat.log2 (Nat.succ n))) t n a
theorem set_some (f:Nat)(t:T α)(n:Nat)(a:α):(set f t n a).isSome=true:=zBI _ t n a Nat.lt_log2_self
theorem get_set (f:Nat)(t:T α)(n:Nat)(a:α)(i:T α)(h:set f t n a=some i): ∀m,get i m=if m=n then some a else get t m:=zIU _ t n a i h
noncomputable def ofList:Nat->List α->T α->Option (T α)
 | _,[],t=>some t
 | i,x::xs,t=>match set 40 t i x with
  | some t'=>ofList (i+1) xs t'
  | none=>none
theorem get_ofList: ∀(xs:List α) (i:Nat) (t a:T α),ofList i xs t=some a-> ∀m,get a m=if i<=m/\m<i+xs.length then xs[m - i]? else get t m:=by
 intro xs
 induction xs with
 | nil=>intro i t a h m;simp[ofList]at h;subst h;simp;omega
 | cons x xs ih=>
  intro i t a h m;simp only[ofList]at h;split at h
  .rename_i t1 j;rw[ih _ _ _ h m,get_set _ _ _ _ _ j];simp only[zY];by_cases e:m=i
   .subst e;rw[if_neg (by omega),if_pos rfl,if_pos (by omega)];simp
   .by_cases f:i<=m/\m<i+(xs.length+1)
    .rw[if_pos (by omega),if_pos f,show m - i=(m - (i+1))+1 from by omega,yW]
    .rw[if_neg (by omega),if_neg e,if_neg f]
  .simp at h
end T
def pack:List UInt8->Nat
 | []=>0
 | b::bs=>b.toNat+256*pack bs
inductive AV where
 | bool (b:Bool)
 | int (k:IntKind) (n:Int)
 | str (len bits:Nat)
 | nP
 | ptr (A off:Nat)
 | nS
 | slice (A off len cap:Nat)
 | eS
 | nM
 | map (A:Nat)
 | func (fn:FuncId) (first captured:List AV)
 | yT (A:Nat)
 | nilFunc
 | iface (t:TypeId) (v:AV)
 | nilIface
 | agg (cells:List AV)
 | tuple (vs:List AV)
 | val (v:Value)
def uU (cc c:Nat):Nat:=bif (cc % 2).beq 0 then cc / 2 else c - cc / 2
abbrev Ren:=Nat->Nat->Nat->Nat->Prop
mutual
def VR (R:Ren):AV->Value->Prop
 | .bool b,v=>v= .bool b
 | .int k n,v=>v= .int k n
 | .str n b,v=> ∃s:ByteArray,v= .string s/\s.size=n/\pack s.data.toList=b
 | .nP,v=>v= .pointer none
 | .ptr A off,v=> ∃b d c,R A b d c/\v= .pointer (some ⟨b,d+off,none⟩)
 | .nS,v=>v= .slice none 0 0
 | .slice A off len cc,v=> ∃b d c,R A b d c/\v= .slice (some ⟨b,d+off,none⟩) len (uU cc c)
 | .eS,v=> ∃a c,v= .slice (some a) 0 c
 | .nM,v=>v= .map none
 | .map A,v=> ∃b d c,R A b d c/\v= .map (some b)
 | .func fn xs ys,v=> ∃xs' ys',v= .func (.func fn) ⟨xs'⟩ ⟨ys'⟩/\VRL R xs xs'/\VRL R ys ys'
 | .yT A,v=> ∃b d c,R A b d c/\v= .func (.yield b) #[] #[]
 | .nilFunc,v=>v= .nilFunc
 | .iface t x,v=> ∃x',v= .iface t x'/\VR R x x'
 | .nilIface,v=>v= .nilIface
 | .agg xs,v=> ∃xs',v= .agg ⟨xs'⟩/\VRL R xs xs'
 | .tuple xs,v=> ∃xs',v= .tuple ⟨xs'⟩/\VRL R xs xs'
 | .val x,v=>v=x
def VRL (R:Ren):List AV->List Value->Prop
 | [],l=>l=[]
 | x::xs,l=> ∃x' xs',l=x'::xs'/\VR R x x'/\VRL R xs xs'
end
def Sub (R a:Ren):Prop:= ∀A b d c,R A b d c->a A b d c
theorem Sub.refl (R:Ren):Sub R R:=fun _ _ _ _ h=>h
def zOH:=@Sub.refl
theorem Sub.trans {R f a:Ren}(h:Sub R f)(k:Sub f a):Sub R a:=fun A b d c x=>k A b d c (h A b d c x)
mutual
theorem VR.mono {R R':Ren}(h:Sub R R'): ∀(x:AV) (v:Value),VR R x v->VR R' x v
 | .bool _,_,k=>k
 | .int _ _,_,k=>k
 | .str _ _,_,k=>k
 | .nP,_,k=>k
 | .ptr _ _,_,k=>by simp only[VR]at k⊢;obtain⟨b,d,c,hr,e⟩:=k;exact⟨b,d,c,h _ _ _ _ hr,e⟩
 | .nS,_,k=>k
 | .slice _ _ _ _,_,k=>by simp only[VR]at k⊢;obtain⟨b,d,c,hr,e⟩:=k;exact⟨b,d,c,h _ _ _ _ hr,e⟩
 | .eS,_,k=>k
 | .nM,_,k=>k
 | .map _,_,k=>by simp only[VR]at k⊢;obtain⟨b,d,c,hr,e⟩:=k;exact⟨b,d,c,h _ _ _ _ hr,e⟩
 | .func _ xs ys,_,k=>by simp only[VR]at k⊢;obtain⟨x,y,e,k1,k2⟩:=k;exact⟨x,y,e,VRL.mono h xs _ k1,VRL.mono h ys _ k2⟩
 | .yT _,_,k=>by simp only[VR]at k⊢;obtain⟨b,d,c,hr,e⟩:=k;exact⟨b,d,c,h _ _ _ _ hr,e⟩
 | .nilFunc,_,k=>k
 | .iface _ x,_,k=>by simp only[VR]at k⊢;obtain⟨x',e,k1⟩:=k;exact⟨x',e,VR.mono h x _ k1⟩
 | .nilIface,_,k=>k
 | .agg xs,_,k=>by simp only[VR]at k⊢;obtain⟨x',e,k1⟩:=k;exact⟨x',e,VRL.mono h xs _ k1⟩
 | .tuple xs,_,k=>by simp only[VR]at k⊢;obtain⟨x',e,k1⟩:=k;exact⟨x',e,VRL.mono h xs _ k1⟩
 | .val _,_,k=>k
theorem VRL.mono {R R':Ren}(h:Sub R R'): ∀(xs:List AV) (l:List Value),VRL R xs l->VRL R' xs l
 | [],_,k=>k
 | x::xs,_,k=>by simp only[VRL]at k⊢;obtain⟨x',l',e,k1,k2⟩:=k;exact⟨x',l',e,VR.mono h x _ k1,VRL.mono h xs _ k2⟩
end
theorem VRL.length {R:Ren} : ∀(xs:List AV) (l:List Value),VRL R xs l->l.length=xs.length
 | [],_,k=>by simp only[VRL]at k;simp[k]
 | x::xs,_,k=>by simp only[VRL]at k;obtain⟨a,l',rfl,_,k2⟩:=k;simp[VRL.length xs l' k2]
def zOE:=@VRL.length
theorem VRL.get {R:Ren} : ∀(xs:List AV) (l:List Value),VRL R xs l-> ∀(i:Nat) (x:AV),xs[i]? =some x-> ∃v,l[i]? =some v/\VR R x v
 | [],_,_,i,x,h=>by simp at h
 | y::xs,_,k,i,x,h=>by
  simp only[VRL]at k;obtain⟨a,l',rfl,k1,k2⟩:=k
  cases i with
  | zero=>simp at h;subst h;exact⟨a,by simp,k1⟩
  | succ i=>simp at h⊢;exact VRL.get xs l' k2 i x h
theorem VRL.of {R:Ren} : ∀(xs:List AV) (l:List Value),l.length=xs.length->(∀(i:Nat) (x:AV) (v:Value),xs[i]? =some x->l[i]? =some v->VR R x v)->VRL R xs l
 | [],l,hl,_=>by simp only[VRL];simpa using hl
 | x::xs,[],hl,_=>by simp at hl
 | x::xs,v::l,hl,h=>by
  simp only[VRL];exact⟨v,l,rfl,h 0 x v rfl rfl,VRL.of xs l (by simpa using hl) (fun i y u a f=>h (i+1) y u (by simpa using a) (by simpa using f))⟩
theorem VRL.append {R:Ren}{xs a:List AV}{m:List Value}(h:VRL R xs I)(k:VRL R a m):VRL R (xs++a) (I++m):=by
 induction xs generalizing I with
 | nil=>simp only[VRL]at h;subst h;simpa using k
 | cons x xs ih=>simp only[VRL]at h;obtain⟨f,l',rfl,i,j⟩:=h;exact⟨f,l'++m,rfl,i,ih j⟩
theorem VRL.split {R:Ren}{xs i:List AV}(h:VRL R (xs++i) I): ∃a f,I=a++f/\VRL R xs a/\VRL R i f:=by
 induction xs generalizing I with
 | nil=>exact⟨[],I,rfl,rfl,h⟩
 | cons x xs ih=>
  obtain⟨j,l',rfl,m,o⟩:=h;obtain⟨a,f,rfl,p,q⟩:=ih o;exact⟨j::a,f,rfl,⟨j,a,rfl,m,p⟩,q⟩
theorem VRL.take {R:Ren}{xs:List AV}{l:List Value}(h:VRL R xs l)(n:Nat):VRL R (xs.take n) (l.take n):=by
 induction xs generalizing l n with
 | nil=>simp only[VRL]at h;subst h;simp[VRL]
 | cons x xs ih=>
  obtain⟨a,l',rfl,f,i⟩:=h
  cases n with
  | zero=>simp[VRL]
  | succ n=>exact⟨a,l'.take n,rfl,f,ih i n⟩
theorem VRL.drop {R:Ren}{xs:List AV}{l:List Value}(h:VRL R xs l)(n:Nat):VRL R (xs.drop n) (l.drop n):=by
 induction xs generalizing l n with
 | nil=>simp only[VRL]at h;subst h;simp[VRL]
 | cons x xs ih=>
  obtain⟨f,l',rfl,i,a⟩:=h
  cases n with
  | zero=>exact⟨f,l',rfl,i,a⟩
  | succ n=>exact ih a n
theorem VRL.set {R:Ren}{xs:List AV}{l:List Value}{x:AV}{v:Value}(h:VRL R xs l)(k:VR R x v)(n:Nat):VRL R (xs.set n x) (l.set n v):=by
 induction xs generalizing l n with
 | nil=>simp only[VRL]at h;subst h;simp[VRL]
 | cons y xs ih=>
  obtain⟨f,l',rfl,i,a⟩:=h
  cases n with
  | zero=>exact⟨v,l',rfl,k,a⟩
  | succ n=>exact⟨f,l'.set n v,rfl,i,ih a n⟩
theorem VRL.replicate {R:Ren}{x:AV}{v:Value}(k:VR R x v): ∀n,VRL R (List.replicate n x) (List.replicate n v)
 | 0=>rfl
 | n+1=>⟨v,List.replicate n v,rfl,k,VRL.replicate k n⟩
abbrev Env:=Nat->Option AV
def upd (env:Env)(d:Nat)(v:AV):Env:=fun t=>bif Nat.beq t d then some v else env t
theorem bD (env:Env)(d:Nat)(v:AV)(t:Nat):upd env d v t=if t=d then some v else env t:=by
 simp only[upd,zG,zX]
def uN:Env:=fun _=>none
structure ALoop where
 state:LoopState
 pending:Option Code
 fn:FuncId
 site:Nat
 live:List Nat
 vals:List AV
def sites:Code->List (Array Tmp×Code×Code)
 | .seq a b=>sites a++sites b
 | .cond _ a b=>sites a++sites b
 | .block _ a=>sites a
 | .loop a=>sites a
 | .scope a=>sites a
 | .rangeFunc _ ps a b=>(ps,a,b)::(sites a++sites b)
 | _=>[]
noncomputable def VX (f:FuncId)(s:Nat):Option (Nat×Array Tmp×Code×Code):=
 match Go.Proofs.Tryz.prog.funcs[f]? with
 | some fn=>match fn.body with
  | some b=>match(sites b)[s]? with
   | some x=>some (fn.ntmps,x)
   | none=>none
  | none=>none
 | none=>none
def zMT:List Nat->List AV->Env->Env
 | l::L,v::vs,e=>zMT L vs (upd e l v)
 | _,_,e=>e
def envL (L:List Nat)(vs:List AV):Env:=zMT L vs uN
inductive AObj where
 | cells (c:List AV) (elem:TypeId) (sz:Nat) (grow:Bool)
 | map (ks:List Nat) (es:List (AV×AV))
 | loop (l:ALoop)
 | raw (x:Obj)
 | dead
structure AH where
 h:T AObj
 next:Nat
def jU:AV:= .tuple []
def look (env:Env)(t:Nat):Option AV:=env t
structure EnvR (R:Ren)(env:Env)(n:Nat)(tmps:Array Value):Prop where
 size:tmps.size=n
 get: ∀t x,look env t=some x->VR R x (tmps.getD t undef)
 out: ∀t,n<=t->look env t=none
def aS:IntKind->Nat
 | .i8=>3 | .i16=>4 | .i32=>5 | .i64=>6 | .u8=>7 | .u16=>8 | .u32=>9 | .u64=>10
def YM:AV->Nat
 | .bool _=>0
 | .str _ _=>2
 | .int k _=>aS k
 | _=>1
def wW:List AV->List Nat->Bool
 | [],[]=>true
 | x::xs,q::qs=>Nat.beq (YM x) q&&wW xs qs
 | _,_=>false
def xP (ks:List Nat)(k:AV):Bool:=
 match ks with
 | []=>false
 | q::qs=>bif Nat.beq q 1 then(match k with | .agg l=>wW l qs&& !qs.contains 1 | _=>false)else(match qs with | []=>Nat.beq (YM k) q | _::_=>false)
def MR (R:Ren)(es:List (AV×AV))(l:List MapEntry):Prop:=
 ∃m:List MapEntry,m.Perm l/\VRL R (es.map (·.1)) (m.map (·.key))/\VRL R (es.map (·.2)) (m.map (·.val))
def zCm (l:List MapEntry)(a:Nat):Prop:=(l.map (·.born)).Nodup/\ ∀e∈l,e.born<a
def tri:Nat->Nat
 | 0=>0
 | n+1=>tri n+n+1
theorem zJT (h:n<E):tri n+n+1<=tri E:=by
 induction E with
 | zero=>omega
 | succ E ih=>
  rcases Nat.lt_succ_iff_lt_or_eq.1 h with a | rfl
  .have:=ih a;simp only[tri];omega
  .simp[tri]
def enc (p:Nat×Nat):Nat:=tri (p.1+p.2)+p.2
theorem zMf {p q:Nat×Nat}(h:enc p=enc q):p=q:=by
 obtain⟨a,b⟩:=p;obtain⟨c,d⟩:=q;simp only[enc]at h;have e:a+b=c+d:=by
  rcases Nat.lt_trichotomy (a+b) (c+d)with f | f | f
  .have:=zJT f;omega
  .exact f
  .have:=zJT f;omega
 rw[e]at h;have hb:b=d:=by omega
 subst hb;have i:a=c:=by omega
 subst i;rfl
def zHY (R:Ren)(o:AObj)(d c:Nat)(x:Option Obj):Prop:=
 match o with
 | .cells l e sz g=> ∃(arr:Array Value) (f:Nat×Nat) (pre l' h:List Value),x=some (.cells arr e f)/\arr.toList=pre++(l'++h)/\pre.length=d/\VRL R l l'/\
   (g=false->h=[]/\(0<sz->f=(0,0))/\(sz=0->c=enc f))/\(g=true->l'.length+h.length=c*sz/\c<9223372036854775808)/\(0<sz-> ∀i,i<arr.size-> ¬(f.1<=i/\i<f.2))/\ ∃m,VRL R m h
 | .map ks es=> ∃(arr:Array MapEntry) (j:Nat),x=some (.map arr j)/\MR R es arr.toList/\(∀e∈es,xP ks e.1=true)/\es.Pairwise (fun a b=>a.1≠b.1)/\zCm arr.toList j
 | .loop l=> ∃(L:Loop) (nt:Nat),x=some (.loop L)/\VX l.fn l.site=some (nt,L.params,L.assign,L.body)/\L.state=l.state/\L.pending=l.pending/\L.fn=l.fn/\EnvR R (envL l.live l.vals) nt L.tmps
 | .raw y=>x=some y
 | .dead=>True
def YL (H:AH)(A:Nat):Prop:= ∃o,H.h.get A=some o/\(match o with | .dead=>False | _=>True)
structure Rel (R:Ren)(H:AH)(w:World):Prop where
 fn: ∀A b d c b' d' c',R A b d c->R A b' d' c'->b=b'/\d=d'/\c=c'
 inj: ∀A A' b d c d' c',R A b d c->R A' b d' c'->YL H A->YL H A'->A=A'
 obj: ∀A b d c o,R A b d c->H.h.get A=some o->zHY R o d c w.heap[b]?
 lt: ∀A b d c,R A b d c->b<w.heap.size/\A<H.next
structure Ext (R:Ren)(H:AH)(w:World)(R':Ren)(H':AH)(w':World):Prop where
 sub:Sub R R'
 new: ∀A b d c,R' A b d c->R A b d c\/w.heap.size<=b\/ ∃A0 d0 c0,R A0 b d0 c0
 newA: ∀A b d c,R' A b d c->R A b d c\/H.next<=A
 next:H.next<=H'.next
 keepA: ∀A,A<H.next->(∀b d c,¬R A b d c)->H'.h.get A=H.h.get A
 os:w'.os=w.os
 tape:w'.tape=w.tape
 output:w'.output=w.output
 size:w.heap.size<=w'.heap.size
 keep: ∀b,b<w.heap.size->(∀A d c,¬R A b d c)->w'.heap[b]? =w.heap[b]?
theorem Ext.refl (R:Ren)(H:AH)(w:World):Ext R H w R H w:=
 ⟨zOH R,fun _ _ _ _ h=> .inl h,fun _ _ _ _ h=> .inl h,zP _,fun _ _ _=>rfl,rfl,rfl,rfl,zP _,fun _ _ _=>rfl⟩
def zOL:=@Ext.refl
theorem Ext.trans {R j a:Ren}{H H' f:AH}{w m i:World}(h:Ext R H w j H' m)(k:Ext j H' m a f i):Ext R H w a f i where
 sub:=h.sub.trans k.sub
 new A b d c x:=by
  rcases k.new A b d c x with y | y | ⟨o,p,q,y⟩
  .exact h.new _ _ _ _ y
  .exact .inr (.inl (qR h.size y))
  .rcases h.new _ _ _ _ y with z | z | z
   .exact .inr (.inr ⟨_,_,_,z⟩)
   .exact .inr (.inl z)
   .exact .inr (.inr z)
 newA A b d c x:=by
  rcases k.newA A b d c x with y | y
  .exact h.newA _ _ _ _ y
  .exact .inr (qR h.next y)
 next:=qR h.next k.next
 keepA A hA hR:=by
  rw[k.keepA A (qI hA h.next) (fun b d c x=> ?_)]
  .exact h.keepA A hA hR
  .rcases h.newA _ _ _ _ x with y | y
   .exact hR _ _ _ y
   .omega
 os:=k.os.trans h.os
 tape:=k.tape.trans h.tape
 output:=k.output.trans h.output
 size:=qR h.size k.size
 keep b hb hR:=by
  rw[k.keep b (qI hb h.size) (fun A d c x=> ?_)]
  .exact h.keep b hb hR
  .rcases h.new _ _ _ _ x with y | y | ⟨o,p,q,y⟩
   .exact hR _ _ _ y
   .omega
   .exact hR _ _ _ y
theorem Ext.drew (R:Ren)(H:AH)(w:World)(k:Nat):Ext R H w R H { w with drawn:=k} :=
 ⟨zOH R,fun _ _ _ _ h=> .inl h,fun _ _ _ _ h=> .inl h,zP _,fun _ _ _=>rfl,rfl,rfl,rfl,zP _,fun _ _ _=>rfl⟩
theorem Rel.drew {R:Ren}{H:AH}(h:Rel R H t)(k:Nat):Rel R H { t with drawn:=k} :=⟨h.fn,h.inj,h.obj,h.lt⟩
theorem EnvR.mono {R f:Ren}(h:Sub R f){env:Env}{n:Nat}{a:Array Value}(k:EnvR R env n a):EnvR f env n a:=
 ⟨k.size,fun t x i=>VR.mono h _ _ (k.get t x i),k.out⟩
theorem MR.mono {R a:Ren}(h:Sub R a){es:List (AV×AV)}{l:List MapEntry}(k:MR R es l):MR a es l:=by
 obtain⟨m,hp,f,i⟩:=k;exact⟨m,hp,VRL.mono h _ _ f,VRL.mono h _ _ i⟩
theorem zHY.mono {R p:Ren}(h:Sub R p){o:AObj}{d c:Nat}{x:Option Obj}(k:zHY R o d c x):zHY p o d c x:=by
 cases o with
 | cells l e sz g=>
  obtain⟨arr,t,pre,l',q,a,f,i,j,h5,m,u,v,z⟩:=k;exact⟨arr,t,pre,l',q,a,f,i,VRL.mono h _ _ j,h5,m,u,v,VRL.mono h _ _ z⟩
 | map ks es=>obtain⟨arr,s,a,f,i⟩:=k;exact⟨arr,s,a,f.mono h,i⟩
 | loop l=>
  obtain⟨L,nt,a,f,i,j,h5,m⟩:=k;exact⟨L,nt,a,f,i,j,h5,m.mono h⟩
 | raw y=>exact k
 | dead=>trivial
theorem Rel.empty (w:World):Rel (fun _ _ _ _=>False) ⟨.leaf,0⟩ w:=
 ⟨fun _ _ _ _ _ _ _ h=>h.elim,fun _ _ _ _ _ _ _ h=>h.elim,fun _ _ _ _ _ h=>h.elim,fun _ _ _ _ h=>h.elim⟩
theorem Rel.fresh {R:Ren}{H:AH}(h:Rel R H t){o:AObj}{f:T AObj}(p:T.set 40 H.h H.next o=some f):Rel R ⟨f,H.next+1⟩ t:=by
 have j:=T.get_set _ _ _ _ _ p;have i: ∀A b d c,R A b d c->A≠H.next:=fun A b d c r=>by have:=(h.lt _ _ _ _ r).2;omega
 have hl: ∀A b d c,R A b d c->YL ⟨f,H.next+1⟩ A->YL H A:=fun A b d c r ⟨o,a,hd⟩=>by
  simp only[j,if_neg (i _ _ _ _ r)]at a;exact⟨o,a,hd⟩
 exact⟨h.fn,fun A q b d c d' c' r m l l'=>h.inj A q b d c d' c' r m (hl _ _ _ _ r l) (hl _ _ _ _ m l'),
  fun A b d c o r a=>h.obj A b d c o r (by simpa only[j,if_neg (i _ _ _ _ r)]using a),
  fun A b d c r=>⟨(h.lt _ _ _ _ r).1,Nat.lt_succ_of_lt (h.lt _ _ _ _ r).2⟩⟩
def Ren.add (R:Ren)(a f h i:Nat):Ren:=fun A b d c=>R A b d c\/(A=a/\b=f/\d=h/\c=i)
theorem Ren.sub_add (R:Ren)(A b d c:Nat):Sub R (R.add A b d c):=fun _ _ _ _ h=> .inl h
theorem Ren.add_self (R:Ren)(A b d c:Nat):R.add A b d c A b d c:= .inr ⟨rfl,rfl,rfl,rfl⟩
theorem heap_alloc_old (w:World)(o:Obj)(k:Nat)(h:k<w.heap.size):(w.alloc o).heap[k]? =w.heap[k]? :=RowKit.Below.heap_alloc w o k h
theorem bI (w:World)(o:Obj):(w.alloc o).heap[w.heap.size]? =some o:=heap_alloc_new w o
theorem kU (w:World)(o:Obj):(w.alloc o).heap.size=w.heap.size+1:=by simp
theorem Rel.add {R:Ren}{H:AH}{w:World}(h:Rel R H w){A c:Nat}{o:AObj}{x:Obj}(m:H.h.get A=some o)(j:A<H.next)(i: ∀b d c,¬R A b d c)
  (p:zHY (R.add A w.heap.size 0 c) o 0 c (some x)):Rel (R.add A w.heap.size 0 c) H (w.alloc x):=by
 refine⟨?_, ?_, ?_, ?_⟩
 .rintro f b d c1 q d' c' (r | ⟨rfl,rfl,rfl,rfl⟩) (r' | ⟨e1,rfl,rfl,rfl⟩)
  .exact h.fn _ _ _ _ _ _ _ r r'
  .subst e1;exact absurd r (i _ _ _)
  .exact absurd r' (i _ _ _)
  .exact⟨rfl,rfl,rfl⟩
 .rintro f s b d c1 d' c' (r | ⟨rfl,rfl,rfl,rfl⟩) (r' | ⟨rfl,e2,rfl,rfl⟩) l l'
  .exact h.inj _ _ _ _ _ _ _ r r' l l'
  .have:=(h.lt _ _ _ _ r).1;omega
  .have:=(h.lt _ _ _ _ r').1;omega
  .rfl
 .rintro f b d c1 t (r | ⟨rfl,rfl,rfl,rfl⟩) a
  .rw[heap_alloc_old _ _ _ (h.lt _ _ _ _ r).1];exact(h.obj _ _ _ _ _ r a).mono (R.sub_add _ _ _ _)
  .rw[bI];rw[m]at a;injection a with a;subst a
   exact p
 .rintro f b d c1 (r | ⟨rfl,rfl,rfl,rfl⟩)
  .rw[kU];exact⟨Nat.lt_succ_of_lt (h.lt _ _ _ _ r).1,(h.lt _ _ _ _ r).2⟩
  .rw[kU];exact⟨Nat.lt_succ_self _,j⟩
theorem Ext.add {R:Ren}{H:AH}{w:World}{c:Nat}{x:Obj}{o:AObj}{a:T AObj}(f:T.set 40 H.h H.next o=some a):Ext R H w (R.add H.next w.heap.size 0 c) ⟨a,H.next+1⟩ (w.alloc x) where
 sub:=R.sub_add _ _ _ _
 new A1 b d c1:=by
  rintro(r | ⟨rfl,rfl,rfl,rfl⟩)
  .exact .inl r
  .exact .inr (.inl (zP _))
 newA A1 b d c1:=by
  rintro(r | ⟨rfl,rfl,rfl,rfl⟩)
  .exact .inl r
  .exact .inr (zP _)
 next:=Nat.le_succ _
 keepA A hA _:=by
  show a.get A=_;rw[T.get_set _ _ _ _ _ f,if_neg (by omega)]
 os:=rfl
 tape:=rfl
 output:=rfl
 size:=by rw[kU];omega
 keep b hb _:=heap_alloc_old _ _ _ hb
theorem Rel.new {R:Ren}{H:AH}(h:Rel R H t){c:Nat}{x:Obj}{o:AObj}{a:T AObj}(f:T.set 40 H.h H.next o=some a)(i:zHY (R.add H.next t.heap.size 0 c) o 0 c (some x)):
  Rel (R.add H.next t.heap.size 0 c) ⟨a,H.next+1⟩ (t.alloc x):=by
 refine(h.fresh f).add (o:=o) ?_ (Nat.lt_succ_self _) (fun b d c r=> ?_) i
 .show a.get _=_;rw[T.get_set _ _ _ _ _ f,if_pos rfl]
 .have:=(h.lt _ _ _ _ r).2;omega
def vX (w:World)(b:Nat)(x:Obj):World:= { w with heap:=w.heap.setIfInBounds b x}
theorem bC (w:World)(b:Nat)(x:Obj)(h:b<w.heap.size):(vX w b x).heap[b]? =some x:=by
 simp[vX,h]
theorem vH (w:World)(b k:Nat)(x:Obj)(h:k≠b):(vX w b x).heap[k]? =w.heap[k]? :=by
 simp[vX,Array.getElem?_setIfInBounds,Ne.symm h]
theorem vJ (w:World)(b:Nat)(x:Obj):(vX w b x).heap.size=w.heap.size:=by simp[vX]
theorem Rel.put {R:Ren}{H:AH}(h:Rel R H t){b:Nat}{o':AObj}{x:Obj}{s:T AObj}(hR:R n b E j)(hl:YL H n)(F:T.set 40 H.h n o'=some s)
  (p:zHY R o' E j (some x)):Rel R ⟨s,H.next⟩ (vX t b x):=by
 have u:=T.get_set _ _ _ _ _ F;have m: ∀q,YL ⟨s,H.next⟩ q->q≠n->YL H q:=fun q ⟨o,p,hd⟩ hne=>by
  simp only[u,if_neg hne]at p;exact⟨o,p,hd⟩
 refine⟨h.fn, ?_, ?_, ?_⟩
 .intro i v b1 y c1 J c2 r w l l';by_cases f:i=n
  .by_cases A:v=n
   .rw[f,A]
   .subst f;exact h.inj _ _ _ _ _ _ _ r w hl (m _ l' A)
  .by_cases A:v=n
   .subst A;exact h.inj _ _ _ _ _ _ _ r w (m _ l f) hl
   .exact h.inj _ _ _ _ _ _ _ r w (m _ l f) (m _ l' A)
 .intro i b1 y c1 G r a;simp only[u]at a;by_cases f:i=n
  .subst f;obtain⟨rfl,rfl,rfl⟩:=h.fn _ _ _ _ _ _ _ r hR;rw[if_pos rfl]at a;injection a with a;subst a
   rw[bC _ _ _ (h.lt _ _ _ _ r).1];exact p
  .rw[if_neg f]at a;by_cases z:b1=b
   .subst z;have C: ¬YL H i:=fun I=>f (h.inj _ _ _ _ _ _ _ r hR I hl)
    cases G with
    | dead=>trivial
    | _=>exact absurd ⟨_,a,trivial⟩ C
   .rw[vH _ _ _ _ z];exact h.obj _ _ _ _ _ r a
 .intro i b1 y c1 r;rw[vJ];exact h.lt _ _ _ _ r
theorem Ext.put {R:Ren}{H:AH}{b:Nat}{x:Obj}{o':AObj}{a:T AObj}(hR:R n b E j)(f:T.set 40 H.h n o'=some a):Ext R H t R ⟨a,H.next⟩ (vX t b x) where
 sub:=zOH R
 new _ _ _ _ h:= .inl h
 newA _ _ _ _ h:= .inl h
 next:=zP _
 keepA A1 _ hk:=by
  show a.get A1=_;rw[T.get_set _ _ _ _ _ f,if_neg (fun e=>by subst e;exact hk _ _ _ hR)]
 os:=rfl
 tape:=rfl
 output:=rfl
 size:=by rw[vJ];omega
 keep k _ hk:=vH _ _ _ _ (fun e=>by subst e;exact hk _ _ _ hR)
section
variable {P:Program}{fr:Frame}{cs:List Frame}{w:World}{k:List Item}
theorem zF2 (hm:fr.mode= .run)(a:fr.todo= .code .skip::k):step P (lone fr cs w)= .next (lone { fr with todo:=k} cs w):=
 step_lone_go (by simp[stepG,stepG.exec,hm,a])
theorem zIf (hm:fr.mode= .run)(a:fr.todo= .code (.label n)::k):step P (lone fr cs w)= .next (lone { fr with todo:=k} cs w):=
 step_lone_go (by simp[stepG,stepG.exec,hm,a])
theorem X0 (hm:fr.mode= .run)(a:fr.todo= .inBlock n::k):step P (lone fr cs w)= .next (lone { fr with todo:=k} cs w):=
 step_lone_go (by simp[stepG,stepG.exec,hm,a])
theorem WZ {b:Code}(hm:fr.mode= .run)(f:fr.todo= .code (.seq V b)::k):step P (lone fr cs w)= .next (lone { fr with todo:= .code V:: .code b::k} cs w):=
 step_lone_go (by simp[stepG,stepG.exec,hm,f])
theorem aI {b:Code}{t:Bool}(hm:fr.mode= .run)(f:fr.todo= .code (.cond m V b)::k)(h:fr.eval m= .bool t):
  step P (lone fr cs w)= .next (lone { fr with todo:= .code (if t then V else b)::k} cs w):=
 step_lone_go (by simp[stepG,stepG.exec,hm,f,h])
theorem YS (hm:fr.mode= .run)(a:fr.todo= .code (.block n V)::k):step P (lone fr cs w)= .next (lone { fr with todo:= .code V:: .inBlock n::k} cs w):=
 step_lone_go (by simp[stepG,stepG.exec,hm,a])
theorem zF3 (hm:fr.mode= .run)(a:fr.todo= .code (.loop V)::k):step P (lone fr cs w)= .next (lone { fr with todo:= .code V:: .inLoop V::k} cs w):=
 step_lone_go (by simp[stepG,stepG.exec,hm,a])
theorem BZ (hm:fr.mode= .run)(a:fr.todo= .inLoop V::k):step P (lone fr cs w)= .next (lone { fr with todo:= .code V:: .inLoop V::k} cs w):=
 step_lone_go (by simp[stepG,stepG.exec,hm,a])
theorem zF4 {k':List Item}(hm:fr.mode= .run)(a:fr.todo= .code (.exit n)::k)(f:exitTo n k=some k'):step P (lone fr cs w)= .next (lone { fr with todo:=k'} cs w):=
 step_lone_go (by simp[stepG,stepG.exec,hm,a,f])
theorem zNc (hm:fr.mode= .run)(hr:fr.roundOf=none)(a:fr.todo= .code .ret::k):step P (lone fr cs w)= .next (lone { fr with mode:= .returning} cs w):=
 step_lone_go (by simp[stepG,stepG.exec,hm,a,hr])
theorem zNd (hm:fr.mode= .run)(hr:fr.roundOf=none)(a:fr.todo=[]):step P (lone fr cs w)= .next (lone { fr with mode:= .returning} cs w):=
 step_lone_go (by simp[stepG,stepG.exec,hm,a,hr])
theorem ZC (hm:fr.mode= .run)(a:fr.todo= .code (.region n p false)::k):
  step P (lone fr cs w)= .next (lone { fr with todo:= .inRegion p (List.range p.size)::k} cs w):=
 step_lone_go (by simp[stepG,stepG.exec,hm,a])
theorem zL4 (hm:fr.mode= .run)(a:fr.todo= .code (.region n p true)::k):
  step P (lone fr cs w)= .next (lone { fr with todo:= .inRegion p (Region.schedule (P.follows .mixedOrders) p (w.tape w.drawn (.order fr.fn n)))::k} cs { w with drawn:=w.drawn+1}):=
 step_lone_go (by simp[stepG,stepG.exec,hm,a,choose,Sem.run,Question.forced,Question.cut])
theorem xV (hm:fr.mode= .run)(a:fr.todo= .inRegion p []::k):step P (lone fr cs w)= .next (lone { fr with todo:=k} cs w):=
 step_lone_go (by simp[stepG,stepG.exec,hm,a])
def zBx (t:Array Value):Option Tmp->Value->Array Value
 | some d,v=>t.setIfInBounds d v
 | none,_=>t
theorem kJ (a:fr.todo= .inRegion p (n::v)::k)(f:p[n]? =some D)(ops:Value):
  fr.finish ops= { fr with tmps:=zBx fr.tmps D.dst ops,todo:= .inRegion p v::k} :=by
 cases h:D.dst<;>simp[Frame.finish,a,f,h,zBx]
theorem JN (hm:fr.mode= .run)(a:fr.todo= .inRegion p (n::v)::k)(f:p[n]? =some D)
  (h:Region.wanted D (yielded p fr.tmps)=false):step P (lone fr cs w)= .next (lone (fr.finish undef) cs w):=
 step_lone_go (by simp[stepG,stepG.exec,hm,a,f,h])
theorem zIe (hm:fr.mode= .run)(a:fr.todo= .inRegion p (n::v)::k)(f:p[n]? =some D)
  (j:Region.wanted D (yielded p fr.tmps)=true) (hd: ∀c,D.op≠ .defer c):
  stepG P true { frame:=fr,callers:=cs,status:= .running,dying:=none} w=stepG.apply P true fr cs none (execOp fr.eval D) w:=by
 have m:stepG P true { frame:=fr,callers:=cs,status:= .running,dying:=none} w=stepG.oper P true fr cs none w:=by
  simp[stepG,stepG.exec,hm,a,f,j]
 rw[m];simp only[stepG.oper,Frame.oper?,a,f];split
 .rename_i l c _ h;exact absurd h (hd c)
 .rfl
theorem uR (hm:fr.mode= .run)(f:fr.todo= .inRegion p (n::v)::k)(h:p[n]? =some D)
  (j:Region.wanted D (yielded p fr.tmps)=true) (hd: ∀c,D.op≠ .defer c) (hr:(execOp fr.eval D).run P w= .ok (.value i) t):
  step P (lone fr cs w)= .next (lone (fr.finish i) cs t):=
 step_lone_go (by rw[zIe hm f h j hd];simp[stepG.apply,Sem.runT_eq,hr])
theorem zDW (hm:fr.mode= .run)(f:fr.todo= .inRegion p (n::v)::k)(h:p[n]? =some D)
  (j:Region.wanted D (yielded p fr.tmps)=true) (hd: ∀c,D.op≠ .defer c) (hr:(execOp fr.eval D).run P w= .ok .skip t):
  step P (lone fr cs w)= .next (lone (fr.finish undef) cs t):=
 step_lone_go (by rw[zIe hm f h j hd];simp[stepG.apply,Sem.runT_eq,hr])
theorem zIg {f:FuncId}(hm:fr.mode= .run)(h:fr.todo= .inRegion p (n::v)::k)(j:p[n]? =some D)
  (m:Region.wanted D (yielded p fr.tmps)=true) (hd: ∀c,D.op≠ .defer c) (hr:(execOp fr.eval D).run P w= .ok (.enter f G) t):
  step P (lone fr cs w)= .next (lone (Frame.enter P f G .normal) (fr::cs) t):=
 step_lone_go (by rw[zIe hm h j m hd];simp[stepG.apply,Sem.runT_eq,hr,h])
theorem zId {body:Code}(hm:fr.mode= .run)(m:fr.todo= .inRegion p (n::v)::k)(ops:p[n]? =some D)
  (q:Region.wanted D (yielded p fr.tmps)=true) (hd: ∀c,D.op≠ .defer c) (hr:(execOp fr.eval D).run P w= .ok (.round E j G V body) t):
  step P (lone fr cs w)= .next (lone (Frame.round E j G V body .normal) (fr::cs) t):=
 step_lone_go (by rw[zIe hm m ops q hd];simp[stepG.apply,Sem.runT_eq,hr])
end
end Go.Eng
end
section
noncomputable section
namespace Go.Eng
structure Cx where
 ty:T TypeInfo
 fl:List (TypeId×List Nat)
def Cx.und (X:Cx)(t:TypeId):Option TypeDesc:=
 match X.ty.get t with
 | some i=>match i.desc with
  | .named _ u=>match X.ty.get u with
   | some j=>some j.desc
   | none=>none
  | d=>some d
 | none=>none
def Cx.size (X:Cx)(t:TypeId):Option Nat:=
 match X.ty.get t with
 | some i=>some i.size
 | none=>none
mutual
def ofV:Value->Option AV
 | .bool b=>some (.bool b)
 | .int k n=>some (.int k n)
 | .string s=>some (.str s.data.toList.length (pack s.data.toList))
 | .pointer none=>some .nP
 | .slice none 0 0=>some .nS
 | .map none=>some .nM
 | .nilFunc=>some .nilFunc
 | .nilIface=>some .nilIface
 | .agg a=>match ofVA a with | some l=>some (.agg l) | none=>none
 | .tuple a=>match ofVA a with | some l=>some (.tuple l) | none=>none
 | _=>none
def ofVA:Array Value->Option (List AV)
 | ⟨l⟩=>zNs l
def zNs:List Value->Option (List AV)
 | []=>some []
 | v::l=>match ofV v,zNs l with
  | some x,some xs=>some (x::xs)
  | _,_=>none
end
def opd (env:Env):Operand->Option AV
 | .tmp t=>look env t
 | .const v=>ofV v
 | .func f=>some (.func f [] [])
 | .global _=>none
def zBy (env:Env):List Operand->Option (List AV)
 | []=>some []
 | x::xs=>match opd env x,zBy env xs with
  | some v,some vs=>some (v::vs)
  | _,_=>none
def kF:AV->List AV
 | .agg l=>l
 | .val v=>v.cells.toList.map AV.val
 | v=>[v]
def isCell:AV->Bool
 | .agg _=>false
 | .val _=>false
 | .tuple _=>false
 | _=>true
def jV:List AV->Bool
 | []=>true
 | v::l=>isCell v&&jV l
def fU:TypeDesc->Bool
 | .struct _=>true
 | .array _ _=>true
 | _=>false
def takeN:Nat->List AV->Option (List AV)
 | 0,_=>some []
 | n+1,x::xs=>match takeN n xs with | some r=>some (x::r) | none=>none
 | _+1,[]=>none
def uW:List AV->Nat->Nat->Option (List AV)
 | l,0,n=>takeN n l
 | _::l,o+1,n=>uW l o n
 | [],_+1,n=>bif n.beq 0 then some []else none
def nth:List AV->Nat->Option AV
 | x::_,0=>some x
 | _::l,n+1=>nth l n
 | [],_=>none
def over:List AV->List AV->Option (List AV)
 | l,[]=>some l
 | _::l,y::ys=>match over l ys with | some r=>some (y::r) | none=>none
 | [],_::_=>none
def setAt:List AV->Nat->List AV->Option (List AV)
 | l,0,new=>over l new
 | x::l,n+1,new=>match setAt l n new with | some r=>some (x::r) | none=>none
 | [],_+1,_=>none
def aR:List AV->Nat->Nat
 | [],n=>n
 | _::l,n=>aR l (Nat.succ n)
def rep:Nat->List AV->List AV
 | 0,_=>[]
 | n+1,z=>z++rep n z
def cQ (X:Cx)(t:TypeId):Option AV:=
 match X.ty.get t with
 | some i=>match i.zero with | some z=>ofV z | none=>none
 | none=>none
def zID (H:AH)(o:AObj):Option (Nat×AH):=
 match T.set 40 H.h H.next o with
 | some t=>some (H.next,⟨t,H.next+1⟩)
 | none=>none
def newA (H:AH)(o:AObj):Option (Nat×AH):=
 match T.get H.h H.next with
 | none=>zID H o
 | some _=>none
theorem fH {H H':AH}{o:AObj}(h:newA H o=some (n,H')): ∃a,T.set 40 H.h H.next o=some a/\n=H.next/\H'=⟨a,H.next+1⟩/\T.get H.h H.next=none:=by
 unfold newA at h;split at h
 .rename_i f;unfold zID at h;split at h
  .rename_i t i;simp only[zC,zT]at h;exact⟨t,i,h.1.symm,h.2.symm,f⟩
  .simp at h
 .simp at h
def fF (H:AH)(A:Nat)(o:AObj):Option AH:=
 match T.set 40 H.h A o with
 | some t=>some ⟨t,H.next⟩
 | none=>none
def fM (a:Nat->Option (Nat×Nat))(cells:List AV):List (Nat×AV)->Option (List AV)
 | []=>some cells
 | (i,v)::rest=>
  match a i with
  | none=>none
  | some (off,size)=>
   bif (aR (kF v) 0).beq size then
    match setAt cells off (kF v)with
    | some cells'=>fM a cells' rest
    | none=>none
   else none
def QI (X:Cx):List Field->Option (List (Nat×Nat))
 | []=>some []
 | f::fs=>match X.size f.type,QI X fs with
  | some n,some r=>some ((f.offset,n)::r)
  | _,_=>none
def zK2:List (Nat×Nat)->Nat->Option (Nat×Nat)
 | x::_,0=>some x
 | _::l,n+1=>zK2 l n
 | [],_=>none
def uK (env:Env):List (Nat×Operand)->Option (List (Nat×AV))
 | []=>some []
 | (i,x)::r=>match opd env x,uK env r with
  | some v,some vs=>some ((i,v)::vs)
  | _,_=>none
def YX:IntKind->Nat
 | .i8 | .u8=>256
 | .i16 | .u16=>65536
 | .i32 | .u32=>4294967296
 | .i64 | .u64=>18446744073709551616
def zAy:IntKind->Nat
 | .i8 | .u8=>128
 | .i16 | .u16=>32768
 | .i32 | .u32=>2147483648
 | .i64 | .u64=>9223372036854775808
def zIX (k:IntKind):Int->Int
 | .ofNat m=>bif k.signed then(bif Nat.blt m (zAy k)then .ofNat m else k.wrap (.ofNat m))else .ofNat (m % YX k)
 | .negSucc m=>bif k.signed&&Nat.blt m (zAy k)then .negSucc m else k.wrap (.negSucc m)
def ilt:Int->Int->Bool
 | .ofNat m, .ofNat n=>Nat.blt m n
 | .ofNat _, .negSucc _=>false
 | .negSucc _, .ofNat _=>true
 | .negSucc m, .negSucc n=>Nat.blt n m
def ieq:Int->Int->Bool
 | .ofNat m, .ofNat n=>Nat.beq m n
 | .negSucc m, .negSucc n=>Nat.beq m n
 | _,_=>false
def keq:IntKind->IntKind->Bool
 | .i8, .i8 | .i16, .i16 | .i32, .i32 | .i64, .i64 | .u8, .u8 | .u16, .u16 | .u32, .u32 | .u64, .u64=>true
 | _,_=>false
def fN {α:Type}(n:Nat)(k:Nat->α):α:=Nat.rec (k 0) (fun m _=>k (Nat.succ m)) n
def fI {α:Type}(n:Int)(k:Int->α):α:=
 match n with
 | .ofNat m=>fN m fun m=>k (.ofNat m)
 | .negSucc m=>fN m fun m=>k (.negSucc m)
def mkI (k:IntKind)(n:Int):Option AV:=fI (zIX k n) fun n=>some (.int k n)
def mkB (b:Bool):Option AV:=match b with | true=>some (.bool true) | false=>some (.bool false)
def mkS (len a:Nat):Option AV:=fN len fun len=>fN a fun a=>some (.str len a)
def zA3:Nat->Nat->Nat->Nat->Bool
 | _,_,0,_=>false
 | 0,_,_+1,_=>true
 | l+1,b,m+1,c=>Nat.blt (b % 256) (c % 256)||(Nat.beq (b % 256) (c % 256)&&zA3 l (b / 256) m (c / 256))
def aZ (f:BinOp)(k:IntKind)(a b:Int):Option AV:=
 match f,a,b with
 | .and, .ofNat m, .ofNat n=>bif !k.signed&&Nat.blt m (YX k)&&Nat.blt n (YX k)then mkI k (.ofNat (Nat.land m n))else slow
 | .or, .ofNat m, .ofNat n=>bif !k.signed&&Nat.blt m (YX k)&&Nat.blt n (YX k)then mkI k (.ofNat (Nat.lor m n))else slow
 | .xor, .ofNat m, .ofNat n=>bif !k.signed&&Nat.blt m (YX k)&&Nat.blt n (YX k)then mkI k (.ofNat (Nat.xor m n))else slow
 | _,_,_=>slow
where slow:Option AV:=
 match f with
 | .and=>fI (k.wrap (BitVec.ofInt k.bits a&&& BitVec.ofInt k.bits b).toNat) fun n=>some (.int k n)
 | .or=>fI (k.wrap (BitVec.ofInt k.bits a||| BitVec.ofInt k.bits b).toNat) fun n=>some (.int k n)
 | .xor=>fI (k.wrap (BitVec.ofInt k.bits a ^^^ BitVec.ofInt k.bits b).toNat) fun n=>some (.int k n)
 | .andNot=>fI (k.wrap (BitVec.ofInt k.bits a&&& ~~~ BitVec.ofInt k.bits b).toNat) fun n=>some (.int k n)
 | _=>none
def bO (f:BinOp)(k:IntKind)(a:Int)(k':IntKind)(b:Int):Option AV:=
 match f with
 | .shl=>match b with
  | .ofNat n=>mkI k (a*(2 ^ (Nat.min n k.bits):Nat))
  | .negSucc _=>none
 | .shr=>match b with
  | .ofNat n=>fI (a.fdiv ((2 ^ (Nat.min n k.bits):Nat):Int)) fun r=>some (.int k r)
  | .negSucc _=>none
 | _=>bif keq k k' then
   match f with
   | .add=>mkI k (a+b)
   | .sub=>mkI k (a - b)
   | .mul=>mkI k (a*b)
   | .quo=>bif ieq b 0 then none else mkI k (a.tdiv b)
   | .rem=>bif ieq b 0 then none else fI (a.tmod b) fun r=>some (.int k r)
   | .and | .or | .xor | .andNot=>aZ f k a b
   | .eql=>mkB (ieq a b)
   | .neq=>mkB (!ieq a b)
   | .lss=>mkB (ilt a b)
   | .leq=>mkB (!ilt b a)
   | .gtr=>mkB (ilt b a)
   | .geq=>mkB (!ilt a b)
   | _=>none
  else none
def zBu (a:BinOp)(l b m c:Nat):Option AV:=
 match a with
 | .add=>bif Nat.blt (l+m) 4611686018427387904 then mkS (l+m) (b+c*2 ^ (8*l))else none
 | .eql=>mkB (Nat.beq l m&&Nat.beq b c)
 | .neq=>mkB !(Nat.beq l m&&Nat.beq b c)
 | .lss=>mkB (zA3 l b m c)
 | .leq=>mkB (zA3 l b m c||(Nat.beq l m&&Nat.beq b c))
 | .gtr=>mkB !(zA3 l b m c||(Nat.beq l m&&Nat.beq b c))
 | .geq=>mkB !(zA3 l b m c)
 | _=>none
def aeq (X:Cx):Nat->TypeId->AV->AV->Option Bool
 | 0,_,_,_=>none
 | d+1,t,x,y=>
  match X.und t with
  | some .bool=>match x,y with
   | .bool a, .bool b=>some (a==b)
   | _,_=>none
  | some (.int _)=>match x,y with
   | .int k a, .int k' b=>bif keq k k' then some (ieq a b)else none
   | _,_=>none
  | some .string=>match x,y with
   | .str l b, .str m c=>some (Nat.beq l m&&Nat.beq b c)
   | _,_=>none
  | some (.pointer e)=>match x,y with
   | .nP, .nP=>some true
   | .nP, .ptr _ _=>some false
   | .ptr _ _, .nP=>some false
   | .ptr A o, .ptr B p=>match X.size e with
    | some 0=>none
    | some _=>bif Nat.beq A B then some (Nat.beq o p)else none
    | none=>none
   | _,_=>none
  | some (.slice _)=>match x,y with
   | .nS, .nS=>some true
   | .nS, .slice _ _ _ _=>some false
   | .slice _ _ _ _, .nS=>some false
   | _,_=>none
  | some (.map _ _)=>match x,y with
   | .nM, .nM=>some true
   | .nM, .map _=>some false
   | .map _, .nM=>some false
   | _,_=>none
  | some (.func _ _ _)=>match x,y with
   | .nilFunc, .nilFunc=>some true
   | .nilFunc, .func _ _ _=>some false
   | .func _ _ _, .nilFunc=>some false
   | _,_=>none
  | _=>none
def zBe (q:Nat)(x y:AV):Option Bool:=
 match x,y with
 | .bool a, .bool b=>bif Nat.beq q 0 then some (a==b)else none
 | .int k a, .int k' b=>bif Nat.beq q (aS k)&&keq k k' then some (ieq a b)else none
 | .str l b, .str m c=>bif Nat.beq q 2 then some (Nat.beq l m&&Nat.beq b c)else none
 | _,_=>none
def uI:List Nat->List AV->List AV->Option Bool
 | [],[],[]=>some true
 | q::qs,x::xs,y::ys=>match zBe q x y with
  | some true=>uI qs xs ys
  | some false=>some false
  | none=>none
 | _,_,_=>none
def zC3 (t:Nat):List (TypeId×List Nat)->Option (List Nat)
 | []=>none
 | (i,qs)::l=>bif Nat.beq i t then some qs else zC3 t l
def zHM (X:Cx)(f:BinOp)(t:TypeId)(a b:List AV):Option AV:=
 match zC3 t X.fl with
 | some qs=>bif Nat.beq (aR a 0) (aR b 0)&&Nat.beq qs.length (aR a 0)then
   match uI qs a b with
   | some r=>match f with
    | .eql=>mkB r
    | .neq=>mkB !r
    | _=>none
   | none=>none
  else none
 | none=>none
def wP:AV->Bool
 | .int _ _=>false
 | .str _ _=>false
 | .agg _=>false
 | .nilIface=>false
 | .iface _ _=>false
 | .tuple _=>false
 | .val _=>false
 | _=>true
def zBv (X:Cx)(a:BinOp)(t:TypeId)(x y:AV):Option AV:=
 match a with
 | .eql=>match aeq X 9 t x y with | some b=>mkB b | none=>none
 | .neq=>match aeq X 9 t x y with | some b=>mkB !b | none=>none
 | _=>none
def zHN (X:Cx)(f:BinOp)(t:TypeId)(x y:AV):Option AV:=
 match x,y with
 | .int k a, .int k' b=>bO f k a k' b
 | .str l b, .str m c=>zBu f l b m c
 | .agg a, .agg b=>zHM X f t a b
 | x,y=>bif wP x then zBv X f t x y else none
def aun (a:UnOp)(x:AV):Option AV:=
 match a,x with
 | .neg, .int k n=>mkI k (0 - n)
 | .not, .bool b=>mkB !b
 | _,_=>none
def WC (X:Cx)(t:TypeId)(p:AV)(H:AH):Option AV:=
 match p with
 | .ptr A off=>match H.h.get A with
  | some (.cells l _ _ _)=>match X.und t with
   | some d=>bif fU d then
     match X.size t with
     | some n=>match uW l off n with | some c=>some (.agg c) | none=>none
     | none=>none
    else nth l off
   | none=>none
  | _=>none
 | _=>none
def zBm (X:Cx)(t:TypeId)(p x:AV)(H:AH):Option AH:=
 match p with
 | .ptr A off=>match H.h.get A with
  | some (.cells l e sz g)=>match X.size t with
   | some n=>bif (aR (kF x) 0).beq n&&jV (kF x)&&Nat.blt 0 sz then
     match setAt l off (kF x)with
     | some l'=>fF H A (.cells l' e sz g)
     | none=>none
    else none
   | none=>none
  | _=>none
 | _=>none
def bytesOf:Nat->Nat->List AV
 | 0,_=>[]
 | l+1,b=> .int .u8 (.ofNat (b % 256))::bytesOf l (b / 256)
def ZA:List AV->Option (Nat×Nat)
 | []=>some (0,0)
 | .int .u8 (.ofNat m)::l=>bif Nat.blt m 256 then
   match ZA l with
   | some (n,b)=>fN n fun n=>fN b fun b=>some (n+1,m+256*b)
   | none=>none
  else none
 | _=>none
def VH (X:Cx)(a dst:TypeId)(x:AV):Option AV:=
 match X.und a with
 | none=>none
 | some ds=>match X.und dst with
  | some (.int k)=>match x with
   | .int _ n=>mkI k n
   | _=>none
  | some .string=>match ds,x with
   | .string, .str l b=>some (.str l b)
   | _,_=>none
  | _=>none
def YJ (X:Cx)(a dst:TypeId)(x:AV)(H:AH):Option AV:=
 match X.und a with
 | some (.slice e)=>match X.und dst with
  | some .string=>match X.und e with
   | some (.int .u8)=>match x with
    | .nS=>some (.str 0 0)
    | .slice A off len _=>match H.h.get A with
     | some (.cells l _ _ _)=>match uW l off len with
      | some c=>match ZA c with
       | some (n,b)=>mkS n b
       | none=>none
      | none=>none
     | _=>none
    | _=>none
   | _=>none
  | _=>none
 | _=>none
def zBt (X:Cx)(a dst:TypeId)(x:AV):Option (AObj×(Nat->AV)):=
 match X.und a with
 | some .string=>match X.und dst with
  | some (.slice e)=>match X.und e with
   | some (.int .u8)=>match x with
    | .str l b=>bif Nat.blt l 4611686018427387904 then some (.cells (bytesOf l b) e 1 true,fun A=> .slice A 0 l 1)else none
    | _=>none
   | _=>none
  | _=>none
 | _=>none
def aO:AV->Option Nat
 | .int _ (.ofNat n)=>some n
 | _=>none
def kX:Option AV->Option (Option Nat)
 | none=>some none
 | some v=>match aO v with | some n=>some (some n) | none=>none
def zHH (len a:Nat)(lo hi:Option Nat):Option AV:=
 let l:=lo.getD 0
 let h:=hi.getD len
 bif Nat.ble h len&&Nat.ble l h then mkS (h - l) ((a / 2 ^ (8*l)) % 2 ^ (8*(h - l)))else none
def YQ (A off len cc sz room:Nat)(lo hi a:Option Nat):Option AV:=
 let l:=lo.getD 0
 let h:=hi.getD len
 match a with
 | some m=>match hi with
  | some h=>
   bif Nat.ble m room&&Nat.ble h m&&Nat.ble l h then
    fN (bif m.beq l then off else off+l*sz) fun o=>fN (h - l) fun n=>fN (2*(m - l)) fun c=>some (.slice A o n c)
   else none
  | none=>none
 | none=>
  bif Nat.ble h room&&Nat.ble l h then
   bif (cc % 2).beq 0 then
    fN (bif (cc / 2).beq l then off else off+l*sz) fun o=>fN (h - l) fun n=>fN (2*(cc / 2 - l)) fun c=>some (.slice A o n c)
   else
    bif l.beq 0 then fN h fun n=>some (.slice A off n cc)
    else bif Nat.blt l h then fN (off+l*sz) fun o=>fN (h - l) fun n=>fN (cc+2*l) fun c=>some (.slice A o n c)
    else some .eS
  else none
def kS (l:List AV)(g:Bool)(a off cc sz:Nat):Nat:=
 bif (cc % 2).beq 0 then cc / 2 else bif g&&Nat.beq a sz&&Nat.beq off (cc / 2*sz)then(aR l 0 - off) / sz else 0
def aC (X:Cx)(t:TypeId)(x:AV)(lo hi a:Option AV)(H:AH):Option AV:=
 match kX lo,kX hi,kX a with
 | some lo,some hi,some a=>
  match X.und t,x with
  | some .string, .str len bits=>match a with | none=>zHH len bits lo hi | some _=>none
  | some (.slice e), .nS=>match X.size e with
   | some _=>bif (lo.getD 0).beq 0&&(hi.getD 0).beq 0&&(a.getD 0).beq 0&&(a.isNone||hi.isSome)then some .nS else none
   | none=>none
  | some (.slice e), .slice A off len cc=>match X.size e with
   | some sz=>match H.h.get A with
    | some (.cells l _ sz' g)=>bif Nat.blt 0 sz then YQ A off len cc sz (kS l g sz' off cc sz) lo hi a else none
    | _=>none
   | none=>none
  | some (.slice e), .eS=>match X.size e with
   | some _=>match a with
    | none=>bif (lo.getD 0).beq 0&&(hi.getD 0).beq 0 then some .eS else none
    | some _=>none
   | none=>none
  | some (.array n e), .ptr A off=>match X.size e with
   | some sz=>bif Nat.blt 0 sz then YQ A off n (2*n) sz n lo hi a else none
   | none=>none
  | some (.pointer arr), .ptr A off=>match X.und arr with
   | some (.array n e)=>match X.size e with
    | some sz=>bif Nat.blt 0 sz then YQ A off n (2*n) sz n lo hi a else none
    | none=>none
   | _=>none
  | _,_=>none
 | _,_,_=>none
def bB (X:Cx)(t:TypeId)(x a:AV):Option AV:=
 match aO a with
 | some i=>match X.und t,x with
  | some (.array n e), .ptr A off=>match X.size e with
   | some sz=>bif Nat.blt i n then fN (off+i*sz) fun o=>some (.ptr A o)else none
   | none=>none
  | some (.slice e), .slice A off len _=>match X.size e with
   | some sz=>bif Nat.blt i len then fN (off+i*sz) fun o=>some (.ptr A o)else none
   | none=>none
  | _,_=>none
 | none=>none
def WD (X:Cx)(t:TypeId)(x a:AV):Option AV:=
 match aO a with
 | some i=>match X.und t,x with
  | some .string, .str len bits=>bif Nat.blt i len then fN ((bits / 2 ^ (8*i)) % 256) fun b=>some (.int .u8 (.ofNat b))else none
  | some (.array n e), .agg cs=>match X.und e,X.size e with
   | some d,some sz=>bif Nat.blt i n then
     bif fU d then match uW cs (i*sz) sz with | some c=>some (.agg c) | none=>none
     else nth cs (i*sz)
    else none
   | _,_=>none
  | _,_=>none
 | none=>none
def zLu:List Field->Nat->Option Field
 | x::_,0=>some x
 | _::l,n+1=>zLu l n
 | [],_=>none
def VE (X:Cx)(t:TypeId)(x:AV)(f:Nat):Option AV:=
 match X.und t,x with
 | some (.struct fs), .agg cs=>match zLu fs.toList f with
  | some fl=>match X.und fl.type,X.size fl.type with
   | some d,some n=>bif fU d then match uW cs fl.offset n with | some c=>some (.agg c) | none=>none
     else nth cs fl.offset
   | _,_=>none
  | none=>none
 | _,_=>none
def fC (X:Cx)(s:TypeId)(x:AV)(f:Nat):Option AV:=
 match X.und s,x with
 | some (.struct fs), .ptr A off=>match zLu fs.toList f with
  | some fl=>match X.size fl.type with
   | some 0=>none
   | some _=>fN (off+fl.offset) fun o=>some (.ptr A o)
   | none=>none
  | none=>none
 | _,_=>none
def zCk (X:Cx)(t:TypeId)(x:AV)(H:AH):Option AV:=
 match X.und t,x with
 | some .string, .str l _=>some (.int .i64 (.ofNat l))
 | some (.slice _), .nS=>some (.int .i64 0)
 | some (.slice _), .slice _ _ n _=>some (.int .i64 (.ofNat n))
 | some (.slice _), .eS=>some (.int .i64 0)
 | some (.array n _),_=>some (.int .i64 (.ofNat n))
 | some (.map _ _), .nM=>some (.int .i64 0)
 | some (.map _ _), .map A=>match H.h.get A with
  | some (.map _ es)=>some (.int .i64 (.ofNat es.length))
  | _=>none
 | _,_=>none
def zMz (X:Cx)(t:TypeId)(x:AV):Option AV:=
 match X.und t,x with
 | some (.slice _), .nS=>some (.int .i64 0)
 | some (.slice _), .slice _ _ _ cc=>bif (cc % 2).beq 0 then fN (cc / 2) fun n=>some (.int .i64 (.ofNat n))else none
 | _,_=>none
def kOf (X:Cx)(kt:TypeId):Option (List Nat):=
 match X.und kt with
 | some .bool=>some [0]
 | some (.int k)=>some [aS k]
 | some .string=>some [2]
 | some (.struct _)=>match zC3 kt X.fl with | some qs=>some (1::qs) | none=>none
 | some (.array _ _)=>match zC3 kt X.fl with | some qs=>some (1::qs) | none=>none
 | _=>none
def YO:List Nat->List Nat->Bool
 | [],[]=>true
 | x::a,y::b=>Nat.beq x y&&YO a b
 | _,_=>false
mutual
def aveq:AV->AV->Bool
 | .bool a, .bool b=>a==b
 | .int k a, .int k' b=>keq k k'&&ieq a b
 | .str l b, .str m c=>Nat.beq l m&&Nat.beq b c
 | .nP, .nP=>true
 | .ptr a o, .ptr b p=>Nat.beq a b&&Nat.beq o p
 | .nS, .nS=>true
 | .eS, .eS=>true
 | .slice a b c d, .slice a' b' c' d'=>Nat.beq a a'&&Nat.beq b b'&&Nat.beq c c'&&Nat.beq d d'
 | .nM, .nM=>true
 | .map a, .map b=>Nat.beq a b
 | .func f a b, .func g c d=>Nat.beq f g&&Q6 a c&&Q6 b d
 | .yT a, .yT b=>Nat.beq a b
 | .nilFunc, .nilFunc=>true
 | .iface t x, .iface u y=>Nat.beq t u&&aveq x y
 | .nilIface, .nilIface=>true
 | .agg a, .agg b=>Q6 a b
 | .tuple a, .tuple b=>Q6 a b
 | _,_=>false
def Q6:List AV->List AV->Bool
 | [],[]=>true
 | x::xs,y::ys=>aveq x y&&Q6 xs ys
 | _,_=>false
end
def vB (k:AV):List (AV×AV)->Option AV
 | []=>none
 | (a,b)::l=>bif aveq k a then some b else vB k l
def BJ (k v:AV):List (AV×AV)->Option (List (AV×AV))
 | []=>none
 | (a,b)::l=>bif aveq k a then some ((a,v)::l)else match BJ k v l with | some r=>some ((a,b)::r) | none=>none
def zH1 (k:AV):List (AV×AV)->Option (List (AV×AV))
 | []=>none
 | (a,b)::l=>bif aveq k a then some l else match zH1 k l with | some r=>some ((a,b)::r) | none=>none
def lkR (ok:Bool)(a:Bool)(v:AV):AV:=bif a then .tuple [v, .bool ok]else v
def lkM (ks:List Nat)(z:AV)(a:Bool)(x k:AV)(H:AH):Option AV:=
 bif xP ks k then
  match x with
  | .nM=>some (lkR false a z)
  | .map A=>match H.h.get A with
   | some (.map ks' es)=>bif YO ks ks' then
     match vB k es with
     | some v=>some (lkR true a v)
     | none=>some (lkR false a z)
    else none
   | _=>none
  | _=>none
 else none
def upM (ks:List Nat)(x k v:AV)(H:AH):Option (AV×AH):=
 bif xP ks k then
  match x with
  | .map A=>match H.h.get A with
   | some (.map ks' es)=>bif YO ks ks' then
     match BJ k v es with
     | some es'=>match fF H A (.map ks es')with | some H'=>some (jU,H') | none=>none
     | none=>match fF H A (.map ks (es++[(k,v)]))with | some H'=>some (jU,H') | none=>none
    else none
   | _=>none
  | _=>none
 else none
def dlM (ks:List Nat)(x k:AV)(H:AH):Option (AV×AH):=
 bif xP ks k then
  match x with
  | .nM=>some (.tuple [],H)
  | .map A=>match H.h.get A with
   | some (.map ks' es)=>bif YO ks ks' then
     match zH1 k es with
     | some es'=>match fF H A (.map ks es')with | some H'=>some (.tuple [],H') | none=>none
     | none=>some (.tuple [],H)
    else none
   | _=>none
  | _=>none
 else none
def clM (x:AV)(H:AH):Option (AV×AH):=match x with
 | .nM=>some (.tuple [],H)
 | .map A=>match H.h.get A with
  | some (.map ks _)=>match fF H A (.map ks [])with | some H'=>some (.tuple [],H') | none=>none
  | _=>none
 | _=>none
def srcOf (sz:Nat)(x:AV)(H:AH):Option (Nat×List AV):=
 match x with
 | .nS=>some (0,[])
 | .eS=>some (0,[])
 | .slice A off n _=>match H.h.get A with
  | some (.cells l _ _ _)=>match uW l off (n*sz)with | some c=>some (n,c) | none=>none
  | _=>none
 | .str l b=>bif sz.beq 1 then some (l,bytesOf l b)else none
 | _=>none
def cT (a e sz:Nat)(cells:List AV)(H:AH):Option (AV×AH):=
 match newA H (.cells cells e sz true)with
 | some (A,H')=>fN a fun n=>some (.slice A 0 n 1,H')
 | none=>none
def roomy (a bytes:Nat):Bool:=Nat.ble ((a+a / 4+192)*bytes) 281474976710656&&Nat.blt a 4611686018427387904
def vR (a e sz bytes:Nat)(old:Option (List AV))(new:List AV)(H:AH):Option (AV×AH):=
 bif roomy a bytes then
  match old with
  | some old=>cT a e sz (old++new) H
  | none=>none
 else none
def zBp (A off len cc n f a:Nat)(g:Bool)(l':Option (List AV))(H:AH):Option (AV×AH):=
 match l' with
 | some l'=>match fF H A (.cells l' f a g)with
  | some H'=>fN (len+n) fun m=>some (.slice A off m cc,H')
  | none=>none
 | none=>none
def zEz (e sz bytes n:Nat)(new:List AV)(A off len cc:Nat)(l:List AV)(f a:Nat)(g:Bool)(H:AH):Option (AV×AH):=
 bif Nat.ble (len+n) (kS l g a off cc sz)then zBp A off len cc n f a g (bif Nat.blt 0 a then setAt l (off+len*sz) new else none) H
 else bif (cc % 2).beq 0 then vR (len+n) e sz bytes (uW l off (len*sz)) new H
 else bif g&&Nat.beq (off+len*sz) (aR l 0)&&Nat.beq e f&&Nat.beq a sz&&Nat.beq off (cc / 2*sz)then
  match fF H A .dead with
  | some H1=>vR (len+n) e sz bytes (uW l off (len*sz)) new H1
  | none=>none
 else none
def app1 (e sz bytes n:Nat)(new:List AV)(s:AV)(H:AH):Option (AV×AH):=
 match s with
 | .nS=>bif n.beq 0 then some (.nS,H)else vR n e sz bytes (some []) new H
 | .eS=>bif n.beq 0 then some (.eS,H)else none
 | .slice A off len cc=>match H.h.get A with
  | some (.cells l e' sz' g)=>zEz e sz bytes n new A off len cc l e' sz' g H
  | _=>none
 | _=>none
def JB (sz:Nat)(z:Option Value):Bool:=
 match z with
 | some z=>match ofV z with
  | some za=>Nat.blt 0 sz&&Nat.beq (aR (kF za) 0) sz
  | none=>false
 | none=>false
def fS (X:Cx)(t:TypeId)(s x:AV)(H:AH):Option (AV×AH):=
 match X.und t with
 | some (.slice e)=>match X.ty.get e with
  | some ti=>bif JB ti.size ti.zero then
    match srcOf ti.size x H with
    | some (n,new)=>bif jV new then app1 e ti.size ti.bytes n new s H else none
    | none=>none
   else none
  | none=>none
 | _=>none
def zHO (X:Cx)(t:TypeId)(s x:AV)(H:AH):Option (AV×AH):=
 match X.und t with
 | some (.slice e)=>match X.ty.get e with
  | some ti=>match cQ X e with
   | some z=>bif JB ti.size ti.zero then
     match x with
     | .int .i64 (.ofNat n)=>bif Nat.ble (n*ti.bytes) 281474976710656&&Nat.blt n 4611686018427387904&&jV (kF z)then app1 e ti.size ti.bytes n (rep n (kF z)) s H else none
     | _=>none
    else none
   | none=>none
  | none=>none
 | _=>none
def zEv (X:Cx)(t:TypeId)(dst a:AV)(H:AH):Option (AV×AH):=
 match X.und t with
 | some (.slice e)=>match X.size e with
  | some sz=>match dst with
   | .nS=>match a with
    | .nS=>some (.int .i64 0,H)
    | .slice _ _ _ _=>some (.int .i64 0,H)
    | .str _ _=>some (.int .i64 0,H)
    | _=>none
   | .slice A off len _=>match srcOf sz a H with
    | some (n,new)=>
     let m:=Nat.min n len
     match takeN (m*sz) new with
     | some new=>bif jV new then
       match H.h.get A with
       | some (.cells l e' sz' g)=>match(bif Nat.blt 0 sz' then setAt l off new else none)with
        | some l'=>match fF H A (.cells l' e' sz' g)with
         | some H'=>fN m fun m=>some (.int .i64 (.ofNat m),H')
         | none=>none
        | none=>none
       | _=>none
      else none
     | none=>none
    | none=>none
   | _=>none
  | none=>none
 | _=>none
def fX (env:Env):Option Operand->Option (Option AV)
 | none=>some none
 | some y=>match opd env y with | some b=>some (some b) | none=>none
def zE5 (env:Env)(c a b:Operand):Option AV:=
 match opd env c with
 | some (.bool true)=>opd env a
 | some (.bool false)=>opd env b
 | _=>none
def Y9 (X:Cx)(env:Env)(t:TypeId)(a:Array (Nat×Operand)):Option AV:=
 match cQ X t with
 | some z=>match uK env a.toList with
  | some parts=>match X.und t with
   | some (.struct fs)=>match QI X fs.toList with
    | some pl=>match fM (zK2 pl) (kF z) parts with | some c=>some (.agg c) | none=>none
    | none=>none
   | some (.array _ e)=>match X.size e with
    | some sz=>match fM (fun i=>some (i*sz,sz)) (kF z) parts with | some c=>some (.agg c) | none=>none
    | none=>none
   | _=>none
  | none=>none
 | none=>none
def xZ (x:AV):Option AV:=
 match x with
 | .ptr A off=>some (.ptr A off)
 | .func f a b=>some (.func f a b)
 | .yT A=>some (.yT A)
 | _=>none
def zE6 (env:Env)(f:FuncId)(first cap:Array Operand):Option AV:=
 match zBy env first.toList with
 | some a=>match zBy env cap.toList with
  | some b=>some (.func f a b)
  | none=>none
 | none=>none
def zNp (X:Cx)(arr:TypeId)(x:AV):Option AV:=
 match x with
 | .slice A off len _=>match X.und arr with
  | some (.array n _)=>bif Nat.ble n len then some (.ptr A off)else none
  | _=>none
 | _=>none
def jS (x:AV)(i:Nat):Option AV:=
 match x with
 | .tuple vs=>nth vs i
 | _=>none
def b1 (x:Option AV)(f:AV->Option AV):Option AV:=match x with | some a=>f a | none=>none
def b2 (x y:Option AV)(f:AV->AV->Option AV):Option AV:=
 match x with
 | some a=>match y with | some b=>f a b | none=>none
 | none=>none
def aA1 (e:TypeId)(x:Option AV):Option (AObj×(Nat->AV)):=
 match x with
 | some z=>some (.cells (kF z) e 1 false,fun A=> .ptr A 0)
 | none=>none
def Z4 (X:Cx)(env:Env)(t:TypeId)(len:Nat)(a:Array (Nat×Operand)):Option (AObj×(Nat->AV)):=
 match X.und t with
 | some (.slice e)=>match uK env a.toList with
  | some parts=>match X.size e with
   | some sz=>match cQ X e with
    | some z=>bif Nat.ble (len*sz) 16777216&&Nat.blt 0 sz&&Nat.beq (aR (kF z) 0) sz then
      match fM (fun i=>some (i*sz,sz)) (rep len (kF z)) parts with
      | some c=>some (.cells c e sz false,fun A=> .slice A 0 len (2*len))
      | none=>none
     else none
    | none=>none
   | none=>none
  | none=>none
 | _=>none
def VI (X:Cx)(t:TypeId)(l c:Option AV):Option (AObj×(Nat->AV)):=
 match l with
 | some (.int .i64 (.ofNat n))=>match c with
  | some (.int .i64 (.ofNat m))=>match X.und t with
   | some (.slice e)=>match X.ty.get e with
    | some ti=>match cQ X e with
     | some z=>bif Nat.ble n m&&Nat.ble (m*ti.bytes) 140737488355328&&Nat.blt m 9223372036854775808&&Nat.blt 0 ti.size&&Nat.beq (aR (kF z) 0) ti.size then
       some (.cells (rep m (kF z)) e ti.size false,fun A=> .slice A 0 n (2*m))
      else none
     | none=>none
    | none=>none
   | _=>none
  | _=>none
 | _=>none
inductive Cls where
 | P | L | A | E | C
def zHg (X:Cx)(s d:TypeId):Cls:=
 match X.und s with
 | some (.slice _)=> .L
 | some .string=>match X.und d with
  | some (.slice _)=> .A
  | _=> .P
 | _=> .P
def clsB:Builtin->Cls
 | .len=> .L
 | .cap=> .P
 | .min=> .P
 | .max=> .P
 | _=> .E
def UV:Callee->Cls
 | .value _=> .C
 | .invoke _ _=> .C
 | .builtin b=>clsB b
def zNM:Operand->Bool
 | .const _=>true
 | _=>false
def zFB (X:Cx)(t:TypeId)(x y:Operand):Bool:=match X.und t with
 | some (.pointer _)=> !(zNM x||zNM y)
 | _=>false
def ZN (A:Nat)(H:AH):Bool:=match H.h.get A with
 | some o=>match o with | .cells _ _ sz g=>Nat.blt 0 sz&& !g | _=>false
 | none=>false
def pNe (a:BinOp)(x y:AV)(H:AH):Option AV:=match x with
 | .ptr A _=>match y with
  | .ptr B _=>bif ZN A H&&(ZN B H&& !Nat.beq A B)then
    (match a with | .eql=>mkB false | .neq=>mkB true | _=>none)
   else none
  | _=>none
 | _=>none
def BD (X:Cx)(a:BinOp)(t:TypeId)(x y:AV)(H:AH):Option AV:=match zHN X a t x y with
 | some r=>some r
 | none=>match X.und t with
  | some (.pointer e)=>match X.size e with
   | some 0=>none
   | some _=>pNe a x y H
   | none=>none
  | _=>none
def cls (X:Cx):Op->Cls
 | .move _=> .P
 | .assign _=> .P
 | .pick _ _ _=> .P
 | .build _ _=> .P
 | .nilCheck _=> .P
 | .binOp _ t x y _=>bif zFB X t x y then .L else .P
 | .unOp _ _ _=> .P
 | .makeFunc _ _ _=> .P
 | .fieldAddr _ _ _=> .P
 | .field _ _ _=> .P
 | .indexAddr _ _ _=> .P
 | .index _ _ _=> .P
 | .sliceToArrayPointer _ _=> .P
 | .extract _ _=> .P
 | .load _ _=> .L
 | .lookup _ _ _ _=> .L
 | .slice _ _ _ _ _=> .L
 | .makeMap _ _=> .A
 | .alloc _=> .A
 | .box _ _=> .A
 | .buildSlice _ _ _=> .A
 | .makeSlice _ _ _=> .A
 | .convert s d _=>zHg X s d
 | .call c=>UV c.callee
 | _=> .E
def mn2 (x y:AV):Option AV:=match x with
 | .int k a=>match y with | .int _ b=>bif ilt b a then some (.int k b)else some (.int k a) | _=>none
 | _=>none
def mx2 (x y:AV):Option AV:=match x with
 | .int k a=>match y with | .int _ b=>bif ilt a b then some (.int k b)else some (.int k a) | _=>none
 | _=>none
def zHz (X:Cx)(t:TypeId)(a:Bool)(x k:AV)(H:AH):Option AV:=match X.und t with
 | some (.map kt et)=>match kOf X kt with
  | some ks=>match cQ X et with
   | some z=>lkM ks z a x k H
   | none=>none
  | none=>none
 | _=>none
def aMap (X:Cx)(t:TypeId):Option (AObj×(Nat->AV)):=match X.und t with
 | some (.map kt _)=>match kOf X kt with
  | some ks=>some (.map ks [],fun A=> .map A)
  | none=>none
 | _=>none
def aup (X:Cx)(t:TypeId)(x k v:AV)(H:AH):Option (AV×AH):=match X.und t with
 | some (.map kt _)=>match kOf X kt with
  | some ks=>upM ks x k v H
  | none=>none
 | _=>none
def adl (X:Cx)(t:TypeId)(x k:AV)(H:AH):Option (AV×AH):=match X.und t with
 | some (.map kt _)=>match kOf X kt with
  | some ks=>dlM ks x k H
  | none=>none
 | _=>none
def acl (X:Cx)(t:TypeId)(x:AV)(H:AH):Option (AV×AH):=match X.und t with
 | some (.map _ _)=>clM x H
 | _=>none
def c1 (x:Option AV)(f:AV->Option (AV×AH)):Option (AV×AH):=match x with | some a=>f a | none=>none
def c2 (x y:Option AV)(f:AV->AV->Option (AV×AH)):Option (AV×AH):=match x with
 | some a=>match y with | some b=>f a b | none=>none
 | none=>none
def c3 (x y z:Option AV)(f:AV->AV->AV->Option (AV×AH)):Option (AV×AH):=match x with
 | some a=>match y with
  | some b=>match z with | some c=>f a b c | none=>none
  | none=>none
 | none=>none
def aP (X:Cx)(env:Env):Op->Option AV
 | .move x=>opd env x
 | .assign x=>opd env x
 | .pick c a b=>zE5 env c a b
 | .build t ps=>Y9 X env t ps
 | .nilCheck x=>b1 (opd env x) xZ
 | .binOp op t x y _=>b2 (opd env x) (opd env y) (zHN X op t)
 | .unOp op _ x=>b1 (opd env x) (aun op)
 | .convert s d x=>b1 (opd env x) (VH X s d)
 | .makeFunc (.func f) first cap=>zE6 env f first cap
 | .fieldAddr s x f=>b1 (opd env x) (fC X s · f)
 | .field t x f=>b1 (opd env x) (VE X t · f)
 | .indexAddr t x i=>b2 (opd env x) (opd env i) (bB X t)
 | .index t x i=>b2 (opd env x) (opd env i) (WD X t)
 | .sliceToArrayPointer arr x=>b1 (opd env x) (zNp X arr)
 | .extract x i=>b1 (opd env x) (jS · i)
 | .call c=>match c.callee with
  | .builtin .cap=>match c.args.toList with
   | [x]=>match c.argTypes.toList with
    | t::_=>b1 (opd env x) (zMz X t)
    | _=>none
   | _=>none
  | .builtin .min=>match c.args.toList with
   | [x,y]=>b2 (opd env x) (opd env y) mn2
   | _=>none
  | .builtin .max=>match c.args.toList with
   | [x,y]=>b2 (opd env x) (opd env y) mx2
   | _=>none
  | _=>none
 | _=>none
def cY (X:Cx)(env:Env)(t:TypeId)(x:Operand)(lo hi f:Option Operand)(H:AH):Option AV:=
 match opd env x with
 | some a=>match fX env lo with
  | some lo=>match fX env hi with
   | some hi=>match fX env f with
    | some f=>aC X t a lo hi f H
    | none=>none
   | none=>none
  | none=>none
 | none=>none
def aL (X:Cx)(env:Env)(H:AH):Op->Option AV
 | .load t a=>b1 (opd env a) (WC X t · H)
 | .slice t x lo hi mx=>cY X env t x lo hi mx H
 | .lookup t x k ok=>b2 (opd env x) (opd env k) (zHz X t ok · · H)
 | .convert s d x=>b1 (opd env x) (YJ X s d · H)
 | .binOp op t x y _=>b2 (opd env x) (opd env y) (BD X op t · · H)
 | .call c=>match c.callee with
  | .builtin .len=>match c.args.toList with
   | [x]=>match c.argTypes.toList with
    | t::_=>b1 (opd env x) (zCk X t · H)
    | _=>none
   | _=>none
  | _=>none
 | _=>none
def aA (X:Cx)(env:Env):Op->Option (AObj×(Nat->AV))
 | .alloc e=>aA1 e (cQ X e)
 | .box e x=>aA1 e (opd env x)
 | .buildSlice t len ps=>Z4 X env t len ps
 | .makeSlice t l c=>VI X t (opd env l) (opd env c)
 | .convert s d x=>match opd env x with | some a=>zBt X s d a | none=>none
 | .makeMap t none=>aMap X t
 | _=>none
def V2 (X:Cx)(t:TypeId)(p y:Option AV)(H:AH):Option (AV×AH):=
 match p with
 | some p=>match y with
  | some y=>match zBm X t p y H with | some H'=>some (jU,H') | none=>none
  | none=>none
 | none=>none
def dY (X:Cx)(t u:TypeId)(s x:Option AV)(H:AH):Option (AV×AH):=
 match s with
 | some a=>match x with
  | some b=>match X.und u with
   | some (.slice _)=>fS X t a b H
   | some .string=>fS X t a b H
   | some (.int _)=>zHO X t a b H
   | _=>none
  | none=>none
 | none=>none
def zGT (X:Cx)(t:TypeId)(s x:Option AV)(H:AH):Option (AV×AH):=
 match s with
 | some a=>match x with
  | some b=>zEv X t a b H
  | none=>none
 | none=>none
def uT (X:Cx)(env:Env)(b:Builtin)(args:List Operand)(a:List TypeId)(H:AH):Option (AV×AH):=
 match b with
 | .append=>match args with
  | [s,x]=>match a with
   | [t,u]=>dY X t u (opd env s) (opd env x) H
   | _=>none
  | _=>none
 | .copy=>match args with
  | [s,x]=>match a with
   | t::_=>zGT X t (opd env s) (opd env x) H
   | _=>none
  | _=>none
 | .delete=>match args with
  | [m,k]=>match a with
   | t::_=>c2 (opd env m) (opd env k) (adl X t · · H)
   | _=>none
  | _=>none
 | .clear=>match args with
  | [m]=>match a with
   | t::_=>c1 (opd env m) (acl X t · H)
   | _=>none
  | _=>none
 | _=>none
def aE (X:Cx)(env:Env)(H:AH):Op->Option (AV×AH)
 | .store t a x=>V2 X t (opd env a) (opd env x) H
 | .mapUpdate t m k v=>c3 (opd env m) (opd env k) (opd env v) (aup X t · · · H)
 | .call c=>match c.callee with
  | .builtin b=>uT X env b c.args.toList c.argTypes.toList H
  | _=>none
 | _=>none
def wV (H:AH)(r:Option AV):Option (AV×AH):=match r with | some x=>some (x,H) | none=>none
def wA (H:AH)(r:Option (AObj×(Nat->AV))):Option (AV×AH):=
 match r with
 | some (o,mk)=>match newA H o with
  | some (A,H')=>some (mk A,H')
  | none=>none
 | none=>none
def WJ (nt:Nat)(env:Env):Option Tmp->AV->Option (Env)
 | some d,v=>bif Nat.blt d nt then some (upd env d v)else none
 | none,_=>some env
def zEy:List Oper->Nat->Option Oper
 | x::_,0=>some x
 | _::l,n+1=>zEy l n
 | [],_=>none
def isW (x:AV)(a:Bool):Bool:=match x with | .bool b=>b==a | .val (.bool b)=>b==a | _=>false
def zEB (ops:Array Oper)(env:Env)(j:Nat)(a:Bool):Option Bool:=
 match zEy ops.toList j with
 | some p=>match p.dst with
  | some d=>match look env d with
   | some x=>some (isW x a)
   | none=>none
  | none=>some false
 | none=>some false
def aD (ops:Array Oper)(env:Env)(o:Oper):Option Bool:=
 match o.guard with
 | none=>some true
 | some (j,want)=>zEB ops env j want
def zCj (X:Cx)(env:Env)(H:AH):ResultVar->Option AV
 | .tmp t=>look env t
 | .cell a t=>b1 (look env a) (WC X t · H)
def cN (X:Cx)(env:Env)(H:AH):List ResultVar->Option (List AV)
 | []=>some []
 | r::rs=>match zCj X env H r with
  | some v=>match cN X env H rs with
   | some vs=>some (v::vs)
   | none=>none
  | none=>none
def zFS (a:List Nat)(es:List Edge):Nat:=es.foldl (fun s e=>bif Region.binds .any e then s||| 2 ^ e.on||| a.getD e.on 0 else s) 0
def xF:List Oper->List Nat->List Nat
 | [],acc=>acc
 | o::rest,acc=>xF rest (acc++[zFS acc o.after.toList])
def xE:Cls->Bool
 | .E=>true
 | .C=>true
 | _=>false
def tmpOf:Operand->Option Nat
 | .tmp t=>some t
 | _=>none
def dI (ops:Array Oper)(o:Oper):List Nat:=
 o.op.operands.toList.filterMap tmpOf++(match o.guard with
  | some (j,_)=>match zEy ops.toList j with
   | some p=>p.dst.toList
   | none=>[]
  | none=>[])
def gU (ops:Array Oper)(a b:Oper):Bool:=
 (match a.dst with | some d=>(dI ops b).contains d | none=>false)||(match b.dst with | some d=>(dI ops a).contains d | none=>false)
def zFE (X:Cx)(ops:Array Oper)(masks:List Nat)(a b:Nat×Oper):Bool:=
 (match a.2.dst,b.2.dst with | some d,some e=> !Nat.beq d e | _,_=>true)&&
 ((masks.getD b.1 0).testBit a.1|| !(xE (cls X a.2.op)||gU ops a.2 b.2))
def U5 (X:Cx)(ops:Array Oper)(masks:List Nat):List (Nat×Oper)->Bool
 | []=>true
 | a::l=>l.all (zFE X ops masks a)&&U5 X ops masks l
def zHs:List Oper->Nat->Bool
 | [],_=>true
 | o::l,n=>(o.after.toList.all fun e=>Nat.blt e.on n)&&fN (Nat.succ n) (zHs l)
def zBU (ops:Array Oper):Bool:=zHs ops.toList 0||Nat.beq (Region.linearise .any ops 0).length ops.size&&Nat.beq (Region.linearise .text ops 0).length ops.size&&Nat.beq (Region.linearise .gc ops 0).length ops.size
def zL3 (masks a:List Nat)(i:Nat):Nat:=(a.filter fun e=>(masks.getD i 0).testBit e).length
def rowOf (X:Cx)(ops:Array Oper)(masks:List Nat):List (Nat×Oper):=
 let l:=(List.range ops.size).filterMap fun i=>match zEy ops.toList i with | some o=>some (i,o) | none=>none
 let f:=(l.filter fun a=>xE (cls X a.2.op))
 let rest:=(l.filter fun a=> !xE (cls X a.2.op))
 let h:=f.map (·.1)
 (List.range (f.length+1)).flatMap fun s=>(rest.filter fun a=>Nat.beq (zL3 masks h a.1) s)++(match f[s]? with | some e=>[e] | none=>[])
def zCP:List Nat->Bool
 | []=>true
 | x::l=> !l.contains x&&zCP l
def zNj (X:Cx)(ops:Array Oper)(masks:List Nat)(row:List (Nat×Oper)):Bool:=
 zBU ops&&zCP (row.map (·.1))&&U5 X ops masks row&&(List.range ops.size).all (fun i=>(row.map (·.1)).contains i)&&row.all (fun a=>match zEy ops.toList a.1 with | some _=>true | none=>false)
def plan (X:Cx)(ops:Array Oper):Option (List (Nat×Oper)×List Nat):=
 let masks:=xF ops.toList []
 let row:=rowOf X ops masks
 bif zNj X ops masks row then some (row,masks)else none
inductive AExit where
 | normal
 | exit (id:Nat)
 | ret
structure Fns where
 call:FuncId->List AV->AH->Option (AV×AH)
 yld:Nat->List AV->AH->Option (AV×AH)
def opF (X:Cx)(r:Fns)(env:Env)(H:AH)(o:Op):Option (AV×AH):=
 match cls X o with
 | .P=>wV H (aP X env o)
 | .L=>wV H (aL X env H o)
 | .A=>wA H (aA X env o)
 | .E=>aE X env H o
 | .C=>callO r env H o
where
 callV (r:Fns) (H:AH) (f:Option AV) (a:Option (List AV)):Option (AV×AH):=
  match f with
  | some (.func g first cap)=>match a with
   | some a=>r.call g (first++a++cap) H
   | none=>none
  | some (.yT A)=>match a with
   | some a=>r.yld A a H
   | none=>none
  | _=>none
 callO (r:Fns) (env:Env) (H:AH):Op->Option (AV×AH)
  | .call c=>match c.callee with
   | .value f=>callV r H (opd env f) (zBy env c.args.toList)
   | _=>none
  | _=>none
structure Ent where
 i:Nat
 o:Oper
 want:Bool
 env:Env
 H:AH
 v:AV
 H':AH
def zGN (X:Cx)(r:Fns)(ops:Array Oper)(env:Env)(H:AH)(i:Nat)(o:Oper):Option Ent:=
 match aD ops env o with
 | some true=>match opF X r env H o.op with
  | some (v,H')=>some ⟨i,o,true,env,H,v,H'⟩
  | none=>none
 | some false=>some ⟨i,o,false,env,H,jU,H⟩
 | none=>none
theorem uP (a:B.min<=z)(f:z<=B.max):B.wrap z=z:=by
 cases B<;>simp[IntKind.wrap,IntKind.signed,IntKind.bits,IntKind.min,IntKind.max]at* <;>omega
theorem zIW (k:IntKind)(n:Int):zIX k n=k.wrap n:=by
 cases n with
 | ofNat m=>
  simp only[zIX]
  cases f:k.signed with
  | true=>
   simp only[zU]
   cases hb:Nat.blt m (zAy k)with
   | false=>rfl
   | true=>
    have a:m<zAy k:=by rw[<-qD];exact hb
    simp only[zU]
    symm
    apply uP<;>cases k<;>simp[IntKind.signed,zAy,IntKind.min,IntKind.max,IntKind.bits]at* <;>omega
  | false=>
   simp only[yM]
   cases k<;>simp[IntKind.signed,IntKind.wrap,IntKind.bits,YX]at*
 | negSucc m=>
  simp only[zIX]
  cases hb:(k.signed&&Nat.blt m (zAy k))with
  | false=>rfl
  | true=>
   simp only[zU];rw[zF]at hb;have a:m<zAy k:=by rw[<-qD];exact hb.2
   symm
   apply uP<;>cases k<;>simp[IntKind.signed,zAy,IntKind.min,IntKind.max,IntKind.bits]at* <;>omega
theorem uL (a b:Int):ilt a b=decide (a<b):=by
 cases a<;>cases b<;>simp only[ilt]<;>rw[yL]<;>simp[qD]<;>omega
theorem xS (a b:Int):ieq a b=(a==b):=by
 cases a<;>cases b<;>simp only[ieq]<;>rw[yL]<;>simp[zX]<;>omega
theorem xQ (a b:IntKind):keq a b=decide (a=b):=by
 cases a<;>cases b<;>rfl
theorem kI (n:Nat)(k:Nat->r):fN n k=k n:=by cases n<;>rfl
theorem zC6 (n:Int)(k:Int->r):fI n k=k n:=by cases n<;>simp[fI,kI]
theorem vZ (k:IntKind)(n:Int):mkI k n=some (.int k (k.wrap n)):=by simp[mkI,zC6,zIW]
theorem wC (b:Bool):mkB b=some (.bool b):=by cases b<;>rfl
theorem zAq (l b:Nat):mkS l b=some (.str l b):=by simp[mkS,kI]
theorem zFX (l:List AV)(n:Nat):aR l n=l.length+n:=by
 induction l generalizing n with
 | nil=>simp[aR]
 | cons x l ih=>simp[aR,ih];omega
theorem kG (l:List AV):aR l 0=l.length:=by rw[zFX];rfl
theorem ZG: ∀l m:List UInt8,l.length=m.length->pack l=pack m->l=m
 | [],[],_,_=>rfl
 | [],_::_,h,_=>by simp at h
 | _::_,[],h,_=>by simp at h
 | b::l,c::m,hl,h=>by
  have hb:b.toNat<256:=b.toNat_lt;have i:c.toNat<256:=c.toNat_lt;simp only[pack]at h;have a:b.toNat=c.toNat:=by omega
  have f:pack l=pack m:=by omega
  rw[UInt8.toNat_inj.1 a,ZG l m (by simpa using hl) f]
theorem pow8 (n:Nat):2 ^ (8*n)=256 ^ n:=by rw[Nat.pow_mul]
theorem zBQ (l m:List UInt8):pack (l++m)=pack l+pack m*256 ^ l.length:=by
 induction l with
 | nil=>simp[pack]
 | cons b l ih=>
  simp only[qF,pack,ih,zY,Nat.pow_succ];rw[Nat.mul_add,Nat.add_assoc,Nat.mul_left_comm 256 (pack m),Nat.mul_comm 256 (256 ^ l.length)]
theorem JY (l:List UInt8)(n:Nat):pack (l.drop n)=pack l / 256 ^ n:=by
 induction n generalizing l with
 | zero=>simp
 | succ n ih=>
  cases l with
  | nil=>simp[pack]
  | cons b l=>
   have hb:b.toNat<256:=b.toNat_lt;rw[List.drop_succ_cons,ih,pack,Nat.pow_succ,Nat.mul_comm (256 ^ n),<-Nat.div_div_eq_div_mul];congr 1;omega
theorem zAi (l:List UInt8)(n:Nat):pack (l.take n)=pack l % 256 ^ n:=by
 induction n generalizing l with
 | zero=>simp[pack,Nat.mod_one]
 | succ n ih=>
  cases l with
  | nil=>simp[pack]
  | cons b l=>
   have hb:b.toNat<256:=b.toNat_lt;have e:(b.toNat+256*pack l) / 256=pack l:=by omega
   rw[List.take_succ_cons,pack,pack,ih,Nat.pow_succ,Nat.mul_comm (256 ^ n),Nat.mod_mul,e];omega
theorem zCI (l:List UInt8)(i:Nat)(h:i<l.length):l[i].toNat=pack l / 256 ^ i % 256:=by
 rw[<-JY,qN h,pack];have hb:l[i].toNat<256:=l[i].toNat_lt;omega
theorem YT: ∀(l m:List UInt8),zA3 l.length (pack l) m.length (pack m)=Op.bytesLess l m
 | [],[]=>rfl
 | [],_::_=>rfl
 | b::l,[]=>rfl
 | b::l,c::m=>by
  have hb:b.toNat<256:=b.toNat_lt;have j:c.toNat<256:=c.toNat_lt;have a:pack (b::l) % 256=b.toNat:=by simp only[pack];omega
  have f:pack (c::m) % 256=c.toNat:=by simp only[pack];omega
  have h:pack (b::l) / 256=pack l:=by simp only[pack];omega
  have i:pack (c::m) / 256=pack m:=by simp only[pack];omega
  simp only[zY,zA3,Op.bytesLess,a,f,h,i,YT l m];congr 1
  .rw[yL];simp[qD,UInt8.lt_iff_toNat_lt]
  .congr 1;rw[yL];simp[zX,UInt8.toNat_inj]
theorem toList_data (s:ByteArray):s.toList=s.data.toList:=Lib.toList_data s
theorem size_data (s:ByteArray):s.data.toList.length=s.size:=by rw[yZ];rfl
theorem VP: ∀(n:Nat) (l r:List AV),takeN n l=some r->r=l.take n/\n<=l.length
 | 0,l,r,h=>by simp[takeN]at h;simp[<-h]
 | n+1,[],r,h=>by simp[takeN]at h
 | n+1,x::l,r,h=>by
  simp only[takeN]at h;split at h
  .rename_i a hr;obtain⟨rfl,f⟩:=VP n l a hr;simp only[zC]at h;subst h;simp[f]
  .simp at h
theorem d8: ∀(l:List AV) (o n:Nat) (r:List AV),uW l o n=some r->r=(l.drop o).take n/\(n=0\/o+n<=l.length)
 | l,0,n,r,h=>by
  cases l<;>(simp only[uW]at h;obtain⟨f,a⟩:=VP _ _ _ h;exact⟨by simpa using f, .inr (by omega)⟩)
 | x::l,o+1,n,r,h=>by
  simp only[uW]at h;obtain⟨f,a⟩:=d8 l o n r h;exact⟨by simpa using f,by rcases a with a | a<;>simp<;>omega⟩
 | [],o+1,n,r,h=>by
  simp only[uW,zG,zX]at h;split at h
  .simp only[zC]at h;subst h;simp_all
  .simp at h
theorem ZH: ∀(l:List AV) (n:Nat),nth l n=l[n]?
 | [],n=>by cases n<;>rfl
 | x::l,0=>rfl
 | x::l,n+1=>by simp[nth,ZH l n]
theorem zFG: ∀(l new r:List AV),over l new=some r->r=new++l.drop new.length/\new.length<=l.length
 | l,[],r,h=>by cases l<;>simp_all [over]
 | [],y::ys,r,h=>by simp[over]at h
 | x::l,y::ys,r,h=>by
  simp only[over]at h;split at h
  .rename_i a hr;obtain⟨rfl,f⟩:=zFG l ys a hr;simp only[zC]at h;subst h;simp[f]
  .simp at h
theorem VY: ∀(l:List AV) (n:Nat) (new r:List AV),setAt l n new=some r->r=l.take n++new++l.drop (n+new.length)/\n+new.length<=l.length
 | l,0,new,r,h=>by
  have a:over l new=some r:=by cases l<;>simpa only[setAt]using h
  obtain⟨rfl,f⟩:=zFG l new r a;exact⟨by simp,by omega⟩
 | x::l,n+1,new,r,h=>by
  simp only[setAt]at h;split at h
  .rename_i i hr;obtain⟨rfl,f⟩:=VY l n new i hr;simp only[zC]at h;subst h;refine⟨?_,by simp;omega⟩;rw[show n+1+new.length=(n+new.length)+1 from by omega];simp
  .simp at h
 | [],n+1,new,r,h=>by simp[setAt]at h
theorem zNl (n:Nat)(z:List AV):rep n z=(List.replicate n z).flatten:=by
 induction n with
 | zero=>rfl
 | succ n ih=>simp[rep,ih,List.replicate_succ]
theorem zFN: ∀(l:List (Nat×Nat)) (n:Nat),zK2 l n=l[n]?
 | [],n=>by cases n<;>rfl
 | x::l,0=>rfl
 | x::l,n+1=>by simp[zK2,zFN l n]
theorem zBS: ∀(l:List Field) (n:Nat),zLu l n=l[n]?
 | [],n=>by cases n<;>rfl
 | x::l,0=>rfl
 | x::l,n+1=>by simp[zLu,zBS l n]
theorem zBR: ∀(l:List Oper) (n:Nat),zEy l n=l[n]?
 | [],n=>by cases n<;>rfl
 | x::l,0=>rfl
 | x::l,n+1=>by simp[zEy,zBR l n]
mutual
theorem XF (R:Ren): ∀(v:Value) (x:AV),ofV v=some x->VR R x v
 | .bool b,x,h=>by simp only[ofV,zC]at h;subst h;simp[VR]
 | .int k n,x,h=>by simp only[ofV,zC]at h;subst h;simp[VR]
 | .string s,x,h=>by simp only[ofV,zC]at h;subst h;exact⟨s,rfl,(size_data s).symm,rfl⟩
 | .pointer none,x,h=>by simp only[ofV,zC]at h;subst h;simp[VR]
 | .pointer (some a),x,h=>by simp[ofV]at h
 | .slice none 0 0,x,h=>by simp only[ofV,zC]at h;subst h;simp[VR]
 | .slice none 0 (c+1),x,h=>by simp[ofV]at h
 | .slice none (n+1) c,x,h=>by simp[ofV]at h
 | .slice (some a) n c,x,h=>by simp[ofV]at h
 | .map none,x,h=>by simp only[ofV,zC]at h;subst h;simp[VR]
 | .map (some a),x,h=>by simp[ofV]at h
 | .nilFunc,x,h=>by simp only[ofV,zC]at h;subst h;simp[VR]
 | .nilIface,x,h=>by simp only[ofV,zC]at h;subst h;simp[VR]
 | .agg a,x,h=>by
  simp only[ofV]at h;split at h
  .rename_i l hl;simp only[zC]at h;subst h;exact⟨a.toList,rfl,zFM R a l hl⟩
  .simp at h
 | .tuple a,x,h=>by
  simp only[ofV]at h;split at h
  .rename_i l hl;simp only[zC]at h;subst h;exact⟨a.toList,rfl,zFM R a l hl⟩
  .simp at h
 | .float _ _,x,h=>by simp[ofV]at h
 | .complex _ _ _,x,h=>by simp[ofV]at h
 | .chan _,x,h=>by simp[ofV]at h
 | .func _ _ _,x,h=>by simp[ofV]at h
 | .iface _ _,x,h=>by simp[ofV]at h
theorem zFM (R:Ren): ∀(a:Array Value) (l:List AV),ofVA a=some l->VRL R l a.toList
 | ⟨m⟩,l,h=>by simp only[ofVA]at h;exact zFL R m l h
theorem zFL (R:Ren): ∀(m:List Value) (l:List AV),zNs m=some l->VRL R l m
 | [],l,h=>by simp only[zNs,zC]at h;subst h;rfl
 | v::m,l,h=>by
  simp only[zNs]at h;split at h
  .rename_i x xs hx hxs;simp only[zC]at h;subst h;exact⟨v,m,rfl,XF R v x hx,zFL R m xs hxs⟩
  .simp at h
end
theorem kP {R:Ren}{env:Env}{fr:Frame}(h:EnvR R env n fr.tmps): ∀(x:Operand) (a:AV),opd env x=some a->VR R a (fr.eval x)
 | .tmp t,a,e=>h.get t a e
 | .const v,a,e=>XF R v a e
 | .func f,a,e=>by simp only[opd,zC]at e;subst e;exact⟨[],[],rfl,rfl,rfl⟩
 | .global g,a,e=>by simp[opd]at e
theorem K1 {R:Ren}{env:Env}{n:Nat}{fr:Frame}(h:EnvR R env n fr.tmps): ∀(xs:List Operand) (a:List AV),zBy env xs=some a->VRL R a (xs.map fr.eval)
 | [],a,e=>by simp only[zBy,zC]at e;subst e;rfl
 | x::xs,a,e=>by
  simp only[zBy]at e;split at e
  .rename_i v vs i f;simp only[zC]at e;subst e;exact⟨_,_,rfl,kP h x v i,K1 h xs vs f⟩
  .simp at e
theorem EnvR.put {R:Ren}{env env':Env}(h:EnvR R env n G){dst:Option Tmp}{x:AV}(j:VR R x i)(a:WJ n env dst x=some env'):EnvR R env' n (zBx G dst i):=by
 cases dst with
 | none=>simp only[WJ,zC]at a;subst a;exact h
 | some d=>
  simp only[WJ,zG,qD]at a;split at a
  .rename_i hd;injection a with a;subst a
   have hl: ∀t,Eng.look (upd env d x) t=if t=d then some x else Eng.look env t:=fun t=>bD env d x t
   refine⟨by simp[zBx,h.size],fun t y f=> ?_,fun t m=> ?_⟩
   .rw[hl]at f;simp only[zBx];rw[qZ,Array.getElem?_setIfInBounds];by_cases e:t=d
    .subst e;rw[if_pos rfl]at f;injection f with f;subst f;rw[if_pos rfl,if_pos (by rw[h.size];exact hd)];exact j
    .rw[if_neg e]at f;rw[if_neg (Ne.symm e),<-qZ];exact h.get t y f
   .rw[hl,if_neg (by omega)];exact h.out t m
  .simp at a
def UL (P:Program)(rec:TypeId->Option (List Nat)):List Field->Nat->Option (List Nat)
 | [],_=>some []
 | f::fs,acc=>match rec f.type,P.info? f.type with
  | some k,some j=>bif !(f.name== "_")&&Nat.beq f.offset acc&&Nat.beq k.length j.size then
    match UL P rec fs (acc+j.size)with
    | some r=>some (k++r)
    | none=>none
   else none
  | _,_=>none
def fZ (P:Program):Nat->TypeId->Option (List Nat)
 | 0,_=>none
 | d+1,t=>match P.underlying t,P.info? t with
  | some .bool,some i=>bif Nat.beq i.size 1 then some [0]else none
  | some (.int k),some i=>bif Nat.beq i.size 1 then some [aS k]else none
  | some .string,some i=>bif Nat.beq i.size 1 then some [2]else none
  | some (.struct fs),some i=>bif !P.stoodInHeld t then
    match UL P (fZ P d) fs.toList 0 with
    | some r=>bif Nat.beq r.length i.size then some r else none
    | none=>none
   else none
  | some (.array len e),some i=>match fZ P d e,P.info? e with
   | some k,some j=>bif Nat.beq (len*j.size) i.size&&Nat.beq k.length j.size then some (List.replicate len k).flatten else none
   | _,_=>none
  | _,_=>none
def xK (P:Program)(t:TypeId):Bool:=match P.underlying t with
 | some (.struct _)=>true
 | some (.array _ _)=>true
 | _=>false
structure Ok (P:Program)(X:Cx):Prop where
 ty: ∀t i,X.ty.get t=some i->P.info? t=some i
 fl: ∀x∈X.fl,fZ P P.depth x.1=some x.2/\xK P x.1=true/\P.depth<=10000
 nm: ∀(f:FuncId) (g:Func),P.funcs[f]? =some g->(g.name== "runtime.NumGoroutine")=false
section
variable {P:Program}{X:Cx}(hX:Ok P X)
include hX
theorem Ok.und {t:TypeId}{d:TypeDesc}(h:X.und t=some d):P.underlying t=some d:=by
 simp only[Cx.und]at h;split at h
 .rename_i i hi;have f:=hX.ty _ _ hi;split at h
  .rename_i s u hd;split at h
   .rename_i j o;simp only[zC]at h;subst h;have p:=hX.ty _ _ o;obtain⟨q⟩:=i;simp only at hd;subst hd;simp[Program.underlying,f,p]
   .simp at h
  .rename_i q m;simp only[zC]at h;subst h;unfold Program.underlying;rw[f];split
   .rename_i a;simp only[zC]at a;subst a;exact absurd rfl (m _ _)
   .rename_i a;simp only[zC]at a;subst a;rfl
   .rename_i a;simp at a
 .simp at h
theorem Ok.size {t:TypeId}{n:Nat}(h:X.size t=some n): ∃i,P.info? t=some i/\i.size=n:=by
 simp only[Cx.size]at h;split at h
 .rename_i i hi;simp only[zC]at h;exact⟨i,hX.ty _ _ hi,h⟩
 .simp at h
theorem Ok.run_und (t:X.und h=some L)(w:World):(underlying h).run P w= .ok L w:=run_underlying (hX.und t) w
theorem Ok.run_size (t:X.size h=some n)(w:World):(sizeOf h).run P w= .ok n w:=by
 obtain⟨i,a,f⟩:=hX.size t;simp[sizeOf,typeInfo,a,f]
theorem Ok.run_isAgg (t:X.und h=some L)(w:World):(isAgg h).run P w= .ok (fU L) w:=by
 unfold isAgg;simp only[zH,hX.run_und t,Result.andThen]
 cases L<;>rfl
theorem Ok.zero (R:Ren){t:TypeId}{x:AV}(h:cQ X t=some x): ∃i v,P.info? t=some i/\i.zero=some v/\VR R x v:=by
 simp only[cQ]at h;split at h
 .rename_i i hi;split at h
  .rename_i z a;exact⟨i,z,hX.ty _ _ hi,a,XF R z x h⟩
  .simp at h
 .simp at h
theorem Ok.run_zero (R:Ren){x:AV}(t:cQ X h=some x)(w:World): ∃v,(zeroValue h).run P w= .ok v w/\VR R x v:=by
 obtain⟨i,v,a,f,j⟩:=hX.zero R t;exact⟨v,by simp[zeroValue,typeInfo,a,f],j⟩
end
theorem zED {R:Ren} : ∀l:List Value,VRL R (l.map AV.val) l
 | []=>rfl
 | v::l=>⟨v,l,rfl,rfl,zED l⟩
theorem uB {R:Ren} : ∀ {x:AV} {v:Value},VR R x v->VRL R (kF x) v.cells.toList:=by
 intro x v h
 cases x with
 | agg l=>obtain⟨l',rfl,i⟩:=h;exact i
 | bool b=>simp only[VR]at h;subst h;exact⟨_,_,rfl,by simp[VR],rfl⟩
 | int k n=>simp only[VR]at h;subst h;exact⟨_,_,rfl,by simp[VR],rfl⟩
 | str n b=>obtain⟨s,rfl,i⟩:=h;exact⟨_,_,rfl,⟨s,rfl,i⟩,rfl⟩
 | nP=>simp only[VR]at h;subst h;exact⟨_,_,rfl,by simp[VR],rfl⟩
 | ptr A o=>obtain⟨b,d,c,i,rfl⟩:=h;exact⟨_,_,rfl,⟨b,d,c,i,rfl⟩,rfl⟩
 | nS=>simp only[VR]at h;subst h;exact⟨_,_,rfl,by simp[VR],rfl⟩
 | slice A o n cc=>obtain⟨b,d,c,i,rfl⟩:=h;exact⟨_,_,rfl,⟨b,d,c,i,rfl⟩,rfl⟩
 | eS=>obtain⟨a,c,rfl⟩:=h;exact⟨_,_,rfl,⟨a,c,rfl⟩,rfl⟩
 | nM=>simp only[VR]at h;subst h;exact⟨_,_,rfl,by simp[VR],rfl⟩
 | map A=>obtain⟨b,d,c,i,rfl⟩:=h;exact⟨_,_,rfl,⟨b,d,c,i,rfl⟩,rfl⟩
 | func f xs ys=>obtain⟨j,m,rfl,i,p⟩:=h;exact⟨_,_,rfl,⟨j,m,rfl,i,p⟩,rfl⟩
 | yT A=>obtain⟨b,d,c,i,rfl⟩:=h;exact⟨_,_,rfl,⟨b,d,c,i,rfl⟩,rfl⟩
 | nilFunc=>simp only[VR]at h;subst h;exact⟨_,_,rfl,by simp[VR],rfl⟩
 | iface t x=>obtain⟨q,rfl,i⟩:=h;exact⟨_,_,rfl,⟨q,rfl,i⟩,rfl⟩
 | nilIface=>simp only[VR]at h;subst h;exact⟨_,_,rfl,by simp[VR],rfl⟩
 | tuple l=>obtain⟨l',rfl,i⟩:=h;exact⟨_,_,rfl,⟨l',rfl,i⟩,rfl⟩
 | val x=>simp only[VR]at h;subst h;exact zED _
def zNr:Value->Prop
 | .agg _=>False
 | .tuple _=>False
 | _=>True
theorem zG2 {R:Ren}{x:AV}(h:VR R x i)(j:isCell x=true):zNr i:=by
 cases x with
 | agg l=>simp[isCell]at j
 | tuple l=>simp[isCell]at j
 | bool b=>simp only[VR]at h;subst h;trivial
 | int k n=>simp only[VR]at h;subst h;trivial
 | str n b=>obtain⟨s,rfl,v⟩:=h;trivial
 | nP=>simp only[VR]at h;subst h;trivial
 | ptr A o=>obtain⟨b,d,c,v,rfl⟩:=h;trivial
 | nS=>simp only[VR]at h;subst h;trivial
 | slice A o n cc=>obtain⟨b,d,c,v,rfl⟩:=h;trivial
 | eS=>obtain⟨a,c,rfl⟩:=h;trivial
 | nM=>simp only[VR]at h;subst h;trivial
 | map A=>obtain⟨b,d,c,v,rfl⟩:=h;trivial
 | func f xs ys=>obtain⟨m,p,rfl,v,q⟩:=h;trivial
 | yT A=>obtain⟨b,d,c,v,rfl⟩:=h;trivial
 | nilFunc=>simp only[VR]at h;subst h;trivial
 | iface t x=>obtain⟨u,rfl,v⟩:=h;trivial
 | nilIface=>simp only[VR]at h;subst h;trivial
 | val x=>simp[isCell]at j
theorem bL {R:Ren} : ∀ {l:List AV} {m:List Value},VRL R l m->jV l=true-> ∀v∈m,zNr v
 | [],m,h,_=>by simp only[VRL]at h;subst h;simp
 | x::l,m,h,hc=>by
  obtain⟨j,o,rfl,f,i⟩:=h;simp only[jV,zF]at hc;intro v a;rcases zO.1 a with rfl | a
  .exact zG2 f hc.1
  .exact bL i hc.2 v a
theorem xH (b o n:Nat):(⟨b,o,none⟩:Addr).add n=⟨b,o+n,none⟩:=by
 unfold Addr.add;split
 .subst_vars;rfl
 .rfl
theorem Z6 (w:World)(b:Nat)(x y:Obj):vX (vX w b x) b y=vX w b y:=by
 simp[vX]
theorem JC (w:World)(b:Nat)(x:Obj)(h:w.heap[b]? =some x):vX w b x=w:=by
 have:w.heap.setIfInBounds b x=w.heap:=by
  apply Array.ext_getElem?;intro i;rw[Array.getElem?_setIfInBounds];split
  .subst_vars
   split
   .exact h.symm
   .rename_i a;rw[Array.getElem?_eq_none (by omega)]
  .rfl
 simp[vX,this]
theorem zA9 (w:World)(b o:Nat)(v:Value)(arr:Array Value)(e:TypeId)(f:Nat×Nat)(h:w.heap[b]? =some (.cells arr e f)):
  w.setCell ⟨b,o,none⟩ v=vX w b (.cells (arr.setIfInBounds o v) e f):=by
 have hb:b<w.heap.size:=by
  rcases Nat.lt_or_ge b w.heap.size with a | a
  .exact a
  .rw[Array.getElem?_eq_none a]at h;cases h
 unfold World.setCell vX;congr 1;apply Array.ext_getElem?;intro i;rw[Array.getElem?_modify,Array.getElem?_setIfInBounds];by_cases e:b=i
 .subst e;rw[if_pos rfl,if_pos rfl,h,if_pos hb];rfl
 .rw[if_neg e,if_neg e]
def xC (arr:Array Value)(o:Nat):List Value->Array Value
 | []=>arr
 | v::vs=>xC (arr.setIfInBounds o v) (o+1) vs
theorem u9 (vs:List Value): ∀(arr:Array Value) (o:Nat),(xC arr o vs).size=arr.size:=by
 induction vs with
 | nil=>intro arr o;rfl
 | cons v vs ih=>intro arr o;simp[xC,ih]
theorem xG (vs:List Value): ∀(arr:Array Value) (o:Nat),o+vs.length<=arr.size->(xC arr o vs).toList=arr.toList.take o++vs++arr.toList.drop (o+vs.length):=by
 induction vs with
 | nil=>intro arr o h;simp[xC]
 | cons v vs ih=>
  intro arr o h;simp only[zY]at h;rw[xC,ih _ _ (by simp;omega)];have f:o<arr.toList.length:=by rw[yZ];omega
  rw[Array.toList_setIfInBounds];have a:(arr.toList.set o v).take (o+1)=arr.toList.take o++[v]:=by
   rw[List.take_set,List.set_eq_take_append_cons_drop];simp[List.take_take];omega
  rw[a];simp only[qH,List.singleton_append,zY];rw[List.drop_set_of_lt (by omega)];rw[show o+1+vs.length=o+(vs.length+1)from by omega]
theorem cW {P:Program}(e:TypeId)(a:Nat×Nat)(b o:Nat): ∀(vs:List Value) (i:Nat) (w:World) (arr:Array Value),w.heap[b]? =some (.cells arr e a)->o+i+vs.length<=arr.size->(∀v∈vs,zNr v)->
  (∀k,k<arr.size-> ¬(a.1<=k/\k<a.2))->(storeCells ⟨b,o,none⟩ vs i).run P w= .ok () (vX w b (.cells (xC arr (o+i) vs) e a)):=by
 intro vs
 induction vs with
 | nil=>intro i w arr h _ _ _;simp[storeCells,xC,JC w b _ h,zL]
 | cons v vs ih=>
  intro i w arr h hl f j;simp only[zY]at hl;have hb:b<w.heap.size:=by
   rcases Nat.lt_or_ge b w.heap.size with f | f
   .exact f
   .rw[Array.getElem?_eq_none f]at h;cases h
  have q:w.cell? ⟨b,o+i,none⟩=some arr[o+i]:=by
   simp[World.cell?,h,Array.getElem?_eq_getElem (show o+i<arr.size by omega)]
  have s:w.frozen? ⟨b,o+i,none⟩=false:=by
   simp only[World.frozen?,h];rw[yA];intro m;simp only[zF,zQ]at m;exact j (o+i) (by omega) m
  have p:(store (⟨b,o+i,none⟩:Addr) v).run P w= .ok () (w.setCell ⟨b,o+i,none⟩ v):=by
   have t:=f v (zJ ..)
   cases v<;>first | exact t.elim | simp[store,Sem.run,q,s]
  have x:(vX w b (.cells (arr.setIfInBounds (o+i) v) e a)).heap[b]? =some (.cells (arr.setIfInBounds (o+i) v) e a):=bC _ _ _ hb;rw[storeCells,zH,xH,p,zA9 w b _ v arr e a h];simp only[Result.andThen];rw[ih (i+1) _ _ x (by simp;omega) (fun u y=>f u (zE _ y)) (by simpa using j),Z6,xC,show o+(i+1)=o+i+1 from by omega]
theorem zFd {l new r:List AV}(h:(bif Nat.blt 0 n then setAt l E new else none)=some r):setAt l E new=some r/\0<n:=by
 rw[zG]at h;split at h
 .rename_i a;exact⟨h,by simpa using a⟩
 .simp at h
section
variable {R:Ren}{H:AH}{w:World}{A b d c:Nat}{l:List AV}{e:TypeId}{sz:Nat}{g:Bool}
theorem Rel.cellsAt (h:Rel R H w)(j:H.h.get A=some (.cells l e sz g))(hR:R A b d c): ∃(arr:Array Value) (a:Nat×Nat) (pre l' f:List Value),w.heap[b]? =some (.cells arr e a)/\arr.toList=pre++(l'++f)/\pre.length=d/\VRL R l l'/\
   (g=false->f=[]/\(0<sz->a=(0,0))/\(sz=0->c=enc a))/\(g=true->l'.length+f.length=c*sz/\c<9223372036854775808)/\(0<sz-> ∀i,i<arr.size-> ¬(a.1<=i/\i<a.2))/\ ∃m,VRL R m f:=h.obj _ _ _ _ _ hR j
theorem Rel.live (a:H.h.get A=some (.cells l e sz g)):YL H A:=⟨_,a,trivial⟩
theorem Rel.cell (h:Rel R H w)(j:H.h.get A=some (.cells l e sz g))(hR:R A b d c){o:Nat}{x:AV}(m:l[o]? =some x): ∃v,w.cell? ⟨b,d+o,none⟩=some v/\VR R x v:=by
 obtain⟨arr,u,pre,l',t,p,q,y,s,_⟩:=h.cellsAt j hR;obtain⟨v,a,f⟩:=VRL.get l l' s o x m;refine⟨v, ?_,f⟩;simp only[World.cell?,p,Option.isSome_none,zM,qE];have i:o<l'.length:=(qP.1 a).1;rw[<-yX,q,jC (by omega),show d+o - pre.length=o from by omega,j5 i];exact a
theorem Rel.loads (h:Rel R H w)(s:H.h.get A=some (.cells l e sz g))(hR:R A b d c){P:Program}{r:List AV}(hr:uW l n E=some r):
  ∃vs:List Value,(loadCells ⟨b,d+n,none⟩ E).run P w= .ok vs.toArray w/\VRL R r vs/\vs.length=E:=by
 obtain⟨m,y⟩:=d8 _ _ _ _ hr;obtain⟨arr,F,pre,l',x,t,u,G,i,_⟩:=h.cellsAt s hR;have z:=zOE l l' i;have p:VRL R r ((l'.drop n).take E):=by rw[m];exact(i.drop n).take E
 have f:((l'.drop n).take E).length=E:=by
  rw[qC,qJ];omega
 refine⟨(l'.drop n).take E, ?_,p,f⟩;have hl:=run_loadCells_list (P:=P) w ⟨b,d+n,none⟩ ((l'.drop n).take E) (fun j v a=>by
  have C:=(qP.1 a).1;rw[xH];simp only[World.cell?,t,Option.isSome_none,zM,qE];rw[jJ (by omega),jL]at a;have q:n+j<l'.length:=(qP.1 a).1;rw[<-yX,u,jC (by omega),show d+n+j - pre.length=n+j from by omega,j5 q];exact a)
 rw[f]at hl;exact hl
theorem Rel.stores (h:Rel R H w)(s:H.h.get A=some (.cells l e sz g))(hR:R A b d c){P:Program}{new r:List AV}(J:setAt l n new=some r)(f:0<sz)(j:VRL R new I)(K:jV new=true)
  {m:T AObj} (t:T.set 40 H.h A (.cells r e sz g)=some m):
  ∃p,(storeCells ⟨b,d+n,none⟩ I).run P w= .ok () p/\Rel R ⟨m,H.next⟩ p/\Ext R H w R ⟨m,H.next⟩ p:=by
 obtain⟨hr,S⟩:=VY _ _ _ _ J;obtain⟨arr,u,pre,l',a,L,v,M,q,h5,x,y,N⟩:=h.cellsAt s hR;have U:=zOE l l' q;have F:=zOE new I j;have V:arr.size=d+l'.length+a.length:=by
  have:=congrArg List.length v;simp at this;omega
 have C:=cW (P:=P) e u b (d+n) I 0 w arr L (by omega) (bL j K) (y f);refine⟨_,C, ?_,Ext.put hR t⟩;refine h.put hR (Rel.live s) t ?_;have G:(xC arr (d+n+0) I).toList=pre++((l'.take n++I++l'.drop (n+I.length))++a):=by
  rw[xG _ _ _ (by omega),v];have O:(pre++(l'++a)).take (d+n+0)=pre++l'.take n:=by
   rw[List.take_append,zZ (by omega),List.take_append];rw[show d+n+0 - pre.length=n from by omega];rw[show n - l'.length=0 from by omega];simp
  have Q:(pre++(l'++a)).drop (d+n+0+I.length)=l'.drop (n+I.length)++a:=by
   rw[List.drop_append,qS (by omega),List.drop_append];rw[show d+n+0+I.length - pre.length=n+I.length from by omega];rw[show n+I.length - l'.length=0 from by omega];simp
  rw[O,Q];simp
 refine⟨xC arr (d+n+0) I,u,pre,l'.take n++I++l'.drop (n+I.length),a,rfl,G,M, ?_,h5, ?_, ?_,N⟩
 .rw[hr];have o:VRL R (l.drop (n+new.length)) (l'.drop (n+I.length)):=by rw[F];exact q.drop _
  exact((q.take n).append j).append o
 .intro z;refine⟨?_,(x z).2⟩;have:=(x z).1;rw[<-this];simp;omega
 .intro f i hi;rw[u9]at hi;exact y f i hi
end
def RFn (R:Ren):Prop:= ∀A b d c a d' c',R A b d c->R A a d' c'->b=a/\d=d'/\c=c'
theorem zJo (hm:n<YX B)(h:E<YX B):(BitVec.ofInt B.bits (Int.ofNat n)&&& BitVec.ofInt B.bits (Int.ofNat E)).toNat=Nat.land n E:=by
 have a:(BitVec.ofInt B.bits (Int.ofNat n)).toNat=n:=by
  cases B<;>simp[BitVec.toNat_ofInt,IntKind.bits,YX]at* <;>omega
 have f:(BitVec.ofInt B.bits (Int.ofNat E)).toNat=E:=by
  cases B<;>simp[BitVec.toNat_ofInt,IntKind.bits,YX]at* <;>omega
 rw[BitVec.toNat_and,a,f];rfl
theorem zMu (hm:n<YX B)(h:E<YX B):(BitVec.ofInt B.bits (Int.ofNat n)||| BitVec.ofInt B.bits (Int.ofNat E)).toNat=Nat.lor n E:=by
 have a:(BitVec.ofInt B.bits (Int.ofNat n)).toNat=n:=by
  cases B<;>simp[BitVec.toNat_ofInt,IntKind.bits,YX]at* <;>omega
 have f:(BitVec.ofInt B.bits (Int.ofNat E)).toNat=E:=by
  cases B<;>simp[BitVec.toNat_ofInt,IntKind.bits,YX]at* <;>omega
 rw[BitVec.toNat_or,a,f];rfl
theorem zJn (hm:n<YX B)(h:E<YX B):(BitVec.ofInt B.bits (Int.ofNat n) ^^^ BitVec.ofInt B.bits (Int.ofNat E)).toNat=Nat.xor n E:=by
 have a:(BitVec.ofInt B.bits (Int.ofNat n)).toNat=n:=by
  cases B<;>simp[BitVec.toNat_ofInt,IntKind.bits,YX]at* <;>omega
 have f:(BitVec.ofInt B.bits (Int.ofNat E)).toNat=E:=by
  cases B<;>simp[BitVec.toNat_ofInt,IntKind.bits,YX]at* <;>omega
 rw[BitVec.toNat_xor,a,f];rfl
theorem cO {b:Int}{r:AV}(h:aZ.slow C B z b=some r) : ∃n,r= .int B n/\(Op.intBits C B z b).run q t= .ok (.int B n) t:=by
 cases C<;>simp only[aZ.slow,zC6,zC]at h<;>first | (subst h;exact⟨_,rfl,rfl⟩) | (simp at h)
theorem JA {b:Int}{r:AV}(h:aZ C B z b=some r){P:Program}{w:World} : ∃n,r= .int B n/\(Op.intBits C B z b).run P w= .ok (.int B n) w:=by
 unfold aZ at h;split at h
 .rename_i m n;rw[zG]at h;split at h
  .rename_i f;simp only[zF,qD]at f;rw[vZ,zC]at h;subst h;refine⟨_,rfl, ?_⟩;simp only[Op.intBits,zJo f.1.2 f.2];rfl
  .exact cO h
 .rename_i m n;rw[zG]at h;split at h
  .rename_i f;simp only[zF,qD]at f;rw[vZ,zC]at h;subst h;refine⟨_,rfl, ?_⟩;simp only[Op.intBits,zMu f.1.2 f.2];rfl
  .exact cO h
 .rename_i m n;rw[zG]at h;split at h
  .rename_i f;simp only[zF,qD]at f;rw[vZ,zC]at h;subst h;refine⟨_,rfl, ?_⟩;simp only[Op.intBits,zJn f.1.2 f.2];rfl
  .exact cO h
 .exact cO h
theorem zJF {k':IntKind}{b:Int}{r:AV}(k:bO C B z k' b=some r)(R:Ren):
  ∃i,(binOp C h (.int B z) (.int k' b)).run q t= .ok i t/\VR R r i:=by
 cases C
 case shl=>
  cases b with
  | negSucc m=>simp[bO]at k
  | ofNat m=>
   simp only[bO,vZ,zC]at k;subst k;refine⟨_, ?_,rfl⟩;simp[binOp,Op.shift,zL,Nat.min_def];intro o;omega
 case shr=>
  cases b with
  | negSucc m=>simp[bO]at k
  | ofNat m=>
   simp only[bO,zC6,zC]at k;subst k;refine⟨_, ?_,rfl⟩;simp[binOp,Op.shift,zL,Nat.min_def];intro o;omega
 all_goals
  simp only[bO,xQ]at k;rw[zG]at k;split at k
  rotate_left
  .simp at k
  rename_i j;simp only[zQ]at j;subst j
 case add=>rw[vZ,zC]at k;subst k;exact⟨_,by simp[binOp,Op.intArith,zL],rfl⟩
 case sub=>rw[vZ,zC]at k;subst k;exact⟨_,by simp[binOp,Op.intArith,zL],rfl⟩
 case mul=>rw[vZ,zC]at k;subst k;exact⟨_,by simp[binOp,Op.intArith,zL],rfl⟩
 case quo=>
  rw[xS,zG]at k;split at k
  .simp at k
  .rename_i hb;rw[vZ,zC]at k;subst k;have f: ¬b=0:=by simpa using hb
   exact⟨_,by simp[binOp,Op.intDiv,f,zL],rfl⟩
 case rem=>
  rw[xS,zG]at k;split at k
  .simp at k
  .rename_i hb;rw[zC6,zC]at k;subst k;have f: ¬b=0:=by simpa using hb
   exact⟨_,by simp[binOp,Op.intDiv,f,zL],rfl⟩
 case and=>obtain⟨n,rfl,hr⟩:=JA (P:=q) (w:=t) k;exact⟨_,by simp[binOp,hr],rfl⟩
 case or=>obtain⟨n,rfl,hr⟩:=JA (P:=q) (w:=t) k;exact⟨_,by simp[binOp,hr],rfl⟩
 case xor=>obtain⟨n,rfl,hr⟩:=JA (P:=q) (w:=t) k;exact⟨_,by simp[binOp,hr],rfl⟩
 case andNot=>obtain⟨n,rfl,hr⟩:=JA (P:=q) (w:=t) k;exact⟨_,by simp[binOp,hr],rfl⟩
 case eql=>rw[wC,zC,xS]at k;subst k;exact⟨_,by simp[binOp,Op.intCmp,zL],rfl⟩
 case neq=>rw[wC,zC,xS]at k;subst k;exact⟨_,by simp[binOp,Op.intCmp,zL];rfl,rfl⟩
 case lss=>rw[wC,zC,uL]at k;subst k;exact⟨_,by simp[binOp,Op.intCmp,zL],rfl⟩
 case leq=>
  rw[wC,zC,uL]at k;subst k;refine⟨.bool (decide (z<=b)),by simp[binOp,Op.intCmp,zL], ?_⟩;simp only[VR,Value.bool.injEq];rw[yL];simp
 case gtr=>rw[wC,zC,uL]at k;subst k;exact⟨.bool (decide (b<z)),by simp[binOp,Op.intCmp,zL],rfl⟩
 case geq=>
  rw[wC,zC,uL]at k;subst k;refine⟨.bool (decide (b<=z)),by simp[binOp,Op.intCmp,zL], ?_⟩;simp only[VR,Value.bool.injEq];rw[yL];simp
theorem zF1 (s u:ByteArray):(Nat.beq s.size u.size&&Nat.beq (pack s.data.toList) (pack u.data.toList))=(s.data.toList==u.data.toList):=by
 rw[yL];simp only[zF,zX,beq_iff_eq];constructor
 .rintro⟨h1,h2⟩
  exact ZG _ _ (by rw[size_data,size_data];exact h1) h2
 .intro h;refine⟨?_,by rw[h]⟩;rw[<-size_data,<-size_data,h]
theorem zJD {s u:ByteArray}{r:AV}(a:zBu C s.size (pack s.data.toList) u.size (pack u.data.toList)=some r)(R:Ren):
  ∃z,(binOp C h (.string s) (.string u)).run q t= .ok z t/\VR R r z:=by
 have hl:zA3 s.size (pack s.data.toList) u.size (pack u.data.toList)=Op.bytesLess s.data.toList u.data.toList:=by
  rw[<-size_data,<-size_data];exact YT _ _
 cases C<;>simp only[zBu,zF1,hl]at a
 case add=>
  rw[zG]at a;split at a
  .rename_i f;rw[qD]at f;rw[zAq,zC]at a;subst a;refine⟨.string (s++u), ?_,s++u,rfl,ByteArray.size_append, ?_⟩
   .have: ¬(((s.size+u.size:Nat):Int)>IntKind.i64.max):=by
     simp only[IntKind.max,IntKind.signed,IntKind.bits];simp;omega
    simp only[binOp,Op.stringOp];rw[if_neg this];rfl
   .rw[ByteArray.data_append,Array.toList_append,zBQ,size_data,pow8]
  .simp at a
 case eql=>rw[wC,zC]at a;subst a;exact⟨_,by simp[binOp,Op.stringOp,toList_data,zL],rfl⟩
 case neq=>rw[wC,zC]at a;subst a;exact⟨_,by simp[binOp,Op.stringOp,toList_data,zL],rfl⟩
 case lss=>rw[wC,zC]at a;subst a;exact⟨_,by simp[binOp,Op.stringOp,toList_data,zL],rfl⟩
 case leq=>rw[wC,zC]at a;subst a;exact⟨_,by simp[binOp,Op.stringOp,toList_data,zL],rfl⟩
 case gtr=>rw[wC,zC]at a;subst a;exact⟨_,by simp only[binOp,Op.stringOp,toList_data];rfl,rfl⟩
 case geq=>rw[wC,zC]at a;subst a;exact⟨_,by simp[binOp,Op.stringOp,toList_data,zL],rfl⟩
 all_goals simp at a
theorem bytes_beq (s t:ByteArray):(s==t)=(s.data.toList==t.data.toList):=by
 have h:(s==t)=(s.data==t.data):=rfl;rw[h,yL];simp[<-Array.toList_inj]
section
variable {P:Program}{X:Cx}(hX:Ok P X){R:Ren}(hR:RFn R){w:World}
include hX hR
theorem zKJ {m:Nat}{x y:AV}(t:aeq X n h x y=some Y)(a:VR R x i)(f:VR R y s):(Op.equalIn (m+1) h i s).run P w= .ok Y w:=by
 cases n with
 | zero=>simp[aeq]at t
 | succ n=>
  simp only[aeq]at t;split at t
  .rename_i hd;have e:=hX.run_und hd w
   cases x<;>cases y<;>simp at t
   simp only[VR]at a f;subst a f t;simp[Op.equalIn,zH,e,zL]
  .rename_i hd;have e:=hX.run_und hd w
   cases x<;>cases y<;>simp[zG,xQ,xS]at t
   obtain⟨rfl,rfl⟩:=t;simp only[VR]at a f;subst a f;simp[Op.equalIn,zH,e,zL]
  .rename_i hd;have e:=hX.run_und hd w
   cases x<;>cases y<;>simp at t
   obtain⟨u,rfl,rfl,rfl⟩:=a;obtain⟨z,rfl,rfl,rfl⟩:=f;rw[<-t,zF1 u z,<-bytes_beq];simp[Op.equalIn,zH,e,zL]
  .rename_i o hd;have e:=hX.run_und hd w
   cases x<;>cases y<;>simp at t
   .simp only[VR]at a f;subst a f t;simp[Op.equalIn,zH,e,zL]
   .simp only[VR]at a;obtain⟨b1,j,c1,v,rfl⟩:=f;subst a t;simp[Op.equalIn,zH,e,zL]
   .simp only[VR]at f;obtain⟨b1,j,c1,v,rfl⟩:=a;subst f t;simp[Op.equalIn,zH,e,zL]
   .obtain⟨b1,j,c1,v,rfl⟩:=a;obtain⟨b2,L,c2,C,rfl⟩:=f;split at t
    .simp at t
    .rename_i k F G;have es:=hX.run_size G w;rw[zG]at t;split at t
     .rename_i p;rw[zX]at p;subst p;obtain⟨rfl,rfl,rfl⟩:=hR _ _ _ _ _ _ _ v C;simp only[zC]at t;subst t;have q: ¬k=0:=fun I=>F (by rw[I])
      simp only[Op.equalIn,zH,e,es,Result.andThen,ne_eq,q,yQ,if_true,sameAddr,beq_self_eq_true];simp only[zL];congr 1;rw[yL];simp[zX]
     .simp at t
    .simp at t
  .rename_i o hd;have e:=hX.run_und hd w
   cases x<;>cases y<;>simp at t
   .simp only[VR]at a f;subst a f t;simp[Op.equalIn,zH,e,zL]
   .simp only[VR]at a;obtain⟨b1,j,c1,v,rfl⟩:=f;subst a t;simp[Op.equalIn,zH,e,zL]
   .simp only[VR]at f;obtain⟨b1,j,c1,v,rfl⟩:=a;subst f t;simp[Op.equalIn,zH,e,zL]
  .rename_i o K hd;have e:=hX.run_und hd w
   cases x<;>cases y<;>simp at t
   .simp only[VR]at a f;subst a f t;simp[Op.equalIn,zH,e,zL]
   .simp only[VR]at a;obtain⟨b1,j,c1,v,rfl⟩:=f;subst a t;simp[Op.equalIn,zH,e,zL]
   .simp only[VR]at f;obtain⟨b1,j,c1,v,rfl⟩:=a;subst f t;simp[Op.equalIn,zH,e,zL]
  .rename_i M N O hd;have e:=hX.run_und hd w
   cases x<;>cases y<;>simp at t
   .obtain⟨xs,J,rfl,_⟩:=a;simp only[VR]at f;subst f t;simp[Op.equalIn,zH,e,zL]
   .simp only[VR]at a;obtain⟨xs,J,rfl,_⟩:=f;subst a t;simp[Op.equalIn,zH,e,zL]
   .simp only[VR]at a f;subst a f t;simp[Op.equalIn,zH,e,zL]
  .simp at t
end
theorem zAC {b:IntKind}(h:aS B=aS b):B=b:=by cases B<;>cases b<;>simp[aS]at h<;>rfl
theorem bT (a:IntKind):3<=aS a:=by cases a<;>simp[aS]
def vEq (q:Nat)(x y:Value):Option Bool:=
 match x,y with
 | .bool a, .bool b=>if q=0 then some (a==b)else none
 | .int k a, .int k' b=>if q=aS k/\k=k' then some (a==b)else none
 | .string a, .string b=>if q=2 then some (a==b)else none
 | _,_=>none
def WU:List Nat->List Value->List Value->Option Bool
 | [],[],[]=>some true
 | q::qs,x::xs,y::ys=>match vEq q x y with
  | some true=>WU qs xs ys
  | some false=>some false
  | none=>none
 | _,_,_=>none
theorem aG: ∀(f:List Nat) (rs:List Nat) (a b c d:List Value),a.length=f.length->b.length=f.length->WU (f++rs) (a++c) (b++d)=(match WU f a b with | some true=>WU rs c d | some false=>some false | none=>none)
 | [],rs,a,b,c,d,h1,h2=>by
  have:a=[]:=zR h1;have:b=[]:=zR h2;subst a b;simp[WU]
 | q::f,rs,x::a,y::b,c,d,h1,h2=>by
  simp only[qF,WU]
  cases vEq q x y with
  | none=>rfl
  | some r=>cases r with
   | false=>rfl
   | true=>exact aG f rs a b c d (by simpa using h1) (by simpa using h2)
 | _::_,_,[],_,_,_,h,_=>by simp at h
 | _::_,_,_::_,[],_,_,_,h=>by simp at h
theorem zBd {R:Ren}{x y:AV}(h:zBe n x y=some Y)(a:VR R x i)(f:VR R y s):vEq n i s=some Y:=by
 unfold zBe at h;split at h
 .simp only[zG,zX]at h;simp only[VR]at a f;subst a f;exact h
 .simp only[zG,xQ,zF,zX,zQ]at h;simp only[VR]at a f;subst a f;simp only[vEq];rw[xS]at h;exact h
 .simp only[zG,zX]at h;obtain⟨v,rfl,rfl,rfl⟩:=a;obtain⟨q,rfl,rfl,rfl⟩:=f;rw[zF1]at h;simp only[vEq];rw[bytes_beq];exact h
 .simp at h
theorem V9 {R:Ren} : ∀ {f:List Nat} {xs i:List AV} {vs a:List Value} {b:Bool},uI f xs i=some b->VRL R xs vs->VRL R i a->WU f vs a=some b
 | [],[],[],vs,a,b,h,hv,hu=>by simp only[VRL]at hv hu;subst hv hu;exact h
 | q::f,x::xs,y::i,vs,a,b,h,hv,hu=>by
  obtain⟨v,vs',rfl,j,o⟩:=hv;obtain⟨u,s,rfl,m,p⟩:=hu;simp only[uI]at h;simp only[WU];split at h
  .rename_i e;rw[zBd e j m];exact V9 h o p
  .rename_i e;rw[zBd e j m];exact h
  .simp at h
 | [],[],_::_,_,_,_,h,_,_=>by simp[uI]at h
 | [],_::_,_,_,_,_,h,_,_=>by simp[uI]at h
 | _::_,[],_,_,_,_,h,_,_=>by simp[uI]at h
 | _::_,_::_,[],_,_,_,h,_,_=>by simp[uI]at h
section
variable {P:Program}
def EqF (P:Program)(m:Nat)(t:TypeId)(a:List Nat):Prop:=
 ∀(w:World) (xs f:Array Value) (off:Nat) (b:Bool),off+a.length<=xs.size->off+a.length<=f.size->WU a ((xs.toList.drop off).take a.length) ((f.toList.drop off).take a.length)=some b->
  ∃x y,(part t xs off).run P w= .ok x w/\(part t f off).run P w= .ok y w/\(Op.equalIn m t x y).run P w= .ok b w
theorem ZE {xs:Array Value}{n:Nat} :xs.toList.drop E=(xs.toList.drop E).take n++xs.toList.drop (E+n):=by
 rw[<-List.drop_drop,qV]
theorem VZ (h:n+E<=G.size):((G.toList.drop n).take E).length=E:=by
 simp;omega
theorem ZU {m:Nat}{xs i:Array Value}{n:Nat}(J:xs.size=n)(K:i.size=n){rec:TypeId->Option (List Nat)}(q: ∀t k,rec t=some k->EqF P m t k): ∀(fs:List Field) (a:Nat) (r:List Nat) (b:Bool) (w:World),UL P rec fs a=some r->a+r.length=n->
  WU r (xs.toList.drop a) (i.toList.drop a)=some b->(Op.eqFields m xs i fs).run P w= .ok b w
 | [],a,r,b,w,h,hn,hb=>by
  simp only[UL,zC]at h;subst h;have L:xs.toList.drop a=[]:=qS (by simp at hn⊢;omega);have M:i.toList.drop a=[]:=qS (by simp at hn⊢;omega);rw[L,M]at hb;simp only[WU,zC]at hb;subst hb;simp[Op.eqFields]
 | f::fs,a,r,b,w,h,hn,hb=>by
  simp only[UL]at h;split at h
  .rename_i k j z S;rw[zG]at h;split at h
   .rename_i C;simp only[zF,j6,zX]at C;obtain⟨⟨N,F⟩,O⟩:=C;split at h
    .rename_i Q G;simp only[zC]at h;subst h;simp only[zV]at hn;have s:a+k.length<=xs.size:=by omega
     have u:a+k.length<=i.size:=by omega
     rw[ZE (n:=k.length),ZE (xs:=i) (n:=k.length),aG _ _ _ _ _ _ (VZ s) (VZ u)]at hb
     have I:f.name≠ "_":=by simpa using N
     simp only[Op.eqFields,if_pos I];split at hb
     .rename_i e;obtain⟨x,y,o,p,v⟩:=q _ _ z w xs i a true s u e;rw[<-F]at o p;simp only[zH,o,p,v,Result.andThen_ok];simpa using ZU J K q fs (a+j.size) Q b w G (by omega) (by rw[<-O];exact hb)
     .rename_i e;obtain⟨x,y,o,p,v⟩:=q _ _ z w xs i a false s u e;rw[<-F]at o p;simp only[zC]at hb;subst hb;simp[zH,o,p,v]
     .simp at hb
    .simp at h
   .simp at h
  .simp at h
theorem YG {m c:Nat}{k:List Nat}{e:TypeId}{xs a:Array Value}(s:k.length=c)(j:EqF P m e k): ∀(n i:Nat) (b:Bool) (w:World),xs.size=(i+n)*c->a.size=(i+n)*c->
  WU (List.replicate n k).flatten (xs.toList.drop (i*c)) (a.toList.drop (i*c))=some b->(Op.eqItems m e c xs a (List.range' i n)).run P w= .ok b w
 | 0,i,b,w,hx,hy,hb=>by
  have t:xs.toList.drop (i*c)=[]:=qS (by simp;rw[hx];simp);have u:a.toList.drop (i*c)=[]:=qS (by simp;rw[hy];simp);rw[t,u]at hb;simp only[List.replicate_zero,List.flatten_nil,WU,zC]at hb;subst hb;simp[Op.eqItems]
 | n+1,i,b,w,hx,hy,hb=>by
  subst s;have v:(i+(n+1))*k.length=i*k.length+k.length+n*k.length:=by rw[jB,jB];omega
  have f:i*k.length+k.length<=xs.size:=by omega
  have h:i*k.length+k.length<=a.size:=by omega
  have hi:i*k.length+k.length=(i+1)*k.length:=by rw[jB];omega
  rw[List.replicate_succ,List.flatten_cons,ZE (n:=k.length),ZE (xs:=a) (n:=k.length),aG _ _ _ _ _ _ (VZ f) (VZ h)]at hb;simp only[List.range'_succ,Op.eqItems];split at hb
  .rename_i e;obtain⟨x,y,o,p,q⟩:=j w xs a (i*k.length) true f h e;simp only[zH,o,p,q,Result.andThen_ok];have:=YG rfl j n (i+1) b w (by rw[hx];congr 1;omega) (by rw[hy];congr 1;omega) (by rw[<-hi];exact hb);simpa using this
  .rename_i e;obtain⟨x,y,o,p,q⟩:=j w xs a (i*k.length) false f h e;simp only[zC]at hb;subst hb;simp[zH,o,p,q]
  .simp at hb
theorem BA: ∀(d:Nat) (t:TypeId) (o:List Nat),fZ P d t=some o-> ∀m,d<=m->
  EqF P m t o/\ ∀(w:World) (xs a:Array Value) (b:Bool),xK P t=true->xs.size=o.length->a.size=o.length->WU o xs.toList a.toList=some b->(Op.equalIn m t (.agg xs) (.agg a)).run P w= .ok b w
 | 0,t,o,h,_,_=>by simp[fZ]at h
 | d+1,t,o,h,m,hm=>by
  obtain⟨m,rfl⟩: ∃m',m=m'+1:=⟨m - 1,by omega⟩;have Z:=BA d;have T:xK P t=true->(∀i,P.info? t=some i->i.size=o.length)->(∀(w:World) (xs a:Array Value) (b:Bool),xs.size=o.length->a.size=o.length->WU o xs.toList a.toList=some b->(Op.equalIn (m+1) t (.agg xs) (.agg a)).run P w= .ok b w)->
    (∃i,P.info? t=some i)->EqF P (m+1) t o:=by
   intro F a0 v ⟨i,hi⟩ w xs a off b I J hb;have a1:=a0 i hi;have U: ∀w,(sizeOf t).run P w= .ok o.length w:=fun w=>by simp[sizeOf,typeInfo,hi,a1]
   have M: ∀p:Array Value,off+o.length<=p.size->(p.extract off (off+o.length)).toList=(p.toList.drop off).take o.length/\(p.extract off (off+o.length)).size=o.length:=by
    intro p hz;refine⟨by rw[Array.toList_extract];simp[List.extract],by simp;omega⟩
   have K:(isAgg t).run P w= .ok true w:=by
    unfold xK at F;split at F
    .rename_i fs f;simp[isAgg,zH,run_underlying f]
    .rename_i n e f;simp[isAgg,zH,run_underlying f]
    .simp at F
   refine⟨.agg (xs.extract off (off+o.length)), .agg (a.extract off (off+o.length)), ?_, ?_, ?_⟩
   .simp[part,zH,K,U]
   .simp[part,zH,K,U]
   .refine v w _ _ b (M xs I).2 (M a J).2 ?_;rw[(M xs I).1,(M a J).1];exact hb
  have Q: ∀q,o=[q]->(∃u,P.underlying t=some u/\fU u=false)->(∀w x y b,vEq q x y=some b->(Op.equalIn (m+1) t x y).run P w= .ok b w)->EqF P (m+1) t o:=by
   intro q a2 ⟨u,f,F⟩ hq w xs a off b I J hb;subst a2;simp only[jI]at I J hb;have K:(isAgg t).run P w= .ok false w:=by
    cases u<;>first | (simp[fU]at F;done) | simp[isAgg,zH,run_underlying f]
   have hg: ∀p:Array Value,off+1<=p.size-> ∃z,p[off]? =some z/\(p.toList.drop off).take 1=[z]:=by
    intro p hz;have a3:off<p.size:=hz;refine⟨p[off],by simp, ?_⟩;rw[qN (by simpa using a3)];simp
   obtain⟨x,x1,x2⟩:=hg xs I;obtain⟨y,y1,y2⟩:=hg a J;rw[x2,y2]at hb;have a4:vEq q x y=some b:=by
    simp only[WU]at hb;split at hb
    .rename_i e;rw[e];exact hb
    .rename_i e;rw[e];exact hb
    .simp at hb
   exact⟨x,y,by simp[part,zH,K,x1],by simp[part,zH,K,y1],hq w x y b a4⟩
  unfold fZ at h;split at h
  .rename_i j f s;rw[zG]at h;split at h
   .simp only[zC]at h;subst h;refine⟨Q 0 rfl ⟨_,f,rfl⟩ (fun w x y b hb=> ?_),fun _ _ _ _ L=>by simp[xK,f]at L⟩
    cases x<;>cases y<;>simp[vEq]at hb
    .subst hb;simp[Op.equalIn,zH,run_underlying f]
    .rename_i k1 n1 k2 n2;have:=bT k1;omega
   .simp at h
  .rename_i k j f s;rw[zG]at h;split at h
   .simp only[zC]at h;subst h;refine⟨Q (aS k) rfl ⟨_,f,rfl⟩ (fun w x y b hb=> ?_),fun _ _ _ _ L=>by simp[xK,f]at L⟩;have a6:=bT k
    cases x<;>cases y<;>simp[vEq]at hb
    .omega
    .obtain⟨⟨_,h2⟩,rfl⟩:=hb;subst h2;simp[Op.equalIn,zH,run_underlying f]
    .omega
   .simp at h
  .rename_i j f s;rw[zG]at h;split at h
   .simp only[zC]at h;subst h;refine⟨Q 2 rfl ⟨_,f,rfl⟩ (fun w x y b hb=> ?_),fun _ _ _ _ L=>by simp[xK,f]at L⟩
    cases x<;>cases y<;>simp[vEq]at hb
    .rename_i k1 n1 k2 n2;have:=bT k1;omega
    .subst hb;simp[Op.equalIn,zH,run_underlying f]
   .simp at h
  .rename_i fs j f s;rw[zG]at h;split at h
   .rename_i V;simp only[j6]at V;split at h
    .rename_i r hr;rw[zG]at h;split at h
     .rename_i G;rw[zX]at G;simp only[zC]at h;subst h;have S:xK P t=true:=by simp[xK,f]
      have v: ∀(w:World) (xs a:Array Value) (b:Bool),xs.size=r.length->a.size=r.length->WU r xs.toList a.toList=some b->(Op.equalIn (m+1) t (.agg xs) (.agg a)).run P w= .ok b w:=by
       intro w xs a b N O hb;have W:P.fieldsOf t=fs:=by simp[Program.fieldsOf,f]
       rw[run_equalIn_struct w m t xs a (by rw[W];exact f) V,W];exact ZU N O (rec:=fZ P d) (fun t' k h1=>(Z t' k h1 m (by omega)).1) fs.toList 0 r b w hr (by omega) (by simpa using hb)
      exact⟨T S (fun i hi=>by rw[s]at hi;injection hi with hi;subst hi;exact G.symm) v ⟨j,s⟩,fun w xs a b _=>v w xs a b⟩
     .simp at h
    .simp at h
   .simp at h
  .rename_i len e j f s;split at h
   .rename_i k ei hk Y;rw[zG]at h;split at h
    .rename_i C;simp only[zF,zX]at C;simp only[zC]at h;subst h;have S:xK P t=true:=by simp[xK,f]
     have a5:P.cellsOf e=ei.size:=by simp[Program.cellsOf,Y]
     have G:(List.replicate len k).flatten.length=len*k.length:=by simp
     have v: ∀(w:World) (xs a:Array Value) (b:Bool),xs.size=(List.replicate len k).flatten.length->a.size=(List.replicate len k).flatten.length->WU (List.replicate len k).flatten xs.toList a.toList=some b->(Op.equalIn (m+1) t (.agg xs) (.agg a)).run P w= .ok b w:=by
      intro w xs a b N O hb;rw[run_equalIn_array w m xs a f Y,a5,List.range_eq_range'];rw[G]at N O;exact YG C.2 (Z e k hk m (by omega)).1 len 0 b w (by rw[N,C.2];simp) (by rw[O,C.2];simp) (by simpa using hb)
     exact⟨T S (fun i hi=>by rw[s]at hi;injection hi with hi;subst hi;rw[G,C.2,C.1]) v ⟨j,s⟩,fun w xs a b _=>v w xs a b⟩
    .simp at h
   .simp at h
  .simp at h
theorem zAH {rec:TypeId->Option (List Nat)} : ∀ {fs:List Field} {i:Nat} {r:List Nat},UL P rec fs i=some r-> ∀f∈fs,∃k,rec f.type=some k
 | [],_,_,_,f,a=>by simp at a
 | g::fs,i,r,h,f,a=>by
  simp only[UL]at h;split at h
  .rename_i k j o p;rcases zO.1 a with rfl | a
   .exact⟨k,o⟩
   .rw[zG]at h;split at h
    .split at h
     .rename_i q m;exact zAH m f a
     .simp at h
    .simp at h
  .simp at h
theorem XL: ∀(d:Nat) (t:TypeId) (f:List Nat),fZ P d t=some f-> ∀m,d<=m->P.eqGuardType m t=false
 | 0,t,f,h,_,_=>by simp[fZ]at h
 | d+1,t,f,h,m,hm=>by
  obtain⟨m,rfl⟩: ∃q,m=q+1:=⟨m - 1,by omega⟩;have p:=XL d;unfold fZ at h;unfold Program.eqGuardType;split at h
  .rename_i a _;simp[a]
  .rename_i a _;simp[a]
  .rename_i a _;simp[a]
  .rename_i fs j a s;rw[zG]at h;split at h
   .split at h
    .rename_i r hr;simp only[a];rw[Array.any_eq_false];intro i hi;obtain⟨k,o⟩:=zAH hr fs[i] (by simp);rw[p _ _ o m (by omega)];simp
    .simp at h
   .simp at h
  .rename_i len e j a s;split at h
   .rename_i k v o u;simp only[a];exact p _ _ o m (by omega)
   .simp at h
  .simp at h
end
theorem wD {oy:Operand}(P: ∀a,i≠ .agg a)(w:i≠ .nilIface):(eqGuard C h m oy i s).run q t= .ok () t:=by
 cases C<;>first
  | rfl
  | (cases i<;>first | (exact absurd rfl (P _)) | (exact absurd rfl w) | rfl)
section
variable {P:Program}{X:Cx}(hX:Ok P X){R:Ren}(hR:RFn R){w:World}
include hX hR
theorem vS {x y r:AV}(a:zBv X C h x y=some r)(f:VR R x i)(t:VR R y s)
  (j: ∀k n,i≠ .int k n) (o: ∀v,i≠ .string v) (p: ∀k n,i≠ .float k n) (q: ∀k n m,i≠ .complex k n m): ∃z,(binOp C h i s).run P w= .ok z w/\VR R r z:=by
 unfold zBv at a;split at a
 .split at a
  .rename_i b hb;rw[wC,zC]at a;subst a;have e:=zKJ hX hR (w:=w) (m:=9999) hb f t;refine⟨.bool b, ?_,rfl⟩;have:binOp .eql h i s=(do pure (.bool (← Op.equal h i s)):Sem Value):=by
    cases i<;>first | (exact absurd rfl (j _ _)) | (exact absurd rfl (o _)) | (exact absurd rfl (p _ _)) | (exact absurd rfl (q _ _ _)) | rfl
   rw[this];simp only[Op.equal,Op.maxDepth,zH,e,Result.andThen];rfl
  .simp at a
 .split at a
  .rename_i b hb;rw[wC,zC]at a;subst a;have e:=zKJ hX hR (w:=w) (m:=9999) hb f t;refine⟨.bool !b, ?_,rfl⟩;have:binOp .neq h i s=(do pure (.bool (!(← Op.equal h i s))):Sem Value):=by
    cases i<;>first | (exact absurd rfl (j _ _)) | (exact absurd rfl (o _)) | (exact absurd rfl (p _ _)) | (exact absurd rfl (q _ _ _)) | rfl
   rw[this];simp only[Op.equal,Op.maxDepth,zH,e,Result.andThen];rfl
  .simp at a
 .simp at a
omit hR in
theorem zJG {oy:Operand}{a b:List AV}{r:AV}(t:zHM X C h a b=some r)(j:VR R (.agg a) i)(ox:VR R (.agg b) s):
  (eqGuard C h m oy i s).run P w= .ok () w/\ ∃z,(binOp C h i s).run P w= .ok z w/\VR R r z:=by
 obtain⟨vs,rfl,j⟩:=j;obtain⟨F,rfl,ox⟩:=ox;unfold zHM at t;split at t
 .rename_i G f;have o:(h,G)∈X.fl:=by
   generalize X.fl=l at f
   induction l with
   | nil=>simp[zC3]at f
   | cons x l ih=>
    obtain⟨v,ks⟩:=x;simp only[zC3,zG,zX]at f;split at f
    .rename_i e;simp only[zC]at f;subst e f;simp
    .exact zE _ (ih f)
  obtain⟨q,I,J⟩:=hX.fl _ o;rw[zG]at t;split at t
  .rename_i K;simp only[zF,zX,kG]at K;have L:=zOE _ _ j;have M:=zOE _ _ ox;split at t
   .rename_i p hb;have u:=(BA _ _ _ q 10000 J).2 w ⟨vs⟩ ⟨F⟩ p I (by simp;omega) (by simp;omega) (V9 hb j ox);have y:=XL _ _ _ q P.depth (zP _);split at t
    .rw[wC,zC]at t;subst t;refine⟨by simp[eqGuard,zH,program,Sem.run,y], .bool p, ?_,rfl⟩;rw[run_eql_struct,u];rfl
    .rw[wC,zC]at t;subst t;refine⟨by simp[eqGuard,zH,program,Sem.run,y], .bool !p, ?_,rfl⟩;rw[run_neq_struct,u];rfl
    .simp at t
   .simp at t
  .simp at t
 .simp at t
theorem zHL {ox oy:Operand}{x y r:AV}(v:zHN X C h x y=some r)(a:VR R x i)(f:VR R y s):
  (eqGuard C h ox oy i s).run P w= .ok () w/\ ∃z,(binOp C h i s).run P w= .ok z w/\VR R r z:=by
 unfold zHN at v;split at v
 .simp only[VR]at a f;subst a f;exact⟨wD (by simp) (by simp),zJF v R⟩
 .obtain⟨u,rfl,rfl,rfl⟩:=a;obtain⟨p,rfl,rfl,rfl⟩:=f;exact⟨wD (by simp) (by simp),zJD v R⟩
 .exact zJG hX v a f
 .rw[zG]at v;split at v
  .rename_i o
   cases x<;>first | (simp[wP]at o;done) | skip
   case bool=>have e:=a;simp only[VR]at e;subst e;exact⟨wD (by simp) (by simp),vS hX hR v a f (by simp) (by simp) (by simp) (by simp)⟩
   case nP=>have e:i= .pointer none:=a;subst e;exact⟨wD (by simp) (by simp),vS hX hR v a f (by simp) (by simp) (by simp) (by simp)⟩
   case ptr=>obtain⟨b1,j,c1,m,rfl⟩:=id a;exact⟨wD (by simp) (by simp),vS hX hR v a f (by simp) (by simp) (by simp) (by simp)⟩
   case nS=>have e:i= .slice none 0 0:=a;subst e;exact⟨wD (by simp) (by simp),vS hX hR v a f (by simp) (by simp) (by simp) (by simp)⟩
   case slice=>obtain⟨b1,j,c1,m,rfl⟩:=id a;exact⟨wD (by simp) (by simp),vS hX hR v a f (by simp) (by simp) (by simp) (by simp)⟩
   case eS=>obtain⟨q,c1,rfl⟩:=id a;exact⟨wD (by simp) (by simp),vS hX hR v a f (by simp) (by simp) (by simp) (by simp)⟩
   case nM=>have e:i= .map none:=a;subst e;exact⟨wD (by simp) (by simp),vS hX hR v a f (by simp) (by simp) (by simp) (by simp)⟩
   case map=>obtain⟨b1,j,c1,m,rfl⟩:=id a;exact⟨wD (by simp) (by simp),vS hX hR v a f (by simp) (by simp) (by simp) (by simp)⟩
   case func=>obtain⟨xs,t,rfl,_⟩:=id a;exact⟨wD (by simp) (by simp),vS hX hR v a f (by simp) (by simp) (by simp) (by simp)⟩
   case yT=>obtain⟨b1,j,c1,m,rfl⟩:=id a;exact⟨wD (by simp) (by simp),vS hX hR v a f (by simp) (by simp) (by simp) (by simp)⟩
   case nilFunc=>have e:i= .nilFunc:=a;subst e;exact⟨wD (by simp) (by simp),vS hX hR v a f (by simp) (by simp) (by simp) (by simp)⟩
  .simp at v
end
mutual
theorem Y4: ∀(x y:AV),aveq x y=true->x=y
 | .bool a, .bool b,h=>by simp[aveq]at h;rw[h]
 | .int k a, .int k' b,h=>by simp[aveq,xQ,xS]at h;rw[h.1,h.2]
 | .str l b, .str m c,h=>by simp[aveq]at h;rw[h.1,h.2]
 | .nP, .nP,_=>rfl
 | .ptr a o, .ptr b p,h=>by simp[aveq]at h;rw[h.1,h.2]
 | .nS, .nS,_=>rfl
 | .slice a b c d, .slice a' b' c' d',h=>by simp[aveq]at h;rw[h.1.1.1,h.1.1.2,h.1.2,h.2]
 | .nM, .nM,_=>rfl
 | .map a, .map b,h=>by simp[aveq]at h;rw[h]
 | .func f a b, .func g c d,h=>by simp[aveq]at h;rw[h.1.1,Q5 a c h.1.2,Q5 b d h.2]
 | .yT a, .yT b,h=>by simp[aveq]at h;rw[h]
 | .nilFunc, .nilFunc,_=>rfl
 | .iface t x, .iface u y,h=>by simp[aveq]at h;rw[h.1,Y4 x y h.2]
 | .nilIface, .nilIface,_=>rfl
 | .agg a, .agg b,h=>by simp[aveq]at h;rw[Q5 a b h]
 | .tuple a, .tuple b,h=>by simp[aveq]at h;rw[Q5 a b h]
 | .eS,y,h=>by cases y<;>first | rfl | (simp[aveq]at h)
 | .val _, .val _,h | .val _, .bool _,h | .val _, .int _ _,h | .val _, .str _ _,h | .val _, .nP,h | .val _, .ptr _ _,h | .val _, .nS,h | .val _, .slice _ _ _ _,h | .val _, .eS,h | .val _, .nM,h | .val _, .map _,h | .val _, .func _ _ _,h | .val _, .yT _,h | .val _, .nilFunc,h | .val _, .iface _ _,h | .val _, .nilIface,h | .val _, .agg _,h | .val _, .tuple _,h=>by simp[aveq]at h
 | .bool _, .val _,h | .int _ _, .val _,h | .str _ _, .val _,h | .nP, .val _,h | .ptr _ _, .val _,h | .nS, .val _,h | .slice _ _ _ _, .val _,h | .nM, .val _,h | .map _, .val _,h | .func _ _ _, .val _,h | .yT _, .val _,h | .nilFunc, .val _,h | .iface _ _, .val _,h | .nilIface, .val _,h | .agg _, .val _,h | .tuple _, .val _,h=>by simp[aveq]at h
 | .bool _, .int _ _,h | .bool _, .str _ _,h | .bool _, .nP,h | .bool _, .ptr _ _,h | .bool _, .nS,h | .bool _, .slice _ _ _ _,h | .bool _, .eS,h | .bool _, .nM,h | .bool _, .map _,h | .bool _, .func _ _ _,h | .bool _, .yT _,h | .bool _, .nilFunc,h | .bool _, .iface _ _,h | .bool _, .nilIface,h | .bool _, .agg _,h | .bool _, .tuple _,h=>by simp[aveq]at h
 | .int _ _, .bool _,h | .int _ _, .str _ _,h | .int _ _, .nP,h | .int _ _, .ptr _ _,h | .int _ _, .nS,h | .int _ _, .slice _ _ _ _,h | .int _ _, .eS,h | .int _ _, .nM,h | .int _ _, .map _,h | .int _ _, .func _ _ _,h | .int _ _, .yT _,h | .int _ _, .nilFunc,h | .int _ _, .iface _ _,h | .int _ _, .nilIface,h | .int _ _, .agg _,h | .int _ _, .tuple _,h=>by simp[aveq]at h
 | .str _ _, .bool _,h | .str _ _, .int _ _,h | .str _ _, .nP,h | .str _ _, .ptr _ _,h | .str _ _, .nS,h | .str _ _, .slice _ _ _ _,h | .str _ _, .eS,h | .str _ _, .nM,h | .str _ _, .map _,h | .str _ _, .func _ _ _,h | .str _ _, .yT _,h | .str _ _, .nilFunc,h | .str _ _, .iface _ _,h | .str _ _, .nilIface,h | .str _ _, .agg _,h | .str _ _, .tuple _,h=>by simp[aveq]at h
 | .nP, .bool _,h | .nP, .int _ _,h | .nP, .str _ _,h | .nP, .ptr _ _,h | .nP, .nS,h | .nP, .slice _ _ _ _,h | .nP, .eS,h | .nP, .nM,h | .nP, .map _,h | .nP, .func _ _ _,h | .nP, .yT _,h | .nP, .nilFunc,h | .nP, .iface _ _,h | .nP, .nilIface,h | .nP, .agg _,h | .nP, .tuple _,h=>by simp[aveq]at h
 | .ptr _ _, .bool _,h | .ptr _ _, .int _ _,h | .ptr _ _, .str _ _,h | .ptr _ _, .nP,h | .ptr _ _, .nS,h | .ptr _ _, .slice _ _ _ _,h | .ptr _ _, .eS,h | .ptr _ _, .nM,h | .ptr _ _, .map _,h | .ptr _ _, .func _ _ _,h | .ptr _ _, .yT _,h | .ptr _ _, .nilFunc,h | .ptr _ _, .iface _ _,h | .ptr _ _, .nilIface,h | .ptr _ _, .agg _,h | .ptr _ _, .tuple _,h=>by simp[aveq]at h
 | .nS, .bool _,h | .nS, .int _ _,h | .nS, .str _ _,h | .nS, .nP,h | .nS, .ptr _ _,h | .nS, .slice _ _ _ _,h | .nS, .eS,h | .nS, .nM,h | .nS, .map _,h | .nS, .func _ _ _,h | .nS, .yT _,h | .nS, .nilFunc,h | .nS, .iface _ _,h | .nS, .nilIface,h | .nS, .agg _,h | .nS, .tuple _,h=>by simp[aveq]at h
 | .slice _ _ _ _, .bool _,h | .slice _ _ _ _, .int _ _,h | .slice _ _ _ _, .str _ _,h | .slice _ _ _ _, .nP,h | .slice _ _ _ _, .ptr _ _,h | .slice _ _ _ _, .nS,h | .slice _ _ _ _, .eS,h | .slice _ _ _ _, .nM,h | .slice _ _ _ _, .map _,h | .slice _ _ _ _, .func _ _ _,h | .slice _ _ _ _, .yT _,h | .slice _ _ _ _, .nilFunc,h | .slice _ _ _ _, .iface _ _,h | .slice _ _ _ _, .nilIface,h | .slice _ _ _ _, .agg _,h | .slice _ _ _ _, .tuple _,h=>by simp[aveq]at h
 | .nM, .bool _,h | .nM, .int _ _,h | .nM, .str _ _,h | .nM, .nP,h | .nM, .ptr _ _,h | .nM, .nS,h | .nM, .slice _ _ _ _,h | .nM, .eS,h | .nM, .map _,h | .nM, .func _ _ _,h | .nM, .yT _,h | .nM, .nilFunc,h | .nM, .iface _ _,h | .nM, .nilIface,h | .nM, .agg _,h | .nM, .tuple _,h=>by simp[aveq]at h
 | .map _, .bool _,h | .map _, .int _ _,h | .map _, .str _ _,h | .map _, .nP,h | .map _, .ptr _ _,h | .map _, .nS,h | .map _, .slice _ _ _ _,h | .map _, .eS,h | .map _, .nM,h | .map _, .func _ _ _,h | .map _, .yT _,h | .map _, .nilFunc,h | .map _, .iface _ _,h | .map _, .nilIface,h | .map _, .agg _,h | .map _, .tuple _,h=>by simp[aveq]at h
 | .func _ _ _, .bool _,h | .func _ _ _, .int _ _,h | .func _ _ _, .str _ _,h | .func _ _ _, .nP,h | .func _ _ _, .ptr _ _,h | .func _ _ _, .nS,h | .func _ _ _, .slice _ _ _ _,h | .func _ _ _, .eS,h | .func _ _ _, .nM,h | .func _ _ _, .map _,h | .func _ _ _, .yT _,h | .func _ _ _, .nilFunc,h | .func _ _ _, .iface _ _,h | .func _ _ _, .nilIface,h | .func _ _ _, .agg _,h | .func _ _ _, .tuple _,h=>by simp[aveq]at h
 | .yT _, .bool _,h | .yT _, .int _ _,h | .yT _, .str _ _,h | .yT _, .nP,h | .yT _, .ptr _ _,h | .yT _, .nS,h | .yT _, .slice _ _ _ _,h | .yT _, .eS,h | .yT _, .nM,h | .yT _, .map _,h | .yT _, .func _ _ _,h | .yT _, .nilFunc,h | .yT _, .iface _ _,h | .yT _, .nilIface,h | .yT _, .agg _,h | .yT _, .tuple _,h=>by simp[aveq]at h
 | .nilFunc, .bool _,h | .nilFunc, .int _ _,h | .nilFunc, .str _ _,h | .nilFunc, .nP,h | .nilFunc, .ptr _ _,h | .nilFunc, .nS,h | .nilFunc, .slice _ _ _ _,h | .nilFunc, .eS,h | .nilFunc, .nM,h | .nilFunc, .map _,h | .nilFunc, .func _ _ _,h | .nilFunc, .yT _,h | .nilFunc, .iface _ _,h | .nilFunc, .nilIface,h | .nilFunc, .agg _,h | .nilFunc, .tuple _,h=>by simp[aveq]at h
 | .iface _ _, .bool _,h | .iface _ _, .int _ _,h | .iface _ _, .str _ _,h | .iface _ _, .nP,h | .iface _ _, .ptr _ _,h | .iface _ _, .nS,h | .iface _ _, .slice _ _ _ _,h | .iface _ _, .eS,h | .iface _ _, .nM,h | .iface _ _, .map _,h | .iface _ _, .func _ _ _,h | .iface _ _, .yT _,h | .iface _ _, .nilFunc,h | .iface _ _, .nilIface,h | .iface _ _, .agg _,h | .iface _ _, .tuple _,h=>by simp[aveq]at h
 | .nilIface, .bool _,h | .nilIface, .int _ _,h | .nilIface, .str _ _,h | .nilIface, .nP,h | .nilIface, .ptr _ _,h | .nilIface, .nS,h | .nilIface, .slice _ _ _ _,h | .nilIface, .eS,h | .nilIface, .nM,h | .nilIface, .map _,h | .nilIface, .func _ _ _,h | .nilIface, .yT _,h | .nilIface, .nilFunc,h | .nilIface, .iface _ _,h | .nilIface, .agg _,h | .nilIface, .tuple _,h=>by simp[aveq]at h
 | .agg _, .bool _,h | .agg _, .int _ _,h | .agg _, .str _ _,h | .agg _, .nP,h | .agg _, .ptr _ _,h | .agg _, .nS,h | .agg _, .slice _ _ _ _,h | .agg _, .eS,h | .agg _, .nM,h | .agg _, .map _,h | .agg _, .func _ _ _,h | .agg _, .yT _,h | .agg _, .nilFunc,h | .agg _, .iface _ _,h | .agg _, .nilIface,h | .agg _, .tuple _,h=>by simp[aveq]at h
 | .tuple _, .bool _,h | .tuple _, .int _ _,h | .tuple _, .str _ _,h | .tuple _, .nP,h | .tuple _, .ptr _ _,h | .tuple _, .nS,h | .tuple _, .slice _ _ _ _,h | .tuple _, .eS,h | .tuple _, .nM,h | .tuple _, .map _,h | .tuple _, .func _ _ _,h | .tuple _, .yT _,h | .tuple _, .nilFunc,h | .tuple _, .iface _ _,h | .tuple _, .nilIface,h | .tuple _, .agg _,h=>by simp[aveq]at h
theorem Q5: ∀(x y:List AV),Q6 x y=true->x=y
 | [],[],_=>rfl
 | x::xs,y::ys,h=>by simp[Q6]at h;rw[Y4 x y h.1,Q5 xs ys h.2]
 | [],_::_,h=>by simp[Q6]at h
 | _::_,[],h=>by simp[Q6]at h
end
theorem uF {R:Ren}{x:AV}(h:YM x=n)(f:n≠1)(a:VR R x i):(∃b,x= .bool b/\i= .bool b/\n=0)\/(∃k v,x= .int k v/\i= .int k v/\n=aS k)\/(∃s:ByteArray,x= .str s.size (pack s.data.toList)/\i= .string s/\n=2):=by
 cases x with
 | bool b=>simp only[VR]at a;exact .inl ⟨b,rfl,a,h.symm⟩
 | int k v=>simp only[VR]at a;exact .inr (.inl ⟨k,v,rfl,a,h.symm⟩)
 | str v b=>obtain⟨s,rfl,rfl,rfl⟩:=a;exact .inr (.inr ⟨s,rfl,rfl,h.symm⟩)
 | _=>simp[YM]at h;omega
theorem zFK {R m:Ren}{x y:AV}(h:YM x=n)(o:YM y=n)(f:n≠1)(p:VR R x i)(t:VR m y s):(x=y↔i=s):=by
 have hi:=bT;rcases uF h f p with⟨b,rfl,rfl,e⟩ | ⟨k,q,rfl,rfl,e⟩ | ⟨u,rfl,rfl,e⟩<;>rcases uF o f t with⟨C,rfl,rfl,v⟩ | ⟨k',F,rfl,rfl,v⟩ | ⟨j,rfl,rfl,v⟩
 .simp
 .have:=hi k';omega
 .omega
 .have:=hi k;omega
 .simp
 .have:=hi k;omega
 .omega
 .have:=hi k';omega
 .constructor
  .intro a;simp only[AV.str.injEq]at a;have z:=ZG _ _ (by rw[size_data,size_data];exact a.1) a.2;congr 1;have:u.data=j.data:=Array.toList_inj.1 z
   cases u;cases j;simp_all
  .intro a;injection a with a;rw[a]
theorem zCR {R j:Ren} : ∀ {a:List Nat} {xs f:List AV} {vs i:List Value},wW xs a=true->wW f a=true->1∉a->VRL R xs vs->VRL j f i->(xs=f↔vs=i)
 | [],[],[],vs,i,_,_,_,hv,hu=>by simp only[VRL]at hv hu;subst hv hu;simp
 | q::a,x::xs,y::f,vs,i,h1,h2,hq,hv,hu=>by
  obtain⟨v,vs',rfl,m,o⟩:=hv;obtain⟨u,z,rfl,h5,p⟩:=hu;simp only[wW,zF,zX]at h1 h2;simp only[zO,not_or]at hq;have s:=zFK h1.1 h2.1 (Ne.symm hq.1) m h5;have t:=zCR h1.2 h2.2 hq.2 o p;simp only[y9,s,t]
 | [],_::_,_,_,_,h,_,_,_,_=>by simp[wW]at h
 | [],[],_::_,_,_,_,h,_,_,_=>by simp[wW]at h
 | _::_,[],_,_,_,h,_,_,_,_=>by simp[wW]at h
 | _::_,_::_,[],_,_,_,h,_,_,_=>by simp[wW]at h
theorem dO {R m:Ren}{x y:AV}(h:xP v x=true)(a:xP v y=true)(f:VR R x i)(ks:VR m y s):(x=y↔i=s):=by
 unfold xP at h a;split at h
 .simp at h
 .rename_i q o;simp only[zG,zX]at h a;split at h
  .rename_i j;rw[if_pos j]at a;split at h
   .rename_i l;split at a
    .rename_i l';simp only[zF,j6,List.contains_eq_mem,yU]at h a;obtain⟨vs,rfl,f⟩:=f;obtain⟨p,rfl,ks⟩:=ks;have:=zCR h.1 a.1 h.2 f ks;simp only[AV.agg.injEq,Value.agg.injEq,Array.mk.injEq,this]
    .simp at a
   .simp at h
  .rename_i j;rw[if_neg j]at a;split at h
   .rw[zX]at h a;exact zFK h a j f ks
   .simp at h
structure KeyT (P:Program)(kt:TypeId)(K:Value->Prop):Prop where
 check: ∀v e w,K v->(Instr.checkKey e 10000 kt v).run P w= .ok () w
 find: ∀v (l:List MapEntry) w,K v->(∀x∈l,K x.key)->((Instr.findKey kt v l).run P w= .ok none w/\ ∀x∈l,x.key≠v)\/ ∃j e,(Instr.findKey kt v l).run P w= .ok (some (j,e.val)) w/\l[j]? =some e/\e.key=v
 stays: ∀v w,K v->(Instr.keyThatStays v v).run P w= .ok v w
theorem KeyT.plain (hd:q.underlying h=some L):KeyT q h (MapKept.IsKey L) where
 check v e w hk:=MapKept.run_checkKey hd hk e 9999
 find v l w hk hl:=by
  rcases MapKept.findNow_spec hk l 0 hl with⟨a,f⟩ | ⟨j,e,a,f,P⟩
  .exact .inl ⟨MapKept.run_findKey hd a,f⟩
  .exact .inr ⟨j,e,by simpa using MapKept.run_findKey hd a,f,P⟩
 stays v w hk:=MapKept.run_keyThatStays hk
def KV (ks:List Nat)(v:Value):Prop:= ∃(R:Ren) (k:AV),xP ks k=true/\VR R k v
theorem zN6 {R h:Ren}{x y:AV}(v:YM x=n)(j:YM y=n)(a:n≠1)(m:VR R x i)(h5:VR h y s): ∃b:Bool,vEq n i s=some b/\(b=true↔i=s):=by
 have hi:=bT;rcases uF v a m with⟨b,rfl,rfl,e⟩ | ⟨k,q,rfl,rfl,e⟩ | ⟨u,rfl,rfl,e⟩<;>rcases uF j a h5 with⟨o,rfl,rfl,f⟩ | ⟨k',p,rfl,rfl,f⟩ | ⟨t,rfl,rfl,f⟩
 .subst e;exact⟨b==o,by simp[vEq],by simp⟩
 .have:=hi k';omega
 .omega
 .have:=hi k;omega
 .have z:k=k':=zAC (by omega);subst z;exact⟨q==p,by simp[vEq,e],by simp⟩
 .have:=hi k;omega
 .omega
 .have:=hi k';omega
 .subst e;exact⟨u==t,by simp[vEq],by rw[MapKept.bytes_beq];simp⟩
theorem zEC {R m:Ren} : ∀ {a:List Nat} {xs i:List AV} {vs f:List Value},wW xs a=true->wW i a=true->1∉a->VRL R xs vs->VRL m i f-> ∃b:Bool,WU a vs f=some b/\(b=true↔vs=f)
 | [],[],[],vs,f,_,_,_,hv,hu=>by simp only[VRL]at hv hu;subst hv hu;exact⟨true,rfl,by simp⟩
 | q::a,x::xs,y::i,vs,f,h1,h2,hq,hv,hu=>by
  obtain⟨v,vs',rfl,o,p⟩:=hv;obtain⟨u,F,rfl,h5,s⟩:=hu;simp only[wW,zF,zX]at h1 h2;simp only[zO,not_or]at hq;obtain⟨b2,t,z⟩:=zEC h1.2 h2.2 hq.2 p s;obtain⟨b1,C,j⟩:=zN6 h1.1 h2.1 (Ne.symm hq.1) o h5;simp only[WU,C]
  cases b1 with
  | true=>exact⟨b2,t,by rw[z];simp[j.1 rfl]⟩
  | false=>exact⟨false,rfl,by
    simp only[zM,y9,false_iff,not_and];intro h;exact absurd (j.2 h) (by simp)⟩
 | [],_::_,_,_,_,h,_,_,_,_=>by simp[wW]at h
 | [],[],_::_,_,_,_,h,_,_,_=>by simp[wW]at h
 | _::_,[],_,_,_,h,_,_,_,_=>by simp[wW]at h
 | _::_,_::_,[],_,_,_,h,_,_,_=>by simp[wW]at h
theorem cJ: ∀ {xs:List AV} {a:List Nat},wW xs a=true->xs.length=a.length
 | [],[],_=>rfl
 | _::_,_::_,h=>by simp only[wW,zF]at h;simp[cJ h.2]
 | [],_::_,h=>by simp[wW]at h
 | _::_,[],h=>by simp[wW]at h
theorem UK {P:Program}{α:Type}{w:World}{body:α->Sem (ForInStep PUnit)} : ∀(l:List α),(∀f∈l,(body f).run P w= .ok (.yield ⟨⟩) w)->(forIn l PUnit.unit fun f _=>body f:Sem PUnit).run P w= .ok ⟨⟩ w
 | [],_=>by simp
 | f::l,h=>by
  simp only[List.forIn_cons,zH,h f (zJ ..),Result.andThen_ok];exact UK l (fun g a=>h g (zE _ a))
theorem zAh {i:TypeInfo}(hi:q.info? h=some i)(a: ∃u,q.underlying h=some u){xs:Array Value}{off:Nat}(P:off+i.size<=xs.size)(m:xK q h=false->i.size=1)(w:World):
  ∃x,(part h xs off).run q w= .ok x w/\(xK q h=true-> ∃arr,x= .agg arr/\arr.size=i.size):=by
 obtain⟨u,a⟩:=a
 cases f:xK q h with
 | true=>
  have j:(isAgg h).run q w= .ok true w:=by
   unfold xK at f;split at f
   .rename_i fs a;simp[isAgg,zH,run_underlying a]
   .rename_i n e a;simp[isAgg,zH,run_underlying a]
   .simp at f
  have o: ∀w,(sizeOf h).run q w= .ok i.size w:=fun w=>by simp[sizeOf,typeInfo,hi]
  exact⟨.agg (xs.extract off (off+i.size)),by simp[part,zH,j,o],fun _=>⟨_,rfl,by simp;omega⟩⟩
 | false=>
  have j:(isAgg h).run q w= .ok false w:=by
   unfold xK at f
   cases u<;>first | (simp[a]at f;done) | simp[isAgg,zH,run_underlying a]
  have s:=m f;have p:off<xs.size:=by omega
  exact⟨xs[off],by simp[part,zH,j,p],fun t=>by simp at t⟩
theorem zAI (d:fZ q n h=some v):(∃u,q.underlying h=some u)/\ ∀i,q.info? h=some i->(xK q h=false->i.size=1)/\v.length=i.size:=by
 cases n with
 | zero=>simp[fZ]at d
 | succ n=>
  unfold fZ at d;split at d
  .rename_i j a m;refine⟨⟨_,a⟩,fun i hi=> ?_⟩;rw[m]at hi;injection hi with hi;subst hi
   rw[zG]at d;split at d
   .rename_i f;rw[zX]at f;simp only[zC]at d;subst d;exact⟨fun _=>f,by simp[f]⟩
   .simp at d
  .rename_i P j a m;refine⟨⟨_,a⟩,fun i hi=> ?_⟩;rw[m]at hi;injection hi with hi;subst hi
   rw[zG]at d;split at d
   .rename_i f;rw[zX]at f;simp only[zC]at d;subst d;exact⟨fun _=>f,by simp[f]⟩
   .simp at d
  .rename_i j a m;refine⟨⟨_,a⟩,fun i hi=> ?_⟩;rw[m]at hi;injection hi with hi;subst hi
   rw[zG]at d;split at d
   .rename_i f;rw[zX]at f;simp only[zC]at d;subst d;exact⟨fun _=>f,by simp[f]⟩
   .simp at d
  .rename_i fs j a m;refine⟨⟨_,a⟩,fun i hi=> ?_⟩;rw[m]at hi;injection hi with hi;subst hi
   rw[zG]at d;split at d
   .split at d
    .rw[zG]at d;split at d
     .rename_i hl;rw[zX]at hl;simp only[zC]at d;subst d;exact⟨fun o=>by simp[xK,a]at o,hl⟩
     .simp at d
    .simp at d
   .simp at d
  .rename_i len e j a m;refine⟨⟨_,a⟩,fun i hi=> ?_⟩;rw[m]at hi;injection hi with hi;subst hi
   split at d
   .rename_i k' t x s;rw[zG]at d;split at d
    .rename_i p;simp only[zF,zX]at p;simp only[zC]at d;subst d;refine⟨fun o=>by simp[xK,a]at o, ?_⟩;simp[p.2,p.1]
    .simp at d
   .simp at d
  .simp at d
theorem zGh {P:Program}{rec:TypeId->Option (List Nat)} : ∀ {fs:List Field} {i:Nat} {r:List Nat},UL P rec fs i=some r-> ∀f∈fs,∃k j,rec f.type=some k/\P.info? f.type=some j/\f.offset+j.size<=i+r.length
 | [],_,_,_,f,a=>by simp at a
 | g::fs,i,r,h,f,a=>by
  simp only[UL]at h;split at h
  .rename_i k j o p;rw[zG]at h;split at h
   .rename_i q;simp only[zF,zX]at q;split at h
    .rename_i v m;simp only[zC]at h;subst h;simp only[zV];rcases zO.1 a with rfl | a
     .exact⟨k,j,o,p,by omega⟩
     .obtain⟨k2,s,t,u,x⟩:=zGh m f a;exact⟨k2,s,t,u,by omega⟩
    .simp at h
   .simp at h
  .simp at h
theorem V6 {P:Program} : ∀(d:Nat) (t:TypeId) (q:List Nat),fZ P d t=some q-> ∀m,d<=m-> ∀(e:Bool) (w:World),∀(v:Value),(xK P t=true-> ∃arr,v= .agg arr/\arr.size=q.length)->(Instr.checkKey e m t v).run P w= .ok () w
 | 0,t,q,h,_,_=>by simp[fZ]at h
 | d+1,t,q,h,m,hm=>by
  obtain⟨m,rfl⟩: ∃S,m=S+1:=⟨m - 1,by omega⟩;have F:=V6 (P:=P) d;intro e w v G;have W:=h;unfold fZ at h;split at h
  .rename_i a _;simp[Instr.checkKey,run_underlying a]
  .rename_i a _;simp[Instr.checkKey,run_underlying a]
  .rename_i a _;simp[Instr.checkKey,run_underlying a]
  .rename_i fs j a T;obtain⟨arr,rfl,s⟩:=G (by simp[xK,a]);rw[zG]at h;split at h
   .split at h
    .rename_i r hr;rw[zG]at h;split at h
     .simp only[zC]at h;subst h;simp only[Instr.checkKey,zH,run_underlying a,Result.andThen_ok];rw[<-Array.forIn_toList];rw[UK _ (fun f U=> ?_)]
      .rfl
      obtain⟨k2,I,J,u,Y⟩:=zGh hr f U;obtain⟨b1,b2⟩:=zAI J;obtain⟨x,y,z⟩:=zAh u b1 (xs:=arr) (off:=f.offset) (by omega) (b2 I u).1 w;split
      .simp only[zH,y,Result.andThen_ok];rw[F _ _ J m (by omega) e w x (fun C=>by rw[(b2 I u).2];exact z C)];rfl
      .rfl
     .simp at h
    .simp at h
   .simp at h
  .rename_i len V j a T;obtain⟨arr,rfl,s⟩:=G (by simp[xK,a]);split at h
   .rename_i k o K p;rw[zG]at h;split at h
    .rename_i L;simp only[zF,zX]at L;simp only[zC]at h;subst h;have M:(List.replicate len k).flatten.length=len*k.length:=by simp
     rw[M]at s;simp only[Instr.checkKey,zH,run_underlying a,Result.andThen_ok];simp only[Std.Legacy.Range.forIn_eq_forIn_range',Std.Legacy.Range.size,jF,Nat.add_one_sub_one,Nat.div_one];rw[UK _ (fun i hi=> ?_)]
     .rfl
     have Q:i<len:=by simp[List.mem_range']at hi;omega
     have N:(i+1)*o.size<=len*o.size:=yR _ Q;rw[jB]at N;have O: ∀w,(sizeOf V).run P w= .ok o.size w:=fun w=>by simp[sizeOf,typeInfo,p]
     obtain⟨b1,b2⟩:=zAI K;obtain⟨x,y,z⟩:=zAh p b1 (xs:=arr) (off:=i*o.size) (by rw[s,L.2];omega) (b2 o p).1 w;simp only[zH,O,y,Result.andThen_ok];rw[F _ _ K m (by omega) e w x (fun C=>by rw[(b2 o p).2];exact z C)];rfl
    .simp at h
   .simp at h
  .simp at h
theorem ZO {R:Ren}{k:AV}(h:xP (1::v) k=true)(a:VR R k i): ∃l vs,k= .agg l/\i= .agg ⟨vs⟩/\VRL R l vs/\wW l v=true/\1∉v:=by
 simp only[xP,yO,zU]at h;split at h
 .rename_i l;simp only[zF,j6,List.contains_eq_mem,yU]at h;obtain⟨vs,rfl,hl⟩:=a;exact⟨l,vs,rfl,rfl,hl,h.1,h.2⟩
 .simp at h
theorem cV {R:Ren} : ∀ {cs:List Nat} {l:List AV} {vs:List Value} (n:Nat),wW l cs=true->1∉cs->VRL R l vs->((vs.zip vs).all fun(x,y)=>Instr.sameBits n x y)=true
 | [],[],vs,n,_,_,hv=>by simp only[VRL]at hv;subst hv;rfl
 | q::cs,x::l,vs,n,h,hq,hv=>by
  obtain⟨v,vs',rfl,a,f⟩:=hv;simp only[wW,zF,zX]at h;simp only[zO,not_or]at hq;simp only[List.zip_cons_cons,List.all_cons,cV n h.2 hq.2 f,Bool.and_true];rcases uF h.1 (Ne.symm hq.1) a with⟨b,rfl,rfl,_⟩ | ⟨k,m,rfl,rfl,_⟩ | ⟨s,rfl,rfl,_⟩
  .simp[Instr.sameBits]
  .simp[Instr.sameBits]
  .simp[Instr.sameBits,MapKept.bytes_beq]
 | [],_::_,_,_,h,_,_=>by simp[wW]at h
 | _::_,[],_,_,h,_,_=>by simp[wW]at h
theorem KeyT.flat (F:fZ q q.depth h=some v)(s:xK q h=true)(hd:q.depth<=10000):KeyT q h (KV (1::v)) where
 check cs e w hk:=by
  obtain⟨R,k,a,f⟩:=hk;obtain⟨l,vs,rfl,rfl,kt,m,h5⟩:=ZO a f;refine V6 _ _ _ F 10000 hd e w _ (fun _=>⟨⟨vs⟩,rfl, ?_⟩);have:=zOE _ _ kt;have:=cJ m;simp;omega
 find cs l w hk hl:=by
  have G:(match q.underlying h with | some (.array _ _) | some (.struct _)=>true | _=>false)=true:=by
   unfold xK at s;split at s
   .rename_i o;simp[o]
   .rename_i o;simp[o]
   .simp at s
  have I: ∀u,KV (1::v) u-> ∃b:Bool,(Op.equal h cs u).run q w= .ok b w/\(b=true↔cs=u):=by
   intro u o;obtain⟨R,k,a,f⟩:=hk;obtain⟨U,k',J,K⟩:=o;obtain⟨l,vs,rfl,rfl,kt,m,h5⟩:=ZO a f;obtain⟨l',M,rfl,rfl,z,C,_⟩:=ZO J K;obtain⟨b,N,O⟩:=zEC m C h5 kt z;have V:=zOE _ _ kt;have W:=zOE _ _ z;have Y:=cJ m;have Z:=cJ C;refine⟨b,(BA _ _ _ F 10000 hd).2 w ⟨vs⟩ ⟨M⟩ b s (by simp;omega) (by simp;omega) N, ?_⟩;rw[O];simp
  have key: ∀(l:List MapEntry) (i:Nat),(∀x∈l,KV (1::v) x.key)->((Instr.findAsking h cs l i).run q w= .ok none w/\ ∀x∈l,x.key≠cs)\/ ∃j e,(Instr.findAsking h cs l i).run q w= .ok (some (i+j,e.val)) w/\l[j]? =some e/\e.key=cs:=by
   intro l
   induction l with
   | nil=>intro i _;exact .inl ⟨by simp[Instr.findAsking],by simp⟩
   | cons e l ih=>
    intro i hl;obtain⟨b,a,f⟩:=I e.key (hl e (zJ ..))
    cases b with
    | true=>exact .inr ⟨0,e,by simp[Instr.findAsking,zH,a],rfl,(f.1 rfl).symm⟩
    | false=>
     have L:e.key≠cs:=fun P=>by have:=f.2 P.symm;simp at this
     rcases ih (i+1) (fun x p=>hl x (zE _ p))with⟨t,y⟩ | ⟨j,Q,t,y,S⟩
     .refine .inl ⟨by simp[Instr.findAsking,zH,a,t],fun x p=> ?_⟩;rcases zO.1 p with rfl | p
      .exact L
      .exact y x p
     .exact .inr ⟨j+1,Q,by simp[Instr.findAsking,zH,a,t];omega,by simpa using y,S⟩
  rw[run_findKey_eq w G];simpa using key l 0 hl
 stays cs w hk:=by
  obtain⟨R,k,a,f⟩:=hk;obtain⟨l,vs,rfl,rfl,kt,m,h5⟩:=ZO a f;have T:=cV 9999 m h5 kt;have:Instr.sameBits 10000 (.agg ⟨vs⟩) (.agg ⟨vs⟩)=true:=by
   simp only[Instr.sameBits,beq_self_eq_true,Bool.true_and];exact T
  simp only[Instr.keyThatStays,this,if_true];rfl
section
variable {P:Program}{X:Cx}(hX:Ok P X)
include hX
theorem zFY (kt:kOf X h=some v): ∃K,KeyT P h K/\ ∀R k ks,xP v k=true->VR R k ks->K ks:=by
 unfold kOf at kt;split at kt
 .rename_i o;simp only[zC]at kt;subst kt;refine⟨_,KeyT.plain (hX.und o),fun R k ks f m=> ?_⟩;simp only[xP,zX,zG]at f;have t:YM k=0:=by simpa using f
  rcases uF t (by simp) m with⟨b,rfl,rfl,_⟩ | ⟨q,n,rfl,rfl,e⟩ | ⟨s,rfl,rfl,e⟩
  .trivial
  .have:=bT q;omega
  .simp at e
 .rename_i q o;simp only[zC]at kt;subst kt;have C:=bT q;refine⟨_,KeyT.plain (hX.und o),fun R k ks f m=> ?_⟩;simp only[xP,zX,zG]at f;rw[if_neg (by omega),zX]at f;rcases uF f (by omega) m with⟨b,rfl,rfl,e⟩ | ⟨F,n,rfl,rfl,e⟩ | ⟨s,rfl,rfl,e⟩
  .omega
  .exact(zAC e).symm
  .omega
 .rename_i o;simp only[zC]at kt;subst kt;refine⟨_,KeyT.plain (hX.und o),fun R k ks f m=> ?_⟩;simp only[xP,zX,zG]at f;have t:YM k=2:=by simpa using f
  rcases uF t (by simp) m with⟨b,rfl,rfl,e⟩ | ⟨q,n,rfl,rfl,e⟩ | ⟨s,rfl,rfl,e⟩
  .simp at e
  .have:=bT q;omega
  .trivial
 .have key: ∀ {j},zC3 h X.fl=some j->v=1::j-> ∃K,KeyT P h K/\ ∀R k ks,xP v k=true->VR R k ks->K ks:=by
   intro j a e;subst e;have p:(h,j)∈X.fl:=by
    generalize X.fl=l at a
    induction l with
    | nil=>simp[zC3]at a
    | cons x l ih=>
     obtain⟨i,v⟩:=x;simp only[zC3,zG,zX]at a;split at a
     .rename_i e;simp only[zC]at a;subst e a;simp
     .exact zE _ (ih a)
   obtain⟨u,y,z⟩:=hX.fl _ p;exact⟨_,KeyT.flat u y z,fun R k ks f m=>⟨R,k,f,m⟩⟩
  split at kt
  .rename_i j a;simp only[zC]at kt;exact key a kt.symm
  .simp at kt
 .have key: ∀ {j},zC3 h X.fl=some j->v=1::j-> ∃K,KeyT P h K/\ ∀R k ks,xP v k=true->VR R k ks->K ks:=by
   intro j a e;subst e;have p:(h,j)∈X.fl:=by
    generalize X.fl=l at a
    induction l with
    | nil=>simp[zC3]at a
    | cons x l ih=>
     obtain⟨i,v⟩:=x;simp only[zC3,zG,zX]at a;split at a
     .rename_i e;simp only[zC]at a;subst e a;simp
     .exact zE _ (ih a)
   obtain⟨u,y,z⟩:=hX.fl _ p;exact⟨_,KeyT.flat u y z,fun R k ks f m=>⟨R,k,f,m⟩⟩
  split at kt
  .rename_i j a;simp only[zC]at kt;exact key a kt.symm
  .simp at kt
 .simp at kt
end
theorem aT: ∀(a b:List Nat),YO a b=true->a=b
 | [],[],_=>rfl
 | x::a,y::b,h=>by simp only[YO,zF,zX]at h;rw[h.1,aT a b h.2]
 | [],_::_,h=>by simp[YO]at h
 | _::_,[],h=>by simp[YO]at h
theorem XN {k:AV} : ∀ {es:List (AV×AV)} {v:AV},vB k es=some v-> ∃f i,es=f++(k,v)::i
 | [],v,h=>by simp[vB]at h
 | (a,b)::es,v,h=>by
  simp only[vB,zG]at h;split at h
  .rename_i e;rw[Y4 _ _ e];simp only[zC]at h;subst h;exact⟨[],es,rfl⟩
  .obtain⟨j,m,rfl⟩:=XN h;exact⟨(a,b)::j,m,rfl⟩
theorem zCN {x:AV}(h:YM x≠1):aveq x x=true:=by
 cases x<;>simp[YM]at h<;>simp[aveq,xQ,xS]
theorem zAu: ∀ {a:List Nat} {xs:List AV},wW xs a=true->1∉a->Q6 xs xs=true
 | [],[],_,_=>by simp[Q6]
 | q::a,x::xs,h,hq=>by
  simp only[wW,zF,zX]at h;simp only[zO,not_or]at hq;simp only[Q6,zF];exact⟨zCN (by rw[h.1];exact Ne.symm hq.1),zAu h.2 hq.2⟩
 | [],_::_,h,_=>by simp[wW]at h
 | _::_,[],h,_=>by simp[wW]at h
theorem UD {k:AV}(h:xP v k=true):aveq k k=true:=by
 unfold xP at h;split at h
 .simp at h
 .rename_i q f;simp only[zG,zX]at h;split at h
  .split at h
   .simp only[zF,j6,List.contains_eq_mem,yU]at h;simp only[aveq];exact zAu h.1 h.2
   .simp at h
  .rename_i a;split at h
   .rw[zX]at h;exact zCN (by rw[h];exact a)
   .simp at h
theorem XQ {ks:List Nat}{k:AV}(j:xP ks k=true): ∀ {es:List (AV×AV)},vB k es=none-> ∀e∈es,e.1≠k
 | [],_,e,f=>by simp at f
 | (a,b)::es,h,e,f=>by
  simp only[vB,zG]at h;split at h
  .simp at h
  .rename_i i;rcases zO.1 f with rfl | f
   .intro m;simp only at m;rw[m,UD j]at i;simp at i
   .exact XQ j h e f
theorem JU {k v:AV} : ∀ {es es':List (AV×AV)},BJ k v es=some es'-> ∃i f j,es=i++(k,f)::j/\es'=i++(k,v)::j
 | [],es',h=>by simp[BJ]at h
 | (a,b)::es,es',h=>by
  simp only[BJ,zG]at h;split at h
  .rename_i e;simp only[zC]at h;subst h;rw[Y4 _ _ e];exact⟨[],b,es,rfl,rfl⟩
  .split at h
   .rename_i l hl;simp only[zC]at h;subst h;obtain⟨m,f,o,rfl,rfl⟩:=JU hl;exact⟨(a,b)::m,f,o,rfl,rfl⟩
   .simp at h
theorem setA_none {ks:List Nat}{k v:AV}(j:xP ks k=true): ∀ {es:List (AV×AV)},BJ k v es=none-> ∀e∈es,e.1≠k
 | [],_,e,f=>by simp at f
 | (a,b)::es,h,e,f=>by
  simp only[BJ,zG]at h;split at h
  .simp at h
  .rename_i i;split at h
   .simp at h
   .rename_i o;rcases zO.1 f with rfl | f
    .intro m;simp only at m;rw[m,UD j]at i;simp at i
    .exact setA_none j o e f
theorem zAY {k:AV} : ∀ {es es':List (AV×AV)},zH1 k es=some es'-> ∃i f j,es=i++(k,f)::j/\es'=i++j
 | [],es',h=>by simp[zH1]at h
 | (a,b)::es,es',h=>by
  simp only[zH1,zG]at h;split at h
  .rename_i e;simp only[zC]at h;subst h;rw[Y4 _ _ e];exact⟨[],b,es,rfl,rfl⟩
  .split at h
   .rename_i l hl;simp only[zC]at h;subst h;obtain⟨m,f,o,rfl,rfl⟩:=zAY hl;exact⟨(a,b)::m,f,o,rfl,rfl⟩
   .simp at h
theorem zAZ {ks:List Nat}{k:AV}(j:xP ks k=true): ∀ {es:List (AV×AV)},zH1 k es=none-> ∀e∈es,e.1≠k
 | [],_,e,f=>by simp at f
 | (a,b)::es,h,e,f=>by
  simp only[zH1,zG]at h;split at h
  .simp at h
  .rename_i i;split at h
   .simp at h
   .rename_i o;rcases zO.1 f with rfl | f
    .intro m;simp only at m;rw[m,UD j]at i;simp at i
    .exact zAZ j o e f
def ER (R:Ren):List (AV×AV)->List MapEntry->Prop
 | [],m=>m=[]
 | e::es,m=> ∃x a,m=x::a/\VR R e.1 x.key/\VR R e.2 x.val/\ER R es a
theorem ER.of {R:Ren} : ∀ {es:List (AV×AV)} {m:List MapEntry},VRL R (es.map (·.1)) (m.map (·.key))->VRL R (es.map (·.2)) (m.map (·.val))->ER R es m
 | [],m,h,_=>by simp only[List.map_nil,VRL,List.map_eq_nil_iff]at h;exact h
 | e::es,m,h,h'=>by
  obtain⟨k,ks,a,i,j⟩:=h;obtain⟨v,vs,f,o,p⟩:=h'
  cases m with
  | nil=>simp at a
  | cons x m=>
   simp only[yK,y9]at a f;obtain⟨rfl,rfl⟩:=a;obtain⟨rfl,rfl⟩:=f;exact⟨x,m,rfl,i,o,ER.of j p⟩
theorem ER.to {R:Ren} : ∀ {es:List (AV×AV)} {m:List MapEntry},ER R es m->VRL R (es.map (·.1)) (m.map (·.key))/\VRL R (es.map (·.2)) (m.map (·.val))
 | [],m,h=>by simp only[ER]at h;subst h;exact⟨rfl,rfl⟩
 | e::es,m,⟨x,m',e1,h1,h2,h3⟩=>by
  subst e1;exact⟨⟨_,_,rfl,h1,(ER.to h3).1⟩,⟨_,_,rfl,h2,(ER.to h3).2⟩⟩
theorem ER.split {R:Ren} : ∀ {a:List (AV×AV)} {e:AV×AV} {b:List (AV×AV)} {m:List MapEntry},ER R (a++e::b) m-> ∃f x h,m=f++x::h/\ER R a f/\VR R e.1 x.key/\VR R e.2 x.val/\ER R b h
 | [],e,b,m,⟨x,m',e1,h1,h2,h3⟩=>⟨[],x,m',e1,rfl,h1,h2,h3⟩
 | y::a,e,b,m,⟨x,m',e1,h1,h2,h3⟩=>by
  subst e1;obtain⟨f,z,h,rfl,k1,k2,k3,k4⟩:=ER.split (a:=a) h3;exact⟨x::f,z,h,rfl,⟨x,f,rfl,h1,h2,k1⟩,k2,k3,k4⟩
theorem ER.append {R:Ren} : ∀ {a b:List (AV×AV)} {m n:List MapEntry},ER R a m->ER R b n->ER R (a++b) (m++n)
 | [],b,m,n,h,k=>by simp only[ER]at h;subst h;exact k
 | y::a,b,m,n,⟨x,m',e1,h1,h2,h3⟩,k=>by subst e1;exact⟨x,m'++n,rfl,h1,h2,ER.append h3 k⟩
theorem ER.mem {R:Ren} : ∀ {a:List (AV×AV)} {m:List MapEntry},ER R a m-> ∀x∈m,∃e∈a,VR R e.1 x.key
 | [],m,h,x,f=>by simp only[ER]at h;subst h;simp at f
 | y::a,m,⟨z,m',e1,h1,h2,h3⟩,x,f=>by
  subst e1;rcases zO.1 f with rfl | f
  .exact⟨y,zJ ..,h1⟩
  .obtain⟨e,i,j⟩:=ER.mem h3 x f;exact⟨e,zE _ i,j⟩
theorem KJ {R:Ren}{s t:List (AV×AV)}{k f:AV}(hm:MR R (s++(k,f)::t) W)(u: ∀N∈s++(k,f)::t,xP v N.1=true)(hd:(s++(k,f)::t).Pairwise (fun a b=>a.1≠b.1))(C:VR R k i)
    (I:W[n]? =some N) (y:N.key=i): ∃kv o,ER R s kv/\ER R t o/\VR R f N.val/\(kv++N::o).Perm W:=by
 obtain⟨m,hp,J,K⟩:=hm;obtain⟨kv,x,o,rfl,F,l,L,G⟩:=(ER.of J K).split;have z:xP v k=true:=u (k,f) (by simp);have M:N∈kv++x::o:=hp.symm.subset (List.mem_of_getElem? I);have:N=x:=by
  rcases qB.1 M with h | h
  .obtain⟨q,p,ks⟩:=ER.mem F N h;have:=(dO (u q (qX _ p)) z ks C).2 y;exact absurd this ((j8.1 hd).2.2 q p (k,f) (zJ ..))
  .rcases zO.1 h with h | h
   .exact h
   .obtain⟨q,p,ks⟩:=ER.mem G N h;have:=(dO (u q (by simp[p])) z ks C).2 y;exact absurd this.symm ((yP.1 (j8.1 hd).2.1).1 q p)
 subst this;exact⟨kv,o,F,G,L,hp⟩
section
variable {P:Program}{X:Cx}(hX:Ok P X){R:Ren}{H:AH}{w:World}(hL:Rel R H w)
theorem Rel.mapAt (h:Rel R H w){c:Nat}{es:List (AV×AV)}(i:H.h.get n=some (.map v es))(hR:R n E j c):
  ∃(arr:Array MapEntry) (f:Nat),w.heap[E]? =some (.map arr f)/\MR R es arr.toList/\(∀e∈es,xP v e.1=true)/\es.Pairwise (fun a E=>a.1≠E.1)/\zCm arr.toList f:=h.obj n E j c _ hR i
theorem zFW {a:Bool}{v:AV}(h:VR R v i):VR R (lkR Y a v) (if a then .tuple #[i, .bool Y]else i):=by
 unfold lkR
 cases a with
 | true=>exact⟨[i, .bool Y],rfl,i,[.bool Y],rfl,h, .bool Y,[],rfl,rfl,rfl⟩
 | false=>exact h
include hX hL in
theorem zNA {W:TypeId}{xv:AV}{x k r:AV}(Z:X.und h=some (.map a W))(hk:kOf X a=some v)(hz:cQ X W=some xv)(t:lkM v xv Y x k H=some r)(hx:VR R x i)(F:VR R k s):
  ∃z,(Instr.lookup h i s Y).run P w= .ok z w/\VR R r z:=by
 obtain⟨K,y,T⟩:=zFY hX hk;unfold lkM at t;rw[zG]at t;split at t
 .rename_i G;have u:=T R k s G F;obtain⟨zv,U,V⟩:=hX.run_zero R hz w;split at t
  .have:i= .map none:=hx;subst this;simp only[zC]at t;subst t;refine⟨_, ?_,zFW V⟩;have C:=y.find s [] w u (by simp);rcases C with⟨f,_⟩ | ⟨j,e,_,kt,_⟩
   .simp only[Instr.lookup,zH,hX.run_und Z w,Result.andThen_ok,zL,y.check s _ w u];have a0:(Instr.findKey a s (#[]:Array MapEntry).toList).run P w= .ok none w:=f;simp only[a0,Result.andThen_ok,zH,U,zL]
   .simp at kt
  .rename_i A;obtain⟨b,d,c,hr,rfl⟩:=hx;split at t
   .rename_i a3 es hA;rw[zG]at t;split at t
    .rename_i L;obtain rfl:=aT _ _ L;obtain⟨arr,a2,hb,hm,I,hd,a4⟩:=hL.mapAt hA hr;have S: ∀x∈arr.toList,K x.key:=by
      intro q J;obtain⟨m,hp,f,kt⟩:=hm;obtain⟨e,L,M⟩:=ER.mem (ER.of f kt) q (hp.symm.subset J);exact T R _ _ (I e L) M
     have pre: ∀(o:Option (Nat×Value)),(Instr.findKey a s arr.toList).run P w= .ok o w->(Instr.lookup h (.map (some b)) s Y).run P w=(match o with
       | some (_,ks)=> .ok (if Y then .tuple #[ks, .bool true]else ks) w
       | none=> .ok (if Y then .tuple #[zv, .bool false]else zv) w):=by
      intro o ho;simp only[Instr.lookup,zH,hX.run_und Z w,Result.andThen_ok,MapKept.run_getObj_map hb,zL,y.check s _ w u,ho]
      cases o with
      | none=>simp only[Result.andThen_ok,zH,U,zL]
      | some p=>obtain⟨kv,ks⟩:=p;simp only[Result.andThen_ok,zH,zL]
     split at t
     .rename_i ks C;simp only[zC]at t;subst t;obtain⟨a5,a6,rfl⟩:=XN C;rcases y.find s arr.toList w u S with⟨f,kt⟩ | ⟨j,e,f,kt,N⟩
      .obtain⟨m,hp,O,Q⟩:=hm;obtain⟨m1,x,m2,rfl,r1,r2,r3,r4⟩:=(ER.of O Q).split;have:=(dO (I (k,ks) (by simp)) G r2 F).1 rfl;exact absurd this (kt x (hp.subset (by simp)))
      .obtain⟨m1,m2,_,_,M,_⟩:=KJ hm I hd F kt N;exact⟨_,pre _ f,zFW M⟩
     .rename_i C;simp only[zC]at t;subst t;rcases y.find s arr.toList w u S with⟨f,kt⟩ | ⟨j,e,f,kt,N⟩
      .exact⟨_,pre _ f,zFW V⟩
      .obtain⟨m,hp,O,Q⟩:=hm;obtain⟨q,J,a1⟩:=ER.mem (ER.of O Q) e (hp.symm.subset (List.mem_of_getElem? kt));exact absurd ((dO (I q J) G a1 F).2 N) (XQ G C q J)
    .simp at t
   .simp at t
  .simp at t
 .simp at t
theorem YL.map {A:Nat}{ks:List Nat}{es:List (AV×AV)}(h:H.h.get A=some (.map ks es)):YL H A:=⟨_,h,trivial⟩
theorem zCm.turn {i:List MapEntry}{j:MapEntry}(h:zCm (W++N::i) n)(m:j.born=N.born):zCm (W++j::i) n:=by
 obtain⟨o,a⟩:=h;refine⟨by simpa[m]using o,fun q p=> ?_⟩;rcases qB.1 p with k | k
 .exact a q (qX _ k)
 .rcases zO.1 k with rfl | k
  .rw[m];exact a N (by simp)
  .exact a q (by simp[k])
theorem zCm.more {l:List MapEntry}{e:MapEntry}{c:Nat}(h:zCm l c)(p:e.born=c):zCm (l++[e]) (c+1):=by
 obtain⟨i,f⟩:=h;refine⟨?_,fun q j=> ?_⟩
 .rw[List.map_append,List.nodup_append];refine⟨i,by simp,fun a m b hb=> ?_⟩;simp only[yK,List.map_nil,yF]at hb;obtain⟨x,o,rfl⟩:=qM.1 m;have:=f x o;omega
 .rcases qB.1 j with k | k
  .exact Nat.lt_succ_of_lt (f q k)
  .simp only[yF]at k;subst k;omega
theorem zCm.less {f:List MapEntry}(h:zCm (W++N::f) n):zCm (W++f) n:=by
 obtain⟨j,m⟩:=h;have i:(W++f).Sublist (W++N::f):=(List.Sublist.refl W).append (List.sublist_cons_self N f);exact⟨j.sublist (i.map _),fun q o=>m q (i.subset o)⟩
theorem Rel.mapPut (h:Rel R H w){c:Nat}{es es':List (AV×AV)}{H':AH}(m:H.h.get n=some (.map v es))(hR:R n E j c)(hp:fF H n (.map v es')=some H'){arr':Array MapEntry}{clock':Nat}
  (hm:MR R es' arr'.toList) (i: ∀e∈es',xP v e.1=true) (hd:es'.Pairwise (fun a E=>a.1≠E.1)) (A:zCm arr'.toList clock'):Rel R H' (vX w E (.map arr' clock'))/\Ext R H w R H' (vX w E (.map arr' clock')):=by
 unfold fF at hp;split at hp
 .rename_i o f;simp only[zC]at hp;subst hp;exact⟨h.put hR (YL.map m) f ⟨arr',clock',rfl,hm,i,hd,A⟩,Ext.put hR f⟩
 .simp at hp
theorem zE7 (a:List MapEntry)(e:MapEntry)(h:List MapEntry)(f:MapEntry->MapEntry):(a++e::h).modify a.length f=a++f e::h:=by
 induction a with
 | nil=>simp
 | cons x l ih=>simp[ih]
theorem zBn {arr:Array MapEntry}(h:arr.toList[n]? =some N): ∃a f,arr.toList=a++N::f/\a.length=n:=by
 obtain⟨i,m⟩:=qP.1 h;refine⟨arr.toList.take n,arr.toList.drop (n+1), ?_,by simp;simp at i;omega⟩;rw[<-m,List.getElem_cons_drop,qV]
include hX hL in
theorem zN8 {kt et:TypeId}{x k ks r:AV}{p:Value}{H':AH}(ht:X.und h=some (.map kt et))(hk:kOf X kt=some v)(t:upM v x k ks H=some (r,H'))(hx:VR R x i)(z:VR R k s)(a3:VR R ks p):
  r=jU/\ ∃U,(Instr.mapUpdate h i s p).run P w= .ok () U/\Rel R H' U/\Ext R H w R H' U:=by
 obtain⟨K,G,a4⟩:=zFY hX hk;unfold upM at t;rw[zG]at t;split at t
 .rename_i kv;have C:=a4 R k s kv z;split at t
  .rename_i A;obtain⟨b,d,c,hr,rfl⟩:=hx;split at t
   .rename_i b1 es V;rw[zG]at t;split at t
    .rename_i W;obtain rfl:=aT _ _ W;obtain⟨arr,L,hb,hm,u,hd,T⟩:=hL.mapAt V hr;have a0: ∀x∈arr.toList,K x.key:=by
      intro q f;obtain⟨m,hp,y,xv⟩:=hm;obtain⟨e,W,hv⟩:=ER.mem (ER.of y xv) q (hp.symm.subset f);exact a4 R _ _ (u e W) hv
     have a1: ∀o,(setObj b o).run P w= .ok () (vX w b o):=fun o=>MapKept.run_setObj_map o hb
     split at t
     .rename_i es' M;split at t
      .rename_i H1 hp;simp only[zC,zT]at t;obtain⟨rfl,rfl⟩:=t;refine⟨rfl, ?_⟩;obtain⟨a5,v0,a6,rfl,rfl⟩:=JU M;rcases G.find s arr.toList w C a0 with⟨y,xv⟩ | ⟨j,e,y,xv,N⟩
       .obtain⟨m,F,I,J⟩:=hm;obtain⟨Y,x,O,rfl,r1,r2,r3,r4⟩:=(ER.of I J).split;have:=(dO (u (k,v0) (by simp)) kv r2 z).1 rfl;exact absurd this (xv x (F.subset (by simp)))
       .obtain⟨Y,O,e1,e2,_,Z⟩:=KJ hm u hd z xv N;obtain⟨l1,l2,hl,a7⟩:=zBn xv;have a8:arr[j]? =some e:=by simpa using xv
        have a2:(arr.modify j fun x=> { x with key:=s,val:=p}).toList=l1++ { e with key:=s,val:=p} ::l2:=by
         rw[Array.toList_modify,hl,<-a7,zE7]
        have S:=hL.mapPut V hr hp (arr':=arr.modify j fun x=> { x with key:=s,val:=p}) (clock':=L) (es':=a5++(k,ks)::a6) ?_ (fun q f=> ?_) ?_ (by rw[a2];rw[hl]at T;exact T.turn rfl)
        .refine⟨_, ?_,S⟩;simp only[Instr.mapUpdate,zH,hX.run_und ht w,Result.andThen_ok,MapKept.run_getObj_map hb,G.check s _ w C,y];simp only[a8,qA,yB,N,G.stays s w C,Result.andThen_ok,a1]
        .rw[a2];refine⟨Y++ { e with key:=s,val:=p} ::O, ?_, ?_⟩
         .rw[hl]at Z;have:=(List.perm_middle (a:=e) (l₁:=Y) (l₂:=O)).symm.trans (Z.trans List.perm_middle);have:=(List.perm_cons e).1 this;exact List.perm_middle.trans ((this.cons _).trans List.perm_middle.symm)
         .exact ER.to (e1.append ⟨_,O,rfl,z,a3,e2⟩)
        .have a9:q∈a5++(k,ks)::a6:=f;rcases qB.1 a9 with t | t
         .exact u q (qX _ t)
         .rcases zO.1 t with rfl | t
          .exact kv
          .exact u q (by simp[t])
        .obtain⟨p1,p2,p3⟩:=j8.1 hd;obtain⟨p4,p5⟩:=yP.1 p2;refine j8.2 ⟨p1,yP.2 ⟨fun q f=>p4 q f,p5⟩,fun a Q q f=> ?_⟩;rcases zO.1 f with rfl | f
         .exact p3 a Q (k,v0) (zJ ..)
         .exact p3 a Q q (zE _ f)
      .simp at t
     .rename_i M;split at t
      .rename_i H1 hp;simp only[zC,zT]at t;obtain⟨rfl,rfl⟩:=t;refine⟨rfl, ?_⟩;rcases G.find s arr.toList w C a0 with⟨y,xv⟩ | ⟨j,e,y,xv,N⟩
       .have S:=hL.mapPut V hr hp (arr':=arr.push { key:=s,val:=p,born:=L}) (clock':=L+1) (es':=es++[(k,ks)]) ?_ (fun q f=> ?_) ?_ (by rw[Array.toList_push];exact T.more rfl)
        .refine⟨_, ?_,S⟩;simp only[Instr.mapUpdate,zH,hX.run_und ht w,Result.andThen_ok,MapKept.run_getObj_map hb,G.check s _ w C,y,a1]
        .obtain⟨m,F,I,J⟩:=hm;refine⟨m++[{ key:=s,val:=p,born:=L}],by rw[Array.toList_push];exact F.append_right _, ?_⟩;exact ER.to ((ER.of I J).append ⟨_,[],rfl,z,a3,rfl⟩)
        .rcases qB.1 f with t | t
         .exact u q t
         .simp only[yF]at t;subst t;exact kv
        .refine j8.2 ⟨hd,List.pairwise_singleton _ _,fun a Q q f=> ?_⟩;simp only[yF]at f;subst f;exact setA_none kv M a Q
       .obtain⟨m,F,I,J⟩:=hm;obtain⟨q,f,b0⟩:=ER.mem (ER.of I J) e (F.symm.subset (List.mem_of_getElem? xv));exact absurd ((dO (u q f) kv b0 z).2 N) (setA_none kv M q f)
      .simp at t
    .simp at t
   .simp at t
  .simp at t
 .simp at t
include hX hL in
theorem zOa {kt et ty:TypeId}{x k r:AV}{H':AH}(C:F[0]? =some h)(G:X.und h=some (.map kt et))(hk:kOf X kt=some v)(t:dlM v x k H=some (r,H'))(hx:VR R x i)(y:VR R k s):
  r= .tuple []/\ ∃I,(Builtin.delete_ F ty #[i,s]).run P w= .ok (.tuple #[]) I/\Rel R H' I/\Ext R H w R H' I:=by
 obtain⟨K,ks,Z⟩:=zFY hX hk;unfold dlM at t;rw[zG]at t;split at t
 .rename_i z;have u:=Z R k s z y;split at t
  .have:i= .map none:=hx;subst this;simp only[zC,zT]at t;obtain⟨rfl,rfl⟩:=t;refine⟨rfl,w, ?_,hL,zOL R H w⟩;simp[Builtin.delete_,zH,C,hX.run_und G w,ks.check s _ w u]
  .rename_i A;obtain⟨b,d,c,hr,rfl⟩:=hx;split at t
   .rename_i a7 es hA;rw[zG]at t;split at t
    .rename_i J;obtain rfl:=aT _ _ J;obtain⟨arr,T,hb,hm,kv,hd,a0⟩:=hL.mapAt hA hr;have V: ∀x∈arr.toList,K x.key:=by
      intro q xv;obtain⟨m,hp,p,f⟩:=hm;obtain⟨e,J,hv⟩:=ER.mem (ER.of p f) q (hp.symm.subset xv);exact Z R _ _ (kv e J) hv
     have W: ∀o,(setObj b o).run P w= .ok () (vX w b o):=fun o=>MapKept.run_setObj_map o hb
     split at t
     .rename_i es' L;split at t
      .rename_i H1 hp;simp only[zC,zT]at t;obtain⟨rfl,rfl⟩:=t;refine⟨rfl, ?_⟩;obtain⟨a4,v0,a5,rfl,rfl⟩:=zAY L;rcases ks.find s arr.toList w u V with⟨p,f⟩ | ⟨j,e,p,f,M⟩
       .obtain⟨m,ts,N,O⟩:=hm;obtain⟨Q,x,S,rfl,r1,r2,r3,r4⟩:=(ER.of N O).split;have:=(dO (kv (k,v0) (by simp)) z r2 y).1 rfl;exact absurd this (f x (ts.subset (by simp)))
       .obtain⟨Q,S,e1,e2,_,U⟩:=KJ hm kv hd y f M;obtain⟨l1,l2,hl,a2⟩:=zBn f;have Y:(arr.eraseIdxIfInBounds j).toList=l1++l2:=by
         have:(arr.eraseIdxIfInBounds j).toList=arr.toList.eraseIdx j:=by
          unfold Array.eraseIdxIfInBounds;split
          .simp[Array.toList_eraseIdx]
          .rw[List.eraseIdx_of_length_le (by simp;omega)]
         rw[this,hl,<-a2,List.eraseIdx_append_of_length_le (by simp)];simp
        have a3:=hL.mapPut hA hr hp (arr':=arr.eraseIdxIfInBounds j) (clock':=T) (es':=a4++a5) ?_ (fun q xv=> ?_) ?_ (by rw[Y];rw[hl]at a0;exact a0.less)
        .refine⟨_, ?_,a3⟩;simp[Builtin.delete_,zH,C,hX.run_und G w,MapKept.run_getObj_map hb,ks.check s _ w u,p,W]
        .rw[Y];refine⟨Q++S, ?_,ER.to (e1.append e2)⟩;rw[hl]at U;have:=(List.perm_middle (a:=e) (l₁:=Q) (l₂:=S)).symm.trans (U.trans List.perm_middle);exact(List.perm_cons e).1 this
        .rcases qB.1 xv with t | t
         .exact kv q (qX _ t)
         .exact kv q (by simp[t])
        .obtain⟨p1,p2,p3⟩:=j8.1 hd;obtain⟨p4,p5⟩:=yP.1 p2;exact j8.2 ⟨p1,p5,fun a ha q xv=>p3 a ha q (zE _ xv)⟩
      .simp at t
     .rename_i L;simp only[zC,zT]at t;obtain⟨rfl,rfl⟩:=t;refine⟨rfl,w, ?_,hL,zOL R H w⟩;rcases ks.find s arr.toList w u V with⟨p,f⟩ | ⟨j,e,p,f,M⟩
      .have a1:vX w b (.map arr T)=w:=JC w b _ hb;simp[Builtin.delete_,zH,C,hX.run_und G w,MapKept.run_getObj_map hb,ks.check s _ w u,p,W,a1]
      .obtain⟨m,ts,N,O⟩:=hm;obtain⟨q,xv,a6⟩:=ER.mem (ER.of N O) e (ts.symm.subset (List.mem_of_getElem? f));exact absurd ((dO (kv q xv) z a6 y).2 M) (zAZ z L q xv)
    .simp at t
   .simp at t
  .simp at t
 .simp at t
include hX hL in
theorem zOg {u ty:TypeId}{x r:AV}{H':AH}(f:F[0]? =some h)(ts:X.und h=some (.map a u))(t:clM x H=some (r,H'))(j:VR R x i):
  r= .tuple []/\ ∃kt,(Builtin.clear_ F ty #[i]).run P w= .ok (.tuple #[]) kt/\Rel R H' kt/\Ext R H w R H' kt:=by
 unfold clM at t;split at t
 .have:i= .map none:=j;subst this;simp only[zC,zT]at t;obtain⟨rfl,rfl⟩:=t;refine⟨rfl,w, ?_,hL,zOL R H w⟩;simp[Builtin.clear_,zH,f,hX.run_und ts w]
 .rename_i A;obtain⟨b,d,c,hr,rfl⟩:=j;split at t
  .rename_i ks es m;split at t
   .rename_i z hp;simp only[zC,zT]at t;obtain⟨rfl,rfl⟩:=t;refine⟨rfl, ?_⟩;obtain⟨arr,p,hb,hm,v,hd,y⟩:=hL.mapAt m hr;have q: ∀o,(setObj b o).run P w= .ok () (vX w b o):=fun o=>MapKept.run_setObj_map o hb
    have s:=hL.mapPut m hr hp (arr':= #[]) (clock':=p) (es':=[]) ⟨[],by simp,rfl,rfl⟩ (by simp) List.Pairwise.nil (by simp[zCm]);refine⟨_, ?_,s⟩;simp[Builtin.clear_,zH,f,hX.run_und ts w,MapKept.run_getObj_map hb,q]
   .simp at t
  .simp at t
 .simp at t
end
theorem xO {s:Sem Value}{a:World}(h:s.run q t= .ok i a):(do pure (Next.value (← s)):Sem Next).run q t= .ok (.value i) a:=by
 simp only[zH,h,Result.andThen];rfl
theorem YA (off:Nat): ∀(l:List Value) (k:Nat) (arr:Array Value),(l.zipIdx k).foldl (fun cs (x:Value×Nat)=>cs.setIfInBounds (off+x.2) x.1) arr=xC arr (off+k) l
 | [],_,_=>rfl
 | v::l,k,arr=>by
  simp only[List.zipIdx_cons,List.foldl_cons,xC];rw[YA off l (k+1)];rfl
inductive PR (R:Ren):List (Nat×AV)->List (Nat×Value)->Prop
 | nil:PR R [] []
 | cons {i:Nat} {x:AV} {v:Value} {l:List (Nat×AV)} {m:List (Nat×Value)} (h:VR R x v) (t:PR R l m):PR R ((i,x)::l) ((i,v)::m)
theorem zC5 {R:Ren}{p place':Nat->Option (Nat×Nat)}(hp: ∀i x,p i=some x->place' i=some x): ∀ {j:List (Nat×AV)} {o:List (Nat×Value)},PR R j o-> ∀ {cells r:List AV} {arr:Array Value},fM p cells j=some r->VRL R cells arr.toList->
  ∃arr',Instr.fill place' arr o=some arr'/\VRL R r arr'.toList:=by
 intro j o h
 induction h with
 | nil=>intro cells r arr a f;simp only[fM,zC]at a;subst a;exact⟨arr,rfl,f⟩
 | @cons i x v l m hx ht ih=>
  intro cells r arr a f;simp only[fM]at a;split at a
  .simp at a
  .rename_i off size y;simp only[zG,kG,zX]at a;split at a
   .rename_i M;split at a
    .rename_i t F;obtain⟨G,N⟩:=VY _ _ _ _ F;have s:=uB hx;have q:=zOE _ _ s;have C:=zOE _ _ f;rw[yZ]at q C;have u:VRL R t (xC arr off v.cells.toList).toList:=by
      rw[xG _ _ _ (by rw[yZ];omega),G];refine(VRL.append ((f.take off).append s) ?_);have I:v.cells.toList.length=(kF x).length:=by rw[yZ];exact q
      rw[I];exact f.drop _
     obtain⟨arr',J,K⟩:=ih a u;refine⟨arr', ?_,K⟩;rw[Instr.fill,hp _ _ y];simp only;rw[if_neg (by simp;omega)];have L:v.cells.zipIdx.foldl (fun cs (x:Value×Nat)=>cs.setIfInBounds (off+x.2) x.1) arr=xC arr off v.cells.toList:=by
      rw[<-Array.foldl_toList,Array.toList_zipIdx,YA];rfl
     exact(congrArg (fun z=>Instr.fill place' z m) L).trans J
    .simp at a
   .simp at a
theorem U8 {R:Ren}{x:AV}(h:aO x=some n)(a:VR R x i): ∃k,i= .int k (n:Int):=by
 unfold aO at h;split at h
 .rename_i k m;simp only[zC]at h;subst h;simp only[VR]at a;exact⟨k,a⟩
 .simp at h
theorem U4 {R:Ren}{env:Env}{n:Nat}{fr:Frame}(h:EnvR R env n fr.tmps): ∀(a:List (Nat×Operand)) (f:List (Nat×AV)),uK env a=some f->PR R f (a.map fun(i,x)=>(i,fr.eval x))
 | [],f,e=>by simp only[uK,zC]at e;subst e;exact .nil
 | (i,x)::a,f,e=>by
  simp only[uK]at e;split at e
  .rename_i v vs m j;simp only[zC]at e;subst e;exact .cons (kP h x v m) (U4 h a vs j)
  .simp at e
section
variable {P:Program}{X:Cx}(hX:Ok P X){R:Ren}(hR:RFn R){w:World}
include hX
theorem zAf: ∀(fs:List Field) (a:List (Nat×Nat)),QI X fs=some a->fs.mapM (fun f=>(P.info? f.type).map fun i=>(f.offset,i.size))=some a
 | [],a,h=>by simp only[QI,zC]at h;subst h;rfl
 | f::fs,a,h=>by
  simp only[QI]at h;split at h
  .rename_i n r j hr;simp only[zC]at h;subst h;obtain⟨i,m,o⟩:=hX.size j;simp[List.mapM_cons,m,o,zAf fs r hr]
  .simp at h
theorem zFD {off:Nat}{cs:List AV}{r:AV}(hd:X.und h=some L)(m:X.size h=some n)(hl:VRL R cs I)
  (t:(bif fU L then(match uW cs off n with | some c=>some (.agg c) | none=>none)else nth cs off)=some r): ∃v,(part h ⟨I⟩ off).run P w= .ok v w/\VR R r v:=by
 rw[zG]at t;split at t
 .rename_i a;split at t
  .rename_i c o;simp only[zC]at t;subst t;obtain⟨p,s⟩:=d8 _ _ _ _ o;refine⟨.agg ((⟨I⟩:Array Value).extract off (off+n)), ?_, ?_⟩
   .simp only[part,zH,hX.run_isAgg hd,hX.run_size m,Result.andThen,a,if_true];rfl
   .refine⟨((⟨I⟩:Array Value).extract off (off+n)).toList,rfl, ?_⟩;rw[p,Array.toList_extract];have:=(hl.drop off).take n;simpa[List.extract,List.take_drop]using this
  .simp at t
 .rename_i a;rw[ZH]at t;obtain⟨v,q,f⟩:=VRL.get _ _ hl _ _ t;refine⟨v, ?_,f⟩;have i:fU L=false:=by simpa using a
  have j:(⟨I⟩:Array Value)[off]? =some v:=by simpa using q
  simp only[part,zH,hX.run_isAgg hd,Result.andThen,i,zM,qE,j];rfl
theorem zHE {x r:AV}(t:VE X h x n=some r)(o:VR R x i): ∃z,(Instr.field h i n).run P w= .ok z w/\VR R r z:=by
 unfold VE at t;split at t
 .rename_i fs cs hd;split at t
  .rename_i fl a;split at t
   .rename_i d f v p;obtain⟨l,rfl,hl⟩:=o;obtain⟨z,q,j⟩:=zFD hX (w:=w) v p hl t;refine⟨z, ?_,j⟩;rw[zBS]at a;have m:fs[n]? =some fl:=by simpa using a
    simp only[Instr.field,zH,hX.run_und hd,Result.andThen,m];exact q
   .simp at t
  .simp at t
 .simp at t
theorem zHD {x v r:AV}(t:WD X h x v=some r)(j:VR R x i)(q:VR R v s): ∃z,(Instr.index h i s).run P w= .ok z w/\VR R r z:=by
 unfold WD at t;split at t
 .rename_i m hm;obtain⟨k,rfl⟩:=U8 hm q;split at t
  .rename_i len F hd;obtain⟨u,rfl,rfl,rfl⟩:=j;simp only[zG,qD]at t;split at t
   .rename_i a;rw[kI,zC]at t;subst t;refine⟨.int .u8 u[m].toNat, ?_, ?_⟩
    .have e:(if 0<=(m:Int)then u[(m:Int).toNat]? else none)=some u[m]:=by
      rw[if_pos (by omega),yI];exact getElem?_pos u m a
     simp only[Instr.index,asIntOf,zH,zL,hX.run_und hd,Result.andThen,e]
    .simp only[VR];congr 1;have:=zCI u.data.toList m (by rw[size_data];exact a);rw[pow8];have y:u.data.toList[m]'(by rw[size_data];exact a)=u[m]:=by simp;rfl
     rw[<-y,this];rfl
   .simp at t
  .rename_i n e cs hd;obtain⟨l,rfl,hl⟩:=j;split at t
   .rename_i d sz o f;simp only[zG,qD]at t;split at t
    .rename_i a;obtain⟨z,C,p⟩:=zFD hX (w:=w) (off:=m*sz) o f hl (by rw[zG];exact t);refine⟨z, ?_,p⟩;simp only[Instr.index,asIntOf,zH,zL,hX.run_und hd,Result.andThen];rw[if_pos (by omega)];simp only[zH,hX.run_size f,Result.andThen,yI];exact C
    .simp at t
   .simp at t
  .simp at t
 .simp at t
theorem B9 {x v r:AV}(t:bB X h x v=some r)(f:VR R x i)(o:VR R v s): ∃z,(Instr.indexAt h i s).run P w= .ok z w/\VR R r z:=by
 unfold bB at t;split at t
 .rename_i m hm;obtain⟨k,rfl⟩:=U8 hm o;split at t
  .rename_i n e A off hd;obtain⟨b,d,c,hr,rfl⟩:=f;split at t
   .rename_i sz a;simp only[zG,qD]at t;split at t
    .rename_i j;rw[kI,zC]at t;subst t;refine⟨.pointer (some ⟨b,d+(off+m*sz),none⟩), ?_,b,d,c,hr,rfl⟩;simp only[Instr.indexAt,asIntOf,zH,zL,hX.run_und hd,Result.andThen,Instr.sureAddr];rw[if_pos (by omega)];simp only[zH,hX.run_size a,Result.andThen,yI,xH,Nat.add_assoc,zL]
    .simp at t
   .simp at t
  .rename_i e A off len cc hd;obtain⟨b,d,c,hr,rfl⟩:=f;split at t
   .rename_i sz a;simp only[zG,qD]at t;split at t
    .rename_i j;rw[kI,zC]at t;subst t;refine⟨.pointer (some ⟨b,d+(off+m*sz),none⟩), ?_,b,d,c,hr,rfl⟩;simp only[Instr.indexAt,asIntOf,zH,zL,hX.run_und hd,Result.andThen];rw[if_pos (by omega)];simp only[zH,hX.run_size a,Result.andThen,yI,xH,Nat.add_assoc,zL]
    .simp at t
   .simp at t
  .simp at t
 .simp at t
theorem BC {x r:AV}(t:fC X h x n=some r)(o:VR R x i): ∃z,(Instr.fieldAt h i n).run P w= .ok z w/\VR R r z:=by
 unfold fC at t;split at t
 .rename_i fs A off hd;split at t
  .rename_i fl a;rw[zBS]at a;have f:fs[n]? =some fl:=by simpa using a
   split at t
   .simp at t
   .rename_i sz j m;rw[kI,zC]at t;subst t;obtain⟨b,d,c,hr,rfl⟩:=o;have p: ¬sz=0:=fun e=>j (by rw[e])
    refine⟨.pointer (some ⟨b,d+(off+fl.offset),none⟩), ?_,b,d,c,hr,rfl⟩;simp only[Instr.fieldAt,zH,hX.run_und hd,Result.andThen,f,Instr.sureAddr,zL,fieldPlace,hX.run_size m,if_neg p,xH,Nat.add_assoc]
   .simp at t
  .simp at t
 .simp at t
theorem zMy {ty:TypeId}{x r:AV}(f:F[0]? =some h)(t:zMz X h x=some r)(a:VR R x i): ∃z,(Builtin.cap_ F ty #[i]).run P w= .ok z w/\VR R r z:=by
 unfold zMz at t;split at t
 .rename_i e hd;simp only[zC]at t;subst t;simp only[VR]at a;subst a;exact⟨goInt 0,by simp[Builtin.cap_,f,zH,hX.run_und hd,zL],rfl⟩
 .rename_i e A off len cc hd;simp only[zG,zX]at t;split at t
  .rename_i v;rw[kI,zC]at t;subst t;obtain⟨b,d,c,hr,rfl⟩:=a;refine⟨goInt (cc / 2:Nat), ?_,rfl⟩;have:uU cc c=cc / 2:=by simp[uU,v]
   simp[Builtin.cap_,f,zH,hX.run_und hd,zL,this]
  .simp at t
 .simp at t
theorem zHI {x r:AV}(s:VH X h a x=some r)(d:VR R x i): ∃z,(convert h a i).run P w= .ok z w/\VR R r z:=by
 unfold VH at s;split at s
 .simp at s
 .rename_i o f;split at s
  .rename_i k hd;split at s
   .rename_i k' n;rw[vZ,zC]at s;subst s;simp only[VR]at d;subst d;exact⟨.int k (k.wrap n),by simp[convert,zH,hX.run_und f,hX.run_und hd,Conv.intToInt,zL],rfl⟩
   .simp at s
  .rename_i hd;split at s
   .rename_i l b;simp only[zC]at s;subst s;obtain⟨v,rfl,j,m⟩:=d;exact⟨.string v,by simp[convert,zH,hX.run_und f,hX.run_und hd,zL],v,rfl,j,m⟩
   .simp at s
  .simp at s
theorem zOs {f:UnOp}{x r:AV}(h:aun f x=some r)(a:VR R x i): ∃z,(Op.unary f i).run P w= .ok z w/\VR R r z:=by
 have _:=hX;unfold aun at h;split at h
 .rename_i k n;rw[vZ,zC]at h;subst h;simp only[VR]at a;subst a;exact⟨_,rfl,rfl⟩
 .rename_i b;rw[wC,zC]at h;subst h;simp only[VR]at a;subst a;exact⟨_,rfl,rfl⟩
 .simp at h
theorem zFF {env:Env}(C:EnvR R env n Q.tmps){r:AV}(fr:Y9 X env h J=some r):
  ∃z,(Instr.build h (J.map fun(i,x)=>(i,Q.eval x))).run P w= .ok z w/\VR R r z:=by
 unfold Y9 at fr;split at fr
 .rename_i z F;obtain⟨t,p,q⟩:=hX.run_zero R F w;split at fr
  .rename_i I hp;have j:=U4 C _ _ hp;rw[<-Array.toList_map]at j;split at fr
   .rename_i fs hd;split at fr
    .rename_i G v;split at fr
     .rename_i c m;simp only[zC]at fr;subst fr;obtain⟨arr',a,o⟩:=zC5 (place':=(G.toArray[·]?)) (fun i x f=>by rw[zFN]at f;simpa using f) j m (uB q);have u:=run_places w _ _ (zAf hX _ _ v);refine⟨.agg arr', ?_,arr'.toList,rfl,o⟩;simp at a;simp[Instr.build,zH,p,hX.run_und hd,Array.mapM_eq_mapM_toList,u,a,zL]
     .simp at fr
    .simp at fr
   .rename_i len e hd;split at fr
    .rename_i sz y;split at fr
     .rename_i c m;simp only[zC]at fr;subst fr;obtain⟨arr',a,o⟩:=zC5 (place':=fun i=>some (i*sz,sz)) (fun i x f=>f) j m (uB q);refine⟨.agg arr', ?_,arr'.toList,rfl,o⟩;simp at a;simp[Instr.build,zH,p,hX.run_und hd,hX.run_size y,a,zL]
     .simp at fr
    .simp at fr
   .simp at fr
  .simp at fr
 .simp at fr
theorem zLr {x r:AV}(arr:zNp X h x=some r)(a:VR R x i): ∃z,(Instr.arrayAt h i).run P w= .ok z w/\VR R r z:=by
 unfold zNp at arr;split at arr
 .rename_i A off len cc;split at arr
  .rename_i n e hd;simp only[zG,qT]at arr;split at arr
   .rename_i f;simp only[zC]at arr;subst arr;obtain⟨b,d,c,hr,rfl⟩:=a;refine⟨.pointer (some ⟨b,d+off,none⟩), ?_,b,d,c,hr,rfl⟩;simp only[Instr.arrayAt,zH,hX.run_und hd,Result.andThen];rw[if_neg (by omega)];rfl
   .simp at arr
  .simp at arr
 .simp at arr
omit hX in
theorem zNv {ts:Array TypeId}{ty:TypeId}{x y r:AV}(h:mn2 x y=some r)(v:VR R x i)(j:VR R y s): ∃z,(Builtin.min_ ts ty #[i,s]).run P w= .ok z w/\VR R r z:=by
 unfold mn2 at h;split at h
 .rename_i k a;split at h
  .rename_i k' b;simp only[VR]at v j;subst v j;rw[zG,uL]at h;refine⟨.int k (if b<a then b else a),by simp[Builtin.min_,Builtin.min2], ?_⟩
   split at h
   .rename_i f;have f:=of_decide_eq_true f;simp only[zC]at h;subst h;rw[if_pos f];rfl
   .rename_i f;have f: ¬b<a:=by simpa using f
    simp only[zC]at h;subst h;rw[if_neg f];rfl
  .simp at h
 .simp at h
omit hX in
theorem zNu {ts:Array TypeId}{ty:TypeId}{x y r:AV}(h:mx2 x y=some r)(v:VR R x i)(j:VR R y s): ∃z,(Builtin.max_ ts ty #[i,s]).run P w= .ok z w/\VR R r z:=by
 unfold mx2 at h;split at h
 .rename_i k a;split at h
  .rename_i k' b;simp only[VR]at v j;subst v j;rw[zG,uL]at h;refine⟨.int k (if b>a then b else a),by simp[Builtin.max_,Builtin.max2], ?_⟩
   split at h
   .rename_i f;have f:=of_decide_eq_true f;simp only[zC]at h;subst h;rw[if_pos f];rfl
   .rename_i f;have f: ¬a<b:=by simpa using f
    simp only[zC]at h;subst h;rw[if_neg f];rfl
  .simp at h
 .simp at h
include hR in
theorem simP {env:Env}(q:EnvR R env n Q.tmps){r:AV}(h:aP X env D.op=some r): ∃z,(execOp Q.eval D).run P w= .ok (.value z) w/\VR R r z:=by
 have u: ∀ {x:Operand} {f:AV->Option AV},b1 (opd env x) f=some r-> ∃a,VR R a (Q.eval x)/\f a=some r:=by
  intro x f hb;unfold b1 at hb;split at hb
  .rename_i a j;exact⟨a,kP q x a j,hb⟩
  .simp at hb
 have F: ∀ {x y:Operand} {f:AV->AV->Option AV},b2 (opd env x) (opd env y) f=some r-> ∃a b,VR R a (Q.eval x)/\VR R b (Q.eval y)/\f a b=some r:=by
  intro x y f hb;unfold b2 at hb;split at hb
  .rename_i a j;split at hb
   .rename_i b K;exact⟨a,b,kP q x a j,kP q y b K,hb⟩
   .simp at hb
  .simp at hb
 obtain⟨dst,V,ty,T,fr,S⟩:=D;simp only at h;unfold aP at h;split at h
 .exact⟨_,rfl,kP q _ _ h⟩
 .exact⟨_,rfl,kP q _ _ h⟩
 .rename_i c a b;unfold zE5 at h;split at h
  .rename_i s;have hb:=kP q _ _ s;simp only[VR]at hb;exact⟨_,by simp[execOp,hb,asBool,zH,zL],kP q _ _ h⟩
  .rename_i s;have hb:=kP q _ _ s;simp only[VR]at hb;exact⟨_,by simp[execOp,hb,asBool,zH,zL],kP q _ _ h⟩
  .simp at h
 .obtain⟨z,m,p⟩:=zFF hX (w:=w) q h;exact⟨z,xO m,p⟩
 .rename_i x;obtain⟨a,j,i⟩:=u h;unfold xZ at i;split at i<;>first | (simp at i;done) | skip
  .simp only[zC]at i;subst i;obtain⟨b,d,c,hr,e⟩:=id j;exact⟨_,by simp[execOp,e,zL];rfl,by rw[<-e];exact j⟩
  .simp only[zC]at i;subst i;obtain⟨xs,W,e,_⟩:=id j;exact⟨_,by simp[execOp,e,zL];rfl,by rw[<-e];exact j⟩
  .simp only[zC]at i;subst i;obtain⟨b,d,c,hr,e⟩:=id j;exact⟨_,by simp[execOp,e,zL];rfl,by rw[<-e];exact j⟩
 .rename_i U t x y _;obtain⟨a,b,j,hb,i⟩:=F h;obtain⟨m,z,p,N⟩:=zHL hX hR (w:=w) (ox:=x) (oy:=y) i j hb;refine⟨z,xO ?_,N⟩;simp only[zH,m,Result.andThen,p]
 .obtain⟨a,j,i⟩:=u h;obtain⟨z,m,p⟩:=zOs hX (w:=w) i j;exact⟨z,xO m,p⟩
 .obtain⟨a,j,i⟩:=u h;obtain⟨z,m,p⟩:=zHI hX (w:=w) i j;exact⟨z,xO m,p⟩
 .rename_i f first cap
  unfold zE6 at h;split at h
  .rename_i a j;split at h
   .rename_i b hb;simp only[zC]at h;subst h;refine⟨_,xO rfl, ?_⟩;exact⟨(first.map Q.eval).toList,(cap.map Q.eval).toList,rfl,by simpa using K1 q _ _ j,by simpa using K1 q _ _ hb⟩
   .simp at h
  .simp at h
 .obtain⟨a,j,i⟩:=u h;obtain⟨z,m,p⟩:=BC hX (w:=w) i j;exact⟨z,xO m,p⟩
 .obtain⟨a,j,i⟩:=u h;obtain⟨z,m,p⟩:=zHE hX (w:=w) i j;exact⟨z,xO m,p⟩
 .obtain⟨a,b,j,hb,i⟩:=F h;obtain⟨z,m,p⟩:=B9 hX (w:=w) i j hb;exact⟨z,xO m,p⟩
 .obtain⟨a,b,j,hb,i⟩:=F h;obtain⟨z,m,p⟩:=zHD hX (w:=w) i j hb;exact⟨z,xO m,p⟩
 .obtain⟨a,j,i⟩:=u h;obtain⟨z,m,p⟩:=zLr hX (w:=w) i j;exact⟨z,xO m,p⟩
 .rename_i Y O;obtain⟨a,j,i⟩:=u h;unfold jS at i;split at i
  .rename_i vs;rw[ZH]at i;obtain⟨l,e,hl⟩:=j;obtain⟨z,m,p⟩:=VRL.get _ _ hl _ _ i;refine⟨z,xO ?_,p⟩;have L:(⟨l⟩:Array Value)[O]? =some z:=by simpa using m
   simp only[Instr.extract,e,L];rfl
  .simp at i
 .rename_i c;split at h
  .rename_i s;split at h
   .rename_i x v;split at h
    .rename_i t ts J;obtain⟨a,j,i⟩:=u h;obtain⟨I,args,C⟩:=c;simp only at s v J;subst s;have M:C[0]? =some t:=by rw[<-yX,J];rfl
     obtain⟨z,m,p⟩:=zMy hX (w:=w) (ty:=ty) M i j;have G:args.map Q.eval= #[Q.eval x]:=by
      apply Array.toList_inj.1;simp[v]
     refine⟨z, ?_,p⟩;simp only[execOp,resolve,invoke,builtin,G,zH,zL,Result.andThen,m]
    .simp at h
   .simp at h
  .rename_i s;split at h
   .rename_i x y v;obtain⟨a,b,j,hb,i⟩:=F h;obtain⟨I,args,C⟩:=c;simp only at s v;subst s;have G:args.map Q.eval= #[Q.eval x,Q.eval y]:=by
     apply Array.toList_inj.1;simp[v]
    obtain⟨z,m,p⟩:=zNv (P:=P) (w:=w) (ts:=C) (ty:=ty) i j hb;exact⟨z,by simp only[execOp,resolve,invoke,builtin,G,zH,zL,Result.andThen,m],p⟩
   .simp at h
  .rename_i s;split at h
   .rename_i x y v;obtain⟨a,b,j,hb,i⟩:=F h;obtain⟨I,args,C⟩:=c;simp only at s v;subst s;have G:args.map Q.eval= #[Q.eval x,Q.eval y]:=by
     apply Array.toList_inj.1;simp[v]
    obtain⟨z,m,p⟩:=zNu (P:=P) (w:=w) (ts:=C) (ty:=ty) i j hb;exact⟨z,by simp only[execOp,resolve,invoke,builtin,G,zH,zL,Result.andThen,m],p⟩
   .simp at h
  .simp at h
 .simp at h
end
section
variable {P:Program}{X:Cx}(hX:Ok P X){R:Ren}{H:AH}{w:World}(hL:Rel R H w)
include hX hL
theorem zDE {p r:AV}(t:WC X h p H=some r)(o:VR R p i): ∃z,(Instr.loadAt h i).run P w= .ok z w/\VR R r z:=by
 unfold WC at t;split at t
 .rename_i A off;split at t
  .rename_i l e sz g j;obtain⟨b,d,c,hr,rfl⟩:=o;split at t
   .rename_i q hd;rw[zG]at t;split at t
    .rename_i a;split at t
     .rename_i n s;split at t
      .rename_i cs u;simp only[zC]at t;subst t;obtain⟨vs,f,v,x⟩:=hL.loads j hr (P:=P) u;refine⟨.agg vs.toArray, ?_,vs,rfl,v⟩;simp only[Instr.loadAt,Instr.sureAddr,loadVar,zH,zL,Result.andThen,hX.run_isAgg hd,a,if_true,hX.run_size s,f]
      .simp at t
     .simp at t
    .rename_i a;have m:fU q=false:=by simpa using a
     rw[ZH]at t;obtain⟨z,f,v⟩:=hL.cell j hr t;refine⟨z, ?_,v⟩;simp only[Instr.loadAt,Instr.sureAddr,loadVar,zH,zL,Result.andThen,hX.run_isAgg hd,m,zM,qE];simp[load,Sem.run,f]
   .simp at t
  .simp at t
 .simp at t
theorem zMx {ty:TypeId}{x r:AV}(v:F[0]? =some h)(t:zCk X h x H=some r)(f:VR R x i): ∃z,(Builtin.len_ F ty #[i]).run P w= .ok z w/\VR R r z:=by
 unfold zCk at t;split at t
 .rename_i l b hd;simp only[zC]at t;subst t;obtain⟨s,rfl,rfl,rfl⟩:=f;exact⟨goInt s.size,by simp[Builtin.len_,v,zH,hX.run_und hd,zL],rfl⟩
 .rename_i e hd;simp only[zC]at t;subst t;simp only[VR]at f;subst f;exact⟨goInt 0,by simp[Builtin.len_,v,zH,hX.run_und hd,zL],rfl⟩
 .rename_i e A off n cc hd;simp only[zC]at t;subst t;obtain⟨b,d,c,hr,rfl⟩:=f;exact⟨goInt n,by simp[Builtin.len_,v,zH,hX.run_und hd,zL],rfl⟩
 .rename_i e hd;simp only[zC]at t;subst t;obtain⟨a,c,rfl⟩:=f;exact⟨goInt 0,by simp[Builtin.len_,v,zH,hX.run_und hd,zL],rfl⟩
 .rename_i n e hd;simp only[zC]at t;subst t;exact⟨goInt n,by simp[Builtin.len_,v,zH,hX.run_und hd,zL],rfl⟩
 .rename_i k e hd;simp only[zC]at t;subst t;simp only[VR]at f;subst f;exact⟨goInt 0,by simp[Builtin.len_,v,zH,hX.run_und hd,zL],rfl⟩
 .rename_i k e A hd;split at t
  .rename_i ks es p;simp only[zC]at t;subst t;obtain⟨b,d,c,hr,rfl⟩:=f;obtain⟨arr,j,q,⟨m,hp,u,G⟩,_⟩:=hL.obj _ _ _ _ _ hr p;have o:arr.size=es.length:=by
    have y:=hp.length_eq;have C:=zOE _ _ u;simp at y C;omega
   have ts:(getObj b).run P w= .ok (.map arr j) w:=by simp[getObj,Sem.run,q]
   exact⟨goInt arr.size,by simp[Builtin.len_,v,zH,hX.run_und hd,ts,zL],by rw[o];rfl⟩
  .simp at t
 .simp at t
omit hX hL in
theorem BP: ∀ {l:List AV} {m:List Value} {n b:Nat},ZA l=some (n,b)->VRL R l m-> ∃a:List UInt8,m=a.map (fun c=>Value.int .u8 (c.toNat:Int))/\a.length=n/\pack a=b
 | [],m,n,b,h,hv=>by
  simp only[ZA,zC,zT]at h;simp only[VRL]at hv;subst hv;exact⟨[],rfl,h.1,h.2⟩
 | x::l,m,n,b,h,hv=>by
  unfold ZA at h;split at h
  .rename_i f;simp at f
  .rename_i k rest f;simp only[y9]at f;obtain⟨rfl,rfl⟩:=f;simp only[zG,qD]at h;split at h
   .rename_i i;split at h
    .rename_i s t hr;simp only[kI,zC,zT]at h;obtain⟨u,v,rfl,j,o⟩:=hv;obtain⟨a,rfl,p,q⟩:=BP hr o;simp only[VR]at j;subst j;refine⟨UInt8.ofNat k::a, ?_,by simp[p,<-h.1], ?_⟩
     .simp only[yK,UInt8.toNat_ofNat',y9,and_true];congr 1;rw[Nat.mod_eq_of_lt i];rfl
     .simp only[pack,UInt8.toNat_ofNat',q,<-h.2];rw[Nat.mod_eq_of_lt i]
    .simp at h
   .simp at h
  .simp at h
theorem zHJ {x r:AV}(s:YJ X h a x H=some r)(d:VR R x i): ∃z,(convert h a i).run P w= .ok z w/\VR R r z:=by
 unfold YJ at s;split at s
 .rename_i e v;split at s
  .rename_i hd;split at s
   .rename_i j;split at s
    .simp only[zC]at s;subst s;simp only[VR]at d;subst d;refine⟨.string .empty, ?_, .empty,rfl,rfl,rfl⟩;rw[run_convert_bytes_string w h a e none 0 0 (hX.und v) (hX.und j) (hX.und hd)];rfl
    .rename_i A off len cc;split at s
     .rename_i l I sz g p;split at s
      .rename_i cs q;split at s
       .rename_i n b t;rw[zAq,zC]at s;subst s;obtain⟨u,y,c,hr,rfl⟩:=d;obtain⟨vs,C,F,J⟩:=hL.loads p hr (P:=P) q;obtain⟨f,rfl,G,h5⟩:=BP t F;refine⟨.string ⟨f.toArray⟩, ?_,⟨f.toArray⟩,rfl,by simpa[ByteArray.size]using G,by simpa using h5⟩;rw[run_convert_bytes_string w h a e _ _ _ (hX.und v) (hX.und j) (hX.und hd)];have m:(loadCells ⟨u,y+off,none⟩ len).run P w= .ok ((f.map (fun b=>(b.toNat:Int))).map (Value.int .u8)).toArray w:=by
         rw[C];simp[List.map_map,Function.comp_def]
        rw[run_bytesToString w _ _ _ _ m,foldl_push_byteCells];have o:ByteArray.empty.data= #[]:=rfl;rw[o];simp
       .simp at s
      .simp at s
     .simp at s
    .simp at s
   .simp at s
  .simp at s
 .simp at s
end
inductive OR:Option Nat->Option Value->Prop
 | none:OR none none
 | some {n:Nat} {k:IntKind} :OR (some n) (some (.int k (n:Int)))
theorem K4 {R:Ren}{x:Option AV}(h:kX x=some U)(f:(x=none/\M=none)\/ ∃a u,x=some a/\M=some u/\VR R a u):OR U M:=by
 rcases f with⟨rfl,rfl⟩ | ⟨a,u,rfl,rfl,i⟩
 .simp only[kX,zC]at h;subst h;exact .none
 .simp only[kX]at h;split at h
  .rename_i m hm;simp only[zC]at h;subst h;obtain⟨k,rfl⟩:=U8 hm i;exact .some
  .simp at h
theorem wH {code:BoundsCode}(h:n<=E):(Instr.sliceBound (.int B (n:Int)) E code).run q t= .ok n t:=by
 simp only[Instr.sliceBound,asIntOf,zH,zL,Result.andThen];rw[if_pos (by omega)];simp[zL]
theorem VB {P:Program}{w:World}{is:Bool}{len cap:Nat}(o:OR U M)(p:OR (some E) f)(q:OR (some j) u)(hl:n=U.getD 0)(hm:j<=cap)(l:E<=j)(a:n<=E):
  (Instr.sliceBounds is len cap M f u).run P w= .ok (n,E,j) w:=by
 subst hl
 cases p;cases q;cases o
 .simp only[Instr.sliceBounds,zH,wH hm,wH l,zL,Result.andThen];rfl
 .simp only[yB]at a;simp only[Instr.sliceBounds,zH,wH hm,wH l,wH a,zL,Result.andThen];rfl
theorem bX {P:Program}{w:World}{is:Bool}{len cap:Nat}{hi:Option Nat}(j:OR U M)(m:OR hi f)(hl:n=U.getD 0)(o:E=hi.getD len)(l:E<=cap)(a:n<=E):
  (Instr.sliceBounds is len cap M f none).run P w= .ok (n,E,cap) w:=by
 subst hl o
 cases m<;>cases j
 .simp only[Instr.sliceBounds,zH,zL,Result.andThen];rfl
 .simp only[yB,Option.getD_none]at a;simp only[Instr.sliceBounds,zH,wH a,zL,Result.andThen];rfl
 .simp only[yB]at l;simp only[Instr.sliceBounds,zH,wH l,zL,Result.andThen];rfl
 .simp only[yB]at l a;simp only[Instr.sliceBounds,zH,wH l,wH a,zL,Result.andThen];rfl
theorem cK (c:Nat)(h:n % 2=0):uU n c=n / 2:=by
 have:(n % 2).beq 0=true:=by rw[zX];exact h
 simp only[uU,this,zU]
theorem xT (c:Nat)(h: ¬n % 2=0):uU n c=c - n / 2:=by
 have:(n % 2).beq 0=false:=by rw[yA,ne_eq,zX];exact h
 simp only[uU,this,yM]
theorem zCl {P:Program}{w:World}{R:Ren}{c off len cc sz room cp:Nat}{hi s:Option Nat}{r:AV}{is:Bool}(hR:R n E j c)(o:cp=uU cc c)(C:room<=cp)
  (h:YQ n off len cc sz room U hi s=some r) (v:OR U M) (x:OR hi f) (y:OR s u):
  ∃l h m,(Instr.sliceBounds is len cp M f u).run P w= .ok (l,h,m) w/\VR R r (.slice (some (if m=l then(⟨E,j+off,none⟩:Addr)else(⟨E,j+off,none⟩:Addr).add (l*sz))) (h - l) (m - l)):=by
 unfold YQ at h;simp only at h;split at h
 .rename_i m;split at h
  .rename_i z;simp only[zG]at h;split at h
   .rename_i a;simp only[zF,qT]at a;simp only[kI,zC]at h;subst h;refine⟨U.getD 0,z,m,VB v x y rfl (by omega) a.1.2 a.2,E,j,c,hR, ?_⟩;have b:uU (2*(m - U.getD 0)) c=m - U.getD 0:=by simp[uU]
    rw[b,xH];by_cases e:m=U.getD 0
    .rw[if_pos e];simp[zX,e]
    .rw[if_neg e];simp[zX,e,Nat.add_assoc]
   .simp at h
  .simp at h
 .cases y
  simp only[zG]at h;split at h
  .rename_i a;simp only[zF,qT]at a;have hb:=bX (P:=P) (w:=w) (is:=is) (cap:=cp) v x rfl rfl (by omega) a.2;refine⟨_,_,_,hb, ?_⟩;split at h
   .rename_i i;rw[zX]at i;simp only[kI,zC]at h;subst h;have A:cp=cc / 2:=by rw[o];simp[uU,i]
    refine⟨E,j,c,hR, ?_⟩;have b:uU (2*(cc / 2 - U.getD 0)) c=cp - U.getD 0:=by simp[uU,A]
    rw[b,xH];by_cases e:cp=U.getD 0
    .rw[if_pos e];rw[A]at e;simp[zX,e]
    .rw[if_neg e];rw[A]at e;simp[zX,e,Nat.add_assoc]
   .rename_i i;rw[zX]at i;have A:cp=c - cc / 2:=by rw[o,xT c i]
    split at h
    .rename_i p;rw[zX]at p;simp only[kI,zC]at h;subst h;refine⟨E,j,c,hR, ?_⟩;rw[p,jF,jF,<-o,Nat.zero_mul,xH,Nat.add_zero];split<;>rfl
    .rename_i p;split at h
     .rename_i q;rw[qD]at q;simp only[kI,zC]at h;subst h;refine⟨E,j,c,hR, ?_⟩;rw[if_neg (by omega),xH,Nat.add_assoc];have b:uU (cc+2*U.getD 0) c=cp - U.getD 0:=by
       rw[xT c (by omega),A];omega
      rw[b]
     .rename_i q;rw[qD]at q;simp only[zC]at h;subst h;exact⟨_,_,by rw[show hi.getD len - U.getD 0=0 from by omega]⟩
  .simp at h
theorem zAb {R:Ren}{H:AH}(hL:Rel R H t){c:Nat}{l:List AV}{e a off cc sz:Nat}(A:H.h.get n=some (.cells l e a Y))(hR:R n E j c)(s:0<sz):kS l Y a off cc sz<=uU cc c:=by
 unfold kS;rw[zG];split
 .rename_i f;rw[zX]at f;rw[cK c f];exact zP _
 .rename_i f;rw[zX]at f;rw[xT c f,zG];split
  .rename_i i;simp only[zF,zX]at i;obtain⟨⟨m,rfl⟩,rfl⟩:=i;obtain⟨arr,x,pre,l',q,y,z,C,o,h5,p,F,_⟩:=hL.cellsAt A hR;have w:=zOE l l' o;have u:=(p m).1;rw[kG];have v:l.length<=c*a:=by omega
   have:l.length - cc / 2*a<=(c - cc / 2)*a:=by rw[Nat.sub_mul];omega
   exact Nat.div_le_of_le_mul (by rw[Nat.mul_comm a];exact this)
  .exact Nat.zero_le _
section
variable {P:Program}{X:Cx}(hX:Ok P X){R:Ren}{H:AH}{w:World}(hL:Rel R H w)
include hX hL
theorem zHw {x r:AV}{lo hi F:Option AV}(t:aC X h x lo hi F H=some r)(j:VR R x i)
  (S:(lo=none/\M=none)\/ ∃a I,lo=some a/\M=some I/\VR R a I) (T:(hi=none/\f=none)\/ ∃a I,hi=some a/\f=some I/\VR R a I) (U:(F=none/\u=none)\/ ∃a I,F=some a/\u=some I/\VR R a I):
  ∃z,(Instr.sliceAt h i M f u).run P w= .ok z w/\VR R r z:=by
 unfold aC at t;split at t
 .rename_i N K O V W Y;have o:=K4 V S;have p:=K4 W T;have q:=K4 Y U;split at t
  .rename_i len a0 hd;split at t
   .unfold zHH at t;simp only[zG]at t;split at t
    .rename_i v;simp only[zF,qT]at v;rw[zAq,zC]at t;subst t;obtain⟨s,rfl,rfl,rfl⟩:=j
     cases q
     have hb:=bX (P:=P) (w:=w) (is:=false) (len:=s.size) (cap:=s.size) o p rfl rfl v.1 v.2;refine⟨.string (s.extract (N.getD 0) (K.getD s.size)), ?_,_,rfl, ?_, ?_⟩
     .simp only[Instr.sliceAt,Instr.slice,zH,hX.run_und hd,Result.andThen];simp[hb,zH,zL]
     .rw[ByteArray.size_extract];omega
     .rw[Lib.extract_data,zAi,JY,pow8,pow8]
    .simp at t
   .simp at t
  .rename_i e hd;split at t
   .rename_i sz G;simp only[zG]at t;split at t
    .rename_i v;simp only[zF,zX]at v;obtain⟨⟨⟨c1,c2⟩,c3⟩,Z⟩:=v;simp only[zC]at t;subst t;simp only[VR]at j;subst j;refine⟨.slice none 0 0, ?_,rfl⟩
     cases O with
     | none=>
      cases q
      have hb:=bX (P:=P) (w:=w) (is:=true) (len:=0) (cap:=0) o p rfl rfl (by omega) (by omega);simp[Instr.sliceAt,Instr.slice,zH,hX.run_und hd,hb,hX.run_size G,zL,c1,c2]
     | some m=>
      cases K with
      | none=>simp at Z
      | some J=>
       simp only[yB]at c2 c3;subst c2 c3;have hb:=VB (P:=P) (w:=w) (is:=true) (len:=0) (cap:=0) o p q rfl (zP _) (zP _) (by omega);simp[Instr.sliceAt,Instr.slice,zH,hX.run_und hd,hb,hX.run_size G,zL,c1]
    .simp at t
   .simp at t
  .rename_i e A off len cc hd;split at t
   .rename_i sz G;split at t
    .rename_i l e' a1 g hA;simp only[zG,qD]at t;split at t
     .rename_i C;obtain⟨b,d,c,hr,rfl⟩:=j;obtain⟨L,J,lv,hb,y⟩:=zCl (P:=P) (w:=w) (is:=true) hr rfl (zAb hL hA hr C) t o p q;refine⟨_, ?_,y⟩;simp only[Instr.sliceAt,Instr.slice,zH,hX.run_und hd,Result.andThen,hb,hX.run_size G,zL];congr 1;split<;>simp_all
     .simp at t
    .simp at t
   .simp at t
  .rename_i e hd;split at t
   .rename_i sz G;split at t
    .simp only[zG]at t;split at t
     .rename_i v;simp only[zF,zX]at v;obtain⟨c1,c2⟩:=v;simp only[zC]at t;subst t;obtain⟨a,cp,rfl⟩:=j
      cases q
      have hb:=bX (P:=P) (w:=w) (is:=true) (len:=0) (cap:=cp) o p rfl rfl (by omega) (by omega);rw[c1,c2]at hb;refine⟨.slice (some a) 0 cp, ?_,a,cp,rfl⟩;simp[Instr.sliceAt,Instr.slice,zH,hX.run_und hd,hb,hX.run_size G,zL,Addr.add]
     .simp at t
    .simp at t
   .simp at t
  .rename_i n e A off hd;split at t
   .rename_i sz G;simp only[zG,qD]at t;split at t
    .rename_i C;obtain⟨b,d,c,hr,rfl⟩:=j;obtain⟨L,J,lv,hb,y⟩:=zCl (P:=P) (w:=w) (is:=false) (cp:=n) hr (by simp[uU]) (zP _) t o p q;refine⟨_, ?_,y⟩;simp only[Instr.sliceAt,Instr.sureAddr,zH,hX.run_und hd,Result.andThen,hb,hX.run_size G,zL]
    .simp at t
   .simp at t
  .rename_i arr A off hd;split at t
   .rename_i n e Q;split at t
    .rename_i sz G;simp only[zG,qD]at t;split at t
     .rename_i C;obtain⟨b,d,c,hr,rfl⟩:=j;obtain⟨L,J,lv,hb,y⟩:=zCl (P:=P) (w:=w) (is:=false) (cp:=n) hr (by simp[uU]) (zP _) t o p q;refine⟨_, ?_,y⟩;simp only[Instr.sliceAt,Instr.slice,asAddr,zH,hX.run_und hd,hX.run_und Q,Result.andThen,hb,hX.run_size G,zL]
     .simp at t
    .simp at t
   .simp at t
  .simp at t
 .simp at t
omit hX hL in
theorem UA (h:ZN n H=true): ∃l e sz,H.h.get n=some (.cells l e sz false)/\0<sz:=by
 unfold ZN at h;split at h
 .rename_i o a
  cases o with
  | cells l e sz g=>
   cases g with
   | false=>exact⟨l,e,sz,a,by simpa using h⟩
   | true=>simp at h
  | _=>simp at h
 .simp at h
omit hX in
theorem zCV {c:Nat}(h:ZN n H=true)(r:R n E j c): ∃arr e,w.heap[E]? =some (.cells arr e (0,0)):=by
 obtain⟨l,e,sz,f,hp⟩:=UA h;obtain⟨arr,m,pre,l',A,a,_,_,_,i,_⟩:=hL.obj _ _ _ _ _ r f;rw[(i rfl).2.1 hp]at a;exact⟨arr,_,a⟩
theorem zJE {ox oy:Operand}{x y r:AV}(t:BD X C h x y H=some r)(q:VR R x i)(u:VR R y s):
  (eqGuard C h ox oy i s).run P w= .ok () w/\ ∃z,(binOp C h i s).run P w= .ok z w/\VR R r z:=by
 unfold BD at t;split at t
 .rename_i r' hr;simp only[zC]at t;subst t;exact zHL hX hL.fn hr q u
 .split at t
  .rename_i e hd;split at t
   .simp at t
   .rename_i k Y Z;have O: ¬k=0:=fun h0=>Y (by rw[h0])
    unfold pNe at t;split at t
    .rename_i A o;split at t
     .rename_i B p;rw[zG]at t;split at t
      .rename_i a;simp only[zF]at a;obtain⟨b1,d1,c1,j,rfl⟩:=id q;obtain⟨b2,d2,c2,F,rfl⟩:=id u;have Q:b1≠b2:=by
        rintro rfl
        obtain⟨l1,u1,s1,g1,_⟩:=UA a.1;obtain⟨l2,u2,s2,g2,_⟩:=UA a.2.1;have:=hL.inj _ _ _ _ _ _ _ j F ⟨_,g1,trivial⟩ ⟨_,g2,trivial⟩;subst this;have G:=a.2.2;rw[yO]at G;simp at G
       obtain⟨M,S,ha⟩:=zCV hL a.1 j;obtain⟨N,T,hb⟩:=zCV hL a.2.1 F;have e1:=hX.run_und hd w;have e2:=hX.run_size Z w;have I: ∀(m:Nat) (f v:Addr),f.block=b1->v.block=b2->(Op.equalIn (m+1) h (.pointer (some f)) (.pointer (some v))).run P w= .ok false w:=by
        intro m f v J K;have U:w.heap[f.block]? =some (.cells M S (0,0)):=by rw[J];exact ha
        have V:w.heap[v.block]? =some (.cells N T (0,0)):=by rw[K];exact hb
        have W: ¬f.block=v.block:=by rw[J,K];exact Q
        have L:(sameAddr f v).run P w= .ok false w:=by
         simp[sameAddr,W,World.frozen?,U,V,noView,viewAt,World.shape?,mayBeOne,stringish]
        simp only[Op.equalIn,zH,e1,e2,Result.andThen,ne_eq,O,yQ,if_true,L]
       refine⟨wD (by simp) (by simp), ?_⟩;split at t
       .rw[wC,zC]at t;subst t;refine⟨.bool false, ?_,rfl⟩;show(do pure (.bool (← Op.equal h _ _)):Sem Value).run P w=_
        simp only[Op.equal,Op.maxDepth,zH];rw[I 9999 _ _ rfl rfl];rfl
       .rw[wC,zC]at t;subst t;refine⟨.bool true, ?_,rfl⟩;show(do pure (.bool (!(← Op.equal h _ _))):Sem Value).run P w=_
        simp only[Op.equal,Op.maxDepth,zH];rw[I 9999 _ _ rfl rfl];rfl
       .simp at t
      .simp at t
     .simp at t
    .simp at t
   .simp at t
  .simp at t
theorem simL {env:Env}(p:EnvR R env n Q.tmps){r:AV}(h:aL X env H D.op=some r): ∃z,(execOp Q.eval D).run P w= .ok (.value z) w/\VR R r z:=by
 have v: ∀ {x:Operand} {f:AV->Option AV},b1 (opd env x) f=some r-> ∃a,VR R a (Q.eval x)/\f a=some r:=by
  intro x f hb;unfold b1 at hb;split at hb
  .rename_i a i;exact⟨a,kP p x a i,hb⟩
  .simp at hb
 have C: ∀ {x:Option Operand} {y:Option AV},fX env x=some y->(y=none/\x.map Q.eval=none)\/ ∃a u,y=some a/\x.map Q.eval=some u/\VR R a u:=by
  intro x y hb
  cases x with
  | none=>simp only[fX,zC]at hb;exact .inl ⟨hb.symm,rfl⟩
  | some x=>
   simp only[fX]at hb;split at hb
   .rename_i b J;simp only[zC]at hb;exact .inr ⟨b,_,hb.symm,rfl,kP p x b J⟩
   .simp at hb
 obtain⟨dst,op,ty,Z,W,Y⟩:=D;simp only at h;unfold aL at h;split at h
 .obtain⟨a,i,q⟩:=v h;obtain⟨z,j,m⟩:=zDE hX hL q i;exact⟨z,xO j,m⟩
 .unfold cY at h;split at h
  .rename_i a i;split at h
   .rename_i a0 K;split at h
    .rename_i a1 L;split at h
     .rename_i a2 M;obtain⟨z,j,m⟩:=zHw hX hL h (kP p _ _ i) (C K) (C L) (C M);exact⟨z,xO j,m⟩
     .simp at h
    .simp at h
   .simp at h
  .simp at h
 .unfold b2 at h;split at h
  .rename_i a i;split at h
   .rename_i b hb;unfold zHz at h;split at h
    .rename_i kt et s;split at h
     .rename_i ks O;split at h
      .rename_i z fr;obtain⟨S,j,m⟩:=zNA hX hL s O fr h (kP p _ _ i) (kP p _ _ hb);exact⟨S,xO j,m⟩
      .simp at h
     .simp at h
    .simp at h
   .simp at h
  .simp at h
 .obtain⟨a,i,q⟩:=v h;obtain⟨z,j,m⟩:=zHJ hX hL q i;exact⟨z,xO j,m⟩
 .rename_i a3 t x y _;unfold b2 at h;split at h
  .rename_i a i;split at h
   .rename_i b hb;obtain⟨j,z,m,T⟩:=zJE hX hL (ox:=x) (oy:=y) h (kP p _ _ i) (kP p _ _ hb);refine⟨z,xO ?_,T⟩;simp only[zH,j,Result.andThen,m]
   .simp at h
  .simp at h
 .rename_i c;split at h
  .rename_i F;split at h
   .rename_i x G;split at h
    .rename_i t ts s;obtain⟨a,i,q⟩:=v h;obtain⟨V,args,I⟩:=c;simp only at F G s;subst F;have N:I[0]? =some t:=by rw[<-yX,s];rfl
     obtain⟨z,j,m⟩:=zMx hX hL (ty:=ty) N q i;have U:args.map Q.eval= #[Q.eval x]:=by
      apply Array.toList_inj.1;simp[G]
     refine⟨z, ?_,m⟩;simp only[execOp,resolve,invoke,builtin,U,zH,zL,Result.andThen,j]
    .simp at h
   .simp at h
  .simp at h
 .simp at h
end
theorem WM (a b:Nat):List.range (a+b)=List.range a++(List.range b).map (a+ ·):=List.range_add
theorem K5 (z:Array Value)(n:Nat)(a:0<z.size):((Array.range (n*z.size)).map (z[· % z.size]!)).toList=(List.replicate n z.toList).flatten:=by
 rw[Array.toList_map,Array.toList_range]
 induction n with
 | zero=>simp
 | succ n ih=>
  rw[jO,Nat.add_comm,WM,List.map_append,List.replicate_succ,List.flatten_cons];congr 1
  .apply List.ext_getElem?;intro i;by_cases hi:i<z.size
   .simp[hi,Nat.mod_eq_of_lt hi]
   .simp[hi]
  .rw[<-ih,List.map_map];apply List.map_congr_left;intro j _;simp[Function.comp]
theorem zFl {R:Ren}{a:List AV}{z:List Value}(h:VRL R a z): ∀n,VRL R (rep n a) (List.replicate n z).flatten
 | 0=>rfl
 | n+1=>by
  rw[rep,List.replicate_succ,List.flatten_cons];exact h.append (zFl h n)
theorem Y2 {R:Ren} : ∀(a:List UInt8),VRL R (bytesOf a.length (pack a)) (a.map (fun b=>Value.int .u8 (b.toNat:Int)))
 | []=>rfl
 | b::a=>by
  have hb:b.toNat<256:=b.toNat_lt;have f:pack (b::a) % 256=b.toNat:=by simp only[pack];omega
  have h:pack (b::a) / 256=pack a:=by simp only[pack];omega
  simp only[zY,bytesOf,f,h,yK];exact⟨_,_,rfl,rfl,Y2 a⟩
def VJ (R:Ren)(P:Program)(s:Sem Value)(o:AObj)(a:Nat->AV)(w:World):Prop:=
 ∃(x:Obj) (c k:Nat) (z:Value),s.run P w= .ok z (World.alloc { w with drawn:=k} x)/\
  ∀A,zHY (R.add A w.heap.size 0 c) o 0 c (some x)/\VR (R.add A w.heap.size 0 c) (a A) z
section
variable {P:Program}{X:Cx}(hX:Ok P X){R:Ren}{w:World}
include hX
omit hX in
theorem zAv {x:AV}{s:Sem Value}(a:VR R x i)(f:s.run P w= .ok (.pointer (some ⟨w.heap.size,0,none⟩)) (w.alloc (.cells i.cells h))):
  VJ R P s (.cells (kF x) h 1 false) (fun A=> .ptr A 0) w:=by
 refine⟨.cells i.cells h,0,w.drawn,_,f,fun A=>⟨⟨i.cells,(0,0),[],i.cells.toList,[],rfl,by simp,rfl,VRL.mono (R.sub_add _ _ _ _) _ _ (uB a),fun _=>⟨rfl,fun _=>rfl,fun e=>by omega⟩,fun e=>by simp at e,fun _ v _=>by simp,[],rfl⟩, ?_⟩⟩;exact⟨w.heap.size,0,0,R.add_self _ _ _ _,rfl⟩
theorem zEx {env:Env}(N:EnvR R env n Q.tmps){o:AObj}{v:Nat->AV}(t:Z4 X env h E J=some (o,v)):
  VJ R P (Instr.buildSlice h E (J.map fun(i,x)=>(i,Q.eval x))) o v w:=by
 unfold Z4 at t;split at t
 .rename_i e hd;split at t
  .rename_i U hp;have p:=U4 N _ _ hp;rw[<-Array.toList_map]at p;split at t
   .rename_i sz F;split at t
    .rename_i z O;simp only[zG]at t;split at t
     .rename_i y;simp only[zF,qT,qD,zX,kG]at y;obtain⟨⟨c1,c2⟩,c3⟩:=y;split at t
      .rename_i cs G;simp only[zC,zT]at t;obtain⟨rfl,rfl⟩:=t;obtain⟨j,I,len⟩:=hX.run_zero R O w;have q:=uB len;have s:=zOE _ _ q;rw[yZ,c3]at s;have C: ∃a:Array Value,((E*sz=0/\a= #[])\/(¬E*sz=0/\a=j.cells))/\
         ((Array.range (E*sz)).map (a[· % a.size]!)).toList=(List.replicate E j.cells.toList).flatten:=by
        by_cases f:E*sz=0
        .refine⟨#[], .inl ⟨f,rfl⟩, ?_⟩;have:E=0:=by rcases Nat.mul_eq_zero.1 f with t | t<;>omega
         subst this;simp
        .refine⟨j.cells, .inr ⟨f,rfl⟩, ?_⟩;rw[show E*sz=E*j.cells.size from by rw[s]];exact K5 j.cells E (by omega)
       obtain⟨a,K,L⟩:=C;obtain⟨arr',fr,S⟩:=zC5 (R:=R) (place':=fun i=>some (i*sz,sz)) (fun i x T=>T) p G (arr:=(Array.range (E*sz)).map (a[· % a.size]!)) (by rw[L];exact zFl q E);refine⟨.cells arr' e,E,w.drawn, .slice (some ⟨w.heap.size,0,none⟩) E E, ?_,fun A=>⟨⟨arr',(0,0),[],arr'.toList,[],rfl,by simp,rfl,VRL.mono (R.sub_add _ _ _ _) _ _ S,fun _=>⟨rfl,fun _=>rfl,fun t=>by omega⟩,fun t=>by simp at t,fun _ i _=>by simp,[],rfl⟩, ?_⟩⟩
       .have M: ¬E*sz>2 ^ 24:=by omega
        simp only[Instr.buildSlice,zH,hX.run_und hd,Result.andThen,hX.run_size F];rw[if_neg M];have u:Instr.fill (fun i=>some (i*sz,sz)) ((Array.range (E*sz)).map (a[· % a.size]!)) (J.map fun x=>(x.fst,Q.eval x.snd)).toList=some arr':=fr;rcases K with⟨f,rfl⟩ | ⟨f,rfl⟩
        .rw[if_pos f];simp only[zH,zL,Result.andThen,u,newRow,newObj,Sem.run];rfl
        .rw[if_neg f];simp only[zH,zL,Result.andThen,I,u,newRow,newObj,Sem.run];rfl
       .exact⟨w.heap.size,0,E,R.add_self _ _ _ _,by rw[cK _ (by omega)];simp⟩
      .simp at t
     .simp at t
    .simp at t
   .simp at t
  .simp at t
 .simp at t
theorem zHQ {l c:Option AV}{o:AObj}{v:Nat->AV}(t:VI X h l c=some (o,v))(hl: ∀a,l=some a->VR R a i)(J: ∀a,c=some a->VR R a s):
  VJ R P (Instr.makeSlice h i s) o v w:=by
 unfold VI at t;split at t
 .rename_i n;split at t
  .rename_i m;have x:=hl _ rfl;have y:=J _ rfl;simp only[VR]at x y;subst x y;split at t
   .rename_i e hd;split at t
    .rename_i N C;split at t
     .rename_i z K;simp only[zG]at t;split at t
      .rename_i p;simp only[zF,qT,qD,zX,kG]at p;obtain⟨⟨⟨⟨c1,c2⟩,c3⟩,O⟩,L⟩:=p;simp only[zC,zT]at t;obtain⟨rfl,rfl⟩:=t;obtain⟨lv,f,hi,F,G⟩:=hX.zero R K;have j:=hX.ty _ _ C;rw[hi]at j;injection j with j;subst j
       have q:=uB G;have u:=zOE _ _ q;rw[yZ,L]at u;have hm:=run_make (P:=P) w h e lv f (hX.und hd) hi F .i64 .i64 (n:Int) (m:Int) (by omega) (by omega) (by
        have:((m*lv.bytes:Nat):Int)<=140737488355328:=by omega
        rw[Int.natCast_mul]at this;rw[Int.mul_comm];omega) (by omega)
       have I:(madeCells f.cells (m*lv.size)).toList=(List.replicate m f.cells.toList).flatten:=by
        have M:madeCells f.cells (m*lv.size)=(Array.range (m*lv.size)).map (f.cells[· % f.cells.size]!):=rfl;rw[M,show m*lv.size=m*f.cells.size from by rw[u]];exact K5 f.cells m (by omega)
       refine⟨_,m,w.drawn,_,hm,fun A=>⟨⟨_,(0,0),[],(List.replicate m f.cells.toList).flatten,[],rfl, ?_,rfl,VRL.mono (R.sub_add _ _ _ _) _ _ (zFl q m),fun _=>⟨rfl,fun _=>rfl,fun t=>by omega⟩,fun t=>by simp at t,fun _ lv _=>by simp,[],rfl⟩, ?_⟩⟩
       .simp only[yI,qW,yE];exact I
       .exact⟨w.heap.size,0,m,R.add_self _ _ _ _,by rw[cK _ (by omega),yV m (by omega:0<2),yI,yI]⟩
      .simp at t
     .simp at t
    .simp at t
   .simp at t
  .simp at t
 .simp at t
theorem zHK {x:AV}{o:AObj}{j:Nat->AV}(s:zBt X h a x=some (o,j))(t:VR R x i):VJ R P (convert h a i) o j w:=by
 unfold zBt at s;split at s
 .rename_i u;split at s
  .rename_i e hd;split at s
   .rename_i y;split at s
    .rename_i l b;simp only[zG,qD]at s;split at s
     .rename_i q;simp only[zC,zT]at s;obtain⟨rfl,rfl⟩:=s;obtain⟨st,rfl,rfl,rfl⟩:=t;generalize d:Question.cut (.appendCap st.size 0 e) (w.tape w.drawn (.appendCap st.size 0 e))=cap;have F:st.size<=cap:=by rw[<-d];simp only[Question.cut];omega
      have p:cap<9223372036854775808:=by
       rw[<-d];simp only[Question.cut];have C:st.size<4611686018427387904:=by first | exact q | omega
       have:=Nat.mod_lt (w.tape w.drawn (.appendCap st.size 0 e)) (show 2 ^ 63 - st.size>0 by omega);omega
      have G:(st.data.map fun b=>Value.int .u8 (b.toNat:Int)).toList=st.data.toList.map (fun b=>Value.int .u8 (b.toNat:Int)):=by simp
      refine⟨.cells ((st.data.map fun b=>Value.int .u8 (b.toNat:Int))++Array.replicate (cap - st.size) (.int .u8 0)) e (cap,cap+1),cap,w.drawn+1, .slice (some ⟨w.heap.size,0,none⟩) st.size cap, ?_,fun A=>⟨⟨_,(cap,cap+1),[],st.data.toList.map (fun b=>Value.int .u8 (b.toNat:Int)),List.replicate (cap - st.size) (.int .u8 0),rfl, ?_,rfl, ?_,fun s=>by simp at s,fun _=>⟨?_,p⟩,fun _ v hi=> ?_,_,VRL.replicate (x:= .int .u8 0) (v:= .int .u8 0) rfl _⟩, ?_⟩⟩
      .have f:((st.data.map fun b=>Value.int .u8 (b.toNat:Int))++Array.replicate (cap - st.size) (Value.int .u8 0)).size=cap:=by
        simp;omega
       have z:(choose (.appendCap st.size 0 e)).run P w= .ok cap { w with drawn:=w.drawn+1} :=by
        simp only[choose,Sem.run,Question.forced,zM,qE,d]
       have m:(convert h a (.string st)).run P w=(Conv.stringToBytes e st).run P w:=by
        simp[convert,zH,hX.run_und u,hX.run_und hd,hX.run_und y]
       rw[m];simp only[Conv.stringToBytes,zH,z,Result.andThen,newRow,newObj,Sem.run,zL,markStringish,shape,World.shape?,Array.getElem?_push_size,f,freeze,World.freeze];simp[World.alloc,zL];apply Array.ext_getElem?;intro v;rw[Array.getElem?_modify];by_cases hi:v=w.heap.size
       .subst hi;simp[f]
       .simp only[Array.getElem?_push,if_neg hi,if_neg (Ne.symm hi)]
      .simp
      .rw[<-size_data];exact Y2 _
      .simp[size_data];omega
      .simp at hi;simp;omega
      .exact⟨w.heap.size,0,cap,R.add_self _ _ _ _,by rw[xT _ (by omega)];simp⟩
     .simp at s
    .simp at s
   .simp at s
  .simp at s
 .simp at s
theorem simA {env:Env}(f:EnvR R env n Q.tmps){m:AObj}{p:Nat->AV}(h:aA X env D.op=some (m,p)):
  ∃s:Sem Value,execOp Q.eval D=(do pure (Next.value (← s)))/\VJ R P s m p w:=by
 obtain⟨dst,F,ty,C,v,y⟩:=D;simp only at h;unfold aA at h;split at h
 .rename_i e;refine⟨_,rfl, ?_⟩;unfold aA1 at h;split at h
  .rename_i z j;simp only[zC,zT]at h;obtain⟨rfl,rfl⟩:=h;obtain⟨G,q,u⟩:=hX.run_zero R j w;refine zAv u ?_;simp only[Instr.alloc,zH,q,Result.andThen,newVar,newRow,newObj,Sem.run,zL];rfl
  .simp at h
 .rename_i e x;refine⟨_,rfl, ?_⟩;unfold aA1 at h;split at h
  .rename_i z j;simp only[zC,zT]at h;obtain⟨rfl,rfl⟩:=h;refine zAv (kP f _ _ j) ?_;simp only[Instr.box,zH,Result.andThen,newVar,newRow,newObj,Sem.run,zL];rfl
  .simp at h
 .exact⟨_,rfl,zEx hX f h⟩
 .exact⟨_,rfl,zHQ hX h (fun a i=>kP f _ _ i) (fun a i=>kP f _ _ i)⟩
 .split at h
  .rename_i a i;exact⟨_,rfl,zHK hX h (kP f _ _ i)⟩
  .simp at h
 .rename_i t;refine⟨_,rfl, ?_⟩;unfold aMap at h;split at h
  .split at h
   .simp only[zC,zT]at h;obtain⟨rfl,rfl⟩:=h;refine⟨.map #[] 0,0,w.drawn, .map (some w.heap.size), ?_,fun A=>⟨⟨#[],0,rfl,⟨[],by simp,rfl,rfl⟩,by simp,List.Pairwise.nil,by simp[zCm]⟩,⟨_,_,_,R.add_self _ _ _ _,rfl⟩⟩⟩;simp[Instr.makeMap,newObj,zH,Sem.run]
   .simp at h
  .simp at h
 .simp at h
end
end Go.Eng
end



