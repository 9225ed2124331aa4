/- A checked evaluator for the program, and what it tells, part 1: no condition. -/
import GoSem.Step
import Derived.Control
import Derived.Calls
import Derived.Laws.NewBlocks
import Derived.Below
import Derived.Test.YtaaflpnhdkoaeaaGreatProg
import Derived.Lib.Strings
import Derived.WalkKit
import Derived.Deep.DeepAppendWide
import Derived.Laws.Tables
import Derived.Laws.StructEq
import Derived.ChangeKeysEq
import Derived.MapKept
import Derived.WideKeyRuns
set_option linter.all false
set_option linter.unusedVariables false
set_option linter.unusedSimpArgs false
set_option maxHeartbeats 8000000
set_option maxRecDepth 20000
namespace Go
def zB:=@Option.some.injEq
def zC:=@List.mem_cons_of_mem
def zE:=@Bool.and_eq_true
def zF:=@cond_eq_ite
def zH:=@Sem.run_bind
def zJ:=@List.getElem?_eq_getElem
def zK:=@List.mem_cons_self
def zL:=@Bool.false_eq_true
def zM:=@cond_true
def zO:=@Sem.run_pure
def zP:=@List.mem_cons
def zQ:=@Nat.le_refl
def zR:=@decide_eq_true_eq
def zT:=@List.length_append
def zU:=@Prod.mk.injEq
def zV:=@List.eq_nil_of_length_eq_zero
def zW:=@List.length_cons
def zX:=@List.take_of_length_le
def zY:=@Nat.beq_eq
def zZ:=@Option.map_some
def qA:=@List.length_take
def qB:=@List.mem_append
def qC:=@if_false
def qD:=@Nat.blt_eq
def qE:=@List.getD_eq_getElem?_getD
def qF:=@List.cons_append
def qG:=@List.flatMap_cons
def qH:=@cond_false
def qI:=@List.append_assoc
def qJ:=@List.take_succ_eq_append_getElem
def qK:=@List.length_drop
def qL:=@List.drop_eq_getElem_cons
def qM:=@List.take_append_drop
def qN:=@Bool.and_self
def qO:=@Option.isSome_iff_exists
def qP:=@Nat.le_trans
def qQ:=@Nat.lt_of_lt_of_le
def qR:=@List.getElem?_eq_some_iff
def qS:=@List.nil_append
def qT:=@List.drop_eq_nil_of_le
def qU:=@List.mem_map
def qV:=@Nat.ble_eq
def qW:=@List.getElem?_set_ne
def qX:=@List.append_nil
def qY:=@List.getElem_mem
def qZ:=@Option.getD_some
def y5:=@Array.getD_eq_getD_getElem?
def y6:=@List.mem_singleton
def y7:=@Int.toNat_natCast
def y8:=@Bool.eq_false_iff
def y9:=@List.all_eq_true
def yA:=@Int.lt_irrefl
def yB:=@List.drop_zero
def yC:=@List.mem_append_left
def yD:=@Option.some.inj
def yE:=@List.cons.injEq
def yF:=@Nat.beq_refl
def yG:=@Int.natCast_add
def yH:=@List.map_cons
def yI:=@Option.bind_some
def yJ:=@List.length_nil
def yK:=@Bool.eq_iff_iff
def yL:=@List.length_singleton
def yM:=@List.pairwise_cons
def yN:=@Nat.mul_le_mul_right
def yO:=@Bool.or_eq_true
def yP:=@decide_eq_false_iff_not
def yQ:=@Nat.mul_div_cancel_left
def yR:=@List.mem_append_right
def yS:=@Array.getElem?_toList
def yT:=@Bool.not_eq_true'
def yU:=@Array.length_toList
def yV:=@List.getElem?_cons_succ
def yW:=@Nat.zero_add
def yX:=@List.getElem?_append_left
def yY:=@List.drop_left'
def yZ:=@List.flatMap_append
def j5:=@List.pairwise_append
def j6:=@not_false_eq_true
def j7:=@Nat.add_mul
def j8:=@List.take_length
def j9:=@List.take_left'
def jA:=@List.getElem?_append_right
def jB:=@List.length_map
def jC:=@Nat.mul_mod_right
def jD:=@Nat.sub_zero
def jE:=@List.getElem?_drop
def jF:=@List.filter_append
def jG:=@List.getElem?_take_of_lt
def jH:=@List.getElem_of_mem
def jI:=@Nat.succ_mul
def jJ:=@List.getElem?_map
def jK:=@Option.isSome_some
end Go
section
namespace Go.Eng
inductive T (α:Type) where
 | leaf
 | node (l:T α) (v:Option α) (r:T α)
namespace T
variable {α:Type}
noncomputable def get (t:T α):Nat->Option α:=
 T.rec (motive:=fun _=>Nat->Option α) (fun _=>none)
  (fun _ v _ gl a n=>Bool.rec (Bool.rec (a (Nat.sub (Nat.div n 2) 1)) (gl (Nat.div n 2)) (Nat.beq (Nat.mod n 2) 1)) v (Nat.beq n 0)) t
noncomputable def zB4 (f:Nat):T α->Nat->α->Option (T α):=
 Nat.rec (motive:=fun _=>T α->Nat->α->Option (T α)) (fun _ _ _=>none)
  (fun _ h t n a=>T.rec (motive:=fun _=>Option (T α))
   (Bool.rec (Bool.rec
     (Option.rec none (fun r=>some (.node .leaf none r)) (h .leaf (Nat.sub (Nat.div n 2) 1) a))
     (Option.rec none (fun l=>some (.node l none .leaf)) (h .leaf (Nat.div n 2) a)) (Nat.beq (Nat.mod n 2) 1)) (some (.node .leaf (some a) .leaf)) (Nat.beq n 0))
   (fun l v r _ _=>Bool.rec (Bool.rec
     (Option.rec none (fun r=>some (.node l v r)) (h r (Nat.sub (Nat.div n 2) 1) a))
     (Option.rec none (fun l=>some (.node l v r)) (h l (Nat.div n 2) a)) (Nat.beq (Nat.mod n 2) 1)) (some (.node l (some a) r)) (Nat.beq n 0)) t) f
theorem zPG {β:Type}(p:Prop)[Decidable p](b:Bool)(h:b=true↔p)(x y:β):Bool.rec (motive:=fun _=>β) x y b=if p then y else x:=by
 cases b with
 | true=>rw[if_pos (h.1 rfl)]
 | false=>rw[if_neg (fun hp=>by have:=h.2 hp;simp at this)]
theorem get_leaf (n:Nat):get (.leaf:T α) n=none:=rfl
theorem uQ (l:T α)(v:Option α)(r:T α)(n:Nat):
  get (.node l v r) n=if n=0 then v else if n % 2=1 then l.get (n / 2)else r.get (n / 2 - 1):=by
 show Bool.rec (motive:=fun _=>Option α) (Bool.rec (motive:=fun _=>Option α) (r.get (n / 2 - 1)) (l.get (n / 2)) (Nat.beq (n % 2) 1)) v (Nat.beq n 0)=_;rw[zPG (n=0) _ (by rw[zY]),zPG (n % 2=1) _ (by rw[zY])]
theorem zHk (t:T α)(n:Nat)(a:α):zB4 0 t n a=none:=rfl
theorem zBs (f:Nat)(n:Nat)(a:α):zB4 (f+1) .leaf n a=
  if n=0 then some (.node .leaf (some a) .leaf)
  else if n % 2=1 then(match zB4 f .leaf (n / 2) a with | some l=>some (.node l none .leaf) | none=>none)
  else(match zB4 f .leaf (n / 2 - 1) a with | some r=>some (.node .leaf none r) | none=>none):=by
 show Bool.rec (motive:=fun _=>Option (T α)) (Bool.rec (motive:=fun _=>Option (T α))
   (Option.rec (motive:=fun _=>Option (T α)) none (fun r=>some (.node .leaf none r)) (zB4 f .leaf (n / 2 - 1) a))
   (Option.rec (motive:=fun _=>Option (T α)) none (fun l=>some (.node l none .leaf)) (zB4 f .leaf (n / 2) a)) (Nat.beq (n % 2) 1)) (some (.node .leaf (some a) .leaf)) (Nat.beq n 0)=_
 rw[zPG (n=0) _ (by rw[zY]),zPG (n % 2=1) _ (by rw[zY])]
 cases zB4 f .leaf (n / 2) a<;>cases zB4 f .leaf (n / 2 - 1) a<;>rfl
theorem zBr (f:Nat)(l:T α)(v:Option α)(r:T α)(n:Nat)(a:α):zB4 (f+1) (.node l v r) n a=
  if n=0 then some (.node l (some a) r)
  else if n % 2=1 then(match zB4 f l (n / 2) a with | some l'=>some (.node l' v r) | none=>none)
  else(match zB4 f r (n / 2 - 1) a with | some r'=>some (.node l v r') | none=>none):=by
 show Bool.rec (motive:=fun _=>Option (T α)) (Bool.rec (motive:=fun _=>Option (T α))
   (Option.rec (motive:=fun _=>Option (T α)) none (fun r=>some (.node l v r)) (zB4 f r (n / 2 - 1) a))
   (Option.rec (motive:=fun _=>Option (T α)) none (fun l=>some (.node l v r)) (zB4 f l (n / 2) a)) (Nat.beq (n % 2) 1)) (some (.node l (some a) r)) (Nat.beq n 0)=_
 rw[zPG (n=0) _ (by rw[zY]),zPG (n % 2=1) _ (by rw[zY])]
 cases zB4 f l (n / 2) a<;>cases zB4 f r (n / 2 - 1) a<;>rfl
theorem zD4: ∀(f:Nat) (t:T α) (n:Nat) (a:α),n+1<2 ^ f->(zB4 f t n a).isSome=true:=by
 intro f
 induction f with
 | zero=>intro t n a h;simp at h
 | succ f ih=>
  intro t n a h;have hp:2 ^ (f+1)=2*2 ^ f:=by rw[Nat.pow_succ];omega
  have j:n % 2=1->n / 2+1<2 ^ f:=fun _=>by omega
  have m:n≠0->n % 2≠1->n / 2 - 1+1<2 ^ f:=fun _ _=>by omega
  cases t with
  | leaf=>
   rw[zBs];split
   .rfl
   .rename_i i;split
    .rename_i hm;obtain⟨l,hl⟩:=qO.1 (ih .leaf (n / 2) a (j hm));rw[hl];rfl
    .rename_i hm;obtain⟨l,hl⟩:=qO.1 (ih .leaf (n / 2 - 1) a (m i hm));rw[hl];rfl
  | node l v r=>
   rw[zBr];split
   .rfl
   .rename_i i;split
    .rename_i hm;obtain⟨l',hl⟩:=qO.1 (ih l (n / 2) a (j hm));rw[hl];rfl
    .rename_i hm;obtain⟨l',hl⟩:=qO.1 (ih r (n / 2 - 1) a (m i hm));rw[hl];rfl
theorem zLs: ∀(f:Nat) (t:T α) (n:Nat) (a:α) (i:T α),zB4 f t n a=some i-> ∀m,get i m=if m=n then some a else get t m:=by
 intro f
 induction f with
 | zero=>intro t n a i h;simp[zHk]at h
 | succ f ih=>
  intro t n a i h m
  cases t with
  | leaf=>
   rw[zBs]at h;split at h
   .simp only[zB]at h;subst h;rw[uQ];by_cases hm:m=0<;>simp_all [get_leaf]
   .split at h
    .split at h
     .rename_i l hl;simp only[zB]at h;subst h;rw[uQ,ih _ _ _ _ hl];by_cases hm:m=0
      .rw[if_pos hm,if_neg (by omega),get_leaf]
      .by_cases hp:m % 2=1
       .rw[if_neg hm,if_pos hp];by_cases e:m=n
        .rw[if_pos (by omega),if_pos e]
        .rw[if_neg (by omega),if_neg e,get_leaf,get_leaf]
       .rw[if_neg hm,if_neg hp,if_neg (by omega),get_leaf,get_leaf]
     .simp at h
    .split at h
     .rename_i r hr;simp only[zB]at h;subst h;rw[uQ,ih _ _ _ _ hr];by_cases hm:m=0
      .rw[if_pos hm,if_neg (by omega),get_leaf]
      .by_cases hp:m % 2=1
       .rw[if_neg hm,if_pos hp,if_neg (by omega),get_leaf,get_leaf]
       .rw[if_neg hm,if_neg hp];by_cases e:m=n
        .rw[if_pos (by omega),if_pos e]
        .rw[if_neg (by omega),if_neg e,get_leaf,get_leaf]
     .simp at h
  | node l v r=>
   rw[zBr]at h;split at h
   .simp only[zB]at h;subst h;rw[uQ,uQ];by_cases hm:m=0<;>simp_all
   .split at h
    .split at h
     .rename_i l' hl;simp only[zB]at h;subst h;rw[uQ,uQ,ih _ _ _ _ hl];by_cases hm:m=0
      .rw[if_pos hm,if_neg (by omega),if_pos hm]
      .by_cases hp:m % 2=1
       .rw[if_neg hm,if_pos hp,if_neg hm,if_pos hp];by_cases e:m=n
        .rw[if_pos (by omega),if_pos e]
        .rw[if_neg (by omega),if_neg e]
       .rw[if_neg hm,if_neg hp,if_neg (by omega),if_neg hm,if_neg hp]
     .simp at h
    .split at h
     .rename_i j hr;simp only[zB]at h;subst h;rw[uQ,uQ,ih _ _ _ _ hr];by_cases hm:m=0
      .rw[if_pos hm,if_neg (by omega),if_pos hm]
      .by_cases hp:m % 2=1
       .rw[if_neg hm,if_pos hp,if_neg (by omega),if_neg hm,if_pos hp]
       .rw[if_neg hm,if_neg hp,if_neg hm,if_neg hp];by_cases e:m=n
        .rw[if_pos (by omega),if_pos e]
        .rw[if_neg (by omega),if_neg e]
     .simp at h
noncomputable def set (_f:Nat)(t:T α)(n:Nat)(a:α):Option (T α):=zB4 (Nat.succ (Nat.log2 (Nat.succ n))) t n a
theorem set_some (f:Nat)(t:T α)(n:Nat)(a:α):(set f t n a).isSome=true:=zD4 _ t n a Nat.lt_log2_self
theorem get_set (f:Nat)(t:T α)(n:Nat)(a:α)(i:T α)(h:set f t n a=some i): ∀m,get i m=if m=n then some a else get t m:=zLs _ t n a i h
noncomputable def ofList:Nat->List α->T α->Option (T α)
 | _,[],t=>some t
 | i,x::xs,t=>match set 40 t i x with
  | some t'=>ofList (i+1) xs t'
  | none=>none
theorem get_ofList: ∀(xs:List α) (i:Nat) (t a:T α),ofList i xs t=some a-> ∀m,get a m=if i<=m/\m<i+xs.length then xs[m - i]? else get t m:=by
 intro xs
 induction xs with
 | nil=>intro i t a h m;simp[ofList]at h;subst h;simp;omega
 | cons x xs ih=>
  intro i t a h m;simp only[ofList]at h;split at h
  .rename_i o j;rw[ih _ _ _ h m,get_set _ _ _ _ _ j];simp only[zW];by_cases e:m=i
   .subst e;rw[if_neg (by omega),if_pos rfl,if_pos (by omega)];simp
   .by_cases f:i<=m/\m<i+(xs.length+1)
    .rw[if_pos (by omega),if_pos f,show m - i=(m - (i+1))+1 from by omega,yV]
    .rw[if_neg (by omega),if_neg e,if_neg f]
  .simp at h
end T
def pack:List UInt8->Nat
 | []=>0
 | b::bs=>b.toNat+256*pack bs
inductive AV where
 | bool (b:Bool)
 | int (k:IntKind) (n:Int)
 | str (len bits:Nat)
 | nilPtr
 | ptr (A off:Nat)
 | nilSlice
 | slice (A off len cap:Nat)
 | emptySl
 | nilMap
 | map (A:Nat)
 | func (fn:FuncId) (first captured:List AV)
 | yieldTo (A:Nat)
 | nilFunc
 | iface (t:TypeId) (v:AV)
 | nilIface
 | agg (cells:List AV)
 | tuple (vs:List AV)
 | val (v:Value)
def uS (cc c:Nat):Nat:=bif (cc % 2).beq 0 then cc / 2 else c - cc / 2
abbrev Ren:=Nat->Nat->Nat->Nat->Prop
mutual
def VR (R:Ren):AV->Value->Prop
 | .bool b,v=>v= .bool b
 | .int k n,v=>v= .int k n
 | .str n b,v=> ∃s:ByteArray,v= .string s/\s.size=n/\pack s.data.toList=b
 | .nilPtr,v=>v= .pointer none
 | .ptr A off,v=> ∃b d c,R A b d c/\v= .pointer (some ⟨b,d+off,none⟩)
 | .nilSlice,v=>v= .slice none 0 0
 | .slice A off len cc,v=> ∃b d c,R A b d c/\v= .slice (some ⟨b,d+off,none⟩) len (uS cc c)
 | .emptySl,v=> ∃a c,v= .slice (some a) 0 c
 | .nilMap,v=>v= .map none
 | .map A,v=> ∃b d c,R A b d c/\v= .map (some b)
 | .func fn xs ys,v=> ∃xs' ys',v= .func (.func fn) ⟨xs'⟩ ⟨ys'⟩/\VRL R xs xs'/\VRL R ys ys'
 | .yieldTo A,v=> ∃b d c,R A b d c/\v= .func (.yield b) #[] #[]
 | .nilFunc,v=>v= .nilFunc
 | .iface t x,v=> ∃x',v= .iface t x'/\VR R x x'
 | .nilIface,v=>v= .nilIface
 | .agg xs,v=> ∃xs',v= .agg ⟨xs'⟩/\VRL R xs xs'
 | .tuple xs,v=> ∃xs',v= .tuple ⟨xs'⟩/\VRL R xs xs'
 | .val x,v=>v=x
def VRL (R:Ren):List AV->List Value->Prop
 | [],l=>l=[]
 | x::xs,l=> ∃x' xs',l=x'::xs'/\VR R x x'/\VRL R xs xs'
end
def Sub (R a:Ren):Prop:= ∀A b d c,R A b d c->a A b d c
theorem Sub.refl (R:Ren):Sub R R:=fun _ _ _ _ h=>h
def zRe:=@Sub.refl
theorem Sub.trans {R f a:Ren}(h:Sub R f)(k:Sub f a):Sub R a:=fun A b d c x=>k A b d c (h A b d c x)
mutual
theorem VR.mono {R R':Ren}(h:Sub R R'): ∀(x:AV) (v:Value),VR R x v->VR R' x v
 | .bool _,_,k=>k
 | .int _ _,_,k=>k
 | .str _ _,_,k=>k
 | .nilPtr,_,k=>k
 | .ptr _ _,_,k=>by simp only[VR]at k⊢;obtain⟨b,d,c,hr,e⟩:=k;exact⟨b,d,c,h _ _ _ _ hr,e⟩
 | .nilSlice,_,k=>k
 | .slice _ _ _ _,_,k=>by simp only[VR]at k⊢;obtain⟨b,d,c,hr,e⟩:=k;exact⟨b,d,c,h _ _ _ _ hr,e⟩
 | .emptySl,_,k=>k
 | .nilMap,_,k=>k
 | .map _,_,k=>by simp only[VR]at k⊢;obtain⟨b,d,c,hr,e⟩:=k;exact⟨b,d,c,h _ _ _ _ hr,e⟩
 | .func _ xs ys,_,k=>by simp only[VR]at k⊢;obtain⟨x,y,e,k1,k2⟩:=k;exact⟨x,y,e,VRL.mono h xs _ k1,VRL.mono h ys _ k2⟩
 | .yieldTo _,_,k=>by simp only[VR]at k⊢;obtain⟨b,d,c,hr,e⟩:=k;exact⟨b,d,c,h _ _ _ _ hr,e⟩
 | .nilFunc,_,k=>k
 | .iface _ x,_,k=>by simp only[VR]at k⊢;obtain⟨x',e,k1⟩:=k;exact⟨x',e,VR.mono h x _ k1⟩
 | .nilIface,_,k=>k
 | .agg xs,_,k=>by simp only[VR]at k⊢;obtain⟨x',e,k1⟩:=k;exact⟨x',e,VRL.mono h xs _ k1⟩
 | .tuple xs,_,k=>by simp only[VR]at k⊢;obtain⟨x',e,k1⟩:=k;exact⟨x',e,VRL.mono h xs _ k1⟩
 | .val _,_,k=>k
theorem VRL.mono {R R':Ren}(h:Sub R R'): ∀(xs:List AV) (l:List Value),VRL R xs l->VRL R' xs l
 | [],_,k=>k
 | x::xs,_,k=>by simp only[VRL]at k⊢;obtain⟨x',l',e,k1,k2⟩:=k;exact⟨x',l',e,VR.mono h x _ k1,VRL.mono h xs _ k2⟩
end
theorem VRL.length {R:Ren} : ∀(xs:List AV) (l:List Value),VRL R xs l->l.length=xs.length
 | [],_,k=>by simp only[VRL]at k;simp[k]
 | x::xs,_,k=>by simp only[VRL]at k;obtain⟨f,l',rfl,_,a⟩:=k;simp[VRL.length xs l' a]
def zRb:=@VRL.length
theorem VRL.get {R:Ren} : ∀(xs:List AV) (l:List Value),VRL R xs l-> ∀(i:Nat) (x:AV),xs[i]? =some x-> ∃v,l[i]? =some v/\VR R x v
 | [],_,_,i,x,h=>by simp at h
 | y::xs,_,k,i,x,h=>by
  simp only[VRL]at k;obtain⟨a,l',rfl,f,j⟩:=k
  cases i with
  | zero=>simp at h;subst h;exact⟨a,by simp,f⟩
  | succ i=>simp at h⊢;exact VRL.get xs l' j i x h
theorem VRL.of {R:Ren} : ∀(xs:List AV) (l:List Value),l.length=xs.length->(∀(i:Nat) (x:AV) (v:Value),xs[i]? =some x->l[i]? =some v->VR R x v)->VRL R xs l
 | [],l,hl,_=>by simp only[VRL];simpa using hl
 | x::xs,[],hl,_=>by simp at hl
 | x::xs,v::l,hl,h=>by
  simp only[VRL];exact⟨v,l,rfl,h 0 x v rfl rfl,VRL.of xs l (by simpa using hl) (fun i y u a f=>h (i+1) y u (by simpa using a) (by simpa using f))⟩
theorem VRL.append {R:Ren}{xs a:List AV}{l m:List Value}(h:VRL R xs l)(k:VRL R a m):VRL R (xs++a) (l++m):=by
 induction xs generalizing l with
 | nil=>simp only[VRL]at h;subst h;simpa using k
 | cons x xs ih=>simp only[VRL]at h;obtain⟨f,l',rfl,i,j⟩:=h;exact⟨f,l'++m,rfl,i,ih j⟩
theorem VRL.split {R:Ren}{xs f:List AV}{l:List Value}(h:VRL R (xs++f) l): ∃l1 a,l=l1++a/\VRL R xs l1/\VRL R f a:=by
 induction xs generalizing l with
 | nil=>exact⟨[],l,rfl,rfl,h⟩
 | cons x xs ih=>
  obtain⟨i,l',rfl,j,m⟩:=h;obtain⟨l1,a,rfl,o,p⟩:=ih m;exact⟨i::l1,a,rfl,⟨i,l1,rfl,j,o⟩,p⟩
theorem VRL.take {R:Ren}{xs:List AV}{l:List Value}(h:VRL R xs l)(n:Nat):VRL R (xs.take n) (l.take n):=by
 induction xs generalizing l n with
 | nil=>simp only[VRL]at h;subst h;simp[VRL]
 | cons x xs ih=>
  obtain⟨a,l',rfl,f,i⟩:=h
  cases n with
  | zero=>simp[VRL]
  | succ n=>exact⟨a,l'.take n,rfl,f,ih i n⟩
theorem VRL.drop {R:Ren}{xs:List AV}{l:List Value}(h:VRL R xs l)(n:Nat):VRL R (xs.drop n) (l.drop n):=by
 induction xs generalizing l n with
 | nil=>simp only[VRL]at h;subst h;simp[VRL]
 | cons x xs ih=>
  obtain⟨f,l',rfl,i,a⟩:=h
  cases n with
  | zero=>exact⟨f,l',rfl,i,a⟩
  | succ n=>exact ih a n
theorem VRL.set {R:Ren}{xs:List AV}{l:List Value}{x:AV}{v:Value}(h:VRL R xs l)(k:VR R x v)(n:Nat):VRL R (xs.set n x) (l.set n v):=by
 induction xs generalizing l n with
 | nil=>simp only[VRL]at h;subst h;simp[VRL]
 | cons y xs ih=>
  obtain⟨f,l',rfl,i,a⟩:=h
  cases n with
  | zero=>exact⟨v,l',rfl,k,a⟩
  | succ n=>exact⟨f,l'.set n v,rfl,i,ih a n⟩
theorem VRL.replicate {R:Ren}{x:AV}{v:Value}(k:VR R x v): ∀n,VRL R (List.replicate n x) (List.replicate n v)
 | 0=>rfl
 | n+1=>⟨v,List.replicate n v,rfl,k,VRL.replicate k n⟩
abbrev Env:=Nat->Option AV
def upd (env:Env)(d:Nat)(v:AV):Env:=fun t=>bif Nat.beq t d then some v else env t
theorem bC (env:Env)(d:Nat)(v:AV)(t:Nat):upd env d v t=if t=d then some v else env t:=by
 simp only[upd,zF,zY]
def uL:Env:=fun _=>none
structure ALoop where
 state:LoopState
 pending:Option Code
 fn:FuncId
 site:Nat
 live:List Nat
 vals:List AV
def sites:Code->List (Array Tmp×Code×Code)
 | .seq a b=>sites a++sites b
 | .cond _ a b=>sites a++sites b
 | .block _ a=>sites a
 | .loop a=>sites a
 | .scope a=>sites a
 | .rangeFunc _ ps a b=>(ps,a,b)::(sites a++sites b)
 | _=>[]
noncomputable def zAg (f:FuncId)(s:Nat):Option (Nat×Array Tmp×Code×Code):=
 match Go.Proofs.Tryz.prog.funcs[f]? with
 | some fn=>match fn.body with
  | some b=>match(sites b)[s]? with
   | some x=>some (fn.ntmps,x)
   | none=>none
  | none=>none
 | none=>none
def zPB:List Nat->List AV->Env->Env
 | l::L,v::vs,e=>zPB L vs (upd e l v)
 | _,_,e=>e
def envL (L:List Nat)(vs:List AV):Env:=zPB L vs uL
inductive AObj where
 | cells (c:List AV) (elem:TypeId) (sz:Nat) (grow:Bool)
 | map (ks:List Nat) (es:List (AV×AV))
 | loop (l:ALoop)
 | raw (x:Obj)
 | dead
structure AH where
 h:T AObj
 next:Nat
def jO:AV:= .tuple []
def look (env:Env)(t:Nat):Option AV:=env t
structure EnvR (R:Ren)(env:Env)(n:Nat)(tmps:Array Value):Prop where
 size:tmps.size=n
 get: ∀t x,look env t=some x->VR R x (tmps.getD t undef)
 out: ∀t,n<=t->look env t=none
def ZQ:IntKind->Nat
 | .i8=>3 | .i16=>4 | .i32=>5 | .i64=>6 | .u8=>7 | .u16=>8 | .u32=>9 | .u64=>10
def JX:AV->Nat
 | .bool _=>0
 | .str _ _=>2
 | .int k _=>ZQ k
 | _=>1
def wN:List AV->List Nat->Bool
 | [],[]=>true
 | x::xs,q::qs=>Nat.beq (JX x) q&&wN xs qs
 | _,_=>false
def keyOk (ks:List Nat)(k:AV):Bool:=
 match ks with
 | []=>false
 | q::qs=>bif Nat.beq q 1 then(match k with | .agg l=>wN l qs&& !qs.contains 1 | _=>false)else(match qs with | []=>Nat.beq (JX k) q | _::_=>false)
def MR (R:Ren)(es:List (AV×AV))(l:List MapEntry):Prop:=
 ∃m:List MapEntry,m.Perm l/\VRL R (es.map (·.1)) (m.map (·.key))/\VRL R (es.map (·.2)) (m.map (·.val))
def zDX (l:List MapEntry)(a:Nat):Prop:=(l.map (·.born)).Nodup/\ ∀e∈l,e.born<a
def tri:Nat->Nat
 | 0=>0
 | n+1=>tri n+n+1
theorem zMw {s t:Nat}(h:s<t):tri s+s+1<=tri t:=by
 induction t with
 | zero=>omega
 | succ t ih=>
  rcases Nat.lt_succ_iff_lt_or_eq.1 h with a | rfl
  .have:=ih a;simp only[tri];omega
  .simp[tri]
def enc (p:Nat×Nat):Nat:=tri (p.1+p.2)+p.2
theorem zOU {p q:Nat×Nat}(h:enc p=enc q):p=q:=by
 obtain⟨a,b⟩:=p;obtain⟨c,d⟩:=q;simp only[enc]at h;have e:a+b=c+d:=by
  rcases Nat.lt_trichotomy (a+b) (c+d)with f | f | f
  .have:=zMw f;omega
  .exact f
  .have:=zMw f;omega
 rw[e]at h;have hb:b=d:=by omega
 subst hb;have i:a=c:=by omega
 subst i;rfl
def zKo (R:Ren)(o:AObj)(d c:Nat)(x:Option Obj):Prop:=
 match o with
 | .cells l e sz g=> ∃(arr:Array Value) (f:Nat×Nat) (pre l' h:List Value),x=some (.cells arr e f)/\arr.toList=pre++(l'++h)/\pre.length=d/\VRL R l l'/\
   (g=false->h=[]/\(0<sz->f=(0,0))/\(sz=0->c=enc f))/\(g=true->l'.length+h.length=c*sz/\c<9223372036854775808)/\(0<sz-> ∀i,i<arr.size-> ¬(f.1<=i/\i<f.2))/\ ∃m,VRL R m h
 | .map ks es=> ∃(arr:Array MapEntry) (j:Nat),x=some (.map arr j)/\MR R es arr.toList/\(∀e∈es,keyOk ks e.1=true)/\es.Pairwise (fun a b=>a.1≠b.1)/\zDX arr.toList j
 | .loop l=> ∃(L:Loop) (nt:Nat),x=some (.loop L)/\zAg l.fn l.site=some (nt,L.params,L.assign,L.body)/\L.state=l.state/\L.pending=l.pending/\L.fn=l.fn/\EnvR R (envL l.live l.vals) nt L.tmps
 | .raw y=>x=some y
 | .dead=>True
def JW (H:AH)(A:Nat):Prop:= ∃o,H.h.get A=some o/\(match o with | .dead=>False | _=>True)
structure Rel (R:Ren)(H:AH)(w:World):Prop where
 fn: ∀A b d c b' d' c',R A b d c->R A b' d' c'->b=b'/\d=d'/\c=c'
 inj: ∀A A' b d c d' c',R A b d c->R A' b d' c'->JW H A->JW H A'->A=A'
 obj: ∀A b d c o,R A b d c->H.h.get A=some o->zKo R o d c w.heap[b]?
 lt: ∀A b d c,R A b d c->b<w.heap.size/\A<H.next
structure Ext (R:Ren)(H:AH)(w:World)(R':Ren)(H':AH)(w':World):Prop where
 sub:Sub R R'
 new: ∀A b d c,R' A b d c->R A b d c\/w.heap.size<=b\/ ∃A0 d0 c0,R A0 b d0 c0
 newA: ∀A b d c,R' A b d c->R A b d c\/H.next<=A
 next:H.next<=H'.next
 keepA: ∀A,A<H.next->(∀b d c,¬R A b d c)->H'.h.get A=H.h.get A
 os:w'.os=w.os
 tape:w'.tape=w.tape
 output:w'.output=w.output
 size:w.heap.size<=w'.heap.size
 keep: ∀b,b<w.heap.size->(∀A d c,¬R A b d c)->w'.heap[b]? =w.heap[b]?
theorem Ext.refl (R:Ren)(H:AH)(w:World):Ext R H w R H w:=
 ⟨zRe R,fun _ _ _ _ h=> .inl h,fun _ _ _ _ h=> .inl h,zQ _,fun _ _ _=>rfl,rfl,rfl,rfl,zQ _,fun _ _ _=>rfl⟩
def zRh:=@Ext.refl
theorem Ext.trans {R j a:Ren}{H H' f:AH}{w m i:World}(h:Ext R H w j H' m)(k:Ext j H' m a f i):Ext R H w a f i where
 sub:=h.sub.trans k.sub
 new A b d c x:=by
  rcases k.new A b d c x with y | y | ⟨o,p,q,y⟩
  .exact h.new _ _ _ _ y
  .exact .inr (.inl (qP h.size y))
  .rcases h.new _ _ _ _ y with z | z | z
   .exact .inr (.inr ⟨_,_,_,z⟩)
   .exact .inr (.inl z)
   .exact .inr (.inr z)
 newA A b d c x:=by
  rcases k.newA A b d c x with y | y
  .exact h.newA _ _ _ _ y
  .exact .inr (qP h.next y)
 next:=qP h.next k.next
 keepA A hA hR:=by
  rw[k.keepA A (qQ hA h.next) (fun b d c x=> ?_)]
  .exact h.keepA A hA hR
  .rcases h.newA _ _ _ _ x with y | y
   .exact hR _ _ _ y
   .omega
 os:=k.os.trans h.os
 tape:=k.tape.trans h.tape
 output:=k.output.trans h.output
 size:=qP h.size k.size
 keep b hb hR:=by
  rw[k.keep b (qQ hb h.size) (fun A d c x=> ?_)]
  .exact h.keep b hb hR
  .rcases h.new _ _ _ _ x with y | y | ⟨o,p,q,y⟩
   .exact hR _ _ _ y
   .omega
   .exact hR _ _ _ y
theorem Ext.drew (R:Ren)(H:AH)(w:World)(k:Nat):Ext R H w R H { w with drawn:=k} :=
 ⟨zRe R,fun _ _ _ _ h=> .inl h,fun _ _ _ _ h=> .inl h,zQ _,fun _ _ _=>rfl,rfl,rfl,rfl,zQ _,fun _ _ _=>rfl⟩
theorem Rel.drew {R:Ren}{H:AH}{w:World}(h:Rel R H w)(k:Nat):Rel R H { w with drawn:=k} :=⟨h.fn,h.inj,h.obj,h.lt⟩
theorem EnvR.mono {R f:Ren}(h:Sub R f){env:Env}{n:Nat}{a:Array Value}(k:EnvR R env n a):EnvR f env n a:=
 ⟨k.size,fun t x i=>VR.mono h _ _ (k.get t x i),k.out⟩
theorem MR.mono {R a:Ren}(h:Sub R a){es:List (AV×AV)}{l:List MapEntry}(k:MR R es l):MR a es l:=by
 obtain⟨m,hp,f,i⟩:=k;exact⟨m,hp,VRL.mono h _ _ f,VRL.mono h _ _ i⟩
theorem zKo.mono {R q:Ren}(h:Sub R q){o:AObj}{d c:Nat}{x:Option Obj}(k:zKo R o d c x):zKo q o d c x:=by
 cases o with
 | cells l e sz g=>
  obtain⟨arr,u,pre,l',s,a,f,i,j,m,p,v,z,C⟩:=k;exact⟨arr,u,pre,l',s,a,f,i,VRL.mono h _ _ j,m,p,v,z,VRL.mono h _ _ C⟩
 | map ks es=>obtain⟨arr,t,a,f,i⟩:=k;exact⟨arr,t,a,f.mono h,i⟩
 | loop l=>
  obtain⟨L,nt,a,f,i,j,m,p⟩:=k;exact⟨L,nt,a,f,i,j,m,p.mono h⟩
 | raw y=>exact k
 | dead=>trivial
theorem Rel.empty (w:World):Rel (fun _ _ _ _=>False) ⟨.leaf,0⟩ w:=
 ⟨fun _ _ _ _ _ _ _ h=>h.elim,fun _ _ _ _ _ _ _ h=>h.elim,fun _ _ _ _ _ h=>h.elim,fun _ _ _ _ h=>h.elim⟩
theorem Rel.fresh {R:Ren}{H:AH}{w:World}(h:Rel R H w){o:AObj}{f:T AObj}(p:T.set 40 H.h H.next o=some f):Rel R ⟨f,H.next+1⟩ w:=by
 have j:=T.get_set _ _ _ _ _ p;have i: ∀A b d c,R A b d c->A≠H.next:=fun A b d c r=>by have:=(h.lt _ _ _ _ r).2;omega
 have hl: ∀A b d c,R A b d c->JW ⟨f,H.next+1⟩ A->JW H A:=fun A b d c r ⟨o,a,hd⟩=>by
  simp only[j,if_neg (i _ _ _ _ r)]at a;exact⟨o,a,hd⟩
 exact⟨h.fn,fun A q b d c d' c' r m l l'=>h.inj A q b d c d' c' r m (hl _ _ _ _ r l) (hl _ _ _ _ m l'),
  fun A b d c o r a=>h.obj A b d c o r (by simpa only[j,if_neg (i _ _ _ _ r)]using a),
  fun A b d c r=>⟨(h.lt _ _ _ _ r).1,Nat.lt_succ_of_lt (h.lt _ _ _ _ r).2⟩⟩
def Ren.add (R:Ren)(a f h i:Nat):Ren:=fun A b d c=>R A b d c\/(A=a/\b=f/\d=h/\c=i)
theorem Ren.sub_add (R:Ren)(A b d c:Nat):Sub R (R.add A b d c):=fun _ _ _ _ h=> .inl h
theorem Ren.add_self (R:Ren)(A b d c:Nat):R.add A b d c A b d c:= .inr ⟨rfl,rfl,rfl,rfl⟩
theorem heap_alloc_old (w:World)(o:Obj)(k:Nat)(h:k<w.heap.size):(w.alloc o).heap[k]? =w.heap[k]? :=RowKit.Below.heap_alloc w o k h
theorem bL (w:World)(o:Obj):(w.alloc o).heap[w.heap.size]? =some o:=heap_alloc_new w o
theorem kS (w:World)(o:Obj):(w.alloc o).heap.size=w.heap.size+1:=by simp
theorem Rel.add {R:Ren}{H:AH}{w:World}(h:Rel R H w){A c:Nat}{o:AObj}{x:Obj}(j:H.h.get A=some o)(i:A<H.next)(f: ∀b d c,¬R A b d c)
  (m:zKo (R.add A w.heap.size 0 c) o 0 c (some x)):Rel (R.add A w.heap.size 0 c) H (w.alloc x):=by
 refine⟨?_, ?_, ?_, ?_⟩
 .rintro A1 b d c1 b' d' c' (r | ⟨rfl,rfl,rfl,rfl⟩) (r' | ⟨e1,rfl,rfl,rfl⟩)
  .exact h.fn _ _ _ _ _ _ _ r r'
  .subst e1;exact absurd r (f _ _ _)
  .exact absurd r' (f _ _ _)
  .exact⟨rfl,rfl,rfl⟩
 .rintro A1 A2 b d c1 d' c' (r | ⟨rfl,rfl,rfl,rfl⟩) (r' | ⟨rfl,e2,rfl,rfl⟩) l l'
  .exact h.inj _ _ _ _ _ _ _ r r' l l'
  .have:=(h.lt _ _ _ _ r).1;omega
  .have:=(h.lt _ _ _ _ r').1;omega
  .rfl
 .rintro A1 b d c1 p (r | ⟨rfl,rfl,rfl,rfl⟩) a
  .rw[heap_alloc_old _ _ _ (h.lt _ _ _ _ r).1];exact(h.obj _ _ _ _ _ r a).mono (R.sub_add _ _ _ _)
  .rw[bL];rw[j]at a;injection a with a;subst a
   exact m
 .rintro A1 b d c1 (r | ⟨rfl,rfl,rfl,rfl⟩)
  .rw[kS];exact⟨Nat.lt_succ_of_lt (h.lt _ _ _ _ r).1,(h.lt _ _ _ _ r).2⟩
  .rw[kS];exact⟨Nat.lt_succ_self _,i⟩
theorem Ext.add {R:Ren}{H:AH}{w:World}{c:Nat}{x:Obj}{o:AObj}{a:T AObj}(f:T.set 40 H.h H.next o=some a):Ext R H w (R.add H.next w.heap.size 0 c) ⟨a,H.next+1⟩ (w.alloc x) where
 sub:=R.sub_add _ _ _ _
 new A1 b d c1:=by
  rintro(r | ⟨rfl,rfl,rfl,rfl⟩)
  .exact .inl r
  .exact .inr (.inl (zQ _))
 newA A1 b d c1:=by
  rintro(r | ⟨rfl,rfl,rfl,rfl⟩)
  .exact .inl r
  .exact .inr (zQ _)
 next:=Nat.le_succ _
 keepA A hA _:=by
  show a.get A=_;rw[T.get_set _ _ _ _ _ f,if_neg (by omega)]
 os:=rfl
 tape:=rfl
 output:=rfl
 size:=by rw[kS];omega
 keep b hb _:=heap_alloc_old _ _ _ hb
theorem Rel.new {R:Ren}{H:AH}{w:World}(h:Rel R H w){c:Nat}{x:Obj}{o:AObj}{a:T AObj}(f:T.set 40 H.h H.next o=some a)(i:zKo (R.add H.next w.heap.size 0 c) o 0 c (some x)):
  Rel (R.add H.next w.heap.size 0 c) ⟨a,H.next+1⟩ (w.alloc x):=by
 refine(h.fresh f).add (o:=o) ?_ (Nat.lt_succ_self _) (fun b d c r=> ?_) i
 .show a.get _=_;rw[T.get_set _ _ _ _ _ f,if_pos rfl]
 .have:=(h.lt _ _ _ _ r).2;omega
def vU (w:World)(b:Nat)(x:Obj):World:= { w with heap:=w.heap.setIfInBounds b x}
theorem bB (w:World)(b:Nat)(x:Obj)(h:b<w.heap.size):(vU w b x).heap[b]? =some x:=by
 simp[vU,h]
theorem v8 (w:World)(b k:Nat)(x:Obj)(h:k≠b):(vU w b x).heap[k]? =w.heap[k]? :=by
 simp[vU,Array.getElem?_setIfInBounds,Ne.symm h]
theorem vD (w:World)(b:Nat)(x:Obj):(vU w b x).heap.size=w.heap.size:=by simp[vU]
theorem Rel.put {R:Ren}{H:AH}{w:World}(h:Rel R H w){A b d c:Nat}{o':AObj}{x:Obj}{q:T AObj}(hR:R A b d c)(hl:JW H A)(z:T.set 40 H.h A o'=some q)
  (m:zKo R o' d c (some x)):Rel R ⟨q,H.next⟩ (vU w b x):=by
 have t:=T.get_set _ _ _ _ _ z;have j: ∀p,JW ⟨q,H.next⟩ p->p≠A->JW H p:=fun p ⟨o,m,hd⟩ hne=>by
  simp only[t,if_neg hne]at m;exact⟨o,m,hd⟩
 refine⟨h.fn, ?_, ?_, ?_⟩
 .intro A1 A2 b1 u c1 F c2 r s l l';by_cases f:A1=A
  .by_cases i:A2=A
   .rw[f,i]
   .subst f;exact h.inj _ _ _ _ _ _ _ r s hl (j _ l' i)
  .by_cases i:A2=A
   .subst i;exact h.inj _ _ _ _ _ _ _ r s (j _ l f) hl
   .exact h.inj _ _ _ _ _ _ _ r s (j _ l f) (j _ l' i)
 .intro A1 b1 u c1 C r a;simp only[t]at a;by_cases f:A1=A
  .subst f;obtain⟨rfl,rfl,rfl⟩:=h.fn _ _ _ _ _ _ _ r hR;rw[if_pos rfl]at a;injection a with a;subst a
   rw[bB _ _ _ (h.lt _ _ _ _ r).1];exact m
  .rw[if_neg f]at a;by_cases v:b1=b
   .subst v;have y: ¬JW H A1:=fun l1=>f (h.inj _ _ _ _ _ _ _ r hR l1 hl)
    cases C with
    | dead=>trivial
    | _=>exact absurd ⟨_,a,trivial⟩ y
   .rw[v8 _ _ _ _ v];exact h.obj _ _ _ _ _ r a
 .intro A1 b1 u c1 r;rw[vD];exact h.lt _ _ _ _ r
theorem Ext.put {R:Ren}{H:AH}{w:World}{A b d c:Nat}{x:Obj}{o':AObj}{a:T AObj}(hR:R A b d c)(f:T.set 40 H.h A o'=some a):Ext R H w R ⟨a,H.next⟩ (vU w b x) where
 sub:=zRe R
 new _ _ _ _ h:= .inl h
 newA _ _ _ _ h:= .inl h
 next:=zQ _
 keepA A1 _ hk:=by
  show a.get A1=_;rw[T.get_set _ _ _ _ _ f,if_neg (fun e=>by subst e;exact hk _ _ _ hR)]
 os:=rfl
 tape:=rfl
 output:=rfl
 size:=by rw[vD];omega
 keep k _ hk:=v8 _ _ _ _ (fun e=>by subst e;exact hk _ _ _ hR)
section
variable {P:Program}{fr:Frame}{cs:List Frame}{w:World}{k:List Item}
theorem zH8 (hm:fr.mode= .run)(a:fr.todo= .code .skip::k):step P (lone fr cs w)= .next (lone { fr with todo:=k} cs w):=
 step_lone_go (by simp[stepG,stepG.exec,hm,a])
theorem zKE {l:Nat}(hm:fr.mode= .run)(a:fr.todo= .code (.label l)::k):step P (lone fr cs w)= .next (lone { fr with todo:=k} cs w):=
 step_lone_go (by simp[stepG,stepG.exec,hm,a])
theorem U9 {id:Nat}(hm:fr.mode= .run)(a:fr.todo= .inBlock id::k):step P (lone fr cs w)= .next (lone { fr with todo:=k} cs w):=
 step_lone_go (by simp[stepG,stepG.exec,hm,a])
theorem U8 {a b:Code}(hm:fr.mode= .run)(f:fr.todo= .code (.seq a b)::k):step P (lone fr cs w)= .next (lone { fr with todo:= .code a:: .code b::k} cs w):=
 step_lone_go (by simp[stepG,stepG.exec,hm,f])
theorem ZK {c:Operand}{a b:Code}{t:Bool}(hm:fr.mode= .run)(f:fr.todo= .code (.cond c a b)::k)(h:fr.eval c= .bool t):
  step P (lone fr cs w)= .next (lone { fr with todo:= .code (if t then a else b)::k} cs w):=
 step_lone_go (by simp[stepG,stepG.exec,hm,f,h])
theorem K2 {id:Nat}{c:Code}(hm:fr.mode= .run)(a:fr.todo= .code (.block id c)::k):step P (lone fr cs w)= .next (lone { fr with todo:= .code c:: .inBlock id::k} cs w):=
 step_lone_go (by simp[stepG,stepG.exec,hm,a])
theorem zH9 {c:Code}(hm:fr.mode= .run)(a:fr.todo= .code (.loop c)::k):step P (lone fr cs w)= .next (lone { fr with todo:= .code c:: .inLoop c::k} cs w):=
 step_lone_go (by simp[stepG,stepG.exec,hm,a])
theorem zBm {c:Code}(hm:fr.mode= .run)(a:fr.todo= .inLoop c::k):step P (lone fr cs w)= .next (lone { fr with todo:= .code c:: .inLoop c::k} cs w):=
 step_lone_go (by simp[stepG,stepG.exec,hm,a])
theorem zHa {id:Nat}{k':List Item}(hm:fr.mode= .run)(a:fr.todo= .code (.exit id)::k)(f:exitTo id k=some k'):step P (lone fr cs w)= .next (lone { fr with todo:=k'} cs w):=
 step_lone_go (by simp[stepG,stepG.exec,hm,a,f])
theorem zPV (hm:fr.mode= .run)(hr:fr.roundOf=none)(a:fr.todo= .code .ret::k):step P (lone fr cs w)= .next (lone { fr with mode:= .returning} cs w):=
 step_lone_go (by simp[stepG,stepG.exec,hm,a,hr])
theorem zPW (hm:fr.mode= .run)(hr:fr.roundOf=none)(a:fr.todo=[]):step P (lone fr cs w)= .next (lone { fr with mode:= .returning} cs w):=
 step_lone_go (by simp[stepG,stepG.exec,hm,a,hr])
theorem QE {id:Nat}{ops:Array Oper}(hm:fr.mode= .run)(a:fr.todo= .code (.region id ops false)::k):
  step P (lone fr cs w)= .next (lone { fr with todo:= .inRegion ops (List.range ops.size)::k} cs w):=
 step_lone_go (by simp[stepG,stepG.exec,hm,a])
theorem zNB {id:Nat}{ops:Array Oper}(hm:fr.mode= .run)(a:fr.todo= .code (.region id ops true)::k):
  step P (lone fr cs w)= .next (lone { fr with todo:= .inRegion ops (Region.schedule (P.follows .mixedOrders) ops (w.tape w.drawn (.order fr.fn id)))::k} cs { w with drawn:=w.drawn+1}):=
 step_lone_go (by simp[stepG,stepG.exec,hm,a,choose,Sem.run,Question.forced,Question.cut])
theorem xM {ops:Array Oper}(hm:fr.mode= .run)(a:fr.todo= .inRegion ops []::k):step P (lone fr cs w)= .next (lone { fr with todo:=k} cs w):=
 step_lone_go (by simp[stepG,stepG.exec,hm,a])
def zCV (t:Array Value):Option Tmp->Value->Array Value
 | some d,v=>t.setIfInBounds d v
 | none,_=>t
theorem kE {ops:Array Oper}{i:Nat}{rest:List Nat}{o:Oper}(a:fr.todo= .inRegion ops (i::rest)::k)(f:ops[i]? =some o)(v:Value):
  fr.finish v= { fr with tmps:=zCV fr.tmps o.dst v,todo:= .inRegion ops rest::k} :=by
 cases h:o.dst<;>simp[Frame.finish,a,f,h,zCV]
theorem WC {ops:Array Oper}{i:Nat}{rest:List Nat}{o:Oper}(hm:fr.mode= .run)(a:fr.todo= .inRegion ops (i::rest)::k)(f:ops[i]? =some o)
  (h:Region.wanted o (yielded ops fr.tmps)=false):step P (lone fr cs w)= .next (lone (fr.finish undef) cs w):=
 step_lone_go (by simp[stepG,stepG.exec,hm,a,f,h])
theorem zKD {ops:Array Oper}{i:Nat}{rest:List Nat}{o:Oper}(hm:fr.mode= .run)(a:fr.todo= .inRegion ops (i::rest)::k)(f:ops[i]? =some o)
  (j:Region.wanted o (yielded ops fr.tmps)=true) (hd: ∀c,o.op≠ .defer c):
  stepG P true { frame:=fr,callers:=cs,status:= .running,dying:=none} w=stepG.apply P true fr cs none (execOp fr.eval o) w:=by
 have m:stepG P true { frame:=fr,callers:=cs,status:= .running,dying:=none} w=stepG.oper P true fr cs none w:=by
  simp[stepG,stepG.exec,hm,a,f,j]
 rw[m];simp only[stepG.oper,Frame.oper?,a,f];split
 .rename_i l c _ h;exact absurd h (hd c)
 .rfl
theorem uP {ops:Array Oper}{i:Nat}{rest:List Nat}{o:Oper}{v:Value}{a:World}(hm:fr.mode= .run)(f:fr.todo= .inRegion ops (i::rest)::k)(h:ops[i]? =some o)
  (j:Region.wanted o (yielded ops fr.tmps)=true) (hd: ∀c,o.op≠ .defer c) (hr:(execOp fr.eval o).run P w= .ok (.value v) a):
  step P (lone fr cs w)= .next (lone (fr.finish v) cs a):=
 step_lone_go (by rw[zKD hm f h j hd];simp[stepG.apply,Sem.runT_eq,hr])
theorem zFH {ops:Array Oper}{i:Nat}{rest:List Nat}{o:Oper}{a:World}(hm:fr.mode= .run)(f:fr.todo= .inRegion ops (i::rest)::k)(h:ops[i]? =some o)
  (j:Region.wanted o (yielded ops fr.tmps)=true) (hd: ∀c,o.op≠ .defer c) (hr:(execOp fr.eval o).run P w= .ok .skip a):
  step P (lone fr cs w)= .next (lone (fr.finish undef) cs a):=
 step_lone_go (by rw[zKD hm f h j hd];simp[stepG.apply,Sem.runT_eq,hr])
theorem zKF {ops:Array Oper}{i:Nat}{rest:List Nat}{o:Oper}{f:FuncId}{args:Array Value}{a:World}(hm:fr.mode= .run)(h:fr.todo= .inRegion ops (i::rest)::k)(j:ops[i]? =some o)
  (m:Region.wanted o (yielded ops fr.tmps)=true) (hd: ∀c,o.op≠ .defer c) (hr:(execOp fr.eval o).run P w= .ok (.enter f args) a):
  step P (lone fr cs w)= .next (lone (Frame.enter P f args .normal) (fr::cs) a):=
 step_lone_go (by rw[zKD hm h j m hd];simp[stepG.apply,Sem.runT_eq,hr,h])
theorem zKC {ops:Array Oper}{i:Nat}{rest:List Nat}{o:Oper}{l f:Nat}{a:Array Value}{h body:Code}{j:World}(hm:fr.mode= .run)(m:fr.todo= .inRegion ops (i::rest)::k)(p:ops[i]? =some o)
  (q:Region.wanted o (yielded ops fr.tmps)=true) (hd: ∀c,o.op≠ .defer c) (hr:(execOp fr.eval o).run P w= .ok (.round l f a h body) j):
  step P (lone fr cs w)= .next (lone (Frame.round l f a h body .normal) (fr::cs) j):=
 step_lone_go (by rw[zKD hm m p q hd];simp[stepG.apply,Sem.runT_eq,hr])
end
end Go.Eng
end
section
noncomputable section
namespace Go.Eng
structure Cx where
 ty:T TypeInfo
 fl:List (TypeId×List Nat)
def Cx.und (X:Cx)(t:TypeId):Option TypeDesc:=
 match X.ty.get t with
 | some i=>match i.desc with
  | .named _ u=>match X.ty.get u with
   | some j=>some j.desc
   | none=>none
  | d=>some d
 | none=>none
def Cx.size (X:Cx)(t:TypeId):Option Nat:=
 match X.ty.get t with
 | some i=>some i.size
 | none=>none
mutual
def ofV:Value->Option AV
 | .bool b=>some (.bool b)
 | .int k n=>some (.int k n)
 | .string s=>some (.str s.data.toList.length (pack s.data.toList))
 | .pointer none=>some .nilPtr
 | .slice none 0 0=>some .nilSlice
 | .map none=>some .nilMap
 | .nilFunc=>some .nilFunc
 | .nilIface=>some .nilIface
 | .agg a=>match ofVA a with | some l=>some (.agg l) | none=>none
 | .tuple a=>match ofVA a with | some l=>some (.tuple l) | none=>none
 | _=>none
def ofVA:Array Value->Option (List AV)
 | ⟨l⟩=>zQc l
def zQc:List Value->Option (List AV)
 | []=>some []
 | v::l=>match ofV v,zQc l with
  | some x,some xs=>some (x::xs)
  | _,_=>none
end
def opd (env:Env):Operand->Option AV
 | .tmp t=>look env t
 | .const v=>ofV v
 | .func f=>some (.func f [] [])
 | .global _=>none
def zCW (env:Env):List Operand->Option (List AV)
 | []=>some []
 | x::xs=>match opd env x,zCW env xs with
  | some v,some vs=>some (v::vs)
  | _,_=>none
def jT:AV->List AV
 | .agg l=>l
 | .val v=>v.cells.toList.map AV.val
 | v=>[v]
def isCell:AV->Bool
 | .agg _=>false
 | .val _=>false
 | .tuple _=>false
 | _=>true
def jP:List AV->Bool
 | []=>true
 | v::l=>isCell v&&jP l
def d8:TypeDesc->Bool
 | .struct _=>true
 | .array _ _=>true
 | _=>false
def takeN:Nat->List AV->Option (List AV)
 | 0,_=>some []
 | n+1,x::xs=>match takeN n xs with | some r=>some (x::r) | none=>none
 | _+1,[]=>none
def uU:List AV->Nat->Nat->Option (List AV)
 | l,0,n=>takeN n l
 | _::l,o+1,n=>uU l o n
 | [],_+1,n=>bif n.beq 0 then some []else none
def nth:List AV->Nat->Option AV
 | x::_,0=>some x
 | _::l,n+1=>nth l n
 | [],_=>none
def over:List AV->List AV->Option (List AV)
 | l,[]=>some l
 | _::l,y::ys=>match over l ys with | some r=>some (y::r) | none=>none
 | [],_::_=>none
def setAt:List AV->Nat->List AV->Option (List AV)
 | l,0,new=>over l new
 | x::l,n+1,new=>match setAt l n new with | some r=>some (x::r) | none=>none
 | [],_+1,_=>none
def Z4:List AV->Nat->Nat
 | [],n=>n
 | _::l,n=>Z4 l (Nat.succ n)
def rep:Nat->List AV->List AV
 | 0,_=>[]
 | n+1,z=>z++rep n z
def aS (X:Cx)(t:TypeId):Option AV:=
 match X.ty.get t with
 | some i=>match i.zero with | some z=>ofV z | none=>none
 | none=>none
def zLc (H:AH)(o:AObj):Option (Nat×AH):=
 match T.set 40 H.h H.next o with
 | some t=>some (H.next,⟨t,H.next+1⟩)
 | none=>none
def newA (H:AH)(o:AObj):Option (Nat×AH):=
 match T.get H.h H.next with
 | none=>zLc H o
 | some _=>none
theorem fW {H H':AH}{o:AObj}{A:Nat}(h:newA H o=some (A,H')): ∃a,T.set 40 H.h H.next o=some a/\A=H.next/\H'=⟨a,H.next+1⟩/\T.get H.h H.next=none:=by
 unfold newA at h;split at h
 .rename_i f;unfold zLc at h;split at h
  .rename_i t i;simp only[zB,zU]at h;exact⟨t,i,h.1.symm,h.2.symm,f⟩
  .simp at h
 .simp at h
def fV (H:AH)(A:Nat)(o:AObj):Option AH:=
 match T.set 40 H.h A o with
 | some t=>some ⟨t,H.next⟩
 | none=>none
def fK (a:Nat->Option (Nat×Nat))(cells:List AV):List (Nat×AV)->Option (List AV)
 | []=>some cells
 | (i,v)::rest=>
  match a i with
  | none=>none
  | some (off,size)=>
   bif (Z4 (jT v) 0).beq size then
    match setAt cells off (jT v)with
    | some cells'=>fK a cells' rest
    | none=>none
   else none
def YP (X:Cx):List Field->Option (List (Nat×Nat))
 | []=>some []
 | f::fs=>match X.size f.type,YP X fs with
  | some n,some r=>some ((f.offset,n)::r)
  | _,_=>none
def zLb:List (Nat×Nat)->Nat->Option (Nat×Nat)
 | x::_,0=>some x
 | _::l,n+1=>zLb l n
 | [],_=>none
def uJ (env:Env):List (Nat×Operand)->Option (List (Nat×AV))
 | []=>some []
 | (i,x)::r=>match opd env x,uJ env r with
  | some v,some vs=>some ((i,v)::vs)
  | _,_=>none
def KA:IntKind->Nat
 | .i8 | .u8=>256
 | .i16 | .u16=>65536
 | .i32 | .u32=>4294967296
 | .i64 | .u64=>18446744073709551616
def zBX:IntKind->Nat
 | .i8 | .u8=>128
 | .i16 | .u16=>32768
 | .i32 | .u32=>2147483648
 | .i64 | .u64=>9223372036854775808
def zLu (k:IntKind):Int->Int
 | .ofNat m=>bif k.signed then(bif Nat.blt m (zBX k)then .ofNat m else k.wrap (.ofNat m))else .ofNat (m % KA k)
 | .negSucc m=>bif k.signed&&Nat.blt m (zBX k)then .negSucc m else k.wrap (.negSucc m)
def ilt:Int->Int->Bool
 | .ofNat m, .ofNat n=>Nat.blt m n
 | .ofNat _, .negSucc _=>false
 | .negSucc _, .ofNat _=>true
 | .negSucc m, .negSucc n=>Nat.blt n m
def ieq:Int->Int->Bool
 | .ofNat m, .ofNat n=>Nat.beq m n
 | .negSucc m, .negSucc n=>Nat.beq m n
 | _,_=>false
def keq:IntKind->IntKind->Bool
 | .i8, .i8 | .i16, .i16 | .i32, .i32 | .i64, .i64 | .u8, .u8 | .u16, .u16 | .u32, .u32 | .u64, .u64=>true
 | _,_=>false
def fN {α:Type}(n:Nat)(k:Nat->α):α:=Nat.rec (k 0) (fun m _=>k (Nat.succ m)) n
def fI {α:Type}(n:Int)(k:Int->α):α:=
 match n with
 | .ofNat m=>fN m fun m=>k (.ofNat m)
 | .negSucc m=>fN m fun m=>k (.negSucc m)
def mkI (k:IntKind)(n:Int):Option AV:=fI (zLu k n) fun n=>some (.int k n)
def mkB (b:Bool):Option AV:=match b with | true=>some (.bool true) | false=>some (.bool false)
def mkS (len a:Nat):Option AV:=fN len fun len=>fN a fun a=>some (.str len a)
def zBp:Nat->Nat->Nat->Nat->Bool
 | _,_,0,_=>false
 | 0,_,_+1,_=>true
 | l+1,b,m+1,c=>Nat.blt (b % 256) (c % 256)||(Nat.beq (b % 256) (c % 256)&&zBp l (b / 256) m (c / 256))
def Q2 (f:BinOp)(k:IntKind)(a b:Int):Option AV:=
 match f,a,b with
 | .and, .ofNat m, .ofNat n=>bif !k.signed&&Nat.blt m (KA k)&&Nat.blt n (KA k)then mkI k (.ofNat (Nat.land m n))else slow
 | .or, .ofNat m, .ofNat n=>bif !k.signed&&Nat.blt m (KA k)&&Nat.blt n (KA k)then mkI k (.ofNat (Nat.lor m n))else slow
 | .xor, .ofNat m, .ofNat n=>bif !k.signed&&Nat.blt m (KA k)&&Nat.blt n (KA k)then mkI k (.ofNat (Nat.xor m n))else slow
 | _,_,_=>slow
where slow:Option AV:=
 match f with
 | .and=>fI (k.wrap (BitVec.ofInt k.bits a&&& BitVec.ofInt k.bits b).toNat) fun n=>some (.int k n)
 | .or=>fI (k.wrap (BitVec.ofInt k.bits a||| BitVec.ofInt k.bits b).toNat) fun n=>some (.int k n)
 | .xor=>fI (k.wrap (BitVec.ofInt k.bits a ^^^ BitVec.ofInt k.bits b).toNat) fun n=>some (.int k n)
 | .andNot=>fI (k.wrap (BitVec.ofInt k.bits a&&& ~~~ BitVec.ofInt k.bits b).toNat) fun n=>some (.int k n)
 | _=>none
def gY (f:BinOp)(k:IntKind)(a:Int)(k':IntKind)(b:Int):Option AV:=
 match f with
 | .shl=>match b with
  | .ofNat n=>mkI k (a*(2 ^ (Nat.min n k.bits):Nat))
  | .negSucc _=>none
 | .shr=>match b with
  | .ofNat n=>fI (a.fdiv ((2 ^ (Nat.min n k.bits):Nat):Int)) fun r=>some (.int k r)
  | .negSucc _=>none
 | _=>bif keq k k' then
   match f with
   | .add=>mkI k (a+b)
   | .sub=>mkI k (a - b)
   | .mul=>mkI k (a*b)
   | .quo=>bif ieq b 0 then none else mkI k (a.tdiv b)
   | .rem=>bif ieq b 0 then none else fI (a.tmod b) fun r=>some (.int k r)
   | .and | .or | .xor | .andNot=>Q2 f k a b
   | .eql=>mkB (ieq a b)
   | .neq=>mkB (!ieq a b)
   | .lss=>mkB (ilt a b)
   | .leq=>mkB (!ilt b a)
   | .gtr=>mkB (ilt b a)
   | .geq=>mkB (!ilt a b)
   | _=>none
  else none
def zCS (a:BinOp)(l b m c:Nat):Option AV:=
 match a with
 | .add=>bif Nat.blt (l+m) 4611686018427387904 then mkS (l+m) (b+c*2 ^ (8*l))else none
 | .eql=>mkB (Nat.beq l m&&Nat.beq b c)
 | .neq=>mkB !(Nat.beq l m&&Nat.beq b c)
 | .lss=>mkB (zBp l b m c)
 | .leq=>mkB (zBp l b m c||(Nat.beq l m&&Nat.beq b c))
 | .gtr=>mkB !(zBp l b m c||(Nat.beq l m&&Nat.beq b c))
 | .geq=>mkB !(zBp l b m c)
 | _=>none
def aeq (X:Cx):Nat->TypeId->AV->AV->Option Bool
 | 0,_,_,_=>none
 | d+1,t,x,y=>
  match X.und t with
  | some .bool=>match x,y with
   | .bool a, .bool b=>some (a==b)
   | _,_=>none
  | some (.int _)=>match x,y with
   | .int k a, .int k' b=>bif keq k k' then some (ieq a b)else none
   | _,_=>none
  | some .string=>match x,y with
   | .str l b, .str m c=>some (Nat.beq l m&&Nat.beq b c)
   | _,_=>none
  | some (.pointer e)=>match x,y with
   | .nilPtr, .nilPtr=>some true
   | .nilPtr, .ptr _ _=>some false
   | .ptr _ _, .nilPtr=>some false
   | .ptr A o, .ptr B p=>match X.size e with
    | some 0=>none
    | some _=>bif Nat.beq A B then some (Nat.beq o p)else none
    | none=>none
   | _,_=>none
  | some (.slice _)=>match x,y with
   | .nilSlice, .nilSlice=>some true
   | .nilSlice, .slice _ _ _ _=>some false
   | .slice _ _ _ _, .nilSlice=>some false
   | _,_=>none
  | some (.map _ _)=>match x,y with
   | .nilMap, .nilMap=>some true
   | .nilMap, .map _=>some false
   | .map _, .nilMap=>some false
   | _,_=>none
  | some (.func _ _ _)=>match x,y with
   | .nilFunc, .nilFunc=>some true
   | .nilFunc, .func _ _ _=>some false
   | .func _ _ _, .nilFunc=>some false
   | _,_=>none
  | _=>none
def VB (q:Nat)(x y:AV):Option Bool:=
 match x,y with
 | .bool a, .bool b=>bif Nat.beq q 0 then some (a==b)else none
 | .int k a, .int k' b=>bif Nat.beq q (ZQ k)&&keq k k' then some (ieq a b)else none
 | .str l b, .str m c=>bif Nat.beq q 2 then some (Nat.beq l m&&Nat.beq b c)else none
 | _,_=>none
def u5:List Nat->List AV->List AV->Option Bool
 | [],[],[]=>some true
 | q::qs,x::xs,y::ys=>match VB q x y with
  | some true=>u5 qs xs ys
  | some false=>some false
  | none=>none
 | _,_,_=>none
def zDp (t:Nat):List (TypeId×List Nat)->Option (List Nat)
 | []=>none
 | (i,qs)::l=>bif Nat.beq i t then some qs else zDp t l
def zK9 (X:Cx)(f:BinOp)(t:TypeId)(a b:List AV):Option AV:=
 match zDp t X.fl with
 | some qs=>bif Nat.beq (Z4 a 0) (Z4 b 0)&&Nat.beq qs.length (Z4 a 0)then
   match u5 qs a b with
   | some r=>match f with
    | .eql=>mkB r
    | .neq=>mkB !r
    | _=>none
   | none=>none
  else none
 | none=>none
def wK:AV->Bool
 | .int _ _=>false
 | .str _ _=>false
 | .agg _=>false
 | .nilIface=>false
 | .iface _ _=>false
 | .tuple _=>false
 | .val _=>false
 | _=>true
def zCT (X:Cx)(a:BinOp)(t:TypeId)(x y:AV):Option AV:=
 match a with
 | .eql=>match aeq X 9 t x y with | some b=>mkB b | none=>none
 | .neq=>match aeq X 9 t x y with | some b=>mkB !b | none=>none
 | _=>none
def zKa (X:Cx)(f:BinOp)(t:TypeId)(x y:AV):Option AV:=
 match x,y with
 | .int k a, .int k' b=>gY f k a k' b
 | .str l b, .str m c=>zCS f l b m c
 | .agg a, .agg b=>zK9 X f t a b
 | x,y=>bif wK x then zCT X f t x y else none
def aun (a:UnOp)(x:AV):Option AV:=
 match a,x with
 | .neg, .int k n=>mkI k (0 - n)
 | .not, .bool b=>mkB !b
 | _,_=>none
def VI (X:Cx)(t:TypeId)(p:AV)(H:AH):Option AV:=
 match p with
 | .ptr A off=>match H.h.get A with
  | some (.cells l _ _ _)=>match X.und t with
   | some d=>bif d8 d then
     match X.size t with
     | some n=>match uU l off n with | some c=>some (.agg c) | none=>none
     | none=>none
    else nth l off
   | none=>none
  | _=>none
 | _=>none
def zCK (X:Cx)(t:TypeId)(p x:AV)(H:AH):Option AH:=
 match p with
 | .ptr A off=>match H.h.get A with
  | some (.cells l e sz g)=>match X.size t with
   | some n=>bif (Z4 (jT x) 0).beq n&&jP (jT x)&&Nat.blt 0 sz then
     match setAt l off (jT x)with
     | some l'=>fV H A (.cells l' e sz g)
     | none=>none
    else none
   | none=>none
  | _=>none
 | _=>none
def bytesOf:Nat->Nat->List AV
 | 0,_=>[]
 | l+1,b=> .int .u8 (.ofNat (b % 256))::bytesOf l (b / 256)
def QA:List AV->Option (Nat×Nat)
 | []=>some (0,0)
 | .int .u8 (.ofNat m)::l=>bif Nat.blt m 256 then
   match QA l with
   | some (n,b)=>fN n fun n=>fN b fun b=>some (n+1,m+256*b)
   | none=>none
  else none
 | _=>none
def zA2 (X:Cx)(a dst:TypeId)(x:AV):Option AV:=
 match X.und a with
 | none=>none
 | some ds=>match X.und dst with
  | some (.int k)=>match x with
   | .int _ n=>mkI k n
   | _=>none
  | some .string=>match ds,x with
   | .string, .str l b=>some (.str l b)
   | _,_=>none
  | _=>none
def JU (X:Cx)(a dst:TypeId)(x:AV)(H:AH):Option AV:=
 match X.und a with
 | some (.slice e)=>match X.und dst with
  | some .string=>match X.und e with
   | some (.int .u8)=>match x with
    | .nilSlice=>some (.str 0 0)
    | .slice A off len _=>match H.h.get A with
     | some (.cells l _ _ _)=>match uU l off len with
      | some c=>match QA c with
       | some (n,b)=>mkS n b
       | none=>none
      | none=>none
     | _=>none
    | _=>none
   | _=>none
  | _=>none
 | _=>none
def zCR (X:Cx)(a dst:TypeId)(x:AV):Option (AObj×(Nat->AV)):=
 match X.und a with
 | some .string=>match X.und dst with
  | some (.slice e)=>match X.und e with
   | some (.int .u8)=>match x with
    | .str l b=>bif Nat.blt l 4611686018427387904 then some (.cells (bytesOf l b) e 1 true,fun A=> .slice A 0 l 1)else none
    | _=>none
   | _=>none
  | _=>none
 | _=>none
def YU:AV->Option Nat
 | .int _ (.ofNat n)=>some n
 | _=>none
def kX:Option AV->Option (Option Nat)
 | none=>some none
 | some v=>match YU v with | some n=>some (some n) | none=>none
def zK4 (len a:Nat)(lo hi:Option Nat):Option AV:=
 let l:=lo.getD 0
 let h:=hi.getD len
 bif Nat.ble h len&&Nat.ble l h then mkS (h - l) ((a / 2 ^ (8*l)) % 2 ^ (8*(h - l)))else none
def K1 (A off len cc sz room:Nat)(lo hi a:Option Nat):Option AV:=
 let l:=lo.getD 0
 let h:=hi.getD len
 match a with
 | some m=>match hi with
  | some h=>
   bif Nat.ble m room&&Nat.ble h m&&Nat.ble l h then
    fN (bif m.beq l then off else off+l*sz) fun o=>fN (h - l) fun n=>fN (2*(m - l)) fun c=>some (.slice A o n c)
   else none
  | none=>none
 | none=>
  bif Nat.ble h room&&Nat.ble l h then
   bif (cc % 2).beq 0 then
    fN (bif (cc / 2).beq l then off else off+l*sz) fun o=>fN (h - l) fun n=>fN (2*(cc / 2 - l)) fun c=>some (.slice A o n c)
   else
    bif l.beq 0 then fN h fun n=>some (.slice A off n cc)
    else bif Nat.blt l h then fN (off+l*sz) fun o=>fN (h - l) fun n=>fN (cc+2*l) fun c=>some (.slice A o n c)
    else some .emptySl
  else none
def kL (l:List AV)(g:Bool)(a off cc sz:Nat):Nat:=
 bif (cc % 2).beq 0 then cc / 2 else bif g&&Nat.beq a sz&&Nat.beq off (cc / 2*sz)then(Z4 l 0 - off) / sz else 0
def ZG (X:Cx)(t:TypeId)(x:AV)(lo hi a:Option AV)(H:AH):Option AV:=
 match kX lo,kX hi,kX a with
 | some lo,some hi,some a=>
  match X.und t,x with
  | some .string, .str len bits=>match a with | none=>zK4 len bits lo hi | some _=>none
  | some (.slice e), .nilSlice=>match X.size e with
   | some _=>bif (lo.getD 0).beq 0&&(hi.getD 0).beq 0&&(a.getD 0).beq 0&&(a.isNone||hi.isSome)then some .nilSlice else none
   | none=>none
  | some (.slice e), .slice A off len cc=>match X.size e with
   | some sz=>match H.h.get A with
    | some (.cells l _ sz' g)=>bif Nat.blt 0 sz then K1 A off len cc sz (kL l g sz' off cc sz) lo hi a else none
    | _=>none
   | none=>none
  | some (.slice e), .emptySl=>match X.size e with
   | some _=>match a with
    | none=>bif (lo.getD 0).beq 0&&(hi.getD 0).beq 0 then some .emptySl else none
    | some _=>none
   | none=>none
  | some (.array n e), .ptr A off=>match X.size e with
   | some sz=>bif Nat.blt 0 sz then K1 A off n (2*n) sz n lo hi a else none
   | none=>none
  | some (.pointer arr), .ptr A off=>match X.und arr with
   | some (.array n e)=>match X.size e with
    | some sz=>bif Nat.blt 0 sz then K1 A off n (2*n) sz n lo hi a else none
    | none=>none
   | _=>none
  | _,_=>none
 | _,_,_=>none
def uZ (X:Cx)(t:TypeId)(x a:AV):Option AV:=
 match YU a with
 | some i=>match X.und t,x with
  | some (.array n e), .ptr A off=>match X.size e with
   | some sz=>bif Nat.blt i n then fN (off+i*sz) fun o=>some (.ptr A o)else none
   | none=>none
  | some (.slice e), .slice A off len _=>match X.size e with
   | some sz=>bif Nat.blt i len then fN (off+i*sz) fun o=>some (.ptr A o)else none
   | none=>none
  | _,_=>none
 | none=>none
def VJ (X:Cx)(t:TypeId)(x a:AV):Option AV:=
 match YU a with
 | some i=>match X.und t,x with
  | some .string, .str len bits=>bif Nat.blt i len then fN ((bits / 2 ^ (8*i)) % 256) fun b=>some (.int .u8 (.ofNat b))else none
  | some (.array n e), .agg cs=>match X.und e,X.size e with
   | some d,some sz=>bif Nat.blt i n then
     bif d8 d then match uU cs (i*sz) sz with | some c=>some (.agg c) | none=>none
     else nth cs (i*sz)
    else none
   | _,_=>none
  | _,_=>none
 | none=>none
def zO5:List Field->Nat->Option Field
 | x::_,0=>some x
 | _::l,n+1=>zO5 l n
 | [],_=>none
def BZ (X:Cx)(t:TypeId)(x:AV)(f:Nat):Option AV:=
 match X.und t,x with
 | some (.struct fs), .agg cs=>match zO5 fs.toList f with
  | some fl=>match X.und fl.type,X.size fl.type with
   | some d,some n=>bif d8 d then match uU cs fl.offset n with | some c=>some (.agg c) | none=>none
     else nth cs fl.offset
   | _,_=>none
  | none=>none
 | _,_=>none
def fR (X:Cx)(s:TypeId)(x:AV)(f:Nat):Option AV:=
 match X.und s,x with
 | some (.struct fs), .ptr A off=>match zO5 fs.toList f with
  | some fl=>match X.size fl.type with
   | some 0=>none
   | some _=>fN (off+fl.offset) fun o=>some (.ptr A o)
   | none=>none
  | none=>none
 | _,_=>none
def zDV (X:Cx)(t:TypeId)(x:AV)(H:AH):Option AV:=
 match X.und t,x with
 | some .string, .str l _=>some (.int .i64 (.ofNat l))
 | some (.slice _), .nilSlice=>some (.int .i64 0)
 | some (.slice _), .slice _ _ n _=>some (.int .i64 (.ofNat n))
 | some (.slice _), .emptySl=>some (.int .i64 0)
 | some (.array n _),_=>some (.int .i64 (.ofNat n))
 | some (.map _ _), .nilMap=>some (.int .i64 0)
 | some (.map _ _), .map A=>match H.h.get A with
  | some (.map _ es)=>some (.int .i64 (.ofNat es.length))
  | _=>none
 | _,_=>none
def zPd (X:Cx)(t:TypeId)(x:AV):Option AV:=
 match X.und t,x with
 | some (.slice _), .nilSlice=>some (.int .i64 0)
 | some (.slice _), .slice _ _ _ cc=>bif (cc % 2).beq 0 then fN (cc / 2) fun n=>some (.int .i64 (.ofNat n))else none
 | _,_=>none
def kOf (X:Cx)(kt:TypeId):Option (List Nat):=
 match X.und kt with
 | some .bool=>some [0]
 | some (.int k)=>some [ZQ k]
 | some .string=>some [2]
 | some (.struct _)=>match zDp kt X.fl with | some qs=>some (1::qs) | none=>none
 | some (.array _ _)=>match zDp kt X.fl with | some qs=>some (1::qs) | none=>none
 | _=>none
def QX:List Nat->List Nat->Bool
 | [],[]=>true
 | x::a,y::b=>Nat.beq x y&&QX a b
 | _,_=>false
mutual
def aveq:AV->AV->Bool
 | .bool a, .bool b=>a==b
 | .int k a, .int k' b=>keq k k'&&ieq a b
 | .str l b, .str m c=>Nat.beq l m&&Nat.beq b c
 | .nilPtr, .nilPtr=>true
 | .ptr a o, .ptr b p=>Nat.beq a b&&Nat.beq o p
 | .nilSlice, .nilSlice=>true
 | .emptySl, .emptySl=>true
 | .slice a b c d, .slice a' b' c' d'=>Nat.beq a a'&&Nat.beq b b'&&Nat.beq c c'&&Nat.beq d d'
 | .nilMap, .nilMap=>true
 | .map a, .map b=>Nat.beq a b
 | .func f a b, .func g c d=>Nat.beq f g&&YA a c&&YA b d
 | .yieldTo a, .yieldTo b=>Nat.beq a b
 | .nilFunc, .nilFunc=>true
 | .iface t x, .iface u y=>Nat.beq t u&&aveq x y
 | .nilIface, .nilIface=>true
 | .agg a, .agg b=>YA a b
 | .tuple a, .tuple b=>YA a b
 | _,_=>false
def YA:List AV->List AV->Bool
 | [],[]=>true
 | x::xs,y::ys=>aveq x y&&YA xs ys
 | _,_=>false
end
def xJ (k:AV):List (AV×AV)->Option AV
 | []=>none
 | (a,b)::l=>bif aveq k a then some b else xJ k l
def zB5 (k v:AV):List (AV×AV)->Option (List (AV×AV))
 | []=>none
 | (a,b)::l=>bif aveq k a then some ((a,v)::l)else match zB5 k v l with | some r=>some ((a,b)::r) | none=>none
def zJx (k:AV):List (AV×AV)->Option (List (AV×AV))
 | []=>none
 | (a,b)::l=>bif aveq k a then some l else match zJx k l with | some r=>some ((a,b)::r) | none=>none
def lkR (ok:Bool)(a:Bool)(v:AV):AV:=bif a then .tuple [v, .bool ok]else v
def lkM (ks:List Nat)(z:AV)(a:Bool)(x k:AV)(H:AH):Option AV:=
 bif keyOk ks k then
  match x with
  | .nilMap=>some (lkR false a z)
  | .map A=>match H.h.get A with
   | some (.map ks' es)=>bif QX ks ks' then
     match xJ k es with
     | some v=>some (lkR true a v)
     | none=>some (lkR false a z)
    else none
   | _=>none
  | _=>none
 else none
def upM (ks:List Nat)(x k v:AV)(H:AH):Option (AV×AH):=
 bif keyOk ks k then
  match x with
  | .map A=>match H.h.get A with
   | some (.map ks' es)=>bif QX ks ks' then
     match zB5 k v es with
     | some es'=>match fV H A (.map ks es')with | some H'=>some (jO,H') | none=>none
     | none=>match fV H A (.map ks (es++[(k,v)]))with | some H'=>some (jO,H') | none=>none
    else none
   | _=>none
  | _=>none
 else none
def dlM (ks:List Nat)(x k:AV)(H:AH):Option (AV×AH):=
 bif keyOk ks k then
  match x with
  | .nilMap=>some (.tuple [],H)
  | .map A=>match H.h.get A with
   | some (.map ks' es)=>bif QX ks ks' then
     match zJx k es with
     | some es'=>match fV H A (.map ks es')with | some H'=>some (.tuple [],H') | none=>none
     | none=>some (.tuple [],H)
    else none
   | _=>none
  | _=>none
 else none
def clM (x:AV)(H:AH):Option (AV×AH):=match x with
 | .nilMap=>some (.tuple [],H)
 | .map A=>match H.h.get A with
  | some (.map ks _)=>match fV H A (.map ks [])with | some H'=>some (.tuple [],H') | none=>none
  | _=>none
 | _=>none
def srcOf (sz:Nat)(x:AV)(H:AH):Option (Nat×List AV):=
 match x with
 | .nilSlice=>some (0,[])
 | .emptySl=>some (0,[])
 | .slice A off n _=>match H.h.get A with
  | some (.cells l _ _ _)=>match uU l off (n*sz)with | some c=>some (n,c) | none=>none
  | _=>none
 | .str l b=>bif sz.beq 1 then some (l,bytesOf l b)else none
 | _=>none
def aW (a e sz:Nat)(cells:List AV)(H:AH):Option (AV×AH):=
 match newA H (.cells cells e sz true)with
 | some (A,H')=>fN a fun n=>some (.slice A 0 n 1,H')
 | none=>none
def roomy (a bytes:Nat):Bool:=Nat.ble ((a+a / 4+192)*bytes) 281474976710656&&Nat.blt a 4611686018427387904
def vO (a e sz bytes:Nat)(old:Option (List AV))(new:List AV)(H:AH):Option (AV×AH):=
 bif roomy a bytes then
  match old with
  | some old=>aW a e sz (old++new) H
  | none=>none
 else none
def zCN (A off len cc n f a:Nat)(g:Bool)(l':Option (List AV))(H:AH):Option (AV×AH):=
 match l' with
 | some l'=>match fV H A (.cells l' f a g)with
  | some H'=>fN (len+n) fun m=>some (.slice A off m cc,H')
  | none=>none
 | none=>none
def zGu (e sz bytes n:Nat)(new:List AV)(A off len cc:Nat)(l:List AV)(f a:Nat)(g:Bool)(H:AH):Option (AV×AH):=
 bif Nat.ble (len+n) (kL l g a off cc sz)then zCN A off len cc n f a g (bif Nat.blt 0 a then setAt l (off+len*sz) new else none) H
 else bif (cc % 2).beq 0 then vO (len+n) e sz bytes (uU l off (len*sz)) new H
 else bif g&&Nat.beq (off+len*sz) (Z4 l 0)&&Nat.beq e f&&Nat.beq a sz&&Nat.beq off (cc / 2*sz)then
  match fV H A .dead with
  | some H1=>vO (len+n) e sz bytes (uU l off (len*sz)) new H1
  | none=>none
 else none
def app1 (e sz bytes n:Nat)(new:List AV)(s:AV)(H:AH):Option (AV×AH):=
 match s with
 | .nilSlice=>bif n.beq 0 then some (.nilSlice,H)else vO n e sz bytes (some []) new H
 | .emptySl=>bif n.beq 0 then some (.emptySl,H)else none
 | .slice A off len cc=>match H.h.get A with
  | some (.cells l e' sz' g)=>zGu e sz bytes n new A off len cc l e' sz' g H
  | _=>none
 | _=>none
def KR (sz:Nat)(z:Option Value):Bool:=
 match z with
 | some z=>match ofV z with
  | some za=>Nat.blt 0 sz&&Nat.beq (Z4 (jT za) 0) sz
  | none=>false
 | none=>false
def hJ (X:Cx)(t:TypeId)(s x:AV)(H:AH):Option (AV×AH):=
 match X.und t with
 | some (.slice e)=>match X.ty.get e with
  | some ti=>bif KR ti.size ti.zero then
    match srcOf ti.size x H with
    | some (n,new)=>bif jP new then app1 e ti.size ti.bytes n new s H else none
    | none=>none
   else none
  | none=>none
 | _=>none
def zKb (X:Cx)(t:TypeId)(s x:AV)(H:AH):Option (AV×AH):=
 match X.und t with
 | some (.slice e)=>match X.ty.get e with
  | some ti=>match aS X e with
   | some z=>bif KR ti.size ti.zero then
     match x with
     | .int .i64 (.ofNat n)=>bif Nat.ble (n*ti.bytes) 281474976710656&&Nat.blt n 4611686018427387904&&jP (jT z)then app1 e ti.size ti.bytes n (rep n (jT z)) s H else none
     | _=>none
    else none
   | none=>none
  | none=>none
 | _=>none
def zGp (X:Cx)(t:TypeId)(dst a:AV)(H:AH):Option (AV×AH):=
 match X.und t with
 | some (.slice e)=>match X.size e with
  | some sz=>match dst with
   | .nilSlice=>match a with
    | .nilSlice=>some (.int .i64 0,H)
    | .slice _ _ _ _=>some (.int .i64 0,H)
    | .str _ _=>some (.int .i64 0,H)
    | _=>none
   | .slice A off len _=>match srcOf sz a H with
    | some (n,new)=>
     let m:=Nat.min n len
     match takeN (m*sz) new with
     | some new=>bif jP new then
       match H.h.get A with
       | some (.cells l e' sz' g)=>match(bif Nat.blt 0 sz' then setAt l off new else none)with
        | some l'=>match fV H A (.cells l' e' sz' g)with
         | some H'=>fN m fun m=>some (.int .i64 (.ofNat m),H')
         | none=>none
        | none=>none
       | _=>none
      else none
     | none=>none
    | none=>none
   | _=>none
  | none=>none
 | _=>none
def dI (env:Env):Option Operand->Option (Option AV)
 | none=>some none
 | some y=>match opd env y with | some b=>some (some b) | none=>none
def zFS (env:Env)(c a b:Operand):Option AV:=
 match opd env c with
 | some (.bool true)=>opd env a
 | some (.bool false)=>opd env b
 | _=>none
def JD (X:Cx)(env:Env)(t:TypeId)(a:Array (Nat×Operand)):Option AV:=
 match aS X t with
 | some z=>match uJ env a.toList with
  | some parts=>match X.und t with
   | some (.struct fs)=>match YP X fs.toList with
    | some pl=>match fK (zLb pl) (jT z) parts with | some c=>some (.agg c) | none=>none
    | none=>none
   | some (.array _ e)=>match X.size e with
    | some sz=>match fK (fun i=>some (i*sz,sz)) (jT z) parts with | some c=>some (.agg c) | none=>none
    | none=>none
   | _=>none
  | none=>none
 | none=>none
def v6 (x:AV):Option AV:=
 match x with
 | .ptr A off=>some (.ptr A off)
 | .func f a b=>some (.func f a b)
 | .yieldTo A=>some (.yieldTo A)
 | _=>none
def zFT (env:Env)(f:FuncId)(first cap:Array Operand):Option AV:=
 match zCW env first.toList with
 | some a=>match zCW env cap.toList with
  | some b=>some (.func f a b)
  | none=>none
 | none=>none
def zQ9 (X:Cx)(arr:TypeId)(x:AV):Option AV:=
 match x with
 | .slice A off len _=>match X.und arr with
  | some (.array n _)=>bif Nat.ble n len then some (.ptr A off)else none
  | _=>none
 | _=>none
def jM (x:AV)(i:Nat):Option AV:=
 match x with
 | .tuple vs=>nth vs i
 | _=>none
def b1 (x:Option AV)(f:AV->Option AV):Option AV:=match x with | some a=>f a | none=>none
def b2 (x y:Option AV)(f:AV->AV->Option AV):Option AV:=
 match x with
 | some a=>match y with | some b=>f a b | none=>none
 | none=>none
def aA1 (e:TypeId)(x:Option AV):Option (AObj×(Nat->AV)):=
 match x with
 | some z=>some (.cells (jT z) e 1 false,fun A=> .ptr A 0)
 | none=>none
def Q3 (X:Cx)(env:Env)(t:TypeId)(len:Nat)(a:Array (Nat×Operand)):Option (AObj×(Nat->AV)):=
 match X.und t with
 | some (.slice e)=>match uJ env a.toList with
  | some parts=>match X.size e with
   | some sz=>match aS X e with
    | some z=>bif Nat.ble (len*sz) 16777216&&Nat.blt 0 sz&&Nat.beq (Z4 (jT z) 0) sz then
      match fK (fun i=>some (i*sz,sz)) (rep len (jT z)) parts with
      | some c=>some (.cells c e sz false,fun A=> .slice A 0 len (2*len))
      | none=>none
     else none
    | none=>none
   | none=>none
  | none=>none
 | _=>none
def zA3 (X:Cx)(t:TypeId)(l c:Option AV):Option (AObj×(Nat->AV)):=
 match l with
 | some (.int .i64 (.ofNat n))=>match c with
  | some (.int .i64 (.ofNat m))=>match X.und t with
   | some (.slice e)=>match X.ty.get e with
    | some ti=>match aS X e with
     | some z=>bif Nat.ble n m&&Nat.ble (m*ti.bytes) 140737488355328&&Nat.blt m 9223372036854775808&&Nat.blt 0 ti.size&&Nat.beq (Z4 (jT z) 0) ti.size then
       some (.cells (rep m (jT z)) e ti.size false,fun A=> .slice A 0 n (2*m))
      else none
     | none=>none
    | none=>none
   | _=>none
  | _=>none
 | _=>none
inductive Cls where
 | P | L | A | E | C
def zJI (X:Cx)(s d:TypeId):Cls:=
 match X.und s with
 | some (.slice _)=> .L
 | some .string=>match X.und d with
  | some (.slice _)=> .A
  | _=> .P
 | _=> .P
def clsB:Builtin->Cls
 | .len=> .L
 | .cap=> .P
 | .min=> .P
 | .max=> .P
 | _=> .E
def zAT:Callee->Cls
 | .value _=> .C
 | .invoke _ _=> .C
 | .builtin b=>clsB b
def zQu:Operand->Bool
 | .const _=>true
 | _=>false
def zHQ (X:Cx)(t:TypeId)(x y:Operand):Bool:=match X.und t with
 | some (.pointer _)=> !(zQu x||zQu y)
 | _=>false
def QL (A:Nat)(H:AH):Bool:=match H.h.get A with
 | some o=>match o with | .cells _ _ sz g=>Nat.blt 0 sz&& !g | _=>false
 | none=>false
def pNe (a:BinOp)(x y:AV)(H:AH):Option AV:=match x with
 | .ptr A _=>match y with
  | .ptr B _=>bif QL A H&&(QL B H&& !Nat.beq A B)then
    (match a with | .eql=>mkB false | .neq=>mkB true | _=>none)
   else none
  | _=>none
 | _=>none
def zAZ (X:Cx)(a:BinOp)(t:TypeId)(x y:AV)(H:AH):Option AV:=match zKa X a t x y with
 | some r=>some r
 | none=>match X.und t with
  | some (.pointer e)=>match X.size e with
   | some 0=>none
   | some _=>pNe a x y H
   | none=>none
  | _=>none
def cls (X:Cx):Op->Cls
 | .move _=> .P
 | .assign _=> .P
 | .pick _ _ _=> .P
 | .build _ _=> .P
 | .nilCheck _=> .P
 | .binOp _ t x y _=>bif zHQ X t x y then .L else .P
 | .unOp _ _ _=> .P
 | .makeFunc _ _ _=> .P
 | .fieldAddr _ _ _=> .P
 | .field _ _ _=> .P
 | .indexAddr _ _ _=> .P
 | .index _ _ _=> .P
 | .sliceToArrayPointer _ _=> .P
 | .extract _ _=> .P
 | .load _ _=> .L
 | .lookup _ _ _ _=> .L
 | .slice _ _ _ _ _=> .L
 | .makeMap _ _=> .A
 | .alloc _=> .A
 | .box _ _=> .A
 | .buildSlice _ _ _=> .A
 | .makeSlice _ _ _=> .A
 | .convert s d _=>zJI X s d
 | .call c=>zAT c.callee
 | _=> .E
def mn2 (x y:AV):Option AV:=match x with
 | .int k a=>match y with | .int _ b=>bif ilt b a then some (.int k b)else some (.int k a) | _=>none
 | _=>none
def mx2 (x y:AV):Option AV:=match x with
 | .int k a=>match y with | .int _ b=>bif ilt a b then some (.int k b)else some (.int k a) | _=>none
 | _=>none
def zJZ (X:Cx)(t:TypeId)(a:Bool)(x k:AV)(H:AH):Option AV:=match X.und t with
 | some (.map kt et)=>match kOf X kt with
  | some ks=>match aS X et with
   | some z=>lkM ks z a x k H
   | none=>none
  | none=>none
 | _=>none
def aMap (X:Cx)(t:TypeId):Option (AObj×(Nat->AV)):=match X.und t with
 | some (.map kt _)=>match kOf X kt with
  | some ks=>some (.map ks [],fun A=> .map A)
  | none=>none
 | _=>none
def aup (X:Cx)(t:TypeId)(x k v:AV)(H:AH):Option (AV×AH):=match X.und t with
 | some (.map kt _)=>match kOf X kt with
  | some ks=>upM ks x k v H
  | none=>none
 | _=>none
def adl (X:Cx)(t:TypeId)(x k:AV)(H:AH):Option (AV×AH):=match X.und t with
 | some (.map kt _)=>match kOf X kt with
  | some ks=>dlM ks x k H
  | none=>none
 | _=>none
def acl (X:Cx)(t:TypeId)(x:AV)(H:AH):Option (AV×AH):=match X.und t with
 | some (.map _ _)=>clM x H
 | _=>none
def c1 (x:Option AV)(f:AV->Option (AV×AH)):Option (AV×AH):=match x with | some a=>f a | none=>none
def c2 (x y:Option AV)(f:AV->AV->Option (AV×AH)):Option (AV×AH):=match x with
 | some a=>match y with | some b=>f a b | none=>none
 | none=>none
def c3 (x y z:Option AV)(f:AV->AV->AV->Option (AV×AH)):Option (AV×AH):=match x with
 | some a=>match y with
  | some b=>match z with | some c=>f a b c | none=>none
  | none=>none
 | none=>none
def aP (X:Cx)(env:Env):Op->Option AV
 | .move x=>opd env x
 | .assign x=>opd env x
 | .pick c a b=>zFS env c a b
 | .build t ps=>JD X env t ps
 | .nilCheck x=>b1 (opd env x) v6
 | .binOp op t x y _=>b2 (opd env x) (opd env y) (zKa X op t)
 | .unOp op _ x=>b1 (opd env x) (aun op)
 | .convert s d x=>b1 (opd env x) (zA2 X s d)
 | .makeFunc (.func f) first cap=>zFT env f first cap
 | .fieldAddr s x f=>b1 (opd env x) (fR X s · f)
 | .field t x f=>b1 (opd env x) (BZ X t · f)
 | .indexAddr t x i=>b2 (opd env x) (opd env i) (uZ X t)
 | .index t x i=>b2 (opd env x) (opd env i) (VJ X t)
 | .sliceToArrayPointer arr x=>b1 (opd env x) (zQ9 X arr)
 | .extract x i=>b1 (opd env x) (jM · i)
 | .call c=>match c.callee with
  | .builtin .cap=>match c.args.toList with
   | [x]=>match c.argTypes.toList with
    | t::_=>b1 (opd env x) (zPd X t)
    | _=>none
   | _=>none
  | .builtin .min=>match c.args.toList with
   | [x,y]=>b2 (opd env x) (opd env y) mn2
   | _=>none
  | .builtin .max=>match c.args.toList with
   | [x,y]=>b2 (opd env x) (opd env y) mx2
   | _=>none
  | _=>none
 | _=>none
def Z6 (X:Cx)(env:Env)(t:TypeId)(x:Operand)(lo hi f:Option Operand)(H:AH):Option AV:=
 match opd env x with
 | some a=>match dI env lo with
  | some lo=>match dI env hi with
   | some hi=>match dI env f with
    | some f=>ZG X t a lo hi f H
    | none=>none
   | none=>none
  | none=>none
 | none=>none
def aL (X:Cx)(env:Env)(H:AH):Op->Option AV
 | .load t a=>b1 (opd env a) (VI X t · H)
 | .slice t x lo hi mx=>Z6 X env t x lo hi mx H
 | .lookup t x k ok=>b2 (opd env x) (opd env k) (zJZ X t ok · · H)
 | .convert s d x=>b1 (opd env x) (JU X s d · H)
 | .binOp op t x y _=>b2 (opd env x) (opd env y) (zAZ X op t · · H)
 | .call c=>match c.callee with
  | .builtin .len=>match c.args.toList with
   | [x]=>match c.argTypes.toList with
    | t::_=>b1 (opd env x) (zDV X t · H)
    | _=>none
   | _=>none
  | _=>none
 | _=>none
def aA (X:Cx)(env:Env):Op->Option (AObj×(Nat->AV))
 | .alloc e=>aA1 e (aS X e)
 | .box e x=>aA1 e (opd env x)
 | .buildSlice t len ps=>Q3 X env t len ps
 | .makeSlice t l c=>zA3 X t (opd env l) (opd env c)
 | .convert s d x=>match opd env x with | some a=>zCR X s d a | none=>none
 | .makeMap t none=>aMap X t
 | _=>none
def BL (X:Cx)(t:TypeId)(p y:Option AV)(H:AH):Option (AV×AH):=
 match p with
 | some p=>match y with
  | some y=>match zCK X t p y H with | some H'=>some (jO,H') | none=>none
  | none=>none
 | none=>none
def cV (X:Cx)(t u:TypeId)(s x:Option AV)(H:AH):Option (AV×AH):=
 match s with
 | some a=>match x with
  | some b=>match X.und u with
   | some (.slice _)=>hJ X t a b H
   | some .string=>hJ X t a b H
   | some (.int _)=>zKb X t a b H
   | _=>none
  | none=>none
 | none=>none
def zJq (X:Cx)(t:TypeId)(s x:Option AV)(H:AH):Option (AV×AH):=
 match s with
 | some a=>match x with
  | some b=>zGp X t a b H
  | none=>none
 | none=>none
def uR (X:Cx)(env:Env)(b:Builtin)(args:List Operand)(a:List TypeId)(H:AH):Option (AV×AH):=
 match b with
 | .append=>match args with
  | [s,x]=>match a with
   | [t,u]=>cV X t u (opd env s) (opd env x) H
   | _=>none
  | _=>none
 | .copy=>match args with
  | [s,x]=>match a with
   | t::_=>zJq X t (opd env s) (opd env x) H
   | _=>none
  | _=>none
 | .delete=>match args with
  | [m,k]=>match a with
   | t::_=>c2 (opd env m) (opd env k) (adl X t · · H)
   | _=>none
  | _=>none
 | .clear=>match args with
  | [m]=>match a with
   | t::_=>c1 (opd env m) (acl X t · H)
   | _=>none
  | _=>none
 | _=>none
def aE (X:Cx)(env:Env)(H:AH):Op->Option (AV×AH)
 | .store t a x=>BL X t (opd env a) (opd env x) H
 | .mapUpdate t m k v=>c3 (opd env m) (opd env k) (opd env v) (aup X t · · · H)
 | .call c=>match c.callee with
  | .builtin b=>uR X env b c.args.toList c.argTypes.toList H
  | _=>none
 | _=>none
def wV (H:AH)(r:Option AV):Option (AV×AH):=match r with | some x=>some (x,H) | none=>none
def wA (H:AH)(r:Option (AObj×(Nat->AV))):Option (AV×AH):=
 match r with
 | some (o,mk)=>match newA H o with
  | some (A,H')=>some (mk A,H')
  | none=>none
 | none=>none
def VP (nt:Nat)(env:Env):Option Tmp->AV->Option (Env)
 | some d,v=>bif Nat.blt d nt then some (upd env d v)else none
 | none,_=>some env
def zGs:List Oper->Nat->Option Oper
 | x::_,0=>some x
 | _::l,n+1=>zGs l n
 | [],_=>none
def isW (x:AV)(a:Bool):Bool:=match x with | .bool b=>b==a | .val (.bool b)=>b==a | _=>false
def zGA (ops:Array Oper)(env:Env)(j:Nat)(a:Bool):Option Bool:=
 match zGs ops.toList j with
 | some p=>match p.dst with
  | some d=>match look env d with
   | some x=>some (isW x a)
   | none=>none
  | none=>some false
 | none=>some false
def ZH (ops:Array Oper)(env:Env)(o:Oper):Option Bool:=
 match o.guard with
 | none=>some true
 | some (j,want)=>zGA ops env j want
def zDU (X:Cx)(env:Env)(H:AH):ResultVar->Option AV
 | .tmp t=>look env t
 | .cell a t=>b1 (look env a) (VI X t · H)
def aO (X:Cx)(env:Env)(H:AH):List ResultVar->Option (List AV)
 | []=>some []
 | r::rs=>match zDU X env H r with
  | some v=>match aO X env H rs with
   | some vs=>some (v::vs)
   | none=>none
  | none=>none
def zIc (a:List Nat)(es:List Edge):Nat:=es.foldl (fun s e=>bif Region.binds .any e then s||| 2 ^ e.on||| a.getD e.on 0 else s) 0
def wY:List Oper->List Nat->List Nat
 | [],acc=>acc
 | o::rest,acc=>wY rest (acc++[zIc acc o.after.toList])
def wX:Cls->Bool
 | .E=>true
 | .C=>true
 | _=>false
def tmpOf:Operand->Option Nat
 | .tmp t=>some t
 | _=>none
def cD (ops:Array Oper)(o:Oper):List Nat:=
 o.op.operands.toList.filterMap tmpOf++(match o.guard with
  | some (j,_)=>match zGs ops.toList j with
   | some p=>p.dst.toList
   | none=>[]
  | none=>[])
def fF (ops:Array Oper)(a b:Oper):Bool:=
 (match a.dst with | some d=>(cD ops b).contains d | none=>false)||(match b.dst with | some d=>(cD ops a).contains d | none=>false)
def zHW (X:Cx)(ops:Array Oper)(masks:List Nat)(a b:Nat×Oper):Bool:=
 (match a.2.dst,b.2.dst with | some d,some e=> !Nat.beq d e | _,_=>true)&&
 ((masks.getD b.1 0).testBit a.1|| !(wX (cls X a.2.op)||fF ops a.2 b.2))
def zAo (X:Cx)(ops:Array Oper)(masks:List Nat):List (Nat×Oper)->Bool
 | []=>true
 | a::l=>l.all (zHW X ops masks a)&&zAo X ops masks l
def zJU:List Oper->Nat->Bool
 | [],_=>true
 | o::l,n=>(o.after.toList.all fun e=>Nat.blt e.on n)&&fN (Nat.succ n) (zJU l)
def zDh (ops:Array Oper):Bool:=zJU ops.toList 0||Nat.beq (Region.linearise .any ops 0).length ops.size&&Nat.beq (Region.linearise .text ops 0).length ops.size&&Nat.beq (Region.linearise .gc ops 0).length ops.size
def zNA (masks a:List Nat)(i:Nat):Nat:=(a.filter fun e=>(masks.getD i 0).testBit e).length
def rowOf (X:Cx)(ops:Array Oper)(masks:List Nat):List (Nat×Oper):=
 let l:=(List.range ops.size).filterMap fun i=>match zGs ops.toList i with | some o=>some (i,o) | none=>none
 let f:=(l.filter fun a=>wX (cls X a.2.op))
 let rest:=(l.filter fun a=> !wX (cls X a.2.op))
 let h:=f.map (·.1)
 (List.range (f.length+1)).flatMap fun s=>(rest.filter fun a=>Nat.beq (zNA masks h a.1) s)++(match f[s]? with | some e=>[e] | none=>[])
def zEw:List Nat->Bool
 | []=>true
 | x::l=> !l.contains x&&zEw l
def zQ2 (X:Cx)(ops:Array Oper)(masks:List Nat)(row:List (Nat×Oper)):Bool:=
 zDh ops&&zEw (row.map (·.1))&&zAo X ops masks row&&(List.range ops.size).all (fun i=>(row.map (·.1)).contains i)&&row.all (fun a=>match zGs ops.toList a.1 with | some _=>true | none=>false)
def plan (X:Cx)(ops:Array Oper):Option (List (Nat×Oper)×List Nat):=
 let masks:=wY ops.toList []
 let row:=rowOf X ops masks
 bif zQ2 X ops masks row then some (row,masks)else none
inductive AExit where
 | normal
 | exit (id:Nat)
 | ret
structure Fns where
 call:FuncId->List AV->AH->Option (AV×AH)
 yld:Nat->List AV->AH->Option (AV×AH)
def opF (X:Cx)(r:Fns)(env:Env)(H:AH)(o:Op):Option (AV×AH):=
 match cls X o with
 | .P=>wV H (aP X env o)
 | .L=>wV H (aL X env H o)
 | .A=>wA H (aA X env o)
 | .E=>aE X env H o
 | .C=>callO r env H o
where
 callV (r:Fns) (H:AH) (f:Option AV) (az:Option (List AV)):Option (AV×AH):=
  match f with
  | some (.func g first cap)=>match az with
   | some az=>r.call g (first++az++cap) H
   | none=>none
  | some (.yieldTo A)=>match az with
   | some az=>r.yld A az H
   | none=>none
  | _=>none
 callO (r:Fns) (env:Env) (H:AH):Op->Option (AV×AH)
  | .call c=>match c.callee with
   | .value f=>callV r H (opd env f) (zCW env c.args.toList)
   | _=>none
  | _=>none
structure Ent where
 i:Nat
 o:Oper
 want:Bool
 env:Env
 H:AH
 v:AV
 H':AH
def zJk (X:Cx)(r:Fns)(ops:Array Oper)(env:Env)(H:AH)(i:Nat)(o:Oper):Option Ent:=
 match ZH ops env o with
 | some true=>match opF X r env H o.op with
  | some (v,H')=>some ⟨i,o,true,env,H,v,H'⟩
  | none=>none
 | some false=>some ⟨i,o,false,env,H,jO,H⟩
 | none=>none
theorem uN {k:IntKind}{n:Int}(a:k.min<=n)(f:n<=k.max):k.wrap n=n:=by
 cases k<;>simp[IntKind.wrap,IntKind.signed,IntKind.bits,IntKind.min,IntKind.max]at* <;>omega
theorem zLt (k:IntKind)(n:Int):zLu k n=k.wrap n:=by
 cases n with
 | ofNat m=>
  simp only[zLu]
  cases f:k.signed with
  | true=>
   simp only[zM]
   cases hb:Nat.blt m (zBX k)with
   | false=>rfl
   | true=>
    have a:m<zBX k:=by rw[<-qD];exact hb
    simp only[zM]
    symm
    apply uN<;>cases k<;>simp[IntKind.signed,zBX,IntKind.min,IntKind.max,IntKind.bits]at* <;>omega
  | false=>
   simp only[qH]
   cases k<;>simp[IntKind.signed,IntKind.wrap,IntKind.bits,KA]at*
 | negSucc m=>
  simp only[zLu]
  cases hb:(k.signed&&Nat.blt m (zBX k))with
  | false=>rfl
  | true=>
   simp only[zM];rw[zE]at hb;have a:m<zBX k:=by rw[<-qD];exact hb.2
   symm
   apply uN<;>cases k<;>simp[IntKind.signed,zBX,IntKind.min,IntKind.max,IntKind.bits]at* <;>omega
theorem uK (a b:Int):ilt a b=decide (a<b):=by
 cases a<;>cases b<;>simp only[ilt]<;>rw[yK]<;>simp[qD]<;>omega
theorem xQ (a b:Int):ieq a b=(a==b):=by
 cases a<;>cases b<;>simp only[ieq]<;>rw[yK]<;>simp[zY]<;>omega
theorem xP (a b:IntKind):keq a b=decide (a=b):=by
 cases a<;>cases b<;>rfl
theorem kD {α:Type}(n:Nat)(k:Nat->α):fN n k=k n:=by cases n<;>rfl
theorem zG6 {α:Type}(n:Int)(k:Int->α):fI n k=k n:=by cases n<;>simp[fI,kD]
theorem vX (k:IntKind)(n:Int):mkI k n=some (.int k (k.wrap n)):=by simp[mkI,zG6,zLt]
theorem wD (b:Bool):mkB b=some (.bool b):=by cases b<;>rfl
theorem zBO (l b:Nat):mkS l b=some (.str l b):=by simp[mkS,kD]
theorem zIi (l:List AV)(n:Nat):Z4 l n=l.length+n:=by
 induction l generalizing n with
 | nil=>simp[Z4]
 | cons x l ih=>simp[Z4,ih];omega
theorem jX (l:List AV):Z4 l 0=l.length:=by rw[zIi];rfl
theorem QH: ∀l m:List UInt8,l.length=m.length->pack l=pack m->l=m
 | [],[],_,_=>rfl
 | [],_::_,h,_=>by simp at h
 | _::_,[],h,_=>by simp at h
 | b::l,c::m,hl,h=>by
  have hb:b.toNat<256:=b.toNat_lt;have i:c.toNat<256:=c.toNat_lt;simp only[pack]at h;have a:b.toNat=c.toNat:=by omega
  have f:pack l=pack m:=by omega
  rw[UInt8.toNat_inj.1 a,QH l m (by simpa using hl) f]
theorem pow8 (n:Nat):2 ^ (8*n)=256 ^ n:=by rw[Nat.pow_mul]
theorem zDd (l m:List UInt8):pack (l++m)=pack l+pack m*256 ^ l.length:=by
 induction l with
 | nil=>simp[pack]
 | cons b l ih=>
  simp only[qF,pack,ih,zW,Nat.pow_succ];rw[Nat.mul_add,Nat.add_assoc,Nat.mul_left_comm 256 (pack m),Nat.mul_comm 256 (256 ^ l.length)]
theorem WQ (l:List UInt8)(n:Nat):pack (l.drop n)=pack l / 256 ^ n:=by
 induction n generalizing l with
 | zero=>simp
 | succ n ih=>
  cases l with
  | nil=>simp[pack]
  | cons b l=>
   have hb:b.toNat<256:=b.toNat_lt;rw[List.drop_succ_cons,ih,pack,Nat.pow_succ,Nat.mul_comm (256 ^ n),<-Nat.div_div_eq_div_mul];congr 1;omega
theorem zBE (l:List UInt8)(n:Nat):pack (l.take n)=pack l % 256 ^ n:=by
 induction n generalizing l with
 | zero=>simp[pack,Nat.mod_one]
 | succ n ih=>
  cases l with
  | nil=>simp[pack]
  | cons b l=>
   have hb:b.toNat<256:=b.toNat_lt;have e:(b.toNat+256*pack l) / 256=pack l:=by omega
   rw[List.take_succ_cons,pack,pack,ih,Nat.pow_succ,Nat.mul_comm (256 ^ n),Nat.mod_mul,e];omega
theorem zEq (l:List UInt8)(i:Nat)(h:i<l.length):l[i].toNat=pack l / 256 ^ i % 256:=by
 rw[<-WQ,qL h,pack];have hb:l[i].toNat<256:=l[i].toNat_lt;omega
theorem K4: ∀(l m:List UInt8),zBp l.length (pack l) m.length (pack m)=Op.bytesLess l m
 | [],[]=>rfl
 | [],_::_=>rfl
 | b::l,[]=>rfl
 | b::l,c::m=>by
  have hb:b.toNat<256:=b.toNat_lt;have j:c.toNat<256:=c.toNat_lt;have a:pack (b::l) % 256=b.toNat:=by simp only[pack];omega
  have f:pack (c::m) % 256=c.toNat:=by simp only[pack];omega
  have h:pack (b::l) / 256=pack l:=by simp only[pack];omega
  have i:pack (c::m) / 256=pack m:=by simp only[pack];omega
  simp only[zW,zBp,Op.bytesLess,a,f,h,i,K4 l m];congr 1
  .rw[yK];simp[qD,UInt8.lt_iff_toNat_lt]
  .congr 1;rw[yK];simp[zY,UInt8.toNat_inj]
theorem toList_data (s:ByteArray):s.toList=s.data.toList:=Lib.toList_data s
theorem size_data (s:ByteArray):s.data.toList.length=s.size:=by rw[yU];rfl
theorem zA9: ∀(n:Nat) (l r:List AV),takeN n l=some r->r=l.take n/\n<=l.length
 | 0,l,r,h=>by simp[takeN]at h;simp[<-h]
 | n+1,[],r,h=>by simp[takeN]at h
 | n+1,x::l,r,h=>by
  simp only[takeN]at h;split at h
  .rename_i a hr;obtain⟨rfl,f⟩:=zA9 n l a hr;simp only[zB]at h;subst h;simp[f]
  .simp at h
theorem dV: ∀(l:List AV) (o n:Nat) (r:List AV),uU l o n=some r->r=(l.drop o).take n/\(n=0\/o+n<=l.length)
 | l,0,n,r,h=>by
  cases l<;>(simp only[uU]at h;obtain⟨f,a⟩:=zA9 _ _ _ h;exact⟨by simpa using f, .inr (by omega)⟩)
 | x::l,o+1,n,r,h=>by
  simp only[uU]at h;obtain⟨f,a⟩:=dV l o n r h;exact⟨by simpa using f,by rcases a with a | a<;>simp<;>omega⟩
 | [],o+1,n,r,h=>by
  simp only[uU,zF,zY]at h;split at h
  .simp only[zB]at h;subst h;simp_all
  .simp at h
theorem QI: ∀(l:List AV) (n:Nat),nth l n=l[n]?
 | [],n=>by cases n<;>rfl
 | x::l,0=>rfl
 | x::l,n+1=>by simp[nth,QI l n]
theorem zHY: ∀(l new r:List AV),over l new=some r->r=new++l.drop new.length/\new.length<=l.length
 | l,[],r,h=>by cases l<;>simp_all [over]
 | [],y::ys,r,h=>by simp[over]at h
 | x::l,y::ys,r,h=>by
  simp only[over]at h;split at h
  .rename_i a hr;obtain⟨rfl,f⟩:=zHY l ys a hr;simp only[zB]at h;subst h;simp[f]
  .simp at h
theorem zAh: ∀(l:List AV) (n:Nat) (new r:List AV),setAt l n new=some r->r=l.take n++new++l.drop (n+new.length)/\n+new.length<=l.length
 | l,0,new,r,h=>by
  have a:over l new=some r:=by cases l<;>simpa only[setAt]using h
  obtain⟨rfl,f⟩:=zHY l new r a;exact⟨by simp,by omega⟩
 | x::l,n+1,new,r,h=>by
  simp only[setAt]at h;split at h
  .rename_i i hr;obtain⟨rfl,f⟩:=zAh l n new i hr;simp only[zB]at h;subst h;refine⟨?_,by simp;omega⟩;rw[show n+1+new.length=(n+new.length)+1 from by omega];simp
  .simp at h
 | [],n+1,new,r,h=>by simp[setAt]at h
theorem zQ4 (n:Nat)(z:List AV):rep n z=(List.replicate n z).flatten:=by
 induction n with
 | zero=>rfl
 | succ n ih=>simp[rep,ih,List.replicate_succ]
theorem zI6: ∀(l:List (Nat×Nat)) (n:Nat),zLb l n=l[n]?
 | [],n=>by cases n<;>rfl
 | x::l,0=>rfl
 | x::l,n+1=>by simp[zLb,zI6 l n]
theorem zDf: ∀(l:List Field) (n:Nat),zO5 l n=l[n]?
 | [],n=>by cases n<;>rfl
 | x::l,0=>rfl
 | x::l,n+1=>by simp[zO5,zDf l n]
theorem zDe: ∀(l:List Oper) (n:Nat),zGs l n=l[n]?
 | [],n=>by cases n<;>rfl
 | x::l,0=>rfl
 | x::l,n+1=>by simp[zGs,zDe l n]
mutual
theorem UN (R:Ren): ∀(v:Value) (x:AV),ofV v=some x->VR R x v
 | .bool b,x,h=>by simp only[ofV,zB]at h;subst h;simp[VR]
 | .int k n,x,h=>by simp only[ofV,zB]at h;subst h;simp[VR]
 | .string s,x,h=>by simp only[ofV,zB]at h;subst h;exact⟨s,rfl,(size_data s).symm,rfl⟩
 | .pointer none,x,h=>by simp only[ofV,zB]at h;subst h;simp[VR]
 | .pointer (some a),x,h=>by simp[ofV]at h
 | .slice none 0 0,x,h=>by simp only[ofV,zB]at h;subst h;simp[VR]
 | .slice none 0 (c+1),x,h=>by simp[ofV]at h
 | .slice none (n+1) c,x,h=>by simp[ofV]at h
 | .slice (some a) n c,x,h=>by simp[ofV]at h
 | .map none,x,h=>by simp only[ofV,zB]at h;subst h;simp[VR]
 | .map (some a),x,h=>by simp[ofV]at h
 | .nilFunc,x,h=>by simp only[ofV,zB]at h;subst h;simp[VR]
 | .nilIface,x,h=>by simp only[ofV,zB]at h;subst h;simp[VR]
 | .agg a,x,h=>by
  simp only[ofV]at h;split at h
  .rename_i l hl;simp only[zB]at h;subst h;exact⟨a.toList,rfl,zI5 R a l hl⟩
  .simp at h
 | .tuple a,x,h=>by
  simp only[ofV]at h;split at h
  .rename_i l hl;simp only[zB]at h;subst h;exact⟨a.toList,rfl,zI5 R a l hl⟩
  .simp at h
 | .float _ _,x,h=>by simp[ofV]at h
 | .complex _ _ _,x,h=>by simp[ofV]at h
 | .chan _,x,h=>by simp[ofV]at h
 | .func _ _ _,x,h=>by simp[ofV]at h
 | .iface _ _,x,h=>by simp[ofV]at h
theorem zI5 (R:Ren): ∀(a:Array Value) (l:List AV),ofVA a=some l->VRL R l a.toList
 | ⟨m⟩,l,h=>by simp only[ofVA]at h;exact zI4 R m l h
theorem zI4 (R:Ren): ∀(m:List Value) (l:List AV),zQc m=some l->VRL R l m
 | [],l,h=>by simp only[zQc,zB]at h;subst h;rfl
 | v::m,l,h=>by
  simp only[zQc]at h;split at h
  .rename_i x xs hx hxs;simp only[zB]at h;subst h;exact⟨v,m,rfl,UN R v x hx,zI4 R m xs hxs⟩
  .simp at h
end
theorem kJ {R:Ren}{env:Env}{n:Nat}{fr:Frame}(h:EnvR R env n fr.tmps): ∀(x:Operand) (a:AV),opd env x=some a->VR R a (fr.eval x)
 | .tmp t,a,e=>h.get t a e
 | .const v,a,e=>UN R v a e
 | .func f,a,e=>by simp only[opd,zB]at e;subst e;exact⟨[],[],rfl,rfl,rfl⟩
 | .global g,a,e=>by simp[opd]at e
theorem WT {R:Ren}{env:Env}{n:Nat}{fr:Frame}(h:EnvR R env n fr.tmps): ∀(xs:List Operand) (az:List AV),zCW env xs=some az->VRL R az (xs.map fr.eval)
 | [],az,e=>by simp only[zCW,zB]at e;subst e;rfl
 | x::xs,az,e=>by
  simp only[zCW]at e;split at e
  .rename_i v vs f a;simp only[zB]at e;subst e;exact⟨_,_,rfl,kJ h x v f,WT h xs vs a⟩
  .simp at e
theorem EnvR.put {R:Ren}{env env':Env}{n:Nat}{i:Array Value}(h:EnvR R env n i){dst:Option Tmp}{x:AV}{v:Value}(j:VR R x v)(a:VP n env dst x=some env'):EnvR R env' n (zCV i dst v):=by
 cases dst with
 | none=>simp only[VP,zB]at a;subst a;exact h
 | some d=>
  simp only[VP,zF,qD]at a;split at a
  .rename_i hd;injection a with a;subst a
   have hl: ∀t,Eng.look (upd env d x) t=if t=d then some x else Eng.look env t:=fun t=>bC env d x t
   refine⟨by simp[zCV,h.size],fun t y f=> ?_,fun t m=> ?_⟩
   .rw[hl]at f;simp only[zCV];rw[y5,Array.getElem?_setIfInBounds];by_cases e:t=d
    .subst e;rw[if_pos rfl]at f;injection f with f;subst f;rw[if_pos rfl,if_pos (by rw[h.size];exact hd)];exact j
    .rw[if_neg e]at f;rw[if_neg (Ne.symm e),<-y5];exact h.get t y f
   .rw[hl,if_neg (by omega)];exact h.out t m
  .simp at a
def zAD (P:Program)(rec:TypeId->Option (List Nat)):List Field->Nat->Option (List Nat)
 | [],_=>some []
 | f::fs,acc=>match rec f.type,P.info? f.type with
  | some k,some j=>bif !(f.name== "_")&&Nat.beq f.offset acc&&Nat.beq k.length j.size then
    match zAD P rec fs (acc+j.size)with
    | some r=>some (k++r)
    | none=>none
   else none
  | _,_=>none
def dK (P:Program):Nat->TypeId->Option (List Nat)
 | 0,_=>none
 | d+1,t=>match P.underlying t,P.info? t with
  | some .bool,some i=>bif Nat.beq i.size 1 then some [0]else none
  | some (.int k),some i=>bif Nat.beq i.size 1 then some [ZQ k]else none
  | some .string,some i=>bif Nat.beq i.size 1 then some [2]else none
  | some (.struct fs),some i=>bif !P.stoodInHeld t then
    match zAD P (dK P d) fs.toList 0 with
    | some r=>bif Nat.beq r.length i.size then some r else none
    | none=>none
   else none
  | some (.array len e),some i=>match dK P d e,P.info? e with
   | some k,some j=>bif Nat.beq (len*j.size) i.size&&Nat.beq k.length j.size then some (List.replicate len k).flatten else none
   | _,_=>none
  | _,_=>none
def xC (P:Program)(t:TypeId):Bool:=match P.underlying t with
 | some (.struct _)=>true
 | some (.array _ _)=>true
 | _=>false
structure Ok (P:Program)(X:Cx):Prop where
 ty: ∀t i,X.ty.get t=some i->P.info? t=some i
 fl: ∀x∈X.fl,dK P P.depth x.1=some x.2/\xC P x.1=true/\P.depth<=10000
 nm: ∀(f:FuncId) (g:Func),P.funcs[f]? =some g->(g.name== "runtime.NumGoroutine")=false
section
variable {P:Program}{X:Cx}(hX:Ok P X)
include hX
theorem Ok.und {t:TypeId}{d:TypeDesc}(h:X.und t=some d):P.underlying t=some d:=by
 simp only[Cx.und]at h;split at h
 .rename_i i hi;have f:=hX.ty _ _ hi;split at h
  .rename_i s u hd;split at h
   .rename_i j o;simp only[zB]at h;subst h;have p:=hX.ty _ _ o;obtain⟨q⟩:=i;simp only at hd;subst hd;simp[Program.underlying,f,p]
   .simp at h
  .rename_i q m;simp only[zB]at h;subst h;unfold Program.underlying;rw[f];split
   .rename_i a;simp only[zB]at a;subst a;exact absurd rfl (m _ _)
   .rename_i a;simp only[zB]at a;subst a;rfl
   .rename_i a;simp at a
 .simp at h
theorem Ok.size {t:TypeId}{n:Nat}(h:X.size t=some n): ∃i,P.info? t=some i/\i.size=n:=by
 simp only[Cx.size]at h;split at h
 .rename_i i hi;simp only[zB]at h;exact⟨i,hX.ty _ _ hi,h⟩
 .simp at h
theorem Ok.run_und {t:TypeId}{d:TypeDesc}(h:X.und t=some d)(w:World):(underlying t).run P w= .ok d w:=run_underlying (hX.und h) w
theorem Ok.run_size {t:TypeId}{n:Nat}(h:X.size t=some n)(w:World):(sizeOf t).run P w= .ok n w:=by
 obtain⟨i,a,f⟩:=hX.size h;simp[sizeOf,typeInfo,a,f]
theorem Ok.run_isAgg {t:TypeId}{d:TypeDesc}(h:X.und t=some d)(w:World):(isAgg t).run P w= .ok (d8 d) w:=by
 unfold isAgg;simp only[zH,hX.run_und h,Result.andThen]
 cases d<;>rfl
theorem Ok.zero (R:Ren){t:TypeId}{x:AV}(h:aS X t=some x): ∃i v,P.info? t=some i/\i.zero=some v/\VR R x v:=by
 simp only[aS]at h;split at h
 .rename_i i hi;split at h
  .rename_i z a;exact⟨i,z,hX.ty _ _ hi,a,UN R z x h⟩
  .simp at h
 .simp at h
theorem Ok.run_zero (R:Ren){t:TypeId}{x:AV}(h:aS X t=some x)(w:World): ∃v,(zeroValue t).run P w= .ok v w/\VR R x v:=by
 obtain⟨i,v,a,f,j⟩:=hX.zero R h;exact⟨v,by simp[zeroValue,typeInfo,a,f],j⟩
end
theorem zGG {R:Ren} : ∀l:List Value,VRL R (l.map AV.val) l
 | []=>rfl
 | v::l=>⟨v,l,rfl,rfl,zGG l⟩
theorem uA {R:Ren} : ∀ {x:AV} {v:Value},VR R x v->VRL R (jT x) v.cells.toList:=by
 intro x v h
 cases x with
 | agg l=>obtain⟨l',rfl,i⟩:=h;exact i
 | bool b=>simp only[VR]at h;subst h;exact⟨_,_,rfl,by simp[VR],rfl⟩
 | int k n=>simp only[VR]at h;subst h;exact⟨_,_,rfl,by simp[VR],rfl⟩
 | str n b=>obtain⟨s,rfl,i⟩:=h;exact⟨_,_,rfl,⟨s,rfl,i⟩,rfl⟩
 | nilPtr=>simp only[VR]at h;subst h;exact⟨_,_,rfl,by simp[VR],rfl⟩
 | ptr A o=>obtain⟨b,d,c,i,rfl⟩:=h;exact⟨_,_,rfl,⟨b,d,c,i,rfl⟩,rfl⟩
 | nilSlice=>simp only[VR]at h;subst h;exact⟨_,_,rfl,by simp[VR],rfl⟩
 | slice A o n cc=>obtain⟨b,d,c,i,rfl⟩:=h;exact⟨_,_,rfl,⟨b,d,c,i,rfl⟩,rfl⟩
 | emptySl=>obtain⟨a,c,rfl⟩:=h;exact⟨_,_,rfl,⟨a,c,rfl⟩,rfl⟩
 | nilMap=>simp only[VR]at h;subst h;exact⟨_,_,rfl,by simp[VR],rfl⟩
 | map A=>obtain⟨b,d,c,i,rfl⟩:=h;exact⟨_,_,rfl,⟨b,d,c,i,rfl⟩,rfl⟩
 | func f xs ys=>obtain⟨j,m,rfl,i,p⟩:=h;exact⟨_,_,rfl,⟨j,m,rfl,i,p⟩,rfl⟩
 | yieldTo A=>obtain⟨b,d,c,i,rfl⟩:=h;exact⟨_,_,rfl,⟨b,d,c,i,rfl⟩,rfl⟩
 | nilFunc=>simp only[VR]at h;subst h;exact⟨_,_,rfl,by simp[VR],rfl⟩
 | iface t x=>obtain⟨q,rfl,i⟩:=h;exact⟨_,_,rfl,⟨q,rfl,i⟩,rfl⟩
 | nilIface=>simp only[VR]at h;subst h;exact⟨_,_,rfl,by simp[VR],rfl⟩
 | tuple l=>obtain⟨l',rfl,i⟩:=h;exact⟨_,_,rfl,⟨l',rfl,i⟩,rfl⟩
 | val x=>simp only[VR]at h;subst h;exact zGG _
def zQb:Value->Prop
 | .agg _=>False
 | .tuple _=>False
 | _=>True
theorem zIo {R:Ren}{x:AV}{v:Value}(h:VR R x v)(j:isCell x=true):zQb v:=by
 cases x with
 | agg l=>simp[isCell]at j
 | tuple l=>simp[isCell]at j
 | bool b=>simp only[VR]at h;subst h;trivial
 | int k n=>simp only[VR]at h;subst h;trivial
 | str n b=>obtain⟨s,rfl,i⟩:=h;trivial
 | nilPtr=>simp only[VR]at h;subst h;trivial
 | ptr A o=>obtain⟨b,d,c,i,rfl⟩:=h;trivial
 | nilSlice=>simp only[VR]at h;subst h;trivial
 | slice A o n cc=>obtain⟨b,d,c,i,rfl⟩:=h;trivial
 | emptySl=>obtain⟨a,c,rfl⟩:=h;trivial
 | nilMap=>simp only[VR]at h;subst h;trivial
 | map A=>obtain⟨b,d,c,i,rfl⟩:=h;trivial
 | func f xs ys=>obtain⟨m,p,rfl,i,q⟩:=h;trivial
 | yieldTo A=>obtain⟨b,d,c,i,rfl⟩:=h;trivial
 | nilFunc=>simp only[VR]at h;subst h;trivial
 | iface t x=>obtain⟨u,rfl,i⟩:=h;trivial
 | nilIface=>simp only[VR]at h;subst h;trivial
 | val x=>simp[isCell]at j
theorem bX {R:Ren} : ∀ {l:List AV} {m:List Value},VRL R l m->jP l=true-> ∀v∈m,zQb v
 | [],m,h,_=>by simp only[VRL]at h;subst h;simp
 | x::l,m,h,hc=>by
  obtain⟨j,o,rfl,f,i⟩:=h;simp only[jP,zE]at hc;intro v a;rcases zP.1 a with rfl | a
  .exact zIo f hc.1
  .exact bX i hc.2 v a
theorem xA (b o n:Nat):(⟨b,o,none⟩:Addr).add n=⟨b,o+n,none⟩:=by
 unfold Addr.add;split
 .subst_vars;rfl
 .rfl
theorem Q5 (w:World)(b:Nat)(x y:Obj):vU (vU w b x) b y=vU w b y:=by
 simp[vU]
theorem KS (w:World)(b:Nat)(x:Obj)(h:w.heap[b]? =some x):vU w b x=w:=by
 have:w.heap.setIfInBounds b x=w.heap:=by
  apply Array.ext_getElem?;intro i;rw[Array.getElem?_setIfInBounds];split
  .subst_vars
   split
   .exact h.symm
   .rename_i a;rw[Array.getElem?_eq_none (by omega)]
  .rfl
 simp[vU,this]
theorem zBu (w:World)(b o:Nat)(v:Value)(arr:Array Value)(e:TypeId)(f:Nat×Nat)(h:w.heap[b]? =some (.cells arr e f)):
  w.setCell ⟨b,o,none⟩ v=vU w b (.cells (arr.setIfInBounds o v) e f):=by
 have hb:b<w.heap.size:=by
  rcases Nat.lt_or_ge b w.heap.size with a | a
  .exact a
  .rw[Array.getElem?_eq_none a]at h;cases h
 unfold World.setCell vU;congr 1;apply Array.ext_getElem?;intro i;rw[Array.getElem?_modify,Array.getElem?_setIfInBounds];by_cases e:b=i
 .subst e;rw[if_pos rfl,if_pos rfl,h,if_pos hb];rfl
 .rw[if_neg e,if_neg e]
def wS (arr:Array Value)(o:Nat):List Value->Array Value
 | []=>arr
 | v::vs=>wS (arr.setIfInBounds o v) (o+1) vs
theorem u6 (vs:List Value): ∀(arr:Array Value) (o:Nat),(wS arr o vs).size=arr.size:=by
 induction vs with
 | nil=>intro arr o;rfl
 | cons v vs ih=>intro arr o;simp[wS,ih]
theorem wZ (vs:List Value): ∀(arr:Array Value) (o:Nat),o+vs.length<=arr.size->(wS arr o vs).toList=arr.toList.take o++vs++arr.toList.drop (o+vs.length):=by
 induction vs with
 | nil=>intro arr o h;simp[wS]
 | cons v vs ih=>
  intro arr o h;simp only[zW]at h;rw[wS,ih _ _ (by simp;omega)];have f:o<arr.toList.length:=by rw[yU];omega
  rw[Array.toList_setIfInBounds];have a:(arr.toList.set o v).take (o+1)=arr.toList.take o++[v]:=by
   rw[List.take_set,List.set_eq_take_append_cons_drop];simp[List.take_take];omega
  rw[a];simp only[qI,List.singleton_append,zW];rw[List.drop_set_of_lt (by omega)];rw[show o+1+vs.length=o+(vs.length+1)from by omega]
theorem aY {P:Program}(e:TypeId)(a:Nat×Nat)(b o:Nat): ∀(vs:List Value) (i:Nat) (w:World) (arr:Array Value),w.heap[b]? =some (.cells arr e a)->o+i+vs.length<=arr.size->(∀v∈vs,zQb v)->
  (∀k,k<arr.size-> ¬(a.1<=k/\k<a.2))->(storeCells ⟨b,o,none⟩ vs i).run P w= .ok () (vU w b (.cells (wS arr (o+i) vs) e a)):=by
 intro vs
 induction vs with
 | nil=>intro i w arr h _ _ _;simp[storeCells,wS,KS w b _ h,zO]
 | cons v vs ih=>
  intro i w arr h hl f j;simp only[zW]at hl;have hb:b<w.heap.size:=by
   rcases Nat.lt_or_ge b w.heap.size with f | f
   .exact f
   .rw[Array.getElem?_eq_none f]at h;cases h
  have q:w.cell? ⟨b,o+i,none⟩=some arr[o+i]:=by
   simp[World.cell?,h,Array.getElem?_eq_getElem (show o+i<arr.size by omega)]
  have s:w.frozen? ⟨b,o+i,none⟩=false:=by
   simp only[World.frozen?,h];rw[y8];intro m;simp only[zE,zR]at m;exact j (o+i) (by omega) m
  have p:(store (⟨b,o+i,none⟩:Addr) v).run P w= .ok () (w.setCell ⟨b,o+i,none⟩ v):=by
   have t:=f v (zK ..)
   cases v<;>first | exact t.elim | simp[store,Sem.run,q,s]
  have x:(vU w b (.cells (arr.setIfInBounds (o+i) v) e a)).heap[b]? =some (.cells (arr.setIfInBounds (o+i) v) e a):=bB _ _ _ hb;rw[storeCells,zH,xA,p,zBu w b _ v arr e a h];simp only[Result.andThen];rw[ih (i+1) _ _ x (by simp;omega) (fun u y=>f u (zC _ y)) (by simpa using j),Q5,wS,show o+(i+1)=o+i+1 from by omega]
theorem zHj {sz o:Nat}{l new r:List AV}(h:(bif Nat.blt 0 sz then setAt l o new else none)=some r):setAt l o new=some r/\0<sz:=by
 rw[zF]at h;split at h
 .rename_i a;exact⟨h,by simpa using a⟩
 .simp at h
section
variable {R:Ren}{H:AH}{w:World}{A b d c:Nat}{l:List AV}{e:TypeId}{sz:Nat}{g:Bool}
theorem Rel.cellsAt (h:Rel R H w)(j:H.h.get A=some (.cells l e sz g))(hR:R A b d c): ∃(arr:Array Value) (a:Nat×Nat) (pre l' f:List Value),w.heap[b]? =some (.cells arr e a)/\arr.toList=pre++(l'++f)/\pre.length=d/\VRL R l l'/\
   (g=false->f=[]/\(0<sz->a=(0,0))/\(sz=0->c=enc a))/\(g=true->l'.length+f.length=c*sz/\c<9223372036854775808)/\(0<sz-> ∀i,i<arr.size-> ¬(a.1<=i/\i<a.2))/\ ∃m,VRL R m f:=h.obj _ _ _ _ _ hR j
theorem Rel.live (a:H.h.get A=some (.cells l e sz g)):JW H A:=⟨_,a,trivial⟩
theorem Rel.cell (h:Rel R H w)(j:H.h.get A=some (.cells l e sz g))(hR:R A b d c){o:Nat}{x:AV}(m:l[o]? =some x): ∃v,w.cell? ⟨b,d+o,none⟩=some v/\VR R x v:=by
 obtain⟨arr,u,pre,l',t,p,q,y,s,_⟩:=h.cellsAt j hR;obtain⟨v,a,f⟩:=VRL.get l l' s o x m;refine⟨v, ?_,f⟩;simp only[World.cell?,p,Option.isSome_none,zL,qC];have i:o<l'.length:=(qR.1 a).1;rw[<-yS,q,jA (by omega),show d+o - pre.length=o from by omega,yX i];exact a
theorem Rel.loads (h:Rel R H w)(s:H.h.get A=some (.cells l e sz g))(hR:R A b d c){P:Program}{o n:Nat}{r:List AV}(hr:uU l o n=some r):
  ∃vs:List Value,(loadCells ⟨b,d+o,none⟩ n).run P w= .ok vs.toArray w/\VRL R r vs/\vs.length=n:=by
 obtain⟨m,y⟩:=dV _ _ _ _ hr;obtain⟨arr,F,pre,l',x,t,u,J,i,_⟩:=h.cellsAt s hR;have z:=zRb l l' i;have p:VRL R r ((l'.drop o).take n):=by rw[m];exact(i.drop o).take n
 have f:((l'.drop o).take n).length=n:=by
  rw[qA,qK];omega
 refine⟨(l'.drop o).take n, ?_,p,f⟩;have hl:=run_loadCells_list (P:=P) w ⟨b,d+o,none⟩ ((l'.drop o).take n) (fun j v a=>by
  have C:=(qR.1 a).1;rw[xA];simp only[World.cell?,t,Option.isSome_none,zL,qC];rw[jG (by omega),jE]at a;have q:o+j<l'.length:=(qR.1 a).1;rw[<-yS,u,jA (by omega),show d+o+j - pre.length=o+j from by omega,yX q];exact a)
 rw[f]at hl;exact hl
theorem Rel.stores (h:Rel R H w)(s:H.h.get A=some (.cells l e sz g))(hR:R A b d c){P:Program}{o:Nat}{new r:List AV}{vs:List Value}(L:setAt l o new=some r)(f:0<sz)(j:VRL R new vs)(N:jP new=true)
  {m:T AObj} (t:T.set 40 H.h A (.cells r e sz g)=some m):
  ∃p,(storeCells ⟨b,d+o,none⟩ vs).run P w= .ok () p/\Rel R ⟨m,H.next⟩ p/\Ext R H w R ⟨m,H.next⟩ p:=by
 obtain⟨hr,Z⟩:=zAh _ _ _ _ L;obtain⟨arr,u,pre,l',a,O,v,S,q,U,x,y,V⟩:=h.cellsAt s hR;have a0:=zRb l l' q;have F:=zRb new vs j;have a1:arr.size=d+l'.length+a.length:=by
  have:=congrArg List.length v;simp at this;omega
 have C:=aY (P:=P) e u b (d+o) vs 0 w arr O (by omega) (bX j N) (y f);refine⟨_,C, ?_,Ext.put hR t⟩;refine h.put hR (Rel.live s) t ?_;have J:(wS arr (d+o+0) vs).toList=pre++((l'.take o++vs++l'.drop (o+vs.length))++a):=by
  rw[wZ _ _ _ (by omega),v];have W:(pre++(l'++a)).take (d+o+0)=pre++l'.take o:=by
   rw[List.take_append,zX (by omega),List.take_append];rw[show d+o+0 - pre.length=o from by omega];rw[show o - l'.length=0 from by omega];simp
  have Y:(pre++(l'++a)).drop (d+o+0+vs.length)=l'.drop (o+vs.length)++a:=by
   rw[List.drop_append,qT (by omega),List.drop_append];rw[show d+o+0+vs.length - pre.length=o+vs.length from by omega];rw[show o+vs.length - l'.length=0 from by omega];simp
  rw[W,Y];simp
 refine⟨wS arr (d+o+0) vs,u,pre,l'.take o++vs++l'.drop (o+vs.length),a,rfl,J,S, ?_,U, ?_, ?_,V⟩
 .rw[hr];have K:VRL R (l.drop (o+new.length)) (l'.drop (o+vs.length)):=by rw[F];exact q.drop _
  exact((q.take o).append j).append K
 .intro z;refine⟨?_,(x z).2⟩;have:=(x z).1;rw[<-this];simp;omega
 .intro f i hi;rw[u6]at hi;exact y f i hi
end
def RFn (R:Ren):Prop:= ∀A b d c b' d' c',R A b d c->R A b' d' c'->b=b'/\d=d'/\c=c'
theorem zM2 {k:IntKind}{m n:Nat}(hm:m<KA k)(h:n<KA k):(BitVec.ofInt k.bits (Int.ofNat m)&&& BitVec.ofInt k.bits (Int.ofNat n)).toNat=Nat.land m n:=by
 have a:(BitVec.ofInt k.bits (Int.ofNat m)).toNat=m:=by
  cases k<;>simp[BitVec.toNat_ofInt,IntKind.bits,KA]at* <;>omega
 have f:(BitVec.ofInt k.bits (Int.ofNat n)).toNat=n:=by
  cases k<;>simp[BitVec.toNat_ofInt,IntKind.bits,KA]at* <;>omega
 rw[BitVec.toNat_and,a,f];rfl
theorem zP7 {k:IntKind}{m n:Nat}(hm:m<KA k)(h:n<KA k):(BitVec.ofInt k.bits (Int.ofNat m)||| BitVec.ofInt k.bits (Int.ofNat n)).toNat=Nat.lor m n:=by
 have a:(BitVec.ofInt k.bits (Int.ofNat m)).toNat=m:=by
  cases k<;>simp[BitVec.toNat_ofInt,IntKind.bits,KA]at* <;>omega
 have f:(BitVec.ofInt k.bits (Int.ofNat n)).toNat=n:=by
  cases k<;>simp[BitVec.toNat_ofInt,IntKind.bits,KA]at* <;>omega
 rw[BitVec.toNat_or,a,f];rfl
theorem zM1 {k:IntKind}{m n:Nat}(hm:m<KA k)(h:n<KA k):(BitVec.ofInt k.bits (Int.ofNat m) ^^^ BitVec.ofInt k.bits (Int.ofNat n)).toNat=Nat.xor m n:=by
 have a:(BitVec.ofInt k.bits (Int.ofNat m)).toNat=m:=by
  cases k<;>simp[BitVec.toNat_ofInt,IntKind.bits,KA]at* <;>omega
 have f:(BitVec.ofInt k.bits (Int.ofNat n)).toNat=n:=by
  cases k<;>simp[BitVec.toNat_ofInt,IntKind.bits,KA]at* <;>omega
 rw[BitVec.toNat_xor,a,f];rfl
theorem aQ {f:BinOp}{k:IntKind}{a b:Int}{r:AV}(h:Q2.slow f k a b=some r){P:Program}{w:World} : ∃n,r= .int k n/\(Op.intBits f k a b).run P w= .ok (.int k n) w:=by
 cases f<;>simp only[Q2.slow,zG6,zB]at h<;>first | (subst h;exact⟨_,rfl,rfl⟩) | (simp at h)
theorem KQ {i:BinOp}{k:IntKind}{a b:Int}{r:AV}(h:Q2 i k a b=some r){P:Program}{w:World} : ∃n,r= .int k n/\(Op.intBits i k a b).run P w= .ok (.int k n) w:=by
 unfold Q2 at h;split at h
 .rename_i m n;rw[zF]at h;split at h
  .rename_i f;simp only[zE,qD]at f;rw[vX,zB]at h;subst h;refine⟨_,rfl, ?_⟩;simp only[Op.intBits,zM2 f.1.2 f.2];rfl
  .exact aQ h
 .rename_i m n;rw[zF]at h;split at h
  .rename_i f;simp only[zE,qD]at f;rw[vX,zB]at h;subst h;refine⟨_,rfl, ?_⟩;simp only[Op.intBits,zP7 f.1.2 f.2];rfl
  .exact aQ h
 .rename_i m n;rw[zF]at h;split at h
  .rename_i f;simp only[zE,qD]at f;rw[vX,zB]at h;subst h;refine⟨_,rfl, ?_⟩;simp only[Op.intBits,zM1 f.1.2 f.2];rfl
  .exact aQ h
 .exact aQ h
theorem zMg {i:BinOp}{k k':IntKind}{a b:Int}{r:AV}(h:gY i k a k' b=some r){P:Program}{t:TypeId}{w:World}(R:Ren):
  ∃z,(binOp i t (.int k a) (.int k' b)).run P w= .ok z w/\VR R r z:=by
 cases i
 case shl=>
  cases b with
  | negSucc m=>simp[gY]at h
  | ofNat m=>
   simp only[gY,vX,zB]at h;subst h;refine⟨_, ?_,rfl⟩;simp[binOp,Op.shift,zO,Nat.min_def];intro o;omega
 case shr=>
  cases b with
  | negSucc m=>simp[gY]at h
  | ofNat m=>
   simp only[gY,zG6,zB]at h;subst h;refine⟨_, ?_,rfl⟩;simp[binOp,Op.shift,zO,Nat.min_def];intro o;omega
 all_goals
  simp only[gY,xP]at h;rw[zF]at h;split at h
  rotate_left
  .simp at h
  rename_i j;simp only[zR]at j;subst j
 case add=>rw[vX,zB]at h;subst h;exact⟨_,by simp[binOp,Op.intArith,zO],rfl⟩
 case sub=>rw[vX,zB]at h;subst h;exact⟨_,by simp[binOp,Op.intArith,zO],rfl⟩
 case mul=>rw[vX,zB]at h;subst h;exact⟨_,by simp[binOp,Op.intArith,zO],rfl⟩
 case quo=>
  rw[xQ,zF]at h;split at h
  .simp at h
  .rename_i hb;rw[vX,zB]at h;subst h;have f: ¬b=0:=by simpa using hb
   exact⟨_,by simp[binOp,Op.intDiv,f,zO],rfl⟩
 case rem=>
  rw[xQ,zF]at h;split at h
  .simp at h
  .rename_i hb;rw[zG6,zB]at h;subst h;have f: ¬b=0:=by simpa using hb
   exact⟨_,by simp[binOp,Op.intDiv,f,zO],rfl⟩
 case and=>obtain⟨n,rfl,hr⟩:=KQ (P:=P) (w:=w) h;exact⟨_,by simp[binOp,hr],rfl⟩
 case or=>obtain⟨n,rfl,hr⟩:=KQ (P:=P) (w:=w) h;exact⟨_,by simp[binOp,hr],rfl⟩
 case xor=>obtain⟨n,rfl,hr⟩:=KQ (P:=P) (w:=w) h;exact⟨_,by simp[binOp,hr],rfl⟩
 case andNot=>obtain⟨n,rfl,hr⟩:=KQ (P:=P) (w:=w) h;exact⟨_,by simp[binOp,hr],rfl⟩
 case eql=>rw[wD,zB,xQ]at h;subst h;exact⟨_,by simp[binOp,Op.intCmp,zO],rfl⟩
 case neq=>rw[wD,zB,xQ]at h;subst h;exact⟨_,by simp[binOp,Op.intCmp,zO];rfl,rfl⟩
 case lss=>rw[wD,zB,uK]at h;subst h;exact⟨_,by simp[binOp,Op.intCmp,zO],rfl⟩
 case leq=>
  rw[wD,zB,uK]at h;subst h;refine⟨.bool (decide (a<=b)),by simp[binOp,Op.intCmp,zO], ?_⟩;simp only[VR,Value.bool.injEq];rw[yK];simp
 case gtr=>rw[wD,zB,uK]at h;subst h;exact⟨.bool (decide (b<a)),by simp[binOp,Op.intCmp,zO],rfl⟩
 case geq=>
  rw[wD,zB,uK]at h;subst h;refine⟨.bool (decide (b<=a)),by simp[binOp,Op.intCmp,zO], ?_⟩;simp only[VR,Value.bool.injEq];rw[yK];simp
theorem zH6 (s u:ByteArray):(Nat.beq s.size u.size&&Nat.beq (pack s.data.toList) (pack u.data.toList))=(s.data.toList==u.data.toList):=by
 rw[yK];simp only[zE,zY,beq_iff_eq];constructor
 .rintro⟨h1,h2⟩
  exact QH _ _ (by rw[size_data,size_data];exact h1) h2
 .intro h;refine⟨?_,by rw[h]⟩;rw[<-size_data,<-size_data,h]
theorem zMe {a:BinOp}{s u:ByteArray}{r:AV}(h:zCS a s.size (pack s.data.toList) u.size (pack u.data.toList)=some r){P:Program}{t:TypeId}{w:World}(R:Ren):
  ∃z,(binOp a t (.string s) (.string u)).run P w= .ok z w/\VR R r z:=by
 have hl:zBp s.size (pack s.data.toList) u.size (pack u.data.toList)=Op.bytesLess s.data.toList u.data.toList:=by
  rw[<-size_data,<-size_data];exact K4 _ _
 cases a<;>simp only[zCS,zH6,hl]at h
 case add=>
  rw[zF]at h;split at h
  .rename_i f;rw[qD]at f;rw[zBO,zB]at h;subst h;refine⟨.string (s++u), ?_,s++u,rfl,ByteArray.size_append, ?_⟩
   .have: ¬(((s.size+u.size:Nat):Int)>IntKind.i64.max):=by
     simp only[IntKind.max,IntKind.signed,IntKind.bits];simp;omega
    simp only[binOp,Op.stringOp];rw[if_neg this];rfl
   .rw[ByteArray.data_append,Array.toList_append,zDd,size_data,pow8]
  .simp at h
 case eql=>rw[wD,zB]at h;subst h;exact⟨_,by simp[binOp,Op.stringOp,toList_data,zO],rfl⟩
 case neq=>rw[wD,zB]at h;subst h;exact⟨_,by simp[binOp,Op.stringOp,toList_data,zO],rfl⟩
 case lss=>rw[wD,zB]at h;subst h;exact⟨_,by simp[binOp,Op.stringOp,toList_data,zO],rfl⟩
 case leq=>rw[wD,zB]at h;subst h;exact⟨_,by simp[binOp,Op.stringOp,toList_data,zO],rfl⟩
 case gtr=>rw[wD,zB]at h;subst h;exact⟨_,by simp only[binOp,Op.stringOp,toList_data];rfl,rfl⟩
 case geq=>rw[wD,zB]at h;subst h;exact⟨_,by simp[binOp,Op.stringOp,toList_data,zO],rfl⟩
 all_goals simp at h
theorem bytes_beq (s t:ByteArray):(s==t)=(s.data.toList==t.data.toList):=by
 have h:(s==t)=(s.data==t.data):=rfl;rw[h,yK];simp[<-Array.toList_inj]
section
variable {P:Program}{X:Cx}(hX:Ok P X){R:Ren}(hR:RFn R){w:World}
include hX hR
theorem zNf {n m:Nat}{t:TypeId}{x y:AV}{v u:Value}{b:Bool}(h:aeq X n t x y=some b)(a:VR R x v)(f:VR R y u):(Op.equalIn (m+1) t v u).run P w= .ok b w:=by
 cases n with
 | zero=>simp[aeq]at h
 | succ n=>
  simp only[aeq]at h;split at h
  .rename_i hd;have e:=hX.run_und hd w
   cases x<;>cases y<;>simp at h
   simp only[VR]at a f;subst a f h;simp[Op.equalIn,zH,e,zO]
  .rename_i hd;have e:=hX.run_und hd w
   cases x<;>cases y<;>simp[zF,xP,xQ]at h
   obtain⟨rfl,rfl⟩:=h;simp only[VR]at a f;subst a f;simp[Op.equalIn,zH,e,zO]
  .rename_i hd;have e:=hX.run_und hd w
   cases x<;>cases y<;>simp at h
   obtain⟨s,rfl,rfl,rfl⟩:=a;obtain⟨s',rfl,rfl,rfl⟩:=f;rw[<-h,zH6 s s',<-bytes_beq];simp[Op.equalIn,zH,e,zO]
  .rename_i o hd;have e:=hX.run_und hd w
   cases x<;>cases y<;>simp at h
   .simp only[VR]at a f;subst a f h;simp[Op.equalIn,zH,e,zO]
   .simp only[VR]at a;obtain⟨b1,j,c1,i,rfl⟩:=f;subst a h;simp[Op.equalIn,zH,e,zO]
   .simp only[VR]at f;obtain⟨b1,j,c1,i,rfl⟩:=a;subst f h;simp[Op.equalIn,zH,e,zO]
   .obtain⟨b1,j,c1,i,rfl⟩:=a;obtain⟨b2,N,c2,z,rfl⟩:=f;split at h
    .simp at h
    .rename_i k C F;have es:=hX.run_size F w;rw[zF]at h;split at h
     .rename_i p;rw[zY]at p;subst p;obtain⟨rfl,rfl,rfl⟩:=hR _ _ _ _ _ _ _ i z;simp only[zB]at h;subst h;have q: ¬k=0:=fun J=>C (by rw[J])
      simp only[Op.equalIn,zH,e,es,Result.andThen,ne_eq,q,j6,if_true,sameAddr,beq_self_eq_true];simp only[zO];congr 1;rw[yK];simp[zY]
     .simp at h
    .simp at h
  .rename_i o hd;have e:=hX.run_und hd w
   cases x<;>cases y<;>simp at h
   .simp only[VR]at a f;subst a f h;simp[Op.equalIn,zH,e,zO]
   .simp only[VR]at a;obtain⟨b1,j,c1,i,rfl⟩:=f;subst a h;simp[Op.equalIn,zH,e,zO]
   .simp only[VR]at f;obtain⟨b1,j,c1,i,rfl⟩:=a;subst f h;simp[Op.equalIn,zH,e,zO]
  .rename_i o L hd;have e:=hX.run_und hd w
   cases x<;>cases y<;>simp at h
   .simp only[VR]at a f;subst a f h;simp[Op.equalIn,zH,e,zO]
   .simp only[VR]at a;obtain⟨b1,j,c1,i,rfl⟩:=f;subst a h;simp[Op.equalIn,zH,e,zO]
   .simp only[VR]at f;obtain⟨b1,j,c1,i,rfl⟩:=a;subst f h;simp[Op.equalIn,zH,e,zO]
  .rename_i O S T hd;have e:=hX.run_und hd w
   cases x<;>cases y<;>simp at h
   .obtain⟨xs,K,rfl,_⟩:=a;simp only[VR]at f;subst f h;simp[Op.equalIn,zH,e,zO]
   .simp only[VR]at a;obtain⟨xs,K,rfl,_⟩:=f;subst a h;simp[Op.equalIn,zH,e,zO]
   .simp only[VR]at a f;subst a f h;simp[Op.equalIn,zH,e,zO]
  .simp at h
end
theorem zC1 {a b:IntKind}(h:ZQ a=ZQ b):a=b:=by cases a<;>cases b<;>simp[ZQ]at h<;>rfl
theorem gI (a:IntKind):3<=ZQ a:=by cases a<;>simp[ZQ]
def vEq (q:Nat)(x y:Value):Option Bool:=
 match x,y with
 | .bool a, .bool b=>if q=0 then some (a==b)else none
 | .int k a, .int k' b=>if q=ZQ k/\k=k' then some (a==b)else none
 | .string a, .string b=>if q=2 then some (a==b)else none
 | _,_=>none
def U3:List Nat->List Value->List Value->Option Bool
 | [],[],[]=>some true
 | q::qs,x::xs,y::ys=>match vEq q x y with
  | some true=>U3 qs xs ys
  | some false=>some false
  | none=>none
 | _,_,_=>none
theorem ZI: ∀(f:List Nat) (rs:List Nat) (a b c d:List Value),a.length=f.length->b.length=f.length->U3 (f++rs) (a++c) (b++d)=(match U3 f a b with | some true=>U3 rs c d | some false=>some false | none=>none)
 | [],rs,a,b,c,d,h1,h2=>by
  have:a=[]:=zV h1;have:b=[]:=zV h2;subst a b;simp[U3]
 | q::f,rs,x::a,y::b,c,d,h1,h2=>by
  simp only[qF,U3]
  cases vEq q x y with
  | none=>rfl
  | some r=>cases r with
   | false=>rfl
   | true=>exact ZI f rs a b c d (by simpa using h1) (by simpa using h2)
 | _::_,_,[],_,_,_,h,_=>by simp at h
 | _::_,_,_::_,[],_,_,_,h=>by simp at h
theorem zCA {R:Ren}{q:Nat}{x y:AV}{v u:Value}{b:Bool}(h:VB q x y=some b)(a:VR R x v)(f:VR R y u):vEq q v u=some b:=by
 unfold VB at h;split at h
 .simp only[zF,zY]at h;simp only[VR]at a f;subst a f;exact h
 .simp only[zF,xP,zE,zY,zR]at h;simp only[VR]at a f;subst a f;simp only[vEq];rw[xQ]at h;exact h
 .simp only[zF,zY]at h;obtain⟨s,rfl,rfl,rfl⟩:=a;obtain⟨s',rfl,rfl,rfl⟩:=f;rw[zH6]at h;simp only[vEq];rw[bytes_beq];exact h
 .simp at h
theorem BU {R:Ren} : ∀ {f:List Nat} {xs i:List AV} {vs a:List Value} {b:Bool},u5 f xs i=some b->VRL R xs vs->VRL R i a->U3 f vs a=some b
 | [],[],[],vs,a,b,h,hv,hu=>by simp only[VRL]at hv hu;subst hv hu;exact h
 | q::f,x::xs,y::i,vs,a,b,h,hv,hu=>by
  obtain⟨v,vs',rfl,j,o⟩:=hv;obtain⟨u,s,rfl,m,p⟩:=hu;simp only[u5]at h;simp only[U3];split at h
  .rename_i e;rw[zCA e j m];exact BU h o p
  .rename_i e;rw[zCA e j m];exact h
  .simp at h
 | [],[],_::_,_,_,_,h,_,_=>by simp[u5]at h
 | [],_::_,_,_,_,_,h,_,_=>by simp[u5]at h
 | _::_,[],_,_,_,_,h,_,_=>by simp[u5]at h
 | _::_,_::_,[],_,_,_,h,_,_=>by simp[u5]at h
section
variable {P:Program}
def EqF (P:Program)(m:Nat)(t:TypeId)(a:List Nat):Prop:=
 ∀(w:World) (xs f:Array Value) (off:Nat) (b:Bool),off+a.length<=xs.size->off+a.length<=f.size->U3 a ((xs.toList.drop off).take a.length) ((f.toList.drop off).take a.length)=some b->
  ∃x y,(part t xs off).run P w= .ok x w/\(part t f off).run P w= .ok y w/\(Op.equalIn m t x y).run P w= .ok b w
theorem QF {xs:Array Value}{off n:Nat} :xs.toList.drop off=(xs.toList.drop off).take n++xs.toList.drop (off+n):=by
 rw[<-List.drop_drop,qM]
theorem zAi {xs:Array Value}{off n:Nat}(h:off+n<=xs.size):((xs.toList.drop off).take n).length=n:=by
 simp;omega
theorem QY {m:Nat}{xs i:Array Value}{n:Nat}(L:xs.size=n)(N:i.size=n){rec:TypeId->Option (List Nat)}(q: ∀t k,rec t=some k->EqF P m t k): ∀(fs:List Field) (a:Nat) (r:List Nat) (b:Bool) (w:World),zAD P rec fs a=some r->a+r.length=n->
  U3 r (xs.toList.drop a) (i.toList.drop a)=some b->(Op.eqFields m xs i fs).run P w= .ok b w
 | [],a,r,b,w,h,hn,hb=>by
  simp only[zAD,zB]at h;subst h;have O:xs.toList.drop a=[]:=qT (by simp at hn⊢;omega);have S:i.toList.drop a=[]:=qT (by simp at hn⊢;omega);rw[O,S]at hb;simp only[U3,zB]at hb;subst hb;simp[Op.eqFields]
 | f::fs,a,r,b,w,h,hn,hb=>by
  simp only[zAD]at h;split at h
  .rename_i k j z W;rw[zF]at h;split at h
   .rename_i C;simp only[zE,yT,zY]at C;obtain⟨⟨T,F⟩,U⟩:=C;split at h
    .rename_i V J;simp only[zB]at h;subst h;simp only[zT]at hn;have s:a+k.length<=xs.size:=by omega
     have u:a+k.length<=i.size:=by omega
     rw[QF (n:=k.length),QF (xs:=i) (n:=k.length),ZI _ _ _ _ _ _ (zAi s) (zAi u)]at hb
     have K:f.name≠ "_":=by simpa using T
     simp only[Op.eqFields,if_pos K];split at hb
     .rename_i e;obtain⟨x,y,o,p,v⟩:=q _ _ z w xs i a true s u e;rw[<-F]at o p;simp only[zH,o,p,v,Result.andThen_ok];simpa using QY L N q fs (a+j.size) V b w J (by omega) (by rw[<-U];exact hb)
     .rename_i e;obtain⟨x,y,o,p,v⟩:=q _ _ z w xs i a false s u e;rw[<-F]at o p;simp only[zB]at hb;subst hb;simp[zH,o,p,v]
     .simp at hb
    .simp at h
   .simp at h
  .simp at h
theorem JQ {m c:Nat}{k:List Nat}{e:TypeId}{xs a:Array Value}(s:k.length=c)(j:EqF P m e k): ∀(n i:Nat) (b:Bool) (w:World),xs.size=(i+n)*c->a.size=(i+n)*c->
  U3 (List.replicate n k).flatten (xs.toList.drop (i*c)) (a.toList.drop (i*c))=some b->(Op.eqItems m e c xs a (List.range' i n)).run P w= .ok b w
 | 0,i,b,w,hx,hy,hb=>by
  have t:xs.toList.drop (i*c)=[]:=qT (by simp;rw[hx];simp);have u:a.toList.drop (i*c)=[]:=qT (by simp;rw[hy];simp);rw[t,u]at hb;simp only[List.replicate_zero,List.flatten_nil,U3,zB]at hb;subst hb;simp[Op.eqItems]
 | n+1,i,b,w,hx,hy,hb=>by
  subst s;have v:(i+(n+1))*k.length=i*k.length+k.length+n*k.length:=by rw[j7,j7];omega
  have f:i*k.length+k.length<=xs.size:=by omega
  have h:i*k.length+k.length<=a.size:=by omega
  have hi:i*k.length+k.length=(i+1)*k.length:=by rw[j7];omega
  rw[List.replicate_succ,List.flatten_cons,QF (n:=k.length),QF (xs:=a) (n:=k.length),ZI _ _ _ _ _ _ (zAi f) (zAi h)]at hb;simp only[List.range'_succ,Op.eqItems];split at hb
  .rename_i e;obtain⟨x,y,o,p,q⟩:=j w xs a (i*k.length) true f h e;simp only[zH,o,p,q,Result.andThen_ok];have:=JQ rfl j n (i+1) b w (by rw[hx];congr 1;omega) (by rw[hy];congr 1;omega) (by rw[<-hi];exact hb);simpa using this
  .rename_i e;obtain⟨x,y,o,p,q⟩:=j w xs a (i*k.length) false f h e;simp only[zB]at hb;subst hb;simp[zH,o,p,q]
  .simp at hb
theorem zAX: ∀(d:Nat) (t:TypeId) (o:List Nat),dK P d t=some o-> ∀m,d<=m->
  EqF P m t o/\ ∀(w:World) (xs a:Array Value) (b:Bool),xC P t=true->xs.size=o.length->a.size=o.length->U3 o xs.toList a.toList=some b->(Op.equalIn m t (.agg xs) (.agg a)).run P w= .ok b w
 | 0,t,o,h,_,_=>by simp[dK]at h
 | d+1,t,o,h,m,hm=>by
  obtain⟨m,rfl⟩: ∃m',m=m'+1:=⟨m - 1,by omega⟩;have ih:=zAX d;have Z:xC P t=true->(∀i,P.info? t=some i->i.size=o.length)->(∀(w:World) (xs a:Array Value) (b:Bool),xs.size=o.length->a.size=o.length->U3 o xs.toList a.toList=some b->(Op.equalIn (m+1) t (.agg xs) (.agg a)).run P w= .ok b w)->
    (∃i,P.info? t=some i)->EqF P (m+1) t o:=by
   intro F a4 v ⟨i,hi⟩ w xs a off b K L hb;have a5:=a4 i hi;have a0: ∀w,(sizeOf t).run P w= .ok o.length w:=fun w=>by simp[sizeOf,typeInfo,hi,a5]
   have S: ∀p:Array Value,off+o.length<=p.size->(p.extract off (off+o.length)).toList=(p.toList.drop off).take o.length/\(p.extract off (off+o.length)).size=o.length:=by
    intro p hz;refine⟨by rw[Array.toList_extract];simp[List.extract],by simp;omega⟩
   have N:(isAgg t).run P w= .ok true w:=by
    unfold xC at F;split at F
    .rename_i fs f;simp[isAgg,zH,run_underlying f]
    .rename_i n e f;simp[isAgg,zH,run_underlying f]
    .simp at F
   refine⟨.agg (xs.extract off (off+o.length)), .agg (a.extract off (off+o.length)), ?_, ?_, ?_⟩
   .simp[part,zH,N,a0]
   .simp[part,zH,N,a0]
   .refine v w _ _ b (S xs K).2 (S a L).2 ?_;rw[(S xs K).1,(S a L).1];exact hb
  have V: ∀q,o=[q]->(∃u,P.underlying t=some u/\d8 u=false)->(∀w x y b,vEq q x y=some b->(Op.equalIn (m+1) t x y).run P w= .ok b w)->EqF P (m+1) t o:=by
   intro q a6 ⟨u,f,F⟩ hq w xs a off b K L hb;subst a6;simp only[yL]at K L hb;have N:(isAgg t).run P w= .ok false w:=by
    cases u<;>first | (simp[d8]at F;done) | simp[isAgg,zH,run_underlying f]
   have hg: ∀p:Array Value,off+1<=p.size-> ∃z,p[off]? =some z/\(p.toList.drop off).take 1=[z]:=by
    intro p hz;have a7:off<p.size:=hz;refine⟨p[off],by simp, ?_⟩;rw[qL (by simpa using a7)];simp
   obtain⟨x,x1,x2⟩:=hg xs K;obtain⟨y,y1,y2⟩:=hg a L;rw[x2,y2]at hb;have a8:vEq q x y=some b:=by
    simp only[U3]at hb;split at hb
    .rename_i e;rw[e];exact hb
    .rename_i e;rw[e];exact hb
    .simp at hb
   exact⟨x,y,by simp[part,zH,N,x1],by simp[part,zH,N,y1],hq w x y b a8⟩
  unfold dK at h;split at h
  .rename_i j f s;rw[zF]at h;split at h
   .simp only[zB]at h;subst h;refine⟨V 0 rfl ⟨_,f,rfl⟩ (fun w x y b hb=> ?_),fun _ _ _ _ O=>by simp[xC,f]at O⟩
    cases x<;>cases y<;>simp[vEq]at hb
    .subst hb;simp[Op.equalIn,zH,run_underlying f]
    .rename_i W n1 k2 n2;have:=gI W;omega
   .simp at h
  .rename_i k j f s;rw[zF]at h;split at h
   .simp only[zB]at h;subst h;refine⟨V (ZQ k) rfl ⟨_,f,rfl⟩ (fun w x y b hb=> ?_),fun _ _ _ _ O=>by simp[xC,f]at O⟩;have b0:=gI k
    cases x<;>cases y<;>simp[vEq]at hb
    .omega
    .obtain⟨⟨_,h2⟩,rfl⟩:=hb;subst h2;simp[Op.equalIn,zH,run_underlying f]
    .omega
   .simp at h
  .rename_i j f s;rw[zF]at h;split at h
   .simp only[zB]at h;subst h;refine⟨V 2 rfl ⟨_,f,rfl⟩ (fun w x y b hb=> ?_),fun _ _ _ _ O=>by simp[xC,f]at O⟩
    cases x<;>cases y<;>simp[vEq]at hb
    .rename_i W n1 k2 n2;have:=gI W;omega
    .subst hb;simp[Op.equalIn,zH,run_underlying f]
   .simp at h
  .rename_i fs j f s;rw[zF]at h;split at h
   .rename_i a1;simp only[yT]at a1;split at h
    .rename_i r hr;rw[zF]at h;split at h
     .rename_i J;rw[zY]at J;simp only[zB]at h;subst h;have Y:xC P t=true:=by simp[xC,f]
      have v: ∀(w:World) (xs a:Array Value) (b:Bool),xs.size=r.length->a.size=r.length->U3 r xs.toList a.toList=some b->(Op.equalIn (m+1) t (.agg xs) (.agg a)).run P w= .ok b w:=by
       intro w xs a b T U hb;have a2:P.fieldsOf t=fs:=by simp[Program.fieldsOf,f]
       rw[run_equalIn_struct w m t xs a (by rw[a2];exact f) a1,a2];exact QY T U (rec:=dK P d) (fun t' k h1=>(ih t' k h1 m (by omega)).1) fs.toList 0 r b w hr (by omega) (by simpa using hb)
      exact⟨Z Y (fun i hi=>by rw[s]at hi;injection hi with hi;subst hi;exact J.symm) v ⟨j,s⟩,fun w xs a b _=>v w xs a b⟩
     .simp at h
    .simp at h
   .simp at h
  .rename_i len e j f s;split at h
   .rename_i k ei hk a3;rw[zF]at h;split at h
    .rename_i C;simp only[zE,zY]at C;simp only[zB]at h;subst h;have Y:xC P t=true:=by simp[xC,f]
     have a9:P.cellsOf e=ei.size:=by simp[Program.cellsOf,a3]
     have J:(List.replicate len k).flatten.length=len*k.length:=by simp
     have v: ∀(w:World) (xs a:Array Value) (b:Bool),xs.size=(List.replicate len k).flatten.length->a.size=(List.replicate len k).flatten.length->U3 (List.replicate len k).flatten xs.toList a.toList=some b->(Op.equalIn (m+1) t (.agg xs) (.agg a)).run P w= .ok b w:=by
      intro w xs a b T U hb;rw[run_equalIn_array w m xs a f a3,a9,List.range_eq_range'];rw[J]at T U;exact JQ C.2 (ih e k hk m (by omega)).1 len 0 b w (by rw[T,C.2];simp) (by rw[U,C.2];simp) (by simpa using hb)
     exact⟨Z Y (fun i hi=>by rw[s]at hi;injection hi with hi;subst hi;rw[J,C.2,C.1]) v ⟨j,s⟩,fun w xs a b _=>v w xs a b⟩
    .simp at h
   .simp at h
  .simp at h
theorem zC6 {rec:TypeId->Option (List Nat)} : ∀ {fs:List Field} {i:Nat} {r:List Nat},zAD P rec fs i=some r-> ∀f∈fs,∃k,rec f.type=some k
 | [],_,_,_,f,a=>by simp at a
 | g::fs,i,r,h,f,a=>by
  simp only[zAD]at h;split at h
  .rename_i k j o p;rcases zP.1 a with rfl | a
   .exact⟨k,o⟩
   .rw[zF]at h;split at h
    .split at h
     .rename_i q m;exact zC6 m f a
     .simp at h
    .simp at h
  .simp at h
theorem UR: ∀(d:Nat) (t:TypeId) (f:List Nat),dK P d t=some f-> ∀m,d<=m->P.eqGuardType m t=false
 | 0,t,f,h,_,_=>by simp[dK]at h
 | d+1,t,f,h,m,hm=>by
  obtain⟨m,rfl⟩: ∃q,m=q+1:=⟨m - 1,by omega⟩;have p:=UR d;unfold dK at h;unfold Program.eqGuardType;split at h
  .rename_i a _;simp[a]
  .rename_i a _;simp[a]
  .rename_i a _;simp[a]
  .rename_i fs j a s;rw[zF]at h;split at h
   .split at h
    .rename_i r hr;simp only[a];rw[Array.any_eq_false];intro i hi;obtain⟨k,o⟩:=zC6 hr fs[i] (by simp);rw[p _ _ o m (by omega)];simp
    .simp at h
   .simp at h
  .rename_i len e j a s;split at h
   .rename_i k v o u;simp only[a];exact p _ _ o m (by omega)
   .simp at h
  .simp at h
end
theorem wB {P:Program}{w:World}{f:BinOp}{t:TypeId}{ox oy:Operand}{v u:Value}(h: ∀a,v≠ .agg a)(i:v≠ .nilIface):(eqGuard f t ox oy v u).run P w= .ok () w:=by
 cases f<;>first
  | rfl
  | (cases v<;>first | (exact absurd rfl (h _)) | (exact absurd rfl i) | rfl)
section
variable {P:Program}{X:Cx}(hX:Ok P X){R:Ren}(hR:RFn R){w:World}
include hX hR
theorem vP {a:BinOp}{t:TypeId}{x y r:AV}{v u:Value}(h:zCT X a t x y=some r)(f:VR R x v)(i:VR R y u)
  (j: ∀k n,v≠ .int k n) (o: ∀s,v≠ .string s) (p: ∀k n,v≠ .float k n) (q: ∀k n m,v≠ .complex k n m): ∃z,(binOp a t v u).run P w= .ok z w/\VR R r z:=by
 unfold zCT at h;split at h
 .split at h
  .rename_i b hb;rw[wD,zB]at h;subst h;have e:=zNf hX hR (w:=w) (m:=9999) hb f i;refine⟨.bool b, ?_,rfl⟩;have:binOp .eql t v u=(do pure (.bool (← Op.equal t v u)):Sem Value):=by
    cases v<;>first | (exact absurd rfl (j _ _)) | (exact absurd rfl (o _)) | (exact absurd rfl (p _ _)) | (exact absurd rfl (q _ _ _)) | rfl
   rw[this];simp only[Op.equal,Op.maxDepth,zH,e,Result.andThen];rfl
  .simp at h
 .split at h
  .rename_i b hb;rw[wD,zB]at h;subst h;have e:=zNf hX hR (w:=w) (m:=9999) hb f i;refine⟨.bool !b, ?_,rfl⟩;have:binOp .neq t v u=(do pure (.bool (!(← Op.equal t v u))):Sem Value):=by
    cases v<;>first | (exact absurd rfl (j _ _)) | (exact absurd rfl (o _)) | (exact absurd rfl (p _ _)) | (exact absurd rfl (q _ _ _)) | rfl
   rw[this];simp only[Op.equal,Op.maxDepth,zH,e,Result.andThen];rfl
  .simp at h
 .simp at h
omit hR in
theorem zMh {o:BinOp}{t:TypeId}{ox oy:Operand}{a b:List AV}{r:AV}{v u:Value}(h:zK9 X o t a b=some r)(j:VR R (.agg a) v)(m:VR R (.agg b) u):
  (eqGuard o t ox oy v u).run P w= .ok () w/\ ∃z,(binOp o t v u).run P w= .ok z w/\VR R r z:=by
 obtain⟨vs,rfl,j⟩:=j;obtain⟨F,rfl,m⟩:=m;unfold zK9 at h;split at h
 .rename_i J f;have C:(t,J)∈X.fl:=by
   generalize X.fl=l at f
   induction l with
   | nil=>simp[zDp]at f
   | cons x l ih=>
    obtain⟨i,ks⟩:=x;simp only[zDp,zF,zY]at f;split at f
    .rename_i e;simp only[zB]at f;subst e f;simp
    .exact zC _ (ih f)
  obtain⟨q,K,L⟩:=hX.fl _ C;rw[zF]at h;split at h
  .rename_i N;simp only[zE,zY,jX]at N;have O:=zRb _ _ j;have S:=zRb _ _ m;split at h
   .rename_i p hb;have s:=(zAX _ _ _ q 10000 L).2 w ⟨vs⟩ ⟨F⟩ p K (by simp;omega) (by simp;omega) (BU hb j m);have y:=UR _ _ _ q P.depth (zQ _);split at h
    .rw[wD,zB]at h;subst h;refine⟨by simp[eqGuard,zH,program,Sem.run,y], .bool p, ?_,rfl⟩;rw[run_eql_struct,s];rfl
    .rw[wD,zB]at h;subst h;refine⟨by simp[eqGuard,zH,program,Sem.run,y], .bool !p, ?_,rfl⟩;rw[run_neq_struct,s];rfl
    .simp at h
   .simp at h
  .simp at h
 .simp at h
theorem zK8 {i:BinOp}{t:TypeId}{ox oy:Operand}{x y r:AV}{v u:Value}(h:zKa X i t x y=some r)(a:VR R x v)(f:VR R y u):
  (eqGuard i t ox oy v u).run P w= .ok () w/\ ∃z,(binOp i t v u).run P w= .ok z w/\VR R r z:=by
 unfold zKa at h;split at h
 .simp only[VR]at a f;subst a f;exact⟨wB (by simp) (by simp),zMg h R⟩
 .obtain⟨s,rfl,rfl,rfl⟩:=a;obtain⟨s',rfl,rfl,rfl⟩:=f;exact⟨wB (by simp) (by simp),zMe h R⟩
 .exact zMh hX h a f
 .rw[zF]at h;split at h
  .rename_i o
   cases x<;>first | (simp[wK]at o;done) | skip
   case bool=>have e:=a;simp only[VR]at e;subst e;exact⟨wB (by simp) (by simp),vP hX hR h a f (by simp) (by simp) (by simp) (by simp)⟩
   case nilPtr=>have e:v= .pointer none:=a;subst e;exact⟨wB (by simp) (by simp),vP hX hR h a f (by simp) (by simp) (by simp) (by simp)⟩
   case ptr=>obtain⟨b1,j,c1,m,rfl⟩:=id a;exact⟨wB (by simp) (by simp),vP hX hR h a f (by simp) (by simp) (by simp) (by simp)⟩
   case nilSlice=>have e:v= .slice none 0 0:=a;subst e;exact⟨wB (by simp) (by simp),vP hX hR h a f (by simp) (by simp) (by simp) (by simp)⟩
   case slice=>obtain⟨b1,j,c1,m,rfl⟩:=id a;exact⟨wB (by simp) (by simp),vP hX hR h a f (by simp) (by simp) (by simp) (by simp)⟩
   case emptySl=>obtain⟨p,c1,rfl⟩:=id a;exact⟨wB (by simp) (by simp),vP hX hR h a f (by simp) (by simp) (by simp) (by simp)⟩
   case nilMap=>have e:v= .map none:=a;subst e;exact⟨wB (by simp) (by simp),vP hX hR h a f (by simp) (by simp) (by simp) (by simp)⟩
   case map=>obtain⟨b1,j,c1,m,rfl⟩:=id a;exact⟨wB (by simp) (by simp),vP hX hR h a f (by simp) (by simp) (by simp) (by simp)⟩
   case func=>obtain⟨xs,q,rfl,_⟩:=id a;exact⟨wB (by simp) (by simp),vP hX hR h a f (by simp) (by simp) (by simp) (by simp)⟩
   case yieldTo=>obtain⟨b1,j,c1,m,rfl⟩:=id a;exact⟨wB (by simp) (by simp),vP hX hR h a f (by simp) (by simp) (by simp) (by simp)⟩
   case nilFunc=>have e:v= .nilFunc:=a;subst e;exact⟨wB (by simp) (by simp),vP hX hR h a f (by simp) (by simp) (by simp) (by simp)⟩
  .simp at h
end
mutual
theorem J7: ∀(x y:AV),aveq x y=true->x=y
 | .bool a, .bool b,h=>by simp[aveq]at h;rw[h]
 | .int k a, .int k' b,h=>by simp[aveq,xP,xQ]at h;rw[h.1,h.2]
 | .str l b, .str m c,h=>by simp[aveq]at h;rw[h.1,h.2]
 | .nilPtr, .nilPtr,_=>rfl
 | .ptr a o, .ptr b p,h=>by simp[aveq]at h;rw[h.1,h.2]
 | .nilSlice, .nilSlice,_=>rfl
 | .slice a b c d, .slice a' b' c' d',h=>by simp[aveq]at h;rw[h.1.1.1,h.1.1.2,h.1.2,h.2]
 | .nilMap, .nilMap,_=>rfl
 | .map a, .map b,h=>by simp[aveq]at h;rw[h]
 | .func f a b, .func g c d,h=>by simp[aveq]at h;rw[h.1.1,Y9 a c h.1.2,Y9 b d h.2]
 | .yieldTo a, .yieldTo b,h=>by simp[aveq]at h;rw[h]
 | .nilFunc, .nilFunc,_=>rfl
 | .iface t x, .iface u y,h=>by simp[aveq]at h;rw[h.1,J7 x y h.2]
 | .nilIface, .nilIface,_=>rfl
 | .agg a, .agg b,h=>by simp[aveq]at h;rw[Y9 a b h]
 | .tuple a, .tuple b,h=>by simp[aveq]at h;rw[Y9 a b h]
 | .emptySl,y,h=>by cases y<;>first | rfl | (simp[aveq]at h)
 | .val _, .val _,h | .val _, .bool _,h | .val _, .int _ _,h | .val _, .str _ _,h | .val _, .nilPtr,h | .val _, .ptr _ _,h | .val _, .nilSlice,h | .val _, .slice _ _ _ _,h | .val _, .emptySl,h | .val _, .nilMap,h | .val _, .map _,h | .val _, .func _ _ _,h | .val _, .yieldTo _,h | .val _, .nilFunc,h | .val _, .iface _ _,h | .val _, .nilIface,h | .val _, .agg _,h | .val _, .tuple _,h=>by simp[aveq]at h
 | .bool _, .val _,h | .int _ _, .val _,h | .str _ _, .val _,h | .nilPtr, .val _,h | .ptr _ _, .val _,h | .nilSlice, .val _,h | .slice _ _ _ _, .val _,h | .nilMap, .val _,h | .map _, .val _,h | .func _ _ _, .val _,h | .yieldTo _, .val _,h | .nilFunc, .val _,h | .iface _ _, .val _,h | .nilIface, .val _,h | .agg _, .val _,h | .tuple _, .val _,h=>by simp[aveq]at h
 | .bool _, .int _ _,h | .bool _, .str _ _,h | .bool _, .nilPtr,h | .bool _, .ptr _ _,h | .bool _, .nilSlice,h | .bool _, .slice _ _ _ _,h | .bool _, .emptySl,h | .bool _, .nilMap,h | .bool _, .map _,h | .bool _, .func _ _ _,h | .bool _, .yieldTo _,h | .bool _, .nilFunc,h | .bool _, .iface _ _,h | .bool _, .nilIface,h | .bool _, .agg _,h | .bool _, .tuple _,h=>by simp[aveq]at h
 | .int _ _, .bool _,h | .int _ _, .str _ _,h | .int _ _, .nilPtr,h | .int _ _, .ptr _ _,h | .int _ _, .nilSlice,h | .int _ _, .slice _ _ _ _,h | .int _ _, .emptySl,h | .int _ _, .nilMap,h | .int _ _, .map _,h | .int _ _, .func _ _ _,h | .int _ _, .yieldTo _,h | .int _ _, .nilFunc,h | .int _ _, .iface _ _,h | .int _ _, .nilIface,h | .int _ _, .agg _,h | .int _ _, .tuple _,h=>by simp[aveq]at h
 | .str _ _, .bool _,h | .str _ _, .int _ _,h | .str _ _, .nilPtr,h | .str _ _, .ptr _ _,h | .str _ _, .nilSlice,h | .str _ _, .slice _ _ _ _,h | .str _ _, .emptySl,h | .str _ _, .nilMap,h | .str _ _, .map _,h | .str _ _, .func _ _ _,h | .str _ _, .yieldTo _,h | .str _ _, .nilFunc,h | .str _ _, .iface _ _,h | .str _ _, .nilIface,h | .str _ _, .agg _,h | .str _ _, .tuple _,h=>by simp[aveq]at h
 | .nilPtr, .bool _,h | .nilPtr, .int _ _,h | .nilPtr, .str _ _,h | .nilPtr, .ptr _ _,h | .nilPtr, .nilSlice,h | .nilPtr, .slice _ _ _ _,h | .nilPtr, .emptySl,h | .nilPtr, .nilMap,h | .nilPtr, .map _,h | .nilPtr, .func _ _ _,h | .nilPtr, .yieldTo _,h | .nilPtr, .nilFunc,h | .nilPtr, .iface _ _,h | .nilPtr, .nilIface,h | .nilPtr, .agg _,h | .nilPtr, .tuple _,h=>by simp[aveq]at h
 | .ptr _ _, .bool _,h | .ptr _ _, .int _ _,h | .ptr _ _, .str _ _,h | .ptr _ _, .nilPtr,h | .ptr _ _, .nilSlice,h | .ptr _ _, .slice _ _ _ _,h | .ptr _ _, .emptySl,h | .ptr _ _, .nilMap,h | .ptr _ _, .map _,h | .ptr _ _, .func _ _ _,h | .ptr _ _, .yieldTo _,h | .ptr _ _, .nilFunc,h | .ptr _ _, .iface _ _,h | .ptr _ _, .nilIface,h | .ptr _ _, .agg _,h | .ptr _ _, .tuple _,h=>by simp[aveq]at h
 | .nilSlice, .bool _,h | .nilSlice, .int _ _,h | .nilSlice, .str _ _,h | .nilSlice, .nilPtr,h | .nilSlice, .ptr _ _,h | .nilSlice, .slice _ _ _ _,h | .nilSlice, .emptySl,h | .nilSlice, .nilMap,h | .nilSlice, .map _,h | .nilSlice, .func _ _ _,h | .nilSlice, .yieldTo _,h | .nilSlice, .nilFunc,h | .nilSlice, .iface _ _,h | .nilSlice, .nilIface,h | .nilSlice, .agg _,h | .nilSlice, .tuple _,h=>by simp[aveq]at h
 | .slice _ _ _ _, .bool _,h | .slice _ _ _ _, .int _ _,h | .slice _ _ _ _, .str _ _,h | .slice _ _ _ _, .nilPtr,h | .slice _ _ _ _, .ptr _ _,h | .slice _ _ _ _, .nilSlice,h | .slice _ _ _ _, .emptySl,h | .slice _ _ _ _, .nilMap,h | .slice _ _ _ _, .map _,h | .slice _ _ _ _, .func _ _ _,h | .slice _ _ _ _, .yieldTo _,h | .slice _ _ _ _, .nilFunc,h | .slice _ _ _ _, .iface _ _,h | .slice _ _ _ _, .nilIface,h | .slice _ _ _ _, .agg _,h | .slice _ _ _ _, .tuple _,h=>by simp[aveq]at h
 | .nilMap, .bool _,h | .nilMap, .int _ _,h | .nilMap, .str _ _,h | .nilMap, .nilPtr,h | .nilMap, .ptr _ _,h | .nilMap, .nilSlice,h | .nilMap, .slice _ _ _ _,h | .nilMap, .emptySl,h | .nilMap, .map _,h | .nilMap, .func _ _ _,h | .nilMap, .yieldTo _,h | .nilMap, .nilFunc,h | .nilMap, .iface _ _,h | .nilMap, .nilIface,h | .nilMap, .agg _,h | .nilMap, .tuple _,h=>by simp[aveq]at h
 | .map _, .bool _,h | .map _, .int _ _,h | .map _, .str _ _,h | .map _, .nilPtr,h | .map _, .ptr _ _,h | .map _, .nilSlice,h | .map _, .slice _ _ _ _,h | .map _, .emptySl,h | .map _, .nilMap,h | .map _, .func _ _ _,h | .map _, .yieldTo _,h | .map _, .nilFunc,h | .map _, .iface _ _,h | .map _, .nilIface,h | .map _, .agg _,h | .map _, .tuple _,h=>by simp[aveq]at h
 | .func _ _ _, .bool _,h | .func _ _ _, .int _ _,h | .func _ _ _, .str _ _,h | .func _ _ _, .nilPtr,h | .func _ _ _, .ptr _ _,h | .func _ _ _, .nilSlice,h | .func _ _ _, .slice _ _ _ _,h | .func _ _ _, .emptySl,h | .func _ _ _, .nilMap,h | .func _ _ _, .map _,h | .func _ _ _, .yieldTo _,h | .func _ _ _, .nilFunc,h | .func _ _ _, .iface _ _,h | .func _ _ _, .nilIface,h | .func _ _ _, .agg _,h | .func _ _ _, .tuple _,h=>by simp[aveq]at h
 | .yieldTo _, .bool _,h | .yieldTo _, .int _ _,h | .yieldTo _, .str _ _,h | .yieldTo _, .nilPtr,h | .yieldTo _, .ptr _ _,h | .yieldTo _, .nilSlice,h | .yieldTo _, .slice _ _ _ _,h | .yieldTo _, .emptySl,h | .yieldTo _, .nilMap,h | .yieldTo _, .map _,h | .yieldTo _, .func _ _ _,h | .yieldTo _, .nilFunc,h | .yieldTo _, .iface _ _,h | .yieldTo _, .nilIface,h | .yieldTo _, .agg _,h | .yieldTo _, .tuple _,h=>by simp[aveq]at h
 | .nilFunc, .bool _,h | .nilFunc, .int _ _,h | .nilFunc, .str _ _,h | .nilFunc, .nilPtr,h | .nilFunc, .ptr _ _,h | .nilFunc, .nilSlice,h | .nilFunc, .slice _ _ _ _,h | .nilFunc, .emptySl,h | .nilFunc, .nilMap,h | .nilFunc, .map _,h | .nilFunc, .func _ _ _,h | .nilFunc, .yieldTo _,h | .nilFunc, .iface _ _,h | .nilFunc, .nilIface,h | .nilFunc, .agg _,h | .nilFunc, .tuple _,h=>by simp[aveq]at h
 | .iface _ _, .bool _,h | .iface _ _, .int _ _,h | .iface _ _, .str _ _,h | .iface _ _, .nilPtr,h | .iface _ _, .ptr _ _,h | .iface _ _, .nilSlice,h | .iface _ _, .slice _ _ _ _,h | .iface _ _, .emptySl,h | .iface _ _, .nilMap,h | .iface _ _, .map _,h | .iface _ _, .func _ _ _,h | .iface _ _, .yieldTo _,h | .iface _ _, .nilFunc,h | .iface _ _, .nilIface,h | .iface _ _, .agg _,h | .iface _ _, .tuple _,h=>by simp[aveq]at h
 | .nilIface, .bool _,h | .nilIface, .int _ _,h | .nilIface, .str _ _,h | .nilIface, .nilPtr,h | .nilIface, .ptr _ _,h | .nilIface, .nilSlice,h | .nilIface, .slice _ _ _ _,h | .nilIface, .emptySl,h | .nilIface, .nilMap,h | .nilIface, .map _,h | .nilIface, .func _ _ _,h | .nilIface, .yieldTo _,h | .nilIface, .nilFunc,h | .nilIface, .iface _ _,h | .nilIface, .agg _,h | .nilIface, .tuple _,h=>by simp[aveq]at h
 | .agg _, .bool _,h | .agg _, .int _ _,h | .agg _, .str _ _,h | .agg _, .nilPtr,h | .agg _, .ptr _ _,h | .agg _, .nilSlice,h | .agg _, .slice _ _ _ _,h | .agg _, .emptySl,h | .agg _, .nilMap,h | .agg _, .map _,h | .agg _, .func _ _ _,h | .agg _, .yieldTo _,h | .agg _, .nilFunc,h | .agg _, .iface _ _,h | .agg _, .nilIface,h | .agg _, .tuple _,h=>by simp[aveq]at h
 | .tuple _, .bool _,h | .tuple _, .int _ _,h | .tuple _, .str _ _,h | .tuple _, .nilPtr,h | .tuple _, .ptr _ _,h | .tuple _, .nilSlice,h | .tuple _, .slice _ _ _ _,h | .tuple _, .emptySl,h | .tuple _, .nilMap,h | .tuple _, .map _,h | .tuple _, .func _ _ _,h | .tuple _, .yieldTo _,h | .tuple _, .nilFunc,h | .tuple _, .iface _ _,h | .tuple _, .nilIface,h | .tuple _, .agg _,h=>by simp[aveq]at h
theorem Y9: ∀(x y:List AV),YA x y=true->x=y
 | [],[],_=>rfl
 | x::xs,y::ys,h=>by simp[YA]at h;rw[J7 x y h.1,Y9 xs ys h.2]
 | [],_::_,h=>by simp[YA]at h
 | _::_,[],h=>by simp[YA]at h
end
theorem uC {R:Ren}{x:AV}{v:Value}{q:Nat}(h:JX x=q)(f:q≠1)(a:VR R x v):(∃b,x= .bool b/\v= .bool b/\q=0)\/(∃k n,x= .int k n/\v= .int k n/\q=ZQ k)\/(∃s:ByteArray,x= .str s.size (pack s.data.toList)/\v= .string s/\q=2):=by
 cases x with
 | bool b=>simp only[VR]at a;exact .inl ⟨b,rfl,a,h.symm⟩
 | int k n=>simp only[VR]at a;exact .inr (.inl ⟨k,n,rfl,a,h.symm⟩)
 | str n b=>obtain⟨s,rfl,rfl,rfl⟩:=a;exact .inr (.inr ⟨s,rfl,rfl,h.symm⟩)
 | _=>simp[JX]at h;omega
theorem zI3 {R j:Ren}{x y:AV}{v u:Value}{q:Nat}(h:JX x=q)(m:JX y=q)(f:q≠1)(o:VR R x v)(p:VR j y u):(x=y↔v=u):=by
 have hi:=gI;rcases uC h f o with⟨b,rfl,rfl,e⟩ | ⟨k,n,rfl,rfl,e⟩ | ⟨s,rfl,rfl,e⟩<;>rcases uC m f p with⟨b',rfl,rfl,i⟩ | ⟨k',z,rfl,rfl,i⟩ | ⟨s',rfl,rfl,i⟩
 .simp
 .have:=hi k';omega
 .omega
 .have:=hi k;omega
 .simp
 .have:=hi k;omega
 .omega
 .have:=hi k';omega
 .constructor
  .intro a;simp only[AV.str.injEq]at a;have t:=QH _ _ (by rw[size_data,size_data];exact a.1) a.2;congr 1;have:s.data=s'.data:=Array.toList_inj.1 t
   cases s;cases s';simp_all
  .intro a;injection a with a;rw[a]
theorem zEx {R j:Ren} : ∀ {a:List Nat} {xs f:List AV} {vs i:List Value},wN xs a=true->wN f a=true->1∉a->VRL R xs vs->VRL j f i->(xs=f↔vs=i)
 | [],[],[],vs,i,_,_,_,hv,hu=>by simp only[VRL]at hv hu;subst hv hu;simp
 | q::a,x::xs,y::f,vs,i,h1,h2,hq,hv,hu=>by
  obtain⟨v,vs',rfl,m,o⟩:=hv;obtain⟨u,C,rfl,p,s⟩:=hu;simp only[wN,zE,zY]at h1 h2;simp only[zP,not_or]at hq;have t:=zI3 h1.1 h2.1 (Ne.symm hq.1) m p;have z:=zEx h1.2 h2.2 hq.2 o s;simp only[yE,t,z]
 | [],_::_,_,_,_,h,_,_,_,_=>by simp[wN]at h
 | [],[],_::_,_,_,_,h,_,_,_=>by simp[wN]at h
 | _::_,[],_,_,_,h,_,_,_,_=>by simp[wN]at h
 | _::_,_::_,[],_,_,_,h,_,_,_=>by simp[wN]at h
theorem cI {R m:Ren}{ks:List Nat}{x y:AV}{v u:Value}(h:keyOk ks x=true)(a:keyOk ks y=true)(f:VR R x v)(i:VR m y u):(x=y↔v=u):=by
 unfold keyOk at h a;split at h
 .simp at h
 .rename_i q o;simp only[zF,zY]at h a;split at h
  .rename_i j;rw[if_pos j]at a;split at h
   .rename_i l;split at a
    .rename_i l';simp only[zE,yT,List.contains_eq_mem,yP]at h a;obtain⟨vs,rfl,f⟩:=f;obtain⟨p,rfl,i⟩:=i;have:=zEx h.1 a.1 h.2 f i;simp only[AV.agg.injEq,Value.agg.injEq,Array.mk.injEq,this]
    .simp at a
   .simp at h
  .rename_i j;rw[if_neg j]at a;split at h
   .rw[zY]at h a;exact zI3 h a j f i
   .simp at h
structure KeyT (P:Program)(kt:TypeId)(K:Value->Prop):Prop where
 check: ∀v e w,K v->(Instr.checkKey e 10000 kt v).run P w= .ok () w
 find: ∀v (l:List MapEntry) w,K v->(∀x∈l,K x.key)->((Instr.findKey kt v l).run P w= .ok none w/\ ∀x∈l,x.key≠v)\/ ∃j e,(Instr.findKey kt v l).run P w= .ok (some (j,e.val)) w/\l[j]? =some e/\e.key=v
 stays: ∀v w,K v->(Instr.keyThatStays v v).run P w= .ok v w
theorem KeyT.plain {P:Program}{kt:TypeId}{d:TypeDesc}(hd:P.underlying kt=some d):KeyT P kt (MapKept.IsKey d) where
 check v e w hk:=MapKept.run_checkKey hd hk e 9999
 find v l w hk hl:=by
  rcases MapKept.findNow_spec hk l 0 hl with⟨a,f⟩ | ⟨j,e,a,f,h⟩
  .exact .inl ⟨MapKept.run_findKey hd a,f⟩
  .exact .inr ⟨j,e,by simpa using MapKept.run_findKey hd a,f,h⟩
 stays v w hk:=MapKept.run_keyThatStays hk
def KV (ks:List Nat)(v:Value):Prop:= ∃(R:Ren) (k:AV),keyOk ks k=true/\VR R k v
theorem zPO {R h:Ren}{q:Nat}{x y:AV}{v u:Value}(i:JX x=q)(j:JX y=q)(a:q≠1)(m:VR R x v)(o:VR h y u): ∃b:Bool,vEq q v u=some b/\(b=true↔v=u):=by
 have hi:=gI;rcases uC i a m with⟨b,rfl,rfl,e⟩ | ⟨k,n,rfl,rfl,e⟩ | ⟨s,rfl,rfl,e⟩<;>rcases uC j a o with⟨b',rfl,rfl,f⟩ | ⟨k',p,rfl,rfl,f⟩ | ⟨s',rfl,rfl,f⟩
 .subst e;exact⟨b==b',by simp[vEq],by simp⟩
 .have:=hi k';omega
 .omega
 .have:=hi k;omega
 .have t:k=k':=zC1 (by omega);subst t;exact⟨n==p,by simp[vEq,e],by simp⟩
 .have:=hi k;omega
 .omega
 .have:=hi k';omega
 .subst e;exact⟨s==s',by simp[vEq],by rw[MapKept.bytes_beq];simp⟩
theorem zGB {R m:Ren} : ∀ {a:List Nat} {xs i:List AV} {vs f:List Value},wN xs a=true->wN i a=true->1∉a->VRL R xs vs->VRL m i f-> ∃b:Bool,U3 a vs f=some b/\(b=true↔vs=f)
 | [],[],[],vs,f,_,_,_,hv,hu=>by simp only[VRL]at hv hu;subst hv hu;exact⟨true,rfl,by simp⟩
 | q::a,x::xs,y::i,vs,f,h1,h2,hq,hv,hu=>by
  obtain⟨v,vs',rfl,o,p⟩:=hv;obtain⟨u,J,rfl,s,t⟩:=hu;simp only[wN,zE,zY]at h1 h2;simp only[zP,not_or]at hq;obtain⟨b2,z,C⟩:=zGB h1.2 h2.2 hq.2 p t;obtain⟨b1,F,j⟩:=zPO h1.1 h2.1 (Ne.symm hq.1) o s;simp only[U3,F]
  cases b1 with
  | true=>exact⟨b2,z,by rw[C];simp[j.1 rfl]⟩
  | false=>exact⟨false,rfl,by
    simp only[zL,yE,false_iff,not_and];intro h;exact absurd (j.2 h) (by simp)⟩
 | [],_::_,_,_,_,h,_,_,_,_=>by simp[wN]at h
 | [],[],_::_,_,_,_,h,_,_,_=>by simp[wN]at h
 | _::_,[],_,_,_,h,_,_,_,_=>by simp[wN]at h
 | _::_,_::_,[],_,_,_,h,_,_,_=>by simp[wN]at h
theorem aK: ∀ {xs:List AV} {a:List Nat},wN xs a=true->xs.length=a.length
 | [],[],_=>rfl
 | _::_,_::_,h=>by simp only[wN,zE]at h;simp[aK h.2]
 | [],_::_,h=>by simp[wN]at h
 | _::_,[],h=>by simp[wN]at h
theorem zAC {P:Program}{α:Type}{w:World}{body:α->Sem (ForInStep PUnit)} : ∀(l:List α),(∀f∈l,(body f).run P w= .ok (.yield ⟨⟩) w)->(forIn l PUnit.unit fun f _=>body f:Sem PUnit).run P w= .ok ⟨⟩ w
 | [],_=>by simp
 | f::l,h=>by
  simp only[List.forIn_cons,zH,h f (zK ..),Result.andThen_ok];exact zAC l (fun g a=>h g (zC _ a))
theorem zBD {P:Program}{t:TypeId}{i:TypeInfo}(hi:P.info? t=some i)(a: ∃u,P.underlying t=some u){xs:Array Value}{off:Nat}(q:off+i.size<=xs.size)(m:xC P t=false->i.size=1)(w:World):
  ∃x,(part t xs off).run P w= .ok x w/\(xC P t=true-> ∃arr,x= .agg arr/\arr.size=i.size):=by
 obtain⟨u,a⟩:=a
 cases f:xC P t with
 | true=>
  have j:(isAgg t).run P w= .ok true w:=by
   unfold xC at f;split at f
   .rename_i fs a;simp[isAgg,zH,run_underlying a]
   .rename_i n e a;simp[isAgg,zH,run_underlying a]
   .simp at f
  have o: ∀w,(sizeOf t).run P w= .ok i.size w:=fun w=>by simp[sizeOf,typeInfo,hi]
  exact⟨.agg (xs.extract off (off+i.size)),by simp[part,zH,j,o],fun _=>⟨_,rfl,by simp;omega⟩⟩
 | false=>
  have j:(isAgg t).run P w= .ok false w:=by
   unfold xC at f
   cases u<;>first | (simp[a]at f;done) | simp[isAgg,zH,run_underlying a]
  have s:=m f;have p:off<xs.size:=by omega
  exact⟨xs[off],by simp[part,zH,j,p],fun h=>by simp at h⟩
theorem zC7 {P:Program}{d:Nat}{t:TypeId}{k:List Nat}(h:dK P d t=some k):(∃u,P.underlying t=some u)/\ ∀i,P.info? t=some i->(xC P t=false->i.size=1)/\k.length=i.size:=by
 cases d with
 | zero=>simp[dK]at h
 | succ d=>
  unfold dK at h;split at h
  .rename_i j a m;refine⟨⟨_,a⟩,fun i hi=> ?_⟩;rw[m]at hi;injection hi with hi;subst hi
   rw[zF]at h;split at h
   .rename_i f;rw[zY]at f;simp only[zB]at h;subst h;exact⟨fun _=>f,by simp[f]⟩
   .simp at h
  .rename_i q j a m;refine⟨⟨_,a⟩,fun i hi=> ?_⟩;rw[m]at hi;injection hi with hi;subst hi
   rw[zF]at h;split at h
   .rename_i f;rw[zY]at f;simp only[zB]at h;subst h;exact⟨fun _=>f,by simp[f]⟩
   .simp at h
  .rename_i j a m;refine⟨⟨_,a⟩,fun i hi=> ?_⟩;rw[m]at hi;injection hi with hi;subst hi
   rw[zF]at h;split at h
   .rename_i f;rw[zY]at f;simp only[zB]at h;subst h;exact⟨fun _=>f,by simp[f]⟩
   .simp at h
  .rename_i fs j a m;refine⟨⟨_,a⟩,fun i hi=> ?_⟩;rw[m]at hi;injection hi with hi;subst hi
   rw[zF]at h;split at h
   .split at h
    .rw[zF]at h;split at h
     .rename_i hl;rw[zY]at hl;simp only[zB]at h;subst h;exact⟨fun o=>by simp[xC,a]at o,hl⟩
     .simp at h
    .simp at h
   .simp at h
  .rename_i len e j a m;refine⟨⟨_,a⟩,fun i hi=> ?_⟩;rw[m]at hi;injection hi with hi;subst hi
   split at h
   .rename_i k' v x s;rw[zF]at h;split at h
    .rename_i p;simp only[zE,zY]at p;simp only[zB]at h;subst h;refine⟨fun o=>by simp[xC,a]at o, ?_⟩;simp[p.2,p.1]
    .simp at h
   .simp at h
  .simp at h
theorem zID {P:Program}{rec:TypeId->Option (List Nat)} : ∀ {fs:List Field} {i:Nat} {r:List Nat},zAD P rec fs i=some r-> ∀f∈fs,∃k j,rec f.type=some k/\P.info? f.type=some j/\f.offset+j.size<=i+r.length
 | [],_,_,_,f,a=>by simp at a
 | g::fs,i,r,h,f,a=>by
  simp only[zAD]at h;split at h
  .rename_i k j o p;rw[zF]at h;split at h
   .rename_i q;simp only[zE,zY]at q;split at h
    .rename_i x m;simp only[zB]at h;subst h;simp only[zT];rcases zP.1 a with rfl | a
     .exact⟨k,j,o,p,by omega⟩
     .obtain⟨s,t,u,v,y⟩:=zID m f a;exact⟨s,t,u,v,by omega⟩
    .simp at h
   .simp at h
  .simp at h
theorem BR {P:Program} : ∀(d:Nat) (t:TypeId) (q:List Nat),dK P d t=some q-> ∀m,d<=m-> ∀(e:Bool) (w:World),∀(v:Value),(xC P t=true-> ∃arr,v= .agg arr/\arr.size=q.length)->(Instr.checkKey e m t v).run P w= .ok () w
 | 0,t,q,h,_,_=>by simp[dK]at h
 | d+1,t,q,h,m,hm=>by
  obtain⟨m,rfl⟩: ∃W,m=W+1:=⟨m - 1,by omega⟩;have F:=BR (P:=P) d;intro e w v J;have h0:=h;unfold dK at h;split at h
  .rename_i a _;simp[Instr.checkKey,run_underlying a]
  .rename_i a _;simp[Instr.checkKey,run_underlying a]
  .rename_i a _;simp[Instr.checkKey,run_underlying a]
  .rename_i fs j a Y;obtain⟨arr,rfl,s⟩:=J (by simp[xC,a]);rw[zF]at h;split at h
   .split at h
    .rename_i r hr;rw[zF]at h;split at h
     .simp only[zB]at h;subst h;simp only[Instr.checkKey,zH,run_underlying a,Result.andThen_ok];rw[<-Array.forIn_toList];rw[zAC _ (fun f Z=> ?_)]
      .rfl
      obtain⟨k2,K,L,u,a3⟩:=zID hr f Z;obtain⟨b1,b2⟩:=zC7 L;obtain⟨x,y,z⟩:=zBD u b1 (xs:=arr) (off:=f.offset) (by omega) (b2 K u).1 w;split
      .simp only[zH,y,Result.andThen_ok];rw[F _ _ L m (by omega) e w x (fun C=>by rw[(b2 K u).2];exact z C)];rfl
      .rfl
     .simp at h
    .simp at h
   .simp at h
  .rename_i len el j a Y;obtain⟨arr,rfl,s⟩:=J (by simp[xC,a]);split at h
   .rename_i k o N p;rw[zF]at h;split at h
    .rename_i O;simp only[zE,zY]at O;simp only[zB]at h;subst h;have S:(List.replicate len k).flatten.length=len*k.length:=by simp
     rw[S]at s;simp only[Instr.checkKey,zH,run_underlying a,Result.andThen_ok];simp only[Std.Legacy.Range.forIn_eq_forIn_range',Std.Legacy.Range.size,jD,Nat.add_one_sub_one,Nat.div_one];rw[zAC _ (fun i hi=> ?_)]
     .rfl
     have V:i<len:=by simp[List.mem_range']at hi;omega
     have T:(i+1)*o.size<=len*o.size:=yN _ V;rw[j7]at T;have U: ∀w,(sizeOf el).run P w= .ok o.size w:=fun w=>by simp[sizeOf,typeInfo,p]
     obtain⟨b1,b2⟩:=zC7 N;obtain⟨x,y,z⟩:=zBD p b1 (xs:=arr) (off:=i*o.size) (by rw[s,O.2];omega) (b2 o p).1 w;simp only[zH,U,y,Result.andThen_ok];rw[F _ _ N m (by omega) e w x (fun C=>by rw[(b2 o p).2];exact z C)];rfl
    .simp at h
   .simp at h
  .simp at h
theorem QM {R:Ren}{cs:List Nat}{k:AV}{v:Value}(h:keyOk (1::cs) k=true)(a:VR R k v): ∃l vs,k= .agg l/\v= .agg ⟨vs⟩/\VRL R l vs/\wN l cs=true/\1∉cs:=by
 simp only[keyOk,yF,zM]at h;split at h
 .rename_i l;simp only[zE,yT,List.contains_eq_mem,yP]at h;obtain⟨vs,rfl,hl⟩:=a;exact⟨l,vs,rfl,rfl,hl,h.1,h.2⟩
 .simp at h
theorem aX {R:Ren} : ∀ {cs:List Nat} {l:List AV} {vs:List Value} (n:Nat),wN l cs=true->1∉cs->VRL R l vs->((vs.zip vs).all fun(x,y)=>Instr.sameBits n x y)=true
 | [],[],vs,n,_,_,hv=>by simp only[VRL]at hv;subst hv;rfl
 | q::cs,x::l,vs,n,h,hq,hv=>by
  obtain⟨v,vs',rfl,a,f⟩:=hv;simp only[wN,zE,zY]at h;simp only[zP,not_or]at hq;simp only[List.zip_cons_cons,List.all_cons,aX n h.2 hq.2 f,Bool.and_true];rcases uC h.1 (Ne.symm hq.1) a with⟨b,rfl,rfl,_⟩ | ⟨k,m,rfl,rfl,_⟩ | ⟨s,rfl,rfl,_⟩
  .simp[Instr.sameBits]
  .simp[Instr.sameBits]
  .simp[Instr.sameBits,MapKept.bytes_beq]
 | [],_::_,_,_,h,_,_=>by simp[wN]at h
 | _::_,[],_,_,h,_,_=>by simp[wN]at h
theorem KeyT.flat {P:Program}{kt:TypeId}{cs:List Nat}(J:dK P P.depth kt=some cs)(s:xC P kt=true)(hd:P.depth<=10000):KeyT P kt (KV (1::cs)) where
 check v e w hk:=by
  obtain⟨R,k,a,f⟩:=hk;obtain⟨l,vs,rfl,rfl,h,m,t⟩:=QM a f;refine BR _ _ _ J 10000 hd e w _ (fun _=>⟨⟨vs⟩,rfl, ?_⟩);have:=zRb _ _ h;have:=aK m;simp;omega
 find v l w hk hl:=by
  have K:(match P.underlying kt with | some (.array _ _) | some (.struct _)=>true | _=>false)=true:=by
   unfold xC at s;split at s
   .rename_i o;simp[o]
   .rename_i o;simp[o]
   .simp at s
  have L: ∀u,KV (1::cs) u-> ∃b:Bool,(Op.equal kt v u).run P w= .ok b w/\(b=true↔v=u):=by
   intro u o;obtain⟨R,k,a,f⟩:=hk;obtain⟨R',k',N,O⟩:=o;obtain⟨l,vs,rfl,rfl,h,m,t⟩:=QM a f;obtain⟨l',T,rfl,rfl,C,F,_⟩:=QM N O;obtain⟨b,U,V⟩:=zGB m F t h C;have l1:=zRb _ _ h;have l2:=zRb _ _ C;have l3:=aK m;have l4:=aK F;refine⟨b,(zAX _ _ _ J 10000 hd).2 w ⟨vs⟩ ⟨T⟩ b s (by simp;omega) (by simp;omega) U, ?_⟩;rw[V];simp
  have key: ∀(l:List MapEntry) (i:Nat),(∀x∈l,KV (1::cs) x.key)->((Instr.findAsking kt v l i).run P w= .ok none w/\ ∀x∈l,x.key≠v)\/ ∃j e,(Instr.findAsking kt v l i).run P w= .ok (some (i+j,e.val)) w/\l[j]? =some e/\e.key=v:=by
   intro l
   induction l with
   | nil=>intro i _;exact .inl ⟨by simp[Instr.findAsking],by simp⟩
   | cons e l ih=>
    intro i hl;obtain⟨b,a,f⟩:=L e.key (hl e (zK ..))
    cases b with
    | true=>exact .inr ⟨0,e,by simp[Instr.findAsking,zH,a],rfl,(f.1 rfl).symm⟩
    | false=>
     have S:e.key≠v:=fun q=>by have:=f.2 q.symm;simp at this
     rcases ih (i+1) (fun x p=>hl x (zC _ p))with⟨y,z⟩ | ⟨j,W,y,z,Y⟩
     .refine .inl ⟨by simp[Instr.findAsking,zH,a,y],fun x p=> ?_⟩;rcases zP.1 p with rfl | p
      .exact S
      .exact z x p
     .exact .inr ⟨j+1,W,by simp[Instr.findAsking,zH,a,y];omega,by simpa using z,Y⟩
  rw[run_findKey_eq w K];simpa using key l 0 hl
 stays v w hk:=by
  obtain⟨R,k,a,f⟩:=hk;obtain⟨l,vs,rfl,rfl,h,m,t⟩:=QM a f;have Z:=aX 9999 m t h;have:Instr.sameBits 10000 (.agg ⟨vs⟩) (.agg ⟨vs⟩)=true:=by
   simp only[Instr.sameBits,beq_self_eq_true,Bool.true_and];exact Z
  simp only[Instr.keyThatStays,this,if_true];rfl
section
variable {P:Program}{X:Cx}(hX:Ok P X)
include hX
theorem zIk {kt:TypeId}{ks:List Nat}(h:kOf X kt=some ks): ∃K,KeyT P kt K/\ ∀R k v,keyOk ks k=true->VR R k v->K v:=by
 unfold kOf at h;split at h
 .rename_i o;simp only[zB]at h;subst h;refine⟨_,KeyT.plain (hX.und o),fun R k v f m=> ?_⟩;simp only[keyOk,zY,zF]at f;have t:JX k=0:=by simpa using f
  rcases uC t (by simp) m with⟨b,rfl,rfl,_⟩ | ⟨q,n,rfl,rfl,e⟩ | ⟨s,rfl,rfl,e⟩
  .trivial
  .have:=gI q;omega
  .simp at e
 .rename_i q o;simp only[zB]at h;subst h;have C:=gI q;refine⟨_,KeyT.plain (hX.und o),fun R k v f m=> ?_⟩;simp only[keyOk,zY,zF]at f;rw[if_neg (by omega),zY]at f;rcases uC f (by omega) m with⟨b,rfl,rfl,e⟩ | ⟨F,n,rfl,rfl,e⟩ | ⟨s,rfl,rfl,e⟩
  .omega
  .exact(zC1 e).symm
  .omega
 .rename_i o;simp only[zB]at h;subst h;refine⟨_,KeyT.plain (hX.und o),fun R k v f m=> ?_⟩;simp only[keyOk,zY,zF]at f;have t:JX k=2:=by simpa using f
  rcases uC t (by simp) m with⟨b,rfl,rfl,e⟩ | ⟨q,n,rfl,rfl,e⟩ | ⟨s,rfl,rfl,e⟩
  .simp at e
  .have:=gI q;omega
  .trivial
 .have key: ∀ {j},zDp kt X.fl=some j->ks=1::j-> ∃K,KeyT P kt K/\ ∀R k v,keyOk ks k=true->VR R k v->K v:=by
   intro j a e;subst e;have p:(kt,j)∈X.fl:=by
    generalize X.fl=l at a
    induction l with
    | nil=>simp[zDp]at a
    | cons x l ih=>
     obtain⟨i,ks⟩:=x;simp only[zDp,zF,zY]at a;split at a
     .rename_i e;simp only[zB]at a;subst e a;simp
     .exact zC _ (ih a)
   obtain⟨u,y,z⟩:=hX.fl _ p;exact⟨_,KeyT.flat u y z,fun R k v f m=>⟨R,k,f,m⟩⟩
  split at h
  .rename_i j a;simp only[zB]at h;exact key a h.symm
  .simp at h
 .have key: ∀ {j},zDp kt X.fl=some j->ks=1::j-> ∃K,KeyT P kt K/\ ∀R k v,keyOk ks k=true->VR R k v->K v:=by
   intro j a e;subst e;have p:(kt,j)∈X.fl:=by
    generalize X.fl=l at a
    induction l with
    | nil=>simp[zDp]at a
    | cons x l ih=>
     obtain⟨i,ks⟩:=x;simp only[zDp,zF,zY]at a;split at a
     .rename_i e;simp only[zB]at a;subst e a;simp
     .exact zC _ (ih a)
   obtain⟨u,y,z⟩:=hX.fl _ p;exact⟨_,KeyT.flat u y z,fun R k v f m=>⟨R,k,f,m⟩⟩
  split at h
  .rename_i j a;simp only[zB]at h;exact key a h.symm
  .simp at h
 .simp at h
end
theorem ZV: ∀(a b:List Nat),QX a b=true->a=b
 | [],[],_=>rfl
 | x::a,y::b,h=>by simp only[QX,zE,zY]at h;rw[h.1,ZV a b h.2]
 | [],_::_,h=>by simp[QX]at h
 | _::_,[],h=>by simp[QX]at h
theorem UU {k:AV} : ∀ {es:List (AV×AV)} {v:AV},xJ k es=some v-> ∃f i,es=f++(k,v)::i
 | [],v,h=>by simp[xJ]at h
 | (a,b)::es,v,h=>by
  simp only[xJ,zF]at h;split at h
  .rename_i e;rw[J7 _ _ e];simp only[zB]at h;subst h;exact⟨[],es,rfl⟩
  .obtain⟨j,m,rfl⟩:=UU h;exact⟨(a,b)::j,m,rfl⟩
theorem zEu {x:AV}(h:JX x≠1):aveq x x=true:=by
 cases x<;>simp[JX]at h<;>simp[aveq,xP,xQ]
theorem zBQ: ∀ {a:List Nat} {xs:List AV},wN xs a=true->1∉a->YA xs xs=true
 | [],[],_,_=>by simp[YA]
 | q::a,x::xs,h,hq=>by
  simp only[wN,zE,zY]at h;simp only[zP,not_or]at hq;simp only[YA,zE];exact⟨zEu (by rw[h.1];exact Ne.symm hq.1),zBQ h.2 hq.2⟩
 | [],_::_,h,_=>by simp[wN]at h
 | _::_,[],h,_=>by simp[wN]at h
theorem zAv {ks:List Nat}{k:AV}(h:keyOk ks k=true):aveq k k=true:=by
 unfold keyOk at h;split at h
 .simp at h
 .rename_i q f;simp only[zF,zY]at h;split at h
  .split at h
   .simp only[zE,yT,List.contains_eq_mem,yP]at h;simp only[aveq];exact zBQ h.1 h.2
   .simp at h
  .rename_i a;split at h
   .rw[zY]at h;exact zEu (by rw[h];exact a)
   .simp at h
theorem UW {ks:List Nat}{k:AV}(j:keyOk ks k=true): ∀ {es:List (AV×AV)},xJ k es=none-> ∀e∈es,e.1≠k
 | [],_,e,f=>by simp at f
 | (a,b)::es,h,e,f=>by
  simp only[xJ,zF]at h;split at h
  .simp at h
  .rename_i i;rcases zP.1 f with rfl | f
   .intro m;simp only at m;rw[m,zAv j]at i;simp at i
   .exact UW j h e f
theorem WK {k v:AV} : ∀ {es es':List (AV×AV)},zB5 k v es=some es'-> ∃i f j,es=i++(k,f)::j/\es'=i++(k,v)::j
 | [],es',h=>by simp[zB5]at h
 | (a,b)::es,es',h=>by
  simp only[zB5,zF]at h;split at h
  .rename_i e;simp only[zB]at h;subst h;rw[J7 _ _ e];exact⟨[],b,es,rfl,rfl⟩
  .split at h
   .rename_i l hl;simp only[zB]at h;subst h;obtain⟨m,f,o,rfl,rfl⟩:=WK hl;exact⟨(a,b)::m,f,o,rfl,rfl⟩
   .simp at h
theorem setA_none {ks:List Nat}{k v:AV}(j:keyOk ks k=true): ∀ {es:List (AV×AV)},zB5 k v es=none-> ∀e∈es,e.1≠k
 | [],_,e,f=>by simp at f
 | (a,b)::es,h,e,f=>by
  simp only[zB5,zF]at h;split at h
  .simp at h
  .rename_i i;split at h
   .simp at h
   .rename_i o;rcases zP.1 f with rfl | f
    .intro m;simp only at m;rw[m,zAv j]at i;simp at i
    .exact setA_none j o e f
theorem zCq {k:AV} : ∀ {es es':List (AV×AV)},zJx k es=some es'-> ∃i f j,es=i++(k,f)::j/\es'=i++j
 | [],es',h=>by simp[zJx]at h
 | (a,b)::es,es',h=>by
  simp only[zJx,zF]at h;split at h
  .rename_i e;simp only[zB]at h;subst h;rw[J7 _ _ e];exact⟨[],b,es,rfl,rfl⟩
  .split at h
   .rename_i l hl;simp only[zB]at h;subst h;obtain⟨m,f,o,rfl,rfl⟩:=zCq hl;exact⟨(a,b)::m,f,o,rfl,rfl⟩
   .simp at h
theorem zCr {ks:List Nat}{k:AV}(j:keyOk ks k=true): ∀ {es:List (AV×AV)},zJx k es=none-> ∀e∈es,e.1≠k
 | [],_,e,f=>by simp at f
 | (a,b)::es,h,e,f=>by
  simp only[zJx,zF]at h;split at h
  .simp at h
  .rename_i i;split at h
   .simp at h
   .rename_i o;rcases zP.1 f with rfl | f
    .intro m;simp only at m;rw[m,zAv j]at i;simp at i
    .exact zCr j o e f
def ER (R:Ren):List (AV×AV)->List MapEntry->Prop
 | [],m=>m=[]
 | e::es,m=> ∃x a,m=x::a/\VR R e.1 x.key/\VR R e.2 x.val/\ER R es a
theorem ER.of {R:Ren} : ∀ {es:List (AV×AV)} {m:List MapEntry},VRL R (es.map (·.1)) (m.map (·.key))->VRL R (es.map (·.2)) (m.map (·.val))->ER R es m
 | [],m,h,_=>by simp only[List.map_nil,VRL,List.map_eq_nil_iff]at h;exact h
 | e::es,m,h,h'=>by
  obtain⟨k,ks,a,i,j⟩:=h;obtain⟨v,vs,f,o,p⟩:=h'
  cases m with
  | nil=>simp at a
  | cons x m=>
   simp only[yH,yE]at a f;obtain⟨rfl,rfl⟩:=a;obtain⟨rfl,rfl⟩:=f;exact⟨x,m,rfl,i,o,ER.of j p⟩
theorem ER.to {R:Ren} : ∀ {es:List (AV×AV)} {m:List MapEntry},ER R es m->VRL R (es.map (·.1)) (m.map (·.key))/\VRL R (es.map (·.2)) (m.map (·.val))
 | [],m,h=>by simp only[ER]at h;subst h;exact⟨rfl,rfl⟩
 | e::es,m,⟨x,m',e1,h1,h2,h3⟩=>by
  subst e1;exact⟨⟨_,_,rfl,h1,(ER.to h3).1⟩,⟨_,_,rfl,h2,(ER.to h3).2⟩⟩
theorem ER.split {R:Ren} : ∀ {a:List (AV×AV)} {e:AV×AV} {b:List (AV×AV)} {m:List MapEntry},ER R (a++e::b) m-> ∃f x h,m=f++x::h/\ER R a f/\VR R e.1 x.key/\VR R e.2 x.val/\ER R b h
 | [],e,b,m,⟨x,m',e1,h1,h2,h3⟩=>⟨[],x,m',e1,rfl,h1,h2,h3⟩
 | y::a,e,b,m,⟨x,m',e1,h1,h2,h3⟩=>by
  subst e1;obtain⟨f,z,h,rfl,i,j,o,p⟩:=ER.split (a:=a) h3;exact⟨x::f,z,h,rfl,⟨x,f,rfl,h1,h2,i⟩,j,o,p⟩
theorem ER.append {R:Ren} : ∀ {a b:List (AV×AV)} {m n:List MapEntry},ER R a m->ER R b n->ER R (a++b) (m++n)
 | [],b,m,n,h,k=>by simp only[ER]at h;subst h;exact k
 | y::a,b,m,n,⟨x,m',e1,h1,h2,h3⟩,k=>by subst e1;exact⟨x,m'++n,rfl,h1,h2,ER.append h3 k⟩
theorem ER.mem {R:Ren} : ∀ {a:List (AV×AV)} {m:List MapEntry},ER R a m-> ∀x∈m,∃e∈a,VR R e.1 x.key
 | [],m,h,x,f=>by simp only[ER]at h;subst h;simp at f
 | y::a,m,⟨z,m',e1,h1,h2,h3⟩,x,f=>by
  subst e1;rcases zP.1 f with rfl | f
  .exact⟨y,zK ..,h1⟩
  .obtain⟨e,i,j⟩:=ER.mem h3 x f;exact⟨e,zC _ i,j⟩
theorem XH {R:Ren}{ks:List Nat}{s t:List (AV×AV)}{k f:AV}{kv:Value}{l:List MapEntry}(hm:MR R (s++(k,f)::t) l)(u: ∀e∈s++(k,f)::t,keyOk ks e.1=true)(hd:(s++(k,f)::t).Pairwise (fun a b=>a.1≠b.1))(C:VR R k kv)
  {j:Nat} {e:MapEntry} (K:l[j]? =some e) (y:e.key=kv): ∃i o,ER R s i/\ER R t o/\VR R f e.val/\(i++e::o).Perm l:=by
 obtain⟨m,hp,L,N⟩:=hm;obtain⟨i,x,o,rfl,F,T,O,J⟩:=(ER.of L N).split;have z:keyOk ks k=true:=u (k,f) (by simp);have S:e∈i++x::o:=hp.symm.subset (List.mem_of_getElem? K);have:e=x:=by
  rcases qB.1 S with h | h
  .obtain⟨q,p,v⟩:=ER.mem F e h;have:=(cI (u q (yC _ p)) z v C).2 y;exact absurd this ((j5.1 hd).2.2 q p (k,f) (zK ..))
  .rcases zP.1 h with h | h
   .exact h
   .obtain⟨q,p,v⟩:=ER.mem J e h;have:=(cI (u q (by simp[p])) z v C).2 y;exact absurd this.symm ((yM.1 (j5.1 hd).2.1).1 q p)
 subst this;exact⟨i,o,F,J,O,hp⟩
section
variable {P:Program}{X:Cx}(hX:Ok P X){R:Ren}{H:AH}{w:World}(hL:Rel R H w)
theorem Rel.mapAt (h:Rel R H w){A b d c:Nat}{ks:List Nat}{es:List (AV×AV)}(i:H.h.get A=some (.map ks es))(hR:R A b d c):
  ∃(arr:Array MapEntry) (f:Nat),w.heap[b]? =some (.map arr f)/\MR R es arr.toList/\(∀e∈es,keyOk ks e.1=true)/\es.Pairwise (fun a b=>a.1≠b.1)/\zDX arr.toList f:=h.obj A b d c _ hR i
theorem zIh {ok a:Bool}{v:AV}{z:Value}(h:VR R v z):VR R (lkR ok a v) (if a then .tuple #[z, .bool ok]else z):=by
 unfold lkR
 cases a with
 | true=>exact⟨[z, .bool ok],rfl,z,[.bool ok],rfl,h, .bool ok,[],rfl,rfl,rfl⟩
 | false=>exact h
include hX hL in
theorem zQi {t kt et:TypeId}{ks:List Nat}{za:AV}{s:Bool}{x k r:AV}{xv kv:Value}(ht:X.und t=some (.map kt et))(hk:kOf X kt=some ks)(hz:aS X et=some za)(h:lkM ks za s x k H=some r)(hx:VR R x xv)(F:VR R k kv):
  ∃z,(Instr.lookup t xv kv s).run P w= .ok z w/\VR R r z:=by
 obtain⟨K,y,Y⟩:=zIk hX hk;unfold lkM at h;rw[zF]at h;split at h
 .rename_i J;have u:=Y R k kv J F;obtain⟨zv,Z,a0⟩:=hX.run_zero R hz w;split at h
  .have:xv= .map none:=hx;subst this;simp only[zB]at h;subst h;refine⟨_, ?_,zIh a0⟩;have C:=y.find kv [] w u (by simp);rcases C with⟨f,_⟩ | ⟨j,e,_,a,_⟩
   .simp only[Instr.lookup,zH,hX.run_und ht w,Result.andThen_ok,zO,y.check kv _ w u];have a1:(Instr.findKey kt kv (#[]:Array MapEntry).toList).run P w= .ok none w:=f;simp only[a1,Result.andThen_ok,zH,Z,zO]
   .simp at a
  .rename_i A;obtain⟨b,d,c,hr,rfl⟩:=hx;split at h
   .rename_i a4 es hA;rw[zF]at h;split at h
    .rename_i O;obtain rfl:=ZV _ _ O;obtain⟨arr,a3,hb,hm,L,hd,a5⟩:=hL.mapAt hA hr;have W: ∀x∈arr.toList,K x.key:=by
      intro q N;obtain⟨m,hp,f,a⟩:=hm;obtain⟨e,O,S⟩:=ER.mem (ER.of f a) q (hp.symm.subset N);exact Y R _ _ (L e O) S
     have pre: ∀(o:Option (Nat×Value)),(Instr.findKey kt kv arr.toList).run P w= .ok o w->(Instr.lookup t (.map (some b)) kv s).run P w=(match o with
       | some (_,v)=> .ok (if s then .tuple #[v, .bool true]else v) w
       | none=> .ok (if s then .tuple #[zv, .bool false]else zv) w):=by
      intro o ho;simp only[Instr.lookup,zH,hX.run_und ht w,Result.andThen_ok,MapKept.run_getObj_map hb,zO,y.check kv _ w u,ho]
      cases o with
      | none=>simp only[Result.andThen_ok,zH,Z,zO]
      | some p=>obtain⟨i,v⟩:=p;simp only[Result.andThen_ok,zH,zO]
     split at h
     .rename_i v C;simp only[zB]at h;subst h;obtain⟨a6,a7,rfl⟩:=UU C;rcases y.find kv arr.toList w u W with⟨f,a⟩ | ⟨j,e,f,a,T⟩
      .obtain⟨m,hp,U,V⟩:=hm;obtain⟨m1,x,m2,rfl,r1,r2,r3,r4⟩:=(ER.of U V).split;have:=(cI (L (k,v) (by simp)) J r2 F).1 rfl;exact absurd this (a x (hp.subset (by simp)))
      .obtain⟨m1,m2,_,_,S,_⟩:=XH hm L hd F a T;exact⟨_,pre _ f,zIh S⟩
     .rename_i C;simp only[zB]at h;subst h;rcases y.find kv arr.toList w u W with⟨f,a⟩ | ⟨j,e,f,a,T⟩
      .exact⟨_,pre _ f,zIh a0⟩
      .obtain⟨m,hp,U,V⟩:=hm;obtain⟨q,N,a2⟩:=ER.mem (ER.of U V) e (hp.symm.subset (List.mem_of_getElem? a));exact absurd ((cI (L q N) J a2 F).2 T) (UW J C q N)
    .simp at h
   .simp at h
  .simp at h
 .simp at h
theorem JW.map {A:Nat}{ks:List Nat}{es:List (AV×AV)}(h:H.h.get A=some (.map ks es)):JW H A:=⟨_,h,trivial⟩
theorem zDX.turn {l1 f:List MapEntry}{e i:MapEntry}{c:Nat}(h:zDX (l1++e::f) c)(j:i.born=e.born):zDX (l1++i::f) c:=by
 obtain⟨m,a⟩:=h;refine⟨by simpa[j]using m,fun q o=> ?_⟩;rcases qB.1 o with k | k
 .exact a q (yC _ k)
 .rcases zP.1 k with rfl | k
  .rw[j];exact a e (by simp)
  .exact a q (by simp[k])
theorem zDX.more {l:List MapEntry}{e:MapEntry}{c:Nat}(h:zDX l c)(p:e.born=c):zDX (l++[e]) (c+1):=by
 obtain⟨i,f⟩:=h;refine⟨?_,fun q j=> ?_⟩
 .rw[List.map_append,List.nodup_append];refine⟨i,by simp,fun a m b hb=> ?_⟩;simp only[yH,List.map_nil,y6]at hb;obtain⟨x,o,rfl⟩:=qU.1 m;have:=f x o;omega
 .rcases qB.1 j with k | k
  .exact Nat.lt_succ_of_lt (f q k)
  .simp only[y6]at k;subst k;omega
theorem zDX.less {l1 a:List MapEntry}{e:MapEntry}{c:Nat}(h:zDX (l1++e::a) c):zDX (l1++a) c:=by
 obtain⟨i,j⟩:=h;have f:(l1++a).Sublist (l1++e::a):=(List.Sublist.refl l1).append (List.sublist_cons_self e a);exact⟨i.sublist (f.map _),fun q m=>j q (f.subset m)⟩
theorem Rel.mapPut (h:Rel R H w){A b d c:Nat}{ks:List Nat}{es es':List (AV×AV)}{H':AH}(m:H.h.get A=some (.map ks es))(hR:R A b d c)(hp:fV H A (.map ks es')=some H'){arr':Array MapEntry}{clock':Nat}
  (hm:MR R es' arr'.toList) (i: ∀e∈es',keyOk ks e.1=true) (hd:es'.Pairwise (fun a b=>a.1≠b.1)) (j:zDX arr'.toList clock'):Rel R H' (vU w b (.map arr' clock'))/\Ext R H w R H' (vU w b (.map arr' clock')):=by
 unfold fV at hp;split at hp
 .rename_i o f;simp only[zB]at hp;subst hp;exact⟨h.put hR (JW.map m) f ⟨arr',clock',rfl,hm,i,hd,j⟩,Ext.put hR f⟩
 .simp at hp
theorem zFW (l1:List MapEntry)(e:MapEntry)(a:List MapEntry)(f:MapEntry->MapEntry):(l1++e::a).modify l1.length f=l1++f e::a:=by
 induction l1 with
 | nil=>simp
 | cons x l ih=>simp[ih]
theorem zCL {arr:Array MapEntry}{j:Nat}{e:MapEntry}(h:arr.toList[j]? =some e): ∃l1 a,arr.toList=l1++e::a/\l1.length=j:=by
 obtain⟨f,i⟩:=qR.1 h;refine⟨arr.toList.take j,arr.toList.drop (j+1), ?_,by simp;simp at f;omega⟩;rw[<-i,List.getElem_cons_drop,qM]
include hX hL in
theorem zPP {t kt et:TypeId}{ks:List Nat}{x k v r:AV}{xv kv p:Value}{H':AH}(ht:X.und t=some (.map kt et))(hk:kOf X kt=some ks)(h:upM ks x k v H=some (r,H'))(hx:VR R x xv)(z:VR R k kv)(a4:VR R v p):
  r=jO/\ ∃Z,(Instr.mapUpdate t xv kv p).run P w= .ok () Z/\Rel R H' Z/\Ext R H w R H' Z:=by
 obtain⟨K,J,a5⟩:=zIk hX hk;unfold upM at h;rw[zF]at h;split at h
 .rename_i s;have C:=a5 R k kv s z;split at h
  .rename_i A;obtain⟨b,d,c,hr,rfl⟩:=hx;split at h
   .rename_i b2 es hA;rw[zF]at h;split at h
    .rename_i he;obtain rfl:=ZV _ _ he;obtain⟨arr,O,hb,hm,u,hd,Y⟩:=hL.mapAt hA hr;have a1: ∀x∈arr.toList,K x.key:=by
      intro q f;obtain⟨m,hp,y,i⟩:=hm;obtain⟨e,he,hv⟩:=ER.mem (ER.of y i) q (hp.symm.subset f);exact a5 R _ _ (u e he) hv
     have a2: ∀o,(setObj b o).run P w= .ok () (vU w b o):=fun o=>MapKept.run_setObj_map o hb
     split at h
     .rename_i es' S;split at h
      .rename_i H1 hp;simp only[zB,zU]at h;obtain⟨rfl,rfl⟩:=h;refine⟨rfl, ?_⟩;obtain⟨a6,v0,a7,rfl,rfl⟩:=WK S;rcases J.find kv arr.toList w C a1 with⟨y,i⟩ | ⟨j,e,y,i,T⟩
       .obtain⟨m,F,L,N⟩:=hm;obtain⟨m1,x,U,rfl,r1,r2,r3,r4⟩:=(ER.of L N).split;have:=(cI (u (k,v0) (by simp)) s r2 z).1 rfl;exact absurd this (i x (F.subset (by simp)))
       .obtain⟨m1,U,e1,e2,_,a0⟩:=XH hm u hd z i T;obtain⟨l1,l2,hl,a8⟩:=zCL i;have a9:arr[j]? =some e:=by simpa using i
        have a3:(arr.modify j fun x=> { x with key:=kv,val:=p}).toList=l1++ { e with key:=kv,val:=p} ::l2:=by
         rw[Array.toList_modify,hl,<-a8,zFW]
        have W:=hL.mapPut hA hr hp (arr':=arr.modify j fun x=> { x with key:=kv,val:=p}) (clock':=O) (es':=a6++(k,v)::a7) ?_ (fun q f=> ?_) ?_ (by rw[a3];rw[hl]at Y;exact Y.turn rfl)
        .refine⟨_, ?_,W⟩;simp only[Instr.mapUpdate,zH,hX.run_und ht w,Result.andThen_ok,MapKept.run_getObj_map hb,J.check kv _ w C,y];simp only[a9,zZ,qZ,T,J.stays kv w C,Result.andThen_ok,a2]
        .rw[a3];refine⟨m1++ { e with key:=kv,val:=p} ::U, ?_, ?_⟩
         .rw[hl]at a0;have:=(List.perm_middle (a:=e) (l₁:=m1) (l₂:=U)).symm.trans (a0.trans List.perm_middle);have:=(List.perm_cons e).1 this;exact List.perm_middle.trans ((this.cons _).trans List.perm_middle.symm)
         .exact ER.to (e1.append ⟨_,U,rfl,z,a4,e2⟩)
        .have b0:q∈a6++(k,v)::a7:=f;rcases qB.1 b0 with h | h
         .exact u q (yC _ h)
         .rcases zP.1 h with rfl | h
          .exact s
          .exact u q (by simp[h])
        .obtain⟨p1,p2,p3⟩:=j5.1 hd;obtain⟨p4,p5⟩:=yM.1 p2;refine j5.2 ⟨p1,yM.2 ⟨fun q f=>p4 q f,p5⟩,fun a V q f=> ?_⟩;rcases zP.1 f with rfl | f
         .exact p3 a V (k,v0) (zK ..)
         .exact p3 a V q (zC _ f)
      .simp at h
     .rename_i S;split at h
      .rename_i H1 hp;simp only[zB,zU]at h;obtain⟨rfl,rfl⟩:=h;refine⟨rfl, ?_⟩;rcases J.find kv arr.toList w C a1 with⟨y,i⟩ | ⟨j,e,y,i,T⟩
       .have W:=hL.mapPut hA hr hp (arr':=arr.push { key:=kv,val:=p,born:=O}) (clock':=O+1) (es':=es++[(k,v)]) ?_ (fun q f=> ?_) ?_ (by rw[Array.toList_push];exact Y.more rfl)
        .refine⟨_, ?_,W⟩;simp only[Instr.mapUpdate,zH,hX.run_und ht w,Result.andThen_ok,MapKept.run_getObj_map hb,J.check kv _ w C,y,a2]
        .obtain⟨m,F,L,N⟩:=hm;refine⟨m++[{ key:=kv,val:=p,born:=O}],by rw[Array.toList_push];exact F.append_right _, ?_⟩;exact ER.to ((ER.of L N).append ⟨_,[],rfl,z,a4,rfl⟩)
        .rcases qB.1 f with h | h
         .exact u q h
         .simp only[y6]at h;subst h;exact s
        .refine j5.2 ⟨hd,List.pairwise_singleton _ _,fun a V q f=> ?_⟩;simp only[y6]at f;subst f;exact setA_none s S a V
       .obtain⟨m,F,L,N⟩:=hm;obtain⟨q,f,b1⟩:=ER.mem (ER.of L N) e (F.symm.subset (List.mem_of_getElem? i));exact absurd ((cI (u q f) s b1 z).2 T) (setA_none s S q f)
      .simp at h
    .simp at h
   .simp at h
  .simp at h
 .simp at h
include hX hL in
theorem zQJ {t kt et ty:TypeId}{ts:Array TypeId}{ks:List Nat}{x k r:AV}{xv kv:Value}{H':AH}(C:ts[0]? =some t)(J:X.und t=some (.map kt et))(hk:kOf X kt=some ks)(h:dlM ks x k H=some (r,H'))(hx:VR R x xv)(y:VR R k kv):
  r= .tuple []/\ ∃L,(Builtin.delete_ ts ty #[xv,kv]).run P w= .ok (.tuple #[]) L/\Rel R H' L/\Ext R H w R H' L:=by
 obtain⟨K,v,a3⟩:=zIk hX hk;unfold dlM at h;rw[zF]at h;split at h
 .rename_i z;have u:=a3 R k kv z y;split at h
  .have:xv= .map none:=hx;subst this;simp only[zB,zU]at h;obtain⟨rfl,rfl⟩:=h;refine⟨rfl,w, ?_,hL,zRh R H w⟩;simp[Builtin.delete_,zH,C,hX.run_und J w,v.check kv _ w u]
  .rename_i A;obtain⟨b,d,c,hr,rfl⟩:=hx;split at h
   .rename_i b1 es hA;rw[zF]at h;split at h
    .rename_i N;obtain rfl:=ZV _ _ N;obtain⟨arr,Y,hb,hm,s,hd,a4⟩:=hL.mapAt hA hr;have a0: ∀x∈arr.toList,K x.key:=by
      intro q i;obtain⟨m,hp,p,f⟩:=hm;obtain⟨e,N,hv⟩:=ER.mem (ER.of p f) q (hp.symm.subset i);exact a3 R _ _ (s e N) hv
     have a1: ∀o,(setObj b o).run P w= .ok () (vU w b o):=fun o=>MapKept.run_setObj_map o hb
     split at h
     .rename_i es' O;split at h
      .rename_i H1 hp;simp only[zB,zU]at h;obtain⟨rfl,rfl⟩:=h;refine⟨rfl, ?_⟩;obtain⟨a8,v0,a9,rfl,rfl⟩:=zCq O;rcases v.find kv arr.toList w u a0 with⟨p,f⟩ | ⟨j,e,p,f,S⟩
       .obtain⟨m,F,T,U⟩:=hm;obtain⟨V,x,W,rfl,r1,r2,r3,r4⟩:=(ER.of T U).split;have:=(cI (s (k,v0) (by simp)) z r2 y).1 rfl;exact absurd this (f x (F.subset (by simp)))
       .obtain⟨V,W,e1,e2,_,Z⟩:=XH hm s hd y f S;obtain⟨l1,l2,hl,a6⟩:=zCL f;have a2:(arr.eraseIdxIfInBounds j).toList=l1++l2:=by
         have:(arr.eraseIdxIfInBounds j).toList=arr.toList.eraseIdx j:=by
          unfold Array.eraseIdxIfInBounds;split
          .simp[Array.toList_eraseIdx]
          .rw[List.eraseIdx_of_length_le (by simp;omega)]
         rw[this,hl,<-a6,List.eraseIdx_append_of_length_le (by simp)];simp
        have a7:=hL.mapPut hA hr hp (arr':=arr.eraseIdxIfInBounds j) (clock':=Y) (es':=a8++a9) ?_ (fun q i=> ?_) ?_ (by rw[a2];rw[hl]at a4;exact a4.less)
        .refine⟨_, ?_,a7⟩;simp[Builtin.delete_,zH,C,hX.run_und J w,MapKept.run_getObj_map hb,v.check kv _ w u,p,a1]
        .rw[a2];refine⟨V++W, ?_,ER.to (e1.append e2)⟩;rw[hl]at Z;have:=(List.perm_middle (a:=e) (l₁:=V) (l₂:=W)).symm.trans (Z.trans List.perm_middle);exact(List.perm_cons e).1 this
        .rcases qB.1 i with h | h
         .exact s q (yC _ h)
         .exact s q (by simp[h])
        .obtain⟨p1,p2,p3⟩:=j5.1 hd;obtain⟨p4,p5⟩:=yM.1 p2;exact j5.2 ⟨p1,p5,fun a ha q i=>p3 a ha q (zC _ i)⟩
      .simp at h
     .rename_i O;simp only[zB,zU]at h;obtain⟨rfl,rfl⟩:=h;refine⟨rfl,w, ?_,hL,zRh R H w⟩;rcases v.find kv arr.toList w u a0 with⟨p,f⟩ | ⟨j,e,p,f,S⟩
      .have a5:vU w b (.map arr Y)=w:=KS w b _ hb;simp[Builtin.delete_,zH,C,hX.run_und J w,MapKept.run_getObj_map hb,v.check kv _ w u,p,a1,a5]
      .obtain⟨m,F,T,U⟩:=hm;obtain⟨q,i,b0⟩:=ER.mem (ER.of T U) e (F.symm.subset (List.mem_of_getElem? f));exact absurd ((cI (s q i) z b0 y).2 S) (zCr z O q i)
    .simp at h
   .simp at h
  .simp at h
 .simp at h
include hX hL in
theorem zQP {t kt u ty:TypeId}{ts:Array TypeId}{x r:AV}{xv:Value}{H':AH}(f:ts[0]? =some t)(i:X.und t=some (.map kt u))(h:clM x H=some (r,H'))(j:VR R x xv):
  r= .tuple []/\ ∃a,(Builtin.clear_ ts ty #[xv]).run P w= .ok (.tuple #[]) a/\Rel R H' a/\Ext R H w R H' a:=by
 unfold clM at h;split at h
 .have:xv= .map none:=j;subst this;simp only[zB,zU]at h;obtain⟨rfl,rfl⟩:=h;refine⟨rfl,w, ?_,hL,zRh R H w⟩;simp[Builtin.clear_,zH,f,hX.run_und i w]
 .rename_i A;obtain⟨b,d,c,hr,rfl⟩:=j;split at h
  .rename_i ks es m;split at h
   .rename_i z hp;simp only[zB,zU]at h;obtain⟨rfl,rfl⟩:=h;refine⟨rfl, ?_⟩;obtain⟨arr,p,hb,hm,v,hd,y⟩:=hL.mapAt m hr;have q: ∀o,(setObj b o).run P w= .ok () (vU w b o):=fun o=>MapKept.run_setObj_map o hb
    have s:=hL.mapPut m hr hp (arr':= #[]) (clock':=p) (es':=[]) ⟨[],by simp,rfl,rfl⟩ (by simp) List.Pairwise.nil (by simp[zDX]);refine⟨_, ?_,s⟩;simp[Builtin.clear_,zH,f,hX.run_und i w,MapKept.run_getObj_map hb,q]
   .simp at h
  .simp at h
 .simp at h
end
theorem xG {P:Program}{s:Sem Value}{v:Value}{w a:World}(h:s.run P w= .ok v a):(do pure (Next.value (← s)):Sem Next).run P w= .ok (.value v) a:=by
 simp only[zH,h,Result.andThen];rfl
theorem JF (off:Nat): ∀(l:List Value) (k:Nat) (arr:Array Value),(l.zipIdx k).foldl (fun cs (x:Value×Nat)=>cs.setIfInBounds (off+x.2) x.1) arr=wS arr (off+k) l
 | [],_,_=>rfl
 | v::l,k,arr=>by
  simp only[List.zipIdx_cons,List.foldl_cons,wS];rw[JF off l (k+1)];rfl
inductive PR (R:Ren):List (Nat×AV)->List (Nat×Value)->Prop
 | nil:PR R [] []
 | cons {i:Nat} {x:AV} {v:Value} {l:List (Nat×AV)} {m:List (Nat×Value)} (h:VR R x v) (t:PR R l m):PR R ((i,x)::l) ((i,v)::m)
theorem zDr {R:Ren}{p place':Nat->Option (Nat×Nat)}(hp: ∀i x,p i=some x->place' i=some x): ∀ {j:List (Nat×AV)} {o:List (Nat×Value)},PR R j o-> ∀ {cells r:List AV} {arr:Array Value},fK p cells j=some r->VRL R cells arr.toList->
  ∃arr',Instr.fill place' arr o=some arr'/\VRL R r arr'.toList:=by
 intro j o h
 induction h with
 | nil=>intro cells r arr a f;simp only[fK,zB]at a;subst a;exact⟨arr,rfl,f⟩
 | @cons i x v l m hx ht ih=>
  intro cells r arr a f;simp only[fK]at a;split at a
  .simp at a
  .rename_i off size y;simp only[zF,jX,zY]at a;split at a
   .rename_i S;split at a
    .rename_i t F;obtain⟨J,T⟩:=zAh _ _ _ _ F;have s:=uA hx;have q:=zRb _ _ s;have C:=zRb _ _ f;rw[yU]at q C;have u:VRL R t (wS arr off v.cells.toList).toList:=by
      rw[wZ _ _ _ (by rw[yU];omega),J];refine(VRL.append ((f.take off).append s) ?_);have K:v.cells.toList.length=(jT x).length:=by rw[yU];exact q
      rw[K];exact f.drop _
     obtain⟨arr',L,N⟩:=ih a u;refine⟨arr', ?_,N⟩;rw[Instr.fill,hp _ _ y];simp only;rw[if_neg (by simp;omega)];have O:v.cells.zipIdx.foldl (fun cs (x:Value×Nat)=>cs.setIfInBounds (off+x.2) x.1) arr=wS arr off v.cells.toList:=by
      rw[<-Array.foldl_toList,Array.toList_zipIdx,JF];rfl
     exact(congrArg (fun z=>Instr.fill place' z m) O).trans L
    .simp at a
   .simp at a
theorem zAr {R:Ren}{x:AV}{v:Value}{n:Nat}(h:YU x=some n)(a:VR R x v): ∃k,v= .int k (n:Int):=by
 unfold YU at h;split at h
 .rename_i k m;simp only[zB]at h;subst h;simp only[VR]at a;exact⟨k,a⟩
 .simp at h
theorem zAn {R:Ren}{env:Env}{n:Nat}{fr:Frame}(h:EnvR R env n fr.tmps): ∀(a:List (Nat×Operand)) (f:List (Nat×AV)),uJ env a=some f->PR R f (a.map fun(i,x)=>(i,fr.eval x))
 | [],f,e=>by simp only[uJ,zB]at e;subst e;exact .nil
 | (i,x)::a,f,e=>by
  simp only[uJ]at e;split at e
  .rename_i v vs m j;simp only[zB]at e;subst e;exact .cons (kJ h x v m) (zAn h a vs j)
  .simp at e
section
variable {P:Program}{X:Cx}(hX:Ok P X){R:Ren}(hR:RFn R){w:World}
include hX
theorem zBB: ∀(fs:List Field) (a:List (Nat×Nat)),YP X fs=some a->fs.mapM (fun f=>(P.info? f.type).map fun i=>(f.offset,i.size))=some a
 | [],a,h=>by simp only[YP,zB]at h;subst h;rfl
 | f::fs,a,h=>by
  simp only[YP]at h;split at h
  .rename_i n r j hr;simp only[zB]at h;subst h;obtain⟨i,m,o⟩:=hX.size j;simp[List.mapM_cons,m,o,zBB fs r hr]
  .simp at h
theorem zHU {t:TypeId}{d:TypeDesc}{n off:Nat}{cs:List AV}{r:AV}{l:List Value}(hd:X.und t=some d)(m:X.size t=some n)(hl:VRL R cs l)
  (h:(bif d8 d then(match uU cs off n with | some c=>some (.agg c) | none=>none)else nth cs off)=some r): ∃v,(part t ⟨l⟩ off).run P w= .ok v w/\VR R r v:=by
 rw[zF]at h;split at h
 .rename_i a;split at h
  .rename_i c o;simp only[zB]at h;subst h;obtain⟨p,s⟩:=dV _ _ _ _ o;refine⟨.agg ((⟨l⟩:Array Value).extract off (off+n)), ?_, ?_⟩
   .simp only[part,zH,hX.run_isAgg hd,hX.run_size m,Result.andThen,a,if_true];rfl
   .refine⟨((⟨l⟩:Array Value).extract off (off+n)).toList,rfl, ?_⟩;rw[p,Array.toList_extract];have:=(hl.drop off).take n;simpa[List.extract,List.take_drop]using this
  .simp at h
 .rename_i a;rw[QI]at h;obtain⟨v,q,f⟩:=VRL.get _ _ hl _ _ h;refine⟨v, ?_,f⟩;have i:d8 d=false:=by simpa using a
  have j:(⟨l⟩:Array Value)[off]? =some v:=by simpa using q
  simp only[part,zH,hX.run_isAgg hd,Result.andThen,i,zL,qC,j];rfl
theorem zK1 {t:TypeId}{f:Nat}{x r:AV}{v:Value}(h:BZ X t x f=some r)(o:VR R x v): ∃z,(Instr.field t v f).run P w= .ok z w/\VR R r z:=by
 unfold BZ at h;split at h
 .rename_i fs cs hd;split at h
  .rename_i fl a;split at h
   .rename_i d n i p;obtain⟨l,rfl,hl⟩:=o;obtain⟨z,q,j⟩:=zHU hX (w:=w) i p hl h;refine⟨z, ?_,j⟩;rw[zDf]at a;have m:fs[f]? =some fl:=by simpa using a
    simp only[Instr.field,zH,hX.run_und hd,Result.andThen,m];exact q
   .simp at h
  .simp at h
 .simp at h
theorem zK0 {t:TypeId}{x i r:AV}{v u:Value}(h:VJ X t x i=some r)(j:VR R x v)(q:VR R i u): ∃z,(Instr.index t v u).run P w= .ok z w/\VR R r z:=by
 unfold VJ at h;split at h
 .rename_i m hm;obtain⟨k,rfl⟩:=zAr hm q;split at h
  .rename_i len F hd;obtain⟨s,rfl,rfl,rfl⟩:=j;simp only[zF,qD]at h;split at h
   .rename_i a;rw[kD,zB]at h;subst h;refine⟨.int .u8 s[m].toNat, ?_, ?_⟩
    .have e:(if 0<=(m:Int)then s[(m:Int).toNat]? else none)=some s[m]:=by
      rw[if_pos (by omega),y7];exact getElem?_pos s m a
     simp only[Instr.index,asIntOf,zH,zO,hX.run_und hd,Result.andThen,e]
    .simp only[VR];congr 1;have:=zEq s.data.toList m (by rw[size_data];exact a);rw[pow8];have y:s.data.toList[m]'(by rw[size_data];exact a)=s[m]:=by simp;rfl
     rw[<-y,this];rfl
   .simp at h
  .rename_i n e cs hd;obtain⟨l,rfl,hl⟩:=j;split at h
   .rename_i d sz o f;simp only[zF,qD]at h;split at h
    .rename_i a;obtain⟨z,C,p⟩:=zHU hX (w:=w) (off:=m*sz) o f hl (by rw[zF];exact h);refine⟨z, ?_,p⟩;simp only[Instr.index,asIntOf,zH,zO,hX.run_und hd,Result.andThen];rw[if_pos (by omega)];simp only[zH,hX.run_size f,Result.andThen,y7];exact C
    .simp at h
   .simp at h
  .simp at h
 .simp at h
theorem zAW {t:TypeId}{x i r:AV}{v u:Value}(h:uZ X t x i=some r)(f:VR R x v)(o:VR R i u): ∃z,(Instr.indexAt t v u).run P w= .ok z w/\VR R r z:=by
 unfold uZ at h;split at h
 .rename_i m hm;obtain⟨k,rfl⟩:=zAr hm o;split at h
  .rename_i n e A off hd;obtain⟨b,d,c,hr,rfl⟩:=f;split at h
   .rename_i sz a;simp only[zF,qD]at h;split at h
    .rename_i j;rw[kD,zB]at h;subst h;refine⟨.pointer (some ⟨b,d+(off+m*sz),none⟩), ?_,b,d,c,hr,rfl⟩;simp only[Instr.indexAt,asIntOf,zH,zO,hX.run_und hd,Result.andThen,Instr.sureAddr];rw[if_pos (by omega)];simp only[zH,hX.run_size a,Result.andThen,y7,xA,Nat.add_assoc,zO]
    .simp at h
   .simp at h
  .rename_i e A off len cc hd;obtain⟨b,d,c,hr,rfl⟩:=f;split at h
   .rename_i sz a;simp only[zF,qD]at h;split at h
    .rename_i j;rw[kD,zB]at h;subst h;refine⟨.pointer (some ⟨b,d+(off+m*sz),none⟩), ?_,b,d,c,hr,rfl⟩;simp only[Instr.indexAt,asIntOf,zH,zO,hX.run_und hd,Result.andThen];rw[if_pos (by omega)];simp only[zH,hX.run_size a,Result.andThen,y7,xA,Nat.add_assoc,zO]
    .simp at h
   .simp at h
  .simp at h
 .simp at h
theorem zAY {t:TypeId}{f:Nat}{x r:AV}{v:Value}(h:fR X t x f=some r)(o:VR R x v): ∃z,(Instr.fieldAt t v f).run P w= .ok z w/\VR R r z:=by
 unfold fR at h;split at h
 .rename_i fs A off hd;split at h
  .rename_i fl a;rw[zDf]at a;have i:fs[f]? =some fl:=by simpa using a
   split at h
   .simp at h
   .rename_i sz j m;rw[kD,zB]at h;subst h;obtain⟨b,d,c,hr,rfl⟩:=o;have p: ¬sz=0:=fun e=>j (by rw[e])
    refine⟨.pointer (some ⟨b,d+(off+fl.offset),none⟩), ?_,b,d,c,hr,rfl⟩;simp only[Instr.fieldAt,zH,hX.run_und hd,Result.andThen,i,Instr.sureAddr,zO,fieldPlace,hX.run_size m,if_neg p,xA,Nat.add_assoc]
   .simp at h
  .simp at h
 .simp at h
theorem zPc {t ty:TypeId}{x r:AV}{v:Value}{ts:Array TypeId}(f:ts[0]? =some t)(h:zPd X t x=some r)(a:VR R x v): ∃z,(Builtin.cap_ ts ty #[v]).run P w= .ok z w/\VR R r z:=by
 unfold zPd at h;split at h
 .rename_i e hd;simp only[zB]at h;subst h;simp only[VR]at a;subst a;exact⟨goInt 0,by simp[Builtin.cap_,f,zH,hX.run_und hd,zO],rfl⟩
 .rename_i e A off len cc hd;simp only[zF,zY]at h;split at h
  .rename_i i;rw[kD,zB]at h;subst h;obtain⟨b,d,c,hr,rfl⟩:=a;refine⟨goInt (cc / 2:Nat), ?_,rfl⟩;have:uS cc c=cc / 2:=by simp[uS,i]
   simp[Builtin.cap_,f,zH,hX.run_und hd,zO,this]
  .simp at h
 .simp at h
theorem zK5 {s d:TypeId}{x r:AV}{v:Value}(h:zA2 X s d x=some r)(a:VR R x v): ∃z,(convert s d v).run P w= .ok z w/\VR R r z:=by
 unfold zA2 at h;split at h
 .simp at h
 .rename_i m f;split at h
  .rename_i k hd;split at h
   .rename_i k' n;rw[vX,zB]at h;subst h;simp only[VR]at a;subst a;exact⟨.int k (k.wrap n),by simp[convert,zH,hX.run_und f,hX.run_und hd,Conv.intToInt,zO],rfl⟩
   .simp at h
  .rename_i hd;split at h
   .rename_i l b;simp only[zB]at h;subst h;obtain⟨s',rfl,i,j⟩:=a;exact⟨.string s',by simp[convert,zH,hX.run_und f,hX.run_und hd,zO],s',rfl,i,j⟩
   .simp at h
  .simp at h
theorem zR0 {f:UnOp}{x r:AV}{v:Value}(h:aun f x=some r)(a:VR R x v): ∃z,(Op.unary f v).run P w= .ok z w/\VR R r z:=by
 have _:=hX;unfold aun at h;split at h
 .rename_i k n;rw[vX,zB]at h;subst h;simp only[VR]at a;subst a;exact⟨_,rfl,rfl⟩
 .rename_i b;rw[wD,zB]at h;subst h;simp only[VR]at a;subst a;exact⟨_,rfl,rfl⟩
 .simp at h
theorem zHX {env:Env}{n:Nat}{fr:Frame}(C:EnvR R env n fr.tmps){t:TypeId}{s:Array (Nat×Operand)}{r:AV}(h:JD X env t s=some r):
  ∃z,(Instr.build t (s.map fun(i,x)=>(i,fr.eval x))).run P w= .ok z w/\VR R r z:=by
 unfold JD at h;split at h
 .rename_i z F;obtain⟨L,p,q⟩:=hX.run_zero R F w;split at h
  .rename_i K hp;have j:=zAn C _ _ hp;rw[<-Array.toList_map]at j;split at h
   .rename_i fs hd;split at h
    .rename_i J v;split at h
     .rename_i c m;simp only[zB]at h;subst h;obtain⟨arr',a,o⟩:=zDr (place':=(J.toArray[·]?)) (fun i x f=>by rw[zI6]at f;simpa using f) j m (uA q);have u:=run_places w _ _ (zBB hX _ _ v);refine⟨.agg arr', ?_,arr'.toList,rfl,o⟩;simp at a;simp[Instr.build,zH,p,hX.run_und hd,Array.mapM_eq_mapM_toList,u,a,zO]
     .simp at h
    .simp at h
   .rename_i len e hd;split at h
    .rename_i sz y;split at h
     .rename_i c m;simp only[zB]at h;subst h;obtain⟨arr',a,o⟩:=zDr (place':=fun i=>some (i*sz,sz)) (fun i x f=>f) j m (uA q);refine⟨.agg arr', ?_,arr'.toList,rfl,o⟩;simp at a;simp[Instr.build,zH,p,hX.run_und hd,hX.run_size y,a,zO]
     .simp at h
    .simp at h
   .simp at h
  .simp at h
 .simp at h
theorem zO2 {arr:TypeId}{x r:AV}{v:Value}(h:zQ9 X arr x=some r)(a:VR R x v): ∃z,(Instr.arrayAt arr v).run P w= .ok z w/\VR R r z:=by
 unfold zQ9 at h;split at h
 .rename_i A off len cc;split at h
  .rename_i n e hd;simp only[zF,qV]at h;split at h
   .rename_i f;simp only[zB]at h;subst h;obtain⟨b,d,c,hr,rfl⟩:=a;refine⟨.pointer (some ⟨b,d+off,none⟩), ?_,b,d,c,hr,rfl⟩;simp only[Instr.arrayAt,zH,hX.run_und hd,Result.andThen];rw[if_neg (by omega)];rfl
   .simp at h
  .simp at h
 .simp at h
omit hX in
theorem zQe {ts:Array TypeId}{ty:TypeId}{x y r:AV}{v u:Value}(h:mn2 x y=some r)(i:VR R x v)(j:VR R y u): ∃z,(Builtin.min_ ts ty #[v,u]).run P w= .ok z w/\VR R r z:=by
 unfold mn2 at h;split at h
 .rename_i k a;split at h
  .rename_i k' b;simp only[VR]at i j;subst i j;rw[zF,uK]at h;refine⟨.int k (if b<a then b else a),by simp[Builtin.min_,Builtin.min2], ?_⟩
   split at h
   .rename_i f;have f:=of_decide_eq_true f;simp only[zB]at h;subst h;rw[if_pos f];rfl
   .rename_i f;have f: ¬b<a:=by simpa using f
    simp only[zB]at h;subst h;rw[if_neg f];rfl
  .simp at h
 .simp at h
omit hX in
theorem zQd {ts:Array TypeId}{ty:TypeId}{x y r:AV}{v u:Value}(h:mx2 x y=some r)(i:VR R x v)(j:VR R y u): ∃z,(Builtin.max_ ts ty #[v,u]).run P w= .ok z w/\VR R r z:=by
 unfold mx2 at h;split at h
 .rename_i k a;split at h
  .rename_i k' b;simp only[VR]at i j;subst i j;rw[zF,uK]at h;refine⟨.int k (if b>a then b else a),by simp[Builtin.max_,Builtin.max2], ?_⟩
   split at h
   .rename_i f;have f:=of_decide_eq_true f;simp only[zB]at h;subst h;rw[if_pos f];rfl
   .rename_i f;have f: ¬a<b:=by simpa using f
    simp only[zB]at h;subst h;rw[if_neg f];rfl
  .simp at h
 .simp at h
include hR in
theorem simP {env:Env}{n:Nat}{fr:Frame}(q:EnvR R env n fr.tmps){o:Oper}{r:AV}(h:aP X env o.op=some r): ∃z,(execOp fr.eval o).run P w= .ok (.value z) w/\VR R r z:=by
 have u: ∀ {x:Operand} {f:AV->Option AV},b1 (opd env x) f=some r-> ∃a,VR R a (fr.eval x)/\f a=some r:=by
  intro x f hb;unfold b1 at hb;split at hb
  .rename_i a j;exact⟨a,kJ q x a j,hb⟩
  .simp at hb
 have F: ∀ {x y:Operand} {f:AV->AV->Option AV},b2 (opd env x) (opd env y) f=some r-> ∃a b,VR R a (fr.eval x)/\VR R b (fr.eval y)/\f a b=some r:=by
  intro x y f hb;unfold b2 at hb;split at hb
  .rename_i a j;split at hb
   .rename_i b N;exact⟨a,b,kJ q x a j,kJ q y b N,hb⟩
   .simp at hb
  .simp at hb
 obtain⟨dst,op,ty,Y,V,W⟩:=o;simp only at h;unfold aP at h;split at h
 .exact⟨_,rfl,kJ q _ _ h⟩
 .exact⟨_,rfl,kJ q _ _ h⟩
 .rename_i c a b;unfold zFS at h;split at h
  .rename_i s;have hb:=kJ q _ _ s;simp only[VR]at hb;exact⟨_,by simp[execOp,hb,asBool,zH,zO],kJ q _ _ h⟩
  .rename_i s;have hb:=kJ q _ _ s;simp only[VR]at hb;exact⟨_,by simp[execOp,hb,asBool,zH,zO],kJ q _ _ h⟩
  .simp at h
 .obtain⟨z,m,p⟩:=zHX hX (w:=w) q h;exact⟨z,xG m,p⟩
 .rename_i x;obtain⟨a,j,i⟩:=u h;unfold v6 at i;split at i<;>first | (simp at i;done) | skip
  .simp only[zB]at i;subst i;obtain⟨b,d,c,hr,e⟩:=id j;exact⟨_,by simp[execOp,e,zO];rfl,by rw[<-e];exact j⟩
  .simp only[zB]at i;subst i;obtain⟨xs,ys,e,_⟩:=id j;exact⟨_,by simp[execOp,e,zO];rfl,by rw[<-e];exact j⟩
  .simp only[zB]at i;subst i;obtain⟨b,d,c,hr,e⟩:=id j;exact⟨_,by simp[execOp,e,zO];rfl,by rw[<-e];exact j⟩
 .rename_i Z t x y _;obtain⟨a,b,j,hb,i⟩:=F h;obtain⟨m,z,p,T⟩:=zK8 hX hR (w:=w) (ox:=x) (oy:=y) i j hb;refine⟨z,xG ?_,T⟩;simp only[zH,m,Result.andThen,p]
 .obtain⟨a,j,i⟩:=u h;obtain⟨z,m,p⟩:=zR0 hX (w:=w) i j;exact⟨z,xG m,p⟩
 .obtain⟨a,j,i⟩:=u h;obtain⟨z,m,p⟩:=zK5 hX (w:=w) i j;exact⟨z,xG m,p⟩
 .rename_i f first cap
  unfold zFT at h;split at h
  .rename_i a j;split at h
   .rename_i b hb;simp only[zB]at h;subst h;refine⟨_,xG rfl, ?_⟩;exact⟨(first.map fr.eval).toList,(cap.map fr.eval).toList,rfl,by simpa using WT q _ _ j,by simpa using WT q _ _ hb⟩
   .simp at h
  .simp at h
 .obtain⟨a,j,i⟩:=u h;obtain⟨z,m,p⟩:=zAY hX (w:=w) i j;exact⟨z,xG m,p⟩
 .obtain⟨a,j,i⟩:=u h;obtain⟨z,m,p⟩:=zK1 hX (w:=w) i j;exact⟨z,xG m,p⟩
 .obtain⟨a,b,j,hb,i⟩:=F h;obtain⟨z,m,p⟩:=zAW hX (w:=w) i j hb;exact⟨z,xG m,p⟩
 .obtain⟨a,b,j,hb,i⟩:=F h;obtain⟨z,m,p⟩:=zK0 hX (w:=w) i j hb;exact⟨z,xG m,p⟩
 .obtain⟨a,j,i⟩:=u h;obtain⟨z,m,p⟩:=zO2 hX (w:=w) i j;exact⟨z,xG m,p⟩
 .rename_i xx U;obtain⟨a,j,i⟩:=u h;unfold jM at i;split at i
  .rename_i vs;rw[QI]at i;obtain⟨l,e,hl⟩:=j;obtain⟨z,m,p⟩:=VRL.get _ _ hl _ _ i;refine⟨z,xG ?_,p⟩;have O:(⟨l⟩:Array Value)[U]? =some z:=by simpa using m
   simp only[Instr.extract,e,O];rfl
  .simp at i
 .rename_i c;split at h
  .rename_i s;split at h
   .rename_i x v;split at h
    .rename_i t ts L;obtain⟨a,j,i⟩:=u h;obtain⟨K,args,C⟩:=c;simp only at s v L;subst s;have S:C[0]? =some t:=by rw[<-yS,L];rfl
     obtain⟨z,m,p⟩:=zPc hX (w:=w) (ty:=ty) S i j;have J:args.map fr.eval= #[fr.eval x]:=by
      apply Array.toList_inj.1;simp[v]
     refine⟨z, ?_,p⟩;simp only[execOp,resolve,invoke,builtin,J,zH,zO,Result.andThen,m]
    .simp at h
   .simp at h
  .rename_i s;split at h
   .rename_i x y v;obtain⟨a,b,j,hb,i⟩:=F h;obtain⟨K,args,C⟩:=c;simp only at s v;subst s;have J:args.map fr.eval= #[fr.eval x,fr.eval y]:=by
     apply Array.toList_inj.1;simp[v]
    obtain⟨z,m,p⟩:=zQe (P:=P) (w:=w) (ts:=C) (ty:=ty) i j hb;exact⟨z,by simp only[execOp,resolve,invoke,builtin,J,zH,zO,Result.andThen,m],p⟩
   .simp at h
  .rename_i s;split at h
   .rename_i x y v;obtain⟨a,b,j,hb,i⟩:=F h;obtain⟨K,args,C⟩:=c;simp only at s v;subst s;have J:args.map fr.eval= #[fr.eval x,fr.eval y]:=by
     apply Array.toList_inj.1;simp[v]
    obtain⟨z,m,p⟩:=zQd (P:=P) (w:=w) (ts:=C) (ty:=ty) i j hb;exact⟨z,by simp only[execOp,resolve,invoke,builtin,J,zH,zO,Result.andThen,m],p⟩
   .simp at h
  .simp at h
 .simp at h
end
section
variable {P:Program}{X:Cx}(hX:Ok P X){R:Ren}{H:AH}{w:World}(hL:Rel R H w)
include hX hL
theorem zFt {t:TypeId}{p r:AV}{v:Value}(h:VI X t p H=some r)(o:VR R p v): ∃z,(Instr.loadAt t v).run P w= .ok z w/\VR R r z:=by
 unfold VI at h;split at h
 .rename_i A off;split at h
  .rename_i l e sz g j;obtain⟨b,d,c,hr,rfl⟩:=o;split at h
   .rename_i q hd;rw[zF]at h;split at h
    .rename_i a;split at h
     .rename_i n s;split at h
      .rename_i cs u;simp only[zB]at h;subst h;obtain⟨vs,f,i,x⟩:=hL.loads j hr (P:=P) u;refine⟨.agg vs.toArray, ?_,vs,rfl,i⟩;simp only[Instr.loadAt,Instr.sureAddr,loadVar,zH,zO,Result.andThen,hX.run_isAgg hd,a,if_true,hX.run_size s,f]
      .simp at h
     .simp at h
    .rename_i a;have m:d8 q=false:=by simpa using a
     rw[QI]at h;obtain⟨z,f,i⟩:=hL.cell j hr h;refine⟨z, ?_,i⟩;simp only[Instr.loadAt,Instr.sureAddr,loadVar,zH,zO,Result.andThen,hX.run_isAgg hd,m,zL,qC];simp[load,Sem.run,f]
   .simp at h
  .simp at h
 .simp at h
theorem zPb {t ty:TypeId}{x r:AV}{v:Value}{ts:Array TypeId}(i:ts[0]? =some t)(h:zDV X t x H=some r)(f:VR R x v): ∃z,(Builtin.len_ ts ty #[v]).run P w= .ok z w/\VR R r z:=by
 unfold zDV at h;split at h
 .rename_i l b hd;simp only[zB]at h;subst h;obtain⟨s,rfl,rfl,rfl⟩:=f;exact⟨goInt s.size,by simp[Builtin.len_,i,zH,hX.run_und hd,zO],rfl⟩
 .rename_i e hd;simp only[zB]at h;subst h;simp only[VR]at f;subst f;exact⟨goInt 0,by simp[Builtin.len_,i,zH,hX.run_und hd,zO],rfl⟩
 .rename_i e A off n cc hd;simp only[zB]at h;subst h;obtain⟨b,d,c,hr,rfl⟩:=f;exact⟨goInt n,by simp[Builtin.len_,i,zH,hX.run_und hd,zO],rfl⟩
 .rename_i e hd;simp only[zB]at h;subst h;obtain⟨a,c,rfl⟩:=f;exact⟨goInt 0,by simp[Builtin.len_,i,zH,hX.run_und hd,zO],rfl⟩
 .rename_i n e hd;simp only[zB]at h;subst h;exact⟨goInt n,by simp[Builtin.len_,i,zH,hX.run_und hd,zO],rfl⟩
 .rename_i k e hd;simp only[zB]at h;subst h;simp only[VR]at f;subst f;exact⟨goInt 0,by simp[Builtin.len_,i,zH,hX.run_und hd,zO],rfl⟩
 .rename_i k e A hd;split at h
  .rename_i ks es p;simp only[zB]at h;subst h;obtain⟨b,d,c,hr,rfl⟩:=f;obtain⟨arr,j,q,⟨m,hp,u,J⟩,_⟩:=hL.obj _ _ _ _ _ hr p;have o:arr.size=es.length:=by
    have y:=hp.length_eq;have C:=zRb _ _ u;simp at y C;omega
   have F:(getObj b).run P w= .ok (.map arr j) w:=by simp[getObj,Sem.run,q]
   exact⟨goInt arr.size,by simp[Builtin.len_,i,zH,hX.run_und hd,F,zO],by rw[o];rfl⟩
  .simp at h
 .simp at h
omit hX hL in
theorem zBa: ∀ {l:List AV} {m:List Value} {n b:Nat},QA l=some (n,b)->VRL R l m-> ∃a:List UInt8,m=a.map (fun c=>Value.int .u8 (c.toNat:Int))/\a.length=n/\pack a=b
 | [],m,n,b,h,hv=>by
  simp only[QA,zB,zU]at h;simp only[VRL]at hv;subst hv;exact⟨[],rfl,h.1,h.2⟩
 | x::l,m,n,b,h,hv=>by
  unfold QA at h;split at h
  .rename_i f;simp at f
  .rename_i k rest f;simp only[yE]at f;obtain⟨rfl,rfl⟩:=f;simp only[zF,qD]at h;split at h
   .rename_i i;split at h
    .rename_i s b' hr;simp only[kD,zB,zU]at h;obtain⟨t,u,rfl,j,o⟩:=hv;obtain⟨a,rfl,p,q⟩:=zBa hr o;simp only[VR]at j;subst j;refine⟨UInt8.ofNat k::a, ?_,by simp[p,<-h.1], ?_⟩
     .simp only[yH,UInt8.toNat_ofNat',yE,and_true];congr 1;rw[Nat.mod_eq_of_lt i];rfl
     .simp only[pack,UInt8.toNat_ofNat',q,<-h.2];rw[Nat.mod_eq_of_lt i]
    .simp at h
   .simp at h
  .simp at h
theorem zK6 {s d:TypeId}{x r:AV}{v:Value}(h:JU X s d x H=some r)(a:VR R x v): ∃z,(convert s d v).run P w= .ok z w/\VR R r z:=by
 unfold JU at h;split at h
 .rename_i e i;split at h
  .rename_i hd;split at h
   .rename_i j;split at h
    .simp only[zB]at h;subst h;simp only[VR]at a;subst a;refine⟨.string .empty, ?_, .empty,rfl,rfl,rfl⟩;rw[run_convert_bytes_string w s d e none 0 0 (hX.und i) (hX.und j) (hX.und hd)];rfl
    .rename_i A off len cc;split at h
     .rename_i l L sz g p;split at h
      .rename_i cs q;split at h
       .rename_i n b t;rw[zBO,zB]at h;subst h;obtain⟨u,y,c,hr,rfl⟩:=a;obtain⟨vs,C,F,N⟩:=hL.loads p hr (P:=P) q;obtain⟨f,rfl,J,K⟩:=zBa t F;refine⟨.string ⟨f.toArray⟩, ?_,⟨f.toArray⟩,rfl,by simpa[ByteArray.size]using J,by simpa using K⟩;rw[run_convert_bytes_string w s d e _ _ _ (hX.und i) (hX.und j) (hX.und hd)];have m:(loadCells ⟨u,y+off,none⟩ len).run P w= .ok ((f.map (fun b=>(b.toNat:Int))).map (Value.int .u8)).toArray w:=by
         rw[C];simp[List.map_map,Function.comp_def]
        rw[run_bytesToString w _ _ _ _ m,foldl_push_byteCells];have o:ByteArray.empty.data= #[]:=rfl;rw[o];simp
       .simp at h
      .simp at h
     .simp at h
    .simp at h
   .simp at h
  .simp at h
 .simp at h
end
inductive OR:Option Nat->Option Value->Prop
 | none:OR none none
 | some {n:Nat} {k:IntKind} :OR (some n) (some (.int k (n:Int)))
theorem WW {R:Ren}{x:Option AV}{n:Option Nat}{v:Option Value}(h:kX x=some n)(f:(x=none/\v=none)\/ ∃a u,x=some a/\v=some u/\VR R a u):OR n v:=by
 rcases f with⟨rfl,rfl⟩ | ⟨a,u,rfl,rfl,i⟩
 .simp only[kX,zB]at h;subst h;exact .none
 .simp only[kX]at h;split at h
  .rename_i m hm;simp only[zB]at h;subst h;obtain⟨k,rfl⟩:=zAr hm i;exact .some
  .simp at h
theorem wF {P:Program}{w:World}{k:IntKind}{n y:Nat}{code:BoundsCode}(h:n<=y):(Instr.sliceBound (.int k (n:Int)) y code).run P w= .ok n w:=by
 simp only[Instr.sliceBound,asIntOf,zH,zO,Result.andThen];rw[if_pos (by omega)];simp[zO]
theorem BW {P:Program}{w:World}{is:Bool}{len cap l h m:Nat}{lo:Option Nat}{f i j:Option Value}(p:OR lo f)(q:OR (some h) i)(s:OR (some m) j)(hl:l=lo.getD 0)(hm:m<=cap)(o:h<=m)(a:l<=h):
  (Instr.sliceBounds is len cap f i j).run P w= .ok (l,h,m) w:=by
 subst hl
 cases q;cases s;cases p
 .simp only[Instr.sliceBounds,zH,wF hm,wF o,zO,Result.andThen];rfl
 .simp only[qZ]at a;simp only[Instr.sliceBounds,zH,wF hm,wF o,wF a,zO,Result.andThen];rfl
theorem gL {P:Program}{w:World}{is:Bool}{len cap l h:Nat}{lo hi:Option Nat}{i j:Option Value}(m:OR lo i)(o:OR hi j)(hl:l=lo.getD 0)(p:h=hi.getD len)(f:h<=cap)(a:l<=h):
  (Instr.sliceBounds is len cap i j none).run P w= .ok (l,h,cap) w:=by
 subst hl p
 cases o<;>cases m
 .simp only[Instr.sliceBounds,zH,zO,Result.andThen];rfl
 .simp only[qZ,Option.getD_none]at a;simp only[Instr.sliceBounds,zH,wF a,zO,Result.andThen];rfl
 .simp only[qZ]at f;simp only[Instr.sliceBounds,zH,wF f,zO,Result.andThen];rfl
 .simp only[qZ]at f a;simp only[Instr.sliceBounds,zH,wF f,wF a,zO,Result.andThen];rfl
theorem aM {cc:Nat}(c:Nat)(h:cc % 2=0):uS cc c=cc / 2:=by
 have:(cc % 2).beq 0=true:=by rw[zY];exact h
 simp only[uS,this,zM]
theorem xK {cc:Nat}(c:Nat)(h: ¬cc % 2=0):uS cc c=c - cc / 2:=by
 have:(cc % 2).beq 0=false:=by rw[y8,ne_eq,zY];exact h
 simp only[uS,this,qH]
theorem zDW {P:Program}{w:World}{R:Ren}{A b d c off len cc sz room cp:Nat}{lo hi s:Option Nat}{t u v:Option Value}{r:AV}{is:Bool}(hR:R A b d c)(o:cp=uS cc c)(F:room<=cp)
  (h:K1 A off len cc sz room lo hi s=some r) (x:OR lo t) (y:OR hi u) (z:OR s v):
  ∃l h m,(Instr.sliceBounds is len cp t u v).run P w= .ok (l,h,m) w/\VR R r (.slice (some (if m=l then(⟨b,d+off,none⟩:Addr)else(⟨b,d+off,none⟩:Addr).add (l*sz))) (h - l) (m - l)):=by
 unfold K1 at h;simp only at h;split at h
 .rename_i m;split at h
  .rename_i C;simp only[zF]at h;split at h
   .rename_i a;simp only[zE,qV]at a;simp only[kD,zB]at h;subst h;refine⟨lo.getD 0,C,m,BW x y z rfl (by omega) a.1.2 a.2,b,d,c,hR, ?_⟩;have f:uS (2*(m - lo.getD 0)) c=m - lo.getD 0:=by simp[uS]
    rw[f,xA];by_cases e:m=lo.getD 0
    .rw[if_pos e];simp[zY,e]
    .rw[if_neg e];simp[zY,e,Nat.add_assoc]
   .simp at h
  .simp at h
 .cases z
  simp only[zF]at h;split at h
  .rename_i a;simp only[zE,qV]at a;have hb:=gL (P:=P) (w:=w) (is:=is) (cap:=cp) x y rfl rfl (by omega) a.2;refine⟨_,_,_,hb, ?_⟩;split at h
   .rename_i i;rw[zY]at i;simp only[kD,zB]at h;subst h;have j:cp=cc / 2:=by rw[o];simp[uS,i]
    refine⟨b,d,c,hR, ?_⟩;have f:uS (2*(cc / 2 - lo.getD 0)) c=cp - lo.getD 0:=by simp[uS,j]
    rw[f,xA];by_cases e:cp=lo.getD 0
    .rw[if_pos e];rw[j]at e;simp[zY,e]
    .rw[if_neg e];rw[j]at e;simp[zY,e,Nat.add_assoc]
   .rename_i i;rw[zY]at i;have j:cp=c - cc / 2:=by rw[o,xK c i]
    split at h
    .rename_i p;rw[zY]at p;simp only[kD,zB]at h;subst h;refine⟨b,d,c,hR, ?_⟩;rw[p,jD,jD,<-o,Nat.zero_mul,xA,Nat.add_zero];split<;>rfl
    .rename_i p;split at h
     .rename_i q;rw[qD]at q;simp only[kD,zB]at h;subst h;refine⟨b,d,c,hR, ?_⟩;rw[if_neg (by omega),xA,Nat.add_assoc];have f:uS (cc+2*lo.getD 0) c=cp - lo.getD 0:=by
       rw[xK c (by omega),j];omega
      rw[f]
     .rename_i q;rw[qD]at q;simp only[zB]at h;subst h;exact⟨_,_,by rw[show hi.getD len - lo.getD 0=0 from by omega]⟩
  .simp at h
theorem zBx {R:Ren}{H:AH}{w:World}(hL:Rel R H w){A b d c:Nat}{l:List AV}{e a off cc sz:Nat}{g:Bool}(j:H.h.get A=some (.cells l e a g))(hR:R A b d c)(s:0<sz):kL l g a off cc sz<=uS cc c:=by
 unfold kL;rw[zF];split
 .rename_i f;rw[zY]at f;rw[aM c f];exact zQ _
 .rename_i f;rw[zY]at f;rw[xK c f,zF];split
  .rename_i i;simp only[zE,zY]at i;obtain⟨⟨m,rfl⟩,rfl⟩:=i;obtain⟨arr,x,pre,l',q,y,z,C,o,F,p,J,_⟩:=hL.cellsAt j hR;have t:=zRb l l' o;have u:=(p m).1;rw[jX];have v:l.length<=c*a:=by omega
   have:l.length - cc / 2*a<=(c - cc / 2)*a:=by rw[Nat.sub_mul];omega
   exact Nat.div_le_of_le_mul (by rw[Nat.mul_comm a];exact this)
  .exact Nat.zero_le _
section
variable {P:Program}{X:Cx}(hX:Ok P X){R:Ren}{H:AH}{w:World}(hL:Rel R H w)
include hX hL
theorem zJX {t:TypeId}{x r:AV}{v:Value}{lo hi F:Option AV}{J K L:Option Value}(h:ZG X t x lo hi F H=some r)(j:VR R x v)
  (Y:(lo=none/\J=none)\/ ∃a u,lo=some a/\J=some u/\VR R a u) (Z:(hi=none/\K=none)\/ ∃a u,hi=some a/\K=some u/\VR R a u) (h3:(F=none/\L=none)\/ ∃a u,F=some a/\L=some u/\VR R a u):
  ∃z,(Instr.sliceAt t v J K L).run P w= .ok z w/\VR R r z:=by
 unfold ZG at h;split at h
 .rename_i U O V e1 e2 e3;have o:=WW e1 Y;have p:=WW e2 Z;have q:=WW e3 h3;split at h
  .rename_i len a0 hd;split at h
   .unfold zK4 at h;simp only[zF]at h;split at h
    .rename_i i;simp only[zE,qV]at i;rw[zBO,zB]at h;subst h;obtain⟨s,rfl,rfl,rfl⟩:=j
     cases q
     have hb:=gL (P:=P) (w:=w) (is:=false) (len:=s.size) (cap:=s.size) o p rfl rfl i.1 i.2;refine⟨.string (s.extract (U.getD 0) (O.getD s.size)), ?_,_,rfl, ?_, ?_⟩
     .simp only[Instr.sliceAt,Instr.slice,zH,hX.run_und hd,Result.andThen];simp[hb,zH,zO]
     .rw[ByteArray.size_extract];omega
     .rw[Lib.extract_data,zBE,WQ,pow8,pow8]
    .simp at h
   .simp at h
  .rename_i e hd;split at h
   .rename_i sz f;simp only[zF]at h;split at h
    .rename_i i;simp only[zE,zY]at i;obtain⟨⟨⟨c1,c2⟩,c3⟩,c4⟩:=i;simp only[zB]at h;subst h;simp only[VR]at j;subst j;refine⟨.slice none 0 0, ?_,rfl⟩
     cases V with
     | none=>
      cases q
      have hb:=gL (P:=P) (w:=w) (is:=true) (len:=0) (cap:=0) o p rfl rfl (by omega) (by omega);simp[Instr.sliceAt,Instr.slice,zH,hX.run_und hd,hb,hX.run_size f,zO,c1,c2]
     | some m=>
      cases O with
      | none=>simp at c4
      | some N=>
       simp only[qZ]at c2 c3;subst c2 c3;have hb:=BW (P:=P) (w:=w) (is:=true) (len:=0) (cap:=0) o p q rfl (zQ _) (zQ _) (by omega);simp[Instr.sliceAt,Instr.slice,zH,hX.run_und hd,hb,hX.run_size f,zO,c1]
    .simp at h
   .simp at h
  .rename_i e A off len cc hd;split at h
   .rename_i sz f;split at h
    .rename_i l e' a1 g hA;simp only[zF,qD]at h;split at h
     .rename_i C;obtain⟨b,d,c,hr,rfl⟩:=j;obtain⟨S,N,T,hb,y⟩:=zDW (P:=P) (w:=w) (is:=true) hr rfl (zBx hL hA hr C) h o p q;refine⟨_, ?_,y⟩;simp only[Instr.sliceAt,Instr.slice,zH,hX.run_und hd,Result.andThen,hb,hX.run_size f,zO];congr 1;split<;>simp_all
     .simp at h
    .simp at h
   .simp at h
  .rename_i e hd;split at h
   .rename_i sz f;split at h
    .simp only[zF]at h;split at h
     .rename_i i;simp only[zE,zY]at i;obtain⟨c1,c2⟩:=i;simp only[zB]at h;subst h;obtain⟨a,cp,rfl⟩:=j
      cases q
      have hb:=gL (P:=P) (w:=w) (is:=true) (len:=0) (cap:=cp) o p rfl rfl (by omega) (by omega);rw[c1,c2]at hb;refine⟨.slice (some a) 0 cp, ?_,a,cp,rfl⟩;simp[Instr.sliceAt,Instr.slice,zH,hX.run_und hd,hb,hX.run_size f,zO,Addr.add]
     .simp at h
    .simp at h
   .simp at h
  .rename_i n e A off hd;split at h
   .rename_i sz f;simp only[zF,qD]at h;split at h
    .rename_i C;obtain⟨b,d,c,hr,rfl⟩:=j;obtain⟨S,N,T,hb,y⟩:=zDW (P:=P) (w:=w) (is:=false) (cp:=n) hr (by simp[uS]) (zQ _) h o p q;refine⟨_, ?_,y⟩;simp only[Instr.sliceAt,Instr.sureAddr,zH,hX.run_und hd,Result.andThen,hb,hX.run_size f,zO]
    .simp at h
   .simp at h
  .rename_i arr A off hd;split at h
   .rename_i n e W;split at h
    .rename_i sz f;simp only[zF,qD]at h;split at h
     .rename_i C;obtain⟨b,d,c,hr,rfl⟩:=j;obtain⟨S,N,T,hb,y⟩:=zDW (P:=P) (w:=w) (is:=false) (cp:=n) hr (by simp[uS]) (zQ _) h o p q;refine⟨_, ?_,y⟩;simp only[Instr.sliceAt,Instr.slice,asAddr,zH,hX.run_und hd,hX.run_und W,Result.andThen,hb,hX.run_size f,zO]
     .simp at h
    .simp at h
   .simp at h
  .simp at h
 .simp at h
omit hX hL in
theorem zAt {A:Nat}(h:QL A H=true): ∃l e sz,H.h.get A=some (.cells l e sz false)/\0<sz:=by
 unfold QL at h;split at h
 .rename_i o a
  cases o with
  | cells l e sz g=>
   cases g with
   | false=>exact⟨l,e,sz,a,by simpa using h⟩
   | true=>simp at h
  | _=>simp at h
 .simp at h
omit hX in
theorem zEB {A b d c:Nat}(h:QL A H=true)(r:R A b d c): ∃arr e,w.heap[b]? =some (.cells arr e (0,0)):=by
 obtain⟨l,e,sz,f,hp⟩:=zAt h;obtain⟨arr,m,pre,l',j,a,_,_,_,i,_⟩:=hL.obj _ _ _ _ _ r f;rw[(i rfl).2.1 hp]at a;exact⟨arr,_,a⟩
theorem zMf {j:BinOp}{t:TypeId}{ox oy:Operand}{x y r:AV}{v u:Value}(h:zAZ X j t x y H=some r)(q:VR R x v)(s:VR R y u):
  (eqGuard j t ox oy v u).run P w= .ok () w/\ ∃z,(binOp j t v u).run P w= .ok z w/\VR R r z:=by
 unfold zAZ at h;split at h
 .rename_i r' hr;simp only[zB]at h;subst h;exact zK8 hX hL.fn hr q s
 .split at h
  .rename_i e hd;split at h
   .simp at h
   .rename_i k hk hs;have U: ¬k=0:=fun h0=>hk (by rw[h0])
    unfold pNe at h;split at h
    .rename_i A o;split at h
     .rename_i B p;rw[zF]at h;split at h
      .rename_i a;simp only[zE]at a;obtain⟨b1,d1,c1,C,rfl⟩:=id q;obtain⟨b2,d2,c2,F,rfl⟩:=id s;have V:b1≠b2:=by
        rintro rfl
        obtain⟨l1,u1,s1,g1,_⟩:=zAt a.1;obtain⟨l2,u2,s2,g2,_⟩:=zAt a.2.1;have:=hL.inj _ _ _ _ _ _ _ C F ⟨_,g1,trivial⟩ ⟨_,g2,trivial⟩;subst this;have J:=a.2.2;rw[yF]at J;simp at J
       obtain⟨S,W,ha⟩:=zEB hL a.1 C;obtain⟨T,Y,hb⟩:=zEB hL a.2.1 F;have e1:=hX.run_und hd w;have e2:=hX.run_size hs w;have K: ∀(m:Nat) (f i:Addr),f.block=b1->i.block=b2->(Op.equalIn (m+1) t (.pointer (some f)) (.pointer (some i))).run P w= .ok false w:=by
        intro m f i L N;have Z:w.heap[f.block]? =some (.cells S W (0,0)):=by rw[L];exact ha
        have a0:w.heap[i.block]? =some (.cells T Y (0,0)):=by rw[N];exact hb
        have a3: ¬f.block=i.block:=by rw[L,N];exact V
        have O:(sameAddr f i).run P w= .ok false w:=by
         simp[sameAddr,a3,World.frozen?,Z,a0,noView,viewAt,World.shape?,mayBeOne,stringish]
        simp only[Op.equalIn,zH,e1,e2,Result.andThen,ne_eq,U,j6,if_true,O]
       refine⟨wB (by simp) (by simp), ?_⟩;split at h
       .rw[wD,zB]at h;subst h;refine⟨.bool false, ?_,rfl⟩;show(do pure (.bool (← Op.equal t _ _)):Sem Value).run P w=_
        simp only[Op.equal,Op.maxDepth,zH];rw[K 9999 _ _ rfl rfl];rfl
       .rw[wD,zB]at h;subst h;refine⟨.bool true, ?_,rfl⟩;show(do pure (.bool (!(← Op.equal t _ _))):Sem Value).run P w=_
        simp only[Op.equal,Op.maxDepth,zH];rw[K 9999 _ _ rfl rfl];rfl
       .simp at h
      .simp at h
     .simp at h
    .simp at h
   .simp at h
  .simp at h
theorem simL {env:Env}{n:Nat}{fr:Frame}(p:EnvR R env n fr.tmps){o:Oper}{r:AV}(h:aL X env H o.op=some r): ∃z,(execOp fr.eval o).run P w= .ok (.value z) w/\VR R r z:=by
 have v: ∀ {x:Operand} {f:AV->Option AV},b1 (opd env x) f=some r-> ∃a,VR R a (fr.eval x)/\f a=some r:=by
  intro x f hb;unfold b1 at hb;split at hb
  .rename_i a i;exact⟨a,kJ p x a i,hb⟩
  .simp at hb
 have C: ∀ {x:Option Operand} {y:Option AV},dI env x=some y->(y=none/\x.map fr.eval=none)\/ ∃a u,y=some a/\x.map fr.eval=some u/\VR R a u:=by
  intro x y hb
  cases x with
  | none=>simp only[dI,zB]at hb;exact .inl ⟨hb.symm,rfl⟩
  | some x=>
   simp only[dI]at hb;split at hb
   .rename_i b L;simp only[zB]at hb;exact .inr ⟨b,_,hb.symm,rfl,kJ p x b L⟩
   .simp at hb
 obtain⟨dst,op,ty,a3,a1,a2⟩:=o;simp only at h;unfold aL at h;split at h
 .obtain⟨a,i,q⟩:=v h;obtain⟨z,j,m⟩:=zFt hX hL q i;exact⟨z,xG j,m⟩
 .unfold Z6 at h;split at h
  .rename_i a i;split at h
   .rename_i a4 N;split at h
    .rename_i a5 O;split at h
     .rename_i a6 S;obtain⟨z,j,m⟩:=zJX hX hL h (kJ p _ _ i) (C N) (C O) (C S);exact⟨z,xG j,m⟩
     .simp at h
    .simp at h
   .simp at h
  .simp at h
 .unfold b2 at h;split at h
  .rename_i a i;split at h
   .rename_i b hb;unfold zJZ at h;split at h
    .rename_i kt et s;split at h
     .rename_i ks U;split at h
      .rename_i z V;obtain⟨W,j,m⟩:=zQi hX hL s U V h (kJ p _ _ i) (kJ p _ _ hb);exact⟨W,xG j,m⟩
      .simp at h
     .simp at h
    .simp at h
   .simp at h
  .simp at h
 .obtain⟨a,i,q⟩:=v h;obtain⟨z,j,m⟩:=zK6 hX hL q i;exact⟨z,xG j,m⟩
 .rename_i a7 t x y _;unfold b2 at h;split at h
  .rename_i a i;split at h
   .rename_i b hb;obtain⟨j,z,m,Y⟩:=zMf hX hL (ox:=x) (oy:=y) h (kJ p _ _ i) (kJ p _ _ hb);refine⟨z,xG ?_,Y⟩;simp only[zH,j,Result.andThen,m]
   .simp at h
  .simp at h
 .rename_i c;split at h
  .rename_i F;split at h
   .rename_i x J;split at h
    .rename_i t ts s;obtain⟨a,i,q⟩:=v h;obtain⟨a0,args,K⟩:=c;simp only at F J s;subst F;have T:K[0]? =some t:=by rw[<-yS,s];rfl
     obtain⟨z,j,m⟩:=zPb hX hL (ty:=ty) T q i;have Z:args.map fr.eval= #[fr.eval x]:=by
      apply Array.toList_inj.1;simp[J]
     refine⟨z, ?_,m⟩;simp only[execOp,resolve,invoke,builtin,Z,zH,zO,Result.andThen,j]
    .simp at h
   .simp at h
  .simp at h
 .simp at h
end
theorem VU (a b:Nat):List.range (a+b)=List.range a++(List.range b).map (a+ ·):=List.range_add
theorem WZ (z:Array Value)(n:Nat)(a:0<z.size):((Array.range (n*z.size)).map (z[· % z.size]!)).toList=(List.replicate n z.toList).flatten:=by
 rw[Array.toList_map,Array.toList_range]
 induction n with
 | zero=>simp
 | succ n ih=>
  rw[jI,Nat.add_comm,VU,List.map_append,List.replicate_succ,List.flatten_cons];congr 1
  .apply List.ext_getElem?;intro i;by_cases hi:i<z.size
   .simp[hi,Nat.mod_eq_of_lt hi]
   .simp[hi]
  .rw[<-ih,List.map_map];apply List.map_congr_left;intro j _;simp[Function.comp]
theorem zHs {R:Ren}{a:List AV}{z:List Value}(h:VRL R a z): ∀n,VRL R (rep n a) (List.replicate n z).flatten
 | 0=>rfl
 | n+1=>by
  rw[rep,List.replicate_succ,List.flatten_cons];exact h.append (zHs h n)
theorem J5 {R:Ren} : ∀(a:List UInt8),VRL R (bytesOf a.length (pack a)) (a.map (fun b=>Value.int .u8 (b.toNat:Int)))
 | []=>rfl
 | b::a=>by
  have hb:b.toNat<256:=b.toNat_lt;have f:pack (b::a) % 256=b.toNat:=by simp only[pack];omega
  have h:pack (b::a) / 256=pack a:=by simp only[pack];omega
  simp only[zW,bytesOf,f,h,yH];exact⟨_,_,rfl,rfl,J5 a⟩
def zA4 (R:Ren)(P:Program)(s:Sem Value)(o:AObj)(a:Nat->AV)(w:World):Prop:=
 ∃(x:Obj) (c k:Nat) (z:Value),s.run P w= .ok z (World.alloc { w with drawn:=k} x)/\
  ∀A,zKo (R.add A w.heap.size 0 c) o 0 c (some x)/\VR (R.add A w.heap.size 0 c) (a A) z
section
variable {P:Program}{X:Cx}(hX:Ok P X){R:Ren}{w:World}
include hX
omit hX in
theorem zBR {e:TypeId}{x:AV}{v:Value}{s:Sem Value}(a:VR R x v)(f:s.run P w= .ok (.pointer (some ⟨w.heap.size,0,none⟩)) (w.alloc (.cells v.cells e))):
  zA4 R P s (.cells (jT x) e 1 false) (fun A=> .ptr A 0) w:=by
 refine⟨.cells v.cells e,0,w.drawn,_,f,fun A=>⟨⟨v.cells,(0,0),[],v.cells.toList,[],rfl,by simp,rfl,VRL.mono (R.sub_add _ _ _ _) _ _ (uA a),fun _=>⟨rfl,fun _=>rfl,fun h=>by omega⟩,fun h=>by simp at h,fun _ i _=>by simp,[],rfl⟩, ?_⟩⟩;exact⟨w.heap.size,0,0,R.add_self _ _ _ _,rfl⟩
theorem zGr {env:Env}{n:Nat}{fr:Frame}(T:EnvR R env n fr.tmps){t:TypeId}{len:Nat}{m:Array (Nat×Operand)}{o:AObj}{v:Nat->AV}(h:Q3 X env t len m=some (o,v)):
  zA4 R P (Instr.buildSlice t len (m.map fun(i,x)=>(i,fr.eval x))) o v w:=by
 unfold Q3 at h;split at h
 .rename_i e hd;split at h
  .rename_i Z hp;have p:=zAn T _ _ hp;rw[<-Array.toList_map]at p;split at h
   .rename_i sz F;split at h
    .rename_i z U;simp only[zF]at h;split at h
     .rename_i y;simp only[zE,qV,qD,zY,jX]at y;obtain⟨⟨c1,c2⟩,c3⟩:=y;split at h
      .rename_i cs J;simp only[zB,zU]at h;obtain⟨rfl,rfl⟩:=h;obtain⟨j,K,L⟩:=hX.run_zero R U w;have q:=uA L;have s:=zRb _ _ q;rw[yU,c3]at s;have C: ∃a:Array Value,((len*sz=0/\a= #[])\/(¬len*sz=0/\a=j.cells))/\
         ((Array.range (len*sz)).map (a[· % a.size]!)).toList=(List.replicate len j.cells.toList).flatten:=by
        by_cases f:len*sz=0
        .refine⟨#[], .inl ⟨f,rfl⟩, ?_⟩;have:len=0:=by rcases Nat.mul_eq_zero.1 f with h | h<;>omega
         subst this;simp
        .refine⟨j.cells, .inr ⟨f,rfl⟩, ?_⟩;rw[show len*sz=len*j.cells.size from by rw[s]];exact WZ j.cells len (by omega)
       obtain⟨a,N,O⟩:=C;obtain⟨arr',V,W⟩:=zDr (R:=R) (place':=fun i=>some (i*sz,sz)) (fun i x Y=>Y) p J (arr:=(Array.range (len*sz)).map (a[· % a.size]!)) (by rw[O];exact zHs q len);refine⟨.cells arr' e,len,w.drawn, .slice (some ⟨w.heap.size,0,none⟩) len len, ?_,fun A=>⟨⟨arr',(0,0),[],arr'.toList,[],rfl,by simp,rfl,VRL.mono (R.sub_add _ _ _ _) _ _ W,fun _=>⟨rfl,fun _=>rfl,fun h=>by omega⟩,fun h=>by simp at h,fun _ i _=>by simp,[],rfl⟩, ?_⟩⟩
       .have S: ¬len*sz>2 ^ 24:=by omega
        simp only[Instr.buildSlice,zH,hX.run_und hd,Result.andThen,hX.run_size F];rw[if_neg S];have u:Instr.fill (fun i=>some (i*sz,sz)) ((Array.range (len*sz)).map (a[· % a.size]!)) (m.map fun x=>(x.fst,fr.eval x.snd)).toList=some arr':=V;rcases N with⟨f,rfl⟩ | ⟨f,rfl⟩
        .rw[if_pos f];simp only[zH,zO,Result.andThen,u,newRow,newObj,Sem.run];rfl
        .rw[if_neg f];simp only[zH,zO,Result.andThen,K,u,newRow,newObj,Sem.run];rfl
       .exact⟨w.heap.size,0,len,R.add_self _ _ _ _,by rw[aM _ (by omega)];simp⟩
      .simp at h
     .simp at h
    .simp at h
   .simp at h
  .simp at h
 .simp at h
theorem zKd {t:TypeId}{l c:Option AV}{u v:Value}{o:AObj}{x:Nat->AV}(h:zA3 X t l c=some (o,x))(hl: ∀a,l=some a->VR R a u)(N: ∀a,c=some a->VR R a v):
  zA4 R P (Instr.makeSlice t u v) o x w:=by
 unfold zA3 at h;split at h
 .rename_i n;split at h
  .rename_i m;have y:=hl _ rfl;have C:=N _ rfl;simp only[VR]at y C;subst y C;split at h
   .rename_i e hd;split at h
    .rename_i U F;split at h
     .rename_i z O;simp only[zF]at h;split at h
      .rename_i p;simp only[zE,qV,qD,zY,jX]at p;obtain⟨⟨⟨⟨c1,c2⟩,c3⟩,V⟩,S⟩:=p;simp only[zB,zU]at h;obtain⟨rfl,rfl⟩:=h;obtain⟨i,f,hi,J,K⟩:=hX.zero R O;have j:=hX.ty _ _ F;rw[hi]at j;injection j with j;subst j
       have q:=uA K;have s:=zRb _ _ q;rw[yU,S]at s;have hm:=run_make (P:=P) w t e i f (hX.und hd) hi J .i64 .i64 (n:Int) (m:Int) (by omega) (by omega) (by
        have:((m*i.bytes:Nat):Int)<=140737488355328:=by omega
        rw[Int.natCast_mul]at this;rw[Int.mul_comm];omega) (by omega)
       have L:(madeCells f.cells (m*i.size)).toList=(List.replicate m f.cells.toList).flatten:=by
        have T:madeCells f.cells (m*i.size)=(Array.range (m*i.size)).map (f.cells[· % f.cells.size]!):=rfl;rw[T,show m*i.size=m*f.cells.size from by rw[s]];exact WZ f.cells m (by omega)
       refine⟨_,m,w.drawn,_,hm,fun A=>⟨⟨_,(0,0),[],(List.replicate m f.cells.toList).flatten,[],rfl, ?_,rfl,VRL.mono (R.sub_add _ _ _ _) _ _ (zHs q m),fun _=>⟨rfl,fun _=>rfl,fun h=>by omega⟩,fun h=>by simp at h,fun _ i _=>by simp,[],rfl⟩, ?_⟩⟩
       .simp only[y7,qX,qS];exact L
       .exact⟨w.heap.size,0,m,R.add_self _ _ _ _,by rw[aM _ (by omega),yQ m (by omega:0<2),y7,y7]⟩
      .simp at h
     .simp at h
    .simp at h
   .simp at h
  .simp at h
 .simp at h
theorem zK7 {s d:TypeId}{x:AV}{v:Value}{o:AObj}{j:Nat->AV}(h:zCR X s d x=some (o,j))(t:VR R x v):zA4 R P (convert s d v) o j w:=by
 unfold zCR at h;split at h
 .rename_i u;split at h
  .rename_i e hd;split at h
   .rename_i y;split at h
    .rename_i l b;simp only[zF,qD]at h;split at h
     .rename_i q;simp only[zB,zU]at h;obtain⟨rfl,rfl⟩:=h;obtain⟨st,rfl,rfl,rfl⟩:=t;generalize a:Question.cut (.appendCap st.size 0 e) (w.tape w.drawn (.appendCap st.size 0 e))=cap;have F:st.size<=cap:=by rw[<-a];simp only[Question.cut];omega
      have p:cap<9223372036854775808:=by
       rw[<-a];simp only[Question.cut];have C:st.size<4611686018427387904:=by first | exact q | omega
       have:=Nat.mod_lt (w.tape w.drawn (.appendCap st.size 0 e)) (show 2 ^ 63 - st.size>0 by omega);omega
      have J:(st.data.map fun b=>Value.int .u8 (b.toNat:Int)).toList=st.data.toList.map (fun b=>Value.int .u8 (b.toNat:Int)):=by simp
      refine⟨.cells ((st.data.map fun b=>Value.int .u8 (b.toNat:Int))++Array.replicate (cap - st.size) (.int .u8 0)) e (cap,cap+1),cap,w.drawn+1, .slice (some ⟨w.heap.size,0,none⟩) st.size cap, ?_,fun A=>⟨⟨_,(cap,cap+1),[],st.data.toList.map (fun b=>Value.int .u8 (b.toNat:Int)),List.replicate (cap - st.size) (.int .u8 0),rfl, ?_,rfl, ?_,fun h=>by simp at h,fun _=>⟨?_,p⟩,fun _ i hi=> ?_,_,VRL.replicate (x:= .int .u8 0) (v:= .int .u8 0) rfl _⟩, ?_⟩⟩
      .have f:((st.data.map fun b=>Value.int .u8 (b.toNat:Int))++Array.replicate (cap - st.size) (Value.int .u8 0)).size=cap:=by
        simp;omega
       have z:(choose (.appendCap st.size 0 e)).run P w= .ok cap { w with drawn:=w.drawn+1} :=by
        simp only[choose,Sem.run,Question.forced,zL,qC,a]
       have m:(convert s d (.string st)).run P w=(Conv.stringToBytes e st).run P w:=by
        simp[convert,zH,hX.run_und u,hX.run_und hd,hX.run_und y]
       rw[m];simp only[Conv.stringToBytes,zH,z,Result.andThen,newRow,newObj,Sem.run,zO,markStringish,shape,World.shape?,Array.getElem?_push_size,f,freeze,World.freeze];simp[World.alloc,zO];apply Array.ext_getElem?;intro i;rw[Array.getElem?_modify];by_cases hi:i=w.heap.size
       .subst hi;simp[f]
       .simp only[Array.getElem?_push,if_neg hi,if_neg (Ne.symm hi)]
      .simp
      .rw[<-size_data];exact J5 _
      .simp[size_data];omega
      .simp at hi;simp;omega
      .exact⟨w.heap.size,0,cap,R.add_self _ _ _ _,by rw[xK _ (by omega)];simp⟩
     .simp at h
    .simp at h
   .simp at h
  .simp at h
 .simp at h
theorem simA {env:Env}{n:Nat}{fr:Frame}(f:EnvR R env n fr.tmps){o:Oper}{m:AObj}{p:Nat->AV}(h:aA X env o.op=some (m,p)):
  ∃s:Sem Value,execOp fr.eval o=(do pure (Next.value (← s)))/\zA4 R P s m p w:=by
 obtain⟨dst,F,ty,C,v,y⟩:=o;simp only at h;unfold aA at h;split at h
 .rename_i e;refine⟨_,rfl, ?_⟩;unfold aA1 at h;split at h
  .rename_i z j;simp only[zB,zU]at h;obtain⟨rfl,rfl⟩:=h;obtain⟨J,q,u⟩:=hX.run_zero R j w;refine zBR u ?_;simp only[Instr.alloc,zH,q,Result.andThen,newVar,newRow,newObj,Sem.run,zO];rfl
  .simp at h
 .rename_i e x;refine⟨_,rfl, ?_⟩;unfold aA1 at h;split at h
  .rename_i z j;simp only[zB,zU]at h;obtain⟨rfl,rfl⟩:=h;refine zBR (kJ f _ _ j) ?_;simp only[Instr.box,zH,Result.andThen,newVar,newRow,newObj,Sem.run,zO];rfl
  .simp at h
 .exact⟨_,rfl,zGr hX f h⟩
 .exact⟨_,rfl,zKd hX h (fun a i=>kJ f _ _ i) (fun a i=>kJ f _ _ i)⟩
 .split at h
  .rename_i a i;exact⟨_,rfl,zK7 hX h (kJ f _ _ i)⟩
  .simp at h
 .rename_i t;refine⟨_,rfl, ?_⟩;unfold aMap at h;split at h
  .split at h
   .simp only[zB,zU]at h;obtain⟨rfl,rfl⟩:=h;refine⟨.map #[] 0,0,w.drawn, .map (some w.heap.size), ?_,fun A=>⟨⟨#[],0,rfl,⟨[],by simp,rfl,rfl⟩,by simp,List.Pairwise.nil,by simp[zDX]⟩,⟨_,_,_,R.add_self _ _ _ _,rfl⟩⟩⟩;simp[Instr.makeMap,newObj,zH,Sem.run]
   .simp at h
  .simp at h
 .simp at h
end
end Go.Eng
end

