/- A checked evaluator for the program, and what it tells, part 2: no condition. -/
import Derived.Test.YtjjeplgpgbhngaaGreatO1
import Derived.RangeFuncRecord
import Derived.Orders
set_option linter.all false
set_option linter.unusedVariables false
set_option linter.unusedSimpArgs false
set_option maxHeartbeats 8000000
set_option maxRecDepth 20000
variable {h p L:Go.Eng.AV}{n E:Go.Eng.AH}{k W:Go.TypeId}{i:Nat}{A:List Nat}{v:Array Go.Oper}{l Y:Go.Eng.Env}{t:Go.World}{q:Go.Program}{e:Go.Eng.AObj×(Nat->Go.Eng.AV)}{s:Go.Eng.Ren}{C f:Go.Value}{F:Array Go.Value}{G:Go.Op}{I:List Go.Eng.AV}{J:Option Go.Eng.AV}{M:Option Go.Tmp}{N:List (Nat×Go.Oper)}{Q:Go.Eng.Cx}{U:Bool}{V:Go.Oper}{a:Array (Nat×Go.Operand)}{c:Go.TypeDesc}{g:Go.Eng.AObj}{j:Option (Go.Eng.AObj×(Nat->Go.Eng.AV))}{m:List Go.Eng.Ent}{u:Go.BinOp}{z:Go.Eng.AV->Go.Eng.AV->Option Go.Eng.AV}
section
namespace Go.Eng
theorem run_append_in {m:World}{ty e:TypeId}{n sLen sCap:Nat}{base:Option Addr}(o:(underlying k).run q t= .ok (.slice e) t)(p:(underlying W).run q t= .ok c t)(x: ∀w,c≠ .int w)
  (u:(sizeOf e).run q t= .ok i t) (P:(Builtin.lenOf C).run q t= .ok n t) (s:(Builtin.firstCells i n C).run q t= .ok F t) (j:sLen+n<=sCap)
  (h:(match base with | some a=>storeCells (a.add (sLen*i)) F.toList | none=>pure ()).run q t= .ok () m):
  (Builtin.append_ #[k,W] ty #[.slice base sLen sCap,C]).run q t= .ok (.slice base (sLen+n) sCap) m:=by
 have v:(match c with | .int _=>true | _=>false)=false:=by
  cases c<;>first | rfl | exact absurd rfl (x _)
 cases base with
 | none=>
  simp only[zJ,Result.ok.injEq,true_and]at h;subst h;simp[Builtin.append_,zG,o,p,u,v,P,j,s,zJ]
 | some a=>
  simp[Builtin.append_,zG,o,p,u,v,P,j,s,h,zJ]
theorem run_append_grow {ty e:TypeId}{h:TypeInfo}{sLen sCap:Nat}{base:Option Addr}{old:Array Value}(K:(underlying k).run q t= .ok (.slice e) t)(L:(underlying W).run q t= .ok c t)(s: ∀w,c≠ .int w)
  (hi:q.info? e=some h) (M:h.zero=some C) (N:(Builtin.lenOf f).run q t= .ok i t) (O: ∀a,a.heap=t.heap->(Builtin.firstCells h.size i f).run q a= .ok F a)
  (Q: ∀a,a.heap=t.heap->(Builtin.firstCells h.size sLen (.slice base sLen sCap)).run q a= .ok old a) (v:sCap<sLen+i) (hb:(sLen+i+(sLen+i) / 4+192)*h.bytes<=281474976710656) (h63:sLen+i<4611686018427387904):
  ∃cap,sLen+i<=cap/\cap<9223372036854775808/\(Builtin.append_ #[k,W] ty #[.slice base sLen sCap,f]).run q t=
   .ok (.slice (some ⟨t.heap.size,0,none⟩) (sLen+i) cap) (World.alloc t.drew (.cells (old++F++Builtin.zeroCells C.cells (cap - (sLen+i))) e)):=by
 have x:(match c with | .int _=>true | _=>false)=false:=by
  cases c<;>first | rfl | exact absurd rfl (s _)
 have T:=growslice_fits_wide (bytes:=h.bytes) v hb;refine⟨Question.cut (.appendCap (sLen+i) sCap e) (t.tape t.drawn (.appendCap (sLen+i) sCap e)),by simp only[Question.cut];omega,by
   simp only[Question.cut];have:=Nat.mod_lt (t.tape t.drawn (.appendCap (sLen+i) sCap e)) (show 2 ^ 63 - (sLen+i)>0 by omega);omega, ?_⟩
 generalize j:Question.cut (.appendCap (sLen+i) sCap e) (t.tape t.drawn (.appendCap (sLen+i) sCap e))=cap;have V:(choose (.appendCap (sLen+i) sCap e)).run q t= .ok cap { t with drawn:=t.drawn+1} :=by
  simp only[choose,Sem.run,Question.forced,zL,qD,j]
 have y: ∀a,(sizeOf e).run q a= .ok h.size a:=fun a=>by simp[sizeOf,typeInfo,hi]
 have z: ∀a,(typeInfo e).run q a= .ok h a:=fun a=>by simp[typeInfo,hi]
 have u: ∀a,(zeroValue e).run q a= .ok C a:=fun a=>by simp[zeroValue,typeInfo,hi,M]
 have n: ¬sLen+i<=sCap:=by omega
 have p: ¬((sLen+i:Nat):Int)>IntKind.i64.max:=by
  simp only[IntKind.max,IntKind.signed,IntKind.bits];simp;omega
 have o: ∀(b:Nat) a,(askRoom b).run q a= .ok () a:=fun b a=>by unfold askRoom;split<;>rfl
 have U: ¬Builtin.nextslicecap (sLen+i) sCap*h.bytes>2 ^ 48:=by omega
 have G:=O t.drew rfl;have I:=Q t.drew rfl;have S: ¬(((sLen:Int)+(i:Int))>IntKind.i64.max):=by simpa using p
 have J: ¬(9223372036854775807< (sLen:Int)+(i:Int)/\h.bytes=0):=by omega
 have m:(Question.appendCap (sLen+i) sCap e).forced=false:=rfl;have P: ¬281474976710656<Builtin.nextslicecap (sLen+i) sCap*h.bytes:=by omega
 simp[Builtin.append_,zG,K,L,y,x,N,n,z,J,P,m,j,o,I,G,u,newRow,newObj,Sem.run,zJ]
structure AppSrc (P:Program)(w:World)(t u ty e:TypeId)(ti:TypeInfo)(zv xv:Value)(n:Nat)(vs:Array Value):Prop where
 fits: ∀(base:Option Addr) (sLen sCap:Nat) (w':World),sLen+n<=sCap->(match base with | some a=>storeCells (a.add (sLen*ti.size)) vs.toList | none=>pure ()).run P w= .ok () w'->
  (Builtin.append_ #[t,u] ty #[.slice base sLen sCap,xv]).run P w= .ok (.slice base (sLen+n) sCap) w'
 grows: ∀(base:Option Addr) (sLen sCap:Nat) (old:Array Value),(∀w',w'.heap=w.heap->(Builtin.firstCells ti.size sLen (.slice base sLen sCap)).run P w'= .ok old w')->sCap<sLen+n->
  (sLen+n+(sLen+n) / 4+192)*ti.bytes<=281474976710656->sLen+n<4611686018427387904->
  ∃cap,sLen+n<=cap/\cap<9223372036854775808/\(Builtin.append_ #[t,u] ty #[.slice base sLen sCap,xv]).run P w=
   .ok (.slice (some ⟨w.heap.size,0,none⟩) (sLen+n) cap) (World.alloc w.drew (.cells (old++vs++Builtin.zeroCells zv.cells (cap - (sLen+n))) e))
theorem AppSrc.plain {ty e:TypeId}{a:TypeInfo}(m:(underlying k).run q t= .ok (.slice e) t)(o:(underlying W).run q t= .ok c t)(h: ∀w,c≠ .int w)
  (hi:q.info? e=some a) (x:a.zero=some C) (p:(Builtin.lenOf f).run q t= .ok i t) (P: ∀u,u.heap=t.heap->(Builtin.firstCells a.size i f).run q u= .ok F u):AppSrc q t k W ty e a C f i F:=
 ⟨fun _ _ _ _ s y=>run_append_in m o h (by simp[sizeOf,typeInfo,hi]) p (P t rfl) s y,
  fun _ _ _ _ z v hb h63=>run_append_grow m o h hi x p P z v hb h63⟩
theorem AppSrc.zeros {ty e:TypeId}{w:IntKind}{n:TypeInfo}(y:(underlying k).run q t= .ok (.slice e) t)(z:(underlying W).run q t= .ok (.int w) t)
  (hi:q.info? e=some n) (T:n.zero=some C) (u:0<n.size) (Z:i<4611686018427387904) (hb:i*n.bytes<=281474976710656):AppSrc q t k W ty e n C (.int .i64 (i:Int)) i (Builtin.zeroCells C.cells i):=by
 have P: ∀f,(sizeOf e).run q f= .ok n.size f:=fun f=>by simp[sizeOf,typeInfo,hi]
 have s: ∀f,(typeInfo e).run q f= .ok n f:=fun f=>by simp[typeInfo,hi]
 have G: ∀f,(zeroValue e).run q f= .ok C f:=fun f=>by simp[zeroValue,typeInfo,hi,T]
 have p:IntKind.i64.wrap (i:Int)=i:=wrap_of_range (by simp only[IntKind.min,IntKind.signed,IntKind.bits];simp) (by simp only[IntKind.max,IntKind.signed,IntKind.bits];simp;omega);have F: ¬((i:Int)<0):=by omega
 have U: ¬((i:Int)*(n.bytes:Int)>2 ^ 48):=by
  have:((i*n.bytes:Nat):Int)<=281474976710656:=by omega
  simp at this;simp;omega
 have v: ¬(281474976710656< (i:Int)*(n.bytes:Int)):=by simpa using U
 have x: ∀f:World,(asInt (.int .i64 (i:Int))).run q f= .ok (i:Int) f:=fun f=>by simp[asInt,asIntOf]
 have M:i*n.size=0->Builtin.zeroCells C.cells i= #[]:=by
  intro j;have:i=0:=by
   rcases Nat.mul_eq_zero.1 j with h | h
   .exact h
   .omega
  subst this;simp[Builtin.zeroCells]
 refine⟨fun base sLen sCap f o m=> ?_,fun base sLen sCap old V Q S h63=> ?_⟩
 .by_cases j:i*n.size=0
  .rw[M j]at m
   cases base with
   | none=>
    simp only[zJ,Result.ok.injEq,true_and]at m;subst m;simp[Builtin.append_,zG,y,z,P,x,p,F,s,v,o,j,zJ]
   | some a=>
    simp only at m;simp[Builtin.append_,zG,y,z,P,x,p,F,s,v,o,j,m,zJ]
  .cases base with
   | none=>
    simp only[zJ,Result.ok.injEq,true_and]at m;subst m;simp[Builtin.append_,zG,y,z,P,x,p,F,s,v,o,j,G,zJ]
   | some a=>
    simp only at m;simp[Builtin.append_,zG,y,z,P,x,p,F,s,v,o,j,G,m,zJ]
 .have Y:=growslice_fits_wide (bytes:=n.bytes) Q S;refine⟨Question.cut (.appendCap (sLen+i) sCap e) (t.tape t.drawn (.appendCap (sLen+i) sCap e)),by simp only[Question.cut];omega,by
   simp only[Question.cut];have:=Nat.mod_lt (t.tape t.drawn (.appendCap (sLen+i) sCap e)) (show 2 ^ 63 - (sLen+i)>0 by omega);omega, ?_⟩
  generalize K:Question.cut (.appendCap (sLen+i) sCap e) (t.tape t.drawn (.appendCap (sLen+i) sCap e))=cap;have o: ¬sLen+i<=sCap:=by omega
  have J: ∀(b:Nat) f,(askRoom b).run q f= .ok () f:=fun b f=>by unfold askRoom;split<;>rfl
  have N:=V t.drew rfl;have O: ¬(9223372036854775807< (sLen:Int)+(i:Int)):=by omega
  have I:(Question.appendCap (sLen+i) sCap e).forced=false:=rfl;have L: ¬281474976710656<Builtin.nextslicecap (sLen+i) sCap*n.bytes:=by omega
  by_cases j:i*n.size=0
  .rw[M j];simp[Builtin.append_,zG,y,z,P,x,p,F,s,v,o,O,L,I,K,J,N,j,G,newRow,newObj,Sem.run,zJ]
  .simp[Builtin.append_,zG,y,z,P,x,p,F,s,v,o,O,L,I,K,J,N,j,G,newRow,newObj,Sem.run,zJ]
theorem Rel.kill {H:AH}(h:Rel s H t){w:T AObj}(p:T.set 40 H.h i .dead=some w):Rel s ⟨w,H.next⟩ t:=by
 have j:=T.get_set _ _ _ _ _ p;have hl: ∀f,Live ⟨w,H.next⟩ f->Live H f:=fun f ⟨o,a,hd⟩=>by
  simp only[j]at a;by_cases e:f=i
  .rw[if_pos e]at a;injection a with a;subst a;exact hd.elim
  .rw[if_neg e]at a;exact⟨o,a,hd⟩
 refine⟨h.fn,fun m R b d c d' c' r q l l'=>h.inj _ _ _ _ _ _ _ r q (hl _ l) (hl _ l'),fun m b d c o r a=> ?_,h.lt⟩;simp only[j]at a;by_cases e:m=i
 .rw[if_pos e]at a;injection a with a;subst a;trivial
 .rw[if_neg e]at a;exact h.obj _ _ _ _ _ r a
theorem Ext.kill {H:AH}{b d c:Nat}(hR:s i b d c){a:T AObj}(f:T.set 40 H.h i .dead=some a):Ext s H t s ⟨a,H.next⟩ t:=
 ⟨jT s,fun _ _ _ _ h=> .inl h,fun _ _ _ _ h=> .inl h,zK _,fun R _ j=>by
  show a.get R=_;rw[T.get_set _ _ _ _ _ f,if_neg (fun e=>by subst e;exact j _ _ _ hR)],rfl,rfl,rfl,zK _,fun _ _ _=>rfl⟩
theorem Rel.move {w:World}(h:Rel s n w){b d c d' c':Nat}{x:Obj}{t1 t2:T AObj}(hR:s i b d c)(hl:Live n i)(G:T.set 40 n.h i .dead=some t1)(I:T.set 40 t1 n.next g=some t2)
  (f:ORel (s.add n.next b d' c') g d' c' (some x)):Rel (s.add n.next b d' c') ⟨t2,n.next+1⟩ (wput w b x):=by
 have y:=T.get_set _ _ _ _ _ G;have t:=T.get_set _ _ _ _ _ I;have j: ∀b d c,¬s n.next b d c:=fun b d c r=>by have:=(h.lt _ _ _ _ r).2;omega
 have R: ∀p,Live ⟨t2,n.next+1⟩ p->p≠n.next->Live n p/\p≠i:=fun p ⟨o,f,hd⟩ hne=>by
  simp only[t,if_neg hne,y]at f;by_cases e:p=i
  .rw[if_pos e]at f;injection f with f;subst f;exact hd.elim
  .rw[if_neg e]at f;exact⟨⟨o,f,hd⟩,e⟩
 refine⟨?_, ?_, ?_, ?_⟩
 .rintro H b1 u c1 b2 J c2 (r | ⟨rfl,rfl,rfl,rfl⟩) (r' | ⟨e1,rfl,rfl,rfl⟩)
  .exact h.fn _ _ _ _ _ _ _ r r'
  .subst e1;exact absurd r (j _ _ _)
  .exact absurd r' (j _ _ _)
  .exact⟨rfl,rfl,rfl⟩
 .rintro H z b1 u c1 J c2 (r | ⟨rfl,rfl,rfl,rfl⟩) (r' | ⟨rfl,e2,rfl,rfl⟩) l l'
  .have m:H≠n.next:=fun e=>by subst e;exact j _ _ _ r
   have K:z≠n.next:=fun e=>by subst e;exact j _ _ _ r'
   exact h.inj _ _ _ _ _ _ _ r r' (R _ l m).1 (R _ l' K).1
  .subst e2;have m:H≠n.next:=fun e=>by subst e;exact j _ _ _ r
   obtain⟨q,v⟩:=R _ l m;exact absurd (h.inj _ _ _ _ _ _ _ r hR q hl) v
  .have m:z≠n.next:=fun e=>by subst e;exact j _ _ _ r'
   obtain⟨q,v⟩:=R _ l' m;exact absurd (h.inj _ _ _ _ _ _ _ r' hR q hl) v
  .rfl
 .rintro H b1 u c1 L (r | ⟨rfl,rfl,rfl,rfl⟩) a
  .have m:H≠n.next:=fun e=>by subst e;exact j _ _ _ r
   simp only[t,if_neg m,y]at a;by_cases e:H=i
   .rw[if_pos e]at a;injection a with a;subst a;trivial
   .rw[if_neg e]at a;by_cases C:b1=b
    .subst C;have F: ¬Live n H:=fun q=>e (h.inj _ _ _ _ _ _ _ r hR q hl)
     cases L with
     | dead=>trivial
     | _=>exact absurd ⟨_,a,trivial⟩ F
    .rw[wput_other _ _ _ _ C];exact(h.obj _ _ _ _ _ r a).mono (s.sub_add _ _ _ _)
  .simp only[t,if_pos]at a;injection a with a;subst a
   rw[wput_same _ _ _ (h.lt _ _ _ _ hR).1];exact f
 .rintro H b1 u c1 (r | ⟨rfl,rfl,rfl,rfl⟩)
  .rw[wput_size];exact⟨(h.lt _ _ _ _ r).1,Nat.lt_succ_of_lt (h.lt _ _ _ _ r).2⟩
  .rw[wput_size];exact⟨(h.lt _ _ _ _ hR).1,Nat.lt_succ_self _⟩
theorem Ext.move {w:World}{b d c d' c':Nat}{x:Obj}{t1 t2:T AObj}(hR:s i b d c)(a:T.set 40 n.h i .dead=some t1)(f:T.set 40 t1 n.next g=some t2):
  Ext s n w (s.add n.next b d' c') ⟨t2,n.next+1⟩ (wput w b x) where
 sub:=s.sub_add _ _ _ _
 new A1 b1 d1 c1:=by
  rintro(r | ⟨rfl,rfl,rfl,rfl⟩)
  .exact .inl r
  .exact .inr (.inr ⟨_,_,_,hR⟩)
 newA A1 b1 d1 c1:=by
  rintro(r | ⟨rfl,rfl,rfl,rfl⟩)
  .exact .inl r
  .exact .inr (zK _)
 next:=Nat.le_succ _
 keepA A1 hA hk:=by
  show t2.get A1=_;rw[T.get_set _ _ _ _ _ f,if_neg (by omega),T.get_set _ _ _ _ _ a,if_neg (fun e=>by subst e;exact hk _ _ _ hR)]
 os:=rfl
 tape:=rfl
 output:=rfl
 size:=by rw[wput_size];omega
 keep k _ hk:=wput_other _ _ _ _ (fun e=>by subst e;exact hk _ _ _ hR)
theorem Rel.heap {R:Ren}{H:AH}{w a:World}(h:Rel R H w)(e:a.heap=w.heap):Rel R H a:=
 ⟨h.fn,h.inj,fun A b d c o r f=>by rw[e];exact h.obj A b d c o r f,fun A b d c r=>by rw[e];exact h.lt A b d c r⟩
theorem takeN_some: ∀(n:Nat) (l:List AV),n<=l.length->takeN n l=some (l.take n)
 | 0,l,_=>by simp[takeN]
 | n+1,[],hl=>by simp at hl
 | n+1,x::l,hl=>by simp only[takeN,takeN_some n l (by simpa using hl)];rfl
theorem subN_some: ∀(l:List AV) (o n:Nat),n=0\/o+n<=l.length->subN l o n=some ((l.drop o).take n)
 | l,0,n,hn=>by
  have:subN l 0 n=takeN n l:=by cases l<;>rfl
  rw[this,takeN_some n l (by omega)];simp
 | [],o+1,n,hn=>by
  have:n=0:=by simp at hn;omega
  subst this;simp[subN]
 | x::l,o+1,n,hn=>by
  simp only[subN];rw[subN_some l o n (by simp at hn;omega)];simp
theorem cell_heap {f:World}(e:f.heap=t.heap)(a:Addr):f.cell? a=t.cell? a:=by simp only[World.cell?,e]
theorem Rel.loadsW {b d c:Nat}{sz:Nat}(h:Rel s n t)(w:n.h.get i=some (.cells I k sz U))(hR:s i b d c){P:Program}{o H:Nat}{r:List AV}(hr:subN I o H=some r):
  ∃vs:List Value,(∀a:World,a.heap=t.heap->(loadCells ⟨b,d+o,none⟩ H).run P a= .ok vs.toArray a)/\VRL s r vs:=by
 obtain⟨p,C⟩:=subN_eq _ _ _ _ hr;obtain⟨arr,l,pre,l',z,u,x,h3,A,_⟩:=h.cellsAt w hR;have F:=jN I l' A;have q:VRL s r ((l'.drop o).take H):=by rw[p];exact(A.drop o).take H
 have m:((l'.drop o).take H).length=H:=by
  rw[qA,qK];omega
 refine⟨(l'.drop o).take H,fun a y=> ?_,q⟩;have hl:=run_loadCells_list (P:=P) a ⟨b,d+o,none⟩ ((l'.drop o).take H) (fun j v f=>by
  have G:=(qN.1 f).1;rw[add_none,cell_heap y];simp only[World.cell?,u,Option.isSome_none,zL,qD];rw[jD (by omega),jE]at f;have R:o+j<l'.length:=(qN.1 f).1;rw[<-yM,x,j5 (by omega),show d+o+j - pre.length=o+j from by omega,yQ R];exact f)
 rw[m]at hl;exact hl
section
variable {P:Program}{X:Cx}(hX:Ok P X){R:Ren}{H:AH}{w:World}(hL:Rel R H w)
include hL in
theorem srcOf_ok {n:Nat}(x:srcOf i h H=some (n,I))(sz:VR R h C):
  (∀f,(Builtin.lenOf C).run P f= .ok n f)/\I.length=n*i/\ ∀m,m<=n-> ∃vs:List Value,(∀f:World,f.heap=w.heap->(Builtin.firstCells i m C).run P f= .ok vs.toArray f)/\VRL R (I.take (m*i)) vs:=by
 unfold srcOf at x;split at x
 .simp only[zB,zQ]at x;obtain⟨rfl,rfl⟩:=x;simp only[VR]at sz;subst sz;exact⟨fun _=>rfl,by simp,fun m hm=>⟨[],fun f _=>rfl,by simp[VRL]⟩⟩
 .simp only[zB,zQ]at x;obtain⟨rfl,rfl⟩:=x;obtain⟨a,c,rfl⟩:=sz;refine⟨fun _=>rfl,by simp,fun m hm=>⟨[],fun f _=> ?_,by simp[VRL]⟩⟩;obtain rfl:m=0:=by omega
  simp only[Builtin.firstCells,Nat.zero_mul];rfl
 .rename_i A off k cc;split at x
  .rename_i l e z g q;split at x
   .rename_i cs t;simp only[zB,zQ]at x;obtain⟨rfl,rfl⟩:=x;obtain⟨b,d,c,hr,rfl⟩:=sz;obtain⟨o,new⟩:=subN_eq _ _ _ _ t;refine⟨fun _=>rfl, ?_,fun m hm=> ?_⟩
    .rw[o,qA,qK];omega
    .have p:m*i<=k*i:=yP _ hm;have j:=subN_some l off (m*i) (by omega);have u:(l.drop off).take (m*i)=cs.take (m*i):=by rw[o,List.take_take,Nat.min_eq_left p]
     rw[u]at j;obtain⟨vs',y,h5⟩:=hL.loadsW q hr (P:=P) j;exact⟨vs',y,h5⟩
   .simp at x
  .simp at x
 .rename_i k b;simp only[zF,zX]at x;split at x
  .rename_i j;subst j;simp only[zB,zQ]at x;obtain⟨rfl,rfl⟩:=x;obtain⟨s,rfl,rfl,rfl⟩:=sz;have hb:=bytesOf_ok (R:=R) s.data.toList;rw[size_data]at hb;refine⟨fun _=>rfl, ?_,fun m hm=> ?_⟩
   .have:=jN _ _ hb;simp[size_data]at this;omega
   .refine⟨((s.extract 0 m).data.map fun b=>Value.int .u8 (b.toNat:Int)).toList,fun f _=>rfl, ?_⟩;have e:((s.extract 0 m).data.map fun b=>Value.int .u8 (b.toNat:Int)).toList=(s.data.toList.map (fun b=>Value.int .u8 (b.toNat:Int))).take m:=by
     rw[Array.toList_map,Lib.extract_data];simp[List.map_take]
    rw[e,Nat.mul_one];exact hb.take m
  .simp at x
 .simp at x
def Does (P:Program)(s:Sem Value)(R:Ren)(H:AH)(w:World)(v:AV)(H':AH):Prop:=
 ∃(a:Ren) (f:World) (z:Value),s.run P w= .ok z f/\VR a v z/\Rel a H' f/\Ext R H w a H' f
theorem zeroOk_ok {z:Option Value}(h:zeroOk i z=true): ∃a,z=some a/\a.cells.size=i/\0<i/\ ∃f,ofV a=some f:=by
 unfold zeroOk at h;split at h
 .rename_i a;split at h
  .rename_i f sz;simp only[zE,q9,zX,lenL_zero]at h;have:=jN _ _ (cells_ok (ofV_ok (fun _ _ _ _=>False) a f sz));rw[yN]at this;exact⟨a,rfl,by omega,h.1,f,sz⟩
  .simp at h
 .simp at h
theorem zeroCells_size (z:Array Value)(n:Nat):(Builtin.zeroCells z n).size=n*z.size:=by simp[Builtin.zeroCells]
theorem zc_list (z:Array Value): ∀n,(Builtin.zeroCells z n).toList=(List.replicate n z.toList).flatten:=by
 intro n;rcases Nat.eq_zero_or_pos z.size with a | h
 .have:z= #[]:=Array.eq_empty_of_size_eq_zero a;subst this;simp[Builtin.zeroCells]
 induction n with
 | zero=>simp[Builtin.zeroCells]
 | succ n ih=>
  rw[List.replicate_succ',List.flatten_append,<-ih];simp only[Builtin.zeroCells,Array.toList_map,Array.toList_range,List.flatten_cons,List.flatten_nil,qG];rw[jI,List.range_add,List.map_append];congr 1;apply List.ext_getElem
  .simp
  .intro i j f;have hi:i<z.size:=by simpa using f
   simp only[List.getElem_map,List.getElem_range,Array.getElem_toList];rw[Nat.mul_comm n z.size,Nat.mul_add_mod,Nat.mod_eq_of_lt hi,getElem!_pos z i hi]
theorem zeroCells_ok (R:VR s h C)(n:Nat):VRL s (rep n (cellsA h)) (Builtin.zeroCells C.cells n).toList:=by
 have i:=cells_ok R;rw[zc_list,rep_eq]
 induction n with
 | zero=>simp[VRL]
 | succ n ih=>simp only[List.replicate_succ,List.flatten_cons];exact i.append ih
theorem grow_ok {ty e:TypeId}{a:TypeInfo}{n sLen sCap:Nat}{base:Option Addr}{xv:Value}{oldA:List AV}{oldV newV:List Value}
  (hL:Rel R H w) (y:AppSrc P w k W ty e a C xv n newV.toArray) (u:C.cells.size=a.size) (J: ∃M,ofV C=some M)
  (N: ∀p,p.heap=w.heap->(Builtin.firstCells a.size sLen (.slice base sLen sCap)).run P p= .ok oldV.toArray p) (K:sCap<sLen+n) (m:roomy (sLen+n) a.bytes=true)
  (s:VRL R oldA oldV) (x:VRL R I newV) (z:(oldA++I).length=(sLen+n)*a.size) (f:agrow (sLen+n) e a.size (oldA++I) H=some (h,E)):
  Does P (Builtin.append_ #[k,W] ty #[.slice base sLen sCap,xv]) R H w h E:=by
 simp only[roomy,zE,qO,q9]at m;obtain⟨cap,Q,L,t⟩:=y.grows base sLen sCap _ N K m.1 m.2;unfold agrow at f;split at f
 .rename_i A S F;obtain⟨T,q,rfl,rfl,_⟩:=newA_eq F
  .simp only[fN_eq,zB,zQ]at f;obtain⟨rfl,rfl⟩:=f;have G:=jN _ _ (s.append x);have O:Rel R H w.drew:=hL.drew _;refine⟨R.add H.next w.heap.size 0 cap,_,_,t, ?_, ?_, ?_⟩
   .exact⟨w.heap.size,0,cap,R.add_self _ _ _ _,by rw[decap_odd _ (by omega)];simp⟩
   .refine O.new q ?_;refine⟨_,(0,0),[],oldV++newV,(Builtin.zeroCells C.cells (cap - (sLen+n))).toList,rfl,by simp,rfl,VRL.mono (R.sub_add _ _ _ _) _ _ (s.append x),fun j=>by simp at j,fun _=>⟨?_,L⟩,fun _ i _=>by simp,_,zeroCells_ok (ofV_ok _ _ _ J.choose_spec) _⟩;rw[G,z,yN,zeroCells_size,u,<-yZ];congr 1;omega
   .exact(Ext.drew R H w _).trans (Ext.add (w:=w.drew) q)
 .simp at f
include hL in
theorem app1_ok {ty e:TypeId}{sv:TypeInfo}{newV:List Value}{xv:Value}(o:AppSrc P w k W ty e sv C xv i newV.toArray)(Q:C.cells.size=sv.size)(S: ∃za,ofV C=some za)(b0:0<sv.size)
  (v:VRL R I newV) (G:I.length=i*sv.size) (a0:allCells I=true) (s:app1 e sv.size sv.bytes i I h H=some (p,n)) (K:VR R h f):
  Does P (Builtin.append_ #[k,W] ty #[f,xv]) R H w p n:=by
 have b4:=jN _ _ v;unfold app1 at s;split at s
 .simp only[VR]at K;subst K;simp only[zF,zX]at s;split at s
  .rename_i new;subst new;simp only[zB,zQ]at s;obtain⟨rfl,rfl⟩:=s;exact⟨R,w, .slice none 0 0,o.fits none 0 0 w (zK _) rfl,rfl,hL,jX R H w⟩
  .rename_i new;unfold appGrow at s;simp only[zF]at s;split at s
   .rename_i t;have:=grow_ok (P:=P) (ty:=ty) (sLen:=0) (sCap:=0) (base:=none) (xv:=xv) (oldA:=[]) (oldV:=[]) (n:=i) hL o Q S (fun m _=>rfl) (by omega) (by rw[yU];exact t) rfl v (by simp[G]) (by rw[yU];exact s);exact this
   .simp at s
 .obtain⟨a,c,rfl⟩:=K;simp only[zF,zX]at s;split at s
  .rename_i new;subst new;simp only[zB,zQ]at s;obtain⟨rfl,rfl⟩:=s;have b5:newV=[]:=by
    have:newV.length=0:=by rw[b4,G];simp
    exact zR this
   subst b5;exact⟨R,w, .slice (some a) 0 c,o.fits (some a) 0 c w (by omega) rfl,⟨a,c,rfl⟩,hL,jX R H w⟩
  .simp at s
 .rename_i A off len cc;obtain⟨b,d,c,hr,rfl⟩:=K;split at s
  .rename_i l e' b7 g y;unfold app2 at s;simp only[zF]at s;split at s
   .rename_i M;rw[qO]at M;unfold appIn at s;split at s
    .rename_i l' O;split at s
     .rename_i H1 j;simp only[fN_eq,zB,zQ]at s;obtain⟨rfl,rfl⟩:=s;unfold putA at j;split at j
      .rename_i t' b8;simp only[zB]at j;subst j;obtain⟨O,b9⟩:=setW_eq (by rw[zF];exact O);obtain⟨m,h1,h2,h3⟩:=hL.stores y hr (P:=P) O b9 v a0 b8;have c2:=roomOf_ok hL y hr b0 (off:=off) (cc:=cc);refine⟨R,m,_,o.fits (some ⟨b,d+off,none⟩) _ _ _ (by omega) ?_,⟨b,d,c,hr,rfl⟩,h2,h3⟩;simp only[add_none,Nat.add_assoc];exact h1
      .simp at j
     .simp at s
    .simp at s
   .rename_i M;rw[qO]at M;split at s
    .rename_i N;rw[zX]at N;unfold appGrow at s;simp only[zF]at s;split at s
     .rename_i t;split at s
      .rename_i old hold;obtain⟨oldV,T,U⟩:=hL.loadsW y hr (P:=P) hold;obtain⟨L,e2⟩:=subN_eq _ _ _ _ hold;have c6:roomOf l g b7 off cc sv.size=cc / 2:=by
        unfold roomOf;rw[zF,if_pos (by rw[zX];exact N)]
       have V:old.length=len*sv.size:=by rw[L,qA,qK];omega
       exact grow_ok (P:=P) (ty:=ty) hL o Q S (fun m Y=>T m Y) (by rw[decap_even c N];omega) t U v (by rw[zT,V,G,yZ]) s
      .simp at s
     .simp at s
    .rename_i F;rw[zX]at F;split at s
     .rename_i a9;simp only[zE,zX]at a9;obtain⟨⟨⟨⟨hg,b6⟩,rfl⟩,rfl⟩,c3⟩:=a9;subst hg;rw[lenL_zero]at b6;split at s
      .rename_i H1 j;unfold putA at j;split at j
       .rename_i t1 J;simp only[zB]at j;subst j;unfold appGrow at s;simp only[zF]at s;split at s
        .rename_i t;split at s
         .rename_i old hold;obtain⟨L,e2⟩:=subN_eq _ _ _ _ hold;have V:old.length=len*sv.size:=by rw[L,qA,qK];omega
          by_cases b1:len+i<=decap cc c
          ·
           rw[decap_odd c F]at b1;unfold agrow at s;split at s
           .rename_i A2 H2 b3;obtain⟨t2,b2,rfl,rfl,_⟩:=newA_eq b3
            .simp only[fN_eq,zB,zQ]at s;obtain⟨rfl,rfl⟩:=s;obtain⟨arr,Z,pre,l',q,a1,a2,a3,a4,a5,a6,a7,c7,a8⟩:=hL.cellsAt y hr;have c8:=jN _ _ a4;have c9:=(a6 rfl).1;have d0:arr.size=d+l'.length+q.length:=by
              have:=congrArg List.length a2;simp at this;omega
             have c4:(cc / 2+len+i)*sv.size<=c*sv.size:=yP _ (by omega);have c5:(cc / 2+len+i)*sv.size=cc / 2*sv.size+len*sv.size+i*sv.size:=by rw[yZ,yZ]
             have d1:i*sv.size<=q.length:=by omega
             have c0:=run_storeCells (P:=P) e Z b (d+off+len*sv.size) newV 0 w arr a1 (by omega) (allCells_ok v a0) (a7 b0);have c1:=hL.move (d':=d+off) (c':=c - cc / 2) (x:= .cells (arrSet arr (d+off+len*sv.size+0) newV) e Z) hr (Rel.live y) J b2 ?_
             .refine⟨_,_,_,o.fits (some ⟨b,d+off,none⟩) _ _ _ (by rw[decap_odd c F];exact b1) ?_, ?_,c1,Ext.move hr J b2⟩
              .simp only[add_none];exact c0
              .exact⟨b,d+off,c - cc / 2,R.add_self _ _ _ _,by rw[decap_odd c F,decap_odd _ (by omega)];simp⟩
             .refine⟨_,Z,pre++l'.take off,l'.drop off++newV,q.drop (i*sv.size),rfl, ?_, ?_, ?_,fun s=>by simp at s,fun _=>⟨?_,by have:=(a6 rfl).2;omega⟩,fun hz u hi=> ?_,_,VRL.mono (R.sub_add _ _ _ _) _ _ (a8.drop (i*sv.size))⟩
              .rw[arrSet_toList _ _ _ (by omega),a2];have f1:(pre++(l'++q)).take (d+off+len*sv.size+0)=pre++l':=by
                rw[List.take_append,zW (by omega),List.take_append,zW (by omega)];rw[show d+off+len*sv.size+0 - pre.length - l'.length=0 from by omega];simp
               have f2:(pre++(l'++q)).drop (d+off+len*sv.size+0+newV.length)=q.drop (i*sv.size):=by
                rw[List.drop_append,qQ (by omega),List.drop_append,qQ (by omega)];rw[show d+off+len*sv.size+0+newV.length - pre.length - l'.length=i*sv.size from by omega];simp
               rw[f1,f2];simp only[qC];rw[<-qC (List.take off l'),qR]
              .simp;omega
              .have:old=l.drop off:=by rw[L,zW (by rw[qK];omega)]
               rw[this];exact VRL.mono (R.sub_add _ _ _ _) _ _ ((a4.drop off).append v)
              .simp only[zT,qK,Nat.sub_mul];omega
              .rw[arrSet_size]at hi;exact a7 hz u hi
           .simp at s
          .obtain⟨oldV,T,U⟩:=hL.loadsW y hr (P:=P) hold;have hK:=hL.kill J;obtain⟨R',m,z,g1,g2,g3,g4⟩:=grow_ok (P:=P) (ty:=ty) (sLen:=len) (sCap:=decap cc c) (base:=some ⟨b,d+off,none⟩) (n:=i) (xv:=xv) hK o Q S (fun m Y=>T m Y) (by omega) t U v (by rw[zT,V,G,yZ]) s;exact⟨R',m,z,g1,g2,g3,(Ext.kill hr J).trans g4⟩
         .simp at s
        .simp at s
       .simp at j
      .simp at s
     .simp at s
  .simp at s
 .simp at s
include hX hL in
theorem aappend_ok {ty:TypeId}(u:aappend X k h p H=some (L,n))(K:X.und W=some c)(y: ∀t,c≠ .int t)(x:VR R h C)(M:VR R p f):
  Does P (Builtin.append_ #[k,W] ty #[C,f]) R H w L n:=by
 unfold aappend at u;split at u
 .rename_i e hd;split at u
  .rename_i O z;have hi:=hX.ty _ _ z;simp only[zF]at u;split at u
   .rename_i N;obtain⟨Q,v,F,o,G⟩:=zeroOk_ok N;split at u
    .rename_i i new s;obtain⟨q,I,j⟩:=srcOf_ok (P:=P) hL s M;split at u
     .rename_i m;obtain⟨newV,J,a⟩:=j i (zK _);rw[zW (by omega)]at a;exact app1_ok hL (AppSrc.plain (hX.run_und hd w) (hX.run_und K w) y hi v (q w) J) F G o a I m u x
     .simp at u
    .simp at u
   .simp at u
  .simp at u
 .simp at u
theorem allCells_append: ∀(l m:List AV),allCells l=true->allCells m=true->allCells (l++m)=true
 | [],m,_,h=>h
 | x::l,m,h,k=>by simp only[allCells,zE]at h;simp only[qB,allCells,h.1,allCells_append l m h.2 k,qJ]
theorem allCells_rep (l:List AV)(h:allCells l=true): ∀n,allCells (rep n l)=true
 | 0=>rfl
 | n+1=>by simp only[rep];exact allCells_append _ _ h (allCells_rep l h n)
include hX hL in
theorem aappZ_ok {ty:TypeId}{t:IntKind}(u:aappZ X k h p H=some (L,n))(K:X.und W=some (.int t))(x:VR R h C)(y:VR R p f):
  Does P (Builtin.append_ #[k,W] ty #[C,f]) R H w L n:=by
 unfold aappZ at u;split at u
 .rename_i e hd;split at u
  .rename_i M v;have hi:=hX.ty _ _ v;split at u
   .rename_i z N;simp only[zF]at u;split at u
    .rename_i F;obtain⟨O,m,o,j,G⟩:=zeroOk_ok F;split at u
     .rename_i xv;split at u
      .rename_i a;simp only[zE,qO,q9]at a;simp only[VR]at y;have I:f= .int .i64 (xv:Int):=y;subst I;obtain⟨Q,S,q,i,h3⟩:=hX.zero R N;rw[hi]at q;injection q with q;subst q
       rw[m]at i;injection i with i;subst i
       have s:=zeroCells_ok h3 xv;have hl:=jN _ _ s;have J:(rep xv (cellsA z)).length=xv*M.size:=by
        rw[<-hl,yN,zeroCells_size,o]
       exact app1_ok hL (newV:=(Builtin.zeroCells O.cells xv).toList) (by rw[Array.toArray_toList];exact AppSrc.zeros (hX.run_und hd w) (hX.run_und K w) hi m j a.1.2 a.1.1) o G j s J (allCells_rep _ a.2 xv) u x
      .simp at u
     .simp at u
    .simp at u
   .simp at u
  .simp at u
 .simp at u
end
def DoesN (P:Program)(s:Sem Next)(R:Ren)(H:AH)(w:World)(v:AV)(H':AH):Prop:=
 ∃(f:Ren) (a:World) (z:Value),(s.run P w= .ok (.value z) a\/(s.run P w= .ok .skip a/\z=undef))/\VR f v z/\Rel f H' a/\Ext R H w f H' a
theorem Does.next {P:Sem Value}(R:Does q P s n t h E):DoesN q (do pure (Next.value (← P))) s n t h E:=by
 obtain⟨a,f,z,i,j⟩:=R;exact⟨a,f,z, .inl (run_val i),j⟩
section
variable {P:Program}{X:Cx}(hX:Ok P X){R:Ren}{H:AH}{w:World}(hL:Rel R H w)
include hX hL
theorem astore_ok (t:astore X k h p H=some n)(hp:VR R h C)(m:VR R p f):
  ∃a,(Instr.storeAt k C f).run P w= .ok () a/\Rel R n a/\Ext R H w R n a:=by
 unfold astore at t;split at t
 .rename_i A off;split at t
  .rename_i l e sz g u;split at t
   .rename_i j v;simp only[zF]at t;split at t
    .rename_i i;simp only[zE,zX,lenL_zero,q9]at i;split at t
     .rename_i l' o;unfold putA at t;split at t
      .rename_i y q;simp only[zB]at t;subst t;obtain⟨b,d,c,hr,rfl⟩:=hp;have s:=jN _ _ (cells_ok m);rw[yN]at s;obtain⟨a,x,z,h3⟩:=hL.stores u hr (P:=P) o i.2 (cells_ok m) i.1.2 q;refine⟨a, ?_,z,h3⟩;simp only[Instr.storeAt,Instr.sureAddr,storeVar,zG,zJ,Result.andThen,hX.run_size v];rw[if_neg (by have:=i.1.1;simp;omega)];exact x
      .simp at t
     .simp at t
    .simp at t
   .simp at t
  .simp at t
 .simp at t
theorem acopy_ok {ty:TypeId}{ts:Array TypeId}(o:ts[0]? =some k)(t:acopy X k h p H=some (L,n))(u:VR R h C)(i:VR R p f):Does P (Builtin.copy_ ts ty #[C,f]) R H w L n:=by
 unfold acopy at t;split at t
 .rename_i e hd;have m:=hX.run_und hd w;split at t
  .rename_i sz q;have j:=hX.run_size q w;split at t
   .simp only[VR]at u;subst u;split at t
    .simp only[zB,zQ]at t;obtain⟨rfl,rfl⟩:=t;simp only[VR]at i;subst i;refine⟨R,w,goInt 0, ?_,rfl,hL,jX R H w⟩;simp[Builtin.copy_,o,zG,m,j,Builtin.lenOf,Builtin.firstCells,zJ]
    .simp only[zB,zQ]at t;obtain⟨rfl,rfl⟩:=t;obtain⟨b,d,c,hr,rfl⟩:=i;refine⟨R,w,goInt 0, ?_,rfl,hL,jX R H w⟩;have: ∀a:Addr,(loadCells a 0).run P w= .ok #[] w:=fun a=>rfl
     simp[Builtin.copy_,o,zG,m,j,Builtin.lenOf,Builtin.firstCells,zJ,this]
    .simp only[zB,zQ]at t;obtain⟨rfl,rfl⟩:=t;obtain⟨Y,rfl,v,F⟩:=i;refine⟨R,w,goInt 0, ?_,rfl,hL,jX R H w⟩;simp[Builtin.copy_,o,zG,m,j,Builtin.lenOf,Builtin.firstCells,zJ]
    .simp at t
   .rename_i A off len cc;split at t
    .rename_i xv new K;obtain⟨x,V,G⟩:=srcOf_ok (P:=P) hL K i;simp only at t;split at t
     .rename_i U J;obtain⟨Q,Z⟩:=takeN_eq _ _ _ J;simp only[zF]at t;split at t
      .rename_i I;split at t
       .rename_i l e' W g S;split at t
        .rename_i l' s;split at t
         .rename_i H1 z;simp only[fN_eq,zB,zQ]at t;obtain⟨rfl,rfl⟩:=t;unfold putA at z;split at z
          .rename_i t' N;simp only[zB]at z;subst z;obtain⟨b,d,c,hr,rfl⟩:=u;obtain⟨vs,O,y⟩:=G (Nat.min xv len) (Nat.min_le_left _ _);rw[<-Q]at y;obtain⟨s,q⟩:=setW_eq (by rw[zF];exact s);obtain⟨T,v,F,h3⟩:=hL.stores S hr (P:=P) s q y I N;refine⟨R,T,goInt (Nat.min xv len:Nat), ?_,rfl,F,h3⟩;have M:=O w rfl;simp only[Builtin.copy_,o,zG,m,j,Result.andThen,List.getElem?_toArray,List.getElem?_cons_zero,yY,x,M,v,zJ]
          .simp at z
         .simp at t
        .simp at t
       .simp at t
      .simp at t
     .simp at t
    .simp at t
   .simp at t
  .simp at t
 .simp at t
theorem simE {fr:Frame}(f:EnvR R l i fr.tmps)(v:aE X l H V.op=some (h,n)):DoesN P (execOp fr.eval V) R H w h n:=by
 obtain⟨dst,op,ty,pos,after,guard⟩:=V;simp only at v;unfold aE at v;split at v
 .rename_i t a x;unfold eStore at v;split at v
  .rename_i p hp;split at v
   .rename_i y Z;split at v
    .rename_i H1 o;simp only[zB,zQ]at v;obtain⟨rfl,rfl⟩:=v;obtain⟨env,j,m,h3⟩:=astore_ok hX hL o (opd_ok f _ _ hp) (opd_ok f _ _ Z);refine⟨R,env,undef, .inr ⟨?_,rfl⟩,⟨[],rfl,rfl⟩,m,h3⟩;simp only[execOp,zG,j,Result.andThen];rfl
    .simp at v
   .simp at v
  .simp at v
 .unfold c3 at v;split at v
  .rename_i a q;split at v
   .rename_i b hb;split at v
    .rename_i c N;unfold aup at v;split at v
     .rename_i kt U L;split at v
      .rename_i ks Q;obtain⟨rfl,env,j,m,h3⟩:=upM_ok hX hL L Q v (opd_ok f _ _ q) (opd_ok f _ _ hb) (opd_ok f _ _ N);refine⟨R,env,undef, .inr ⟨?_,rfl⟩,⟨[],rfl,rfl⟩,m,h3⟩;simp only[execOp,zG,j,Result.andThen];rfl
      .simp at v
     .simp at v
    .simp at v
   .simp at v
  .simp at v
 .rename_i c;split at v
  .rename_i b N;obtain⟨callee,args,J⟩:=c;simp only at N v;subst N;unfold eBuiltin at v;split at v
   .split at v
    .rename_i s x G;split at v
     .rename_i t u F;unfold eAppend at v;split at v
      .rename_i a q;split at v
       .rename_i b hb;have C:args.map fr.eval= #[fr.eval s,fr.eval x]:=by apply Array.toList_inj.1;simp[G]
        have T:J= #[t,u]:=by apply Array.toList_inj.1;simp[F]
        have S: ∀O,X.und u=some O->(∀k,O≠ .int k)->aappend X t a b H=some (h,n)->DoesN P (execOp fr.eval { dst,op:= .call { callee:= .builtin .append,args,argTypes:=J},type:=ty,pos,after,guard}) R H w h n:=by
         intro O I W Y;obtain⟨M,env,z,j,m⟩:=aappend_ok (P:=P) (ty:=ty) hX hL Y I W (opd_ok f _ _ q) (opd_ok f _ _ hb);refine⟨M,env,z, .inl ?_,m⟩;simp only[execOp,resolve,invoke,builtin,C,T,zG,zJ,Result.andThen,j]
        split at v
        .rename_i O I;exact S _ I (by simp) v
        .rename_i I;exact S _ I (by simp) v
        .rename_i k I;obtain⟨M,env,z,j,m⟩:=aappZ_ok (P:=P) (ty:=ty) hX hL v I (opd_ok f _ _ q) (opd_ok f _ _ hb);refine⟨M,env,z, .inl ?_,m⟩;simp only[execOp,resolve,invoke,builtin,C,T,zG,zJ,Result.andThen,j]
        .simp at v
       .simp at v
      .simp at v
     .simp at v
    .simp at v
   .split at v
    .rename_i s x G;split at v
     .rename_i t ts F;unfold eCopy at v;split at v
      .rename_i a q;split at v
       .rename_i b hb;have C:args.map fr.eval= #[fr.eval s,fr.eval x]:=by apply Array.toList_inj.1;simp[G]
        have K:J[0]? =some t:=by rw[<-yM,F];rfl
        obtain⟨M,env,z,j,m⟩:=acopy_ok (P:=P) (ty:=ty) hX hL K v (opd_ok f _ _ q) (opd_ok f _ _ hb);refine⟨M,env,z, .inl ?_,m⟩;simp only[execOp,resolve,invoke,builtin,C,zG,zJ,Result.andThen,j]
       .simp at v
      .simp at v
     .simp at v
    .simp at v
   .split at v
    .rename_i s x G;split at v
     .rename_i t ts F;unfold c2 at v;split at v
      .rename_i a q;split at v
       .rename_i b hb;have C:args.map fr.eval= #[fr.eval s,fr.eval x]:=by apply Array.toList_inj.1;simp[G]
        have K:J[0]? =some t:=by rw[<-yM,F];rfl
        unfold adl at v;split at v
        .rename_i kt U L;split at v
         .rename_i ks Q;obtain⟨rfl,env,j,m,h3⟩:=dlM_ok (ty:=ty) hX hL K L Q v (opd_ok f _ _ q) (opd_ok f _ _ hb);refine⟨R,env,_, .inl ?_,⟨[],rfl,rfl⟩,m,h3⟩;simp only[execOp,resolve,invoke,builtin,C,zG,zJ,Result.andThen,j]
         .simp at v
        .simp at v
       .simp at v
      .simp at v
     .simp at v
    .simp at v
   .split at v
    .rename_i s G;split at v
     .rename_i t ts F;unfold c1 at v;split at v
      .rename_i a q;have C:args.map fr.eval= #[fr.eval s]:=by apply Array.toList_inj.1;simp[G]
       have K:J[0]? =some t:=by rw[<-yM,F];rfl
       unfold acl at v;split at v
       .rename_i kt U L;obtain⟨rfl,env,j,m,h3⟩:=clM_ok (ty:=ty) hX hL K L v (opd_ok f _ _ q);refine⟨R,env,_, .inl ?_,⟨[],rfl,rfl⟩,m,h3⟩;simp only[execOp,resolve,invoke,builtin,C,zG,zJ,Result.andThen,j]
       .simp at v
      .simp at v
     .simp at v
    .simp at v
   .simp at v
  .simp at v
 .simp at v
end
theorem VR_undef (R:Ren):VR R undefA undef:=by
 simp only[undefA,VR];exact⟨[],rfl,rfl⟩
def Out (k:List Item):AExit->List Item->Prop
 | .normal,td=>td=k
 | .exit id,td=> ∃k',td= .code (.exit id)::k'/\exitTo id k'=exitTo id k
 | .ret,td=> ∃k',td= .code .ret::k'
def SimCode (P:Program)(nt:Nat)(c:Code)(env:Env)(H:AH)(j:AExit)(env':Env)(H':AH):Prop:=
 ∀(R:Ren) (fr:Frame) (k:List Item) (cs:List Frame) (w:World),fr.mode= .run->fr.todo= .code c::k->EnvR R env nt fr.tmps->Rel R H w->
  ∃a f h i,Steps P (lone fr cs w) (lone { fr with tmps:=h,todo:=i} cs f)/\Out k j i/\EnvR a env' nt h/\Rel a H' f/\Ext R H w a H' f
def SimIn (P:Program)(f:FuncId)(args:List AV)(H:AH)(v:AV)(H':AH):Prop:=
 (∃j,P.funcs[f]? =some j/\j.body.isSome=true)/\
 ∀(R:Ren) (m:List Value) (cs:List Frame) (w:World),VRL R args m->Rel R H w->
  ∃i a z h,Steps P (lone (Frame.enter P f ⟨m⟩ .normal) cs w) (lone h cs a)/\h.fn=f/\h.leaving P a (.returned z)/\VR i v z/\Rel i H' a/\Ext R H w i H' a
def SimDir (P:Program)(f:FuncId)(args:List AV)(H:AH)(v:AV)(H':AH):Prop:=
 ∀(R:Ren) (i:List Value) (w:World),VRL R args i->Rel R H w->
  ∃a h z,(callFunc f ⟨i⟩).run P w= .ok (.value z) h/\VR a v z/\Rel a H' h/\Ext R H w a H' h
def SimCall (P:Program)(f:FuncId)(args:List AV)(H:AH)(v:AV)(H':AH):Prop:=H.next<=H'.next/\(SimIn P f args H v H'\/SimDir P f args H v H')
def SimYld (P:Program)(A:Nat)(args:List AV)(H:AH)(v:AV)(H':AH):Prop:=
 H.next<=H'.next/\ ∀(R:Ren) (f:List Value) (fr:Frame) (cs:List Frame) (w:World) (b d c:Nat),R A b d c->VRL R args f->Rel R H w->
  ∃L:Loop,w.heap[b]? =some (.loop L)/\f.length=L.params.size/\
   ∃h i z,Steps P (lone (Frame.round b L.fn ((L.params.zip f.toArray).foldl (fun j (t,a)=>j.setIfInBounds t a) L.tmps) L.assign L.body .normal) (fr::cs) w) (lone (fr.finish z) cs i)/\VR h v z/\Rel h H' i/\Ext R H w h H' i
structure Good (P:Program)(r:Fns):Prop where
 call: ∀f args H v H',r.call f args H=some (v,H')->SimCall P f args H v H'
 yld: ∀A args H v H',r.yld A args H=some (v,H')->SimYld P A args H v H'
theorem want_ok (h:EnvR s l i F)(hb:wantA v l V=some U):Region.wanted V (yielded v F)=U:=by
 unfold wantA at hb;unfold Region.wanted;split at hb
 .rename_i env;simp only[zB]at hb;subst hb;simp[env]
 .rename_i j R env;simp only[env];unfold wantG at hb;simp only[yielded];rw[nthO_eq,yM]at hb
  cases u:v[j]? with
  | none=>rw[u]at hb;simp only[zB]at hb;subst hb;simp
  | some p=>
   rw[u]at hb;simp only[yD]at hb⊢
   cases t:p.dst with
   | none=>rw[t]at hb;simp only[zB]at hb;subst hb;simp
   | some d=>
    rw[t]at hb;simp only at hb;split at hb
    .rename_i x m;simp only[zB]at hb;subst hb;have z:d<i:=by
      rcases Nat.lt_or_ge d i with q | q
      .exact q
      .rw[h.out d q]at m;simp at m
     have y:d<F.size:=by rw[h.size];exact z
     simp only[yD,Array.getElem?_eq_getElem y];have a:=h.get d x m;have C:F.getD d undef=F[d]:=by
      rw[qW,Array.getElem?_eq_getElem y];rfl
     rw[C]at a;generalize F[d]=n at a
     cases x<;>first
      | (simp only[VR]at a;subst a;simp[isW];done)
      | (simp only[VR]at a;subst a;cases R<;>simp[isW,BEq.beq];done)
      | (obtain⟨_,rfl,_⟩:=a;simp[isW];done)
      | (obtain⟨_,_,rfl⟩:=a;simp[isW];done)
      | (obtain⟨_,_,_,_,rfl⟩:=a;simp[isW];done)
      | (obtain⟨_,_,rfl,_⟩:=a;simp[isW];done)
      | (simp only[VR]at a;subst a;cases n<;>first | (simp[isW];done) | (rename_i U;cases R<;>cases U<;>simp[isW,BEq.beq];done))
      | exact absurd a (by simp[VR])
    .simp at hb
theorem wA_ok (hL:Rel s n t){R:Sem Value}{f:Nat->AV}(hm:MakesA s q R g f t)(H':wA n (some (g,f))=some (h,E)):Does q R s n t h E:=by
 unfold wA at H';simp only at H';split at H'
 .rename_i A P j;obtain⟨H,i,rfl,rfl,_⟩:=newA_eq j
  .simp only[zB,zQ]at H';obtain⟨rfl,rfl⟩:=H';obtain⟨x,c,k,z,m,o⟩:=hm;obtain⟨h3,p⟩:=o n.next
   refine⟨_,_,z,m,p,(hL.drew k).new i h3, ?_⟩;exact(Ext.drew s n t k).trans (Ext.add (w:= { t with drawn:=k}) i)
 .simp at H'
section
variable {P:Program}{X:Cx}(hX:Ok P X){r:Fns}(hr:Good P r)
def StepO (P:Program)(fr:Frame)(ops:Array Oper)(rest:List Nat)(k:List Item)(cs:List Frame)(o:Oper)(R:Ren)(H:AH)(w:World)(v:AV)(H':AH):Prop:=
 ∃a f z,Steps P (lone fr cs w) (lone { fr with tmps:=putT fr.tmps o.dst z,todo:= .inRegion ops rest::k} cs f)/\VR a v z/\Rel a H' f/\Ext R H w a H' f
theorem stepO_of_does {fr:Frame}{k:List Item}{cs:List Frame}
  (hm:fr.mode= .run) (f:fr.todo= .inRegion v (i::A)::k) (j:v[i]? =some V) (m:Region.wanted V (yielded v fr.tmps)=true) (hd: ∀c,V.op≠ .defer c) (rest:DoesN P (execOp fr.eval V) s n t h E):StepO P fr v A k cs V s n t h E:=by
 obtain⟨p,q,z,a,ops⟩:=rest;refine⟨p,q,z, ?_,ops⟩;rw[<-finish_region f j];rcases a with a | ⟨a,rfl⟩
 .exact .one (st_value hm f j m hd a)
 .exact .one (st_skipped hm f j m hd a)
include hX hr in
theorem opF_ok {fr:Frame}{k:List Item}{cs:List Frame}{w:World}{nt:Nat}
  (hm:fr.mode= .run) (j:fr.todo= .inRegion v (i::A)::k) (m:v[i]? =some V) (u:Region.wanted V (yielded v fr.tmps)=true) (p:EnvR s l nt fr.tmps) (hL:Rel s n w)
  (R:opF X r l n V.op=some (h,E)):StepO P fr v A k cs V s n w h E:=by
 have hd: ∀c,V.op≠ .defer c:=by
  intro c q;rw[q]at R;simp[opF,cls,aE]at R
 unfold opF at R;split at R
 .unfold wV at R;split at R
  .rename_i x W;simp only[zB,zQ]at R;obtain⟨rfl,rfl⟩:=R;obtain⟨z,N,O⟩:=simP hX hL.fn (w:=w) p W;exact stepO_of_does hm j m u hd ⟨s,w,z, .inl N,O,hL,jX s n w⟩
  .simp at R
 .unfold wV at R;split at R
  .rename_i x W;simp only[zB,zQ]at R;obtain⟨rfl,rfl⟩:=R;obtain⟨z,N,O⟩:=simL hX hL p W;exact stepO_of_does hm j m u hd ⟨s,w,z, .inl N,O,hL,jX s n w⟩
  .simp at R
 .have Y:=R;unfold wA at Y;split at Y
  .rename_i ob mk hA;obtain⟨o,hs,b3⟩:=simA hX (w:=w) p hA;rw[hA]at R;have:=(wA_ok hL b3 R).next
   rw[<-hs]at this;exact stepO_of_does hm j m u hd this
  .simp at Y
 .exact stepO_of_does hm j m u hd (simE hX hL p R)
 .unfold opF.callO at R;split at R
  .rename_i c F;split at R
   .rename_i f q;unfold opF.callV at R;split at R
    .rename_i g first cap Z
     split at R
     .rename_i az rest;obtain⟨y,C,T,N,O⟩:=opd_ok p _ _ Z
      have h3:=opds_ok p _ _ rest;have a1:VRL s (first++az++cap) ((y++c.args.toList.map fr.eval)++C):=(N.append h3).append O
      rcases(hr.call _ _ _ _ _ R).2 with⟨⟨fn,a5,b6⟩,a8⟩ | b0
      rotate_left
      .obtain⟨Q,G,z,a9,S,I,J⟩:=b0 s _ w a1 hL;have K:(execOp fr.eval V).run P w= .ok (.value z) G:=by
        obtain⟨dst,op,ty,a6,a2,a3⟩:=V;obtain⟨a0,args,a4⟩:=c;simp only at F q;subst F q;have M:(⟨y⟩:Array Value)++args.map fr.eval++⟨C⟩=⟨(y++args.toList.map fr.eval)++C⟩:=by
         apply Array.toList_inj.1;simp
        simp only[execOp,resolve,T,Deferred.ofValue,zG,zJ,Result.andThen,invoke,M];simpa using a9
       refine⟨Q,G,z, ?_,S,I,J⟩;rw[<-finish_region j m];exact .one (st_value hm j m u hd K)
      obtain⟨Q,G,z,b8,U,b7,a7,S,I,J⟩:=a8 s _ (fr::cs) w a1 hL;have K:(execOp fr.eval V).run P w= .ok (.enter g ⟨(y++c.args.toList.map fr.eval)++C⟩) w:=by
       obtain⟨dst,op,ty,a6,a2,a3⟩:=V;obtain⟨a0,args,a4⟩:=c;simp only at F q;subst F q;have b4:=hX.nm g fn a5;have hb:fn.body.isNone=false:=by cases hh:fn.body<;>simp_all
       have M:(⟨y⟩:Array Value)++args.map fr.eval++⟨C⟩=⟨(y++args.toList.map fr.eval)++C⟩:=by
        apply Array.toList_inj.1;simp
       simp only[execOp,resolve,T,Deferred.ofValue,zG,zJ,Result.andThen,invoke,callFunc,program,Sem.run,a5,b4,zL,qD,hb,M]
      refine⟨Q,G,z, ?_,S,I,J⟩;rw[<-finish_region j m];exact(Steps.one (st_enter hm j m u hd K)).trans (U.trans (.one (step_leave_returned a7)))
     .simp at R
    .rename_i ops Z;split at R
     .rename_i az rest;obtain⟨_,hy⟩:=hr.yld _ _ _ _ _ R;obtain⟨b,d,c0,b5,T⟩:=opd_ok p _ _ Z;have h3:=opds_ok p _ _ rest;obtain⟨L,hb,b1,Q,G,z,U,S,I,J⟩:=hy s _ fr cs w b d c0 b5 h3 hL;have K:(execOp fr.eval V).run P w= .ok (.round b L.fn ((L.params.zip (c.args.toList.map fr.eval).toArray).foldl (fun b2 (t,a)=>b2.setIfInBounds t a) L.tmps) L.assign L.body) w:=by
       obtain⟨dst,op,ty,a6,a2,a3⟩:=V;obtain⟨a0,args,a4⟩:=c;simp only at F q;subst F q;have M:(args.toList.map fr.eval).toArray=args.map fr.eval:=by apply Array.toList_inj.1;simp
       have:=run_yield (P:=P) (args:=args.map fr.eval) hb (by simpa using b1);simp only[execOp,resolve,T,Deferred.ofValue,zG,zJ,Result.andThen,invoke,M];simpa using this
      refine⟨Q,G,z, ?_,S,I,J⟩;rw[<-finish_region j m];exact(Steps.one (st_round hm j m u hd K)).trans U
     .simp at R
    .simp at R
   .simp at R
  .simp at R
end
section
variable {X:Cx}{env env':Env}
theorem opds_congr: ∀(xs:List Operand),(∀x∈xs,opd env x=opd env' x)->opds env xs=opds env' xs
 | [],_=>rfl
 | x::xs,h=>by
  simp only[opds];rw[h x (zH ..),opds_congr xs (fun y a=>h y (zC _ a))]
theorem parts_congr: ∀(a:List (Nat×Operand)),(∀x∈a.map (·.2),opd env x=opd env' x)->partsA env a=partsA env' a
 | [],_=>rfl
 | (i,x)::a,h=>by
  simp only[partsA];rw[h x (by simp),parts_congr a (fun y f=>h y (by simp at f⊢;exact .inr f))]
theorem opt_congr (x:Option Operand)(h: ∀y∈x.toArray.toList,opd env y=opd env' y):optOf env x=optOf env' x:=by
 cases x with
 | none=>rfl
 | some x=>simp only[optOf];rw[h x (by simp)]
theorem aP_congr (o:Op)(h: ∀x∈o.operands.toList,opd env x=opd env' x):aP X env o=aP X env' o:=by
 cases o<;>simp only[aP]<;>simp only[Op.operands]at h
 case move x=>exact h x (by simp)
 case assign x=>exact h x (by simp)
 case pick c a b=>simp only[pPick];rw[h c (by simp),h a (by simp),h b (by simp)]
 case build t ps=>simp only[pBuild];rw[parts_congr ps.toList (fun x j=>h x (by simpa using j))]
 case nilCheck x=>rw[h x (by simp)]
 case binOp op t x y t'=>rw[h x (by simp),h y (by simp)]
 case unOp op t x=>rw[h x (by simp)]
 case convert s d x=>rw[h x (by simp)]
 case makeFunc fn first cap=>
  cases fn<;>simp only[aP]
  simp only[pFunc];rw[opds_congr first.toList (fun x j=>h x (by simp;exact .inl (by simpa using j))),opds_congr cap.toList (fun x j=>h x (by simp;exact .inr (by simpa using j)))]
 case fieldAddr s x f=>rw[h x (by simp)]
 case field s x f=>rw[h x (by simp)]
 case indexAddr t x i=>rw[h x (by simp),h i (by simp)]
 case index t x i=>rw[h x (by simp),h i (by simp)]
 case sliceToArrayPointer t x=>rw[h x (by simp)]
 case extract x i=>rw[h x (by simp)]
 case call c=>
  have m: ∀x∈c.args.toList,opd env x=opd env' x:=fun x j=>h x (by simp[Call.operands];right;simpa using j)
  split<;>try rfl
  .split<;>try rfl
   rename_i x j;split<;>try rfl
   rw[m x (by rw[j];simp)]
  .split<;>try rfl
   rename_i x y j;rw[m x (by rw[j];simp),m y (by rw[j];simp)]
  .split<;>try rfl
   rename_i x y j;rw[m x (by rw[j];simp),m y (by rw[j];simp)]
theorem aL_congr (o:Op)(h: ∀x∈o.operands.toList,opd env x=opd env' x):aL X env n o=aL X env' n o:=by
 cases o<;>simp only[aL]<;>simp only[Op.operands]at h
 case load t a=>rw[h a (by simp)]
 case lookup t x k ok=>rw[h x (by simp),h k (by simp)]
 case slice t x lo hi mx=>
  simp only[lSlice];rw[h x (by simp),opt_congr lo (fun y f=>h y (by simp at f⊢;exact .inr (.inl f))),opt_congr hi (fun y f=>h y (by simp at f⊢;exact .inr (.inr (.inl f)))),opt_congr mx (fun y f=>h y (by simp at f⊢;exact .inr (.inr (.inr f))))]
 case convert s d x=>rw[h x (by simp)]
 case binOp op t x y p=>rw[h x (by simp),h y (by simp)]
 case call c=>
  split<;>try rfl
  split<;>try rfl
  rename_i x i;split<;>try rfl
  rw[h x (by
        simp[Call.operands];right;have:x∈c.args.toList:=by rw[i];simp
        simpa using this)]
theorem aA_congr (o:Op)(h: ∀x∈o.operands.toList,opd env x=opd env' x):aA X env o=aA X env' o:=by
 cases o<;>simp only[aA]<;>simp only[Op.operands]at h
 case box e x=>rw[h x (by simp)]
 case buildSlice t len ps=>simp only[aABuild];rw[parts_congr ps.toList (fun x a=>h x (by simpa using a))]
 case makeSlice t l c=>rw[h l (by simp),h c (by simp)]
 case convert s d x=>rw[h x (by simp)]
 case makeMap t r=>cases r<;>rfl
theorem aE_congr (o:Op)(h: ∀x∈o.operands.toList,opd env x=opd env' x):aE X env n o=aE X env' n o:=by
 cases o<;>simp only[aE]<;>simp only[Op.operands]at h
 case store t a x=>rw[h a (by simp),h x (by simp)]
 case mapUpdate t m k v=>rw[h m (by simp),h k (by simp),h v (by simp)]
 case call c=>
  split<;>try rfl
  rename_i b hb;have i: ∀x∈c.args.toList,opd env x=opd env' x:=fun x j=>h x (by simp[Call.operands];right;simpa using j)
  unfold eBuiltin;split
  .split<;>try rfl
   rename_i s x f;split<;>try rfl
   rw[i s (by rw[f];simp),i x (by rw[f];simp)]
  .split<;>try rfl
   rename_i s x f;split<;>try rfl
   rw[i s (by rw[f];simp),i x (by rw[f];simp)]
  .split<;>try rfl
   rename_i s x f;split<;>try rfl
   rw[i s (by rw[f];simp),i x (by rw[f];simp)]
  .split<;>try rfl
   rename_i s f;split<;>try rfl
   rw[i s (by rw[f];simp)]
  .rfl
theorem opF_congr {r:Fns}(o:Op)(h: ∀x∈o.operands.toList,opd env x=opd env' x):opF X r env n o=opF X r env' n o:=by
 unfold opF;split
 .rw[aP_congr o h]
 .rw[aL_congr o h]
 .rw[aA_congr o h]
 .rw[aE_congr o h]
 .cases o<;>try rfl
  case call c hcls=>
  simp only[opF.callO];simp only[Op.operands]at h;split<;>try rfl
  rename_i f a;rw[h f (by simp[Call.operands,a]),opds_congr c.args.toList (fun x i=>h x (by simp[Call.operands];right;simpa using i))]
end
def Grows (H a:AH):Prop:= ∀A o,H.h.get A=some o->a.h.get A=some o
theorem aL_grows (m:Grows n E)(o:Op)(env:aL Q l n o=some h):aL Q l E o=some h:=by
 have C: ∀t p h,aload Q t p n=some h->aload Q t p E=some h:=by
  intro t p h env;unfold aload at env⊢;split at env
  .rename_i A off;split at env
   .rename_i X e sz g f;rw[m _ _ f];exact env
   .simp at env
  .simp at env
 have F: ∀s d x h,aconvL Q s d x n=some h->aconvL Q s d x E=some h:=by
  intro s d x h env;unfold aconvL at env⊢;split at env
  .split at env
   .split at env
    .split at env
     .exact env
     .split at env
      .rename_i X L sz g f;rw[m _ _ f];exact env
      .simp at env
     .simp at env
    .simp at env
   .simp at env
  .simp at env
 have G: ∀t x h,alen Q t x n=some h->alen Q t x E=some h:=by
  intro t x h env;unfold alen at env⊢;split at env
  .exact env
  .exact env
  .exact env
  .exact env
  .exact env
  .exact env
  .split at env
   .rename_i ks es f;rw[m _ _ f];exact env
   .simp at env
  .simp at env
 have I: ∀ks z ok x k h,lkM ks z ok x k n=some h->lkM ks z ok x k E=some h:=by
  intro ks z ok x k h env;unfold lkM at env⊢;rw[zF]at env⊢;split at env
  .rename_i M;rw[if_pos M];split at env
   .exact env
   .split at env
    .rename_i N es f;rw[m _ _ f];exact env
    .simp at env
   .simp at env
  .simp at env
 have u: ∀A,liveA A n=true->liveA A E=true:=by
  intro A env;unfold liveA at env⊢;split at env
  .rename_i o f;rw[m _ _ f];exact env
  .simp at env
 have J: ∀j x y h,pNe j x y n=some h->pNe j x y E=some h:=by
  intro j x y h env;unfold pNe at env⊢;split at env
  .split at env
   .rw[zF]at env⊢;split at env
    .rename_i q;simp only[zE]at q;rw[if_pos (by simp only[zE];exact⟨u _ q.1,u _ q.2.1,q.2.2⟩)];exact env
    .simp at env
   .simp at env
  .simp at env
 have K: ∀j t x y h,abinL Q j t x y n=some h->abinL Q j t x y E=some h:=by
  intro j t x y h env;unfold abinL at env⊢;split at env
  .exact env
  .split at env
   .split at env
    .simp at env
    .exact J _ _ _ _ env
    .simp at env
   .simp at env
 cases o<;>simp only[aL]at env⊢ <;>try(simp at env;done)
 case binOp j t x y p=>
  unfold b2 at env⊢;split at env
  .split at env
   .exact K _ _ _ _ _ env
   .simp at env
  .simp at env
 case load t a=>
  unfold b1 at env⊢;split at env
  .exact C _ _ _ env
  .simp at env
 case lookup t x k ok=>
  unfold b2 at env⊢;split at env
  .split at env
   .unfold alook at env⊢;split at env
    .split at env
     .split at env
      .exact I _ _ _ _ _ _ env
      .simp at env
     .simp at env
    .simp at env
   .simp at env
  .simp at env
 case slice t x lo hi mx=>
  unfold lSlice at env⊢;split at env
  .split at env
   .split at env
    .split at env
     .unfold aslice at env⊢;split at env
      .split at env
       .exact env
       .exact env
       .split at env
        .split at env
         .rename_i X L O g f;rw[m _ _ f];exact env
         .simp at env
        .simp at env
       .exact env
       .exact env
       .exact env
       .simp at env
      .simp at env
     .simp at env
    .simp at env
   .simp at env
  .simp at env
 case convert s d x=>
  unfold b1 at env⊢;split at env
  .exact F _ _ _ _ env
  .simp at env
 case call c=>
  split at env
  .split at env
   .split at env
    .unfold b1 at env⊢;split at env
     .exact G _ _ _ env
     .simp at env
    .simp at env
   .simp at env
  .simp at env
theorem nodup_le: ∀(n:Nat) (l:List Nat),l.Nodup->(∀x∈l,x<n)->l.length<=n
 | 0,l,_,h=>by
  cases l with
  | nil=>simp
  | cons x l=>exact absurd (h x (zH ..)) (by omega)
 | n+1,l,hn,h=>by
  have f:=nodup_le n (l.erase n) (hn.erase n) (fun x a=>by
   have:=(List.Nodup.mem_erase_iff hn).1 a;have:=h x this.2;omega)
  have i:l.length<=(l.erase n).length+1:=by rw[List.length_erase];split<;>omega
  omega
theorem nodup_all (f:A.Nodup)(h: ∀x∈A,x<i)(hl:A.length=i): ∀n,n<i->n∈A:=by
 intro n hi;refine Classical.byContradiction fun j=> ?_
 have:=nodup_le i (n::A) (List.nodup_cons.2 ⟨j,f⟩) (fun x a=>by
  rcases zM.1 a with rfl | a
  .exact hi
  .exact h x a)
 simp at this;omega
def Valid (md:Region.Mode)(ops:Array Oper):List Nat->List Nat->Prop
 | _,[]=>True
 | done,j::rest=>j∉done/\j<ops.size/\(∀o,ops[j]? =some o-> ∀e∈o.after.toList,Region.binds md e=true->e.on∈done)/\Valid md ops (j::done) rest
def Listed (ops:Array Oper)(a:Array Bool)(f:List Nat):Prop:=a.size=ops.size/\ ∀i,a.getD i false=true↔i∈f/\i<ops.size
theorem ready_mem {md:Region.Mode}{ops:Array Oper}{a:Array Bool}{h:List Nat}(hl:Listed ops a h){j:Nat} :j∈Region.ready md ops a↔
  j<ops.size/\j∉h/\ ∀o,ops[j]? =some o-> ∀e∈o.after.toList,Region.binds md e=true->e.on∈h/\e.on<ops.size:=by
 have q: ∀i,i<ops.size->a.getD i true=a.getD i false:=by
  intro i hi;rw[qW,qW,Array.getElem?_eq_getElem (by rw[hl.1];exact hi)];rfl
 unfold Region.ready;rw[List.mem_filter,List.mem_range];constructor
 .rintro⟨h1,h2⟩
  rw[q j h1]at h2;simp only[zE,yS]at h2;refine⟨h1,fun m=> ?_,fun o f e p hb=> ?_⟩
  .have:=(hl.2 j).2 ⟨m,h1⟩;rw[this]at h2;simp at h2
  .rw[f]at h2;simp only[zY,yB,Array.all_eq_true_iff_forall_mem]at h2;have:=h2.2 e (by simpa using p);rw[hb]at this;simp only[Bool.not_true,Bool.false_or]at this;exact(hl.2 _).1 this
 .rintro⟨h1,h2,h3⟩
  refine⟨h1, ?_⟩;rw[q j h1];simp only[zE,yS];constructor
  .cases m:a.getD j false with
   | false=>rfl
   | true=>exact absurd ((hl.2 j).1 m).1 h2
  .have f:ops[j]? =some ops[j]:=Array.getElem?_eq_getElem h1;rw[f];simp only[zY,yB,Array.all_eq_true_iff_forall_mem];intro e p
   cases hb:Region.binds md e with
   | false=>rfl
   | true=>
    simp only[Bool.not_true,Bool.false_or];exact(hl.2 _).2 (h3 _ f e (by simpa using p) hb)
theorem listed_set {a:Array Bool}(hl:Listed v a A)(h:i<v.size):Listed v (a.setIfInBounds i true) (i::A):=by
 refine⟨by simp[hl.1],fun ops=> ?_⟩;rw[qW,Array.getElem?_setIfInBounds];by_cases e:i=ops
 .subst e;rw[if_pos rfl,if_pos (by rw[hl.1];exact h)];simp[h]
 .rw[if_neg e,<-qW,hl.2 ops];simp[Ne.symm e]
theorem go_valid {md:Region.Mode}{ops:Array Oper} : ∀(fuel t:Nat) (a:Array Bool) (f:List Nat),Listed ops a f->Valid md ops f (Region.linearise.go md ops fuel t a [])
 | 0,_,_,_,_=>by simp[Region.linearise.go,Valid]
 | fuel+1,t,a,f,hl=>by
  have h:Region.linearise.go md ops (fuel+1) t a []=match(Region.ready md ops a)[t % (Region.ready md ops a).length]? with
   | some i=>Region.linearise.go md ops fuel (t / (Region.ready md ops a).length) (a.setIfInBounds i true) [i]
   | none=>[]:=rfl
  rw[h];split
  .rename_i i hi;have hm:=(ready_mem hl).1 (List.mem_of_getElem? hi);rw[linearise_go_acc,List.reverse_singleton,List.singleton_append];exact⟨hm.2.1,hm.1,fun o j e m hb=>(hm.2.2 o j e m hb).1,go_valid fuel _ _ _ (listed_set hl hm.1)⟩
  .trivial
theorem valid_nodup {md:Region.Mode}{ops:Array Oper} : ∀(l f:List Nat),Valid md ops f l->l.Nodup/\(∀x∈l,x<ops.size/\x∉f)
 | [],_,_=>by simp
 | j::l,f,h=>by
  obtain⟨m,o,_,p⟩:=h;obtain⟨h5,h6⟩:=valid_nodup l _ p;refine⟨List.nodup_cons.2 ⟨fun i=>(h6 j i).2 (zH ..),h5⟩,fun x a=> ?_⟩;rcases zM.1 a with rfl | a
  .exact⟨o,m⟩
  .exact⟨(h6 x a).1,fun i=>(h6 x a).2 (zC _ i)⟩
theorem ready_some {md:Region.Mode}{ops:Array Oper}{i:Array Bool}{f:List Nat}(hl:Listed ops i f)(q: ∀x∈f,x<ops.size): ∀(L h:List Nat),Valid md ops h L->(∀x∈h,x∈f)->(∃x∈L,x∉f)->Region.ready md ops i≠[]
 | [],_,_,_,⟨x,a,_⟩=>by simp at a
 | j::L,h,hv,hb,hex=>by
  obtain⟨F,u,h3,v⟩:=hv;by_cases m:j∈f
  .refine ready_some hl q L (j::h) v (fun x a=> ?_) ?_
   .rcases zM.1 a with rfl | a
    .exact m
    .exact hb x a
   .obtain⟨x,a,s⟩:=hex;rcases zM.1 a with rfl | a
    .exact absurd m s
    .exact⟨x,a,s⟩
  .intro y;have p:j∈Region.ready md ops i:=by
    refine(ready_mem hl).2 ⟨u,m,fun o z e C t=> ?_⟩;have hd:=hb _ (h3 o z e C t);exact⟨hd,q _ hd⟩
   rw[y]at p;simp at p
theorem nodup_subset_len: ∀(l m:List Nat),l.Nodup->(∀x∈l,x∈m)->l.length<=m.length
 | [],_,_,_=>by simp
 | x::l,m,hn,h=>by
  obtain⟨i,j⟩:=List.nodup_cons.1 hn;have a:=h x (zH ..);have:=nodup_subset_len l (m.erase x) j (fun y f=>(List.mem_erase_of_ne (fun e=>i (by rw[<-e];exact f))).2 (h y (zC _ f)));rw[List.length_erase_of_mem a]at this;have hp:=List.length_pos_of_mem a;simp;omega
theorem go_len {md:Region.Mode}{ops:Array Oper}{L:List Nat}(hL:Valid md ops [] L)(m:L.length=ops.size): ∀(fuel t:Nat) (a:Array Bool) (f:List Nat),Listed ops a f->(∀x∈f,x<ops.size)->f.length+fuel=ops.size->
  (Region.linearise.go md ops fuel t a []).length=fuel
 | 0,_,_,_,_,_,_=>by simp[Region.linearise.go]
 | fuel+1,t,a,f,hl,hds,hlen=>by
  have o:Region.linearise.go md ops (fuel+1) t a []=match(Region.ready md ops a)[t % (Region.ready md ops a).length]? with
   | some i=>Region.linearise.go md ops fuel (t / (Region.ready md ops a).length) (a.setIfInBounds i true) [i]
   | none=>[]:=rfl
  have p:Region.ready md ops a≠[]:=by
   refine ready_some hl hds L [] hL (by simp) (Classical.byContradiction fun q=> ?_);have:=nodup_subset_len L f (valid_nodup L [] hL).1 (fun x h=>Classical.byContradiction fun s=>q ⟨x,h,s⟩);omega
  have j:t % (Region.ready md ops a).length< (Region.ready md ops a).length:=Nat.mod_lt _ (List.length_pos_iff.2 p);rw[o,zO j];simp only;have hm:=(ready_mem hl).1 (yH j);rw[linearise_go_acc,List.reverse_singleton,List.singleton_append,zV,go_len hL m fuel _ _ _ (listed_set hl hm.1) (fun x h=>by
   rcases zM.1 h with rfl | h
   .exact hm.1
   .exact hds x h) (by simp;omega)]
theorem listed_none (ops:Array Oper):Listed ops (Array.replicate ops.size false) []:=
 ⟨by simp,fun i=>by
  rw[qW,Array.getElem?_replicate];by_cases h:i<ops.size<;>simp[h]⟩
theorem valid_any {md:Region.Mode}{ops:Array Oper} : ∀(l a:List Nat),Valid md ops a l->Valid .any ops a l
 | [],_,_=>trivial
 | j::l,a,⟨h1,h2,h3,h4⟩=>⟨h1,h2,fun o f e h hb=>h3 o f e h (by
   revert hb
   cases i:e.ground<;>simp[Region.binds,i]),valid_any l _ h4⟩
theorem linearise_ok {md:Region.Mode}(h:(Region.linearise md v 0).length=v.size)(t:Nat):Valid .any v [] (Region.linearise md v t)/\ ∀i,i<v.size->i∈Region.linearise md v t:=by
 have f:Valid md v [] (Region.linearise md v 0):=go_valid _ _ _ _ (listed_none v);have a:Valid md v [] (Region.linearise md v t):=go_valid _ _ _ _ (listed_none v);have hl:(Region.linearise md v t).length=v.size:=go_len f h _ _ _ _ (listed_none v) (by simp) (by simp);obtain⟨m,o⟩:=valid_nodup _ _ a;exact⟨valid_any _ _ a,nodup_all m (fun x j=>(o x j).1) hl⟩
theorem valid_back {md:Region.Mode}{ops:Array Oper} : ∀(l pre:List Oper) (a:List Nat),ops.toList=pre++l->backB l pre.length=true->(∀x,x∈a↔x<pre.length)->Valid md ops a (List.range' pre.length l.length)
 | [],_,_,_,_,_=>by simp[Valid]
 | o::l,pre,a,hops,hb,hd=>by
  have i:pre.length<ops.size:=by
   have:=congrArg List.length hops;simp at this;omega
  have j:ops[pre.length]? =some o:=by
   rw[<-yM,hops];simp
  simp only[backB,fN_eq,zE,qY,q9]at hb;rw[zV,List.range'_succ];refine⟨fun h=>absurd ((hd _).1 h) (Nat.lt_irrefl _),i,fun o' f e m _=> ?_, ?_⟩
  .rw[j]at f;injection f with f;subst f
   exact(hd _).2 (hb.1 e (by simpa using m))
  .have:=valid_back (md:=md) l (pre++[o]) (pre.length::a) (by rw[hops];simp) (by simpa using hb.2) (fun x=>by
    simp only[zM,hd,zT,j9];omega)
   simpa using this
theorem linearise_back {md:Region.Mode}(h:backB v.toList 0=true)(t:Nat):Valid .any v [] (Region.linearise md v t)/\ ∀i,i<v.size->i∈Region.linearise md v t:=by
 have f:Valid md v [] (List.range' 0 v.toList.length):=valid_back (md:=md) (ops:=v) v.toList [] [] rfl h (by simp);have a:Valid md v [] (Region.linearise md v t):=go_valid _ _ _ _ (listed_none v);have hl:(Region.linearise md v t).length=v.size:=go_len f (by simp) _ _ _ _ (listed_none v) (by simp) (by simp);obtain⟨m,o⟩:=valid_nodup _ _ a;exact⟨valid_any _ _ a,nodup_all m (fun x j=>(o x j).1) hl⟩
theorem schedule_ok (h:modesOk v=true)(a:Bool)(t:Nat):Valid .any v [] (Region.schedule a v t)/\ ∀i,i<v.size->i∈Region.schedule a v t:=by
 simp only[modesOk,yW,zE,zX]at h;rcases h with h | h
 .unfold Region.schedule;split
  .exact linearise_back h t
  .split
   .exact linearise_back h _
   .exact linearise_back h _
 .unfold Region.schedule;split
  .exact linearise_ok h.1.1 t
  .split
   .exact linearise_ok h.1.2 _
   .exact linearise_ok h.2 _
theorem maskOf_bit (f:List Nat): ∀(es:List Edge) (s i:Nat),(es.foldl (fun s e=>bif Region.binds .any e then s||| 2 ^ e.on||| f.getD e.on 0 else s) s).testBit i=true->s.testBit i=true\/ ∃e∈es,Region.binds .any e=true/\(e.on=i\/(f.getD e.on 0).testBit i=true)
 | [],s,i,h=> .inl h
 | e::es,s,i,h=>by
  simp only[List.foldl_cons]at h;rcases maskOf_bit f es _ i h with a | ⟨m,j,a⟩
  .cases hb:Region.binds .any e with
   | false=>rw[hb]at a;exact .inl a
   | true=>
    rw[hb]at a;simp only[zP,Nat.testBit_or,yW,Nat.testBit_two_pow,zU]at a;rcases a with(a | a) | a
    .exact .inl a
    .exact .inr ⟨e,zH ..,hb, .inl a⟩
    .exact .inr ⟨e,zH ..,hb, .inr a⟩
  .exact .inr ⟨m,zC _ j,a⟩
theorem befores_get: ∀(l:List Oper) (a:List Nat) (j:Nat),j<a.length->(befores l a).getD j 0=a.getD j 0
 | [],a,j,_=>rfl
 | o::l,a,j,h=>by
  rw[befores,befores_get l _ j (by simp;omega)];simp[qE,yQ h]
theorem befores_at: ∀(l:List Oper) (a:List Nat) (j:Nat) (o:Oper),l[j]? =some o-> ∃pre:List Nat,(∀k,k<a.length+j->pre.getD k 0=(befores l a).getD k 0)/\pre.length=a.length+j/\(befores l a).getD (a.length+j) 0=maskOf pre o.after.toList
 | [],_,_,_,h=>by simp at h
 | p::l,a,0,o,h=>by
  simp at h;subst h;refine⟨a,fun k i=> ?_,rfl, ?_⟩
  .rw[befores,befores_get l _ k (by simp;omega)];simp[qE,yQ (show k<a.length by omega)]
  .rw[befores,befores_get l _ _ (by simp)];simp[qE]
 | p::l,a,j+1,o,h=>by
  simp at h;obtain⟨pre,f,m,h3⟩:=befores_at l (a++[maskOf a p.after.toList]) j o h;simp only[zT,j9]at f m h3;refine⟨pre,fun k i=> ?_,by omega, ?_⟩
  .rw[befores];exact f k (by omega)
  .rw[befores,show a.length+(j+1)=a.length+1+j from by omega];exact h3
theorem mask_before {ops:Array Oper}{f:List Nat}(q: ∀j∈f,∀o,ops[j]? =some o-> ∀e∈o.after.toList,Region.binds .any e=true->e.on∈f):
  ∀(n j:Nat),j<=n->(∀o,ops[j]? =some o-> ∀e∈o.after.toList,Region.binds .any e=true->e.on∈f)-> ∀i,((befores ops.toList []).getD j 0).testBit i=true->i∈f
 | n,j,hjn,hj,i,h=>by
  cases p:ops.toList[j]? with
  | none=>
   have hl: ∀(l:List Oper) (m:List Nat),(befores l m).length=m.length+l.length:=by
    intro l
    induction l with
    | nil=>intro m;simp[befores]
    | cons o l ih=>intro m;rw[befores,ih];simp;omega
   have:(befores ops.toList [])[j]? =none:=by
    rw[List.getElem?_eq_none_iff]at p⊢;rw[hl];simpa using p
   simp[qE,this]at h
  | some o=>
   obtain⟨pre,t,y,h3⟩:=befores_at ops.toList [] j o p;simp only[yI,yU]at t y h3;rw[h3]at h;rcases maskOf_bit pre _ _ _ h with a | ⟨e,z,hb,a⟩
   .simp at a
   .have v:ops[j]? =some o:=by simpa using p
    have s:=hj o v e z hb;rcases a with rfl | a
    .exact s
    .by_cases x:e.on<j
     .rw[t _ x]at a
      cases n with
      | zero=>omega
      | succ n=>exact mask_before q n e.on (by omega) (fun o' u=>q _ s o' u) i a
     .have:pre[e.on]? =none:=List.getElem?_eq_none (by omega);simp[qE,this]at a
def AO (H a:AH):Prop:=H.next<=a.next/\(∀A,A<H.next->a.h.get A=H.h.get A)/\Grows H a
theorem AO.refl (H:AH):AO H H:=⟨zK _,fun _ _=>rfl,fun _ _ h=>h⟩
theorem AO.trans {H a f:AH}(h:AO H a)(k:AO a f):AO H f:=
 ⟨qP h.1 k.1,fun A i=>(k.2.1 A (qF i h.1)).trans (h.2.1 A i),fun A o j=>k.2.2 A o (h.2.2 A o j)⟩
theorem AO.new {H:AH}(h:newA H g=some (i,n)):AO H n/\n.h.get H.next=some g/\n.next=H.next+1:=by
 obtain⟨a,j,rfl,rfl,m⟩:=newA_eq h;have f:=T.get_set _ _ _ _ _ j;refine⟨⟨Nat.le_succ _,fun i p=> ?_,fun i o' H'=> ?_⟩, ?_,rfl⟩
 .show a.get i=_;rw[f,if_neg (by omega)]
 .show a.get i=_;rw[f];by_cases e:i=H.next
  .subst e;rw[m]at H';simp at H'
  .rw[if_neg e];exact H'
 .show a.get _=_;rw[f,if_pos rfl]
theorem Rel.more {R:Ren}{H a:AH}{w:World}(h:Rel R H w)(f:AO H a):Rel R a w:=by
 have hl: ∀A b d c,R A b d c->Live a A->Live H A:=fun A b d c r ⟨o,i,hd⟩=>⟨o,by rw[<-f.2.1 A (h.lt _ _ _ _ r).2];exact i,hd⟩
 exact⟨h.fn,fun A m b d c d' c' r j l l'=>h.inj _ _ _ _ _ _ _ r j (hl _ _ _ _ r l) (hl _ _ _ _ j l'),
  fun A b d c o r i=>h.obj A b d c o r (by rw[<-f.2.1 A (h.lt _ _ _ _ r).2];exact i),fun A b d c r=>⟨(h.lt _ _ _ _ r).1,qF (h.lt _ _ _ _ r).2 f.1⟩⟩
theorem Ext.more {R a:Ren}{H H' f:AH}{w i:World}(h:Ext R H w a H' i)(j:AO H' f):Ext R H w a f i:=
 ⟨h.sub,h.new,h.newA,qP h.next j.1,fun A m o=>(j.2.1 A (qF m h.next)).trans (h.keepA A m o),h.os,h.tape,h.output,h.size,h.keep⟩
section
variable (X:Cx)(r:Fns)(nt:Nat)(ops:Array Oper)
def Chain:Env->AH->List Ent->Env->AH->Prop
 | env,H,[],envF,HF=>env=envF/\H=HF
 | env,H,e::es,envF,HF=>e.env=env/\e.H=H/\entD X r ops env H e.i e.o=some e/\ ∃env',setD nt env e.o.dst e.v=some env'/\Chain env' e.H' es envF HF
theorem ent_ok {e:Ent}(h:entD X r ops l n e.i e.o=some e):wantA ops l e.o=some e.want/\(e.want=true->opF X r l n e.o.op=some (e.v,e.H'))/\(e.want=false->e.v=undefA/\e.H'=n):=by
 unfold entD at h;split at h
 .rename_i a;split at h
  .rename_i v H' m;simp only[zB]at h;have f:e.want=true:=by rw[<-h]
   have j:e.v=v:=by rw[<-h]
   have h3:e.H'=H':=by rw[<-h]
   rw[f,j,h3];exact⟨a,fun _=>m,fun h=>by simp at h⟩
  .simp at h
 .rename_i a;simp only[zB]at h;have f:e.want=false:=by rw[<-h]
  have j:e.v=undefA:=by rw[<-h]
  have h3:e.H'=n:=by rw[<-h]
  rw[f];exact⟨a,fun h=>by simp at h,fun _=>⟨j,h3⟩⟩
 .simp at h
theorem ent_ao {e:Ent}(h:entD X r ops l n e.i e.o=some e)(f:isEff (cls X e.o.op)=false):AO n e.H':=by
 obtain⟨_,q,s⟩:=ent_ok X r ops h
 cases m:e.want with
 | false=>rw[(s m).2];exact AO.refl n
 | true=>
  have a:=q m;unfold opF at a;split at a
  .unfold wV at a;split at a
   .simp only[zB,zQ]at a;rw[<-a.2];exact AO.refl n
   .simp at a
  .unfold wV at a;split at a
   .simp only[zB,zQ]at a;rw[<-a.2];exact AO.refl n
   .simp at a
  .unfold wA at a;split at a
   .split at a
    .rename_i A t p;simp only[zB,zQ]at a;rw[<-a.2];exact(AO.new p).1
    .simp at a
   .simp at a
  .rename_i j;rw[j]at f;simp[isEff]at f
  .rename_i j;rw[j]at f;simp[isEff]at f
noncomputable def curH (D:List Nat):List Ent->AH->AH
 | [],HF=>HF
 | e::es,HF=>if isEff (cls X e.o.op)=true/\e.i∉D then e.H else curH D es HF
variable {X r nt ops}
theorem chain_ao: ∀ {es:List Ent} {env:Env} {H:AH} {envF:Env} {HF:AH} {D:List Nat},Chain X r nt ops env H es envF HF->(∀e∈es,isEff (cls X e.o.op)=true->e.i∉D)->AO H (curH X D es HF)
 | [],_,H,_,HF,D,h,_=>by obtain⟨_,rfl⟩:=h;exact AO.refl _
 | e::es,env,H,envF,HF,D,⟨h1,h2,h3,env',h4,h5⟩,hD=>by
  unfold curH;split
  .rw[h2];exact AO.refl H
  .rename_i f;have j:isEff (cls X e.o.op)=false:=by
    cases a:isEff (cls X e.o.op)with
    | false=>rfl
    | true=>exact absurd ⟨a,hD e (zH ..) a⟩ f
   exact(ent_ao X r ops h3 j).trans (chain_ao h5 (fun q m=>hD q (zC _ m)))
theorem chain_at: ∀ {pre:List Ent} {e:Ent} {a:List Ent} {env:Env} {H:AH} {envF:Env} {HF:AH},Chain X r nt ops env H (pre++e::a) envF HF->Chain X r nt ops e.env e.H (e::a) envF HF
 | [],e,a,env,H,envF,HF,h=>by
  obtain⟨f,i,h3,env',j,h5⟩:=h;subst f i;exact⟨rfl,rfl,h3,env',j,h5⟩
 | p::pre,e,a,env,H,envF,HF,⟨_,_,_,env',_,h5⟩=>chain_at (pre:=pre) h5
theorem curH_pre: ∀ {pre l:List Ent} {HF:AH} {D:List Nat},(∀p∈pre,isEff (cls X p.o.op)=true->p.i∈D)->curH X D (pre++l) HF=curH X D l HF
 | [],_,_,_,_=>rfl
 | p::pre,l,HF,D,h=>by
  rw[qB,curH,if_neg (fun a=>a.2 (h p (zH ..) a.1))];exact curH_pre (fun q f=>h q (zC _ f))
theorem curH_add {D:List Nat}{j:Nat} : ∀ {es:List Ent} {HF:AH},(∀e∈es,e.i=j->isEff (cls X e.o.op)=false)->curH X (j::D) es HF=curH X D es HF
 | [],_,_=>rfl
 | e::es,HF,h=>by
  simp only[curH];rw[curH_add (es:=es) (fun q f=>h q (zC _ f))];by_cases a:e.i=j
  .have:=h e (zH ..) a;rw[if_neg (by simp[this]),if_neg (by simp[this])]
  .simp[a]
theorem chain_env: ∀ {pre:List Ent} {e:Ent} {j:List Ent} {env:Env} {H:AH} {envF:Env} {HF:AH},Chain X r nt ops env H (pre++e::j) envF HF->(pre.map (·.o.dst)).Pairwise (fun a b=> ∀d,a=some d->b≠some d)->
  ∀t,(∀p∈pre,p.o.dst=some t->Eng.look e.env t=some p.v)/\((∀p∈pre,p.o.dst≠some t)->Eng.look e.env t=Eng.look env t)
 | [],e,j,env,H,envF,HF,h,_,t=>by
  obtain⟨y,_⟩:=h;exact⟨fun p hp=>by simp at hp,fun _=>by rw[y]⟩
 | p::pre,e,j,env,H,envF,HF,⟨y,h2,h3,env',f,h5⟩,hd,t=>by
  simp only[y6,yJ]at hd;obtain⟨F,z⟩:=chain_env (pre:=pre) h5 hd.2 t;have s:Eng.look env' t=if p.o.dst=some t then some p.v else Eng.look env t:=by
   cases u:p.o.dst with
   | none=>rw[u]at f;simp only[setD,zB]at f;subst f;simp
   | some d=>
    rw[u]at f;simp only[setD,zF]at f;split at f
    .injection f with f;subst f
     unfold Eng.look;rw[upd_at];by_cases e:t=d
     .subst e;simp
     .rw[if_neg e,if_neg (by simpa using Ne.symm e)]
    .simp at f
  refine⟨fun q i m=> ?_,fun x=> ?_⟩
  .rcases zM.1 i with rfl | i
   .rw[z (fun I C G=>hd.1 _ (List.mem_map_of_mem C) t m G),s,if_pos m]
   .exact F q i m
  .rw[z (fun q i=>x q (zC _ i)),s,if_neg (x p (zH ..))]
end
structure Mono (r:Fns):Prop where
 call: ∀f args H v H',r.call f args H=some (v,H')->H.next<=H'.next
 yld: ∀A args H v H',r.yld A args H=some (v,H')->H.next<=H'.next
theorem Good.mono {r:Fns}(h:Good q r):Mono r:=⟨fun f args H v H' e=>(h.call f args H v H' e).1,fun A args H v H' e=>(h.yld A args H v H' e).1⟩
theorem putA_next (h:putA n i g=some E):E.next=n.next:=by
 unfold putA at h;split at h
 .simp only[zB]at h;rw[<-h]
 .simp at h
theorem agrow_next {e sz:Nat}(cells:agrow i e sz I n=some (h,E)):n.next<=E.next:=by
 unfold agrow at cells;split at cells
 .rename_i A a f;obtain⟨j,_,_,rfl,_⟩:=newA_eq f;simp only[fN_eq,zB,zQ]at cells;rw[<-cells.2];exact Nat.le_succ _
 .simp at cells
theorem appGrow_next {e sz bytes:Nat}{old:Option (List AV)}(a:appGrow i e sz bytes old I n=some (h,E)):n.next<=E.next:=by
 unfold appGrow at a;rw[zF]at a;split at a
 .split at a
  .exact agrow_next a
  .simp at a
 .simp at a
theorem app1_next {sz bytes new:Nat}(e:app1 i sz bytes new I h n=some (p,E)):n.next<=E.next:=by
 unfold app1 at e;split at e
 .rw[zF]at e;split at e
  .simp only[zB,zQ]at e;rw[<-e.2];exact zK _
  .exact appGrow_next e
 .rw[zF]at e;split at e
  .simp only[zB,zQ]at e;rw[<-e.2];exact zK _
  .simp at e
 .split at e
  .unfold app2 at e;rw[zF]at e;split at e
   .unfold appIn at e;split at e
    .split at e
     .rename_i a hp;simp only[fN_eq,zB,zQ]at e;rw[<-e.2,putA_next hp];exact zK _
     .simp at e
    .simp at e
   .rw[zF]at e;split at e
    .exact appGrow_next e
    .rw[zF]at e;split at e
     .split at e
      .rename_i a hp;have:=appGrow_next e;rw[putA_next hp]at this;exact this
      .simp at e
     .simp at e
  .simp at e
 .simp at e
theorem upM_next {v:AV}(ks:upM A h p L n=some (v,E)):n.next<=E.next:=by
 unfold upM at ks;rw[zF]at ks;split at ks
 .split at ks
  .split at ks
   .rw[zF]at ks;split at ks
    .split at ks
     .split at ks
      .rename_i hp;simp only[zB,zQ]at ks;rw[<-ks.2,putA_next hp];exact zK _
      .simp at ks
     .split at ks
      .rename_i hp;simp only[zB,zQ]at ks;rw[<-ks.2,putA_next hp];exact zK _
      .simp at ks
    .simp at ks
   .simp at ks
  .simp at ks
 .simp at ks
theorem dlM_next (ks:dlM A h p n=some (L,E)):n.next<=E.next:=by
 unfold dlM at ks;rw[zF]at ks;split at ks
 .split at ks
  .simp only[zB,zQ]at ks;rw[<-ks.2];exact zK _
  .split at ks
   .rw[zF]at ks;split at ks
    .split at ks
     .split at ks
      .rename_i hp;simp only[zB,zQ]at ks;rw[<-ks.2,putA_next hp];exact zK _
      .simp at ks
     .simp only[zB,zQ]at ks;rw[<-ks.2];exact zK _
    .simp at ks
   .simp at ks
  .simp at ks
 .simp at ks
theorem clM_next (x:clM h n=some (p,E)):n.next<=E.next:=by
 unfold clM at x;split at x
 .simp only[zB,zQ]at x;rw[<-x.2];exact zK _
 .split at x
  .split at x
   .rename_i hp;simp only[zB,zQ]at x;rw[<-x.2,putA_next hp];exact zK _
   .simp at x
  .simp at x
 .simp at x
theorem aE_next (X:aE Q l n G=some (h,E)):n.next<=E.next:=by
 unfold aE at X;split at X
 .unfold eStore at X;split at X
  .split at X
   .split at X
    .rename_i i f;simp only[zB,zQ]at X;rw[<-X.2];unfold astore at f;split at f
     .split at f
      .split at f
       .rw[zF]at f;split at f
        .split at f
         .rw[putA_next f];exact zK _
         .simp at f
        .simp at f
       .simp at f
      .simp at f
     .simp at f
    .simp at X
   .simp at X
  .simp at X
 .unfold c3 at X;split at X
  .split at X
   .split at X
    .unfold aup at X;split at X
     .split at X
      .exact upM_next X
      .simp at X
     .simp at X
    .simp at X
   .simp at X
  .simp at X
 .split at X
  .unfold eBuiltin at X;split at X
   .split at X
    .split at X
     .unfold eAppend at X;have key: ∀t a b,aappend Q t a b n=some (h,E)->n.next<=E.next:=by
       intro t a b X;unfold aappend at X;split at X
       .split at X
        .rw[zF]at X;split at X
         .split at X
          .rw[zF]at X;split at X
           .exact app1_next X
           .simp at X
          .simp at X
         .simp at X
        .simp at X
       .simp at X
      split at X
      .split at X
       .split at X
        .exact key _ _ _ X
        .exact key _ _ _ X
        .unfold aappZ at X
         repeat' first | (simp at X;done) | split at X
         all_goals(try rw[zF]at X)
         all_goals(repeat' first | (simp at X;done) | split at X)
         all_goals(try rw[zF]at X)
         all_goals(repeat' first | (simp at X;done) | split at X)
         all_goals exact app1_next X
        .simp at X
       .simp at X
      .simp at X
     .simp at X
    .simp at X
   .split at X
    .split at X
     .unfold eCopy at X;split at X
      .split at X
       .unfold acopy at X;split at X
        .split at X
         .split at X
          .split at X<;>first | (simp at X;done) | (simp only[zB,zQ]at X;rw[<-X.2];exact zK _)
          .split at X
           .simp only at X;split at X
            .rw[zF]at X;split at X
             .split at X
              .split at X
               .split at X
                .rename_i i hp;simp only[fN_eq,zB,zQ]at X;rw[<-X.2,putA_next hp];exact zK _
                .simp at X
               .simp at X
              .simp at X
             .simp at X
            .simp at X
           .simp at X
          .simp at X
         .simp at X
        .simp at X
       .simp at X
      .simp at X
     .simp at X
    .simp at X
   .split at X
    .split at X
     .unfold c2 at X;split at X
      .split at X
       .unfold adl at X;split at X
        .split at X
         .exact dlM_next X
         .simp at X
        .simp at X
       .simp at X
      .simp at X
     .simp at X
    .simp at X
   .split at X
    .split at X
     .unfold c1 at X;split at X
      .unfold acl at X;split at X
       .exact clM_next X
       .simp at X
      .simp at X
     .simp at X
    .simp at X
   .simp at X
  .simp at X
 .simp at X
section
variable {X:Cx}{r:Fns}(hm:Mono r)
include hm
theorem opF_next (env:opF X r l n G=some (h,E)):n.next<=E.next:=by
 unfold opF at env;split at env
 .unfold wV at env;split at env
  .simp only[zB,zQ]at env;rw[<-env.2];exact zK _
  .simp at env
 .unfold wV at env;split at env
  .simp only[zB,zQ]at env;rw[<-env.2];exact zK _
  .simp at env
 .unfold wA at env;split at env
  .split at env
   .rename_i A f a;obtain⟨i,_,_,rfl,_⟩:=newA_eq a;simp only[zB,zQ]at env;rw[<-env.2];exact Nat.le_succ _
   .simp at env
  .simp at env
 .exact aE_next env
 .unfold opF.callO at env;split at env
  .split at env
   .unfold opF.callV at env;split at env
    .split at env
     .exact hm.call _ _ _ _ _ env
     .simp at env
    .split at env
     .exact hm.yld _ _ _ _ _ env
     .simp at env
    .simp at env
   .simp at env
  .simp at env
theorem ent_next {e:Ent}(h:entD X r v l n e.i e.o=some e):n.next<=e.H'.next:=by
 obtain⟨_,f,j⟩:=ent_ok X r v h
 cases a:e.want with
 | false=>rw[(j a).2];exact zK _
 | true=>exact opF_next hm (f a)
theorem chain_next {nt:Nat}{ops:Array Oper} : ∀ {es:List Ent} {env:Env} {H:AH} {envF:Env} {HF:AH},Chain X r nt ops env H es envF HF->H.next<=HF.next/\ ∀e∈es,H.next<=e.H.next
 | [],_,_,_,_,h=>by obtain⟨_,rfl⟩:=h;exact⟨zK _,by simp⟩
 | e::es,env,H,envF,HF,⟨h1,h2,h3,env',h4,h5⟩=>by
  obtain⟨f,i⟩:=chain_next h5;have:=ent_next hm h3;refine⟨qP this f,fun q a=> ?_⟩;rcases zM.1 a with rfl | a
  .rw[h2];exact zK _
  .exact qP this (i q a)
end
theorem setD_any {env2:Env}{v2:AV}(nt:setD i l M h=some Y): ∃a,setD i env2 M v2=some a:=by
 cases M with
 | none=>exact⟨_,rfl⟩
 | some d=>
  simp only[setD,zF]at nt⊢;split at nt
  .rename_i hd;rw[if_pos hd];exact⟨_,rfl⟩
  .simp at nt
theorem setD_look (nt:setD i l M h=some Y)(t:Nat):Eng.look Y t=if M=some t then some h else Eng.look l t:=by
 cases M with
 | none=>simp only[setD,zB]at nt;subst nt;simp
 | some d=>
  simp only[setD,zF]at nt;split at nt
  .injection nt with nt;subst nt
   unfold Eng.look;rw[upd_at];by_cases e:t=d
   .subst e;simp
   .rw[if_neg e,if_neg (by simpa using Ne.symm e)]
  .simp at nt
theorem want_congr (h: ∀t∈namesOf v V,Eng.look l t=Eng.look Y t):wantA v l V=wantA v Y V:=by
 unfold wantA;split
 .rfl
 .rename_i j f a;unfold wantG;split
  .rename_i p hp;split
   .rename_i d hd;rw[h d (by simp[namesOf,a,hp,hd])]
   .rfl
  .rfl
theorem opd_congr (h: ∀t∈namesOf v V,Eng.look l t=Eng.look Y t): ∀x∈V.op.operands.toList,opd l x=opd Y x:=by
 intro x a
 cases x with
 | tmp t=>simp only[opd];rw[h t (by simp only[namesOf,zZ,List.mem_filterMap];exact .inl ⟨.tmp t,a,rfl⟩)]
 | _=>rfl
def Bef (ops:Array Oper)(j i:Nat):Prop:=((befores ops.toList []).getD j 0).testBit i=true
structure Row (X:Cx)(r:Fns)(nt:Nat)(ops:Array Oper)(env0:Env)(H0:AH)(es:List Ent)(envF:Env)(HF:AH):Prop where
 chain:Chain X r nt ops env0 H0 es envF HF
 mem: ∀e∈es,ops[e.i]? =some e.o
 nd:(es.map (·.i)).Nodup
 pair:es.Pairwise fun a b=>(∀d,a.o.dst=some d->b.o.dst≠some d)/\(isEff (cls X a.o.op)=true\/slotsMeet ops a.o b.o=true->Bef ops b.i a.i)
 see:es.Pairwise fun a b=>a.want=true->isEff (cls X b.o.op)=true-> ¬Bef ops b.i a.i->cls X a.o.op= .L->aL X a.env b.H' a.o.op=some a.v
structure Inv (X:Cx)(nt:Nat)(env0:Env)(H0:AH)(es:List Ent)(HF:AH)(R0:Ren)(w0:World)(D:List Nat)(R:Ren)(tmps:Array Value)(w:World):Prop where
 env: ∃envS,EnvR R envS nt tmps/\ ∀t,(∀e∈es,e.i∈D->e.o.dst=some t->Eng.look envS t=some e.v)/\((∀e∈es,e.i∈D->e.o.dst≠some t)->Eng.look envS t=Eng.look env0 t)
 rel:Rel R (curH X D es HF) w
 no: ∀e∈es,e.want=true->cls X e.o.op= .A->e.i∉D-> ∀b d c,¬R e.H.next b d c
 ob: ∀pre e post,es=pre++e::post->(∀p∈pre,isEff (cls X p.o.op)=true->p.i∈D)->e.want=true->cls X e.o.op= .A->e.i∉D-> ∀o mk,aA X e.env e.o.op=some (o,mk)->(curH X D es HF).h.get e.H.next=some o/\e.H.next< (curH X D es HF).next
 ext:Ext R0 H0 w0 R (curH X D es HF) w
section
variable {P:Program}{X:Cx}{r:Fns}{nt:Nat}{ops:Array Oper}{env0:Env}{H0:AH}{es:List Ent}{envF:Env}{HF:AH}
theorem ent_new {e:Ent}(h:entD X r ops l n e.i e.o=some e)(q:e.want=true)(s:cls X e.o.op= .A): ∃o f,aA X l e.o.op=some (o,f)/\e.v=f n.next/\AO n e.H'/\e.H'.h.get n.next=some o/\e.H'.next=n.next+1:=by
 have a:=(ent_ok X r ops h).2.1 q;unfold opF at a;rw[s]at a;simp only at a;unfold wA at a;split at a
 .rename_i o f t;split at a
  .rename_i A y m;simp only[zB,zQ]at a;obtain⟨u,j⟩:=a;have p:A=n.next:=by obtain⟨z,_,e,_⟩:=newA_eq m;exact e
   obtain⟨h3,x,h5⟩:=AO.new m;exact⟨o,f,t,by rw[<-u,p],by rw[<-j];exact h3,by rw[<-j];exact x,by rw[<-j];exact h5⟩
  .simp at a
 .simp at a
theorem ob_fresh {a:List Ent}{e:Ent}(s:Chain X r nt ops env0 H0 es envF HF)(pre:es=m++e::a)(t: ∀p∈m,isEff (cls X p.o.op)=true->p.i∈A)(u: ∀p∈a,isEff (cls X p.o.op)=true->p.i∉A)
  (v:e.want=true) (j:cls X e.o.op= .A)  {x:Nat->AV} (y:aA X e.env e.o.op=some (g,x)):(curH X A es HF).h.get e.H.next=some g/\e.H.next< (curH X A es HF).next:=by
 subst pre;rw[curH_pre t];have q:=chain_at s;obtain⟨_,_,h3,env',_,h5⟩:=q;rw[curH,if_neg (by rw[j];simp[isEff])];obtain⟨o',z,h6,_,h7,h8,h9⟩:=ent_new h3 v j;rw[y]at h6;simp only[zB,zQ]at h6;obtain⟨rfl,rfl⟩:=h6;have f:=chain_ao h5 u;exact⟨f.2.2 _ _ h8,by have:=f.1;omega⟩
theorem see_cur {D:List Nat}{env:Env}{o:Op}{v:AV} : ∀ {a:List Ent} {j:Env} {H:AH},Chain X r nt ops j H a envF HF->aL X env H o=some v->
  (∀q∈a,isEff (cls X q.o.op)=true->q.i∈D->aL X env q.H' o=some v)->aL X env (curH X D a HF) o=some v
 | [],_,H,⟨_,h⟩,hv,_=>by rw[curH,<-h];exact hv
 | q::a,j,H,⟨h1,h2,h3,env',h4,h5⟩,hv,hq=>by
  rw[curH];split
  .rw[h2];exact hv
  .rename_i m;refine see_cur h5 ?_ (fun p hp=>hq p (zC _ hp))
   cases f:isEff (cls X q.o.op)with
   | false=>exact aL_grows (ent_ao X r ops h3 f).2.2 _ hv
   | true=>
    refine hq q (zH ..) f (Classical.byContradiction fun s=>m ⟨f,s⟩)
theorem Row.inj (hR:Row X r nt ops env0 H0 es envF HF){e q:Ent}(m:e∈es)(o:q∈es)(h:e.i=q.i):e=q:=by
 have:=hR.nd;clear hR
 induction es with
 | nil=>simp at m
 | cons a l ih=>
  simp only[y6,List.nodup_cons,qM,not_exists,not_and]at this;rcases zM.1 m with rfl | j
  .rcases zM.1 o with rfl | f
   .rfl
   .exact absurd h.symm (this.1 q f)
  .rcases zM.1 o with rfl | f
   .exact absurd h (this.1 e j)
   .exact ih j f this.2
theorem Row.dst (hR:Row X r nt ops env0 H0 es envF HF){e q:Ent}(i:e∈es)(j:q∈es){t:Tmp}(m:e.o.dst=some t)(p:q.o.dst=some t):e=q:=by
 have:=hR.pair;clear hR
 induction es with
 | nil=>simp at i
 | cons a l ih=>
  simp only[yJ]at this;rcases zM.1 i with rfl | h
  .rcases zM.1 j with rfl | f
   .rfl
   .exact absurd p ((this.1 q f).1 t m)
  .rcases zM.1 j with rfl | f
   .exact absurd m ((this.1 e h).1 t p)
   .exact ih h f this.2
theorem chain_last: ∀ {es:List Ent} {env:Env} {H:AH} {envF:Env} {HF:AH},Chain X r nt ops env H es envF HF->(es.map (·.o.dst)).Pairwise (fun a b=> ∀d,a=some d->b≠some d)->
  ∀t,(∀p∈es,p.o.dst=some t->Eng.look envF t=some p.v)/\((∀p∈es,p.o.dst≠some t)->Eng.look envF t=Eng.look env t)
 | [],env,H,envF,HF,h,_,t=>by
  obtain⟨s,_⟩:=h;exact⟨fun p hp=>by simp at hp,fun _=>by rw[s]⟩
 | p::pre,env,H,envF,HF,⟨s,h2,h3,env',h4,h5⟩,hd,t=>by
  simp only[y6,yJ]at hd;obtain⟨y,u⟩:=chain_last h5 hd.2 t;have j:=setD_look h4 t;refine⟨fun q f i=> ?_,fun m=> ?_⟩
  .rcases zM.1 f with rfl | f
   .rw[u (fun C x z=>hd.1 _ (List.mem_map_of_mem x) t i z),j,if_pos i]
   .exact y q f i
  .rw[u (fun q f=>m q (zC _ f)),j,if_neg (m p (zH ..))]
theorem chain_out: ∀ {es:List Ent} {env:Env} {H:AH} {envF:Env} {HF:AH},Chain X r nt ops env H es envF HF->(∀t,nt<=t->Eng.look env t=none)-> ∀t,nt<=t->Eng.look envF t=none
 | [],env,H,envF,HF,h,ho,t,f=>by rw[<-h.1];exact ho t f
 | p::pre,env,H,envF,HF,⟨h1,h2,h3,env',a,h5⟩,ho,t,f=>by
  refine chain_out h5 (fun t f=> ?_) t f
  cases hd:p.o.dst with
  | none=>rw[hd]at a;simp only[setD,zB]at a;rw[<-a];exact ho t f
  | some d=>
   rw[hd]at a;simp only[setD,zF,q9]at a;split at a
   .injection a with a;subst a;unfold Eng.look;rw[upd_at,if_neg (by omega)];exact ho t f
   .simp at a
theorem curH_all {D:List Nat} : ∀ {es:List Ent} {HF:AH},(∀e∈es,e.i∈D)->curH X D es HF=HF
 | [],_,_=>rfl
 | e::es,HF,h=>by
  rw[curH,if_neg (fun a=>a.2 (h e (zH ..)))];exact curH_all (fun q f=>h q (zC _ f))
end
section
variable {P:Program}{X:Cx}(hX:Ok P X){r:Fns}(hr:Good P r)(hm:Mono r){nt:Nat}{ops:Array Oper}{env0:Env}{H0:AH}{es:List Ent}{envF:Env}{HF:AH}
include hX hr hm in
theorem inv_step (hR:Row X r nt ops env0 H0 es envF HF){R0 R:Ren}{w0 w:World}{D:List Nat}{fr:Frame}{k:List Item}{cs:List Frame}{j:Nat}{rest:List Nat}(a6:fr.mode= .run)(U:fr.todo= .inRegion ops (j::rest)::k)
  (F:Inv X nt env0 H0 es HF R0 w0 D R fr.tmps w) (V:j∉D) {e:Ent} (he:e∈es) (J:e.i=j) (d6: ∀i,Bef ops j i->i∈D) (c8: ∀q∈es,q.i∈D-> ∀i,Bef ops q.i i->i∈D):
  ∃m I z,Steps P (lone fr cs w) (lone { fr with tmps:=putT fr.tmps e.o.dst z,todo:= .inRegion ops rest::k} cs I)/\Inv X nt env0 H0 es HF R0 w0 (j::D) m (putT fr.tmps e.o.dst z) I:=by
 obtain⟨pre,a0,M⟩:=List.append_of_mem he;obtain⟨d7,hE,c9⟩:=F.env;have e3:=hR.pair;rw[M,yV,yJ]at e3;obtain⟨f9,⟨d8,i2⟩,d9⟩:=e3;have e4:=hR.nd;rw[M,List.map_append,y6,List.nodup_append,List.nodup_cons]at e4;have g5: ∀q∈a0,q.i≠e.i:=fun q f h=>e4.2.1.1 (qM.2 ⟨q,f,h⟩)
 have b5: ∀p∈pre,isEff (cls X p.o.op)=true->p.i∈D:=fun p hp g6=>d6 _ (by rw[<-J];exact(d9 p hp e (zH ..)).2 (.inl g6))
 have c3: ∀p∈pre,p∈es:=fun p hp=>by rw[M];exact qZ _ hp
 have c2: ∀p∈a0,p∈es:=fun p hp=>by rw[M];exact qT _ (zC _ hp)
 have f6:isEff (cls X e.o.op)=true-> ∀q∈a0,q.i∉D:=fun a2 q f Z=>V (by rw[<-J];exact c8 q (c2 q f) Z _ ((d8 q f).2 (.inl a2)))
 have b3:=hR.chain;rw[M]at b3;have g7:(pre.map (·.o.dst)).Pairwise (fun a b=> ∀d,a=some d->b≠some d):=List.pairwise_map.2 (f9.imp fun h=>h.1);have d5: ∀t∈namesOf ops e.o,Eng.look d7 t=Eng.look e.env t:=by
  intro t e5;obtain⟨Q,S⟩:=chain_env b3 g7 t;obtain⟨h3,h4⟩:=c9 t;by_cases e6: ∃p∈pre,p.o.dst=some t
  .obtain⟨p,hp,d0⟩:=e6;have c4:slotsMeet ops p.o e.o=true:=by
    simp only[slotsMeet,d0,yW];exact .inl (by simpa using e5)
   rw[Q p hp d0,h3 p (c3 p hp) (d6 _ (by rw[<-J];exact(d9 p hp e (zH ..)).2 (.inr c4))) d0]
  .have W: ∀p∈pre,p.o.dst≠some t:=fun p hp h=>e6 ⟨p,hp,h⟩
   rw[S W,h4 (fun q f G a7=> ?_)];rw[M]at f;rcases zZ.1 f with f | f
   .exact W q f a7
   .rcases zM.1 f with rfl | f
    .exact V (J▸G)
    .have c4:slotsMeet ops e.o q.o=true:=by
      simp only[slotsMeet,a7,yW];exact .inr (by simpa using e5)
     exact V (by rw[<-J];exact c8 q (c2 q f) G _ ((d8 q f).2 (.inr c4)))
 have a9:=opd_congr d5;have b1:curH X D es HF=curH X D (e::a0) HF:=by rw[M];exact curH_pre b5
 obtain⟨_,_,e0,i3,g0,b6⟩:=chain_at b3;obtain⟨f7,g1,g2⟩:=ent_ok X r ops e0;have hw:Region.wanted e.o (yielded ops fr.tmps)=e.want:=want_ok hE (by rw[want_congr d5,f7]);have T:ops[j]? =some e.o:=by rw[<-J];exact hR.mem e he
 have e7: ∀q∈es,q.i∈j::D->q=e\/q.i∈D:=fun q f h=>by
  rcases zM.1 h with h | h
  .exact .inl (hR.inj f he (h.trans J.symm))
  .exact .inr h
 have a8:e.i∈j::D:=by rw[J];exact zH ..
 have e1: ∀m z,Sub R m->VR m e.v z-> ∃b0,EnvR m b0 nt (putT fr.tmps e.o.dst z)/\ ∀t,(∀q∈es,q.i∈j::D->q.o.dst=some t->Eng.look b0 t=some q.v)/\((∀q∈es,q.i∈j::D->q.o.dst≠some t)->Eng.look b0 t=Eng.look env0 t):=by
  intro m z c5 hv;obtain⟨b0,d1⟩:=setD_any (env2:=d7) (v2:=e.v) g0;refine⟨b0,(hE.mono c5).put hv d1,fun t=>⟨fun q f G a7=> ?_,fun W=> ?_⟩⟩
  .rw[setD_look d1];by_cases c0:e.o.dst=some t
   .rw[if_pos c0,hR.dst f he a7 c0]
   .rw[if_neg c0];rcases e7 q f G with rfl | h
    .exact absurd a7 c0
    .exact(c9 t).1 q f h a7
  .rw[setD_look d1,if_neg (W e he a8)];exact(c9 t).2 (fun q f h=>W q f (zC _ h))
 have b7:isEff (cls X e.o.op)=false-> ∀m I z,Sub R m->VR m e.v z->Rel m (curH X D es HF) I->(∀q∈es,q.want=true->cls X q.o.op= .A->q.i∉j::D-> ∀b d c,¬m q.H.next b d c)->Ext R0 H0 w0 m (curH X D es HF) I->Inv X nt env0 H0 es HF R0 w0 (j::D) m (putT fr.tmps e.o.dst z) I:=by
  intro hn m I z c5 hv b8 W a1;have Z:curH X (j::D) es HF=curH X D es HF:=curH_add (fun q f g8=>by rw[hR.inj f he (g8.trans J.symm)];exact hn);refine⟨e1 m z c5 hv,by rw[Z];exact b8,W,fun p q po f Q N O G o mk u=> ?_,by rw[Z];exact a1⟩;rw[Z];refine F.ob p q po f (fun x y b4=> ?_) N O (fun h=>G (zC _ h)) o mk u;rcases e7 x (by rw[f];exact qZ _ y) (Q x y b4)with rfl | h
  .rw[hn]at b4;simp at b4
  .exact h
 have c6:isEff (cls X e.o.op)=true-> ∀m I z,VR m e.v z->Rel m e.H' I->Ext R e.H w m e.H' I->Inv X nt env0 H0 es HF R0 w0 (j::D) m (putT fr.tmps e.o.dst z) I:=by
  intro a2 m I z hv b8 a1;have a3:curH X D es HF=e.H:=by rw[b1,curH,if_pos ⟨a2,by rw[J];exact V⟩]
  have c7:curH X (j::D) es HF=curH X (j::D) a0 HF:=by
   rw[M,curH_pre (fun p hp h=>zC _ (b5 p hp h)),curH,if_neg (fun Z=>Z.2 a8)]
  have e8: ∀q∈a0,q.i∉j::D:=fun q f h=>by
   rcases zM.1 h with h | h
   .exact g5 q f (h.trans J.symm)
   .exact f6 a2 q f h
  have c1:AO e.H' (curH X (j::D) a0 HF):=chain_ao b6 (fun q f _=>e8 q f);refine⟨e1 m z a1.sub hv,by rw[c7];exact b8.more c1,fun q f N O G b d c e9=> ?_,fun p q po f Q N O G o mk u=> ?_, ?_⟩
  .rw[M]at f;rcases zZ.1 f with f | f
   .rcases a1.newA _ _ _ _ e9 with h | h
    .exact F.no q (c3 q f) N O (fun h=>G (zC _ h)) _ _ _ h
    .obtain⟨p1,p2,hp⟩:=List.append_of_mem f;have b2:=b3;rw[hp,qC,qB]at b2;obtain⟨_,_,d2,env2,_,d3⟩:=chain_at b2;obtain⟨_,_,_,_,_,_,h9⟩:=ent_new d2 N O;have:=(chain_next hm d3).2 e (by simp);omega
   .rcases zM.1 f with rfl | f
    .exact G a8
    .have:=(b8.lt _ _ _ _ e9).2;have:=(chain_next hm b6).2 q f;omega
  .rcases List.append_eq_append_iff.1 (M.symm.trans f)with⟨a,d4,Y⟩ | ⟨a,d4,Y⟩
   .cases a with
    | nil=>
     simp only[qV,yF]at Y;exact absurd a8 (by rw[Y.1];exact G)
    | cons x a=>
     simp only[qB,yF]at Y;exact ob_fresh hR.chain f Q (fun x y _=>e8 x (by rw[Y.2];simp[y])) N O u
   .cases a with
    | nil=>
     simp only[qV,yF]at Y;exact absurd a8 (by rw[<-Y.1];exact G)
    | cons x a=>
     simp only[qB,yF]at Y;have g9:=Y.1;subst g9;have f8:q∈pre:=by rw[d4];simp
     have e2:q.i∉D:=fun h=>G (zC _ h)
     obtain⟨S,h3⟩:=F.ob p q po f (fun x y b4=>b5 x (by rw[d4];simp[y]) b4) N O e2 o mk u;rw[a3]at S h3;rw[c7,c1.2.1 _ (qF h3 a1.next),a1.keepA _ h3 (F.no q (c3 q f8) N O e2)]
     exact⟨S,qF h3 (qP a1.next c1.1)⟩
  .rw[c7];have:=F.ext;rw[a3]at this;exact(this.trans a1).more c1
 have b9: ∀q∈es,q.want=true->cls X q.o.op= .A->q.i∉j::D-> ∀b d c,¬R q.H.next b d c:=fun q f N O G=>F.no q f N O (fun h=>G (zC _ h))
 cases a4:e.want with
 | false=>
  rw[a4]at hw;obtain⟨hv,f1⟩:=g2 a4;refine⟨R,w,undef,by rw[<-finish_region U T];exact .one (st_passed a6 U T hw), ?_⟩;have f2:VR R e.v undef:=by rw[hv];exact VR_undef R
  cases a2:isEff (cls X e.o.op)with
  | false=>exact b7 a2 R w undef (jT R) f2 F.rel b9 F.ext
  | true=>
   have a3:curH X D es HF=e.H:=by rw[b1,curH,if_pos ⟨a2,by rw[J];exact V⟩]
   refine c6 a2 R w undef f2 ?_ ?_
   .rw[f1,<-a3];exact F.rel
   .rw[f1];exact jX _ _ _
 | true=>
  rw[a4]at hw;have a5:=g1 a4;have hd: ∀c,e.o.op≠ .defer c:=by
   intro c Z;rw[Z]at a5;simp[opF,cls,aE]at a5
  cases K:cls X e.o.op with
  | P=>
   have u:=a5;unfold opF at u;rw[K]at u;simp only at u;unfold wV at u;split at u
   .rename_i x y;simp only[zB,zQ]at u;rw[<-aP_congr _ a9]at y;obtain⟨z,Q,S⟩:=simP hX F.rel.fn (w:=w) hE y;refine⟨R,w,z,by rw[<-finish_region U T];exact .one (st_value a6 U T hw hd Q),b7 (by rw[K];rfl) R w z (jT R) (by rw[<-u.1];exact S) F.rel b9 F.ext⟩
   .simp at u
  | L=>
   have u:=a5;unfold opF at u;rw[K]at u;simp only at u;unfold wV at u;split at u
   .rename_i x y;simp only[zB,zQ]at u;have f3:aL X e.env (curH X D es HF) e.o.op=some x:=by
     rw[b1,curH,if_neg (by rw[K];simp[isEff])];refine see_cur b6 (by rw[<-u.2];exact y) (fun q f h0 G=> ?_);have f4:=hR.see;rw[M,yV,yJ]at f4;rw[u.1];exact f4.2.1.1 q f a4 h0 (fun hb=>V (by rw[<-J];exact c8 q (c2 q f) G _ hb)) K
    rw[<-aL_congr _ a9]at f3;obtain⟨z,Q,S⟩:=simL hX F.rel hE f3;refine⟨R,w,z,by rw[<-finish_region U T];exact .one (st_value a6 U T hw hd Q),b7 (by rw[K];rfl) R w z (jT R) (by rw[<-u.1];exact S) F.rel b9 F.ext⟩
   .simp at u
  | A=>
   obtain⟨o,mk,hA,hv,h3,h4,h5⟩:=ent_new e0 a4 K;obtain⟨g3,g4⟩:=F.ob pre e a0 M b5 a4 K (by rw[J];exact V) o mk hA;have f5:=hA;rw[<-aA_congr _ a9]at f5;obtain⟨s,hs,x,c,kk,z,h6,h7⟩:=simA hX (w:=w) hE f5;obtain⟨h8,i0⟩:=h7 e.H.next
   have W:=F.no e he a4 K (by rw[J];exact V);refine⟨R.add e.H.next w.heap.size 0 c,World.alloc { w with drawn:=kk} x,z, ?_, ?_⟩
   .rw[<-finish_region U T];refine .one (st_value a6 U T hw hd ?_);rw[hs];simp only[zG,h6,Result.andThen];rfl
   .refine b7 (by rw[K];rfl) _ _ z (R.sub_add _ _ _ _) (by rw[hv];exact i0) ?_ ?_ ?_
    .exact(F.rel.drew kk).add (w:= { w with drawn:=kk}) g3 g4 W h8
    .intro q f N O G b d c'
     rintro(h | ⟨h,_⟩)
     .exact b9 q f N O G _ _ _ h
     .rw[M]at f;rcases zZ.1 f with f | f
      .obtain⟨p1,p2,hp⟩:=List.append_of_mem f;have b2:=b3;rw[hp,qC,qB]at b2;obtain⟨_,_,d2,env2,_,d3⟩:=chain_at b2;obtain⟨_,_,_,_,_,_,h9⟩:=ent_new d2 N O;have:=(chain_next hm d3).2 e (by simp);omega
      .rcases zM.1 f with rfl | f
       .exact G a8
       .have:=(chain_next hm b6).2 q f;omega
    .have y:=F.ext;have i1:H0.next<=e.H.next:=(chain_next hm hR.chain).2 e he
     refine⟨y.sub.trans (R.sub_add _ _ _ _), ?_, ?_,y.next,y.keepA,y.os,y.tape,y.output, ?_, ?_⟩
     .rintro A b d c' (h | ⟨rfl,rfl,rfl,rfl⟩)
      .exact y.new _ _ _ _ h
      .exact .inr (.inl y.size)
     .rintro A b d c' (h | ⟨rfl,rfl,rfl,rfl⟩)
      .exact y.newA _ _ _ _ h
      .exact .inr i1
     .rw[heap_alloc_size];exact Nat.le_succ_of_le y.size
     .intro b hb hk;exact(heap_alloc_old { w with drawn:=kk} x b (qF hb y.size)).trans (y.keep b hb hk)
  | E=>
   have a3:curH X D es HF=e.H:=by rw[b1,curH,if_pos ⟨by rw[K];rfl,by rw[J];exact V⟩]
   have hL:=F.rel;rw[a3]at hL;rw[<-opF_congr _ a9]at a5;obtain⟨m,I,z,Q,S,h3,h4⟩:=opF_ok hX hr (cs:=cs) a6 U T hw hE hL a5;exact⟨m,I,z,Q,c6 (by rw[K];rfl) m I z S h3 h4⟩
  | C=>
   have a3:curH X D es HF=e.H:=by rw[b1,curH,if_pos ⟨by rw[K];rfl,by rw[J];exact V⟩]
   have hL:=F.rel;rw[a3]at hL;rw[<-opF_congr _ a9]at a5;obtain⟨m,I,z,Q,S,h3,h4⟩:=opF_ok hX hr (cs:=cs) a6 U T hw hE hL a5;exact⟨m,I,z,Q,c6 (by rw[K];rfl) m I z S h3 h4⟩
end
section
variable {P:Program}{X:Cx}(hX:Ok P X){r:Fns}(hr:Good P r)(hm:Mono r){nt:Nat}{ops:Array Oper}{env0:Env}{H0:AH}{es:List Ent}{envF:Env}{HF:AH}
include hX hr hm in
theorem inv_run (hR:Row X r nt ops env0 H0 es envF HF)(p: ∀j,j<ops.size-> ∃e∈es,e.i=j){t:Ren}{u:World}{fr:Frame}{k:List Item}{cs:List Frame}(h:fr.mode= .run): ∀(rest D:List Nat) (R:Ren) (tmps:Array Value) (w:World),
  Valid .any ops D rest->(∀j∈D,∀o,ops[j]? =some o-> ∀e∈o.after.toList,Region.binds .any e=true->e.on∈D)->Inv X nt env0 H0 es HF t u D R tmps w->
  ∃N v m y,Steps P (lone { fr with tmps:=tmps,todo:= .inRegion ops rest::k} cs w) (lone { fr with tmps:=m,todo:= .inRegion ops []::k} cs v)/\Inv X nt env0 H0 es HF t u y N m v/\(∀j,j∈D\/j∈rest->j∈y)
 | [],D,R,tmps,w,_,_,hI=>⟨R,w,tmps,D, .refl _ _,hI,fun j O=>by simpa using O⟩
 | j::rest,D,R,tmps,w,hv,hcl,hI=>by
  obtain⟨Q,S,h3,T⟩:=hv;obtain⟨e,U,F⟩:=p j S;have hb: ∀i,Bef ops j i->i∈D:=fun i hi=>mask_before hcl j j (zK _) h3 i hi
  obtain⟨V,W,z,G,I⟩:=inv_step hX hr hm hR (fr:= { fr with tmps:=tmps,todo:= .inRegion ops (j::rest)::k}) (k:=k) (cs:=cs) h rfl hI Q U F hb
   (fun q a J i hi=>mask_before hcl q.i q.i (zK _) (fun o f=>hcl q.i J o f) i hi)
  obtain⟨Y,Z,t2,D2,K,L,M⟩:=inv_run hR p h rest (j::D) V (putT tmps e.o.dst z) W T (fun q a o f x C s=>by
   rcases zM.1 a with rfl | a
   .exact zC _ (h3 o f x C s)
   .exact zC _ (hcl q a o f x C s)) I
  refine⟨Y,Z,t2,D2,G.trans K,L,fun i hi=>M i ?_⟩;rcases hi with hi | hi
  .exact .inl (zC _ hi)
  .rcases zM.1 hi with rfl | hi
   .exact .inl (zH ..)
   .exact .inr hi
include hm in
theorem inv_first (hR:Row X r nt ops env0 H0 es envF HF)(p:EnvR s env0 nt F)(hL:Rel s H0 t):Inv X nt env0 H0 es HF s t [] s F t:=by
 have f:AO H0 (curH X [] es HF):=chain_ao hR.chain (fun _ _ _=>by simp);refine⟨⟨env0,p,fun a=>⟨fun e _ h=>by simp at h,fun _=>rfl⟩⟩,hL.more f,fun e q i j _ b d c h=> ?_,fun pre e v m R i j _ o x u=> ?_,(jX s H0 t).more f⟩
 .have:=(hL.lt _ _ _ _ h).2;have:=(chain_next hm hR.chain).2 e q;omega
 .exact ob_fresh hR.chain m R (fun _ _ _=>by simp) i j u
theorem nodupB_ok: ∀(l:List Nat),nodupB l=true->l.Nodup
 | [],_=>List.nodup_nil
 | x::l,h=>by
  simp only[nodupB,zE,yS,List.contains_eq_mem,yK]at h;exact List.nodup_cons.2 ⟨h.1,nodupB_ok l h.2⟩
theorem pairsOk_ok {masks:List Nat} : ∀(l:List (Nat×Oper)),pairsOk X ops masks l=true->l.Pairwise fun a b=>pairOk X ops masks a b=true
 | [],_=>List.Pairwise.nil
 | a::l,h=>by
  simp only[pairsOk,zE,qY]at h;exact yJ.2 ⟨h.1,pairsOk_ok l h.2⟩
theorem rowOf_mem {a:Nat×Oper}(h:a∈rowOf X ops A):ops[a.1]? =some a.2:=by
 have base: ∀a∈(List.range ops.size).filterMap (fun i=>match nthO ops.toList i with | some o=>some (i,o) | none=>none),ops[a.1]? =some a.2:=by
  intro a m;obtain⟨i,_,hi⟩:=List.mem_filterMap.1 m;split at hi
  .rename_i o j;simp only[zB]at hi;subst hi;rw[nthO_eq]at j;simpa using j
  .simp at hi
 unfold rowOf at h;simp only at h;obtain⟨s,_,f⟩:=List.mem_flatMap.1 h;rcases zZ.1 f with f | f
 .exact base a (List.mem_filter.1 (List.mem_filter.1 f).1).1
 .split at f
  .rename_i e p;simp only[y8]at f;subst f;exact base a (List.mem_filter.1 (List.mem_of_getElem? p)).1
  .simp at f
include hX hr hm in
theorem draw_core (q:plan X ops=some (N,A))(z:Chain X r nt ops l n m Y E)(y:m.map (fun e=>(e.i,e.o))=N)
  (a9:m.Pairwise fun a b=>a.want=true->isEff (cls X b.o.op)=true->(A.getD b.i 0).testBit a.i=false->cls X a.o.op= .L->aL X a.env b.H' a.o.op=some a.v):SimCode P nt (.region i ops true) l n .normal Y E:=by
 intro R fr k cs w C ht W hL;unfold plan at q;simp only[zF]at q;split at q
 .rename_i S;simp only[zB,zQ]at q;obtain⟨a3,a0⟩:=q;rw[<-a3]at y;simp only[rowOk,zE]at S;obtain⟨⟨⟨⟨a1,b0⟩,a2⟩,K⟩,_⟩:=S;have hi:m.map (·.i)=(rowOf X ops (befores ops.toList [])).map (·.1):=by rw[<-y];simp
  have env: ∀e∈m,ops[e.i]? =some e.o:=fun e f=>rowOf_mem (a:=(e.i,e.o)) (by rw[<-y];exact qM.2 ⟨e,f,rfl⟩)
  have T:=pairsOk_ok _ a2;rw[<-y,List.pairwise_map]at T;have hR:Row X r nt ops l n m Y E:=by
   refine⟨z,env,by rw[hi];exact nodupB_ok _ b0,T.imp ?_,a9.imp ?_⟩
   .intro a b s;simp only[pairOk,zE,yW,yS,Bool.or_eq_false_iff]at s;refine⟨fun d envF I=> ?_,fun h3=> ?_⟩
    .simp[envF,I]at s
    .rcases s.2 with u | u
     .exact u
     .rcases h3 with h3 | h3
      .rw[u.1]at h3;simp at h3
      .rw[u.2]at h3;simp at h3
   .intro a b s hw hb b1 hL;rw[<-a0]at s;have a4:((befores ops.toList []).getD b.i 0).testBit a.i=false:=by
     cases hh:((befores ops.toList []).getD b.i 0).testBit a.i with
     | false=>rfl
     | true=>exact absurd hh b1
    exact s hw hb a4 hL
  have a5: ∀j,j<ops.size-> ∃e∈m,e.i=j:=by
   intro j hj;simp only[qY,List.mem_range]at K;have envF:=K j hj;rw[<-hi]at envF;simp only[List.contains_eq_mem,zU,qM]at envF;exact envF
  obtain⟨a6,a7⟩:=schedule_ok a1 (P.follows .mixedOrders) (w.tape w.drawn (.order fr.fn i));have b2:=inv_first hm hR W (hL.drew (w.drawn+1));obtain⟨R1,w1,t1,id,b3,F,b4⟩:=inv_run hX hr hm hR a5 (fr:=fr) (k:=k) (cs:=cs) C _ [] R fr.tmps _ a6 (by simp) b2;have M: ∀e∈m,e.i∈id:=fun e f=>b4 _ (.inr (a7 _ (by
   have:=env e f;exact(Array.getElem?_eq_some_iff.1 this).1)))
  have b5:curH X id m E=E:=curH_all M;have O:=F.rel;have Q:=F.ext;rw[b5]at O Q;refine⟨R1,w1,t1,k,(Steps.one (st_draw C ht)).trans (b3.trans (.one (st_region_end (fr:= { fr with tmps:=t1,todo:= .inRegion ops []::k}) C rfl))),rfl, ?_,O,(Ext.drew R n w _).trans Q⟩;obtain⟨a8,U,b6⟩:=F.env;have b7:(m.map (·.o.dst)).Pairwise (fun a b=> ∀d,a=some d->b≠some d):=List.pairwise_map.2 (hR.pair.imp fun h=>h.1);refine⟨U.size,fun t x Z=> ?_,chain_out z W.out⟩;have:Eng.look Y t=Eng.look a8 t:=by
   obtain⟨envF,I⟩:=chain_last z b7 t;obtain⟨h3,u⟩:=b6 t;by_cases G: ∃e∈m,e.o.dst=some t
   .obtain⟨e,f,V⟩:=G;rw[envF e f V,h3 e f (M e f) V]
   .rw[I (fun p hp J=>G ⟨p,hp,J⟩),u (fun p hp _ J=>G ⟨p,hp,J⟩)]
  rw[this]at Z;exact U.get t x Z
 .simp at q
end
end Go.Eng
end
section
noncomputable section
namespace Go.Eng
inductive Ex where
 | norm (vs:List AV)
 | exit (id:Nat) (vs:List AV)
 | ret (v:AV)
abbrev Rs:=Option (Ex×AH)
def bV (x:Option AV)(K:AV->Rs):Rs:=Option.rec (motive:=fun _=>Rs) none (fun v=>K v) x
def bR (x:Option (AV×AH))(K:AV->AH->Rs):Rs:=Option.rec (motive:=fun _=>Rs) none (fun p=>Prod.rec (motive:=fun _=>Rs) (fun v H=>K v H) p) x
def hd (vs:List AV)(K:AV->List AV->Rs):Rs:=List.rec (motive:=fun _=>Rs) none (fun v l _=>K v l) vs
def cnd (c:AV)(a b:Rs):Rs:=match c with | .bool true=>a | .bool false=>b | _=>none
def jn (x:Rs)(K:List AV->AH->Rs):Rs:=match x with
 | some (.norm vs,H)=>K vs H
 | some (.exit id vs,H)=>some (.exit id vs,H)
 | some (.ret v,H)=>some (.ret v,H)
 | none=>none
def jb (id:Nat)(x:Rs)(K:List AV->AH->Rs):Rs:=match x with
 | some (.norm vs,H)=>K vs H
 | some (.exit i vs,H)=>bif Nat.beq i id then K vs H else some (.exit i vs,H)
 | some (.ret v,H)=>some (.ret v,H)
 | none=>none
def loopK (n:Nat)(b:List AV->AH->Rs):List AV->AH->Rs:=
 Nat.rec (motive:=fun _=>List AV->AH->Rs) (fun _ _=>none) (fun _ a vs H=>jn (b vs H) a) n
def wnt (x:AV)(f:Bool)(a b:Rs):Rs:=bif isW x f then a else b
def chk (x:Option AV)(v:AV)(K:Rs):Rs:=match x with | some y=>bif aveq y v then K else none | none=>none
def newB (H:AH)(o:AObj)(K:Nat->AH->Rs):Rs:=
 match T.get H.h H.next with
 | none=>match T.set 40 H.h H.next o with
  | some t=>fN (Nat.succ H.next) fun m=>K H.next ⟨t,m⟩
  | none=>none
 | some _=>none
def bA (x:Option (AObj×(Nat->AV)))(H:AH)(K:AV->AH->Rs):Rs:=
 match x with
 | some (o,mk)=>newB H o fun A H'=>K (mk A) H'
 | none=>none
def bInt (f:BinOp)(x y:AV):Option AV:=match x with
 | .int k a=>match y with | .int k' b=>abinI f k a k' b | _=>none
 | _=>none
def bStr (a:BinOp)(x y:AV):Option AV:=match x with
 | .str l b=>match y with | .str m c=>abinS a l b m c | _=>none
 | _=>none
def bBool (f:BinOp)(x y:AV):Option AV:=match x with
 | .bool a=>match y with
  | .bool b=>match f with
   | .eql=>mkB (a==b)
   | .neq=>mkB !(a==b)
   | _=>none
  | _=>none
 | _=>none
def cmpO (a:BinOp)(r:Option Bool):Option AV:=match r with
 | some b=>match a with
  | .eql=>mkB b
  | .neq=>mkB !b
  | _=>none
 | none=>none
def eqP (x y:AV):Option Bool:=match x with
 | .nP=>match y with
  | .nP=>some true
  | .ptr _ _=>some false
  | _=>none
 | .ptr A o=>match y with
  | .nP=>some false
  | .ptr B p=>bif Nat.beq A B then some (Nat.beq o p)else none
  | _=>none
 | _=>none
def eqS (x y:AV):Option Bool:=match x with
 | .nS=>match y with
  | .nS=>some true
  | .slice _ _ _ _=>some false
  | _=>none
 | .slice _ _ _ _=>match y with
  | .nS=>some false
  | _=>none
 | _=>none
def eqM (x y:AV):Option Bool:=match x with
 | .nM=>match y with
  | .nM=>some true
  | .map _=>some false
  | _=>none
 | .map _=>match y with
  | .nM=>some false
  | _=>none
 | _=>none
def eqF (x y:AV):Option Bool:=match x with
 | .nilFunc=>match y with
  | .nilFunc=>some true
  | .func _ _ _=>some false
  | _=>none
 | .func _ _ _=>match y with
  | .nilFunc=>some false
  | _=>none
 | _=>none
def eqA (f:List Nat)(x y:AV):Option Bool:=match x with
 | .agg a=>match y with
  | .agg b=>bif Nat.beq (lenL a 0) (lenL b 0)&&Nat.beq f.length (lenL a 0)then cellsEq f a b else none
  | _=>none
 | _=>none
def eqPL (x y:AV)(H:AH):Option Bool:=match x with
 | .nP=>match y with
  | .nP=>some true
  | .ptr _ _=>some false
  | _=>none
 | .ptr A o=>match y with
  | .nP=>some false
  | .ptr B p=>bif Nat.beq A B then some (Nat.beq o p)else bif liveA A H&&liveA B H then some false else none
  | _=>none
 | _=>none
def tBinL (X:Cx)(a:BinOp)(t:TypeId)(x y:AV)(H:AH):Option AV:=
 match X.und t with
 | some (.pointer e)=>match X.size e with
  | some 0=>none
  | some _=>cmpO a (eqPL x y H)
  | none=>none
 | _=>none
def tBin (X:Cx)(a:BinOp)(t:TypeId)(x y:AV):Option AV:=
 match X.und t with
 | some (.int _)=>bInt a x y
 | some .string=>bStr a x y
 | some .bool=>bBool a x y
 | some (.pointer e)=>match X.size e with
  | some 0=>none
  | some _=>cmpO a (eqP x y)
  | none=>none
 | some (.slice _)=>cmpO a (eqS x y)
 | some (.map _ _)=>cmpO a (eqM x y)
 | some (.func _ _ _)=>cmpO a (eqF x y)
 | some (.struct _)=>match flOf t X.fl with | some qs=>cmpO a (eqA qs x y) | none=>none
 | some (.array _ _)=>match flOf t X.fl with | some qs=>cmpO a (eqA qs x y) | none=>none
 | _=>none
def ldN (n:Nat)(p:AV)(H:AH):Option AV:=match p with
 | .ptr A off=>match H.h.get A with
  | some (.cells l _ _ _)=>match subN l off n with | some c=>some (.agg c) | none=>none
  | _=>none
 | _=>none
def ld1 (p:AV)(H:AH):Option AV:=match p with
 | .ptr A off=>match H.h.get A with
  | some (.cells l _ _ _)=>nth l off
  | _=>none
 | _=>none
def tLoad (X:Cx)(t:TypeId)(p:AV)(H:AH):Option AV:=
 match X.und t with
 | some d=>bif isAggD d then(match X.size t with | some n=>ldN n p H | none=>none)else ld1 p H
 | none=>none
def stN (n:Nat)(p x:AV)(H:AH):Option (AV×AH):=match p with
 | .ptr A off=>match H.h.get A with
  | some (.cells l e sz g)=>bif (lenL (cellsA x) 0).beq n&&allCells (cellsA x)&&Nat.blt 0 sz then
    match setAt l off (cellsA x)with
    | some l'=>match putA H A (.cells l' e sz g)with
     | some H'=>some (undefA,H')
     | none=>none
    | none=>none
   else none
  | _=>none
 | _=>none
def tStore (X:Cx)(t:TypeId)(p x:AV)(H:AH):Option (AV×AH):=
 match X.size t with | some n=>stN n p x H | none=>none
def cvI (k:IntKind)(x:AV):Option AV:=match x with | .int _ n=>mkI k n | _=>none
def cvSS (x:AV):Option AV:=match x with | .str l b=>some (.str l b) | _=>none
def tConvP (X:Cx)(a dst:TypeId)(x:AV):Option AV:=
 match X.und a with
 | none=>none
 | some ds=>match X.und dst with
  | some (.int k)=>cvI k x
  | some .string=>match ds with
   | .string=>cvSS x
   | _=>none
  | _=>none
def cvBS (x:AV)(H:AH):Option AV:=match x with
 | .nS=>some (.str 0 0)
 | .slice A off len _=>match H.h.get A with
  | some (.cells l _ _ _)=>match subN l off len with
   | some c=>match textOf c with
    | some (n,b)=>mkS n b
    | none=>none
   | none=>none
  | _=>none
 | _=>none
def tConvL (X:Cx)(a dst:TypeId)(x:AV)(H:AH):Option AV:=
 match X.und a with
 | some (.slice e)=>match X.und dst with
  | some .string=>match X.und e with
   | some (.int .u8)=>cvBS x H
   | _=>none
  | _=>none
 | _=>none
def cvSB (e:TypeId)(x:AV):Option (AObj×(Nat->AV)):=match x with
 | .str l b=>bif Nat.blt l 4611686018427387904 then some (.cells (bytesOf l b) e 1 true,fun A=> .slice A 0 l 1)else none
 | _=>none
def tConvA (X:Cx)(a dst:TypeId)(x:AV):Option (AObj×(Nat->AV)):=
 match X.und a with
 | some .string=>match X.und dst with
  | some (.slice e)=>match X.und e with
   | some (.int .u8)=>cvSB e x
   | _=>none
  | _=>none
 | _=>none
def slStr (x:AV)(lo hi:Option AV):Option AV:=match natOpt lo,natOpt hi with
 | some lo,some hi=>match x with | .str len bits=>acutS len bits lo hi | _=>none
 | _,_=>none
def slSl (sz:Nat)(x:AV)(lo hi a:Option AV)(H:AH):Option AV:=match natOpt lo,natOpt hi,natOpt a with
 | some lo,some hi,some a=>match x with
  | .nS=>bif (lo.getD 0).beq 0&&(hi.getD 0).beq 0&&(a.getD 0).beq 0&&(a.isNone||hi.isSome)then some .nS else none
  | .slice A off len cc=>match H.h.get A with
   | some (.cells l _ sz' g)=>bif Nat.blt 0 sz then acut A off len cc sz (roomOf l g sz' off cc sz) lo hi a else none
   | _=>none
  | .eS=>match a with
   | none=>bif (lo.getD 0).beq 0&&(hi.getD 0).beq 0 then some .eS else none
   | some _=>none
  | _=>none
 | _,_,_=>none
def slArr (n sz:Nat)(x:AV)(lo hi a:Option AV):Option AV:=match natOpt lo,natOpt hi,natOpt a with
 | some lo,some hi,some a=>match x with
  | .ptr A off=>bif Nat.blt 0 sz then acut A off n (2*n) sz n lo hi a else none
  | _=>none
 | _,_,_=>none
def tSlice (X:Cx)(t:TypeId)(x:AV)(lo hi a:Option AV)(H:AH):Option AV:=
 match X.und t with
 | some .string=>match a with | none=>slStr x lo hi | some _=>none
 | some (.slice e)=>match X.size e with | some sz=>slSl sz x lo hi a H | none=>none
 | some (.array n e)=>match X.size e with | some sz=>slArr n sz x lo hi a | none=>none
 | some (.pointer arr)=>match X.und arr with
  | some (.array n e)=>match X.size e with | some sz=>slArr n sz x lo hi a | none=>none
  | _=>none
 | _=>none
def ixArr (n sz:Nat)(x a:AV):Option AV:=match natOf a with
 | some i=>match x with
  | .ptr A off=>bif Nat.blt i n then fN (off+i*sz) fun o=>some (.ptr A o)else none
  | _=>none
 | none=>none
def ixSl (sz:Nat)(x a:AV):Option AV:=match natOf a with
 | some i=>match x with
  | .slice A off len _=>bif Nat.blt i len then fN (off+i*sz) fun o=>some (.ptr A o)else none
  | _=>none
 | none=>none
def tIxAddr (X:Cx)(t:TypeId)(x a:AV):Option AV:=
 match X.und t with
 | some (.array n e)=>match X.size e with | some sz=>ixArr n sz x a | none=>none
 | some (.slice e)=>match X.size e with | some sz=>ixSl sz x a | none=>none
 | _=>none
def ixStr (x a:AV):Option AV:=match natOf a with
 | some i=>match x with
  | .str len bits=>bif Nat.blt i len then fN ((bits / 2 ^ (8*i)) % 256) fun b=>some (.int .u8 (.ofNat b))else none
  | _=>none
 | none=>none
def ixAg1 (n sz:Nat)(x a:AV):Option AV:=match natOf a with
 | some i=>match x with
  | .agg cs=>bif Nat.blt i n then nth cs (i*sz)else none
  | _=>none
 | none=>none
def ixAgN (n sz:Nat)(x a:AV):Option AV:=match natOf a with
 | some i=>match x with
  | .agg cs=>bif Nat.blt i n then match subN cs (i*sz) sz with | some c=>some (.agg c) | none=>none else none
  | _=>none
 | none=>none
def tIndex (X:Cx)(t:TypeId)(x a:AV):Option AV:=
 match X.und t with
 | some .string=>ixStr x a
 | some (.array n e)=>match X.und e,X.size e with
  | some d,some sz=>bif isAggD d then ixAgN n sz x a else ixAg1 n sz x a
  | _,_=>none
 | _=>none
def fd1 (off:Nat)(x:AV):Option AV:=match x with | .agg cs=>nth cs off | _=>none
def fdN (off n:Nat)(x:AV):Option AV:=match x with | .agg cs=>(match subN cs off n with | some c=>some (.agg c) | none=>none) | _=>none
def tField (X:Cx)(t:TypeId)(x:AV)(f:Nat):Option AV:=
 match X.und t with
 | some (.struct fs)=>match nthF fs.toList f with
  | some fl=>match X.und fl.type,X.size fl.type with
   | some d,some n=>bif isAggD d then fdN fl.offset n x else fd1 fl.offset x
   | _,_=>none
  | none=>none
 | _=>none
def fAd (off:Nat)(x:AV):Option AV:=match x with | .ptr A o=>fN (o+off) fun o=>some (.ptr A o) | _=>none
def tFieldAddr (X:Cx)(s:TypeId)(x:AV)(f:Nat):Option AV:=
 match X.und s with
 | some (.struct fs)=>match nthF fs.toList f with
  | some fl=>match X.size fl.type with
   | some 0=>none
   | some _=>fAd fl.offset x
   | none=>none
  | none=>none
 | _=>none
def lnStr (x:AV):Option AV:=match x with | .str l _=>some (.int .i64 (.ofNat l)) | _=>none
def lnSl (x:AV):Option AV:=match x with
 | .nS=>some (.int .i64 (.ofNat 0))
 | .slice _ _ n _=>some (.int .i64 (.ofNat n))
 | .eS=>some (.int .i64 (.ofNat 0))
 | _=>none
def lnMap (x:AV)(H:AH):Option AV:=match x with
 | .nM=>some (.int .i64 (.ofNat 0))
 | .map A=>match H.h.get A with
  | some (.map _ es)=>fN es.length fun n=>some (.int .i64 (.ofNat n))
  | _=>none
 | _=>none
def tLen (X:Cx)(t:TypeId)(x:AV)(H:AH):Option AV:=
 match X.und t with
 | some .string=>lnStr x
 | some (.slice _)=>lnSl x
 | some (.array n _)=>some (.int .i64 (.ofNat n))
 | some (.map _ _)=>lnMap x H
 | _=>none
def apP (e sz bytes:Nat)(s x:AV)(H:AH):Option (AV×AH):=
 match srcOf sz x H with
 | some (n,new)=>bif allCells new then app1 e sz bytes n new s H else none
 | none=>none
def apZ (e sz bytes:Nat)(z:List AV)(s x:AV)(H:AH):Option (AV×AH):=match x with
 | .int .i64 (.ofNat n)=>bif Nat.ble (n*bytes) 281474976710656&&Nat.blt n 4611686018427387904 then app1 e sz bytes n (rep n z) s H else none
 | _=>none
def tApp (X:Cx)(t u:TypeId)(s x:AV)(H:AH):Option (AV×AH):=
 match X.und t with
 | some (.slice e)=>match X.ty.get e with
  | some ti=>match X.und u with
   | some (.slice _)=>bif zeroOk ti.size ti.zero then apP e ti.size ti.bytes s x H else none
   | some .string=>bif zeroOk ti.size ti.zero then apP e ti.size ti.bytes s x H else none
   | some (.int _)=>match zeroA X e with
    | some z=>bif zeroOk ti.size ti.zero&&allCells (cellsA z)then apZ e ti.size ti.bytes (cellsA z) s x H else none
    | none=>none
   | _=>none
  | none=>none
 | _=>none
def cpy (sz:Nat)(dst a:AV)(H:AH):Option (AV×AH):=
 match dst with
 | .nS=>match a with
  | .nS=>some (.int .i64 (.ofNat 0),H)
  | .slice _ _ _ _=>some (.int .i64 (.ofNat 0),H)
  | .str _ _=>some (.int .i64 (.ofNat 0),H)
  | _=>none
 | .slice A off len _=>match srcOf sz a H with
  | some (n,new)=>
   match takeN (Nat.min n len*sz) new with
   | some new=>bif allCells new then
     match H.h.get A with
     | some (.cells l e' sz' g)=>match(bif Nat.blt 0 sz' then setAt l off new else none)with
      | some l'=>match putA H A (.cells l' e' sz' g)with
       | some H'=>fN (Nat.min n len) fun m=>some (.int .i64 (.ofNat m),H')
       | none=>none
      | none=>none
     | _=>none
    else none
   | none=>none
  | none=>none
 | _=>none
def tCopy (X:Cx)(t:TypeId)(dst a:AV)(H:AH):Option (AV×AH):=
 match X.und t with
 | some (.slice e)=>match X.size e with | some sz=>cpy sz dst a H | none=>none
 | _=>none
def bldS (f:List (Nat×Nat))(z:List AV)(a:List (Nat×AV)):Option AV:=
 match fillA (nthP f) z a with | some c=>some (.agg c) | none=>none
def bldA (sz:Nat)(z:List AV)(a:List (Nat×AV)):Option AV:=
 match fillA (fun i=>some (i*sz,sz)) z a with | some c=>some (.agg c) | none=>none
def tBuild (X:Cx)(t:TypeId)(a:Option (List (Nat×AV))):Option AV:=
 match zeroA X t with
 | some z=>match a with
  | some parts=>match X.und t with
   | some (.struct fs)=>match placesA X fs.toList with
    | some pl=>bldS pl (cellsA z) parts
    | none=>none
   | some (.array _ e)=>match X.size e with
    | some sz=>bldA sz (cellsA z) parts
    | none=>none
   | _=>none
  | none=>none
 | none=>none
def pk3 (c a b:Option AV):Option AV:=match c with
 | some (.bool true)=>a
 | some (.bool false)=>b
 | _=>none
def s2a (n:Nat)(x:AV):Option AV:=match x with
 | .slice A off len _=>bif Nat.ble n len then some (.ptr A off)else none
 | _=>none
def tArr (X:Cx)(arr:TypeId)(x:AV):Option AV:=match X.und arr with | some (.array n _)=>s2a n x | _=>none
def bxV (e:TypeId)(x:AV):Option (AObj×(Nat->AV)):=some (.cells (cellsA x) e 1 false,fun A=> .ptr A 0)
def bldL (e sz len:Nat)(z:List AV)(a:List (Nat×AV)):Option (AObj×(Nat->AV)):=
 match fillA (fun i=>some (i*sz,sz)) (rep len z) a with
 | some c=>some (.cells c e sz false,fun A=> .slice A 0 len (2*len))
 | none=>none
def tBuildL (X:Cx)(t:TypeId)(len:Nat)(a:Option (List (Nat×AV))):Option (AObj×(Nat->AV)):=
 match X.und t with
 | some (.slice e)=>match a with
  | some parts=>match X.size e with
   | some sz=>match zeroA X e with
    | some z=>bif Nat.ble (len*sz) 16777216&&Nat.blt 0 sz&&Nat.beq (lenL (cellsA z) 0) sz then bldL e sz len (cellsA z) parts else none
    | none=>none
   | none=>none
  | none=>none
 | _=>none
def mkSl (e sz bytes:Nat)(z:List AV)(l c:AV):Option (AObj×(Nat->AV)):=match l with
 | .int .i64 (.ofNat n)=>match c with
  | .int .i64 (.ofNat m)=>bif Nat.ble n m&&Nat.ble (m*bytes) 140737488355328&&Nat.blt m 9223372036854775808 then
    some (.cells (rep m z) e sz false,fun A=> .slice A 0 n (2*m))else none
  | _=>none
 | _=>none
def tMake (X:Cx)(t:TypeId)(l c:AV):Option (AObj×(Nat->AV)):=
 match X.und t with
 | some (.slice e)=>match X.ty.get e with
  | some ti=>match zeroA X e with
   | some z=>bif Nat.blt 0 ti.size&&Nat.beq (lenL (cellsA z) 0) ti.size then mkSl e ti.size ti.bytes (cellsA z) l c else none
   | none=>none
  | none=>none
 | _=>none
def tLk (X:Cx)(t:TypeId)(ok:Bool)(x k:AV)(H:AH):Option AV:=match X.und t with
 | some (.map kt et)=>match kOf X kt,zeroA X et with
  | some ks,some z=>lkM ks z ok x k H
  | _,_=>none
 | _=>none
def tUp (X:Cx)(t:TypeId)(x k v:AV)(H:AH):Option (AV×AH):=match X.und t with
 | some (.map kt _)=>match kOf X kt with
  | some ks=>upM ks x k v H
  | none=>none
 | _=>none
def tDl (X:Cx)(t:TypeId)(x k:AV)(H:AH):Option (AV×AH):=match X.und t with
 | some (.map kt _)=>match kOf X kt with
  | some ks=>dlM ks x k H
  | none=>none
 | _=>none
def mkM (ks:List Nat):Option (AObj×(Nat->AV)):=some (.map ks [],fun A=> .map A)
def tMkM (X:Cx)(t:TypeId):Option (AObj×(Nat->AV)):=match X.und t with
 | some (.map kt _)=>match kOf X kt with
  | some ks=>mkM ks
  | none=>none
 | _=>none
def q3 {α:Type}(x y z:Option AV)(f:AV->AV->AV->Option α):Option α:=match x with
 | some a=>match y with
  | some b=>match z with | some c=>f a b c | none=>none
  | none=>none
 | none=>none
def q1 {α:Type}(x:Option AV)(f:AV->Option α):Option α:=match x with | some a=>f a | none=>none
def q2 {α:Type}(x y:Option AV)(f:AV->AV->Option α):Option α:=match x with
 | some a=>match y with | some b=>f a b | none=>none
 | none=>none
structure Dyn where
 fn:FuncId->List AV->AH->Option (AV×AH)
 yld:Nat->List AV->AH->Option (AV×AH)
structure Tb where
 X:Cx
 S:List (Nat×(List AV->AH->Option (AV×AH)))
def callG (S:List (Nat×(List AV->AH->Option (AV×AH))))(D:Dyn)(g:FuncId)(a:List AV)(H:AH):Option (AV×AH):=match S with
 | []=>D.fn g a H
 | (i,m)::S=>bif Nat.beq i g then m a H else callG S D g a H
def callV (S:List (Nat×(List AV->AH->Option (AV×AH))))(D:Dyn)(f:AV)(a:List AV)(H:AH):Option (AV×AH):=match f with
 | .func g first cap=>callG S D g (first++a++cap) H
 | .yT A=>D.yld A a H
 | _=>none
def callO (B:Tb)(D:Dyn)(env:Env)(H:AH)(f:Operand)(args:List Operand):Option (AV×AH):=
 match opds env args with
 | some az=>match f with
  | .func g=>callG B.S D g az H
  | .tmp t=>match look env t with | some v=>callV B.S D v az H | none=>none
  | _=>none
 | none=>none
def opK (B:Tb)(D:Dyn)(env:Env)(H:AH)(K:AV->AH->Rs):Op->Rs
 | .move x=>match opd env x with | some v=>K v H | none=>none
 | .assign x=>match opd env x with | some v=>K v H | none=>none
 | .pick c a b=>bV (pk3 (opd env c) (opd env a) (opd env b)) fun v=>K v H
 | .build t ps=>bV (tBuild B.X t (partsA env ps.toList)) fun v=>K v H
 | .nilCheck x=>bV (q1 (opd env x) pNil) fun v=>K v H
 | .binOp op t x y _=>bif ptrCmp B.X t x y then bV (q2 (opd env x) (opd env y) (tBinL B.X op t · · H)) fun v=>K v H
  else bV (q2 (opd env x) (opd env y) (tBin B.X op t)) fun v=>K v H
 | .unOp op _ x=>bV (q1 (opd env x) (aun op)) fun v=>K v H
 | .makeFunc (.func f) first cap=>match opds env first.toList with
  | some a=>match opds env cap.toList with
   | some b=>K (.func f a b) H
   | none=>none
  | none=>none
 | .fieldAddr s x f=>bV (q1 (opd env x) (tFieldAddr B.X s · f)) fun v=>K v H
 | .field t x f=>bV (q1 (opd env x) (tField B.X t · f)) fun v=>K v H
 | .indexAddr t x i=>bV (q2 (opd env x) (opd env i) (tIxAddr B.X t)) fun v=>K v H
 | .index t x i=>bV (q2 (opd env x) (opd env i) (tIndex B.X t)) fun v=>K v H
 | .sliceToArrayPointer arr x=>bV (q1 (opd env x) (tArr B.X arr)) fun v=>K v H
 | .extract x i=>bV (q1 (opd env x) (pExtract · i)) fun v=>K v H
 | .load t a=>bV (q1 (opd env a) (tLoad B.X t · H)) fun v=>K v H
 | .slice t x lo hi mx=>match optOf env lo,optOf env hi,optOf env mx with
  | some lo,some hi,some mx=>bV (q1 (opd env x) (tSlice B.X t · lo hi mx H)) fun v=>K v H
  | _,_,_=>none
 | .convert s d x=>match clsConv B.X s d with
  | .P=>bV (q1 (opd env x) (tConvP B.X s d)) fun v=>K v H
  | .L=>bV (q1 (opd env x) (tConvL B.X s d · H)) fun v=>K v H
  | .A=>bA (q1 (opd env x) (tConvA B.X s d)) H K
  | _=>none
 | .alloc e=>match zeroA B.X e with | some z=>bA (bxV e z) H K | none=>none
 | .box e x=>bA (q1 (opd env x) (bxV e)) H K
 | .buildSlice t len ps=>bA (tBuildL B.X t len (partsA env ps.toList)) H K
 | .makeSlice t l c=>bA (q2 (opd env l) (opd env c) (tMake B.X t)) H K
 | .lookup t x k ok=>bV (q2 (opd env x) (opd env k) (tLk B.X t ok · · H)) fun v=>K v H
 | .makeMap t none=>bA (tMkM B.X t) H K
 | .mapUpdate t m k v=>bR (q3 (opd env m) (opd env k) (opd env v) (tUp B.X t · · · H)) K
 | .store t a x=>bR (q2 (opd env a) (opd env x) (tStore B.X t · · H)) K
 | .call c=>match c.callee with
  | .value f=>bR (callO B D env H f c.args.toList) K
  | .builtin .len=>match c.args.toList,c.argTypes.toList with
   | [x],t::_=>bV (q1 (opd env x) (tLen B.X t · H)) fun v=>K v H
   | _,_=>none
  | .builtin .cap=>match c.args.toList,c.argTypes.toList with
   | [x],t::_=>bV (q1 (opd env x) (acap B.X t)) fun v=>K v H
   | _,_=>none
  | .builtin .append=>match c.args.toList,c.argTypes.toList with
   | [s,x],[t,u]=>bR (q2 (opd env s) (opd env x) (tApp B.X t u · · H)) K
   | _,_=>none
  | .builtin .copy=>match c.args.toList,c.argTypes.toList with
   | [s,x],t::_=>bR (q2 (opd env s) (opd env x) (tCopy B.X t · · H)) K
   | _,_=>none
  | .builtin .min=>match c.args.toList with
   | [x,y]=>bV (q2 (opd env x) (opd env y) mn2) fun v=>K v H
   | _=>none
  | .builtin .max=>match c.args.toList with
   | [x,y]=>bV (q2 (opd env x) (opd env y) mx2) fun v=>K v H
   | _=>none
  | .builtin .delete=>match c.args.toList,c.argTypes.toList with
   | [m,k],t::_=>bR (q2 (opd env m) (opd env k) (tDl B.X t · · H)) K
   | _,_=>none
  | .builtin .clear=>match c.args.toList,c.argTypes.toList with
   | [m],t::_=>bR (q1 (opd env m) (acl B.X t · H)) K
   | _,_=>none
  | _=>none
 | _=>none
def pck (L:List Nat)(env:Env)(K:List AV->Rs):Rs:=match L with
 | []=>K []
 | l::L=>match env l with
  | some v=>pck L env fun vs=>K (v::vs)
  | none=>none
def unp (L:List Nat)(vs:List AV)(env:Env)(K:Env->Rs):Rs:=match L with
 | []=>K env
 | l::L=>hd vs fun v vs=>unp L vs (upd env l v) K
def nl (vs:List AV)(K:Rs):Rs:=match vs with | []=>K | _::_=>none
def unpA (k i:Nat)(vs:List AV)(env:Env)(K:Env->Rs):Rs:=match k with
 | 0=>nl vs (K env)
 | k+1=>hd vs fun v vs=>unpA k (i+1) vs (upd env i v) K
def dropE (L:List Nat)(env:Env):Env:=match L with
 | []=>env
 | l::L=>fun t=>bif Nat.beq t l then none else dropE L env t
def setE (nt:Nat)(env:Env)(d:Option Tmp)(v:AV)(K:Env->Rs):Rs:=match d with
 | some d=>bif Nat.blt d nt then K (upd env d v)else none
 | none=>K env
def isL (X:Cx)(o:Op):Bool:=match cls X o with | .L=>true | _=>false
def mayTurn (X:Cx)(o:Op):Bool:=match o with
 | .load _ _=>true
 | .lookup _ _ _ _=>true
 | .slice t _ _ _ _=>match X.und t with | some (.slice _)=>true | _=>false
 | .convert _ _ _=>isL X o
 | .binOp _ t x y _=>ptrCmp X t x y
 | .call c=>match c.callee with
  | .builtin .len=>match c.argTypes.toList with
   | t::_=>match X.und t with | some (.map _ _)=>true | _=>false
   | _=>false
  | _=>false
 | _=>false
def tbit (m i:Nat):Bool:=Nat.rec (motive:=fun _=>Nat->Bool) (fun m=>Nat.beq (Nat.mod m 2) 1) (fun _ a m=>a (Nat.div m 2)) i m
theorem tbit_eq (m i:Nat):tbit m i=m.testBit i:=by
 induction i generalizing m with
 | zero=>
  rw[Nat.testBit_zero];show Nat.beq (m % 2) 1=_;rw[yG,zX,zU]
 | succ i ih=>rw[Nat.testBit_succ,<-ih];rfl
def sameG:Option (Nat×Bool)->Option (Nat×Bool)->Bool
 | some (i,a),some (j,b)=>Nat.beq i j&&(a==b)
 | _,_=>false
def spanG (g:Option (Nat×Bool)):List (Nat×Oper)->List (Nat×Oper)×List (Nat×Oper)
 | []=>([],[])
 | o::l=>bif sameG g o.2.guard then(match spanG g l with | (a,b)=>(o::a,b))else([],o::l)
def slotsOf (ops:Array Oper)(l:List (Nat×Oper)):List Nat:=l.flatMap fun a=>namesOf ops a.2
def outOf (ops:Array Oper)(run rest:List (Nat×Oper)):List Nat:=
 let s:=slotsOf ops rest
 run.filterMap fun a=>match a.2.dst with
  | some d=>bif s.contains d then some d else none
  | none=>none
def dstsOf (run:List (Nat×Oper)):List Nat:=run.filterMap fun a=>a.2.dst
def runOk (X:Cx)(masks:Option (List Nat))(run rest:List (Nat×Oper)):Bool:=match masks with
 | none=>true
 | some ms=>run.all fun a=> !mayTurn X a.2.op||rest.all fun b=> !isEff (cls X b.2.op)||tbit (ms.getD b.1 0) a.1
def guardV (ops:Array Oper)(env:Env)(j:Nat):Option AV:=match nthO ops.toList j with
 | some p=>match p.dst with
  | some d=>look env d
  | none=>none
 | none=>none
structure Seen where
 i:Nat
 rd:AH->Option AV
 v:AV
def rdOf (B:Tb)(env:Env)(o:Op)(H:AH):Option AV:=match o with
 | .load t a=>q1 (opd env a) (tLoad B.X t · H)
 | .lookup t x k ok=>q2 (opd env x) (opd env k) (tLk B.X t ok · · H)
 | .slice t x lo hi mx=>match optOf env lo,optOf env hi,optOf env mx with
  | some lo,some hi,some mx=>q1 (opd env x) (tSlice B.X t · lo hi mx H)
  | _,_,_=>none
 | .convert s d x=>q1 (opd env x) (tConvL B.X s d · H)
 | .binOp op t x y _=>q2 (opd env x) (opd env y) (tBinL B.X op t · · H)
 | .call c=>match c.args.toList,c.argTypes.toList with
  | [x],t::_=>q1 (opd env x) (tLen B.X t · H)
  | _,_=>none
 | _=>none
def chks (a:Nat)(H:AH)(K:Rs):List Seen->Rs
 | []=>K
 | s::l=>bif tbit a s.i then chks a H K l else chk (s.rd H) s.v (chks a H K l)
def seenK (B:Tb)(masks:List Nat)(env:Env)(sn:List Seen)(i:Nat)(o:Op)(v:AV)(H':AH)(K:List Seen->Rs):Rs:=
 bif isEff (cls B.X o)then chks (masks.getD i 0) H' (K sn) sn
 else bif mayTurn B.X o then K (sn++[⟨i,rdOf B env o,v⟩])else K sn
def rowK (B:Tb)(D:Dyn)(nt:Nat)(masks:Option (List Nat))(K:List Seen->Env->AH->Rs):List (Nat×Oper)->List Seen->Env->AH->Rs
 | [],sn,env,H=>K sn env H
 | (i,o)::rest,sn,env,H=>opK B D env H (fun v H'=>match masks with
   | none=>setE nt env o.dst v fun env'=>rowK B D nt masks K rest sn env' H'
   | some ms=>seenK B ms env sn i o.op v H' fun sn=>setE nt env o.dst v fun env'=>rowK B D nt masks K rest sn env' H') o.op
def freeG (nt:Nat)(ops:Array Oper)(j:Nat)(run:List (Nat×Oper)):Bool:=match nthO ops.toList j with
 | some p=>match p.dst with
  | some d=> !(dstsOf run).contains d&&(dstsOf run).all fun d=>Nat.blt d nt
  | none=>false
 | none=>false
def skipK (X:Cx)(masks:Option (List Nat))(sn:List Seen)(H:AH)(K:Rs):List (Nat×Oper)->Rs
 | []=>K
 | b::run=>match masks with
  | none=>skipK X masks sn H K run
  | some ms=>bif isEff (cls X b.2.op)then chks (ms.getD b.1 0) H (skipK X masks sn H K run) sn else skipK X masks sn H K run
def runK (B:Tb)(D:Dyn)(nt:Nat)(ops:Array Oper)(masks:Option (List Nat))(g:AV)(a:Bool)(run:List (Nat×Oper))(out:List Nat)(sn:List Seen)(env:Env)(H:AH)(K:Env->AH->Rs):Rs:=
 jn (wnt g a (rowK B D nt masks (fun _ env H=>pck out env fun vs=>some (.norm vs,H)) run sn env H)
   (skipK B.X masks sn H (some (.norm (out.map fun _=>undefA),H)) run))
  fun vs H=>unp out vs (dropE (dstsOf run) env) fun env=>K env H
def runW (B:Tb)(D:Dyn)(nt:Nat)(masks:Option (List Nat))(g:AV)(a:Bool)(run:List (Nat×Oper))(out:List Nat)(sn:List Seen)(env:Env)(H:AH)(K:List Seen->Env->AH->Rs):Rs:=
 wnt g a (rowK B D nt masks K run sn env H)
  (skipK B.X masks sn H (unp out (out.map fun _=>undefA) (dropE (dstsOf run) env) fun env=>K sn env H) run)
def opsK (B:Tb)(D:Dyn)(nt:Nat)(ops:Array Oper)(masks:Option (List Nat))(f:Nat)(K:Env->AH->Rs):List (Nat×Oper)->List Seen->Env->AH->Rs:=
 Nat.rec (motive:=fun _=>List (Nat×Oper)->List Seen->Env->AH->Rs) (fun _ _ _ _=>none)
  (fun _ a l sn env H=>match l with
   | []=>K env H
   | (i,o)::rest=>match o.guard with
    | none=>rowK B D nt masks (fun sn env H=>a rest sn env H) [(i,o)] sn env H
    | some (j,want)=>match guardV ops env j with
     | none=>none
     | some g=>match spanG o.guard rest with
      | (run,rest)=>bif freeG nt ops j ((i,o)::run)then
        bif runOk B.X masks ((i,o)::run) rest then
         runK B D nt ops masks g want ((i,o)::run) (outOf ops ((i,o)::run) rest) sn env H fun env H=>a rest sn env H
        else runW B D nt masks g want ((i,o)::run) (outOf ops ((i,o)::run) rest) sn env H fun sn env H=>a rest sn env H
       else none) f
def idx (l:List Oper):Nat->List (Nat×Oper):=match l with
 | []=>fun _=>[]
 | o::l=>fun n=>(n,o)::idx l (n+1)
def regK (B:Tb)(D:Dyn)(nt:Nat)(ops:Array Oper)(a:Bool)(K:Env->AH->Rs)(env:Env)(H:AH):Rs:=
 bif a then
  match plan B.X ops with
  | some (row,masks)=>opsK B D nt ops (some masks) (Nat.succ row.length) K row [] env H
  | none=>none
 else opsK B D nt ops none (Nat.succ ops.size) K (idx ops.toList 0) [] env H
inductive Hint where
 | o
 | s (a b:Hint)
 | c (L:List Nat) (a b:Hint)
 | cl (a b:Hint)
 | cr (a b:Hint)
 | b (L:List Nat) (a:Hint)
 | b0 (a:Hint)
 | l (L:List Nat) (a:Hint)
 | rf (s:Nat) (L:List Nat)
 | t (L:List Nat) (m:List AV->AH->Option AH)
def liveOf (Bk:List (Nat×List Nat))(id:Nat):Option (List Nat):=match Bk with
 | []=>none
 | (i,L)::r=>bif Nat.beq i id then some L else liveOf r id
def dropB (Bk:List (Nat×List Nat))(id:Nat):List (Nat×List Nat):=Bk.filter fun x=> !Nat.beq x.1 id
def resE (X:Cx)(env:Env)(H:AH):ResultVar->Option AV
 | .tmp t=>env t
 | .cell a t=>q1 (env a) (tLoad X t · H)
def retK (X:Cx)(rs:List ResultVar)(env:Env)(H:AH)(K:List AV->Rs):Rs:=match rs with
 | []=>K []
 | r::rs=>bV (resE X env H r) fun v=>retK X rs env H fun vs=>K (v::vs)
def tupV:List AV->AV
 | [v]=>v
 | vs=> .tuple vs
def retE (X:Cx)(rs:List ResultVar)(env:Env)(H:AH):Rs:=retK X rs env H fun vs=>some (.ret (tupV vs),H)
def rfC (S:List (Nat×(List AV->AH->Option (AV×AH))))(D:Dyn)(f:AV)(A:Nat)(H:AH):Option (AV×AH):=match f with
 | .func g first cap=>callG S D g (first++[.yT A]++cap) H
 | _=>none
def beginK (A:Nat)(H:AH)(K:AH->Rs):Rs:=match H.h.get A with
 | some (.loop l)=>match l.state with
  | .ready=>match putA H A (.loop { l with state:= .busy})with
   | some H'=>K H'
   | none=>none
  | _=>none
 | _=>none
def endR (A:Nat)(a:Option Code)(H:AH):Option (AV×AH):=match H.h.get A with
 | some (.loop l)=>match a with
  | none=>match putA H A (.loop { l with state:= .ready,pending:=none})with
   | some H'=>some (.bool true,H')
   | none=>none
  | some j=>match putA H A (.loop { l with state:= .done,pending:=some j})with
   | some H'=>some (.bool false,H')
   | none=>none
 | _=>none
def endQ (A:Nat)(x:Rs):Option (AV×AH):=match x with
 | some (.norm _,H)=>endR A none H
 | some (.exit id _,H)=>endR A (some (.exit id)) H
 | some (.ret _,H)=>endR A (some .ret) H
 | none=>none
def endLp (A:Nat)(H:AH)(K:Option Code->AH->Rs):Rs:=match H.h.get A with
 | some (.loop l)=>match l.state with
  | .busy=>none
  | _=>match putA H A .dead with
   | some H'=>K l.pending H'
   | none=>none
 | _=>none
def jmpK (j:Option Code)(a:Rs)(f:Nat->Rs)(h:Rs):Rs:=match j with
 | none=>a
 | some (.exit id)=>f id
 | some .ret=>h
 | _=>none
def exS (Bk:List (Nat×List Nat))(env:Env)(H:AH)(id:Nat):Rs:=match Bk with
 | []=>none
 | (i,L)::r=>bif Nat.beq i id then(pck L env fun vs=>some (.exit id vs,H))else exS r env H id
def unpP (nt:Nat)(h:List Nat)(f:List AV)(env:Env)(K:Env->Rs):Rs:=match h with
 | []=>nl f (K env)
 | p::h=>hd f fun a f=>bif Nat.blt p nt then unpP nt h f (upd env p a) K else none
def tld (x:Option AH)(N:Nat)(K:AH->Rs):Rs:=match x with
 | some H=>bif Nat.ble N H.next then K H else none
 | none=>none
def codeK (B:Tb)(D:Dyn)(n nt:Nat)(rs:List ResultVar)(f0:FuncId)(ro:Bool):Code->Hint->List (Nat×List Nat)->(Env->AH->Rs)->Env->AH->Rs
 | .skip,_,_,K,env,H=>K env H
 | .label _,_,_,K,env,H=>K env H
 | .region _ ops draw,_,_,K,env,H=>regK B D nt ops draw K env H
 | .seq a b, .s ha hb,Bk,K,env,H=>codeK B D n nt rs f0 ro a ha Bk (codeK B D n nt rs f0 ro b hb Bk K) env H
 | .seq _ _, .t L m,_,K,env,H=>pck L env fun vs=>tld (m vs H) H.next fun H=>unp L vs env0 fun env=>K env H
 | .cond c a b, .c L ha hb,Bk,K,env,H=>match opd env c with
  | some v=>jn (cnd v (codeK B D n nt rs f0 ro a ha Bk (fun env H=>pck L env fun vs=>some (.norm vs,H)) env H)
    (codeK B D n nt rs f0 ro b hb Bk (fun env H=>pck L env fun vs=>some (.norm vs,H)) env H)) fun vs H=>unp L vs env0 fun env=>K env H
  | none=>none
 | .cond c a b, .cl ha hb,Bk,K,env,H=>match opd env c with
  | some v=>cnd v (codeK B D n nt rs f0 ro a ha Bk (fun _ _=>none) env H) (codeK B D n nt rs f0 ro b hb Bk K env H)
  | none=>none
 | .cond c a b, .cr ha hb,Bk,K,env,H=>match opd env c with
  | some v=>cnd v (codeK B D n nt rs f0 ro a ha Bk K env H) (codeK B D n nt rs f0 ro b hb Bk (fun _ _=>none) env H)
  | none=>none
 | .block id b, .b L hb,Bk,K,env,H=>
  jb id (codeK B D n nt rs f0 ro b hb ((id,L)::Bk) (fun env H=>pck L env fun vs=>some (.norm vs,H)) env H) fun vs H=>unp L vs env0 fun env=>K env H
 | .block id b, .b0 hb,Bk,K,env,H=>codeK B D n nt rs f0 ro b hb (dropB Bk id) K env H
 | .loop b, .l L hb,Bk,_,env,H=>pck L env fun vs=>
  loopK n (fun vs H=>unp L vs env0 fun env=>codeK B D n nt rs f0 ro b hb Bk (fun env H=>pck L env fun vs=>some (.norm vs,H)) env H) vs H
 | .exit id,_,Bk,_,env,H=>match liveOf Bk id with
  | some L=>pck L env fun vs=>some (.exit id vs,H)
  | none=>none
 | .ret,_,_,_,env,H=>retE B.X rs env H
 | .rangeFunc f _ _ _, .rf s L,Bk,K,env,H=>bif ro then none else match opd env f with
  | some fv=>pck L env fun vs=>newB H (.loop ⟨.ready,none,f0,s,L,vs⟩) fun A H=>bR (rfC B.S D fv A H) fun _ H=>
    endLp A H fun j H=>jmpK j (K env H) (exS Bk env H) (retE B.X rs env H)
  | none=>none
 | _,_,_,_,_,_=>none
def outR (x:Rs):Option (AV×AH):=match x with | some (.ret v,H)=>some (v,H) | _=>none
def rdK (B:Tb)(D:Dyn)(n:Nat)(f0:FuncId)(nt:Nat)(h:Array Tmp)(a body:Code)(L f:List Nat)(j hb:Hint)(A:Nat)(l:ALoop)(m:List AV)(H:AH):Option (AV×AH):=
 bif eqNL L l.live then
  endQ A (unp L l.vals env0 fun env=>unpP nt h.toList m env fun env=>
   codeK B D n nt [] f0 true a j [] (fun env H=>beginK A H fun H=>codeK B D n nt [] f0 true body hb (f.map fun i=>(i,[])) (fun _ H=>some (.norm [],H)) env H) env H)
 else none
def rndK (B:Tb)(D:Dyn)(n:Nat)(f0:FuncId)(s:Nat)(L a:List Nat)(f hb:Hint)(A:Nat)(l:ALoop)(h:List AV)(H:AH):Option (AV×AH):=
 match siteC f0 s with
 | some (nt,ps,asg,body)=>rdK B D n f0 nt ps asg body L a f hb A l h H
 | none=>none
def rdOfT (t:List ((Nat×Nat)×(Nat->ALoop->List AV->AH->Option (AV×AH))))(A:Nat)(a:List AV)(H:AH):Option (AV×AH):=
 match H.h.get A with
 | some (.loop l)=>go l t
 | _=>none
where go (l:ALoop):List ((Nat×Nat)×(Nat->ALoop->List AV->AH->Option (AV×AH)))->Option (AV×AH)
 | []=>none
 | ((f,s),m)::t=>bif Nat.beq f l.fn&&Nat.beq s l.site then m A l a H else go l t
def funK (B:Tb)(D:Dyn)(n:Nat)(f0:FuncId)(a:Func)(h:Hint)(f:List AV)(H:AH):Option (AV×AH):=
 match a.body with
 | some body=>bif Nat.ble (a.params.size+a.nfree) a.ntmps then outR (unpA (a.params.size+a.nfree) 0 f env0 fun env=>codeK B D n a.ntmps a.results.toList f0 false body h [] (fun env H=>retE B.X a.results.toList env H) env H)else none
 | none=>none
end Go.Eng
end
end
section
namespace Go.Eng
theorem bV_some {K:AV->Rs}{out:Ex×AH}(h:bV J K=some out): ∃v,J=some v/\K v=some out:=by
 cases J with
 | none=>exact absurd h (by simp[bV])
 | some v=>exact⟨_,rfl,h⟩
theorem bR_some {x:Option (AV×AH)}{K:AV->AH->Rs}{out:Ex×AH}(h:bR x K=some out): ∃v H,x=some (v,H)/\K v H=some out:=by
 cases x with
 | none=>exact absurd h (by simp[bR])
 | some p=>obtain⟨v,H⟩:=p;exact⟨_,_,rfl,h⟩
theorem bA_some {K:AV->AH->Rs}{out:Ex×AH}(h:bA j n K=some out): ∃v H',wA n j=some (v,H')/\K v H'=some out:=by
 unfold bA at h;split at h
 .rename_i o i;unfold newB at h;split at h
  .rename_i a;split at h
   .rename_i t f;rw[fN_eq]at h;refine⟨_,_, ?_,h⟩;simp only[wA,newA,a,newA0,f]
   .simp at h
  .simp at h
 .simp at h
theorem q1_some {α:Type}{f:AV->Option α}{r:α}(h:q1 J f=some r): ∃a,J=some a/\f a=some r:=by
 unfold q1 at h;split at h
 .exact⟨_,rfl,h⟩
 .simp at h
theorem q2_some {α:Type}{y:Option AV}{f:AV->AV->Option α}{r:α}(h:q2 J y f=some r): ∃a b,J=some a/\y=some b/\f a b=some r:=by
 unfold q2 at h;split at h
 .split at h
  .exact⟨_,_,rfl,rfl,h⟩
  .simp at h
 .simp at h
section
variable {X:Cx}
theorem cmpO_some {q:Option Bool}(a:cmpO u q=some h): ∃b,q=some b/\((u= .eql/\mkB b=some h)\/(u= .neq/\mkB (!b)=some h)):=by
 unfold cmpO at a;split at a
 .split at a
  .exact⟨_,rfl, .inl ⟨rfl,a⟩⟩
  .exact⟨_,rfl, .inr ⟨rfl,a⟩⟩
  .simp at a
 .simp at a
theorem abinE_of (t:aeq X 9 k h p=some U)(a:(u= .eql/\mkB U=some L)\/(u= .neq/\mkB (!U)=some L)):abinE X u k h p=some L:=by
 unfold abinE;rcases a with⟨rfl,a⟩ | ⟨rfl,a⟩<;>simp only[t,a]
theorem eqA_ok (m:flOf k X.fl=some A)(i:cmpO u (eqA A h p)=some L):abin X u k h p=some L:=by
 obtain⟨b,hb,f⟩:=cmpO_some i;unfold eqA at hb;split at hb
 .rename_i a;split at hb
  .rename_i c;rw[zF]at hb;split at hb
   .rename_i o;show abinG X u k a c=some L;simp only[abinG,m,o,zP,hb];rcases f with⟨rfl,f⟩ | ⟨rfl,f⟩
    .exact f
    .exact f
   .simp at hb
  .simp at hb
 .simp at hb
theorem tBin_ok (t:tBin X u k h p=some L):abin X u k h p=some L:=by
 unfold tBin at t;split at t
 .unfold bInt at t;split at t
  .split at t
   .exact t
   .simp at t
  .simp at t
 .unfold bStr at t;split at t
  .split at t
   .exact t
   .simp at t
  .simp at t
 .rename_i f;unfold bBool at t;split at t
  .rename_i a;split at t
   .rename_i b;have o:aeq X 9 k (.bool a) (.bool b)=some (a==b):=by simp only[aeq,f]
    show(bif eqable (.bool a)then abinE X u k (.bool a) (.bool b)else none)=some L;simp only[eqable,zP];split at t
    .exact abinE_of o (.inl ⟨rfl,t⟩)
    .exact abinE_of o (.inr ⟨rfl,t⟩)
    .simp at t
   .simp at t
  .simp at t
 .rename_i e f;split at t
  .simp at t
  .rename_i n v x;obtain⟨b,hb,i⟩:=cmpO_some t;have key: ∀h p,eqP h p=some b->aeq X 9 k h p=some b/\eqable h=true:=by
    intro h p hb;unfold eqP at hb;split at hb
    .split at hb<;>simp_all [aeq,f,eqable]
    .split at hb
     .simp_all [aeq,f,eqable]
     .simp only[aeq,f,x,eqable];exact⟨hb,trivial⟩
     .simp at hb
    .simp at hb
   obtain⟨k1,k2⟩:=key h p hb;have k3:=abinE_of k1 i;unfold abin;split
   .simp[eqable]at k2
   .simp[eqable]at k2
   .simp[eqable]at k2
   .rw[k2];exact k3
  .simp at t
 .rename_i e f;obtain⟨b,hb,i⟩:=cmpO_some t;have key:aeq X 9 k h p=some b/\eqable h=true:=by
   unfold eqS at hb;split at hb
   .split at hb<;>simp_all [aeq,f,eqable]
   .split at hb<;>simp_all [aeq,f,eqable]
   .simp at hb
  obtain⟨k1,k2⟩:=key;have k3:=abinE_of k1 i;unfold abin;split
  .simp[eqable]at k2
  .simp[eqable]at k2
  .simp[eqable]at k2
  .rw[k2];exact k3
 .rename_i q s f;obtain⟨b,hb,i⟩:=cmpO_some t;have key:aeq X 9 k h p=some b/\eqable h=true:=by
   unfold eqM at hb;split at hb
   .split at hb<;>simp_all [aeq,f,eqable]
   .split at hb<;>simp_all [aeq,f,eqable]
   .simp at hb
  obtain⟨k1,k2⟩:=key;have k3:=abinE_of k1 i;unfold abin;split
  .simp[eqable]at k2
  .simp[eqable]at k2
  .simp[eqable]at k2
  .rw[k2];exact k3
 .rename_i q s z f;obtain⟨b,hb,i⟩:=cmpO_some t;have key:aeq X 9 k h p=some b/\eqable h=true:=by
   unfold eqF at hb;split at hb
   .split at hb<;>simp_all [aeq,f,eqable]
   .split at hb<;>simp_all [aeq,f,eqable]
   .simp at hb
  obtain⟨k1,k2⟩:=key;have k3:=abinE_of k1 i;unfold abin;split
  .simp[eqable]at k2
  .simp[eqable]at k2
  .simp[eqable]at k2
  .rw[k2];exact k3
 .split at t
  .rename_i j m;exact eqA_ok m t
  .simp at t
 .split at t
  .rename_i j m;exact eqA_ok m t
  .simp at t
 .simp at t
theorem tBinL_ok (t:tBinL X u k h p n=some L):abinL X u k h p n=some L:=by
 unfold tBinL at t;split at t
 .rename_i e i;split at t
  .simp at t
  .rename_i y s j;have I:y≠0:=fun v=>s (by rw[v])
   obtain⟨m,rfl⟩: ∃m,y=m+1:=⟨y - 1,by omega⟩;have z:tBin X u k h p=cmpO u (eqP h p):=by simp only[tBin,i,j]
   have key:tBin X u k h p=some L\/ ∃A o B x,h= .ptr A o/\p= .ptr B x/\Nat.beq A B=false/\liveA A n=true/\liveA B n=true/\cmpO u (some false)=some L:=by
    rw[z]
    cases h<;>cases p<;>simp only[eqPL]at t<;>first | exact .inl t | (simp[cmpO]at t;done) | skip
    rename_i A o B x
    cases f:Nat.beq A B with
    | true=>left;simp only[f,zP,eqP]at t⊢;exact t
    | false=>
     simp only[f,y9]at t
     cases hl:(liveA A n&&liveA B n)with
     | true=>
      rw[hl]at t;simp only[zP]at t;rw[zE]at hl;exact .inr ⟨A,o,B,x,rfl,rfl,f,hl.1,hl.2,t⟩
     | false=>rw[hl]at t;simp[cmpO]at t
   rcases key with C | ⟨A,o,B,x,rfl,rfl,f,F,G,q⟩
   .unfold abinL;rw[tBin_ok C]
   .have a:abin X u k (.ptr A o) (.ptr B x)=none:=by
     show(bif eqable (.ptr A o)then abinE X u k (.ptr A o) (.ptr B x)else none)=none;simp only[eqable,zP];unfold abinE
     cases u<;>simp only[aeq,i,j,f,y9]
    unfold abinL;rw[a];simp only[i,j,pNe,F,G,f,Bool.not_false,qJ,zP]
    cases u<;>first | exact q | (simp[cmpO]at q;done)
  .simp at t
 .simp at t
theorem tLoad_ok (t:tLoad X k h n=some p):aload X k h n=some p:=by
 unfold tLoad at t;split at t
 .rename_i d hd;rw[zF]at t;split at t
  .rename_i a;split at t
   .rename_i r i;unfold ldN at t;split at t
    .split at t
     .rename_i f;simp only[aload,f,hd,a,zP,i];exact t
     .simp at t
    .simp at t
   .simp at t
  .rename_i a;unfold ld1 at t;split at t
   .split at t
    .rename_i f;simp only[aload,f,hd,qX.2 a,y9];exact t
    .simp at t
   .simp at t
 .simp at t
theorem tStore_ok (t:tStore X k h p n=some (L,E)):eStore X k (some h) (some p) n=some (L,E):=by
 unfold tStore at t;split at t
 .rename_i x a;unfold stN at t;split at t
  .split at t
   .rename_i f;rw[zF]at t;split at t
    .rename_i i;split at t
     .rename_i j;split at t
      .rename_i hp;simp only[eStore,astore,f,a,i,zP,j,hp];exact t
      .simp at t
     .simp at t
    .simp at t
   .simp at t
  .simp at t
 .simp at t
theorem tConvP_ok (d:tConvP X k W h=some p):aconvP X k W h=some p:=by
 unfold tConvP at d;split at d
 .simp at d
 .rename_i ds a;split at d
  .rename_i s hd;unfold cvI at d;split at d
   .simp only[aconvP,a,hd];exact d
   .simp at d
  .rename_i hd;split at d
   .unfold cvSS at d;split at d
    .simp only[aconvP,a,hd];exact d
    .simp at d
   .simp at d
  .simp at d
theorem tConvL_ok (s:tConvL X k W h n=some p):aconvL X k W h n=some p:=by
 unfold tConvL at s;split at s
 .rename_i e a;split at s
  .rename_i hd;split at s
   .rename_i f;simp only[aconvL,a,hd,f];exact s
   .simp at s
  .simp at s
 .simp at s
theorem tConvA_ok (s:tConvA X k W h=some e):aconvA X k W h=some e:=by
 unfold tConvA at s;split at s
 .rename_i a;split at s
  .rename_i d hd;split at s
   .rename_i f;simp only[aconvA,a,hd,f];exact s
   .simp at s
  .simp at s
 .simp at s
theorem tSlice_ok {hi x:Option AV}(t:tSlice X k h J hi x n=some p):aslice X k h J hi x n=some p:=by
 unfold tSlice at t;split at t
 .rename_i a;split at t
  .unfold slStr at t;split at t
   .rename_i m o f i;split at t
    .have h3:natOpt none=some none:=rfl;simp only[aslice,f,i,h3,a];exact t
    .simp at t
   .simp at t
  .simp at t
 .rename_i e a;split at t
  .rename_i sz j;unfold slSl at t;split at t
   .rename_i m o q f i h3;split at t<;>first | (simp only[aslice,f,i,h3,a,j];exact t) | (simp at t;done)
   .simp at t
  .simp at t
 .rename_i r e a;split at t
  .rename_i sz j;unfold slArr at t;split at t
   .rename_i m o q f i h3;split at t<;>first | (simp only[aslice,f,i,h3,a,j];exact t) | (simp at t;done)
   .simp at t
  .simp at t
 .rename_i arr a;split at t
  .rename_i r e s;split at t
   .rename_i sz j;unfold slArr at t;split at t
    .rename_i m o q f i h3;split at t<;>first | (simp only[aslice,f,i,h3,a,s,j];exact t) | (simp at t;done)
    .simp at t
   .simp at t
  .simp at t
 .simp at t
theorem tIxAddr_ok (x:tIxAddr X k h p=some L):aindexAddr X k h p=some L:=by
 unfold tIxAddr at x;split at x
 .rename_i n e f;split at x
  .rename_i sz a;unfold ixArr at x;split at x
   .rename_i t j;split at x
    .simp only[aindexAddr,j,f,a];exact x
    .simp at x
   .simp at x
  .simp at x
 .rename_i e f;split at x
  .rename_i sz a;unfold ixSl at x;split at x
   .rename_i t j;split at x
    .simp only[aindexAddr,j,f,a];exact x
    .simp at x
   .simp at x
  .simp at x
 .simp at x
theorem tIndex_ok (x:tIndex X k h p=some L):aindex X k h p=some L:=by
 unfold tIndex at x;split at x
 .rename_i f;unfold ixStr at x;split at x
  .rename_i t a;split at x
   .simp only[aindex,a,f];exact x
   .simp at x
  .simp at x
 .rename_i n e f;split at x
  .rename_i d sz hd m;rw[zF]at x;split at x
   .rename_i j;unfold ixAgN at x;split at x
    .rename_i t a;split at x
     .simp only[aindex,a,f,hd,m,j,zP];exact x
     .simp at x
    .simp at x
   .rename_i j;unfold ixAg1 at x;split at x
    .rename_i t a;split at x
     .simp only[aindex,a,f,hd,m,qX.2 j,y9];exact x
     .simp at x
    .simp at x
  .simp at x
 .simp at x
theorem tField_ok (t:tField X k h i=some p):afield X k h i=some p:=by
 unfold tField at t;split at t
 .rename_i fs x;split at t
  .rename_i fl j;split at t
   .rename_i d n hd m;rw[zF]at t;split at t
    .rename_i a;unfold fdN at t;split at t
     .simp only[afield,x,j,hd,m,a,zP];exact t
     .simp at t
    .rename_i a;unfold fd1 at t;split at t
     .simp only[afield,x,j,hd,m,qX.2 a,y9];exact t
     .simp at t
   .simp at t
  .simp at t
 .simp at t
theorem tFieldAddr_ok (t:tFieldAddr X k h i=some p):afieldAddr X k h i=some p:=by
 unfold tFieldAddr at t;split at t
 .rename_i fs a;split at t
  .rename_i fl x;split at t
   .simp at t
   .rename_i n m j;unfold fAd at t;split at t
    .simp only[afieldAddr,a,x,j];exact t
    .simp at t
   .simp at t
  .simp at t
 .simp at t
theorem tLen_ok (t:tLen X k h n=some p):alen X k h n=some p:=by
 unfold tLen at t;split at t
 .rename_i f;unfold lnStr at t;split at t
  .simp only[alen,f];exact t
  .simp at t
 .rename_i e f;unfold lnSl at t;split at t<;>first | (simp only[alen,f];exact t) | (simp at t;done)
 .rename_i x e f;simp only[alen,f];exact t
 .rename_i a b f;unfold lnMap at t;split at t
  .simp only[alen,f];exact t
  .split at t
   .rename_i i;rw[fN_eq]at t;simp only[alen,f,i];exact t
   .simp at t
  .simp at t
 .simp at t
theorem tCopy_ok (t:tCopy X k h p n=some (L,E)):acopy X k h p n=some (L,E):=by
 unfold tCopy at t;split at t
 .rename_i e f;split at t
  .rename_i sz a;simp only[acopy,f,a];exact t
  .simp at t
 .simp at t
theorem tBuild_ok (t:tBuild X k (partsA l a.toList)=some h):pBuild X l k a=some h:=by
 unfold tBuild at t;split at t
 .rename_i z i;split at t
  .rename_i o hp;split at t
   .rename_i fs env;split at t
    .rename_i p j;simp only[pBuild,i,hp,env,j];exact t
    .simp at t
   .rename_i n e env;split at t
    .rename_i sz m;simp only[pBuild,i,hp,env,m];exact t
    .simp at t
   .simp at t
  .simp at t
 .simp at t
theorem tArr_ok (arr:tArr X k h=some p):pArr X k h=some p:=by
 unfold tArr at arr;split at arr
 .rename_i n e a;unfold s2a at arr;split at arr
  .simp only[pArr,a];exact arr
  .simp at arr
 .simp at arr
theorem tBuildL_ok (h:tBuildL X k i (partsA l a.toList)=some e):aABuild X l k i a=some e:=by
 unfold tBuildL at h;split at h
 .rename_i t env;split at h
  .rename_i m hp;split at h
   .rename_i sz f;split at h
    .rename_i z j;simp only[aABuild,env,hp,f,j];exact h
    .simp at h
   .simp at h
  .simp at h
 .simp at h
theorem tMake_ok (t:tMake X k h p=some e):aAMake X k (some h) (some p)=some e:=by
 unfold tMake at t;split at t
 .rename_i l j;split at t
  .rename_i o i;split at t
   .rename_i z m;rw[zF]at t;split at t
    .rename_i f;unfold mkSl at t;split at t
     .split at t
      .rw[zF]at t;split at t
       .rename_i a;simp only[aAMake,j,i,m];simp only[zE]at f a;simp only[f.1,f.2,a.1.1,a.1.2,a.2,qJ,zP];exact t
       .simp at t
      .simp at t
     .simp at t
    .simp at t
   .simp at t
  .simp at t
 .simp at t
theorem tApp_ok (u:tApp X k W h p n=some (L,E)):eAppend X k W (some h) (some p) n=some (L,E):=by
 unfold tApp at u;split at u
 .rename_i e j;split at u
  .rename_i s i;split at u
   .rename_i f;rw[zF]at u;split at u
    .rename_i a;simp only[eAppend,f,aappend,j,i,a,zP];exact u
    .simp at u
   .rename_i f;rw[zF]at u;split at u
    .rename_i a;simp only[eAppend,f,aappend,j,i,a,zP];exact u
    .simp at u
   .rename_i t f;split at u
    .rename_i z o;rw[zF]at u;split at u
     .rename_i a;simp only[zE]at a;unfold apZ at u;split at u
      .rename_i x;rw[zF]at u;split at u
       .rename_i m;simp only[zE]at m;simp only[eAppend,f,aappZ,j,i,o,a.1,a.2,m.1,m.2,zP,qJ];exact u
       .simp at u
      .simp at u
     .simp at u
    .simp at u
   .simp at u
  .simp at u
 .simp at u
theorem q3_some {α:Type}{y z:Option AV}{f:AV->AV->AV->Option α}{r:α}(h:q3 J y z f=some r): ∃a b c,J=some a/\y=some b/\z=some c/\f a b c=some r:=by
 unfold q3 at h;split at h
 .split at h
  .split at h
   .exact⟨_,_,_,rfl,rfl,rfl,h⟩
   .simp at h
  .simp at h
 .simp at h
theorem tLk_ok (t:tLk X k U h p n=some L):alook X k U h p n=some L:=by
 unfold tLk at t;split at t
 .rename_i a;split at t
  .rename_i f i;simp only[alook,a,f,i];exact t
  .simp at t
 .simp at t
theorem tUp_ok {r:AV}(t:tUp X k h p L n=some (r,E)):aup X k h p L n=some (r,E):=t
theorem tDl_ok (t:tDl X k h p n=some (L,E)):adl X k h p n=some (L,E):=t
theorem tMkM_ok (h:tMkM X k=some e):aMap X k=some e:=h
end
def rOf (B:Tb)(D:Dyn):Fns:=⟨fun g a H=>callG B.S D g a H,D.yld⟩
theorem b1_of {f:AV->Option AV}(x:J=some h)(k:f h=some p):b1 J f=some p:=by simp only[b1,x,k]
theorem b2_of {y:Option AV}(x:J=some h)(i:y=some p)(k:z h p=some L):b2 J y z=some L:=by simp only[b2,x,i,k]
section
variable {B:Tb}{D:Dyn}{env:Env}{H:AH}
theorem opP_of (a:cls B.X G= .P)(o:aP B.X env G=some h):opF B.X (rOf B D) env H G=some (h,H):=by
 simp only[opF,a,o,wV]
theorem opL_of (a:cls B.X G= .L)(o:aL B.X env H G=some h):opF B.X (rOf B D) env H G=some (h,H):=by
 simp only[opF,a,o,wV]
theorem opA_of (a:cls B.X G= .A)(o:wA H (aA B.X env G)=some (h,n)):opF B.X (rOf B D) env H G=some (h,n):=by
 simp only[opF,a,o]
theorem opE_of (a:cls B.X G= .E)(o:aE B.X env H G=some (h,n)):opF B.X (rOf B D) env H G=some (h,n):=by
 simp only[opF,a,o]
theorem wA_arg {y:Option (AObj×(Nat->AV))}(x:wA H j=some (h,n))(k: ∀r,j=some r->y=some r):wA H y=some (h,n):=by
 cases j with
 | none=>simp[wA]at x
 | some r=>rw[k r rfl];exact x
theorem opK_ok {K:AV->AH->Rs}{out:Ex×AH}(h:opK B D env H K G=some out): ∃v H',opF B.X (rOf B D) env H G=some (v,H')/\K v H'=some out:=by
 unfold opK at h;split at h
 ·
  rename_i x;split at h
  .rename_i v i;exact⟨v,H,opP_of rfl i,h⟩
  .simp at h
 .rename_i x;split at h
  .rename_i v i;exact⟨v,H,opP_of rfl i,h⟩
  .simp at h
 ·
  rename_i c a b;obtain⟨v,i,j⟩:=bV_some h;refine⟨v,H,opP_of rfl ?_,j⟩;show pPick env c a b=some v;unfold pk3 at i;unfold pPick;exact i
 ·
  obtain⟨v,i,j⟩:=bV_some h;exact⟨v,H,opP_of rfl (tBuild_ok i),j⟩
 .obtain⟨v,i,j⟩:=bV_some h;obtain⟨a,m,p⟩:=q1_some i;exact⟨v,H,opP_of rfl (b1_of m p),j⟩
 ·
  rw[zF]at h;split at h
  .rename_i hp;obtain⟨v,i,j⟩:=bV_some h;obtain⟨a,b,m,hb,p⟩:=q2_some i;exact⟨v,H,opL_of (by simp[cls,hp]) (b2_of m hb (tBinL_ok p)),j⟩
  .rename_i hp;obtain⟨v,i,j⟩:=bV_some h;obtain⟨a,b,m,hb,p⟩:=q2_some i;exact⟨v,H,opP_of (by simp[cls,hp]) (b2_of m hb (tBin_ok p)),j⟩
 .obtain⟨v,i,j⟩:=bV_some h;obtain⟨a,m,p⟩:=q1_some i;exact⟨v,H,opP_of rfl (b1_of m p),j⟩
 ·
  split at h
  .rename_i a m;split at h
   .rename_i b hb;refine⟨_,H,opP_of rfl ?_,h⟩;show pFunc env _ _ _=_;simp only[pFunc,m,hb]
   .simp at h
  .simp at h
 .obtain⟨v,i,j⟩:=bV_some h;obtain⟨a,m,p⟩:=q1_some i;exact⟨v,H,opP_of rfl (b1_of m (tFieldAddr_ok p)),j⟩
 .obtain⟨v,i,j⟩:=bV_some h;obtain⟨a,m,p⟩:=q1_some i;exact⟨v,H,opP_of rfl (b1_of m (tField_ok p)),j⟩
 .obtain⟨v,i,j⟩:=bV_some h;obtain⟨a,b,m,hb,p⟩:=q2_some i;exact⟨v,H,opP_of rfl (b2_of m hb (tIxAddr_ok p)),j⟩
 .obtain⟨v,i,j⟩:=bV_some h;obtain⟨a,b,m,hb,p⟩:=q2_some i;exact⟨v,H,opP_of rfl (b2_of m hb (tIndex_ok p)),j⟩
 .obtain⟨v,i,j⟩:=bV_some h;obtain⟨a,m,p⟩:=q1_some i;exact⟨v,H,opP_of rfl (b1_of m (tArr_ok p)),j⟩
 .obtain⟨v,i,j⟩:=bV_some h;obtain⟨a,m,p⟩:=q1_some i;exact⟨v,H,opP_of rfl (b1_of m p),j⟩
 ·
  obtain⟨v,i,j⟩:=bV_some h;obtain⟨a,m,p⟩:=q1_some i;exact⟨v,H,opL_of rfl (b1_of m (tLoad_ok p)),j⟩
 ·
  split at h
  .rename_i lo hi T I J L;obtain⟨v,i,j⟩:=bV_some h;obtain⟨a,m,p⟩:=q1_some i;refine⟨v,H,opL_of rfl ?_,j⟩;show lSlice _ _ _ _ _ _ _ _=_;simp only[lSlice,m,I,J,L];exact tSlice_ok p
  .simp at h
 ·
  split at h
  .rename_i q;obtain⟨v,i,j⟩:=bV_some h;obtain⟨a,m,p⟩:=q1_some i;exact⟨v,H,opP_of q (b1_of m (tConvP_ok p)),j⟩
  .rename_i q;obtain⟨v,i,j⟩:=bV_some h;obtain⟨a,m,p⟩:=q1_some i;exact⟨v,H,opL_of q (b1_of m (tConvL_ok p)),j⟩
  .rename_i q;obtain⟨v,H',i,j⟩:=bA_some h;refine⟨v,H',opA_of q (wA_arg i fun r hr=> ?_),j⟩;obtain⟨a,m,p⟩:=q1_some hr;simp only[aA,m];exact tConvA_ok p
  .simp at h
 ·
  split at h
  .rename_i z N;obtain⟨v,H',i,j⟩:=bA_some h;refine⟨v,H',opA_of rfl (wA_arg i fun r hr=> ?_),j⟩;simp only[aA,N,aA1];exact hr
  .simp at h
 .obtain⟨v,H',i,j⟩:=bA_some h;refine⟨v,H',opA_of rfl (wA_arg i fun r hr=> ?_),j⟩;obtain⟨a,m,p⟩:=q1_some hr;simp only[aA,m,aA1];exact p
 .obtain⟨v,H',i,j⟩:=bA_some h;exact⟨v,H',opA_of rfl (wA_arg i fun r hr=>tBuildL_ok hr),j⟩
 .obtain⟨v,H',i,j⟩:=bA_some h;refine⟨v,H',opA_of rfl (wA_arg i fun r hr=> ?_),j⟩;obtain⟨a,b,m,hb,p⟩:=q2_some hr;simp only[aA,m,hb];exact tMake_ok p
 ·
  obtain⟨v,i,j⟩:=bV_some h;obtain⟨a,b,m,hb,p⟩:=q2_some i;exact⟨v,H,opL_of rfl (b2_of m hb (tLk_ok p)),j⟩
 .obtain⟨v,H',i,j⟩:=bA_some h;exact⟨v,H',opA_of rfl (wA_arg i fun r hr=>tMkM_ok hr),j⟩
 .obtain⟨v,H',i,j⟩:=bR_some h;obtain⟨a,b,c,m,hb,q,p⟩:=q3_some i;refine⟨v,H',opE_of rfl ?_,j⟩;simp only[aE,m,hb,q,c3];exact tUp_ok p
 ·
  obtain⟨v,H',i,j⟩:=bR_some h;obtain⟨a,b,m,hb,p⟩:=q2_some i;refine⟨v,H',opE_of rfl ?_,j⟩;simp only[aE,m,hb];exact tStore_ok p
 ·
  rename_i c;obtain⟨Q,args,S⟩:=c;split at h
  .rename_i f q;simp only at q;subst q;obtain⟨v,H',i,j⟩:=bR_some h;refine⟨v,H', ?_,j⟩;unfold callO at i;split at i
   .rename_i U o;simp only at o;split at i
    .rename_i g;have e:opd env (.func g)=some (.func g [] []):=rfl;simp only[opF,cls,clsCall,opF.callO,e,o,opF.callV,rOf,qV,qG];exact i
    .split at i
     .rename_i t _ O M;have e:opd env (.tmp t)=some O:=M;unfold callV at i;split at i
      .simp only[opF,cls,clsCall,opF.callO,e,o,opF.callV,rOf];exact i
      .simp only[opF,cls,clsCall,opF.callO,e,o,opF.callV,rOf];exact i
      .simp at i
     .simp at i
    .simp at i
   .simp at i
  .rename_i q;simp only at q;subst q;split at h
   .rename_i x t ts C F;obtain⟨v,i,j⟩:=bV_some h;obtain⟨a,m,p⟩:=q1_some i;refine⟨v,H,opL_of rfl ?_,j⟩;simp only at C F;simp only[aL,C,F];exact b1_of m (tLen_ok p)
   .simp at h
  .rename_i q;simp only at q;subst q;split at h
   .rename_i x t ts C F;obtain⟨v,i,j⟩:=bV_some h;obtain⟨a,m,p⟩:=q1_some i;refine⟨v,H,opP_of rfl ?_,j⟩;simp only at C F;simp only[aP,C,F];exact b1_of m p
   .simp at h
  .rename_i q;simp only at q;subst q;split at h
   .rename_i s x t u C F;obtain⟨v,H',i,j⟩:=bR_some h;obtain⟨a,b,m,hb,p⟩:=q2_some i;refine⟨v,H',opE_of rfl ?_,j⟩;simp only at C F;simp only[aE,eBuiltin,C,F,m,hb];exact tApp_ok p
   .simp at h
  .rename_i q;simp only at q;subst q;split at h
   .rename_i s x t ts C F;obtain⟨v,H',i,j⟩:=bR_some h;obtain⟨a,b,m,hb,p⟩:=q2_some i;refine⟨v,H',opE_of rfl ?_,j⟩;simp only at C F;simp only[aE,eBuiltin,C,F,m,hb,eCopy];exact tCopy_ok p
   .simp at h
  .rename_i q;simp only at q;subst q;split at h
   .rename_i x y C;obtain⟨v,i,j⟩:=bV_some h;obtain⟨a,b,m,hb,p⟩:=q2_some i;refine⟨v,H,opP_of rfl ?_,j⟩;simp only at C;simp only[aP,C];exact b2_of m hb p
   .simp at h
  .rename_i q;simp only at q;subst q;split at h
   .rename_i x y C;obtain⟨v,i,j⟩:=bV_some h;obtain⟨a,b,m,hb,p⟩:=q2_some i;refine⟨v,H,opP_of rfl ?_,j⟩;simp only at C;simp only[aP,C];exact b2_of m hb p
   .simp at h
  .rename_i q;simp only at q;subst q;split at h
   .rename_i s x t ts C F;obtain⟨v,H',i,j⟩:=bR_some h;obtain⟨a,b,m,hb,p⟩:=q2_some i;refine⟨v,H',opE_of rfl ?_,j⟩;simp only at C F;simp only[aE,eBuiltin,C,F,m,hb,c2];exact tDl_ok p
   .simp at h
  .rename_i q;simp only at q;subst q;split at h
   .rename_i s t ts C F;obtain⟨v,H',i,j⟩:=bR_some h;obtain⟨a,m,p⟩:=q1_some i;refine⟨v,H',opE_of rfl ?_,j⟩;simp only at C F;simp only[aE,eBuiltin,C,F,m,c1];exact p
   .simp at h
  .simp at h
 .simp at h
end
def Le (env env2:Env):Prop:= ∀t x,look env t=some x->look env2 t=some x
theorem Le.refl (env:Env):Le env env:=fun _ _ h=>h
theorem Le.trans {c:Env}(h:Le l Y)(k:Le Y c):Le l c:=fun t x e=>k t x (h t x e)
theorem Le.upd {a b:Env}(h:Le a b)(d:Nat)(v:AV):Le (upd a d v) (upd b d v):=by
 intro t x e;simp only[look,upd_at]at e⊢;split
 .rename_i hd;rw[if_pos hd]at e;exact e
 .rename_i hd;rw[if_neg hd]at e;exact h t x e
theorem EnvR.le (h:EnvR s Y i F)(k:Le l Y):EnvR s l i F:=
 ⟨h.size,fun t x e=>h.get t x (k t x e),fun t f=>by
  cases e:look l t with
  | none=>rfl
  | some x=>have:=k t x e;rw[h.out t f]at this;simp at this⟩
section
variable {env env2:Env}(hl:Le env env2)
include hl
theorem opd_mono (x:Operand)(a:AV)(h:opd env x=some a):opd env2 x=some a:=by
 cases x with
 | tmp t=>exact hl t a h
 | _=>exact h
theorem opds_mono: ∀(xs:List Operand) (a:List AV),opds env xs=some a->opds env2 xs=some a
 | [],a,h=>h
 | x::xs,a,h=>by
  simp only[opds]at h⊢;split at h
  .rename_i v vs i f;rw[opd_mono hl x v i,opds_mono xs vs f];exact h
  .simp at h
theorem parts_mono: ∀(xs:List (Nat×Operand)) (a:List (Nat×AV)),partsA env xs=some a->partsA env2 xs=some a
 | [],a,h=>h
 | (i,x)::xs,a,h=>by
  simp only[partsA]at h⊢;split at h
  .rename_i v vs j f;rw[opd_mono hl x v j,parts_mono xs vs f];exact h
  .simp at h
theorem optOf_mono (x:Option Operand)(a:Option AV)(h:optOf env x=some a):optOf env2 x=some a:=by
 cases x with
 | none=>exact h
 | some y=>
  simp only[optOf]at h⊢;split at h
  .rename_i b hb;rw[opd_mono hl y b hb];exact h
  .simp at h
theorem b1_mono {x:Operand}{f:AV->Option AV}(r:b1 (opd env x) f=some h):b1 (opd env2 x) f=some h:=by
 unfold b1 at r;split at r
 .rename_i a i;rw[opd_mono hl x a i];exact r
 .simp at r
theorem b2_mono {x y:Operand}(f:b2 (opd env x) (opd env y) z=some h):b2 (opd env2 x) (opd env2 y) z=some h:=by
 unfold b2 at f;split at f
 .rename_i a i;split at f
  .rename_i b hb;rw[opd_mono hl x a i,opd_mono hl y b hb];exact f
  .simp at f
 .simp at f
theorem aP_mono (X:aP Q env G=some h):aP Q env2 G=some h:=by
 unfold aP at X⊢;split at X
 .exact opd_mono hl _ _ X
 .exact opd_mono hl _ _ X
 .unfold pPick at X⊢;split at X
  .rename_i f;rw[opd_mono hl _ _ f];exact opd_mono hl _ _ X
  .rename_i f;rw[opd_mono hl _ _ f];exact opd_mono hl _ _ X
  .simp at X
 .unfold pBuild at X⊢;split at X
  .rename_i z m;split at X
   .rename_i p i;rw[parts_mono hl _ _ i];exact X
   .simp at X
  .simp at X
 .exact b1_mono hl X
 .exact b2_mono hl X
 .exact b1_mono hl X
 .exact b1_mono hl X
 .unfold pFunc at X⊢;split at X
  .rename_i a j;split at X
   .rename_i b hb;rw[opds_mono hl _ _ j,opds_mono hl _ _ hb];exact X
   .simp at X
  .simp at X
 .exact b1_mono hl X
 .exact b1_mono hl X
 .exact b2_mono hl X
 .exact b2_mono hl X
 .exact b1_mono hl X
 .exact b1_mono hl X
 .split at X
  .split at X
   .split at X
    .exact b1_mono hl X
    .simp at X
   .simp at X
  .split at X
   .exact b2_mono hl X
   .simp at X
  .split at X
   .exact b2_mono hl X
   .simp at X
  .simp at X
 .simp at X
theorem aL_mono (X:aL Q env n G=some h):aL Q env2 n G=some h:=by
 unfold aL at X⊢;split at X
 .exact b1_mono hl X
 .unfold lSlice at X⊢;split at X
  .rename_i a m;split at X
   .rename_i lo f;split at X
    .rename_i hi i;split at X
     .rename_i p j;rw[opd_mono hl _ _ m,optOf_mono hl _ _ f,optOf_mono hl _ _ i,optOf_mono hl _ _ j];exact X
     .simp at X
    .simp at X
   .simp at X
  .simp at X
 .exact b2_mono hl X
 .exact b1_mono hl X
 .exact b2_mono hl X
 .split at X
  .split at X
   .split at X
    .exact b1_mono hl X
    .simp at X
   .simp at X
  .simp at X
 .simp at X
theorem aA_mono (h:aA Q env G=some e):aA Q env2 G=some e:=by
 unfold aA at h⊢;split at h
 .exact h
 .unfold aA1 at h⊢;split at h
  .rename_i a f;rw[opd_mono hl _ _ f];exact h
  .simp at h
 .unfold aABuild at h⊢;split at h
  .rename_i X p;split at h
   .rename_i q i;simp only[parts_mono hl _ _ i];exact h
   .simp at h
  .simp at h
 .unfold aAMake at h⊢;split at h
  .rename_i n j;split at h
   .rename_i m hm;simp only[opd_mono hl _ _ j,opd_mono hl _ _ hm];exact h
   .simp at h
  .simp at h
 .split at h
  .rename_i a f;rw[opd_mono hl _ _ f];exact h
  .simp at h
 .exact h
 .simp at h
theorem aE_mono {v:AV×AH}(h:aE Q env n G=some v):aE Q env2 n G=some v:=by
 unfold aE at h⊢;split at h
 .unfold eStore at h⊢;split at h
  .rename_i p hp;split at h
   .rename_i y i;rw[opd_mono hl _ _ hp,opd_mono hl _ _ i];exact h
   .simp at h
  .simp at h
 .unfold c3 at h⊢;split at h
  .rename_i a f;split at h
   .rename_i b hb;split at h
    .rename_i c j;rw[opd_mono hl _ _ f,opd_mono hl _ _ hb,opd_mono hl _ _ j];exact h
    .simp at h
   .simp at h
  .simp at h
 .split at h
  .unfold eBuiltin at h⊢;split at h
   .split at h
    .split at h
     .unfold eAppend at h⊢;split at h
      .rename_i a f;split at h
       .rename_i b hb;simp only[opd_mono hl _ _ f,opd_mono hl _ _ hb];exact h
       .simp at h
      .simp at h
     .simp at h
    .simp at h
   .split at h
    .split at h
     .unfold eCopy at h⊢;split at h
      .rename_i a f;split at h
       .rename_i b hb;simp only[opd_mono hl _ _ f,opd_mono hl _ _ hb];exact h
       .simp at h
      .simp at h
     .simp at h
    .simp at h
   .split at h
    .split at h
     .unfold c2 at h⊢;split at h
      .rename_i a f;split at h
       .rename_i b hb;simp only[opd_mono hl _ _ f,opd_mono hl _ _ hb];exact h
       .simp at h
      .simp at h
     .simp at h
    .simp at h
   .split at h
    .split at h
     .unfold c1 at h⊢;split at h
      .rename_i a f;simp only[opd_mono hl _ _ f];exact h
      .simp at h
     .simp at h
    .simp at h
   .simp at h
  .simp at h
 .simp at h
theorem opF_mono {r:Fns}{v:AV×AH}(h:opF Q r env n G=some v):opF Q r env2 n G=some v:=by
 unfold opF at h⊢;split at h
 .rename_i i;unfold wV at h⊢;split at h
  .rename_i x f;simp only[i,aP_mono hl f];exact h
  .simp at h
 .rename_i i;unfold wV at h⊢;split at h
  .rename_i x f;simp only[i,aL_mono hl f];exact h
  .simp at h
 .rename_i i
  cases f:aA Q env G with
  | none=>rw[f]at h;simp[wA]at h
  | some x=>simp only[i,aA_mono hl f];rw[f]at h;exact h
 .exact aE_mono hl h
 .unfold opF.callO at h⊢;split at h
  .split at h
   .unfold opF.callV at h⊢;split at h
    .rename_i g a b m;split at h
     .rename_i p j;simp only[opd_mono hl _ _ m,opds_mono hl _ _ j];exact h
     .simp at h
    .rename_i A m;split at h
     .rename_i p j;simp only[opd_mono hl _ _ m,opds_mono hl _ _ j];exact h
     .simp at h
    .simp at h
   .simp at h
  .simp at h
end
theorem hd_some {K:AV->List AV->Rs}{out:Ex×AH}(h:hd I K=some out): ∃v l,I=v::l/\K v l=some out:=by
 cases I with
 | nil=>exact absurd h (by simp[hd])
 | cons v l=>exact⟨_,_,rfl,h⟩
def PK (env:Env):List Nat->List AV->Prop
 | [],vs=>vs=[]
 | l::L,vs=> ∃v vs',vs=v::vs'/\look env l=some v/\PK env L vs'
theorem pck_some: ∀ {L:List Nat} {env:Env} {K:List AV->Rs} {out:Ex×AH},pck L env K=some out-> ∃vs,PK env L vs/\K vs=some out
 | [],env,K,out,h=>⟨[],rfl,h⟩
 | l::L,env,K,out,h=>by
  simp only[pck]at h;split at h
  .rename_i v a;obtain⟨vs,f,i⟩:=pck_some h;exact⟨v::vs,⟨v,vs,rfl,a,f⟩,i⟩
  .simp at h
theorem unp_some: ∀ {L:List Nat} {vs:List AV} {base:Env} {K:Env->Rs} {out:Ex×AH},unp L vs base K=some out-> ∀env,PK env L vs-> ∃env',K env'=some out/\ ∀t,(t∈L->look env' t=look env t)/\(t∉L->look env' t=look base t)
 | [],vs,base,K,out,h,env,_=>⟨base,h,fun t=>⟨fun h=>by simp at h,fun _=>rfl⟩⟩
 | l::L,vs,base,K,out,h,env,⟨v,vs',e,hv,hp⟩=>by
  subst e;simp only[unp,hd]at h;obtain⟨env',j,i⟩:=unp_some h env hp;refine⟨env',j,fun t=>⟨fun a=> ?_,fun a=> ?_⟩⟩
  .by_cases f:t∈L
   .exact(i t).1 f
   .rw[(i t).2 f];have:t=l:=by
              simp at a;rcases a with h | h
              .exact h
              .exact absurd h f
    subst this;simp only[look,upd_at,if_true];exact hv.symm
  .simp only[zM,not_or]at a;rw[(i t).2 a.2];simp only[look,upd_at,if_neg a.1]
theorem dropE_look: ∀(L:List Nat) (env:Env) (t:Nat),look (dropE L env) t=if t∈L then none else look env t
 | [],env,t=>by simp[dropE]
 | l::L,env,t=>by
  have a:=dropE_look L env t;simp only[look]at a⊢;simp only[dropE,zF,zX,zM,a];by_cases f:t=l<;>by_cases h:t∈L<;>simp[f,h]
theorem chks_some {m:Nat}{H:AH}{K:Rs}{out:Ex×AH} : ∀ {sn:List Seen},chks m H K sn=some out->K=some out/\ ∀s∈sn,m.testBit s.i=false->s.rd H=some s.v
 | [],h=>⟨h,by simp⟩
 | s::l,h=>by
  simp only[chks,tbit_eq,zF]at h;split at h
  .rename_i hb;obtain⟨f,j⟩:=chks_some h;refine⟨f,fun q a hm=> ?_⟩;rcases zM.1 a with rfl | a
   .rw[hb]at hm;simp at hm
   .exact j q a hm
  .unfold chk at h;split at h
   .rename_i y o;rw[zF]at h;split at h
    .rename_i p;obtain⟨f,j⟩:=chks_some h;refine⟨f,fun q a hm=> ?_⟩;rcases zM.1 a with rfl | a
     .rw[o,aveq_eq _ _ p]
     .exact j q a hm
    .simp at h
   .simp at h
section
variable {B:Tb}{D:Dyn}{nt:Nat}{ops:Array Oper}
theorem rdOf_ok (hl:Le l Y)(hm:mayTurn B.X G=true)(env:rdOf B l G n=some h):aL B.X Y n G=some h:=by
 apply aL_mono hl;unfold rdOf at env;split at env
 .obtain⟨a,f,i⟩:=q1_some env;exact b1_of f (tLoad_ok i)
 .obtain⟨a,b,f,hb,i⟩:=q2_some env;exact b2_of f hb (tLk_ok i)
 .split at env
  .rename_i lo hi z q s u;obtain⟨a,f,i⟩:=q1_some env;show lSlice _ _ _ _ _ _ _ _=_;simp only[lSlice,f,q,s,u];exact tSlice_ok i
  .simp at env
 .obtain⟨a,f,i⟩:=q1_some env;exact b1_of f (tConvL_ok i)
 .obtain⟨a,b,f,hb,i⟩:=q2_some env;exact b2_of f hb (tBinL_ok i)
 .rename_i c;split at env
  .rename_i x t ts p m;obtain⟨a,f,i⟩:=q1_some env;simp only[mayTurn]at hm;split at hm
   .rename_i y;simp only[aL,y,p,m];exact b1_of f (tLen_ok i)
   .simp at hm
  .simp at env
 .simp at env
theorem alen_still (X:alen Q k h n=some p)(f: ∀a b,Q.und k≠some (.map a b))(i:AH):alen Q k h i=some p:=by
 unfold alen at X⊢;split at X<;>first | exact X | (rename_i j;exact absurd j (f _ _)) | (simp at X;done)
theorem still_ok (i:cls B.X G= .L)(hm:mayTurn B.X G=false)(env:aL B.X l n G=some h)(j:AH):aL B.X l j G=some h:=by
 unfold aL at env⊢;split at env
 .simp[mayTurn]at hm
 .rename_i t x lo hi q;simp only[mayTurn]at hm;unfold lSlice at env⊢;split at env
  .split at env
   .split at env
    .split at env
     .unfold aslice at env⊢;split at env
      .rename_i a _ _ _ _ _ _ _ _ _ _ _;split at env
       .exact env
       .rename_i f _;simp[f]at hm
       .rename_i f _;simp[f]at hm
       .rename_i f _;simp[f]at hm
       .exact env
       .exact env
       .simp at env
      .simp at env
     .simp at env
    .simp at env
   .simp at env
  .simp at env
 .simp[mayTurn]at hm
 .simp only[mayTurn,isL]at hm;rw[i]at hm;simp at hm
 .simp only[mayTurn]at hm;simp[cls,hm]at i
 .rename_i c;split at env
  .rename_i m;split at env
   .rename_i x s;split at env
    .rename_i t ts p;unfold b1 at env⊢;split at env
     .refine alen_still env (fun a b f=> ?_) j;simp only[mayTurn,m,p,f]at hm;simp at hm
     .simp at env
    .simp at env
   .simp at env
  .simp at env
 .simp at env
def gslot (ops:Array Oper)(o:Oper):Option Nat:=match o.guard with
 | none=>none
 | some (j,_)=>match nthO ops.toList j with
  | some p=>p.dst
  | none=>none
theorem want_look (h: ∀d,gslot ops V=some d->look l d=look Y d):wantA ops l V=wantA ops Y V:=by
 unfold wantA;unfold gslot at h;split
 .rfl
 .rename_i j f a;rw[a]at h;simp only at h;unfold wantG;split
  .rename_i p hp;rw[hp]at h;simp only at h;split
   .rename_i d hd;rw[h d hd]
   .rfl
  .rfl
def SeeP (X:Cx)(ms:List Nat)(a b:Ent):Prop:=a.want=true->isEff (cls X b.o.op)=true->(ms.getD b.i 0).testBit a.i=false->cls X a.o.op= .L->aL X a.env b.H' a.o.op=some a.v
def Tr (X:Cx)(ms:List Nat)(sn:List Seen)(pre:List Ent)(rest:List (Nat×Oper)):Prop:=
 ∀a∈pre,a.want=true->cls X a.o.op= .L->(∃s∈sn,s.i=a.i/\s.v=a.v/\ ∀H v,s.rd H=some v->aL X a.env H a.o.op=some v)\/(∀H,aL X a.env H a.o.op=some a.v)\/(∀b∈rest,isEff (cls X b.2.op)=true->(ms.getD b.1 0).testBit a.i=true)
theorem Tr.see {sn:List Seen}(h:Tr Q A sn m N){b:Ent}(hb:(b.i,b.o)∈N)(p:isEff (cls Q b.o.op)=true-> ∀s∈sn,(A.getD b.i 0).testBit s.i=false->s.rd b.H'=some s.v): ∀a∈m,SeeP Q A a b:=by
 intro a q t X j hL;rcases h a q t hL with⟨s,u,f,x,h3⟩ | f | f
 .have:=p X s u (by rw[f];exact j);rw[<-x];exact h3 _ _ this
 .exact f _
 .have:=f _ hb X;simp only at this;rw[this]at j;simp at j
theorem Tr.less {sn sn':List Seen}{rest':List (Nat×Oper)}(h:Tr Q A sn m N)(j: ∀s∈sn,s∈sn')(hr: ∀b∈rest',b∈N):Tr Q A sn' m rest':=by
 intro a X o hL;rcases h a X o hL with⟨s,i,f⟩ | f | f
 .exact .inl ⟨s,j s i,f⟩
 .exact .inr (.inl f)
 .exact .inr (.inr fun b hb=>f b (hr b hb))
theorem setE_some {K:Env->Rs}{out:Ex×AH}(env:setE nt l M h K=some out)(hl:Le l Y):
  ∃env' a,setD nt Y M h=some a/\Le env' a/\K env'=some out:=by
 unfold setE at env;split at env
 .rename_i M;rw[zF]at env;split at env
  .rename_i hd;exact⟨_,_,by simp only[setD,hd,zP],hl.upd M h,env⟩
  .simp at env
 .exact⟨_,_,rfl,hl,env⟩
theorem seenK_some {sn:List Seen}{K:List Seen->Rs}{out:Ex×AH}(ms:seenK B A l sn i G h n K=some out):
  ∃sn',K sn'=some out/\(∀s∈sn,s∈sn')/\(isEff (cls B.X G)=true-> ∀s∈sn,(A.getD i 0).testBit s.i=false->s.rd n=some s.v)/\
   (isEff (cls B.X G)=false->mayTurn B.X G=true->(⟨i,rdOf B l G,h⟩:Seen)∈sn'):=by
 unfold seenK at ms;simp only[zF]at ms;split at ms
 .rename_i a;obtain⟨f,j⟩:=chks_some ms;exact⟨sn,f,fun _ ms=>ms,fun _=>j,fun ms=>by rw[a]at ms;simp at ms⟩
 .rename_i a;split at ms
  .exact⟨_,ms,fun s m=>by simp[m],fun ms=>absurd ms a,fun _ _=>by simp⟩
  .rename_i hm;exact⟨_,ms,fun _ ms=>ms,fun ms=>absurd ms a,fun _ ms=>absurd ms hm⟩
theorem setD_keep (env:setD nt l M h=some Y)(a:M≠some i):look Y i=look l i:=by
 rw[setD_look env,if_neg a]
theorem rowK_chain {masks:Option (List Nat)}{K:List Seen->Env->AH->Rs}{out:Ex×AH}{rest:List (Nat×Oper)} : ∀(row:List (Nat×Oper)) (sn:List Seen) (env:Env) (H:AH) (f:Env) (pre:List Ent),
  rowK B D nt masks K row sn env H=some out->Le env f->(∀q∈row,wantA ops f q.2=some true)->(∀q∈row,∀y∈row,∀d,q.2.dst=some d->gslot ops y.2≠some d)->
  (∀ms,masks=some ms->Tr B.X ms sn pre (row++rest))->
  ∃es envF HF sn' env',Chain B.X (rOf B D) nt ops f H es envF HF/\es.map (fun e=>(e.i,e.o))=row/\(∀e∈es,e.want=true)/\Le env' envF/\K sn' env' HF=some out/\
   (∀ms,masks=some ms->(∀a∈pre,∀b∈es,SeeP B.X ms a b)/\es.Pairwise (SeeP B.X ms)/\Tr B.X ms sn' (pre++es) rest)
 | [],sn,env,H,f,pre,h,hl,_,_,hT=>⟨[],f,H,sn,env,⟨rfl,rfl⟩,rfl,by simp,hl,h,fun ms j=>⟨by simp,List.Pairwise.nil,by simpa using hT ms j⟩⟩
 | (i,o)::row,sn,env,H,f,pre,h,hl,hw,hst,hT=>by
  simp only[rowK]at h;obtain⟨v,H',a0,C⟩:=opK_ok h;have J:=opF_mono hl a0;have M:=hw (i,o) (zH ..);have V:entD B.X (rOf B D) ops f H i o=some ⟨i,o,true,f,H,v,H'⟩:=by
   simp only at M;simp only[entD,M,J]
  have O: ∀(sn':List Seen) (env' m:Env),setD nt f o.dst v=some m->Le env' m->rowK B D nt masks K row sn' env' H'=some out->
    (∀ms,masks=some ms->(∀s∈sn,s∈sn')/\(isEff (cls B.X o.op)=true-> ∀s∈sn,(ms.getD i 0).testBit s.i=false->s.rd H'=some s.v)/\(isEff (cls B.X o.op)=false->mayTurn B.X o.op=true->(⟨i,rdOf B env o.op,v⟩:Seen)∈sn'))->
    ∃es envF HF sn' env',Chain B.X (rOf B D) nt ops f H es envF HF/\es.map (fun e=>(e.i,e.o))=(i,o)::row/\(∀e∈es,e.want=true)/\Le env' envF/\K sn' env' HF=some out/\
     (∀ms,masks=some ms->(∀a∈pre,∀b∈es,SeeP B.X ms a b)/\es.Pairwise (SeeP B.X ms)/\Tr B.X ms sn' (pre++es) rest):=by
   intro sn' env' m L a1 W N;obtain⟨es,envF,HF,a2,env2,c1,c2,c3,c4,c5,c6⟩:=rowK_chain row sn' env' H' m (pre++[⟨i,o,true,f,H,v,H'⟩]) W a1
    (fun q u=>by
     rw[<-hw q (zC _ u)];exact want_look fun d hd=>setD_keep L (fun hc=>hst (i,o) (zH ..) q (zC _ u) d hc hd))
    (fun q u y Y=>hst q (zC _ u) y (zC _ Y))
    (fun ms j=>by
     obtain⟨Q,S,T⟩:=N ms j;have a3:=(hT ms j).less (sn':=sn') (rest':=row++rest) Q (fun b hb=>by simp only[qB];exact zC _ hb);intro a p a4 t;rcases zZ.1 p with p | p
     .exact a3 a p a4 t
     .simp only[y8]at p;subst p;simp only at t⊢;have a5:isEff (cls B.X o.op)=false:=by rw[t];rfl
      have a6:aL B.X f H o.op=some v:=by
       have:=J;simp only[opF,t,wV]at this;split at this
       .rename_i x hx;simp only[zB,zQ]at this;rw[hx,this.1]
       .simp at this
      cases z:mayTurn B.X o.op with
      | true=>exact .inl ⟨_,T a5 z,rfl,rfl,fun H v hv=>rdOf_ok hl z hv⟩
      | false=>exact .inr (.inl fun H2=>still_ok t z a6 H2))
   refine⟨⟨i,o,true,f,H,v,H'⟩::es,envF,HF,a2,env2,⟨rfl,rfl,V,m,L,c1⟩,by simp[c2], ?_,c4,c5,fun ms j=> ?_⟩
   .intro e F;rcases zM.1 F with rfl | F
    .rfl
    .exact c3 e F
   .obtain⟨Q,S,T⟩:=N ms j;obtain⟨U,d2,d3⟩:=c6 ms j;have Z:=(hT ms j).see (b:=⟨i,o,true,f,H,v,H'⟩) (by simp) S;refine⟨fun a p b hb=> ?_,List.Pairwise.cons (fun b hb=>U _ (by simp) b hb) d2,by simpa using d3⟩;rcases zM.1 hb with rfl | hb
    .exact Z a p
    .exact U a (qZ _ p) b hb
  split at C
  .obtain⟨env',m,G,I,h3⟩:=setE_some C hl;exact O sn env' m G I h3 (fun ms j=>by simp at j)
  .rename_i ms;obtain⟨sn',k1,k2,k3,k4⟩:=seenK_some C;obtain⟨env',m,G,I,h3⟩:=setE_some k1 hl;exact O sn' env' m G I h3 (fun a7 j=>by injection j with j;subst j;exact⟨k2,k3,k4⟩)
theorem chain_keep {X:Cx}{r:Fns} : ∀ {es:List Ent} {env:Env} {H:AH} {envF:Env} {HF:AH},Chain X r nt ops env H es envF HF-> ∀t,(∀e∈es,e.o.dst≠some t)->look envF t=look env t
 | [],_,_,_,_,h,t,_=>by rw[h.1]
 | e::es,env,H,envF,HF,⟨h1,h2,h3,env',h4,h5⟩,t,ht=>by
  rw[chain_keep h5 t (fun q a=>ht q (zC _ a)),setD_keep h4 (ht e (zH ..))]
theorem chain_append {X:Cx}{r:Fns} : ∀ {es f:List Ent} {env:Env} {H:AH} {a:Env} {h:AH} {envF:Env} {HF:AH},Chain X r nt ops env H es a h->Chain X r nt ops a h f envF HF->Chain X r nt ops env H (es++f) envF HF
 | [],_,_,_,_,_,_,_,⟨h1,h2⟩,k=>by subst h1 h2;exact k
 | e::es,f,env,H,a,h,envF,HF,⟨h1,h2,h3,env',h4,h5⟩,k=>⟨h1,h2,h3,env',h4,chain_append h5 k⟩
theorem skip_chain {H:AH} : ∀(run:List (Nat×Oper)) (f:Env),(∀a∈run,wantA ops f a.2=some false)->(∀a∈run,∀u∈run,∀d,a.2.dst=some d->gslot ops u.2≠some d)->(∀a∈run,∀d,a.2.dst=some d->d<nt)->
  ∃es envF,Chain B.X (rOf B D) nt ops f H es envF H/\es.map (fun e=>(e.i,e.o))=run/\(∀e∈es,e.want=false/\e.H'=H)/\ ∀t,t∈dstsOf run->look envF t=some undefA
 | [],f,_,_,_=>⟨[],f,⟨rfl,rfl⟩,rfl,by simp,fun t h=>by simp[dstsOf]at h⟩
 | (i,o)::run,f,hw,hst,hlt=>by
  have x:=hw (i,o) (zH ..);have y:entD B.X (rOf B D) ops f H i o=some ⟨i,o,false,f,H,undefA,H⟩:=by
   simp only at x;simp only[entD,x]
  have m: ∃s,setD nt f o.dst undefA=some s:=by
   cases hd:o.dst with
   | none=>exact⟨_,rfl⟩
   | some d=>exact⟨upd f d undefA,by simp only[setD,zF,q9,if_pos (hlt (i,o) (zH ..) d hd)]⟩
  obtain⟨s,m⟩:=m;obtain⟨es,envF,c1,c2,c3,F⟩:=skip_chain run s
   (fun a j=>by
    rw[<-hw a (zC _ j)];exact want_look fun d hd=>setD_keep m (fun v=>hst (i,o) (zH ..) a (zC _ j) d v hd))
   (fun a j u z=>hst a (zC _ j) u (zC _ z))
   (fun a j=>hlt a (zC _ j))
  refine⟨⟨i,o,false,f,H,undefA,H⟩::es,envF,⟨rfl,rfl,y,s,m,c1⟩,by simp[c2], ?_,fun t h=> ?_⟩
  .intro e q;rcases zM.1 q with rfl | q
   .exact⟨rfl,rfl⟩
   .exact c3 e q
  .by_cases p:t∈dstsOf run
   .exact F t p
   .have C:o.dst=some t:=by
     simp only[dstsOf,List.filterMap_cons]at h p;split at h
     .exact absurd h p
     .rename_i d hd;rcases zM.1 h with rfl | h
      .exact hd
      .exact absurd h p
    rw[chain_keep c1 t (fun e q v=>p ?_),setD_look m,if_pos C];have:(e.i,e.o)∈run:=by rw[<-c2];exact qM.2 ⟨e,q,rfl⟩
    simp only[dstsOf,List.mem_filterMap];exact⟨_,this,v⟩
end
theorem jn_some {x:Rs}{K:List AV->AH->Rs}{out:Ex×AH}(h:jn x K=some out):(∃vs H,x=some (.norm vs,H)/\K vs H=some out)\/(∃id vs H,x=some (.exit id vs,H)/\out=(.exit id vs,H))\/(∃v H,x=some (.ret v,H)/\out=(.ret v,H)):=by
 unfold jn at h;split at h
 .exact .inl ⟨_,_,rfl,h⟩
 .injection h with h;exact .inr (.inl ⟨_,_,_,rfl,h.symm⟩)
 .injection h with h;exact .inr (.inr ⟨_,_,rfl,h.symm⟩)
 .simp at h
theorem sameG_eq {a b:Option (Nat×Bool)}(h:sameG a b=true):a=b:=by
 unfold sameG at h;split at h
 .simp only[zE,zX,beq_iff_eq]at h;rw[h.1,h.2]
 .simp at h
theorem spanG_ok {g:Option (Nat×Bool)} : ∀ {l run rest:List (Nat×Oper)},spanG g l=(run,rest)->l=run++rest/\ ∀i∈run,i.2.guard=g
 | [],run,rest,h=>by simp only[spanG,zQ]at h;obtain⟨rfl,rfl⟩:=h;simp
 | o::l,run,rest,h=>by
  simp only[spanG,zF]at h;split at h
  .rename_i m
   cases j:spanG g l with
   | mk a b=>
    rw[j]at h;simp only[zQ]at h;obtain⟨rfl,rfl⟩:=h;obtain⟨p,q⟩:=spanG_ok j;refine⟨by rw[p];rfl,fun i f=> ?_⟩;rcases zM.1 f with rfl | f
    .exact(sameG_eq m).symm
    .exact q i f
  .simp only[zQ]at h;obtain⟨rfl,rfl⟩:=h;simp
section
variable {B:Tb}{D:Dyn}{nt:Nat}{ops:Array Oper}
theorem skipK_some {X:Cx}{masks:Option (List Nat)}{sn:List Seen}{H:AH}{K:Rs}{out:Ex×AH} : ∀ {run:List (Nat×Oper)},skipK X masks sn H K run=some out->K=some out/\ ∀ms,masks=some ms-> ∀b∈run,isEff (cls X b.2.op)=true-> ∀s∈sn,(ms.getD b.1 0).testBit s.i=false->s.rd H=some s.v
 | [],h=>⟨h,by simp⟩
 | b::run,h=>by
  unfold skipK at h;split at h
  .obtain⟨j,_⟩:=skipK_some h;exact⟨j,fun ms a=>by simp at a⟩
  .rename_i ms;rw[zF]at h;split at h
   .obtain⟨j,t⟩:=chks_some h;obtain⟨h3,m⟩:=skipK_some j;refine⟨h3,fun o a q f=> ?_⟩;injection a with a;subst a
    rcases zM.1 f with rfl | f
    .exact fun _=>t
    .exact m _ rfl q f
   .rename_i p;obtain⟨h3,m⟩:=skipK_some h;refine⟨h3,fun o a q f=> ?_⟩;injection a with a;subst a
    rcases zM.1 f with rfl | f
    .exact fun u=>absurd u p
    .exact m _ rfl q f
theorem chain_ent {X:Cx}{r:Fns} : ∀ {es:List Ent} {env:Env} {H:AH} {envF:Env} {HF:AH},Chain X r nt ops env H es envF HF-> ∀e∈es,entD X r ops e.env e.H e.i e.o=some e
 | [],_,_,_,_,_,e,a=>by simp at a
 | q::es,env,H,envF,HF,⟨h1,h2,h3,env',h4,h5⟩,e,a=>by
  rcases zM.1 a with rfl | a
  .rw[h1,h2];exact h3
  .exact chain_ent h5 e a
theorem PK_map {env:Env}{v:AV} : ∀ {L:List Nat},(∀t∈L,look env t=some v)->PK env L (L.map fun _=>v)
 | [],_=>rfl
 | l::L,h=>⟨v,_,rfl,h l (zH ..),PK_map fun t a=>h t (zC _ a)⟩
theorem outOf_sub {rest:List (Nat×Oper)}(h:i∈outOf ops N rest):i∈dstsOf N:=by
 simp only[outOf,List.mem_filterMap]at h;obtain⟨a,run,f⟩:=h;simp only[dstsOf,List.mem_filterMap];refine⟨a,run, ?_⟩;split at f
 .rename_i d hd;rw[zF]at f;split at f
  .rw[hd];exact f
  .simp at f
 .simp at f
theorem opsK_succ (masks:Option (List Nat))(K:Env->AH->Rs)(a:Nat)(row:List (Nat×Oper))(sn:List Seen)(env:Env)(H:AH):opsK B D nt ops masks (a+1) K row sn env H=(match row with
   | []=>K env H
   | (i,o)::rest=>match o.guard with
    | none=>rowK B D nt masks (fun sn env H=>opsK B D nt ops masks a K rest sn env H) [(i,o)] sn env H
    | some (j,want)=>match guardV ops env j with
     | none=>none
     | some g=>match spanG o.guard rest with
      | (run,rest)=>bif freeG nt ops j ((i,o)::run)then
        bif runOk B.X masks ((i,o)::run) rest then
         runK B D nt ops masks g want ((i,o)::run) (outOf ops ((i,o)::run) rest) sn env H fun env H=>opsK B D nt ops masks a K rest sn env H
        else runW B D nt masks g want ((i,o)::run) (outOf ops ((i,o)::run) rest) sn env H fun sn env H=>opsK B D nt ops masks a K rest sn env H
       else none):=rfl
theorem opsK_chain {masks:Option (List Nat)}{K:Env->AH->Rs}{out:Ex×AH} : ∀(fuel:Nat) (row:List (Nat×Oper)) (sn:List Seen) (env:Env) (H:AH) (J:Env) (pre:List Ent),
  opsK B D nt ops masks fuel K row sn env H=some out->Le env J->(∀ms,masks=some ms->Tr B.X ms sn pre row)->
  ∃es envF HF env',Chain B.X (rOf B D) nt ops J H es envF HF/\es.map (fun e=>(e.i,e.o))=row/\Le env' envF/\K env' HF=some out/\
   (∀ms,masks=some ms->(∀a∈pre,∀b∈es,SeeP B.X ms a b)/\es.Pairwise (SeeP B.X ms))
 | 0,row,sn,env,H,J,pre,h,hl,hT=>by
  have h':(none:Rs)=some out:=h;simp at h'
 | fuel+1,row,sn,env,H,J,pre,h,hl,hT=>by
  have ih:=opsK_chain (masks:=masks) (K:=K) (out:=out) fuel;have y:=h;rw[opsK_succ]at y;clear h;split at y
  .exact⟨[],J,H,env,⟨rfl,rfl⟩,rfl,hl,y,fun ms u=>⟨by simp,List.Pairwise.nil⟩⟩
  .rename_i i o rest;split at y
   .rename_i hg;obtain⟨es,envF,HF,sn',env',c1,c2,c3,T,U,c6⟩:=rowK_chain (ops:=ops) (rest:=rest) [(i,o)] sn env H J pre y hl
     (fun m q=>by simp only[y8]at q;subst q;simp[wantA,hg])
     (fun m q a7 a5 d hd=>by simp only[y8]at a5;subst a5;simp[gslot,hg])
     (fun ms u=>by simpa using hT ms u)
    obtain⟨b3,a9,b4,env2,d1,d2,d3,d4,d5⟩:=ih rest sn' env' HF envF (pre++es) U T (fun ms u=>(c6 ms u).2.2);refine⟨es++b3,a9,b4,env2,chain_append c1 d1,by rw[List.map_append,c2,d2];rfl,d3,d4,fun ms u=> ?_⟩;obtain⟨e1,e2,e3⟩:=c6 ms u;obtain⟨f1,f2⟩:=d5 ms u;refine⟨fun a f b hb=> ?_,yV.2 ⟨e2,f2,fun a f b hb=>f1 a (qT _ f) b hb⟩⟩;rcases zZ.1 hb with hb | hb
    .exact e1 a f b hb
    .exact f1 a (qZ _ f) b hb
   .rename_i j a6 hg;split at y
    .simp at y
    .rename_i g a0
     cases b7:spanG o.guard rest with
     | mk run rest'=>
      rw[b7]at y;simp only[zF]at y;split at y
      .rename_i a3;obtain⟨d6,d0⟩:=spanG_ok b7;have b0:(i,o)::rest=((i,o)::run)++rest':=by rw[d6];rfl
       generalize d7:(i,o)::run=s at y a3 b0;have b8: ∀m∈s,m.2.guard=some (j,a6):=by
        intro m q;rw[<-d7]at q;rcases zM.1 q with rfl | q
        .exact hg
        .rw[d0 m q,hg]
       unfold guardV at a0;unfold freeG at a3;split at a0
       .rename_i p hp;simp only[hp]at a3;split at a0
        .rename_i dg b5;simp only[b5,zE,yS,List.contains_eq_mem,yK,qY,q9]at a3;obtain⟨e0,b9⟩:=a3;have e4: ∀m∈s,gslot ops m.2=some dg:=fun m q=>by simp only[gslot,b8 m q,hp,b5]
         have a1: ∀m∈s,wantA ops J m.2=some (isW g a6):=fun m q=>by
          simp only[wantA,b8 m q,wantG,hp,b5,hl _ _ a0]
         have a2: ∀m∈s,∀a7∈s,∀d,m.2.dst=some d->gslot ops a7.2≠some d:=fun m q a7 a5 d hd hc=>by
          rw[e4 a7 a5]at hc;injection hc with hc;subst hc
          exact e0 (by simp only[dstsOf,List.mem_filterMap];exact⟨m,q,hd⟩)
         have S: ∀ms,masks=some ms->Tr B.X ms sn pre (s++rest'):=fun ms u=>by rw[<-b0];exact hT ms u
         have key: ∃z C N env2 a8,Chain B.X (rOf B D) nt ops J H z C N/\z.map (fun e=>(e.i,e.o))=s/\Le env2 C/\opsK B D nt ops masks fuel K rest' a8 env2 N=some out/\
           (∀ms,masks=some ms->(∀a∈pre,∀b∈z,SeeP B.X ms a b)/\z.Pairwise (SeeP B.X ms)/\Tr B.X ms a8 (pre++z) rest'):=by
          have b1: ∀ {z:List Ent} {C:Env} {N:AH} {env2:Env},Chain B.X (rOf B D) nt ops J H z C N->z.map (fun e=>(e.i,e.o))=s->
            (∀t,t∉outOf ops s rest'->look env2 t=look (dropE (dstsOf s) env) t)->(∀t x,t∈outOf ops s rest'->look env2 t=some x->look C t=some x)->Le env2 C:=by
           intro z C N env2 hc hm G L t x I;by_cases F:t∈outOf ops s rest'
           .exact L t x F I
           .rw[G t F,dropE_look]at I;split at I
            .simp at I
            .rename_i e5;rw[chain_keep hc t (fun e Z e6=>e5 ?_)]
             .exact hl t x I
             .have:(e.i,e.o)∈s:=by rw[<-hm];exact qM.2 ⟨e,Z,rfl⟩
              simp only[dstsOf,List.mem_filterMap];exact⟨_,this,e6⟩
          split at y
          .rename_i b6;unfold runK at y
           cases O:isW g a6 with
           | true=>
            simp only[wnt,O,zP]at y;have I: ∃vs M,rowK B D nt masks (fun _ env H=>pck (outOf ops s rest') env fun vs=>some (.norm vs,H)) s sn env H=some (.norm vs,M)/\(unp (outOf ops s rest') vs (dropE (dstsOf s) env) fun env=>opsK B D nt ops masks fuel K rest' sn env M)=some out/\True:=by
             rcases jn_some y with⟨vs,M,G,L⟩ | ⟨id,vs,M,G,L⟩ | ⟨v,M,G,L⟩
             .exact⟨vs,M,G,L,trivial⟩
             .obtain⟨_,_,_,_,_,_,_,_,_,U,_⟩:=rowK_chain (ops:=ops) (rest:=rest') s sn env H J pre G hl (fun m q=>by rw[a1 m q,O]) a2 S;obtain⟨_,_,c7⟩:=pck_some U;simp at c7
             .obtain⟨_,_,_,_,_,_,_,_,_,U,_⟩:=rowK_chain (ops:=ops) (rest:=rest') s sn env H J pre G hl (fun m q=>by rw[a1 m q,O]) a2 S;obtain⟨_,_,c7⟩:=pck_some U;simp at c7
            obtain⟨vs,M,G,L,_⟩:=I;obtain⟨z,C,N,c0,b2,c1,c2,c3,T,U,c6⟩:=rowK_chain (ops:=ops) (rest:=rest') s sn env H J pre G hl (fun m q=>by rw[a1 m q,O]) a2 S;obtain⟨vs',c7,c8⟩:=pck_some U;simp only[zB,zQ,Ex.norm.injEq]at c8;obtain⟨rfl,rfl⟩:=c8;obtain⟨env2,u1,V⟩:=unp_some L b2 c7;refine⟨z,C,N,env2,sn,c1,c2,b1 c1 c2 (fun t F=>(V t).2 F) (fun t x F I=>T t x (by rw[<-(V t).1 F];exact I)),u1,fun ms u=> ?_⟩;obtain⟨e1,e2,e3⟩:=c6 ms u;refine⟨e1,e2,fun a f Q Y=> ?_⟩;rcases zZ.1 f with f | f
            .exact((S ms u).less (fun _ h=>h) (fun b hb=>qT _ hb)) a f Q Y
            .have d8:=chain_ent c1 a f;have a4:=(ent_ok _ _ _ d8).2.1 Q;have e7:aL B.X a.env a.H a.o.op=some a.v:=by
              simp only[opF,Y,wV]at a4;split at a4
              .rename_i x I;simp only[zB,zQ]at a4;rw[I,a4.1]
              .simp at a4
             cases c9:mayTurn B.X a.o.op with
             | false=>exact .inr (.inl fun H2=>still_ok Y c9 e7 H2)
             | true=>
              refine .inr (.inr fun b hb Z=> ?_);simp only[runOk,tbit_eq,u,qY,yW,yS]at b6;have W:(a.i,a.o)∈s:=by rw[<-c2];exact qM.2 ⟨a,f,rfl⟩
              rcases b6 _ W with hr | hr
              .simp only at hr;rw[c9]at hr;simp at hr
              .rcases hr b hb with hr | hr
               .rw[Z]at hr;simp at hr
               .exact hr
           | false=>
            simp only[wnt,O,y9]at y;have I: ∃vs M,skipK B.X masks sn H (some (.norm ((outOf ops s rest').map fun _=>undefA),H)) s=some (.norm vs,M)/\(unp (outOf ops s rest') vs (dropE (dstsOf s) env) fun env=>opsK B D nt ops masks fuel K rest' sn env M)=some out:=by
             rcases jn_some y with⟨vs,M,G,L⟩ | ⟨id,vs,M,G,L⟩ | ⟨v,M,G,L⟩
             .exact⟨vs,M,G,L⟩
             .have:=(skipK_some G).1;simp at this
             .have:=(skipK_some G).1;simp at this
            obtain⟨vs,M,G,L⟩:=I;obtain⟨h3,h4⟩:=skipK_some G;simp only[zB,zQ,Ex.norm.injEq]at h3;obtain⟨rfl,rfl⟩:=h3;obtain⟨z,C,c1,c2,c3,T⟩:=skip_chain (B:=B) (D:=D) (nt:=nt) (ops:=ops) (H:=H) s J (fun m q=>by rw[a1 m q,O]) a2 (fun m q d hd=>b9 d (by simp only[dstsOf,List.mem_filterMap];exact⟨m,q,hd⟩));obtain⟨env2,u1,V⟩:=unp_some L C (PK_map fun t F=>T t (outOf_sub F));refine⟨z,C,H,env2,sn,c1,c2,b1 c1 c2 (fun t F=>(V t).2 F) (fun t x F I=>by rw[<-(V t).1 F];exact I),u1,fun ms u=>⟨fun a f b hb=> ?_, ?_,fun a f Q Y=> ?_⟩⟩
            .have W:(b.i,b.o)∈s:=by rw[<-c2];exact qM.2 ⟨b,hb,rfl⟩
             refine(S ms u).see (qZ _ W) (fun Z=> ?_) a f;rw[(c3 b hb).2];exact h4 ms u _ W Z
            .refine List.Pairwise.imp_of_mem (R:=fun _ _=>True) (fun {a b} f _ _ hw=> ?_) (List.pairwise_of_forall fun _ _=>trivial);rw[(c3 a f).1]at hw;simp at hw
            .rcases zZ.1 f with f | f
             .exact((S ms u).less (fun _ h=>h) (fun b hb=>qT _ hb)) a f Q Y
             .rw[(c3 a f).1]at Q;simp at Q
          .unfold runW at y
           cases O:isW g a6 with
           | true=>
            simp only[wnt,O,zP]at y;obtain⟨z,C,N,c0,b2,c1,c2,c3,T,U,c6⟩:=rowK_chain (ops:=ops) (rest:=rest') s sn env H J pre y hl (fun m q=>by rw[a1 m q,O]) a2 S;exact⟨z,C,N,b2,c0,c1,c2,T,U,fun ms u=>c6 ms u⟩
           | false=>
            simp only[wnt,O,y9]at y;obtain⟨L,h4⟩:=skipK_some y;obtain⟨z,C,c1,c2,c3,T⟩:=skip_chain (B:=B) (D:=D) (nt:=nt) (ops:=ops) (H:=H) s J (fun m q=>by rw[a1 m q,O]) a2 (fun m q d hd=>b9 d (by simp only[dstsOf,List.mem_filterMap];exact⟨m,q,hd⟩));obtain⟨env2,u1,V⟩:=unp_some L C (PK_map fun t F=>T t (outOf_sub F));refine⟨z,C,H,env2,sn,c1,c2,b1 c1 c2 (fun t F=>(V t).2 F) (fun t x F I=>by rw[<-(V t).1 F];exact I),u1,fun ms u=>⟨fun a f b hb=> ?_, ?_,fun a f Q Y=> ?_⟩⟩
            .have W:(b.i,b.o)∈s:=by rw[<-c2];exact qM.2 ⟨b,hb,rfl⟩
             refine(S ms u).see (qZ _ W) (fun Z=> ?_) a f;rw[(c3 b hb).2];exact h4 ms u _ W Z
            .refine List.Pairwise.imp_of_mem (R:=fun _ _=>True) (fun {a b} f _ _ hw=> ?_) (List.pairwise_of_forall fun _ _=>trivial);rw[(c3 a f).1]at hw;simp at hw
            .rcases zZ.1 f with f | f
             .exact((S ms u).less (fun _ h=>h) (fun b hb=>qT _ hb)) a f Q Y
             .rw[(c3 a f).1]at Q;simp at Q
         obtain⟨z,C,N,env2,a8,k1,k2,k3,k4,k5⟩:=key;obtain⟨b3,a9,b4,d9,d1,d2,d3,d4,d5⟩:=ih rest' a8 env2 N C (pre++z) k4 k3 (fun ms u=>(k5 ms u).2.2);refine⟨z++b3,a9,b4,d9,chain_append k1 d1,by rw[List.map_append,k2,d2,b0],d3,d4,fun ms u=> ?_⟩;obtain⟨e1,e2,e3⟩:=k5 ms u;obtain⟨f1,f2⟩:=d5 ms u;refine⟨fun a f b hb=> ?_,yV.2 ⟨e2,f2,fun a f b hb=>f1 a (qT _ f) b hb⟩⟩;rcases zZ.1 hb with hb | hb
         .exact e1 a f b hb
         .exact f1 a (qZ _ f) b hb
        .simp at a0
       .simp at a0
      .simp at y
end
def Marks (lo:Nat)(R:Ren)(w:World)(ds:List Deferred):Prop:=
 ds.Pairwise (fun a b=> ∀r,a=⟨.collected r, #[]⟩->b≠⟨.collected r, #[]⟩)/\
 ∀d∈ds,∃r,d=⟨.collected r, #[]⟩/\lo<=r/\r<w.heap.size/\(∀A d c,¬R A r d c)/\w.heap[r]? =some (.deferred (some []))
theorem Marks.nil (lo:Nat)(R:Ren)(w:World):Marks lo R w []:=⟨List.Pairwise.nil,by simp⟩
theorem Marks.ext {a:Ren}{f:World}{ds:List Deferred}(h:Marks i s t ds)(k:Ext s n t a E f):Marks i a f ds:=by
 refine⟨h.1,fun d hd=> ?_⟩;obtain⟨r,j,m,lo,h3,o⟩:=h.2 d hd;refine⟨r,j,m,qF lo k.size,fun A d c hr=> ?_,by rw[k.keep r lo h3];exact o⟩;rcases k.new _ _ _ _ hr with h5 | h5 | ⟨p,q,R,h5⟩
 .exact h3 _ _ _ h5
 .omega
 .exact h3 _ _ _ h5
def Ends (k:List Item)(h:Env->AH->Prop)(f:Nat->Env->AH->Prop)(i:Env->AH->Prop)(a:List Item)(env:Env)(H:AH):Prop:=
 (a=k/\h env H)\/(∃id k',a= .code (.exit id)::k'/\exitTo id k'=exitTo id k/\f id env H)\/(∃k',a= .code .ret::k'/\i env H)
def SimI (P:Program)(nt:Nat)(f0:FuncId)(ro:Bool)(p:Item)(env:Env)(H:AH)(m:Env->AH->Prop)(j:Nat->Env->AH->Prop)(o:Env->AH->Prop):Prop:=
 ∀(lo:Nat) (R:Ren) (fr:Frame) (k:List Item) (cs:List Frame) (w:World),fr.mode= .run->(ro=false->fr.roundOf=none/\fr.fn=f0)->fr.todo=p::k->EnvR R env nt fr.tmps->Rel R H w->Marks lo R w fr.defers->lo<=w.heap.size->
  ∃a f h i ds env' H',Steps P (lone fr cs w) (lone { fr with tmps:=h,todo:=i,defers:=ds} cs f)/\EnvR a env' nt h/\Rel a H' f/\Ext R H w a H' f/\H.next<=H'.next/\Marks lo a f ds/\Ends k m j o i env' H'
theorem SimI.mono {f0:FuncId}{P:Item}{o f:Env->AH->Prop}{j a:Nat->Env->AH->Prop}{p m:Env->AH->Prop}(h:SimI q i f0 U P l n o j p)
  (u: ∀e H',o e H'->f e H') (v: ∀nt e H',j nt e H'->a nt e H') (h3: ∀e H',p e H'->m e H'):SimI q i f0 U P l n f a m:=by
 intro lo R fr k cs w hm s x y hL z t;obtain⟨C,F,G,I,ds,env',H',J,K,L,M,N,O,Q⟩:=h lo R fr k cs w hm s x y hL z t;refine⟨C,F,G,I,ds,env',H',J,K,L,M,N,O, ?_⟩;rcases Q with⟨b1,b2⟩ | ⟨id,k',b1,b2,S⟩ | ⟨k',b1,b2⟩
 .exact .inl ⟨b1,u _ _ b2⟩
 .exact .inr (.inl ⟨id,k',b1,b2,v _ _ _ S⟩)
 .exact .inr (.inr ⟨k',b1,h3 _ _ b2⟩)
theorem SimI.then {f0:FuncId}{N:Item}{I:Env->AH->Prop}{s:Nat->Env->AH->Prop}{t:Env->AH->Prop}{J:Env->AH->Prop}
  (o:List Item) (O: ∀id k,exitTo id (o++k)=exitTo id k)
  (h:SimI q i f0 U N l n J s t)
  (g: ∀j nt,J j nt-> ∀(lo:Nat) (R:Ren) (fr:Frame) (k:List Item) (cs:List Frame) (w:World),fr.mode= .run->(U=false->fr.roundOf=none/\fr.fn=f0)->fr.todo=o++k->EnvR R j i fr.tmps->Rel R nt w->Marks lo R w fr.defers->lo<=w.heap.size->
   ∃a f m p ds env' H',Steps q (lone fr cs w) (lone { fr with tmps:=m,todo:=p,defers:=ds} cs f)/\EnvR a env' i m/\Rel a H' f/\Ext R nt w a H' f/\nt.next<=H'.next/\Marks lo a f ds/\Ends k I s t p env' H')
  (lo:Nat) (R:Ren) (fr:Frame) (k:List Item) (cs:List Frame) (w:World) (hm:fr.mode= .run) (K:U=false->fr.roundOf=none/\fr.fn=f0) (T:fr.todo=N::(o++k)) (ro:EnvR R l i fr.tmps) (hL:Rel R n w) (V:Marks lo R w fr.defers) (L:lo<=w.heap.size):
   ∃a f m p ds env' H',Steps q (lone fr cs w) (lone { fr with tmps:=m,todo:=p,defers:=ds} cs f)/\EnvR a env' i m/\Rel a H' f/\Ext R n w a H' f/\n.next<=H'.next/\Marks lo a f ds/\Ends k I s t p env' H':=by
 obtain⟨v,x,t1,M,u,j,nt,y,z,C,P,F,G,W⟩:=h lo R fr (o++k) cs w hm K T ro hL V L;rcases W with⟨rfl,b2⟩ | ⟨id,k',b1,b2,Y⟩ | ⟨k',b1,b2⟩
 .obtain⟨Z,w2,t2,Q,S,env2,H2,c1,c2,c3,c4,c5,c6,c7⟩:=g j nt b2 lo v { fr with tmps:=t1,todo:=o++k,defers:=u} k cs x hm K rfl z C G (qP L P.size);exact⟨Z,w2,t2,Q,S,env2,H2,y.trans c1,c2,c3,P.trans c4,qP F c5,c6,c7⟩
 .exact⟨v,x,t1,M,u,j,nt,y,z,C,P,F,G, .inr (.inl ⟨id,k',b1,by rw[b2,O],Y⟩)⟩
 .exact⟨v,x,t1,M,u,j,nt,y,z,C,P,F,G, .inr (.inr ⟨k',b1,b2⟩)⟩
theorem SimI.step {P:Program}{nt:Nat}{H:AH}{fr p:Frame}{k:List Item}{cs:List Frame}{w:World}{lo:Nat}{R:Ren}{m:Env->AH->Prop}{j:Nat->Env->AH->Prop}{o:Env->AH->Prop}{q:List Item}
  (s:step P (lone fr cs w)= .next (lone p cs w)) (t:p= { fr with todo:=q})
  (g: ∃a f i h ds env' H',Steps P (lone { fr with todo:=q} cs w) (lone { fr with tmps:=i,todo:=h,defers:=ds} cs f)/\EnvR a env' nt i/\Rel a H' f/\Ext R H w a H' f/\H.next<=H'.next/\Marks lo a f ds/\Ends k m j o h env' H'):
  ∃a f i h ds env' H',Steps P (lone fr cs w) (lone { fr with tmps:=i,todo:=h,defers:=ds} cs f)/\EnvR a env' nt i/\Rel a H' f/\Ext R H w a H' f/\H.next<=H'.next/\Marks lo a f ds/\Ends k m j o h env' H':=by
 subst t;obtain⟨a,f,u,h,ds,env',H',v,x⟩:=g;exact⟨a,f,u,h,ds,env',H',(Steps.one s).trans v,x⟩
def jQ:=@SimI.step
theorem idx_get: ∀(l:List Oper) (n:Nat),(idx l n).map (·.1)=(List.range l.length).map (n+ ·)/\ ∀a∈idx l n,n<=a.1/\l[a.1 - n]? =some a.2
 | [],n=>by simp[idx]
 | o::l,n=>by
  obtain⟨h,i⟩:=idx_get l (n+1);refine⟨?_,fun a f=> ?_⟩
  .simp only[idx,y6,h,zV,List.range_succ_eq_map,List.map_map];simp only[Nat.add_zero,yF,true_and];apply List.map_congr_left;intro x _;simp only[Function.comp];omega
  .simp only[idx,zM]at f;rcases f with rfl | f
   .simp
   .obtain⟨h3,j⟩:=i a f;refine⟨by omega, ?_⟩;rw[show a.1 - n=(a.1 - (n+1))+1 from by omega,yY];exact j
section
variable {P:Program}{B:Tb}{D:Dyn}(hX:Ok P B.X)(hr:Good P (rOf B D)){nt:Nat}
include hX hr in
theorem chain_run {ops:Array Oper} : ∀ {es:List Ent} {env:Env} {H:AH} {envF:Env} {HF:AH},Chain B.X (rOf B D) nt ops env H es envF HF->(∀e∈es,ops[e.i]? =some e.o)->
  ∀(R:Ren) (fr:Frame) (k:List Item) (cs:List Frame) (w:World),fr.mode= .run->fr.todo= .inRegion ops (es.map (·.i))::k->EnvR R env nt fr.tmps->Rel R H w->
  ∃s t x,Steps P (lone fr cs w) (lone { fr with tmps:=x,todo:= .inRegion ops []::k} cs t)/\EnvR s envF nt x/\Rel s HF t/\Ext R H w s HF t
 | [],env,H,envF,HF,⟨h1,h2⟩,_,R,fr,k,cs,w,hm,ht,hE,hL=>by
  subst h1 h2;refine⟨R,w,fr.tmps, ?_,hE,hL,jX R H w⟩;have:({ fr with tmps:=fr.tmps,todo:= .inRegion ops []::k} :Frame)=fr:=by
   have a:fr.todo= .inRegion ops []::k:=ht;rw[<-a]
  rw[this];exact .refl _ _
 | e::es,env,H,envF,HF,⟨h1,h2,h3,env',h4,h5⟩,hmem,R,fr,k,cs,w,hm,ht,hE,hL=>by
  have u:=hmem e (zH ..);obtain⟨G,C,F⟩:=ent_ok _ _ _ h3;have j:=want_ok hE G;have a:fr.todo= .inRegion ops (e.i::es.map (·.i))::k:=ht;have key: ∃f h z,Steps P (lone fr cs w) (lone { fr with tmps:=putT fr.tmps e.o.dst z,todo:= .inRegion ops (es.map (·.i))::k} cs h)/\VR f e.v z/\Rel f e.H' h/\Ext R H w f e.H' h:=by
   cases m:e.want with
   | true=>
    rw[m]at j;exact opF_ok hX hr (cs:=cs) hm a u j hE hL (C m)
   | false=>
    rw[m]at j;obtain⟨I,p⟩:=F m;refine⟨R,w,undef, ?_,by rw[I];exact VR_undef R,by rw[p];exact hL,by rw[p];exact jX R H w⟩;rw[<-finish_region a u];exact .one (st_passed hm a u j)
  obtain⟨f,h,z,J,v1,K,y⟩:=key;obtain⟨L,M,t2,N,p,O,Q⟩:=chain_run h5 (fun q S=>hmem q (zC _ S)) f { fr with tmps:=putT fr.tmps e.o.dst z,todo:= .inRegion ops (es.map (·.i))::k} k cs h hm rfl ((hE.mono y.sub).put v1 h4) K;exact⟨L,M,t2,J.trans N,p,O,y.trans Q⟩
include hX hr in
theorem regK_ok {K:Env->AH->Rs}{out:Ex×AH}(h:regK B D nt v U K l n=some out)(f0:FuncId)(ro:Bool)(q:Nat->Env->AH->Prop)(s:Env->AH->Prop):
  SimI P nt f0 ro (.code (.region i v U)) l n (fun env' H'=>K env' H'=some out) q s:=by
 unfold regK at h;rw[zF]at h;have t: ∀ {env' envF:Env} {HF:AH},SimCode P nt (.region i v U) l n .normal envF HF->Le env' envF->n.next<=HF.next->K env' HF=some out->
   SimI P nt f0 ro (.code (.region i v U)) l n (fun env' H'=>K env' H'=some out) q s:=by
  intro env' envF HF F hl G I lo R fr k cs w hm _ j m hL J a0;obtain⟨L,M,N,O,Q,ops,S,T,x⟩:=F R fr k cs w hm j m hL;simp only[Out]at ops;subst ops;exact⟨L,M,N,O,fr.defers,env',HF,Q,S.le hl,T,x,G,J.ext x, .inl ⟨rfl,I⟩⟩
 split at h
 .rename_i hd;subst hd;split at h
  .rename_i row masks y;obtain⟨es,envF,HF,env',c1,c2,c3,p,f⟩:=opsK_chain _ row [] l n l [] h (Le.refl l) (fun ms u=>by intro a V;simp at V);exact t (draw_core hX hr hr.mono y c1 c2 (f _ rfl).2) c3 (chain_next hr.mono c1).1 p
  .simp at h
 .rename_i hd;have C:U=false:=by simpa using hd
  subst C;obtain⟨es,envF,HF,env',c1,c2,c3,p,_⟩:=opsK_chain _ _ [] l n l [] h (Le.refl l) (fun ms u=>by simp at u);refine t ?_ c3 (chain_next hr.mono c1).1 p;intro R fr k cs w hm j m hL;obtain⟨W,Y⟩:=idx_get v.toList 0;have hi:es.map (·.i)=List.range v.size:=by
   have:es.map (·.i)=(idx v.toList 0).map (·.1):=by rw[<-c2];simp
   rw[this,W];simp
  have z: ∀e∈es,v[e.i]? =some e.o:=by
   intro e Z;have:(e.i,e.o)∈idx v.toList 0:=by rw[<-c2];exact qM.2 ⟨e,Z,rfl⟩
   have:=(Y _ this).2;simpa using this
  obtain⟨R1,w1,t1,s1,e1,l1,x1⟩:=chain_run hX hr c1 z R { fr with todo:= .inRegion v (List.range v.size)::k} k cs w hm (by rw[hi]) m hL;exact⟨R1,w1,t1,k,(Steps.one (st_region hm j)).trans (s1.trans (.one (st_region_end (fr:= { fr with tmps:=t1,todo:= .inRegion v []::k}) hm rfl))),rfl,e1,l1,x1⟩
end
end Go.Eng
end



