/- A checked evaluator for the program, and what it tells, part 2: no condition. -/
import Derived.Test.YtaaflpnhdkoaeaaGreatO1
import Derived.RangeFuncRecord
import Derived.Orders
set_option linter.all false
set_option linter.unusedVariables false
set_option linter.unusedSimpArgs false
set_option maxHeartbeats 8000000
set_option maxRecDepth 20000
variable {h p L:Go.Eng.AV}{n E:Go.Eng.AH}{k W:Go.TypeId}{i:Nat}{A:List Nat}{v:Array Go.Oper}{l Y:Go.Eng.Env}{t:Go.World}{q:Go.Program}{e:Go.Eng.AObj×(Nat->Go.Eng.AV)}{s:Go.Eng.Ren}{C f:Go.Value}{F:Array Go.Value}{G:Go.Op}{I:List Go.Eng.AV}{J:Option Go.Eng.AV}{M:Option Go.Tmp}{N:List (Nat×Go.Oper)}{Q:Go.Eng.Cx}{U:Bool}{V:Go.Oper}{a:Array (Nat×Go.Operand)}{c:Go.TypeDesc}{g:Go.Eng.AObj}{j:Option (Go.Eng.AObj×(Nat->Go.Eng.AV))}{m:List Go.Eng.Ent}{u:Go.BinOp}{z:Go.Eng.AV->Go.Eng.AV->Option Go.Eng.AV}
section
namespace Go.Eng
theorem U0 {m:World}{ty e:TypeId}{n sLen sCap:Nat}{base:Option Addr}(o:(underlying k).run q t= .ok (.slice e) t)(p:(underlying W).run q t= .ok c t)(x: ∀w,c≠ .int w)
  (u:(sizeOf e).run q t= .ok i t) (P:(Builtin.lenOf C).run q t= .ok n t) (s:(Builtin.firstCells i n C).run q t= .ok F t) (j:sLen+n<=sCap)
  (h:(match base with | some a=>storeCells (a.add (sLen*i)) F.toList | none=>pure ()).run q t= .ok () m):
  (Builtin.append_ #[k,W] ty #[.slice base sLen sCap,C]).run q t= .ok (.slice base (sLen+n) sCap) m:=by
 have v:(match c with | .int _=>true | _=>false)=false:=by
  cases c<;>first | rfl | exact absurd rfl (x _)
 cases base with
 | none=>
  simp only[zL,Result.ok.injEq,true_and]at h;subst h;simp[Builtin.append_,zH,o,p,u,v,P,j,s,zL]
 | some a=>
  simp[Builtin.append_,zH,o,p,u,v,P,j,s,h,zL]
theorem run_append_grow {ty e:TypeId}{n:TypeInfo}{sLen sCap:Nat}{base:Option Addr}{old:Array Value}(K:(underlying k).run q t= .ok (.slice e) t)(L:(underlying W).run q t= .ok c t)(s: ∀w,c≠ .int w)
  (hi:q.info? e=some n) (M:n.zero=some C) (N:(Builtin.lenOf f).run q t= .ok i t) (O: ∀a,a.heap=t.heap->(Builtin.firstCells n.size i f).run q a= .ok F a)
  (Q: ∀a,a.heap=t.heap->(Builtin.firstCells n.size sLen (.slice base sLen sCap)).run q a= .ok old a) (v:sCap<sLen+i) (hb:(sLen+i+(sLen+i) / 4+192)*n.bytes<=281474976710656) (U:sLen+i<4611686018427387904):
  ∃cap,sLen+i<=cap/\cap<9223372036854775808/\(Builtin.append_ #[k,W] ty #[.slice base sLen sCap,f]).run q t=
   .ok (.slice (some ⟨t.heap.size,0,none⟩) (sLen+i) cap) (World.alloc t.drew (.cells (old++F++Builtin.zeroCells C.cells (cap - (sLen+i))) e)):=by
 have x:(match c with | .int _=>true | _=>false)=false:=by
  cases c<;>first | rfl | exact absurd rfl (s _)
 have T:=growslice_fits_wide (bytes:=n.bytes) v hb;refine⟨Question.cut (.appendCap (sLen+i) sCap e) (t.tape t.drawn (.appendCap (sLen+i) sCap e)),by simp only[Question.cut];omega,by
   simp only[Question.cut];have:=Nat.mod_lt (t.tape t.drawn (.appendCap (sLen+i) sCap e)) (show 2 ^ 63 - (sLen+i)>0 by omega);omega, ?_⟩
 generalize j:Question.cut (.appendCap (sLen+i) sCap e) (t.tape t.drawn (.appendCap (sLen+i) sCap e))=cap;have u:(choose (.appendCap (sLen+i) sCap e)).run q t= .ok cap { t with drawn:=t.drawn+1} :=by
  simp only[choose,Sem.run,Question.forced,zM,qE,j]
 have y: ∀a,(sizeOf e).run q a= .ok n.size a:=fun a=>by simp[sizeOf,typeInfo,hi]
 have z: ∀a,(typeInfo e).run q a= .ok n a:=fun a=>by simp[typeInfo,hi]
 have h: ∀a,(zeroValue e).run q a= .ok C a:=fun a=>by simp[zeroValue,typeInfo,hi,M]
 have xv: ¬sLen+i<=sCap:=by omega
 have p: ¬((sLen+i:Nat):Int)>IntKind.i64.max:=by
  simp only[IntKind.max,IntKind.signed,IntKind.bits];simp;omega
 have o: ∀(b:Nat) a,(askRoom b).run q a= .ok () a:=fun b a=>by unfold askRoom;split<;>rfl
 have V: ¬Builtin.nextslicecap (sLen+i) sCap*n.bytes>2 ^ 48:=by omega
 have G:=O t.drew rfl;have I:=Q t.drew rfl;have S: ¬(((sLen:Int)+(i:Int))>IntKind.i64.max):=by simpa using p
 have J: ¬(9223372036854775807< (sLen:Int)+(i:Int)/\n.bytes=0):=by omega
 have m:(Question.appendCap (sLen+i) sCap e).forced=false:=rfl;have P: ¬281474976710656<Builtin.nextslicecap (sLen+i) sCap*n.bytes:=by omega
 simp[Builtin.append_,zH,K,L,y,x,N,xv,z,J,P,m,j,o,I,G,h,newRow,newObj,Sem.run,zL]
structure AppSrc (P:Program)(w:World)(t u ty e:TypeId)(ti:TypeInfo)(zv xv:Value)(n:Nat)(vs:Array Value):Prop where
 fits: ∀(base:Option Addr) (sLen sCap:Nat) (w':World),sLen+n<=sCap->(match base with | some a=>storeCells (a.add (sLen*ti.size)) vs.toList | none=>pure ()).run P w= .ok () w'->
  (Builtin.append_ #[t,u] ty #[.slice base sLen sCap,xv]).run P w= .ok (.slice base (sLen+n) sCap) w'
 grows: ∀(base:Option Addr) (sLen sCap:Nat) (old:Array Value),(∀w',w'.heap=w.heap->(Builtin.firstCells ti.size sLen (.slice base sLen sCap)).run P w'= .ok old w')->sCap<sLen+n->
  (sLen+n+(sLen+n) / 4+192)*ti.bytes<=281474976710656->sLen+n<4611686018427387904->
  ∃cap,sLen+n<=cap/\cap<9223372036854775808/\(Builtin.append_ #[t,u] ty #[.slice base sLen sCap,xv]).run P w=
   .ok (.slice (some ⟨w.heap.size,0,none⟩) (sLen+n) cap) (World.alloc w.drew (.cells (old++vs++Builtin.zeroCells zv.cells (cap - (sLen+n))) e))
theorem AppSrc.plain {ty e:TypeId}{a:TypeInfo}(m:(underlying k).run q t= .ok (.slice e) t)(o:(underlying W).run q t= .ok c t)(h: ∀w,c≠ .int w)
  (hi:q.info? e=some a) (y:a.zero=some C) (p:(Builtin.lenOf f).run q t= .ok i t) (P: ∀j,j.heap=t.heap->(Builtin.firstCells a.size i f).run q j= .ok F j):AppSrc q t k W ty e a C f i F:=
 ⟨fun _ _ _ _ s z=>U0 m o h (by simp[sizeOf,typeInfo,hi]) p (P t rfl) s z,
  fun _ _ _ _ u v hb x=>run_append_grow m o h hi y p P u v hb x⟩
theorem AppSrc.zeros {ty e:TypeId}{w:IntKind}{n:TypeInfo}(y:(underlying k).run q t= .ok (.slice e) t)(z:(underlying W).run q t= .ok (.int w) t)
  (hi:q.info? e=some n) (T:n.zero=some C) (u:0<n.size) (hn:i<4611686018427387904) (hb:i*n.bytes<=281474976710656):AppSrc q t k W ty e n C (.int .i64 (i:Int)) i (Builtin.zeroCells C.cells i):=by
 have P: ∀f,(sizeOf e).run q f= .ok n.size f:=fun f=>by simp[sizeOf,typeInfo,hi]
 have s: ∀f,(typeInfo e).run q f= .ok n f:=fun f=>by simp[typeInfo,hi]
 have G: ∀f,(zeroValue e).run q f= .ok C f:=fun f=>by simp[zeroValue,typeInfo,hi,T]
 have p:IntKind.i64.wrap (i:Int)=i:=uP (by simp only[IntKind.min,IntKind.signed,IntKind.bits];simp) (by simp only[IntKind.max,IntKind.signed,IntKind.bits];simp;omega);have F: ¬((i:Int)<0):=by omega
 have U: ¬((i:Int)*(n.bytes:Int)>2 ^ 48):=by
  have:((i*n.bytes:Nat):Int)<=281474976710656:=by omega
  simp at this;simp;omega
 have v: ¬(281474976710656< (i:Int)*(n.bytes:Int)):=by simpa using U
 have x: ∀f:World,(asInt (.int .i64 (i:Int))).run q f= .ok (i:Int) f:=fun f=>by simp[asInt,asIntOf]
 have M:i*n.size=0->Builtin.zeroCells C.cells i= #[]:=by
  intro j;have:i=0:=by
   rcases Nat.mul_eq_zero.1 j with h | h
   .exact h
   .omega
  subst this;simp[Builtin.zeroCells]
 refine⟨fun base sLen sCap f o m=> ?_,fun base sLen sCap old V Q S Z=> ?_⟩
 .by_cases j:i*n.size=0
  .rw[M j]at m
   cases base with
   | none=>
    simp only[zL,Result.ok.injEq,true_and]at m;subst m;simp[Builtin.append_,zH,y,z,P,x,p,F,s,v,o,j,zL]
   | some a=>
    simp only at m;simp[Builtin.append_,zH,y,z,P,x,p,F,s,v,o,j,m,zL]
  .cases base with
   | none=>
    simp only[zL,Result.ok.injEq,true_and]at m;subst m;simp[Builtin.append_,zH,y,z,P,x,p,F,s,v,o,j,G,zL]
   | some a=>
    simp only at m;simp[Builtin.append_,zH,y,z,P,x,p,F,s,v,o,j,G,m,zL]
 .have Y:=growslice_fits_wide (bytes:=n.bytes) Q S;refine⟨Question.cut (.appendCap (sLen+i) sCap e) (t.tape t.drawn (.appendCap (sLen+i) sCap e)),by simp only[Question.cut];omega,by
   simp only[Question.cut];have:=Nat.mod_lt (t.tape t.drawn (.appendCap (sLen+i) sCap e)) (show 2 ^ 63 - (sLen+i)>0 by omega);omega, ?_⟩
  generalize K:Question.cut (.appendCap (sLen+i) sCap e) (t.tape t.drawn (.appendCap (sLen+i) sCap e))=cap;have o: ¬sLen+i<=sCap:=by omega
  have J: ∀(b:Nat) f,(askRoom b).run q f= .ok () f:=fun b f=>by unfold askRoom;split<;>rfl
  have N:=V t.drew rfl;have O: ¬(9223372036854775807< (sLen:Int)+(i:Int)):=by omega
  have I:(Question.appendCap (sLen+i) sCap e).forced=false:=rfl;have L: ¬281474976710656<Builtin.nextslicecap (sLen+i) sCap*n.bytes:=by omega
  by_cases j:i*n.size=0
  .rw[M j];simp[Builtin.append_,zH,y,z,P,x,p,F,s,v,o,O,L,I,K,J,N,j,G,newRow,newObj,Sem.run,zL]
  .simp[Builtin.append_,zH,y,z,P,x,p,F,s,v,o,O,L,I,K,J,N,j,G,newRow,newObj,Sem.run,zL]
theorem Rel.kill {H:AH}(h:Rel s H t){w:T AObj}(p:T.set 40 H.h i .dead=some w):Rel s ⟨w,H.next⟩ t:=by
 have j:=T.get_set _ _ _ _ _ p;have hl: ∀f,YL ⟨w,H.next⟩ f->YL H f:=fun f ⟨o,a,hd⟩=>by
  simp only[j]at a;by_cases e:f=i
  .rw[if_pos e]at a;injection a with a;subst a;exact hd.elim
  .rw[if_neg e]at a;exact⟨o,a,hd⟩
 refine⟨h.fn,fun m R b d c d' c' r q l l'=>h.inj _ _ _ _ _ _ _ r q (hl _ l) (hl _ l'),fun m b d c o r a=> ?_,h.lt⟩;simp only[j]at a;by_cases e:m=i
 .rw[if_pos e]at a;injection a with a;subst a;trivial
 .rw[if_neg e]at a;exact h.obj _ _ _ _ _ r a
theorem Ext.kill {H:AH}{b d c:Nat}(hR:s i b d c){a:T AObj}(f:T.set 40 H.h i .dead=some a):Ext s H t s ⟨a,H.next⟩ t:=
 ⟨zOH s,fun _ _ _ _ h=> .inl h,fun _ _ _ _ h=> .inl h,zP _,fun R _ j=>by
  show a.get R=_;rw[T.get_set _ _ _ _ _ f,if_neg (fun e=>by subst e;exact j _ _ _ hR)],rfl,rfl,rfl,zP _,fun _ _ _=>rfl⟩
theorem Rel.move {w:World}(h:Rel s n w){b d c d' c':Nat}{x:Obj}{t1 t2:T AObj}(hR:s i b d c)(hl:YL n i)(G:T.set 40 n.h i .dead=some t1)(I:T.set 40 t1 n.next g=some t2)
  (f:zHY (s.add n.next b d' c') g d' c' (some x)):Rel (s.add n.next b d' c') ⟨t2,n.next+1⟩ (vX w b x):=by
 have y:=T.get_set _ _ _ _ _ G;have t:=T.get_set _ _ _ _ _ I;have j: ∀b d c,¬s n.next b d c:=fun b d c r=>by have:=(h.lt _ _ _ _ r).2;omega
 have R: ∀p,YL ⟨t2,n.next+1⟩ p->p≠n.next->YL n p/\p≠i:=fun p ⟨o,f,hd⟩ hne=>by
  simp only[t,if_neg hne,y]at f;by_cases e:p=i
  .rw[if_pos e]at f;injection f with f;subst f;exact hd.elim
  .rw[if_neg e]at f;exact⟨⟨o,f,hd⟩,e⟩
 refine⟨?_, ?_, ?_, ?_⟩
 .rintro H b1 u c1 b2 J c2 (r | ⟨rfl,rfl,rfl,rfl⟩) (r' | ⟨e1,rfl,rfl,rfl⟩)
  .exact h.fn _ _ _ _ _ _ _ r r'
  .subst e1;exact absurd r (j _ _ _)
  .exact absurd r' (j _ _ _)
  .exact⟨rfl,rfl,rfl⟩
 .rintro H z b1 u c1 J c2 (r | ⟨rfl,rfl,rfl,rfl⟩) (r' | ⟨rfl,e2,rfl,rfl⟩) l l'
  .have m:H≠n.next:=fun e=>by subst e;exact j _ _ _ r
   have K:z≠n.next:=fun e=>by subst e;exact j _ _ _ r'
   exact h.inj _ _ _ _ _ _ _ r r' (R _ l m).1 (R _ l' K).1
  .subst e2;have m:H≠n.next:=fun e=>by subst e;exact j _ _ _ r
   obtain⟨q,v⟩:=R _ l m;exact absurd (h.inj _ _ _ _ _ _ _ r hR q hl) v
  .have m:z≠n.next:=fun e=>by subst e;exact j _ _ _ r'
   obtain⟨q,v⟩:=R _ l' m;exact absurd (h.inj _ _ _ _ _ _ _ r' hR q hl) v
  .rfl
 .rintro H b1 u c1 L (r | ⟨rfl,rfl,rfl,rfl⟩) a
  .have m:H≠n.next:=fun e=>by subst e;exact j _ _ _ r
   simp only[t,if_neg m,y]at a;by_cases e:H=i
   .rw[if_pos e]at a;injection a with a;subst a;trivial
   .rw[if_neg e]at a;by_cases C:b1=b
    .subst C;have F: ¬YL n H:=fun q=>e (h.inj _ _ _ _ _ _ _ r hR q hl)
     cases L with
     | dead=>trivial
     | _=>exact absurd ⟨_,a,trivial⟩ F
    .rw[vH _ _ _ _ C];exact(h.obj _ _ _ _ _ r a).mono (s.sub_add _ _ _ _)
  .simp only[t,if_pos]at a;injection a with a;subst a
   rw[bC _ _ _ (h.lt _ _ _ _ hR).1];exact f
 .rintro H b1 u c1 (r | ⟨rfl,rfl,rfl,rfl⟩)
  .rw[vJ];exact⟨(h.lt _ _ _ _ r).1,Nat.lt_succ_of_lt (h.lt _ _ _ _ r).2⟩
  .rw[vJ];exact⟨(h.lt _ _ _ _ hR).1,Nat.lt_succ_self _⟩
theorem Ext.move {w:World}{b d c d' c':Nat}{x:Obj}{t1 t2:T AObj}(hR:s i b d c)(a:T.set 40 n.h i .dead=some t1)(f:T.set 40 t1 n.next g=some t2):
  Ext s n w (s.add n.next b d' c') ⟨t2,n.next+1⟩ (vX w b x) where
 sub:=s.sub_add _ _ _ _
 new A1 b1 d1 c1:=by
  rintro(r | ⟨rfl,rfl,rfl,rfl⟩)
  .exact .inl r
  .exact .inr (.inr ⟨_,_,_,hR⟩)
 newA A1 b1 d1 c1:=by
  rintro(r | ⟨rfl,rfl,rfl,rfl⟩)
  .exact .inl r
  .exact .inr (zP _)
 next:=Nat.le_succ _
 keepA A1 hA hk:=by
  show t2.get A1=_;rw[T.get_set _ _ _ _ _ f,if_neg (by omega),T.get_set _ _ _ _ _ a,if_neg (fun e=>by subst e;exact hk _ _ _ hR)]
 os:=rfl
 tape:=rfl
 output:=rfl
 size:=by rw[vJ];omega
 keep k _ hk:=vH _ _ _ _ (fun e=>by subst e;exact hk _ _ _ hR)
theorem Rel.heap {R:Ren}{H:AH}{w a:World}(h:Rel R H w)(e:a.heap=w.heap):Rel R H a:=
 ⟨h.fn,h.inj,fun A b d c o r f=>by rw[e];exact h.obj A b d c o r f,fun A b d c r=>by rw[e];exact h.lt A b d c r⟩
theorem WY: ∀(n:Nat) (l:List AV),n<=l.length->takeN n l=some (l.take n)
 | 0,l,_=>by simp[takeN]
 | n+1,[],hl=>by simp at hl
 | n+1,x::l,hl=>by simp only[takeN,WY n l (by simpa using hl)];rfl
theorem kZ: ∀(l:List AV) (o n:Nat),n=0\/o+n<=l.length->uW l o n=some ((l.drop o).take n)
 | l,0,n,hn=>by
  have:uW l 0 n=takeN n l:=by cases l<;>rfl
  rw[this,WY n l (by omega)];simp
 | [],o+1,n,hn=>by
  have:n=0:=by simp at hn;omega
  subst this;simp[uW]
 | x::l,o+1,n,hn=>by
  simp only[uW];rw[kZ l o n (by simp at hn;omega)];simp
theorem zHi {f:World}(e:f.heap=t.heap)(a:Addr):f.cell? a=t.cell? a:=by simp only[World.cell?,e]
theorem Rel.loadsW {b d c:Nat}{sz:Nat}(h:Rel s n t)(w:n.h.get i=some (.cells I k sz U))(hR:s i b d c){P:Program}{o H:Nat}{r:List AV}(hr:uW I o H=some r):
  ∃vs:List Value,(∀a:World,a.heap=t.heap->(loadCells ⟨b,d+o,none⟩ H).run P a= .ok vs.toArray a)/\VRL s r vs:=by
 obtain⟨p,C⟩:=d8 _ _ _ _ hr;obtain⟨arr,l,pre,l',z,u,x,J,A,_⟩:=h.cellsAt w hR;have F:=zOE I l' A;have q:VRL s r ((l'.drop o).take H):=by rw[p];exact(A.drop o).take H
 have m:((l'.drop o).take H).length=H:=by
  rw[qC,qJ];omega
 refine⟨(l'.drop o).take H,fun a y=> ?_,q⟩;have hl:=run_loadCells_list (P:=P) a ⟨b,d+o,none⟩ ((l'.drop o).take H) (fun j v f=>by
  have G:=(qP.1 f).1;rw[xH,zHi y];simp only[World.cell?,u,Option.isSome_none,zM,qE];rw[jJ (by omega),jL]at f;have R:o+j<l'.length:=(qP.1 f).1;rw[<-yX,x,jC (by omega),show d+o+j - pre.length=o+j from by omega,j5 R];exact f)
 rw[m]at hl;exact hl
section
variable {P:Program}{X:Cx}(hX:Ok P X){R:Ren}{H:AH}{w:World}(hL:Rel R H w)
include hL in
theorem zCB {n:Nat}(x:srcOf i h H=some (n,I))(sz:VR R h C):
  (∀f,(Builtin.lenOf C).run P f= .ok n f)/\I.length=n*i/\ ∀m,m<=n-> ∃vs:List Value,(∀f:World,f.heap=w.heap->(Builtin.firstCells i m C).run P f= .ok vs.toArray f)/\VRL R (I.take (m*i)) vs:=by
 unfold srcOf at x;split at x
 .simp only[zC,zT]at x;obtain⟨rfl,rfl⟩:=x;simp only[VR]at sz;subst sz;exact⟨fun _=>rfl,by simp,fun m hm=>⟨[],fun f _=>rfl,by simp[VRL]⟩⟩
 .simp only[zC,zT]at x;obtain⟨rfl,rfl⟩:=x;obtain⟨a,c,rfl⟩:=sz;refine⟨fun _=>rfl,by simp,fun m hm=>⟨[],fun f _=> ?_,by simp[VRL]⟩⟩;obtain rfl:m=0:=by omega
  simp only[Builtin.firstCells,Nat.zero_mul];rfl
 .rename_i A off k cc;split at x
  .rename_i l e z g q;split at x
   .rename_i cs t;simp only[zC,zT]at x;obtain⟨rfl,rfl⟩:=x;obtain⟨b,d,c,hr,rfl⟩:=sz;obtain⟨o,new⟩:=d8 _ _ _ _ t;refine⟨fun _=>rfl, ?_,fun m hm=> ?_⟩
    .rw[o,qC,qJ];omega
    .have p:m*i<=k*i:=yR _ hm;have j:=kZ l off (m*i) (by omega);have u:(l.drop off).take (m*i)=cs.take (m*i):=by rw[o,List.take_take,Nat.min_eq_left p]
     rw[u]at j;obtain⟨vs',y,h5⟩:=hL.loadsW q hr (P:=P) j;exact⟨vs',y,h5⟩
   .simp at x
  .simp at x
 .rename_i k b;simp only[zG,zX]at x;split at x
  .rename_i j;subst j;simp only[zC,zT]at x;obtain⟨rfl,rfl⟩:=x;obtain⟨s,rfl,rfl,rfl⟩:=sz;have hb:=Y2 (R:=R) s.data.toList;rw[size_data]at hb;refine⟨fun _=>rfl, ?_,fun m hm=> ?_⟩
   .have:=zOE _ _ hb;simp[size_data]at this;omega
   .refine⟨((s.extract 0 m).data.map fun b=>Value.int .u8 (b.toNat:Int)).toList,fun f _=>rfl, ?_⟩;have e:((s.extract 0 m).data.map fun b=>Value.int .u8 (b.toNat:Int)).toList=(s.data.toList.map (fun b=>Value.int .u8 (b.toNat:Int))).take m:=by
     rw[Array.toList_map,Lib.extract_data];simp[List.map_take]
    rw[e,Nat.mul_one];exact hb.take m
  .simp at x
 .simp at x
def zKL (P:Program)(s:Sem Value)(R:Ren)(H:AH)(w:World)(v:AV)(H':AH):Prop:=
 ∃(a:Ren) (f:World) (z:Value),s.run P w= .ok z f/\VR a v z/\Rel a H' f/\Ext R H w a H' f
theorem BL {z:Option Value}(h:JB i z=true): ∃a,z=some a/\a.cells.size=i/\0<i/\ ∃f,ofV a=some f:=by
 unfold JB at h;split at h
 .rename_i a;split at h
  .rename_i f sz;simp only[zF,qD,zX,kG]at h;have:=zOE _ _ (uB (XF (fun _ _ _ _=>False) a f sz));rw[yZ]at this;exact⟨a,rfl,by omega,h.1,f,sz⟩
  .simp at h
 .simp at h
theorem uA (z:Array Value)(n:Nat):(Builtin.zeroCells z n).size=n*z.size:=by simp[Builtin.zeroCells]
theorem zKM (z:Array Value): ∀n,(Builtin.zeroCells z n).toList=(List.replicate n z.toList).flatten:=by
 intro n;rcases Nat.eq_zero_or_pos z.size with a | h
 .have:z= #[]:=Array.eq_empty_of_size_eq_zero a;subst this;simp[Builtin.zeroCells]
 induction n with
 | zero=>simp[Builtin.zeroCells]
 | succ n ih=>
  rw[List.replicate_succ',List.flatten_append,<-ih];simp only[Builtin.zeroCells,Array.toList_map,Array.toList_range,List.flatten_cons,List.flatten_nil,qW];rw[jO,List.range_add,List.map_append];congr 1;apply List.ext_getElem
  .simp
  .intro i j f;have hi:i<z.size:=by simpa using f
   simp only[List.getElem_map,List.getElem_range,Array.getElem_toList];rw[Nat.mul_comm n z.size,Nat.mul_add_mod,Nat.mod_eq_of_lt hi,getElem!_pos z i hi]
theorem hU (R:VR s h C)(n:Nat):VRL s (rep n (kF h)) (Builtin.zeroCells C.cells n).toList:=by
 have i:=uB R;rw[zKM,zNl]
 induction n with
 | zero=>simp[VRL]
 | succ n ih=>simp only[List.replicate_succ,List.flatten_cons];exact i.append ih
theorem zC0 {ty e:TypeId}{a:TypeInfo}{n sLen sCap:Nat}{base:Option Addr}{xv:Value}{oldA:List AV}{oldV newV:List Value}
  (hL:Rel R H w) (y:AppSrc P w k W ty e a C xv n newV.toArray) (u:C.cells.size=a.size) (J: ∃M,ofV C=some M)
  (N: ∀p,p.heap=w.heap->(Builtin.firstCells a.size sLen (.slice base sLen sCap)).run P p= .ok oldV.toArray p) (K:sCap<sLen+n) (m:roomy (sLen+n) a.bytes=true)
  (s:VRL R oldA oldV) (x:VRL R I newV) (z:(oldA++I).length=(sLen+n)*a.size) (f:cT (sLen+n) e a.size (oldA++I) H=some (h,E)):
  zKL P (Builtin.append_ #[k,W] ty #[.slice base sLen sCap,xv]) R H w h E:=by
 simp only[roomy,zF,qT,qD]at m;obtain⟨cap,Q,L,t⟩:=y.grows base sLen sCap _ N K m.1 m.2;unfold cT at f;split at f
 .rename_i A S F;obtain⟨T,q,rfl,rfl,_⟩:=fH F
  .simp only[kI,zC,zT]at f;obtain⟨rfl,rfl⟩:=f;have G:=zOE _ _ (s.append x);have O:Rel R H w.drew:=hL.drew _;refine⟨R.add H.next w.heap.size 0 cap,_,_,t, ?_, ?_, ?_⟩
   .exact⟨w.heap.size,0,cap,R.add_self _ _ _ _,by rw[xT _ (by omega)];simp⟩
   .refine O.new q ?_;refine⟨_,(0,0),[],oldV++newV,(Builtin.zeroCells C.cells (cap - (sLen+n))).toList,rfl,by simp,rfl,VRL.mono (R.sub_add _ _ _ _) _ _ (s.append x),fun j=>by simp at j,fun _=>⟨?_,L⟩,fun _ i _=>by simp,_,hU (XF _ _ _ J.choose_spec) _⟩;rw[G,z,yZ,uA,u,<-jB];congr 1;omega
   .exact(Ext.drew R H w _).trans (Ext.add (w:=w.drew) q)
 .simp at f
include hL in
theorem zHy {ty e:TypeId}{sv:TypeInfo}{newV:List Value}{xv:Value}(o:AppSrc P w k W ty e sv C xv i newV.toArray)(Q:C.cells.size=sv.size)(S: ∃za,ofV C=some za)(b0:0<sv.size)
  (v:VRL R I newV) (G:I.length=i*sv.size) (a0:jV I=true) (s:app1 e sv.size sv.bytes i I h H=some (p,n)) (K:VR R h f):
  zKL P (Builtin.append_ #[k,W] ty #[f,xv]) R H w p n:=by
 have b4:=zOE _ _ v;unfold app1 at s;split at s
 .simp only[VR]at K;subst K;simp only[zG,zX]at s;split at s
  .rename_i new;subst new;simp only[zC,zT]at s;obtain⟨rfl,rfl⟩:=s;exact⟨R,w, .slice none 0 0,o.fits none 0 0 w (zP _) rfl,rfl,hL,zOL R H w⟩
  .rename_i new;unfold vR at s;simp only[zG]at s;split at s
   .rename_i t;have:=zC0 (P:=P) (ty:=ty) (sLen:=0) (sCap:=0) (base:=none) (xv:=xv) (oldA:=[]) (oldV:=[]) (n:=i) hL o Q S (fun m _=>rfl) (by omega) (by rw[j7];exact t) rfl v (by simp[G]) (by rw[j7];exact s);exact this
   .simp at s
 .obtain⟨a,c,rfl⟩:=K;simp only[zG,zX]at s;split at s
  .rename_i new;subst new;simp only[zC,zT]at s;obtain⟨rfl,rfl⟩:=s;have b5:newV=[]:=by
    have:newV.length=0:=by rw[b4,G];simp
    exact zR this
   subst b5;exact⟨R,w, .slice (some a) 0 c,o.fits (some a) 0 c w (by omega) rfl,⟨a,c,rfl⟩,hL,zOL R H w⟩
  .simp at s
 .rename_i A off len cc;obtain⟨b,d,c,hr,rfl⟩:=K;split at s
  .rename_i l e' b7 g y;unfold zEz at s;simp only[zG]at s;split at s
   .rename_i M;rw[qT]at M;unfold zBp at s;split at s
    .rename_i l' O;split at s
     .rename_i H1 j;simp only[kI,zC,zT]at s;obtain⟨rfl,rfl⟩:=s;unfold fF at j;split at j
      .rename_i t' b8;simp only[zC]at j;subst j;obtain⟨O,b9⟩:=zFd (by rw[zG];exact O);obtain⟨m,h1,h2,h3⟩:=hL.stores y hr (P:=P) O b9 v a0 b8;have c2:=zAb hL y hr b0 (off:=off) (cc:=cc);refine⟨R,m,_,o.fits (some ⟨b,d+off,none⟩) _ _ _ (by omega) ?_,⟨b,d,c,hr,rfl⟩,h2,h3⟩;simp only[xH,Nat.add_assoc];exact h1
      .simp at j
     .simp at s
    .simp at s
   .rename_i M;rw[qT]at M;split at s
    .rename_i N;rw[zX]at N;unfold vR at s;simp only[zG]at s;split at s
     .rename_i t;split at s
      .rename_i old hold;obtain⟨oldV,T,U⟩:=hL.loadsW y hr (P:=P) hold;obtain⟨L,e2⟩:=d8 _ _ _ _ hold;have c6:kS l g b7 off cc sv.size=cc / 2:=by
        unfold kS;rw[zG,if_pos (by rw[zX];exact N)]
       have V:old.length=len*sv.size:=by rw[L,qC,qJ];omega
       exact zC0 (P:=P) (ty:=ty) hL o Q S (fun m Y=>T m Y) (by rw[cK c N];omega) t U v (by rw[zV,V,G,jB]) s
      .simp at s
     .simp at s
    .rename_i F;rw[zX]at F;split at s
     .rename_i a9;simp only[zF,zX]at a9;obtain⟨⟨⟨⟨hg,b6⟩,rfl⟩,rfl⟩,c3⟩:=a9;subst hg;rw[kG]at b6;split at s
      .rename_i H1 j;unfold fF at j;split at j
       .rename_i t1 J;simp only[zC]at j;subst j;unfold vR at s;simp only[zG]at s;split at s
        .rename_i t;split at s
         .rename_i old hold;obtain⟨L,e2⟩:=d8 _ _ _ _ hold;have V:old.length=len*sv.size:=by rw[L,qC,qJ];omega
          by_cases b1:len+i<=uU cc c
          ·
           rw[xT c F]at b1;unfold cT at s;split at s
           .rename_i A2 H2 b3;obtain⟨t2,b2,rfl,rfl,_⟩:=fH b3
            .simp only[kI,zC,zT]at s;obtain⟨rfl,rfl⟩:=s;obtain⟨arr,Z,pre,l',q,a1,a2,a3,a4,a5,a6,a7,c7,a8⟩:=hL.cellsAt y hr;have c8:=zOE _ _ a4;have c9:=(a6 rfl).1;have d0:arr.size=d+l'.length+q.length:=by
              have:=congrArg List.length a2;simp at this;omega
             have c4:(cc / 2+len+i)*sv.size<=c*sv.size:=yR _ (by omega);have c5:(cc / 2+len+i)*sv.size=cc / 2*sv.size+len*sv.size+i*sv.size:=by rw[jB,jB]
             have d1:i*sv.size<=q.length:=by omega
             have c0:=cW (P:=P) e Z b (d+off+len*sv.size) newV 0 w arr a1 (by omega) (bL v a0) (a7 b0);have c1:=hL.move (d':=d+off) (c':=c - cc / 2) (x:= .cells (xC arr (d+off+len*sv.size+0) newV) e Z) hr (Rel.live y) J b2 ?_
             .refine⟨_,_,_,o.fits (some ⟨b,d+off,none⟩) _ _ _ (by rw[xT c F];exact b1) ?_, ?_,c1,Ext.move hr J b2⟩
              .simp only[xH];exact c0
              .exact⟨b,d+off,c - cc / 2,R.add_self _ _ _ _,by rw[xT c F,xT _ (by omega)];simp⟩
             .refine⟨_,Z,pre++l'.take off,l'.drop off++newV,q.drop (i*sv.size),rfl, ?_, ?_, ?_,fun s=>by simp at s,fun _=>⟨?_,by have:=(a6 rfl).2;omega⟩,fun hz u hi=> ?_,_,VRL.mono (R.sub_add _ _ _ _) _ _ (a8.drop (i*sv.size))⟩
              .rw[xG _ _ _ (by omega),a2];have f1:(pre++(l'++q)).take (d+off+len*sv.size+0)=pre++l':=by
                rw[List.take_append,zZ (by omega),List.take_append,zZ (by omega)];rw[show d+off+len*sv.size+0 - pre.length - l'.length=0 from by omega];simp
               have f2:(pre++(l'++q)).drop (d+off+len*sv.size+0+newV.length)=q.drop (i*sv.size):=by
                rw[List.drop_append,qS (by omega),List.drop_append,qS (by omega)];rw[show d+off+len*sv.size+0+newV.length - pre.length - l'.length=i*sv.size from by omega];simp
               rw[f1,f2];simp only[qH];rw[<-qH (List.take off l'),qV]
              .simp;omega
              .have:old=l.drop off:=by rw[L,zZ (by rw[qJ];omega)]
               rw[this];exact VRL.mono (R.sub_add _ _ _ _) _ _ ((a4.drop off).append v)
              .simp only[zV,qJ,Nat.sub_mul];omega
              .rw[u9]at hi;exact a7 hz u hi
           .simp at s
          .obtain⟨oldV,T,U⟩:=hL.loadsW y hr (P:=P) hold;have hK:=hL.kill J;obtain⟨R',m,z,g1,g2,g3,g4⟩:=zC0 (P:=P) (ty:=ty) (sLen:=len) (sCap:=uU cc c) (base:=some ⟨b,d+off,none⟩) (n:=i) (xv:=xv) hK o Q S (fun m Y=>T m Y) (by omega) t U v (by rw[zV,V,G,jB]) s;exact⟨R',m,z,g1,g2,g3,(Ext.kill hr J).trans g4⟩
         .simp at s
        .simp at s
       .simp at j
      .simp at s
     .simp at s
  .simp at s
 .simp at s
include hX hL in
theorem zEw {ty:TypeId}(u:fS X k h p H=some (L,n))(K:X.und W=some c)(y: ∀t,c≠ .int t)(x:VR R h C)(M:VR R p f):
  zKL P (Builtin.append_ #[k,W] ty #[C,f]) R H w L n:=by
 unfold fS at u;split at u
 .rename_i e hd;split at u
  .rename_i O z;have hi:=hX.ty _ _ z;simp only[zG]at u;split at u
   .rename_i N;obtain⟨Q,v,F,o,G⟩:=BL N;split at u
    .rename_i i new s;obtain⟨q,I,j⟩:=zCB (P:=P) hL s M;split at u
     .rename_i m;obtain⟨newV,J,a⟩:=j i (zP _);rw[zZ (by omega)]at a;exact zHy hL (AppSrc.plain (hX.run_und hd w) (hX.run_und K w) y hi v (q w) J) F G o a I m u x
     .simp at u
    .simp at u
   .simp at u
  .simp at u
 .simp at u
theorem cE: ∀(l m:List AV),jV l=true->jV m=true->jV (l++m)=true
 | [],m,_,h=>h
 | x::l,m,h,k=>by simp only[jV,zF]at h;simp only[qF,jV,h.1,cE l m h.2 k,qO]
theorem YI (l:List AV)(h:jV l=true): ∀n,jV (rep n l)=true
 | 0=>rfl
 | n+1=>by simp only[rep];exact cE _ _ h (YI l h n)
include hX hL in
theorem zJH {ty:TypeId}{t:IntKind}(u:zHO X k h p H=some (L,n))(K:X.und W=some (.int t))(x:VR R h C)(y:VR R p f):
  zKL P (Builtin.append_ #[k,W] ty #[C,f]) R H w L n:=by
 unfold zHO at u;split at u
 .rename_i e hd;split at u
  .rename_i M v;have hi:=hX.ty _ _ v;split at u
   .rename_i z N;simp only[zG]at u;split at u
    .rename_i F;obtain⟨O,m,o,j,G⟩:=BL F;split at u
     .rename_i xv;split at u
      .rename_i a;simp only[zF,qT,qD]at a;simp only[VR]at y;have I:f= .int .i64 (xv:Int):=y;subst I;obtain⟨S,T,q,i,Q⟩:=hX.zero R N;rw[hi]at q;injection q with q;subst q
       rw[m]at i;injection i with i;subst i
       have s:=hU Q xv;have hl:=zOE _ _ s;have J:(rep xv (kF z)).length=xv*M.size:=by
        rw[<-hl,yZ,uA,o]
       exact zHy hL (newV:=(Builtin.zeroCells O.cells xv).toList) (by rw[Array.toArray_toList];exact AppSrc.zeros (hX.run_und hd w) (hX.run_und K w) hi m j a.1.2 a.1.1) o G j s J (YI _ a.2 xv) u x
      .simp at u
     .simp at u
    .simp at u
   .simp at u
  .simp at u
 .simp at u
end
def zJQ (P:Program)(s:Sem Next)(R:Ren)(H:AH)(w:World)(v:AV)(H':AH):Prop:=
 ∃(f:Ren) (a:World) (z:Value),(s.run P w= .ok (.value z) a\/(s.run P w= .ok .skip a/\z=undef))/\VR f v z/\Rel f H' a/\Ext R H w f H' a
theorem zKL.next {P:Sem Value}(R:zKL q P s n t h E):zJQ q (do pure (Next.value (← P))) s n t h E:=by
 obtain⟨a,f,z,i,j⟩:=R;exact⟨a,f,z, .inl (xO i),j⟩
section
variable {P:Program}{X:Cx}(hX:Ok P X){R:Ren}{H:AH}{w:World}(hL:Rel R H w)
include hX hL
theorem zHv (t:zBm X k h p H=some n)(hp:VR R h C)(m:VR R p f):
  ∃a,(Instr.storeAt k C f).run P w= .ok () a/\Rel R n a/\Ext R H w R n a:=by
 unfold zBm at t;split at t
 .rename_i A off;split at t
  .rename_i l e sz g u;split at t
   .rename_i j v;simp only[zG]at t;split at t
    .rename_i i;simp only[zF,zX,kG,qD]at i;split at t
     .rename_i l' o;unfold fF at t;split at t
      .rename_i F q;simp only[zC]at t;subst t;obtain⟨b,d,c,hr,rfl⟩:=hp;have s:=zOE _ _ (uB m);rw[yZ]at s;obtain⟨a,x,z,y⟩:=hL.stores u hr (P:=P) o i.2 (uB m) i.1.2 q;refine⟨a, ?_,z,y⟩;simp only[Instr.storeAt,Instr.sureAddr,storeVar,zH,zL,Result.andThen,hX.run_size v];rw[if_neg (by have:=i.1.1;simp;omega)];exact x
      .simp at t
     .simp at t
    .simp at t
   .simp at t
  .simp at t
 .simp at t
theorem zJC {ty:TypeId}{ts:Array TypeId}(o:ts[0]? =some k)(t:zEv X k h p H=some (L,n))(u:VR R h C)(i:VR R p f):zKL P (Builtin.copy_ ts ty #[C,f]) R H w L n:=by
 unfold zEv at t;split at t
 .rename_i e hd;have m:=hX.run_und hd w;split at t
  .rename_i sz q;have j:=hX.run_size q w;split at t
   .simp only[VR]at u;subst u;split at t
    .simp only[zC,zT]at t;obtain⟨rfl,rfl⟩:=t;simp only[VR]at i;subst i;refine⟨R,w,goInt 0, ?_,rfl,hL,zOL R H w⟩;simp[Builtin.copy_,o,zH,m,j,Builtin.lenOf,Builtin.firstCells,zL]
    .simp only[zC,zT]at t;obtain⟨rfl,rfl⟩:=t;obtain⟨b,d,c,hr,rfl⟩:=i;refine⟨R,w,goInt 0, ?_,rfl,hL,zOL R H w⟩;have: ∀a:Addr,(loadCells a 0).run P w= .ok #[] w:=fun a=>rfl
     simp[Builtin.copy_,o,zH,m,j,Builtin.lenOf,Builtin.firstCells,zL,this]
    .simp only[zC,zT]at t;obtain⟨rfl,rfl⟩:=t;obtain⟨Z,rfl,v,F⟩:=i;refine⟨R,w,goInt 0, ?_,rfl,hL,zOL R H w⟩;simp[Builtin.copy_,o,zH,m,j,Builtin.lenOf,Builtin.firstCells,zL]
    .simp at t
   .rename_i A off len cc;split at t
    .rename_i xv new K;obtain⟨x,W,G⟩:=zCB (P:=P) hL K i;simp only at t;split at t
     .rename_i V J;obtain⟨Q,e2⟩:=VP _ _ _ J;simp only[zG]at t;split at t
      .rename_i I;split at t
       .rename_i l e' Y g S;split at t
        .rename_i l' s;split at t
         .rename_i H1 z;simp only[kI,zC,zT]at t;obtain⟨rfl,rfl⟩:=t;unfold fF at z;split at z
          .rename_i t' N;simp only[zC]at z;subst z;obtain⟨b,d,c,hr,rfl⟩:=u;obtain⟨vs,O,y⟩:=G (Nat.min xv len) (Nat.min_le_left _ _);rw[<-Q]at y;obtain⟨s,q⟩:=zFd (by rw[zG];exact s);obtain⟨T,v,F,U⟩:=hL.stores S hr (P:=P) s q y I N;refine⟨R,T,goInt (Nat.min xv len:Nat), ?_,rfl,F,U⟩;have M:=O w rfl;simp only[Builtin.copy_,o,zH,m,j,Result.andThen,List.getElem?_toArray,List.getElem?_cons_zero,yW,x,M,v,zL]
          .simp at z
         .simp at t
        .simp at t
       .simp at t
      .simp at t
     .simp at t
    .simp at t
   .simp at t
  .simp at t
 .simp at t
theorem simE {fr:Frame}(f:EnvR R l i fr.tmps)(v:aE X l H V.op=some (h,n)):zJQ P (execOp fr.eval V) R H w h n:=by
 obtain⟨dst,op,ty,pos,after,guard⟩:=V;simp only at v;unfold aE at v;split at v
 .rename_i t a x;unfold V2 at v;split at v
  .rename_i p hp;split at v
   .rename_i y hy;split at v
    .rename_i H1 W;simp only[zC,zT]at v;obtain⟨rfl,rfl⟩:=v;obtain⟨env,j,m,J⟩:=zHv hX hL W (kP f _ _ hp) (kP f _ _ hy);refine⟨R,env,undef, .inr ⟨?_,rfl⟩,⟨[],rfl,rfl⟩,m,J⟩;simp only[execOp,zH,j,Result.andThen];rfl
    .simp at v
   .simp at v
  .simp at v
 .unfold c3 at v;split at v
  .rename_i a q;split at v
   .rename_i b hb;split at v
    .rename_i c O;unfold aup at v;split at v
     .rename_i kt o M;split at v
      .rename_i ks S;obtain⟨rfl,env,j,m,J⟩:=zN8 hX hL M S v (kP f _ _ q) (kP f _ _ hb) (kP f _ _ O);refine⟨R,env,undef, .inr ⟨?_,rfl⟩,⟨[],rfl,rfl⟩,m,J⟩;simp only[execOp,zH,j,Result.andThen];rfl
      .simp at v
     .simp at v
    .simp at v
   .simp at v
  .simp at v
 .rename_i c;split at v
  .rename_i b O;obtain⟨callee,args,K⟩:=c;simp only at O v;subst O;unfold uT at v;split at v
   .split at v
    .rename_i s x G;split at v
     .rename_i t u F;unfold dY at v;split at v
      .rename_i a q;split at v
       .rename_i b hb;have C:args.map fr.eval= #[fr.eval s,fr.eval x]:=by apply Array.toList_inj.1;simp[G]
        have U:K= #[t,u]:=by apply Array.toList_inj.1;simp[F]
        have T: ∀Q,X.und u=some Q->(∀k,Q≠ .int k)->fS X t a b H=some (h,n)->zJQ P (execOp fr.eval { dst,op:= .call { callee:= .builtin .append,args,argTypes:=K},type:=ty,pos,after,guard}) R H w h n:=by
         intro Q I Y Z;obtain⟨N,env,z,j,m⟩:=zEw (P:=P) (ty:=ty) hX hL Z I Y (kP f _ _ q) (kP f _ _ hb);refine⟨N,env,z, .inl ?_,m⟩;simp only[execOp,resolve,invoke,builtin,C,U,zH,zL,Result.andThen,j]
        split at v
        .rename_i Q I;exact T _ I (by simp) v
        .rename_i I;exact T _ I (by simp) v
        .rename_i k I;obtain⟨N,env,z,j,m⟩:=zJH (P:=P) (ty:=ty) hX hL v I (kP f _ _ q) (kP f _ _ hb);refine⟨N,env,z, .inl ?_,m⟩;simp only[execOp,resolve,invoke,builtin,C,U,zH,zL,Result.andThen,j]
        .simp at v
       .simp at v
      .simp at v
     .simp at v
    .simp at v
   .split at v
    .rename_i s x G;split at v
     .rename_i t ts F;unfold zGT at v;split at v
      .rename_i a q;split at v
       .rename_i b hb;have C:args.map fr.eval= #[fr.eval s,fr.eval x]:=by apply Array.toList_inj.1;simp[G]
        have L:K[0]? =some t:=by rw[<-yX,F];rfl
        obtain⟨N,env,z,j,m⟩:=zJC (P:=P) (ty:=ty) hX hL L v (kP f _ _ q) (kP f _ _ hb);refine⟨N,env,z, .inl ?_,m⟩;simp only[execOp,resolve,invoke,builtin,C,zH,zL,Result.andThen,j]
       .simp at v
      .simp at v
     .simp at v
    .simp at v
   .split at v
    .rename_i s x G;split at v
     .rename_i t ts F;unfold c2 at v;split at v
      .rename_i a q;split at v
       .rename_i b hb;have C:args.map fr.eval= #[fr.eval s,fr.eval x]:=by apply Array.toList_inj.1;simp[G]
        have L:K[0]? =some t:=by rw[<-yX,F];rfl
        unfold adl at v;split at v
        .rename_i kt o M;split at v
         .rename_i ks S;obtain⟨rfl,env,j,m,J⟩:=zOa (ty:=ty) hX hL L M S v (kP f _ _ q) (kP f _ _ hb);refine⟨R,env,_, .inl ?_,⟨[],rfl,rfl⟩,m,J⟩;simp only[execOp,resolve,invoke,builtin,C,zH,zL,Result.andThen,j]
         .simp at v
        .simp at v
       .simp at v
      .simp at v
     .simp at v
    .simp at v
   .split at v
    .rename_i s G;split at v
     .rename_i t ts F;unfold c1 at v;split at v
      .rename_i a q;have C:args.map fr.eval= #[fr.eval s]:=by apply Array.toList_inj.1;simp[G]
       have L:K[0]? =some t:=by rw[<-yX,F];rfl
       unfold acl at v;split at v
       .rename_i kt o M;obtain⟨rfl,env,j,m,J⟩:=zOg (ty:=ty) hX hL L M v (kP f _ _ q);refine⟨R,env,_, .inl ?_,⟨[],rfl,rfl⟩,m,J⟩;simp only[execOp,resolve,invoke,builtin,C,zH,zL,Result.andThen,j]
       .simp at v
      .simp at v
     .simp at v
    .simp at v
   .simp at v
  .simp at v
 .simp at v
end
theorem BE (R:Ren):VR R jU undef:=by
 simp only[jU,VR];exact⟨[],rfl,rfl⟩
def Out (k:List Item):AExit->List Item->Prop
 | .normal,td=>td=k
 | .exit id,td=> ∃k',td= .code (.exit id)::k'/\exitTo id k'=exitTo id k
 | .ret,td=> ∃k',td= .code .ret::k'
def zHR (P:Program)(nt:Nat)(c:Code)(env:Env)(H:AH)(j:AExit)(env':Env)(H':AH):Prop:=
 ∀(R:Ren) (fr:Frame) (k:List Item) (cs:List Frame) (w:World),fr.mode= .run->fr.todo= .code c::k->EnvR R env nt fr.tmps->Rel R H w->
  ∃a f h i,Steps P (lone fr cs w) (lone { fr with tmps:=h,todo:=i} cs f)/\Out k j i/\EnvR a env' nt h/\Rel a H' f/\Ext R H w a H' f
def zMF (P:Program)(f:FuncId)(args:List AV)(H:AH)(v:AV)(H':AH):Prop:=
 (∃j,P.funcs[f]? =some j/\j.body.isSome=true)/\
 ∀(R:Ren) (m:List Value) (cs:List Frame) (w:World),VRL R args m->Rel R H w->
  ∃i a z h,Steps P (lone (Frame.enter P f ⟨m⟩ .normal) cs w) (lone h cs a)/\h.fn=f/\h.leaving P a (.returned z)/\VR i v z/\Rel i H' a/\Ext R H w i H' a
def zOv (P:Program)(f:FuncId)(args:List AV)(H:AH)(v:AV)(H':AH):Prop:=
 ∀(R:Ren) (i:List Value) (w:World),VRL R args i->Rel R H w->
  ∃a h z,(callFunc f ⟨i⟩).run P w= .ok (.value z) h/\VR a v z/\Rel a H' h/\Ext R H w a H' h
def zHS (P:Program)(f:FuncId)(args:List AV)(H:AH)(v:AV)(H':AH):Prop:=H.next<=H'.next/\(zMF P f args H v H'\/zOv P f args H v H')
def zBw (P:Program)(A:Nat)(args:List AV)(H:AH)(v:AV)(H':AH):Prop:=
 H.next<=H'.next/\ ∀(R:Ren) (f:List Value) (fr:Frame) (cs:List Frame) (w:World) (b d c:Nat),R A b d c->VRL R args f->Rel R H w->
  ∃L:Loop,w.heap[b]? =some (.loop L)/\f.length=L.params.size/\
   ∃h i z,Steps P (lone (Frame.round b L.fn ((L.params.zip f.toArray).foldl (fun j (t,a)=>j.setIfInBounds t a) L.tmps) L.assign L.body .normal) (fr::cs) w) (lone (fr.finish z) cs i)/\VR h v z/\Rel h H' i/\Ext R H w h H' i
structure Good (P:Program)(r:Fns):Prop where
 call: ∀f args H v H',r.call f args H=some (v,H')->zHS P f args H v H'
 yld: ∀A args H v H',r.yld A args H=some (v,H')->zBw P A args H v H'
theorem zBB (h:EnvR s l i F)(hb:aD v l V=some U):Region.wanted V (yielded v F)=U:=by
 unfold aD at hb;unfold Region.wanted;split at hb
 .rename_i env;simp only[zC]at hb;subst hb;simp[env]
 .rename_i j R env;simp only[env];unfold zEB at hb;simp only[yielded];rw[zBR,yX]at hb
  cases u:v[j]? with
  | none=>rw[u]at hb;simp only[zC]at hb;subst hb;simp
  | some p=>
   rw[u]at hb;simp only[yN]at hb⊢
   cases t:p.dst with
   | none=>rw[t]at hb;simp only[zC]at hb;subst hb;simp
   | some d=>
    rw[t]at hb;simp only at hb;split at hb
    .rename_i x m;simp only[zC]at hb;subst hb;have z:d<i:=by
      rcases Nat.lt_or_ge d i with q | q
      .exact q
      .rw[h.out d q]at m;simp at m
     have y:d<F.size:=by rw[h.size];exact z
     simp only[yN,Array.getElem?_eq_getElem y];have a:=h.get d x m;have C:F.getD d undef=F[d]:=by
      rw[qZ,Array.getElem?_eq_getElem y];rfl
     rw[C]at a;generalize F[d]=n at a
     cases x<;>first
      | (simp only[VR]at a;subst a;simp[isW];done)
      | (simp only[VR]at a;subst a;cases R<;>simp[isW,BEq.beq];done)
      | (obtain⟨_,rfl,_⟩:=a;simp[isW];done)
      | (obtain⟨_,_,rfl⟩:=a;simp[isW];done)
      | (obtain⟨_,_,_,_,rfl⟩:=a;simp[isW];done)
      | (obtain⟨_,_,rfl,_⟩:=a;simp[isW];done)
      | (simp only[VR]at a;subst a;cases n<;>first | (simp[isW];done) | (rename_i U;cases R<;>cases U<;>simp[isW,BEq.beq];done))
      | exact absurd a (by simp[VR])
    .simp at hb
theorem wA_ok (hL:Rel s n t){R:Sem Value}{f:Nat->AV}(hm:VJ s q R g f t)(H':wA n (some (g,f))=some (h,E)):zKL q R s n t h E:=by
 unfold wA at H';simp only at H';split at H'
 .rename_i A H j;obtain⟨u,i,rfl,rfl,_⟩:=fH j
  .simp only[zC,zT]at H';obtain⟨rfl,rfl⟩:=H';obtain⟨x,c,k,z,m,o⟩:=hm;obtain⟨p,P⟩:=o n.next
   refine⟨_,_,z,m,P,(hL.drew k).new i p, ?_⟩;exact(Ext.drew s n t k).trans (Ext.add (w:= { t with drawn:=k}) i)
 .simp at H'
section
variable {P:Program}{X:Cx}(hX:Ok P X){r:Fns}(hr:Good P r)
def zOu (P:Program)(fr:Frame)(ops:Array Oper)(rest:List Nat)(k:List Item)(cs:List Frame)(o:Oper)(R:Ren)(H:AH)(w:World)(v:AV)(H':AH):Prop:=
 ∃a f z,Steps P (lone fr cs w) (lone { fr with tmps:=zBx fr.tmps o.dst z,todo:= .inRegion ops rest::k} cs f)/\VR a v z/\Rel a H' f/\Ext R H w a H' f
theorem uQ {fr:Frame}{k:List Item}{cs:List Frame}
  (hm:fr.mode= .run) (f:fr.todo= .inRegion v (i::A)::k) (j:v[i]? =some V) (m:Region.wanted V (yielded v fr.tmps)=true) (hd: ∀c,V.op≠ .defer c) (rest:zJQ P (execOp fr.eval V) s n t h E):zOu P fr v A k cs V s n t h E:=by
 obtain⟨p,q,z,a,ops⟩:=rest;refine⟨p,q,z, ?_,ops⟩;rw[<-kJ f j];rcases a with a | ⟨a,rfl⟩
 .exact .one (uR hm f j m hd a)
 .exact .one (zDW hm f j m hd a)
include hX hr in
theorem zCM {fr:Frame}{k:List Item}{cs:List Frame}{w:World}{nt:Nat}
  (hm:fr.mode= .run) (j:fr.todo= .inRegion v (i::A)::k) (m:v[i]? =some V) (u:Region.wanted V (yielded v fr.tmps)=true) (p:EnvR s l nt fr.tmps) (hL:Rel s n w)
  (R:opF X r l n V.op=some (h,E)):zOu P fr v A k cs V s n w h E:=by
 have hd: ∀c,V.op≠ .defer c:=by
  intro c q;rw[q]at R;simp[opF,cls,aE]at R
 unfold opF at R;split at R
 .unfold wV at R;split at R
  .rename_i x W;simp only[zC,zT]at R;obtain⟨rfl,rfl⟩:=R;obtain⟨z,N,O⟩:=simP hX hL.fn (w:=w) p W;exact uQ hm j m u hd ⟨s,w,z, .inl N,O,hL,zOL s n w⟩
  .simp at R
 .unfold wV at R;split at R
  .rename_i x W;simp only[zC,zT]at R;obtain⟨rfl,rfl⟩:=R;obtain⟨z,N,O⟩:=simL hX hL p W;exact uQ hm j m u hd ⟨s,w,z, .inl N,O,hL,zOL s n w⟩
  .simp at R
 .have Y:=R;unfold wA at Y;split at Y
  .rename_i ob mk hA;obtain⟨o,hs,b3⟩:=simA hX (w:=w) p hA;rw[hA]at R;have:=(wA_ok hL b3 R).next
   rw[<-hs]at this;exact uQ hm j m u hd this
  .simp at Y
 .exact uQ hm j m u hd (simE hX hL p R)
 .unfold opF.callO at R;split at R
  .rename_i c F;split at R
   .rename_i f q;unfold opF.callV at R;split at R
    .rename_i g first cap Z
     split at R
     .rename_i az rest;obtain⟨y,C,T,N,O⟩:=kP p _ _ Z
      have h3:=K1 p _ _ rest;have a1:VRL s (first++az++cap) ((y++c.args.toList.map fr.eval)++C):=(N.append h3).append O
      rcases(hr.call _ _ _ _ _ R).2 with⟨⟨fn,a5,b6⟩,a8⟩ | b0
      rotate_left
      .obtain⟨Q,G,z,a9,S,I,J⟩:=b0 s _ w a1 hL;have K:(execOp fr.eval V).run P w= .ok (.value z) G:=by
        obtain⟨dst,op,ty,a6,a2,a3⟩:=V;obtain⟨a0,args,a4⟩:=c;simp only at F q;subst F q;have M:(⟨y⟩:Array Value)++args.map fr.eval++⟨C⟩=⟨(y++args.toList.map fr.eval)++C⟩:=by
         apply Array.toList_inj.1;simp
        simp only[execOp,resolve,T,Deferred.ofValue,zH,zL,Result.andThen,invoke,M];simpa using a9
       refine⟨Q,G,z, ?_,S,I,J⟩;rw[<-kJ j m];exact .one (uR hm j m u hd K)
      obtain⟨Q,G,z,b8,U,b7,a7,S,I,J⟩:=a8 s _ (fr::cs) w a1 hL;have K:(execOp fr.eval V).run P w= .ok (.enter g ⟨(y++c.args.toList.map fr.eval)++C⟩) w:=by
       obtain⟨dst,op,ty,a6,a2,a3⟩:=V;obtain⟨a0,args,a4⟩:=c;simp only at F q;subst F q;have b4:=hX.nm g fn a5;have hb:fn.body.isNone=false:=by cases hh:fn.body<;>simp_all
       have M:(⟨y⟩:Array Value)++args.map fr.eval++⟨C⟩=⟨(y++args.toList.map fr.eval)++C⟩:=by
        apply Array.toList_inj.1;simp
       simp only[execOp,resolve,T,Deferred.ofValue,zH,zL,Result.andThen,invoke,callFunc,program,Sem.run,a5,b4,zM,qE,hb,M]
      refine⟨Q,G,z, ?_,S,I,J⟩;rw[<-kJ j m];exact(Steps.one (zIg hm j m u hd K)).trans (U.trans (.one (step_leave_returned a7)))
     .simp at R
    .rename_i ops Z;split at R
     .rename_i az rest;obtain⟨_,hy⟩:=hr.yld _ _ _ _ _ R;obtain⟨b,d,c0,b5,T⟩:=kP p _ _ Z;have h3:=K1 p _ _ rest;obtain⟨L,hb,b1,Q,G,z,U,S,I,J⟩:=hy s _ fr cs w b d c0 b5 h3 hL;have K:(execOp fr.eval V).run P w= .ok (.round b L.fn ((L.params.zip (c.args.toList.map fr.eval).toArray).foldl (fun b2 (t,a)=>b2.setIfInBounds t a) L.tmps) L.assign L.body) w:=by
       obtain⟨dst,op,ty,a6,a2,a3⟩:=V;obtain⟨a0,args,a4⟩:=c;simp only at F q;subst F q;have M:(args.toList.map fr.eval).toArray=args.map fr.eval:=by apply Array.toList_inj.1;simp
       have:=run_yield (P:=P) (args:=args.map fr.eval) hb (by simpa using b1);simp only[execOp,resolve,T,Deferred.ofValue,zH,zL,Result.andThen,invoke,M];simpa using this
      refine⟨Q,G,z, ?_,S,I,J⟩;rw[<-kJ j m];exact(Steps.one (zId hm j m u hd K)).trans U
     .simp at R
    .simp at R
   .simp at R
  .simp at R
end
section
variable {X:Cx}{env env':Env}
theorem cI: ∀(xs:List Operand),(∀x∈xs,opd env x=opd env' x)->zBy env xs=zBy env' xs
 | [],_=>rfl
 | x::xs,h=>by
  simp only[zBy];rw[h x (zJ ..),cI xs (fun y a=>h y (zE _ a))]
theorem aM: ∀(a:List (Nat×Operand)),(∀x∈a.map (·.2),opd env x=opd env' x)->uK env a=uK env' a
 | [],_=>rfl
 | (i,x)::a,h=>by
  simp only[uK];rw[h x (by simp),aM a (fun y f=>h y (by simp at f⊢;exact .inr f))]
theorem K0 (x:Option Operand)(h: ∀y∈x.toArray.toList,opd env y=opd env' y):fX env x=fX env' x:=by
 cases x with
 | none=>rfl
 | some x=>simp only[fX];rw[h x (by simp)]
theorem zDG (o:Op)(h: ∀x∈o.operands.toList,opd env x=opd env' x):aP X env o=aP X env' o:=by
 cases o<;>simp only[aP]<;>simp only[Op.operands]at h
 case move x=>exact h x (by simp)
 case assign x=>exact h x (by simp)
 case pick c a b=>simp only[zE5];rw[h c (by simp),h a (by simp),h b (by simp)]
 case build t ps=>simp only[Y9];rw[aM ps.toList (fun x j=>h x (by simpa using j))]
 case nilCheck x=>rw[h x (by simp)]
 case binOp op t x y t'=>rw[h x (by simp),h y (by simp)]
 case unOp op t x=>rw[h x (by simp)]
 case convert s d x=>rw[h x (by simp)]
 case makeFunc fn first cap=>
  cases fn<;>simp only[aP]
  simp only[zE6];rw[cI first.toList (fun x j=>h x (by simp;exact .inl (by simpa using j))),cI cap.toList (fun x j=>h x (by simp;exact .inr (by simpa using j)))]
 case fieldAddr s x f=>rw[h x (by simp)]
 case field s x f=>rw[h x (by simp)]
 case indexAddr t x i=>rw[h x (by simp),h i (by simp)]
 case index t x i=>rw[h x (by simp),h i (by simp)]
 case sliceToArrayPointer t x=>rw[h x (by simp)]
 case extract x i=>rw[h x (by simp)]
 case call c=>
  have m: ∀x∈c.args.toList,opd env x=opd env' x:=fun x j=>h x (by simp[Call.operands];right;simpa using j)
  split<;>try rfl
  .split<;>try rfl
   rename_i x j;split<;>try rfl
   rw[m x (by rw[j];simp)]
  .split<;>try rfl
   rename_i x y j;rw[m x (by rw[j];simp),m y (by rw[j];simp)]
  .split<;>try rfl
   rename_i x y j;rw[m x (by rw[j];simp),m y (by rw[j];simp)]
theorem zDH (o:Op)(h: ∀x∈o.operands.toList,opd env x=opd env' x):aL X env n o=aL X env' n o:=by
 cases o<;>simp only[aL]<;>simp only[Op.operands]at h
 case load t a=>rw[h a (by simp)]
 case lookup t x k ok=>rw[h x (by simp),h k (by simp)]
 case slice t x lo hi mx=>
  simp only[cY];rw[h x (by simp),K0 lo (fun y f=>h y (by simp at f⊢;exact .inr (.inl f))),K0 hi (fun y f=>h y (by simp at f⊢;exact .inr (.inr (.inl f)))),K0 mx (fun y f=>h y (by simp at f⊢;exact .inr (.inr (.inr f))))]
 case convert s d x=>rw[h x (by simp)]
 case binOp op t x y p=>rw[h x (by simp),h y (by simp)]
 case call c=>
  split<;>try rfl
  split<;>try rfl
  rename_i x i;split<;>try rfl
  rw[h x (by
        simp[Call.operands];right;have:x∈c.args.toList:=by rw[i];simp
        simpa using this)]
theorem zDI (o:Op)(h: ∀x∈o.operands.toList,opd env x=opd env' x):aA X env o=aA X env' o:=by
 cases o<;>simp only[aA]<;>simp only[Op.operands]at h
 case box e x=>rw[h x (by simp)]
 case buildSlice t len ps=>simp only[Z4];rw[aM ps.toList (fun x a=>h x (by simpa using a))]
 case makeSlice t l c=>rw[h l (by simp),h c (by simp)]
 case convert s d x=>rw[h x (by simp)]
 case makeMap t r=>cases r<;>rfl
theorem zJJ (o:Op)(h: ∀x∈o.operands.toList,opd env x=opd env' x):aE X env n o=aE X env' n o:=by
 cases o<;>simp only[aE]<;>simp only[Op.operands]at h
 case store t a x=>rw[h a (by simp),h x (by simp)]
 case mapUpdate t m k v=>rw[h m (by simp),h k (by simp),h v (by simp)]
 case call c=>
  split<;>try rfl
  rename_i b hb;have i: ∀x∈c.args.toList,opd env x=opd env' x:=fun x j=>h x (by simp[Call.operands];right;simpa using j)
  unfold uT;split
  .split<;>try rfl
   rename_i s x f;split<;>try rfl
   rw[i s (by rw[f];simp),i x (by rw[f];simp)]
  .split<;>try rfl
   rename_i s x f;split<;>try rfl
   rw[i s (by rw[f];simp),i x (by rw[f];simp)]
  .split<;>try rfl
   rename_i s x f;split<;>try rfl
   rw[i s (by rw[f];simp),i x (by rw[f];simp)]
  .split<;>try rfl
   rename_i s f;split<;>try rfl
   rw[i s (by rw[f];simp)]
  .rfl
theorem zAk {r:Fns}(o:Op)(h: ∀x∈o.operands.toList,opd env x=opd env' x):opF X r env n o=opF X r env' n o:=by
 unfold opF;split
 .rw[zDG o h]
 .rw[zDH o h]
 .rw[zDI o h]
 .rw[zJJ o h]
 .cases o<;>try rfl
  case call c hcls=>
  simp only[opF.callO];simp only[Op.operands]at h;split<;>try rfl
  rename_i f a;rw[h f (by simp[Call.operands,a]),cI c.args.toList (fun x i=>h x (by simp[Call.operands];right;simpa using i))]
end
def zOA (H a:AH):Prop:= ∀A o,H.h.get A=some o->a.h.get A=some o
theorem zJI (m:zOA n E)(o:Op)(env:aL Q l n o=some h):aL Q l E o=some h:=by
 have C: ∀t p h,WC Q t p n=some h->WC Q t p E=some h:=by
  intro t p h env;unfold WC at env⊢;split at env
  .rename_i A off;split at env
   .rename_i X e sz g f;rw[m _ _ f];exact env
   .simp at env
  .simp at env
 have F: ∀s d x h,YJ Q s d x n=some h->YJ Q s d x E=some h:=by
  intro s d x h env;unfold YJ at env⊢;split at env
  .split at env
   .split at env
    .split at env
     .exact env
     .split at env
      .rename_i X L sz g f;rw[m _ _ f];exact env
      .simp at env
     .simp at env
    .simp at env
   .simp at env
  .simp at env
 have G: ∀t x h,zCk Q t x n=some h->zCk Q t x E=some h:=by
  intro t x h env;unfold zCk at env⊢;split at env
  .exact env
  .exact env
  .exact env
  .exact env
  .exact env
  .exact env
  .split at env
   .rename_i ks es f;rw[m _ _ f];exact env
   .simp at env
  .simp at env
 have I: ∀ks z ok x k h,lkM ks z ok x k n=some h->lkM ks z ok x k E=some h:=by
  intro ks z ok x k h env;unfold lkM at env⊢;rw[zG]at env⊢;split at env
  .rename_i M;rw[if_pos M];split at env
   .exact env
   .split at env
    .rename_i N es f;rw[m _ _ f];exact env
    .simp at env
   .simp at env
  .simp at env
 have u: ∀A,ZN A n=true->ZN A E=true:=by
  intro A env;unfold ZN at env⊢;split at env
  .rename_i o f;rw[m _ _ f];exact env
  .simp at env
 have J: ∀j x y h,pNe j x y n=some h->pNe j x y E=some h:=by
  intro j x y h env;unfold pNe at env⊢;split at env
  .split at env
   .rw[zG]at env⊢;split at env
    .rename_i q;simp only[zF]at q;rw[if_pos (by simp only[zF];exact⟨u _ q.1,u _ q.2.1,q.2.2⟩)];exact env
    .simp at env
   .simp at env
  .simp at env
 have K: ∀j t x y h,BD Q j t x y n=some h->BD Q j t x y E=some h:=by
  intro j t x y h env;unfold BD at env⊢;split at env
  .exact env
  .split at env
   .split at env
    .simp at env
    .exact J _ _ _ _ env
    .simp at env
   .simp at env
 cases o<;>simp only[aL]at env⊢ <;>try(simp at env;done)
 case binOp j t x y p=>
  unfold b2 at env⊢;split at env
  .split at env
   .exact K _ _ _ _ _ env
   .simp at env
  .simp at env
 case load t a=>
  unfold b1 at env⊢;split at env
  .exact C _ _ _ env
  .simp at env
 case lookup t x k ok=>
  unfold b2 at env⊢;split at env
  .split at env
   .unfold zHz at env⊢;split at env
    .split at env
     .split at env
      .exact I _ _ _ _ _ _ env
      .simp at env
     .simp at env
    .simp at env
   .simp at env
  .simp at env
 case slice t x lo hi mx=>
  unfold cY at env⊢;split at env
  .split at env
   .split at env
    .split at env
     .unfold aC at env⊢;split at env
      .split at env
       .exact env
       .exact env
       .split at env
        .split at env
         .rename_i X L O g f;rw[m _ _ f];exact env
         .simp at env
        .simp at env
       .exact env
       .exact env
       .exact env
       .simp at env
      .simp at env
     .simp at env
    .simp at env
   .simp at env
  .simp at env
 case convert s d x=>
  unfold b1 at env⊢;split at env
  .exact F _ _ _ _ env
  .simp at env
 case call c=>
  split at env
  .split at env
   .split at env
    .unfold b1 at env⊢;split at env
     .exact G _ _ _ env
     .simp at env
    .simp at env
   .simp at env
  .simp at env
theorem nodup_le: ∀(n:Nat) (l:List Nat),l.Nodup->(∀x∈l,x<n)->l.length<=n
 | 0,l,_,h=>by
  cases l with
  | nil=>simp
  | cons x l=>exact absurd (h x (zJ ..)) (by omega)
 | n+1,l,hn,h=>by
  have f:=nodup_le n (l.erase n) (hn.erase n) (fun x a=>by
   have:=(List.Nodup.mem_erase_iff hn).1 a;have:=h x this.2;omega)
  have i:l.length<=(l.erase n).length+1:=by rw[List.length_erase];split<;>omega
  omega
theorem zAl (f:A.Nodup)(h: ∀x∈A,x<i)(hl:A.length=i): ∀n,n<i->n∈A:=by
 intro n hi;refine Classical.byContradiction fun j=> ?_
 have:=nodup_le i (n::A) (List.nodup_cons.2 ⟨j,f⟩) (fun x a=>by
  rcases zO.1 a with rfl | a
  .exact hi
  .exact h x a)
 simp at this;omega
def Valid (md:Region.Mode)(ops:Array Oper):List Nat->List Nat->Prop
 | _,[]=>True
 | done,j::rest=>j∉done/\j<ops.size/\(∀o,ops[j]? =some o-> ∀e∈o.after.toList,Region.binds md e=true->e.on∈done)/\Valid md ops (j::done) rest
def WI (ops:Array Oper)(a:Array Bool)(f:List Nat):Prop:=a.size=ops.size/\ ∀i,a.getD i false=true↔i∈f/\i<ops.size
theorem JV {md:Region.Mode}{ops:Array Oper}{a:Array Bool}{h:List Nat}(hl:WI ops a h){j:Nat} :j∈Region.ready md ops a↔
  j<ops.size/\j∉h/\ ∀o,ops[j]? =some o-> ∀e∈o.after.toList,Region.binds md e=true->e.on∈h/\e.on<ops.size:=by
 have q: ∀i,i<ops.size->a.getD i true=a.getD i false:=by
  intro i hi;rw[qZ,qZ,Array.getElem?_eq_getElem (by rw[hl.1];exact hi)];rfl
 unfold Region.ready;rw[List.mem_filter,List.mem_range];constructor
 .rintro⟨h1,h2⟩
  rw[q j h1]at h2;simp only[zF,j6]at h2;refine⟨h1,fun m=> ?_,fun o f e p hb=> ?_⟩
  .have:=(hl.2 j).2 ⟨m,h1⟩;rw[this]at h2;simp at h2
  .rw[f]at h2;simp only[qA,yB,Array.all_eq_true_iff_forall_mem]at h2;have:=h2.2 e (by simpa using p);rw[hb]at this;simp only[Bool.not_true,Bool.false_or]at this;exact(hl.2 _).1 this
 .rintro⟨h1,h2,h3⟩
  refine⟨h1, ?_⟩;rw[q j h1];simp only[zF,j6];constructor
  .cases m:a.getD j false with
   | false=>rfl
   | true=>exact absurd ((hl.2 j).1 m).1 h2
  .have f:ops[j]? =some ops[j]:=Array.getElem?_eq_getElem h1;rw[f];simp only[qA,yB,Array.all_eq_true_iff_forall_mem];intro e p
   cases hb:Region.binds md e with
   | false=>rfl
   | true=>
    simp only[Bool.not_true,Bool.false_or];exact(hl.2 _).2 (h3 _ f e (by simpa using p) hb)
theorem XJ {a:Array Bool}(hl:WI v a A)(h:i<v.size):WI v (a.setIfInBounds i true) (i::A):=by
 refine⟨by simp[hl.1],fun ops=> ?_⟩;rw[qZ,Array.getElem?_setIfInBounds];by_cases e:i=ops
 .subst e;rw[if_pos rfl,if_pos (by rw[hl.1];exact h)];simp[h]
 .rw[if_neg e,<-qZ,hl.2 ops];simp[Ne.symm e]
theorem YY {md:Region.Mode}{ops:Array Oper} : ∀(fuel t:Nat) (a:Array Bool) (f:List Nat),WI ops a f->Valid md ops f (Region.linearise.go md ops fuel t a [])
 | 0,_,_,_,_=>by simp[Region.linearise.go,Valid]
 | fuel+1,t,a,f,hl=>by
  have h:Region.linearise.go md ops (fuel+1) t a []=match(Region.ready md ops a)[t % (Region.ready md ops a).length]? with
   | some i=>Region.linearise.go md ops fuel (t / (Region.ready md ops a).length) (a.setIfInBounds i true) [i]
   | none=>[]:=rfl
  rw[h];split
  .rename_i i hi;have hm:=(JV hl).1 (List.mem_of_getElem? hi);rw[linearise_go_acc,List.reverse_singleton,List.singleton_append];exact⟨hm.2.1,hm.1,fun o j e m hb=>(hm.2.2 o j e m hb).1,YY fuel _ _ _ (XJ hl hm.1)⟩
  .trivial
theorem fE {md:Region.Mode}{ops:Array Oper} : ∀(l f:List Nat),Valid md ops f l->l.Nodup/\(∀x∈l,x<ops.size/\x∉f)
 | [],_,_=>by simp
 | j::l,f,h=>by
  obtain⟨o,p,_,q⟩:=h;obtain⟨h5,i⟩:=fE l _ q;refine⟨List.nodup_cons.2 ⟨fun m=>(i j m).2 (zJ ..),h5⟩,fun x a=> ?_⟩;rcases zO.1 a with rfl | a
  .exact⟨p,o⟩
  .exact⟨(i x a).1,fun m=>(i x a).2 (zE _ m)⟩
theorem X5 {md:Region.Mode}{ops:Array Oper}{i:Array Bool}{f:List Nat}(hl:WI ops i f)(q: ∀x∈f,x<ops.size): ∀(L h:List Nat),Valid md ops h L->(∀x∈h,x∈f)->(∃x∈L,x∉f)->Region.ready md ops i≠[]
 | [],_,_,_,⟨x,a,_⟩=>by simp at a
 | j::L,h,hv,hb,hex=>by
  obtain⟨G,u,v,y⟩:=hv;by_cases m:j∈f
  .refine X5 hl q L (j::h) y (fun x a=> ?_) ?_
   .rcases zO.1 a with rfl | a
    .exact m
    .exact hb x a
   .obtain⟨x,a,s⟩:=hex;rcases zO.1 a with rfl | a
    .exact absurd m s
    .exact⟨x,a,s⟩
  .intro z;have p:j∈Region.ready md ops i:=by
    refine(JV hl).2 ⟨u,m,fun o C e F t=> ?_⟩;have hd:=hb _ (v o C e F t);exact⟨hd,q _ hd⟩
   rw[z]at p;simp at p
theorem fT: ∀(l m:List Nat),l.Nodup->(∀x∈l,x∈m)->l.length<=m.length
 | [],_,_,_=>by simp
 | x::l,m,hn,h=>by
  obtain⟨i,j⟩:=List.nodup_cons.1 hn;have a:=h x (zJ ..);have:=fT l (m.erase x) j (fun y f=>(List.mem_erase_of_ne (fun e=>i (by rw[<-e];exact f))).2 (h y (zE _ f)));rw[List.length_erase_of_mem a]at this;have hp:=List.length_pos_of_mem a;simp;omega
theorem zGd {md:Region.Mode}{ops:Array Oper}{L:List Nat}(hL:Valid md ops [] L)(m:L.length=ops.size): ∀(fuel t:Nat) (a:Array Bool) (f:List Nat),WI ops a f->(∀x∈f,x<ops.size)->f.length+fuel=ops.size->
  (Region.linearise.go md ops fuel t a []).length=fuel
 | 0,_,_,_,_,_,_=>by simp[Region.linearise.go]
 | fuel+1,t,a,f,hl,hds,hlen=>by
  have o:Region.linearise.go md ops (fuel+1) t a []=match(Region.ready md ops a)[t % (Region.ready md ops a).length]? with
   | some i=>Region.linearise.go md ops fuel (t / (Region.ready md ops a).length) (a.setIfInBounds i true) [i]
   | none=>[]:=rfl
  have p:Region.ready md ops a≠[]:=by
   refine X5 hl hds L [] hL (by simp) (Classical.byContradiction fun q=> ?_);have:=fT L f (fE L [] hL).1 (fun x h=>Classical.byContradiction fun s=>q ⟨x,h,s⟩);omega
  have j:t % (Region.ready md ops a).length< (Region.ready md ops a).length:=Nat.mod_lt _ (List.length_pos_iff.2 p);rw[o,zK j];simp only;have hm:=(JV hl).1 (yJ j);rw[linearise_go_acc,List.reverse_singleton,List.singleton_append,zY,zGd hL m fuel _ _ _ (XJ hl hm.1) (fun x h=>by
   rcases zO.1 h with rfl | h
   .exact hm.1
   .exact hds x h) (by simp;omega)]
theorem bH (ops:Array Oper):WI ops (Array.replicate ops.size false) []:=
 ⟨by simp,fun i=>by
  rw[qZ,Array.getElem?_replicate];by_cases h:i<ops.size<;>simp[h]⟩
theorem JH {md:Region.Mode}{ops:Array Oper} : ∀(l a:List Nat),Valid md ops a l->Valid .any ops a l
 | [],_,_=>trivial
 | j::l,a,⟨h1,h2,h3,h4⟩=>⟨h1,h2,fun o f e h hb=>h3 o f e h (by
   revert hb
   cases i:e.ground<;>simp[Region.binds,i]),JH l _ h4⟩
theorem dL {md:Region.Mode}(h:(Region.linearise md v 0).length=v.size)(t:Nat):Valid .any v [] (Region.linearise md v t)/\ ∀i,i<v.size->i∈Region.linearise md v t:=by
 have f:Valid md v [] (Region.linearise md v 0):=YY _ _ _ _ (bH v);have a:Valid md v [] (Region.linearise md v t):=YY _ _ _ _ (bH v);have hl:(Region.linearise md v t).length=v.size:=zGd f h _ _ _ _ (bH v) (by simp) (by simp);obtain⟨m,o⟩:=fE _ _ a;exact⟨JH _ _ a,zAl m (fun x j=>(o x j).1) hl⟩
theorem WV {md:Region.Mode}{ops:Array Oper} : ∀(l pre:List Oper) (a:List Nat),ops.toList=pre++l->zHs l pre.length=true->(∀x,x∈a↔x<pre.length)->Valid md ops a (List.range' pre.length l.length)
 | [],_,_,_,_,_=>by simp[Valid]
 | o::l,pre,a,hops,hb,hd=>by
  have i:pre.length<ops.size:=by
   have:=congrArg List.length hops;simp at this;omega
  have j:ops[pre.length]? =some o:=by
   rw[<-yX,hops];simp
  simp only[zHs,kI,zF,yC,qD]at hb;rw[zY,List.range'_succ];refine⟨fun h=>absurd ((hd _).1 h) (Nat.lt_irrefl _),i,fun o' f e m _=> ?_, ?_⟩
  .rw[j]at f;injection f with f;subst f
   exact(hd _).2 (hb.1 e (by simpa using m))
  .have:=WV (md:=md) l (pre++[o]) (pre.length::a) (by rw[hops];simp) (by simpa using hb.2) (fun x=>by
    simp only[zO,hd,zV,jI];omega)
   simpa using this
theorem bZ {md:Region.Mode}(h:zHs v.toList 0=true)(t:Nat):Valid .any v [] (Region.linearise md v t)/\ ∀i,i<v.size->i∈Region.linearise md v t:=by
 have f:Valid md v [] (List.range' 0 v.toList.length):=WV (md:=md) (ops:=v) v.toList [] [] rfl h (by simp);have a:Valid md v [] (Region.linearise md v t):=YY _ _ _ _ (bH v);have hl:(Region.linearise md v t).length=v.size:=zGd f (by simp) _ _ _ _ (bH v) (by simp) (by simp);obtain⟨m,o⟩:=fE _ _ a;exact⟨JH _ _ a,zAl m (fun x j=>(o x j).1) hl⟩
theorem zBJ (h:zBU v=true)(a:Bool)(t:Nat):Valid .any v [] (Region.schedule a v t)/\ ∀i,i<v.size->i∈Region.schedule a v t:=by
 simp only[zBU,j9,zF,zX]at h;rcases h with h | h
 .unfold Region.schedule;split
  .exact bZ h t
  .split
   .exact bZ h _
   .exact bZ h _
 .unfold Region.schedule;split
  .exact dL h.1.1 t
  .split
   .exact dL h.1.2 _
   .exact dL h.2 _
theorem XI (f:List Nat): ∀(es:List Edge) (s i:Nat),(es.foldl (fun s e=>bif Region.binds .any e then s||| 2 ^ e.on||| f.getD e.on 0 else s) s).testBit i=true->s.testBit i=true\/ ∃e∈es,Region.binds .any e=true/\(e.on=i\/(f.getD e.on 0).testBit i=true)
 | [],s,i,h=> .inl h
 | e::es,s,i,h=>by
  simp only[List.foldl_cons]at h;rcases XI f es _ i h with a | ⟨m,j,a⟩
  .cases hb:Region.binds .any e with
   | false=>rw[hb]at a;exact .inl a
   | true=>
    rw[hb]at a;simp only[zU,Nat.testBit_or,j9,Nat.testBit_two_pow,zQ]at a;rcases a with(a | a) | a
    .exact .inl a
    .exact .inr ⟨e,zJ ..,hb, .inl a⟩
    .exact .inr ⟨e,zJ ..,hb, .inr a⟩
  .exact .inr ⟨m,zE _ j,a⟩
theorem aW: ∀(l:List Oper) (a:List Nat) (j:Nat),j<a.length->(xF l a).getD j 0=a.getD j 0
 | [],a,j,_=>rfl
 | o::l,a,j,h=>by
  rw[xF,aW l _ j (by simp;omega)];simp[qG,j5 h]
theorem VC: ∀(l:List Oper) (a:List Nat) (j:Nat) (o:Oper),l[j]? =some o-> ∃pre:List Nat,(∀k,k<a.length+j->pre.getD k 0=(xF l a).getD k 0)/\pre.length=a.length+j/\(xF l a).getD (a.length+j) 0=zFS pre o.after.toList
 | [],_,_,_,h=>by simp at h
 | p::l,a,0,o,h=>by
  simp at h;subst h;refine⟨a,fun k m=> ?_,rfl, ?_⟩
  .rw[xF,aW l _ k (by simp;omega)];simp[qG,j5 (show k<a.length by omega)]
  .rw[xF,aW l _ _ (by simp)];simp[qG]
 | p::l,a,j+1,o,h=>by
  simp at h;obtain⟨pre,f,q,i⟩:=VC l (a++[zFS a p.after.toList]) j o h;simp only[zV,jI]at f q i;refine⟨pre,fun k m=> ?_,by omega, ?_⟩
  .rw[xF];exact f k (by omega)
  .rw[xF,show a.length+(j+1)=a.length+1+j from by omega];exact i
theorem aQ {ops:Array Oper}{f:List Nat}(q: ∀j∈f,∀o,ops[j]? =some o-> ∀e∈o.after.toList,Region.binds .any e=true->e.on∈f):
  ∀(n j:Nat),j<=n->(∀o,ops[j]? =some o-> ∀e∈o.after.toList,Region.binds .any e=true->e.on∈f)-> ∀i,((xF ops.toList []).getD j 0).testBit i=true->i∈f
 | n,j,hjn,hj,i,h=>by
  cases p:ops.toList[j]? with
  | none=>
   have hl: ∀(l:List Oper) (m:List Nat),(xF l m).length=m.length+l.length:=by
    intro l
    induction l with
    | nil=>intro m;simp[xF]
    | cons o l ih=>intro m;rw[xF,ih];simp;omega
   have:(xF ops.toList [])[j]? =none:=by
    rw[List.getElem?_eq_none_iff]at p⊢;rw[hl];simpa using p
   simp[qG,this]at h
  | some o=>
   obtain⟨pre,t,z,u⟩:=VC ops.toList [] j o p;simp only[yS,j7]at t z u;rw[u]at h;rcases XI pre _ _ _ h with a | ⟨e,C,hb,a⟩
   .simp at a
   .have x:ops[j]? =some o:=by simpa using p
    have s:=hj o x e C hb;rcases a with rfl | a
    .exact s
    .by_cases y:e.on<j
     .rw[t _ y]at a
      cases n with
      | zero=>omega
      | succ n=>exact aQ q n e.on (by omega) (fun o' v=>q _ s o' v) i a
     .have:pre[e.on]? =none:=List.getElem?_eq_none (by omega);simp[qG,this]at a
def AO (H a:AH):Prop:=H.next<=a.next/\(∀A,A<H.next->a.h.get A=H.h.get A)/\zOA H a
theorem AO.refl (H:AH):AO H H:=⟨zP _,fun _ _=>rfl,fun _ _ h=>h⟩
theorem AO.trans {H a f:AH}(h:AO H a)(k:AO a f):AO H f:=
 ⟨qR h.1 k.1,fun A i=>(k.2.1 A (qI i h.1)).trans (h.2.1 A i),fun A o j=>k.2.2 A o (h.2.2 A o j)⟩
theorem AO.new {H:AH}(h:newA H g=some (i,n)):AO H n/\n.h.get H.next=some g/\n.next=H.next+1:=by
 obtain⟨a,j,rfl,rfl,m⟩:=fH h;have f:=T.get_set _ _ _ _ _ j;refine⟨⟨Nat.le_succ _,fun i p=> ?_,fun i o' H'=> ?_⟩, ?_,rfl⟩
 .show a.get i=_;rw[f,if_neg (by omega)]
 .show a.get i=_;rw[f];by_cases e:i=H.next
  .subst e;rw[m]at H';simp at H'
  .rw[if_neg e];exact H'
 .show a.get _=_;rw[f,if_pos rfl]
theorem Rel.more {R:Ren}{H a:AH}{w:World}(h:Rel R H w)(f:AO H a):Rel R a w:=by
 have hl: ∀A b d c,R A b d c->YL a A->YL H A:=fun A b d c r ⟨o,i,hd⟩=>⟨o,by rw[<-f.2.1 A (h.lt _ _ _ _ r).2];exact i,hd⟩
 exact⟨h.fn,fun A m b d c d' c' r j l l'=>h.inj _ _ _ _ _ _ _ r j (hl _ _ _ _ r l) (hl _ _ _ _ j l'),
  fun A b d c o r i=>h.obj A b d c o r (by rw[<-f.2.1 A (h.lt _ _ _ _ r).2];exact i),fun A b d c r=>⟨(h.lt _ _ _ _ r).1,qI (h.lt _ _ _ _ r).2 f.1⟩⟩
theorem Ext.more {R a:Ren}{H H' f:AH}{w i:World}(h:Ext R H w a H' i)(j:AO H' f):Ext R H w a f i:=
 ⟨h.sub,h.new,h.newA,qR h.next j.1,fun A m o=>(j.2.1 A (qI m h.next)).trans (h.keepA A m o),h.os,h.tape,h.output,h.size,h.keep⟩
section
variable (X:Cx)(r:Fns)(nt:Nat)(ops:Array Oper)
def uJ:Env->AH->List Ent->Env->AH->Prop
 | env,H,[],envF,HF=>env=envF/\H=HF
 | env,H,e::es,envF,HF=>e.env=env/\e.H=H/\zGN X r ops env H e.i e.o=some e/\ ∃env',WJ nt env e.o.dst e.v=some env'/\uJ env' e.H' es envF HF
theorem KU {e:Ent}(h:zGN X r ops l n e.i e.o=some e):aD ops l e.o=some e.want/\(e.want=true->opF X r l n e.o.op=some (e.v,e.H'))/\(e.want=false->e.v=jU/\e.H'=n):=by
 unfold zGN at h;split at h
 .rename_i a;split at h
  .rename_i v H' p;simp only[zC]at h;have f:e.want=true:=by rw[<-h]
   have j:e.v=v:=by rw[<-h]
   have m:e.H'=H':=by rw[<-h]
   rw[f,j,m];exact⟨a,fun _=>p,fun h=>by simp at h⟩
  .simp at h
 .rename_i a;simp only[zC]at h;have f:e.want=false:=by rw[<-h]
  have j:e.v=jU:=by rw[<-h]
  have m:e.H'=n:=by rw[<-h]
  rw[f];exact⟨a,fun h=>by simp at h,fun _=>⟨j,m⟩⟩
 .simp at h
theorem zKy {e:Ent}(h:zGN X r ops l n e.i e.o=some e)(f:xE (cls X e.o.op)=false):AO n e.H':=by
 obtain⟨_,q,s⟩:=KU X r ops h
 cases m:e.want with
 | false=>rw[(s m).2];exact AO.refl n
 | true=>
  have a:=q m;unfold opF at a;split at a
  .unfold wV at a;split at a
   .simp only[zC,zT]at a;rw[<-a.2];exact AO.refl n
   .simp at a
  .unfold wV at a;split at a
   .simp only[zC,zT]at a;rw[<-a.2];exact AO.refl n
   .simp at a
  .unfold wA at a;split at a
   .split at a
    .rename_i A t p;simp only[zC,zT]at a;rw[<-a.2];exact(AO.new p).1
    .simp at a
   .simp at a
  .rename_i j;rw[j]at f;simp[xE]at f
  .rename_i j;rw[j]at f;simp[xE]at f
noncomputable def gJ (D:List Nat):List Ent->AH->AH
 | [],HF=>HF
 | e::es,HF=>if xE (cls X e.o.op)=true/\e.i∉D then e.H else gJ D es HF
variable {X r nt ops}
theorem J5: ∀ {es:List Ent} {env:Env} {H:AH} {envF:Env} {HF:AH} {D:List Nat},uJ X r nt ops env H es envF HF->(∀e∈es,xE (cls X e.o.op)=true->e.i∉D)->AO H (gJ X D es HF)
 | [],_,H,_,HF,D,h,_=>by obtain⟨_,rfl⟩:=h;exact AO.refl _
 | e::es,env,H,envF,HF,D,⟨h1,h2,h3,env',h4,h5⟩,hD=>by
  unfold gJ;split
  .rw[h2];exact AO.refl H
  .rename_i f;have j:xE (cls X e.o.op)=false:=by
    cases a:xE (cls X e.o.op)with
    | false=>rfl
    | true=>exact absurd ⟨a,hD e (zJ ..) a⟩ f
   exact(zKy X r ops h3 j).trans (J5 h5 (fun q m=>hD q (zE _ m)))
theorem ZZ: ∀ {pre:List Ent} {e:Ent} {a:List Ent} {env:Env} {H:AH} {envF:Env} {HF:AH},uJ X r nt ops env H (pre++e::a) envF HF->uJ X r nt ops e.env e.H (e::a) envF HF
 | [],e,a,env,H,envF,HF,h=>by
  obtain⟨f,i,j,env',m,h5⟩:=h;subst f i;exact⟨rfl,rfl,j,env',m,h5⟩
 | p::pre,e,a,env,H,envF,HF,⟨_,_,_,env',_,h5⟩=>ZZ (pre:=pre) h5
theorem J3: ∀ {pre l:List Ent} {HF:AH} {D:List Nat},(∀p∈pre,xE (cls X p.o.op)=true->p.i∈D)->gJ X D (pre++l) HF=gJ X D l HF
 | [],_,_,_,_=>rfl
 | p::pre,l,HF,D,h=>by
  rw[qF,gJ,if_neg (fun a=>a.2 (h p (zJ ..) a.1))];exact J3 (fun q f=>h q (zE _ f))
theorem zDp {D:List Nat}{j:Nat} : ∀ {es:List Ent} {HF:AH},(∀e∈es,e.i=j->xE (cls X e.o.op)=false)->gJ X (j::D) es HF=gJ X D es HF
 | [],_,_=>rfl
 | e::es,HF,h=>by
  simp only[gJ];rw[zDp (es:=es) (fun q f=>h q (zE _ f))];by_cases a:e.i=j
  .have:=h e (zJ ..) a;rw[if_neg (by simp[this]),if_neg (by simp[this])]
  .simp[a]
theorem zB9: ∀ {pre:List Ent} {e:Ent} {j:List Ent} {env:Env} {H:AH} {envF:Env} {HF:AH},uJ X r nt ops env H (pre++e::j) envF HF->(pre.map (·.o.dst)).Pairwise (fun a b=> ∀d,a=some d->b≠some d)->
  ∀t,(∀p∈pre,p.o.dst=some t->Eng.look e.env t=some p.v)/\((∀p∈pre,p.o.dst≠some t)->Eng.look e.env t=Eng.look env t)
 | [],e,j,env,H,envF,HF,h,_,t=>by
  obtain⟨y,_⟩:=h;exact⟨fun p hp=>by simp at hp,fun _=>by rw[y]⟩
 | p::pre,e,j,env,H,envF,HF,⟨y,h2,h3,env',f,h5⟩,hd,t=>by
  simp only[yK,yP]at hd;obtain⟨F,z⟩:=zB9 (pre:=pre) h5 hd.2 t;have s:Eng.look env' t=if p.o.dst=some t then some p.v else Eng.look env t:=by
   cases u:p.o.dst with
   | none=>rw[u]at f;simp only[WJ,zC]at f;subst f;simp
   | some d=>
    rw[u]at f;simp only[WJ,zG]at f;split at f
    .injection f with f;subst f
     unfold Eng.look;rw[bD];by_cases e:t=d
     .subst e;simp
     .rw[if_neg e,if_neg (by simpa using Ne.symm e)]
    .simp at f
  refine⟨fun q i m=> ?_,fun x=> ?_⟩
  .rcases zO.1 i with rfl | i
   .rw[z (fun I C G=>hd.1 _ (List.mem_map_of_mem C) t m G),s,if_pos m]
   .exact F q i m
  .rw[z (fun q i=>x q (zE _ i)),s,if_neg (x p (zJ ..))]
end
structure Mono (r:Fns):Prop where
 call: ∀f args H v H',r.call f args H=some (v,H')->H.next<=H'.next
 yld: ∀A args H v H',r.yld A args H=some (v,H')->H.next<=H'.next
theorem Good.mono {r:Fns}(h:Good q r):Mono r:=⟨fun f args H v H' e=>(h.call f args H v H' e).1,fun A args H v H' e=>(h.yld A args H v H' e).1⟩
theorem xJ (h:fF n i g=some E):E.next=n.next:=by
 unfold fF at h;split at h
 .simp only[zC]at h;rw[<-h]
 .simp at h
theorem zEu {e sz:Nat}(cells:cT i e sz I n=some (h,E)):n.next<=E.next:=by
 unfold cT at cells;split at cells
 .rename_i A a f;obtain⟨j,_,_,rfl,_⟩:=fH f;simp only[kI,zC,zT]at cells;rw[<-cells.2];exact Nat.le_succ _
 .simp at cells
theorem cD {e sz bytes:Nat}{old:Option (List AV)}(a:vR i e sz bytes old I n=some (h,E)):n.next<=E.next:=by
 unfold vR at a;rw[zG]at a;split at a
 .split at a
  .exact zEu a
  .simp at a
 .simp at a
theorem zBq {sz bytes new:Nat}(e:app1 i sz bytes new I h n=some (p,E)):n.next<=E.next:=by
 unfold app1 at e;split at e
 .rw[zG]at e;split at e
  .simp only[zC,zT]at e;rw[<-e.2];exact zP _
  .exact cD e
 .rw[zG]at e;split at e
  .simp only[zC,zT]at e;rw[<-e.2];exact zP _
  .simp at e
 .split at e
  .unfold zEz at e;rw[zG]at e;split at e
   .unfold zBp at e;split at e
    .split at e
     .rename_i a hp;simp only[kI,zC,zT]at e;rw[<-e.2,xJ hp];exact zP _
     .simp at e
    .simp at e
   .rw[zG]at e;split at e
    .exact cD e
    .rw[zG]at e;split at e
     .split at e
      .rename_i a hp;have:=cD e;rw[xJ hp]at this;exact this
      .simp at e
     .simp at e
  .simp at e
 .simp at e
theorem zI3 {v:AV}(ks:upM A h p L n=some (v,E)):n.next<=E.next:=by
 unfold upM at ks;rw[zG]at ks;split at ks
 .split at ks
  .split at ks
   .rw[zG]at ks;split at ks
    .split at ks
     .split at ks
      .rename_i hp;simp only[zC,zT]at ks;rw[<-ks.2,xJ hp];exact zP _
      .simp at ks
     .split at ks
      .rename_i hp;simp only[zC,zT]at ks;rw[<-ks.2,xJ hp];exact zP _
      .simp at ks
    .simp at ks
   .simp at ks
  .simp at ks
 .simp at ks
theorem zJ3 (ks:dlM A h p n=some (L,E)):n.next<=E.next:=by
 unfold dlM at ks;rw[zG]at ks;split at ks
 .split at ks
  .simp only[zC,zT]at ks;rw[<-ks.2];exact zP _
  .split at ks
   .rw[zG]at ks;split at ks
    .split at ks
     .split at ks
      .rename_i hp;simp only[zC,zT]at ks;rw[<-ks.2,xJ hp];exact zP _
      .simp at ks
     .simp only[zC,zT]at ks;rw[<-ks.2];exact zP _
    .simp at ks
   .simp at ks
  .simp at ks
 .simp at ks
theorem zJf (x:clM h n=some (p,E)):n.next<=E.next:=by
 unfold clM at x;split at x
 .simp only[zC,zT]at x;rw[<-x.2];exact zP _
 .split at x
  .split at x
   .rename_i hp;simp only[zC,zT]at x;rw[<-x.2,xJ hp];exact zP _
   .simp at x
  .simp at x
 .simp at x
theorem zMB (X:aE Q l n G=some (h,E)):n.next<=E.next:=by
 unfold aE at X;split at X
 .unfold V2 at X;split at X
  .split at X
   .split at X
    .rename_i i f;simp only[zC,zT]at X;rw[<-X.2];unfold zBm at f;split at f
     .split at f
      .split at f
       .rw[zG]at f;split at f
        .split at f
         .rw[xJ f];exact zP _
         .simp at f
        .simp at f
       .simp at f
      .simp at f
     .simp at f
    .simp at X
   .simp at X
  .simp at X
 .unfold c3 at X;split at X
  .split at X
   .split at X
    .unfold aup at X;split at X
     .split at X
      .exact zI3 X
      .simp at X
     .simp at X
    .simp at X
   .simp at X
  .simp at X
 .split at X
  .unfold uT at X;split at X
   .split at X
    .split at X
     .unfold dY at X;have key: ∀t a b,fS Q t a b n=some (h,E)->n.next<=E.next:=by
       intro t a b X;unfold fS at X;split at X
       .split at X
        .rw[zG]at X;split at X
         .split at X
          .rw[zG]at X;split at X
           .exact zBq X
           .simp at X
          .simp at X
         .simp at X
        .simp at X
       .simp at X
      split at X
      .split at X
       .split at X
        .exact key _ _ _ X
        .exact key _ _ _ X
        .unfold zHO at X
         repeat' first | (simp at X;done) | split at X
         all_goals(try rw[zG]at X)
         all_goals(repeat' first | (simp at X;done) | split at X)
         all_goals(try rw[zG]at X)
         all_goals(repeat' first | (simp at X;done) | split at X)
         all_goals exact zBq X
        .simp at X
       .simp at X
      .simp at X
     .simp at X
    .simp at X
   .split at X
    .split at X
     .unfold zGT at X;split at X
      .split at X
       .unfold zEv at X;split at X
        .split at X
         .split at X
          .split at X<;>first | (simp at X;done) | (simp only[zC,zT]at X;rw[<-X.2];exact zP _)
          .split at X
           .simp only at X;split at X
            .rw[zG]at X;split at X
             .split at X
              .split at X
               .split at X
                .rename_i i hp;simp only[kI,zC,zT]at X;rw[<-X.2,xJ hp];exact zP _
                .simp at X
               .simp at X
              .simp at X
             .simp at X
            .simp at X
           .simp at X
          .simp at X
         .simp at X
        .simp at X
       .simp at X
      .simp at X
     .simp at X
    .simp at X
   .split at X
    .split at X
     .unfold c2 at X;split at X
      .split at X
       .unfold adl at X;split at X
        .split at X
         .exact zJ3 X
         .simp at X
        .simp at X
       .simp at X
      .simp at X
     .simp at X
    .simp at X
   .split at X
    .split at X
     .unfold c1 at X;split at X
      .unfold acl at X;split at X
       .exact zJf X
       .simp at X
      .simp at X
     .simp at X
    .simp at X
   .simp at X
  .simp at X
 .simp at X
section
variable {X:Cx}{r:Fns}(hm:Mono r)
include hm
theorem zIy (env:opF X r l n G=some (h,E)):n.next<=E.next:=by
 unfold opF at env;split at env
 .unfold wV at env;split at env
  .simp only[zC,zT]at env;rw[<-env.2];exact zP _
  .simp at env
 .unfold wV at env;split at env
  .simp only[zC,zT]at env;rw[<-env.2];exact zP _
  .simp at env
 .unfold wA at env;split at env
  .split at env
   .rename_i A f a;obtain⟨i,_,_,rfl,_⟩:=fH a;simp only[zC,zT]at env;rw[<-env.2];exact Nat.le_succ _
   .simp at env
  .simp at env
 .exact zMB env
 .unfold opF.callO at env;split at env
  .split at env
   .unfold opF.callV at env;split at env
    .split at env
     .exact hm.call _ _ _ _ _ env
     .simp at env
    .split at env
     .exact hm.yld _ _ _ _ _ env
     .simp at env
    .simp at env
   .simp at env
  .simp at env
theorem zIY {e:Ent}(h:zGN X r v l n e.i e.o=some e):n.next<=e.H'.next:=by
 obtain⟨_,f,j⟩:=KU X r v h
 cases a:e.want with
 | false=>rw[(j a).2];exact zP _
 | true=>exact zIy hm (f a)
theorem wS {nt:Nat}{ops:Array Oper} : ∀ {es:List Ent} {env:Env} {H:AH} {envF:Env} {HF:AH},uJ X r nt ops env H es envF HF->H.next<=HF.next/\ ∀e∈es,H.next<=e.H.next
 | [],_,_,_,_,h=>by obtain⟨_,rfl⟩:=h;exact⟨zP _,by simp⟩
 | e::es,env,H,envF,HF,⟨h1,h2,h3,env',h4,h5⟩=>by
  obtain⟨f,i⟩:=wS h5;have:=zIY hm h3;refine⟨qR this f,fun q a=> ?_⟩;rcases zO.1 a with rfl | a
  .rw[h2];exact zP _
  .exact qR this (i q a)
end
theorem zIl {env2:Env}{v2:AV}(nt:WJ i l M h=some Y): ∃a,WJ i env2 M v2=some a:=by
 cases M with
 | none=>exact⟨_,rfl⟩
 | some d=>
  simp only[WJ,zG]at nt⊢;split at nt
  .rename_i hd;rw[if_pos hd];exact⟨_,rfl⟩
  .simp at nt
theorem d9 (nt:WJ i l M h=some Y)(t:Nat):Eng.look Y t=if M=some t then some h else Eng.look l t:=by
 cases M with
 | none=>simp only[WJ,zC]at nt;subst nt;simp
 | some d=>
  simp only[WJ,zG]at nt;split at nt
  .injection nt with nt;subst nt
   unfold Eng.look;rw[bD];by_cases e:t=d
   .subst e;simp
   .rw[if_neg e,if_neg (by simpa using Ne.symm e)]
  .simp at nt
theorem zDQ (h: ∀t∈dI v V,Eng.look l t=Eng.look Y t):aD v l V=aD v Y V:=by
 unfold aD;split
 .rfl
 .rename_i j f a;unfold zEB;split
  .rename_i p hp;split
   .rename_i d hd;rw[h d (by simp[dI,a,hp,hd])]
   .rfl
  .rfl
theorem zFJ (h: ∀t∈dI v V,Eng.look l t=Eng.look Y t): ∀x∈V.op.operands.toList,opd l x=opd Y x:=by
 intro x a
 cases x with
 | tmp t=>simp only[opd];rw[h t (by simp only[dI,qB,List.mem_filterMap];exact .inl ⟨.tmp t,a,rfl⟩)]
 | _=>rfl
def Bef (ops:Array Oper)(j i:Nat):Prop:=((xF ops.toList []).getD j 0).testBit i=true
structure Row (X:Cx)(r:Fns)(nt:Nat)(ops:Array Oper)(uN:Env)(H0:AH)(es:List Ent)(envF:Env)(HF:AH):Prop where
 chain:uJ X r nt ops uN H0 es envF HF
 mem: ∀e∈es,ops[e.i]? =some e.o
 nd:(es.map (·.i)).Nodup
 pair:es.Pairwise fun a b=>(∀d,a.o.dst=some d->b.o.dst≠some d)/\(xE (cls X a.o.op)=true\/gU ops a.o b.o=true->Bef ops b.i a.i)
 see:es.Pairwise fun a b=>a.want=true->xE (cls X b.o.op)=true-> ¬Bef ops b.i a.i->cls X a.o.op= .L->aL X a.env b.H' a.o.op=some a.v
structure Inv (X:Cx)(nt:Nat)(uN:Env)(H0:AH)(es:List Ent)(HF:AH)(R0:Ren)(w0:World)(D:List Nat)(R:Ren)(tmps:Array Value)(w:World):Prop where
 env: ∃envS,EnvR R envS nt tmps/\ ∀t,(∀e∈es,e.i∈D->e.o.dst=some t->Eng.look envS t=some e.v)/\((∀e∈es,e.i∈D->e.o.dst≠some t)->Eng.look envS t=Eng.look uN t)
 rel:Rel R (gJ X D es HF) w
 no: ∀e∈es,e.want=true->cls X e.o.op= .A->e.i∉D-> ∀b d c,¬R e.H.next b d c
 ob: ∀pre e post,es=pre++e::post->(∀p∈pre,xE (cls X p.o.op)=true->p.i∈D)->e.want=true->cls X e.o.op= .A->e.i∉D-> ∀o mk,aA X e.env e.o.op=some (o,mk)->(gJ X D es HF).h.get e.H.next=some o/\e.H.next< (gJ X D es HF).next
 ext:Ext R0 H0 w0 R (gJ X D es HF) w
section
variable {P:Program}{X:Cx}{r:Fns}{nt:Nat}{ops:Array Oper}{uN:Env}{H0:AH}{es:List Ent}{envF:Env}{HF:AH}
theorem UN {e:Ent}(h:zGN X r ops l n e.i e.o=some e)(q:e.want=true)(s:cls X e.o.op= .A): ∃o f,aA X l e.o.op=some (o,f)/\e.v=f n.next/\AO n e.H'/\e.H'.h.get n.next=some o/\e.H'.next=n.next+1:=by
 have a:=(KU X r ops h).2.1 q;unfold opF at a;rw[s]at a;simp only at a;unfold wA at a;split at a
 .rename_i o f t;split at a
  .rename_i A z m;simp only[zC,zT]at a;obtain⟨u,j⟩:=a;have p:A=n.next:=by obtain⟨C,_,e,_⟩:=fH m;exact e
   obtain⟨x,y,h5⟩:=AO.new m;exact⟨o,f,t,by rw[<-u,p],by rw[<-j];exact x,by rw[<-j];exact y,by rw[<-j];exact h5⟩
  .simp at a
 .simp at a
theorem zCO {f:List Ent}{e:Ent}(t:uJ X r nt ops uN H0 es envF HF)(q:es=m++e::f)(u: ∀p∈m,xE (cls X p.o.op)=true->p.i∈A)(v: ∀p∈f,xE (cls X p.o.op)=true->p.i∉A)
  (x:e.want=true) (pre:cls X e.o.op= .A)  {y:Nat->AV} (z:aA X e.env e.o.op=some (g,y)):(gJ X A es HF).h.get e.H.next=some g/\e.H.next< (gJ X A es HF).next:=by
 subst q;rw[J3 u];have s:=ZZ t;obtain⟨_,_,C,env',_,h5⟩:=s;rw[gJ,if_neg (by rw[pre];simp[xE])];obtain⟨o',G,a,_,I,F,J⟩:=UN C x pre;rw[z]at a;simp only[zC,zT]at a;obtain⟨rfl,rfl⟩:=a;have j:=J5 h5 v;exact⟨j.2.2 _ _ F,by have:=j.1;omega⟩
theorem zFg {D:List Nat}{env:Env}{o:Op}{v:AV} : ∀ {a:List Ent} {j:Env} {H:AH},uJ X r nt ops j H a envF HF->aL X env H o=some v->
  (∀q∈a,xE (cls X q.o.op)=true->q.i∈D->aL X env q.H' o=some v)->aL X env (gJ X D a HF) o=some v
 | [],_,H,⟨_,h⟩,hv,_=>by rw[gJ,<-h];exact hv
 | q::a,j,H,⟨h1,h2,h3,env',h4,h5⟩,hv,hq=>by
  rw[gJ];split
  .rw[h2];exact hv
  .rename_i m;refine zFg h5 ?_ (fun p hp=>hq p (zE _ hp))
   cases f:xE (cls X q.o.op)with
   | false=>exact zJI (zKy X r ops h3 f).2.2 _ hv
   | true=>
    refine hq q (zJ ..) f (Classical.byContradiction fun s=>m ⟨f,s⟩)
theorem Row.inj (hR:Row X r nt ops uN H0 es envF HF){e q:Ent}(m:e∈es)(o:q∈es)(h:e.i=q.i):e=q:=by
 have:=hR.nd;clear hR
 induction es with
 | nil=>simp at m
 | cons a l ih=>
  simp only[yK,List.nodup_cons,qM,not_exists,not_and]at this;rcases zO.1 m with rfl | j
  .rcases zO.1 o with rfl | f
   .rfl
   .exact absurd h.symm (this.1 q f)
  .rcases zO.1 o with rfl | f
   .exact absurd h (this.1 e j)
   .exact ih j f this.2
theorem Row.dst (hR:Row X r nt ops uN H0 es envF HF){e q:Ent}(i:e∈es)(j:q∈es){t:Tmp}(m:e.o.dst=some t)(p:q.o.dst=some t):e=q:=by
 have:=hR.pair;clear hR
 induction es with
 | nil=>simp at i
 | cons a l ih=>
  simp only[yP]at this;rcases zO.1 i with rfl | h
  .rcases zO.1 j with rfl | f
   .rfl
   .exact absurd p ((this.1 q f).1 t m)
  .rcases zO.1 j with rfl | f
   .exact absurd m ((this.1 e h).1 t p)
   .exact ih h f this.2
theorem V8: ∀ {es:List Ent} {env:Env} {H:AH} {envF:Env} {HF:AH},uJ X r nt ops env H es envF HF->(es.map (·.o.dst)).Pairwise (fun a b=> ∀d,a=some d->b≠some d)->
  ∀t,(∀p∈es,p.o.dst=some t->Eng.look envF t=some p.v)/\((∀p∈es,p.o.dst≠some t)->Eng.look envF t=Eng.look env t)
 | [],env,H,envF,HF,h,_,t=>by
  obtain⟨s,_⟩:=h;exact⟨fun p hp=>by simp at hp,fun _=>by rw[s]⟩
 | p::pre,env,H,envF,HF,⟨s,h2,h3,env',h4,h5⟩,hd,t=>by
  simp only[yK,yP]at hd;obtain⟨y,u⟩:=V8 h5 hd.2 t;have j:=d9 h4 t;refine⟨fun q f i=> ?_,fun m=> ?_⟩
  .rcases zO.1 f with rfl | f
   .rw[u (fun C x z=>hd.1 _ (List.mem_map_of_mem x) t i z),j,if_pos i]
   .exact y q f i
  .rw[u (fun q f=>m q (zE _ f)),j,if_neg (m p (zJ ..))]
theorem zB8: ∀ {es:List Ent} {env:Env} {H:AH} {envF:Env} {HF:AH},uJ X r nt ops env H es envF HF->(∀t,nt<=t->Eng.look env t=none)-> ∀t,nt<=t->Eng.look envF t=none
 | [],env,H,envF,HF,h,ho,t,f=>by rw[<-h.1];exact ho t f
 | p::pre,env,H,envF,HF,⟨h1,h2,h3,env',a,h5⟩,ho,t,f=>by
  refine zB8 h5 (fun t f=> ?_) t f
  cases hd:p.o.dst with
  | none=>rw[hd]at a;simp only[WJ,zC]at a;rw[<-a];exact ho t f
  | some d=>
   rw[hd]at a;simp only[WJ,zG,qD]at a;split at a
   .injection a with a;subst a;unfold Eng.look;rw[bD,if_neg (by omega)];exact ho t f
   .simp at a
theorem zDo {D:List Nat} : ∀ {es:List Ent} {HF:AH},(∀e∈es,e.i∈D)->gJ X D es HF=HF
 | [],_,_=>rfl
 | e::es,HF,h=>by
  rw[gJ,if_neg (fun a=>a.2 (h e (zJ ..)))];exact zDo (fun q f=>h q (zE _ f))
end
section
variable {P:Program}{X:Cx}(hX:Ok P X){r:Fns}(hr:Good P r)(hm:Mono r){nt:Nat}{ops:Array Oper}{uN:Env}{H0:AH}{es:List Ent}{envF:Env}{HF:AH}
include hX hr hm in
theorem zIN (hR:Row X r nt ops uN H0 es envF HF){R0 R:Ren}{w0 w:World}{D:List Nat}{fr:Frame}{k:List Item}{cs:List Frame}{j:Nat}{rest:List Nat}(a6:fr.mode= .run)(V:fr.todo= .inRegion ops (j::rest)::k)
  (F:Inv X nt uN H0 es HF R0 w0 D R fr.tmps w) (W:j∉D) {e:Ent} (he:e∈es) (J:e.i=j) (d6: ∀i,Bef ops j i->i∈D) (c8: ∀q∈es,q.i∈D-> ∀i,Bef ops q.i i->i∈D):
  ∃m I z,Steps P (lone fr cs w) (lone { fr with tmps:=zBx fr.tmps e.o.dst z,todo:= .inRegion ops rest::k} cs I)/\Inv X nt uN H0 es HF R0 w0 (j::D) m (zBx fr.tmps e.o.dst z) I:=by
 obtain⟨pre,a0,M⟩:=List.append_of_mem he;obtain⟨d7,hE,c9⟩:=F.env;have e4:=hR.pair;rw[M,j8,yP]at e4;obtain⟨g0,⟨d8,i3⟩,e0⟩:=e4;have e5:=hR.nd;rw[M,List.map_append,yK,List.nodup_append,List.nodup_cons]at e5;have g6: ∀q∈a0,q.i≠e.i:=fun q f h=>e5.2.1.1 (qM.2 ⟨q,f,h⟩)
 have b5: ∀p∈pre,xE (cls X p.o.op)=true->p.i∈D:=fun p hp g7=>d6 _ (by rw[<-J];exact(e0 p hp e (zJ ..)).2 (.inl g7))
 have c3: ∀p∈pre,p∈es:=fun p hp=>by rw[M];exact qX _ hp
 have c2: ∀p∈a0,p∈es:=fun p hp=>by rw[M];exact qY _ (zE _ hp)
 have f7:xE (cls X e.o.op)=true-> ∀q∈a0,q.i∉D:=fun a2 q f hc=>W (by rw[<-J];exact c8 q (c2 q f) hc _ ((d8 q f).2 (.inl a2)))
 have b3:=hR.chain;rw[M]at b3;have g8:(pre.map (·.o.dst)).Pairwise (fun a b=> ∀d,a=some d->b≠some d):=List.pairwise_map.2 (g0.imp fun h=>h.1);have d5: ∀t∈dI ops e.o,Eng.look d7 t=Eng.look e.env t:=by
  intro t e6;obtain⟨Q,S⟩:=zB9 b3 g8 t;obtain⟨T,h4⟩:=c9 t;by_cases e7: ∃p∈pre,p.o.dst=some t
  .obtain⟨p,hp,d0⟩:=e7;have c4:gU ops p.o e.o=true:=by
    simp only[gU,d0,j9];exact .inl (by simpa using e6)
   rw[Q p hp d0,T p (c3 p hp) (d6 _ (by rw[<-J];exact(e0 p hp e (zJ ..)).2 (.inr c4))) d0]
  .have Y: ∀p∈pre,p.o.dst≠some t:=fun p hp h=>e7 ⟨p,hp,h⟩
   rw[S Y,h4 (fun q f G a7=> ?_)];rw[M]at f;rcases qB.1 f with f | f
   .exact Y q f a7
   .rcases zO.1 f with rfl | f
    .exact W (J▸G)
    .have c4:gU ops e.o q.o=true:=by
      simp only[gU,a7,j9];exact .inr (by simpa using e6)
     exact W (by rw[<-J];exact c8 q (c2 q f) G _ ((d8 q f).2 (.inr c4)))
 have a9:=zFJ d5;have b1:gJ X D es HF=gJ X D (e::a0) HF:=by rw[M];exact J3 b5
 obtain⟨_,_,e1,i4,g1,b6⟩:=ZZ b3;obtain⟨f8,g2,g3⟩:=KU X r ops e1;have hw:Region.wanted e.o (yielded ops fr.tmps)=e.want:=zBB hE (by rw[zDQ d5,f8]);have U:ops[j]? =some e.o:=by rw[<-J];exact hR.mem e he
 have e8: ∀q∈es,q.i∈j::D->q=e\/q.i∈D:=fun q f h=>by
  rcases zO.1 h with h | h
  .exact .inl (hR.inj f he (h.trans J.symm))
  .exact .inr h
 have a8:e.i∈j::D:=by rw[J];exact zJ ..
 have e2: ∀m z,Sub R m->VR m e.v z-> ∃b0,EnvR m b0 nt (zBx fr.tmps e.o.dst z)/\ ∀t,(∀q∈es,q.i∈j::D->q.o.dst=some t->Eng.look b0 t=some q.v)/\((∀q∈es,q.i∈j::D->q.o.dst≠some t)->Eng.look b0 t=Eng.look uN t):=by
  intro m z c5 hv;obtain⟨b0,d1⟩:=zIl (env2:=d7) (v2:=e.v) g1;refine⟨b0,(hE.mono c5).put hv d1,fun t=>⟨fun q f G a7=> ?_,fun Y=> ?_⟩⟩
  .rw[d9 d1];by_cases c0:e.o.dst=some t
   .rw[if_pos c0,hR.dst f he a7 c0]
   .rw[if_neg c0];rcases e8 q f G with rfl | h
    .exact absurd a7 c0
    .exact(c9 t).1 q f h a7
  .rw[d9 d1,if_neg (Y e he a8)];exact(c9 t).2 (fun q f h=>Y q f (zE _ h))
 have b7:xE (cls X e.o.op)=false-> ∀m I z,Sub R m->VR m e.v z->Rel m (gJ X D es HF) I->(∀q∈es,q.want=true->cls X q.o.op= .A->q.i∉j::D-> ∀b d c,¬m q.H.next b d c)->Ext R0 H0 w0 m (gJ X D es HF) I->Inv X nt uN H0 es HF R0 w0 (j::D) m (zBx fr.tmps e.o.dst z) I:=by
  intro hn m I z c5 hv b8 Y a1;have hc:gJ X (j::D) es HF=gJ X D es HF:=zDp (fun q f g9=>by rw[hR.inj f he (g9.trans J.symm)];exact hn);refine⟨e2 m z c5 hv,by rw[hc];exact b8,Y,fun p q po f Q N O G o mk u=> ?_,by rw[hc];exact a1⟩;rw[hc];refine F.ob p q po f (fun x y b4=> ?_) N O (fun h=>G (zE _ h)) o mk u;rcases e8 x (by rw[f];exact qX _ y) (Q x y b4)with rfl | h
  .rw[hn]at b4;simp at b4
  .exact h
 have c6:xE (cls X e.o.op)=true-> ∀m I z,VR m e.v z->Rel m e.H' I->Ext R e.H w m e.H' I->Inv X nt uN H0 es HF R0 w0 (j::D) m (zBx fr.tmps e.o.dst z) I:=by
  intro a2 m I z hv b8 a1;have a3:gJ X D es HF=e.H:=by rw[b1,gJ,if_pos ⟨a2,by rw[J];exact W⟩]
  have c7:gJ X (j::D) es HF=gJ X (j::D) a0 HF:=by
   rw[M,J3 (fun p hp h=>zE _ (b5 p hp h)),gJ,if_neg (fun hc=>hc.2 a8)]
  have e9: ∀q∈a0,q.i∉j::D:=fun q f h=>by
   rcases zO.1 h with h | h
   .exact g6 q f (h.trans J.symm)
   .exact f7 a2 q f h
  have c1:AO e.H' (gJ X (j::D) a0 HF):=J5 b6 (fun q f _=>e9 q f);refine⟨e2 m z a1.sub hv,by rw[c7];exact b8.more c1,fun q f N O G b d c f1=> ?_,fun p q po f Q N O G o mk u=> ?_, ?_⟩
  .rw[M]at f;rcases qB.1 f with f | f
   .rcases a1.newA _ _ _ _ f1 with h | h
    .exact F.no q (c3 q f) N O (fun h=>G (zE _ h)) _ _ _ h
    .obtain⟨p1,p2,hp⟩:=List.append_of_mem f;have b2:=b3;rw[hp,qH,qF]at b2;obtain⟨_,_,d2,env2,_,d3⟩:=ZZ b2;obtain⟨_,_,_,_,_,_,h9⟩:=UN d2 N O;have:=(wS hm d3).2 e (by simp);omega
   .rcases zO.1 f with rfl | f
    .exact G a8
    .have:=(b8.lt _ _ _ _ f1).2;have:=(wS hm b6).2 q f;omega
  .rcases List.append_eq_append_iff.1 (M.symm.trans f)with⟨a,d4,Z⟩ | ⟨a,d4,Z⟩
   .cases a with
    | nil=>
     simp only[yE,y9]at Z;exact absurd a8 (by rw[Z.1];exact G)
    | cons x a=>
     simp only[qF,y9]at Z;exact zCO hR.chain f Q (fun x y _=>e9 x (by rw[Z.2];simp[y])) N O u
   .cases a with
    | nil=>
     simp only[yE,y9]at Z;exact absurd a8 (by rw[<-Z.1];exact G)
    | cons x a=>
     simp only[qF,y9]at Z;have h0:=Z.1;subst h0;have f9:q∈pre:=by rw[d4];simp
     have e3:q.i∉D:=fun h=>G (zE _ h)
     obtain⟨S,T⟩:=F.ob p q po f (fun x y b4=>b5 x (by rw[d4];simp[y]) b4) N O e3 o mk u;rw[a3]at S T;rw[c7,c1.2.1 _ (qI T a1.next),a1.keepA _ T (F.no q (c3 q f9) N O e3)]
     exact⟨S,qI T (qR a1.next c1.1)⟩
  .rw[c7];have:=F.ext;rw[a3]at this;exact(this.trans a1).more c1
 have b9: ∀q∈es,q.want=true->cls X q.o.op= .A->q.i∉j::D-> ∀b d c,¬R q.H.next b d c:=fun q f N O G=>F.no q f N O (fun h=>G (zE _ h))
 cases a4:e.want with
 | false=>
  rw[a4]at hw;obtain⟨hv,f2⟩:=g3 a4;refine⟨R,w,undef,by rw[<-kJ V U];exact .one (JN a6 V U hw), ?_⟩;have f3:VR R e.v undef:=by rw[hv];exact BE R
  cases a2:xE (cls X e.o.op)with
  | false=>exact b7 a2 R w undef (zOH R) f3 F.rel b9 F.ext
  | true=>
   have a3:gJ X D es HF=e.H:=by rw[b1,gJ,if_pos ⟨a2,by rw[J];exact W⟩]
   refine c6 a2 R w undef f3 ?_ ?_
   .rw[f2,<-a3];exact F.rel
   .rw[f2];exact zOL _ _ _
 | true=>
  rw[a4]at hw;have a5:=g2 a4;have hd: ∀c,e.o.op≠ .defer c:=by
   intro c hc;rw[hc]at a5;simp[opF,cls,aE]at a5
  cases K:cls X e.o.op with
  | P=>
   have u:=a5;unfold opF at u;rw[K]at u;simp only at u;unfold wV at u;split at u
   .rename_i x y;simp only[zC,zT]at u;rw[<-zDG _ a9]at y;obtain⟨z,Q,S⟩:=simP hX F.rel.fn (w:=w) hE y;refine⟨R,w,z,by rw[<-kJ V U];exact .one (uR a6 V U hw hd Q),b7 (by rw[K];rfl) R w z (zOH R) (by rw[<-u.1];exact S) F.rel b9 F.ext⟩
   .simp at u
  | L=>
   have u:=a5;unfold opF at u;rw[K]at u;simp only at u;unfold wV at u;split at u
   .rename_i x y;simp only[zC,zT]at u;have f4:aL X e.env (gJ X D es HF) e.o.op=some x:=by
     rw[b1,gJ,if_neg (by rw[K];simp[xE])];refine zFg b6 (by rw[<-u.2];exact y) (fun q f h6 G=> ?_);have f5:=hR.see;rw[M,j8,yP]at f5;rw[u.1];exact f5.2.1.1 q f a4 h6 (fun hb=>W (by rw[<-J];exact c8 q (c2 q f) G _ hb)) K
    rw[<-zDH _ a9]at f4;obtain⟨z,Q,S⟩:=simL hX F.rel hE f4;refine⟨R,w,z,by rw[<-kJ V U];exact .one (uR a6 V U hw hd Q),b7 (by rw[K];rfl) R w z (zOH R) (by rw[<-u.1];exact S) F.rel b9 F.ext⟩
   .simp at u
  | A=>
   obtain⟨o,mk,hA,hv,T,h4,h5⟩:=UN e1 a4 K;obtain⟨g4,g5⟩:=F.ob pre e a0 M b5 a4 K (by rw[J];exact W) o mk hA;have f6:=hA;rw[<-zDI _ a9]at f6;obtain⟨s,hs,x,c,kk,z,h7,h8⟩:=simA hX (w:=w) hE f6;obtain⟨i0,i1⟩:=h8 e.H.next
   have Y:=F.no e he a4 K (by rw[J];exact W);refine⟨R.add e.H.next w.heap.size 0 c,World.alloc { w with drawn:=kk} x,z, ?_, ?_⟩
   .rw[<-kJ V U];refine .one (uR a6 V U hw hd ?_);rw[hs];simp only[zH,h7,Result.andThen];rfl
   .refine b7 (by rw[K];rfl) _ _ z (R.sub_add _ _ _ _) (by rw[hv];exact i1) ?_ ?_ ?_
    .exact(F.rel.drew kk).add (w:= { w with drawn:=kk}) g4 g5 Y i0
    .intro q f N O G b d c'
     rintro(h | ⟨h,_⟩)
     .exact b9 q f N O G _ _ _ h
     .rw[M]at f;rcases qB.1 f with f | f
      .obtain⟨p1,p2,hp⟩:=List.append_of_mem f;have b2:=b3;rw[hp,qH,qF]at b2;obtain⟨_,_,d2,env2,_,d3⟩:=ZZ b2;obtain⟨_,_,_,_,_,_,h9⟩:=UN d2 N O;have:=(wS hm d3).2 e (by simp);omega
      .rcases zO.1 f with rfl | f
       .exact G a8
       .have:=(wS hm b6).2 q f;omega
    .have y:=F.ext;have i2:H0.next<=e.H.next:=(wS hm hR.chain).2 e he
     refine⟨y.sub.trans (R.sub_add _ _ _ _), ?_, ?_,y.next,y.keepA,y.os,y.tape,y.output, ?_, ?_⟩
     .rintro A b d c' (h | ⟨rfl,rfl,rfl,rfl⟩)
      .exact y.new _ _ _ _ h
      .exact .inr (.inl y.size)
     .rintro A b d c' (h | ⟨rfl,rfl,rfl,rfl⟩)
      .exact y.newA _ _ _ _ h
      .exact .inr i2
     .rw[kU];exact Nat.le_succ_of_le y.size
     .intro b hb hk;exact(heap_alloc_old { w with drawn:=kk} x b (qI hb y.size)).trans (y.keep b hb hk)
  | E=>
   have a3:gJ X D es HF=e.H:=by rw[b1,gJ,if_pos ⟨by rw[K];rfl,by rw[J];exact W⟩]
   have hL:=F.rel;rw[a3]at hL;rw[<-zAk _ a9]at a5;obtain⟨m,I,z,Q,S,T,h4⟩:=zCM hX hr (cs:=cs) a6 V U hw hE hL a5;exact⟨m,I,z,Q,c6 (by rw[K];rfl) m I z S T h4⟩
  | C=>
   have a3:gJ X D es HF=e.H:=by rw[b1,gJ,if_pos ⟨by rw[K];rfl,by rw[J];exact W⟩]
   have hL:=F.rel;rw[a3]at hL;rw[<-zAk _ a9]at a5;obtain⟨m,I,z,Q,S,T,h4⟩:=zCM hX hr (cs:=cs) a6 V U hw hE hL a5;exact⟨m,I,z,Q,c6 (by rw[K];rfl) m I z S T h4⟩
end
section
variable {P:Program}{X:Cx}(hX:Ok P X){r:Fns}(hr:Good P r)(hm:Mono r){nt:Nat}{ops:Array Oper}{uN:Env}{H0:AH}{es:List Ent}{envF:Env}{HF:AH}
include hX hr hm in
theorem zG4 (hR:Row X r nt ops uN H0 es envF HF)(p: ∀j,j<ops.size-> ∃e∈es,e.i=j){t:Ren}{u:World}{fr:Frame}{k:List Item}{cs:List Frame}(h:fr.mode= .run): ∀(rest D:List Nat) (R:Ren) (tmps:Array Value) (w:World),
  Valid .any ops D rest->(∀j∈D,∀o,ops[j]? =some o-> ∀e∈o.after.toList,Region.binds .any e=true->e.on∈D)->Inv X nt uN H0 es HF t u D R tmps w->
  ∃O v m y,Steps P (lone { fr with tmps:=tmps,todo:= .inRegion ops rest::k} cs w) (lone { fr with tmps:=m,todo:= .inRegion ops []::k} cs v)/\Inv X nt uN H0 es HF t u y O m v/\(∀j,j∈D\/j∈rest->j∈y)
 | [],D,R,tmps,w,_,_,hI=>⟨R,w,tmps,D, .refl _ _,hI,fun j Q=>by simpa using Q⟩
 | j::rest,D,R,tmps,w,hv,hcl,hI=>by
  obtain⟨S,T,C,U⟩:=hv;obtain⟨e,V,G⟩:=p j T;have hb: ∀i,Bef ops j i->i∈D:=fun i hi=>aQ hcl j j (zP _) C i hi
  obtain⟨W,Y,z,I,J⟩:=zIN hX hr hm hR (fr:= { fr with tmps:=tmps,todo:= .inRegion ops (j::rest)::k}) (k:=k) (cs:=cs) h rfl hI S V G hb
   (fun q a K i hi=>aQ hcl q.i q.i (zP _) (fun o f=>hcl q.i K o f) i hi)
  obtain⟨Z,w2,t2,D2,L,M,N⟩:=zG4 hR p h rest (j::D) W (zBx tmps e.o.dst z) Y U (fun q a o f x F s=>by
   rcases zO.1 a with rfl | a
   .exact zE _ (C o f x F s)
   .exact zE _ (hcl q a o f x F s)) J
  refine⟨Z,w2,t2,D2,I.trans L,M,fun i hi=>N i ?_⟩;rcases hi with hi | hi
  .exact .inl (zE _ hi)
  .rcases zO.1 hi with rfl | hi
   .exact .inl (zJ ..)
   .exact .inr hi
include hm in
theorem zG5 (hR:Row X r nt ops uN H0 es envF HF)(p:EnvR s uN nt F)(hL:Rel s H0 t):Inv X nt uN H0 es HF s t [] s F t:=by
 have f:AO H0 (gJ X [] es HF):=J5 hR.chain (fun _ _ _=>by simp);refine⟨⟨uN,p,fun a=>⟨fun e _ h=>by simp at h,fun _=>rfl⟩⟩,hL.more f,fun e q i j _ b d c h=> ?_,fun pre e v m R i j _ o x u=> ?_,(zOL s H0 t).more f⟩
 .have:=(hL.lt _ _ _ _ h).2;have:=(wS hm hR.chain).2 e q;omega
 .exact zCO hR.chain m R (fun _ _ _=>by simp) i j u
theorem zAm: ∀(l:List Nat),zCP l=true->l.Nodup
 | [],_=>List.nodup_nil
 | x::l,h=>by
  simp only[zCP,zF,j6,List.contains_eq_mem,yU]at h;exact List.nodup_cons.2 ⟨h.1,zAm l h.2⟩
theorem X9 {masks:List Nat} : ∀(l:List (Nat×Oper)),U5 X ops masks l=true->l.Pairwise fun a b=>zFE X ops masks a b=true
 | [],_=>List.Pairwise.nil
 | a::l,h=>by
  simp only[U5,zF,yC]at h;exact yP.2 ⟨h.1,X9 l h.2⟩
theorem zFj {a:Nat×Oper}(h:a∈rowOf X ops A):ops[a.1]? =some a.2:=by
 have base: ∀a∈(List.range ops.size).filterMap (fun i=>match zEy ops.toList i with | some o=>some (i,o) | none=>none),ops[a.1]? =some a.2:=by
  intro a m;obtain⟨i,_,hi⟩:=List.mem_filterMap.1 m;split at hi
  .rename_i o j;simp only[zC]at hi;subst hi;rw[zBR]at j;simpa using j
  .simp at hi
 unfold rowOf at h;simp only at h;obtain⟨s,_,f⟩:=List.mem_flatMap.1 h;rcases qB.1 f with f | f
 .exact base a (List.mem_filter.1 (List.mem_filter.1 f).1).1
 .split at f
  .rename_i e p;simp only[yF]at f;subst f;exact base a (List.mem_filter.1 (List.mem_of_getElem? p)).1
  .simp at f
include hX hr hm in
theorem zGW (s:plan X ops=some (N,A))(C:uJ X r nt ops l n m Y E)(z:m.map (fun e=>(e.i,e.o))=N)
  (a9:m.Pairwise fun a b=>a.want=true->xE (cls X b.o.op)=true->(A.getD b.i 0).testBit a.i=false->cls X a.o.op= .L->aL X a.env b.H' a.o.op=some a.v):zHR P nt (.region i ops true) l n .normal Y E:=by
 intro R fr k cs w F ht id hL;unfold plan at s;simp only[zG]at s;split at s
 .rename_i T;simp only[zC,zT]at s;obtain⟨a3,a0⟩:=s;rw[<-a3]at z;simp only[zNj,zF]at T;obtain⟨⟨⟨⟨a1,b0⟩,a2⟩,M⟩,_⟩:=T;have hi:m.map (·.i)=(rowOf X ops (xF ops.toList [])).map (·.1):=by rw[<-z];simp
  have O: ∀e∈m,ops[e.i]? =some e.o:=fun e envF=>zFj (a:=(e.i,e.o)) (by rw[<-z];exact qM.2 ⟨e,envF,rfl⟩)
  have U:=X9 _ a2;rw[<-z,List.pairwise_map]at U;have hR:Row X r nt ops l n m Y E:=by
   refine⟨C,O,by rw[hi];exact zAm _ b0,U.imp ?_,a9.imp ?_⟩
   .intro a b u;simp only[zFE,zF,j9,j6,Bool.or_eq_false_iff]at u;refine⟨fun d q J=> ?_,fun f=> ?_⟩
    .simp[q,J]at u
    .rcases u.2 with y | y
     .exact y
     .rcases f with f | f
      .rw[y.1]at f;simp at f
      .rw[y.2]at f;simp at f
   .intro a b u hw hb b1 hL;rw[<-a0]at u;have a4:((xF ops.toList []).getD b.i 0).testBit a.i=false:=by
     cases hh:((xF ops.toList []).getD b.i 0).testBit a.i with
     | false=>rfl
     | true=>exact absurd hh b1
    exact u hw hb a4 hL
  have a5: ∀j,j<ops.size-> ∃e∈m,e.i=j:=by
   intro j hj;simp only[yC,List.mem_range]at M;have q:=M j hj;rw[<-hi]at q;simp only[List.contains_eq_mem,zQ,qM]at q;exact q
  obtain⟨a6,a7⟩:=zBJ a1 (P.follows .mixedOrders) (w.tape w.drawn (.order fr.fn i));have b2:=zG5 hm hR id (hL.drew (w.drawn+1));obtain⟨R1,w1,t1,Z,b3,G,b4⟩:=zG4 hX hr hm hR a5 (fr:=fr) (k:=k) (cs:=cs) F _ [] R fr.tmps _ a6 (by simp) b2;have env: ∀e∈m,e.i∈Z:=fun e envF=>b4 _ (.inr (a7 _ (by
   have:=O e envF;exact(Array.getElem?_eq_some_iff.1 this).1)))
  have b5:gJ X Z m E=E:=zDo env;have Q:=G.rel;have S:=G.ext;rw[b5]at Q S;refine⟨R1,w1,t1,k,(Steps.one (zL4 F ht)).trans (b3.trans (.one (xV (fr:= { fr with tmps:=t1,todo:= .inRegion ops []::k}) F rfl))),rfl, ?_,Q,(Ext.drew R n w _).trans S⟩;obtain⟨a8,V,b6⟩:=G.env;have b7:(m.map (·.o.dst)).Pairwise (fun a b=> ∀d,a=some d->b≠some d):=List.pairwise_map.2 (hR.pair.imp fun h=>h.1);refine⟨V.size,fun t x hx=> ?_,zB8 C id.out⟩;have:Eng.look Y t=Eng.look a8 t:=by
   obtain⟨q,J⟩:=V8 C b7 t;obtain⟨f,y⟩:=b6 t;by_cases I: ∃e∈m,e.o.dst=some t
   .obtain⟨e,envF,W⟩:=I;rw[q e envF W,f e envF (env e envF) W]
   .rw[J (fun p hp K=>I ⟨p,hp,K⟩),y (fun p hp _ K=>I ⟨p,hp,K⟩)]
  rw[this]at hx;exact V.get t x hx
 .simp at s
end
end Go.Eng
end
section
noncomputable section
namespace Go.Eng
inductive Ex where
 | norm (vs:List AV)
 | exit (id:Nat) (vs:List AV)
 | ret (v:AV)
abbrev Rs:=Option (Ex×AH)
def bV (x:Option AV)(K:AV->Rs):Rs:=Option.rec (motive:=fun _=>Rs) none (fun v=>K v) x
def bR (x:Option (AV×AH))(K:AV->AH->Rs):Rs:=Option.rec (motive:=fun _=>Rs) none (fun p=>Prod.rec (motive:=fun _=>Rs) (fun v H=>K v H) p) x
def hd (vs:List AV)(K:AV->List AV->Rs):Rs:=List.rec (motive:=fun _=>Rs) none (fun v l _=>K v l) vs
def cnd (c:AV)(a b:Rs):Rs:=match c with | .bool true=>a | .bool false=>b | _=>none
def jn (x:Rs)(K:List AV->AH->Rs):Rs:=match x with
 | some (.norm vs,H)=>K vs H
 | some (.exit id vs,H)=>some (.exit id vs,H)
 | some (.ret v,H)=>some (.ret v,H)
 | none=>none
def jb (id:Nat)(x:Rs)(K:List AV->AH->Rs):Rs:=match x with
 | some (.norm vs,H)=>K vs H
 | some (.exit i vs,H)=>bif Nat.beq i id then K vs H else some (.exit i vs,H)
 | some (.ret v,H)=>some (.ret v,H)
 | none=>none
def kL (n:Nat)(b:List AV->AH->Rs):List AV->AH->Rs:=
 Nat.rec (motive:=fun _=>List AV->AH->Rs) (fun _ _=>none) (fun _ a vs H=>jn (b vs H) a) n
def wnt (x:AV)(f:Bool)(a b:Rs):Rs:=bif isW x f then a else b
def chk (x:Option AV)(v:AV)(K:Rs):Rs:=match x with | some y=>bif aveq y v then K else none | none=>none
def U7 (H:AH)(o:AObj)(K:Nat->AH->Rs):Rs:=
 match T.get H.h H.next with
 | none=>match T.set 40 H.h H.next o with
  | some t=>fN (Nat.succ H.next) fun m=>K H.next ⟨t,m⟩
  | none=>none
 | some _=>none
def bA (x:Option (AObj×(Nat->AV)))(H:AH)(K:AV->AH->Rs):Rs:=
 match x with
 | some (o,mk)=>U7 H o fun A H'=>K (mk A) H'
 | none=>none
def kO (f:BinOp)(x y:AV):Option AV:=match x with
 | .int k a=>match y with | .int k' b=>bO f k a k' b | _=>none
 | _=>none
def J6 (a:BinOp)(x y:AV):Option AV:=match x with
 | .str l b=>match y with | .str m c=>zBu a l b m c | _=>none
 | _=>none
def YP (f:BinOp)(x y:AV):Option AV:=match x with
 | .bool a=>match y with
  | .bool b=>match f with
   | .eql=>mkB (a==b)
   | .neq=>mkB !(a==b)
   | _=>none
  | _=>none
 | _=>none
def gK (a:BinOp)(r:Option Bool):Option AV:=match r with
 | some b=>match a with
  | .eql=>mkB b
  | .neq=>mkB !b
  | _=>none
 | none=>none
def eqP (x y:AV):Option Bool:=match x with
 | .nP=>match y with
  | .nP=>some true
  | .ptr _ _=>some false
  | _=>none
 | .ptr A o=>match y with
  | .nP=>some false
  | .ptr B p=>bif Nat.beq A B then some (Nat.beq o p)else none
  | _=>none
 | _=>none
def eqS (x y:AV):Option Bool:=match x with
 | .nS=>match y with
  | .nS=>some true
  | .slice _ _ _ _=>some false
  | _=>none
 | .slice _ _ _ _=>match y with
  | .nS=>some false
  | _=>none
 | _=>none
def eqM (x y:AV):Option Bool:=match x with
 | .nM=>match y with
  | .nM=>some true
  | .map _=>some false
  | _=>none
 | .map _=>match y with
  | .nM=>some false
  | _=>none
 | _=>none
def eqF (x y:AV):Option Bool:=match x with
 | .nilFunc=>match y with
  | .nilFunc=>some true
  | .func _ _ _=>some false
  | _=>none
 | .func _ _ _=>match y with
  | .nilFunc=>some false
  | _=>none
 | _=>none
def eqA (f:List Nat)(x y:AV):Option Bool:=match x with
 | .agg a=>match y with
  | .agg b=>bif Nat.beq (aR a 0) (aR b 0)&&Nat.beq f.length (aR a 0)then uI f a b else none
  | _=>none
 | _=>none
def zMS (x y:AV)(H:AH):Option Bool:=match x with
 | .nP=>match y with
  | .nP=>some true
  | .ptr _ _=>some false
  | _=>none
 | .ptr A o=>match y with
  | .nP=>some false
  | .ptr B p=>bif Nat.beq A B then some (Nat.beq o p)else bif ZN A H&&ZN B H then some false else none
  | _=>none
 | _=>none
def zI8 (X:Cx)(a:BinOp)(t:TypeId)(x y:AV)(H:AH):Option AV:=
 match X.und t with
 | some (.pointer e)=>match X.size e with
  | some 0=>none
  | some _=>gK a (zMS x y H)
  | none=>none
 | _=>none
def zMI (X:Cx)(a:BinOp)(t:TypeId)(x y:AV):Option AV:=
 match X.und t with
 | some (.int _)=>kO a x y
 | some .string=>J6 a x y
 | some .bool=>YP a x y
 | some (.pointer e)=>match X.size e with
  | some 0=>none
  | some _=>gK a (eqP x y)
  | none=>none
 | some (.slice _)=>gK a (eqS x y)
 | some (.map _ _)=>gK a (eqM x y)
 | some (.func _ _ _)=>gK a (eqF x y)
 | some (.struct _)=>match zC3 t X.fl with | some qs=>gK a (eqA qs x y) | none=>none
 | some (.array _ _)=>match zC3 t X.fl with | some qs=>gK a (eqA qs x y) | none=>none
 | _=>none
def ldN (n:Nat)(p:AV)(H:AH):Option AV:=match p with
 | .ptr A off=>match H.h.get A with
  | some (.cells l _ _ _)=>match uW l off n with | some c=>some (.agg c) | none=>none
  | _=>none
 | _=>none
def ld1 (p:AV)(H:AH):Option AV:=match p with
 | .ptr A off=>match H.h.get A with
  | some (.cells l _ _ _)=>nth l off
  | _=>none
 | _=>none
def zEN (X:Cx)(t:TypeId)(p:AV)(H:AH):Option AV:=
 match X.und t with
 | some d=>bif fU d then(match X.size t with | some n=>ldN n p H | none=>none)else ld1 p H
 | none=>none
def stN (n:Nat)(p x:AV)(H:AH):Option (AV×AH):=match p with
 | .ptr A off=>match H.h.get A with
  | some (.cells l e sz g)=>bif (aR (kF x) 0).beq n&&jV (kF x)&&Nat.blt 0 sz then
    match setAt l off (kF x)with
    | some l'=>match fF H A (.cells l' e sz g)with
     | some H'=>some (jU,H')
     | none=>none
    | none=>none
   else none
  | _=>none
 | _=>none
def zEM (X:Cx)(t:TypeId)(p x:AV)(H:AH):Option (AV×AH):=
 match X.size t with | some n=>stN n p x H | none=>none
def cvI (k:IntKind)(x:AV):Option AV:=match x with | .int _ n=>mkI k n | _=>none
def zMW (x:AV):Option AV:=match x with | .str l b=>some (.str l b) | _=>none
def zEU (X:Cx)(a dst:TypeId)(x:AV):Option AV:=
 match X.und a with
 | none=>none
 | some ds=>match X.und dst with
  | some (.int k)=>cvI k x
  | some .string=>match ds with
   | .string=>zMW x
   | _=>none
  | _=>none
def zDl (x:AV)(H:AH):Option AV:=match x with
 | .nS=>some (.str 0 0)
 | .slice A off len _=>match H.h.get A with
  | some (.cells l _ _ _)=>match uW l off len with
   | some c=>match ZA c with
    | some (n,b)=>mkS n b
    | none=>none
   | none=>none
  | _=>none
 | _=>none
def zCw (X:Cx)(a dst:TypeId)(x:AV)(H:AH):Option AV:=
 match X.und a with
 | some (.slice e)=>match X.und dst with
  | some .string=>match X.und e with
   | some (.int .u8)=>zDl x H
   | _=>none
  | _=>none
 | _=>none
def zKE (e:TypeId)(x:AV):Option (AObj×(Nat->AV)):=match x with
 | .str l b=>bif Nat.blt l 4611686018427387904 then some (.cells (bytesOf l b) e 1 true,fun A=> .slice A 0 l 1)else none
 | _=>none
def zEW (X:Cx)(a dst:TypeId)(x:AV):Option (AObj×(Nat->AV)):=
 match X.und a with
 | some .string=>match X.und dst with
  | some (.slice e)=>match X.und e with
   | some (.int .u8)=>zKE e x
   | _=>none
  | _=>none
 | _=>none
def WL (x:AV)(lo hi:Option AV):Option AV:=match kX lo,kX hi with
 | some lo,some hi=>match x with | .str len bits=>zHH len bits lo hi | _=>none
 | _,_=>none
def vD (sz:Nat)(x:AV)(lo hi a:Option AV)(H:AH):Option AV:=match kX lo,kX hi,kX a with
 | some lo,some hi,some a=>match x with
  | .nS=>bif (lo.getD 0).beq 0&&(hi.getD 0).beq 0&&(a.getD 0).beq 0&&(a.isNone||hi.isSome)then some .nS else none
  | .slice A off len cc=>match H.h.get A with
   | some (.cells l _ sz' g)=>bif Nat.blt 0 sz then YQ A off len cc sz (kS l g sz' off cc sz) lo hi a else none
   | _=>none
  | .eS=>match a with
   | none=>bif (lo.getD 0).beq 0&&(hi.getD 0).beq 0 then some .eS else none
   | some _=>none
  | _=>none
 | _,_,_=>none
def xM (n sz:Nat)(x:AV)(lo hi a:Option AV):Option AV:=match kX lo,kX hi,kX a with
 | some lo,some hi,some a=>match x with
  | .ptr A off=>bif Nat.blt 0 sz then YQ A off n (2*n) sz n lo hi a else none
  | _=>none
 | _,_,_=>none
def zCv (X:Cx)(t:TypeId)(x:AV)(lo hi a:Option AV)(H:AH):Option AV:=
 match X.und t with
 | some .string=>match a with | none=>WL x lo hi | some _=>none
 | some (.slice e)=>match X.size e with | some sz=>vD sz x lo hi a H | none=>none
 | some (.array n e)=>match X.size e with | some sz=>xM n sz x lo hi a | none=>none
 | some (.pointer arr)=>match X.und arr with
  | some (.array n e)=>match X.size e with | some sz=>xM n sz x lo hi a | none=>none
  | _=>none
 | _=>none
def vU (n sz:Nat)(x a:AV):Option AV:=match aO a with
 | some i=>match x with
  | .ptr A off=>bif Nat.blt i n then fN (off+i*sz) fun o=>some (.ptr A o)else none
  | _=>none
 | none=>none
def gY (sz:Nat)(x a:AV):Option AV:=match aO a with
 | some i=>match x with
  | .slice A off len _=>bif Nat.blt i len then fN (off+i*sz) fun o=>some (.ptr A o)else none
  | _=>none
 | none=>none
def zBE (X:Cx)(t:TypeId)(x a:AV):Option AV:=
 match X.und t with
 | some (.array n e)=>match X.size e with | some sz=>vU n sz x a | none=>none
 | some (.slice e)=>match X.size e with | some sz=>gY sz x a | none=>none
 | _=>none
def KD (x a:AV):Option AV:=match aO a with
 | some i=>match x with
  | .str len bits=>bif Nat.blt i len then fN ((bits / 2 ^ (8*i)) % 256) fun b=>some (.int .u8 (.ofNat b))else none
  | _=>none
 | none=>none
def zAA (n sz:Nat)(x a:AV):Option AV:=match aO a with
 | some i=>match x with
  | .agg cs=>bif Nat.blt i n then nth cs (i*sz)else none
  | _=>none
 | none=>none
def zEd (n sz:Nat)(x a:AV):Option AV:=match aO a with
 | some i=>match x with
  | .agg cs=>bif Nat.blt i n then match uW cs (i*sz) sz with | some c=>some (.agg c) | none=>none else none
  | _=>none
 | none=>none
def zEQ (X:Cx)(t:TypeId)(x a:AV):Option AV:=
 match X.und t with
 | some .string=>KD x a
 | some (.array n e)=>match X.und e,X.size e with
  | some d,some sz=>bif fU d then zEd n sz x a else zAA n sz x a
  | _,_=>none
 | _=>none
def fd1 (off:Nat)(x:AV):Option AV:=match x with | .agg cs=>nth cs off | _=>none
def fdN (off n:Nat)(x:AV):Option AV:=match x with | .agg cs=>(match uW cs off n with | some c=>some (.agg c) | none=>none) | _=>none
def zES (X:Cx)(t:TypeId)(x:AV)(f:Nat):Option AV:=
 match X.und t with
 | some (.struct fs)=>match zLu fs.toList f with
  | some fl=>match X.und fl.type,X.size fl.type with
   | some d,some n=>bif fU d then fdN fl.offset n x else fd1 fl.offset x
   | _,_=>none
  | none=>none
 | _=>none
def fAd (off:Nat)(x:AV):Option AV:=match x with | .ptr A o=>fN (o+off) fun o=>some (.ptr A o) | _=>none
def QB (X:Cx)(s:TypeId)(x:AV)(f:Nat):Option AV:=
 match X.und s with
 | some (.struct fs)=>match zLu fs.toList f with
  | some fl=>match X.size fl.type with
   | some 0=>none
   | some _=>fAd fl.offset x
   | none=>none
  | none=>none
 | _=>none
def KA (x:AV):Option AV:=match x with | .str l _=>some (.int .i64 (.ofNat l)) | _=>none
def lnSl (x:AV):Option AV:=match x with
 | .nS=>some (.int .i64 (.ofNat 0))
 | .slice _ _ n _=>some (.int .i64 (.ofNat n))
 | .eS=>some (.int .i64 (.ofNat 0))
 | _=>none
def ZM (x:AV)(H:AH):Option AV:=match x with
 | .nM=>some (.int .i64 (.ofNat 0))
 | .map A=>match H.h.get A with
  | some (.map _ es)=>fN es.length fun n=>some (.int .i64 (.ofNat n))
  | _=>none
 | _=>none
def tLen (X:Cx)(t:TypeId)(x:AV)(H:AH):Option AV:=
 match X.und t with
 | some .string=>KA x
 | some (.slice _)=>lnSl x
 | some (.array n _)=>some (.int .i64 (.ofNat n))
 | some (.map _ _)=>ZM x H
 | _=>none
def apP (e sz bytes:Nat)(s x:AV)(H:AH):Option (AV×AH):=
 match srcOf sz x H with
 | some (n,new)=>bif jV new then app1 e sz bytes n new s H else none
 | none=>none
def apZ (e sz bytes:Nat)(z:List AV)(s x:AV)(H:AH):Option (AV×AH):=match x with
 | .int .i64 (.ofNat n)=>bif Nat.ble (n*bytes) 281474976710656&&Nat.blt n 4611686018427387904 then app1 e sz bytes n (rep n z) s H else none
 | _=>none
def tApp (X:Cx)(t u:TypeId)(s x:AV)(H:AH):Option (AV×AH):=
 match X.und t with
 | some (.slice e)=>match X.ty.get e with
  | some ti=>match X.und u with
   | some (.slice _)=>bif JB ti.size ti.zero then apP e ti.size ti.bytes s x H else none
   | some .string=>bif JB ti.size ti.zero then apP e ti.size ti.bytes s x H else none
   | some (.int _)=>match cQ X e with
    | some z=>bif JB ti.size ti.zero&&jV (kF z)then apZ e ti.size ti.bytes (kF z) s x H else none
    | none=>none
   | _=>none
  | none=>none
 | _=>none
def cpy (sz:Nat)(dst a:AV)(H:AH):Option (AV×AH):=
 match dst with
 | .nS=>match a with
  | .nS=>some (.int .i64 (.ofNat 0),H)
  | .slice _ _ _ _=>some (.int .i64 (.ofNat 0),H)
  | .str _ _=>some (.int .i64 (.ofNat 0),H)
  | _=>none
 | .slice A off len _=>match srcOf sz a H with
  | some (n,new)=>
   match takeN (Nat.min n len*sz) new with
   | some new=>bif jV new then
     match H.h.get A with
     | some (.cells l e' sz' g)=>match(bif Nat.blt 0 sz' then setAt l off new else none)with
      | some l'=>match fF H A (.cells l' e' sz' g)with
       | some H'=>fN (Nat.min n len) fun m=>some (.int .i64 (.ofNat m),H')
       | none=>none
      | none=>none
     | _=>none
    else none
   | none=>none
  | none=>none
 | _=>none
def zKW (X:Cx)(t:TypeId)(dst a:AV)(H:AH):Option (AV×AH):=
 match X.und t with
 | some (.slice e)=>match X.size e with | some sz=>cpy sz dst a H | none=>none
 | _=>none
def uO (f:List (Nat×Nat))(z:List AV)(a:List (Nat×AV)):Option AV:=
 match fM (zK2 f) z a with | some c=>some (.agg c) | none=>none
def zJm (sz:Nat)(z:List AV)(a:List (Nat×AV)):Option AV:=
 match fM (fun i=>some (i*sz,sz)) z a with | some c=>some (.agg c) | none=>none
def zEY (X:Cx)(t:TypeId)(a:Option (List (Nat×AV))):Option AV:=
 match cQ X t with
 | some z=>match a with
  | some parts=>match X.und t with
   | some (.struct fs)=>match QI X fs.toList with
    | some pl=>uO pl (kF z) parts
    | none=>none
   | some (.array _ e)=>match X.size e with
    | some sz=>zJm sz (kF z) parts
    | none=>none
   | _=>none
  | none=>none
 | none=>none
def pk3 (c a b:Option AV):Option AV:=match c with
 | some (.bool true)=>a
 | some (.bool false)=>b
 | _=>none
def s2a (n:Nat)(x:AV):Option AV:=match x with
 | .slice A off len _=>bif Nat.ble n len then some (.ptr A off)else none
 | _=>none
def tArr (X:Cx)(arr:TypeId)(x:AV):Option AV:=match X.und arr with | some (.array n _)=>s2a n x | _=>none
def bxV (e:TypeId)(x:AV):Option (AObj×(Nat->AV)):=some (.cells (kF x) e 1 false,fun A=> .ptr A 0)
def Q0 (e sz len:Nat)(z:List AV)(a:List (Nat×AV)):Option (AObj×(Nat->AV)):=
 match fM (fun i=>some (i*sz,sz)) (rep len z) a with
 | some c=>some (.cells c e sz false,fun A=> .slice A 0 len (2*len))
 | none=>none
def zBF (X:Cx)(t:TypeId)(len:Nat)(a:Option (List (Nat×AV))):Option (AObj×(Nat->AV)):=
 match X.und t with
 | some (.slice e)=>match a with
  | some parts=>match X.size e with
   | some sz=>match cQ X e with
    | some z=>bif Nat.ble (len*sz) 16777216&&Nat.blt 0 sz&&Nat.beq (aR (kF z) 0) sz then Q0 e sz len (kF z) parts else none
    | none=>none
   | none=>none
  | none=>none
 | _=>none
def zFR (e sz bytes:Nat)(z:List AV)(l c:AV):Option (AObj×(Nat->AV)):=match l with
 | .int .i64 (.ofNat n)=>match c with
  | .int .i64 (.ofNat m)=>bif Nat.ble n m&&Nat.ble (m*bytes) 140737488355328&&Nat.blt m 9223372036854775808 then
    some (.cells (rep m z) e sz false,fun A=> .slice A 0 n (2*m))else none
  | _=>none
 | _=>none
def zKV (X:Cx)(t:TypeId)(l c:AV):Option (AObj×(Nat->AV)):=
 match X.und t with
 | some (.slice e)=>match X.ty.get e with
  | some ti=>match cQ X e with
   | some z=>bif Nat.blt 0 ti.size&&Nat.beq (aR (kF z) 0) ti.size then zFR e ti.size ti.bytes (kF z) l c else none
   | none=>none
  | none=>none
 | _=>none
def tLk (X:Cx)(t:TypeId)(ok:Bool)(x k:AV)(H:AH):Option AV:=match X.und t with
 | some (.map kt et)=>match kOf X kt,cQ X et with
  | some ks,some z=>lkM ks z ok x k H
  | _,_=>none
 | _=>none
def tUp (X:Cx)(t:TypeId)(x k v:AV)(H:AH):Option (AV×AH):=match X.und t with
 | some (.map kt _)=>match kOf X kt with
  | some ks=>upM ks x k v H
  | none=>none
 | _=>none
def tDl (X:Cx)(t:TypeId)(x k:AV)(H:AH):Option (AV×AH):=match X.und t with
 | some (.map kt _)=>match kOf X kt with
  | some ks=>dlM ks x k H
  | none=>none
 | _=>none
def mkM (ks:List Nat):Option (AObj×(Nat->AV)):=some (.map ks [],fun A=> .map A)
def tMkM (X:Cx)(t:TypeId):Option (AObj×(Nat->AV)):=match X.und t with
 | some (.map kt _)=>match kOf X kt with
  | some ks=>mkM ks
  | none=>none
 | _=>none
def q3 {α:Type}(x y z:Option AV)(f:AV->AV->AV->Option α):Option α:=match x with
 | some a=>match y with
  | some b=>match z with | some c=>f a b c | none=>none
  | none=>none
 | none=>none
def q1 {α:Type}(x:Option AV)(f:AV->Option α):Option α:=match x with | some a=>f a | none=>none
def q2 {α:Type}(x y:Option AV)(f:AV->AV->Option α):Option α:=match x with
 | some a=>match y with | some b=>f a b | none=>none
 | none=>none
structure Dyn where
 fn:FuncId->List AV->AH->Option (AV×AH)
 yld:Nat->List AV->AH->Option (AV×AH)
structure Tb where
 X:Cx
 S:List (Nat×(List AV->AH->Option (AV×AH)))
def zBh (S:List (Nat×(List AV->AH->Option (AV×AH))))(D:Dyn)(g:FuncId)(a:List AV)(H:AH):Option (AV×AH):=match S with
 | []=>D.fn g a H
 | (i,m)::S=>bif Nat.beq i g then m a H else zBh S D g a H
def callV (S:List (Nat×(List AV->AH->Option (AV×AH))))(D:Dyn)(f:AV)(a:List AV)(H:AH):Option (AV×AH):=match f with
 | .func g first cap=>zBh S D g (first++a++cap) H
 | .yT A=>D.yld A a H
 | _=>none
def callO (B:Tb)(D:Dyn)(env:Env)(H:AH)(f:Operand)(args:List Operand):Option (AV×AH):=
 match zBy env args with
 | some az=>match f with
  | .func g=>zBh B.S D g az H
  | .tmp t=>match look env t with | some v=>callV B.S D v az H | none=>none
  | _=>none
 | none=>none
def opK (B:Tb)(D:Dyn)(env:Env)(H:AH)(K:AV->AH->Rs):Op->Rs
 | .move x=>match opd env x with | some v=>K v H | none=>none
 | .assign x=>match opd env x with | some v=>K v H | none=>none
 | .pick c a b=>bV (pk3 (opd env c) (opd env a) (opd env b)) fun v=>K v H
 | .build t ps=>bV (zEY B.X t (uK env ps.toList)) fun v=>K v H
 | .nilCheck x=>bV (q1 (opd env x) xZ) fun v=>K v H
 | .binOp op t x y _=>bif zFB B.X t x y then bV (q2 (opd env x) (opd env y) (zI8 B.X op t · · H)) fun v=>K v H
  else bV (q2 (opd env x) (opd env y) (zMI B.X op t)) fun v=>K v H
 | .unOp op _ x=>bV (q1 (opd env x) (aun op)) fun v=>K v H
 | .makeFunc (.func f) first cap=>match zBy env first.toList with
  | some a=>match zBy env cap.toList with
   | some b=>K (.func f a b) H
   | none=>none
  | none=>none
 | .fieldAddr s x f=>bV (q1 (opd env x) (QB B.X s · f)) fun v=>K v H
 | .field t x f=>bV (q1 (opd env x) (zES B.X t · f)) fun v=>K v H
 | .indexAddr t x i=>bV (q2 (opd env x) (opd env i) (zBE B.X t)) fun v=>K v H
 | .index t x i=>bV (q2 (opd env x) (opd env i) (zEQ B.X t)) fun v=>K v H
 | .sliceToArrayPointer arr x=>bV (q1 (opd env x) (tArr B.X arr)) fun v=>K v H
 | .extract x i=>bV (q1 (opd env x) (jS · i)) fun v=>K v H
 | .load t a=>bV (q1 (opd env a) (zEN B.X t · H)) fun v=>K v H
 | .slice t x lo hi mx=>match fX env lo,fX env hi,fX env mx with
  | some lo,some hi,some mx=>bV (q1 (opd env x) (zCv B.X t · lo hi mx H)) fun v=>K v H
  | _,_,_=>none
 | .convert s d x=>match zHg B.X s d with
  | .P=>bV (q1 (opd env x) (zEU B.X s d)) fun v=>K v H
  | .L=>bV (q1 (opd env x) (zCw B.X s d · H)) fun v=>K v H
  | .A=>bA (q1 (opd env x) (zEW B.X s d)) H K
  | _=>none
 | .alloc e=>match cQ B.X e with | some z=>bA (bxV e z) H K | none=>none
 | .box e x=>bA (q1 (opd env x) (bxV e)) H K
 | .buildSlice t len ps=>bA (zBF B.X t len (uK env ps.toList)) H K
 | .makeSlice t l c=>bA (q2 (opd env l) (opd env c) (zKV B.X t)) H K
 | .lookup t x k ok=>bV (q2 (opd env x) (opd env k) (tLk B.X t ok · · H)) fun v=>K v H
 | .makeMap t none=>bA (tMkM B.X t) H K
 | .mapUpdate t m k v=>bR (q3 (opd env m) (opd env k) (opd env v) (tUp B.X t · · · H)) K
 | .store t a x=>bR (q2 (opd env a) (opd env x) (zEM B.X t · · H)) K
 | .call c=>match c.callee with
  | .value f=>bR (callO B D env H f c.args.toList) K
  | .builtin .len=>match c.args.toList,c.argTypes.toList with
   | [x],t::_=>bV (q1 (opd env x) (tLen B.X t · H)) fun v=>K v H
   | _,_=>none
  | .builtin .cap=>match c.args.toList,c.argTypes.toList with
   | [x],t::_=>bV (q1 (opd env x) (zMz B.X t)) fun v=>K v H
   | _,_=>none
  | .builtin .append=>match c.args.toList,c.argTypes.toList with
   | [s,x],[t,u]=>bR (q2 (opd env s) (opd env x) (tApp B.X t u · · H)) K
   | _,_=>none
  | .builtin .copy=>match c.args.toList,c.argTypes.toList with
   | [s,x],t::_=>bR (q2 (opd env s) (opd env x) (zKW B.X t · · H)) K
   | _,_=>none
  | .builtin .min=>match c.args.toList with
   | [x,y]=>bV (q2 (opd env x) (opd env y) mn2) fun v=>K v H
   | _=>none
  | .builtin .max=>match c.args.toList with
   | [x,y]=>bV (q2 (opd env x) (opd env y) mx2) fun v=>K v H
   | _=>none
  | .builtin .delete=>match c.args.toList,c.argTypes.toList with
   | [m,k],t::_=>bR (q2 (opd env m) (opd env k) (tDl B.X t · · H)) K
   | _,_=>none
  | .builtin .clear=>match c.args.toList,c.argTypes.toList with
   | [m],t::_=>bR (q1 (opd env m) (acl B.X t · H)) K
   | _,_=>none
  | _=>none
 | _=>none
def pck (L:List Nat)(env:Env)(K:List AV->Rs):Rs:=match L with
 | []=>K []
 | l::L=>match env l with
  | some v=>pck L env fun vs=>K (v::vs)
  | none=>none
def unp (L:List Nat)(vs:List AV)(env:Env)(K:Env->Rs):Rs:=match L with
 | []=>K env
 | l::L=>hd vs fun v vs=>unp L vs (upd env l v) K
def nl (vs:List AV)(K:Rs):Rs:=match vs with | []=>K | _::_=>none
def zMH (k i:Nat)(vs:List AV)(env:Env)(K:Env->Rs):Rs:=match k with
 | 0=>nl vs (K env)
 | k+1=>hd vs fun v vs=>zMH k (i+1) vs (upd env i v) K
def UP (L:List Nat)(env:Env):Env:=match L with
 | []=>env
 | l::L=>fun t=>bif Nat.beq t l then none else UP L env t
def setE (nt:Nat)(env:Env)(d:Option Tmp)(v:AV)(K:Env->Rs):Rs:=match d with
 | some d=>bif Nat.blt d nt then K (upd env d v)else none
 | none=>K env
def isL (X:Cx)(o:Op):Bool:=match cls X o with | .L=>true | _=>false
def vE (X:Cx)(o:Op):Bool:=match o with
 | .load _ _=>true
 | .lookup _ _ _ _=>true
 | .slice t _ _ _ _=>match X.und t with | some (.slice _)=>true | _=>false
 | .convert _ _ _=>isL X o
 | .binOp _ t x y _=>zFB X t x y
 | .call c=>match c.callee with
  | .builtin .len=>match c.argTypes.toList with
   | t::_=>match X.und t with | some (.map _ _)=>true | _=>false
   | _=>false
  | _=>false
 | _=>false
def tbit (m i:Nat):Bool:=Nat.rec (motive:=fun _=>Nat->Bool) (fun m=>Nat.beq (Nat.mod m 2) 1) (fun _ a m=>a (Nat.div m 2)) i m
theorem zEJ (m i:Nat):tbit m i=m.testBit i:=by
 induction i generalizing m with
 | zero=>
  rw[Nat.testBit_zero];show Nat.beq (m % 2) 1=_;rw[yL,zX,zQ]
 | succ i ih=>rw[Nat.testBit_succ,<-ih];rfl
def zLe:Option (Nat×Bool)->Option (Nat×Bool)->Bool
 | some (i,a),some (j,b)=>Nat.beq i j&&(a==b)
 | _,_=>false
def zA2 (g:Option (Nat×Bool)):List (Nat×Oper)->List (Nat×Oper)×List (Nat×Oper)
 | []=>([],[])
 | o::l=>bif zLe g o.2.guard then(match zA2 g l with | (a,b)=>(o::a,b))else([],o::l)
def slotsOf (ops:Array Oper)(l:List (Nat×Oper)):List Nat:=l.flatMap fun a=>dI ops a.2
def QK (ops:Array Oper)(run rest:List (Nat×Oper)):List Nat:=
 let s:=slotsOf ops rest
 run.filterMap fun a=>match a.2.dst with
  | some d=>bif s.contains d then some d else none
  | none=>none
def dstsOf (run:List (Nat×Oper)):List Nat:=run.filterMap fun a=>a.2.dst
def zLf (X:Cx)(masks:Option (List Nat))(run rest:List (Nat×Oper)):Bool:=match masks with
 | none=>true
 | some ms=>run.all fun a=> !vE X a.2.op||rest.all fun b=> !xE (cls X b.2.op)||tbit (ms.getD b.1 0) a.1
def zGa (ops:Array Oper)(env:Env)(j:Nat):Option AV:=match zEy ops.toList j with
 | some p=>match p.dst with
  | some d=>look env d
  | none=>none
 | none=>none
structure Seen where
 i:Nat
 rd:AH->Option AV
 v:AV
def zNm (B:Tb)(env:Env)(o:Op)(H:AH):Option AV:=match o with
 | .load t a=>q1 (opd env a) (zEN B.X t · H)
 | .lookup t x k ok=>q2 (opd env x) (opd env k) (tLk B.X t ok · · H)
 | .slice t x lo hi mx=>match fX env lo,fX env hi,fX env mx with
  | some lo,some hi,some mx=>q1 (opd env x) (zCv B.X t · lo hi mx H)
  | _,_,_=>none
 | .convert s d x=>q1 (opd env x) (zCw B.X s d · H)
 | .binOp op t x y _=>q2 (opd env x) (opd env y) (zI8 B.X op t · · H)
 | .call c=>match c.args.toList,c.argTypes.toList with
  | [x],t::_=>q1 (opd env x) (tLen B.X t · H)
  | _,_=>none
 | _=>none
def zMX (a:Nat)(H:AH)(K:Rs):List Seen->Rs
 | []=>K
 | s::l=>bif tbit a s.i then zMX a H K l else chk (s.rd H) s.v (zMX a H K l)
def zLc (B:Tb)(masks:List Nat)(env:Env)(sn:List Seen)(i:Nat)(o:Op)(v:AV)(H':AH)(K:List Seen->Rs):Rs:=
 bif xE (cls B.X o)then zMX (masks.getD i 0) H' (K sn) sn
 else bif vE B.X o then K (sn++[⟨i,zNm B env o,v⟩])else K sn
def zHX (B:Tb)(D:Dyn)(nt:Nat)(masks:Option (List Nat))(K:List Seen->Env->AH->Rs):List (Nat×Oper)->List Seen->Env->AH->Rs
 | [],sn,env,H=>K sn env H
 | (i,o)::rest,sn,env,H=>opK B D env H (fun v H'=>match masks with
   | none=>setE nt env o.dst v fun env'=>zHX B D nt masks K rest sn env' H'
   | some ms=>zLc B ms env sn i o.op v H' fun sn=>setE nt env o.dst v fun env'=>zHX B D nt masks K rest sn env' H') o.op
def zLT (nt:Nat)(ops:Array Oper)(j:Nat)(run:List (Nat×Oper)):Bool:=match zEy ops.toList j with
 | some p=>match p.dst with
  | some d=> !(dstsOf run).contains d&&(dstsOf run).all fun d=>Nat.blt d nt
  | none=>false
 | none=>false
def zA4 (X:Cx)(masks:Option (List Nat))(sn:List Seen)(H:AH)(K:Rs):List (Nat×Oper)->Rs
 | []=>K
 | b::run=>match masks with
  | none=>zA4 X masks sn H K run
  | some ms=>bif xE (cls X b.2.op)then zMX (ms.getD b.1 0) H (zA4 X masks sn H K run) sn else zA4 X masks sn H K run
def runK (B:Tb)(D:Dyn)(nt:Nat)(ops:Array Oper)(masks:Option (List Nat))(g:AV)(a:Bool)(run:List (Nat×Oper))(out:List Nat)(sn:List Seen)(env:Env)(H:AH)(K:Env->AH->Rs):Rs:=
 jn (wnt g a (zHX B D nt masks (fun _ env H=>pck out env fun vs=>some (.norm vs,H)) run sn env H)
   (zA4 B.X masks sn H (some (.norm (out.map fun _=>jU),H)) run))
  fun vs H=>unp out vs (UP (dstsOf run) env) fun env=>K env H
def runW (B:Tb)(D:Dyn)(nt:Nat)(masks:Option (List Nat))(g:AV)(a:Bool)(run:List (Nat×Oper))(out:List Nat)(sn:List Seen)(env:Env)(H:AH)(K:List Seen->Env->AH->Rs):Rs:=
 wnt g a (zHX B D nt masks K run sn env H)
  (zA4 B.X masks sn H (unp out (out.map fun _=>jU) (UP (dstsOf run) env) fun env=>K sn env H) run)
def zCK (B:Tb)(D:Dyn)(nt:Nat)(ops:Array Oper)(masks:Option (List Nat))(f:Nat)(K:Env->AH->Rs):List (Nat×Oper)->List Seen->Env->AH->Rs:=
 Nat.rec (motive:=fun _=>List (Nat×Oper)->List Seen->Env->AH->Rs) (fun _ _ _ _=>none)
  (fun _ a l sn env H=>match l with
   | []=>K env H
   | (i,o)::rest=>match o.guard with
    | none=>zHX B D nt masks (fun sn env H=>a rest sn env H) [(i,o)] sn env H
    | some (j,want)=>match zGa ops env j with
     | none=>none
     | some g=>match zA2 o.guard rest with
      | (run,rest)=>bif zLT nt ops j ((i,o)::run)then
        bif zLf B.X masks ((i,o)::run) rest then
         runK B D nt ops masks g want ((i,o)::run) (QK ops ((i,o)::run) rest) sn env H fun env H=>a rest sn env H
        else runW B D nt masks g want ((i,o)::run) (QK ops ((i,o)::run) rest) sn env H fun sn env H=>a rest sn env H
       else none) f
def idx (l:List Oper):Nat->List (Nat×Oper):=match l with
 | []=>fun _=>[]
 | o::l=>fun n=>(n,o)::idx l (n+1)
def zMM (B:Tb)(D:Dyn)(nt:Nat)(ops:Array Oper)(a:Bool)(K:Env->AH->Rs)(env:Env)(H:AH):Rs:=
 bif a then
  match plan B.X ops with
  | some (row,masks)=>zCK B D nt ops (some masks) (Nat.succ row.length) K row [] env H
  | none=>none
 else zCK B D nt ops none (Nat.succ ops.size) K (idx ops.toList 0) [] env H
inductive Hint where
 | o
 | s (a b:Hint)
 | c (L:List Nat) (a b:Hint)
 | cl (a b:Hint)
 | cr (a b:Hint)
 | b (L:List Nat) (a:Hint)
 | b0 (a:Hint)
 | l (L:List Nat) (a:Hint)
 | rf (s:Nat) (L:List Nat)
 | t (L:List Nat) (m:List AV->AH->Option AH)
def uE (Bk:List (Nat×List Nat))(id:Nat):Option (List Nat):=match Bk with
 | []=>none
 | (i,L)::r=>bif Nat.beq i id then some L else uE r id
def zEm (Bk:List (Nat×List Nat))(id:Nat):List (Nat×List Nat):=Bk.filter fun x=> !Nat.beq x.1 id
def resE (X:Cx)(env:Env)(H:AH):ResultVar->Option AV
 | .tmp t=>env t
 | .cell a t=>q1 (env a) (zEN X t · H)
def zML (X:Cx)(rs:List ResultVar)(env:Env)(H:AH)(K:List AV->Rs):Rs:=match rs with
 | []=>K []
 | r::rs=>bV (resE X env H r) fun v=>zML X rs env H fun vs=>K (v::vs)
def tupV:List AV->AV
 | [v]=>v
 | vs=> .tuple vs
def zIo (X:Cx)(rs:List ResultVar)(env:Env)(H:AH):Rs:=zML X rs env H fun vs=>some (.ret (tupV vs),H)
def rfC (S:List (Nat×(List AV->AH->Option (AV×AH))))(D:Dyn)(f:AV)(A:Nat)(H:AH):Option (AV×AH):=match f with
 | .func g first cap=>zBh S D g (first++[.yT A]++cap) H
 | _=>none
def fV (A:Nat)(H:AH)(K:AH->Rs):Rs:=match H.h.get A with
 | some (.loop l)=>match l.state with
  | .ready=>match fF H A (.loop { l with state:= .busy})with
   | some H'=>K H'
   | none=>none
  | _=>none
 | _=>none
def BK (A:Nat)(a:Option Code)(H:AH):Option (AV×AH):=match H.h.get A with
 | some (.loop l)=>match a with
  | none=>match fF H A (.loop { l with state:= .ready,pending:=none})with
   | some H'=>some (.bool true,H')
   | none=>none
  | some j=>match fF H A (.loop { l with state:= .done,pending:=some j})with
   | some H'=>some (.bool false,H')
   | none=>none
 | _=>none
def zKA (A:Nat)(x:Rs):Option (AV×AH):=match x with
 | some (.norm _,H)=>BK A none H
 | some (.exit id _,H)=>BK A (some (.exit id)) H
 | some (.ret _,H)=>BK A (some .ret) H
 | none=>none
def cS (A:Nat)(H:AH)(K:Option Code->AH->Rs):Rs:=match H.h.get A with
 | some (.loop l)=>match l.state with
  | .busy=>none
  | _=>match fF H A .dead with
   | some H'=>K l.pending H'
   | none=>none
 | _=>none
def zEc (j:Option Code)(a:Rs)(f:Nat->Rs)(h:Rs):Rs:=match j with
 | none=>a
 | some (.exit id)=>f id
 | some .ret=>h
 | _=>none
def exS (Bk:List (Nat×List Nat))(env:Env)(H:AH)(id:Nat):Rs:=match Bk with
 | []=>none
 | (i,L)::r=>bif Nat.beq i id then(pck L env fun vs=>some (.exit id vs,H))else exS r env H id
def zI5 (nt:Nat)(h:List Nat)(f:List AV)(env:Env)(K:Env->Rs):Rs:=match h with
 | []=>nl f (K env)
 | p::h=>hd f fun a f=>bif Nat.blt p nt then zI5 nt h f (upd env p a) K else none
def tld (x:Option AH)(N:Nat)(K:AH->Rs):Rs:=match x with
 | some H=>bif Nat.ble N H.next then K H else none
 | none=>none
def kK (B:Tb)(D:Dyn)(n nt:Nat)(rs:List ResultVar)(f0:FuncId)(ro:Bool):Code->Hint->List (Nat×List Nat)->(Env->AH->Rs)->Env->AH->Rs
 | .skip,_,_,K,env,H=>K env H
 | .label _,_,_,K,env,H=>K env H
 | .region _ ops draw,_,_,K,env,H=>zMM B D nt ops draw K env H
 | .seq a b, .s ha hb,Bk,K,env,H=>kK B D n nt rs f0 ro a ha Bk (kK B D n nt rs f0 ro b hb Bk K) env H
 | .seq _ _, .t L m,_,K,env,H=>pck L env fun vs=>tld (m vs H) H.next fun H=>unp L vs uN fun env=>K env H
 | .cond c a b, .c L ha hb,Bk,K,env,H=>match opd env c with
  | some v=>jn (cnd v (kK B D n nt rs f0 ro a ha Bk (fun env H=>pck L env fun vs=>some (.norm vs,H)) env H)
    (kK B D n nt rs f0 ro b hb Bk (fun env H=>pck L env fun vs=>some (.norm vs,H)) env H)) fun vs H=>unp L vs uN fun env=>K env H
  | none=>none
 | .cond c a b, .cl ha hb,Bk,K,env,H=>match opd env c with
  | some v=>cnd v (kK B D n nt rs f0 ro a ha Bk (fun _ _=>none) env H) (kK B D n nt rs f0 ro b hb Bk K env H)
  | none=>none
 | .cond c a b, .cr ha hb,Bk,K,env,H=>match opd env c with
  | some v=>cnd v (kK B D n nt rs f0 ro a ha Bk K env H) (kK B D n nt rs f0 ro b hb Bk (fun _ _=>none) env H)
  | none=>none
 | .block id b, .b L hb,Bk,K,env,H=>
  jb id (kK B D n nt rs f0 ro b hb ((id,L)::Bk) (fun env H=>pck L env fun vs=>some (.norm vs,H)) env H) fun vs H=>unp L vs uN fun env=>K env H
 | .block id b, .b0 hb,Bk,K,env,H=>kK B D n nt rs f0 ro b hb (zEm Bk id) K env H
 | .loop b, .l L hb,Bk,_,env,H=>pck L env fun vs=>
  kL n (fun vs H=>unp L vs uN fun env=>kK B D n nt rs f0 ro b hb Bk (fun env H=>pck L env fun vs=>some (.norm vs,H)) env H) vs H
 | .exit id,_,Bk,_,env,H=>match uE Bk id with
  | some L=>pck L env fun vs=>some (.exit id vs,H)
  | none=>none
 | .ret,_,_,_,env,H=>zIo B.X rs env H
 | .rangeFunc f _ _ _, .rf s L,Bk,K,env,H=>bif ro then none else match opd env f with
  | some fv=>pck L env fun vs=>U7 H (.loop ⟨.ready,none,f0,s,L,vs⟩) fun A H=>bR (rfC B.S D fv A H) fun _ H=>
    cS A H fun j H=>zEc j (K env H) (exS Bk env H) (zIo B.X rs env H)
  | none=>none
 | _,_,_,_,_,_=>none
def fG (x:Rs):Option (AV×AH):=match x with | some (.ret v,H)=>some (v,H) | _=>none
def rdK (B:Tb)(D:Dyn)(n:Nat)(f0:FuncId)(nt:Nat)(h:Array Tmp)(a body:Code)(L f:List Nat)(j hb:Hint)(A:Nat)(l:ALoop)(m:List AV)(H:AH):Option (AV×AH):=
 bif YO L l.live then
  zKA A (unp L l.vals uN fun env=>zI5 nt h.toList m env fun env=>
   kK B D n nt [] f0 true a j [] (fun env H=>fV A H fun H=>kK B D n nt [] f0 true body hb (f.map fun i=>(i,[])) (fun _ H=>some (.norm [],H)) env H) env H)
 else none
def zMK (B:Tb)(D:Dyn)(n:Nat)(f0:FuncId)(s:Nat)(L a:List Nat)(f hb:Hint)(A:Nat)(l:ALoop)(h:List AV)(H:AH):Option (AV×AH):=
 match VX f0 s with
 | some (nt,ps,asg,body)=>rdK B D n f0 nt ps asg body L a f hb A l h H
 | none=>none
def U2 (t:List ((Nat×Nat)×(Nat->ALoop->List AV->AH->Option (AV×AH))))(A:Nat)(a:List AV)(H:AH):Option (AV×AH):=
 match H.h.get A with
 | some (.loop l)=>go l t
 | _=>none
where go (l:ALoop):List ((Nat×Nat)×(Nat->ALoop->List AV->AH->Option (AV×AH)))->Option (AV×AH)
 | []=>none
 | ((f,s),m)::t=>bif Nat.beq f l.fn&&Nat.beq s l.site then m A l a H else go l t
def zLS (B:Tb)(D:Dyn)(n:Nat)(f0:FuncId)(a:Func)(h:Hint)(f:List AV)(H:AH):Option (AV×AH):=
 match a.body with
 | some body=>bif Nat.ble (a.params.size+a.nfree) a.ntmps then fG (zMH (a.params.size+a.nfree) 0 f uN fun env=>kK B D n a.ntmps a.results.toList f0 false body h [] (fun env H=>zIo B.X a.results.toList env H) env H)else none
 | none=>none
end Go.Eng
end
end
section
namespace Go.Eng
theorem wJ {K:AV->Rs}{out:Ex×AH}(h:bV J K=some out): ∃v,J=some v/\K v=some out:=by
 cases J with
 | none=>exact absurd h (by simp[bV])
 | some v=>exact⟨_,rfl,h⟩
theorem fR {x:Option (AV×AH)}{K:AV->AH->Rs}{out:Ex×AH}(h:bR x K=some out): ∃v H,x=some (v,H)/\K v H=some out:=by
 cases x with
 | none=>exact absurd h (by simp[bR])
 | some p=>obtain⟨v,H⟩:=p;exact⟨_,_,rfl,h⟩
theorem Y3 {K:AV->AH->Rs}{out:Ex×AH}(h:bA j n K=some out): ∃v H',wA n j=some (v,H')/\K v H'=some out:=by
 unfold bA at h;split at h
 .rename_i o i;unfold U7 at h;split at h
  .rename_i a;split at h
   .rename_i t f;rw[kI]at h;refine⟨_,_, ?_,h⟩;simp only[wA,newA,a,zID,f]
   .simp at h
  .simp at h
 .simp at h
theorem wZ {α:Type}{f:AV->Option α}{r:α}(h:q1 J f=some r): ∃a,J=some a/\f a=some r:=by
 unfold q1 at h;split at h
 .exact⟨_,rfl,h⟩
 .simp at h
theorem vO {α:Type}{y:Option AV}{f:AV->AV->Option α}{r:α}(h:q2 J y f=some r): ∃a b,J=some a/\y=some b/\f a b=some r:=by
 unfold q2 at h;split at h
 .split at h
  .exact⟨_,_,rfl,rfl,h⟩
  .simp at h
 .simp at h
section
variable {X:Cx}
theorem dZ {q:Option Bool}(a:gK u q=some h): ∃b,q=some b/\((u= .eql/\mkB b=some h)\/(u= .neq/\mkB (!b)=some h)):=by
 unfold gK at a;split at a
 .split at a
  .exact⟨_,rfl, .inl ⟨rfl,a⟩⟩
  .exact⟨_,rfl, .inr ⟨rfl,a⟩⟩
  .simp at a
 .simp at a
theorem cP (t:aeq X 9 k h p=some U)(a:(u= .eql/\mkB U=some L)\/(u= .neq/\mkB (!U)=some L)):zBv X u k h p=some L:=by
 unfold zBv;rcases a with⟨rfl,a⟩ | ⟨rfl,a⟩<;>simp only[t,a]
theorem zKx (m:zC3 k X.fl=some A)(i:gK u (eqA A h p)=some L):zHN X u k h p=some L:=by
 obtain⟨b,hb,f⟩:=dZ i;unfold eqA at hb;split at hb
 .rename_i a;split at hb
  .rename_i c;rw[zG]at hb;split at hb
   .rename_i o;show zHM X u k a c=some L;simp only[zHM,m,o,zU,hb];rcases f with⟨rfl,f⟩ | ⟨rfl,f⟩
    .exact f
    .exact f
   .simp at hb
  .simp at hb
 .simp at hb
theorem zEZ (t:zMI X u k h p=some L):zHN X u k h p=some L:=by
 unfold zMI at t;split at t
 .unfold kO at t;split at t
  .split at t
   .exact t
   .simp at t
  .simp at t
 .unfold J6 at t;split at t
  .split at t
   .exact t
   .simp at t
  .simp at t
 .rename_i f;unfold YP at t;split at t
  .rename_i a;split at t
   .rename_i b;have o:aeq X 9 k (.bool a) (.bool b)=some (a==b):=by simp only[aeq,f]
    show(bif wP (.bool a)then zBv X u k (.bool a) (.bool b)else none)=some L;simp only[wP,zU];split at t
    .exact cP o (.inl ⟨rfl,t⟩)
    .exact cP o (.inr ⟨rfl,t⟩)
    .simp at t
   .simp at t
  .simp at t
 .rename_i e f;split at t
  .simp at t
  .rename_i n v x;obtain⟨b,hb,i⟩:=dZ t;have key: ∀h p,eqP h p=some b->aeq X 9 k h p=some b/\wP h=true:=by
    intro h p hb;unfold eqP at hb;split at hb
    .split at hb<;>simp_all [aeq,f,wP]
    .split at hb
     .simp_all [aeq,f,wP]
     .simp only[aeq,f,x,wP];exact⟨hb,trivial⟩
     .simp at hb
    .simp at hb
   obtain⟨k1,k2⟩:=key h p hb;have k3:=cP k1 i;unfold zHN;split
   .simp[wP]at k2
   .simp[wP]at k2
   .simp[wP]at k2
   .rw[k2];exact k3
  .simp at t
 .rename_i e f;obtain⟨b,hb,i⟩:=dZ t;have key:aeq X 9 k h p=some b/\wP h=true:=by
   unfold eqS at hb;split at hb
   .split at hb<;>simp_all [aeq,f,wP]
   .split at hb<;>simp_all [aeq,f,wP]
   .simp at hb
  obtain⟨k1,k2⟩:=key;have k3:=cP k1 i;unfold zHN;split
  .simp[wP]at k2
  .simp[wP]at k2
  .simp[wP]at k2
  .rw[k2];exact k3
 .rename_i q s f;obtain⟨b,hb,i⟩:=dZ t;have key:aeq X 9 k h p=some b/\wP h=true:=by
   unfold eqM at hb;split at hb
   .split at hb<;>simp_all [aeq,f,wP]
   .split at hb<;>simp_all [aeq,f,wP]
   .simp at hb
  obtain⟨k1,k2⟩:=key;have k3:=cP k1 i;unfold zHN;split
  .simp[wP]at k2
  .simp[wP]at k2
  .simp[wP]at k2
  .rw[k2];exact k3
 .rename_i q s z f;obtain⟨b,hb,i⟩:=dZ t;have key:aeq X 9 k h p=some b/\wP h=true:=by
   unfold eqF at hb;split at hb
   .split at hb<;>simp_all [aeq,f,wP]
   .split at hb<;>simp_all [aeq,f,wP]
   .simp at hb
  obtain⟨k1,k2⟩:=key;have k3:=cP k1 i;unfold zHN;split
  .simp[wP]at k2
  .simp[wP]at k2
  .simp[wP]at k2
  .rw[k2];exact k3
 .split at t
  .rename_i j m;exact zKx m t
  .simp at t
 .split at t
  .rename_i j m;exact zKx m t
  .simp at t
 .simp at t
theorem zCx (t:zI8 X u k h p n=some L):BD X u k h p n=some L:=by
 unfold zI8 at t;split at t
 .rename_i e i;split at t
  .simp at t
  .rename_i y s j;have I:y≠0:=fun v=>s (by rw[v])
   obtain⟨m,rfl⟩: ∃m,y=m+1:=⟨y - 1,by omega⟩;have z:zMI X u k h p=gK u (eqP h p):=by simp only[zMI,i,j]
   have key:zMI X u k h p=some L\/ ∃A o B x,h= .ptr A o/\p= .ptr B x/\Nat.beq A B=false/\ZN A n=true/\ZN B n=true/\gK u (some false)=some L:=by
    rw[z]
    cases h<;>cases p<;>simp only[zMS]at t<;>first | exact .inl t | (simp[gK]at t;done) | skip
    rename_i A o B x
    cases f:Nat.beq A B with
    | true=>left;simp only[f,zU,eqP]at t⊢;exact t
    | false=>
     simp only[f,yM]at t
     cases hl:(ZN A n&&ZN B n)with
     | true=>
      rw[hl]at t;simp only[zU]at t;rw[zF]at hl;exact .inr ⟨A,o,B,x,rfl,rfl,f,hl.1,hl.2,t⟩
     | false=>rw[hl]at t;simp[gK]at t
   rcases key with C | ⟨A,o,B,x,rfl,rfl,f,F,G,q⟩
   .unfold BD;rw[zEZ C]
   .have a:zHN X u k (.ptr A o) (.ptr B x)=none:=by
     show(bif wP (.ptr A o)then zBv X u k (.ptr A o) (.ptr B x)else none)=none;simp only[wP,zU];unfold zBv
     cases u<;>simp only[aeq,i,j,f,yM]
    unfold BD;rw[a];simp only[i,j,pNe,F,G,f,Bool.not_false,qO,zU]
    cases u<;>first | exact q | (simp[gK]at q;done)
  .simp at t
 .simp at t
theorem VQ (t:zEN X k h n=some p):WC X k h n=some p:=by
 unfold zEN at t;split at t
 .rename_i d hd;rw[zG]at t;split at t
  .rename_i a;split at t
   .rename_i r i;unfold ldN at t;split at t
    .split at t
     .rename_i f;simp only[WC,f,hd,a,zU,i];exact t
     .simp at t
    .simp at t
   .simp at t
  .rename_i a;unfold ld1 at t;split at t
   .split at t
    .rename_i f;simp only[WC,f,hd,yA.2 a,yM];exact t
    .simp at t
   .simp at t
 .simp at t
theorem zEL (t:zEM X k h p n=some (L,E)):V2 X k (some h) (some p) n=some (L,E):=by
 unfold zEM at t;split at t
 .rename_i x a;unfold stN at t;split at t
  .split at t
   .rename_i f;rw[zG]at t;split at t
    .rename_i i;split at t
     .rename_i j;split at t
      .rename_i hp;simp only[V2,zBm,f,a,i,zU,j,hp];exact t
      .simp at t
     .simp at t
    .simp at t
   .simp at t
  .simp at t
 .simp at t
theorem zET (d:zEU X k W h=some p):VH X k W h=some p:=by
 unfold zEU at d;split at d
 .simp at d
 .rename_i f a;split at d
  .rename_i s hd;unfold cvI at d;split at d
   .simp only[VH,a,hd];exact d
   .simp at d
  .rename_i hd;split at d
   .unfold zMW at d;split at d
    .simp only[VH,a,hd];exact d
    .simp at d
   .simp at d
  .simp at d
theorem BU (s:zCw X k W h n=some p):YJ X k W h n=some p:=by
 unfold zCw at s;split at s
 .rename_i e a;split at s
  .rename_i hd;split at s
   .rename_i f;simp only[YJ,a,hd,f];exact s
   .simp at s
  .simp at s
 .simp at s
theorem zEV (s:zEW X k W h=some e):zBt X k W h=some e:=by
 unfold zEW at s;split at s
 .rename_i a;split at s
  .rename_i d hd;split at s
   .rename_i f;simp only[zBt,a,hd,f];exact s
   .simp at s
  .simp at s
 .simp at s
theorem BT {hi q:Option AV}(t:zCv X k h J hi q n=some p):aC X k h J hi q n=some p:=by
 unfold zCv at t;split at t
 .rename_i a;split at t
  .unfold WL at t;split at t
   .rename_i o x f i;split at t
    .have j:kX none=some none:=rfl;simp only[aC,f,i,j,a];exact t
    .simp at t
   .simp at t
  .simp at t
 .rename_i e a;split at t
  .rename_i sz m;unfold vD at t;split at t
   .rename_i o x s f i j;split at t<;>first | (simp only[aC,f,i,j,a,m];exact t) | (simp at t;done)
   .simp at t
  .simp at t
 .rename_i r e a;split at t
  .rename_i sz m;unfold xM at t;split at t
   .rename_i o x s f i j;split at t<;>first | (simp only[aC,f,i,j,a,m];exact t) | (simp at t;done)
   .simp at t
  .simp at t
 .rename_i arr a;split at t
  .rename_i r e u;split at t
   .rename_i sz m;unfold xM at t;split at t
    .rename_i o x s f i j;split at t<;>first | (simp only[aC,f,i,j,a,u,m];exact t) | (simp at t;done)
    .simp at t
   .simp at t
  .simp at t
 .simp at t
theorem zDT (x:zBE X k h p=some L):bB X k h p=some L:=by
 unfold zBE at x;split at x
 .rename_i n e f;split at x
  .rename_i sz a;unfold vU at x;split at x
   .rename_i t j;split at x
    .simp only[bB,j,f,a];exact x
    .simp at x
   .simp at x
  .simp at x
 .rename_i e f;split at x
  .rename_i sz a;unfold gY at x;split at x
   .rename_i t j;split at x
    .simp only[bB,j,f,a];exact x
    .simp at x
   .simp at x
  .simp at x
 .simp at x
theorem zEP (x:zEQ X k h p=some L):WD X k h p=some L:=by
 unfold zEQ at x;split at x
 .rename_i f;unfold KD at x;split at x
  .rename_i t a;split at x
   .simp only[WD,a,f];exact x
   .simp at x
  .simp at x
 .rename_i n e f;split at x
  .rename_i d sz hd m;rw[zG]at x;split at x
   .rename_i j;unfold zEd at x;split at x
    .rename_i t a;split at x
     .simp only[WD,a,f,hd,m,j,zU];exact x
     .simp at x
    .simp at x
   .rename_i j;unfold zAA at x;split at x
    .rename_i t a;split at x
     .simp only[WD,a,f,hd,m,yA.2 j,yM];exact x
     .simp at x
    .simp at x
  .simp at x
 .simp at x
theorem zER (t:zES X k h i=some p):VE X k h i=some p:=by
 unfold zES at t;split at t
 .rename_i fs x;split at t
  .rename_i fl j;split at t
   .rename_i d n hd m;rw[zG]at t;split at t
    .rename_i a;unfold fdN at t;split at t
     .simp only[VE,x,j,hd,m,a,zU];exact t
     .simp at t
    .rename_i a;unfold fd1 at t;split at t
     .simp only[VE,x,j,hd,m,yA.2 a,yM];exact t
     .simp at t
   .simp at t
  .simp at t
 .simp at t
theorem VS (t:QB X k h i=some p):fC X k h i=some p:=by
 unfold QB at t;split at t
 .rename_i fs a;split at t
  .rename_i fl x;split at t
   .simp at t
   .rename_i n m j;unfold fAd at t;split at t
    .simp only[fC,a,x,j];exact t
    .simp at t
   .simp at t
  .simp at t
 .simp at t
theorem zEO (t:tLen X k h n=some p):zCk X k h n=some p:=by
 unfold tLen at t;split at t
 .rename_i f;unfold KA at t;split at t
  .simp only[zCk,f];exact t
  .simp at t
 .rename_i e f;unfold lnSl at t;split at t<;>first | (simp only[zCk,f];exact t) | (simp at t;done)
 .rename_i x e f;simp only[zCk,f];exact t
 .rename_i a b f;unfold ZM at t;split at t
  .simp only[zCk,f];exact t
  .split at t
   .rename_i i;rw[kI]at t;simp only[zCk,f,i];exact t
   .simp at t
  .simp at t
 .simp at t
theorem zI7 (t:zKW X k h p n=some (L,E)):zEv X k h p n=some (L,E):=by
 unfold zKW at t;split at t
 .rename_i e f;split at t
  .rename_i sz a;simp only[zEv,f,a];exact t
  .simp at t
 .simp at t
theorem zEX (t:zEY X k (uK l a.toList)=some h):Y9 X l k a=some h:=by
 unfold zEY at t;split at t
 .rename_i z i;split at t
  .rename_i o hp;split at t
   .rename_i fs env;split at t
    .rename_i p j;simp only[Y9,i,hp,env,j];exact t
    .simp at t
   .rename_i n e env;split at t
    .rename_i sz m;simp only[Y9,i,hp,env,m];exact t
    .simp at t
   .simp at t
  .simp at t
 .simp at t
theorem zKX (arr:tArr X k h=some p):zNp X k h=some p:=by
 unfold tArr at arr;split at arr
 .rename_i n e a;unfold s2a at arr;split at arr
  .simp only[zNp,a];exact arr
  .simp at arr
 .simp at arr
theorem zDU (h:zBF X k i (uK l a.toList)=some e):Z4 X l k i a=some e:=by
 unfold zBF at h;split at h
 .rename_i t env;split at h
  .rename_i m hp;split at h
   .rename_i sz f;split at h
    .rename_i z j;simp only[Z4,env,hp,f,j];exact h
    .simp at h
   .simp at h
  .simp at h
 .simp at h
theorem zI6 (t:zKV X k h p=some e):VI X k (some h) (some p)=some e:=by
 unfold zKV at t;split at t
 .rename_i l j;split at t
  .rename_i o i;split at t
   .rename_i z m;rw[zG]at t;split at t
    .rename_i f;unfold zFR at t;split at t
     .split at t
      .rw[zG]at t;split at t
       .rename_i a;simp only[VI,j,i,m];simp only[zF]at f a;simp only[f.1,f.2,a.1.1,a.1.2,a.2,qO,zU];exact t
       .simp at t
      .simp at t
     .simp at t
    .simp at t
   .simp at t
  .simp at t
 .simp at t
theorem zKY (u:tApp X k W h p n=some (L,E)):dY X k W (some h) (some p) n=some (L,E):=by
 unfold tApp at u;split at u
 .rename_i e j;split at u
  .rename_i s i;split at u
   .rename_i f;rw[zG]at u;split at u
    .rename_i a;simp only[dY,f,fS,j,i,a,zU];exact u
    .simp at u
   .rename_i f;rw[zG]at u;split at u
    .rename_i a;simp only[dY,f,fS,j,i,a,zU];exact u
    .simp at u
   .rename_i t f;split at u
    .rename_i z o;rw[zG]at u;split at u
     .rename_i a;simp only[zF]at a;unfold apZ at u;split at u
      .rename_i x;rw[zG]at u;split at u
       .rename_i m;simp only[zF]at m;simp only[dY,f,zHO,j,i,o,a.1,a.2,m.1,m.2,zU,qO];exact u
       .simp at u
      .simp at u
     .simp at u
    .simp at u
   .simp at u
  .simp at u
 .simp at u
theorem zLn {α:Type}{y z:Option AV}{f:AV->AV->AV->Option α}{r:α}(h:q3 J y z f=some r): ∃a b c,J=some a/\y=some b/\z=some c/\f a b c=some r:=by
 unfold q3 at h;split at h
 .split at h
  .split at h
   .exact⟨_,_,_,rfl,rfl,rfl,h⟩
   .simp at h
  .simp at h
 .simp at h
theorem zJU (t:tLk X k U h p n=some L):zHz X k U h p n=some L:=by
 unfold tLk at t;split at t
 .rename_i a;split at t
  .rename_i f i;simp only[zHz,a,f,i];exact t
  .simp at t
 .simp at t
theorem zNa {r:AV}(t:tUp X k h p L n=some (r,E)):aup X k h p L n=some (r,E):=t
theorem zNb (t:tDl X k h p n=some (L,E)):adl X k h p n=some (L,E):=t
theorem zKU (h:tMkM X k=some e):aMap X k=some e:=h
end
def rOf (B:Tb)(D:Dyn):Fns:=⟨fun g a H=>zBh B.S D g a H,D.yld⟩
theorem aY {f:AV->Option AV}(x:J=some h)(k:f h=some p):b1 J f=some p:=by simp only[b1,x,k]
theorem B7 {y:Option AV}(x:J=some h)(i:y=some p)(k:z h p=some L):b2 J y z=some L:=by simp only[b2,x,i,k]
section
variable {B:Tb}{D:Dyn}{env:Env}{H:AH}
theorem vY (a:cls B.X G= .P)(o:aP B.X env G=some h):opF B.X (rOf B D) env H G=some (h,H):=by
 simp only[opF,a,o,wV]
theorem XA (a:cls B.X G= .L)(o:aL B.X env H G=some h):opF B.X (rOf B D) env H G=some (h,H):=by
 simp only[opF,a,o,wV]
theorem XC (a:cls B.X G= .A)(o:wA H (aA B.X env G)=some (h,n)):opF B.X (rOf B D) env H G=some (h,n):=by
 simp only[opF,a,o]
theorem XB (a:cls B.X G= .E)(o:aE B.X env H G=some (h,n)):opF B.X (rOf B D) env H G=some (h,n):=by
 simp only[opF,a,o]
theorem WT {y:Option (AObj×(Nat->AV))}(x:wA H j=some (h,n))(k: ∀r,j=some r->y=some r):wA H y=some (h,n):=by
 cases j with
 | none=>simp[wA]at x
 | some r=>rw[k r rfl];exact x
theorem zNq {K:AV->AH->Rs}{out:Ex×AH}(h:opK B D env H K G=some out): ∃v H',opF B.X (rOf B D) env H G=some (v,H')/\K v H'=some out:=by
 unfold opK at h;split at h
 ·
  rename_i x;split at h
  .rename_i v i;exact⟨v,H,vY rfl i,h⟩
  .simp at h
 .rename_i x;split at h
  .rename_i v i;exact⟨v,H,vY rfl i,h⟩
  .simp at h
 ·
  rename_i c a b;obtain⟨v,i,j⟩:=wJ h;refine⟨v,H,vY rfl ?_,j⟩;show zE5 env c a b=some v;unfold pk3 at i;unfold zE5;exact i
 ·
  obtain⟨v,i,j⟩:=wJ h;exact⟨v,H,vY rfl (zEX i),j⟩
 .obtain⟨v,i,j⟩:=wJ h;obtain⟨a,m,p⟩:=wZ i;exact⟨v,H,vY rfl (aY m p),j⟩
 ·
  rw[zG]at h;split at h
  .rename_i hp;obtain⟨v,i,j⟩:=wJ h;obtain⟨a,b,m,hb,p⟩:=vO i;exact⟨v,H,XA (by simp[cls,hp]) (B7 m hb (zCx p)),j⟩
  .rename_i hp;obtain⟨v,i,j⟩:=wJ h;obtain⟨a,b,m,hb,p⟩:=vO i;exact⟨v,H,vY (by simp[cls,hp]) (B7 m hb (zEZ p)),j⟩
 .obtain⟨v,i,j⟩:=wJ h;obtain⟨a,m,p⟩:=wZ i;exact⟨v,H,vY rfl (aY m p),j⟩
 ·
  split at h
  .rename_i a m;split at h
   .rename_i b hb;refine⟨_,H,vY rfl ?_,h⟩;show zE6 env _ _ _=_;simp only[zE6,m,hb]
   .simp at h
  .simp at h
 .obtain⟨v,i,j⟩:=wJ h;obtain⟨a,m,p⟩:=wZ i;exact⟨v,H,vY rfl (aY m (VS p)),j⟩
 .obtain⟨v,i,j⟩:=wJ h;obtain⟨a,m,p⟩:=wZ i;exact⟨v,H,vY rfl (aY m (zER p)),j⟩
 .obtain⟨v,i,j⟩:=wJ h;obtain⟨a,b,m,hb,p⟩:=vO i;exact⟨v,H,vY rfl (B7 m hb (zDT p)),j⟩
 .obtain⟨v,i,j⟩:=wJ h;obtain⟨a,b,m,hb,p⟩:=vO i;exact⟨v,H,vY rfl (B7 m hb (zEP p)),j⟩
 .obtain⟨v,i,j⟩:=wJ h;obtain⟨a,m,p⟩:=wZ i;exact⟨v,H,vY rfl (aY m (zKX p)),j⟩
 .obtain⟨v,i,j⟩:=wJ h;obtain⟨a,m,p⟩:=wZ i;exact⟨v,H,vY rfl (aY m p),j⟩
 ·
  obtain⟨v,i,j⟩:=wJ h;obtain⟨a,m,p⟩:=wZ i;exact⟨v,H,XA rfl (aY m (VQ p)),j⟩
 ·
  split at h
  .rename_i lo hi T I J L;obtain⟨v,i,j⟩:=wJ h;obtain⟨a,m,p⟩:=wZ i;refine⟨v,H,XA rfl ?_,j⟩;show cY _ _ _ _ _ _ _ _=_;simp only[cY,m,I,J,L];exact BT p
  .simp at h
 ·
  split at h
  .rename_i q;obtain⟨v,i,j⟩:=wJ h;obtain⟨a,m,p⟩:=wZ i;exact⟨v,H,vY q (aY m (zET p)),j⟩
  .rename_i q;obtain⟨v,i,j⟩:=wJ h;obtain⟨a,m,p⟩:=wZ i;exact⟨v,H,XA q (aY m (BU p)),j⟩
  .rename_i q;obtain⟨v,H',i,j⟩:=Y3 h;refine⟨v,H',XC q (WT i fun r hr=> ?_),j⟩;obtain⟨a,m,p⟩:=wZ hr;simp only[aA,m];exact zEV p
  .simp at h
 ·
  split at h
  .rename_i z N;obtain⟨v,H',i,j⟩:=Y3 h;refine⟨v,H',XC rfl (WT i fun r hr=> ?_),j⟩;simp only[aA,N,aA1];exact hr
  .simp at h
 .obtain⟨v,H',i,j⟩:=Y3 h;refine⟨v,H',XC rfl (WT i fun r hr=> ?_),j⟩;obtain⟨a,m,p⟩:=wZ hr;simp only[aA,m,aA1];exact p
 .obtain⟨v,H',i,j⟩:=Y3 h;exact⟨v,H',XC rfl (WT i fun r hr=>zDU hr),j⟩
 .obtain⟨v,H',i,j⟩:=Y3 h;refine⟨v,H',XC rfl (WT i fun r hr=> ?_),j⟩;obtain⟨a,b,m,hb,p⟩:=vO hr;simp only[aA,m,hb];exact zI6 p
 ·
  obtain⟨v,i,j⟩:=wJ h;obtain⟨a,b,m,hb,p⟩:=vO i;exact⟨v,H,XA rfl (B7 m hb (zJU p)),j⟩
 .obtain⟨v,H',i,j⟩:=Y3 h;exact⟨v,H',XC rfl (WT i fun r hr=>zKU hr),j⟩
 .obtain⟨v,H',i,j⟩:=fR h;obtain⟨a,b,c,m,hb,q,p⟩:=zLn i;refine⟨v,H',XB rfl ?_,j⟩;simp only[aE,m,hb,q,c3];exact zNa p
 ·
  obtain⟨v,H',i,j⟩:=fR h;obtain⟨a,b,m,hb,p⟩:=vO i;refine⟨v,H',XB rfl ?_,j⟩;simp only[aE,m,hb];exact zEL p
 ·
  rename_i c;obtain⟨Q,args,S⟩:=c;split at h
  .rename_i f q;simp only at q;subst q;obtain⟨v,H',i,j⟩:=fR h;refine⟨v,H', ?_,j⟩;unfold callO at i;split at i
   .rename_i U o;simp only at o;split at i
    .rename_i g;have e:opd env (.func g)=some (.func g [] []):=rfl;simp only[opF,cls,UV,opF.callO,e,o,opF.callV,rOf,yE,qW];exact i
    .split at i
     .rename_i t _ O M;have e:opd env (.tmp t)=some O:=M;unfold callV at i;split at i
      .simp only[opF,cls,UV,opF.callO,e,o,opF.callV,rOf];exact i
      .simp only[opF,cls,UV,opF.callO,e,o,opF.callV,rOf];exact i
      .simp at i
     .simp at i
    .simp at i
   .simp at i
  .rename_i q;simp only at q;subst q;split at h
   .rename_i x t ts C F;obtain⟨v,i,j⟩:=wJ h;obtain⟨a,m,p⟩:=wZ i;refine⟨v,H,XA rfl ?_,j⟩;simp only at C F;simp only[aL,C,F];exact aY m (zEO p)
   .simp at h
  .rename_i q;simp only at q;subst q;split at h
   .rename_i x t ts C F;obtain⟨v,i,j⟩:=wJ h;obtain⟨a,m,p⟩:=wZ i;refine⟨v,H,vY rfl ?_,j⟩;simp only at C F;simp only[aP,C,F];exact aY m p
   .simp at h
  .rename_i q;simp only at q;subst q;split at h
   .rename_i s x t u C F;obtain⟨v,H',i,j⟩:=fR h;obtain⟨a,b,m,hb,p⟩:=vO i;refine⟨v,H',XB rfl ?_,j⟩;simp only at C F;simp only[aE,uT,C,F,m,hb];exact zKY p
   .simp at h
  .rename_i q;simp only at q;subst q;split at h
   .rename_i s x t ts C F;obtain⟨v,H',i,j⟩:=fR h;obtain⟨a,b,m,hb,p⟩:=vO i;refine⟨v,H',XB rfl ?_,j⟩;simp only at C F;simp only[aE,uT,C,F,m,hb,zGT];exact zI7 p
   .simp at h
  .rename_i q;simp only at q;subst q;split at h
   .rename_i x y C;obtain⟨v,i,j⟩:=wJ h;obtain⟨a,b,m,hb,p⟩:=vO i;refine⟨v,H,vY rfl ?_,j⟩;simp only at C;simp only[aP,C];exact B7 m hb p
   .simp at h
  .rename_i q;simp only at q;subst q;split at h
   .rename_i x y C;obtain⟨v,i,j⟩:=wJ h;obtain⟨a,b,m,hb,p⟩:=vO i;refine⟨v,H,vY rfl ?_,j⟩;simp only at C;simp only[aP,C];exact B7 m hb p
   .simp at h
  .rename_i q;simp only at q;subst q;split at h
   .rename_i s x t ts C F;obtain⟨v,H',i,j⟩:=fR h;obtain⟨a,b,m,hb,p⟩:=vO i;refine⟨v,H',XB rfl ?_,j⟩;simp only at C F;simp only[aE,uT,C,F,m,hb,c2];exact zNb p
   .simp at h
  .rename_i q;simp only at q;subst q;split at h
   .rename_i s t ts C F;obtain⟨v,H',i,j⟩:=fR h;obtain⟨a,m,p⟩:=wZ i;refine⟨v,H',XB rfl ?_,j⟩;simp only at C F;simp only[aE,uT,C,F,m,c1];exact p
   .simp at h
  .simp at h
 .simp at h
end
def Le (env env2:Env):Prop:= ∀t x,look env t=some x->look env2 t=some x
theorem Le.refl (env:Env):Le env env:=fun _ _ h=>h
theorem Le.trans {c:Env}(h:Le l Y)(k:Le Y c):Le l c:=fun t x e=>k t x (h t x e)
theorem Le.upd {a b:Env}(h:Le a b)(d:Nat)(v:AV):Le (upd a d v) (upd b d v):=by
 intro t x e;simp only[look,bD]at e⊢;split
 .rename_i hd;rw[if_pos hd]at e;exact e
 .rename_i hd;rw[if_neg hd]at e;exact h t x e
theorem EnvR.le (h:EnvR s Y i F)(k:Le l Y):EnvR s l i F:=
 ⟨h.size,fun t x e=>h.get t x (k t x e),fun t f=>by
  cases e:look l t with
  | none=>rfl
  | some x=>have:=k t x e;rw[h.out t f]at this;simp at this⟩
section
variable {env env2:Env}(hl:Le env env2)
include hl
theorem kH (x:Operand)(a:AV)(h:opd env x=some a):opd env2 x=some a:=by
 cases x with
 | tmp t=>exact hl t a h
 | _=>exact h
theorem dG: ∀(xs:List Operand) (a:List AV),zBy env xs=some a->zBy env2 xs=some a
 | [],a,h=>h
 | x::xs,a,h=>by
  simp only[zBy]at h⊢;split at h
  .rename_i v vs i f;rw[kH hl x v i,dG xs vs f];exact h
  .simp at h
theorem QJ: ∀(xs:List (Nat×Operand)) (a:List (Nat×AV)),uK env xs=some a->uK env2 xs=some a
 | [],a,h=>h
 | (i,x)::xs,a,h=>by
  simp only[uK]at h⊢;split at h
  .rename_i v vs j f;rw[kH hl x v j,QJ xs vs f];exact h
  .simp at h
theorem QL (x:Option Operand)(a:Option AV)(h:fX env x=some a):fX env2 x=some a:=by
 cases x with
 | none=>exact h
 | some y=>
  simp only[fX]at h⊢;split at h
  .rename_i b hb;rw[kH hl y b hb];exact h
  .simp at h
theorem bJ {x:Operand}{f:AV->Option AV}(r:b1 (opd env x) f=some h):b1 (opd env2 x) f=some h:=by
 unfold b1 at r;split at r
 .rename_i a i;rw[kH hl x a i];exact r
 .simp at r
theorem aX {x y:Operand}(f:b2 (opd env x) (opd env y) z=some h):b2 (opd env2 x) (opd env2 y) z=some h:=by
 unfold b2 at f;split at f
 .rename_i a i;split at f
  .rename_i b hb;rw[kH hl x a i,kH hl y b hb];exact f
  .simp at f
 .simp at f
theorem zMA (X:aP Q env G=some h):aP Q env2 G=some h:=by
 unfold aP at X⊢;split at X
 .exact kH hl _ _ X
 .exact kH hl _ _ X
 .unfold zE5 at X⊢;split at X
  .rename_i f;rw[kH hl _ _ f];exact kH hl _ _ X
  .rename_i f;rw[kH hl _ _ f];exact kH hl _ _ X
  .simp at X
 .unfold Y9 at X⊢;split at X
  .rename_i z m;split at X
   .rename_i p i;rw[QJ hl _ _ i];exact X
   .simp at X
  .simp at X
 .exact bJ hl X
 .exact aX hl X
 .exact bJ hl X
 .exact bJ hl X
 .unfold zE6 at X⊢;split at X
  .rename_i a j;split at X
   .rename_i b hb;rw[dG hl _ _ j,dG hl _ _ hb];exact X
   .simp at X
  .simp at X
 .exact bJ hl X
 .exact bJ hl X
 .exact aX hl X
 .exact aX hl X
 .exact bJ hl X
 .exact bJ hl X
 .split at X
  .split at X
   .split at X
    .exact bJ hl X
    .simp at X
   .simp at X
  .split at X
   .exact aX hl X
   .simp at X
  .split at X
   .exact aX hl X
   .simp at X
  .simp at X
 .simp at X
theorem zHP (X:aL Q env n G=some h):aL Q env2 n G=some h:=by
 unfold aL at X⊢;split at X
 .exact bJ hl X
 .unfold cY at X⊢;split at X
  .rename_i a m;split at X
   .rename_i lo f;split at X
    .rename_i hi i;split at X
     .rename_i p j;rw[kH hl _ _ m,QL hl _ _ f,QL hl _ _ i,QL hl _ _ j];exact X
     .simp at X
    .simp at X
   .simp at X
  .simp at X
 .exact aX hl X
 .exact bJ hl X
 .exact aX hl X
 .split at X
  .split at X
   .split at X
    .exact bJ hl X
    .simp at X
   .simp at X
  .simp at X
 .simp at X
theorem zMD (h:aA Q env G=some e):aA Q env2 G=some e:=by
 unfold aA at h⊢;split at h
 .exact h
 .unfold aA1 at h⊢;split at h
  .rename_i a f;rw[kH hl _ _ f];exact h
  .simp at h
 .unfold Z4 at h⊢;split at h
  .rename_i X p;split at h
   .rename_i q i;simp only[QJ hl _ _ i];exact h
   .simp at h
  .simp at h
 .unfold VI at h⊢;split at h
  .rename_i n j;split at h
   .rename_i m hm;simp only[kH hl _ _ j,kH hl _ _ hm];exact h
   .simp at h
  .simp at h
 .split at h
  .rename_i a f;rw[kH hl _ _ f];exact h
  .simp at h
 .exact h
 .simp at h
theorem zMC {v:AV×AH}(h:aE Q env n G=some v):aE Q env2 n G=some v:=by
 unfold aE at h⊢;split at h
 .unfold V2 at h⊢;split at h
  .rename_i p hp;split at h
   .rename_i y i;rw[kH hl _ _ hp,kH hl _ _ i];exact h
   .simp at h
  .simp at h
 .unfold c3 at h⊢;split at h
  .rename_i a f;split at h
   .rename_i b hb;split at h
    .rename_i c j;rw[kH hl _ _ f,kH hl _ _ hb,kH hl _ _ j];exact h
    .simp at h
   .simp at h
  .simp at h
 .split at h
  .unfold uT at h⊢;split at h
   .split at h
    .split at h
     .unfold dY at h⊢;split at h
      .rename_i a f;split at h
       .rename_i b hb;simp only[kH hl _ _ f,kH hl _ _ hb];exact h
       .simp at h
      .simp at h
     .simp at h
    .simp at h
   .split at h
    .split at h
     .unfold zGT at h⊢;split at h
      .rename_i a f;split at h
       .rename_i b hb;simp only[kH hl _ _ f,kH hl _ _ hb];exact h
       .simp at h
      .simp at h
     .simp at h
    .simp at h
   .split at h
    .split at h
     .unfold c2 at h⊢;split at h
      .rename_i a f;split at h
       .rename_i b hb;simp only[kH hl _ _ f,kH hl _ _ hb];exact h
       .simp at h
      .simp at h
     .simp at h
    .simp at h
   .split at h
    .split at h
     .unfold c1 at h⊢;split at h
      .rename_i a f;simp only[kH hl _ _ f];exact h
      .simp at h
     .simp at h
    .simp at h
   .simp at h
  .simp at h
 .simp at h
theorem zIz {r:Fns}{v:AV×AH}(h:opF Q r env n G=some v):opF Q r env2 n G=some v:=by
 unfold opF at h⊢;split at h
 .rename_i i;unfold wV at h⊢;split at h
  .rename_i x f;simp only[i,zMA hl f];exact h
  .simp at h
 .rename_i i;unfold wV at h⊢;split at h
  .rename_i x f;simp only[i,zHP hl f];exact h
  .simp at h
 .rename_i i
  cases f:aA Q env G with
  | none=>rw[f]at h;simp[wA]at h
  | some x=>simp only[i,zMD hl f];rw[f]at h;exact h
 .exact zMC hl h
 .unfold opF.callO at h⊢;split at h
  .split at h
   .unfold opF.callV at h⊢;split at h
    .rename_i g a b m;split at h
     .rename_i p j;simp only[kH hl _ _ m,dG hl _ _ j];exact h
     .simp at h
    .rename_i A m;split at h
     .rename_i p j;simp only[kH hl _ _ m,dG hl _ _ j];exact h
     .simp at h
    .simp at h
   .simp at h
  .simp at h
end
theorem KG {K:AV->List AV->Rs}{out:Ex×AH}(h:hd I K=some out): ∃v l,I=v::l/\K v l=some out:=by
 cases I with
 | nil=>exact absurd h (by simp[hd])
 | cons v l=>exact⟨_,_,rfl,h⟩
def PK (env:Env):List Nat->List AV->Prop
 | [],vs=>vs=[]
 | l::L,vs=> ∃v vs',vs=v::vs'/\look env l=some v/\PK env L vs'
theorem wI: ∀ {L:List Nat} {env:Env} {K:List AV->Rs} {out:Ex×AH},pck L env K=some out-> ∃vs,PK env L vs/\K vs=some out
 | [],env,K,out,h=>⟨[],rfl,h⟩
 | l::L,env,K,out,h=>by
  simp only[pck]at h;split at h
  .rename_i v a;obtain⟨vs,f,i⟩:=wI h;exact⟨v::vs,⟨v,vs,rfl,a,f⟩,i⟩
  .simp at h
theorem Z7: ∀ {L:List Nat} {vs:List AV} {base:Env} {K:Env->Rs} {out:Ex×AH},unp L vs base K=some out-> ∀env,PK env L vs-> ∃env',K env'=some out/\ ∀t,(t∈L->look env' t=look env t)/\(t∉L->look env' t=look base t)
 | [],vs,base,K,out,h,env,_=>⟨base,h,fun t=>⟨fun h=>by simp at h,fun _=>rfl⟩⟩
 | l::L,vs,base,K,out,h,env,⟨v,vs',e,hv,hp⟩=>by
  subst e;simp only[unp,hd]at h;obtain⟨env',j,i⟩:=Z7 h env hp;refine⟨env',j,fun t=>⟨fun a=> ?_,fun a=> ?_⟩⟩
  .by_cases f:t∈L
   .exact(i t).1 f
   .rw[(i t).2 f];have:t=l:=by
              simp at a;rcases a with h | h
              .exact h
              .exact absurd h f
    subst this;simp only[look,bD,if_true];exact hv.symm
  .simp only[zO,not_or]at a;rw[(i t).2 a.2];simp only[look,bD,if_neg a.1]
theorem V3: ∀(L:List Nat) (env:Env) (t:Nat),look (UP L env) t=if t∈L then none else look env t
 | [],env,t=>by simp[UP]
 | l::L,env,t=>by
  have a:=V3 L env t;simp only[look]at a⊢;simp only[UP,zG,zX,zO,a];by_cases f:t=l<;>by_cases h:t∈L<;>simp[f,h]
theorem ZY {m:Nat}{H:AH}{K:Rs}{out:Ex×AH} : ∀ {sn:List Seen},zMX m H K sn=some out->K=some out/\ ∀s∈sn,m.testBit s.i=false->s.rd H=some s.v
 | [],h=>⟨h,by simp⟩
 | s::l,h=>by
  simp only[zMX,zEJ,zG]at h;split at h
  .rename_i hb;obtain⟨f,j⟩:=ZY h;refine⟨f,fun q a hm=> ?_⟩;rcases zO.1 a with rfl | a
   .rw[hb]at hm;simp at hm
   .exact j q a hm
  .unfold chk at h;split at h
   .rename_i y o;rw[zG]at h;split at h
    .rename_i p;obtain⟨f,j⟩:=ZY h;refine⟨f,fun q a hm=> ?_⟩;rcases zO.1 a with rfl | a
     .rw[o,Y4 _ _ p]
     .exact j q a hm
    .simp at h
   .simp at h
section
variable {B:Tb}{D:Dyn}{nt:Nat}{ops:Array Oper}
theorem zLl (hl:Le l Y)(hm:vE B.X G=true)(env:zNm B l G n=some h):aL B.X Y n G=some h:=by
 apply zHP hl;unfold zNm at env;split at env
 .obtain⟨a,f,i⟩:=wZ env;exact aY f (VQ i)
 .obtain⟨a,b,f,hb,i⟩:=vO env;exact B7 f hb (zJU i)
 .split at env
  .rename_i lo hi z q s u;obtain⟨a,f,i⟩:=wZ env;show cY _ _ _ _ _ _ _ _=_;simp only[cY,f,q,s,u];exact BT i
  .simp at env
 .obtain⟨a,f,i⟩:=wZ env;exact aY f (BU i)
 .obtain⟨a,b,f,hb,i⟩:=vO env;exact B7 f hb (zCx i)
 .rename_i c;split at env
  .rename_i x t ts p m;obtain⟨a,f,i⟩:=wZ env;simp only[vE]at hm;split at hm
   .rename_i y;simp only[aL,y,p,m];exact aY f (zEO i)
   .simp at hm
  .simp at env
 .simp at env
theorem zEt (X:zCk Q k h n=some p)(f: ∀a b,Q.und k≠some (.map a b))(i:AH):zCk Q k h i=some p:=by
 unfold zCk at X⊢;split at X<;>first | exact X | (rename_i j;exact absurd j (f _ _)) | (simp at X;done)
theorem zCA (i:cls B.X G= .L)(hm:vE B.X G=false)(env:aL B.X l n G=some h)(j:AH):aL B.X l j G=some h:=by
 unfold aL at env⊢;split at env
 .simp[vE]at hm
 .rename_i t x lo hi q;simp only[vE]at hm;unfold cY at env⊢;split at env
  .split at env
   .split at env
    .split at env
     .unfold aC at env⊢;split at env
      .rename_i a _ _ _ _ _ _ _ _ _ _ _;split at env
       .exact env
       .rename_i f _;simp[f]at hm
       .rename_i f _;simp[f]at hm
       .rename_i f _;simp[f]at hm
       .exact env
       .exact env
       .simp at env
      .simp at env
     .simp at env
    .simp at env
   .simp at env
  .simp at env
 .simp[vE]at hm
 .simp only[vE,isL]at hm;rw[i]at hm;simp at hm
 .simp only[vE]at hm;simp[cls,hm]at i
 .rename_i c;split at env
  .rename_i m;split at env
   .rename_i x s;split at env
    .rename_i t ts p;unfold b1 at env⊢;split at env
     .refine zEt env (fun a b f=> ?_) j;simp only[vE,m,p,f]at hm;simp at hm
     .simp at env
    .simp at env
   .simp at env
  .simp at env
 .simp at env
def zAE (ops:Array Oper)(o:Oper):Option Nat:=match o.guard with
 | none=>none
 | some (j,_)=>match zEy ops.toList j with
  | some p=>p.dst
  | none=>none
theorem BM (h: ∀d,zAE ops V=some d->look l d=look Y d):aD ops l V=aD ops Y V:=by
 unfold aD;unfold zAE at h;split
 .rfl
 .rename_i j f a;rw[a]at h;simp only at h;unfold zEB;split
  .rename_i p hp;rw[hp]at h;simp only at h;split
   .rename_i d hd;rw[h d hd]
   .rfl
  .rfl
def zJL (X:Cx)(ms:List Nat)(a b:Ent):Prop:=a.want=true->xE (cls X b.o.op)=true->(ms.getD b.i 0).testBit a.i=false->cls X a.o.op= .L->aL X a.env b.H' a.o.op=some a.v
def Tr (X:Cx)(ms:List Nat)(sn:List Seen)(pre:List Ent)(rest:List (Nat×Oper)):Prop:=
 ∀a∈pre,a.want=true->cls X a.o.op= .L->(∃s∈sn,s.i=a.i/\s.v=a.v/\ ∀H v,s.rd H=some v->aL X a.env H a.o.op=some v)\/(∀H,aL X a.env H a.o.op=some a.v)\/(∀b∈rest,xE (cls X b.2.op)=true->(ms.getD b.1 0).testBit a.i=true)
theorem Tr.see {sn:List Seen}(h:Tr Q A sn m N){b:Ent}(hb:(b.i,b.o)∈N)(p:xE (cls Q b.o.op)=true-> ∀s∈sn,(A.getD b.i 0).testBit s.i=false->s.rd b.H'=some s.v): ∀a∈m,zJL Q A a b:=by
 intro a q t X j hL;rcases h a q t hL with⟨s,u,f,x,y⟩ | f | f
 .have:=p X s u (by rw[f];exact j);rw[<-x];exact y _ _ this
 .exact f _
 .have:=f _ hb X;simp only at this;rw[this]at j;simp at j
theorem Tr.less {sn sn':List Seen}{rest':List (Nat×Oper)}(h:Tr Q A sn m N)(j: ∀s∈sn,s∈sn')(hr: ∀b∈rest',b∈N):Tr Q A sn' m rest':=by
 intro a X o hL;rcases h a X o hL with⟨s,i,f⟩ | f | f
 .exact .inl ⟨s,j s i,f⟩
 .exact .inr (.inl f)
 .exact .inr (.inr fun b hb=>f b (hr b hb))
theorem zA8 {K:Env->Rs}{out:Ex×AH}(env:setE nt l M h K=some out)(hl:Le l Y):
  ∃env' a,WJ nt Y M h=some a/\Le env' a/\K env'=some out:=by
 unfold setE at env;split at env
 .rename_i M;rw[zG]at env;split at env
  .rename_i hd;exact⟨_,_,by simp only[WJ,hd,zU],hl.upd M h,env⟩
  .simp at env
 .exact⟨_,_,rfl,hl,env⟩
theorem zDX {sn:List Seen}{K:List Seen->Rs}{out:Ex×AH}(ms:zLc B A l sn i G h n K=some out):
  ∃sn',K sn'=some out/\(∀s∈sn,s∈sn')/\(xE (cls B.X G)=true-> ∀s∈sn,(A.getD i 0).testBit s.i=false->s.rd n=some s.v)/\
   (xE (cls B.X G)=false->vE B.X G=true->(⟨i,zNm B l G,h⟩:Seen)∈sn'):=by
 unfold zLc at ms;simp only[zG]at ms;split at ms
 .rename_i a;obtain⟨f,j⟩:=ZY ms;exact⟨sn,f,fun _ ms=>ms,fun _=>j,fun ms=>by rw[a]at ms;simp at ms⟩
 .rename_i a;split at ms
  .exact⟨_,ms,fun s m=>by simp[m],fun ms=>absurd ms a,fun _ _=>by simp⟩
  .rename_i hm;exact⟨_,ms,fun _ ms=>ms,fun ms=>absurd ms a,fun _ ms=>absurd ms hm⟩
theorem JT (env:WJ nt l M h=some Y)(a:M≠some i):look Y i=look l i:=by
 rw[d9 env,if_neg a]
theorem uX {masks:Option (List Nat)}{K:List Seen->Env->AH->Rs}{out:Ex×AH}{rest:List (Nat×Oper)} : ∀(row:List (Nat×Oper)) (sn:List Seen) (env:Env) (H:AH) (f:Env) (pre:List Ent),
  zHX B D nt masks K row sn env H=some out->Le env f->(∀q∈row,aD ops f q.2=some true)->(∀q∈row,∀y∈row,∀d,q.2.dst=some d->zAE ops y.2≠some d)->
  (∀ms,masks=some ms->Tr B.X ms sn pre (row++rest))->
  ∃es envF HF sn' env',uJ B.X (rOf B D) nt ops f H es envF HF/\es.map (fun e=>(e.i,e.o))=row/\(∀e∈es,e.want=true)/\Le env' envF/\K sn' env' HF=some out/\
   (∀ms,masks=some ms->(∀a∈pre,∀b∈es,zJL B.X ms a b)/\es.Pairwise (zJL B.X ms)/\Tr B.X ms sn' (pre++es) rest)
 | [],sn,env,H,f,pre,h,hl,_,_,hT=>⟨[],f,H,sn,env,⟨rfl,rfl⟩,rfl,by simp,hl,h,fun ms j=>⟨by simp,List.Pairwise.nil,by simpa using hT ms j⟩⟩
 | (i,o)::row,sn,env,H,f,pre,h,hl,hw,hst,hT=>by
  simp only[zHX]at h;obtain⟨v,H',a1,C⟩:=zNq h;have L:=zIz hl a1;have N:=hw (i,o) (zJ ..);have W:zGN B.X (rOf B D) ops f H i o=some ⟨i,o,true,f,H,v,H'⟩:=by
   simp only at N;simp only[zGN,N,L]
  have Q: ∀(sn':List Seen) (env' m:Env),WJ nt f o.dst v=some m->Le env' m->zHX B D nt masks K row sn' env' H'=some out->
    (∀ms,masks=some ms->(∀s∈sn,s∈sn')/\(xE (cls B.X o.op)=true-> ∀s∈sn,(ms.getD i 0).testBit s.i=false->s.rd H'=some s.v)/\(xE (cls B.X o.op)=false->vE B.X o.op=true->(⟨i,zNm B env o.op,v⟩:Seen)∈sn'))->
    ∃es envF HF sn' env',uJ B.X (rOf B D) nt ops f H es envF HF/\es.map (fun e=>(e.i,e.o))=(i,o)::row/\(∀e∈es,e.want=true)/\Le env' envF/\K sn' env' HF=some out/\
     (∀ms,masks=some ms->(∀a∈pre,∀b∈es,zJL B.X ms a b)/\es.Pairwise (zJL B.X ms)/\Tr B.X ms sn' (pre++es) rest):=by
   intro sn' env' m M a2 Y O;obtain⟨es,envF,HF,a3,env2,c1,c2,c3,c4,c5,c6⟩:=uX row sn' env' H' m (pre++[⟨i,o,true,f,H,v,H'⟩]) Y a2
    (fun q u=>by
     rw[<-hw q (zE _ u)];exact BM fun d hd=>JT M (fun hc=>hst (i,o) (zJ ..) q (zE _ u) d hc hd))
    (fun q u y Z=>hst q (zE _ u) y (zE _ Z))
    (fun ms j=>by
     obtain⟨S,T,U⟩:=O ms j;have a4:=(hT ms j).less (sn':=sn') (rest':=row++rest) S (fun b hb=>by simp only[qF];exact zE _ hb);intro a p a5 t;rcases qB.1 p with p | p
     .exact a4 a p a5 t
     .simp only[yF]at p;subst p;simp only at t⊢;have a6:xE (cls B.X o.op)=false:=by rw[t];rfl
      have a7:aL B.X f H o.op=some v:=by
       have:=L;simp only[opF,t,wV]at this;split at this
       .rename_i x hx;simp only[zC,zT]at this;rw[hx,this.1]
       .simp at this
      cases z:vE B.X o.op with
      | true=>exact .inl ⟨_,U a6 z,rfl,rfl,fun H v hv=>zLl hl z hv⟩
      | false=>exact .inr (.inl fun H2=>zCA t z a7 H2))
   refine⟨⟨i,o,true,f,H,v,H'⟩::es,envF,HF,a3,env2,⟨rfl,rfl,W,m,M,c1⟩,by simp[c2], ?_,c4,c5,fun ms j=> ?_⟩
   .intro e F;rcases zO.1 F with rfl | F
    .rfl
    .exact c3 e F
   .obtain⟨S,T,U⟩:=O ms j;obtain⟨V,d2,d3⟩:=c6 ms j;have a0:=(hT ms j).see (b:=⟨i,o,true,f,H,v,H'⟩) (by simp) T;refine⟨fun a p b hb=> ?_,List.Pairwise.cons (fun b hb=>V _ (by simp) b hb) d2,by simpa using d3⟩;rcases zO.1 hb with rfl | hb
    .exact a0 a p
    .exact V a (qX _ p) b hb
  split at C
  .obtain⟨env',m,G,I,J⟩:=zA8 C hl;exact Q sn env' m G I J (fun ms j=>by simp at j)
  .rename_i ms;obtain⟨sn',k1,k2,k3,k4⟩:=zDX C;obtain⟨env',m,G,I,J⟩:=zA8 k1 hl;exact Q sn' env' m G I J (fun a8 j=>by injection j with j;subst j;exact⟨k2,k3,k4⟩)
theorem Y0 {X:Cx}{r:Fns} : ∀ {es:List Ent} {env:Env} {H:AH} {envF:Env} {HF:AH},uJ X r nt ops env H es envF HF-> ∀t,(∀e∈es,e.o.dst≠some t)->look envF t=look env t
 | [],_,_,_,_,h,t,_=>by rw[h.1]
 | e::es,env,H,envF,HF,⟨h1,h2,h3,env',h4,h5⟩,t,ht=>by
  rw[Y0 h5 t (fun q a=>ht q (zE _ a)),JT h4 (ht e (zJ ..))]
theorem c9 {X:Cx}{r:Fns} : ∀ {es f:List Ent} {env:Env} {H:AH} {a:Env} {h:AH} {envF:Env} {HF:AH},uJ X r nt ops env H es a h->uJ X r nt ops a h f envF HF->uJ X r nt ops env H (es++f) envF HF
 | [],_,_,_,_,_,_,_,⟨h1,h2⟩,k=>by subst h1 h2;exact k
 | e::es,f,env,H,a,h,envF,HF,⟨h1,h2,h3,env',h4,h5⟩,k=>⟨h1,h2,h3,env',h4,c9 h5 k⟩
theorem QH {H:AH} : ∀(run:List (Nat×Oper)) (f:Env),(∀a∈run,aD ops f a.2=some false)->(∀a∈run,∀u∈run,∀d,a.2.dst=some d->zAE ops u.2≠some d)->(∀a∈run,∀d,a.2.dst=some d->d<nt)->
  ∃es envF,uJ B.X (rOf B D) nt ops f H es envF H/\es.map (fun e=>(e.i,e.o))=run/\(∀e∈es,e.want=false/\e.H'=H)/\ ∀t,t∈dstsOf run->look envF t=some jU
 | [],f,_,_,_=>⟨[],f,⟨rfl,rfl⟩,rfl,by simp,fun t h=>by simp[dstsOf]at h⟩
 | (i,o)::run,f,hw,hst,hlt=>by
  have x:=hw (i,o) (zJ ..);have y:zGN B.X (rOf B D) ops f H i o=some ⟨i,o,false,f,H,jU,H⟩:=by
   simp only at x;simp only[zGN,x]
  have m: ∃s,WJ nt f o.dst jU=some s:=by
   cases hd:o.dst with
   | none=>exact⟨_,rfl⟩
   | some d=>exact⟨upd f d jU,by simp only[WJ,zG,qD,if_pos (hlt (i,o) (zJ ..) d hd)]⟩
  obtain⟨s,m⟩:=m;obtain⟨es,envF,c1,c2,c3,F⟩:=QH run s
   (fun a j=>by
    rw[<-hw a (zE _ j)];exact BM fun d hd=>JT m (fun v=>hst (i,o) (zJ ..) a (zE _ j) d v hd))
   (fun a j u z=>hst a (zE _ j) u (zE _ z))
   (fun a j=>hlt a (zE _ j))
  refine⟨⟨i,o,false,f,H,jU,H⟩::es,envF,⟨rfl,rfl,y,s,m,c1⟩,by simp[c2], ?_,fun t h=> ?_⟩
  .intro e q;rcases zO.1 q with rfl | q
   .exact⟨rfl,rfl⟩
   .exact c3 e q
  .by_cases p:t∈dstsOf run
   .exact F t p
   .have C:o.dst=some t:=by
     simp only[dstsOf,List.filterMap_cons]at h p;split at h
     .exact absurd h p
     .rename_i d hd;rcases zO.1 h with rfl | h
      .exact hd
      .exact absurd h p
    rw[Y0 c1 t (fun e q v=>p ?_),d9 m,if_pos C];have:(e.i,e.o)∈run:=by rw[<-c2];exact qM.2 ⟨e,q,rfl⟩
    simp only[dstsOf,List.mem_filterMap];exact⟨_,this,v⟩
end
theorem UE {x:Rs}{K:List AV->AH->Rs}{out:Ex×AH}(h:jn x K=some out):(∃vs H,x=some (.norm vs,H)/\K vs H=some out)\/(∃id vs H,x=some (.exit id vs,H)/\out=(.exit id vs,H))\/(∃v H,x=some (.ret v,H)/\out=(.ret v,H)):=by
 unfold jn at h;split at h
 .exact .inl ⟨_,_,rfl,h⟩
 .injection h with h;exact .inr (.inl ⟨_,_,_,rfl,h.symm⟩)
 .injection h with h;exact .inr (.inr ⟨_,_,rfl,h.symm⟩)
 .simp at h
theorem zIm {a b:Option (Nat×Bool)}(h:zLe a b=true):a=b:=by
 unfold zLe at h;split at h
 .simp only[zF,zX,beq_iff_eq]at h;rw[h.1,h.2]
 .simp at h
theorem zCC {g:Option (Nat×Bool)} : ∀ {l run rest:List (Nat×Oper)},zA2 g l=(run,rest)->l=run++rest/\ ∀i∈run,i.2.guard=g
 | [],run,rest,h=>by simp only[zA2,zT]at h;obtain⟨rfl,rfl⟩:=h;simp
 | o::l,run,rest,h=>by
  simp only[zA2,zG]at h;split at h
  .rename_i m
   cases j:zA2 g l with
   | mk a b=>
    rw[j]at h;simp only[zT]at h;obtain⟨rfl,rfl⟩:=h;obtain⟨p,q⟩:=zCC j;refine⟨by rw[p];rfl,fun i f=> ?_⟩;rcases zO.1 f with rfl | f
    .exact(zIm m).symm
    .exact q i f
  .simp only[zT]at h;obtain⟨rfl,rfl⟩:=h;simp
section
variable {B:Tb}{D:Dyn}{nt:Nat}{ops:Array Oper}
theorem u0 {X:Cx}{masks:Option (List Nat)}{sn:List Seen}{H:AH}{K:Rs}{out:Ex×AH} : ∀ {run:List (Nat×Oper)},zA4 X masks sn H K run=some out->K=some out/\ ∀ms,masks=some ms-> ∀b∈run,xE (cls X b.2.op)=true-> ∀s∈sn,(ms.getD b.1 0).testBit s.i=false->s.rd H=some s.v
 | [],h=>⟨h,by simp⟩
 | b::run,h=>by
  unfold zA4 at h;split at h
  .obtain⟨j,_⟩:=u0 h;exact⟨j,fun ms a=>by simp at a⟩
  .rename_i ms;rw[zG]at h;split at h
   .obtain⟨j,u⟩:=ZY h;obtain⟨m,o⟩:=u0 j;refine⟨m,fun p a q f=> ?_⟩;injection a with a;subst a
    rcases zO.1 f with rfl | f
    .exact fun _=>u
    .exact o _ rfl q f
   .rename_i t;obtain⟨m,o⟩:=u0 h;refine⟨m,fun p a q f=> ?_⟩;injection a with a;subst a
    rcases zO.1 f with rfl | f
    .exact fun x=>absurd x t
    .exact o _ rfl q f
theorem zBa {X:Cx}{r:Fns} : ∀ {es:List Ent} {env:Env} {H:AH} {envF:Env} {HF:AH},uJ X r nt ops env H es envF HF-> ∀e∈es,zGN X r ops e.env e.H e.i e.o=some e
 | [],_,_,_,_,_,e,a=>by simp at a
 | q::es,env,H,envF,HF,⟨h1,h2,h3,env',h4,h5⟩,e,a=>by
  rcases zO.1 a with rfl | a
  .rw[h1,h2];exact h3
  .exact zBa h5 e a
theorem zHU {env:Env}{v:AV} : ∀ {L:List Nat},(∀t∈L,look env t=some v)->PK env L (L.map fun _=>v)
 | [],_=>rfl
 | l::L,h=>⟨v,_,rfl,h l (zJ ..),zHU fun t a=>h t (zE _ a)⟩
theorem zAj {rest:List (Nat×Oper)}(h:i∈QK ops N rest):i∈dstsOf N:=by
 simp only[QK,List.mem_filterMap]at h;obtain⟨a,run,f⟩:=h;simp only[dstsOf,List.mem_filterMap];refine⟨a,run, ?_⟩;split at f
 .rename_i d hd;rw[zG]at f;split at f
  .rw[hd];exact f
  .simp at f
 .simp at f
theorem zFH (masks:Option (List Nat))(K:Env->AH->Rs)(a:Nat)(row:List (Nat×Oper))(sn:List Seen)(env:Env)(H:AH):zCK B D nt ops masks (a+1) K row sn env H=(match row with
   | []=>K env H
   | (i,o)::rest=>match o.guard with
    | none=>zHX B D nt masks (fun sn env H=>zCK B D nt ops masks a K rest sn env H) [(i,o)] sn env H
    | some (j,want)=>match zGa ops env j with
     | none=>none
     | some g=>match zA2 o.guard rest with
      | (run,rest)=>bif zLT nt ops j ((i,o)::run)then
        bif zLf B.X masks ((i,o)::run) rest then
         runK B D nt ops masks g want ((i,o)::run) (QK ops ((i,o)::run) rest) sn env H fun env H=>zCK B D nt ops masks a K rest sn env H
        else runW B D nt masks g want ((i,o)::run) (QK ops ((i,o)::run) rest) sn env H fun sn env H=>zCK B D nt ops masks a K rest sn env H
       else none):=rfl
theorem u5 {masks:Option (List Nat)}{K:Env->AH->Rs}{out:Ex×AH} : ∀(fuel:Nat) (row:List (Nat×Oper)) (sn:List Seen) (env:Env) (H:AH) (J:Env) (pre:List Ent),
  zCK B D nt ops masks fuel K row sn env H=some out->Le env J->(∀ms,masks=some ms->Tr B.X ms sn pre row)->
  ∃es envF HF env',uJ B.X (rOf B D) nt ops J H es envF HF/\es.map (fun e=>(e.i,e.o))=row/\Le env' envF/\K env' HF=some out/\
   (∀ms,masks=some ms->(∀a∈pre,∀b∈es,zJL B.X ms a b)/\es.Pairwise (zJL B.X ms))
 | 0,row,sn,env,H,J,pre,h,hl,hT=>by
  have h':(none:Rs)=some out:=h;simp at h'
 | fuel+1,row,sn,env,H,J,pre,h,hl,hT=>by
  have ih:=u5 (masks:=masks) (K:=K) (out:=out) fuel;have y:=h;rw[zFH]at y;clear h;split at y
  .exact⟨[],J,H,env,⟨rfl,rfl⟩,rfl,hl,y,fun ms u=>⟨by simp,List.Pairwise.nil⟩⟩
  .rename_i i o rest;split at y
   .rename_i hg;obtain⟨es,envF,HF,sn',env',c1,c2,c3,T,U,c6⟩:=uX (ops:=ops) (rest:=rest) [(i,o)] sn env H J pre y hl
     (fun m q=>by simp only[yF]at q;subst q;simp[aD,hg])
     (fun m q a7 a5 d hd=>by simp only[yF]at a5;subst a5;simp[zAE,hg])
     (fun ms u=>by simpa using hT ms u)
    obtain⟨b3,a9,b4,env2,d1,d2,d3,d4,d5⟩:=ih rest sn' env' HF envF (pre++es) U T (fun ms u=>(c6 ms u).2.2);refine⟨es++b3,a9,b4,env2,c9 c1 d1,by rw[List.map_append,c2,d2];rfl,d3,d4,fun ms u=> ?_⟩;obtain⟨e1,e2,e3⟩:=c6 ms u;obtain⟨f1,f2⟩:=d5 ms u;refine⟨fun a f b hb=> ?_,j8.2 ⟨e2,f2,fun a f b hb=>f1 a (qY _ f) b hb⟩⟩;rcases qB.1 hb with hb | hb
    .exact e1 a f b hb
    .exact f1 a (qX _ f) b hb
   .rename_i j a6 hg;split at y
    .simp at y
    .rename_i g a0
     cases b7:zA2 o.guard rest with
     | mk run rest'=>
      rw[b7]at y;simp only[zG]at y;split at y
      .rename_i a3;obtain⟨d7,d6⟩:=zCC b7;have b0:(i,o)::rest=((i,o)::run)++rest':=by rw[d7];rfl
       generalize d8:(i,o)::run=s at y a3 b0;have b8: ∀m∈s,m.2.guard=some (j,a6):=by
        intro m q;rw[<-d8]at q;rcases zO.1 q with rfl | q
        .exact hg
        .rw[d6 m q,hg]
       unfold zGa at a0;unfold zLT at a3;split at a0
       .rename_i p hp;simp only[hp]at a3;split at a0
        .rename_i dg b5;simp only[b5,zF,j6,List.contains_eq_mem,yU,yC,qD]at a3;obtain⟨e4,b9⟩:=a3;have e5: ∀m∈s,zAE ops m.2=some dg:=fun m q=>by simp only[zAE,b8 m q,hp,b5]
         have a1: ∀m∈s,aD ops J m.2=some (isW g a6):=fun m q=>by
          simp only[aD,b8 m q,zEB,hp,b5,hl _ _ a0]
         have a2: ∀m∈s,∀a7∈s,∀d,m.2.dst=some d->zAE ops a7.2≠some d:=fun m q a7 a5 d hd hc=>by
          rw[e5 a7 a5]at hc;injection hc with hc;subst hc
          exact e4 (by simp only[dstsOf,List.mem_filterMap];exact⟨m,q,hd⟩)
         have S: ∀ms,masks=some ms->Tr B.X ms sn pre (s++rest'):=fun ms u=>by rw[<-b0];exact hT ms u
         have key: ∃z C N env2 a8,uJ B.X (rOf B D) nt ops J H z C N/\z.map (fun e=>(e.i,e.o))=s/\Le env2 C/\zCK B D nt ops masks fuel K rest' a8 env2 N=some out/\
           (∀ms,masks=some ms->(∀a∈pre,∀b∈z,zJL B.X ms a b)/\z.Pairwise (zJL B.X ms)/\Tr B.X ms a8 (pre++z) rest'):=by
          have b1: ∀ {z:List Ent} {C:Env} {N:AH} {env2:Env},uJ B.X (rOf B D) nt ops J H z C N->z.map (fun e=>(e.i,e.o))=s->
            (∀t,t∉QK ops s rest'->look env2 t=look (UP (dstsOf s) env) t)->(∀t x,t∈QK ops s rest'->look env2 t=some x->look C t=some x)->Le env2 C:=by
           intro z C N env2 hc hm G L t x I;by_cases F:t∈QK ops s rest'
           .exact L t x F I
           .rw[G t F,V3]at I;split at I
            .simp at I
            .rename_i e6;rw[Y0 hc t (fun e Z e7=>e6 ?_)]
             .exact hl t x I
             .have:(e.i,e.o)∈s:=by rw[<-hm];exact qM.2 ⟨e,Z,rfl⟩
              simp only[dstsOf,List.mem_filterMap];exact⟨_,this,e7⟩
          split at y
          .rename_i b6;unfold runK at y
           cases O:isW g a6 with
           | true=>
            simp only[wnt,O,zU]at y;have I: ∃vs M,zHX B D nt masks (fun _ env H=>pck (QK ops s rest') env fun vs=>some (.norm vs,H)) s sn env H=some (.norm vs,M)/\(unp (QK ops s rest') vs (UP (dstsOf s) env) fun env=>zCK B D nt ops masks fuel K rest' sn env M)=some out/\True:=by
             rcases UE y with⟨vs,M,G,L⟩ | ⟨id,vs,M,G,L⟩ | ⟨v,M,G,L⟩
             .exact⟨vs,M,G,L,trivial⟩
             .obtain⟨_,_,_,_,_,_,_,_,_,U,_⟩:=uX (ops:=ops) (rest:=rest') s sn env H J pre G hl (fun m q=>by rw[a1 m q,O]) a2 S;obtain⟨_,_,c7⟩:=wI U;simp at c7
             .obtain⟨_,_,_,_,_,_,_,_,_,U,_⟩:=uX (ops:=ops) (rest:=rest') s sn env H J pre G hl (fun m q=>by rw[a1 m q,O]) a2 S;obtain⟨_,_,c7⟩:=wI U;simp at c7
            obtain⟨vs,M,G,L,_⟩:=I;obtain⟨z,C,N,c0,b2,c1,c2,c3,T,U,c6⟩:=uX (ops:=ops) (rest:=rest') s sn env H J pre G hl (fun m q=>by rw[a1 m q,O]) a2 S;obtain⟨vs',c7,c8⟩:=wI U;simp only[zC,zT,Ex.norm.injEq]at c8;obtain⟨rfl,rfl⟩:=c8;obtain⟨env2,u1,V⟩:=Z7 L b2 c7;refine⟨z,C,N,env2,sn,c1,c2,b1 c1 c2 (fun t F=>(V t).2 F) (fun t x F I=>T t x (by rw[<-(V t).1 F];exact I)),u1,fun ms u=> ?_⟩;obtain⟨e1,e2,e3⟩:=c6 ms u;refine⟨e1,e2,fun a f Q Y=> ?_⟩;rcases qB.1 f with f | f
            .exact((S ms u).less (fun _ h=>h) (fun b hb=>qY _ hb)) a f Q Y
            .have d9:=zBa c1 a f;have a4:=(KU _ _ _ d9).2.1 Q;have e8:aL B.X a.env a.H a.o.op=some a.v:=by
              simp only[opF,Y,wV]at a4;split at a4
              .rename_i x I;simp only[zC,zT]at a4;rw[I,a4.1]
              .simp at a4
             cases d0:vE B.X a.o.op with
             | false=>exact .inr (.inl fun H2=>zCA Y d0 e8 H2)
             | true=>
              refine .inr (.inr fun b hb Z=> ?_);simp only[zLf,zEJ,u,yC,j9,j6]at b6;have W:(a.i,a.o)∈s:=by rw[<-c2];exact qM.2 ⟨a,f,rfl⟩
              rcases b6 _ W with hr | hr
              .simp only at hr;rw[d0]at hr;simp at hr
              .rcases hr b hb with hr | hr
               .rw[Z]at hr;simp at hr
               .exact hr
           | false=>
            simp only[wnt,O,yM]at y;have I: ∃vs M,zA4 B.X masks sn H (some (.norm ((QK ops s rest').map fun _=>jU),H)) s=some (.norm vs,M)/\(unp (QK ops s rest') vs (UP (dstsOf s) env) fun env=>zCK B D nt ops masks fuel K rest' sn env M)=some out:=by
             rcases UE y with⟨vs,M,G,L⟩ | ⟨id,vs,M,G,L⟩ | ⟨v,M,G,L⟩
             .exact⟨vs,M,G,L⟩
             .have:=(u0 G).1;simp at this
             .have:=(u0 G).1;simp at this
            obtain⟨vs,M,G,L⟩:=I;obtain⟨h3,h4⟩:=u0 G;simp only[zC,zT,Ex.norm.injEq]at h3;obtain⟨rfl,rfl⟩:=h3;obtain⟨z,C,c1,c2,c3,T⟩:=QH (B:=B) (D:=D) (nt:=nt) (ops:=ops) (H:=H) s J (fun m q=>by rw[a1 m q,O]) a2 (fun m q d hd=>b9 d (by simp only[dstsOf,List.mem_filterMap];exact⟨m,q,hd⟩));obtain⟨env2,u1,V⟩:=Z7 L C (zHU fun t F=>T t (zAj F));refine⟨z,C,H,env2,sn,c1,c2,b1 c1 c2 (fun t F=>(V t).2 F) (fun t x F I=>by rw[<-(V t).1 F];exact I),u1,fun ms u=>⟨fun a f b hb=> ?_, ?_,fun a f Q Y=> ?_⟩⟩
            .have W:(b.i,b.o)∈s:=by rw[<-c2];exact qM.2 ⟨b,hb,rfl⟩
             refine(S ms u).see (qX _ W) (fun Z=> ?_) a f;rw[(c3 b hb).2];exact h4 ms u _ W Z
            .refine List.Pairwise.imp_of_mem (R:=fun _ _=>True) (fun {a b} f _ _ hw=> ?_) (List.pairwise_of_forall fun _ _=>trivial);rw[(c3 a f).1]at hw;simp at hw
            .rcases qB.1 f with f | f
             .exact((S ms u).less (fun _ h=>h) (fun b hb=>qY _ hb)) a f Q Y
             .rw[(c3 a f).1]at Q;simp at Q
          .unfold runW at y
           cases O:isW g a6 with
           | true=>
            simp only[wnt,O,zU]at y;obtain⟨z,C,N,c0,b2,c1,c2,c3,T,U,c6⟩:=uX (ops:=ops) (rest:=rest') s sn env H J pre y hl (fun m q=>by rw[a1 m q,O]) a2 S;exact⟨z,C,N,b2,c0,c1,c2,T,U,fun ms u=>c6 ms u⟩
           | false=>
            simp only[wnt,O,yM]at y;obtain⟨L,h4⟩:=u0 y;obtain⟨z,C,c1,c2,c3,T⟩:=QH (B:=B) (D:=D) (nt:=nt) (ops:=ops) (H:=H) s J (fun m q=>by rw[a1 m q,O]) a2 (fun m q d hd=>b9 d (by simp only[dstsOf,List.mem_filterMap];exact⟨m,q,hd⟩));obtain⟨env2,u1,V⟩:=Z7 L C (zHU fun t F=>T t (zAj F));refine⟨z,C,H,env2,sn,c1,c2,b1 c1 c2 (fun t F=>(V t).2 F) (fun t x F I=>by rw[<-(V t).1 F];exact I),u1,fun ms u=>⟨fun a f b hb=> ?_, ?_,fun a f Q Y=> ?_⟩⟩
            .have W:(b.i,b.o)∈s:=by rw[<-c2];exact qM.2 ⟨b,hb,rfl⟩
             refine(S ms u).see (qX _ W) (fun Z=> ?_) a f;rw[(c3 b hb).2];exact h4 ms u _ W Z
            .refine List.Pairwise.imp_of_mem (R:=fun _ _=>True) (fun {a b} f _ _ hw=> ?_) (List.pairwise_of_forall fun _ _=>trivial);rw[(c3 a f).1]at hw;simp at hw
            .rcases qB.1 f with f | f
             .exact((S ms u).less (fun _ h=>h) (fun b hb=>qY _ hb)) a f Q Y
             .rw[(c3 a f).1]at Q;simp at Q
         obtain⟨z,C,N,env2,a8,k1,k2,k3,k4,k5⟩:=key;obtain⟨b3,a9,b4,e0,d1,d2,d3,d4,d5⟩:=ih rest' a8 env2 N C (pre++z) k4 k3 (fun ms u=>(k5 ms u).2.2);refine⟨z++b3,a9,b4,e0,c9 k1 d1,by rw[List.map_append,k2,d2,b0],d3,d4,fun ms u=> ?_⟩;obtain⟨e1,e2,e3⟩:=k5 ms u;obtain⟨f1,f2⟩:=d5 ms u;refine⟨fun a f b hb=> ?_,j8.2 ⟨e2,f2,fun a f b hb=>f1 a (qY _ f) b hb⟩⟩;rcases qB.1 hb with hb | hb
         .exact e1 a f b hb
         .exact f1 a (qX _ f) b hb
        .simp at a0
       .simp at a0
      .simp at y
end
def Marks (lo:Nat)(R:Ren)(w:World)(f:List Deferred):Prop:=
 f.Pairwise (fun a b=> ∀r,a=⟨.collected r, #[]⟩->b≠⟨.collected r, #[]⟩)/\
 ∀d∈f,∃r,d=⟨.collected r, #[]⟩/\lo<=r/\r<w.heap.size/\(∀A d c,¬R A r d c)/\w.heap[r]? =some (.deferred (some []))
theorem Marks.nil (lo:Nat)(R:Ren)(w:World):Marks lo R w []:=⟨List.Pairwise.nil,by simp⟩
theorem Marks.ext {f:Ren}{lo:World}{j:List Deferred}(h:Marks i s t j)(k:Ext s n t f E lo):Marks i f lo j:=by
 refine⟨h.1,fun d hd=> ?_⟩;obtain⟨r,o,p,m,a,q⟩:=h.2 d hd;refine⟨r,o,p,qI m k.size,fun A d c hr=> ?_,by rw[k.keep r m a];exact q⟩;rcases k.new _ _ _ _ hr with h5 | h5 | ⟨R,H,u,h5⟩
 .exact a _ _ _ h5
 .omega
 .exact a _ _ _ h5
def Ends (k:List Item)(h:Env->AH->Prop)(f:Nat->Env->AH->Prop)(i:Env->AH->Prop)(a:List Item)(env:Env)(H:AH):Prop:=
 (a=k/\h env H)\/(∃id k',a= .code (.exit id)::k'/\exitTo id k'=exitTo id k/\f id env H)\/(∃k',a= .code .ret::k'/\i env H)
def WS (P:Program)(nt:Nat)(f0:FuncId)(ro:Bool)(q:Item)(env:Env)(H:AH)(o:Env->AH->Prop)(m:Nat->Env->AH->Prop)(p:Env->AH->Prop):Prop:=
 ∀(lo:Nat) (R:Ren) (fr:Frame) (k:List Item) (cs:List Frame) (w:World),fr.mode= .run->(ro=false->fr.roundOf=none/\fr.fn=f0)->fr.todo=q::k->EnvR R env nt fr.tmps->Rel R H w->Marks lo R w fr.defers->lo<=w.heap.size->
  ∃a f h i j env' H',Steps P (lone fr cs w) (lone { fr with tmps:=h,todo:=i,defers:=j} cs f)/\EnvR a env' nt h/\Rel a H' f/\Ext R H w a H' f/\H.next<=H'.next/\Marks lo a f j/\Ends k o m p i env' H'
theorem WS.mono {f0:FuncId}{P:Item}{o f:Env->AH->Prop}{j a:Nat->Env->AH->Prop}{p m:Env->AH->Prop}(h:WS q i f0 U P l n o j p)
  (u: ∀e H',o e H'->f e H') (v: ∀nt e H',j nt e H'->a nt e H') (x: ∀e H',p e H'->m e H'):WS q i f0 U P l n f a m:=by
 intro lo R fr k cs w hm s y z hL C t;obtain⟨F,G,I,J,K,env',H',L,M,N,O,Q,S,T⟩:=h lo R fr k cs w hm s y z hL C t;refine⟨F,G,I,J,K,env',H',L,M,N,O,Q,S, ?_⟩;rcases T with⟨b1,b2⟩ | ⟨id,k',b1,b2,ro⟩ | ⟨k',b1,b2⟩
 .exact .inl ⟨b1,u _ _ b2⟩
 .exact .inr (.inl ⟨id,k',b1,b2,v _ _ _ ro⟩)
 .exact .inr (.inr ⟨k',b1,x _ _ b2⟩)
theorem WS.then {f0:FuncId}{O:Item}{J:Env->AH->Prop}{t:Nat->Env->AH->Prop}{u:Env->AH->Prop}{K:Env->AH->Prop}
  (o:List Item) (Q: ∀id k,exitTo id (o++k)=exitTo id k)
  (h:WS q i f0 U O l n K t u)
  (g: ∀j nt,K j nt-> ∀(lo:Nat) (R:Ren) (fr:Frame) (k:List Item) (cs:List Frame) (w:World),fr.mode= .run->(U=false->fr.roundOf=none/\fr.fn=f0)->fr.todo=o++k->EnvR R j i fr.tmps->Rel R nt w->Marks lo R w fr.defers->lo<=w.heap.size->
   ∃a f m p P env' H',Steps q (lone fr cs w) (lone { fr with tmps:=m,todo:=p,defers:=P} cs f)/\EnvR a env' i m/\Rel a H' f/\Ext R nt w a H' f/\nt.next<=H'.next/\Marks lo a f P/\Ends k J t u p env' H')
  (lo:Nat) (R:Ren) (fr:Frame) (k:List Item) (cs:List Frame) (w:World) (hm:fr.mode= .run) (L:U=false->fr.roundOf=none/\fr.fn=f0) (ro:fr.todo=O::(o++k)) (V:EnvR R l i fr.tmps) (hL:Rel R n w) (W:Marks lo R w fr.defers) (M:lo<=w.heap.size):
   ∃a f m p P env' H',Steps q (lone fr cs w) (lone { fr with tmps:=m,todo:=p,defers:=P} cs f)/\EnvR a env' i m/\Rel a H' f/\Ext R n w a H' f/\n.next<=H'.next/\Marks lo a f P/\Ends k J t u p env' H':=by
 obtain⟨x,y,t1,N,v,j,nt,z,C,F,s,G,I,Y⟩:=h lo R fr (o++k) cs w hm L ro V hL W M;rcases Y with⟨rfl,b2⟩ | ⟨id,k',b1,b2,Z⟩ | ⟨k',b1,b2⟩
 .obtain⟨R2,w2,t2,S,T,env2,H2,c1,c2,c3,c4,c5,c6,c7⟩:=g j nt b2 lo x { fr with tmps:=t1,todo:=o++k,defers:=v} k cs y hm L rfl C F I (qR M s.size);exact⟨R2,w2,t2,S,T,env2,H2,z.trans c1,c2,c3,s.trans c4,qR G c5,c6,c7⟩
 .exact⟨x,y,t1,N,v,j,nt,z,C,F,s,G,I, .inr (.inl ⟨id,k',b1,by rw[b2,Q],Z⟩)⟩
 .exact⟨x,y,t1,N,v,j,nt,z,C,F,s,G,I, .inr (.inr ⟨k',b1,b2⟩)⟩
theorem WS.step {P:Program}{nt:Nat}{H:AH}{fr q:Frame}{k:List Item}{cs:List Frame}{w:World}{lo:Nat}{R:Ren}{o:Env->AH->Prop}{m:Nat->Env->AH->Prop}{p:Env->AH->Prop}{s:List Item}
  (t:step P (lone fr cs w)= .next (lone q cs w)) (u:q= { fr with todo:=s})
  (g: ∃a f j h i env' H',Steps P (lone { fr with todo:=s} cs w) (lone { fr with tmps:=j,todo:=h,defers:=i} cs f)/\EnvR a env' nt j/\Rel a H' f/\Ext R H w a H' f/\H.next<=H'.next/\Marks lo a f i/\Ends k o m p h env' H'):
  ∃a f j h i env' H',Steps P (lone fr cs w) (lone { fr with tmps:=j,todo:=h,defers:=i} cs f)/\EnvR a env' nt j/\Rel a H' f/\Ext R H w a H' f/\H.next<=H'.next/\Marks lo a f i/\Ends k o m p h env' H':=by
 subst u;obtain⟨a,f,v,h,i,env',H',x,y⟩:=g;exact⟨a,f,v,h,i,env',H',(Steps.one t).trans x,y⟩
theorem UG: ∀(l:List Oper) (n:Nat),(idx l n).map (·.1)=(List.range l.length).map (n+ ·)/\ ∀a∈idx l n,n<=a.1/\l[a.1 - n]? =some a.2
 | [],n=>by simp[idx]
 | o::l,n=>by
  obtain⟨h,i⟩:=UG l (n+1);refine⟨?_,fun a f=> ?_⟩
  .simp only[idx,yK,h,zY,List.range_succ_eq_map,List.map_map];simp only[Nat.add_zero,y9,true_and];apply List.map_congr_left;intro x _;simp only[Function.comp];omega
  .simp only[idx,zO]at f;rcases f with rfl | f
   .simp
   .obtain⟨m,j⟩:=i a f;refine⟨by omega, ?_⟩;rw[show a.1 - n=(a.1 - (n+1))+1 from by omega,yW];exact j
section
variable {P:Program}{B:Tb}{D:Dyn}(hX:Ok P B.X)(hr:Good P (rOf B D)){nt:Nat}
include hX hr in
theorem W4 {ops:Array Oper} : ∀ {es:List Ent} {env:Env} {H:AH} {envF:Env} {HF:AH},uJ B.X (rOf B D) nt ops env H es envF HF->(∀e∈es,ops[e.i]? =some e.o)->
  ∀(R:Ren) (fr:Frame) (k:List Item) (cs:List Frame) (w:World),fr.mode= .run->fr.todo= .inRegion ops (es.map (·.i))::k->EnvR R env nt fr.tmps->Rel R H w->
  ∃s t x,Steps P (lone fr cs w) (lone { fr with tmps:=x,todo:= .inRegion ops []::k} cs t)/\EnvR s envF nt x/\Rel s HF t/\Ext R H w s HF t
 | [],env,H,envF,HF,⟨h1,h2⟩,_,R,fr,k,cs,w,hm,ht,hE,hL=>by
  subst h1 h2;refine⟨R,w,fr.tmps, ?_,hE,hL,zOL R H w⟩;have:({ fr with tmps:=fr.tmps,todo:= .inRegion ops []::k} :Frame)=fr:=by
   have a:fr.todo= .inRegion ops []::k:=ht;rw[<-a]
  rw[this];exact .refl _ _
 | e::es,env,H,envF,HF,⟨h1,h2,h3,env',h4,h5⟩,hmem,R,fr,k,cs,w,hm,ht,hE,hL=>by
  have u:=hmem e (zJ ..);obtain⟨G,C,F⟩:=KU _ _ _ h3;have j:=zBB hE G;have a:fr.todo= .inRegion ops (e.i::es.map (·.i))::k:=ht;have key: ∃f h z,Steps P (lone fr cs w) (lone { fr with tmps:=zBx fr.tmps e.o.dst z,todo:= .inRegion ops (es.map (·.i))::k} cs h)/\VR f e.v z/\Rel f e.H' h/\Ext R H w f e.H' h:=by
   cases m:e.want with
   | true=>
    rw[m]at j;exact zCM hX hr (cs:=cs) hm a u j hE hL (C m)
   | false=>
    rw[m]at j;obtain⟨I,p⟩:=F m;refine⟨R,w,undef, ?_,by rw[I];exact BE R,by rw[p];exact hL,by rw[p];exact zOL R H w⟩;rw[<-kJ a u];exact .one (JN hm a u j)
  obtain⟨f,h,z,J,K,L,y⟩:=key;obtain⟨M,N,t2,O,p,Q,S⟩:=W4 h5 (fun q T=>hmem q (zE _ T)) f { fr with tmps:=zBx fr.tmps e.o.dst z,todo:= .inRegion ops (es.map (·.i))::k} k cs h hm rfl ((hE.mono y.sub).put K h4) L;exact⟨M,N,t2,J.trans O,p,Q,y.trans S⟩
include hX hr in
theorem zLk {K:Env->AH->Rs}{out:Ex×AH}(h:zMM B D nt v U K l n=some out)(f0:FuncId)(ro:Bool)(q:Nat->Env->AH->Prop)(s:Env->AH->Prop):
  WS P nt f0 ro (.code (.region i v U)) l n (fun env' H'=>K env' H'=some out) q s:=by
 unfold zMM at h;rw[zG]at h;have t: ∀ {env' envF:Env} {HF:AH},zHR P nt (.region i v U) l n .normal envF HF->Le env' envF->n.next<=HF.next->K env' HF=some out->
   WS P nt f0 ro (.code (.region i v U)) l n (fun env' H'=>K env' H'=some out) q s:=by
  intro env' envF HF F hl G I lo R fr k cs w hm _ j m hL J a0;obtain⟨L,M,N,O,Q,ops,S,T,x⟩:=F R fr k cs w hm j m hL;simp only[Out]at ops;subst ops;exact⟨L,M,N,O,fr.defers,env',HF,Q,S.le hl,T,x,G,J.ext x, .inl ⟨rfl,I⟩⟩
 split at h
 .rename_i hd;subst hd;split at h
  .rename_i row masks y;obtain⟨es,envF,HF,env',c1,c2,c3,p,f⟩:=u5 _ row [] l n l [] h (Le.refl l) (fun ms u=>by intro a V;simp at V);exact t (zGW hX hr hr.mono y c1 c2 (f _ rfl).2) c3 (wS hr.mono c1).1 p
  .simp at h
 .rename_i hd;have C:U=false:=by simpa using hd
  subst C;obtain⟨es,envF,HF,env',c1,c2,c3,p,_⟩:=u5 _ _ [] l n l [] h (Le.refl l) (fun ms u=>by simp at u);refine t ?_ c3 (wS hr.mono c1).1 p;intro R fr k cs w hm j m hL;obtain⟨W,Y⟩:=UG v.toList 0;have hi:es.map (·.i)=List.range v.size:=by
   have:es.map (·.i)=(idx v.toList 0).map (·.1):=by rw[<-c2];simp
   rw[this,W];simp
  have z: ∀e∈es,v[e.i]? =some e.o:=by
   intro e Z;have:(e.i,e.o)∈idx v.toList 0:=by rw[<-c2];exact qM.2 ⟨e,Z,rfl⟩
   have:=(Y _ this).2;simpa using this
  obtain⟨R1,w1,t1,s1,e1,l1,x1⟩:=W4 hX hr c1 z R { fr with todo:= .inRegion v (List.range v.size)::k} k cs w hm (by rw[hi]) m hL;exact⟨R1,w1,t1,k,(Steps.one (ZC hm j)).trans (s1.trans (.one (xV (fr:= { fr with tmps:=t1,todo:= .inRegion v []::k}) hm rfl))),rfl,e1,l1,x1⟩
end
end Go.Eng
end



