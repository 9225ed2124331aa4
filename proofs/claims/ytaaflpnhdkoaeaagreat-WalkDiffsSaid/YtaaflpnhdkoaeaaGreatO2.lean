/- Part 2: no condition. -/
import Derived.Test.YtaaflpnhdkoaeaaGreatO1
import Derived.RangeFuncRecord
import Derived.Orders
set_option linter.all false
set_option maxHeartbeats 8000000
set_option maxRecDepth 20000
variable {h p L:Go.Eng.AV}{n E:Go.Eng.AH}{k W:Go.TypeId}{i:Nat}{A:List Nat}{v:Array Go.Oper}{l Y:Go.Eng.Env}{t:Go.World}{q:Go.Program}{e:Go.Eng.AObj×(Nat->Go.Eng.AV)}{s:Go.Eng.Ren}{C f:Go.Value}{F:Array Go.Value}{G:Go.Op}{I:List Go.Eng.AV}{J:Option Go.Eng.AV}{M:Option Go.Tmp}{N:List (Nat×Go.Oper)}{Q:Go.Eng.Cx}{U:Bool}{V:Go.Oper}{a:Array (Nat×Go.Operand)}{c:Go.TypeDesc}{g:Go.Eng.AObj}{j:Option (Go.Eng.AObj×(Nat->Go.Eng.AV))}{m:List Go.Eng.Ent}{u:Go.BinOp}{z:Go.Eng.AV->Go.Eng.AV->Option Go.Eng.AV}
namespace Go.Eng
theorem zAl {o:World}{ty e:TypeId}{n sLen sCap:Nat}{base:Option Addr}(p:(underlying k).run q t= .ok (.slice e) t)(P:(underlying W).run q t= .ok c t)(u: ∀w,c≠ .int w)
  (j:(sizeOf e).run q t= .ok i t) (x:(Builtin.lenOf C).run q t= .ok n t) (y:(Builtin.firstCells i n C).run q t= .ok F t) (m:sLen+n<=sCap)
  (h:(match base with | some a=>storeCells (a.add (sLen*i)) F.toList | none=>pure ()).run q t= .ok () o):
  (Builtin.append_ #[k,W] ty #[.slice base sLen sCap,C]).run q t= .ok (.slice base (sLen+n) sCap) o:=by
 have z:(match c with | .int _=>true | _=>false)=false:=by
  cases c<;>first | rfl | exact absurd rfl (u _)
 cases base with
 | none=>
  simp only[zO,Result.ok.injEq,true_and]at h;subst h;simp[Builtin.append_,zH,p,P,j,z,x,m,y,zO]
 | some a=>
  simp[Builtin.append_,zH,p,P,j,z,x,m,y,h,zO]
theorem run_append_grow {ty e:TypeId}{h:TypeInfo}{sLen sCap:Nat}{base:Option Addr}{old:Array Value}(Z:(underlying k).run q t= .ok (.slice e) t)(hu:(underlying W).run q t= .ok c t)(y: ∀w,c≠ .int w)
  (hi:q.info? e=some h) (hz:h.zero=some C) (hn:(Builtin.lenOf f).run q t= .ok i t) (hf: ∀a,a.heap=t.heap->(Builtin.firstCells h.size i f).run q a= .ok F a)
  (ho: ∀a,a.heap=t.heap->(Builtin.firstCells h.size sLen (.slice base sLen sCap)).run q a= .ok old a) (z:sCap<sLen+i) (hb:(sLen+i+(sLen+i) / 4+192)*h.bytes<=281474976710656) (h63:sLen+i<4611686018427387904):
  ∃cap,sLen+i<=cap/\cap<9223372036854775808/\(Builtin.append_ #[k,W] ty #[.slice base sLen sCap,f]).run q t=
   .ok (.slice (some ⟨t.heap.size,0,none⟩) (sLen+i) cap) (World.alloc t.drew (.cells (old++F++Builtin.zeroCells C.cells (cap - (sLen+i))) e)):=by
 have u:(match c with | .int _=>true | _=>false)=false:=by
  cases c<;>first | rfl | exact absurd rfl (y _)
 have a1:=growslice_fits_wide (bytes:=h.bytes) z hb;refine⟨Question.cut (.appendCap (sLen+i) sCap e) (t.tape t.drawn (.appendCap (sLen+i) sCap e)),by simp only[Question.cut];omega,by
   simp only[Question.cut];have:=Nat.mod_lt (t.tape t.drawn (.appendCap (sLen+i) sCap e)) (show 2 ^ 63 - (sLen+i)>0 by omega);omega, ?_⟩
 generalize m:Question.cut (.appendCap (sLen+i) sCap e) (t.tape t.drawn (.appendCap (sLen+i) sCap e))=cap;have hq:(choose (.appendCap (sLen+i) sCap e)).run q t= .ok cap { t with drawn:=t.drawn+1} :=by
  simp only[choose,Sem.run,Question.forced,zL,qD,m]
 have J: ∀a,(sizeOf e).run q a= .ok h.size a:=fun a=>by simp[sizeOf,typeInfo,hi]
 have K: ∀a,(typeInfo e).run q a= .ok h a:=fun a=>by simp[typeInfo,hi]
 have N: ∀a,(zeroValue e).run q a= .ok C a:=fun a=>by simp[zeroValue,typeInfo,hi,hz]
 have O: ¬sLen+i<=sCap:=by omega
 have P: ¬((sLen+i:Nat):Int)>IntKind.i64.max:=by
  simp only[IntKind.max,IntKind.signed,IntKind.bits];simp;omega
 have p: ∀(b:Nat) a,(askRoom b).run q a= .ok () a:=fun b a=>by unfold askRoom;split<;>rfl
 have a2: ¬Builtin.nextslicecap (sLen+i) sCap*h.bytes>2 ^ 48:=by omega
 have S:=hf t.drew rfl;have T:=ho t.drew rfl;have a0: ¬(((sLen:Int)+(i:Int))>IntKind.i64.max):=by simpa using P
 have Y: ¬(9223372036854775807< (sLen:Int)+(i:Int)/\h.bytes=0):=by omega
 have o:(Question.appendCap (sLen+i) sCap e).forced=false:=rfl;have x: ¬281474976710656<Builtin.nextslicecap (sLen+i) sCap*h.bytes:=by omega
 simp[Builtin.append_,zH,Z,hu,J,u,hn,O,K,Y,x,o,m,p,T,S,N,newRow,newObj,Sem.run,zO]
structure AppSrc (P:Program)(w:World)(t u ty e:TypeId)(ti:TypeInfo)(zv xv:Value)(n:Nat)(vs:Array Value):Prop where
 fits: ∀(base:Option Addr) (sLen sCap:Nat) (w':World),sLen+n<=sCap->(match base with | some a=>storeCells (a.add (sLen*ti.size)) vs.toList | none=>pure ()).run P w= .ok () w'->
  (Builtin.append_ #[t,u] ty #[.slice base sLen sCap,xv]).run P w= .ok (.slice base (sLen+n) sCap) w'
 grows: ∀(base:Option Addr) (sLen sCap:Nat) (old:Array Value),(∀w',w'.heap=w.heap->(Builtin.firstCells ti.size sLen (.slice base sLen sCap)).run P w'= .ok old w')->sCap<sLen+n->
  (sLen+n+(sLen+n) / 4+192)*ti.bytes<=281474976710656->sLen+n<4611686018427387904->
  ∃cap,sLen+n<=cap/\cap<9223372036854775808/\(Builtin.append_ #[t,u] ty #[.slice base sLen sCap,xv]).run P w=
   .ok (.slice (some ⟨w.heap.size,0,none⟩) (sLen+n) cap) (World.alloc w.drew (.cells (old++vs++Builtin.zeroCells zv.cells (cap - (sLen+n))) e))
def AppSrc.plain {ty e:TypeId}{a:TypeInfo}(o:(underlying k).run q t= .ok (.slice e) t)(p:(underlying W).run q t= .ok c t)(h: ∀w,c≠ .int w)
  (hi:q.info? e=some a) (u:a.zero=some C) (P:(Builtin.lenOf f).run q t= .ok i t) (x: ∀j,j.heap=t.heap->(Builtin.firstCells a.size i f).run q j= .ok F j):AppSrc q t k W ty e a C f i F:=
 ⟨fun _ _ _ _ y J=>zAl o p h (by simp[sizeOf,typeInfo,hi]) P (x t rfl) y J,
  fun _ _ _ _ K z hb h63=>run_append_grow o p h hi u P x K z hb h63⟩
theorem AppSrc.zeros {ty e:TypeId}{w:IntKind}{j:TypeInfo}(J:(underlying k).run q t= .ok (.slice e) t)(K:(underlying W).run q t= .ok (.int w) t)
  (hi:q.info? e=some j) (hz:j.zero=some C) (a6:0<j.size) (hn:i<4611686018427387904) (hb:i*j.bytes<=281474976710656):AppSrc q t k W ty e j C (.int .i64 (i:Int)) i (Builtin.zeroCells C.cells i):=by
 have x: ∀f,(sizeOf e).run q f= .ok j.size f:=fun f=>by simp[sizeOf,typeInfo,hi]
 have y: ∀f,(typeInfo e).run q f= .ok j f:=fun f=>by simp[typeInfo,hi]
 have S: ∀f,(zeroValue e).run q f= .ok C f:=fun f=>by simp[zeroValue,typeInfo,hi,hz]
 have P:IntKind.i64.wrap (i:Int)=i:=uS (by simp only[IntKind.min,IntKind.signed,IntKind.bits];simp) (by simp only[IntKind.max,IntKind.signed,IntKind.bits];simp;omega);have N: ¬((i:Int)<0):=by omega
 have h2: ¬((i:Int)*(j.bytes:Int)>2 ^ 48):=by
  have:((i*j.bytes:Nat):Int)<=281474976710656:=by omega
  simp at this;simp;omega
 have z: ¬(281474976710656< (i:Int)*(j.bytes:Int)):=by simpa using h2
 have u: ∀f:World,(asInt (.int .i64 (i:Int))).run q f= .ok (i:Int) f:=fun f=>by simp[asInt,asIntOf]
 have a1:i*j.size=0->Builtin.zeroCells C.cells i= #[]:=by
  intro m;have:i=0:=by
   rcases Nat.mul_eq_zero.1 m with h | h
   .exact h
   .omega
  subst this;simp[Builtin.zeroCells]
 refine⟨fun base sLen sCap f p o=> ?_,fun base sLen sCap old ho a4 a5 h63=> ?_⟩
 .by_cases m:i*j.size=0
  .rw[a1 m]at o
   cases base with
   | none=>
    simp only[zO,Result.ok.injEq,true_and]at o;subst o;simp[Builtin.append_,zH,J,K,x,u,P,N,y,z,p,m,zO]
   | some a=>
    simp only at o;simp[Builtin.append_,zH,J,K,x,u,P,N,y,z,p,m,o,zO]
  .cases base with
   | none=>
    simp only[zO,Result.ok.injEq,true_and]at o;subst o;simp[Builtin.append_,zH,J,K,x,u,P,N,y,z,p,m,S,zO]
   | some a=>
    simp only at o;simp[Builtin.append_,zH,J,K,x,u,P,N,y,z,p,m,S,o,zO]
 .have a7:=growslice_fits_wide (bytes:=j.bytes) a4 a5;refine⟨Question.cut (.appendCap (sLen+i) sCap e) (t.tape t.drawn (.appendCap (sLen+i) sCap e)),by simp only[Question.cut];omega,by
   simp only[Question.cut];have:=Nat.mod_lt (t.tape t.drawn (.appendCap (sLen+i) sCap e)) (show 2 ^ 63 - (sLen+i)>0 by omega);omega, ?_⟩
  generalize Z:Question.cut (.appendCap (sLen+i) sCap e) (t.tape t.drawn (.appendCap (sLen+i) sCap e))=cap;have p: ¬sLen+i<=sCap:=by omega
  have Y: ∀(b:Nat) f,(askRoom b).run q f= .ok () f:=fun b f=>by unfold askRoom;split<;>rfl
  have a2:=ho t.drew rfl;have a3: ¬(9223372036854775807< (sLen:Int)+(i:Int)):=by omega
  have T:(Question.appendCap (sLen+i) sCap e).forced=false:=rfl;have a0: ¬281474976710656<Builtin.nextslicecap (sLen+i) sCap*j.bytes:=by omega
  by_cases m:i*j.size=0
  .rw[a1 m];simp[Builtin.append_,zH,J,K,x,u,P,N,y,z,p,a3,a0,T,Z,Y,a2,m,S,newRow,newObj,Sem.run,zO]
  .simp[Builtin.append_,zH,J,K,x,u,P,N,y,z,p,a3,a0,T,Z,Y,a2,m,S,newRow,newObj,Sem.run,zO]
theorem Rel.kill {H:AH}(h:Rel s H t){j:T AObj}(p:T.set 40 H.h i .dead=some j):Rel s ⟨j,H.next⟩ t:=by
 have m:=T.get_set _ _ _ _ _ p;have hl: ∀f,JZ ⟨j,H.next⟩ f->JZ H f:=fun f ⟨o,a,hd⟩=>by
  simp only[m]at a;by_cases e:f=i
  .rw[if_pos e]at a;injection a with a;subst a;exact hd.elim
  .rw[if_neg e]at a;exact⟨o,a,hd⟩
 refine⟨h.fn,fun A1 A2 b d c d' c' r q l l'=>h.inj _ _ _ _ _ _ _ r q (hl _ l) (hl _ l'),fun A1 b d c o r a=> ?_,h.lt⟩;simp only[m]at a;by_cases e:A1=i
 .rw[if_pos e]at a;injection a with a;subst a;trivial
 .rw[if_neg e]at a;exact h.obj _ _ _ _ _ r a
def Ext.kill {H:AH}{b d c:Nat}(hR:s i b d c){a:T AObj}(f:T.set 40 H.h i .dead=some a):Ext s H t s ⟨a,H.next⟩ t:=
 ⟨zRm s,fun _ _ _ _ h=> .inl h,fun _ _ _ _ h=> .inl h,zM _,fun A1 _ j=>by
  show a.get A1=_;rw[T.get_set _ _ _ _ _ f,if_neg (fun e=>by subst e;exact j _ _ _ hR)],rfl,rfl,rfl,zM _,fun _ _ _=>rfl⟩
theorem Rel.move {w:World}(h:Rel s n w){b d c d' c':Nat}{x:Obj}{t1 t2:T AObj}(hR:s i b d c)(hl:JZ n i)(K:T.set 40 n.h i .dead=some t1)(N:T.set 40 t1 n.next g=some t2)
  (f:zJZ (s.add n.next b d' c') g d' c' (some x)):Rel (s.add n.next b d' c') ⟨t2,n.next+1⟩ (vX w b x):=by
 have z:=T.get_set _ _ _ _ _ K;have t:=T.get_set _ _ _ _ _ N;have j: ∀b d c,¬s n.next b d c:=fun b d c r=>by have:=(h.lt _ _ _ _ r).2;omega
 have q: ∀p,JZ ⟨t2,n.next+1⟩ p->p≠n.next->JZ n p/\p≠i:=fun p ⟨o,f,hd⟩ hne=>by
  simp only[t,if_neg hne,z]at f;by_cases e:p=i
  .rw[if_pos e]at f;injection f with f;subst f;exact hd.elim
  .rw[if_neg e]at f;exact⟨⟨o,f,hd⟩,e⟩
 refine⟨?_, ?_, ?_, ?_⟩
 .rintro A1 b1 u c1 b2 O c2 (r | ⟨rfl,rfl,rfl,rfl⟩) (r' | ⟨e1,rfl,rfl,rfl⟩)
  .exact h.fn _ _ _ _ _ _ _ r r'
  .subst e1;exact absurd r (j _ _ _)
  .exact absurd r' (j _ _ _)
  .exact⟨rfl,rfl,rfl⟩
 .rintro A1 A2 b1 u c1 O c2 (r | ⟨rfl,rfl,rfl,rfl⟩) (r' | ⟨rfl,e2,rfl,rfl⟩) l l'
  .have m:A1≠n.next:=fun e=>by subst e;exact j _ _ _ r
   have S:A2≠n.next:=fun e=>by subst e;exact j _ _ _ r'
   exact h.inj _ _ _ _ _ _ _ r r' (q _ l m).1 (q _ l' S).1
  .subst e2;have m:A1≠n.next:=fun e=>by subst e;exact j _ _ _ r
   obtain⟨l1,y⟩:=q _ l m;exact absurd (h.inj _ _ _ _ _ _ _ r hR l1 hl) y
  .have m:A2≠n.next:=fun e=>by subst e;exact j _ _ _ r'
   obtain⟨l1,y⟩:=q _ l' m;exact absurd (h.inj _ _ _ _ _ _ _ r' hR l1 hl) y
  .rfl
 .rintro A1 b1 u c1 Y (r | ⟨rfl,rfl,rfl,rfl⟩) a
  .have m:A1≠n.next:=fun e=>by subst e;exact j _ _ _ r
   simp only[t,if_neg m,z]at a;by_cases e:A1=i
   .rw[if_pos e]at a;injection a with a;subst a;trivial
   .rw[if_neg e]at a;by_cases C:b1=b
    .subst C;have J: ¬JZ n A1:=fun l1=>e (h.inj _ _ _ _ _ _ _ r hR l1 hl)
     cases Y with
     | dead=>trivial
     | _=>exact absurd ⟨_,a,trivial⟩ J
    .rw[vG _ _ _ _ C];exact(h.obj _ _ _ _ _ r a).mono (s.sub_add _ _ _ _)
  .simp only[t,if_pos]at a;injection a with a;subst a
   rw[bH _ _ _ (h.lt _ _ _ _ hR).1];exact f
 .rintro A1 b1 u c1 (r | ⟨rfl,rfl,rfl,rfl⟩)
  .rw[vK];exact⟨(h.lt _ _ _ _ r).1,Nat.lt_succ_of_lt (h.lt _ _ _ _ r).2⟩
  .rw[vK];exact⟨(h.lt _ _ _ _ hR).1,Nat.lt_succ_self _⟩
def Ext.move {w:World}{b d c d' c':Nat}{x:Obj}{t1 t2:T AObj}(hR:s i b d c)(a:T.set 40 n.h i .dead=some t1)(f:T.set 40 t1 n.next g=some t2):
  Ext s n w (s.add n.next b d' c') ⟨t2,n.next+1⟩ (vX w b x) where
 sub:=s.sub_add _ _ _ _
 new A1 b1 d1 c1:=by
  rintro(r | ⟨rfl,rfl,rfl,rfl⟩)
  .exact .inl r
  .exact .inr (.inr ⟨_,_,_,hR⟩)
 newA A1 b1 d1 c1:=by
  rintro(r | ⟨rfl,rfl,rfl,rfl⟩)
  .exact .inl r
  .exact .inr (zM _)
 next:=Nat.le_succ _
 keepA A1 hA hk:=by
  show t2.get A1=_;rw[T.get_set _ _ _ _ _ f,if_neg (by omega),T.get_set _ _ _ _ _ a,if_neg (fun e=>by subst e;exact hk _ _ _ hR)]
 os:=rfl
 tape:=rfl
 output:=rfl
 size:=by rw[vK];omega
 keep k _ hk:=vG _ _ _ _ (fun e=>by subst e;exact hk _ _ _ hR)
theorem Rel.heap {R:Ren}{H:AH}{w a:World}(h:Rel R H w)(e:a.heap=w.heap):Rel R H a:=
 ⟨h.fn,h.inj,fun A b d c o r f=>by rw[e];exact h.obj A b d c o r f,fun A b d c r=>by rw[e];exact h.lt A b d c r⟩
theorem U6: ∀(n:Nat) (l:List AV),n<=l.length->takeN n l=some (l.take n)
 | 0,l,_=>by simp[takeN]
 | n+1,[],hl=>by simp at hl
 | n+1,x::l,hl=>by simp only[takeN,U6 n l (by simpa using hl)];rfl
theorem wC: ∀(l:List AV) (o n:Nat),n=0\/o+n<=l.length->bC l o n=some ((l.drop o).take n)
 | l,0,n,hn=>by
  have:bC l 0 n=takeN n l:=by cases l<;>rfl
  rw[this,U6 n l (by omega)];simp
 | [],o+1,n,hn=>by
  have:n=0:=by simp at hn;omega
  subst this;simp[bC]
 | x::l,o+1,n,hn=>by
  simp only[bC];rw[wC l o n (by simp at hn;omega)];simp
theorem zJl {f:World}(e:f.heap=t.heap)(a:Addr):f.cell? a=t.cell? a:=by simp only[World.cell?,e]
theorem Rel.loadsW {b d c:Nat}{sz:Nat}(h:Rel s n t)(x:n.h.get i=some (.cells I k sz U))(hR:s i b d c){P:Program}{o R:Nat}{r:List AV}(hr:bC I o R=some r):
  ∃vs:List Value,(∀a:World,a.heap=t.heap->(loadCells ⟨b,d+o,none⟩ R).run P a= .ok vs.toArray a)/\VRL s r vs:=by
 obtain⟨q,K⟩:=cD _ _ _ _ hr;obtain⟨arr,S,pre,l',J,y,z,T,m,_⟩:=h.cellsAt x hR;have N:=zRj I l' m;have H:VRL s r ((l'.drop o).take R):=by rw[q];exact(m.drop o).take R
 have p:((l'.drop o).take R).length=R:=by
  rw[qC,qL];omega
 refine⟨(l'.drop o).take R,fun a C=> ?_,H⟩;have hl:=run_loadCells_list (P:=P) a ⟨b,d+o,none⟩ ((l'.drop o).take R) (fun j v f=>by
  have O:=(qR.1 f).1;rw[xF,zJl C];simp only[World.cell?,y,Option.isSome_none,zL,qD];rw[jF (by omega),jG]at f;have u:o+j<l'.length:=(qR.1 f).1;rw[<-yS,z,jB (by omega),show d+o+j - pre.length=o+j from by omega,yY u];exact f)
 rw[p]at hl;exact hl
section
variable {P:Program}{X:Cx}(hX:Ok P X){R:Ren}{H:AH}{w:World}(hL:Rel R H w)
include hL in
theorem zE7 {n:Nat}(sz:srcOf i h H=some (n,I))(j:VR R h C):
  (∀f,(Builtin.lenOf C).run P f= .ok n f)/\I.length=n*i/\ ∀m,m<=n-> ∃vs:List Value,(∀f:World,f.heap=w.heap->(Builtin.firstCells i m C).run P f= .ok vs.toArray f)/\VRL R (I.take (m*i)) vs:=by
 unfold srcOf at sz;split at sz
 .simp only[zB,zU]at sz;obtain⟨rfl,rfl⟩:=sz;simp only[VR]at j;subst j;exact⟨fun _=>rfl,by simp,fun m hm=>⟨[],fun f _=>rfl,by simp[VRL]⟩⟩
 .simp only[zB,zU]at sz;obtain⟨rfl,rfl⟩:=sz;obtain⟨a,c,rfl⟩:=j;refine⟨fun _=>rfl,by simp,fun m hm=>⟨[],fun f _=> ?_,by simp[VRL]⟩⟩;obtain rfl:m=0:=by omega
  simp only[Builtin.firstCells,Nat.zero_mul];rfl
 .rename_i A off k cc;split at sz
  .rename_i l e J g t;split at sz
   .rename_i cs u;simp only[zB,zU]at sz;obtain⟨rfl,rfl⟩:=sz;obtain⟨b,d,c,hr,rfl⟩:=j;obtain⟨p,K⟩:=cD _ _ _ _ u;refine⟨fun _=>rfl, ?_,fun m hm=> ?_⟩
    .rw[p,qC,qL];omega
    .have q:m*i<=k*i:=yN _ hm;have o:=wC l off (m*i) (by omega);have y:(l.drop off).take (m*i)=cs.take (m*i):=by rw[p,List.take_take,Nat.min_eq_left q]
     rw[y]at o;obtain⟨vs',z,x⟩:=hL.loadsW t hr (P:=P) o;exact⟨vs',z,x⟩
   .simp at sz
  .simp at sz
 .rename_i k b;simp only[zF,zX]at sz;split at sz
  .rename_i o;subst o;simp only[zB,zU]at sz;obtain⟨rfl,rfl⟩:=sz;obtain⟨s,rfl,rfl,rfl⟩:=j;have hb:=J8 (R:=R) s.data.toList;rw[size_data]at hb;refine⟨fun _=>rfl, ?_,fun m hm=> ?_⟩
   .have:=zRj _ _ hb;simp[size_data]at this;omega
   .refine⟨((s.extract 0 m).data.map fun b=>Value.int .u8 (b.toNat:Int)).toList,fun f _=>rfl, ?_⟩;have e:((s.extract 0 m).data.map fun b=>Value.int .u8 (b.toNat:Int)).toList=(s.data.toList.map (fun b=>Value.int .u8 (b.toNat:Int))).take m:=by
     rw[Array.toList_map,Lib.extract_data];simp[List.map_take]
    rw[e,Nat.mul_one];exact hb.take m
  .simp at sz
 .simp at sz
def zN6 (P:Program)(s:Sem Value)(R:Ren)(H:AH)(w:World)(v:AV)(H':AH):Prop:=
 ∃(a:Ren) (f:World) (z:Value),s.run P w= .ok z f/\VR a v z/\Rel a H' f/\Ext R H w a H' f
theorem zB3 {z:Option Value}(h:KW i z=true): ∃a,z=some a/\a.cells.size=i/\0<i/\ ∃f,ofV a=some f:=by
 unfold KW at h;split at h
 .rename_i a;split at h
  .rename_i f j;simp only[zE,qE,zX,jY]at h;have:=zRj _ _ (uG (UN (fun _ _ _ _=>False) a f j));rw[yW]at this;exact⟨a,rfl,by omega,h.1,f,j⟩
  .simp at h
 .simp at h
theorem uE (z:Array Value)(n:Nat):(Builtin.zeroCells z n).size=n*z.size:=by simp[Builtin.zeroCells]
theorem zN7 (z:Array Value): ∀n,(Builtin.zeroCells z n).toList=(List.replicate n z.toList).flatten:=by
 intro n;rcases Nat.eq_zero_or_pos z.size with a | h
 .have:z= #[]:=Array.eq_empty_of_size_eq_zero a;subst this;simp[Builtin.zeroCells]
 induction n with
 | zero=>simp[Builtin.zeroCells]
 | succ n ih=>
  rw[List.replicate_succ',List.flatten_append,<-ih];simp only[Builtin.zeroCells,Array.toList_map,Array.toList_range,List.flatten_cons,List.flatten_nil,yB];rw[jI,List.range_add,List.map_append];congr 1;apply List.ext_getElem
  .simp
  .intro i j f;have hi:i<z.size:=by simpa using f
   simp only[List.getElem_map,List.getElem_range,Array.getElem_toList];rw[Nat.mul_comm n z.size,Nat.mul_add_mod,Nat.mod_eq_of_lt hi,getElem!_pos z i hi]
theorem dY (R:VR s h C)(n:Nat):VRL s (rep n (jU h)) (Builtin.zeroCells C.cells n).toList:=by
 have j:=uG R;rw[zN7,zPU]
 induction n with
 | zero=>simp[VRL]
 | succ n ih=>simp only[List.replicate_succ,List.flatten_cons];exact j.append ih
theorem grow_ok {ty e:TypeId}{a:TypeInfo}{n sLen sCap:Nat}{base:Option Addr}{xv:Value}{oldA:List AV}{oldV newV:List Value}
  (hL:Rel R H w) (z:AppSrc P w k W ty e a C xv n newV.toArray) (O:C.cells.size=a.size) (S: ∃Z,ofV C=some Z)
  (ho: ∀p,p.heap=w.heap->(Builtin.firstCells a.size sLen (.slice base sLen sCap)).run P p= .ok oldV.toArray p) (T:sCap<sLen+n) (m:roomy (sLen+n) a.bytes=true)
  (x:VRL R oldA oldV) (y:VRL R I newV) (t:(oldA++I).length=(sLen+n)*a.size) (f:Z4 (sLen+n) e a.size (oldA++I) H=some (h,E)):
  zN6 P (Builtin.append_ #[k,W] ty #[.slice base sLen sCap,xv]) R H w h E:=by
 simp only[roomy,zE,qW,qE]at m;obtain⟨cap,a0,Y,J⟩:=z.grows base sLen sCap _ ho T m.1 m.2;unfold Z4 at f;split at f
 .rename_i A H1 K;obtain⟨t',q,rfl,rfl,_⟩:=fY K
  .simp only[kF,zB,zU]at f;obtain⟨rfl,rfl⟩:=f;have N:=zRj _ _ (x.append y);have hD:Rel R H w.drew:=hL.drew _;refine⟨R.add H.next w.heap.size 0 cap,_,_,J, ?_, ?_, ?_⟩
   .exact⟨w.heap.size,0,cap,R.add_self _ _ _ _,by rw[xQ _ (by omega)];simp⟩
   .refine hD.new q ?_;refine⟨_,(0,0),[],oldV++newV,(Builtin.zeroCells C.cells (cap - (sLen+n))).toList,rfl,by simp,rfl,VRL.mono (R.sub_add _ _ _ _) _ _ (x.append y),fun u=>by simp at u,fun _=>⟨?_,Y⟩,fun _ i _=>by simp,_,dY (UN _ _ _ S.choose_spec) _⟩;rw[N,t,yW,uE,O,<-j8];congr 1;omega
   .exact(Ext.drew R H w _).trans (Ext.add (w:=w.drew) q)
 .simp at f
include hL in
theorem zJB {ty e:TypeId}{s:TypeInfo}{newV:List Value}{xv:Value}(o:AppSrc P w k W ty e s C xv i newV.toArray)(a9:C.cells.size=s.size)(b0: ∃za,ofV C=some za)(b6:0<s.size)
  (new:VRL R I newV) (K:I.length=i*s.size) (b4:jP I=true) (zv:app1 e s.size s.bytes i I h H=some (p,n)) (S:VR R h f):
  zN6 P (Builtin.append_ #[k,W] ty #[f,xv]) R H w p n:=by
 have c0:=zRj _ _ new;unfold app1 at zv;split at zv
 .simp only[VR]at S;subst S;simp only[zF,zX]at zv;split at zv
  .rename_i N;subst N;simp only[zB,zU]at zv;obtain⟨rfl,rfl⟩:=zv;exact⟨R,w, .slice none 0 0,o.fits none 0 0 w (zM _) rfl,rfl,hL,zRr R H w⟩
  .rename_i N;unfold vU at zv;simp only[zF]at zv;split at zv
   .rename_i t;have:=grow_ok (P:=P) (ty:=ty) (sLen:=0) (sCap:=0) (base:=none) (xv:=xv) (oldA:=[]) (oldV:=[]) (n:=i) hL o a9 b0 (fun m _=>rfl) (by omega) (by rw[yZ];exact t) rfl new (by simp[K]) (by rw[yZ];exact zv);exact this
   .simp at zv
 .obtain⟨a,c,rfl⟩:=S;simp only[zF,zX]at zv;split at zv
  .rename_i N;subst N;simp only[zB,zU]at zv;obtain⟨rfl,rfl⟩:=zv;have c1:newV=[]:=by
    have:newV.length=0:=by rw[c0,K];simp
    exact zW this
   subst c1;exact⟨R,w, .slice (some a) 0 c,o.fits (some a) 0 c w (by omega) rfl,⟨a,c,rfl⟩,hL,zRr R H w⟩
  .simp at zv
 .rename_i A off len cc;obtain⟨b,d,c,hr,rfl⟩:=S;split at zv
  .rename_i l e' c3 g y;unfold zGg at zv;simp only[zF]at zv;split at zv
   .rename_i Y;rw[qW]at Y;unfold zCO at zv;split at zv
    .rename_i l' a0;split at zv
     .rename_i H1 j;simp only[kF,zB,zU]at zv;obtain⟨rfl,rfl⟩:=zv;unfold fX at j;split at j
      .rename_i t' c4;simp only[zB]at j;subst j;obtain⟨a0,c5⟩:=zH5 (by rw[zF];exact a0);obtain⟨m,h1,h2,h3⟩:=hL.stores y hr (P:=P) a0 c5 new b4 c4;have c8:=zBy hL y hr b6 (off:=off) (cc:=cc);refine⟨R,m,_,o.fits (some ⟨b,d+off,none⟩) _ _ _ (by omega) ?_,⟨b,d,c,hr,rfl⟩,h2,h3⟩;simp only[xF,Nat.add_assoc];exact h1
      .simp at j
     .simp at zv
    .simp at zv
   .rename_i Y;rw[qW]at Y;split at zv
    .rename_i Z;rw[zX]at Z;unfold vU at zv;simp only[zF]at zv;split at zv
     .rename_i t;split at zv
      .rename_i old hold;obtain⟨oldV,b1,b2⟩:=hL.loadsW y hr (P:=P) hold;obtain⟨T,e2⟩:=cD _ _ _ _ hold;have d2:kQ l g c3 off cc s.size=cc / 2:=by
        unfold kQ;rw[zF,if_pos (by rw[zX];exact Z)]
       have b3:old.length=len*s.size:=by rw[T,qC,qL];omega
       exact grow_ok (P:=P) (ty:=ty) hL o a9 b0 (fun m hw=>b1 m hw) (by rw[aS c Z];omega) t b2 new (by rw[zV,b3,K,j8]) zv
      .simp at zv
     .simp at zv
    .rename_i J;rw[zX]at J;split at zv
     .rename_i b5;simp only[zE,zX]at b5;obtain⟨⟨⟨⟨hg,c2⟩,rfl⟩,rfl⟩,c9⟩:=b5;subst hg;rw[jY]at c2;split at zv
      .rename_i H1 j;unfold fX at j;split at j
       .rename_i t1 O;simp only[zB]at j;subst j;unfold vU at zv;simp only[zF]at zv;split at zv
        .rename_i t;split at zv
         .rename_i old hold;obtain⟨T,e2⟩:=cD _ _ _ _ hold;have b3:old.length=len*s.size:=by rw[T,qC,qL];omega
          by_cases b7:len+i<=bB cc c
          ·
           rw[xQ c J]at b7;unfold Z4 at zv;split at zv
           .rename_i A2 H2 b9;obtain⟨t2,b8,rfl,rfl,_⟩:=fY b9
            .simp only[kF,zB,zU]at zv;obtain⟨rfl,rfl⟩:=zv;obtain⟨arr,fz,pre,l',q,a1,a2,a3,a4,a5,a6,a7,d3,a8⟩:=hL.cellsAt y hr;have d4:=zRj _ _ a4;have d5:=(a6 rfl).1;have d6:arr.size=d+l'.length+q.length:=by
              have:=congrArg List.length a2;simp at this;omega
             have d0:(cc / 2+len+i)*s.size<=c*s.size:=yN _ (by omega);have d1:(cc / 2+len+i)*s.size=cc / 2*s.size+len*s.size+i*s.size:=by rw[j8,j8]
             have d7:i*s.size<=q.length:=by omega
             have c6:=Z7 (P:=P) e fz b (d+off+len*s.size) newV 0 w arr a1 (by omega) (gI new b4) (a7 b6);have c7:=hL.move (d':=d+off) (c':=c - cc / 2) (x:= .cells (wZ arr (d+off+len*s.size+0) newV) e fz) hr (Rel.live y) O b8 ?_
             .refine⟨_,_,_,o.fits (some ⟨b,d+off,none⟩) _ _ _ (by rw[xQ c J];exact b7) ?_, ?_,c7,Ext.move hr O b8⟩
              .simp only[xF];exact c6
              .exact⟨b,d+off,c - cc / 2,R.add_self _ _ _ _,by rw[xQ c J,xQ _ (by omega)];simp⟩
             .refine⟨_,fz,pre++l'.take off,l'.drop off++newV,q.drop (i*s.size),rfl, ?_, ?_, ?_,fun zv=>by simp at zv,fun _=>⟨?_,by have:=(a6 rfl).2;omega⟩,fun hz u hi=> ?_,_,VRL.mono (R.sub_add _ _ _ _) _ _ (a8.drop (i*s.size))⟩
              .rw[xE _ _ _ (by omega),a2];have f1:(pre++(l'++q)).take (d+off+len*s.size+0)=pre++l':=by
                rw[List.take_append,zY (by omega),List.take_append,zY (by omega)];rw[show d+off+len*s.size+0 - pre.length - l'.length=0 from by omega];simp
               have f2:(pre++(l'++q)).drop (d+off+len*s.size+0+newV.length)=q.drop (i*s.size):=by
                rw[List.drop_append,qO (by omega),List.drop_append,qO (by omega)];rw[show d+off+len*s.size+0+newV.length - pre.length - l'.length=i*s.size from by omega];simp
               rw[f1,f2];simp only[zZ];rw[<-zZ (List.take off l'),y6]
              .simp;omega
              .have:old=l.drop off:=by rw[T,zY (by rw[qL];omega)]
               rw[this];exact VRL.mono (R.sub_add _ _ _ _) _ _ ((a4.drop off).append new)
              .simp only[zV,qL,Nat.sub_mul];omega
              .rw[uD]at hi;exact a7 hz u hi
           .simp at zv
          .obtain⟨oldV,b1,b2⟩:=hL.loadsW y hr (P:=P) hold;have hK:=hL.kill O;obtain⟨R',m,z,g1,g2,g3,g4⟩:=grow_ok (P:=P) (ty:=ty) (sLen:=len) (sCap:=bB cc c) (base:=some ⟨b,d+off,none⟩) (n:=i) (xv:=xv) hK o a9 b0 (fun m hw=>b1 m hw) (by omega) t b2 new (by rw[zV,b3,K,j8]) zv;exact⟨R',m,z,g1,g2,g3,(Ext.kill hr O).trans g4⟩
         .simp at zv
        .simp at zv
       .simp at j
      .simp at zv
     .simp at zv
  .simp at zv
 .simp at zv
include hX hL in
theorem zGd {ty:TypeId}(u:d9 X k h p H=some (L,n))(T:X.und W=some c)(z: ∀t,c≠ .int t)(Y:VR R h C)(Z:VR R p f):
  zN6 P (Builtin.append_ #[k,W] ty #[C,f]) R H w L n:=by
 unfold d9 at u;split at u
 .rename_i e hd;split at u
  .rename_i ti x;have hi:=hX.ty _ _ x;simp only[zF]at u;split at u
   .rename_i hz;obtain⟨zv,J,K,s,N⟩:=zB3 hz;split at u
    .rename_i v new q;obtain⟨y,O,m⟩:=zE7 (P:=P) hL q Z;split at u
     .rename_i o;obtain⟨newV,S,a⟩:=m v (zM _);rw[zY (by omega)]at a;exact zJB hL (AppSrc.plain (hX.run_und hd w) (hX.run_und T w) z hi J (y w) S) K N s a O o u Y
     .simp at u
    .simp at u
   .simp at u
  .simp at u
 .simp at u
theorem aH: ∀(l m:List AV),jP l=true->jP m=true->jP (l++m)=true
 | [],m,_,h=>h
 | x::l,m,h,k=>by simp only[jP,zE]at h;simp only[qF,jP,h.1,aH l m h.2 k,qP]
theorem JW (l:List AV)(h:jP l=true): ∀n,jP (rep n l)=true
 | 0=>rfl
 | n+1=>by simp only[rep];exact aH _ _ h (JW l h n)
include hX hL in
theorem zLS {ty:TypeId}{t:IntKind}(u:zJO X k h p H=some (L,n))(T:X.und W=some (.int t))(Y:VR R h C)(x:VR R p f):
  zN6 P (Builtin.append_ #[k,W] ty #[C,f]) R H w L n:=by
 unfold zJO at u;split at u
 .rename_i e hd;split at u
  .rename_i Z J;have hi:=hX.ty _ _ J;split at u
   .rename_i z hz;simp only[zF]at u;split at u
    .rename_i K;obtain⟨zv,o,s,m,N⟩:=zB3 K;split at u
     .rename_i y;split at u
      .rename_i a;simp only[zE,qW,qE]at a;simp only[VR]at x;have O:f= .int .i64 (y:Int):=x;subst O;obtain⟨i',v',v,j,h3⟩:=hX.zero R hz;rw[hi]at v;injection v with v;subst v
       rw[o]at j;injection j with j;subst j
       have q:=dY h3 y;have hl:=zRj _ _ q;have S:(rep y (jU z)).length=y*Z.size:=by
        rw[<-hl,yW,uE,s]
       exact zJB hL (newV:=(Builtin.zeroCells zv.cells y).toList) (by rw[Array.toArray_toList];exact AppSrc.zeros (hX.run_und hd w) (hX.run_und T w) hi o m a.1.2 a.1.1) s N m q S (JW _ a.2 y) u Y
      .simp at u
     .simp at u
    .simp at u
   .simp at u
  .simp at u
 .simp at u
end
def zM1 (P:Program)(s:Sem Next)(R:Ren)(H:AH)(w:World)(v:AV)(H':AH):Prop:=
 ∃(f:Ren) (a:World) (z:Value),(s.run P w= .ok (.value z) a\/(s.run P w= .ok .skip a/\z=undef))/\VR f v z/\Rel f H' a/\Ext R H w f H' a
theorem zN6.next {P:Sem Value}(R:zN6 q P s n t h E):zM1 q (do pure (Next.value (← P))) s n t h E:=by
 obtain⟨a,f,z,j,m⟩:=R;exact⟨a,f,z, .inl (xP j),m⟩
section
variable {P:Program}{X:Cx}(hX:Ok P X){R:Ren}{H:AH}{w:World}(hL:Rel R H w)
include hX hL
theorem zJz (t:zCL X k h p H=some n)(hp:VR R h C)(m:VR R p f):
  ∃a,(Instr.storeAt k C f).run P w= .ok () a/\Rel R n a/\Ext R H w R n a:=by
 unfold zCL at t;split at t
 .rename_i A off;split at t
  .rename_i l e sz g x;split at t
   .rename_i j z;simp only[zF]at t;split at t
    .rename_i pv;simp only[zE,zX,jY,qE]at pv;split at t
     .rename_i l' o;unfold fX at t;split at t
      .rename_i N q;simp only[zB]at t;subst t;obtain⟨b,d,c,hr,rfl⟩:=hp;have u:=zRj _ _ (uG m);rw[yW]at u;obtain⟨a,y,J,K⟩:=hL.stores x hr (P:=P) o pv.2 (uG m) pv.1.2 q;refine⟨a, ?_,J,K⟩;simp only[Instr.storeAt,Instr.sureAddr,storeVar,zH,zO,Result.andThen,hX.run_size z];rw[if_neg (by have:=pv.1.1;simp;omega)];exact y
      .simp at t
     .simp at t
    .simp at t
   .simp at t
  .simp at t
 .simp at t
theorem zLN {ty:TypeId}{ts:Array TypeId}(s:ts[0]? =some k)(t:zGc X k h p H=some (L,n))(y:VR R h C)(j:VR R p f):zN6 P (Builtin.copy_ ts ty #[C,f]) R H w L n:=by
 unfold zGc at t;split at t
 .rename_i e hd;have o:=hX.run_und hd w;split at t
  .rename_i sz u;have m:=hX.run_size u w;split at t
   .simp only[VR]at y;subst y;split at t
    .simp only[zB,zU]at t;obtain⟨rfl,rfl⟩:=t;simp only[VR]at j;subst j;refine⟨R,w,goInt 0, ?_,rfl,hL,zRr R H w⟩;simp[Builtin.copy_,s,zH,o,m,Builtin.lenOf,Builtin.firstCells,zO]
    .simp only[zB,zU]at t;obtain⟨rfl,rfl⟩:=t;obtain⟨b,d,c,hr,rfl⟩:=j;refine⟨R,w,goInt 0, ?_,rfl,hL,zRr R H w⟩;have: ∀a:Addr,(loadCells a 0).run P w= .ok #[] w:=fun a=>rfl
     simp[Builtin.copy_,s,zH,o,m,Builtin.lenOf,Builtin.firstCells,zO,this]
    .simp only[zB,zU]at t;obtain⟨rfl,rfl⟩:=t;obtain⟨s',rfl,J,K⟩:=j;refine⟨R,w,goInt 0, ?_,rfl,hL,zRr R H w⟩;simp[Builtin.copy_,s,zH,o,m,Builtin.lenOf,Builtin.firstCells,zO]
    .simp at t
   .rename_i A off len cc;split at t
    .rename_i v new T;obtain⟨Y,a3,N⟩:=zE7 (P:=P) hL T j;simp only at t;split at t
     .rename_i a2 S;obtain⟨e1,e2⟩:=zAa _ _ _ S;simp only[zF]at t;split at t
      .rename_i O;split at t
       .rename_i l e' a4 g hA;split at t
        .rename_i l' q;split at t
         .rename_i H1 x;simp only[kF,zB,zU]at t;obtain⟨rfl,rfl⟩:=t;unfold fX at x;split at x
          .rename_i t' a0;simp only[zB]at x;subst x;obtain⟨b,d,c,hr,rfl⟩:=y;obtain⟨vs,a1,z⟩:=N (Nat.min v len) (Nat.min_le_left _ _);rw[<-e1]at z;obtain⟨q,u⟩:=zH5 (by rw[zF];exact q);obtain⟨w',J,K,h3⟩:=hL.stores hA hr (P:=P) q u z O a0;refine⟨R,w',goInt (Nat.min v len:Nat), ?_,rfl,K,h3⟩;have Z:=a1 w rfl;simp only[Builtin.copy_,s,zH,o,m,Result.andThen,List.getElem?_toArray,List.getElem?_cons_zero,j7,Y,Z,J,zO]
          .simp at x
         .simp at t
        .simp at t
       .simp at t
      .simp at t
     .simp at t
    .simp at t
   .simp at t
  .simp at t
 .simp at t
theorem simE {fr:Frame}(f:EnvR R l i fr.tmps)(env:aE X l H V.op=some (h,n)):zM1 P (execOp fr.eval V) R H w h n:=by
 obtain⟨dst,op,ty,pos,after,guard⟩:=V;simp only at env;unfold aE at env;split at env
 .rename_i t a x;unfold BK at env;split at env
  .rename_i p hp;split at env
   .rename_i y hy;split at env
    .rename_i H1 a2;simp only[zB,zU]at env;obtain⟨rfl,rfl⟩:=env;obtain⟨j,m,q,S⟩:=zJz hX hL a2 (kR f _ _ hp) (kR f _ _ hy);refine⟨R,j,undef, .inr ⟨?_,rfl⟩,⟨[],rfl,rfl⟩,q,S⟩;simp only[execOp,zH,m,Result.andThen];rfl
    .simp at env
   .simp at env
  .simp at env
 .unfold c3 at env;split at env
  .rename_i a C;split at env
   .rename_i b hb;split at env
    .rename_i c hc;unfold aup at env;split at env
     .rename_i kt et Z;split at env
      .rename_i ks hk;obtain⟨rfl,j,m,q,S⟩:=zPF hX hL Z hk env (kR f _ _ C) (kR f _ _ hb) (kR f _ _ hc);refine⟨R,j,undef, .inr ⟨?_,rfl⟩,⟨[],rfl,rfl⟩,q,S⟩;simp only[execOp,zH,m,Result.andThen];rfl
      .simp at env
     .simp at env
    .simp at env
   .simp at env
  .simp at env
 .rename_i c;split at env
  .rename_i b hc;obtain⟨callee,args,T⟩:=c;simp only at hc env;subst hc;unfold uZ at env;split at env
   .split at env
    .rename_i s x N;split at env
     .rename_i t u K;unfold cV at env;split at env
      .rename_i a C;split at env
       .rename_i b hb;have J:args.map fr.eval= #[fr.eval s,fr.eval x]:=by apply Array.toList_inj.1;simp[N]
        have a1:T= #[t,u]:=by apply Array.toList_inj.1;simp[K]
        have a0: ∀du,X.und u=some du->(∀k,du≠ .int k)->d9 X t a b H=some (h,n)->zM1 P (execOp fr.eval { dst,op:= .call { callee:= .builtin .append,args,argTypes:=T},type:=ty,pos,after,guard}) R H w h n:=by
         intro du O a3 a4;obtain⟨R',j,z,m,q⟩:=zGd (P:=P) (ty:=ty) hX hL a4 O a3 (kR f _ _ C) (kR f _ _ hb);refine⟨R',j,z, .inl ?_,q⟩;simp only[execOp,resolve,invoke,builtin,J,a1,zH,zO,Result.andThen,m]
        split at env
        .rename_i du O;exact a0 _ O (by simp) env
        .rename_i O;exact a0 _ O (by simp) env
        .rename_i k O;obtain⟨R',j,z,m,q⟩:=zLS (P:=P) (ty:=ty) hX hL env O (kR f _ _ C) (kR f _ _ hb);refine⟨R',j,z, .inl ?_,q⟩;simp only[execOp,resolve,invoke,builtin,J,a1,zH,zO,Result.andThen,m]
        .simp at env
       .simp at env
      .simp at env
     .simp at env
    .simp at env
   .split at env
    .rename_i s x N;split at env
     .rename_i t ts K;unfold zIZ at env;split at env
      .rename_i a C;split at env
       .rename_i b hb;have J:args.map fr.eval= #[fr.eval s,fr.eval x]:=by apply Array.toList_inj.1;simp[N]
        have Y:T[0]? =some t:=by rw[<-yS,K];rfl
        obtain⟨R',j,z,m,q⟩:=zLN (P:=P) (ty:=ty) hX hL Y env (kR f _ _ C) (kR f _ _ hb);refine⟨R',j,z, .inl ?_,q⟩;simp only[execOp,resolve,invoke,builtin,J,zH,zO,Result.andThen,m]
       .simp at env
      .simp at env
     .simp at env
    .simp at env
   .split at env
    .rename_i s x N;split at env
     .rename_i t ts K;unfold c2 at env;split at env
      .rename_i a C;split at env
       .rename_i b hb;have J:args.map fr.eval= #[fr.eval s,fr.eval x]:=by apply Array.toList_inj.1;simp[N]
        have Y:T[0]? =some t:=by rw[<-yS,K];rfl
        unfold adl at env;split at env
        .rename_i kt et Z;split at env
         .rename_i ks hk;obtain⟨rfl,j,m,q,S⟩:=zQP (ty:=ty) hX hL Y Z hk env (kR f _ _ C) (kR f _ _ hb);refine⟨R,j,_, .inl ?_,⟨[],rfl,rfl⟩,q,S⟩;simp only[execOp,resolve,invoke,builtin,J,zH,zO,Result.andThen,m]
         .simp at env
        .simp at env
       .simp at env
      .simp at env
     .simp at env
    .simp at env
   .split at env
    .rename_i s N;split at env
     .rename_i t ts K;unfold c1 at env;split at env
      .rename_i a C;have J:args.map fr.eval= #[fr.eval s]:=by apply Array.toList_inj.1;simp[N]
       have Y:T[0]? =some t:=by rw[<-yS,K];rfl
       unfold acl at env;split at env
       .rename_i kt et Z;obtain⟨rfl,j,m,q,S⟩:=zQW (ty:=ty) hX hL Y Z env (kR f _ _ C);refine⟨R,j,_, .inl ?_,⟨[],rfl,rfl⟩,q,S⟩;simp only[execOp,resolve,invoke,builtin,J,zH,zO,Result.andThen,m]
       .simp at env
      .simp at env
     .simp at env
    .simp at env
   .simp at env
  .simp at env
 .simp at env
end
theorem zAY (R:Ren):VR R jQ undef:=by
 simp only[jQ,VR];exact⟨[],rfl,rfl⟩
def Out (k:List Item):AExit->List Item->Prop
 | .normal,td=>td=k
 | .exit id,td=> ∃k',td= .code (.exit id)::k'/\exitTo id k'=exitTo id k
 | .ret,td=> ∃k',td= .code .ret::k'
def zJR (P:Program)(nt:Nat)(c:Code)(env:Env)(H:AH)(m:AExit)(env':Env)(H':AH):Prop:=
 ∀(R:Ren) (fr:Frame) (k:List Item) (cs:List Frame) (w:World),fr.mode= .run->fr.todo= .code c::k->EnvR R env nt fr.tmps->Rel R H w->
  ∃a f h j,Steps P (lone fr cs w) (lone { fr with tmps:=h,todo:=j} cs f)/\Out k m j/\EnvR a env' nt h/\Rel a H' f/\Ext R H w a H' f
def zP6 (P:Program)(f:FuncId)(args:List AV)(H:AH)(v:AV)(H':AH):Prop:=
 (∃m,P.funcs[f]? =some m/\m.body.isSome=true)/\
 ∀(R:Ren) (az:List Value) (cs:List Frame) (w:World),VRL R args az->Rel R H w->
  ∃j a z h,Steps P (lone (Frame.enter P f ⟨az⟩ .normal) cs w) (lone h cs a)/\h.fn=f/\h.leaving P a (.returned z)/\VR j v z/\Rel j H' a/\Ext R H w j H' a
def zRa (P:Program)(f:FuncId)(args:List AV)(H:AH)(v:AV)(H':AH):Prop:=
 ∀(R:Ren) (az:List Value) (w:World),VRL R args az->Rel R H w->
  ∃a h z,(callFunc f ⟨az⟩).run P w= .ok (.value z) h/\VR a v z/\Rel a H' h/\Ext R H w a H' h
def zJS (P:Program)(f:FuncId)(args:List AV)(H:AH)(v:AV)(H':AH):Prop:=H.next<=H'.next/\(zP6 P f args H v H'\/zRa P f args H v H')
def zCV (P:Program)(A:Nat)(args:List AV)(H:AH)(v:AV)(H':AH):Prop:=
 H.next<=H'.next/\ ∀(R:Ren) (az:List Value) (fr:Frame) (cs:List Frame) (w:World) (b d c:Nat),R A b d c->VRL R args az->Rel R H w->
  ∃L:Loop,w.heap[b]? =some (.loop L)/\az.length=L.params.size/\
   ∃f h z,Steps P (lone (Frame.round b L.fn ((L.params.zip az.toArray).foldl (fun j (t,a)=>j.setIfInBounds t a) L.tmps) L.assign L.body .normal) (fr::cs) w) (lone (fr.finish z) cs h)/\VR f v z/\Rel f H' h/\Ext R H w f H' h
structure Good (P:Program)(r:Fns):Prop where
 call: ∀f args H v H',r.call f args H=some (v,H')->zJS P f args H v H'
 yld: ∀A args H v H',r.yld A args H=some (v,H')->zCV P A args H v H'
theorem zD0 (h:EnvR s l i F)(hb:ZF v l V=some U):Region.wanted V (yielded v F)=U:=by
 unfold ZF at hb;unfold Region.wanted;split at hb
 .rename_i m;simp only[zB]at hb;subst hb;simp[m]
 .rename_i j u m;simp only[m];unfold zGm at hb;simp only[yielded];rw[zDj,yS]at hb
  cases z:v[j]? with
  | none=>rw[z]at hb;simp only[zB]at hb;subst hb;simp
  | some p=>
   rw[z]at hb;simp only[yK]at hb⊢
   cases y:p.dst with
   | none=>rw[y]at hb;simp only[zB]at hb;subst hb;simp
   | some d=>
    rw[y]at hb;simp only at hb;split at hb
    .rename_i x q;simp only[zB]at hb;subst hb;have J:d<i:=by
      rcases Nat.lt_or_ge d i with t | t
      .exact t
      .rw[h.out d t]at q;simp at q
     have C:d<F.size:=by rw[h.size];exact J
     simp only[yK,Array.getElem?_eq_getElem C];have a:=h.get d x q;have K:F.getD d undef=F[d]:=by
      rw[yA,Array.getElem?_eq_getElem C];rfl
     rw[K]at a;generalize F[d]=R at a
     cases x<;>first
      | (simp only[VR]at a;subst a;simp[isW];done)
      | (simp only[VR]at a;subst a;cases u<;>simp[isW,BEq.beq];done)
      | (obtain⟨_,rfl,_⟩:=a;simp[isW];done)
      | (obtain⟨_,_,rfl⟩:=a;simp[isW];done)
      | (obtain⟨_,_,_,_,rfl⟩:=a;simp[isW];done)
      | (obtain⟨_,_,rfl,_⟩:=a;simp[isW];done)
      | (simp only[VR]at a;subst a;cases R<;>first | (simp[isW];done) | (rename_i U;cases u<;>cases U<;>simp[isW,BEq.beq];done))
      | exact absurd a (by simp[VR])
    .simp at hb
theorem wA_ok (hL:Rel s n t){R:Sem Value}{f:Nat->AV}(hm:zA3 s q R g f t)(H':wA n (some (g,f))=some (h,E)):zN6 q R s n t h E:=by
 unfold wA at H';simp only at H';split at H'
 .rename_i A u m;obtain⟨y,j,rfl,rfl,_⟩:=fY m
  .simp only[zB,zU]at H';obtain⟨rfl,rfl⟩:=H';obtain⟨x,c,k,z,o,p⟩:=hm;obtain⟨P,H⟩:=p n.next
   refine⟨_,_,z,o,H,(hL.drew k).new j P, ?_⟩;exact(Ext.drew s n t k).trans (Ext.add (w:= { t with drawn:=k}) j)
 .simp at H'
section
variable {P:Program}{X:Cx}(hX:Ok P X){r:Fns}(hr:Good P r)
def zR9 (P:Program)(fr:Frame)(ops:Array Oper)(rest:List Nat)(k:List Item)(cs:List Frame)(o:Oper)(R:Ren)(H:AH)(w:World)(v:AV)(H':AH):Prop:=
 ∃a f z,Steps P (lone fr cs w) (lone { fr with tmps:=zCW fr.tmps o.dst z,todo:= .inRegion ops rest::k} cs f)/\VR a v z/\Rel a H' f/\Ext R H w a H' f
theorem uU {fr:Frame}{k:List Item}{cs:List Frame}
  (hm:fr.mode= .run) (f:fr.todo= .inRegion v (i::A)::k) (j:v[i]? =some V) (m:Region.wanted V (yielded v fr.tmps)=true) (hd: ∀c,V.op≠ .defer c) (rest:zM1 P (execOp fr.eval V) s n t h E):zR9 P fr v A k cs V s n t h E:=by
 obtain⟨p,q,z,a,ops⟩:=rest;refine⟨p,q,z, ?_,ops⟩;rw[<-kH f j];rcases a with a | ⟨a,rfl⟩
 .exact .one (uV hm f j m hd a)
 .exact .one (zFB hm f j m hd a)
include hX hr in
theorem zEs {fr:Frame}{k:List Item}{cs:List Frame}{w:World}{nt:Nat}
  (hm:fr.mode= .run) (j:fr.todo= .inRegion v (i::A)::k) (m:v[i]? =some V) (u:Region.wanted V (yielded v fr.tmps)=true) (p:EnvR s l nt fr.tmps) (hL:Rel s n w)
  (o:opF X r l n V.op=some (h,E)):zR9 P fr v A k cs V s n w h E:=by
 have hd: ∀c,V.op≠ .defer c:=by
  intro c q;rw[q]at o;simp[opF,cls,aE]at o
 unfold opF at o;split at o
 .unfold wV at o;split at o
  .rename_i x hx;simp only[zB,zU]at o;obtain⟨rfl,rfl⟩:=o;obtain⟨z,Y,Z⟩:=simP hX hL.fn (w:=w) p hx;exact uU hm j m u hd ⟨s,w,z, .inl Y,Z,hL,zRr s n w⟩
  .simp at o
 .unfold wV at o;split at o
  .rename_i x hx;simp only[zB,zU]at o;obtain⟨rfl,rfl⟩:=o;obtain⟨z,Y,Z⟩:=simL hX hL p hx;exact uU hm j m u hd ⟨s,w,z, .inl Y,Z,hL,zRr s n w⟩
  .simp at o
 .have h':=o;unfold wA at h';split at h'
  .rename_i ob mk hA;obtain⟨rest,hs,b6⟩:=simA hX (w:=w) p hA;rw[hA]at o;have:=(wA_ok hL b6 o).next
   rw[<-hs]at this;exact uU hm j m u hd this
  .simp at h'
 .exact uU hm j m u hd (simE hX hL p o)
 .unfold opF.callO at o;split at o
  .rename_i c J;split at o
   .rename_i f q;unfold opF.callV at o;split at o
    .rename_i g first cap hf
     split at o
     .rename_i az a2;obtain⟨y,C,a0,Y,Z⟩:=kR p _ _ hf
      have h3:=WZ p _ _ a2;have a4:VRL s (first++az++cap) ((y++c.args.toList.map fr.eval)++C):=(Y.append h3).append Z
      rcases(hr.call _ _ _ _ _ o).2 with⟨⟨fn,a8,b9⟩,b1⟩ | b3
      rotate_left
      .obtain⟨R',K,z,b2,hv,N,O⟩:=b3 s _ w a4 hL;have S:(execOp fr.eval V).run P w= .ok (.value z) K:=by
        obtain⟨dst,op,ty,a9,a5,a6⟩:=V;obtain⟨a3,args,a7⟩:=c;simp only at J q;subst J q;have T:(⟨y⟩:Array Value)++args.map fr.eval++⟨C⟩=⟨(y++args.toList.map fr.eval)++C⟩:=by
         apply Array.toList_inj.1;simp
        simp only[execOp,resolve,a0,Deferred.ofValue,zH,zO,Result.andThen,invoke,T];simpa using b2
       refine⟨R',K,z, ?_,hv,N,O⟩;rw[<-kH j m];exact .one (uV hm j m u hd S)
      obtain⟨R',K,z,c2,a1,c1,b0,hv,N,O⟩:=b1 s _ (fr::cs) w a4 hL;have S:(execOp fr.eval V).run P w= .ok (.enter g ⟨(y++c.args.toList.map fr.eval)++C⟩) w:=by
       obtain⟨dst,op,ty,a9,a5,a6⟩:=V;obtain⟨a3,args,a7⟩:=c;simp only at J q;subst J q;have b7:=hX.nm g fn a8;have hb:fn.body.isNone=false:=by cases hh:fn.body<;>simp_all
       have T:(⟨y⟩:Array Value)++args.map fr.eval++⟨C⟩=⟨(y++args.toList.map fr.eval)++C⟩:=by
        apply Array.toList_inj.1;simp
       simp only[execOp,resolve,a0,Deferred.ofValue,zH,zO,Result.andThen,invoke,callFunc,program,Sem.run,a8,b7,zL,qD,hb,T]
      refine⟨R',K,z, ?_,hv,N,O⟩;rw[<-kH j m];exact(Steps.one (zKh hm j m u hd S)).trans (a1.trans (.one (step_leave_returned b0)))
     .simp at o
    .rename_i ops hf;split at o
     .rename_i az a2;obtain⟨_,hy⟩:=hr.yld _ _ _ _ _ o;obtain⟨b,d,c0,b8,a0⟩:=kR p _ _ hf;have h3:=WZ p _ _ a2;obtain⟨L,hb,b4,R',K,z,a1,hv,N,O⟩:=hy s _ fr cs w b d c0 b8 h3 hL;have S:(execOp fr.eval V).run P w= .ok (.round b L.fn ((L.params.zip (c.args.toList.map fr.eval).toArray).foldl (fun b5 (t,a)=>b5.setIfInBounds t a) L.tmps) L.assign L.body) w:=by
       obtain⟨dst,op,ty,a9,a5,a6⟩:=V;obtain⟨a3,args,a7⟩:=c;simp only at J q;subst J q;have T:(args.toList.map fr.eval).toArray=args.map fr.eval:=by apply Array.toList_inj.1;simp
       have:=run_yield (P:=P) (args:=args.map fr.eval) hb (by simpa using b4);simp only[execOp,resolve,a0,Deferred.ofValue,zH,zO,Result.andThen,invoke,T];simpa using this
      refine⟨R',K,z, ?_,hv,N,O⟩;rw[<-kH j m];exact(Steps.one (zKe hm j m u hd S)).trans a1
     .simp at o
    .simp at o
   .simp at o
  .simp at o
end
section
variable {X:Cx}{env env':Env}
theorem aN: ∀(xs:List Operand),(∀x∈xs,opd env x=opd env' x)->zCX env xs=zCX env' xs
 | [],_=>rfl
 | x::xs,h=>by
  simp only[zCX];rw[h x (zJ ..),aN xs (fun y a=>h y (zC _ a))]
theorem ZM: ∀(ps:List (Nat×Operand)),(∀x∈ps.map (·.2),opd env x=opd env' x)->uN env ps=uN env' ps
 | [],_=>rfl
 | (i,x)::ps,h=>by
  simp only[uN];rw[h x (by simp),ZM ps (fun y a=>h y (by simp at a⊢;exact .inr a))]
theorem WY (x:Option Operand)(h: ∀y∈x.toArray.toList,opd env y=opd env' y):dK env x=dK env' x:=by
 cases x with
 | none=>rfl
 | some x=>simp only[dK];rw[h x (by simp)]
theorem zFq (o:Op)(h: ∀x∈o.operands.toList,opd env x=opd env' x):aP X env o=aP X env' o:=by
 cases o<;>simp only[aP]<;>simp only[Op.operands]at h
 case move x=>exact h x (by simp)
 case assign x=>exact h x (by simp)
 case pick c a b=>simp only[zFL];rw[h c (by simp),h a (by simp),h b (by simp)]
 case build t ps=>simp only[JI];rw[ZM ps.toList (fun x j=>h x (by simpa using j))]
 case nilCheck x=>rw[h x (by simp)]
 case binOp op t x y t'=>rw[h x (by simp),h y (by simp)]
 case unOp op t x=>rw[h x (by simp)]
 case convert s d x=>rw[h x (by simp)]
 case makeFunc fn first cap=>
  cases fn<;>simp only[aP]
  simp only[zFM];rw[aN first.toList (fun x j=>h x (by simp;exact .inl (by simpa using j))),aN cap.toList (fun x j=>h x (by simp;exact .inr (by simpa using j)))]
 case fieldAddr s x f=>rw[h x (by simp)]
 case field s x f=>rw[h x (by simp)]
 case indexAddr t x i=>rw[h x (by simp),h i (by simp)]
 case index t x i=>rw[h x (by simp),h i (by simp)]
 case sliceToArrayPointer t x=>rw[h x (by simp)]
 case extract x i=>rw[h x (by simp)]
 case call c=>
  have m: ∀x∈c.args.toList,opd env x=opd env' x:=fun x j=>h x (by simp[Call.operands];right;simpa using j)
  split<;>try rfl
  .split<;>try rfl
   rename_i x j;split<;>try rfl
   rw[m x (by rw[j];simp)]
  .split<;>try rfl
   rename_i x y j;rw[m x (by rw[j];simp),m y (by rw[j];simp)]
  .split<;>try rfl
   rename_i x y j;rw[m x (by rw[j];simp),m y (by rw[j];simp)]
theorem zFr (o:Op)(h: ∀x∈o.operands.toList,opd env x=opd env' x):aL X env n o=aL X env' n o:=by
 cases o<;>simp only[aL]<;>simp only[Op.operands]at h
 case load t a=>rw[h a (by simp)]
 case lookup t x k ok=>rw[h x (by simp),h k (by simp)]
 case slice t x lo hi mx=>
  simp only[ZA];rw[h x (by simp),WY lo (fun y f=>h y (by simp at f⊢;exact .inr (.inl f))),WY hi (fun y f=>h y (by simp at f⊢;exact .inr (.inr (.inl f)))),WY mx (fun y f=>h y (by simp at f⊢;exact .inr (.inr (.inr f))))]
 case convert s d x=>rw[h x (by simp)]
 case binOp op t x y p=>rw[h x (by simp),h y (by simp)]
 case call c=>
  split<;>try rfl
  split<;>try rfl
  rename_i x j;split<;>try rfl
  rw[h x (by
        simp[Call.operands];right;have:x∈c.args.toList:=by rw[j];simp
        simpa using this)]
theorem zFs (o:Op)(h: ∀x∈o.operands.toList,opd env x=opd env' x):aA X env o=aA X env' o:=by
 cases o<;>simp only[aA]<;>simp only[Op.operands]at h
 case box e x=>rw[h x (by simp)]
 case buildSlice t len ps=>simp only[Q9];rw[ZM ps.toList (fun x a=>h x (by simpa using a))]
 case makeSlice t l c=>rw[h l (by simp),h c (by simp)]
 case convert s d x=>rw[h x (by simp)]
 case makeMap t r=>cases r<;>rfl
theorem zLU (o:Op)(h: ∀x∈o.operands.toList,opd env x=opd env' x):aE X env n o=aE X env' n o:=by
 cases o<;>simp only[aE]<;>simp only[Op.operands]at h
 case store t a x=>rw[h a (by simp),h x (by simp)]
 case mapUpdate t m k v=>rw[h m (by simp),h k (by simp),h v (by simp)]
 case call c=>
  split<;>try rfl
  rename_i b hb;have j: ∀x∈c.args.toList,opd env x=opd env' x:=fun x p=>h x (by simp[Call.operands];right;simpa using p)
  unfold uZ;split
  .split<;>try rfl
   rename_i s x f;split<;>try rfl
   rw[j s (by rw[f];simp),j x (by rw[f];simp)]
  .split<;>try rfl
   rename_i s x f;split<;>try rfl
   rw[j s (by rw[f];simp),j x (by rw[f];simp)]
  .split<;>try rfl
   rename_i s x f;split<;>try rfl
   rw[j s (by rw[f];simp),j x (by rw[f];simp)]
  .split<;>try rfl
   rename_i s f;split<;>try rfl
   rw[j s (by rw[f];simp)]
  .rfl
theorem zBI {r:Fns}(o:Op)(h: ∀x∈o.operands.toList,opd env x=opd env' x):opF X r env n o=opF X r env' n o:=by
 unfold opF;split
 .rw[zFq o h]
 .rw[zFr o h]
 .rw[zFs o h]
 .rw[zLU o h]
 .cases o<;>try rfl
  case call c hcls=>
  simp only[opF.callO];simp only[Op.operands]at h;split<;>try rfl
  rename_i f a;rw[h f (by simp[Call.operands,a]),aN c.args.toList (fun x j=>h x (by simp[Call.operands];right;simpa using j))]
end
def zRe (H a:AH):Prop:= ∀A o,H.h.get A=some o->a.h.get A=some o
theorem zLT (q:zRe n E)(o:Op)(env:aL Q l n o=some h):aL Q l E o=some h:=by
 have J: ∀t p h,VF Q t p n=some h->VF Q t p E=some h:=by
  intro t p h env;unfold VF at env⊢;split at env
  .rename_i A off;split at env
   .rename_i X e sz g f;rw[q _ _ f];exact env
   .simp at env
  .simp at env
 have K: ∀s d x h,JX Q s d x n=some h->JX Q s d x E=some h:=by
  intro s d x h env;unfold JX at env⊢;split at env
  .split at env
   .split at env
    .split at env
     .exact env
     .split at env
      .rename_i X Y sz g f;rw[q _ _ f];exact env
      .simp at env
     .simp at env
    .simp at env
   .simp at env
  .simp at env
 have N: ∀t x h,zDP Q t x n=some h->zDP Q t x E=some h:=by
  intro t x h env;unfold zDP at env⊢;split at env
  .exact env
  .exact env
  .exact env
  .exact env
  .exact env
  .exact env
  .split at env
   .rename_i ks es f;rw[q _ _ f];exact env
   .simp at env
  .simp at env
 have O: ∀ks z ok x k h,lkM ks z ok x k n=some h->lkM ks z ok x k E=some h:=by
  intro ks z ok x k h env;unfold lkM at env⊢;rw[zF]at env⊢;split at env
  .rename_i Z;rw[if_pos Z];split at env
   .exact env
   .split at env
    .rename_i a0 es f;rw[q _ _ f];exact env
    .simp at env
   .simp at env
  .simp at env
 have C: ∀A,QS A n=true->QS A E=true:=by
  intro A env;unfold QS at env⊢;split at env
  .rename_i o f;rw[q _ _ f];exact env
  .simp at env
 have S: ∀m x y h,pNe m x y n=some h->pNe m x y E=some h:=by
  intro m x y h env;unfold pNe at env⊢;split at env
  .split at env
   .rw[zF]at env⊢;split at env
    .rename_i u;simp only[zE]at u;rw[if_pos (by simp only[zE];exact⟨C _ u.1,C _ u.2.1,u.2.2⟩)];exact env
    .simp at env
   .simp at env
  .simp at env
 have T: ∀m t x y h,zAX Q m t x y n=some h->zAX Q m t x y E=some h:=by
  intro m t x y h env;unfold zAX at env⊢;split at env
  .exact env
  .split at env
   .split at env
    .simp at env
    .exact S _ _ _ _ env
    .simp at env
   .simp at env
 cases o<;>simp only[aL]at env⊢ <;>try(simp at env;done)
 case binOp m t x y p=>
  unfold b2 at env⊢;split at env
  .split at env
   .exact T _ _ _ _ _ env
   .simp at env
  .simp at env
 case load t a=>
  unfold b1 at env⊢;split at env
  .exact J _ _ _ env
  .simp at env
 case lookup t x k ok=>
  unfold b2 at env⊢;split at env
  .split at env
   .unfold zJC at env⊢;split at env
    .split at env
     .split at env
      .exact O _ _ _ _ _ _ env
      .simp at env
     .simp at env
    .simp at env
   .simp at env
  .simp at env
 case slice t x lo hi mx=>
  unfold ZA at env⊢;split at env
  .split at env
   .split at env
    .split at env
     .unfold ZE at env⊢;split at env
      .split at env
       .exact env
       .exact env
       .split at env
        .split at env
         .rename_i X Y a1 g f;rw[q _ _ f];exact env
         .simp at env
        .simp at env
       .exact env
       .exact env
       .exact env
       .simp at env
      .simp at env
     .simp at env
    .simp at env
   .simp at env
  .simp at env
 case convert s d x=>
  unfold b1 at env⊢;split at env
  .exact K _ _ _ _ env
  .simp at env
 case call c=>
  split at env
  .split at env
   .split at env
    .unfold b1 at env⊢;split at env
     .exact N _ _ _ env
     .simp at env
    .simp at env
   .simp at env
  .simp at env
theorem nodup_le: ∀(n:Nat) (l:List Nat),l.Nodup->(∀x∈l,x<n)->l.length<=n
 | 0,l,_,h=>by
  cases l with
  | nil=>simp
  | cons x l=>exact absurd (h x (zJ ..)) (by omega)
 | n+1,l,hn,h=>by
  have f:=nodup_le n (l.erase n) (hn.erase n) (fun x a=>by
   have:=(List.Nodup.mem_erase_iff hn).1 a;have:=h x this.2;omega)
  have j:l.length<=(l.erase n).length+1:=by rw[List.length_erase];split<;>omega
  omega
theorem zBJ (f:A.Nodup)(h: ∀x∈A,x<i)(hl:A.length=i): ∀n,n<i->n∈A:=by
 intro n hi;refine Classical.byContradiction fun j=> ?_
 have:=nodup_le i (n::A) (List.nodup_cons.2 ⟨j,f⟩) (fun x a=>by
  rcases zK.1 a with rfl | a
  .exact hi
  .exact h x a)
 simp at this;omega
def Valid (md:Region.Mode)(ops:Array Oper):List Nat->List Nat->Prop
 | _,[]=>True
 | done,j::rest=>j∉done/\j<ops.size/\(∀o,ops[j]? =some o-> ∀e∈o.after.toList,Region.binds md e=true->e.on∈done)/\Valid md ops (j::done) rest
def VK (ops:Array Oper)(a:Array Bool)(f:List Nat):Prop:=a.size=ops.size/\ ∀i,a.getD i false=true↔i∈f/\i<ops.size
theorem WS {md:Region.Mode}{ops:Array Oper}{a:Array Bool}{h:List Nat}(hl:VK ops a h){j:Nat} :j∈Region.ready md ops a↔
  j<ops.size/\j∉h/\ ∀o,ops[j]? =some o-> ∀e∈o.after.toList,Region.binds md e=true->e.on∈h/\e.on<ops.size:=by
 have q: ∀i,i<ops.size->a.getD i true=a.getD i false:=by
  intro i hi;rw[yA,yA,Array.getElem?_eq_getElem (by rw[hl.1];exact hi)];rfl
 unfold Region.ready;rw[List.mem_filter,List.mem_range];constructor
 .rintro⟨h1,h2⟩
  rw[q j h1]at h2;simp only[zE,yU]at h2;refine⟨h1,fun m=> ?_,fun o f e p hb=> ?_⟩
  .have:=(hl.2 j).2 ⟨m,h1⟩;rw[this]at h2;simp at h2
  .rw[f]at h2;simp only[qB,y9,Array.all_eq_true_iff_forall_mem]at h2;have:=h2.2 e (by simpa using p);rw[hb]at this;simp only[Bool.not_true,Bool.false_or]at this;exact(hl.2 _).1 this
 .rintro⟨h1,h2,h3⟩
  refine⟨h1, ?_⟩;rw[q j h1];simp only[zE,yU];constructor
  .cases m:a.getD j false with
   | false=>rfl
   | true=>exact absurd ((hl.2 j).1 m).1 h2
  .have f:ops[j]? =some ops[j]:=Array.getElem?_eq_getElem h1;rw[f];simp only[qB,y9,Array.all_eq_true_iff_forall_mem];intro e p
   cases hb:Region.binds md e with
   | false=>rfl
   | true=>
    simp only[Bool.not_true,Bool.false_or];exact(hl.2 _).2 (h3 _ f e (by simpa using p) hb)
theorem UQ {a:Array Bool}(hl:VK v a A)(h:i<v.size):VK v (a.setIfInBounds i true) (i::A):=by
 refine⟨by simp[hl.1],fun ops=> ?_⟩;rw[yA,Array.getElem?_setIfInBounds];by_cases e:i=ops
 .subst e;rw[if_pos rfl,if_pos (by rw[hl.1];exact h)];simp[h]
 .rw[if_neg e,<-yA,hl.2 ops];simp[Ne.symm e]
theorem KF {md:Region.Mode}{ops:Array Oper} : ∀(fuel t:Nat) (a:Array Bool) (f:List Nat),VK ops a f->Valid md ops f (Region.linearise.go md ops fuel t a [])
 | 0,_,_,_,_=>by simp[Region.linearise.go,Valid]
 | fuel+1,t,a,f,hl=>by
  have h:Region.linearise.go md ops (fuel+1) t a []=match(Region.ready md ops a)[t % (Region.ready md ops a).length]? with
   | some i=>Region.linearise.go md ops fuel (t / (Region.ready md ops a).length) (a.setIfInBounds i true) [i]
   | none=>[]:=rfl
  rw[h];split
  .rename_i i hi;have hm:=(WS hl).1 (List.mem_of_getElem? hi);rw[linearise_go_acc,List.reverse_singleton,List.singleton_append];exact⟨hm.2.1,hm.1,fun o j e m hb=>(hm.2.2 o j e m hb).1,KF fuel _ _ _ (UQ hl hm.1)⟩
  .trivial
theorem fV {md:Region.Mode}{ops:Array Oper} : ∀(l f:List Nat),Valid md ops f l->l.Nodup/\(∀x∈l,x<ops.size/\x∉f)
 | [],_,_=>by simp
 | j::l,f,h=>by
  obtain⟨p,q,_,t⟩:=h;obtain⟨u,m⟩:=fV l _ t;refine⟨List.nodup_cons.2 ⟨fun o=>(m j o).2 (zJ ..),u⟩,fun x a=> ?_⟩;rcases zK.1 a with rfl | a
  .exact⟨q,p⟩
  .exact⟨(m x a).1,fun o=>(m x a).2 (zC _ o)⟩
theorem UF {md:Region.Mode}{ops:Array Oper}{m:Array Bool}{f:List Nat}(hl:VK ops m f)(t: ∀x∈f,x<ops.size): ∀(L h:List Nat),Valid md ops h L->(∀x∈h,x∈f)->(∃x∈L,x∉f)->Region.ready md ops m≠[]
 | [],_,_,_,⟨x,a,_⟩=>by simp at a
 | j::L,h,hv,hb,hex=>by
  obtain⟨S,z,C,J⟩:=hv;by_cases p:j∈f
  .refine UF hl t L (j::h) J (fun x a=> ?_) ?_
   .rcases zK.1 a with rfl | a
    .exact p
    .exact hb x a
   .obtain⟨x,a,u⟩:=hex;rcases zK.1 a with rfl | a
    .exact absurd p u
    .exact⟨x,a,u⟩
  .intro K;have q:j∈Region.ready md ops m:=by
    refine(WS hl).2 ⟨z,p,fun o N e O y=> ?_⟩;have hd:=hb _ (C o N e O y);exact⟨hd,t _ hd⟩
   rw[K]at q;simp at q
theorem dH: ∀(l m:List Nat),l.Nodup->(∀x∈l,x∈m)->l.length<=m.length
 | [],_,_,_=>by simp
 | x::l,m,hn,h=>by
  obtain⟨j,o⟩:=List.nodup_cons.1 hn;have a:=h x (zJ ..);have:=dH l (m.erase x) o (fun y f=>(List.mem_erase_of_ne (fun e=>j (by rw[<-e];exact f))).2 (h y (zC _ f)));rw[List.length_erase_of_mem a]at this;have hp:=List.length_pos_of_mem a;simp;omega
theorem zIl {md:Region.Mode}{ops:Array Oper}{L:List Nat}(hL:Valid md ops [] L)(m:L.length=ops.size): ∀(fuel t:Nat) (a:Array Bool) (f:List Nat),VK ops a f->(∀x∈f,x<ops.size)->f.length+fuel=ops.size->
  (Region.linearise.go md ops fuel t a []).length=fuel
 | 0,_,_,_,_,_,_=>by simp[Region.linearise.go]
 | fuel+1,t,a,f,hl,hds,hlen=>by
  have o:Region.linearise.go md ops (fuel+1) t a []=match(Region.ready md ops a)[t % (Region.ready md ops a).length]? with
   | some i=>Region.linearise.go md ops fuel (t / (Region.ready md ops a).length) (a.setIfInBounds i true) [i]
   | none=>[]:=rfl
  have p:Region.ready md ops a≠[]:=by
   refine UF hl hds L [] hL (by simp) (Classical.byContradiction fun q=> ?_);have:=dH L f (fV L [] hL).1 (fun x h=>Classical.byContradiction fun u=>q ⟨x,h,u⟩);omega
  have j:t % (Region.ready md ops a).length< (Region.ready md ops a).length:=Nat.mod_lt _ (List.length_pos_iff.2 p);rw[o,zQ j];simp only;have hm:=(WS hl).1 (yM j);rw[linearise_go_acc,List.reverse_singleton,List.singleton_append,zT,zIl hL m fuel _ _ _ (UQ hl hm.1) (fun x h=>by
   rcases zK.1 h with rfl | h
   .exact hm.1
   .exact hds x h) (by simp;omega)]
def bT (ops:Array Oper):VK ops (Array.replicate ops.size false) []:=
 ⟨by simp,fun i=>by
  rw[yA,Array.getElem?_replicate];by_cases h:i<ops.size<;>simp[h]⟩
theorem KZ {md:Region.Mode}{ops:Array Oper} : ∀(l a:List Nat),Valid md ops a l->Valid .any ops a l
 | [],_,_=>trivial
 | j::l,a,⟨h1,h2,h3,h4⟩=>⟨h1,h2,fun o f e h hb=>h3 o f e h (by
   revert hb
   cases m:e.ground<;>simp[Region.binds,m]),KZ l _ h4⟩
theorem cN {md:Region.Mode}(h:(Region.linearise md v 0).length=v.size)(t:Nat):Valid .any v [] (Region.linearise md v t)/\ ∀i,i<v.size->i∈Region.linearise md v t:=by
 have f:Valid md v [] (Region.linearise md v 0):=KF _ _ _ _ (bT v);have a:Valid md v [] (Region.linearise md v t):=KF _ _ _ _ (bT v);have hl:(Region.linearise md v t).length=v.size:=zIl f h _ _ _ _ (bT v) (by simp) (by simp);obtain⟨m,o⟩:=fV _ _ a;exact⟨KZ _ _ a,zBJ m (fun x j=>(o x j).1) hl⟩
theorem U4 {md:Region.Mode}{ops:Array Oper} : ∀(l pre:List Oper) (a:List Nat),ops.toList=pre++l->zJx l pre.length=true->(∀x,x∈a↔x<pre.length)->Valid md ops a (List.range' pre.length l.length)
 | [],_,_,_,_,_=>by simp[Valid]
 | o::l,pre,a,hops,hb,hd=>by
  have j:pre.length<ops.size:=by
   have:=congrArg List.length hops;simp at this;omega
  have m:ops[pre.length]? =some o:=by
   rw[<-yS,hops];simp
  simp only[zJx,kF,zE,yE,qE]at hb;rw[zT,List.range'_succ];refine⟨fun h=>absurd ((hd _).1 h) (Nat.lt_irrefl _),j,fun o' f e p _=> ?_, ?_⟩
  .rw[m]at f;injection f with f;subst f
   exact(hd _).2 (hb.1 e (by simpa using p))
  .have:=U4 (md:=md) l (pre++[o]) (pre.length::a) (by rw[hops];simp) (by simpa using hb.2) (fun x=>by
    simp only[zK,hd,zV,yR];omega)
   simpa using this
theorem fC {md:Region.Mode}(h:zJx v.toList 0=true)(t:Nat):Valid .any v [] (Region.linearise md v t)/\ ∀i,i<v.size->i∈Region.linearise md v t:=by
 have f:Valid md v [] (List.range' 0 v.toList.length):=U4 (md:=md) (ops:=v) v.toList [] [] rfl h (by simp);have a:Valid md v [] (Region.linearise md v t):=KF _ _ _ _ (bT v);have hl:(Region.linearise md v t).length=v.size:=zIl f (by simp) _ _ _ _ (bT v) (by simp) (by simp);obtain⟨m,o⟩:=fV _ _ a;exact⟨KZ _ _ a,zBJ m (fun x j=>(o x j).1) hl⟩
theorem zDa (h:zDm v=true)(a:Bool)(t:Nat):Valid .any v [] (Region.schedule a v t)/\ ∀i,i<v.size->i∈Region.schedule a v t:=by
 simp only[zDm,j6,zE,zX]at h;rcases h with h | h
 .unfold Region.schedule;split
  .exact fC h t
  .split
   .exact fC h _
   .exact fC h _
 .unfold Region.schedule;split
  .exact cN h.1.1 t
  .split
   .exact cN h.1.2 _
   .exact cN h.2 _
theorem UP (acc:List Nat): ∀(es:List Edge) (s i:Nat),(es.foldl (fun s e=>bif Region.binds .any e then s||| 2 ^ e.on||| acc.getD e.on 0 else s) s).testBit i=true->s.testBit i=true\/ ∃e∈es,Region.binds .any e=true/\(e.on=i\/(acc.getD e.on 0).testBit i=true)
 | [],s,i,h=> .inl h
 | e::es,s,i,h=>by
  simp only[List.foldl_cons]at h;rcases UP acc es _ i h with a | ⟨j,f,a⟩
  .cases hb:Region.binds .any e with
   | false=>rw[hb]at a;exact .inl a
   | true=>
    rw[hb]at a;simp only[zP,Nat.testBit_or,j6,Nat.testBit_two_pow,zR]at a;rcases a with(a | a) | a
    .exact .inl a
    .exact .inr ⟨e,zJ ..,hb, .inl a⟩
    .exact .inr ⟨e,zJ ..,hb, .inr a⟩
  .exact .inr ⟨j,zC _ f,a⟩
theorem ZX: ∀(l:List Oper) (acc:List Nat) (j:Nat),j<acc.length->(xD l acc).getD j 0=acc.getD j 0
 | [],acc,j,_=>rfl
 | o::l,acc,j,h=>by
  rw[xD,ZX l _ j (by simp;omega)];simp[qK,yY h]
theorem BV: ∀(l:List Oper) (acc:List Nat) (j:Nat) (o:Oper),l[j]? =some o-> ∃pre:List Nat,(∀k,k<acc.length+j->pre.getD k 0=(xD l acc).getD k 0)/\pre.length=acc.length+j/\(xD l acc).getD (acc.length+j) 0=zHW pre o.after.toList
 | [],_,_,_,h=>by simp at h
 | p::l,acc,0,o,h=>by
  simp at h;subst h;refine⟨acc,fun k m=> ?_,rfl, ?_⟩
  .rw[xD,ZX l _ k (by simp;omega)];simp[qK,yY (show k<acc.length by omega)]
  .rw[xD,ZX l _ _ (by simp)];simp[qK]
 | p::l,acc,j+1,o,h=>by
  simp at h;obtain⟨pre,a,q,f⟩:=BV l (acc++[zHW acc p.after.toList]) j o h;simp only[zV,yR]at a q f;refine⟨pre,fun k m=> ?_,by omega, ?_⟩
  .rw[xD];exact a k (by omega)
  .rw[xD,show acc.length+(j+1)=acc.length+1+j from by omega];exact f
theorem ZO {ops:Array Oper}{f:List Nat}(p: ∀j∈f,∀o,ops[j]? =some o-> ∀e∈o.after.toList,Region.binds .any e=true->e.on∈f):
  ∀(n j:Nat),j<=n->(∀o,ops[j]? =some o-> ∀e∈o.after.toList,Region.binds .any e=true->e.on∈f)-> ∀i,((xD ops.toList []).getD j 0).testBit i=true->i∈f
 | n,j,hjn,hj,i,h=>by
  cases m:ops.toList[j]? with
  | none=>
   have hl: ∀(l:List Oper) (acc:List Nat),(xD l acc).length=acc.length+l.length:=by
    intro l
    induction l with
    | nil=>intro acc;simp[xD]
    | cons o l ih=>intro acc;rw[xD,ih];simp;omega
   have:(xD ops.toList [])[j]? =none:=by
    rw[List.getElem?_eq_none_iff]at m⊢;rw[hl];simpa using m
   simp[qK,this]at h
  | some o=>
   obtain⟨pre,t,C,u⟩:=BV ops.toList [] j o m;simp only[yG,yZ]at t C u;rw[u]at h;rcases UP pre _ _ _ h with a | ⟨e,J,hb,a⟩
   .simp at a
   .have y:ops[j]? =some o:=by simpa using m
    have q:=hj o y e J hb;rcases a with rfl | a
    .exact q
    .by_cases z:e.on<j
     .rw[t _ z]at a
      cases n with
      | zero=>omega
      | succ n=>exact ZO p n e.on (by omega) (fun o' x=>p _ q o' x) i a
     .have:pre[e.on]? =none:=List.getElem?_eq_none (by omega);simp[qK,this]at a
def AO (H a:AH):Prop:=H.next<=a.next/\(∀A,A<H.next->a.h.get A=H.h.get A)/\zRe H a
def AO.refl (H:AH):AO H H:=⟨zM _,fun _ _=>rfl,fun _ _ h=>h⟩
theorem AO.trans {H a f:AH}(h:AO H a)(k:AO a f):AO H f:=
 ⟨qN h.1 k.1,fun A j=>(k.2.1 A (qG j h.1)).trans (h.2.1 A j),fun A o m=>k.2.2 A o (h.2.2 A o m)⟩
theorem AO.new {H:AH}(h:newA H g=some (i,n)):AO H n/\n.h.get H.next=some g/\n.next=H.next+1:=by
 obtain⟨a,m,rfl,rfl,p⟩:=fY h;have f:=T.get_set _ _ _ _ _ m;refine⟨⟨Nat.le_succ _,fun i q=> ?_,fun i o' j=> ?_⟩, ?_,rfl⟩
 .show a.get i=_;rw[f,if_neg (by omega)]
 .show a.get i=_;rw[f];by_cases e:i=H.next
  .subst e;rw[p]at j;simp at j
  .rw[if_neg e];exact j
 .show a.get _=_;rw[f,if_pos rfl]
theorem Rel.more {R:Ren}{H a:AH}{w:World}(h:Rel R H w)(f:AO H a):Rel R a w:=by
 have hl: ∀A b d c,R A b d c->JZ a A->JZ H A:=fun A b d c r ⟨o,j,hd⟩=>⟨o,by rw[<-f.2.1 A (h.lt _ _ _ _ r).2];exact j,hd⟩
 exact⟨h.fn,fun A p b d c d' c' r m l l'=>h.inj _ _ _ _ _ _ _ r m (hl _ _ _ _ r l) (hl _ _ _ _ m l'),
  fun A b d c o r j=>h.obj A b d c o r (by rw[<-f.2.1 A (h.lt _ _ _ _ r).2];exact j),fun A b d c r=>⟨(h.lt _ _ _ _ r).1,qG (h.lt _ _ _ _ r).2 f.1⟩⟩
def Ext.more {R a:Ren}{H H' f:AH}{w j:World}(h:Ext R H w a H' j)(m:AO H' f):Ext R H w a f j:=
 ⟨h.sub,h.new,h.newA,qN h.next m.1,fun A o p=>(m.2.1 A (qG o h.next)).trans (h.keepA A o p),h.os,h.tape,h.output,h.size,h.keep⟩
section
variable (X:Cx)(r:Fns)(nt:Nat)(ops:Array Oper)
def uM:Env->AH->List Ent->Env->AH->Prop
 | env,H,[],envF,HF=>env=envF/\H=HF
 | env,H,e::es,envF,HF=>e.env=env/\e.H=H/\zIT X r ops env H e.i e.o=some e/\ ∃env',VM nt env e.o.dst e.v=some env'/\uM env' e.H' es envF HF
theorem XY {e:Ent}(h:zIT X r ops l n e.i e.o=some e):ZF ops l e.o=some e.want/\(e.want=true->opF X r l n e.o.op=some (e.v,e.H'))/\(e.want=false->e.v=jQ/\e.H'=n):=by
 unfold zIT at h;split at h
 .rename_i a;split at h
  .rename_i v H' p;simp only[zB]at h;have f:e.want=true:=by rw[<-h]
   have j:e.v=v:=by rw[<-h]
   have m:e.H'=H':=by rw[<-h]
   rw[f,j,m];exact⟨a,fun _=>p,fun h=>by simp at h⟩
  .simp at h
 .rename_i a;simp only[zB]at h;have f:e.want=false:=by rw[<-h]
  have j:e.v=jQ:=by rw[<-h]
  have m:e.H'=n:=by rw[<-h]
  rw[f];exact⟨a,fun h=>by simp at h,fun _=>⟨j,m⟩⟩
 .simp at h
theorem zMT {e:Ent}(h:zIT X r ops l n e.i e.o=some e)(f:xC (cls X e.o.op)=false):AO n e.H':=by
 obtain⟨_,q,t⟩:=XY X r ops h
 cases m:e.want with
 | false=>rw[(t m).2];exact AO.refl n
 | true=>
  have a:=q m;unfold opF at a;split at a
  .unfold wV at a;split at a
   .simp only[zB,zU]at a;rw[<-a.2];exact AO.refl n
   .simp at a
  .unfold wV at a;split at a
   .simp only[zB,zU]at a;rw[<-a.2];exact AO.refl n
   .simp at a
  .unfold wA at a;split at a
   .split at a
    .rename_i A u p;simp only[zB,zU]at a;rw[<-a.2];exact(AO.new p).1
    .simp at a
   .simp at a
  .rename_i j;rw[j]at f;simp[xC]at f
  .rename_i j;rw[j]at f;simp[xC]at f
noncomputable def fE (D:List Nat):List Ent->AH->AH
 | [],HF=>HF
 | e::es,HF=>if xC (cls X e.o.op)=true/\e.i∉D then e.H else fE D es HF
variable {X r nt ops}
theorem KN: ∀ {es:List Ent} {env:Env} {H:AH} {envF:Env} {HF:AH} {D:List Nat},uM X r nt ops env H es envF HF->(∀e∈es,xC (cls X e.o.op)=true->e.i∉D)->AO H (fE X D es HF)
 | [],_,H,_,HF,D,h,_=>by obtain⟨_,rfl⟩:=h;exact AO.refl _
 | e::es,env,H,envF,HF,D,⟨h1,h2,h3,env',h4,h5⟩,hD=>by
  unfold fE;split
  .rw[h2];exact AO.refl H
  .rename_i f;have j:xC (cls X e.o.op)=false:=by
    cases a:xC (cls X e.o.op)with
    | false=>rfl
    | true=>exact absurd ⟨a,hD e (zJ ..) a⟩ f
   exact(zMT X r ops h3 j).trans (KN h5 (fun q m=>hD q (zC _ m)))
theorem YB: ∀ {pre:List Ent} {e:Ent} {a:List Ent} {env:Env} {H:AH} {envF:Env} {HF:AH},uM X r nt ops env H (pre++e::a) envF HF->uM X r nt ops e.env e.H (e::a) envF HF
 | [],e,a,env,H,envF,HF,h=>by
  obtain⟨j,m,o,env',q,f⟩:=h;subst j m;exact⟨rfl,rfl,o,env',q,f⟩
 | p::pre,e,a,env,H,envF,HF,⟨_,_,_,env',_,f⟩=>YB (pre:=pre) f
theorem KL: ∀ {pre l:List Ent} {HF:AH} {D:List Nat},(∀p∈pre,xC (cls X p.o.op)=true->p.i∈D)->fE X D (pre++l) HF=fE X D l HF
 | [],_,_,_,_=>rfl
 | p::pre,l,HF,D,h=>by
  rw[qF,fE,if_neg (fun a=>a.2 (h p (zJ ..) a.1))];exact KL (fun q f=>h q (zC _ f))
theorem zF8 {D:List Nat}{j:Nat} : ∀ {es:List Ent} {HF:AH},(∀e∈es,e.i=j->xC (cls X e.o.op)=false)->fE X (j::D) es HF=fE X D es HF
 | [],_,_=>rfl
 | e::es,HF,h=>by
  simp only[fE];rw[zF8 (es:=es) (fun q f=>h q (zC _ f))];by_cases a:e.i=j
  .have:=h e (zJ ..) a;rw[if_neg (by simp[this]),if_neg (by simp[this])]
  .simp[a]
theorem zCz: ∀ {pre:List Ent} {e:Ent} {m:List Ent} {env:Env} {H:AH} {envF:Env} {HF:AH},uM X r nt ops env H (pre++e::m) envF HF->(pre.map (·.o.dst)).Pairwise (fun a b=> ∀d,a=some d->b≠some d)->
  ∀t,(∀p∈pre,p.o.dst=some t->Eng.look e.env t=some p.v)/\((∀p∈pre,p.o.dst≠some t)->Eng.look e.env t=Eng.look env t)
 | [],e,m,env,H,envF,HF,h,_,t=>by
  obtain⟨C,_⟩:=h;exact⟨fun p hp=>by simp at hp,fun _=>by rw[C]⟩
 | p::pre,e,m,env,H,envF,HF,⟨C,h2,h3,env',f,h5⟩,hd,t=>by
  simp only[yJ,qV]at hd;obtain⟨N,J⟩:=zCz (pre:=pre) h5 hd.2 t;have x:Eng.look env' t=if p.o.dst=some t then some p.v else Eng.look env t:=by
   cases y:p.o.dst with
   | none=>rw[y]at f;simp only[VM,zB]at f;subst f;simp
   | some d=>
    rw[y]at f;simp only[VM,zF]at f;split at f
    .injection f with f;subst f
     unfold Eng.look;rw[bI];by_cases e:t=d
     .subst e;simp
     .rw[if_neg e,if_neg (by simpa using Ne.symm e)]
    .simp at f
  refine⟨fun q j u=> ?_,fun z=> ?_⟩
  .rcases zK.1 j with rfl | j
   .rw[J (fun S K O=>hd.1 _ (List.mem_map_of_mem K) t u O),x,if_pos u]
   .exact N q j u
  .rw[J (fun q j=>z q (zC _ j)),x,if_neg (z p (zJ ..))]
end
structure Mono (r:Fns):Prop where
 call: ∀f args H v H',r.call f args H=some (v,H')->H.next<=H'.next
 yld: ∀A args H v H',r.yld A args H=some (v,H')->H.next<=H'.next
def Good.mono {r:Fns}(h:Good q r):Mono r:=⟨fun f args H v H' e=>(h.call f args H v H' e).1,fun A args H v H' e=>(h.yld A args H v H' e).1⟩
theorem xG (h:fX n i g=some E):E.next=n.next:=by
 unfold fX at h;split at h
 .simp only[zB]at h;rw[<-h]
 .simp at h
theorem zGb {e sz:Nat}(a:Z4 i e sz I n=some (h,E)):n.next<=E.next:=by
 unfold Z4 at a;split at a
 .rename_i A j f;obtain⟨m,_,_,rfl,_⟩:=fY f;simp only[kF,zB,zU]at a;rw[<-a.2];exact Nat.le_succ _
 .simp at a
theorem aG {e sz bytes:Nat}{old:Option (List AV)}(a:vU i e sz bytes old I n=some (h,E)):n.next<=E.next:=by
 unfold vU at a;rw[zF]at a;split at a
 .split at a
  .exact zGb a
  .simp at a
 .simp at a
theorem zCP {sz bytes new:Nat}(e:app1 i sz bytes new I h n=some (p,E)):n.next<=E.next:=by
 unfold app1 at e;split at e
 .rw[zF]at e;split at e
  .simp only[zB,zU]at e;rw[<-e.2];exact zM _
  .exact aG e
 .rw[zF]at e;split at e
  .simp only[zB,zU]at e;rw[<-e.2];exact zM _
  .simp at e
 .split at e
  .unfold zGg at e;rw[zF]at e;split at e
   .unfold zCO at e;split at e
    .split at e
     .rename_i a hp;simp only[kF,zB,zU]at e;rw[<-e.2,xG hp];exact zM _
     .simp at e
    .simp at e
   .rw[zF]at e;split at e
    .exact aG e
    .rw[zF]at e;split at e
     .split at e
      .rename_i a hp;have:=aG e;rw[xG hp]at this;exact this
      .simp at e
     .simp at e
  .simp at e
 .simp at e
theorem zK2 {v:AV}(ks:upM A h p L n=some (v,E)):n.next<=E.next:=by
 unfold upM at ks;rw[zF]at ks;split at ks
 .split at ks
  .split at ks
   .rw[zF]at ks;split at ks
    .split at ks
     .split at ks
      .rename_i hp;simp only[zB,zU]at ks;rw[<-ks.2,xG hp];exact zM _
      .simp at ks
     .split at ks
      .rename_i hp;simp only[zB,zU]at ks;rw[<-ks.2,xG hp];exact zM _
      .simp at ks
    .simp at ks
   .simp at ks
  .simp at ks
 .simp at ks
theorem zLc (ks:dlM A h p n=some (L,E)):n.next<=E.next:=by
 unfold dlM at ks;rw[zF]at ks;split at ks
 .split at ks
  .simp only[zB,zU]at ks;rw[<-ks.2];exact zM _
  .split at ks
   .rw[zF]at ks;split at ks
    .split at ks
     .split at ks
      .rename_i hp;simp only[zB,zU]at ks;rw[<-ks.2,xG hp];exact zM _
      .simp at ks
     .simp only[zB,zU]at ks;rw[<-ks.2];exact zM _
    .simp at ks
   .simp at ks
  .simp at ks
 .simp at ks
theorem zLr (x:clM h n=some (p,E)):n.next<=E.next:=by
 unfold clM at x;split at x
 .simp only[zB,zU]at x;rw[<-x.2];exact zM _
 .split at x
  .split at x
   .rename_i hp;simp only[zB,zU]at x;rw[<-x.2,xG hp];exact zM _
   .simp at x
  .simp at x
 .simp at x
theorem zP1 (X:aE Q l n G=some (h,E)):n.next<=E.next:=by
 unfold aE at X;split at X
 .unfold BK at X;split at X
  .split at X
   .split at X
    .rename_i j f;simp only[zB,zU]at X;rw[<-X.2];unfold zCL at f;split at f
     .split at f
      .split at f
       .rw[zF]at f;split at f
        .split at f
         .rw[xG f];exact zM _
         .simp at f
        .simp at f
       .simp at f
      .simp at f
     .simp at f
    .simp at X
   .simp at X
  .simp at X
 .unfold c3 at X;split at X
  .split at X
   .split at X
    .unfold aup at X;split at X
     .split at X
      .exact zK2 X
      .simp at X
     .simp at X
    .simp at X
   .simp at X
  .simp at X
 .split at X
  .unfold uZ at X;split at X
   .split at X
    .split at X
     .unfold cV at X;have key: ∀t a b,d9 Q t a b n=some (h,E)->n.next<=E.next:=by
       intro t a b X;unfold d9 at X;split at X
       .split at X
        .rw[zF]at X;split at X
         .split at X
          .rw[zF]at X;split at X
           .exact zCP X
           .simp at X
          .simp at X
         .simp at X
        .simp at X
       .simp at X
      split at X
      .split at X
       .split at X
        .exact key _ _ _ X
        .exact key _ _ _ X
        .unfold zJO at X
         repeat' first | (simp at X;done) | split at X
         all_goals(try rw[zF]at X)
         all_goals(repeat' first | (simp at X;done) | split at X)
         all_goals(try rw[zF]at X)
         all_goals(repeat' first | (simp at X;done) | split at X)
         all_goals exact zCP X
        .simp at X
       .simp at X
      .simp at X
     .simp at X
    .simp at X
   .split at X
    .split at X
     .unfold zIZ at X;split at X
      .split at X
       .unfold zGc at X;split at X
        .split at X
         .split at X
          .split at X<;>first | (simp at X;done) | (simp only[zB,zU]at X;rw[<-X.2];exact zM _)
          .split at X
           .simp only at X;split at X
            .rw[zF]at X;split at X
             .split at X
              .split at X
               .split at X
                .rename_i j hp;simp only[kF,zB,zU]at X;rw[<-X.2,xG hp];exact zM _
                .simp at X
               .simp at X
              .simp at X
             .simp at X
            .simp at X
           .simp at X
          .simp at X
         .simp at X
        .simp at X
       .simp at X
      .simp at X
     .simp at X
    .simp at X
   .split at X
    .split at X
     .unfold c2 at X;split at X
      .split at X
       .unfold adl at X;split at X
        .split at X
         .exact zLc X
         .simp at X
        .simp at X
       .simp at X
      .simp at X
     .simp at X
    .simp at X
   .split at X
    .split at X
     .unfold c1 at X;split at X
      .unfold acl at X;split at X
       .exact zLr X
       .simp at X
      .simp at X
     .simp at X
    .simp at X
   .simp at X
  .simp at X
 .simp at X
section
variable {X:Cx}{r:Fns}(hm:Mono r)
include hm
theorem zKI (env:opF X r l n G=some (h,E)):n.next<=E.next:=by
 unfold opF at env;split at env
 .unfold wV at env;split at env
  .simp only[zB,zU]at env;rw[<-env.2];exact zM _
  .simp at env
 .unfold wV at env;split at env
  .simp only[zB,zU]at env;rw[<-env.2];exact zM _
  .simp at env
 .unfold wA at env;split at env
  .split at env
   .rename_i A f a;obtain⟨j,_,_,rfl,_⟩:=fY a;simp only[zB,zU]at env;rw[<-env.2];exact Nat.le_succ _
   .simp at env
  .simp at env
 .exact zP1 env
 .unfold opF.callO at env;split at env
  .split at env
   .unfold opF.callV at env;split at env
    .split at env
     .exact hm.call _ _ _ _ _ env
     .simp at env
    .split at env
     .exact hm.yld _ _ _ _ _ env
     .simp at env
    .simp at env
   .simp at env
  .simp at env
theorem zL7 {e:Ent}(h:zIT X r v l n e.i e.o=some e):n.next<=e.H'.next:=by
 obtain⟨_,f,j⟩:=XY X r v h
 cases a:e.want with
 | false=>rw[(j a).2];exact zM _
 | true=>exact zKI hm (f a)
theorem wP {nt:Nat}{ops:Array Oper} : ∀ {es:List Ent} {env:Env} {H:AH} {envF:Env} {HF:AH},uM X r nt ops env H es envF HF->H.next<=HF.next/\ ∀e∈es,H.next<=e.H.next
 | [],_,_,_,_,h=>by obtain⟨_,rfl⟩:=h;exact⟨zM _,by simp⟩
 | e::es,env,H,envF,HF,⟨h1,h2,h3,env',h4,h5⟩=>by
  obtain⟨f,j⟩:=wP h5;have:=zL7 hm h3;refine⟨qN this f,fun q a=> ?_⟩;rcases zK.1 a with rfl | a
  .rw[h2];exact zM _
  .exact qN this (j q a)
end
theorem zKm {env2:Env}{v2:AV}(nt:VM i l M h=some Y): ∃a,VM i env2 M v2=some a:=by
 cases M with
 | none=>exact⟨_,rfl⟩
 | some d=>
  simp only[VM,zF]at nt⊢;split at nt
  .rename_i hd;rw[if_pos hd];exact⟨_,rfl⟩
  .simp at nt
theorem cG (nt:VM i l M h=some Y)(t:Nat):Eng.look Y t=if M=some t then some h else Eng.look l t:=by
 cases M with
 | none=>simp only[VM,zB]at nt;subst nt;simp
 | some d=>
  simp only[VM,zF]at nt;split at nt
  .injection nt with nt;subst nt
   unfold Eng.look;rw[bI];by_cases e:t=d
   .subst e;simp
   .rw[if_neg e,if_neg (by simpa using Ne.symm e)]
  .simp at nt
theorem zFw (h: ∀t∈cI v V,Eng.look l t=Eng.look Y t):ZF v l V=ZF v Y V:=by
 unfold ZF;split
 .rfl
 .rename_i j f a;unfold zGm;split
  .rename_i p hp;split
   .rename_i d hd;rw[h d (by simp[cI,a,hp,hd])]
   .rfl
  .rfl
theorem zHN (h: ∀t∈cI v V,Eng.look l t=Eng.look Y t): ∀x∈V.op.operands.toList,opd l x=opd Y x:=by
 intro x a
 cases x with
 | tmp t=>simp only[opd];rw[h t (by simp only[cI,qA,List.mem_filterMap];exact .inl ⟨.tmp t,a,rfl⟩)]
 | _=>rfl
def Bef (ops:Array Oper)(j i:Nat):Prop:=((xD ops.toList []).getD j 0).testBit i=true
structure Row (X:Cx)(r:Fns)(nt:Nat)(ops:Array Oper)(uQ:Env)(H0:AH)(es:List Ent)(envF:Env)(HF:AH):Prop where
 chain:uM X r nt ops uQ H0 es envF HF
 mem: ∀e∈es,ops[e.i]? =some e.o
 nd:(es.map (·.i)).Nodup
 pair:es.Pairwise fun a b=>(∀d,a.o.dst=some d->b.o.dst≠some d)/\(xC (cls X a.o.op)=true\/fM ops a.o b.o=true->Bef ops b.i a.i)
 see:es.Pairwise fun a b=>a.want=true->xC (cls X b.o.op)=true-> ¬Bef ops b.i a.i->cls X a.o.op= .L->aL X a.env b.H' a.o.op=some a.v
structure Inv (X:Cx)(nt:Nat)(uQ:Env)(H0:AH)(es:List Ent)(HF:AH)(R0:Ren)(w0:World)(D:List Nat)(R:Ren)(tmps:Array Value)(w:World):Prop where
 env: ∃envS,EnvR R envS nt tmps/\ ∀t,(∀e∈es,e.i∈D->e.o.dst=some t->Eng.look envS t=some e.v)/\((∀e∈es,e.i∈D->e.o.dst≠some t)->Eng.look envS t=Eng.look uQ t)
 rel:Rel R (fE X D es HF) w
 no: ∀e∈es,e.want=true->cls X e.o.op= .A->e.i∉D-> ∀b d c,¬R e.H.next b d c
 ob: ∀pre e post,es=pre++e::post->(∀p∈pre,xC (cls X p.o.op)=true->p.i∈D)->e.want=true->cls X e.o.op= .A->e.i∉D-> ∀o mk,aA X e.env e.o.op=some (o,mk)->(fE X D es HF).h.get e.H.next=some o/\e.H.next< (fE X D es HF).next
 ext:Ext R0 H0 w0 R (fE X D es HF) w
section
variable {P:Program}{X:Cx}{r:Fns}{nt:Nat}{ops:Array Oper}{uQ:Env}{H0:AH}{es:List Ent}{envF:Env}{HF:AH}
theorem zAK {e:Ent}(h:zIT X r ops l n e.i e.o=some e)(q:e.want=true)(t:cls X e.o.op= .A): ∃o f,aA X l e.o.op=some (o,f)/\e.v=f n.next/\AO n e.H'/\e.H'.h.get n.next=some o/\e.H'.next=n.next+1:=by
 have a:=(XY X r ops h).2.1 q;unfold opF at a;rw[t]at a;simp only at a;unfold wA at a;split at a
 .rename_i o f u;split at a
  .rename_i A J m;simp only[zB,zU]at a;obtain⟨x,j⟩:=a;have p:A=n.next:=by obtain⟨K,_,e,_⟩:=fY m;exact e
   obtain⟨y,z,C⟩:=AO.new m;exact⟨o,f,u,by rw[<-x,p],by rw[<-j];exact y,by rw[<-j];exact z,by rw[<-j];exact C⟩
  .simp at a
 .simp at a
theorem zEu {f:List Ent}{e:Ent}(u:uM X r nt ops uQ H0 es envF HF)(q:es=m++e::f)(x: ∀p∈m,xC (cls X p.o.op)=true->p.i∈A)(y: ∀p∈f,xC (cls X p.o.op)=true->p.i∉A)
  (z:e.want=true) (pre:cls X e.o.op= .A)  {C:Nat->AV} (J:aA X e.env e.o.op=some (g,C)):(fE X A es HF).h.get e.H.next=some g/\e.H.next< (fE X A es HF).next:=by
 subst q;rw[KL x];have t:=YB u;obtain⟨_,_,K,env',_,N⟩:=t;rw[fE,if_neg (by rw[pre];simp[xC])];obtain⟨o',S,a,_,T,O,Y⟩:=zAK K z pre;rw[J]at a;simp only[zB,zU]at a;obtain⟨rfl,rfl⟩:=a;have j:=KN N y;exact⟨j.2.2 _ _ O,by have:=j.1;omega⟩
theorem zH8 {D:List Nat}{env:Env}{o:Op}{v:AV} : ∀ {a:List Ent} {j:Env} {H:AH},uM X r nt ops j H a envF HF->aL X env H o=some v->
  (∀q∈a,xC (cls X q.o.op)=true->q.i∈D->aL X env q.H' o=some v)->aL X env (fE X D a HF) o=some v
 | [],_,H,⟨_,h⟩,hv,_=>by rw[fE,<-h];exact hv
 | q::a,j,H,⟨h1,h2,h3,env',h4,h5⟩,hv,hq=>by
  rw[fE];split
  .rw[h2];exact hv
  .rename_i m;refine zH8 h5 ?_ (fun p hp=>hq p (zC _ hp))
   cases f:xC (cls X q.o.op)with
   | false=>exact zLT (zMT X r ops h3 f).2.2 _ hv
   | true=>
    refine hq q (zJ ..) f (Classical.byContradiction fun t=>m ⟨f,t⟩)
theorem Row.inj (hR:Row X r nt ops uQ H0 es envF HF){e q:Ent}(m:e∈es)(o:q∈es)(h:e.i=q.i):e=q:=by
 have:=hR.nd;clear hR
 induction es with
 | nil=>simp at m
 | cons a l ih=>
  simp only[yJ,List.nodup_cons,qZ,not_exists,not_and]at this;rcases zK.1 m with rfl | j
  .rcases zK.1 o with rfl | f
   .rfl
   .exact absurd h.symm (this.1 q f)
  .rcases zK.1 o with rfl | f
   .exact absurd h (this.1 e j)
   .exact ih j f this.2
theorem Row.dst (hR:Row X r nt ops uQ H0 es envF HF){e q:Ent}(j:e∈es)(m:q∈es){t:Tmp}(p:e.o.dst=some t)(u:q.o.dst=some t):e=q:=by
 have:=hR.pair;clear hR
 induction es with
 | nil=>simp at j
 | cons a l ih=>
  simp only[qV]at this;rcases zK.1 j with rfl | h
  .rcases zK.1 m with rfl | f
   .rfl
   .exact absurd u ((this.1 q f).1 t p)
  .rcases zK.1 m with rfl | f
   .exact absurd p ((this.1 e h).1 t u)
   .exact ih h f this.2
theorem BQ: ∀ {es:List Ent} {env:Env} {H:AH} {envF:Env} {HF:AH},uM X r nt ops env H es envF HF->(es.map (·.o.dst)).Pairwise (fun a b=> ∀d,a=some d->b≠some d)->
  ∀t,(∀p∈es,p.o.dst=some t->Eng.look envF t=some p.v)/\((∀p∈es,p.o.dst≠some t)->Eng.look envF t=Eng.look env t)
 | [],env,H,envF,HF,h,_,t=>by
  obtain⟨x,_⟩:=h;exact⟨fun p hp=>by simp at hp,fun _=>by rw[x]⟩
 | p::pre,env,H,envF,HF,⟨x,h2,h3,env',h4,h5⟩,hd,t=>by
  simp only[yJ,qV]at hd;obtain⟨C,y⟩:=BQ h5 hd.2 t;have m:=cG h4 t;refine⟨fun q f j=> ?_,fun u=> ?_⟩
  .rcases zK.1 f with rfl | f
   .rw[y (fun K z J=>hd.1 _ (List.mem_map_of_mem z) t j J),m,if_pos j]
   .exact C q f j
  .rw[y (fun q f=>u q (zC _ f)),m,if_neg (u p (zJ ..))]
theorem zCy: ∀ {es:List Ent} {env:Env} {H:AH} {envF:Env} {HF:AH},uM X r nt ops env H es envF HF->(∀t,nt<=t->Eng.look env t=none)-> ∀t,nt<=t->Eng.look envF t=none
 | [],env,H,envF,HF,h,ho,t,f=>by rw[<-h.1];exact ho t f
 | p::pre,env,H,envF,HF,⟨h1,h2,h3,env',a,h5⟩,ho,t,f=>by
  refine zCy h5 (fun t f=> ?_) t f
  cases hd:p.o.dst with
  | none=>rw[hd]at a;simp only[VM,zB]at a;rw[<-a];exact ho t f
  | some d=>
   rw[hd]at a;simp only[VM,zF,qE]at a;split at a
   .injection a with a;subst a;unfold Eng.look;rw[bI,if_neg (by omega)];exact ho t f
   .simp at a
theorem zF7 {D:List Nat} : ∀ {es:List Ent} {HF:AH},(∀e∈es,e.i∈D)->fE X D es HF=HF
 | [],_,_=>rfl
 | e::es,HF,h=>by
  rw[fE,if_neg (fun a=>a.2 (h e (zJ ..)))];exact zF7 (fun q f=>h q (zC _ f))
end
section
variable {P:Program}{X:Cx}(hX:Ok P X){r:Fns}(hr:Good P r)(hm:Mono r){nt:Nat}{ops:Array Oper}{uQ:Env}{H0:AH}{es:List Ent}{envF:Env}{HF:AH}
include hX hr hm in
theorem zKZ (hR:Row X r nt ops uQ H0 es envF HF){R0 R:Ren}{w0 w:World}{D:List Nat}{fr:Frame}{k:List Item}{cs:List Frame}{j:Nat}{rest:List Nat}(a9:fr.mode= .run)(ht:fr.todo= .inRegion ops (j::rest)::k)
  (J:Inv X nt uQ H0 es HF R0 w0 D R fr.tmps w) (hj:j∉D) {e:Ent} (he:e∈es) (O:e.i=j) (d9: ∀i,Bef ops j i->i∈D) (d1: ∀q∈es,q.i∈D-> ∀i,Bef ops q.i i->i∈D):
  ∃m N z,Steps P (lone fr cs w) (lone { fr with tmps:=zCW fr.tmps e.o.dst z,todo:= .inRegion ops rest::k} cs N)/\Inv X nt uQ H0 es HF R0 w0 (j::D) m (zCW fr.tmps e.o.dst z) N:=by
 obtain⟨pre,a3,T⟩:=List.append_of_mem he;obtain⟨e0,hE,d2⟩:=J.env;have e6:=hR.pair;rw[T,j5,qV]at e6;obtain⟨g2,⟨e1,i5⟩,e2⟩:=e6;have e7:=hR.nd;rw[T,List.map_append,yJ,List.nodup_append,List.nodup_cons]at e7;have g8: ∀q∈a3,q.i≠e.i:=fun q f h=>e7.2.1.1 (qZ.2 ⟨q,f,h⟩)
 have b8: ∀p∈pre,xC (cls X p.o.op)=true->p.i∈D:=fun p hp g9=>d9 _ (by rw[<-O];exact(e2 p hp e (zJ ..)).2 (.inl g9))
 have c6: ∀p∈pre,p∈es:=fun p hp=>by rw[T];exact qU _ hp
 have c5: ∀p∈a3,p∈es:=fun p hp=>by rw[T];exact yQ _ (zC _ hp)
 have f9:xC (cls X e.o.op)=true-> ∀q∈a3,q.i∉D:=fun a5 q f hc=>hj (by rw[<-O];exact d1 q (c5 q f) hc _ ((e1 q f).2 (.inl a5)))
 have b6:=hR.chain;rw[T]at b6;have h0:(pre.map (·.o.dst)).Pairwise (fun a b=> ∀d,a=some d->b≠some d):=List.pairwise_map.2 (g2.imp fun h=>h.1);have d8: ∀t∈cI ops e.o,Eng.look e0 t=Eng.look e.env t:=by
  intro t e8;obtain⟨h1,h2⟩:=zCz b6 h0 t;obtain⟨h3,h4⟩:=d2 t;by_cases e9: ∃p∈pre,p.o.dst=some t
  .obtain⟨p,hp,d3⟩:=e9;have c7:fM ops p.o e.o=true:=by
    simp only[fM,d3,j6];exact .inl (by simpa using e8)
   rw[h1 p hp d3,h3 p (c6 p hp) (d9 _ (by rw[<-O];exact(e2 p hp e (zJ ..)).2 (.inr c7))) d3]
  .have a1: ∀p∈pre,p.o.dst≠some t:=fun p hp h=>e9 ⟨p,hp,h⟩
   rw[h2 a1,h4 (fun q f K b0=> ?_)];rw[T]at f;rcases qA.1 f with f | f
   .exact a1 q f b0
   .rcases zK.1 f with rfl | f
    .exact hj (O▸K)
    .have c7:fM ops e.o q.o=true:=by
      simp only[fM,b0,j6];exact .inr (by simpa using e8)
     exact hj (by rw[<-O];exact d1 q (c5 q f) K _ ((e1 q f).2 (.inr c7)))
 have b2:=zHN d8;have b4:fE X D es HF=fE X D (e::a3) HF:=by rw[T];exact KL b8
 obtain⟨_,_,e3,i6,g3,b9⟩:=YB b6;obtain⟨g0,g4,g5⟩:=XY X r ops e3;have hw:Region.wanted e.o (yielded ops fr.tmps)=e.want:=zD0 hE (by rw[zFw d8,g0]);have a0:ops[j]? =some e.o:=by rw[<-O];exact hR.mem e he
 have f1: ∀q∈es,q.i∈j::D->q=e\/q.i∈D:=fun q f h=>by
  rcases zK.1 h with h | h
  .exact .inl (hR.inj f he (h.trans O.symm))
  .exact .inr h
 have b1:e.i∈j::D:=by rw[O];exact zJ ..
 have e4: ∀m z,Sub R m->VR m e.v z-> ∃b3,EnvR m b3 nt (zCW fr.tmps e.o.dst z)/\ ∀t,(∀q∈es,q.i∈j::D->q.o.dst=some t->Eng.look b3 t=some q.v)/\((∀q∈es,q.i∈j::D->q.o.dst≠some t)->Eng.look b3 t=Eng.look uQ t):=by
  intro m z c8 hv;obtain⟨b3,d4⟩:=zKm (env2:=e0) (v2:=e.v) g3;refine⟨b3,(hE.mono c8).put hv d4,fun t=>⟨fun q f K b0=> ?_,fun a1=> ?_⟩⟩
  .rw[cG d4];by_cases c3:e.o.dst=some t
   .rw[if_pos c3,hR.dst f he b0 c3]
   .rw[if_neg c3];rcases f1 q f K with rfl | h
    .exact absurd b0 c3
    .exact(d2 t).1 q f h b0
  .rw[cG d4,if_neg (a1 e he b1)];exact(d2 t).2 (fun q f h=>a1 q f (zC _ h))
 have c0:xC (cls X e.o.op)=false-> ∀m N z,Sub R m->VR m e.v z->Rel m (fE X D es HF) N->(∀q∈es,q.want=true->cls X q.o.op= .A->q.i∉j::D-> ∀b d c,¬m q.H.next b d c)->Ext R0 H0 w0 m (fE X D es HF) N->Inv X nt uQ H0 es HF R0 w0 (j::D) m (zCW fr.tmps e.o.dst z) N:=by
  intro hn m N z c8 hv c1 a1 a4;have hc:fE X (j::D) es HF=fE X D es HF:=zF8 (fun q f h6=>by rw[hR.inj f he (h6.trans O.symm)];exact hn);refine⟨e4 m z c8 hv,by rw[hc];exact c1,a1,fun p q po f h1 Y Z K o mk u=> ?_,by rw[hc];exact a4⟩;rw[hc];refine J.ob p q po f (fun x y b7=> ?_) Y Z (fun h=>K (zC _ h)) o mk u;rcases f1 x (by rw[f];exact qU _ y) (h1 x y b7)with rfl | h
  .rw[hn]at b7;simp at b7
  .exact h
 have c9:xC (cls X e.o.op)=true-> ∀m N z,VR m e.v z->Rel m e.H' N->Ext R e.H w m e.H' N->Inv X nt uQ H0 es HF R0 w0 (j::D) m (zCW fr.tmps e.o.dst z) N:=by
  intro a5 m N z hv c1 a4;have a6:fE X D es HF=e.H:=by rw[b4,fE,if_pos ⟨a5,by rw[O];exact hj⟩]
  have d0:fE X (j::D) es HF=fE X (j::D) a3 HF:=by
   rw[T,KL (fun p hp h=>zC _ (b8 p hp h)),fE,if_neg (fun hc=>hc.2 b1)]
  have f2: ∀q∈a3,q.i∉j::D:=fun q f h=>by
   rcases zK.1 h with h | h
   .exact g8 q f (h.trans O.symm)
   .exact f9 a5 q f h
  have c4:AO e.H' (fE X (j::D) a3 HF):=KN b9 (fun q f _=>f2 q f);refine⟨e4 m z a4.sub hv,by rw[d0];exact c1.more c4,fun q f Y Z K b d c f3=> ?_,fun p q po f h1 Y Z K o mk u=> ?_, ?_⟩
  .rw[T]at f;rcases qA.1 f with f | f
   .rcases a4.newA _ _ _ _ f3 with h | h
    .exact J.no q (c6 q f) Y Z (fun h=>K (zC _ h)) _ _ _ h
    .obtain⟨p1,p2,hp⟩:=List.append_of_mem f;have b5:=b6;rw[hp,zZ,qF]at b5;obtain⟨_,_,d5,env2,_,d6⟩:=YB b5;obtain⟨_,_,_,_,_,_,h9⟩:=zAK d5 Y Z;have:=(wP hm d6).2 e (by simp);omega
   .rcases zK.1 f with rfl | f
    .exact K b1
    .have:=(c1.lt _ _ _ _ f3).2;have:=(wP hm b9).2 q f;omega
  .rcases List.append_eq_append_iff.1 (T.symm.trans f)with⟨a,d7,a2⟩ | ⟨a,d7,a2⟩
   .cases a with
    | nil=>
     simp only[qX,y8]at a2;exact absurd b1 (by rw[a2.1];exact K)
    | cons x a=>
     simp only[qF,y8]at a2;exact zEu hR.chain f h1 (fun x y _=>f2 x (by rw[a2.2];simp[y])) Y Z u
   .cases a with
    | nil=>
     simp only[qX,y8]at a2;exact absurd b1 (by rw[<-a2.1];exact K)
    | cons x a=>
     simp only[qF,y8]at a2;have h7:=a2.1;subst h7;have g1:q∈pre:=by rw[d7];simp
     have e5:q.i∉D:=fun h=>K (zC _ h)
     obtain⟨h2,h3⟩:=J.ob p q po f (fun x y b7=>b8 x (by rw[d7];simp[y]) b7) Y Z e5 o mk u;rw[a6]at h2 h3;rw[d0,c4.2.1 _ (qG h3 a4.next),a4.keepA _ h3 (J.no q (c6 q g1) Y Z e5)]
     exact⟨h2,qG h3 (qN a4.next c4.1)⟩
  .rw[d0];have:=J.ext;rw[a6]at this;exact(this.trans a4).more c4
 have c2: ∀q∈es,q.want=true->cls X q.o.op= .A->q.i∉j::D-> ∀b d c,¬R q.H.next b d c:=fun q f Y Z K=>J.no q f Y Z (fun h=>K (zC _ h))
 cases a7:e.want with
 | false=>
  rw[a7]at hw;obtain⟨hv,f4⟩:=g5 a7;refine⟨R,w,undef,by rw[<-kH ht a0];exact .one (WH a9 ht a0 hw), ?_⟩;have f5:VR R e.v undef:=by rw[hv];exact zAY R
  cases a5:xC (cls X e.o.op)with
  | false=>exact c0 a5 R w undef (zRm R) f5 J.rel c2 J.ext
  | true=>
   have a6:fE X D es HF=e.H:=by rw[b4,fE,if_pos ⟨a5,by rw[O];exact hj⟩]
   refine c9 a5 R w undef f5 ?_ ?_
   .rw[f4,<-a6];exact J.rel
   .rw[f4];exact zRr _ _ _
 | true=>
  rw[a7]at hw;have a8:=g4 a7;have hd: ∀c,e.o.op≠ .defer c:=by
   intro c hc;rw[hc]at a8;simp[opF,cls,aE]at a8
  cases S:cls X e.o.op with
  | P=>
   have u:=a8;unfold opF at u;rw[S]at u;simp only at u;unfold wV at u;split at u
   .rename_i x y;simp only[zB,zU]at u;rw[<-zFq _ b2]at y;obtain⟨z,h1,h2⟩:=simP hX J.rel.fn (w:=w) hE y;refine⟨R,w,z,by rw[<-kH ht a0];exact .one (uV a9 ht a0 hw hd h1),c0 (by rw[S];rfl) R w z (zRm R) (by rw[<-u.1];exact h2) J.rel c2 J.ext⟩
   .simp at u
  | L=>
   have u:=a8;unfold opF at u;rw[S]at u;simp only at u;unfold wV at u;split at u
   .rename_i x y;simp only[zB,zU]at u;have f6:aL X e.env (fE X D es HF) e.o.op=some x:=by
     rw[b4,fE,if_neg (by rw[S];simp[xC])];refine zH8 b9 (by rw[<-u.2];exact y) (fun q f h8 K=> ?_);have f7:=hR.see;rw[T,j5,qV]at f7;rw[u.1];exact f7.2.1.1 q f a7 h8 (fun hb=>hj (by rw[<-O];exact d1 q (c5 q f) K _ hb)) S
    rw[<-zFr _ b2]at f6;obtain⟨z,h1,h2⟩:=simL hX J.rel hE f6;refine⟨R,w,z,by rw[<-kH ht a0];exact .one (uV a9 ht a0 hw hd h1),c0 (by rw[S];rfl) R w z (zRm R) (by rw[<-u.1];exact h2) J.rel c2 J.ext⟩
   .simp at u
  | A=>
   obtain⟨o,mk,hA,hv,h3,h4,h5⟩:=zAK e3 a7 S;obtain⟨g6,g7⟩:=J.ob pre e a3 T b8 a7 S (by rw[O];exact hj) o mk hA;have f8:=hA;rw[<-zFs _ b2]at f8;obtain⟨s,hs,x,c,kk,z,i0,i1⟩:=simA hX (w:=w) hE f8;obtain⟨i2,i3⟩:=i1 e.H.next
   have a1:=J.no e he a7 S (by rw[O];exact hj);refine⟨R.add e.H.next w.heap.size 0 c,World.alloc { w with drawn:=kk} x,z, ?_, ?_⟩
   .rw[<-kH ht a0];refine .one (uV a9 ht a0 hw hd ?_);rw[hs];simp only[zH,i0,Result.andThen];rfl
   .refine c0 (by rw[S];rfl) _ _ z (R.sub_add _ _ _ _) (by rw[hv];exact i3) ?_ ?_ ?_
    .exact(J.rel.drew kk).add (w:= { w with drawn:=kk}) g6 g7 a1 i2
    .intro q f Y Z K b d c'
     rintro(h | ⟨h,_⟩)
     .exact c2 q f Y Z K _ _ _ h
     .rw[T]at f;rcases qA.1 f with f | f
      .obtain⟨p1,p2,hp⟩:=List.append_of_mem f;have b5:=b6;rw[hp,zZ,qF]at b5;obtain⟨_,_,d5,env2,_,d6⟩:=YB b5;obtain⟨_,_,_,_,_,_,h9⟩:=zAK d5 Y Z;have:=(wP hm d6).2 e (by simp);omega
      .rcases zK.1 f with rfl | f
       .exact K b1
       .have:=(wP hm b9).2 q f;omega
    .have y:=J.ext;have i4:H0.next<=e.H.next:=(wP hm hR.chain).2 e he
     refine⟨y.sub.trans (R.sub_add _ _ _ _), ?_, ?_,y.next,y.keepA,y.os,y.tape,y.output, ?_, ?_⟩
     .rintro A b d c' (h | ⟨rfl,rfl,rfl,rfl⟩)
      .exact y.new _ _ _ _ h
      .exact .inr (.inl y.size)
     .rintro A b d c' (h | ⟨rfl,rfl,rfl,rfl⟩)
      .exact y.newA _ _ _ _ h
      .exact .inr i4
     .rw[kV];exact Nat.le_succ_of_le y.size
     .intro b hb hk;exact(heap_alloc_old { w with drawn:=kk} x b (qG hb y.size)).trans (y.keep b hb hk)
  | E=>
   have a6:fE X D es HF=e.H:=by rw[b4,fE,if_pos ⟨by rw[S];rfl,by rw[O];exact hj⟩]
   have hL:=J.rel;rw[a6]at hL;rw[<-zBI _ b2]at a8;obtain⟨m,N,z,h1,h2,h3,h4⟩:=zEs hX hr (cs:=cs) a9 ht a0 hw hE hL a8;exact⟨m,N,z,h1,c9 (by rw[S];rfl) m N z h2 h3 h4⟩
  | C=>
   have a6:fE X D es HF=e.H:=by rw[b4,fE,if_pos ⟨by rw[S];rfl,by rw[O];exact hj⟩]
   have hL:=J.rel;rw[a6]at hL;rw[<-zBI _ b2]at a8;obtain⟨m,N,z,h1,h2,h3,h4⟩:=zEs hX hr (cs:=cs) a9 ht a0 hw hE hL a8;exact⟨m,N,z,h1,c9 (by rw[S];rfl) m N z h2 h3 h4⟩
end
section
variable {P:Program}{X:Cx}(hX:Ok P X){r:Fns}(hr:Good P r)(hm:Mono r){nt:Nat}{ops:Array Oper}{uQ:Env}{H0:AH}{es:List Ent}{envF:Env}{HF:AH}
include hX hr hm in
theorem zIa (hR:Row X r nt ops uQ H0 es envF HF)(p: ∀j,j<ops.size-> ∃e∈es,e.i=j){u:Ren}{y:World}{fr:Frame}{k:List Item}{cs:List Frame}(h:fr.mode= .run): ∀(rest D:List Nat) (R:Ren) (tmps:Array Value) (w:World),
  Valid .any ops D rest->(∀j∈D,∀o,ops[j]? =some o-> ∀e∈o.after.toList,Region.binds .any e=true->e.on∈D)->Inv X nt uQ H0 es HF u y D R tmps w->
  ∃R' C m J,Steps P (lone { fr with tmps:=tmps,todo:= .inRegion ops rest::k} cs w) (lone { fr with tmps:=m,todo:= .inRegion ops []::k} cs C)/\Inv X nt uQ H0 es HF u y J R' m C/\(∀j,j∈D\/j∈rest->j∈J)
 | [],D,R,tmps,w,_,_,hI=>⟨R,w,tmps,D, .refl _ _,hI,fun j hj=>by simpa using hj⟩
 | j::rest,D,R,tmps,w,hv,hcl,hI=>by
  obtain⟨h1,h2,K,h4⟩:=hv;obtain⟨e,he,O⟩:=p j h2;have hb: ∀i,Bef ops j i->i∈D:=fun i hi=>ZO hcl j j (zM _) K i hi
  obtain⟨R1,w1,z,S,T⟩:=zKZ hX hr hm hR (fr:= { fr with tmps:=tmps,todo:= .inRegion ops (j::rest)::k}) (k:=k) (cs:=cs) h rfl hI h1 he O hb
   (fun q a Y i hi=>ZO hcl q.i q.i (zM _) (fun o f=>hcl q.i Y o f) i hi)
  obtain⟨R2,w2,t2,D2,Z,a0,a1⟩:=zIa hR p h rest (j::D) R1 (zCW tmps e.o.dst z) w1 h4 (fun q a o f x N t=>by
   rcases zK.1 a with rfl | a
   .exact zC _ (K o f x N t)
   .exact zC _ (hcl q a o f x N t)) T
  refine⟨R2,w2,t2,D2,S.trans Z,a0,fun i hi=>a1 i ?_⟩;rcases hi with hi | hi
  .exact .inl (zC _ hi)
  .rcases zK.1 hi with rfl | hi
   .exact .inl (zJ ..)
   .exact .inr hi
include hm in
theorem zIb (hR:Row X r nt ops uQ H0 es envF HF)(q:EnvR s uQ nt F)(hL:Rel s H0 t):Inv X nt uQ H0 es HF s t [] s F t:=by
 have f:AO H0 (fE X [] es HF):=KN hR.chain (fun _ _ _=>by simp);refine⟨⟨uQ,q,fun R=>⟨fun e _ h=>by simp at h,fun _=>rfl⟩⟩,hL.more f,fun e u j m _ b d c h=> ?_,fun pre e z p x j m _ o C y=> ?_,(zRr s H0 t).more f⟩
 .have:=(hL.lt _ _ _ _ h).2;have:=(wP hm hR.chain).2 e u;omega
 .exact zEu hR.chain p x (fun _ _ _=>by simp) j m y
theorem zBK: ∀(l:List Nat),zEv l=true->l.Nodup
 | [],_=>List.nodup_nil
 | x::l,h=>by
  simp only[zEv,zE,yU,List.contains_eq_mem,yO]at h;exact List.nodup_cons.2 ⟨h.1,zBK l h.2⟩
theorem UI {masks:List Nat} : ∀(l:List (Nat×Oper)),zAp X ops masks l=true->l.Pairwise fun a b=>zHI X ops masks a b=true
 | [],_=>List.Pairwise.nil
 | a::l,h=>by
  simp only[zAp,zE,yE]at h;exact qV.2 ⟨h.1,UI l h.2⟩
theorem zHb {a:Nat×Oper}(h:a∈rowOf X ops A):ops[a.1]? =some a.2:=by
 have base: ∀a∈(List.range ops.size).filterMap (fun i=>match zGf ops.toList i with | some o=>some (i,o) | none=>none),ops[a.1]? =some a.2:=by
  intro a m;obtain⟨i,_,hi⟩:=List.mem_filterMap.1 m;split at hi
  .rename_i o j;simp only[zB]at hi;subst hi;rw[zDj]at j;simpa using j
  .simp at hi
 unfold rowOf at h;simp only at h;obtain⟨s,_,f⟩:=List.mem_flatMap.1 h;rcases qA.1 f with f | f
 .exact base a (List.mem_filter.1 (List.mem_filter.1 f).1).1
 .split at f
  .rename_i e p;simp only[qS]at f;subst f;exact base a (List.mem_filter.1 (List.mem_of_getElem? p)).1
  .simp at f
include hX hr hm in
theorem zJ1 (u:plan X ops=some (N,A))(J:uM X r nt ops l n m Y E)(C:m.map (fun e=>(e.i,e.o))=N)
  (b6:m.Pairwise fun a b=>a.want=true->xC (cls X b.o.op)=true->(A.getD b.i 0).testBit a.i=false->cls X a.o.op= .L->aL X a.env b.H' a.o.op=some a.v):zJR P nt (.region i ops true) l n .normal Y E:=by
 intro R fr k cs w K ht hE hL;unfold plan at u;simp only[zF]at u;split at u
 .rename_i a3;simp only[zB,zU]at u;obtain⟨b0,a7⟩:=u;rw[<-b0]at C;simp only[zPS,zE]at a3;obtain⟨⟨⟨⟨a8,b7⟩,a9⟩,id⟩,_⟩:=a3;have hi:m.map (·.i)=(rowOf X ops (xD ops.toList [])).map (·.1):=by rw[<-C];simp
  have a0: ∀e∈m,ops[e.i]? =some e.o:=fun e envF=>zHb (a:=(e.i,e.o)) (by rw[<-C];exact qZ.2 ⟨e,envF,rfl⟩)
  have a4:=UI _ a9;rw[<-C,List.pairwise_map]at a4;have hR:Row X r nt ops l n m Y E:=by
   refine⟨J,a0,by rw[hi];exact zBK _ b7,a4.imp ?_,b6.imp ?_⟩
   .intro a b y;simp only[zHI,zE,j6,yU,Bool.or_eq_false_iff]at y;refine⟨fun d q S=> ?_,fun f=> ?_⟩
    .simp[q,S]at y
    .rcases y.2 with z | z
     .exact z
     .rcases f with f | f
      .rw[z.1]at f;simp at f
      .rw[z.2]at f;simp at f
   .intro a b y hw hb b8 hL;rw[<-a7]at y;have b1:((xD ops.toList []).getD b.i 0).testBit a.i=false:=by
     cases hh:((xD ops.toList []).getD b.i 0).testBit a.i with
     | false=>rfl
     | true=>exact absurd hh b8
    exact y hw hb b1 hL
  have b2: ∀j,j<ops.size-> ∃e∈m,e.i=j:=by
   intro j hj;simp only[yE,List.mem_range]at id;have q:=id j hj;rw[<-hi]at q;simp only[List.contains_eq_mem,zR,qZ]at q;exact q
  obtain⟨b3,b4⟩:=zDa a8 (P.follows .mixedOrders) (w.tape w.drawn (.order fr.fn i));have b9:=zIb hm hR hE (hL.drew (w.drawn+1));obtain⟨R1,w1,t1,D1,c0,env,c1⟩:=zIa hX hr hm hR b2 (fr:=fr) (k:=k) (cs:=cs) K _ [] R fr.tmps _ b3 (by simp) b9;have Z: ∀e∈m,e.i∈D1:=fun e envF=>c1 _ (.inr (b4 _ (by
   have:=a0 e envF;exact(Array.getElem?_eq_some_iff.1 this).1)))
  have c2:fE X D1 m E=E:=zF7 Z;have a1:=env.rel;have a2:=env.ext;rw[c2]at a1 a2;refine⟨R1,w1,t1,k,(Steps.one (zNt K ht)).trans (c0.trans (.one (xU (fr:= { fr with tmps:=t1,todo:= .inRegion ops []::k}) K rfl))),rfl, ?_,a1,(Ext.drew R n w _).trans a2⟩;obtain⟨b5,a5,c3⟩:=env.env;have c4:(m.map (·.o.dst)).Pairwise (fun a b=> ∀d,a=some d->b≠some d):=List.pairwise_map.2 (hR.pair.imp fun h=>h.1);refine⟨a5.size,fun t x hx=> ?_,zCy J hE.out⟩;have:Eng.look Y t=Eng.look b5 t:=by
   obtain⟨q,S⟩:=BQ J c4 t;obtain⟨f,z⟩:=c3 t;by_cases O: ∃e∈m,e.o.dst=some t
   .obtain⟨e,envF,a6⟩:=O;rw[q e envF a6,f e envF (Z e envF) a6]
   .rw[S (fun p hp T=>O ⟨p,hp,T⟩),z (fun p hp _ T=>O ⟨p,hp,T⟩)]
  rw[this]at hx;exact a5.get t x hx
 .simp at u
end
end Go.Eng
noncomputable section
namespace Go.Eng
inductive Ex where
 | norm (vs:List AV)
 | exit (id:Nat) (vs:List AV)
 | ret (v:AV)
abbrev Rs:=Option (Ex×AH)
def bV (x:Option AV)(K:AV->Rs):Rs:=Option.rec (motive:=fun _=>Rs) none (fun v=>K v) x
def bR (x:Option (AV×AH))(K:AV->AH->Rs):Rs:=Option.rec (motive:=fun _=>Rs) none (fun p=>Prod.rec (motive:=fun _=>Rs) (fun v H=>K v H) p) x
def hd (vs:List AV)(K:AV->List AV->Rs):Rs:=List.rec (motive:=fun _=>Rs) none (fun v l _=>K v l) vs
def cnd (c:AV)(a b:Rs):Rs:=match c with | .bool true=>a | .bool false=>b | _=>none
def jn (x:Rs)(K:List AV->AH->Rs):Rs:=match x with
 | some (.norm vs,H)=>K vs H
 | some (.exit id vs,H)=>some (.exit id vs,H)
 | some (.ret v,H)=>some (.ret v,H)
 | none=>none
def jb (id:Nat)(x:Rs)(K:List AV->AH->Rs):Rs:=match x with
 | some (.norm vs,H)=>K vs H
 | some (.exit i vs,H)=>bif Nat.beq i id then K vs H else some (.exit i vs,H)
 | some (.ret v,H)=>some (.ret v,H)
 | none=>none
def kJ (n:Nat)(b:List AV->AH->Rs):List AV->AH->Rs:=
 Nat.rec (motive:=fun _=>List AV->AH->Rs) (fun _ _=>none) (fun _ a vs H=>jn (b vs H) a) n
def wnt (x:AV)(f:Bool)(a b:Rs):Rs:=bif isW x f then a else b
def chk (x:Option AV)(v:AV)(K:Rs):Rs:=match x with | some y=>bif aveq y v then K else none | none=>none
def VN (H:AH)(o:AObj)(K:Nat->AH->Rs):Rs:=
 match T.get H.h H.next with
 | none=>match T.set 40 H.h H.next o with
  | some t=>fN (Nat.succ H.next) fun m=>K H.next ⟨t,m⟩
  | none=>none
 | some _=>none
def bA (x:Option (AObj×(Nat->AV)))(H:AH)(K:AV->AH->Rs):Rs:=
 match x with
 | some (o,mk)=>VN H o fun A H'=>K (mk A) H'
 | none=>none
def wU (f:BinOp)(x y:AV):Option AV:=match x with
 | .int k a=>match y with | .int k' b=>fF f k a k' b | _=>none
 | _=>none
def d7 (a:BinOp)(x y:AV):Option AV:=match x with
 | .str l b=>match y with | .str m c=>VZ a l b m c | _=>none
 | _=>none
def K5 (f:BinOp)(x y:AV):Option AV:=match x with
 | .bool a=>match y with
  | .bool b=>match f with
   | .eql=>mkB (a==b)
   | .neq=>mkB !(a==b)
   | _=>none
  | _=>none
 | _=>none
def dS (a:BinOp)(r:Option Bool):Option AV:=match r with
 | some b=>match a with
  | .eql=>mkB b
  | .neq=>mkB !b
  | _=>none
 | none=>none
def eqP (x y:AV):Option Bool:=match x with
 | .nP=>match y with
  | .nP=>some true
  | .ptr _ _=>some false
  | _=>none
 | .ptr A o=>match y with
  | .nP=>some false
  | .ptr B p=>bif Nat.beq A B then some (Nat.beq o p)else none
  | _=>none
 | _=>none
def eqS (x y:AV):Option Bool:=match x with
 | .nS=>match y with
  | .nS=>some true
  | .slice _ _ _ _=>some false
  | _=>none
 | .slice _ _ _ _=>match y with
  | .nS=>some false
  | _=>none
 | _=>none
def eqM (x y:AV):Option Bool:=match x with
 | .nM=>match y with
  | .nM=>some true
  | .map _=>some false
  | _=>none
 | .map _=>match y with
  | .nM=>some false
  | _=>none
 | _=>none
def eqF (x y:AV):Option Bool:=match x with
 | .nilFunc=>match y with
  | .nilFunc=>some true
  | .func _ _ _=>some false
  | _=>none
 | .func _ _ _=>match y with
  | .nilFunc=>some false
  | _=>none
 | _=>none
def eqA (f:List Nat)(x y:AV):Option Bool:=match x with
 | .agg a=>match y with
  | .agg b=>bif Nat.beq (Z9 a 0) (Z9 b 0)&&Nat.beq f.length (Z9 a 0)then uC f a b else none
  | _=>none
 | _=>none
def zPo (x y:AV)(H:AH):Option Bool:=match x with
 | .nP=>match y with
  | .nP=>some true
  | .ptr _ _=>some false
  | _=>none
 | .ptr A o=>match y with
  | .nP=>some false
  | .ptr B p=>bif Nat.beq A B then some (Nat.beq o p)else bif QS A H&&QS B H then some false else none
  | _=>none
 | _=>none
def zKa (X:Cx)(a:BinOp)(t:TypeId)(x y:AV)(H:AH):Option AV:=
 match X.und t with
 | some (.pointer e)=>match X.size e with
  | some 0=>none
  | some _=>dS a (zPo x y H)
  | none=>none
 | _=>none
def zPa (X:Cx)(a:BinOp)(t:TypeId)(x y:AV):Option AV:=
 match X.und t with
 | some (.int _)=>wU a x y
 | some .string=>d7 a x y
 | some .bool=>K5 a x y
 | some (.pointer e)=>match X.size e with
  | some 0=>none
  | some _=>dS a (eqP x y)
  | none=>none
 | some (.slice _)=>dS a (eqS x y)
 | some (.map _ _)=>dS a (eqM x y)
 | some (.func _ _ _)=>dS a (eqF x y)
 | some (.struct _)=>match zDv t X.fl with | some qs=>dS a (eqA qs x y) | none=>none
 | some (.array _ _)=>match zDv t X.fl with | some qs=>dS a (eqA qs x y) | none=>none
 | _=>none
def ldN (n:Nat)(p:AV)(H:AH):Option AV:=match p with
 | .ptr A off=>match H.h.get A with
  | some (.cells l _ _ _)=>match bC l off n with | some c=>some (.agg c) | none=>none
  | _=>none
 | _=>none
def ld1 (p:AV)(H:AH):Option AV:=match p with
 | .ptr A off=>match H.h.get A with
  | some (.cells l _ _ _)=>nth l off
  | _=>none
 | _=>none
def zGG (X:Cx)(t:TypeId)(p:AV)(H:AH):Option AV:=
 match X.und t with
 | some d=>bif dI d then(match X.size t with | some n=>ldN n p H | none=>none)else ld1 p H
 | none=>none
def stN (n:Nat)(p x:AV)(H:AH):Option (AV×AH):=match p with
 | .ptr A off=>match H.h.get A with
  | some (.cells l e sz g)=>bif (Z9 (jU x) 0).beq n&&jP (jU x)&&Nat.blt 0 sz then
    match setAt l off (jU x)with
    | some l'=>match fX H A (.cells l' e sz g)with
     | some H'=>some (jQ,H')
     | none=>none
    | none=>none
   else none
  | _=>none
 | _=>none
def zGF (X:Cx)(t:TypeId)(p x:AV)(H:AH):Option (AV×AH):=
 match X.size t with | some n=>stN n p x H | none=>none
def cvI (k:IntKind)(x:AV):Option AV:=match x with | .int _ n=>mkI k n | _=>none
def zPs (x:AV):Option AV:=match x with | .str l b=>some (.str l b) | _=>none
def zGN (X:Cx)(a dst:TypeId)(x:AV):Option AV:=
 match X.und a with
 | none=>none
 | some ds=>match X.und dst with
  | some (.int k)=>cvI k x
  | some .string=>match ds with
   | .string=>zPs x
   | _=>none
  | _=>none
def zF3 (x:AV)(H:AH):Option AV:=match x with
 | .nS=>some (.str 0 0)
 | .slice A off len _=>match H.h.get A with
  | some (.cells l _ _ _)=>match bC l off len with
   | some c=>match QI c with
    | some (n,b)=>mkS n b
    | none=>none
   | none=>none
  | _=>none
 | _=>none
def zE4 (X:Cx)(a dst:TypeId)(x:AV)(H:AH):Option AV:=
 match X.und a with
 | some (.slice e)=>match X.und dst with
  | some .string=>match X.und e with
   | some (.int .u8)=>zF3 x H
   | _=>none
  | _=>none
 | _=>none
def zMY (e:TypeId)(x:AV):Option (AObj×(Nat->AV)):=match x with
 | .str l b=>bif Nat.blt l 4611686018427387904 then some (.cells (bytesOf l b) e 1 true,fun A=> .slice A 0 l 1)else none
 | _=>none
def zGP (X:Cx)(a dst:TypeId)(x:AV):Option (AObj×(Nat->AV)):=
 match X.und a with
 | some .string=>match X.und dst with
  | some (.slice e)=>match X.und e with
   | some (.int .u8)=>zMY e x
   | _=>none
  | _=>none
 | _=>none
def VS (x:AV)(lo hi:Option AV):Option AV:=match kY lo,kY hi with
 | some lo,some hi=>match x with | .str len bits=>zJH len bits lo hi | _=>none
 | _,_=>none
def vN (sz:Nat)(x:AV)(lo hi a:Option AV)(H:AH):Option AV:=match kY lo,kY hi,kY a with
 | some lo,some hi,some a=>match x with
  | .nS=>bif (lo.getD 0).beq 0&&(hi.getD 0).beq 0&&(a.getD 0).beq 0&&(a.isNone||hi.isSome)then some .nS else none
  | .slice A off len cc=>match H.h.get A with
   | some (.cells l _ sz' g)=>bif Nat.blt 0 sz then JC A off len cc sz (kQ l g sz' off cc sz) lo hi a else none
   | _=>none
  | .eS=>match a with
   | none=>bif (lo.getD 0).beq 0&&(hi.getD 0).beq 0 then some .eS else none
   | some _=>none
  | _=>none
 | _,_,_=>none
def xJ (n sz:Nat)(x:AV)(lo hi a:Option AV):Option AV:=match kY lo,kY hi,kY a with
 | some lo,some hi,some a=>match x with
  | .ptr A off=>bif Nat.blt 0 sz then JC A off n (2*n) sz n lo hi a else none
  | _=>none
 | _,_,_=>none
def zE3 (X:Cx)(t:TypeId)(x:AV)(lo hi a:Option AV)(H:AH):Option AV:=
 match X.und t with
 | some .string=>match a with | none=>VS x lo hi | some _=>none
 | some (.slice e)=>match X.size e with | some sz=>vN sz x lo hi a H | none=>none
 | some (.array n e)=>match X.size e with | some sz=>xJ n sz x lo hi a | none=>none
 | some (.pointer arr)=>match X.und arr with
  | some (.array n e)=>match X.size e with | some sz=>xJ n sz x lo hi a | none=>none
  | _=>none
 | _=>none
def fQ (n sz:Nat)(x a:AV):Option AV:=match YW a with
 | some i=>match x with
  | .ptr A off=>bif Nat.blt i n then fN (off+i*sz) fun o=>some (.ptr A o)else none
  | _=>none
 | none=>none
def dV (sz:Nat)(x a:AV):Option AV:=match YW a with
 | some i=>match x with
  | .slice A off len _=>bif Nat.blt i len then fN (off+i*sz) fun o=>some (.ptr A o)else none
  | _=>none
 | none=>none
def zD2 (X:Cx)(t:TypeId)(x a:AV):Option AV:=
 match X.und t with
 | some (.array n e)=>match X.size e with | some sz=>fQ n sz x a | none=>none
 | some (.slice e)=>match X.size e with | some sz=>dV sz x a | none=>none
 | _=>none
def XG (x a:AV):Option AV:=match YW a with
 | some i=>match x with
  | .str len bits=>bif Nat.blt i len then fN ((bits / 2 ^ (8*i)) % 256) fun b=>some (.int .u8 (.ofNat b))else none
  | _=>none
 | none=>none
def zC1 (n sz:Nat)(x a:AV):Option AV:=match YW a with
 | some i=>match x with
  | .agg cs=>bif Nat.blt i n then nth cs (i*sz)else none
  | _=>none
 | none=>none
def zFT (n sz:Nat)(x a:AV):Option AV:=match YW a with
 | some i=>match x with
  | .agg cs=>bif Nat.blt i n then match bC cs (i*sz) sz with | some c=>some (.agg c) | none=>none else none
  | _=>none
 | none=>none
def zGJ (X:Cx)(t:TypeId)(x a:AV):Option AV:=
 match X.und t with
 | some .string=>XG x a
 | some (.array n e)=>match X.und e,X.size e with
  | some d,some sz=>bif dI d then zFT n sz x a else zC1 n sz x a
  | _,_=>none
 | _=>none
def fd1 (off:Nat)(x:AV):Option AV:=match x with | .agg cs=>nth cs off | _=>none
def fdN (off n:Nat)(x:AV):Option AV:=match x with | .agg cs=>(match bC cs off n with | some c=>some (.agg c) | none=>none) | _=>none
def zGL (X:Cx)(t:TypeId)(x:AV)(f:Nat):Option AV:=
 match X.und t with
 | some (.struct fs)=>match zNY fs.toList f with
  | some fl=>match X.und fl.type,X.size fl.type with
   | some d,some n=>bif dI d then fdN fl.offset n x else fd1 fl.offset x
   | _,_=>none
  | none=>none
 | _=>none
def fAd (off:Nat)(x:AV):Option AV:=match x with | .ptr A o=>fN (o+off) fun o=>some (.ptr A o) | _=>none
def YJ (X:Cx)(s:TypeId)(x:AV)(f:Nat):Option AV:=
 match X.und s with
 | some (.struct fs)=>match zNY fs.toList f with
  | some fl=>match X.size fl.type with
   | some 0=>none
   | some _=>fAd fl.offset x
   | none=>none
  | none=>none
 | _=>none
def XC (x:AV):Option AV:=match x with | .str l _=>some (.int .i64 (.ofNat l)) | _=>none
def lnSl (x:AV):Option AV:=match x with
 | .nS=>some (.int .i64 (.ofNat 0))
 | .slice _ _ n _=>some (.int .i64 (.ofNat n))
 | .eS=>some (.int .i64 (.ofNat 0))
 | _=>none
def QR (x:AV)(H:AH):Option AV:=match x with
 | .nM=>some (.int .i64 (.ofNat 0))
 | .map A=>match H.h.get A with
  | some (.map _ es)=>fN es.length fun n=>some (.int .i64 (.ofNat n))
  | _=>none
 | _=>none
def tLen (X:Cx)(t:TypeId)(x:AV)(H:AH):Option AV:=
 match X.und t with
 | some .string=>XC x
 | some (.slice _)=>lnSl x
 | some (.array n _)=>some (.int .i64 (.ofNat n))
 | some (.map _ _)=>QR x H
 | _=>none
def apP (e sz bytes:Nat)(s x:AV)(H:AH):Option (AV×AH):=
 match srcOf sz x H with
 | some (n,new)=>bif jP new then app1 e sz bytes n new s H else none
 | none=>none
def apZ (e sz bytes:Nat)(z:List AV)(s x:AV)(H:AH):Option (AV×AH):=match x with
 | .int .i64 (.ofNat n)=>bif Nat.ble (n*bytes) 281474976710656&&Nat.blt n 4611686018427387904 then app1 e sz bytes n (rep n z) s H else none
 | _=>none
def tApp (X:Cx)(t u:TypeId)(s x:AV)(H:AH):Option (AV×AH):=
 match X.und t with
 | some (.slice e)=>match X.ty.get e with
  | some ti=>match X.und u with
   | some (.slice _)=>bif KW ti.size ti.zero then apP e ti.size ti.bytes s x H else none
   | some .string=>bif KW ti.size ti.zero then apP e ti.size ti.bytes s x H else none
   | some (.int _)=>match aW X e with
    | some z=>bif KW ti.size ti.zero&&jP (jU z)then apZ e ti.size ti.bytes (jU z) s x H else none
    | none=>none
   | _=>none
  | none=>none
 | _=>none
def cpy (sz:Nat)(dst a:AV)(H:AH):Option (AV×AH):=
 match dst with
 | .nS=>match a with
  | .nS=>some (.int .i64 (.ofNat 0),H)
  | .slice _ _ _ _=>some (.int .i64 (.ofNat 0),H)
  | .str _ _=>some (.int .i64 (.ofNat 0),H)
  | _=>none
 | .slice A off len _=>match srcOf sz a H with
  | some (n,new)=>
   match takeN (Nat.min n len*sz) new with
   | some new=>bif jP new then
     match H.h.get A with
     | some (.cells l e' sz' g)=>match(bif Nat.blt 0 sz' then setAt l off new else none)with
      | some l'=>match fX H A (.cells l' e' sz' g)with
       | some H'=>fN (Nat.min n len) fun m=>some (.int .i64 (.ofNat m),H')
       | none=>none
      | none=>none
     | _=>none
    else none
   | none=>none
  | none=>none
 | _=>none
def zNk (X:Cx)(t:TypeId)(dst a:AV)(H:AH):Option (AV×AH):=
 match X.und t with
 | some (.slice e)=>match X.size e with | some sz=>cpy sz dst a H | none=>none
 | _=>none
def vJ (f:List (Nat×Nat))(z:List AV)(a:List (Nat×AV)):Option AV:=
 match fD (zJY f) z a with | some c=>some (.agg c) | none=>none
def zLz (sz:Nat)(z:List AV)(a:List (Nat×AV)):Option AV:=
 match fD (fun i=>some (i*sz,sz)) z a with | some c=>some (.agg c) | none=>none
def zGR (X:Cx)(t:TypeId)(ps:Option (List (Nat×AV))):Option AV:=
 match aW X t with
 | some z=>match ps with
  | some parts=>match X.und t with
   | some (.struct fs)=>match YR X fs.toList with
    | some pl=>vJ pl (jU z) parts
    | none=>none
   | some (.array _ e)=>match X.size e with
    | some sz=>zLz sz (jU z) parts
    | none=>none
   | _=>none
  | none=>none
 | none=>none
def pk3 (c a b:Option AV):Option AV:=match c with
 | some (.bool true)=>a
 | some (.bool false)=>b
 | _=>none
def s2a (n:Nat)(x:AV):Option AV:=match x with
 | .slice A off len _=>bif Nat.ble n len then some (.ptr A off)else none
 | _=>none
def tArr (X:Cx)(arr:TypeId)(x:AV):Option AV:=match X.und arr with | some (.array n _)=>s2a n x | _=>none
def bxV (e:TypeId)(x:AV):Option (AObj×(Nat->AV)):=some (.cells (jU x) e 1 false,fun A=> .ptr A 0)
def dW (e sz len:Nat)(z:List AV)(a:List (Nat×AV)):Option (AObj×(Nat->AV)):=
 match fD (fun i=>some (i*sz,sz)) (rep len z) a with
 | some c=>some (.cells c e sz false,fun A=> .slice A 0 len (2*len))
 | none=>none
def zD3 (X:Cx)(t:TypeId)(len:Nat)(ps:Option (List (Nat×AV))):Option (AObj×(Nat->AV)):=
 match X.und t with
 | some (.slice e)=>match ps with
  | some parts=>match X.size e with
   | some sz=>match aW X e with
    | some z=>bif Nat.ble (len*sz) 16777216&&Nat.blt 0 sz&&Nat.beq (Z9 (jU z) 0) sz then dW e sz len (jU z) parts else none
    | none=>none
   | none=>none
  | none=>none
 | _=>none
def zHV (e sz bytes:Nat)(z:List AV)(l c:AV):Option (AObj×(Nat->AV)):=match l with
 | .int .i64 (.ofNat n)=>match c with
  | .int .i64 (.ofNat m)=>bif Nat.ble n m&&Nat.ble (m*bytes) 140737488355328&&Nat.blt m 9223372036854775808 then
    some (.cells (rep m z) e sz false,fun A=> .slice A 0 n (2*m))else none
  | _=>none
 | _=>none
def zNj (X:Cx)(t:TypeId)(l c:AV):Option (AObj×(Nat->AV)):=
 match X.und t with
 | some (.slice e)=>match X.ty.get e with
  | some ti=>match aW X e with
   | some z=>bif Nat.blt 0 ti.size&&Nat.beq (Z9 (jU z) 0) ti.size then zHV e ti.size ti.bytes (jU z) l c else none
   | none=>none
  | none=>none
 | _=>none
def tLk (X:Cx)(t:TypeId)(ok:Bool)(x k:AV)(H:AH):Option AV:=match X.und t with
 | some (.map kt et)=>match kOf X kt,aW X et with
  | some ks,some z=>lkM ks z ok x k H
  | _,_=>none
 | _=>none
def tUp (X:Cx)(t:TypeId)(x k v:AV)(H:AH):Option (AV×AH):=match X.und t with
 | some (.map kt _)=>match kOf X kt with
  | some ks=>upM ks x k v H
  | none=>none
 | _=>none
def tDl (X:Cx)(t:TypeId)(x k:AV)(H:AH):Option (AV×AH):=match X.und t with
 | some (.map kt _)=>match kOf X kt with
  | some ks=>dlM ks x k H
  | none=>none
 | _=>none
def mkM (ks:List Nat):Option (AObj×(Nat->AV)):=some (.map ks [],fun A=> .map A)
def tMkM (X:Cx)(t:TypeId):Option (AObj×(Nat->AV)):=match X.und t with
 | some (.map kt _)=>match kOf X kt with
  | some ks=>mkM ks
  | none=>none
 | _=>none
def q3 {α:Type}(x y z:Option AV)(f:AV->AV->AV->Option α):Option α:=match x with
 | some a=>match y with
  | some b=>match z with | some c=>f a b c | none=>none
  | none=>none
 | none=>none
def q1 {α:Type}(x:Option AV)(f:AV->Option α):Option α:=match x with | some a=>f a | none=>none
def q2 {α:Type}(x y:Option AV)(f:AV->AV->Option α):Option α:=match x with
 | some a=>match y with | some b=>f a b | none=>none
 | none=>none
structure Dyn where
 fn:FuncId->List AV->AH->Option (AV×AH)
 yld:Nat->List AV->AH->Option (AV×AH)
structure Tb where
 X:Cx
 S:List (Nat×(List AV->AH->Option (AV×AH)))
def zCG (S:List (Nat×(List AV->AH->Option (AV×AH))))(D:Dyn)(g:FuncId)(az:List AV)(H:AH):Option (AV×AH):=match S with
 | []=>D.fn g az H
 | (i,m)::S=>bif Nat.beq i g then m az H else zCG S D g az H
def callV (S:List (Nat×(List AV->AH->Option (AV×AH))))(D:Dyn)(f:AV)(az:List AV)(H:AH):Option (AV×AH):=match f with
 | .func g first cap=>zCG S D g (first++az++cap) H
 | .yT A=>D.yld A az H
 | _=>none
def callO (B:Tb)(D:Dyn)(env:Env)(H:AH)(f:Operand)(args:List Operand):Option (AV×AH):=
 match zCX env args with
 | some az=>match f with
  | .func g=>zCG B.S D g az H
  | .tmp t=>match look env t with | some v=>callV B.S D v az H | none=>none
  | _=>none
 | none=>none
def opK (B:Tb)(D:Dyn)(env:Env)(H:AH)(K:AV->AH->Rs):Op->Rs
 | .move x=>match opd env x with | some v=>K v H | none=>none
 | .assign x=>match opd env x with | some v=>K v H | none=>none
 | .pick c a b=>bV (pk3 (opd env c) (opd env a) (opd env b)) fun v=>K v H
 | .build t ps=>bV (zGR B.X t (uN env ps.toList)) fun v=>K v H
 | .nilCheck x=>bV (q1 (opd env x) uW) fun v=>K v H
 | .binOp op t x y _=>bif zHB B.X t x y then bV (q2 (opd env x) (opd env y) (zKa B.X op t · · H)) fun v=>K v H
  else bV (q2 (opd env x) (opd env y) (zPa B.X op t)) fun v=>K v H
 | .unOp op _ x=>bV (q1 (opd env x) (aun op)) fun v=>K v H
 | .makeFunc (.func f) first cap=>match zCX env first.toList with
  | some a=>match zCX env cap.toList with
   | some b=>K (.func f a b) H
   | none=>none
  | none=>none
 | .fieldAddr s x f=>bV (q1 (opd env x) (YJ B.X s · f)) fun v=>K v H
 | .field t x f=>bV (q1 (opd env x) (zGL B.X t · f)) fun v=>K v H
 | .indexAddr t x i=>bV (q2 (opd env x) (opd env i) (zD2 B.X t)) fun v=>K v H
 | .index t x i=>bV (q2 (opd env x) (opd env i) (zGJ B.X t)) fun v=>K v H
 | .sliceToArrayPointer arr x=>bV (q1 (opd env x) (tArr B.X arr)) fun v=>K v H
 | .extract x i=>bV (q1 (opd env x) (jN · i)) fun v=>K v H
 | .load t a=>bV (q1 (opd env a) (zGG B.X t · H)) fun v=>K v H
 | .slice t x lo hi mx=>match dK env lo,dK env hi,dK env mx with
  | some lo,some hi,some mx=>bV (q1 (opd env x) (zE3 B.X t · lo hi mx H)) fun v=>K v H
  | _,_,_=>none
 | .convert s d x=>match zJi B.X s d with
  | .P=>bV (q1 (opd env x) (zGN B.X s d)) fun v=>K v H
  | .L=>bV (q1 (opd env x) (zE4 B.X s d · H)) fun v=>K v H
  | .A=>bA (q1 (opd env x) (zGP B.X s d)) H K
  | _=>none
 | .alloc e=>match aW B.X e with | some z=>bA (bxV e z) H K | none=>none
 | .box e x=>bA (q1 (opd env x) (bxV e)) H K
 | .buildSlice t len ps=>bA (zD3 B.X t len (uN env ps.toList)) H K
 | .makeSlice t l c=>bA (q2 (opd env l) (opd env c) (zNj B.X t)) H K
 | .lookup t x k ok=>bV (q2 (opd env x) (opd env k) (tLk B.X t ok · · H)) fun v=>K v H
 | .makeMap t none=>bA (tMkM B.X t) H K
 | .mapUpdate t m k v=>bR (q3 (opd env m) (opd env k) (opd env v) (tUp B.X t · · · H)) K
 | .store t a x=>bR (q2 (opd env a) (opd env x) (zGF B.X t · · H)) K
 | .call c=>match c.callee with
  | .value f=>bR (callO B D env H f c.args.toList) K
  | .builtin .len=>match c.args.toList,c.argTypes.toList with
   | [x],t::_=>bV (q1 (opd env x) (tLen B.X t · H)) fun v=>K v H
   | _,_=>none
  | .builtin .cap=>match c.args.toList,c.argTypes.toList with
   | [x],t::_=>bV (q1 (opd env x) (zOZ B.X t)) fun v=>K v H
   | _,_=>none
  | .builtin .append=>match c.args.toList,c.argTypes.toList with
   | [s,x],[t,u]=>bR (q2 (opd env s) (opd env x) (tApp B.X t u · · H)) K
   | _,_=>none
  | .builtin .copy=>match c.args.toList,c.argTypes.toList with
   | [s,x],t::_=>bR (q2 (opd env s) (opd env x) (zNk B.X t · · H)) K
   | _,_=>none
  | .builtin .min=>match c.args.toList with
   | [x,y]=>bV (q2 (opd env x) (opd env y) mn2) fun v=>K v H
   | _=>none
  | .builtin .max=>match c.args.toList with
   | [x,y]=>bV (q2 (opd env x) (opd env y) mx2) fun v=>K v H
   | _=>none
  | .builtin .delete=>match c.args.toList,c.argTypes.toList with
   | [m,k],t::_=>bR (q2 (opd env m) (opd env k) (tDl B.X t · · H)) K
   | _,_=>none
  | .builtin .clear=>match c.args.toList,c.argTypes.toList with
   | [m],t::_=>bR (q1 (opd env m) (acl B.X t · H)) K
   | _,_=>none
  | _=>none
 | _=>none
def pck (L:List Nat)(env:Env)(K:List AV->Rs):Rs:=match L with
 | []=>K []
 | l::L=>match env l with
  | some v=>pck L env fun vs=>K (v::vs)
  | none=>none
def unp (L:List Nat)(vs:List AV)(env:Env)(K:Env->Rs):Rs:=match L with
 | []=>K env
 | l::L=>hd vs fun v vs=>unp L vs (upd env l v) K
def nl (vs:List AV)(K:Rs):Rs:=match vs with | []=>K | _::_=>none
def zP9 (k i:Nat)(vs:List AV)(env:Env)(K:Env->Rs):Rs:=match k with
 | 0=>nl vs (K env)
 | k+1=>hd vs fun v vs=>zP9 k (i+1) vs (upd env i v) K
def zAL (L:List Nat)(env:Env):Env:=match L with
 | []=>env
 | l::L=>fun t=>bif Nat.beq t l then none else zAL L env t
def setE (nt:Nat)(env:Env)(d:Option Tmp)(v:AV)(K:Env->Rs):Rs:=match d with
 | some d=>bif Nat.blt d nt then K (upd env d v)else none
 | none=>K env
def isL (X:Cx)(o:Op):Bool:=match cls X o with | .L=>true | _=>false
def vF (X:Cx)(o:Op):Bool:=match o with
 | .load _ _=>true
 | .lookup _ _ _ _=>true
 | .slice t _ _ _ _=>match X.und t with | some (.slice _)=>true | _=>false
 | .convert _ _ _=>isL X o
 | .binOp _ t x y _=>zHB X t x y
 | .call c=>match c.callee with
  | .builtin .len=>match c.argTypes.toList with
   | t::_=>match X.und t with | some (.map _ _)=>true | _=>false
   | _=>false
  | _=>false
 | _=>false
def tbit (m i:Nat):Bool:=Nat.rec (motive:=fun _=>Nat->Bool) (fun m=>Nat.beq (Nat.mod m 2) 1) (fun _ a m=>a (Nat.div m 2)) i m
theorem zGB (m i:Nat):tbit m i=m.testBit i:=by
 induction i generalizing m with
 | zero=>
  rw[Nat.testBit_zero];show Nat.beq (m % 2) 1=_;rw[yI,zX,zR]
 | succ i ih=>rw[Nat.testBit_succ,<-ih];rfl
def zNC:Option (Nat×Bool)->Option (Nat×Bool)->Bool
 | some (i,a),some (j,b)=>Nat.beq i j&&(a==b)
 | _,_=>false
def zBm (g:Option (Nat×Bool)):List (Nat×Oper)->List (Nat×Oper)×List (Nat×Oper)
 | []=>([],[])
 | o::l=>bif zNC g o.2.guard then(match zBm g l with | (a,b)=>(o::a,b))else([],o::l)
def slotsOf (ops:Array Oper)(l:List (Nat×Oper)):List Nat:=l.flatMap fun a=>cI ops a.2
def YT (ops:Array Oper)(run rest:List (Nat×Oper)):List Nat:=
 let s:=slotsOf ops rest
 run.filterMap fun a=>match a.2.dst with
  | some d=>bif s.contains d then some d else none
  | none=>none
def dstsOf (run:List (Nat×Oper)):List Nat:=run.filterMap fun a=>a.2.dst
def zND (X:Cx)(masks:Option (List Nat))(run rest:List (Nat×Oper)):Bool:=match masks with
 | none=>true
 | some ms=>run.all fun a=> !vF X a.2.op||rest.all fun b=> !xC (cls X b.2.op)||tbit (ms.getD b.1 0) a.1
def zIi (ops:Array Oper)(env:Env)(j:Nat):Option AV:=match zGf ops.toList j with
 | some p=>match p.dst with
  | some d=>look env d
  | none=>none
 | none=>none
structure Seen where
 i:Nat
 rd:AH->Option AV
 v:AV
def zPV (B:Tb)(env:Env)(o:Op)(H:AH):Option AV:=match o with
 | .load t a=>q1 (opd env a) (zGG B.X t · H)
 | .lookup t x k ok=>q2 (opd env x) (opd env k) (tLk B.X t ok · · H)
 | .slice t x lo hi mx=>match dK env lo,dK env hi,dK env mx with
  | some lo,some hi,some mx=>q1 (opd env x) (zE3 B.X t · lo hi mx H)
  | _,_,_=>none
 | .convert s d x=>q1 (opd env x) (zE4 B.X s d · H)
 | .binOp op t x y _=>q2 (opd env x) (opd env y) (zKa B.X op t · · H)
 | .call c=>match c.args.toList,c.argTypes.toList with
  | [x],t::_=>q1 (opd env x) (tLen B.X t · H)
  | _,_=>none
 | _=>none
def zPt (a:Nat)(H:AH)(K:Rs):List Seen->Rs
 | []=>K
 | s::l=>bif tbit a s.i then zPt a H K l else chk (s.rd H) s.v (zPt a H K l)
def zNA (B:Tb)(masks:List Nat)(env:Env)(sn:List Seen)(i:Nat)(o:Op)(v:AV)(H':AH)(K:List Seen->Rs):Rs:=
 bif xC (cls B.X o)then zPt (masks.getD i 0) H' (K sn) sn
 else bif vF B.X o then K (sn++[⟨i,zPV B env o,v⟩])else K sn
def zJW (B:Tb)(D:Dyn)(nt:Nat)(masks:Option (List Nat))(K:List Seen->Env->AH->Rs):List (Nat×Oper)->List Seen->Env->AH->Rs
 | [],sn,env,H=>K sn env H
 | (i,o)::rest,sn,env,H=>opK B D env H (fun v H'=>match masks with
   | none=>setE nt env o.dst v fun env'=>zJW B D nt masks K rest sn env' H'
   | some ms=>zNA B ms env sn i o.op v H' fun sn=>setE nt env o.dst v fun env'=>zJW B D nt masks K rest sn env' H') o.op
def zOn (nt:Nat)(ops:Array Oper)(j:Nat)(run:List (Nat×Oper)):Bool:=match zGf ops.toList j with
 | some p=>match p.dst with
  | some d=> !(dstsOf run).contains d&&(dstsOf run).all fun d=>Nat.blt d nt
  | none=>false
 | none=>false
def zBo (X:Cx)(masks:Option (List Nat))(sn:List Seen)(H:AH)(K:Rs):List (Nat×Oper)->Rs
 | []=>K
 | b::run=>match masks with
  | none=>zBo X masks sn H K run
  | some ms=>bif xC (cls X b.2.op)then zPt (ms.getD b.1 0) H (zBo X masks sn H K run) sn else zBo X masks sn H K run
def runK (B:Tb)(D:Dyn)(nt:Nat)(ops:Array Oper)(masks:Option (List Nat))(g:AV)(a:Bool)(run:List (Nat×Oper))(out:List Nat)(sn:List Seen)(env:Env)(H:AH)(K:Env->AH->Rs):Rs:=
 jn (wnt g a (zJW B D nt masks (fun _ env H=>pck out env fun vs=>some (.norm vs,H)) run sn env H)
   (zBo B.X masks sn H (some (.norm (out.map fun _=>jQ),H)) run))
  fun vs H=>unp out vs (zAL (dstsOf run) env) fun env=>K env H
def runW (B:Tb)(D:Dyn)(nt:Nat)(masks:Option (List Nat))(g:AV)(a:Bool)(run:List (Nat×Oper))(out:List Nat)(sn:List Seen)(env:Env)(H:AH)(K:List Seen->Env->AH->Rs):Rs:=
 wnt g a (zJW B D nt masks K run sn env H)
  (zBo B.X masks sn H (unp out (out.map fun _=>jQ) (zAL (dstsOf run) env) fun env=>K sn env H) run)
def zEr (B:Tb)(D:Dyn)(nt:Nat)(ops:Array Oper)(masks:Option (List Nat))(f:Nat)(K:Env->AH->Rs):List (Nat×Oper)->List Seen->Env->AH->Rs:=
 Nat.rec (motive:=fun _=>List (Nat×Oper)->List Seen->Env->AH->Rs) (fun _ _ _ _=>none)
  (fun _ a l sn env H=>match l with
   | []=>K env H
   | (i,o)::rest=>match o.guard with
    | none=>zJW B D nt masks (fun sn env H=>a rest sn env H) [(i,o)] sn env H
    | some (j,want)=>match zIi ops env j with
     | none=>none
     | some g=>match zBm o.guard rest with
      | (run,rest)=>bif zOn nt ops j ((i,o)::run)then
        bif zND B.X masks ((i,o)::run) rest then
         runK B D nt ops masks g want ((i,o)::run) (YT ops ((i,o)::run) rest) sn env H fun env H=>a rest sn env H
        else runW B D nt masks g want ((i,o)::run) (YT ops ((i,o)::run) rest) sn env H fun sn env H=>a rest sn env H
       else none) f
def idx (l:List Oper):Nat->List (Nat×Oper):=match l with
 | []=>fun _=>[]
 | o::l=>fun n=>(n,o)::idx l (n+1)
def zPe (B:Tb)(D:Dyn)(nt:Nat)(ops:Array Oper)(a:Bool)(K:Env->AH->Rs)(env:Env)(H:AH):Rs:=
 bif a then
  match plan B.X ops with
  | some (row,masks)=>zEr B D nt ops (some masks) (Nat.succ row.length) K row [] env H
  | none=>none
 else zEr B D nt ops none (Nat.succ ops.size) K (idx ops.toList 0) [] env H
inductive Hint where
 | o
 | s (a b:Hint)
 | c (L:List Nat) (a b:Hint)
 | cl (a b:Hint)
 | cr (a b:Hint)
 | b (L:List Nat) (a:Hint)
 | b0 (a:Hint)
 | l (L:List Nat) (a:Hint)
 | rf (s:Nat) (L:List Nat)
 | t (L:List Nat) (m:List AV->AH->Option AH)
def uI (a:List (Nat×List Nat))(id:Nat):Option (List Nat):=match a with
 | []=>none
 | (i,L)::r=>bif Nat.beq i id then some L else uI r id
def zG4 (a:List (Nat×List Nat))(id:Nat):List (Nat×List Nat):=a.filter fun x=> !Nat.beq x.1 id
def resE (X:Cx)(env:Env)(H:AH):ResultVar->Option AV
 | .tmp t=>env t
 | .cell a t=>q1 (env a) (zGG X t · H)
def zPd (X:Cx)(rs:List ResultVar)(env:Env)(H:AH)(K:List AV->Rs):Rs:=match rs with
 | []=>K []
 | r::rs=>bV (resE X env H r) fun v=>zPd X rs env H fun vs=>K (v::vs)
def tupV:List AV->AV
 | [v]=>v
 | vs=> .tuple vs
def zKp (X:Cx)(rs:List ResultVar)(env:Env)(H:AH):Rs:=zPd X rs env H fun vs=>some (.ret (tupV vs),H)
def rfC (S:List (Nat×(List AV->AH->Option (AV×AH))))(D:Dyn)(f:AV)(A:Nat)(H:AH):Option (AV×AH):=match f with
 | .func g first cap=>zCG S D g (first++[.yT A]++cap) H
 | _=>none
def uR (A:Nat)(H:AH)(K:AH->Rs):Rs:=match H.h.get A with
 | some (.loop l)=>match l.state with
  | .ready=>match fX H A (.loop { l with state:= .busy})with
   | some H'=>K H'
   | none=>none
  | _=>none
 | _=>none
def KH (A:Nat)(a:Option Code)(H:AH):Option (AV×AH):=match H.h.get A with
 | some (.loop l)=>match a with
  | none=>match fX H A (.loop { l with state:= .ready,pending:=none})with
   | some H'=>some (.bool true,H')
   | none=>none
  | some j=>match fX H A (.loop { l with state:= .done,pending:=some j})with
   | some H'=>some (.bool false,H')
   | none=>none
 | _=>none
def zMU (A:Nat)(x:Rs):Option (AV×AH):=match x with
 | some (.norm _,H)=>KH A none H
 | some (.exit id _,H)=>KH A (some (.exit id)) H
 | some (.ret _,H)=>KH A (some .ret) H
 | none=>none
def fT (A:Nat)(H:AH)(K:Option Code->AH->Rs):Rs:=match H.h.get A with
 | some (.loop l)=>match l.state with
  | .busy=>none
  | _=>match fX H A .dead with
   | some H'=>K l.pending H'
   | none=>none
 | _=>none
def zEE (j:Option Code)(a:Rs)(f:Nat->Rs)(h:Rs):Rs:=match j with
 | none=>a
 | some (.exit id)=>f id
 | some .ret=>h
 | _=>none
def exS (a:List (Nat×List Nat))(env:Env)(H:AH)(id:Nat):Rs:=match a with
 | []=>none
 | (i,L)::r=>bif Nat.beq i id then(pck L env fun vs=>some (.exit id vs,H))else exS r env H id
def zK6 (nt:Nat)(ps:List Nat)(az:List AV)(env:Env)(K:Env->Rs):Rs:=match ps with
 | []=>nl az (K env)
 | p::ps=>hd az fun a az=>bif Nat.blt p nt then zK6 nt ps az (upd env p a) K else none
def tld (x:Option AH)(N:Nat)(K:AH->Rs):Rs:=match x with
 | some H=>bif Nat.ble N H.next then K H else none
 | none=>none
def kI (B:Tb)(D:Dyn)(n nt:Nat)(rs:List ResultVar)(f0:FuncId)(ro:Bool):Code->Hint->List (Nat×List Nat)->(Env->AH->Rs)->Env->AH->Rs
 | .skip,_,_,K,env,H=>K env H
 | .label _,_,_,K,env,H=>K env H
 | .region _ ops draw,_,_,K,env,H=>zPe B D nt ops draw K env H
 | .seq a b, .s ha hb,Bk,K,env,H=>kI B D n nt rs f0 ro a ha Bk (kI B D n nt rs f0 ro b hb Bk K) env H
 | .seq _ _, .t L m,_,K,env,H=>pck L env fun vs=>tld (m vs H) H.next fun H=>unp L vs uQ fun env=>K env H
 | .cond c a b, .c L ha hb,Bk,K,env,H=>match opd env c with
  | some v=>jn (cnd v (kI B D n nt rs f0 ro a ha Bk (fun env H=>pck L env fun vs=>some (.norm vs,H)) env H)
    (kI B D n nt rs f0 ro b hb Bk (fun env H=>pck L env fun vs=>some (.norm vs,H)) env H)) fun vs H=>unp L vs uQ fun env=>K env H
  | none=>none
 | .cond c a b, .cl ha hb,Bk,K,env,H=>match opd env c with
  | some v=>cnd v (kI B D n nt rs f0 ro a ha Bk (fun _ _=>none) env H) (kI B D n nt rs f0 ro b hb Bk K env H)
  | none=>none
 | .cond c a b, .cr ha hb,Bk,K,env,H=>match opd env c with
  | some v=>cnd v (kI B D n nt rs f0 ro a ha Bk K env H) (kI B D n nt rs f0 ro b hb Bk (fun _ _=>none) env H)
  | none=>none
 | .block id b, .b L hb,Bk,K,env,H=>
  jb id (kI B D n nt rs f0 ro b hb ((id,L)::Bk) (fun env H=>pck L env fun vs=>some (.norm vs,H)) env H) fun vs H=>unp L vs uQ fun env=>K env H
 | .block id b, .b0 hb,Bk,K,env,H=>kI B D n nt rs f0 ro b hb (zG4 Bk id) K env H
 | .loop b, .l L hb,Bk,_,env,H=>pck L env fun vs=>
  kJ n (fun vs H=>unp L vs uQ fun env=>kI B D n nt rs f0 ro b hb Bk (fun env H=>pck L env fun vs=>some (.norm vs,H)) env H) vs H
 | .exit id,_,Bk,_,env,H=>match uI Bk id with
  | some L=>pck L env fun vs=>some (.exit id vs,H)
  | none=>none
 | .ret,_,_,_,env,H=>zKp B.X rs env H
 | .rangeFunc f _ _ _, .rf s L,Bk,K,env,H=>bif ro then none else match opd env f with
  | some fv=>pck L env fun vs=>VN H (.loop ⟨.ready,none,f0,s,L,vs⟩) fun A H=>bR (rfC B.S D fv A H) fun _ H=>
    fT A H fun j H=>zEE j (K env H) (exS Bk env H) (zKp B.X rs env H)
  | none=>none
 | _,_,_,_,_,_=>none
def dG (x:Rs):Option (AV×AH):=match x with | some (.ret v,H)=>some (v,H) | _=>none
def rdK (B:Tb)(D:Dyn)(n:Nat)(f0:FuncId)(nt:Nat)(ps:Array Tmp)(a body:Code)(L f:List Nat)(h hb:Hint)(A:Nat)(l:ALoop)(az:List AV)(H:AH):Option (AV×AH):=
 bif Y4 L l.live then
  zMU A (unp L l.vals uQ fun env=>zK6 nt ps.toList az env fun env=>
   kI B D n nt [] f0 true a h [] (fun env H=>uR A H fun H=>kI B D n nt [] f0 true body hb (f.map fun i=>(i,[])) (fun _ H=>some (.norm [],H)) env H) env H)
 else none
def zJX (B:Tb)(D:Dyn)(n:Nat)(f0:FuncId)(s:Nat)(L a:List Nat)(f hb:Hint)(A:Nat)(l:ALoop)(az:List AV)(H:AH):Option (AV×AH):=
 match zAi f0 s with
 | some (nt,ps,asg,body)=>rdK B D n f0 nt ps asg body L a f hb A l az H
 | none=>none
def YP (t:List ((Nat×Nat)×(Nat->ALoop->List AV->AH->Option (AV×AH))))(A:Nat)(az:List AV)(H:AH):Option (AV×AH):=
 match H.h.get A with
 | some (.loop l)=>go l t
 | _=>none
where go (l:ALoop):List ((Nat×Nat)×(Nat->ALoop->List AV->AH->Option (AV×AH)))->Option (AV×AH)
 | []=>none
 | ((f,s),m)::t=>bif Nat.beq f l.fn&&Nat.beq s l.site then m A l az H else go l t
def zOm (B:Tb)(D:Dyn)(n:Nat)(f0:FuncId)(a:Func)(h:Hint)(az:List AV)(H:AH):Option (AV×AH):=
 match a.body with
 | some body=>bif Nat.ble (a.params.size+a.nfree) a.ntmps then dG (zP9 (a.params.size+a.nfree) 0 az uQ fun env=>kI B D n a.ntmps a.results.toList f0 false body h [] (fun env H=>zKp B.X a.results.toList env H) env H)else none
 | none=>none
end Go.Eng
end
namespace Go.Eng
theorem wI {K:AV->Rs}{out:Ex×AH}(h:bV J K=some out): ∃v,J=some v/\K v=some out:=by
 cases J with
 | none=>exact absurd h (by simp[bV])
 | some v=>exact⟨_,rfl,h⟩
theorem d8 {x:Option (AV×AH)}{K:AV->AH->Rs}{out:Ex×AH}(h:bR x K=some out): ∃v H,x=some (v,H)/\K v H=some out:=by
 cases x with
 | none=>exact absurd h (by simp[bR])
 | some p=>obtain⟨v,H⟩:=p;exact⟨_,_,rfl,h⟩
theorem JA {K:AV->AH->Rs}{out:Ex×AH}(h:bA j n K=some out): ∃v H',wA n j=some (v,H')/\K v H'=some out:=by
 unfold bA at h;split at h
 .rename_i o x;unfold VN at h;split at h
  .rename_i a;split at h
   .rename_i t f;rw[kF]at h;refine⟨_,_, ?_,h⟩;simp only[wA,newA,a,zKN,f]
   .simp at h
  .simp at h
 .simp at h
theorem wW {α:Type}{f:AV->Option α}{r:α}(h:q1 J f=some r): ∃a,J=some a/\f a=some r:=by
 unfold q1 at h;split at h
 .exact⟨_,rfl,h⟩
 .simp at h
theorem vQ {α:Type}{y:Option AV}{f:AV->AV->Option α}{r:α}(h:q2 J y f=some r): ∃a b,J=some a/\y=some b/\f a b=some r:=by
 unfold q2 at h;split at h
 .split at h
  .exact⟨_,_,rfl,rfl,h⟩
  .simp at h
 .simp at h
section
variable {X:Cx}
theorem cY {q:Option Bool}(a:dS u q=some h): ∃b,q=some b/\((u= .eql/\mkB b=some h)\/(u= .neq/\mkB (!b)=some h)):=by
 unfold dS at a;split at a
 .split at a
  .exact⟨_,rfl, .inl ⟨rfl,a⟩⟩
  .exact⟨_,rfl, .inr ⟨rfl,a⟩⟩
  .simp at a
 .simp at a
theorem aV (t:aeq X 9 k h p=some U)(a:(u= .eql/\mkB U=some L)\/(u= .neq/\mkB (!U)=some L)):zCU X u k h p=some L:=by
 unfold zCU;rcases a with⟨rfl,a⟩ | ⟨rfl,a⟩<;>simp only[t,a]
theorem zMS (o:zDv k X.fl=some A)(j:dS u (eqA A h p)=some L):zJN X u k h p=some L:=by
 obtain⟨b,hb,f⟩:=cY j;unfold eqA at hb;split at hb
 .rename_i a;split at hb
  .rename_i c;rw[zF]at hb;split at hb
   .rename_i t;show zJM X u k a c=some L;simp only[zJM,o,t,zP,hb];rcases f with⟨rfl,f⟩ | ⟨rfl,f⟩
    .exact f
    .exact f
   .simp at hb
  .simp at hb
 .simp at hb
theorem zGS (t:zPa X u k h p=some L):zJN X u k h p=some L:=by
 unfold zPa at t;split at t
 .unfold wU at t;split at t
  .split at t
   .exact t
   .simp at t
  .simp at t
 .unfold d7 at t;split at t
  .split at t
   .exact t
   .simp at t
  .simp at t
 .rename_i f;unfold K5 at t;split at t
  .rename_i a;split at t
   .rename_i b;have x:aeq X 9 k (.bool a) (.bool b)=some (a==b):=by simp only[aeq,f]
    show(bif wM (.bool a)then zCU X u k (.bool a) (.bool b)else none)=some L;simp only[wM,zP];split at t
    .exact aV x (.inl ⟨rfl,t⟩)
    .exact aV x (.inr ⟨rfl,t⟩)
    .simp at t
   .simp at t
  .simp at t
 .rename_i e f;split at t
  .simp at t
  .rename_i n J q;obtain⟨b,hb,j⟩:=cY t;have key: ∀h p,eqP h p=some b->aeq X 9 k h p=some b/\wM h=true:=by
    intro h p hb;unfold eqP at hb;split at hb
    .split at hb<;>simp_all [aeq,f,wM]
    .split at hb
     .simp_all [aeq,f,wM]
     .simp only[aeq,f,q,wM];exact⟨hb,trivial⟩
     .simp at hb
    .simp at hb
   obtain⟨k1,k2⟩:=key h p hb;have k3:=aV k1 j;unfold zJN;split
   .simp[wM]at k2
   .simp[wM]at k2
   .simp[wM]at k2
   .rw[k2];exact k3
  .simp at t
 .rename_i e f;obtain⟨b,hb,j⟩:=cY t;have key:aeq X 9 k h p=some b/\wM h=true:=by
   unfold eqS at hb;split at hb
   .split at hb<;>simp_all [aeq,f,wM]
   .split at hb<;>simp_all [aeq,f,wM]
   .simp at hb
  obtain⟨k1,k2⟩:=key;have k3:=aV k1 j;unfold zJN;split
  .simp[wM]at k2
  .simp[wM]at k2
  .simp[wM]at k2
  .rw[k2];exact k3
 .rename_i m z f;obtain⟨b,hb,j⟩:=cY t;have key:aeq X 9 k h p=some b/\wM h=true:=by
   unfold eqM at hb;split at hb
   .split at hb<;>simp_all [aeq,f,wM]
   .split at hb<;>simp_all [aeq,f,wM]
   .simp at hb
  obtain⟨k1,k2⟩:=key;have k3:=aV k1 j;unfold zJN;split
  .simp[wM]at k2
  .simp[wM]at k2
  .simp[wM]at k2
  .rw[k2];exact k3
 .rename_i m z K f;obtain⟨b,hb,j⟩:=cY t;have key:aeq X 9 k h p=some b/\wM h=true:=by
   unfold eqF at hb;split at hb
   .split at hb<;>simp_all [aeq,f,wM]
   .split at hb<;>simp_all [aeq,f,wM]
   .simp at hb
  obtain⟨k1,k2⟩:=key;have k3:=aV k1 j;unfold zJN;split
  .simp[wM]at k2
  .simp[wM]at k2
  .simp[wM]at k2
  .rw[k2];exact k3
 .split at t
  .rename_i C o;exact zMS o t
  .simp at t
 .split at t
  .rename_i C o;exact zMS o t
  .simp at t
 .simp at t
theorem zE5 (t:zKa X u k h p n=some L):zAX X u k h p n=some L:=by
 unfold zKa at t;split at t
 .rename_i e j;split at t
  .simp at t
  .rename_i y z q;have T:y≠0:=fun J=>z (by rw[J])
   obtain⟨m,rfl⟩: ∃m,y=m+1:=⟨y - 1,by omega⟩;have K:zPa X u k h p=dS u (eqP h p):=by simp only[zPa,j,q]
   have key:zPa X u k h p=some L\/ ∃A o B x,h= .ptr A o/\p= .ptr B x/\Nat.beq A B=false/\QS A n=true/\QS B n=true/\dS u (some false)=some L:=by
    rw[K]
    cases h<;>cases p<;>simp only[zPo]at t<;>first | exact .inl t | (simp[dS]at t;done) | skip
    rename_i A o B x
    cases f:Nat.beq A B with
    | true=>left;simp only[f,zP,eqP]at t⊢;exact t
    | false=>
     simp only[f,qH]at t
     cases hl:(QS A n&&QS B n)with
     | true=>
      rw[hl]at t;simp only[zP]at t;rw[zE]at hl;exact .inr ⟨A,o,B,x,rfl,rfl,f,hl.1,hl.2,t⟩
     | false=>rw[hl]at t;simp[dS]at t
   rcases key with N | ⟨A,o,B,x,rfl,rfl,f,O,S,a⟩
   .unfold zAX;rw[zGS N]
   .have C:zJN X u k (.ptr A o) (.ptr B x)=none:=by
     show(bif wM (.ptr A o)then zCU X u k (.ptr A o) (.ptr B x)else none)=none;simp only[wM,zP];unfold zCU
     cases u<;>simp only[aeq,j,q,f,qH]
    unfold zAX;rw[C];simp only[j,q,pNe,O,S,f,Bool.not_false,qP,zP]
    cases u<;>first | exact a | (simp[dS]at a;done)
  .simp at t
 .simp at t
theorem zAb (t:zGG X k h n=some p):VF X k h n=some p:=by
 unfold zGG at t;split at t
 .rename_i d hd;rw[zF]at t;split at t
  .rename_i a;split at t
   .rename_i r j;unfold ldN at t;split at t
    .split at t
     .rename_i f;simp only[VF,f,hd,a,zP,j];exact t
     .simp at t
    .simp at t
   .simp at t
  .rename_i a;unfold ld1 at t;split at t
   .split at t
    .rename_i f;simp only[VF,f,hd,qY.2 a,qH];exact t
    .simp at t
   .simp at t
 .simp at t
theorem zGE (t:zGF X k h p n=some (L,E)):BK X k (some h) (some p) n=some (L,E):=by
 unfold zGF at t;split at t
 .rename_i x a;unfold stN at t;split at t
  .split at t
   .rename_i f;rw[zF]at t;split at t
    .rename_i j;split at t
     .rename_i m;split at t
      .rename_i hp;simp only[BK,zCL,f,a,j,zP,m,hp];exact t
      .simp at t
     .simp at t
    .simp at t
   .simp at t
  .simp at t
 .simp at t
theorem zGM (d:zGN X k W h=some p):zA1 X k W h=some p:=by
 unfold zGN at d;split at d
 .simp at d
 .rename_i f a;split at d
  .rename_i s hd;unfold cvI at d;split at d
   .simp only[zA1,a,hd];exact d
   .simp at d
  .rename_i hd;split at d
   .unfold zPs at d;split at d
    .simp only[zA1,a,hd];exact d
    .simp at d
   .simp at d
  .simp at d
theorem zBd (s:zE4 X k W h n=some p):JX X k W h n=some p:=by
 unfold zE4 at s;split at s
 .rename_i e a;split at s
  .rename_i hd;split at s
   .rename_i f;simp only[JX,a,hd,f];exact s
   .simp at s
  .simp at s
 .simp at s
theorem zGO (s:zGP X k W h=some e):zCT X k W h=some e:=by
 unfold zGP at s;split at s
 .rename_i a;split at s
  .rename_i d hd;split at s
   .rename_i f;simp only[zCT,a,hd,f];exact s
   .simp at s
  .simp at s
 .simp at s
theorem zBc {hi q:Option AV}(t:zE3 X k h J hi q n=some p):ZE X k h J hi q n=some p:=by
 unfold zE3 at t;split at t
 .rename_i a;split at t
  .unfold VS at t;split at t
   .rename_i l1 x f j;split at t
    .have m:kY none=some none:=rfl;simp only[ZE,f,j,m,a];exact t
    .simp at t
   .simp at t
  .simp at t
 .rename_i e a;split at t
  .rename_i sz o;unfold vN at t;split at t
   .rename_i l1 x u f j m;split at t<;>first | (simp only[ZE,f,j,m,a,o];exact t) | (simp at t;done)
   .simp at t
  .simp at t
 .rename_i r e a;split at t
  .rename_i sz o;unfold xJ at t;split at t
   .rename_i l1 x u f j m;split at t<;>first | (simp only[ZE,f,j,m,a,o];exact t) | (simp at t;done)
   .simp at t
  .simp at t
 .rename_i arr a;split at t
  .rename_i r e y;split at t
   .rename_i sz o;unfold xJ at t;split at t
    .rename_i l1 x u f j m;split at t<;>first | (simp only[ZE,f,j,m,a,y,o];exact t) | (simp at t;done)
    .simp at t
   .simp at t
  .simp at t
 .simp at t
theorem zFz (x:zD2 X k h p=some L):bG X k h p=some L:=by
 unfold zD2 at x;split at x
 .rename_i n e f;split at x
  .rename_i sz a;unfold fQ at x;split at x
   .rename_i t j;split at x
    .simp only[bG,j,f,a];exact x
    .simp at x
   .simp at x
  .simp at x
 .rename_i e f;split at x
  .rename_i sz a;unfold dV at x;split at x
   .rename_i t j;split at x
    .simp only[bG,j,f,a];exact x
    .simp at x
   .simp at x
  .simp at x
 .simp at x
theorem zGI (x:zGJ X k h p=some L):VG X k h p=some L:=by
 unfold zGJ at x;split at x
 .rename_i f;unfold XG at x;split at x
  .rename_i t a;split at x
   .simp only[VG,a,f];exact x
   .simp at x
  .simp at x
 .rename_i n e f;split at x
  .rename_i d sz hd m;rw[zF]at x;split at x
   .rename_i j;unfold zFT at x;split at x
    .rename_i t a;split at x
     .simp only[VG,a,f,hd,m,j,zP];exact x
     .simp at x
    .simp at x
   .rename_i j;unfold zC1 at x;split at x
    .rename_i t a;split at x
     .simp only[VG,a,f,hd,m,qY.2 j,qH];exact x
     .simp at x
    .simp at x
  .simp at x
 .simp at x
theorem zGK (t:zGL X k h i=some p):BY X k h i=some p:=by
 unfold zGL at t;split at t
 .rename_i fs j;split at t
  .rename_i fl m;split at t
   .rename_i d n hd o;rw[zF]at t;split at t
    .rename_i a;unfold fdN at t;split at t
     .simp only[BY,j,m,hd,o,a,zP];exact t
     .simp at t
    .rename_i a;unfold fd1 at t;split at t
     .simp only[BY,j,m,hd,o,qY.2 a,qH];exact t
     .simp at t
   .simp at t
  .simp at t
 .simp at t
theorem zAc (t:YJ X k h i=some p):fU X k h i=some p:=by
 unfold YJ at t;split at t
 .rename_i fs a;split at t
  .rename_i fl j;split at t
   .simp at t
   .rename_i n o m;unfold fAd at t;split at t
    .simp only[fU,a,j,m];exact t
    .simp at t
   .simp at t
  .simp at t
 .simp at t
theorem zGH (t:tLen X k h n=some p):zDP X k h n=some p:=by
 unfold tLen at t;split at t
 .rename_i f;unfold XC at t;split at t
  .simp only[zDP,f];exact t
  .simp at t
 .rename_i e f;unfold lnSl at t;split at t<;>first | (simp only[zDP,f];exact t) | (simp at t;done)
 .rename_i x e f;simp only[zDP,f];exact t
 .rename_i a b f;unfold QR at t;split at t
  .simp only[zDP,f];exact t
  .split at t
   .rename_i j;rw[kF]at t;simp only[zDP,f,j];exact t
   .simp at t
  .simp at t
 .simp at t
theorem zK9 (t:zNk X k h p n=some (L,E)):zGc X k h p n=some (L,E):=by
 unfold zNk at t;split at t
 .rename_i e f;split at t
  .rename_i sz a;simp only[zGc,f,a];exact t
  .simp at t
 .simp at t
theorem zGQ (t:zGR X k (uN l a.toList)=some h):JI X l k a=some h:=by
 unfold zGR at t;split at t
 .rename_i z f;split at t
  .rename_i o hp;split at t
   .rename_i fs env;split at t
    .rename_i p j;simp only[JI,f,hp,env,j];exact t
    .simp at t
   .rename_i n e env;split at t
    .rename_i sz m;simp only[JI,f,hp,env,m];exact t
    .simp at t
   .simp at t
  .simp at t
 .simp at t
theorem zNl (arr:tArr X k h=some p):zPY X k h=some p:=by
 unfold tArr at arr;split at arr
 .rename_i n e a;unfold s2a at arr;split at arr
  .simp only[zPY,a];exact arr
  .simp at arr
 .simp at arr
theorem zFA (h:zD3 X k i (uN l a.toList)=some e):Q9 X l k i a=some e:=by
 unfold zD3 at h;split at h
 .rename_i t f;split at h
  .rename_i m hp;split at h
   .rename_i sz env;split at h
    .rename_i z j;simp only[Q9,f,hp,env,j];exact h
    .simp at h
   .simp at h
  .simp at h
 .simp at h
theorem zK8 (t:zNj X k h p=some e):zA2 X k (some h) (some p)=some e:=by
 unfold zNj at t;split at t
 .rename_i c m;split at t
  .rename_i l j;split at t
   .rename_i z o;rw[zF]at t;split at t
    .rename_i f;unfold zHV at t;split at t
     .split at t
      .rw[zF]at t;split at t
       .rename_i a;simp only[zA2,m,j,o];simp only[zE]at f a;simp only[f.1,f.2,a.1.1,a.1.2,a.2,qP,zP];exact t
       .simp at t
      .simp at t
     .simp at t
    .simp at t
   .simp at t
  .simp at t
 .simp at t
theorem zNm (u:tApp X k W h p n=some (L,E)):cV X k W (some h) (some p) n=some (L,E):=by
 unfold tApp at u;split at u
 .rename_i e m;split at u
  .rename_i q j;split at u
   .rename_i f;rw[zF]at u;split at u
    .rename_i a;simp only[cV,f,d9,m,j,a,zP];exact u
    .simp at u
   .rename_i f;rw[zF]at u;split at u
    .rename_i a;simp only[cV,f,d9,m,j,a,zP];exact u
    .simp at u
   .rename_i t f;split at u
    .rename_i z s;rw[zF]at u;split at u
     .rename_i a;simp only[zE]at a;unfold apZ at u;split at u
      .rename_i x;rw[zF]at u;split at u
       .rename_i o;simp only[zE]at o;simp only[cV,f,zJO,m,j,s,a.1,a.2,o.1,o.2,zP,qP];exact u
       .simp at u
      .simp at u
     .simp at u
    .simp at u
   .simp at u
  .simp at u
 .simp at u
theorem zNN {α:Type}{y z:Option AV}{f:AV->AV->AV->Option α}{r:α}(h:q3 J y z f=some r): ∃a b c,J=some a/\y=some b/\z=some c/\f a b c=some r:=by
 unfold q3 at h;split at h
 .split at h
  .split at h
   .exact⟨_,_,_,rfl,rfl,rfl,h⟩
   .simp at h
  .simp at h
 .simp at h
theorem zM7 (t:tLk X k U h p n=some L):zJC X k U h p n=some L:=by
 unfold tLk at t;split at t
 .rename_i a;split at t
  .rename_i f j;simp only[zJC,a,f,j];exact t
  .simp at t
 .simp at t
def zPH {r:AV}(t:tUp X k h p L n=some (r,E)):aup X k h p L n=some (r,E):=t
def zPI (t:tDl X k h p n=some (L,E)):adl X k h p n=some (L,E):=t
def zNi (h:tMkM X k=some e):aMap X k=some e:=h
end
def rOf (B:Tb)(D:Dyn):Fns:=⟨fun g az H=>zCG B.S D g az H,D.yld⟩
theorem ZZ {f:AV->Option AV}(x:J=some h)(k:f h=some p):b1 J f=some p:=by simp only[b1,x,k]
theorem zAT {y:Option AV}(x:J=some h)(j:y=some p)(k:z h p=some L):b2 J y z=some L:=by simp only[b2,x,j,k]
section
variable {B:Tb}{D:Dyn}{env:Env}{H:AH}
theorem vY (a:cls B.X G= .P)(o:aP B.X env G=some h):opF B.X (rOf B D) env H G=some (h,H):=by
 simp only[opF,a,o,wV]
theorem UJ (a:cls B.X G= .L)(o:aL B.X env H G=some h):opF B.X (rOf B D) env H G=some (h,H):=by
 simp only[opF,a,o,wV]
theorem UL (a:cls B.X G= .A)(o:wA H (aA B.X env G)=some (h,n)):opF B.X (rOf B D) env H G=some (h,n):=by
 simp only[opF,a,o]
theorem UK (a:cls B.X G= .E)(o:aE B.X env H G=some (h,n)):opF B.X (rOf B D) env H G=some (h,n):=by
 simp only[opF,a,o]
theorem U2 {y:Option (AObj×(Nat->AV))}(x:wA H j=some (h,n))(k: ∀r,j=some r->y=some r):wA H y=some (h,n):=by
 cases j with
 | none=>simp[wA]at x
 | some r=>rw[k r rfl];exact x
theorem zPZ {K:AV->AH->Rs}{out:Ex×AH}(h:opK B D env H K G=some out): ∃v H',opF B.X (rOf B D) env H G=some (v,H')/\K v H'=some out:=by
 unfold opK at h;split at h
 ·
  rename_i x;split at h
  .rename_i v j;exact⟨v,H,vY rfl j,h⟩
  .simp at h
 .rename_i x;split at h
  .rename_i v j;exact⟨v,H,vY rfl j,h⟩
  .simp at h
 ·
  rename_i c a b;obtain⟨v,j,m⟩:=wI h;refine⟨v,H,vY rfl ?_,m⟩;show zFL env c a b=some v;unfold pk3 at j;unfold zFL;exact j
 ·
  obtain⟨v,j,m⟩:=wI h;exact⟨v,H,vY rfl (zGQ j),m⟩
 .obtain⟨v,j,m⟩:=wI h;obtain⟨a,p,q⟩:=wW j;exact⟨v,H,vY rfl (ZZ p q),m⟩
 ·
  rw[zF]at h;split at h
  .rename_i hp;obtain⟨v,j,m⟩:=wI h;obtain⟨a,b,p,hb,q⟩:=vQ j;exact⟨v,H,UJ (by simp[cls,hp]) (zAT p hb (zE5 q)),m⟩
  .rename_i hp;obtain⟨v,j,m⟩:=wI h;obtain⟨a,b,p,hb,q⟩:=vQ j;exact⟨v,H,vY (by simp[cls,hp]) (zAT p hb (zGS q)),m⟩
 .obtain⟨v,j,m⟩:=wI h;obtain⟨a,p,q⟩:=wW j;exact⟨v,H,vY rfl (ZZ p q),m⟩
 ·
  split at h
  .rename_i a p;split at h
   .rename_i b hb;refine⟨_,H,vY rfl ?_,h⟩;show zFM env _ _ _=_;simp only[zFM,p,hb]
   .simp at h
  .simp at h
 .obtain⟨v,j,m⟩:=wI h;obtain⟨a,p,q⟩:=wW j;exact⟨v,H,vY rfl (ZZ p (zAc q)),m⟩
 .obtain⟨v,j,m⟩:=wI h;obtain⟨a,p,q⟩:=wW j;exact⟨v,H,vY rfl (ZZ p (zGK q)),m⟩
 .obtain⟨v,j,m⟩:=wI h;obtain⟨a,b,p,hb,q⟩:=vQ j;exact⟨v,H,vY rfl (zAT p hb (zFz q)),m⟩
 .obtain⟨v,j,m⟩:=wI h;obtain⟨a,b,p,hb,q⟩:=vQ j;exact⟨v,H,vY rfl (zAT p hb (zGI q)),m⟩
 .obtain⟨v,j,m⟩:=wI h;obtain⟨a,p,q⟩:=wW j;exact⟨v,H,vY rfl (ZZ p (zNl q)),m⟩
 .obtain⟨v,j,m⟩:=wI h;obtain⟨a,p,q⟩:=wW j;exact⟨v,H,vY rfl (ZZ p q),m⟩
 ·
  obtain⟨v,j,m⟩:=wI h;obtain⟨a,p,q⟩:=wW j;exact⟨v,H,UJ rfl (ZZ p (zAb q)),m⟩
 ·
  split at h
  .rename_i lo hi mx S T Y;obtain⟨v,j,m⟩:=wI h;obtain⟨a,p,q⟩:=wW j;refine⟨v,H,UJ rfl ?_,m⟩;show ZA _ _ _ _ _ _ _ _=_;simp only[ZA,p,S,T,Y];exact zBc q
  .simp at h
 ·
  split at h
  .rename_i C;obtain⟨v,j,m⟩:=wI h;obtain⟨a,p,q⟩:=wW j;exact⟨v,H,vY C (ZZ p (zGM q)),m⟩
  .rename_i C;obtain⟨v,j,m⟩:=wI h;obtain⟨a,p,q⟩:=wW j;exact⟨v,H,UJ C (ZZ p (zBd q)),m⟩
  .rename_i C;obtain⟨v,H',j,m⟩:=JA h;refine⟨v,H',UL C (U2 j fun r hr=> ?_),m⟩;obtain⟨a,p,q⟩:=wW hr;simp only[aA,p];exact zGO q
  .simp at h
 ·
  split at h
  .rename_i z hz;obtain⟨v,H',j,m⟩:=JA h;refine⟨v,H',UL rfl (U2 j fun r hr=> ?_),m⟩;simp only[aA,hz,aA1];exact hr
  .simp at h
 .obtain⟨v,H',j,m⟩:=JA h;refine⟨v,H',UL rfl (U2 j fun r hr=> ?_),m⟩;obtain⟨a,p,q⟩:=wW hr;simp only[aA,p,aA1];exact q
 .obtain⟨v,H',j,m⟩:=JA h;exact⟨v,H',UL rfl (U2 j fun r hr=>zFA hr),m⟩
 .obtain⟨v,H',j,m⟩:=JA h;refine⟨v,H',UL rfl (U2 j fun r hr=> ?_),m⟩;obtain⟨a,b,p,hb,q⟩:=vQ hr;simp only[aA,p,hb];exact zK8 q
 ·
  obtain⟨v,j,m⟩:=wI h;obtain⟨a,b,p,hb,q⟩:=vQ j;exact⟨v,H,UJ rfl (zAT p hb (zM7 q)),m⟩
 .obtain⟨v,H',j,m⟩:=JA h;exact⟨v,H',UL rfl (U2 j fun r hr=>zNi hr),m⟩
 .obtain⟨v,H',j,m⟩:=d8 h;obtain⟨a,b,c,p,hb,C,q⟩:=zNN j;refine⟨v,H',UK rfl ?_,m⟩;simp only[aE,p,hb,C,c3];exact zPH q
 ·
  obtain⟨v,H',j,m⟩:=d8 h;obtain⟨a,b,p,hb,q⟩:=vQ j;refine⟨v,H',UK rfl ?_,m⟩;simp only[aE,p,hb];exact zGE q
 ·
  rename_i c;obtain⟨a0,args,a1⟩:=c;split at h
  .rename_i f C;simp only at C;subst C;obtain⟨v,H',j,m⟩:=d8 h;refine⟨v,H', ?_,m⟩;unfold callO at j;split at j
   .rename_i az O;simp only at O;split at j
    .rename_i g;have e:opd env (.func g)=some (.func g [] []):=rfl;simp only[opF,cls,zAQ,opF.callO,e,O,opF.callV,rOf,qX,yB];exact j
    .split at j
     .rename_i t _ fv Z;have e:opd env (.tmp t)=some fv:=Z;unfold callV at j;split at j
      .simp only[opF,cls,zAQ,opF.callO,e,O,opF.callV,rOf];exact j
      .simp only[opF,cls,zAQ,opF.callO,e,O,opF.callV,rOf];exact j
      .simp at j
     .simp at j
    .simp at j
   .simp at j
  .rename_i C;simp only at C;subst C;split at h
   .rename_i x t ts J N;obtain⟨v,j,m⟩:=wI h;obtain⟨a,p,q⟩:=wW j;refine⟨v,H,UJ rfl ?_,m⟩;simp only at J N;simp only[aL,J,N];exact ZZ p (zGH q)
   .simp at h
  .rename_i C;simp only at C;subst C;split at h
   .rename_i x t ts J N;obtain⟨v,j,m⟩:=wI h;obtain⟨a,p,q⟩:=wW j;refine⟨v,H,vY rfl ?_,m⟩;simp only at J N;simp only[aP,J,N];exact ZZ p q
   .simp at h
  .rename_i C;simp only at C;subst C;split at h
   .rename_i s x t u J N;obtain⟨v,H',j,m⟩:=d8 h;obtain⟨a,b,p,hb,q⟩:=vQ j;refine⟨v,H',UK rfl ?_,m⟩;simp only at J N;simp only[aE,uZ,J,N,p,hb];exact zNm q
   .simp at h
  .rename_i C;simp only at C;subst C;split at h
   .rename_i s x t ts J N;obtain⟨v,H',j,m⟩:=d8 h;obtain⟨a,b,p,hb,q⟩:=vQ j;refine⟨v,H',UK rfl ?_,m⟩;simp only at J N;simp only[aE,uZ,J,N,p,hb,zIZ];exact zK9 q
   .simp at h
  .rename_i C;simp only at C;subst C;split at h
   .rename_i x y J;obtain⟨v,j,m⟩:=wI h;obtain⟨a,b,p,hb,q⟩:=vQ j;refine⟨v,H,vY rfl ?_,m⟩;simp only at J;simp only[aP,J];exact zAT p hb q
   .simp at h
  .rename_i C;simp only at C;subst C;split at h
   .rename_i x y J;obtain⟨v,j,m⟩:=wI h;obtain⟨a,b,p,hb,q⟩:=vQ j;refine⟨v,H,vY rfl ?_,m⟩;simp only at J;simp only[aP,J];exact zAT p hb q
   .simp at h
  .rename_i C;simp only at C;subst C;split at h
   .rename_i s x t ts J N;obtain⟨v,H',j,m⟩:=d8 h;obtain⟨a,b,p,hb,q⟩:=vQ j;refine⟨v,H',UK rfl ?_,m⟩;simp only at J N;simp only[aE,uZ,J,N,p,hb,c2];exact zPI q
   .simp at h
  .rename_i C;simp only at C;subst C;split at h
   .rename_i s t ts J N;obtain⟨v,H',j,m⟩:=d8 h;obtain⟨a,p,q⟩:=wW j;refine⟨v,H',UK rfl ?_,m⟩;simp only at J N;simp only[aE,uZ,J,N,p,c1];exact q
   .simp at h
  .simp at h
 .simp at h
end
def Le (env env2:Env):Prop:= ∀t x,look env t=some x->look env2 t=some x
def Le.refl (env:Env):Le env env:=fun _ _ h=>h
def Le.trans {c:Env}(h:Le l Y)(k:Le Y c):Le l c:=fun t x e=>k t x (h t x e)
theorem Le.upd {a b:Env}(h:Le a b)(d:Nat)(v:AV):Le (upd a d v) (upd b d v):=by
 intro t x e;simp only[look,bI]at e⊢;split
 .rename_i hd;rw[if_pos hd]at e;exact e
 .rename_i hd;rw[if_neg hd]at e;exact h t x e
def EnvR.le (h:EnvR s Y i F)(k:Le l Y):EnvR s l i F:=
 ⟨h.size,fun t x e=>h.get t x (k t x e),fun t f=>by
  cases e:look l t with
  | none=>rfl
  | some x=>have:=k t x e;rw[h.out t f]at this;simp at this⟩
section
variable {env env2:Env}(hl:Le env env2)
include hl
theorem kE (x:Operand)(a:AV)(h:opd env x=some a):opd env2 x=some a:=by
 cases x with
 | tmp t=>exact hl t a h
 | _=>exact h
theorem cH: ∀(xs:List Operand) (az:List AV),zCX env xs=some az->zCX env2 xs=some az
 | [],az,h=>h
 | x::xs,az,h=>by
  simp only[zCX]at h⊢;split at h
  .rename_i v vs f a;rw[kE hl x v f,cH xs vs a];exact h
  .simp at h
theorem YS: ∀(xs:List (Nat×Operand)) (az:List (Nat×AV)),uN env xs=some az->uN env2 xs=some az
 | [],az,h=>h
 | (i,x)::xs,az,h=>by
  simp only[uN]at h⊢;split at h
  .rename_i v vs f a;rw[kE hl x v f,YS xs vs a];exact h
  .simp at h
theorem YU (x:Option Operand)(a:Option AV)(h:dK env x=some a):dK env2 x=some a:=by
 cases x with
 | none=>exact h
 | some y=>
  simp only[dK]at h⊢;split at h
  .rename_i b hb;rw[kE hl y b hb];exact h
  .simp at h
theorem bZ {x:Operand}{f:AV->Option AV}(r:b1 (opd env x) f=some h):b1 (opd env2 x) f=some h:=by
 unfold b1 at r;split at r
 .rename_i a j;rw[kE hl x a j];exact r
 .simp at r
theorem ZY {x y:Operand}(f:b2 (opd env x) (opd env y) z=some h):b2 (opd env2 x) (opd env2 y) z=some h:=by
 unfold b2 at f;split at f
 .rename_i a j;split at f
  .rename_i b hb;rw[kE hl x a j,kE hl y b hb];exact f
  .simp at f
 .simp at f
theorem zP0 (X:aP Q env G=some h):aP Q env2 G=some h:=by
 unfold aP at X⊢;split at X
 .exact kE hl _ _ X
 .exact kE hl _ _ X
 .unfold zFL at X⊢;split at X
  .rename_i f;rw[kE hl _ _ f];exact kE hl _ _ X
  .rename_i f;rw[kE hl _ _ f];exact kE hl _ _ X
  .simp at X
 .unfold JI at X⊢;split at X
  .rename_i z p;split at X
   .rename_i ps j;rw[YS hl _ _ j];exact X
   .simp at X
  .simp at X
 .exact bZ hl X
 .exact ZY hl X
 .exact bZ hl X
 .exact bZ hl X
 .unfold zFM at X⊢;split at X
  .rename_i a m;split at X
   .rename_i b hb;rw[cH hl _ _ m,cH hl _ _ hb];exact X
   .simp at X
  .simp at X
 .exact bZ hl X
 .exact bZ hl X
 .exact ZY hl X
 .exact ZY hl X
 .exact bZ hl X
 .exact bZ hl X
 .split at X
  .split at X
   .split at X
    .exact bZ hl X
    .simp at X
   .simp at X
  .split at X
   .exact ZY hl X
   .simp at X
  .split at X
   .exact ZY hl X
   .simp at X
  .simp at X
 .simp at X
theorem zJP (X:aL Q env n G=some h):aL Q env2 n G=some h:=by
 unfold aL at X⊢;split at X
 .exact bZ hl X
 .unfold ZA at X⊢;split at X
  .rename_i a p;split at X
   .rename_i lo f;split at X
    .rename_i hi j;split at X
     .rename_i q m;rw[kE hl _ _ p,YU hl _ _ f,YU hl _ _ j,YU hl _ _ m];exact X
     .simp at X
    .simp at X
   .simp at X
  .simp at X
 .exact ZY hl X
 .exact bZ hl X
 .exact ZY hl X
 .split at X
  .split at X
   .split at X
    .exact bZ hl X
    .simp at X
   .simp at X
  .simp at X
 .simp at X
theorem zP3 (h:aA Q env G=some e):aA Q env2 G=some e:=by
 unfold aA at h⊢;split at h
 .exact h
 .unfold aA1 at h⊢;split at h
  .rename_i a f;rw[kE hl _ _ f];exact h
  .simp at h
 .unfold Q9 at h⊢;split at h
  .rename_i X q;split at h
   .rename_i ps j;simp only[YS hl _ _ j];exact h
   .simp at h
  .simp at h
 .unfold zA2 at h⊢;split at h
  .rename_i n p;split at h
   .rename_i m hm;simp only[kE hl _ _ p,kE hl _ _ hm];exact h
   .simp at h
  .simp at h
 .split at h
  .rename_i a f;rw[kE hl _ _ f];exact h
  .simp at h
 .exact h
 .simp at h
theorem zP2 {v:AV×AH}(h:aE Q env n G=some v):aE Q env2 n G=some v:=by
 unfold aE at h⊢;split at h
 .unfold BK at h⊢;split at h
  .rename_i p hp;split at h
   .rename_i y j;rw[kE hl _ _ hp,kE hl _ _ j];exact h
   .simp at h
  .simp at h
 .unfold c3 at h⊢;split at h
  .rename_i a f;split at h
   .rename_i b hb;split at h
    .rename_i c m;rw[kE hl _ _ f,kE hl _ _ hb,kE hl _ _ m];exact h
    .simp at h
   .simp at h
  .simp at h
 .split at h
  .unfold uZ at h⊢;split at h
   .split at h
    .split at h
     .unfold cV at h⊢;split at h
      .rename_i a f;split at h
       .rename_i b hb;simp only[kE hl _ _ f,kE hl _ _ hb];exact h
       .simp at h
      .simp at h
     .simp at h
    .simp at h
   .split at h
    .split at h
     .unfold zIZ at h⊢;split at h
      .rename_i a f;split at h
       .rename_i b hb;simp only[kE hl _ _ f,kE hl _ _ hb];exact h
       .simp at h
      .simp at h
     .simp at h
    .simp at h
   .split at h
    .split at h
     .unfold c2 at h⊢;split at h
      .rename_i a f;split at h
       .rename_i b hb;simp only[kE hl _ _ f,kE hl _ _ hb];exact h
       .simp at h
      .simp at h
     .simp at h
    .simp at h
   .split at h
    .split at h
     .unfold c1 at h⊢;split at h
      .rename_i a f;simp only[kE hl _ _ f];exact h
      .simp at h
     .simp at h
    .simp at h
   .simp at h
  .simp at h
 .simp at h
theorem zKJ {r:Fns}{v:AV×AH}(h:opF Q r env n G=some v):opF Q r env2 n G=some v:=by
 unfold opF at h⊢;split at h
 .rename_i j;unfold wV at h⊢;split at h
  .rename_i x f;simp only[j,zP0 hl f];exact h
  .simp at h
 .rename_i j;unfold wV at h⊢;split at h
  .rename_i x f;simp only[j,zJP hl f];exact h
  .simp at h
 .rename_i j
  cases f:aA Q env G with
  | none=>rw[f]at h;simp[wA]at h
  | some x=>simp only[j,zP3 hl f];rw[f]at h;exact h
 .exact zP2 hl h
 .unfold opF.callO at h⊢;split at h
  .split at h
   .unfold opF.callV at h⊢;split at h
    .rename_i g a b p;split at h
     .rename_i az m;simp only[kE hl _ _ p,cH hl _ _ m];exact h
     .simp at h
    .rename_i A p;split at h
     .rename_i az m;simp only[kE hl _ _ p,cH hl _ _ m];exact h
     .simp at h
    .simp at h
   .simp at h
  .simp at h
end
theorem XJ {K:AV->List AV->Rs}{out:Ex×AH}(h:hd I K=some out): ∃v l,I=v::l/\K v l=some out:=by
 cases I with
 | nil=>exact absurd h (by simp[hd])
 | cons v l=>exact⟨_,_,rfl,h⟩
def PK (env:Env):List Nat->List AV->Prop
 | [],vs=>vs=[]
 | l::L,vs=> ∃v vs',vs=v::vs'/\look env l=some v/\PK env L vs'
theorem wH: ∀ {L:List Nat} {env:Env} {K:List AV->Rs} {out:Ex×AH},pck L env K=some out-> ∃vs,PK env L vs/\K vs=some out
 | [],env,K,out,h=>⟨[],rfl,h⟩
 | l::L,env,K,out,h=>by
  simp only[pck]at h;split at h
  .rename_i v a;obtain⟨vs,f,j⟩:=wH h;exact⟨v::vs,⟨v,vs,rfl,a,f⟩,j⟩
  .simp at h
theorem QG: ∀ {L:List Nat} {vs:List AV} {base:Env} {K:Env->Rs} {out:Ex×AH},unp L vs base K=some out-> ∀env,PK env L vs-> ∃env',K env'=some out/\ ∀t,(t∈L->look env' t=look env t)/\(t∉L->look env' t=look base t)
 | [],vs,base,K,out,h,env,_=>⟨base,h,fun t=>⟨fun h=>by simp at h,fun _=>rfl⟩⟩
 | l::L,vs,base,K,out,h,env,⟨v,vs',e,hv,hp⟩=>by
  subst e;simp only[unp,hd]at h;obtain⟨env',m,j⟩:=QG h env hp;refine⟨env',m,fun t=>⟨fun a=> ?_,fun a=> ?_⟩⟩
  .by_cases f:t∈L
   .exact(j t).1 f
   .rw[(j t).2 f];have:t=l:=by
              simp at a;rcases a with h | h
              .exact h
              .exact absurd h f
    subst this;simp only[look,bI,if_true];exact hv.symm
  .simp only[zK,not_or]at a;rw[(j t).2 a.2];simp only[look,bI,if_neg a.1]
theorem BL: ∀(L:List Nat) (env:Env) (t:Nat),look (zAL L env) t=if t∈L then none else look env t
 | [],env,t=>by simp[zAL]
 | l::L,env,t=>by
  have a:=BL L env t;simp only[look]at a⊢;simp only[zAL,zF,zX,zK,a];by_cases f:t=l<;>by_cases h:t∈L<;>simp[f,h]
theorem YA {m:Nat}{H:AH}{K:Rs}{out:Ex×AH} : ∀ {sn:List Seen},zPt m H K sn=some out->K=some out/\ ∀s∈sn,m.testBit s.i=false->s.rd H=some s.v
 | [],h=>⟨h,by simp⟩
 | s::l,h=>by
  simp only[zPt,zGB,zF]at h;split at h
  .rename_i hb;obtain⟨f,j⟩:=YA h;refine⟨f,fun q a hm=> ?_⟩;rcases zK.1 a with rfl | a
   .rw[hb]at hm;simp at hm
   .exact j q a hm
  .unfold chk at h;split at h
   .rename_i y o;rw[zF]at h;split at h
    .rename_i p;obtain⟨f,j⟩:=YA h;refine⟨f,fun q a hm=> ?_⟩;rcases zK.1 a with rfl | a
     .rw[o,JB _ _ p]
     .exact j q a hm
    .simp at h
   .simp at h
section
variable {B:Tb}{D:Dyn}{nt:Nat}{ops:Array Oper}
theorem zNJ (hl:Le l Y)(hm:vF B.X G=true)(env:zPV B l G n=some h):aL B.X Y n G=some h:=by
 apply zJP hl;unfold zPV at env;split at env
 .obtain⟨a,f,j⟩:=wW env;exact ZZ f (zAb j)
 .obtain⟨a,b,f,hb,j⟩:=vQ env;exact zAT f hb (zM7 j)
 .split at env
  .rename_i lo hi J u y z;obtain⟨a,f,j⟩:=wW env;show ZA _ _ _ _ _ _ _ _=_;simp only[ZA,f,u,y,z];exact zBc j
  .simp at env
 .obtain⟨a,f,j⟩:=wW env;exact ZZ f (zBd j)
 .obtain⟨a,b,f,hb,j⟩:=vQ env;exact zAT f hb (zE5 j)
 .rename_i c;split at env
  .rename_i x t ts q p;obtain⟨a,f,j⟩:=wW env;simp only[vF]at hm;split at hm
   .rename_i C;simp only[aL,C,q,p];exact ZZ f (zGH j)
   .simp at hm
  .simp at env
 .simp at env
theorem zGa (X:zDP Q k h n=some p)(f: ∀a b,Q.und k≠some (.map a b))(j:AH):zDP Q k h j=some p:=by
 unfold zDP at X⊢;split at X<;>first | exact X | (rename_i m;exact absurd m (f _ _)) | (simp at X;done)
theorem zE6 (j:cls B.X G= .L)(hm:vF B.X G=false)(env:aL B.X l n G=some h)(m:AH):aL B.X l m G=some h:=by
 unfold aL at env⊢;split at env
 .simp[vF]at hm
 .rename_i t x lo hi u;simp only[vF]at hm;unfold ZA at env⊢;split at env
  .split at env
   .split at env
    .split at env
     .unfold ZE at env⊢;split at env
      .rename_i a _ _ _ _ _ _ _ _ _ _ _;split at env
       .exact env
       .rename_i f _;simp[f]at hm
       .rename_i f _;simp[f]at hm
       .rename_i f _;simp[f]at hm
       .exact env
       .exact env
       .simp at env
      .simp at env
     .simp at env
    .simp at env
   .simp at env
  .simp at env
 .simp[vF]at hm
 .simp only[vF,isL]at hm;rw[j]at hm;simp at hm
 .simp only[vF]at hm;simp[cls,hm]at j
 .rename_i c;split at env
  .rename_i p;split at env
   .rename_i x y;split at env
    .rename_i t ts q;unfold b1 at env⊢;split at env
     .refine zGa env (fun a b f=> ?_) m;simp only[vF,p,q,f]at hm;simp at hm
     .simp at env
    .simp at env
   .simp at env
  .simp at env
 .simp at env
def zC5 (ops:Array Oper)(o:Oper):Option Nat:=match o.guard with
 | none=>none
 | some (j,_)=>match zGf ops.toList j with
  | some p=>p.dst
  | none=>none
theorem zB5 (h: ∀d,zC5 ops V=some d->look l d=look Y d):ZF ops l V=ZF ops Y V:=by
 unfold ZF;unfold zC5 at h;split
 .rfl
 .rename_i j f a;rw[a]at h;simp only at h;unfold zGm;split
  .rename_i p hp;rw[hp]at h;simp only at h;split
   .rename_i d hd;rw[h d hd]
   .rfl
  .rfl
def zLX (X:Cx)(ms:List Nat)(a b:Ent):Prop:=a.want=true->xC (cls X b.o.op)=true->(ms.getD b.i 0).testBit a.i=false->cls X a.o.op= .L->aL X a.env b.H' a.o.op=some a.v
def Tr (X:Cx)(ms:List Nat)(sn:List Seen)(pre:List Ent)(rest:List (Nat×Oper)):Prop:=
 ∀a∈pre,a.want=true->cls X a.o.op= .L->(∃s∈sn,s.i=a.i/\s.v=a.v/\ ∀H v,s.rd H=some v->aL X a.env H a.o.op=some v)\/(∀H,aL X a.env H a.o.op=some a.v)\/(∀b∈rest,xC (cls X b.2.op)=true->(ms.getD b.1 0).testBit a.i=true)
theorem Tr.see {sn:List Seen}(h:Tr Q A sn m N){b:Ent}(hb:(b.i,b.o)∈N)(p:xC (cls Q b.o.op)=true-> ∀s∈sn,(A.getD b.i 0).testBit s.i=false->s.rd b.H'=some s.v): ∀a∈m,zLX Q A a b:=by
 intro a q t X j hL;rcases h a q t hL with⟨s,u,f,x,y⟩ | f | f
 .have:=p X s u (by rw[f];exact j);rw[<-x];exact y _ _ this
 .exact f _
 .have:=f _ hb X;simp only at this;rw[this]at j;simp at j
theorem Tr.less {sn sn':List Seen}{rest':List (Nat×Oper)}(h:Tr Q A sn m N)(X: ∀s∈sn,s∈sn')(hr: ∀b∈rest',b∈N):Tr Q A sn' m rest':=by
 intro a o p hL;rcases h a o p hL with⟨s,j,f⟩ | f | f
 .exact .inl ⟨s,X s j,f⟩
 .exact .inr (.inl f)
 .exact .inr (.inr fun b hb=>f b (hr b hb))
theorem zBt {K:Env->Rs}{out:Ex×AH}(env:setE nt l M h K=some out)(hl:Le l Y):
  ∃env' a,VM nt Y M h=some a/\Le env' a/\K env'=some out:=by
 unfold setE at env;split at env
 .rename_i M;rw[zF]at env;split at env
  .rename_i hd;exact⟨_,_,by simp only[VM,hd,zP],hl.upd M h,env⟩
  .simp at env
 .exact⟨_,_,rfl,hl,env⟩
theorem zFC {sn:List Seen}{K:List Seen->Rs}{out:Ex×AH}(ms:zNA B A l sn i G h n K=some out):
  ∃sn',K sn'=some out/\(∀s∈sn,s∈sn')/\(xC (cls B.X G)=true-> ∀s∈sn,(A.getD i 0).testBit s.i=false->s.rd n=some s.v)/\
   (xC (cls B.X G)=false->vF B.X G=true->(⟨i,zPV B l G,h⟩:Seen)∈sn'):=by
 unfold zNA at ms;simp only[zF]at ms;split at ms
 .rename_i a;obtain⟨f,j⟩:=YA ms;exact⟨sn,f,fun _ ms=>ms,fun _=>j,fun ms=>by rw[a]at ms;simp at ms⟩
 .rename_i a;split at ms
  .exact⟨_,ms,fun s m=>by simp[m],fun ms=>absurd ms a,fun _ _=>by simp⟩
  .rename_i hm;exact⟨_,ms,fun _ ms=>ms,fun ms=>absurd ms a,fun _ ms=>absurd ms hm⟩
theorem WO (env:VM nt l M h=some Y)(a:M≠some i):look Y i=look l i:=by
 rw[cG env,if_neg a]
theorem bD {masks:Option (List Nat)}{K:List Seen->Env->AH->Rs}{out:Ex×AH}{rest:List (Nat×Oper)} : ∀(row:List (Nat×Oper)) (sn:List Seen) (env:Env) (H:AH) (f:Env) (pre:List Ent),
  zJW B D nt masks K row sn env H=some out->Le env f->(∀q∈row,ZF ops f q.2=some true)->(∀q∈row,∀y∈row,∀d,q.2.dst=some d->zC5 ops y.2≠some d)->
  (∀ms,masks=some ms->Tr B.X ms sn pre (row++rest))->
  ∃es envF HF sn' env',uM B.X (rOf B D) nt ops f H es envF HF/\es.map (fun e=>(e.i,e.o))=row/\(∀e∈es,e.want=true)/\Le env' envF/\K sn' env' HF=some out/\
   (∀ms,masks=some ms->(∀a∈pre,∀b∈es,zLX B.X ms a b)/\es.Pairwise (zLX B.X ms)/\Tr B.X ms sn' (pre++es) rest)
 | [],sn,env,H,f,pre,h,hl,_,_,hT=>⟨[],f,H,sn,env,⟨rfl,rfl⟩,rfl,by simp,hl,h,fun ms j=>⟨by simp,List.Pairwise.nil,by simpa using hT ms j⟩⟩
 | (i,o)::row,sn,env,H,f,pre,h,hl,hw,hst,hT=>by
  simp only[zJW]at h;obtain⟨v,H',a5,C⟩:=zPZ h;have T:=zKJ hl a5;have Z:=hw (i,o) (zJ ..);have a1:zIT B.X (rOf B D) ops f H i o=some ⟨i,o,true,f,H,v,H'⟩:=by
   simp only at Z;simp only[zIT,Z,T]
  have go: ∀(sn':List Seen) (env' m:Env),VM nt f o.dst v=some m->Le env' m->zJW B D nt masks K row sn' env' H'=some out->
    (∀ms,masks=some ms->(∀s∈sn,s∈sn')/\(xC (cls B.X o.op)=true-> ∀s∈sn,(ms.getD i 0).testBit s.i=false->s.rd H'=some s.v)/\(xC (cls B.X o.op)=false->vF B.X o.op=true->(⟨i,zPV B env o.op,v⟩:Seen)∈sn'))->
    ∃es envF HF sn' env',uM B.X (rOf B D) nt ops f H es envF HF/\es.map (fun e=>(e.i,e.o))=(i,o)::row/\(∀e∈es,e.want=true)/\Le env' envF/\K sn' env' HF=some out/\
     (∀ms,masks=some ms->(∀a∈pre,∀b∈es,zLX B.X ms a b)/\es.Pairwise (zLX B.X ms)/\Tr B.X ms sn' (pre++es) rest):=by
   intro sn' env' m Y a6 a2 a0;obtain⟨es,envF,HF,a7,env2,c1,c2,c3,c4,c5,c6⟩:=bD row sn' env' H' m (pre++[⟨i,o,true,f,H,v,H'⟩]) a2 a6
    (fun q u=>by
     rw[<-hw q (zC _ u)];exact zB5 fun d hd=>WO Y (fun hc=>hst (i,o) (zJ ..) q (zC _ u) d hc hd))
    (fun q u y a3=>hst q (zC _ u) y (zC _ a3))
    (fun ms j=>by
     obtain⟨s1,s2,s3⟩:=a0 ms j;have a8:=(hT ms j).less (sn':=sn') (rest':=row++rest) s1 (fun b hb=>by simp only[qF];exact zC _ hb);intro a p a9 t;rcases qA.1 p with p | p
     .exact a8 a p a9 t
     .simp only[qS]at p;subst p;simp only at t⊢;have b0:xC (cls B.X o.op)=false:=by rw[t];rfl
      have b1:aL B.X f H o.op=some v:=by
       have:=T;simp only[opF,t,wV]at this;split at this
       .rename_i x hx;simp only[zB,zU]at this;rw[hx,this.1]
       .simp at this
      cases z:vF B.X o.op with
      | true=>exact .inl ⟨_,s3 b0 z,rfl,rfl,fun H v hv=>zNJ hl z hv⟩
      | false=>exact .inr (.inl fun H2=>zE6 t z b1 H2))
   refine⟨⟨i,o,true,f,H,v,H'⟩::es,envF,HF,a7,env2,⟨rfl,rfl,a1,m,Y,c1⟩,by simp[c2], ?_,c4,c5,fun ms j=> ?_⟩
   .intro e J;rcases zK.1 J with rfl | J
    .rfl
    .exact c3 e J
   .obtain⟨s1,s2,s3⟩:=a0 ms j;obtain⟨d1,d2,d3⟩:=c6 ms j;have a4:=(hT ms j).see (b:=⟨i,o,true,f,H,v,H'⟩) (by simp) s2;refine⟨fun a p b hb=> ?_,List.Pairwise.cons (fun b hb=>d1 _ (by simp) b hb) d2,by simpa using d3⟩;rcases zK.1 hb with rfl | hb
    .exact a4 a p
    .exact d1 a (qU _ p) b hb
  split at C
  .obtain⟨env',m,N,O,S⟩:=zBt C hl;exact go sn env' m N O S (fun ms j=>by simp at j)
  .rename_i ms;obtain⟨sn',k1,k2,k3,k4⟩:=zFC C;obtain⟨env',m,N,O,S⟩:=zBt k1 hl;exact go sn' env' m N O S (fun b2 j=>by injection j with j;subst j;exact⟨k2,k3,k4⟩)
theorem J6 {X:Cx}{r:Fns} : ∀ {es:List Ent} {env:Env} {H:AH} {envF:Env} {HF:AH},uM X r nt ops env H es envF HF-> ∀t,(∀e∈es,e.o.dst≠some t)->look envF t=look env t
 | [],_,_,_,_,h,t,_=>by rw[h.1]
 | e::es,env,H,envF,HF,⟨h1,h2,h3,env',h4,h5⟩,t,ht=>by
  rw[J6 h5 t (fun q a=>ht q (zC _ a)),WO h4 (ht e (zJ ..))]
theorem aC {X:Cx}{r:Fns} : ∀ {es f:List Ent} {env:Env} {H:AH} {a:Env} {h:AH} {envF:Env} {HF:AH},uM X r nt ops env H es a h->uM X r nt ops a h f envF HF->uM X r nt ops env H (es++f) envF HF
 | [],_,_,_,_,_,_,_,⟨h1,h2⟩,k=>by subst h1 h2;exact k
 | e::es,f,env,H,a,h,envF,HF,⟨h1,h2,h3,env',h4,h5⟩,k=>⟨h1,h2,h3,env',h4,aC h5 k⟩
theorem YO {H:AH} : ∀(run:List (Nat×Oper)) (f:Env),(∀a∈run,ZF ops f a.2=some false)->(∀a∈run,∀x∈run,∀d,a.2.dst=some d->zC5 ops x.2≠some d)->(∀a∈run,∀d,a.2.dst=some d->d<nt)->
  ∃es envF,uM B.X (rOf B D) nt ops f H es envF H/\es.map (fun e=>(e.i,e.o))=run/\(∀e∈es,e.want=false/\e.H'=H)/\ ∀t,t∈dstsOf run->look envF t=some jQ
 | [],f,_,_,_=>⟨[],f,⟨rfl,rfl⟩,rfl,by simp,fun t h=>by simp[dstsOf]at h⟩
 | (i,o)::run,f,hw,hst,hlt=>by
  have z:=hw (i,o) (zJ ..);have C:zIT B.X (rOf B D) ops f H i o=some ⟨i,o,false,f,H,jQ,H⟩:=by
   simp only at z;simp only[zIT,z]
  have m: ∃u,VM nt f o.dst jQ=some u:=by
   cases hd:o.dst with
   | none=>exact⟨_,rfl⟩
   | some d=>exact⟨upd f d jQ,by simp only[VM,zF,qE,if_pos (hlt (i,o) (zJ ..) d hd)]⟩
  obtain⟨u,m⟩:=m;obtain⟨es,envF,c1,c2,c3,N⟩:=YO run u
   (fun a j=>by
    rw[<-hw a (zC _ j)];exact zB5 fun d hd=>WO m (fun y=>hst (i,o) (zJ ..) a (zC _ j) d y hd))
   (fun a j x J=>hst a (zC _ j) x (zC _ J))
   (fun a j=>hlt a (zC _ j))
  refine⟨⟨i,o,false,f,H,jQ,H⟩::es,envF,⟨rfl,rfl,C,u,m,c1⟩,by simp[c2], ?_,fun t h=> ?_⟩
  .intro e q;rcases zK.1 q with rfl | q
   .exact⟨rfl,rfl⟩
   .exact c3 e q
  .by_cases p:t∈dstsOf run
   .exact N t p
   .have K:o.dst=some t:=by
     simp only[dstsOf,List.filterMap_cons]at h p;split at h
     .exact absurd h p
     .rename_i d hd;rcases zK.1 h with rfl | h
      .exact hd
      .exact absurd h p
    rw[J6 c1 t (fun e q y=>p ?_),cG m,if_pos K];have:(e.i,e.o)∈run:=by rw[<-c2];exact qZ.2 ⟨e,q,rfl⟩
    simp only[dstsOf,List.mem_filterMap];exact⟨_,this,y⟩
end
theorem zAz {x:Rs}{K:List AV->AH->Rs}{out:Ex×AH}(h:jn x K=some out):(∃vs H,x=some (.norm vs,H)/\K vs H=some out)\/(∃id vs H,x=some (.exit id vs,H)/\out=(.exit id vs,H))\/(∃v H,x=some (.ret v,H)/\out=(.ret v,H)):=by
 unfold jn at h;split at h
 .exact .inl ⟨_,_,rfl,h⟩
 .injection h with h;exact .inr (.inl ⟨_,_,_,rfl,h.symm⟩)
 .injection h with h;exact .inr (.inr ⟨_,_,rfl,h.symm⟩)
 .simp at h
theorem zKn {a b:Option (Nat×Bool)}(h:zNC a b=true):a=b:=by
 unfold zNC at h;split at h
 .simp only[zE,zX,beq_iff_eq]at h;rw[h.1,h.2]
 .simp at h
theorem zE9 {g:Option (Nat×Bool)} : ∀ {l run rest:List (Nat×Oper)},zBm g l=(run,rest)->l=run++rest/\ ∀j∈run,j.2.guard=g
 | [],run,rest,h=>by simp only[zBm,zU]at h;obtain⟨rfl,rfl⟩:=h;simp
 | o::l,run,rest,h=>by
  simp only[zBm,zF]at h;split at h
  .rename_i p
   cases m:zBm g l with
   | mk a b=>
    rw[m]at h;simp only[zU]at h;obtain⟨rfl,rfl⟩:=h;obtain⟨q,t⟩:=zE9 m;refine⟨by rw[q];rfl,fun j f=> ?_⟩;rcases zK.1 f with rfl | f
    .exact(zKn p).symm
    .exact t j f
  .simp only[zU]at h;obtain⟨rfl,rfl⟩:=h;simp
section
variable {B:Tb}{D:Dyn}{nt:Nat}{ops:Array Oper}
theorem u9 {X:Cx}{masks:Option (List Nat)}{sn:List Seen}{H:AH}{K:Rs}{out:Ex×AH} : ∀ {run:List (Nat×Oper)},zBo X masks sn H K run=some out->K=some out/\ ∀ms,masks=some ms-> ∀b∈run,xC (cls X b.2.op)=true-> ∀s∈sn,(ms.getD b.1 0).testBit s.i=false->s.rd H=some s.v
 | [],h=>⟨h,by simp⟩
 | b::run,h=>by
  unfold zBo at h;split at h
  .obtain⟨j,_⟩:=u9 h;exact⟨j,fun ms a=>by simp at a⟩
  .rename_i ms;rw[zF]at h;split at h
   .obtain⟨j,u⟩:=YA h;obtain⟨m,o⟩:=u9 j;refine⟨m,fun p a q f=> ?_⟩;injection a with a;subst a
    rcases zK.1 f with rfl | f
    .exact fun _=>u
    .exact o _ rfl q f
   .rename_i t;obtain⟨m,o⟩:=u9 h;refine⟨m,fun p a q f=> ?_⟩;injection a with a;subst a
    rcases zK.1 f with rfl | f
    .exact fun x=>absurd x t
    .exact o _ rfl q f
theorem zCA {X:Cx}{r:Fns} : ∀ {es:List Ent} {env:Env} {H:AH} {envF:Env} {HF:AH},uM X r nt ops env H es envF HF-> ∀e∈es,zIT X r ops e.env e.H e.i e.o=some e
 | [],_,_,_,_,_,e,a=>by simp at a
 | q::es,env,H,envF,HF,⟨h1,h2,h3,env',h4,h5⟩,e,a=>by
  rcases zK.1 a with rfl | a
  .rw[h1,h2];exact h3
  .exact zCA h5 e a
theorem zJT {env:Env}{v:AV} : ∀ {L:List Nat},(∀t∈L,look env t=some v)->PK env L (L.map fun _=>v)
 | [],_=>rfl
 | l::L,h=>⟨v,_,rfl,h l (zJ ..),zJT fun t a=>h t (zC _ a)⟩
theorem zBH {rest:List (Nat×Oper)}(h:i∈YT ops N rest):i∈dstsOf N:=by
 simp only[YT,List.mem_filterMap]at h;obtain⟨a,j,f⟩:=h;simp only[dstsOf,List.mem_filterMap];refine⟨a,j, ?_⟩;split at f
 .rename_i d hd;rw[zF]at f;split at f
  .rw[hd];exact f
  .simp at f
 .simp at f
theorem zHL (masks:Option (List Nat))(K:Env->AH->Rs)(a:Nat)(row:List (Nat×Oper))(sn:List Seen)(env:Env)(H:AH):zEr B D nt ops masks (a+1) K row sn env H=(match row with
   | []=>K env H
   | (i,o)::rest=>match o.guard with
    | none=>zJW B D nt masks (fun sn env H=>zEr B D nt ops masks a K rest sn env H) [(i,o)] sn env H
    | some (j,want)=>match zIi ops env j with
     | none=>none
     | some g=>match zBm o.guard rest with
      | (run,rest)=>bif zOn nt ops j ((i,o)::run)then
        bif zND B.X masks ((i,o)::run) rest then
         runK B D nt ops masks g want ((i,o)::run) (YT ops ((i,o)::run) rest) sn env H fun env H=>zEr B D nt ops masks a K rest sn env H
        else runW B D nt masks g want ((i,o)::run) (YT ops ((i,o)::run) rest) sn env H fun sn env H=>zEr B D nt ops masks a K rest sn env H
       else none):=rfl
theorem uA {masks:Option (List Nat)}{K:Env->AH->Rs}{out:Ex×AH} : ∀(fuel:Nat) (row:List (Nat×Oper)) (sn:List Seen) (env:Env) (H:AH) (T:Env) (pre:List Ent),
  zEr B D nt ops masks fuel K row sn env H=some out->Le env T->(∀ms,masks=some ms->Tr B.X ms sn pre row)->
  ∃es envF HF env',uM B.X (rOf B D) nt ops T H es envF HF/\es.map (fun e=>(e.i,e.o))=row/\Le env' envF/\K env' HF=some out/\
   (∀ms,masks=some ms->(∀a∈pre,∀b∈es,zLX B.X ms a b)/\es.Pairwise (zLX B.X ms))
 | 0,row,sn,env,H,T,pre,h,hl,hT=>by
  have h':(none:Rs)=some out:=h;simp at h'
 | fuel+1,row,sn,env,H,T,pre,h,hl,hT=>by
  have ih:=uA (masks:=masks) (K:=K) (out:=out) fuel;have z:=h;rw[zHL]at z;clear h;split at z
  .exact⟨[],T,H,env,⟨rfl,rfl⟩,rfl,hl,z,fun ms y=>⟨by simp,List.Pairwise.nil⟩⟩
  .rename_i i o rest;split at z
   .rename_i hg;obtain⟨es,envF,HF,sn',env',c1,c2,c3,c4,c5,c6⟩:=bD (ops:=ops) (rest:=rest) [(i,o)] sn env H T pre z hl
     (fun m q=>by simp only[qS]at q;subst q;simp[ZF,hg])
     (fun m q b3 b1 d hd=>by simp only[qS]at b1;subst b1;simp[zC5,hg])
     (fun ms y=>by simpa using hT ms y)
    obtain⟨b9,b5,c0,env2,d1,d2,d3,d4,d5⟩:=ih rest sn' env' HF envF (pre++es) c5 c4 (fun ms y=>(c6 ms y).2.2);refine⟨es++b9,b5,c0,env2,aC c1 d1,by rw[List.map_append,c2,d2];rfl,d3,d4,fun ms y=> ?_⟩;obtain⟨e1,e2,e3⟩:=c6 ms y;obtain⟨f1,f2⟩:=d5 ms y;refine⟨fun a f b hb=> ?_,j5.2 ⟨e2,f2,fun a f b hb=>f1 a (yQ _ f) b hb⟩⟩;rcases qA.1 hb with hb | hb
    .exact e1 a f b hb
    .exact f1 a (qU _ f) b hb
   .rename_i j b2 hg;split at z
    .simp at z
    .rename_i g a6
     cases d6:zBm o.guard rest with
     | mk run rest'=>
      rw[d6]at z;simp only[zF]at z;split at z
      .rename_i a9;obtain⟨e5,e4⟩:=zE9 d6;have b6:(i,o)::rest=((i,o)::run)++rest':=by rw[e5];rfl
       generalize e6:(i,o)::run=u at z a9 b6;have d7: ∀m∈u,m.2.guard=some (j,b2):=by
        intro m q;rw[<-e6]at q;rcases zK.1 q with rfl | q
        .exact hg
        .rw[e4 m q,hg]
       unfold zIi at a6;unfold zOn at a9;split at a6
       .rename_i p hp;simp only[hp]at a9;split at a6
        .rename_i dg c9;simp only[c9,zE,yU,List.contains_eq_mem,yO,yE,qE]at a9;obtain⟨e9,d8⟩:=a9;have f3: ∀m∈u,zC5 ops m.2=some dg:=fun m q=>by simp only[zC5,d7 m q,hp,c9]
         have a7: ∀m∈u,ZF ops T m.2=some (isW g b2):=fun m q=>by
          simp only[ZF,d7 m q,zGm,hp,c9,hl _ _ a6]
         have a8: ∀m∈u,∀b3∈u,∀d,m.2.dst=some d->zC5 ops b3.2≠some d:=fun m q b3 b1 d hd hc=>by
          rw[f3 b3 b1]at hc;injection hc with hc;subst hc
          exact e9 (by simp only[dstsOf,List.mem_filterMap];exact⟨m,q,hd⟩)
         have a3: ∀ms,masks=some ms->Tr B.X ms sn pre (u++rest'):=fun ms y=>by rw[<-b6];exact hT ms y
         have key: ∃C J a0 env2 b4,uM B.X (rOf B D) nt ops T H C J a0/\C.map (fun e=>(e.i,e.o))=u/\Le env2 J/\zEr B D nt ops masks fuel K rest' b4 env2 a0=some out/\
           (∀ms,masks=some ms->(∀a∈pre,∀b∈C,zLX B.X ms a b)/\C.Pairwise (zLX B.X ms)/\Tr B.X ms b4 (pre++C) rest'):=by
          have b7: ∀ {C:List Ent} {J:Env} {a0:AH} {env2:Env},uM B.X (rOf B D) nt ops T H C J a0->C.map (fun e=>(e.i,e.o))=u->
            (∀t,t∉YT ops u rest'->look env2 t=look (zAL (dstsOf u) env) t)->(∀t x,t∈YT ops u rest'->look env2 t=some x->look J t=some x)->Le env2 J:=by
           intro C J a0 env2 hc hm O Y t x S;by_cases N:t∈YT ops u rest'
           .exact Y t x N S
           .rw[O t N,BL]at S;split at S
            .simp at S
            .rename_i f4;rw[J6 hc t (fun e he f5=>f4 ?_)]
             .exact hl t x S
             .have:(e.i,e.o)∈u:=by rw[<-hm];exact qZ.2 ⟨e,he,rfl⟩
              simp only[dstsOf,List.mem_filterMap];exact⟨_,this,f5⟩
          split at z
          .rename_i d0;unfold runK at z
           cases a1:isW g b2 with
           | true=>
            simp only[wnt,a1,zP]at z;have S: ∃vs Z,zJW B D nt masks (fun _ env H=>pck (YT ops u rest') env fun vs=>some (.norm vs,H)) u sn env H=some (.norm vs,Z)/\(unp (YT ops u rest') vs (zAL (dstsOf u) env) fun env=>zEr B D nt ops masks fuel K rest' sn env Z)=some out/\True:=by
             rcases zAz z with⟨vs,Z,O,Y⟩ | ⟨id,vs,Z,O,Y⟩ | ⟨v,Z,O,Y⟩
             .exact⟨vs,Z,O,Y,trivial⟩
             .obtain⟨_,_,_,_,_,_,_,_,_,c5,_⟩:=bD (ops:=ops) (rest:=rest') u sn env H T pre O hl (fun m q=>by rw[a7 m q,a1]) a8 a3;obtain⟨_,_,c7⟩:=wH c5;simp at c7
             .obtain⟨_,_,_,_,_,_,_,_,_,c5,_⟩:=bD (ops:=ops) (rest:=rest') u sn env H T pre O hl (fun m q=>by rw[a7 m q,a1]) a8 a3;obtain⟨_,_,c7⟩:=wH c5;simp at c7
            obtain⟨vs,Z,O,Y,_⟩:=S;obtain⟨C,J,a0,d9,b8,c1,c2,c3,c4,c5,c6⟩:=bD (ops:=ops) (rest:=rest') u sn env H T pre O hl (fun m q=>by rw[a7 m q,a1]) a8 a3;obtain⟨vs',c7,c8⟩:=wH c5;simp only[zB,zU,Ex.norm.injEq]at c8;obtain⟨rfl,rfl⟩:=c8;obtain⟨env2,u1,u2⟩:=QG Y b8 c7;refine⟨C,J,a0,env2,sn,c1,c2,b7 c1 c2 (fun t N=>(u2 t).2 N) (fun t x N S=>c4 t x (by rw[<-(u2 t).1 N];exact S)),u1,fun ms y=> ?_⟩;obtain⟨e1,e2,e3⟩:=c6 ms y;refine⟨e1,e2,fun a f a2 a5=> ?_⟩;rcases qA.1 f with f | f
            .exact((a3 ms y).less (fun _ h=>h) (fun b hb=>yQ _ hb)) a f a2 a5
            .have e7:=zCA c1 a f;have b0:=(XY _ _ _ e7).2.1 a2;have f6:aL B.X a.env a.H a.o.op=some a.v:=by
              simp only[opF,a5,wV]at b0;split at b0
              .rename_i x S;simp only[zB,zU]at b0;rw[S,b0.1]
              .simp at b0
             cases e0:vF B.X a.o.op with
             | false=>exact .inr (.inl fun H2=>zE6 a5 e0 f6 H2)
             | true=>
              refine .inr (.inr fun b hb he=> ?_);simp only[zND,zGB,y,yE,j6,yU]at d0;have a4:(a.i,a.o)∈u:=by rw[<-c2];exact qZ.2 ⟨a,f,rfl⟩
              rcases d0 _ a4 with hr | hr
              .simp only at hr;rw[e0]at hr;simp at hr
              .rcases hr b hb with hr | hr
               .rw[he]at hr;simp at hr
               .exact hr
           | false=>
            simp only[wnt,a1,qH]at z;have S: ∃vs Z,zBo B.X masks sn H (some (.norm ((YT ops u rest').map fun _=>jQ),H)) u=some (.norm vs,Z)/\(unp (YT ops u rest') vs (zAL (dstsOf u) env) fun env=>zEr B D nt ops masks fuel K rest' sn env Z)=some out:=by
             rcases zAz z with⟨vs,Z,O,Y⟩ | ⟨id,vs,Z,O,Y⟩ | ⟨v,Z,O,Y⟩
             .exact⟨vs,Z,O,Y⟩
             .have:=(u9 O).1;simp at this
             .have:=(u9 O).1;simp at this
            obtain⟨vs,Z,O,Y⟩:=S;obtain⟨h3,h4⟩:=u9 O;simp only[zB,zU,Ex.norm.injEq]at h3;obtain⟨rfl,rfl⟩:=h3;obtain⟨C,J,c1,c2,c3,c4⟩:=YO (B:=B) (D:=D) (nt:=nt) (ops:=ops) (H:=H) u T (fun m q=>by rw[a7 m q,a1]) a8 (fun m q d hd=>d8 d (by simp only[dstsOf,List.mem_filterMap];exact⟨m,q,hd⟩));obtain⟨env2,u1,u2⟩:=QG Y J (zJT fun t N=>c4 t (zBH N));refine⟨C,J,H,env2,sn,c1,c2,b7 c1 c2 (fun t N=>(u2 t).2 N) (fun t x N S=>by rw[<-(u2 t).1 N];exact S),u1,fun ms y=>⟨fun a f b hb=> ?_, ?_,fun a f a2 a5=> ?_⟩⟩
            .have a4:(b.i,b.o)∈u:=by rw[<-c2];exact qZ.2 ⟨b,hb,rfl⟩
             refine(a3 ms y).see (qU _ a4) (fun he=> ?_) a f;rw[(c3 b hb).2];exact h4 ms y _ a4 he
            .refine List.Pairwise.imp_of_mem (R:=fun _ _=>True) (fun {a b} f _ _ hw=> ?_) (List.pairwise_of_forall fun _ _=>trivial);rw[(c3 a f).1]at hw;simp at hw
            .rcases qA.1 f with f | f
             .exact((a3 ms y).less (fun _ h=>h) (fun b hb=>yQ _ hb)) a f a2 a5
             .rw[(c3 a f).1]at a2;simp at a2
          .unfold runW at z
           cases a1:isW g b2 with
           | true=>
            simp only[wnt,a1,zP]at z;obtain⟨C,J,a0,d9,b8,c1,c2,c3,c4,c5,c6⟩:=bD (ops:=ops) (rest:=rest') u sn env H T pre z hl (fun m q=>by rw[a7 m q,a1]) a8 a3;exact⟨C,J,a0,b8,d9,c1,c2,c4,c5,fun ms y=>c6 ms y⟩
           | false=>
            simp only[wnt,a1,qH]at z;obtain⟨Y,h4⟩:=u9 z;obtain⟨C,J,c1,c2,c3,c4⟩:=YO (B:=B) (D:=D) (nt:=nt) (ops:=ops) (H:=H) u T (fun m q=>by rw[a7 m q,a1]) a8 (fun m q d hd=>d8 d (by simp only[dstsOf,List.mem_filterMap];exact⟨m,q,hd⟩));obtain⟨env2,u1,u2⟩:=QG Y J (zJT fun t N=>c4 t (zBH N));refine⟨C,J,H,env2,sn,c1,c2,b7 c1 c2 (fun t N=>(u2 t).2 N) (fun t x N S=>by rw[<-(u2 t).1 N];exact S),u1,fun ms y=>⟨fun a f b hb=> ?_, ?_,fun a f a2 a5=> ?_⟩⟩
            .have a4:(b.i,b.o)∈u:=by rw[<-c2];exact qZ.2 ⟨b,hb,rfl⟩
             refine(a3 ms y).see (qU _ a4) (fun he=> ?_) a f;rw[(c3 b hb).2];exact h4 ms y _ a4 he
            .refine List.Pairwise.imp_of_mem (R:=fun _ _=>True) (fun {a b} f _ _ hw=> ?_) (List.pairwise_of_forall fun _ _=>trivial);rw[(c3 a f).1]at hw;simp at hw
            .rcases qA.1 f with f | f
             .exact((a3 ms y).less (fun _ h=>h) (fun b hb=>yQ _ hb)) a f a2 a5
             .rw[(c3 a f).1]at a2;simp at a2
         obtain⟨C,J,a0,env2,b4,k1,k2,k3,k4,k5⟩:=key;obtain⟨b9,b5,c0,e8,d1,d2,d3,d4,d5⟩:=ih rest' b4 env2 a0 J (pre++C) k4 k3 (fun ms y=>(k5 ms y).2.2);refine⟨C++b9,b5,c0,e8,aC k1 d1,by rw[List.map_append,k2,d2,b6],d3,d4,fun ms y=> ?_⟩;obtain⟨e1,e2,e3⟩:=k5 ms y;obtain⟨f1,f2⟩:=d5 ms y;refine⟨fun a f b hb=> ?_,j5.2 ⟨e2,f2,fun a f b hb=>f1 a (yQ _ f) b hb⟩⟩;rcases qA.1 hb with hb | hb
         .exact e1 a f b hb
         .exact f1 a (qU _ f) b hb
        .simp at a6
       .simp at a6
      .simp at z
end
def Marks (lo:Nat)(R:Ren)(w:World)(f:List Deferred):Prop:=
 f.Pairwise (fun a b=> ∀r,a=⟨.collected r, #[]⟩->b≠⟨.collected r, #[]⟩)/\
 ∀d∈f,∃r,d=⟨.collected r, #[]⟩/\lo<=r/\r<w.heap.size/\(∀A d c,¬R A r d c)/\w.heap[r]? =some (.deferred (some []))
theorem Marks.nil (lo:Nat)(R:Ren)(w:World):Marks lo R w []:=⟨List.Pairwise.nil,by simp⟩
theorem Marks.ext {j:Ren}{m:World}{o:List Deferred}(h:Marks i s t o)(k:Ext s n t j E m):Marks i j m o:=by
 refine⟨h.1,fun d hd=> ?_⟩;obtain⟨r,q,lo,p,f,u⟩:=h.2 d hd;refine⟨r,q,lo,qG p k.size,fun A d c hr=> ?_,by rw[k.keep r p f];exact u⟩;rcases k.new _ _ _ _ hr with a | a | ⟨x,y,z,a⟩
 .exact f _ _ _ a
 .omega
 .exact f _ _ _ a
def Ends (k:List Item)(h:Env->AH->Prop)(f:Nat->Env->AH->Prop)(j:Env->AH->Prop)(a:List Item)(env:Env)(H:AH):Prop:=
 (a=k/\h env H)\/(∃id k',a= .code (.exit id)::k'/\exitTo id k'=exitTo id k/\f id env H)\/(∃k',a= .code .ret::k'/\j env H)
def U0 (P:Program)(nt:Nat)(f0:FuncId)(ro:Bool)(t:Item)(env:Env)(H:AH)(p:Env->AH->Prop)(o:Nat->Env->AH->Prop)(q:Env->AH->Prop):Prop:=
 ∀(lo:Nat) (R:Ren) (fr:Frame) (k:List Item) (cs:List Frame) (w:World),fr.mode= .run->(ro=false->fr.roundOf=none/\fr.fn=f0)->fr.todo=t::k->EnvR R env nt fr.tmps->Rel R H w->Marks lo R w fr.defers->lo<=w.heap.size->
  ∃a f h j m env' H',Steps P (lone fr cs w) (lone { fr with tmps:=h,todo:=j,defers:=m} cs f)/\EnvR a env' nt h/\Rel a H' f/\Ext R H w a H' f/\H.next<=H'.next/\Marks lo a f m/\Ends k p o q j env' H'
theorem U0.mono {f0:FuncId}{P:Item}{o f:Env->AH->Prop}{j a:Nat->Env->AH->Prop}{p m:Env->AH->Prop}(h:U0 q i f0 U P l n o j p)
  (x: ∀e H',o e H'->f e H') (y: ∀nt e H',j nt e H'->a nt e H') (z: ∀e H',p e H'->m e H'):U0 q i f0 U P l n f a m:=by
 intro lo R fr k cs w hm t C J hL K u;obtain⟨N,O,S,T,Y,env',H',Z,a2,a3,a4,a5,a6,a7⟩:=h lo R fr k cs w hm t C J hL K u;refine⟨N,O,S,T,Y,env',H',Z,a2,a3,a4,a5,a6, ?_⟩;rcases a7 with⟨b1,b2⟩ | ⟨id,k',b1,b2,b3⟩ | ⟨k',b1,b2⟩
 .exact .inl ⟨b1,x _ _ b2⟩
 .exact .inr (.inl ⟨id,k',b1,b2,y _ _ _ b3⟩)
 .exact .inr (.inr ⟨k',b1,z _ _ b2⟩)
theorem U0.then {f0:FuncId}{it:Item}{Y:Env->AH->Prop}{x:Nat->Env->AH->Prop}{y:Env->AH->Prop}{Z:Env->AH->Prop}
  (p:List Item) (b0: ∀id k,exitTo id (p++k)=exitTo id k)
  (h:U0 q i f0 U it l n Z x y)
  (g: ∀m j,Z m j-> ∀(lo:Nat) (R:Ren) (fr:Frame) (k:List Item) (cs:List Frame) (w:World),fr.mode= .run->(U=false->fr.roundOf=none/\fr.fn=f0)->fr.todo=p++k->EnvR R m i fr.tmps->Rel R j w->Marks lo R w fr.defers->lo<=w.heap.size->
   ∃a f o P t env' H',Steps q (lone fr cs w) (lone { fr with tmps:=o,todo:=P,defers:=t} cs f)/\EnvR a env' i o/\Rel a H' f/\Ext R j w a H' f/\j.next<=H'.next/\Marks lo a f t/\Ends k Y x y P env' H')
  (lo:Nat) (R:Ren) (fr:Frame) (k:List Item) (cs:List Frame) (w:World) (hm:fr.mode= .run) (a0:U=false->fr.roundOf=none/\fr.fn=f0) (ht:fr.todo=it::(p++k)) (hE:EnvR R l i fr.tmps) (hL:Rel R n w) (hM:Marks lo R w fr.defers) (a8:lo<=w.heap.size):
   ∃a f o P t env' H',Steps q (lone fr cs w) (lone { fr with tmps:=o,todo:=P,defers:=t} cs f)/\EnvR a env' i o/\Rel a H' f/\Ext R n w a H' f/\n.next<=H'.next/\Marks lo a f t/\Ends k Y x y P env' H':=by
 obtain⟨C,J,t1,a9,z,m,j,K,N,O,u,S,T,a7⟩:=h lo R fr (p++k) cs w hm a0 ht hE hL hM a8;rcases a7 with⟨rfl,b2⟩ | ⟨id,k',b1,b2,b3⟩ | ⟨k',b1,b2⟩
 .obtain⟨R2,w2,t2,b4,b5,env2,H2,c1,c2,c3,c4,c5,c6,c7⟩:=g m j b2 lo C { fr with tmps:=t1,todo:=p++k,defers:=z} k cs J hm a0 rfl N O T (qN a8 u.size);exact⟨R2,w2,t2,b4,b5,env2,H2,K.trans c1,c2,c3,u.trans c4,qN S c5,c6,c7⟩
 .exact⟨C,J,t1,a9,z,m,j,K,N,O,u,S,T, .inr (.inl ⟨id,k',b1,by rw[b2,b0],b3⟩)⟩
 .exact⟨C,J,t1,a9,z,m,j,K,N,O,u,S,T, .inr (.inr ⟨k',b1,b2⟩)⟩
theorem U0.step {P:Program}{nt:Nat}{H:AH}{fr t:Frame}{k:List Item}{cs:List Frame}{w:World}{lo:Nat}{R:Ren}{p:Env->AH->Prop}{o:Nat->Env->AH->Prop}{q:Env->AH->Prop}{u:List Item}
  (x:step P (lone fr cs w)= .next (lone t cs w)) (y:t= { fr with todo:=u})
  (g: ∃a f m h j env' H',Steps P (lone { fr with todo:=u} cs w) (lone { fr with tmps:=m,todo:=h,defers:=j} cs f)/\EnvR a env' nt m/\Rel a H' f/\Ext R H w a H' f/\H.next<=H'.next/\Marks lo a f j/\Ends k p o q h env' H'):
  ∃a f m h j env' H',Steps P (lone fr cs w) (lone { fr with tmps:=m,todo:=h,defers:=j} cs f)/\EnvR a env' nt m/\Rel a H' f/\Ext R H w a H' f/\H.next<=H'.next/\Marks lo a f j/\Ends k p o q h env' H':=by
 subst y;obtain⟨a,f,z,h,j,env',H',C,J⟩:=g;exact⟨a,f,z,h,j,env',H',(Steps.one x).trans C,J⟩
theorem zAC: ∀(l:List Oper) (n:Nat),(idx l n).map (·.1)=(List.range l.length).map (n+ ·)/\ ∀a∈idx l n,n<=a.1/\l[a.1 - n]? =some a.2
 | [],n=>by simp[idx]
 | o::l,n=>by
  obtain⟨h,j⟩:=zAC l (n+1);refine⟨?_,fun a f=> ?_⟩
  .simp only[idx,yJ,h,zT,List.range_succ_eq_map,List.map_map];simp only[Nat.add_zero,y8,true_and];apply List.map_congr_left;intro x _;simp only[Function.comp];omega
  .simp only[idx,zK]at f;rcases f with rfl | f
   .simp
   .obtain⟨p,m⟩:=j a f;refine⟨by omega, ?_⟩;rw[show a.1 - n=(a.1 - (n+1))+1 from by omega,j7];exact m
section
variable {P:Program}{B:Tb}{D:Dyn}(hX:Ok P B.X)(hr:Good P (rOf B D)){nt:Nat}
include hX hr in
theorem V6 {ops:Array Oper} : ∀ {es:List Ent} {env:Env} {H:AH} {envF:Env} {HF:AH},uM B.X (rOf B D) nt ops env H es envF HF->(∀e∈es,ops[e.i]? =some e.o)->
  ∀(R:Ren) (fr:Frame) (k:List Item) (cs:List Frame) (w:World),fr.mode= .run->fr.todo= .inRegion ops (es.map (·.i))::k->EnvR R env nt fr.tmps->Rel R H w->
  ∃t u y,Steps P (lone fr cs w) (lone { fr with tmps:=y,todo:= .inRegion ops []::k} cs u)/\EnvR t envF nt y/\Rel t HF u/\Ext R H w t HF u
 | [],env,H,envF,HF,⟨h1,h2⟩,_,R,fr,k,cs,w,hm,ht,hE,hL=>by
  subst h1 h2;refine⟨R,w,fr.tmps, ?_,hE,hL,zRr R H w⟩;have:({ fr with tmps:=fr.tmps,todo:= .inRegion ops []::k} :Frame)=fr:=by
   have a:fr.todo= .inRegion ops []::k:=ht;rw[<-a]
  rw[this];exact .refl _ _
 | e::es,env,H,envF,HF,⟨h1,h2,h3,env',h4,h5⟩,hmem,R,fr,k,cs,w,hm,ht,hE,hL=>by
  have x:=hmem e (zJ ..);obtain⟨N,J,K⟩:=XY _ _ _ h3;have j:=zD0 hE N;have a:fr.todo= .inRegion ops (e.i::es.map (·.i))::k:=ht;have key: ∃f h z,Steps P (lone fr cs w) (lone { fr with tmps:=zCW fr.tmps e.o.dst z,todo:= .inRegion ops (es.map (·.i))::k} cs h)/\VR f e.v z/\Rel f e.H' h/\Ext R H w f e.H' h:=by
   cases m:e.want with
   | true=>
    rw[m]at j;exact zEs hX hr (cs:=cs) hm a x j hE hL (J m)
   | false=>
    rw[m]at j;obtain⟨O,p⟩:=K m;refine⟨R,w,undef, ?_,by rw[O];exact zAY R,by rw[p];exact hL,by rw[p];exact zRr R H w⟩;rw[<-kH a x];exact .one (WH hm a x j)
  obtain⟨f,h,z,S,T,l1,C⟩:=key;obtain⟨Y,Z,t2,s2,p,l2,x2⟩:=V6 h5 (fun q hq=>hmem q (zC _ hq)) f { fr with tmps:=zCW fr.tmps e.o.dst z,todo:= .inRegion ops (es.map (·.i))::k} k cs h hm rfl ((hE.mono C.sub).put T h4) l1;exact⟨Y,Z,t2,S.trans s2,p,l2,C.trans x2⟩
include hX hr in
theorem zNI {K:Env->AH->Rs}{out:Ex×AH}(h:zPe B D nt v U K l n=some out)(f0:FuncId)(ro:Bool)(q:Nat->Env->AH->Prop)(t:Env->AH->Prop):
  U0 P nt f0 ro (.code (.region i v U)) l n (fun env' H'=>K env' H'=some out) q t:=by
 unfold zPe at h;rw[zF]at h;have u: ∀ {env' envF:Env} {HF:AH},zJR P nt (.region i v U) l n .normal envF HF->Le env' envF->n.next<=HF.next->K env' HF=some out->
   U0 P nt f0 ro (.code (.region i v U)) l n (fun env' H'=>K env' H'=some out) q t:=by
  intro env' envF HF O hl S T lo R fr k cs w hm _ j m hL Y a0;obtain⟨Z,w',t',td,a1,y,a3,a4,z⟩:=O R fr k cs w hm j m hL;simp only[Out]at y;subst y;exact⟨Z,w',t',td,fr.defers,env',HF,a1,a3.le hl,a4,z,S,Y.ext z, .inl ⟨rfl,T⟩⟩
 split at h
 .rename_i hd;subst hd;split at h
  .rename_i row masks C;obtain⟨es,envF,HF,env',c1,c2,c3,p,c5⟩:=uA _ row [] l n l [] h (Le.refl l) (fun ms x=>by intro a ha;simp at ha);exact u (zJ1 hX hr hr.mono C c1 c2 (c5 _ rfl).2) c3 (wP hr.mono c1).1 p
  .simp at h
 .rename_i hd;have N:U=false:=by simpa using hd
  subst N;obtain⟨es,envF,HF,env',c1,c2,c3,p,_⟩:=uA _ _ [] l n l [] h (Le.refl l) (fun ms x=>by simp at x);refine u ?_ c3 (wP hr.mono c1).1 p;intro R fr k cs w hm j m hL;obtain⟨i1,i2⟩:=zAC v.toList 0;have hi:es.map (·.i)=List.range v.size:=by
   have:es.map (·.i)=(idx v.toList 0).map (·.1):=by rw[<-c2];simp
   rw[this,i1];simp
  have J: ∀e∈es,v[e.i]? =some e.o:=by
   intro e he;have:(e.i,e.o)∈idx v.toList 0:=by rw[<-c2];exact qZ.2 ⟨e,he,rfl⟩
   have:=(i2 _ this).2;simpa using this
  obtain⟨R1,w1,t1,s1,e1,l1,x1⟩:=V6 hX hr c1 J R { fr with todo:= .inRegion v (List.range v.size)::k} k cs w hm (by rw[hi]) m hL;exact⟨R1,w1,t1,k,(Steps.one (QK hm j)).trans (s1.trans (.one (xU (fr:= { fr with tmps:=t1,todo:= .inRegion v []::k}) hm rfl))),rfl,e1,l1,x1⟩
end
end Go.Eng




