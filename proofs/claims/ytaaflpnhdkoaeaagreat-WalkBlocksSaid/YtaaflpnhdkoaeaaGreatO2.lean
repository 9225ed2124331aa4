/- A checked evaluator for the program, and what it tells, part 2: no condition. -/
import Derived.Test.YtaaflpnhdkoaeaaGreatO1
import Derived.RangeFuncRecord
import Derived.Orders
set_option linter.all false
set_option linter.unusedVariables false
set_option linter.unusedSimpArgs false
set_option maxHeartbeats 8000000
set_option maxRecDepth 20000
section
namespace Go.Eng
theorem zAj {P:Program}{w m:World}{t u ty e:TypeId}{f:TypeDesc}{sz n sLen sCap:Nat}{base:Option Addr}{xv:Value}{vs:Array Value}(o:(underlying t).run P w= .ok (.slice e) w)(p:(underlying u).run P w= .ok f w)(x: ∀k,f≠ .int k)
  (i:(sizeOf e).run P w= .ok sz w) (q:(Builtin.lenOf xv).run P w= .ok n w) (s:(Builtin.firstCells sz n xv).run P w= .ok vs w) (j:sLen+n<=sCap)
  (h:(match base with | some a=>storeCells (a.add (sLen*sz)) vs.toList | none=>pure ()).run P w= .ok () m):
  (Builtin.append_ #[t,u] ty #[.slice base sLen sCap,xv]).run P w= .ok (.slice base (sLen+n) sCap) m:=by
 have v:(match f with | .int _=>true | _=>false)=false:=by
  cases f<;>first | rfl | exact absurd rfl (x _)
 cases base with
 | none=>
  simp only[zO,Result.ok.injEq,true_and]at h;subst h;simp[Builtin.append_,zH,o,p,i,v,q,j,s,zO]
 | some a=>
  simp[Builtin.append_,zH,o,p,i,v,q,j,s,h,zO]
theorem run_append_grow {P:Program}{w:World}{t u ty e:TypeId}{h:TypeDesc}{f:TypeInfo}{i:Value}{n sLen sCap:Nat}{base:Option Addr}{xv:Value}{vs old:Array Value}(N:(underlying t).run P w= .ok (.slice e) w)(O:(underlying u).run P w= .ok h w)(s: ∀k,h≠ .int k)
  (hi:P.info? e=some f) (S:f.zero=some i) (T:(Builtin.lenOf xv).run P w= .ok n w) (U: ∀a,a.heap=w.heap->(Builtin.firstCells f.size n xv).run P a= .ok vs a)
  (V: ∀a,a.heap=w.heap->(Builtin.firstCells f.size sLen (.slice base sLen sCap)).run P a= .ok old a) (v:sCap<sLen+n) (hb:(sLen+n+(sLen+n) / 4+192)*f.bytes<=281474976710656) (h63:sLen+n<4611686018427387904):
  ∃cap,sLen+n<=cap/\cap<9223372036854775808/\(Builtin.append_ #[t,u] ty #[.slice base sLen sCap,xv]).run P w=
   .ok (.slice (some ⟨w.heap.size,0,none⟩) (sLen+n) cap) (World.alloc w.drew (.cells (old++vs++Builtin.zeroCells i.cells (cap - (sLen+n))) e)):=by
 have x:(match h with | .int _=>true | _=>false)=false:=by
  cases h<;>first | rfl | exact absurd rfl (s _)
 have Y:=growslice_fits_wide (bytes:=f.bytes) v hb;refine⟨Question.cut (.appendCap (sLen+n) sCap e) (w.tape w.drawn (.appendCap (sLen+n) sCap e)),by simp only[Question.cut];omega,by
   simp only[Question.cut];have:=Nat.mod_lt (w.tape w.drawn (.appendCap (sLen+n) sCap e)) (show 2 ^ 63 - (sLen+n)>0 by omega);omega, ?_⟩
 generalize j:Question.cut (.appendCap (sLen+n) sCap e) (w.tape w.drawn (.appendCap (sLen+n) sCap e))=cap;have hq:(choose (.appendCap (sLen+n) sCap e)).run P w= .ok cap { w with drawn:=w.drawn+1} :=by
  simp only[choose,Sem.run,Question.forced,zL,qC,j]
 have y: ∀a,(sizeOf e).run P a= .ok f.size a:=fun a=>by simp[sizeOf,typeInfo,hi]
 have z: ∀a,(typeInfo e).run P a= .ok f a:=fun a=>by simp[typeInfo,hi]
 have C: ∀a,(zeroValue e).run P a= .ok i a:=fun a=>by simp[zeroValue,typeInfo,hi,S]
 have F: ¬sLen+n<=sCap:=by omega
 have p: ¬((sLen+n:Nat):Int)>IntKind.i64.max:=by
  simp only[IntKind.max,IntKind.signed,IntKind.bits];simp;omega
 have o: ∀(b:Nat) a,(askRoom b).run P a= .ok () a:=fun b a=>by unfold askRoom;split<;>rfl
 have Z: ¬Builtin.nextslicecap (sLen+n) sCap*f.bytes>2 ^ 48:=by omega
 have J:=U w.drew rfl;have K:=V w.drew rfl;have W: ¬(((sLen:Int)+(n:Int))>IntKind.i64.max):=by simpa using p
 have L: ¬(9223372036854775807< (sLen:Int)+(n:Int)/\f.bytes=0):=by omega
 have m:(Question.appendCap (sLen+n) sCap e).forced=false:=rfl;have q: ¬281474976710656<Builtin.nextslicecap (sLen+n) sCap*f.bytes:=by omega
 simp[Builtin.append_,zH,N,O,y,x,T,F,z,L,q,m,j,o,K,J,C,newRow,newObj,Sem.run,zO]
structure AppSrc (P:Program)(w:World)(t u ty e:TypeId)(ti:TypeInfo)(zv xv:Value)(n:Nat)(vs:Array Value):Prop where
 fits: ∀(base:Option Addr) (sLen sCap:Nat) (w':World),sLen+n<=sCap->(match base with | some a=>storeCells (a.add (sLen*ti.size)) vs.toList | none=>pure ()).run P w= .ok () w'->
  (Builtin.append_ #[t,u] ty #[.slice base sLen sCap,xv]).run P w= .ok (.slice base (sLen+n) sCap) w'
 grows: ∀(base:Option Addr) (sLen sCap:Nat) (old:Array Value),(∀w',w'.heap=w.heap->(Builtin.firstCells ti.size sLen (.slice base sLen sCap)).run P w'= .ok old w')->sCap<sLen+n->
  (sLen+n+(sLen+n) / 4+192)*ti.bytes<=281474976710656->sLen+n<4611686018427387904->
  ∃cap,sLen+n<=cap/\cap<9223372036854775808/\(Builtin.append_ #[t,u] ty #[.slice base sLen sCap,xv]).run P w=
   .ok (.slice (some ⟨w.heap.size,0,none⟩) (sLen+n) cap) (World.alloc w.drew (.cells (old++vs++Builtin.zeroCells zv.cells (cap - (sLen+n))) e))
theorem AppSrc.plain {P:Program}{w:World}{t u ty e:TypeId}{i:TypeDesc}{a:TypeInfo}{j:Value}{n:Nat}{xv:Value}{vs:Array Value}(m:(underlying t).run P w= .ok (.slice e) w)(o:(underlying u).run P w= .ok i w)(h: ∀k,i≠ .int k)
  (hi:P.info? e=some a) (x:a.zero=some j) (p:(Builtin.lenOf xv).run P w= .ok n w) (q: ∀f,f.heap=w.heap->(Builtin.firstCells a.size n xv).run P f= .ok vs f):AppSrc P w t u ty e a j xv n vs:=
 ⟨fun _ _ _ _ s y=>zAj m o h (by simp[sizeOf,typeInfo,hi]) p (q w rfl) s y,
  fun _ _ _ _ z v hb h63=>run_append_grow m o h hi x p q z v hb h63⟩
theorem AppSrc.zeros {P:Program}{w:World}{t u ty e:TypeId}{k:IntKind}{i:TypeInfo}{F:Value}{n:Nat}(y:(underlying t).run P w= .ok (.slice e) w)(z:(underlying u).run P w= .ok (.int k) w)
  (hi:P.info? e=some i) (Y:i.zero=some F) (a0:0<i.size) (hn:n<4611686018427387904) (hb:n*i.bytes<=281474976710656):AppSrc P w t u ty e i F (.int .i64 (n:Int)) n (Builtin.zeroCells F.cells n):=by
 have q: ∀f,(sizeOf e).run P f= .ok i.size f:=fun f=>by simp[sizeOf,typeInfo,hi]
 have s: ∀f,(typeInfo e).run P f= .ok i f:=fun f=>by simp[typeInfo,hi]
 have J: ∀f,(zeroValue e).run P f= .ok F f:=fun f=>by simp[zeroValue,typeInfo,hi,Y]
 have p:IntKind.i64.wrap (n:Int)=n:=uN (by simp only[IntKind.min,IntKind.signed,IntKind.bits];simp) (by simp only[IntKind.max,IntKind.signed,IntKind.bits];simp;omega);have C: ¬((n:Int)<0):=by omega
 have Z: ¬((n:Int)*(i.bytes:Int)>2 ^ 48):=by
  have:((n*i.bytes:Nat):Int)<=281474976710656:=by omega
  simp at this;simp;omega
 have v: ¬(281474976710656< (n:Int)*(i.bytes:Int)):=by simpa using Z
 have x: ∀f:World,(asInt (.int .i64 (n:Int))).run P f= .ok (n:Int) f:=fun f=>by simp[asInt,asIntOf]
 have S:n*i.size=0->Builtin.zeroCells F.cells n= #[]:=by
  intro j;have:n=0:=by
   rcases Nat.mul_eq_zero.1 j with h | h
   .exact h
   .omega
  subst this;simp[Builtin.zeroCells]
 refine⟨fun base sLen sCap f o m=> ?_,fun base sLen sCap old ho V W h63=> ?_⟩
 .by_cases j:n*i.size=0
  .rw[S j]at m
   cases base with
   | none=>
    simp only[zO,Result.ok.injEq,true_and]at m;subst m;simp[Builtin.append_,zH,y,z,q,x,p,C,s,v,o,j,zO]
   | some a=>
    simp only at m;simp[Builtin.append_,zH,y,z,q,x,p,C,s,v,o,j,m,zO]
  .cases base with
   | none=>
    simp only[zO,Result.ok.injEq,true_and]at m;subst m;simp[Builtin.append_,zH,y,z,q,x,p,C,s,v,o,j,J,zO]
   | some a=>
    simp only at m;simp[Builtin.append_,zH,y,z,q,x,p,C,s,v,o,j,J,m,zO]
 .have a1:=growslice_fits_wide (bytes:=i.bytes) V W;refine⟨Question.cut (.appendCap (sLen+n) sCap e) (w.tape w.drawn (.appendCap (sLen+n) sCap e)),by simp only[Question.cut];omega,by
   simp only[Question.cut];have:=Nat.mod_lt (w.tape w.drawn (.appendCap (sLen+n) sCap e)) (show 2 ^ 63 - (sLen+n)>0 by omega);omega, ?_⟩
  generalize N:Question.cut (.appendCap (sLen+n) sCap e) (w.tape w.drawn (.appendCap (sLen+n) sCap e))=cap;have o: ¬sLen+n<=sCap:=by omega
  have L: ∀(b:Nat) f,(askRoom b).run P f= .ok () f:=fun b f=>by unfold askRoom;split<;>rfl
  have T:=ho w.drew rfl;have U: ¬(9223372036854775807< (sLen:Int)+(n:Int)):=by omega
  have K:(Question.appendCap (sLen+n) sCap e).forced=false:=rfl;have O: ¬281474976710656<Builtin.nextslicecap (sLen+n) sCap*i.bytes:=by omega
  by_cases j:n*i.size=0
  .rw[S j];simp[Builtin.append_,zH,y,z,q,x,p,C,s,v,o,U,O,K,N,L,T,j,J,newRow,newObj,Sem.run,zO]
  .simp[Builtin.append_,zH,y,z,q,x,p,C,s,v,o,U,O,K,N,L,T,j,J,newRow,newObj,Sem.run,zO]
theorem Rel.kill {R:Ren}{H:AH}{w:World}(h:Rel R H w){A:Nat}{i:T AObj}(m:T.set 40 H.h A .dead=some i):Rel R ⟨i,H.next⟩ w:=by
 have j:=T.get_set _ _ _ _ _ m;have hl: ∀f,JW ⟨i,H.next⟩ f->JW H f:=fun f ⟨o,a,hd⟩=>by
  simp only[j]at a;by_cases e:f=A
  .rw[if_pos e]at a;injection a with a;subst a;exact hd.elim
  .rw[if_neg e]at a;exact⟨o,a,hd⟩
 refine⟨h.fn,fun A1 A2 b d c d' c' r p l l'=>h.inj _ _ _ _ _ _ _ r p (hl _ l) (hl _ l'),fun A1 b d c o r a=> ?_,h.lt⟩;simp only[j]at a;by_cases e:A1=A
 .rw[if_pos e]at a;injection a with a;subst a;trivial
 .rw[if_neg e]at a;exact h.obj _ _ _ _ _ r a
theorem Ext.kill {R:Ren}{H:AH}{w:World}{A b d c:Nat}(hR:R A b d c){a:T AObj}(f:T.set 40 H.h A .dead=some a):Ext R H w R ⟨a,H.next⟩ w:=
 ⟨zRe R,fun _ _ _ _ h=> .inl h,fun _ _ _ _ h=> .inl h,zQ _,fun A1 _ i=>by
  show a.get A1=_;rw[T.get_set _ _ _ _ _ f,if_neg (fun e=>by subst e;exact i _ _ _ hR)],rfl,rfl,rfl,zQ _,fun _ _ _=>rfl⟩
theorem Rel.move {R:Ren}{H:AH}{w:World}(h:Rel R H w){A b d c d' c':Nat}{o':AObj}{x:Obj}{v q:T AObj}(hR:R A b d c)(hl:JW H A)(F:T.set 40 H.h A .dead=some v)(J:T.set 40 v H.next o'=some q)
  (f:zKo (R.add H.next b d' c') o' d' c' (some x)):Rel (R.add H.next b d' c') ⟨q,H.next+1⟩ (vU w b x):=by
 have y:=T.get_set _ _ _ _ _ F;have s:=T.get_set _ _ _ _ _ J;have i: ∀b d c,¬R H.next b d c:=fun b d c r=>by have:=(h.lt _ _ _ _ r).2;omega
 have p: ∀m,JW ⟨q,H.next+1⟩ m->m≠H.next->JW H m/\m≠A:=fun m ⟨o,f,hd⟩ hne=>by
  simp only[s,if_neg hne,y]at f;by_cases e:m=A
  .rw[if_pos e]at f;injection f with f;subst f;exact hd.elim
  .rw[if_neg e]at f;exact⟨⟨o,f,hd⟩,e⟩
 refine⟨?_, ?_, ?_, ?_⟩
 .rintro A1 b1 t c1 b2 K c2 (r | ⟨rfl,rfl,rfl,rfl⟩) (r' | ⟨e1,rfl,rfl,rfl⟩)
  .exact h.fn _ _ _ _ _ _ _ r r'
  .subst e1;exact absurd r (i _ _ _)
  .exact absurd r' (i _ _ _)
  .exact⟨rfl,rfl,rfl⟩
 .rintro A1 A2 b1 t c1 K c2 (r | ⟨rfl,rfl,rfl,rfl⟩) (r' | ⟨rfl,e2,rfl,rfl⟩) l l'
  .have j:A1≠H.next:=fun e=>by subst e;exact i _ _ _ r
   have L:A2≠H.next:=fun e=>by subst e;exact i _ _ _ r'
   exact h.inj _ _ _ _ _ _ _ r r' (p _ l j).1 (p _ l' L).1
  .subst e2;have j:A1≠H.next:=fun e=>by subst e;exact i _ _ _ r
   obtain⟨l1,u⟩:=p _ l j;exact absurd (h.inj _ _ _ _ _ _ _ r hR l1 hl) u
  .have j:A2≠H.next:=fun e=>by subst e;exact i _ _ _ r'
   obtain⟨l1,u⟩:=p _ l' j;exact absurd (h.inj _ _ _ _ _ _ _ r' hR l1 hl) u
  .rfl
 .rintro A1 b1 t c1 N (r | ⟨rfl,rfl,rfl,rfl⟩) a
  .have j:A1≠H.next:=fun e=>by subst e;exact i _ _ _ r
   simp only[s,if_neg j,y]at a;by_cases e:A1=A
   .rw[if_pos e]at a;injection a with a;subst a;trivial
   .rw[if_neg e]at a;by_cases z:b1=b
    .subst z;have C: ¬JW H A1:=fun l1=>e (h.inj _ _ _ _ _ _ _ r hR l1 hl)
     cases N with
     | dead=>trivial
     | _=>exact absurd ⟨_,a,trivial⟩ C
    .rw[v8 _ _ _ _ z];exact(h.obj _ _ _ _ _ r a).mono (R.sub_add _ _ _ _)
  .simp only[s,if_pos]at a;injection a with a;subst a
   rw[bB _ _ _ (h.lt _ _ _ _ hR).1];exact f
 .rintro A1 b1 t c1 (r | ⟨rfl,rfl,rfl,rfl⟩)
  .rw[vD];exact⟨(h.lt _ _ _ _ r).1,Nat.lt_succ_of_lt (h.lt _ _ _ _ r).2⟩
  .rw[vD];exact⟨(h.lt _ _ _ _ hR).1,Nat.lt_succ_self _⟩
theorem Ext.move {R:Ren}{H:AH}{w:World}{A b d c d' c':Nat}{o':AObj}{x:Obj}{f a:T AObj}(hR:R A b d c)(i:T.set 40 H.h A .dead=some f)(j:T.set 40 f H.next o'=some a):
  Ext R H w (R.add H.next b d' c') ⟨a,H.next+1⟩ (vU w b x) where
 sub:=R.sub_add _ _ _ _
 new A1 b1 d1 c1:=by
  rintro(r | ⟨rfl,rfl,rfl,rfl⟩)
  .exact .inl r
  .exact .inr (.inr ⟨_,_,_,hR⟩)
 newA A1 b1 d1 c1:=by
  rintro(r | ⟨rfl,rfl,rfl,rfl⟩)
  .exact .inl r
  .exact .inr (zQ _)
 next:=Nat.le_succ _
 keepA A1 hA hk:=by
  show a.get A1=_;rw[T.get_set _ _ _ _ _ j,if_neg (by omega),T.get_set _ _ _ _ _ i,if_neg (fun e=>by subst e;exact hk _ _ _ hR)]
 os:=rfl
 tape:=rfl
 output:=rfl
 size:=by rw[vD];omega
 keep k _ hk:=v8 _ _ _ _ (fun e=>by subst e;exact hk _ _ _ hR)
theorem Rel.heap {R:Ren}{H:AH}{w a:World}(h:Rel R H w)(e:a.heap=w.heap):Rel R H a:=
 ⟨h.fn,h.inj,fun A b d c o r f=>by rw[e];exact h.obj A b d c o r f,fun A b d c r=>by rw[e];exact h.lt A b d c r⟩
theorem U6: ∀(n:Nat) (l:List AV),n<=l.length->takeN n l=some (l.take n)
 | 0,l,_=>by simp[takeN]
 | n+1,[],hl=>by simp at hl
 | n+1,x::l,hl=>by simp only[takeN,U6 n l (by simpa using hl)];rfl
theorem kW: ∀(l:List AV) (o n:Nat),n=0\/o+n<=l.length->uU l o n=some ((l.drop o).take n)
 | l,0,n,hn=>by
  have:uU l 0 n=takeN n l:=by cases l<;>rfl
  rw[this,U6 n l (by omega)];simp
 | [],o+1,n,hn=>by
  have:n=0:=by simp at hn;omega
  subst this;simp[uU]
 | x::l,o+1,n,hn=>by
  simp only[uU];rw[kW l o n (by simp at hn;omega)];simp
theorem zJK {w f:World}(e:f.heap=w.heap)(a:Addr):f.cell? a=w.cell? a:=by simp only[World.cell?,e]
theorem Rel.loadsW {R:Ren}{H:AH}{w:World}{A b d c:Nat}{l:List AV}{e:TypeId}{sz:Nat}{g:Bool}(h:Rel R H w)(t:H.h.get A=some (.cells l e sz g))(hR:R A b d c){P:Program}{o n:Nat}{r:List AV}(hr:uU l o n=some r):
  ∃vs:List Value,(∀a:World,a.heap=w.heap->(loadCells ⟨b,d+o,none⟩ n).run P a= .ok vs.toArray a)/\VRL R r vs:=by
 obtain⟨p,C⟩:=dV _ _ _ _ hr;obtain⟨arr,K,pre,l',z,u,x,L,i,_⟩:=h.cellsAt t hR;have F:=zRb l l' i;have q:VRL R r ((l'.drop o).take n):=by rw[p];exact(i.drop o).take n
 have m:((l'.drop o).take n).length=n:=by
  rw[qA,qK];omega
 refine⟨(l'.drop o).take n,fun a y=> ?_,q⟩;have hl:=run_loadCells_list (P:=P) a ⟨b,d+o,none⟩ ((l'.drop o).take n) (fun j v f=>by
  have J:=(qR.1 f).1;rw[xA,zJK y];simp only[World.cell?,u,Option.isSome_none,zL,qC];rw[jG (by omega),jE]at f;have s:o+j<l'.length:=(qR.1 f).1;rw[<-yS,x,jA (by omega),show d+o+j - pre.length=o+j from by omega,yX s];exact f)
 rw[m]at hl;exact hl
section
variable {P:Program}{X:Cx}(hX:Ok P X){R:Ren}{H:AH}{w:World}(hL:Rel R H w)
include hL in
theorem zEe {sz n:Nat}{x:AV}{new:List AV}{v:Value}(h:srcOf sz x H=some (n,new))(i:VR R x v):
  (∀f,(Builtin.lenOf v).run P f= .ok n f)/\new.length=n*sz/\ ∀m,m<=n-> ∃vs:List Value,(∀f:World,f.heap=w.heap->(Builtin.firstCells sz m v).run P f= .ok vs.toArray f)/\VRL R (new.take (m*sz)) vs:=by
 unfold srcOf at h;split at h
 .simp only[zB,zU]at h;obtain⟨rfl,rfl⟩:=h;simp only[VR]at i;subst i;exact⟨fun _=>rfl,by simp,fun m hm=>⟨[],fun f _=>rfl,by simp[VRL]⟩⟩
 .simp only[zB,zU]at h;obtain⟨rfl,rfl⟩:=h;obtain⟨a,c,rfl⟩:=i;refine⟨fun _=>rfl,by simp,fun m hm=>⟨[],fun f _=> ?_,by simp[VRL]⟩⟩;obtain rfl:m=0:=by omega
  simp only[Builtin.firstCells,Nat.zero_mul];rfl
 .rename_i A off k cc;split at h
  .rename_i l e C g q;split at h
   .rename_i cs t;simp only[zB,zU]at h;obtain⟨rfl,rfl⟩:=h;obtain⟨b,d,c,hr,rfl⟩:=i;obtain⟨o,F⟩:=dV _ _ _ _ t;refine⟨fun _=>rfl, ?_,fun m hm=> ?_⟩
    .rw[o,qA,qK];omega
    .have p:m*sz<=k*sz:=yN _ hm;have j:=kW l off (m*sz) (by omega);have u:(l.drop off).take (m*sz)=cs.take (m*sz):=by rw[o,List.take_take,Nat.min_eq_left p]
     rw[u]at j;obtain⟨vs',y,z⟩:=hL.loadsW q hr (P:=P) j;exact⟨vs',y,z⟩
   .simp at h
  .simp at h
 .rename_i k b;simp only[zF,zY]at h;split at h
  .rename_i j;subst j;simp only[zB,zU]at h;obtain⟨rfl,rfl⟩:=h;obtain⟨s,rfl,rfl,rfl⟩:=i;have hb:=J5 (R:=R) s.data.toList;rw[size_data]at hb;refine⟨fun _=>rfl, ?_,fun m hm=> ?_⟩
   .have:=zRb _ _ hb;simp[size_data]at this;omega
   .refine⟨((s.extract 0 m).data.map fun b=>Value.int .u8 (b.toNat:Int)).toList,fun f _=>rfl, ?_⟩;have e:((s.extract 0 m).data.map fun b=>Value.int .u8 (b.toNat:Int)).toList=(s.data.toList.map (fun b=>Value.int .u8 (b.toNat:Int))).take m:=by
     rw[Array.toList_map,Lib.extract_data];simp[List.map_take]
    rw[e,Nat.mul_one];exact hb.take m
  .simp at h
 .simp at h
def zNh (P:Program)(s:Sem Value)(R:Ren)(H:AH)(w:World)(v:AV)(H':AH):Prop:=
 ∃(a:Ren) (f:World) (z:Value),s.run P w= .ok z f/\VR a v z/\Rel a H' f/\Ext R H w a H' f
theorem zB6 {sz:Nat}{z:Option Value}(h:KR sz z=true): ∃a,z=some a/\a.cells.size=sz/\0<sz/\ ∃f,ofV a=some f:=by
 unfold KR at h;split at h
 .rename_i a;split at h
  .rename_i f i;simp only[zE,qD,zY,jX]at h;have:=zRb _ _ (uA (UN (fun _ _ _ _=>False) a f i));rw[yU]at this;exact⟨a,rfl,by omega,h.1,f,i⟩
  .simp at h
 .simp at h
theorem u9 (z:Array Value)(n:Nat):(Builtin.zeroCells z n).size=n*z.size:=by simp[Builtin.zeroCells]
theorem zNi (z:Array Value): ∀n,(Builtin.zeroCells z n).toList=(List.replicate n z.toList).flatten:=by
 intro n;rcases Nat.eq_zero_or_pos z.size with a | h
 .have:z= #[]:=Array.eq_empty_of_size_eq_zero a;subst this;simp[Builtin.zeroCells]
 induction n with
 | zero=>simp[Builtin.zeroCells]
 | succ n ih=>
  rw[List.replicate_succ',List.flatten_append,<-ih];simp only[Builtin.zeroCells,Array.toList_map,Array.toList_range,List.flatten_cons,List.flatten_nil,qX];rw[jI,List.range_add,List.map_append];congr 1;apply List.ext_getElem
  .simp
  .intro i j f;have hi:i<z.size:=by simpa using f
   simp only[List.getElem_map,List.getElem_range,Array.getElem_toList];rw[Nat.mul_comm n z.size,Nat.mul_add_mod,Nat.mod_eq_of_lt hi,getElem!_pos z i hi]
theorem dQ {R:Ren}{a:AV}{f:Value}(h:VR R a f)(n:Nat):VRL R (rep n (jT a)) (Builtin.zeroCells f.cells n).toList:=by
 have i:=uA h;rw[zNi,zQ4]
 induction n with
 | zero=>simp[VRL]
 | succ n ih=>simp only[List.replicate_succ,List.flatten_cons];exact i.append ih
theorem grow_ok {t u ty e:TypeId}{a:TypeInfo}{j:Value}{n sLen sCap:Nat}{base:Option Addr}{xv:Value}{oldA o:List AV}{oldV newV:List Value}{v:AV}{H':AH}
  (hL:Rel R H w) (y:AppSrc P w t u ty e a j xv n newV.toArray) (K:j.cells.size=a.size) (L: ∃S,ofV j=some S)
  (T: ∀p,p.heap=w.heap->(Builtin.firstCells a.size sLen (.slice base sLen sCap)).run P p= .ok oldV.toArray p) (N:sCap<sLen+n) (m:roomy (sLen+n) a.bytes=true)
  (s:VRL R oldA oldV) (x:VRL R o newV) (z:(oldA++o).length=(sLen+n)*a.size) (f:aW (sLen+n) e a.size (oldA++o) H=some (v,H')):
  zNh P (Builtin.append_ #[t,u] ty #[.slice base sLen sCap,xv]) R H w v H':=by
 simp only[roomy,zE,qV,qD]at m;obtain⟨cap,V,O,C⟩:=y.grows base sLen sCap _ T N m.1 m.2;unfold aW at f;split at f
 .rename_i A W F;obtain⟨Y,q,rfl,rfl,_⟩:=fW F
  .simp only[kD,zB,zU]at f;obtain⟨rfl,rfl⟩:=f;have J:=zRb _ _ (s.append x);have U:Rel R H w.drew:=hL.drew _;refine⟨R.add H.next w.heap.size 0 cap,_,_,C, ?_, ?_, ?_⟩
   .exact⟨w.heap.size,0,cap,R.add_self _ _ _ _,by rw[xK _ (by omega)];simp⟩
   .refine U.new q ?_;refine⟨_,(0,0),[],oldV++newV,(Builtin.zeroCells j.cells (cap - (sLen+n))).toList,rfl,by simp,rfl,VRL.mono (R.sub_add _ _ _ _) _ _ (s.append x),fun h=>by simp at h,fun _=>⟨?_,O⟩,fun _ i _=>by simp,_,dQ (UN _ _ _ L.choose_spec) _⟩;rw[J,z,yU,u9,K,<-j7];congr 1;omega
   .exact(Ext.drew R H w _).trans (Ext.add (w:=w.drew) q)
 .simp at f
include hL in
theorem zJY {t u ty e:TypeId}{f:TypeInfo}{zv:Value}{n:Nat}{new:List AV}{newV:List Value}{s v:AV}{sv xv:Value}{H':AH}(o:AppSrc P w t u ty e f zv xv n newV.toArray)(V:zv.cells.size=f.size)(W: ∃za,ofV zv=some za)(b1:0<f.size)
  (p:VRL R new newV) (J:new.length=n*f.size) (a9:jP new=true) (h:app1 e f.size f.bytes n new s H=some (v,H')) (N:VR R s sv):
  zNh P (Builtin.append_ #[t,u] ty #[sv,xv]) R H w v H':=by
 have b5:=zRb _ _ p;unfold app1 at h;split at h
 .simp only[VR]at N;subst N;simp only[zF,zY]at h;split at h
  .rename_i K;subst K;simp only[zB,zU]at h;obtain⟨rfl,rfl⟩:=h;exact⟨R,w, .slice none 0 0,o.fits none 0 0 w (zQ _) rfl,rfl,hL,zRh R H w⟩
  .rename_i K;unfold vO at h;simp only[zF]at h;split at h
   .rename_i C;have:=grow_ok (P:=P) (ty:=ty) (sLen:=0) (sCap:=0) (base:=none) (xv:=xv) (oldA:=[]) (oldV:=[]) (n:=n) hL o V W (fun m _=>rfl) (by omega) (by rw[yW];exact C) rfl p (by simp[J]) (by rw[yW];exact h);exact this
   .simp at h
 .obtain⟨a,c,rfl⟩:=N;simp only[zF,zY]at h;split at h
  .rename_i K;subst K;simp only[zB,zU]at h;obtain⟨rfl,rfl⟩:=h;have b6:newV=[]:=by
    have:newV.length=0:=by rw[b5,J];simp
    exact zV this
   subst b6;exact⟨R,w, .slice (some a) 0 c,o.fits (some a) 0 c w (by omega) rfl,⟨a,c,rfl⟩,hL,zRh R H w⟩
  .simp at h
 .rename_i A off len cc;obtain⟨b,d,c,hr,rfl⟩:=N;split at h
  .rename_i l e' b8 g y;unfold zGu at h;simp only[zF]at h;split at h
   .rename_i S;rw[qV]at S;unfold zCN at h;split at h
    .rename_i l' U;split at h
     .rename_i H1 j;simp only[kD,zB,zU]at h;obtain⟨rfl,rfl⟩:=h;unfold fV at j;split at j
      .rename_i t' b9;simp only[zB]at j;subst j;obtain⟨U,c0⟩:=zHj (by rw[zF];exact U);obtain⟨m,h1,h2,h3⟩:=hL.stores y hr (P:=P) U c0 p a9 b9;have c3:=zBx hL y hr b1 (off:=off) (cc:=cc);refine⟨R,m,_,o.fits (some ⟨b,d+off,none⟩) _ _ _ (by omega) ?_,⟨b,d,c,hr,rfl⟩,h2,h3⟩;simp only[xA,Nat.add_assoc];exact h1
      .simp at j
     .simp at h
    .simp at h
   .rename_i S;rw[qV]at S;split at h
    .rename_i T;rw[zY]at T;unfold vO at h;simp only[zF]at h;split at h
     .rename_i C;split at h
      .rename_i old hold;obtain⟨oldV,Y,Z⟩:=hL.loadsW y hr (P:=P) hold;obtain⟨O,e2⟩:=dV _ _ _ _ hold;have c7:kL l g b8 off cc f.size=cc / 2:=by
        unfold kL;rw[zF,if_pos (by rw[zY];exact T)]
       have a0:old.length=len*f.size:=by rw[O,qA,qK];omega
       exact grow_ok (P:=P) (ty:=ty) hL o V W (fun m hw=>Y m hw) (by rw[aM c T];omega) C Z p (by rw[zT,a0,J,j7]) h
      .simp at h
     .simp at h
    .rename_i F;rw[zY]at F;split at h
     .rename_i b0;simp only[zE,zY]at b0;obtain⟨⟨⟨⟨hg,b7⟩,rfl⟩,rfl⟩,c4⟩:=b0;subst hg;rw[jX]at b7;split at h
      .rename_i H1 j;unfold fV at j;split at j
       .rename_i t1 L;simp only[zB]at j;subst j;unfold vO at h;simp only[zF]at h;split at h
        .rename_i C;split at h
         .rename_i old hold;obtain⟨O,e2⟩:=dV _ _ _ _ hold;have a0:old.length=len*f.size:=by rw[O,qA,qK];omega
          by_cases b2:len+n<=uS cc c
          ·
           rw[xK c F]at b2;unfold aW at h;split at h
           .rename_i A2 H2 b4;obtain⟨t2,b3,rfl,rfl,_⟩:=fW b4
            .simp only[kD,zB,zU]at h;obtain⟨rfl,rfl⟩:=h;obtain⟨arr,fz,pre,l',q,a1,a2,a3,a4,a5,a6,a7,c8,a8⟩:=hL.cellsAt y hr;have c9:=zRb _ _ a4;have d0:=(a6 rfl).1;have d1:arr.size=d+l'.length+q.length:=by
              have:=congrArg List.length a2;simp at this;omega
             have c5:(cc / 2+len+n)*f.size<=c*f.size:=yN _ (by omega);have c6:(cc / 2+len+n)*f.size=cc / 2*f.size+len*f.size+n*f.size:=by rw[j7,j7]
             have d2:n*f.size<=q.length:=by omega
             have c1:=aY (P:=P) e fz b (d+off+len*f.size) newV 0 w arr a1 (by omega) (bX p a9) (a7 b1);have c2:=hL.move (d':=d+off) (c':=c - cc / 2) (x:= .cells (wS arr (d+off+len*f.size+0) newV) e fz) hr (Rel.live y) L b3 ?_
             .refine⟨_,_,_,o.fits (some ⟨b,d+off,none⟩) _ _ _ (by rw[xK c F];exact b2) ?_, ?_,c2,Ext.move hr L b3⟩
              .simp only[xA];exact c1
              .exact⟨b,d+off,c - cc / 2,R.add_self _ _ _ _,by rw[xK c F,xK _ (by omega)];simp⟩
             .refine⟨_,fz,pre++l'.take off,l'.drop off++newV,q.drop (n*f.size),rfl, ?_, ?_, ?_,fun h=>by simp at h,fun _=>⟨?_,by have:=(a6 rfl).2;omega⟩,fun hz i hi=> ?_,_,VRL.mono (R.sub_add _ _ _ _) _ _ (a8.drop (n*f.size))⟩
              .rw[wZ _ _ _ (by omega),a2];have f1:(pre++(l'++q)).take (d+off+len*f.size+0)=pre++l':=by
                rw[List.take_append,zX (by omega),List.take_append,zX (by omega)];rw[show d+off+len*f.size+0 - pre.length - l'.length=0 from by omega];simp
               have f2:(pre++(l'++q)).drop (d+off+len*f.size+0+newV.length)=q.drop (n*f.size):=by
                rw[List.drop_append,qT (by omega),List.drop_append,qT (by omega)];rw[show d+off+len*f.size+0+newV.length - pre.length - l'.length=n*f.size from by omega];simp
               rw[f1,f2];simp only[qI];rw[<-qI (List.take off l'),qM]
              .simp;omega
              .have:old=l.drop off:=by rw[O,zX (by rw[qK];omega)]
               rw[this];exact VRL.mono (R.sub_add _ _ _ _) _ _ ((a4.drop off).append p)
              .simp only[zT,qK,Nat.sub_mul];omega
              .rw[u6]at hi;exact a7 hz i hi
           .simp at h
          .obtain⟨oldV,Y,Z⟩:=hL.loadsW y hr (P:=P) hold;have hK:=hL.kill L;obtain⟨R',m,z,g1,g2,g3,g4⟩:=grow_ok (P:=P) (ty:=ty) (sLen:=len) (sCap:=uS cc c) (base:=some ⟨b,d+off,none⟩) (n:=n) (xv:=xv) hK o V W (fun m hw=>Y m hw) (by omega) C Z p (by rw[zT,a0,J,j7]) h;exact⟨R',m,z,g1,g2,g3,(Ext.kill hr L).trans g4⟩
         .simp at h
        .simp at h
       .simp at j
      .simp at h
     .simp at h
  .simp at h
 .simp at h
include hX hL in
theorem zGq {t u ty:TypeId}{f:TypeDesc}{s x v:AV}{i xv:Value}{H':AH}(h:hJ X t s x H=some (v,H'))(N:X.und u=some f)(y: ∀k,f≠ .int k)(O:VR R s i)(S:VR R x xv):
  zNh P (Builtin.append_ #[t,u] ty #[i,xv]) R H w v H':=by
 unfold hJ at h;split at h
 .rename_i e hd;split at h
  .rename_i U z;have hi:=hX.ty _ _ z;simp only[zF]at h;split at h
   .rename_i T;obtain⟨V,C,F,o,J⟩:=zB6 T;split at h
    .rename_i n new p;obtain⟨q,K,j⟩:=zEe (P:=P) hL p S;split at h
     .rename_i m;obtain⟨newV,L,a⟩:=j n (zQ _);rw[zX (by omega)]at a;exact zJY hL (AppSrc.plain (hX.run_und hd w) (hX.run_und N w) y hi C (q w) L) F J o a K m h O
     .simp at h
    .simp at h
   .simp at h
  .simp at h
 .simp at h
theorem aD: ∀(l m:List AV),jP l=true->jP m=true->jP (l++m)=true
 | [],m,_,h=>h
 | x::l,m,h,k=>by simp only[jP,zE]at h;simp only[qF,jP,h.1,aD l m h.2 k,qN]
theorem JT (l:List AV)(h:jP l=true): ∀n,jP (rep n l)=true
 | 0=>rfl
 | n+1=>by simp only[rep];exact aD _ _ h (JT l h n)
include hX hL in
theorem zMi {t u ty:TypeId}{k:IntKind}{s x v:AV}{q xv:Value}{H':AH}(h:zKb X t s x H=some (v,H'))(N:X.und u=some (.int k))(O:VR R s q)(y:VR R x xv):
  zNh P (Builtin.append_ #[t,u] ty #[q,xv]) R H w v H':=by
 unfold zKb at h;split at h
 .rename_i e hd;split at h
  .rename_i S C;have hi:=hX.ty _ _ C;split at h
   .rename_i z T;simp only[zF]at h;split at h
    .rename_i F;obtain⟨U,m,o,j,J⟩:=zB6 F;split at h
     .rename_i n;split at h
      .rename_i a;simp only[zE,qV,qD]at a;simp only[VR]at y;have K:xv= .int .i64 (n:Int):=y;subst K;obtain⟨W,Y,f,i,V⟩:=hX.zero R T;rw[hi]at f;injection f with f;subst f
       rw[m]at i;injection i with i;subst i
       have p:=dQ V n;have hl:=zRb _ _ p;have L:(rep n (jT z)).length=n*S.size:=by
        rw[<-hl,yU,u9,o]
       exact zJY hL (newV:=(Builtin.zeroCells U.cells n).toList) (by rw[Array.toArray_toList];exact AppSrc.zeros (hX.run_und hd w) (hX.run_und N w) hi m j a.1.2 a.1.1) o J j p L (JT _ a.2 n) h O
      .simp at h
     .simp at h
    .simp at h
   .simp at h
  .simp at h
 .simp at h
end
def zMq (P:Program)(s:Sem Next)(R:Ren)(H:AH)(w:World)(v:AV)(H':AH):Prop:=
 ∃(f:Ren) (a:World) (z:Value),(s.run P w= .ok (.value z) a\/(s.run P w= .ok .skip a/\z=undef))/\VR f v z/\Rel f H' a/\Ext R H w f H' a
theorem zNh.next {P:Program}{s:Sem Value}{R:Ren}{H H':AH}{w:World}{v:AV}(h:zNh P s R H w v H'):zMq P (do pure (Next.value (← s))) R H w v H':=by
 obtain⟨a,f,z,i,j⟩:=h;exact⟨a,f,z, .inl (xG i),j⟩
section
variable {P:Program}{X:Cx}(hX:Ok P X){R:Ren}{H:AH}{w:World}(hL:Rel R H w)
include hX hL
theorem zJW {t:TypeId}{p y:AV}{i j:Value}{H':AH}(h:zCK X t p y H=some H')(hp:VR R p i)(m:VR R y j):
  ∃a,(Instr.storeAt t i j).run P w= .ok () a/\Rel R H' a/\Ext R H w R H' a:=by
 unfold zCK at h;split at h
 .rename_i A off;split at h
  .rename_i l e sz g u;split at h
   .rename_i n v;simp only[zF]at h;split at h
    .rename_i f;simp only[zE,zY,jX,qD]at f;split at h
     .rename_i l' o;unfold fV at h;split at h
      .rename_i F q;simp only[zB]at h;subst h;obtain⟨b,d,c,hr,rfl⟩:=hp;have s:=zRb _ _ (uA m);rw[yU]at s;obtain⟨a,x,z,C⟩:=hL.stores u hr (P:=P) o f.2 (uA m) f.1.2 q;refine⟨a, ?_,z,C⟩;simp only[Instr.storeAt,Instr.sureAddr,storeVar,zH,zO,Result.andThen,hX.run_size v];rw[if_neg (by have:=f.1.1;simp;omega)];exact x
      .simp at h
     .simp at h
    .simp at h
   .simp at h
  .simp at h
 .simp at h
theorem zMd {t ty:TypeId}{ts:Array TypeId}{s x v:AV}{z xv:Value}{H':AH}(o:ts[0]? =some t)(h:zGp X t s x H=some (v,H'))(u:VR R s z)(i:VR R x xv):zNh P (Builtin.copy_ ts ty #[z,xv]) R H w v H':=by
 unfold zGp at h;split at h
 .rename_i e hd;have m:=hX.run_und hd w;split at h
  .rename_i sz q;have j:=hX.run_size q w;split at h
   .simp only[VR]at u;subst u;split at h
    .simp only[zB,zU]at h;obtain⟨rfl,rfl⟩:=h;simp only[VR]at i;subst i;refine⟨R,w,goInt 0, ?_,rfl,hL,zRh R H w⟩;simp[Builtin.copy_,o,zH,m,j,Builtin.lenOf,Builtin.firstCells,zO]
    .simp only[zB,zU]at h;obtain⟨rfl,rfl⟩:=h;obtain⟨b,d,c,hr,rfl⟩:=i;refine⟨R,w,goInt 0, ?_,rfl,hL,zRh R H w⟩;have: ∀a:Addr,(loadCells a 0).run P w= .ok #[] w:=fun a=>rfl
     simp[Builtin.copy_,o,zH,m,j,Builtin.lenOf,Builtin.firstCells,zO,this]
    .simp only[zB,zU]at h;obtain⟨rfl,rfl⟩:=h;obtain⟨s',rfl,C,F⟩:=i;refine⟨R,w,goInt 0, ?_,rfl,hL,zRh R H w⟩;simp[Builtin.copy_,o,zH,m,j,Builtin.lenOf,Builtin.firstCells,zO]
    .simp at h
   .rename_i A off len cc;split at h
    .rename_i n new N;obtain⟨O,a1,J⟩:=zEe (P:=P) hL N i;simp only at h;split at h
     .rename_i a0 L;obtain⟨V,e2⟩:=zA9 _ _ _ L;simp only[zF]at h;split at h
      .rename_i K;split at h
       .rename_i l e' a2 g W;split at h
        .rename_i l' p;split at h
         .rename_i H1 f;simp only[kD,zB,zU]at h;obtain⟨rfl,rfl⟩:=h;unfold fV at f;split at f
          .rename_i t' T;simp only[zB]at f;subst f;obtain⟨b,d,c,hr,rfl⟩:=u;obtain⟨vs,U,y⟩:=J (Nat.min n len) (Nat.min_le_left _ _);rw[<-V]at y;obtain⟨p,q⟩:=zHj (by rw[zF];exact p);obtain⟨Y,C,F,Z⟩:=hL.stores W hr (P:=P) p q y K T;refine⟨R,Y,goInt (Nat.min n len:Nat), ?_,rfl,F,Z⟩;have S:=U w rfl;simp only[Builtin.copy_,o,zH,m,j,Result.andThen,List.getElem?_toArray,List.getElem?_cons_zero,yV,O,S,C,zO]
          .simp at f
         .simp at h
        .simp at h
       .simp at h
      .simp at h
     .simp at h
    .simp at h
   .simp at h
  .simp at h
 .simp at h
theorem simE {env:Env}{n:Nat}{fr:Frame}(f:EnvR R env n fr.tmps){o:Oper}{v:AV}{H':AH}(h:aE X env H o.op=some (v,H')):zMq P (execOp fr.eval o) R H w v H':=by
 obtain⟨dst,op,ty,pos,after,guard⟩:=o;simp only at h;unfold aE at h;split at h
 .rename_i t a x;unfold BL at h;split at h
  .rename_i p hp;split at h
   .rename_i y hy;split at h
    .rename_i H1 a0;simp only[zB,zU]at h;obtain⟨rfl,rfl⟩:=h;obtain⟨i,j,m,L⟩:=zJW hX hL a0 (kJ f _ _ hp) (kJ f _ _ hy);refine⟨R,i,undef, .inr ⟨?_,rfl⟩,⟨[],rfl,rfl⟩,m,L⟩;simp only[execOp,zH,j,Result.andThen];rfl
    .simp at h
   .simp at h
  .simp at h
 .unfold c3 at h;split at h
  .rename_i a q;split at h
   .rename_i b hb;split at h
    .rename_i c U;unfold aup at h;split at h
     .rename_i kt et S;split at h
      .rename_i ks W;obtain⟨rfl,i,j,m,L⟩:=zPP hX hL S W h (kJ f _ _ q) (kJ f _ _ hb) (kJ f _ _ U);refine⟨R,i,undef, .inr ⟨?_,rfl⟩,⟨[],rfl,rfl⟩,m,L⟩;simp only[execOp,zH,j,Result.andThen];rfl
      .simp at h
     .simp at h
    .simp at h
   .simp at h
  .simp at h
 .rename_i c;split at h
  .rename_i b U;obtain⟨callee,args,N⟩:=c;simp only at U h;subst U;unfold uR at h;split at h
   .split at h
    .rename_i s x J;split at h
     .rename_i t u F;unfold cV at h;split at h
      .rename_i a q;split at h
       .rename_i b hb;have C:args.map fr.eval= #[fr.eval s,fr.eval x]:=by apply Array.toList_inj.1;simp[J]
        have Z:N= #[t,u]:=by apply Array.toList_inj.1;simp[F]
        have Y: ∀V,X.und u=some V->(∀k,V≠ .int k)->hJ X t a b H=some (v,H')->zMq P (execOp fr.eval { dst,op:= .call { callee:= .builtin .append,args,argTypes:=N},type:=ty,pos,after,guard}) R H w v H':=by
         intro V K a1 a2;obtain⟨T,i,z,j,m⟩:=zGq (P:=P) (ty:=ty) hX hL a2 K a1 (kJ f _ _ q) (kJ f _ _ hb);refine⟨T,i,z, .inl ?_,m⟩;simp only[execOp,resolve,invoke,builtin,C,Z,zH,zO,Result.andThen,j]
        split at h
        .rename_i V K;exact Y _ K (by simp) h
        .rename_i K;exact Y _ K (by simp) h
        .rename_i k K;obtain⟨T,i,z,j,m⟩:=zMi (P:=P) (ty:=ty) hX hL h K (kJ f _ _ q) (kJ f _ _ hb);refine⟨T,i,z, .inl ?_,m⟩;simp only[execOp,resolve,invoke,builtin,C,Z,zH,zO,Result.andThen,j]
        .simp at h
       .simp at h
      .simp at h
     .simp at h
    .simp at h
   .split at h
    .rename_i s x J;split at h
     .rename_i t ts F;unfold zJq at h;split at h
      .rename_i a q;split at h
       .rename_i b hb;have C:args.map fr.eval= #[fr.eval s,fr.eval x]:=by apply Array.toList_inj.1;simp[J]
        have O:N[0]? =some t:=by rw[<-yS,F];rfl
        obtain⟨T,i,z,j,m⟩:=zMd (P:=P) (ty:=ty) hX hL O h (kJ f _ _ q) (kJ f _ _ hb);refine⟨T,i,z, .inl ?_,m⟩;simp only[execOp,resolve,invoke,builtin,C,zH,zO,Result.andThen,j]
       .simp at h
      .simp at h
     .simp at h
    .simp at h
   .split at h
    .rename_i s x J;split at h
     .rename_i t ts F;unfold c2 at h;split at h
      .rename_i a q;split at h
       .rename_i b hb;have C:args.map fr.eval= #[fr.eval s,fr.eval x]:=by apply Array.toList_inj.1;simp[J]
        have O:N[0]? =some t:=by rw[<-yS,F];rfl
        unfold adl at h;split at h
        .rename_i kt et S;split at h
         .rename_i ks W;obtain⟨rfl,i,j,m,L⟩:=zQJ (ty:=ty) hX hL O S W h (kJ f _ _ q) (kJ f _ _ hb);refine⟨R,i,_, .inl ?_,⟨[],rfl,rfl⟩,m,L⟩;simp only[execOp,resolve,invoke,builtin,C,zH,zO,Result.andThen,j]
         .simp at h
        .simp at h
       .simp at h
      .simp at h
     .simp at h
    .simp at h
   .split at h
    .rename_i s J;split at h
     .rename_i t ts F;unfold c1 at h;split at h
      .rename_i a q;have C:args.map fr.eval= #[fr.eval s]:=by apply Array.toList_inj.1;simp[J]
       have O:N[0]? =some t:=by rw[<-yS,F];rfl
       unfold acl at h;split at h
       .rename_i kt et S;obtain⟨rfl,i,j,m,L⟩:=zQP (ty:=ty) hX hL O S h (kJ f _ _ q);refine⟨R,i,_, .inl ?_,⟨[],rfl,rfl⟩,m,L⟩;simp only[execOp,resolve,invoke,builtin,C,zH,zO,Result.andThen,j]
       .simp at h
      .simp at h
     .simp at h
    .simp at h
   .simp at h
  .simp at h
 .simp at h
end
theorem zB0 (R:Ren):VR R jO undef:=by
 simp only[jO,VR];exact⟨[],rfl,rfl⟩
def Out (k:List Item):AExit->List Item->Prop
 | .normal,td=>td=k
 | .exit id,td=> ∃k',td= .code (.exit id)::k'/\exitTo id k'=exitTo id k
 | .ret,td=> ∃k',td= .code .ret::k'
def zKe (P:Program)(nt:Nat)(c:Code)(env:Env)(H:AH)(j:AExit)(env':Env)(H':AH):Prop:=
 ∀(R:Ren) (fr:Frame) (k:List Item) (cs:List Frame) (w:World),fr.mode= .run->fr.todo= .code c::k->EnvR R env nt fr.tmps->Rel R H w->
  ∃a f h i,Steps P (lone fr cs w) (lone { fr with tmps:=h,todo:=i} cs f)/\Out k j i/\EnvR a env' nt h/\Rel a H' f/\Ext R H w a H' f
def zPj (P:Program)(f:FuncId)(args:List AV)(H:AH)(v:AV)(H':AH):Prop:=
 (∃j,P.funcs[f]? =some j/\j.body.isSome=true)/\
 ∀(R:Ren) (az:List Value) (cs:List Frame) (w:World),VRL R args az->Rel R H w->
  ∃i a z h,Steps P (lone (Frame.enter P f ⟨az⟩ .normal) cs w) (lone h cs a)/\h.fn=f/\h.leaving P a (.returned z)/\VR i v z/\Rel i H' a/\Ext R H w i H' a
def zR2 (P:Program)(f:FuncId)(args:List AV)(H:AH)(v:AV)(H':AH):Prop:=
 ∀(R:Ren) (az:List Value) (w:World),VRL R args az->Rel R H w->
  ∃a h z,(callFunc f ⟨az⟩).run P w= .ok (.value z) h/\VR a v z/\Rel a H' h/\Ext R H w a H' h
def zKf (P:Program)(f:FuncId)(args:List AV)(H:AH)(v:AV)(H':AH):Prop:=H.next<=H'.next/\(zPj P f args H v H'\/zR2 P f args H v H')
def zCU (P:Program)(A:Nat)(args:List AV)(H:AH)(v:AV)(H':AH):Prop:=
 H.next<=H'.next/\ ∀(R:Ren) (az:List Value) (fr:Frame) (cs:List Frame) (w:World) (b d c:Nat),R A b d c->VRL R args az->Rel R H w->
  ∃L:Loop,w.heap[b]? =some (.loop L)/\az.length=L.params.size/\
   ∃f h z,Steps P (lone (Frame.round b L.fn ((L.params.zip az.toArray).foldl (fun i (t,a)=>i.setIfInBounds t a) L.tmps) L.assign L.body .normal) (fr::cs) w) (lone (fr.finish z) cs h)/\VR f v z/\Rel f H' h/\Ext R H w f H' h
structure Good (P:Program)(r:Fns):Prop where
 call: ∀f args H v H',r.call f args H=some (v,H')->zKf P f args H v H'
 yld: ∀A args H v H',r.yld A args H=some (v,H')->zCU P A args H v H'
theorem zCY {R:Ren}{env:Env}{n:Nat}{f:Array Value}{ops:Array Oper}{o:Oper}{b:Bool}(h:EnvR R env n f)(hb:ZH ops env o=some b):Region.wanted o (yielded ops f)=b:=by
 unfold ZH at hb;unfold Region.wanted;split at hb
 .rename_i i;simp only[zB]at hb;subst hb;simp[i]
 .rename_i j s i;simp only[i];unfold zGA at hb;simp only[yielded];rw[zDe,yS]at hb
  cases u:ops[j]? with
  | none=>rw[u]at hb;simp only[zB]at hb;subst hb;simp
  | some p=>
   rw[u]at hb;simp only[yI]at hb⊢
   cases t:p.dst with
   | none=>rw[t]at hb;simp only[zB]at hb;subst hb;simp
   | some d=>
    rw[t]at hb;simp only at hb;split at hb
    .rename_i x m;simp only[zB]at hb;subst hb;have z:d<n:=by
      rcases Nat.lt_or_ge d n with q | q
      .exact q
      .rw[h.out d q]at m;simp at m
     have y:d<f.size:=by rw[h.size];exact z
     simp only[yI,Array.getElem?_eq_getElem y];have a:=h.get d x m;have C:f.getD d undef=f[d]:=by
      rw[y5,Array.getElem?_eq_getElem y];rfl
     rw[C]at a;generalize f[d]=v at a
     cases x<;>first
      | (simp only[VR]at a;subst a;simp[isW];done)
      | (simp only[VR]at a;subst a;cases s<;>simp[isW,BEq.beq];done)
      | (obtain⟨_,rfl,_⟩:=a;simp[isW];done)
      | (obtain⟨_,_,rfl⟩:=a;simp[isW];done)
      | (obtain⟨_,_,_,_,rfl⟩:=a;simp[isW];done)
      | (obtain⟨_,_,rfl,_⟩:=a;simp[isW];done)
      | (simp only[VR]at a;subst a;cases v<;>first | (simp[isW];done) | (rename_i b;cases s<;>cases b<;>simp[isW,BEq.beq];done))
      | exact absurd a (by simp[VR])
    .simp at hb
theorem wA_ok {P:Program}{R:Ren}{H H':AH}{w:World}(hL:Rel R H w){s:Sem Value}{a:AObj}{f:Nat->AV}{v:AV}(hm:zA4 R P s a f w)(h:wA H (some (a,f))=some (v,H')):zNh P s R H w v H':=by
 unfold wA at h;simp only at h;split at h
 .rename_i A t j;obtain⟨u,i,rfl,rfl,_⟩:=fW j
  .simp only[zB,zU]at h;obtain⟨rfl,rfl⟩:=h;obtain⟨x,c,k,z,m,o⟩:=hm;obtain⟨p,q⟩:=o H.next
   refine⟨_,_,z,m,q,(hL.drew k).new i p, ?_⟩;exact(Ext.drew R H w k).trans (Ext.add (w:= { w with drawn:=k}) i)
 .simp at h
section
variable {P:Program}{X:Cx}(hX:Ok P X){r:Fns}(hr:Good P r)
def zR1 (P:Program)(fr:Frame)(ops:Array Oper)(rest:List Nat)(k:List Item)(cs:List Frame)(o:Oper)(R:Ren)(H:AH)(w:World)(v:AV)(H':AH):Prop:=
 ∃a f z,Steps P (lone fr cs w) (lone { fr with tmps:=zCV fr.tmps o.dst z,todo:= .inRegion ops rest::k} cs f)/\VR a v z/\Rel a H' f/\Ext R H w a H' f
theorem uO {fr:Frame}{k:List Item}{cs:List Frame}{ops:Array Oper}{i:Nat}{rest:List Nat}{o:Oper}{R:Ren}{H H':AH}{w:World}{v:AV}
  (hm:fr.mode= .run) (f:fr.todo= .inRegion ops (i::rest)::k) (j:ops[i]? =some o) (m:Region.wanted o (yielded ops fr.tmps)=true) (hd: ∀c,o.op≠ .defer c) (h:zMq P (execOp fr.eval o) R H w v H'):zR1 P fr ops rest k cs o R H w v H':=by
 obtain⟨p,q,z,a,s⟩:=h;refine⟨p,q,z, ?_,s⟩;rw[<-kE f j];rcases a with a | ⟨a,rfl⟩
 .exact .one (uP hm f j m hd a)
 .exact .one (zFH hm f j m hd a)
include hX hr in
theorem zEt {fr:Frame}{k:List Item}{cs:List Frame}{ops:Array Oper}{i:Nat}{rest:List Nat}{o:Oper}{R:Ren}{H H':AH}{w:World}{v:AV}{env:Env}{nt:Nat}
  (hm:fr.mode= .run) (j:fr.todo= .inRegion ops (i::rest)::k) (m:ops[i]? =some o) (u:Region.wanted o (yielded ops fr.tmps)=true) (p:EnvR R env nt fr.tmps) (hL:Rel R H w)
  (h:opF X r env H o.op=some (v,H')):zR1 P fr ops rest k cs o R H w v H':=by
 have hd: ∀c,o.op≠ .defer c:=by
  intro c q;rw[q]at h;simp[opF,cls,aE]at h
 unfold opF at h;split at h
 .unfold wV at h;split at h
  .rename_i x hx;simp only[zB,zU]at h;obtain⟨rfl,rfl⟩:=h;obtain⟨z,T,U⟩:=simP hX hL.fn (w:=w) p hx;exact uO hm j m u hd ⟨R,w,z, .inl T,U,hL,zRh R H w⟩
  .simp at h
 .unfold wV at h;split at h
  .rename_i x hx;simp only[zB,zU]at h;obtain⟨rfl,rfl⟩:=h;obtain⟨z,T,U⟩:=simL hX hL p hx;exact uO hm j m u hd ⟨R,w,z, .inl T,U,hL,zRh R H w⟩
  .simp at h
 .have h':=h;unfold wA at h';split at h'
  .rename_i ob mk hA;obtain⟨s,hs,b4⟩:=simA hX (w:=w) p hA;rw[hA]at h;have:=(wA_ok hL b4 h).next
   rw[<-hs]at this;exact uO hm j m u hd this
  .simp at h'
 .exact uO hm j m u hd (simE hX hL p h)
 .unfold opF.callO at h;split at h
  .rename_i c F;split at h
   .rename_i f q;unfold opF.callV at h;split at h
    .rename_i g first cap hf
     split at h
     .rename_i az a0;obtain⟨y,C,Y,T,U⟩:=kJ p _ _ hf
      have h3:=WT p _ _ a0;have a2:VRL R (first++az++cap) ((y++c.args.toList.map fr.eval)++C):=(T.append h3).append U
      rcases(hr.call _ _ _ _ _ h).2 with⟨⟨fn,a6,b7⟩,a9⟩ | b1
      rotate_left
      .obtain⟨V,J,z,b0,W,K,N⟩:=b1 R _ w a2 hL;have O:(execOp fr.eval o).run P w= .ok (.value z) J:=by
        obtain⟨dst,op,ty,a7,a3,a4⟩:=o;obtain⟨a1,args,a5⟩:=c;simp only at F q;subst F q;have S:(⟨y⟩:Array Value)++args.map fr.eval++⟨C⟩=⟨(y++args.toList.map fr.eval)++C⟩:=by
         apply Array.toList_inj.1;simp
        simp only[execOp,resolve,Y,Deferred.ofValue,zH,zO,Result.andThen,invoke,S];simpa using b0
       refine⟨V,J,z, ?_,W,K,N⟩;rw[<-kE j m];exact .one (uP hm j m u hd O)
      obtain⟨V,J,z,b9,Z,b8,a8,W,K,N⟩:=a9 R _ (fr::cs) w a2 hL;have O:(execOp fr.eval o).run P w= .ok (.enter g ⟨(y++c.args.toList.map fr.eval)++C⟩) w:=by
       obtain⟨dst,op,ty,a7,a3,a4⟩:=o;obtain⟨a1,args,a5⟩:=c;simp only at F q;subst F q;have b5:=hX.nm g fn a6;have hb:fn.body.isNone=false:=by cases hh:fn.body<;>simp_all
       have S:(⟨y⟩:Array Value)++args.map fr.eval++⟨C⟩=⟨(y++args.toList.map fr.eval)++C⟩:=by
        apply Array.toList_inj.1;simp
       simp only[execOp,resolve,Y,Deferred.ofValue,zH,zO,Result.andThen,invoke,callFunc,program,Sem.run,a6,b5,zL,qC,hb,S]
      refine⟨V,J,z, ?_,W,K,N⟩;rw[<-kE j m];exact(Steps.one (zKF hm j m u hd O)).trans (Z.trans (.one (step_leave_returned a8)))
     .simp at h
    .rename_i A hf;split at h
     .rename_i az a0;obtain⟨_,hy⟩:=hr.yld _ _ _ _ _ h;obtain⟨b,d,c0,b6,Y⟩:=kJ p _ _ hf;have h3:=WT p _ _ a0;obtain⟨L,hb,b2,V,J,z,Z,W,K,N⟩:=hy R _ fr cs w b d c0 b6 h3 hL;have O:(execOp fr.eval o).run P w= .ok (.round b L.fn ((L.params.zip (c.args.toList.map fr.eval).toArray).foldl (fun b3 (t,a)=>b3.setIfInBounds t a) L.tmps) L.assign L.body) w:=by
       obtain⟨dst,op,ty,a7,a3,a4⟩:=o;obtain⟨a1,args,a5⟩:=c;simp only at F q;subst F q;have S:(args.toList.map fr.eval).toArray=args.map fr.eval:=by apply Array.toList_inj.1;simp
       have:=run_yield (P:=P) (args:=args.map fr.eval) hb (by simpa using b2);simp only[execOp,resolve,Y,Deferred.ofValue,zH,zO,Result.andThen,invoke,S];simpa using this
      refine⟨V,J,z, ?_,W,K,N⟩;rw[<-kE j m];exact(Steps.one (zKC hm j m u hd O)).trans Z
     .simp at h
    .simp at h
   .simp at h
  .simp at h
end
section
variable {X:Cx}{env env':Env}
theorem aJ: ∀(xs:List Operand),(∀x∈xs,opd env x=opd env' x)->zCW env xs=zCW env' xs
 | [],_=>rfl
 | x::xs,h=>by
  simp only[zCW];rw[h x (zK ..),aJ xs (fun y a=>h y (zC _ a))]
theorem ZN: ∀(a:List (Nat×Operand)),(∀x∈a.map (·.2),opd env x=opd env' x)->uJ env a=uJ env' a
 | [],_=>rfl
 | (i,x)::a,h=>by
  simp only[uJ];rw[h x (by simp),ZN a (fun y f=>h y (by simp at f⊢;exact .inr f))]
theorem WS (x:Option Operand)(h: ∀y∈x.toArray.toList,opd env y=opd env' y):dI env x=dI env' x:=by
 cases x with
 | none=>rfl
 | some x=>simp only[dI];rw[h x (by simp)]
theorem zFv (o:Op)(h: ∀x∈o.operands.toList,opd env x=opd env' x):aP X env o=aP X env' o:=by
 cases o<;>simp only[aP]<;>simp only[Op.operands]at h
 case move x=>exact h x (by simp)
 case assign x=>exact h x (by simp)
 case pick c a b=>simp only[zFS];rw[h c (by simp),h a (by simp),h b (by simp)]
 case build t ps=>simp only[JD];rw[ZN ps.toList (fun x j=>h x (by simpa using j))]
 case nilCheck x=>rw[h x (by simp)]
 case binOp op t x y t'=>rw[h x (by simp),h y (by simp)]
 case unOp op t x=>rw[h x (by simp)]
 case convert s d x=>rw[h x (by simp)]
 case makeFunc fn first cap=>
  cases fn<;>simp only[aP]
  simp only[zFT];rw[aJ first.toList (fun x j=>h x (by simp;exact .inl (by simpa using j))),aJ cap.toList (fun x j=>h x (by simp;exact .inr (by simpa using j)))]
 case fieldAddr s x f=>rw[h x (by simp)]
 case field s x f=>rw[h x (by simp)]
 case indexAddr t x i=>rw[h x (by simp),h i (by simp)]
 case index t x i=>rw[h x (by simp),h i (by simp)]
 case sliceToArrayPointer t x=>rw[h x (by simp)]
 case extract x i=>rw[h x (by simp)]
 case call c=>
  have m: ∀x∈c.args.toList,opd env x=opd env' x:=fun x j=>h x (by simp[Call.operands];right;simpa using j)
  split<;>try rfl
  .split<;>try rfl
   rename_i x j;split<;>try rfl
   rw[m x (by rw[j];simp)]
  .split<;>try rfl
   rename_i x y j;rw[m x (by rw[j];simp),m y (by rw[j];simp)]
  .split<;>try rfl
   rename_i x y j;rw[m x (by rw[j];simp),m y (by rw[j];simp)]
theorem zFw {H:AH}(o:Op)(h: ∀x∈o.operands.toList,opd env x=opd env' x):aL X env H o=aL X env' H o:=by
 cases o<;>simp only[aL]<;>simp only[Op.operands]at h
 case load t a=>rw[h a (by simp)]
 case lookup t x k ok=>rw[h x (by simp),h k (by simp)]
 case slice t x lo hi mx=>
  simp only[Z6];rw[h x (by simp),WS lo (fun y f=>h y (by simp at f⊢;exact .inr (.inl f))),WS hi (fun y f=>h y (by simp at f⊢;exact .inr (.inr (.inl f)))),WS mx (fun y f=>h y (by simp at f⊢;exact .inr (.inr (.inr f))))]
 case convert s d x=>rw[h x (by simp)]
 case binOp op t x y p=>rw[h x (by simp),h y (by simp)]
 case call c=>
  split<;>try rfl
  split<;>try rfl
  rename_i x i;split<;>try rfl
  rw[h x (by
        simp[Call.operands];right;have:x∈c.args.toList:=by rw[i];simp
        simpa using this)]
theorem zFx (o:Op)(h: ∀x∈o.operands.toList,opd env x=opd env' x):aA X env o=aA X env' o:=by
 cases o<;>simp only[aA]<;>simp only[Op.operands]at h
 case box e x=>rw[h x (by simp)]
 case buildSlice t len ps=>simp only[Q3];rw[ZN ps.toList (fun x a=>h x (by simpa using a))]
 case makeSlice t l c=>rw[h l (by simp),h c (by simp)]
 case convert s d x=>rw[h x (by simp)]
 case makeMap t r=>cases r<;>rfl
theorem zMk {H:AH}(o:Op)(h: ∀x∈o.operands.toList,opd env x=opd env' x):aE X env H o=aE X env' H o:=by
 cases o<;>simp only[aE]<;>simp only[Op.operands]at h
 case store t a x=>rw[h a (by simp),h x (by simp)]
 case mapUpdate t m k v=>rw[h m (by simp),h k (by simp),h v (by simp)]
 case call c=>
  split<;>try rfl
  rename_i b hb;have i: ∀x∈c.args.toList,opd env x=opd env' x:=fun x j=>h x (by simp[Call.operands];right;simpa using j)
  unfold uR;split
  .split<;>try rfl
   rename_i s x f;split<;>try rfl
   rw[i s (by rw[f];simp),i x (by rw[f];simp)]
  .split<;>try rfl
   rename_i s x f;split<;>try rfl
   rw[i s (by rw[f];simp),i x (by rw[f];simp)]
  .split<;>try rfl
   rename_i s x f;split<;>try rfl
   rw[i s (by rw[f];simp),i x (by rw[f];simp)]
  .split<;>try rfl
   rename_i s f;split<;>try rfl
   rw[i s (by rw[f];simp)]
  .rfl
theorem zBH {r:Fns}{H:AH}(o:Op)(h: ∀x∈o.operands.toList,opd env x=opd env' x):opF X r env H o=opF X r env' H o:=by
 unfold opF;split
 .rw[zFv o h]
 .rw[zFw o h]
 .rw[zFx o h]
 .rw[zMk o h]
 .cases o<;>try rfl
  case call c hcls=>
  simp only[opF.callO];simp only[Op.operands]at h;split<;>try rfl
  rename_i f a;rw[h f (by simp[Call.operands,a]),aJ c.args.toList (fun x i=>h x (by simp[Call.operands];right;simpa using i))]
end
def zR6 (H a:AH):Prop:= ∀A o,H.h.get A=some o->a.h.get A=some o
theorem zMj {X:Cx}{env:Env}{H i:AH}(m:zR6 H i)(o:Op){v:AV}(h:aL X env H o=some v):aL X env i o=some v:=by
 have C: ∀t p v,VI X t p H=some v->VI X t p i=some v:=by
  intro t p v h;unfold VI at h⊢;split at h
  .rename_i A off;split at h
   .rename_i l e sz g f;rw[m _ _ f];exact h
   .simp at h
  .simp at h
 have F: ∀s d x v,JU X s d x H=some v->JU X s d x i=some v:=by
  intro s d x v h;unfold JU at h⊢;split at h
  .split at h
   .split at h
    .split at h
     .exact h
     .split at h
      .rename_i l O sz g f;rw[m _ _ f];exact h
      .simp at h
     .simp at h
    .simp at h
   .simp at h
  .simp at h
 have J: ∀t x v,zDV X t x H=some v->zDV X t x i=some v:=by
  intro t x v h;unfold zDV at h⊢;split at h
  .exact h
  .exact h
  .exact h
  .exact h
  .exact h
  .exact h
  .split at h
   .rename_i ks es f;rw[m _ _ f];exact h
   .simp at h
  .simp at h
 have K: ∀ks z ok x k v,lkM ks z ok x k H=some v->lkM ks z ok x k i=some v:=by
  intro ks z ok x k v h;unfold lkM at h⊢;rw[zF]at h⊢;split at h
  .rename_i S;rw[if_pos S];split at h
   .exact h
   .split at h
    .rename_i T es f;rw[m _ _ f];exact h
    .simp at h
   .simp at h
  .simp at h
 have u: ∀A,QL A H=true->QL A i=true:=by
  intro A h;unfold QL at h⊢;split at h
  .rename_i o f;rw[m _ _ f];exact h
  .simp at h
 have L: ∀j x y v,pNe j x y H=some v->pNe j x y i=some v:=by
  intro j x y v h;unfold pNe at h⊢;split at h
  .split at h
   .rw[zF]at h⊢;split at h
    .rename_i q;simp only[zE]at q;rw[if_pos (by simp only[zE];exact⟨u _ q.1,u _ q.2.1,q.2.2⟩)];exact h
    .simp at h
   .simp at h
  .simp at h
 have N: ∀j t x y v,zAZ X j t x y H=some v->zAZ X j t x y i=some v:=by
  intro j t x y v h;unfold zAZ at h⊢;split at h
  .exact h
  .split at h
   .split at h
    .simp at h
    .exact L _ _ _ _ h
    .simp at h
   .simp at h
 cases o<;>simp only[aL]at h⊢ <;>try(simp at h;done)
 case binOp j t x y p=>
  unfold b2 at h⊢;split at h
  .split at h
   .exact N _ _ _ _ _ h
   .simp at h
  .simp at h
 case load t a=>
  unfold b1 at h⊢;split at h
  .exact C _ _ _ h
  .simp at h
 case lookup t x k ok=>
  unfold b2 at h⊢;split at h
  .split at h
   .unfold zJZ at h⊢;split at h
    .split at h
     .split at h
      .exact K _ _ _ _ _ _ h
      .simp at h
     .simp at h
    .simp at h
   .simp at h
  .simp at h
 case slice t x lo hi mx=>
  unfold Z6 at h⊢;split at h
  .split at h
   .split at h
    .split at h
     .unfold ZG at h⊢;split at h
      .split at h
       .exact h
       .exact h
       .split at h
        .split at h
         .rename_i l O U g f;rw[m _ _ f];exact h
         .simp at h
        .simp at h
       .exact h
       .exact h
       .exact h
       .simp at h
      .simp at h
     .simp at h
    .simp at h
   .simp at h
  .simp at h
 case convert s d x=>
  unfold b1 at h⊢;split at h
  .exact F _ _ _ _ h
  .simp at h
 case call c=>
  split at h
  .split at h
   .split at h
    .unfold b1 at h⊢;split at h
     .exact J _ _ _ h
     .simp at h
    .simp at h
   .simp at h
  .simp at h
theorem nodup_le: ∀(n:Nat) (l:List Nat),l.Nodup->(∀x∈l,x<n)->l.length<=n
 | 0,l,_,h=>by
  cases l with
  | nil=>simp
  | cons x l=>exact absurd (h x (zK ..)) (by omega)
 | n+1,l,hn,h=>by
  have f:=nodup_le n (l.erase n) (hn.erase n) (fun x a=>by
   have:=(List.Nodup.mem_erase_iff hn).1 a;have:=h x this.2;omega)
  have i:l.length<=(l.erase n).length+1:=by rw[List.length_erase];split<;>omega
  omega
theorem zBI {n:Nat}{l:List Nat}(f:l.Nodup)(h: ∀x∈l,x<n)(hl:l.length=n): ∀i,i<n->i∈l:=by
 intro i hi;refine Classical.byContradiction fun j=> ?_
 have:=nodup_le n (i::l) (List.nodup_cons.2 ⟨j,f⟩) (fun x a=>by
  rcases zP.1 a with rfl | a
  .exact hi
  .exact h x a)
 simp at this;omega
def Valid (md:Region.Mode)(ops:Array Oper):List Nat->List Nat->Prop
 | _,[]=>True
 | done,j::rest=>j∉done/\j<ops.size/\(∀o,ops[j]? =some o-> ∀e∈o.after.toList,Region.binds md e=true->e.on∈done)/\Valid md ops (j::done) rest
def VN (ops:Array Oper)(a:Array Bool)(f:List Nat):Prop:=a.size=ops.size/\ ∀i,a.getD i false=true↔i∈f/\i<ops.size
theorem WL {md:Region.Mode}{ops:Array Oper}{a:Array Bool}{h:List Nat}(hl:VN ops a h){j:Nat} :j∈Region.ready md ops a↔
  j<ops.size/\j∉h/\ ∀o,ops[j]? =some o-> ∀e∈o.after.toList,Region.binds md e=true->e.on∈h/\e.on<ops.size:=by
 have q: ∀i,i<ops.size->a.getD i true=a.getD i false:=by
  intro i hi;rw[y5,y5,Array.getElem?_eq_getElem (by rw[hl.1];exact hi)];rfl
 unfold Region.ready;rw[List.mem_filter,List.mem_range];constructor
 .rintro⟨h1,h2⟩
  rw[q j h1]at h2;simp only[zE,yT]at h2;refine⟨h1,fun m=> ?_,fun o f e p hb=> ?_⟩
  .have:=(hl.2 j).2 ⟨m,h1⟩;rw[this]at h2;simp at h2
  .rw[f]at h2;simp only[zZ,qZ,Array.all_eq_true_iff_forall_mem]at h2;have:=h2.2 e (by simpa using p);rw[hb]at this;simp only[Bool.not_true,Bool.false_or]at this;exact(hl.2 _).1 this
 .rintro⟨h1,h2,h3⟩
  refine⟨h1, ?_⟩;rw[q j h1];simp only[zE,yT];constructor
  .cases m:a.getD j false with
   | false=>rfl
   | true=>exact absurd ((hl.2 j).1 m).1 h2
  .have f:ops[j]? =some ops[j]:=Array.getElem?_eq_getElem h1;rw[f];simp only[zZ,qZ,Array.all_eq_true_iff_forall_mem];intro e p
   cases hb:Region.binds md e with
   | false=>rfl
   | true=>
    simp only[Bool.not_true,Bool.false_or];exact(hl.2 _).2 (h3 _ f e (by simpa using p) hb)
theorem UP {ops:Array Oper}{a:Array Bool}{f:List Nat}(hl:VN ops a f){j:Nat}(h:j<ops.size):VN ops (a.setIfInBounds j true) (j::f):=by
 refine⟨by simp[hl.1],fun i=> ?_⟩;rw[y5,Array.getElem?_setIfInBounds];by_cases e:j=i
 .subst e;rw[if_pos rfl,if_pos (by rw[hl.1];exact h)];simp[h]
 .rw[if_neg e,<-y5,hl.2 i];simp[Ne.symm e]
theorem KC {md:Region.Mode}{ops:Array Oper} : ∀(fuel t:Nat) (a:Array Bool) (f:List Nat),VN ops a f->Valid md ops f (Region.linearise.go md ops fuel t a [])
 | 0,_,_,_,_=>by simp[Region.linearise.go,Valid]
 | fuel+1,t,a,f,hl=>by
  have h:Region.linearise.go md ops (fuel+1) t a []=match(Region.ready md ops a)[t % (Region.ready md ops a).length]? with
   | some i=>Region.linearise.go md ops fuel (t / (Region.ready md ops a).length) (a.setIfInBounds i true) [i]
   | none=>[]:=rfl
  rw[h];split
  .rename_i i hi;have hm:=(WL hl).1 (List.mem_of_getElem? hi);rw[linearise_go_acc,List.reverse_singleton,List.singleton_append];exact⟨hm.2.1,hm.1,fun o j e m hb=>(hm.2.2 o j e m hb).1,KC fuel _ _ _ (UP hl hm.1)⟩
  .trivial
theorem fS {md:Region.Mode}{ops:Array Oper} : ∀(l f:List Nat),Valid md ops f l->l.Nodup/\(∀x∈l,x<ops.size/\x∉f)
 | [],_,_=>by simp
 | j::l,f,h=>by
  obtain⟨o,p,_,q⟩:=h;obtain⟨s,i⟩:=fS l _ q;refine⟨List.nodup_cons.2 ⟨fun m=>(i j m).2 (zK ..),s⟩,fun x a=> ?_⟩;rcases zP.1 a with rfl | a
  .exact⟨p,o⟩
  .exact⟨(i x a).1,fun m=>(i x a).2 (zC _ m)⟩
theorem UF {md:Region.Mode}{ops:Array Oper}{i:Array Bool}{f:List Nat}(hl:VN ops i f)(q: ∀x∈f,x<ops.size): ∀(L h:List Nat),Valid md ops h L->(∀x∈h,x∈f)->(∃x∈L,x∉f)->Region.ready md ops i≠[]
 | [],_,_,_,⟨x,a,_⟩=>by simp at a
 | j::L,h,hv,hb,hex=>by
  obtain⟨J,u,v,y⟩:=hv;by_cases m:j∈f
  .refine UF hl q L (j::h) y (fun x a=> ?_) ?_
   .rcases zP.1 a with rfl | a
    .exact m
    .exact hb x a
   .obtain⟨x,a,s⟩:=hex;rcases zP.1 a with rfl | a
    .exact absurd m s
    .exact⟨x,a,s⟩
  .intro z;have p:j∈Region.ready md ops i:=by
    refine(WL hl).2 ⟨u,m,fun o C e F t=> ?_⟩;have hd:=hb _ (v o C e F t);exact⟨hd,q _ hd⟩
   rw[z]at p;simp at p
theorem d6: ∀(l m:List Nat),l.Nodup->(∀x∈l,x∈m)->l.length<=m.length
 | [],_,_,_=>by simp
 | x::l,m,hn,h=>by
  obtain⟨i,j⟩:=List.nodup_cons.1 hn;have a:=h x (zK ..);have:=d6 l (m.erase x) j (fun y f=>(List.mem_erase_of_ne (fun e=>i (by rw[<-e];exact f))).2 (h y (zC _ f)));rw[List.length_erase_of_mem a]at this;have hp:=List.length_pos_of_mem a;simp;omega
theorem zIB {md:Region.Mode}{ops:Array Oper}{L:List Nat}(hL:Valid md ops [] L)(m:L.length=ops.size): ∀(fuel t:Nat) (a:Array Bool) (f:List Nat),VN ops a f->(∀x∈f,x<ops.size)->f.length+fuel=ops.size->
  (Region.linearise.go md ops fuel t a []).length=fuel
 | 0,_,_,_,_,_,_=>by simp[Region.linearise.go]
 | fuel+1,t,a,f,hl,hds,hlen=>by
  have o:Region.linearise.go md ops (fuel+1) t a []=match(Region.ready md ops a)[t % (Region.ready md ops a).length]? with
   | some i=>Region.linearise.go md ops fuel (t / (Region.ready md ops a).length) (a.setIfInBounds i true) [i]
   | none=>[]:=rfl
  have p:Region.ready md ops a≠[]:=by
   refine UF hl hds L [] hL (by simp) (Classical.byContradiction fun q=> ?_);have:=d6 L f (fS L [] hL).1 (fun x h=>Classical.byContradiction fun s=>q ⟨x,h,s⟩);omega
  have j:t % (Region.ready md ops a).length< (Region.ready md ops a).length:=Nat.mod_lt _ (List.length_pos_iff.2 p);rw[o,zJ j];simp only;have hm:=(WL hl).1 (qY j);rw[linearise_go_acc,List.reverse_singleton,List.singleton_append,zW,zIB hL m fuel _ _ _ (UP hl hm.1) (fun x h=>by
   rcases zP.1 h with rfl | h
   .exact hm.1
   .exact hds x h) (by simp;omega)]
theorem bI (ops:Array Oper):VN ops (Array.replicate ops.size false) []:=
 ⟨by simp,fun i=>by
  rw[y5,Array.getElem?_replicate];by_cases h:i<ops.size<;>simp[h]⟩
theorem KW {md:Region.Mode}{ops:Array Oper} : ∀(l a:List Nat),Valid md ops a l->Valid .any ops a l
 | [],_,_=>trivial
 | j::l,a,⟨h1,h2,h3,h4⟩=>⟨h1,h2,fun o f e h hb=>h3 o f e h (by
   revert hb
   cases i:e.ground<;>simp[Region.binds,i]),KW l _ h4⟩
theorem cH {md:Region.Mode}{ops:Array Oper}(h:(Region.linearise md ops 0).length=ops.size)(t:Nat):Valid .any ops [] (Region.linearise md ops t)/\ ∀i,i<ops.size->i∈Region.linearise md ops t:=by
 have f:Valid md ops [] (Region.linearise md ops 0):=KC _ _ _ _ (bI ops);have a:Valid md ops [] (Region.linearise md ops t):=KC _ _ _ _ (bI ops);have hl:(Region.linearise md ops t).length=ops.size:=zIB f h _ _ _ _ (bI ops) (by simp) (by simp);obtain⟨m,o⟩:=fS _ _ a;exact⟨KW _ _ a,zBI m (fun x j=>(o x j).1) hl⟩
theorem U4 {md:Region.Mode}{ops:Array Oper} : ∀(l pre:List Oper) (a:List Nat),ops.toList=pre++l->zJU l pre.length=true->(∀x,x∈a↔x<pre.length)->Valid md ops a (List.range' pre.length l.length)
 | [],_,_,_,_,_=>by simp[Valid]
 | o::l,pre,a,hops,hb,hd=>by
  have i:pre.length<ops.size:=by
   have:=congrArg List.length hops;simp at this;omega
  have j:ops[pre.length]? =some o:=by
   rw[<-yS,hops];simp
  simp only[zJU,kD,zE,y9,qD]at hb;rw[zW,List.range'_succ];refine⟨fun h=>absurd ((hd _).1 h) (Nat.lt_irrefl _),i,fun o' f e m _=> ?_, ?_⟩
  .rw[j]at f;injection f with f;subst f
   exact(hd _).2 (hb.1 e (by simpa using m))
  .have:=U4 (md:=md) l (pre++[o]) (pre.length::a) (by rw[hops];simp) (by simpa using hb.2) (fun x=>by
    simp only[zP,hd,zT,yL];omega)
   simpa using this
theorem gU {md:Region.Mode}{ops:Array Oper}(h:zJU ops.toList 0=true)(t:Nat):Valid .any ops [] (Region.linearise md ops t)/\ ∀i,i<ops.size->i∈Region.linearise md ops t:=by
 have f:Valid md ops [] (List.range' 0 ops.toList.length):=U4 (md:=md) (ops:=ops) ops.toList [] [] rfl h (by simp);have a:Valid md ops [] (Region.linearise md ops t):=KC _ _ _ _ (bI ops);have hl:(Region.linearise md ops t).length=ops.size:=zIB f (by simp) _ _ _ _ (bI ops) (by simp) (by simp);obtain⟨m,o⟩:=fS _ _ a;exact⟨KW _ _ a,zBI m (fun x j=>(o x j).1) hl⟩
theorem zD5 {ops:Array Oper}(h:zDh ops=true)(a:Bool)(t:Nat):Valid .any ops [] (Region.schedule a ops t)/\ ∀i,i<ops.size->i∈Region.schedule a ops t:=by
 simp only[zDh,yO,zE,zY]at h;rcases h with h | h
 .unfold Region.schedule;split
  .exact gU h t
  .split
   .exact gU h _
   .exact gU h _
 .unfold Region.schedule;split
  .exact cH h.1.1 t
  .split
   .exact cH h.1.2 _
   .exact cH h.2 _
theorem UO (f:List Nat): ∀(es:List Edge) (s i:Nat),(es.foldl (fun s e=>bif Region.binds .any e then s||| 2 ^ e.on||| f.getD e.on 0 else s) s).testBit i=true->s.testBit i=true\/ ∃e∈es,Region.binds .any e=true/\(e.on=i\/(f.getD e.on 0).testBit i=true)
 | [],s,i,h=> .inl h
 | e::es,s,i,h=>by
  simp only[List.foldl_cons]at h;rcases UO f es _ i h with a | ⟨m,j,a⟩
  .cases hb:Region.binds .any e with
   | false=>rw[hb]at a;exact .inl a
   | true=>
    rw[hb]at a;simp only[zM,Nat.testBit_or,yO,Nat.testBit_two_pow,zR]at a;rcases a with(a | a) | a
    .exact .inl a
    .exact .inr ⟨e,zK ..,hb, .inl a⟩
    .exact .inr ⟨e,zK ..,hb, .inr a⟩
  .exact .inr ⟨m,zC _ j,a⟩
theorem ZZ: ∀(l:List Oper) (a:List Nat) (j:Nat),j<a.length->(wY l a).getD j 0=a.getD j 0
 | [],a,j,_=>rfl
 | o::l,a,j,h=>by
  rw[wY,ZZ l _ j (by simp;omega)];simp[qE,yX h]
theorem BX: ∀(l:List Oper) (a:List Nat) (j:Nat) (o:Oper),l[j]? =some o-> ∃pre:List Nat,(∀k,k<a.length+j->pre.getD k 0=(wY l a).getD k 0)/\pre.length=a.length+j/\(wY l a).getD (a.length+j) 0=zIc pre o.after.toList
 | [],_,_,_,h=>by simp at h
 | p::l,a,0,o,h=>by
  simp at h;subst h;refine⟨a,fun k m=> ?_,rfl, ?_⟩
  .rw[wY,ZZ l _ k (by simp;omega)];simp[qE,yX (show k<a.length by omega)]
  .rw[wY,ZZ l _ _ (by simp)];simp[qE]
 | p::l,a,j+1,o,h=>by
  simp at h;obtain⟨pre,f,q,i⟩:=BX l (a++[zIc a p.after.toList]) j o h;simp only[zT,yL]at f q i;refine⟨pre,fun k m=> ?_,by omega, ?_⟩
  .rw[wY];exact f k (by omega)
  .rw[wY,show a.length+(j+1)=a.length+1+j from by omega];exact i
theorem ZP {ops:Array Oper}{f:List Nat}(q: ∀j∈f,∀o,ops[j]? =some o-> ∀e∈o.after.toList,Region.binds .any e=true->e.on∈f):
  ∀(n j:Nat),j<=n->(∀o,ops[j]? =some o-> ∀e∈o.after.toList,Region.binds .any e=true->e.on∈f)-> ∀i,((wY ops.toList []).getD j 0).testBit i=true->i∈f
 | n,j,hjn,hj,i,h=>by
  cases p:ops.toList[j]? with
  | none=>
   have hl: ∀(l:List Oper) (m:List Nat),(wY l m).length=m.length+l.length:=by
    intro l
    induction l with
    | nil=>intro m;simp[wY]
    | cons o l ih=>intro m;rw[wY,ih];simp;omega
   have:(wY ops.toList [])[j]? =none:=by
    rw[List.getElem?_eq_none_iff]at p⊢;rw[hl];simpa using p
   simp[qE,this]at h
  | some o=>
   obtain⟨pre,t,z,u⟩:=BX ops.toList [] j o p;simp only[yJ,yW]at t z u;rw[u]at h;rcases UO pre _ _ _ h with a | ⟨e,C,hb,a⟩
   .simp at a
   .have x:ops[j]? =some o:=by simpa using p
    have s:=hj o x e C hb;rcases a with rfl | a
    .exact s
    .by_cases y:e.on<j
     .rw[t _ y]at a
      cases n with
      | zero=>omega
      | succ n=>exact ZP q n e.on (by omega) (fun o' v=>q _ s o' v) i a
     .have:pre[e.on]? =none:=List.getElem?_eq_none (by omega);simp[qE,this]at a
def AO (H a:AH):Prop:=H.next<=a.next/\(∀A,A<H.next->a.h.get A=H.h.get A)/\zR6 H a
theorem AO.refl (H:AH):AO H H:=⟨zQ _,fun _ _=>rfl,fun _ _ h=>h⟩
theorem AO.trans {H a f:AH}(h:AO H a)(k:AO a f):AO H f:=
 ⟨qP h.1 k.1,fun A i=>(k.2.1 A (qQ i h.1)).trans (h.2.1 A i),fun A o j=>k.2.2 A o (h.2.2 A o j)⟩
theorem AO.new {H H':AH}{o:AObj}{A:Nat}(h:newA H o=some (A,H')):AO H H'/\H'.h.get H.next=some o/\H'.next=H.next+1:=by
 obtain⟨a,j,rfl,rfl,m⟩:=fW h;have f:=T.get_set _ _ _ _ _ j;refine⟨⟨Nat.le_succ _,fun A p=> ?_,fun A o' i=> ?_⟩, ?_,rfl⟩
 .show a.get A=_;rw[f,if_neg (by omega)]
 .show a.get A=_;rw[f];by_cases e:A=H.next
  .subst e;rw[m]at i;simp at i
  .rw[if_neg e];exact i
 .show a.get _=_;rw[f,if_pos rfl]
theorem Rel.more {R:Ren}{H a:AH}{w:World}(h:Rel R H w)(f:AO H a):Rel R a w:=by
 have hl: ∀A b d c,R A b d c->JW a A->JW H A:=fun A b d c r ⟨o,i,hd⟩=>⟨o,by rw[<-f.2.1 A (h.lt _ _ _ _ r).2];exact i,hd⟩
 exact⟨h.fn,fun A m b d c d' c' r j l l'=>h.inj _ _ _ _ _ _ _ r j (hl _ _ _ _ r l) (hl _ _ _ _ j l'),
  fun A b d c o r i=>h.obj A b d c o r (by rw[<-f.2.1 A (h.lt _ _ _ _ r).2];exact i),fun A b d c r=>⟨(h.lt _ _ _ _ r).1,qQ (h.lt _ _ _ _ r).2 f.1⟩⟩
theorem Ext.more {R a:Ren}{H H' f:AH}{w i:World}(h:Ext R H w a H' i)(j:AO H' f):Ext R H w a f i:=
 ⟨h.sub,h.new,h.newA,qP h.next j.1,fun A m o=>(j.2.1 A (qQ m h.next)).trans (h.keepA A m o),h.os,h.tape,h.output,h.size,h.keep⟩
section
variable (X:Cx)(r:Fns)(nt:Nat)(ops:Array Oper)
def uI:Env->AH->List Ent->Env->AH->Prop
 | env,H,[],envF,HF=>env=envF/\H=HF
 | env,H,e::es,envF,HF=>e.env=env/\e.H=H/\zJk X r ops env H e.i e.o=some e/\ ∃env',VP nt env e.o.dst e.v=some env'/\uI env' e.H' es envF HF
theorem V4 {env:Env}{H:AH}{e:Ent}(h:zJk X r ops env H e.i e.o=some e):ZH ops env e.o=some e.want/\(e.want=true->opF X r env H e.o.op=some (e.v,e.H'))/\(e.want=false->e.v=jO/\e.H'=H):=by
 unfold zJk at h;split at h
 .rename_i a;split at h
  .rename_i v H' p;simp only[zB]at h;have f:e.want=true:=by rw[<-h]
   have j:e.v=v:=by rw[<-h]
   have m:e.H'=H':=by rw[<-h]
   rw[f,j,m];exact⟨a,fun _=>p,fun h=>by simp at h⟩
  .simp at h
 .rename_i a;simp only[zB]at h;have f:e.want=false:=by rw[<-h]
  have j:e.v=jO:=by rw[<-h]
  have m:e.H'=H:=by rw[<-h]
  rw[f];exact⟨a,fun h=>by simp at h,fun _=>⟨j,m⟩⟩
 .simp at h
theorem zN6 {env:Env}{H:AH}{e:Ent}(h:zJk X r ops env H e.i e.o=some e)(f:wX (cls X e.o.op)=false):AO H e.H':=by
 obtain⟨_,q,s⟩:=V4 X r ops h
 cases m:e.want with
 | false=>rw[(s m).2];exact AO.refl H
 | true=>
  have a:=q m;unfold opF at a;split at a
  .unfold wV at a;split at a
   .simp only[zB,zU]at a;rw[<-a.2];exact AO.refl H
   .simp at a
  .unfold wV at a;split at a
   .simp only[zB,zU]at a;rw[<-a.2];exact AO.refl H
   .simp at a
  .unfold wA at a;split at a
   .split at a
    .rename_i A t p;simp only[zB,zU]at a;rw[<-a.2];exact(AO.new p).1
    .simp at a
   .simp at a
  .rename_i j;rw[j]at f;simp[wX]at f
  .rename_i j;rw[j]at f;simp[wX]at f
noncomputable def gV (D:List Nat):List Ent->AH->AH
 | [],HF=>HF
 | e::es,HF=>if wX (cls X e.o.op)=true/\e.i∉D then e.H else gV D es HF
variable {X r nt ops}
theorem KK: ∀ {es:List Ent} {env:Env} {H:AH} {envF:Env} {HF:AH} {D:List Nat},uI X r nt ops env H es envF HF->(∀e∈es,wX (cls X e.o.op)=true->e.i∉D)->AO H (gV X D es HF)
 | [],_,H,_,HF,D,h,_=>by obtain⟨_,rfl⟩:=h;exact AO.refl _
 | e::es,env,H,envF,HF,D,⟨h1,h2,h3,env',h4,h5⟩,hD=>by
  unfold gV;split
  .rw[h2];exact AO.refl H
  .rename_i f;have j:wX (cls X e.o.op)=false:=by
    cases a:wX (cls X e.o.op)with
    | false=>rfl
    | true=>exact absurd ⟨a,hD e (zK ..) a⟩ f
   exact(zN6 X r ops h3 j).trans (KK h5 (fun q m=>hD q (zC _ m)))
theorem Y4: ∀ {pre:List Ent} {e:Ent} {a:List Ent} {env:Env} {H:AH} {envF:Env} {HF:AH},uI X r nt ops env H (pre++e::a) envF HF->uI X r nt ops e.env e.H (e::a) envF HF
 | [],e,a,env,H,envF,HF,h=>by
  obtain⟨i,j,m,env',o,f⟩:=h;subst i j;exact⟨rfl,rfl,m,env',o,f⟩
 | p::pre,e,a,env,H,envF,HF,⟨_,_,_,env',_,f⟩=>Y4 (pre:=pre) f
theorem KH: ∀ {pre l:List Ent} {HF:AH} {D:List Nat},(∀p∈pre,wX (cls X p.o.op)=true->p.i∈D)->gV X D (pre++l) HF=gV X D l HF
 | [],_,_,_,_=>rfl
 | p::pre,l,HF,D,h=>by
  rw[qF,gV,if_neg (fun a=>a.2 (h p (zK ..) a.1))];exact KH (fun q f=>h q (zC _ f))
theorem zFg {D:List Nat}{j:Nat} : ∀ {es:List Ent} {HF:AH},(∀e∈es,e.i=j->wX (cls X e.o.op)=false)->gV X (j::D) es HF=gV X D es HF
 | [],_,_=>rfl
 | e::es,HF,h=>by
  simp only[gV];rw[zFg (es:=es) (fun q f=>h q (zC _ f))];by_cases a:e.i=j
  .have:=h e (zK ..) a;rw[if_neg (by simp[this]),if_neg (by simp[this])]
  .simp[a]
theorem zCw: ∀ {pre:List Ent} {e:Ent} {j:List Ent} {env:Env} {H:AH} {envF:Env} {HF:AH},uI X r nt ops env H (pre++e::j) envF HF->(pre.map (·.o.dst)).Pairwise (fun a b=> ∀d,a=some d->b≠some d)->
  ∀t,(∀p∈pre,p.o.dst=some t->Eng.look e.env t=some p.v)/\((∀p∈pre,p.o.dst≠some t)->Eng.look e.env t=Eng.look env t)
 | [],e,j,env,H,envF,HF,h,_,t=>by
  obtain⟨y,_⟩:=h;exact⟨fun p hp=>by simp at hp,fun _=>by rw[y]⟩
 | p::pre,e,j,env,H,envF,HF,⟨y,h2,h3,env',f,h5⟩,hd,t=>by
  simp only[yH,yM]at hd;obtain⟨F,z⟩:=zCw (pre:=pre) h5 hd.2 t;have s:Eng.look env' t=if p.o.dst=some t then some p.v else Eng.look env t:=by
   cases u:p.o.dst with
   | none=>rw[u]at f;simp only[VP,zB]at f;subst f;simp
   | some d=>
    rw[u]at f;simp only[VP,zF]at f;split at f
    .injection f with f;subst f
     unfold Eng.look;rw[bC];by_cases e:t=d
     .subst e;simp
     .rw[if_neg e,if_neg (by simpa using Ne.symm e)]
    .simp at f
  refine⟨fun q i m=> ?_,fun x=> ?_⟩
  .rcases zP.1 i with rfl | i
   .rw[z (fun K C J=>hd.1 _ (List.mem_map_of_mem C) t m J),s,if_pos m]
   .exact F q i m
  .rw[z (fun q i=>x q (zC _ i)),s,if_neg (x p (zK ..))]
end
structure Mono (r:Fns):Prop where
 call: ∀f args H v H',r.call f args H=some (v,H')->H.next<=H'.next
 yld: ∀A args H v H',r.yld A args H=some (v,H')->H.next<=H'.next
theorem Good.mono {P:Program}{r:Fns}(h:Good P r):Mono r:=⟨fun f args H v H' e=>(h.call f args H v H' e).1,fun A args H v H' e=>(h.yld A args H v H' e).1⟩
theorem xB {H H':AH}{A:Nat}{o:AObj}(h:fV H A o=some H'):H'.next=H.next:=by
 unfold fV at h;split at h
 .simp only[zB]at h;rw[<-h]
 .simp at h
theorem zGo {a e sz:Nat}{cells:List AV}{H H':AH}{v:AV}(h:aW a e sz cells H=some (v,H')):H.next<=H'.next:=by
 unfold aW at h;split at h
 .rename_i A i f;obtain⟨j,_,_,rfl,_⟩:=fW f;simp only[kD,zB,zU]at h;rw[<-h.2];exact Nat.le_succ _
 .simp at h
theorem aC {a e sz bytes:Nat}{old:Option (List AV)}{new:List AV}{H H':AH}{v:AV}(h:vO a e sz bytes old new H=some (v,H')):H.next<=H'.next:=by
 unfold vO at h;rw[zF]at h;split at h
 .split at h
  .exact zGo h
  .simp at h
 .simp at h
theorem zCO {e sz bytes n:Nat}{new:List AV}{s:AV}{H H':AH}{v:AV}(h:app1 e sz bytes n new s H=some (v,H')):H.next<=H'.next:=by
 unfold app1 at h;split at h
 .rw[zF]at h;split at h
  .simp only[zB,zU]at h;rw[<-h.2];exact zQ _
  .exact aC h
 .rw[zF]at h;split at h
  .simp only[zB,zU]at h;rw[<-h.2];exact zQ _
  .simp at h
 .split at h
  .unfold zGu at h;rw[zF]at h;split at h
   .unfold zCN at h;split at h
    .split at h
     .rename_i a hp;simp only[kD,zB,zU]at h;rw[<-h.2,xB hp];exact zQ _
     .simp at h
    .simp at h
   .rw[zF]at h;split at h
    .exact aC h
    .rw[zF]at h;split at h
     .split at h
      .rename_i a hp;have:=aC h;rw[xB hp]at this;exact this
      .simp at h
     .simp at h
  .simp at h
 .simp at h
theorem zKt {ks:List Nat}{x k u v:AV}{H H':AH}(h:upM ks x k u H=some (v,H')):H.next<=H'.next:=by
 unfold upM at h;rw[zF]at h;split at h
 .split at h
  .split at h
   .rw[zF]at h;split at h
    .split at h
     .split at h
      .rename_i hp;simp only[zB,zU]at h;rw[<-h.2,xB hp];exact zQ _
      .simp at h
     .split at h
      .rename_i hp;simp only[zB,zU]at h;rw[<-h.2,xB hp];exact zQ _
      .simp at h
    .simp at h
   .simp at h
  .simp at h
 .simp at h
theorem zLI {ks:List Nat}{x k v:AV}{H H':AH}(h:dlM ks x k H=some (v,H')):H.next<=H'.next:=by
 unfold dlM at h;rw[zF]at h;split at h
 .split at h
  .simp only[zB,zU]at h;rw[<-h.2];exact zQ _
  .split at h
   .rw[zF]at h;split at h
    .split at h
     .split at h
      .rename_i hp;simp only[zB,zU]at h;rw[<-h.2,xB hp];exact zQ _
      .simp at h
     .simp only[zB,zU]at h;rw[<-h.2];exact zQ _
    .simp at h
   .simp at h
  .simp at h
 .simp at h
theorem zLR {x v:AV}{H H':AH}(h:clM x H=some (v,H')):H.next<=H'.next:=by
 unfold clM at h;split at h
 .simp only[zB,zU]at h;rw[<-h.2];exact zQ _
 .split at h
  .split at h
   .rename_i hp;simp only[zB,zU]at h;rw[<-h.2,xB hp];exact zQ _
   .simp at h
  .simp at h
 .simp at h
theorem zPf {X:Cx}{env:Env}{H H':AH}{o:Op}{v:AV}(h:aE X env H o=some (v,H')):H.next<=H'.next:=by
 unfold aE at h;split at h
 .unfold BL at h;split at h
  .split at h
   .split at h
    .rename_i i f;simp only[zB,zU]at h;rw[<-h.2];unfold zCK at f;split at f
     .split at f
      .split at f
       .rw[zF]at f;split at f
        .split at f
         .rw[xB f];exact zQ _
         .simp at f
        .simp at f
       .simp at f
      .simp at f
     .simp at f
    .simp at h
   .simp at h
  .simp at h
 .unfold c3 at h;split at h
  .split at h
   .split at h
    .unfold aup at h;split at h
     .split at h
      .exact zKt h
      .simp at h
     .simp at h
    .simp at h
   .simp at h
  .simp at h
 .split at h
  .unfold uR at h;split at h
   .split at h
    .split at h
     .unfold cV at h;have key: ∀t a b,hJ X t a b H=some (v,H')->H.next<=H'.next:=by
       intro t a b h;unfold hJ at h;split at h
       .split at h
        .rw[zF]at h;split at h
         .split at h
          .rw[zF]at h;split at h
           .exact zCO h
           .simp at h
          .simp at h
         .simp at h
        .simp at h
       .simp at h
      split at h
      .split at h
       .split at h
        .exact key _ _ _ h
        .exact key _ _ _ h
        .unfold zKb at h
         repeat' first | (simp at h;done) | split at h
         all_goals(try rw[zF]at h)
         all_goals(repeat' first | (simp at h;done) | split at h)
         all_goals(try rw[zF]at h)
         all_goals(repeat' first | (simp at h;done) | split at h)
         all_goals exact zCO h
        .simp at h
       .simp at h
      .simp at h
     .simp at h
    .simp at h
   .split at h
    .split at h
     .unfold zJq at h;split at h
      .split at h
       .unfold zGp at h;split at h
        .split at h
         .split at h
          .split at h<;>first | (simp at h;done) | (simp only[zB,zU]at h;rw[<-h.2];exact zQ _)
          .split at h
           .simp only at h;split at h
            .rw[zF]at h;split at h
             .split at h
              .split at h
               .split at h
                .rename_i i hp;simp only[kD,zB,zU]at h;rw[<-h.2,xB hp];exact zQ _
                .simp at h
               .simp at h
              .simp at h
             .simp at h
            .simp at h
           .simp at h
          .simp at h
         .simp at h
        .simp at h
       .simp at h
      .simp at h
     .simp at h
    .simp at h
   .split at h
    .split at h
     .unfold c2 at h;split at h
      .split at h
       .unfold adl at h;split at h
        .split at h
         .exact zLI h
         .simp at h
        .simp at h
       .simp at h
      .simp at h
     .simp at h
    .simp at h
   .split at h
    .split at h
     .unfold c1 at h;split at h
      .unfold acl at h;split at h
       .exact zLR h
       .simp at h
      .simp at h
     .simp at h
    .simp at h
   .simp at h
  .simp at h
 .simp at h
section
variable {X:Cx}{r:Fns}(hm:Mono r)
include hm
theorem zL6 {env:Env}{H H':AH}{o:Op}{v:AV}(h:opF X r env H o=some (v,H')):H.next<=H'.next:=by
 unfold opF at h;split at h
 .unfold wV at h;split at h
  .simp only[zB,zU]at h;rw[<-h.2];exact zQ _
  .simp at h
 .unfold wV at h;split at h
  .simp only[zB,zU]at h;rw[<-h.2];exact zQ _
  .simp at h
 .unfold wA at h;split at h
  .split at h
   .rename_i A f a;obtain⟨i,_,_,rfl,_⟩:=fW a;simp only[zB,zU]at h;rw[<-h.2];exact Nat.le_succ _
   .simp at h
  .simp at h
 .exact zPf h
 .unfold opF.callO at h;split at h
  .split at h
   .unfold opF.callV at h;split at h
    .split at h
     .exact hm.call _ _ _ _ _ h
     .simp at h
    .split at h
     .exact hm.yld _ _ _ _ _ h
     .simp at h
    .simp at h
   .simp at h
  .simp at h
theorem zLD {ops:Array Oper}{env:Env}{H:AH}{e:Ent}(h:zJk X r ops env H e.i e.o=some e):H.next<=e.H'.next:=by
 obtain⟨_,f,j⟩:=V4 X r ops h
 cases a:e.want with
 | false=>rw[(j a).2];exact zQ _
 | true=>exact zL6 hm (f a)
theorem wL {nt:Nat}{ops:Array Oper} : ∀ {es:List Ent} {env:Env} {H:AH} {envF:Env} {HF:AH},uI X r nt ops env H es envF HF->H.next<=HF.next/\ ∀e∈es,H.next<=e.H.next
 | [],_,_,_,_,h=>by obtain⟨_,rfl⟩:=h;exact⟨zQ _,by simp⟩
 | e::es,env,H,envF,HF,⟨h1,h2,h3,env',h4,h5⟩=>by
  obtain⟨f,i⟩:=wL h5;have:=zLD hm h3;refine⟨qP this f,fun q a=> ?_⟩;rcases zP.1 a with rfl | a
  .rw[h2];exact zQ _
  .exact qP this (i q a)
end
theorem zKK {nt:Nat}{env env2 env':Env}{dst:Option Tmp}{v v2:AV}(h:VP nt env dst v=some env'): ∃a,VP nt env2 dst v2=some a:=by
 cases dst with
 | none=>exact⟨_,rfl⟩
 | some d=>
  simp only[VP,zF]at h⊢;split at h
  .rename_i hd;rw[if_pos hd];exact⟨_,rfl⟩
  .simp at h
theorem dY {nt:Nat}{env env':Env}{dst:Option Tmp}{v:AV}(h:VP nt env dst v=some env')(t:Nat):Eng.look env' t=if dst=some t then some v else Eng.look env t:=by
 cases dst with
 | none=>simp only[VP,zB]at h;subst h;simp
 | some d=>
  simp only[VP,zF]at h;split at h
  .injection h with h;subst h
   unfold Eng.look;rw[bC];by_cases e:t=d
   .subst e;simp
   .rw[if_neg e,if_neg (by simpa using Ne.symm e)]
  .simp at h
theorem zFC {ops:Array Oper}{env env':Env}{o:Oper}(h: ∀t∈cD ops o,Eng.look env t=Eng.look env' t):ZH ops env o=ZH ops env' o:=by
 unfold ZH;split
 .rfl
 .rename_i j f a;unfold zGA;split
  .rename_i p hp;split
   .rename_i d hd;rw[h d (by simp[cD,a,hp,hd])]
   .rfl
  .rfl
theorem zI2 {ops:Array Oper}{env env':Env}{o:Oper}(h: ∀t∈cD ops o,Eng.look env t=Eng.look env' t): ∀x∈o.op.operands.toList,opd env x=opd env' x:=by
 intro x a
 cases x with
 | tmp t=>simp only[opd];rw[h t (by simp only[cD,qB,List.mem_filterMap];exact .inl ⟨.tmp t,a,rfl⟩)]
 | _=>rfl
def Bef (ops:Array Oper)(j i:Nat):Prop:=((wY ops.toList []).getD j 0).testBit i=true
structure Row (X:Cx)(r:Fns)(nt:Nat)(ops:Array Oper)(uL:Env)(H0:AH)(es:List Ent)(envF:Env)(HF:AH):Prop where
 chain:uI X r nt ops uL H0 es envF HF
 mem: ∀e∈es,ops[e.i]? =some e.o
 nd:(es.map (·.i)).Nodup
 pair:es.Pairwise fun a b=>(∀d,a.o.dst=some d->b.o.dst≠some d)/\(wX (cls X a.o.op)=true\/fF ops a.o b.o=true->Bef ops b.i a.i)
 see:es.Pairwise fun a b=>a.want=true->wX (cls X b.o.op)=true-> ¬Bef ops b.i a.i->cls X a.o.op= .L->aL X a.env b.H' a.o.op=some a.v
structure Inv (X:Cx)(nt:Nat)(uL:Env)(H0:AH)(es:List Ent)(HF:AH)(R0:Ren)(w0:World)(D:List Nat)(R:Ren)(tmps:Array Value)(w:World):Prop where
 env: ∃envS,EnvR R envS nt tmps/\ ∀t,(∀e∈es,e.i∈D->e.o.dst=some t->Eng.look envS t=some e.v)/\((∀e∈es,e.i∈D->e.o.dst≠some t)->Eng.look envS t=Eng.look uL t)
 rel:Rel R (gV X D es HF) w
 no: ∀e∈es,e.want=true->cls X e.o.op= .A->e.i∉D-> ∀b d c,¬R e.H.next b d c
 ob: ∀pre e post,es=pre++e::post->(∀p∈pre,wX (cls X p.o.op)=true->p.i∈D)->e.want=true->cls X e.o.op= .A->e.i∉D-> ∀o mk,aA X e.env e.o.op=some (o,mk)->(gV X D es HF).h.get e.H.next=some o/\e.H.next< (gV X D es HF).next
 ext:Ext R0 H0 w0 R (gV X D es HF) w
section
variable {P:Program}{X:Cx}{r:Fns}{nt:Nat}{ops:Array Oper}{uL:Env}{H0:AH}{es:List Ent}{envF:Env}{HF:AH}
theorem zAN {env:Env}{H:AH}{e:Ent}(h:zJk X r ops env H e.i e.o=some e)(q:e.want=true)(s:cls X e.o.op= .A): ∃o f,aA X env e.o.op=some (o,f)/\e.v=f H.next/\AO H e.H'/\e.H'.h.get H.next=some o/\e.H'.next=H.next+1:=by
 have a:=(V4 X r ops h).2.1 q;unfold opF at a;rw[s]at a;simp only at a;unfold wA at a;split at a
 .rename_i o f t;split at a
  .rename_i A C m;simp only[zB,zU]at a;obtain⟨u,j⟩:=a;have p:A=H.next:=by obtain⟨F,_,e,_⟩:=fW m;exact e
   obtain⟨x,y,z⟩:=AO.new m;exact⟨o,f,t,by rw[<-u,p],by rw[<-j];exact x,by rw[<-j];exact y,by rw[<-j];exact z⟩
  .simp at a
 .simp at a
theorem zEv {pre f:List Ent}{e:Ent}{D:List Nat}(t:uI X r nt ops uL H0 es envF HF)(q:es=pre++e::f)(u: ∀p∈pre,wX (cls X p.o.op)=true->p.i∈D)(v: ∀p∈f,wX (cls X p.o.op)=true->p.i∉D)
  (x:e.want=true) (m:cls X e.o.op= .A) {o:AObj} {y:Nat->AV} (z:aA X e.env e.o.op=some (o,y)):(gV X D es HF).h.get e.H.next=some o/\e.H.next< (gV X D es HF).next:=by
 subst q;rw[KH u];have s:=Y4 t;obtain⟨_,_,C,env',_,F⟩:=s;rw[gV,if_neg (by rw[m];simp[wX])];obtain⟨o',K,a,_,L,J,N⟩:=zAN C x m;rw[z]at a;simp only[zB,zU]at a;obtain⟨rfl,rfl⟩:=a;have j:=KK F v;exact⟨j.2.2 _ _ J,by have:=j.1;omega⟩
theorem zHm {D:List Nat}{env:Env}{o:Op}{v:AV} : ∀ {a:List Ent} {j:Env} {H:AH},uI X r nt ops j H a envF HF->aL X env H o=some v->
  (∀q∈a,wX (cls X q.o.op)=true->q.i∈D->aL X env q.H' o=some v)->aL X env (gV X D a HF) o=some v
 | [],_,H,⟨_,h⟩,hv,_=>by rw[gV,<-h];exact hv
 | q::a,j,H,⟨h1,h2,h3,env',h4,h5⟩,hv,hq=>by
  rw[gV];split
  .rw[h2];exact hv
  .rename_i m;refine zHm h5 ?_ (fun p hp=>hq p (zC _ hp))
   cases f:wX (cls X q.o.op)with
   | false=>exact zMj (zN6 X r ops h3 f).2.2 _ hv
   | true=>
    refine hq q (zK ..) f (Classical.byContradiction fun s=>m ⟨f,s⟩)
theorem Row.inj (hR:Row X r nt ops uL H0 es envF HF){e q:Ent}(m:e∈es)(o:q∈es)(h:e.i=q.i):e=q:=by
 have:=hR.nd;clear hR
 induction es with
 | nil=>simp at m
 | cons a l ih=>
  simp only[yH,List.nodup_cons,qU,not_exists,not_and]at this;rcases zP.1 m with rfl | j
  .rcases zP.1 o with rfl | f
   .rfl
   .exact absurd h.symm (this.1 q f)
  .rcases zP.1 o with rfl | f
   .exact absurd h (this.1 e j)
   .exact ih j f this.2
theorem Row.dst (hR:Row X r nt ops uL H0 es envF HF){e q:Ent}(i:e∈es)(j:q∈es){t:Tmp}(m:e.o.dst=some t)(p:q.o.dst=some t):e=q:=by
 have:=hR.pair;clear hR
 induction es with
 | nil=>simp at i
 | cons a l ih=>
  simp only[yM]at this;rcases zP.1 i with rfl | h
  .rcases zP.1 j with rfl | f
   .rfl
   .exact absurd p ((this.1 q f).1 t m)
  .rcases zP.1 j with rfl | f
   .exact absurd m ((this.1 e h).1 t p)
   .exact ih h f this.2
theorem BT: ∀ {es:List Ent} {env:Env} {H:AH} {envF:Env} {HF:AH},uI X r nt ops env H es envF HF->(es.map (·.o.dst)).Pairwise (fun a b=> ∀d,a=some d->b≠some d)->
  ∀t,(∀p∈es,p.o.dst=some t->Eng.look envF t=some p.v)/\((∀p∈es,p.o.dst≠some t)->Eng.look envF t=Eng.look env t)
 | [],env,H,envF,HF,h,_,t=>by
  obtain⟨s,_⟩:=h;exact⟨fun p hp=>by simp at hp,fun _=>by rw[s]⟩
 | p::pre,env,H,envF,HF,⟨s,h2,h3,env',h4,h5⟩,hd,t=>by
  simp only[yH,yM]at hd;obtain⟨y,u⟩:=BT h5 hd.2 t;have j:=dY h4 t;refine⟨fun q f i=> ?_,fun m=> ?_⟩
  .rcases zP.1 f with rfl | f
   .rw[u (fun C x z=>hd.1 _ (List.mem_map_of_mem x) t i z),j,if_pos i]
   .exact y q f i
  .rw[u (fun q f=>m q (zC _ f)),j,if_neg (m p (zK ..))]
theorem zCv: ∀ {es:List Ent} {env:Env} {H:AH} {envF:Env} {HF:AH},uI X r nt ops env H es envF HF->(∀t,nt<=t->Eng.look env t=none)-> ∀t,nt<=t->Eng.look envF t=none
 | [],env,H,envF,HF,h,ho,t,f=>by rw[<-h.1];exact ho t f
 | p::pre,env,H,envF,HF,⟨h1,h2,h3,env',a,h5⟩,ho,t,f=>by
  refine zCv h5 (fun t f=> ?_) t f
  cases hd:p.o.dst with
  | none=>rw[hd]at a;simp only[VP,zB]at a;rw[<-a];exact ho t f
  | some d=>
   rw[hd]at a;simp only[VP,zF,qD]at a;split at a
   .injection a with a;subst a;unfold Eng.look;rw[bC,if_neg (by omega)];exact ho t f
   .simp at a
theorem zFf {D:List Nat} : ∀ {es:List Ent} {HF:AH},(∀e∈es,e.i∈D)->gV X D es HF=HF
 | [],_,_=>rfl
 | e::es,HF,h=>by
  rw[gV,if_neg (fun a=>a.2 (h e (zK ..)))];exact zFf (fun q f=>h q (zC _ f))
end
section
variable {P:Program}{X:Cx}(hX:Ok P X){r:Fns}(hr:Good P r)(hm:Mono r){nt:Nat}{ops:Array Oper}{uL:Env}{H0:AH}{es:List Ent}{envF:Env}{HF:AH}
include hX hr hm in
theorem zLn (hR:Row X r nt ops uL H0 es envF HF){R0 R:Ren}{w0 w:World}{D:List Nat}{fr:Frame}{k:List Item}{cs:List Frame}{j:Nat}{rest:List Nat}(a8:fr.mode= .run)(ht:fr.todo= .inRegion ops (j::rest)::k)
  (F:Inv X nt uL H0 es HF R0 w0 D R fr.tmps w) (hj:j∉D) {e:Ent} (he:e∈es) (N:e.i=j) (d8: ∀i,Bef ops j i->i∈D) (d0: ∀q∈es,q.i∈D-> ∀i,Bef ops q.i i->i∈D):
  ∃m K z,Steps P (lone fr cs w) (lone { fr with tmps:=zCV fr.tmps e.o.dst z,todo:= .inRegion ops rest::k} cs K)/\Inv X nt uL H0 es HF R0 w0 (j::D) m (zCV fr.tmps e.o.dst z) K:=by
 obtain⟨pre,a2,S⟩:=List.append_of_mem he;obtain⟨d9,hE,d1⟩:=F.env;have e5:=hR.pair;rw[S,j5,yM]at e5;obtain⟨g1,⟨e0,i4⟩,e1⟩:=e5;have e6:=hR.nd;rw[S,List.map_append,yH,List.nodup_append,List.nodup_cons]at e6;have g7: ∀q∈a2,q.i≠e.i:=fun q f h=>e6.2.1.1 (qU.2 ⟨q,f,h⟩)
 have b7: ∀p∈pre,wX (cls X p.o.op)=true->p.i∈D:=fun p hp g8=>d8 _ (by rw[<-N];exact(e1 p hp e (zK ..)).2 (.inl g8))
 have c5: ∀p∈pre,p∈es:=fun p hp=>by rw[S];exact yC _ hp
 have c4: ∀p∈a2,p∈es:=fun p hp=>by rw[S];exact yR _ (zC _ hp)
 have f8:wX (cls X e.o.op)=true-> ∀q∈a2,q.i∉D:=fun a4 q f hc=>hj (by rw[<-N];exact d0 q (c4 q f) hc _ ((e0 q f).2 (.inl a4)))
 have b5:=hR.chain;rw[S]at b5;have g9:(pre.map (·.o.dst)).Pairwise (fun a b=> ∀d,a=some d->b≠some d):=List.pairwise_map.2 (g1.imp fun h=>h.1);have d7: ∀t∈cD ops e.o,Eng.look d9 t=Eng.look e.env t:=by
  intro t e7;obtain⟨V,W⟩:=zCw b5 g9 t;obtain⟨Y,h4⟩:=d1 t;by_cases e8: ∃p∈pre,p.o.dst=some t
  .obtain⟨p,hp,d2⟩:=e8;have c6:fF ops p.o e.o=true:=by
    simp only[fF,d2,yO];exact .inl (by simpa using e7)
   rw[V p hp d2,Y p (c5 p hp) (d8 _ (by rw[<-N];exact(e1 p hp e (zK ..)).2 (.inr c6))) d2]
  .have a0: ∀p∈pre,p.o.dst≠some t:=fun p hp h=>e8 ⟨p,hp,h⟩
   rw[W a0,h4 (fun q f J a9=> ?_)];rw[S]at f;rcases qB.1 f with f | f
   .exact a0 q f a9
   .rcases zP.1 f with rfl | f
    .exact hj (N▸J)
    .have c6:fF ops e.o q.o=true:=by
      simp only[fF,a9,yO];exact .inr (by simpa using e7)
     exact hj (by rw[<-N];exact d0 q (c4 q f) J _ ((e0 q f).2 (.inr c6)))
 have b1:=zI2 d7;have b3:gV X D es HF=gV X D (e::a2) HF:=by rw[S];exact KH b7
 obtain⟨_,_,e2,i5,g2,b8⟩:=Y4 b5;obtain⟨f9,g3,g4⟩:=V4 X r ops e2;have hw:Region.wanted e.o (yielded ops fr.tmps)=e.want:=zCY hE (by rw[zFC d7,f9]);have Z:ops[j]? =some e.o:=by rw[<-N];exact hR.mem e he
 have e9: ∀q∈es,q.i∈j::D->q=e\/q.i∈D:=fun q f h=>by
  rcases zP.1 h with h | h
  .exact .inl (hR.inj f he (h.trans N.symm))
  .exact .inr h
 have b0:e.i∈j::D:=by rw[N];exact zK ..
 have e3: ∀m z,Sub R m->VR m e.v z-> ∃b2,EnvR m b2 nt (zCV fr.tmps e.o.dst z)/\ ∀t,(∀q∈es,q.i∈j::D->q.o.dst=some t->Eng.look b2 t=some q.v)/\((∀q∈es,q.i∈j::D->q.o.dst≠some t)->Eng.look b2 t=Eng.look uL t):=by
  intro m z c7 hv;obtain⟨b2,d3⟩:=zKK (env2:=d9) (v2:=e.v) g2;refine⟨b2,(hE.mono c7).put hv d3,fun t=>⟨fun q f J a9=> ?_,fun a0=> ?_⟩⟩
  .rw[dY d3];by_cases c2:e.o.dst=some t
   .rw[if_pos c2,hR.dst f he a9 c2]
   .rw[if_neg c2];rcases e9 q f J with rfl | h
    .exact absurd a9 c2
    .exact(d1 t).1 q f h a9
  .rw[dY d3,if_neg (a0 e he b0)];exact(d1 t).2 (fun q f h=>a0 q f (zC _ h))
 have b9:wX (cls X e.o.op)=false-> ∀m K z,Sub R m->VR m e.v z->Rel m (gV X D es HF) K->(∀q∈es,q.want=true->cls X q.o.op= .A->q.i∉j::D-> ∀b d c,¬m q.H.next b d c)->Ext R0 H0 w0 m (gV X D es HF) K->Inv X nt uL H0 es HF R0 w0 (j::D) m (zCV fr.tmps e.o.dst z) K:=by
  intro hn m K z c7 hv c0 a0 a3;have hc:gV X (j::D) es HF=gV X D es HF:=zFg (fun q f h0=>by rw[hR.inj f he (h0.trans N.symm)];exact hn);refine⟨e3 m z c7 hv,by rw[hc];exact c0,a0,fun p q po f V T U J o mk u=> ?_,by rw[hc];exact a3⟩;rw[hc];refine F.ob p q po f (fun x y b6=> ?_) T U (fun h=>J (zC _ h)) o mk u;rcases e9 x (by rw[f];exact yC _ y) (V x y b6)with rfl | h
  .rw[hn]at b6;simp at b6
  .exact h
 have c8:wX (cls X e.o.op)=true-> ∀m K z,VR m e.v z->Rel m e.H' K->Ext R e.H w m e.H' K->Inv X nt uL H0 es HF R0 w0 (j::D) m (zCV fr.tmps e.o.dst z) K:=by
  intro a4 m K z hv c0 a3;have a5:gV X D es HF=e.H:=by rw[b3,gV,if_pos ⟨a4,by rw[N];exact hj⟩]
  have c9:gV X (j::D) es HF=gV X (j::D) a2 HF:=by
   rw[S,KH (fun p hp h=>zC _ (b7 p hp h)),gV,if_neg (fun hc=>hc.2 b0)]
  have f1: ∀q∈a2,q.i∉j::D:=fun q f h=>by
   rcases zP.1 h with h | h
   .exact g7 q f (h.trans N.symm)
   .exact f8 a4 q f h
  have c3:AO e.H' (gV X (j::D) a2 HF):=KK b8 (fun q f _=>f1 q f);refine⟨e3 m z a3.sub hv,by rw[c9];exact c0.more c3,fun q f T U J b d c f2=> ?_,fun p q po f V T U J o mk u=> ?_, ?_⟩
  .rw[S]at f;rcases qB.1 f with f | f
   .rcases a3.newA _ _ _ _ f2 with h | h
    .exact F.no q (c5 q f) T U (fun h=>J (zC _ h)) _ _ _ h
    .obtain⟨p1,p2,hp⟩:=List.append_of_mem f;have b4:=b5;rw[hp,qI,qF]at b4;obtain⟨_,_,d4,env2,_,d5⟩:=Y4 b4;obtain⟨_,_,_,_,_,_,h9⟩:=zAN d4 T U;have:=(wL hm d5).2 e (by simp);omega
   .rcases zP.1 f with rfl | f
    .exact J b0
    .have:=(c0.lt _ _ _ _ f2).2;have:=(wL hm b8).2 q f;omega
  .rcases List.append_eq_append_iff.1 (S.symm.trans f)with⟨a,d6,a1⟩ | ⟨a,d6,a1⟩
   .cases a with
    | nil=>
     simp only[qS,yE]at a1;exact absurd b0 (by rw[a1.1];exact J)
    | cons x a=>
     simp only[qF,yE]at a1;exact zEv hR.chain f V (fun x y _=>f1 x (by rw[a1.2];simp[y])) T U u
   .cases a with
    | nil=>
     simp only[qS,yE]at a1;exact absurd b0 (by rw[<-a1.1];exact J)
    | cons x a=>
     simp only[qF,yE]at a1;have h6:=a1.1;subst h6;have g0:q∈pre:=by rw[d6];simp
     have e4:q.i∉D:=fun h=>J (zC _ h)
     obtain⟨W,Y⟩:=F.ob p q po f (fun x y b6=>b7 x (by rw[d6];simp[y]) b6) T U e4 o mk u;rw[a5]at W Y;rw[c9,c3.2.1 _ (qQ Y a3.next),a3.keepA _ Y (F.no q (c5 q g0) T U e4)]
     exact⟨W,qQ Y (qP a3.next c3.1)⟩
  .rw[c9];have:=F.ext;rw[a5]at this;exact(this.trans a3).more c3
 have c1: ∀q∈es,q.want=true->cls X q.o.op= .A->q.i∉j::D-> ∀b d c,¬R q.H.next b d c:=fun q f T U J=>F.no q f T U (fun h=>J (zC _ h))
 cases a6:e.want with
 | false=>
  rw[a6]at hw;obtain⟨hv,f3⟩:=g4 a6;refine⟨R,w,undef,by rw[<-kE ht Z];exact .one (WC a8 ht Z hw), ?_⟩;have f4:VR R e.v undef:=by rw[hv];exact zB0 R
  cases a4:wX (cls X e.o.op)with
  | false=>exact b9 a4 R w undef (zRe R) f4 F.rel c1 F.ext
  | true=>
   have a5:gV X D es HF=e.H:=by rw[b3,gV,if_pos ⟨a4,by rw[N];exact hj⟩]
   refine c8 a4 R w undef f4 ?_ ?_
   .rw[f3,<-a5];exact F.rel
   .rw[f3];exact zRh _ _ _
 | true=>
  rw[a6]at hw;have a7:=g3 a6;have hd: ∀c,e.o.op≠ .defer c:=by
   intro c hc;rw[hc]at a7;simp[opF,cls,aE]at a7
  cases O:cls X e.o.op with
  | P=>
   have u:=a7;unfold opF at u;rw[O]at u;simp only at u;unfold wV at u;split at u
   .rename_i x y;simp only[zB,zU]at u;rw[<-zFv _ b1]at y;obtain⟨z,V,W⟩:=simP hX F.rel.fn (w:=w) hE y;refine⟨R,w,z,by rw[<-kE ht Z];exact .one (uP a8 ht Z hw hd V),b9 (by rw[O];rfl) R w z (zRe R) (by rw[<-u.1];exact W) F.rel c1 F.ext⟩
   .simp at u
  | L=>
   have u:=a7;unfold opF at u;rw[O]at u;simp only at u;unfold wV at u;split at u
   .rename_i x y;simp only[zB,zU]at u;have f5:aL X e.env (gV X D es HF) e.o.op=some x:=by
     rw[b3,gV,if_neg (by rw[O];simp[wX])];refine zHm b8 (by rw[<-u.2];exact y) (fun q f h7 J=> ?_);have f6:=hR.see;rw[S,j5,yM]at f6;rw[u.1];exact f6.2.1.1 q f a6 h7 (fun hb=>hj (by rw[<-N];exact d0 q (c4 q f) J _ hb)) O
    rw[<-zFw _ b1]at f5;obtain⟨z,V,W⟩:=simL hX F.rel hE f5;refine⟨R,w,z,by rw[<-kE ht Z];exact .one (uP a8 ht Z hw hd V),b9 (by rw[O];rfl) R w z (zRe R) (by rw[<-u.1];exact W) F.rel c1 F.ext⟩
   .simp at u
  | A=>
   obtain⟨o,mk,hA,hv,Y,h4,h5⟩:=zAN e2 a6 O;obtain⟨g5,g6⟩:=F.ob pre e a2 S b7 a6 O (by rw[N];exact hj) o mk hA;have f7:=hA;rw[<-zFx _ b1]at f7;obtain⟨s,hs,x,c,kk,z,h8,i0⟩:=simA hX (w:=w) hE f7;obtain⟨i1,i2⟩:=i0 e.H.next
   have a0:=F.no e he a6 O (by rw[N];exact hj);refine⟨R.add e.H.next w.heap.size 0 c,World.alloc { w with drawn:=kk} x,z, ?_, ?_⟩
   .rw[<-kE ht Z];refine .one (uP a8 ht Z hw hd ?_);rw[hs];simp only[zH,h8,Result.andThen];rfl
   .refine b9 (by rw[O];rfl) _ _ z (R.sub_add _ _ _ _) (by rw[hv];exact i2) ?_ ?_ ?_
    .exact(F.rel.drew kk).add (w:= { w with drawn:=kk}) g5 g6 a0 i1
    .intro q f T U J b d c'
     rintro(h | ⟨h,_⟩)
     .exact c1 q f T U J _ _ _ h
     .rw[S]at f;rcases qB.1 f with f | f
      .obtain⟨p1,p2,hp⟩:=List.append_of_mem f;have b4:=b5;rw[hp,qI,qF]at b4;obtain⟨_,_,d4,env2,_,d5⟩:=Y4 b4;obtain⟨_,_,_,_,_,_,h9⟩:=zAN d4 T U;have:=(wL hm d5).2 e (by simp);omega
      .rcases zP.1 f with rfl | f
       .exact J b0
       .have:=(wL hm b8).2 q f;omega
    .have y:=F.ext;have i3:H0.next<=e.H.next:=(wL hm hR.chain).2 e he
     refine⟨y.sub.trans (R.sub_add _ _ _ _), ?_, ?_,y.next,y.keepA,y.os,y.tape,y.output, ?_, ?_⟩
     .rintro A b d c' (h | ⟨rfl,rfl,rfl,rfl⟩)
      .exact y.new _ _ _ _ h
      .exact .inr (.inl y.size)
     .rintro A b d c' (h | ⟨rfl,rfl,rfl,rfl⟩)
      .exact y.newA _ _ _ _ h
      .exact .inr i3
     .rw[kS];exact Nat.le_succ_of_le y.size
     .intro b hb hk;exact(heap_alloc_old { w with drawn:=kk} x b (qQ hb y.size)).trans (y.keep b hb hk)
  | E=>
   have a5:gV X D es HF=e.H:=by rw[b3,gV,if_pos ⟨by rw[O];rfl,by rw[N];exact hj⟩]
   have hL:=F.rel;rw[a5]at hL;rw[<-zBH _ b1]at a7;obtain⟨m,K,z,V,W,Y,h4⟩:=zEt hX hr (cs:=cs) a8 ht Z hw hE hL a7;exact⟨m,K,z,V,c8 (by rw[O];rfl) m K z W Y h4⟩
  | C=>
   have a5:gV X D es HF=e.H:=by rw[b3,gV,if_pos ⟨by rw[O];rfl,by rw[N];exact hj⟩]
   have hL:=F.rel;rw[a5]at hL;rw[<-zBH _ b1]at a7;obtain⟨m,K,z,V,W,Y,h4⟩:=zEt hX hr (cs:=cs) a8 ht Z hw hE hL a7;exact⟨m,K,z,V,c8 (by rw[O];rfl) m K z W Y h4⟩
end
section
variable {P:Program}{X:Cx}(hX:Ok P X){r:Fns}(hr:Good P r)(hm:Mono r){nt:Nat}{ops:Array Oper}{uL:Env}{H0:AH}{es:List Ent}{envF:Env}{HF:AH}
include hX hr hm in
theorem zIq (hR:Row X r nt ops uL H0 es envF HF)(p: ∀j,j<ops.size-> ∃e∈es,e.i=j){t:Ren}{u:World}{fr:Frame}{k:List Item}{cs:List Frame}(h:fr.mode= .run): ∀(rest D:List Nat) (R:Ren) (tmps:Array Value) (w:World),
  Valid .any ops D rest->(∀j∈D,∀o,ops[j]? =some o-> ∀e∈o.after.toList,Region.binds .any e=true->e.on∈D)->Inv X nt uL H0 es HF t u D R tmps w->
  ∃U v m y,Steps P (lone { fr with tmps:=tmps,todo:= .inRegion ops rest::k} cs w) (lone { fr with tmps:=m,todo:= .inRegion ops []::k} cs v)/\Inv X nt uL H0 es HF t u y U m v/\(∀j,j∈D\/j∈rest->j∈y)
 | [],D,R,tmps,w,_,_,hI=>⟨R,w,tmps,D, .refl _ _,hI,fun j V=>by simpa using V⟩
 | j::rest,D,R,tmps,w,hv,hcl,hI=>by
  obtain⟨W,Y,C,Z⟩:=hv;obtain⟨e,he,J⟩:=p j Y;have hb: ∀i,Bef ops j i->i∈D:=fun i hi=>ZP hcl j j (zQ _) C i hi
  obtain⟨R1,w1,z,K,L⟩:=zLn hX hr hm hR (fr:= { fr with tmps:=tmps,todo:= .inRegion ops (j::rest)::k}) (k:=k) (cs:=cs) h rfl hI W he J hb
   (fun q a N i hi=>ZP hcl q.i q.i (zQ _) (fun o f=>hcl q.i N o f) i hi)
  obtain⟨R2,w2,t2,D2,O,S,T⟩:=zIq hR p h rest (j::D) R1 (zCV tmps e.o.dst z) w1 Z (fun q a o f x F s=>by
   rcases zP.1 a with rfl | a
   .exact zC _ (C o f x F s)
   .exact zC _ (hcl q a o f x F s)) L
  refine⟨R2,w2,t2,D2,K.trans O,S,fun i hi=>T i ?_⟩;rcases hi with hi | hi
  .exact .inl (zC _ hi)
  .rcases zP.1 hi with rfl | hi
   .exact .inl (zK ..)
   .exact .inr hi
include hm in
theorem zIr (hR:Row X r nt ops uL H0 es envF HF){R:Ren}{a:Array Value}{w:World}(p:EnvR R uL nt a)(hL:Rel R H0 w):Inv X nt uL H0 es HF R w [] R a w:=by
 have f:AO H0 (gV X [] es HF):=KK hR.chain (fun _ _ _=>by simp);refine⟨⟨uL,p,fun t=>⟨fun e _ h=>by simp at h,fun _=>rfl⟩⟩,hL.more f,fun e q i j _ b d c h=> ?_,fun pre e v m s i j _ o x u=> ?_,(zRh R H0 w).more f⟩
 .have:=(hL.lt _ _ _ _ h).2;have:=(wL hm hR.chain).2 e q;omega
 .exact zEv hR.chain m s (fun _ _ _=>by simp) i j u
theorem zBJ: ∀(l:List Nat),zEw l=true->l.Nodup
 | [],_=>List.nodup_nil
 | x::l,h=>by
  simp only[zEw,zE,yT,List.contains_eq_mem,yP]at h;exact List.nodup_cons.2 ⟨h.1,zBJ l h.2⟩
theorem UI {masks:List Nat} : ∀(l:List (Nat×Oper)),zAo X ops masks l=true->l.Pairwise fun a b=>zHW X ops masks a b=true
 | [],_=>List.Pairwise.nil
 | a::l,h=>by
  simp only[zAo,zE,y9]at h;exact yM.2 ⟨h.1,UI l h.2⟩
theorem zHq {masks:List Nat}{a:Nat×Oper}(h:a∈rowOf X ops masks):ops[a.1]? =some a.2:=by
 have base: ∀a∈(List.range ops.size).filterMap (fun i=>match zGs ops.toList i with | some o=>some (i,o) | none=>none),ops[a.1]? =some a.2:=by
  intro a m;obtain⟨i,_,hi⟩:=List.mem_filterMap.1 m;split at hi
  .rename_i o j;simp only[zB]at hi;subst hi;rw[zDe]at j;simpa using j
  .simp at hi
 unfold rowOf at h;simp only at h;obtain⟨s,_,f⟩:=List.mem_flatMap.1 h;rcases qB.1 f with f | f
 .exact base a (List.mem_filter.1 (List.mem_filter.1 f).1).1
 .split at f
  .rename_i e p;simp only[y6]at f;subst f;exact base a (List.mem_filter.1 (List.mem_of_getElem? p)).1
  .simp at f
include hX hr hm in
theorem zJs {id:Nat}{env envF:Env}{H HF:AH}{row:List (Nat×Oper)}{masks:List Nat}{es:List Ent}(s:plan X ops=some (row,masks))(C:uI X r nt ops env H es envF HF)(z:es.map (fun e=>(e.i,e.o))=row)
  (b1:es.Pairwise fun a b=>a.want=true->wX (cls X b.o.op)=true->(masks.getD b.i 0).testBit a.i=false->cls X a.o.op= .L->aL X a.env b.H' a.o.op=some a.v):zKe P nt (.region id ops true) env H .normal envF HF:=by
 intro R fr k cs w F ht hE hL;unfold plan at s;simp only[zF]at s;split at s
 .rename_i Y;simp only[zB,zU]at s;obtain⟨a5,a2⟩:=s;rw[<-a5]at z;simp only[zQ2,zE]at Y;obtain⟨⟨⟨⟨a3,b2⟩,a4⟩,S⟩,_⟩:=Y;have hi:es.map (·.i)=(rowOf X ops (wY ops.toList [])).map (·.1):=by rw[<-z];simp
  have U: ∀e∈es,ops[e.i]? =some e.o:=fun e m=>zHq (a:=(e.i,e.o)) (by rw[<-z];exact qU.2 ⟨e,m,rfl⟩)
  have Z:=UI _ a4;rw[<-z,List.pairwise_map]at Z;have hR:Row X r nt ops env H es envF HF:=by
   refine⟨C,U,by rw[hi];exact zBJ _ b2,Z.imp ?_,b1.imp ?_⟩
   .intro a b u;simp only[zHW,zE,yO,yT,Bool.or_eq_false_iff]at u;refine⟨fun d q N=> ?_,fun f=> ?_⟩
    .simp[q,N]at u
    .rcases u.2 with y | y
     .exact y
     .rcases f with f | f
      .rw[y.1]at f;simp at f
      .rw[y.2]at f;simp at f
   .intro a b u hw hb b3 hL;rw[<-a2]at u;have a6:((wY ops.toList []).getD b.i 0).testBit a.i=false:=by
     cases hh:((wY ops.toList []).getD b.i 0).testBit a.i with
     | false=>rfl
     | true=>exact absurd hh b3
    exact u hw hb a6 hL
  have a7: ∀j,j<ops.size-> ∃e∈es,e.i=j:=by
   intro j hj;simp only[y9,List.mem_range]at S;have q:=S j hj;rw[<-hi]at q;simp only[List.contains_eq_mem,zR,qU]at q;exact q
  obtain⟨a8,a9⟩:=zD5 a3 (P.follows .mixedOrders) (w.tape w.drawn (.order fr.fn id));have b4:=zIr hm hR hE (hL.drew (w.drawn+1));obtain⟨R1,w1,t1,D1,b5,J,b6⟩:=zIq hX hr hm hR a7 (fr:=fr) (k:=k) (cs:=cs) F _ [] R fr.tmps _ a8 (by simp) b4;have T: ∀e∈es,e.i∈D1:=fun e m=>b6 _ (.inr (a9 _ (by
   have:=U e m;exact(Array.getElem?_eq_some_iff.1 this).1)))
  have b7:gV X D1 es HF=HF:=zFf T;have V:=J.rel;have W:=J.ext;rw[b7]at V W;refine⟨R1,w1,t1,k,(Steps.one (zNB F ht)).trans (b5.trans (.one (xM (fr:= { fr with tmps:=t1,todo:= .inRegion ops []::k}) F rfl))),rfl, ?_,V,(Ext.drew R H w _).trans W⟩;obtain⟨b0,a0,b8⟩:=J.env;have b9:(es.map (·.o.dst)).Pairwise (fun a b=> ∀d,a=some d->b≠some d):=List.pairwise_map.2 (hR.pair.imp fun h=>h.1);refine⟨a0.size,fun t x hx=> ?_,zCv C hE.out⟩;have:Eng.look envF t=Eng.look b0 t:=by
   obtain⟨q,N⟩:=BT C b9 t;obtain⟨f,y⟩:=b8 t;by_cases K: ∃e∈es,e.o.dst=some t
   .obtain⟨e,m,a1⟩:=K;rw[q e m a1,f e m (T e m) a1]
   .rw[N (fun p hp O=>K ⟨p,hp,O⟩),y (fun p hp _ O=>K ⟨p,hp,O⟩)]
  rw[this]at hx;exact a0.get t x hx
 .simp at s
end
end Go.Eng
end
section
noncomputable section
namespace Go.Eng
inductive Ex where
 | norm (vs:List AV)
 | exit (id:Nat) (vs:List AV)
 | ret (v:AV)
abbrev Rs:=Option (Ex×AH)
def bV (x:Option AV)(K:AV->Rs):Rs:=Option.rec (motive:=fun _=>Rs) none (fun v=>K v) x
def bR (x:Option (AV×AH))(K:AV->AH->Rs):Rs:=Option.rec (motive:=fun _=>Rs) none (fun p=>Prod.rec (motive:=fun _=>Rs) (fun v H=>K v H) p) x
def hd (vs:List AV)(K:AV->List AV->Rs):Rs:=List.rec (motive:=fun _=>Rs) none (fun v l _=>K v l) vs
def cnd (c:AV)(a b:Rs):Rs:=match c with | .bool true=>a | .bool false=>b | _=>none
def jn (x:Rs)(K:List AV->AH->Rs):Rs:=match x with
 | some (.norm vs,H)=>K vs H
 | some (.exit id vs,H)=>some (.exit id vs,H)
 | some (.ret v,H)=>some (.ret v,H)
 | none=>none
def jb (id:Nat)(x:Rs)(K:List AV->AH->Rs):Rs:=match x with
 | some (.norm vs,H)=>K vs H
 | some (.exit i vs,H)=>bif Nat.beq i id then K vs H else some (.exit i vs,H)
 | some (.ret v,H)=>some (.ret v,H)
 | none=>none
def jY (n:Nat)(b:List AV->AH->Rs):List AV->AH->Rs:=
 Nat.rec (motive:=fun _=>List AV->AH->Rs) (fun _ _=>none) (fun _ a vs H=>jn (b vs H) a) n
def wnt (x:AV)(f:Bool)(a b:Rs):Rs:=bif isW x f then a else b
def chk (x:Option AV)(v:AV)(K:Rs):Rs:=match x with | some y=>bif aveq y v then K else none | none=>none
def VQ (H:AH)(o:AObj)(K:Nat->AH->Rs):Rs:=
 match T.get H.h H.next with
 | none=>match T.set 40 H.h H.next o with
  | some t=>fN (Nat.succ H.next) fun m=>K H.next ⟨t,m⟩
  | none=>none
 | some _=>none
def bA (x:Option (AObj×(Nat->AV)))(H:AH)(K:AV->AH->Rs):Rs:=
 match x with
 | some (o,mk)=>VQ H o fun A H'=>K (mk A) H'
 | none=>none
def kI (f:BinOp)(x y:AV):Option AV:=match x with
 | .int k a=>match y with | .int k' b=>gY f k a k' b | _=>none
 | _=>none
def aV (a:BinOp)(x y:AV):Option AV:=match x with
 | .str l b=>match y with | .str m c=>zCS a l b m c | _=>none
 | _=>none
def K0 (f:BinOp)(x y:AV):Option AV:=match x with
 | .bool a=>match y with
  | .bool b=>match f with
   | .eql=>mkB (a==b)
   | .neq=>mkB !(a==b)
   | _=>none
  | _=>none
 | _=>none
def bZ (a:BinOp)(r:Option Bool):Option AV:=match r with
 | some b=>match a with
  | .eql=>mkB b
  | .neq=>mkB !b
  | _=>none
 | none=>none
def eqP (x y:AV):Option Bool:=match x with
 | .nilPtr=>match y with
  | .nilPtr=>some true
  | .ptr _ _=>some false
  | _=>none
 | .ptr A o=>match y with
  | .nilPtr=>some false
  | .ptr B p=>bif Nat.beq A B then some (Nat.beq o p)else none
  | _=>none
 | _=>none
def eqS (x y:AV):Option Bool:=match x with
 | .nilSlice=>match y with
  | .nilSlice=>some true
  | .slice _ _ _ _=>some false
  | _=>none
 | .slice _ _ _ _=>match y with
  | .nilSlice=>some false
  | _=>none
 | _=>none
def eqM (x y:AV):Option Bool:=match x with
 | .nilMap=>match y with
  | .nilMap=>some true
  | .map _=>some false
  | _=>none
 | .map _=>match y with
  | .nilMap=>some false
  | _=>none
 | _=>none
def eqF (x y:AV):Option Bool:=match x with
 | .nilFunc=>match y with
  | .nilFunc=>some true
  | .func _ _ _=>some false
  | _=>none
 | .func _ _ _=>match y with
  | .nilFunc=>some false
  | _=>none
 | _=>none
def eqA (f:List Nat)(x y:AV):Option Bool:=match x with
 | .agg a=>match y with
  | .agg b=>bif Nat.beq (Z4 a 0) (Z4 b 0)&&Nat.beq f.length (Z4 a 0)then u5 f a b else none
  | _=>none
 | _=>none
def zPA (x y:AV)(H:AH):Option Bool:=match x with
 | .nilPtr=>match y with
  | .nilPtr=>some true
  | .ptr _ _=>some false
  | _=>none
 | .ptr A o=>match y with
  | .nilPtr=>some false
  | .ptr B p=>bif Nat.beq A B then some (Nat.beq o p)else bif QL A H&&QL B H then some false else none
  | _=>none
 | _=>none
def zKy (X:Cx)(a:BinOp)(t:TypeId)(x y:AV)(H:AH):Option AV:=
 match X.und t with
 | some (.pointer e)=>match X.size e with
  | some 0=>none
  | some _=>bZ a (zPA x y H)
  | none=>none
 | _=>none
def zPn (X:Cx)(a:BinOp)(t:TypeId)(x y:AV):Option AV:=
 match X.und t with
 | some (.int _)=>kI a x y
 | some .string=>aV a x y
 | some .bool=>K0 a x y
 | some (.pointer e)=>match X.size e with
  | some 0=>none
  | some _=>bZ a (eqP x y)
  | none=>none
 | some (.slice _)=>bZ a (eqS x y)
 | some (.map _ _)=>bZ a (eqM x y)
 | some (.func _ _ _)=>bZ a (eqF x y)
 | some (.struct _)=>match zDp t X.fl with | some qs=>bZ a (eqA qs x y) | none=>none
 | some (.array _ _)=>match zDp t X.fl with | some qs=>bZ a (eqA qs x y) | none=>none
 | _=>none
def ldN (n:Nat)(p:AV)(H:AH):Option AV:=match p with
 | .ptr A off=>match H.h.get A with
  | some (.cells l _ _ _)=>match uU l off n with | some c=>some (.agg c) | none=>none
  | _=>none
 | _=>none
def ld1 (p:AV)(H:AH):Option AV:=match p with
 | .ptr A off=>match H.h.get A with
  | some (.cells l _ _ _)=>nth l off
  | _=>none
 | _=>none
def zGT (X:Cx)(t:TypeId)(p:AV)(H:AH):Option AV:=
 match X.und t with
 | some d=>bif d8 d then(match X.size t with | some n=>ldN n p H | none=>none)else ld1 p H
 | none=>none
def stN (n:Nat)(p x:AV)(H:AH):Option (AV×AH):=match p with
 | .ptr A off=>match H.h.get A with
  | some (.cells l e sz g)=>bif (Z4 (jT x) 0).beq n&&jP (jT x)&&Nat.blt 0 sz then
    match setAt l off (jT x)with
    | some l'=>match fV H A (.cells l' e sz g)with
     | some H'=>some (jO,H')
     | none=>none
    | none=>none
   else none
  | _=>none
 | _=>none
def zGS (X:Cx)(t:TypeId)(p x:AV)(H:AH):Option (AV×AH):=
 match X.size t with | some n=>stN n p x H | none=>none
def cvI (k:IntKind)(x:AV):Option AV:=match x with | .int _ n=>mkI k n | _=>none
def zPE (x:AV):Option AV:=match x with | .str l b=>some (.str l b) | _=>none
def zH0 (X:Cx)(a dst:TypeId)(x:AV):Option AV:=
 match X.und a with
 | none=>none
 | some ds=>match X.und dst with
  | some (.int k)=>cvI k x
  | some .string=>match ds with
   | .string=>zPE x
   | _=>none
  | _=>none
def zFb (x:AV)(H:AH):Option AV:=match x with
 | .nilSlice=>some (.str 0 0)
 | .slice A off len _=>match H.h.get A with
  | some (.cells l _ _ _)=>match uU l off len with
   | some c=>match QA c with
    | some (n,b)=>mkS n b
    | none=>none
   | none=>none
  | _=>none
 | _=>none
def zEb (X:Cx)(a dst:TypeId)(x:AV)(H:AH):Option AV:=
 match X.und a with
 | some (.slice e)=>match X.und dst with
  | some .string=>match X.und e with
   | some (.int .u8)=>zFb x H
   | _=>none
  | _=>none
 | _=>none
def zNa (e:TypeId)(x:AV):Option (AObj×(Nat->AV)):=match x with
 | .str l b=>bif Nat.blt l 4611686018427387904 then some (.cells (bytesOf l b) e 1 true,fun A=> .slice A 0 l 1)else none
 | _=>none
def zH2 (X:Cx)(a dst:TypeId)(x:AV):Option (AObj×(Nat->AV)):=
 match X.und a with
 | some .string=>match X.und dst with
  | some (.slice e)=>match X.und e with
   | some (.int .u8)=>zNa e x
   | _=>none
  | _=>none
 | _=>none
def VT (x:AV)(lo hi:Option AV):Option AV:=match kX lo,kX hi with
 | some lo,some hi=>match x with | .str len bits=>zK4 len bits lo hi | _=>none
 | _,_=>none
def vY (sz:Nat)(x:AV)(lo hi a:Option AV)(H:AH):Option AV:=match kX lo,kX hi,kX a with
 | some lo,some hi,some a=>match x with
  | .nilSlice=>bif (lo.getD 0).beq 0&&(hi.getD 0).beq 0&&(a.getD 0).beq 0&&(a.isNone||hi.isSome)then some .nilSlice else none
  | .slice A off len cc=>match H.h.get A with
   | some (.cells l _ sz' g)=>bif Nat.blt 0 sz then K1 A off len cc sz (kL l g sz' off cc sz) lo hi a else none
   | _=>none
  | .emptySl=>match a with
   | none=>bif (lo.getD 0).beq 0&&(hi.getD 0).beq 0 then some .emptySl else none
   | some _=>none
  | _=>none
 | _,_,_=>none
def xF (n sz:Nat)(x:AV)(lo hi a:Option AV):Option AV:=match kX lo,kX hi,kX a with
 | some lo,some hi,some a=>match x with
  | .ptr A off=>bif Nat.blt 0 sz then K1 A off n (2*n) sz n lo hi a else none
  | _=>none
 | _,_,_=>none
def zEa (X:Cx)(t:TypeId)(x:AV)(lo hi a:Option AV)(H:AH):Option AV:=
 match X.und t with
 | some .string=>match a with | none=>VT x lo hi | some _=>none
 | some (.slice e)=>match X.size e with | some sz=>vY sz x lo hi a H | none=>none
 | some (.array n e)=>match X.size e with | some sz=>xF n sz x lo hi a | none=>none
 | some (.pointer arr)=>match X.und arr with
  | some (.array n e)=>match X.size e with | some sz=>xF n sz x lo hi a | none=>none
  | _=>none
 | _=>none
def fJ (n sz:Nat)(x a:AV):Option AV:=match YU a with
 | some i=>match x with
  | .ptr A off=>bif Nat.blt i n then fN (off+i*sz) fun o=>some (.ptr A o)else none
  | _=>none
 | none=>none
def uX (sz:Nat)(x a:AV):Option AV:=match YU a with
 | some i=>match x with
  | .slice A off len _=>bif Nat.blt i len then fN (off+i*sz) fun o=>some (.ptr A o)else none
  | _=>none
 | none=>none
def zD0 (X:Cx)(t:TypeId)(x a:AV):Option AV:=
 match X.und t with
 | some (.array n e)=>match X.size e with | some sz=>fJ n sz x a | none=>none
 | some (.slice e)=>match X.size e with | some sz=>uX sz x a | none=>none
 | _=>none
def XA (x a:AV):Option AV:=match YU a with
 | some i=>match x with
  | .str len bits=>bif Nat.blt i len then fN ((bits / 2 ^ (8*i)) % 256) fun b=>some (.int .u8 (.ofNat b))else none
  | _=>none
 | none=>none
def zBZ (n sz:Nat)(x a:AV):Option AV:=match YU a with
 | some i=>match x with
  | .agg cs=>bif Nat.blt i n then nth cs (i*sz)else none
  | _=>none
 | none=>none
def zG1 (n sz:Nat)(x a:AV):Option AV:=match YU a with
 | some i=>match x with
  | .agg cs=>bif Nat.blt i n then match uU cs (i*sz) sz with | some c=>some (.agg c) | none=>none else none
  | _=>none
 | none=>none
def zGW (X:Cx)(t:TypeId)(x a:AV):Option AV:=
 match X.und t with
 | some .string=>XA x a
 | some (.array n e)=>match X.und e,X.size e with
  | some d,some sz=>bif d8 d then zG1 n sz x a else zBZ n sz x a
  | _,_=>none
 | _=>none
def fd1 (off:Nat)(x:AV):Option AV:=match x with | .agg cs=>nth cs off | _=>none
def fdN (off n:Nat)(x:AV):Option AV:=match x with | .agg cs=>(match uU cs off n with | some c=>some (.agg c) | none=>none) | _=>none
def zGY (X:Cx)(t:TypeId)(x:AV)(f:Nat):Option AV:=
 match X.und t with
 | some (.struct fs)=>match zO5 fs.toList f with
  | some fl=>match X.und fl.type,X.size fl.type with
   | some d,some n=>bif d8 d then fdN fl.offset n x else fd1 fl.offset x
   | _,_=>none
  | none=>none
 | _=>none
def fAd (off:Nat)(x:AV):Option AV:=match x with | .ptr A o=>fN (o+off) fun o=>some (.ptr A o) | _=>none
def YG (X:Cx)(s:TypeId)(x:AV)(f:Nat):Option AV:=
 match X.und s with
 | some (.struct fs)=>match zO5 fs.toList f with
  | some fl=>match X.size fl.type with
   | some 0=>none
   | some _=>fAd fl.offset x
   | none=>none
  | none=>none
 | _=>none
def X3 (x:AV):Option AV:=match x with | .str l _=>some (.int .i64 (.ofNat l)) | _=>none
def lnSl (x:AV):Option AV:=match x with
 | .nilSlice=>some (.int .i64 (.ofNat 0))
 | .slice _ _ n _=>some (.int .i64 (.ofNat n))
 | .emptySl=>some (.int .i64 (.ofNat 0))
 | _=>none
def QK (x:AV)(H:AH):Option AV:=match x with
 | .nilMap=>some (.int .i64 (.ofNat 0))
 | .map A=>match H.h.get A with
  | some (.map _ es)=>fN es.length fun n=>some (.int .i64 (.ofNat n))
  | _=>none
 | _=>none
def tLen (X:Cx)(t:TypeId)(x:AV)(H:AH):Option AV:=
 match X.und t with
 | some .string=>X3 x
 | some (.slice _)=>lnSl x
 | some (.array n _)=>some (.int .i64 (.ofNat n))
 | some (.map _ _)=>QK x H
 | _=>none
def apP (e sz bytes:Nat)(s x:AV)(H:AH):Option (AV×AH):=
 match srcOf sz x H with
 | some (n,new)=>bif jP new then app1 e sz bytes n new s H else none
 | none=>none
def apZ (e sz bytes:Nat)(z:List AV)(s x:AV)(H:AH):Option (AV×AH):=match x with
 | .int .i64 (.ofNat n)=>bif Nat.ble (n*bytes) 281474976710656&&Nat.blt n 4611686018427387904 then app1 e sz bytes n (rep n z) s H else none
 | _=>none
def tApp (X:Cx)(t u:TypeId)(s x:AV)(H:AH):Option (AV×AH):=
 match X.und t with
 | some (.slice e)=>match X.ty.get e with
  | some ti=>match X.und u with
   | some (.slice _)=>bif KR ti.size ti.zero then apP e ti.size ti.bytes s x H else none
   | some .string=>bif KR ti.size ti.zero then apP e ti.size ti.bytes s x H else none
   | some (.int _)=>match aS X e with
    | some z=>bif KR ti.size ti.zero&&jP (jT z)then apZ e ti.size ti.bytes (jT z) s x H else none
    | none=>none
   | _=>none
  | none=>none
 | _=>none
def cpy (sz:Nat)(dst a:AV)(H:AH):Option (AV×AH):=
 match dst with
 | .nilSlice=>match a with
  | .nilSlice=>some (.int .i64 (.ofNat 0),H)
  | .slice _ _ _ _=>some (.int .i64 (.ofNat 0),H)
  | .str _ _=>some (.int .i64 (.ofNat 0),H)
  | _=>none
 | .slice A off len _=>match srcOf sz a H with
  | some (n,new)=>
   match takeN (Nat.min n len*sz) new with
   | some new=>bif jP new then
     match H.h.get A with
     | some (.cells l e' sz' g)=>match(bif Nat.blt 0 sz' then setAt l off new else none)with
      | some l'=>match fV H A (.cells l' e' sz' g)with
       | some H'=>fN (Nat.min n len) fun m=>some (.int .i64 (.ofNat m),H')
       | none=>none
      | none=>none
     | _=>none
    else none
   | none=>none
  | none=>none
 | _=>none
def zNs (X:Cx)(t:TypeId)(dst a:AV)(H:AH):Option (AV×AH):=
 match X.und t with
 | some (.slice e)=>match X.size e with | some sz=>cpy sz dst a H | none=>none
 | _=>none
def vR (f:List (Nat×Nat))(z:List AV)(a:List (Nat×AV)):Option AV:=
 match fK (zLb f) z a with | some c=>some (.agg c) | none=>none
def zM0 (sz:Nat)(z:List AV)(a:List (Nat×AV)):Option AV:=
 match fK (fun i=>some (i*sz,sz)) z a with | some c=>some (.agg c) | none=>none
def zH4 (X:Cx)(t:TypeId)(a:Option (List (Nat×AV))):Option AV:=
 match aS X t with
 | some z=>match a with
  | some parts=>match X.und t with
   | some (.struct fs)=>match YP X fs.toList with
    | some pl=>vR pl (jT z) parts
    | none=>none
   | some (.array _ e)=>match X.size e with
    | some sz=>zM0 sz (jT z) parts
    | none=>none
   | _=>none
  | none=>none
 | none=>none
def pk3 (c a b:Option AV):Option AV:=match c with
 | some (.bool true)=>a
 | some (.bool false)=>b
 | _=>none
def s2a (n:Nat)(x:AV):Option AV:=match x with
 | .slice A off len _=>bif Nat.ble n len then some (.ptr A off)else none
 | _=>none
def tArr (X:Cx)(arr:TypeId)(x:AV):Option AV:=match X.und arr with | some (.array n _)=>s2a n x | _=>none
def bxV (e:TypeId)(x:AV):Option (AObj×(Nat->AV)):=some (.cells (jT x) e 1 false,fun A=> .ptr A 0)
def dL (e sz len:Nat)(z:List AV)(a:List (Nat×AV)):Option (AObj×(Nat->AV)):=
 match fK (fun i=>some (i*sz,sz)) (rep len z) a with
 | some c=>some (.cells c e sz false,fun A=> .slice A 0 len (2*len))
 | none=>none
def zD1 (X:Cx)(t:TypeId)(len:Nat)(a:Option (List (Nat×AV))):Option (AObj×(Nat->AV)):=
 match X.und t with
 | some (.slice e)=>match a with
  | some parts=>match X.size e with
   | some sz=>match aS X e with
    | some z=>bif Nat.ble (len*sz) 16777216&&Nat.blt 0 sz&&Nat.beq (Z4 (jT z) 0) sz then dL e sz len (jT z) parts else none
    | none=>none
   | none=>none
  | none=>none
 | _=>none
def zIa (e sz bytes:Nat)(z:List AV)(l c:AV):Option (AObj×(Nat->AV)):=match l with
 | .int .i64 (.ofNat n)=>match c with
  | .int .i64 (.ofNat m)=>bif Nat.ble n m&&Nat.ble (m*bytes) 140737488355328&&Nat.blt m 9223372036854775808 then
    some (.cells (rep m z) e sz false,fun A=> .slice A 0 n (2*m))else none
  | _=>none
 | _=>none
def zNr (X:Cx)(t:TypeId)(l c:AV):Option (AObj×(Nat->AV)):=
 match X.und t with
 | some (.slice e)=>match X.ty.get e with
  | some ti=>match aS X e with
   | some z=>bif Nat.blt 0 ti.size&&Nat.beq (Z4 (jT z) 0) ti.size then zIa e ti.size ti.bytes (jT z) l c else none
   | none=>none
  | none=>none
 | _=>none
def tLk (X:Cx)(t:TypeId)(ok:Bool)(x k:AV)(H:AH):Option AV:=match X.und t with
 | some (.map kt et)=>match kOf X kt,aS X et with
  | some ks,some z=>lkM ks z ok x k H
  | _,_=>none
 | _=>none
def tUp (X:Cx)(t:TypeId)(x k v:AV)(H:AH):Option (AV×AH):=match X.und t with
 | some (.map kt _)=>match kOf X kt with
  | some ks=>upM ks x k v H
  | none=>none
 | _=>none
def tDl (X:Cx)(t:TypeId)(x k:AV)(H:AH):Option (AV×AH):=match X.und t with
 | some (.map kt _)=>match kOf X kt with
  | some ks=>dlM ks x k H
  | none=>none
 | _=>none
def mkM (ks:List Nat):Option (AObj×(Nat->AV)):=some (.map ks [],fun A=> .map A)
def tMkM (X:Cx)(t:TypeId):Option (AObj×(Nat->AV)):=match X.und t with
 | some (.map kt _)=>match kOf X kt with
  | some ks=>mkM ks
  | none=>none
 | _=>none
def q3 {α:Type}(x y z:Option AV)(f:AV->AV->AV->Option α):Option α:=match x with
 | some a=>match y with
  | some b=>match z with | some c=>f a b c | none=>none
  | none=>none
 | none=>none
def q1 {α:Type}(x:Option AV)(f:AV->Option α):Option α:=match x with | some a=>f a | none=>none
def q2 {α:Type}(x y:Option AV)(f:AV->AV->Option α):Option α:=match x with
 | some a=>match y with | some b=>f a b | none=>none
 | none=>none
structure Dyn where
 fn:FuncId->List AV->AH->Option (AV×AH)
 yld:Nat->List AV->AH->Option (AV×AH)
structure Tb where
 X:Cx
 S:List (Nat×(List AV->AH->Option (AV×AH)))
def zCD (S:List (Nat×(List AV->AH->Option (AV×AH))))(D:Dyn)(g:FuncId)(az:List AV)(H:AH):Option (AV×AH):=match S with
 | []=>D.fn g az H
 | (i,m)::S=>bif Nat.beq i g then m az H else zCD S D g az H
def callV (S:List (Nat×(List AV->AH->Option (AV×AH))))(D:Dyn)(f:AV)(az:List AV)(H:AH):Option (AV×AH):=match f with
 | .func g first cap=>zCD S D g (first++az++cap) H
 | .yieldTo A=>D.yld A az H
 | _=>none
def callO (B:Tb)(D:Dyn)(env:Env)(H:AH)(f:Operand)(args:List Operand):Option (AV×AH):=
 match zCW env args with
 | some az=>match f with
  | .func g=>zCD B.S D g az H
  | .tmp t=>match look env t with | some v=>callV B.S D v az H | none=>none
  | _=>none
 | none=>none
def opK (B:Tb)(D:Dyn)(env:Env)(H:AH)(K:AV->AH->Rs):Op->Rs
 | .move x=>match opd env x with | some v=>K v H | none=>none
 | .assign x=>match opd env x with | some v=>K v H | none=>none
 | .pick c a b=>bV (pk3 (opd env c) (opd env a) (opd env b)) fun v=>K v H
 | .build t ps=>bV (zH4 B.X t (uJ env ps.toList)) fun v=>K v H
 | .nilCheck x=>bV (q1 (opd env x) v6) fun v=>K v H
 | .binOp op t x y _=>bif zHQ B.X t x y then bV (q2 (opd env x) (opd env y) (zKy B.X op t · · H)) fun v=>K v H
  else bV (q2 (opd env x) (opd env y) (zPn B.X op t)) fun v=>K v H
 | .unOp op _ x=>bV (q1 (opd env x) (aun op)) fun v=>K v H
 | .makeFunc (.func f) first cap=>match zCW env first.toList with
  | some a=>match zCW env cap.toList with
   | some b=>K (.func f a b) H
   | none=>none
  | none=>none
 | .fieldAddr s x f=>bV (q1 (opd env x) (YG B.X s · f)) fun v=>K v H
 | .field t x f=>bV (q1 (opd env x) (zGY B.X t · f)) fun v=>K v H
 | .indexAddr t x i=>bV (q2 (opd env x) (opd env i) (zD0 B.X t)) fun v=>K v H
 | .index t x i=>bV (q2 (opd env x) (opd env i) (zGW B.X t)) fun v=>K v H
 | .sliceToArrayPointer arr x=>bV (q1 (opd env x) (tArr B.X arr)) fun v=>K v H
 | .extract x i=>bV (q1 (opd env x) (jM · i)) fun v=>K v H
 | .load t a=>bV (q1 (opd env a) (zGT B.X t · H)) fun v=>K v H
 | .slice t x lo hi mx=>match dI env lo,dI env hi,dI env mx with
  | some lo,some hi,some mx=>bV (q1 (opd env x) (zEa B.X t · lo hi mx H)) fun v=>K v H
  | _,_,_=>none
 | .convert s d x=>match zJI B.X s d with
  | .P=>bV (q1 (opd env x) (zH0 B.X s d)) fun v=>K v H
  | .L=>bV (q1 (opd env x) (zEb B.X s d · H)) fun v=>K v H
  | .A=>bA (q1 (opd env x) (zH2 B.X s d)) H K
  | _=>none
 | .alloc e=>match aS B.X e with | some z=>bA (bxV e z) H K | none=>none
 | .box e x=>bA (q1 (opd env x) (bxV e)) H K
 | .buildSlice t len ps=>bA (zD1 B.X t len (uJ env ps.toList)) H K
 | .makeSlice t l c=>bA (q2 (opd env l) (opd env c) (zNr B.X t)) H K
 | .lookup t x k ok=>bV (q2 (opd env x) (opd env k) (tLk B.X t ok · · H)) fun v=>K v H
 | .makeMap t none=>bA (tMkM B.X t) H K
 | .mapUpdate t m k v=>bR (q3 (opd env m) (opd env k) (opd env v) (tUp B.X t · · · H)) K
 | .store t a x=>bR (q2 (opd env a) (opd env x) (zGS B.X t · · H)) K
 | .call c=>match c.callee with
  | .value f=>bR (callO B D env H f c.args.toList) K
  | .builtin .len=>match c.args.toList,c.argTypes.toList with
   | [x],t::_=>bV (q1 (opd env x) (tLen B.X t · H)) fun v=>K v H
   | _,_=>none
  | .builtin .cap=>match c.args.toList,c.argTypes.toList with
   | [x],t::_=>bV (q1 (opd env x) (zPd B.X t)) fun v=>K v H
   | _,_=>none
  | .builtin .append=>match c.args.toList,c.argTypes.toList with
   | [s,x],[t,u]=>bR (q2 (opd env s) (opd env x) (tApp B.X t u · · H)) K
   | _,_=>none
  | .builtin .copy=>match c.args.toList,c.argTypes.toList with
   | [s,x],t::_=>bR (q2 (opd env s) (opd env x) (zNs B.X t · · H)) K
   | _,_=>none
  | .builtin .min=>match c.args.toList with
   | [x,y]=>bV (q2 (opd env x) (opd env y) mn2) fun v=>K v H
   | _=>none
  | .builtin .max=>match c.args.toList with
   | [x,y]=>bV (q2 (opd env x) (opd env y) mx2) fun v=>K v H
   | _=>none
  | .builtin .delete=>match c.args.toList,c.argTypes.toList with
   | [m,k],t::_=>bR (q2 (opd env m) (opd env k) (tDl B.X t · · H)) K
   | _,_=>none
  | .builtin .clear=>match c.args.toList,c.argTypes.toList with
   | [m],t::_=>bR (q1 (opd env m) (acl B.X t · H)) K
   | _,_=>none
  | _=>none
 | _=>none
def pck (L:List Nat)(env:Env)(K:List AV->Rs):Rs:=match L with
 | []=>K []
 | l::L=>match env l with
  | some v=>pck L env fun vs=>K (v::vs)
  | none=>none
def unp (L:List Nat)(vs:List AV)(env:Env)(K:Env->Rs):Rs:=match L with
 | []=>K env
 | l::L=>hd vs fun v vs=>unp L vs (upd env l v) K
def nl (vs:List AV)(K:Rs):Rs:=match vs with | []=>K | _::_=>none
def zPm (k i:Nat)(vs:List AV)(env:Env)(K:Env->Rs):Rs:=match k with
 | 0=>nl vs (K env)
 | k+1=>hd vs fun v vs=>zPm k (i+1) vs (upd env i v) K
def zAO (L:List Nat)(env:Env):Env:=match L with
 | []=>env
 | l::L=>fun t=>bif Nat.beq t l then none else zAO L env t
def setE (nt:Nat)(env:Env)(d:Option Tmp)(v:AV)(K:Env->Rs):Rs:=match d with
 | some d=>bif Nat.blt d nt then K (upd env d v)else none
 | none=>K env
def isL (X:Cx)(o:Op):Bool:=match cls X o with | .L=>true | _=>false
def v7 (X:Cx)(o:Op):Bool:=match o with
 | .load _ _=>true
 | .lookup _ _ _ _=>true
 | .slice t _ _ _ _=>match X.und t with | some (.slice _)=>true | _=>false
 | .convert _ _ _=>isL X o
 | .binOp _ t x y _=>zHQ X t x y
 | .call c=>match c.callee with
  | .builtin .len=>match c.argTypes.toList with
   | t::_=>match X.und t with | some (.map _ _)=>true | _=>false
   | _=>false
  | _=>false
 | _=>false
def tbit (m i:Nat):Bool:=Nat.rec (motive:=fun _=>Nat->Bool) (fun m=>Nat.beq (Nat.mod m 2) 1) (fun _ a m=>a (Nat.div m 2)) i m
theorem zGO (m i:Nat):tbit m i=m.testBit i:=by
 induction i generalizing m with
 | zero=>
  rw[Nat.testBit_zero];show Nat.beq (m % 2) 1=_;rw[yK,zY,zR]
 | succ i ih=>rw[Nat.testBit_succ,<-ih];rfl
def zNL:Option (Nat×Bool)->Option (Nat×Bool)->Bool
 | some (i,a),some (j,b)=>Nat.beq i j&&(a==b)
 | _,_=>false
def zBo (g:Option (Nat×Bool)):List (Nat×Oper)->List (Nat×Oper)×List (Nat×Oper)
 | []=>([],[])
 | o::l=>bif zNL g o.2.guard then(match zBo g l with | (a,b)=>(o::a,b))else([],o::l)
def slotsOf (ops:Array Oper)(l:List (Nat×Oper)):List Nat:=l.flatMap fun a=>cD ops a.2
def YR (ops:Array Oper)(run rest:List (Nat×Oper)):List Nat:=
 let s:=slotsOf ops rest
 run.filterMap fun a=>match a.2.dst with
  | some d=>bif s.contains d then some d else none
  | none=>none
def dstsOf (run:List (Nat×Oper)):List Nat:=run.filterMap fun a=>a.2.dst
def zNN (X:Cx)(masks:Option (List Nat))(run rest:List (Nat×Oper)):Bool:=match masks with
 | none=>true
 | some ms=>run.all fun a=> !v7 X a.2.op||rest.all fun b=> !wX (cls X b.2.op)||tbit (ms.getD b.1 0) a.1
def zIy (ops:Array Oper)(env:Env)(j:Nat):Option AV:=match zGs ops.toList j with
 | some p=>match p.dst with
  | some d=>look env d
  | none=>none
 | none=>none
structure Seen where
 i:Nat
 rd:AH->Option AV
 v:AV
def zQ5 (B:Tb)(env:Env)(o:Op)(H:AH):Option AV:=match o with
 | .load t a=>q1 (opd env a) (zGT B.X t · H)
 | .lookup t x k ok=>q2 (opd env x) (opd env k) (tLk B.X t ok · · H)
 | .slice t x lo hi mx=>match dI env lo,dI env hi,dI env mx with
  | some lo,some hi,some mx=>q1 (opd env x) (zEa B.X t · lo hi mx H)
  | _,_,_=>none
 | .convert s d x=>q1 (opd env x) (zEb B.X s d · H)
 | .binOp op t x y _=>q2 (opd env x) (opd env y) (zKy B.X op t · · H)
 | .call c=>match c.args.toList,c.argTypes.toList with
  | [x],t::_=>q1 (opd env x) (tLen B.X t · H)
  | _,_=>none
 | _=>none
def zPF (a:Nat)(H:AH)(K:Rs):List Seen->Rs
 | []=>K
 | s::l=>bif tbit a s.i then zPF a H K l else chk (s.rd H) s.v (zPF a H K l)
def zNJ (B:Tb)(masks:List Nat)(env:Env)(sn:List Seen)(i:Nat)(o:Op)(v:AV)(H':AH)(K:List Seen->Rs):Rs:=
 bif wX (cls B.X o)then zPF (masks.getD i 0) H' (K sn) sn
 else bif v7 B.X o then K (sn++[⟨i,zQ5 B env o,v⟩])else K sn
def zKj (B:Tb)(D:Dyn)(nt:Nat)(masks:Option (List Nat))(K:List Seen->Env->AH->Rs):List (Nat×Oper)->List Seen->Env->AH->Rs
 | [],sn,env,H=>K sn env H
 | (i,o)::rest,sn,env,H=>opK B D env H (fun v H'=>match masks with
   | none=>setE nt env o.dst v fun env'=>zKj B D nt masks K rest sn env' H'
   | some ms=>zNJ B ms env sn i o.op v H' fun sn=>setE nt env o.dst v fun env'=>zKj B D nt masks K rest sn env' H') o.op
def zOu (nt:Nat)(ops:Array Oper)(j:Nat)(run:List (Nat×Oper)):Bool:=match zGs ops.toList j with
 | some p=>match p.dst with
  | some d=> !(dstsOf run).contains d&&(dstsOf run).all fun d=>Nat.blt d nt
  | none=>false
 | none=>false
def zBq (X:Cx)(masks:Option (List Nat))(sn:List Seen)(H:AH)(K:Rs):List (Nat×Oper)->Rs
 | []=>K
 | b::run=>match masks with
  | none=>zBq X masks sn H K run
  | some ms=>bif wX (cls X b.2.op)then zPF (ms.getD b.1 0) H (zBq X masks sn H K run) sn else zBq X masks sn H K run
def runK (B:Tb)(D:Dyn)(nt:Nat)(ops:Array Oper)(masks:Option (List Nat))(g:AV)(a:Bool)(run:List (Nat×Oper))(out:List Nat)(sn:List Seen)(env:Env)(H:AH)(K:Env->AH->Rs):Rs:=
 jn (wnt g a (zKj B D nt masks (fun _ env H=>pck out env fun vs=>some (.norm vs,H)) run sn env H)
   (zBq B.X masks sn H (some (.norm (out.map fun _=>jO),H)) run))
  fun vs H=>unp out vs (zAO (dstsOf run) env) fun env=>K env H
def runW (B:Tb)(D:Dyn)(nt:Nat)(masks:Option (List Nat))(g:AV)(a:Bool)(run:List (Nat×Oper))(out:List Nat)(sn:List Seen)(env:Env)(H:AH)(K:List Seen->Env->AH->Rs):Rs:=
 wnt g a (zKj B D nt masks K run sn env H)
  (zBq B.X masks sn H (unp out (out.map fun _=>jO) (zAO (dstsOf run) env) fun env=>K sn env H) run)
def zEs (B:Tb)(D:Dyn)(nt:Nat)(ops:Array Oper)(masks:Option (List Nat))(f:Nat)(K:Env->AH->Rs):List (Nat×Oper)->List Seen->Env->AH->Rs:=
 Nat.rec (motive:=fun _=>List (Nat×Oper)->List Seen->Env->AH->Rs) (fun _ _ _ _=>none)
  (fun _ a l sn env H=>match l with
   | []=>K env H
   | (i,o)::rest=>match o.guard with
    | none=>zKj B D nt masks (fun sn env H=>a rest sn env H) [(i,o)] sn env H
    | some (j,want)=>match zIy ops env j with
     | none=>none
     | some g=>match zBo o.guard rest with
      | (run,rest)=>bif zOu nt ops j ((i,o)::run)then
        bif zNN B.X masks ((i,o)::run) rest then
         runK B D nt ops masks g want ((i,o)::run) (YR ops ((i,o)::run) rest) sn env H fun env H=>a rest sn env H
        else runW B D nt masks g want ((i,o)::run) (YR ops ((i,o)::run) rest) sn env H fun sn env H=>a rest sn env H
       else none) f
def idx (l:List Oper):Nat->List (Nat×Oper):=match l with
 | []=>fun _=>[]
 | o::l=>fun n=>(n,o)::idx l (n+1)
def zPt (B:Tb)(D:Dyn)(nt:Nat)(ops:Array Oper)(a:Bool)(K:Env->AH->Rs)(env:Env)(H:AH):Rs:=
 bif a then
  match plan B.X ops with
  | some (row,masks)=>zEs B D nt ops (some masks) (Nat.succ row.length) K row [] env H
  | none=>none
 else zEs B D nt ops none (Nat.succ ops.size) K (idx ops.toList 0) [] env H
inductive Hint where
 | o
 | s (a b:Hint)
 | c (L:List Nat) (a b:Hint)
 | cl (a b:Hint)
 | cr (a b:Hint)
 | b (L:List Nat) (a:Hint)
 | b0 (a:Hint)
 | l (L:List Nat) (a:Hint)
 | rf (s:Nat) (L:List Nat)
 | t (L:List Nat) (m:List AV->AH->Option AH)
def uB (a:List (Nat×List Nat))(id:Nat):Option (List Nat):=match a with
 | []=>none
 | (i,L)::r=>bif Nat.beq i id then some L else uB r id
def zGe (a:List (Nat×List Nat))(id:Nat):List (Nat×List Nat):=a.filter fun x=> !Nat.beq x.1 id
def resE (X:Cx)(env:Env)(H:AH):ResultVar->Option AV
 | .tmp t=>env t
 | .cell a t=>q1 (env a) (zGT X t · H)
def zPs (X:Cx)(rs:List ResultVar)(env:Env)(H:AH)(K:List AV->Rs):Rs:=match rs with
 | []=>K []
 | r::rs=>bV (resE X env H r) fun v=>zPs X rs env H fun vs=>K (v::vs)
def tupV:List AV->AV
 | [v]=>v
 | vs=> .tuple vs
def zKO (X:Cx)(rs:List ResultVar)(env:Env)(H:AH):Rs:=zPs X rs env H fun vs=>some (.ret (tupV vs),H)
def rfC (S:List (Nat×(List AV->AH->Option (AV×AH))))(D:Dyn)(f:AV)(A:Nat)(H:AH):Option (AV×AH):=match f with
 | .func g first cap=>zCD S D g (first++[.yieldTo A]++cap) H
 | _=>none
def uM (A:Nat)(H:AH)(K:AH->Rs):Rs:=match H.h.get A with
 | some (.loop l)=>match l.state with
  | .ready=>match fV H A (.loop { l with state:= .busy})with
   | some H'=>K H'
   | none=>none
  | _=>none
 | _=>none
def YE (A:Nat)(a:Option Code)(H:AH):Option (AV×AH):=match H.h.get A with
 | some (.loop l)=>match a with
  | none=>match fV H A (.loop { l with state:= .ready,pending:=none})with
   | some H'=>some (.bool true,H')
   | none=>none
  | some j=>match fV H A (.loop { l with state:= .done,pending:=some j})with
   | some H'=>some (.bool false,H')
   | none=>none
 | _=>none
def zN7 (A:Nat)(x:Rs):Option (AV×AH):=match x with
 | some (.norm _,H)=>YE A none H
 | some (.exit id _,H)=>YE A (some (.exit id)) H
 | some (.ret _,H)=>YE A (some .ret) H
 | none=>none
def fQ (A:Nat)(H:AH)(K:Option Code->AH->Rs):Rs:=match H.h.get A with
 | some (.loop l)=>match l.state with
  | .busy=>none
  | _=>match fV H A .dead with
   | some H'=>K l.pending H'
   | none=>none
 | _=>none
def zEG (j:Option Code)(a:Rs)(f:Nat->Rs)(h:Rs):Rs:=match j with
 | none=>a
 | some (.exit id)=>f id
 | some .ret=>h
 | _=>none
def exS (a:List (Nat×List Nat))(env:Env)(H:AH)(id:Nat):Rs:=match a with
 | []=>none
 | (i,L)::r=>bif Nat.beq i id then(pck L env fun vs=>some (.exit id vs,H))else exS r env H id
def zKv (nt:Nat)(f:List Nat)(az:List AV)(env:Env)(K:Env->Rs):Rs:=match f with
 | []=>nl az (K env)
 | p::f=>hd az fun a az=>bif Nat.blt p nt then zKv nt f az (upd env p a) K else none
def tld (x:Option AH)(N:Nat)(K:AH->Rs):Rs:=match x with
 | some H=>bif Nat.ble N H.next then K H else none
 | none=>none
def kF (B:Tb)(D:Dyn)(n nt:Nat)(rs:List ResultVar)(f0:FuncId)(ro:Bool):Code->Hint->List (Nat×List Nat)->(Env->AH->Rs)->Env->AH->Rs
 | .skip,_,_,K,env,H=>K env H
 | .label _,_,_,K,env,H=>K env H
 | .region _ ops draw,_,_,K,env,H=>zPt B D nt ops draw K env H
 | .seq a b, .s ha hb,Bk,K,env,H=>kF B D n nt rs f0 ro a ha Bk (kF B D n nt rs f0 ro b hb Bk K) env H
 | .seq _ _, .t L m,_,K,env,H=>pck L env fun vs=>tld (m vs H) H.next fun H=>unp L vs uL fun env=>K env H
 | .cond c a b, .c L ha hb,Bk,K,env,H=>match opd env c with
  | some v=>jn (cnd v (kF B D n nt rs f0 ro a ha Bk (fun env H=>pck L env fun vs=>some (.norm vs,H)) env H)
    (kF B D n nt rs f0 ro b hb Bk (fun env H=>pck L env fun vs=>some (.norm vs,H)) env H)) fun vs H=>unp L vs uL fun env=>K env H
  | none=>none
 | .cond c a b, .cl ha hb,Bk,K,env,H=>match opd env c with
  | some v=>cnd v (kF B D n nt rs f0 ro a ha Bk (fun _ _=>none) env H) (kF B D n nt rs f0 ro b hb Bk K env H)
  | none=>none
 | .cond c a b, .cr ha hb,Bk,K,env,H=>match opd env c with
  | some v=>cnd v (kF B D n nt rs f0 ro a ha Bk K env H) (kF B D n nt rs f0 ro b hb Bk (fun _ _=>none) env H)
  | none=>none
 | .block id b, .b L hb,Bk,K,env,H=>
  jb id (kF B D n nt rs f0 ro b hb ((id,L)::Bk) (fun env H=>pck L env fun vs=>some (.norm vs,H)) env H) fun vs H=>unp L vs uL fun env=>K env H
 | .block id b, .b0 hb,Bk,K,env,H=>kF B D n nt rs f0 ro b hb (zGe Bk id) K env H
 | .loop b, .l L hb,Bk,_,env,H=>pck L env fun vs=>
  jY n (fun vs H=>unp L vs uL fun env=>kF B D n nt rs f0 ro b hb Bk (fun env H=>pck L env fun vs=>some (.norm vs,H)) env H) vs H
 | .exit id,_,Bk,_,env,H=>match uB Bk id with
  | some L=>pck L env fun vs=>some (.exit id vs,H)
  | none=>none
 | .ret,_,_,_,env,H=>zKO B.X rs env H
 | .rangeFunc f _ _ _, .rf s L,Bk,K,env,H=>bif ro then none else match opd env f with
  | some fv=>pck L env fun vs=>VQ H (.loop ⟨.ready,none,f0,s,L,vs⟩) fun A H=>bR (rfC B.S D fv A H) fun _ H=>
    fQ A H fun j H=>zEG j (K env H) (exS Bk env H) (zKO B.X rs env H)
  | none=>none
 | _,_,_,_,_,_=>none
def dH (x:Rs):Option (AV×AH):=match x with | some (.ret v,H)=>some (v,H) | _=>none
def rdK (B:Tb)(D:Dyn)(n:Nat)(f0:FuncId)(nt:Nat)(h:Array Tmp)(a body:Code)(L f:List Nat)(j hb:Hint)(A:Nat)(l:ALoop)(az:List AV)(H:AH):Option (AV×AH):=
 bif QX L l.live then
  zN7 A (unp L l.vals uL fun env=>zKv nt h.toList az env fun env=>
   kF B D n nt [] f0 true a j [] (fun env H=>uM A H fun H=>kF B D n nt [] f0 true body hb (f.map fun i=>(i,[])) (fun _ H=>some (.norm [],H)) env H) env H)
 else none
def zKk (B:Tb)(D:Dyn)(n:Nat)(f0:FuncId)(s:Nat)(L a:List Nat)(f hb:Hint)(A:Nat)(l:ALoop)(az:List AV)(H:AH):Option (AV×AH):=
 match zAg f0 s with
 | some (nt,ps,asg,body)=>rdK B D n f0 nt ps asg body L a f hb A l az H
 | none=>none
def YN (t:List ((Nat×Nat)×(Nat->ALoop->List AV->AH->Option (AV×AH))))(A:Nat)(az:List AV)(H:AH):Option (AV×AH):=
 match H.h.get A with
 | some (.loop l)=>go l t
 | _=>none
where go (l:ALoop):List ((Nat×Nat)×(Nat->ALoop->List AV->AH->Option (AV×AH)))->Option (AV×AH)
 | []=>none
 | ((f,s),m)::t=>bif Nat.beq f l.fn&&Nat.beq s l.site then m A l az H else go l t
def zPy (B:Tb)(D:Dyn)(n:Nat)(f0:FuncId)(a:Func)(h:Hint)(az:List AV)(H:AH):Option (AV×AH):=
 match a.body with
 | some body=>bif Nat.ble (a.params.size+a.nfree) a.ntmps then dH (zPm (a.params.size+a.nfree) 0 az uL fun env=>kF B D n a.ntmps a.results.toList f0 false body h [] (fun env H=>zKO B.X a.results.toList env H) env H)else none
 | none=>none
end Go.Eng
end
end
section
namespace Go.Eng
theorem wH {x:Option AV}{K:AV->Rs}{out:Ex×AH}(h:bV x K=some out): ∃v,x=some v/\K v=some out:=by
 cases x with
 | none=>exact absurd h (by simp[bV])
 | some v=>exact⟨_,rfl,h⟩
theorem hH {x:Option (AV×AH)}{K:AV->AH->Rs}{out:Ex×AH}(h:bR x K=some out): ∃v H,x=some (v,H)/\K v H=some out:=by
 cases x with
 | none=>exact absurd h (by simp[bR])
 | some p=>obtain⟨v,H⟩:=p;exact⟨_,_,rfl,h⟩
theorem J6 {x:Option (AObj×(Nat->AV))}{H:AH}{K:AV->AH->Rs}{out:Ex×AH}(h:bA x H K=some out): ∃v H',wA H x=some (v,H')/\K v H'=some out:=by
 unfold bA at h;split at h
 .rename_i o i;unfold VQ at h;split at h
  .rename_i a;split at h
   .rename_i t f;rw[kD]at h;refine⟨_,_, ?_,h⟩;simp only[wA,newA,a,zLc,f]
   .simp at h
  .simp at h
 .simp at h
theorem wQ {α:Type}{x:Option AV}{f:AV->Option α}{r:α}(h:q1 x f=some r): ∃a,x=some a/\f a=some r:=by
 unfold q1 at h;split at h
 .exact⟨_,rfl,h⟩
 .simp at h
theorem vH {α:Type}{x y:Option AV}{f:AV->AV->Option α}{r:α}(h:q2 x y f=some r): ∃a b,x=some a/\y=some b/\f a b=some r:=by
 unfold q2 at h;split at h
 .split at h
  .exact⟨_,_,rfl,rfl,h⟩
  .simp at h
 .simp at h
section
variable {X:Cx}
theorem cY {a:BinOp}{q:Option Bool}{r:AV}(h:bZ a q=some r): ∃b,q=some b/\((a= .eql/\mkB b=some r)\/(a= .neq/\mkB (!b)=some r)):=by
 unfold bZ at h;split at h
 .split at h
  .exact⟨_,rfl, .inl ⟨rfl,h⟩⟩
  .exact⟨_,rfl, .inr ⟨rfl,h⟩⟩
  .simp at h
 .simp at h
theorem aR {a:BinOp}{t:TypeId}{x y r:AV}{b:Bool}(h:aeq X 9 t x y=some b)(k:(a= .eql/\mkB b=some r)\/(a= .neq/\mkB (!b)=some r)):zCT X a t x y=some r:=by
 unfold zCT;rcases k with⟨rfl,k⟩ | ⟨rfl,k⟩<;>simp only[h,k]
theorem zN5 {i:BinOp}{t:TypeId}{x y r:AV}{j:List Nat}(m:zDp t X.fl=some j)(h:bZ i (eqA j x y)=some r):zKa X i t x y=some r:=by
 obtain⟨b,hb,f⟩:=cY h;unfold eqA at hb;split at hb
 .rename_i a;split at hb
  .rename_i c;rw[zF]at hb;split at hb
   .rename_i o;show zK9 X i t a c=some r;simp only[zK9,m,o,zM,hb];rcases f with⟨rfl,f⟩ | ⟨rfl,f⟩
    .exact f
    .exact f
   .simp at hb
  .simp at hb
 .simp at hb
theorem zH5 {p:BinOp}{t:TypeId}{x y r:AV}(h:zPn X p t x y=some r):zKa X p t x y=some r:=by
 unfold zPn at h;split at h
 .unfold kI at h;split at h
  .split at h
   .exact h
   .simp at h
  .simp at h
 .unfold aV at h;split at h
  .split at h
   .exact h
   .simp at h
  .simp at h
 .rename_i i;unfold K0 at h;split at h
  .rename_i a;split at h
   .rename_i b;have s:aeq X 9 t (.bool a) (.bool b)=some (a==b):=by simp only[aeq,i]
    show(bif wK (.bool a)then zCT X p t (.bool a) (.bool b)else none)=some r;simp only[wK,zM];split at h
    .exact aR s (.inl ⟨rfl,h⟩)
    .exact aR s (.inr ⟨rfl,h⟩)
    .simp at h
   .simp at h
  .simp at h
 .rename_i e i;split at h
  .simp at h
  .rename_i n F u;obtain⟨b,hb,j⟩:=cY h;have key: ∀x y,eqP x y=some b->aeq X 9 t x y=some b/\wK x=true:=by
    intro x y hb;unfold eqP at hb;split at hb
    .split at hb<;>simp_all [aeq,i,wK]
    .split at hb
     .simp_all [aeq,i,wK]
     .simp only[aeq,i,u,wK];exact⟨hb,trivial⟩
     .simp at hb
    .simp at hb
   obtain⟨m,f⟩:=key x y hb;have o:=aR m j;unfold zKa;split
   .simp[wK]at f
   .simp[wK]at f
   .simp[wK]at f
   .rw[f];exact o
  .simp at h
 .rename_i e i;obtain⟨b,hb,j⟩:=cY h;have key:aeq X 9 t x y=some b/\wK x=true:=by
   unfold eqS at hb;split at hb
   .split at hb<;>simp_all [aeq,i,wK]
   .split at hb<;>simp_all [aeq,i,wK]
   .simp at hb
  obtain⟨m,f⟩:=key;have o:=aR m j;unfold zKa;split
  .simp[wK]at f
  .simp[wK]at f
  .simp[wK]at f
  .rw[f];exact o
 .rename_i v z i;obtain⟨b,hb,j⟩:=cY h;have key:aeq X 9 t x y=some b/\wK x=true:=by
   unfold eqM at hb;split at hb
   .split at hb<;>simp_all [aeq,i,wK]
   .split at hb<;>simp_all [aeq,i,wK]
   .simp at hb
  obtain⟨m,f⟩:=key;have o:=aR m j;unfold zKa;split
  .simp[wK]at f
  .simp[wK]at f
  .simp[wK]at f
  .rw[f];exact o
 .rename_i v z J i;obtain⟨b,hb,j⟩:=cY h;have key:aeq X 9 t x y=some b/\wK x=true:=by
   unfold eqF at hb;split at hb
   .split at hb<;>simp_all [aeq,i,wK]
   .split at hb<;>simp_all [aeq,i,wK]
   .simp at hb
  obtain⟨m,f⟩:=key;have o:=aR m j;unfold zKa;split
  .simp[wK]at f
  .simp[wK]at f
  .simp[wK]at f
  .rw[f];exact o
 .split at h
  .rename_i C q;exact zN5 q h
  .simp at h
 .split at h
  .rename_i C q;exact zN5 q h
  .simp at h
 .simp at h
theorem zEc {a:BinOp}{t:TypeId}{x y r:AV}{H:AH}(h:zKy X a t x y H=some r):zAZ X a t x y H=some r:=by
 unfold zKy at h;split at h
 .rename_i e i;split at h
  .simp at h
  .rename_i n s j;have K:n≠0:=fun v=>s (by rw[v])
   obtain⟨m,rfl⟩: ∃m,n=m+1:=⟨n - 1,by omega⟩;have z:zPn X a t x y=bZ a (eqP x y):=by simp only[zPn,i,j]
   have key:zPn X a t x y=some r\/ ∃A o B p,x= .ptr A o/\y= .ptr B p/\Nat.beq A B=false/\QL A H=true/\QL B H=true/\bZ a (some false)=some r:=by
    rw[z]
    cases x<;>cases y<;>simp only[zPA]at h<;>first | exact .inl h | (simp[bZ]at h;done) | skip
    rename_i A o B p
    cases f:Nat.beq A B with
    | true=>left;simp only[f,zM,eqP]at h⊢;exact h
    | false=>
     simp only[f,qH]at h
     cases hl:(QL A H&&QL B H)with
     | true=>
      rw[hl]at h;simp only[zM]at h;rw[zE]at hl;exact .inr ⟨A,o,B,p,rfl,rfl,f,hl.1,hl.2,h⟩
     | false=>rw[hl]at h;simp[bZ]at h
   rcases key with C | ⟨A,o,B,p,rfl,rfl,f,F,J,q⟩
   .unfold zAZ;rw[zH5 C]
   .have u:zKa X a t (.ptr A o) (.ptr B p)=none:=by
     show(bif wK (.ptr A o)then zCT X a t (.ptr A o) (.ptr B p)else none)=none;simp only[wK,zM];unfold zCT
     cases a<;>simp only[aeq,i,j,f,qH]
    unfold zAZ;rw[u];simp only[i,j,pNe,F,J,f,Bool.not_false,qN,zM]
    cases a<;>first | exact q | (simp[bZ]at q;done)
  .simp at h
 .simp at h
theorem zAa {t:TypeId}{p r:AV}{H:AH}(h:zGT X t p H=some r):VI X t p H=some r:=by
 unfold zGT at h;split at h
 .rename_i d hd;rw[zF]at h;split at h
  .rename_i a;split at h
   .rename_i n i;unfold ldN at h;split at h
    .split at h
     .rename_i f;simp only[VI,f,hd,a,zM,i];exact h
     .simp at h
    .simp at h
   .simp at h
  .rename_i a;unfold ld1 at h;split at h
   .split at h
    .rename_i f;simp only[VI,f,hd,y8.2 a,qH];exact h
    .simp at h
   .simp at h
 .simp at h
theorem zGR {t:TypeId}{p x v:AV}{H H':AH}(h:zGS X t p x H=some (v,H')):BL X t (some p) (some x) H=some (v,H'):=by
 unfold zGS at h;split at h
 .rename_i n a;unfold stN at h;split at h
  .split at h
   .rename_i f;rw[zF]at h;split at h
    .rename_i i;split at h
     .rename_i j;split at h
      .rename_i hp;simp only[BL,zCK,f,a,i,zM,j,hp];exact h
      .simp at h
     .simp at h
    .simp at h
   .simp at h
  .simp at h
 .simp at h
theorem zGZ {s d:TypeId}{x r:AV}(h:zH0 X s d x=some r):zA2 X s d x=some r:=by
 unfold zH0 at h;split at h
 .simp at h
 .rename_i f a;split at h
  .rename_i k hd;unfold cvI at h;split at h
   .simp only[zA2,a,hd];exact h
   .simp at h
  .rename_i hd;split at h
   .unfold zPE at h;split at h
    .simp only[zA2,a,hd];exact h
    .simp at h
   .simp at h
  .simp at h
theorem zBh {s d:TypeId}{x r:AV}{H:AH}(h:zEb X s d x H=some r):JU X s d x H=some r:=by
 unfold zEb at h;split at h
 .rename_i e a;split at h
  .rename_i hd;split at h
   .rename_i f;simp only[JU,a,hd,f];exact h
   .simp at h
  .simp at h
 .simp at h
theorem zH1 {s d:TypeId}{x:AV}{r:AObj×(Nat->AV)}(h:zH2 X s d x=some r):zCR X s d x=some r:=by
 unfold zH2 at h;split at h
 .rename_i a;split at h
  .rename_i e hd;split at h
   .rename_i f;simp only[zCR,a,hd,f];exact h
   .simp at h
  .simp at h
 .simp at h
theorem zBg {t:TypeId}{x r:AV}{lo hi p:Option AV}{H:AH}(h:zEa X t x lo hi p H=some r):ZG X t x lo hi p H=some r:=by
 unfold zEa at h;split at h
 .rename_i a;split at h
  .unfold VT at h;split at h
   .rename_i l1 o f i;split at h
    .have j:kX none=some none:=rfl;simp only[ZG,f,i,j,a];exact h
    .simp at h
   .simp at h
  .simp at h
 .rename_i e a;split at h
  .rename_i sz m;unfold vY at h;split at h
   .rename_i l1 o q f i j;split at h<;>first | (simp only[ZG,f,i,j,a,m];exact h) | (simp at h;done)
   .simp at h
  .simp at h
 .rename_i n e a;split at h
  .rename_i sz m;unfold xF at h;split at h
   .rename_i l1 o q f i j;split at h<;>first | (simp only[ZG,f,i,j,a,m];exact h) | (simp at h;done)
   .simp at h
  .simp at h
 .rename_i arr a;split at h
  .rename_i n e s;split at h
   .rename_i sz m;unfold xF at h;split at h
    .rename_i l1 o q f i j;split at h<;>first | (simp only[ZG,f,i,j,a,s,m];exact h) | (simp at h;done)
    .simp at h
   .simp at h
  .simp at h
 .simp at h
theorem zFF {t:TypeId}{x i r:AV}(h:zD0 X t x i=some r):uZ X t x i=some r:=by
 unfold zD0 at h;split at h
 .rename_i n e f;split at h
  .rename_i sz a;unfold fJ at h;split at h
   .rename_i k j;split at h
    .simp only[uZ,j,f,a];exact h
    .simp at h
   .simp at h
  .simp at h
 .rename_i e f;split at h
  .rename_i sz a;unfold uX at h;split at h
   .rename_i k j;split at h
    .simp only[uZ,j,f,a];exact h
    .simp at h
   .simp at h
  .simp at h
 .simp at h
theorem zGV {t:TypeId}{x i r:AV}(h:zGW X t x i=some r):VJ X t x i=some r:=by
 unfold zGW at h;split at h
 .rename_i f;unfold XA at h;split at h
  .rename_i k a;split at h
   .simp only[VJ,a,f];exact h
   .simp at h
  .simp at h
 .rename_i n e f;split at h
  .rename_i d sz hd m;rw[zF]at h;split at h
   .rename_i j;unfold zG1 at h;split at h
    .rename_i k a;split at h
     .simp only[VJ,a,f,hd,m,j,zM];exact h
     .simp at h
    .simp at h
   .rename_i j;unfold zBZ at h;split at h
    .rename_i k a;split at h
     .simp only[VJ,a,f,hd,m,y8.2 j,qH];exact h
     .simp at h
    .simp at h
  .simp at h
 .simp at h
theorem zGX {t:TypeId}{x r:AV}{f:Nat}(h:zGY X t x f=some r):BZ X t x f=some r:=by
 unfold zGY at h;split at h
 .rename_i fs i;split at h
  .rename_i fl j;split at h
   .rename_i d n hd m;rw[zF]at h;split at h
    .rename_i a;unfold fdN at h;split at h
     .simp only[BZ,i,j,hd,m,a,zM];exact h
     .simp at h
    .rename_i a;unfold fd1 at h;split at h
     .simp only[BZ,i,j,hd,m,y8.2 a,qH];exact h
     .simp at h
   .simp at h
  .simp at h
 .simp at h
theorem zAb {t:TypeId}{x r:AV}{f:Nat}(h:YG X t x f=some r):fR X t x f=some r:=by
 unfold YG at h;split at h
 .rename_i fs a;split at h
  .rename_i fl i;split at h
   .simp at h
   .rename_i n m j;unfold fAd at h;split at h
    .simp only[fR,a,i,j];exact h
    .simp at h
   .simp at h
  .simp at h
 .simp at h
theorem zGU {t:TypeId}{x r:AV}{H:AH}(h:tLen X t x H=some r):zDV X t x H=some r:=by
 unfold tLen at h;split at h
 .rename_i f;unfold X3 at h;split at h
  .simp only[zDV,f];exact h
  .simp at h
 .rename_i e f;unfold lnSl at h;split at h<;>first | (simp only[zDV,f];exact h) | (simp at h;done)
 .rename_i n e f;simp only[zDV,f];exact h
 .rename_i a b f;unfold QK at h;split at h
  .simp only[zDV,f];exact h
  .split at h
   .rename_i i;rw[kD]at h;simp only[zDV,f,i];exact h
   .simp at h
  .simp at h
 .simp at h
theorem zKx {t:TypeId}{d s v:AV}{H H':AH}(h:zNs X t d s H=some (v,H')):zGp X t d s H=some (v,H'):=by
 unfold zNs at h;split at h
 .rename_i e f;split at h
  .rename_i sz a;simp only[zGp,f,a];exact h
  .simp at h
 .simp at h
theorem zH3 {env:Env}{t:TypeId}{f:Array (Nat×Operand)}{r:AV}(h:zH4 X t (uJ env f.toList)=some r):JD X env t f=some r:=by
 unfold zH4 at h;split at h
 .rename_i z i;split at h
  .rename_i o hp;split at h
   .rename_i fs a;split at h
    .rename_i p j;simp only[JD,i,hp,a,j];exact h
    .simp at h
   .rename_i n e a;split at h
    .rename_i sz m;simp only[JD,i,hp,a,m];exact h
    .simp at h
   .simp at h
  .simp at h
 .simp at h
theorem zNt {arr:TypeId}{x r:AV}(h:tArr X arr x=some r):zQ9 X arr x=some r:=by
 unfold tArr at h;split at h
 .rename_i n e a;unfold s2a at h;split at h
  .simp only[zQ9,a];exact h
  .simp at h
 .simp at h
theorem zFG {env:Env}{t:TypeId}{len:Nat}{a:Array (Nat×Operand)}{r:AObj×(Nat->AV)}(h:zD1 X t len (uJ env a.toList)=some r):Q3 X env t len a=some r:=by
 unfold zD1 at h;split at h
 .rename_i e i;split at h
  .rename_i m hp;split at h
   .rename_i sz f;split at h
    .rename_i z j;simp only[Q3,i,hp,f,j];exact h
    .simp at h
   .simp at h
  .simp at h
 .simp at h
theorem zKw {t:TypeId}{l c:AV}{r:AObj×(Nat->AV)}(h:zNr X t l c=some r):zA3 X t (some l) (some c)=some r:=by
 unfold zNr at h;split at h
 .rename_i e j;split at h
  .rename_i o i;split at h
   .rename_i z m;rw[zF]at h;split at h
    .rename_i f;unfold zIa at h;split at h
     .split at h
      .rw[zF]at h;split at h
       .rename_i a;simp only[zA3,j,i,m];simp only[zE]at f a;simp only[f.1,f.2,a.1.1,a.1.2,a.2,qN,zM];exact h
       .simp at h
      .simp at h
     .simp at h
    .simp at h
   .simp at h
  .simp at h
 .simp at h
theorem zNu {t u:TypeId}{s x v:AV}{H H':AH}(h:tApp X t u s x H=some (v,H')):cV X t u (some s) (some x) H=some (v,H'):=by
 unfold tApp at h;split at h
 .rename_i e j;split at h
  .rename_i p i;split at h
   .rename_i f;rw[zF]at h;split at h
    .rename_i a;simp only[cV,f,hJ,j,i,a,zM];exact h
    .simp at h
   .rename_i f;rw[zF]at h;split at h
    .rename_i a;simp only[cV,f,hJ,j,i,a,zM];exact h
    .simp at h
   .rename_i k f;split at h
    .rename_i z o;rw[zF]at h;split at h
     .rename_i a;simp only[zE]at a;unfold apZ at h;split at h
      .rename_i n;rw[zF]at h;split at h
       .rename_i m;simp only[zE]at m;simp only[cV,f,zKb,j,i,o,a.1,a.2,m.1,m.2,zM,qN];exact h
       .simp at h
      .simp at h
     .simp at h
    .simp at h
   .simp at h
  .simp at h
 .simp at h
theorem zNW {α:Type}{x y z:Option AV}{f:AV->AV->AV->Option α}{r:α}(h:q3 x y z f=some r): ∃a b c,x=some a/\y=some b/\z=some c/\f a b c=some r:=by
 unfold q3 at h;split at h
 .split at h
  .split at h
   .exact⟨_,_,_,rfl,rfl,rfl,h⟩
   .simp at h
  .simp at h
 .simp at h
theorem zMx {t:TypeId}{ok:Bool}{x k r:AV}{H:AH}(h:tLk X t ok x k H=some r):zJZ X t ok x k H=some r:=by
 unfold tLk at h;split at h
 .rename_i a;split at h
  .rename_i f i;simp only[zJZ,a,f,i];exact h
  .simp at h
 .simp at h
theorem zPR {t:TypeId}{x k v r:AV}{H H':AH}(h:tUp X t x k v H=some (r,H')):aup X t x k v H=some (r,H'):=h
theorem zPS {t:TypeId}{x k r:AV}{H H':AH}(h:tDl X t x k H=some (r,H')):adl X t x k H=some (r,H'):=h
theorem zNq {t:TypeId}{r:AObj×(Nat->AV)}(h:tMkM X t=some r):aMap X t=some r:=h
end
def rOf (B:Tb)(D:Dyn):Fns:=⟨fun g az H=>zCD B.S D g az H,D.yld⟩
theorem Q1 {x:Option AV}{f:AV->Option AV}{a r:AV}(h:x=some a)(k:f a=some r):b1 x f=some r:=by simp only[b1,h,k]
theorem zAV {x y:Option AV}{f:AV->AV->Option AV}{a b r:AV}(h:x=some a)(i:y=some b)(k:f a b=some r):b2 x y f=some r:=by simp only[b2,h,i,k]
section
variable {B:Tb}{D:Dyn}{env:Env}{H:AH}
theorem vW {o:Op}{v:AV}(a:cls B.X o= .P)(h:aP B.X env o=some v):opF B.X (rOf B D) env H o=some (v,H):=by
 simp only[opF,a,h,wV]
theorem UJ {o:Op}{v:AV}(a:cls B.X o= .L)(h:aL B.X env H o=some v):opF B.X (rOf B D) env H o=some (v,H):=by
 simp only[opF,a,h,wV]
theorem UL {o:Op}{v:AV}{H':AH}(a:cls B.X o= .A)(h:wA H (aA B.X env o)=some (v,H')):opF B.X (rOf B D) env H o=some (v,H'):=by
 simp only[opF,a,h]
theorem UK {o:Op}{v:AV}{H':AH}(a:cls B.X o= .E)(h:aE B.X env H o=some (v,H')):opF B.X (rOf B D) env H o=some (v,H'):=by
 simp only[opF,a,h]
theorem U2 {x y:Option (AObj×(Nat->AV))}{v:AV}{H':AH}(h:wA H x=some (v,H'))(k: ∀r,x=some r->y=some r):wA H y=some (v,H'):=by
 cases x with
 | none=>simp[wA]at h
 | some r=>rw[k r rfl];exact h
theorem zQa {K:AV->AH->Rs}{o:Op}{out:Ex×AH}(h:opK B D env H K o=some out): ∃v H',opF B.X (rOf B D) env H o=some (v,H')/\K v H'=some out:=by
 unfold opK at h;split at h
 ·
  rename_i x;split at h
  .rename_i v i;exact⟨v,H,vW rfl i,h⟩
  .simp at h
 .rename_i x;split at h
  .rename_i v i;exact⟨v,H,vW rfl i,h⟩
  .simp at h
 ·
  rename_i c a b;obtain⟨v,i,j⟩:=wH h;refine⟨v,H,vW rfl ?_,j⟩;show zFS env c a b=some v;unfold pk3 at i;unfold zFS;exact i
 ·
  obtain⟨v,i,j⟩:=wH h;exact⟨v,H,vW rfl (zH3 i),j⟩
 .obtain⟨v,i,j⟩:=wH h;obtain⟨a,m,p⟩:=wQ i;exact⟨v,H,vW rfl (Q1 m p),j⟩
 ·
  rw[zF]at h;split at h
  .rename_i hp;obtain⟨v,i,j⟩:=wH h;obtain⟨a,b,m,hb,p⟩:=vH i;exact⟨v,H,UJ (by simp[cls,hp]) (zAV m hb (zEc p)),j⟩
  .rename_i hp;obtain⟨v,i,j⟩:=wH h;obtain⟨a,b,m,hb,p⟩:=vH i;exact⟨v,H,vW (by simp[cls,hp]) (zAV m hb (zH5 p)),j⟩
 .obtain⟨v,i,j⟩:=wH h;obtain⟨a,m,p⟩:=wQ i;exact⟨v,H,vW rfl (Q1 m p),j⟩
 ·
  split at h
  .rename_i a m;split at h
   .rename_i b hb;refine⟨_,H,vW rfl ?_,h⟩;show zFT env _ _ _=_;simp only[zFT,m,hb]
   .simp at h
  .simp at h
 .obtain⟨v,i,j⟩:=wH h;obtain⟨a,m,p⟩:=wQ i;exact⟨v,H,vW rfl (Q1 m (zAb p)),j⟩
 .obtain⟨v,i,j⟩:=wH h;obtain⟨a,m,p⟩:=wQ i;exact⟨v,H,vW rfl (Q1 m (zGX p)),j⟩
 .obtain⟨v,i,j⟩:=wH h;obtain⟨a,b,m,hb,p⟩:=vH i;exact⟨v,H,vW rfl (zAV m hb (zFF p)),j⟩
 .obtain⟨v,i,j⟩:=wH h;obtain⟨a,b,m,hb,p⟩:=vH i;exact⟨v,H,vW rfl (zAV m hb (zGV p)),j⟩
 .obtain⟨v,i,j⟩:=wH h;obtain⟨a,m,p⟩:=wQ i;exact⟨v,H,vW rfl (Q1 m (zNt p)),j⟩
 .obtain⟨v,i,j⟩:=wH h;obtain⟨a,m,p⟩:=wQ i;exact⟨v,H,vW rfl (Q1 m p),j⟩
 ·
  obtain⟨v,i,j⟩:=wH h;obtain⟨a,m,p⟩:=wQ i;exact⟨v,H,UJ rfl (Q1 m (zAa p)),j⟩
 ·
  split at h
  .rename_i lo hi Y L N O;obtain⟨v,i,j⟩:=wH h;obtain⟨a,m,p⟩:=wQ i;refine⟨v,H,UJ rfl ?_,j⟩;show Z6 _ _ _ _ _ _ _ _=_;simp only[Z6,m,L,N,O];exact zBg p
  .simp at h
 ·
  split at h
  .rename_i q;obtain⟨v,i,j⟩:=wH h;obtain⟨a,m,p⟩:=wQ i;exact⟨v,H,vW q (Q1 m (zGZ p)),j⟩
  .rename_i q;obtain⟨v,i,j⟩:=wH h;obtain⟨a,m,p⟩:=wQ i;exact⟨v,H,UJ q (Q1 m (zBh p)),j⟩
  .rename_i q;obtain⟨v,H',i,j⟩:=J6 h;refine⟨v,H',UL q (U2 i fun r hr=> ?_),j⟩;obtain⟨a,m,p⟩:=wQ hr;simp only[aA,m];exact zH1 p
  .simp at h
 ·
  split at h
  .rename_i z T;obtain⟨v,H',i,j⟩:=J6 h;refine⟨v,H',UL rfl (U2 i fun r hr=> ?_),j⟩;simp only[aA,T,aA1];exact hr
  .simp at h
 .obtain⟨v,H',i,j⟩:=J6 h;refine⟨v,H',UL rfl (U2 i fun r hr=> ?_),j⟩;obtain⟨a,m,p⟩:=wQ hr;simp only[aA,m,aA1];exact p
 .obtain⟨v,H',i,j⟩:=J6 h;exact⟨v,H',UL rfl (U2 i fun r hr=>zFG hr),j⟩
 .obtain⟨v,H',i,j⟩:=J6 h;refine⟨v,H',UL rfl (U2 i fun r hr=> ?_),j⟩;obtain⟨a,b,m,hb,p⟩:=vH hr;simp only[aA,m,hb];exact zKw p
 ·
  obtain⟨v,i,j⟩:=wH h;obtain⟨a,b,m,hb,p⟩:=vH i;exact⟨v,H,UJ rfl (zAV m hb (zMx p)),j⟩
 .obtain⟨v,H',i,j⟩:=J6 h;exact⟨v,H',UL rfl (U2 i fun r hr=>zNq hr),j⟩
 .obtain⟨v,H',i,j⟩:=hH h;obtain⟨a,b,c,m,hb,q,p⟩:=zNW i;refine⟨v,H',UK rfl ?_,j⟩;simp only[aE,m,hb,q,c3];exact zPR p
 ·
  obtain⟨v,H',i,j⟩:=hH h;obtain⟨a,b,m,hb,p⟩:=vH i;refine⟨v,H',UK rfl ?_,j⟩;simp only[aE,m,hb];exact zGR p
 ·
  rename_i c;obtain⟨V,args,W⟩:=c;split at h
  .rename_i f q;simp only at q;subst q;obtain⟨v,H',i,j⟩:=hH h;refine⟨v,H', ?_,j⟩;unfold callO at i;split at i
   .rename_i az J;simp only at J;split at i
    .rename_i g;have e:opd env (.func g)=some (.func g [] []):=rfl;simp only[opF,cls,zAT,opF.callO,e,J,opF.callV,rOf,qS,qX];exact i
    .split at i
     .rename_i t _ U S;have e:opd env (.tmp t)=some U:=S;unfold callV at i;split at i
      .simp only[opF,cls,zAT,opF.callO,e,J,opF.callV,rOf];exact i
      .simp only[opF,cls,zAT,opF.callO,e,J,opF.callV,rOf];exact i
      .simp at i
     .simp at i
    .simp at i
   .simp at i
  .rename_i q;simp only at q;subst q;split at h
   .rename_i x t ts C F;obtain⟨v,i,j⟩:=wH h;obtain⟨a,m,p⟩:=wQ i;refine⟨v,H,UJ rfl ?_,j⟩;simp only at C F;simp only[aL,C,F];exact Q1 m (zGU p)
   .simp at h
  .rename_i q;simp only at q;subst q;split at h
   .rename_i x t ts C F;obtain⟨v,i,j⟩:=wH h;obtain⟨a,m,p⟩:=wQ i;refine⟨v,H,vW rfl ?_,j⟩;simp only at C F;simp only[aP,C,F];exact Q1 m p
   .simp at h
  .rename_i q;simp only at q;subst q;split at h
   .rename_i s x t u C F;obtain⟨v,H',i,j⟩:=hH h;obtain⟨a,b,m,hb,p⟩:=vH i;refine⟨v,H',UK rfl ?_,j⟩;simp only at C F;simp only[aE,uR,C,F,m,hb];exact zNu p
   .simp at h
  .rename_i q;simp only at q;subst q;split at h
   .rename_i s x t ts C F;obtain⟨v,H',i,j⟩:=hH h;obtain⟨a,b,m,hb,p⟩:=vH i;refine⟨v,H',UK rfl ?_,j⟩;simp only at C F;simp only[aE,uR,C,F,m,hb,zJq];exact zKx p
   .simp at h
  .rename_i q;simp only at q;subst q;split at h
   .rename_i x y C;obtain⟨v,i,j⟩:=wH h;obtain⟨a,b,m,hb,p⟩:=vH i;refine⟨v,H,vW rfl ?_,j⟩;simp only at C;simp only[aP,C];exact zAV m hb p
   .simp at h
  .rename_i q;simp only at q;subst q;split at h
   .rename_i x y C;obtain⟨v,i,j⟩:=wH h;obtain⟨a,b,m,hb,p⟩:=vH i;refine⟨v,H,vW rfl ?_,j⟩;simp only at C;simp only[aP,C];exact zAV m hb p
   .simp at h
  .rename_i q;simp only at q;subst q;split at h
   .rename_i s x t ts C F;obtain⟨v,H',i,j⟩:=hH h;obtain⟨a,b,m,hb,p⟩:=vH i;refine⟨v,H',UK rfl ?_,j⟩;simp only at C F;simp only[aE,uR,C,F,m,hb,c2];exact zPS p
   .simp at h
  .rename_i q;simp only at q;subst q;split at h
   .rename_i s t ts C F;obtain⟨v,H',i,j⟩:=hH h;obtain⟨a,m,p⟩:=wQ i;refine⟨v,H',UK rfl ?_,j⟩;simp only at C F;simp only[aE,uR,C,F,m,c1];exact p
   .simp at h
  .simp at h
 .simp at h
end
def Le (env env2:Env):Prop:= ∀t x,look env t=some x->look env2 t=some x
theorem Le.refl (env:Env):Le env env:=fun _ _ h=>h
theorem Le.trans {a b c:Env}(h:Le a b)(k:Le b c):Le a c:=fun t x e=>k t x (h t x e)
theorem Le.upd {a b:Env}(h:Le a b)(d:Nat)(v:AV):Le (upd a d v) (upd b d v):=by
 intro t x e;simp only[look,bC]at e⊢;split
 .rename_i hd;rw[if_pos hd]at e;exact e
 .rename_i hd;rw[if_neg hd]at e;exact h t x e
theorem EnvR.le {R:Ren}{env env2:Env}{n:Nat}{a:Array Value}(h:EnvR R env2 n a)(k:Le env env2):EnvR R env n a:=
 ⟨h.size,fun t x e=>h.get t x (k t x e),fun t f=>by
  cases e:look env t with
  | none=>rfl
  | some x=>have:=k t x e;rw[h.out t f]at this;simp at this⟩
section
variable {env env2:Env}(hl:Le env env2)
include hl
theorem k9 (x:Operand)(a:AV)(h:opd env x=some a):opd env2 x=some a:=by
 cases x with
 | tmp t=>exact hl t a h
 | _=>exact h
theorem c9: ∀(xs:List Operand) (az:List AV),zCW env xs=some az->zCW env2 xs=some az
 | [],az,h=>h
 | x::xs,az,h=>by
  simp only[zCW]at h⊢;split at h
  .rename_i v vs f a;rw[k9 hl x v f,c9 xs vs a];exact h
  .simp at h
theorem YQ: ∀(xs:List (Nat×Operand)) (az:List (Nat×AV)),uJ env xs=some az->uJ env2 xs=some az
 | [],az,h=>h
 | (i,x)::xs,az,h=>by
  simp only[uJ]at h⊢;split at h
  .rename_i v vs f a;rw[k9 hl x v f,YQ xs vs a];exact h
  .simp at h
theorem YS (x:Option Operand)(a:Option AV)(h:dI env x=some a):dI env2 x=some a:=by
 cases x with
 | none=>exact h
 | some y=>
  simp only[dI]at h⊢;split at h
  .rename_i b hb;rw[k9 hl y b hb];exact h
  .simp at h
theorem bU {x:Operand}{f:AV->Option AV}{r:AV}(h:b1 (opd env x) f=some r):b1 (opd env2 x) f=some r:=by
 unfold b1 at h;split at h
 .rename_i a i;rw[k9 hl x a i];exact h
 .simp at h
theorem Q0 {x y:Operand}{f:AV->AV->Option AV}{r:AV}(h:b2 (opd env x) (opd env y) f=some r):b2 (opd env2 x) (opd env2 y) f=some r:=by
 unfold b2 at h;split at h
 .rename_i a i;split at h
  .rename_i b hb;rw[k9 hl x a i,k9 hl y b hb];exact h
  .simp at h
 .simp at h
theorem zPe {X:Cx}{o:Op}{v:AV}(h:aP X env o=some v):aP X env2 o=some v:=by
 unfold aP at h⊢;split at h
 .exact k9 hl _ _ h
 .exact k9 hl _ _ h
 .unfold zFS at h⊢;split at h
  .rename_i f;rw[k9 hl _ _ f];exact k9 hl _ _ h
  .rename_i f;rw[k9 hl _ _ f];exact k9 hl _ _ h
  .simp at h
 .unfold JD at h⊢;split at h
  .rename_i z m;split at h
   .rename_i p i;rw[YQ hl _ _ i];exact h
   .simp at h
  .simp at h
 .exact bU hl h
 .exact Q0 hl h
 .exact bU hl h
 .exact bU hl h
 .unfold zFT at h⊢;split at h
  .rename_i a j;split at h
   .rename_i b hb;rw[c9 hl _ _ j,c9 hl _ _ hb];exact h
   .simp at h
  .simp at h
 .exact bU hl h
 .exact bU hl h
 .exact Q0 hl h
 .exact Q0 hl h
 .exact bU hl h
 .exact bU hl h
 .split at h
  .split at h
   .split at h
    .exact bU hl h
    .simp at h
   .simp at h
  .split at h
   .exact Q0 hl h
   .simp at h
  .split at h
   .exact Q0 hl h
   .simp at h
  .simp at h
 .simp at h
theorem zKc {X:Cx}{H:AH}{o:Op}{v:AV}(h:aL X env H o=some v):aL X env2 H o=some v:=by
 unfold aL at h⊢;split at h
 .exact bU hl h
 .unfold Z6 at h⊢;split at h
  .rename_i a m;split at h
   .rename_i lo f;split at h
    .rename_i hi i;split at h
     .rename_i p j;rw[k9 hl _ _ m,YS hl _ _ f,YS hl _ _ i,YS hl _ _ j];exact h
     .simp at h
    .simp at h
   .simp at h
  .simp at h
 .exact Q0 hl h
 .exact bU hl h
 .exact Q0 hl h
 .split at h
  .split at h
   .split at h
    .exact bU hl h
    .simp at h
   .simp at h
  .simp at h
 .simp at h
theorem zPh {X:Cx}{o:Op}{v:AObj×(Nat->AV)}(h:aA X env o=some v):aA X env2 o=some v:=by
 unfold aA at h⊢;split at h
 .exact h
 .unfold aA1 at h⊢;split at h
  .rename_i a f;rw[k9 hl _ _ f];exact h
  .simp at h
 .unfold Q3 at h⊢;split at h
  .rename_i e p;split at h
   .rename_i q i;simp only[YQ hl _ _ i];exact h
   .simp at h
  .simp at h
 .unfold zA3 at h⊢;split at h
  .rename_i n j;split at h
   .rename_i m hm;simp only[k9 hl _ _ j,k9 hl _ _ hm];exact h
   .simp at h
  .simp at h
 .split at h
  .rename_i a f;rw[k9 hl _ _ f];exact h
  .simp at h
 .exact h
 .simp at h
theorem zPg {X:Cx}{H:AH}{o:Op}{v:AV×AH}(h:aE X env H o=some v):aE X env2 H o=some v:=by
 unfold aE at h⊢;split at h
 .unfold BL at h⊢;split at h
  .rename_i p hp;split at h
   .rename_i y i;rw[k9 hl _ _ hp,k9 hl _ _ i];exact h
   .simp at h
  .simp at h
 .unfold c3 at h⊢;split at h
  .rename_i a f;split at h
   .rename_i b hb;split at h
    .rename_i c j;rw[k9 hl _ _ f,k9 hl _ _ hb,k9 hl _ _ j];exact h
    .simp at h
   .simp at h
  .simp at h
 .split at h
  .unfold uR at h⊢;split at h
   .split at h
    .split at h
     .unfold cV at h⊢;split at h
      .rename_i a f;split at h
       .rename_i b hb;simp only[k9 hl _ _ f,k9 hl _ _ hb];exact h
       .simp at h
      .simp at h
     .simp at h
    .simp at h
   .split at h
    .split at h
     .unfold zJq at h⊢;split at h
      .rename_i a f;split at h
       .rename_i b hb;simp only[k9 hl _ _ f,k9 hl _ _ hb];exact h
       .simp at h
      .simp at h
     .simp at h
    .simp at h
   .split at h
    .split at h
     .unfold c2 at h⊢;split at h
      .rename_i a f;split at h
       .rename_i b hb;simp only[k9 hl _ _ f,k9 hl _ _ hb];exact h
       .simp at h
      .simp at h
     .simp at h
    .simp at h
   .split at h
    .split at h
     .unfold c1 at h⊢;split at h
      .rename_i a f;simp only[k9 hl _ _ f];exact h
      .simp at h
     .simp at h
    .simp at h
   .simp at h
  .simp at h
 .simp at h
theorem zL7 {X:Cx}{r:Fns}{H:AH}{o:Op}{v:AV×AH}(h:opF X r env H o=some v):opF X r env2 H o=some v:=by
 unfold opF at h⊢;split at h
 .rename_i i;unfold wV at h⊢;split at h
  .rename_i x f;simp only[i,zPe hl f];exact h
  .simp at h
 .rename_i i;unfold wV at h⊢;split at h
  .rename_i x f;simp only[i,zKc hl f];exact h
  .simp at h
 .rename_i i
  cases f:aA X env o with
  | none=>rw[f]at h;simp[wA]at h
  | some x=>simp only[i,zPh hl f];rw[f]at h;exact h
 .exact zPg hl h
 .unfold opF.callO at h⊢;split at h
  .split at h
   .unfold opF.callV at h⊢;split at h
    .rename_i g a b m;split at h
     .rename_i az j;simp only[k9 hl _ _ m,c9 hl _ _ j];exact h
     .simp at h
    .rename_i A m;split at h
     .rename_i az j;simp only[k9 hl _ _ m,c9 hl _ _ j];exact h
     .simp at h
    .simp at h
   .simp at h
  .simp at h
end
theorem XD {vs:List AV}{K:AV->List AV->Rs}{out:Ex×AH}(h:hd vs K=some out): ∃v l,vs=v::l/\K v l=some out:=by
 cases vs with
 | nil=>exact absurd h (by simp[hd])
 | cons v l=>exact⟨_,_,rfl,h⟩
def PK (env:Env):List Nat->List AV->Prop
 | [],vs=>vs=[]
 | l::L,vs=> ∃v vs',vs=v::vs'/\look env l=some v/\PK env L vs'
theorem wG: ∀ {L:List Nat} {env:Env} {K:List AV->Rs} {out:Ex×AH},pck L env K=some out-> ∃vs,PK env L vs/\K vs=some out
 | [],env,K,out,h=>⟨[],rfl,h⟩
 | l::L,env,K,out,h=>by
  simp only[pck]at h;split at h
  .rename_i v a;obtain⟨vs,f,i⟩:=wG h;exact⟨v::vs,⟨v,vs,rfl,a,f⟩,i⟩
  .simp at h
theorem Q7: ∀ {L:List Nat} {vs:List AV} {base:Env} {K:Env->Rs} {out:Ex×AH},unp L vs base K=some out-> ∀env,PK env L vs-> ∃env',K env'=some out/\ ∀t,(t∈L->look env' t=look env t)/\(t∉L->look env' t=look base t)
 | [],vs,base,K,out,h,env,_=>⟨base,h,fun t=>⟨fun h=>by simp at h,fun _=>rfl⟩⟩
 | l::L,vs,base,K,out,h,env,⟨v,vs',e,hv,hp⟩=>by
  subst e;simp only[unp,hd]at h;obtain⟨env',j,i⟩:=Q7 h env hp;refine⟨env',j,fun t=>⟨fun a=> ?_,fun a=> ?_⟩⟩
  .by_cases f:t∈L
   .exact(i t).1 f
   .rw[(i t).2 f];have:t=l:=by
              simp at a;rcases a with h | h
              .exact h
              .exact absurd h f
    subst this;simp only[look,bC,if_true];exact hv.symm
  .simp only[zP,not_or]at a;rw[(i t).2 a.2];simp only[look,bC,if_neg a.1]
theorem BM: ∀(L:List Nat) (env:Env) (t:Nat),look (zAO L env) t=if t∈L then none else look env t
 | [],env,t=>by simp[zAO]
 | l::L,env,t=>by
  have a:=BM L env t;simp only[look]at a⊢;simp only[zAO,zF,zY,zP,a];by_cases f:t=l<;>by_cases h:t∈L<;>simp[f,h]
theorem Y3 {m:Nat}{H:AH}{K:Rs}{out:Ex×AH} : ∀ {sn:List Seen},zPF m H K sn=some out->K=some out/\ ∀s∈sn,m.testBit s.i=false->s.rd H=some s.v
 | [],h=>⟨h,by simp⟩
 | s::l,h=>by
  simp only[zPF,zGO,zF]at h;split at h
  .rename_i hb;obtain⟨f,j⟩:=Y3 h;refine⟨f,fun q a hm=> ?_⟩;rcases zP.1 a with rfl | a
   .rw[hb]at hm;simp at hm
   .exact j q a hm
  .unfold chk at h;split at h
   .rename_i y o;rw[zF]at h;split at h
    .rename_i p;obtain⟨f,j⟩:=Y3 h;refine⟨f,fun q a hm=> ?_⟩;rcases zP.1 a with rfl | a
     .rw[o,J7 _ _ p]
     .exact j q a hm
    .simp at h
   .simp at h
section
variable {B:Tb}{D:Dyn}{nt:Nat}{ops:Array Oper}
theorem zNV {env j:Env}(hl:Le env j){o:Op}{H:AH}{v:AV}(hm:v7 B.X o=true)(h:zQ5 B env o H=some v):aL B.X j H o=some v:=by
 apply zKc hl;unfold zQ5 at h;split at h
 .obtain⟨a,f,i⟩:=wQ h;exact Q1 f (zAa i)
 .obtain⟨a,b,f,hb,i⟩:=vH h;exact zAV f hb (zMx i)
 .split at h
  .rename_i lo hi z q s u;obtain⟨a,f,i⟩:=wQ h;show Z6 _ _ _ _ _ _ _ _=_;simp only[Z6,f,q,s,u];exact zBg i
  .simp at h
 .obtain⟨a,f,i⟩:=wQ h;exact Q1 f (zBh i)
 .obtain⟨a,b,f,hb,i⟩:=vH h;exact zAV f hb (zEc i)
 .rename_i c;split at h
  .rename_i x t ts p m;obtain⟨a,f,i⟩:=wQ h;simp only[v7]at hm;split at hm
   .rename_i y;simp only[aL,y,p,m];exact Q1 f (zGU i)
   .simp at hm
  .simp at h
 .simp at h
theorem zGn {X:Cx}{t:TypeId}{x r:AV}{H:AH}(h:zDV X t x H=some r)(f: ∀a b,X.und t≠some (.map a b))(i:AH):zDV X t x i=some r:=by
 unfold zDV at h⊢;split at h<;>first | exact h | (rename_i j;exact absurd j (f _ _)) | (simp at h;done)
theorem zEd {env:Env}{o:Op}{H:AH}{v:AV}(i:cls B.X o= .L)(hm:v7 B.X o=false)(h:aL B.X env H o=some v)(j:AH):aL B.X env j o=some v:=by
 unfold aL at h⊢;split at h
 .simp[v7]at hm
 .rename_i t x lo hi q;simp only[v7]at hm;unfold Z6 at h⊢;split at h
  .split at h
   .split at h
    .split at h
     .unfold ZG at h⊢;split at h
      .rename_i a _ _ _ _ _ _ _ _ _ _ _;split at h
       .exact h
       .rename_i f _;simp[f]at hm
       .rename_i f _;simp[f]at hm
       .rename_i f _;simp[f]at hm
       .exact h
       .exact h
       .simp at h
      .simp at h
     .simp at h
    .simp at h
   .simp at h
  .simp at h
 .simp[v7]at hm
 .simp only[v7,isL]at hm;rw[i]at hm;simp at hm
 .simp only[v7]at hm;simp[cls,hm]at i
 .rename_i c;split at h
  .rename_i m;split at h
   .rename_i x s;split at h
    .rename_i t ts p;unfold b1 at h⊢;split at h
     .refine zGn h (fun a b f=> ?_) j;simp only[v7,m,p,f]at hm;simp at hm
     .simp at h
    .simp at h
   .simp at h
  .simp at h
 .simp at h
def zC3 (ops:Array Oper)(o:Oper):Option Nat:=match o.guard with
 | none=>none
 | some (j,_)=>match zGs ops.toList j with
  | some p=>p.dst
  | none=>none
theorem zB7 {env env':Env}{o:Oper}(h: ∀d,zC3 ops o=some d->look env d=look env' d):ZH ops env o=ZH ops env' o:=by
 unfold ZH;unfold zC3 at h;split
 .rfl
 .rename_i j f a;rw[a]at h;simp only at h;unfold zGA;split
  .rename_i p hp;rw[hp]at h;simp only at h;split
   .rename_i d hd;rw[h d hd]
   .rfl
  .rfl
def zMm (X:Cx)(ms:List Nat)(a b:Ent):Prop:=a.want=true->wX (cls X b.o.op)=true->(ms.getD b.i 0).testBit a.i=false->cls X a.o.op= .L->aL X a.env b.H' a.o.op=some a.v
def Tr (X:Cx)(ms:List Nat)(sn:List Seen)(pre:List Ent)(rest:List (Nat×Oper)):Prop:=
 ∀a∈pre,a.want=true->cls X a.o.op= .L->(∃s∈sn,s.i=a.i/\s.v=a.v/\ ∀H v,s.rd H=some v->aL X a.env H a.o.op=some v)\/(∀H,aL X a.env H a.o.op=some a.v)\/(∀b∈rest,wX (cls X b.2.op)=true->(ms.getD b.1 0).testBit a.i=true)
theorem Tr.see {X:Cx}{ms:List Nat}{sn:List Seen}{pre:List Ent}{rest:List (Nat×Oper)}(h:Tr X ms sn pre rest){b:Ent}(hb:(b.i,b.o)∈rest)(p:wX (cls X b.o.op)=true-> ∀s∈sn,(ms.getD b.i 0).testBit s.i=false->s.rd b.H'=some s.v): ∀a∈pre,zMm X ms a b:=by
 intro a q t m j hL;rcases h a q t hL with⟨s,u,f,x,y⟩ | f | f
 .have:=p m s u (by rw[f];exact j);rw[<-x];exact y _ _ this
 .exact f _
 .have:=f _ hb m;simp only at this;rw[this]at j;simp at j
theorem Tr.less {X:Cx}{ms:List Nat}{sn sn':List Seen}{pre:List Ent}{rest rest':List (Nat×Oper)}(h:Tr X ms sn pre rest)(j: ∀s∈sn,s∈sn')(hr: ∀b∈rest',b∈rest):Tr X ms sn' pre rest':=by
 intro a m o hL;rcases h a m o hL with⟨s,i,f⟩ | f | f
 .exact .inl ⟨s,j s i,f⟩
 .exact .inr (.inl f)
 .exact .inr (.inr fun b hb=>f b (hr b hb))
theorem zBt {env:Env}{d:Option Tmp}{v:AV}{K:Env->Rs}{out:Ex×AH}(h:setE nt env d v K=some out){f:Env}(hl:Le env f):
  ∃env' a,VP nt f d v=some a/\Le env' a/\K env'=some out:=by
 unfold setE at h;split at h
 .rename_i d;rw[zF]at h;split at h
  .rename_i hd;exact⟨_,_,by simp only[VP,hd,zM],hl.upd d v,h⟩
  .simp at h
 .exact⟨_,_,rfl,hl,h⟩
theorem zFI {ms:List Nat}{env:Env}{sn:List Seen}{i:Nat}{o:Op}{v:AV}{H':AH}{K:List Seen->Rs}{out:Ex×AH}(h:zNJ B ms env sn i o v H' K=some out):
  ∃sn',K sn'=some out/\(∀s∈sn,s∈sn')/\(wX (cls B.X o)=true-> ∀s∈sn,(ms.getD i 0).testBit s.i=false->s.rd H'=some s.v)/\
   (wX (cls B.X o)=false->v7 B.X o=true->(⟨i,zQ5 B env o,v⟩:Seen)∈sn'):=by
 unfold zNJ at h;simp only[zF]at h;split at h
 .rename_i a;obtain⟨f,j⟩:=Y3 h;exact⟨sn,f,fun _ h=>h,fun _=>j,fun h=>by rw[a]at h;simp at h⟩
 .rename_i a;split at h
  .exact⟨_,h,fun s m=>by simp[m],fun h=>absurd h a,fun _ _=>by simp⟩
  .rename_i hm;exact⟨_,h,fun _ h=>h,fun h=>absurd h a,fun _ h=>absurd h hm⟩
theorem WJ {env env':Env}{d:Option Tmp}{v:AV}(h:VP nt env d v=some env'){t:Nat}(a:d≠some t):look env' t=look env t:=by
 rw[dY h,if_neg a]
theorem uV {masks:Option (List Nat)}{K:List Seen->Env->AH->Rs}{out:Ex×AH}{rest:List (Nat×Oper)} : ∀(row:List (Nat×Oper)) (sn:List Seen) (env:Env) (H:AH) (f:Env) (pre:List Ent),
  zKj B D nt masks K row sn env H=some out->Le env f->(∀q∈row,ZH ops f q.2=some true)->(∀q∈row,∀y∈row,∀d,q.2.dst=some d->zC3 ops y.2≠some d)->
  (∀ms,masks=some ms->Tr B.X ms sn pre (row++rest))->
  ∃es envF HF sn' env',uI B.X (rOf B D) nt ops f H es envF HF/\es.map (fun e=>(e.i,e.o))=row/\(∀e∈es,e.want=true)/\Le env' envF/\K sn' env' HF=some out/\
   (∀ms,masks=some ms->(∀a∈pre,∀b∈es,zMm B.X ms a b)/\es.Pairwise (zMm B.X ms)/\Tr B.X ms sn' (pre++es) rest)
 | [],sn,env,H,f,pre,h,hl,_,_,hT=>⟨[],f,H,sn,env,⟨rfl,rfl⟩,rfl,by simp,hl,h,fun ms j=>⟨by simp,List.Pairwise.nil,by simpa using hT ms j⟩⟩
 | (i,o)::row,sn,env,H,f,pre,h,hl,hw,hst,hT=>by
  simp only[zKj]at h;obtain⟨v,H',a4,C⟩:=zQa h;have O:=zL7 hl a4;have T:=hw (i,o) (zK ..);have a0:zJk B.X (rOf B D) ops f H i o=some ⟨i,o,true,f,H,v,H'⟩:=by
   simp only at T;simp only[zJk,T,O]
  have V: ∀(sn':List Seen) (env' m:Env),VP nt f o.dst v=some m->Le env' m->zKj B D nt masks K row sn' env' H'=some out->
    (∀ms,masks=some ms->(∀s∈sn,s∈sn')/\(wX (cls B.X o.op)=true-> ∀s∈sn,(ms.getD i 0).testBit s.i=false->s.rd H'=some s.v)/\(wX (cls B.X o.op)=false->v7 B.X o.op=true->(⟨i,zQ5 B env o.op,v⟩:Seen)∈sn'))->
    ∃es envF HF sn' env',uI B.X (rOf B D) nt ops f H es envF HF/\es.map (fun e=>(e.i,e.o))=(i,o)::row/\(∀e∈es,e.want=true)/\Le env' envF/\K sn' env' HF=some out/\
     (∀ms,masks=some ms->(∀a∈pre,∀b∈es,zMm B.X ms a b)/\es.Pairwise (zMm B.X ms)/\Tr B.X ms sn' (pre++es) rest):=by
   intro sn' env' m S a5 a1 U;obtain⟨es,envF,HF,a6,env2,c1,c2,c3,c4,c5,c6⟩:=uV row sn' env' H' m (pre++[⟨i,o,true,f,H,v,H'⟩]) a1 a5
    (fun q u=>by
     rw[<-hw q (zC _ u)];exact zB7 fun d hd=>WJ S (fun hc=>hst (i,o) (zK ..) q (zC _ u) d hc hd))
    (fun q u y a2=>hst q (zC _ u) y (zC _ a2))
    (fun ms j=>by
     obtain⟨W,Y,Z⟩:=U ms j;have a7:=(hT ms j).less (sn':=sn') (rest':=row++rest) W (fun b hb=>by simp only[qF];exact zC _ hb);intro a p a8 t;rcases qB.1 p with p | p
     .exact a7 a p a8 t
     .simp only[y6]at p;subst p;simp only at t⊢;have a9:wX (cls B.X o.op)=false:=by rw[t];rfl
      have b0:aL B.X f H o.op=some v:=by
       have:=O;simp only[opF,t,wV]at this;split at this
       .rename_i x hx;simp only[zB,zU]at this;rw[hx,this.1]
       .simp at this
      cases z:v7 B.X o.op with
      | true=>exact .inl ⟨_,Z a9 z,rfl,rfl,fun H v hv=>zNV hl z hv⟩
      | false=>exact .inr (.inl fun H2=>zEd t z b0 H2))
   refine⟨⟨i,o,true,f,H,v,H'⟩::es,envF,HF,a6,env2,⟨rfl,rfl,a0,m,S,c1⟩,by simp[c2], ?_,c4,c5,fun ms j=> ?_⟩
   .intro e F;rcases zP.1 F with rfl | F
    .rfl
    .exact c3 e F
   .obtain⟨W,Y,Z⟩:=U ms j;obtain⟨d1,d2,d3⟩:=c6 ms j;have a3:=(hT ms j).see (b:=⟨i,o,true,f,H,v,H'⟩) (by simp) Y;refine⟨fun a p b hb=> ?_,List.Pairwise.cons (fun b hb=>d1 _ (by simp) b hb) d2,by simpa using d3⟩;rcases zP.1 hb with rfl | hb
    .exact a3 a p
    .exact d1 a (yC _ p) b hb
  split at C
  .obtain⟨env',m,J,L,N⟩:=zBt C hl;exact V sn env' m J L N (fun ms j=>by simp at j)
  .rename_i ms;obtain⟨sn',k1,k2,k3,k4⟩:=zFI C;obtain⟨env',m,J,L,N⟩:=zBt k1 hl;exact V sn' env' m J L N (fun b1 j=>by injection j with j;subst j;exact⟨k2,k3,k4⟩)
theorem J3 {X:Cx}{r:Fns} : ∀ {es:List Ent} {env:Env} {H:AH} {envF:Env} {HF:AH},uI X r nt ops env H es envF HF-> ∀t,(∀e∈es,e.o.dst≠some t)->look envF t=look env t
 | [],_,_,_,_,h,t,_=>by rw[h.1]
 | e::es,env,H,envF,HF,⟨h1,h2,h3,env',h4,h5⟩,t,ht=>by
  rw[J3 h5 t (fun q a=>ht q (zC _ a)),WJ h4 (ht e (zK ..))]
theorem cZ {X:Cx}{r:Fns} : ∀ {es f:List Ent} {env:Env} {H:AH} {a:Env} {h:AH} {envF:Env} {HF:AH},uI X r nt ops env H es a h->uI X r nt ops a h f envF HF->uI X r nt ops env H (es++f) envF HF
 | [],_,_,_,_,_,_,_,⟨h1,h2⟩,k=>by subst h1 h2;exact k
 | e::es,f,env,H,a,h,envF,HF,⟨h1,h2,h3,env',h4,h5⟩,k=>⟨h1,h2,h3,env',h4,cZ h5 k⟩
theorem YM {H:AH} : ∀(run:List (Nat×Oper)) (f:Env),(∀a∈run,ZH ops f a.2=some false)->(∀a∈run,∀u∈run,∀d,a.2.dst=some d->zC3 ops u.2≠some d)->(∀a∈run,∀d,a.2.dst=some d->d<nt)->
  ∃es envF,uI B.X (rOf B D) nt ops f H es envF H/\es.map (fun e=>(e.i,e.o))=run/\(∀e∈es,e.want=false/\e.H'=H)/\ ∀t,t∈dstsOf run->look envF t=some jO
 | [],f,_,_,_=>⟨[],f,⟨rfl,rfl⟩,rfl,by simp,fun t h=>by simp[dstsOf]at h⟩
 | (i,o)::run,f,hw,hst,hlt=>by
  have x:=hw (i,o) (zK ..);have y:zJk B.X (rOf B D) ops f H i o=some ⟨i,o,false,f,H,jO,H⟩:=by
   simp only at x;simp only[zJk,x]
  have m: ∃s,VP nt f o.dst jO=some s:=by
   cases hd:o.dst with
   | none=>exact⟨_,rfl⟩
   | some d=>exact⟨upd f d jO,by simp only[VP,zF,qD,if_pos (hlt (i,o) (zK ..) d hd)]⟩
  obtain⟨s,m⟩:=m;obtain⟨es,envF,c1,c2,c3,F⟩:=YM run s
   (fun a j=>by
    rw[<-hw a (zC _ j)];exact zB7 fun d hd=>WJ m (fun v=>hst (i,o) (zK ..) a (zC _ j) d v hd))
   (fun a j u z=>hst a (zC _ j) u (zC _ z))
   (fun a j=>hlt a (zC _ j))
  refine⟨⟨i,o,false,f,H,jO,H⟩::es,envF,⟨rfl,rfl,y,s,m,c1⟩,by simp[c2], ?_,fun t h=> ?_⟩
  .intro e q;rcases zP.1 q with rfl | q
   .exact⟨rfl,rfl⟩
   .exact c3 e q
  .by_cases p:t∈dstsOf run
   .exact F t p
   .have C:o.dst=some t:=by
     simp only[dstsOf,List.filterMap_cons]at h p;split at h
     .exact absurd h p
     .rename_i d hd;rcases zP.1 h with rfl | h
      .exact hd
      .exact absurd h p
    rw[J3 c1 t (fun e q v=>p ?_),dY m,if_pos C];have:(e.i,e.o)∈run:=by rw[<-c2];exact qU.2 ⟨e,q,rfl⟩
    simp only[dstsOf,List.mem_filterMap];exact⟨_,this,v⟩
end
theorem zAw {x:Rs}{K:List AV->AH->Rs}{out:Ex×AH}(h:jn x K=some out):(∃vs H,x=some (.norm vs,H)/\K vs H=some out)\/(∃id vs H,x=some (.exit id vs,H)/\out=(.exit id vs,H))\/(∃v H,x=some (.ret v,H)/\out=(.ret v,H)):=by
 unfold jn at h;split at h
 .exact .inl ⟨_,_,rfl,h⟩
 .injection h with h;exact .inr (.inl ⟨_,_,_,rfl,h.symm⟩)
 .injection h with h;exact .inr (.inr ⟨_,_,rfl,h.symm⟩)
 .simp at h
theorem zKL {a b:Option (Nat×Bool)}(h:zNL a b=true):a=b:=by
 unfold zNL at h;split at h
 .simp only[zE,zY,beq_iff_eq]at h;rw[h.1,h.2]
 .simp at h
theorem zEg {g:Option (Nat×Bool)} : ∀ {l run rest:List (Nat×Oper)},zBo g l=(run,rest)->l=run++rest/\ ∀i∈run,i.2.guard=g
 | [],run,rest,h=>by simp only[zBo,zU]at h;obtain⟨rfl,rfl⟩:=h;simp
 | o::l,run,rest,h=>by
  simp only[zBo,zF]at h;split at h
  .rename_i m
   cases j:zBo g l with
   | mk a b=>
    rw[j]at h;simp only[zU]at h;obtain⟨rfl,rfl⟩:=h;obtain⟨p,q⟩:=zEg j;refine⟨by rw[p];rfl,fun i f=> ?_⟩;rcases zP.1 f with rfl | f
    .exact(zKL m).symm
    .exact q i f
  .simp only[zU]at h;obtain⟨rfl,rfl⟩:=h;simp
section
variable {B:Tb}{D:Dyn}{nt:Nat}{ops:Array Oper}
theorem vZ {X:Cx}{masks:Option (List Nat)}{sn:List Seen}{H:AH}{K:Rs}{out:Ex×AH} : ∀ {run:List (Nat×Oper)},zBq X masks sn H K run=some out->K=some out/\ ∀ms,masks=some ms-> ∀b∈run,wX (cls X b.2.op)=true-> ∀s∈sn,(ms.getD b.1 0).testBit s.i=false->s.rd H=some s.v
 | [],h=>⟨h,by simp⟩
 | b::run,h=>by
  unfold zBq at h;split at h
  .obtain⟨j,_⟩:=vZ h;exact⟨j,fun ms a=>by simp at a⟩
  .rename_i ms;rw[zF]at h;split at h
   .obtain⟨j,u⟩:=Y3 h;obtain⟨m,o⟩:=vZ j;refine⟨m,fun p a q f=> ?_⟩;injection a with a;subst a
    rcases zP.1 f with rfl | f
    .exact fun _=>u
    .exact o _ rfl q f
   .rename_i t;obtain⟨m,o⟩:=vZ h;refine⟨m,fun p a q f=> ?_⟩;injection a with a;subst a
    rcases zP.1 f with rfl | f
    .exact fun x=>absurd x t
    .exact o _ rfl q f
theorem zCx {X:Cx}{r:Fns} : ∀ {es:List Ent} {env:Env} {H:AH} {envF:Env} {HF:AH},uI X r nt ops env H es envF HF-> ∀e∈es,zJk X r ops e.env e.H e.i e.o=some e
 | [],_,_,_,_,_,e,a=>by simp at a
 | q::es,env,H,envF,HF,⟨h1,h2,h3,env',h4,h5⟩,e,a=>by
  rcases zP.1 a with rfl | a
  .rw[h1,h2];exact h3
  .exact zCx h5 e a
theorem zKh {env:Env}{v:AV} : ∀ {L:List Nat},(∀t∈L,look env t=some v)->PK env L (L.map fun _=>v)
 | [],_=>rfl
 | l::L,h=>⟨v,_,rfl,h l (zK ..),zKh fun t a=>h t (zC _ a)⟩
theorem zBG {run rest:List (Nat×Oper)}{t:Nat}(h:t∈YR ops run rest):t∈dstsOf run:=by
 simp only[YR,List.mem_filterMap]at h;obtain⟨a,i,f⟩:=h;simp only[dstsOf,List.mem_filterMap];refine⟨a,i, ?_⟩;split at f
 .rename_i d hd;rw[zF]at f;split at f
  .rw[hd];exact f
  .simp at f
 .simp at f
theorem zI0 (masks:Option (List Nat))(K:Env->AH->Rs)(a:Nat)(row:List (Nat×Oper))(sn:List Seen)(env:Env)(H:AH):zEs B D nt ops masks (a+1) K row sn env H=(match row with
   | []=>K env H
   | (i,o)::rest=>match o.guard with
    | none=>zKj B D nt masks (fun sn env H=>zEs B D nt ops masks a K rest sn env H) [(i,o)] sn env H
    | some (j,want)=>match zIy ops env j with
     | none=>none
     | some g=>match zBo o.guard rest with
      | (run,rest)=>bif zOu nt ops j ((i,o)::run)then
        bif zNN B.X masks ((i,o)::run) rest then
         runK B D nt ops masks g want ((i,o)::run) (YR ops ((i,o)::run) rest) sn env H fun env H=>zEs B D nt ops masks a K rest sn env H
        else runW B D nt masks g want ((i,o)::run) (YR ops ((i,o)::run) rest) sn env H fun sn env H=>zEs B D nt ops masks a K rest sn env H
       else none):=rfl
theorem u0 {masks:Option (List Nat)}{K:Env->AH->Rs}{out:Ex×AH} : ∀(fuel:Nat) (row:List (Nat×Oper)) (sn:List Seen) (env:Env) (H:AH) (N:Env) (pre:List Ent),
  zEs B D nt ops masks fuel K row sn env H=some out->Le env N->(∀ms,masks=some ms->Tr B.X ms sn pre row)->
  ∃es envF HF env',uI B.X (rOf B D) nt ops N H es envF HF/\es.map (fun e=>(e.i,e.o))=row/\Le env' envF/\K env' HF=some out/\
   (∀ms,masks=some ms->(∀a∈pre,∀b∈es,zMm B.X ms a b)/\es.Pairwise (zMm B.X ms))
 | 0,row,sn,env,H,N,pre,h,hl,hT=>by
  have h':(none:Rs)=some out:=h;simp at h'
 | fuel+1,row,sn,env,H,N,pre,h,hl,hT=>by
  have ih:=u0 (masks:=masks) (K:=K) (out:=out) fuel;have y:=h;rw[zI0]at y;clear h;split at y
  .exact⟨[],N,H,env,⟨rfl,rfl⟩,rfl,hl,y,fun ms u=>⟨by simp,List.Pairwise.nil⟩⟩
  .rename_i i o rest;split at y
   .rename_i hg;obtain⟨es,envF,HF,sn',env',c1,c2,c3,Y,Z,c6⟩:=uV (ops:=ops) (rest:=rest) [(i,o)] sn env H N pre y hl
     (fun m q=>by simp only[y6]at q;subst q;simp[ZH,hg])
     (fun m q a9 a7 d hd=>by simp only[y6]at a7;subst a7;simp[zC3,hg])
     (fun ms u=>by simpa using hT ms u)
    obtain⟨b5,b1,b6,env2,d1,d2,d3,d4,d5⟩:=ih rest sn' env' HF envF (pre++es) Z Y (fun ms u=>(c6 ms u).2.2);refine⟨es++b5,b1,b6,env2,cZ c1 d1,by rw[List.map_append,c2,d2];rfl,d3,d4,fun ms u=> ?_⟩;obtain⟨e1,e2,e3⟩:=c6 ms u;obtain⟨f1,f2⟩:=d5 ms u;refine⟨fun a f b hb=> ?_,j5.2 ⟨e2,f2,fun a f b hb=>f1 a (yR _ f) b hb⟩⟩;rcases qB.1 hb with hb | hb
    .exact e1 a f b hb
    .exact f1 a (yC _ f) b hb
   .rename_i j a8 hg;split at y
    .simp at y
    .rename_i g a2
     cases b9:zBo o.guard rest with
     | mk run rest'=>
      rw[b9]at y;simp only[zF]at y;split at y
      .rename_i a5;obtain⟨d8,d7⟩:=zEg b9;have b2:(i,o)::rest=((i,o)::run)++rest':=by rw[d8];rfl
       generalize d9:(i,o)::run=s at y a5 b2;have c0: ∀m∈s,m.2.guard=some (j,a8):=by
        intro m q;rw[<-d9]at q;rcases zP.1 q with rfl | q
        .exact hg
        .rw[d7 m q,hg]
       unfold zIy at a2;unfold zOu at a5;split at a2
       .rename_i p hp;simp only[hp]at a5;split at a2
        .rename_i dg b7;simp only[b7,zE,yT,List.contains_eq_mem,yP,y9,qD]at a5;obtain⟨e5,c9⟩:=a5;have e6: ∀m∈s,zC3 ops m.2=some dg:=fun m q=>by simp only[zC3,c0 m q,hp,b7]
         have a3: ∀m∈s,ZH ops N m.2=some (isW g a8):=fun m q=>by
          simp only[ZH,c0 m q,zGA,hp,b7,hl _ _ a2]
         have a4: ∀m∈s,∀a9∈s,∀d,m.2.dst=some d->zC3 ops a9.2≠some d:=fun m q a9 a7 d hd hc=>by
          rw[e6 a9 a7]at hc;injection hc with hc;subst hc
          exact e5 (by simp only[dstsOf,List.mem_filterMap];exact⟨m,q,hd⟩)
         have W: ∀ms,masks=some ms->Tr B.X ms sn pre (s++rest'):=fun ms u=>by rw[<-b2];exact hT ms u
         have key: ∃z C T env2 b0,uI B.X (rOf B D) nt ops N H z C T/\z.map (fun e=>(e.i,e.o))=s/\Le env2 C/\zEs B D nt ops masks fuel K rest' b0 env2 T=some out/\
           (∀ms,masks=some ms->(∀a∈pre,∀b∈z,zMm B.X ms a b)/\z.Pairwise (zMm B.X ms)/\Tr B.X ms b0 (pre++z) rest'):=by
          have b3: ∀ {z:List Ent} {C:Env} {T:AH} {env2:Env},uI B.X (rOf B D) nt ops N H z C T->z.map (fun e=>(e.i,e.o))=s->
            (∀t,t∉YR ops s rest'->look env2 t=look (zAO (dstsOf s) env) t)->(∀t x,t∈YR ops s rest'->look env2 t=some x->look C t=some x)->Le env2 C:=by
           intro z C T env2 hc hm J O t x L;by_cases F:t∈YR ops s rest'
           .exact O t x F L
           .rw[J t F,BM]at L;split at L
            .simp at L
            .rename_i e7;rw[J3 hc t (fun e he e8=>e7 ?_)]
             .exact hl t x L
             .have:(e.i,e.o)∈s:=by rw[<-hm];exact qU.2 ⟨e,he,rfl⟩
              simp only[dstsOf,List.mem_filterMap];exact⟨_,this,e8⟩
          split at y
          .rename_i b8;unfold runK at y
           cases U:isW g a8 with
           | true=>
            simp only[wnt,U,zM]at y;have L: ∃vs S,zKj B D nt masks (fun _ env H=>pck (YR ops s rest') env fun vs=>some (.norm vs,H)) s sn env H=some (.norm vs,S)/\(unp (YR ops s rest') vs (zAO (dstsOf s) env) fun env=>zEs B D nt ops masks fuel K rest' sn env S)=some out/\True:=by
             rcases zAw y with⟨vs,S,J,O⟩ | ⟨id,vs,S,J,O⟩ | ⟨v,S,J,O⟩
             .exact⟨vs,S,J,O,trivial⟩
             .obtain⟨_,_,_,_,_,_,_,_,_,Z,_⟩:=uV (ops:=ops) (rest:=rest') s sn env H N pre J hl (fun m q=>by rw[a3 m q,U]) a4 W;obtain⟨_,_,c7⟩:=wG Z;simp at c7
             .obtain⟨_,_,_,_,_,_,_,_,_,Z,_⟩:=uV (ops:=ops) (rest:=rest') s sn env H N pre J hl (fun m q=>by rw[a3 m q,U]) a4 W;obtain⟨_,_,c7⟩:=wG Z;simp at c7
            obtain⟨vs,S,J,O,_⟩:=L;obtain⟨z,C,T,d0,b4,c1,c2,c3,Y,Z,c6⟩:=uV (ops:=ops) (rest:=rest') s sn env H N pre J hl (fun m q=>by rw[a3 m q,U]) a4 W;obtain⟨vs',c7,c8⟩:=wG Z;simp only[zB,zU,Ex.norm.injEq]at c8;obtain⟨rfl,rfl⟩:=c8;obtain⟨env2,u1,u2⟩:=Q7 O b4 c7;refine⟨z,C,T,env2,sn,c1,c2,b3 c1 c2 (fun t F=>(u2 t).2 F) (fun t x F L=>Y t x (by rw[<-(u2 t).1 F];exact L)),u1,fun ms u=> ?_⟩;obtain⟨e1,e2,e3⟩:=c6 ms u;refine⟨e1,e2,fun a f V a1=> ?_⟩;rcases qB.1 f with f | f
            .exact((W ms u).less (fun _ h=>h) (fun b hb=>yR _ hb)) a f V a1
            .have e0:=zCx c1 a f;have a6:=(V4 _ _ _ e0).2.1 V;have e9:aL B.X a.env a.H a.o.op=some a.v:=by
              simp only[opF,a1,wV]at a6;split at a6
              .rename_i x L;simp only[zB,zU]at a6;rw[L,a6.1]
              .simp at a6
             cases d6:v7 B.X a.o.op with
             | false=>exact .inr (.inl fun H2=>zEd a1 d6 e9 H2)
             | true=>
              refine .inr (.inr fun b hb he=> ?_);simp only[zNN,zGO,u,y9,yO,yT]at b8;have a0:(a.i,a.o)∈s:=by rw[<-c2];exact qU.2 ⟨a,f,rfl⟩
              rcases b8 _ a0 with hr | hr
              .simp only at hr;rw[d6]at hr;simp at hr
              .rcases hr b hb with hr | hr
               .rw[he]at hr;simp at hr
               .exact hr
           | false=>
            simp only[wnt,U,qH]at y;have L: ∃vs S,zBq B.X masks sn H (some (.norm ((YR ops s rest').map fun _=>jO),H)) s=some (.norm vs,S)/\(unp (YR ops s rest') vs (zAO (dstsOf s) env) fun env=>zEs B D nt ops masks fuel K rest' sn env S)=some out:=by
             rcases zAw y with⟨vs,S,J,O⟩ | ⟨id,vs,S,J,O⟩ | ⟨v,S,J,O⟩
             .exact⟨vs,S,J,O⟩
             .have:=(vZ J).1;simp at this
             .have:=(vZ J).1;simp at this
            obtain⟨vs,S,J,O⟩:=L;obtain⟨h3,h4⟩:=vZ J;simp only[zB,zU,Ex.norm.injEq]at h3;obtain⟨rfl,rfl⟩:=h3;obtain⟨z,C,c1,c2,c3,Y⟩:=YM (B:=B) (D:=D) (nt:=nt) (ops:=ops) (H:=H) s N (fun m q=>by rw[a3 m q,U]) a4 (fun m q d hd=>c9 d (by simp only[dstsOf,List.mem_filterMap];exact⟨m,q,hd⟩));obtain⟨env2,u1,u2⟩:=Q7 O C (zKh fun t F=>Y t (zBG F));refine⟨z,C,H,env2,sn,c1,c2,b3 c1 c2 (fun t F=>(u2 t).2 F) (fun t x F L=>by rw[<-(u2 t).1 F];exact L),u1,fun ms u=>⟨fun a f b hb=> ?_, ?_,fun a f V a1=> ?_⟩⟩
            .have a0:(b.i,b.o)∈s:=by rw[<-c2];exact qU.2 ⟨b,hb,rfl⟩
             refine(W ms u).see (yC _ a0) (fun he=> ?_) a f;rw[(c3 b hb).2];exact h4 ms u _ a0 he
            .refine List.Pairwise.imp_of_mem (R:=fun _ _=>True) (fun {a b} f _ _ hw=> ?_) (List.pairwise_of_forall fun _ _=>trivial);rw[(c3 a f).1]at hw;simp at hw
            .rcases qB.1 f with f | f
             .exact((W ms u).less (fun _ h=>h) (fun b hb=>yR _ hb)) a f V a1
             .rw[(c3 a f).1]at V;simp at V
          .unfold runW at y
           cases U:isW g a8 with
           | true=>
            simp only[wnt,U,zM]at y;obtain⟨z,C,T,d0,b4,c1,c2,c3,Y,Z,c6⟩:=uV (ops:=ops) (rest:=rest') s sn env H N pre y hl (fun m q=>by rw[a3 m q,U]) a4 W;exact⟨z,C,T,b4,d0,c1,c2,Y,Z,fun ms u=>c6 ms u⟩
           | false=>
            simp only[wnt,U,qH]at y;obtain⟨O,h4⟩:=vZ y;obtain⟨z,C,c1,c2,c3,Y⟩:=YM (B:=B) (D:=D) (nt:=nt) (ops:=ops) (H:=H) s N (fun m q=>by rw[a3 m q,U]) a4 (fun m q d hd=>c9 d (by simp only[dstsOf,List.mem_filterMap];exact⟨m,q,hd⟩));obtain⟨env2,u1,u2⟩:=Q7 O C (zKh fun t F=>Y t (zBG F));refine⟨z,C,H,env2,sn,c1,c2,b3 c1 c2 (fun t F=>(u2 t).2 F) (fun t x F L=>by rw[<-(u2 t).1 F];exact L),u1,fun ms u=>⟨fun a f b hb=> ?_, ?_,fun a f V a1=> ?_⟩⟩
            .have a0:(b.i,b.o)∈s:=by rw[<-c2];exact qU.2 ⟨b,hb,rfl⟩
             refine(W ms u).see (yC _ a0) (fun he=> ?_) a f;rw[(c3 b hb).2];exact h4 ms u _ a0 he
            .refine List.Pairwise.imp_of_mem (R:=fun _ _=>True) (fun {a b} f _ _ hw=> ?_) (List.pairwise_of_forall fun _ _=>trivial);rw[(c3 a f).1]at hw;simp at hw
            .rcases qB.1 f with f | f
             .exact((W ms u).less (fun _ h=>h) (fun b hb=>yR _ hb)) a f V a1
             .rw[(c3 a f).1]at V;simp at V
         obtain⟨z,C,T,env2,b0,k1,k2,k3,k4,k5⟩:=key;obtain⟨b5,b1,b6,e4,d1,d2,d3,d4,d5⟩:=ih rest' b0 env2 T C (pre++z) k4 k3 (fun ms u=>(k5 ms u).2.2);refine⟨z++b5,b1,b6,e4,cZ k1 d1,by rw[List.map_append,k2,d2,b2],d3,d4,fun ms u=> ?_⟩;obtain⟨e1,e2,e3⟩:=k5 ms u;obtain⟨f1,f2⟩:=d5 ms u;refine⟨fun a f b hb=> ?_,j5.2 ⟨e2,f2,fun a f b hb=>f1 a (yR _ f) b hb⟩⟩;rcases qB.1 hb with hb | hb
         .exact e1 a f b hb
         .exact f1 a (yC _ f) b hb
        .simp at a2
       .simp at a2
      .simp at y
end
def Marks (lo:Nat)(R:Ren)(w:World)(f:List Deferred):Prop:=
 f.Pairwise (fun a b=> ∀r,a=⟨.collected r, #[]⟩->b≠⟨.collected r, #[]⟩)/\
 ∀d∈f,∃r,d=⟨.collected r, #[]⟩/\lo<=r/\r<w.heap.size/\(∀A d c,¬R A r d c)/\w.heap[r]? =some (.deferred (some []))
theorem Marks.nil (lo:Nat)(R:Ren)(w:World):Marks lo R w []:=⟨List.Pairwise.nil,by simp⟩
theorem Marks.ext {lo:Nat}{R i:Ren}{H H':AH}{w j:World}{m:List Deferred}(h:Marks lo R w m)(k:Ext R H w i H' j):Marks lo i j m:=by
 refine⟨h.1,fun d hd=> ?_⟩;obtain⟨r,p,q,o,f,s⟩:=h.2 d hd;refine⟨r,p,q,qQ o k.size,fun A d c hr=> ?_,by rw[k.keep r o f];exact s⟩;rcases k.new _ _ _ _ hr with a | a | ⟨t,u,v,a⟩
 .exact f _ _ _ a
 .omega
 .exact f _ _ _ a
def Ends (k:List Item)(h:Env->AH->Prop)(f:Nat->Env->AH->Prop)(i:Env->AH->Prop)(a:List Item)(env:Env)(H:AH):Prop:=
 (a=k/\h env H)\/(∃id k',a= .code (.exit id)::k'/\exitTo id k'=exitTo id k/\f id env H)\/(∃k',a= .code .ret::k'/\i env H)
def U0 (P:Program)(nt:Nat)(f0:FuncId)(ro:Bool)(q:Item)(env:Env)(H:AH)(o:Env->AH->Prop)(m:Nat->Env->AH->Prop)(p:Env->AH->Prop):Prop:=
 ∀(lo:Nat) (R:Ren) (fr:Frame) (k:List Item) (cs:List Frame) (w:World),fr.mode= .run->(ro=false->fr.roundOf=none/\fr.fn=f0)->fr.todo=q::k->EnvR R env nt fr.tmps->Rel R H w->Marks lo R w fr.defers->lo<=w.heap.size->
  ∃a f h i j env' H',Steps P (lone fr cs w) (lone { fr with tmps:=h,todo:=i,defers:=j} cs f)/\EnvR a env' nt h/\Rel a H' f/\Ext R H w a H' f/\H.next<=H'.next/\Marks lo a f j/\Ends k o m p i env' H'
theorem U0.mono {P:Program}{nt:Nat}{f0:FuncId}{ro:Bool}{q:Item}{env:Env}{H:AH}{o f:Env->AH->Prop}{j a:Nat->Env->AH->Prop}{p m:Env->AH->Prop}(h:U0 P nt f0 ro q env H o j p)
  (u: ∀e H',o e H'->f e H') (v: ∀i e H',j i e H'->a i e H') (x: ∀e H',p e H'->m e H'):U0 P nt f0 ro q env H f a m:=by
 intro lo R fr k cs w hm s y z hL C t;obtain⟨F,J,K,L,N,env',H',O,S,T,U,V,W,Y⟩:=h lo R fr k cs w hm s y z hL C t;refine⟨F,J,K,L,N,env',H',O,S,T,U,V,W, ?_⟩;rcases Y with⟨b1,b2⟩ | ⟨id,k',b1,b2,Z⟩ | ⟨k',b1,b2⟩
 .exact .inl ⟨b1,u _ _ b2⟩
 .exact .inr (.inl ⟨id,k',b1,b2,v _ _ _ Z⟩)
 .exact .inr (.inr ⟨k',b1,x _ _ b2⟩)
theorem U0.then {P:Program}{nt:Nat}{f0:FuncId}{ro:Bool}{V:Item}{env:Env}{H:AH}{N:Env->AH->Prop}{t:Nat->Env->AH->Prop}{u:Env->AH->Prop}{O:Env->AH->Prop}
  (o:List Item) (W: ∀id k,exitTo id (o++k)=exitTo id k)
  (h:U0 P nt f0 ro V env H O t u)
  (g: ∀j i,O j i-> ∀(lo:Nat) (R:Ren) (fr:Frame) (k:List Item) (cs:List Frame) (w:World),fr.mode= .run->(ro=false->fr.roundOf=none/\fr.fn=f0)->fr.todo=o++k->EnvR R j nt fr.tmps->Rel R i w->Marks lo R w fr.defers->lo<=w.heap.size->
   ∃a f m p q env' H',Steps P (lone fr cs w) (lone { fr with tmps:=m,todo:=p,defers:=q} cs f)/\EnvR a env' nt m/\Rel a H' f/\Ext R i w a H' f/\i.next<=H'.next/\Marks lo a f q/\Ends k N t u p env' H')
  (lo:Nat) (R:Ren) (fr:Frame) (k:List Item) (cs:List Frame) (w:World) (hm:fr.mode= .run) (S:ro=false->fr.roundOf=none/\fr.fn=f0) (ht:fr.todo=V::(o++k)) (hE:EnvR R env nt fr.tmps) (hL:Rel R H w) (hM:Marks lo R w fr.defers) (T:lo<=w.heap.size):
   ∃a f m p q env' H',Steps P (lone fr cs w) (lone { fr with tmps:=m,todo:=p,defers:=q} cs f)/\EnvR a env' nt m/\Rel a H' f/\Ext R H w a H' f/\H.next<=H'.next/\Marks lo a f q/\Ends k N t u p env' H':=by
 obtain⟨x,y,z,U,v,j,i,C,F,J,s,K,L,a7⟩:=h lo R fr (o++k) cs w hm S ht hE hL hM T;rcases a7 with⟨rfl,b2⟩ | ⟨id,k',b1,b2,b3⟩ | ⟨k',b1,b2⟩
 .obtain⟨R2,w2,t2,Y,Z,env2,H2,c1,c2,c3,c4,c5,c6,c7⟩:=g j i b2 lo x { fr with tmps:=z,todo:=o++k,defers:=v} k cs y hm S rfl F J L (qP T s.size);exact⟨R2,w2,t2,Y,Z,env2,H2,C.trans c1,c2,c3,s.trans c4,qP K c5,c6,c7⟩
 .exact⟨x,y,z,U,v,j,i,C,F,J,s,K,L, .inr (.inl ⟨id,k',b1,by rw[b2,W],b3⟩)⟩
 .exact⟨x,y,z,U,v,j,i,C,F,J,s,K,L, .inr (.inr ⟨k',b1,b2⟩)⟩
theorem U0.step {P:Program}{nt:Nat}{H:AH}{fr q:Frame}{k:List Item}{cs:List Frame}{w:World}{lo:Nat}{R:Ren}{o:Env->AH->Prop}{m:Nat->Env->AH->Prop}{p:Env->AH->Prop}{s:List Item}
  (t:step P (lone fr cs w)= .next (lone q cs w)) (u:q= { fr with todo:=s})
  (g: ∃a f j h i env' H',Steps P (lone { fr with todo:=s} cs w) (lone { fr with tmps:=j,todo:=h,defers:=i} cs f)/\EnvR a env' nt j/\Rel a H' f/\Ext R H w a H' f/\H.next<=H'.next/\Marks lo a f i/\Ends k o m p h env' H'):
  ∃a f j h i env' H',Steps P (lone fr cs w) (lone { fr with tmps:=j,todo:=h,defers:=i} cs f)/\EnvR a env' nt j/\Rel a H' f/\Ext R H w a H' f/\H.next<=H'.next/\Marks lo a f i/\Ends k o m p h env' H':=by
 subst u;obtain⟨a,f,v,h,i,env',H',x,y⟩:=g;exact⟨a,f,v,h,i,env',H',(Steps.one t).trans x,y⟩
theorem zAz: ∀(l:List Oper) (n:Nat),(idx l n).map (·.1)=(List.range l.length).map (n+ ·)/\ ∀a∈idx l n,n<=a.1/\l[a.1 - n]? =some a.2
 | [],n=>by simp[idx]
 | o::l,n=>by
  obtain⟨h,i⟩:=zAz l (n+1);refine⟨?_,fun a f=> ?_⟩
  .simp only[idx,yH,h,zW,List.range_succ_eq_map,List.map_map];simp only[Nat.add_zero,yE,true_and];apply List.map_congr_left;intro x _;simp only[Function.comp];omega
  .simp only[idx,zP]at f;rcases f with rfl | f
   .simp
   .obtain⟨m,j⟩:=i a f;refine⟨by omega, ?_⟩;rw[show a.1 - n=(a.1 - (n+1))+1 from by omega,yV];exact j
section
variable {P:Program}{B:Tb}{D:Dyn}(hX:Ok P B.X)(hr:Good P (rOf B D)){nt:Nat}
include hX hr in
theorem V9 {ops:Array Oper} : ∀ {es:List Ent} {env:Env} {H:AH} {envF:Env} {HF:AH},uI B.X (rOf B D) nt ops env H es envF HF->(∀e∈es,ops[e.i]? =some e.o)->
  ∀(R:Ren) (fr:Frame) (k:List Item) (cs:List Frame) (w:World),fr.mode= .run->fr.todo= .inRegion ops (es.map (·.i))::k->EnvR R env nt fr.tmps->Rel R H w->
  ∃s t x,Steps P (lone fr cs w) (lone { fr with tmps:=x,todo:= .inRegion ops []::k} cs t)/\EnvR s envF nt x/\Rel s HF t/\Ext R H w s HF t
 | [],env,H,envF,HF,⟨h1,h2⟩,_,R,fr,k,cs,w,hm,ht,hE,hL=>by
  subst h1 h2;refine⟨R,w,fr.tmps, ?_,hE,hL,zRh R H w⟩;have:({ fr with tmps:=fr.tmps,todo:= .inRegion ops []::k} :Frame)=fr:=by
   have a:fr.todo= .inRegion ops []::k:=ht;rw[<-a]
  rw[this];exact .refl _ _
 | e::es,env,H,envF,HF,⟨h1,h2,h3,env',h4,h5⟩,hmem,R,fr,k,cs,w,hm,ht,hE,hL=>by
  have u:=hmem e (zK ..);obtain⟨J,C,F⟩:=V4 _ _ _ h3;have j:=zCY hE J;have a:fr.todo= .inRegion ops (e.i::es.map (·.i))::k:=ht;have key: ∃f h z,Steps P (lone fr cs w) (lone { fr with tmps:=zCV fr.tmps e.o.dst z,todo:= .inRegion ops (es.map (·.i))::k} cs h)/\VR f e.v z/\Rel f e.H' h/\Ext R H w f e.H' h:=by
   cases m:e.want with
   | true=>
    rw[m]at j;exact zEt hX hr (cs:=cs) hm a u j hE hL (C m)
   | false=>
    rw[m]at j;obtain⟨K,p⟩:=F m;refine⟨R,w,undef, ?_,by rw[K];exact zB0 R,by rw[p];exact hL,by rw[p];exact zRh R H w⟩;rw[<-kE a u];exact .one (WC hm a u j)
  obtain⟨f,h,z,L,N,l1,y⟩:=key;obtain⟨O,S,T,U,p,V,W⟩:=V9 h5 (fun q Y=>hmem q (zC _ Y)) f { fr with tmps:=zCV fr.tmps e.o.dst z,todo:= .inRegion ops (es.map (·.i))::k} k cs h hm rfl ((hE.mono y.sub).put N h4) l1;exact⟨O,S,T,L.trans U,p,V,y.trans W⟩
include hX hr in
theorem zNU {ops:Array Oper}{f:Bool}{K:Env->AH->Rs}{env:Env}{H:AH}{out:Ex×AH}{id:Nat}(h:zPt B D nt ops f K env H=some out)(f0:FuncId)(ro:Bool)(q:Nat->Env->AH->Prop)(s:Env->AH->Prop):
  U0 P nt f0 ro (.code (.region id ops f)) env H (fun env' H'=>K env' H'=some out) q s:=by
 unfold zPt at h;rw[zF]at h;have t: ∀ {env' envF:Env} {HF:AH},zKe P nt (.region id ops f) env H .normal envF HF->Le env' envF->H.next<=HF.next->K env' HF=some out->
   U0 P nt f0 ro (.code (.region id ops f)) env H (fun env' H'=>K env' H'=some out) q s:=by
  intro env' envF HF J hl L N lo R fr k cs w hm _ j m hL O a0;obtain⟨S,T,U,V,W,v,Y,Z,x⟩:=J R fr k cs w hm j m hL;simp only[Out]at v;subst v;exact⟨S,T,U,V,fr.defers,env',HF,W,Y.le hl,Z,x,L,O.ext x, .inl ⟨rfl,N⟩⟩
 split at h
 .rename_i hd;subst hd;split at h
  .rename_i row masks z;obtain⟨es,envF,HF,env',c1,c2,c3,p,c5⟩:=u0 _ row [] env H env [] h (Le.refl env) (fun ms u=>by intro a ha;simp at ha);exact t (zJs hX hr hr.mono z c1 c2 (c5 _ rfl).2) c3 (wL hr.mono c1).1 p
  .simp at h
 .rename_i hd;have F:f=false:=by simpa using hd
  subst F;obtain⟨es,envF,HF,env',c1,c2,c3,p,_⟩:=u0 _ _ [] env H env [] h (Le.refl env) (fun ms u=>by simp at u);refine t ?_ c3 (wL hr.mono c1).1 p;intro R fr k cs w hm j m hL;obtain⟨i1,i2⟩:=zAz ops.toList 0;have hi:es.map (·.i)=List.range ops.size:=by
   have:es.map (·.i)=(idx ops.toList 0).map (·.1):=by rw[<-c2];simp
   rw[this,i1];simp
  have C: ∀e∈es,ops[e.i]? =some e.o:=by
   intro e he;have:(e.i,e.o)∈idx ops.toList 0:=by rw[<-c2];exact qU.2 ⟨e,he,rfl⟩
   have:=(i2 _ this).2;simpa using this
  obtain⟨R1,w1,y,s1,e1,l1,x1⟩:=V9 hX hr c1 C R { fr with todo:= .inRegion ops (List.range ops.size)::k} k cs w hm (by rw[hi]) m hL;exact⟨R1,w1,y,k,(Steps.one (QE hm j)).trans (s1.trans (.one (xM (fr:= { fr with tmps:=y,todo:= .inRegion ops []::k}) hm rfl))),rfl,e1,l1,x1⟩
end
end Go.Eng
end

