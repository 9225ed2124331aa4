/- A checked evaluator for the program, and what it tells, part 2: no condition. -/
import Derived.Test.YtaaflpnhdkoaeaaGreatO1
import Derived.RangeFuncRecord
import Derived.Orders
set_option linter.all false
set_option linter.unusedVariables false
set_option linter.unusedSimpArgs false
set_option maxHeartbeats 8000000
set_option maxRecDepth 20000
section
namespace Go.Eng
theorem UU {P:Program}{w m:World}{t u ty e:TypeId}{f:TypeDesc}{sz n sLen sCap:Nat}{base:Option Addr}{xv:Value}{vs:Array Value}(o:(underlying t).run P w= .ok (.slice e) w)(p:(underlying u).run P w= .ok f w)(x: ∀k,f≠ .int k)
  (i:(sizeOf e).run P w= .ok sz w) (q:(Builtin.lenOf xv).run P w= .ok n w) (s:(Builtin.firstCells sz n xv).run P w= .ok vs w) (j:sLen+n<=sCap)
  (h:(match base with | some a=>storeCells (a.add (sLen*sz)) vs.toList | none=>pure ()).run P w= .ok () m):
  (Builtin.append_ #[t,u] ty #[.slice base sLen sCap,xv]).run P w= .ok (.slice base (sLen+n) sCap) m:=by
 have v:(match f with | .int _=>true | _=>false)=false:=by
  cases f<;>first | rfl | exact absurd rfl (x _)
 cases base with
 | none=>
  simp only[Sem.run_pure,Result.ok.injEq,true_and]at h;subst h;simp[Builtin.append_,Sem.run_bind,o,p,i,v,q,j,s,Sem.run_pure]
 | some a=>
  simp[Builtin.append_,Sem.run_bind,o,p,i,v,q,j,s,h,Sem.run_pure]
theorem run_append_grow {P:Program}{w:World}{t u ty e:TypeId}{h:TypeDesc}{f:TypeInfo}{i:Value}{n sLen sCap:Nat}{base:Option Addr}{xv:Value}{vs old:Array Value}(N:(underlying t).run P w= .ok (.slice e) w)(O:(underlying u).run P w= .ok h w)(s: ∀k,h≠ .int k)
  (hi:P.info? e=some f) (S:f.zero=some i) (T:(Builtin.lenOf xv).run P w= .ok n w) (U: ∀a,a.heap=w.heap->(Builtin.firstCells f.size n xv).run P a= .ok vs a)
  (V: ∀a,a.heap=w.heap->(Builtin.firstCells f.size sLen (.slice base sLen sCap)).run P a= .ok old a) (v:sCap<sLen+n) (hb:(sLen+n+(sLen+n) / 4+192)*f.bytes<=281474976710656) (h63:sLen+n<4611686018427387904):
  ∃cap,sLen+n<=cap/\cap<9223372036854775808/\(Builtin.append_ #[t,u] ty #[.slice base sLen sCap,xv]).run P w=
   .ok (.slice (some ⟨w.heap.size,0,none⟩) (sLen+n) cap) (World.alloc w.drew (.cells (old++vs++Builtin.zeroCells i.cells (cap - (sLen+n))) e)):=by
 have x:(match h with | .int _=>true | _=>false)=false:=by
  cases h<;>first | rfl | exact absurd rfl (s _)
 have Y:=growslice_fits_wide (bytes:=f.bytes) v hb;refine⟨Question.cut (.appendCap (sLen+n) sCap e) (w.tape w.drawn (.appendCap (sLen+n) sCap e)),by simp only[Question.cut];omega,by
   simp only[Question.cut];have:=Nat.mod_lt (w.tape w.drawn (.appendCap (sLen+n) sCap e)) (show 2 ^ 63 - (sLen+n)>0 by omega);omega, ?_⟩
 generalize j:Question.cut (.appendCap (sLen+n) sCap e) (w.tape w.drawn (.appendCap (sLen+n) sCap e))=cap;have hq:(choose (.appendCap (sLen+n) sCap e)).run P w= .ok cap { w with drawn:=w.drawn+1} :=by
  simp only[choose,Sem.run,Question.forced,Bool.false_eq_true,if_false,j]
 have y: ∀a,(sizeOf e).run P a= .ok f.size a:=fun a=>by simp[sizeOf,typeInfo,hi]
 have z: ∀a,(typeInfo e).run P a= .ok f a:=fun a=>by simp[typeInfo,hi]
 have C: ∀a,(zeroValue e).run P a= .ok i a:=fun a=>by simp[zeroValue,typeInfo,hi,S]
 have F: ¬sLen+n<=sCap:=by omega
 have p: ¬((sLen+n:Nat):Int)>IntKind.i64.max:=by
  simp only[IntKind.max,IntKind.signed,IntKind.bits];simp;omega
 have o: ∀(b:Nat) a,(askRoom b).run P a= .ok () a:=fun b a=>by unfold askRoom;split<;>rfl
 have Z: ¬Builtin.nextslicecap (sLen+n) sCap*f.bytes>2 ^ 48:=by omega
 have J:=U w.drew rfl;have K:=V w.drew rfl;have W: ¬(((sLen:Int)+(n:Int))>IntKind.i64.max):=by simpa using p
 have L: ¬(9223372036854775807< (sLen:Int)+(n:Int)/\f.bytes=0):=by omega
 have m:(Question.appendCap (sLen+n) sCap e).forced=false:=rfl;have q: ¬281474976710656<Builtin.nextslicecap (sLen+n) sCap*f.bytes:=by omega
 simp[Builtin.append_,Sem.run_bind,N,O,y,x,T,F,z,L,q,m,j,o,K,J,C,newRow,newObj,Sem.run,Sem.run_pure]
structure AppSrc (P:Program)(w:World)(t u ty e:TypeId)(ti:TypeInfo)(zv xv:Value)(n:Nat)(vs:Array Value):Prop where
 fits: ∀(base:Option Addr) (sLen sCap:Nat) (w':World),sLen+n<=sCap->(match base with | some a=>storeCells (a.add (sLen*ti.size)) vs.toList | none=>pure ()).run P w= .ok () w'->
  (Builtin.append_ #[t,u] ty #[.slice base sLen sCap,xv]).run P w= .ok (.slice base (sLen+n) sCap) w'
 grows: ∀(base:Option Addr) (sLen sCap:Nat) (old:Array Value),(∀w',w'.heap=w.heap->(Builtin.firstCells ti.size sLen (.slice base sLen sCap)).run P w'= .ok old w')->sCap<sLen+n->
  (sLen+n+(sLen+n) / 4+192)*ti.bytes<=281474976710656->sLen+n<4611686018427387904->
  ∃cap,sLen+n<=cap/\cap<9223372036854775808/\(Builtin.append_ #[t,u] ty #[.slice base sLen sCap,xv]).run P w=
   .ok (.slice (some ⟨w.heap.size,0,none⟩) (sLen+n) cap) (World.alloc w.drew (.cells (old++vs++Builtin.zeroCells zv.cells (cap - (sLen+n))) e))
theorem AppSrc.plain {P:Program}{w:World}{t u ty e:TypeId}{i:TypeDesc}{a:TypeInfo}{j:Value}{n:Nat}{xv:Value}{vs:Array Value}(m:(underlying t).run P w= .ok (.slice e) w)(o:(underlying u).run P w= .ok i w)(h: ∀k,i≠ .int k)
  (hi:P.info? e=some a) (x:a.zero=some j) (p:(Builtin.lenOf xv).run P w= .ok n w) (q: ∀f,f.heap=w.heap->(Builtin.firstCells a.size n xv).run P f= .ok vs f):AppSrc P w t u ty e a j xv n vs:=
 ⟨fun _ _ _ _ s y=>UU m o h (by simp[sizeOf,typeInfo,hi]) p (q w rfl) s y,
  fun _ _ _ _ z v hb h63=>run_append_grow m o h hi x p q z v hb h63⟩
theorem AppSrc.zeros {P:Program}{w:World}{t u ty e:TypeId}{k:IntKind}{i:TypeInfo}{F:Value}{n:Nat}(y:(underlying t).run P w= .ok (.slice e) w)(z:(underlying u).run P w= .ok (.int k) w)
  (hi:P.info? e=some i) (Y:i.zero=some F) (a0:0<i.size) (hn:n<4611686018427387904) (hb:n*i.bytes<=281474976710656):AppSrc P w t u ty e i F (.int .i64 (n:Int)) n (Builtin.zeroCells F.cells n):=by
 have q: ∀f,(sizeOf e).run P f= .ok i.size f:=fun f=>by simp[sizeOf,typeInfo,hi]
 have s: ∀f,(typeInfo e).run P f= .ok i f:=fun f=>by simp[typeInfo,hi]
 have J: ∀f,(zeroValue e).run P f= .ok F f:=fun f=>by simp[zeroValue,typeInfo,hi,Y]
 have p:IntKind.i64.wrap (n:Int)=n:=xO (by simp only[IntKind.min,IntKind.signed,IntKind.bits];simp) (by simp only[IntKind.max,IntKind.signed,IntKind.bits];simp;omega);have C: ¬((n:Int)<0):=by omega
 have Z: ¬((n:Int)*(i.bytes:Int)>2 ^ 48):=by
  have:((n*i.bytes:Nat):Int)<=281474976710656:=by omega
  simp at this;simp;omega
 have v: ¬(281474976710656< (n:Int)*(i.bytes:Int)):=by simpa using Z
 have x: ∀f:World,(asInt (.int .i64 (n:Int))).run P f= .ok (n:Int) f:=fun f=>by simp[asInt,asIntOf]
 have S:n*i.size=0->Builtin.zeroCells F.cells n= #[]:=by
  intro j;have:n=0:=by
   rcases Nat.mul_eq_zero.1 j with h | h
   .exact h
   .omega
  subst this;simp[Builtin.zeroCells]
 refine⟨fun base sLen sCap f o m=> ?_,fun base sLen sCap old ho V W h63=> ?_⟩
 .by_cases j:n*i.size=0
  .rw[S j]at m
   cases base with
   | none=>
    simp only[Sem.run_pure,Result.ok.injEq,true_and]at m;subst m;simp[Builtin.append_,Sem.run_bind,y,z,q,x,p,C,s,v,o,j,Sem.run_pure]
   | some a=>
    simp only at m;simp[Builtin.append_,Sem.run_bind,y,z,q,x,p,C,s,v,o,j,m,Sem.run_pure]
  .cases base with
   | none=>
    simp only[Sem.run_pure,Result.ok.injEq,true_and]at m;subst m;simp[Builtin.append_,Sem.run_bind,y,z,q,x,p,C,s,v,o,j,J,Sem.run_pure]
   | some a=>
    simp only at m;simp[Builtin.append_,Sem.run_bind,y,z,q,x,p,C,s,v,o,j,J,m,Sem.run_pure]
 .have a1:=growslice_fits_wide (bytes:=i.bytes) V W;refine⟨Question.cut (.appendCap (sLen+n) sCap e) (w.tape w.drawn (.appendCap (sLen+n) sCap e)),by simp only[Question.cut];omega,by
   simp only[Question.cut];have:=Nat.mod_lt (w.tape w.drawn (.appendCap (sLen+n) sCap e)) (show 2 ^ 63 - (sLen+n)>0 by omega);omega, ?_⟩
  generalize N:Question.cut (.appendCap (sLen+n) sCap e) (w.tape w.drawn (.appendCap (sLen+n) sCap e))=cap;have o: ¬sLen+n<=sCap:=by omega
  have L: ∀(b:Nat) f,(askRoom b).run P f= .ok () f:=fun b f=>by unfold askRoom;split<;>rfl
  have T:=ho w.drew rfl;have U: ¬(9223372036854775807< (sLen:Int)+(n:Int)):=by omega
  have K:(Question.appendCap (sLen+n) sCap e).forced=false:=rfl;have O: ¬281474976710656<Builtin.nextslicecap (sLen+n) sCap*i.bytes:=by omega
  by_cases j:n*i.size=0
  .rw[S j];simp[Builtin.append_,Sem.run_bind,y,z,q,x,p,C,s,v,o,U,O,K,N,L,T,j,J,newRow,newObj,Sem.run,Sem.run_pure]
  .simp[Builtin.append_,Sem.run_bind,y,z,q,x,p,C,s,v,o,U,O,K,N,L,T,j,J,newRow,newObj,Sem.run,Sem.run_pure]
theorem Rel.kill {R:Ren}{H:AH}{w:World}(h:Rel R H w){A:Nat}{i:T AObj}(m:T.set 40 H.h A .dead=some i):Rel R ⟨i,H.next⟩ w:=by
 have j:=T.get_set _ _ _ _ _ m;have hl: ∀f,YH ⟨i,H.next⟩ f->YH H f:=fun f ⟨o,a,hd⟩=>by
  simp only[j]at a;by_cases e:f=A
  .rw[if_pos e]at a;injection a with a;subst a;exact hd.elim
  .rw[if_neg e]at a;exact⟨o,a,hd⟩
 refine⟨h.fn,fun A1 A2 b d c d' c' r p l l'=>h.inj _ _ _ _ _ _ _ r p (hl _ l) (hl _ l'),fun A1 b d c o r a=> ?_,h.lt⟩;simp only[j]at a;by_cases e:A1=A
 .rw[if_pos e]at a;injection a with a;subst a;trivial
 .rw[if_neg e]at a;exact h.obj _ _ _ _ _ r a
theorem Ext.kill {R:Ren}{H:AH}{w:World}{A b d c:Nat}(hR:R A b d c){a:T AObj}(f:T.set 40 H.h A .dead=some a):Ext R H w R ⟨a,H.next⟩ w:=
 ⟨Sub.refl R,fun _ _ _ _ h=> .inl h,fun _ _ _ _ h=> .inl h,Nat.le_refl _,fun A1 _ i=>by
  show a.get A1=_;rw[T.get_set _ _ _ _ _ f,if_neg (fun e=>by subst e;exact i _ _ _ hR)],rfl,rfl,rfl,Nat.le_refl _,fun _ _ _=>rfl⟩
theorem Rel.move {R:Ren}{H:AH}{w:World}(h:Rel R H w){A b d c d' c':Nat}{o':AObj}{x:Obj}{v q:T AObj}(hR:R A b d c)(hl:YH H A)(F:T.set 40 H.h A .dead=some v)(J:T.set 40 v H.next o'=some q)
  (f:zJl (R.add H.next b d' c') o' d' c' (some x)):Rel (R.add H.next b d' c') ⟨q,H.next+1⟩ (wO w b x):=by
 have y:=T.get_set _ _ _ _ _ F;have s:=T.get_set _ _ _ _ _ J;have i: ∀b d c,¬R H.next b d c:=fun b d c r=>by have:=(h.lt _ _ _ _ r).2;omega
 have p: ∀m,YH ⟨q,H.next+1⟩ m->m≠H.next->YH H m/\m≠A:=fun m ⟨o,f,hd⟩ hne=>by
  simp only[s,if_neg hne,y]at f;by_cases e:m=A
  .rw[if_pos e]at f;injection f with f;subst f;exact hd.elim
  .rw[if_neg e]at f;exact⟨⟨o,f,hd⟩,e⟩
 refine⟨?_, ?_, ?_, ?_⟩
 .rintro A1 b1 t c1 b2 K c2 (r | ⟨rfl,rfl,rfl,rfl⟩) (r' | ⟨e1,rfl,rfl,rfl⟩)
  .exact h.fn _ _ _ _ _ _ _ r r'
  .subst e1;exact absurd r (i _ _ _)
  .exact absurd r' (i _ _ _)
  .exact⟨rfl,rfl,rfl⟩
 .rintro A1 A2 b1 t c1 K c2 (r | ⟨rfl,rfl,rfl,rfl⟩) (r' | ⟨rfl,e2,rfl,rfl⟩) l l'
  .have j:A1≠H.next:=fun e=>by subst e;exact i _ _ _ r
   have L:A2≠H.next:=fun e=>by subst e;exact i _ _ _ r'
   exact h.inj _ _ _ _ _ _ _ r r' (p _ l j).1 (p _ l' L).1
  .subst e2;have j:A1≠H.next:=fun e=>by subst e;exact i _ _ _ r
   obtain⟨l1,u⟩:=p _ l j;exact absurd (h.inj _ _ _ _ _ _ _ r hR l1 hl) u
  .have j:A2≠H.next:=fun e=>by subst e;exact i _ _ _ r'
   obtain⟨l1,u⟩:=p _ l' j;exact absurd (h.inj _ _ _ _ _ _ _ r' hR l1 hl) u
  .rfl
 .rintro A1 b1 t c1 N (r | ⟨rfl,rfl,rfl,rfl⟩) a
  .have j:A1≠H.next:=fun e=>by subst e;exact i _ _ _ r
   simp only[s,if_neg j,y]at a;by_cases e:A1=A
   .rw[if_pos e]at a;injection a with a;subst a;trivial
   .rw[if_neg e]at a;by_cases z:b1=b
    .subst z;have C: ¬YH H A1:=fun l1=>e (h.inj _ _ _ _ _ _ _ r hR l1 hl)
     cases N with
     | dead=>trivial
     | _=>exact absurd ⟨_,a,trivial⟩ C
    .rw[kW _ _ _ _ z];exact(h.obj _ _ _ _ _ r a).mono (R.sub_add _ _ _ _)
  .simp only[s,if_pos]at a;injection a with a;subst a
   rw[v8 _ _ _ (h.lt _ _ _ _ hR).1];exact f
 .rintro A1 b1 t c1 (r | ⟨rfl,rfl,rfl,rfl⟩)
  .rw[wB];exact⟨(h.lt _ _ _ _ r).1,Nat.lt_succ_of_lt (h.lt _ _ _ _ r).2⟩
  .rw[wB];exact⟨(h.lt _ _ _ _ hR).1,Nat.lt_succ_self _⟩
theorem Ext.move {R:Ren}{H:AH}{w:World}{A b d c d' c':Nat}{o':AObj}{x:Obj}{f a:T AObj}(hR:R A b d c)(i:T.set 40 H.h A .dead=some f)(j:T.set 40 f H.next o'=some a):
  Ext R H w (R.add H.next b d' c') ⟨a,H.next+1⟩ (wO w b x) where
 sub:=R.sub_add _ _ _ _
 new A1 b1 d1 c1:=by
  rintro(r | ⟨rfl,rfl,rfl,rfl⟩)
  .exact .inl r
  .exact .inr (.inr ⟨_,_,_,hR⟩)
 newA A1 b1 d1 c1:=by
  rintro(r | ⟨rfl,rfl,rfl,rfl⟩)
  .exact .inl r
  .exact .inr (Nat.le_refl _)
 next:=Nat.le_succ _
 keepA A1 hA hk:=by
  show a.get A1=_;rw[T.get_set _ _ _ _ _ j,if_neg (by omega),T.get_set _ _ _ _ _ i,if_neg (fun e=>by subst e;exact hk _ _ _ hR)]
 os:=rfl
 tape:=rfl
 output:=rfl
 size:=by rw[wB];omega
 keep k _ hk:=kW _ _ _ _ (fun e=>by subst e;exact hk _ _ _ hR)
theorem Rel.heap {R:Ren}{H:AH}{w a:World}(h:Rel R H w)(e:a.heap=w.heap):Rel R H a:=
 ⟨h.fn,h.inj,fun A b d c o r f=>by rw[e];exact h.obj A b d c o r f,fun A b d c r=>by rw[e];exact h.lt A b d c r⟩
theorem XQ: ∀(n:Nat) (l:List AV),n<=l.length->takeN n l=some (l.take n)
 | 0,l,_=>by simp[takeN]
 | n+1,[],hl=>by simp at hl
 | n+1,x::l,hl=>by simp only[takeN,XQ n l (by simpa using hl)];rfl
theorem yY: ∀(l:List AV) (o n:Nat),n=0\/o+n<=l.length->xX l o n=some ((l.drop o).take n)
 | l,0,n,hn=>by
  have:xX l 0 n=takeN n l:=by cases l<;>rfl
  rw[this,XQ n l (by omega)];simp
 | [],o+1,n,hn=>by
  have:n=0:=by simp at hn;omega
  subst this;simp[xX]
 | x::l,o+1,n,hn=>by
  simp only[xX];rw[yY l o n (by simp at hn;omega)];simp
theorem zIF {w f:World}(e:f.heap=w.heap)(a:Addr):f.cell? a=w.cell? a:=by simp only[World.cell?,e]
theorem Rel.loadsW {R:Ren}{H:AH}{w:World}{A b d c:Nat}{l:List AV}{e:TypeId}{sz:Nat}{g:Bool}(h:Rel R H w)(t:H.h.get A=some (.cells l e sz g))(hR:R A b d c){P:Program}{o n:Nat}{r:List AV}(hr:xX l o n=some r):
  ∃vs:List Value,(∀a:World,a.heap=w.heap->(loadCells ⟨b,d+o,none⟩ n).run P a= .ok vs.toArray a)/\VRL R r vs:=by
 obtain⟨p,C⟩:=gK _ _ _ _ hr;obtain⟨arr,K,pre,l',z,u,x,L,i,_⟩:=h.cellsAt t hR;have F:=VRL.length l l' i;have q:VRL R r ((l'.drop o).take n):=by rw[p];exact(i.drop o).take n
 have m:((l'.drop o).take n).length=n:=by
  rw[zQ,zV];omega
 refine⟨(l'.drop o).take n,fun a y=> ?_,q⟩;have hl:=run_loadCells_list (P:=P) a ⟨b,d+o,none⟩ ((l'.drop o).take n) (fun j v f=>by
  have J:=(List.getElem?_eq_some_iff.1 f).1;rw[jT,zIF y];simp only[World.cell?,u,Option.isSome_none,Bool.false_eq_true,if_false];rw[qP (by omega),qN]at f;have s:o+j<l'.length:=(List.getElem?_eq_some_iff.1 f).1;rw[<-Array.getElem?_toList,x,qK (by omega),show d+o+j - pre.length=o+j from by omega,qG s];exact f)
 rw[m]at hl;exact hl
section
variable {P:Program}{X:Cx}(hX:Ok P X){R:Ren}{H:AH}{w:World}(hL:Rel R H w)
include hL in
theorem zDf {sz n:Nat}{x:AV}{new:List AV}{v:Value}(h:srcOf sz x H=some (n,new))(i:VR R x v):
  (∀f,(Builtin.lenOf v).run P f= .ok n f)/\new.length=n*sz/\ ∀m,m<=n-> ∃vs:List Value,(∀f:World,f.heap=w.heap->(Builtin.firstCells sz m v).run P f= .ok vs.toArray f)/\VRL R (new.take (m*sz)) vs:=by
 unfold srcOf at h;split at h
 .simp only[zB,zK]at h;obtain⟨rfl,rfl⟩:=h;simp only[VR]at i;subst i;exact⟨fun _=>rfl,by simp,fun m hm=>⟨[],fun f _=>rfl,by simp[VRL]⟩⟩
 .simp only[zB,zK]at h;obtain⟨rfl,rfl⟩:=h;obtain⟨a,c,rfl⟩:=i;refine⟨fun _=>rfl,by simp,fun m hm=>⟨[],fun f _=> ?_,by simp[VRL]⟩⟩;obtain rfl:m=0:=by omega
  simp only[Builtin.firstCells,Nat.zero_mul];rfl
 .rename_i A off k cc;split at h
  .rename_i l e C g q;split at h
   .rename_i cs t;simp only[zB,zK]at h;obtain⟨rfl,rfl⟩:=h;obtain⟨b,d,c,hr,rfl⟩:=i;obtain⟨o,F⟩:=gK _ _ _ _ t;refine⟨fun _=>rfl, ?_,fun m hm=> ?_⟩
    .rw[o,zQ,zV];omega
    .have p:m*sz<=k*sz:=qF _ hm;have j:=yY l off (m*sz) (by omega);have u:(l.drop off).take (m*sz)=cs.take (m*sz):=by rw[o,List.take_take,Nat.min_eq_left p]
     rw[u]at j;obtain⟨vs',y,z⟩:=hL.loadsW q hr (P:=P) j;exact⟨vs',y,z⟩
   .simp at h
  .simp at h
 .rename_i k b;simp only[cond_eq_ite,Nat.beq_eq]at h;split at h
  .rename_i j;subst j;simp only[zB,zK]at h;obtain⟨rfl,rfl⟩:=h;obtain⟨s,rfl,rfl,rfl⟩:=i;have hb:=QP (R:=R) s.data.toList;rw[size_data]at hb;refine⟨fun _=>rfl, ?_,fun m hm=> ?_⟩
   .have:=VRL.length _ _ hb;simp[size_data]at this;omega
   .refine⟨((s.extract 0 m).data.map fun b=>Value.int .u8 (b.toNat:Int)).toList,fun f _=>rfl, ?_⟩;have e:((s.extract 0 m).data.map fun b=>Value.int .u8 (b.toNat:Int)).toList=(s.data.toList.map (fun b=>Value.int .u8 (b.toNat:Int))).take m:=by
     rw[Array.toList_map,Lib.extract_data];simp[List.map_take]
    rw[e,Nat.mul_one];exact hb.take m
  .simp at h
 .simp at h
def zMk (P:Program)(s:Sem Value)(R:Ren)(H:AH)(w:World)(v:AV)(H':AH):Prop:=
 ∃(a:Ren) (f:World) (z:Value),s.run P w= .ok z f/\VR a v z/\Rel a H' f/\Ext R H w a H' f
theorem zAf {sz:Nat}{z:Option Value}(h:J9 sz z=true): ∃a,z=some a/\a.cells.size=sz/\0<sz/\ ∃f,ofV a=some f:=by
 unfold J9 at h;split at h
 .rename_i a;split at h
  .rename_i f i;simp only[zC,zR,Nat.beq_eq,yA]at h;have:=VRL.length _ _ (xB (V6 (fun _ _ _ _=>False) a f i));rw[Array.length_toList]at this;exact⟨a,rfl,by omega,h.1,f,i⟩
  .simp at h
 .simp at h
theorem xA (z:Array Value)(n:Nat):(Builtin.zeroCells z n).size=n*z.size:=by simp[Builtin.zeroCells]
theorem zMl (z:Array Value): ∀n,(Builtin.zeroCells z n).toList=(List.replicate n z.toList).flatten:=by
 intro n;rcases Nat.eq_zero_or_pos z.size with a | h
 .have:z= #[]:=Array.eq_empty_of_size_eq_zero a;subst this;simp[Builtin.zeroCells]
 induction n with
 | zero=>simp[Builtin.zeroCells]
 | succ n ih=>
  rw[List.replicate_succ',List.flatten_append,<-ih];simp only[Builtin.zeroCells,Array.toList_map,Array.toList_range,List.flatten_cons,List.flatten_nil,List.append_nil];rw[Nat.succ_mul,List.range_add,List.map_append];congr 1;apply List.ext_getElem
  .simp
  .intro i j f;have hi:i<z.size:=by simpa using f
   simp only[List.getElem_map,List.getElem_range,Array.getElem_toList];rw[Nat.mul_comm n z.size,Nat.mul_add_mod,Nat.mod_eq_of_lt hi,getElem!_pos z i hi]
theorem bZ {R:Ren}{a:AV}{f:Value}(h:VR R a f)(n:Nat):VRL R (rep n (y6 a)) (Builtin.zeroCells f.cells n).toList:=by
 have i:=xB h;rw[zMl,zP5]
 induction n with
 | zero=>simp[VRL]
 | succ n ih=>simp only[List.replicate_succ,List.flatten_cons];exact i.append ih
theorem grow_ok {t u ty e:TypeId}{a:TypeInfo}{j:Value}{n sLen sCap:Nat}{base:Option Addr}{xv:Value}{oldA o:List AV}{oldV newV:List Value}{v:AV}{H':AH}
  (hL:Rel R H w) (y:AppSrc P w t u ty e a j xv n newV.toArray) (K:j.cells.size=a.size) (L: ∃S,ofV j=some S)
  (T: ∀p,p.heap=w.heap->(Builtin.firstCells a.size sLen (.slice base sLen sCap)).run P p= .ok oldV.toArray p) (N:sCap<sLen+n) (m:roomy (sLen+n) a.bytes=true)
  (s:VRL R oldA oldV) (x:VRL R o newV) (z:(oldA++o).length=(sLen+n)*a.size) (f:dI (sLen+n) e a.size (oldA++o) H=some (v,H')):
  zMk P (Builtin.append_ #[t,u] ty #[.slice base sLen sCap,xv]) R H w v H':=by
 simp only[roomy,zC,q9,zR]at m;obtain⟨cap,V,O,C⟩:=y.grows base sLen sCap _ T N m.1 m.2;unfold dI at f;split at f
 .rename_i A W F;obtain⟨Y,q,rfl,rfl,_⟩:=uU F
  .simp only[yG,zB,zK]at f;obtain⟨rfl,rfl⟩:=f;have J:=VRL.length _ _ (s.append x);have U:Rel R H w.drew:=hL.drew _;refine⟨R.add H.next w.heap.size 0 cap,_,_,C, ?_, ?_, ?_⟩
   .exact⟨w.heap.size,0,cap,R.add_self _ _ _ _,by rw[kB _ (by omega)];simp⟩
   .refine U.new q ?_;refine⟨_,(0,0),[],oldV++newV,(Builtin.zeroCells j.cells (cap - (sLen+n))).toList,rfl,by simp,rfl,VRL.mono (R.sub_add _ _ _ _) _ _ (s.append x),fun h=>by simp at h,fun _=>⟨?_,O⟩,fun _ i _=>by simp,_,bZ (V6 _ _ _ L.choose_spec) _⟩;rw[J,z,Array.length_toList,xA,K,<-Nat.add_mul];congr 1;omega
   .exact(Ext.drew R H w _).trans (Ext.add (w:=w.drew) q)
 .simp at f
include hL in
theorem zIV {t u ty e:TypeId}{f:TypeInfo}{zv:Value}{n:Nat}{new:List AV}{newV:List Value}{s v:AV}{sv xv:Value}{H':AH}(o:AppSrc P w t u ty e f zv xv n newV.toArray)(V:zv.cells.size=f.size)(W: ∃za,ofV zv=some za)(b1:0<f.size)
  (p:VRL R new newV) (J:new.length=n*f.size) (a9:qW new=true) (h:app1 e f.size f.bytes n new s H=some (v,H')) (N:VR R s sv):
  zMk P (Builtin.append_ #[t,u] ty #[sv,xv]) R H w v H':=by
 have b5:=VRL.length _ _ p;unfold app1 at h;split at h
 .simp only[VR]at N;subst N;simp only[cond_eq_ite,Nat.beq_eq]at h;split at h
  .rename_i K;subst K;simp only[zB,zK]at h;obtain⟨rfl,rfl⟩:=h;exact⟨R,w, .slice none 0 0,o.fits none 0 0 w (Nat.le_refl _) rfl,rfl,hL,Ext.refl R H w⟩
  .rename_i K;unfold wL at h;simp only[cond_eq_ite]at h;split at h
   .rename_i C;have:=grow_ok (P:=P) (ty:=ty) (sLen:=0) (sCap:=0) (base:=none) (xv:=xv) (oldA:=[]) (oldV:=[]) (n:=n) hL o V W (fun m _=>rfl) (by omega) (by rw[Nat.zero_add];exact C) rfl p (by simp[J]) (by rw[Nat.zero_add];exact h);exact this
   .simp at h
 .obtain⟨a,c,rfl⟩:=N;simp only[cond_eq_ite,Nat.beq_eq]at h;split at h
  .rename_i K;subst K;simp only[zB,zK]at h;obtain⟨rfl,rfl⟩:=h;have b6:newV=[]:=by
    have:newV.length=0:=by rw[b5,J];simp
    exact zM this
   subst b6;exact⟨R,w, .slice (some a) 0 c,o.fits (some a) 0 c w (by omega) rfl,⟨a,c,rfl⟩,hL,Ext.refl R H w⟩
  .simp at h
 .rename_i A off len cc;obtain⟨b,d,c,hr,rfl⟩:=N;split at h
  .rename_i l e' b8 g y;unfold zFp at h;simp only[cond_eq_ite]at h;split at h
   .rename_i S;rw[q9]at S;unfold zBR at h;split at h
    .rename_i l' U;split at h
     .rename_i H1 j;simp only[yG,zB,zK]at h;obtain⟨rfl,rfl⟩:=h;unfold uT at j;split at j
      .rename_i t' b9;simp only[zB]at j;subst j;obtain⟨U,c0⟩:=zGa (by rw[cond_eq_ite];exact U);obtain⟨m,h1,h2,h3⟩:=hL.stores y hr (P:=P) U c0 p a9 b9;have c3:=zAF hL y hr b1 (off:=off) (cc:=cc);refine⟨R,m,_,o.fits (some ⟨b,d+off,none⟩) _ _ _ (by omega) ?_,⟨b,d,c,hr,rfl⟩,h2,h3⟩;simp only[jT,Nat.add_assoc];exact h1
      .simp at j
     .simp at h
    .simp at h
   .rename_i S;rw[q9]at S;split at h
    .rename_i T;rw[Nat.beq_eq]at T;unfold wL at h;simp only[cond_eq_ite]at h;split at h
     .rename_i C;split at h
      .rename_i old hold;obtain⟨oldV,Y,Z⟩:=hL.loadsW y hr (P:=P) hold;obtain⟨O,e2⟩:=gK _ _ _ _ hold;have c7:yN l g b8 off cc f.size=cc / 2:=by
        unfold yN;rw[cond_eq_ite,if_pos (by rw[Nat.beq_eq];exact T)]
       have a0:old.length=len*f.size:=by rw[O,zQ,zV];omega
       exact grow_ok (P:=P) (ty:=ty) hL o V W (fun m hw=>Y m hw) (by rw[d6 c T];omega) C Z p (by rw[zL,a0,J,Nat.add_mul]) h
      .simp at h
     .simp at h
    .rename_i F;rw[Nat.beq_eq]at F;split at h
     .rename_i b0;simp only[zC,Nat.beq_eq]at b0;obtain⟨⟨⟨⟨hg,b7⟩,rfl⟩,rfl⟩,c4⟩:=b0;subst hg;rw[yA]at b7;split at h
      .rename_i H1 j;unfold uT at j;split at j
       .rename_i t1 L;simp only[zB]at j;subst j;unfold wL at h;simp only[cond_eq_ite]at h;split at h
        .rename_i C;split at h
         .rename_i old hold;obtain⟨O,e2⟩:=gK _ _ _ _ hold;have a0:old.length=len*f.size:=by rw[O,zQ,zV];omega
          by_cases b2:len+n<=xU cc c
          ·
           rw[kB c F]at b2;unfold dI at h;split at h
           .rename_i A2 H2 b4;obtain⟨t2,b3,rfl,rfl,_⟩:=uU b4
            .simp only[yG,zB,zK]at h;obtain⟨rfl,rfl⟩:=h;obtain⟨arr,fz,pre,l',q,a1,a2,a3,a4,a5,a6,a7,c8,a8⟩:=hL.cellsAt y hr;have c9:=VRL.length _ _ a4;have d0:=(a6 rfl).1;have d1:arr.size=d+l'.length+q.length:=by
              have:=congrArg List.length a2;simp at this;omega
             have c5:(cc / 2+len+n)*f.size<=c*f.size:=qF _ (by omega);have c6:(cc / 2+len+n)*f.size=cc / 2*f.size+len*f.size+n*f.size:=by rw[Nat.add_mul,Nat.add_mul]
             have d2:n*f.size<=q.length:=by omega
             have c1:=dK (P:=P) e fz b (d+off+len*f.size) newV 0 w arr a1 (by omega) (vT p a9) (a7 b1);have c2:=hL.move (d':=d+off) (c':=c - cc / 2) (x:= .cells (jO arr (d+off+len*f.size+0) newV) e fz) hr (Rel.live y) L b3 ?_
             .refine⟨_,_,_,o.fits (some ⟨b,d+off,none⟩) _ _ _ (by rw[kB c F];exact b2) ?_, ?_,c2,Ext.move hr L b3⟩
              .simp only[jT];exact c1
              .exact⟨b,d+off,c - cc / 2,R.add_self _ _ _ _,by rw[kB c F,kB _ (by omega)];simp⟩
             .refine⟨_,fz,pre++l'.take off,l'.drop off++newV,q.drop (n*f.size),rfl, ?_, ?_, ?_,fun h=>by simp at h,fun _=>⟨?_,by have:=(a6 rfl).2;omega⟩,fun hz i hi=> ?_,_,VRL.mono (R.sub_add _ _ _ _) _ _ (a8.drop (n*f.size))⟩
              .rw[jS _ _ _ (by omega),a2];have f1:(pre++(l'++q)).take (d+off+len*f.size+0)=pre++l':=by
                rw[List.take_append,zP (by omega),List.take_append,zP (by omega)];rw[show d+off+len*f.size+0 - pre.length - l'.length=0 from by omega];simp
               have f2:(pre++(l'++q)).drop (d+off+len*f.size+0+newV.length)=q.drop (n*f.size):=by
                rw[List.drop_append,zZ (by omega),List.drop_append,zZ (by omega)];rw[show d+off+len*f.size+0+newV.length - pre.length - l'.length=n*f.size from by omega];simp
               rw[f1,f2];simp only[List.append_assoc];rw[<-List.append_assoc (List.take off l'),List.take_append_drop]
              .simp;omega
              .have:old=l.drop off:=by rw[O,zP (by rw[zV];omega)]
               rw[this];exact VRL.mono (R.sub_add _ _ _ _) _ _ ((a4.drop off).append p)
              .simp only[zL,zV,Nat.sub_mul];omega
              .rw[wZ]at hi;exact a7 hz i hi
           .simp at h
          .obtain⟨oldV,Y,Z⟩:=hL.loadsW y hr (P:=P) hold;have hK:=hL.kill L;obtain⟨R',m,z,g1,g2,g3,g4⟩:=grow_ok (P:=P) (ty:=ty) (sLen:=len) (sCap:=xU cc c) (base:=some ⟨b,d+off,none⟩) (n:=n) (xv:=xv) hK o V W (fun m hw=>Y m hw) (by omega) C Z p (by rw[zL,a0,J,Nat.add_mul]) h;exact⟨R',m,z,g1,g2,g3,(Ext.kill hr L).trans g4⟩
         .simp at h
        .simp at h
       .simp at j
      .simp at h
     .simp at h
  .simp at h
 .simp at h
include hX hL in
theorem zFl {t u ty:TypeId}{f:TypeDesc}{s x v:AV}{i xv:Value}{H':AH}(h:bC X t s x H=some (v,H'))(N:X.und u=some f)(y: ∀k,f≠ .int k)(O:VR R s i)(S:VR R x xv):
  zMk P (Builtin.append_ #[t,u] ty #[i,xv]) R H w v H':=by
 unfold bC at h;split at h
 .rename_i e hd;split at h
  .rename_i U z;have hi:=hX.ty _ _ z;simp only[cond_eq_ite]at h;split at h
   .rename_i T;obtain⟨V,C,F,o,J⟩:=zAf T;split at h
    .rename_i n new p;obtain⟨q,K,j⟩:=zDf (P:=P) hL p S;split at h
     .rename_i m;obtain⟨newV,L,a⟩:=j n (Nat.le_refl _);rw[zP (by omega)]at a;exact zIV hL (AppSrc.plain (hX.run_und hd w) (hX.run_und N w) y hi C (q w) L) F J o a K m h O
     .simp at h
    .simp at h
   .simp at h
  .simp at h
 .simp at h
theorem fX: ∀(l m:List AV),qW l=true->qW m=true->qW (l++m)=true
 | [],m,_,h=>h
 | x::l,m,h,k=>by simp only[qW,zC]at h;simp only[List.cons_append,qW,h.1,fX l m h.2 k,Bool.and_self]
theorem YE (l:List AV)(h:qW l=true): ∀n,qW (rep n l)=true
 | 0=>rfl
 | n+1=>by simp only[rep];exact fX _ _ h (YE l h n)
include hX hL in
theorem zLh {t u ty:TypeId}{k:IntKind}{s x v:AV}{q xv:Value}{H':AH}(h:zJ8 X t s x H=some (v,H'))(N:X.und u=some (.int k))(O:VR R s q)(y:VR R x xv):
  zMk P (Builtin.append_ #[t,u] ty #[q,xv]) R H w v H':=by
 unfold zJ8 at h;split at h
 .rename_i e hd;split at h
  .rename_i S C;have hi:=hX.ty _ _ C;split at h
   .rename_i z T;simp only[cond_eq_ite]at h;split at h
    .rename_i F;obtain⟨U,m,o,j,J⟩:=zAf F;split at h
     .rename_i n;split at h
      .rename_i a;simp only[zC,q9,zR]at a;simp only[VR]at y;have K:xv= .int .i64 (n:Int):=y;subst K;obtain⟨W,Y,f,i,V⟩:=hX.zero R T;rw[hi]at f;injection f with f;subst f
       rw[m]at i;injection i with i;subst i
       have p:=bZ V n;have hl:=VRL.length _ _ p;have L:(rep n (y6 z)).length=n*S.size:=by
        rw[<-hl,Array.length_toList,xA,o]
       exact zIV hL (newV:=(Builtin.zeroCells U.cells n).toList) (by rw[Array.toArray_toList];exact AppSrc.zeros (hX.run_und hd w) (hX.run_und N w) hi m j a.1.2 a.1.1) o J j p L (YE _ a.2 n) h O
      .simp at h
     .simp at h
    .simp at h
   .simp at h
  .simp at h
 .simp at h
end
def zLo (P:Program)(s:Sem Next)(R:Ren)(H:AH)(w:World)(v:AV)(H':AH):Prop:=
 ∃(f:Ren) (a:World) (z:Value),(s.run P w= .ok (.value z) a\/(s.run P w= .ok .skip a/\z=undef))/\VR f v z/\Rel f H' a/\Ext R H w f H' a
theorem zMk.next {P:Program}{s:Sem Value}{R:Ren}{H H':AH}{w:World}{v:AV}(h:zMk P s R H w v H'):zLo P (do pure (Next.value (← s))) R H w v H':=by
 obtain⟨a,f,z,i,j⟩:=h;exact⟨a,f,z, .inl (jZ i),j⟩
section
variable {P:Program}{X:Cx}(hX:Ok P X){R:Ren}{H:AH}{w:World}(hL:Rel R H w)
include hX hL
theorem zIT {t:TypeId}{p y:AV}{i j:Value}{H':AH}(h:zBO X t p y H=some H')(hp:VR R p i)(m:VR R y j):
  ∃a,(Instr.storeAt t i j).run P w= .ok () a/\Rel R H' a/\Ext R H w R H' a:=by
 unfold zBO at h;split at h
 .rename_i A off;split at h
  .rename_i l e sz g u;split at h
   .rename_i n v;simp only[cond_eq_ite]at h;split at h
    .rename_i f;simp only[zC,Nat.beq_eq,yA,zR]at f;split at h
     .rename_i l' o;unfold uT at h;split at h
      .rename_i F q;simp only[zB]at h;subst h;obtain⟨b,d,c,hr,rfl⟩:=hp;have s:=VRL.length _ _ (xB m);rw[Array.length_toList]at s;obtain⟨a,x,z,C⟩:=hL.stores u hr (P:=P) o f.2 (xB m) f.1.2 q;refine⟨a, ?_,z,C⟩;simp only[Instr.storeAt,Instr.sureAddr,storeVar,Sem.run_bind,Sem.run_pure,Result.andThen,hX.run_size v];rw[if_neg (by have:=f.1.1;simp;omega)];exact x
      .simp at h
     .simp at h
    .simp at h
   .simp at h
  .simp at h
 .simp at h
theorem zLc {t ty:TypeId}{ts:Array TypeId}{s x v:AV}{z xv:Value}{H':AH}(o:ts[0]? =some t)(h:zFk X t s x H=some (v,H'))(u:VR R s z)(i:VR R x xv):zMk P (Builtin.copy_ ts ty #[z,xv]) R H w v H':=by
 unfold zFk at h;split at h
 .rename_i e hd;have m:=hX.run_und hd w;split at h
  .rename_i sz q;have j:=hX.run_size q w;split at h
   .simp only[VR]at u;subst u;split at h
    .simp only[zB,zK]at h;obtain⟨rfl,rfl⟩:=h;simp only[VR]at i;subst i;refine⟨R,w,goInt 0, ?_,rfl,hL,Ext.refl R H w⟩;simp[Builtin.copy_,o,Sem.run_bind,m,j,Builtin.lenOf,Builtin.firstCells,Sem.run_pure]
    .simp only[zB,zK]at h;obtain⟨rfl,rfl⟩:=h;obtain⟨b,d,c,hr,rfl⟩:=i;refine⟨R,w,goInt 0, ?_,rfl,hL,Ext.refl R H w⟩;have: ∀a:Addr,(loadCells a 0).run P w= .ok #[] w:=fun a=>rfl
     simp[Builtin.copy_,o,Sem.run_bind,m,j,Builtin.lenOf,Builtin.firstCells,Sem.run_pure,this]
    .simp only[zB,zK]at h;obtain⟨rfl,rfl⟩:=h;obtain⟨s',rfl,C,F⟩:=i;refine⟨R,w,goInt 0, ?_,rfl,hL,Ext.refl R H w⟩;simp[Builtin.copy_,o,Sem.run_bind,m,j,Builtin.lenOf,Builtin.firstCells,Sem.run_pure]
    .simp at h
   .rename_i A off len cc;split at h
    .rename_i n new N;obtain⟨O,a1,J⟩:=zDf (P:=P) hL N i;simp only at h;split at h
     .rename_i a0 L;obtain⟨V,e2⟩:=UJ _ _ _ L;simp only[cond_eq_ite]at h;split at h
      .rename_i K;split at h
       .rename_i l e' a2 g W;split at h
        .rename_i l' p;split at h
         .rename_i H1 f;simp only[yG,zB,zK]at h;obtain⟨rfl,rfl⟩:=h;unfold uT at f;split at f
          .rename_i t' T;simp only[zB]at f;subst f;obtain⟨b,d,c,hr,rfl⟩:=u;obtain⟨vs,U,y⟩:=J (Nat.min n len) (Nat.min_le_left _ _);rw[<-V]at y;obtain⟨p,q⟩:=zGa (by rw[cond_eq_ite];exact p);obtain⟨Y,C,F,Z⟩:=hL.stores W hr (P:=P) p q y K T;refine⟨R,Y,goInt (Nat.min n len:Nat), ?_,rfl,F,Z⟩;have S:=U w rfl;simp only[Builtin.copy_,o,Sem.run_bind,m,j,Result.andThen,List.getElem?_toArray,List.getElem?_cons_zero,List.getElem?_cons_succ,O,S,C,Sem.run_pure]
          .simp at f
         .simp at h
        .simp at h
       .simp at h
      .simp at h
     .simp at h
    .simp at h
   .simp at h
  .simp at h
 .simp at h
theorem simE {env:Env}{n:Nat}{fr:Frame}(f:EnvR R env n fr.tmps){o:Oper}{v:AV}{H':AH}(h:aE X env H o.op=some (v,H')):zLo P (execOp fr.eval o) R H w v H':=by
 obtain⟨dst,op,ty,pos,after,guard⟩:=o;simp only at h;unfold aE at h;split at h
 .rename_i t a x;unfold VW at h;split at h
  .rename_i p hp;split at h
   .rename_i y hy;split at h
    .rename_i H1 a0;simp only[zB,zK]at h;obtain⟨rfl,rfl⟩:=h;obtain⟨i,j,m,L⟩:=zIT hX hL a0 (yM f _ _ hp) (yM f _ _ hy);refine⟨R,i,undef, .inr ⟨?_,rfl⟩,⟨[],rfl,rfl⟩,m,L⟩;simp only[execOp,Sem.run_bind,j,Result.andThen];rfl
    .simp at h
   .simp at h
  .simp at h
 .unfold c3 at h;split at h
  .rename_i a q;split at h
   .rename_i b hb;split at h
    .rename_i c U;unfold aup at h;split at h
     .rename_i kt et S;split at h
      .rename_i ks W;obtain⟨rfl,i,j,m,L⟩:=zOQ hX hL S W h (yM f _ _ q) (yM f _ _ hb) (yM f _ _ U);refine⟨R,i,undef, .inr ⟨?_,rfl⟩,⟨[],rfl,rfl⟩,m,L⟩;simp only[execOp,Sem.run_bind,j,Result.andThen];rfl
      .simp at h
     .simp at h
    .simp at h
   .simp at h
  .simp at h
 .rename_i c;split at h
  .rename_i b U;obtain⟨callee,args,N⟩:=c;simp only at U h;subst U;unfold xT at h;split at h
   .split at h
    .rename_i s x J;split at h
     .rename_i t u F;unfold fP at h;split at h
      .rename_i a q;split at h
       .rename_i b hb;have C:args.map fr.eval= #[fr.eval s,fr.eval x]:=by apply Array.toList_inj.1;simp[J]
        have Z:N= #[t,u]:=by apply Array.toList_inj.1;simp[F]
        have Y: ∀V,X.und u=some V->(∀k,V≠ .int k)->bC X t a b H=some (v,H')->zLo P (execOp fr.eval { dst,op:= .call { callee:= .builtin .append,args,argTypes:=N},type:=ty,pos,after,guard}) R H w v H':=by
         intro V K a1 a2;obtain⟨T,i,z,j,m⟩:=zFl (P:=P) (ty:=ty) hX hL a2 K a1 (yM f _ _ q) (yM f _ _ hb);refine⟨T,i,z, .inl ?_,m⟩;simp only[execOp,resolve,invoke,builtin,C,Z,Sem.run_bind,Sem.run_pure,Result.andThen,j]
        split at h
        .rename_i V K;exact Y _ K (by simp) h
        .rename_i K;exact Y _ K (by simp) h
        .rename_i k K;obtain⟨T,i,z,j,m⟩:=zLh (P:=P) (ty:=ty) hX hL h K (yM f _ _ q) (yM f _ _ hb);refine⟨T,i,z, .inl ?_,m⟩;simp only[execOp,resolve,invoke,builtin,C,Z,Sem.run_bind,Sem.run_pure,Result.andThen,j]
        .simp at h
       .simp at h
      .simp at h
     .simp at h
    .simp at h
   .split at h
    .rename_i s x J;split at h
     .rename_i t ts F;unfold zIh at h;split at h
      .rename_i a q;split at h
       .rename_i b hb;have C:args.map fr.eval= #[fr.eval s,fr.eval x]:=by apply Array.toList_inj.1;simp[J]
        have O:N[0]? =some t:=by rw[<-Array.getElem?_toList,F];rfl
        obtain⟨T,i,z,j,m⟩:=zLc (P:=P) (ty:=ty) hX hL O h (yM f _ _ q) (yM f _ _ hb);refine⟨T,i,z, .inl ?_,m⟩;simp only[execOp,resolve,invoke,builtin,C,Sem.run_bind,Sem.run_pure,Result.andThen,j]
       .simp at h
      .simp at h
     .simp at h
    .simp at h
   .split at h
    .rename_i s x J;split at h
     .rename_i t ts F;unfold c2 at h;split at h
      .rename_i a q;split at h
       .rename_i b hb;have C:args.map fr.eval= #[fr.eval s,fr.eval x]:=by apply Array.toList_inj.1;simp[J]
        have O:N[0]? =some t:=by rw[<-Array.getElem?_toList,F];rfl
        unfold adl at h;split at h
        .rename_i kt et S;split at h
         .rename_i ks W;obtain⟨rfl,i,j,m,L⟩:=zPK (ty:=ty) hX hL O S W h (yM f _ _ q) (yM f _ _ hb);refine⟨R,i,_, .inl ?_,⟨[],rfl,rfl⟩,m,L⟩;simp only[execOp,resolve,invoke,builtin,C,Sem.run_bind,Sem.run_pure,Result.andThen,j]
         .simp at h
        .simp at h
       .simp at h
      .simp at h
     .simp at h
    .simp at h
   .split at h
    .rename_i s J;split at h
     .rename_i t ts F;unfold c1 at h;split at h
      .rename_i a q;have C:args.map fr.eval= #[fr.eval s]:=by apply Array.toList_inj.1;simp[J]
       have O:N[0]? =some t:=by rw[<-Array.getElem?_toList,F];rfl
       unfold acl at h;split at h
       .rename_i kt et S;obtain⟨rfl,i,j,m,L⟩:=zPQ (ty:=ty) hX hL O S h (yM f _ _ q);refine⟨R,i,_, .inl ?_,⟨[],rfl,rfl⟩,m,L⟩;simp only[execOp,resolve,invoke,builtin,C,Sem.run_bind,Sem.run_pure,Result.andThen,j]
       .simp at h
      .simp at h
     .simp at h
    .simp at h
   .simp at h
  .simp at h
 .simp at h
end
theorem zA8 (R:Ren):VR R qX undef:=by
 simp only[qX,VR];exact⟨[],rfl,rfl⟩
def Out (k:List Item):AExit->List Item->Prop
 | .normal,td=>td=k
 | .exit id,td=> ∃k',td= .code (.exit id)::k'/\exitTo id k'=exitTo id k
 | .ret,td=> ∃k',td= .code .ret::k'
def zJb (P:Program)(nt:Nat)(c:Code)(env:Env)(H:AH)(j:AExit)(env':Env)(H':AH):Prop:=
 ∀(R:Ren) (fr:Frame) (k:List Item) (cs:List Frame) (w:World),fr.mode= .run->fr.todo= .code c::k->EnvR R env nt fr.tmps->Rel R H w->
  ∃a f h i,Steps P (lone fr cs w) (lone { fr with tmps:=h,todo:=i} cs f)/\Out k j i/\EnvR a env' nt h/\Rel a H' f/\Ext R H w a H' f
def zOh (P:Program)(f:FuncId)(args:List AV)(H:AH)(v:AV)(H':AH):Prop:=
 (∃j,P.funcs[f]? =some j/\j.body.isSome=true)/\
 ∀(R:Ren) (az:List Value) (cs:List Frame) (w:World),VRL R args az->Rel R H w->
  ∃i a z h,Steps P (lone (Frame.enter P f ⟨az⟩ .normal) cs w) (lone h cs a)/\h.fn=f/\h.leaving P a (.returned z)/\VR i v z/\Rel i H' a/\Ext R H w i H' a
def zQ3 (P:Program)(f:FuncId)(args:List AV)(H:AH)(v:AV)(H':AH):Prop:=
 ∀(R:Ren) (az:List Value) (w:World),VRL R args az->Rel R H w->
  ∃a h z,(callFunc f ⟨az⟩).run P w= .ok (.value z) h/\VR a v z/\Rel a H' h/\Ext R H w a H' h
def zJc (P:Program)(f:FuncId)(args:List AV)(H:AH)(v:AV)(H':AH):Prop:=H.next<=H'.next/\(zOh P f args H v H'\/zQ3 P f args H v H')
def zBX (P:Program)(A:Nat)(args:List AV)(H:AH)(v:AV)(H':AH):Prop:=
 H.next<=H'.next/\ ∀(R:Ren) (az:List Value) (fr:Frame) (cs:List Frame) (w:World) (b d c:Nat),R A b d c->VRL R args az->Rel R H w->
  ∃L:Loop,w.heap[b]? =some (.loop L)/\az.length=L.params.size/\
   ∃f h z,Steps P (lone (Frame.round b L.fn ((L.params.zip az.toArray).foldl (fun i (t,a)=>i.setIfInBounds t a) L.tmps) L.assign L.body .normal) (fr::cs) w) (lone (fr.finish z) cs h)/\VR f v z/\Rel f H' h/\Ext R H w f H' h
structure Good (P:Program)(r:Fns):Prop where
 call: ∀f args H v H',r.call f args H=some (v,H')->zJc P f args H v H'
 yld: ∀A args H v H',r.yld A args H=some (v,H')->zBX P A args H v H'
theorem zC1 {R:Ren}{env:Env}{n:Nat}{f:Array Value}{ops:Array Oper}{o:Oper}{b:Bool}(h:EnvR R env n f)(hb:cD ops env o=some b):Region.wanted o (yielded ops f)=b:=by
 unfold cD at hb;unfold Region.wanted;split at hb
 .rename_i i;simp only[zB]at hb;subst hb;simp[i]
 .rename_i j s i;simp only[i];unfold zFu at hb;simp only[yielded];rw[zCh,Array.getElem?_toList]at hb
  cases u:ops[j]? with
  | none=>rw[u]at hb;simp only[zB]at hb;subst hb;simp
  | some p=>
   rw[u]at hb;simp only[Option.bind_some]at hb⊢
   cases t:p.dst with
   | none=>rw[t]at hb;simp only[zB]at hb;subst hb;simp
   | some d=>
    rw[t]at hb;simp only at hb;split at hb
    .rename_i x m;simp only[zB]at hb;subst hb;have z:d<n:=by
      rcases Nat.lt_or_ge d n with q | q
      .exact q
      .rw[h.out d q]at m;simp at m
     have y:d<f.size:=by rw[h.size];exact z
     simp only[Option.bind_some,Array.getElem?_eq_getElem y];have a:=h.get d x m;have C:f.getD d undef=f[d]:=by
      rw[Array.getD_eq_getD_getElem?,Array.getElem?_eq_getElem y];rfl
     rw[C]at a;generalize f[d]=v at a
     cases x<;>first
      | (simp only[VR]at a;subst a;simp[isW];done)
      | (simp only[VR]at a;subst a;cases s<;>simp[isW,BEq.beq];done)
      | (obtain⟨_,rfl,_⟩:=a;simp[isW];done)
      | (obtain⟨_,_,rfl⟩:=a;simp[isW];done)
      | (obtain⟨_,_,_,_,rfl⟩:=a;simp[isW];done)
      | (obtain⟨_,_,rfl,_⟩:=a;simp[isW];done)
      | (simp only[VR]at a;subst a;cases v<;>first | (simp[isW];done) | (rename_i b;cases s<;>cases b<;>simp[isW,BEq.beq];done))
      | exact absurd a (by simp[VR])
    .simp at hb
theorem wA_ok {P:Program}{R:Ren}{H H':AH}{w:World}(hL:Rel R H w){s:Sem Value}{a:AObj}{f:Nat->AV}{v:AV}(hm:UE R P s a f w)(h:wA H (some (a,f))=some (v,H')):zMk P s R H w v H':=by
 unfold wA at h;simp only at h;split at h
 .rename_i A t j;obtain⟨u,i,rfl,rfl,_⟩:=uU j
  .simp only[zB,zK]at h;obtain⟨rfl,rfl⟩:=h;obtain⟨x,c,k,z,m,o⟩:=hm;obtain⟨p,q⟩:=o H.next
   refine⟨_,_,z,m,q,(hL.drew k).new i p, ?_⟩;exact(Ext.drew R H w k).trans (Ext.add (w:= { w with drawn:=k}) i)
 .simp at h
section
variable {P:Program}{X:Cx}(hX:Ok P X){r:Fns}(hr:Good P r)
def zQ2 (P:Program)(fr:Frame)(ops:Array Oper)(rest:List Nat)(k:List Item)(cs:List Frame)(o:Oper)(R:Ren)(H:AH)(w:World)(v:AV)(H':AH):Prop:=
 ∃a f z,Steps P (lone fr cs w) (lone { fr with tmps:=zBY fr.tmps o.dst z,todo:= .inRegion ops rest::k} cs f)/\VR a v z/\Rel a H' f/\Ext R H w a H' f
theorem xP {fr:Frame}{k:List Item}{cs:List Frame}{ops:Array Oper}{i:Nat}{rest:List Nat}{o:Oper}{R:Ren}{H H':AH}{w:World}{v:AV}
  (hm:fr.mode= .run) (f:fr.todo= .inRegion ops (i::rest)::k) (j:ops[i]? =some o) (m:Region.wanted o (yielded ops fr.tmps)=true) (hd: ∀c,o.op≠ .defer c) (h:zLo P (execOp fr.eval o) R H w v H'):zQ2 P fr ops rest k cs o R H w v H':=by
 obtain⟨p,q,z,a,s⟩:=h;refine⟨p,q,z, ?_,s⟩;rw[<-yI f j];rcases a with a | ⟨a,rfl⟩
 .exact .one (xQ hm f j m hd a)
 .exact .one (zED hm f j m hd a)
include hX hr in
theorem zDw {fr:Frame}{k:List Item}{cs:List Frame}{ops:Array Oper}{i:Nat}{rest:List Nat}{o:Oper}{R:Ren}{H H':AH}{w:World}{v:AV}{env:Env}{nt:Nat}
  (hm:fr.mode= .run) (j:fr.todo= .inRegion ops (i::rest)::k) (m:ops[i]? =some o) (u:Region.wanted o (yielded ops fr.tmps)=true) (p:EnvR R env nt fr.tmps) (hL:Rel R H w)
  (h:opF X r env H o.op=some (v,H')):zQ2 P fr ops rest k cs o R H w v H':=by
 have hd: ∀c,o.op≠ .defer c:=by
  intro c q;rw[q]at h;simp[opF,cls,aE]at h
 unfold opF at h;split at h
 .unfold wV at h;split at h
  .rename_i x hx;simp only[zB,zK]at h;obtain⟨rfl,rfl⟩:=h;obtain⟨z,T,U⟩:=simP hX hL.fn (w:=w) p hx;exact xP hm j m u hd ⟨R,w,z, .inl T,U,hL,Ext.refl R H w⟩
  .simp at h
 .unfold wV at h;split at h
  .rename_i x hx;simp only[zB,zK]at h;obtain⟨rfl,rfl⟩:=h;obtain⟨z,T,U⟩:=simL hX hL p hx;exact xP hm j m u hd ⟨R,w,z, .inl T,U,hL,Ext.refl R H w⟩
  .simp at h
 .have h':=h;unfold wA at h';split at h'
  .rename_i ob mk hA;obtain⟨s,hs,b4⟩:=simA hX (w:=w) p hA;rw[hA]at h;have:=(wA_ok hL b4 h).next
   rw[<-hs]at this;exact xP hm j m u hd this
  .simp at h'
 .exact xP hm j m u hd (simE hX hL p h)
 .unfold opF.callO at h;split at h
  .rename_i c F;split at h
   .rename_i f q;unfold opF.callV at h;split at h
    .rename_i g first cap hf
     split at h
     .rename_i az a0;obtain⟨y,C,Y,T,U⟩:=yM p _ _ hf
      have h3:=JY p _ _ a0;have a2:VRL R (first++az++cap) ((y++c.args.toList.map fr.eval)++C):=(T.append h3).append U
      rcases(hr.call _ _ _ _ _ h).2 with⟨⟨fn,a6,b7⟩,a9⟩ | b1
      rotate_left
      .obtain⟨V,J,z,b0,W,K,N⟩:=b1 R _ w a2 hL;have O:(execOp fr.eval o).run P w= .ok (.value z) J:=by
        obtain⟨dst,op,ty,a7,a3,a4⟩:=o;obtain⟨a1,args,a5⟩:=c;simp only at F q;subst F q;have S:(⟨y⟩:Array Value)++args.map fr.eval++⟨C⟩=⟨(y++args.toList.map fr.eval)++C⟩:=by
         apply Array.toList_inj.1;simp
        simp only[execOp,resolve,Y,Deferred.ofValue,Sem.run_bind,Sem.run_pure,Result.andThen,invoke,S];simpa using b0
       refine⟨V,J,z, ?_,W,K,N⟩;rw[<-yI j m];exact .one (xQ hm j m u hd O)
      obtain⟨V,J,z,b9,Z,b8,a8,W,K,N⟩:=a9 R _ (fr::cs) w a2 hL;have O:(execOp fr.eval o).run P w= .ok (.enter g ⟨(y++c.args.toList.map fr.eval)++C⟩) w:=by
       obtain⟨dst,op,ty,a7,a3,a4⟩:=o;obtain⟨a1,args,a5⟩:=c;simp only at F q;subst F q;have b5:=hX.nm g fn a6;have hb:fn.body.isNone=false:=by cases hh:fn.body<;>simp_all
       have S:(⟨y⟩:Array Value)++args.map fr.eval++⟨C⟩=⟨(y++args.toList.map fr.eval)++C⟩:=by
        apply Array.toList_inj.1;simp
       simp only[execOp,resolve,Y,Deferred.ofValue,Sem.run_bind,Sem.run_pure,Result.andThen,invoke,callFunc,program,Sem.run,a6,b5,Bool.false_eq_true,if_false,hb,S]
      refine⟨V,J,z, ?_,W,K,N⟩;rw[<-yI j m];exact(Steps.one (zJB hm j m u hd O)).trans (Z.trans (.one (step_leave_returned a8)))
     .simp at h
    .rename_i A hf;split at h
     .rename_i az a0;obtain⟨_,hy⟩:=hr.yld _ _ _ _ _ h;obtain⟨b,d,c0,b6,Y⟩:=yM p _ _ hf;have h3:=JY p _ _ a0;obtain⟨L,hb,b2,V,J,z,Z,W,K,N⟩:=hy R _ fr cs w b d c0 b6 h3 hL;have O:(execOp fr.eval o).run P w= .ok (.round b L.fn ((L.params.zip (c.args.toList.map fr.eval).toArray).foldl (fun b3 (t,a)=>b3.setIfInBounds t a) L.tmps) L.assign L.body) w:=by
       obtain⟨dst,op,ty,a7,a3,a4⟩:=o;obtain⟨a1,args,a5⟩:=c;simp only at F q;subst F q;have S:(args.toList.map fr.eval).toArray=args.map fr.eval:=by apply Array.toList_inj.1;simp
       have:=run_yield (P:=P) (args:=args.map fr.eval) hb (by simpa using b2);simp only[execOp,resolve,Y,Deferred.ofValue,Sem.run_bind,Sem.run_pure,Result.andThen,invoke,S];simpa using this
      refine⟨V,J,z, ?_,W,K,N⟩;rw[<-yI j m];exact(Steps.one (zJy hm j m u hd O)).trans Z
     .simp at h
    .simp at h
   .simp at h
  .simp at h
end
section
variable {X:Cx}{env env':Env}
theorem hH: ∀(xs:List Operand),(∀x∈xs,opd env x=opd env' x)->zBZ env xs=zBZ env' xs
 | [],_=>rfl
 | x::xs,h=>by
  simp only[zBZ];rw[h x (zF ..),hH xs (fun y a=>h y (zE _ a))]
theorem cL: ∀(a:List (Nat×Operand)),(∀x∈a.map (·.2),opd env x=opd env' x)->xK env a=xK env' a
 | [],_=>rfl
 | (i,x)::a,h=>by
  simp only[xK];rw[h x (by simp),cL a (fun y f=>h y (by simp at f⊢;exact .inr f))]
theorem JX (x:Option Operand)(h: ∀y∈x.toArray.toList,opd env y=opd env' y):bQ env x=bQ env' x:=by
 cases x with
 | none=>rfl
 | some x=>simp only[bQ];rw[h x (by simp)]
theorem zEs (o:Op)(h: ∀x∈o.operands.toList,opd env x=opd env' x):aP X env o=aP X env' o:=by
 cases o<;>simp only[aP]<;>simp only[Op.operands]at h
 case move x=>exact h x (by simp)
 case assign x=>exact h x (by simp)
 case pick c a b=>simp only[zEQ];rw[h c (by simp),h a (by simp),h b (by simp)]
 case build t ps=>simp only[QY];rw[cL ps.toList (fun x j=>h x (by simpa using j))]
 case nilCheck x=>rw[h x (by simp)]
 case binOp op t x y t'=>rw[h x (by simp),h y (by simp)]
 case unOp op t x=>rw[h x (by simp)]
 case convert s d x=>rw[h x (by simp)]
 case makeFunc fn first cap=>
  cases fn<;>simp only[aP]
  simp only[zER];rw[hH first.toList (fun x j=>h x (by simp;exact .inl (by simpa using j))),hH cap.toList (fun x j=>h x (by simp;exact .inr (by simpa using j)))]
 case fieldAddr s x f=>rw[h x (by simp)]
 case field s x f=>rw[h x (by simp)]
 case indexAddr t x i=>rw[h x (by simp),h i (by simp)]
 case index t x i=>rw[h x (by simp),h i (by simp)]
 case sliceToArrayPointer t x=>rw[h x (by simp)]
 case extract x i=>rw[h x (by simp)]
 case call c=>
  have m: ∀x∈c.args.toList,opd env x=opd env' x:=fun x j=>h x (by simp[Call.operands];right;simpa using j)
  split<;>try rfl
  .split<;>try rfl
   rename_i x j;split<;>try rfl
   rw[m x (by rw[j];simp)]
  .split<;>try rfl
   rename_i x y j;rw[m x (by rw[j];simp),m y (by rw[j];simp)]
  .split<;>try rfl
   rename_i x y j;rw[m x (by rw[j];simp),m y (by rw[j];simp)]
theorem zEt {H:AH}(o:Op)(h: ∀x∈o.operands.toList,opd env x=opd env' x):aL X env H o=aL X env' H o:=by
 cases o<;>simp only[aL]<;>simp only[Op.operands]at h
 case load t a=>rw[h a (by simp)]
 case lookup t x k ok=>rw[h x (by simp),h k (by simp)]
 case slice t x lo hi mx=>
  simp only[dP];rw[h x (by simp),JX lo (fun y f=>h y (by simp at f⊢;exact .inr (.inl f))),JX hi (fun y f=>h y (by simp at f⊢;exact .inr (.inr (.inl f)))),JX mx (fun y f=>h y (by simp at f⊢;exact .inr (.inr (.inr f))))]
 case convert s d x=>rw[h x (by simp)]
 case binOp op t x y p=>rw[h x (by simp),h y (by simp)]
 case call c=>
  split<;>try rfl
  split<;>try rfl
  rename_i x i;split<;>try rfl
  rw[h x (by
        simp[Call.operands];right;have:x∈c.args.toList:=by rw[i];simp
        simpa using this)]
theorem zEu (o:Op)(h: ∀x∈o.operands.toList,opd env x=opd env' x):aA X env o=aA X env' o:=by
 cases o<;>simp only[aA]<;>simp only[Op.operands]at h
 case box e x=>rw[h x (by simp)]
 case buildSlice t len ps=>simp only[aD];rw[cL ps.toList (fun x a=>h x (by simpa using a))]
 case makeSlice t l c=>rw[h l (by simp),h c (by simp)]
 case convert s d x=>rw[h x (by simp)]
 case makeMap t r=>cases r<;>rfl
theorem zLj {H:AH}(o:Op)(h: ∀x∈o.operands.toList,opd env x=opd env' x):aE X env H o=aE X env' H o:=by
 cases o<;>simp only[aE]<;>simp only[Op.operands]at h
 case store t a x=>rw[h a (by simp),h x (by simp)]
 case mapUpdate t m k v=>rw[h m (by simp),h k (by simp),h v (by simp)]
 case call c=>
  split<;>try rfl
  rename_i b hb;have i: ∀x∈c.args.toList,opd env x=opd env' x:=fun x j=>h x (by simp[Call.operands];right;simpa using j)
  unfold xT;split
  .split<;>try rfl
   rename_i s x f;split<;>try rfl
   rw[i s (by rw[f];simp),i x (by rw[f];simp)]
  .split<;>try rfl
   rename_i s x f;split<;>try rfl
   rw[i s (by rw[f];simp),i x (by rw[f];simp)]
  .split<;>try rfl
   rename_i s x f;split<;>try rfl
   rw[i s (by rw[f];simp),i x (by rw[f];simp)]
  .split<;>try rfl
   rename_i s f;split<;>try rfl
   rw[i s (by rw[f];simp)]
  .rfl
theorem zAS {r:Fns}{H:AH}(o:Op)(h: ∀x∈o.operands.toList,opd env x=opd env' x):opF X r env H o=opF X r env' H o:=by
 unfold opF;split
 .rw[zEs o h]
 .rw[zEt o h]
 .rw[zEu o h]
 .rw[zLj o h]
 .cases o<;>try rfl
  case call c hcls=>
  simp only[opF.callO];simp only[Op.operands]at h;split<;>try rfl
  rename_i f a;rw[h f (by simp[Call.operands,a]),hH c.args.toList (fun x i=>h x (by simp[Call.operands];right;simpa using i))]
end
def zQ7 (H a:AH):Prop:= ∀A o,H.h.get A=some o->a.h.get A=some o
theorem zLi {X:Cx}{env:Env}{H i:AH}(m:zQ7 H i)(o:Op){v:AV}(h:aL X env H o=some v):aL X env i o=some v:=by
 have C: ∀t p v,WW X t p H=some v->WW X t p i=some v:=by
  intro t p v h;unfold WW at h⊢;split at h
  .rename_i A off;split at h
   .rename_i l e sz g f;rw[m _ _ f];exact h
   .simp at h
  .simp at h
 have F: ∀s d x v,YF X s d x H=some v->YF X s d x i=some v:=by
  intro s d x v h;unfold YF at h⊢;split at h
  .split at h
   .split at h
    .split at h
     .exact h
     .split at h
      .rename_i l O sz g f;rw[m _ _ f];exact h
      .simp at h
     .simp at h
    .simp at h
   .simp at h
  .simp at h
 have J: ∀t x v,zCX X t x H=some v->zCX X t x i=some v:=by
  intro t x v h;unfold zCX at h⊢;split at h
  .exact h
  .exact h
  .exact h
  .exact h
  .exact h
  .exact h
  .split at h
   .rename_i ks es f;rw[m _ _ f];exact h
   .simp at h
  .simp at h
 have K: ∀ks z ok x k v,lkM ks z ok x k H=some v->lkM ks z ok x k i=some v:=by
  intro ks z ok x k v h;unfold lkM at h⊢;rw[cond_eq_ite]at h⊢;split at h
  .rename_i S;rw[if_pos S];split at h
   .exact h
   .split at h
    .rename_i T es f;rw[m _ _ f];exact h
    .simp at h
   .simp at h
  .simp at h
 have u: ∀A,Z4 A H=true->Z4 A i=true:=by
  intro A h;unfold Z4 at h⊢;split at h
  .rename_i o f;rw[m _ _ f];exact h
  .simp at h
 have L: ∀j x y v,pNe j x y H=some v->pNe j x y i=some v:=by
  intro j x y v h;unfold pNe at h⊢;split at h
  .split at h
   .rw[cond_eq_ite]at h⊢;split at h
    .rename_i q;simp only[zC]at q;rw[if_pos (by simp only[zC];exact⟨u _ q.1,u _ q.2.1,q.2.2⟩)];exact h
    .simp at h
   .simp at h
  .simp at h
 have N: ∀j t x y v,zA7 X j t x y H=some v->zA7 X j t x y i=some v:=by
  intro j t x y v h;unfold zA7 at h⊢;split at h
  .exact h
  .split at h
   .split at h
    .simp at h
    .exact L _ _ _ _ h
    .simp at h
   .simp at h
 cases o<;>simp only[aL]at h⊢ <;>try(simp at h;done)
 case binOp j t x y p=>
  unfold b2 at h⊢;split at h
  .split at h
   .exact N _ _ _ _ _ h
   .simp at h
  .simp at h
 case load t a=>
  unfold b1 at h⊢;split at h
  .exact C _ _ _ h
  .simp at h
 case lookup t x k ok=>
  unfold b2 at h⊢;split at h
  .split at h
   .unfold zIW at h⊢;split at h
    .split at h
     .split at h
      .exact K _ _ _ _ _ _ h
      .simp at h
     .simp at h
    .simp at h
   .simp at h
  .simp at h
 case slice t x lo hi mx=>
  unfold dP at h⊢;split at h
  .split at h
   .split at h
    .split at h
     .unfold c9 at h⊢;split at h
      .split at h
       .exact h
       .exact h
       .split at h
        .split at h
         .rename_i l O U g f;rw[m _ _ f];exact h
         .simp at h
        .simp at h
       .exact h
       .exact h
       .exact h
       .simp at h
      .simp at h
     .simp at h
    .simp at h
   .simp at h
  .simp at h
 case convert s d x=>
  unfold b1 at h⊢;split at h
  .exact F _ _ _ _ h
  .simp at h
 case call c=>
  split at h
  .split at h
   .split at h
    .unfold b1 at h⊢;split at h
     .exact J _ _ _ h
     .simp at h
    .simp at h
   .simp at h
  .simp at h
theorem nodup_le: ∀(n:Nat) (l:List Nat),l.Nodup->(∀x∈l,x<n)->l.length<=n
 | 0,l,_,h=>by
  cases l with
  | nil=>simp
  | cons x l=>exact absurd (h x (zF ..)) (by omega)
 | n+1,l,hn,h=>by
  have f:=nodup_le n (l.erase n) (hn.erase n) (fun x a=>by
   have:=(List.Nodup.mem_erase_iff hn).1 a;have:=h x this.2;omega)
  have i:l.length<=(l.erase n).length+1:=by rw[List.length_erase];split<;>omega
  omega
theorem zAU {n:Nat}{l:List Nat}(f:l.Nodup)(h: ∀x∈l,x<n)(hl:l.length=n): ∀i,i<n->i∈l:=by
 intro i hi;refine Classical.byContradiction fun j=> ?_
 have:=nodup_le n (i::l) (List.nodup_cons.2 ⟨j,f⟩) (fun x a=>by
  rcases List.mem_cons.1 a with rfl | a
  .exact hi
  .exact h x a)
 simp at this;omega
def Valid (md:Region.Mode)(ops:Array Oper):List Nat->List Nat->Prop
 | _,[]=>True
 | done,j::rest=>j∉done/\j<ops.size/\(∀o,ops[j]? =some o-> ∀e∈o.after.toList,Region.binds md e=true->e.on∈done)/\Valid md ops (j::done) rest
def X3 (ops:Array Oper)(a:Array Bool)(f:List Nat):Prop:=a.size=ops.size/\ ∀i,a.getD i false=true↔i∈f/\i<ops.size
theorem JR {md:Region.Mode}{ops:Array Oper}{a:Array Bool}{h:List Nat}(hl:X3 ops a h){j:Nat} :j∈Region.ready md ops a↔
  j<ops.size/\j∉h/\ ∀o,ops[j]? =some o-> ∀e∈o.after.toList,Region.binds md e=true->e.on∈h/\e.on<ops.size:=by
 have q: ∀i,i<ops.size->a.getD i true=a.getD i false:=by
  intro i hi;rw[Array.getD_eq_getD_getElem?,Array.getD_eq_getD_getElem?,Array.getElem?_eq_getElem (by rw[hl.1];exact hi)];rfl
 unfold Region.ready;rw[List.mem_filter,List.mem_range];constructor
 .rintro⟨h1,h2⟩
  rw[q j h1]at h2;simp only[zC,Bool.not_eq_true']at h2;refine⟨h1,fun m=> ?_,fun o f e p hb=> ?_⟩
  .have:=(hl.2 j).2 ⟨m,h1⟩;rw[this]at h2;simp at h2
  .rw[f]at h2;simp only[Option.map_some,Option.getD_some,Array.all_eq_true_iff_forall_mem]at h2;have:=h2.2 e (by simpa using p);rw[hb]at this;simp only[Bool.not_true,Bool.false_or]at this;exact(hl.2 _).1 this
 .rintro⟨h1,h2,h3⟩
  refine⟨h1, ?_⟩;rw[q j h1];simp only[zC,Bool.not_eq_true'];constructor
  .cases m:a.getD j false with
   | false=>rfl
   | true=>exact absurd ((hl.2 j).1 m).1 h2
  .have f:ops[j]? =some ops[j]:=Array.getElem?_eq_getElem h1;rw[f];simp only[Option.map_some,Option.getD_some,Array.all_eq_true_iff_forall_mem];intro e p
   cases hb:Region.binds md e with
   | false=>rfl
   | true=>
    simp only[Bool.not_true,Bool.false_or];exact(hl.2 _).2 (h3 _ f e (by simpa using p) hb)
theorem V9 {ops:Array Oper}{a:Array Bool}{f:List Nat}(hl:X3 ops a f){j:Nat}(h:j<ops.size):X3 ops (a.setIfInBounds j true) (j::f):=by
 refine⟨by simp[hl.1],fun i=> ?_⟩;rw[Array.getD_eq_getD_getElem?,Array.getElem?_setIfInBounds];by_cases e:j=i
 .subst e;rw[if_pos rfl,if_pos (by rw[hl.1];exact h)];simp[h]
 .rw[if_neg e,<-Array.getD_eq_getD_getElem?,hl.2 i];simp[Ne.symm e]
theorem YY {md:Region.Mode}{ops:Array Oper} : ∀(fuel t:Nat) (a:Array Bool) (f:List Nat),X3 ops a f->Valid md ops f (Region.linearise.go md ops fuel t a [])
 | 0,_,_,_,_=>by simp[Region.linearise.go,Valid]
 | fuel+1,t,a,f,hl=>by
  have h:Region.linearise.go md ops (fuel+1) t a []=match(Region.ready md ops a)[t % (Region.ready md ops a).length]? with
   | some i=>Region.linearise.go md ops fuel (t / (Region.ready md ops a).length) (a.setIfInBounds i true) [i]
   | none=>[]:=rfl
  rw[h];split
  .rename_i i hi;have hm:=(JR hl).1 (List.mem_of_getElem? hi);rw[linearise_go_acc,List.reverse_singleton,List.singleton_append];exact⟨hm.2.1,hm.1,fun o j e m hb=>(hm.2.2 o j e m hb).1,YY fuel _ _ _ (V9 hl hm.1)⟩
  .trivial
theorem uQ {md:Region.Mode}{ops:Array Oper} : ∀(l f:List Nat),Valid md ops f l->l.Nodup/\(∀x∈l,x<ops.size/\x∉f)
 | [],_,_=>by simp
 | j::l,f,h=>by
  obtain⟨o,p,_,q⟩:=h;obtain⟨s,i⟩:=uQ l _ q;refine⟨List.nodup_cons.2 ⟨fun m=>(i j m).2 (zF ..),s⟩,fun x a=> ?_⟩;rcases List.mem_cons.1 a with rfl | a
  .exact⟨p,o⟩
  .exact⟨(i x a).1,fun m=>(i x a).2 (zE _ m)⟩
theorem XY {md:Region.Mode}{ops:Array Oper}{i:Array Bool}{f:List Nat}(hl:X3 ops i f)(q: ∀x∈f,x<ops.size): ∀(L h:List Nat),Valid md ops h L->(∀x∈h,x∈f)->(∃x∈L,x∉f)->Region.ready md ops i≠[]
 | [],_,_,_,⟨x,a,_⟩=>by simp at a
 | j::L,h,hv,hb,hex=>by
  obtain⟨J,u,v,y⟩:=hv;by_cases m:j∈f
  .refine XY hl q L (j::h) y (fun x a=> ?_) ?_
   .rcases List.mem_cons.1 a with rfl | a
    .exact m
    .exact hb x a
   .obtain⟨x,a,s⟩:=hex;rcases List.mem_cons.1 a with rfl | a
    .exact absurd m s
    .exact⟨x,a,s⟩
  .intro z;have p:j∈Region.ready md ops i:=by
    refine(JR hl).2 ⟨u,m,fun o C e F t=> ?_⟩;have hd:=hb _ (v o C e F t);exact⟨hd,q _ hd⟩
   rw[z]at p;simp at p
theorem bG: ∀(l m:List Nat),l.Nodup->(∀x∈l,x∈m)->l.length<=m.length
 | [],_,_,_=>by simp
 | x::l,m,hn,h=>by
  obtain⟨i,j⟩:=List.nodup_cons.1 hn;have a:=h x (zF ..);have:=bG l (m.erase x) j (fun y f=>(List.mem_erase_of_ne (fun e=>i (by rw[<-e];exact f))).2 (h y (zE _ f)));rw[List.length_erase_of_mem a]at this;have hp:=List.length_pos_of_mem a;simp;omega
theorem zHp {md:Region.Mode}{ops:Array Oper}{L:List Nat}(hL:Valid md ops [] L)(m:L.length=ops.size): ∀(fuel t:Nat) (a:Array Bool) (f:List Nat),X3 ops a f->(∀x∈f,x<ops.size)->f.length+fuel=ops.size->
  (Region.linearise.go md ops fuel t a []).length=fuel
 | 0,_,_,_,_,_,_=>by simp[Region.linearise.go]
 | fuel+1,t,a,f,hl,hds,hlen=>by
  have o:Region.linearise.go md ops (fuel+1) t a []=match(Region.ready md ops a)[t % (Region.ready md ops a).length]? with
   | some i=>Region.linearise.go md ops fuel (t / (Region.ready md ops a).length) (a.setIfInBounds i true) [i]
   | none=>[]:=rfl
  have p:Region.ready md ops a≠[]:=by
   refine XY hl hds L [] hL (by simp) (Classical.byContradiction fun q=> ?_);have:=bG L f (uQ L [] hL).1 (fun x h=>Classical.byContradiction fun s=>q ⟨x,h,s⟩);omega
  have j:t % (Region.ready md ops a).length< (Region.ready md ops a).length:=Nat.mod_lt _ (List.length_pos_iff.2 p);rw[o,zH j];simp only;have hm:=(JR hl).1 (qE j);rw[linearise_go_acc,List.reverse_singleton,List.singleton_append,zO,zHp hL m fuel _ _ _ (V9 hl hm.1) (fun x h=>by
   rcases List.mem_cons.1 h with rfl | h
   .exact hm.1
   .exact hds x h) (by simp;omega)]
theorem vH (ops:Array Oper):X3 ops (Array.replicate ops.size false) []:=
 ⟨by simp,fun i=>by
  rw[Array.getD_eq_getD_getElem?,Array.getElem?_replicate];by_cases h:i<ops.size<;>simp[h]⟩
theorem JD {md:Region.Mode}{ops:Array Oper} : ∀(l a:List Nat),Valid md ops a l->Valid .any ops a l
 | [],_,_=>trivial
 | j::l,a,⟨h1,h2,h3,h4⟩=>⟨h1,h2,fun o f e h hb=>h3 o f e h (by
   revert hb
   cases i:e.ground<;>simp[Region.binds,i]),JD l _ h4⟩
theorem gY {md:Region.Mode}{ops:Array Oper}(h:(Region.linearise md ops 0).length=ops.size)(t:Nat):Valid .any ops [] (Region.linearise md ops t)/\ ∀i,i<ops.size->i∈Region.linearise md ops t:=by
 have f:Valid md ops [] (Region.linearise md ops 0):=YY _ _ _ _ (vH ops);have a:Valid md ops [] (Region.linearise md ops t):=YY _ _ _ _ (vH ops);have hl:(Region.linearise md ops t).length=ops.size:=zHp f h _ _ _ _ (vH ops) (by simp) (by simp);obtain⟨m,o⟩:=uQ _ _ a;exact⟨JD _ _ a,zAU m (fun x j=>(o x j).1) hl⟩
theorem XN {md:Region.Mode}{ops:Array Oper} : ∀(l pre:List Oper) (a:List Nat),ops.toList=pre++l->zIR l pre.length=true->(∀x,x∈a↔x<pre.length)->Valid md ops a (List.range' pre.length l.length)
 | [],_,_,_,_,_=>by simp[Valid]
 | o::l,pre,a,hops,hb,hd=>by
  have i:pre.length<ops.size:=by
   have:=congrArg List.length hops;simp at this;omega
  have j:ops[pre.length]? =some o:=by
   rw[<-Array.getElem?_toList,hops];simp
  simp only[zIR,yG,zC,List.all_eq_true,zR]at hb;rw[zO,List.range'_succ];refine⟨fun h=>absurd ((hd _).1 h) (Nat.lt_irrefl _),i,fun o' f e m _=> ?_, ?_⟩
  .rw[j]at f;injection f with f;subst f
   exact(hd _).2 (hb.1 e (by simpa using m))
  .have:=XN (md:=md) l (pre++[o]) (pre.length::a) (by rw[hops];simp) (by simpa using hb.2) (fun x=>by
    simp only[List.mem_cons,hd,zL,qL];omega)
   simpa using this
theorem u6 {md:Region.Mode}{ops:Array Oper}(h:zIR ops.toList 0=true)(t:Nat):Valid .any ops [] (Region.linearise md ops t)/\ ∀i,i<ops.size->i∈Region.linearise md ops t:=by
 have f:Valid md ops [] (List.range' 0 ops.toList.length):=XN (md:=md) (ops:=ops) ops.toList [] [] rfl h (by simp);have a:Valid md ops [] (Region.linearise md ops t):=YY _ _ _ _ (vH ops);have hl:(Region.linearise md ops t).length=ops.size:=zHp f (by simp) _ _ _ _ (vH ops) (by simp) (by simp);obtain⟨m,o⟩:=uQ _ _ a;exact⟨JD _ _ a,zAU m (fun x j=>(o x j).1) hl⟩
theorem zC8 {ops:Array Oper}(h:zCk ops=true)(a:Bool)(t:Nat):Valid .any ops [] (Region.schedule a ops t)/\ ∀i,i<ops.size->i∈Region.schedule a ops t:=by
 simp only[zCk,Bool.or_eq_true,zC,Nat.beq_eq]at h;rcases h with h | h
 .unfold Region.schedule;split
  .exact u6 h t
  .split
   .exact u6 h _
   .exact u6 h _
 .unfold Region.schedule;split
  .exact gY h.1.1 t
  .split
   .exact gY h.1.2 _
   .exact gY h.2 _
theorem V8 (f:List Nat): ∀(es:List Edge) (s i:Nat),(es.foldl (fun s e=>bif Region.binds .any e then s||| 2 ^ e.on||| f.getD e.on 0 else s) s).testBit i=true->s.testBit i=true\/ ∃e∈es,Region.binds .any e=true/\(e.on=i\/(f.getD e.on 0).testBit i=true)
 | [],s,i,h=> .inl h
 | e::es,s,i,h=>by
  simp only[List.foldl_cons]at h;rcases V8 f es _ i h with a | ⟨m,j,a⟩
  .cases hb:Region.binds .any e with
   | false=>rw[hb]at a;exact .inl a
   | true=>
    rw[hb]at a;simp only[cond_true,Nat.testBit_or,Bool.or_eq_true,Nat.testBit_two_pow,zJ]at a;rcases a with(a | a) | a
    .exact .inl a
    .exact .inr ⟨e,zF ..,hb, .inl a⟩
    .exact .inr ⟨e,zF ..,hb, .inr a⟩
  .exact .inr ⟨m,zE _ j,a⟩
theorem cY: ∀(l:List Oper) (a:List Nat) (j:Nat),j<a.length->(jR l a).getD j 0=a.getD j 0
 | [],a,j,_=>rfl
 | o::l,a,j,h=>by
  rw[jR,cY l _ j (by simp;omega)];simp[zT,qG h]
theorem U7: ∀(l:List Oper) (a:List Nat) (j:Nat) (o:Oper),l[j]? =some o-> ∃pre:List Nat,(∀k,k<a.length+j->pre.getD k 0=(jR l a).getD k 0)/\pre.length=a.length+j/\(jR l a).getD (a.length+j) 0=zH2 pre o.after.toList
 | [],_,_,_,h=>by simp at h
 | p::l,a,0,o,h=>by
  simp at h;subst h;refine⟨a,fun k m=> ?_,rfl, ?_⟩
  .rw[jR,cY l _ k (by simp;omega)];simp[zT,qG (show k<a.length by omega)]
  .rw[jR,cY l _ _ (by simp)];simp[zT]
 | p::l,a,j+1,o,h=>by
  simp at h;obtain⟨pre,f,q,i⟩:=U7 l (a++[zH2 a p.after.toList]) j o h;simp only[zL,qL]at f q i;refine⟨pre,fun k m=> ?_,by omega, ?_⟩
  .rw[jR];exact f k (by omega)
  .rw[jR,show a.length+(j+1)=a.length+1+j from by omega];exact i
theorem cO {ops:Array Oper}{f:List Nat}(q: ∀j∈f,∀o,ops[j]? =some o-> ∀e∈o.after.toList,Region.binds .any e=true->e.on∈f):
  ∀(n j:Nat),j<=n->(∀o,ops[j]? =some o-> ∀e∈o.after.toList,Region.binds .any e=true->e.on∈f)-> ∀i,((jR ops.toList []).getD j 0).testBit i=true->i∈f
 | n,j,hjn,hj,i,h=>by
  cases p:ops.toList[j]? with
  | none=>
   have hl: ∀(l:List Oper) (m:List Nat),(jR l m).length=m.length+l.length:=by
    intro l
    induction l with
    | nil=>intro m;simp[jR]
    | cons o l ih=>intro m;rw[jR,ih];simp;omega
   have:(jR ops.toList [])[j]? =none:=by
    rw[List.getElem?_eq_none_iff]at p⊢;rw[hl];simpa using p
   simp[zT,this]at h
  | some o=>
   obtain⟨pre,t,z,u⟩:=U7 ops.toList [] j o p;simp only[qD,Nat.zero_add]at t z u;rw[u]at h;rcases V8 pre _ _ _ h with a | ⟨e,C,hb,a⟩
   .simp at a
   .have x:ops[j]? =some o:=by simpa using p
    have s:=hj o x e C hb;rcases a with rfl | a
    .exact s
    .by_cases y:e.on<j
     .rw[t _ y]at a
      cases n with
      | zero=>omega
      | succ n=>exact cO q n e.on (by omega) (fun o' v=>q _ s o' v) i a
     .have:pre[e.on]? =none:=List.getElem?_eq_none (by omega);simp[zT,this]at a
def AO (H a:AH):Prop:=H.next<=a.next/\(∀A,A<H.next->a.h.get A=H.h.get A)/\zQ7 H a
theorem AO.refl (H:AH):AO H H:=⟨Nat.le_refl _,fun _ _=>rfl,fun _ _ h=>h⟩
theorem AO.trans {H a f:AH}(h:AO H a)(k:AO a f):AO H f:=
 ⟨Nat.le_trans h.1 k.1,fun A i=>(k.2.1 A (zY i h.1)).trans (h.2.1 A i),fun A o j=>k.2.2 A o (h.2.2 A o j)⟩
theorem AO.new {H H':AH}{o:AObj}{A:Nat}(h:newA H o=some (A,H')):AO H H'/\H'.h.get H.next=some o/\H'.next=H.next+1:=by
 obtain⟨a,j,rfl,rfl,m⟩:=uU h;have f:=T.get_set _ _ _ _ _ j;refine⟨⟨Nat.le_succ _,fun A p=> ?_,fun A o' i=> ?_⟩, ?_,rfl⟩
 .show a.get A=_;rw[f,if_neg (by omega)]
 .show a.get A=_;rw[f];by_cases e:A=H.next
  .subst e;rw[m]at i;simp at i
  .rw[if_neg e];exact i
 .show a.get _=_;rw[f,if_pos rfl]
theorem Rel.more {R:Ren}{H a:AH}{w:World}(h:Rel R H w)(f:AO H a):Rel R a w:=by
 have hl: ∀A b d c,R A b d c->YH a A->YH H A:=fun A b d c r ⟨o,i,hd⟩=>⟨o,by rw[<-f.2.1 A (h.lt _ _ _ _ r).2];exact i,hd⟩
 exact⟨h.fn,fun A m b d c d' c' r j l l'=>h.inj _ _ _ _ _ _ _ r j (hl _ _ _ _ r l) (hl _ _ _ _ j l'),
  fun A b d c o r i=>h.obj A b d c o r (by rw[<-f.2.1 A (h.lt _ _ _ _ r).2];exact i),fun A b d c r=>⟨(h.lt _ _ _ _ r).1,zY (h.lt _ _ _ _ r).2 f.1⟩⟩
theorem Ext.more {R a:Ren}{H H' f:AH}{w i:World}(h:Ext R H w a H' i)(j:AO H' f):Ext R H w a f i:=
 ⟨h.sub,h.new,h.newA,Nat.le_trans h.next j.1,fun A m o=>(j.2.1 A (zY m h.next)).trans (h.keepA A m o),h.os,h.tape,h.output,h.size,h.keep⟩
section
variable (X:Cx)(r:Fns)(nt:Nat)(ops:Array Oper)
def xJ:Env->AH->List Ent->Env->AH->Prop
 | env,H,[],envF,HF=>env=envF/\H=HF
 | env,H,e::es,envF,HF=>e.env=env/\e.H=H/\zIb X r ops env H e.i e.o=some e/\ ∃env',X9 nt env e.o.dst e.v=some env'/\xJ env' e.H' es envF HF
theorem WE {env:Env}{H:AH}{e:Ent}(h:zIb X r ops env H e.i e.o=some e):cD ops env e.o=some e.want/\(e.want=true->opF X r env H e.o.op=some (e.v,e.H'))/\(e.want=false->e.v=qX/\e.H'=H):=by
 unfold zIb at h;split at h
 .rename_i a;split at h
  .rename_i v H' p;simp only[zB]at h;have f:e.want=true:=by rw[<-h]
   have j:e.v=v:=by rw[<-h]
   have m:e.H'=H':=by rw[<-h]
   rw[f,j,m];exact⟨a,fun _=>p,fun h=>by simp at h⟩
  .simp at h
 .rename_i a;simp only[zB]at h;have f:e.want=false:=by rw[<-h]
  have j:e.v=qX:=by rw[<-h]
  have m:e.H'=H:=by rw[<-h]
  rw[f];exact⟨a,fun h=>by simp at h,fun _=>⟨j,m⟩⟩
 .simp at h
theorem zM9 {env:Env}{H:AH}{e:Ent}(h:zIb X r ops env H e.i e.o=some e)(f:jQ (cls X e.o.op)=false):AO H e.H':=by
 obtain⟨_,q,s⟩:=WE X r ops h
 cases m:e.want with
 | false=>rw[(s m).2];exact AO.refl H
 | true=>
  have a:=q m;unfold opF at a;split at a
  .unfold wV at a;split at a
   .simp only[zB,zK]at a;rw[<-a.2];exact AO.refl H
   .simp at a
  .unfold wV at a;split at a
   .simp only[zB,zK]at a;rw[<-a.2];exact AO.refl H
   .simp at a
  .unfold wA at a;split at a
   .split at a
    .rename_i A t p;simp only[zB,zK]at a;rw[<-a.2];exact(AO.new p).1
    .simp at a
   .simp at a
  .rename_i j;rw[j]at f;simp[jQ]at f
  .rename_i j;rw[j]at f;simp[jQ]at f
noncomputable def u9 (D:List Nat):List Ent->AH->AH
 | [],HF=>HF
 | e::es,HF=>if jQ (cls X e.o.op)=true/\e.i∉D then e.H else u9 D es HF
variable {X r nt ops}
theorem J3: ∀ {es:List Ent} {env:Env} {H:AH} {envF:Env} {HF:AH} {D:List Nat},xJ X r nt ops env H es envF HF->(∀e∈es,jQ (cls X e.o.op)=true->e.i∉D)->AO H (u9 X D es HF)
 | [],_,H,_,HF,D,h,_=>by obtain⟨_,rfl⟩:=h;exact AO.refl _
 | e::es,env,H,envF,HF,D,⟨h1,h2,h3,env',h4,h5⟩,hD=>by
  unfold u9;split
  .rw[h2];exact AO.refl H
  .rename_i f;have j:jQ (cls X e.o.op)=false:=by
    cases a:jQ (cls X e.o.op)with
    | false=>rfl
    | true=>exact absurd ⟨a,hD e (zF ..) a⟩ f
   exact(zM9 X r ops h3 j).trans (J3 h5 (fun q m=>hD q (zE _ m)))
theorem ZP: ∀ {pre:List Ent} {e:Ent} {a:List Ent} {env:Env} {H:AH} {envF:Env} {HF:AH},xJ X r nt ops env H (pre++e::a) envF HF->xJ X r nt ops e.env e.H (e::a) envF HF
 | [],e,a,env,H,envF,HF,h=>by
  obtain⟨i,j,m,env',o,f⟩:=h;subst i j;exact⟨rfl,rfl,m,env',o,f⟩
 | p::pre,e,a,env,H,envF,HF,⟨_,_,_,env',_,f⟩=>ZP (pre:=pre) f
theorem J0: ∀ {pre l:List Ent} {HF:AH} {D:List Nat},(∀p∈pre,jQ (cls X p.o.op)=true->p.i∈D)->u9 X D (pre++l) HF=u9 X D l HF
 | [],_,_,_,_=>rfl
 | p::pre,l,HF,D,h=>by
  rw[List.cons_append,u9,if_neg (fun a=>a.2 (h p (zF ..) a.1))];exact J0 (fun q f=>h q (zE _ f))
theorem zEb {D:List Nat}{j:Nat} : ∀ {es:List Ent} {HF:AH},(∀e∈es,e.i=j->jQ (cls X e.o.op)=false)->u9 X (j::D) es HF=u9 X D es HF
 | [],_,_=>rfl
 | e::es,HF,h=>by
  simp only[u9];rw[zEb (es:=es) (fun q f=>h q (zE _ f))];by_cases a:e.i=j
  .have:=h e (zF ..) a;rw[if_neg (by simp[this]),if_neg (by simp[this])]
  .simp[a]
theorem zBC: ∀ {pre:List Ent} {e:Ent} {j:List Ent} {env:Env} {H:AH} {envF:Env} {HF:AH},xJ X r nt ops env H (pre++e::j) envF HF->(pre.map (·.o.dst)).Pairwise (fun a b=> ∀d,a=some d->b≠some d)->
  ∀t,(∀p∈pre,p.o.dst=some t->Eng.look e.env t=some p.v)/\((∀p∈pre,p.o.dst≠some t)->Eng.look e.env t=Eng.look env t)
 | [],e,j,env,H,envF,HF,h,_,t=>by
  obtain⟨y,_⟩:=h;exact⟨fun p hp=>by simp at hp,fun _=>by rw[y]⟩
 | p::pre,e,j,env,H,envF,HF,⟨y,h2,h3,env',f,h5⟩,hd,t=>by
  simp only[List.map_cons,List.pairwise_cons]at hd;obtain⟨F,z⟩:=zBC (pre:=pre) h5 hd.2 t;have s:Eng.look env' t=if p.o.dst=some t then some p.v else Eng.look env t:=by
   cases u:p.o.dst with
   | none=>rw[u]at f;simp only[X9,zB]at f;subst f;simp
   | some d=>
    rw[u]at f;simp only[X9,cond_eq_ite]at f;split at f
    .injection f with f;subst f
     unfold Eng.look;rw[vB];by_cases e:t=d
     .subst e;simp
     .rw[if_neg e,if_neg (by simpa using Ne.symm e)]
    .simp at f
  refine⟨fun q i m=> ?_,fun x=> ?_⟩
  .rcases List.mem_cons.1 i with rfl | i
   .rw[z (fun K C J=>hd.1 _ (List.mem_map_of_mem C) t m J),s,if_pos m]
   .exact F q i m
  .rw[z (fun q i=>x q (zE _ i)),s,if_neg (x p (zF ..))]
end
structure Mono (r:Fns):Prop where
 call: ∀f args H v H',r.call f args H=some (v,H')->H.next<=H'.next
 yld: ∀A args H v H',r.yld A args H=some (v,H')->H.next<=H'.next
theorem Good.mono {P:Program}{r:Fns}(h:Good P r):Mono r:=⟨fun f args H v H' e=>(h.call f args H v H' e).1,fun A args H v H' e=>(h.yld A args H v H' e).1⟩
theorem jU {H H':AH}{A:Nat}{o:AObj}(h:uT H A o=some H'):H'.next=H.next:=by
 unfold uT at h;split at h
 .simp only[zB]at h;rw[<-h]
 .simp at h
theorem zFj {a e sz:Nat}{cells:List AV}{H H':AH}{v:AV}(h:dI a e sz cells H=some (v,H')):H.next<=H'.next:=by
 unfold dI at h;split at h
 .rename_i A i f;obtain⟨j,_,_,rfl,_⟩:=uU f;simp only[yG,zB,zK]at h;rw[<-h.2];exact Nat.le_succ _
 .simp at h
theorem fW {a e sz bytes:Nat}{old:Option (List AV)}{new:List AV}{H H':AH}{v:AV}(h:wL a e sz bytes old new H=some (v,H')):H.next<=H'.next:=by
 unfold wL at h;rw[cond_eq_ite]at h;split at h
 .split at h
  .exact zFj h
  .simp at h
 .simp at h
theorem zBS {e sz bytes n:Nat}{new:List AV}{s:AV}{H H':AH}{v:AV}(h:app1 e sz bytes n new s H=some (v,H')):H.next<=H'.next:=by
 unfold app1 at h;split at h
 .rw[cond_eq_ite]at h;split at h
  .simp only[zB,zK]at h;rw[<-h.2];exact Nat.le_refl _
  .exact fW h
 .rw[cond_eq_ite]at h;split at h
  .simp only[zB,zK]at h;rw[<-h.2];exact Nat.le_refl _
  .simp at h
 .split at h
  .unfold zFp at h;rw[cond_eq_ite]at h;split at h
   .unfold zBR at h;split at h
    .split at h
     .rename_i a hp;simp only[yG,zB,zK]at h;rw[<-h.2,jU hp];exact Nat.le_refl _
     .simp at h
    .simp at h
   .rw[cond_eq_ite]at h;split at h
    .exact fW h
    .rw[cond_eq_ite]at h;split at h
     .split at h
      .rename_i a hp;have:=fW h;rw[jU hp]at this;exact this
      .simp at h
     .simp at h
  .simp at h
 .simp at h
theorem zJq {ks:List Nat}{x k u v:AV}{H H':AH}(h:upM ks x k u H=some (v,H')):H.next<=H'.next:=by
 unfold upM at h;rw[cond_eq_ite]at h;split at h
 .split at h
  .split at h
   .rw[cond_eq_ite]at h;split at h
    .split at h
     .split at h
      .rename_i hp;simp only[zB,zK]at h;rw[<-h.2,jU hp];exact Nat.le_refl _
      .simp at h
     .split at h
      .rename_i hp;simp only[zB,zK]at h;rw[<-h.2,jU hp];exact Nat.le_refl _
      .simp at h
    .simp at h
   .simp at h
  .simp at h
 .simp at h
theorem zKF {ks:List Nat}{x k v:AV}{H H':AH}(h:dlM ks x k H=some (v,H')):H.next<=H'.next:=by
 unfold dlM at h;rw[cond_eq_ite]at h;split at h
 .split at h
  .simp only[zB,zK]at h;rw[<-h.2];exact Nat.le_refl _
  .split at h
   .rw[cond_eq_ite]at h;split at h
    .split at h
     .split at h
      .rename_i hp;simp only[zB,zK]at h;rw[<-h.2,jU hp];exact Nat.le_refl _
      .simp at h
     .simp only[zB,zK]at h;rw[<-h.2];exact Nat.le_refl _
    .simp at h
   .simp at h
  .simp at h
 .simp at h
theorem zKQ {x v:AV}{H H':AH}(h:clM x H=some (v,H')):H.next<=H'.next:=by
 unfold clM at h;split at h
 .simp only[zB,zK]at h;rw[<-h.2];exact Nat.le_refl _
 .split at h
  .split at h
   .rename_i hp;simp only[zB,zK]at h;rw[<-h.2,jU hp];exact Nat.le_refl _
   .simp at h
  .simp at h
 .simp at h
theorem zOd {X:Cx}{env:Env}{H H':AH}{o:Op}{v:AV}(h:aE X env H o=some (v,H')):H.next<=H'.next:=by
 unfold aE at h;split at h
 .unfold VW at h;split at h
  .split at h
   .split at h
    .rename_i i f;simp only[zB,zK]at h;rw[<-h.2];unfold zBO at f;split at f
     .split at f
      .split at f
       .rw[cond_eq_ite]at f;split at f
        .split at f
         .rw[jU f];exact Nat.le_refl _
         .simp at f
        .simp at f
       .simp at f
      .simp at f
     .simp at f
    .simp at h
   .simp at h
  .simp at h
 .unfold c3 at h;split at h
  .split at h
   .split at h
    .unfold aup at h;split at h
     .split at h
      .exact zJq h
      .simp at h
     .simp at h
    .simp at h
   .simp at h
  .simp at h
 .split at h
  .unfold xT at h;split at h
   .split at h
    .split at h
     .unfold fP at h;have key: ∀t a b,bC X t a b H=some (v,H')->H.next<=H'.next:=by
       intro t a b h;unfold bC at h;split at h
       .split at h
        .rw[cond_eq_ite]at h;split at h
         .split at h
          .rw[cond_eq_ite]at h;split at h
           .exact zBS h
           .simp at h
          .simp at h
         .simp at h
        .simp at h
       .simp at h
      split at h
      .split at h
       .split at h
        .exact key _ _ _ h
        .exact key _ _ _ h
        .unfold zJ8 at h
         repeat' first | (simp at h;done) | split at h
         all_goals(try rw[cond_eq_ite]at h)
         all_goals(repeat' first | (simp at h;done) | split at h)
         all_goals(try rw[cond_eq_ite]at h)
         all_goals(repeat' first | (simp at h;done) | split at h)
         all_goals exact zBS h
        .simp at h
       .simp at h
      .simp at h
     .simp at h
    .simp at h
   .split at h
    .split at h
     .unfold zIh at h;split at h
      .split at h
       .unfold zFk at h;split at h
        .split at h
         .split at h
          .split at h<;>first | (simp at h;done) | (simp only[zB,zK]at h;rw[<-h.2];exact Nat.le_refl _)
          .split at h
           .simp only at h;split at h
            .rw[cond_eq_ite]at h;split at h
             .split at h
              .split at h
               .split at h
                .rename_i i hp;simp only[yG,zB,zK]at h;rw[<-h.2,jU hp];exact Nat.le_refl _
                .simp at h
               .simp at h
              .simp at h
             .simp at h
            .simp at h
           .simp at h
          .simp at h
         .simp at h
        .simp at h
       .simp at h
      .simp at h
     .simp at h
    .simp at h
   .split at h
    .split at h
     .unfold c2 at h;split at h
      .split at h
       .unfold adl at h;split at h
        .split at h
         .exact zKF h
         .simp at h
        .simp at h
       .simp at h
      .simp at h
     .simp at h
    .simp at h
   .split at h
    .split at h
     .unfold c1 at h;split at h
      .unfold acl at h;split at h
       .exact zKQ h
       .simp at h
      .simp at h
     .simp at h
    .simp at h
   .simp at h
  .simp at h
 .simp at h
section
variable {X:Cx}{r:Fns}(hm:Mono r)
include hm
theorem zK2 {env:Env}{H H':AH}{o:Op}{v:AV}(h:opF X r env H o=some (v,H')):H.next<=H'.next:=by
 unfold opF at h;split at h
 .unfold wV at h;split at h
  .simp only[zB,zK]at h;rw[<-h.2];exact Nat.le_refl _
  .simp at h
 .unfold wV at h;split at h
  .simp only[zB,zK]at h;rw[<-h.2];exact Nat.le_refl _
  .simp at h
 .unfold wA at h;split at h
  .split at h
   .rename_i A f a;obtain⟨i,_,_,rfl,_⟩:=uU a;simp only[zB,zK]at h;rw[<-h.2];exact Nat.le_succ _
   .simp at h
  .simp at h
 .exact zOd h
 .unfold opF.callO at h;split at h
  .split at h
   .unfold opF.callV at h;split at h
    .split at h
     .exact hm.call _ _ _ _ _ h
     .simp at h
    .split at h
     .exact hm.yld _ _ _ _ _ h
     .simp at h
    .simp at h
   .simp at h
  .simp at h
theorem zKA {ops:Array Oper}{env:Env}{H:AH}{e:Ent}(h:zIb X r ops env H e.i e.o=some e):H.next<=e.H'.next:=by
 obtain⟨_,f,j⟩:=WE X r ops h
 cases a:e.want with
 | false=>rw[(j a).2];exact Nat.le_refl _
 | true=>exact zK2 hm (f a)
theorem jH {nt:Nat}{ops:Array Oper} : ∀ {es:List Ent} {env:Env} {H:AH} {envF:Env} {HF:AH},xJ X r nt ops env H es envF HF->H.next<=HF.next/\ ∀e∈es,H.next<=e.H.next
 | [],_,_,_,_,h=>by obtain⟨_,rfl⟩:=h;exact⟨Nat.le_refl _,by simp⟩
 | e::es,env,H,envF,HF,⟨h1,h2,h3,env',h4,h5⟩=>by
  obtain⟨f,i⟩:=jH h5;have:=zKA hm h3;refine⟨Nat.le_trans this f,fun q a=> ?_⟩;rcases List.mem_cons.1 a with rfl | a
  .rw[h2];exact Nat.le_refl _
  .exact Nat.le_trans this (i q a)
end
theorem zJG {nt:Nat}{env env2 env':Env}{dst:Option Tmp}{v v2:AV}(h:X9 nt env dst v=some env'): ∃a,X9 nt env2 dst v2=some a:=by
 cases dst with
 | none=>exact⟨_,rfl⟩
 | some d=>
  simp only[X9,cond_eq_ite]at h⊢;split at h
  .rename_i hd;rw[if_pos hd];exact⟨_,rfl⟩
  .simp at h
theorem gL {nt:Nat}{env env':Env}{dst:Option Tmp}{v:AV}(h:X9 nt env dst v=some env')(t:Nat):Eng.look env' t=if dst=some t then some v else Eng.look env t:=by
 cases dst with
 | none=>simp only[X9,zB]at h;subst h;simp
 | some d=>
  simp only[X9,cond_eq_ite]at h;split at h
  .injection h with h;subst h
   unfold Eng.look;rw[vB];by_cases e:t=d
   .subst e;simp
   .rw[if_neg e,if_neg (by simpa using Ne.symm e)]
  .simp at h
theorem zEy {ops:Array Oper}{env env':Env}{o:Oper}(h: ∀t∈gU ops o,Eng.look env t=Eng.look env' t):cD ops env o=cD ops env' o:=by
 unfold cD;split
 .rfl
 .rename_i j f a;unfold zFu;split
  .rename_i p hp;split
   .rename_i d hd;rw[h d (by simp[gU,a,hp,hd])]
   .rfl
  .rfl
theorem zGT {ops:Array Oper}{env env':Env}{o:Oper}(h: ∀t∈gU ops o,Eng.look env t=Eng.look env' t): ∀x∈o.op.operands.toList,opd env x=opd env' x:=by
 intro x a
 cases x with
 | tmp t=>simp only[opd];rw[h t (by simp only[gU,qO,List.mem_filterMap];exact .inl ⟨.tmp t,a,rfl⟩)]
 | _=>rfl
def Bef (ops:Array Oper)(j i:Nat):Prop:=((jR ops.toList []).getD j 0).testBit i=true
structure Row (X:Cx)(r:Fns)(nt:Nat)(ops:Array Oper)(xM:Env)(H0:AH)(es:List Ent)(envF:Env)(HF:AH):Prop where
 chain:xJ X r nt ops xM H0 es envF HF
 mem: ∀e∈es,ops[e.i]? =some e.o
 nd:(es.map (·.i)).Nodup
 pair:es.Pairwise fun a b=>(∀d,a.o.dst=some d->b.o.dst≠some d)/\(jQ (cls X a.o.op)=true\/uF ops a.o b.o=true->Bef ops b.i a.i)
 see:es.Pairwise fun a b=>a.want=true->jQ (cls X b.o.op)=true-> ¬Bef ops b.i a.i->cls X a.o.op= .L->aL X a.env b.H' a.o.op=some a.v
structure Inv (X:Cx)(nt:Nat)(xM:Env)(H0:AH)(es:List Ent)(HF:AH)(R0:Ren)(w0:World)(D:List Nat)(R:Ren)(tmps:Array Value)(w:World):Prop where
 env: ∃envS,EnvR R envS nt tmps/\ ∀t,(∀e∈es,e.i∈D->e.o.dst=some t->Eng.look envS t=some e.v)/\((∀e∈es,e.i∈D->e.o.dst≠some t)->Eng.look envS t=Eng.look xM t)
 rel:Rel R (u9 X D es HF) w
 no: ∀e∈es,e.want=true->cls X e.o.op= .A->e.i∉D-> ∀b d c,¬R e.H.next b d c
 ob: ∀pre e post,es=pre++e::post->(∀p∈pre,jQ (cls X p.o.op)=true->p.i∈D)->e.want=true->cls X e.o.op= .A->e.i∉D-> ∀o mk,aA X e.env e.o.op=some (o,mk)->(u9 X D es HF).h.get e.H.next=some o/\e.H.next< (u9 X D es HF).next
 ext:Ext R0 H0 w0 R (u9 X D es HF) w
section
variable {P:Program}{X:Cx}{r:Fns}{nt:Nat}{ops:Array Oper}{xM:Env}{H0:AH}{es:List Ent}{envF:Env}{HF:AH}
theorem BU {env:Env}{H:AH}{e:Ent}(h:zIb X r ops env H e.i e.o=some e)(q:e.want=true)(s:cls X e.o.op= .A): ∃o f,aA X env e.o.op=some (o,f)/\e.v=f H.next/\AO H e.H'/\e.H'.h.get H.next=some o/\e.H'.next=H.next+1:=by
 have a:=(WE X r ops h).2.1 q;unfold opF at a;rw[s]at a;simp only at a;unfold wA at a;split at a
 .rename_i o f t;split at a
  .rename_i A C m;simp only[zB,zK]at a;obtain⟨u,j⟩:=a;have p:A=H.next:=by obtain⟨F,_,e,_⟩:=uU m;exact e
   obtain⟨x,y,z⟩:=AO.new m;exact⟨o,f,t,by rw[<-u,p],by rw[<-j];exact x,by rw[<-j];exact y,by rw[<-j];exact z⟩
  .simp at a
 .simp at a
theorem zDy {pre f:List Ent}{e:Ent}{D:List Nat}(t:xJ X r nt ops xM H0 es envF HF)(q:es=pre++e::f)(u: ∀p∈pre,jQ (cls X p.o.op)=true->p.i∈D)(v: ∀p∈f,jQ (cls X p.o.op)=true->p.i∉D)
  (x:e.want=true) (m:cls X e.o.op= .A) {o:AObj} {y:Nat->AV} (z:aA X e.env e.o.op=some (o,y)):(u9 X D es HF).h.get e.H.next=some o/\e.H.next< (u9 X D es HF).next:=by
 subst q;rw[J0 u];have s:=ZP t;obtain⟨_,_,C,env',_,F⟩:=s;rw[u9,if_neg (by rw[m];simp[jQ])];obtain⟨o',J,a,_,K,h8,L⟩:=BU C x m;rw[z]at a;simp only[zB,zK]at a;obtain⟨rfl,rfl⟩:=a;have j:=J3 F v;exact⟨j.2.2 _ _ h8,by have:=j.1;omega⟩
theorem zGd {D:List Nat}{env:Env}{o:Op}{v:AV} : ∀ {a:List Ent} {j:Env} {H:AH},xJ X r nt ops j H a envF HF->aL X env H o=some v->
  (∀q∈a,jQ (cls X q.o.op)=true->q.i∈D->aL X env q.H' o=some v)->aL X env (u9 X D a HF) o=some v
 | [],_,H,⟨_,h⟩,hv,_=>by rw[u9,<-h];exact hv
 | q::a,j,H,⟨h1,h2,h3,env',h4,h5⟩,hv,hq=>by
  rw[u9];split
  .rw[h2];exact hv
  .rename_i m;refine zGd h5 ?_ (fun p hp=>hq p (zE _ hp))
   cases f:jQ (cls X q.o.op)with
   | false=>exact zLi (zM9 X r ops h3 f).2.2 _ hv
   | true=>
    refine hq q (zF ..) f (Classical.byContradiction fun s=>m ⟨f,s⟩)
theorem Row.inj (hR:Row X r nt ops xM H0 es envF HF){e q:Ent}(m:e∈es)(o:q∈es)(h:e.i=q.i):e=q:=by
 have:=hR.nd;clear hR
 induction es with
 | nil=>simp at m
 | cons a l ih=>
  simp only[List.map_cons,List.nodup_cons,List.mem_map,not_exists,not_and]at this;rcases List.mem_cons.1 m with rfl | j
  .rcases List.mem_cons.1 o with rfl | f
   .rfl
   .exact absurd h.symm (this.1 q f)
  .rcases List.mem_cons.1 o with rfl | f
   .exact absurd h (this.1 e j)
   .exact ih j f this.2
theorem Row.dst (hR:Row X r nt ops xM H0 es envF HF){e q:Ent}(i:e∈es)(j:q∈es){t:Tmp}(m:e.o.dst=some t)(p:q.o.dst=some t):e=q:=by
 have:=hR.pair;clear hR
 induction es with
 | nil=>simp at i
 | cons a l ih=>
  simp only[List.pairwise_cons]at this;rcases List.mem_cons.1 i with rfl | h
  .rcases List.mem_cons.1 j with rfl | f
   .rfl
   .exact absurd p ((this.1 q f).1 t m)
  .rcases List.mem_cons.1 j with rfl | f
   .exact absurd m ((this.1 e h).1 t p)
   .exact ih h f this.2
theorem U3: ∀ {es:List Ent} {env:Env} {H:AH} {envF:Env} {HF:AH},xJ X r nt ops env H es envF HF->(es.map (·.o.dst)).Pairwise (fun a b=> ∀d,a=some d->b≠some d)->
  ∀t,(∀p∈es,p.o.dst=some t->Eng.look envF t=some p.v)/\((∀p∈es,p.o.dst≠some t)->Eng.look envF t=Eng.look env t)
 | [],env,H,envF,HF,h,_,t=>by
  obtain⟨s,_⟩:=h;exact⟨fun p hp=>by simp at hp,fun _=>by rw[s]⟩
 | p::pre,env,H,envF,HF,⟨s,h2,h3,env',h4,h5⟩,hd,t=>by
  simp only[List.map_cons,List.pairwise_cons]at hd;obtain⟨y,u⟩:=U3 h5 hd.2 t;have j:=gL h4 t;refine⟨fun q f i=> ?_,fun m=> ?_⟩
  .rcases List.mem_cons.1 f with rfl | f
   .rw[u (fun C x z=>hd.1 _ (List.mem_map_of_mem x) t i z),j,if_pos i]
   .exact y q f i
  .rw[u (fun q f=>m q (zE _ f)),j,if_neg (m p (zF ..))]
theorem zBB: ∀ {es:List Ent} {env:Env} {H:AH} {envF:Env} {HF:AH},xJ X r nt ops env H es envF HF->(∀t,nt<=t->Eng.look env t=none)-> ∀t,nt<=t->Eng.look envF t=none
 | [],env,H,envF,HF,h,ho,t,f=>by rw[<-h.1];exact ho t f
 | p::pre,env,H,envF,HF,⟨h1,h2,h3,env',a,h5⟩,ho,t,f=>by
  refine zBB h5 (fun t f=> ?_) t f
  cases hd:p.o.dst with
  | none=>rw[hd]at a;simp only[X9,zB]at a;rw[<-a];exact ho t f
  | some d=>
   rw[hd]at a;simp only[X9,cond_eq_ite,zR]at a;split at a
   .injection a with a;subst a;unfold Eng.look;rw[vB,if_neg (by omega)];exact ho t f
   .simp at a
theorem zEa {D:List Nat} : ∀ {es:List Ent} {HF:AH},(∀e∈es,e.i∈D)->u9 X D es HF=HF
 | [],_,_=>rfl
 | e::es,HF,h=>by
  rw[u9,if_neg (fun a=>a.2 (h e (zF ..)))];exact zEa (fun q f=>h q (zE _ f))
end
section
variable {P:Program}{X:Cx}(hX:Ok P X){r:Fns}(hr:Good P r)(hm:Mono r){nt:Nat}{ops:Array Oper}{xM:Env}{H0:AH}{es:List Ent}{envF:Env}{HF:AH}
include hX hr hm in
theorem zKj (hR:Row X r nt ops xM H0 es envF HF){R0 R:Ren}{w0 w:World}{D:List Nat}{fr:Frame}{k:List Item}{cs:List Frame}{j:Nat}{rest:List Nat}(a8:fr.mode= .run)(ht:fr.todo= .inRegion ops (j::rest)::k)
  (F:Inv X nt xM H0 es HF R0 w0 D R fr.tmps w) (hj:j∉D) {e:Ent} (he:e∈es) (N:e.i=j) (d8: ∀i,Bef ops j i->i∈D) (d0: ∀q∈es,q.i∈D-> ∀i,Bef ops q.i i->i∈D):
  ∃m K z,Steps P (lone fr cs w) (lone { fr with tmps:=zBY fr.tmps e.o.dst z,todo:= .inRegion ops rest::k} cs K)/\Inv X nt xM H0 es HF R0 w0 (j::D) m (zBY fr.tmps e.o.dst z) K:=by
 obtain⟨pre,a2,S⟩:=List.append_of_mem he;obtain⟨d9,hE,d1⟩:=F.env;have e5:=hR.pair;rw[S,List.pairwise_append,List.pairwise_cons]at e5;obtain⟨g1,⟨e0,i4⟩,e1⟩:=e5;have e6:=hR.nd;rw[S,List.map_append,List.map_cons,List.nodup_append,List.nodup_cons]at e6;have g7: ∀q∈a2,q.i≠e.i:=fun q f h=>e6.2.1.1 (List.mem_map.2 ⟨q,f,h⟩)
 have b7: ∀p∈pre,jQ (cls X p.o.op)=true->p.i∈D:=fun p hp g8=>d8 _ (by rw[<-N];exact(e1 p hp e (zF ..)).2 (.inl g8))
 have c5: ∀p∈pre,p∈es:=fun p hp=>by rw[S];exact qC _ hp
 have c4: ∀p∈a2,p∈es:=fun p hp=>by rw[S];exact qH _ (zE _ hp)
 have f8:jQ (cls X e.o.op)=true-> ∀q∈a2,q.i∉D:=fun a4 q f hc=>hj (by rw[<-N];exact d0 q (c4 q f) hc _ ((e0 q f).2 (.inl a4)))
 have b5:=hR.chain;rw[S]at b5;have g9:(pre.map (·.o.dst)).Pairwise (fun a b=> ∀d,a=some d->b≠some d):=List.pairwise_map.2 (g1.imp fun h=>h.1);have d7: ∀t∈gU ops e.o,Eng.look d9 t=Eng.look e.env t:=by
  intro t e7;obtain⟨V,W⟩:=zBC b5 g9 t;obtain⟨Y,h4⟩:=d1 t;by_cases e8: ∃p∈pre,p.o.dst=some t
  .obtain⟨p,hp,d2⟩:=e8;have c6:uF ops p.o e.o=true:=by
    simp only[uF,d2,Bool.or_eq_true];exact .inl (by simpa using e7)
   rw[V p hp d2,Y p (c5 p hp) (d8 _ (by rw[<-N];exact(e1 p hp e (zF ..)).2 (.inr c6))) d2]
  .have a0: ∀p∈pre,p.o.dst≠some t:=fun p hp h=>e8 ⟨p,hp,h⟩
   rw[W a0,h4 (fun q f J a9=> ?_)];rw[S]at f;rcases List.mem_append.1 f with f | f
   .exact a0 q f a9
   .rcases List.mem_cons.1 f with rfl | f
    .exact hj (N▸J)
    .have c6:uF ops e.o q.o=true:=by
      simp only[uF,a9,Bool.or_eq_true];exact .inr (by simpa using e7)
     exact hj (by rw[<-N];exact d0 q (c4 q f) J _ ((e0 q f).2 (.inr c6)))
 have b1:=zGT d7;have b3:u9 X D es HF=u9 X D (e::a2) HF:=by rw[S];exact J0 b7
 obtain⟨_,_,e2,i5,g2,b8⟩:=ZP b5;obtain⟨f9,g3,g4⟩:=WE X r ops e2;have hw:Region.wanted e.o (yielded ops fr.tmps)=e.want:=zC1 hE (by rw[zEy d7,f9]);have Z:ops[j]? =some e.o:=by rw[<-N];exact hR.mem e he
 have e9: ∀q∈es,q.i∈j::D->q=e\/q.i∈D:=fun q f h=>by
  rcases List.mem_cons.1 h with h | h
  .exact .inl (hR.inj f he (h.trans N.symm))
  .exact .inr h
 have b0:e.i∈j::D:=by rw[N];exact zF ..
 have e3: ∀m z,Sub R m->VR m e.v z-> ∃b2,EnvR m b2 nt (zBY fr.tmps e.o.dst z)/\ ∀t,(∀q∈es,q.i∈j::D->q.o.dst=some t->Eng.look b2 t=some q.v)/\((∀q∈es,q.i∈j::D->q.o.dst≠some t)->Eng.look b2 t=Eng.look xM t):=by
  intro m z c7 hv;obtain⟨b2,d3⟩:=zJG (env2:=d9) (v2:=e.v) g2;refine⟨b2,(hE.mono c7).put hv d3,fun t=>⟨fun q f J a9=> ?_,fun a0=> ?_⟩⟩
  .rw[gL d3];by_cases c2:e.o.dst=some t
   .rw[if_pos c2,hR.dst f he a9 c2]
   .rw[if_neg c2];rcases e9 q f J with rfl | h
    .exact absurd a9 c2
    .exact(d1 t).1 q f h a9
  .rw[gL d3,if_neg (a0 e he b0)];exact(d1 t).2 (fun q f h=>a0 q f (zE _ h))
 have b9:jQ (cls X e.o.op)=false-> ∀m K z,Sub R m->VR m e.v z->Rel m (u9 X D es HF) K->(∀q∈es,q.want=true->cls X q.o.op= .A->q.i∉j::D-> ∀b d c,¬m q.H.next b d c)->Ext R0 H0 w0 m (u9 X D es HF) K->Inv X nt xM H0 es HF R0 w0 (j::D) m (zBY fr.tmps e.o.dst z) K:=by
  intro hn m K z c7 hv c0 a0 a3;have hc:u9 X (j::D) es HF=u9 X D es HF:=zEb (fun q f h0=>by rw[hR.inj f he (h0.trans N.symm)];exact hn);refine⟨e3 m z c7 hv,by rw[hc];exact c0,a0,fun p q po f V T U J o mk u=> ?_,by rw[hc];exact a3⟩;rw[hc];refine F.ob p q po f (fun x y b6=> ?_) T U (fun h=>J (zE _ h)) o mk u;rcases e9 x (by rw[f];exact qC _ y) (V x y b6)with rfl | h
  .rw[hn]at b6;simp at b6
  .exact h
 have c8:jQ (cls X e.o.op)=true-> ∀m K z,VR m e.v z->Rel m e.H' K->Ext R e.H w m e.H' K->Inv X nt xM H0 es HF R0 w0 (j::D) m (zBY fr.tmps e.o.dst z) K:=by
  intro a4 m K z hv c0 a3;have a5:u9 X D es HF=e.H:=by rw[b3,u9,if_pos ⟨a4,by rw[N];exact hj⟩]
  have c9:u9 X (j::D) es HF=u9 X (j::D) a2 HF:=by
   rw[S,J0 (fun p hp h=>zE _ (b7 p hp h)),u9,if_neg (fun hc=>hc.2 b0)]
  have f1: ∀q∈a2,q.i∉j::D:=fun q f h=>by
   rcases List.mem_cons.1 h with h | h
   .exact g7 q f (h.trans N.symm)
   .exact f8 a4 q f h
  have c3:AO e.H' (u9 X (j::D) a2 HF):=J3 b8 (fun q f _=>f1 q f);refine⟨e3 m z a3.sub hv,by rw[c9];exact c0.more c3,fun q f T U J b d c f2=> ?_,fun p q po f V T U J o mk u=> ?_, ?_⟩
  .rw[S]at f;rcases List.mem_append.1 f with f | f
   .rcases a3.newA _ _ _ _ f2 with h | h
    .exact F.no q (c5 q f) T U (fun h=>J (zE _ h)) _ _ _ h
    .obtain⟨p1,p2,hp⟩:=List.append_of_mem f;have b4:=b5;rw[hp,List.append_assoc,List.cons_append]at b4;obtain⟨_,_,d4,env2,_,d5⟩:=ZP b4;obtain⟨_,_,_,_,_,_,h9⟩:=BU d4 T U;have:=(jH hm d5).2 e (by simp);omega
   .rcases List.mem_cons.1 f with rfl | f
    .exact J b0
    .have:=(c0.lt _ _ _ _ f2).2;have:=(jH hm b8).2 q f;omega
  .rcases List.append_eq_append_iff.1 (S.symm.trans f)with⟨a,d6,a1⟩ | ⟨a,d6,a1⟩
   .cases a with
    | nil=>
     simp only[List.nil_append,List.cons.injEq]at a1;exact absurd b0 (by rw[a1.1];exact J)
    | cons x a=>
     simp only[List.cons_append,List.cons.injEq]at a1;exact zDy hR.chain f V (fun x y _=>f1 x (by rw[a1.2];simp[y])) T U u
   .cases a with
    | nil=>
     simp only[List.nil_append,List.cons.injEq]at a1;exact absurd b0 (by rw[<-a1.1];exact J)
    | cons x a=>
     simp only[List.cons_append,List.cons.injEq]at a1;have h6:=a1.1;subst h6;have g0:q∈pre:=by rw[d6];simp
     have e4:q.i∉D:=fun h=>J (zE _ h)
     obtain⟨W,Y⟩:=F.ob p q po f (fun x y b6=>b7 x (by rw[d6];simp[y]) b6) T U e4 o mk u;rw[a5]at W Y;rw[c9,c3.2.1 _ (zY Y a3.next),a3.keepA _ Y (F.no q (c5 q g0) T U e4)]
     exact⟨W,zY Y (Nat.le_trans a3.next c3.1)⟩
  .rw[c9];have:=F.ext;rw[a5]at this;exact(this.trans a3).more c3
 have c1: ∀q∈es,q.want=true->cls X q.o.op= .A->q.i∉j::D-> ∀b d c,¬R q.H.next b d c:=fun q f T U J=>F.no q f T U (fun h=>J (zE _ h))
 cases a6:e.want with
 | false=>
  rw[a6]at hw;obtain⟨hv,f3⟩:=g4 a6;refine⟨R,w,undef,by rw[<-yI ht Z];exact .one (JJ a8 ht Z hw), ?_⟩;have f4:VR R e.v undef:=by rw[hv];exact zA8 R
  cases a4:jQ (cls X e.o.op)with
  | false=>exact b9 a4 R w undef (Sub.refl R) f4 F.rel c1 F.ext
  | true=>
   have a5:u9 X D es HF=e.H:=by rw[b3,u9,if_pos ⟨a4,by rw[N];exact hj⟩]
   refine c8 a4 R w undef f4 ?_ ?_
   .rw[f3,<-a5];exact F.rel
   .rw[f3];exact Ext.refl _ _ _
 | true=>
  rw[a6]at hw;have a7:=g3 a6;have hd: ∀c,e.o.op≠ .defer c:=by
   intro c hc;rw[hc]at a7;simp[opF,cls,aE]at a7
  cases O:cls X e.o.op with
  | P=>
   have u:=a7;unfold opF at u;rw[O]at u;simp only at u;unfold wV at u;split at u
   .rename_i x y;simp only[zB,zK]at u;rw[<-zEs _ b1]at y;obtain⟨z,V,W⟩:=simP hX F.rel.fn (w:=w) hE y;refine⟨R,w,z,by rw[<-yI ht Z];exact .one (xQ a8 ht Z hw hd V),b9 (by rw[O];rfl) R w z (Sub.refl R) (by rw[<-u.1];exact W) F.rel c1 F.ext⟩
   .simp at u
  | L=>
   have u:=a7;unfold opF at u;rw[O]at u;simp only at u;unfold wV at u;split at u
   .rename_i x y;simp only[zB,zK]at u;have f5:aL X e.env (u9 X D es HF) e.o.op=some x:=by
     rw[b3,u9,if_neg (by rw[O];simp[jQ])];refine zGd b8 (by rw[<-u.2];exact y) (fun q f h7 J=> ?_);have f6:=hR.see;rw[S,List.pairwise_append,List.pairwise_cons]at f6;rw[u.1];exact f6.2.1.1 q f a6 h7 (fun hb=>hj (by rw[<-N];exact d0 q (c4 q f) J _ hb)) O
    rw[<-zEt _ b1]at f5;obtain⟨z,V,W⟩:=simL hX F.rel hE f5;refine⟨R,w,z,by rw[<-yI ht Z];exact .one (xQ a8 ht Z hw hd V),b9 (by rw[O];rfl) R w z (Sub.refl R) (by rw[<-u.1];exact W) F.rel c1 F.ext⟩
   .simp at u
  | A=>
   obtain⟨o,mk,hA,hv,Y,h4,h5⟩:=BU e2 a6 O;obtain⟨g5,g6⟩:=F.ob pre e a2 S b7 a6 O (by rw[N];exact hj) o mk hA;have f7:=hA;rw[<-zEu _ b1]at f7;obtain⟨s,hs,x,c,kk,z,h8,i0⟩:=simA hX (w:=w) hE f7;obtain⟨i1,i2⟩:=i0 e.H.next
   have a0:=F.no e he a6 O (by rw[N];exact hj);refine⟨R.add e.H.next w.heap.size 0 c,World.alloc { w with drawn:=kk} x,z, ?_, ?_⟩
   .rw[<-yI ht Z];refine .one (xQ a8 ht Z hw hd ?_);rw[hs];simp only[Sem.run_bind,h8,Result.andThen];rfl
   .refine b9 (by rw[O];rfl) _ _ z (R.sub_add _ _ _ _) (by rw[hv];exact i2) ?_ ?_ ?_
    .exact(F.rel.drew kk).add (w:= { w with drawn:=kk}) g5 g6 a0 i1
    .intro q f T U J b d c'
     rintro(h | ⟨h,_⟩)
     .exact c1 q f T U J _ _ _ h
     .rw[S]at f;rcases List.mem_append.1 f with f | f
      .obtain⟨p1,p2,hp⟩:=List.append_of_mem f;have b4:=b5;rw[hp,List.append_assoc,List.cons_append]at b4;obtain⟨_,_,d4,env2,_,d5⟩:=ZP b4;obtain⟨_,_,_,_,_,_,h9⟩:=BU d4 T U;have:=(jH hm d5).2 e (by simp);omega
      .rcases List.mem_cons.1 f with rfl | f
       .exact J b0
       .have:=(jH hm b8).2 q f;omega
    .have y:=F.ext;have i3:H0.next<=e.H.next:=(jH hm hR.chain).2 e he
     refine⟨y.sub.trans (R.sub_add _ _ _ _), ?_, ?_,y.next,y.keepA,y.os,y.tape,y.output, ?_, ?_⟩
     .rintro A b d c' (h | ⟨rfl,rfl,rfl,rfl⟩)
      .exact y.new _ _ _ _ h
      .exact .inr (.inl y.size)
     .rintro A b d c' (h | ⟨rfl,rfl,rfl,rfl⟩)
      .exact y.newA _ _ _ _ h
      .exact .inr i3
     .rw[yT];exact Nat.le_succ_of_le y.size
     .intro b hb hk;exact(heap_alloc_old { w with drawn:=kk} x b (zY hb y.size)).trans (y.keep b hb hk)
  | E=>
   have a5:u9 X D es HF=e.H:=by rw[b3,u9,if_pos ⟨by rw[O];rfl,by rw[N];exact hj⟩]
   have hL:=F.rel;rw[a5]at hL;rw[<-zAS _ b1]at a7;obtain⟨m,K,z,V,W,Y,h4⟩:=zDw hX hr (cs:=cs) a8 ht Z hw hE hL a7;exact⟨m,K,z,V,c8 (by rw[O];rfl) m K z W Y h4⟩
  | C=>
   have a5:u9 X D es HF=e.H:=by rw[b3,u9,if_pos ⟨by rw[O];rfl,by rw[N];exact hj⟩]
   have hL:=F.rel;rw[a5]at hL;rw[<-zAS _ b1]at a7;obtain⟨m,K,z,V,W,Y,h4⟩:=zDw hX hr (cs:=cs) a8 ht Z hw hE hL a7;exact⟨m,K,z,V,c8 (by rw[O];rfl) m K z W Y h4⟩
end
section
variable {P:Program}{X:Cx}(hX:Ok P X){r:Fns}(hr:Good P r)(hm:Mono r){nt:Nat}{ops:Array Oper}{xM:Env}{H0:AH}{es:List Ent}{envF:Env}{HF:AH}
include hX hr hm in
theorem zHe (hR:Row X r nt ops xM H0 es envF HF)(p: ∀j,j<ops.size-> ∃e∈es,e.i=j){t:Ren}{u:World}{fr:Frame}{k:List Item}{cs:List Frame}(h:fr.mode= .run): ∀(rest D:List Nat) (R:Ren) (tmps:Array Value) (w:World),
  Valid .any ops D rest->(∀j∈D,∀o,ops[j]? =some o-> ∀e∈o.after.toList,Region.binds .any e=true->e.on∈D)->Inv X nt xM H0 es HF t u D R tmps w->
  ∃U v m y,Steps P (lone { fr with tmps:=tmps,todo:= .inRegion ops rest::k} cs w) (lone { fr with tmps:=m,todo:= .inRegion ops []::k} cs v)/\Inv X nt xM H0 es HF t u y U m v/\(∀j,j∈D\/j∈rest->j∈y)
 | [],D,R,tmps,w,_,_,hI=>⟨R,w,tmps,D, .refl _ _,hI,fun j V=>by simpa using V⟩
 | j::rest,D,R,tmps,w,hv,hcl,hI=>by
  obtain⟨W,Y,C,Z⟩:=hv;obtain⟨e,he,J⟩:=p j Y;have hb: ∀i,Bef ops j i->i∈D:=fun i hi=>cO hcl j j (Nat.le_refl _) C i hi
  obtain⟨R1,w1,z,K,L⟩:=zKj hX hr hm hR (fr:= { fr with tmps:=tmps,todo:= .inRegion ops (j::rest)::k}) (k:=k) (cs:=cs) h rfl hI W he J hb
   (fun q a N i hi=>cO hcl q.i q.i (Nat.le_refl _) (fun o f=>hcl q.i N o f) i hi)
  obtain⟨R2,w2,t2,D2,O,S,T⟩:=zHe hR p h rest (j::D) R1 (zBY tmps e.o.dst z) w1 Z (fun q a o f x F s=>by
   rcases List.mem_cons.1 a with rfl | a
   .exact zE _ (C o f x F s)
   .exact zE _ (hcl q a o f x F s)) L
  refine⟨R2,w2,t2,D2,K.trans O,S,fun i hi=>T i ?_⟩;rcases hi with hi | hi
  .exact .inl (zE _ hi)
  .rcases List.mem_cons.1 hi with rfl | hi
   .exact .inl (zF ..)
   .exact .inr hi
include hm in
theorem zHf (hR:Row X r nt ops xM H0 es envF HF){R:Ren}{a:Array Value}{w:World}(p:EnvR R xM nt a)(hL:Rel R H0 w):Inv X nt xM H0 es HF R w [] R a w:=by
 have f:AO H0 (u9 X [] es HF):=J3 hR.chain (fun _ _ _=>by simp);refine⟨⟨xM,p,fun t=>⟨fun e _ h=>by simp at h,fun _=>rfl⟩⟩,hL.more f,fun e q i j _ b d c h=> ?_,fun pre e v m s i j _ o x u=> ?_,(Ext.refl R H0 w).more f⟩
 .have:=(hL.lt _ _ _ _ h).2;have:=(jH hm hR.chain).2 e q;omega
 .exact zDy hR.chain m s (fun _ _ _=>by simp) i j u
theorem zAV: ∀(l:List Nat),zDz l=true->l.Nodup
 | [],_=>List.nodup_nil
 | x::l,h=>by
  simp only[zDz,zC,Bool.not_eq_true',List.contains_eq_mem,decide_eq_false_iff_not]at h;exact List.nodup_cons.2 ⟨h.1,zAV l h.2⟩
theorem V1 {masks:List Nat} : ∀(l:List (Nat×Oper)),UY X ops masks l=true->l.Pairwise fun a b=>zGO X ops masks a b=true
 | [],_=>List.Pairwise.nil
 | a::l,h=>by
  simp only[UY,zC,List.all_eq_true]at h;exact List.pairwise_cons.2 ⟨h.1,V1 l h.2⟩
theorem zGi {masks:List Nat}{a:Nat×Oper}(h:a∈rowOf X ops masks):ops[a.1]? =some a.2:=by
 have base: ∀a∈(List.range ops.size).filterMap (fun i=>match zFn ops.toList i with | some o=>some (i,o) | none=>none),ops[a.1]? =some a.2:=by
  intro a m;obtain⟨i,_,hi⟩:=List.mem_filterMap.1 m;split at hi
  .rename_i o j;simp only[zB]at hi;subst hi;rw[zCh]at j;simpa using j
  .simp at hi
 unfold rowOf at h;simp only at h;obtain⟨s,_,f⟩:=List.mem_flatMap.1 h;rcases List.mem_append.1 f with f | f
 .exact base a (List.mem_filter.1 (List.mem_filter.1 f).1).1
 .split at f
  .rename_i e p;simp only[List.mem_singleton]at f;subst f;exact base a (List.mem_filter.1 (List.mem_of_getElem? p)).1
  .simp at f
include hX hr hm in
theorem zIj {id:Nat}{env envF:Env}{H HF:AH}{row:List (Nat×Oper)}{masks:List Nat}{es:List Ent}(s:plan X ops=some (row,masks))(C:xJ X r nt ops env H es envF HF)(z:es.map (fun e=>(e.i,e.o))=row)
  (b1:es.Pairwise fun a b=>a.want=true->jQ (cls X b.o.op)=true->(masks.getD b.i 0).testBit a.i=false->cls X a.o.op= .L->aL X a.env b.H' a.o.op=some a.v):zJb P nt (.region id ops true) env H .normal envF HF:=by
 intro R fr k cs w F ht hE hL;unfold plan at s;simp only[cond_eq_ite]at s;split at s
 .rename_i Y;simp only[zB,zK]at s;obtain⟨a5,a2⟩:=s;rw[<-a5]at z;simp only[zP3,zC]at Y;obtain⟨⟨⟨⟨a3,b2⟩,a4⟩,S⟩,_⟩:=Y;have hi:es.map (·.i)=(rowOf X ops (jR ops.toList [])).map (·.1):=by rw[<-z];simp
  have U: ∀e∈es,ops[e.i]? =some e.o:=fun e m=>zGi (a:=(e.i,e.o)) (by rw[<-z];exact List.mem_map.2 ⟨e,m,rfl⟩)
  have Z:=V1 _ a4;rw[<-z,List.pairwise_map]at Z;have hR:Row X r nt ops env H es envF HF:=by
   refine⟨C,U,by rw[hi];exact zAV _ b2,Z.imp ?_,b1.imp ?_⟩
   .intro a b u;simp only[zGO,zC,Bool.or_eq_true,Bool.not_eq_true',Bool.or_eq_false_iff]at u;refine⟨fun d q N=> ?_,fun f=> ?_⟩
    .simp[q,N]at u
    .rcases u.2 with y | y
     .exact y
     .rcases f with f | f
      .rw[y.1]at f;simp at f
      .rw[y.2]at f;simp at f
   .intro a b u hw hb b3 hL;rw[<-a2]at u;have a6:((jR ops.toList []).getD b.i 0).testBit a.i=false:=by
     cases hh:((jR ops.toList []).getD b.i 0).testBit a.i with
     | false=>rfl
     | true=>exact absurd hh b3
    exact u hw hb a6 hL
  have a7: ∀j,j<ops.size-> ∃e∈es,e.i=j:=by
   intro j hj;simp only[List.all_eq_true,List.mem_range]at S;have q:=S j hj;rw[<-hi]at q;simp only[List.contains_eq_mem,zJ,List.mem_map]at q;exact q
  obtain⟨a8,a9⟩:=zC8 a3 (P.follows .mixedOrders) (w.tape w.drawn (.order fr.fn id));have b4:=zHf hm hR hE (hL.drew (w.drawn+1));obtain⟨R1,w1,t1,D1,b5,J,b6⟩:=zHe hX hr hm hR a7 (fr:=fr) (k:=k) (cs:=cs) F _ [] R fr.tmps _ a8 (by simp) b4;have T: ∀e∈es,e.i∈D1:=fun e m=>b6 _ (.inr (a9 _ (by
   have:=U e m;exact(Array.getElem?_eq_some_iff.1 this).1)))
  have b7:u9 X D1 es HF=HF:=zEa T;have V:=J.rel;have W:=J.ext;rw[b7]at V W;refine⟨R1,w1,t1,k,(Steps.one (zMF F ht)).trans (b5.trans (.one (kD (fr:= { fr with tmps:=t1,todo:= .inRegion ops []::k}) F rfl))),rfl, ?_,V,(Ext.drew R H w _).trans W⟩;obtain⟨b0,a0,b8⟩:=J.env;have b9:(es.map (·.o.dst)).Pairwise (fun a b=> ∀d,a=some d->b≠some d):=List.pairwise_map.2 (hR.pair.imp fun h=>h.1);refine⟨a0.size,fun t x hx=> ?_,zBB C hE.out⟩;have:Eng.look envF t=Eng.look b0 t:=by
   obtain⟨q,N⟩:=U3 C b9 t;obtain⟨f,y⟩:=b8 t;by_cases K: ∃e∈es,e.o.dst=some t
   .obtain⟨e,m,a1⟩:=K;rw[q e m a1,f e m (T e m) a1]
   .rw[N (fun p hp O=>K ⟨p,hp,O⟩),y (fun p hp _ O=>K ⟨p,hp,O⟩)]
  rw[this]at hx;exact a0.get t x hx
 .simp at s
end
end Go.Eng
end
section
noncomputable section
namespace Go.Eng
inductive Ex where
 | norm (vs:List AV)
 | exit (id:Nat) (vs:List AV)
 | ret (v:AV)
abbrev Rs:=Option (Ex×AH)
def bV (x:Option AV)(K:AV->Rs):Rs:=Option.rec (motive:=fun _=>Rs) none (fun v=>K v) x
def bR (x:Option (AV×AH))(K:AV->AH->Rs):Rs:=Option.rec (motive:=fun _=>Rs) none (fun p=>Prod.rec (motive:=fun _=>Rs) (fun v H=>K v H) p) x
def hd (vs:List AV)(K:AV->List AV->Rs):Rs:=List.rec (motive:=fun _=>Rs) none (fun v l _=>K v l) vs
def cnd (c:AV)(a b:Rs):Rs:=match c with | .bool true=>a | .bool false=>b | _=>none
def jn (x:Rs)(K:List AV->AH->Rs):Rs:=match x with
 | some (.norm vs,H)=>K vs H
 | some (.exit id vs,H)=>some (.exit id vs,H)
 | some (.ret v,H)=>some (.ret v,H)
 | none=>none
def jb (id:Nat)(x:Rs)(K:List AV->AH->Rs):Rs:=match x with
 | some (.norm vs,H)=>K vs H
 | some (.exit i vs,H)=>bif Nat.beq i id then K vs H else some (.exit i vs,H)
 | some (.ret v,H)=>some (.ret v,H)
 | none=>none
def yF (n:Nat)(b:List AV->AH->Rs):List AV->AH->Rs:=
 Nat.rec (motive:=fun _=>List AV->AH->Rs) (fun _ _=>none) (fun _ a vs H=>jn (b vs H) a) n
def wnt (x:AV)(f:Bool)(a b:Rs):Rs:=bif isW x f then a else b
def chk (x:Option AV)(v:AV)(K:Rs):Rs:=match x with | some y=>bif aveq y v then K else none | none=>none
def XA (H:AH)(o:AObj)(K:Nat->AH->Rs):Rs:=
 match T.get H.h H.next with
 | none=>match T.set 40 H.h H.next o with
  | some t=>fN (Nat.succ H.next) fun m=>K H.next ⟨t,m⟩
  | none=>none
 | some _=>none
def bA (x:Option (AObj×(Nat->AV)))(H:AH)(K:AV->AH->Rs):Rs:=
 match x with
 | some (o,mk)=>XA H o fun A H'=>K (mk A) H'
 | none=>none
def jM (f:BinOp)(x y:AV):Option AV:=match x with
 | .int k a=>match y with | .int k' b=>uA f k a k' b | _=>none
 | _=>none
def bO (a:BinOp)(x y:AV):Option AV:=match x with
 | .str l b=>match y with | .str m c=>zA6 a l b m c | _=>none
 | _=>none
def YP (f:BinOp)(x y:AV):Option AV:=match x with
 | .bool a=>match y with
  | .bool b=>match f with
   | .eql=>mkB (a==b)
   | .neq=>mkB !(a==b)
   | _=>none
  | _=>none
 | _=>none
def bW (a:BinOp)(r:Option Bool):Option AV:=match r with
 | some b=>match a with
  | .eql=>mkB b
  | .neq=>mkB !b
  | _=>none
 | none=>none
def eqP (x y:AV):Option Bool:=match x with
 | .nilPtr=>match y with
  | .nilPtr=>some true
  | .ptr _ _=>some false
  | _=>none
 | .ptr A o=>match y with
  | .nilPtr=>some false
  | .ptr B p=>bif Nat.beq A B then some (Nat.beq o p)else none
  | _=>none
 | _=>none
def eqS (x y:AV):Option Bool:=match x with
 | .nilSlice=>match y with
  | .nilSlice=>some true
  | .slice _ _ _ _=>some false
  | _=>none
 | .slice _ _ _ _=>match y with
  | .nilSlice=>some false
  | _=>none
 | _=>none
def eqM (x y:AV):Option Bool:=match x with
 | .nilMap=>match y with
  | .nilMap=>some true
  | .map _=>some false
  | _=>none
 | .map _=>match y with
  | .nilMap=>some false
  | _=>none
 | _=>none
def eqF (x y:AV):Option Bool:=match x with
 | .nilFunc=>match y with
  | .nilFunc=>some true
  | .func _ _ _=>some false
  | _=>none
 | .func _ _ _=>match y with
  | .nilFunc=>some false
  | _=>none
 | _=>none
def eqA (f:List Nat)(x y:AV):Option Bool:=match x with
 | .agg a=>match y with
  | .agg b=>bif Nat.beq (dO a 0) (dO b 0)&&Nat.beq f.length (dO a 0)then wX f a b else none
  | _=>none
 | _=>none
def zOA (x y:AV)(H:AH):Option Bool:=match x with
 | .nilPtr=>match y with
  | .nilPtr=>some true
  | .ptr _ _=>some false
  | _=>none
 | .ptr A o=>match y with
  | .nilPtr=>some false
  | .ptr B p=>bif Nat.beq A B then some (Nat.beq o p)else bif Z4 A H&&Z4 B H then some false else none
  | _=>none
 | _=>none
def zJv (X:Cx)(a:BinOp)(t:TypeId)(x y:AV)(H:AH):Option AV:=
 match X.und t with
 | some (.pointer e)=>match X.size e with
  | some 0=>none
  | some _=>bW a (zOA x y H)
  | none=>none
 | _=>none
def zOn (X:Cx)(a:BinOp)(t:TypeId)(x y:AV):Option AV:=
 match X.und t with
 | some (.int _)=>jM a x y
 | some .string=>bO a x y
 | some .bool=>YP a x y
 | some (.pointer e)=>match X.size e with
  | some 0=>none
  | some _=>bW a (eqP x y)
  | none=>none
 | some (.slice _)=>bW a (eqS x y)
 | some (.map _ _)=>bW a (eqM x y)
 | some (.func _ _ _)=>bW a (eqF x y)
 | some (.struct _)=>match zCs t X.fl with | some qs=>bW a (eqA qs x y) | none=>none
 | some (.array _ _)=>match zCs t X.fl with | some qs=>bW a (eqA qs x y) | none=>none
 | _=>none
def ldN (n:Nat)(p:AV)(H:AH):Option AV:=match p with
 | .ptr A off=>match H.h.get A with
  | some (.cells l _ _ _)=>match xX l off n with | some c=>some (.agg c) | none=>none
  | _=>none
 | _=>none
def ld1 (p:AV)(H:AH):Option AV:=match p with
 | .ptr A off=>match H.h.get A with
  | some (.cells l _ _ _)=>nth l off
  | _=>none
 | _=>none
def zFK (X:Cx)(t:TypeId)(p:AV)(H:AH):Option AV:=
 match X.und t with
 | some d=>bif bI d then(match X.size t with | some n=>ldN n p H | none=>none)else ld1 p H
 | none=>none
def stN (n:Nat)(p x:AV)(H:AH):Option (AV×AH):=match p with
 | .ptr A off=>match H.h.get A with
  | some (.cells l e sz g)=>bif (dO (y6 x) 0).beq n&&qW (y6 x)&&Nat.blt 0 sz then
    match setAt l off (y6 x)with
    | some l'=>match uT H A (.cells l' e sz g)with
     | some H'=>some (qX,H')
     | none=>none
    | none=>none
   else none
  | _=>none
 | _=>none
def zFJ (X:Cx)(t:TypeId)(p x:AV)(H:AH):Option (AV×AH):=
 match X.size t with | some n=>stN n p x H | none=>none
def cvI (k:IntKind)(x:AV):Option AV:=match x with | .int _ n=>mkI k n | _=>none
def zOE (x:AV):Option AV:=match x with | .str l b=>some (.str l b) | _=>none
def zFR (X:Cx)(a dst:TypeId)(x:AV):Option AV:=
 match X.und a with
 | none=>none
 | some ds=>match X.und dst with
  | some (.int k)=>cvI k x
  | some .string=>match ds with
   | .string=>zOE x
   | _=>none
  | _=>none
def zBx (x:AV)(H:AH):Option AV:=match x with
 | .nilSlice=>some (.str 0 0)
 | .slice A off len _=>match H.h.get A with
  | some (.cells l _ _ _)=>match xX l off len with
   | some c=>match aM c with
    | some (n,b)=>mkS n b
    | none=>none
   | none=>none
  | _=>none
 | _=>none
def zDc (X:Cx)(a dst:TypeId)(x:AV)(H:AH):Option AV:=
 match X.und a with
 | some (.slice e)=>match X.und dst with
  | some .string=>match X.und e with
   | some (.int .u8)=>zBx x H
   | _=>none
  | _=>none
 | _=>none
def zMd (e:TypeId)(x:AV):Option (AObj×(Nat->AV)):=match x with
 | .str l b=>bif Nat.blt l 4611686018427387904 then some (.cells (bytesOf l b) e 1 true,fun A=> .slice A 0 l 1)else none
 | _=>none
def zFT (X:Cx)(a dst:TypeId)(x:AV):Option (AObj×(Nat->AV)):=
 match X.und a with
 | some .string=>match X.und dst with
  | some (.slice e)=>match X.und e with
   | some (.int .u8)=>zMd e x
   | _=>none
  | _=>none
 | _=>none
def YI (x:AV)(lo hi:Option AV):Option AV:=match yZ lo,yZ hi with
 | some lo,some hi=>match x with | .str len bits=>zJ1 len bits lo hi | _=>none
 | _,_=>none
def wR (sz:Nat)(x:AV)(lo hi a:Option AV)(H:AH):Option AV:=match yZ lo,yZ hi,yZ a with
 | some lo,some hi,some a=>match x with
  | .nilSlice=>bif (lo.getD 0).beq 0&&(hi.getD 0).beq 0&&(a.getD 0).beq 0&&(a.isNone||hi.isSome)then some .nilSlice else none
  | .slice A off len cc=>match H.h.get A with
   | some (.cells l _ sz' g)=>bif Nat.blt 0 sz then YQ A off len cc sz (yN l g sz' off cc sz) lo hi a else none
   | _=>none
  | .emptySl=>match a with
   | none=>bif (lo.getD 0).beq 0&&(hi.getD 0).beq 0 then some .emptySl else none
   | some _=>none
  | _=>none
 | _,_,_=>none
def jY (n sz:Nat)(x:AV)(lo hi a:Option AV):Option AV:=match yZ lo,yZ hi,yZ a with
 | some lo,some hi,some a=>match x with
  | .ptr A off=>bif Nat.blt 0 sz then YQ A off n (2*n) sz n lo hi a else none
  | _=>none
 | _,_,_=>none
def zDb (X:Cx)(t:TypeId)(x:AV)(lo hi a:Option AV)(H:AH):Option AV:=
 match X.und t with
 | some .string=>match a with | none=>YI x lo hi | some _=>none
 | some (.slice e)=>match X.size e with | some sz=>wR sz x lo hi a H | none=>none
 | some (.array n e)=>match X.size e with | some sz=>jY n sz x lo hi a | none=>none
 | some (.pointer arr)=>match X.und arr with
  | some (.array n e)=>match X.size e with | some sz=>jY n sz x lo hi a | none=>none
  | _=>none
 | _=>none
def uI (n sz:Nat)(x a:AV):Option AV:=match QB a with
 | some i=>match x with
  | .ptr A off=>bif Nat.blt i n then fN (off+i*sz) fun o=>some (.ptr A o)else none
  | _=>none
 | none=>none
def hU (sz:Nat)(x a:AV):Option AV:=match QB a with
 | some i=>match x with
  | .slice A off len _=>bif Nat.blt i len then fN (off+i*sz) fun o=>some (.ptr A o)else none
  | _=>none
 | none=>none
def zC3 (X:Cx)(t:TypeId)(x a:AV):Option AV:=
 match X.und t with
 | some (.array n e)=>match X.size e with | some sz=>uI n sz x a | none=>none
 | some (.slice e)=>match X.size e with | some sz=>hU sz x a | none=>none
 | _=>none
def uW (x a:AV):Option AV:=match QB a with
 | some i=>match x with
  | .str len bits=>bif Nat.blt i len then fN ((bits / 2 ^ (8*i)) % 256) fun b=>some (.int .u8 (.ofNat b))else none
  | _=>none
 | none=>none
def zBa (n sz:Nat)(x a:AV):Option AV:=match QB a with
 | some i=>match x with
  | .agg cs=>bif Nat.blt i n then nth cs (i*sz)else none
  | _=>none
 | none=>none
def zEY (n sz:Nat)(x a:AV):Option AV:=match QB a with
 | some i=>match x with
  | .agg cs=>bif Nat.blt i n then match xX cs (i*sz) sz with | some c=>some (.agg c) | none=>none else none
  | _=>none
 | none=>none
def zFN (X:Cx)(t:TypeId)(x a:AV):Option AV:=
 match X.und t with
 | some .string=>uW x a
 | some (.array n e)=>match X.und e,X.size e with
  | some d,some sz=>bif bI d then zEY n sz x a else zBa n sz x a
  | _,_=>none
 | _=>none
def fd1 (off:Nat)(x:AV):Option AV:=match x with | .agg cs=>nth cs off | _=>none
def fdN (off n:Nat)(x:AV):Option AV:=match x with | .agg cs=>(match xX cs off n with | some c=>some (.agg c) | none=>none) | _=>none
def zFP (X:Cx)(t:TypeId)(x:AV)(f:Nat):Option AV:=
 match X.und t with
 | some (.struct fs)=>match zN9 fs.toList f with
  | some fl=>match X.und fl.type,X.size fl.type with
   | some d,some n=>bif bI d then fdN fl.offset n x else fd1 fl.offset x
   | _,_=>none
  | none=>none
 | _=>none
def fAd (off:Nat)(x:AV):Option AV:=match x with | .ptr A o=>fN (o+off) fun o=>some (.ptr A o) | _=>none
def ZW (X:Cx)(s:TypeId)(x:AV)(f:Nat):Option AV:=
 match X.und s with
 | some (.struct fs)=>match zN9 fs.toList f with
  | some fl=>match X.size fl.type with
   | some 0=>none
   | some _=>fAd fl.offset x
   | none=>none
  | none=>none
 | _=>none
def cP (x:AV):Option AV:=match x with | .str l _=>some (.int .i64 (.ofNat l)) | _=>none
def lnSl (x:AV):Option AV:=match x with
 | .nilSlice=>some (.int .i64 (.ofNat 0))
 | .slice _ _ n _=>some (.int .i64 (.ofNat n))
 | .emptySl=>some (.int .i64 (.ofNat 0))
 | _=>none
def aZ (x:AV)(H:AH):Option AV:=match x with
 | .nilMap=>some (.int .i64 (.ofNat 0))
 | .map A=>match H.h.get A with
  | some (.map _ es)=>fN es.length fun n=>some (.int .i64 (.ofNat n))
  | _=>none
 | _=>none
def tLen (X:Cx)(t:TypeId)(x:AV)(H:AH):Option AV:=
 match X.und t with
 | some .string=>cP x
 | some (.slice _)=>lnSl x
 | some (.array n _)=>some (.int .i64 (.ofNat n))
 | some (.map _ _)=>aZ x H
 | _=>none
def apP (e sz bytes:Nat)(s x:AV)(H:AH):Option (AV×AH):=
 match srcOf sz x H with
 | some (n,new)=>bif qW new then app1 e sz bytes n new s H else none
 | none=>none
def apZ (e sz bytes:Nat)(z:List AV)(s x:AV)(H:AH):Option (AV×AH):=match x with
 | .int .i64 (.ofNat n)=>bif Nat.ble (n*bytes) 281474976710656&&Nat.blt n 4611686018427387904 then app1 e sz bytes n (rep n z) s H else none
 | _=>none
def tApp (X:Cx)(t u:TypeId)(s x:AV)(H:AH):Option (AV×AH):=
 match X.und t with
 | some (.slice e)=>match X.ty.get e with
  | some ti=>match X.und u with
   | some (.slice _)=>bif J9 ti.size ti.zero then apP e ti.size ti.bytes s x H else none
   | some .string=>bif J9 ti.size ti.zero then apP e ti.size ti.bytes s x H else none
   | some (.int _)=>match dD X e with
    | some z=>bif J9 ti.size ti.zero&&qW (y6 z)then apZ e ti.size ti.bytes (y6 z) s x H else none
    | none=>none
   | _=>none
  | none=>none
 | _=>none
def cpy (sz:Nat)(dst a:AV)(H:AH):Option (AV×AH):=
 match dst with
 | .nilSlice=>match a with
  | .nilSlice=>some (.int .i64 (.ofNat 0),H)
  | .slice _ _ _ _=>some (.int .i64 (.ofNat 0),H)
  | .str _ _=>some (.int .i64 (.ofNat 0),H)
  | _=>none
 | .slice A off len _=>match srcOf sz a H with
  | some (n,new)=>
   match takeN (Nat.min n len*sz) new with
   | some new=>bif qW new then
     match H.h.get A with
     | some (.cells l e' sz' g)=>match(bif Nat.blt 0 sz' then setAt l off new else none)with
      | some l'=>match uT H A (.cells l' e' sz' g)with
       | some H'=>fN (Nat.min n len) fun m=>some (.int .i64 (.ofNat m),H')
       | none=>none
      | none=>none
     | _=>none
    else none
   | none=>none
  | none=>none
 | _=>none
def zMw (X:Cx)(t:TypeId)(dst a:AV)(H:AH):Option (AV×AH):=
 match X.und t with
 | some (.slice e)=>match X.size e with | some sz=>cpy sz dst a H | none=>none
 | _=>none
def wY (f:List (Nat×Nat))(z:List AV)(a:List (Nat×AV)):Option AV:=
 match uJ (zK7 f) z a with | some c=>some (.agg c) | none=>none
def zKZ (sz:Nat)(z:List AV)(a:List (Nat×AV)):Option AV:=
 match uJ (fun i=>some (i*sz,sz)) z a with | some c=>some (.agg c) | none=>none
def zFV (X:Cx)(t:TypeId)(a:Option (List (Nat×AV))):Option AV:=
 match dD X t with
 | some z=>match a with
  | some parts=>match X.und t with
   | some (.struct fs)=>match Q5 X fs.toList with
    | some pl=>wY pl (y6 z) parts
    | none=>none
   | some (.array _ e)=>match X.size e with
    | some sz=>zKZ sz (y6 z) parts
    | none=>none
   | _=>none
  | none=>none
 | none=>none
def pk3 (c a b:Option AV):Option AV:=match c with
 | some (.bool true)=>a
 | some (.bool false)=>b
 | _=>none
def s2a (n:Nat)(x:AV):Option AV:=match x with
 | .slice A off len _=>bif Nat.ble n len then some (.ptr A off)else none
 | _=>none
def tArr (X:Cx)(arr:TypeId)(x:AV):Option AV:=match X.und arr with | some (.array n _)=>s2a n x | _=>none
def bxV (e:TypeId)(x:AV):Option (AObj×(Nat->AV)):=some (.cells (y6 x) e 1 false,fun A=> .ptr A 0)
def d7 (e sz len:Nat)(z:List AV)(a:List (Nat×AV)):Option (AObj×(Nat->AV)):=
 match uJ (fun i=>some (i*sz,sz)) (rep len z) a with
 | some c=>some (.cells c e sz false,fun A=> .slice A 0 len (2*len))
 | none=>none
def zC4 (X:Cx)(t:TypeId)(len:Nat)(a:Option (List (Nat×AV))):Option (AObj×(Nat->AV)):=
 match X.und t with
 | some (.slice e)=>match a with
  | some parts=>match X.size e with
   | some sz=>match dD X e with
    | some z=>bif Nat.ble (len*sz) 16777216&&Nat.blt 0 sz&&Nat.beq (dO (y6 z) 0) sz then d7 e sz len (y6 z) parts else none
    | none=>none
   | none=>none
  | none=>none
 | _=>none
def zH1 (e sz bytes:Nat)(z:List AV)(l c:AV):Option (AObj×(Nat->AV)):=match l with
 | .int .i64 (.ofNat n)=>match c with
  | .int .i64 (.ofNat m)=>bif Nat.ble n m&&Nat.ble (m*bytes) 140737488355328&&Nat.blt m 9223372036854775808 then
    some (.cells (rep m z) e sz false,fun A=> .slice A 0 n (2*m))else none
  | _=>none
 | _=>none
def zMv (X:Cx)(t:TypeId)(l c:AV):Option (AObj×(Nat->AV)):=
 match X.und t with
 | some (.slice e)=>match X.ty.get e with
  | some ti=>match dD X e with
   | some z=>bif Nat.blt 0 ti.size&&Nat.beq (dO (y6 z) 0) ti.size then zH1 e ti.size ti.bytes (y6 z) l c else none
   | none=>none
  | none=>none
 | _=>none
def tLk (X:Cx)(t:TypeId)(ok:Bool)(x k:AV)(H:AH):Option AV:=match X.und t with
 | some (.map kt et)=>match kOf X kt,dD X et with
  | some ks,some z=>lkM ks z ok x k H
  | _,_=>none
 | _=>none
def tUp (X:Cx)(t:TypeId)(x k v:AV)(H:AH):Option (AV×AH):=match X.und t with
 | some (.map kt _)=>match kOf X kt with
  | some ks=>upM ks x k v H
  | none=>none
 | _=>none
def tDl (X:Cx)(t:TypeId)(x k:AV)(H:AH):Option (AV×AH):=match X.und t with
 | some (.map kt _)=>match kOf X kt with
  | some ks=>dlM ks x k H
  | none=>none
 | _=>none
def mkM (ks:List Nat):Option (AObj×(Nat->AV)):=some (.map ks [],fun A=> .map A)
def tMkM (X:Cx)(t:TypeId):Option (AObj×(Nat->AV)):=match X.und t with
 | some (.map kt _)=>match kOf X kt with
  | some ks=>mkM ks
  | none=>none
 | _=>none
def q3 {α:Type}(x y z:Option AV)(f:AV->AV->AV->Option α):Option α:=match x with
 | some a=>match y with
  | some b=>match z with | some c=>f a b c | none=>none
  | none=>none
 | none=>none
def q1 {α:Type}(x:Option AV)(f:AV->Option α):Option α:=match x with | some a=>f a | none=>none
def q2 {α:Type}(x y:Option AV)(f:AV->AV->Option α):Option α:=match x with
 | some a=>match y with | some b=>f a b | none=>none
 | none=>none
structure Dyn where
 fn:FuncId->List AV->AH->Option (AV×AH)
 yld:Nat->List AV->AH->Option (AV×AH)
structure Tb where
 X:Cx
 S:List (Nat×(List AV->AH->Option (AV×AH)))
def zBJ (S:List (Nat×(List AV->AH->Option (AV×AH))))(D:Dyn)(g:FuncId)(az:List AV)(H:AH):Option (AV×AH):=match S with
 | []=>D.fn g az H
 | (i,m)::S=>bif Nat.beq i g then m az H else zBJ S D g az H
def callV (S:List (Nat×(List AV->AH->Option (AV×AH))))(D:Dyn)(f:AV)(az:List AV)(H:AH):Option (AV×AH):=match f with
 | .func g first cap=>zBJ S D g (first++az++cap) H
 | .yieldTo A=>D.yld A az H
 | _=>none
def callO (B:Tb)(D:Dyn)(env:Env)(H:AH)(f:Operand)(args:List Operand):Option (AV×AH):=
 match zBZ env args with
 | some az=>match f with
  | .func g=>zBJ B.S D g az H
  | .tmp t=>match look env t with | some v=>callV B.S D v az H | none=>none
  | _=>none
 | none=>none
def opK (B:Tb)(D:Dyn)(env:Env)(H:AH)(K:AV->AH->Rs):Op->Rs
 | .move x=>match opd env x with | some v=>K v H | none=>none
 | .assign x=>match opd env x with | some v=>K v H | none=>none
 | .pick c a b=>bV (pk3 (opd env c) (opd env a) (opd env b)) fun v=>K v H
 | .build t ps=>bV (zFV B.X t (xK env ps.toList)) fun v=>K v H
 | .nilCheck x=>bV (q1 (opd env x) xR) fun v=>K v H
 | .binOp op t x y _=>bif zGK B.X t x y then bV (q2 (opd env x) (opd env y) (zJv B.X op t · · H)) fun v=>K v H
  else bV (q2 (opd env x) (opd env y) (zOn B.X op t)) fun v=>K v H
 | .unOp op _ x=>bV (q1 (opd env x) (aun op)) fun v=>K v H
 | .makeFunc (.func f) first cap=>match zBZ env first.toList with
  | some a=>match zBZ env cap.toList with
   | some b=>K (.func f a b) H
   | none=>none
  | none=>none
 | .fieldAddr s x f=>bV (q1 (opd env x) (ZW B.X s · f)) fun v=>K v H
 | .field t x f=>bV (q1 (opd env x) (zFP B.X t · f)) fun v=>K v H
 | .indexAddr t x i=>bV (q2 (opd env x) (opd env i) (zC3 B.X t)) fun v=>K v H
 | .index t x i=>bV (q2 (opd env x) (opd env i) (zFN B.X t)) fun v=>K v H
 | .sliceToArrayPointer arr x=>bV (q1 (opd env x) (tArr B.X arr)) fun v=>K v H
 | .extract x i=>bV (q1 (opd env x) (qV · i)) fun v=>K v H
 | .load t a=>bV (q1 (opd env a) (zFK B.X t · H)) fun v=>K v H
 | .slice t x lo hi mx=>match bQ env lo,bQ env hi,bQ env mx with
  | some lo,some hi,some mx=>bV (q1 (opd env x) (zDb B.X t · lo hi mx H)) fun v=>K v H
  | _,_,_=>none
 | .convert s d x=>match zID B.X s d with
  | .P=>bV (q1 (opd env x) (zFR B.X s d)) fun v=>K v H
  | .L=>bV (q1 (opd env x) (zDc B.X s d · H)) fun v=>K v H
  | .A=>bA (q1 (opd env x) (zFT B.X s d)) H K
  | _=>none
 | .alloc e=>match dD B.X e with | some z=>bA (bxV e z) H K | none=>none
 | .box e x=>bA (q1 (opd env x) (bxV e)) H K
 | .buildSlice t len ps=>bA (zC4 B.X t len (xK env ps.toList)) H K
 | .makeSlice t l c=>bA (q2 (opd env l) (opd env c) (zMv B.X t)) H K
 | .lookup t x k ok=>bV (q2 (opd env x) (opd env k) (tLk B.X t ok · · H)) fun v=>K v H
 | .makeMap t none=>bA (tMkM B.X t) H K
 | .mapUpdate t m k v=>bR (q3 (opd env m) (opd env k) (opd env v) (tUp B.X t · · · H)) K
 | .store t a x=>bR (q2 (opd env a) (opd env x) (zFJ B.X t · · H)) K
 | .call c=>match c.callee with
  | .value f=>bR (callO B D env H f c.args.toList) K
  | .builtin .len=>match c.args.toList,c.argTypes.toList with
   | [x],t::_=>bV (q1 (opd env x) (tLen B.X t · H)) fun v=>K v H
   | _,_=>none
  | .builtin .cap=>match c.args.toList,c.argTypes.toList with
   | [x],t::_=>bV (q1 (opd env x) (zOb B.X t)) fun v=>K v H
   | _,_=>none
  | .builtin .append=>match c.args.toList,c.argTypes.toList with
   | [s,x],[t,u]=>bR (q2 (opd env s) (opd env x) (tApp B.X t u · · H)) K
   | _,_=>none
  | .builtin .copy=>match c.args.toList,c.argTypes.toList with
   | [s,x],t::_=>bR (q2 (opd env s) (opd env x) (zMw B.X t · · H)) K
   | _,_=>none
  | .builtin .min=>match c.args.toList with
   | [x,y]=>bV (q2 (opd env x) (opd env y) mn2) fun v=>K v H
   | _=>none
  | .builtin .max=>match c.args.toList with
   | [x,y]=>bV (q2 (opd env x) (opd env y) mx2) fun v=>K v H
   | _=>none
  | .builtin .delete=>match c.args.toList,c.argTypes.toList with
   | [m,k],t::_=>bR (q2 (opd env m) (opd env k) (tDl B.X t · · H)) K
   | _,_=>none
  | .builtin .clear=>match c.args.toList,c.argTypes.toList with
   | [m],t::_=>bR (q1 (opd env m) (acl B.X t · H)) K
   | _,_=>none
  | _=>none
 | _=>none
def pck (L:List Nat)(env:Env)(K:List AV->Rs):Rs:=match L with
 | []=>K []
 | l::L=>match env l with
  | some v=>pck L env fun vs=>K (v::vs)
  | none=>none
def unp (L:List Nat)(vs:List AV)(env:Env)(K:Env->Rs):Rs:=match L with
 | []=>K env
 | l::L=>hd vs fun v vs=>unp L vs (upd env l v) K
def nl (vs:List AV)(K:Rs):Rs:=match vs with | []=>K | _::_=>none
def zOm (k i:Nat)(vs:List AV)(env:Env)(K:Env->Rs):Rs:=match k with
 | 0=>nl vs (K env)
 | k+1=>hd vs fun v vs=>zOm k (i+1) vs (upd env i v) K
def BV (L:List Nat)(env:Env):Env:=match L with
 | []=>env
 | l::L=>fun t=>bif Nat.beq t l then none else BV L env t
def setE (nt:Nat)(env:Env)(d:Option Tmp)(v:AV)(K:Env->Rs):Rs:=match d with
 | some d=>bif Nat.blt d nt then K (upd env d v)else none
 | none=>K env
def isL (X:Cx)(o:Op):Bool:=match cls X o with | .L=>true | _=>false
def kU (X:Cx)(o:Op):Bool:=match o with
 | .load _ _=>true
 | .lookup _ _ _ _=>true
 | .slice t _ _ _ _=>match X.und t with | some (.slice _)=>true | _=>false
 | .convert _ _ _=>isL X o
 | .binOp _ t x y _=>zGK X t x y
 | .call c=>match c.callee with
  | .builtin .len=>match c.argTypes.toList with
   | t::_=>match X.und t with | some (.map _ _)=>true | _=>false
   | _=>false
  | _=>false
 | _=>false
def tbit (m i:Nat):Bool:=Nat.rec (motive:=fun _=>Nat->Bool) (fun m=>Nat.beq (Nat.mod m 2) 1) (fun _ a m=>a (Nat.div m 2)) i m
theorem zFF (m i:Nat):tbit m i=m.testBit i:=by
 induction i generalizing m with
 | zero=>
  rw[Nat.testBit_zero];show Nat.beq (m % 2) 1=_;rw[Bool.eq_iff_iff,Nat.beq_eq,zJ]
 | succ i ih=>rw[Nat.testBit_succ,<-ih];rfl
def zMP:Option (Nat×Bool)->Option (Nat×Bool)->Bool
 | some (i,a),some (j,b)=>Nat.beq i j&&(a==b)
 | _,_=>false
def zAw (g:Option (Nat×Bool)):List (Nat×Oper)->List (Nat×Oper)×List (Nat×Oper)
 | []=>([],[])
 | o::l=>bif zMP g o.2.guard then(match zAw g l with | (a,b)=>(o::a,b))else([],o::l)
def slotsOf (ops:Array Oper)(l:List (Nat×Oper)):List Nat:=l.flatMap fun a=>gU ops a.2
def Q7 (ops:Array Oper)(run rest:List (Nat×Oper)):List Nat:=
 let s:=slotsOf ops rest
 run.filterMap fun a=>match a.2.dst with
  | some d=>bif s.contains d then some d else none
  | none=>none
def dstsOf (run:List (Nat×Oper)):List Nat:=run.filterMap fun a=>a.2.dst
def zMR (X:Cx)(masks:Option (List Nat))(run rest:List (Nat×Oper)):Bool:=match masks with
 | none=>true
 | some ms=>run.all fun a=> !kU X a.2.op||rest.all fun b=> !jQ (cls X b.2.op)||tbit (ms.getD b.1 0) a.1
def zHm (ops:Array Oper)(env:Env)(j:Nat):Option AV:=match zFn ops.toList j with
 | some p=>match p.dst with
  | some d=>look env d
  | none=>none
 | none=>none
structure Seen where
 i:Nat
 rd:AH->Option AV
 v:AV
def zP6 (B:Tb)(env:Env)(o:Op)(H:AH):Option AV:=match o with
 | .load t a=>q1 (opd env a) (zFK B.X t · H)
 | .lookup t x k ok=>q2 (opd env x) (opd env k) (tLk B.X t ok · · H)
 | .slice t x lo hi mx=>match bQ env lo,bQ env hi,bQ env mx with
  | some lo,some hi,some mx=>q1 (opd env x) (zDb B.X t · lo hi mx H)
  | _,_,_=>none
 | .convert s d x=>q1 (opd env x) (zDc B.X s d · H)
 | .binOp op t x y _=>q2 (opd env x) (opd env y) (zJv B.X op t · · H)
 | .call c=>match c.args.toList,c.argTypes.toList with
  | [x],t::_=>q1 (opd env x) (tLen B.X t · H)
  | _,_=>none
 | _=>none
def zOF (a:Nat)(H:AH)(K:Rs):List Seen->Rs
 | []=>K
 | s::l=>bif tbit a s.i then zOF a H K l else chk (s.rd H) s.v (zOF a H K l)
def zMN (B:Tb)(masks:List Nat)(env:Env)(sn:List Seen)(i:Nat)(o:Op)(v:AV)(H':AH)(K:List Seen->Rs):Rs:=
 bif jQ (cls B.X o)then zOF (masks.getD i 0) H' (K sn) sn
 else bif kU B.X o then K (sn++[⟨i,zP6 B env o,v⟩])else K sn
def zJg (B:Tb)(D:Dyn)(nt:Nat)(masks:Option (List Nat))(K:List Seen->Env->AH->Rs):List (Nat×Oper)->List Seen->Env->AH->Rs
 | [],sn,env,H=>K sn env H
 | (i,o)::rest,sn,env,H=>opK B D env H (fun v H'=>match masks with
   | none=>setE nt env o.dst v fun env'=>zJg B D nt masks K rest sn env' H'
   | some ms=>zMN B ms env sn i o.op v H' fun sn=>setE nt env o.dst v fun env'=>zJg B D nt masks K rest sn env' H') o.op
def zNz (nt:Nat)(ops:Array Oper)(j:Nat)(run:List (Nat×Oper)):Bool:=match zFn ops.toList j with
 | some p=>match p.dst with
  | some d=> !(dstsOf run).contains d&&(dstsOf run).all fun d=>Nat.blt d nt
  | none=>false
 | none=>false
def zAy (X:Cx)(masks:Option (List Nat))(sn:List Seen)(H:AH)(K:Rs):List (Nat×Oper)->Rs
 | []=>K
 | b::run=>match masks with
  | none=>zAy X masks sn H K run
  | some ms=>bif jQ (cls X b.2.op)then zOF (ms.getD b.1 0) H (zAy X masks sn H K run) sn else zAy X masks sn H K run
def runK (B:Tb)(D:Dyn)(nt:Nat)(ops:Array Oper)(masks:Option (List Nat))(g:AV)(a:Bool)(run:List (Nat×Oper))(out:List Nat)(sn:List Seen)(env:Env)(H:AH)(K:Env->AH->Rs):Rs:=
 jn (wnt g a (zJg B D nt masks (fun _ env H=>pck out env fun vs=>some (.norm vs,H)) run sn env H)
   (zAy B.X masks sn H (some (.norm (out.map fun _=>qX),H)) run))
  fun vs H=>unp out vs (BV (dstsOf run) env) fun env=>K env H
def runW (B:Tb)(D:Dyn)(nt:Nat)(masks:Option (List Nat))(g:AV)(a:Bool)(run:List (Nat×Oper))(out:List Nat)(sn:List Seen)(env:Env)(H:AH)(K:List Seen->Env->AH->Rs):Rs:=
 wnt g a (zJg B D nt masks K run sn env H)
  (zAy B.X masks sn H (unp out (out.map fun _=>qX) (BV (dstsOf run) env) fun env=>K sn env H) run)
def zDu (B:Tb)(D:Dyn)(nt:Nat)(ops:Array Oper)(masks:Option (List Nat))(f:Nat)(K:Env->AH->Rs):List (Nat×Oper)->List Seen->Env->AH->Rs:=
 Nat.rec (motive:=fun _=>List (Nat×Oper)->List Seen->Env->AH->Rs) (fun _ _ _ _=>none)
  (fun _ a l sn env H=>match l with
   | []=>K env H
   | (i,o)::rest=>match o.guard with
    | none=>zJg B D nt masks (fun sn env H=>a rest sn env H) [(i,o)] sn env H
    | some (j,want)=>match zHm ops env j with
     | none=>none
     | some g=>match zAw o.guard rest with
      | (run,rest)=>bif zNz nt ops j ((i,o)::run)then
        bif zMR B.X masks ((i,o)::run) rest then
         runK B D nt ops masks g want ((i,o)::run) (Q7 ops ((i,o)::run) rest) sn env H fun env H=>a rest sn env H
        else runW B D nt masks g want ((i,o)::run) (Q7 ops ((i,o)::run) rest) sn env H fun sn env H=>a rest sn env H
       else none) f
def idx (l:List Oper):Nat->List (Nat×Oper):=match l with
 | []=>fun _=>[]
 | o::l=>fun n=>(n,o)::idx l (n+1)
def zOt (B:Tb)(D:Dyn)(nt:Nat)(ops:Array Oper)(a:Bool)(K:Env->AH->Rs)(env:Env)(H:AH):Rs:=
 bif a then
  match plan B.X ops with
  | some (row,masks)=>zDu B D nt ops (some masks) (Nat.succ row.length) K row [] env H
  | none=>none
 else zDu B D nt ops none (Nat.succ ops.size) K (idx ops.toList 0) [] env H
inductive Hint where
 | o
 | s (a b:Hint)
 | c (L:List Nat) (a b:Hint)
 | cl (a b:Hint)
 | cr (a b:Hint)
 | b (L:List Nat) (a:Hint)
 | b0 (a:Hint)
 | l (L:List Nat) (a:Hint)
 | rf (s:Nat) (L:List Nat)
 | t (L:List Nat) (m:List AV->AH->Option AH)
def xC (a:List (Nat×List Nat))(id:Nat):Option (List Nat):=match a with
 | []=>none
 | (i,L)::r=>bif Nat.beq i id then some L else xC r id
def zFa (a:List (Nat×List Nat))(id:Nat):List (Nat×List Nat):=a.filter fun x=> !Nat.beq x.1 id
def resE (X:Cx)(env:Env)(H:AH):ResultVar->Option AV
 | .tmp t=>env t
 | .cell a t=>q1 (env a) (zFK X t · H)
def zOs (X:Cx)(rs:List ResultVar)(env:Env)(H:AH)(K:List AV->Rs):Rs:=match rs with
 | []=>K []
 | r::rs=>bV (resE X env H r) fun v=>zOs X rs env H fun vs=>K (v::vs)
def tupV:List AV->AV
 | [v]=>v
 | vs=> .tuple vs
def zJK (X:Cx)(rs:List ResultVar)(env:Env)(H:AH):Rs:=zOs X rs env H fun vs=>some (.ret (tupV vs),H)
def rfC (S:List (Nat×(List AV->AH->Option (AV×AH))))(D:Dyn)(f:AV)(A:Nat)(H:AH):Option (AV×AH):=match f with
 | .func g first cap=>zBJ S D g (first++[.yieldTo A]++cap) H
 | _=>none
def xN (A:Nat)(H:AH)(K:AH->Rs):Rs:=match H.h.get A with
 | some (.loop l)=>match l.state with
  | .ready=>match uT H A (.loop { l with state:= .busy})with
   | some H'=>K H'
   | none=>none
  | _=>none
 | _=>none
def YB (A:Nat)(a:Option Code)(H:AH):Option (AV×AH):=match H.h.get A with
 | some (.loop l)=>match a with
  | none=>match uT H A (.loop { l with state:= .ready,pending:=none})with
   | some H'=>some (.bool true,H')
   | none=>none
  | some j=>match uT H A (.loop { l with state:= .done,pending:=some j})with
   | some H'=>some (.bool false,H')
   | none=>none
 | _=>none
def zMa (A:Nat)(x:Rs):Option (AV×AH):=match x with
 | some (.norm _,H)=>YB A none H
 | some (.exit id _,H)=>YB A (some (.exit id)) H
 | some (.ret _,H)=>YB A (some .ret) H
 | none=>none
def uO (A:Nat)(H:AH)(K:Option Code->AH->Rs):Rs:=match H.h.get A with
 | some (.loop l)=>match l.state with
  | .busy=>none
  | _=>match uT H A .dead with
   | some H'=>K l.pending H'
   | none=>none
 | _=>none
def zDJ (j:Option Code)(a:Rs)(f:Nat->Rs)(h:Rs):Rs:=match j with
 | none=>a
 | some (.exit id)=>f id
 | some .ret=>h
 | _=>none
def exS (a:List (Nat×List Nat))(env:Env)(H:AH)(id:Nat):Rs:=match a with
 | []=>none
 | (i,L)::r=>bif Nat.beq i id then(pck L env fun vs=>some (.exit id vs,H))else exS r env H id
def zJs (nt:Nat)(f:List Nat)(az:List AV)(env:Env)(K:Env->Rs):Rs:=match f with
 | []=>nl az (K env)
 | p::f=>hd az fun a az=>bif Nat.blt p nt then zJs nt f az (upd env p a) K else none
def tld (x:Option AH)(N:Nat)(K:AH->Rs):Rs:=match x with
 | some H=>bif Nat.ble N H.next then K H else none
 | none=>none
def yJ (B:Tb)(D:Dyn)(n nt:Nat)(rs:List ResultVar)(f0:FuncId)(ro:Bool):Code->Hint->List (Nat×List Nat)->(Env->AH->Rs)->Env->AH->Rs
 | .skip,_,_,K,env,H=>K env H
 | .label _,_,_,K,env,H=>K env H
 | .region _ ops draw,_,_,K,env,H=>zOt B D nt ops draw K env H
 | .seq a b, .s ha hb,Bk,K,env,H=>yJ B D n nt rs f0 ro a ha Bk (yJ B D n nt rs f0 ro b hb Bk K) env H
 | .seq _ _, .t L m,_,K,env,H=>pck L env fun vs=>tld (m vs H) H.next fun H=>unp L vs xM fun env=>K env H
 | .cond c a b, .c L ha hb,Bk,K,env,H=>match opd env c with
  | some v=>jn (cnd v (yJ B D n nt rs f0 ro a ha Bk (fun env H=>pck L env fun vs=>some (.norm vs,H)) env H)
    (yJ B D n nt rs f0 ro b hb Bk (fun env H=>pck L env fun vs=>some (.norm vs,H)) env H)) fun vs H=>unp L vs xM fun env=>K env H
  | none=>none
 | .cond c a b, .cl ha hb,Bk,K,env,H=>match opd env c with
  | some v=>cnd v (yJ B D n nt rs f0 ro a ha Bk (fun _ _=>none) env H) (yJ B D n nt rs f0 ro b hb Bk K env H)
  | none=>none
 | .cond c a b, .cr ha hb,Bk,K,env,H=>match opd env c with
  | some v=>cnd v (yJ B D n nt rs f0 ro a ha Bk K env H) (yJ B D n nt rs f0 ro b hb Bk (fun _ _=>none) env H)
  | none=>none
 | .block id b, .b L hb,Bk,K,env,H=>
  jb id (yJ B D n nt rs f0 ro b hb ((id,L)::Bk) (fun env H=>pck L env fun vs=>some (.norm vs,H)) env H) fun vs H=>unp L vs xM fun env=>K env H
 | .block id b, .b0 hb,Bk,K,env,H=>yJ B D n nt rs f0 ro b hb (zFa Bk id) K env H
 | .loop b, .l L hb,Bk,_,env,H=>pck L env fun vs=>
  yF n (fun vs H=>unp L vs xM fun env=>yJ B D n nt rs f0 ro b hb Bk (fun env H=>pck L env fun vs=>some (.norm vs,H)) env H) vs H
 | .exit id,_,Bk,_,env,H=>match xC Bk id with
  | some L=>pck L env fun vs=>some (.exit id vs,H)
  | none=>none
 | .ret,_,_,_,env,H=>zJK B.X rs env H
 | .rangeFunc f _ _ _, .rf s L,Bk,K,env,H=>bif ro then none else match opd env f with
  | some fv=>pck L env fun vs=>XA H (.loop ⟨.ready,none,f0,s,L,vs⟩) fun A H=>bR (rfC B.S D fv A H) fun _ H=>
    uO A H fun j H=>zDJ j (K env H) (exS Bk env H) (zJK B.X rs env H)
  | none=>none
 | _,_,_,_,_,_=>none
def gP (x:Rs):Option (AV×AH):=match x with | some (.ret v,H)=>some (v,H) | _=>none
def rdK (B:Tb)(D:Dyn)(n:Nat)(f0:FuncId)(nt:Nat)(h:Array Tmp)(a body:Code)(L f:List Nat)(j hb:Hint)(A:Nat)(l:ALoop)(az:List AV)(H:AH):Option (AV×AH):=
 bif QI L l.live then
  zMa A (unp L l.vals xM fun env=>zJs nt h.toList az env fun env=>
   yJ B D n nt [] f0 true a j [] (fun env H=>xN A H fun H=>yJ B D n nt [] f0 true body hb (f.map fun i=>(i,[])) (fun _ H=>some (.norm [],H)) env H) env H)
 else none
def zJh (B:Tb)(D:Dyn)(n:Nat)(f0:FuncId)(s:Nat)(L a:List Nat)(f hb:Hint)(A:Nat)(l:ALoop)(az:List AV)(H:AH):Option (AV×AH):=
 match UR f0 s with
 | some (nt,ps,asg,body)=>rdK B D n f0 nt ps asg body L a f hb A l az H
 | none=>none
def Q3 (t:List ((Nat×Nat)×(Nat->ALoop->List AV->AH->Option (AV×AH))))(A:Nat)(az:List AV)(H:AH):Option (AV×AH):=
 match H.h.get A with
 | some (.loop l)=>go l t
 | _=>none
where go (l:ALoop):List ((Nat×Nat)×(Nat->ALoop->List AV->AH->Option (AV×AH)))->Option (AV×AH)
 | []=>none
 | ((f,s),m)::t=>bif Nat.beq f l.fn&&Nat.beq s l.site then m A l az H else go l t
def zOy (B:Tb)(D:Dyn)(n:Nat)(f0:FuncId)(a:Func)(h:Hint)(az:List AV)(H:AH):Option (AV×AH):=
 match a.body with
 | some body=>bif Nat.ble (a.params.size+a.nfree) a.ntmps then gP (zOm (a.params.size+a.nfree) 0 az xM fun env=>yJ B D n a.ntmps a.results.toList f0 false body h [] (fun env H=>zJK B.X a.results.toList env H) env H)else none
 | none=>none
end Go.Eng
end
end
section
namespace Go.Eng
theorem jB {x:Option AV}{K:AV->Rs}{out:Ex×AH}(h:bV x K=some out): ∃v,x=some v/\K v=some out:=by
 cases x with
 | none=>exact absurd h (by simp[bV])
 | some v=>exact⟨_,rfl,h⟩
theorem bB {x:Option (AV×AH)}{K:AV->AH->Rs}{out:Ex×AH}(h:bR x K=some out): ∃v H,x=some (v,H)/\K v H=some out:=by
 cases x with
 | none=>exact absurd h (by simp[bR])
 | some p=>obtain⟨v,H⟩:=p;exact⟨_,_,rfl,h⟩
theorem QR {x:Option (AObj×(Nat->AV))}{H:AH}{K:AV->AH->Rs}{out:Ex×AH}(h:bA x H K=some out): ∃v H',wA H x=some (v,H')/\K v H'=some out:=by
 unfold bA at h;split at h
 .rename_i o i;unfold XA at h;split at h
  .rename_i a;split at h
   .rename_i t f;rw[yG]at h;refine⟨_,_, ?_,h⟩;simp only[wA,newA,a,zK8,f]
   .simp at h
  .simp at h
 .simp at h
theorem jN {α:Type}{x:Option AV}{f:AV->Option α}{r:α}(h:q1 x f=some r): ∃a,x=some a/\f a=some r:=by
 unfold q1 at h;split at h
 .exact⟨_,rfl,h⟩
 .simp at h
theorem wG {α:Type}{x y:Option AV}{f:AV->AV->Option α}{r:α}(h:q2 x y f=some r): ∃a b,x=some a/\y=some b/\f a b=some r:=by
 unfold q2 at h;split at h
 .split at h
  .exact⟨_,_,rfl,rfl,h⟩
  .simp at h
 .simp at h
section
variable {X:Cx}
theorem fS {a:BinOp}{q:Option Bool}{r:AV}(h:bW a q=some r): ∃b,q=some b/\((a= .eql/\mkB b=some r)\/(a= .neq/\mkB (!b)=some r)):=by
 unfold bW at h;split at h
 .split at h
  .exact⟨_,rfl, .inl ⟨rfl,h⟩⟩
  .exact⟨_,rfl, .inr ⟨rfl,h⟩⟩
  .simp at h
 .simp at h
theorem dB {a:BinOp}{t:TypeId}{x y r:AV}{b:Bool}(h:aeq X 9 t x y=some b)(k:(a= .eql/\mkB b=some r)\/(a= .neq/\mkB (!b)=some r)):zBW X a t x y=some r:=by
 unfold zBW;rcases k with⟨rfl,k⟩ | ⟨rfl,k⟩<;>simp only[h,k]
theorem zM8 {i:BinOp}{t:TypeId}{x y r:AV}{j:List Nat}(m:zCs t X.fl=some j)(h:bW i (eqA j x y)=some r):zJ7 X i t x y=some r:=by
 obtain⟨b,hb,f⟩:=fS h;unfold eqA at hb;split at hb
 .rename_i a;split at hb
  .rename_i c;rw[cond_eq_ite]at hb;split at hb
   .rename_i o;show zJ6 X i t a c=some r;simp only[zJ6,m,o,cond_true,hb];rcases f with⟨rfl,f⟩ | ⟨rfl,f⟩
    .exact f
    .exact f
   .simp at hb
  .simp at hb
 .simp at hb
theorem zFW {p:BinOp}{t:TypeId}{x y r:AV}(h:zOn X p t x y=some r):zJ7 X p t x y=some r:=by
 unfold zOn at h;split at h
 .unfold jM at h;split at h
  .split at h
   .exact h
   .simp at h
  .simp at h
 .unfold bO at h;split at h
  .split at h
   .exact h
   .simp at h
  .simp at h
 .rename_i i;unfold YP at h;split at h
  .rename_i a;split at h
   .rename_i b;have s:aeq X 9 t (.bool a) (.bool b)=some (a==b):=by simp only[aeq,i]
    show(bif jG (.bool a)then zBW X p t (.bool a) (.bool b)else none)=some r;simp only[jG,cond_true];split at h
    .exact dB s (.inl ⟨rfl,h⟩)
    .exact dB s (.inr ⟨rfl,h⟩)
    .simp at h
   .simp at h
  .simp at h
 .rename_i e i;split at h
  .simp at h
  .rename_i n F u;obtain⟨b,hb,j⟩:=fS h;have key: ∀x y,eqP x y=some b->aeq X 9 t x y=some b/\jG x=true:=by
    intro x y hb;unfold eqP at hb;split at hb
    .split at hb<;>simp_all [aeq,i,jG]
    .split at hb
     .simp_all [aeq,i,jG]
     .simp only[aeq,i,u,jG];exact⟨hb,trivial⟩
     .simp at hb
    .simp at hb
   obtain⟨m,f⟩:=key x y hb;have o:=dB m j;unfold zJ7;split
   .simp[jG]at f
   .simp[jG]at f
   .simp[jG]at f
   .rw[f];exact o
  .simp at h
 .rename_i e i;obtain⟨b,hb,j⟩:=fS h;have key:aeq X 9 t x y=some b/\jG x=true:=by
   unfold eqS at hb;split at hb
   .split at hb<;>simp_all [aeq,i,jG]
   .split at hb<;>simp_all [aeq,i,jG]
   .simp at hb
  obtain⟨m,f⟩:=key;have o:=dB m j;unfold zJ7;split
  .simp[jG]at f
  .simp[jG]at f
  .simp[jG]at f
  .rw[f];exact o
 .rename_i v z i;obtain⟨b,hb,j⟩:=fS h;have key:aeq X 9 t x y=some b/\jG x=true:=by
   unfold eqM at hb;split at hb
   .split at hb<;>simp_all [aeq,i,jG]
   .split at hb<;>simp_all [aeq,i,jG]
   .simp at hb
  obtain⟨m,f⟩:=key;have o:=dB m j;unfold zJ7;split
  .simp[jG]at f
  .simp[jG]at f
  .simp[jG]at f
  .rw[f];exact o
 .rename_i v z J i;obtain⟨b,hb,j⟩:=fS h;have key:aeq X 9 t x y=some b/\jG x=true:=by
   unfold eqF at hb;split at hb
   .split at hb<;>simp_all [aeq,i,jG]
   .split at hb<;>simp_all [aeq,i,jG]
   .simp at hb
  obtain⟨m,f⟩:=key;have o:=dB m j;unfold zJ7;split
  .simp[jG]at f
  .simp[jG]at f
  .simp[jG]at f
  .rw[f];exact o
 .split at h
  .rename_i C q;exact zM8 q h
  .simp at h
 .split at h
  .rename_i C q;exact zM8 q h
  .simp at h
 .simp at h
theorem zDd {a:BinOp}{t:TypeId}{x y r:AV}{H:AH}(h:zJv X a t x y H=some r):zA7 X a t x y H=some r:=by
 unfold zJv at h;split at h
 .rename_i e i;split at h
  .simp at h
  .rename_i n s j;have K:n≠0:=fun v=>s (by rw[v])
   obtain⟨m,rfl⟩: ∃m,n=m+1:=⟨n - 1,by omega⟩;have z:zOn X a t x y=bW a (eqP x y):=by simp only[zOn,i,j]
   have key:zOn X a t x y=some r\/ ∃A o B p,x= .ptr A o/\y= .ptr B p/\Nat.beq A B=false/\Z4 A H=true/\Z4 B H=true/\bW a (some false)=some r:=by
    rw[z]
    cases x<;>cases y<;>simp only[zOA]at h<;>first | exact .inl h | (simp[bW]at h;done) | skip
    rename_i A o B p
    cases f:Nat.beq A B with
    | true=>left;simp only[f,cond_true,eqP]at h⊢;exact h
    | false=>
     simp only[f,cond_false]at h
     cases hl:(Z4 A H&&Z4 B H)with
     | true=>
      rw[hl]at h;simp only[cond_true]at h;rw[zC]at hl;exact .inr ⟨A,o,B,p,rfl,rfl,f,hl.1,hl.2,h⟩
     | false=>rw[hl]at h;simp[bW]at h
   rcases key with C | ⟨A,o,B,p,rfl,rfl,f,F,J,q⟩
   .unfold zA7;rw[zFW C]
   .have u:zJ7 X a t (.ptr A o) (.ptr B p)=none:=by
     show(bif jG (.ptr A o)then zBW X a t (.ptr A o) (.ptr B p)else none)=none;simp only[jG,cond_true];unfold zBW
     cases a<;>simp only[aeq,i,j,f,cond_false]
    unfold zA7;rw[u];simp only[i,j,pNe,F,J,f,Bool.not_false,Bool.and_self,cond_true]
    cases a<;>first | exact q | (simp[bW]at q;done)
  .simp at h
 .simp at h
theorem UK {t:TypeId}{p r:AV}{H:AH}(h:zFK X t p H=some r):WW X t p H=some r:=by
 unfold zFK at h;split at h
 .rename_i d hd;rw[cond_eq_ite]at h;split at h
  .rename_i a;split at h
   .rename_i n i;unfold ldN at h;split at h
    .split at h
     .rename_i f;simp only[WW,f,hd,a,cond_true,i];exact h
     .simp at h
    .simp at h
   .simp at h
  .rename_i a;unfold ld1 at h;split at h
   .split at h
    .rename_i f;simp only[WW,f,hd,Bool.eq_false_iff.2 a,cond_false];exact h
    .simp at h
   .simp at h
 .simp at h
theorem zFI {t:TypeId}{p x v:AV}{H H':AH}(h:zFJ X t p x H=some (v,H')):VW X t (some p) (some x) H=some (v,H'):=by
 unfold zFJ at h;split at h
 .rename_i n a;unfold stN at h;split at h
  .split at h
   .rename_i f;rw[cond_eq_ite]at h;split at h
    .rename_i i;split at h
     .rename_i j;split at h
      .rename_i hp;simp only[VW,zBO,f,a,i,cond_true,j,hp];exact h
      .simp at h
     .simp at h
    .simp at h
   .simp at h
  .simp at h
 .simp at h
theorem zFQ {s d:TypeId}{x r:AV}(h:zFR X s d x=some r):UC X s d x=some r:=by
 unfold zFR at h;split at h
 .simp at h
 .rename_i f a;split at h
  .rename_i k hd;unfold cvI at h;split at h
   .simp only[UC,a,hd];exact h
   .simp at h
  .rename_i hd;split at h
   .unfold zOE at h;split at h
    .simp only[UC,a,hd];exact h
    .simp at h
   .simp at h
  .simp at h
theorem zAo {s d:TypeId}{x r:AV}{H:AH}(h:zDc X s d x H=some r):YF X s d x H=some r:=by
 unfold zDc at h;split at h
 .rename_i e a;split at h
  .rename_i hd;split at h
   .rename_i f;simp only[YF,a,hd,f];exact h
   .simp at h
  .simp at h
 .simp at h
theorem zFS {s d:TypeId}{x:AV}{r:AObj×(Nat->AV)}(h:zFT X s d x=some r):zBV X s d x=some r:=by
 unfold zFT at h;split at h
 .rename_i a;split at h
  .rename_i e hd;split at h
   .rename_i f;simp only[zBV,a,hd,f];exact h
   .simp at h
  .simp at h
 .simp at h
theorem zAn {t:TypeId}{x r:AV}{lo hi p:Option AV}{H:AH}(h:zDb X t x lo hi p H=some r):c9 X t x lo hi p H=some r:=by
 unfold zDb at h;split at h
 .rename_i a;split at h
  .unfold YI at h;split at h
   .rename_i l1 o f i;split at h
    .have j:yZ none=some none:=rfl;simp only[c9,f,i,j,a];exact h
    .simp at h
   .simp at h
  .simp at h
 .rename_i e a;split at h
  .rename_i sz m;unfold wR at h;split at h
   .rename_i l1 o q f i j;split at h<;>first | (simp only[c9,f,i,j,a,m];exact h) | (simp at h;done)
   .simp at h
  .simp at h
 .rename_i n e a;split at h
  .rename_i sz m;unfold jY at h;split at h
   .rename_i l1 o q f i j;split at h<;>first | (simp only[c9,f,i,j,a,m];exact h) | (simp at h;done)
   .simp at h
  .simp at h
 .rename_i arr a;split at h
  .rename_i n e s;split at h
   .rename_i sz m;unfold jY at h;split at h
    .rename_i l1 o q f i j;split at h<;>first | (simp only[c9,f,i,j,a,s,m];exact h) | (simp at h;done)
    .simp at h
   .simp at h
  .simp at h
 .simp at h
theorem zEB {t:TypeId}{x i r:AV}(h:zC3 X t x i=some r):v7 X t x i=some r:=by
 unfold zC3 at h;split at h
 .rename_i n e f;split at h
  .rename_i sz a;unfold uI at h;split at h
   .rename_i k j;split at h
    .simp only[v7,j,f,a];exact h
    .simp at h
   .simp at h
  .simp at h
 .rename_i e f;split at h
  .rename_i sz a;unfold hU at h;split at h
   .rename_i k j;split at h
    .simp only[v7,j,f,a];exact h
    .simp at h
   .simp at h
  .simp at h
 .simp at h
theorem zFM {t:TypeId}{x i r:AV}(h:zFN X t x i=some r):WY X t x i=some r:=by
 unfold zFN at h;split at h
 .rename_i f;unfold uW at h;split at h
  .rename_i k a;split at h
   .simp only[WY,a,f];exact h
   .simp at h
  .simp at h
 .rename_i n e f;split at h
  .rename_i d sz hd m;rw[cond_eq_ite]at h;split at h
   .rename_i j;unfold zEY at h;split at h
    .rename_i k a;split at h
     .simp only[WY,a,f,hd,m,j,cond_true];exact h
     .simp at h
    .simp at h
   .rename_i j;unfold zBa at h;split at h
    .rename_i k a;split at h
     .simp only[WY,a,f,hd,m,Bool.eq_false_iff.2 j,cond_false];exact h
     .simp at h
    .simp at h
  .simp at h
 .simp at h
theorem zFO {t:TypeId}{x r:AV}{f:Nat}(h:zFP X t x f=some r):U9 X t x f=some r:=by
 unfold zFP at h;split at h
 .rename_i fs i;split at h
  .rename_i fl j;split at h
   .rename_i d n hd m;rw[cond_eq_ite]at h;split at h
    .rename_i a;unfold fdN at h;split at h
     .simp only[U9,i,j,hd,m,a,cond_true];exact h
     .simp at h
    .rename_i a;unfold fd1 at h;split at h
     .simp only[U9,i,j,hd,m,Bool.eq_false_iff.2 a,cond_false];exact h
     .simp at h
   .simp at h
  .simp at h
 .simp at h
theorem UL {t:TypeId}{x r:AV}{f:Nat}(h:ZW X t x f=some r):uP X t x f=some r:=by
 unfold ZW at h;split at h
 .rename_i fs a;split at h
  .rename_i fl i;split at h
   .simp at h
   .rename_i n m j;unfold fAd at h;split at h
    .simp only[uP,a,i,j];exact h
    .simp at h
   .simp at h
  .simp at h
 .simp at h
theorem zFL {t:TypeId}{x r:AV}{H:AH}(h:tLen X t x H=some r):zCX X t x H=some r:=by
 unfold tLen at h;split at h
 .rename_i f;unfold cP at h;split at h
  .simp only[zCX,f];exact h
  .simp at h
 .rename_i e f;unfold lnSl at h;split at h<;>first | (simp only[zCX,f];exact h) | (simp at h;done)
 .rename_i n e f;simp only[zCX,f];exact h
 .rename_i a b f;unfold aZ at h;split at h
  .simp only[zCX,f];exact h
  .split at h
   .rename_i i;rw[yG]at h;simp only[zCX,f,i];exact h
   .simp at h
  .simp at h
 .simp at h
theorem zJu {t:TypeId}{d s v:AV}{H H':AH}(h:zMw X t d s H=some (v,H')):zFk X t d s H=some (v,H'):=by
 unfold zMw at h;split at h
 .rename_i e f;split at h
  .rename_i sz a;simp only[zFk,f,a];exact h
  .simp at h
 .simp at h
theorem zFU {env:Env}{t:TypeId}{f:Array (Nat×Operand)}{r:AV}(h:zFV X t (xK env f.toList)=some r):QY X env t f=some r:=by
 unfold zFV at h;split at h
 .rename_i z i;split at h
  .rename_i o hp;split at h
   .rename_i fs a;split at h
    .rename_i p j;simp only[QY,i,hp,a,j];exact h
    .simp at h
   .rename_i n e a;split at h
    .rename_i sz m;simp only[QY,i,hp,a,m];exact h
    .simp at h
   .simp at h
  .simp at h
 .simp at h
theorem zMx {arr:TypeId}{x r:AV}(h:tArr X arr x=some r):zP9 X arr x=some r:=by
 unfold tArr at h;split at h
 .rename_i n e a;unfold s2a at h;split at h
  .simp only[zP9,a];exact h
  .simp at h
 .simp at h
theorem zEC {env:Env}{t:TypeId}{len:Nat}{a:Array (Nat×Operand)}{r:AObj×(Nat->AV)}(h:zC4 X t len (xK env a.toList)=some r):aD X env t len a=some r:=by
 unfold zC4 at h;split at h
 .rename_i e i;split at h
  .rename_i m hp;split at h
   .rename_i sz f;split at h
    .rename_i z j;simp only[aD,i,hp,f,j];exact h
    .simp at h
   .simp at h
  .simp at h
 .simp at h
theorem zJt {t:TypeId}{l c:AV}{r:AObj×(Nat->AV)}(h:zMv X t l c=some r):UD X t (some l) (some c)=some r:=by
 unfold zMv at h;split at h
 .rename_i e j;split at h
  .rename_i o i;split at h
   .rename_i z m;rw[cond_eq_ite]at h;split at h
    .rename_i f;unfold zH1 at h;split at h
     .split at h
      .rw[cond_eq_ite]at h;split at h
       .rename_i a;simp only[UD,j,i,m];simp only[zC]at f a;simp only[f.1,f.2,a.1.1,a.1.2,a.2,Bool.and_self,cond_true];exact h
       .simp at h
      .simp at h
     .simp at h
    .simp at h
   .simp at h
  .simp at h
 .simp at h
theorem zMy {t u:TypeId}{s x v:AV}{H H':AH}(h:tApp X t u s x H=some (v,H')):fP X t u (some s) (some x) H=some (v,H'):=by
 unfold tApp at h;split at h
 .rename_i e j;split at h
  .rename_i p i;split at h
   .rename_i f;rw[cond_eq_ite]at h;split at h
    .rename_i a;simp only[fP,f,bC,j,i,a,cond_true];exact h
    .simp at h
   .rename_i f;rw[cond_eq_ite]at h;split at h
    .rename_i a;simp only[fP,f,bC,j,i,a,cond_true];exact h
    .simp at h
   .rename_i k f;split at h
    .rename_i z o;rw[cond_eq_ite]at h;split at h
     .rename_i a;simp only[zC]at a;unfold apZ at h;split at h
      .rename_i n;rw[cond_eq_ite]at h;split at h
       .rename_i m;simp only[zC]at m;simp only[fP,f,zJ8,j,i,o,a.1,a.2,m.1,m.2,cond_true,Bool.and_self];exact h
       .simp at h
      .simp at h
     .simp at h
    .simp at h
   .simp at h
  .simp at h
 .simp at h
theorem zN0 {α:Type}{x y z:Option AV}{f:AV->AV->AV->Option α}{r:α}(h:q3 x y z f=some r): ∃a b c,x=some a/\y=some b/\z=some c/\f a b c=some r:=by
 unfold q3 at h;split at h
 .split at h
  .split at h
   .exact⟨_,_,_,rfl,rfl,rfl,h⟩
   .simp at h
  .simp at h
 .simp at h
theorem zLu {t:TypeId}{ok:Bool}{x k r:AV}{H:AH}(h:tLk X t ok x k H=some r):zIW X t ok x k H=some r:=by
 unfold tLk at h;split at h
 .rename_i a;split at h
  .rename_i f i;simp only[zIW,a,f,i];exact h
  .simp at h
 .simp at h
theorem zOS {t:TypeId}{x k v r:AV}{H H':AH}(h:tUp X t x k v H=some (r,H')):aup X t x k v H=some (r,H'):=h
theorem zOT {t:TypeId}{x k r:AV}{H H':AH}(h:tDl X t x k H=some (r,H')):adl X t x k H=some (r,H'):=h
theorem zMu {t:TypeId}{r:AObj×(Nat->AV)}(h:tMkM X t=some r):aMap X t=some r:=h
end
def rOf (B:Tb)(D:Dyn):Fns:=⟨fun g az H=>zBJ B.S D g az H,D.yld⟩
theorem aB {x:Option AV}{f:AV->Option AV}{a r:AV}(h:x=some a)(k:f a=some r):b1 x f=some r:=by simp only[b1,h,k]
theorem zA2 {x y:Option AV}{f:AV->AV->Option AV}{a b r:AV}(h:x=some a)(i:y=some b)(k:f a b=some r):b2 x y f=some r:=by simp only[b2,h,i,k]
section
variable {B:Tb}{D:Dyn}{env:Env}{H:AH}
theorem wP {o:Op}{v:AV}(a:cls B.X o= .P)(h:aP B.X env o=some v):opF B.X (rOf B D) env H o=some (v,H):=by
 simp only[opF,a,h,wV]
theorem V2 {o:Op}{v:AV}(a:cls B.X o= .L)(h:aL B.X env H o=some v):opF B.X (rOf B D) env H o=some (v,H):=by
 simp only[opF,a,h,wV]
theorem V4 {o:Op}{v:AV}{H':AH}(a:cls B.X o= .A)(h:wA H (aA B.X env o)=some (v,H')):opF B.X (rOf B D) env H o=some (v,H'):=by
 simp only[opF,a,h]
theorem V3 {o:Op}{v:AV}{H':AH}(a:cls B.X o= .E)(h:aE B.X env H o=some (v,H')):opF B.X (rOf B D) env H o=some (v,H'):=by
 simp only[opF,a,h]
theorem XL {x y:Option (AObj×(Nat->AV))}{v:AV}{H':AH}(h:wA H x=some (v,H'))(k: ∀r,x=some r->y=some r):wA H y=some (v,H'):=by
 cases x with
 | none=>simp[wA]at h
 | some r=>rw[k r rfl];exact h
theorem zPa {K:AV->AH->Rs}{o:Op}{out:Ex×AH}(h:opK B D env H K o=some out): ∃v H',opF B.X (rOf B D) env H o=some (v,H')/\K v H'=some out:=by
 unfold opK at h;split at h
 ·
  rename_i x;split at h
  .rename_i v i;exact⟨v,H,wP rfl i,h⟩
  .simp at h
 .rename_i x;split at h
  .rename_i v i;exact⟨v,H,wP rfl i,h⟩
  .simp at h
 ·
  rename_i c a b;obtain⟨v,i,j⟩:=jB h;refine⟨v,H,wP rfl ?_,j⟩;show zEQ env c a b=some v;unfold pk3 at i;unfold zEQ;exact i
 ·
  obtain⟨v,i,j⟩:=jB h;exact⟨v,H,wP rfl (zFU i),j⟩
 .obtain⟨v,i,j⟩:=jB h;obtain⟨a,m,p⟩:=jN i;exact⟨v,H,wP rfl (aB m p),j⟩
 ·
  rw[cond_eq_ite]at h;split at h
  .rename_i hp;obtain⟨v,i,j⟩:=jB h;obtain⟨a,b,m,hb,p⟩:=wG i;exact⟨v,H,V2 (by simp[cls,hp]) (zA2 m hb (zDd p)),j⟩
  .rename_i hp;obtain⟨v,i,j⟩:=jB h;obtain⟨a,b,m,hb,p⟩:=wG i;exact⟨v,H,wP (by simp[cls,hp]) (zA2 m hb (zFW p)),j⟩
 .obtain⟨v,i,j⟩:=jB h;obtain⟨a,m,p⟩:=jN i;exact⟨v,H,wP rfl (aB m p),j⟩
 ·
  split at h
  .rename_i a m;split at h
   .rename_i b hb;refine⟨_,H,wP rfl ?_,h⟩;show zER env _ _ _=_;simp only[zER,m,hb]
   .simp at h
  .simp at h
 .obtain⟨v,i,j⟩:=jB h;obtain⟨a,m,p⟩:=jN i;exact⟨v,H,wP rfl (aB m (UL p)),j⟩
 .obtain⟨v,i,j⟩:=jB h;obtain⟨a,m,p⟩:=jN i;exact⟨v,H,wP rfl (aB m (zFO p)),j⟩
 .obtain⟨v,i,j⟩:=jB h;obtain⟨a,b,m,hb,p⟩:=wG i;exact⟨v,H,wP rfl (zA2 m hb (zEB p)),j⟩
 .obtain⟨v,i,j⟩:=jB h;obtain⟨a,b,m,hb,p⟩:=wG i;exact⟨v,H,wP rfl (zA2 m hb (zFM p)),j⟩
 .obtain⟨v,i,j⟩:=jB h;obtain⟨a,m,p⟩:=jN i;exact⟨v,H,wP rfl (aB m (zMx p)),j⟩
 .obtain⟨v,i,j⟩:=jB h;obtain⟨a,m,p⟩:=jN i;exact⟨v,H,wP rfl (aB m p),j⟩
 ·
  obtain⟨v,i,j⟩:=jB h;obtain⟨a,m,p⟩:=jN i;exact⟨v,H,V2 rfl (aB m (UK p)),j⟩
 ·
  split at h
  .rename_i lo hi Y L N O;obtain⟨v,i,j⟩:=jB h;obtain⟨a,m,p⟩:=jN i;refine⟨v,H,V2 rfl ?_,j⟩;show dP _ _ _ _ _ _ _ _=_;simp only[dP,m,L,N,O];exact zAn p
  .simp at h
 ·
  split at h
  .rename_i q;obtain⟨v,i,j⟩:=jB h;obtain⟨a,m,p⟩:=jN i;exact⟨v,H,wP q (aB m (zFQ p)),j⟩
  .rename_i q;obtain⟨v,i,j⟩:=jB h;obtain⟨a,m,p⟩:=jN i;exact⟨v,H,V2 q (aB m (zAo p)),j⟩
  .rename_i q;obtain⟨v,H',i,j⟩:=QR h;refine⟨v,H',V4 q (XL i fun r hr=> ?_),j⟩;obtain⟨a,m,p⟩:=jN hr;simp only[aA,m];exact zFS p
  .simp at h
 ·
  split at h
  .rename_i z T;obtain⟨v,H',i,j⟩:=QR h;refine⟨v,H',V4 rfl (XL i fun r hr=> ?_),j⟩;simp only[aA,T,aA1];exact hr
  .simp at h
 .obtain⟨v,H',i,j⟩:=QR h;refine⟨v,H',V4 rfl (XL i fun r hr=> ?_),j⟩;obtain⟨a,m,p⟩:=jN hr;simp only[aA,m,aA1];exact p
 .obtain⟨v,H',i,j⟩:=QR h;exact⟨v,H',V4 rfl (XL i fun r hr=>zEC hr),j⟩
 .obtain⟨v,H',i,j⟩:=QR h;refine⟨v,H',V4 rfl (XL i fun r hr=> ?_),j⟩;obtain⟨a,b,m,hb,p⟩:=wG hr;simp only[aA,m,hb];exact zJt p
 ·
  obtain⟨v,i,j⟩:=jB h;obtain⟨a,b,m,hb,p⟩:=wG i;exact⟨v,H,V2 rfl (zA2 m hb (zLu p)),j⟩
 .obtain⟨v,H',i,j⟩:=QR h;exact⟨v,H',V4 rfl (XL i fun r hr=>zMu hr),j⟩
 .obtain⟨v,H',i,j⟩:=bB h;obtain⟨a,b,c,m,hb,q,p⟩:=zN0 i;refine⟨v,H',V3 rfl ?_,j⟩;simp only[aE,m,hb,q,c3];exact zOS p
 ·
  obtain⟨v,H',i,j⟩:=bB h;obtain⟨a,b,m,hb,p⟩:=wG i;refine⟨v,H',V3 rfl ?_,j⟩;simp only[aE,m,hb];exact zFI p
 ·
  rename_i c;obtain⟨V,args,W⟩:=c;split at h
  .rename_i f q;simp only at q;subst q;obtain⟨v,H',i,j⟩:=bB h;refine⟨v,H', ?_,j⟩;unfold callO at i;split at i
   .rename_i az J;simp only at J;split at i
    .rename_i g;have e:opd env (.func g)=some (.func g [] []):=rfl;simp only[opF,cls,zA0,opF.callO,e,J,opF.callV,rOf,List.nil_append,List.append_nil];exact i
    .split at i
     .rename_i t _ U S;have e:opd env (.tmp t)=some U:=S;unfold callV at i;split at i
      .simp only[opF,cls,zA0,opF.callO,e,J,opF.callV,rOf];exact i
      .simp only[opF,cls,zA0,opF.callO,e,J,opF.callV,rOf];exact i
      .simp at i
     .simp at i
    .simp at i
   .simp at i
  .rename_i q;simp only at q;subst q;split at h
   .rename_i x t ts C F;obtain⟨v,i,j⟩:=jB h;obtain⟨a,m,p⟩:=jN i;refine⟨v,H,V2 rfl ?_,j⟩;simp only at C F;simp only[aL,C,F];exact aB m (zFL p)
   .simp at h
  .rename_i q;simp only at q;subst q;split at h
   .rename_i x t ts C F;obtain⟨v,i,j⟩:=jB h;obtain⟨a,m,p⟩:=jN i;refine⟨v,H,wP rfl ?_,j⟩;simp only at C F;simp only[aP,C,F];exact aB m p
   .simp at h
  .rename_i q;simp only at q;subst q;split at h
   .rename_i s x t u C F;obtain⟨v,H',i,j⟩:=bB h;obtain⟨a,b,m,hb,p⟩:=wG i;refine⟨v,H',V3 rfl ?_,j⟩;simp only at C F;simp only[aE,xT,C,F,m,hb];exact zMy p
   .simp at h
  .rename_i q;simp only at q;subst q;split at h
   .rename_i s x t ts C F;obtain⟨v,H',i,j⟩:=bB h;obtain⟨a,b,m,hb,p⟩:=wG i;refine⟨v,H',V3 rfl ?_,j⟩;simp only at C F;simp only[aE,xT,C,F,m,hb,zIh];exact zJu p
   .simp at h
  .rename_i q;simp only at q;subst q;split at h
   .rename_i x y C;obtain⟨v,i,j⟩:=jB h;obtain⟨a,b,m,hb,p⟩:=wG i;refine⟨v,H,wP rfl ?_,j⟩;simp only at C;simp only[aP,C];exact zA2 m hb p
   .simp at h
  .rename_i q;simp only at q;subst q;split at h
   .rename_i x y C;obtain⟨v,i,j⟩:=jB h;obtain⟨a,b,m,hb,p⟩:=wG i;refine⟨v,H,wP rfl ?_,j⟩;simp only at C;simp only[aP,C];exact zA2 m hb p
   .simp at h
  .rename_i q;simp only at q;subst q;split at h
   .rename_i s x t ts C F;obtain⟨v,H',i,j⟩:=bB h;obtain⟨a,b,m,hb,p⟩:=wG i;refine⟨v,H',V3 rfl ?_,j⟩;simp only at C F;simp only[aE,xT,C,F,m,hb,c2];exact zOT p
   .simp at h
  .rename_i q;simp only at q;subst q;split at h
   .rename_i s t ts C F;obtain⟨v,H',i,j⟩:=bB h;obtain⟨a,m,p⟩:=jN i;refine⟨v,H',V3 rfl ?_,j⟩;simp only at C F;simp only[aE,xT,C,F,m,c1];exact p
   .simp at h
  .simp at h
 .simp at h
end
def Le (env env2:Env):Prop:= ∀t x,look env t=some x->look env2 t=some x
theorem Le.refl (env:Env):Le env env:=fun _ _ h=>h
theorem Le.trans {a b c:Env}(h:Le a b)(k:Le b c):Le a c:=fun t x e=>k t x (h t x e)
theorem Le.upd {a b:Env}(h:Le a b)(d:Nat)(v:AV):Le (upd a d v) (upd b d v):=by
 intro t x e;simp only[look,vB]at e⊢;split
 .rename_i hd;rw[if_pos hd]at e;exact e
 .rename_i hd;rw[if_neg hd]at e;exact h t x e
theorem EnvR.le {R:Ren}{env env2:Env}{n:Nat}{a:Array Value}(h:EnvR R env2 n a)(k:Le env env2):EnvR R env n a:=
 ⟨h.size,fun t x e=>h.get t x (k t x e),fun t f=>by
  cases e:look env t with
  | none=>rfl
  | some x=>have:=k t x e;rw[h.out t f]at this;simp at this⟩
section
variable {env env2:Env}(hl:Le env env2)
include hl
theorem yD (x:Operand)(a:AV)(h:opd env x=some a):opd env2 x=some a:=by
 cases x with
 | tmp t=>exact hl t a h
 | _=>exact h
theorem gQ: ∀(xs:List Operand) (az:List AV),zBZ env xs=some az->zBZ env2 xs=some az
 | [],az,h=>h
 | x::xs,az,h=>by
  simp only[zBZ]at h⊢;split at h
  .rename_i v vs f a;rw[yD hl x v f,gQ xs vs a];exact h
  .simp at h
theorem Q6: ∀(xs:List (Nat×Operand)) (az:List (Nat×AV)),xK env xs=some az->xK env2 xs=some az
 | [],az,h=>h
 | (i,x)::xs,az,h=>by
  simp only[xK]at h⊢;split at h
  .rename_i v vs f a;rw[yD hl x v f,Q6 xs vs a];exact h
  .simp at h
theorem Q9 (x:Option Operand)(a:Option AV)(h:bQ env x=some a):bQ env2 x=some a:=by
 cases x with
 | none=>exact h
 | some y=>
  simp only[bQ]at h⊢;split at h
  .rename_i b hb;rw[yD hl y b hb];exact h
  .simp at h
theorem vR {x:Operand}{f:AV->Option AV}{r:AV}(h:b1 (opd env x) f=some r):b1 (opd env2 x) f=some r:=by
 unfold b1 at h;split at h
 .rename_i a i;rw[yD hl x a i];exact h
 .simp at h
theorem cZ {x y:Operand}{f:AV->AV->Option AV}{r:AV}(h:b2 (opd env x) (opd env y) f=some r):b2 (opd env2 x) (opd env2 y) f=some r:=by
 unfold b2 at h;split at h
 .rename_i a i;split at h
  .rename_i b hb;rw[yD hl x a i,yD hl y b hb];exact h
  .simp at h
 .simp at h
theorem zOc {X:Cx}{o:Op}{v:AV}(h:aP X env o=some v):aP X env2 o=some v:=by
 unfold aP at h⊢;split at h
 .exact yD hl _ _ h
 .exact yD hl _ _ h
 .unfold zEQ at h⊢;split at h
  .rename_i f;rw[yD hl _ _ f];exact yD hl _ _ h
  .rename_i f;rw[yD hl _ _ f];exact yD hl _ _ h
  .simp at h
 .unfold QY at h⊢;split at h
  .rename_i z m;split at h
   .rename_i p i;rw[Q6 hl _ _ i];exact h
   .simp at h
  .simp at h
 .exact vR hl h
 .exact cZ hl h
 .exact vR hl h
 .exact vR hl h
 .unfold zER at h⊢;split at h
  .rename_i a j;split at h
   .rename_i b hb;rw[gQ hl _ _ j,gQ hl _ _ hb];exact h
   .simp at h
  .simp at h
 .exact vR hl h
 .exact vR hl h
 .exact cZ hl h
 .exact cZ hl h
 .exact vR hl h
 .exact vR hl h
 .split at h
  .split at h
   .split at h
    .exact vR hl h
    .simp at h
   .simp at h
  .split at h
   .exact cZ hl h
   .simp at h
  .split at h
   .exact cZ hl h
   .simp at h
  .simp at h
 .simp at h
theorem zJ9 {X:Cx}{H:AH}{o:Op}{v:AV}(h:aL X env H o=some v):aL X env2 H o=some v:=by
 unfold aL at h⊢;split at h
 .exact vR hl h
 .unfold dP at h⊢;split at h
  .rename_i a m;split at h
   .rename_i lo f;split at h
    .rename_i hi i;split at h
     .rename_i p j;rw[yD hl _ _ m,Q9 hl _ _ f,Q9 hl _ _ i,Q9 hl _ _ j];exact h
     .simp at h
    .simp at h
   .simp at h
  .simp at h
 .exact cZ hl h
 .exact vR hl h
 .exact cZ hl h
 .split at h
  .split at h
   .split at h
    .exact vR hl h
    .simp at h
   .simp at h
  .simp at h
 .simp at h
theorem zOf {X:Cx}{o:Op}{v:AObj×(Nat->AV)}(h:aA X env o=some v):aA X env2 o=some v:=by
 unfold aA at h⊢;split at h
 .exact h
 .unfold aA1 at h⊢;split at h
  .rename_i a f;rw[yD hl _ _ f];exact h
  .simp at h
 .unfold aD at h⊢;split at h
  .rename_i e p;split at h
   .rename_i q i;simp only[Q6 hl _ _ i];exact h
   .simp at h
  .simp at h
 .unfold UD at h⊢;split at h
  .rename_i n j;split at h
   .rename_i m hm;simp only[yD hl _ _ j,yD hl _ _ hm];exact h
   .simp at h
  .simp at h
 .split at h
  .rename_i a f;rw[yD hl _ _ f];exact h
  .simp at h
 .exact h
 .simp at h
theorem zOe {X:Cx}{H:AH}{o:Op}{v:AV×AH}(h:aE X env H o=some v):aE X env2 H o=some v:=by
 unfold aE at h⊢;split at h
 .unfold VW at h⊢;split at h
  .rename_i p hp;split at h
   .rename_i y i;rw[yD hl _ _ hp,yD hl _ _ i];exact h
   .simp at h
  .simp at h
 .unfold c3 at h⊢;split at h
  .rename_i a f;split at h
   .rename_i b hb;split at h
    .rename_i c j;rw[yD hl _ _ f,yD hl _ _ hb,yD hl _ _ j];exact h
    .simp at h
   .simp at h
  .simp at h
 .split at h
  .unfold xT at h⊢;split at h
   .split at h
    .split at h
     .unfold fP at h⊢;split at h
      .rename_i a f;split at h
       .rename_i b hb;simp only[yD hl _ _ f,yD hl _ _ hb];exact h
       .simp at h
      .simp at h
     .simp at h
    .simp at h
   .split at h
    .split at h
     .unfold zIh at h⊢;split at h
      .rename_i a f;split at h
       .rename_i b hb;simp only[yD hl _ _ f,yD hl _ _ hb];exact h
       .simp at h
      .simp at h
     .simp at h
    .simp at h
   .split at h
    .split at h
     .unfold c2 at h⊢;split at h
      .rename_i a f;split at h
       .rename_i b hb;simp only[yD hl _ _ f,yD hl _ _ hb];exact h
       .simp at h
      .simp at h
     .simp at h
    .simp at h
   .split at h
    .split at h
     .unfold c1 at h⊢;split at h
      .rename_i a f;simp only[yD hl _ _ f];exact h
      .simp at h
     .simp at h
    .simp at h
   .simp at h
  .simp at h
 .simp at h
theorem zK3 {X:Cx}{r:Fns}{H:AH}{o:Op}{v:AV×AH}(h:opF X r env H o=some v):opF X r env2 H o=some v:=by
 unfold opF at h⊢;split at h
 .rename_i i;unfold wV at h⊢;split at h
  .rename_i x f;simp only[i,zOc hl f];exact h
  .simp at h
 .rename_i i;unfold wV at h⊢;split at h
  .rename_i x f;simp only[i,zJ9 hl f];exact h
  .simp at h
 .rename_i i
  cases f:aA X env o with
  | none=>rw[f]at h;simp[wA]at h
  | some x=>simp only[i,zOf hl f];rw[f]at h;exact h
 .exact zOe hl h
 .unfold opF.callO at h⊢;split at h
  .split at h
   .unfold opF.callV at h⊢;split at h
    .rename_i g a b m;split at h
     .rename_i az j;simp only[yD hl _ _ m,gQ hl _ _ j];exact h
     .simp at h
    .rename_i A m;split at h
     .rename_i az j;simp only[yD hl _ _ m,gQ hl _ _ j];exact h
     .simp at h
    .simp at h
   .simp at h
  .simp at h
end
theorem KE {vs:List AV}{K:AV->List AV->Rs}{out:Ex×AH}(h:hd vs K=some out): ∃v l,vs=v::l/\K v l=some out:=by
 cases vs with
 | nil=>exact absurd h (by simp[hd])
 | cons v l=>exact⟨_,_,rfl,h⟩
def PK (env:Env):List Nat->List AV->Prop
 | [],vs=>vs=[]
 | l::L,vs=> ∃v vs',vs=v::vs'/\look env l=some v/\PK env L vs'
theorem jA: ∀ {L:List Nat} {env:Env} {K:List AV->Rs} {out:Ex×AH},pck L env K=some out-> ∃vs,PK env L vs/\K vs=some out
 | [],env,K,out,h=>⟨[],rfl,h⟩
 | l::L,env,K,out,h=>by
  simp only[pck]at h;split at h
  .rename_i v a;obtain⟨vs,f,i⟩:=jA h;exact⟨v::vs,⟨v,vs,rfl,a,f⟩,i⟩
  .simp at h
theorem aJ: ∀ {L:List Nat} {vs:List AV} {base:Env} {K:Env->Rs} {out:Ex×AH},unp L vs base K=some out-> ∀env,PK env L vs-> ∃env',K env'=some out/\ ∀t,(t∈L->look env' t=look env t)/\(t∉L->look env' t=look base t)
 | [],vs,base,K,out,h,env,_=>⟨base,h,fun t=>⟨fun h=>by simp at h,fun _=>rfl⟩⟩
 | l::L,vs,base,K,out,h,env,⟨v,vs',e,hv,hp⟩=>by
  subst e;simp only[unp,hd]at h;obtain⟨env',j,i⟩:=aJ h env hp;refine⟨env',j,fun t=>⟨fun a=> ?_,fun a=> ?_⟩⟩
  .by_cases f:t∈L
   .exact(i t).1 f
   .rw[(i t).2 f];have:t=l:=by
              simp at a;rcases a with h | h
              .exact h
              .exact absurd h f
    subst this;simp only[look,vB,if_true];exact hv.symm
  .simp only[List.mem_cons,not_or]at a;rw[(i t).2 a.2];simp only[look,vB,if_neg a.1]
theorem VX: ∀(L:List Nat) (env:Env) (t:Nat),look (BV L env) t=if t∈L then none else look env t
 | [],env,t=>by simp[BV]
 | l::L,env,t=>by
  have a:=VX L env t;simp only[look]at a⊢;simp only[BV,cond_eq_ite,Nat.beq_eq,List.mem_cons,a];by_cases f:t=l<;>by_cases h:t∈L<;>simp[f,h]
theorem ZO {m:Nat}{H:AH}{K:Rs}{out:Ex×AH} : ∀ {sn:List Seen},zOF m H K sn=some out->K=some out/\ ∀s∈sn,m.testBit s.i=false->s.rd H=some s.v
 | [],h=>⟨h,by simp⟩
 | s::l,h=>by
  simp only[zOF,zFF,cond_eq_ite]at h;split at h
  .rename_i hb;obtain⟨f,j⟩:=ZO h;refine⟨f,fun q a hm=> ?_⟩;rcases List.mem_cons.1 a with rfl | a
   .rw[hb]at hm;simp at hm
   .exact j q a hm
  .unfold chk at h;split at h
   .rename_i y o;rw[cond_eq_ite]at h;split at h
    .rename_i p;obtain⟨f,j⟩:=ZO h;refine⟨f,fun q a hm=> ?_⟩;rcases List.mem_cons.1 a with rfl | a
     .rw[o,QS _ _ p]
     .exact j q a hm
    .simp at h
   .simp at h
section
variable {B:Tb}{D:Dyn}{nt:Nat}{ops:Array Oper}
theorem zMZ {env j:Env}(hl:Le env j){o:Op}{H:AH}{v:AV}(hm:kU B.X o=true)(h:zP6 B env o H=some v):aL B.X j H o=some v:=by
 apply zJ9 hl;unfold zP6 at h;split at h
 .obtain⟨a,f,i⟩:=jN h;exact aB f (UK i)
 .obtain⟨a,b,f,hb,i⟩:=wG h;exact zA2 f hb (zLu i)
 .split at h
  .rename_i lo hi z q s u;obtain⟨a,f,i⟩:=jN h;show dP _ _ _ _ _ _ _ _=_;simp only[dP,f,q,s,u];exact zAn i
  .simp at h
 .obtain⟨a,f,i⟩:=jN h;exact aB f (zAo i)
 .obtain⟨a,b,f,hb,i⟩:=wG h;exact zA2 f hb (zDd i)
 .rename_i c;split at h
  .rename_i x t ts p m;obtain⟨a,f,i⟩:=jN h;simp only[kU]at hm;split at hm
   .rename_i y;simp only[aL,y,p,m];exact aB f (zFL i)
   .simp at hm
  .simp at h
 .simp at h
theorem zFi {X:Cx}{t:TypeId}{x r:AV}{H:AH}(h:zCX X t x H=some r)(f: ∀a b,X.und t≠some (.map a b))(i:AH):zCX X t x i=some r:=by
 unfold zCX at h⊢;split at h<;>first | exact h | (rename_i j;exact absurd j (f _ _)) | (simp at h;done)
theorem zDe {env:Env}{o:Op}{H:AH}{v:AV}(i:cls B.X o= .L)(hm:kU B.X o=false)(h:aL B.X env H o=some v)(j:AH):aL B.X env j o=some v:=by
 unfold aL at h⊢;split at h
 .simp[kU]at hm
 .rename_i t x lo hi q;simp only[kU]at hm;unfold dP at h⊢;split at h
  .split at h
   .split at h
    .split at h
     .unfold c9 at h⊢;split at h
      .rename_i a _ _ _ _ _ _ _ _ _ _ _;split at h
       .exact h
       .rename_i f _;simp[f]at hm
       .rename_i f _;simp[f]at hm
       .rename_i f _;simp[f]at hm
       .exact h
       .exact h
       .simp at h
      .simp at h
     .simp at h
    .simp at h
   .simp at h
  .simp at h
 .simp[kU]at hm
 .simp only[kU,isL]at hm;rw[i]at hm;simp at hm
 .simp only[kU]at hm;simp[cls,hm]at i
 .rename_i c;split at h
  .rename_i m;split at h
   .rename_i x s;split at h
    .rename_i t ts p;unfold b1 at h⊢;split at h
     .refine zFi h (fun a b f=> ?_) j;simp only[kU,m,p,f]at hm;simp at hm
     .simp at h
    .simp at h
   .simp at h
  .simp at h
 .simp at h
def zBe (ops:Array Oper)(o:Oper):Option Nat:=match o.guard with
 | none=>none
 | some (j,_)=>match zFn ops.toList j with
  | some p=>p.dst
  | none=>none
theorem zAg {env env':Env}{o:Oper}(h: ∀d,zBe ops o=some d->look env d=look env' d):cD ops env o=cD ops env' o:=by
 unfold cD;unfold zBe at h;split
 .rfl
 .rename_i j f a;rw[a]at h;simp only at h;unfold zFu;split
  .rename_i p hp;rw[hp]at h;simp only at h;split
   .rename_i d hd;rw[h d hd]
   .rfl
  .rfl
def zLl (X:Cx)(ms:List Nat)(a b:Ent):Prop:=a.want=true->jQ (cls X b.o.op)=true->(ms.getD b.i 0).testBit a.i=false->cls X a.o.op= .L->aL X a.env b.H' a.o.op=some a.v
def Tr (X:Cx)(ms:List Nat)(sn:List Seen)(pre:List Ent)(rest:List (Nat×Oper)):Prop:=
 ∀a∈pre,a.want=true->cls X a.o.op= .L->(∃s∈sn,s.i=a.i/\s.v=a.v/\ ∀H v,s.rd H=some v->aL X a.env H a.o.op=some v)\/(∀H,aL X a.env H a.o.op=some a.v)\/(∀b∈rest,jQ (cls X b.2.op)=true->(ms.getD b.1 0).testBit a.i=true)
theorem Tr.see {X:Cx}{ms:List Nat}{sn:List Seen}{pre:List Ent}{rest:List (Nat×Oper)}(h:Tr X ms sn pre rest){b:Ent}(hb:(b.i,b.o)∈rest)(p:jQ (cls X b.o.op)=true-> ∀s∈sn,(ms.getD b.i 0).testBit s.i=false->s.rd b.H'=some s.v): ∀a∈pre,zLl X ms a b:=by
 intro a q t m j hL;rcases h a q t hL with⟨s,u,f,x,y⟩ | f | f
 .have:=p m s u (by rw[f];exact j);rw[<-x];exact y _ _ this
 .exact f _
 .have:=f _ hb m;simp only at this;rw[this]at j;simp at j
theorem Tr.less {X:Cx}{ms:List Nat}{sn sn':List Seen}{pre:List Ent}{rest rest':List (Nat×Oper)}(h:Tr X ms sn pre rest)(j: ∀s∈sn,s∈sn')(hr: ∀b∈rest',b∈rest):Tr X ms sn' pre rest':=by
 intro a m o hL;rcases h a m o hL with⟨s,i,f⟩ | f | f
 .exact .inl ⟨s,j s i,f⟩
 .exact .inr (.inl f)
 .exact .inr (.inr fun b hb=>f b (hr b hb))
theorem zAB {env:Env}{d:Option Tmp}{v:AV}{K:Env->Rs}{out:Ex×AH}(h:setE nt env d v K=some out){f:Env}(hl:Le env f):
  ∃env' a,X9 nt f d v=some a/\Le env' a/\K env'=some out:=by
 unfold setE at h;split at h
 .rename_i d;rw[cond_eq_ite]at h;split at h
  .rename_i hd;exact⟨_,_,by simp only[X9,hd,cond_true],hl.upd d v,h⟩
  .simp at h
 .exact⟨_,_,rfl,hl,h⟩
theorem zEE {ms:List Nat}{env:Env}{sn:List Seen}{i:Nat}{o:Op}{v:AV}{H':AH}{K:List Seen->Rs}{out:Ex×AH}(h:zMN B ms env sn i o v H' K=some out):
  ∃sn',K sn'=some out/\(∀s∈sn,s∈sn')/\(jQ (cls B.X o)=true-> ∀s∈sn,(ms.getD i 0).testBit s.i=false->s.rd H'=some s.v)/\
   (jQ (cls B.X o)=false->kU B.X o=true->(⟨i,zP6 B env o,v⟩:Seen)∈sn'):=by
 unfold zMN at h;simp only[cond_eq_ite]at h;split at h
 .rename_i a;obtain⟨f,j⟩:=ZO h;exact⟨sn,f,fun _ h=>h,fun _=>j,fun h=>by rw[a]at h;simp at h⟩
 .rename_i a;split at h
  .exact⟨_,h,fun s m=>by simp[m],fun h=>absurd h a,fun _ _=>by simp⟩
  .rename_i hm;exact⟨_,h,fun _ h=>h,fun h=>absurd h a,fun _ h=>absurd h hm⟩
theorem JP {env env':Env}{d:Option Tmp}{v:AV}(h:X9 nt env d v=some env'){t:Nat}(a:d≠some t):look env' t=look env t:=by
 rw[gL h,if_neg a]
theorem xY {masks:Option (List Nat)}{K:List Seen->Env->AH->Rs}{out:Ex×AH}{rest:List (Nat×Oper)} : ∀(row:List (Nat×Oper)) (sn:List Seen) (env:Env) (H:AH) (f:Env) (pre:List Ent),
  zJg B D nt masks K row sn env H=some out->Le env f->(∀q∈row,cD ops f q.2=some true)->(∀q∈row,∀y∈row,∀d,q.2.dst=some d->zBe ops y.2≠some d)->
  (∀ms,masks=some ms->Tr B.X ms sn pre (row++rest))->
  ∃es envF HF sn' env',xJ B.X (rOf B D) nt ops f H es envF HF/\es.map (fun e=>(e.i,e.o))=row/\(∀e∈es,e.want=true)/\Le env' envF/\K sn' env' HF=some out/\
   (∀ms,masks=some ms->(∀a∈pre,∀b∈es,zLl B.X ms a b)/\es.Pairwise (zLl B.X ms)/\Tr B.X ms sn' (pre++es) rest)
 | [],sn,env,H,f,pre,h,hl,_,_,hT=>⟨[],f,H,sn,env,⟨rfl,rfl⟩,rfl,by simp,hl,h,fun ms j=>⟨by simp,List.Pairwise.nil,by simpa using hT ms j⟩⟩
 | (i,o)::row,sn,env,H,f,pre,h,hl,hw,hst,hT=>by
  simp only[zJg]at h;obtain⟨v,H',a4,C⟩:=zPa h;have O:=zK3 hl a4;have T:=hw (i,o) (zF ..);have a0:zIb B.X (rOf B D) ops f H i o=some ⟨i,o,true,f,H,v,H'⟩:=by
   simp only at T;simp only[zIb,T,O]
  have V: ∀(sn':List Seen) (env' m:Env),X9 nt f o.dst v=some m->Le env' m->zJg B D nt masks K row sn' env' H'=some out->
    (∀ms,masks=some ms->(∀s∈sn,s∈sn')/\(jQ (cls B.X o.op)=true-> ∀s∈sn,(ms.getD i 0).testBit s.i=false->s.rd H'=some s.v)/\(jQ (cls B.X o.op)=false->kU B.X o.op=true->(⟨i,zP6 B env o.op,v⟩:Seen)∈sn'))->
    ∃es envF HF sn' env',xJ B.X (rOf B D) nt ops f H es envF HF/\es.map (fun e=>(e.i,e.o))=(i,o)::row/\(∀e∈es,e.want=true)/\Le env' envF/\K sn' env' HF=some out/\
     (∀ms,masks=some ms->(∀a∈pre,∀b∈es,zLl B.X ms a b)/\es.Pairwise (zLl B.X ms)/\Tr B.X ms sn' (pre++es) rest):=by
   intro sn' env' m S a5 a1 U;obtain⟨es,envF,HF,a6,env2,c1,c2,c3,c4,c5,c6⟩:=xY row sn' env' H' m (pre++[⟨i,o,true,f,H,v,H'⟩]) a1 a5
    (fun q u=>by
     rw[<-hw q (zE _ u)];exact zAg fun d hd=>JP S (fun hc=>hst (i,o) (zF ..) q (zE _ u) d hc hd))
    (fun q u y a2=>hst q (zE _ u) y (zE _ a2))
    (fun ms j=>by
     obtain⟨W,Y,Z⟩:=U ms j;have a7:=(hT ms j).less (sn':=sn') (rest':=row++rest) W (fun b hb=>by simp only[List.cons_append];exact zE _ hb);intro a p a8 t;rcases List.mem_append.1 p with p | p
     .exact a7 a p a8 t
     .simp only[List.mem_singleton]at p;subst p;simp only at t⊢;have a9:jQ (cls B.X o.op)=false:=by rw[t];rfl
      have b0:aL B.X f H o.op=some v:=by
       have:=O;simp only[opF,t,wV]at this;split at this
       .rename_i x hx;simp only[zB,zK]at this;rw[hx,this.1]
       .simp at this
      cases z:kU B.X o.op with
      | true=>exact .inl ⟨_,Z a9 z,rfl,rfl,fun H v hv=>zMZ hl z hv⟩
      | false=>exact .inr (.inl fun H2=>zDe t z b0 H2))
   refine⟨⟨i,o,true,f,H,v,H'⟩::es,envF,HF,a6,env2,⟨rfl,rfl,a0,m,S,c1⟩,by simp[c2], ?_,c4,c5,fun ms j=> ?_⟩
   .intro e F;rcases List.mem_cons.1 F with rfl | F
    .rfl
    .exact c3 e F
   .obtain⟨W,Y,Z⟩:=U ms j;obtain⟨d1,d2,d3⟩:=c6 ms j;have a3:=(hT ms j).see (b:=⟨i,o,true,f,H,v,H'⟩) (by simp) Y;refine⟨fun a p b hb=> ?_,List.Pairwise.cons (fun b hb=>d1 _ (by simp) b hb) d2,by simpa using d3⟩;rcases List.mem_cons.1 hb with rfl | hb
    .exact a3 a p
    .exact d1 a (qC _ p) b hb
  split at C
  .obtain⟨env',m,J,L,N⟩:=zAB C hl;exact V sn env' m J L N (fun ms j=>by simp at j)
  .rename_i ms;obtain⟨sn',k1,k2,k3,k4⟩:=zEE C;obtain⟨env',m,J,L,N⟩:=zAB k1 hl;exact V sn' env' m J L N (fun b1 j=>by injection j with j;subst j;exact⟨k2,k3,k4⟩)
theorem QN {X:Cx}{r:Fns} : ∀ {es:List Ent} {env:Env} {H:AH} {envF:Env} {HF:AH},xJ X r nt ops env H es envF HF-> ∀t,(∀e∈es,e.o.dst≠some t)->look envF t=look env t
 | [],_,_,_,_,h,t,_=>by rw[h.1]
 | e::es,env,H,envF,HF,⟨h1,h2,h3,env',h4,h5⟩,t,ht=>by
  rw[QN h5 t (fun q a=>ht q (zE _ a)),JP h4 (ht e (zF ..))]
theorem fT {X:Cx}{r:Fns} : ∀ {es f:List Ent} {env:Env} {H:AH} {a:Env} {h:AH} {envF:Env} {HF:AH},xJ X r nt ops env H es a h->xJ X r nt ops a h f envF HF->xJ X r nt ops env H (es++f) envF HF
 | [],_,_,_,_,_,_,_,⟨h1,h2⟩,k=>by subst h1 h2;exact k
 | e::es,f,env,H,a,h,envF,HF,⟨h1,h2,h3,env',h4,h5⟩,k=>⟨h1,h2,h3,env',h4,fT h5 k⟩
theorem Q2 {H:AH} : ∀(run:List (Nat×Oper)) (f:Env),(∀a∈run,cD ops f a.2=some false)->(∀a∈run,∀u∈run,∀d,a.2.dst=some d->zBe ops u.2≠some d)->(∀a∈run,∀d,a.2.dst=some d->d<nt)->
  ∃es envF,xJ B.X (rOf B D) nt ops f H es envF H/\es.map (fun e=>(e.i,e.o))=run/\(∀e∈es,e.want=false/\e.H'=H)/\ ∀t,t∈dstsOf run->look envF t=some qX
 | [],f,_,_,_=>⟨[],f,⟨rfl,rfl⟩,rfl,by simp,fun t h=>by simp[dstsOf]at h⟩
 | (i,o)::run,f,hw,hst,hlt=>by
  have x:=hw (i,o) (zF ..);have y:zIb B.X (rOf B D) ops f H i o=some ⟨i,o,false,f,H,qX,H⟩:=by
   simp only at x;simp only[zIb,x]
  have m: ∃s,X9 nt f o.dst qX=some s:=by
   cases hd:o.dst with
   | none=>exact⟨_,rfl⟩
   | some d=>exact⟨upd f d qX,by simp only[X9,cond_eq_ite,zR,if_pos (hlt (i,o) (zF ..) d hd)]⟩
  obtain⟨s,m⟩:=m;obtain⟨es,envF,c1,c2,c3,F⟩:=Q2 run s
   (fun a j=>by
    rw[<-hw a (zE _ j)];exact zAg fun d hd=>JP m (fun v=>hst (i,o) (zF ..) a (zE _ j) d v hd))
   (fun a j u z=>hst a (zE _ j) u (zE _ z))
   (fun a j=>hlt a (zE _ j))
  refine⟨⟨i,o,false,f,H,qX,H⟩::es,envF,⟨rfl,rfl,y,s,m,c1⟩,by simp[c2], ?_,fun t h=> ?_⟩
  .intro e q;rcases List.mem_cons.1 q with rfl | q
   .exact⟨rfl,rfl⟩
   .exact c3 e q
  .by_cases p:t∈dstsOf run
   .exact F t p
   .have C:o.dst=some t:=by
     simp only[dstsOf,List.filterMap_cons]at h p;split at h
     .exact absurd h p
     .rename_i d hd;rcases List.mem_cons.1 h with rfl | h
      .exact hd
      .exact absurd h p
    rw[QN c1 t (fun e q v=>p ?_),gL m,if_pos C];have:(e.i,e.o)∈run:=by rw[<-c2];exact List.mem_map.2 ⟨e,q,rfl⟩
    simp only[dstsOf,List.mem_filterMap];exact⟨_,this,v⟩
end
theorem BD {x:Rs}{K:List AV->AH->Rs}{out:Ex×AH}(h:jn x K=some out):(∃vs H,x=some (.norm vs,H)/\K vs H=some out)\/(∃id vs H,x=some (.exit id vs,H)/\out=(.exit id vs,H))\/(∃v H,x=some (.ret v,H)/\out=(.ret v,H)):=by
 unfold jn at h;split at h
 .exact .inl ⟨_,_,rfl,h⟩
 .injection h with h;exact .inr (.inl ⟨_,_,_,rfl,h.symm⟩)
 .injection h with h;exact .inr (.inr ⟨_,_,rfl,h.symm⟩)
 .simp at h
theorem zJH {a b:Option (Nat×Bool)}(h:zMP a b=true):a=b:=by
 unfold zMP at h;split at h
 .simp only[zC,Nat.beq_eq,beq_iff_eq]at h;rw[h.1,h.2]
 .simp at h
theorem zDh {g:Option (Nat×Bool)} : ∀ {l run rest:List (Nat×Oper)},zAw g l=(run,rest)->l=run++rest/\ ∀i∈run,i.2.guard=g
 | [],run,rest,h=>by simp only[zAw,zK]at h;obtain⟨rfl,rfl⟩:=h;simp
 | o::l,run,rest,h=>by
  simp only[zAw,cond_eq_ite]at h;split at h
  .rename_i m
   cases j:zAw g l with
   | mk a b=>
    rw[j]at h;simp only[zK]at h;obtain⟨rfl,rfl⟩:=h;obtain⟨p,q⟩:=zDh j;refine⟨by rw[p];rfl,fun i f=> ?_⟩;rcases List.mem_cons.1 f with rfl | f
    .exact(zJH m).symm
    .exact q i f
  .simp only[zK]at h;obtain⟨rfl,rfl⟩:=h;simp
section
variable {B:Tb}{D:Dyn}{nt:Nat}{ops:Array Oper}
theorem wS {X:Cx}{masks:Option (List Nat)}{sn:List Seen}{H:AH}{K:Rs}{out:Ex×AH} : ∀ {run:List (Nat×Oper)},zAy X masks sn H K run=some out->K=some out/\ ∀ms,masks=some ms-> ∀b∈run,jQ (cls X b.2.op)=true-> ∀s∈sn,(ms.getD b.1 0).testBit s.i=false->s.rd H=some s.v
 | [],h=>⟨h,by simp⟩
 | b::run,h=>by
  unfold zAy at h;split at h
  .obtain⟨j,_⟩:=wS h;exact⟨j,fun ms a=>by simp at a⟩
  .rename_i ms;rw[cond_eq_ite]at h;split at h
   .obtain⟨j,u⟩:=ZO h;obtain⟨m,o⟩:=wS j;refine⟨m,fun p a q f=> ?_⟩;injection a with a;subst a
    rcases List.mem_cons.1 f with rfl | f
    .exact fun _=>u
    .exact o _ rfl q f
   .rename_i t;obtain⟨m,o⟩:=wS h;refine⟨m,fun p a q f=> ?_⟩;injection a with a;subst a
    rcases List.mem_cons.1 f with rfl | f
    .exact fun x=>absurd x t
    .exact o _ rfl q f
theorem zBD {X:Cx}{r:Fns} : ∀ {es:List Ent} {env:Env} {H:AH} {envF:Env} {HF:AH},xJ X r nt ops env H es envF HF-> ∀e∈es,zIb X r ops e.env e.H e.i e.o=some e
 | [],_,_,_,_,_,e,a=>by simp at a
 | q::es,env,H,envF,HF,⟨h1,h2,h3,env',h4,h5⟩,e,a=>by
  rcases List.mem_cons.1 a with rfl | a
  .rw[h1,h2];exact h3
  .exact zBD h5 e a
theorem zJd {env:Env}{v:AV} : ∀ {L:List Nat},(∀t∈L,look env t=some v)->PK env L (L.map fun _=>v)
 | [],_=>rfl
 | l::L,h=>⟨v,_,rfl,h l (zF ..),zJd fun t a=>h t (zE _ a)⟩
theorem zAR {run rest:List (Nat×Oper)}{t:Nat}(h:t∈Q7 ops run rest):t∈dstsOf run:=by
 simp only[Q7,List.mem_filterMap]at h;obtain⟨a,i,f⟩:=h;simp only[dstsOf,List.mem_filterMap];refine⟨a,i, ?_⟩;split at f
 .rename_i d hd;rw[cond_eq_ite]at f;split at f
  .rw[hd];exact f
  .simp at f
 .simp at f
theorem zGR (masks:Option (List Nat))(K:Env->AH->Rs)(a:Nat)(row:List (Nat×Oper))(sn:List Seen)(env:Env)(H:AH):zDu B D nt ops masks (a+1) K row sn env H=(match row with
   | []=>K env H
   | (i,o)::rest=>match o.guard with
    | none=>zJg B D nt masks (fun sn env H=>zDu B D nt ops masks a K rest sn env H) [(i,o)] sn env H
    | some (j,want)=>match zHm ops env j with
     | none=>none
     | some g=>match zAw o.guard rest with
      | (run,rest)=>bif zNz nt ops j ((i,o)::run)then
        bif zMR B.X masks ((i,o)::run) rest then
         runK B D nt ops masks g want ((i,o)::run) (Q7 ops ((i,o)::run) rest) sn env H fun env H=>zDu B D nt ops masks a K rest sn env H
        else runW B D nt masks g want ((i,o)::run) (Q7 ops ((i,o)::run) rest) sn env H fun sn env H=>zDu B D nt ops masks a K rest sn env H
       else none):=rfl
theorem wU {masks:Option (List Nat)}{K:Env->AH->Rs}{out:Ex×AH} : ∀(fuel:Nat) (row:List (Nat×Oper)) (sn:List Seen) (env:Env) (H:AH) (N:Env) (pre:List Ent),
  zDu B D nt ops masks fuel K row sn env H=some out->Le env N->(∀ms,masks=some ms->Tr B.X ms sn pre row)->
  ∃es envF HF env',xJ B.X (rOf B D) nt ops N H es envF HF/\es.map (fun e=>(e.i,e.o))=row/\Le env' envF/\K env' HF=some out/\
   (∀ms,masks=some ms->(∀a∈pre,∀b∈es,zLl B.X ms a b)/\es.Pairwise (zLl B.X ms))
 | 0,row,sn,env,H,N,pre,h,hl,hT=>by
  have h':(none:Rs)=some out:=h;simp at h'
 | fuel+1,row,sn,env,H,N,pre,h,hl,hT=>by
  have ih:=wU (masks:=masks) (K:=K) (out:=out) fuel;have y:=h;rw[zGR]at y;clear h;split at y
  .exact⟨[],N,H,env,⟨rfl,rfl⟩,rfl,hl,y,fun ms u=>⟨by simp,List.Pairwise.nil⟩⟩
  .rename_i i o rest;split at y
   .rename_i hg;obtain⟨es,envF,HF,sn',env',c1,c2,c3,Y,Z,c6⟩:=xY (ops:=ops) (rest:=rest) [(i,o)] sn env H N pre y hl
     (fun m q=>by simp only[List.mem_singleton]at q;subst q;simp[cD,hg])
     (fun m q a9 a7 d hd=>by simp only[List.mem_singleton]at a7;subst a7;simp[zBe,hg])
     (fun ms u=>by simpa using hT ms u)
    obtain⟨b5,b1,b6,env2,d1,d2,d3,d4,d5⟩:=ih rest sn' env' HF envF (pre++es) Z Y (fun ms u=>(c6 ms u).2.2);refine⟨es++b5,b1,b6,env2,fT c1 d1,by rw[List.map_append,c2,d2];rfl,d3,d4,fun ms u=> ?_⟩;obtain⟨e1,e2,e3⟩:=c6 ms u;obtain⟨f1,f2⟩:=d5 ms u;refine⟨fun a f b hb=> ?_,List.pairwise_append.2 ⟨e2,f2,fun a f b hb=>f1 a (qH _ f) b hb⟩⟩;rcases List.mem_append.1 hb with hb | hb
    .exact e1 a f b hb
    .exact f1 a (qC _ f) b hb
   .rename_i j a8 hg;split at y
    .simp at y
    .rename_i g a2
     cases b9:zAw o.guard rest with
     | mk run rest'=>
      rw[b9]at y;simp only[cond_eq_ite]at y;split at y
      .rename_i a5;obtain⟨d8,d7⟩:=zDh b9;have b2:(i,o)::rest=((i,o)::run)++rest':=by rw[d8];rfl
       generalize d9:(i,o)::run=s at y a5 b2;have c0: ∀m∈s,m.2.guard=some (j,a8):=by
        intro m q;rw[<-d9]at q;rcases List.mem_cons.1 q with rfl | q
        .exact hg
        .rw[d7 m q,hg]
       unfold zHm at a2;unfold zNz at a5;split at a2
       .rename_i p hp;simp only[hp]at a5;split at a2
        .rename_i dg b7;simp only[b7,zC,Bool.not_eq_true',List.contains_eq_mem,decide_eq_false_iff_not,List.all_eq_true,zR]at a5;obtain⟨e5,c9⟩:=a5;have e6: ∀m∈s,zBe ops m.2=some dg:=fun m q=>by simp only[zBe,c0 m q,hp,b7]
         have a3: ∀m∈s,cD ops N m.2=some (isW g a8):=fun m q=>by
          simp only[cD,c0 m q,zFu,hp,b7,hl _ _ a2]
         have a4: ∀m∈s,∀a9∈s,∀d,m.2.dst=some d->zBe ops a9.2≠some d:=fun m q a9 a7 d hd hc=>by
          rw[e6 a9 a7]at hc;injection hc with hc;subst hc
          exact e5 (by simp only[dstsOf,List.mem_filterMap];exact⟨m,q,hd⟩)
         have W: ∀ms,masks=some ms->Tr B.X ms sn pre (s++rest'):=fun ms u=>by rw[<-b2];exact hT ms u
         have key: ∃z C T env2 b0,xJ B.X (rOf B D) nt ops N H z C T/\z.map (fun e=>(e.i,e.o))=s/\Le env2 C/\zDu B D nt ops masks fuel K rest' b0 env2 T=some out/\
           (∀ms,masks=some ms->(∀a∈pre,∀b∈z,zLl B.X ms a b)/\z.Pairwise (zLl B.X ms)/\Tr B.X ms b0 (pre++z) rest'):=by
          have b3: ∀ {z:List Ent} {C:Env} {T:AH} {env2:Env},xJ B.X (rOf B D) nt ops N H z C T->z.map (fun e=>(e.i,e.o))=s->
            (∀t,t∉Q7 ops s rest'->look env2 t=look (BV (dstsOf s) env) t)->(∀t x,t∈Q7 ops s rest'->look env2 t=some x->look C t=some x)->Le env2 C:=by
           intro z C T env2 hc hm J O t x L;by_cases F:t∈Q7 ops s rest'
           .exact O t x F L
           .rw[J t F,VX]at L;split at L
            .simp at L
            .rename_i e7;rw[QN hc t (fun e he e8=>e7 ?_)]
             .exact hl t x L
             .have:(e.i,e.o)∈s:=by rw[<-hm];exact List.mem_map.2 ⟨e,he,rfl⟩
              simp only[dstsOf,List.mem_filterMap];exact⟨_,this,e8⟩
          split at y
          .rename_i b8;unfold runK at y
           cases U:isW g a8 with
           | true=>
            simp only[wnt,U,cond_true]at y;have L: ∃vs S,zJg B D nt masks (fun _ env H=>pck (Q7 ops s rest') env fun vs=>some (.norm vs,H)) s sn env H=some (.norm vs,S)/\(unp (Q7 ops s rest') vs (BV (dstsOf s) env) fun env=>zDu B D nt ops masks fuel K rest' sn env S)=some out/\True:=by
             rcases BD y with⟨vs,S,J,O⟩ | ⟨id,vs,S,J,O⟩ | ⟨v,S,J,O⟩
             .exact⟨vs,S,J,O,trivial⟩
             .obtain⟨_,_,_,_,_,_,_,_,_,Z,_⟩:=xY (ops:=ops) (rest:=rest') s sn env H N pre J hl (fun m q=>by rw[a3 m q,U]) a4 W;obtain⟨_,_,c7⟩:=jA Z;simp at c7
             .obtain⟨_,_,_,_,_,_,_,_,_,Z,_⟩:=xY (ops:=ops) (rest:=rest') s sn env H N pre J hl (fun m q=>by rw[a3 m q,U]) a4 W;obtain⟨_,_,c7⟩:=jA Z;simp at c7
            obtain⟨vs,S,J,O,_⟩:=L;obtain⟨z,C,T,d0,b4,c1,c2,c3,Y,Z,c6⟩:=xY (ops:=ops) (rest:=rest') s sn env H N pre J hl (fun m q=>by rw[a3 m q,U]) a4 W;obtain⟨vs',c7,c8⟩:=jA Z;simp only[zB,zK,Ex.norm.injEq]at c8;obtain⟨rfl,rfl⟩:=c8;obtain⟨env2,u1,u2⟩:=aJ O b4 c7;refine⟨z,C,T,env2,sn,c1,c2,b3 c1 c2 (fun t F=>(u2 t).2 F) (fun t x F L=>Y t x (by rw[<-(u2 t).1 F];exact L)),u1,fun ms u=> ?_⟩;obtain⟨e1,e2,e3⟩:=c6 ms u;refine⟨e1,e2,fun a f V a1=> ?_⟩;rcases List.mem_append.1 f with f | f
            .exact((W ms u).less (fun _ h=>h) (fun b hb=>qH _ hb)) a f V a1
            .have e0:=zBD c1 a f;have a6:=(WE _ _ _ e0).2.1 V;have e9:aL B.X a.env a.H a.o.op=some a.v:=by
              simp only[opF,a1,wV]at a6;split at a6
              .rename_i x L;simp only[zB,zK]at a6;rw[L,a6.1]
              .simp at a6
             cases d6:kU B.X a.o.op with
             | false=>exact .inr (.inl fun H2=>zDe a1 d6 e9 H2)
             | true=>
              refine .inr (.inr fun b hb he=> ?_);simp only[zMR,zFF,u,List.all_eq_true,Bool.or_eq_true,Bool.not_eq_true']at b8;have a0:(a.i,a.o)∈s:=by rw[<-c2];exact List.mem_map.2 ⟨a,f,rfl⟩
              rcases b8 _ a0 with hr | hr
              .simp only at hr;rw[d6]at hr;simp at hr
              .rcases hr b hb with hr | hr
               .rw[he]at hr;simp at hr
               .exact hr
           | false=>
            simp only[wnt,U,cond_false]at y;have L: ∃vs S,zAy B.X masks sn H (some (.norm ((Q7 ops s rest').map fun _=>qX),H)) s=some (.norm vs,S)/\(unp (Q7 ops s rest') vs (BV (dstsOf s) env) fun env=>zDu B D nt ops masks fuel K rest' sn env S)=some out:=by
             rcases BD y with⟨vs,S,J,O⟩ | ⟨id,vs,S,J,O⟩ | ⟨v,S,J,O⟩
             .exact⟨vs,S,J,O⟩
             .have:=(wS J).1;simp at this
             .have:=(wS J).1;simp at this
            obtain⟨vs,S,J,O⟩:=L;obtain⟨h3,h4⟩:=wS J;simp only[zB,zK,Ex.norm.injEq]at h3;obtain⟨rfl,rfl⟩:=h3;obtain⟨z,C,c1,c2,c3,Y⟩:=Q2 (B:=B) (D:=D) (nt:=nt) (ops:=ops) (H:=H) s N (fun m q=>by rw[a3 m q,U]) a4 (fun m q d hd=>c9 d (by simp only[dstsOf,List.mem_filterMap];exact⟨m,q,hd⟩));obtain⟨env2,u1,u2⟩:=aJ O C (zJd fun t F=>Y t (zAR F));refine⟨z,C,H,env2,sn,c1,c2,b3 c1 c2 (fun t F=>(u2 t).2 F) (fun t x F L=>by rw[<-(u2 t).1 F];exact L),u1,fun ms u=>⟨fun a f b hb=> ?_, ?_,fun a f V a1=> ?_⟩⟩
            .have a0:(b.i,b.o)∈s:=by rw[<-c2];exact List.mem_map.2 ⟨b,hb,rfl⟩
             refine(W ms u).see (qC _ a0) (fun he=> ?_) a f;rw[(c3 b hb).2];exact h4 ms u _ a0 he
            .refine List.Pairwise.imp_of_mem (R:=fun _ _=>True) (fun {a b} f _ _ hw=> ?_) (List.pairwise_of_forall fun _ _=>trivial);rw[(c3 a f).1]at hw;simp at hw
            .rcases List.mem_append.1 f with f | f
             .exact((W ms u).less (fun _ h=>h) (fun b hb=>qH _ hb)) a f V a1
             .rw[(c3 a f).1]at V;simp at V
          .unfold runW at y
           cases U:isW g a8 with
           | true=>
            simp only[wnt,U,cond_true]at y;obtain⟨z,C,T,d0,b4,c1,c2,c3,Y,Z,c6⟩:=xY (ops:=ops) (rest:=rest') s sn env H N pre y hl (fun m q=>by rw[a3 m q,U]) a4 W;exact⟨z,C,T,b4,d0,c1,c2,Y,Z,fun ms u=>c6 ms u⟩
           | false=>
            simp only[wnt,U,cond_false]at y;obtain⟨O,h4⟩:=wS y;obtain⟨z,C,c1,c2,c3,Y⟩:=Q2 (B:=B) (D:=D) (nt:=nt) (ops:=ops) (H:=H) s N (fun m q=>by rw[a3 m q,U]) a4 (fun m q d hd=>c9 d (by simp only[dstsOf,List.mem_filterMap];exact⟨m,q,hd⟩));obtain⟨env2,u1,u2⟩:=aJ O C (zJd fun t F=>Y t (zAR F));refine⟨z,C,H,env2,sn,c1,c2,b3 c1 c2 (fun t F=>(u2 t).2 F) (fun t x F L=>by rw[<-(u2 t).1 F];exact L),u1,fun ms u=>⟨fun a f b hb=> ?_, ?_,fun a f V a1=> ?_⟩⟩
            .have a0:(b.i,b.o)∈s:=by rw[<-c2];exact List.mem_map.2 ⟨b,hb,rfl⟩
             refine(W ms u).see (qC _ a0) (fun he=> ?_) a f;rw[(c3 b hb).2];exact h4 ms u _ a0 he
            .refine List.Pairwise.imp_of_mem (R:=fun _ _=>True) (fun {a b} f _ _ hw=> ?_) (List.pairwise_of_forall fun _ _=>trivial);rw[(c3 a f).1]at hw;simp at hw
            .rcases List.mem_append.1 f with f | f
             .exact((W ms u).less (fun _ h=>h) (fun b hb=>qH _ hb)) a f V a1
             .rw[(c3 a f).1]at V;simp at V
         obtain⟨z,C,T,env2,b0,k1,k2,k3,k4,k5⟩:=key;obtain⟨b5,b1,b6,e4,d1,d2,d3,d4,d5⟩:=ih rest' b0 env2 T C (pre++z) k4 k3 (fun ms u=>(k5 ms u).2.2);refine⟨z++b5,b1,b6,e4,fT k1 d1,by rw[List.map_append,k2,d2,b2],d3,d4,fun ms u=> ?_⟩;obtain⟨e1,e2,e3⟩:=k5 ms u;obtain⟨f1,f2⟩:=d5 ms u;refine⟨fun a f b hb=> ?_,List.pairwise_append.2 ⟨e2,f2,fun a f b hb=>f1 a (qH _ f) b hb⟩⟩;rcases List.mem_append.1 hb with hb | hb
         .exact e1 a f b hb
         .exact f1 a (qC _ f) b hb
        .simp at a2
       .simp at a2
      .simp at y
end
def Marks (lo:Nat)(R:Ren)(w:World)(f:List Deferred):Prop:=
 f.Pairwise (fun a b=> ∀r,a=⟨.collected r, #[]⟩->b≠⟨.collected r, #[]⟩)/\
 ∀d∈f,∃r,d=⟨.collected r, #[]⟩/\lo<=r/\r<w.heap.size/\(∀A d c,¬R A r d c)/\w.heap[r]? =some (.deferred (some []))
theorem Marks.nil (lo:Nat)(R:Ren)(w:World):Marks lo R w []:=⟨List.Pairwise.nil,by simp⟩
theorem Marks.ext {lo:Nat}{R i:Ren}{H H':AH}{w j:World}{m:List Deferred}(h:Marks lo R w m)(k:Ext R H w i H' j):Marks lo i j m:=by
 refine⟨h.1,fun d hd=> ?_⟩;obtain⟨r,p,q,o,f,s⟩:=h.2 d hd;refine⟨r,p,q,zY o k.size,fun A d c hr=> ?_,by rw[k.keep r o f];exact s⟩;rcases k.new _ _ _ _ hr with a | a | ⟨t,u,v,a⟩
 .exact f _ _ _ a
 .omega
 .exact f _ _ _ a
def Ends (k:List Item)(h:Env->AH->Prop)(f:Nat->Env->AH->Prop)(i:Env->AH->Prop)(a:List Item)(env:Env)(H:AH):Prop:=
 (a=k/\h env H)\/(∃id k',a= .code (.exit id)::k'/\exitTo id k'=exitTo id k/\f id env H)\/(∃k',a= .code .ret::k'/\i env H)
def XJ (P:Program)(nt:Nat)(f0:FuncId)(ro:Bool)(q:Item)(env:Env)(H:AH)(o:Env->AH->Prop)(m:Nat->Env->AH->Prop)(p:Env->AH->Prop):Prop:=
 ∀(lo:Nat) (R:Ren) (fr:Frame) (k:List Item) (cs:List Frame) (w:World),fr.mode= .run->(ro=false->fr.roundOf=none/\fr.fn=f0)->fr.todo=q::k->EnvR R env nt fr.tmps->Rel R H w->Marks lo R w fr.defers->lo<=w.heap.size->
  ∃a f h i j env' H',Steps P (lone fr cs w) (lone { fr with tmps:=h,todo:=i,defers:=j} cs f)/\EnvR a env' nt h/\Rel a H' f/\Ext R H w a H' f/\H.next<=H'.next/\Marks lo a f j/\Ends k o m p i env' H'
theorem XJ.mono {P:Program}{nt:Nat}{f0:FuncId}{ro:Bool}{q:Item}{env:Env}{H:AH}{o f:Env->AH->Prop}{j a:Nat->Env->AH->Prop}{p m:Env->AH->Prop}(h:XJ P nt f0 ro q env H o j p)
  (u: ∀e H',o e H'->f e H') (v: ∀i e H',j i e H'->a i e H') (x: ∀e H',p e H'->m e H'):XJ P nt f0 ro q env H f a m:=by
 intro lo R fr k cs w hm s y z hL C t;obtain⟨F,J,K,L,N,env',H',O,S,T,U,V,W,Y⟩:=h lo R fr k cs w hm s y z hL C t;refine⟨F,J,K,L,N,env',H',O,S,T,U,V,W, ?_⟩;rcases Y with⟨b1,b2⟩ | ⟨id,k',b1,b2,Z⟩ | ⟨k',b1,b2⟩
 .exact .inl ⟨b1,u _ _ b2⟩
 .exact .inr (.inl ⟨id,k',b1,b2,v _ _ _ Z⟩)
 .exact .inr (.inr ⟨k',b1,x _ _ b2⟩)
theorem XJ.then {P:Program}{nt:Nat}{f0:FuncId}{ro:Bool}{V:Item}{env:Env}{H:AH}{N:Env->AH->Prop}{t:Nat->Env->AH->Prop}{u:Env->AH->Prop}{O:Env->AH->Prop}
  (o:List Item) (W: ∀id k,exitTo id (o++k)=exitTo id k)
  (h:XJ P nt f0 ro V env H O t u)
  (g: ∀j i,O j i-> ∀(lo:Nat) (R:Ren) (fr:Frame) (k:List Item) (cs:List Frame) (w:World),fr.mode= .run->(ro=false->fr.roundOf=none/\fr.fn=f0)->fr.todo=o++k->EnvR R j nt fr.tmps->Rel R i w->Marks lo R w fr.defers->lo<=w.heap.size->
   ∃a f m p q env' H',Steps P (lone fr cs w) (lone { fr with tmps:=m,todo:=p,defers:=q} cs f)/\EnvR a env' nt m/\Rel a H' f/\Ext R i w a H' f/\i.next<=H'.next/\Marks lo a f q/\Ends k N t u p env' H')
  (lo:Nat) (R:Ren) (fr:Frame) (k:List Item) (cs:List Frame) (w:World) (hm:fr.mode= .run) (S:ro=false->fr.roundOf=none/\fr.fn=f0) (ht:fr.todo=V::(o++k)) (hE:EnvR R env nt fr.tmps) (hL:Rel R H w) (hM:Marks lo R w fr.defers) (T:lo<=w.heap.size):
   ∃a f m p q env' H',Steps P (lone fr cs w) (lone { fr with tmps:=m,todo:=p,defers:=q} cs f)/\EnvR a env' nt m/\Rel a H' f/\Ext R H w a H' f/\H.next<=H'.next/\Marks lo a f q/\Ends k N t u p env' H':=by
 obtain⟨x,y,z,U,v,j,i,C,F,J,s,K,L,a7⟩:=h lo R fr (o++k) cs w hm S ht hE hL hM T;rcases a7 with⟨rfl,b2⟩ | ⟨id,k',b1,b2,b3⟩ | ⟨k',b1,b2⟩
 .obtain⟨R2,w2,t2,Y,Z,env2,H2,c1,c2,c3,c4,c5,c6,c7⟩:=g j i b2 lo x { fr with tmps:=z,todo:=o++k,defers:=v} k cs y hm S rfl F J L (Nat.le_trans T s.size);exact⟨R2,w2,t2,Y,Z,env2,H2,C.trans c1,c2,c3,s.trans c4,Nat.le_trans K c5,c6,c7⟩
 .exact⟨x,y,z,U,v,j,i,C,F,J,s,K,L, .inr (.inl ⟨id,k',b1,by rw[b2,W],b3⟩)⟩
 .exact⟨x,y,z,U,v,j,i,C,F,J,s,K,L, .inr (.inr ⟨k',b1,b2⟩)⟩
theorem XJ.step {P:Program}{nt:Nat}{H:AH}{fr q:Frame}{k:List Item}{cs:List Frame}{w:World}{lo:Nat}{R:Ren}{o:Env->AH->Prop}{m:Nat->Env->AH->Prop}{p:Env->AH->Prop}{s:List Item}
  (t:step P (lone fr cs w)= .next (lone q cs w)) (u:q= { fr with todo:=s})
  (g: ∃a f j h i env' H',Steps P (lone { fr with todo:=s} cs w) (lone { fr with tmps:=j,todo:=h,defers:=i} cs f)/\EnvR a env' nt j/\Rel a H' f/\Ext R H w a H' f/\H.next<=H'.next/\Marks lo a f i/\Ends k o m p h env' H'):
  ∃a f j h i env' H',Steps P (lone fr cs w) (lone { fr with tmps:=j,todo:=h,defers:=i} cs f)/\EnvR a env' nt j/\Rel a H' f/\Ext R H w a H' f/\H.next<=H'.next/\Marks lo a f i/\Ends k o m p h env' H':=by
 subst u;obtain⟨a,f,v,h,i,env',H',x,y⟩:=g;exact⟨a,f,v,h,i,env',H',(Steps.one t).trans x,y⟩
theorem BF: ∀(l:List Oper) (n:Nat),(idx l n).map (·.1)=(List.range l.length).map (n+ ·)/\ ∀a∈idx l n,n<=a.1/\l[a.1 - n]? =some a.2
 | [],n=>by simp[idx]
 | o::l,n=>by
  obtain⟨h,i⟩:=BF l (n+1);refine⟨?_,fun a f=> ?_⟩
  .simp only[idx,List.map_cons,h,zO,List.range_succ_eq_map,List.map_map];simp only[Nat.add_zero,List.cons.injEq,true_and];apply List.map_congr_left;intro x _;simp only[Function.comp];omega
  .simp only[idx,List.mem_cons]at f;rcases f with rfl | f
   .simp
   .obtain⟨m,j⟩:=i a f;refine⟨by omega, ?_⟩;rw[show a.1 - n=(a.1 - (n+1))+1 from by omega,List.getElem?_cons_succ];exact j
section
variable {P:Program}{B:Tb}{D:Dyn}(hX:Ok P B.X)(hr:Good P (rOf B D)){nt:Nat}
include hX hr in
theorem WK {ops:Array Oper} : ∀ {es:List Ent} {env:Env} {H:AH} {envF:Env} {HF:AH},xJ B.X (rOf B D) nt ops env H es envF HF->(∀e∈es,ops[e.i]? =some e.o)->
  ∀(R:Ren) (fr:Frame) (k:List Item) (cs:List Frame) (w:World),fr.mode= .run->fr.todo= .inRegion ops (es.map (·.i))::k->EnvR R env nt fr.tmps->Rel R H w->
  ∃s t x,Steps P (lone fr cs w) (lone { fr with tmps:=x,todo:= .inRegion ops []::k} cs t)/\EnvR s envF nt x/\Rel s HF t/\Ext R H w s HF t
 | [],env,H,envF,HF,⟨h1,h2⟩,_,R,fr,k,cs,w,hm,ht,hE,hL=>by
  subst h1 h2;refine⟨R,w,fr.tmps, ?_,hE,hL,Ext.refl R H w⟩;have:({ fr with tmps:=fr.tmps,todo:= .inRegion ops []::k} :Frame)=fr:=by
   have a:fr.todo= .inRegion ops []::k:=ht;rw[<-a]
  rw[this];exact .refl _ _
 | e::es,env,H,envF,HF,⟨h1,h2,h3,env',h4,h5⟩,hmem,R,fr,k,cs,w,hm,ht,hE,hL=>by
  have u:=hmem e (zF ..);obtain⟨F,y,C⟩:=WE _ _ _ h3;have j:=zC1 hE F;have a:fr.todo= .inRegion ops (e.i::es.map (·.i))::k:=ht;have key: ∃f h z,Steps P (lone fr cs w) (lone { fr with tmps:=zBY fr.tmps e.o.dst z,todo:= .inRegion ops (es.map (·.i))::k} cs h)/\VR f e.v z/\Rel f e.H' h/\Ext R H w f e.H' h:=by
   cases m:e.want with
   | true=>
    rw[m]at j;exact zDw hX hr (cs:=cs) hm a u j hE hL (y m)
   | false=>
    rw[m]at j;obtain⟨J,p⟩:=C m;refine⟨R,w,undef, ?_,by rw[J];exact zA8 R,by rw[p];exact hL,by rw[p];exact Ext.refl R H w⟩;rw[<-yI a u];exact .one (JJ hm a u j)
  obtain⟨f,h,z,K,L,l1,x1⟩:=key;obtain⟨N,O,S,T,p,U,x2⟩:=WK h5 (fun q V=>hmem q (zE _ V)) f { fr with tmps:=zBY fr.tmps e.o.dst z,todo:= .inRegion ops (es.map (·.i))::k} k cs h hm rfl ((hE.mono x1.sub).put L h4) l1;exact⟨N,O,S,K.trans T,p,U,x1.trans x2⟩
include hX hr in
theorem zMY {ops:Array Oper}{f:Bool}{K:Env->AH->Rs}{env:Env}{H:AH}{out:Ex×AH}{id:Nat}(h:zOt B D nt ops f K env H=some out)(f0:FuncId)(ro:Bool)(q:Nat->Env->AH->Prop)(s:Env->AH->Prop):
  XJ P nt f0 ro (.code (.region id ops f)) env H (fun env' H'=>K env' H'=some out) q s:=by
 unfold zOt at h;rw[cond_eq_ite]at h;have t: ∀ {env' envF:Env} {HF:AH},zJb P nt (.region id ops f) env H .normal envF HF->Le env' envF->H.next<=HF.next->K env' HF=some out->
   XJ P nt f0 ro (.code (.region id ops f)) env H (fun env' H'=>K env' H'=some out) q s:=by
  intro env' envF HF J hl L N lo R fr k cs w hm _ j m hL O a0;obtain⟨S,T,U,V,W,v,Y,Z,x⟩:=J R fr k cs w hm j m hL;simp only[Out]at v;subst v;exact⟨S,T,U,V,fr.defers,env',HF,W,Y.le hl,Z,x,L,O.ext x, .inl ⟨rfl,N⟩⟩
 split at h
 .rename_i hd;subst hd;split at h
  .rename_i row masks z;obtain⟨es,envF,HF,env',c1,c2,c3,p,c5⟩:=wU _ row [] env H env [] h (Le.refl env) (fun ms u=>by intro a ha;simp at ha);exact t (zIj hX hr hr.mono z c1 c2 (c5 _ rfl).2) c3 (jH hr.mono c1).1 p
  .simp at h
 .rename_i hd;have F:f=false:=by simpa using hd
  subst F;obtain⟨es,envF,HF,env',c1,c2,c3,p,_⟩:=wU _ _ [] env H env [] h (Le.refl env) (fun ms u=>by simp at u);refine t ?_ c3 (jH hr.mono c1).1 p;intro R fr k cs w hm j m hL;obtain⟨i1,i2⟩:=BF ops.toList 0;have hi:es.map (·.i)=List.range ops.size:=by
   have:es.map (·.i)=(idx ops.toList 0).map (·.1):=by rw[<-c2];simp
   rw[this,i1];simp
  have C: ∀e∈es,ops[e.i]? =some e.o:=by
   intro e he;have:(e.i,e.o)∈idx ops.toList 0:=by rw[<-c2];exact List.mem_map.2 ⟨e,he,rfl⟩
   have:=(i2 _ this).2;simpa using this
  obtain⟨R1,w1,y,s1,e1,l1,x1⟩:=WK hX hr c1 C R { fr with todo:= .inRegion ops (List.range ops.size)::k} k cs w hm (by rw[hi]) m hL;exact⟨R1,w1,y,k,(Steps.one (aR hm j)).trans (s1.trans (.one (kD (fr:= { fr with tmps:=y,todo:= .inRegion ops []::k}) hm rfl))),rfl,e1,l1,x1⟩
end
end Go.Eng
end

