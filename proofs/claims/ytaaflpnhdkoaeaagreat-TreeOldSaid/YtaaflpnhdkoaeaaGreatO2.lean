/- A checked evaluator for the program, and what it tells, part 2: no condition. -/
import Derived.Test.YtaaflpnhdkoaeaaGreatO1
import Derived.RangeFuncRecord
import Derived.Orders
set_option linter.all false
set_option linter.unusedVariables false
set_option linter.unusedSimpArgs false
set_option maxHeartbeats 8000000
set_option maxRecDepth 20000
section
namespace Go.Eng
theorem VD {P:Program}{w w':World}{t u ty e:TypeId}{du:TypeDesc}{sz n sLen sCap:Nat}{base:Option Addr}{xv:Value}{vs:Array Value}(ht:(underlying t).run P w= .ok (.slice e) w)(hu:(underlying u).run P w= .ok du w)(hdu: ∀k,du≠ .int k)
  (hsz:(sizeOf e).run P w= .ok sz w) (hn:(Builtin.lenOf xv).run P w= .ok n w) (hf:(Builtin.firstCells sz n xv).run P w= .ok vs w) (hle:sLen+n<=sCap)
  (hs:(match base with | some a=>storeCells (a.add (sLen*sz)) vs.toList | none=>pure ()).run P w= .ok () w'):
  (Builtin.append_ #[t,u] ty #[.slice base sLen sCap,xv]).run P w= .ok (.slice base (sLen+n) sCap) w':=by
 have hz:(match du with | .int _=>true | _=>false)=false:=by
  cases du<;>first | rfl | exact absurd rfl (hdu _)
 cases base with
 | none=>
  simp only[Sem.run_pure,Result.ok.injEq,true_and]at hs;subst hs;simp[Builtin.append_,Sem.run_bind,ht,hu,hsz,hz,hn,hle,hf,Sem.run_pure]
 | some a=>
  simp[Builtin.append_,Sem.run_bind,ht,hu,hsz,hz,hn,hle,hf,hs,Sem.run_pure]
theorem run_append_grow {P:Program}{w:World}{t u ty e:TypeId}{du:TypeDesc}{ti:TypeInfo}{zv:Value}{n sLen sCap:Nat}{base:Option Addr}{xv:Value}{vs old:Array Value}(ht:(underlying t).run P w= .ok (.slice e) w)(hu:(underlying u).run P w= .ok du w)(hdu: ∀k,du≠ .int k)
  (hi:P.info? e=some ti) (hz:ti.zero=some zv) (hn:(Builtin.lenOf xv).run P w= .ok n w) (hf: ∀w',w'.heap=w.heap->(Builtin.firstCells ti.size n xv).run P w'= .ok vs w')
  (ho: ∀w',w'.heap=w.heap->(Builtin.firstCells ti.size sLen (.slice base sLen sCap)).run P w'= .ok old w') (hlt:sCap<sLen+n) (hb:(sLen+n+(sLen+n) / 4+192)*ti.bytes<=281474976710656) (h63:sLen+n<4611686018427387904):
  ∃cap,sLen+n<=cap/\cap<9223372036854775808/\(Builtin.append_ #[t,u] ty #[.slice base sLen sCap,xv]).run P w=
   .ok (.slice (some ⟨w.heap.size,0,none⟩) (sLen+n) cap) (World.alloc w.drew (.cells (old++vs++Builtin.zeroCells zv.cells (cap - (sLen+n))) e)):=by
 have hzz:(match du with | .int _=>true | _=>false)=false:=by
  cases du<;>first | rfl | exact absurd rfl (hdu _)
 have hfit:=growslice_fits_wide (bytes:=ti.bytes) hlt hb;refine⟨Question.cut (.appendCap (sLen+n) sCap e) (w.tape w.drawn (.appendCap (sLen+n) sCap e)),by simp only[Question.cut];omega,by
   simp only[Question.cut];have:=Nat.mod_lt (w.tape w.drawn (.appendCap (sLen+n) sCap e)) (show 2 ^ 63 - (sLen+n)>0 by omega);omega, ?_⟩
 generalize hcap:Question.cut (.appendCap (sLen+n) sCap e) (w.tape w.drawn (.appendCap (sLen+n) sCap e))=cap;have hq:(choose (.appendCap (sLen+n) sCap e)).run P w= .ok cap { w with drawn:=w.drawn+1} :=by
  simp only[choose,Sem.run,Question.forced,Bool.false_eq_true,if_false,hcap]
 have hsz: ∀w',(sizeOf e).run P w'= .ok ti.size w':=fun w'=>by simp[sizeOf,typeInfo,hi]
 have hti: ∀w',(typeInfo e).run P w'= .ok ti w':=fun w'=>by simp[typeInfo,hi]
 have hzv: ∀w',(zeroValue e).run P w'= .ok zv w':=fun w'=>by simp[zeroValue,typeInfo,hi,hz]
 have hle: ¬sLen+n<=sCap:=by omega
 have hbig: ¬((sLen+n:Nat):Int)>IntKind.i64.max:=by
  simp only[IntKind.max,IntKind.signed,IntKind.bits];simp;omega
 have hroom: ∀(b:Nat) w',(askRoom b).run P w'= .ok () w':=fun b w'=>by unfold askRoom;split<;>rfl
 have hnf: ¬Builtin.nextslicecap (sLen+n) sCap*ti.bytes>2 ^ 48:=by omega
 have hf':=hf w.drew rfl;have ho':=ho w.drew rfl;have hbig': ¬(((sLen:Int)+(n:Int))>IntKind.i64.max):=by simpa using hbig
 have hb2: ¬(9223372036854775807< (sLen:Int)+(n:Int)/\ti.bytes=0):=by omega
 have hforced:(Question.appendCap (sLen+n) sCap e).forced=false:=rfl;have hnf': ¬281474976710656<Builtin.nextslicecap (sLen+n) sCap*ti.bytes:=by omega
 simp[Builtin.append_,Sem.run_bind,ht,hu,hsz,hzz,hn,hle,hti,hb2,hnf',hforced,hcap,hroom,ho',hf',hzv,newRow,newObj,Sem.run,Sem.run_pure]
structure AppSrc (P:Program)(w:World)(t u ty e:TypeId)(ti:TypeInfo)(zv xv:Value)(n:Nat)(vs:Array Value):Prop where
 fits: ∀(base:Option Addr) (sLen sCap:Nat) (w':World),sLen+n<=sCap->(match base with | some a=>storeCells (a.add (sLen*ti.size)) vs.toList | none=>pure ()).run P w= .ok () w'->
  (Builtin.append_ #[t,u] ty #[.slice base sLen sCap,xv]).run P w= .ok (.slice base (sLen+n) sCap) w'
 grows: ∀(base:Option Addr) (sLen sCap:Nat) (old:Array Value),(∀w',w'.heap=w.heap->(Builtin.firstCells ti.size sLen (.slice base sLen sCap)).run P w'= .ok old w')->sCap<sLen+n->
  (sLen+n+(sLen+n) / 4+192)*ti.bytes<=281474976710656->sLen+n<4611686018427387904->
  ∃cap,sLen+n<=cap/\cap<9223372036854775808/\(Builtin.append_ #[t,u] ty #[.slice base sLen sCap,xv]).run P w=
   .ok (.slice (some ⟨w.heap.size,0,none⟩) (sLen+n) cap) (World.alloc w.drew (.cells (old++vs++Builtin.zeroCells zv.cells (cap - (sLen+n))) e))
theorem AppSrc.plain {P:Program}{w:World}{t u ty e:TypeId}{du:TypeDesc}{ti:TypeInfo}{zv:Value}{n:Nat}{xv:Value}{vs:Array Value}(ht:(underlying t).run P w= .ok (.slice e) w)(hu:(underlying u).run P w= .ok du w)(hdu: ∀k,du≠ .int k)
  (hi:P.info? e=some ti) (hz:ti.zero=some zv) (hn:(Builtin.lenOf xv).run P w= .ok n w) (hf: ∀w',w'.heap=w.heap->(Builtin.firstCells ti.size n xv).run P w'= .ok vs w'):AppSrc P w t u ty e ti zv xv n vs:=
 ⟨fun _ _ _ _ hle hs=>VD ht hu hdu (by simp[sizeOf,typeInfo,hi]) hn (hf w rfl) hle hs,
  fun _ _ _ _ ho hlt hb h63=>run_append_grow ht hu hdu hi hz hn hf ho hlt hb h63⟩
theorem AppSrc.zeros {P:Program}{w:World}{t u ty e:TypeId}{k:IntKind}{ti:TypeInfo}{zv:Value}{n:Nat}(ht:(underlying t).run P w= .ok (.slice e) w)(hu:(underlying u).run P w= .ok (.int k) w)
  (hi:P.info? e=some ti) (hz:ti.zero=some zv) (hpos:0<ti.size) (hn:n<4611686018427387904) (hb:n*ti.bytes<=281474976710656):AppSrc P w t u ty e ti zv (.int .i64 (n:Int)) n (Builtin.zeroCells zv.cells n):=by
 have hsz: ∀w',(sizeOf e).run P w'= .ok ti.size w':=fun w'=>by simp[sizeOf,typeInfo,hi]
 have hti: ∀w',(typeInfo e).run P w'= .ok ti w':=fun w'=>by simp[typeInfo,hi]
 have hzv: ∀w',(zeroValue e).run P w'= .ok zv w':=fun w'=>by simp[zeroValue,typeInfo,hi,hz]
 have hwrap:IntKind.i64.wrap (n:Int)=n:=xO (by simp only[IntKind.min,IntKind.signed,IntKind.bits];simp) (by simp only[IntKind.max,IntKind.signed,IntKind.bits];simp;omega);have h1: ¬((n:Int)<0):=by omega
 have h2: ¬((n:Int)*(ti.bytes:Int)>2 ^ 48):=by
  have:((n*ti.bytes:Nat):Int)<=281474976710656:=by omega
  simp at this;simp;omega
 have h2': ¬(281474976710656< (n:Int)*(ti.bytes:Int)):=by simpa using h2
 have hai: ∀w':World,(asInt (.int .i64 (n:Int))).run P w'= .ok (n:Int) w':=fun w'=>by simp[asInt,asIntOf]
 have hz0:n*ti.size=0->Builtin.zeroCells zv.cells n= #[]:=by
  intro h0;have:n=0:=by
   rcases Nat.mul_eq_zero.1 h0 with h | h
   .exact h
   .omega
  subst this;simp[Builtin.zeroCells]
 refine⟨fun base sLen sCap w' hle hs=> ?_,fun base sLen sCap old ho hlt hb' h63=> ?_⟩
 .by_cases h0:n*ti.size=0
  .rw[hz0 h0]at hs
   cases base with
   | none=>
    simp only[Sem.run_pure,Result.ok.injEq,true_and]at hs;subst hs;simp[Builtin.append_,Sem.run_bind,ht,hu,hsz,hai,hwrap,h1,hti,h2',hle,h0,Sem.run_pure]
   | some a=>
    simp only at hs;simp[Builtin.append_,Sem.run_bind,ht,hu,hsz,hai,hwrap,h1,hti,h2',hle,h0,hs,Sem.run_pure]
  .cases base with
   | none=>
    simp only[Sem.run_pure,Result.ok.injEq,true_and]at hs;subst hs;simp[Builtin.append_,Sem.run_bind,ht,hu,hsz,hai,hwrap,h1,hti,h2',hle,h0,hzv,Sem.run_pure]
   | some a=>
    simp only at hs;simp[Builtin.append_,Sem.run_bind,ht,hu,hsz,hai,hwrap,h1,hti,h2',hle,h0,hzv,hs,Sem.run_pure]
 .have hfit:=growslice_fits_wide (bytes:=ti.bytes) hlt hb';refine⟨Question.cut (.appendCap (sLen+n) sCap e) (w.tape w.drawn (.appendCap (sLen+n) sCap e)),by simp only[Question.cut];omega,by
   simp only[Question.cut];have:=Nat.mod_lt (w.tape w.drawn (.appendCap (sLen+n) sCap e)) (show 2 ^ 63 - (sLen+n)>0 by omega);omega, ?_⟩
  generalize hcap:Question.cut (.appendCap (sLen+n) sCap e) (w.tape w.drawn (.appendCap (sLen+n) sCap e))=cap;have hle: ¬sLen+n<=sCap:=by omega
  have hroom: ∀(b:Nat) w',(askRoom b).run P w'= .ok () w':=fun b w'=>by unfold askRoom;split<;>rfl
  have ho':=ho w.drew rfl;have hb2: ¬(9223372036854775807< (sLen:Int)+(n:Int)):=by omega
  have hforced:(Question.appendCap (sLen+n) sCap e).forced=false:=rfl;have hnf': ¬281474976710656<Builtin.nextslicecap (sLen+n) sCap*ti.bytes:=by omega
  by_cases h0:n*ti.size=0
  .rw[hz0 h0];simp[Builtin.append_,Sem.run_bind,ht,hu,hsz,hai,hwrap,h1,hti,h2',hle,hb2,hnf',hforced,hcap,hroom,ho',h0,hzv,newRow,newObj,Sem.run,Sem.run_pure]
  .simp[Builtin.append_,Sem.run_bind,ht,hu,hsz,hai,hwrap,h1,hti,h2',hle,hb2,hnf',hforced,hcap,hroom,ho',h0,hzv,newRow,newObj,Sem.run,Sem.run_pure]
theorem Rel.kill {R:Ren}{H:AH}{w:World}(h:Rel R H w){A:Nat}{t':T AObj}(hs:T.set 40 H.h A .dead=some t'):Rel R ⟨t',H.next⟩ w:=by
 have hg:=T.get_set _ _ _ _ _ hs;have hl: ∀A',QU ⟨t',H.next⟩ A'->QU H A':=fun A' ⟨o,ho,hd⟩=>by
  simp only[hg]at ho;by_cases e:A'=A
  .rw[if_pos e]at ho;injection ho with ho;subst ho;exact hd.elim
  .rw[if_neg e]at ho;exact⟨o,ho,hd⟩
 refine⟨h.fn,fun A1 A2 b d c d' c' r r' l l'=>h.inj _ _ _ _ _ _ _ r r' (hl _ l) (hl _ l'),fun A1 b d c o r ho=> ?_,h.lt⟩;simp only[hg]at ho;by_cases e:A1=A
 .rw[if_pos e]at ho;injection ho with ho;subst ho;trivial
 .rw[if_neg e]at ho;exact h.obj _ _ _ _ _ r ho
theorem Ext.kill {R:Ren}{H:AH}{w:World}{A b d c:Nat}(hR:R A b d c){t':T AObj}(hs:T.set 40 H.h A .dead=some t'):Ext R H w R ⟨t',H.next⟩ w:=
 ⟨Sub.refl R,fun _ _ _ _ h=> .inl h,fun _ _ _ _ h=> .inl h,Nat.le_refl _,fun A1 _ hk=>by
  show t'.get A1=_;rw[T.get_set _ _ _ _ _ hs,if_neg (fun e=>by subst e;exact hk _ _ _ hR)],rfl,rfl,rfl,Nat.le_refl _,fun _ _ _=>rfl⟩
theorem Rel.move {R:Ren}{H:AH}{w:World}(h:Rel R H w){A b d c d' c':Nat}{o':AObj}{x:Obj}{t1 t2:T AObj}(hR:R A b d c)(hl:QU H A)(h1:T.set 40 H.h A .dead=some t1)(h2:T.set 40 t1 H.next o'=some t2)
  (ho:zHZ (R.add H.next b d' c') o' d' c' (some x)):Rel (R.add H.next b d' c') ⟨t2,H.next+1⟩ (wP w b x):=by
 have g1:=T.get_set _ _ _ _ _ h1;have g2:=T.get_set _ _ _ _ _ h2;have hno: ∀b d c,¬R H.next b d c:=fun b d c r=>by have:=(h.lt _ _ _ _ r).2;omega
 have hlive: ∀A',QU ⟨t2,H.next+1⟩ A'->A'≠H.next->QU H A'/\A'≠A:=fun A' ⟨o,ho,hd⟩ hne=>by
  simp only[g2,if_neg hne,g1]at ho;by_cases e:A'=A
  .rw[if_pos e]at ho;injection ho with ho;subst ho;exact hd.elim
  .rw[if_neg e]at ho;exact⟨⟨o,ho,hd⟩,e⟩
 refine⟨?_, ?_, ?_, ?_⟩
 .rintro A1 b1 d1 c1 b2 d2 c2 (r | ⟨rfl,rfl,rfl,rfl⟩) (r' | ⟨e1,rfl,rfl,rfl⟩)
  .exact h.fn _ _ _ _ _ _ _ r r'
  .subst e1;exact absurd r (hno _ _ _)
  .exact absurd r' (hno _ _ _)
  .exact⟨rfl,rfl,rfl⟩
 .rintro A1 A2 b1 d1 c1 d2 c2 (r | ⟨rfl,rfl,rfl,rfl⟩) (r' | ⟨rfl,e2,rfl,rfl⟩) l l'
  .have n1:A1≠H.next:=fun e=>by subst e;exact hno _ _ _ r
   have n2:A2≠H.next:=fun e=>by subst e;exact hno _ _ _ r'
   exact h.inj _ _ _ _ _ _ _ r r' (hlive _ l n1).1 (hlive _ l' n2).1
  .subst e2;have n1:A1≠H.next:=fun e=>by subst e;exact hno _ _ _ r
   obtain⟨l1,l2⟩:=hlive _ l n1;exact absurd (h.inj _ _ _ _ _ _ _ r hR l1 hl) l2
  .have n1:A2≠H.next:=fun e=>by subst e;exact hno _ _ _ r'
   obtain⟨l1,l2⟩:=hlive _ l' n1;exact absurd (h.inj _ _ _ _ _ _ _ r' hR l1 hl) l2
  .rfl
 .rintro A1 b1 d1 c1 o1 (r | ⟨rfl,rfl,rfl,rfl⟩) ho1
  .have n1:A1≠H.next:=fun e=>by subst e;exact hno _ _ _ r
   simp only[g2,if_neg n1,g1]at ho1;by_cases e:A1=A
   .rw[if_pos e]at ho1;injection ho1 with ho1;subst ho1;trivial
   .rw[if_neg e]at ho1;by_cases eb:b1=b
    .subst eb;have hd1: ¬QU H A1:=fun l1=>e (h.inj _ _ _ _ _ _ _ r hR l1 hl)
     cases o1 with
     | dead=>trivial
     | _=>exact absurd ⟨_,ho1,trivial⟩ hd1
    .rw[kV _ _ _ _ eb];exact(h.obj _ _ _ _ _ r ho1).mono (R.sub_add _ _ _ _)
  .simp only[g2,if_pos]at ho1;injection ho1 with ho1;subst ho1
   rw[v8 _ _ _ (h.lt _ _ _ _ hR).1];exact ho
 .rintro A1 b1 d1 c1 (r | ⟨rfl,rfl,rfl,rfl⟩)
  .rw[wB];exact⟨(h.lt _ _ _ _ r).1,Nat.lt_succ_of_lt (h.lt _ _ _ _ r).2⟩
  .rw[wB];exact⟨(h.lt _ _ _ _ hR).1,Nat.lt_succ_self _⟩
theorem Ext.move {R:Ren}{H:AH}{w:World}{A b d c d' c':Nat}{o':AObj}{x:Obj}{t1 t2:T AObj}(hR:R A b d c)(h1:T.set 40 H.h A .dead=some t1)(h2:T.set 40 t1 H.next o'=some t2):
  Ext R H w (R.add H.next b d' c') ⟨t2,H.next+1⟩ (wP w b x) where
 sub:=R.sub_add _ _ _ _
 new A1 b1 d1 c1:=by
  rintro(r | ⟨rfl,rfl,rfl,rfl⟩)
  .exact .inl r
  .exact .inr (.inr ⟨_,_,_,hR⟩)
 newA A1 b1 d1 c1:=by
  rintro(r | ⟨rfl,rfl,rfl,rfl⟩)
  .exact .inl r
  .exact .inr (Nat.le_refl _)
 next:=Nat.le_succ _
 keepA A1 hA hk:=by
  show t2.get A1=_;rw[T.get_set _ _ _ _ _ h2,if_neg (by omega),T.get_set _ _ _ _ _ h1,if_neg (fun e=>by subst e;exact hk _ _ _ hR)]
 os:=rfl
 tape:=rfl
 output:=rfl
 size:=by rw[wB];omega
 keep k _ hk:=kV _ _ _ _ (fun e=>by subst e;exact hk _ _ _ hR)
theorem Rel.heap {R:Ren}{H:AH}{w w':World}(h:Rel R H w)(e:w'.heap=w.heap):Rel R H w':=
 ⟨h.fn,h.inj,fun A b d c o r ho=>by rw[e];exact h.obj A b d c o r ho,fun A b d c r=>by rw[e];exact h.lt A b d c r⟩
theorem W5: ∀(n:Nat) (l:List AV),n<=l.length->takeN n l=some (l.take n)
 | 0,l,_=>by simp[takeN]
 | n+1,[],hl=>by simp at hl
 | n+1,x::l,hl=>by simp only[takeN,W5 n l (by simpa using hl)];rfl
theorem yS: ∀(l:List AV) (o n:Nat),n=0\/o+n<=l.length->xW l o n=some ((l.drop o).take n)
 | l,0,n,hn=>by
  have:xW l 0 n=takeN n l:=by cases l<;>rfl
  rw[this,W5 n l (by omega)];simp
 | [],o+1,n,hn=>by
  have:n=0:=by simp at hn;omega
  subst this;simp[xW]
 | x::l,o+1,n,hn=>by
  simp only[xW];rw[yS l o n (by simp at hn;omega)];simp
theorem zHi {w w':World}(e:w'.heap=w.heap)(a:Addr):w'.cell? a=w.cell? a:=by simp only[World.cell?,e]
theorem Rel.loadsW {R:Ren}{H:AH}{w:World}{A b d c:Nat}{l:List AV}{e:TypeId}{sz:Nat}{g:Bool}(h:Rel R H w)(hA:H.h.get A=some (.cells l e sz g))(hR:R A b d c){P:Program}{o n:Nat}{r:List AV}(hr:xW l o n=some r):
  ∃vs:List Value,(∀w':World,w'.heap=w.heap->(loadCells ⟨b,d+o,none⟩ n).run P w'= .ok vs.toArray w')/\VRL R r vs:=by
 obtain⟨hr1,hr2⟩:=bF _ _ _ _ hr;obtain⟨arr,fz,pre,l',spare,h1,h2,h3,h4,_⟩:=h.cellsAt hA hR;have hll:=VRL.length l l' h4;have hvr:VRL R r ((l'.drop o).take n):=by rw[hr1];exact(h4.drop o).take n
 have hlen:((l'.drop o).take n).length=n:=by
  rw[zQ,zU];omega
 refine⟨(l'.drop o).take n,fun w' hw=> ?_,hvr⟩;have hl:=run_loadCells_list (P:=P) w' ⟨b,d+o,none⟩ ((l'.drop o).take n) (fun j v hj=>by
  have hjl:=(List.getElem?_eq_some_iff.1 hj).1;rw[jU,zHi hw];simp only[World.cell?,h1,Option.isSome_none,Bool.false_eq_true,if_false];rw[qQ (by omega),qR]at hj;have hlt:o+j<l'.length:=(List.getElem?_eq_some_iff.1 hj).1;rw[<-Array.getElem?_toList,h2,qG (by omega),show d+o+j - pre.length=o+j from by omega,qF hlt];exact hj)
 rw[hlen]at hl;exact hl
section
variable {P:Program}{X:Cx}(hX:Ok P X){R:Ren}{H:AH}{w:World}(hL:Rel R H w)
include hL in
theorem zCq {sz n:Nat}{x:AV}{new:List AV}{v:Value}(h:srcOf sz x H=some (n,new))(hv:VR R x v):
  (∀w',(Builtin.lenOf v).run P w'= .ok n w')/\new.length=n*sz/\ ∀m,m<=n-> ∃vs:List Value,(∀w':World,w'.heap=w.heap->(Builtin.firstCells sz m v).run P w'= .ok vs.toArray w')/\VRL R (new.take (m*sz)) vs:=by
 unfold srcOf at h;split at h
 .simp only[zC,zK]at h;obtain⟨rfl,rfl⟩:=h;simp only[VR]at hv;subst hv;exact⟨fun _=>rfl,by simp,fun m hm=>⟨[],fun w' _=>rfl,by simp[VRL]⟩⟩
 .simp only[zC,zK]at h;obtain⟨rfl,rfl⟩:=h;obtain⟨a,c,rfl⟩:=hv;refine⟨fun _=>rfl,by simp,fun m hm=>⟨[],fun w' _=> ?_,by simp[VRL]⟩⟩;obtain rfl:m=0:=by omega
  simp only[Builtin.firstCells,Nat.zero_mul];rfl
 .rename_i A off k cc;split at h
  .rename_i l e sz' g hA;split at h
   .rename_i cs hc;simp only[zC,zK]at h;obtain⟨rfl,rfl⟩:=h;obtain⟨b,d,c,hr,rfl⟩:=hv;obtain⟨e1,e2⟩:=bF _ _ _ _ hc;refine⟨fun _=>rfl, ?_,fun m hm=> ?_⟩
    .rw[e1,zQ,zU];omega
    .have hmn:m*sz<=k*sz:=qH _ hm;have hs1:=yS l off (m*sz) (by omega);have e3:(l.drop off).take (m*sz)=cs.take (m*sz):=by rw[e1,List.take_take,Nat.min_eq_left hmn]
     rw[e3]at hs1;obtain⟨vs',h4,h5⟩:=hL.loadsW hA hr (P:=P) hs1;exact⟨vs',h4,h5⟩
   .simp at h
  .simp at h
 .rename_i k b;simp only[cond_eq_ite,Nat.beq_eq]at h;split at h
  .rename_i hs1;subst hs1;simp only[zC,zK]at h;obtain⟨rfl,rfl⟩:=h;obtain⟨s,rfl,rfl,rfl⟩:=hv;have hb:=Q3 (R:=R) s.data.toList;rw[size_data]at hb;refine⟨fun _=>rfl, ?_,fun m hm=> ?_⟩
   .have:=VRL.length _ _ hb;simp[size_data]at this;omega
   .refine⟨((s.extract 0 m).data.map fun b=>Value.int .u8 (b.toNat:Int)).toList,fun w' _=>rfl, ?_⟩;have e:((s.extract 0 m).data.map fun b=>Value.int .u8 (b.toNat:Int)).toList=(s.data.toList.map (fun b=>Value.int .u8 (b.toNat:Int))).take m:=by
     rw[Array.toList_map,Lib.extract_data];simp[List.map_take]
    rw[e,Nat.mul_one];exact hb.take m
  .simp at h
 .simp at h
def zKI (P:Program)(s:Sem Value)(R:Ren)(H:AH)(w:World)(v:AV)(H':AH):Prop:=
 ∃(R':Ren) (w':World) (z:Value),s.run P w= .ok z w'/\VR R' v z/\Rel R' H' w'/\Ext R H w R' H' w'
theorem UR {sz:Nat}{z:Option Value}(h:YK sz z=true): ∃zv,z=some zv/\zv.cells.size=sz/\0<sz/\ ∃za,ofV zv=some za:=by
 unfold YK at h;split at h
 .rename_i zv;split at h
  .rename_i za hza;simp only[zE,zR,Nat.beq_eq,yE]at h;have:=VRL.length _ _ (xC (WM (fun _ _ _ _=>False) zv za hza));rw[Array.length_toList]at this;exact⟨zv,rfl,by omega,h.1,za,hza⟩
  .simp at h
 .simp at h
theorem xB (z:Array Value)(n:Nat):(Builtin.zeroCells z n).size=n*z.size:=by simp[Builtin.zeroCells]
theorem zKJ (z:Array Value): ∀n,(Builtin.zeroCells z n).toList=(List.replicate n z.toList).flatten:=by
 intro n;rcases Nat.eq_zero_or_pos z.size with h0 | hs
 .have:z= #[]:=Array.eq_empty_of_size_eq_zero h0;subst this;simp[Builtin.zeroCells]
 induction n with
 | zero=>simp[Builtin.zeroCells]
 | succ n ih=>
  rw[List.replicate_succ',List.flatten_append,<-ih];simp only[Builtin.zeroCells,Array.toList_map,Array.toList_range,List.flatten_cons,List.flatten_nil,List.append_nil];rw[Nat.succ_mul,List.range_add,List.map_append];congr 1;apply List.ext_getElem
  .simp
  .intro i h1 h2;have hi:i<z.size:=by simpa using h2
   simp only[List.getElem_map,List.getElem_range,Array.getElem_toList];rw[Nat.mul_comm n z.size,Nat.mul_add_mod,Nat.mod_eq_of_lt hi,getElem!_pos z i hi]
theorem bD {R:Ren}{za:AV}{zv:Value}(hz:VR R za zv)(n:Nat):VRL R (rep n (yC za)) (Builtin.zeroCells zv.cells n).toList:=by
 have hc:=xC hz;rw[zKJ,zNu]
 induction n with
 | zero=>simp[VRL]
 | succ n ih=>simp only[List.replicate_succ,List.flatten_cons];exact hc.append ih
theorem zBF {t u ty e:TypeId}{ti:TypeInfo}{zv:Value}{n sLen sCap:Nat}{base:Option Addr}{xv:Value}{oldA newA':List AV}{oldV newV:List Value}{v:AV}{H':AH}
  (hL:Rel R H w) (hsrc:AppSrc P w t u ty e ti zv xv n newV.toArray) (hzs:zv.cells.size=ti.size) (hza: ∃za,ofV zv=some za)
  (ho: ∀w',w'.heap=w.heap->(Builtin.firstCells ti.size sLen (.slice base sLen sCap)).run P w'= .ok oldV.toArray w') (hlt:sCap<sLen+n) (hroomy:roomy (sLen+n) ti.bytes=true)
  (h1:VRL R oldA oldV) (h2:VRL R newA' newV) (hlen:(oldA++newA').length=(sLen+n)*ti.size) (hg:fG (sLen+n) e ti.size (oldA++newA') H=some (v,H')):
  zKI P (Builtin.append_ #[t,u] ty #[.slice base sLen sCap,xv]) R H w v H':=by
 simp only[roomy,zE,qA,zR]at hroomy;obtain⟨cap,hc1,hc2,hrun⟩:=hsrc.grows base sLen sCap _ ho hlt hroomy.1 hroomy.2;unfold fG at hg;split at hg
 .rename_i A H1 hnew;obtain⟨t',hset,rfl,rfl,_⟩:=uI hnew
  .simp only[yG,zC,zK]at hg;obtain⟨rfl,rfl⟩:=hg;have hl12:=VRL.length _ _ (h1.append h2);have hD:Rel R H w.drew:=hL.drew _;refine⟨R.add H.next w.heap.size 0 cap,_,_,hrun, ?_, ?_, ?_⟩
   .exact⟨w.heap.size,0,cap,R.add_self _ _ _ _,by rw[kE _ (by omega)];simp⟩
   .refine hD.new hset ?_;refine⟨_,(0,0),[],oldV++newV,(Builtin.zeroCells zv.cells (cap - (sLen+n))).toList,rfl,by simp,rfl,VRL.mono (R.sub_add _ _ _ _) _ _ (h1.append h2),fun h=>by simp at h,fun _=>⟨?_,hc2⟩,fun _ i _=>by simp,_,bD (WM _ _ _ hza.choose_spec) _⟩;rw[hl12,hlen,Array.length_toList,xB,hzs,<-Nat.add_mul];congr 1;omega
   .exact(Ext.drew R H w _).trans (Ext.add (w:=w.drew) hset)
 .simp at hg
include hL in
theorem zHy {t u ty e:TypeId}{ti:TypeInfo}{zv:Value}{n:Nat}{new:List AV}{newV:List Value}{s v:AV}{sv xv:Value}{H':AH}(hsrc:AppSrc P w t u ty e ti zv xv n newV.toArray)(hzs:zv.cells.size=ti.size)(hza: ∃za,ofV zv=some za)(hpos:0<ti.size)
  (hnv:VRL R new newV) (hnl:new.length=n*ti.size) (hcells:qY new=true) (h:app1 e ti.size ti.bytes n new s H=some (v,H')) (hs:VR R s sv):
  zKI P (Builtin.append_ #[t,u] ty #[sv,xv]) R H w v H':=by
 have hnvl:=VRL.length _ _ hnv;unfold app1 at h;split at h
 .simp only[VR]at hs;subst hs;simp only[cond_eq_ite,Nat.beq_eq]at h;split at h
  .rename_i hn0;subst hn0;simp only[zC,zK]at h;obtain⟨rfl,rfl⟩:=h;exact⟨R,w, .slice none 0 0,hsrc.fits none 0 0 w (Nat.le_refl _) rfl,rfl,hL,Ext.refl R H w⟩
  .rename_i hn0;unfold wL at h;simp only[cond_eq_ite]at h;split at h
   .rename_i hroomy;have:=zBF (P:=P) (ty:=ty) (sLen:=0) (sCap:=0) (base:=none) (xv:=xv) (oldA:=[]) (oldV:=[]) (n:=n) hL hsrc hzs hza (fun w' _=>rfl) (by omega) (by rw[Nat.zero_add];exact hroomy) rfl hnv (by simp[hnl]) (by rw[Nat.zero_add];exact h);exact this
   .simp at h
 .obtain⟨a,c,rfl⟩:=hs;simp only[cond_eq_ite,Nat.beq_eq]at h;split at h
  .rename_i hn0;subst hn0;simp only[zC,zK]at h;obtain⟨rfl,rfl⟩:=h;have hnl0:newV=[]:=by
    have:newV.length=0:=by rw[hnvl,hnl];simp
    exact zL this
   subst hnl0;exact⟨R,w, .slice (some a) 0 c,hsrc.fits (some a) 0 c w (by omega) rfl,⟨a,c,rfl⟩,hL,Ext.refl R H w⟩
  .simp at h
 .rename_i A off len cc;obtain⟨b,d,c,hr,rfl⟩:=hs;split at h
  .rename_i l e' sz' g hA;unfold zEg at h;simp only[cond_eq_ite]at h;split at h
   .rename_i hroom;rw[qA]at hroom;unfold zB6 at h;split at h
    .rename_i l' hset;split at h
     .rename_i H1 hput;simp only[yG,zC,zK]at h;obtain⟨rfl,rfl⟩:=h;unfold uH at hput;split at hput
      .rename_i t' ht';simp only[zC]at hput;subst hput;obtain⟨hset,hsz⟩:=zEW (by rw[cond_eq_ite];exact hset);obtain⟨w',h1,h2,h3⟩:=hL.stores hA hr (P:=P) hset hsz hnv hcells ht';have hcap:=BN hL hA hr hpos (off:=off) (cc:=cc);refine⟨R,w',_,hsrc.fits (some ⟨b,d+off,none⟩) _ _ _ (by omega) ?_,⟨b,d,c,hr,rfl⟩,h2,h3⟩;simp only[jU,Nat.add_assoc];exact h1
      .simp at hput
     .simp at h
    .simp at h
   .rename_i hroom;rw[qA]at hroom;split at h
    .rename_i heven;rw[Nat.beq_eq]at heven;unfold wL at h;simp only[cond_eq_ite]at h;split at h
     .rename_i hroomy;split at h
      .rename_i old hold;obtain⟨oldV,ho1,ho2⟩:=hL.loadsW hA hr (P:=P) hold;obtain⟨e1,e2⟩:=bF _ _ _ _ hold;have hro:yO l g sz' off cc ti.size=cc / 2:=by
        unfold yO;rw[cond_eq_ite,if_pos (by rw[Nat.beq_eq];exact heven)]
       have hol:old.length=len*ti.size:=by rw[e1,zQ,zU];omega
       exact zBF (P:=P) (ty:=ty) hL hsrc hzs hza (fun w' hw=>ho1 w' hw) (by rw[gV c heven];omega) hroomy ho2 hnv (by rw[zM,hol,hnl,Nat.add_mul]) h
      .simp at h
     .simp at h
    .rename_i hodd;rw[Nat.beq_eq]at hodd;split at h
     .rename_i hcond;simp only[zE,Nat.beq_eq]at hcond;obtain⟨⟨⟨⟨hg,hend⟩,rfl⟩,rfl⟩,hoff⟩:=hcond;subst hg;rw[yE]at hend;split at h
      .rename_i H1 hput;unfold uH at hput;split at hput
       .rename_i t1 ht1;simp only[zC]at hput;subst hput;unfold wL at h;simp only[cond_eq_ite]at h;split at h
        .rename_i hroomy;split at h
         .rename_i old hold;obtain⟨e1,e2⟩:=bF _ _ _ _ hold;have hol:old.length=len*ti.size:=by rw[e1,zQ,zU];omega
          by_cases hfit:len+n<=xU cc c
          ·
           rw[kE c hodd]at hfit;unfold fG at h;split at h
           .rename_i A2 H2 hnew2;obtain⟨t2,ht2,rfl,rfl,_⟩:=uI hnew2
            .simp only[yG,zC,zK]at h;obtain⟨rfl,rfl⟩:=h;obtain⟨arr,fz,pre,l',spare,a1,a2,a3,a4,a5,a6,a7,sp8,a8⟩:=hL.cellsAt hA hr;have hll:=VRL.length _ _ a4;have hcs:=(a6 rfl).1;have hal:arr.size=d+l'.length+spare.length:=by
              have:=congrArg List.length a2;simp at this;omega
             have hmul:(cc / 2+len+n)*ti.size<=c*ti.size:=qH _ (by omega);have hexp:(cc / 2+len+n)*ti.size=cc / 2*ti.size+len*ti.size+n*ti.size:=by rw[Nat.add_mul,Nat.add_mul]
             have hsp:n*ti.size<=spare.length:=by omega
             have hst:=fK (P:=P) e fz b (d+off+len*ti.size) newV 0 w arr a1 (by omega) (vM hnv hcells) (a7 hpos);have hmv:=hL.move (d':=d+off) (c':=c - cc / 2) (x:= .cells (jO arr (d+off+len*ti.size+0) newV) e fz) hr (Rel.live hA) ht1 ht2 ?_
             .refine⟨_,_,_,hsrc.fits (some ⟨b,d+off,none⟩) _ _ _ (by rw[kE c hodd];exact hfit) ?_, ?_,hmv,Ext.move hr ht1 ht2⟩
              .simp only[jU];exact hst
              .exact⟨b,d+off,c - cc / 2,R.add_self _ _ _ _,by rw[kE c hodd,kE _ (by omega)];simp⟩
             .refine⟨_,fz,pre++l'.take off,l'.drop off++newV,spare.drop (n*ti.size),rfl, ?_, ?_, ?_,fun h=>by simp at h,fun _=>⟨?_,by have:=(a6 rfl).2;omega⟩,fun hz i hi=> ?_,_,VRL.mono (R.sub_add _ _ _ _) _ _ (a8.drop (n*ti.size))⟩
              .rw[jT _ _ _ (by omega),a2];have f1:(pre++(l'++spare)).take (d+off+len*ti.size+0)=pre++l':=by
                rw[List.take_append,zO (by omega),List.take_append,zO (by omega)];rw[show d+off+len*ti.size+0 - pre.length - l'.length=0 from by omega];simp
               have f2:(pre++(l'++spare)).drop (d+off+len*ti.size+0+newV.length)=spare.drop (n*ti.size):=by
                rw[List.drop_append,qB (by omega),List.drop_append,qB (by omega)];rw[show d+off+len*ti.size+0+newV.length - pre.length - l'.length=n*ti.size from by omega];simp
               rw[f1,f2];simp only[List.append_assoc];rw[<-List.append_assoc (List.take off l'),List.take_append_drop]
              .simp;omega
              .have:old=l.drop off:=by rw[e1,zO (by rw[zU];omega)]
               rw[this];exact VRL.mono (R.sub_add _ _ _ _) _ _ ((a4.drop off).append hnv)
              .simp only[zM,zU,Nat.sub_mul];omega
              .rw[wZ]at hi;exact a7 hz i hi
           .simp at h
          .obtain⟨oldV,ho1,ho2⟩:=hL.loadsW hA hr (P:=P) hold;have hK:=hL.kill ht1;obtain⟨R',w',z,g1,g2,g3,g4⟩:=zBF (P:=P) (ty:=ty) (sLen:=len) (sCap:=xU cc c) (base:=some ⟨b,d+off,none⟩) (n:=n) (xv:=xv) hK hsrc hzs hza (fun w' hw=>ho1 w' hw) (by omega) hroomy ho2 hnv (by rw[zM,hol,hnl,Nat.add_mul]) h;exact⟨R',w',z,g1,g2,g3,(Ext.kill hr ht1).trans g4⟩
         .simp at h
        .simp at h
       .simp at hput
      .simp at h
     .simp at h
  .simp at h
 .simp at h
include hX hL in
theorem zEd {t u ty:TypeId}{du:TypeDesc}{s x v:AV}{sv xv:Value}{H':AH}(h:uO X t s x H=some (v,H'))(hu:X.und u=some du)(hdu: ∀k,du≠ .int k)(hs:VR R s sv)(hx:VR R x xv):
  zKI P (Builtin.append_ #[t,u] ty #[sv,xv]) R H w v H':=by
 unfold uO at h;split at h
 .rename_i e hd;split at h
  .rename_i ti hti;have hi:=hX.ty _ _ hti;simp only[cond_eq_ite]at h;split at h
   .rename_i hz;obtain⟨zv,hz0,hzs,hpos,hza⟩:=UR hz;split at h
    .rename_i n new hsrc;obtain⟨hlen,hnl,hfirst⟩:=zCq (P:=P) hL hsrc hx;split at h
     .rename_i hcells;obtain⟨newV,hnf,hnv⟩:=hfirst n (Nat.le_refl _);rw[zO (by omega)]at hnv;exact zHy hL (AppSrc.plain (hX.run_und hd w) (hX.run_und hu w) hdu hi hz0 (hlen w) hnf) hzs hza hpos hnv hnl hcells h hs
     .simp at h
    .simp at h
   .simp at h
  .simp at h
 .simp at h
theorem gK: ∀(l m:List AV),qY l=true->qY m=true->qY (l++m)=true
 | [],m,_,h=>h
 | x::l,m,h,k=>by simp only[qY,zE]at h;simp only[List.cons_append,qY,h.1,gK l m h.2 k,Bool.and_self]
theorem QR (l:List AV)(h:qY l=true): ∀n,qY (rep n l)=true
 | 0=>rfl
 | n+1=>by simp only[rep];exact gK _ _ h (QR l h n)
include hX hL in
theorem zJR {t u ty:TypeId}{k:IntKind}{s x v:AV}{sv xv:Value}{H':AH}(h:zHP X t s x H=some (v,H'))(hu:X.und u=some (.int k))(hs:VR R s sv)(hx:VR R x xv):
  zKI P (Builtin.append_ #[t,u] ty #[sv,xv]) R H w v H':=by
 unfold zHP at h;split at h
 .rename_i e hd;split at h
  .rename_i ti hti;have hi:=hX.ty _ _ hti;split at h
   .rename_i z hz;simp only[cond_eq_ite]at h;split at h
    .rename_i hzo;obtain⟨zv,hz0,hzs,hpos,hza⟩:=UR hzo;split at h
     .rename_i n;split at h
      .rename_i hc;simp only[zE,qA,zR]at hc;simp only[VR]at hx;have hx':xv= .int .i64 (n:Int):=hx;subst hx';obtain⟨i',v',h1,h2,h3⟩:=hX.zero R hz;rw[hi]at h1;injection h1 with h1;subst h1
       rw[hz0]at h2;injection h2 with h2;subst h2
       have hzc:=bD h3 n;have hl:=VRL.length _ _ hzc;have hl2:(rep n (yC z)).length=n*ti.size:=by
        rw[<-hl,Array.length_toList,xB,hzs]
       exact zHy hL (newV:=(Builtin.zeroCells zv.cells n).toList) (by rw[Array.toArray_toList];exact AppSrc.zeros (hX.run_und hd w) (hX.run_und hu w) hi hz0 hpos hc.1.2 hc.1.1) hzs hza hpos hzc hl2 (QR _ hc.2 n) h hs
      .simp at h
     .simp at h
    .simp at h
   .simp at h
  .simp at h
 .simp at h
end
def zJY (P:Program)(s:Sem Next)(R:Ren)(H:AH)(w:World)(v:AV)(H':AH):Prop:=
 ∃(R':Ren) (w':World) (z:Value),(s.run P w= .ok (.value z) w'\/(s.run P w= .ok .skip w'/\z=undef))/\VR R' v z/\Rel R' H' w'/\Ext R H w R' H' w'
theorem zKI.next {P:Program}{s:Sem Value}{R:Ren}{H H':AH}{w:World}{v:AV}(h:zKI P s R H w v H'):zJY P (do pure (Next.value (← s))) R H w v H':=by
 obtain⟨R',w',z,h1,h2⟩:=h;exact⟨R',w',z, .inl (kC h1),h2⟩
section
variable {P:Program}{X:Cx}(hX:Ok P X){R:Ren}{H:AH}{w:World}(hL:Rel R H w)
include hX hL
theorem zHv {t:TypeId}{p y:AV}{pv yv:Value}{H':AH}(h:zB3 X t p y H=some H')(hp:VR R p pv)(hy:VR R y yv):
  ∃w',(Instr.storeAt t pv yv).run P w= .ok () w'/\Rel R H' w'/\Ext R H w R H' w':=by
 unfold zB3 at h;split at h
 .rename_i A off;split at h
  .rename_i l e sz g hA;split at h
   .rename_i n hn;simp only[cond_eq_ite]at h;split at h
    .rename_i hc;simp only[zE,Nat.beq_eq,yE,zR]at hc;split at h
     .rename_i l' hset;unfold uH at h;split at h
      .rename_i t' ht';simp only[zC]at h;subst h;obtain⟨b,d,c,hr,rfl⟩:=hp;have hcl:=VRL.length _ _ (xC hy);rw[Array.length_toList]at hcl;obtain⟨w',h1,h2,h3⟩:=hL.stores hA hr (P:=P) hset hc.2 (xC hy) hc.1.2 ht';refine⟨w', ?_,h2,h3⟩;simp only[Instr.storeAt,Instr.sureAddr,storeVar,Sem.run_bind,Sem.run_pure,Result.andThen,hX.run_size hn];rw[if_neg (by have:=hc.1.1;simp;omega)];exact h1
      .simp at h
     .simp at h
    .simp at h
   .simp at h
  .simp at h
 .simp at h
theorem zJM {t ty:TypeId}{ts:Array TypeId}{s x v:AV}{sv xv:Value}{H':AH}(ht:ts[0]? =some t)(h:zEc X t s x H=some (v,H'))(hs:VR R s sv)(hx:VR R x xv):zKI P (Builtin.copy_ ts ty #[sv,xv]) R H w v H':=by
 unfold zEc at h;split at h
 .rename_i e hd;have hund:=hX.run_und hd w;split at h
  .rename_i sz hsz;have hsize:=hX.run_size hsz w;split at h
   .simp only[VR]at hs;subst hs;split at h
    .simp only[zC,zK]at h;obtain⟨rfl,rfl⟩:=h;simp only[VR]at hx;subst hx;refine⟨R,w,goInt 0, ?_,rfl,hL,Ext.refl R H w⟩;simp[Builtin.copy_,ht,Sem.run_bind,hund,hsize,Builtin.lenOf,Builtin.firstCells,Sem.run_pure]
    .simp only[zC,zK]at h;obtain⟨rfl,rfl⟩:=h;obtain⟨b,d,c,hr,rfl⟩:=hx;refine⟨R,w,goInt 0, ?_,rfl,hL,Ext.refl R H w⟩;have: ∀a:Addr,(loadCells a 0).run P w= .ok #[] w:=fun a=>rfl
     simp[Builtin.copy_,ht,Sem.run_bind,hund,hsize,Builtin.lenOf,Builtin.firstCells,Sem.run_pure,this]
    .simp only[zC,zK]at h;obtain⟨rfl,rfl⟩:=h;obtain⟨s',rfl,h1,h2⟩:=hx;refine⟨R,w,goInt 0, ?_,rfl,hL,Ext.refl R H w⟩;simp[Builtin.copy_,ht,Sem.run_bind,hund,hsize,Builtin.lenOf,Builtin.firstCells,Sem.run_pure]
    .simp at h
   .rename_i A off len cc;split at h
    .rename_i n new hsrc;obtain⟨hlen,hnl,hfirst⟩:=zCq (P:=P) hL hsrc hx;simp only at h;split at h
     .rename_i new' htake;obtain⟨e1,e2⟩:=V0 _ _ _ htake;simp only[cond_eq_ite]at h;split at h
      .rename_i hcells;split at h
       .rename_i l e' sz' g hA;split at h
        .rename_i l' hset;split at h
         .rename_i H1 hput;simp only[yG,zC,zK]at h;obtain⟨rfl,rfl⟩:=h;unfold uH at hput;split at hput
          .rename_i t' ht';simp only[zC]at hput;subst hput;obtain⟨b,d,c,hr,rfl⟩:=hs;obtain⟨vs,hv1,hv2⟩:=hfirst (Nat.min n len) (Nat.min_le_left _ _);rw[<-e1]at hv2;obtain⟨hset,hsz⟩:=zEW (by rw[cond_eq_ite];exact hset);obtain⟨w',h1,h2,h3⟩:=hL.stores hA hr (P:=P) hset hsz hv2 hcells ht';refine⟨R,w',goInt (Nat.min n len:Nat), ?_,rfl,h2,h3⟩;have hv1':=hv1 w rfl;simp only[Builtin.copy_,ht,Sem.run_bind,hund,hsize,Result.andThen,List.getElem?_toArray,List.getElem?_cons_zero,List.getElem?_cons_succ,hlen,hv1',h1,Sem.run_pure]
          .simp at hput
         .simp at h
        .simp at h
       .simp at h
      .simp at h
     .simp at h
    .simp at h
   .simp at h
  .simp at h
 .simp at h
theorem simE {env:Env}{n:Nat}{fr:Frame}(hE:EnvR R env n fr.tmps){o:Oper}{v:AV}{H':AH}(h:aE X env H o.op=some (v,H')):zJY P (execOp fr.eval o) R H w v H':=by
 obtain⟨dst,op,ty,pos,after,guard⟩:=o;simp only at h;unfold aE at h;split at h
 .rename_i t a x;unfold XC at h;split at h
  .rename_i p hp;split at h
   .rename_i y hy;split at h
    .rename_i H1 hst;simp only[zC,zK]at h;obtain⟨rfl,rfl⟩:=h;obtain⟨w',h1,h2,h3⟩:=zHv hX hL hst (yL hE _ _ hp) (yL hE _ _ hy);refine⟨R,w',undef, .inr ⟨?_,rfl⟩,⟨[],rfl,rfl⟩,h2,h3⟩;simp only[execOp,Sem.run_bind,h1,Result.andThen];rfl
    .simp at h
   .simp at h
  .simp at h
 .unfold c3 at h;split at h
  .rename_i a ha;split at h
   .rename_i b hb;split at h
    .rename_i c hc;unfold aup at h;split at h
     .rename_i kt et ht;split at h
      .rename_i ks hk;obtain⟨rfl,w',h1,h2,h3⟩:=zNf hX hL ht hk h (yL hE _ _ ha) (yL hE _ _ hb) (yL hE _ _ hc);refine⟨R,w',undef, .inr ⟨?_,rfl⟩,⟨[],rfl,rfl⟩,h2,h3⟩;simp only[execOp,Sem.run_bind,h1,Result.andThen];rfl
      .simp at h
     .simp at h
    .simp at h
   .simp at h
  .simp at h
 .rename_i c;split at h
  .rename_i b hc;obtain⟨callee,args,types⟩:=c;simp only at hc h;subst hc;unfold xT at h;split at h
   .split at h
    .rename_i s x hargs;split at h
     .rename_i t u htypes;unfold bX at h;split at h
      .rename_i a ha;split at h
       .rename_i b hb;have hea:args.map fr.eval= #[fr.eval s,fr.eval x]:=by apply Array.toList_inj.1;simp[hargs]
        have het:types= #[t,u]:=by apply Array.toList_inj.1;simp[htypes]
        have hfin: ∀du,X.und u=some du->(∀k,du≠ .int k)->uO X t a b H=some (v,H')->zJY P (execOp fr.eval { dst,op:= .call { callee:= .builtin .append,args,argTypes:=types},type:=ty,pos,after,guard}) R H w v H':=by
         intro du hdu hne hap;obtain⟨R',w',z,h1,h2⟩:=zEd (P:=P) (ty:=ty) hX hL hap hdu hne (yL hE _ _ ha) (yL hE _ _ hb);refine⟨R',w',z, .inl ?_,h2⟩;simp only[execOp,resolve,invoke,builtin,hea,het,Sem.run_bind,Sem.run_pure,Result.andThen,h1]
        split at h
        .rename_i du hdu;exact hfin _ hdu (by simp) h
        .rename_i hdu;exact hfin _ hdu (by simp) h
        .rename_i k hdu;obtain⟨R',w',z,h1,h2⟩:=zJR (P:=P) (ty:=ty) hX hL h hdu (yL hE _ _ ha) (yL hE _ _ hb);refine⟨R',w',z, .inl ?_,h2⟩;simp only[execOp,resolve,invoke,builtin,hea,het,Sem.run_bind,Sem.run_pure,Result.andThen,h1]
        .simp at h
       .simp at h
      .simp at h
     .simp at h
    .simp at h
   .split at h
    .rename_i s x hargs;split at h
     .rename_i t ts htypes;unfold zGY at h;split at h
      .rename_i a ha;split at h
       .rename_i b hb;have hea:args.map fr.eval= #[fr.eval s,fr.eval x]:=by apply Array.toList_inj.1;simp[hargs]
        have ht':types[0]? =some t:=by rw[<-Array.getElem?_toList,htypes];rfl
        obtain⟨R',w',z,h1,h2⟩:=zJM (P:=P) (ty:=ty) hX hL ht' h (yL hE _ _ ha) (yL hE _ _ hb);refine⟨R',w',z, .inl ?_,h2⟩;simp only[execOp,resolve,invoke,builtin,hea,Sem.run_bind,Sem.run_pure,Result.andThen,h1]
       .simp at h
      .simp at h
     .simp at h
    .simp at h
   .split at h
    .rename_i s x hargs;split at h
     .rename_i t ts htypes;unfold c2 at h;split at h
      .rename_i a ha;split at h
       .rename_i b hb;have hea:args.map fr.eval= #[fr.eval s,fr.eval x]:=by apply Array.toList_inj.1;simp[hargs]
        have ht':types[0]? =some t:=by rw[<-Array.getElem?_toList,htypes];rfl
        unfold adl at h;split at h
        .rename_i kt et ht;split at h
         .rename_i ks hk;obtain⟨rfl,w',h1,h2,h3⟩:=zO7 (ty:=ty) hX hL ht' ht hk h (yL hE _ _ ha) (yL hE _ _ hb);refine⟨R,w',_, .inl ?_,⟨[],rfl,rfl⟩,h2,h3⟩;simp only[execOp,resolve,invoke,builtin,hea,Sem.run_bind,Sem.run_pure,Result.andThen,h1]
         .simp at h
        .simp at h
       .simp at h
      .simp at h
     .simp at h
    .simp at h
   .split at h
    .rename_i s hargs;split at h
     .rename_i t ts htypes;unfold c1 at h;split at h
      .rename_i a ha;have hea:args.map fr.eval= #[fr.eval s]:=by apply Array.toList_inj.1;simp[hargs]
       have ht':types[0]? =some t:=by rw[<-Array.getElem?_toList,htypes];rfl
       unfold acl at h;split at h
       .rename_i kt et ht;obtain⟨rfl,w',h1,h2,h3⟩:=zOe (ty:=ty) hX hL ht' ht h (yL hE _ _ ha);refine⟨R,w',_, .inl ?_,⟨[],rfl,rfl⟩,h2,h3⟩;simp only[execOp,resolve,invoke,builtin,hea,Sem.run_bind,Sem.run_pure,Result.andThen,h1]
       .simp at h
      .simp at h
     .simp at h
    .simp at h
   .simp at h
  .simp at h
 .simp at h
end
theorem UL (R:Ren):VR R qZ undef:=by
 simp only[qZ,VR];exact⟨[],rfl,rfl⟩
def Out (k:List Item):AExit->List Item->Prop
 | .normal,td=>td=k
 | .exit id,td=> ∃k',td= .code (.exit id)::k'/\exitTo id k'=exitTo id k
 | .ret,td=> ∃k',td= .code .ret::k'
def zHS (P:Program)(nt:Nat)(c:Code)(env:Env)(H:AH)(ex:AExit)(env':Env)(H':AH):Prop:=
 ∀(R:Ren) (fr:Frame) (k:List Item) (cs:List Frame) (w:World),fr.mode= .run->fr.todo= .code c::k->EnvR R env nt fr.tmps->Rel R H w->
  ∃R' w' tmps' td,Steps P (lone fr cs w) (lone { fr with tmps:=tmps',todo:=td} cs w')/\Out k ex td/\EnvR R' env' nt tmps'/\Rel R' H' w'/\Ext R H w R' H' w'
def zMH (P:Program)(f:FuncId)(args:List AV)(H:AH)(v:AV)(H':AH):Prop:=
 (∃fn,P.funcs[f]? =some fn/\fn.body.isSome=true)/\
 ∀(R:Ren) (az:List Value) (cs:List Frame) (w:World),VRL R args az->Rel R H w->
  ∃R' w' z fr',Steps P (lone (Frame.enter P f ⟨az⟩ .normal) cs w) (lone fr' cs w')/\fr'.fn=f/\fr'.leaving P w' (.returned z)/\VR R' v z/\Rel R' H' w'/\Ext R H w R' H' w'
def zOt (P:Program)(f:FuncId)(args:List AV)(H:AH)(v:AV)(H':AH):Prop:=
 ∀(R:Ren) (az:List Value) (w:World),VRL R args az->Rel R H w->
  ∃R' w' z,(callFunc f ⟨az⟩).run P w= .ok (.value z) w'/\VR R' v z/\Rel R' H' w'/\Ext R H w R' H' w'
def zHT (P:Program)(f:FuncId)(args:List AV)(H:AH)(v:AV)(H':AH):Prop:=H.next<=H'.next/\(zMH P f args H v H'\/zOt P f args H v H')
def zBd (P:Program)(A:Nat)(args:List AV)(H:AH)(v:AV)(H':AH):Prop:=
 H.next<=H'.next/\ ∀(R:Ren) (az:List Value) (fr:Frame) (cs:List Frame) (w:World) (b d c:Nat),R A b d c->VRL R args az->Rel R H w->
  ∃L:Loop,w.heap[b]? =some (.loop L)/\az.length=L.params.size/\
   ∃R' w' z,Steps P (lone (Frame.round b L.fn ((L.params.zip az.toArray).foldl (fun tmps (t,a)=>tmps.setIfInBounds t a) L.tmps) L.assign L.body .normal) (fr::cs) w) (lone (fr.finish z) cs w')/\VR R' v z/\Rel R' H' w'/\Ext R H w R' H' w'
structure Good (P:Program)(r:Fns):Prop where
 call: ∀f args H v H',r.call f args H=some (v,H')->zHT P f args H v H'
 yld: ∀A args H v H',r.yld A args H=some (v,H')->zBd P A args H v H'
theorem zBh {R:Ren}{env:Env}{n:Nat}{tmps:Array Value}{ops:Array Oper}{o:Oper}{b:Bool}(h:EnvR R env n tmps)(hb:fZ ops env o=some b):Region.wanted o (yielded ops tmps)=b:=by
 unfold fZ at hb;unfold Region.wanted;split at hb
 .rename_i hg;simp only[zC]at hb;subst hb;simp[hg]
 .rename_i j want hg;simp only[hg];unfold zEk at hb;simp only[yielded];rw[zBu,Array.getElem?_toList]at hb
  cases ho:ops[j]? with
  | none=>rw[ho]at hb;simp only[zC]at hb;subst hb;simp
  | some p=>
   rw[ho]at hb;simp only[Option.bind_some]at hb⊢
   cases hpd:p.dst with
   | none=>rw[hpd]at hb;simp only[zC]at hb;subst hb;simp
   | some d=>
    rw[hpd]at hb;simp only at hb;split at hb
    .rename_i x hx;simp only[zC]at hb;subst hb;have hlt:d<n:=by
      rcases Nat.lt_or_ge d n with h1 | h1
      .exact h1
      .rw[h.out d h1]at hx;simp at hx
     have hs:d<tmps.size:=by rw[h.size];exact hlt
     simp only[Option.bind_some,Array.getElem?_eq_getElem hs];have hv:=h.get d x hx;have hgd:tmps.getD d undef=tmps[d]:=by
      rw[Array.getD_eq_getD_getElem?,Array.getElem?_eq_getElem hs];rfl
     rw[hgd]at hv;generalize tmps[d]=v at hv
     cases x<;>first
      | (simp only[VR]at hv;subst hv;simp[isW];done)
      | (simp only[VR]at hv;subst hv;cases want<;>simp[isW,BEq.beq];done)
      | (obtain⟨_,rfl,_⟩:=hv;simp[isW];done)
      | (obtain⟨_,_,rfl⟩:=hv;simp[isW];done)
      | (obtain⟨_,_,_,_,rfl⟩:=hv;simp[isW];done)
      | (obtain⟨_,_,rfl,_⟩:=hv;simp[isW];done)
      | (simp only[VR]at hv;subst hv;cases v<;>first | (simp[isW];done) | (rename_i b;cases want<;>cases b<;>simp[isW,BEq.beq];done))
      | exact absurd hv (by simp[VR])
    .simp at hb
theorem wA_ok {P:Program}{R:Ren}{H H':AH}{w:World}(hL:Rel R H w){s:Sem Value}{ob:AObj}{mk:Nat->AV}{v:AV}(hm:XU R P s ob mk w)(h:wA H (some (ob,mk))=some (v,H')):zKI P s R H w v H':=by
 unfold wA at h;simp only at h;split at h
 .rename_i A H1 hnew;obtain⟨t',ht,rfl,rfl,_⟩:=uI hnew
  .simp only[zC,zK]at h;obtain⟨rfl,rfl⟩:=h;obtain⟨x,c,k,z,h1,h2⟩:=hm;obtain⟨h3,h4⟩:=h2 H.next
   refine⟨_,_,z,h1,h4,(hL.drew k).new ht h3, ?_⟩;exact(Ext.drew R H w k).trans (Ext.add (w:= { w with drawn:=k}) ht)
 .simp at h
section
variable {P:Program}{X:Cx}(hX:Ok P X){r:Fns}(hr:Good P r)
def zOs (P:Program)(fr:Frame)(ops:Array Oper)(rest:List Nat)(k:List Item)(cs:List Frame)(o:Oper)(R:Ren)(H:AH)(w:World)(v:AV)(H':AH):Prop:=
 ∃R' w' z,Steps P (lone fr cs w) (lone { fr with tmps:=zBe fr.tmps o.dst z,todo:= .inRegion ops rest::k} cs w')/\VR R' v z/\Rel R' H' w'/\Ext R H w R' H' w'
theorem xP {fr:Frame}{k:List Item}{cs:List Frame}{ops:Array Oper}{i:Nat}{rest:List Nat}{o:Oper}{R:Ren}{H H':AH}{w:World}{v:AV}
  (hm:fr.mode= .run) (ht:fr.todo= .inRegion ops (i::rest)::k) (ho:ops[i]? =some o) (hw:Region.wanted o (yielded ops fr.tmps)=true) (hd: ∀c,o.op≠ .defer c) (h:zJY P (execOp fr.eval o) R H w v H'):zOs P fr ops rest k cs o R H w v H':=by
 obtain⟨R',w',z,h1,h2⟩:=h;refine⟨R',w',z, ?_,h2⟩;rw[<-yH ht ho];rcases h1 with h1 | ⟨h1,rfl⟩
 .exact .one (xQ hm ht ho hw hd h1)
 .exact .one (zDH hm ht ho hw hd h1)
include hX hr in
theorem zCC {fr:Frame}{k:List Item}{cs:List Frame}{ops:Array Oper}{i:Nat}{rest:List Nat}{o:Oper}{R:Ren}{H H':AH}{w:World}{v:AV}{env:Env}{nt:Nat}
  (hm:fr.mode= .run) (ht:fr.todo= .inRegion ops (i::rest)::k) (ho:ops[i]? =some o) (hw:Region.wanted o (yielded ops fr.tmps)=true) (hE:EnvR R env nt fr.tmps) (hL:Rel R H w)
  (h:opF X r env H o.op=some (v,H')):zOs P fr ops rest k cs o R H w v H':=by
 have hd: ∀c,o.op≠ .defer c:=by
  intro c hc;rw[hc]at h;simp[opF,cls,aE]at h
 unfold opF at h;split at h
 .unfold wV at h;split at h
  .rename_i x hx;simp only[zC,zK]at h;obtain⟨rfl,rfl⟩:=h;obtain⟨z,h1,h2⟩:=simP hX hL.fn (w:=w) hE hx;exact xP hm ht ho hw hd ⟨R,w,z, .inl h1,h2,hL,Ext.refl R H w⟩
  .simp at h
 .unfold wV at h;split at h
  .rename_i x hx;simp only[zC,zK]at h;obtain⟨rfl,rfl⟩:=h;obtain⟨z,h1,h2⟩:=simL hX hL hE hx;exact xP hm ht ho hw hd ⟨R,w,z, .inl h1,h2,hL,Ext.refl R H w⟩
  .simp at h
 .have h':=h;unfold wA at h';split at h'
  .rename_i ob mk hA;obtain⟨s,hs,hmk⟩:=simA hX (w:=w) hE hA;rw[hA]at h;have:=(wA_ok hL hmk h).next
   rw[<-hs]at this;exact xP hm ht ho hw hd this
  .simp at h'
 .exact xP hm ht ho hw hd (simE hX hL hE h)
 .unfold opF.callO at h;split at h
  .rename_i c hop;split at h
   .rename_i f hc;unfold opF.callV at h;split at h
    .rename_i g first cap hf
     split at h
     .rename_i az has;obtain⟨first',cap',hfv,h1,h2⟩:=yL hE _ _ hf
      have h3:=J9 hE _ _ has;have hargs:VRL R (first++az++cap) ((first'++c.args.toList.map fr.eval)++cap'):=(h1.append h3).append h2
      rcases(hr.call _ _ _ _ _ h).2 with⟨⟨fn,hfn,hbody⟩,hcall⟩ | hdir
      rotate_left
      .obtain⟨R',w',z,hrun0,hv,hrel,hext⟩:=hdir R _ w hargs hL;have hrun:(execOp fr.eval o).run P w= .ok (.value z) w':=by
        obtain⟨dst,op,ty,pos,after,guard⟩:=o;obtain⟨callee,args,types⟩:=c;simp only at hop hc;subst hop hc;have hea:(⟨first'⟩:Array Value)++args.map fr.eval++⟨cap'⟩=⟨(first'++args.toList.map fr.eval)++cap'⟩:=by
         apply Array.toList_inj.1;simp
        simp only[execOp,resolve,hfv,Deferred.ofValue,Sem.run_bind,Sem.run_pure,Result.andThen,invoke,hea];simpa using hrun0
       refine⟨R',w',z, ?_,hv,hrel,hext⟩;rw[<-yH ht ho];exact .one (xQ hm ht ho hw hd hrun)
      obtain⟨R',w',z,fr',hsteps,hfrfn,hleave,hv,hrel,hext⟩:=hcall R _ (fr::cs) w hargs hL;have hrun:(execOp fr.eval o).run P w= .ok (.enter g ⟨(first'++c.args.toList.map fr.eval)++cap'⟩) w:=by
       obtain⟨dst,op,ty,pos,after,guard⟩:=o;obtain⟨callee,args,types⟩:=c;simp only at hop hc;subst hop hc;have hnm:=hX.nm g fn hfn;have hb:fn.body.isNone=false:=by cases hh:fn.body<;>simp_all
       have hea:(⟨first'⟩:Array Value)++args.map fr.eval++⟨cap'⟩=⟨(first'++args.toList.map fr.eval)++cap'⟩:=by
        apply Array.toList_inj.1;simp
       simp only[execOp,resolve,hfv,Deferred.ofValue,Sem.run_bind,Sem.run_pure,Result.andThen,invoke,callFunc,program,Sem.run,hfn,hnm,Bool.false_eq_true,if_false,hb,hea]
      refine⟨R',w',z, ?_,hv,hrel,hext⟩;rw[<-yH ht ho];exact(Steps.one (zIf hm ht ho hw hd hrun)).trans (hsteps.trans (.one (step_leave_returned hleave)))
     .simp at h
    .rename_i A hf;split at h
     .rename_i az has;obtain⟨_,hy⟩:=hr.yld _ _ _ _ _ h;obtain⟨b,d,c0,hRA,hfv⟩:=yL hE _ _ hf;have h3:=J9 hE _ _ has;obtain⟨L,hb,hlen,R',w',z,hsteps,hv,hrel,hext⟩:=hy R _ fr cs w b d c0 hRA h3 hL;have hrun:(execOp fr.eval o).run P w= .ok (.round b L.fn ((L.params.zip (c.args.toList.map fr.eval).toArray).foldl (fun tmps (t,a)=>tmps.setIfInBounds t a) L.tmps) L.assign L.body) w:=by
       obtain⟨dst,op,ty,pos,after,guard⟩:=o;obtain⟨callee,args,types⟩:=c;simp only at hop hc;subst hop hc;have hea:(args.toList.map fr.eval).toArray=args.map fr.eval:=by apply Array.toList_inj.1;simp
       have:=run_yield (P:=P) (args:=args.map fr.eval) hb (by simpa using hlen);simp only[execOp,resolve,hfv,Deferred.ofValue,Sem.run_bind,Sem.run_pure,Result.andThen,invoke,hea];simpa using this
      refine⟨R',w',z, ?_,hv,hrel,hext⟩;rw[<-yH ht ho];exact(Steps.one (zIc hm ht ho hw hd hrun)).trans hsteps
     .simp at h
    .simp at h
   .simp at h
  .simp at h
end
section
variable {X:Cx}{env env':Env}
theorem gQ: ∀(xs:List Operand),(∀x∈xs,opd env x=opd env' x)->zBf env xs=zBf env' xs
 | [],_=>rfl
 | x::xs,h=>by
  simp only[zBf];rw[h x (zH ..),gQ xs (fun y hy=>h y (zF _ hy))]
theorem dB: ∀(ps:List (Nat×Operand)),(∀x∈ps.map (·.2),opd env x=opd env' x)->xJ env ps=xJ env' ps
 | [],_=>rfl
 | (i,x)::ps,h=>by
  simp only[xJ];rw[h x (by simp),dB ps (fun y hy=>h y (by simp at hy⊢;exact .inr hy))]
theorem J8 (x:Option Operand)(h: ∀y∈x.toArray.toList,opd env y=opd env' y):uW env x=uW env' x:=by
 cases x with
 | none=>rfl
 | some x=>simp only[uW];rw[h x (by simp)]
theorem zDv (o:Op)(h: ∀x∈o.operands.toList,opd env x=opd env' x):aP X env o=aP X env' o:=by
 cases o<;>simp only[aP]<;>simp only[Op.operands]at h
 case move x=>exact h x (by simp)
 case assign x=>exact h x (by simp)
 case pick c a b=>simp only[zDQ];rw[h c (by simp),h a (by simp),h b (by simp)]
 case build t ps=>simp only[QD];rw[dB ps.toList (fun x hx=>h x (by simpa using hx))]
 case nilCheck x=>rw[h x (by simp)]
 case binOp op t x y t'=>rw[h x (by simp),h y (by simp)]
 case unOp op t x=>rw[h x (by simp)]
 case convert s d x=>rw[h x (by simp)]
 case makeFunc fn first cap=>
  cases fn<;>simp only[aP]
  simp only[zDR];rw[gQ first.toList (fun x hx=>h x (by simp;exact .inl (by simpa using hx))),gQ cap.toList (fun x hx=>h x (by simp;exact .inr (by simpa using hx)))]
 case fieldAddr s x f=>rw[h x (by simp)]
 case field s x f=>rw[h x (by simp)]
 case indexAddr t x i=>rw[h x (by simp),h i (by simp)]
 case index t x i=>rw[h x (by simp),h i (by simp)]
 case sliceToArrayPointer t x=>rw[h x (by simp)]
 case extract x i=>rw[h x (by simp)]
 case call c=>
  have ha: ∀x∈c.args.toList,opd env x=opd env' x:=fun x hx=>h x (by simp[Call.operands];right;simpa using hx)
  split<;>try rfl
  .split<;>try rfl
   rename_i x hx;split<;>try rfl
   rw[ha x (by rw[hx];simp)]
  .split<;>try rfl
   rename_i x y hx;rw[ha x (by rw[hx];simp),ha y (by rw[hx];simp)]
  .split<;>try rfl
   rename_i x y hx;rw[ha x (by rw[hx];simp),ha y (by rw[hx];simp)]
theorem zDw {H:AH}(o:Op)(h: ∀x∈o.operands.toList,opd env x=opd env' x):aL X env H o=aL X env' H o:=by
 cases o<;>simp only[aL]<;>simp only[Op.operands]at h
 case load t a=>rw[h a (by simp)]
 case lookup t x k ok=>rw[h x (by simp),h k (by simp)]
 case slice t x lo hi mx=>
  simp only[fM];rw[h x (by simp),J8 lo (fun y hy=>h y (by simp at hy⊢;exact .inr (.inl hy))),J8 hi (fun y hy=>h y (by simp at hy⊢;exact .inr (.inr (.inl hy)))),J8 mx (fun y hy=>h y (by simp at hy⊢;exact .inr (.inr (.inr hy))))]
 case convert s d x=>rw[h x (by simp)]
 case binOp op t x y p=>rw[h x (by simp),h y (by simp)]
 case call c=>
  split<;>try rfl
  split<;>try rfl
  rename_i x hx;split<;>try rfl
  rw[h x (by
        simp[Call.operands];right;have:x∈c.args.toList:=by rw[hx];simp
        simpa using this)]
theorem zDx (o:Op)(h: ∀x∈o.operands.toList,opd env x=opd env' x):aA X env o=aA X env' o:=by
 cases o<;>simp only[aA]<;>simp only[Op.operands]at h
 case box e x=>rw[h x (by simp)]
 case buildSlice t len ps=>simp only[dZ];rw[dB ps.toList (fun x hx=>h x (by simpa using hx))]
 case makeSlice t l c=>rw[h l (by simp),h c (by simp)]
 case convert s d x=>rw[h x (by simp)]
 case makeMap t r=>cases r<;>rfl
theorem zJT {H:AH}(o:Op)(h: ∀x∈o.operands.toList,opd env x=opd env' x):aE X env H o=aE X env' H o:=by
 cases o<;>simp only[aE]<;>simp only[Op.operands]at h
 case store t a x=>rw[h a (by simp),h x (by simp)]
 case mapUpdate t m k v=>rw[h m (by simp),h k (by simp),h v (by simp)]
 case call c=>
  split<;>try rfl
  rename_i b hb;have ha: ∀x∈c.args.toList,opd env x=opd env' x:=fun x hx=>h x (by simp[Call.operands];right;simpa using hx)
  unfold xT;split
  .split<;>try rfl
   rename_i s x hargs;split<;>try rfl
   rw[ha s (by rw[hargs];simp),ha x (by rw[hargs];simp)]
  .split<;>try rfl
   rename_i s x hargs;split<;>try rfl
   rw[ha s (by rw[hargs];simp),ha x (by rw[hargs];simp)]
  .split<;>try rfl
   rename_i s x hargs;split<;>try rfl
   rw[ha s (by rw[hargs];simp),ha x (by rw[hargs];simp)]
  .split<;>try rfl
   rename_i s hargs;split<;>try rfl
   rw[ha s (by rw[hargs];simp)]
  .rfl
theorem BX {r:Fns}{H:AH}(o:Op)(h: ∀x∈o.operands.toList,opd env x=opd env' x):opF X r env H o=opF X r env' H o:=by
 unfold opF;split
 .rw[zDv o h]
 .rw[zDw o h]
 .rw[zDx o h]
 .rw[zJT o h]
 .cases o<;>try rfl
  case call c hcls=>
  simp only[opF.callO];simp only[Op.operands]at h;split<;>try rfl
  rename_i f hf;rw[h f (by simp[Call.operands,hf]),gQ c.args.toList (fun x hx=>h x (by simp[Call.operands];right;simpa using hx))]
end
def zOx (H H2:AH):Prop:= ∀A o,H.h.get A=some o->H2.h.get A=some o
theorem zJS {X:Cx}{env:Env}{H H2:AH}(hg:zOx H H2)(o:Op){v:AV}(h:aL X env H o=some v):aL X env H2 o=some v:=by
 have hload: ∀t p v,KG X t p H=some v->KG X t p H2=some v:=by
  intro t p v h;unfold KG at h⊢;split at h
  .rename_i A off;split at h
   .rename_i l e sz g hA;rw[hg _ _ hA];exact h
   .simp at h
  .simp at h
 have hconv: ∀s d x v,QS X s d x H=some v->QS X s d x H2=some v:=by
  intro s d x v h;unfold QS at h⊢;split at h
  .split at h
   .split at h
    .split at h
     .exact h
     .split at h
      .rename_i l e' sz g hA;rw[hg _ _ hA];exact h
      .simp at h
     .simp at h
    .simp at h
   .simp at h
  .simp at h
 have hlen: ∀t x v,zCb X t x H=some v->zCb X t x H2=some v:=by
  intro t x v h;unfold zCb at h⊢;split at h
  .exact h
  .exact h
  .exact h
  .exact h
  .exact h
  .exact h
  .split at h
   .rename_i ks es hA;rw[hg _ _ hA];exact h
   .simp at h
  .simp at h
 have hlk: ∀ks z ok x k v,lkM ks z ok x k H=some v->lkM ks z ok x k H2=some v:=by
  intro ks z ok x k v h;unfold lkM at h⊢;rw[cond_eq_ite]at h⊢;split at h
  .rename_i hk;rw[if_pos hk];split at h
   .exact h
   .split at h
    .rename_i ks' es hA;rw[hg _ _ hA];exact h
    .simp at h
   .simp at h
  .simp at h
 have hlv: ∀A,cW A H=true->cW A H2=true:=by
  intro A h;unfold cW at h⊢;split at h
  .rename_i o hA;rw[hg _ _ hA];exact h
  .simp at h
 have hpn: ∀op x y v,pNe op x y H=some v->pNe op x y H2=some v:=by
  intro op x y v h;unfold pNe at h⊢;split at h
  .split at h
   .rw[cond_eq_ite]at h⊢;split at h
    .rename_i hc;simp only[zE]at hc;rw[if_pos (by simp only[zE];exact⟨hlv _ hc.1,hlv _ hc.2.1,hc.2.2⟩)];exact h
    .simp at h
   .simp at h
  .simp at h
 have hab: ∀op t x y v,UK X op t x y H=some v->UK X op t x y H2=some v:=by
  intro op t x y v h;unfold UK at h⊢;split at h
  .exact h
  .split at h
   .split at h
    .simp at h
    .exact hpn _ _ _ _ h
    .simp at h
   .simp at h
 cases o<;>simp only[aL]at h⊢ <;>try(simp at h;done)
 case binOp op t x y p=>
  unfold b2 at h⊢;split at h
  .split at h
   .exact hab _ _ _ _ _ h
   .simp at h
  .simp at h
 case load t a=>
  unfold b1 at h⊢;split at h
  .exact hload _ _ _ h
  .simp at h
 case lookup t x k ok=>
  unfold b2 at h⊢;split at h
  .split at h
   .unfold zHz at h⊢;split at h
    .split at h
     .split at h
      .exact hlk _ _ _ _ _ _ h
      .simp at h
     .simp at h
    .simp at h
   .simp at h
  .simp at h
 case slice t x lo hi mx=>
  unfold fM at h⊢;split at h
  .split at h
   .split at h
    .split at h
     .unfold fX at h⊢;split at h
      .split at h
       .exact h
       .exact h
       .split at h
        .split at h
         .rename_i l e' sz' g hA;rw[hg _ _ hA];exact h
         .simp at h
        .simp at h
       .exact h
       .exact h
       .exact h
       .simp at h
      .simp at h
     .simp at h
    .simp at h
   .simp at h
  .simp at h
 case convert s d x=>
  unfold b1 at h⊢;split at h
  .exact hconv _ _ _ _ h
  .simp at h
 case call c=>
  split at h
  .split at h
   .split at h
    .unfold b1 at h⊢;split at h
     .exact hlen _ _ _ h
     .simp at h
    .simp at h
   .simp at h
  .simp at h
theorem nodup_le: ∀(n:Nat) (l:List Nat),l.Nodup->(∀x∈l,x<n)->l.length<=n
 | 0,l,_,h=>by
  cases l with
  | nil=>simp
  | cons x l=>exact absurd (h x (zH ..)) (by omega)
 | n+1,l,hn,h=>by
  have h1:=nodup_le n (l.erase n) (hn.erase n) (fun x hx=>by
   have:=(List.Nodup.mem_erase_iff hn).1 hx;have:=h x this.2;omega)
  have h2:l.length<=(l.erase n).length+1:=by rw[List.length_erase];split<;>omega
  omega
theorem BY {n:Nat}{l:List Nat}(hn:l.Nodup)(h: ∀x∈l,x<n)(hl:l.length=n): ∀i,i<n->i∈l:=by
 intro i hi;refine Classical.byContradiction fun hc=> ?_
 have:=nodup_le n (i::l) (List.nodup_cons.2 ⟨hc,hn⟩) (fun x hx=>by
  rcases List.mem_cons.1 hx with rfl | hx
  .exact hi
  .exact h x hx)
 simp at this;omega
def Valid (md:Region.Mode)(ops:Array Oper):List Nat->List Nat->Prop
 | _,[]=>True
 | done,j::rest=>j∉done/\j<ops.size/\(∀o,ops[j]? =some o-> ∀e∈o.after.toList,Region.binds md e=true->e.on∈done)/\Valid md ops (j::done) rest
def KL (ops:Array Oper)(listed:Array Bool)(done:List Nat):Prop:=listed.size=ops.size/\ ∀i,listed.getD i false=true↔i∈done/\i<ops.size
theorem J2 {md:Region.Mode}{ops:Array Oper}{listed:Array Bool}{done:List Nat}(hl:KL ops listed done){j:Nat} :j∈Region.ready md ops listed↔
  j<ops.size/\j∉done/\ ∀o,ops[j]? =some o-> ∀e∈o.after.toList,Region.binds md e=true->e.on∈done/\e.on<ops.size:=by
 have hget: ∀i,i<ops.size->listed.getD i true=listed.getD i false:=by
  intro i hi;rw[Array.getD_eq_getD_getElem?,Array.getD_eq_getD_getElem?,Array.getElem?_eq_getElem (by rw[hl.1];exact hi)];rfl
 unfold Region.ready;rw[List.mem_filter,List.mem_range];constructor
 .rintro⟨h1,h2⟩
  rw[hget j h1]at h2;simp only[zE,Bool.not_eq_true']at h2;refine⟨h1,fun hc=> ?_,fun o ho e he hb=> ?_⟩
  .have:=(hl.2 j).2 ⟨hc,h1⟩;rw[this]at h2;simp at h2
  .rw[ho]at h2;simp only[Option.map_some,Option.getD_some,Array.all_eq_true_iff_forall_mem]at h2;have:=h2.2 e (by simpa using he);rw[hb]at this;simp only[Bool.not_true,Bool.false_or]at this;exact(hl.2 _).1 this
 .rintro⟨h1,h2,h3⟩
  refine⟨h1, ?_⟩;rw[hget j h1];simp only[zE,Bool.not_eq_true'];constructor
  .cases hc:listed.getD j false with
   | false=>rfl
   | true=>exact absurd ((hl.2 j).1 hc).1 h2
  .have ho:ops[j]? =some ops[j]:=Array.getElem?_eq_getElem h1;rw[ho];simp only[Option.map_some,Option.getD_some,Array.all_eq_true_iff_forall_mem];intro e he
   cases hb:Region.binds md e with
   | false=>rfl
   | true=>
    simp only[Bool.not_true,Bool.false_or];exact(hl.2 _).2 (h3 _ ho e (by simpa using he) hb)
theorem WS {ops:Array Oper}{listed:Array Bool}{done:List Nat}(hl:KL ops listed done){j:Nat}(hj:j<ops.size):KL ops (listed.setIfInBounds j true) (j::done):=by
 refine⟨by simp[hl.1],fun i=> ?_⟩;rw[Array.getD_eq_getD_getElem?,Array.getElem?_setIfInBounds];by_cases e:j=i
 .subst e;rw[if_pos rfl,if_pos (by rw[hl.1];exact hj)];simp[hj]
 .rw[if_neg e,<-Array.getD_eq_getD_getElem?,hl.2 i];simp[Ne.symm e]
theorem Y6 {md:Region.Mode}{ops:Array Oper} : ∀(fuel t:Nat) (listed:Array Bool) (done:List Nat),KL ops listed done->Valid md ops done (Region.linearise.go md ops fuel t listed [])
 | 0,_,_,_,_=>by simp[Region.linearise.go,Valid]
 | fuel+1,t,listed,done,hl=>by
  have hgo:Region.linearise.go md ops (fuel+1) t listed []=match(Region.ready md ops listed)[t % (Region.ready md ops listed).length]? with
   | some i=>Region.linearise.go md ops fuel (t / (Region.ready md ops listed).length) (listed.setIfInBounds i true) [i]
   | none=>[]:=rfl
  rw[hgo];split
  .rename_i i hi;have hm:=(J2 hl).1 (List.mem_of_getElem? hi);rw[linearise_go_acc,List.reverse_singleton,List.singleton_append];exact⟨hm.2.1,hm.1,fun o ho e he hb=>(hm.2.2 o ho e he hb).1,Y6 fuel _ _ _ (WS hl hm.1)⟩
  .trivial
theorem uG {md:Region.Mode}{ops:Array Oper} : ∀(l done:List Nat),Valid md ops done l->l.Nodup/\(∀x∈l,x<ops.size/\x∉done)
 | [],_,_=>by simp
 | j::l,done,h=>by
  obtain⟨h1,h2,_,h4⟩:=h;obtain⟨h5,h6⟩:=uG l _ h4;refine⟨List.nodup_cons.2 ⟨fun hc=>(h6 j hc).2 (zH ..),h5⟩,fun x hx=> ?_⟩;rcases List.mem_cons.1 hx with rfl | hx
  .exact⟨h2,h1⟩
  .exact⟨(h6 x hx).1,fun hc=>(h6 x hx).2 (zF _ hc)⟩
theorem WD {md:Region.Mode}{ops:Array Oper}{listed:Array Bool}{done:List Nat}(hl:KL ops listed done)(hds: ∀x∈done,x<ops.size): ∀(L before:List Nat),Valid md ops before L->(∀x∈before,x∈done)->(∃x∈L,x∉done)->Region.ready md ops listed≠[]
 | [],_,_,_,⟨x,hx,_⟩=>by simp at hx
 | j::L,before,hv,hb,hex=>by
  obtain⟨h1,h2,h3,h4⟩:=hv;by_cases hj:j∈done
  .refine WD hl hds L (j::before) h4 (fun x hx=> ?_) ?_
   .rcases List.mem_cons.1 hx with rfl | hx
    .exact hj
    .exact hb x hx
   .obtain⟨x,hx,hn⟩:=hex;rcases List.mem_cons.1 hx with rfl | hx
    .exact absurd hj hn
    .exact⟨x,hx,hn⟩
  .intro hc;have hmem:j∈Region.ready md ops listed:=by
    refine(J2 hl).2 ⟨h2,hj,fun o ho e he hbd=> ?_⟩;have hd:=hb _ (h3 o ho e he hbd);exact⟨hd,hds _ hd⟩
   rw[hc]at hmem;simp at hmem
theorem uP: ∀(l m:List Nat),l.Nodup->(∀x∈l,x∈m)->l.length<=m.length
 | [],_,_,_=>by simp
 | x::l,m,hn,h=>by
  obtain⟨h1,h2⟩:=List.nodup_cons.1 hn;have hx:=h x (zH ..);have:=uP l (m.erase x) h2 (fun y hy=>(List.mem_erase_of_ne (fun e=>h1 (by rw[<-e];exact hy))).2 (h y (zF _ hy)));rw[List.length_erase_of_mem hx]at this;have hp:=List.length_pos_of_mem hx;simp;omega
theorem zG2 {md:Region.Mode}{ops:Array Oper}{L:List Nat}(hL:Valid md ops [] L)(hLl:L.length=ops.size): ∀(fuel t:Nat) (listed:Array Bool) (done:List Nat),KL ops listed done->(∀x∈done,x<ops.size)->done.length+fuel=ops.size->
  (Region.linearise.go md ops fuel t listed []).length=fuel
 | 0,_,_,_,_,_,_=>by simp[Region.linearise.go]
 | fuel+1,t,listed,done,hl,hds,hlen=>by
  have hgo:Region.linearise.go md ops (fuel+1) t listed []=match(Region.ready md ops listed)[t % (Region.ready md ops listed).length]? with
   | some i=>Region.linearise.go md ops fuel (t / (Region.ready md ops listed).length) (listed.setIfInBounds i true) [i]
   | none=>[]:=rfl
  have hne:Region.ready md ops listed≠[]:=by
   refine WD hl hds L [] hL (by simp) (Classical.byContradiction fun hc=> ?_);have:=uP L done (uG L [] hL).1 (fun x hx=>Classical.byContradiction fun hn=>hc ⟨x,hx,hn⟩);omega
  have hlt:t % (Region.ready md ops listed).length< (Region.ready md ops listed).length:=Nat.mod_lt _ (List.length_pos_iff.2 hne);rw[hgo,zG hlt];simp only;have hm:=(J2 hl).1 (qC hlt);rw[linearise_go_acc,List.reverse_singleton,List.singleton_append,zP,zG2 hL hLl fuel _ _ _ (WS hl hm.1) (fun x hx=>by
   rcases List.mem_cons.1 hx with rfl | hx
   .exact hm.1
   .exact hds x hx) (by simp;omega)]
theorem vI (ops:Array Oper):KL ops (Array.replicate ops.size false) []:=
 ⟨by simp,fun i=>by
  rw[Array.getD_eq_getD_getElem?,Array.getElem?_replicate];by_cases h:i<ops.size<;>simp[h]⟩
theorem YO {md:Region.Mode}{ops:Array Oper} : ∀(l done:List Nat),Valid md ops done l->Valid .any ops done l
 | [],_,_=>trivial
 | j::l,done,⟨h1,h2,h3,h4⟩=>⟨h1,h2,fun o ho e he hb=>h3 o ho e he (by
   revert hb
   cases hg:e.ground<;>simp[Region.binds,hg]),YO l _ h4⟩
theorem bN {md:Region.Mode}{ops:Array Oper}(h:(Region.linearise md ops 0).length=ops.size)(t:Nat):Valid .any ops [] (Region.linearise md ops t)/\ ∀i,i<ops.size->i∈Region.linearise md ops t:=by
 have hv0:Valid md ops [] (Region.linearise md ops 0):=Y6 _ _ _ _ (vI ops);have hv:Valid md ops [] (Region.linearise md ops t):=Y6 _ _ _ _ (vI ops);have hl:(Region.linearise md ops t).length=ops.size:=zG2 hv0 h _ _ _ _ (vI ops) (by simp) (by simp);obtain⟨hn,hx⟩:=uG _ _ hv;exact⟨YO _ _ hv,BY hn (fun x hx'=>(hx x hx').1) hl⟩
theorem W3 {md:Region.Mode}{ops:Array Oper} : ∀(l pre:List Oper) (done:List Nat),ops.toList=pre++l->zHs l pre.length=true->(∀x,x∈done↔x<pre.length)->Valid md ops done (List.range' pre.length l.length)
 | [],_,_,_,_,_=>by simp[Valid]
 | o::l,pre,done,hops,hb,hd=>by
  have hsz:pre.length<ops.size:=by
   have:=congrArg List.length hops;simp at this;omega
  have ho:ops[pre.length]? =some o:=by
   rw[<-Array.getElem?_toList,hops];simp
  simp only[zHs,yG,zE,List.all_eq_true,zR]at hb;rw[zP,List.range'_succ];refine⟨fun h=>absurd ((hd _).1 h) (Nat.lt_irrefl _),hsz,fun o' ho' e he _=> ?_, ?_⟩
  .rw[ho]at ho';injection ho' with ho';subst ho'
   exact(hd _).2 (hb.1 e (by simpa using he))
  .have:=W3 (md:=md) l (pre++[o]) (pre.length::done) (by rw[hops];simp) (by simpa using hb.2) (fun x=>by
    simp only[List.mem_cons,hd,zM,qO];omega)
   simpa using this
theorem vW {md:Region.Mode}{ops:Array Oper}(h:zHs ops.toList 0=true)(t:Nat):Valid .any ops [] (Region.linearise md ops t)/\ ∀i,i<ops.size->i∈Region.linearise md ops t:=by
 have hv0:Valid md ops [] (List.range' 0 ops.toList.length):=W3 (md:=md) (ops:=ops) ops.toList [] [] rfl h (by simp);have hv:Valid md ops [] (Region.linearise md ops t):=Y6 _ _ _ _ (vI ops);have hl:(Region.linearise md ops t).length=ops.size:=zG2 hv0 (by simp) _ _ _ _ (vI ops) (by simp) (by simp);obtain⟨hn,hx⟩:=uG _ _ hv;exact⟨YO _ _ hv,BY hn (fun x hx'=>(hx x hx').1) hl⟩
theorem zBo {ops:Array Oper}(h:zBy ops=true)(mixed:Bool)(t:Nat):Valid .any ops [] (Region.schedule mixed ops t)/\ ∀i,i<ops.size->i∈Region.schedule mixed ops t:=by
 simp only[zBy,Bool.or_eq_true,zE,Nat.beq_eq]at h;rcases h with h | h
 .unfold Region.schedule;split
  .exact vW h t
  .split
   .exact vW h _
   .exact vW h _
 .unfold Region.schedule;split
  .exact bN h.1.1 t
  .split
   .exact bN h.1.2 _
   .exact bN h.2 _
theorem WQ (acc:List Nat): ∀(es:List Edge) (s i:Nat),(es.foldl (fun s e=>bif Region.binds .any e then s||| 2 ^ e.on||| acc.getD e.on 0 else s) s).testBit i=true->s.testBit i=true\/ ∃e∈es,Region.binds .any e=true/\(e.on=i\/(acc.getD e.on 0).testBit i=true)
 | [],s,i,h=> .inl h
 | e::es,s,i,h=>by
  simp only[List.foldl_cons]at h;rcases WQ acc es _ i h with h1 | ⟨e',he',h1⟩
  .cases hb:Region.binds .any e with
   | false=>rw[hb]at h1;exact .inl h1
   | true=>
    rw[hb]at h1;simp only[cond_true,Nat.testBit_or,Bool.or_eq_true,Nat.testBit_two_pow,zJ]at h1;rcases h1 with(h1 | h1) | h1
    .exact .inl h1
    .exact .inr ⟨e,zH ..,hb, .inl h1⟩
    .exact .inr ⟨e,zH ..,hb, .inr h1⟩
  .exact .inr ⟨e',zF _ he',h1⟩
theorem dU: ∀(l:List Oper) (acc:List Nat) (j:Nat),j<acc.length->(jS l acc).getD j 0=acc.getD j 0
 | [],acc,j,_=>rfl
 | o::l,acc,j,h=>by
  rw[jS,dU l _ j (by simp;omega)];simp[zT,qF h]
theorem XM: ∀(l:List Oper) (acc:List Nat) (j:Nat) (o:Oper),l[j]? =some o-> ∃pre:List Nat,(∀k,k<acc.length+j->pre.getD k 0=(jS l acc).getD k 0)/\pre.length=acc.length+j/\(jS l acc).getD (acc.length+j) 0=zFF pre o.after.toList
 | [],_,_,_,h=>by simp at h
 | p::l,acc,0,o,h=>by
  simp at h;subst h;refine⟨acc,fun k hk=> ?_,rfl, ?_⟩
  .rw[jS,dU l _ k (by simp;omega)];simp[zT,qF (show k<acc.length by omega)]
  .rw[jS,dU l _ _ (by simp)];simp[zT]
 | p::l,acc,j+1,o,h=>by
  simp at h;obtain⟨pre,h1,h2,h3⟩:=XM l (acc++[zFF acc p.after.toList]) j o h;simp only[zM,qO]at h1 h2 h3;refine⟨pre,fun k hk=> ?_,by omega, ?_⟩
  .rw[jS];exact h1 k (by omega)
  .rw[jS,show acc.length+(j+1)=acc.length+1+j from by omega];exact h3
theorem dJ {ops:Array Oper}{done:List Nat}(hclosed: ∀j∈done,∀o,ops[j]? =some o-> ∀e∈o.after.toList,Region.binds .any e=true->e.on∈done):
  ∀(n j:Nat),j<=n->(∀o,ops[j]? =some o-> ∀e∈o.after.toList,Region.binds .any e=true->e.on∈done)-> ∀i,((jS ops.toList []).getD j 0).testBit i=true->i∈done
 | n,j,hjn,hj,i,h=>by
  cases ho:ops.toList[j]? with
  | none=>
   have hl: ∀(l:List Oper) (acc:List Nat),(jS l acc).length=acc.length+l.length:=by
    intro l
    induction l with
    | nil=>intro acc;simp[jS]
    | cons o l ih=>intro acc;rw[jS,ih];simp;omega
   have:(jS ops.toList [])[j]? =none:=by
    rw[List.getElem?_eq_none_iff]at ho⊢;rw[hl];simpa using ho
   simp[zT,this]at h
  | some o=>
   obtain⟨pre,h1,h2,h3⟩:=XM ops.toList [] j o ho;simp only[qI,Nat.zero_add]at h1 h2 h3;rw[h3]at h;rcases WQ pre _ _ _ h with h4 | ⟨e,he,hb,h4⟩
   .simp at h4
   .have ho':ops[j]? =some o:=by simpa using ho
    have hin:=hj o ho' e he hb;rcases h4 with rfl | h4
    .exact hin
    .by_cases hlt:e.on<j
     .rw[h1 _ hlt]at h4
      cases n with
      | zero=>omega
      | succ n=>exact dJ hclosed n e.on (by omega) (fun o' ho''=>hclosed _ hin o' ho'') i h4
     .have:pre[e.on]? =none:=List.getElem?_eq_none (by omega);simp[zT,this]at h4
def AO (H H2:AH):Prop:=H.next<=H2.next/\(∀A,A<H.next->H2.h.get A=H.h.get A)/\zOx H H2
theorem AO.refl (H:AH):AO H H:=⟨Nat.le_refl _,fun _ _=>rfl,fun _ _ h=>h⟩
theorem AO.trans {H H2 H3:AH}(h:AO H H2)(k:AO H2 H3):AO H H3:=
 ⟨Nat.le_trans h.1 k.1,fun A hA=>(k.2.1 A (zY hA h.1)).trans (h.2.1 A hA),fun A o ho=>k.2.2 A o (h.2.2 A o ho)⟩
theorem AO.new {H H':AH}{o:AObj}{A:Nat}(h:newA H o=some (A,H')):AO H H'/\H'.h.get H.next=some o/\H'.next=H.next+1:=by
 obtain⟨t',h1,rfl,rfl,h2⟩:=uI h;have hg:=T.get_set _ _ _ _ _ h1;refine⟨⟨Nat.le_succ _,fun A hA=> ?_,fun A o' ho=> ?_⟩, ?_,rfl⟩
 .show t'.get A=_;rw[hg,if_neg (by omega)]
 .show t'.get A=_;rw[hg];by_cases e:A=H.next
  .subst e;rw[h2]at ho;simp at ho
  .rw[if_neg e];exact ho
 .show t'.get _=_;rw[hg,if_pos rfl]
theorem Rel.more {R:Ren}{H H2:AH}{w:World}(h:Rel R H w)(ha:AO H H2):Rel R H2 w:=by
 have hl: ∀A b d c,R A b d c->QU H2 A->QU H A:=fun A b d c r ⟨o,ho,hd⟩=>⟨o,by rw[<-ha.2.1 A (h.lt _ _ _ _ r).2];exact ho,hd⟩
 exact⟨h.fn,fun A A' b d c d' c' r r' l l'=>h.inj _ _ _ _ _ _ _ r r' (hl _ _ _ _ r l) (hl _ _ _ _ r' l'),
  fun A b d c o r ho=>h.obj A b d c o r (by rw[<-ha.2.1 A (h.lt _ _ _ _ r).2];exact ho),fun A b d c r=>⟨(h.lt _ _ _ _ r).1,zY (h.lt _ _ _ _ r).2 ha.1⟩⟩
theorem Ext.more {R R':Ren}{H H' H2:AH}{w w':World}(h:Ext R H w R' H' w')(ha:AO H' H2):Ext R H w R' H2 w':=
 ⟨h.sub,h.new,h.newA,Nat.le_trans h.next ha.1,fun A hA hk=>(ha.2.1 A (zY hA h.next)).trans (h.keepA A hA hk),h.os,h.tape,h.output,h.size,h.keep⟩
section
variable (X:Cx)(r:Fns)(nt:Nat)(ops:Array Oper)
def xI:Env->AH->List Ent->Env->AH->Prop
 | env,H,[],envF,HF=>env=envF/\H=HF
 | env,H,e::es,envF,HF=>e.env=env/\e.H=H/\zGS X r ops env H e.i e.o=some e/\ ∃env',KM nt env e.o.dst e.v=some env'/\xI env' e.H' es envF HF
theorem K0 {env:Env}{H:AH}{e:Ent}(h:zGS X r ops env H e.i e.o=some e):fZ ops env e.o=some e.want/\(e.want=true->opF X r env H e.o.op=some (e.v,e.H'))/\(e.want=false->e.v=qZ/\e.H'=H):=by
 unfold zGS at h;split at h
 .rename_i hw;split at h
  .rename_i v H' ho;simp only[zC]at h;have h1:e.want=true:=by rw[<-h]
   have h2:e.v=v:=by rw[<-h]
   have h3:e.H'=H':=by rw[<-h]
   rw[h1,h2,h3];exact⟨hw,fun _=>ho,fun h=>by simp at h⟩
  .simp at h
 .rename_i hw;simp only[zC]at h;have h1:e.want=false:=by rw[<-h]
  have h2:e.v=qZ:=by rw[<-h]
  have h3:e.H'=H:=by rw[<-h]
  rw[h1];exact⟨hw,fun h=>by simp at h,fun _=>⟨h2,h3⟩⟩
 .simp at h
theorem zKy {env:Env}{H:AH}{e:Ent}(h:zGS X r ops env H e.i e.o=some e)(hn:jR (cls X e.o.op)=false):AO H e.H':=by
 obtain⟨_,h1,h2⟩:=K0 X r ops h
 cases hw:e.want with
 | false=>rw[(h2 hw).2];exact AO.refl H
 | true=>
  have ho:=h1 hw;unfold opF at ho;split at ho
  .unfold wV at ho;split at ho
   .simp only[zC,zK]at ho;rw[<-ho.2];exact AO.refl H
   .simp at ho
  .unfold wV at ho;split at ho
   .simp only[zC,zK]at ho;rw[<-ho.2];exact AO.refl H
   .simp at ho
  .unfold wA at ho;split at ho
   .split at ho
    .rename_i A H1 hnew;simp only[zC,zK]at ho;rw[<-ho.2];exact(AO.new hnew).1
    .simp at ho
   .simp at ho
  .rename_i hc;rw[hc]at hn;simp[jR]at hn
  .rename_i hc;rw[hc]at hn;simp[jR]at hn
noncomputable def vZ (D:List Nat):List Ent->AH->AH
 | [],HF=>HF
 | e::es,HF=>if jR (cls X e.o.op)=true/\e.i∉D then e.H else vZ D es HF
variable {X r nt ops}
theorem YD: ∀ {es:List Ent} {env:Env} {H:AH} {envF:Env} {HF:AH} {D:List Nat},xI X r nt ops env H es envF HF->(∀e∈es,jR (cls X e.o.op)=true->e.i∉D)->AO H (vZ X D es HF)
 | [],_,H,_,HF,D,h,_=>by obtain⟨_,rfl⟩:=h;exact AO.refl _
 | e::es,env,H,envF,HF,D,⟨h1,h2,h3,env',h4,h5⟩,hD=>by
  unfold vZ;split
  .rw[h2];exact AO.refl H
  .rename_i hc;have hn:jR (cls X e.o.op)=false:=by
    cases hh:jR (cls X e.o.op)with
    | false=>rfl
    | true=>exact absurd ⟨hh,hD e (zH ..) hh⟩ hc
   exact(zKy X r ops h3 hn).trans (YD h5 (fun q hq=>hD q (zF _ hq)))
theorem aT: ∀ {pre:List Ent} {e:Ent} {post:List Ent} {env:Env} {H:AH} {envF:Env} {HF:AH},xI X r nt ops env H (pre++e::post) envF HF->xI X r nt ops e.env e.H (e::post) envF HF
 | [],e,post,env,H,envF,HF,h=>by
  obtain⟨h1,h2,h3,env',h4,h5⟩:=h;subst h1 h2;exact⟨rfl,rfl,h3,env',h4,h5⟩
 | p::pre,e,post,env,H,envF,HF,⟨_,_,_,env',_,h5⟩=>aT (pre:=pre) h5
theorem YB: ∀ {pre l:List Ent} {HF:AH} {D:List Nat},(∀p∈pre,jR (cls X p.o.op)=true->p.i∈D)->vZ X D (pre++l) HF=vZ X D l HF
 | [],_,_,_,_=>rfl
 | p::pre,l,HF,D,h=>by
  rw[List.cons_append,vZ,if_neg (fun hc=>hc.2 (h p (zH ..) hc.1))];exact YB (fun q hq=>h q (zF _ hq))
theorem zDf {D:List Nat}{j:Nat} : ∀ {es:List Ent} {HF:AH},(∀e∈es,e.i=j->jR (cls X e.o.op)=false)->vZ X (j::D) es HF=vZ X D es HF
 | [],_,_=>rfl
 | e::es,HF,h=>by
  simp only[vZ];rw[zDf (es:=es) (fun q hq=>h q (zF _ hq))];by_cases hj:e.i=j
  .have:=h e (zH ..) hj;rw[if_neg (by simp[this]),if_neg (by simp[this])]
  .simp[hj]
theorem zAS: ∀ {pre:List Ent} {e:Ent} {post:List Ent} {env:Env} {H:AH} {envF:Env} {HF:AH},xI X r nt ops env H (pre++e::post) envF HF->(pre.map (·.o.dst)).Pairwise (fun a b=> ∀d,a=some d->b≠some d)->
  ∀t,(∀p∈pre,p.o.dst=some t->Eng.look e.env t=some p.v)/\((∀p∈pre,p.o.dst≠some t)->Eng.look e.env t=Eng.look env t)
 | [],e,post,env,H,envF,HF,h,_,t=>by
  obtain⟨h1,_⟩:=h;exact⟨fun p hp=>by simp at hp,fun _=>by rw[h1]⟩
 | p::pre,e,post,env,H,envF,HF,⟨h1,h2,h3,env',h4,h5⟩,hd,t=>by
  simp only[List.map_cons,List.pairwise_cons]at hd;obtain⟨i1,i2⟩:=zAS (pre:=pre) h5 hd.2 t;have hset:Eng.look env' t=if p.o.dst=some t then some p.v else Eng.look env t:=by
   cases hdst:p.o.dst with
   | none=>rw[hdst]at h4;simp only[KM,zC]at h4;subst h4;simp
   | some d=>
    rw[hdst]at h4;simp only[KM,cond_eq_ite]at h4;split at h4
    .injection h4 with h4;subst h4
     unfold Eng.look;rw[vC];by_cases e:t=d
     .subst e;simp
     .rw[if_neg e,if_neg (by simpa using Ne.symm e)]
    .simp at h4
  refine⟨fun q hq hqt=> ?_,fun hno=> ?_⟩
  .rcases List.mem_cons.1 hq with rfl | hq
   .rw[i2 (fun q' hq' hc=>hd.1 _ (List.mem_map_of_mem hq') t hqt hc),hset,if_pos hqt]
   .exact i1 q hq hqt
  .rw[i2 (fun q hq=>hno q (zF _ hq)),hset,if_neg (hno p (zH ..))]
end
structure Mono (r:Fns):Prop where
 call: ∀f args H v H',r.call f args H=some (v,H')->H.next<=H'.next
 yld: ∀A args H v H',r.yld A args H=some (v,H')->H.next<=H'.next
theorem Good.mono {P:Program}{r:Fns}(h:Good P r):Mono r:=⟨fun f args H v H' e=>(h.call f args H v H' e).1,fun A args H v H' e=>(h.yld A args H v H' e).1⟩
theorem jW {H H':AH}{A:Nat}{o:AObj}(h:uH H A o=some H'):H'.next=H.next:=by
 unfold uH at h;split at h
 .simp only[zC]at h;rw[<-h]
 .simp at h
theorem zEb {need e sz:Nat}{cells:List AV}{H H':AH}{v:AV}(h:fG need e sz cells H=some (v,H')):H.next<=H'.next:=by
 unfold fG at h;split at h
 .rename_i A H1 hn;obtain⟨t',_,_,rfl,_⟩:=uI hn;simp only[yG,zC,zK]at h;rw[<-h.2];exact Nat.le_succ _
 .simp at h
theorem gJ {need e sz bytes:Nat}{old:Option (List AV)}{new:List AV}{H H':AH}{v:AV}(h:wL need e sz bytes old new H=some (v,H')):H.next<=H'.next:=by
 unfold wL at h;rw[cond_eq_ite]at h;split at h
 .split at h
  .exact zEb h
  .simp at h
 .simp at h
theorem zB7 {e sz bytes n:Nat}{new:List AV}{s:AV}{H H':AH}{v:AV}(h:app1 e sz bytes n new s H=some (v,H')):H.next<=H'.next:=by
 unfold app1 at h;split at h
 .rw[cond_eq_ite]at h;split at h
  .simp only[zC,zK]at h;rw[<-h.2];exact Nat.le_refl _
  .exact gJ h
 .rw[cond_eq_ite]at h;split at h
  .simp only[zC,zK]at h;rw[<-h.2];exact Nat.le_refl _
  .simp at h
 .split at h
  .unfold zEg at h;rw[cond_eq_ite]at h;split at h
   .unfold zB6 at h;split at h
    .split at h
     .rename_i H1 hp;simp only[yG,zC,zK]at h;rw[<-h.2,jW hp];exact Nat.le_refl _
     .simp at h
    .simp at h
   .rw[cond_eq_ite]at h;split at h
    .exact gJ h
    .rw[cond_eq_ite]at h;split at h
     .split at h
      .rename_i H1 hp;have:=gJ h;rw[jW hp]at this;exact this
      .simp at h
     .simp at h
  .simp at h
 .simp at h
theorem zI4 {ks:List Nat}{x k u v:AV}{H H':AH}(h:upM ks x k u H=some (v,H')):H.next<=H'.next:=by
 unfold upM at h;rw[cond_eq_ite]at h;split at h
 .split at h
  .split at h
   .rw[cond_eq_ite]at h;split at h
    .split at h
     .split at h
      .rename_i hp;simp only[zC,zK]at h;rw[<-h.2,jW hp];exact Nat.le_refl _
      .simp at h
     .split at h
      .rename_i hp;simp only[zC,zK]at h;rw[<-h.2,jW hp];exact Nat.le_refl _
      .simp at h
    .simp at h
   .simp at h
  .simp at h
 .simp at h
theorem zJd {ks:List Nat}{x k v:AV}{H H':AH}(h:dlM ks x k H=some (v,H')):H.next<=H'.next:=by
 unfold dlM at h;rw[cond_eq_ite]at h;split at h
 .split at h
  .simp only[zC,zK]at h;rw[<-h.2];exact Nat.le_refl _
  .split at h
   .rw[cond_eq_ite]at h;split at h
    .split at h
     .split at h
      .rename_i hp;simp only[zC,zK]at h;rw[<-h.2,jW hp];exact Nat.le_refl _
      .simp at h
     .simp only[zC,zK]at h;rw[<-h.2];exact Nat.le_refl _
    .simp at h
   .simp at h
  .simp at h
 .simp at h
theorem zJn {x v:AV}{H H':AH}(h:clM x H=some (v,H')):H.next<=H'.next:=by
 unfold clM at h;split at h
 .simp only[zC,zK]at h;rw[<-h.2];exact Nat.le_refl _
 .split at h
  .split at h
   .rename_i hp;simp only[zC,zK]at h;rw[<-h.2,jW hp];exact Nat.le_refl _
   .simp at h
  .simp at h
 .simp at h
theorem zMD {X:Cx}{env:Env}{H H':AH}{o:Op}{v:AV}(h:aE X env H o=some (v,H')):H.next<=H'.next:=by
 unfold aE at h;split at h
 .unfold XC at h;split at h
  .split at h
   .split at h
    .rename_i H1 hst;simp only[zC,zK]at h;rw[<-h.2];unfold zB3 at hst;split at hst
     .split at hst
      .split at hst
       .rw[cond_eq_ite]at hst;split at hst
        .split at hst
         .rw[jW hst];exact Nat.le_refl _
         .simp at hst
        .simp at hst
       .simp at hst
      .simp at hst
     .simp at hst
    .simp at h
   .simp at h
  .simp at h
 .unfold c3 at h;split at h
  .split at h
   .split at h
    .unfold aup at h;split at h
     .split at h
      .exact zI4 h
      .simp at h
     .simp at h
    .simp at h
   .simp at h
  .simp at h
 .split at h
  .unfold xT at h;split at h
   .split at h
    .split at h
     .unfold bX at h;have key: ∀t a b,uO X t a b H=some (v,H')->H.next<=H'.next:=by
       intro t a b h;unfold uO at h;split at h
       .split at h
        .rw[cond_eq_ite]at h;split at h
         .split at h
          .rw[cond_eq_ite]at h;split at h
           .exact zB7 h
           .simp at h
          .simp at h
         .simp at h
        .simp at h
       .simp at h
      split at h
      .split at h
       .split at h
        .exact key _ _ _ h
        .exact key _ _ _ h
        .unfold zHP at h
         repeat' first | (simp at h;done) | split at h
         all_goals(try rw[cond_eq_ite]at h)
         all_goals(repeat' first | (simp at h;done) | split at h)
         all_goals(try rw[cond_eq_ite]at h)
         all_goals(repeat' first | (simp at h;done) | split at h)
         all_goals exact zB7 h
        .simp at h
       .simp at h
      .simp at h
     .simp at h
    .simp at h
   .split at h
    .split at h
     .unfold zGY at h;split at h
      .split at h
       .unfold zEc at h;split at h
        .split at h
         .split at h
          .split at h<;>first | (simp at h;done) | (simp only[zC,zK]at h;rw[<-h.2];exact Nat.le_refl _)
          .split at h
           .simp only at h;split at h
            .rw[cond_eq_ite]at h;split at h
             .split at h
              .split at h
               .split at h
                .rename_i H1 hp;simp only[yG,zC,zK]at h;rw[<-h.2,jW hp];exact Nat.le_refl _
                .simp at h
               .simp at h
              .simp at h
             .simp at h
            .simp at h
           .simp at h
          .simp at h
         .simp at h
        .simp at h
       .simp at h
      .simp at h
     .simp at h
    .simp at h
   .split at h
    .split at h
     .unfold c2 at h;split at h
      .split at h
       .unfold adl at h;split at h
        .split at h
         .exact zJd h
         .simp at h
        .simp at h
       .simp at h
      .simp at h
     .simp at h
    .simp at h
   .split at h
    .split at h
     .unfold c1 at h;split at h
      .unfold acl at h;split at h
       .exact zJn h
       .simp at h
      .simp at h
     .simp at h
    .simp at h
   .simp at h
  .simp at h
 .simp at h
section
variable {X:Cx}{r:Fns}(hm:Mono r)
include hm
theorem zIx {env:Env}{H H':AH}{o:Op}{v:AV}(h:opF X r env H o=some (v,H')):H.next<=H'.next:=by
 unfold opF at h;split at h
 .unfold wV at h;split at h
  .simp only[zC,zK]at h;rw[<-h.2];exact Nat.le_refl _
  .simp at h
 .unfold wV at h;split at h
  .simp only[zC,zK]at h;rw[<-h.2];exact Nat.le_refl _
  .simp at h
 .unfold wA at h;split at h
  .split at h
   .rename_i A H1 hn;obtain⟨t',_,_,rfl,_⟩:=uI hn;simp only[zC,zK]at h;rw[<-h.2];exact Nat.le_succ _
   .simp at h
  .simp at h
 .exact zMD h
 .unfold opF.callO at h;split at h
  .split at h
   .unfold opF.callV at h;split at h
    .split at h
     .exact hm.call _ _ _ _ _ h
     .simp at h
    .split at h
     .exact hm.yld _ _ _ _ _ h
     .simp at h
    .simp at h
   .simp at h
  .simp at h
theorem zJ8 {ops:Array Oper}{env:Env}{H:AH}{e:Ent}(h:zGS X r ops env H e.i e.o=some e):H.next<=e.H'.next:=by
 obtain⟨_,h1,h2⟩:=K0 X r ops h
 cases hw:e.want with
 | false=>rw[(h2 hw).2];exact Nat.le_refl _
 | true=>exact zIx hm (h1 hw)
theorem jG {nt:Nat}{ops:Array Oper} : ∀ {es:List Ent} {env:Env} {H:AH} {envF:Env} {HF:AH},xI X r nt ops env H es envF HF->H.next<=HF.next/\ ∀e∈es,H.next<=e.H.next
 | [],_,_,_,_,h=>by obtain⟨_,rfl⟩:=h;exact⟨Nat.le_refl _,by simp⟩
 | e::es,env,H,envF,HF,⟨h1,h2,h3,env',h4,h5⟩=>by
  obtain⟨i1,i2⟩:=jG h5;have:=zJ8 hm h3;refine⟨Nat.le_trans this i1,fun q hq=> ?_⟩;rcases List.mem_cons.1 hq with rfl | hq
  .rw[h2];exact Nat.le_refl _
  .exact Nat.le_trans this (i2 q hq)
end
theorem zIj {nt:Nat}{env env2 env':Env}{dst:Option Tmp}{v v2:AV}(h:KM nt env dst v=some env'): ∃e3,KM nt env2 dst v2=some e3:=by
 cases dst with
 | none=>exact⟨_,rfl⟩
 | some d=>
  simp only[KM,cond_eq_ite]at h⊢;split at h
  .rename_i hd;rw[if_pos hd];exact⟨_,rfl⟩
  .simp at h
theorem bG {nt:Nat}{env env':Env}{dst:Option Tmp}{v:AV}(h:KM nt env dst v=some env')(t:Nat):Eng.look env' t=if dst=some t then some v else Eng.look env t:=by
 cases dst with
 | none=>simp only[KM,zC]at h;subst h;simp
 | some d=>
  simp only[KM,cond_eq_ite]at h;split at h
  .injection h with h;subst h
   unfold Eng.look;rw[vC];by_cases e:t=d
   .subst e;simp
   .rw[if_neg e,if_neg (by simpa using Ne.symm e)]
  .simp at h
theorem zDB {ops:Array Oper}{env env':Env}{o:Oper}(h: ∀t∈bJ ops o,Eng.look env t=Eng.look env' t):fZ ops env o=fZ ops env' o:=by
 unfold fZ;split
 .rfl
 .rename_i j want hg;unfold zEk;split
  .rename_i p hp;split
   .rename_i d hd;rw[h d (by simp[bJ,hg,hp,hd])]
   .rfl
  .rfl
theorem zFu {ops:Array Oper}{env env':Env}{o:Oper}(h: ∀t∈bJ ops o,Eng.look env t=Eng.look env' t): ∀x∈o.op.operands.toList,opd env x=opd env' x:=by
 intro x hx
 cases x with
 | tmp t=>simp only[opd];rw[h t (by simp only[bJ,qP,List.mem_filterMap];exact .inl ⟨.tmp t,hx,rfl⟩)]
 | _=>rfl
def Bef (ops:Array Oper)(j i:Nat):Prop:=((jS ops.toList []).getD j 0).testBit i=true
structure Row (X:Cx)(r:Fns)(nt:Nat)(ops:Array Oper)(xN:Env)(H0:AH)(es:List Ent)(envF:Env)(HF:AH):Prop where
 chain:xI X r nt ops xN H0 es envF HF
 mem: ∀e∈es,ops[e.i]? =some e.o
 nd:(es.map (·.i)).Nodup
 pair:es.Pairwise fun a b=>(∀d,a.o.dst=some d->b.o.dst≠some d)/\(jR (cls X a.o.op)=true\/u6 ops a.o b.o=true->Bef ops b.i a.i)
 see:es.Pairwise fun a b=>a.want=true->jR (cls X b.o.op)=true-> ¬Bef ops b.i a.i->cls X a.o.op= .L->aL X a.env b.H' a.o.op=some a.v
structure Inv (X:Cx)(nt:Nat)(xN:Env)(H0:AH)(es:List Ent)(HF:AH)(R0:Ren)(w0:World)(D:List Nat)(R:Ren)(tmps:Array Value)(w:World):Prop where
 env: ∃envS,EnvR R envS nt tmps/\ ∀t,(∀e∈es,e.i∈D->e.o.dst=some t->Eng.look envS t=some e.v)/\((∀e∈es,e.i∈D->e.o.dst≠some t)->Eng.look envS t=Eng.look xN t)
 rel:Rel R (vZ X D es HF) w
 no: ∀e∈es,e.want=true->cls X e.o.op= .A->e.i∉D-> ∀b d c,¬R e.H.next b d c
 ob: ∀pre e post,es=pre++e::post->(∀p∈pre,jR (cls X p.o.op)=true->p.i∈D)->e.want=true->cls X e.o.op= .A->e.i∉D-> ∀o mk,aA X e.env e.o.op=some (o,mk)->(vZ X D es HF).h.get e.H.next=some o/\e.H.next< (vZ X D es HF).next
 ext:Ext R0 H0 w0 R (vZ X D es HF) w
section
variable {P:Program}{X:Cx}{r:Fns}{nt:Nat}{ops:Array Oper}{xN:Env}{H0:AH}{es:List Ent}{envF:Env}{HF:AH}
theorem U3 {env:Env}{H:AH}{e:Ent}(h:zGS X r ops env H e.i e.o=some e)(hw:e.want=true)(hc:cls X e.o.op= .A): ∃o mk,aA X env e.o.op=some (o,mk)/\e.v=mk H.next/\AO H e.H'/\e.H'.h.get H.next=some o/\e.H'.next=H.next+1:=by
 have ho:=(K0 X r ops h).2.1 hw;unfold opF at ho;rw[hc]at ho;simp only at ho;unfold wA at ho;split at ho
 .rename_i o mk hA;split at ho
  .rename_i A H1 hnew;simp only[zC,zK]at ho;obtain⟨h1,h2⟩:=ho;have hA':A=H.next:=by obtain⟨t',_,e,_⟩:=uI hnew;exact e
   obtain⟨h3,h4,h5⟩:=AO.new hnew;exact⟨o,mk,hA,by rw[<-h1,hA'],by rw[<-h2];exact h3,by rw[<-h2];exact h4,by rw[<-h2];exact h5⟩
  .simp at ho
 .simp at ho
theorem zCE {pre post:List Ent}{e:Ent}{D:List Nat}(hc:xI X r nt ops xN H0 es envF HF)(hes:es=pre++e::post)(h1: ∀p∈pre,jR (cls X p.o.op)=true->p.i∈D)(h2: ∀p∈post,jR (cls X p.o.op)=true->p.i∉D)
  (hw:e.want=true) (hA:cls X e.o.op= .A) {o:AObj} {mk:Nat->AV} (ho:aA X e.env e.o.op=some (o,mk)):(vZ X D es HF).h.get e.H.next=some o/\e.H.next< (vZ X D es HF).next:=by
 subst hes;rw[YB h1];have hch:=aT hc;obtain⟨_,_,h3,env',_,h5⟩:=hch;rw[vZ,if_neg (by rw[hA];simp[jR])];obtain⟨o',mk',h6,_,h7,h8,h9⟩:=U3 h3 hw hA;rw[ho]at h6;simp only[zC,zK]at h6;obtain⟨rfl,rfl⟩:=h6;have hao:=YD h5 h2;exact⟨hao.2.2 _ _ h8,by have:=hao.1;omega⟩
theorem zEZ {D:List Nat}{env:Env}{o:Op}{v:AV} : ∀ {post:List Ent} {env1:Env} {H:AH},xI X r nt ops env1 H post envF HF->aL X env H o=some v->
  (∀q∈post,jR (cls X q.o.op)=true->q.i∈D->aL X env q.H' o=some v)->aL X env (vZ X D post HF) o=some v
 | [],_,H,⟨_,h⟩,hv,_=>by rw[vZ,<-h];exact hv
 | q::post,env1,H,⟨h1,h2,h3,env',h4,h5⟩,hv,hq=>by
  rw[vZ];split
  .rw[h2];exact hv
  .rename_i hn;refine zEZ h5 ?_ (fun p hp=>hq p (zF _ hp))
   cases he:jR (cls X q.o.op)with
   | false=>exact zJS (zKy X r ops h3 he).2.2 _ hv
   | true=>
    refine hq q (zH ..) he (Classical.byContradiction fun hc=>hn ⟨he,hc⟩)
theorem Row.inj (hR:Row X r nt ops xN H0 es envF HF){e q:Ent}(he:e∈es)(hq:q∈es)(h:e.i=q.i):e=q:=by
 have:=hR.nd;clear hR
 induction es with
 | nil=>simp at he
 | cons a l ih=>
  simp only[List.map_cons,List.nodup_cons,List.mem_map,not_exists,not_and]at this;rcases List.mem_cons.1 he with rfl | he2
  .rcases List.mem_cons.1 hq with rfl | hq2
   .rfl
   .exact absurd h.symm (this.1 q hq2)
  .rcases List.mem_cons.1 hq with rfl | hq2
   .exact absurd h (this.1 e he2)
   .exact ih he2 hq2 this.2
theorem Row.dst (hR:Row X r nt ops xN H0 es envF HF){e q:Ent}(he:e∈es)(hq:q∈es){t:Tmp}(h1:e.o.dst=some t)(h2:q.o.dst=some t):e=q:=by
 have:=hR.pair;clear hR
 induction es with
 | nil=>simp at he
 | cons a l ih=>
  simp only[List.pairwise_cons]at this;rcases List.mem_cons.1 he with rfl | he2
  .rcases List.mem_cons.1 hq with rfl | hq2
   .rfl
   .exact absurd h2 ((this.1 q hq2).1 t h1)
  .rcases List.mem_cons.1 hq with rfl | hq2
   .exact absurd h1 ((this.1 e he2).1 t h2)
   .exact ih he2 hq2 this.2
theorem XH: ∀ {es:List Ent} {env:Env} {H:AH} {envF:Env} {HF:AH},xI X r nt ops env H es envF HF->(es.map (·.o.dst)).Pairwise (fun a b=> ∀d,a=some d->b≠some d)->
  ∀t,(∀p∈es,p.o.dst=some t->Eng.look envF t=some p.v)/\((∀p∈es,p.o.dst≠some t)->Eng.look envF t=Eng.look env t)
 | [],env,H,envF,HF,h,_,t=>by
  obtain⟨h1,_⟩:=h;exact⟨fun p hp=>by simp at hp,fun _=>by rw[h1]⟩
 | p::pre,env,H,envF,HF,⟨h1,h2,h3,env',h4,h5⟩,hd,t=>by
  simp only[List.map_cons,List.pairwise_cons]at hd;obtain⟨i1,i2⟩:=XH h5 hd.2 t;have hset:=bG h4 t;refine⟨fun q hq hqt=> ?_,fun hno=> ?_⟩
  .rcases List.mem_cons.1 hq with rfl | hq
   .rw[i2 (fun q' hq' hc=>hd.1 _ (List.mem_map_of_mem hq') t hqt hc),hset,if_pos hqt]
   .exact i1 q hq hqt
  .rw[i2 (fun q hq=>hno q (zF _ hq)),hset,if_neg (hno p (zH ..))]
theorem zAR: ∀ {es:List Ent} {env:Env} {H:AH} {envF:Env} {HF:AH},xI X r nt ops env H es envF HF->(∀t,nt<=t->Eng.look env t=none)-> ∀t,nt<=t->Eng.look envF t=none
 | [],env,H,envF,HF,h,ho,t,ht=>by rw[<-h.1];exact ho t ht
 | p::pre,env,H,envF,HF,⟨h1,h2,h3,env',h4,h5⟩,ho,t,ht=>by
  refine zAR h5 (fun t ht=> ?_) t ht
  cases hd:p.o.dst with
  | none=>rw[hd]at h4;simp only[KM,zC]at h4;rw[<-h4];exact ho t ht
  | some d=>
   rw[hd]at h4;simp only[KM,cond_eq_ite,zR]at h4;split at h4
   .injection h4 with h4;subst h4;unfold Eng.look;rw[vC,if_neg (by omega)];exact ho t ht
   .simp at h4
theorem zDe {D:List Nat} : ∀ {es:List Ent} {HF:AH},(∀e∈es,e.i∈D)->vZ X D es HF=HF
 | [],_,_=>rfl
 | e::es,HF,h=>by
  rw[vZ,if_neg (fun hc=>hc.2 (h e (zH ..)))];exact zDe (fun q hq=>h q (zF _ hq))
end
section
variable {P:Program}{X:Cx}(hX:Ok P X){r:Fns}(hr:Good P r)(hm:Mono r){nt:Nat}{ops:Array Oper}{xN:Env}{H0:AH}{es:List Ent}{envF:Env}{HF:AH}
include hX hr hm in
theorem zIN (hR:Row X r nt ops xN H0 es envF HF){R0 R:Ren}{w0 w:World}{D:List Nat}{fr:Frame}{k:List Item}{cs:List Frame}{j:Nat}{rest:List Nat}(hmode:fr.mode= .run)(ht:fr.todo= .inRegion ops (j::rest)::k)
  (hI:Inv X nt xN H0 es HF R0 w0 D R fr.tmps w) (hj:j∉D) {e:Ent} (he:e∈es) (hej:e.i=j) (hbef: ∀i,Bef ops j i->i∈D) (hcl: ∀q∈es,q.i∈D-> ∀i,Bef ops q.i i->i∈D):
  ∃R' w' z,Steps P (lone fr cs w) (lone { fr with tmps:=zBe fr.tmps e.o.dst z,todo:= .inRegion ops rest::k} cs w')/\Inv X nt xN H0 es HF R0 w0 (j::D) R' (zBe fr.tmps e.o.dst z) w':=by
 obtain⟨pre,post,hes⟩:=List.append_of_mem he;obtain⟨envS,hE,hlk⟩:=hI.env;have hpw:=hR.pair;rw[hes,List.pairwise_append,List.pairwise_cons]at hpw;obtain⟨hpw1,⟨hpw2,hpw3⟩,hpw4⟩:=hpw;have hnd:=hR.nd;rw[hes,List.map_append,List.map_cons,List.nodup_append,List.nodup_cons]at hnd;have hne: ∀q∈post,q.i≠e.i:=fun q hq h=>hnd.2.1.1 (List.mem_map.2 ⟨q,hq,h⟩)
 have hpre: ∀p∈pre,jR (cls X p.o.op)=true->p.i∈D:=fun p hp hpe=>hbef _ (by rw[<-hej];exact(hpw4 p hp e (zH ..)).2 (.inl hpe))
 have hinpre: ∀p∈pre,p∈es:=fun p hp=>by rw[hes];exact qE _ hp
 have hinpost: ∀p∈post,p∈es:=fun p hp=>by rw[hes];exact qK _ (zF _ hp)
 have hpost:jR (cls X e.o.op)=true-> ∀q∈post,q.i∉D:=fun hee q hq hc=>hj (by rw[<-hej];exact hcl q (hinpost q hq) hc _ ((hpw2 q hq).2 (.inl hee)))
 have hch:=hR.chain;rw[hes]at hch;have hpd:(pre.map (·.o.dst)).Pairwise (fun a b=> ∀d,a=some d->b≠some d):=List.pairwise_map.2 (hpw1.imp fun h=>h.1);have hnames: ∀t∈bJ ops e.o,Eng.look envS t=Eng.look e.env t:=by
  intro t htn;obtain⟨h1,h2⟩:=zAS hch hpd t;obtain⟨h3,h4⟩:=hlk t;by_cases hex: ∃p∈pre,p.o.dst=some t
  .obtain⟨p,hp,hpt⟩:=hex;have hmeet:u6 ops p.o e.o=true:=by
    simp only[u6,hpt,Bool.or_eq_true];exact .inl (by simpa using htn)
   rw[h1 p hp hpt,h3 p (hinpre p hp) (hbef _ (by rw[<-hej];exact(hpw4 p hp e (zH ..)).2 (.inr hmeet))) hpt]
  .have hno: ∀p∈pre,p.o.dst≠some t:=fun p hp h=>hex ⟨p,hp,h⟩
   rw[h2 hno,h4 (fun q hq hqD hqt=> ?_)];rw[hes]at hq;rcases List.mem_append.1 hq with hq | hq
   .exact hno q hq hqt
   .rcases List.mem_cons.1 hq with rfl | hq
    .exact hj (hej▸hqD)
    .have hmeet:u6 ops e.o q.o=true:=by
      simp only[u6,hqt,Bool.or_eq_true];exact .inr (by simpa using htn)
     exact hj (by rw[<-hej];exact hcl q (hinpost q hq) hqD _ ((hpw2 q hq).2 (.inr hmeet)))
 have hopds:=zFu hnames;have hcur:vZ X D es HF=vZ X D (e::post) HF:=by rw[hes];exact YB hpre
 obtain⟨_,_,hent,env1,hset,hch1⟩:=aT hch;obtain⟨hwant,hyes,hnot⟩:=K0 X r ops hent;have hw:Region.wanted e.o (yielded ops fr.tmps)=e.want:=zBh hE (by rw[zDB hnames,hwant]);have hoe:ops[j]? =some e.o:=by rw[<-hej];exact hR.mem e he
 have hD': ∀q∈es,q.i∈j::D->q=e\/q.i∈D:=fun q hq h=>by
  rcases List.mem_cons.1 h with h | h
  .exact .inl (hR.inj hq he (h.trans hej.symm))
  .exact .inr h
 have heD:e.i∈j::D:=by rw[hej];exact zH ..
 have henv: ∀R' z,Sub R R'->VR R' e.v z-> ∃envS',EnvR R' envS' nt (zBe fr.tmps e.o.dst z)/\ ∀t,(∀q∈es,q.i∈j::D->q.o.dst=some t->Eng.look envS' t=some q.v)/\((∀q∈es,q.i∈j::D->q.o.dst≠some t)->Eng.look envS' t=Eng.look xN t):=by
  intro R' z hsub hv;obtain⟨envS',hs'⟩:=zIj (env2:=envS) (v2:=e.v) hset;refine⟨envS',(hE.mono hsub).put hv hs',fun t=>⟨fun q hq hqD hqt=> ?_,fun hno=> ?_⟩⟩
  .rw[bG hs'];by_cases het:e.o.dst=some t
   .rw[if_pos het,hR.dst hq he hqt het]
   .rw[if_neg het];rcases hD' q hq hqD with rfl | h
    .exact absurd hqt het
    .exact(hlk t).1 q hq h hqt
  .rw[bG hs',if_neg (hno e he heD)];exact(hlk t).2 (fun q hq h=>hno q hq (zF _ h))
 have hnon:jR (cls X e.o.op)=false-> ∀R' w' z,Sub R R'->VR R' e.v z->Rel R' (vZ X D es HF) w'->(∀q∈es,q.want=true->cls X q.o.op= .A->q.i∉j::D-> ∀b d c,¬R' q.H.next b d c)->Ext R0 H0 w0 R' (vZ X D es HF) w'->Inv X nt xN H0 es HF R0 w0 (j::D) R' (zBe fr.tmps e.o.dst z) w':=by
  intro hn R' w' z hsub hv hrel hno hext;have hc:vZ X (j::D) es HF=vZ X D es HF:=zDf (fun q hq hqj=>by rw[hR.inj hq he (hqj.trans hej.symm)];exact hn);refine⟨henv R' z hsub hv,by rw[hc];exact hrel,hno,fun p q po hq h1 hqw hqA hqD o mk ho=> ?_,by rw[hc];exact hext⟩;rw[hc];refine hI.ob p q po hq (fun x hx hxe=> ?_) hqw hqA (fun h=>hqD (zF _ h)) o mk ho;rcases hD' x (by rw[hq];exact qE _ hx) (h1 x hx hxe)with rfl | h
  .rw[hn]at hxe;simp at hxe
  .exact h
 have heff:jR (cls X e.o.op)=true-> ∀R' w' z,VR R' e.v z->Rel R' e.H' w'->Ext R e.H w R' e.H' w'->Inv X nt xN H0 es HF R0 w0 (j::D) R' (zBe fr.tmps e.o.dst z) w':=by
  intro hee R' w' z hv hrel hext;have hcD:vZ X D es HF=e.H:=by rw[hcur,vZ,if_pos ⟨hee,by rw[hej];exact hj⟩]
  have hcD':vZ X (j::D) es HF=vZ X (j::D) post HF:=by
   rw[hes,YB (fun p hp h=>zF _ (hpre p hp h)),vZ,if_neg (fun hc=>hc.2 heD)]
  have hpD: ∀q∈post,q.i∉j::D:=fun q hq h=>by
   rcases List.mem_cons.1 h with h | h
   .exact hne q hq (h.trans hej.symm)
   .exact hpost hee q hq h
  have hao:AO e.H' (vZ X (j::D) post HF):=YD hch1 (fun q hq _=>hpD q hq);refine⟨henv R' z hext.sub hv,by rw[hcD'];exact hrel.more hao,fun q hq hqw hqA hqD b d c hr'=> ?_,fun p q po hq h1 hqw hqA hqD o mk ho=> ?_, ?_⟩
  .rw[hes]at hq;rcases List.mem_append.1 hq with hq | hq
   .rcases hext.newA _ _ _ _ hr' with h | h
    .exact hI.no q (hinpre q hq) hqw hqA (fun h=>hqD (zF _ h)) _ _ _ h
    .obtain⟨p1,p2,hp⟩:=List.append_of_mem hq;have hch2:=hch;rw[hp,List.append_assoc,List.cons_append]at hch2;obtain⟨_,_,hq3,env2,_,hq5⟩:=aT hch2;obtain⟨_,_,_,_,_,_,h9⟩:=U3 hq3 hqw hqA;have:=(jG hm hq5).2 e (by simp);omega
   .rcases List.mem_cons.1 hq with rfl | hq
    .exact hqD heD
    .have:=(hrel.lt _ _ _ _ hr').2;have:=(jG hm hch1).2 q hq;omega
  .rcases List.append_eq_append_iff.1 (hes.symm.trans hq)with⟨a,ha1,ha2⟩ | ⟨a,ha1,ha2⟩
   .cases a with
    | nil=>
     simp only[List.nil_append,List.cons.injEq]at ha2;exact absurd heD (by rw[ha2.1];exact hqD)
    | cons x a=>
     simp only[List.cons_append,List.cons.injEq]at ha2;exact zCE hR.chain hq h1 (fun x hx _=>hpD x (by rw[ha2.2];simp[hx])) hqw hqA ho
   .cases a with
    | nil=>
     simp only[List.nil_append,List.cons.injEq]at ha2;exact absurd heD (by rw[<-ha2.1];exact hqD)
    | cons x a=>
     simp only[List.cons_append,List.cons.injEq]at ha2;have hxq:=ha2.1;subst hxq;have hqpre:q∈pre:=by rw[ha1];simp
     have hqD':q.i∉D:=fun h=>hqD (zF _ h)
     obtain⟨h2,h3⟩:=hI.ob p q po hq (fun x hx hxe=>hpre x (by rw[ha1];simp[hx]) hxe) hqw hqA hqD' o mk ho;rw[hcD]at h2 h3;rw[hcD',hao.2.1 _ (zY h3 hext.next),hext.keepA _ h3 (hI.no q (hinpre q hqpre) hqw hqA hqD')]
     exact⟨h2,zY h3 (Nat.le_trans hext.next hao.1)⟩
  .rw[hcD'];have:=hI.ext;rw[hcD]at this;exact(this.trans hext).more hao
 have hnoD: ∀q∈es,q.want=true->cls X q.o.op= .A->q.i∉j::D-> ∀b d c,¬R q.H.next b d c:=fun q hq hqw hqA hqD=>hI.no q hq hqw hqA (fun h=>hqD (zF _ h))
 cases hwe:e.want with
 | false=>
  rw[hwe]at hw;obtain⟨hv,hH'⟩:=hnot hwe;refine⟨R,w,undef,by rw[<-yH ht hoe];exact .one (YU hmode ht hoe hw), ?_⟩;have hvr:VR R e.v undef:=by rw[hv];exact UL R
  cases hee:jR (cls X e.o.op)with
  | false=>exact hnon hee R w undef (Sub.refl R) hvr hI.rel hnoD hI.ext
  | true=>
   have hcD:vZ X D es HF=e.H:=by rw[hcur,vZ,if_pos ⟨hee,by rw[hej];exact hj⟩]
   refine heff hee R w undef hvr ?_ ?_
   .rw[hH',<-hcD];exact hI.rel
   .rw[hH'];exact Ext.refl _ _ _
 | true=>
  rw[hwe]at hw;have hop:=hyes hwe;have hd: ∀c,e.o.op≠ .defer c:=by
   intro c hc;rw[hc]at hop;simp[opF,cls,aE]at hop
  cases hcl':cls X e.o.op with
  | P=>
   have ho:=hop;unfold opF at ho;rw[hcl']at ho;simp only at ho;unfold wV at ho;split at ho
   .rename_i x hx;simp only[zC,zK]at ho;rw[<-zDv _ hopds]at hx;obtain⟨z,h1,h2⟩:=simP hX hI.rel.fn (w:=w) hE hx;refine⟨R,w,z,by rw[<-yH ht hoe];exact .one (xQ hmode ht hoe hw hd h1),hnon (by rw[hcl'];rfl) R w z (Sub.refl R) (by rw[<-ho.1];exact h2) hI.rel hnoD hI.ext⟩
   .simp at ho
  | L=>
   have ho:=hop;unfold opF at ho;rw[hcl']at ho;simp only at ho;unfold wV at ho;split at ho
   .rename_i x hx;simp only[zC,zK]at ho;have hx2:aL X e.env (vZ X D es HF) e.o.op=some x:=by
     rw[hcur,vZ,if_neg (by rw[hcl'];simp[jR])];refine zEZ hch1 (by rw[<-ho.2];exact hx) (fun q hq hqe hqD=> ?_);have hse:=hR.see;rw[hes,List.pairwise_append,List.pairwise_cons]at hse;rw[ho.1];exact hse.2.1.1 q hq hwe hqe (fun hb=>hj (by rw[<-hej];exact hcl q (hinpost q hq) hqD _ hb)) hcl'
    rw[<-zDw _ hopds]at hx2;obtain⟨z,h1,h2⟩:=simL hX hI.rel hE hx2;refine⟨R,w,z,by rw[<-yH ht hoe];exact .one (xQ hmode ht hoe hw hd h1),hnon (by rw[hcl'];rfl) R w z (Sub.refl R) (by rw[<-ho.1];exact h2) hI.rel hnoD hI.ext⟩
   .simp at ho
  | A=>
   obtain⟨o,mk,hA,hv,h3,h4,h5⟩:=U3 hent hwe hcl';obtain⟨hob1,hob2⟩:=hI.ob pre e post hes hpre hwe hcl' (by rw[hej];exact hj) o mk hA;have hA2:=hA;rw[<-zDx _ hopds]at hA2;obtain⟨s,hs,x,c,kk,z,hz1,hz2⟩:=simA hX (w:=w) hE hA2;obtain⟨hz3,hz4⟩:=hz2 e.H.next
   have hno:=hI.no e he hwe hcl' (by rw[hej];exact hj);refine⟨R.add e.H.next w.heap.size 0 c,World.alloc { w with drawn:=kk} x,z, ?_, ?_⟩
   .rw[<-yH ht hoe];refine .one (xQ hmode ht hoe hw hd ?_);rw[hs];simp only[Sem.run_bind,hz1,Result.andThen];rfl
   .refine hnon (by rw[hcl'];rfl) _ _ z (R.sub_add _ _ _ _) (by rw[hv];exact hz4) ?_ ?_ ?_
    .exact(hI.rel.drew kk).add (w:= { w with drawn:=kk}) hob1 hob2 hno hz3
    .intro q hq hqw hqA hqD b d c'
     rintro(h | ⟨h,_⟩)
     .exact hnoD q hq hqw hqA hqD _ _ _ h
     .rw[hes]at hq;rcases List.mem_append.1 hq with hq | hq
      .obtain⟨p1,p2,hp⟩:=List.append_of_mem hq;have hch2:=hch;rw[hp,List.append_assoc,List.cons_append]at hch2;obtain⟨_,_,hq3,env2,_,hq5⟩:=aT hch2;obtain⟨_,_,_,_,_,_,h9⟩:=U3 hq3 hqw hqA;have:=(jG hm hq5).2 e (by simp);omega
      .rcases List.mem_cons.1 hq with rfl | hq
       .exact hqD heD
       .have:=(jG hm hch1).2 q hq;omega
    .have hx:=hI.ext;have hn0:H0.next<=e.H.next:=(jG hm hR.chain).2 e he
     refine⟨hx.sub.trans (R.sub_add _ _ _ _), ?_, ?_,hx.next,hx.keepA,hx.os,hx.tape,hx.output, ?_, ?_⟩
     .rintro A b d c' (h | ⟨rfl,rfl,rfl,rfl⟩)
      .exact hx.new _ _ _ _ h
      .exact .inr (.inl hx.size)
     .rintro A b d c' (h | ⟨rfl,rfl,rfl,rfl⟩)
      .exact hx.newA _ _ _ _ h
      .exact .inr hn0
     .rw[yQ];exact Nat.le_succ_of_le hx.size
     .intro b hb hk;exact(heap_alloc_old { w with drawn:=kk} x b (zY hb hx.size)).trans (hx.keep b hb hk)
  | E=>
   have hcD:vZ X D es HF=e.H:=by rw[hcur,vZ,if_pos ⟨by rw[hcl'];rfl,by rw[hej];exact hj⟩]
   have hL:=hI.rel;rw[hcD]at hL;rw[<-BX _ hopds]at hop;obtain⟨R',w',z,h1,h2,h3,h4⟩:=zCC hX hr (cs:=cs) hmode ht hoe hw hE hL hop;exact⟨R',w',z,h1,heff (by rw[hcl'];rfl) R' w' z h2 h3 h4⟩
  | C=>
   have hcD:vZ X D es HF=e.H:=by rw[hcur,vZ,if_pos ⟨by rw[hcl'];rfl,by rw[hej];exact hj⟩]
   have hL:=hI.rel;rw[hcD]at hL;rw[<-BX _ hopds]at hop;obtain⟨R',w',z,h1,h2,h3,h4⟩:=zCC hX hr (cs:=cs) hmode ht hoe hw hE hL hop;exact⟨R',w',z,h1,heff (by rw[hcl'];rfl) R' w' z h2 h3 h4⟩
end
section
variable {P:Program}{X:Cx}(hX:Ok P X){r:Fns}(hr:Good P r)(hm:Mono r){nt:Nat}{ops:Array Oper}{xN:Env}{H0:AH}{es:List Ent}{envF:Env}{HF:AH}
include hX hr hm in
theorem zFT (hR:Row X r nt ops xN H0 es envF HF)(hall: ∀j,j<ops.size-> ∃e∈es,e.i=j){R0:Ren}{w0:World}{fr:Frame}{k:List Item}{cs:List Frame}(hmode:fr.mode= .run): ∀(rest D:List Nat) (R:Ren) (tmps:Array Value) (w:World),
  Valid .any ops D rest->(∀j∈D,∀o,ops[j]? =some o-> ∀e∈o.after.toList,Region.binds .any e=true->e.on∈D)->Inv X nt xN H0 es HF R0 w0 D R tmps w->
  ∃R' w' tmps' D',Steps P (lone { fr with tmps:=tmps,todo:= .inRegion ops rest::k} cs w) (lone { fr with tmps:=tmps',todo:= .inRegion ops []::k} cs w')/\Inv X nt xN H0 es HF R0 w0 D' R' tmps' w'/\(∀j,j∈D\/j∈rest->j∈D')
 | [],D,R,tmps,w,_,_,hI=>⟨R,w,tmps,D, .refl _ _,hI,fun j hj=>by simpa using hj⟩
 | j::rest,D,R,tmps,w,hv,hcl,hI=>by
  obtain⟨h1,h2,h3,h4⟩:=hv;obtain⟨e,he,hej⟩:=hall j h2;have hb: ∀i,Bef ops j i->i∈D:=fun i hi=>dJ hcl j j (Nat.le_refl _) h3 i hi
  obtain⟨R1,w1,z,hs1,hI1⟩:=zIN hX hr hm hR (fr:= { fr with tmps:=tmps,todo:= .inRegion ops (j::rest)::k}) (k:=k) (cs:=cs) hmode rfl hI h1 he hej hb
   (fun q hq hqD i hi=>dJ hcl q.i q.i (Nat.le_refl _) (fun o ho=>hcl q.i hqD o ho) i hi)
  obtain⟨R2,w2,t2,D2,hs2,hI2,hD2⟩:=zFT hR hall hmode rest (j::D) R1 (zBe tmps e.o.dst z) w1 h4 (fun q hq o ho x hx hxb=>by
   rcases List.mem_cons.1 hq with rfl | hq
   .exact zF _ (h3 o ho x hx hxb)
   .exact zF _ (hcl q hq o ho x hx hxb)) hI1
  refine⟨R2,w2,t2,D2,hs1.trans hs2,hI2,fun i hi=>hD2 i ?_⟩;rcases hi with hi | hi
  .exact .inl (zF _ hi)
  .rcases List.mem_cons.1 hi with rfl | hi
   .exact .inl (zH ..)
   .exact .inr hi
include hm in
theorem zFU (hR:Row X r nt ops xN H0 es envF HF){R:Ren}{tmps:Array Value}{w:World}(hE:EnvR R xN nt tmps)(hL:Rel R H0 w):Inv X nt xN H0 es HF R w [] R tmps w:=by
 have hao:AO H0 (vZ X [] es HF):=YD hR.chain (fun _ _ _=>by simp);refine⟨⟨xN,hE,fun t=>⟨fun e _ h=>by simp at h,fun _=>rfl⟩⟩,hL.more hao,fun e he hw hA _ b d c h=> ?_,fun pre e post hes h1 hw hA _ o mk ho=> ?_,(Ext.refl R H0 w).more hao⟩
 .have:=(hL.lt _ _ _ _ h).2;have:=(jG hm hR.chain).2 e he;omega
 .exact zCE hR.chain hes h1 (fun _ _ _=>by simp) hw hA ho
theorem BZ: ∀(l:List Nat),zCF l=true->l.Nodup
 | [],_=>List.nodup_nil
 | x::l,h=>by
  simp only[zCF,zE,Bool.not_eq_true',List.contains_eq_mem,decide_eq_false_iff_not]at h;exact List.nodup_cons.2 ⟨h.1,BZ l h.2⟩
theorem WG {masks:List Nat} : ∀(l:List (Nat×Oper)),VI X ops masks l=true->l.Pairwise fun a b=>zFp X ops masks a b=true
 | [],_=>List.Pairwise.nil
 | a::l,h=>by
  simp only[VI,zE,List.all_eq_true]at h;exact List.pairwise_cons.2 ⟨h.1,WG l h.2⟩
theorem zF2 {masks:List Nat}{a:Nat×Oper}(h:a∈rowOf X ops masks):ops[a.1]? =some a.2:=by
 have base: ∀a∈(List.range ops.size).filterMap (fun i=>match zEf ops.toList i with | some o=>some (i,o) | none=>none),ops[a.1]? =some a.2:=by
  intro a ha;obtain⟨i,_,hi⟩:=List.mem_filterMap.1 ha;split at hi
  .rename_i o ho;simp only[zC]at hi;subst hi;rw[zBu]at ho;simpa using ho
  .simp at hi
 unfold rowOf at h;simp only at h;obtain⟨s,_,hs⟩:=List.mem_flatMap.1 h;rcases List.mem_append.1 hs with hs | hs
 .exact base a (List.mem_filter.1 (List.mem_filter.1 hs).1).1
 .split at hs
  .rename_i e he;simp only[List.mem_singleton]at hs;subst hs;exact base a (List.mem_filter.1 (List.mem_of_getElem? he)).1
  .simp at hs
include hX hr hm in
theorem zH0 {id:Nat}{env envF:Env}{H HF:AH}{row:List (Nat×Oper)}{masks:List Nat}{es:List Ent}(hplan:plan X ops=some (row,masks))(hchain:xI X r nt ops env H es envF HF)(hmap:es.map (fun e=>(e.i,e.o))=row)
  (hse:es.Pairwise fun a b=>a.want=true->jR (cls X b.o.op)=true->(masks.getD b.i 0).testBit a.i=false->cls X a.o.op= .L->aL X a.env b.H' a.o.op=some a.v):zHS P nt (.region id ops true) env H .normal envF HF:=by
 intro R fr k cs w hmode ht hE hL;unfold plan at hplan;simp only[cond_eq_ite]at hplan;split at hplan
 .rename_i hok;simp only[zC,zK]at hplan;obtain⟨hrow,hmasks⟩:=hplan;rw[<-hrow]at hmap;simp only[zNs,zE]at hok;obtain⟨⟨⟨⟨hmodes,hnd⟩,hpairs⟩,hallB⟩,_⟩:=hok;have hi:es.map (·.i)=(rowOf X ops (jS ops.toList [])).map (·.1):=by rw[<-hmap];simp
  have hmem: ∀e∈es,ops[e.i]? =some e.o:=fun e he=>zF2 (a:=(e.i,e.o)) (by rw[<-hmap];exact List.mem_map.2 ⟨e,he,rfl⟩)
  have hpw:=WG _ hpairs;rw[<-hmap,List.pairwise_map]at hpw;have hR:Row X r nt ops env H es envF HF:=by
   refine⟨hchain,hmem,by rw[hi];exact BZ _ hnd,hpw.imp ?_,hse.imp ?_⟩
   .intro a b hab;simp only[zFp,zE,Bool.or_eq_true,Bool.not_eq_true',Bool.or_eq_false_iff]at hab;refine⟨fun d h1 h2=> ?_,fun h3=> ?_⟩
    .simp[h1,h2]at hab
    .rcases hab.2 with h4 | h4
     .exact h4
     .rcases h3 with h3 | h3
      .rw[h4.1]at h3;simp at h3
      .rw[h4.2]at h3;simp at h3
   .intro a b hab hw hb hnb hL;rw[<-hmasks]at hab;have hnb':((jS ops.toList []).getD b.i 0).testBit a.i=false:=by
     cases hh:((jS ops.toList []).getD b.i 0).testBit a.i with
     | false=>rfl
     | true=>exact absurd hh hnb
    exact hab hw hb hnb' hL
  have hall: ∀j,j<ops.size-> ∃e∈es,e.i=j:=by
   intro j hj;simp only[List.all_eq_true,List.mem_range]at hallB;have h1:=hallB j hj;rw[<-hi]at h1;simp only[List.contains_eq_mem,zJ,List.mem_map]at h1;exact h1
  obtain⟨hval,hcov⟩:=zBo hmodes (P.follows .mixedOrders) (w.tape w.drawn (.order fr.fn id));have hI0:=zFU hm hR hE (hL.drew (w.drawn+1));obtain⟨R1,w1,t1,D1,hs1,hI1,hD1⟩:=zFT hX hr hm hR hall (fr:=fr) (k:=k) (cs:=cs) hmode _ [] R fr.tmps _ hval (by simp) hI0;have hallD: ∀e∈es,e.i∈D1:=fun e he=>hD1 _ (.inr (hcov _ (by
   have:=hmem e he;exact(Array.getElem?_eq_some_iff.1 this).1)))
  have hcF:vZ X D1 es HF=HF:=zDe hallD;have hrel:=hI1.rel;have hext:=hI1.ext;rw[hcF]at hrel hext;refine⟨R1,w1,t1,k,(Steps.one (zL2 hmode ht)).trans (hs1.trans (.one (kG (fr:= { fr with tmps:=t1,todo:= .inRegion ops []::k}) hmode rfl))),rfl, ?_,hrel,(Ext.drew R H w _).trans hext⟩;obtain⟨envS,hES,hlk⟩:=hI1.env;have hpd:(es.map (·.o.dst)).Pairwise (fun a b=> ∀d,a=some d->b≠some d):=List.pairwise_map.2 (hR.pair.imp fun h=>h.1);refine⟨hES.size,fun t x hx=> ?_,zAR hchain hE.out⟩;have:Eng.look envF t=Eng.look envS t:=by
   obtain⟨h1,h2⟩:=XH hchain hpd t;obtain⟨h3,h4⟩:=hlk t;by_cases hex: ∃e∈es,e.o.dst=some t
   .obtain⟨e,he,het⟩:=hex;rw[h1 e he het,h3 e he (hallD e he) het]
   .rw[h2 (fun p hp hc=>hex ⟨p,hp,hc⟩),h4 (fun p hp _ hc=>hex ⟨p,hp,hc⟩)]
  rw[this]at hx;exact hES.get t x hx
 .simp at hplan
end
end Go.Eng
end
section
noncomputable section
namespace Go.Eng
inductive Ex where
 | norm (vs:List AV)
 | exit (id:Nat) (vs:List AV)
 | ret (v:AV)
abbrev Rs:=Option (Ex×AH)
def bV (x:Option AV)(K:AV->Rs):Rs:=Option.rec (motive:=fun _=>Rs) none (fun v=>K v) x
def bR (x:Option (AV×AH))(K:AV->AH->Rs):Rs:=Option.rec (motive:=fun _=>Rs) none (fun p=>Prod.rec (motive:=fun _=>Rs) (fun v H=>K v H) p) x
def hd (vs:List AV)(K:AV->List AV->Rs):Rs:=List.rec (motive:=fun _=>Rs) none (fun v l _=>K v l) vs
def cnd (c:AV)(a b:Rs):Rs:=match c with | .bool true=>a | .bool false=>b | _=>none
def jn (x:Rs)(K:List AV->AH->Rs):Rs:=match x with
 | some (.norm vs,H)=>K vs H
 | some (.exit id vs,H)=>some (.exit id vs,H)
 | some (.ret v,H)=>some (.ret v,H)
 | none=>none
def jb (id:Nat)(x:Rs)(K:List AV->AH->Rs):Rs:=match x with
 | some (.norm vs,H)=>K vs H
 | some (.exit i vs,H)=>bif Nat.beq i id then K vs H else some (.exit i vs,H)
 | some (.ret v,H)=>some (.ret v,H)
 | none=>none
def yJ (n:Nat)(b:List AV->AH->Rs):List AV->AH->Rs:=
 Nat.rec (motive:=fun _=>List AV->AH->Rs) (fun _ _=>none) (fun _ ih vs H=>jn (b vs H) ih) n
def wnt (x:AV)(want:Bool)(a b:Rs):Rs:=bif isW x want then a else b
def chk (x:Option AV)(v:AV)(K:Rs):Rs:=match x with | some y=>bif aveq y v then K else none | none=>none
def KR (H:AH)(o:AObj)(K:Nat->AH->Rs):Rs:=
 match T.get H.h H.next with
 | none=>match T.set 40 H.h H.next o with
  | some t=>fN (Nat.succ H.next) fun m=>K H.next ⟨t,m⟩
  | none=>none
 | some _=>none
def bA (x:Option (AObj×(Nat->AV)))(H:AH)(K:AV->AH->Rs):Rs:=
 match x with
 | some (o,mk)=>KR H o fun A H'=>K (mk A) H'
 | none=>none
def jJ (op:BinOp)(x y:AV):Option AV:=match x with
 | .int k a=>match y with | .int k' b=>vN op k a k' b | _=>none
 | _=>none
def YE (op:BinOp)(x y:AV):Option AV:=match x with
 | .str l b=>match y with | .str m c=>UJ op l b m c | _=>none
 | _=>none
def KC (op:BinOp)(x y:AV):Option AV:=match x with
 | .bool a=>match y with
  | .bool b=>match op with
   | .eql=>mkB (a==b)
   | .neq=>mkB !(a==b)
   | _=>none
  | _=>none
 | _=>none
def bC (op:BinOp)(r:Option Bool):Option AV:=match r with
 | some b=>match op with
  | .eql=>mkB b
  | .neq=>mkB !b
  | _=>none
 | none=>none
def eqP (x y:AV):Option Bool:=match x with
 | .nilPtr=>match y with
  | .nilPtr=>some true
  | .ptr _ _=>some false
  | _=>none
 | .ptr A o=>match y with
  | .nilPtr=>some false
  | .ptr B p=>bif Nat.beq A B then some (Nat.beq o p)else none
  | _=>none
 | _=>none
def eqS (x y:AV):Option Bool:=match x with
 | .nilSlice=>match y with
  | .nilSlice=>some true
  | .slice _ _ _ _=>some false
  | _=>none
 | .slice _ _ _ _=>match y with
  | .nilSlice=>some false
  | _=>none
 | _=>none
def eqM (x y:AV):Option Bool:=match x with
 | .nilMap=>match y with
  | .nilMap=>some true
  | .map _=>some false
  | _=>none
 | .map _=>match y with
  | .nilMap=>some false
  | _=>none
 | _=>none
def eqF (x y:AV):Option Bool:=match x with
 | .nilFunc=>match y with
  | .nilFunc=>some true
  | .func _ _ _=>some false
  | _=>none
 | .func _ _ _=>match y with
  | .nilFunc=>some false
  | _=>none
 | _=>none
def eqA (qs:List Nat)(x y:AV):Option Bool:=match x with
 | .agg a=>match y with
  | .agg b=>bif Nat.beq (fL a 0) (fL b 0)&&Nat.beq qs.length (fL a 0)then wY qs a b else none
  | _=>none
 | _=>none
def zO4 (x y:AV)(H:AH):Option Bool:=match x with
 | .nilPtr=>match y with
  | .nilPtr=>some true
  | .ptr _ _=>some false
  | _=>none
 | .ptr A o=>match y with
  | .nilPtr=>some false
  | .ptr B p=>bif Nat.beq A B then some (Nat.beq o p)else bif cW A H&&cW B H then some false else none
  | _=>none
 | _=>none
def zI9 (X:Cx)(op:BinOp)(t:TypeId)(x y:AV)(H:AH):Option AV:=
 match X.und t with
 | some (.pointer e)=>match X.size e with
  | some 0=>none
  | some _=>bC op (zO4 x y H)
  | none=>none
 | _=>none
def zMM (X:Cx)(op:BinOp)(t:TypeId)(x y:AV):Option AV:=
 match X.und t with
 | some (.int _)=>jJ op x y
 | some .string=>YE op x y
 | some .bool=>KC op x y
 | some (.pointer e)=>match X.size e with
  | some 0=>none
  | some _=>bC op (eqP x y)
  | none=>none
 | some (.slice _)=>bC op (eqS x y)
 | some (.map _ _)=>bC op (eqM x y)
 | some (.func _ _ _)=>bC op (eqF x y)
 | some (.struct _)=>match zBI t X.fl with | some qs=>bC op (eqA qs x y) | none=>none
 | some (.array _ _)=>match zBI t X.fl with | some qs=>bC op (eqA qs x y) | none=>none
 | _=>none
def ldN (n:Nat)(p:AV)(H:AH):Option AV:=match p with
 | .ptr A off=>match H.h.get A with
  | some (.cells l _ _ _)=>match xW l off n with | some c=>some (.agg c) | none=>none
  | _=>none
 | _=>none
def ld1 (p:AV)(H:AH):Option AV:=match p with
 | .ptr A off=>match H.h.get A with
  | some (.cells l _ _ _)=>nth l off
  | _=>none
 | _=>none
def zEx (X:Cx)(t:TypeId)(p:AV)(H:AH):Option AV:=
 match X.und t with
 | some d=>bif uQ d then(match X.size t with | some n=>ldN n p H | none=>none)else ld1 p H
 | none=>none
def stN (n:Nat)(p x:AV)(H:AH):Option (AV×AH):=match p with
 | .ptr A off=>match H.h.get A with
  | some (.cells l e sz g)=>bif (fL (yC x) 0).beq n&&qY (yC x)&&Nat.blt 0 sz then
    match setAt l off (yC x)with
    | some l'=>match uH H A (.cells l' e sz g)with
     | some H'=>some (qZ,H')
     | none=>none
    | none=>none
   else none
  | _=>none
 | _=>none
def zEw (X:Cx)(t:TypeId)(p x:AV)(H:AH):Option (AV×AH):=
 match X.size t with | some n=>stN n p x H | none=>none
def cvI (k:IntKind)(x:AV):Option AV:=match x with | .int _ n=>mkI k n | _=>none
def zO9 (x:AV):Option AV:=match x with | .str l b=>some (.str l b) | _=>none
def zEE (X:Cx)(src dst:TypeId)(x:AV):Option AV:=
 match X.und src with
 | none=>none
 | some ds=>match X.und dst with
  | some (.int k)=>cvI k x
  | some .string=>match ds with
   | .string=>zO9 x
   | _=>none
  | _=>none
def zE6 (x:AV)(H:AH):Option AV:=match x with
 | .nilSlice=>some (.str 0 0)
 | .slice A off len _=>match H.h.get A with
  | some (.cells l _ _ _)=>match xW l off len with
   | some c=>match cJ c with
    | some (n,b)=>mkS n b
    | none=>none
   | none=>none
  | _=>none
 | _=>none
def zCn (X:Cx)(src dst:TypeId)(x:AV)(H:AH):Option AV:=
 match X.und src with
 | some (.slice e)=>match X.und dst with
  | some .string=>match X.und e with
   | some (.int .u8)=>zE6 x H
   | _=>none
  | _=>none
 | _=>none
def zMm (e:TypeId)(x:AV):Option (AObj×(Nat->AV)):=match x with
 | .str l b=>bif Nat.blt l 4611686018427387904 then some (.cells (bytesOf l b) e 1 true,fun A=> .slice A 0 l 1)else none
 | _=>none
def zEG (X:Cx)(src dst:TypeId)(x:AV):Option (AObj×(Nat->AV)):=
 match X.und src with
 | some .string=>match X.und dst with
  | some (.slice e)=>match X.und e with
   | some (.int .u8)=>zMm e x
   | _=>none
  | _=>none
 | _=>none
def V7 (x:AV)(lo hi:Option AV):Option AV:=match yT lo,yT hi with
 | some lo,some hi=>match x with | .str len bits=>zHI len bits lo hi | _=>none
 | _,_=>none
def kX (sz:Nat)(x:AV)(lo hi mx:Option AV)(H:AH):Option AV:=match yT lo,yT hi,yT mx with
 | some lo,some hi,some mx=>match x with
  | .nilSlice=>bif (lo.getD 0).beq 0&&(hi.getD 0).beq 0&&(mx.getD 0).beq 0&&(mx.isNone||hi.isSome)then some .nilSlice else none
  | .slice A off len cc=>match H.h.get A with
   | some (.cells l _ sz' g)=>bif Nat.blt 0 sz then QY A off len cc sz (yO l g sz' off cc sz) lo hi mx else none
   | _=>none
  | .emptySl=>match mx with
   | none=>bif (lo.getD 0).beq 0&&(hi.getD 0).beq 0 then some .emptySl else none
   | some _=>none
  | _=>none
 | _,_,_=>none
def k9 (n sz:Nat)(x:AV)(lo hi mx:Option AV):Option AV:=match yT lo,yT hi,yT mx with
 | some lo,some hi,some mx=>match x with
  | .ptr A off=>bif Nat.blt 0 sz then QY A off n (2*n) sz n lo hi mx else none
  | _=>none
 | _,_,_=>none
def zCm (X:Cx)(t:TypeId)(x:AV)(lo hi mx:Option AV)(H:AH):Option AV:=
 match X.und t with
 | some .string=>match mx with | none=>V7 x lo hi | some _=>none
 | some (.slice e)=>match X.size e with | some sz=>kX sz x lo hi mx H | none=>none
 | some (.array n e)=>match X.size e with | some sz=>k9 n sz x lo hi mx | none=>none
 | some (.pointer arr)=>match X.und arr with
  | some (.array n e)=>match X.size e with | some sz=>k9 n sz x lo hi mx | none=>none
  | _=>none
 | _=>none
def vX (n sz:Nat)(x ix:AV):Option AV:=match dI ix with
 | some i=>match x with
  | .ptr A off=>bif Nat.blt i n then fN (off+i*sz) fun o=>some (.ptr A o)else none
  | _=>none
 | none=>none
def dK (sz:Nat)(x ix:AV):Option AV:=match dI ix with
 | some i=>match x with
  | .slice A off len _=>bif Nat.blt i len then fN (off+i*sz) fun o=>some (.ptr A o)else none
  | _=>none
 | none=>none
def zBj (X:Cx)(t:TypeId)(x ix:AV):Option AV:=
 match X.und t with
 | some (.array n e)=>match X.size e with | some sz=>vX n sz x ix | none=>none
 | some (.slice e)=>match X.size e with | some sz=>dK sz x ix | none=>none
 | _=>none
def KT (x ix:AV):Option AV:=match dI ix with
 | some i=>match x with
  | .str len bits=>bif Nat.blt i len then fN ((bits / 2 ^ (8*i)) % 256) fun b=>some (.int .u8 (.ofNat b))else none
  | _=>none
 | none=>none
def zBD (n sz:Nat)(x ix:AV):Option AV:=match dI ix with
 | some i=>match x with
  | .agg cs=>bif Nat.blt i n then nth cs (i*sz)else none
  | _=>none
 | none=>none
def zFQ (n sz:Nat)(x ix:AV):Option AV:=match dI ix with
 | some i=>match x with
  | .agg cs=>bif Nat.blt i n then match xW cs (i*sz) sz with | some c=>some (.agg c) | none=>none else none
  | _=>none
 | none=>none
def zEA (X:Cx)(t:TypeId)(x ix:AV):Option AV:=
 match X.und t with
 | some .string=>KT x ix
 | some (.array n e)=>match X.und e,X.size e with
  | some d,some sz=>bif uQ d then zFQ n sz x ix else zBD n sz x ix
  | _,_=>none
 | _=>none
def fd1 (off:Nat)(x:AV):Option AV:=match x with | .agg cs=>nth cs off | _=>none
def fdN (off n:Nat)(x:AV):Option AV:=match x with | .agg cs=>(match xW cs off n with | some c=>some (.agg c) | none=>none) | _=>none
def zEC (X:Cx)(t:TypeId)(x:AV)(f:Nat):Option AV:=
 match X.und t with
 | some (.struct fs)=>match zLu fs.toList f with
  | some fl=>match X.und fl.type,X.size fl.type with
   | some d,some n=>bif uQ d then fdN fl.offset n x else fd1 fl.offset x
   | _,_=>none
  | none=>none
 | _=>none
def fAd (off:Nat)(x:AV):Option AV:=match x with | .ptr A o=>fN (o+off) fun o=>some (.ptr A o) | _=>none
def ZB (X:Cx)(s:TypeId)(x:AV)(f:Nat):Option AV:=
 match X.und s with
 | some (.struct fs)=>match zLu fs.toList f with
  | some fl=>match X.size fl.type with
   | some 0=>none
   | some _=>fAd fl.offset x
   | none=>none
  | none=>none
 | _=>none
def KS (x:AV):Option AV:=match x with | .str l _=>some (.int .i64 (.ofNat l)) | _=>none
def lnSl (x:AV):Option AV:=match x with
 | .nilSlice=>some (.int .i64 (.ofNat 0))
 | .slice _ _ n _=>some (.int .i64 (.ofNat n))
 | .emptySl=>some (.int .i64 (.ofNat 0))
 | _=>none
def ZQ (x:AV)(H:AH):Option AV:=match x with
 | .nilMap=>some (.int .i64 (.ofNat 0))
 | .map A=>match H.h.get A with
  | some (.map _ es)=>fN es.length fun n=>some (.int .i64 (.ofNat n))
  | _=>none
 | _=>none
def tLen (X:Cx)(t:TypeId)(x:AV)(H:AH):Option AV:=
 match X.und t with
 | some .string=>KS x
 | some (.slice _)=>lnSl x
 | some (.array n _)=>some (.int .i64 (.ofNat n))
 | some (.map _ _)=>ZQ x H
 | _=>none
def apP (e sz bytes:Nat)(s x:AV)(H:AH):Option (AV×AH):=
 match srcOf sz x H with
 | some (n,new)=>bif qY new then app1 e sz bytes n new s H else none
 | none=>none
def apZ (e sz bytes:Nat)(z:List AV)(s x:AV)(H:AH):Option (AV×AH):=match x with
 | .int .i64 (.ofNat n)=>bif Nat.ble (n*bytes) 281474976710656&&Nat.blt n 4611686018427387904 then app1 e sz bytes n (rep n z) s H else none
 | _=>none
def tApp (X:Cx)(t u:TypeId)(s x:AV)(H:AH):Option (AV×AH):=
 match X.und t with
 | some (.slice e)=>match X.ty.get e with
  | some ti=>match X.und u with
   | some (.slice _)=>bif YK ti.size ti.zero then apP e ti.size ti.bytes s x H else none
   | some .string=>bif YK ti.size ti.zero then apP e ti.size ti.bytes s x H else none
   | some (.int _)=>match fD X e with
    | some z=>bif YK ti.size ti.zero&&qY (yC z)then apZ e ti.size ti.bytes (yC z) s x H else none
    | none=>none
   | _=>none
  | none=>none
 | _=>none
def cpy (sz:Nat)(dst src:AV)(H:AH):Option (AV×AH):=
 match dst with
 | .nilSlice=>match src with
  | .nilSlice=>some (.int .i64 (.ofNat 0),H)
  | .slice _ _ _ _=>some (.int .i64 (.ofNat 0),H)
  | .str _ _=>some (.int .i64 (.ofNat 0),H)
  | _=>none
 | .slice A off len _=>match srcOf sz src H with
  | some (n,new)=>
   match takeN (Nat.min n len*sz) new with
   | some new=>bif qY new then
     match H.h.get A with
     | some (.cells l e' sz' g)=>match(bif Nat.blt 0 sz' then setAt l off new else none)with
      | some l'=>match uH H A (.cells l' e' sz' g)with
       | some H'=>fN (Nat.min n len) fun m=>some (.int .i64 (.ofNat m),H')
       | none=>none
      | none=>none
     | _=>none
    else none
   | none=>none
  | none=>none
 | _=>none
def zKT (X:Cx)(t:TypeId)(dst src:AV)(H:AH):Option (AV×AH):=
 match X.und t with
 | some (.slice e)=>match X.size e with | some sz=>cpy sz dst src H | none=>none
 | _=>none
def xH (pl:List (Nat×Nat))(z:List AV)(parts:List (Nat×AV)):Option AV:=
 match uL (zKb pl) z parts with | some c=>some (.agg c) | none=>none
def zKE (sz:Nat)(z:List AV)(parts:List (Nat×AV)):Option AV:=
 match uL (fun i=>some (i*sz,sz)) z parts with | some c=>some (.agg c) | none=>none
def zEI (X:Cx)(t:TypeId)(ps:Option (List (Nat×AV))):Option AV:=
 match fD X t with
 | some z=>match ps with
  | some parts=>match X.und t with
   | some (.struct fs)=>match ZI X fs.toList with
    | some pl=>xH pl (yC z) parts
    | none=>none
   | some (.array _ e)=>match X.size e with
    | some sz=>zKE sz (yC z) parts
    | none=>none
   | _=>none
  | none=>none
 | none=>none
def pk3 (c a b:Option AV):Option AV:=match c with
 | some (.bool true)=>a
 | some (.bool false)=>b
 | _=>none
def s2a (n:Nat)(x:AV):Option AV:=match x with
 | .slice A off len _=>bif Nat.ble n len then some (.ptr A off)else none
 | _=>none
def tArr (X:Cx)(arr:TypeId)(x:AV):Option AV:=match X.und arr with | some (.array n _)=>s2a n x | _=>none
def bxV (e:TypeId)(x:AV):Option (AObj×(Nat->AV)):=some (.cells (yC x) e 1 false,fun A=> .ptr A 0)
def aU (e sz len:Nat)(z:List AV)(parts:List (Nat×AV)):Option (AObj×(Nat->AV)):=
 match uL (fun i=>some (i*sz,sz)) (rep len z) parts with
 | some c=>some (.cells c e sz false,fun A=> .slice A 0 len (2*len))
 | none=>none
def zBk (X:Cx)(t:TypeId)(len:Nat)(ps:Option (List (Nat×AV))):Option (AObj×(Nat->AV)):=
 match X.und t with
 | some (.slice e)=>match ps with
  | some parts=>match X.size e with
   | some sz=>match fD X e with
    | some z=>bif Nat.ble (len*sz) 16777216&&Nat.blt 0 sz&&Nat.beq (fL (yC z) 0) sz then aU e sz len (yC z) parts else none
    | none=>none
   | none=>none
  | none=>none
 | _=>none
def zHY (e sz bytes:Nat)(z:List AV)(l c:AV):Option (AObj×(Nat->AV)):=match l with
 | .int .i64 (.ofNat n)=>match c with
  | .int .i64 (.ofNat m)=>bif Nat.ble n m&&Nat.ble (m*bytes) 140737488355328&&Nat.blt m 9223372036854775808 then
    some (.cells (rep m z) e sz false,fun A=> .slice A 0 n (2*m))else none
  | _=>none
 | _=>none
def zKS (X:Cx)(t:TypeId)(l c:AV):Option (AObj×(Nat->AV)):=
 match X.und t with
 | some (.slice e)=>match X.ty.get e with
  | some ti=>match fD X e with
   | some z=>bif Nat.blt 0 ti.size&&Nat.beq (fL (yC z) 0) ti.size then zHY e ti.size ti.bytes (yC z) l c else none
   | none=>none
  | none=>none
 | _=>none
def tLk (X:Cx)(t:TypeId)(ok:Bool)(x k:AV)(H:AH):Option AV:=match X.und t with
 | some (.map kt et)=>match kOf X kt,fD X et with
  | some ks,some z=>lkM ks z ok x k H
  | _,_=>none
 | _=>none
def tUp (X:Cx)(t:TypeId)(x k v:AV)(H:AH):Option (AV×AH):=match X.und t with
 | some (.map kt _)=>match kOf X kt with
  | some ks=>upM ks x k v H
  | none=>none
 | _=>none
def tDl (X:Cx)(t:TypeId)(x k:AV)(H:AH):Option (AV×AH):=match X.und t with
 | some (.map kt _)=>match kOf X kt with
  | some ks=>dlM ks x k H
  | none=>none
 | _=>none
def mkM (ks:List Nat):Option (AObj×(Nat->AV)):=some (.map ks [],fun A=> .map A)
def tMkM (X:Cx)(t:TypeId):Option (AObj×(Nat->AV)):=match X.und t with
 | some (.map kt _)=>match kOf X kt with
  | some ks=>mkM ks
  | none=>none
 | _=>none
def q3 {α:Type}(x y z:Option AV)(f:AV->AV->AV->Option α):Option α:=match x with
 | some a=>match y with
  | some b=>match z with | some c=>f a b c | none=>none
  | none=>none
 | none=>none
def q1 {α:Type}(x:Option AV)(f:AV->Option α):Option α:=match x with | some a=>f a | none=>none
def q2 {α:Type}(x y:Option AV)(f:AV->AV->Option α):Option α:=match x with
 | some a=>match y with | some b=>f a b | none=>none
 | none=>none
structure Dyn where
 fn:FuncId->List AV->AH->Option (AV×AH)
 yld:Nat->List AV->AH->Option (AV×AH)
structure Tb where
 X:Cx
 S:List (Nat×(List AV->AH->Option (AV×AH)))
def zAZ (S:List (Nat×(List AV->AH->Option (AV×AH))))(D:Dyn)(g:FuncId)(az:List AV)(H:AH):Option (AV×AH):=match S with
 | []=>D.fn g az H
 | (i,m)::S=>bif Nat.beq i g then m az H else zAZ S D g az H
def callV (S:List (Nat×(List AV->AH->Option (AV×AH))))(D:Dyn)(f:AV)(az:List AV)(H:AH):Option (AV×AH):=match f with
 | .func g first cap=>zAZ S D g (first++az++cap) H
 | .yieldTo A=>D.yld A az H
 | _=>none
def callO (B:Tb)(D:Dyn)(env:Env)(H:AH)(f:Operand)(args:List Operand):Option (AV×AH):=
 match zBf env args with
 | some az=>match f with
  | .func g=>zAZ B.S D g az H
  | .tmp t=>match look env t with | some v=>callV B.S D v az H | none=>none
  | _=>none
 | none=>none
def opK (B:Tb)(D:Dyn)(env:Env)(H:AH)(K:AV->AH->Rs):Op->Rs
 | .move x=>match opd env x with | some v=>K v H | none=>none
 | .assign x=>match opd env x with | some v=>K v H | none=>none
 | .pick c a b=>bV (pk3 (opd env c) (opd env a) (opd env b)) fun v=>K v H
 | .build t ps=>bV (zEI B.X t (xJ env ps.toList)) fun v=>K v H
 | .nilCheck x=>bV (q1 (opd env x) xZ) fun v=>K v H
 | .binOp op t x y _=>bif zFl B.X t x y then bV (q2 (opd env x) (opd env y) (zI9 B.X op t · · H)) fun v=>K v H
  else bV (q2 (opd env x) (opd env y) (zMM B.X op t)) fun v=>K v H
 | .unOp op _ x=>bV (q1 (opd env x) (aun op)) fun v=>K v H
 | .makeFunc (.func f) first cap=>match zBf env first.toList with
  | some a=>match zBf env cap.toList with
   | some b=>K (.func f a b) H
   | none=>none
  | none=>none
 | .fieldAddr s x f=>bV (q1 (opd env x) (ZB B.X s · f)) fun v=>K v H
 | .field t x f=>bV (q1 (opd env x) (zEC B.X t · f)) fun v=>K v H
 | .indexAddr t x i=>bV (q2 (opd env x) (opd env i) (zBj B.X t)) fun v=>K v H
 | .index t x i=>bV (q2 (opd env x) (opd env i) (zEA B.X t)) fun v=>K v H
 | .sliceToArrayPointer arr x=>bV (q1 (opd env x) (tArr B.X arr)) fun v=>K v H
 | .extract x i=>bV (q1 (opd env x) (qX · i)) fun v=>K v H
 | .load t a=>bV (q1 (opd env a) (zEx B.X t · H)) fun v=>K v H
 | .slice t x lo hi mx=>match uW env lo,uW env hi,uW env mx with
  | some lo,some hi,some mx=>bV (q1 (opd env x) (zCm B.X t · lo hi mx H)) fun v=>K v H
  | _,_,_=>none
 | .convert s d x=>match zHh B.X s d with
  | .P=>bV (q1 (opd env x) (zEE B.X s d)) fun v=>K v H
  | .L=>bV (q1 (opd env x) (zCn B.X s d · H)) fun v=>K v H
  | .A=>bA (q1 (opd env x) (zEG B.X s d)) H K
  | _=>none
 | .alloc e=>match fD B.X e with | some z=>bA (bxV e z) H K | none=>none
 | .box e x=>bA (q1 (opd env x) (bxV e)) H K
 | .buildSlice t len ps=>bA (zBk B.X t len (xJ env ps.toList)) H K
 | .makeSlice t l c=>bA (q2 (opd env l) (opd env c) (zKS B.X t)) H K
 | .lookup t x k ok=>bV (q2 (opd env x) (opd env k) (tLk B.X t ok · · H)) fun v=>K v H
 | .makeMap t none=>bA (tMkM B.X t) H K
 | .mapUpdate t m k v=>bR (q3 (opd env m) (opd env k) (opd env v) (tUp B.X t · · · H)) K
 | .store t a x=>bR (q2 (opd env a) (opd env x) (zEw B.X t · · H)) K
 | .call c=>match c.callee with
  | .value f=>bR (callO B D env H f c.args.toList) K
  | .builtin .len=>match c.args.toList,c.argTypes.toList with
   | [x],t::_=>bV (q1 (opd env x) (tLen B.X t · H)) fun v=>K v H
   | _,_=>none
  | .builtin .cap=>match c.args.toList,c.argTypes.toList with
   | [x],t::_=>bV (q1 (opd env x) (zMB B.X t)) fun v=>K v H
   | _,_=>none
  | .builtin .append=>match c.args.toList,c.argTypes.toList with
   | [s,x],[t,u]=>bR (q2 (opd env s) (opd env x) (tApp B.X t u · · H)) K
   | _,_=>none
  | .builtin .copy=>match c.args.toList,c.argTypes.toList with
   | [s,x],t::_=>bR (q2 (opd env s) (opd env x) (zKT B.X t · · H)) K
   | _,_=>none
  | .builtin .min=>match c.args.toList with
   | [x,y]=>bV (q2 (opd env x) (opd env y) mn2) fun v=>K v H
   | _=>none
  | .builtin .max=>match c.args.toList with
   | [x,y]=>bV (q2 (opd env x) (opd env y) mx2) fun v=>K v H
   | _=>none
  | .builtin .delete=>match c.args.toList,c.argTypes.toList with
   | [m,k],t::_=>bR (q2 (opd env m) (opd env k) (tDl B.X t · · H)) K
   | _,_=>none
  | .builtin .clear=>match c.args.toList,c.argTypes.toList with
   | [m],t::_=>bR (q1 (opd env m) (acl B.X t · H)) K
   | _,_=>none
  | _=>none
 | _=>none
def pck (L:List Nat)(env:Env)(K:List AV->Rs):Rs:=match L with
 | []=>K []
 | l::L=>match env l with
  | some v=>pck L env fun vs=>K (v::vs)
  | none=>none
def unp (L:List Nat)(vs:List AV)(env:Env)(K:Env->Rs):Rs:=match L with
 | []=>K env
 | l::L=>hd vs fun v vs=>unp L vs (upd env l v) K
def nl (vs:List AV)(K:Rs):Rs:=match vs with | []=>K | _::_=>none
def zML (k i:Nat)(vs:List AV)(env:Env)(K:Env->Rs):Rs:=match k with
 | 0=>nl vs (K env)
 | k+1=>hd vs fun v vs=>zML k (i+1) vs (upd env i v) K
def U5 (L:List Nat)(env:Env):Env:=match L with
 | []=>env
 | l::L=>fun t=>bif Nat.beq t l then none else U5 L env t
def setE (nt:Nat)(env:Env)(d:Option Tmp)(v:AV)(K:Env->Rs):Rs:=match d with
 | some d=>bif Nat.blt d nt then K (upd env d v)else none
 | none=>K env
def isL (X:Cx)(o:Op):Bool:=match cls X o with | .L=>true | _=>false
def kS (X:Cx)(o:Op):Bool:=match o with
 | .load _ _=>true
 | .lookup _ _ _ _=>true
 | .slice t _ _ _ _=>match X.und t with | some (.slice _)=>true | _=>false
 | .convert _ _ _=>isL X o
 | .binOp _ t x y _=>zFl X t x y
 | .call c=>match c.callee with
  | .builtin .len=>match c.argTypes.toList with
   | t::_=>match X.und t with | some (.map _ _)=>true | _=>false
   | _=>false
  | _=>false
 | _=>false
def tbit (m i:Nat):Bool:=Nat.rec (motive:=fun _=>Nat->Bool) (fun m=>Nat.beq (Nat.mod m 2) 1) (fun _ ih m=>ih (Nat.div m 2)) i m
theorem zEs (m i:Nat):tbit m i=m.testBit i:=by
 induction i generalizing m with
 | zero=>
  rw[Nat.testBit_zero];show Nat.beq (m % 2) 1=_;rw[Bool.eq_iff_iff,Nat.beq_eq,zJ]
 | succ i ih=>rw[Nat.testBit_succ,<-ih];rfl
def zLc:Option (Nat×Bool)->Option (Nat×Bool)->Bool
 | some (i,a),some (j,b)=>Nat.beq i j&&(a==b)
 | _,_=>false
def BF (g:Option (Nat×Bool)):List (Nat×Oper)->List (Nat×Oper)×List (Nat×Oper)
 | []=>([],[])
 | o::l=>bif zLc g o.2.guard then(match BF g l with | (a,b)=>(o::a,b))else([],o::l)
def slotsOf (ops:Array Oper)(l:List (Nat×Oper)):List Nat:=l.flatMap fun a=>bJ ops a.2
def ZK (ops:Array Oper)(run rest:List (Nat×Oper)):List Nat:=
 let s:=slotsOf ops rest
 run.filterMap fun a=>match a.2.dst with
  | some d=>bif s.contains d then some d else none
  | none=>none
def dstsOf (run:List (Nat×Oper)):List Nat:=run.filterMap fun a=>a.2.dst
def zLe (X:Cx)(masks:Option (List Nat))(run rest:List (Nat×Oper)):Bool:=match masks with
 | none=>true
 | some ms=>run.all fun a=> !kS X a.2.op||rest.all fun b=> !jR (cls X b.2.op)||tbit (ms.getD b.1 0) a.1
def zFZ (ops:Array Oper)(env:Env)(j:Nat):Option AV:=match zEf ops.toList j with
 | some p=>match p.dst with
  | some d=>look env d
  | none=>none
 | none=>none
structure Seen where
 i:Nat
 rd:AH->Option AV
 v:AV
def zNv (B:Tb)(env:Env)(o:Op)(H:AH):Option AV:=match o with
 | .load t a=>q1 (opd env a) (zEx B.X t · H)
 | .lookup t x k ok=>q2 (opd env x) (opd env k) (tLk B.X t ok · · H)
 | .slice t x lo hi mx=>match uW env lo,uW env hi,uW env mx with
  | some lo,some hi,some mx=>q1 (opd env x) (zCm B.X t · lo hi mx H)
  | _,_,_=>none
 | .convert s d x=>q1 (opd env x) (zCn B.X s d · H)
 | .binOp op t x y _=>q2 (opd env x) (opd env y) (zI9 B.X op t · · H)
 | .call c=>match c.args.toList,c.argTypes.toList with
  | [x],t::_=>q1 (opd env x) (tLen B.X t · H)
  | _,_=>none
 | _=>none
def zN3 (mask:Nat)(H:AH)(K:Rs):List Seen->Rs
 | []=>K
 | s::l=>bif tbit mask s.i then zN3 mask H K l else chk (s.rd H) s.v (zN3 mask H K l)
def zLa (B:Tb)(masks:List Nat)(env:Env)(sn:List Seen)(i:Nat)(o:Op)(v:AV)(H':AH)(K:List Seen->Rs):Rs:=
 bif jR (cls B.X o)then zN3 (masks.getD i 0) H' (K sn) sn
 else bif kS B.X o then K (sn++[⟨i,zNv B env o,v⟩])else K sn
def zHX (B:Tb)(D:Dyn)(nt:Nat)(masks:Option (List Nat))(K:List Seen->Env->AH->Rs):List (Nat×Oper)->List Seen->Env->AH->Rs
 | [],sn,env,H=>K sn env H
 | (i,o)::rest,sn,env,H=>opK B D env H (fun v H'=>match masks with
   | none=>setE nt env o.dst v fun env'=>zHX B D nt masks K rest sn env' H'
   | some ms=>zLa B ms env sn i o.op v H' fun sn=>setE nt env o.dst v fun env'=>zHX B D nt masks K rest sn env' H') o.op
def zLS (nt:Nat)(ops:Array Oper)(j:Nat)(run:List (Nat×Oper)):Bool:=match zEf ops.toList j with
 | some p=>match p.dst with
  | some d=> !(dstsOf run).contains d&&(dstsOf run).all fun d=>Nat.blt d nt
  | none=>false
 | none=>false
def BH (X:Cx)(masks:Option (List Nat))(sn:List Seen)(H:AH)(K:Rs):List (Nat×Oper)->Rs
 | []=>K
 | b::run=>match masks with
  | none=>BH X masks sn H K run
  | some ms=>bif jR (cls X b.2.op)then zN3 (ms.getD b.1 0) H (BH X masks sn H K run) sn else BH X masks sn H K run
def runK (B:Tb)(D:Dyn)(nt:Nat)(ops:Array Oper)(masks:Option (List Nat))(g:AV)(want:Bool)(run:List (Nat×Oper))(out:List Nat)(sn:List Seen)(env:Env)(H:AH)(K:Env->AH->Rs):Rs:=
 jn (wnt g want (zHX B D nt masks (fun _ env H=>pck out env fun vs=>some (.norm vs,H)) run sn env H)
   (BH B.X masks sn H (some (.norm (out.map fun _=>qZ),H)) run))
  fun vs H=>unp out vs (U5 (dstsOf run) env) fun env=>K env H
def runW (B:Tb)(D:Dyn)(nt:Nat)(masks:Option (List Nat))(g:AV)(want:Bool)(run:List (Nat×Oper))(out:List Nat)(sn:List Seen)(env:Env)(H:AH)(K:List Seen->Env->AH->Rs):Rs:=
 wnt g want (zHX B D nt masks K run sn env H)
  (BH B.X masks sn H (unp out (out.map fun _=>qZ) (U5 (dstsOf run) env) fun env=>K sn env H) run)
def zCA (B:Tb)(D:Dyn)(nt:Nat)(ops:Array Oper)(masks:Option (List Nat))(fuel:Nat)(K:Env->AH->Rs):List (Nat×Oper)->List Seen->Env->AH->Rs:=
 Nat.rec (motive:=fun _=>List (Nat×Oper)->List Seen->Env->AH->Rs) (fun _ _ _ _=>none)
  (fun _ ih l sn env H=>match l with
   | []=>K env H
   | (i,o)::rest=>match o.guard with
    | none=>zHX B D nt masks (fun sn env H=>ih rest sn env H) [(i,o)] sn env H
    | some (j,want)=>match zFZ ops env j with
     | none=>none
     | some g=>match BF o.guard rest with
      | (run,rest)=>bif zLS nt ops j ((i,o)::run)then
        bif zLe B.X masks ((i,o)::run) rest then
         runK B D nt ops masks g want ((i,o)::run) (ZK ops ((i,o)::run) rest) sn env H fun env H=>ih rest sn env H
        else runW B D nt masks g want ((i,o)::run) (ZK ops ((i,o)::run) rest) sn env H fun sn env H=>ih rest sn env H
       else none) fuel
def idx (l:List Oper):Nat->List (Nat×Oper):=match l with
 | []=>fun _=>[]
 | o::l=>fun n=>(n,o)::idx l (n+1)
def zMS (B:Tb)(D:Dyn)(nt:Nat)(ops:Array Oper)(draw:Bool)(K:Env->AH->Rs)(env:Env)(H:AH):Rs:=
 bif draw then
  match plan B.X ops with
  | some (row,masks)=>zCA B D nt ops (some masks) (Nat.succ row.length) K row [] env H
  | none=>none
 else zCA B D nt ops none (Nat.succ ops.size) K (idx ops.toList 0) [] env H
inductive Hint where
 | o
 | s (a b:Hint)
 | c (L:List Nat) (a b:Hint)
 | cl (a b:Hint)
 | cr (a b:Hint)
 | b (L:List Nat) (a:Hint)
 | b0 (a:Hint)
 | l (L:List Nat) (a:Hint)
 | rf (s:Nat) (L:List Nat)
 | t (L:List Nat) (m:List AV->AH->Option AH)
def xE (Bk:List (Nat×List Nat))(id:Nat):Option (List Nat):=match Bk with
 | []=>none
 | (i,L)::r=>bif Nat.beq i id then some L else xE r id
def zE3 (Bk:List (Nat×List Nat))(id:Nat):List (Nat×List Nat):=Bk.filter fun x=> !Nat.beq x.1 id
def resE (X:Cx)(env:Env)(H:AH):ResultVar->Option AV
 | .tmp t=>env t
 | .cell a t=>q1 (env a) (zEx X t · H)
def zMR (X:Cx)(rs:List ResultVar)(env:Env)(H:AH)(K:List AV->Rs):Rs:=match rs with
 | []=>K []
 | r::rs=>bV (resE X env H r) fun v=>zMR X rs env H fun vs=>K (v::vs)
def tupV:List AV->AV
 | [v]=>v
 | vs=> .tuple vs
def zIm (X:Cx)(rs:List ResultVar)(env:Env)(H:AH):Rs:=zMR X rs env H fun vs=>some (.ret (tupV vs),H)
def rfC (S:List (Nat×(List AV->AH->Option (AV×AH))))(D:Dyn)(f:AV)(A:Nat)(H:AH):Option (AV×AH):=match f with
 | .func g first cap=>zAZ S D g (first++[.yieldTo A]++cap) H
 | _=>none
def uD (A:Nat)(H:AH)(K:AH->Rs):Rs:=match H.h.get A with
 | some (.loop l)=>match l.state with
  | .ready=>match uH H A (.loop { l with state:= .busy})with
   | some H'=>K H'
   | none=>none
  | _=>none
 | _=>none
def U4 (A:Nat)(jump:Option Code)(H:AH):Option (AV×AH):=match H.h.get A with
 | some (.loop l)=>match jump with
  | none=>match uH H A (.loop { l with state:= .ready,pending:=none})with
   | some H'=>some (.bool true,H')
   | none=>none
  | some j=>match uH H A (.loop { l with state:= .done,pending:=some j})with
   | some H'=>some (.bool false,H')
   | none=>none
 | _=>none
def zMe (A:Nat)(x:Rs):Option (AV×AH):=match x with
 | some (.norm _,H)=>U4 A none H
 | some (.exit id _,H)=>U4 A (some (.exit id)) H
 | some (.ret _,H)=>U4 A (some .ret) H
 | none=>none
def uZ (A:Nat)(H:AH)(K:Option Code->AH->Rs):Rs:=match H.h.get A with
 | some (.loop l)=>match l.state with
  | .busy=>none
  | _=>match uH H A .dead with
   | some H'=>K l.pending H'
   | none=>none
 | _=>none
def zCQ (j:Option Code)(Kn:Rs)(Kx:Nat->Rs)(Kr:Rs):Rs:=match j with
 | none=>Kn
 | some (.exit id)=>Kx id
 | some .ret=>Kr
 | _=>none
def exS (Bk:List (Nat×List Nat))(env:Env)(H:AH)(id:Nat):Rs:=match Bk with
 | []=>none
 | (i,L)::r=>bif Nat.beq i id then(pck L env fun vs=>some (.exit id vs,H))else exS r env H id
def zI6 (nt:Nat)(ps:List Nat)(az:List AV)(env:Env)(K:Env->Rs):Rs:=match ps with
 | []=>nl az (K env)
 | p::ps=>hd az fun a az=>bif Nat.blt p nt then zI6 nt ps az (upd env p a) K else none
def tld (x:Option AH)(N:Nat)(K:AH->Rs):Rs:=match x with
 | some H=>bif Nat.ble N H.next then K H else none
 | none=>none
def yI (B:Tb)(D:Dyn)(n nt:Nat)(rs:List ResultVar)(f0:FuncId)(ro:Bool):Code->Hint->List (Nat×List Nat)->(Env->AH->Rs)->Env->AH->Rs
 | .skip,_,_,K,env,H=>K env H
 | .label _,_,_,K,env,H=>K env H
 | .region _ ops draw,_,_,K,env,H=>zMS B D nt ops draw K env H
 | .seq a b, .s ha hb,Bk,K,env,H=>yI B D n nt rs f0 ro a ha Bk (yI B D n nt rs f0 ro b hb Bk K) env H
 | .seq _ _, .t L m,_,K,env,H=>pck L env fun vs=>tld (m vs H) H.next fun H=>unp L vs xN fun env=>K env H
 | .cond c a b, .c L ha hb,Bk,K,env,H=>match opd env c with
  | some v=>jn (cnd v (yI B D n nt rs f0 ro a ha Bk (fun env H=>pck L env fun vs=>some (.norm vs,H)) env H)
    (yI B D n nt rs f0 ro b hb Bk (fun env H=>pck L env fun vs=>some (.norm vs,H)) env H)) fun vs H=>unp L vs xN fun env=>K env H
  | none=>none
 | .cond c a b, .cl ha hb,Bk,K,env,H=>match opd env c with
  | some v=>cnd v (yI B D n nt rs f0 ro a ha Bk (fun _ _=>none) env H) (yI B D n nt rs f0 ro b hb Bk K env H)
  | none=>none
 | .cond c a b, .cr ha hb,Bk,K,env,H=>match opd env c with
  | some v=>cnd v (yI B D n nt rs f0 ro a ha Bk K env H) (yI B D n nt rs f0 ro b hb Bk (fun _ _=>none) env H)
  | none=>none
 | .block id b, .b L hb,Bk,K,env,H=>
  jb id (yI B D n nt rs f0 ro b hb ((id,L)::Bk) (fun env H=>pck L env fun vs=>some (.norm vs,H)) env H) fun vs H=>unp L vs xN fun env=>K env H
 | .block id b, .b0 hb,Bk,K,env,H=>yI B D n nt rs f0 ro b hb (zE3 Bk id) K env H
 | .loop b, .l L hb,Bk,_,env,H=>pck L env fun vs=>
  yJ n (fun vs H=>unp L vs xN fun env=>yI B D n nt rs f0 ro b hb Bk (fun env H=>pck L env fun vs=>some (.norm vs,H)) env H) vs H
 | .exit id,_,Bk,_,env,H=>match xE Bk id with
  | some L=>pck L env fun vs=>some (.exit id vs,H)
  | none=>none
 | .ret,_,_,_,env,H=>zIm B.X rs env H
 | .rangeFunc f _ _ _, .rf s L,Bk,K,env,H=>bif ro then none else match opd env f with
  | some fv=>pck L env fun vs=>KR H (.loop ⟨.ready,none,f0,s,L,vs⟩) fun A H=>bR (rfC B.S D fv A H) fun _ H=>
    uZ A H fun j H=>zCQ j (K env H) (exS Bk env H) (zIm B.X rs env H)
  | none=>none
 | _,_,_,_,_,_=>none
def fF (x:Rs):Option (AV×AH):=match x with | some (.ret v,H)=>some (v,H) | _=>none
def rdK (B:Tb)(D:Dyn)(n:Nat)(f0:FuncId)(nt:Nat)(ps:Array Tmp)(asg body:Code)(L ids:List Nat)(ha hb:Hint)(A:Nat)(l:ALoop)(az:List AV)(H:AH):Option (AV×AH):=
 bif QN L l.live then
  zMe A (unp L l.vals xN fun env=>zI6 nt ps.toList az env fun env=>
   yI B D n nt [] f0 true asg ha [] (fun env H=>uD A H fun H=>yI B D n nt [] f0 true body hb (ids.map fun i=>(i,[])) (fun _ H=>some (.norm [],H)) env H) env H)
 else none
def zMQ (B:Tb)(D:Dyn)(n:Nat)(f0:FuncId)(s:Nat)(L ids:List Nat)(ha hb:Hint)(A:Nat)(l:ALoop)(az:List AV)(H:AH):Option (AV×AH):=
 match VA f0 s with
 | some (nt,ps,asg,body)=>rdK B D n f0 nt ps asg body L ids ha hb A l az H
 | none=>none
def J3 (t:List ((Nat×Nat)×(Nat->ALoop->List AV->AH->Option (AV×AH))))(A:Nat)(az:List AV)(H:AH):Option (AV×AH):=
 match H.h.get A with
 | some (.loop l)=>go l t
 | _=>none
where go (l:ALoop):List ((Nat×Nat)×(Nat->ALoop->List AV->AH->Option (AV×AH)))->Option (AV×AH)
 | []=>none
 | ((f,s),m)::t=>bif Nat.beq f l.fn&&Nat.beq s l.site then m A l az H else go l t
def zMY (B:Tb)(D:Dyn)(n:Nat)(f0:FuncId)(fn:Func)(h:Hint)(az:List AV)(H:AH):Option (AV×AH):=
 match fn.body with
 | some body=>bif Nat.ble (fn.params.size+fn.nfree) fn.ntmps then fF (zML (fn.params.size+fn.nfree) 0 az xN fun env=>yI B D n fn.ntmps fn.results.toList f0 false body h [] (fun env H=>zIm B.X fn.results.toList env H) env H)else none
 | none=>none
end Go.Eng
end
end
section
namespace Go.Eng
theorem j8 {x:Option AV}{K:AV->Rs}{out:Ex×AH}(h:bV x K=some out): ∃v,x=some v/\K v=some out:=by
 cases x with
 | none=>exact absurd h (by simp[bV])
 | some v=>exact⟨_,rfl,h⟩
theorem uN {x:Option (AV×AH)}{K:AV->AH->Rs}{out:Ex×AH}(h:bR x K=some out): ∃v H,x=some (v,H)/\K v H=some out:=by
 cases x with
 | none=>exact absurd h (by simp[bR])
 | some p=>obtain⟨v,H⟩:=p;exact⟨_,_,rfl,h⟩
theorem Q5 {x:Option (AObj×(Nat->AV))}{H:AH}{K:AV->AH->Rs}{out:Ex×AH}(h:bA x H K=some out): ∃v H',wA H x=some (v,H')/\K v H'=some out:=by
 unfold bA at h;split at h
 .rename_i o mk;unfold KR at h;split at h
  .rename_i hn;split at h
   .rename_i t ht;rw[yG]at h;refine⟨_,_, ?_,h⟩;simp only[wA,newA,hn,zIE,ht]
   .simp at h
  .simp at h
 .simp at h
theorem jM {α:Type}{x:Option AV}{f:AV->Option α}{r:α}(h:q1 x f=some r): ∃a,x=some a/\f a=some r:=by
 unfold q1 at h;split at h
 .exact⟨_,rfl,h⟩
 .simp at h
theorem wF {α:Type}{x y:Option AV}{f:AV->AV->Option α}{r:α}(h:q2 x y f=some r): ∃a b,x=some a/\y=some b/\f a b=some r:=by
 unfold q2 at h;split at h
 .split at h
  .exact⟨_,_,rfl,rfl,h⟩
  .simp at h
 .simp at h
section
variable {X:Cx}
theorem gG {op:BinOp}{q:Option Bool}{r:AV}(h:bC op q=some r): ∃b,q=some b/\((op= .eql/\mkB b=some r)\/(op= .neq/\mkB (!b)=some r)):=by
 unfold bC at h;split at h
 .split at h
  .exact⟨_,rfl, .inl ⟨rfl,h⟩⟩
  .exact⟨_,rfl, .inr ⟨rfl,h⟩⟩
  .simp at h
 .simp at h
theorem fC {op:BinOp}{t:TypeId}{x y r:AV}{b:Bool}(h:aeq X 9 t x y=some b)(k:(op= .eql/\mkB b=some r)\/(op= .neq/\mkB (!b)=some r)):zBc X op t x y=some r:=by
 unfold zBc;rcases k with⟨rfl,k⟩ | ⟨rfl,k⟩<;>simp only[h,k]
theorem zKx {op:BinOp}{t:TypeId}{x y r:AV}{qs:List Nat}(hq:zBI t X.fl=some qs)(h:bC op (eqA qs x y)=some r):zHO X op t x y=some r:=by
 obtain⟨b,hb,hk⟩:=gG h;unfold eqA at hb;split at hb
 .rename_i a;split at hb
  .rename_i c;rw[cond_eq_ite]at hb;split at hb
   .rename_i hc;show zHN X op t a c=some r;simp only[zHN,hq,hc,cond_true,hb];rcases hk with⟨rfl,hk⟩ | ⟨rfl,hk⟩
    .exact hk
    .exact hk
   .simp at hb
  .simp at hb
 .simp at hb
theorem zEJ {op:BinOp}{t:TypeId}{x y r:AV}(h:zMM X op t x y=some r):zHO X op t x y=some r:=by
 unfold zMM at h;split at h
 .unfold jJ at h;split at h
  .split at h
   .exact h
   .simp at h
  .simp at h
 .unfold YE at h;split at h
  .split at h
   .exact h
   .simp at h
  .simp at h
 .rename_i hu;unfold KC at h;split at h
  .rename_i a;split at h
   .rename_i b;have ha:aeq X 9 t (.bool a) (.bool b)=some (a==b):=by simp only[aeq,hu]
    show(bif jF (.bool a)then zBc X op t (.bool a) (.bool b)else none)=some r;simp only[jF,cond_true];split at h
    .exact fC ha (.inl ⟨rfl,h⟩)
    .exact fC ha (.inr ⟨rfl,h⟩)
    .simp at h
   .simp at h
  .simp at h
 .rename_i e hu;split at h
  .simp at h
  .rename_i n hne hn;obtain⟨b,hb,hk⟩:=gG h;have key: ∀x y,eqP x y=some b->aeq X 9 t x y=some b/\jF x=true:=by
    intro x y hb;unfold eqP at hb;split at hb
    .split at hb<;>simp_all [aeq,hu,jF]
    .split at hb
     .simp_all [aeq,hu,jF]
     .simp only[aeq,hu,hn,jF];exact⟨hb,trivial⟩
     .simp at hb
    .simp at hb
   obtain⟨k1,k2⟩:=key x y hb;have k3:=fC k1 hk;unfold zHO;split
   .simp[jF]at k2
   .simp[jF]at k2
   .simp[jF]at k2
   .rw[k2];exact k3
  .simp at h
 .rename_i e hu;obtain⟨b,hb,hk⟩:=gG h;have key:aeq X 9 t x y=some b/\jF x=true:=by
   unfold eqS at hb;split at hb
   .split at hb<;>simp_all [aeq,hu,jF]
   .split at hb<;>simp_all [aeq,hu,jF]
   .simp at hb
  obtain⟨k1,k2⟩:=key;have k3:=fC k1 hk;unfold zHO;split
  .simp[jF]at k2
  .simp[jF]at k2
  .simp[jF]at k2
  .rw[k2];exact k3
 .rename_i e1 e2 hu;obtain⟨b,hb,hk⟩:=gG h;have key:aeq X 9 t x y=some b/\jF x=true:=by
   unfold eqM at hb;split at hb
   .split at hb<;>simp_all [aeq,hu,jF]
   .split at hb<;>simp_all [aeq,hu,jF]
   .simp at hb
  obtain⟨k1,k2⟩:=key;have k3:=fC k1 hk;unfold zHO;split
  .simp[jF]at k2
  .simp[jF]at k2
  .simp[jF]at k2
  .rw[k2];exact k3
 .rename_i e1 e2 e3 hu;obtain⟨b,hb,hk⟩:=gG h;have key:aeq X 9 t x y=some b/\jF x=true:=by
   unfold eqF at hb;split at hb
   .split at hb<;>simp_all [aeq,hu,jF]
   .split at hb<;>simp_all [aeq,hu,jF]
   .simp at hb
  obtain⟨k1,k2⟩:=key;have k3:=fC k1 hk;unfold zHO;split
  .simp[jF]at k2
  .simp[jF]at k2
  .simp[jF]at k2
  .rw[k2];exact k3
 .split at h
  .rename_i qs hq;exact zKx hq h
  .simp at h
 .split at h
  .rename_i qs hq;exact zKx hq h
  .simp at h
 .simp at h
theorem zCo {op:BinOp}{t:TypeId}{x y r:AV}{H:AH}(h:zI9 X op t x y H=some r):UK X op t x y H=some r:=by
 unfold zI9 at h;split at h
 .rename_i e hu;split at h
  .simp at h
  .rename_i n hne hn;have hn0:n≠0:=fun h0=>hne (by rw[h0])
   obtain⟨m,rfl⟩: ∃m,n=m+1:=⟨n - 1,by omega⟩;have ht:zMM X op t x y=bC op (eqP x y):=by simp only[zMM,hu,hn]
   have key:zMM X op t x y=some r\/ ∃A o B p,x= .ptr A o/\y= .ptr B p/\Nat.beq A B=false/\cW A H=true/\cW B H=true/\bC op (some false)=some r:=by
    rw[ht]
    cases x<;>cases y<;>simp only[zO4]at h<;>first | exact .inl h | (simp[bC]at h;done) | skip
    rename_i A o B p
    cases hAB:Nat.beq A B with
    | true=>left;simp only[hAB,cond_true,eqP]at h⊢;exact h
    | false=>
     simp only[hAB,cond_false]at h
     cases hl:(cW A H&&cW B H)with
     | true=>
      rw[hl]at h;simp only[cond_true]at h;rw[zE]at hl;exact .inr ⟨A,o,B,p,rfl,rfl,hAB,hl.1,hl.2,h⟩
     | false=>rw[hl]at h;simp[bC]at h
   rcases key with hk | ⟨A,o,B,p,rfl,rfl,hAB,hA,hB,hc⟩
   .unfold UK;rw[zEJ hk]
   .have hno:zHO X op t (.ptr A o) (.ptr B p)=none:=by
     show(bif jF (.ptr A o)then zBc X op t (.ptr A o) (.ptr B p)else none)=none;simp only[jF,cond_true];unfold zBc
     cases op<;>simp only[aeq,hu,hn,hAB,cond_false]
    unfold UK;rw[hno];simp only[hu,hn,pNe,hA,hB,hAB,Bool.not_false,Bool.and_self,cond_true]
    cases op<;>first | exact hc | (simp[bC]at hc;done)
  .simp at h
 .simp at h
theorem V1 {t:TypeId}{p r:AV}{H:AH}(h:zEx X t p H=some r):KG X t p H=some r:=by
 unfold zEx at h;split at h
 .rename_i d hd;rw[cond_eq_ite]at h;split at h
  .rename_i ha;split at h
   .rename_i n hn;unfold ldN at h;split at h
    .split at h
     .rename_i hA;simp only[KG,hA,hd,ha,cond_true,hn];exact h
     .simp at h
    .simp at h
   .simp at h
  .rename_i ha;unfold ld1 at h;split at h
   .split at h
    .rename_i hA;simp only[KG,hA,hd,Bool.eq_false_iff.2 ha,cond_false];exact h
    .simp at h
   .simp at h
 .simp at h
theorem zEv {t:TypeId}{p x v:AV}{H H':AH}(h:zEw X t p x H=some (v,H')):XC X t (some p) (some x) H=some (v,H'):=by
 unfold zEw at h;split at h
 .rename_i n hn;unfold stN at h;split at h
  .split at h
   .rename_i hA;rw[cond_eq_ite]at h;split at h
    .rename_i hc;split at h
     .rename_i hs;split at h
      .rename_i hp;simp only[XC,zB3,hA,hn,hc,cond_true,hs,hp];exact h
      .simp at h
     .simp at h
    .simp at h
   .simp at h
  .simp at h
 .simp at h
theorem zED {s d:TypeId}{x r:AV}(h:zEE X s d x=some r):XS X s d x=some r:=by
 unfold zEE at h;split at h
 .simp at h
 .rename_i ds hs;split at h
  .rename_i k hd;unfold cvI at h;split at h
   .simp only[XS,hs,hd];exact h
   .simp at h
  .rename_i hd;split at h
   .unfold zO9 at h;split at h
    .simp only[XS,hs,hd];exact h
    .simp at h
   .simp at h
  .simp at h
theorem B0 {s d:TypeId}{x r:AV}{H:AH}(h:zCn X s d x H=some r):QS X s d x H=some r:=by
 unfold zCn at h;split at h
 .rename_i e hs;split at h
  .rename_i hd;split at h
   .rename_i he;simp only[QS,hs,hd,he];exact h
   .simp at h
  .simp at h
 .simp at h
theorem zEF {s d:TypeId}{x:AV}{r:AObj×(Nat->AV)}(h:zEG X s d x=some r):zBb X s d x=some r:=by
 unfold zEG at h;split at h
 .rename_i hs;split at h
  .rename_i e hd;split at h
   .rename_i he;simp only[zBb,hs,hd,he];exact h
   .simp at h
  .simp at h
 .simp at h
theorem UZ {t:TypeId}{x r:AV}{lo hi mx:Option AV}{H:AH}(h:zCm X t x lo hi mx H=some r):fX X t x lo hi mx H=some r:=by
 unfold zCm at h;split at h
 .rename_i ht;split at h
  .unfold V7 at h;split at h
   .rename_i l1 l2 h1 h2;split at h
    .have h3:yT none=some none:=rfl;simp only[fX,h1,h2,h3,ht];exact h
    .simp at h
   .simp at h
  .simp at h
 .rename_i e ht;split at h
  .rename_i sz hsz;unfold kX at h;split at h
   .rename_i l1 l2 l3 h1 h2 h3;split at h<;>first | (simp only[fX,h1,h2,h3,ht,hsz];exact h) | (simp at h;done)
   .simp at h
  .simp at h
 .rename_i n e ht;split at h
  .rename_i sz hsz;unfold k9 at h;split at h
   .rename_i l1 l2 l3 h1 h2 h3;split at h<;>first | (simp only[fX,h1,h2,h3,ht,hsz];exact h) | (simp at h;done)
   .simp at h
  .simp at h
 .rename_i arr ht;split at h
  .rename_i n e ha;split at h
   .rename_i sz hsz;unfold k9 at h;split at h
    .rename_i l1 l2 l3 h1 h2 h3;split at h<;>first | (simp only[fX,h1,h2,h3,ht,ha,hsz];exact h) | (simp at h;done)
    .simp at h
   .simp at h
  .simp at h
 .simp at h
theorem zDE {t:TypeId}{x i r:AV}(h:zBj X t x i=some r):v6 X t x i=some r:=by
 unfold zBj at h;split at h
 .rename_i n e ht;split at h
  .rename_i sz hsz;unfold vX at h;split at h
   .rename_i k hk;split at h
    .simp only[v6,hk,ht,hsz];exact h
    .simp at h
   .simp at h
  .simp at h
 .rename_i e ht;split at h
  .rename_i sz hsz;unfold dK at h;split at h
   .rename_i k hk;split at h
    .simp only[v6,hk,ht,hsz];exact h
    .simp at h
   .simp at h
  .simp at h
 .simp at h
theorem zEz {t:TypeId}{x i r:AV}(h:zEA X t x i=some r):KH X t x i=some r:=by
 unfold zEA at h;split at h
 .rename_i ht;unfold KT at h;split at h
  .rename_i k hk;split at h
   .simp only[KH,hk,ht];exact h
   .simp at h
  .simp at h
 .rename_i n e ht;split at h
  .rename_i d sz hd hsz;rw[cond_eq_ite]at h;split at h
   .rename_i ha;unfold zFQ at h;split at h
    .rename_i k hk;split at h
     .simp only[KH,hk,ht,hd,hsz,ha,cond_true];exact h
     .simp at h
    .simp at h
   .rename_i ha;unfold zBD at h;split at h
    .rename_i k hk;split at h
     .simp only[KH,hk,ht,hd,hsz,Bool.eq_false_iff.2 ha,cond_false];exact h
     .simp at h
    .simp at h
  .simp at h
 .simp at h
theorem zEB {t:TypeId}{x r:AV}{f:Nat}(h:zEC X t x f=some r):XO X t x f=some r:=by
 unfold zEC at h;split at h
 .rename_i fs ht;split at h
  .rename_i fl hf;split at h
   .rename_i d n hd hn;rw[cond_eq_ite]at h;split at h
    .rename_i ha;unfold fdN at h;split at h
     .simp only[XO,ht,hf,hd,hn,ha,cond_true];exact h
     .simp at h
    .rename_i ha;unfold fd1 at h;split at h
     .simp only[XO,ht,hf,hd,hn,Bool.eq_false_iff.2 ha,cond_false];exact h
     .simp at h
   .simp at h
  .simp at h
 .simp at h
theorem V3 {t:TypeId}{x r:AV}{f:Nat}(h:ZB X t x f=some r):uE X t x f=some r:=by
 unfold ZB at h;split at h
 .rename_i fs ht;split at h
  .rename_i fl hf;split at h
   .simp at h
   .rename_i n hne hn;unfold fAd at h;split at h
    .simp only[uE,ht,hf,hn];exact h
    .simp at h
   .simp at h
  .simp at h
 .simp at h
theorem zEy {t:TypeId}{x r:AV}{H:AH}(h:tLen X t x H=some r):zCb X t x H=some r:=by
 unfold tLen at h;split at h
 .rename_i ht;unfold KS at h;split at h
  .simp only[zCb,ht];exact h
  .simp at h
 .rename_i e ht;unfold lnSl at h;split at h<;>first | (simp only[zCb,ht];exact h) | (simp at h;done)
 .rename_i n e ht;simp only[zCb,ht];exact h
 .rename_i a b ht;unfold ZQ at h;split at h
  .simp only[zCb,ht];exact h
  .split at h
   .rename_i hA;rw[yG]at h;simp only[zCb,ht,hA];exact h
   .simp at h
  .simp at h
 .simp at h
theorem zI8 {t:TypeId}{d s v:AV}{H H':AH}(h:zKT X t d s H=some (v,H')):zEc X t d s H=some (v,H'):=by
 unfold zKT at h;split at h
 .rename_i e ht;split at h
  .rename_i sz hsz;simp only[zEc,ht,hsz];exact h
  .simp at h
 .simp at h
theorem zEH {env:Env}{t:TypeId}{ps:Array (Nat×Operand)}{r:AV}(h:zEI X t (xJ env ps.toList)=some r):QD X env t ps=some r:=by
 unfold zEI at h;split at h
 .rename_i z hz;split at h
  .rename_i parts hp;split at h
   .rename_i fs ht;split at h
    .rename_i pl hpl;simp only[QD,hz,hp,ht,hpl];exact h
    .simp at h
   .rename_i n e ht;split at h
    .rename_i sz hsz;simp only[QD,hz,hp,ht,hsz];exact h
    .simp at h
   .simp at h
  .simp at h
 .simp at h
theorem zKU {arr:TypeId}{x r:AV}(h:tArr X arr x=some r):zNy X arr x=some r:=by
 unfold tArr at h;split at h
 .rename_i n e ht;unfold s2a at h;split at h
  .simp only[zNy,ht];exact h
  .simp at h
 .simp at h
theorem zDF {env:Env}{t:TypeId}{len:Nat}{ps:Array (Nat×Operand)}{r:AObj×(Nat->AV)}(h:zBk X t len (xJ env ps.toList)=some r):dZ X env t len ps=some r:=by
 unfold zBk at h;split at h
 .rename_i e ht;split at h
  .rename_i parts hp;split at h
   .rename_i sz hsz;split at h
    .rename_i z hz;simp only[dZ,ht,hp,hsz,hz];exact h
    .simp at h
   .simp at h
  .simp at h
 .simp at h
theorem zI7 {t:TypeId}{l c:AV}{r:AObj×(Nat->AV)}(h:zKS X t l c=some r):XT X t (some l) (some c)=some r:=by
 unfold zKS at h;split at h
 .rename_i e ht;split at h
  .rename_i ti hti;split at h
   .rename_i z hz;rw[cond_eq_ite]at h;split at h
    .rename_i hc1;unfold zHY at h;split at h
     .split at h
      .rw[cond_eq_ite]at h;split at h
       .rename_i hc2;simp only[XT,ht,hti,hz];simp only[zE]at hc1 hc2;simp only[hc1.1,hc1.2,hc2.1.1,hc2.1.2,hc2.2,Bool.and_self,cond_true];exact h
       .simp at h
      .simp at h
     .simp at h
    .simp at h
   .simp at h
  .simp at h
 .simp at h
theorem zKV {t u:TypeId}{s x v:AV}{H H':AH}(h:tApp X t u s x H=some (v,H')):bX X t u (some s) (some x) H=some (v,H'):=by
 unfold tApp at h;split at h
 .rename_i e ht;split at h
  .rename_i ti hti;split at h
   .rename_i hu;rw[cond_eq_ite]at h;split at h
    .rename_i hz;simp only[bX,hu,uO,ht,hti,hz,cond_true];exact h
    .simp at h
   .rename_i hu;rw[cond_eq_ite]at h;split at h
    .rename_i hz;simp only[bX,hu,uO,ht,hti,hz,cond_true];exact h
    .simp at h
   .rename_i k hu;split at h
    .rename_i z hzA;rw[cond_eq_ite]at h;split at h
     .rename_i hz;simp only[zE]at hz;unfold apZ at h;split at h
      .rename_i n;rw[cond_eq_ite]at h;split at h
       .rename_i hc;simp only[zE]at hc;simp only[bX,hu,zHP,ht,hti,hzA,hz.1,hz.2,hc.1,hc.2,cond_true,Bool.and_self];exact h
       .simp at h
      .simp at h
     .simp at h
    .simp at h
   .simp at h
  .simp at h
 .simp at h
theorem zLl {α:Type}{x y z:Option AV}{f:AV->AV->AV->Option α}{r:α}(h:q3 x y z f=some r): ∃a b c,x=some a/\y=some b/\z=some c/\f a b c=some r:=by
 unfold q3 at h;split at h
 .split at h
  .split at h
   .exact⟨_,_,_,rfl,rfl,rfl,h⟩
   .simp at h
  .simp at h
 .simp at h
theorem zK1 {t:TypeId}{ok:Bool}{x k r:AV}{H:AH}(h:tLk X t ok x k H=some r):zHz X t ok x k H=some r:=by
 unfold tLk at h;split at h
 .rename_i ht;split at h
  .rename_i hk hz;simp only[zHz,ht,hk,hz];exact h
  .simp at h
 .simp at h
theorem zNh {t:TypeId}{x k v r:AV}{H H':AH}(h:tUp X t x k v H=some (r,H')):aup X t x k v H=some (r,H'):=h
theorem zNi {t:TypeId}{x k r:AV}{H H':AH}(h:tDl X t x k H=some (r,H')):adl X t x k H=some (r,H'):=h
theorem zKR {t:TypeId}{r:AObj×(Nat->AV)}(h:tMkM X t=some r):aMap X t=some r:=h
end
def rOf (B:Tb)(D:Dyn):Fns:=⟨fun g az H=>zAZ B.S D g az H,D.yld⟩
theorem dW {x:Option AV}{f:AV->Option AV}{a r:AV}(h:x=some a)(k:f a=some r):b1 x f=some r:=by simp only[b1,h,k]
theorem UF {x y:Option AV}{f:AV->AV->Option AV}{a b r:AV}(h:x=some a)(h':y=some b)(k:f a b=some r):b2 x y f=some r:=by simp only[b2,h,h',k]
section
variable {B:Tb}{D:Dyn}{env:Env}{H:AH}
theorem wQ {o:Op}{v:AV}(hc:cls B.X o= .P)(h:aP B.X env o=some v):opF B.X (rOf B D) env H o=some (v,H):=by
 simp only[opF,hc,h,wV]
theorem WI {o:Op}{v:AV}(hc:cls B.X o= .L)(h:aL B.X env H o=some v):opF B.X (rOf B D) env H o=some (v,H):=by
 simp only[opF,hc,h,wV]
theorem WK {o:Op}{v:AV}{H':AH}(hc:cls B.X o= .A)(h:wA H (aA B.X env o)=some (v,H')):opF B.X (rOf B D) env H o=some (v,H'):=by
 simp only[opF,hc,h]
theorem WJ {o:Op}{v:AV}{H':AH}(hc:cls B.X o= .E)(h:aE B.X env H o=some (v,H')):opF B.X (rOf B D) env H o=some (v,H'):=by
 simp only[opF,hc,h]
theorem KZ {x y:Option (AObj×(Nat->AV))}{v:AV}{H':AH}(h:wA H x=some (v,H'))(k: ∀r,x=some r->y=some r):wA H y=some (v,H'):=by
 cases x with
 | none=>simp[wA]at h
 | some r=>rw[k r rfl];exact h
theorem zNz {K:AV->AH->Rs}{o:Op}{out:Ex×AH}(h:opK B D env H K o=some out): ∃v H',opF B.X (rOf B D) env H o=some (v,H')/\K v H'=some out:=by
 unfold opK at h;split at h
 ·
  rename_i x;split at h
  .rename_i v hv;exact⟨v,H,wQ rfl hv,h⟩
  .simp at h
 .rename_i x;split at h
  .rename_i v hv;exact⟨v,H,wQ rfl hv,h⟩
  .simp at h
 ·
  rename_i c a b;obtain⟨v,hv,hk⟩:=j8 h;refine⟨v,H,wQ rfl ?_,hk⟩;show zDQ env c a b=some v;unfold pk3 at hv;unfold zDQ;exact hv
 ·
  obtain⟨v,hv,hk⟩:=j8 h;exact⟨v,H,wQ rfl (zEH hv),hk⟩
 .obtain⟨v,hv,hk⟩:=j8 h;obtain⟨a,ha,hf⟩:=jM hv;exact⟨v,H,wQ rfl (dW ha hf),hk⟩
 ·
  rw[cond_eq_ite]at h;split at h
  .rename_i hp;obtain⟨v,hv,hk⟩:=j8 h;obtain⟨a,b,ha,hb,hf⟩:=wF hv;exact⟨v,H,WI (by simp[cls,hp]) (UF ha hb (zCo hf)),hk⟩
  .rename_i hp;obtain⟨v,hv,hk⟩:=j8 h;obtain⟨a,b,ha,hb,hf⟩:=wF hv;exact⟨v,H,wQ (by simp[cls,hp]) (UF ha hb (zEJ hf)),hk⟩
 .obtain⟨v,hv,hk⟩:=j8 h;obtain⟨a,ha,hf⟩:=jM hv;exact⟨v,H,wQ rfl (dW ha hf),hk⟩
 ·
  split at h
  .rename_i a ha;split at h
   .rename_i b hb;refine⟨_,H,wQ rfl ?_,h⟩;show zDR env _ _ _=_;simp only[zDR,ha,hb]
   .simp at h
  .simp at h
 .obtain⟨v,hv,hk⟩:=j8 h;obtain⟨a,ha,hf⟩:=jM hv;exact⟨v,H,wQ rfl (dW ha (V3 hf)),hk⟩
 .obtain⟨v,hv,hk⟩:=j8 h;obtain⟨a,ha,hf⟩:=jM hv;exact⟨v,H,wQ rfl (dW ha (zEB hf)),hk⟩
 .obtain⟨v,hv,hk⟩:=j8 h;obtain⟨a,b,ha,hb,hf⟩:=wF hv;exact⟨v,H,wQ rfl (UF ha hb (zDE hf)),hk⟩
 .obtain⟨v,hv,hk⟩:=j8 h;obtain⟨a,b,ha,hb,hf⟩:=wF hv;exact⟨v,H,wQ rfl (UF ha hb (zEz hf)),hk⟩
 .obtain⟨v,hv,hk⟩:=j8 h;obtain⟨a,ha,hf⟩:=jM hv;exact⟨v,H,wQ rfl (dW ha (zKU hf)),hk⟩
 .obtain⟨v,hv,hk⟩:=j8 h;obtain⟨a,ha,hf⟩:=jM hv;exact⟨v,H,wQ rfl (dW ha hf),hk⟩
 ·
  obtain⟨v,hv,hk⟩:=j8 h;obtain⟨a,ha,hf⟩:=jM hv;exact⟨v,H,WI rfl (dW ha (V1 hf)),hk⟩
 ·
  split at h
  .rename_i lo hi mx hlo hhi hmx;obtain⟨v,hv,hk⟩:=j8 h;obtain⟨a,ha,hf⟩:=jM hv;refine⟨v,H,WI rfl ?_,hk⟩;show fM _ _ _ _ _ _ _ _=_;simp only[fM,ha,hlo,hhi,hmx];exact UZ hf
  .simp at h
 ·
  split at h
  .rename_i hc;obtain⟨v,hv,hk⟩:=j8 h;obtain⟨a,ha,hf⟩:=jM hv;exact⟨v,H,wQ hc (dW ha (zED hf)),hk⟩
  .rename_i hc;obtain⟨v,hv,hk⟩:=j8 h;obtain⟨a,ha,hf⟩:=jM hv;exact⟨v,H,WI hc (dW ha (B0 hf)),hk⟩
  .rename_i hc;obtain⟨v,H',hv,hk⟩:=Q5 h;refine⟨v,H',WK hc (KZ hv fun r hr=> ?_),hk⟩;obtain⟨a,ha,hf⟩:=jM hr;simp only[aA,ha];exact zEF hf
  .simp at h
 ·
  split at h
  .rename_i z hz;obtain⟨v,H',hv,hk⟩:=Q5 h;refine⟨v,H',WK rfl (KZ hv fun r hr=> ?_),hk⟩;simp only[aA,hz,aA1];exact hr
  .simp at h
 .obtain⟨v,H',hv,hk⟩:=Q5 h;refine⟨v,H',WK rfl (KZ hv fun r hr=> ?_),hk⟩;obtain⟨a,ha,hf⟩:=jM hr;simp only[aA,ha,aA1];exact hf
 .obtain⟨v,H',hv,hk⟩:=Q5 h;exact⟨v,H',WK rfl (KZ hv fun r hr=>zDF hr),hk⟩
 .obtain⟨v,H',hv,hk⟩:=Q5 h;refine⟨v,H',WK rfl (KZ hv fun r hr=> ?_),hk⟩;obtain⟨a,b,ha,hb,hf⟩:=wF hr;simp only[aA,ha,hb];exact zI7 hf
 ·
  obtain⟨v,hv,hk⟩:=j8 h;obtain⟨a,b,ha,hb,hf⟩:=wF hv;exact⟨v,H,WI rfl (UF ha hb (zK1 hf)),hk⟩
 .obtain⟨v,H',hv,hk⟩:=Q5 h;exact⟨v,H',WK rfl (KZ hv fun r hr=>zKR hr),hk⟩
 .obtain⟨v,H',hv,hk⟩:=uN h;obtain⟨a,b,c,ha,hb,hc,hf⟩:=zLl hv;refine⟨v,H',WJ rfl ?_,hk⟩;simp only[aE,ha,hb,hc,c3];exact zNh hf
 ·
  obtain⟨v,H',hv,hk⟩:=uN h;obtain⟨a,b,ha,hb,hf⟩:=wF hv;refine⟨v,H',WJ rfl ?_,hk⟩;simp only[aE,ha,hb];exact zEv hf
 ·
  rename_i c;obtain⟨callee,args,types⟩:=c;split at h
  .rename_i f hc;simp only at hc;subst hc;obtain⟨v,H',hv,hk⟩:=uN h;refine⟨v,H', ?_,hk⟩;unfold callO at hv;split at hv
   .rename_i az has;simp only at has;split at hv
    .rename_i g;have e:opd env (.func g)=some (.func g [] []):=rfl;simp only[opF,cls,UB,opF.callO,e,has,opF.callV,rOf,List.nil_append,List.append_nil];exact hv
    .split at hv
     .rename_i t _ fv hfv;have e:opd env (.tmp t)=some fv:=hfv;unfold callV at hv;split at hv
      .simp only[opF,cls,UB,opF.callO,e,has,opF.callV,rOf];exact hv
      .simp only[opF,cls,UB,opF.callO,e,has,opF.callV,rOf];exact hv
      .simp at hv
     .simp at hv
    .simp at hv
   .simp at hv
  .rename_i hc;simp only at hc;subst hc;split at h
   .rename_i x t ts hargs htypes;obtain⟨v,hv,hk⟩:=j8 h;obtain⟨a,ha,hf⟩:=jM hv;refine⟨v,H,WI rfl ?_,hk⟩;simp only at hargs htypes;simp only[aL,hargs,htypes];exact dW ha (zEy hf)
   .simp at h
  .rename_i hc;simp only at hc;subst hc;split at h
   .rename_i x t ts hargs htypes;obtain⟨v,hv,hk⟩:=j8 h;obtain⟨a,ha,hf⟩:=jM hv;refine⟨v,H,wQ rfl ?_,hk⟩;simp only at hargs htypes;simp only[aP,hargs,htypes];exact dW ha hf
   .simp at h
  .rename_i hc;simp only at hc;subst hc;split at h
   .rename_i s x t u hargs htypes;obtain⟨v,H',hv,hk⟩:=uN h;obtain⟨a,b,ha,hb,hf⟩:=wF hv;refine⟨v,H',WJ rfl ?_,hk⟩;simp only at hargs htypes;simp only[aE,xT,hargs,htypes,ha,hb];exact zKV hf
   .simp at h
  .rename_i hc;simp only at hc;subst hc;split at h
   .rename_i s x t ts hargs htypes;obtain⟨v,H',hv,hk⟩:=uN h;obtain⟨a,b,ha,hb,hf⟩:=wF hv;refine⟨v,H',WJ rfl ?_,hk⟩;simp only at hargs htypes;simp only[aE,xT,hargs,htypes,ha,hb,zGY];exact zI8 hf
   .simp at h
  .rename_i hc;simp only at hc;subst hc;split at h
   .rename_i x y hargs;obtain⟨v,hv,hk⟩:=j8 h;obtain⟨a,b,ha,hb,hf⟩:=wF hv;refine⟨v,H,wQ rfl ?_,hk⟩;simp only at hargs;simp only[aP,hargs];exact UF ha hb hf
   .simp at h
  .rename_i hc;simp only at hc;subst hc;split at h
   .rename_i x y hargs;obtain⟨v,hv,hk⟩:=j8 h;obtain⟨a,b,ha,hb,hf⟩:=wF hv;refine⟨v,H,wQ rfl ?_,hk⟩;simp only at hargs;simp only[aP,hargs];exact UF ha hb hf
   .simp at h
  .rename_i hc;simp only at hc;subst hc;split at h
   .rename_i s x t ts hargs htypes;obtain⟨v,H',hv,hk⟩:=uN h;obtain⟨a,b,ha,hb,hf⟩:=wF hv;refine⟨v,H',WJ rfl ?_,hk⟩;simp only at hargs htypes;simp only[aE,xT,hargs,htypes,ha,hb,c2];exact zNi hf
   .simp at h
  .rename_i hc;simp only at hc;subst hc;split at h
   .rename_i s t ts hargs htypes;obtain⟨v,H',hv,hk⟩:=uN h;obtain⟨a,ha,hf⟩:=jM hv;refine⟨v,H',WJ rfl ?_,hk⟩;simp only at hargs htypes;simp only[aE,xT,hargs,htypes,ha,c1];exact hf
   .simp at h
  .simp at h
 .simp at h
end
def Le (env env2:Env):Prop:= ∀t x,look env t=some x->look env2 t=some x
theorem Le.refl (env:Env):Le env env:=fun _ _ h=>h
theorem Le.trans {a b c:Env}(h:Le a b)(k:Le b c):Le a c:=fun t x e=>k t x (h t x e)
theorem Le.upd {a b:Env}(h:Le a b)(d:Nat)(v:AV):Le (upd a d v) (upd b d v):=by
 intro t x e;simp only[look,vC]at e⊢;split
 .rename_i hd;rw[if_pos hd]at e;exact e
 .rename_i hd;rw[if_neg hd]at e;exact h t x e
theorem EnvR.le {R:Ren}{env env2:Env}{n:Nat}{tmps:Array Value}(h:EnvR R env2 n tmps)(k:Le env env2):EnvR R env n tmps:=
 ⟨h.size,fun t x e=>h.get t x (k t x e),fun t ht=>by
  cases e:look env t with
  | none=>rfl
  | some x=>have:=k t x e;rw[h.out t ht]at this;simp at this⟩
section
variable {env env2:Env}(hl:Le env env2)
include hl
theorem yF (x:Operand)(a:AV)(h:opd env x=some a):opd env2 x=some a:=by
 cases x with
 | tmp t=>exact hl t a h
 | _=>exact h
theorem bH: ∀(xs:List Operand) (az:List AV),zBf env xs=some az->zBf env2 xs=some az
 | [],az,h=>h
 | x::xs,az,h=>by
  simp only[zBf]at h⊢;split at h
  .rename_i v vs hv hvs;rw[yF hl x v hv,bH xs vs hvs];exact h
  .simp at h
theorem ZJ: ∀(xs:List (Nat×Operand)) (az:List (Nat×AV)),xJ env xs=some az->xJ env2 xs=some az
 | [],az,h=>h
 | (i,x)::xs,az,h=>by
  simp only[xJ]at h⊢;split at h
  .rename_i v vs hv hvs;rw[yF hl x v hv,ZJ xs vs hvs];exact h
  .simp at h
theorem ZL (x:Option Operand)(a:Option AV)(h:uW env x=some a):uW env2 x=some a:=by
 cases x with
 | none=>exact h
 | some y=>
  simp only[uW]at h⊢;split at h
  .rename_i b hb;rw[yF hl y b hb];exact h
  .simp at h
theorem vL {x:Operand}{f:AV->Option AV}{r:AV}(h:b1 (opd env x) f=some r):b1 (opd env2 x) f=some r:=by
 unfold b1 at h;split at h
 .rename_i a ha;rw[yF hl x a ha];exact h
 .simp at h
theorem dV {x y:Operand}{f:AV->AV->Option AV}{r:AV}(h:b2 (opd env x) (opd env y) f=some r):b2 (opd env2 x) (opd env2 y) f=some r:=by
 unfold b2 at h;split at h
 .rename_i a ha;split at h
  .rename_i b hb;rw[yF hl x a ha,yF hl y b hb];exact h
  .simp at h
 .simp at h
theorem zMC {X:Cx}{o:Op}{v:AV}(h:aP X env o=some v):aP X env2 o=some v:=by
 unfold aP at h⊢;split at h
 .exact yF hl _ _ h
 .exact yF hl _ _ h
 .unfold zDQ at h⊢;split at h
  .rename_i hc;rw[yF hl _ _ hc];exact yF hl _ _ h
  .rename_i hc;rw[yF hl _ _ hc];exact yF hl _ _ h
  .simp at h
 .unfold QD at h⊢;split at h
  .rename_i z hz;split at h
   .rename_i ps hps;rw[ZJ hl _ _ hps];exact h
   .simp at h
  .simp at h
 .exact vL hl h
 .exact dV hl h
 .exact vL hl h
 .exact vL hl h
 .unfold zDR at h⊢;split at h
  .rename_i a ha;split at h
   .rename_i b hb;rw[bH hl _ _ ha,bH hl _ _ hb];exact h
   .simp at h
  .simp at h
 .exact vL hl h
 .exact vL hl h
 .exact dV hl h
 .exact dV hl h
 .exact vL hl h
 .exact vL hl h
 .split at h
  .split at h
   .split at h
    .exact vL hl h
    .simp at h
   .simp at h
  .split at h
   .exact dV hl h
   .simp at h
  .split at h
   .exact dV hl h
   .simp at h
  .simp at h
 .simp at h
theorem zHQ {X:Cx}{H:AH}{o:Op}{v:AV}(h:aL X env H o=some v):aL X env2 H o=some v:=by
 unfold aL at h⊢;split at h
 .exact vL hl h
 .unfold fM at h⊢;split at h
  .rename_i a ha;split at h
   .rename_i lo hlo;split at h
    .rename_i hi hhi;split at h
     .rename_i mx hmx;rw[yF hl _ _ ha,ZL hl _ _ hlo,ZL hl _ _ hhi,ZL hl _ _ hmx];exact h
     .simp at h
    .simp at h
   .simp at h
  .simp at h
 .exact dV hl h
 .exact vL hl h
 .exact dV hl h
 .split at h
  .split at h
   .split at h
    .exact vL hl h
    .simp at h
   .simp at h
  .simp at h
 .simp at h
theorem zMF {X:Cx}{o:Op}{v:AObj×(Nat->AV)}(h:aA X env o=some v):aA X env2 o=some v:=by
 unfold aA at h⊢;split at h
 .exact h
 .unfold aA1 at h⊢;split at h
  .rename_i a ha;rw[yF hl _ _ ha];exact h
  .simp at h
 .unfold dZ at h⊢;split at h
  .rename_i e he;split at h
   .rename_i ps hps;simp only[ZJ hl _ _ hps];exact h
   .simp at h
  .simp at h
 .unfold XT at h⊢;split at h
  .rename_i n hn;split at h
   .rename_i m hm;simp only[yF hl _ _ hn,yF hl _ _ hm];exact h
   .simp at h
  .simp at h
 .split at h
  .rename_i a ha;rw[yF hl _ _ ha];exact h
  .simp at h
 .exact h
 .simp at h
theorem zME {X:Cx}{H:AH}{o:Op}{v:AV×AH}(h:aE X env H o=some v):aE X env2 H o=some v:=by
 unfold aE at h⊢;split at h
 .unfold XC at h⊢;split at h
  .rename_i p hp;split at h
   .rename_i y hy;rw[yF hl _ _ hp,yF hl _ _ hy];exact h
   .simp at h
  .simp at h
 .unfold c3 at h⊢;split at h
  .rename_i a ha;split at h
   .rename_i b hb;split at h
    .rename_i c hc;rw[yF hl _ _ ha,yF hl _ _ hb,yF hl _ _ hc];exact h
    .simp at h
   .simp at h
  .simp at h
 .split at h
  .unfold xT at h⊢;split at h
   .split at h
    .split at h
     .unfold bX at h⊢;split at h
      .rename_i a ha;split at h
       .rename_i b hb;simp only[yF hl _ _ ha,yF hl _ _ hb];exact h
       .simp at h
      .simp at h
     .simp at h
    .simp at h
   .split at h
    .split at h
     .unfold zGY at h⊢;split at h
      .rename_i a ha;split at h
       .rename_i b hb;simp only[yF hl _ _ ha,yF hl _ _ hb];exact h
       .simp at h
      .simp at h
     .simp at h
    .simp at h
   .split at h
    .split at h
     .unfold c2 at h⊢;split at h
      .rename_i a ha;split at h
       .rename_i b hb;simp only[yF hl _ _ ha,yF hl _ _ hb];exact h
       .simp at h
      .simp at h
     .simp at h
    .simp at h
   .split at h
    .split at h
     .unfold c1 at h⊢;split at h
      .rename_i a ha;simp only[yF hl _ _ ha];exact h
      .simp at h
     .simp at h
    .simp at h
   .simp at h
  .simp at h
 .simp at h
theorem zIy {X:Cx}{r:Fns}{H:AH}{o:Op}{v:AV×AH}(h:opF X r env H o=some v):opF X r env2 H o=some v:=by
 unfold opF at h⊢;split at h
 .rename_i hc;unfold wV at h⊢;split at h
  .rename_i x hx;simp only[hc,zMC hl hx];exact h
  .simp at h
 .rename_i hc;unfold wV at h⊢;split at h
  .rename_i x hx;simp only[hc,zHQ hl hx];exact h
  .simp at h
 .rename_i hc
  cases hx:aA X env o with
  | none=>rw[hx]at h;simp[wA]at h
  | some x=>simp only[hc,zMF hl hx];rw[hx]at h;exact h
 .exact zME hl h
 .unfold opF.callO at h⊢;split at h
  .split at h
   .unfold opF.callV at h⊢;split at h
    .rename_i g a b hf;split at h
     .rename_i az has;simp only[yF hl _ _ hf,bH hl _ _ has];exact h
     .simp at h
    .rename_i A hf;split at h
     .rename_i az has;simp only[yF hl _ _ hf,bH hl _ _ has];exact h
     .simp at h
    .simp at h
   .simp at h
  .simp at h
end
theorem JJ {vs:List AV}{K:AV->List AV->Rs}{out:Ex×AH}(h:hd vs K=some out): ∃v l,vs=v::l/\K v l=some out:=by
 cases vs with
 | nil=>exact absurd h (by simp[hd])
 | cons v l=>exact⟨_,_,rfl,h⟩
def PK (env:Env):List Nat->List AV->Prop
 | [],vs=>vs=[]
 | l::L,vs=> ∃v vs',vs=v::vs'/\look env l=some v/\PK env L vs'
theorem j7: ∀ {L:List Nat} {env:Env} {K:List AV->Rs} {out:Ex×AH},pck L env K=some out-> ∃vs,PK env L vs/\K vs=some out
 | [],env,K,out,h=>⟨[],rfl,h⟩
 | l::L,env,K,out,h=>by
  simp only[pck]at h;split at h
  .rename_i v hv;obtain⟨vs,h1,h2⟩:=j7 h;exact⟨v::vs,⟨v,vs,rfl,hv,h1⟩,h2⟩
  .simp at h
theorem cH: ∀ {L:List Nat} {vs:List AV} {base:Env} {K:Env->Rs} {out:Ex×AH},unp L vs base K=some out-> ∀env,PK env L vs-> ∃env',K env'=some out/\ ∀t,(t∈L->look env' t=look env t)/\(t∉L->look env' t=look base t)
 | [],vs,base,K,out,h,env,_=>⟨base,h,fun t=>⟨fun h=>by simp at h,fun _=>rfl⟩⟩
 | l::L,vs,base,K,out,h,env,⟨v,vs',e,hv,hp⟩=>by
  subst e;simp only[unp,hd]at h;obtain⟨env',h1,h2⟩:=cH h env hp;refine⟨env',h1,fun t=>⟨fun ht=> ?_,fun ht=> ?_⟩⟩
  .by_cases htL:t∈L
   .exact(h2 t).1 htL
   .rw[(h2 t).2 htL];have:t=l:=by
              simp at ht;rcases ht with h | h
              .exact h
              .exact absurd h htL
    subst this;simp only[look,vC,if_true];exact hv.symm
  .simp only[List.mem_cons,not_or]at ht;rw[(h2 t).2 ht.2];simp only[look,vC,if_neg ht.1]
theorem XD: ∀(L:List Nat) (env:Env) (t:Nat),look (U5 L env) t=if t∈L then none else look env t
 | [],env,t=>by simp[U5]
 | l::L,env,t=>by
  have ih:=XD L env t;simp only[look]at ih⊢;simp only[U5,cond_eq_ite,Nat.beq_eq,List.mem_cons,ih];by_cases h1:t=l<;>by_cases h2:t∈L<;>simp[h1,h2]
theorem aS {mask:Nat}{H:AH}{K:Rs}{out:Ex×AH} : ∀ {sn:List Seen},zN3 mask H K sn=some out->K=some out/\ ∀s∈sn,mask.testBit s.i=false->s.rd H=some s.v
 | [],h=>⟨h,by simp⟩
 | s::l,h=>by
  simp only[zN3,zEs,cond_eq_ite]at h;split at h
  .rename_i hb;obtain⟨h1,h2⟩:=aS h;refine⟨h1,fun q hq hm=> ?_⟩;rcases List.mem_cons.1 hq with rfl | hq
   .rw[hb]at hm;simp at hm
   .exact h2 q hq hm
  .unfold chk at h;split at h
   .rename_i y hy;rw[cond_eq_ite]at h;split at h
    .rename_i hv;obtain⟨h1,h2⟩:=aS h;refine⟨h1,fun q hq hm=> ?_⟩;rcases List.mem_cons.1 hq with rfl | hq
     .rw[hy,Q6 _ _ hv]
     .exact h2 q hq hm
    .simp at h
   .simp at h
section
variable {B:Tb}{D:Dyn}{nt:Nat}{ops:Array Oper}
theorem zLk {env envC:Env}(hl:Le env envC){o:Op}{H:AH}{v:AV}(hm:kS B.X o=true)(h:zNv B env o H=some v):aL B.X envC H o=some v:=by
 apply zHQ hl;unfold zNv at h;split at h
 .obtain⟨a,ha,hf⟩:=jM h;exact dW ha (V1 hf)
 .obtain⟨a,b,ha,hb,hf⟩:=wF h;exact UF ha hb (zK1 hf)
 .split at h
  .rename_i lo hi mx hlo hhi hmx;obtain⟨a,ha,hf⟩:=jM h;show fM _ _ _ _ _ _ _ _=_;simp only[fM,ha,hlo,hhi,hmx];exact UZ hf
  .simp at h
 .obtain⟨a,ha,hf⟩:=jM h;exact dW ha (B0 hf)
 .obtain⟨a,b,ha,hb,hf⟩:=wF h;exact UF ha hb (zCo hf)
 .rename_i c;split at h
  .rename_i x t ts hargs htypes;obtain⟨a,ha,hf⟩:=jM h;simp only[kS]at hm;split at hm
   .rename_i hc;simp only[aL,hc,hargs,htypes];exact dW ha (zEy hf)
   .simp at hm
  .simp at h
 .simp at h
theorem zEa {X:Cx}{t:TypeId}{x r:AV}{H:AH}(h:zCb X t x H=some r)(hn: ∀a b,X.und t≠some (.map a b))(H2:AH):zCb X t x H2=some r:=by
 unfold zCb at h⊢;split at h<;>first | exact h | (rename_i hu;exact absurd hu (hn _ _)) | (simp at h;done)
theorem zCp {env:Env}{o:Op}{H:AH}{v:AV}(hc:cls B.X o= .L)(hm:kS B.X o=false)(h:aL B.X env H o=some v)(H2:AH):aL B.X env H2 o=some v:=by
 unfold aL at h⊢;split at h
 .simp[kS]at hm
 .rename_i t x lo hi mx;simp only[kS]at hm;unfold fM at h⊢;split at h
  .split at h
   .split at h
    .split at h
     .unfold fX at h⊢;split at h
      .rename_i a _ _ _ _ _ _ _ _ _ _ _;split at h
       .exact h
       .rename_i hu _;simp[hu]at hm
       .rename_i hu _;simp[hu]at hm
       .rename_i hu _;simp[hu]at hm
       .exact h
       .exact h
       .simp at h
      .simp at h
     .simp at h
    .simp at h
   .simp at h
  .simp at h
 .simp[kS]at hm
 .simp only[kS,isL]at hm;rw[hc]at hm;simp at hm
 .simp only[kS]at hm;simp[cls,hm]at hc
 .rename_i c;split at h
  .rename_i hcal;split at h
   .rename_i x hx;split at h
    .rename_i t ts ht;unfold b1 at h⊢;split at h
     .refine zEa h (fun a b hu=> ?_) H2;simp only[kS,hcal,ht,hu]at hm;simp at hm
     .simp at h
    .simp at h
   .simp at h
  .simp at h
 .simp at h
def zAe (ops:Array Oper)(o:Oper):Option Nat:=match o.guard with
 | none=>none
 | some (j,_)=>match zEf ops.toList j with
  | some p=>p.dst
  | none=>none
theorem US {env env':Env}{o:Oper}(h: ∀d,zAe ops o=some d->look env d=look env' d):fZ ops env o=fZ ops env' o:=by
 unfold fZ;unfold zAe at h;split
 .rfl
 .rename_i j want hg;rw[hg]at h;simp only at h;unfold zEk;split
  .rename_i p hp;rw[hp]at h;simp only at h;split
   .rename_i d hd;rw[h d hd]
   .rfl
  .rfl
def zJV (X:Cx)(ms:List Nat)(a b:Ent):Prop:=a.want=true->jR (cls X b.o.op)=true->(ms.getD b.i 0).testBit a.i=false->cls X a.o.op= .L->aL X a.env b.H' a.o.op=some a.v
def Tr (X:Cx)(ms:List Nat)(sn:List Seen)(pre:List Ent)(rest:List (Nat×Oper)):Prop:=
 ∀a∈pre,a.want=true->cls X a.o.op= .L->(∃s∈sn,s.i=a.i/\s.v=a.v/\ ∀H v,s.rd H=some v->aL X a.env H a.o.op=some v)\/(∀H,aL X a.env H a.o.op=some a.v)\/(∀b∈rest,jR (cls X b.2.op)=true->(ms.getD b.1 0).testBit a.i=true)
theorem Tr.see {X:Cx}{ms:List Nat}{sn:List Seen}{pre:List Ent}{rest:List (Nat×Oper)}(h:Tr X ms sn pre rest){b:Ent}(hb:(b.i,b.o)∈rest)(hc:jR (cls X b.o.op)=true-> ∀s∈sn,(ms.getD b.i 0).testBit s.i=false->s.rd b.H'=some s.v): ∀a∈pre,zJV X ms a b:=by
 intro a ha hw he hbit hL;rcases h a ha hw hL with⟨s,hs,h1,h2,h3⟩ | h1 | h1
 .have:=hc he s hs (by rw[h1];exact hbit);rw[<-h2];exact h3 _ _ this
 .exact h1 _
 .have:=h1 _ hb he;simp only at this;rw[this]at hbit;simp at hbit
theorem Tr.less {X:Cx}{ms:List Nat}{sn sn':List Seen}{pre:List Ent}{rest rest':List (Nat×Oper)}(h:Tr X ms sn pre rest)(hs: ∀s∈sn,s∈sn')(hr: ∀b∈rest',b∈rest):Tr X ms sn' pre rest':=by
 intro a ha hw hL;rcases h a ha hw hL with⟨s,hs1,h1⟩ | h1 | h1
 .exact .inl ⟨s,hs s hs1,h1⟩
 .exact .inr (.inl h1)
 .exact .inr (.inr fun b hb=>h1 b (hr b hb))
theorem BK {env:Env}{d:Option Tmp}{v:AV}{K:Env->Rs}{out:Ex×AH}(h:setE nt env d v K=some out){envC:Env}(hl:Le env envC):
  ∃env' envC',KM nt envC d v=some envC'/\Le env' envC'/\K env'=some out:=by
 unfold setE at h;split at h
 .rename_i d;rw[cond_eq_ite]at h;split at h
  .rename_i hd;exact⟨_,_,by simp only[KM,hd,cond_true],hl.upd d v,h⟩
  .simp at h
 .exact⟨_,_,rfl,hl,h⟩
theorem zDI {ms:List Nat}{env:Env}{sn:List Seen}{i:Nat}{o:Op}{v:AV}{H':AH}{K:List Seen->Rs}{out:Ex×AH}(h:zLa B ms env sn i o v H' K=some out):
  ∃sn',K sn'=some out/\(∀s∈sn,s∈sn')/\(jR (cls B.X o)=true-> ∀s∈sn,(ms.getD i 0).testBit s.i=false->s.rd H'=some s.v)/\
   (jR (cls B.X o)=false->kS B.X o=true->(⟨i,zNv B env o,v⟩:Seen)∈sn'):=by
 unfold zLa at h;simp only[cond_eq_ite]at h;split at h
 .rename_i he;obtain⟨h1,h2⟩:=aS h;exact⟨sn,h1,fun _ h=>h,fun _=>h2,fun h=>by rw[he]at h;simp at h⟩
 .rename_i he;split at h
  .exact⟨_,h,fun s hs=>by simp[hs],fun h=>absurd h he,fun _ _=>by simp⟩
  .rename_i hm;exact⟨_,h,fun _ h=>h,fun h=>absurd h he,fun _ h=>absurd h hm⟩
theorem J0 {env env':Env}{d:Option Tmp}{v:AV}(h:KM nt env d v=some env'){t:Nat}(ht:d≠some t):look env' t=look env t:=by
 rw[bG h,if_neg ht]
theorem xX {masks:Option (List Nat)}{K:List Seen->Env->AH->Rs}{out:Ex×AH}{rest:List (Nat×Oper)} : ∀(row:List (Nat×Oper)) (sn:List Seen) (env:Env) (H:AH) (envC:Env) (pre:List Ent),
  zHX B D nt masks K row sn env H=some out->Le env envC->(∀io∈row,fZ ops envC io.2=some true)->(∀io∈row,∀io'∈row,∀d,io.2.dst=some d->zAe ops io'.2≠some d)->
  (∀ms,masks=some ms->Tr B.X ms sn pre (row++rest))->
  ∃es envF HF sn' env',xI B.X (rOf B D) nt ops envC H es envF HF/\es.map (fun e=>(e.i,e.o))=row/\(∀e∈es,e.want=true)/\Le env' envF/\K sn' env' HF=some out/\
   (∀ms,masks=some ms->(∀a∈pre,∀b∈es,zJV B.X ms a b)/\es.Pairwise (zJV B.X ms)/\Tr B.X ms sn' (pre++es) rest)
 | [],sn,env,H,envC,pre,h,hl,_,_,hT=>⟨[],envC,H,sn,env,⟨rfl,rfl⟩,rfl,by simp,hl,h,fun ms hms=>⟨by simp,List.Pairwise.nil,by simpa using hT ms hms⟩⟩
 | (i,o)::row,sn,env,H,envC,pre,h,hl,hw,hst,hT=>by
  simp only[zHX]at h;obtain⟨v,H',hop,hk⟩:=zNz h;have hopC:=zIy hl hop;have hwo:=hw (i,o) (zH ..);have hent:zGS B.X (rOf B D) ops envC H i o=some ⟨i,o,true,envC,H,v,H'⟩:=by
   simp only at hwo;simp only[zGS,hwo,hopC]
  have go: ∀(sn':List Seen) (env' envC':Env),KM nt envC o.dst v=some envC'->Le env' envC'->zHX B D nt masks K row sn' env' H'=some out->
    (∀ms,masks=some ms->(∀s∈sn,s∈sn')/\(jR (cls B.X o.op)=true-> ∀s∈sn,(ms.getD i 0).testBit s.i=false->s.rd H'=some s.v)/\(jR (cls B.X o.op)=false->kS B.X o.op=true->(⟨i,zNv B env o.op,v⟩:Seen)∈sn'))->
    ∃es envF HF sn' env',xI B.X (rOf B D) nt ops envC H es envF HF/\es.map (fun e=>(e.i,e.o))=(i,o)::row/\(∀e∈es,e.want=true)/\Le env' envF/\K sn' env' HF=some out/\
     (∀ms,masks=some ms->(∀a∈pre,∀b∈es,zJV B.X ms a b)/\es.Pairwise (zJV B.X ms)/\Tr B.X ms sn' (pre++es) rest):=by
   intro sn' env' envC' hset hle hrow hsn;obtain⟨es,envF,HF,sn2,env2,c1,c2,c3,c4,c5,c6⟩:=xX row sn' env' H' envC' (pre++[⟨i,o,true,envC,H,v,H'⟩]) hrow hle
    (fun io hio=>by
     rw[<-hw io (zF _ hio)];exact US fun d hd=>J0 hset (fun hc=>hst (i,o) (zH ..) io (zF _ hio) d hc hd))
    (fun io hio io' hio'=>hst io (zF _ hio) io' (zF _ hio'))
    (fun ms hms=>by
     obtain⟨s1,s2,s3⟩:=hsn ms hms;have hT':=(hT ms hms).less (sn':=sn') (rest':=row++rest) s1 (fun b hb=>by simp only[List.cons_append];exact zF _ hb);intro a ha hwa hLa;rcases List.mem_append.1 ha with ha | ha
     .exact hT' a ha hwa hLa
     .simp only[List.mem_singleton]at ha;subst ha;simp only at hLa⊢;have hne:jR (cls B.X o.op)=false:=by rw[hLa];rfl
      have hLv:aL B.X envC H o.op=some v:=by
       have:=hopC;simp only[opF,hLa,wV]at this;split at this
       .rename_i x hx;simp only[zC,zK]at this;rw[hx,this.1]
       .simp at this
      cases hmt:kS B.X o.op with
      | true=>exact .inl ⟨_,s3 hne hmt,rfl,rfl,fun H v hv=>zLk hl hmt hv⟩
      | false=>exact .inr (.inl fun H2=>zCp hLa hmt hLv H2))
   refine⟨⟨i,o,true,envC,H,v,H'⟩::es,envF,HF,sn2,env2,⟨rfl,rfl,hent,envC',hset,c1⟩,by simp[c2], ?_,c4,c5,fun ms hms=> ?_⟩
   .intro e he;rcases List.mem_cons.1 he with rfl | he
    .rfl
    .exact c3 e he
   .obtain⟨s1,s2,s3⟩:=hsn ms hms;obtain⟨d1,d2,d3⟩:=c6 ms hms;have hsee:=(hT ms hms).see (b:=⟨i,o,true,envC,H,v,H'⟩) (by simp) s2;refine⟨fun a ha b hb=> ?_,List.Pairwise.cons (fun b hb=>d1 _ (by simp) b hb) d2,by simpa using d3⟩;rcases List.mem_cons.1 hb with rfl | hb
    .exact hsee a ha
    .exact d1 a (qE _ ha) b hb
  split at hk
  .obtain⟨env',envC',h1,h2,h3⟩:=BK hk hl;exact go sn env' envC' h1 h2 h3 (fun ms hms=>by simp at hms)
  .rename_i ms;obtain⟨sn',k1,k2,k3,k4⟩:=zDI hk;obtain⟨env',envC',h1,h2,h3⟩:=BK k1 hl;exact go sn' env' envC' h1 h2 h3 (fun ms' hms=>by injection hms with hms;subst hms;exact⟨k2,k3,k4⟩)
theorem Q1 {X:Cx}{r:Fns} : ∀ {es:List Ent} {env:Env} {H:AH} {envF:Env} {HF:AH},xI X r nt ops env H es envF HF-> ∀t,(∀e∈es,e.o.dst≠some t)->look envF t=look env t
 | [],_,_,_,_,h,t,_=>by rw[h.1]
 | e::es,env,H,envF,HF,⟨h1,h2,h3,env',h4,h5⟩,t,ht=>by
  rw[Q1 h5 t (fun q hq=>ht q (zF _ hq)),J0 h4 (ht e (zH ..))]
theorem gH {X:Cx}{r:Fns} : ∀ {es es2:List Ent} {env:Env} {H:AH} {env1:Env} {H1:AH} {envF:Env} {HF:AH},xI X r nt ops env H es env1 H1->xI X r nt ops env1 H1 es2 envF HF->xI X r nt ops env H (es++es2) envF HF
 | [],_,_,_,_,_,_,_,⟨h1,h2⟩,k=>by subst h1 h2;exact k
 | e::es,es2,env,H,env1,H1,envF,HF,⟨h1,h2,h3,env',h4,h5⟩,k=>⟨h1,h2,h3,env',h4,gH h5 k⟩
theorem ZG {H:AH} : ∀(run:List (Nat×Oper)) (envC:Env),(∀io∈run,fZ ops envC io.2=some false)->(∀io∈run,∀io'∈run,∀d,io.2.dst=some d->zAe ops io'.2≠some d)->(∀io∈run,∀d,io.2.dst=some d->d<nt)->
  ∃es envF,xI B.X (rOf B D) nt ops envC H es envF H/\es.map (fun e=>(e.i,e.o))=run/\(∀e∈es,e.want=false/\e.H'=H)/\ ∀t,t∈dstsOf run->look envF t=some qZ
 | [],envC,_,_,_=>⟨[],envC,⟨rfl,rfl⟩,rfl,by simp,fun t ht=>by simp[dstsOf]at ht⟩
 | (i,o)::run,envC,hw,hst,hlt=>by
  have hwo:=hw (i,o) (zH ..);have hent:zGS B.X (rOf B D) ops envC H i o=some ⟨i,o,false,envC,H,qZ,H⟩:=by
   simp only at hwo;simp only[zGS,hwo]
  have hset: ∃envC',KM nt envC o.dst qZ=some envC':=by
   cases hd:o.dst with
   | none=>exact⟨_,rfl⟩
   | some d=>exact⟨upd envC d qZ,by simp only[KM,cond_eq_ite,zR,if_pos (hlt (i,o) (zH ..) d hd)]⟩
  obtain⟨envC',hset⟩:=hset;obtain⟨es,envF,c1,c2,c3,c4⟩:=ZG run envC'
   (fun io hio=>by
    rw[<-hw io (zF _ hio)];exact US fun d hd=>J0 hset (fun hc=>hst (i,o) (zH ..) io (zF _ hio) d hc hd))
   (fun io hio io' hio'=>hst io (zF _ hio) io' (zF _ hio'))
   (fun io hio=>hlt io (zF _ hio))
  refine⟨⟨i,o,false,envC,H,qZ,H⟩::es,envF,⟨rfl,rfl,hent,envC',hset,c1⟩,by simp[c2], ?_,fun t ht=> ?_⟩
  .intro e he;rcases List.mem_cons.1 he with rfl | he
   .exact⟨rfl,rfl⟩
   .exact c3 e he
  .by_cases htr:t∈dstsOf run
   .exact c4 t htr
   .have hdt:o.dst=some t:=by
     simp only[dstsOf,List.filterMap_cons]at ht htr;split at ht
     .exact absurd ht htr
     .rename_i d hd;rcases List.mem_cons.1 ht with rfl | ht
      .exact hd
      .exact absurd ht htr
    rw[Q1 c1 t (fun e he hc=>htr ?_),bG hset,if_pos hdt];have:(e.i,e.o)∈run:=by rw[<-c2];exact List.mem_map.2 ⟨e,he,rfl⟩
    simp only[dstsOf,List.mem_filterMap];exact⟨_,this,hc⟩
end
theorem VP {x:Rs}{K:List AV->AH->Rs}{out:Ex×AH}(h:jn x K=some out):(∃vs H,x=some (.norm vs,H)/\K vs H=some out)\/(∃id vs H,x=some (.exit id vs,H)/\out=(.exit id vs,H))\/(∃v H,x=some (.ret v,H)/\out=(.ret v,H)):=by
 unfold jn at h;split at h
 .exact .inl ⟨_,_,rfl,h⟩
 .injection h with h;exact .inr (.inl ⟨_,_,_,rfl,h.symm⟩)
 .injection h with h;exact .inr (.inr ⟨_,_,rfl,h.symm⟩)
 .simp at h
theorem zIk {a b:Option (Nat×Bool)}(h:zLc a b=true):a=b:=by
 unfold zLc at h;split at h
 .simp only[zE,Nat.beq_eq,beq_iff_eq]at h;rw[h.1,h.2]
 .simp at h
theorem zCr {g:Option (Nat×Bool)} : ∀ {l run rest:List (Nat×Oper)},BF g l=(run,rest)->l=run++rest/\ ∀io∈run,io.2.guard=g
 | [],run,rest,h=>by simp only[BF,zK]at h;obtain⟨rfl,rfl⟩:=h;simp
 | o::l,run,rest,h=>by
  simp only[BF,cond_eq_ite]at h;split at h
  .rename_i hg
   cases hs:BF g l with
   | mk a b=>
    rw[hs]at h;simp only[zK]at h;obtain⟨rfl,rfl⟩:=h;obtain⟨h1,h2⟩:=zCr hs;refine⟨by rw[h1];rfl,fun io hio=> ?_⟩;rcases List.mem_cons.1 hio with rfl | hio
    .exact(zIk hg).symm
    .exact h2 io hio
  .simp only[zK]at h;obtain⟨rfl,rfl⟩:=h;simp
section
variable {B:Tb}{D:Dyn}{nt:Nat}{ops:Array Oper}
theorem wU {X:Cx}{masks:Option (List Nat)}{sn:List Seen}{H:AH}{K:Rs}{out:Ex×AH} : ∀ {run:List (Nat×Oper)},BH X masks sn H K run=some out->K=some out/\ ∀ms,masks=some ms-> ∀b∈run,jR (cls X b.2.op)=true-> ∀s∈sn,(ms.getD b.1 0).testBit s.i=false->s.rd H=some s.v
 | [],h=>⟨h,by simp⟩
 | b::run,h=>by
  unfold BH at h;split at h
  .obtain⟨h1,_⟩:=wU h;exact⟨h1,fun ms hms=>by simp at hms⟩
  .rename_i ms;rw[cond_eq_ite]at h;split at h
   .obtain⟨h1,h2⟩:=aS h;obtain⟨h3,h4⟩:=wU h1;refine⟨h3,fun ms' hms q hq=> ?_⟩;injection hms with hms;subst hms
    rcases List.mem_cons.1 hq with rfl | hq
    .exact fun _=>h2
    .exact h4 _ rfl q hq
   .rename_i hne;obtain⟨h3,h4⟩:=wU h;refine⟨h3,fun ms' hms q hq=> ?_⟩;injection hms with hms;subst hms
    rcases List.mem_cons.1 hq with rfl | hq
    .exact fun he=>absurd he hne
    .exact h4 _ rfl q hq
theorem zAT {X:Cx}{r:Fns} : ∀ {es:List Ent} {env:Env} {H:AH} {envF:Env} {HF:AH},xI X r nt ops env H es envF HF-> ∀e∈es,zGS X r ops e.env e.H e.i e.o=some e
 | [],_,_,_,_,_,e,he=>by simp at he
 | q::es,env,H,envF,HF,⟨h1,h2,h3,env',h4,h5⟩,e,he=>by
  rcases List.mem_cons.1 he with rfl | he
  .rw[h1,h2];exact h3
  .exact zAT h5 e he
theorem zHV {env:Env}{v:AV} : ∀ {L:List Nat},(∀t∈L,look env t=some v)->PK env L (L.map fun _=>v)
 | [],_=>rfl
 | l::L,h=>⟨v,_,rfl,h l (zH ..),zHV fun t ht=>h t (zF _ ht)⟩
theorem BW {run rest:List (Nat×Oper)}{t:Nat}(h:t∈ZK ops run rest):t∈dstsOf run:=by
 simp only[ZK,List.mem_filterMap]at h;obtain⟨a,ha,h1⟩:=h;simp only[dstsOf,List.mem_filterMap];refine⟨a,ha, ?_⟩;split at h1
 .rename_i d hd;rw[cond_eq_ite]at h1;split at h1
  .rw[hd];exact h1
  .simp at h1
 .simp at h1
theorem zFs (masks:Option (List Nat))(K:Env->AH->Rs)(fuel:Nat)(row:List (Nat×Oper))(sn:List Seen)(env:Env)(H:AH):zCA B D nt ops masks (fuel+1) K row sn env H=(match row with
   | []=>K env H
   | (i,o)::rest=>match o.guard with
    | none=>zHX B D nt masks (fun sn env H=>zCA B D nt ops masks fuel K rest sn env H) [(i,o)] sn env H
    | some (j,want)=>match zFZ ops env j with
     | none=>none
     | some g=>match BF o.guard rest with
      | (run,rest)=>bif zLS nt ops j ((i,o)::run)then
        bif zLe B.X masks ((i,o)::run) rest then
         runK B D nt ops masks g want ((i,o)::run) (ZK ops ((i,o)::run) rest) sn env H fun env H=>zCA B D nt ops masks fuel K rest sn env H
        else runW B D nt masks g want ((i,o)::run) (ZK ops ((i,o)::run) rest) sn env H fun sn env H=>zCA B D nt ops masks fuel K rest sn env H
       else none):=rfl
theorem wW {masks:Option (List Nat)}{K:Env->AH->Rs}{out:Ex×AH} : ∀(fuel:Nat) (row:List (Nat×Oper)) (sn:List Seen) (env:Env) (H:AH) (envC:Env) (pre:List Ent),
  zCA B D nt ops masks fuel K row sn env H=some out->Le env envC->(∀ms,masks=some ms->Tr B.X ms sn pre row)->
  ∃es envF HF env',xI B.X (rOf B D) nt ops envC H es envF HF/\es.map (fun e=>(e.i,e.o))=row/\Le env' envF/\K env' HF=some out/\
   (∀ms,masks=some ms->(∀a∈pre,∀b∈es,zJV B.X ms a b)/\es.Pairwise (zJV B.X ms))
 | 0,row,sn,env,H,envC,pre,h,hl,hT=>by
  have h':(none:Rs)=some out:=h;simp at h'
 | fuel+1,row,sn,env,H,envC,pre,h,hl,hT=>by
  have ih:=wW (masks:=masks) (K:=K) (out:=out) fuel;have h0:=h;rw[zFs]at h0;clear h;split at h0
  .exact⟨[],envC,H,env,⟨rfl,rfl⟩,rfl,hl,h0,fun ms hms=>⟨by simp,List.Pairwise.nil⟩⟩
  .rename_i i o rest;split at h0
   .rename_i hg;obtain⟨es,envF,HF,sn',env',c1,c2,c3,c4,c5,c6⟩:=xX (ops:=ops) (rest:=rest) [(i,o)] sn env H envC pre h0 hl
     (fun io hio=>by simp only[List.mem_singleton]at hio;subst hio;simp[fZ,hg])
     (fun io hio io' hio' d hd=>by simp only[List.mem_singleton]at hio';subst hio';simp[zAe,hg])
     (fun ms hms=>by simpa using hT ms hms)
    obtain⟨es2,envF2,HF2,env2,d1,d2,d3,d4,d5⟩:=ih rest sn' env' HF envF (pre++es) c5 c4 (fun ms hms=>(c6 ms hms).2.2);refine⟨es++es2,envF2,HF2,env2,gH c1 d1,by rw[List.map_append,c2,d2];rfl,d3,d4,fun ms hms=> ?_⟩;obtain⟨e1,e2,e3⟩:=c6 ms hms;obtain⟨f1,f2⟩:=d5 ms hms;refine⟨fun a ha b hb=> ?_,List.pairwise_append.2 ⟨e2,f2,fun a ha b hb=>f1 a (qK _ ha) b hb⟩⟩;rcases List.mem_append.1 hb with hb | hb
    .exact e1 a ha b hb
    .exact f1 a (qE _ ha) b hb
   .rename_i j want hg;split at h0
    .simp at h0
    .rename_i g hgv
     cases hsp:BF o.guard rest with
     | mk run rest'=>
      rw[hsp]at h0;simp only[cond_eq_ite]at h0;split at h0
      .rename_i hfree;obtain⟨hsplit,hguards⟩:=zCr hsp;have hrow:(i,o)::rest=((i,o)::run)++rest':=by rw[hsplit];rfl
       generalize hRUN:(i,o)::run=RUN at h0 hfree hrow;have hgd: ∀io∈RUN,io.2.guard=some (j,want):=by
        intro io hio;rw[<-hRUN]at hio;rcases List.mem_cons.1 hio with rfl | hio
        .exact hg
        .rw[hguards io hio,hg]
       unfold zFZ at hgv;unfold zLS at hfree;split at hgv
       .rename_i p hp;simp only[hp]at hfree;split at hgv
        .rename_i dg hdg;simp only[hdg,zE,Bool.not_eq_true',List.contains_eq_mem,decide_eq_false_iff_not,List.all_eq_true,zR]at hfree;obtain⟨hnd,hlt⟩:=hfree;have hgs: ∀io∈RUN,zAe ops io.2=some dg:=fun io hio=>by simp only[zAe,hgd io hio,hp,hdg]
         have hwt: ∀io∈RUN,fZ ops envC io.2=some (isW g want):=fun io hio=>by
          simp only[fZ,hgd io hio,zEk,hp,hdg,hl _ _ hgv]
         have hst: ∀io∈RUN,∀io'∈RUN,∀d,io.2.dst=some d->zAe ops io'.2≠some d:=fun io hio io' hio' d hd hc=>by
          rw[hgs io' hio']at hc;injection hc with hc;subst hc
          exact hnd (by simp only[dstsOf,List.mem_filterMap];exact⟨io,hio,hd⟩)
         have hTr: ∀ms,masks=some ms->Tr B.X ms sn pre (RUN++rest'):=fun ms hms=>by rw[<-hrow];exact hT ms hms
         have key: ∃es1 envF1 HF1 env2 sn2,xI B.X (rOf B D) nt ops envC H es1 envF1 HF1/\es1.map (fun e=>(e.i,e.o))=RUN/\Le env2 envF1/\zCA B D nt ops masks fuel K rest' sn2 env2 HF1=some out/\
           (∀ms,masks=some ms->(∀a∈pre,∀b∈es1,zJV B.X ms a b)/\es1.Pairwise (zJV B.X ms)/\Tr B.X ms sn2 (pre++es1) rest'):=by
          have hle2: ∀ {es1:List Ent} {envF1:Env} {HF1:AH} {env2:Env},xI B.X (rOf B D) nt ops envC H es1 envF1 HF1->es1.map (fun e=>(e.i,e.o))=RUN->
            (∀t,t∉ZK ops RUN rest'->look env2 t=look (U5 (dstsOf RUN) env) t)->(∀t x,t∈ZK ops RUN rest'->look env2 t=some x->look envF1 t=some x)->Le env2 envF1:=by
           intro es1 envF1 HF1 env2 hc hm h1 h2 t x hx;by_cases ht:t∈ZK ops RUN rest'
           .exact h2 t x ht hx
           .rw[h1 t ht,XD]at hx;split at hx
            .simp at hx
            .rename_i htd;rw[Q1 hc t (fun e he hce=>htd ?_)]
             .exact hl t x hx
             .have:(e.i,e.o)∈RUN:=by rw[<-hm];exact List.mem_map.2 ⟨e,he,rfl⟩
              simp only[dstsOf,List.mem_filterMap];exact⟨_,this,hce⟩
          split at h0
          .rename_i hrun;unfold runK at h0
           cases hwb:isW g want with
           | true=>
            simp only[wnt,hwb,cond_true]at h0;have hx: ∃vs H1,zHX B D nt masks (fun _ env H=>pck (ZK ops RUN rest') env fun vs=>some (.norm vs,H)) RUN sn env H=some (.norm vs,H1)/\(unp (ZK ops RUN rest') vs (U5 (dstsOf RUN) env) fun env=>zCA B D nt ops masks fuel K rest' sn env H1)=some out/\True:=by
             rcases VP h0 with⟨vs,H1,h1,h2⟩ | ⟨id,vs,H1,h1,h2⟩ | ⟨v,H1,h1,h2⟩
             .exact⟨vs,H1,h1,h2,trivial⟩
             .obtain⟨_,_,_,_,_,_,_,_,_,c5,_⟩:=xX (ops:=ops) (rest:=rest') RUN sn env H envC pre h1 hl (fun io hio=>by rw[hwt io hio,hwb]) hst hTr;obtain⟨_,_,c7⟩:=j7 c5;simp at c7
             .obtain⟨_,_,_,_,_,_,_,_,_,c5,_⟩:=xX (ops:=ops) (rest:=rest') RUN sn env H envC pre h1 hl (fun io hio=>by rw[hwt io hio,hwb]) hst hTr;obtain⟨_,_,c7⟩:=j7 c5;simp at c7
            obtain⟨vs,H1,h1,h2,_⟩:=hx;obtain⟨es1,envF1,HF1,sn1,env1,c1,c2,c3,c4,c5,c6⟩:=xX (ops:=ops) (rest:=rest') RUN sn env H envC pre h1 hl (fun io hio=>by rw[hwt io hio,hwb]) hst hTr;obtain⟨vs',c7,c8⟩:=j7 c5;simp only[zC,zK,Ex.norm.injEq]at c8;obtain⟨rfl,rfl⟩:=c8;obtain⟨env2,u1,u2⟩:=cH h2 env1 c7;refine⟨es1,envF1,HF1,env2,sn,c1,c2,hle2 c1 c2 (fun t ht=>(u2 t).2 ht) (fun t x ht hx=>c4 t x (by rw[<-(u2 t).1 ht];exact hx)),u1,fun ms hms=> ?_⟩;obtain⟨e1,e2,e3⟩:=c6 ms hms;refine⟨e1,e2,fun a ha hwa hLa=> ?_⟩;rcases List.mem_append.1 ha with ha | ha
            .exact((hTr ms hms).less (fun _ h=>h) (fun b hb=>qK _ hb)) a ha hwa hLa
            .have hent:=zAT c1 a ha;have hopa:=(K0 _ _ _ hent).2.1 hwa;have hLv:aL B.X a.env a.H a.o.op=some a.v:=by
              simp only[opF,hLa,wV]at hopa;split at hopa
              .rename_i x hx;simp only[zC,zK]at hopa;rw[hx,hopa.1]
              .simp at hopa
             cases hmt:kS B.X a.o.op with
             | false=>exact .inr (.inl fun H2=>zCp hLa hmt hLv H2)
             | true=>
              refine .inr (.inr fun b hb he=> ?_);simp only[zLe,zEs,hms,List.all_eq_true,Bool.or_eq_true,Bool.not_eq_true']at hrun;have hmem:(a.i,a.o)∈RUN:=by rw[<-c2];exact List.mem_map.2 ⟨a,ha,rfl⟩
              rcases hrun _ hmem with hr | hr
              .simp only at hr;rw[hmt]at hr;simp at hr
              .rcases hr b hb with hr | hr
               .rw[he]at hr;simp at hr
               .exact hr
           | false=>
            simp only[wnt,hwb,cond_false]at h0;have hx: ∃vs H1,BH B.X masks sn H (some (.norm ((ZK ops RUN rest').map fun _=>qZ),H)) RUN=some (.norm vs,H1)/\(unp (ZK ops RUN rest') vs (U5 (dstsOf RUN) env) fun env=>zCA B D nt ops masks fuel K rest' sn env H1)=some out:=by
             rcases VP h0 with⟨vs,H1,h1,h2⟩ | ⟨id,vs,H1,h1,h2⟩ | ⟨v,H1,h1,h2⟩
             .exact⟨vs,H1,h1,h2⟩
             .have:=(wU h1).1;simp at this
             .have:=(wU h1).1;simp at this
            obtain⟨vs,H1,h1,h2⟩:=hx;obtain⟨h3,h4⟩:=wU h1;simp only[zC,zK,Ex.norm.injEq]at h3;obtain⟨rfl,rfl⟩:=h3;obtain⟨es1,envF1,c1,c2,c3,c4⟩:=ZG (B:=B) (D:=D) (nt:=nt) (ops:=ops) (H:=H) RUN envC (fun io hio=>by rw[hwt io hio,hwb]) hst (fun io hio d hd=>hlt d (by simp only[dstsOf,List.mem_filterMap];exact⟨io,hio,hd⟩));obtain⟨env2,u1,u2⟩:=cH h2 envF1 (zHV fun t ht=>c4 t (BW ht));refine⟨es1,envF1,H,env2,sn,c1,c2,hle2 c1 c2 (fun t ht=>(u2 t).2 ht) (fun t x ht hx=>by rw[<-(u2 t).1 ht];exact hx),u1,fun ms hms=>⟨fun a ha b hb=> ?_, ?_,fun a ha hwa hLa=> ?_⟩⟩
            .have hmem:(b.i,b.o)∈RUN:=by rw[<-c2];exact List.mem_map.2 ⟨b,hb,rfl⟩
             refine(hTr ms hms).see (qE _ hmem) (fun he=> ?_) a ha;rw[(c3 b hb).2];exact h4 ms hms _ hmem he
            .refine List.Pairwise.imp_of_mem (R:=fun _ _=>True) (fun {a b} ha _ _ hw=> ?_) (List.pairwise_of_forall fun _ _=>trivial);rw[(c3 a ha).1]at hw;simp at hw
            .rcases List.mem_append.1 ha with ha | ha
             .exact((hTr ms hms).less (fun _ h=>h) (fun b hb=>qK _ hb)) a ha hwa hLa
             .rw[(c3 a ha).1]at hwa;simp at hwa
          .unfold runW at h0
           cases hwb:isW g want with
           | true=>
            simp only[wnt,hwb,cond_true]at h0;obtain⟨es1,envF1,HF1,sn1,env1,c1,c2,c3,c4,c5,c6⟩:=xX (ops:=ops) (rest:=rest') RUN sn env H envC pre h0 hl (fun io hio=>by rw[hwt io hio,hwb]) hst hTr;exact⟨es1,envF1,HF1,env1,sn1,c1,c2,c4,c5,fun ms hms=>c6 ms hms⟩
           | false=>
            simp only[wnt,hwb,cond_false]at h0;obtain⟨h2,h4⟩:=wU h0;obtain⟨es1,envF1,c1,c2,c3,c4⟩:=ZG (B:=B) (D:=D) (nt:=nt) (ops:=ops) (H:=H) RUN envC (fun io hio=>by rw[hwt io hio,hwb]) hst (fun io hio d hd=>hlt d (by simp only[dstsOf,List.mem_filterMap];exact⟨io,hio,hd⟩));obtain⟨env2,u1,u2⟩:=cH h2 envF1 (zHV fun t ht=>c4 t (BW ht));refine⟨es1,envF1,H,env2,sn,c1,c2,hle2 c1 c2 (fun t ht=>(u2 t).2 ht) (fun t x ht hx=>by rw[<-(u2 t).1 ht];exact hx),u1,fun ms hms=>⟨fun a ha b hb=> ?_, ?_,fun a ha hwa hLa=> ?_⟩⟩
            .have hmem:(b.i,b.o)∈RUN:=by rw[<-c2];exact List.mem_map.2 ⟨b,hb,rfl⟩
             refine(hTr ms hms).see (qE _ hmem) (fun he=> ?_) a ha;rw[(c3 b hb).2];exact h4 ms hms _ hmem he
            .refine List.Pairwise.imp_of_mem (R:=fun _ _=>True) (fun {a b} ha _ _ hw=> ?_) (List.pairwise_of_forall fun _ _=>trivial);rw[(c3 a ha).1]at hw;simp at hw
            .rcases List.mem_append.1 ha with ha | ha
             .exact((hTr ms hms).less (fun _ h=>h) (fun b hb=>qK _ hb)) a ha hwa hLa
             .rw[(c3 a ha).1]at hwa;simp at hwa
         obtain⟨es1,envF1,HF1,env2,sn2,k1,k2,k3,k4,k5⟩:=key;obtain⟨es2,envF2,HF2,env3,d1,d2,d3,d4,d5⟩:=ih rest' sn2 env2 HF1 envF1 (pre++es1) k4 k3 (fun ms hms=>(k5 ms hms).2.2);refine⟨es1++es2,envF2,HF2,env3,gH k1 d1,by rw[List.map_append,k2,d2,hrow],d3,d4,fun ms hms=> ?_⟩;obtain⟨e1,e2,e3⟩:=k5 ms hms;obtain⟨f1,f2⟩:=d5 ms hms;refine⟨fun a ha b hb=> ?_,List.pairwise_append.2 ⟨e2,f2,fun a ha b hb=>f1 a (qK _ ha) b hb⟩⟩;rcases List.mem_append.1 hb with hb | hb
         .exact e1 a ha b hb
         .exact f1 a (qE _ ha) b hb
        .simp at hgv
       .simp at hgv
      .simp at h0
end
def Marks (lo:Nat)(R:Ren)(w:World)(ds:List Deferred):Prop:=
 ds.Pairwise (fun a b=> ∀r,a=⟨.collected r, #[]⟩->b≠⟨.collected r, #[]⟩)/\
 ∀d∈ds,∃r,d=⟨.collected r, #[]⟩/\lo<=r/\r<w.heap.size/\(∀A d c,¬R A r d c)/\w.heap[r]? =some (.deferred (some []))
theorem Marks.nil (lo:Nat)(R:Ren)(w:World):Marks lo R w []:=⟨List.Pairwise.nil,by simp⟩
theorem Marks.ext {lo:Nat}{R R':Ren}{H H':AH}{w w':World}{ds:List Deferred}(h:Marks lo R w ds)(k:Ext R H w R' H' w'):Marks lo R' w' ds:=by
 refine⟨h.1,fun d hd=> ?_⟩;obtain⟨r,h1,h0,h2,h3,h4⟩:=h.2 d hd;refine⟨r,h1,h0,zY h2 k.size,fun A d c hr=> ?_,by rw[k.keep r h2 h3];exact h4⟩;rcases k.new _ _ _ _ hr with h5 | h5 | ⟨A0,d0,c0,h5⟩
 .exact h3 _ _ _ h5
 .omega
 .exact h3 _ _ _ h5
def Ends (k:List Item)(post:Env->AH->Prop)(exits:Nat->Env->AH->Prop)(rets:Env->AH->Prop)(td:List Item)(env:Env)(H:AH):Prop:=
 (td=k/\post env H)\/(∃id k',td= .code (.exit id)::k'/\exitTo id k'=exitTo id k/\exits id env H)\/(∃k',td= .code .ret::k'/\rets env H)
def KY (P:Program)(nt:Nat)(f0:FuncId)(ro:Bool)(it:Item)(env:Env)(H:AH)(post:Env->AH->Prop)(exits:Nat->Env->AH->Prop)(rets:Env->AH->Prop):Prop:=
 ∀(lo:Nat) (R:Ren) (fr:Frame) (k:List Item) (cs:List Frame) (w:World),fr.mode= .run->(ro=false->fr.roundOf=none/\fr.fn=f0)->fr.todo=it::k->EnvR R env nt fr.tmps->Rel R H w->Marks lo R w fr.defers->lo<=w.heap.size->
  ∃R' w' tmps' td ds env' H',Steps P (lone fr cs w) (lone { fr with tmps:=tmps',todo:=td,defers:=ds} cs w')/\EnvR R' env' nt tmps'/\Rel R' H' w'/\Ext R H w R' H' w'/\H.next<=H'.next/\Marks lo R' w' ds/\Ends k post exits rets td env' H'
theorem KY.mono {P:Program}{nt:Nat}{f0:FuncId}{ro:Bool}{it:Item}{env:Env}{H:AH}{post post':Env->AH->Prop}{exits exits':Nat->Env->AH->Prop}{rets rets':Env->AH->Prop}(h:KY P nt f0 ro it env H post exits rets)
  (h1: ∀e H',post e H'->post' e H') (h2: ∀i e H',exits i e H'->exits' i e H') (h3: ∀e H',rets e H'->rets' e H'):KY P nt f0 ro it env H post' exits' rets':=by
 intro lo R fr k cs w hm hro ht hE hL hM hlo;obtain⟨R',w',t',td,ds,env',H',a1,a2,a3,a4,a5,a6,a7⟩:=h lo R fr k cs w hm hro ht hE hL hM hlo;refine⟨R',w',t',td,ds,env',H',a1,a2,a3,a4,a5,a6, ?_⟩;rcases a7 with⟨b1,b2⟩ | ⟨id,k',b1,b2,b3⟩ | ⟨k',b1,b2⟩
 .exact .inl ⟨b1,h1 _ _ b2⟩
 .exact .inr (.inl ⟨id,k',b1,b2,h2 _ _ _ b3⟩)
 .exact .inr (.inr ⟨k',b1,h3 _ _ b2⟩)
theorem KY.then {P:Program}{nt:Nat}{f0:FuncId}{ro:Bool}{it:Item}{env:Env}{H:AH}{post:Env->AH->Prop}{exits:Nat->Env->AH->Prop}{rets:Env->AH->Prop}{mid:Env->AH->Prop}
  (its:List Item) (hex: ∀id k,exitTo id (its++k)=exitTo id k)
  (h:KY P nt f0 ro it env H mid exits rets)
  (g: ∀env1 H1,mid env1 H1-> ∀(lo:Nat) (R:Ren) (fr:Frame) (k:List Item) (cs:List Frame) (w:World),fr.mode= .run->(ro=false->fr.roundOf=none/\fr.fn=f0)->fr.todo=its++k->EnvR R env1 nt fr.tmps->Rel R H1 w->Marks lo R w fr.defers->lo<=w.heap.size->
   ∃R' w' tmps' td ds env' H',Steps P (lone fr cs w) (lone { fr with tmps:=tmps',todo:=td,defers:=ds} cs w')/\EnvR R' env' nt tmps'/\Rel R' H' w'/\Ext R H1 w R' H' w'/\H1.next<=H'.next/\Marks lo R' w' ds/\Ends k post exits rets td env' H')
  (lo:Nat) (R:Ren) (fr:Frame) (k:List Item) (cs:List Frame) (w:World) (hm:fr.mode= .run) (hro:ro=false->fr.roundOf=none/\fr.fn=f0) (ht:fr.todo=it::(its++k)) (hE:EnvR R env nt fr.tmps) (hL:Rel R H w) (hM:Marks lo R w fr.defers) (hlo:lo<=w.heap.size):
   ∃R' w' tmps' td ds env' H',Steps P (lone fr cs w) (lone { fr with tmps:=tmps',todo:=td,defers:=ds} cs w')/\EnvR R' env' nt tmps'/\Rel R' H' w'/\Ext R H w R' H' w'/\H.next<=H'.next/\Marks lo R' w' ds/\Ends k post exits rets td env' H':=by
 obtain⟨R1,w1,t1,td1,ds1,env1,H1,a1,a2,a3,a4,a5,a6,a7⟩:=h lo R fr (its++k) cs w hm hro ht hE hL hM hlo;rcases a7 with⟨rfl,b2⟩ | ⟨id,k',b1,b2,b3⟩ | ⟨k',b1,b2⟩
 .obtain⟨R2,w2,t2,td2,ds2,env2,H2,c1,c2,c3,c4,c5,c6,c7⟩:=g env1 H1 b2 lo R1 { fr with tmps:=t1,todo:=its++k,defers:=ds1} k cs w1 hm hro rfl a2 a3 a6 (Nat.le_trans hlo a4.size);exact⟨R2,w2,t2,td2,ds2,env2,H2,a1.trans c1,c2,c3,a4.trans c4,Nat.le_trans a5 c5,c6,c7⟩
 .exact⟨R1,w1,t1,td1,ds1,env1,H1,a1,a2,a3,a4,a5,a6, .inr (.inl ⟨id,k',b1,by rw[b2,hex],b3⟩)⟩
 .exact⟨R1,w1,t1,td1,ds1,env1,H1,a1,a2,a3,a4,a5,a6, .inr (.inr ⟨k',b1,b2⟩)⟩
theorem KY.step {P:Program}{nt:Nat}{H:AH}{fr fr1:Frame}{k:List Item}{cs:List Frame}{w:World}{lo:Nat}{R:Ren}{post:Env->AH->Prop}{exits:Nat->Env->AH->Prop}{rets:Env->AH->Prop}{td0:List Item}
  (hs:step P (lone fr cs w)= .next (lone fr1 cs w)) (hf:fr1= { fr with todo:=td0})
  (g: ∃R' w' tmps' td ds env' H',Steps P (lone { fr with todo:=td0} cs w) (lone { fr with tmps:=tmps',todo:=td,defers:=ds} cs w')/\EnvR R' env' nt tmps'/\Rel R' H' w'/\Ext R H w R' H' w'/\H.next<=H'.next/\Marks lo R' w' ds/\Ends k post exits rets td env' H'):
  ∃R' w' tmps' td ds env' H',Steps P (lone fr cs w) (lone { fr with tmps:=tmps',todo:=td,defers:=ds} cs w')/\EnvR R' env' nt tmps'/\Rel R' H' w'/\Ext R H w R' H' w'/\H.next<=H'.next/\Marks lo R' w' ds/\Ends k post exits rets td env' H':=by
 subst hf;obtain⟨R',w',t',td,ds,env',H',a1,a2⟩:=g;exact⟨R',w',t',td,ds,env',H',(Steps.one hs).trans a1,a2⟩
theorem VS: ∀(l:List Oper) (n:Nat),(idx l n).map (·.1)=(List.range l.length).map (n+ ·)/\ ∀a∈idx l n,n<=a.1/\l[a.1 - n]? =some a.2
 | [],n=>by simp[idx]
 | o::l,n=>by
  obtain⟨h1,h2⟩:=VS l (n+1);refine⟨?_,fun a ha=> ?_⟩
  .simp only[idx,List.map_cons,h1,zP,List.range_succ_eq_map,List.map_map];simp only[Nat.add_zero,List.cons.injEq,true_and];apply List.map_congr_left;intro x _;simp only[Function.comp];omega
  .simp only[idx,List.mem_cons]at ha;rcases ha with rfl | ha
   .simp
   .obtain⟨h3,h4⟩:=h2 a ha;refine⟨by omega, ?_⟩;rw[show a.1 - n=(a.1 - (n+1))+1 from by omega,List.getElem?_cons_succ];exact h4
section
variable {P:Program}{B:Tb}{D:Dyn}(hX:Ok P B.X)(hr:Good P (rOf B D)){nt:Nat}
include hX hr in
theorem K6 {ops:Array Oper} : ∀ {es:List Ent} {env:Env} {H:AH} {envF:Env} {HF:AH},xI B.X (rOf B D) nt ops env H es envF HF->(∀e∈es,ops[e.i]? =some e.o)->
  ∀(R:Ren) (fr:Frame) (k:List Item) (cs:List Frame) (w:World),fr.mode= .run->fr.todo= .inRegion ops (es.map (·.i))::k->EnvR R env nt fr.tmps->Rel R H w->
  ∃R' w' tmps',Steps P (lone fr cs w) (lone { fr with tmps:=tmps',todo:= .inRegion ops []::k} cs w')/\EnvR R' envF nt tmps'/\Rel R' HF w'/\Ext R H w R' HF w'
 | [],env,H,envF,HF,⟨h1,h2⟩,_,R,fr,k,cs,w,hm,ht,hE,hL=>by
  subst h1 h2;refine⟨R,w,fr.tmps, ?_,hE,hL,Ext.refl R H w⟩;have:({ fr with tmps:=fr.tmps,todo:= .inRegion ops []::k} :Frame)=fr:=by
   have ht':fr.todo= .inRegion ops []::k:=ht;rw[<-ht']
  rw[this];exact .refl _ _
 | e::es,env,H,envF,HF,⟨h1,h2,h3,env',h4,h5⟩,hmem,R,fr,k,cs,w,hm,ht,hE,hL=>by
  have ho:=hmem e (zH ..);obtain⟨hw,hyes,hno⟩:=K0 _ _ _ h3;have hwd:=zBh hE hw;have ht':fr.todo= .inRegion ops (e.i::es.map (·.i))::k:=ht;have key: ∃R1 w1 z,Steps P (lone fr cs w) (lone { fr with tmps:=zBe fr.tmps e.o.dst z,todo:= .inRegion ops (es.map (·.i))::k} cs w1)/\VR R1 e.v z/\Rel R1 e.H' w1/\Ext R H w R1 e.H' w1:=by
   cases hwe:e.want with
   | true=>
    rw[hwe]at hwd;exact zCC hX hr (cs:=cs) hm ht' ho hwd hE hL (hyes hwe)
   | false=>
    rw[hwe]at hwd;obtain⟨e1,e2⟩:=hno hwe;refine⟨R,w,undef, ?_,by rw[e1];exact UL R,by rw[e2];exact hL,by rw[e2];exact Ext.refl R H w⟩;rw[<-yH ht' ho];exact .one (YU hm ht' ho hwd)
  obtain⟨R1,w1,z,s1,v1,l1,x1⟩:=key;obtain⟨R2,w2,t2,s2,e2,l2,x2⟩:=K6 h5 (fun q hq=>hmem q (zF _ hq)) R1 { fr with tmps:=zBe fr.tmps e.o.dst z,todo:= .inRegion ops (es.map (·.i))::k} k cs w1 hm rfl ((hE.mono x1.sub).put v1 h4) l1;exact⟨R2,w2,t2,s1.trans s2,e2,l2,x1.trans x2⟩
include hX hr in
theorem zLj {ops:Array Oper}{draw:Bool}{K:Env->AH->Rs}{env:Env}{H:AH}{out:Ex×AH}{id:Nat}(h:zMS B D nt ops draw K env H=some out)(f0:FuncId)(ro:Bool)(exits:Nat->Env->AH->Prop)(rets:Env->AH->Prop):
  KY P nt f0 ro (.code (.region id ops draw)) env H (fun env' H'=>K env' H'=some out) exits rets:=by
 unfold zMS at h;rw[cond_eq_ite]at h;have fin: ∀ {env' envF:Env} {HF:AH},zHS P nt (.region id ops draw) env H .normal envF HF->Le env' envF->H.next<=HF.next->K env' HF=some out->
   KY P nt f0 ro (.code (.region id ops draw)) env H (fun env' H'=>K env' H'=some out) exits rets:=by
  intro env' envF HF hs hl hn hk lo R fr k cs w hm _ ht hE hL hM hlo;obtain⟨R',w',t',td,a1,a2,a3,a4,a5⟩:=hs R fr k cs w hm ht hE hL;simp only[Out]at a2;subst a2;exact⟨R',w',t',td,fr.defers,env',HF,a1,a3.le hl,a4,a5,hn,hM.ext a5, .inl ⟨rfl,hk⟩⟩
 split at h
 .rename_i hd;subst hd;split at h
  .rename_i row masks hplan;obtain⟨es,envF,HF,env',c1,c2,c3,c4,c5⟩:=wW _ row [] env H env [] h (Le.refl env) (fun ms hms=>by intro a ha;simp at ha);exact fin (zH0 hX hr hr.mono hplan c1 c2 (c5 _ rfl).2) c3 (jG hr.mono c1).1 c4
  .simp at h
 .rename_i hd;have hd':draw=false:=by simpa using hd
  subst hd';obtain⟨es,envF,HF,env',c1,c2,c3,c4,_⟩:=wW _ _ [] env H env [] h (Le.refl env) (fun ms hms=>by simp at hms);refine fin ?_ c3 (jG hr.mono c1).1 c4;intro R fr k cs w hm ht hE hL;obtain⟨i1,i2⟩:=VS ops.toList 0;have hi:es.map (·.i)=List.range ops.size:=by
   have:es.map (·.i)=(idx ops.toList 0).map (·.1):=by rw[<-c2];simp
   rw[this,i1];simp
  have hmem: ∀e∈es,ops[e.i]? =some e.o:=by
   intro e he;have:(e.i,e.o)∈idx ops.toList 0:=by rw[<-c2];exact List.mem_map.2 ⟨e,he,rfl⟩
   have:=(i2 _ this).2;simpa using this
  obtain⟨R1,w1,t1,s1,e1,l1,x1⟩:=K6 hX hr c1 hmem R { fr with todo:= .inRegion ops (List.range ops.size)::k} k cs w hm (by rw[hi]) hE hL;exact⟨R1,w1,t1,k,(Steps.one (cL hm ht)).trans (s1.trans (.one (kG (fr:= { fr with tmps:=t1,todo:= .inRegion ops []::k}) hm rfl))),rfl,e1,l1,x1⟩
end
end Go.Eng
end
