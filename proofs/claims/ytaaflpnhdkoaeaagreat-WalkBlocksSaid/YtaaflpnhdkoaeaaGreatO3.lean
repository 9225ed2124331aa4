/- A checked evaluator for the program, and what it tells, part 3: no condition. -/
import Derived.Test.YtaaflpnhdkoaeaaGreatO2
import Derived.KernelRfl
import Derived.Maps.RangeRun
import Derived.Test.YtaaflpnhdkoaeaaGreatProg
import Derived.Shelf.Spec.SlicesInsertGrow
import Derived.Ground.Names2Prog
import Derived.Ground.SlmcProg
import Derived.Shelf.SlMaps.Clone
import Derived.Deep.Strs
set_option linter.all false
set_option linter.unusedVariables false
set_option linter.unusedSimpArgs false
set_option maxHeartbeats 8000000
set_option maxRecDepth 20000
section
namespace Go.Eng
theorem zIn {id:Nat}{x:Rs}{K:List AV->AH->Rs}{out:Ex×AH}(h:jb id x K=some out): ∃y,x=some y/\((∃vs H,y=(.norm vs,H)/\K vs H=some out)\/(∃vs H,y=(.exit id vs,H)/\K vs H=some out)\/(∃i vs H,i≠id/\y=(.exit i vs,H)/\out=y)\/(∃v H,y=(.ret v,H)/\out=y)):=by
 unfold jb at h;split at h
 .exact⟨_,rfl, .inl ⟨_,_,rfl,h⟩⟩
 .rename_i i vs H;rw[zF]at h;split at h
  .rename_i hi;rw[zY]at hi;subst hi;exact⟨_,rfl, .inr (.inl ⟨_,_,rfl,h⟩)⟩
  .rename_i hi;rw[zY]at hi;injection h with h;exact⟨_,rfl, .inr (.inr (.inl ⟨_,_,_,hi,rfl,h.symm⟩))⟩
 .injection h with h;exact⟨_,rfl, .inr (.inr (.inr ⟨_,_,rfl,h.symm⟩))⟩
 .simp at h
theorem fZ {c:AV}{a b:Rs}{out:Ex×AH}(h:cnd c a b=some out):(c= .bool true/\a=some out)\/(c= .bool false/\b=some out):=by
 unfold cnd at h;split at h
 .exact .inl ⟨rfl,h⟩
 .exact .inr ⟨rfl,h⟩
 .simp at h
theorem KY {L:List Nat}{vs:List AV}{K:Env->Rs}{out:Ex×AH}(h:unp L vs uL K=some out){env:Env}(hp:PK env L vs): ∃env',K env'=some out/\Le env' env:=by
 obtain⟨env',j,f⟩:=Q7 h env hp;refine⟨env',j,fun t x a=> ?_⟩;by_cases i:t∈L
 .rw[<-(f t).1 i];exact a
 .rw[(f t).2 i]at a;simp[look,uL]at a
theorem zDj {f:List (Nat×List Nat)}{id i:Nat}{L:List Nat}(h:uB (zGe f id) i=some L):i≠id/\uB f i=some L:=by
 induction f with
 | nil=>simp[zGe,uB]at h
 | cons x f ih=>
  obtain⟨j,M⟩:=x;unfold zGe at h;simp only[List.filter_cons]at h;split at h
  .rename_i a;simp only[yT]at a;have m:j≠id:=fun e=>by rw[e]at a;simp[yF]at a
   simp only[uB,zF,zY]at h⊢;split at h
   .rename_i e;subst e;rw[if_pos rfl];exact⟨m,h⟩
   .rename_i e;rw[if_neg e];exact ih h
  .rename_i a;have m:j=id:=by
    have:Nat.beq j id=true:=by simpa using a
    simpa using this
   obtain⟨o,p⟩:=ih h;refine⟨o, ?_⟩;simp only[uB,zF,zY];rw[if_neg (fun e=>o (by rw[<-e,m]))];exact p
def XP (a:List (Nat×List Nat))(out:Ex×AH)(id:Nat)(env:Env)(H:AH):Prop:= ∃L vs,uB a id=some L/\PK env L vs/\out=(.exit id vs,H)
def RP (X:Cx)(rs:List ResultVar)(out:Ex×AH)(env:Env)(H:AH):Prop:=zKO X rs env H=some out
theorem zBz {X:Cx}{env:Env}{H:AH} : ∀(rs:List ResultVar) (G:List AV->Rs),(∀vs z,G vs=some z-> ∃v,z=(.ret v,H))-> ∀z,zPs X rs env H G=some z-> ∃v,z=(.ret v,H)
 | [],G,hG,z,a=>hG _ _ a
 | r::rs,G,hG,z,a=>by
  simp only[zPs]at a;obtain⟨v,_,f⟩:=wH a;exact zBz rs _ (fun vs z a=>hG _ _ a) z f
theorem vG {X:Cx}{rs:List ResultVar}{env:Env}{H:AH}{y:Ex×AH}(h:RP X rs y env H): ∃v,y=(.ret v,H):=
 zBz rs _ (fun vs z a=>by injection a with a;exact⟨_,a.symm⟩) _ h
def VM (P:Program)(nt:Nat)(f0:FuncId)(c:Code)(L:List Nat)(m:List AV->AH->Option AH):Prop:=
 ∀(ro:Bool) (env:Env) (vs:List AV) (H H':AH),PK env L vs->m vs H=some H'->H.next<=H'.next->U0 P nt f0 ro (.code c) env H (fun env' a=>PK env' L vs/\a=H') (fun _ _ _=>False) (fun _ _=>False)
theorem zE7 {x:Option AH}{N:Nat}{K:AH->Rs}{out:Ex×AH}(h:tld x N K=some out): ∃H',x=some H'/\N<=H'.next/\K H'=some out:=by
 unfold tld at h;split at h
 .rename_i H';rw[zF]at h;split at h
  .rename_i a;rw[qV]at a;exact⟨H',rfl,a,h⟩
  .simp at h
 .simp at h
def kN (P:Program)(f0:FuncId)(nt:Nat):Code->Hint->Prop
 | .seq a b, .s ha hb=>kN P f0 nt a ha/\kN P f0 nt b hb
 | .cond _ a b, .c _ ha hb=>kN P f0 nt a ha/\kN P f0 nt b hb
 | .cond _ a b, .cl ha hb=>kN P f0 nt a ha/\kN P f0 nt b hb
 | .cond _ a b, .cr ha hb=>kN P f0 nt a ha/\kN P f0 nt b hb
 | .block _ b, .b _ hb=>kN P f0 nt b hb
 | .block _ b, .b0 hb=>kN P f0 nt b hb
 | .seq a b, .t L m=>VM P nt f0 (.seq a b) L m
 | .loop b, .l _ hb=>kN P f0 nt b hb
 | .rangeFunc _ ps a b, .rf s _=>zAg f0 s=some (nt,ps,a,b)
 | _,_=>True
theorem zBM {H:AH}{o:AObj}{K:Nat->AH->Rs}{out:Ex×AH}(h:VQ H o K=some out): ∃t,T.set 40 H.h H.next o=some t/\T.get H.h H.next=none/\K H.next ⟨t,H.next+1⟩=some out:=by
 unfold VQ at h;split at h
 .rename_i a;split at h
  .rename_i t f;rw[kD]at h;exact⟨t,f,a,h⟩
  .simp at h
 .simp at h
theorem BK {A:Nat}{H:AH}{K:Option Code->AH->Rs}{out:Ex×AH}(h:fQ A H K=some out): ∃l H',H.h.get A=some (.loop l)/\l.state≠ .busy/\fV H A .dead=some H'/\K l.pending H'=some out:=by
 unfold fQ at h;split at h
 .rename_i l a;split at h
  .simp at h
  .rename_i hb;split at h
   .rename_i H' hp;exact⟨l,H',a,hb,hp,h⟩
   .simp at h
 .simp at h
theorem zAL {env:Env}{H:AH}{id:Nat}{out:Ex×AH} : ∀ {j:List (Nat×List Nat)},exS j env H id=some out->XP j out id env H
 | [],h=>by simp[exS]at h
 | (i,L)::r,h=>by
  simp only[exS,zF,zY]at h;split at h
  .rename_i e;obtain⟨vs,f,a⟩:=wG h;injection a with a
   exact⟨L,vs,by simp[uB,e],f,a.symm⟩
  .rename_i e;obtain⟨m,vs,f,a,o⟩:=zAL h;refine⟨m,vs, ?_,a,o⟩;simp only[uB,zF,zY,if_neg e];exact f
theorem zCl {env:Env} : ∀ {L:List Nat} {vs:List AV} {base:Env},PK env L vs-> ∀t,(t∈L->look (zPB L vs base) t=look env t)/\(t∉L->look (zPB L vs base) t=look base t)
 | [],vs,base,h,t=>by
  simp only[PK]at h;subst h;exact⟨fun h=>by simp at h,fun _=>rfl⟩
 | l::L,vs,base,⟨v,vs',e,hv,hp⟩,t=>by
  subst e;obtain⟨j,i⟩:=zCl (base:=upd base l v) hp t;simp only[zPB];refine⟨fun a=> ?_,fun a=> ?_⟩
  .by_cases f:t∈L
   .exact j f
   .rw[i f];have:t=l:=by
              simp at a;rcases a with h | h
              .exact h
              .exact absurd h f
    subst this;simp only[look,bC,if_true];exact hv.symm
  .simp only[zP,not_or]at a;rw[i a.2];simp only[look,bC,if_neg a.1]
theorem zOT {env:Env}{L:List Nat}{vs:List AV}(h:PK env L vs):Le (envL L vs) env:=by
 intro t x a;obtain⟨i,j⟩:=zCl (base:=uL) h t;by_cases f:t∈L
 .rw[<-i f];exact a
 .have:=j f;simp only[envL]at a;rw[this]at a;simp[look,uL]at a
theorem Rel.alloc_out {R:Ren}{H:AH}{w:World}(h:Rel R H w)(o:Obj):Rel R H (w.alloc o):=
 ⟨h.fn,h.inj,fun A b d c x r a=>by rw[heap_alloc_old _ _ _ (h.lt _ _ _ _ r).1];exact h.obj A b d c x r a,fun A b d c r=>by rw[kS];exact⟨Nat.lt_succ_of_lt (h.lt _ _ _ _ r).1,(h.lt _ _ _ _ r).2⟩⟩
theorem Ext.alloc_out (R:Ren)(H:AH)(w:World)(o:Obj):Ext R H w R H (w.alloc o):=
 ⟨zRe R,fun _ _ _ _ h=> .inl h,fun _ _ _ _ h=> .inl h,zQ _,fun _ _ _=>rfl,rfl,rfl,rfl,by rw[kS];omega,fun b hb _=>heap_alloc_old _ _ _ hb⟩
section
variable {P:Program}{B:Tb}{D:Dyn}(hX:Ok P B.X)(hr:Good P (rOf B D)){nt:Nat}{rs:List ResultVar}{f0:FuncId}{ro:Bool}
theorem BJ {id:Nat}{k:List Item}{fr:Frame}{cs:List Frame}{f w:World}{tmps:Array Value}{a:List Deferred}(hm:fr.mode= .run)(h:Steps P (lone fr cs f) (lone { fr with tmps:=tmps,todo:= .inBlock id::k,defers:=a} cs w)):
  Steps P (lone fr cs f) (lone { fr with tmps:=tmps,todo:=k,defers:=a} cs w):=
 h.trans (.one (U9 (fr:= { fr with tmps:=tmps,todo:= .inBlock id::k,defers:=a}) hm rfl))
theorem zJl {id:Nat}{k k':List Item}{fr:Frame}{cs:List Frame}{f w:World}{tmps:Array Value}{a:List Deferred}(hm:fr.mode= .run)(i:exitTo id k'=some k)(h:Steps P (lone fr cs f) (lone { fr with tmps:=tmps,todo:= .code (.exit id)::k',defers:=a} cs w)):
  Steps P (lone fr cs f) (lone { fr with tmps:=tmps,todo:=k,defers:=a} cs w):=
 h.trans (.one (zHa (fr:= { fr with tmps:=tmps,todo:= .code (.exit id)::k',defers:=a}) hm rfl i))
include hX hr in
theorem KI {n:Nat} : ∀(c:Code) (h:Hint) (u:List (Nat×List Nat)) (K:Env->AH->Rs) (env:Env) (H:AH) (out:Ex×AH),kN P f0 nt c h->kF B D n nt rs f0 ro c h u K env H=some out->
  U0 P nt f0 ro (.code c) env H (fun env' H'=>K env' H'=some out) (XP u out) (RP B.X rs out):=by
 intro c
 induction c with
 | skip=>
  intro h u K env H out V o lo R fr k cs w hm S N C hL O T;simp only[kF]at o;exact⟨R,w,fr.tmps,k,fr.defers,env,H, .one (zH8 hm N),C,hL,zRh R H w,zQ _,O, .inl ⟨rfl,o⟩⟩
 | label l=>
  intro h u K env H out V o lo R fr k cs w hm S N C hL O T;simp only[kF]at o;exact⟨R,w,fr.tmps,k,fr.defers,env,H, .one (zKE hm N),C,hL,zRh R H w,zQ _,O, .inl ⟨rfl,o⟩⟩
 | region id ops draw=>
  intro h u K env H out V o;simp only[kF]at o;exact zNU hX hr o f0 ro _ _
 | seq a b iha ihb=>
  intro h u K env H out V o
  cases h with
  | s ha hb=>
   simp only[kF]at o;intro lo R fr k cs w hm S N C hL O T;refine U0.step (U8 hm N) rfl ?_;refine U0.then [.code b] (fun id k=>rfl) (iha ha u _ env H out V.1 o) (fun d5 H1 h3 lo R fr k cs w hm S N C hL O T=> ?_) lo R { fr with todo:= .code a:: .code b::k} k cs w hm S rfl C hL O T;exact ihb hb u K d5 H1 out V.2 h3 lo R fr k cs w hm S N C hL O T
  | t L m=>
   simp only[kF]at o;obtain⟨vs,hp,o⟩:=wG o;obtain⟨H',hm,i2,o⟩:=zE7 o;intro lo R fr k cs w i3 S N C hL O T;obtain⟨U,p,Y,td,W,env',i4,a1,a2,a3,a4,a5,a6,a7⟩:=V ro env vs H H' hp hm i2 lo R fr k cs w i3 S N C hL O T;rcases a7 with⟨b1,b2,rfl⟩ | ⟨i,k',b1,b2,b3⟩ | ⟨k',b1,b2⟩
   .obtain⟨g7,c1,c2⟩:=KY o b2;exact⟨U,p,Y,td,W,g7,i4,a1,a2.le c2,a3,a4,a5,a6, .inl ⟨b1,c1⟩⟩
   .exact b3.elim
   .exact b2.elim
  | _=>simp[kF]at o
 | cond c a b iha ihb=>
  intro h u K env H out V o
  cases h with
  | c L ha hb=>
   simp only[kF]at o;split at o
   .rename_i v hv;intro lo R fr k cs w hm S N C hL O T;have b8:=kJ C _ _ hv;have key: ∀(t:Bool) (cc:Code) (hh:Hint),v= .bool t->cc=(if t then a else b)->
      (∀y,kF B D n nt rs f0 ro cc hh u (fun env H=>pck L env fun vs=>some (.norm vs,H)) env H=some y->U0 P nt f0 ro (.code cc) env H (fun env' H'=>(pck L env' fun vs=>some (.norm vs,H'))=some y) (XP u y) (RP B.X rs y))->
      jn (kF B D n nt rs f0 ro cc hh u (fun env H=>pck L env fun vs=>some (.norm vs,H)) env H) (fun vs H=>unp L vs uL fun env=>K env H)=some out->
      ∃U p c0 td W env' H',Steps P (lone fr cs w) (lone { fr with tmps:=c0,todo:=td,defers:=W} cs p)/\EnvR U env' nt c0/\Rel U H' p/\Ext R H w U H' p/\H.next<=H'.next/\Marks lo U p W/\Ends k (fun env' H'=>K env' H'=some out) (XP u out) (RP B.X rs out) td env' H':=by
     intro t cc hh i5 i6 ih hj;subst i5 i6;refine U0.step (ZK hm N b8) rfl ?_
     cases hy:kF B D n nt rs f0 ro (if t then a else b) hh u (fun env H=>pck L env fun vs=>some (.norm vs,H)) env H with
     | none=>rw[hy]at hj;simp[jn]at hj
     | some y=>
      rw[hy]at hj;obtain⟨U,p,Y,td,W,env',H',a1,a2,a3,a4,a5,a6,a7⟩:=ih y hy lo R { fr with todo:= .code (if t then a else b)::k} k cs w hm S rfl C hL O T
      rcases a7 with⟨b1,b2⟩ | ⟨id,k',b1,b2,L',vs',b3,b4,b5⟩ | ⟨k',b1,b2⟩
      .obtain⟨vs,c1,c2⟩:=wG b2;injection c2 with c2;subst c2
       obtain⟨env2,d1,d2⟩:=KY hj c1;exact⟨U,p,Y,td,W,env2,H',a1,a2.le d2,a3,a4,a5,a6, .inl ⟨b1,d1⟩⟩
      .subst b5;simp only[jn,zB]at hj;exact⟨U,p,Y,td,W,env',H',a1,a2,a3,a4,a5,a6, .inr (.inl ⟨id,k',b1,b2,L',vs',b3,b4,hj.symm⟩)⟩
      .have c3:=vG b2;obtain⟨v,rfl⟩:=c3;simp only[jn,zB]at hj;subst hj;exact⟨U,p,Y,td,W,env',H',a1,a2,a3,a4,a5,a6, .inr (.inr ⟨k',b1,b2⟩)⟩
    have l6:=o
    cases v with
    | bool t=>
     cases t with
     | true=>exact key true a ha rfl rfl (fun y hy=>iha ha u _ env H y V.1 hy) o
     | false=>exact key false b hb rfl rfl (fun y hy=>ihb hb u _ env H y V.2 hy) o
    | _=>simp[cnd,jn]at o
   .simp at o
  | cl ha hb=>
   simp only[kF]at o;split at o
   .rename_i v hv;intro lo R fr k cs w hm S N C hL O T;have b8:=kJ C _ _ hv;rcases fZ o with⟨rfl,h1⟩ | ⟨rfl,h1⟩
    .refine U0.step (ZK hm N b8) rfl ?_;exact((iha ha u _ env H out V.1 h1).mono (fun _ _ h=>by simp at h) (fun _ _ _ h=>h) (fun _ _ h=>h)) lo R { fr with todo:= .code a::k} k cs w hm S rfl C hL O T
    .refine U0.step (ZK hm N b8) rfl ?_;exact ihb hb u _ env H out V.2 h1 lo R { fr with todo:= .code b::k} k cs w hm S rfl C hL O T
   .simp at o
  | cr ha hb=>
   simp only[kF]at o;split at o
   .rename_i v hv;intro lo R fr k cs w hm S N C hL O T;have b8:=kJ C _ _ hv;rcases fZ o with⟨rfl,h1⟩ | ⟨rfl,h1⟩
    .refine U0.step (ZK hm N b8) rfl ?_;exact iha ha u _ env H out V.1 h1 lo R { fr with todo:= .code a::k} k cs w hm S rfl C hL O T
    .refine U0.step (ZK hm N b8) rfl ?_;exact((ihb hb u _ env H out V.2 h1).mono (fun _ _ h=>by simp at h) (fun _ _ _ h=>h) (fun _ _ h=>h)) lo R { fr with todo:= .code b::k} k cs w hm S rfl C hL O T
   .simp at o
  | _=>simp[kF]at o
 | block id b ih=>
  intro h u K env H out V o
  cases h with
  | b L hb=>
   simp only[kF]at o;intro lo R fr k cs w hm S N C hL O T;obtain⟨y,hy,c6⟩:=zIn o;refine U0.step (K2 hm N) rfl ?_;obtain⟨U,p,Y,td,W,env',H',a1,a2,a3,a4,a5,a6,a7⟩:=ih hb _ _ env H y V hy lo R { fr with todo:= .code b:: .inBlock id::k} (.inBlock id::k) cs w hm S rfl C hL O T;rcases a7 with⟨b1,b2⟩ | ⟨i,k',b1,b2,L',vs',b3,b4,b5⟩ | ⟨k',b1,b2⟩
   .obtain⟨vs,c1,c2⟩:=wG b2;injection c2 with c2;subst c2
    rcases c6 with⟨a8,Z,J,e2⟩ | ⟨a8,Z,J,_⟩ | ⟨i,a8,Z,_,J,_⟩ | ⟨v,Z,J,_⟩
    .simp only[zU,Ex.norm.injEq]at J;obtain⟨rfl,rfl⟩:=J;obtain⟨env2,d1,d2⟩:=KY e2 c1;subst b1;exact⟨U,p,Y,k,W,env2,H',BJ (fr:= { fr with todo:= .code b:: .inBlock id::k}) hm a1,a2.le d2,a3,a4,a5,a6, .inl ⟨rfl,d1⟩⟩
    .simp at J
    .simp at J
    .simp at J
   .subst b5;by_cases hi:i=id
    .subst hi;simp only[uB,yF,zM,zB]at b3;subst b3;rcases c6 with⟨a8,Z,J,_⟩ | ⟨a8,Z,J,e2⟩ | ⟨j,a8,Z,e0,J,_⟩ | ⟨v,Z,J,_⟩
     .simp at J
     .simp only[zU,Ex.exit.injEq,true_and]at J;obtain⟨rfl,rfl⟩:=J;obtain⟨env2,d1,d2⟩:=KY e2 b4;subst b1;have i7:exitTo i k'=some k:=by rw[b2];simp[exitTo]
      exact⟨U,p,Y,k,W,env2,H',zJl (fr:= { fr with todo:= .code b:: .inBlock i::k}) hm i7 a1,a2.le d2,a3,a4,a5,a6, .inl ⟨rfl,d1⟩⟩
     .simp only[zU,Ex.exit.injEq]at J;exact absurd J.1.1.symm e0
     .simp at J
    .have e8:uB u i=some L':=by
      simp only[uB,zF,zY,if_neg (fun e=>hi (Eq.symm e))]at b3;exact b3
     have e9:exitTo i k'=exitTo i k:=by
      rw[b2];simp only[exitTo];rw[if_neg (by simpa using fun e=>hi (Eq.symm e))]
     rcases c6 with⟨a8,Z,J,_⟩ | ⟨a8,Z,J,_⟩ | ⟨j,a8,Z,e0,J,e2⟩ | ⟨v,Z,J,_⟩
     .simp at J
     .simp only[zU,Ex.exit.injEq]at J;exact absurd J.1.1 hi
     .exact⟨U,p,Y,td,W,env',H',a1,a2,a3,a4,a5,a6, .inr (.inl ⟨i,k',b1,e9,L',vs',e8,b4,e2⟩)⟩
     .simp at J
   .have c3:=vG b2;obtain⟨v,rfl⟩:=c3;rcases c6 with⟨a8,Z,J,_⟩ | ⟨a8,Z,J,_⟩ | ⟨j,a8,Z,e0,J,_⟩ | ⟨v2,Z,J,e2⟩
    .simp at J
    .simp at J
    .simp at J
    .subst e2;exact⟨U,p,Y,td,W,env',H',a1,a2,a3,a4,a5,a6, .inr (.inr ⟨k',b1,b2⟩)⟩
  | b0 hb=>
   simp only[kF]at o;intro lo R fr k cs w hm S N C hL O T;refine U0.step (K2 hm N) rfl ?_;obtain⟨U,p,Y,td,W,env',H',a1,a2,a3,a4,a5,a6,a7⟩:=ih hb _ _ env H out V o lo R { fr with todo:= .code b:: .inBlock id::k} (.inBlock id::k) cs w hm S rfl C hL O T;rcases a7 with⟨b1,b2⟩ | ⟨i,k',b1,b2,L',vs',b3,b4,b5⟩ | ⟨k',b1,b2⟩
   .subst b1;exact⟨U,p,Y,k,W,env',H',BJ (fr:= { fr with todo:= .code b:: .inBlock id::k}) hm a1,a2,a3,a4,a5,a6, .inl ⟨rfl,b2⟩⟩
   .obtain⟨hi,e8⟩:=zDj b3;have e9:exitTo i k'=exitTo i k:=by
     rw[b2];simp only[exitTo];rw[if_neg (by simpa using fun e=>hi (Eq.symm e))]
    exact⟨U,p,Y,td,W,env',H',a1,a2,a3,a4,a5,a6, .inr (.inl ⟨i,k',b1,e9,L',vs',e8,b4,b5⟩)⟩
   .exact⟨U,p,Y,td,W,env',H',a1,a2,a3,a4,a5,a6, .inr (.inr ⟨k',b1,b2⟩)⟩
  | _=>simp[kF]at o
 | loop b ih=>
  intro h u K env H out V o
  cases h with
  | l L hb=>
   simp only[kF]at o;obtain⟨i8,i9,o⟩:=wG o;have key: ∀(m:Nat) (vs:List AV) (env:Env) (H:AH),PK env L vs->jY m (fun vs H=>unp L vs uL fun env=>kF B D n nt rs f0 ro b hb u (fun env H=>pck L env fun vs=>some (.norm vs,H)) env H) vs H=some out->
     ∀(lo:Nat) (R:Ren) (fr:Frame) (k:List Item) (cs:List Frame) (w:World),fr.mode= .run->(ro=false->fr.roundOf=none/\fr.fn=f0)->fr.todo= .code b:: .inLoop b::k->EnvR R env nt fr.tmps->Rel R H w->Marks lo R w fr.defers->lo<=w.heap.size->
     ∃U p c0 td W env' H',Steps P (lone fr cs w) (lone { fr with tmps:=c0,todo:=td,defers:=W} cs p)/\EnvR U env' nt c0/\Rel U H' p/\Ext R H w U H' p/\H.next<=H'.next/\Marks lo U p W/\Ends k (fun env' H'=>K env' H'=some out) (XP u out) (RP B.X rs out) td env' H':=by
    intro m
    induction m with
    | zero=>intro vs env H _ hl;have b7:(none:Rs)=some out:=hl;simp at b7
    | succ m ihm=>
     intro vs env H hp hl lo R fr k cs w hm S N C hL O T;have b7:jn (unp L vs uL fun env=>kF B D n nt rs f0 ro b hb u (fun env H=>pck L env fun vs=>some (.norm vs,H)) env H) (jY m (fun vs H=>unp L vs uL fun env=>kF B D n nt rs f0 ro b hb u (fun env H=>pck L env fun vs=>some (.norm vs,H)) env H))=some out:=hl
     cases hy:(unp L vs uL fun env=>kF B D n nt rs f0 ro b hb u (fun env H=>pck L env fun vs=>some (.norm vs,H)) env H)with
     | none=>rw[hy]at b7;simp[jn]at b7
     | some y=>
      rw[hy]at b7;obtain⟨d5,d1,d2⟩:=KY hy hp;obtain⟨U,p,Y,td,W,env',H',a1,a2,a3,a4,a5,a6,a7⟩:=ih hb u _ d5 H y V d1 lo R fr (.inLoop b::k) cs w hm S N (C.le d2) hL O T;rcases a7 with⟨b1,b2⟩ | ⟨i,k',b1,b2,L',vs',b3,b4,b5⟩ | ⟨k',b1,b2⟩
      .obtain⟨a8,c1,c2⟩:=wG b2;injection c2 with c2;subst c2
       subst b1;have j0:jY m (fun vs H=>unp L vs uL fun env=>kF B D n nt rs f0 ro b hb u (fun env H=>pck L env fun vs=>some (.norm vs,H)) env H) a8 H'=some out:=b7;obtain⟨R2,w2,t2,j1,j2,env2,Z,J,e2,e3,e4,e5,e6,e7⟩:=ihm a8 env' H' c1 j0 lo U { fr with tmps:=Y,todo:= .code b:: .inLoop b::k,defers:=W} k cs p hm S rfl a2 a3 a6 (qP T a4.size);have g8:=Steps.one (zBm (P:=P) (cs:=cs) (w:=p) (fr:= { fr with tmps:=Y,todo:= .inLoop b::k,defers:=W}) hm rfl);exact⟨R2,w2,t2,j1,j2,env2,Z,a1.trans (g8.trans J),e2,e3,a4.trans e4,qP a5 e5,e6,e7⟩
      .subst b5;simp only[jn,zB]at b7;exact⟨U,p,Y,td,W,env',H',a1,a2,a3,a4,a5,a6, .inr (.inl ⟨i,k',b1,b2,L',vs',b3,b4,b7.symm⟩)⟩
      .have c3:=vG b2;obtain⟨v,rfl⟩:=c3;simp only[jn,zB]at b7;subst b7;exact⟨U,p,Y,td,W,env',H',a1,a2,a3,a4,a5,a6, .inr (.inr ⟨k',b1,b2⟩)⟩
   intro lo R fr k cs w hm S N C hL O T;refine U0.step (zH9 hm N) rfl ?_;exact key n i8 env H i9 o lo R { fr with todo:= .code b:: .inLoop b::k} k cs w hm S rfl C hL O T
  | _=>simp[kF]at o
 | exit id=>
  intro h u K env H out V o lo R fr k cs w hm S N C hL O T;simp only[kF]at o;split at o
  .rename_i L j3;obtain⟨vs,h1,h2⟩:=wG o;injection h2 with h2
   refine⟨R,w,fr.tmps,fr.todo,fr.defers,env,H, ?_,C,hL,zRh R H w,zQ _,O, .inr (.inl ⟨id,k,N,rfl,L,vs,j3,h1,h2.symm⟩)⟩;exact .refl _ _
  .simp at o
 | ret=>
  intro h u K env H out V o lo R fr k cs w hm S N C hL O T;simp only[kF]at o;refine⟨R,w,fr.tmps,fr.todo,fr.defers,env,H, ?_,C,hL,zRh R H w,zQ _,O, .inr (.inr ⟨k,N,o⟩)⟩;exact .refl _ _
 | rangeFunc f params assign body _ _=>
  intro h u K env H out V o
  cases h with
  | rf s L=>
   simp only[kF,zF]at o;split at o
   .simp at o
   .rename_i h4;have g9:ro=false:=by simpa using h4
    split at o
    .rename_i fv j4;obtain⟨vs,hp,o⟩:=wG o;obtain⟨Y,f4,l4,o⟩:=zBM o;obtain⟨v,Z,c7,o⟩:=hH o;obtain⟨lp,H3,f6,h0,c4,o⟩:=BK o;unfold rfC at c7;split at c7
     .rename_i g first cap _ _
      intro lo R fr k cs w hm S N C hL O T;obtain⟨c9,h5⟩:=S g9;obtain⟨j5,h6⟩:=hr.call _ _ _ _ _ c7;obtain⟨a9,b6,j6,j7,j8⟩:=kJ C _ _ j4
      let LP:Loop:= { state:= .ready,pending:=none,fn:=fr.fn,tmps:=fr.tmps,params:=params,assign:=assign,body:=body,defers:=w.heap.size}
      let W1:World:=(w.alloc (.deferred (some []))).alloc (.loop LP)
      let a0:Frame:= { fr with todo:= .inRangeFunc (w.heap.size+1)::k,defers:= { target:= .collected w.heap.size,args:= #[] } ::fr.defers}
      let R1:Ren:=R.add H.next (w.heap.size+1) 0 0
      have j9:=hL.alloc_out (.deferred (some []));have d6:(w.alloc (.deferred (some []))).heap.size=w.heap.size+1:=kS _ _;have f7:Rel R1 ⟨Y,H.next+1⟩ W1:=by
       have:=j9.new (c:=0) (x:= .loop LP) f4 ⟨LP,nt,rfl,V,rfl,rfl,h5,(C.le (zOT hp)).mono (R.sub_add _ _ _ _)⟩;rw[d6]at this;exact this
      have c5:Ext R H w R1 ⟨Y,H.next+1⟩ W1:=by
       have:=(Ext.alloc_out R H w (.deferred (some []))).trans (Ext.add (c:=0) (x:= .loop LP) f4);rw[d6]at this;exact this
      have f8:R1 H.next (w.heap.size+1) 0 0:=R.add_self _ _ _ _
      have k0:Marks lo R1 W1 a0.defers:=by
       have f9:=O.ext c5;refine⟨yM.2 ⟨fun q hq r e=> ?_,f9.1⟩,fun q hq=> ?_⟩
       .obtain⟨r',e',_,h2,_,_⟩:=O.2 q hq;rw[e'];intro e2;simp only[Deferred.mk.injEq,Target.collected.injEq,and_true]at e e2;omega
       .rcases zP.1 hq with rfl | hq
        .refine⟨w.heap.size,rfl,T, ?_, ?_, ?_⟩
         .show w.heap.size<W1.heap.size;simp only[W1,kS];omega
         .rintro A d c (h | ⟨_,h,_⟩)
          .have:=(hL.lt _ _ _ _ h).1;omega
          .omega
         .show((w.alloc (.deferred (some []))).alloc (.loop LP)).heap[w.heap.size]? =_;rw[heap_alloc_old _ _ _ (by rw[d6];omega),bL]
        .exact f9.2 q hq
      have k1:VRL R1 [AV.yieldTo H.next] [Value.func (.yield (w.heap.size+1)) #[] #[]]:=⟨_,[],rfl,⟨_,_,_,f8,rfl⟩,rfl⟩
      have f1:VRL R1 (first++[AV.yieldTo H.next]++cap) ((a9++[Value.func (.yield (w.heap.size+1)) #[] #[]])++b6):=
       ((VRL.mono c5.sub _ _ j7).append k1).append (VRL.mono c5.sub _ _ j8)
      have g0:=run_enterLoop_outer (P:=P) (w:=w) fr.fn fr.tmps params assign body;have f5: ∀F:Frame,F.tmps=fr.tmps->(resolve F.eval { callee:= .value f,args:= #[.const (.func (.yield (w.heap.size+1)) #[] #[])],argTypes:= #[] } 0).run P ((w.alloc (.deferred (some []))).alloc (.loop { state:= .ready,pending:=none,fn:=fr.fn,tmps:=fr.tmps,params:=params,assign:=assign,body:=body,defers:=w.heap.size}))=
        .ok { target:= .fn (.func g) ⟨b6⟩,args:=⟨a9++[Value.func (.yield (w.heap.size+1)) #[] #[]]⟩ } ((w.alloc (.deferred (some []))).alloc (.loop { state:= .ready,pending:=none,fn:=fr.fn,tmps:=fr.tmps,params:=params,assign:=assign,body:=body,defers:=w.heap.size})):=by
       intro F hF;have k2:F.eval f=fr.eval f:=by cases f<;>simp[Frame.eval,hF]
       have h7:F.eval f= .func (.func g) ⟨a9⟩ ⟨b6⟩:=k2.trans j6
       have k3:F.eval (.const (.func (.yield (w.heap.size+1)) #[] #[]))= .func (.yield (w.heap.size+1)) #[] #[]:=rfl;simp[resolve,h7,Deferred.ofValue,k3]
      have c8: ∀p,(invoke (.fn (.func g) ⟨b6⟩) ⟨a9++[Value.func (.yield (w.heap.size+1)) #[] #[]]⟩).run P p=(callFunc g ⟨(a9++[Value.func (.yield (w.heap.size+1)) #[] #[]])++b6⟩).run P p:=by
       intro p;have k4:(⟨a9++[Value.func (.yield (w.heap.size+1)) #[] #[]]⟩:Array Value)++⟨b6⟩=⟨(a9++[Value.func (.yield (w.heap.size+1)) #[] #[]])++b6⟩:=by
        apply Array.toList_inj.1;simp
       simp only[invoke,k4]
      have g4: ∃R2 w2 z,Steps P (lone fr cs w) (lone { a0 with todo:= .endRangeFunc (w.heap.size+1)::k} cs w2)/\VR R2 v z/\Rel R2 Z w2/\Ext R1 ⟨Y,H.next+1⟩ W1 R2 Z w2:=by
       rcases h6 with⟨⟨fn,g1,l5⟩,k5⟩ | h8
       .have d0:step P (lone fr cs w)= .next (lone (Frame.enter P g ⟨(a9++[Value.func (.yield (w.heap.size+1)) #[] #[]])++b6⟩ .normal) (a0::cs) W1):=by
         refine step_lone_go ?_;have k6:=hX.nm g fn g1;have hb:fn.body.isNone=false:=by cases hh:fn.body<;>simp_all
         have g2: ∀p,(callFunc g ⟨(a9++[Value.func (.yield (w.heap.size+1)) #[] #[]])++b6⟩).run P p= .ok (.enter g ⟨(a9++[Value.func (.yield (w.heap.size+1)) #[] #[]])++b6⟩) p:=by
          intro p;simp only[callFunc,program,zH,Sem.run,Result.andThen,g1,k6,zL,qC,hb,zO]
         simp only[stepG,stepG.exec,hm,N,c9,Sem.runT_eq,g0,stepG.apply,zH];simp only[qF,qS,if_true];simp only[qI,qF,qS]at c8 g2⊢;simp[f5,c8,g2,a0,W1,LP,hm,c9]
        obtain⟨R2,w2,z,k7,s2,f2,k8,v2,l2,x2⟩:=k5 R1 _ (a0::cs) W1 f1 f7;have g5:step P (lone k7 (a0::cs) w2)= .next (lone { a0 with todo:= .endRangeFunc (w.heap.size+1)::k} cs w2):=step_leave_returned k8
        exact⟨R2,w2,z,(Steps.one d0).trans (s2.trans (.one g5)),v2,l2,x2⟩
       .obtain⟨R2,w2,z,h9,v2,l2,x2⟩:=h8 R1 _ W1 f1 f7;have d0:step P (lone fr cs w)= .next (lone { a0 with todo:= .endRangeFunc (w.heap.size+1)::k} cs w2):=by
         refine step_lone_go ?_;have f3:(callFunc g ⟨(a9++[Value.func (.yield (w.heap.size+1)) #[] #[]])++b6⟩).run P ((w.alloc (.deferred (some []))).alloc (.loop { state:= .ready,pending:=none,fn:=fr.fn,tmps:=fr.tmps,params:=params,assign:=assign,body:=body,defers:=w.heap.size}))= .ok (.value z) w2:=h9
         simp only[stepG,stepG.exec,hm,N,c9,Sem.runT_eq,g0,stepG.apply,zH];simp only[qF,qS,if_true];simp only[qI,qF,qS]at c8 f3;simp[f5,c8,f3,a0,hm,c9,Frame.finish]
        exact⟨R2,w2,z, .one d0,v2,l2,x2⟩
      obtain⟨R2,w2,z,s2,v2,l2,x2⟩:=g4;have d7:R2 H.next (w.heap.size+1) 0 0:=x2.sub _ _ _ _ f8
      obtain⟨L2,l7,k9,_,i0,i1,_,_⟩:=l2.obj _ _ _ _ _ d7 f6;have l0:=run_endLoop (P:=P) k9 (by rw[i0];exact h0);have g6:step P (lone { a0 with todo:= .endRangeFunc (w.heap.size+1)::k} cs w2)= .next (lone { a0 with todo:=(lp.pending.map Item.code).toList++k} cs (vU w2 (w.heap.size+1) (.loop { L2 with state:= .exhausted}))):=by
       refine step_lone_go ?_;have l1:a0.mode= .run:=hm;simp only[stepG,stepG.exec,l1,Sem.runT_eq,l0,i1];simp[World.putObj,vU]
      unfold fV at c4;split at c4
      .rename_i t3 g3;simp only[zB]at c4;subst c4;have l3:=l2.put d7 ⟨_,f6,trivial⟩ g3 (x:= .loop { L2 with state:= .exhausted}) (o':= .dead) trivial;have x3:Ext R2 Z w2 R2 ⟨t3,Z.next⟩ (vU w2 (w.heap.size+1) (.loop { L2 with state:= .exhausted})):=Ext.put d7 g3
       have d8:=c5.trans (x2.trans x3);have d3:=(k0.ext x2).ext x3;have d4:EnvR R2 env nt fr.tmps:=C.mono (c5.sub.trans x2.sub);have b9:=s2.trans (Steps.one g6);have d9:H.next<=Z.next:=qP (Nat.le_succ _) j5
       unfold zEG at o;split at o
       .rename_i hj;rw[hj]at b9;exact⟨R2,_,fr.tmps,k,a0.defers,env,_,b9,d4,l3,d8,d9,d3, .inl ⟨rfl,o⟩⟩
       .rename_i id hj;rw[hj]at b9;exact⟨R2,_,fr.tmps, .code (.exit id)::k,a0.defers,env,_,b9,d4,l3,d8,d9,d3, .inr (.inl ⟨id,k,rfl,rfl,zAL o⟩)⟩
       .rename_i hj;rw[hj]at b9;exact⟨R2,_,fr.tmps, .code .ret::k,a0.defers,env,_,b9,d4,l3,d8,d9,d3, .inr (.inr ⟨k,rfl,o⟩)⟩
       .simp at o
      .simp at c4
     .simp at c7
    .simp at o
  | _=>simp[kF]at o
 | scope b _=>intro h u K env H out V o;simp[kF]at o
 | goto l=>intro h u K env H out V o;simp[kF]at o
 | refuse why=>intro h u K env H out V o;simp[kF]at o
end
theorem Rel.wput_out {R:Ren}{H:AH}{w:World}(h:Rel R H w){r:Nat}{x:Obj}(hr: ∀A d c,¬R A r d c):Rel R H (vU w r x):=
 ⟨h.fn,h.inj,fun A b d c o a f=>by
  rw[v8 _ _ _ _ (fun e=>by subst e;exact hr _ _ _ a)];exact h.obj A b d c o a f,
  fun A b d c a=>by rw[vD];exact h.lt A b d c a⟩
theorem Ext.wput_above {R f:Ren}{H H':AH}{a w:World}(h:Ext R H a f H' w){r:Nat}(x:Obj)(hr:a.heap.size<=r):Ext R H a f H' (vU w r x) where
 sub:=h.sub
 new:=h.new
 newA:=h.newA
 next:=h.next
 keepA:=h.keepA
 os:=h.os
 tape:=h.tape
 output:=h.output
 size:=by rw[vD];exact h.size
 keep b hb hR:=by rw[v8 _ _ _ _ (by omega)];exact h.keep b hb hR
theorem JA {P:Program}{h:World}{j:Ren}{H0:AH}{cs:List Frame} : ∀(a:List Deferred) (fr:Frame) (w:World) (R:Ren) (H:AH),fr.mode= .returning->fr.defers=a->Marks h.heap.size R w a->Rel R H w->Ext j H0 h R H w->
  ∃f,Steps P (lone fr cs w) (lone { fr with defers:=[] } cs f)/\Rel R H f/\Ext j H0 h R H f
 | [],fr,w,R,H,hm,hd,_,hL,hx=>⟨w,by
   have:({ fr with defers:=[] } :Frame)=fr:=by rw[<-hd]
   rw[this];exact .refl _ _,hL,hx⟩
 | d::a,fr,w,R,H,hm,hd,hM,hL,hx=>by
  obtain⟨r,rfl,u,O,v,x⟩:=hM.2 d (zK ..);have p:(Instr.takeDeferred r).run P w= .ok [] (vU w r (.deferred none)):=by
   simp[Instr.takeDeferred,getObj,setObj,zH,Sem.run,x,vU,Result.andThen]
  have o:step P (lone fr cs w)= .next (lone { fr with defers:=a} cs (vU w r (.deferred none))):=by
   refine step_lone_go ?_;simp[stepG,unwind,hm,hd,Sem.runT_eq,p]
  have s:Marks h.heap.size R (vU w r (.deferred none)) a:=by
   refine⟨(yM.1 hM.1).2,fun q m=> ?_⟩;obtain⟨i,e,y,z,C,F⟩:=hM.2 q (zC _ m);have t:i≠r:=fun J=>by subst J;exact(yM.1 hM.1).1 q m i rfl e
   exact⟨i,e,y,by rw[vD];exact z,C,by rw[v8 _ _ _ _ t];exact F⟩
  obtain⟨f,K,L,N⟩:=JA a { fr with defers:=a} (vU w r (.deferred none)) R H hm rfl s (hL.wput_out v) (hx.wput_above _ u);exact⟨f,(Steps.one o).trans K,L,N⟩
theorem zB9: ∀ {k i:Nat} {vs:List AV} {env:Env} {K:Env->Rs} {out:Ex×AH},zPm k i vs env K=some out->vs.length=k/\ ∃env',K env'=some out/\ ∀t,look env' t=if i<=t/\t<i+k then vs[t - i]? else look env t
 | 0,i,vs,env,K,out,h=>by
  simp only[zPm,nl]at h;split at h
  .exact⟨rfl,env,h,fun t=>by rw[if_neg (by omega)]⟩
  .simp at h
 | k+1,i,vs,env,K,out,h=>by
  simp only[zPm]at h;obtain⟨v,l,rfl,f⟩:=XD h;obtain⟨j,env',m,o⟩:=zB9 f;refine⟨by simp[j],env',m,fun t=> ?_⟩;rw[o t];by_cases e:t=i
  .subst e;rw[if_neg (by omega),if_pos (by omega)];simp[look,bC]
  .by_cases a:i<=t/\t<i+(k+1)
   .rw[if_pos (by omega),if_pos a,show t - i=(t - (i+1))+1 from by omega,yV]
   .rw[if_neg (by omega),if_neg a];simp[look,bC,e]
theorem zBy {X:Cx}{env:Env}{H:AH} : ∀(rs:List ResultVar) (G:List AV->Rs) (z:Ex×AH),zPs X rs env H G=some z-> ∃vs,aO X env H rs=some vs/\G vs=some z
 | [],G,z,h=>⟨[],rfl,h⟩
 | r::rs,G,z,h=>by
  simp only[zPs]at h;obtain⟨v,f,i⟩:=wH h;obtain⟨vs,j,m⟩:=zBy rs _ z i;refine⟨v::vs, ?_,m⟩;have:zDU X env H r=some v:=by
   cases r with
   | tmp t=>exact f
   | cell a t=>
    simp only[resE]at f;obtain⟨p,hp,hl⟩:=wQ f;exact Q1 hp (zAa hl)
  simp only[aO,this,j]
section
variable {P:Program}{X:Cx}(hX:Ok P X)
include hX in
theorem UE {R:Ren}{H:AH}{w:World}(hL:Rel R H w){env:Env}{nt:Nat}{i:Array Value}(m:EnvR R env nt i): ∀(rs:List ResultVar) (vs:List AV),aO X env H rs=some vs->
  ∃j:List Value,(rs.mapM (fun | .tmp t=>pure (i.getD t undef) | .cell a t=>do loadVar t (← asAddr (i.getD a undef)):ResultVar->Sem Value)).run P w= .ok j w/\VRL R vs j
 | [],vs,h=>by simp only[aO,zB]at h;subst h;exact⟨[],rfl,rfl⟩
 | r::rs,vs,h=>by
  simp only[aO]at h;split at h
  .rename_i v f;split at h
   .rename_i vs' s;simp only[zB]at h;subst h;obtain⟨j,C,F⟩:=UE hL m rs vs' s;have q: ∃z,(match r with | .tmp t=>pure (i.getD t undef) | .cell a t=>do loadVar t (← asAddr (i.getD a undef)):Sem Value).run P w= .ok z w/\VR R v z:=by
     cases r with
     | tmp t=>exact⟨_,rfl,m.get t v f⟩
     | cell a t=>
      simp only[zDU]at f;unfold b1 at f;split at f
      .rename_i p u;have hp:=m.get a p u;obtain⟨z,o,J⟩:=zFt (P:=P) hX hL f hp;refine⟨z, ?_,J⟩
       cases p with
       | ptr A off=>
        obtain⟨b,d,c,hr,e⟩:=hp;show(do loadVar t (← asAddr (i.getD a undef)):Sem Value).run P w= .ok z w
        rw[e]at o⊢;simp only[Instr.loadAt,Instr.sureAddr,zH,zO,Result.andThen]at o;simp only[asAddr,zH,zO,Result.andThen];exact o
       | _=>simp[VI]at f
      .simp at f
    obtain⟨z,x,y⟩:=q;refine⟨z::j, ?_,z,j,rfl,y,F⟩;rw[List.mapM_cons];simp only[zH,x,Result.andThen,C];rfl
   .simp at h
  .simp at h
end
theorem zNo {R:Ren}{vs:List AV}{a:List Value}(h:VRL R vs a):VR R (tupV vs) (if h:a.toArray.size=1 then a.toArray[0]else .tuple a.toArray):=by
 unfold tupV;split
 .rename_i v;obtain⟨z,m,rfl,f,i⟩:=h;simp only[VRL]at i;subst i;simpa using f
 .rename_i j;have hl:=zRb _ _ h;have: ¬a.toArray.size=1:=by
   intro f;simp only[List.size_toArray]at f;rw[hl]at f
   match vs,f with
   | [x],_=>exact j x rfl
  rw[dif_neg this];exact⟨a,rfl,h⟩
section
variable {P:Program}{B:Tb}{D:Dyn}(hr:Good P (rOf B D)){nt:Nat}{rs:List ResultVar}{f0:FuncId}{ro:Bool}
include hr in
theorem zHu {ops:Array Oper}{m:Bool}{K:Env->AH->Rs}{env:Env}{H:AH}{out:Ex×AH}(j: ∀e H',K e H'=some out->H'.next<=out.2.next)(h:zPt B D nt ops m K env H=some out):H.next<=out.2.next:=by
 unfold zPt at h;rw[zF]at h;split at h
 .split at h
  .rename_i row masks p;obtain⟨es,envF,HF,env',c1,c2,c3,f,q⟩:=u0 _ row [] env H env [] h (Le.refl env) (fun ms i=>by intro a o;simp at o);exact qP (wL hr.mono c1).1 (j _ _ f)
  .simp at h
 .obtain⟨es,envF,HF,env',c1,c2,c3,f,_⟩:=u0 _ _ [] env H env [] h (Le.refl env) (fun ms i=>by simp at i);exact qP (wL hr.mono c1).1 (j _ _ f)
theorem dT: ∀ {L:List Nat} {vs:List AV} {base:Env} {K:Env->Rs} {out:Ex×AH},unp L vs base K=some out-> ∃env',K env'=some out
 | [],vs,base,K,out,h=>⟨base,h⟩
 | l::L,vs,base,K,out,h=>by
  simp only[unp]at h;obtain⟨v,l',rfl,a⟩:=XD h;exact dT a
theorem aI {L:List Nat}{env:Env}{H:AH}{y:Ex×AH}(h:(pck L env fun vs=>some (.norm vs,H))=some y):H.next<=y.2.next:=by
 obtain⟨vs,_,a⟩:=wG h;injection a with a;rw[<-a];exact zQ _
include hr in
theorem J2 {n:Nat} : ∀(c:Code) (h:Hint) (o:List (Nat×List Nat)) (K:Env->AH->Rs) (env:Env) (H:AH) (out:Ex×AH),(∀e H',K e H'=some out->H'.next<=out.2.next)->kF B D n nt rs f0 ro c h o K env H=some out->H.next<=out.2.next:=by
 intro c
 induction c with
 | skip=>intro h o K env H out q j;simp only[kF]at j;exact q _ _ j
 | label l=>intro h o K env H out q j;simp only[kF]at j;exact q _ _ j
 | region id ops draw=>intro h o K env H out q j;simp only[kF]at j;exact zHu hr q j
 | seq a b iha ihb=>
  intro h o K env H out q j
  cases h with
  | s ha hb=>simp only[kF]at j;exact iha ha o _ env H out (fun e H' h=>ihb hb o K e H' out q h) j
  | t L m=>
   simp only[kF]at j;obtain⟨vs,_,j⟩:=wG j;obtain⟨H',_,T,j⟩:=zE7 j;obtain⟨env',j⟩:=dT j;exact qP T (q _ _ j)
  | _=>simp[kF]at j
 | cond c a b iha ihb=>
  intro h o K env H out q j
  cases h with
  | c L ha hb=>
   simp only[kF]at j;split at j
   .have key: ∀y,(kF B D n nt rs f0 ro a ha o (fun env H=>pck L env fun vs=>some (.norm vs,H)) env H=some y\/kF B D n nt rs f0 ro b hb o (fun env H=>pck L env fun vs=>some (.norm vs,H)) env H=some y)->H.next<=y.2.next:=by
     rintro y (p | p)
     .exact iha ha o _ env H y (fun e H' h=>aI h) p
     .exact ihb hb o _ env H y (fun e H' h=>aI h) p
    rcases zAw j with⟨vs,z,p,x⟩ | ⟨id,vs,z,p,rfl⟩ | ⟨v,z,p,rfl⟩
    .have O:=key _ (by rcases fZ p with⟨_,h⟩ | ⟨_,h⟩;exact .inl h;exact .inr h);obtain⟨env',u⟩:=dT x;exact qP O (q _ _ u)
    .exact key _ (by rcases fZ p with⟨_,h⟩ | ⟨_,h⟩;exact .inl h;exact .inr h)
    .exact key _ (by rcases fZ p with⟨_,h⟩ | ⟨_,h⟩;exact .inl h;exact .inr h)
   .simp at j
  | cl ha hb=>
   simp only[kF]at j;split at j
   .rcases fZ j with⟨_,p⟩ | ⟨_,p⟩
    .exact iha ha o _ env H out (fun _ _ h=>by simp at h) p
    .exact ihb hb o _ env H out q p
   .simp at j
  | cr ha hb=>
   simp only[kF]at j;split at j
   .rcases fZ j with⟨_,p⟩ | ⟨_,p⟩
    .exact iha ha o _ env H out q p
    .exact ihb hb o _ env H out (fun _ _ h=>by simp at h) p
   .simp at j
  | _=>simp[kF]at j
 | block id b ih=>
  intro h o K env H out q j
  cases h with
  | b L hb=>
   simp only[kF]at j;obtain⟨y,V,W⟩:=zIn j;have p:=ih hb _ _ env H y (fun e H' h=>aI h) V;rcases W with⟨vs,C,rfl,N⟩ | ⟨vs,C,rfl,N⟩ | ⟨i,vs,C,_,rfl,rfl⟩ | ⟨v,C,rfl,rfl⟩
   .obtain⟨env',u⟩:=dT N;exact qP p (q _ _ u)
   .obtain⟨env',u⟩:=dT N;exact qP p (q _ _ u)
   .exact p
   .exact p
  | b0 hb=>simp only[kF]at j;exact ih hb _ _ env H out q j
  | _=>simp[kF]at j
 | loop b ih=>
  intro h o K env H out q j
  cases h with
  | l L hb=>
   simp only[kF]at j;obtain⟨U,_,j⟩:=wG j;have key: ∀(m:Nat) (vs:List AV) (H:AH),jY m (fun vs H=>unp L vs uL fun env=>kF B D n nt rs f0 ro b hb o (fun env H=>pck L env fun vs=>some (.norm vs,H)) env H) vs H=some out->H.next<=out.2.next:=by
    intro m
    induction m with
    | zero=>intro vs H hl;have J:(none:Rs)=some out:=hl;simp at J
    | succ m ihm=>
     intro vs H hl;have J:jn (unp L vs uL fun env=>kF B D n nt rs f0 ro b hb o (fun env H=>pck L env fun vs=>some (.norm vs,H)) env H) (jY m (fun vs H=>unp L vs uL fun env=>kF B D n nt rs f0 ro b hb o (fun env H=>pck L env fun vs=>some (.norm vs,H)) env H))=some out:=hl;rcases zAw J with⟨vs,z,p,x⟩ | ⟨id,vs,z,p,rfl⟩ | ⟨v,z,p,rfl⟩
     .obtain⟨env',u⟩:=dT p;exact qP (ih hb o _ env' H _ (fun e H' h=>aI h) u) (ihm vs z x)
     .obtain⟨env',u⟩:=dT p;exact ih hb o _ env' H _ (fun e H' h=>aI h) u
     .obtain⟨env',u⟩:=dT p;exact ih hb o _ env' H _ (fun e H' h=>aI h) u
   exact key n U H j
  | _=>simp[kF]at j
 | exit id=>
  intro h o K env H out q j;simp only[kF]at j;split at j
  .obtain⟨vs,_,x⟩:=wG j;injection x with x;rw[<-x];exact zQ _
  .simp at j
 | ret=>
  intro h o K env H out q j;simp only[kF]at j;obtain⟨v,e⟩:=vG j;rw[e];exact zQ _
 | rangeFunc f params assign body _ _=>
  intro h o K env H out q j
  cases h with
  | rf s L=>
   simp only[kF,zF]at j;split at j
   .simp at j
   .split at j
    .obtain⟨vs,_,j⟩:=wG j;obtain⟨t',_,_,j⟩:=zBM j;obtain⟨v,C,F,j⟩:=hH j;obtain⟨lp,Y,Z,_,S,j⟩:=BK j;have p:H.next+1<=C.next:=by
      unfold rfC at F;split at F
      .exact(hr.call _ _ _ _ _ F).1
      .simp at F
     have x:=xB S;have O:Y.next<=out.2.next:=by
      unfold zEG at j;split at j
      .exact q _ _ j
      .obtain⟨L',vs',_,_,e⟩:=zAL j;rw[e];exact zQ _
      .obtain⟨v,e⟩:=vG j;rw[e];exact zQ _
      .simp at j
     omega
    .simp at j
  | _=>simp[kF]at j
 | scope b _=>intro h o K env H out _ j;simp[kF]at j
 | goto l=>intro h o K env H out _ j;simp[kF]at j
 | refuse why=>intro h o K env H out _ j;simp[kF]at j
end
section
variable {P:Program}{B:Tb}{D:Dyn}(hX:Ok P B.X)(hr:Good P (rOf B D))
include hX hr in
theorem zIC {f:FuncId}{i:Func}(o:P.funcs[f]? =some i){n:Nat}{m:Hint}(a0: ∀body,i.body=some body->kN P f i.ntmps body m){args:List AV}{H H':AH}{v:AV}(h:zPy B D n f i m args H=some (v,H')):H.next<=H'.next/\zPj P f args H v H':=by
 unfold zPy at h;split at h
 .rename_i body y;rw[zF]at h;split at h
  .rename_i a5;rw[qV]at a5;unfold dH at h;split at h
   .rename_i K q hc;simp only[zB,zU]at h;obtain⟨rfl,rfl⟩:=h;obtain⟨b5,env,N,J⟩:=zB9 hc;have hS:=KI hX hr body m [] _ env H _ (a0 body y) N;have a1: ∀(R:Ren) (az:List Value) (cs:List Frame) (w:World),VRL R args az->Rel R H w->H.next<=q.next/\
      ∃C s z a,Steps P (lone (Frame.enter P f ⟨az⟩ .normal) cs w) (lone a cs s)/\a.fn=f/\a.leaving P s (.returned z)/\VR C K z/\Rel C q s/\Ext R H w C q s:=by
     intro R az cs w u hL;have b6:=zRb _ _ u;have hE:EnvR R env i.ntmps (Frame.enter P f ⟨az⟩ .normal).tmps:=by
      have a6:(Frame.enter P f ⟨az⟩ .normal).tmps=(⟨az⟩:Array Value)++Array.replicate (i.ntmps - az.length) undef:=by
       simp[Frame.enter,o]
      rw[a6];refine⟨by simp;omega,fun t x j=> ?_,fun t ht=> ?_⟩
      .rw[J t]at j;split at j
       .rename_i b7;rw[jD]at j;obtain⟨z,a7,a8⟩:=VRL.get _ _ u t x j;have a9:t<az.length:=by omega
        rw[y5,Array.getElem?_append_left (by simpa using a9)];have:(⟨az⟩:Array Value)[t]? =some z:=by simpa using a7
        rw[this];exact a8
       .simp[look,uL]at j
      .rw[J t,if_neg (by omega)];rfl
     have b0:(Frame.enter P f ⟨az⟩ .normal).todo= .code body::[]:=by simp[Frame.enter,o,y]
     obtain⟨O,S,F,b8,p,a2,T,U,e1,l1,x1,n1,m1,o1⟩:=hS w.heap.size R (Frame.enter P f ⟨az⟩ .normal) [] cs w rfl (fun _=>⟨rfl,rfl⟩) b0 hE hL (Marks.nil _ _ _) (zQ _);have a3: ∃a:Frame,Steps P (lone (Frame.enter P f ⟨az⟩ .normal) cs w) (lone a cs S)/\a.fn=f/\a.mode= .returning/\a.defers=p/\a.kind= .normal/\a.tmps=F/\zKO B.X i.results.toList a2 T=some (.ret K,q):=by
      rcases o1 with⟨rfl,b2⟩ | ⟨id,k',b1,b2,L,vs,b3,_⟩ | ⟨k',rfl,b2⟩
      .exact⟨_,U.trans (.one (zPW (fr:= { Frame.enter P f ⟨az⟩ .normal with tmps:=F,todo:=[],defers:=p}) rfl rfl rfl)),rfl,rfl,rfl,rfl,rfl,b2⟩
      .simp[uB]at b3
      .exact⟨_,U.trans (.one (zPV (fr:= { Frame.enter P f ⟨az⟩ .normal with tmps:=F,todo:= .code .ret::k',defers:=p}) rfl rfl rfl)),rfl,rfl,rfl,rfl,rfl,b2⟩
     obtain⟨a,hs,V,W,f3,f4,f5,a4⟩:=a3;obtain⟨vs,b4,Y⟩:=zBy _ _ _ a4;simp only[zB,zU,Ex.ret.injEq]at Y;obtain⟨rfl,rfl⟩:=Y;obtain⟨w2,u1,Z,u3⟩:=JA (P:=P) (cs:=cs) p a S O T W f3 m1 l1 x1;obtain⟨zs,z1,z2⟩:=UE hX Z e1 _ _ b4;refine⟨n1,O,w2,_, { a with defers:=[] },hs.trans u1,V,⟨W,rfl,f4,i,by rw[V];exact o, ?_⟩,zNo z2,Z,u3⟩;simp only[f5,results,Array.mapM_eq_mapM_toList,zH,Sem.run_map]
     erw[z1]
     rfl
    refine⟨?_,⟨i,o,by simp[y]⟩,fun R az cs w u hL=>(a1 R az cs w u hL).2⟩;exact J2 hr body m [] _ env H _ (fun e H' hh=>by obtain⟨v,e⟩:=vG hh;rw[e];exact zQ _) N
   .simp at h
  .simp at h
 .simp at h
include hX hr in
end
theorem zGJ {L:List Nat}{vs:List AV}{base:Env}{K:Env->Rs}{out:Ex×AH}(h:unp L vs base K=some out):K (zPB L vs base)=some out:=by
 induction L generalizing vs base with
 | nil=>cases vs<;>exact h
 | cons l L ih=>
  simp only[unp]at h;obtain⟨v,l',rfl,a⟩:=XD h;exact ih a
theorem zGK {nt:Nat}{R:Ren} : ∀ {i:List Nat} {az:List AV} {env:Env} {K:Env->Rs} {out:Ex×AH} {vs:List Value} {f:Array Value},zKv nt i az env K=some out->VRL R az vs->EnvR R env nt f->
  vs.length=i.length/\ ∃env',K env'=some out/\EnvR R env' nt ((i.zip vs).foldl (fun f (x:Nat×Value)=>f.setIfInBounds x.1 x.2) f)
 | [],az,env,K,out,vs,f,h,hv,hE=>by
  simp only[zKv,nl]at h;split at h
  .simp only[VRL]at hv;subst hv;exact⟨rfl,env,h,hE⟩
  .simp at h
 | p::i,az,env,K,out,vs,f,h,hv,hE=>by
  simp only[zKv]at h;obtain⟨a,z,rfl,j⟩:=XD h;obtain⟨v,vs',rfl,q,s⟩:=hv;rw[zF]at j;split at j
  .rename_i m;have o:EnvR R (upd env p a) nt (f.setIfInBounds p v):=hE.put (dst:=some p) q (by simp only[VP,m,zM]);obtain⟨t,env',u,y⟩:=zGK j s o;exact⟨by simp[t],env',u,y⟩
  .simp at j
theorem zE4 {nt:Nat} : ∀ {i:List Nat} {az:List AV} {env:Env} {K:Env->Rs} {out:Ex×AH},zKv nt i az env K=some out-> ∃env',K env'=some out
 | [],az,env,K,out,h=>by
  simp only[zKv,nl]at h;split at h
  .exact⟨env,h⟩
  .simp at h
 | p::i,az,env,K,out,h=>by
  simp only[zKv]at h;obtain⟨a,j,rfl,f⟩:=XD h;rw[zF]at f;split at f
  .exact zE4 f
  .simp at f
theorem VE {A:Nat}{H:AH}{K:AH->Rs}{out:Ex×AH}(h:uM A H K=some out): ∃l H',H.h.get A=some (.loop l)/\l.state= .ready/\fV H A (.loop { l with state:= .busy})=some H'/\K H'=some out:=by
 unfold uM at h;split at h
 .rename_i l a;split at h
  .rename_i f;split at h
   .rename_i H' hp;exact⟨l,H',a,f,hp,h⟩
   .simp at h
  .simp at h
 .simp at h
def stOf:Option Code->LoopState
 | none=> .ready
 | some _=> .done
theorem zCm {A:Nat}{j:Option Code}{H H':AH}{v:AV}(h:YE A j H=some (v,H')): ∃l,H.h.get A=some (.loop l)/\fV H A (.loop { l with state:=stOf j,pending:=j})=some H'/\v= .bool j.isNone:=by
 unfold YE at h;split at h
 .rename_i l a;split at h
  .split at h
   .rename_i f hp;simp only[zB,zU]at h;obtain⟨rfl,rfl⟩:=h;exact⟨l,a,hp,rfl⟩
   .simp at h
  .split at h
   .rename_i f hp;simp only[zB,zU]at h;obtain⟨rfl,rfl⟩:=h;exact⟨l,a,hp,rfl⟩
   .simp at h
 .simp at h
def Leaves (a:List Item):Option Code->Prop
 | none=>a=[]
 | some (.exit id)=> ∃k,a= .code (.exit id)::k/\exitTo id k=none
 | some .ret=> ∃k,a= .code .ret::k
 | some _=>False
theorem zFZ {P:Program}{F fr:Frame}{cs:List Frame}{w h:World}{b:Nat}{j:Option Code}{v:Value}(hm:F.mode= .run)(f:F.kind= .normal)(hb:F.roundOf=some b)(a:Leaves F.todo j)(hr:(Instr.endRound b j).run P w= .ok v h):
  Go.step P (lone F (fr::cs) w)= .next (lone (fr.finish v) cs h):=by
 refine step_lone_go ?_
 cases j with
 | none=>
  simp only[Leaves]at a;simp[stepG,stepG.exec,hm,a,hb,Sem.runT_eq,hr,doReturn,f]
 | some c=>
  cases c<;>simp only[Leaves]at a
  .obtain⟨k,a,i⟩:=a;simp[stepG,stepG.exec,hm,a,hb,i,Sem.runT_eq,hr,doReturn,f]
  .obtain⟨k,a⟩:=a;simp[stepG,stepG.exec,hm,a,hb,Sem.runT_eq,hr,doReturn,f]
section
variable {P:Program}{B:Tb}{D:Dyn}(hX:Ok P B.X)(hr:Good P (rOf B D))
theorem Rel.loopAt {R:Ren}{H:AH}{w:World}(h:Rel R H w){A b d c:Nat}{l:ALoop}(a:H.h.get A=some (.loop l))(hR:R A b d c):
  ∃(L:Loop) (nt:Nat),w.heap[b]? =some (.loop L)/\zAg l.fn l.site=some (nt,L.params,L.assign,L.body)/\L.state=l.state/\L.pending=l.pending/\L.fn=l.fn/\EnvR R (envL l.live l.vals) nt L.tmps:=h.obj A b d c _ hR a
theorem Rel.loopPut {R:Ren}{H H':AH}{w:World}(h:Rel R H w){A b d c:Nat}{l:ALoop}(j:H.h.get A=some (.loop l))(hR:R A b d c){st:LoopState}{f:Option Code}(hp:fV H A (.loop { l with state:=st,pending:=f})=some H'){L:Loop}(hb:w.heap[b]? =some (.loop L)):
  Rel R H' (vU w b (.loop { L with state:=st,pending:=f}))/\Ext R H w R H' (vU w b (.loop { L with state:=st,pending:=f})):=by
 obtain⟨q,nt,a,m,s,t,o,p⟩:=h.loopAt j hR;rw[hb]at a;injection a with a;injection a with a;subst a
 unfold fV at hp;split at hp
 .rename_i u i;simp only[zB]at hp;subst hp;exact⟨h.put hR ⟨_,j,trivial⟩ i ⟨_,nt,rfl,m,rfl,rfl,o,p⟩,Ext.put hR i⟩
 .simp at hp
theorem zJn {A:Nat}{x:Rs}{v:AV}{H':AH}(h:zN7 A x=some (v,H')): ∃y,x=some y/\((∃vs,y.1= .norm vs/\YE A none y.2=some (v,H'))\/(∃id vs,y.1= .exit id vs/\YE A (some (.exit id)) y.2=some (v,H'))\/(∃u,y.1= .ret u/\YE A (some .ret) y.2=some (v,H'))):=by
 unfold zN7 at h;split at h
 .exact⟨_,rfl, .inl ⟨_,rfl,h⟩⟩
 .exact⟨_,rfl, .inr (.inl ⟨_,_,rfl,h⟩)⟩
 .exact⟨_,rfl, .inr (.inr ⟨_,rfl,h⟩)⟩
 .simp at h
theorem zJm {A:Nat}{j:Option Code}{H H':AH}{v:AV}(h:YE A j H=some (v,H')):H'.next=H.next:=by
 obtain⟨l,_,hp,_⟩:=zCm h;exact xB hp
include hX hr in
theorem zNQ {n:Nat}{f0:FuncId}{s:Nat}{L d6:List Nat}{K hb:Hint}(b8: ∀nt o f body,zAg f0 s=some (nt,o,f,body)->kN P f0 nt f K/\kN P f0 nt body hb){A:Nat}{l:ALoop}{az:List AV}{H H':AH}{v:AV}
  (hA:H.h.get A=some (.loop l)) (hf:l.fn=f0) (hs:l.site=s) (h:zKk B D n f0 s L d6 K hb A l az H=some (v,H')):zCU P A az H v H':=by
 unfold zKk at h;split at h
 .rename_i nt o f body a4;obtain⟨d7,d8⟩:=b8 _ _ _ _ a4;unfold rdK at h;rw[zF]at h;split at h
  .rename_i d9;obtain rfl:=ZV _ _ d9;obtain⟨y,hy,C⟩:=zJn h;have c7:H.next<=H'.next:=by
    have h1:H.next<=y.2.next:=by
     have Z:=zGJ hy;obtain⟨env',e0⟩:=zE4 Z;refine J2 hr f K [] _ env' H y (fun e H1 hk=> ?_) e0;obtain⟨l1,p,_,_,hp,a0⟩:=VE hk;rw[<-xB hp];exact J2 hr body hb _ _ e p y (fun e N a1=>by injection a1 with a1;rw[<-a1];exact zQ _) a0
    rcases C with⟨vs,_,i⟩ | ⟨id,vs,_,i⟩ | ⟨u,_,i⟩<;>rw[zJm i]<;>exact h1
   refine⟨c7,fun R q fr cs w b d c a2 b9 hL=> ?_⟩;obtain⟨m,f9,e2,U,f6,f7,c8,e4⟩:=hL.loopAt hA a2;rw[hf,hs,a4]at U;simp only[zB,zU]at U;obtain⟨rfl,a7,c9,c0⟩:=U;obtain⟨d0,d1,Z,e5⟩:=zGK (zGJ hy) b9 e4;refine⟨m,e2,by rw[d0,<-a7];simp, ?_⟩;have c1:((m.params.zip q.toArray).foldl (fun tmps (t,a)=>tmps.setIfInBounds t a) m.tmps)=((o.toList.zip q).foldl (fun tmps (x:Nat×Value)=>tmps.setIfInBounds x.1 x.2) m.tmps):=by
    rw[<-a7,<-Array.foldl_toList];simp only[Array.toList_zip]
   rw[c1,c8,hf,<-c9,<-c0];have e6:=KI hX hr f K [] _ d1 H y d7 Z;obtain⟨R1,w1,t1,g0,a3,env2,H1,s1,e1,l1,O,n1,m1,o1⟩:=e6 w.heap.size R (Frame.round b f0 ((o.toList.zip q).foldl (fun tmps (x:Nat×Value)=>tmps.setIfInBounds x.1 x.2) m.tmps) f body .normal) [.beginRound, .code body] (fr::cs) w rfl (fun h=>by simp at h) rfl e5 hL (Marks.nil _ _ _) (zQ _);have J: ∀(S:Ren) (T:World) (p:AH) (F:Frame) (j:Option Code),Steps P (lone (Frame.round b f0 ((o.toList.zip q).foldl (fun tmps (x:Nat×Value)=>tmps.setIfInBounds x.1 x.2) m.tmps) f body .normal) (fr::cs) w) (lone F (fr::cs) T)->
     F.mode= .run->F.kind= .normal->F.roundOf=some b->Leaves F.todo j->Rel S p T->Ext R H w S p T->YE A j p=some (v,H')->
     ∃R' w' z,Steps P (lone (Frame.round b f0 ((o.toList.zip q).foldl (fun tmps (x:Nat×Value)=>tmps.setIfInBounds x.1 x.2) m.tmps) f body .normal) (fr::cs) w) (lone (fr.finish z) cs w')/\VR R' v z/\Rel R' H' w'/\Ext R H w R' H' w':=by
    intro S T p F j e7 hm hk e8 e9 a8 a9 d2;obtain⟨l2,b0,f1,rfl⟩:=zCm d2;have a5:=a9.sub _ _ _ _ a2;obtain⟨L2,_,b4,_⟩:=a8.loopAt b0 a5;obtain⟨f2,f3⟩:=a8.loopPut b0 a5 f1 b4;have V:=run_endRound (P:=P) j b4;refine⟨S,_,_,e7.trans (.one (zFZ hm hk e8 e9 V)),rfl, ?_, ?_⟩
    .have:(if j.isNone=true then LoopState.ready else LoopState.done)=stOf j:=by cases j<;>rfl
     rw[this];exact f2
    .have:(if j.isNone=true then LoopState.ready else LoopState.done)=stOf j:=by cases j<;>rfl
     rw[this];exact a9.trans f3
   rcases o1 with⟨rfl,b2⟩ | ⟨id,k',b1,b2,L',vs,b3,_⟩ | ⟨k',rfl,b2⟩
   .obtain⟨lp,p,b5,d3,hp,a0⟩:=VE b2;have a6:=O.sub _ _ _ _ a2;obtain⟨L1,_,b6,_,d4,d5,_,_⟩:=l1.loopAt b5 a6;have f4:fV H1 A (.loop { lp with state:= .busy,pending:=lp.pending})=some p:=hp;obtain⟨l2,x2⟩:=l1.loopPut b5 a6 f4 b6;rw[<-d5]at l2 x2;have V:=run_beginRound (P:=P) b6 (by rw[d4];exact d3);have c6:Go.step P (lone { (Frame.round b f0 ((o.toList.zip q).foldl (fun tmps (x:Nat×Value)=>tmps.setIfInBounds x.1 x.2) m.tmps) f body .normal)with tmps:=t1,todo:=[.beginRound, .code body],defers:=a3} (fr::cs) w1)=
      .next (lone { (Frame.round b f0 ((o.toList.zip q).foldl (fun tmps (x:Nat×Value)=>tmps.setIfInBounds x.1 x.2) m.tmps) f body .normal)with tmps:=t1,todo:=[.code body],defers:=a3} (fr::cs) (vU w1 b (.loop { L1 with state:= .busy,pending:=L1.pending}))):=by
     refine step_lone_go ?_;simp[stepG,stepG.exec,stepG.apply,Frame.round,Sem.runT_eq,zH,V,Frame.finish,World.putObj,vU]
    have f5:=KI hX hr body hb _ _ env2 p y d8 a0;obtain⟨R3,w3,t3,g1,g2,f8,N,s3,e3,l3,x3,n3,m3,o3⟩:=f5 w.heap.size R1 { (Frame.round b f0 ((o.toList.zip q).foldl (fun tmps (x:Nat×Value)=>tmps.setIfInBounds x.1 x.2) m.tmps) f body .normal)with tmps:=t1,todo:=[.code body],defers:=a3} [] (fr::cs) _ rfl (fun h=>by simp at h) rfl e1 l2 (m1.ext x2) (by rw[vD];exact O.size);have W:=s1.trans ((Steps.one c6).trans s3);have Y:=O.trans (x2.trans x3);rcases o3 with⟨rfl,c2⟩ | ⟨id,k',rfl,c2,L',vs,c3,c4,c5⟩ | ⟨k',rfl,c2⟩
    .injection c2 with c2;subst c2
     rcases C with⟨vs,_,i⟩ | ⟨id,vs,e,_⟩ | ⟨u,e,_⟩
     .exact J R3 w3 N _ none W rfl rfl rfl rfl l3 Y i
     .simp at e
     .simp at e
    .subst c5;rcases C with⟨vs,e,_⟩ | ⟨b7,vs',e,i⟩ | ⟨u,e,_⟩
     .simp at e
     .simp only[Ex.exit.injEq]at e;obtain⟨rfl,rfl⟩:=e;exact J R3 w3 N _ (some (.exit id)) W rfl rfl rfl ⟨k',rfl,by rw[c2];rfl⟩ l3 Y i
     .simp at e
    .obtain⟨u,e⟩:=vG c2;subst e;rcases C with⟨vs,e,_⟩ | ⟨b7,vs',e,_⟩ | ⟨u,e,i⟩
     .simp at e
     .simp at e
     .exact J R3 w3 N _ (some .ret) W rfl rfl rfl ⟨k',rfl⟩ l3 Y i
   .simp[uB]at b3
   .obtain⟨u,e⟩:=vG b2;subst e;rcases C with⟨vs,e,_⟩ | ⟨b7,vs',e,_⟩ | ⟨u,e,i⟩
    .simp at e
    .simp at e
    .exact J R1 w1 H1 _ (some .ret) s1 rfl rfl rfl ⟨k',rfl⟩ l1 O i
  .simp at h
 .simp at h
end
theorem zDn {α:Type}(l:List α)(m:Nat)(x:α)(h:((T.ofList 0 l .leaf).getD .leaf).get m=some x):l[m]? =some x:=by
 cases hl:T.ofList 0 l .leaf with
 | none=>rw[hl]at h;simp[T.get_leaf]at h
 | some t=>
  rw[hl]at h;simp only[qZ]at h;rw[T.get_ofList l 0 .leaf t hl m]at h;split at h
  .simpa using h
  .simp[T.get_leaf]at h
def named (P:Program):Bool:=P.funcs.toList.all fun g=> !(g.name== "runtime.NumGoroutine")
def zQB (P:Program)(fl:List (TypeId×List Nat)):Bool:=fl.all fun x=>(dK P P.depth x.1==some x.2)&&xC P x.1&&Nat.ble P.depth 10000
theorem cx_ok {P:Program}{fl:List (TypeId×List Nat)}(h:named P=true)(a:zQB P fl=true):Ok P ⟨(T.ofList 0 P.types.toList .leaf).getD .leaf,fl⟩:=by
 refine⟨fun t i m=> ?_,fun x o=> ?_,fun f g a=> ?_⟩
 .have:=zDn _ _ _ m;simp only[yS]at this;have j:t<P.types.size:=(Array.getElem?_eq_some_iff.1 this).1;unfold Tables.info?
  first
   | (rw[if_pos j];exact this)
   | (simp only[j,if_true,this];done)
   | (rw[this];done)
   | (rw[this];rfl)
   | simp_all
 .simp only[zQB,y9,zE,beq_iff_eq,qV]at a;obtain⟨⟨p,q⟩,s⟩:=a x o;exact⟨p,q,s⟩
 .simp only[named,y9,yT]at h;exact h g (by
   have:=Array.mem_of_getElem? a;simpa using this)
def VV:Hint->Bool
 | .o=>true
 | .s a b=>VV a&&VV b
 | .c _ a b=>VV a&&VV b
 | .cl a b=>VV a&&VV b
 | .cr a b=>VV a&&VV b
 | .b _ a=>VV a
 | .b0 a=>VV a
 | .l _ a=>VV a
 | .rf _ _=>false
 | .t _ _=>false
def dJ:Code->Hint->Nat->Bool
 | .seq _ _, .t _ _,_=>false
 | .seq a b, .s ha hb,k=>dJ a ha k&&dJ b hb (k+(sites a).length)
 | .cond _ a b, .c _ ha hb,k=>dJ a ha k&&dJ b hb (k+(sites a).length)
 | .cond _ a b, .cl ha hb,k=>dJ a ha k&&dJ b hb (k+(sites a).length)
 | .cond _ a b, .cr ha hb,k=>dJ a ha k&&dJ b hb (k+(sites a).length)
 | .block _ b, .b _ hb,k=>dJ b hb k
 | .block _ b, .b0 hb,k=>dJ b hb k
 | .loop b, .l _ hb,k=>dJ b hb k
 | .rangeFunc _ _ _ _, .rf s _,k=>Nat.beq s k
 | _,_,_=>true
theorem zAq {P:Program}(f0:FuncId)(nt:Nat): ∀(c:Code) (h:Hint),VV h=true->kN P f0 nt c h:=by
 intro c
 induction c with
 | seq a b iha ihb=>intro h i;cases h<;>simp_all [kN,VV]
 | cond c a b iha ihb=>intro h i;cases h<;>simp_all [kN,VV]
 | block id b ih=>intro h i;cases h<;>simp_all [kN,VV]
 | loop b ih=>intro h i;cases h<;>simp_all [kN,VV]
 | rangeFunc f ps a b _ _=>intro h i;cases h<;>simp_all [kN,VV]
 | _=>intro h i;simp[kN]
theorem zLa {P:Program}(f0:FuncId)(nt:Nat)(o:List (Array Tmp×Code×Code))(v: ∀(s:Nat) (x:Array Tmp×Code×Code),o[s]? =some x->zAg f0 s=some (nt,x)):
  ∀(c:Code) (h:Hint) (k:Nat),dJ c h k=true->(∀(j:Nat) (x:Array Tmp×Code×Code),(sites c)[j]? =some x->o[k+j]? =some x)->kN P f0 nt c h:=by
 have u: ∀(a b:Code) (k:Nat),(∀(j:Nat) (x:Array Tmp×Code×Code),(sites a++sites b)[j]? =some x->o[k+j]? =some x)->
   (∀(j:Nat) (x:Array Tmp×Code×Code),(sites a)[j]? =some x->o[k+j]? =some x)/\(∀(j:Nat) (x:Array Tmp×Code×Code),(sites b)[j]? =some x->o[k+(sites a).length+j]? =some x):=by
  intro a b k m;refine⟨fun j x p=>m j x ?_,fun j x p=> ?_⟩
  .rw[yX (qR.1 p).1];exact p
  .rw[Nat.add_assoc];refine m _ x ?_;rw[jA (by omega),show(sites a).length+j - (sites a).length=j from by omega];exact p
 intro c
 induction c with
 | seq a b iha ihb=>
  intro h k i m;obtain⟨q,t⟩:=u a b k m
  cases h<;>simp only[kN]<;>first | (simp only[dJ,zE]at i;exact⟨iha _ k i.1 q,ihb _ _ i.2 t⟩) | (simp[dJ]at i)
 | cond c a b iha ihb=>
  intro h k i m;obtain⟨q,t⟩:=u a b k m
  cases h<;>simp only[kN]<;>(simp only[dJ,zE]at i;exact⟨iha _ k i.1 q,ihb _ _ i.2 t⟩)
 | block id b ih=>
  intro h k i m
  cases h<;>simp only[kN]<;>first | exact ih _ k i m | (simp[dJ]at i)
 | loop b ih=>
  intro h k i m
  cases h<;>simp only[kN]
  exact ih _ k i m
 | rangeFunc f ps a b _ _=>
  intro h k i m
  cases h<;>simp only[kN]
  simp only[dJ,zY]at i;subst i;exact v _ _ (m 0 _ rfl)
 | _=>intro h k i m;simp[kN]
def zEh (a:Func)(h:Hint):Bool:=VV h||match a.body with
 | some b=>dJ b h 0
 | none=>true
noncomputable abbrev PP:Program:=Go.Proofs.Tryz.prog
theorem zHi {f:FuncId}{i:Func}(p:PP.funcs[f]? =some i){h:Hint}(a:zEh i h=true): ∀body,i.body=some body->kN PP f i.ntmps body h:=by
 intro body hb;simp only[zEh,yO]at a;rcases a with a | a
 .exact zAq _ _ _ _ a
 .simp only[hb]at a;refine zLa f i.ntmps (sites body) (fun s x m=> ?_) body h 0 a (fun j x m=>by rw[yW];exact m);unfold zAg;have o:Go.Proofs.Tryz.prog.funcs[f]? =some i:=p;simp only[o,hb,m]
def FS (g:FuncId)(m:List AV->AH->Option (AV×AH)):Prop:= ∀az H v H',m az H=some (v,H')->zKf PP g az H v H'
def FI (g:FuncId)(m:List AV->AH->Option (AV×AH)):Prop:= ∀az H v H',m az H=some (v,H')->H.next<=H'.next/\zPj PP g az H v H'
theorem FI.fs {g:FuncId}{m:List AV->AH->Option (AV×AH)}(h:FI g m):FS g m:=fun az H v H' e=>⟨(h az H v H' e).1, .inl (h az H v H' e).2⟩
structure DG (D:Dyn):Prop where
 fn: ∀g,FS g (D.fn g)
 yld: ∀A args H v H',D.yld A args H=some (v,H')->zCU PP A args H v H'
def SOk:List (Nat×(List AV->AH->Option (AV×AH)))->Prop
 | []=>True
 | (i,m)::S=>FS i m/\SOk S
theorem SOk.nil:SOk []:=trivial
theorem SOk.cons {i:Nat}{m:List AV->AH->Option (AV×AH)}{S:List (Nat×(List AV->AH->Option (AV×AH)))}(h:FS i m)(k:SOk S):SOk ((i,m)::S):=⟨h,k⟩
theorem zAU {D:Dyn}(a:DG D): ∀ {S:List (Nat×(List AV->AH->Option (AV×AH)))},SOk S-> ∀g,FS g (zCD S D g)
 | [],_,g=>fun az H v H' h=>a.fn g az H v H' h
 | (i,m)::S,hS,g=>fun az H v H' h=>by
  simp only[zCD,zF]at h;split at h
  .rename_i e;rw[zY]at e;subst e;exact hS.1 az H v H' h
  .exact zAU a hS.2 g az H v H' h
theorem zAB {X:Cx}{S:List (Nat×(List AV->AH->Option (AV×AH)))}{D:Dyn}(a:DG D)(i:SOk S):Good PP (rOf ⟨X,S⟩ D):=
 ⟨fun f args H v H' h=>zAU a i f args H v H' h,fun A args H v H' h=>a.yld A args H v H' h⟩
theorem zQA {X:Cx}(hX:Ok PP X){S:List (Nat×(List AV->AH->Option (AV×AH)))}{D:Dyn}(j:DG D)(o:SOk S){f:FuncId}{a:Func}(i:PP.funcs[f]? =some a){n:Nat}{h:Hint}(p:zEh a h=true){m:List AV->AH->Option (AV×AH)}(q:m=zPy ⟨X,S⟩ D n f a h):FI f m:=by
 subst q;intro az H v H' e;exact zIC hX (zAB j o) i (zHi i p) e
theorem zOt {X:Cx}(hX:Ok PP X){S:List (Nat×(List AV->AH->Option (AV×AH)))}{D:Dyn}(j:DG D)(o:SOk S){f:FuncId}{a:Func}(i:PP.funcs[f]? =some a){n:Nat}{h:Hint}(p: ∀body,a.body=some body->kN PP f a.ntmps body h){m:List AV->AH->Option (AV×AH)}(q:m=zPy ⟨X,S⟩ D n f a h):FI f m:=by
 subst q;intro az H v H' e;exact zIC hX (zAB j o) i p e
def RS (f s:Nat)(m:Nat->ALoop->List AV->AH->Option (AV×AH)):Prop:=
 ∀A l az H v H',H.h.get A=some (.loop l)->l.fn=f->l.site=s->m A l az H=some (v,H')->zCU PP A az H v H'
theorem fU {X:Cx}(hX:Ok PP X){S:List (Nat×(List AV->AH->Option (AV×AH)))}{D:Dyn}(o:DG D)(p:SOk S){f s:Nat}{n:Nat}{L i:List Nat}{h hb:Hint}(a:(VV h&&VV hb)=true){m:Nat->ALoop->List AV->AH->Option (AV×AH)}(q:m=zKk ⟨X,S⟩ D n f s L i h hb):RS f s m:=by
 subst q;intro A l az H v H' t u j e;rw[zE]at a;exact zNQ hX (zAB o p) (fun nt y x body _=>⟨zAq _ _ _ _ a.1,zAq _ _ _ _ a.2⟩) t u j e
def ROk:List ((Nat×Nat)×(Nat->ALoop->List AV->AH->Option (AV×AH)))->Prop
 | []=>True
 | ((f,s),m)::t=>RS f s m/\ROk t
theorem ROk.nil:ROk []:=trivial
theorem ROk.cons {f s:Nat}{m:Nat->ALoop->List AV->AH->Option (AV×AH)}{t:List ((Nat×Nat)×(Nat->ALoop->List AV->AH->Option (AV×AH)))}(h:RS f s m)(k:ROk t):ROk (((f,s),m)::t):=⟨h,k⟩
theorem zKQ {t:List ((Nat×Nat)×(Nat->ALoop->List AV->AH->Option (AV×AH)))}(a:ROk t){A:Nat}{az:List AV}{H H':AH}{v:AV}(h:YN t A az H=some (v,H')):zCU PP A az H v H':=by
 unfold YN at h;split at h
 .rename_i l i
  induction t with
  | nil=>simp[YN.go]at h
  | cons x t ih=>
   obtain⟨⟨f,s⟩,m⟩:=x;simp only[YN.go,zF]at h;split at h
   .rename_i e;simp only[zE,zY]at e;exact a.1 A l az H v H' i e.1.symm e.2.symm h
   .exact ih a.2 h
 .simp at h
def VZ:Dyn:=⟨fun _ _ _=>none,fun _ _ _=>none⟩
theorem zAP:DG VZ:=⟨fun _ _ _ _ _ h=>by simp[VZ]at h,fun _ _ _ _ _ h=>by simp[VZ]at h⟩
noncomputable def dyOf (tab:Dyn->Nat->List (Nat×(List AV->AH->Option (AV×AH))))(tabR:Dyn->Nat->List ((Nat×Nat)×(Nat->ALoop->List AV->AH->Option (AV×AH))))(n:Nat):Dyn:=
 Nat.rec VZ (fun m D=>⟨fun g vs H=>zCD (tab D m) VZ g vs H,YN (tabR D m)⟩) n
theorem zJr {tab:Dyn->Nat->List (Nat×(List AV->AH->Option (AV×AH)))}{tabR:Dyn->Nat->List ((Nat×Nat)×(Nat->ALoop->List AV->AH->Option (AV×AH)))}(a: ∀D n,DG D->SOk (tab D n))(f: ∀D n,DG D->ROk (tabR D n)): ∀n,DG (dyOf tab tabR n)
 | 0=>zAP
 | n+1=>by
  have h:=zJr a f n;exact⟨fun g az H v H' e=>zAU zAP (a _ n h) g az H v H' e,fun A args H v H' e=>zKQ (f _ n h) e⟩
def zNK (x:Option (AV×AH)):Bool:=match x with
 | some (.bool true,_)=>true
 | _=>false
theorem zLU {f:FuncId}{m:List AV->AH->Option (AV×AH)}(hm:FI f m)(h:zNK (m [] ⟨.leaf,0⟩)=true)(w:World):Calls PP f #[] w fun e i=>e= .returned (.bool true)/\RowKit.Below w.heap.size w i:=by
 unfold zNK at h;split at h
 .rename_i H' j;intro cs;obtain⟨_,_,j⟩:=hm _ _ _ _ j;obtain⟨v,i,z,p,q,s,t,o,x,a⟩:=j (fun _ _ _ _=>False) [] cs w rfl (Rel.empty w);simp only[VR]at o;subst o;refine⟨.returned (.bool true),i,p,⟨rfl, ?_⟩,q,s,t⟩;exact⟨a.os,a.tape,a.output,a.size,fun k u=>a.keep k u (fun _ _ _ h=>h)⟩
 .simp at h
theorem run_range_map {P:Program}{w:World}{t kt vt:TypeId}{m:Nat}{arr:Array MapEntry}{a:Nat}(f:(underlying t).run P w= .ok (.map kt vt) w)(hm:w.heap[m]? =some (.map arr a)):
  (Instr.range t (.map (some m))).run P w= .ok (.pointer (some ⟨w.heap.size,0,none⟩)) (w.alloc (.mapIter (some m) a #[] a)):=by
 simp[Instr.range,zH,f,getObj,Sem.run,hm,newObj,Result.andThen]
structure ML where
 rA:Nat
 rB:Nat
 rC:Nat
 pre:List Oper
 oR:Oper
 oN:Oper
 oX:Oper
 oE:Oper
 rest:List Oper
 id:Nat
 id2:Nat
 body:Code
 t:TypeId
 x:Operand
 it:Nat
 nx:Nat
 ok:Nat
 en:Nat
def ML.opsA (q:ML):Array Oper:=⟨q.pre++[q.oR]⟩
def ML.opsB (q:ML):Array Oper:=⟨[q.oN,q.oX]⟩
def ML.opsC (q:ML):Array Oper:=⟨q.oE::q.rest⟩
def ML.round (q:ML):Code:= .seq (.region q.rB q.opsB false) (.seq (.cond (.tmp q.ok) .skip (.exit q.id)) (.block q.id2 (.seq (.region q.rC q.opsC false) q.body)))
def ML.code (q:ML):Code:= .seq (.region q.rA q.opsA false) (.block q.id (.loop q.round))
structure ML.Fits (q:ML)(nt:Nat):Prop where
 gR:q.oR.guard=none
 pR:q.oR.op= .range q.t q.x
 dR:q.oR.dst=some q.it
 gN:q.oN.guard=none
 pN:q.oN.op= .next (.tmp q.it) false
 dN:q.oN.dst=some q.nx
 gX:q.oX.guard=none
 pX:q.oX.op= .extract (.tmp q.nx) 0
 dX:q.oX.dst=some q.ok
 gE:q.oE.guard=none
 pE:q.oE.op= .entry (.tmp q.it)
 dE:q.oE.dst=some q.en
 it:q.it<nt
 nx:q.nx<nt
 ok:q.ok<nt
 en:q.en<nt
 itnx:q.it≠q.nx
 itok:q.it≠q.ok
 iten:q.it≠q.en
 nxok:q.nx≠q.ok
noncomputable def ML.roundK (q:ML)(B:Tb)(D:Dyn)(n nt:Nat)(hb:Hint)(L:List Nat)(I:Nat)(vs:List AV)(k v:AV)(H:AH):Rs:=
 unp (q.it::L) (.ptr I 0::vs) uL fun e=>
  zEs B D nt q.opsC none (Nat.succ q.rest.length) (fun env H=>kF B D n nt [] 0 true q.body hb [] (fun env H=>pck (q.it::L) env fun vs=>some (.norm vs,H)) env H) (idx q.rest 1) [] (upd e q.en (.tuple [k,v])) H
theorem Rel.told {R:Ren}{H:AH}{w:World}(h:Rel R H w){A b d c:Nat}{o o':AObj}{f:T AObj}(hR:R A b d c)(t:H.h.get A=some o)(hl:JW H A)(m:T.set 40 H.h A o'=some f)(q:zKo R o' d c w.heap[b]?):Rel R ⟨f,H.next⟩ w:=by
 have j:=T.get_set _ _ _ _ _ m;have i: ∀a,JW ⟨f,H.next⟩ a->JW H a:=fun a ⟨p,hp,hd⟩=>by
  simp only[j]at hp;by_cases e:a=A
  .subst e;exact hl
  .rw[if_neg e]at hp;exact⟨p,hp,hd⟩
 refine⟨h.fn,fun A1 A2 b d c d' c' r s l l'=>h.inj _ _ _ _ _ _ _ r s (i _ l) (i _ l'),fun A1 b1 u c1 p r hp=> ?_,h.lt⟩;simp only[j]at hp;by_cases e:A1=A
 .subst e;rw[if_pos rfl]at hp;injection hp with hp;subst hp
  obtain⟨rfl,rfl,rfl⟩:=h.fn _ _ _ _ _ _ _ r hR;exact q
 .rw[if_neg e]at hp;exact h.obj _ _ _ _ _ r hp
section
variable {P:Program}{fr:Frame}{k:List Item}{cs:List Frame}{w:World}
theorem WD {ops:Array Oper}{i:Nat}{rest:List Nat}{o:Oper}{a d:Nat}{v:Value}{f:World}(hm:fr.mode= .run)(j:fr.todo= .inRegion ops (i::rest)::k)(m:ops[i]? =some o)
  (p:o.guard=none) (h:o.op= .next (.tmp a) false) (hd:o.dst=some d) (hr:(Instr.next (fr.tmps.getD a undef) false o.type).run P w= .ok v f):
  step P (lone fr cs w)= .next (lone { fr with tmps:=fr.tmps.setIfInBounds d v,todo:= .inRegion ops rest::k} cs f):=by
 have q:(execOp fr.eval o).run P w= .ok (.value v) f:=by
  have s:fr.eval (.tmp a)=fr.tmps.getD a undef:=rfl;simp only[execOp,h,s,zH,hr,Result.andThen_ok];rfl
 have t:=uP (cs:=cs) hm j m (by simp[Region.wanted,p]) (by intro c;rw[h];simp) q;rw[t,kE j m,hd];rfl
theorem zBn {ops:Array Oper}{i:Nat}{rest:List Nat}{o:Oper}{a d:Nat}{v:Value}{f:World}(hm:fr.mode= .run)(j:fr.todo= .inRegion ops (i::rest)::k)(m:ops[i]? =some o)
  (p:o.guard=none) (h:o.op= .entry (.tmp a)) (hd:o.dst=some d) (hr:(Instr.entry (fr.tmps.getD a undef)).run P w= .ok v f):
  step P (lone fr cs w)= .next (lone { fr with tmps:=fr.tmps.setIfInBounds d v,todo:= .inRegion ops rest::k} cs f):=by
 have q:(execOp fr.eval o).run P w= .ok (.value v) f:=by
  have s:fr.eval (.tmp a)=fr.tmps.getD a undef:=rfl;simp only[execOp,h,s,zH,hr,Result.andThen_ok];rfl
 have t:=uP (cs:=cs) hm j m (by simp[Region.wanted,p]) (by intro c;rw[h];simp) q;rw[t,kE j m,hd];rfl
theorem zBl {ops:Array Oper}{i:Nat}{rest:List Nat}{o:Oper}{t:TypeId}{x:Operand}{d:Nat}{v:Value}{a:World}(hm:fr.mode= .run)(h:fr.todo= .inRegion ops (i::rest)::k)(j:ops[i]? =some o)
  (m:o.guard=none) (f:o.op= .range t x) (hd:o.dst=some d) (hr:(Instr.range t (fr.eval x)).run P w= .ok v a):
  step P (lone fr cs w)= .next (lone { fr with tmps:=fr.tmps.setIfInBounds d v,todo:= .inRegion ops rest::k} cs a):=by
 have p:(execOp fr.eval o).run P w= .ok (.value v) a:=by
  simp[execOp,f,zH,hr,Result.andThen]
 have q:=uP (cs:=cs) hm h j (by simp[Region.wanted,m]) (by intro c;rw[f];simp) p;rw[q,kE h j,hd];rfl
theorem UA {ops:Array Oper}{i:Nat}{rest:List Nat}{o:Oper}{f d j:Nat}{v:Value}{a:Array Value}(hm:fr.mode= .run)(m:fr.todo= .inRegion ops (i::rest)::k)(p:ops[i]? =some o)
  (q:o.guard=none) (h:o.op= .extract (.tmp f) j) (hd:o.dst=some d) (hr:fr.tmps.getD f undef= .tuple a) (s:a[j]? =some v):
  step P (lone fr cs w)= .next (lone { fr with tmps:=fr.tmps.setIfInBounds d v,todo:= .inRegion ops rest::k} cs w):=by
 have t:(execOp fr.eval o).run P w= .ok (.value v) w:=by
  have u:fr.eval (.tmp f)= .tuple a:=hr;simp[execOp,h,u,s,Instr.extract,zH,Result.andThen]
 have x:=uP (cs:=cs) hm m p (by simp[Region.wanted,q]) (by intro c;rw[h];simp) t;rw[x,kE m p,hd];rfl
end
theorem EnvR.slot {R:Ren}{env:Env}{n:Nat}{f:Array Value}(h:EnvR R env n f){d:Nat}(hd:d<n)(z:Value):EnvR R (fun t=>bif Nat.beq t d then none else env t) n (f.setIfInBounds d z):=by
 refine⟨by rw[Array.size_setIfInBounds];exact h.size,fun t x a=> ?_,fun t j=> ?_⟩
 .simp only[look,zF,zY]at a;split at a
  .simp at a
  .rename_i i;have:=h.get t x a;rw[y5,Array.getElem?_setIfInBounds_ne (fun e=>i e.symm),<-y5];exact this
 .simp only[look,zF];split
  .rfl
  .exact h.out t j
structure AtHead (q:ML)(nt:Nat)(L:List Nat)(I M r m:Nat)(vs:List AV)(arr:Array MapEntry)(clock:Nat)(seen:Array Nat)(R:Ren)(H:AH)(tmps:Array Value)(w:World):Prop where
 rel:Rel R H w
 env: ∃e,PK e (q.it::L) (.ptr I 0::vs)/\EnvR R e nt tmps
 ri:R I r 0 0
 rm: ∃d c,R M m d c
 gi:H.h.get I=some (.raw (.mapIter (some m) clock seen clock))
 gm:H.h.get M=some (.raw (.map arr clock))
 bo:zDX arr.toList clock
theorem J9 {e:Env}{d:Nat} : ∀ {L:List Nat} {vs:List AV},PK e L vs->(∀l∈L,l≠d)->PK (fun t=>bif Nat.beq t d then none else e t) L vs
 | [],vs,h,_=>h
 | l::L,vs,⟨v,vs',h1,h2,h3⟩,hd=>by
  refine⟨v,vs',h1, ?_,J9 h3 (fun x a=>hd x (zC _ a))⟩;have:=hd l (zK ..);simp only[look,zF,zY,if_neg this];exact h2
theorem vM (t:Array Value)(d:Nat)(z:Value)(h:d<t.size):(t.setIfInBounds d z).getD d undef=z:=by
 rw[y5,Array.getElem?_setIfInBounds_self_of_lt h];rfl
theorem getD_set_ne (t:Array Value)(d j:Nat)(z:Value)(h:d≠j):(t.setIfInBounds d z).getD j undef=t.getD j undef:=by
 rw[y5,Array.getElem?_setIfInBounds_ne h,<-y5]
theorem zC2 {P:Program}{q:ML}{nt:Nat}(f:q.Fits nt){L:List Nat}(s: ∀l∈q.it::L,l≠q.nx/\l≠q.ok/\l≠q.en){I M r m:Nat}{vs:List AV}{arr:Array MapEntry}{i:Nat}{j:Array Nat}{R:Ren}{H:AH}{fr:Frame}{w:World}{k:List Item}{cs:List Frame}
  (h:AtHead q nt L I M r m vs arr i j R H fr.tmps w) (hm:fr.mode= .run) (ht:fr.todo= .code q.round:: .inLoop q.round:: .inBlock q.id::k):
  ((∀e∈arr.toList,e.born∈j.toList)/\ ∃p,Steps P (lone fr cs w) (lone { fr with tmps:=p,todo:=k} cs w)/\ ∃e,PK e (q.it::L) (.ptr I 0::vs)/\EnvR R e nt p)\/
  (∃e∈arr.toList,e.born∉j.toList/\ ∃p d',Steps P (lone fr cs w) (lone { fr with tmps:=p,todo:= .inRegion q.opsC ((List.range q.rest.length).map Nat.succ):: .code q.body:: .inBlock q.id2:: .inLoop q.round:: .inBlock q.id::k} cs (vU { w with drawn:=d'} r (.mapIter (some m) i (j.push e.born) i)))/\
   (∃en,PK en (q.it::L) (.ptr I 0::vs)/\EnvR R en nt p)/\p.getD q.en undef= .tuple #[e.key,e.val]):=by
 obtain⟨e0,hp,z⟩:=h.env;obtain⟨v0,a4,a5,a6,b4⟩:=id hp;obtain⟨rfl,rfl⟩:v0= .ptr I 0/\a4=vs:=by injection a5 with a b;exact⟨a.symm,b.symm⟩
 obtain⟨b,d,c,hR,hz⟩:=z.get _ _ a6;obtain⟨rfl,rfl,rfl⟩:=h.rel.fn _ _ _ _ _ _ _ hR h.ri;have J:fr.tmps.getD q.it undef= .pointer (some ⟨b,0,none⟩):=by rw[hz]
 have Z:w.heap[b]? =some (.mapIter (some m) i j i):=h.rel.obj _ _ _ _ _ h.ri h.gi;obtain⟨dm,cm,a7⟩:=h.rm;have u:w.heap[m]? =some (.map arr i):=h.rel.obj _ _ _ _ _ a7 h.gm;have a1:b<w.heap.size:=(h.rel.lt _ _ _ _ h.ri).1;have a8:m≠b:=fun e=>by rw[e]at u;rw[Z]at u;simp at u
 have b5:=z.size;have s0:Steps P (lone fr cs w) (lone { fr with todo:= .inRegion q.opsB [0,1]:: .code (.seq (.cond (.tmp q.ok) .skip (.exit q.id)) (.block q.id2 (.seq (.region q.rC q.opsC false) q.body))):: .inLoop q.round:: .inBlock q.id::k} cs w):=
  (Steps.one (U8 hm ht)).trans (.one (QE (fr:= { fr with todo:= .code (.region q.rB q.opsB false):: .code (.seq (.cond (.tmp q.ok) .skip (.exit q.id)) (.block q.id2 (.seq (.region q.rC q.opsC false) q.body))):: .inLoop q.round:: .inBlock q.id::k}) hm rfl))
 rcases run_next_at (P:=P) w q.oN.type b m i i j arr i Z u h.bo.2 (zQ _)with⟨b6,F⟩ | ⟨e,y,w1,a9,F⟩
 .left;refine⟨fun e y=> ?_, ?_⟩
  .apply Classical.byContradiction;intro b0;have:e∈(leftOf arr j).toList:=by
    simp only[leftOf,Array.toList_filter,List.mem_filter];refine⟨y, ?_⟩;simpa using b0
   have h2:0< (leftOf arr j).size:=by
    have:=List.length_pos_of_mem this;simpa using this
   omega
  .have S:=WD (P:=P) (cs:=cs) (fr:= { fr with todo:= .inRegion q.opsB [0,1]:: .code (.seq (.cond (.tmp q.ok) .skip (.exit q.id)) (.block q.id2 (.seq (.region q.rC q.opsC false) q.body))):: .inLoop q.round:: .inBlock q.id::k}) (w:=w) hm rfl (o:=q.oN) rfl f.gN f.pN f.dN (by rw[J];exact F);have C:=UA (P:=P) (cs:=cs) (w:=w) (fr:= { fr with tmps:=fr.tmps.setIfInBounds q.nx (.tuple #[.bool false]),todo:= .inRegion q.opsB [1]:: .code (.seq (.cond (.tmp q.ok) .skip (.exit q.id)) (.block q.id2 (.seq (.region q.rC q.opsC false) q.body))):: .inLoop q.round:: .inBlock q.id::k}) hm rfl (o:=q.oX) rfl f.gX f.pX f.dX (vM _ _ _ (by have:=f.nx;omega)) (v:= .bool false) rfl;have T:=xM (P:=P) (cs:=cs) (w:=w) (fr:= { fr with tmps:=(fr.tmps.setIfInBounds q.nx (.tuple #[.bool false])).setIfInBounds q.ok (.bool false),todo:= .inRegion q.opsB []:: .code (.seq (.cond (.tmp q.ok) .skip (.exit q.id)) (.block q.id2 (.seq (.region q.rC q.opsC false) q.body))):: .inLoop q.round:: .inBlock q.id::k}) hm rfl;have U:=U8 (P:=P) (cs:=cs) (w:=w) (fr:= { fr with tmps:=(fr.tmps.setIfInBounds q.nx (.tuple #[.bool false])).setIfInBounds q.ok (.bool false),todo:= .code (.seq (.cond (.tmp q.ok) .skip (.exit q.id)) (.block q.id2 (.seq (.region q.rC q.opsC false) q.body))):: .inLoop q.round:: .inBlock q.id::k}) hm rfl;have V:=ZK (P:=P) (cs:=cs) (w:=w) (fr:= { fr with tmps:=(fr.tmps.setIfInBounds q.nx (.tuple #[.bool false])).setIfInBounds q.ok (.bool false),todo:= .code (.cond (.tmp q.ok) .skip (.exit q.id)):: .code (.block q.id2 (.seq (.region q.rC q.opsC false) q.body)):: .inLoop q.round:: .inBlock q.id::k}) (t:=false) hm rfl (vM _ _ _ (by have:=f.ok;rw[Array.size_setIfInBounds];omega));have W:=zHa (P:=P) (cs:=cs) (w:=w) (fr:= { fr with tmps:=(fr.tmps.setIfInBounds q.nx (.tuple #[.bool false])).setIfInBounds q.ok (.bool false),todo:= .code (.exit q.id):: .code (.block q.id2 (.seq (.region q.rC q.opsC false) q.body)):: .inLoop q.round:: .inBlock q.id::k}) (k':=k) hm rfl (by simp[exitTo]);refine⟨_,s0.trans ((Steps.one S).trans ((Steps.one C).trans ((Steps.one T).trans ((Steps.one U).trans ((Steps.one V).trans (.one W)))))),_,J9 (J9 hp (fun l hl=>(s l hl).1)) (fun l hl=>(s l hl).2.1),(z.slot f.nx _).slot f.ok _⟩
 .right;obtain⟨d',rfl⟩: ∃d',w1= { w with drawn:=d'} :=by
   rcases a9 with rfl | rfl
   .exact⟨w1.drawn,rfl⟩
   .exact⟨w.drawn+1,rfl⟩
  have K:e∈arr.toList/\e.born∉j.toList:=by
   simp only[leftOf,Array.toList_filter,List.mem_filter]at y;exact⟨y.1,by simpa using y.2⟩
  refine⟨e,K.1,K.2, ?_⟩;have Y:(Instr.next (.pointer (some ⟨b,0,none⟩)) false q.oN.type).run P w= .ok (.tuple #[.bool true,e.key,e.val]) (vU { w with drawn:=d'} b (.mapIter (some m) i (j.push e.born) i)):=F
  generalize N:vU { w with drawn:=d'} b (.mapIter (some m) i (j.push e.born) i)=w2 at Y;have b1:w2.heap[b]? =some (.mapIter (some m) i (j.push e.born) i):=by rw[<-N];exact bB _ _ _ a1
  have b2:w2.heap[m]? =some (.map arr i):=by rw[<-N,v8 _ _ _ _ a8];exact u
  have S:=WD (P:=P) (cs:=cs) (fr:= { fr with todo:= .inRegion q.opsB [0,1]:: .code (.seq (.cond (.tmp q.ok) .skip (.exit q.id)) (.block q.id2 (.seq (.region q.rC q.opsC false) q.body))):: .inLoop q.round:: .inBlock q.id::k}) (w:=w) hm rfl (o:=q.oN) rfl f.gN f.pN f.dN (by rw[J];exact Y);have C:=UA (P:=P) (cs:=cs) (w:=w2) (fr:= { fr with tmps:=fr.tmps.setIfInBounds q.nx (.tuple #[.bool true,e.key,e.val]),todo:= .inRegion q.opsB [1]:: .code (.seq (.cond (.tmp q.ok) .skip (.exit q.id)) (.block q.id2 (.seq (.region q.rC q.opsC false) q.body))):: .inLoop q.round:: .inBlock q.id::k}) hm rfl (o:=q.oX) rfl f.gX f.pX f.dX (vM _ _ _ (by have:=f.nx;omega)) (v:= .bool true) rfl;generalize O:(fr.tmps.setIfInBounds q.nx (.tuple #[.bool true,e.key,e.val])).setIfInBounds q.ok (.bool true)=t2 at C;have a0:EnvR R (fun t=>bif Nat.beq t q.ok then none else(fun t=>bif Nat.beq t q.nx then none else e0 t) t) nt t2:=by rw[<-O];exact(z.slot f.nx _).slot f.ok _
  have a2:t2.getD q.ok undef= .bool true:=by rw[<-O];exact vM _ _ _ (by have:=f.ok;rw[Array.size_setIfInBounds];omega)
  have a3:t2.getD q.it undef= .pointer (some ⟨b,0,none⟩):=by rw[<-O,getD_set_ne _ _ _ _ (fun x=>f.itok x.symm),getD_set_ne _ _ _ _ (fun x=>f.itnx x.symm)];exact J
  have T:=xM (P:=P) (cs:=cs) (w:=w2) (fr:= { fr with tmps:=t2,todo:= .inRegion q.opsB []:: .code (.seq (.cond (.tmp q.ok) .skip (.exit q.id)) (.block q.id2 (.seq (.region q.rC q.opsC false) q.body))):: .inLoop q.round:: .inBlock q.id::k}) hm rfl;have U:=U8 (P:=P) (cs:=cs) (w:=w2) (fr:= { fr with tmps:=t2,todo:= .code (.seq (.cond (.tmp q.ok) .skip (.exit q.id)) (.block q.id2 (.seq (.region q.rC q.opsC false) q.body))):: .inLoop q.round:: .inBlock q.id::k}) hm rfl;have V:=ZK (P:=P) (cs:=cs) (w:=w2) (fr:= { fr with tmps:=t2,todo:= .code (.cond (.tmp q.ok) .skip (.exit q.id)):: .code (.block q.id2 (.seq (.region q.rC q.opsC false) q.body)):: .inLoop q.round:: .inBlock q.id::k}) (t:=true) hm rfl a2;have W:=zH8 (P:=P) (cs:=cs) (w:=w2) (fr:= { fr with tmps:=t2,todo:= .code .skip:: .code (.block q.id2 (.seq (.region q.rC q.opsC false) q.body)):: .inLoop q.round:: .inBlock q.id::k}) hm rfl;have s7:=K2 (P:=P) (cs:=cs) (w:=w2) (fr:= { fr with tmps:=t2,todo:= .code (.block q.id2 (.seq (.region q.rC q.opsC false) q.body)):: .inLoop q.round:: .inBlock q.id::k}) hm rfl;have s8:=U8 (P:=P) (cs:=cs) (w:=w2) (fr:= { fr with tmps:=t2,todo:= .code (.seq (.region q.rC q.opsC false) q.body):: .inBlock q.id2:: .inLoop q.round:: .inBlock q.id::k}) hm rfl;have s9:=QE (P:=P) (cs:=cs) (w:=w2) (fr:= { fr with tmps:=t2,todo:= .code (.region q.rC q.opsC false):: .code q.body:: .inBlock q.id2:: .inLoop q.round:: .inBlock q.id::k}) hm rfl;have b3:List.range q.opsC.size=0::(List.range q.rest.length).map Nat.succ:=by
   rw[<-List.range_succ_eq_map];rfl
  rw[b3]at s9;have s10:=zBn (P:=P) (cs:=cs) (w:=w2) (fr:= { fr with tmps:=t2,todo:= .inRegion q.opsC (0::(List.range q.rest.length).map Nat.succ):: .code q.body:: .inBlock q.id2:: .inLoop q.round:: .inBlock q.id::k}) hm rfl (o:=q.oE) rfl f.gE f.pE f.dE (by
   rw[a3];exact run_entry_at w2 b m i j arr i e b1 b2 K.1 h.bo.1)
  refine⟨_,d', ?_,⟨_,J9 (J9 (J9 hp (fun l hl=>(s l hl).1)) (fun l hl=>(s l hl).2.1)) (fun l hl=>(s l hl).2.2),a0.slot f.en _⟩,vM _ _ _ (by have:=f.en;rw[a0.size];exact this)⟩;rw[N];exact s0.trans ((Steps.one S).trans ((Steps.one C).trans ((Steps.one T).trans ((Steps.one U).trans ((Steps.one V).trans ((Steps.one W).trans ((Steps.one s7).trans ((Steps.one s8).trans ((Steps.one s9).trans (.one s10))))))))))
theorem EnvR.know {R:Ren}{env:Env}{n:Nat}{f:Array Value}(h:EnvR R env n f){d:Nat}(hd:d<n){x:AV}(i:VR R x (f.getD d undef)):EnvR R (upd env d x) n f:=by
 refine⟨h.size,fun t y a=> ?_,fun t j=> ?_⟩
 .simp only[look,bC]at a;split at a
  .rename_i e;subst e;injection a with a;subst a;exact i
  .exact h.get t y a
 .simp only[look,bC];rw[if_neg (by omega)];exact h.out t j
section
variable {P:Program}{B:Tb}{D:Dyn}(hX:Ok P B.X)(hr:Good P (rOf B D))
include hX hr in
theorem zFL {q:ML}{nt:Nat}(hq:q.Fits nt){L:List Nat}{hb:Hint}(a4:kN P 0 nt q.body hb){n:Nat}{I M r m:Nat}{vs:List AV}{arr:Array MapEntry}{a:Nat}{f:Array Nat}{R:Ren}{H j:AH}{tmps:Array Value}{w:World}{t v:AV}{e:MapEntry}{d':Nat}{p:T AObj}
  (h:AtHead q nt L I M r m vs arr a f R H tmps w) (s:T.set 40 H.h I (.raw (.mapIter (some m) a (f.push e.born) a))=some p)
  (hk:VR R t e.key) (hv:VR R v e.val) (U:q.roundK B D n nt hb L I vs t v ⟨p,H.next⟩=some (.norm (.ptr I 0::vs),j)) (a5:j.h.get I=p.get I) (a6:j.h.get M=p.get M) (a7:M≠I)
  {fr:Frame} {k:List Item} {cs:List Frame} {lo:Nat} (hm:fr.mode= .run) (ht:fr.todo= .inRegion q.opsC ((List.range q.rest.length).map Nat.succ):: .code q.body:: .inBlock q.id2:: .inLoop q.round:: .inBlock q.id::k)
  (hE: ∃F,PK F (q.it::L) (.ptr I 0::vs)/\EnvR R F nt fr.tmps) (a8:fr.tmps.getD q.en undef= .tuple #[e.key,e.val]) (hM:Marks lo R w fr.defers) (a9:lo<=w.heap.size):
  ∃J y S V,Steps P (lone fr cs (vU { w with drawn:=d'} r (.mapIter (some m) a (f.push e.born) a))) (lone { fr with tmps:=S,todo:= .code q.round:: .inLoop q.round:: .inBlock q.id::k,defers:=V} cs y)/\
   AtHead q nt L I M r m vs arr a (f.push e.born) J j S y/\Ext R H w J j y/\Marks lo J y V/\H.next<=j.next:=by
 have b0:JW H I:=⟨_,h.gi,trivial⟩;have a0:Rel R ⟨p,H.next⟩ (vU { w with drawn:=d'} r (.mapIter (some m) a (f.push e.born) a)):=(h.rel.drew d').put h.ri b0 s rfl
 have z:Ext R H w R ⟨p,H.next⟩ (vU { w with drawn:=d'} r (.mapIter (some m) a (f.push e.born) a)):=(Ext.drew R H w d').trans (Ext.put h.ri s)
 obtain⟨F,hp,b1⟩:=hE;unfold ML.roundK at U;obtain⟨e',a1,b4⟩:=KY U hp;have a2:VR R (.tuple [t,v]) (fr.tmps.getD q.en undef):=by
  rw[a8];exact⟨[e.key,e.val],rfl,_,_,rfl,hk,_,_,rfl,hv,rfl⟩
 have b5:EnvR R (upd e' q.en (.tuple [t,v])) nt fr.tmps:=(b1.know hq.en a2).le (b4.upd _ _);obtain⟨es,envF,HF,env',c1,c2,c3,c4,_⟩:=u0 _ _ [] _ _ _ [] a1 (Le.refl _) (fun ms b6=>by simp at b6);obtain⟨i1,i2⟩:=zAz q.rest 1;have hi:es.map (·.i)=(List.range q.rest.length).map Nat.succ:=by
  have:es.map (·.i)=(idx q.rest 1).map (·.1):=by rw[<-c2];simp
  rw[this,i1];apply List.map_congr_left;intro x _;omega
 have a3: ∀e∈es,q.opsC[e.i]? =some e.o:=by
  intro e he;have h1:(e.i,e.o)∈idx q.rest 1:=by rw[<-c2];exact qU.2 ⟨e,he,rfl⟩
  obtain⟨h2,h3⟩:=i2 _ h1;show(q.oE::q.rest).toArray[e.i]? =some e.o;have c0:1<=e.i:=h2;rw[show e.i=(e.i - 1)+1 from by omega,List.getElem?_toArray,yV];exact h3
 obtain⟨W,Y,Z,s1,e1,l1,K⟩:=V9 hX hr c1 a3 R fr (.code q.body:: .inBlock q.id2:: .inLoop q.round:: .inBlock q.id::k) cs _ hm (by rw[hi];exact ht) b5 a0;have b7:=KI hX hr (ro:=true) (f0:=0) (rs:=[]) (nt:=nt) (n:=n) q.body hb [] _ env' HF _ a4 c4;have b8:Marks lo W Y fr.defers:=(hM.ext z).ext K;obtain⟨R2,w2,N,c5,C,env2,H2,s2,e2,l2,x2,n2,m2,o2⟩:=b7 lo W { fr with tmps:=Z,todo:= .code q.body:: .inBlock q.id2:: .inLoop q.round:: .inBlock q.id::k} (.inBlock q.id2:: .inLoop q.round:: .inBlock q.id::k) cs Y hm (fun h=>by simp at h) rfl (e1.le c3) l1 b8 (qP a9 (z.trans K).size);have b9:=(wL hr.mono c1).1;rcases o2 with⟨rfl,b2⟩ | ⟨id,k',rfl,b2,L',vs',b3,_⟩ | ⟨k',rfl,b2⟩
 .obtain⟨c6,p1,p2⟩:=wG b2;simp only[zB,zU,Ex.norm.injEq]at p2;obtain⟨rfl,rfl⟩:=p2;have O:=z.trans (K.trans x2);refine⟨R2,w2,N,C, ?_,⟨l2,⟨env2,p1,e2⟩,O.sub _ _ _ _ h.ri, ?_, ?_, ?_,h.bo⟩,O,m2,qP (show H.next<=HF.next from b9) n2⟩
  .refine s1.trans ((Steps.one (xM (fr:= { fr with tmps:=Z,todo:= .inRegion q.opsC []:: .code q.body:: .inBlock q.id2:: .inLoop q.round:: .inBlock q.id::k}) hm rfl)).trans (s2.trans ?_));refine(Steps.one (U9 (fr:= { fr with tmps:=N,todo:= .inBlock q.id2:: .inLoop q.round:: .inBlock q.id::k,defers:=C}) hm rfl)).trans ?_;exact .one (zBm (fr:= { fr with tmps:=N,todo:= .inLoop q.round:: .inBlock q.id::k,defers:=C}) hm rfl)
  .obtain⟨d,c,hr⟩:=h.rm;exact⟨d,c,O.sub _ _ _ _ hr⟩
  .rw[a5,T.get_set _ _ _ _ _ s,if_pos rfl]
  .rw[a6,T.get_set _ _ _ _ _ s,if_neg a7];exact h.gm
 .simp[uB]at b3
 .obtain⟨u,e⟩:=vG b2;simp at e
end
section
variable {P:Program}{B:Tb}{D:Dyn}(hX:Ok P B.X)(hr:Good P (rOf B D))
include hX hr in
theorem zLd {q:ML}{nt:Nat}(hq:q.Fits nt){L:List Nat}(b0: ∀l∈q.it::L,l≠q.nx/\l≠q.ok/\l≠q.en){hb:Hint}(b7:kN P 0 nt q.body hb){n:Nat}{I M r m:Nat}(b8:M≠I)(hI:True){vs:List AV}{arr:Array MapEntry}{S:Nat}{es:List (AV×AV)}
  {C:List (AV×AV)->AH->Prop}
  (b2: ∀F k v rest o,C F o->(F++(k,v)::rest).Perm es-> ∃K,q.roundK B D n nt hb L I vs k v o=some (.norm (.ptr I 0::vs),K)/\K.h.get I=o.h.get I/\K.h.get M=o.h.get M/\C (F++[(k,v)]) K)
  (b4: ∀F o y W,C F o->T.set 40 o.h I (.raw y)=some W->C F ⟨W,o.next⟩)
  {s:List ((AV×AV)×MapEntry)} (b5:s.map (·.1)=es) (a1:(s.map (·.2)).Perm arr.toList):
  ∀(N:Nat) (rp f:List ((AV×AV)×MapEntry)) (u:Array Nat) (R:Ren) (H:AH) (fr:Frame) (k:List Item) (cs:List Frame) (w:World) (lo:Nat),rp.length=N->(f++rp).Perm s->u.toList=f.map (·.2.born)->C (f.map (·.1)) H->
   (∀p∈s,VR R p.1.1 p.2.key/\VR R p.1.2 p.2.val)->AtHead q nt L I M r m vs arr S u R H fr.tmps w->fr.mode= .run->fr.todo= .code q.round:: .inLoop q.round:: .inBlock q.id::k->Marks lo R w fr.defers->lo<=w.heap.size->
   ∃(R':Ren) (Y:World) (z:Array Value) (ds:List Deferred) (H':AH) (U:List ((AV×AV)×MapEntry)) (a0:Array Nat),Steps P (lone fr cs w) (lone { fr with tmps:=z,todo:=k,defers:=ds} cs Y)/\U.Perm s/\C (U.map (·.1)) H'/\AtHead q nt L I M r m vs arr S a0 R' H' z Y/\Ext R H w R' H' Y/\Marks lo R' Y ds/\H.next<=H'.next:=by
 have find: ∀e∈arr.toList,∃p∈s,p.2=e:=fun e x=>by
  have:=a1.symm.subset x;obtain⟨p,t,h2⟩:=qU.1 this;exact⟨p,t,h2⟩
 intro N
 induction N with
 | zero=>
  intro rp f u R H fr k cs w lo Z j O a4 V i hm ht hM a5;have:rp=[]:=zV Z;subst this;rw[qX]at j;rcases zC2 (P:=P) (cs:=cs) hq b0 i hm ht with⟨_,z,s1,x⟩ | ⟨e,x,a6,_⟩
  .exact⟨R,w,z,fr.defers,H,f,u,s1,j,a4,⟨i.rel,x,i.ri,i.rm,i.gi,i.gm,i.bo⟩,zRh R H w,hM,zQ _⟩
  .obtain⟨p,hp,rfl⟩:=find e x;exact absurd (by rw[O];exact qU.2 ⟨p,j.symm.subset hp,rfl⟩) a6
 | succ N ih=>
  intro rp f u R H fr k cs w lo Z j O a4 V i hm ht hM a5;rcases zC2 (P:=P) (cs:=cs) hq b0 i hm ht with⟨b6,_⟩ | ⟨e,x,a6,z,d',s1,hE,b9⟩
  .exfalso;obtain⟨p,J,rfl⟩: ∃p J,rp=p::J:=by
    cases rp with
    | nil=>simp at Z
    | cons p J=>exact⟨p,J,rfl⟩
   have a7:p∈s:=j.subset (by simp);have t:=b6 p.2 (a1.subset (qU.2 ⟨p,a7,rfl⟩));rw[O]at t;have b1:((f++p::J).map (·.2.born)).Nodup:=by
    have h2:((f++p::J).map (·.2.born)).Perm (arr.toList.map (·.born)):=by
     have:=(j.map (·.2)).trans a1;have:=this.map (·.born);rw[List.map_map]at this;exact this
    exact h2.symm.nodup i.bo.1
   rw[List.map_append,List.nodup_append]at b1;exact b1.2.2 _ t _ (by simp) rfl
  .obtain⟨p,hp,rfl⟩:=find e x;have a7:p∈f++rp:=j.symm.subset hp;have c0:p∈rp:=by
    rcases qB.1 a7 with t | t
    .exact absurd (by rw[O];exact qU.2 ⟨p,t,rfl⟩) a6
    .exact t
   obtain⟨r1,r2,rfl⟩:=List.append_of_mem c0;obtain⟨⟨kA,vA⟩,e⟩:=p;have a8:(f++[((kA,vA),e)]++(r1++r2)).Perm s:=by
    refine List.Perm.trans ?_ j;rw[qI];refine List.Perm.append_left _ ?_;exact(List.perm_middle (a:=((kA,vA),e)) (l₁:=r1) (l₂:=r2)).symm
   obtain⟨W,a9⟩:=qO.1 (T.set_some 40 H.h I (.raw (.mapIter (some m) S (u.push e.born) S)));have b3:=b4 _ _ _ _ a4 a9;obtain⟨K,g1,g2,g3,g4⟩:=b2 (f.map (·.1)) kA vA ((r1++r2).map (·.1)) ⟨W,H.next⟩ b3 (by
    have:=a8.map (·.1);rw[b5]at this;simpa using this)
   obtain⟨hk,hv⟩:=V _ hp;obtain⟨R1,w1,t1,c1,s2,a2,x2,m2,n2⟩:=zFL hX hr (d':=d') (cs:=cs) (lo:=lo) (k:=k) (fr:= { fr with tmps:=z,todo:= .inRegion q.opsC ((List.range q.rest.length).map Nat.succ):: .code q.body:: .inBlock q.id2:: .inLoop q.round:: .inBlock q.id::k}) hq b7 i a9 hk hv g1 g2 g3 b8 hm rfl hE b9 hM a5;obtain⟨R2,w2,t2,c2,H4,U,a0,s3,p3,i3,a3,x3,m3,n3⟩:=ih (r1++r2) (f++[((kA,vA),e)]) (u.push e.born) R1 K { fr with tmps:=t1,todo:= .code q.round:: .inLoop q.round:: .inBlock q.id::k,defers:=c1} k cs w1 lo (by simp at Z⊢;omega) a8 (by simp[O]) (by simpa using g4)
    (fun p hp=>⟨VR.mono x2.sub _ _ (V p hp).1,VR.mono x2.sub _ _ (V p hp).2⟩) a2 hm rfl m2 (qP a5 x2.size)
   exact⟨R2,w2,t2,c2,H4,U,a0,s1.trans (s2.trans s3),p3,i3,a3,x2.trans x3,m3,qP n2 n3⟩
end
section
variable {P:Program}{B:Tb}{D:Dyn}(hX:Ok P B.X)(hr:Good P (rOf B D))
theorem MR.pairs {R:Ren}{es:List (AV×AV)}{l:List MapEntry}(h:MR R es l): ∃f:List ((AV×AV)×MapEntry),f.map (·.1)=es/\(f.map (·.2)).Perm l/\ ∀p∈f,VR R p.1.1 p.2.key/\VR R p.1.2 p.2.val:=by
 obtain⟨m,hp,i,j⟩:=h;have key: ∀(es:List (AV×AV)) (m:List MapEntry),VRL R (es.map (·.1)) (m.map (·.key))->VRL R (es.map (·.2)) (m.map (·.val))-> ∃f:List ((AV×AV)×MapEntry),f.map (·.1)=es/\f.map (·.2)=m/\ ∀p∈f,VR R p.1.1 p.2.key/\VR R p.1.2 p.2.val:=by
  intro es
  induction es with
  | nil=>
   intro m i _;simp only[List.map_nil,VRL,List.map_eq_nil_iff]at i;subst i;exact⟨[],rfl,rfl,by simp⟩
  | cons e es ih=>
   intro m i j;obtain⟨x,xs,o,v,z⟩:=i;obtain⟨y,J,u,C,F⟩:=j
   cases m with
   | nil=>simp at o
   | cons a m=>
    simp only[yH,yE]at o u;obtain⟨rfl,rfl⟩:=o;obtain⟨rfl,rfl⟩:=u;obtain⟨f,q,s,t⟩:=ih m z F;refine⟨(e,a)::f,by simp[q],by simp[s],fun p hp=> ?_⟩;rcases zP.1 hp with rfl | hp
    .exact⟨v,C⟩
    .exact t p hp
 obtain⟨f,q,s,t⟩:=key es m i j;exact⟨f,q,by rw[s];exact hp,t⟩
variable {nt:Nat}
include hX hr in
theorem BS {ops:Array Oper} : ∀ {es:List Ent} {env:Env} {H:AH} {envF:Env} {HF:AH},uI B.X (rOf B D) nt ops env H es envF HF->(∀e∈es,ops[e.i]? =some e.o)->
  ∀(R:Ren) (fr:Frame) (a:List Nat) (k:List Item) (cs:List Frame) (w:World),fr.mode= .run->fr.todo= .inRegion ops (es.map (·.i)++a)::k->EnvR R env nt fr.tmps->Rel R H w->
  ∃t u y,Steps P (lone fr cs w) (lone { fr with tmps:=y,todo:= .inRegion ops a::k} cs u)/\EnvR t envF nt y/\Rel t HF u/\Ext R H w t HF u
 | [],env,H,envF,HF,⟨h1,h2⟩,_,R,fr,a,k,cs,w,hm,ht,hE,hL=>by
  subst h1 h2;refine⟨R,w,fr.tmps, ?_,hE,hL,zRh R H w⟩;have:({ fr with tmps:=fr.tmps,todo:= .inRegion ops a::k} :Frame)=fr:=by
   have f:fr.todo= .inRegion ops a::k:=ht;rw[<-f]
  rw[this];exact .refl _ _
 | e::es,env,H,envF,HF,⟨h1,h2,h3,env',h4,h5⟩,hmem,R,fr,a,k,cs,w,hm,ht,hE,hL=>by
  have x:=hmem e (zK ..);obtain⟨K,F,J⟩:=V4 _ _ _ h3;have m:=zCY hE K;have f:fr.todo= .inRegion ops (e.i::(es.map (·.i)++a))::k:=ht;have key: ∃h j z,Steps P (lone fr cs w) (lone { fr with tmps:=zCV fr.tmps e.o.dst z,todo:= .inRegion ops (es.map (·.i)++a)::k} cs j)/\VR h e.v z/\Rel h e.H' j/\Ext R H w h e.H' j:=by
   cases p:e.want with
   | true=>
    rw[p]at m;exact zEt hX hr (cs:=cs) hm f x m hE hL (F p)
   | false=>
    rw[p]at m;obtain⟨L,s⟩:=J p;refine⟨R,w,undef, ?_,by rw[L];exact zB0 R,by rw[s];exact hL,by rw[s];exact zRh R H w⟩;rw[<-kE f x];exact .one (WC hm f x m)
  obtain⟨h,j,z,N,O,l1,C⟩:=key;obtain⟨S,T,U,V,s,W,Y⟩:=BS h5 (fun q Z=>hmem q (zC _ Z)) h { fr with tmps:=zCV fr.tmps e.o.dst z,todo:= .inRegion ops (es.map (·.i)++a)::k} a k cs j hm rfl ((hE.mono C.sub).put O h4) l1;exact⟨S,T,U,N.trans V,s,W,C.trans Y⟩
noncomputable def ML.preK (q:ML)(B:Tb)(D:Dyn)(nt:Nat)(L:List Nat)(vs:List AV)(H:AH):Rs:=
 unp L vs uL fun e=>zEs B D nt q.opsA none (Nat.succ q.pre.length) (fun e H=>pck L e fun vs=>bV (opd e q.x) fun v=>some (.norm (v::vs),H)) (idx q.pre 0) [] e H
structure ML.Plan (q:ML)(B:Tb)(D:Dyn)(n nt:Nat)(hb:Hint)(L:List Nat)(vs:List AV)(H H':AH) where
 M:Nat
 ks:List Nat
 es:List (AV×AV)
 inv:List (AV×AV)->AH->Prop
 pre:q.preK B D nt L vs H=some (.norm (.map M::vs),H)
 room:True
 map:H.h.get M=some (.map ks es)
 start: ∀x y t1 t2,T.set 40 H.h M (.raw x)=some t1->T.set 40 t1 H.next (.raw y)=some t2->inv [] ⟨t2,H.next+1⟩
 step: ∀vis k v rest Hk,inv vis Hk->(vis++(k,v)::rest).Perm es-> ∃H3,q.roundK B D n nt hb L H.next vs k v Hk=some (.norm (.ptr H.next 0::vs),H3)/\H3.h.get H.next=Hk.h.get H.next/\H3.h.get M=Hk.h.get M/\inv (vis++[(k,v)]) H3
 raw: ∀vis Hk y t',inv vis Hk->T.set 40 Hk.h H.next (.raw y)=some t'->inv vis ⟨t',Hk.next⟩
 fin: ∀vis Hk t1 t2,inv vis Hk->vis.Perm es->T.set 40 Hk.h M (.map ks es)=some t1->T.set 40 t1 H.next .dead=some t2-> ∀R0 w0 R w,Rel R0 H w0->(∀v∈vs,∃z,VR R0 v z)->(∃b d c,R0 M b d c)->Sub R0 R->Rel R ⟨t2,Hk.next⟩ w->Rel R H' w/\H'.next=Hk.next/\ ∀A,A<H.next->(∀b d c,¬R0 A b d c)->H'.h.get A=H.h.get A
end
section
variable {P:Program}{B:Tb}{D:Dyn}(hX:Ok P B.X)(hr:Good P (rOf B D)){nt:Nat}
theorem Ext.told {R:Ren}{H:AH}{w:World}{A b d c:Nat}{o':AObj}{a:T AObj}(hR:R A b d c)(f:T.set 40 H.h A o'=some a):Ext R H w R ⟨a,H.next⟩ w:=
 ⟨zRe R,fun _ _ _ _ h=> .inl h,fun _ _ _ _ h=> .inl h,zQ _,fun A1 _ i=>by
  have:A1≠A:=fun e=>by subst e;exact i _ _ _ hR
  simp only[T.get_set _ _ _ _ _ f,if_neg this],rfl,rfl,rfl,zQ _,fun _ _ _=>rfl⟩
include hX hr in
theorem zFX {q:ML}(W:q.Fits nt){L:List Nat}(c8: ∀l∈q.it::L,l≠q.nx/\l≠q.ok/\l≠q.en)(c9: ∀l∈L,l≠q.it){hb:Hint}(d0:kN P 0 nt q.body hb){n:Nat}{f0:FuncId}{kt vt:TypeId}(d1:B.X.und q.t=some (.map kt vt)){mf:List AV->AH->Option AH}
  (d2: ∀vs H H',mf vs H=some H'->Nonempty (q.Plan B D n nt hb L vs H H')):VM P nt f0 q.code L mf:=by
 intro ro env vs H H' hp d4 d5 lo R fr k cs w hm f8 d6 hE hL hM d7;obtain⟨f⟩:=d2 vs H H' d4;have a2:=f.pre;unfold ML.preK at a2;obtain⟨e1,b6,b7⟩:=KY a2 hp;obtain⟨es,envF,HF,env',c1,c2,c3,O,_⟩:=u0 _ _ [] _ _ _ [] b6 (Le.refl _) (fun ms d8=>by simp at d8);obtain⟨U,p1,O⟩:=wG O;obtain⟨v1,o1,O⟩:=wH O;simp only[zB,zU,Ex.norm.injEq,yE]at O;obtain⟨⟨rfl,rfl⟩,rfl⟩:=O;obtain⟨i1,i2⟩:=zAz q.pre 0;have hi:es.map (·.i)=List.range q.pre.length:=by
  have:es.map (·.i)=(idx q.pre 0).map (·.1):=by rw[<-c2];simp
  rw[this,i1];simp
 have b8: ∀e∈es,q.opsA[e.i]? =some e.o:=by
  intro e he;have Y:(e.i,e.o)∈idx q.pre 0:=by rw[<-c2];exact qU.2 ⟨e,he,rfl⟩
  have F:=(i2 _ Y).2;rw[jD]at F;show(q.pre++[q.oR]).toArray[e.i]? =some e.o;rw[List.getElem?_toArray,yX (qR.1 F).1];exact F
 have d9:List.range q.opsA.size=es.map (·.i)++[q.pre.length]:=by
  rw[hi,<-List.range_succ];show List.range (q.pre++[q.oR]).toArray.size=_;simp
 obtain⟨s,a,y,s1,e0,l1,x1⟩:=BS hX hr c1 b8 R { fr with todo:= .inRegion q.opsA (es.map (·.i)++[q.pre.length]):: .code (.block q.id (.loop q.round))::k} [q.pre.length] (.code (.block q.id (.loop q.round))::k) cs w hm rfl (hE.le b7) hL;have a7:EnvR s env' nt y:=e0.le c3;obtain⟨m,dm,cm,C,e2⟩:=kJ (fr:= { fr with tmps:=y,todo:= .inRegion q.opsA [q.pre.length]:: .code (.block q.id (.loop q.round))::k}) a7 _ _ o1;obtain⟨arr,j,a8,a9,e4,e5,b0⟩:=l1.mapAt f.map C;have b3:q.opsA[q.pre.length]? =some q.oR:=by
  show(q.pre++[q.oR]).toArray[q.pre.length]? =some q.oR;simp
 have s2:=zBl (P:=P) (cs:=cs) (w:=a) (fr:= { fr with tmps:=y,todo:= .inRegion q.opsA [q.pre.length]:: .code (.block q.id (.loop q.round))::k}) hm rfl b3 W.gR W.pR W.dR (by rw[e2];exact run_range_map (hX.run_und d1 a) a8);have f9:f.M<HF.next:=(l1.lt _ _ _ _ C).2
 have b4:=f.room;obtain⟨ta,a0⟩:=qO.1 (T.set_some 40 HF.h f.M (.raw (.map arr j)));obtain⟨tb,V⟩:=qO.1 (T.set_some 40 ta HF.next (.raw (.mapIter (some m) j #[] j)))
 have lM:Rel s ⟨ta,HF.next⟩ a:=l1.told C f.map ⟨_,f.map,trivial⟩ a0 a8
 have l2:Rel (s.add HF.next a.heap.size 0 0) ⟨tb,HF.next+1⟩ (a.alloc (.mapIter (some m) j #[] j)):=lM.new (c:=0) (x:= .mapIter (some m) j #[] j) (H:=⟨ta,HF.next⟩) V rfl
 have x2:Ext R HF w (s.add HF.next a.heap.size 0 0) ⟨tb,HF.next+1⟩ (a.alloc (.mapIter (some m) j #[] j)):=(x1.trans (Ext.told C a0)).trans (Ext.add (H:=⟨ta,HF.next⟩) V)
 obtain⟨ps,a4,b9,a5⟩:=a9.pairs;have N:Sub s (s.add HF.next a.heap.size 0 0):=s.sub_add _ _ _ _
 have e6: ∀p∈ps,VR (s.add HF.next a.heap.size 0 0) p.1.1 p.2.key/\VR (s.add HF.next a.heap.size 0 0) p.1.2 p.2.val:=fun p hp=>⟨VR.mono N _ _ (a5 p hp).1,VR.mono N _ _ (a5 p hp).2⟩
 have b1:f.M≠HF.next:=by omega
 have e7:EnvR (s.add HF.next a.heap.size 0 0) (upd env' q.it (.ptr HF.next 0)) nt (y.setIfInBounds q.it (.pointer (some ⟨a.heap.size,0,none⟩))):=
  (a7.mono N).put (dst:=some q.it) (x:= .ptr HF.next 0) ⟨a.heap.size,0,0,s.add_self _ _ _ _,rfl⟩ (by have hb:=W.it;rw[<-qD]at hb;simp only[VP,hb,zM])
 have e8:PK (upd env' q.it (.ptr HF.next 0)) (q.it::L) (.ptr HF.next 0::U):=by
  refine⟨_,_,rfl,by simp[look,bC], ?_⟩;have key: ∀(L:List Nat) (vs:List AV),(∀l∈L,l≠q.it)->PK env' L vs->PK (upd env' q.it (.ptr HF.next 0)) L vs:=by
   intro L
   induction L with
   | nil=>intro vs _ h;exact h
   | cons l L ih=>
    intro vs hd h;obtain⟨v,vs',Y,h2,F⟩:=h;refine⟨v,vs',Y, ?_,ih vs' (fun x hx=>hd x (zC _ hx)) F⟩;have:=hd l (zK ..);simp only[look,bC,if_neg this];exact h2
  exact key L U c9 p1
 have e9:AtHead q nt L HF.next f.M a.heap.size m U arr j #[] (s.add HF.next a.heap.size 0 0) ⟨tb,HF.next+1⟩ (y.setIfInBounds q.it (.pointer (some ⟨a.heap.size,0,none⟩))) (a.alloc (.mapIter (some m) j #[] j)):=
  ⟨l2,⟨_,e8,e7⟩,s.add_self _ _ _ _,⟨dm,cm,N _ _ _ _ C⟩,by simp only[T.get_set _ _ _ _ _ V,if_true],by simp only[T.get_set _ _ _ _ _ V,if_neg b1,T.get_set _ _ _ _ _ a0,if_true],b0⟩
 have f1:Marks lo (s.add HF.next a.heap.size 0 0) (a.alloc (.mapIter (some m) j #[] j)) fr.defers:=hM.ext x2
 obtain⟨J,S,t3,f2,Z,vp,f7,s3,v3,i3,K,x3,m3,n3⟩:=zLd hX hr W c8 d0 b1 b4 f.step f.raw a4 b9 ps.length ps [] #[] _ ⟨tb,HF.next+1⟩ { fr with tmps:=y.setIfInBounds q.it (.pointer (some ⟨a.heap.size,0,none⟩)),todo:= .code q.round:: .inLoop q.round:: .inBlock q.id::k} k cs _ lo rfl (by simp) rfl (f.start _ _ _ _ a0 V) e6 e9 hm rfl f1 (qP d7 x2.size)
 obtain⟨d3,g0,c0⟩:=K.rm;obtain⟨tc,b2⟩:=qO.1 (T.set_some 40 Z.h f.M (.map f.ks f.es));obtain⟨td,a6⟩:=qO.1 (T.set_some 40 tc HF.next .dead)
 have c5:S.heap[m]? =some (.map arr j):=K.rel.obj _ _ _ _ _ c0 K.gm;have b5:J f.M m dm cm:=x3.sub _ _ _ _ (N _ _ _ _ C);have l4:Rel J ⟨tc,Z.next⟩ S:=K.rel.told b5 K.gm ⟨_,K.gm,trivial⟩ b2 ⟨arr,j,c5,a9.mono (fun A b d c h=>x3.sub _ _ _ _ (N _ _ _ _ h)),e4,e5,b0⟩
 have l5:Rel J ⟨td,Z.next⟩ S:=l4.kill (H:=⟨tc,Z.next⟩) a6
 have f3: ∀v∈U,∃z,VR R v z:=by
  have key: ∀(L:List Nat) (vs:List AV),PK env L vs-> ∀v∈vs,∃z,VR R v z:=by
   intro L
   induction L with
   | nil=>intro vs h v hv;simp only[PK]at h;subst h;simp at hv
   | cons l L ih=>
    intro vs h v hv;obtain⟨v0,vs',Y,h2,F⟩:=h;subst Y;rcases zP.1 hv with rfl | hv
    .exact⟨_,hE.get _ _ h2⟩
    .exact ih vs' F v hv
  exact key L U hp
 have f4: ∃b d c,R f.M b d c:=by
  rcases x1.newA _ _ _ _ C with h | h
  .exact⟨_,_,_,h⟩
  .omega
 have c6:Sub R J:=(x2.trans x3).sub;obtain⟨l6,g1,f5⟩:=f.fin _ Z tc td i3 (by rw[<-a4];exact v3.map _) b2 a6 R w J S hL f3 f4 c6 l5;have u:=x2.trans x3;have x4:Ext R HF w J H' S:=⟨u.sub,u.new,u.newA,by have:=u.next;omega,f5,u.os,u.tape,u.output,u.size,u.keep⟩
 obtain⟨e3,pk3,f6⟩:=K.env;obtain⟨_,_,a1,_,c7⟩:=pk3;injection a1 with _ a1;subst a1
 refine⟨J,S,t3,k,f2,e3,H', ?_,f6,l6,x4,d5,m3, .inl ⟨rfl,c7,rfl⟩⟩;refine(Steps.one (U8 hm d6)).trans ?_;refine(Steps.one (QE (fr:= { fr with todo:= .code (.region q.rA q.opsA false):: .code (.block q.id (.loop q.round))::k}) hm rfl)).trans ?_;rw[d9];refine s1.trans ((Steps.one s2).trans ?_);refine(Steps.one (xM (fr:= { fr with tmps:=y.setIfInBounds q.it (.pointer (some ⟨a.heap.size,0,none⟩)),todo:= .inRegion q.opsA []:: .code (.block q.id (.loop q.round))::k}) hm rfl)).trans ?_;refine(Steps.one (K2 (fr:= { fr with tmps:=y.setIfInBounds q.it (.pointer (some ⟨a.heap.size,0,none⟩)),todo:= .code (.block q.id (.loop q.round))::k}) hm rfl)).trans ?_;refine(Steps.one (zH9 (fr:= { fr with tmps:=y.setIfInBounds q.it (.pointer (some ⟨a.heap.size,0,none⟩)),todo:= .code (.loop q.round):: .inBlock q.id::k}) hm rfl)).trans ?_;exact s3
end
def ups (e:List (AV×AV))(x:AV×AV):List (AV×AV):=match zB5 x.1 x.2 e with
 | some r=>r
 | none=>e++[x]
def U5:List (AV×AV)->List (AV×AV)->List (AV×AV)
 | e,[]=>e
 | e,x::l=>U5 (ups e x) l
noncomputable def zG5 (t:T AObj):Nat->Nat->Bool
 | _,0=>true
 | A,n+1=>match T.get t A with
  | none=>fN (Nat.succ A) fun A=>zG5 t A n
  | some _=>false
theorem zEJ {t:T AObj} : ∀ {n A:Nat},zG5 t A n=true-> ∀C,A<=C->C<A+n->t.get C=none
 | 0,_,_,C,h1,h2=>by omega
 | n+1,A,h,C,h1,h2=>by
  simp only[zG5]at h;split at h
  .rename_i e;rw[kD]at h;by_cases a:C=A
   .subst a;exact e
   .exact zEJ h C (by simp only[Nat.succ_eq_add_one];omega) (by simp only[Nat.succ_eq_add_one];omega)
  .simp at h
noncomputable def zNn (a:List Nat)(nb:Nat)(ok:AV->Bool)(x y:AV)(H:AH):Option AH:=match x with
 | .map M=>match y with
  | .map A=>match H.h.get M with
   | some (.map ks es)=>match H.h.get A with
    | some (.map ks' es')=>bif QX a ks&&QX ks ks'&& !Nat.beq M A&&es.all (fun e=>keyOk ks e.1&&ok e.2)then
      fN (H.next+1+nb*es.length) fun N=>bif zG5 H.h H.next (1+nb*es.length)then
       match fV H A (.map ks (U5 es' es))with
       | some H1=>some ⟨H1.h,N⟩
       | none=>none
      else none
     else none
    | _=>none
   | _=>none
  | _=>none
 | _=>none
theorem KX (x:AV×AV): ∀(l e:List (AV×AV)),U5 e (l++[x])=ups (U5 e l) x
 | [],e=>rfl
 | y::l,e=>by simp only[qF,U5];exact KX x l (ups e y)
open Classical in
theorem zKs {ks:List Nat}{e:List (AV×AV)}{x:AV×AV}(hk:keyOk ks x.1=true)(hd:e.Pairwise (fun a b=>a.1≠b.1)):(ups e x).Perm (x::e.filter (fun y=>decide (y.1≠x.1))):=by
 obtain⟨k,v⟩:=x;unfold ups;split
 .rename_i r hr;obtain⟨e1,v0,e2,rfl,rfl⟩:=WK hr;rw[j5,yM]at hd;have h1:e1.filter (fun y=>decide (y.1≠k))=e1:=List.filter_eq_self.2 fun y hy=>by
   simpa using hd.2.2 y hy (k,v0) (zK ..)
  have h2:e2.filter (fun y=>decide (y.1≠k))=e2:=List.filter_eq_self.2 fun y hy=>by
   have:=hd.2.1.1 y hy;simpa using fun h=>this h.symm
  rw[jF,List.filter_cons];simp only[ne_eq,not_true_eq_false,decide_false,zL,qC];simp only[ne_eq]at h1 h2;rw[h1,h2];exact List.perm_middle
 .rename_i hr;have hn:=setA_none hk hr;have h1:e.filter (fun y=>decide (y.1≠k))=e:=List.filter_eq_self.2 fun y hy=>by simpa using hn y hy
  simp only[ne_eq]at h1⊢;rw[h1];exact List.perm_append_comm
theorem zAm {l m:List (AV×AV)}(h:l.Perm m)(hl:l.Pairwise (fun a b=>a.1≠b.1)):m.Pairwise (fun a b=>a.1≠b.1):=
 (List.Perm.pairwise_iff (fun h e=>h e.symm) h).1 hl
open Classical in
theorem zB8 {ks:List Nat}{e:List (AV×AV)}(hd:e.Pairwise (fun a b=>a.1≠b.1)): ∀(n:Nat) (l:List (AV×AV)),l.length=n->(∀x∈l,keyOk ks x.1=true)->l.Pairwise (fun a b=>a.1≠b.1)->
  (U5 e l).Perm (l++e.filter (fun y=>decide (∀x∈l,y.1≠x.1)))/\(U5 e l).Pairwise (fun a b=>a.1≠b.1):=by
 intro n
 induction n with
 | zero=>
  intro l hl hk hp;have:l=[]:=zV hl;subst this;refine⟨?_,hd⟩;rw[List.filter_eq_self.2 (fun y _=>by simp)];simp[U5]
 | succ n ih=>
  intro l hl hk hp;rcases List.eq_nil_or_concat l with rfl | ⟨l,x,rfl⟩
  .simp at hl
  .simp only[List.concat_eq_append]at hl hk hp⊢;rw[j5]at hp;obtain⟨i1,i2⟩:=ih l (by simp at hl;omega) (fun y hy=>hk y (by simp[hy])) hp.1;have h1:=zKs (hk x (by simp)) i2;rw[KX];have h2:(U5 e l).filter (fun y=>decide (y.1≠x.1)) |>.Perm ((l++e.filter (fun y=>decide (∀z∈l,y.1≠z.1))).filter (fun y=>decide (y.1≠x.1))):=i1.filter _;have h3:(l++e.filter (fun y=>decide (∀z∈l,y.1≠z.1))).filter (fun y=>decide (y.1≠x.1))=l++e.filter (fun y=>decide (∀z∈l++[x],y.1≠z.1)):=by
    rw[jF,List.filter_filter];congr 1
    .exact List.filter_eq_self.2 fun y hy=>by simpa using hp.2.2 y hy x (by simp)
    .apply List.filter_congr;intro y _;rw[yK];simp only[zE,zR,qB,y6];constructor
     .rintro⟨h1,h2⟩ z (hz | rfl)
      .exact h2 z hz
      .exact h1
     .intro h;exact⟨h x (.inr rfl),fun z hz=>h z (.inl hz)⟩
   have h4:(ups (U5 e l) x).Perm ((l++[x])++e.filter (fun y=>decide (∀z∈l++[x],y.1≠z.1))):=by
    refine h1.trans ?_;refine((h2.trans (List.Perm.of_eq h3)).cons x).trans ?_;rw[qI];exact List.perm_middle.symm
   refine⟨h4, ?_⟩;refine zAm h1.symm ?_;rw[yM];refine⟨fun y hy=> ?_,List.Pairwise.filter _ i2⟩;have:=(List.mem_filter.1 hy).2;simp only[ne_eq,zR]at this;exact fun h=>this h.symm
open Classical in
theorem zGH {ks:List Nat}{e l m:List (AV×AV)}(hd:e.Pairwise (fun a b=>a.1≠b.1))(hk: ∀x∈l,keyOk ks x.1=true)(hl:l.Pairwise (fun a b=>a.1≠b.1))(h:l.Perm m):(U5 e l).Perm (U5 e m):=by
 obtain⟨h1,_⟩:=zB8 hd _ l rfl hk hl;obtain⟨h2,_⟩:=zB8 (ks:=ks) hd _ m rfl (fun x hx=>hk x (h.symm.subset hx)) (zAm h hl);refine h1.trans (List.Perm.trans ?_ h2.symm);have:e.filter (fun y=>decide (∀x∈l,y.1≠x.1))=e.filter (fun y=>decide (∀x∈m,y.1≠x.1)):=by
  apply List.filter_congr;intro y _;congr 1;apply propext;exact⟨fun a x hx=>a x (h.symm.subset hx),fun a x hx=>a x (h.subset hx)⟩
 rw[this];exact h.append_right _
theorem MR.perm {R:Ren}{es es':List (AV×AV)}{l:List MapEntry}(h:MR R es l)(hp:es.Perm es'):MR R es' l:=by
 obtain⟨f,v,s,t⟩:=h.pairs;subst v;have key: ∀ {a b:List (AV×AV)},a.Perm b-> ∀f:List ((AV×AV)×MapEntry),f.map (·.1)=a-> ∃i:List ((AV×AV)×MapEntry),i.map (·.1)=b/\i.Perm f:=by
  intro a b u
  induction u with
  | nil=>intro f h;exact⟨f,h, .refl _⟩
  | cons x _ ih=>
   intro f h
   cases f with
   | nil=>simp at h
   | cons p f=>
    simp only[yH,yE]at h;obtain⟨i,m,j⟩:=ih f h.2;exact⟨p::i,by simp[m,h.1],j.cons p⟩
  | swap x y l=>
   intro f h
   match f,h with
   | p::q::f,h=>
    simp only[yH,yE]at h;exact⟨q::p::f,by simp[h.1,h.2.1,h.2.2],List.Perm.swap ..⟩
  | trans _ _ ih1 ih2=>
   intro f h;obtain⟨i,m,j⟩:=ih1 f h;obtain⟨rs,b1,b2⟩:=ih2 i m;exact⟨rs,b1,b2.trans j⟩
 obtain⟨i,m,j⟩:=key hp f rfl;refine⟨i.map (·.2),(j.map _).trans s, ?_⟩;subst m;have o: ∀p∈i,VR R p.1.1 p.2.key/\VR R p.1.2 p.2.val:=fun p hp=>t p (j.subset hp)
 clear j t s hp key h
 induction i with
 | nil=>simp[VRL]
 | cons q i ih=>
  obtain⟨z,C⟩:=ih (fun p hp=>o p (zC _ hp));obtain⟨F,J⟩:=o q (zK ..);exact⟨⟨_,_,rfl,F,z⟩,⟨_,_,rfl,J,C⟩⟩
theorem zNZ {H H':AH}{A:Nat}{o:AObj}(h:fV H A o=some H'): ∃t,T.set 40 H.h A o=some t/\H'=⟨t,H.next⟩:=by
 unfold fV at h;split at h
 .rename_i t a;injection h with h
  exact⟨t,a,h.symm⟩
 .simp at h
def zPi (q:ML)(B:Tb)(D:Dyn)(n nt:Nat)(hb:Hint)(L:List Nat)(vs:List AV)(H:AH)(ks:List Nat)(nb:Nat)(ok:AV->Bool)(M A:Nat):Prop:=
 ∀k v a i,ok v=true->(∀C,C<H.next->C≠M->C≠A->a.h.get C=H.h.get C)->a.h.get A=some (.map ks i)->keyOk ks k=true->H.next<a.next->(∀C,a.next<=C->C<a.next+nb->a.h.get C=none)->True->A<H.next->
  ∃f,q.roundK B D n nt hb L H.next vs k v a=some (.norm (.ptr H.next 0::vs),f)/\f.next=a.next+nb/\f.h.get A=some (.map ks (ups i (k,v)))/\ ∀C,C≠A->(C<a.next\/a.next+nb<=C)->f.h.get C=a.h.get C
theorem zNl {q:ML}{B:Tb}{D:Dyn}{n nt:Nat}{hb:Hint}{L:List Nat}{vs:List AV}{H H':AH}{s:List Nat}{nb:Nat}{ok:AV->Bool}{M A:Nat}(h:zNn s nb ok (.map M) (.map A) H=some H')(b1:q.preK B D nt L vs H=some (.norm (.map M::vs),H))
  (b4:zPi q B D n nt hb L vs H s nb ok M A) (c9:M<H.next) (b5:A<H.next) (b6: ∀O w0,Rel O H w0->(∀v∈vs,∃z,VR O v z)-> ∃b d c,O A b d c):Nonempty (q.Plan B D n nt hb L vs H H'):=by
 unfold zNn at h;simp only at h;split at h
 .rename_i ks es hM;split at h
  .rename_i d0 es' hA;rw[zF]at h;split at h
   .rename_i hc;simp only[zE,yT,y9]at hc;obtain⟨⟨⟨Z,a0⟩,u⟩,a6⟩:=hc;have Z:=ZV _ _ Z;subst Z;have a0:=ZV _ _ a0;subst a0;have u:M≠A:=fun e=>by rw[e]at u;simp at u
    rw[kD,zF]at h;split at h
    .rename_i b7;have Y:=zEJ b7;split at h
     .rename_i H1 b2;injection h with h
      obtain⟨t1,b8,rfl⟩:=zNZ b2;have b9:=T.get_set _ _ _ _ _ b8;have a8:H'.next=H.next+1+nb*es.length:=by rw[<-h]
      have a1: ∀C,H'.h.get C=if C=A then some (.map s (U5 es' es))else H.h.get C:=by rw[<-h];exact b9
      refine⟨{ M:=M,ks:=s,es:=es,inv:=fun i j=>j.next=H.next+1+nb*i.length/\j.h.get A=some (.map s (U5 es' i))/\(∀C,C<H.next->C≠M->C≠A->j.h.get C=H.h.get C)/\ ∀C,j.next<=C->j.h.get C=H.h.get C,pre:=b1,room:=trivial,map:=hM,start:= ?_,step:= ?_,raw:= ?_,fin:= ?_}⟩
      .intro x y s1 s2 a2 a3;have m:=T.get_set _ _ _ _ _ a2;have F:=T.get_set _ _ _ _ _ a3;refine⟨by simp, ?_,fun C f J S=> ?_,fun C f=> ?_⟩
       .simp only[F,m];rw[if_neg (by omega),if_neg (Ne.symm u)];exact hA
       .simp only[F,m];rw[if_neg (by omega),if_neg J]
       .simp only at f;simp only[F,m];rw[if_neg (by omega),if_neg (by omega)]
      .intro i k v rest j ⟨t,U,K,N⟩ p;have V:i.length+1+rest.length=es.length:=by have:=p.length_eq;simp at this;omega
       have b3:nb*(i.length+1)<=nb*es.length:=Nat.mul_le_mul_left _ (by omega);rw[Nat.mul_add,Nat.mul_one]at b3;obtain⟨H3,r1,r2,r3,W⟩:=b4 k v j (U5 es' i) (a6 (k,v) (p.subset (by simp))).2 K U (a6 (k,v) (p.subset (by simp))).1 (by omega) (fun C f J=>by rw[N C f];exact Y C (by omega) (by omega)) trivial b5;refine⟨H3,r1,W _ (by omega) (.inl (by omega)),W _ u (.inl (by omega)), ?_, ?_,fun C f J S=> ?_,fun C f=> ?_⟩
       .rw[r2,t,zT,yL,Nat.mul_add,Nat.mul_one];omega
       .rw[r3,KX]
       .rw[W C S (.inl (by omega))];exact K C f J S
       .rw[W C (by omega) (.inr (by omega))];exact N C (by omega)
      .intro i j y t' ⟨t,U,K,N⟩ hs;have m:=T.get_set _ _ _ _ _ hs;refine⟨t, ?_,fun C f J S=> ?_,fun C f=> ?_⟩
       .simp only[m];rw[if_neg (by omega)];exact U
       .simp only[m];rw[if_neg (by omega)];exact K C f J S
       .simp only at f;simp only[m];rw[if_neg (by omega)];exact N C f
      .intro i j d1 t2 ⟨t,U,K,N⟩ p a2 a3 O w0 R w a4 c5 a5 c8 hR;have m:=T.get_set _ _ _ _ _ a2;have F:=T.get_set _ _ _ _ _ a3;have V:i.length=es.length:=p.length_eq;obtain⟨bA,dA,cA,a9⟩:=b6 O w0 a4 c5;obtain⟨bM,dM,cM,a5⟩:=a5;have e0: ∀C,C≠A-> ∀o,H'.h.get C=some o->t2.get C=some o:=by
        intro C hC o a;rw[a1,if_neg hC]at a;rw[F,m];by_cases c1:C=H.next
        .subst c1;rw[Y _ (zQ _) (by omega)]at a;simp at a
        .rw[if_neg c1];by_cases c2:C=M
         .subst c2;rw[if_pos rfl];rw[hM]at a;exact a
         .rw[if_neg c2];by_cases c3:C<H.next
          .rw[K C c3 c2 hC];exact a
          .by_cases c4:C<H.next+(1+nb*es.length)
           .rw[Y C (by omega) c4]at a;simp at a
           .rw[N C (by rw[t,V];omega)];exact a
       have eA:t2.get A=some (.map s (U5 es' i)):=by
        rw[F,m,if_neg (by omega),if_neg (Ne.symm u)];exact U
       have a7: ∀C,JW H' C->JW ⟨t2,j.next⟩ C:=by
        intro C ⟨o,a,hd⟩;by_cases c:C=A
        .subst c;exact⟨_,eA,trivial⟩
        .exact⟨o,e0 C c o a,hd⟩
       refine⟨⟨hR.fn,fun A1 A2 b d c d' c' r r' l l'=>hR.inj _ _ _ _ _ _ _ r r' (a7 _ l) (a7 _ l'),fun C b d c o r a=> ?_,fun C b d c r=>⟨(hR.lt _ _ _ _ r).1,by have:=(hR.lt _ _ _ _ r).2;simp only at this;rw[a8];rw[t,V]at this;exact this⟩⟩,by rw[a8,t,V],fun C hC hn=> ?_⟩
       .by_cases c0:C=A
        .subst c0;rw[a1,if_pos rfl]at a;injection a with a;subst a
         obtain⟨arr,b0,o1,o2,o3,o4,o5⟩:=hR.obj _ _ _ _ _ r eA;obtain⟨_,_,_,_,_,c6,_⟩:=a4.obj _ _ _ _ _ a9 hA;obtain⟨_,_,_,_,kM,c7,_⟩:=a4.obj _ _ _ _ _ a5 hM;have hp:=zGH (ks:=s) c6 (fun x hx=>kM x (p.subset hx)) (zAm p.symm c7) p;exact⟨arr,b0,o1,o2.perm hp,fun e he=>o3 e (hp.symm.subset he),zAm hp o4,o5⟩
        .exact hR.obj _ _ _ _ _ r (e0 C c0 o a)
       .rw[a1,if_neg (fun e=>by subst e;exact hn _ _ _ a9)]
     .simp at h
    .simp at h
   .simp at h
  .simp at h
 .simp at h
def zNx:List Nat->Code->Code
 | [],c=>c
 | 0::p, .seq a _=>zNx p a
 | _::p, .seq _ b=>zNx p b
 | 0::p, .cond _ a _=>zNx p a
 | _::p, .cond _ _ b=>zNx p b
 | _::p, .block _ b=>zNx p b
 | _::p, .loop b=>zNx p b
 | _,c=>c
def zQU (a:Func)(p:List Nat):Code:=match a.body with
 | some b=>zNx p b
 | none=> .skip
def zQw {α:Type} :List α->List α
 | []=>[]
 | [_]=>[]
 | a::l=>a::zQw l
def zQk {α:Type}(d:α):List α->α
 | []=>d
 | [a]=>a
 | _::l=>zQk d l
def op0:Oper:=⟨none, .alloc 0,0,"", #[],none⟩
def ml0:ML:=⟨0,0,0,[],op0,op0,op0,op0,[],0,0, .skip,0, .tmp 0,0,0,0,0⟩
def zHz:Op->TypeId×Operand
 | .range t x=>(t,x)
 | _=>(0, .tmp 0)
def mlOf:Code->ML
 | .seq (.region rA opsA _) (.block id (.loop (.seq (.region rB opsB _) (.seq (.cond (.tmp ok) .skip (.exit _)) (.block id2 (.seq (.region rC opsC _) body))))))=>
  match opsB.toList,opsC.toList with
  | [oN,oX],oE::rest=>
   let a:=zQk op0 opsA.toList
   ⟨rA,rB,rC,zQw opsA.toList,a,oN,oX,oE,rest,id,id2,body,(zHz a.op).1,(zHz a.op).2,a.dst.getD 0,oN.dst.getD 0,ok,oE.dst.getD 0⟩
  | _,_=>ml0
 | _=>ml0
def aT:Code->Hint->List (Code×List Nat×(List AV->AH->Option AH))
 | .seq a b, .t L m=>[(.seq a b,L,m)]
 | .seq a b, .s ha hb=>aT a ha++aT b hb
 | .cond _ a b, .c _ ha hb=>aT a ha++aT b hb
 | .cond _ a b, .cl ha hb=>aT a ha++aT b hb
 | .cond _ a b, .cr ha hb=>aT a ha++aT b hb
 | .block _ b, .b _ hb=>aT b hb
 | .block _ b, .b0 hb=>aT b hb
 | .loop b, .l _ hb=>aT b hb
 | _,_=>[]
def zCX:Hint->Bool
 | .o=>true
 | .s a b=>zCX a&&zCX b
 | .c _ a b=>zCX a&&zCX b
 | .cl a b=>zCX a&&zCX b
 | .cr a b=>zCX a&&zCX b
 | .b _ a=>zCX a
 | .b0 a=>zCX a
 | .l _ a=>zCX a
 | .rf _ _=>false
 | .t _ _=>true
theorem zO6 {P:Program}(f0:FuncId)(nt:Nat): ∀(c:Code) (h:Hint),zCX h=true->(∀x∈aT c h,VM P nt f0 x.1 x.2.1 x.2.2)->kN P f0 nt c h:=by
 intro c
 induction c with
 | seq a b iha ihb=>
  intro h j i
  cases h<;>simp only[kN]
  .simp only[zCX,zE]at j;simp only[aT,qB]at i;exact⟨iha _ j.1 (fun x m=>i x (.inl m)),ihb _ j.2 (fun x m=>i x (.inr m))⟩
  .exact i (.seq a b,_,_) (by simp[aT])
 | cond c a b iha ihb=>
  intro h j i
  cases h<;>simp only[kN]<;>
   (simp only[zCX,zE]at j
    simp only[aT,qB]at i;exact⟨iha _ j.1 (fun x m=>i x (.inl m)),ihb _ j.2 (fun x m=>i x (.inr m))⟩)
 | block id b ih=>
  intro h j i
  cases h<;>simp only[kN]<;>first | exact ih _ j i | trivial
 | loop b ih=>
  intro h j i
  cases h<;>simp only[kN]
  exact ih _ j i
 | rangeFunc f ps a b _ _=>intro h j i;cases h<;>simp_all [kN,zCX]
 | _=>intro h j i;simp[kN]
def zE6 (a:Func)(h:Hint):List (Code×List Nat×(List AV->AH->Option AH)):=match a.body with
 | some b=>aT b h
 | none=>[]
theorem zHh {f:FuncId}{a:Func}{h:Hint}(i:zCX h=true)(j: ∀x∈zE6 a h,VM PP a.ntmps f x.1 x.2.1 x.2.2): ∀body,a.body=some body->kN PP f a.ntmps body h:=by
 intro body hb;refine zO6 _ _ _ _ i (fun x m=>j x ?_);unfold zE6;rw[hb];exact m
theorem zNk {X:Cx}(hX:Ok PP X){q:ML}{nt:Nat}(o:q.Fits nt){L:List Nat}(f: ∀l∈q.it::L,l≠q.nx/\l≠q.ok/\l≠q.en)(h: ∀l∈L,l≠q.it){hb:Hint}(i:VV hb=true){f0:FuncId}{kt vt:TypeId}(j:X.und q.t=some (.map kt vt)){a:List AV->AH->Option AH}
  (m: ∀vs H H',a vs H=some H'->Nonempty (q.Plan ⟨X,[]⟩ VZ 0 nt hb L vs H H')):VM PP nt f0 q.code L a:=
 zFX (B:=⟨X,[]⟩) (D:=VZ) hX (zAB zAP SOk.nil) o f h (zAq _ _ _ _ i) j m
theorem zI9 {H:AH}(o:AObj)(h:H.h.get H.next=none): ∃t,T.set 40 H.h H.next o=some t/\ ∀K,VQ H o K=K H.next ⟨t,H.next+1⟩:=by
 obtain⟨t,a⟩:=qO.1 (T.set_some 40 H.h H.next o)
 exact⟨t,a,fun K=>by simp only[VQ,h,a,kD]⟩
theorem zLl {A o:Nat}{H:AH}{v:AV}(h:ld1 (.ptr A o) H=some v): ∃l e sz g,H.h.get A=some (.cells l e sz g)/\nth l o=some v:=by
 unfold ld1 at h;simp only at h;split at h
 .rename_i l e sz g a;exact⟨l,e,sz,g,a,h⟩
 .simp at h
theorem zQj {A o:Nat}{H:AH}{v:AV}{l:List AV}{e:TypeId}{sz:Nat}{g:Bool}(a:H.h.get A=some (.cells l e sz g))(h:nth l o=some v):ld1 (.ptr A o) H=some v:=by
 simp only[ld1,a,h]
theorem zLo {R:Ren}{H:AH}{w:World}(hR:Rel R H w){A b d c:Nat}(hr:R A b d c){l:List AV}{e:TypeId}{sz:Nat}{g:Bool}(f:H.h.get A=some (.cells l e sz g)){o M:Nat}(a:nth l o=some (.map M)): ∃b d c,R M b d c:=by
 obtain⟨_,_,_,l',_,_,_,_,hl,_⟩:=hR.obj _ _ _ _ _ hr f;rw[QI]at a;obtain⟨v,_,i⟩:=VRL.get _ _ hl _ _ a;obtain⟨b,d,c,h,_⟩:=i;exact⟨b,d,c,h⟩
theorem zGI {a:List Nat}{nb:Nat}{ok:AV->Bool}{M A:Nat}{H H':AH}(h:zNn a nb ok (.map M) (.map A) H=some H'):(∃ks es,H.h.get M=some (.map ks es))/\ ∃ks es,H.h.get A=some (.map ks es):=by
 unfold zNn at h;simp only at h;split at h
 .rename_i f;split at h
  .rename_i i;exact⟨⟨_,_,f⟩,_,_,i⟩
  .simp at h
 .simp at h
theorem zNm {ks:List Nat}{A:Nat}{k v:AV}{H:AH}{i:List (AV×AV)}(j:keyOk ks k=true)(m:H.h.get A=some (.map ks i)): ∃t,T.set 40 H.h A (.map ks (ups i (k,v)))=some t/\upM ks (.map A) k v H=some (jO,⟨t,H.next⟩):=by
 obtain⟨t,f⟩:=qO.1 (T.set_some 40 H.h A (.map ks (ups i (k,v))));refine⟨t,f, ?_⟩;have p:QX ks ks=true:=by
  clear f m j
  induction ks with
  | nil=>rfl
  | cons a l ih=>simp[QX,ih]
 simp only[upM,j,m,p,zM];unfold ups at f;simp only at f
 cases o:zB5 k v i with
 | some r=>rw[o]at f;simp only[fV,f]
 | none=>rw[o]at f;simp only[fV,f]
def isAg (n:Nat)(v:AV):Bool:=match v with
 | .agg l=>Nat.beq (Z4 l 0) n&&jP l
 | _=>false
theorem zIp {n:Nat}{v:AV}(h:isAg n v=true): ∃l,v= .agg l/\l.length=n/\jP l=true:=by
 unfold isAg at h;split at h
 .rename_i l;simp only[zE,zY,jX]at h;exact⟨l,rfl,h.1,h.2⟩
 .simp at h
theorem zBf: ∀(l:List AV),takeN l.length l=some l
 | []=>rfl
 | a::l=>by simp[takeN,zBf l]
theorem zHl {l c:List AV}(h:c.length=l.length):setAt c 0 l=some l:=by
 have: ∀(c l:List AV),c.length=l.length->over c l=some l:=by
  intro c
  induction c with
  | nil=>intro l h;cases l with
   | nil=>rfl
   | cons=>simp at h
  | cons a c ih=>intro l h;cases l with
   | nil=>simp at h
   | cons b l=>simp only[zW,Nat.add_right_cancel_iff]at h;simp[over,ih l h]
 cases c with
 | nil=>cases l with
  | nil=>rfl
  | cons=>simp at h
 | cons a c=>simpa[setAt]using this (a::c) l h
theorem zNC {n A:Nat}{H:AH}{cs l:List AV}{e:TypeId}{sz:Nat}{g:Bool}(f:H.h.get A=some (.cells l e sz g))(hl:l.length=n)(i:cs.length=n)(j:jP cs=true)(m:Nat.blt 0 sz=true): ∃t,T.set 40 H.h A (.cells cs e sz g)=some t/\stN n (.ptr A 0) (.agg cs) H=some (jO,⟨t,H.next⟩):=by
 obtain⟨t,a⟩:=qO.1 (T.set_some 40 H.h A (.cells cs e sz g));refine⟨t,a, ?_⟩;have hb:(cs.length.beq n)=true:=by rw[zY];exact i
 simp only[stN,f,jT,jX,hb,j,m,Bool.and_true,zM,zHl (show l.length=cs.length by omega),fV,a]
theorem zOe {n A:Nat}{H:AH}{cs:List AV}{e:TypeId}{sz:Nat}{g:Bool}(f:H.h.get A=some (.cells cs e sz g))(i:cs.length=n):ldN n (.ptr A 0) H=some (.agg cs):=by
 subst i;have:uU cs 0 cs.length=some cs:=by
  cases cs with
  | nil=>rfl
  | cons a l=>simpa[uU]using zBf (a::l)
 simp only[ldN,f,this]
end Go.Eng
end
section
namespace Go.Proofs
open Go.Shelf
def Tryz.laysInsert_ren:Go.Shelf.Ren:=⟨fun | 22=>138 | 29=>187 | 30=>188 | 36=>219 | 17=>229 | n=>n,fun | 24=>117 | 9=>9 | 3=>3 | 4=>4 | 0=>0 | n=>n,fun | n=>n⟩
theorem Tryz.laysInsert:Go.Proofs.Lays2.n22 Tryz.prog Tryz.laysInsert_ren:= {
 mixed:=by kernel_rfl
 f17:=Tryz.func229.trans (congrArg some (by kernel_rfl))
 f22:=Tryz.func138.trans (congrArg some (by kernel_rfl))
 f29:=Tryz.func187.trans (congrArg some (by kernel_rfl))
 f30:=Tryz.func188.trans (congrArg some (by kernel_rfl))
 f36:=Tryz.func219.trans (congrArg some (by kernel_rfl))
 t0:=Tryz.underlying0
 a0:=Tryz.isAgg0
 z0:=Tryz.sizeOf0
 v0:=Tryz.zeroValue0
 t3:=Tryz.underlying3
 a3:=Tryz.isAgg3
 z3:=Tryz.sizeOf3
 v3:=Tryz.zeroValue3
 t4:=Tryz.underlying4
 a4:=Tryz.isAgg4
 z4:=Tryz.sizeOf4
 v4:=Tryz.zeroValue4
 t9:=Tryz.underlying9
 a9:=Tryz.isAgg9
 z9:=Tryz.sizeOf9
 v9:=Tryz.zeroValue9
 t24:=Tryz.underlying117
 a24:=Tryz.isAgg117
 z24:=Tryz.sizeOf117
 v24:=Tryz.zeroValue117
 i9:=by kernel_rfl}
end Go.Proofs
end
section
namespace Go.Eng
open Go.Proofs
noncomputable def zPu (e:Nat)(vs:List AV)(H:AH):Option (AV×AH):=
 match vs with
 | [.slice A off len cc, .int .i64 (.ofNat i), .slice B o2 m _]=>
  match H.h.get A,H.h.get B with
  | some (.cells l e' sz g),some (.cells lB _ sB gB)=>
   bif g&&(!gB&&Nat.blt 0 sB)&&Nat.beq off 0&&Nat.beq cc 1&&Nat.beq sz 1&&Nat.beq e' e&&Nat.blt i len&&Nat.blt 0 m&&Nat.beq (Z4 l 0) len&&Nat.ble ((len+m)*16) 140737488355328&&jP l then
    match uU lB o2 m with
    | some new=>bif jP new then
      match fV H A .dead with
      | some H1=>aW (len+m) e 1 (l.take i++new++l.drop i) H1
      | none=>none
     else none
    | none=>none
   else none
  | _,_=>none
 | _=>none
theorem vF (b:Nat)(e:TypeId)(a:Nat×Nat): ∀(vs:List Value) (o:Nat) (w:World) (arr:Array Value),w.heap[b]? =some (.cells arr e a)->w.setCells b o vs=vU w b (.cells (wS arr o vs) e a)
 | [],o,w,arr,h=>by simp only[World.setCells,wS];exact(KS w b _ h).symm
 | v::vs,o,w,arr,h=>by
  have hb:b<w.heap.size:=(Array.getElem?_eq_some_iff.1 h).1;have m:w.setCell ⟨b,o,none⟩ v=vU w b (.cells (arr.setIfInBounds o v) e a):=by
   have p:w.heap[b]= .cells arr e a:=by
    have:=(Array.getElem?_eq_some_iff.1 h).2;exact this
   unfold World.setCell vU;congr 1;apply Array.ext
   .simp
   .intro j f q;simp only[Array.size_modify]at f;rw[Array.getElem_modify,Array.getElem_setIfInBounds]
    .by_cases i:b=j
     .subst i;simp[p]
     .simp[i]
    .exact f
  rw[World.setCells,m,vF b e a vs (o+1) _ (arr.setIfInBounds o v) (bB _ _ _ hb),Q5];rfl
theorem zFB (w:World)(o x:Obj):vU (w.alloc o) w.heap.size x=w.alloc x:=by
 unfold vU World.alloc;congr 1;apply Array.ext
 .simp
 .intro j f h;simp at f h;rw[Array.getElem_setIfInBounds]
  .by_cases a:w.heap.size=j
   .subst a;simp
   .have:j<w.heap.size:=by omega
    simp only[if_neg a];rw[Array.getElem_push,Array.getElem_push,dif_pos this,dif_pos this]
  .simp;omega
theorem UM {v:Value}(h:zQb v):v.oneCell'=true:=by cases v<;>simp_all [zQb,Value.oneCell']
theorem zPY {α:Type}{pre l a vs:List α}{d i m n:Nat}(hd:pre.length=d)(j:l.length=n)(hi:i<=n)(o:vs.length=m)(p:m<=a.length):
  ((pre++(l++a)).take (d+(i+m))++l.drop i++(pre++(l++a)).drop (d+(i+m)+(l.drop i).length)).take (d+i)++vs++((pre++(l++a)).take (d+(i+m))++l.drop i++(pre++(l++a)).drop (d+(i+m)+(l.drop i).length)).drop (d+i+vs.length)=pre++((l.take i++vs++l.drop i)++a.drop m):=by
 have q:((pre++(l++a)).take (d+(i+m))).length=d+i+m:=by simp;omega
 have f:((pre++(l++a)).take (d+(i+m))++l.drop i++(pre++(l++a)).drop (d+(i+m)+(l.drop i).length)).take (d+i)=pre++l.take i:=by
  rw[qI,List.take_append_of_le_length (by omega),List.take_take,Nat.min_eq_left (by omega),List.take_append,zX (by omega),List.take_append,show d+i - pre.length=i from by omega,show i - l.length=0 from by omega];simp
 have h:((pre++(l++a)).take (d+(i+m))++l.drop i++(pre++(l++a)).drop (d+(i+m)+(l.drop i).length)).drop (d+i+vs.length)=l.drop i++a.drop m:=by
  rw[qI,yY (by omega)];congr 1;rw[qK,List.drop_append,qT (by omega),List.drop_append,qT (by omega),show d+(i+m)+(l.length - i) - pre.length - l.length=m from by omega];simp
 rw[f,h];simp
theorem growL {α:Type}{a f h vs r:List α}{i m k:Nat}(j:a.length=i)(t:f.length=m+k)(u:vs.length=m)(hr:r.length=k):
  ((a++f++h).take i++vs++(a++f++h).drop (i+vs.length)).take (i+m)++r++((a++f++h).take i++vs++(a++f++h).drop (i+vs.length)).drop (i+m+r.length)=(a++vs++r)++h:=by
 have o:(a++f++h).take i=a:=by rw[qI,j9 j]
 have p:(a++f++h).drop (i+vs.length)=f.drop m++h:=by
  rw[qI,List.drop_append,qT (by omega),List.drop_append,show i+vs.length - a.length=m from by omega,show m - f.length=0 from by omega];simp
 rw[o,p];have q:(a++vs++(f.drop m++h)).take (i+m)=a++vs:=j9 (by simp;omega);have s:(a++vs++(f.drop m++h)).drop (i+m+r.length)=h:=by
  rw[<-qI,yY (by simp;omega)]
 rw[q,s]
theorem zOl {R:Ren}{H H':AH}{w:World}{args:List AV}{az:List Value}{v:AV}(h:zPu (Tryz.laysInsert_ren.t 9) args H=some (v,H'))(o:VRL R args az)(hL:Rel R H w):
  H.next<=H'.next/\ ∃(z:Value) (W:World) (Y:Ren),Calls PP (Tryz.laysInsert_ren.f 22) ⟨az⟩ w (fun e w1=>e= .returned z/\w1=W)/\VR Y v z/\Rel Y H' W/\Ext R H w Y H' W:=by
 unfold zPu at h;split at h
 .rename_i A off len cc i B p m c2;split at h
  .rename_i l e' sz g lB eB f6 gB K L;rw[zF]at h;split at h
   .rename_i hc;simp only[zE,zY,qD,qV,yT]at hc;obtain⟨⟨⟨⟨⟨⟨⟨⟨⟨⟨rfl,rfl,e2⟩,rfl⟩,rfl⟩,rfl⟩,rfl⟩,hi⟩,hm⟩,e3⟩,d4⟩,e4⟩:=hc;rw[jX]at e3;split at h
    .rename_i new d5;rw[zF]at h;split at h
     .rename_i e5;split at h
      .rename_i H1 x;obtain⟨s,u,rfl⟩: ∃s,T.set 40 H.h A .dead=some s/\H1=⟨s,H.next⟩:=by
        unfold fV at x;split at x
        .rename_i s u;simp only[zB]at x;exact⟨s,u,x.symm⟩
        .simp at x
       unfold aW at h;split at h
       .rename_i A2 H2 e6;obtain⟨t2,F,rfl,rfl,_⟩:=fW e6;simp only[kD,zB,zU]at h;obtain⟨rfl,rfl⟩:=h;refine⟨Nat.le_succ _, ?_⟩;obtain⟨v1,f7,rfl,e7,o⟩:=o;obtain⟨v2,f8,rfl,c0,o⟩:=o;obtain⟨v3,f9,rfl,e8,o⟩:=o;simp only[VRL]at o;subst o;obtain⟨b,d,c,hR,rfl⟩:=e7;simp only[VR]at c0;subst c0;obtain⟨b2,N,c1,c3,rfl⟩:=e8;obtain⟨arr,y,pre,l',a9,C,Z,a3,O,a5,a6,a7,sp,a8⟩:=hL.cellsAt K hR;obtain⟨d6,g0,d7,c4,f5,b1,e9,b3,b4,b5,b6,b7,_⟩:=hL.cellsAt L c3;obtain⟨rfl,g1⟩:=dV _ _ _ _ d5;obtain⟨a6,d8⟩:=a6 rfl;obtain⟨rfl,d9⟩:=b5 rfl;obtain rfl:=d9.1 e2;have b0:uS 1 c=c:=by rw[xK c (by omega)];simp
        rw[b0];have f1:b2≠b:=fun e=>by
         subst e;have:=hL.inj _ _ _ _ _ _ _ hR c3 (Rel.live K) (Rel.live L);subst this;rw[K]at L;simp at L
        have g2:=zRb _ _ O;have g3:=zRb _ _ b4;have S:VRL R ((lB.drop p).take m) ((c4.drop p).take m):=(b4.drop p).take m;generalize b8:(c4.drop p).take m=vs' at S;have J:vs'.length=m:=by rw[<-b8];simp;omega
        have g4:arr.size=d+l'.length+a9.length:=by
         have:=congrArg List.length Z;simp at this;omega
        have b9: ∀j v,l'[j]? =some v->w.cell? ⟨b,d+0+j,none⟩=some v:=fun j v a=>by
         simp only[World.cell?,C];have c5:=(qR.1 a).1;rw[<-yS,Z,jA (by omega),show d+0+j - pre.length=j from by omega,yX c5];simpa using a
        have c6: ∀j v,vs'[j]? =some v->w.cell? ⟨b2,N+p+j,none⟩=some v:=fun j v a=>by
         simp only[World.cell?,b1];have c5:=(qR.1 a).1;rw[<-b8,List.getElem?_take,jE]at a;rw[<-yS,e9,jA (by omega),show N+p+j - d7.length=p+j from by omega,qX];split at a
         .simpa using a
         .simp at a
        have c7: ∀v∈l',v.oneCell'=true:=fun v o=>UM (bX O e4 v o)
        have c8: ∀v∈vs',v.oneCell'=true:=fun v o=>UM (bX S e5 v o)
        have a0:VRL R (l.take i++(lB.drop p).take m++l.drop i) (l'.take i++vs'++l'.drop i):=((O.take i).append S).append (O.drop i);by_cases d3:len+m<=c
        .have q:=Any2.slices_Insert_string_shift Tryz.laysInsert b (d+0) len c i b2 (N+p) m (uS c2 c1) l' vs' w hi hm d3 (by omega) f1 (by omega) J b9
          (fun j a=>by
           simp only[World.cell?,C];simp;omega)
          (fun j a=>by
           have:=a7 (by decide) (d+0+j) (by omega);simp only[World.frozen?,C];simp only[Bool.and_eq_false_iff,yP];by_cases h0:y.1<=d+0+j
           .exact .inr fun h1=>this ⟨h0,h1⟩
           .exact .inl h0)
          c6 c7 c8 eB (Tryz.laysInsert_ren.t 9) d6.size arr.size (by simp only[World.shape?,b1]) (by simp only[World.shape?,C]) (by omega) (by simp only[World.frozen?,b1];simp) (by simp only[World.frozen?,b1];simp)
         have V:(w.drew).heap[b]? =some (.cells arr (Tryz.laysInsert_ren.t 9) y):=C;have U:b<w.heap.size:=(hL.lt _ _ _ _ hR).1;rw[vF b _ y _ _ _ _ V,vF b _ y _ _ _ _ (bB w.drew _ _ U),Q5]at q;refine⟨_,_,R.add H.next b d c,q,⟨b,d,c,R.add_self _ _ _ _,by simp[b0]⟩, ?_, ?_⟩
         .refine(hL.drew (w.drawn+1)).move hR (Rel.live K) u F ?_;refine⟨_,y,pre,l'.take i++vs'++l'.drop i,a9.drop m,rfl, ?_,a3,VRL.mono (R.sub_add _ _ _ _) _ _ a0,fun h=>by simp at h,fun _=>⟨?_,d8⟩,fun hz j a=> ?_,_,VRL.mono (R.sub_add _ _ _ _) _ _ (a8.drop m)⟩
          .rw[wZ _ _ _ (by rw[u6];omega),wZ _ _ _ (by simp;omega),Z,Nat.add_zero];exact zPY a3 (by omega) (by omega) J (by omega)
          .simp;omega
          .rw[u6,u6]at a;exact a7 hz j a
         .exact(Ext.drew R H w (w.drawn+1)).trans (Ext.move (w:=w.drew) hR u F)
        .have q:=Any2.slices_Insert_string_grow Tryz.laysInsert b (d+0) len c i b2 (N+p) m (uS c2 c1) l' vs' w hi hm (by omega) (by omega) d4 (by omega) J b9 c6 c7 c8;generalize hG:grownCap w (len+m) c (Tryz.laysInsert_ren.t 9)=G at q;have g5:len+m<=G:=by rw[<-hG];simp only[grownCap,Question.cut];omega
         have f2:G<9223372036854775808:=by
          rw[<-hG];simp only[grownCap,Question.cut];have:=Nat.mod_lt (w.tape w.drawn (.appendCap (len+m) c (Tryz.laysInsert_ren.t 9))) (show 2 ^ 63 - (len+m)>0 by omega);omega
         generalize e0:((l'.take i).toArray++Builtin.zeroCells (Value.string ⟨#[]⟩).cells (len+m - i)++Builtin.zeroCells (Value.string ⟨#[]⟩).cells (G - (len+m)))=ROW at q;have c9:ROW.toList=l'.take i++(Builtin.zeroCells (Value.string ⟨#[]⟩).cells (len+m - i)).toList++(Builtin.zeroCells (Value.string ⟨#[]⟩).cells (G - (len+m))).toList:=by rw[<-e0];simp
         have d0:(Builtin.zeroCells (Value.string ⟨#[]⟩).cells (len+m - i)).toList.length=m+(len - i):=by
          rw[yU,u9];simp[Value.cells];omega
         have d1:(Builtin.zeroCells (Value.string ⟨#[]⟩).cells (G - (len+m))).toList.length=G - (len+m):=by
          rw[yU,u9];simp[Value.cells]
         have g6:ROW.size=G:=by
          have:=congrArg List.length c9;simp only[zT,d0,d1,qA,yU]at this;omega
         have V:((w.alloc (.cells ROW (Tryz.laysInsert_ren.t 9))).drew).heap[w.heap.size]? =some (.cells ROW (Tryz.laysInsert_ren.t 9)):=bL w _;have U:w.heap.size< ((w.alloc (.cells ROW (Tryz.laysInsert_ren.t 9))).drew).heap.size:=by
          have:=kS w (.cells ROW (Tryz.laysInsert_ren.t 9));show w.heap.size< (w.alloc (.cells ROW (Tryz.laysInsert_ren.t 9))).heap.size;omega
         rw[vF _ _ (0,0) _ _ _ _ V]at q;have f3:((vU (w.alloc (.cells ROW (Tryz.laysInsert_ren.t 9))).drew w.heap.size (.cells (wS ROW i vs') (Tryz.laysInsert_ren.t 9))).drew).heap[w.heap.size]? =some (.cells (wS ROW i vs') (Tryz.laysInsert_ren.t 9)):=bB _ _ _ U;rw[vF _ _ (0,0) _ _ _ _ f3]at q;have f4:vU ((vU (w.alloc (.cells ROW (Tryz.laysInsert_ren.t 9))).drew w.heap.size (.cells (wS ROW i vs') (Tryz.laysInsert_ren.t 9))).drew) w.heap.size (.cells (wS (wS ROW i vs') (i+m) (l'.drop i)) (Tryz.laysInsert_ren.t 9))
           =(w.drew.drew).alloc (.cells (wS (wS ROW i vs') (i+m) (l'.drop i)) (Tryz.laysInsert_ren.t 9)):=by
          have e1:(vU (w.alloc (.cells ROW (Tryz.laysInsert_ren.t 9))).drew w.heap.size (.cells (wS ROW i vs') (Tryz.laysInsert_ren.t 9))).drew=vU ((w.drew.drew).alloc (.cells ROW (Tryz.laysInsert_ren.t 9))) w.heap.size (.cells (wS ROW i vs') (Tryz.laysInsert_ren.t 9)):=rfl;rw[e1,Q5];exact zFB (w.drew.drew) _ _
         rw[f4]at q;refine⟨_,_,R.add H.next w.heap.size 0 G,q,⟨w.heap.size,0,G,R.add_self _ _ _ _,by rw[xK G (by omega)];simp⟩, ?_, ?_⟩
         .have hk:Rel R ⟨s,H.next⟩ w.drew.drew:=(hL.kill u).drew _
          refine hk.new F ?_;refine⟨_,(0,0),[],l'.take i++vs'++l'.drop i,(Builtin.zeroCells (Value.string ⟨#[]⟩).cells (G - (len+m))).toList,rfl, ?_,rfl,VRL.mono (R.sub_add _ _ _ _) _ _ a0,fun h=>by simp at h,fun _=>⟨?_,f2⟩,fun _ j _=>by simp,_,dQ (UN _ (.string ⟨#[]⟩) (.str 0 0) rfl) _⟩
          .rw[wZ _ _ _ (by rw[u6];simp;omega),wZ _ _ _ (by omega),c9,qS];exact growL (by simp;omega) d0 J (by simp;omega)
          .rw[d1];simp;omega
         .exact(Ext.kill hR u).trans ((Ext.drew R ⟨s,H.next⟩ w (w.drawn+2)).trans (Ext.add (w:=w.drew.drew) F))
       .simp at h
      .simp at h
     .simp at h
    .simp at h
   .simp at h
  .simp at h
 .simp at h
noncomputable def zOn (m:List AV->AH->Option (AV×AH))(vs:List AV)(H:AH):Option (AV×AH):=match m vs H with
 | some r=>some r
 | none=>zPu (Tryz.laysInsert_ren.t 9) vs H
theorem zOm {f:FuncId}{m:List AV->AH->Option (AV×AH)}(p:f= Tryz.laysInsert_ren.f 22)(hm:FI f m):FI f (zOn m):=by
 intro az H v H' h;unfold zOn at h;split at h
 .rename_i r hr;injection h with h;subst h
  exact hm az H v H' hr
 .have i:H.next<=H'.next:=by
   unfold zPu at h;split at h
   .split at h
    .rw[zF]at h;split at h
     .split at h
      .rw[zF]at h;split at h
       .split at h
        .rename_i q a;have O:=xB a;unfold aW at h;split at h
         .rename_i A2 S j;obtain⟨T,N,rfl,rfl,_⟩:=fW j;simp only[kD,zB,zU]at h;rw[<-h.2];show H.next<=q.next+1
          omega
         .simp at h
        .simp at h
       .simp at h
      .simp at h
     .simp at h
    .simp at h
   .simp at h
  subst p;refine⟨i,⟨_, Tryz.laysInsert.f22,rfl⟩,fun R U cs w s hL=> ?_⟩;obtain⟨_,z,V,t,u,x,y,C⟩:=zOl h s hL;obtain⟨e,F,o,⟨rfl,rfl⟩,J,K,L⟩:=u cs;exact⟨t,F,z,o,J,K,L,x,y,C⟩
def cellAV (N:Nat):Value->AV
 | .bool b=> .bool b
 | .int k n=> .int k n
 | .string s=> .str s.size (pack s.data.toList)
 | .slice none 0 0=> .nilSlice
 | .slice (some ⟨b,o,none⟩) len cap=>bif Nat.blt b N then .slice b o len (2*cap)else .val (.slice (some ⟨b,o,none⟩) len cap)
 | v=> .val v
def aB (N:Nat):Value->AV
 | .slice (some _) 0 0=> .emptySl
 | v=>cellAV N v
def argAV (N:Nat):Value->AV
 | .agg a=> .agg (a.toList.map (aB N))
 | v=>aB N v
def cOf:Option Obj->Nat
 | some (.cells _ _ fz)=>enc fz
 | _=>0
def RId (w:World):Ren:=fun A b d c=>A=b/\b<w.heap.size/\d=0/\c=cOf w.heap[b]?
theorem zCB (w:World)(v:Value):VR (RId w) (cellAV w.heap.size v) v:=by
 unfold cellAV;split
 .rfl
 .rfl
 .exact⟨_,rfl,rfl,rfl⟩
 .rfl
 .rename_i b o len cap;rw[zF];split
  .rename_i h;exact⟨b,0,_,⟨rfl,by simpa using h,rfl,rfl⟩,by simp[uS,jC]⟩
  .rfl
 .rfl
theorem BV (w:World): ∀l:List Value,VRL (RId w) (l.map (cellAV w.heap.size)) l
 | []=>rfl
 | v::l=>⟨v,l,rfl,zCB w v,BV w l⟩
theorem BY (w:World)(v:Value):VR (RId w) (aB w.heap.size v) v:=by
 unfold aB;split
 .exact⟨_,_,rfl⟩
 .exact zCB w _
theorem VF (w:World): ∀l:List Value,VRL (RId w) (l.map (aB w.heap.size)) l
 | []=>rfl
 | v::l=>⟨v,l,rfl,BY w v,VF w l⟩
theorem zMa (w:World)(v:Value):VR (RId w) (argAV w.heap.size v) v:=by
 unfold argAV;split
 .rename_i a;exact⟨a.toList,by simp,VF w a.toList⟩
 .exact BY w _
theorem zCM (w:World): ∀l:List Value,VRL (RId w) (l.map (argAV w.heap.size)) l
 | []=>rfl
 | v::l=>⟨v,l,rfl,zMa w v,zCM w l⟩
theorem zDM {w:World}{R:Ren}(f:Sub (RId w) R)(i: ∀A b d c b' d' c',R A b d c->R A b' d' c'->b=b'/\d=d'/\c=c'){v a:Value}(h:VR R (cellAV w.heap.size v) a):a=v:=by
 unfold cellAV at h;split at h
 .exact h
 .exact h
 .rename_i s;obtain⟨s',rfl,j,m⟩:=h;have:s'.data.toList=s.data.toList:=QH _ _ (by rw[size_data,size_data,j]) m;congr 1
  cases s;cases s';simp only at this;congr 1
  exact Array.toList_inj.1 this
 .exact h
 .rename_i b o len cap;rw[zF]at h;split at h
  .rename_i hb;obtain⟨b',d,c,hr,rfl⟩:=h;obtain⟨rfl,rfl,rfl⟩:=i _ _ _ _ _ _ _ hr (f b b 0 _ ⟨rfl,by simpa using hb,rfl,rfl⟩);simp[uS,jC]
  .exact h
 .exact h
theorem JS {w:World}{R:Ren}(a:Sub (RId w) R)(f: ∀A b d c b' d' c',R A b d c->R A b' d' c'->b=b'/\d=d'/\c=c'): ∀ {l l':List Value},VRL R (l.map (cellAV w.heap.size)) l'->l'=l
 | [],_,h=>h
 | v::l,_,h=>by
  obtain⟨m,l',rfl,i,j⟩:=h;rw[zDM a f i,JS a f j]
def zL9 (N:Nat):Obj->AObj
 | .cells arr e _=> .cells (arr.toList.map (cellAV N)) e 0 false
 | x=> .raw x
theorem WU {α:Type} : ∀(xs:List α) (i:Nat) (t:T α),(T.ofList i xs t).isSome=true
 | [],_,_=>rfl
 | x::xs,i,t=>by
  obtain⟨f,a⟩:=qO.1 (T.set_some 40 t i x);simp only[T.ofList,a];exact WU xs _ _
noncomputable def H0 (w:World):AH:=⟨(T.ofList 0 (w.heap.toList.map (zL9 w.heap.size)) .leaf).getD .leaf,w.heap.size⟩
theorem zFA (w:World)(A:Nat):(H0 w).h.get A=w.heap[A]?.map (zL9 w.heap.size):=by
 obtain⟨t,a⟩:=qO.1 (WU (w.heap.toList.map (zL9 w.heap.size)) 0 .leaf);simp only[H0,a,qZ];rw[T.get_ofList _ _ _ _ a];simp only[Nat.zero_le,true_and,yW,jB,yU,jD];split
 .simp
 .rename_i h;rw[T.get_leaf,Array.getElem?_eq_none (by omega)];rfl
theorem H0_ok (w:World): ∀A,(H0 w).next<=A->(H0 w).h.get A=none:=fun A h=>by
 rw[zFA,Array.getElem?_eq_none (by exact h)];rfl
theorem zMo (w:World){b:Nat}{arr:Array Value}{e:TypeId}{a:Nat×Nat}(h:w.heap[b]? =some (.cells arr e a)):(H0 w).h.get b=some (.cells (arr.toList.map (cellAV w.heap.size)) e 0 false):=by
 rw[zFA,h];rfl
theorem zR5 (w:World):Rel (RId w) (H0 w) w:=by
 refine⟨?_, ?_, ?_, ?_⟩
 .rintro A b d c b' d' c' ⟨rfl,_,rfl,rfl⟩ ⟨rfl,_,rfl,rfl⟩;exact⟨rfl,rfl,rfl⟩
 .rintro A j b d c d' c' ⟨rfl,_,rfl,rfl⟩ ⟨rfl,_,rfl,rfl⟩ _ _;rfl
 .rintro A b d c o ⟨rfl,_,rfl,rfl⟩ a
  rw[zFA]at a;obtain⟨x,f,rfl⟩:=Option.map_eq_some_iff.1 a;rw[f];unfold zL9;split
  .rename_i arr e i;exact⟨arr,i,[],arr.toList,[],rfl,by simp,rfl,BV _ _,fun _=>⟨rfl,fun h=>absurd h (Nat.lt_irrefl 0),fun _=>rfl⟩,fun h=>by simp at h,fun h=>absurd h (Nat.lt_irrefl 0),[],rfl⟩
  .rfl
 .rintro A b d c ⟨rfl,h,rfl,rfl⟩;exact⟨h,h⟩
theorem calls_param {f:FuncId}{m:List AV->AH->Option (AV×AH)}(hm:FI f m)(w:World){args:Array Value}{H':AH}
  (h:m (args.toList.map (argAV w.heap.size)) (H0 w)=some (.bool true,H')) (y: ∀A,A<w.heap.size->H'.h.get A=(H0 w).h.get A):
  Calls PP f args w fun e o=>e= .returned (.bool true)/\RowKit.Below w.heap.size w o:=by
 intro cs;obtain⟨_,_,C⟩:=hm _ _ _ _ h;obtain⟨Z,o,z,u,F,J,K,p,q,a⟩:=C (RId w) args.toList cs w (zCM _ _) (zR5 w);simp only[VR]at p;subst p;refine⟨.returned (.bool true),o,u,⟨rfl, ?_⟩,F,J,K⟩;refine⟨a.os,a.tape,a.output,a.size,fun k j=> ?_⟩;have hr:=a.sub k k 0 _ ⟨rfl,j,rfl,rfl⟩;have s:w.heap[k]? =some w.heap[k]:=Array.getElem?_eq_getElem j;have t:=y k j;rw[zFA,s]at t;have i:=q.obj _ _ _ _ _ hr t;rw[s]at i⊢;generalize w.heap[k]=x at i
 cases x with
 | cells arr e fz=>
  obtain⟨arr',v,pre,l',Y,L,N,O,S,T,_⟩:=i;obtain⟨rfl,_,U⟩:=T rfl;have hl:=JS a.sub q.fn S;have hp:pre=[]:=zV O;subst hp;subst hl;have V:arr'=arr:=Array.toList_inj.1 (by simpa using N);have W:v=fz:=(zOU (U rfl)).symm;rw[L,V,W]
 | _=>exact i
noncomputable def cloK (m:List AV->AH->Option (AV×AH))(vs:List AV)(H:AH):Option (AV×AH):=match vs with
 | []=>some (.bool true,H)
 | vs=>m vs H
theorem Rel.below {R:Ren}{H:AH}{w a:World}(h:Rel R H w)(hb:RowKit.Below w.heap.size w a):Rel R H a:=
 ⟨h.fn,h.inj,fun A b d c o r f=>by rw[hb.block b (h.lt _ _ _ _ r).1];exact h.obj A b d c o r f,fun A b d c r=>⟨qQ (h.lt _ _ _ _ r).1 hb.size,(h.lt _ _ _ _ r).2⟩⟩
theorem zP3 {f:FuncId}{m:List AV->AH->Option (AV×AH)}(p: ∃a,PP.funcs[f]? =some a/\a.body.isSome=true)
  (q: ∀w:World,Calls PP f #[] w fun e s=>e= .returned (.bool true)/\RowKit.Below w.heap.size w s) (hm:FI f m):FI f (cloK m):=by
 intro az H v H' h;unfold cloK at h;split at h
 .simp only[zB,zU]at h;obtain⟨rfl,rfl⟩:=h;refine⟨zQ _,p,fun R z cs w i hL=> ?_⟩;simp only[VRL]at i;subst i;obtain⟨e,t,j,⟨rfl,hb⟩,u,x,y⟩:=q w cs;refine⟨R,t, .bool true,j,u,x,y,rfl,hL.below hb, ?_⟩;exact⟨zRe R,fun _ _ _ _ h=> .inl h,fun _ _ _ _ h=> .inl h,zQ _,fun _ _ _=>rfl,hb.os,hb.tape,hb.output,hb.size,fun b o _=>hb.block b o⟩
 .exact hm _ _ _ _ h
def Fin (x:Rs)(Q:Ex->AH->Prop):Prop:= ∃e H,x=some (e,H)/\Q e H
def Ret (x:Option (AV×AH))(Q:AV->AH->Prop):Prop:= ∃v H,x=some (v,H)/\Q v H
theorem Fin.pure {e:Ex}{H:AH}{Q:Ex->AH->Prop}(h:Q e H):Fin (some (e,H)) Q:=⟨e,H,rfl,h⟩
theorem Ret.pure {v:AV}{H:AH}{Q:AV->AH->Prop}(h:Q v H):Ret (some (v,H)) Q:=⟨v,H,rfl,h⟩
theorem Fin.mono {x:Rs}{Q a:Ex->AH->Prop}(h:Fin x Q)(k: ∀e H,Q e H->a e H):Fin x a:=by
 obtain⟨e,H,f,i⟩:=h;exact⟨e,H,f,k _ _ i⟩
theorem Ret.mono {x:Option (AV×AH)}{Q a:AV->AH->Prop}(h:Ret x Q)(k: ∀v H,Q v H->a v H):Ret x a:=by
 obtain⟨e,H,f,i⟩:=h;exact⟨e,H,f,k _ _ i⟩
def orN (P:List AV->AH->Prop)(Q:Ex->AH->Prop):Ex->AH->Prop
 | .norm vs,H=>P vs H
 | .exit i vs,H=>Q (.exit i vs) H
 | .ret v,H=>Q (.ret v) H
theorem Fin.jn {x:Rs}{P:List AV->AH->Prop}{K:List AV->AH->Rs}{Q:Ex->AH->Prop}(a:Fin x (orN P Q))(h: ∀vs H,P vs H->Fin (K vs H) Q):Fin (jn x K) Q:=by
 obtain⟨e,H,rfl,hp⟩:=a
 cases e with
 | norm vs=>exact h vs H hp
 | exit i vs=>exact⟨_,_,rfl,hp⟩
 | ret v=>exact⟨_,_,rfl,hp⟩
theorem Fin.loop {b:List AV->AH->Rs}{Q:Ex->AH->Prop}(I:Nat->List AV->AH->Prop)
  (step: ∀k vs H,I k vs H->Fin (b vs H) (orN (fun vs' H'=> ∃k',k'<k/\I k' vs' H') Q)):
  ∀(n k:Nat) (vs:List AV) (H:AH),I k vs H->k<n->Fin (jY n b vs H) Q:=by
 intro n
 induction n with
 | zero=>intro k vs H _ h;omega
 | succ n ih=>
  intro k vs H f j;refine Fin.jn (step k vs H f) ?_
  rintro vs' H' ⟨k',i,a⟩
  exact ih k' vs' H' a (by omega)
theorem zGg (b:Bool)(x y:Rs):cnd (.bool b) x y=if b then x else y:=by cases b<;>rfl
theorem zPK (b a:Bool)(x y:Rs):wnt (.bool b) a x y=if b=a then x else y:=by cases b<;>cases a<;>rfl
theorem bVs (v:AV)(K:AV->Rs):bV (some v) K=K v:=rfl
theorem bRs (v:AV)(H:AH)(K:AV->AH->Rs):bR (some (v,H)) K=K v H:=rfl
theorem ZR (v:AV)(vs:List AV)(K:AV->List AV->Rs):hd (v::vs) K=K v vs:=rfl
theorem zI8 (K:Rs):nl [] K=K:=rfl
theorem zAx (vs:List AV)(H:AH)(K:List AV->AH->Rs):jn (some (.norm vs,H)) K=K vs H:=rfl
theorem zQn (v:AV)(H:AH)(K:List AV->AH->Rs):jn (some (.ret v,H)) K=some (.ret v,H):=rfl
theorem zOi (i:Nat)(vs:List AV)(H:AH)(K:List AV->AH->Rs):jn (some (.exit i vs,H)) K=some (.exit i vs,H):=rfl
theorem zOj (id:Nat)(vs:List AV)(H:AH)(K:List AV->AH->Rs):jb id (some (.norm vs,H)) K=K vs H:=rfl
theorem zQs (id:Nat)(v:AV)(H:AH)(K:List AV->AH->Rs):jb id (some (.ret v,H)) K=some (.ret v,H):=rfl
theorem zEr (v:AV)(H:AH):dH (some (.ret v,H))=some (v,H):=rfl
theorem zQq (c:Prop)[Decidable c](x y:Rs)(K:List AV->AH->Rs):jn (if c then x else y) K=if c then jn x K else jn y K:=by split<;>rfl
theorem zL5 (c:Prop)[Decidable c](x y:Rs):dH (if c then x else y)=if c then dH x else dH y:=by split<;>rfl
theorem zQ7 (b:Bool)(x y:Option AV):pk3 (some (.bool b)) x y=if b then x else y:=by cases b<;>rfl
def AH.ok (H:AH):Prop:= ∀A,H.next<=A->H.h.get A=none
noncomputable def AH.push (H:AH)(o:AObj):AH:=⟨(T.set 40 H.h H.next o).getD .leaf,H.next+1⟩
noncomputable def AH.put (H:AH)(A:Nat)(o:AObj):AH:=⟨(T.set 40 H.h A o).getD .leaf,H.next⟩
theorem AH.push_next (H:AH)(o:AObj):(H.push o).next=H.next+1:=rfl
def zR9:=@AH.push_next
theorem AH.put_next (H:AH)(A:Nat)(o:AObj):(H.put A o).next=H.next:=rfl
def zRa:=@AH.put_next
theorem AH.push_get (H:AH)(o:AObj)(A:Nat):(H.push o).h.get A=if A=H.next then some o else H.h.get A:=by
 obtain⟨t,a⟩:=qO.1 (T.set_some 40 H.h H.next o)
 simp only[AH.push,a,qZ];exact T.get_set _ _ _ _ _ a A
theorem AH.put_get (H:AH)(B:Nat)(o:AObj)(A:Nat):(H.put B o).h.get A=if A=B then some o else H.h.get A:=by
 obtain⟨t,a⟩:=qO.1 (T.set_some 40 H.h B o);simp only[AH.put,a,qZ];exact T.get_set _ _ _ _ _ a A
def zRc:=@AH.put_get
theorem AH.push_get_eq (H:AH)(o:AObj):(H.push o).h.get H.next=some o:=by rw[AH.push_get,if_pos rfl]
def zR8:=@AH.push_get_eq
theorem AH.push_get_ne (H:AH)(o:AObj){A:Nat}(h:A<H.next):(H.push o).h.get A=H.h.get A:=by rw[AH.push_get,if_neg (by omega)]
theorem AH.ok.push {H:AH}(h:H.ok)(o:AObj):(H.push o).ok:=fun A a=>by
 rw[zR9]at a;rw[AH.push_get,if_neg (by omega)];exact h A (by omega)
theorem AH.ok.put {H:AH}(h:H.ok){A:Nat}(f:A<H.next)(o:AObj):(H.put A o).ok:=fun B a=>by
 rw[zRa]at a;rw[zRc,if_neg (by omega)];exact h B a
theorem AH.ok.lt {H:AH}(h:H.ok){A:Nat}{o:AObj}(f:H.h.get A=some o):A<H.next:=by
 rcases Nat.lt_or_ge A H.next with a | a
 .exact a
 .rw[h A a]at f;cases f
theorem zDg {H:AH}(h:H.ok)(o:AObj)(K:Nat->AH->Rs):VQ H o K=K H.next (H.push o):=by
 unfold VQ;rw[h H.next (zQ _)]
 obtain⟨t,a⟩:=qO.1 (T.set_some 40 H.h H.next o)
 simp only[a,kD,AH.push,qZ]
theorem kO (H:AH)(A:Nat)(o:AObj):fV H A o=some (H.put A o):=by
 unfold fV;obtain⟨t,a⟩:=qO.1 (T.set_some 40 H.h A o);simp only[a,AH.put,qZ]
theorem ZO {H:AH}(h:H.ok)(o:AObj):newA H o=some (H.next,H.push o):=by
 unfold newA zLc;rw[h H.next (zQ _)]
 obtain⟨t,a⟩:=qO.1 (T.set_some 40 H.h H.next o)
 simp only[a,AH.push,qZ]
theorem kT {H:AH}(h:H.ok)(o:AObj)(a:Nat->AV)(K:AV->AH->Rs):bA (some (o,a)) H K=K (a H.next) (H.push o):=by
 simp only[bA,zDg h]
structure Stp (S:Nat->Prop)(H H':AH):Prop where
 ok:H'.ok
 next:H.next<=H'.next
 keep: ∀A,A<H.next-> ¬S A->H'.h.get A=H.h.get A
abbrev Prs (H H':AH):Prop:=Stp (fun _=>False) H H'
theorem Stp.refl {S:Nat->Prop}{H:AH}(h:H.ok):Stp S H H:=⟨h,zQ _,fun _ _ _=>rfl⟩
def zRf:=@Stp.refl
theorem Stp.trans {S:Nat->Prop}{H a f:AH}(h:Stp S H a)(k:Stp S a f):Stp S H f:=
 ⟨k.ok,qP h.next k.next,fun A i j=>by rw[k.keep A (qQ i h.next) j,h.keep A i j]⟩
theorem Stp.mono {S a:Nat->Prop}{H f:AH}(h:Stp S H f)(k: ∀A,A<H.next->S A->a A):Stp a H f:=
 ⟨h.ok,h.next,fun A i j=>h.keep A i (fun x=>j (k A i x))⟩
theorem Stp.fresh {S:Nat->Prop}{H0 H f:AH}(a:Prs H0 H)(h:Stp S H f)(k: ∀A,S A->H0.next<=A):Prs H0 f:=
 ⟨h.ok,qP a.next h.next,fun A i _=>by
  rw[h.keep A (qQ i a.next) (fun x=>by have:=k A x;omega),a.keep A i (fun x=>x)]⟩
theorem Stp.push {S:Nat->Prop}{H0 H:AH}(h:Stp S H0 H)(o:AObj):Stp S H0 (H.push o):=
 ⟨h.ok.push o,by rw[zR9];have:=h.next;omega,fun A a f=>by
  rw[AH.push_get_ne _ _ (qQ a h.next)];exact h.keep A a f⟩
theorem Stp.put {S:Nat->Prop}{H0 H:AH}(h:Stp S H0 H){A:Nat}(i:A<H.next)(o:AObj)(j:H0.next<=A\/S A):Stp S H0 (H.put A o):=
 ⟨h.ok.put i o,h.next,fun B m a=>by
  rw[zRc,if_neg (fun e=>by subst e;rcases j with f | f;omega;exact a f)];exact h.keep B m a⟩
theorem Prs.get {H H':AH}(h:Prs H H'){A:Nat}{o:AObj}(f:H.ok)(a:H.h.get A=some o):H'.h.get A=some o:=by
 rw[h.keep A (f.lt a) (fun x=>x)];exact a
def zRn:=@Prs.get
theorem Prs.stp {S:Nat->Prop}{H H':AH}(h:Prs H H'):Stp S H H':=h.mono (fun _ _ x=>x.elim)
theorem wrap_i64 {z:Int}(a: -9223372036854775808<=z)(f:z<=9223372036854775807):IntKind.wrap .i64 z=z:=by
 apply uN<;>simp[IntKind.signed,IntKind.min,IntKind.max,IntKind.bits]<;>omega
theorem wrap_u8 (z:Int):IntKind.wrap .u8 z=z % 256:=by simp[IntKind.wrap,IntKind.signed,IntKind.bits]
theorem wrap_u64 (z:Int):IntKind.wrap .u64 z=z % 18446744073709551616:=by simp[IntKind.wrap,IntKind.signed,IntKind.bits]
theorem KM (k:IntKind)(a b:Int):kI .add (.int k a) (.int k b)=some (.int k (k.wrap (a+b))):=by simp[kI,gY,xP,vX]
theorem zM4 (k:IntKind)(a b:Int):kI .sub (.int k a) (.int k b)=some (.int k (k.wrap (a - b))):=by simp[kI,gY,xP,vX]
theorem zFo (k:IntKind)(a b:Int):kI .mul (.int k a) (.int k b)=some (.int k (k.wrap (a*b))):=by simp[kI,gY,xP,vX]
theorem zM5 (k:IntKind)(a b:Int)(h:b≠0):kI .quo (.int k a) (.int k b)=some (.int k (k.wrap (a.tdiv b))):=by
 have:(b==0)=false:=by simpa using h
 simp[kI,gY,xP,vX,xQ,this]
theorem zM6 (k:IntKind)(a b:Int):kI .eql (.int k a) (.int k b)=some (.bool (decide (a=b))):=by
 have h:keq k k=true:=by rw[xP];simp
 simp only[kI,gY,h,zM,wD,xQ,uK,zB,AV.bool.injEq];rw[yK];simp
theorem zFn (k:IntKind)(a b:Int):kI .neq (.int k a) (.int k b)=some (.bool (decide (a≠b))):=by
 have h:keq k k=true:=by rw[xP];simp
 simp only[kI,gY,h,zM,wD,xQ,uK,zB,AV.bool.injEq];rw[yK];simp
theorem Y8 (k:IntKind)(a b:Int):kI .lss (.int k a) (.int k b)=some (.bool (decide (a<b))):=by
 have h:keq k k=true:=by rw[xP];simp
 simp only[kI,gY,h,zM,wD,xQ,uK,zB,AV.bool.injEq]
theorem zFp (k:IntKind)(a b:Int):kI .leq (.int k a) (.int k b)=some (.bool (decide (a<=b))):=by
 have h:keq k k=true:=by rw[xP];simp
 simp only[kI,gY,h,zM,wD,xQ,uK,zB,AV.bool.injEq];rw[yK];simp
theorem zFq (k:IntKind)(a b:Int):kI .gtr (.int k a) (.int k b)=some (.bool (decide (b<a))):=by
 have h:keq k k=true:=by rw[xP];simp
 simp only[kI,gY,h,zM,wD,xQ,uK,zB,AV.bool.injEq]
theorem zFr (k:IntKind)(a b:Int):kI .geq (.int k a) (.int k b)=some (.bool (decide (b<=a))):=by
 have h:keq k k=true:=by rw[xP];simp
 simp only[kI,gY,h,zM,wD,xQ,uK,zB,AV.bool.injEq];rw[yK];simp
theorem zDK (k k':IntKind)(z:Int):cvI k (.int k' z)=some (.int k (k.wrap z)):=by simp[cvI,vX]
theorem kK (k:IntKind){z:Int}(h:0<=z):YU (.int k z)=some z.toNat:=by
 cases z with
 | ofNat n=>rfl
 | negSucc n=>omega
theorem zJV (a b:Bool):K0 .eql (.bool a) (.bool b)=some (.bool (a==b)):=by simp only[K0,wD]
theorem zCH (a b:Bool):K0 .neq (.bool a) (.bool b)=some (.bool (!(a==b))):=by simp only[K0,wD]
theorem zP8 (b:Bool):aun .not (.bool b)=some (.bool !b):=by simp[aun,wD]
abbrev Str:=List UInt8
def S (l:Str):AV:= .str l.length (pack l)
theorem JV (l:Str):isCell (S l)=true:=rfl
def ltS (l m:Str):Bool:=Op.bytesLess l m
theorem cG (l:Str):X3 (S l)=some (.int .i64 (l.length:Nat)):=rfl
theorem S_eq (l m:Str):(Nat.beq l.length m.length&&Nat.beq (pack l) (pack m))=decide (l=m):=by
 rw[yK];simp only[zE,zY,zR];exact⟨fun h=>QH l m h.1 h.2,fun h=>by subst h;exact⟨rfl,rfl⟩⟩
theorem KL (l m:Str):aV .eql (S l) (S m)=some (.bool (decide (l=m))):=by simp only[aV,S,zCS,wD,S_eq]
theorem uT (l m:Str):aV .neq (S l) (S m)=some (.bool (decide (l≠m))):=by simp only[aV,S,zCS,wD,S_eq];simp
theorem Y6 (l m:Str):aV .lss (S l) (S m)=some (.bool (ltS l m)):=by simp only[aV,S,zCS,wD,K4,ltS]
theorem Y7 (l m:Str):aV .geq (S l) (S m)=some (.bool (!ltS l m)):=by simp only[aV,S,zCS,wD,K4,ltS]
theorem zAy (l:Str)(k:IntKind){z:Int}(f:0<=z)(a:z.toNat<l.length):XA (S l) (.int k z)=some (.int .u8 ((l[z.toNat].toNat:Nat):Int)):=by
 have hb:Nat.blt z.toNat l.length=true:=by rw[qD];exact a
 simp only[XA,kK k f,S,hb,zM,kD];rw[zEq l _ a,show(256:Nat) ^ z.toNat=2 ^ (8*z.toNat)from by rw[show(256:Nat)=2 ^ 8 from rfl,<-Nat.pow_mul]];rfl
theorem zMI (n:Nat):(2:Nat) ^ (8*n)=256 ^ n:=by rw[show(256:Nat)=2 ^ 8 from rfl,<-Nat.pow_mul]
theorem zK3 (l:Str)(lo hi:Option Nat)(a:hi.getD l.length<=l.length)(f:lo.getD 0<=hi.getD l.length):zK4 l.length (pack l) lo hi=some (S ((l.drop (lo.getD 0)).take (hi.getD l.length - lo.getD 0))):=by
 have h:Nat.ble (hi.getD l.length) l.length=true:=by rw[qV];exact a
 have i:Nat.ble (lo.getD 0) (hi.getD l.length)=true:=by rw[qV];exact f
 simp only[zK4,h,i,qN,zM,zBO,S,zMI,<-WQ,<-zBE];rw[qA,qK,Nat.min_eq_left (by omega)]
theorem zKG (l:Str)(k:IntKind){z:Int}(a:0<=z)(f:z.toNat<=l.length):VT (S l) (some (.int k z)) none=some (S (l.drop z.toNat)):=by
 have:=zK3 l (some z.toNat) none (zQ _) f;simp only[VT,kX,kK k a,S];rw[this];simp only[qZ,Option.getD_none,S];rw[zX (by simp)]
theorem zKH (l:Str)(k:IntKind){z:Int}(a:0<=z)(f:z.toNat<=l.length):VT (S l) none (some (.int k z))=some (S (l.take z.toNat)):=by
 have:=zK3 l none (some z.toNat) f (Nat.zero_le _);simp only[VT,kX,kK k a,S];rw[this];simp[S]
theorem kV: ∀l:Str,ltS l l=false
 | []=>rfl
 | b::l=>by
  have:=kV l;simp only[ltS,Op.bytesLess]at this⊢;simp[this]
theorem kR: ∀ {a b c:Str},ltS a b=true->ltS b c=true->ltS a c=true
 | [],b,[],_,h=>by cases b<;>simp[ltS,Op.bytesLess]at h
 | [],_,_::_,_,_=>rfl
 | _::_,[],_,h,_=>by simp[ltS,Op.bytesLess]at h
 | _::_,_::_,[],_,h=>by simp[ltS,Op.bytesLess]at h
 | a::l,b::m,c::n,h,k=>by
  have f:= @kR l m n;simp only[ltS,Op.bytesLess,yO,zE,zR,beq_iff_eq]at h k f⊢;rcases h with h | ⟨rfl,h⟩
  .rcases k with k | ⟨rfl,k⟩
   .left;rw[UInt8.lt_iff_toNat_lt]at*;omega
   .exact .inl h
  .rcases k with k | ⟨rfl,k⟩
   .exact .inl k
   .exact .inr ⟨rfl,f h k⟩
theorem fX: ∀ {a b:Str},ltS a b=false->ltS b a=false->a=b
 | [],[],_,_=>rfl
 | [],_::_,h,_=>by simp[ltS,Op.bytesLess]at h
 | _::_,[],_,h=>by simp[ltS,Op.bytesLess]at h
 | a::l,b::m,h,k=>by
  have f:= @fX l m;simp only[ltS,Op.bytesLess,Bool.or_eq_false_iff,Bool.and_eq_false_iff,yP,beq_eq_false_iff_ne,ne_eq]at h k f;have e:a=b:=by
   apply UInt8.toNat_inj.1;have i:=h.1;have j:=k.1;rw[UInt8.lt_iff_toNat_lt]at i j;omega
  subst e;rw[f (by simpa using h.2) (by simpa using k.2)]
theorem bH {a b:Str}(h:ltS a b=true):ltS b a=false:=by
 cases k:ltS b a with
 | false=>rfl
 | true=>have:=kR h k;rw[kV]at this;cases this
theorem d7 {a b:Str}(h:ltS a b=true):a≠b:=fun e=>by subst e;rw[kV]at h;cases h
theorem zL4 (A o:Nat):v6 (.ptr A o)=some (.ptr A o):=rfl
theorem zOv (f A o:Nat):fAd f (.ptr A o)=some (.ptr A (o+f)):=by simp[fAd,kD]
theorem xT {H:AH}{A o:Nat}{l:List AV}{e sz:Nat}{g:Bool}{v:AV}(h:H.h.get A=some (.cells l e sz g))(a:l[o]? =some v):ld1 (.ptr A o) H=some v:=by
 simp only[ld1,h,QI,a]
theorem YW {H:AH}{A o n:Nat}{l:List AV}{e sz:Nat}{g:Bool}(h:H.h.get A=some (.cells l e sz g))(a:o+n<=l.length):ldN n (.ptr A o) H=some (.agg ((l.drop o).take n)):=by
 simp only[ldN,h,kW _ _ _ (.inr a)]
theorem xD {l new:List AV}{o:Nat}(h:o+new.length<=l.length):setAt l o new=some (l.take o++new++l.drop (o+new.length)):=by
 induction o generalizing l with
 | zero=>
  have: ∀(new l:List AV),new.length<=l.length->over l new=some (new++l.drop new.length):=by
   intro new
   induction new with
   | nil=>intro l _;cases l<;>rfl
   | cons y ys ih=>intro l hl;cases l with
    | nil=>simp at hl
    | cons x l=>simp only[zW,Nat.add_le_add_iff_right]at hl;simp[over,ih l hl]
  have a:=this new l (by omega)
  cases l with
  | nil=>simpa[setAt]using a
  | cons=>simpa[setAt]using a
 | succ o ih=>
  cases l with
  | nil=>simp at h
  | cons x l=>
   simp only[zW]at h;simp only[setAt,ih (l:=l) (by omega)];simp[show o+1+new.length=o+new.length+1 from by omega]
theorem WE {H:AH}{A o n:Nat}{l:List AV}{e sz:Nat}{g:Bool}{x:AV}(h:H.h.get A=some (.cells l e sz g))(f:0<sz)(i:(jT x).length=n)(j:jP (jT x)=true)(m:o+n<=l.length):
  stN n (.ptr A o) x H=some (jO,H.put A (.cells (l.take o++jT x++l.drop (o+n)) e sz g)):=by
 subst i;have a:Nat.blt 0 sz=true:=by rw[qD];exact f
 simp only[stN,h,jX,yF,j,a,qN,zM,xD m,kO]
theorem dW {H:AH}{A o:Nat}{l:List AV}{e sz:Nat}{g:Bool}{x:AV}(h:H.h.get A=some (.cells l e sz g))(i:0<sz)(f:isCell x=true)(j:o<l.length):
  stN 1 (.ptr A o) x H=some (jO,H.put A (.cells (l.set o x) e sz g)):=by
 have a:jT x=[x]:=by cases x<;>first | rfl | (simp[isCell]at f)
 rw[WE h i (by rw[a];rfl) (by rw[a];simp[jP,f]) (by omega),a,List.set_eq_take_append_cons_drop,if_pos j];simp
theorem kY {l:List AV} :jP l=true↔ ∀x∈l,isCell x=true:=by
 induction l with
 | nil=>simp[jP]
 | cons x l ih=>simp[jP,ih]
def Rw (k:Nat)(H:AH)(v:AV)(n:Nat)(l:List AV):Prop:=
 l.length=n*k/\((v= .nilSlice/\n=0)\/(v= .emptySl/\n=0)\/
  ∃A off cc c e sz g,v= .slice A off n cc/\H.h.get A=some (.cells c e sz g)/\A<H.next/\off+n*k<=c.length/\(c.drop off).take (n*k)=l)
theorem Rw.nil (k:Nat)(H:AH):Rw k H .nilSlice 0 []:=⟨by simp, .inl ⟨rfl,rfl⟩⟩
theorem Rw.lnSl {k n:Nat}{H:AH}{v:AV}{l:List AV}(h:Rw k H v n l):lnSl v=some (.int .i64 (n:Int)):=by
 obtain⟨_,⟨rfl,rfl⟩ | ⟨rfl,rfl⟩ | ⟨A,off,cc,c,e,sz,g,rfl,_⟩⟩:=h<;>rfl
def zRm:=@Rw.lnSl
theorem Rw.mono {k n:Nat}{S:Nat->Prop}{H H':AH}{v:AV}{l:List AV}(h:Rw k H v n l)(s:Stp S H H')(o: ∀A off m cc,v= .slice A off m cc-> ¬S A):Rw k H' v n l:=by
 obtain⟨a,f | f | ⟨A,off,cc,c,e,sz,g,rfl,p,i,j,hl⟩⟩:=h
 .exact⟨a, .inl f⟩
 .exact⟨a, .inr (.inl f)⟩
 .exact⟨a, .inr (.inr ⟨A,off,cc,c,e,sz,g,rfl,by rw[s.keep A i (o _ _ _ _ rfl)];exact p,qQ i s.next,j,hl⟩)⟩
theorem Rw.prs {k n:Nat}{H H':AH}{v:AV}{l:List AV}(h:Rw k H v n l)(s:Prs H H'):Rw k H' v n l:=h.mono s (fun _ _ _ _ _ x=>x)
theorem Rw.at {k n:Nat}{H:AH}{v:AV}{l:List AV}(h:Rw k H v n l){i:Nat}(hi:i<n):
  ∃A o c e sz g,(∀κ (z:Int),z=(i:Int)->uX k v (.int κ z)=some (.ptr A o))/\H.h.get A=some (.cells c e sz g)/\A<H.next/\o+k<=c.length/\(c.drop o).take k=(l.drop (i*k)).take k:=by
 obtain⟨q,⟨_,rfl⟩ | ⟨_,rfl⟩ | ⟨A,off,cc,c,e,sz,g,rfl,f,a,m,hl⟩⟩:=h
 .omega
 .omega
 .have p:i*k+k<=n*k:=by rw[<-jI];exact yN _ hi
  refine⟨A,off+i*k,c,e,sz,g,fun κ z j=> ?_,f,a,by omega, ?_⟩
  .have hb:Nat.blt i n=true:=by rw[qD];exact hi
   subst j;simp only[uX,kK κ (show(0:Int)<=(i:Int)by omega),y7,hb,zM,kD]
  .rw[<-hl,List.drop_take,List.take_take,List.drop_drop,Nat.min_eq_left (by omega)]
theorem Rw.ld1 {n:Nat}{H:AH}{v:AV}{l:List AV}(h:Rw 1 H v n l){i:Nat}(hi:i<n):
  ∃p x,(∀κ (z:Int),z=(i:Int)->uX 1 v (.int κ z)=some p)/\Eng.ld1 p H=some x/\l[i]? =some x:=by
 obtain⟨A,o,c,e,sz,g,j,m,s,t,q⟩:=h.at hi;have hl:l.length=n:=by have:=h.1;omega
 have a:i<l.length:=by omega
 refine⟨_,l[i],j,xT m ?_,zJ a⟩;have f:((c.drop o).take 1)[0]? =((l.drop (i*1)).take 1)[0]? :=by rw[q]
 rw[jG (by omega),jG (by omega),jE,jE]at f;simpa[zJ a]using f
theorem Rw.ldN {k n:Nat}{H:AH}{v:AV}{l:List AV}(h:Rw k H v n l){i:Nat}(hi:i<n):
  ∃p,(∀κ (z:Int),z=(i:Int)->uX k v (.int κ z)=some p)/\Eng.ldN k p H=some (.agg ((l.drop (i*k)).take k)):=by
 obtain⟨A,o,c,e,sz,g,a,f,q,j,m⟩:=h.at hi;exact⟨_,a,by rw[YW f j,m]⟩
theorem Rw.srcOf {k n:Nat}{H:AH}{v:AV}{l:List AV}(h:Rw k H v n l):Eng.srcOf k v H=some (n,l):=by
 obtain⟨a,⟨rfl,rfl⟩ | ⟨rfl,rfl⟩ | ⟨A,off,cc,c,e,sz,g,rfl,i,j,f,hl⟩⟩:=h
 .have:l=[]:=zV (by simpa using a);subst this;rfl
 .have:l=[]:=zV (by simpa using a);subst this;rfl
 .simp only[Eng.srcOf,i,kW _ _ _ (.inr f),hl]
theorem ew:(∀ {α:Type} (h:Decidable True) (t e:α), @ite α True h t e=t)/\(∀ {α:Type} (h:Decidable False) (t e:α), @ite α False h t e=e)/\(∀h:Decidable True, @decide True h=true)/\(∀h:Decidable False, @decide False h=false)/\((!true)=false)/\((!false)=true)/\((false=true)=False)/\((true=false)=False)/\(∀b,(b&&true)=b)/\(∀b,(true&&b)=b)/\(∀b,(b&&false)=false)/\(∀b,(false&&b)=false)/\(∀b,(b||true)=true)/\(∀b,(true||b)=true)/\(∀b,(b||false)=b)/\(∀b,(false||b)=b):=by
 refine⟨fun h t e=>if_pos trivial,fun h t e=>if_neg id,fun h=>decide_eq_true trivial,fun h=>decide_eq_false id,rfl,rfl,by simp,by simp,by simp,by simp,by simp,by simp,by simp,by simp,by simp,by simp⟩
def Own (k e:Nat)(H:AH)(v:AV)(n:Nat)(l:List AV):Prop:=
 l.length=n*k/\((v= .nilSlice/\n=0)\/ ∃A,v= .slice A 0 n 1/\A<H.next/\H.h.get A=some (.cells l e k true))
def Blk (v:AV)(A:Nat):Prop:= ∃o n c,v= .slice A o n c
theorem Blk.slice {A o n c B:Nat} :Blk (.slice A o n c) B↔B=A:=⟨fun⟨_,_,_,h⟩=>by simp only[AV.slice.injEq]at h;exact h.1.symm,fun h=>⟨o,n,c,by rw[h]⟩⟩
def zRd:=@Blk.slice
theorem Blk.nil {B:Nat} :Blk .nilSlice B↔False:=⟨fun⟨_,_,_,h⟩=>by simp at h,fun h=>h.elim⟩
def zRl:=@Blk.nil
theorem Own.row {k e n:Nat}{H:AH}{v:AV}{l:List AV}(h:Own k e H v n l):Rw k H v n l:=by
 obtain⟨a,⟨rfl,rfl⟩ | ⟨A,rfl,f,i⟩⟩:=h
 .exact⟨a, .inl ⟨rfl,rfl⟩⟩
 .exact⟨a, .inr (.inr ⟨A,0,1,l,e,k,true,rfl,i,f,by omega,by rw[yB,zX (by omega)]⟩)⟩
theorem Own.nil (k e:Nat)(H:AH):Own k e H .nilSlice 0 []:=⟨by simp, .inl ⟨rfl,rfl⟩⟩
def zRo:=@Own.nil
theorem Own.mono {k e n:Nat}{S:Nat->Prop}{H H':AH}{v:AV}{l:List AV}(h:Own k e H v n l)(s:Stp S H H')(i: ∀A,Blk v A-> ¬S A):Own k e H' v n l:=by
 obtain⟨a,j | ⟨A,rfl,f,m⟩⟩:=h
 .exact⟨a, .inl j⟩
 .exact⟨a, .inr ⟨A,rfl,qQ f s.next,by rw[s.keep A f (i A (zRd.2 rfl))];exact m⟩⟩
theorem Rw.stp {k n:Nat}{S:Nat->Prop}{H H':AH}{v:AV}{l:List AV}(h:Rw k H v n l)(s:Stp S H H')(a: ∀A,Blk v A-> ¬S A):Rw k H' v n l:=
 h.mono s (fun A o m c e=>a A (by rw[e];exact zRd.2 rfl))
theorem aH {a bytes:Nat}(h:a<=1000000000)(f:bytes<=1000):roomy a bytes=true:=by
 unfold roomy;simp only[zE,qV,qD];refine⟨?_,by omega⟩
 calc (a+a / 4+192)*bytes<=(a+a / 4+192)*1000:=Nat.mul_le_mul_left _ f
  _<=281474976710656:=by omega
theorem KN {k e bytes n m:Nat}{H:AH}{v:AV}{l new:List AV}(a:H.ok)(o:0<k)(h:Own k e H v n l)(hm:new.length=m*k)(z:1<=m)(u:n+m<=1000000000)(hb:bytes<=1000):
  ∃H',app1 e k bytes m new v H=some (.slice H.next 0 (n+m) 1,H')/\Own k e H' (.slice H.next 0 (n+m) 1) (n+m) (l++new)/\Stp (Blk v) H H'/\H'.next=H.next+1:=by
 obtain⟨f,⟨rfl,rfl⟩ | ⟨A,rfl,i,x⟩⟩:=h
 .have hl:l=[]:=zV (by simpa using f);subst hl;have y:Nat.beq m 0=false:=by rw[y8];intro e;rw[zY]at e;omega
  refine⟨H.push (.cells new e k true), ?_,⟨?_, .inr ⟨H.next,rfl,Nat.lt_succ_self _,zR8 _ _⟩⟩,(zRf a).push _,rfl⟩
  .simp only[app1,show m.beq 0=false from y,qH,vO,aH (show m<=1000000000 by omega) hb,zM,aW,qS,ZO a,kD,yW]
  .simp[hm]
 .have j:kL l true k 0 1 k=n:=by
   simp only[kL,show((1 % 2).beq 0)=false from rfl,qH,yF,show Nat.beq 0 (1 / 2*k)=true from by simp,qN,zM,jX,f,jD];exact Nat.mul_div_cancel _ o
  have s:Nat.ble (n+m) n=false:=by rw[y8];intro e;rw[qV]at e;omega
  have p:Nat.beq (0+n*k) (Z4 l 0)=true:=by rw[jX,f,yW,yF]
  have q:uU l 0 (n*k)=some l:=by rw[kW _ _ _ (.inr (by omega)),yB,zX (by omega)]
  have t:(H.put A .dead).ok:=a.put i _;refine⟨(H.put A .dead).push (.cells (l++new) e k true), ?_,⟨?_, .inr ⟨H.next,rfl,Nat.lt_succ_self _,zR8 (H.put A .dead) _⟩⟩,((zRf a).put i _ (.inr (zRd.2 rfl))).push _,rfl⟩
  .simp only[app1,x,zGu,j,s,qH,show((1 % 2).beq 0)=false from rfl,p,yF,show Nat.beq 0 (1 / 2*k)=true from by simp,qN,zM,kO,q,vO,
    aH u hb,aW,ZO t,kD,zRa]
  .simp[f,hm,j7]
theorem VG {k e bytes n:Nat}{H:AH}{v:AV}{l:List AV}(i:H.ok)(f:0<k)(h:Own k e H v n l):
  ∃H',app1 e k bytes 0 [] v H=some (v,H')/\Own k e H' v n l/\Stp (fun _=>False) H H'/\H'.next=H.next:=by
 obtain⟨a,⟨rfl,rfl⟩ | ⟨A,rfl,j,m⟩⟩:=h
 .exact⟨H,rfl,⟨a, .inl ⟨rfl,rfl⟩⟩,zRf i,rfl⟩
 .have o:kL l true k 0 1 k=n:=by
   simp only[kL,show((1 % 2).beq 0)=false from rfl,qH,yF,show Nat.beq 0 (1 / 2*k)=true from by simp,qN,zM,jX,a,jD];exact Nat.mul_div_cancel _ f
  have q:Nat.blt 0 k=true:=by rw[qD];exact f
  have p:setAt l (0+n*k) []=some l:=by rw[xD (by simp;omega)];simp
  refine⟨H.put A (.cells l e k true), ?_,⟨a, .inr ⟨A,rfl,j,by rw[zRc,if_pos rfl]⟩⟩,⟨i.put j _,zQ _,fun B s _=> ?_⟩,rfl⟩
  .simp only[app1,m,zGu,o,Nat.add_zero,Nat.ble_eq_true_of_le (zQ n),zM,q,p,zCN,kO,kD]
  .rw[zRc];split
   .rename_i e;rw[e,m]
   .rfl
theorem bW {k e bytes n m:Nat}{H:AH}{v s:AV}{l new:List AV}(i:H.ok)(a:0<k)(h:Own k e H v n l)(j:srcOf k s H=some (m,new))(hm:new.length=m*k)(o:jP new=true)(f:1<=m)(p:n+m<=1000000000)(hb:bytes<=1000):
  ∃H',apP e k bytes v s H=some (.slice H.next 0 (n+m) 1,H')/\Own k e H' (.slice H.next 0 (n+m) 1) (n+m) (l++new)/\Stp (Blk v) H H'/\H'.next=H.next+1:=by
 obtain⟨H',q,t⟩:=KN (bytes:=bytes) i a h hm f p hb;exact⟨H',by simp only[apP,j,o,zM,q],t⟩
theorem zP9 {k e bytes n m:Nat}{H:AH}{v s:AV}{l new:List AV}(q:H.ok)(p:0<k)(h:Own k e H v n l)(t:srcOf k s H=some (m,new))(hm:new.length=m*k)(u:jP new=true)(y:n+m<=1000000000)(hb:bytes<=1000):
  ∃a H',apP e k bytes v s H=some (a,H')/\Own k e H' a (n+m) (l++new)/\Stp (Blk v) H H'/\H.next<=H'.next/\(∀B,Blk a B->Blk v B\/H.next<=B):=by
 by_cases z:m=0
 .subst z;have:new=[]:=zV (by simpa using hm);subst this;obtain⟨H',f,i,j,C⟩:=VG (bytes:=bytes) q p h;refine⟨v,H',by simp only[apP,t,u,zM,f],by simpa using i,j.mono (fun _ _ x=>x.elim),by omega,fun B o=> .inl o⟩
 .obtain⟨H',f,i,j,C⟩:=bW q p h t hm u (by omega) y hb;exact⟨_,H',f,i,j,by omega,fun B o=> .inr (by rw[zRd.1 o];exact zQ _)⟩
theorem VH {k e bytes n m A off:Nat}{H:AH}{c new:List AV}{o sz:Nat}{g:Bool}(p:H.ok)(q:H.h.get A=some (.cells c o sz g))(i:off+n*k<=c.length)(t:1<=m)(s:n+m<=1000000000)(hb:bytes<=1000):
  app1 e k bytes m new (.slice A off n (2*n)) H=some (.slice H.next 0 (n+m) 1,H.push (.cells ((c.drop off).take (n*k)++new) e k true)):=by
 have a:((2*n) % 2).beq 0=true:=by rw[jC];rfl
 have f:kL c g sz off (2*n) k=n:=by
  simp only[kL,a,zM,yQ n (show 0<2 by omega)]
 have j:Nat.ble (n+m) n=false:=by rw[y8];intro e;rw[qV]at e;omega
 simp only[app1,q,zGu,f,j,qH,a,zM,kW _ _ _ (.inr i),vO,aH s hb,aW,ZO p,kD]
theorem Own.len {k e n:Nat}{H:AH}{v:AV}{l:List AV}(h:Own k e H v n l):l.length=n*k:=h.1
theorem Rw.len {k n:Nat}{H:AH}{v:AV}{l:List AV}(h:Rw k H v n l):l.length=n*k:=h.1
def jN (l:Str):List AV:=l.map fun c=> .int .u8 ((c.toNat:Nat):Int)
theorem VD: ∀l:Str,bytesOf l.length (pack l)=jN l
 | []=>rfl
 | c::l=>by
  have h:c.toNat<256:=c.toNat_lt;have a:pack (c::l) % 256=c.toNat:=by simp only[pack];omega
  have f:pack (c::l) / 256=pack l:=by simp only[pack];omega
  simp only[zW,bytesOf,a,f,VD l,jN,yH];rfl
theorem zD2 (l:Str)(H:AH):srcOf 1 (S l) H=some (l.length,jN l):=by simp only[srcOf,S,show(Nat.beq 1 1)=true from rfl,zM,VD]
theorem bytesV_cells (l:Str):jP (jN l)=true:=by
 rw[kY];intro x a;obtain⟨c,_,rfl⟩:=qU.1 a;rfl
theorem jS (l:Str):(jN l).length=l.length:=by simp[jN]
theorem Q9: ∀l:Str,QA (jN l)=some (l.length,pack l)
 | []=>rfl
 | c::l=>by
  have a:Nat.blt c.toNat 256=true:=by rw[qD];exact c.toNat_lt
  have f:=Q9 l;show QA (AV.int .u8 (Int.ofNat c.toNat)::jN l)=_;simp only[QA,a,zM,f,kD,zW,pack]
theorem KG {n:Nat}{H:AH}{v:AV}{l:Str}(h:Rw 1 H v n (jN l))(f:v≠ .emptySl):zFb v H=some (S l):=by
 obtain⟨i,⟨rfl,rfl⟩ | ⟨rfl,rfl⟩ | ⟨A,off,cc,c,e,sz,g,rfl,j,m,a,hl⟩⟩:=h
 .have:l=[]:=by cases l with
   | nil=>rfl
   | cons=>simp[jN]at i
  subst this;rfl
 .exact absurd rfl f
 .rw[Nat.mul_one]at a hl;simp only[zFb,j,kW _ _ _ (.inr a),hl,Q9,zBO,S]
end Go.Eng
namespace Go.Eng
theorem zQr (p:Prop)[Decidable p](b:Bool)(H:AH)(K:AV->AH->Rs):
  jn (if p then some (.norm [.bool b],H)else some (.norm [jO],H)) (fun vs H=>hd vs fun y _=>bV (if p then some y else some (.bool false)) fun x=>K x H)=K (.bool (decide p&&b)) H:=by
 by_cases h:p<;>simp[h,jn,hd,bV]
theorem jn_or (p:Prop)[Decidable p](b:Bool)(H:AH)(K:AV->AH->Rs):
  jn (if p then some (.norm [jO],H)else some (.norm [.bool b],H)) (fun vs H=>hd vs fun y _=>bV (if p then some (.bool true)else some y) fun x=>K x H)=K (.bool (decide p||b)) H:=by
 by_cases h:p<;>simp[h,jn,hd,bV]
theorem wR {n:Nat}{b:List AV->AH->Rs}{vs vs':List AV}{H H':AH}(h:b vs H=some (.norm vs',H')):jY (n+1) b vs H=jY n b vs' H':=by
 show jn (b vs H) (jY n b)=_;rw[h];rfl
theorem jU {n:Nat}{b:List AV->AH->Rs}{vs vs':List AV}{H H':AH}{i:Nat}(h:b vs H=some (.exit i vs',H')):jY (n+1) b vs H=some (.exit i vs',H'):=by
 show jn (b vs H) (jY n b)=_;rw[h];rfl
theorem fY {n:Nat}{b:List AV->AH->Rs}{vs:List AV}{H H':AH}{v:AV}(h:b vs H=some (.ret v,H')):jY (n+1) b vs H=some (.ret v,H'):=by
 show jn (b vs H) (jY n b)=_;rw[h];rfl
theorem zOk (id:Nat)(vs:List AV)(H:AH)(K:List AV->AH->Rs):jb id (some (.exit id vs,H)) K=K vs H:=by simp[jb]
def Strs (H:AH)(v:AV)(l:List Str):Prop:=Rw 1 H v l.length (l.map S)
theorem Strs.at {H:AH}{v:AV}{l:List Str}(h:Strs H v l){i:Nat}(hi:i<l.length): ∃p,(∀κ (z:Int),z=(i:Int)->uX 1 v (.int κ z)=some p)/\Eng.ld1 p H=some (S l[i]):=by
 obtain⟨p,x,f,j,a⟩:=Rw.ld1 h hi;rw[jJ,zJ hi]at a;simp only[zZ,zB]at a;subst a;exact⟨p,f,j⟩
theorem Strs.lnSl {H:AH}{v:AV}{l:List Str}(h:Strs H v l):Eng.lnSl v=some (.int .i64 (l.length:Int)):=zRm h
theorem Strs.prs {H H':AH}{v:AV}{l:List Str}(h:Strs H v l)(s:Prs H H'):Strs H' v l:=Rw.prs h s
theorem zCz {w:World}{a:Addr}{v:Value}(h:w.cell? a=some v):a.spot=none/\ ∃arr e f,w.heap[a.block]? =some (.cells arr e f)/\arr[a.off]? =some v:=by
 unfold World.cell? at h;split at h
 .rename_i c e f i;split at h
  .cases h
  .rename_i j;exact⟨by simpa using j,c,e,f,i,h⟩
 .cases h
theorem cellAV_string (N:Nat)(s:ByteArray):cellAV N (.string s)=S s.data.toList:=by
 simp only[cellAV,S];rw[<-size_data]
theorem zM9 (w:World){b o len cap:Nat}(a:0<cap)(hb:b<w.heap.size):aB w.heap.size (.slice (some ⟨b,o,none⟩) len cap)= .slice b o len (2*cap):=by
 obtain⟨c,rfl⟩: ∃c,cap=c+1:=⟨cap - 1,by omega⟩;have:Nat.blt b w.heap.size=true:=by rw[qD];exact hb
 cases len<;>simp[aB,cellAV,this]
theorem zIw {w:World}{b:Nat}{x:Obj}(h:w.heap[b]? =some x):b<w.heap.size:=(Array.getElem?_eq_some_iff.1 h).1
end Go.Eng
end
section
noncomputable section
namespace Go.Eng
abbrev Nms:=List (List AV->AH->Rs)
def nmAt (N:Nms)(k:Nat):List AV->AH->Rs:=match N with
 | []=>fun _ _=>none
 | g::N=>match k with
  | 0=>g
  | k+1=>nmAt N k
def ms:Hint->Hint
 | .s a b=> .s (ms a) (ms b)
 | .c L a b=> .c L.tail (ms a) (ms b)
 | .cl a b=> .cl (ms a) (ms b)
 | .cr a b=> .cr (ms a) (ms b)
 | .b L a=> .b L.tail (ms a)
 | .b0 a=> .b0 (ms a)
 | .l L a=> .l L.tail (ms a)
 | .rf s L=> .rf s L
 | .t L m=> .t L m
 | .o=> .o
def pkN (L:List Nat):Env->AH->Rs:=fun env H=>pck L env fun vs=>some (.norm vs,H)
def upK (L:List Nat)(K:Env->AH->Rs):List AV->AH->Rs:=fun vs H=>unp L vs uL fun env=>K env H
def mkAt (P:List Nat)(i:Nat):Nat:=match P with
 | j::m::P=>bif Nat.beq j i then m else mkAt P i
 | _=>0
def sprF (P:List Nat)(i:Nat)(n:Nat):List Nat:=match n with
 | 0=>[]
 | n+1=>mkAt P i::sprF P (i+1) n
def spr (P:List Nat)(n:Nat):List Nat:=match P with
 | []=>[]
 | _=>sprF P 0 n
def zQ8 (l:List Oper)(R:List Nat):List (Nat×Oper):=match R with
 | []=>[]
 | i::R=>match zGs l i with
  | some o=>(i,o)::zQ8 l R
  | none=>[]
def ZW (B:Tb)(D:Dyn)(n nt:Nat)(rs:List ResultVar)(f0:FuncId)(ro:Bool)(N:Nms):Code->Hint->List (Nat×List Nat)->(Env->AH->Rs)->Env->AH->Rs
 | .skip,_,_,K,env,H=>K env H
 | .label _,_,_,K,env,H=>K env H
 | .region _ ops _, .b P _,_,K,env,H=>zEs B D nt ops (some (spr P ops.size)) (ops.size+1) K (idx ops.toList 0) [] env H
 | .region _ ops _, .c P (.l R _) _,_,K,env,H=>zEs B D nt ops (some (spr P ops.size)) (R.length+1) K (zQ8 ops.toList R) [] env H
 | .region _ ops draw,_,_,K,env,H=>zPt B D nt ops draw K env H
 | .seq a b, .s ha hb,Bk,K,env,H=>ZW B D n nt rs f0 ro N a ha Bk (ZW B D n nt rs f0 ro N b hb Bk K) env H
 | .seq _ _, .t L m,_,K,env,H=>pck L env fun vs=>tld (m vs H) H.next fun H=>unp L vs uL fun env=>K env H
 | .cond c a b, .c (k::L) ha hb,Bk,_,env,H=>match opd env c with
  | some v=>jn (cnd v (ZW B D n nt rs f0 ro N a ha Bk (pkN L) env H) (ZW B D n nt rs f0 ro N b hb Bk (pkN L) env H)) (nmAt N k)
  | none=>none
 | .cond c a b, .cl ha hb,Bk,K,env,H=>match opd env c with
  | some v=>cnd v (ZW B D n nt rs f0 ro N a ha Bk (fun _ _=>none) env H) (ZW B D n nt rs f0 ro N b hb Bk K env H)
  | none=>none
 | .cond c a b, .cr ha hb,Bk,K,env,H=>match opd env c with
  | some v=>cnd v (ZW B D n nt rs f0 ro N a ha Bk K env H) (ZW B D n nt rs f0 ro N b hb Bk (fun _ _=>none) env H)
  | none=>none
 | .block id b, .b (k::L) hb,Bk,_,env,H=>jb id (ZW B D n nt rs f0 ro N b hb ((id,L)::Bk) (pkN L) env H) (nmAt N k)
 | .block id b, .b0 hb,Bk,K,env,H=>ZW B D n nt rs f0 ro N b hb (zGe Bk id) K env H
 | .loop _, .l (k::L) _,_,_,env,H=>pck L env fun vs=>jY n (nmAt N k) vs H
 | .exit id,_,Bk,_,env,H=>match uB Bk id with
  | some L=>pck L env fun vs=>some (.exit id vs,H)
  | none=>none
 | .ret,_,_,_,env,H=>zKO B.X rs env H
 | .rangeFunc f _ _ _, .rf s L,Bk,K,env,H=>bif ro then none else match opd env f with
  | some fv=>pck L env fun vs=>VQ H (.loop ⟨.ready,none,f0,s,L,vs⟩) fun A H=>bR (rfC B.S D fv A H) fun _ H=>
    fQ A H fun j H=>zEG j (K env H) (exS Bk env H) (zKO B.X rs env H)
  | none=>none
 | _,_,_,_,_,_=>none
abbrev Prt:=Option (List AV->AH->Rs)
def orP (a b:Prt):Prt:=match a with | some g=>some g | none=>b
def prt (B:Tb)(D:Dyn)(n nt:Nat)(rs:List ResultVar)(f0:FuncId)(ro:Bool)(N:Nms)(i:Nat):Code->Hint->List (Nat×List Nat)->(Env->AH->Rs)->Prt
 | .seq a b, .s ha hb,Bk,K=>orP (prt B D n nt rs f0 ro N i a ha Bk (ZW B D n nt rs f0 ro N b hb Bk K)) (prt B D n nt rs f0 ro N i b hb Bk K)
 | .cond _ a b, .c (k::L) ha hb,Bk,K=>bif Nat.beq k i then some (upK L K)else orP (prt B D n nt rs f0 ro N i a ha Bk (pkN L)) (prt B D n nt rs f0 ro N i b hb Bk (pkN L))
 | .cond _ a b, .cl ha hb,Bk,K=>orP (prt B D n nt rs f0 ro N i a ha Bk fun _ _=>none) (prt B D n nt rs f0 ro N i b hb Bk K)
 | .cond _ a b, .cr ha hb,Bk,K=>orP (prt B D n nt rs f0 ro N i a ha Bk K) (prt B D n nt rs f0 ro N i b hb Bk fun _ _=>none)
 | .block id b, .b (k::L) hb,Bk,K=>bif Nat.beq k i then some (upK L K)else prt B D n nt rs f0 ro N i b hb ((id,L)::Bk) (pkN L)
 | .block id b, .b0 hb,Bk,K=>prt B D n nt rs f0 ro N i b hb (zGe Bk id) K
 | .loop b, .l (k::L) hb,Bk,_=>bif Nat.beq k i then some (upK L (ZW B D n nt rs f0 ro N b hb Bk (pkN L)))else prt B D n nt rs f0 ro N i b hb Bk (pkN L)
 | _,_,_,_=>none
def funS (B:Tb)(D:Dyn)(n:Nat)(f0:FuncId)(a:Func)(h:Hint)(N:Nms)(az:List AV)(H:AH):Option (AV×AH):=
 match a.body with
 | some body=>bif Nat.ble (a.params.size+a.nfree) a.ntmps then dH (zPm (a.params.size+a.nfree) 0 az uL fun env=>ZW B D n a.ntmps a.results.toList f0 false N body h [] (fun env H=>zKO B.X a.results.toList env H) env H)else none
 | none=>none
def prtF (B:Tb)(D:Dyn)(n:Nat)(f0:FuncId)(a:Func)(h:Hint)(N:Nms)(i:Nat):Prt:=
 match a.body with
 | some body=>prt B D n a.ntmps a.results.toList f0 false N i body h [] fun env H=>zKO B.X a.results.toList env H
 | none=>none
def rdS (B:Tb)(D:Dyn)(n:Nat)(f0:FuncId)(nt:Nat)(h:Array Tmp)(a body:Code)(L f:List Nat)(j hb:Hint)(N:Nms)(A:Nat)(l:ALoop)(az:List AV)(H:AH):Option (AV×AH):=
 bif QX L l.live then
  zN7 A (unp L l.vals uL fun env=>zKv nt h.toList az env fun env=>
   ZW B D n nt [] f0 true N a j [] (fun env H=>uM A H fun H=>ZW B D n nt [] f0 true N body hb (f.map fun i=>(i,[])) (fun _ H=>some (.norm [],H)) env H) env H)
 else none
def rndS (B:Tb)(D:Dyn)(n:Nat)(f0:FuncId)(s:Nat)(L a:List Nat)(f hb:Hint)(N:Nms)(A:Nat)(l:ALoop)(az:List AV)(H:AH):Option (AV×AH):=
 match zAg f0 s with
 | some (nt,ps,asg,body)=>rdS B D n f0 nt ps asg body L a f hb N A l az H
 | none=>none
def prtR (B:Tb)(D:Dyn)(n:Nat)(f0:FuncId)(s:Nat)(a:List Nat)(hb:Hint)(N:Nms)(i:Nat):Prt:=
 match zAg f0 s with
 | some (nt,_,_,body)=>prt B D n nt [] f0 true N i body hb (a.map fun i=>(i,[])) fun _ H=>some (.norm [],H)
 | none=>none
end Go.Eng
end
end
section
namespace Go.Proofs
open Go.Shelf
end Go.Proofs
noncomputable section
namespace Go.Eng.Sh
open Go.Proofs
set_option maxRecDepth 100000
set_option maxHeartbeats 4000000
def y (l:T TypeInfo)(v:TypeInfo)(r:T TypeInfo):T TypeInfo:= .node l (some v) r
abbrev o:T TypeInfo:= .leaf
noncomputable def TX:T TypeInfo:=(y (y (y (y (y (y (y (y (y o Tryz.t255 o) Tryz.t127 o) Tryz.t63 (y (y o Tryz.t319 o) Tryz.t191 o)) Tryz.t31 (y (y (y o Tryz.t287 o) Tryz.t159 o) Tryz.t95 (y (y o Tryz.t351 o) Tryz.t223 o))) Tryz.t15 (y (y (y (y o Tryz.t271 o) Tryz.t143 o) Tryz.t79 (y (y o Tryz.t335 o) Tryz.t207 o)) Tryz.t47 (y (y (y o Tryz.t303 o) Tryz.t175 o) Tryz.t111 (y o Tryz.t239 o)))) Tryz.t7 (y (y (y (y (y o Tryz.t263 o) Tryz.t135 o) Tryz.t71 (y (y o Tryz.t327 o) Tryz.t199 o)) Tryz.t39 (y (y (y o Tryz.t295 o) Tryz.t167 o) Tryz.t103 (y o Tryz.t231 o))) Tryz.t23 (y (y (y (y o Tryz.t279 o) Tryz.t151 o) Tryz.t87 (y (y o Tryz.t343 o) Tryz.t215 o)) Tryz.t55 (y (y (y o Tryz.t311 o) Tryz.t183 o) Tryz.t119 (y o Tryz.t247 o))))) Tryz.t3 (y (y (y (y (y (y o Tryz.t259 o) Tryz.t131 o) Tryz.t67 (y (y o Tryz.t323 o) Tryz.t195 o)) Tryz.t35 (y (y (y o Tryz.t291 o) Tryz.t163 o) Tryz.t99 (y o Tryz.t227 o))) Tryz.t19 (y (y (y (y o Tryz.t275 o) Tryz.t147 o) Tryz.t83 (y (y o Tryz.t339 o) Tryz.t211 o)) Tryz.t51 (y (y (y o Tryz.t307 o) Tryz.t179 o) Tryz.t115 (y o Tryz.t243 o)))) Tryz.t11 (y (y (y (y (y o Tryz.t267 o) Tryz.t139 o) Tryz.t75 (y (y o Tryz.t331 o) Tryz.t203 o)) Tryz.t43 (y (y (y o Tryz.t299 o) Tryz.t171 o) Tryz.t107 (y o Tryz.t235 o))) Tryz.t27 (y (y (y (y o Tryz.t283 o) Tryz.t155 o) Tryz.t91 (y (y o Tryz.t347 o) Tryz.t219 o)) Tryz.t59 (y (y (y o Tryz.t315 o) Tryz.t187 o) Tryz.t123 (y o Tryz.t251 o)))))) Tryz.t1 (y (y (y (y (y (y (y o Tryz.t257 o) Tryz.t129 o) Tryz.t65 (y (y o Tryz.t321 o) Tryz.t193 o)) Tryz.t33 (y (y (y o Tryz.t289 o) Tryz.t161 o) Tryz.t97 (y o Tryz.t225 o))) Tryz.t17 (y (y (y (y o Tryz.t273 o) Tryz.t145 o) Tryz.t81 (y (y o Tryz.t337 o) Tryz.t209 o)) Tryz.t49 (y (y (y o Tryz.t305 o) Tryz.t177 o) Tryz.t113 (y o Tryz.t241 o)))) Tryz.t9 (y (y (y (y (y o Tryz.t265 o) Tryz.t137 o) Tryz.t73 (y (y o Tryz.t329 o) Tryz.t201 o)) Tryz.t41 (y (y (y o Tryz.t297 o) Tryz.t169 o) Tryz.t105 (y o Tryz.t233 o))) Tryz.t25 (y (y (y (y o Tryz.t281 o) Tryz.t153 o) Tryz.t89 (y (y o Tryz.t345 o) Tryz.t217 o)) Tryz.t57 (y (y (y o Tryz.t313 o) Tryz.t185 o) Tryz.t121 (y o Tryz.t249 o))))) Tryz.t5 (y (y (y (y (y (y o Tryz.t261 o) Tryz.t133 o) Tryz.t69 (y (y o Tryz.t325 o) Tryz.t197 o)) Tryz.t37 (y (y (y o Tryz.t293 o) Tryz.t165 o) Tryz.t101 (y o Tryz.t229 o))) Tryz.t21 (y (y (y (y o Tryz.t277 o) Tryz.t149 o) Tryz.t85 (y (y o Tryz.t341 o) Tryz.t213 o)) Tryz.t53 (y (y (y o Tryz.t309 o) Tryz.t181 o) Tryz.t117 (y o Tryz.t245 o)))) Tryz.t13 (y (y (y (y (y o Tryz.t269 o) Tryz.t141 o) Tryz.t77 (y (y o Tryz.t333 o) Tryz.t205 o)) Tryz.t45 (y (y (y o Tryz.t301 o) Tryz.t173 o) Tryz.t109 (y o Tryz.t237 o))) Tryz.t29 (y (y (y (y o Tryz.t285 o) Tryz.t157 o) Tryz.t93 (y (y o Tryz.t349 o) Tryz.t221 o)) Tryz.t61 (y (y (y o Tryz.t317 o) Tryz.t189 o) Tryz.t125 (y o Tryz.t253 o))))))) Tryz.t0 (y (y (y (y (y (y (y (y o Tryz.t256 o) Tryz.t128 o) Tryz.t64 (y (y o Tryz.t320 o) Tryz.t192 o)) Tryz.t32 (y (y (y o Tryz.t288 o) Tryz.t160 o) Tryz.t96 (y o Tryz.t224 o))) Tryz.t16 (y (y (y (y o Tryz.t272 o) Tryz.t144 o) Tryz.t80 (y (y o Tryz.t336 o) Tryz.t208 o)) Tryz.t48 (y (y (y o Tryz.t304 o) Tryz.t176 o) Tryz.t112 (y o Tryz.t240 o)))) Tryz.t8 (y (y (y (y (y o Tryz.t264 o) Tryz.t136 o) Tryz.t72 (y (y o Tryz.t328 o) Tryz.t200 o)) Tryz.t40 (y (y (y o Tryz.t296 o) Tryz.t168 o) Tryz.t104 (y o Tryz.t232 o))) Tryz.t24 (y (y (y (y o Tryz.t280 o) Tryz.t152 o) Tryz.t88 (y (y o Tryz.t344 o) Tryz.t216 o)) Tryz.t56 (y (y (y o Tryz.t312 o) Tryz.t184 o) Tryz.t120 (y o Tryz.t248 o))))) Tryz.t4 (y (y (y (y (y (y o Tryz.t260 o) Tryz.t132 o) Tryz.t68 (y (y o Tryz.t324 o) Tryz.t196 o)) Tryz.t36 (y (y (y o Tryz.t292 o) Tryz.t164 o) Tryz.t100 (y o Tryz.t228 o))) Tryz.t20 (y (y (y (y o Tryz.t276 o) Tryz.t148 o) Tryz.t84 (y (y o Tryz.t340 o) Tryz.t212 o)) Tryz.t52 (y (y (y o Tryz.t308 o) Tryz.t180 o) Tryz.t116 (y o Tryz.t244 o)))) Tryz.t12 (y (y (y (y (y o Tryz.t268 o) Tryz.t140 o) Tryz.t76 (y (y o Tryz.t332 o) Tryz.t204 o)) Tryz.t44 (y (y (y o Tryz.t300 o) Tryz.t172 o) Tryz.t108 (y o Tryz.t236 o))) Tryz.t28 (y (y (y (y o Tryz.t284 o) Tryz.t156 o) Tryz.t92 (y (y o Tryz.t348 o) Tryz.t220 o)) Tryz.t60 (y (y (y o Tryz.t316 o) Tryz.t188 o) Tryz.t124 (y o Tryz.t252 o)))))) Tryz.t2 (y (y (y (y (y (y (y o Tryz.t258 o) Tryz.t130 o) Tryz.t66 (y (y o Tryz.t322 o) Tryz.t194 o)) Tryz.t34 (y (y (y o Tryz.t290 o) Tryz.t162 o) Tryz.t98 (y o Tryz.t226 o))) Tryz.t18 (y (y (y (y o Tryz.t274 o) Tryz.t146 o) Tryz.t82 (y (y o Tryz.t338 o) Tryz.t210 o)) Tryz.t50 (y (y (y o Tryz.t306 o) Tryz.t178 o) Tryz.t114 (y o Tryz.t242 o)))) Tryz.t10 (y (y (y (y (y o Tryz.t266 o) Tryz.t138 o) Tryz.t74 (y (y o Tryz.t330 o) Tryz.t202 o)) Tryz.t42 (y (y (y o Tryz.t298 o) Tryz.t170 o) Tryz.t106 (y o Tryz.t234 o))) Tryz.t26 (y (y (y (y o Tryz.t282 o) Tryz.t154 o) Tryz.t90 (y (y o Tryz.t346 o) Tryz.t218 o)) Tryz.t58 (y (y (y o Tryz.t314 o) Tryz.t186 o) Tryz.t122 (y o Tryz.t250 o))))) Tryz.t6 (y (y (y (y (y (y o Tryz.t262 o) Tryz.t134 o) Tryz.t70 (y (y o Tryz.t326 o) Tryz.t198 o)) Tryz.t38 (y (y (y o Tryz.t294 o) Tryz.t166 o) Tryz.t102 (y o Tryz.t230 o))) Tryz.t22 (y (y (y (y o Tryz.t278 o) Tryz.t150 o) Tryz.t86 (y (y o Tryz.t342 o) Tryz.t214 o)) Tryz.t54 (y (y (y o Tryz.t310 o) Tryz.t182 o) Tryz.t118 (y o Tryz.t246 o)))) Tryz.t14 (y (y (y (y (y o Tryz.t270 o) Tryz.t142 o) Tryz.t78 (y (y o Tryz.t334 o) Tryz.t206 o)) Tryz.t46 (y (y (y o Tryz.t302 o) Tryz.t174 o) Tryz.t110 (y o Tryz.t238 o))) Tryz.t30 (y (y (y (y o Tryz.t286 o) Tryz.t158 o) Tryz.t94 (y (y o Tryz.t350 o) Tryz.t222 o)) Tryz.t62 (y (y (y o Tryz.t318 o) Tryz.t190 o) Tryz.t126 (y o Tryz.t254 o))))))))
def X:Cx:=⟨TX,[(42,[6,6,10]),(48,[2,2]),(55,(List.replicate 512 7)),(133,[2,2,2,0,0])]⟩
theorem TX_eq:TX=(T.ofList 0 PP.types.toList .leaf).getD .leaf:=by kernel_rfl
theorem X_ok:Ok PP X:=by
 have h:=cx_ok (P:=PP) (fl:=X.fl) (by kernel_rfl) (by kernel_rfl);rw[<-TX_eq]at h;exact h
abbrev FD (B:Tb)(D:Dyn)(n:Nat)(i:FuncId)(f:Func)(h:Hint)(N:Nms):= {g // g=fun vs H=>funS B D n i f h N vs H}
abbrev PD (B:Tb)(D:Dyn)(n:Nat)(i:FuncId)(f:Func)(h:Hint)(N:Nms)(k:Nat):= {g // some g=prtF B D n i f h N k}
abbrev RD (B:Tb)(D:Dyn)(n:Nat)(i:FuncId)(s:Nat)(L f:List Nat)(a b:Hint)(N:Nms):= {g // g=fun A l az H=>rndS B D n i s L f a b N A l az H}
abbrev QD (B:Tb)(D:Dyn)(n:Nat)(i:FuncId)(s:Nat)(a:List Nat)(b:Hint)(N:Nms)(k:Nat):= {g // some g=prtR B D n i s a b N k}
def Hr:Hint:= .s .o .o
def Hq:Hint:= .s .o (.cl Hr .o)
theorem sn:SOk []:=SOk.nil
theorem sc {i:FuncId}{f:List AV->AH->Option (AV×AH)}{S:List (Nat×(List AV->AH->Option (AV×AH)))}(h:FI i f)(t:SOk S):SOk ((i,f)::S):=SOk.cons h.fs t
theorem fk {D:Dyn}(n:Nat){i:FuncId}{f:List AV->AH->Option (AV×AH)}{S:List (Nat×(List AV->AH->Option (AV×AH)))}{a:Func}(h:Hint)(j:DG D)(m:SOk S)(o:PP.funcs[i]? =some a)(p:zEh a h=true:=by kernel_rfl)(q:f=zPy ⟨X,S⟩ D n i a h:=by kernel_rfl):FI i f:=zQA X_ok j m o p q
noncomputable def UH:ML:=mlOf (zQU Tryz.f126 [1,1,1,0])
theorem zD9:UH.Fits 69:=by constructor<;>first | kernel_rfl | exact of_decide_eq_true (by kernel_rfl)
noncomputable def zDm:Hint:= .o
noncomputable def zEo (vs:List AV)(H:AH):Rs:=
 hd vs fun a vs=>hd vs fun j vs=>hd vs fun x4 vs=>
 bV (v6 a) fun f=>
 bV (fAd 2 f) fun h=>
 bV (ld1 h H) fun i=>
 some (.norm (i::[a,j,x4]),H)
theorem zDb:UH.preK ⟨X,[]⟩ VZ 69 [0,3,4]=zEo:=by kernel_rfl
noncomputable def zHw (I:Nat)(vs:List AV)(k v:AV)(H:AH):Rs:=
 hd vs fun p vs=>hd vs fun q vs=>hd vs fun x4 vs=>
 bV (jM (.tuple [k,v]) 0) fun f=>
 bV (jM (.tuple [k,v]) 1) fun h=>
 bA (bxV 119 (.agg [(.bool false), .nilSlice, .nilSlice, .nilSlice])) H fun a H=>
 bR (stN 4 a h H) fun t H=>
 bV (v6 x4) fun i=>
 bV (fAd 5 i) fun j=>
 bV (ld1 j H) fun m=>
 bV (ldN 4 a H) fun o=>
 bR (upM [10] m f o H) fun s H=>
 some (.norm [(.ptr I 0),p,q,x4],H)
theorem zFM:UH.roundK ⟨X,[]⟩ VZ 0 69 zDm [0,3,4]=zHw:=by kernel_rfl
noncomputable def bF (vs:List AV)(H:AH):Option AH:=match vs with
 | [.ptr C p,x3, .ptr E o]=>match ld1 (.ptr C (p+2)) H with
  | some (.map M)=>match ld1 (.ptr E (o+5)) H with
   | some (.map A)=>bif Nat.blt M H.next&&Nat.blt A H.next&&Nat.blt E H.next then zNn [10] 1 (isAg 4) (.map M) (.map A) H else none
   | _=>none
  | _=>none
 | _=>none
theorem zBN: ∀vs H H',bF vs H=some H'->Nonempty (UH.Plan ⟨X,[]⟩ VZ 0 69 zDm [0,3,4] vs H H'):=by
 intro vs H H' h;unfold bF at h;split at h
 .rename_i C p x3 E o;split at h
  .rename_i M L;split at h
   .rename_i A U;rw[zF]at h;split at h
    .rename_i F;simp only[zE,qD]at F;obtain⟨⟨hM,hA⟩,hE⟩:=F;obtain⟨l,e,sz,g,m,u⟩:=zLl U;have t:=zGI h;refine zNl h ?_ ?_ hM hA ?_
     .rw[zDb];simp only[zEo,hd,bV,v6,fAd,kD,L]
     .intro k v a e0 V J W hk Y K _ _;obtain⟨cs,rfl,hl,Z⟩:=zIp V;have a0:E≠M:=fun e=>by subst e;obtain⟨⟨_,_,f⟩,_⟩:=t;rw[m]at f;simp at f
      have a1:E≠A:=fun e=>by subst e;obtain⟨_,_,_,f⟩:=t;rw[m]at f;simp at f
      have a2:a.h.get E=some (.cells l e sz g):=by rw[J E hE a0 a1];exact m
      obtain⟨t1,a3,N⟩:=zI9 (.cells [(.bool false), .nilSlice, .nilSlice, .nilSlice] 119 1 false) (K a.next (zQ _) (by omega))
      have q:=T.get_set _ _ _ _ _ a3;obtain⟨i,a4,x⟩:=zNC (n:=4) (H:=⟨t1,a.next+1⟩) (A:=a.next) (cs:=cs) (by rw[q,if_pos rfl]) rfl hl Z rfl
      have j:=T.get_set _ _ _ _ _ a4;simp only at j x;have a5:i.get A=some (.map [10] e0):=by rw[j,if_neg (by omega),q,if_neg (by omega)];exact W
      obtain⟨t3,a6,y⟩:=zNm (v:= .agg cs) (H:=⟨i,a.next+1⟩) hk a5
      have s:=T.get_set _ _ _ _ _ a6;simp only at s y;have O:ld1 (.ptr E (o+5)) ⟨i,a.next+1⟩=some (.map A):=zQj (l:=l) (e:=e) (sz:=sz) (g:=g) (by simp only[j,q];rw[if_neg (by omega),if_neg (by omega)];exact a2) u
      have S:ldN 4 (.ptr a.next 0) ⟨i,a.next+1⟩=some (.agg cs):=zOe (by show i.get a.next=_;rw[j,if_pos rfl]) hl
      refine⟨⟨t3,a.next+1⟩, ?_,rfl, ?_,fun C hC Y=> ?_⟩
      .rw[zFM];simp only[zHw,hd,bV,bR,jM,nth,bA,bxV,jT,N,x,v6,fAd,kD,O,S,y]
      .simp only[s,if_true]
      .simp only[s,if_neg hC,j,q];rw[if_neg (by omega),if_neg (by omega)]
     .intro R0 w0 hR hv;obtain⟨z,hz⟩:=hv (.ptr E o) (by simp);obtain⟨b,d,c,hr,_⟩:=hz;exact zLo hR hr m u
    .simp at h
   .simp at h
  .simp at h
 .simp at h
theorem zGL:VM PP 69 126 UH.code [0,3,4] bF:=zNk X_ok zD9 (by decide+kernel) (by decide+kernel) (hb:=zDm) (by kernel_rfl) (kt:=40) (vt:=119) (by kernel_rfl) zBN
end Go.Eng.Sh
end
end

