/- Part 3: no condition. -/
import Derived.Test.YtaaflpnhdkoaeaaGreatO2
import Derived.KernelRfl
import Derived.Maps.RangeRun
import Derived.Test.YtaaflpnhdkoaeaaGreatProg
import Derived.Shelf.Spec.SlicesInsertGrow
import Derived.Ground.Names2Prog
import Derived.Ground.SlmcProg
import Derived.Shelf.SlMaps.Clone
import Derived.Deep.Strs
set_option linter.all false
set_option maxHeartbeats 8000000
set_option maxRecDepth 20000
variable {H p C f:Nat}{h:List Go.Eng.AV->Go.Eng.AH->Option (Go.Eng.AV×Go.Eng.AH)}{i:List Go.Eng.AV}{A M:Go.Eng.AH}{v:List (Nat×(List Go.Eng.AV->Go.Eng.AH->Option (Go.Eng.AV×Go.Eng.AH)))}{l:List Nat}{t:Go.World}{q:Go.FuncId}{e:Go.Eng.Dyn}{s:Go.Eng.AV}{E:Go.Eng.Ren}{F:Go.Eng.Ex×Go.Eng.AH}{G:Array Go.Value}{I:List Go.Eng.AV->Go.Eng.AH->Go.Eng.Rs}{J:Go.Eng.Dyn->Nat->List Go.Eng.AV->Go.Eng.AH->Option (Go.Eng.AV×Go.Eng.AH)}{L:Go.Eng.Hint}{N:Array Go.MapEntry}{Q:List (Go.Eng.AV×Go.Eng.AV)}{R:Array Go.Oper}{U:List ((Nat×Nat)×(Nat->Go.Eng.ALoop->List Go.Eng.AV->Go.Eng.AH->Option (Go.Eng.AV×Go.Eng.AH)))}{V:Bool}{W:Option Go.Code}{Y:Go.TypeId}{a:Nat->Prop}{c:Go.Value}{g:Go.Program}{j:List Go.Eng.AV->Go.Eng.AH->Option Go.Eng.AH}{m:Go.Func}{r:Go.Eng.Env}{u:Nat->Go.Eng.ALoop->List Go.Eng.AV->Go.Eng.AH->Option (Go.Eng.AV×Go.Eng.AH)}{z:List Go.Frame}
namespace Go.Eng
theorem zI7 {x:Rs}(h:jb H x I=some F): ∃y,x=some y/\((∃vs id,y=(.norm vs,id)/\I vs id=some F)\/(∃vs id,y=(.exit H vs,id)/\I vs id=some F)\/(∃i vs id,i≠H/\y=(.exit i vs,id)/\F=y)\/(∃v id,y=(.ret v,id)/\F=y)):=by
 unfold jb at h;split at h
 .exact⟨_,rfl, .inl ⟨_,_,rfl,h⟩⟩
 .rename_i i vs id;rw[zF]at h;split at h
  .rename_i hi;rw[zX]at hi;subst hi;exact⟨_,rfl, .inr (.inl ⟨_,_,rfl,h⟩)⟩
  .rename_i hi;rw[zX]at hi;injection h with h;exact⟨_,rfl, .inr (.inr (.inl ⟨_,_,_,hi,rfl,h.symm⟩))⟩
 .injection h with h;exact⟨_,rfl, .inr (.inr (.inr ⟨_,_,rfl,h.symm⟩))⟩
 .simp at h
theorem d6 {a b:Rs}(h:cnd s a b=some F):(s= .bool true/\a=some F)\/(s= .bool false/\b=some F):=by
 unfold cnd at h;split at h
 .exact .inl ⟨rfl,h⟩
 .exact .inr ⟨rfl,h⟩
 .simp at h
theorem WC {K:Env->Rs}(h:unp l i uQ K=some F)(hp:PK r l i): ∃env',K env'=some F/\Le env' r:=by
 obtain⟨env',m,f⟩:=QG h r hp;refine⟨env',m,fun t x a=> ?_⟩;by_cases j:t∈l
 .rw[<-(f t).1 j];exact a
 .rw[(f t).2 j]at a;simp[look,uQ]at a
theorem zDo {f:List (Nat×List Nat)}(h:uI (zG4 f H) p=some l):p≠H/\uI f p=some l:=by
 induction f with
 | nil=>simp[zG4,uI]at h
 | cons x f ih=>
  obtain⟨j,M⟩:=x;unfold zG4 at h;simp only[List.filter_cons]at h;split at h
  .rename_i a;simp only[yU]at a;have m:j≠H:=fun e=>by rw[e]at a;simp[yF]at a
   simp only[uI,zF,zX]at h⊢;split at h
   .rename_i e;subst e;rw[if_pos rfl];exact⟨m,h⟩
   .rename_i e;rw[if_neg e];exact ih h
  .rename_i a;have m:j=H:=by
    have:Nat.beq j H=true:=by simpa using a
    simpa using this
   obtain⟨o,id⟩:=ih h;refine⟨o, ?_⟩;simp only[uI,zF,zX];rw[if_neg (fun e=>o (by rw[<-e,m]))];exact id
def XP (a:List (Nat×List Nat))(out:Ex×AH)(id:Nat)(env:Env)(H:AH):Prop:= ∃L vs,uI a id=some L/\PK env L vs/\out=(.exit id vs,H)
def RP (X:Cx)(rs:List ResultVar)(out:Ex×AH)(env:Env)(H:AH):Prop:=zKp X rs env H=some out
theorem zBA {X:Cx}{env:Env}{H:AH} : ∀(rs:List ResultVar) (G:List AV->Rs),(∀vs z,G vs=some z-> ∃v,z=(.ret v,H))-> ∀z,zPd X rs env H G=some z-> ∃v,z=(.ret v,H)
 | [],G,hG,z,a=>hG _ _ a
 | r::rs,G,hG,z,a=>by
  simp only[zPd]at a;obtain⟨v,_,f⟩:=wI a;exact zBA rs _ (fun vs z a=>hG _ _ a) z f
def vP {X:Cx}{rs:List ResultVar}(h:RP X rs F r A): ∃v,F=(.ret v,A):=
 zBA rs _ (fun vs z a=>by injection a with a;exact⟨_,a.symm⟩) _ h
def VJ (P:Program)(nt:Nat)(f0:FuncId)(c:Code)(L:List Nat)(m:List AV->AH->Option AH):Prop:=
 ∀(ro:Bool) (env:Env) (vs:List AV) (H H':AH),PK env L vs->m vs H=some H'->H.next<=H'.next->U0 P nt f0 ro (.code c) env H (fun env' a=>PK env' L vs/\a=H') (fun _ _ _=>False) (fun _ _=>False)
theorem zE1 {x:Option AH}{K:AH->Rs}(h:tld x H K=some F): ∃H',x=some H'/\H<=H'.next/\K H'=some F:=by
 unfold tld at h;split at h
 .rename_i H';rw[zF]at h;split at h
  .rename_i a;rw[qW]at a;exact⟨H',rfl,a,h⟩
  .simp at h
 .simp at h
def kS (P:Program)(f0:FuncId)(nt:Nat):Code->Hint->Prop
 | .seq a b, .s ha hb=>kS P f0 nt a ha/\kS P f0 nt b hb
 | .cond _ a b, .c _ ha hb=>kS P f0 nt a ha/\kS P f0 nt b hb
 | .cond _ a b, .cl ha hb=>kS P f0 nt a ha/\kS P f0 nt b hb
 | .cond _ a b, .cr ha hb=>kS P f0 nt a ha/\kS P f0 nt b hb
 | .block _ b, .b _ hb=>kS P f0 nt b hb
 | .block _ b, .b0 hb=>kS P f0 nt b hb
 | .seq a b, .t L m=>VJ P nt f0 (.seq a b) L m
 | .loop b, .l _ hb=>kS P f0 nt b hb
 | .rangeFunc _ ps a b, .rf s _=>zAi f0 s=some (nt,ps,a,b)
 | _,_=>True
theorem zBM {o:AObj}{K:Nat->AH->Rs}(h:VN A o K=some F): ∃t,T.set 40 A.h A.next o=some t/\T.get A.h A.next=none/\K A.next ⟨t,A.next+1⟩=some F:=by
 unfold VN at h;split at h
 .rename_i a;split at h
  .rename_i t f;rw[kF]at h;exact⟨t,f,a,h⟩
  .simp at h
 .simp at h
theorem BJ {K:Option Code->AH->Rs}(h:fT H A K=some F): ∃l H',A.h.get H=some (.loop l)/\l.state≠ .busy/\fX A H .dead=some H'/\K l.pending H'=some F:=by
 unfold fT at h;split at h
 .rename_i l a;split at h
  .simp at h
  .rename_i hb;split at h
   .rename_i H' hp;exact⟨l,H',a,hb,hp,h⟩
   .simp at h
 .simp at h
theorem zAJ {env:Env}{H:AH}{id:Nat}{out:Ex×AH} : ∀ {j:List (Nat×List Nat)},exS j env H id=some out->XP j out id env H
 | [],h=>by simp[exS]at h
 | (i,L)::r,h=>by
  simp only[exS,zF,zX]at h;split at h
  .rename_i e;obtain⟨vs,f,a⟩:=wH h;injection a with a
   exact⟨L,vs,by simp[uI,e],f,a.symm⟩
  .rename_i e;obtain⟨m,vs,f,a,o⟩:=zAJ h;refine⟨m,vs, ?_,a,o⟩;simp only[uI,zF,zX,if_neg e];exact f
theorem zCn {env:Env} : ∀ {L:List Nat} {vs:List AV} {base:Env},PK env L vs-> ∀t,(t∈L->look (zPp L vs base) t=look env t)/\(t∉L->look (zPp L vs base) t=look base t)
 | [],vs,base,h,t=>by
  simp only[PK]at h;subst h;exact⟨fun h=>by simp at h,fun _=>rfl⟩
 | l::L,vs,base,⟨v,vs',e,hv,hp⟩,t=>by
  subst e;obtain⟨m,j⟩:=zCn (base:=upd base l v) hp t;simp only[zPp];refine⟨fun a=> ?_,fun a=> ?_⟩
  .by_cases f:t∈L
   .exact m f
   .rw[j f];have:t=l:=by
              simp at a;rcases a with h | h
              .exact h
              .exact absurd h f
    subst this;simp only[look,bI,if_true];exact hv.symm
  .simp only[zK,not_or]at a;rw[j a.2];simp only[look,bI,if_neg a.1]
theorem zOE (h:PK r l i):Le (envL l i) r:=by
 intro t x a;obtain⟨j,m⟩:=zCn (base:=uQ) h t;by_cases f:t∈l
 .rw[<-j f];exact a
 .have:=m f;simp only[envL]at a;rw[this]at a;simp[look,uQ]at a
def Rel.alloc_out (h:Rel E A t)(o:Obj):Rel E A (t.alloc o):=
 ⟨h.fn,h.inj,fun R b d c x r a=>by rw[heap_alloc_old _ _ _ (h.lt _ _ _ _ r).1];exact h.obj R b d c x r a,fun R b d c r=>by rw[kV];exact⟨Nat.lt_succ_of_lt (h.lt _ _ _ _ r).1,(h.lt _ _ _ _ r).2⟩⟩
def Ext.alloc_out (R:Ren)(H:AH)(w:World)(o:Obj):Ext R H w R H (w.alloc o):=
 ⟨zRm R,fun _ _ _ _ h=> .inl h,fun _ _ _ _ h=> .inl h,zM _,fun _ _ _=>rfl,rfl,rfl,rfl,by rw[kV];omega,fun b hb _=>heap_alloc_old _ _ _ hb⟩
section
variable {P:Program}{B:Tb}{D:Dyn}(hX:Ok P B.X)(hr:Good P (rOf B D)){nt:Nat}{rs:List ResultVar}{f0:FuncId}{ro:Bool}
def BI {id:Nat}{k:List Item}{fr:Frame}{cs:List Frame}{f w:World}{tmps:Array Value}{a:List Deferred}(hm:fr.mode= .run)(h:Steps P (lone fr cs f) (lone { fr with tmps:=tmps,todo:= .inBlock id::k,defers:=a} cs w)):
  Steps P (lone fr cs f) (lone { fr with tmps:=tmps,todo:=k,defers:=a} cs w):=
 h.trans (.one (U9 (fr:= { fr with tmps:=tmps,todo:= .inBlock id::k,defers:=a}) hm rfl))
def zIU {id:Nat}{k k':List Item}{fr:Frame}{cs:List Frame}{f w:World}{tmps:Array Value}{a:List Deferred}(hm:fr.mode= .run)(j:exitTo id k'=some k)(h:Steps P (lone fr cs f) (lone { fr with tmps:=tmps,todo:= .code (.exit id)::k',defers:=a} cs w)):
  Steps P (lone fr cs f) (lone { fr with tmps:=tmps,todo:=k,defers:=a} cs w):=
 h.trans (.one (zGX (fr:= { fr with tmps:=tmps,todo:= .code (.exit id)::k',defers:=a}) hm rfl j))
include hX hr in
theorem KM {n:Nat} : ∀(c:Code) (h:Hint) (u:List (Nat×List Nat)) (K:Env->AH->Rs) (env:Env) (H:AH) (out:Ex×AH),kS P f0 nt c h->kI B D n nt rs f0 ro c h u K env H=some out->
  U0 P nt f0 ro (.code c) env H (fun env' H'=>K env' H'=some out) (XP u out) (RP B.X rs out):=by
 intro c
 induction c with
 | skip=>
  intro h u K env H out Z o lo R fr k cs w hm S N C hL O T;simp only[kI]at o;exact⟨R,w,fr.tmps,k,fr.defers,env,H, .one (zGV hm N),C,hL,zRr R H w,zM _,O, .inl ⟨rfl,o⟩⟩
 | label l=>
  intro h u K env H out Z o lo R fr k cs w hm S N C hL O T;simp only[kI]at o;exact⟨R,w,fr.tmps,k,fr.defers,env,H, .one (zKg hm N),C,hL,zRr R H w,zM _,O, .inl ⟨rfl,o⟩⟩
 | region id ops draw=>
  intro h u K env H out Z o;simp only[kI]at o;exact zNI hX hr o f0 ro _ _
 | seq a b iha ihb=>
  intro h u K env H out Z o
  cases h with
  | s ha hb=>
   simp only[kI]at o;intro lo R fr k cs w hm S N C hL O T;refine U0.step (U8 hm N) rfl ?_;refine U0.then [.code b] (fun id k=>rfl) (iha ha u _ env H out Z.1 o) (fun d5 H1 h5 lo R fr k cs w hm S N C hL O T=> ?_) lo R { fr with todo:= .code a:: .code b::k} k cs w hm S rfl C hL O T;exact ihb hb u K d5 H1 out Z.2 h5 lo R fr k cs w hm S N C hL O T
  | t L m=>
   simp only[kI]at o;obtain⟨vs,hp,o⟩:=wH o;obtain⟨H',hm,i4,o⟩:=zE1 o;intro lo R fr k cs w i5 S N C hL O T;obtain⟨Y,p,t',td,ds,env',i6,a1,a2,a3,a4,a5,a6,a7⟩:=Z ro env vs H H' hp hm i4 lo R fr k cs w i5 S N C hL O T;rcases a7 with⟨b1,b2,rfl⟩ | ⟨i,k',b1,b2,b3⟩ | ⟨k',b1,b2⟩
   .obtain⟨g9,c1,c2⟩:=WC o b2;exact⟨Y,p,t',td,ds,g9,i6,a1,a2.le c2,a3,a4,a5,a6, .inl ⟨b1,c1⟩⟩
   .exact b3.elim
   .exact b2.elim
  | _=>simp[kI]at o
 | cond c a b iha ihb=>
  intro h u K env H out Z o
  cases h with
  | c L ha hb=>
   simp only[kI]at o;split at o
   .rename_i v hv;intro lo R fr k cs w hm S N C hL O T;have b8:=kR C _ _ hv;have key: ∀(t:Bool) (cc:Code) (hh:Hint),v= .bool t->cc=(if t then a else b)->
      (∀y,kI B D n nt rs f0 ro cc hh u (fun env H=>pck L env fun vs=>some (.norm vs,H)) env H=some y->U0 P nt f0 ro (.code cc) env H (fun env' H'=>(pck L env' fun vs=>some (.norm vs,H'))=some y) (XP u y) (RP B.X rs y))->
      jn (kI B D n nt rs f0 ro cc hh u (fun env H=>pck L env fun vs=>some (.norm vs,H)) env H) (fun vs H=>unp L vs uQ fun env=>K env H)=some out->
      ∃Y p c0 td ds env' H',Steps P (lone fr cs w) (lone { fr with tmps:=c0,todo:=td,defers:=ds} cs p)/\EnvR Y env' nt c0/\Rel Y H' p/\Ext R H w Y H' p/\H.next<=H'.next/\Marks lo Y p ds/\Ends k (fun env' H'=>K env' H'=some out) (XP u out) (RP B.X rs out) td env' H':=by
     intro t cc hh i7 i8 ih hj;subst i7 i8;refine U0.step (ZI hm N b8) rfl ?_
     cases hy:kI B D n nt rs f0 ro (if t then a else b) hh u (fun env H=>pck L env fun vs=>some (.norm vs,H)) env H with
     | none=>rw[hy]at hj;simp[jn]at hj
     | some y=>
      rw[hy]at hj;obtain⟨Y,p,t',td,ds,env',H',a1,a2,a3,a4,a5,a6,a7⟩:=ih y hy lo R { fr with todo:= .code (if t then a else b)::k} k cs w hm S rfl C hL O T
      rcases a7 with⟨b1,b2⟩ | ⟨id,k',b1,b2,L',vs',b3,b4,b5⟩ | ⟨k',b1,b2⟩
      .obtain⟨vs,c1,c2⟩:=wH b2;injection c2 with c2;subst c2
       obtain⟨env2,d1,d2⟩:=WC hj c1;exact⟨Y,p,t',td,ds,env2,H',a1,a2.le d2,a3,a4,a5,a6, .inl ⟨b1,d1⟩⟩
      .subst b5;simp only[jn,zB]at hj;exact⟨Y,p,t',td,ds,env',H',a1,a2,a3,a4,a5,a6, .inr (.inl ⟨id,k',b1,b2,L',vs',b3,b4,hj.symm⟩)⟩
      .have c3:=vP b2;obtain⟨v,rfl⟩:=c3;simp only[jn,zB]at hj;subst hj;exact⟨Y,p,t',td,ds,env',H',a1,a2,a3,a4,a5,a6, .inr (.inr ⟨k',b1,b2⟩)⟩
    have l8:=o
    cases v with
    | bool t=>
     cases t with
     | true=>exact key true a ha rfl rfl (fun y hy=>iha ha u _ env H y Z.1 hy) o
     | false=>exact key false b hb rfl rfl (fun y hy=>ihb hb u _ env H y Z.2 hy) o
    | _=>simp[cnd,jn]at o
   .simp at o
  | cl ha hb=>
   simp only[kI]at o;split at o
   .rename_i v hv;intro lo R fr k cs w hm S N C hL O T;have b8:=kR C _ _ hv;rcases d6 o with⟨rfl,h1⟩ | ⟨rfl,h1⟩
    .refine U0.step (ZI hm N b8) rfl ?_;exact((iha ha u _ env H out Z.1 h1).mono (fun _ _ h=>by simp at h) (fun _ _ _ h=>h) (fun _ _ h=>h)) lo R { fr with todo:= .code a::k} k cs w hm S rfl C hL O T
    .refine U0.step (ZI hm N b8) rfl ?_;exact ihb hb u _ env H out Z.2 h1 lo R { fr with todo:= .code b::k} k cs w hm S rfl C hL O T
   .simp at o
  | cr ha hb=>
   simp only[kI]at o;split at o
   .rename_i v hv;intro lo R fr k cs w hm S N C hL O T;have b8:=kR C _ _ hv;rcases d6 o with⟨rfl,h1⟩ | ⟨rfl,h1⟩
    .refine U0.step (ZI hm N b8) rfl ?_;exact iha ha u _ env H out Z.1 h1 lo R { fr with todo:= .code a::k} k cs w hm S rfl C hL O T
    .refine U0.step (ZI hm N b8) rfl ?_;exact((ihb hb u _ env H out Z.2 h1).mono (fun _ _ h=>by simp at h) (fun _ _ _ h=>h) (fun _ _ h=>h)) lo R { fr with todo:= .code b::k} k cs w hm S rfl C hL O T
   .simp at o
  | _=>simp[kI]at o
 | block id b ih=>
  intro h u K env H out Z o
  cases h with
  | b L hb=>
   simp only[kI]at o;intro lo R fr k cs w hm S N C hL O T;obtain⟨y,hy,c6⟩:=zI7 o;refine U0.step (K6 hm N) rfl ?_;obtain⟨Y,p,t',td,ds,env',H',a1,a2,a3,a4,a5,a6,a7⟩:=ih hb _ _ env H y Z hy lo R { fr with todo:= .code b:: .inBlock id::k} (.inBlock id::k) cs w hm S rfl C hL O T;rcases a7 with⟨b1,b2⟩ | ⟨i,k',b1,b2,L',vs',b3,b4,b5⟩ | ⟨k',b1,b2⟩
   .obtain⟨vs,c1,c2⟩:=wH b2;injection c2 with c2;subst c2
    rcases c6 with⟨a8,H2,J,e2⟩ | ⟨a8,H2,J,_⟩ | ⟨i,a8,H2,_,J,_⟩ | ⟨v,H2,J,_⟩
    .simp only[zU,Ex.norm.injEq]at J;obtain⟨rfl,rfl⟩:=J;obtain⟨env2,d1,d2⟩:=WC e2 c1;subst b1;exact⟨Y,p,t',k,ds,env2,H',BI (fr:= { fr with todo:= .code b:: .inBlock id::k}) hm a1,a2.le d2,a3,a4,a5,a6, .inl ⟨rfl,d1⟩⟩
    .simp at J
    .simp at J
    .simp at J
   .subst b5;by_cases hi:i=id
    .subst hi;simp only[uI,yF,zP,zB]at b3;subst b3;rcases c6 with⟨a8,H2,J,_⟩ | ⟨a8,H2,J,e2⟩ | ⟨j,a8,H2,e9,J,_⟩ | ⟨v,H2,J,_⟩
     .simp at J
     .simp only[zU,Ex.exit.injEq,true_and]at J;obtain⟨rfl,rfl⟩:=J;obtain⟨env2,d1,d2⟩:=WC e2 b4;subst b1;have i9:exitTo i k'=some k:=by rw[b2];simp[exitTo]
      exact⟨Y,p,t',k,ds,env2,H',zIU (fr:= { fr with todo:= .code b:: .inBlock i::k}) hm i9 a1,a2.le d2,a3,a4,a5,a6, .inl ⟨rfl,d1⟩⟩
     .simp only[zU,Ex.exit.injEq]at J;exact absurd J.1.1.symm e9
     .simp at J
    .have f1:uI u i=some L':=by
      simp only[uI,zF,zX,if_neg (fun e=>hi (Eq.symm e))]at b3;exact b3
     have f3:exitTo i k'=exitTo i k:=by
      rw[b2];simp only[exitTo];rw[if_neg (by simpa using fun e=>hi (Eq.symm e))]
     rcases c6 with⟨a8,H2,J,_⟩ | ⟨a8,H2,J,_⟩ | ⟨j,a8,H2,e9,J,e2⟩ | ⟨v,H2,J,_⟩
     .simp at J
     .simp only[zU,Ex.exit.injEq]at J;exact absurd J.1.1 hi
     .exact⟨Y,p,t',td,ds,env',H',a1,a2,a3,a4,a5,a6, .inr (.inl ⟨i,k',b1,f3,L',vs',f1,b4,e2⟩)⟩
     .simp at J
   .have c3:=vP b2;obtain⟨v,rfl⟩:=c3;rcases c6 with⟨a8,H2,J,_⟩ | ⟨a8,H2,J,_⟩ | ⟨j,a8,H2,e9,J,_⟩ | ⟨v2,H2,J,e2⟩
    .simp at J
    .simp at J
    .simp at J
    .subst e2;exact⟨Y,p,t',td,ds,env',H',a1,a2,a3,a4,a5,a6, .inr (.inr ⟨k',b1,b2⟩)⟩
  | b0 hb=>
   simp only[kI]at o;intro lo R fr k cs w hm S N C hL O T;refine U0.step (K6 hm N) rfl ?_;obtain⟨Y,p,t',td,ds,env',H',a1,a2,a3,a4,a5,a6,a7⟩:=ih hb _ _ env H out Z o lo R { fr with todo:= .code b:: .inBlock id::k} (.inBlock id::k) cs w hm S rfl C hL O T;rcases a7 with⟨b1,b2⟩ | ⟨i,k',b1,b2,L',vs',b3,b4,b5⟩ | ⟨k',b1,b2⟩
   .subst b1;exact⟨Y,p,t',k,ds,env',H',BI (fr:= { fr with todo:= .code b:: .inBlock id::k}) hm a1,a2,a3,a4,a5,a6, .inl ⟨rfl,b2⟩⟩
   .obtain⟨hi,f1⟩:=zDo b3;have f3:exitTo i k'=exitTo i k:=by
     rw[b2];simp only[exitTo];rw[if_neg (by simpa using fun e=>hi (Eq.symm e))]
    exact⟨Y,p,t',td,ds,env',H',a1,a2,a3,a4,a5,a6, .inr (.inl ⟨i,k',b1,f3,L',vs',f1,b4,b5⟩)⟩
   .exact⟨Y,p,t',td,ds,env',H',a1,a2,a3,a4,a5,a6, .inr (.inr ⟨k',b1,b2⟩)⟩
  | _=>simp[kI]at o
 | loop b ih=>
  intro h u K env H out Z o
  cases h with
  | l L hb=>
   simp only[kI]at o;obtain⟨j0,j1,o⟩:=wH o;have key: ∀(m:Nat) (vs:List AV) (env:Env) (H:AH),PK env L vs->kJ m (fun vs H=>unp L vs uQ fun env=>kI B D n nt rs f0 ro b hb u (fun env H=>pck L env fun vs=>some (.norm vs,H)) env H) vs H=some out->
     ∀(lo:Nat) (R:Ren) (fr:Frame) (k:List Item) (cs:List Frame) (w:World),fr.mode= .run->(ro=false->fr.roundOf=none/\fr.fn=f0)->fr.todo= .code b:: .inLoop b::k->EnvR R env nt fr.tmps->Rel R H w->Marks lo R w fr.defers->lo<=w.heap.size->
     ∃Y p c0 td ds env' H',Steps P (lone fr cs w) (lone { fr with tmps:=c0,todo:=td,defers:=ds} cs p)/\EnvR Y env' nt c0/\Rel Y H' p/\Ext R H w Y H' p/\H.next<=H'.next/\Marks lo Y p ds/\Ends k (fun env' H'=>K env' H'=some out) (XP u out) (RP B.X rs out) td env' H':=by
    intro m
    induction m with
    | zero=>intro vs env H _ hl;have b7:(none:Rs)=some out:=hl;simp at b7
    | succ m ihm=>
     intro vs env H hp hl lo R fr k cs w hm S N C hL O T;have b7:jn (unp L vs uQ fun env=>kI B D n nt rs f0 ro b hb u (fun env H=>pck L env fun vs=>some (.norm vs,H)) env H) (kJ m (fun vs H=>unp L vs uQ fun env=>kI B D n nt rs f0 ro b hb u (fun env H=>pck L env fun vs=>some (.norm vs,H)) env H))=some out:=hl
     cases hy:(unp L vs uQ fun env=>kI B D n nt rs f0 ro b hb u (fun env H=>pck L env fun vs=>some (.norm vs,H)) env H)with
     | none=>rw[hy]at b7;simp[jn]at b7
     | some y=>
      rw[hy]at b7;obtain⟨d5,d1,d2⟩:=WC hy hp;obtain⟨Y,p,t',td,ds,env',H',a1,a2,a3,a4,a5,a6,a7⟩:=ih hb u _ d5 H y Z d1 lo R fr (.inLoop b::k) cs w hm S N (C.le d2) hL O T;rcases a7 with⟨b1,b2⟩ | ⟨i,k',b1,b2,L',vs',b3,b4,b5⟩ | ⟨k',b1,b2⟩
      .obtain⟨a8,c1,c2⟩:=wH b2;injection c2 with c2;subst c2
       subst b1;have j2:kJ m (fun vs H=>unp L vs uQ fun env=>kI B D n nt rs f0 ro b hb u (fun env H=>pck L env fun vs=>some (.norm vs,H)) env H) a8 H'=some out:=b7;obtain⟨R2,w2,t2,j3,j4,env2,H2,J,e2,e3,e4,e5,e6,e7⟩:=ihm a8 env' H' c1 j2 lo Y { fr with tmps:=t',todo:= .code b:: .inLoop b::k,defers:=ds} k cs p hm S rfl a2 a3 a6 (qN T a4.size);have h0:=Steps.one (zBk (P:=P) (cs:=cs) (w:=p) (fr:= { fr with tmps:=t',todo:= .inLoop b::k,defers:=ds}) hm rfl);exact⟨R2,w2,t2,j3,j4,env2,H2,a1.trans (h0.trans J),e2,e3,a4.trans e4,qN a5 e5,e6,e7⟩
      .subst b5;simp only[jn,zB]at b7;exact⟨Y,p,t',td,ds,env',H',a1,a2,a3,a4,a5,a6, .inr (.inl ⟨i,k',b1,b2,L',vs',b3,b4,b7.symm⟩)⟩
      .have c3:=vP b2;obtain⟨v,rfl⟩:=c3;simp only[jn,zB]at b7;subst b7;exact⟨Y,p,t',td,ds,env',H',a1,a2,a3,a4,a5,a6, .inr (.inr ⟨k',b1,b2⟩)⟩
   intro lo R fr k cs w hm S N C hL O T;refine U0.step (zGW hm N) rfl ?_;exact key n j0 env H j1 o lo R { fr with todo:= .code b:: .inLoop b::k} k cs w hm S rfl C hL O T
  | _=>simp[kI]at o
 | exit id=>
  intro h u K env H out Z o lo R fr k cs w hm S N C hL O T;simp only[kI]at o;split at o
  .rename_i L j5;obtain⟨vs,h1,h2⟩:=wH o;injection h2 with h2
   refine⟨R,w,fr.tmps,fr.todo,fr.defers,env,H, ?_,C,hL,zRr R H w,zM _,O, .inr (.inl ⟨id,k,N,rfl,L,vs,j5,h1,h2.symm⟩)⟩;exact .refl _ _
  .simp at o
 | ret=>
  intro h u K env H out Z o lo R fr k cs w hm S N C hL O T;simp only[kI]at o;refine⟨R,w,fr.tmps,fr.todo,fr.defers,env,H, ?_,C,hL,zRr R H w,zM _,O, .inr (.inr ⟨k,N,o⟩)⟩;exact .refl _ _
 | rangeFunc f params assign body _ _=>
  intro h u K env H out Z o
  cases h with
  | rf s L=>
   simp only[kI,zF]at o;split at o
   .simp at o
   .rename_i h6;have h3:ro=false:=by simpa using h6
    split at o
    .rename_i fv j6;obtain⟨vs,hp,o⟩:=wH o;obtain⟨t',f6,l6,o⟩:=zBM o;obtain⟨v,H2,c7,o⟩:=d8 o;obtain⟨lp,H3,f8,h4,c4,o⟩:=BJ o;unfold rfC at c7;split at c7
     .rename_i g first cap _ _
      intro lo R fr k cs w hm S N C hL O T;obtain⟨c9,h7⟩:=S h3;obtain⟨j7,h8⟩:=hr.call _ _ _ _ _ c7;obtain⟨a9,b6,j8,j9,k0⟩:=kR C _ _ j6
      let LP:Loop:= { state:= .ready,pending:=none,fn:=fr.fn,tmps:=fr.tmps,params:=params,assign:=assign,body:=body,defers:=w.heap.size}
      let W1:World:=(w.alloc (.deferred (some []))).alloc (.loop LP)
      let a0:Frame:= { fr with todo:= .inRangeFunc (w.heap.size+1)::k,defers:= { target:= .collected w.heap.size,args:= #[] } ::fr.defers}
      let R1:Ren:=R.add H.next (w.heap.size+1) 0 0
      have k1:=hL.alloc_out (.deferred (some []));have d7:(w.alloc (.deferred (some []))).heap.size=w.heap.size+1:=kV _ _;have f9:Rel R1 ⟨t',H.next+1⟩ W1:=by
       have:=k1.new (c:=0) (x:= .loop LP) f6 ⟨LP,nt,rfl,Z,rfl,rfl,h7,(C.le (zOE hp)).mono (R.sub_add _ _ _ _)⟩;rw[d7]at this;exact this
      have c5:Ext R H w R1 ⟨t',H.next+1⟩ W1:=by
       have:=(Ext.alloc_out R H w (.deferred (some []))).trans (Ext.add (c:=0) (x:= .loop LP) f6);rw[d7]at this;exact this
      have g0:R1 H.next (w.heap.size+1) 0 0:=R.add_self _ _ _ _
      have k2:Marks lo R1 W1 a0.defers:=by
       have g1:=O.ext c5;refine⟨qV.2 ⟨fun q hq r e=> ?_,g1.1⟩,fun q hq=> ?_⟩
       .obtain⟨r',e',_,h2,_,_⟩:=O.2 q hq;rw[e'];intro e2;simp only[Deferred.mk.injEq,Target.collected.injEq,and_true]at e e2;omega
       .rcases zK.1 hq with rfl | hq
        .refine⟨w.heap.size,rfl,T, ?_, ?_, ?_⟩
         .show w.heap.size<W1.heap.size;simp only[W1,kV];omega
         .rintro A d c (h | ⟨_,h,_⟩)
          .have:=(hL.lt _ _ _ _ h).1;omega
          .omega
         .show((w.alloc (.deferred (some []))).alloc (.loop LP)).heap[w.heap.size]? =_;rw[heap_alloc_old _ _ _ (by rw[d7];omega),bX]
        .exact g1.2 q hq
      have k3:VRL R1 [AV.yT H.next] [Value.func (.yield (w.heap.size+1)) #[] #[]]:=⟨_,[],rfl,⟨_,_,_,g0,rfl⟩,rfl⟩
      have f4:VRL R1 (first++[AV.yT H.next]++cap) ((a9++[Value.func (.yield (w.heap.size+1)) #[] #[]])++b6):=
       ((VRL.mono c5.sub _ _ j9).append k3).append (VRL.mono c5.sub _ _ k0)
      have g2:=run_enterLoop_outer (P:=P) (w:=w) fr.fn fr.tmps params assign body;have f7: ∀F:Frame,F.tmps=fr.tmps->(resolve F.eval { callee:= .value f,args:= #[.const (.func (.yield (w.heap.size+1)) #[] #[])],argTypes:= #[] } 0).run P ((w.alloc (.deferred (some []))).alloc (.loop { state:= .ready,pending:=none,fn:=fr.fn,tmps:=fr.tmps,params:=params,assign:=assign,body:=body,defers:=w.heap.size}))=
        .ok { target:= .fn (.func g) ⟨b6⟩,args:=⟨a9++[Value.func (.yield (w.heap.size+1)) #[] #[]]⟩ } ((w.alloc (.deferred (some []))).alloc (.loop { state:= .ready,pending:=none,fn:=fr.fn,tmps:=fr.tmps,params:=params,assign:=assign,body:=body,defers:=w.heap.size})):=by
       intro F hF;have k4:F.eval f=fr.eval f:=by cases f<;>simp[Frame.eval,hF]
       have h9:F.eval f= .func (.func g) ⟨a9⟩ ⟨b6⟩:=k4.trans j8
       have k5:F.eval (.const (.func (.yield (w.heap.size+1)) #[] #[]))= .func (.yield (w.heap.size+1)) #[] #[]:=rfl;simp[resolve,h9,Deferred.ofValue,k5]
      have c8: ∀p,(invoke (.fn (.func g) ⟨b6⟩) ⟨a9++[Value.func (.yield (w.heap.size+1)) #[] #[]]⟩).run P p=(callFunc g ⟨(a9++[Value.func (.yield (w.heap.size+1)) #[] #[]])++b6⟩).run P p:=by
       intro p;have k6:(⟨a9++[Value.func (.yield (w.heap.size+1)) #[] #[]]⟩:Array Value)++⟨b6⟩=⟨(a9++[Value.func (.yield (w.heap.size+1)) #[] #[]])++b6⟩:=by
        apply Array.toList_inj.1;simp
       simp only[invoke,k6]
      have g6: ∃R2 w2 z,Steps P (lone fr cs w) (lone { a0 with todo:= .endRangeFunc (w.heap.size+1)::k} cs w2)/\VR R2 v z/\Rel R2 H2 w2/\Ext R1 ⟨t',H.next+1⟩ W1 R2 H2 w2:=by
       rcases h8 with⟨⟨fn,g3,l7⟩,k7⟩ | i0
       .have d0:step P (lone fr cs w)= .next (lone (Frame.enter P g ⟨(a9++[Value.func (.yield (w.heap.size+1)) #[] #[]])++b6⟩ .normal) (a0::cs) W1):=by
         refine step_lone_go ?_;have k8:=hX.nm g fn g3;have hb:fn.body.isNone=false:=by cases hh:fn.body<;>simp_all
         have g4: ∀p,(callFunc g ⟨(a9++[Value.func (.yield (w.heap.size+1)) #[] #[]])++b6⟩).run P p= .ok (.enter g ⟨(a9++[Value.func (.yield (w.heap.size+1)) #[] #[]])++b6⟩) p:=by
          intro p;simp only[callFunc,program,zH,Sem.run,Result.andThen,g3,k8,zL,qD,hb,zO]
         simp only[stepG,stepG.exec,hm,N,c9,Sem.runT_eq,g2,stepG.apply,zH];simp only[qF,qX,if_true];simp only[zZ,qF,qX]at c8 g4⊢;simp[f7,c8,g4,a0,W1,LP,hm,c9]
        obtain⟨R2,w2,z,k9,s2,f2,l0,v2,l2,x2⟩:=k7 R1 _ (a0::cs) W1 f4 f9;have g7:step P (lone k9 (a0::cs) w2)= .next (lone { a0 with todo:= .endRangeFunc (w.heap.size+1)::k} cs w2):=step_leave_returned l0
        exact⟨R2,w2,z,(Steps.one d0).trans (s2.trans (.one g7)),v2,l2,x2⟩
       .obtain⟨R2,w2,z,i1,v2,l2,x2⟩:=i0 R1 _ W1 f4 f9;have d0:step P (lone fr cs w)= .next (lone { a0 with todo:= .endRangeFunc (w.heap.size+1)::k} cs w2):=by
         refine step_lone_go ?_;have f5:(callFunc g ⟨(a9++[Value.func (.yield (w.heap.size+1)) #[] #[]])++b6⟩).run P ((w.alloc (.deferred (some []))).alloc (.loop { state:= .ready,pending:=none,fn:=fr.fn,tmps:=fr.tmps,params:=params,assign:=assign,body:=body,defers:=w.heap.size}))= .ok (.value z) w2:=i1
         simp only[stepG,stepG.exec,hm,N,c9,Sem.runT_eq,g2,stepG.apply,zH];simp only[qF,qX,if_true];simp only[zZ,qF,qX]at c8 f5;simp[f7,c8,f5,a0,hm,c9,Frame.finish]
        exact⟨R2,w2,z, .one d0,v2,l2,x2⟩
      obtain⟨R2,w2,z,s2,v2,l2,x2⟩:=g6;have d9:R2 H.next (w.heap.size+1) 0 0:=x2.sub _ _ _ _ g0
      obtain⟨L2,l9,l1,_,i2,i3,_,_⟩:=l2.obj _ _ _ _ _ d9 f8;have l4:=run_endLoop (P:=P) l1 (by rw[i2];exact h4);have g8:step P (lone { a0 with todo:= .endRangeFunc (w.heap.size+1)::k} cs w2)= .next (lone { a0 with todo:=(lp.pending.map Item.code).toList++k} cs (vX w2 (w.heap.size+1) (.loop { L2 with state:= .exhausted}))):=by
       refine step_lone_go ?_;have l5:a0.mode= .run:=hm;simp only[stepG,stepG.exec,l5,Sem.runT_eq,l4,i3];simp[World.putObj,vX]
      unfold fX at c4;split at c4
      .rename_i t3 g5;simp only[zB]at c4;subst c4;have l3:=l2.put d9 ⟨_,f8,trivial⟩ g5 (x:= .loop { L2 with state:= .exhausted}) (o':= .dead) trivial;have x3:Ext R2 H2 w2 R2 ⟨t3,H2.next⟩ (vX w2 (w.heap.size+1) (.loop { L2 with state:= .exhausted})):=Ext.put d9 g5
       have e0:=c5.trans (x2.trans x3);have d3:=(k2.ext x2).ext x3;have d4:EnvR R2 env nt fr.tmps:=C.mono (c5.sub.trans x2.sub);have b9:=s2.trans (Steps.one g8);have e8:H.next<=H2.next:=qN (Nat.le_succ _) j7
       unfold zEE at o;split at o
       .rename_i hj;rw[hj]at b9;exact⟨R2,_,fr.tmps,k,a0.defers,env,_,b9,d4,l3,e0,e8,d3, .inl ⟨rfl,o⟩⟩
       .rename_i id hj;rw[hj]at b9;exact⟨R2,_,fr.tmps, .code (.exit id)::k,a0.defers,env,_,b9,d4,l3,e0,e8,d3, .inr (.inl ⟨id,k,rfl,rfl,zAJ o⟩)⟩
       .rename_i hj;rw[hj]at b9;exact⟨R2,_,fr.tmps, .code .ret::k,a0.defers,env,_,b9,d4,l3,e0,e8,d3, .inr (.inr ⟨k,rfl,o⟩)⟩
       .simp at o
      .simp at c4
     .simp at c7
    .simp at o
  | _=>simp[kI]at o
 | scope b _=>intro h u K env H out Z o;simp[kI]at o
 | goto l=>intro h u K env H out Z o;simp[kI]at o
 | refuse why=>intro h u K env H out Z o;simp[kI]at o
end
def Rel.wput_out (h:Rel E A t){x:Obj}(hr: ∀R d c,¬E R H d c):Rel E A (vX t H x):=
 ⟨h.fn,h.inj,fun R b d c o a f=>by
  rw[vG _ _ _ _ (fun e=>by subst e;exact hr _ _ _ a)];exact h.obj R b d c o a f,
  fun R b d c a=>by rw[vK];exact h.lt R b d c a⟩
def Ext.wput_above {f:Ren}{w:World}(h:Ext E A t f M w)(x:Obj)(hr:t.heap.size<=H):Ext E A t f M (vX w H x) where
 sub:=h.sub
 new:=h.new
 newA:=h.newA
 next:=h.next
 keepA:=h.keepA
 os:=h.os
 tape:=h.tape
 output:=h.output
 size:=by rw[vK];exact h.size
 keep b hb hR:=by rw[vG _ _ _ _ (by omega)];exact h.keep b hb hR
theorem JF {P:Program}{h:World}{m:Ren}{H0:AH}{cs:List Frame} : ∀(a:List Deferred) (fr:Frame) (w:World) (R:Ren) (H:AH),fr.mode= .returning->fr.defers=a->Marks h.heap.size R w a->Rel R H w->Ext m H0 h R H w->
  ∃f,Steps P (lone fr cs w) (lone { fr with defers:=[] } cs f)/\Rel R H f/\Ext m H0 h R H f
 | [],fr,w,R,H,hm,hd,_,hL,hx=>⟨w,by
   have:({ fr with defers:=[] } :Frame)=fr:=by rw[<-hd]
   rw[this];exact .refl _ _,hL,hx⟩
 | d::a,fr,w,R,H,hm,hd,hM,hL,hx=>by
  obtain⟨r,rfl,y,h1,z,C⟩:=hM.2 d (zJ ..);have t:(Instr.takeDeferred r).run P w= .ok [] (vX w r (.deferred none)):=by
   simp[Instr.takeDeferred,getObj,setObj,zH,Sem.run,C,vX,Result.andThen]
  have p:step P (lone fr cs w)= .next (lone { fr with defers:=a} cs (vX w r (.deferred none))):=by
   refine step_lone_go ?_;simp[stepG,unwind,hm,hd,Sem.runT_eq,t]
  have u:Marks h.heap.size R (vX w r (.deferred none)) a:=by
   refine⟨(qV.1 hM.1).2,fun q o=> ?_⟩;obtain⟨j,e,J,K,N,O⟩:=hM.2 q (zC _ o);have x:j≠r:=fun S=>by subst S;exact(qV.1 hM.1).1 q o j rfl e
   exact⟨j,e,J,by rw[vK];exact K,N,by rw[vG _ _ _ _ x];exact O⟩
  obtain⟨f,T,Y,Z⟩:=JF a { fr with defers:=a} (vX w r (.deferred none)) R H hm rfl u (hL.wput_out z) (hx.wput_above _ y);exact⟨f,(Steps.one p).trans T,Y,Z⟩
theorem zB7: ∀ {k i:Nat} {vs:List AV} {env:Env} {K:Env->Rs} {out:Ex×AH},zP9 k i vs env K=some out->vs.length=k/\ ∃env',K env'=some out/\ ∀t,look env' t=if i<=t/\t<i+k then vs[t - i]? else look env t
 | 0,i,vs,env,K,out,h=>by
  simp only[zP9,nl]at h;split at h
  .exact⟨rfl,env,h,fun t=>by rw[if_neg (by omega)]⟩
  .simp at h
 | k+1,i,vs,env,K,out,h=>by
  simp only[zP9]at h;obtain⟨v,l,rfl,f⟩:=XJ h;obtain⟨j,env',m,o⟩:=zB7 f;refine⟨by simp[j],env',m,fun t=> ?_⟩;rw[o t];by_cases e:t=i
  .subst e;rw[if_neg (by omega),if_pos (by omega)];simp[look,bI]
  .by_cases a:i<=t/\t<i+(k+1)
   .rw[if_pos (by omega),if_pos a,show t - i=(t - (i+1))+1 from by omega,j7]
   .rw[if_neg (by omega),if_neg a];simp[look,bI,e]
theorem zBz {X:Cx}{env:Env}{H:AH} : ∀(rs:List ResultVar) (G:List AV->Rs) (z:Ex×AH),zPd X rs env H G=some z-> ∃vs,aT X env H rs=some vs/\G vs=some z
 | [],G,z,h=>⟨[],rfl,h⟩
 | r::rs,G,z,h=>by
  simp only[zPd]at h;obtain⟨v,f,j⟩:=wI h;obtain⟨vs,m,o⟩:=zBz rs _ z j;refine⟨v::vs, ?_,o⟩;have:zDN X env H r=some v:=by
   cases r with
   | tmp t=>exact f
   | cell a t=>
    simp only[resE]at f;obtain⟨p,hp,hl⟩:=wW f;exact ZZ hp (zAb hl)
  simp only[aT,this,m]
section
variable {P:Program}{X:Cx}(hX:Ok P X)
include hX in
theorem UE {R:Ren}{H:AH}{w:World}(hL:Rel R H w){env:Env}{nt:Nat}{j:Array Value}(o:EnvR R env nt j): ∀(rs:List ResultVar) (vs:List AV),aT X env H rs=some vs->
  ∃m:List Value,(rs.mapM (fun | .tmp t=>pure (j.getD t undef) | .cell a t=>do loadVar t (← asAddr (j.getD a undef)):ResultVar->Sem Value)).run P w= .ok m w/\VRL R vs m
 | [],vs,h=>by simp only[aT,zB]at h;subst h;exact⟨[],rfl,rfl⟩
 | r::rs,vs,h=>by
  simp only[aT]at h;split at h
  .rename_i v f;split at h
   .rename_i vs' x;simp only[zB]at h;subst h;obtain⟨m,K,N⟩:=UE hL o rs vs' x;have u: ∃z,(match r with | .tmp t=>pure (j.getD t undef) | .cell a t=>do loadVar t (← asAddr (j.getD a undef)):Sem Value).run P w= .ok z w/\VR R v z:=by
     cases r with
     | tmp t=>exact⟨_,rfl,o.get t v f⟩
     | cell a t=>
      simp only[zDN]at f;unfold b1 at f;split at f
      .rename_i p y;have hp:=o.get a p y;obtain⟨z,q,O⟩:=zFp (P:=P) hX hL f hp;refine⟨z, ?_,O⟩
       cases p with
       | ptr A off=>
        obtain⟨b,d,c,hr,e⟩:=hp;show(do loadVar t (← asAddr (j.getD a undef)):Sem Value).run P w= .ok z w
        rw[e]at q⊢;simp only[Instr.loadAt,Instr.sureAddr,zH,zO,Result.andThen]at q;simp only[asAddr,zH,zO,Result.andThen];exact q
       | _=>simp[VF]at f
      .simp at f
    obtain⟨z,C,J⟩:=u;refine⟨z::m, ?_,z,m,rfl,J,N⟩;rw[List.mapM_cons];simp only[zH,C,Result.andThen,K];rfl
   .simp at h
  .simp at h
end
theorem zNg {a:List Value}(h:VRL E i a):VR E (tupV i) (if h:a.toArray.size=1 then a.toArray[0]else .tuple a.toArray):=by
 unfold tupV;split
 .rename_i v;obtain⟨z,o,rfl,f,j⟩:=h;simp only[VRL]at j;subst j;simpa using f
 .rename_i m;have hl:=zRj _ _ h;have: ¬a.toArray.size=1:=by
   intro f;simp only[List.size_toArray]at f;rw[hl]at f
   match i,f with
   | [x],_=>exact m x rfl
  rw[dif_neg this];exact⟨a,rfl,h⟩
section
variable {P:Program}{B:Tb}{D:Dyn}(hr:Good P (rOf B D)){nt:Nat}{rs:List ResultVar}{f0:FuncId}{ro:Bool}
include hr in
theorem zHh {K:Env->AH->Rs}(m: ∀e H',K e H'=some F->H'.next<=F.2.next)(h:zPe B D nt R V K r A=some F):A.next<=F.2.next:=by
 unfold zPe at h;rw[zF]at h;split at h
 .split at h
  .rename_i row masks q;obtain⟨es,envF,HF,env',c1,c2,c3,f,t⟩:=uA _ row [] r A r [] h (Le.refl r) (fun ms j=>by intro a p;simp at p);exact qN (wP hr.mono c1).1 (m _ _ f)
  .simp at h
 .obtain⟨es,envF,HF,env',c1,c2,c3,f,_⟩:=uA _ _ [] r A r [] h (Le.refl r) (fun ms j=>by simp at j);exact qN (wP hr.mono c1).1 (m _ _ f)
theorem cB: ∀ {L:List Nat} {vs:List AV} {base:Env} {K:Env->Rs} {out:Ex×AH},unp L vs base K=some out-> ∃env',K env'=some out
 | [],vs,base,K,out,h=>⟨base,h⟩
 | l::L,vs,base,K,out,h=>by
  simp only[unp]at h;obtain⟨v,l',rfl,a⟩:=XJ h;exact cB a
theorem aM (h:(pck l r fun vs=>some (.norm vs,A))=some F):A.next<=F.2.next:=by
 obtain⟨vs,_,a⟩:=wH h;injection a with a;rw[<-a];exact zM _
include hr in
theorem J5  : ∀(c:Code) (h:Hint) (o:List (Nat×List Nat)) (K:Env->AH->Rs) (env:Env) (n:AH) (out:Ex×AH),(∀e H',K e H'=some out->H'.next<=out.2.next)->kI B D H nt rs f0 ro c h o K env n=some out->n.next<=out.2.next:=by
 intro c
 induction c with
 | skip=>intro h o K env n out q j;simp only[kI]at j;exact q _ _ j
 | label l=>intro h o K env n out q j;simp only[kI]at j;exact q _ _ j
 | region id ops draw=>intro h o K env n out q j;simp only[kI]at j;exact zHh hr q j
 | seq a b iha ihb=>
  intro h o K env n out q j
  cases h with
  | s ha hb=>simp only[kI]at j;exact iha ha o _ env n out (fun e H' h=>ihb hb o K e H' out q h) j
  | t L m=>
   simp only[kI]at j;obtain⟨vs,_,j⟩:=wH j;obtain⟨H',_,Y,j⟩:=zE1 j;obtain⟨env',j⟩:=cB j;exact qN Y (q _ _ j)
  | _=>simp[kI]at j
 | cond c a b iha ihb=>
  intro h o K env n out q j
  cases h with
  | c L ha hb=>
   simp only[kI]at j;split at j
   .have key: ∀y,(kI B D H nt rs f0 ro a ha o (fun env n=>pck L env fun vs=>some (.norm vs,n)) env n=some y\/kI B D H nt rs f0 ro b hb o (fun env n=>pck L env fun vs=>some (.norm vs,n)) env n=some y)->n.next<=y.2.next:=by
     rintro y (p | p)
     .exact iha ha o _ env n y (fun e H' h=>aM h) p
     .exact ihb hb o _ env n y (fun e H' h=>aM h) p
    rcases zAz j with⟨vs,z,p,x⟩ | ⟨id,vs,z,p,rfl⟩ | ⟨v,z,p,rfl⟩
    .have S:=key _ (by rcases d6 p with⟨_,h⟩ | ⟨_,h⟩;exact .inl h;exact .inr h);obtain⟨env',u⟩:=cB x;exact qN S (q _ _ u)
    .exact key _ (by rcases d6 p with⟨_,h⟩ | ⟨_,h⟩;exact .inl h;exact .inr h)
    .exact key _ (by rcases d6 p with⟨_,h⟩ | ⟨_,h⟩;exact .inl h;exact .inr h)
   .simp at j
  | cl ha hb=>
   simp only[kI]at j;split at j
   .rcases d6 j with⟨_,p⟩ | ⟨_,p⟩
    .exact iha ha o _ env n out (fun _ _ h=>by simp at h) p
    .exact ihb hb o _ env n out q p
   .simp at j
  | cr ha hb=>
   simp only[kI]at j;split at j
   .rcases d6 j with⟨_,p⟩ | ⟨_,p⟩
    .exact iha ha o _ env n out q p
    .exact ihb hb o _ env n out (fun _ _ h=>by simp at h) p
   .simp at j
  | _=>simp[kI]at j
 | block id b ih=>
  intro h o K env n out q j
  cases h with
  | b L hb=>
   simp only[kI]at j;obtain⟨y,hy,hc⟩:=zI7 j;have p:=ih hb _ _ env n y (fun e H' h=>aM h) hy;rcases hc with⟨vs,C,rfl,O⟩ | ⟨vs,C,rfl,O⟩ | ⟨i,vs,C,_,rfl,rfl⟩ | ⟨v,C,rfl,rfl⟩
   .obtain⟨env',u⟩:=cB O;exact qN p (q _ _ u)
   .obtain⟨env',u⟩:=cB O;exact qN p (q _ _ u)
   .exact p
   .exact p
  | b0 hb=>simp only[kI]at j;exact ih hb _ _ env n out q j
  | _=>simp[kI]at j
 | loop b ih=>
  intro h o K env n out q j
  cases h with
  | l L hb=>
   simp only[kI]at j;obtain⟨Z,_,j⟩:=wH j;have key: ∀(m:Nat) (vs:List AV) (n:AH),kJ m (fun vs n=>unp L vs uQ fun env=>kI B D H nt rs f0 ro b hb o (fun env n=>pck L env fun vs=>some (.norm vs,n)) env n) vs n=some out->n.next<=out.2.next:=by
    intro m
    induction m with
    | zero=>intro vs n hl;have N:(none:Rs)=some out:=hl;simp at N
    | succ m ihm=>
     intro vs n hl;have N:jn (unp L vs uQ fun env=>kI B D H nt rs f0 ro b hb o (fun env n=>pck L env fun vs=>some (.norm vs,n)) env n) (kJ m (fun vs n=>unp L vs uQ fun env=>kI B D H nt rs f0 ro b hb o (fun env n=>pck L env fun vs=>some (.norm vs,n)) env n))=some out:=hl;rcases zAz N with⟨vs,z,p,x⟩ | ⟨id,vs,z,p,rfl⟩ | ⟨v,z,p,rfl⟩
     .obtain⟨env',u⟩:=cB p;exact qN (ih hb o _ env' n _ (fun e H' h=>aM h) u) (ihm vs z x)
     .obtain⟨env',u⟩:=cB p;exact ih hb o _ env' n _ (fun e H' h=>aM h) u
     .obtain⟨env',u⟩:=cB p;exact ih hb o _ env' n _ (fun e H' h=>aM h) u
   exact key H Z n j
  | _=>simp[kI]at j
 | exit id=>
  intro h o K env n out q j;simp only[kI]at j;split at j
  .obtain⟨vs,_,x⟩:=wH j;injection x with x;rw[<-x];exact zM _
  .simp at j
 | ret=>
  intro h o K env n out q j;simp only[kI]at j;obtain⟨v,e⟩:=vP j;rw[e];exact zM _
 | rangeFunc f params assign body _ _=>
  intro h o K env n out q j
  cases h with
  | rf s L=>
   simp only[kI,zF]at j;split at j
   .simp at j
   .split at j
    .obtain⟨vs,_,j⟩:=wH j;obtain⟨t',_,_,j⟩:=zBM j;obtain⟨v,C,J,j⟩:=d8 j;obtain⟨lp,H3,a0,_,T,j⟩:=BJ j;have p:n.next+1<=C.next:=by
      unfold rfC at J;split at J
      .exact(hr.call _ _ _ _ _ J).1
      .simp at J
     have x:=xG T;have S:H3.next<=out.2.next:=by
      unfold zEE at j;split at j
      .exact q _ _ j
      .obtain⟨L',vs',_,_,e⟩:=zAJ j;rw[e];exact zM _
      .obtain⟨v,e⟩:=vP j;rw[e];exact zM _
      .simp at j
     omega
    .simp at j
  | _=>simp[kI]at j
 | scope b _=>intro h o K env n out _ j;simp[kI]at j
 | goto l=>intro h o K env n out _ j;simp[kI]at j
 | refuse why=>intro h o K env n out _ j;simp[kI]at j
end
section
variable {P:Program}{B:Tb}{D:Dyn}(hX:Ok P B.X)(hr:Good P (rOf B D))
include hX hr in
theorem zIm (p:P.funcs[q]? =some m)(a0: ∀body,m.body=some body->kS P q m.ntmps body L)(h:zOm B D H q m L i A=some (s,M)):A.next<=M.next/\zP6 P q i A s M:=by
 unfold zOm at h;split at h
 .rename_i body J;rw[zF]at h;split at h
  .rename_i a5;rw[qW]at a5;unfold dG at h;split at h
   .rename_i O u hc;simp only[zB,zU]at h;obtain⟨rfl,rfl⟩:=h;obtain⟨b5,env,S,N⟩:=zB7 hc;have hS:=KM hX hr body L [] _ env A _ (a0 body J) S;have a1: ∀(R:Ren) (az:List Value) (cs:List Frame) (w:World),VRL R i az->Rel R A w->A.next<=u.next/\
      ∃K y z a,Steps P (lone (Frame.enter P q ⟨az⟩ .normal) cs w) (lone a cs y)/\a.fn=q/\a.leaving P y (.returned z)/\VR K O z/\Rel K u y/\Ext R A w K u y:=by
     intro R az cs w C hL;have b6:=zRj _ _ C;have hE:EnvR R env m.ntmps (Frame.enter P q ⟨az⟩ .normal).tmps:=by
      have a6:(Frame.enter P q ⟨az⟩ .normal).tmps=(⟨az⟩:Array Value)++Array.replicate (m.ntmps - az.length) undef:=by
       simp[Frame.enter,p]
      rw[a6];refine⟨by simp;omega,fun t x j=> ?_,fun t ht=> ?_⟩
      .rw[N t]at j;split at j
       .rename_i b7;rw[jD]at j;obtain⟨z,a7,a8⟩:=VRL.get _ _ C t x j;have a9:t<az.length:=by omega
        rw[yA,Array.getElem?_append_left (by simpa using a9)];have:(⟨az⟩:Array Value)[t]? =some z:=by simpa using a7
        rw[this];exact a8
       .simp[look,uQ]at j
      .rw[N t,if_neg (by omega)];rfl
     have b0:(Frame.enter P q ⟨az⟩ .normal).todo= .code body::[]:=by simp[Frame.enter,p,J]
     obtain⟨T,Y,t1,b8,f,a2,Z,s1,e1,l1,x1,n1,m1,o1⟩:=hS w.heap.size R (Frame.enter P q ⟨az⟩ .normal) [] cs w rfl (fun _=>⟨rfl,rfl⟩) b0 hE hL (Marks.nil _ _ _) (zM _);have a3: ∃a:Frame,Steps P (lone (Frame.enter P q ⟨az⟩ .normal) cs w) (lone a cs Y)/\a.fn=q/\a.mode= .returning/\a.defers=f/\a.kind= .normal/\a.tmps=t1/\zKp B.X m.results.toList a2 Z=some (.ret O,u):=by
      rcases o1 with⟨rfl,b2⟩ | ⟨id,k',b1,b2,n,vs,b3,_⟩ | ⟨k',rfl,b2⟩
      .exact⟨_,s1.trans (.one (zPM (fr:= { Frame.enter P q ⟨az⟩ .normal with tmps:=t1,todo:=[],defers:=f}) rfl rfl rfl)),rfl,rfl,rfl,rfl,rfl,b2⟩
      .simp[uI]at b3
      .exact⟨_,s1.trans (.one (zPL (fr:= { Frame.enter P q ⟨az⟩ .normal with tmps:=t1,todo:= .code .ret::k',defers:=f}) rfl rfl rfl)),rfl,rfl,rfl,rfl,rfl,b2⟩
     obtain⟨a,hs,f1,f2,f3,f4,f5,a4⟩:=a3;obtain⟨vs,b4,hg⟩:=zBz _ _ _ a4;simp only[zB,zU,Ex.ret.injEq]at hg;obtain⟨rfl,rfl⟩:=hg;obtain⟨w2,u1,u2,u3⟩:=JF (P:=P) (cs:=cs) f a Y T Z f2 f3 m1 l1 x1;obtain⟨zs,z1,z2⟩:=UE hX u2 e1 _ _ b4;refine⟨n1,T,w2,_, { a with defers:=[] },hs.trans u1,f1,⟨f2,rfl,f4,m,by rw[f1];exact p, ?_⟩,zNg z2,u2,u3⟩;simp only[f5,results,Array.mapM_eq_mapM_toList,zH,Sem.run_map]
     erw[z1]
     rfl
    refine⟨?_,⟨m,p,by simp[J]⟩,fun R az cs w C hL=>(a1 R az cs w C hL).2⟩;exact J5 hr body L [] _ env A _ (fun e M hh=>by obtain⟨s,e⟩:=vP hh;rw[e];exact zM _) S
   .simp at h
  .simp at h
 .simp at h
include hX hr in
end
theorem zGu {K:Env->Rs}(h:unp l i r K=some F):K (zPp l i r)=some F:=by
 induction l generalizing i r with
 | nil=>cases i<;>exact h
 | cons L l ih=>
  simp only[unp]at h;obtain⟨v,l',rfl,a⟩:=XJ h;exact ih a
theorem zGv {nt:Nat}{R:Ren} : ∀ {ps:List Nat} {az:List AV} {env:Env} {K:Env->Rs} {out:Ex×AH} {vs:List Value} {f:Array Value},zK6 nt ps az env K=some out->VRL R az vs->EnvR R env nt f->
  vs.length=ps.length/\ ∃env',K env'=some out/\EnvR R env' nt ((ps.zip vs).foldl (fun f (x:Nat×Value)=>f.setIfInBounds x.1 x.2) f)
 | [],az,env,K,out,vs,f,h,hv,hE=>by
  simp only[zK6,nl]at h;split at h
  .simp only[VRL]at hv;subst hv;exact⟨rfl,env,h,hE⟩
  .simp at h
 | p::ps,az,env,K,out,vs,f,h,hv,hE=>by
  simp only[zK6]at h;obtain⟨a,C,rfl,j⟩:=XJ h;obtain⟨v,vs',rfl,q,t⟩:=hv;rw[zF]at j;split at j
  .rename_i m;have o:EnvR R (upd env p a) nt (f.setIfInBounds p v):=hE.put (dst:=some p) q (by simp only[VM,m,zP]);obtain⟨u,env',y,z⟩:=zGv j t o;exact⟨by simp[u],env',y,z⟩
  .simp at j
theorem zDZ {nt:Nat} : ∀ {ps:List Nat} {az:List AV} {env:Env} {K:Env->Rs} {out:Ex×AH},zK6 nt ps az env K=some out-> ∃env',K env'=some out
 | [],az,env,K,out,h=>by
  simp only[zK6,nl]at h;split at h
  .exact⟨env,h⟩
  .simp at h
 | p::ps,az,env,K,out,h=>by
  simp only[zK6]at h;obtain⟨a,j,rfl,f⟩:=XJ h;rw[zF]at f;split at f
  .exact zDZ f
  .simp at f
theorem VA {K:AH->Rs}(h:uR H A K=some F): ∃l H',A.h.get H=some (.loop l)/\l.state= .ready/\fX A H (.loop { l with state:= .busy})=some H'/\K H'=some F:=by
 unfold uR at h;split at h
 .rename_i l a;split at h
  .rename_i f;split at h
   .rename_i H' hp;exact⟨l,H',a,f,hp,h⟩
   .simp at h
  .simp at h
 .simp at h
def stOf:Option Code->LoopState
 | none=> .ready
 | some _=> .done
theorem zCo (h:KH H W A=some (s,M)): ∃l,A.h.get H=some (.loop l)/\fX A H (.loop { l with state:=stOf W,pending:=W})=some M/\s= .bool W.isNone:=by
 unfold KH at h;split at h
 .rename_i l a;split at h
  .split at h
   .rename_i f hp;simp only[zB,zU]at h;obtain⟨rfl,rfl⟩:=h;exact⟨l,a,hp,rfl⟩
   .simp at h
  .split at h
   .rename_i f hp;simp only[zB,zU]at h;obtain⟨rfl,rfl⟩:=h;exact⟨l,a,hp,rfl⟩
   .simp at h
 .simp at h
def Leaves (a:List Item):Option Code->Prop
 | none=>a=[]
 | some (.exit id)=> ∃k,a= .code (.exit id)::k/\exitTo id k=none
 | some .ret=> ∃k,a= .code .ret::k
 | some _=>False
theorem zFR {F fr:Frame}{h:World}(hm:F.mode= .run)(f:F.kind= .normal)(hb:F.roundOf=some H)(a:Leaves F.todo W)(hr:(Instr.endRound H W).run g t= .ok c h):
  Go.step g (lone F (fr::z) t)= .next (lone (fr.finish c) z h):=by
 refine step_lone_go ?_
 cases W with
 | none=>
  simp only[Leaves]at a;simp[stepG,stepG.exec,hm,a,hb,Sem.runT_eq,hr,doReturn,f]
 | some P=>
  cases P<;>simp only[Leaves]at a
  .obtain⟨k,a,m⟩:=a;simp[stepG,stepG.exec,hm,a,hb,m,Sem.runT_eq,hr,doReturn,f]
  .obtain⟨k,a⟩:=a;simp[stepG,stepG.exec,hm,a,hb,Sem.runT_eq,hr,doReturn,f]
section
variable {P:Program}{B:Tb}{D:Dyn}(hX:Ok P B.X)(hr:Good P (rOf B D))
def Rel.loopAt (h:Rel E A t){l:ALoop}(a:A.h.get H=some (.loop l))(hR:E H p C f):
  ∃(L:Loop) (nt:Nat),t.heap[p]? =some (.loop L)/\zAi l.fn l.site=some (nt,L.params,L.assign,L.body)/\L.state=l.state/\L.pending=l.pending/\L.fn=l.fn/\EnvR E (envL l.live l.vals) nt L.tmps:=h.obj H p C f _ hR a
theorem Rel.loopPut (h:Rel E A t){l:ALoop}(m:A.h.get H=some (.loop l))(hR:E H p C f){st:LoopState}(hp:fX A H (.loop { l with state:=st,pending:=W})=some M){L:Loop}(hb:t.heap[p]? =some (.loop L)):
  Rel E M (vX t p (.loop { L with state:=st,pending:=W}))/\Ext E A t E M (vX t p (.loop { L with state:=st,pending:=W})):=by
 obtain⟨R,nt,a,o,u,x,H',q⟩:=h.loopAt m hR;rw[hb]at a;injection a with a;injection a with a;subst a
 unfold fX at hp;split at hp
 .rename_i y j;simp only[zB]at hp;subst hp;exact⟨h.put hR ⟨_,m,trivial⟩ j ⟨_,nt,rfl,o,rfl,rfl,H',q⟩,Ext.put hR j⟩
 .simp at hp
theorem zIW {x:Rs}(h:zMU H x=some (s,A)): ∃y,x=some y/\((∃vs,y.1= .norm vs/\KH H none y.2=some (s,A))\/(∃id vs,y.1= .exit id vs/\KH H (some (.exit id)) y.2=some (s,A))\/(∃u,y.1= .ret u/\KH H (some .ret) y.2=some (s,A))):=by
 unfold zMU at h;split at h
 .exact⟨_,rfl, .inl ⟨_,rfl,h⟩⟩
 .exact⟨_,rfl, .inr (.inl ⟨_,_,rfl,h⟩)⟩
 .exact⟨_,rfl, .inr (.inr ⟨_,rfl,h⟩)⟩
 .simp at h
theorem zIV (h:KH H W A=some (s,M)):M.next=A.next:=by
 obtain⟨l,_,hp,_⟩:=zCo h;exact xG hp
include hX hr in
theorem zNF {d9:List Nat}{hb:Hint}(c1: ∀nt ps f body,zAi q p=some (nt,ps,f,body)->kS P q nt f L/\kS P q nt body hb){K:ALoop}
  (hA:A.h.get C=some (.loop K)) (hf:K.fn=q) (hs:K.site=p) (h:zJX B D H q p l d9 L hb C K i A=some (s,M)):zCV P C i A s M:=by
 unfold zJX at h;split at h
 .rename_i nt ps f body a7;obtain⟨e0,e2⟩:=c1 _ _ _ _ a7;unfold rdK at h;rw[zF]at h;split at h
  .rename_i e4;obtain rfl:=ZT _ _ e4;obtain⟨y,hy,az⟩:=zIW h;have d0:A.next<=M.next:=by
    have h1:A.next<=y.2.next:=by
     have a2:=zGu hy;obtain⟨env',e5⟩:=zDZ a2;refine J5 hr f L [] _ env' A y (fun e H1 hk=> ?_) e5;obtain⟨l1,f0,_,_,hp,a3⟩:=VA hk;rw[<-xG hp];exact J5 hr body hb _ _ e f0 y (fun e N a4=>by injection a4 with a4;rw[<-a4];exact zM _) a3
    rcases az with⟨vs,_,m⟩ | ⟨id,vs,_,m⟩ | ⟨u,_,m⟩<;>rw[zIV m]<;>exact h1
   refine⟨d0,fun R n fr cs w b d c a5 c6 hL=> ?_⟩;obtain⟨o,g2,e6,Y,f9,g0,d1,e7⟩:=hL.loopAt hA a5;rw[hf,hs,a7]at Y;simp only[zB,zU]at Y;obtain⟨rfl,b0,d2,c7⟩:=Y;obtain⟨d3,d4,a2,e8⟩:=zGv (zGu hy) c6 e7;refine⟨o,e6,by rw[d3,<-b0];simp, ?_⟩;have c8:((o.params.zip n.toArray).foldl (fun tmps (t,a)=>tmps.setIfInBounds t a) o.tmps)=((ps.toList.zip n).foldl (fun tmps (x:Nat×Value)=>tmps.setIfInBounds x.1 x.2) o.tmps):=by
    rw[<-b0,<-Array.foldl_toList];simp only[Array.toList_zip]
   rw[c8,d1,hf,<-d2,<-c7];have e9:=KM hX hr f L [] _ d4 A y e0 a2;obtain⟨R1,w1,t1,g3,a6,env2,H1,s1,e1,l1,O,n1,m1,o1⟩:=e9 w.heap.size R (Frame.round b q ((ps.toList.zip n).foldl (fun tmps (x:Nat×Value)=>tmps.setIfInBounds x.1 x.2) o.tmps) f body .normal) [.beginRound, .code body] (fr::cs) w rfl (fun h=>by simp at h) rfl e8 hL (Marks.nil _ _ _) (zM _);have J: ∀(S:Ren) (T:World) (f0:AH) (F:Frame) (j:Option Code),Steps P (lone (Frame.round b q ((ps.toList.zip n).foldl (fun tmps (x:Nat×Value)=>tmps.setIfInBounds x.1 x.2) o.tmps) f body .normal) (fr::cs) w) (lone F (fr::cs) T)->
     F.mode= .run->F.kind= .normal->F.roundOf=some b->Leaves F.todo j->Rel S f0 T->Ext R A w S f0 T->KH C j f0=some (s,M)->
     ∃R' w' z,Steps P (lone (Frame.round b q ((ps.toList.zip n).foldl (fun tmps (x:Nat×Value)=>tmps.setIfInBounds x.1 x.2) o.tmps) f body .normal) (fr::cs) w) (lone (fr.finish z) cs w')/\VR R' s z/\Rel R' M w'/\Ext R A w R' M w':=by
    intro S T f0 F j f1 hm hk f2 f3 b4 b5 d5;obtain⟨l2,b6,f4,rfl⟩:=zCo d5;have a8:=b5.sub _ _ _ _ a5;obtain⟨L2,_,b7,_⟩:=b4.loopAt b6 a8;obtain⟨f5,f6⟩:=b4.loopPut b6 a8 f4 b7;have Z:=run_endRound (P:=P) j b7;refine⟨S,_,_,f1.trans (.one (zFR hm hk f2 f3 Z)),rfl, ?_, ?_⟩
    .have:(if j.isNone=true then LoopState.ready else LoopState.done)=stOf j:=by cases j<;>rfl
     rw[this];exact f5
    .have:(if j.isNone=true then LoopState.ready else LoopState.done)=stOf j:=by cases j<;>rfl
     rw[this];exact b5.trans f6
   rcases o1 with⟨rfl,b2⟩ | ⟨id,k',b1,b2,L',vs,b3,_⟩ | ⟨k',rfl,b2⟩
   .obtain⟨lp,f0,b8,d6,hp,a3⟩:=VA b2;have a9:=O.sub _ _ _ _ a5;obtain⟨L1,_,b9,_,d7,d8,_,_⟩:=l1.loopAt b8 a9;have f7:fX H1 C (.loop { lp with state:= .busy,pending:=lp.pending})=some f0:=hp;obtain⟨l2,x2⟩:=l1.loopPut b8 a9 f7 b9;rw[<-d8]at l2 x2;have Z:=run_beginRound (P:=P) b9 (by rw[d7];exact d6);have c9:Go.step P (lone { (Frame.round b q ((ps.toList.zip n).foldl (fun tmps (x:Nat×Value)=>tmps.setIfInBounds x.1 x.2) o.tmps) f body .normal)with tmps:=t1,todo:=[.beginRound, .code body],defers:=a6} (fr::cs) w1)=
      .next (lone { (Frame.round b q ((ps.toList.zip n).foldl (fun tmps (x:Nat×Value)=>tmps.setIfInBounds x.1 x.2) o.tmps) f body .normal)with tmps:=t1,todo:=[.code body],defers:=a6} (fr::cs) (vX w1 b (.loop { L1 with state:= .busy,pending:=L1.pending}))):=by
     refine step_lone_go ?_;simp[stepG,stepG.exec,stepG.apply,Frame.round,Sem.runT_eq,zH,Z,Frame.finish,World.putObj,vX]
    have f8:=KM hX hr body hb _ _ env2 f0 y e2 a3;obtain⟨R3,w3,t3,g4,g5,g1,N,s3,e3,l3,x3,n3,m3,o3⟩:=f8 w.heap.size R1 { (Frame.round b q ((ps.toList.zip n).foldl (fun tmps (x:Nat×Value)=>tmps.setIfInBounds x.1 x.2) o.tmps) f body .normal)with tmps:=t1,todo:=[.code body],defers:=a6} [] (fr::cs) _ rfl (fun h=>by simp at h) rfl e1 l2 (m1.ext x2) (by rw[vK];exact O.size);have a0:=s1.trans ((Steps.one c9).trans s3);have a1:=O.trans (x2.trans x3);rcases o3 with⟨rfl,c2⟩ | ⟨id,k',rfl,c2,L',vs,c3,c4,c5⟩ | ⟨k',rfl,c2⟩
    .injection c2 with c2;subst c2
     rcases az with⟨vs,_,m⟩ | ⟨id,vs,e,_⟩ | ⟨u,e,_⟩
     .exact J R3 w3 N _ none a0 rfl rfl rfl rfl l3 a1 m
     .simp at e
     .simp at e
    .subst c5;rcases az with⟨vs,e,_⟩ | ⟨c0,vs',e,m⟩ | ⟨u,e,_⟩
     .simp at e
     .simp only[Ex.exit.injEq]at e;obtain⟨rfl,rfl⟩:=e;exact J R3 w3 N _ (some (.exit id)) a0 rfl rfl rfl ⟨k',rfl,by rw[c2];rfl⟩ l3 a1 m
     .simp at e
    .obtain⟨u,e⟩:=vP c2;subst e;rcases az with⟨vs,e,_⟩ | ⟨c0,vs',e,_⟩ | ⟨u,e,m⟩
     .simp at e
     .simp at e
     .exact J R3 w3 N _ (some .ret) a0 rfl rfl rfl ⟨k',rfl⟩ l3 a1 m
   .simp[uI]at b3
   .obtain⟨u,e⟩:=vP b2;subst e;rcases az with⟨vs,e,_⟩ | ⟨c0,vs',e,_⟩ | ⟨u,e,m⟩
    .simp at e
    .simp at e
    .exact J R1 w1 H1 _ (some .ret) s1 rfl rfl rfl ⟨k',rfl⟩ l1 O m
  .simp at h
 .simp at h
end
theorem zDt {α:Type}(l:List α)(m:Nat)(x:α)(h:((T.ofList 0 l .leaf).getD .leaf).get m=some x):l[m]? =some x:=by
 cases hl:T.ofList 0 l .leaf with
 | none=>rw[hl]at h;simp[T.get_leaf]at h
 | some t=>
  rw[hl]at h;simp only[y9]at h;rw[T.get_ofList l 0 .leaf t hl m]at h;split at h
  .simpa using h
  .simp[T.get_leaf]at h
def named (P:Program):Bool:=P.funcs.toList.all fun g=> !(g.name== "runtime.NumGoroutine")
def zQu (P:Program)(fl:List (TypeId×List Nat)):Bool:=fl.all fun x=>(dQ P P.depth x.1==some x.2)&&xH P x.1&&Nat.ble P.depth 10000
theorem cx_ok {P:Program}{fl:List (TypeId×List Nat)}(h:named P=true)(a:zQu P fl=true):Ok P ⟨(T.ofList 0 P.types.toList .leaf).getD .leaf,fl⟩:=by
 refine⟨fun t i m=> ?_,fun x o=> ?_,fun f g a=> ?_⟩
 .have:=zDt _ _ _ m;simp only[yS]at this;have j:t<P.types.size:=(Array.getElem?_eq_some_iff.1 this).1;unfold Tables.info?
  first
   | (rw[if_pos j];exact this)
   | (simp only[j,if_true,this];done)
   | (rw[this];done)
   | (rw[this];rfl)
   | simp_all
 .simp only[zQu,yE,zE,beq_iff_eq,qW]at a;obtain⟨⟨p,q⟩,u⟩:=a x o;exact⟨p,q,u⟩
 .simp only[named,yE,yU]at h;exact h g (by
   have:=Array.mem_of_getElem? a;simpa using this)
def VU:Hint->Bool
 | .o=>true
 | .s a b=>VU a&&VU b
 | .c _ a b=>VU a&&VU b
 | .cl a b=>VU a&&VU b
 | .cr a b=>VU a&&VU b
 | .b _ a=>VU a
 | .b0 a=>VU a
 | .l _ a=>VU a
 | .rf _ _=>false
 | .t _ _=>false
def dL:Code->Hint->Nat->Bool
 | .seq _ _, .t _ _,_=>false
 | .seq a b, .s ha hb,k=>dL a ha k&&dL b hb (k+(sites a).length)
 | .cond _ a b, .c _ ha hb,k=>dL a ha k&&dL b hb (k+(sites a).length)
 | .cond _ a b, .cl ha hb,k=>dL a ha k&&dL b hb (k+(sites a).length)
 | .cond _ a b, .cr ha hb,k=>dL a ha k&&dL b hb (k+(sites a).length)
 | .block _ b, .b _ hb,k=>dL b hb k
 | .block _ b, .b0 hb,k=>dL b hb k
 | .loop b, .l _ hb,k=>dL b hb k
 | .rangeFunc _ _ _ _, .rf s _,k=>Nat.beq s k
 | _,_,_=>true
theorem zAs (f0:FuncId)(nt:Nat): ∀(c:Code) (h:Hint),VU h=true->kS g f0 nt c h:=by
 intro c
 induction c with
 | seq a b iha ihb=>intro h j;cases h<;>simp_all [kS,VU]
 | cond c a b iha ihb=>intro h j;cases h<;>simp_all [kS,VU]
 | block id b ih=>intro h j;cases h<;>simp_all [kS,VU]
 | loop b ih=>intro h j;cases h<;>simp_all [kS,VU]
 | rangeFunc f ps a b _ _=>intro h j;cases h<;>simp_all [kS,VU]
 | _=>intro h j;simp[kS]
theorem zKM (f0:FuncId)(nt:Nat)(p:List (Array Tmp×Code×Code))(z: ∀(s:Nat) (x:Array Tmp×Code×Code),p[s]? =some x->zAi f0 s=some (nt,x)):
  ∀(c:Code) (h:Hint) (k:Nat),dL c h k=true->(∀(j:Nat) (x:Array Tmp×Code×Code),(sites c)[j]? =some x->p[k+j]? =some x)->kS g f0 nt c h:=by
 have y: ∀(a b:Code) (k:Nat),(∀(j:Nat) (x:Array Tmp×Code×Code),(sites a++sites b)[j]? =some x->p[k+j]? =some x)->
   (∀(j:Nat) (x:Array Tmp×Code×Code),(sites a)[j]? =some x->p[k+j]? =some x)/\(∀(j:Nat) (x:Array Tmp×Code×Code),(sites b)[j]? =some x->p[k+(sites a).length+j]? =some x):=by
  intro a b k o;refine⟨fun j x q=>o j x ?_,fun j x q=> ?_⟩
  .rw[yY (qR.1 q).1];exact q
  .rw[Nat.add_assoc];refine o _ x ?_;rw[jB (by omega),show(sites a).length+j - (sites a).length=j from by omega];exact q
 intro c
 induction c with
 | seq a b iha ihb=>
  intro h k m o;obtain⟨t,u⟩:=y a b k o
  cases h<;>simp only[kS]<;>first | (simp only[dL,zE]at m;exact⟨iha _ k m.1 t,ihb _ _ m.2 u⟩) | (simp[dL]at m)
 | cond c a b iha ihb=>
  intro h k m o;obtain⟨t,u⟩:=y a b k o
  cases h<;>simp only[kS]<;>(simp only[dL,zE]at m;exact⟨iha _ k m.1 t,ihb _ _ m.2 u⟩)
 | block id b ih=>
  intro h k m o
  cases h<;>simp only[kS]<;>first | exact ih _ k m o | (simp[dL]at m)
 | loop b ih=>
  intro h k m o
  cases h<;>simp only[kS]
  exact ih _ k m o
 | rangeFunc f ps a b _ _=>
  intro h k m o
  cases h<;>simp only[kS]
  simp only[dL,zX]at m;subst m;exact z _ _ (o 0 _ rfl)
 | _=>intro h k m o;simp[kS]
def zBp (a:Func)(h:Hint):Bool:=VU h||match a.body with
 | some b=>dL b h 0
 | none=>true
noncomputable abbrev PP:Program:=Go.Proofs.Tryz.prog
theorem zH4 (f:PP.funcs[q]? =some m)(a:zBp m L=true): ∀body,m.body=some body->kS PP q m.ntmps body L:=by
 intro body hb;simp only[zBp,j6]at a;rcases a with a | a
 .exact zAs _ _ _ _ a
 .simp only[hb]at a;refine zKM q m.ntmps (sites body) (fun s x o=> ?_) body L 0 a (fun j x o=>by rw[yZ];exact o);unfold zAi;have p:Go.Proofs.Tryz.prog.funcs[q]? =some m:=f;simp only[p,hb,o]
def FS (g:FuncId)(m:List AV->AH->Option (AV×AH)):Prop:= ∀az H v H',m az H=some (v,H')->zJS PP g az H v H'
def FI (g:FuncId)(m:List AV->AH->Option (AV×AH)):Prop:= ∀az H v H',m az H=some (v,H')->H.next<=H'.next/\zP6 PP g az H v H'
def FI.fs (g:FI q h):FS q h:=fun az H v H' e=>⟨(g az H v H' e).1, .inl (g az H v H' e).2⟩
structure DG (D:Dyn):Prop where
 fn: ∀g,FS g (D.fn g)
 yld: ∀A args H v H',D.yld A args H=some (v,H')->zCV PP A args H v H'
def SOk:List (Nat×(List AV->AH->Option (AV×AH)))->Prop
 | []=>True
 | (i,m)::S=>FS i m/\SOk S
def SOk.nil:SOk []:=trivial
def SOk.cons {i:Nat}{m:List AV->AH->Option (AV×AH)}{S:List (Nat×(List AV->AH->Option (AV×AH)))}(h:FS i m)(k:SOk S):SOk ((i,m)::S):=⟨h,k⟩
theorem zAR {D:Dyn}(a:DG D): ∀ {S:List (Nat×(List AV->AH->Option (AV×AH)))},SOk S-> ∀g,FS g (zCG S D g)
 | [],_,g=>fun az H v H' h=>a.fn g az H v H' h
 | (i,m)::S,hS,g=>fun az H v H' h=>by
  simp only[zCG,zF]at h;split at h
  .rename_i e;rw[zX]at e;subst e;exact hS.1 az H v H' h
  .exact zAR a hS.2 g az H v H' h
def zAE {X:Cx}(a:DG e)(j:SOk v):Good PP (rOf ⟨X,v⟩ e):=
 ⟨fun f args H S H' h=>zAR a j f args H S H' h,fun A args H S H' h=>a.yld A args H S H' h⟩
theorem zQt {X:Cx}(hX:Ok PP X)(o:DG e)(p:SOk v)(j:PP.funcs[q]? =some m)(f:zBp m L=true)(t:h=zOm ⟨X,v⟩ e H q m L):FI q h:=by
 subst t;intro az a S H' D;exact zIm hX (zAE o p) j (zH4 j f) D
theorem zOl {X:Cx}(hX:Ok PP X)(o:DG e)(p:SOk v)(j:PP.funcs[q]? =some m)(f: ∀body,m.body=some body->kS PP q m.ntmps body L)(t:h=zOm ⟨X,v⟩ e H q m L):FI q h:=by
 subst t;intro az a S H' D;exact zIm hX (zAE o p) j f D
def RS (f s:Nat)(m:Nat->ALoop->List AV->AH->Option (AV×AH)):Prop:=
 ∀A l az H v H',H.h.get A=some (.loop l)->l.fn=f->l.site=s->m A l az H=some (v,H')->zCV PP A az H v H'
theorem fW {X:Cx}(hX:Ok PP X)(s:DG e)(q:SOk v){j:List Nat}{hb:Hint}(a:(VU L&&VU hb)=true)(t:u=zJX ⟨X,v⟩ e C H p l j L hb):RS H p u:=by
 subst t;intro A n az f S H' h x o D;rw[zE]at a;exact zNF hX (zAE s q) (fun nt ps y body _=>⟨zAs _ _ _ _ a.1,zAs _ _ _ _ a.2⟩) h x o D
def ROk:List ((Nat×Nat)×(Nat->ALoop->List AV->AH->Option (AV×AH)))->Prop
 | []=>True
 | ((f,s),m)::t=>RS f s m/\ROk t
def ROk.nil:ROk []:=trivial
def ROk.cons {f s:Nat}{m:Nat->ALoop->List AV->AH->Option (AV×AH)}{t:List ((Nat×Nat)×(Nat->ALoop->List AV->AH->Option (AV×AH)))}(h:RS f s m)(k:ROk t):ROk (((f,s),m)::t):=⟨h,k⟩
theorem zKs (a:ROk U)(h:YP U H i A=some (s,M)):zCV PP H i A s M:=by
 unfold YP at h;split at h
 .rename_i l j
  induction U with
  | nil=>simp[YP.go]at h
  | cons x U ih=>
   obtain⟨⟨f,t⟩,m⟩:=x;simp only[YP.go,zF]at h;split at h
   .rename_i e;simp only[zE,zX]at e;exact a.1 H l i A s M j e.1.symm e.2.symm h
   .exact ih a.2 h
 .simp at h
def VY:Dyn:=⟨fun _ _ _=>none,fun _ _ _=>none⟩
def zAM:DG VY:=⟨fun _ _ _ _ _ h=>by simp[VY]at h,fun _ _ _ _ _ h=>by simp[VY]at h⟩
noncomputable def dyOf (tab:Dyn->Nat->List (Nat×(List AV->AH->Option (AV×AH))))(tabR:Dyn->Nat->List ((Nat×Nat)×(Nat->ALoop->List AV->AH->Option (AV×AH))))(n:Nat):Dyn:=
 Nat.rec VY (fun m D=>⟨fun g vs H=>zCG (tab D m) VY g vs H,YP (tabR D m)⟩) n
theorem zJ0 {tab:Dyn->Nat->List (Nat×(List AV->AH->Option (AV×AH)))}{tabR:Dyn->Nat->List ((Nat×Nat)×(Nat->ALoop->List AV->AH->Option (AV×AH)))}(a: ∀D n,DG D->SOk (tab D n))(f: ∀D n,DG D->ROk (tabR D n)): ∀n,DG (dyOf tab tabR n)
 | 0=>zAM
 | n+1=>by
  have h:=zJ0 a f n;exact⟨fun g az H v H' e=>zAR zAM (a _ n h) g az H v H' e,fun A args H v H' e=>zKs (f _ n h) e⟩
def zNB (x:Option (AV×AH)):Bool:=match x with
 | some (.bool true,_)=>true
 | _=>false
theorem zLv (hm:FI q h)(m:zNB (h [] ⟨.leaf,0⟩)=true)(w:World):Calls PP q #[] w fun e j=>e= .returned (.bool true)/\RowKit.Below w.heap.size w j:=by
 unfold zNB at m;split at m
 .rename_i H' o;intro cs;obtain⟨_,_,o⟩:=hm _ _ _ _ o;obtain⟨C,j,z,f,t,u,x,p,J,a⟩:=o (fun _ _ _ _=>False) [] cs w rfl (Rel.empty w);simp only[VR]at p;subst p;refine⟨.returned (.bool true),j,f,⟨rfl, ?_⟩,t,u,x⟩;exact⟨a.os,a.tape,a.output,a.size,fun k y=>a.keep k y (fun _ _ _ m=>m)⟩
 .simp at m
theorem run_range_map {kt vt:TypeId}(f:(underlying Y).run g t= .ok (.map kt vt) t)(hm:t.heap[H]? =some (.map N p)):
  (Instr.range Y (.map (some H))).run g t= .ok (.pointer (some ⟨t.heap.size,0,none⟩)) (t.alloc (.mapIter (some H) p #[] p)):=by
 simp[Instr.range,zH,f,getObj,Sem.run,hm,newObj,Result.andThen]
structure ML where
 rA:Nat
 rB:Nat
 rC:Nat
 pre:List Oper
 oR:Oper
 oN:Oper
 oX:Oper
 oE:Oper
 rest:List Oper
 id:Nat
 id2:Nat
 body:Code
 t:TypeId
 x:Operand
 it:Nat
 nx:Nat
 ok:Nat
 en:Nat
def ML.opsA (q:ML):Array Oper:=⟨q.pre++[q.oR]⟩
def ML.opsB (q:ML):Array Oper:=⟨[q.oN,q.oX]⟩
def ML.opsC (q:ML):Array Oper:=⟨q.oE::q.rest⟩
def ML.round (q:ML):Code:= .seq (.region q.rB q.opsB false) (.seq (.cond (.tmp q.ok) .skip (.exit q.id)) (.block q.id2 (.seq (.region q.rC q.opsC false) q.body)))
def ML.code (q:ML):Code:= .seq (.region q.rA q.opsA false) (.block q.id (.loop q.round))
structure ML.Fits (q:ML)(nt:Nat):Prop where
 gR:q.oR.guard=none
 pR:q.oR.op= .range q.t q.x
 dR:q.oR.dst=some q.it
 gN:q.oN.guard=none
 pN:q.oN.op= .next (.tmp q.it) false
 dN:q.oN.dst=some q.nx
 gX:q.oX.guard=none
 pX:q.oX.op= .extract (.tmp q.nx) 0
 dX:q.oX.dst=some q.ok
 gE:q.oE.guard=none
 pE:q.oE.op= .entry (.tmp q.it)
 dE:q.oE.dst=some q.en
 it:q.it<nt
 nx:q.nx<nt
 ok:q.ok<nt
 en:q.en<nt
 itnx:q.it≠q.nx
 itok:q.it≠q.ok
 iten:q.it≠q.en
 nxok:q.nx≠q.ok
noncomputable def ML.roundK (q:ML)(B:Tb)(D:Dyn)(n nt:Nat)(hb:Hint)(L:List Nat)(I:Nat)(vs:List AV)(k v:AV)(H:AH):Rs:=
 unp (q.it::L) (.ptr I 0::vs) uQ fun e=>
  zEr B D nt q.opsC none (Nat.succ q.rest.length) (fun env H=>kI B D n nt [] 0 true q.body hb [] (fun env H=>pck (q.it::L) env fun vs=>some (.norm vs,H)) env H) (idx q.rest 1) [] (upd e q.en (.tuple [k,v])) H
theorem Rel.told (h:Rel E A t){o o':AObj}{b:T AObj}(hR:E H p C f)(x:A.h.get H=some o)(hl:JZ A H)(q:T.set 40 A.h H o'=some b)(R:zJZ E o' C f t.heap[p]?):Rel E ⟨b,A.next⟩ t:=by
 have m:=T.get_set _ _ _ _ _ q;have j: ∀a,JZ ⟨b,A.next⟩ a->JZ A a:=fun a ⟨w,hp,hd⟩=>by
  simp only[m]at hp;by_cases e:a=H
  .subst e;exact hl
  .rw[if_neg e]at hp;exact⟨w,hp,hd⟩
 refine⟨h.fn,fun A1 A2 p C f d' c' r u l l'=>h.inj _ _ _ _ _ _ _ r u (j _ l) (j _ l'),fun A1 b1 y c1 w r hp=> ?_,h.lt⟩;simp only[m]at hp;by_cases e:A1=H
 .subst e;rw[if_pos rfl]at hp;injection hp with hp;subst hp
  obtain⟨rfl,rfl,rfl⟩:=h.fn _ _ _ _ _ _ _ r hR;exact R
 .rw[if_neg e]at hp;exact h.obj _ _ _ _ _ r hp
section
variable {P:Program}{fr:Frame}{k:List Item}{cs:List Frame}{w:World}
theorem WI {o:Oper}(hm:fr.mode= .run)(j:fr.todo= .inRegion R (H::l)::k)(m:R[H]? =some o)
  (ops:o.guard=none) (h:o.op= .next (.tmp p) false) (hd:o.dst=some C) (hr:(Instr.next (fr.tmps.getD p undef) false o.type).run P w= .ok c t):
  step P (lone fr cs w)= .next (lone { fr with tmps:=fr.tmps.setIfInBounds C c,todo:= .inRegion R l::k} cs t):=by
 have q:(execOp fr.eval o).run P w= .ok (.value c) t:=by
  have rest:fr.eval (.tmp p)=fr.tmps.getD p undef:=rfl;simp only[execOp,h,rest,zH,hr,Result.andThen_ok];rfl
 have u:=uV (cs:=cs) hm j m (by simp[Region.wanted,ops]) (by intro i;rw[h];simp) q;rw[u,kH j m,hd];rfl
theorem zBl {o:Oper}(hm:fr.mode= .run)(j:fr.todo= .inRegion R (H::l)::k)(m:R[H]? =some o)
  (ops:o.guard=none) (h:o.op= .entry (.tmp p)) (hd:o.dst=some C) (hr:(Instr.entry (fr.tmps.getD p undef)).run P w= .ok c t):
  step P (lone fr cs w)= .next (lone { fr with tmps:=fr.tmps.setIfInBounds C c,todo:= .inRegion R l::k} cs t):=by
 have q:(execOp fr.eval o).run P w= .ok (.value c) t:=by
  have rest:fr.eval (.tmp p)=fr.tmps.getD p undef:=rfl;simp only[execOp,h,rest,zH,hr,Result.andThen_ok];rfl
 have u:=uV (cs:=cs) hm j m (by simp[Region.wanted,ops]) (by intro i;rw[h];simp) q;rw[u,kH j m,hd];rfl
theorem zBj {o:Oper}{x:Operand}(hm:fr.mode= .run)(h:fr.todo= .inRegion R (H::l)::k)(j:R[H]? =some o)
  (m:o.guard=none) (f:o.op= .range Y x) (hd:o.dst=some p) (hr:(Instr.range Y (fr.eval x)).run P w= .ok c t):
  step P (lone fr cs w)= .next (lone { fr with tmps:=fr.tmps.setIfInBounds p c,todo:= .inRegion R l::k} cs t):=by
 have ops:(execOp fr.eval o).run P w= .ok (.value c) t:=by
  simp[execOp,f,zH,hr,Result.andThen]
 have q:=uV (cs:=cs) hm h j (by simp[Region.wanted,m]) (by intro i;rw[f];simp) ops;rw[q,kH h j,hd];rfl
theorem UA {o:Oper}{v:Value}(hm:fr.mode= .run)(m:fr.todo= .inRegion R (H::l)::k)(ops:R[H]? =some o)
  (q:o.guard=none) (h:o.op= .extract (.tmp p) f) (hd:o.dst=some C) (hr:fr.tmps.getD p undef= .tuple G) (t:G[f]? =some v):
  step P (lone fr cs w)= .next (lone { fr with tmps:=fr.tmps.setIfInBounds C v,todo:= .inRegion R l::k} cs w):=by
 have u:(execOp fr.eval o).run P w= .ok (.value v) w:=by
  have x:fr.eval (.tmp p)= .tuple G:=hr;simp[execOp,h,x,t,Instr.extract,zH,Result.andThen]
 have y:=uV (cs:=cs) hm m ops (by simp[Region.wanted,q]) (by intro c;rw[h];simp) u;rw[y,kH m ops,hd];rfl
end
theorem EnvR.slot (h:EnvR E r H G)(hd:p<H)(z:Value):EnvR E (fun t=>bif Nat.beq t p then none else r t) H (G.setIfInBounds p z):=by
 refine⟨by rw[Array.size_setIfInBounds];exact h.size,fun t x a=> ?_,fun t m=> ?_⟩
 .simp only[look,zF,zX]at a;split at a
  .simp at a
  .rename_i j;have:=h.get t x a;rw[yA,Array.getElem?_setIfInBounds_ne (fun e=>j e.symm),<-yA];exact this
 .simp only[look,zF];split
  .rfl
  .exact h.out t m
structure AtHead (q:ML)(nt:Nat)(L:List Nat)(I M r m:Nat)(vs:List AV)(arr:Array MapEntry)(clock:Nat)(seen:Array Nat)(R:Ren)(H:AH)(tmps:Array Value)(w:World):Prop where
 rel:Rel R H w
 env: ∃e,PK e (q.it::L) (.ptr I 0::vs)/\EnvR R e nt tmps
 ri:R I r 0 0
 rm: ∃d c,R M m d c
 gi:H.h.get I=some (.raw (.mapIter (some m) clock seen clock))
 gm:H.h.get M=some (.raw (.map arr clock))
 bo:zDS arr.toList clock
theorem JE {e:Env}{d:Nat} : ∀ {L:List Nat} {vs:List AV},PK e L vs->(∀l∈L,l≠d)->PK (fun t=>bif Nat.beq t d then none else e t) L vs
 | [],vs,h,_=>h
 | l::L,vs,⟨v,vs',h1,h2,h3⟩,hd=>by
  refine⟨v,vs',h1, ?_,JE h3 (fun x a=>hd x (zC _ a))⟩;have:=hd l (zJ ..);simp only[look,zF,zX,if_neg this];exact h2
theorem vS (t:Array Value)(d:Nat)(z:Value)(h:d<t.size):(t.setIfInBounds d z).getD d undef=z:=by
 rw[yA,Array.getElem?_setIfInBounds_self_of_lt h];rfl
theorem getD_set_ne (t:Array Value)(d j:Nat)(z:Value)(h:d≠j):(t.setIfInBounds d z).getD j undef=t.getD j undef:=by
 rw[yA,Array.getElem?_setIfInBounds_ne h,<-yA]
theorem zC4 {P:Program}{q:ML}(M:q.Fits H)(y: ∀nt∈q.it::l,nt≠q.nx/\nt≠q.ok/\nt≠q.en){m:Nat}{j:Nat}{L:Array Nat}{fr:Frame}{k:List Item}{cs:List Frame}
  (h:AtHead q H l p C f m i N j L E A fr.tmps t) (hm:fr.mode= .run) (ht:fr.todo= .code q.round:: .inLoop q.round:: .inBlock q.id::k):
  ((∀e∈N.toList,e.born∈L.toList)/\ ∃u,Steps P (lone fr cs t) (lone { fr with tmps:=u,todo:=k} cs t)/\ ∃e,PK e (q.it::l) (.ptr p 0::i)/\EnvR E e H u)\/
  (∃e∈N.toList,e.born∉L.toList/\ ∃u d',Steps P (lone fr cs t) (lone { fr with tmps:=u,todo:= .inRegion q.opsC ((List.range q.rest.length).map Nat.succ):: .code q.body:: .inBlock q.id2:: .inLoop q.round:: .inBlock q.id::k} cs (vX { t with drawn:=d'} f (.mapIter (some m) j (L.push e.born) j)))/\
   (∃en,PK en (q.it::l) (.ptr p 0::i)/\EnvR E en H u)/\u.getD q.en undef= .tuple #[e.key,e.val]):=by
 obtain⟨e0,hp,J⟩:=h.env;obtain⟨v0,a6,a7,a8,b7⟩:=id hp;obtain⟨rfl,rfl⟩:v0= .ptr p 0/\a6=i:=by injection a7 with a b;exact⟨a.symm,b.symm⟩
 obtain⟨b,d,c,hR,hz⟩:=J.get _ _ a8;obtain⟨rfl,rfl,rfl⟩:=h.rel.fn _ _ _ _ _ _ _ hR h.ri;have O:fr.tmps.getD q.it undef= .pointer (some ⟨b,0,none⟩):=by rw[hz]
 have a1:t.heap[b]? =some (.mapIter (some m) j L j):=h.rel.obj _ _ _ _ _ h.ri h.gi;obtain⟨dm,cm,a9⟩:=h.rm;have z:t.heap[m]? =some (.map N j):=h.rel.obj _ _ _ _ _ a9 h.gm;have a3:b<t.heap.size:=(h.rel.lt _ _ _ _ h.ri).1;have b0:m≠b:=fun e=>by rw[e]at z;rw[a1]at z;simp at z
 have b8:=J.size;have s0:Steps P (lone fr cs t) (lone { fr with todo:= .inRegion q.opsB [0,1]:: .code (.seq (.cond (.tmp q.ok) .skip (.exit q.id)) (.block q.id2 (.seq (.region q.rC q.opsC false) q.body))):: .inLoop q.round:: .inBlock q.id::k} cs t):=
  (Steps.one (U8 hm ht)).trans (.one (QK (fr:= { fr with todo:= .code (.region q.rB q.opsB false):: .code (.seq (.cond (.tmp q.ok) .skip (.exit q.id)) (.block q.id2 (.seq (.region q.rC q.opsC false) q.body))):: .inLoop q.round:: .inBlock q.id::k}) hm rfl))
 rcases run_next_at (P:=P) t q.oN.type b m j j L N j a1 z h.bo.2 (zM _)with⟨b9,r⟩ | ⟨e,I,w1,b1,r⟩
 .left;refine⟨fun e I=> ?_, ?_⟩
  .apply Classical.byContradiction;intro b2;have:e∈(leftOf N L).toList:=by
    simp only[leftOf,Array.toList_filter,List.mem_filter];refine⟨I, ?_⟩;simpa using b2
   have h2:0< (leftOf N L).size:=by
    have:=List.length_pos_of_mem this;simpa using this
   omega
  .have Z:=WI (P:=P) (cs:=cs) (fr:= { fr with todo:= .inRegion q.opsB [0,1]:: .code (.seq (.cond (.tmp q.ok) .skip (.exit q.id)) (.block q.id2 (.seq (.region q.rC q.opsC false) q.body))):: .inLoop q.round:: .inBlock q.id::k}) (w:=t) hm rfl (o:=q.oN) rfl M.gN M.pN M.dN (by rw[O];exact r);have K:=UA (P:=P) (cs:=cs) (w:=t) (fr:= { fr with tmps:=fr.tmps.setIfInBounds q.nx (.tuple #[.bool false]),todo:= .inRegion q.opsB [1]:: .code (.seq (.cond (.tmp q.ok) .skip (.exit q.id)) (.block q.id2 (.seq (.region q.rC q.opsC false) q.body))):: .inLoop q.round:: .inBlock q.id::k}) hm rfl (o:=q.oX) rfl M.gX M.pX M.dX (vS _ _ _ (by have:=M.nx;omega)) (v:= .bool false) rfl;have s3:=xU (P:=P) (cs:=cs) (w:=t) (fr:= { fr with tmps:=(fr.tmps.setIfInBounds q.nx (.tuple #[.bool false])).setIfInBounds q.ok (.bool false),todo:= .inRegion q.opsB []:: .code (.seq (.cond (.tmp q.ok) .skip (.exit q.id)) (.block q.id2 (.seq (.region q.rC q.opsC false) q.body))):: .inLoop q.round:: .inBlock q.id::k}) hm rfl;have s4:=U8 (P:=P) (cs:=cs) (w:=t) (fr:= { fr with tmps:=(fr.tmps.setIfInBounds q.nx (.tuple #[.bool false])).setIfInBounds q.ok (.bool false),todo:= .code (.seq (.cond (.tmp q.ok) .skip (.exit q.id)) (.block q.id2 (.seq (.region q.rC q.opsC false) q.body))):: .inLoop q.round:: .inBlock q.id::k}) hm rfl;have s5:=ZI (P:=P) (cs:=cs) (w:=t) (fr:= { fr with tmps:=(fr.tmps.setIfInBounds q.nx (.tuple #[.bool false])).setIfInBounds q.ok (.bool false),todo:= .code (.cond (.tmp q.ok) .skip (.exit q.id)):: .code (.block q.id2 (.seq (.region q.rC q.opsC false) q.body)):: .inLoop q.round:: .inBlock q.id::k}) (t:=false) hm rfl (vS _ _ _ (by have:=M.ok;rw[Array.size_setIfInBounds];omega));have s6:=zGX (P:=P) (cs:=cs) (w:=t) (fr:= { fr with tmps:=(fr.tmps.setIfInBounds q.nx (.tuple #[.bool false])).setIfInBounds q.ok (.bool false),todo:= .code (.exit q.id):: .code (.block q.id2 (.seq (.region q.rC q.opsC false) q.body)):: .inLoop q.round:: .inBlock q.id::k}) (k':=k) hm rfl (by simp[exitTo]);refine⟨_,s0.trans ((Steps.one Z).trans ((Steps.one K).trans ((Steps.one s3).trans ((Steps.one s4).trans ((Steps.one s5).trans (.one s6)))))),_,JE (JE hp (fun nt hl=>(y nt hl).1)) (fun nt hl=>(y nt hl).2.1),(J.slot M.nx _).slot M.ok _⟩
 .right;obtain⟨d',rfl⟩: ∃d',w1= { t with drawn:=d'} :=by
   rcases b1 with rfl | rfl
   .exact⟨w1.drawn,rfl⟩
   .exact⟨t.drawn+1,rfl⟩
  have S:e∈N.toList/\e.born∉L.toList:=by
   simp only[leftOf,Array.toList_filter,List.mem_filter]at I;exact⟨I.1,by simpa using I.2⟩
  refine⟨e,S.1,S.2, ?_⟩;have a0:(Instr.next (.pointer (some ⟨b,0,none⟩)) false q.oN.type).run P t= .ok (.tuple #[.bool true,e.key,e.val]) (vX { t with drawn:=d'} b (.mapIter (some m) j (L.push e.born) j)):=r
  generalize T:vX { t with drawn:=d'} b (.mapIter (some m) j (L.push e.born) j)=w2 at a0;have b3:w2.heap[b]? =some (.mapIter (some m) j (L.push e.born) j):=by rw[<-T];exact bH _ _ _ a3
  have b4:w2.heap[m]? =some (.map N j):=by rw[<-T,vG _ _ _ _ b0];exact z
  have Z:=WI (P:=P) (cs:=cs) (fr:= { fr with todo:= .inRegion q.opsB [0,1]:: .code (.seq (.cond (.tmp q.ok) .skip (.exit q.id)) (.block q.id2 (.seq (.region q.rC q.opsC false) q.body))):: .inLoop q.round:: .inBlock q.id::k}) (w:=t) hm rfl (o:=q.oN) rfl M.gN M.pN M.dN (by rw[O];exact a0);have K:=UA (P:=P) (cs:=cs) (w:=w2) (fr:= { fr with tmps:=fr.tmps.setIfInBounds q.nx (.tuple #[.bool true,e.key,e.val]),todo:= .inRegion q.opsB [1]:: .code (.seq (.cond (.tmp q.ok) .skip (.exit q.id)) (.block q.id2 (.seq (.region q.rC q.opsC false) q.body))):: .inLoop q.round:: .inBlock q.id::k}) hm rfl (o:=q.oX) rfl M.gX M.pX M.dX (vS _ _ _ (by have:=M.nx;omega)) (v:= .bool true) rfl;generalize Y:(fr.tmps.setIfInBounds q.nx (.tuple #[.bool true,e.key,e.val])).setIfInBounds q.ok (.bool true)=t2 at K;have a2:EnvR E (fun vs=>bif Nat.beq vs q.ok then none else(fun vs=>bif Nat.beq vs q.nx then none else e0 vs) vs) H t2:=by rw[<-Y];exact(J.slot M.nx _).slot M.ok _
  have a4:t2.getD q.ok undef= .bool true:=by rw[<-Y];exact vS _ _ _ (by have:=M.ok;rw[Array.size_setIfInBounds];omega)
  have a5:t2.getD q.it undef= .pointer (some ⟨b,0,none⟩):=by rw[<-Y,getD_set_ne _ _ _ _ (fun x=>M.itok x.symm),getD_set_ne _ _ _ _ (fun x=>M.itnx x.symm)];exact O
  have s3:=xU (P:=P) (cs:=cs) (w:=w2) (fr:= { fr with tmps:=t2,todo:= .inRegion q.opsB []:: .code (.seq (.cond (.tmp q.ok) .skip (.exit q.id)) (.block q.id2 (.seq (.region q.rC q.opsC false) q.body))):: .inLoop q.round:: .inBlock q.id::k}) hm rfl;have s4:=U8 (P:=P) (cs:=cs) (w:=w2) (fr:= { fr with tmps:=t2,todo:= .code (.seq (.cond (.tmp q.ok) .skip (.exit q.id)) (.block q.id2 (.seq (.region q.rC q.opsC false) q.body))):: .inLoop q.round:: .inBlock q.id::k}) hm rfl;have s5:=ZI (P:=P) (cs:=cs) (w:=w2) (fr:= { fr with tmps:=t2,todo:= .code (.cond (.tmp q.ok) .skip (.exit q.id)):: .code (.block q.id2 (.seq (.region q.rC q.opsC false) q.body)):: .inLoop q.round:: .inBlock q.id::k}) (t:=true) hm rfl a4;have s6:=zGV (P:=P) (cs:=cs) (w:=w2) (fr:= { fr with tmps:=t2,todo:= .code .skip:: .code (.block q.id2 (.seq (.region q.rC q.opsC false) q.body)):: .inLoop q.round:: .inBlock q.id::k}) hm rfl;have s7:=K6 (P:=P) (cs:=cs) (w:=w2) (fr:= { fr with tmps:=t2,todo:= .code (.block q.id2 (.seq (.region q.rC q.opsC false) q.body)):: .inLoop q.round:: .inBlock q.id::k}) hm rfl;have s8:=U8 (P:=P) (cs:=cs) (w:=w2) (fr:= { fr with tmps:=t2,todo:= .code (.seq (.region q.rC q.opsC false) q.body):: .inBlock q.id2:: .inLoop q.round:: .inBlock q.id::k}) hm rfl;have s9:=QK (P:=P) (cs:=cs) (w:=w2) (fr:= { fr with tmps:=t2,todo:= .code (.region q.rC q.opsC false):: .code q.body:: .inBlock q.id2:: .inLoop q.round:: .inBlock q.id::k}) hm rfl;have b5:List.range q.opsC.size=0::(List.range q.rest.length).map Nat.succ:=by
   rw[<-List.range_succ_eq_map];rfl
  rw[b5]at s9;have b6:=zBl (P:=P) (cs:=cs) (w:=w2) (fr:= { fr with tmps:=t2,todo:= .inRegion q.opsC (0::(List.range q.rest.length).map Nat.succ):: .code q.body:: .inBlock q.id2:: .inLoop q.round:: .inBlock q.id::k}) hm rfl (o:=q.oE) rfl M.gE M.pE M.dE (by
   rw[a5];exact run_entry_at w2 b m j L N j e b3 b4 S.1 h.bo.1)
  refine⟨_,d', ?_,⟨_,JE (JE (JE hp (fun nt hl=>(y nt hl).1)) (fun nt hl=>(y nt hl).2.1)) (fun nt hl=>(y nt hl).2.2),a2.slot M.en _⟩,vS _ _ _ (by have:=M.en;rw[a2.size];exact this)⟩;rw[T];exact s0.trans ((Steps.one Z).trans ((Steps.one K).trans ((Steps.one s3).trans ((Steps.one s4).trans ((Steps.one s5).trans ((Steps.one s6).trans ((Steps.one s7).trans ((Steps.one s8).trans ((Steps.one s9).trans (.one b6))))))))))
theorem EnvR.know (h:EnvR E r H G)(hd:p<H)(j:VR E s (G.getD p undef)):EnvR E (upd r p s) H G:=by
 refine⟨h.size,fun t y a=> ?_,fun t m=> ?_⟩
 .simp only[look,bI]at a;split at a
  .rename_i e;subst e;injection a with a;subst a;exact j
  .exact h.get t y a
 .simp only[look,bI];rw[if_neg (by omega)];exact h.out t m
section
variable {P:Program}{B:Tb}{D:Dyn}(hX:Ok P B.X)(hr:Good P (rOf B D))
include hX hr in
theorem zFE {q:ML}{nt:Nat}(hq:q.Fits nt){L:List Nat}{hb:Hint}(a5:kS P 0 nt q.body hb){n:Nat}{I M r m:Nat}{vs:List AV}{arr:Array MapEntry}{a:Nat}{f:Array Nat}{R:Ren}{H j:AH}{tmps:Array Value}{w:World}{y z:AV}{e:MapEntry}{d':Nat}{p:T AObj}
  (h:AtHead q nt L I M r m vs arr a f R H tmps w) (t:T.set 40 H.h I (.raw (.mapIter (some m) a (f.push e.born) a))=some p)
  (hk:VR R y e.key) (hv:VR R z e.val) (a0:q.roundK B D n nt hb L I vs y z ⟨p,H.next⟩=some (.norm (.ptr I 0::vs),j)) (a6:j.h.get I=p.get I) (a7:j.h.get M=p.get M) (a8:M≠I)
  {fr:Frame} {k:List Item} {cs:List Frame} {lo:Nat} (hm:fr.mode= .run) (ht:fr.todo= .inRegion q.opsC ((List.range q.rest.length).map Nat.succ):: .code q.body:: .inBlock q.id2:: .inLoop q.round:: .inBlock q.id::k)
  (hE: ∃N,PK N (q.it::L) (.ptr I 0::vs)/\EnvR R N nt fr.tmps) (a9:fr.tmps.getD q.en undef= .tuple #[e.key,e.val]) (hM:Marks lo R w fr.defers) (b0:lo<=w.heap.size):
  ∃O C Z ds,Steps P (lone fr cs (vX { w with drawn:=d'} r (.mapIter (some m) a (f.push e.born) a))) (lone { fr with tmps:=Z,todo:= .code q.round:: .inLoop q.round:: .inBlock q.id::k,defers:=ds} cs C)/\
   AtHead q nt L I M r m vs arr a (f.push e.born) O j Z C/\Ext R H w O j C/\Marks lo O C ds/\H.next<=j.next:=by
 have b1:JZ H I:=⟨_,h.gi,trivial⟩;have a1:Rel R ⟨p,H.next⟩ (vX { w with drawn:=d'} r (.mapIter (some m) a (f.push e.born) a)):=(h.rel.drew d').put h.ri b1 t rfl
 have J:Ext R H w R ⟨p,H.next⟩ (vX { w with drawn:=d'} r (.mapIter (some m) a (f.push e.born) a)):=(Ext.drew R H w d').trans (Ext.put h.ri t)
 obtain⟨N,hp,b4⟩:=hE;unfold ML.roundK at a0;obtain⟨e',a2,b5⟩:=WC a0 hp;have a3:VR R (.tuple [y,z]) (fr.tmps.getD q.en undef):=by
  rw[a9];exact⟨[e.key,e.val],rfl,_,_,rfl,hk,_,_,rfl,hv,rfl⟩
 have b6:EnvR R (upd e' q.en (.tuple [y,z])) nt fr.tmps:=(b4.know hq.en a3).le (b5.upd _ _);obtain⟨es,envF,HF,env',c1,c2,c3,c4,_⟩:=uA _ _ [] _ _ _ [] a2 (Le.refl _) (fun ms b7=>by simp at b7);obtain⟨i1,i2⟩:=zAC q.rest 1;have hi:es.map (·.i)=(List.range q.rest.length).map Nat.succ:=by
  have:es.map (·.i)=(idx q.rest 1).map (·.1):=by rw[<-c2];simp
  rw[this,i1];apply List.map_congr_left;intro x _;omega
 have a4: ∀e∈es,q.opsC[e.i]? =some e.o:=by
  intro e he;have h1:(e.i,e.o)∈idx q.rest 1:=by rw[<-c2];exact qZ.2 ⟨e,he,rfl⟩
  obtain⟨h2,h3⟩:=i2 _ h1;show(q.oE::q.rest).toArray[e.i]? =some e.o;have c5:1<=e.i:=h2;rw[show e.i=(e.i - 1)+1 from by omega,List.getElem?_toArray,j7];exact h3
 obtain⟨R1,w1,t1,s1,e1,l1,S⟩:=V6 hX hr c1 a4 R fr (.code q.body:: .inBlock q.id2:: .inLoop q.round:: .inBlock q.id::k) cs _ hm (by rw[hi];exact ht) b6 a1;have b8:=KM hX hr (ro:=true) (f0:=0) (rs:=[]) (nt:=nt) (n:=n) q.body hb [] _ env' HF _ a5 c4;have b9:Marks lo R1 w1 fr.defers:=(hM.ext J).ext S;obtain⟨R2,w2,t2,c6,K,env2,H2,s2,e2,l2,x2,n2,m2,o2⟩:=b8 lo R1 { fr with tmps:=t1,todo:= .code q.body:: .inBlock q.id2:: .inLoop q.round:: .inBlock q.id::k} (.inBlock q.id2:: .inLoop q.round:: .inBlock q.id::k) cs w1 hm (fun h=>by simp at h) rfl (e1.le c3) l1 b9 (qN b0 (J.trans S).size);have c0:=(wP hr.mono c1).1;rcases o2 with⟨rfl,b2⟩ | ⟨id,k',rfl,b2,L',vs',b3,_⟩ | ⟨k',rfl,b2⟩
 .obtain⟨c7,p1,p2⟩:=wH b2;simp only[zB,zU,Ex.norm.injEq]at p2;obtain⟨rfl,rfl⟩:=p2;have Y:=J.trans (S.trans x2);refine⟨R2,w2,t2,K, ?_,⟨l2,⟨env2,p1,e2⟩,Y.sub _ _ _ _ h.ri, ?_, ?_, ?_,h.bo⟩,Y,m2,qN (show H.next<=HF.next from c0) n2⟩
  .refine s1.trans ((Steps.one (xU (fr:= { fr with tmps:=t1,todo:= .inRegion q.opsC []:: .code q.body:: .inBlock q.id2:: .inLoop q.round:: .inBlock q.id::k}) hm rfl)).trans (s2.trans ?_));refine(Steps.one (U9 (fr:= { fr with tmps:=t2,todo:= .inBlock q.id2:: .inLoop q.round:: .inBlock q.id::k,defers:=K}) hm rfl)).trans ?_;exact .one (zBk (fr:= { fr with tmps:=t2,todo:= .inLoop q.round:: .inBlock q.id::k,defers:=K}) hm rfl)
  .obtain⟨d,c,hr⟩:=h.rm;exact⟨d,c,Y.sub _ _ _ _ hr⟩
  .rw[a6,T.get_set _ _ _ _ _ t,if_pos rfl]
  .rw[a7,T.get_set _ _ _ _ _ t,if_neg a8];exact h.gm
 .simp[uI]at b3
 .obtain⟨u,e⟩:=vP b2;simp at e
end
section
variable {P:Program}{B:Tb}{D:Dyn}(hX:Ok P B.X)(hr:Good P (rOf B D))
include hX hr in
theorem zKO {q:ML}(hq:q.Fits H)(b2: ∀hb∈q.it::l,hb≠q.nx/\hb≠q.ok/\hb≠q.en)(b9:kS P 0 H q.body L){r m:Nat}(c0:f≠C)(hI:True){Z:Nat}
  {J:List (AV×AV)->AH->Prop}
  (b4: ∀K k v rest t,J K t->(K++(k,v)::rest).Perm Q-> ∃S,q.roundK B D p H L l C i k v t=some (.norm (.ptr C 0::i),S)/\S.h.get C=t.h.get C/\S.h.get f=t.h.get f/\J (K++[(k,v)]) S)
  (b6: ∀K t y t',J K t->T.set 40 t.h C (.raw y)=some t'->J K ⟨t',t.next⟩)
  {ps:List ((AV×AV)×MapEntry)} (b7:ps.map (·.1)=Q) (a5:(ps.map (·.2)).Perm N.toList):
  ∀(vs:Nat) (rp M:List ((AV×AV)×MapEntry)) (x:Array Nat) (R:Ren) (nt:AH) (fr:Frame) (k:List Item) (cs:List Frame) (w:World) (lo:Nat),rp.length=vs->(M++rp).Perm ps->x.toList=M.map (·.2.born)->J (M.map (·.1)) nt->
   (∀n∈ps,VR R n.1.1 n.2.key/\VR R n.1.2 n.2.val)->AtHead q H l C f r m i N Z x R nt fr.tmps w->fr.mode= .run->fr.todo= .code q.round:: .inLoop q.round:: .inBlock q.id::k->Marks lo R w fr.defers->lo<=w.heap.size->
   ∃(R':Ren) (w':World) (I:Array Value) (ds:List Deferred) (H':AH) (a0:List ((AV×AV)×MapEntry)) (a4:Array Nat),Steps P (lone fr cs w) (lone { fr with tmps:=I,todo:=k,defers:=ds} cs w')/\a0.Perm ps/\J (a0.map (·.1)) H'/\AtHead q H l C f r m i N Z a4 R' H' I w'/\Ext R nt w R' H' w'/\Marks lo R' w' ds/\nt.next<=H'.next:=by
 have find: ∀e∈N.toList,∃n∈ps,n.2=e:=fun e z=>by
  have:=a5.symm.subset z;obtain⟨n,u,h2⟩:=qZ.1 this;exact⟨n,u,h2⟩
 intro vs
 induction vs with
 | zero=>
  intro rp M x R nt fr k cs w lo hN o Y a6 a1 j hm ht hM a7;have:rp=[]:=zW hN;subst this;rw[yB]at o;rcases zC4 (P:=P) (cs:=cs) hq b2 j hm ht with⟨_,I,s1,z⟩ | ⟨e,z,a8,_⟩
  .exact⟨R,w,I,fr.defers,nt,M,x,s1,o,a6,⟨j.rel,z,j.ri,j.rm,j.gi,j.gm,j.bo⟩,zRr R nt w,hM,zM _⟩
  .obtain⟨n,hp,rfl⟩:=find e z;exact absurd (by rw[Y];exact qZ.2 ⟨n,o.symm.subset hp,rfl⟩) a8
 | succ vs ih=>
  intro rp M x R nt fr k cs w lo hN o Y a6 a1 j hm ht hM a7;rcases zC4 (P:=P) (cs:=cs) hq b2 j hm ht with⟨b8,_⟩ | ⟨e,z,a8,I,d',s1,hE,c1⟩
  .exfalso;obtain⟨n,O,rfl⟩: ∃n O,rp=n::O:=by
    cases rp with
    | nil=>simp at hN
    | cons n O=>exact⟨n,O,rfl⟩
   have a9:n∈ps:=o.subset (by simp);have u:=b8 n.2 (a5.subset (qZ.2 ⟨n,a9,rfl⟩));rw[Y]at u;have b3:((M++n::O).map (·.2.born)).Nodup:=by
    have h2:((M++n::O).map (·.2.born)).Perm (N.toList.map (·.born)):=by
     have:=(o.map (·.2)).trans a5;have:=this.map (·.born);rw[List.map_map]at this;exact this
    exact h2.symm.nodup j.bo.1
   rw[List.map_append,List.nodup_append]at b3;exact b3.2.2 _ u _ (by simp) rfl
  .obtain⟨n,hp,rfl⟩:=find e z;have a9:n∈M++rp:=o.symm.subset hp;have c2:n∈rp:=by
    rcases qA.1 a9 with u | u
    .exact absurd (by rw[Y];exact qZ.2 ⟨n,u,rfl⟩) a8
    .exact u
   obtain⟨r1,r2,rfl⟩:=List.append_of_mem c2;obtain⟨⟨kA,vA⟩,e⟩:=n;have b0:(M++[((kA,vA),e)]++(r1++r2)).Perm ps:=by
    refine List.Perm.trans ?_ o;rw[zZ];refine List.Perm.append_left _ ?_;exact(List.perm_middle (a:=((kA,vA),e)) (l₁:=r1) (l₂:=r2)).symm
   obtain⟨t',b1⟩:=qQ.1 (T.set_some 40 nt.h C (.raw (.mapIter (some m) Z (x.push e.born) Z)));have b5:=b6 _ _ _ _ a6 b1;obtain⟨S,g1,g2,g3,g4⟩:=b4 (M.map (·.1)) kA vA ((r1++r2).map (·.1)) ⟨t',nt.next⟩ b5 (by
    have:=b0.map (·.1);rw[b7]at this;simpa using this)
   obtain⟨hk,hv⟩:=a1 _ hp;obtain⟨R1,w1,t1,c3,s2,a2,x2,m2,n2⟩:=zFE hX hr (d':=d') (cs:=cs) (lo:=lo) (k:=k) (fr:= { fr with tmps:=I,todo:= .inRegion q.opsC ((List.range q.rest.length).map Nat.succ):: .code q.body:: .inBlock q.id2:: .inLoop q.round:: .inBlock q.id::k}) hq b9 j b1 hk hv g1 g2 g3 c0 hm rfl hE c1 hM a7;obtain⟨R2,w2,t2,c4,H4,a0,a4,s3,p3,i3,a3,x3,m3,n3⟩:=ih (r1++r2) (M++[((kA,vA),e)]) (x.push e.born) R1 S { fr with tmps:=t1,todo:= .code q.round:: .inLoop q.round:: .inBlock q.id::k,defers:=c3} k cs w1 lo (by simp at hN⊢;omega) b0 (by simp[Y]) (by simpa using g4)
    (fun n hp=>⟨VR.mono x2.sub _ _ (a1 n hp).1,VR.mono x2.sub _ _ (a1 n hp).2⟩) a2 hm rfl m2 (qN a7 x2.size)
   exact⟨R2,w2,t2,c4,H4,a0,a4,s1.trans (s2.trans s3),p3,i3,a3,x2.trans x3,m3,qN n2 n3⟩
end
section
variable {P:Program}{B:Tb}{D:Dyn}(hX:Ok P B.X)(hr:Good P (rOf B D))
theorem MR.pairs {l:List MapEntry}(h:MR E Q l): ∃ps:List ((AV×AV)×MapEntry),ps.map (·.1)=Q/\(ps.map (·.2)).Perm l/\ ∀p∈ps,VR E p.1.1 p.2.key/\VR E p.1.2 p.2.val:=by
 obtain⟨m,hp,f,j⟩:=h;have key: ∀(Q:List (AV×AV)) (m:List MapEntry),VRL E (Q.map (·.1)) (m.map (·.key))->VRL E (Q.map (·.2)) (m.map (·.val))-> ∃ps:List ((AV×AV)×MapEntry),ps.map (·.1)=Q/\ps.map (·.2)=m/\ ∀p∈ps,VR E p.1.1 p.2.key/\VR E p.1.2 p.2.val:=by
  intro Q
  induction Q with
  | nil=>
   intro m f _;simp only[List.map_nil,VRL,List.map_eq_nil_iff]at f;subst f;exact⟨[],rfl,rfl,by simp⟩
  | cons e Q ih=>
   intro m f j;obtain⟨x,xs,o,C,J⟩:=f;obtain⟨y,O,z,K,N⟩:=j
   cases m with
   | nil=>simp at o
   | cons a m=>
    simp only[yJ,y8]at o z;obtain⟨rfl,rfl⟩:=o;obtain⟨rfl,rfl⟩:=z;obtain⟨ps,q,t,u⟩:=ih m J N;refine⟨(e,a)::ps,by simp[q],by simp[t],fun p hp=> ?_⟩;rcases zK.1 hp with rfl | hp
    .exact⟨C,K⟩
    .exact u p hp
 obtain⟨ps,q,t,u⟩:=key Q m f j;exact⟨ps,q,by rw[t];exact hp,u⟩
variable {nt:Nat}
include hX hr in
theorem BP {ops:Array Oper} : ∀ {es:List Ent} {env:Env} {H:AH} {envF:Env} {HF:AH},uM B.X (rOf B D) nt ops env H es envF HF->(∀e∈es,ops[e.i]? =some e.o)->
  ∀(R:Ren) (fr:Frame) (a:List Nat) (k:List Item) (cs:List Frame) (w:World),fr.mode= .run->fr.todo= .inRegion ops (es.map (·.i)++a)::k->EnvR R env nt fr.tmps->Rel R H w->
  ∃u x C,Steps P (lone fr cs w) (lone { fr with tmps:=C,todo:= .inRegion ops a::k} cs x)/\EnvR u envF nt C/\Rel u HF x/\Ext R H w u HF x
 | [],env,H,envF,HF,⟨h1,h2⟩,_,R,fr,a,k,cs,w,hm,ht,hE,hL=>by
  subst h1 h2;refine⟨R,w,fr.tmps, ?_,hE,hL,zRr R H w⟩;have:({ fr with tmps:=fr.tmps,todo:= .inRegion ops a::k} :Frame)=fr:=by
   have f:fr.todo= .inRegion ops a::k:=ht;rw[<-f]
  rw[this];exact .refl _ _
 | e::es,env,H,envF,HF,⟨h1,h2,h3,env',h4,h5⟩,hmem,R,fr,a,k,cs,w,hm,ht,hE,hL=>by
  have y:=hmem e (zJ ..);obtain⟨O,K,N⟩:=XY _ _ _ h3;have m:=zD0 hE O;have f:fr.todo= .inRegion ops (e.i::(es.map (·.i)++a))::k:=ht;have key: ∃h j z,Steps P (lone fr cs w) (lone { fr with tmps:=zCW fr.tmps e.o.dst z,todo:= .inRegion ops (es.map (·.i)++a)::k} cs j)/\VR h e.v z/\Rel h e.H' j/\Ext R H w h e.H' j:=by
   cases p:e.want with
   | true=>
    rw[p]at m;exact zEs hX hr (cs:=cs) hm f y m hE hL (K p)
   | false=>
    rw[p]at m;obtain⟨S,t⟩:=N p;refine⟨R,w,undef, ?_,by rw[S];exact zAY R,by rw[t];exact hL,by rw[t];exact zRr R H w⟩;rw[<-kH f y];exact .one (WH hm f y m)
  obtain⟨h,j,z,T,Y,l1,J⟩:=key;obtain⟨Z,w2,t2,s2,t,l2,x2⟩:=BP h5 (fun q hq=>hmem q (zC _ hq)) h { fr with tmps:=zCW fr.tmps e.o.dst z,todo:= .inRegion ops (es.map (·.i)++a)::k} a k cs j hm rfl ((hE.mono J.sub).put Y h4) l1;exact⟨Z,w2,t2,T.trans s2,t,l2,J.trans x2⟩
noncomputable def ML.preK (q:ML)(B:Tb)(D:Dyn)(nt:Nat)(L:List Nat)(vs:List AV)(H:AH):Rs:=
 unp L vs uQ fun e=>zEr B D nt q.opsA none (Nat.succ q.pre.length) (fun e H=>pck L e fun vs=>bV (opd e q.x) fun v=>some (.norm (v::vs),H)) (idx q.pre 0) [] e H
structure ML.Plan (q:ML)(B:Tb)(D:Dyn)(n nt:Nat)(hb:Hint)(L:List Nat)(vs:List AV)(H H':AH) where
 M:Nat
 ks:List Nat
 es:List (AV×AV)
 inv:List (AV×AV)->AH->Prop
 pre:q.preK B D nt L vs H=some (.norm (.map M::vs),H)
 room:True
 map:H.h.get M=some (.map ks es)
 start: ∀x y t1 t2,T.set 40 H.h M (.raw x)=some t1->T.set 40 t1 H.next (.raw y)=some t2->inv [] ⟨t2,H.next+1⟩
 step: ∀vis k v rest Hk,inv vis Hk->(vis++(k,v)::rest).Perm es-> ∃H3,q.roundK B D n nt hb L H.next vs k v Hk=some (.norm (.ptr H.next 0::vs),H3)/\H3.h.get H.next=Hk.h.get H.next/\H3.h.get M=Hk.h.get M/\inv (vis++[(k,v)]) H3
 raw: ∀vis Hk y t',inv vis Hk->T.set 40 Hk.h H.next (.raw y)=some t'->inv vis ⟨t',Hk.next⟩
 fin: ∀vis Hk t1 t2,inv vis Hk->vis.Perm es->T.set 40 Hk.h M (.map ks es)=some t1->T.set 40 t1 H.next .dead=some t2-> ∀R0 w0 R w,Rel R0 H w0->(∀v∈vs,∃z,VR R0 v z)->(∃b d c,R0 M b d c)->Sub R0 R->Rel R ⟨t2,Hk.next⟩ w->Rel R H' w/\H'.next=Hk.next/\ ∀A,A<H.next->(∀b d c,¬R0 A b d c)->H'.h.get A=H.h.get A
end
section
variable {P:Program}{B:Tb}{D:Dyn}(hX:Ok P B.X)(hr:Good P (rOf B D)){nt:Nat}
def Ext.told {o':AObj}{a:T AObj}(hR:E H p C f)(R:T.set 40 A.h H o'=some a):Ext E A t E ⟨a,A.next⟩ t:=
 ⟨zRm E,fun _ _ _ _ h=> .inl h,fun _ _ _ _ h=> .inl h,zM _,fun A1 _ j=>by
  have:A1≠H:=fun e=>by subst e;exact j _ _ _ hR
  simp only[T.get_set _ _ _ _ _ R,if_neg this],rfl,rfl,rfl,zM _,fun _ _ _=>rfl⟩
include hX hr in
theorem zFP {f0:ML}(hq:f0.Fits nt)(c9: ∀hb∈f0.it::l,hb≠f0.nx/\hb≠f0.ok/\hb≠f0.en)(d0: ∀hb∈l,hb≠f0.it)(d1:kS P 0 nt f0.body L){vt:TypeId}(d2:B.X.und f0.t=some (.map Y vt))
  (d4: ∀vs n H',j vs n=some H'->Nonempty (f0.Plan B D H nt L l vs n H')):VJ P nt q f0.code l j:=by
 intro ro env vs n H' hp d5 d6 lo R fr k cs w hm f9 d7 hE hL hM d8;obtain⟨f⟩:=d4 vs n H' d5;have a4:=f.pre;unfold ML.preK at a4;obtain⟨e1,b7,b8⟩:=WC a4 hp;obtain⟨es,envF,HF,env',c1,c2,c3,S,_⟩:=uA _ _ [] _ _ _ [] b7 (Le.refl _) (fun ms d9=>by simp at d9);obtain⟨Z,p1,S⟩:=wH S;obtain⟨v1,o1,S⟩:=wI S;simp only[zB,zU,Ex.norm.injEq,y8]at S;obtain⟨⟨rfl,rfl⟩,rfl⟩:=S;obtain⟨i1,i2⟩:=zAC f0.pre 0;have hi:es.map (·.i)=List.range f0.pre.length:=by
  have:es.map (·.i)=(idx f0.pre 0).map (·.1):=by rw[<-c2];simp
  rw[this,i1];simp
 have b9: ∀e∈es,f0.opsA[e.i]? =some e.o:=by
  intro e he;have h1:(e.i,e.o)∈idx f0.pre 0:=by rw[<-c2];exact qZ.2 ⟨e,he,rfl⟩
  have J:=(i2 _ h1).2;rw[jD]at J;show(f0.pre++[f0.oR]).toArray[e.i]? =some e.o;rw[List.getElem?_toArray,yY (qR.1 J).1];exact J
 have e0:List.range f0.opsA.size=es.map (·.i)++[f0.pre.length]:=by
  rw[hi,<-List.range_succ];show List.range (f0.pre++[f0.oR]).toArray.size=_;simp
 obtain⟨u,a,t1,s1,e2,l1,x1⟩:=BP hX hr c1 b9 R { fr with todo:= .inRegion f0.opsA (es.map (·.i)++[f0.pre.length]):: .code (.block f0.id (.loop f0.round))::k} [f0.pre.length] (.code (.block f0.id (.loop f0.round))::k) cs w hm rfl (hE.le b8) hL;have a8:EnvR u env' nt t1:=e2.le c3;obtain⟨m,dm,cm,C,e4⟩:=kR (fr:= { fr with tmps:=t1,todo:= .inRegion f0.opsA [f0.pre.length]:: .code (.block f0.id (.loop f0.round))::k}) a8 _ _ o1;obtain⟨arr,mf,a9,b0,e5,e6,b1⟩:=l1.mapAt f.map C;have b4:f0.opsA[f0.pre.length]? =some f0.oR:=by
  show(f0.pre++[f0.oR]).toArray[f0.pre.length]? =some f0.oR;simp
 have s2:=zBj (P:=P) (cs:=cs) (w:=a) (fr:= { fr with tmps:=t1,todo:= .inRegion f0.opsA [f0.pre.length]:: .code (.block f0.id (.loop f0.round))::k}) hm rfl b4 hq.gR hq.pR hq.dR (by rw[e4];exact run_range_map (hX.run_und d2 a) a9);have g0:f.M<HF.next:=(l1.lt _ _ _ _ C).2
 have b5:=f.room;obtain⟨ta,a1⟩:=qQ.1 (T.set_some 40 HF.h f.M (.raw (.map arr mf)));obtain⟨tb,a0⟩:=qQ.1 (T.set_some 40 ta HF.next (.raw (.mapIter (some m) mf #[] mf)))
 have lM:Rel u ⟨ta,HF.next⟩ a:=l1.told C f.map ⟨_,f.map,trivial⟩ a1 a9
 have l2:Rel (u.add HF.next a.heap.size 0 0) ⟨tb,HF.next+1⟩ (a.alloc (.mapIter (some m) mf #[] mf)):=lM.new (c:=0) (x:= .mapIter (some m) mf #[] mf) (H:=⟨ta,HF.next⟩) a0 rfl
 have x2:Ext R HF w (u.add HF.next a.heap.size 0 0) ⟨tb,HF.next+1⟩ (a.alloc (.mapIter (some m) mf #[] mf)):=(x1.trans (Ext.told C a1)).trans (Ext.add (H:=⟨ta,HF.next⟩) a0)
 obtain⟨ps,a5,c0,a6⟩:=b0.pairs;have O:Sub u (u.add HF.next a.heap.size 0 0):=u.sub_add _ _ _ _
 have e7: ∀p∈ps,VR (u.add HF.next a.heap.size 0 0) p.1.1 p.2.key/\VR (u.add HF.next a.heap.size 0 0) p.1.2 p.2.val:=fun p hp=>⟨VR.mono O _ _ (a6 p hp).1,VR.mono O _ _ (a6 p hp).2⟩
 have b2:f.M≠HF.next:=by omega
 have e8:EnvR (u.add HF.next a.heap.size 0 0) (upd env' f0.it (.ptr HF.next 0)) nt (t1.setIfInBounds f0.it (.pointer (some ⟨a.heap.size,0,none⟩))):=
  (a8.mono O).put (dst:=some f0.it) (x:= .ptr HF.next 0) ⟨a.heap.size,0,0,u.add_self _ _ _ _,rfl⟩ (by have L:=hq.it;rw[<-qE]at L;simp only[VM,L,zP])
 have e9:PK (upd env' f0.it (.ptr HF.next 0)) (f0.it::l) (.ptr HF.next 0::Z):=by
  refine⟨_,_,rfl,by simp[look,bI], ?_⟩;have key: ∀(l:List Nat) (vs:List AV),(∀hb∈l,hb≠f0.it)->PK env' l vs->PK (upd env' f0.it (.ptr HF.next 0)) l vs:=by
   intro l
   induction l with
   | nil=>intro vs _ h;exact h
   | cons hb l ih=>
    intro vs hd h;obtain⟨v,vs',h1,h2,J⟩:=h;refine⟨v,vs',h1, ?_,ih vs' (fun x hx=>hd x (zC _ hx)) J⟩;have:=hd hb (zJ ..);simp only[look,bI,if_neg this];exact h2
  exact key l Z d0 p1
 have f1:AtHead f0 nt l HF.next f.M a.heap.size m Z arr mf #[] (u.add HF.next a.heap.size 0 0) ⟨tb,HF.next+1⟩ (t1.setIfInBounds f0.it (.pointer (some ⟨a.heap.size,0,none⟩))) (a.alloc (.mapIter (some m) mf #[] mf)):=
  ⟨l2,⟨_,e9,e8⟩,u.add_self _ _ _ _,⟨dm,cm,O _ _ _ _ C⟩,by simp only[T.get_set _ _ _ _ _ a0,if_true],by simp only[T.get_set _ _ _ _ _ a0,if_neg b2,T.get_set _ _ _ _ _ a1,if_true],b1⟩
 have f2:Marks lo (u.add HF.next a.heap.size 0 0) (a.alloc (.mapIter (some m) mf #[] mf)) fr.defers:=hM.ext x2
 obtain⟨K,kt,t3,f3,H3,vp,f8,s3,v3,i3,N,x3,m3,n3⟩:=zKO hX hr hq c9 d1 b2 b5 f.step f.raw a5 c0 ps.length ps [] #[] _ ⟨tb,HF.next+1⟩ { fr with tmps:=t1.setIfInBounds f0.it (.pointer (some ⟨a.heap.size,0,none⟩)),todo:= .code f0.round:: .inLoop f0.round:: .inBlock f0.id::k} k cs _ lo rfl (by simp) rfl (f.start _ _ _ _ a1 a0) e7 f1 hm rfl f2 (qN d8 x2.size)
 obtain⟨d3,g1,c5⟩:=N.rm;obtain⟨tc,b3⟩:=qQ.1 (T.set_some 40 H3.h f.M (.map f.ks f.es));obtain⟨td,a7⟩:=qQ.1 (T.set_some 40 tc HF.next .dead)
 have c6:kt.heap[m]? =some (.map arr mf):=N.rel.obj _ _ _ _ _ c5 N.gm;have b6:K f.M m dm cm:=x3.sub _ _ _ _ (O _ _ _ _ C);have l4:Rel K ⟨tc,H3.next⟩ kt:=N.rel.told b6 N.gm ⟨_,N.gm,trivial⟩ b3 ⟨arr,mf,c6,b0.mono (fun A b d c h=>x3.sub _ _ _ _ (O _ _ _ _ h)),e5,e6,b1⟩
 have l5:Rel K ⟨td,H3.next⟩ kt:=l4.kill (H:=⟨tc,H3.next⟩) a7
 have f4: ∀v∈Z,∃z,VR R v z:=by
  have key: ∀(l:List Nat) (vs:List AV),PK env l vs-> ∀v∈vs,∃z,VR R v z:=by
   intro l
   induction l with
   | nil=>intro vs h v hv;simp only[PK]at h;subst h;simp at hv
   | cons hb l ih=>
    intro vs h v hv;obtain⟨v0,vs',h1,h2,J⟩:=h;subst h1;rcases zK.1 hv with rfl | hv
    .exact⟨_,hE.get _ _ h2⟩
    .exact ih vs' J v hv
  exact key l Z hp
 have f5: ∃b d c,R f.M b d c:=by
  rcases x1.newA _ _ _ _ C with h | h
  .exact⟨_,_,_,h⟩
  .omega
 have c7:Sub R K:=(x2.trans x3).sub;obtain⟨l6,g2,f6⟩:=f.fin _ H3 tc td i3 (by rw[<-a5];exact v3.map _) b3 a7 R w K kt hL f4 f5 c7 l5;have y:=x2.trans x3;have x4:Ext R HF w K H' kt:=⟨y.sub,y.new,y.newA,by have:=y.next;omega,f6,y.os,y.tape,y.output,y.size,y.keep⟩
 obtain⟨e3,pk3,f7⟩:=N.env;obtain⟨_,_,a2,_,c8⟩:=pk3;injection a2 with _ a2;subst a2
 refine⟨K,kt,t3,k,f3,e3,H', ?_,f7,l6,x4,d6,m3, .inl ⟨rfl,c8,rfl⟩⟩;refine(Steps.one (U8 hm d7)).trans ?_;refine(Steps.one (QK (fr:= { fr with todo:= .code (.region f0.rA f0.opsA false):: .code (.block f0.id (.loop f0.round))::k}) hm rfl)).trans ?_;rw[e0];refine s1.trans ((Steps.one s2).trans ?_);refine(Steps.one (xU (fr:= { fr with tmps:=t1.setIfInBounds f0.it (.pointer (some ⟨a.heap.size,0,none⟩)),todo:= .inRegion f0.opsA []:: .code (.block f0.id (.loop f0.round))::k}) hm rfl)).trans ?_;refine(Steps.one (K6 (fr:= { fr with tmps:=t1.setIfInBounds f0.it (.pointer (some ⟨a.heap.size,0,none⟩)),todo:= .code (.block f0.id (.loop f0.round))::k}) hm rfl)).trans ?_;refine(Steps.one (zGW (fr:= { fr with tmps:=t1.setIfInBounds f0.it (.pointer (some ⟨a.heap.size,0,none⟩)),todo:= .code (.loop f0.round):: .inBlock f0.id::k}) hm rfl)).trans ?_;exact s3
end
def ups (e:List (AV×AV))(x:AV×AV):List (AV×AV):=match K1 x.1 x.2 e with
 | some r=>r
 | none=>e++[x]
def U5:List (AV×AV)->List (AV×AV)->List (AV×AV)
 | e,[]=>e
 | e,x::l=>U5 (ups e x) l
noncomputable def zFX (t:T AObj):Nat->Nat->Bool
 | _,0=>true
 | A,n+1=>match T.get t A with
  | none=>fN (Nat.succ A) fun A=>zFX t A n
  | some _=>false
theorem zEI {t:T AObj} : ∀ {n A:Nat},zFX t A n=true-> ∀C,A<=C->C<A+n->t.get C=none
 | 0,_,_,C,h1,h2=>by omega
 | n+1,A,h,C,h1,h2=>by
  simp only[zFX]at h;split at h
  .rename_i e;rw[kF]at h;by_cases a:C=A
   .subst a;exact e
   .exact zEI h C (by simp only[Nat.succ_eq_add_one];omega) (by simp only[Nat.succ_eq_add_one];omega)
  .simp at h
noncomputable def zNf (kk:List Nat)(nb:Nat)(ok:AV->Bool)(x y:AV)(H:AH):Option AH:=match x with
 | .map M=>match y with
  | .map A=>match H.h.get M with
   | some (.map ks es)=>match H.h.get A with
    | some (.map ks' es')=>bif Y4 kk ks&&Y4 ks ks'&& !Nat.beq M A&&es.all (fun e=>xO ks e.1&&ok e.2)then
      fN (H.next+1+nb*es.length) fun N=>bif zFX H.h H.next (1+nb*es.length)then
       match fX H A (.map ks (U5 es' es))with
       | some H1=>some ⟨H1.h,N⟩
       | none=>none
      else none
     else none
    | _=>none
   | _=>none
  | _=>none
 | _=>none
theorem WA (x:AV×AV): ∀(l e:List (AV×AV)),U5 e (l++[x])=ups (U5 e l) x
 | [],e=>rfl
 | y::l,e=>by simp only[qF,U5];exact WA x l (ups e y)
open Classical in
theorem zK1 {ks:List Nat}{e:List (AV×AV)}{x:AV×AV}(hk:xO ks x.1=true)(hd:e.Pairwise (fun a b=>a.1≠b.1)):(ups e x).Perm (x::e.filter (fun y=>decide (y.1≠x.1))):=by
 obtain⟨k,v⟩:=x;unfold ups;split
 .rename_i r hr;obtain⟨e1,v0,e2,rfl,rfl⟩:=WP hr;rw[j5,qV]at hd;have h1:e1.filter (fun y=>decide (y.1≠k))=e1:=List.filter_eq_self.2 fun y hy=>by
   simpa using hd.2.2 y hy (k,v0) (zJ ..)
  have h2:e2.filter (fun y=>decide (y.1≠k))=e2:=List.filter_eq_self.2 fun y hy=>by
   have:=hd.2.1.1 y hy;simpa using fun h=>this h.symm
  rw[jH,List.filter_cons];simp only[ne_eq,not_true_eq_false,decide_false,zL,qD];simp only[ne_eq]at h1 h2;rw[h1,h2];exact List.perm_middle
 .rename_i hr;have hn:=setA_none hk hr;have h1:e.filter (fun y=>decide (y.1≠k))=e:=List.filter_eq_self.2 fun y hy=>by simpa using hn y hy
  simp only[ne_eq]at h1⊢;rw[h1];exact List.perm_append_comm
def zAn {m:List (AV×AV)}(h:Q.Perm m)(hl:Q.Pairwise (fun a b=>a.1≠b.1)):m.Pairwise (fun a b=>a.1≠b.1):=
 (List.Perm.pairwise_iff (fun h e=>h e.symm) h).1 hl
open Classical in
theorem zB6 {ks:List Nat}{e:List (AV×AV)}(hd:e.Pairwise (fun a b=>a.1≠b.1)): ∀(n:Nat) (l:List (AV×AV)),l.length=n->(∀x∈l,xO ks x.1=true)->l.Pairwise (fun a b=>a.1≠b.1)->
  (U5 e l).Perm (l++e.filter (fun y=>decide (∀x∈l,y.1≠x.1)))/\(U5 e l).Pairwise (fun a b=>a.1≠b.1):=by
 intro n
 induction n with
 | zero=>
  intro l hl hk hp;have:l=[]:=zW hl;subst this;refine⟨?_,hd⟩;rw[List.filter_eq_self.2 (fun y _=>by simp)];simp[U5]
 | succ n ih=>
  intro l hl hk hp;rcases List.eq_nil_or_concat l with rfl | ⟨l,x,rfl⟩
  .simp at hl
  .simp only[List.concat_eq_append]at hl hk hp⊢;rw[j5]at hp;obtain⟨i1,i2⟩:=ih l (by simp at hl;omega) (fun y hy=>hk y (by simp[hy])) hp.1;have h1:=zK1 (hk x (by simp)) i2;rw[WA];have h2:(U5 e l).filter (fun y=>decide (y.1≠x.1)) |>.Perm ((l++e.filter (fun y=>decide (∀z∈l,y.1≠z.1))).filter (fun y=>decide (y.1≠x.1))):=i1.filter _;have h3:(l++e.filter (fun y=>decide (∀z∈l,y.1≠z.1))).filter (fun y=>decide (y.1≠x.1))=l++e.filter (fun y=>decide (∀z∈l++[x],y.1≠z.1)):=by
    rw[jH,List.filter_filter];congr 1
    .exact List.filter_eq_self.2 fun y hy=>by simpa using hp.2.2 y hy x (by simp)
    .apply List.filter_congr;intro y _;rw[yI];simp only[zE,zR,qA,qS];constructor
     .rintro⟨h1,h2⟩ z (hz | rfl)
      .exact h2 z hz
      .exact h1
     .intro h;exact⟨h x (.inr rfl),fun z hz=>h z (.inl hz)⟩
   have h4:(ups (U5 e l) x).Perm ((l++[x])++e.filter (fun y=>decide (∀z∈l++[x],y.1≠z.1))):=by
    refine h1.trans ?_;refine((h2.trans (List.Perm.of_eq h3)).cons x).trans ?_;rw[zZ];exact List.perm_middle.symm
   refine⟨h4, ?_⟩;refine zAn h1.symm ?_;rw[qV];refine⟨fun y hy=> ?_,List.Pairwise.filter _ i2⟩;have:=(List.mem_filter.1 hy).2;simp only[ne_eq,zR]at this;exact fun h=>this h.symm
open Classical in
theorem zGs {ks:List Nat}{e l m:List (AV×AV)}(hd:e.Pairwise (fun a b=>a.1≠b.1))(hk: ∀x∈l,xO ks x.1=true)(hl:l.Pairwise (fun a b=>a.1≠b.1))(h:l.Perm m):(U5 e l).Perm (U5 e m):=by
 obtain⟨h1,_⟩:=zB6 hd _ l rfl hk hl;obtain⟨h2,_⟩:=zB6 (ks:=ks) hd _ m rfl (fun x hx=>hk x (h.symm.subset hx)) (zAn h hl);refine h1.trans (List.Perm.trans ?_ h2.symm);have:e.filter (fun y=>decide (∀x∈l,y.1≠x.1))=e.filter (fun y=>decide (∀x∈m,y.1≠x.1)):=by
  apply List.filter_congr;intro y _;congr 1;apply propext;exact⟨fun a x hx=>a x (h.symm.subset hx),fun a x hx=>a x (h.subset hx)⟩
 rw[this];exact h.append_right _
theorem MR.perm {es':List (AV×AV)}{l:List MapEntry}(h:MR E Q l)(hp:Q.Perm es'):MR E es' l:=by
 obtain⟨ps,C,t,u⟩:=h.pairs;subst C;have key: ∀ {a b:List (AV×AV)},a.Perm b-> ∀ps:List ((AV×AV)×MapEntry),ps.map (·.1)=a-> ∃f:List ((AV×AV)×MapEntry),f.map (·.1)=b/\f.Perm ps:=by
  intro a b z
  induction z with
  | nil=>intro ps h;exact⟨ps,h, .refl _⟩
  | cons x _ ih=>
   intro ps h
   cases ps with
   | nil=>simp at h
   | cons p ps=>
    simp only[yJ,y8]at h;obtain⟨f,m,j⟩:=ih ps h.2;exact⟨p::f,by simp[m,h.1],j.cons p⟩
  | swap x y l=>
   intro ps h
   match ps,h with
   | p::q::ps,h=>
    simp only[yJ,y8]at h;exact⟨q::p::ps,by simp[h.1,h.2.1,h.2.2],List.Perm.swap ..⟩
  | trans _ _ ih1 ih2=>
   intro ps h;obtain⟨f,m,j⟩:=ih1 ps h;obtain⟨rs,b1,b2⟩:=ih2 f m;exact⟨rs,b1,b2.trans j⟩
 obtain⟨f,m,j⟩:=key hp ps rfl;refine⟨f.map (·.2),(j.map _).trans t, ?_⟩;subst m;have o: ∀p∈f,VR E p.1.1 p.2.key/\VR E p.1.2 p.2.val:=fun p hp=>u p (j.subset hp)
 clear j u t hp key h
 induction f with
 | nil=>simp[VRL]
 | cons q f ih=>
  obtain⟨J,K⟩:=ih (fun p hp=>o p (zC _ hp));obtain⟨N,O⟩:=o q (zJ ..);exact⟨⟨_,_,rfl,N,J⟩,⟨_,_,rfl,O,K⟩⟩
theorem zNP {o:AObj}(h:fX A H o=some M): ∃t,T.set 40 A.h H o=some t/\M=⟨t,A.next⟩:=by
 unfold fX at h;split at h
 .rename_i t a;injection h with h
  exact⟨t,a,h.symm⟩
 .simp at h
def zP4 (q:ML)(B:Tb)(D:Dyn)(n nt:Nat)(hb:Hint)(L:List Nat)(vs:List AV)(H:AH)(ks:List Nat)(nb:Nat)(ok:AV->Bool)(M A:Nat):Prop:=
 ∀k v a j,ok v=true->(∀C,C<H.next->C≠M->C≠A->a.h.get C=H.h.get C)->a.h.get A=some (.map ks j)->xO ks k=true->H.next<a.next->(∀C,a.next<=C->C<a.next+nb->a.h.get C=none)->True->A<H.next->
  ∃f,q.roundK B D n nt hb L H.next vs k v a=some (.norm (.ptr H.next 0::vs),f)/\f.next=a.next+nb/\f.h.get A=some (.map ks (ups j (k,v)))/\ ∀C,C≠A->(C<a.next\/a.next+nb<=C)->f.h.get C=a.h.get C
theorem zNc {q:ML}{B:Tb}{D:Dyn}{n nt:Nat}{hb:Hint}{L:List Nat}{vs:List AV}{H H':AH}{kk:List Nat}{nb:Nat}{ok:AV->Bool}{M A:Nat}(h:zNf kk nb ok (.map M) (.map A) H=some H')(b4:q.preK B D nt L vs H=some (.norm (.map M::vs),H))
  (b7:zP4 q B D n nt hb L vs H kk nb ok M A) (d2:M<H.next) (b8:A<H.next) (b9: ∀Y w0,Rel Y H w0->(∀v∈vs,∃z,VR Y v z)-> ∃b d c,Y A b d c):Nonempty (q.Plan B D n nt hb L vs H H'):=by
 unfold zNf at h;simp only at h;split at h
 .rename_i ks es hM;split at h
  .rename_i d3 es' hA;rw[zF]at h;split at h
   .rename_i hc;simp only[zE,yU,yE]at hc;obtain⟨⟨⟨a2,a3⟩,J⟩,a9⟩:=hc;have a2:=ZT _ _ a2;subst a2;have a3:=ZT _ _ a3;subst a3;have J:M≠A:=fun e=>by rw[e]at J;simp at J
    rw[kF,zF]at h;split at h
    .rename_i c5;have a1:=zEI c5;split at h
     .rename_i H1 b5;injection h with h
      obtain⟨t1,c6,rfl⟩:=zNP b5;have c7:=T.get_set _ _ _ _ _ c6;have b1:H'.next=H.next+1+nb*es.length:=by rw[<-h]
      have a4: ∀C,H'.h.get C=if C=A then some (.map kk (U5 es' es))else H.h.get C:=by rw[<-h];exact c7
      refine⟨{ M:=M,ks:=kk,es:=es,inv:=fun j m=>m.next=H.next+1+nb*j.length/\m.h.get A=some (.map kk (U5 es' j))/\(∀C,C<H.next->C≠M->C≠A->m.h.get C=H.h.get C)/\ ∀C,m.next<=C->m.h.get C=H.h.get C,pre:=b4,room:=trivial,map:=hM,start:= ?_,step:= ?_,raw:= ?_,fin:= ?_}⟩
      .intro x y s1 s2 a5 a6;have p:=T.get_set _ _ _ _ _ a5;have K:=T.get_set _ _ _ _ _ a6;refine⟨by simp, ?_,fun C f N Z=> ?_,fun C f=> ?_⟩
       .simp only[K,p];rw[if_neg (by omega),if_neg (Ne.symm J)];exact hA
       .simp only[K,p];rw[if_neg (by omega),if_neg N]
       .simp only at f;simp only[K,p];rw[if_neg (by omega),if_neg (by omega)]
      .intro j k v rest m ⟨u,i2,O,S⟩ t;have a0:j.length+1+rest.length=es.length:=by have:=t.length_eq;simp at this;omega
       have b6:nb*(j.length+1)<=nb*es.length:=Nat.mul_le_mul_left _ (by omega);rw[Nat.mul_add,Nat.mul_one]at b6;obtain⟨H3,r1,r2,r3,r4⟩:=b7 k v m (U5 es' j) (a9 (k,v) (t.subset (by simp))).2 O i2 (a9 (k,v) (t.subset (by simp))).1 (by omega) (fun C f N=>by rw[S C f];exact a1 C (by omega) (by omega)) trivial b8;refine⟨H3,r1,r4 _ (by omega) (.inl (by omega)),r4 _ J (.inl (by omega)), ?_, ?_,fun C f N Z=> ?_,fun C f=> ?_⟩
       .rw[r2,u,zV,yR,Nat.mul_add,Nat.mul_one];omega
       .rw[r3,WA]
       .rw[r4 C Z (.inl (by omega))];exact O C f N Z
       .rw[r4 C (by omega) (.inr (by omega))];exact S C (by omega)
      .intro j m y t' ⟨u,i2,O,S⟩ hs;have p:=T.get_set _ _ _ _ _ hs;refine⟨u, ?_,fun C f N Z=> ?_,fun C f=> ?_⟩
       .simp only[p];rw[if_neg (by omega)];exact i2
       .simp only[p];rw[if_neg (by omega)];exact O C f N Z
       .simp only at f;simp only[p];rw[if_neg (by omega)];exact S C f
      .intro j m d4 t2 ⟨u,i2,O,S⟩ t a5 a6 Y w0 R w a7 c8 a8 d1 hR;have p:=T.get_set _ _ _ _ _ a5;have K:=T.get_set _ _ _ _ _ a6;have a0:j.length=es.length:=t.length_eq;obtain⟨bA,dA,cA,b2⟩:=b9 Y w0 a7 c8;obtain⟨bM,dM,cM,a8⟩:=a8;have e0: ∀C,C≠A-> ∀o,H'.h.get C=some o->t2.get C=some o:=by
        intro C hC o a;rw[a4,if_neg hC]at a;rw[K,p];by_cases c1:C=H.next
        .subst c1;rw[a1 _ (zM _) (by omega)]at a;simp at a
        .rw[if_neg c1];by_cases c2:C=M
         .subst c2;rw[if_pos rfl];rw[hM]at a;exact a
         .rw[if_neg c2];by_cases c3:C<H.next
          .rw[O C c3 c2 hC];exact a
          .by_cases c4:C<H.next+(1+nb*es.length)
           .rw[a1 C (by omega) c4]at a;simp at a
           .rw[S C (by rw[u,a0];omega)];exact a
       have eA:t2.get A=some (.map kk (U5 es' j)):=by
        rw[K,p,if_neg (by omega),if_neg (Ne.symm J)];exact i2
       have b0: ∀C,JZ H' C->JZ ⟨t2,m.next⟩ C:=by
        intro C ⟨o,a,hd⟩;by_cases c:C=A
        .subst c;exact⟨_,eA,trivial⟩
        .exact⟨o,e0 C c o a,hd⟩
       refine⟨⟨hR.fn,fun A1 A2 b d c d' c' r r' l l'=>hR.inj _ _ _ _ _ _ _ r r' (b0 _ l) (b0 _ l'),fun C b d c o r a=> ?_,fun C b d c r=>⟨(hR.lt _ _ _ _ r).1,by have:=(hR.lt _ _ _ _ r).2;simp only at this;rw[b1];rw[u,a0]at this;exact this⟩⟩,by rw[b1,u,a0],fun C hC hn=> ?_⟩
       .by_cases c0:C=A
        .subst c0;rw[a4,if_pos rfl]at a;injection a with a;subst a
         obtain⟨arr,b3,o1,o2,o3,o4,o5⟩:=hR.obj _ _ _ _ _ r eA;obtain⟨_,_,_,_,_,c9,_⟩:=a7.obj _ _ _ _ _ b2 hA;obtain⟨_,_,_,_,kM,d0,_⟩:=a7.obj _ _ _ _ _ a8 hM;have hp:=zGs (ks:=kk) c9 (fun x hx=>kM x (t.subset hx)) (zAn t.symm d0) t;exact⟨arr,b3,o1,o2.perm hp,fun e he=>o3 e (hp.symm.subset he),zAn hp o4,o5⟩
        .exact hR.obj _ _ _ _ _ r (e0 C c0 o a)
       .rw[a4,if_neg (fun e=>by subst e;exact hn _ _ _ b2)]
     .simp at h
    .simp at h
   .simp at h
  .simp at h
 .simp at h
def zNp:List Nat->Code->Code
 | [],c=>c
 | 0::p, .seq a _=>zNp p a
 | _::p, .seq _ b=>zNp p b
 | 0::p, .cond _ a _=>zNp p a
 | _::p, .cond _ _ b=>zNp p b
 | _::p, .block _ b=>zNp p b
 | _::p, .loop b=>zNp p b
 | _,c=>c
def zR1 (a:Func)(p:List Nat):Code:=match a.body with
 | some b=>zNp p b
 | none=> .skip
def zQo {α:Type} :List α->List α
 | []=>[]
 | [_]=>[]
 | a::l=>a::zQo l
def zQb {α:Type}(d:α):List α->α
 | []=>d
 | [a]=>a
 | _::l=>zQb d l
def op0:Oper:=⟨none, .alloc 0,0,"", #[],none⟩
def ml0:ML:=⟨0,0,0,[],op0,op0,op0,op0,[],0,0, .skip,0, .tmp 0,0,0,0,0⟩
def zHk:Op->TypeId×Operand
 | .range t x=>(t,x)
 | _=>(0, .tmp 0)
def mlOf:Code->ML
 | .seq (.region rA opsA _) (.block id (.loop (.seq (.region rB opsB _) (.seq (.cond (.tmp ok) .skip (.exit _)) (.block id2 (.seq (.region rC opsC _) body))))))=>
  match opsB.toList,opsC.toList with
  | [oN,oX],oE::rest=>
   let a:=zQb op0 opsA.toList
   ⟨rA,rB,rC,zQo opsA.toList,a,oN,oX,oE,rest,id,id2,body,(zHk a.op).1,(zHk a.op).2,a.dst.getD 0,oN.dst.getD 0,ok,oE.dst.getD 0⟩
  | _,_=>ml0
 | _=>ml0
def aX:Code->Hint->List (Code×List Nat×(List AV->AH->Option AH))
 | .seq a b, .t L m=>[(.seq a b,L,m)]
 | .seq a b, .s ha hb=>aX a ha++aX b hb
 | .cond _ a b, .c _ ha hb=>aX a ha++aX b hb
 | .cond _ a b, .cl ha hb=>aX a ha++aX b hb
 | .cond _ a b, .cr ha hb=>aX a ha++aX b hb
 | .block _ b, .b _ hb=>aX b hb
 | .block _ b, .b0 hb=>aX b hb
 | .loop b, .l _ hb=>aX b hb
 | _,_=>[]
def zCY:Hint->Bool
 | .o=>true
 | .s a b=>zCY a&&zCY b
 | .c _ a b=>zCY a&&zCY b
 | .cl a b=>zCY a&&zCY b
 | .cr a b=>zCY a&&zCY b
 | .b _ a=>zCY a
 | .b0 a=>zCY a
 | .l _ a=>zCY a
 | .rf _ _=>false
 | .t _ _=>true
theorem zNZ (f0:FuncId)(nt:Nat): ∀(c:Code) (h:Hint),zCY h=true->(∀x∈aX c h,VJ g nt f0 x.1 x.2.1 x.2.2)->kS g f0 nt c h:=by
 intro c
 induction c with
 | seq a b iha ihb=>
  intro h m j
  cases h<;>simp only[kS]
  .simp only[zCY,zE]at m;simp only[aX,qA]at j;exact⟨iha _ m.1 (fun x o=>j x (.inl o)),ihb _ m.2 (fun x o=>j x (.inr o))⟩
  .exact j (.seq a b,_,_) (by simp[aX])
 | cond c a b iha ihb=>
  intro h m j
  cases h<;>simp only[kS]<;>
   (simp only[zCY,zE]at m
    simp only[aX,qA]at j;exact⟨iha _ m.1 (fun x o=>j x (.inl o)),ihb _ m.2 (fun x o=>j x (.inr o))⟩)
 | block id b ih=>
  intro h m j
  cases h<;>simp only[kS]<;>first | exact ih _ m j | trivial
 | loop b ih=>
  intro h m j
  cases h<;>simp only[kS]
  exact ih _ m j
 | rangeFunc f ps a b _ _=>intro h m j;cases h<;>simp_all [kS,zCY]
 | _=>intro h m j;simp[kS]
def zE0 (a:Func)(h:Hint):List (Code×List Nat×(List AV->AH->Option AH)):=match a.body with
 | some b=>aX b h
 | none=>[]
theorem zH3 (j:zCY L=true)(f: ∀x∈zE0 m L,VJ PP m.ntmps q x.1 x.2.1 x.2.2): ∀body,m.body=some body->kS PP q m.ntmps body L:=by
 intro body hb;refine zNZ _ _ _ _ j (fun x o=>f x ?_);unfold zE0;rw[hb];exact o
def zNb {X:Cx}(hX:Ok PP X){f0:ML}(p:f0.Fits H)(f: ∀L∈f0.it::l,L≠f0.nx/\L≠f0.ok/\L≠f0.en)(h: ∀L∈l,L≠f0.it){hb:Hint}(a:VU hb=true){kt vt:TypeId}(m:X.und f0.t=some (.map kt vt))
  (o: ∀vs nt H',j vs nt=some H'->Nonempty (f0.Plan ⟨X,[]⟩ VY 0 H hb l vs nt H')):VJ PP H q f0.code l j:=
 zFP (B:=⟨X,[]⟩) (D:=VY) hX (zAE zAM SOk.nil) p f h (zAs _ _ _ _ a) m o
theorem zHU (o:AObj)(h:A.h.get A.next=none): ∃t,T.set 40 A.h A.next o=some t/\ ∀K,VN A o K=K A.next ⟨t,A.next+1⟩:=by
 obtain⟨t,a⟩:=qQ.1 (T.set_some 40 A.h A.next o)
 exact⟨t,a,fun K=>by simp only[VN,h,a,kF]⟩
theorem zKV (h:ld1 (.ptr H p) A=some s): ∃l e sz g,A.h.get H=some (.cells l e sz g)/\nth l p=some s:=by
 unfold ld1 at h;simp only at h;split at h
 .rename_i l e sz g a;exact⟨l,e,sz,g,a,h⟩
 .simp at h
theorem zQa {l:List AV}{e:TypeId}{sz:Nat}{g:Bool}(a:A.h.get H=some (.cells l e sz g))(h:nth l p=some s):ld1 (.ptr H p) A=some s:=by
 simp only[ld1,a,h]
theorem zL0 (hR:Rel E A t)(hr:E H p C f){sz:Nat}(R:A.h.get H=some (.cells i Y sz V)){o M:Nat}(a:nth i o=some (.map M)): ∃p C f,E M p C f:=by
 obtain⟨_,_,_,l',_,_,_,_,hl,_⟩:=hR.obj _ _ _ _ _ hr R;rw[QN]at a;obtain⟨v,_,j⟩:=VRL.get _ _ hl _ _ a;obtain⟨p,C,f,h,_⟩:=j;exact⟨p,C,f,h⟩
theorem zGt {ok:AV->Bool}(h:zNf l H ok (.map p) (.map C) A=some M):(∃ks es,A.h.get p=some (.map ks es))/\ ∃ks es,A.h.get C=some (.map ks es):=by
 unfold zNf at h;simp only at h;split at h
 .rename_i a;split at h
  .rename_i f;exact⟨⟨_,_,a⟩,_,_,f⟩
  .simp at h
 .simp at h
theorem zNe {v:AV}{H:AH}(m:xO l s=true)(o:H.h.get p=some (.map l Q)): ∃t,T.set 40 H.h p (.map l (ups Q (s,v)))=some t/\upM l (.map p) s v H=some (jQ,⟨t,H.next⟩):=by
 obtain⟨t,f⟩:=qQ.1 (T.set_some 40 H.h p (.map l (ups Q (s,v))));refine⟨t,f, ?_⟩;have q:Y4 l l=true:=by
  clear f o m
  induction l with
  | nil=>rfl
  | cons a ks ih=>simp[Y4,ih]
 simp only[upM,m,o,q,zP];unfold ups at f;simp only at f
 cases A:K1 s v Q with
 | some r=>rw[A]at f;simp only[fX,f]
 | none=>rw[A]at f;simp only[fX,f]
def isAg (n:Nat)(v:AV):Bool:=match v with
 | .agg l=>Nat.beq (Z9 l 0) n&&jP l
 | _=>false
theorem zI9 (h:isAg H s=true): ∃l,s= .agg l/\l.length=H/\jP l=true:=by
 unfold isAg at h;split at h
 .rename_i l;simp only[zE,zX,jY]at h;exact⟨l,rfl,h.1,h.2⟩
 .simp at h
theorem zBb: ∀(l:List AV),takeN l.length l=some l
 | []=>rfl
 | a::l=>by simp[takeN,zBb l]
theorem zH7 {c:List AV}(h:c.length=i.length):setAt c 0 i=some i:=by
 have: ∀(c i:List AV),c.length=i.length->over c i=some i:=by
  intro c
  induction c with
  | nil=>intro i h;cases i with
   | nil=>rfl
   | cons=>simp at h
  | cons a c ih=>intro i h;cases i with
   | nil=>simp at h
   | cons b i=>simp only[zT,Nat.add_right_cancel_iff]at h;simp[over,ih i h]
 cases c with
 | nil=>cases i with
  | nil=>rfl
  | cons=>simp at h
 | cons a c=>simpa[setAt]using this (a::c) i h
theorem zNu {n A:Nat}{H:AH}{cs:List AV}(f:H.h.get A=some (.cells i Y p V))(hl:i.length=n)(j:cs.length=n)(m:jP cs=true)(o:Nat.blt 0 p=true): ∃t,T.set 40 H.h A (.cells cs Y p V)=some t/\stN n (.ptr A 0) (.agg cs) H=some (jQ,⟨t,H.next⟩):=by
 obtain⟨t,a⟩:=qQ.1 (T.set_some 40 H.h A (.cells cs Y p V));refine⟨t,a, ?_⟩;have hb:(cs.length.beq n)=true:=by rw[zX];exact j
 simp only[stN,f,jU,jY,hb,m,o,Bool.and_true,zP,zH7 (show i.length=cs.length by omega),fX,a]
theorem zO8 (f:A.h.get p=some (.cells i Y C V))(j:i.length=H):ldN H (.ptr p 0) A=some (.agg i):=by
 subst j;have:bC i 0 i.length=some i:=by
  cases i with
  | nil=>rfl
  | cons a l=>simpa[bC]using zBb (a::l)
 simp only[ldN,f,this]
end Go.Eng
namespace Go.Proofs
open Go.Shelf
def Tryz.laysInsert_ren:Go.Shelf.Ren:=⟨fun | 22=>138 | 29=>187 | 30=>188 | 36=>219 | 17=>229 | n=>n,fun | 24=>117 | 9=>9 | 3=>3 | 4=>4 | 0=>0 | n=>n,fun | n=>n⟩
def Tryz.laysInsert:Go.Proofs.Lays2.n22 Tryz.prog Tryz.laysInsert_ren:= {
 mixed:=by kernel_rfl
 f17:=Tryz.func229.trans (congrArg some (by kernel_rfl))
 f22:=Tryz.func138.trans (congrArg some (by kernel_rfl))
 f29:=Tryz.func187.trans (congrArg some (by kernel_rfl))
 f30:=Tryz.func188.trans (congrArg some (by kernel_rfl))
 f36:=Tryz.func219.trans (congrArg some (by kernel_rfl))
 t0:=Tryz.underlying0
 a0:=Tryz.isAgg0
 z0:=Tryz.sizeOf0
 v0:=Tryz.zeroValue0
 t3:=Tryz.underlying3
 a3:=Tryz.isAgg3
 z3:=Tryz.sizeOf3
 v3:=Tryz.zeroValue3
 t4:=Tryz.underlying4
 a4:=Tryz.isAgg4
 z4:=Tryz.sizeOf4
 v4:=Tryz.zeroValue4
 t9:=Tryz.underlying9
 a9:=Tryz.isAgg9
 z9:=Tryz.sizeOf9
 v9:=Tryz.zeroValue9
 t24:=Tryz.underlying117
 a24:=Tryz.isAgg117
 z24:=Tryz.sizeOf117
 v24:=Tryz.zeroValue117
 i9:=by kernel_rfl}
end Go.Proofs
namespace Go.Eng
open Go.Proofs
noncomputable def zPj (e:Nat)(vs:List AV)(H:AH):Option (AV×AH):=
 match vs with
 | [.slice A off len cc, .int .i64 (.ofNat i), .slice B o2 m _]=>
  match H.h.get A,H.h.get B with
  | some (.cells l e' sz g),some (.cells lB _ sB gB)=>
   bif g&&(!gB&&Nat.blt 0 sB)&&Nat.beq off 0&&Nat.beq cc 1&&Nat.beq sz 1&&Nat.beq e' e&&Nat.blt i len&&Nat.blt 0 m&&Nat.beq (Z9 l 0) len&&Nat.ble ((len+m)*16) 140737488355328&&jP l then
    match bC lB o2 m with
    | some new=>bif jP new then
      match fX H A .dead with
      | some H1=>Z4 (len+m) e 1 (l.take i++new++l.drop i) H1
      | none=>none
     else none
    | none=>none
   else none
  | _,_=>none
 | _=>none
theorem vO (b:Nat)(e:TypeId)(a:Nat×Nat): ∀(vs:List Value) (o:Nat) (w:World) (arr:Array Value),w.heap[b]? =some (.cells arr e a)->w.setCells b o vs=vX w b (.cells (wZ arr o vs) e a)
 | [],o,w,arr,h=>by simp only[World.setCells,wZ];exact(KX w b _ h).symm
 | v::vs,o,w,arr,h=>by
  have hb:b<w.heap.size:=(Array.getElem?_eq_some_iff.1 h).1;have p:w.setCell ⟨b,o,none⟩ v=vX w b (.cells (arr.setIfInBounds o v) e a):=by
   have q:w.heap[b]= .cells arr e a:=by
    have:=(Array.getElem?_eq_some_iff.1 h).2;exact this
   unfold World.setCell vX;congr 1;apply Array.ext
   .simp
   .intro j f t;simp only[Array.size_modify]at f;rw[Array.getElem_modify,Array.getElem_setIfInBounds]
    .by_cases m:b=j
     .subst m;simp[q]
     .simp[m]
    .exact f
  rw[World.setCells,p,vO b e a vs (o+1) _ (arr.setIfInBounds o v) (bH _ _ _ hb),QE];rfl
theorem zFv (w:World)(o x:Obj):vX (w.alloc o) w.heap.size x=w.alloc x:=by
 unfold vX World.alloc;congr 1;apply Array.ext
 .simp
 .intro j f h;simp at f h;rw[Array.getElem_setIfInBounds]
  .by_cases a:w.heap.size=j
   .subst a;simp
   .have:j<w.heap.size:=by omega
    simp only[if_neg a];rw[Array.getElem_push,Array.getElem_push,dif_pos this,dif_pos this]
  .simp;omega
theorem UM (h:zQ0 c):c.oneCell'=true:=by cases c<;>simp_all [zQ0,Value.oneCell']
theorem zPP {α:Type}{pre l a vs:List α}(hd:pre.length=H)(j:l.length=f)(hi:p<=f)(o:vs.length=C)(d:C<=a.length):
  ((pre++(l++a)).take (H+(p+C))++l.drop p++(pre++(l++a)).drop (H+(p+C)+(l.drop p).length)).take (H+p)++vs++((pre++(l++a)).take (H+(p+C))++l.drop p++(pre++(l++a)).drop (H+(p+C)+(l.drop p).length)).drop (H+p+vs.length)=pre++((l.take p++vs++l.drop p)++a.drop C):=by
 have q:((pre++(l++a)).take (H+(p+C))).length=H+p+C:=by simp;omega
 have i:((pre++(l++a)).take (H+(p+C))++l.drop p++(pre++(l++a)).drop (H+(p+C)+(l.drop p).length)).take (H+p)=pre++l.take p:=by
  rw[zZ,List.take_append_of_le_length (by omega),List.take_take,Nat.min_eq_left (by omega),List.take_append,zY (by omega),List.take_append,show H+p - pre.length=p from by omega,show p - l.length=0 from by omega];simp
 have h:((pre++(l++a)).take (H+(p+C))++l.drop p++(pre++(l++a)).drop (H+(p+C)+(l.drop p).length)).drop (H+p+vs.length)=l.drop p++a.drop C:=by
  rw[zZ,yX (by omega)];congr 1;rw[qL,List.drop_append,qO (by omega),List.drop_append,qO (by omega),show H+(p+C)+(l.length - p) - pre.length - l.length=C from by omega];simp
 rw[i,h];simp
theorem growL {α:Type}{a f h vs r:List α}(j:a.length=H)(u:f.length=p+C)(x:vs.length=p)(hr:r.length=C):
  ((a++f++h).take H++vs++(a++f++h).drop (H+vs.length)).take (H+p)++r++((a++f++h).take H++vs++(a++f++h).drop (H+vs.length)).drop (H+p+r.length)=(a++vs++r)++h:=by
 have o:(a++f++h).take H=a:=by rw[zZ,jA j]
 have i:(a++f++h).drop (H+vs.length)=f.drop p++h:=by
  rw[zZ,List.drop_append,qO (by omega),List.drop_append,show H+vs.length - a.length=p from by omega,show p - f.length=0 from by omega];simp
 rw[o,i];have q:(a++vs++(f.drop p++h)).take (H+p)=a++vs:=jA (by simp;omega);have t:(a++vs++(f.drop p++h)).drop (H+p+r.length)=h:=by
  rw[<-zZ,yX (by simp;omega)]
 rw[q,t]
theorem zOd {R:Ren}{H H':AH}{w:World}{args:List AV}{az:List Value}{v:AV}(h:zPj (Tryz.laysInsert_ren.t 9) args H=some (v,H'))(o:VRL R args az)(hL:Rel R H w):
  H.next<=H'.next/\ ∃(z:Value) (w':World) (R':Ren),Calls PP (Tryz.laysInsert_ren.f 22) ⟨az⟩ w (fun e w1=>e= .returned z/\w1=w')/\VR R' v z/\Rel R' H' w'/\Ext R H w R' H' w':=by
 unfold zPj at h;split at h
 .rename_i A off len cc i B p m c2;split at h
  .rename_i l e' sz g lB eB f8 gB N O;rw[zF]at h;split at h
   .rename_i hc;simp only[zE,zX,qE,qW,yU]at hc;obtain⟨⟨⟨⟨⟨⟨⟨⟨⟨⟨rfl,rfl,e4⟩,rfl⟩,rfl⟩,rfl⟩,rfl⟩,hi⟩,hm⟩,e5⟩,d6⟩,e6⟩:=hc;rw[jY]at e5;split at h
    .rename_i new d7;rw[zF]at h;split at h
     .rename_i e7;split at h
      .rename_i H1 x;obtain⟨t1,u,rfl⟩: ∃t1,T.set 40 H.h A .dead=some t1/\H1=⟨t1,H.next⟩:=by
        unfold fX at x;split at x
        .rename_i t1 u;simp only[zB]at x;exact⟨t1,u,x.symm⟩
        .simp at x
       unfold Z4 at h;split at h
       .rename_i A2 H2 e8;obtain⟨t2,J,rfl,rfl,_⟩:=fY e8;simp only[kF,zB,zU]at h;obtain⟨rfl,rfl⟩:=h;refine⟨Nat.le_succ _, ?_⟩;obtain⟨v1,f9,rfl,e9,o⟩:=o;obtain⟨v2,g0,rfl,c3,o⟩:=o;obtain⟨v3,g1,rfl,f1,o⟩:=o;simp only[VRL]at o;subst o;obtain⟨b,d,c,hR,rfl⟩:=e9;simp only[VR]at c3;subst c3;obtain⟨b2,S,c4,c5,rfl⟩:=f1;obtain⟨arr,y,pre,l',b8,C,a2,a3,Y,a5,a6,a7,sp,a8⟩:=hL.cellsAt N hR;obtain⟨d8,g2,d9,c6,f7,b1,f2,b3,b4,b5,b6,b7,_⟩:=hL.cellsAt O c5;obtain⟨rfl,g3⟩:=cD _ _ _ _ d7;obtain⟨a6,e0⟩:=a6 rfl;obtain⟨rfl,e2⟩:=b5 rfl;obtain rfl:=e2.1 e4;have b9:bB 1 c=c:=by rw[xQ c (by omega)];simp
        rw[b9];have f3:b2≠b:=fun e=>by
         subst e;have:=hL.inj _ _ _ _ _ _ _ hR c5 (Rel.live N) (Rel.live O);subst this;rw[N]at O;simp at O
        have g4:=zRj _ _ Y;have g5:=zRj _ _ b4;have Z:VRL R ((lB.drop p).take m) ((c6.drop p).take m):=(b4.drop p).take m;generalize c0:(c6.drop p).take m=vs' at Z;have K:vs'.length=m:=by rw[<-c0];simp;omega
        have g6:arr.size=d+l'.length+b8.length:=by
         have:=congrArg List.length a2;simp at this;omega
        have c1: ∀j v,l'[j]? =some v->w.cell? ⟨b,d+0+j,none⟩=some v:=fun j v a=>by
         simp only[World.cell?,C];have c7:=(qR.1 a).1;rw[<-yS,a2,jB (by omega),show d+0+j - pre.length=j from by omega,yY c7];simpa using a
        have c8: ∀j v,vs'[j]? =some v->w.cell? ⟨b2,S+p+j,none⟩=some v:=fun j v a=>by
         simp only[World.cell?,b1];have c7:=(qR.1 a).1;rw[<-c0,List.getElem?_take,jG]at a;rw[<-yS,f2,jB (by omega),show S+p+j - d9.length=p+j from by omega,yB];split at a
         .simpa using a
         .simp at a
        have c9: ∀v∈l',v.oneCell'=true:=fun v o=>UM (gI Y e6 v o)
        have d0: ∀v∈vs',v.oneCell'=true:=fun v o=>UM (gI Z e7 v o)
        have b0:VRL R (l.take i++(lB.drop p).take m++l.drop i) (l'.take i++vs'++l'.drop i):=((Y.take i).append Z).append (Y.drop i);by_cases d5:len+m<=c
        .have q:=Any2.slices_Insert_string_shift Tryz.laysInsert b (d+0) len c i b2 (S+p) m (bB c2 c4) l' vs' w hi hm d5 (by omega) f3 (by omega) K c1
          (fun j a=>by
           simp only[World.cell?,C];simp;omega)
          (fun j a=>by
           have:=a7 (by decide) (d+0+j) (by omega);simp only[World.frozen?,C];simp only[Bool.and_eq_false_iff,yO];by_cases h0:y.1<=d+0+j
           .exact .inr fun h1=>this ⟨h0,h1⟩
           .exact .inl h0)
          c8 c9 d0 eB (Tryz.laysInsert_ren.t 9) d8.size arr.size (by simp only[World.shape?,b1]) (by simp only[World.shape?,C]) (by omega) (by simp only[World.frozen?,b1];simp) (by simp only[World.frozen?,b1];simp)
         have a9:(w.drew).heap[b]? =some (.cells arr (Tryz.laysInsert_ren.t 9) y):=C;have a0:b<w.heap.size:=(hL.lt _ _ _ _ hR).1;rw[vO b _ y _ _ _ _ a9,vO b _ y _ _ _ _ (bH w.drew _ _ a0),QE]at q;refine⟨_,_,R.add H.next b d c,q,⟨b,d,c,R.add_self _ _ _ _,by simp[b9]⟩, ?_, ?_⟩
         .refine(hL.drew (w.drawn+1)).move hR (Rel.live N) u J ?_;refine⟨_,y,pre,l'.take i++vs'++l'.drop i,b8.drop m,rfl, ?_,a3,VRL.mono (R.sub_add _ _ _ _) _ _ b0,fun h=>by simp at h,fun _=>⟨?_,e0⟩,fun hz j a=> ?_,_,VRL.mono (R.sub_add _ _ _ _) _ _ (a8.drop m)⟩
          .rw[xE _ _ _ (by rw[uD];omega),xE _ _ _ (by simp;omega),a2,Nat.add_zero];exact zPP a3 (by omega) (by omega) K (by omega)
          .simp;omega
          .rw[uD,uD]at a;exact a7 hz j a
         .exact(Ext.drew R H w (w.drawn+1)).trans (Ext.move (w:=w.drew) hR u J)
        .have q:=Any2.slices_Insert_string_grow Tryz.laysInsert b (d+0) len c i b2 (S+p) m (bB c2 c4) l' vs' w hi hm (by omega) (by omega) d6 (by omega) K c1 c8 c9 d0;generalize hG:grownCap w (len+m) c (Tryz.laysInsert_ren.t 9)=G at q;have g7:len+m<=G:=by rw[<-hG];simp only[grownCap,Question.cut];omega
         have f4:G<9223372036854775808:=by
          rw[<-hG];simp only[grownCap,Question.cut];have:=Nat.mod_lt (w.tape w.drawn (.appendCap (len+m) c (Tryz.laysInsert_ren.t 9))) (show 2 ^ 63 - (len+m)>0 by omega);omega
         generalize e3:((l'.take i).toArray++Builtin.zeroCells (Value.string ⟨#[]⟩).cells (len+m - i)++Builtin.zeroCells (Value.string ⟨#[]⟩).cells (G - (len+m)))=ROW at q;have d1:ROW.toList=l'.take i++(Builtin.zeroCells (Value.string ⟨#[]⟩).cells (len+m - i)).toList++(Builtin.zeroCells (Value.string ⟨#[]⟩).cells (G - (len+m))).toList:=by rw[<-e3];simp
         have d3:(Builtin.zeroCells (Value.string ⟨#[]⟩).cells (len+m - i)).toList.length=m+(len - i):=by
          rw[yW,uE];simp[Value.cells];omega
         have d4:(Builtin.zeroCells (Value.string ⟨#[]⟩).cells (G - (len+m))).toList.length=G - (len+m):=by
          rw[yW,uE];simp[Value.cells]
         have g8:ROW.size=G:=by
          have:=congrArg List.length d1;simp only[zV,d3,d4,qC,yW]at this;omega
         have a9:((w.alloc (.cells ROW (Tryz.laysInsert_ren.t 9))).drew).heap[w.heap.size]? =some (.cells ROW (Tryz.laysInsert_ren.t 9)):=bX w _;have a0:w.heap.size< ((w.alloc (.cells ROW (Tryz.laysInsert_ren.t 9))).drew).heap.size:=by
          have:=kV w (.cells ROW (Tryz.laysInsert_ren.t 9));show w.heap.size< (w.alloc (.cells ROW (Tryz.laysInsert_ren.t 9))).heap.size;omega
         rw[vO _ _ (0,0) _ _ _ _ a9]at q;have f5:((vX (w.alloc (.cells ROW (Tryz.laysInsert_ren.t 9))).drew w.heap.size (.cells (wZ ROW i vs') (Tryz.laysInsert_ren.t 9))).drew).heap[w.heap.size]? =some (.cells (wZ ROW i vs') (Tryz.laysInsert_ren.t 9)):=bH _ _ _ a0;rw[vO _ _ (0,0) _ _ _ _ f5]at q;have f6:vX ((vX (w.alloc (.cells ROW (Tryz.laysInsert_ren.t 9))).drew w.heap.size (.cells (wZ ROW i vs') (Tryz.laysInsert_ren.t 9))).drew) w.heap.size (.cells (wZ (wZ ROW i vs') (i+m) (l'.drop i)) (Tryz.laysInsert_ren.t 9))
           =(w.drew.drew).alloc (.cells (wZ (wZ ROW i vs') (i+m) (l'.drop i)) (Tryz.laysInsert_ren.t 9)):=by
          have e1:(vX (w.alloc (.cells ROW (Tryz.laysInsert_ren.t 9))).drew w.heap.size (.cells (wZ ROW i vs') (Tryz.laysInsert_ren.t 9))).drew=vX ((w.drew.drew).alloc (.cells ROW (Tryz.laysInsert_ren.t 9))) w.heap.size (.cells (wZ ROW i vs') (Tryz.laysInsert_ren.t 9)):=rfl;rw[e1,QE];exact zFv (w.drew.drew) _ _
         rw[f6]at q;refine⟨_,_,R.add H.next w.heap.size 0 G,q,⟨w.heap.size,0,G,R.add_self _ _ _ _,by rw[xQ G (by omega)];simp⟩, ?_, ?_⟩
         .have hk:Rel R ⟨t1,H.next⟩ w.drew.drew:=(hL.kill u).drew _
          refine hk.new J ?_;refine⟨_,(0,0),[],l'.take i++vs'++l'.drop i,(Builtin.zeroCells (Value.string ⟨#[]⟩).cells (G - (len+m))).toList,rfl, ?_,rfl,VRL.mono (R.sub_add _ _ _ _) _ _ b0,fun h=>by simp at h,fun _=>⟨?_,f4⟩,fun _ j _=>by simp,_,dY (UN _ (.string ⟨#[]⟩) (.str 0 0) rfl) _⟩
          .rw[xE _ _ _ (by rw[uD];simp;omega),xE _ _ _ (by omega),d1,qX];exact growL (by simp;omega) d3 K (by simp;omega)
          .rw[d4];simp;omega
         .exact(Ext.kill hR u).trans ((Ext.drew R ⟨t1,H.next⟩ w (w.drawn+2)).trans (Ext.add (w:=w.drew.drew) J))
       .simp at h
      .simp at h
     .simp at h
    .simp at h
   .simp at h
  .simp at h
 .simp at h
noncomputable def zOf (m:List AV->AH->Option (AV×AH))(vs:List AV)(H:AH):Option (AV×AH):=match m vs H with
 | some r=>some r
 | none=>zPj (Tryz.laysInsert_ren.t 9) vs H
theorem zOe (f:q= Tryz.laysInsert_ren.f 22)(hm:FI q h):FI q (zOf h):=by
 intro az H v H' m;unfold zOf at m;split at m
 .rename_i r hr;injection m with m;subst m
  exact hm az H v H' hr
 .have j:H.next<=H'.next:=by
   unfold zPj at m;split at m
   .split at m
    .rw[zF]at m;split at m
     .split at m
      .rw[zF]at m;split at m
       .split at m
        .rename_i t a;have Z:=xG a;unfold Z4 at m;split at m
         .rename_i A2 H2 o;obtain⟨t2,Y,rfl,rfl,_⟩:=fY o;simp only[kF,zB,zU]at m;rw[<-m.2];show H.next<=t.next+1
          omega
         .simp at m
        .simp at m
       .simp at m
      .simp at m
     .simp at m
    .simp at m
   .simp at m
  subst f;refine⟨j,⟨_, Tryz.laysInsert.f22,rfl⟩,fun R zs cs w u hL=> ?_⟩;obtain⟨_,z,w',x,y,C,J,K⟩:=zOd m u hL;obtain⟨e,N,p,⟨rfl,rfl⟩,O,S,T⟩:=y cs;exact⟨x,N,z,p,O,S,T,C,J,K⟩
noncomputable def clnK (m:List AV->AH->Option (AV×AH))(vs:List AV)(H:AH):Option (AV×AH):=match vs with
 | [.map M]=>match H.h.get M with
  | some (.map ks es)=>match T.get H.h H.next with
   | none=>match T.set 40 H.h H.next (.map ks es)with
    | some t=>fN (Nat.succ H.next) fun k=>some (.map H.next,⟨t,k⟩)
    | none=>none
   | some _=>none
  | _=>none
 | vs=>m vs H
theorem zON (u: ∃j,PP.funcs[q]? =some j/\j.body.isSome=true)
  (x: ∀(b:Nat) (es:Array MapEntry) (a:Nat) (w:World),w.heap[b]? =some (.map es a)->Calls PP q #[.map (some b)] w fun e y=>e= .returned (.map (some w.heap.size))/\y=w.alloc (.map es a))
  (hm:FI q h):FI q (clnK h):=by
 intro az H v H' m;unfold clnK at m;split at m
 .rename_i M;split at m
  .rename_i ks es C;split at m
   .split at m
    .rename_i t o;rw[kF]at m;simp only[zB,zU]at m;obtain⟨rfl,rfl⟩:=m;refine⟨Nat.le_succ _,u,fun R zs cs w J hL=> ?_⟩;obtain⟨z,a0,rfl,K,p⟩:=J;simp only[VRL]at p;subst p;obtain⟨b,d,c,hR,rfl⟩:=K;obtain⟨arr,a,hb,N,O,S,T⟩:=hL.mapAt C hR;obtain⟨e,w1,f,⟨rfl,rfl⟩,Y,Z,s3⟩:=x b arr a w hb cs;refine⟨R.add H.next w.heap.size 0 0,_,_,f,Y,Z,s3,⟨w.heap.size,0,0,R.add_self _ _ _ _,rfl⟩, ?_, ?_⟩
     .exact hL.new o ⟨arr,a,rfl,N.mono (R.sub_add _ _ _ _),O,S,T⟩
     .exact Ext.add o
    .simp at m
   .simp at m
  .simp at m
 .exact hm _ _ _ _ m
def cellAV (N:Nat):Value->AV
 | .bool b=> .bool b
 | .int k n=> .int k n
 | .string s=> .str s.size (pack s.data.toList)
 | .slice none 0 0=> .nS
 | .slice (some ⟨b,o,none⟩) len cap=>bif Nat.blt b N then .slice b o len (2*cap)else .val (.slice (some ⟨b,o,none⟩) len cap)
 | v=> .val v
def aD (N:Nat):Value->AV
 | .slice (some _) 0 0=> .eS
 | v=>cellAV N v
def argAV (N:Nat):Value->AV
 | .agg a=> .agg (a.toList.map (aD N))
 | v=>aD N v
def cOf:Option Obj->Nat
 | some (.cells _ _ fz)=>enc fz
 | _=>0
def RId (w:World):Ren:=fun A b d c=>A=b/\b<w.heap.size/\d=0/\c=cOf w.heap[b]?
theorem zCE (w:World)(v:Value):VR (RId w) (cellAV w.heap.size v) v:=by
 unfold cellAV;split
 .rfl
 .rfl
 .exact⟨_,rfl,rfl,rfl⟩
 .rfl
 .rename_i b o len cap;rw[zF];split
  .rename_i h;exact⟨b,0,_,⟨rfl,by simpa using h,rfl,rfl⟩,by simp[bB,jC]⟩
  .rfl
 .rfl
theorem BS (w:World): ∀l:List Value,VRL (RId w) (l.map (cellAV w.heap.size)) l
 | []=>rfl
 | v::l=>⟨v,l,rfl,zCE w v,BS w l⟩
theorem BW (w:World)(v:Value):VR (RId w) (aD w.heap.size v) v:=by
 unfold aD;split
 .exact⟨_,_,rfl⟩
 .exact zCE w _
theorem VC (w:World): ∀l:List Value,VRL (RId w) (l.map (aD w.heap.size)) l
 | []=>rfl
 | v::l=>⟨v,l,rfl,BW w v,VC w l⟩
theorem zLJ (w:World)(v:Value):VR (RId w) (argAV w.heap.size v) v:=by
 unfold argAV;split
 .rename_i a;exact⟨a.toList,by simp,VC w a.toList⟩
 .exact BW w _
theorem zCN (w:World): ∀l:List Value,VRL (RId w) (l.map (argAV w.heap.size)) l
 | []=>rfl
 | v::l=>⟨v,l,rfl,zLJ w v,zCN w l⟩
theorem zDI (f:Sub (RId t) E)(j: ∀A b d w b' d' c',E A b d w->E A b' d' c'->b=b'/\d=d'/\w=c'){a:Value}(h:VR E (cellAV t.heap.size c) a):a=c:=by
 unfold cellAV at h;split at h
 .exact h
 .exact h
 .rename_i s;obtain⟨s',rfl,m,p⟩:=h;have:s'.data.toList=s.data.toList:=QM _ _ (by rw[size_data,size_data,m]) p;congr 1
  cases s;cases s';simp only at this;congr 1
  exact Array.toList_inj.1 this
 .exact h
 .rename_i b o len cap;rw[zF]at h;split at h
  .rename_i hb;obtain⟨b',d,w,hr,rfl⟩:=h;obtain⟨rfl,rfl,rfl⟩:=j _ _ _ _ _ _ _ hr (f b b 0 _ ⟨rfl,by simpa using hb,rfl,rfl⟩);simp[bB,jC]
  .exact h
 .exact h
theorem JU {w:World}{R:Ren}(a:Sub (RId w) R)(f: ∀A b d c b' d' c',R A b d c->R A b' d' c'->b=b'/\d=d'/\c=c'): ∀ {l l':List Value},VRL R (l.map (cellAV w.heap.size)) l'->l'=l
 | [],_,h=>h
 | v::l,_,h=>by
  obtain⟨o,l',rfl,j,m⟩:=h;rw[zDI a f j,JU a f m]
def zKL (N:Nat):Obj->AObj
 | .cells arr e _=> .cells (arr.toList.map (cellAV N)) e 0 false
 | x=> .raw x
theorem X0 {α:Type} : ∀(xs:List α) (i:Nat) (t:T α),(T.ofList i xs t).isSome=true
 | [],_,_=>rfl
 | x::xs,i,t=>by
  obtain⟨f,a⟩:=qQ.1 (T.set_some 40 t i x);simp only[T.ofList,a];exact X0 xs _ _
noncomputable def H0 (w:World):AH:=⟨(T.ofList 0 (w.heap.toList.map (zKL w.heap.size)) .leaf).getD .leaf,w.heap.size⟩
theorem zFu (w:World)(A:Nat):(H0 w).h.get A=w.heap[A]?.map (zKL w.heap.size):=by
 obtain⟨t,a⟩:=qQ.1 (X0 (w.heap.toList.map (zKL w.heap.size)) 0 .leaf);simp only[H0,a,y9];rw[T.get_ofList _ _ _ _ a];simp only[Nat.zero_le,true_and,yZ,jE,yW,jD];split
 .simp
 .rename_i h;rw[T.get_leaf,Array.getElem?_eq_none (by omega)];rfl
def H0_ok (w:World): ∀A,(H0 w).next<=A->(H0 w).h.get A=none:=fun A h=>by
 rw[zFu,Array.getElem?_eq_none (by exact h)];rfl
theorem zLZ (w:World){a:Nat×Nat}(h:w.heap[H]? =some (.cells G Y a)):(H0 w).h.get H=some (.cells (G.toList.map (cellAV w.heap.size)) Y 0 false):=by
 rw[zFu,h];rfl
theorem zRd (w:World):Rel (RId w) (H0 w) w:=by
 refine⟨?_, ?_, ?_, ?_⟩
 .rintro A b d c b' d' c' ⟨rfl,_,rfl,rfl⟩ ⟨rfl,_,rfl,rfl⟩;exact⟨rfl,rfl,rfl⟩
 .rintro A m b d c d' c' ⟨rfl,_,rfl,rfl⟩ ⟨rfl,_,rfl,rfl⟩ _ _;rfl
 .rintro A b d c o ⟨rfl,_,rfl,rfl⟩ a
  rw[zFu]at a;obtain⟨x,f,rfl⟩:=Option.map_eq_some_iff.1 a;rw[f];unfold zKL;split
  .rename_i arr e j;exact⟨arr,j,[],arr.toList,[],rfl,by simp,rfl,BS _ _,fun _=>⟨rfl,fun h=>absurd h (Nat.lt_irrefl 0),fun _=>rfl⟩,fun h=>by simp at h,fun h=>absurd h (Nat.lt_irrefl 0),[],rfl⟩
  .rfl
 .rintro A b d c ⟨rfl,h,rfl,rfl⟩;exact⟨h,h⟩
theorem calls_param (hm:FI q h)(w:World){args:Array Value}{H':AH}
  (m:h (args.toList.map (argAV w.heap.size)) (H0 w)=some (.bool true,H')) (K: ∀A,A<w.heap.size->H'.h.get A=(H0 w).h.get A):
  Calls PP q args w fun e p=>e= .returned (.bool true)/\RowKit.Below w.heap.size w p:=by
 intro cs;obtain⟨_,_,N⟩:=hm _ _ _ _ m;obtain⟨R',p,z,C,O,S,T,f,t,a⟩:=N (RId w) args.toList cs w (zCN _ _) (zRd w);simp only[VR]at f;subst f;refine⟨.returned (.bool true),p,C,⟨rfl, ?_⟩,O,S,T⟩;refine⟨a.os,a.tape,a.output,a.size,fun k o=> ?_⟩;have hr:=a.sub k k 0 _ ⟨rfl,o,rfl,rfl⟩;have u:w.heap[k]? =some w.heap[k]:=Array.getElem?_eq_getElem o;have y:=K k o;rw[zFu,u]at y;have j:=t.obj _ _ _ _ _ hr y;rw[u]at j⊢;generalize w.heap[k]=x at j
 cases x with
 | cells arr e fz=>
  obtain⟨arr',J,pre,l',a0,k1,k2,k3,k4,k5,_⟩:=j;obtain⟨rfl,_,k6⟩:=k5 rfl;have hl:=JU a.sub t.fn k4;have hp:pre=[]:=zW k3;subst hp;subst hl;have Y:arr'=arr:=Array.toList_inj.1 (by simpa using k2);have Z:J=fz:=(zOF (k6 rfl)).symm;rw[k1,Y,Z]
 | _=>exact j
noncomputable def cloK (m:List AV->AH->Option (AV×AH))(vs:List AV)(H:AH):Option (AV×AH):=match vs with
 | []=>some (.bool true,H)
 | vs=>m vs H
def Rel.below {a:World}(h:Rel E A t)(hb:RowKit.Below t.heap.size t a):Rel E A a:=
 ⟨h.fn,h.inj,fun R b d c o r f=>by rw[hb.block b (h.lt _ _ _ _ r).1];exact h.obj R b d c o r f,fun R b d c r=>⟨qG (h.lt _ _ _ _ r).1 hb.size,(h.lt _ _ _ _ r).2⟩⟩
theorem zOM (f: ∃a,PP.funcs[q]? =some a/\a.body.isSome=true)
  (t: ∀w:World,Calls PP q #[] w fun e u=>e= .returned (.bool true)/\RowKit.Below w.heap.size w u) (hm:FI q h):FI q (cloK h):=by
 intro az H v H' m;unfold cloK at m;split at m
 .simp only[zB,zU]at m;obtain⟨rfl,rfl⟩:=m;refine⟨zM _,f,fun R J cs w j hL=> ?_⟩;simp only[VRL]at j;subst j;obtain⟨e,x,o,⟨rfl,hb⟩,y,z,C⟩:=t w cs;refine⟨R,x, .bool true,o,y,z,C,rfl,hL.below hb, ?_⟩;exact⟨zRm R,fun _ _ _ _ m=> .inl m,fun _ _ _ _ m=> .inl m,zM _,fun _ _ _=>rfl,hb.os,hb.tape,hb.output,hb.size,fun b p _=>hb.block b p⟩
 .exact hm _ _ _ _ m
def Fin (x:Rs)(Q:Ex->AH->Prop):Prop:= ∃e H,x=some (e,H)/\Q e H
def Ret (x:Option (AV×AH))(Q:AV->AH->Prop):Prop:= ∃v H,x=some (v,H)/\Q v H
def Fin.pure {e:Ex}{Q:Ex->AH->Prop}(h:Q e A):Fin (some (e,A)) Q:=⟨e,A,rfl,h⟩
def Ret.pure {Q:AV->AH->Prop}(h:Q s A):Ret (some (s,A)) Q:=⟨s,A,rfl,h⟩
theorem Fin.mono {x:Rs}{Q a:Ex->AH->Prop}(h:Fin x Q)(k: ∀e H,Q e H->a e H):Fin x a:=by
 obtain⟨e,H,f,j⟩:=h;exact⟨e,H,f,k _ _ j⟩
theorem Ret.mono {x:Option (AV×AH)}{Q a:AV->AH->Prop}(h:Ret x Q)(k: ∀v H,Q v H->a v H):Ret x a:=by
 obtain⟨e,H,f,j⟩:=h;exact⟨e,H,f,k _ _ j⟩
def orN (P:List AV->AH->Prop)(Q:Ex->AH->Prop):Ex->AH->Prop
 | .norm vs,H=>P vs H
 | .exit i vs,H=>Q (.exit i vs) H
 | .ret v,H=>Q (.ret v) H
theorem Fin.jn {x:Rs}{P:List AV->AH->Prop}{K:List AV->AH->Rs}{Q:Ex->AH->Prop}(a:Fin x (orN P Q))(h: ∀vs H,P vs H->Fin (K vs H) Q):Fin (jn x K) Q:=by
 obtain⟨e,H,rfl,hp⟩:=a
 cases e with
 | norm vs=>exact h vs H hp
 | exit i vs=>exact⟨_,_,rfl,hp⟩
 | ret v=>exact⟨_,_,rfl,hp⟩
theorem Fin.loop {Q:Ex->AH->Prop}(b:Nat->List AV->AH->Prop)
  (step: ∀k vs H,b k vs H->Fin (I vs H) (orN (fun vs' H'=> ∃k',k'<k/\b k' vs' H') Q)):
  ∀(n k:Nat) (vs:List AV) (H:AH),b k vs H->k<n->Fin (kJ n I vs H) Q:=by
 intro n
 induction n with
 | zero=>intro k vs H _ h;omega
 | succ n ih=>
  intro k vs H f m;refine Fin.jn (step k vs H f) ?_
  rintro vs' H' ⟨k',j,a⟩
  exact ih k' vs' H' a (by omega)
theorem zG7 (b:Bool)(x y:Rs):cnd (.bool b) x y=if b then x else y:=by cases b<;>rfl
theorem zPz (b a:Bool)(x y:Rs):wnt (.bool b) a x y=if b=a then x else y:=by cases b<;>cases a<;>rfl
theorem bVs (v:AV)(K:AV->Rs):bV (some v) K=K v:=rfl
theorem bRs (v:AV)(H:AH)(K:AV->AH->Rs):bR (some (v,H)) K=K v H:=rfl
theorem ZQ (v:AV)(vs:List AV)(K:AV->List AV->Rs):hd (v::vs) K=K v vs:=rfl
theorem zHT (K:Rs):nl [] K=K:=rfl
theorem zAA (vs:List AV)(H:AH)(K:List AV->AH->Rs):jn (some (.norm vs,H)) K=K vs H:=rfl
theorem zQf (v:AV)(H:AH)(K:List AV->AH->Rs):jn (some (.ret v,H)) K=some (.ret v,H):=rfl
theorem zOa (i:Nat)(vs:List AV)(H:AH)(K:List AV->AH->Rs):jn (some (.exit i vs,H)) K=some (.exit i vs,H):=rfl
theorem zOb (id:Nat)(vs:List AV)(H:AH)(K:List AV->AH->Rs):jb id (some (.norm vs,H)) K=K vs H:=rfl
theorem zQk (id:Nat)(v:AV)(H:AH)(K:List AV->AH->Rs):jb id (some (.ret v,H)) K=some (.ret v,H):=rfl
theorem zEq (v:AV)(H:AH):dG (some (.ret v,H))=some (v,H):=rfl
theorem zQi (c:Prop)[Decidable c](x y:Rs)(K:List AV->AH->Rs):jn (if c then x else y) K=if c then jn x K else jn y K:=by split<;>rfl
theorem zKH (c:Prop)[Decidable c](x y:Rs):dG (if c then x else y)=if c then dG x else dG y:=by split<;>rfl
theorem zPW (b:Bool)(x y:Option AV):pk3 (some (.bool b)) x y=if b then x else y:=by cases b<;>rfl
def AH.ok (H:AH):Prop:= ∀A,H.next<=A->H.h.get A=none
noncomputable def AH.push (H:AH)(o:AObj):AH:=⟨(T.set 40 H.h H.next o).getD .leaf,H.next+1⟩
noncomputable def AH.put (H:AH)(A:Nat)(o:AObj):AH:=⟨(T.set 40 H.h A o).getD .leaf,H.next⟩
theorem AH.push_next (H:AH)(o:AObj):(H.push o).next=H.next+1:=rfl
def zRh:=@AH.push_next
theorem AH.put_next (H:AH)(A:Nat)(o:AObj):(H.put A o).next=H.next:=rfl
def zRi:=@AH.put_next
theorem AH.push_get (H:AH)(o:AObj)(A:Nat):(H.push o).h.get A=if A=H.next then some o else H.h.get A:=by
 obtain⟨t,a⟩:=qQ.1 (T.set_some 40 H.h H.next o)
 simp only[AH.push,a,y9];exact T.get_set _ _ _ _ _ a A
theorem AH.put_get (H:AH)(B:Nat)(o:AObj)(A:Nat):(H.put B o).h.get A=if A=B then some o else H.h.get A:=by
 obtain⟨t,a⟩:=qQ.1 (T.set_some 40 H.h B o);simp only[AH.put,a,y9];exact T.get_set _ _ _ _ _ a A
def zRk:=@AH.put_get
theorem AH.push_get_eq (H:AH)(o:AObj):(H.push o).h.get H.next=some o:=by rw[AH.push_get,if_pos rfl]
def zRg:=@AH.push_get_eq
theorem AH.push_get_ne (A:AH)(o:AObj)(h:H<A.next):(A.push o).h.get H=A.h.get H:=by rw[AH.push_get,if_neg (by omega)]
theorem AH.ok.push {H:AH}(h:H.ok)(o:AObj):(H.push o).ok:=fun A a=>by
 rw[zRh]at a;rw[AH.push_get,if_neg (by omega)];exact h A (by omega)
theorem AH.ok.put {H:AH}(h:H.ok){A:Nat}(f:A<H.next)(o:AObj):(H.put A o).ok:=fun B a=>by
 rw[zRi]at a;rw[zRk,if_neg (by omega)];exact h B a
theorem AH.ok.lt (h:A.ok){o:AObj}(f:A.h.get H=some o):H<A.next:=by
 rcases Nat.lt_or_ge H A.next with a | a
 .exact a
 .rw[h H a]at f;cases f
theorem zDl (h:A.ok)(o:AObj)(K:Nat->AH->Rs):VN A o K=K A.next (A.push o):=by
 unfold VN;rw[h A.next (zM _)]
 obtain⟨t,a⟩:=qQ.1 (T.set_some 40 A.h A.next o)
 simp only[a,kF,AH.push,y9]
theorem kT (H:AH)(A:Nat)(o:AObj):fX H A o=some (H.put A o):=by
 unfold fX;obtain⟨t,a⟩:=qQ.1 (T.set_some 40 H.h A o);simp only[a,AH.put,y9]
theorem ZN (h:A.ok)(o:AObj):newA A o=some (A.next,A.push o):=by
 unfold newA zKN;rw[h A.next (zM _)]
 obtain⟨t,a⟩:=qQ.1 (T.set_some 40 A.h A.next o)
 simp only[a,AH.push,y9]
theorem kX (h:A.ok)(o:AObj)(a:Nat->AV)(K:AV->AH->Rs):bA (some (o,a)) A K=K (a A.next) (A.push o):=by
 simp only[bA,zDl h]
structure Stp (S:Nat->Prop)(H H':AH):Prop where
 ok:H'.ok
 next:H.next<=H'.next
 keep: ∀A,A<H.next-> ¬S A->H'.h.get A=H.h.get A
abbrev Prs (H H':AH):Prop:=Stp (fun _=>False) H H'
def Stp.refl {S:Nat->Prop}{H:AH}(h:H.ok):Stp S H H:=⟨h,zM _,fun _ _ _=>rfl⟩
def zRo:=@Stp.refl
def Stp.trans {f:AH}(h:Stp a A M)(k:Stp a M f):Stp a A f:=
 ⟨k.ok,qN h.next k.next,fun S j m=>by rw[k.keep S (qG j h.next) m,h.keep S j m]⟩
def Stp.mono {S:Nat->Prop}(h:Stp a A M)(k: ∀H,H<A.next->a H->S H):Stp S A M:=
 ⟨h.ok,h.next,fun H j m=>h.keep H j (fun x=>m (k H j x))⟩
def Stp.fresh {f:AH}(S:Prs A M)(h:Stp a M f)(k: ∀H0,a H0->A.next<=H0):Prs A f:=
 ⟨h.ok,qN S.next h.next,fun H0 j _=>by
  rw[h.keep H0 (qG j S.next) (fun x=>by have:=k H0 x;omega),S.keep H0 j (fun x=>x)]⟩
theorem Stp.push {S:Nat->Prop}{H0 H:AH}(h:Stp S H0 H)(o:AObj):Stp S H0 (H.push o):=
 ⟨h.ok.push o,by rw[zRh];have:=h.next;omega,fun A a f=>by
  rw[AH.push_get_ne _ _ (qG a h.next)];exact h.keep A a f⟩
theorem Stp.put {S:Nat->Prop}{H0 H:AH}(h:Stp S H0 H){A:Nat}(j:A<H.next)(o:AObj)(m:H0.next<=A\/S A):Stp S H0 (H.put A o):=
 ⟨h.ok.put j o,h.next,fun B p a=>by
  rw[zRk,if_neg (fun e=>by subst e;rcases m with f | f;omega;exact a f)];exact h.keep B p a⟩
theorem Prs.get {H H':AH}(h:Prs H H'){A:Nat}{o:AObj}(f:H.ok)(a:H.h.get A=some o):H'.h.get A=some o:=by
 rw[h.keep A (f.lt a) (fun x=>x)];exact a
def zRt:=@Prs.get
def Prs.stp {S:Nat->Prop}{H H':AH}(h:Prs H H'):Stp S H H':=h.mono (fun _ _ x=>x.elim)
def zRv:=@Prs.stp
theorem wrap_i64 {z:Int}(a: -9223372036854775808<=z)(f:z<=9223372036854775807):IntKind.wrap .i64 z=z:=by
 apply uS<;>simp[IntKind.signed,IntKind.min,IntKind.max,IntKind.bits]<;>omega
theorem wrap_u8 (z:Int):IntKind.wrap .u8 z=z % 256:=by simp[IntKind.wrap,IntKind.signed,IntKind.bits]
theorem wrap_u64 (z:Int):IntKind.wrap .u64 z=z % 18446744073709551616:=by simp[IntKind.wrap,IntKind.signed,IntKind.bits]
theorem KP (k:IntKind)(a b:Int):wU .add (.int k a) (.int k b)=some (.int k (k.wrap (a+b))):=by simp[wU,fF,xX,vZ]
theorem zLE (k:IntKind)(a b:Int):wU .sub (.int k a) (.int k b)=some (.int k (k.wrap (a - b))):=by simp[wU,fF,xX,vZ]
theorem zFj (k:IntKind)(a b:Int):wU .mul (.int k a) (.int k b)=some (.int k (k.wrap (a*b))):=by simp[wU,fF,xX,vZ]
theorem zLF (k:IntKind)(a b:Int)(h:b≠0):wU .quo (.int k a) (.int k b)=some (.int k (k.wrap (a.tdiv b))):=by
 have:(b==0)=false:=by simpa using h
 simp[wU,fF,xX,vZ,xY,this]
theorem zLG (k:IntKind)(a b:Int):wU .eql (.int k a) (.int k b)=some (.bool (decide (a=b))):=by
 have h:keq k k=true:=by rw[xX];simp
 simp only[wU,fF,h,zP,wD,xY,uO,zB,AV.bool.injEq];rw[yI];simp
theorem zFi (k:IntKind)(a b:Int):wU .neq (.int k a) (.int k b)=some (.bool (decide (a≠b))):=by
 have h:keq k k=true:=by rw[xX];simp
 simp only[wU,fF,h,zP,wD,xY,uO,zB,AV.bool.injEq];rw[yI];simp
theorem YC (k:IntKind)(a b:Int):wU .lss (.int k a) (.int k b)=some (.bool (decide (a<b))):=by
 have h:keq k k=true:=by rw[xX];simp
 simp only[wU,fF,h,zP,wD,xY,uO,zB,AV.bool.injEq]
theorem zFk (k:IntKind)(a b:Int):wU .leq (.int k a) (.int k b)=some (.bool (decide (a<=b))):=by
 have h:keq k k=true:=by rw[xX];simp
 simp only[wU,fF,h,zP,wD,xY,uO,zB,AV.bool.injEq];rw[yI];simp
theorem zFl (k:IntKind)(a b:Int):wU .gtr (.int k a) (.int k b)=some (.bool (decide (b<a))):=by
 have h:keq k k=true:=by rw[xX];simp
 simp only[wU,fF,h,zP,wD,xY,uO,zB,AV.bool.injEq]
theorem zFm (k:IntKind)(a b:Int):wU .geq (.int k a) (.int k b)=some (.bool (decide (b<=a))):=by
 have h:keq k k=true:=by rw[xX];simp
 simp only[wU,fF,h,zP,wD,xY,uO,zB,AV.bool.injEq];rw[yI];simp
theorem zDG (k k':IntKind)(z:Int):cvI k (.int k' z)=some (.int k (k.wrap z)):=by simp[cvI,vZ]
theorem kL (k:IntKind){z:Int}(h:0<=z):YW (.int k z)=some z.toNat:=by
 cases z with
 | ofNat n=>rfl
 | negSucc n=>omega
theorem zJy (a b:Bool):K5 .eql (.bool a) (.bool b)=some (.bool (a==b)):=by simp only[K5,wD]
theorem VB (a b:Bool):K5 .neq (.bool a) (.bool b)=some (.bool (!(a==b))):=by simp only[K5,wD]
theorem zOU (b:Bool):aun .not (.bool b)=some (.bool !b):=by simp[aun,wD]
abbrev Str:=List UInt8
def S (l:Str):AV:= .str l.length (pack l)
theorem JY (l:Str):isCell (S l)=true:=rfl
def ltS (l m:Str):Bool:=Op.bytesLess l m
theorem cL (l:Str):XC (S l)=some (.int .i64 (l.length:Nat)):=rfl
theorem S_eq (l m:Str):(Nat.beq l.length m.length&&Nat.beq (pack l) (pack m))=decide (l=m):=by
 rw[yI];simp only[zE,zX,zR];exact⟨fun h=>QM l m h.1 h.2,fun h=>by subst h;exact⟨rfl,rfl⟩⟩
theorem zFf (l m:Str):d7 .eql (S l) (S m)=some (.bool (decide (l=m))):=by simp only[d7,S,VZ,wD,S_eq]
theorem vE (l m:Str):d7 .neq (S l) (S m)=some (.bool (decide (l≠m))):=by simp only[d7,S,VZ,wD,S_eq];simp
theorem gU (l m:Str):d7 .lss (S l) (S m)=some (.bool (ltS l m)):=by simp only[d7,S,VZ,wD,aJ,ltS]
theorem zAS (l m:Str):d7 .geq (S l) (S m)=some (.bool (!ltS l m)):=by simp only[d7,S,VZ,wD,aJ,ltS]
theorem zAB (l:Str)(k:IntKind){z:Int}(f:0<=z)(a:z.toNat<l.length):XG (S l) (.int k z)=some (.int .u8 (l[z.toNat].toNat:Nat)):=by
 have hb:Nat.blt z.toNat l.length=true:=by rw[qE];exact a
 simp only[XG,kL k f,S,hb,zP,kF];rw[zEp l _ a,show(256:Nat) ^ z.toNat=2 ^ (8*z.toNat)from by rw[show(256:Nat)=2 ^ 8 from rfl,<-Nat.pow_mul]];rfl
theorem zMj (n:Nat):(2:Nat) ^ (8*n)=256 ^ n:=by rw[show(256:Nat)=2 ^ 8 from rfl,<-Nat.pow_mul]
theorem zJG (l:Str)(lo hi:Option Nat)(a:hi.getD l.length<=l.length)(f:lo.getD 0<=hi.getD l.length):zJH l.length (pack l) lo hi=some (S ((l.drop (lo.getD 0)).take (hi.getD l.length - lo.getD 0))):=by
 have h:Nat.ble (hi.getD l.length) l.length=true:=by rw[qW];exact a
 have j:Nat.ble (lo.getD 0) (hi.getD l.length)=true:=by rw[qW];exact f
 simp only[zJH,h,j,qP,zP,zBO,S,zMj,<-WW,<-zBG];rw[qC,qL,Nat.min_eq_left (by omega)]
theorem zKi (l:Str)(k:IntKind){z:Int}(a:0<=z)(f:z.toNat<=l.length):VS (S l) (some (.int k z)) none=some (S (l.drop z.toNat)):=by
 have:=zJG l (some z.toNat) none (zM _) f;simp only[VS,kY,kL k a,S];rw[this];simp only[y9,Option.getD_none,S];rw[zY (by simp)]
theorem zKj (l:Str)(k:IntKind){z:Int}(a:0<=z)(f:z.toNat<=l.length):VS (S l) none (some (.int k z))=some (S (l.take z.toNat)):=by
 have:=zJG l none (some z.toNat) f (Nat.zero_le _);simp only[VS,kY,kL k a,S];rw[this];simp[S]
theorem kB: ∀l:Str,ltS l l=false
 | []=>rfl
 | b::l=>by
  have:=kB l;simp only[ltS,Op.bytesLess]at this⊢;simp[this]
theorem kN: ∀ {a b c:Str},ltS a b=true->ltS b c=true->ltS a c=true
 | [],b,[],_,h=>by cases b<;>simp[ltS,Op.bytesLess]at h
 | [],_,_::_,_,_=>rfl
 | _::_,[],_,h,_=>by simp[ltS,Op.bytesLess]at h
 | _::_,_::_,[],_,h=>by simp[ltS,Op.bytesLess]at h
 | a::l,b::m,c::n,h,k=>by
  have f:= @kN l m n;simp only[ltS,Op.bytesLess,j6,zE,zR,beq_iff_eq]at h k f⊢;rcases h with h | ⟨rfl,h⟩
  .rcases k with k | ⟨rfl,k⟩
   .left;rw[UInt8.lt_iff_toNat_lt]at*;omega
   .exact .inl h
  .rcases k with k | ⟨rfl,k⟩
   .exact .inl k
   .exact .inr ⟨rfl,f h k⟩
theorem xK: ∀ {a b:Str},ltS a b=false->ltS b a=false->a=b
 | [],[],_,_=>rfl
 | [],_::_,h,_=>by simp[ltS,Op.bytesLess]at h
 | _::_,[],_,h=>by simp[ltS,Op.bytesLess]at h
 | a::l,b::m,h,k=>by
  have f:= @xK l m;simp only[ltS,Op.bytesLess,Bool.or_eq_false_iff,Bool.and_eq_false_iff,yO,beq_eq_false_iff_ne,ne_eq]at h k f;have e:a=b:=by
   apply UInt8.toNat_inj.1;have j:=h.1;have k1:=k.1;rw[UInt8.lt_iff_toNat_lt]at j k1;omega
  subst e;rw[f (by simpa using h.2) (by simpa using k.2)]
theorem wX {a b:Str}(h:ltS a b=true):ltS b a=false:=by
 cases k:ltS b a with
 | false=>rfl
 | true=>have:=kN h k;rw[kB]at this;cases this
def uH {a b:Str}(h:ltS a b=true):a≠b:=fun e=>by subst e;rw[kB]at h;cases h
theorem zKG (A o:Nat):uW (.ptr A o)=some (.ptr A o):=rfl
theorem zOo (f A o:Nat):fAd f (.ptr A o)=some (.ptr A (o+f)):=by simp[fAd,kF]
theorem wY (h:A.h.get H=some (.cells i C f V))(a:i[p]? =some s):ld1 (.ptr H p) A=some s:=by
 simp only[ld1,h,QN,a]
theorem J0 {sz:Nat}(h:A.h.get H=some (.cells i f sz V))(a:p+C<=i.length):ldN C (.ptr H p) A=some (.agg ((i.drop p).take C)):=by
 simp only[ldN,h,wC _ _ _ (.inr a)]
theorem xI {l:List AV}(h:H+i.length<=l.length):setAt l H i=some (l.take H++i++l.drop (H+i.length)):=by
 induction H generalizing l with
 | zero=>
  have: ∀(i l:List AV),i.length<=l.length->over l i=some (i++l.drop i.length):=by
   intro i
   induction i with
   | nil=>intro l _;cases l<;>rfl
   | cons y ys ih=>intro l hl;cases l with
    | nil=>simp at hl
    | cons x l=>simp only[zT,Nat.add_le_add_iff_right]at hl;simp[over,ih l hl]
  have a:=this i l (by omega)
  cases l with
  | nil=>simpa[setAt]using a
  | cons=>simpa[setAt]using a
 | succ H ih=>
  cases l with
  | nil=>simp at h
  | cons x l=>
   simp only[zT]at h;simp only[setAt,ih (l:=l) (by omega)];simp[show H+1+i.length=H+i.length+1 from by omega]
theorem WJ {o n:Nat}{x:AV}(h:A.h.get H=some (.cells i p C V))(f:0<C)(j:(jU x).length=n)(m:jP (jU x)=true)(l:o+n<=i.length):
  stN n (.ptr H o) x A=some (jQ,A.put H (.cells (i.take o++jU x++i.drop (o+n)) p C V)):=by
 subst j;have a:Nat.blt 0 C=true:=by rw[qE];exact f
 simp only[stN,h,jY,yF,m,a,qP,zP,xI l,kT]
theorem cE {o:Nat}{x:AV}(h:A.h.get H=some (.cells i p C V))(j:0<C)(f:isCell x=true)(m:o<i.length):
  stN 1 (.ptr H o) x A=some (jQ,A.put H (.cells (i.set o x) p C V)):=by
 have a:jU x=[x]:=by cases x<;>first | rfl | (simp[isCell]at f)
 rw[WJ h j (by rw[a];rfl) (by rw[a];simp[jP,f]) (by omega),a,List.set_eq_take_append_cons_drop,if_pos m];simp
theorem wJ  :jP i=true↔ ∀x∈i,isCell x=true:=by
 induction i with
 | nil=>simp[jP]
 | cons x i ih=>simp[jP,ih]
def Rw (k:Nat)(H:AH)(v:AV)(n:Nat)(l:List AV):Prop:=
 l.length=n*k/\((v= .nS/\n=0)\/(v= .eS/\n=0)\/
  ∃A off cc c e sz g,v= .slice A off n cc/\H.h.get A=some (.cells c e sz g)/\A<H.next/\off+n*k<=c.length/\(c.drop off).take (n*k)=l)
def Rw.nil (k:Nat)(H:AH):Rw k H .nS 0 []:=⟨by simp, .inl ⟨rfl,rfl⟩⟩
theorem Rw.lnSl {k n:Nat}{H:AH}{v:AV}{l:List AV}(h:Rw k H v n l):lnSl v=some (.int .i64 (n:Int)):=by
 obtain⟨_,⟨rfl,rfl⟩ | ⟨rfl,rfl⟩ | ⟨A,off,cc,c,e,sz,g,rfl,_⟩⟩:=h<;>rfl
theorem Rw.mono (h:Rw H A s p i)(H':Stp a A M)(k: ∀S off m cc,s= .slice S off m cc-> ¬a S):Rw H M s p i:=by
 obtain⟨n,f | f | ⟨S,off,cc,c,e,sz,g,rfl,q,j,o,hl⟩⟩:=h
 .exact⟨n, .inl f⟩
 .exact⟨n, .inr (.inl f)⟩
 .exact⟨n, .inr (.inr ⟨S,off,cc,c,e,sz,g,rfl,by rw[H'.keep S j (k _ _ _ _ rfl)];exact q,qG j H'.next,o,hl⟩)⟩
def Rw.prs (h:Rw H A s p i)(k:Prs A M):Rw H M s p i:=h.mono k (fun _ _ _ _ _ x=>x)
theorem Rw.at {l:List AV}(h:Rw H A s p l){i:Nat}(hi:i<p):
  ∃n o c e sz g,(∀κ (z:Int),z=(i:Int)->dV H s (.int κ z)=some (.ptr n o))/\A.h.get n=some (.cells c e sz g)/\n<A.next/\o+H<=c.length/\(c.drop o).take H=(l.drop (i*H)).take H:=by
 obtain⟨q,⟨_,rfl⟩ | ⟨_,rfl⟩ | ⟨n,off,cc,c,e,sz,g,rfl,f,a,m,hl⟩⟩:=h
 .omega
 .omega
 .have k:i*H+H<=p*H:=by rw[<-jI];exact yN _ hi
  refine⟨n,off+i*H,c,e,sz,g,fun κ z j=> ?_,f,a,by omega, ?_⟩
  .have hb:Nat.blt i p=true:=by rw[qE];exact hi
   subst j;simp only[dV,kL κ (show(0:Int)<=(i:Int)by omega),yC,hb,zP,kF]
  .rw[<-hl,List.drop_take,List.take_take,List.drop_drop,Nat.min_eq_left (by omega)]
theorem Rw.ld1 {n:Nat}{H:AH}{v:AV}{l:List AV}(h:Rw 1 H v n l){i:Nat}(hi:i<n):
  ∃p x,(∀κ (z:Int),z=(i:Int)->dV 1 v (.int κ z)=some p)/\Eng.ld1 p H=some x/\l[i]? =some x:=by
 obtain⟨A,o,c,e,sz,g,j,m,t,u,q⟩:=h.at hi;have hl:l.length=n:=by have:=h.1;omega
 have a:i<l.length:=by omega
 refine⟨_,l[i],j,wY m ?_,zQ a⟩;have f:((c.drop o).take 1)[0]? =((l.drop (i*1)).take 1)[0]? :=by rw[q]
 rw[jF (by omega),jF (by omega),jG,jG]at f;simpa[zQ a]using f
theorem Rw.ldN {k n:Nat}{H:AH}{v:AV}{l:List AV}(h:Rw k H v n l){i:Nat}(hi:i<n):
  ∃p,(∀κ (z:Int),z=(i:Int)->dV k v (.int κ z)=some p)/\Eng.ldN k p H=some (.agg ((l.drop (i*k)).take k)):=by
 obtain⟨A,o,c,e,sz,g,a,f,q,j,m⟩:=h.at hi;exact⟨_,a,by rw[J0 f j,m]⟩
theorem Rw.srcOf {k n:Nat}{H:AH}{v:AV}{l:List AV}(h:Rw k H v n l):Eng.srcOf k v H=some (n,l):=by
 obtain⟨a,⟨rfl,rfl⟩ | ⟨rfl,rfl⟩ | ⟨A,off,cc,c,e,sz,g,rfl,j,m,f,hl⟩⟩:=h
 .have:l=[]:=zW (by simpa using a);subst this;rfl
 .have:l=[]:=zW (by simpa using a);subst this;rfl
 .simp only[Eng.srcOf,j,wC _ _ _ (.inr f),hl]
theorem ew:(∀ {α:Type} (h:Decidable True) (t e:α), @ite α True h t e=t)/\(∀ {α:Type} (h:Decidable False) (t e:α), @ite α False h t e=e)/\(∀h:Decidable True, @decide True h=true)/\(∀h:Decidable False, @decide False h=false)/\((!true)=false)/\((!false)=true)/\((false=true)=False)/\((true=false)=False)/\(∀b,(b&&true)=b)/\(∀b,(true&&b)=b)/\(∀b,(b&&false)=false)/\(∀b,(false&&b)=false)/\(∀b,(b||true)=true)/\(∀b,(true||b)=true)/\(∀b,(b||false)=b)/\(∀b,(false||b)=b):=by
 refine⟨fun h t e=>if_pos trivial,fun h t e=>if_neg id,fun h=>decide_eq_true trivial,fun h=>decide_eq_false id,rfl,rfl,by simp,by simp,by simp,by simp,by simp,by simp,by simp,by simp,by simp,by simp⟩
def Own (k e:Nat)(H:AH)(v:AV)(n:Nat)(l:List AV):Prop:=
 l.length=n*k/\((v= .nS/\n=0)\/ ∃A,v= .slice A 0 n 1/\A<H.next/\H.h.get A=some (.cells l e k true))
def Blk (v:AV)(A:Nat):Prop:= ∃o n c,v= .slice A o n c
theorem Blk.slice {A o n c B:Nat} :Blk (.slice A o n c) B↔B=A:=⟨fun⟨_,_,_,h⟩=>by simp only[AV.slice.injEq]at h;exact h.1.symm,fun h=>⟨o,n,c,by rw[h]⟩⟩
def zRl:=@Blk.slice
def Blk.nil {B:Nat} :Blk .nS B↔False:=⟨fun⟨_,_,_,h⟩=>by simp at h,fun h=>h.elim⟩
def zRu:=@Blk.nil
theorem Own.row (h:Own H p A s C i):Rw H A s C i:=by
 obtain⟨a,⟨rfl,rfl⟩ | ⟨k,rfl,f,j⟩⟩:=h
 .exact⟨a, .inl ⟨rfl,rfl⟩⟩
 .exact⟨a, .inr (.inr ⟨k,0,1,i,p,H,true,rfl,j,f,by omega,by rw[yL,zY (by omega)]⟩)⟩
def Own.nil (k e:Nat)(H:AH):Own k e H .nS 0 []:=⟨by simp, .inl ⟨rfl,rfl⟩⟩
def zRw:=@Own.nil
theorem Own.mono (h:Own H p A s C i)(n:Stp a A M)(j: ∀e,Blk s e-> ¬a e):Own H p M s C i:=by
 obtain⟨k,m | ⟨e,rfl,f,o⟩⟩:=h
 .exact⟨k, .inl m⟩
 .exact⟨k, .inr ⟨e,rfl,qG f n.next,by rw[n.keep e f (j e (zRl.2 rfl))];exact o⟩⟩
def Rw.stp {k n:Nat}{S:Nat->Prop}{H H':AH}{v:AV}{l:List AV}(h:Rw k H v n l)(s:Stp S H H')(a: ∀A,Blk v A-> ¬S A):Rw k H' v n l:=
 h.mono s (fun A o m c e=>a A (by rw[e];exact zRl.2 rfl))
theorem aK (h:H<=1000000000)(f:p<=1000):roomy H p=true:=by
 unfold roomy;simp only[zE,qW,qE];refine⟨?_,by omega⟩
 calc (H+H / 4+192)*p<=(H+H / 4+192)*1000:=Nat.mul_le_mul_left _ f
  _<=281474976710656:=by omega
theorem KR {k e bytes n m:Nat}{new:List AV}(a:A.ok)(p:0<k)(h:Own k e A s n i)(hm:new.length=m*k)(J:1<=m)(y:n+m<=1000000000)(hb:bytes<=1000):
  ∃H',app1 e k bytes m new s A=some (.slice A.next 0 (n+m) 1,H')/\Own k e H' (.slice A.next 0 (n+m) 1) (n+m) (i++new)/\Stp (Blk s) A H'/\H'.next=A.next+1:=by
 obtain⟨f,⟨rfl,rfl⟩ | ⟨H,rfl,j,z⟩⟩:=h
 .have hl:i=[]:=zW (by simpa using f);subst hl;have C:Nat.beq m 0=false:=by rw[qY];intro e;rw[zX]at e;omega
  refine⟨A.push (.cells new e k true), ?_,⟨?_, .inr ⟨A.next,rfl,Nat.lt_succ_self _,zRg _ _⟩⟩,(zRo a).push _,rfl⟩
  .simp only[app1,show m.beq 0=false from C,qH,vU,aK (show m<=1000000000 by omega) hb,zP,Z4,qX,ZN a,kF,yZ]
  .simp[hm]
 .have o:kQ i true k 0 1 k=n:=by
   simp only[kQ,show((1 % 2).beq 0)=false from rfl,qH,yF,show Nat.beq 0 (1 / 2*k)=true from by simp,qP,zP,jY,f,jD];exact Nat.mul_div_cancel _ p
  have u:Nat.ble (n+m) n=false:=by rw[qY];intro e;rw[qW]at e;omega
  have q:Nat.beq (0+n*k) (Z9 i 0)=true:=by rw[jY,f,yZ,yF]
  have t:bC i 0 (n*k)=some i:=by rw[wC _ _ _ (.inr (by omega)),yL,zY (by omega)]
  have x:(A.put H .dead).ok:=a.put j _;refine⟨(A.put H .dead).push (.cells (i++new) e k true), ?_,⟨?_, .inr ⟨A.next,rfl,Nat.lt_succ_self _,zRg (A.put H .dead) _⟩⟩,((zRo a).put j _ (.inr (zRl.2 rfl))).push _,rfl⟩
  .simp only[app1,z,zGg,o,u,qH,show((1 % 2).beq 0)=false from rfl,q,yF,show Nat.beq 0 (1 / 2*k)=true from by simp,qP,zP,kT,t,vU,
    aK y hb,Z4,ZN x,kF,zRi]
  .simp[f,hm,j8]
theorem VD {bytes:Nat}(j:A.ok)(f:0<H)(h:Own H p A s C i):
  ∃H',app1 p H bytes 0 [] s A=some (s,H')/\Own H p H' s C i/\Stp (fun _=>False) A H'/\H'.next=A.next:=by
 obtain⟨a,⟨rfl,rfl⟩ | ⟨e,rfl,m,o⟩⟩:=h
 .exact⟨A,rfl,⟨a, .inl ⟨rfl,rfl⟩⟩,zRo j,rfl⟩
 .have k:kQ i true H 0 1 H=C:=by
   simp only[kQ,show((1 % 2).beq 0)=false from rfl,qH,yF,show Nat.beq 0 (1 / 2*H)=true from by simp,qP,zP,jY,a,jD];exact Nat.mul_div_cancel _ f
  have t:Nat.blt 0 H=true:=by rw[qE];exact f
  have q:setAt i (0+C*H) []=some i:=by rw[xI (by simp;omega)];simp
  refine⟨A.put e (.cells i p H true), ?_,⟨a, .inr ⟨e,rfl,m,by rw[zRk,if_pos rfl]⟩⟩,⟨j.put m _,zM _,fun B u _=> ?_⟩,rfl⟩
  .simp only[app1,o,zGg,k,Nat.add_zero,Nat.ble_eq_true_of_le (zM C),zP,t,q,zCO,kT,kF]
  .rw[zRk];split
   .rename_i p;rw[p,o]
   .rfl
theorem gH {bytes m:Nat}{e:AV}{new:List AV}(j:A.ok)(a:0<H)(h:Own H p A s C i)(o:srcOf H e A=some (m,new))(hm:new.length=m*H)(k:jP new=true)(f:1<=m)(q:C+m<=1000000000)(hb:bytes<=1000):
  ∃H',apP p H bytes s e A=some (.slice A.next 0 (C+m) 1,H')/\Own H p H' (.slice A.next 0 (C+m) 1) (C+m) (i++new)/\Stp (Blk s) A H'/\H'.next=A.next+1:=by
 obtain⟨H',t,u⟩:=KR (bytes:=bytes) j a h hm f q hb;exact⟨H',by simp only[apP,o,k,zP,t],u⟩
theorem zOV {bytes:Nat}{m:AV}{new:List AV}(t:A.ok)(q:0<H)(h:Own H p A s C i)(u:srcOf H m A=some (f,new))(hm:new.length=f*H)(y:jP new=true)(z:C+f<=1000000000)(hb:bytes<=1000):
  ∃a H',apP p H bytes s m A=some (a,H')/\Own H p H' a (C+f) (i++new)/\Stp (Blk s) A H'/\A.next<=H'.next/\(∀B,Blk a B->Blk s B\/A.next<=B):=by
 by_cases e:f=0
 .subst e;have:new=[]:=zW (by simpa using hm);subst this;obtain⟨H',n,j,o,J⟩:=VD (bytes:=bytes) t q h;refine⟨s,H',by simp only[apP,u,y,zP,n],by simpa using j,o.mono (fun _ _ x=>x.elim),by omega,fun B k=> .inl k⟩
 .obtain⟨H',n,j,o,J⟩:=gH t q h u hm y (by omega) z hb;exact⟨_,H',n,j,o,by omega,fun B k=> .inr (by rw[zRl.1 k];exact zM _)⟩
theorem VE {k e bytes n m off:Nat}{new:List AV}(q:A.ok)(t:A.h.get H=some (.cells i p C V))(j:off+n*k<=i.length)(x:1<=m)(u:n+m<=1000000000)(hb:bytes<=1000):
  app1 e k bytes m new (.slice H off n (2*n)) A=some (.slice A.next 0 (n+m) 1,A.push (.cells ((i.drop off).take (n*k)++new) e k true)):=by
 have a:((2*n) % 2).beq 0=true:=by rw[jC];rfl
 have f:kQ i V C off (2*n) k=n:=by
  simp only[kQ,a,zP,yP n (show 0<2 by omega)]
 have o:Nat.ble (n+m) n=false:=by rw[qY];intro e;rw[qW]at e;omega
 simp only[app1,t,zGg,f,o,qH,a,zP,wC _ _ _ (.inr j),vU,aK u hb,Z4,ZN q,kF]
def Own.len (h:Own H p A s C i):i.length=C*H:=h.1
def Rw.len (h:Rw H A s p i):i.length=p*H:=h.1
def jO (l:Str):List AV:=l.map fun c=> .int .u8 c.toNat
theorem V9: ∀l:Str,bytesOf l.length (pack l)=jO l
 | []=>rfl
 | c::l=>by
  have h:c.toNat<256:=c.toNat_lt;have a:pack (c::l) % 256=c.toNat:=by simp only[pack];omega
  have f:pack (c::l) / 256=pack l:=by simp only[pack];omega
  simp only[zT,bytesOf,a,f,V9 l,jO,yJ];rfl
theorem zD7 (l:Str)(H:AH):srcOf 1 (S l) H=some (l.length,jO l):=by simp only[srcOf,S,show(Nat.beq 1 1)=true from rfl,zP,V9]
theorem bytesV_cells (l:Str):jP (jO l)=true:=by
 rw[wJ];intro x a;obtain⟨c,_,rfl⟩:=qZ.1 a;rfl
theorem jT (l:Str):(jO l).length=l.length:=by simp[jO]
theorem QH: ∀l:Str,QI (jO l)=some (l.length,pack l)
 | []=>rfl
 | c::l=>by
  have a:Nat.blt c.toNat 256=true:=by rw[qE];exact c.toNat_lt
  have f:=QH l;show QI (AV.int .u8 (Int.ofNat c.toNat)::jO l)=_;simp only[QI,a,zP,f,kF,zT,pack]
theorem KK {n:Nat}{l:Str}(h:Rw 1 A s n (jO l))(f:s≠ .eS):zF3 s A=some (S l):=by
 obtain⟨j,⟨rfl,rfl⟩ | ⟨rfl,rfl⟩ | ⟨H,off,cc,c,e,sz,g,rfl,m,o,a,hl⟩⟩:=h
 .have:l=[]:=by cases l with
   | nil=>rfl
   | cons=>simp[jO]at j
  subst this;rfl
 .exact absurd rfl f
 .rw[Nat.mul_one]at a hl;simp only[zF3,m,wC _ _ _ (.inr a),hl,QH,zBO,S]
end Go.Eng
namespace Go.Eng
theorem zQj (p:Prop)[Decidable p](b:Bool)(H:AH)(K:AV->AH->Rs):
  jn (if p then some (.norm [.bool b],H)else some (.norm [jQ],H)) (fun vs H=>hd vs fun y _=>bV (if p then some y else some (.bool false)) fun x=>K x H)=K (.bool (decide p&&b)) H:=by
 by_cases h:p<;>simp[h,jn,hd,bV]
theorem jn_or (p:Prop)[Decidable p](b:Bool)(H:AH)(K:AV->AH->Rs):
  jn (if p then some (.norm [jQ],H)else some (.norm [.bool b],H)) (fun vs H=>hd vs fun y _=>bV (if p then some (.bool true)else some y) fun x=>K x H)=K (.bool (decide p||b)) H:=by
 by_cases h:p<;>simp[h,jn,hd,bV]
theorem kD {vs':List AV}{H':AH}(h:I i A=some (.norm vs',H')):kJ (H+1) I i A=kJ H I vs' H':=by
 show jn (I i A) (kJ H I)=_;rw[h];rfl
theorem jW {vs vs':List AV}{H':AH}{i:Nat}(h:I vs A=some (.exit i vs',H')):kJ (H+1) I vs A=some (.exit i vs',H'):=by
 show jn (I vs A) (kJ H I)=_;rw[h];rfl
theorem aO {H':AH}{v:AV}(h:I i A=some (.ret v,H')):kJ (H+1) I i A=some (.ret v,H'):=by
 show jn (I i A) (kJ H I)=_;rw[h];rfl
theorem zOc (id:Nat)(vs:List AV)(H:AH)(K:List AV->AH->Rs):jb id (some (.exit id vs,H)) K=K vs H:=by simp[jb]
def Strs (H:AH)(v:AV)(l:List Str):Prop:=Rw 1 H v l.length (l.map S)
theorem Strs.at {H:AH}{v:AV}{l:List Str}(h:Strs H v l){i:Nat}(hi:i<l.length): ∃p,(∀κ (z:Int),z=(i:Int)->dV 1 v (.int κ z)=some p)/\Eng.ld1 p H=some (S l[i]):=by
 obtain⟨p,x,f,j,a⟩:=Rw.ld1 h hi;rw[jK,zQ hi]at a;simp only[qB,zB]at a;subst a;exact⟨p,f,j⟩
theorem Strs.lnSl {H:AH}{v:AV}{l:List Str}(h:Strs H v l):Eng.lnSl v=some (.int .i64 (l.length:Int)):=Rw.lnSl h
theorem Strs.prs {H H':AH}{v:AV}{l:List Str}(h:Strs H v l)(s:Prs H H'):Strs H' v l:=Rw.prs h s
theorem zCC {a:Addr}(h:t.cell? a=some c):a.spot=none/\ ∃arr e f,t.heap[a.block]? =some (.cells arr e f)/\arr[a.off]? =some c:=by
 unfold World.cell? at h;split at h
 .rename_i w e f j;split at h
  .cases h
  .rename_i m;exact⟨by simpa using m,w,e,f,j,h⟩
 .cases h
theorem cellAV_string (N:Nat)(s:ByteArray):cellAV N (.string s)=S s.data.toList:=by
 simp only[cellAV,S];rw[<-size_data]
theorem zLI (w:World)(a:0<f)(hb:H<w.heap.size):aD w.heap.size (.slice (some ⟨H,p,none⟩) C f)= .slice H p C (2*f):=by
 obtain⟨c,rfl⟩: ∃c,f=c+1:=⟨f - 1,by omega⟩;have:Nat.blt H w.heap.size=true:=by rw[qE];exact hb
 cases C<;>simp[aD,cellAV,this]
def zIg {x:Obj}(h:t.heap[H]? =some x):H<t.heap.size:=(Array.getElem?_eq_some_iff.1 h).1
end Go.Eng
noncomputable section
namespace Go.Eng
abbrev Nms:=List (List AV->AH->Rs)
def nmAt (N:Nms)(k:Nat):List AV->AH->Rs:=match N with
 | []=>fun _ _=>none
 | g::N=>match k with
  | 0=>g
  | k+1=>nmAt N k
def ms:Hint->Hint
 | .s a b=> .s (ms a) (ms b)
 | .c L a b=> .c L.tail (ms a) (ms b)
 | .cl a b=> .cl (ms a) (ms b)
 | .cr a b=> .cr (ms a) (ms b)
 | .b L a=> .b L.tail (ms a)
 | .b0 a=> .b0 (ms a)
 | .l L a=> .l L.tail (ms a)
 | .rf s L=> .rf s L
 | .t L m=> .t L m
 | .o=> .o
def pkN (L:List Nat):Env->AH->Rs:=fun env H=>pck L env fun vs=>some (.norm vs,H)
def upK (L:List Nat)(K:Env->AH->Rs):List AV->AH->Rs:=fun vs H=>unp L vs uQ fun env=>K env H
def mkAt (P:List Nat)(i:Nat):Nat:=match P with
 | j::m::P=>bif Nat.beq j i then m else mkAt P i
 | _=>0
def sprF (P:List Nat)(i:Nat)(n:Nat):List Nat:=match n with
 | 0=>[]
 | n+1=>mkAt P i::sprF P (i+1) n
def spr (P:List Nat)(n:Nat):List Nat:=match P with
 | []=>[]
 | _=>sprF P 0 n
def zPX (l:List Oper)(R:List Nat):List (Nat×Oper):=match R with
 | []=>[]
 | i::R=>match zGf l i with
  | some o=>(i,o)::zPX l R
  | none=>[]
def ZU (B:Tb)(D:Dyn)(n nt:Nat)(rs:List ResultVar)(f0:FuncId)(ro:Bool)(N:Nms):Code->Hint->List (Nat×List Nat)->(Env->AH->Rs)->Env->AH->Rs
 | .skip,_,_,K,env,H=>K env H
 | .label _,_,_,K,env,H=>K env H
 | .region _ ops _, .b P _,_,K,env,H=>zEr B D nt ops (some (spr P ops.size)) (ops.size+1) K (idx ops.toList 0) [] env H
 | .region _ ops _, .c P (.l R _) _,_,K,env,H=>zEr B D nt ops (some (spr P ops.size)) (R.length+1) K (zPX ops.toList R) [] env H
 | .region _ ops draw,_,_,K,env,H=>zPe B D nt ops draw K env H
 | .seq a b, .s ha hb,Bk,K,env,H=>ZU B D n nt rs f0 ro N a ha Bk (ZU B D n nt rs f0 ro N b hb Bk K) env H
 | .seq _ _, .t L m,_,K,env,H=>pck L env fun vs=>tld (m vs H) H.next fun H=>unp L vs uQ fun env=>K env H
 | .cond c a b, .c (k::L) ha hb,Bk,_,env,H=>match opd env c with
  | some v=>jn (cnd v (ZU B D n nt rs f0 ro N a ha Bk (pkN L) env H) (ZU B D n nt rs f0 ro N b hb Bk (pkN L) env H)) (nmAt N k)
  | none=>none
 | .cond c a b, .cl ha hb,Bk,K,env,H=>match opd env c with
  | some v=>cnd v (ZU B D n nt rs f0 ro N a ha Bk (fun _ _=>none) env H) (ZU B D n nt rs f0 ro N b hb Bk K env H)
  | none=>none
 | .cond c a b, .cr ha hb,Bk,K,env,H=>match opd env c with
  | some v=>cnd v (ZU B D n nt rs f0 ro N a ha Bk K env H) (ZU B D n nt rs f0 ro N b hb Bk (fun _ _=>none) env H)
  | none=>none
 | .block id b, .b (k::L) hb,Bk,_,env,H=>jb id (ZU B D n nt rs f0 ro N b hb ((id,L)::Bk) (pkN L) env H) (nmAt N k)
 | .block id b, .b0 hb,Bk,K,env,H=>ZU B D n nt rs f0 ro N b hb (zG4 Bk id) K env H
 | .loop _, .l (k::L) _,_,_,env,H=>pck L env fun vs=>kJ n (nmAt N k) vs H
 | .exit id,_,Bk,_,env,H=>match uI Bk id with
  | some L=>pck L env fun vs=>some (.exit id vs,H)
  | none=>none
 | .ret,_,_,_,env,H=>zKp B.X rs env H
 | .rangeFunc f _ _ _, .rf s L,Bk,K,env,H=>bif ro then none else match opd env f with
  | some fv=>pck L env fun vs=>VN H (.loop ⟨.ready,none,f0,s,L,vs⟩) fun A H=>bR (rfC B.S D fv A H) fun _ H=>
    fT A H fun j H=>zEE j (K env H) (exS Bk env H) (zKp B.X rs env H)
  | none=>none
 | _,_,_,_,_,_=>none
abbrev Prt:=Option (List AV->AH->Rs)
def orP (a b:Prt):Prt:=match a with | some g=>some g | none=>b
def prt (B:Tb)(D:Dyn)(n nt:Nat)(rs:List ResultVar)(f0:FuncId)(ro:Bool)(N:Nms)(i:Nat):Code->Hint->List (Nat×List Nat)->(Env->AH->Rs)->Prt
 | .seq a b, .s ha hb,Bk,K=>orP (prt B D n nt rs f0 ro N i a ha Bk (ZU B D n nt rs f0 ro N b hb Bk K)) (prt B D n nt rs f0 ro N i b hb Bk K)
 | .cond _ a b, .c (k::L) ha hb,Bk,K=>bif Nat.beq k i then some (upK L K)else orP (prt B D n nt rs f0 ro N i a ha Bk (pkN L)) (prt B D n nt rs f0 ro N i b hb Bk (pkN L))
 | .cond _ a b, .cl ha hb,Bk,K=>orP (prt B D n nt rs f0 ro N i a ha Bk fun _ _=>none) (prt B D n nt rs f0 ro N i b hb Bk K)
 | .cond _ a b, .cr ha hb,Bk,K=>orP (prt B D n nt rs f0 ro N i a ha Bk K) (prt B D n nt rs f0 ro N i b hb Bk fun _ _=>none)
 | .block id b, .b (k::L) hb,Bk,K=>bif Nat.beq k i then some (upK L K)else prt B D n nt rs f0 ro N i b hb ((id,L)::Bk) (pkN L)
 | .block id b, .b0 hb,Bk,K=>prt B D n nt rs f0 ro N i b hb (zG4 Bk id) K
 | .loop b, .l (k::L) hb,Bk,_=>bif Nat.beq k i then some (upK L (ZU B D n nt rs f0 ro N b hb Bk (pkN L)))else prt B D n nt rs f0 ro N i b hb Bk (pkN L)
 | _,_,_,_=>none
def funS (B:Tb)(D:Dyn)(n:Nat)(f0:FuncId)(a:Func)(h:Hint)(N:Nms)(az:List AV)(H:AH):Option (AV×AH):=
 match a.body with
 | some body=>bif Nat.ble (a.params.size+a.nfree) a.ntmps then dG (zP9 (a.params.size+a.nfree) 0 az uQ fun env=>ZU B D n a.ntmps a.results.toList f0 false N body h [] (fun env H=>zKp B.X a.results.toList env H) env H)else none
 | none=>none
def prtF (B:Tb)(D:Dyn)(n:Nat)(f0:FuncId)(a:Func)(h:Hint)(N:Nms)(i:Nat):Prt:=
 match a.body with
 | some body=>prt B D n a.ntmps a.results.toList f0 false N i body h [] fun env H=>zKp B.X a.results.toList env H
 | none=>none
def rdS (B:Tb)(D:Dyn)(n:Nat)(f0:FuncId)(nt:Nat)(ps:Array Tmp)(a body:Code)(L f:List Nat)(h hb:Hint)(N:Nms)(A:Nat)(l:ALoop)(az:List AV)(H:AH):Option (AV×AH):=
 bif Y4 L l.live then
  zMU A (unp L l.vals uQ fun env=>zK6 nt ps.toList az env fun env=>
   ZU B D n nt [] f0 true N a h [] (fun env H=>uR A H fun H=>ZU B D n nt [] f0 true N body hb (f.map fun i=>(i,[])) (fun _ H=>some (.norm [],H)) env H) env H)
 else none
def rndS (B:Tb)(D:Dyn)(n:Nat)(f0:FuncId)(s:Nat)(L a:List Nat)(f hb:Hint)(N:Nms)(A:Nat)(l:ALoop)(az:List AV)(H:AH):Option (AV×AH):=
 match zAi f0 s with
 | some (nt,ps,asg,body)=>rdS B D n f0 nt ps asg body L a f hb N A l az H
 | none=>none
def prtR (B:Tb)(D:Dyn)(n:Nat)(f0:FuncId)(s:Nat)(a:List Nat)(hb:Hint)(N:Nms)(i:Nat):Prt:=
 match zAi f0 s with
 | some (nt,_,_,body)=>prt B D n nt [] f0 true N i body hb (a.map fun i=>(i,[])) fun _ H=>some (.norm [],H)
 | none=>none
end Go.Eng
end
namespace Go.Proofs
open Go.Shelf
def Tryz.clone80_ren:Go.Shelf.Ren:=⟨fun | 5=>80 | 7=>125 | n=>n,fun | 23=>138 | 25=>40 | 3=>119 | 4=>4 | 20=>20 | n=>n,fun | n=>n⟩
def Tryz.clone80:Go.Proofs.SlLaysW.n5 Tryz.prog Tryz.clone80_ren:= {
 mixed:=by kernel_rfl
 f5:=⟨Tryz.f80.name,by decide,Tryz.func80.trans (congrArg some (by kernel_rfl))⟩
 f7:=Tryz.func125.trans (congrArg some (by kernel_rfl))
 t4:=Tryz.underlying4
 a4:=Tryz.isAgg4
 z4:=Tryz.sizeOf4
 v4:=Tryz.zeroValue4
 t20:=Tryz.underlying20
 a20:=Tryz.isAgg20
 z20:=Tryz.sizeOf20
 v20:=Tryz.zeroValue20
 t23:=Tryz.underlying138
 a23:=Tryz.isAgg138
 z23:=Tryz.sizeOf138
 v23:=Tryz.zeroValue138}
end Go.Proofs
noncomputable section
namespace Go.Eng.Sh
open Go.Proofs
set_option maxRecDepth 100000
def y (l:T TypeInfo)(v:TypeInfo)(r:T TypeInfo):T TypeInfo:= .node l (some v) r
abbrev o:T TypeInfo:= .leaf
noncomputable def TX:T TypeInfo:=(y (y (y (y (y (y (y (y (y o Tryz.t255 o) Tryz.t127 o) Tryz.t63 (y (y o Tryz.t319 o) Tryz.t191 o)) Tryz.t31 (y (y (y o Tryz.t287 o) Tryz.t159 o) Tryz.t95 (y (y o Tryz.t351 o) Tryz.t223 o))) Tryz.t15 (y (y (y (y o Tryz.t271 o) Tryz.t143 o) Tryz.t79 (y (y o Tryz.t335 o) Tryz.t207 o)) Tryz.t47 (y (y (y o Tryz.t303 o) Tryz.t175 o) Tryz.t111 (y o Tryz.t239 o)))) Tryz.t7 (y (y (y (y (y o Tryz.t263 o) Tryz.t135 o) Tryz.t71 (y (y o Tryz.t327 o) Tryz.t199 o)) Tryz.t39 (y (y (y o Tryz.t295 o) Tryz.t167 o) Tryz.t103 (y o Tryz.t231 o))) Tryz.t23 (y (y (y (y o Tryz.t279 o) Tryz.t151 o) Tryz.t87 (y (y o Tryz.t343 o) Tryz.t215 o)) Tryz.t55 (y (y (y o Tryz.t311 o) Tryz.t183 o) Tryz.t119 (y o Tryz.t247 o))))) Tryz.t3 (y (y (y (y (y (y o Tryz.t259 o) Tryz.t131 o) Tryz.t67 (y (y o Tryz.t323 o) Tryz.t195 o)) Tryz.t35 (y (y (y o Tryz.t291 o) Tryz.t163 o) Tryz.t99 (y o Tryz.t227 o))) Tryz.t19 (y (y (y (y o Tryz.t275 o) Tryz.t147 o) Tryz.t83 (y (y o Tryz.t339 o) Tryz.t211 o)) Tryz.t51 (y (y (y o Tryz.t307 o) Tryz.t179 o) Tryz.t115 (y o Tryz.t243 o)))) Tryz.t11 (y (y (y (y (y o Tryz.t267 o) Tryz.t139 o) Tryz.t75 (y (y o Tryz.t331 o) Tryz.t203 o)) Tryz.t43 (y (y (y o Tryz.t299 o) Tryz.t171 o) Tryz.t107 (y o Tryz.t235 o))) Tryz.t27 (y (y (y (y o Tryz.t283 o) Tryz.t155 o) Tryz.t91 (y (y o Tryz.t347 o) Tryz.t219 o)) Tryz.t59 (y (y (y o Tryz.t315 o) Tryz.t187 o) Tryz.t123 (y o Tryz.t251 o)))))) Tryz.t1 (y (y (y (y (y (y (y o Tryz.t257 o) Tryz.t129 o) Tryz.t65 (y (y o Tryz.t321 o) Tryz.t193 o)) Tryz.t33 (y (y (y o Tryz.t289 o) Tryz.t161 o) Tryz.t97 (y o Tryz.t225 o))) Tryz.t17 (y (y (y (y o Tryz.t273 o) Tryz.t145 o) Tryz.t81 (y (y o Tryz.t337 o) Tryz.t209 o)) Tryz.t49 (y (y (y o Tryz.t305 o) Tryz.t177 o) Tryz.t113 (y o Tryz.t241 o)))) Tryz.t9 (y (y (y (y (y o Tryz.t265 o) Tryz.t137 o) Tryz.t73 (y (y o Tryz.t329 o) Tryz.t201 o)) Tryz.t41 (y (y (y o Tryz.t297 o) Tryz.t169 o) Tryz.t105 (y o Tryz.t233 o))) Tryz.t25 (y (y (y (y o Tryz.t281 o) Tryz.t153 o) Tryz.t89 (y (y o Tryz.t345 o) Tryz.t217 o)) Tryz.t57 (y (y (y o Tryz.t313 o) Tryz.t185 o) Tryz.t121 (y o Tryz.t249 o))))) Tryz.t5 (y (y (y (y (y (y o Tryz.t261 o) Tryz.t133 o) Tryz.t69 (y (y o Tryz.t325 o) Tryz.t197 o)) Tryz.t37 (y (y (y o Tryz.t293 o) Tryz.t165 o) Tryz.t101 (y o Tryz.t229 o))) Tryz.t21 (y (y (y (y o Tryz.t277 o) Tryz.t149 o) Tryz.t85 (y (y o Tryz.t341 o) Tryz.t213 o)) Tryz.t53 (y (y (y o Tryz.t309 o) Tryz.t181 o) Tryz.t117 (y o Tryz.t245 o)))) Tryz.t13 (y (y (y (y (y o Tryz.t269 o) Tryz.t141 o) Tryz.t77 (y (y o Tryz.t333 o) Tryz.t205 o)) Tryz.t45 (y (y (y o Tryz.t301 o) Tryz.t173 o) Tryz.t109 (y o Tryz.t237 o))) Tryz.t29 (y (y (y (y o Tryz.t285 o) Tryz.t157 o) Tryz.t93 (y (y o Tryz.t349 o) Tryz.t221 o)) Tryz.t61 (y (y (y o Tryz.t317 o) Tryz.t189 o) Tryz.t125 (y o Tryz.t253 o))))))) Tryz.t0 (y (y (y (y (y (y (y (y o Tryz.t256 o) Tryz.t128 o) Tryz.t64 (y (y o Tryz.t320 o) Tryz.t192 o)) Tryz.t32 (y (y (y o Tryz.t288 o) Tryz.t160 o) Tryz.t96 (y o Tryz.t224 o))) Tryz.t16 (y (y (y (y o Tryz.t272 o) Tryz.t144 o) Tryz.t80 (y (y o Tryz.t336 o) Tryz.t208 o)) Tryz.t48 (y (y (y o Tryz.t304 o) Tryz.t176 o) Tryz.t112 (y o Tryz.t240 o)))) Tryz.t8 (y (y (y (y (y o Tryz.t264 o) Tryz.t136 o) Tryz.t72 (y (y o Tryz.t328 o) Tryz.t200 o)) Tryz.t40 (y (y (y o Tryz.t296 o) Tryz.t168 o) Tryz.t104 (y o Tryz.t232 o))) Tryz.t24 (y (y (y (y o Tryz.t280 o) Tryz.t152 o) Tryz.t88 (y (y o Tryz.t344 o) Tryz.t216 o)) Tryz.t56 (y (y (y o Tryz.t312 o) Tryz.t184 o) Tryz.t120 (y o Tryz.t248 o))))) Tryz.t4 (y (y (y (y (y (y o Tryz.t260 o) Tryz.t132 o) Tryz.t68 (y (y o Tryz.t324 o) Tryz.t196 o)) Tryz.t36 (y (y (y o Tryz.t292 o) Tryz.t164 o) Tryz.t100 (y o Tryz.t228 o))) Tryz.t20 (y (y (y (y o Tryz.t276 o) Tryz.t148 o) Tryz.t84 (y (y o Tryz.t340 o) Tryz.t212 o)) Tryz.t52 (y (y (y o Tryz.t308 o) Tryz.t180 o) Tryz.t116 (y o Tryz.t244 o)))) Tryz.t12 (y (y (y (y (y o Tryz.t268 o) Tryz.t140 o) Tryz.t76 (y (y o Tryz.t332 o) Tryz.t204 o)) Tryz.t44 (y (y (y o Tryz.t300 o) Tryz.t172 o) Tryz.t108 (y o Tryz.t236 o))) Tryz.t28 (y (y (y (y o Tryz.t284 o) Tryz.t156 o) Tryz.t92 (y (y o Tryz.t348 o) Tryz.t220 o)) Tryz.t60 (y (y (y o Tryz.t316 o) Tryz.t188 o) Tryz.t124 (y o Tryz.t252 o)))))) Tryz.t2 (y (y (y (y (y (y (y o Tryz.t258 o) Tryz.t130 o) Tryz.t66 (y (y o Tryz.t322 o) Tryz.t194 o)) Tryz.t34 (y (y (y o Tryz.t290 o) Tryz.t162 o) Tryz.t98 (y o Tryz.t226 o))) Tryz.t18 (y (y (y (y o Tryz.t274 o) Tryz.t146 o) Tryz.t82 (y (y o Tryz.t338 o) Tryz.t210 o)) Tryz.t50 (y (y (y o Tryz.t306 o) Tryz.t178 o) Tryz.t114 (y o Tryz.t242 o)))) Tryz.t10 (y (y (y (y (y o Tryz.t266 o) Tryz.t138 o) Tryz.t74 (y (y o Tryz.t330 o) Tryz.t202 o)) Tryz.t42 (y (y (y o Tryz.t298 o) Tryz.t170 o) Tryz.t106 (y o Tryz.t234 o))) Tryz.t26 (y (y (y (y o Tryz.t282 o) Tryz.t154 o) Tryz.t90 (y (y o Tryz.t346 o) Tryz.t218 o)) Tryz.t58 (y (y (y o Tryz.t314 o) Tryz.t186 o) Tryz.t122 (y o Tryz.t250 o))))) Tryz.t6 (y (y (y (y (y (y o Tryz.t262 o) Tryz.t134 o) Tryz.t70 (y (y o Tryz.t326 o) Tryz.t198 o)) Tryz.t38 (y (y (y o Tryz.t294 o) Tryz.t166 o) Tryz.t102 (y o Tryz.t230 o))) Tryz.t22 (y (y (y (y o Tryz.t278 o) Tryz.t150 o) Tryz.t86 (y (y o Tryz.t342 o) Tryz.t214 o)) Tryz.t54 (y (y (y o Tryz.t310 o) Tryz.t182 o) Tryz.t118 (y o Tryz.t246 o)))) Tryz.t14 (y (y (y (y (y o Tryz.t270 o) Tryz.t142 o) Tryz.t78 (y (y o Tryz.t334 o) Tryz.t206 o)) Tryz.t46 (y (y (y o Tryz.t302 o) Tryz.t174 o) Tryz.t110 (y o Tryz.t238 o))) Tryz.t30 (y (y (y (y o Tryz.t286 o) Tryz.t158 o) Tryz.t94 (y (y o Tryz.t350 o) Tryz.t222 o)) Tryz.t62 (y (y (y o Tryz.t318 o) Tryz.t190 o) Tryz.t126 (y o Tryz.t254 o))))))))
def X:Cx:=⟨TX,[(42,[6,6,10]),(48,[2,2]),(55,(List.replicate 512 7)),(133,[2,2,2,0,0]),(230,[2,2,2,0,0])]⟩
theorem TX_eq:TX=(T.ofList 0 PP.types.toList .leaf).getD .leaf:=by kernel_rfl
theorem X_ok:Ok PP X:=by
 have h:=cx_ok (P:=PP) (fl:=X.fl) (by kernel_rfl) (by kernel_rfl);rw[<-TX_eq]at h;exact h
structure FY (B:Tb)(D:Dyn)(n:Nat)(i:FuncId)(f:Func)(h:Hint)(N:Nms) where
 mk::
 {g:List AV->AH->Option (AV×AH)}
 p:g=fun vs H=>funS B D n i f h N vs H:=by conv=>rhs;reduce
structure PY (B:Tb)(D:Dyn)(n:Nat)(i:FuncId)(f:Func)(h:Hint)(N:Nms)(k:Nat) where
 mk::
 {g:List AV->AH->Rs}
 p:some g=prtF B D n i f h N k:=by conv=>rhs;reduce
structure RY (B:Tb)(D:Dyn)(n:Nat)(i:FuncId)(s:Nat)(L ids:List Nat)(a b:Hint)(N:Nms) where
 mk::
 {g:Nat->ALoop->List AV->AH->Option (AV×AH)}
 p:g=fun A l az H=>rndS B D n i s L ids a b N A l az H:=by conv=>rhs;reduce
structure QY (B:Tb)(D:Dyn)(n:Nat)(i:FuncId)(s:Nat)(ids:List Nat)(b:Hint)(N:Nms)(k:Nat) where
 mk::
 {g:List AV->AH->Rs}
 p:some g=prtR B D n i s ids b N k:=by conv=>rhs;reduce
def Hr:Hint:= .s .o .o
def Hq:Hint:= .s .o (.cl Hr .o)
def sn:SOk []:=SOk.nil
def sc (i:FI q h)(t:SOk v):SOk ((q,h)::v):=SOk.cons i.fs t
theorem fk (n:Nat)(i:Hint)(j:DG e)(f:SOk v)(o:PP.funcs[q]? =some m)(p:zBp m i=true:=by kernel_rfl)(D:h=zOm ⟨X,v⟩ e n q m i:=by kernel_rfl):FI q h:=zQt X_ok j f o p D
def t0 (_:Dyn)(_:Nat):Tb:=⟨X,[]⟩
def ad (B:Tb)(i:Nat)(f:List AV->AH->Option (AV×AH)):Tb:=⟨X,(i,f)::B.S⟩
abbrev KO (s:Dyn->Nat->Tb):Prop:= ∀ {D:Dyn},DG D-> ∀n:Nat,SOk (s D n).S
def k0:KO t0:=fun _ _=>trivial
theorem kk {s:Dyn->Nat->Tb}(k:KO s)(h:Hint)(f:PP.funcs[q]? =some m)(o:zBp m h=true:=by kernel_rfl)(p: ∀D n,J D n=zOm ⟨X,(s D n).S⟩ D n q m h:=by intro D n;kernel_rfl):KO (fun D n=>ad (s D n) q (J D n)):=fun j n=>sc (fk n h j (k j n) f o (p _ n)) (k j n)
def kc {s:Dyn->Nat->Tb}(k:KO s)(h: ∀ {D:Dyn},DG D-> ∀n:Nat,FI q (J D n)):KO (fun D n=>ad (s D n) q (J D n)):=fun a n=>sc (h a n) (k a n)
noncomputable def UH:ML:=mlOf (zR1 Tryz.f126 [1,1,1,0])
theorem zDd:UH.Fits 69:=by constructor<;>first | kernel_rfl | exact of_decide_eq_true (by kernel_rfl)
noncomputable def zDr:Hint:= .o
noncomputable def zEk (vs:List AV)(H:AH):Rs:=
 hd vs fun a vs=>hd vs fun m vs=>hd vs fun x4 vs=>
 bV (uW a) fun f=>
 bV (fAd 2 f) fun h=>
 bV (ld1 h H) fun j=>
 some (.norm (j::[a,m,x4]),H)
theorem zDf:UH.preK ⟨X,[]⟩ VY 69 [0,3,4]=zEk:=by kernel_rfl
noncomputable def zHj (I:Nat)(vs:List AV)(k v:AV)(H:AH):Rs:=
 hd vs fun q vs=>hd vs fun t vs=>hd vs fun x4 vs=>
 bV (jN (.tuple [k,v]) 0) fun f=>
 bV (jN (.tuple [k,v]) 1) fun h=>
 bA (bxV 119 (.agg [(.bool false), .nS, .nS, .nS])) H fun a H=>
 bR (stN 4 a h H) fun x H=>
 bV (uW x4) fun j=>
 bV (fAd 5 j) fun m=>
 bV (ld1 m H) fun o=>
 bV (ldN 4 a H) fun p=>
 bR (upM [10] o f p H) fun u H=>
 some (.norm [(.ptr I 0),q,t,x4],H)
theorem zFF:UH.roundK ⟨X,[]⟩ VY 0 69 zDr [0,3,4]=zHj:=by kernel_rfl
noncomputable def bO (vs:List AV)(H:AH):Option AH:=match vs with
 | [.ptr C p,x3, .ptr E o]=>match ld1 (.ptr C (p+2)) H with
  | some (.map M)=>match ld1 (.ptr E (o+5)) H with
   | some (.map A)=>bif Nat.blt M H.next&&Nat.blt A H.next&&Nat.blt E H.next then zNf [10] 1 (isAg 4) (.map M) (.map A) H else none
   | _=>none
  | _=>none
 | _=>none
theorem zBN: ∀vs H H',bO vs H=some H'->Nonempty (UH.Plan ⟨X,[]⟩ VY 0 69 zDr [0,3,4] vs H H'):=by
 intro vs H H' h;unfold bO at h;split at h
 .rename_i C p x3 E o;split at h
  .rename_i M S;split at h
   .rename_i A a1;rw[zF]at h;split at h
    .rename_i K;simp only[zE,qE]at K;obtain⟨⟨hM,hA⟩,hE⟩:=K;obtain⟨l,e,sz,g,m,x⟩:=zKV a1;have u:=zGt h;refine zNc h ?_ ?_ hM hA ?_
     .rw[zDf];simp only[zEk,hd,bV,uW,fAd,kF,S]
     .intro k v a e0 a2 N a3 hk a4 O _ _;obtain⟨cs,rfl,hl,a5⟩:=zI9 a2;have a6:E≠M:=fun e=>by subst e;obtain⟨⟨_,_,f⟩,_⟩:=u;rw[m]at f;simp at f
      have a7:E≠A:=fun e=>by subst e;obtain⟨_,_,_,f⟩:=u;rw[m]at f;simp at f
      have a8:a.h.get E=some (.cells l e sz g):=by rw[N E hE a6 a7];exact m
      obtain⟨t1,a9,Y⟩:=zHU (.cells [(.bool false), .nS, .nS, .nS] 119 1 false) (O a.next (zM _) (by omega))
      have q:=T.get_set _ _ _ _ _ a9;obtain⟨t2,b0,y⟩:=zNu (n:=4) (H:=⟨t1,a.next+1⟩) (A:=a.next) (cs:=cs) (by rw[q,if_pos rfl]) rfl hl a5 rfl
      have j:=T.get_set _ _ _ _ _ b0;simp only at j y;have b1:t2.get A=some (.map [10] e0):=by rw[j,if_neg (by omega),q,if_neg (by omega)];exact a3
      obtain⟨t3,b2,J⟩:=zNe (v:= .agg cs) (H:=⟨t2,a.next+1⟩) hk b1
      have t:=T.get_set _ _ _ _ _ b2;simp only at t J;have Z:ld1 (.ptr E (o+5)) ⟨t2,a.next+1⟩=some (.map A):=zQa (l:=l) (e:=e) (sz:=sz) (g:=g) (by simp only[j,q];rw[if_neg (by omega),if_neg (by omega)];exact a8) x
      have a0:ldN 4 (.ptr a.next 0) ⟨t2,a.next+1⟩=some (.agg cs):=zO8 (by show t2.get a.next=_;rw[j,if_pos rfl]) hl
      refine⟨⟨t3,a.next+1⟩, ?_,rfl, ?_,fun C hC a4=> ?_⟩
      .rw[zFF];simp only[zHj,hd,bV,bR,jN,nth,bA,bxV,jU,Y,y,uW,fAd,kF,Z,a0,J]
      .simp only[t,if_true]
      .simp only[t,if_neg hC,j,q];rw[if_neg (by omega),if_neg (by omega)]
     .intro R0 w0 hR hv;obtain⟨z,hz⟩:=hv (.ptr E o) (by simp);obtain⟨b,d,c,hr,_⟩:=hz;exact zL0 hR hr m x
    .simp at h
   .simp at h
  .simp at h
 .simp at h
def zGA:VJ PP 69 126 UH.code [0,3,4] bO:=zNb X_ok zDd (by decide+kernel) (by decide+kernel) (hb:=zDr) (by kernel_rfl) (kt:=40) (vt:=119) (by kernel_rfl) zBN
end Go.Eng.Sh
end
noncomputable section
namespace Go.Eng.Sh
open Go.Proofs
set_option maxRecDepth 100000
variable (D:Dyn)(n:Nat)
attribute [local irreducible] bV bR hd cnd jn jb kJ wnt chk VN bA wU d7 K5 dS eqP eqS eqM eqF eqA zPo ldN ld1 stN cvI zPs zF3 zMY VS vN xJ fQ dV XG zC1 zFT fd1 fdN fAd XC lnSl QR apP apZ cpy vJ zLz pk3 s2a bxV dW zHV lkM upM dlM mkM callV nl dG tld zMU uR KH fT zEE rfC mn2 mx2 aun jN uW jQ isW aveq bO
def h85:Hint:=(.s .o Hr)
@[irreducible]def f85:=(.mk:FY (t0 D n) D n 85 Tryz.f85 h85 []).1
def t1:=ad (t0 D n) 85 (f85 D n)
def k1:KO t1:=kk k0 (ms h85) Tryz.func85
def h32:Hint:=(.s .o (.s Hq Hr))
@[irreducible]def f32:=(.mk:FY (t1 D n) D n 32 Tryz.f32 h32 []).1
def t2:=ad (t1 D n) 32 (f32 D n)
def k2:KO t2:=kk k1 (ms h32) Tryz.func32
def h86:Hint:=(.s (.b [15,32767] .o) (.s (.b [10,1023] .o) .o))
@[irreducible]def f86:=(.mk:FY (t2 D n) D n 86 Tryz.f86 h86 []).1
def zIt (a:DG e)(n:Nat):FI 86 (f86 e n):=fk n (ms h86) a (k2 a n) Tryz.func86
def t3:=ad (t2 D n) 86 (f86 D n)
def k3:KO t3:=kc k2 zIt
def s34:Tb:=⟨X,[(86,f86 D n)]⟩
@[irreducible]def zCf (D:Dyn)(n:Nat)(vs:List AV)(H:AH):Rs:=
 hd vs fun x4 vs=>hd vs fun a vs=>
 bV (wU .lss a (.int .i64 (.ofNat 2))) fun f=>
 cnd f (bR (f86 D n [x4,a,(.int .u8 (.ofNat 1))] H) fun j H=>
 bV (wU .add a (.int .i64 (.ofNat 1))) fun h=>
 some (.norm [x4,h],H))
 (some (.exit 0 [x4],H))
@[irreducible]def zQH (D:Dyn)(n:Nat)(vs:List AV)(H:AH):Rs:=
 hd vs fun a vs=>
 bV (some a) fun f=>bV (some (.int .i64 (.ofNat 0))) fun h=>some (.ret (.tuple [f,h]),H)
@[irreducible]def f34 (D:Dyn)(n:Nat)(vs:List AV)(H:AH):Option (AV×AH):=
 dG (hd vs fun a vs=>nl vs <|
 bV (wU .lss a (.int .i64 (.ofNat 64))) fun h=>
 jn (wnt h false (bV (wU .gtr a (.int .i64 (.ofNat 8192))) fun m=>
 some (.norm [m],H)) (some (.norm [jQ],H))) fun vs H=>hd vs fun j vs=>
 bV (pk3 (some h) (some (.bool true)) (some j)) fun o=>
 cnd o (bV (some .nP) fun x=>bV (some (.int .i64 (.ofNat 1))) fun y=>some (.ret (.tuple [x,y]),H))
 (bV (vJ [(0,1),(1,1),(2,8192),(8194,4)] ([(.int .i64 (.ofNat 0)),(.int .i64 (.ofNat 0))]++rep 8192 [(.int .u8 (.ofNat 0))]++[(.int .i64 (.ofNat 0)),(.int .i64 (.ofNat 0)),(.int .i64 (.ofNat 0)),(.int .i64 (.ofNat 0))]) [(0,a)]) fun p=>
 bA (bxV 145 p) H fun f H=>
 bV (uW f) fun q=>
 bV (fAd 8194 q) fun t=>
 bV (fQ 4 1 t (.int .u8 (.ofNat 0))) fun u=>
 bR (stN 1 u a H) fun z H=>
 jb 0 (kJ n (zCf D n) [f,(.int .i64 (.ofNat 0))] H) (zQH D n)))
def h34:Hint:=(.s .o (.s Hq (.s .o (.s .o (.s (.s .o (.b [4] (.l [4,20] (.s .o (.s (.cr .o .o) (.s (.b0 Hr) .o)))))) Hr)))))
def t4:=ad (t3 D n) 34 (f34 D n)
def k4:KO t4:=kk k3 h34 Tryz.func34
def h118:Hint:=(.s .o (.s Hq Hr))
@[irreducible]def f118:=(.mk:FY (t4 D n) D n 118 Tryz.f118 h118 []).1
def t5:=ad (t4 D n) 118 (f118 D n)
def k5:KO t5:=kk k4 (ms h118) Tryz.func118
def h119:Hint:=(.s .o (.b [1] (.l [0,0,1,6,7] (.s .o (.s (.cr .o .o) (.s (.b0 Hr) .o))))))
@[irreducible]def BG:=(.mk:PY (t5 D n) D n 119 Tryz.f119 h119 [] 0).1
@[irreducible]def zMP:=(.mk:PY (t5 D n) D n 119 Tryz.f119 h119 [BG D n] 1).1
@[irreducible]def f119:=(.mk:FY (t5 D n) D n 119 Tryz.f119 h119 [BG D n,zMP D n]).1
def t6:=ad (t5 D n) 119 (f119 D n)
def k6:KO t6:=kk k5 (ms h119) Tryz.func119
def s72:Tb:=⟨X,[(118,f118 D n),(119,f119 D n)]⟩
@[irreducible]def f72 (D:Dyn)(n:Nat)(vs:List AV)(H:AH):Option (AV×AH):=
 dG (hd vs fun J vs=>nl vs <|
 bA (bxV 42 J) H fun a H=>
 bV (ldN 3 a H) fun K=>
 bR (f118 D n [K] H) fun x6 H=>
 bV (aun .not x6) fun N=>
 cnd N (bV (some (.str 0 0)) fun O=>bV (some (.int .i64 (.ofNat 4))) fun S=>some (.ret (.tuple [O,S]),H))
 (bA (bxV 232 (.agg (rep 16 [(.int .u8 (.ofNat 0))]))) H fun x4 H=>
 bV (xJ 16 1 x4 none (some (.int .i64 (.ofNat 4))) none) fun T=>
 bV (fAd 0 a) fun Y=>
 bV (ld1 Y H) fun j=>
 bV (cvI .u64 j) fun m=>
 bR (f119 D n [T,m] H) fun Z H=>
 bV (xJ 16 1 x4 (some (.int .i64 (.ofNat 4))) (some (.int .i64 (.ofNat 8))) none) fun o=>
 bV (fAd 1 a) fun p=>
 bV (ld1 p H) fun q=>
 bV (cvI .u64 q) fun t=>
 bR (f119 D n [o,t] H) fun a0 H=>
 bV (xJ 16 1 x4 (some (.int .i64 (.ofNat 8))) none none) fun u=>
 bV (fAd 2 a) fun x=>
 bV (ld1 x H) fun y=>
 bR (f119 D n [u,y] H) fun a1 H=>
 bV (xJ 16 1 x4 none none none) fun z=>
 bV (zF3 z H) fun C=>
 bV (some C) fun f=>bV (some (.int .i64 (.ofNat 0))) fun h=>some (.ret (.tuple [f,h]),H)))
def h72:Hint:=(.s .o (.s Hq (.s .o (.s .o (.s .o (.s .o Hr))))))
def t7:=ad (t6 D n) 72 (f72 D n)
def k7:KO t7:=kk k6 h72 Tryz.func72
def h18:Hint:=(.s .o (.s Hq (.s (.s .o Hq) Hr)))
@[irreducible]def f18:=(.mk:FY (t7 D n) D n 18 Tryz.f18 h18 []).1
def t8:=ad (t7 D n) 18 (f18 D n)
def k8:KO t8:=kk k7 (ms h18) Tryz.func18
def h73:Hint:=(.s .o Hr)
@[irreducible]def f73:=(.mk:FY (t8 D n) D n 73 Tryz.f73 h73 []).1
def t9:=ad (t8 D n) 73 (f73 D n)
def k9:KO t9:=kk k8 (ms h73) Tryz.func73
def h127:Hint:=(.s .o (.s .o (.s (.b [9,511] .o) Hr)))
@[irreducible]def f127:=(.mk:FY (t9 D n) D n 127 Tryz.f127 h127 []).1
def zIN (a:DG e)(n:Nat):FI 127 (f127 e n):=fk n (ms h127) a (k9 a n) Tryz.func127
def t10:=ad (t9 D n) 127 (f127 D n)
def k10:KO t10:=kc k9 zIN
def zOj:Hint:=(.s .o (.s .o (.s (.s .o (.b [2,0,3,4] (.l [1,0,3,4,16,17,18] (.s .o (.s (.cr .o .o) (.s (.b0 (.s .o (.s .o (.c [0,0,3,4,16,17,18] (.b [6,63] .o) (.b [7,126,10,1023] .o))))) .o)))))) (.s (.t [0,3,4] bO) Hr))))
@[irreducible]def zCm:=(.mk:PY ⟨X,[]⟩ D n 126 Tryz.f126 zOj [] 0).1
@[irreducible]def XU:=(.mk:PY ⟨X,[]⟩ D n 126 Tryz.f126 zOj [zCm D n] 1).1
@[irreducible]def zML:=(.mk:PY ⟨X,[]⟩ D n 126 Tryz.f126 zOj [zCm D n,XU D n] 2).1
@[irreducible]def f126:=(.mk:FY ⟨X,[]⟩ D n 126 Tryz.f126 zOj [zCm D n,XU D n,zML D n]).1
theorem zOA (D:Dyn)(n:Nat):f126 D n=zOm ⟨X,[]⟩ D n 126 Tryz.f126 (ms zOj):=by kernel_rfl
theorem zG2:zE0 Tryz.f126 (ms zOj)=[(UH.code,[0,3,4],bO)]:=by kernel_rfl
theorem zIO: ∀x∈zE0 Tryz.f126 (ms zOj),VJ PP Tryz.f126.ntmps 126 x.1 x.2.1 x.2.2:=by
 rw[zG2];intro x a;simp only[zK,List.not_mem_nil,or_false]at a;subst a;exact zGA
def zIP (a:DG e)(n:Nat):FI 126 (f126 e n):=zOl X_ok a sn Tryz.func126 (zH3 (by kernel_rfl) zIO) (zOA e n)
def t11:=ad (t10 D n) 126 (f126 D n)
def k11:KO t11:=kc k10 zIP
def zPm:Hint:=(.s .o (.s .o (.s (.s .o (.b [3,1,3] (.l [0,1,3,14,15,16] (.s .o (.s (.cr .o .o) (.s (.b0 Hr) .o)))))) (.s (.s .o (.b [2,3] (.l [1,3,27,28,29] (.s .o (.s (.cr .o .o) (.s (.b0 Hr) .o)))))) Hr))))
@[irreducible]def JQ:=(.mk:PY (t11 D n) D n 110 Tryz.f110 zPm [] 0).1
@[irreducible]def XW:=(.mk:PY (t11 D n) D n 110 Tryz.f110 zPm [JQ D n] 1).1
@[irreducible]def zIQ:=(.mk:PY (t11 D n) D n 110 Tryz.f110 zPm [JQ D n,XW D n] 2).1
@[irreducible]def zMR:=(.mk:PY (t11 D n) D n 110 Tryz.f110 zPm [JQ D n,XW D n,zIQ D n] 3).1
@[irreducible]def f110:=(.mk:FY (t11 D n) D n 110 Tryz.f110 zPm [JQ D n,XW D n,zIQ D n,zMR D n]).1
def zIR (a:DG e)(n:Nat):FI 110 (f110 e n):=fk n (ms zPm) a (k11 a n) Tryz.func110
def t12:=ad (t11 D n) 110 (f110 D n)
def k12:KO t12:=kc k11 zIR
def h137:Hint:=(.s .o Hr)
@[irreducible]def f137:=(.mk:FY (t12 D n) D n 137 Tryz.f137 h137 []).1
def t13:=ad (t12 D n) 137 (f137 D n)
def k13:KO t13:=kk k12 (ms h137) Tryz.func137
def zMn:Hint:=(.s .o (.s (.s .o (.b [5,1] (.l [0,1,10,11,12] (.s .o (.s (.cr .o .o) (.s (.b0 (.s .o Hq)) .o)))))) (.s (.s .o (.cl (.s Hq (.s (.s .o (.b [2] (.l [1,51,52,53] (.s .o (.s (.cr .o .o) (.s (.b0 (.s .o Hq)) .o)))))) Hr)) .o)) (.s Hq (.s (.s .o (.b [4] (.l [3,82,83,84] (.s .o (.s (.cr .o .o) (.s (.b0 (.s .o Hq)) .o)))))) Hr)))))
@[irreducible]def fS:=(.mk:PY (t13 D n) D n 109 Tryz.f109 zMn [] 0).1
@[irreducible]def Y3:=(.mk:PY (t13 D n) D n 109 Tryz.f109 zMn [fS D n] 1).1
@[irreducible]def BH:=(.mk:PY (t13 D n) D n 109 Tryz.f109 zMn [fS D n,Y3 D n] 2).1
@[irreducible]def XX:=(.mk:PY (t13 D n) D n 109 Tryz.f109 zMn [fS D n,Y3 D n,BH D n] 3).1
@[irreducible]def zEX:=(.mk:PY (t13 D n) D n 109 Tryz.f109 zMn [fS D n,Y3 D n,BH D n,XX D n] 4).1
@[irreducible]def JR:=(.mk:PY (t13 D n) D n 109 Tryz.f109 zMn [fS D n,Y3 D n,BH D n,XX D n,zEX D n] 5).1
@[irreducible]def f109:=(.mk:FY (t13 D n) D n 109 Tryz.f109 zMn [fS D n,Y3 D n,BH D n,XX D n,zEX D n,JR D n]).1
def zIS (a:DG e)(n:Nat):FI 109 (f109 e n):=fk n (ms zMn) a (k13 a n) Tryz.func109
def t14:=ad (t13 D n) 109 (f109 D n)
def k14:KO t14:=kc k13 zIS
def zPk:Hint:=(.s .o (.s .o (.s .o (.s .o (.s (.s .o (.c [3,1,3,4,5] Hr .o)) (.s (.s .o (.b [2,4] (.l [1,1,3,4,5,20,21] (.s .o (.s (.cr .o .o) (.s (.b0 (.s .o (.s .o (.s (.s .o (.c [0,1,3,4,5,6,20,21] .o .o)) Hq)))) .o)))))) Hr))))))
@[irreducible]def cR:=(.mk:PY (t14 D n) D n 227 Tryz.f227 zPk [] 0).1
@[irreducible]def QX:=(.mk:PY (t14 D n) D n 227 Tryz.f227 zPk [cR D n] 1).1
@[irreducible]def zEO:=(.mk:PY (t14 D n) D n 227 Tryz.f227 zPk [cR D n,QX D n] 2).1
@[irreducible]def zCh:=(.mk:PY (t14 D n) D n 227 Tryz.f227 zPk [cR D n,QX D n,zEO D n] 3).1
@[irreducible]def f227:=(.mk:FY (t14 D n) D n 227 Tryz.f227 zPk [cR D n,QX D n,zEO D n,zCh D n]).1
def t15:=ad (t14 D n) 227 (f227 D n)
def k15:KO t15:=kk k14 (ms zPk) Tryz.func227
def h108:Hint:=(.s .o (.s Hq Hr))
@[irreducible]def f108:=(.mk:FY (t15 D n) D n 108 Tryz.f108 h108 []).1
def t16:=ad (t15 D n) 108 (f108 D n)
def k16:KO t16:=kk k15 (ms h108) Tryz.func108
def h81:Hint:=(.s .o (.s Hq Hr))
@[irreducible]def f81:=(.mk:FY (t16 D n) D n 81 Tryz.f81 h81 []).1
def t17:=ad (t16 D n) 81 (f81 D n)
def k17:KO t17:=kk k16 (ms h81) Tryz.func81
def h213:Hint:=(.s .o (.s Hq (.s .o (.s (.b [5,19,7,127] .o) (.s .o (.s (.s .o (.c [0,1,2,4,6] (.s .o (.c [5,31,10,1023,12,4095,14,16383] (.l [0,1,2,3,4,6,7,8,9,5,11,10,12,13,14] .o) .o)) (.s .o (.c [7,127,13,8191,15,32767,17,131071] (.l [0,1,2,3,4,5,6,8,9,10,11,12,7,14,13,15,16,17] .o) .o)))) (.s (.b [7,1,9,511] .o) .o)))))))
@[irreducible]def zIz:=(.mk:PY (t17 D n) D n 213 Tryz.f213 h213 [] 0).1
@[irreducible]def f213:=(.mk:FY (t17 D n) D n 213 Tryz.f213 h213 [zIz D n]).1
def t18:=ad (t17 D n) 213 (f213 D n)
def k18:KO t18:=kk k17 (ms h213) Tryz.func213
def h177:Hint:=(.s .o (.s .o (.s .o (.s (.b [1,1,5,6] (.l [0,1,5,6] (.s (.s .o (.cr .o .o)) (.b0 (.s .o (.s Hq (.s .o Hr))))))) Hr))))
@[irreducible]def zCi:=(.mk:PY (t18 D n) D n 177 Tryz.f177 h177 [] 0).1
@[irreducible]def zMJ:=(.mk:PY (t18 D n) D n 177 Tryz.f177 h177 [zCi D n] 1).1
@[irreducible]def f177:=(.mk:FY (t18 D n) D n 177 Tryz.f177 h177 [zCi D n,zMJ D n]).1
def t19:=ad (t18 D n) 177 (f177 D n)
def k19:KO t19:=kk k18 (ms h177) Tryz.func177
def h179:Hint:=(.s .o (.s .o (.s (.s .o (.b [1,5] (.l [0,0,5,8,9,10] (.s .o (.s (.cr .o .o) (.s (.b0 Hr) .o)))))) Hr)))
@[irreducible]def BA:=(.mk:PY (t19 D n) D n 179 Tryz.f179 h179 [] 0).1
@[irreducible]def zMH:=(.mk:PY (t19 D n) D n 179 Tryz.f179 h179 [BA D n] 1).1
@[irreducible]def f179:=(.mk:FY (t19 D n) D n 179 Tryz.f179 h179 [BA D n,zMH D n]).1
def t20:=ad (t19 D n) 179 (f179 D n)
def k20:KO t20:=kk k19 (ms h179) Tryz.func179
def h131:Hint:=(.s .o (.s (.s .o (.cl (.s (.s .o (.c [0] .o .o)) Hr) .o)) (.s .o (.s Hq (.s .o (.s (.s .o (.c [1] .o .o)) Hr))))))
@[irreducible]def zET:=(.mk:PY (t20 D n) D n 131 Tryz.f131 h131 [] 0).1
@[irreducible]def zIJ:=(.mk:PY (t20 D n) D n 131 Tryz.f131 h131 [zET D n] 1).1
@[irreducible]def f131:=(.mk:FY (t20 D n) D n 131 Tryz.f131 h131 [zET D n,zIJ D n]).1
def zIK (a:DG e)(n:Nat):FI 131 (f131 e n):=fk n (ms h131) a (k20 a n) Tryz.func131
def t21:=ad (t20 D n) 131 (f131 D n)
def k21:KO t21:=kc k20 zIK
def h76:Hint:=(.s .o Hr)
@[irreducible]def f76:=(.mk:FY (t21 D n) D n 76 Tryz.f76 h76 []).1
def zMt (a:DG e)(n:Nat):FI 76 (f76 e n):=fk n (ms h76) a (k21 a n) Tryz.func76
def t22:=ad (t21 D n) 76 (f76 D n)
def k22:KO t22:=kc k21 zMt
def h230:Hint:=(.s .o (.s (.s .o (.b [1,0] (.l [0,0,1,7,8] (.s .o (.s (.cr .o .o) (.s (.b0 Hr) .o)))))) Hr))
@[irreducible]def zCg:=(.mk:PY (t22 D n) D n 230 Tryz.f230 h230 [] 0).1
@[irreducible]def zME:=(.mk:PY (t22 D n) D n 230 Tryz.f230 h230 [zCg D n] 1).1
@[irreducible]def f230:=(.mk:FY (t22 D n) D n 230 Tryz.f230 h230 [zCg D n,zME D n]).1
def t23:=ad (t22 D n) 230 (f230 D n)
def k23:KO t23:=kk k22 (ms h230) Tryz.func230
def h225:Hint:=(.s .o Hr)
@[irreducible]def f225:=(.mk:FY (t23 D n) D n 225 Tryz.f225 h225 []).1
def t24:=ad (t23 D n) 225 (f225 D n)
def k24:KO t24:=kk k23 (ms h225) Tryz.func225
def h208:Hint:=(.s .o Hr)
@[irreducible]def f208:=(.mk:FY (t24 D n) D n 208 Tryz.f208 h208 []).1
def t25:=ad (t24 D n) 208 (f208 D n)
def k25:KO t25:=kk k24 (ms h208) Tryz.func208
def h226:Hint:=(.s .o (.s .o (.s (.s .o (.b [1,3] (.l [0,3,6,7,8] (.s .o (.s (.cr .o .o) (.s (.b0 Hr) .o)))))) Hr)))
@[irreducible]def B9:=(.mk:PY (t25 D n) D n 226 Tryz.f226 h226 [] 0).1
@[irreducible]def zIx:=(.mk:PY (t25 D n) D n 226 Tryz.f226 h226 [B9 D n] 1).1
@[irreducible]def f226:=(.mk:FY (t25 D n) D n 226 Tryz.f226 h226 [B9 D n,zIx D n]).1
def t26:=ad (t25 D n) 226 (f226 D n)
def k26:KO t26:=kk k25 (ms h226) Tryz.func226
def s150:Tb:=⟨X,[(119,f119 D n)]⟩
@[irreducible]def zOx (D:Dyn)(n:Nat)(vs:List AV)(H:AH):Option (AV×AH):=
 dG (hd vs fun x0 vs=>hd vs fun f vs=>hd vs fun h vs=>nl vs <|
 bA (bxV 55 (.agg (rep 512 [(.int .u8 (.ofNat 0))]))) H fun x6 H=>
 bV (wU .lss f (.int .i64 (.ofNat 0))) fun j=>
 jn (wnt j false (bV (wU .gtr f (.int .i64 (.ofNat 2147483647))) fun x=>
 some (.norm [x],H)) (some (.norm [jQ],H))) fun vs H=>hd vs fun p vs=>
 bV (pk3 (some j) (some (.bool true)) (some p)) fun y=>
 cnd y (bV (zLz 1 (rep 512 [(.int .u8 (.ofNat 0))]) []) fun z=>
 bR (stN 512 x6 z H) fun a6 H=>
 bV (ldN 512 x6 H) fun q=>bV (some (.int .i64 (.ofNat 1))) fun x7=>some (.ret (.tuple [q,x7]),H))
 (bV (XC h) fun C=>
 bV (wU .gtr C (.int .i64 (.ofNat 500))) fun J=>
 cnd J (bV (zLz 1 (rep 512 [(.int .u8 (.ofNat 0))]) []) fun K=>
 bR (stN 512 x6 K H) fun a3 H=>
 bV (ldN 512 x6 H) fun m=>bV (some (.int .i64 (.ofNat 40))) fun t=>some (.ret (.tuple [m,t]),H))
 (bA (bxV 55 (.agg (rep 512 [(.int .u8 (.ofNat 0))]))) H fun a H=>
 bV (xJ 512 1 a none none none) fun N=>
 bR (cpy 1 N (.str 4 2037675114) H) fun a7 H=>
 bV (fQ 512 1 a (.int .i64 (.ofNat 4))) fun O=>
 bR (stN 1 O x0 H) fun a4 H=>
 bV (xJ 512 1 a (some (.int .i64 (.ofNat 6))) (some (.int .i64 (.ofNat 8))) none) fun S=>
 bV (XC h) fun T=>
 bV (cvI .u64 T) fun Y=>
 bR (f119 D n [S,Y] H) fun a8 H=>
 bV (xJ 512 1 a (some (.int .i64 (.ofNat 8))) (some (.int .i64 (.ofNat 12))) none) fun Z=>
 bV (cvI .u64 f) fun a0=>
 bR (f119 D n [Z,a0] H) fun a9 H=>
 bV (xJ 512 1 a (some (.int .i64 (.ofNat 12))) none none) fun a1=>
 bR (cpy 1 a1 h H) fun b0 H=>
 bV (ldN 512 a H) fun a2=>
 bR (stN 512 x6 a2 H) fun a5 H=>
 bV (ldN 512 x6 H) fun o=>bV (some (.int .i64 (.ofNat 0))) fun u=>some (.ret (.tuple [o,u]),H))))
def h150:Hint:=(.s .o (.s Hq (.s Hq (.s .o (.s .o (.s .o (.s .o (.s .o (.s .o Hr)))))))))
def t27:=ad (t26 D n) 150 (zOx D n)
def k27:KO t27:=kk k26 h150 Tryz.func150
def s209:Tb:=⟨X,[(226,f226 D n),(150,zOx D n)]⟩
@[irreducible]def f209 (D:Dyn)(n:Nat)(vs:List AV)(H:AH):Option (AV×AH):=
 dG (hd vs fun x0 vs=>nl vs <|
 bA (bxV 55 x0) H fun a H=>
 bV (xJ 512 1 a (some (.int .i64 (.ofNat 6))) (some (.int .i64 (.ofNat 8))) none) fun x8=>
 bR (f226 D n [x8] H) fun p H=>
 bV (wU .gtr p (.int .u64 (.ofNat 500))) fun O=>
 cnd O (bV (some (.int .u8 (.ofNat 0))) fun x2=>bV (some (.int .i64 (.ofNat 0))) fun x3=>bV (some (.str 0 0)) fun x4=>bV (some (.int .i64 (.ofNat 4))) fun x5=>some (.ret (.tuple [x2,x3,x4,x5]),H))
 (bV (fQ 512 1 a (.int .i64 (.ofNat 4))) fun S=>
 bV (ld1 S H) fun f=>
 bV (xJ 512 1 a (some (.int .i64 (.ofNat 8))) (some (.int .i64 (.ofNat 12))) none) fun T=>
 bR (f226 D n [T] H) fun Y H=>
 bV (cvI .i64 Y) fun h=>
 bV (wU .add (.int .u64 (.ofNat 12)) p) fun Z=>
 bV (xJ 512 1 a (some (.int .i64 (.ofNat 12))) (some Z) none) fun a0=>
 bV (zF3 a0 H) fun j=>
 bR (zOx D n [f,h,j] H) fun m H=>
 bV (jN m 0) fun a1=>
 bV (jN m 1) fun a2=>
 bA (bxV 55 (.agg (rep 512 [(.int .u8 (.ofNat 0))]))) H fun q H=>
 bR (stN 512 q a1 H) fun a7 H=>
 bV (wU .neq a2 (.int .i64 (.ofNat 0))) fun o=>
 jn (wnt o false (bV (ldN 512 q H) fun a3=>
 bV (ldN 512 a H) fun a4=>
 bV (dS .neq (eqA (List.replicate 512 7) a3 a4)) fun a5=>
 some (.norm [a5],H)) (some (.norm [jQ],H))) fun vs H=>hd vs fun t vs=>
 bV (pk3 (some o) (some (.bool true)) (some t)) fun a6=>
 cnd a6 (bV (some (.int .u8 (.ofNat 0))) fun u=>bV (some (.int .i64 (.ofNat 0))) fun x=>bV (some (.str 0 0)) fun y=>bV (some (.int .i64 (.ofNat 4))) fun z=>some (.ret (.tuple [u,x,y,z]),H))
 (bV (some f) fun C=>bV (some h) fun J=>bV (some j) fun K=>bV (some (.int .i64 (.ofNat 0))) fun N=>some (.ret (.tuple [C,J,K,N]),H))))
def h209:Hint:=(.s .o (.s .o (.s Hq (.s .o (.s .o (.s .o (.s .o (.s Hq Hr))))))))
def t28:=ad (t27 D n) 209 (f209 D n)
def k28:KO t28:=kk k27 h209 Tryz.func209
def h171:Hint:=(.s .o (.s (.s (.c [5,31] (.l [0,1,2,3,4,6,7,5,8,9] .o) .o) (.cl Hr .o)) (.s .o (.s Hq (.s Hq Hr)))))
@[irreducible]def f171:=(.mk:FY (t28 D n) D n 171 Tryz.f171 h171 []).1
def t29:=ad (t28 D n) 171 (f171 D n)
def k29:KO t29:=kk k28 (ms h171) Tryz.func171
def h120:Hint:=(.s .o (.s Hq (.s Hq Hr)))
@[irreducible]def f120:=(.mk:FY (t29 D n) D n 120 Tryz.f120 h120 []).1
def t30:=ad (t29 D n) 120 (f120 D n)
def k30:KO t30:=kk k29 (ms h120) Tryz.func120
def h74:Hint:=(.s .o (.s (.s .o Hq) (.s Hq Hr)))
@[irreducible]def f74:=(.mk:FY (t30 D n) D n 74 Tryz.f74 h74 []).1
def t31:=ad (t30 D n) 74 (f74 D n)
def k31:KO t31:=kk k30 (ms h74) Tryz.func74
def s25:Tb:=⟨X,[(74,f74 D n)]⟩
@[irreducible]def f25 (D:Dyn)(n:Nat)(vs:List AV)(H:AH):Option (AV×AH):=
 dG (hd vs fun a vs=>hd vs fun f vs=>nl vs <|
 bA (bxV 55 (.agg (rep 512 [(.int .u8 (.ofNat 0))]))) H fun x4 H=>
 bR (f74 D n [a,f] H) fun h H=>
 bV (wU .neq h (.int .i64 (.ofNat 0))) fun u=>
 cnd u (bV (zLz 1 (rep 512 [(.int .u8 (.ofNat 0))]) []) fun x=>
 bR (stN 512 x4 x H) fun a6 H=>
 bV (ldN 512 x4 H) fun p=>bV (some h) fun x5=>some (.ret (.tuple [p,x5]),H))
 (bV (uW a) fun y=>
 bV (fAd 3 y) fun z=>
 bV (ld1 z H) fun C=>
 bV (lkM [6] (.int .i64 (.ofNat 0)) true C f H) fun j=>
 bV (jN j 0) fun J=>
 bV (jN j 1) fun K=>
 cnd K (bV (uW a) fun N=>
 bV (fAd 2 N) fun O=>
 bV (ld1 O H) fun S=>
 bV (dV 513 S J) fun T=>
 bV (fAd 1 T) fun Y=>
 bV (ldN 512 Y H) fun Z=>
 bR (stN 512 x4 Z H) fun a4 H=>
 bV (ldN 512 x4 H) fun m=>bV (some (.int .i64 (.ofNat 0))) fun q=>some (.ret (.tuple [m,q]),H))
 (bV (uW a) fun a0=>
 bV (fAd 1 a0) fun a1=>
 bV (ld1 a1 H) fun a2=>
 bV (lkM [6] (.agg (rep 512 [(.int .u8 (.ofNat 0))])) false a2 f H) fun a3=>
 bR (stN 512 x4 a3 H) fun a5 H=>
 bV (ldN 512 x4 H) fun o=>bV (some (.int .i64 (.ofNat 0))) fun t=>some (.ret (.tuple [o,t]),H))))
def h25:Hint:=(.s .o (.s (.s .o Hq) (.s (.s .o Hq) Hr)))
def t32:=ad (t31 D n) 25 (f25 D n)
def k32:KO t32:=kk k31 h25 Tryz.func25
def s122:Tb:=⟨X,[(171,f171 D n),(25,f25 D n)]⟩
@[irreducible]def zQK (D:Dyn)(n:Nat)(vs:List AV)(H:AH):Rs:=
 hd vs fun a vs=>hd vs fun f vs=>
 some (.norm [a,f],H)
@[irreducible]def zMN (D:Dyn)(n:Nat)(vs:List AV)(H:AH):Rs:=
 hd vs fun j vs=>hd vs fun m vs=>
 bV (some j) fun a=>bV (some m) fun f=>bV (some (.int .i64 (.ofNat 0))) fun h=>some (.ret (.tuple [a,f,h]),H)
@[irreducible]def zMM (D:Dyn)(n:Nat)(vs:List AV)(H:AH):Rs:=
 hd vs fun a vs=>hd vs fun f vs=>
 bV (uW a) fun K=>
 bV (fAd 0 K) fun N=>
 bV (ld1 N H) fun O=>
 bV (fAd 0 f) fun S=>
 bV (ld1 S H) fun T=>
 bA (bxV 55 (.agg (rep 512 [(.int .u8 (.ofNat 0))]))) H fun h H=>
 bR (f25 D n [O,T] H) fun m H=>
 bV (jN m 0) fun Y=>
 bV (jN m 1) fun o=>
 bR (stN 512 h Y H) fun b3 H=>
 bV (wU .neq o (.int .i64 (.ofNat 0))) fun Z=>
 cnd Z (bV (some (.int .u8 (.ofNat 0))) fun u=>bV (some (.str 0 0)) fun x=>bV (some o) fun y=>some (.ret (.tuple [u,x,y]),H))
 (bV (ldN 3 f H) fun a0=>
 bV (ldN 512 h H) fun a1=>
 bR (f171 D n [a0,a1] H) fun j H=>
 bV (jN j 0) fun p=>
 bV (jN j 1) fun q=>
 bV (jN j 2) fun t=>
 bV (wU .neq t (.int .i64 (.ofNat 0))) fun a2=>
 cnd a2 (bV (some (.int .u8 (.ofNat 0))) fun z=>bV (some (.str 0 0)) fun C=>bV (some t) fun J=>some (.ret (.tuple [z,C,J]),H))
 (bV (uW a) fun a3=>
 bV (fAd 1 a3) fun a4=>
 bV (ld1 a4 H) fun a5=>
 bV (dS .neq (eqP a5 .nP)) fun a6=>
 jn (cnd a6 (bV (uW a) fun a7=>
 bV (fAd 1 a7) fun a8=>
 bV (ld1 a8 H) fun a9=>
 bV (fAd 0 f) fun b0=>
 bV (ld1 b0 H) fun b1=>
 bV (ldN 512 h H) fun b2=>
 bR (D.fn 97 [a9,b1,b2] H) fun b4 H=>
 some (.norm [p,q],H))
 (some (.norm [p,q],H))) (zMN D n)))
@[irreducible]def f122 (D:Dyn)(n:Nat)(vs:List AV)(H:AH):Option (AV×AH):=
 dG (hd vs fun a vs=>hd vs fun x1 vs=>nl vs <|
 bA (bxV 42 x1) H fun f H=>
 bV (uW a) fun o=>
 bV (fAd 1 o) fun p=>
 bV (ld1 p H) fun q=>
 bV (dS .neq (eqP q .nP)) fun t=>
 jn (cnd t (bV (uW a) fun u=>
 bV (fAd 1 u) fun x=>
 bV (ld1 x H) fun y=>
 bV (fAd 0 f) fun z=>
 bV (ld1 z H) fun C=>
 bA (bxV 55 (.agg (rep 512 [(.int .u8 (.ofNat 0))]))) H fun m H=>
 bR (D.fn 170 [y,C] H) fun j H=>
 bV (jN j 0) fun J=>
 bV (jN j 1) fun K=>
 bR (stN 512 m J H) fun a1 H=>
 bV (wU .eql K (.int .i64 (.ofNat 0))) fun N=>
 jn (cnd N (bV (ldN 3 f H) fun O=>
 bV (ldN 512 m H) fun S=>
 bR (f171 D n [O,S] H) fun h H=>
 bV (jN h 0) fun T=>
 bV (jN h 1) fun Y=>
 bV (jN h 2) fun Z=>
 bV (wU .eql Z (.int .i64 (.ofNat 0))) fun a0=>
 cnd a0 (bV (some T) fun x4=>bV (some Y) fun x5=>bV (some (.int .i64 (.ofNat 0))) fun x6=>some (.ret (.tuple [x4,x5,x6]),H))
 (some (.norm [a,f],H)))
 (some (.norm [a,f],H))) (zQK D n))
 (some (.norm [a,f],H))) (zMM D n))
def h122:Hint:=(.s .o (.s (.s .o (.c [0,3] (.s .o (.s .o (.c [0,3] (.s .o Hq) .o))) .o)) (.s .o (.s Hq (.s .o (.s Hq (.s (.s .o (.c [14,15] .o .o)) Hr)))))))
def t33:=ad (t32 D n) 122 (f122 D n)
def k33:KO t33:=kk k32 h122 Tryz.func122
def h172:Hint:=(.s .o (.s (.s .o (.cl (.s .o Hr) .o)) (.s .o (.s .o Hr))))
@[irreducible]def f172:=(.mk:FY (t33 D n) D n 172 Tryz.f172 h172 []).1
def zID (a:DG e)(n:Nat):FI 172 (f172 e n):=fk n (ms h172) a (k33 a n) Tryz.func172
def t34:=ad (t33 D n) 172 (f172 D n)
def k34:KO t34:=kc k33 zID
def s211:Tb:=⟨X,[(226,f226 D n),(118,f118 D n)]⟩
@[irreducible]def f211 (D:Dyn)(n:Nat)(vs:List AV)(H:AH):Option (AV×AH):=
 dG (hd vs fun h vs=>nl vs <|
 bA (bxV 42 (.agg [(.int .i64 (.ofNat 0)),(.int .i64 (.ofNat 0)),(.int .u64 (.ofNat 0))])) H fun a H=>
 bV (XC h) fun x7=>
 bV (wU .neq x7 (.int .i64 (.ofNat 16))) fun x8=>
 cnd x8 (bV (vJ [(0,1),(1,1),(2,1)] [(.int .i64 (.ofNat 0)),(.int .i64 (.ofNat 0)),(.int .u64 (.ofNat 0))] []) fun x9=>
 bR (stN 3 a x9 H) fun a7 H=>
 bV (ldN 3 a H) fun o=>bV (some (.int .i64 (.ofNat 4))) fun x3=>some (.ret (.tuple [o,x3]),H))
 (bA (zMY 5 h) H fun t H=>
 bV (s2a 16 t) fun u=>
 bV (ldN 16 u H) fun x=>
 bA (bxV 232 (.agg (rep 16 [(.int .u8 (.ofNat 0))]))) H fun x4 H=>
 bR (stN 16 x4 x H) fun a3 H=>
 bV (xJ 16 1 x4 none (some (.int .i64 (.ofNat 4))) none) fun y=>
 bV (xJ 16 1 x4 (some (.int .i64 (.ofNat 4))) (some (.int .i64 (.ofNat 8))) none) fun z=>
 bV (xJ 16 1 x4 (some (.int .i64 (.ofNat 8))) none none) fun C=>
 bA (bxV 42 (.agg [(.int .i64 (.ofNat 0)),(.int .i64 (.ofNat 0)),(.int .u64 (.ofNat 0))])) H fun f H=>
 bR (f226 D n [y] H) fun J H=>
 bV (cvI .i64 J) fun K=>
 bR (f226 D n [z] H) fun N H=>
 bV (cvI .i64 N) fun O=>
 bR (f226 D n [C] H) fun S H=>
 bV (vJ [(0,1),(1,1),(2,1)] [(.int .i64 (.ofNat 0)),(.int .i64 (.ofNat 0)),(.int .u64 (.ofNat 0))] [(0,K),(1,O),(2,S)]) fun T=>
 bR (stN 3 f T H) fun a4 H=>
 bV (ldN 3 f H) fun Y=>
 bR (f118 D n [Y] H) fun Z H=>
 bV (aun .not Z) fun a0=>
 cnd a0 (bV (vJ [(0,1),(1,1),(2,1)] [(.int .i64 (.ofNat 0)),(.int .i64 (.ofNat 0)),(.int .u64 (.ofNat 0))] []) fun a1=>
 bR (stN 3 a a1 H) fun a5 H=>
 bV (ldN 3 a H) fun j=>bV (some (.int .i64 (.ofNat 4))) fun p=>some (.ret (.tuple [j,p]),H))
 (bV (ldN 3 f H) fun a2=>
 bR (stN 3 a a2 H) fun a6 H=>
 bV (ldN 3 a H) fun m=>bV (some (.int .i64 (.ofNat 0))) fun q=>some (.ret (.tuple [m,q]),H))))
def h211:Hint:=(.s .o (.s Hq (.s .o (.s .o (.s Hq Hr)))))
def t35:=ad (t34 D n) 211 (f211 D n)
def k35:KO t35:=kk k34 h211 Tryz.func211
def h174:Hint:=(.s .o (.s (.s .o (.cl .o .o)) (.s .o (.s Hq (.b [8,254,12,4095] .o)))))
@[irreducible]def f174:=(.mk:FY (t35 D n) D n 174 Tryz.f174 h174 []).1
def zIC (a:DG e)(n:Nat):FI 174 (f174 e n):=fk n (ms h174) a (k35 a n) Tryz.func174
def t36:=ad (t35 D n) 174 (f174 D n)
def k36:KO t36:=kc k35 zIC
def h62:Hint:=(.s .o Hr)
@[irreducible]def f62:=(.mk:FY (t36 D n) D n 62 Tryz.f62 h62 []).1
def zMz (a:DG e)(n:Nat):FI 62 (f62 e n):=fk n (ms h62) a (k36 a n) Tryz.func62
def t37:=ad (t36 D n) 62 (f62 D n)
def k37:KO t37:=kc k36 zMz
def h210:Hint:=(.s .o (.s .o (.s Hq Hr)))
@[irreducible]def f210:=(.mk:FY (t37 D n) D n 210 Tryz.f210 h210 []).1
def t38:=ad (t37 D n) 210 (f210 D n)
def k38:KO t38:=kk k37 (ms h210) Tryz.func210
def h173:Hint:=(.b [7,64,9,510,13,8191] .o)
@[irreducible]def f173:=(.mk:FY (t38 D n) D n 173 Tryz.f173 h173 []).1
def t39:=ad (t38 D n) 173 (f173 D n)
def k39:KO t39:=kk k38 (ms h173) Tryz.func173
def h175:Hint:=(.b [7,64,9,510,13,8191] .o)
@[irreducible]def f175:=(.mk:FY (t39 D n) D n 175 Tryz.f175 h175 []).1
def t40:=ad (t39 D n) 175 (f175 D n)
def k40:KO t40:=kk k39 (ms h175) Tryz.func175
def zPc:Tb:=⟨X,[(172,f172 D n),(174,f174 D n),(62,f62 D n)]⟩
def zOk:Hint:=(.s .o (.s Hq (.s .o (.s .o (.s Hq (.s .o (.s (.s .o (.c [4,4,6,7,8] .o .o)) (.s (.s (.b [] .o) (.b [3,4,6] (.l [2,4,6,8,47,48] (.s .o (.s (.cr .o .o) (.s (.b0 (.s (.s .o (.b [1,4,6,8,47,48] (.l [0,4,6,8,47,48,50,51,52] (.s .o (.s (.cr .o .o) (.s (.b0 Hr) .o)))))) (.s .o (.cl .o .o)))) .o)))))) (.s Hq Hr)))))))))
@[irreducible]def Y0:=(.mk:PY (zPc D n) D n 123 Tryz.f123 zOk [] 0).1
@[irreducible]def Y1:=(.mk:PY (zPc D n) D n 123 Tryz.f123 zOk [Y0 D n] 1).1
@[irreducible]def uP:=(.mk:PY (zPc D n) D n 123 Tryz.f123 zOk [Y0 D n,Y1 D n] 2).1
@[irreducible]def cT:=(.mk:PY (zPc D n) D n 123 Tryz.f123 zOk [Y0 D n,Y1 D n,uP D n] 3).1
@[irreducible]def zEV:=(.mk:PY (zPc D n) D n 123 Tryz.f123 zOk [Y0 D n,Y1 D n,uP D n,cT D n] 4).1
@[irreducible]def f123:=(.mk:FY (zPc D n) D n 123 Tryz.f123 zOk [Y0 D n,Y1 D n,uP D n,cT D n,zEV D n]).1
def zOB (a:DG e)(n:Nat):FI 123 (f123 e n):=fk n (ms zOk) a (sc (zID a n) (sc (zIC a n) (sc (zMz a n) sn))) Tryz.func123
def t41:=ad (t40 D n) 123 (f123 D n)
def k41:KO t41:=kc k40 zOB
def h77:Hint:=(.s .o (.s (.s .o (.cl (.s (.b [11,1535] .o) (.s Hq Hr)) .o)) (.s .o (.s Hq (.s Hq Hr)))))
@[irreducible]def f77:=(.mk:FY (t41 D n) D n 77 Tryz.f77 h77 []).1
def zMs (a:DG e)(n:Nat):FI 77 (f77 e n):=fk n (ms h77) a (k41 a n) Tryz.func77
def t42:=ad (t41 D n) 77 (f77 D n)
def k42:KO t42:=kc k41 zMs
def h79:Hint:=(.s .o (.s .o (.s (.s .o (.b [2,5] (.l [1,1,2,5,9,10,11] (.s .o (.s (.cr .o .o) (.s (.b0 (.s .o (.s .o (.c [0,1,2,5,9,10,11] .o .o)))) .o)))))) Hr)))
@[irreducible]def zDy:=(.mk:PY (t42 D n) D n 79 Tryz.f79 h79 [] 0).1
@[irreducible]def zCc:=(.mk:PY (t42 D n) D n 79 Tryz.f79 h79 [zDy D n] 1).1
@[irreducible]def zQx:=(.mk:PY (t42 D n) D n 79 Tryz.f79 h79 [zDy D n,zCc D n] 2).1
@[irreducible]def f79:=(.mk:FY (t42 D n) D n 79 Tryz.f79 h79 [zDy D n,zCc D n,zQx D n]).1
def zCd (a:DG e)(n:Nat):FI 79 (f79 e n):=fk n (ms h79) a (k42 a n) Tryz.func79
def t43:=ad (t42 D n) 79 (f79 D n)
def k43:KO t43:=kc k42 zCd
def h130:Hint:=(.s .o (.b [7,126,10,1023] .o))
@[irreducible]def f130:=(.mk:FY (t43 D n) D n 130 Tryz.f130 h130 []).1
def zIL (a:DG e)(n:Nat):FI 130 (f130 e n):=fk n (ms h130) a (k43 a n) Tryz.func130
def t44:=ad (t43 D n) 130 (f130 D n)
def k44:KO t44:=kc k43 zIL
def h212:Hint:=(.s .o (.s Hq (.s (.s .o Hq) (.s Hq Hr))))
@[irreducible]def f212:=(.mk:FY (t44 D n) D n 212 Tryz.f212 h212 []).1
def t45:=ad (t44 D n) 212 (f212 D n)
def k45:KO t45:=kk k44 (ms h212) Tryz.func212
def h180:Hint:=(.s .o (.s (.s .o (.c [1,0,1] .o .o)) (.s (.s .o (.s .o (.c [0,0] .o .o))) Hr)))
@[irreducible]def zEQ:=(.mk:PY (t45 D n) D n 180 Tryz.f180 h180 [] 0).1
@[irreducible]def zIA:=(.mk:PY (t45 D n) D n 180 Tryz.f180 h180 [zEQ D n] 1).1
@[irreducible]def f180:=(.mk:FY (t45 D n) D n 180 Tryz.f180 h180 [zEQ D n,zIA D n]).1
def t46:=ad (t45 D n) 180 (f180 D n)
def k46:KO t46:=kk k45 (ms h180) Tryz.func180
def zOi:Hint:=(.s .o (.s .o (.s (.s .o (.b [4,0,3] (.l [1,0,3,9,10,11] (.s .o (.s (.cr .o .o) (.s (.b0 (.s .o (.s .o (.s .o (.c [0,0,3,9,10,11] .o .o))))) .o)))))) (.s .o (.s (.s .o (.b [3,6] (.l [2,6,25,26,27] (.s .o (.s (.cr .o .o) (.s (.b0 Hr) .o)))))) Hr)))))
@[irreducible]def BE:=(.mk:PY (t46 D n) D n 132 Tryz.f132 zOi [] 0).1
@[irreducible]def XT:=(.mk:PY (t46 D n) D n 132 Tryz.f132 zOi [BE D n] 1).1
@[irreducible]def XS:=(.mk:PY (t46 D n) D n 132 Tryz.f132 zOi [BE D n,XT D n] 2).1
@[irreducible]def zII:=(.mk:PY (t46 D n) D n 132 Tryz.f132 zOi [BE D n,XT D n,XS D n] 3).1
@[irreducible]def zMK:=(.mk:PY (t46 D n) D n 132 Tryz.f132 zOi [BE D n,XT D n,XS D n,zII D n] 4).1
@[irreducible]def f132:=(.mk:FY (t46 D n) D n 132 Tryz.f132 zOi [BE D n,XT D n,XS D n,zII D n,zMK D n]).1
def t47:=ad (t46 D n) 132 (f132 D n)
def k47:KO t47:=kk k46 (ms zOi) Tryz.func132
def h214:Hint:=(.s .o (.s (.s .o (.c [1,0,1] .o .o)) (.s (.s .o (.s .o (.c [0,0] .o .o))) Hr)))
@[irreducible]def zEP:=(.mk:PY (t47 D n) D n 214 Tryz.f214 h214 [] 0).1
@[irreducible]def zIy:=(.mk:PY (t47 D n) D n 214 Tryz.f214 h214 [zEP D n] 1).1
@[irreducible]def f214:=(.mk:FY (t47 D n) D n 214 Tryz.f214 h214 [zEP D n,zIy D n]).1
def t48:=ad (t47 D n) 214 (f214 D n)
def k48:KO t48:=kk k47 (ms h214) Tryz.func214
def zOh:Hint:=(.s .o (.s .o (.s (.s .o (.b [4,0,3] (.l [1,0,3,9,10,11] (.s .o (.s (.cr .o .o) (.s (.b0 (.s .o (.s .o (.s .o (.c [0,0,3,9,10,11] .o .o))))) .o)))))) (.s .o (.s (.s .o (.b [3,6] (.l [2,6,25,26,27] (.s .o (.s (.cr .o .o) (.s (.b0 Hr) .o)))))) Hr)))))
@[irreducible]def BB:=(.mk:PY (t48 D n) D n 178 Tryz.f178 zOh [] 0).1
@[irreducible]def XR:=(.mk:PY (t48 D n) D n 178 Tryz.f178 zOh [BB D n] 1).1
@[irreducible]def XQ:=(.mk:PY (t48 D n) D n 178 Tryz.f178 zOh [BB D n,XR D n] 2).1
@[irreducible]def zIB:=(.mk:PY (t48 D n) D n 178 Tryz.f178 zOh [BB D n,XR D n,XQ D n] 3).1
@[irreducible]def zMI:=(.mk:PY (t48 D n) D n 178 Tryz.f178 zOh [BB D n,XR D n,XQ D n,zIB D n] 4).1
@[irreducible]def f178:=(.mk:FY (t48 D n) D n 178 Tryz.f178 zOh [BB D n,XR D n,XQ D n,zIB D n,zMI D n]).1
def t49:=ad (t48 D n) 178 (f178 D n)
def k49:KO t49:=kk k48 (ms zOh) Tryz.func178
def h176:Hint:=(.s .o (.s Hq (.s (.s .o (.cl (.s (.c [5,31,11,2047,13,8191] (.l [0,1,2,3,4,6,7,8,9,10,5,11,12,13,14] .o) .o) .o) .o)) (.s (.c [7,127,13,8191,15,32767] (.l [0,1,2,3,4,5,6,8,9,10,11,12,7,13,14,15,16] .o) .o) .o))))
@[irreducible]def f176:=(.mk:FY (t49 D n) D n 176 Tryz.f176 h176 []).1
def t50:=ad (t49 D n) 176 (f176 D n)
def k50:KO t50:=kk k49 (ms h176) Tryz.func176
def zQr:Hint:=(.s .o (.s .o (.s (.s .o (.c [2,0,5,7,8,10,11] (.s .o (.s (.s .o (.c [1,0,2,5,7,8,12] .o .o)) (.s (.c [9,511,14,12287] (.l [0,1,2,3,4,5,6,7,8,13,9,10,11,12,14,15] .o) .o) (.s Hq (.s .o (.s .o (.s (.s .o (.c [0,0,5,7,8,10,11,14] (.b [7,127,11,1023] .o) (.b [7,127,11,1023] .o))) Hq))))))) .o)) (.s .o (.s Hq (.s (.c [12,4095,20,794623,26,67108863,28,268435455] (.l [0,1,2,3,4,5,6,7,8,9,10,11,13,14,15,16,17,18,19,21,22,23,24,12,20,25,26,27,28,29] .o) .o) .o))))))
@[irreducible]def zCl:=(.mk:PY (t50 D n) D n 129 Tryz.f129 zQr [] 0).1
@[irreducible]def zEU:=(.mk:PY (t50 D n) D n 129 Tryz.f129 zQr [zCl D n] 1).1
@[irreducible]def zCk:=(.mk:PY (t50 D n) D n 129 Tryz.f129 zQr [zCl D n,zEU D n] 2).1
@[irreducible]def f129:=(.mk:FY (t50 D n) D n 129 Tryz.f129 zQr [zCl D n,zEU D n,zCk D n]).1
def zIM (a:DG e)(n:Nat):FI 129 (f129 e n):=fk n (ms zQr) a (k50 a n) Tryz.func129
def t51:=ad (t50 D n) 129 (f129 D n)
def k51:KO t51:=kc k50 zIM
def s128:Tb:=⟨X,[(76,f76 D n),(77,f77 D n),(79,f79 D n),(129,f129 D n),(130,f130 D n)]⟩
def h128:Hint:=(.s .o (.s (.s .o (.s (.b [2,2] .o) (.cl Hr .o))) (.s .o (.s Hq (.s (.s .o (.c [1,6,7,8,10,11] .o (.s .o (.s .o (.s (.b [6,63,10,511] .o) (.s .o (.c [0,6,7,8,10,11] .o .o))))))) (.s Hq (.s .o Hr)))))))
@[irreducible]def BF:=(.mk:PY (s128 D n) D n 128 Tryz.f128 h128 [] 0).1
@[irreducible]def JN:=(.mk:PY (s128 D n) D n 128 Tryz.f128 h128 [BF D n] 1).1
@[irreducible]def f128:=(.mk:FY (s128 D n) D n 128 Tryz.f128 h128 [BF D n,JN D n]).1
def zOz (a:DG e)(n:Nat):FI 128 (f128 e n):=fk n (ms h128) a (sc (zMt a n) (sc (zMs a n) (sc (zCd a n) (sc (zIM a n) (sc (zIL a n) sn))))) Tryz.func128
def t52:=ad (t51 D n) 128 (f128 D n)
def k52:KO t52:=kc k51 zOz
def s82:Tb:=⟨X,[(127,f127 D n),(126,f126 D n),(131,f131 D n)]⟩
def h82:Hint:=(.s .o (.s (.b [9,511] .o) (.s (.s .o (.cl (.s .o (.s Hq (.s (.b [3,6,4,15] .o) Hr))) .o)) (.s .o (.s .o (.s .o (.s (.c [5,31,10,767] (.l [0,1,2,3,4,9,5,6,7,8,10,11] .o) .o) (.s Hq Hr))))))))
@[irreducible]def f82:=(.mk:FY (s82 D n) D n 82 Tryz.f82 h82 []).1
def zQw (a:DG e)(n:Nat):FI 82 (f82 e n):=fk n (ms h82) a (sc (zIN a n) (sc (zIP a n) (sc (zIK a n) sn))) Tryz.func82
def t53:=ad (t52 D n) 82 (f82 D n)
def k53:KO t53:=kc k52 zQw
end Go.Eng.Sh
end




