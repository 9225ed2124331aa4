/- A checked evaluator for the program, and what it tells, part 3: no condition. -/
import Derived.Test.YtaaflpnhdkoaeaaGreatO2
import Derived.KernelRfl
import Derived.Maps.RangeRun
import Derived.Test.YtaaflpnhdkoaeaaGreatProg
import Derived.Shelf.Spec.SlicesInsertGrow
import Derived.Ground.Names2Prog
import Derived.Ground.SlmcProg
import Derived.Shelf.SlMaps.Clone
import Derived.Deep.Strs
set_option linter.all false
set_option linter.unusedVariables false
set_option linter.unusedSimpArgs false
set_option maxHeartbeats 8000000
set_option maxRecDepth 20000
variable {H p C f:Nat}{h:List Go.Eng.AV}{i:List Go.Eng.AV->Go.Eng.AH->Option (Go.Eng.AV×Go.Eng.AH)}{A J:Go.Eng.AH}{v:List (Nat×(List Go.Eng.AV->Go.Eng.AH->Option (Go.Eng.AV×Go.Eng.AH)))}{l:List Nat}{t:Go.World}{q:Go.FuncId}{e:Go.Eng.Dyn}{s:Go.Eng.AV}{E:Go.Eng.Ren}{F:Go.Eng.Ex×Go.Eng.AH}{G:Array Go.Value}{I:List Go.Eng.AV->Go.Eng.AH->Go.Eng.Rs}{L:Go.Eng.Dyn->Nat->List Go.Eng.AV->Go.Eng.AH->Option (Go.Eng.AV×Go.Eng.AH)}{M:Nat->Prop}{N:Go.Eng.Hint}{Q:Array Go.MapEntry}{R:List (Go.Eng.AV×Go.Eng.AV)}{U:Array Go.Oper}{V:List ((Nat×Nat)×(Nat->Go.Eng.ALoop->List Go.Eng.AV->Go.Eng.AH->Option (Go.Eng.AV×Go.Eng.AH)))}{W:Bool}{Y:Option Go.Code}{a:Go.TypeId}{c:Go.Value}{g:Go.Program}{j:List Go.Eng.AV->Go.Eng.AH->Option Go.Eng.AH}{m:Go.Func}{r:Go.Eng.Env}{u:Nat->Go.Eng.ALoop->List Go.Eng.AV->Go.Eng.AH->Option (Go.Eng.AV×Go.Eng.AH)}{z:List Go.Frame}
section
namespace Go.Eng
theorem zG1 {x:Rs}(h:jb H x I=some F): ∃y,x=some y/\((∃vs id,y=(.norm vs,id)/\I vs id=some F)\/(∃vs id,y=(.exit H vs,id)/\I vs id=some F)\/(∃i vs id,i≠H/\y=(.exit i vs,id)/\F=y)\/(∃v id,y=(.ret v,id)/\F=y)):=by
 unfold jb at h;split at h
 .exact⟨_,rfl, .inl ⟨_,_,rfl,h⟩⟩
 .rename_i i vs id;rw[zG]at h;split at h
  .rename_i hi;rw[zX]at hi;subst hi;exact⟨_,rfl, .inr (.inl ⟨_,_,rfl,h⟩)⟩
  .rename_i hi;rw[zX]at hi;injection h with h;exact⟨_,rfl, .inr (.inr (.inl ⟨_,_,_,hi,rfl,h.symm⟩))⟩
 .injection h with h;exact⟨_,rfl, .inr (.inr (.inr ⟨_,_,rfl,h.symm⟩))⟩
 .simp at h
theorem fP {a b:Rs}(h:cnd s a b=some F):(s= .bool true/\a=some F)\/(s= .bool false/\b=some F):=by
 unfold cnd at h;split at h
 .exact .inl ⟨rfl,h⟩
 .exact .inr ⟨rfl,h⟩
 .simp at h
theorem JJ {K:Env->Rs}(L:unp l h uN K=some F)(hp:PK r l h): ∃env',K env'=some F/\Le env' r:=by
 obtain⟨env',j,f⟩:=Z7 L r hp;refine⟨env',j,fun t x a=> ?_⟩;by_cases i:t∈l
 .rw[<-(f t).1 i];exact a
 .rw[(f t).2 i]at a;simp[look,uN]at a
theorem zBW {Bk:List (Nat×List Nat)}(h:uE (zEm Bk H) p=some l):p≠H/\uE Bk p=some l:=by
 induction Bk with
 | nil=>simp[zEm,uE]at h
 | cons x Bk ih=>
  obtain⟨j,M⟩:=x;unfold zEm at h;simp only[List.filter_cons]at h;split at h
  .rename_i a;simp only[j6]at a;have f:j≠H:=fun e=>by rw[e]at a;simp[yO]at a
   simp only[uE,zG,zX]at h⊢;split at h
   .rename_i e;subst e;rw[if_pos rfl];exact⟨f,h⟩
   .rename_i e;rw[if_neg e];exact ih h
  .rename_i a;have f:j=H:=by
    have:Nat.beq j H=true:=by simpa using a
    simpa using this
   obtain⟨m,o⟩:=ih h;refine⟨m, ?_⟩;simp only[uE,zG,zX];rw[if_neg (fun e=>m (by rw[<-e,f]))];exact o
def XP (Bk:List (Nat×List Nat))(out:Ex×AH)(id:Nat)(env:Env)(H:AH):Prop:= ∃L vs,uE Bk id=some L/\PK env L vs/\out=(.exit id vs,H)
def RP (X:Cx)(rs:List ResultVar)(out:Ex×AH)(env:Env)(H:AH):Prop:=zIo X rs env H=some out
theorem zAd {X:Cx}{env:Env}{H:AH} : ∀(rs:List ResultVar) (G:List AV->Rs),(∀vs z,G vs=some z-> ∃v,z=(.ret v,H))-> ∀z,zML X rs env H G=some z-> ∃v,z=(.ret v,H)
 | [],G,hG,z,a=>hG _ _ a
 | r::rs,G,hG,z,a=>by
  simp only[zML]at a;obtain⟨v,_,f⟩:=wJ a;exact zAd rs _ (fun vs z a=>hG _ _ a) z f
theorem vN {X:Cx}{rs:List ResultVar}(h:RP X rs F r A): ∃v,F=(.ret v,A):=
 zAd rs _ (fun vs z a=>by injection a with a;exact⟨_,a.symm⟩) _ h
def WH (P:Program)(nt:Nat)(f0:FuncId)(c:Code)(L:List Nat)(m:List AV->AH->Option AH):Prop:=
 ∀(ro:Bool) (env:Env) (vs:List AV) (H H':AH),PK env L vs->m vs H=some H'->H.next<=H'.next->WS P nt f0 ro (.code c) env H (fun env' a=>PK env' L vs/\a=H') (fun _ _ _=>False) (fun _ _=>False)
theorem zCt {x:Option AH}{K:AH->Rs}(h:tld x H K=some F): ∃H',x=some H'/\H<=H'.next/\K H'=some F:=by
 unfold tld at h;split at h
 .rename_i H';rw[zG]at h;split at h
  .rename_i a;rw[qT]at a;exact⟨H',rfl,a,h⟩
  .simp at h
 .simp at h
def kT (P:Program)(f0:FuncId)(nt:Nat):Code->Hint->Prop
 | .seq a b, .s ha hb=>kT P f0 nt a ha/\kT P f0 nt b hb
 | .cond _ a b, .c _ ha hb=>kT P f0 nt a ha/\kT P f0 nt b hb
 | .cond _ a b, .cl ha hb=>kT P f0 nt a ha/\kT P f0 nt b hb
 | .cond _ a b, .cr ha hb=>kT P f0 nt a ha/\kT P f0 nt b hb
 | .block _ b, .b _ hb=>kT P f0 nt b hb
 | .block _ b, .b0 hb=>kT P f0 nt b hb
 | .seq a b, .t L m=>WH P nt f0 (.seq a b) L m
 | .loop b, .l _ hb=>kT P f0 nt b hb
 | .rangeFunc _ ps a b, .rf s _=>VX f0 s=some (nt,ps,a,b)
 | _,_=>True
theorem zAo {o:AObj}{K:Nat->AH->Rs}(h:U7 A o K=some F): ∃t,T.set 40 A.h A.next o=some t/\T.get A.h A.next=none/\K A.next ⟨t,A.next+1⟩=some F:=by
 unfold U7 at h;split at h
 .rename_i a;split at h
  .rename_i t f;rw[kI]at h;exact⟨t,f,a,h⟩
  .simp at h
 .simp at h
theorem V0 {K:Option Code->AH->Rs}(h:cS H A K=some F): ∃l H',A.h.get H=some (.loop l)/\l.state≠ .busy/\fF A H .dead=some H'/\K l.pending H'=some F:=by
 unfold cS at h;split at h
 .rename_i l a;split at h
  .simp at h
  .rename_i hb;split at h
   .rename_i H' hp;exact⟨l,H',a,hb,hp,h⟩
   .simp at h
 .simp at h
theorem UM {env:Env}{H:AH}{id:Nat}{out:Ex×AH} : ∀ {Bk:List (Nat×List Nat)},exS Bk env H id=some out->XP Bk out id env H
 | [],h=>by simp[exS]at h
 | (i,L)::r,h=>by
  simp only[exS,zG,zX]at h;split at h
  .rename_i e;obtain⟨vs,f,a⟩:=wI h;injection a with a
   exact⟨L,vs,by simp[uE,e],f,a.symm⟩
  .rename_i e;obtain⟨j,vs,f,a,m⟩:=UM h;refine⟨j,vs, ?_,a,m⟩;simp only[uE,zG,zX,if_neg e];exact f
theorem zAT {env:Env} : ∀ {L:List Nat} {vs:List AV} {base:Env},PK env L vs-> ∀t,(t∈L->look (zMT L vs base) t=look env t)/\(t∉L->look (zMT L vs base) t=look base t)
 | [],vs,base,h,t=>by
  simp only[PK]at h;subst h;exact⟨fun h=>by simp at h,fun _=>rfl⟩
 | l::L,vs,base,⟨v,vs',e,hv,hp⟩,t=>by
  subst e;obtain⟨j,i⟩:=zAT (base:=upd base l v) hp t;simp only[zMT];refine⟨fun a=> ?_,fun a=> ?_⟩
  .by_cases f:t∈L
   .exact j f
   .rw[i f];have:t=l:=by
              simp at a;rcases a with h | h
              .exact h
              .exact absurd h f
    subst this;simp only[look,bD,if_true];exact hv.symm
  .simp only[zO,not_or]at a;rw[i a.2];simp only[look,bD,if_neg a.1]
theorem zMe (env:PK r l h):Le (envL l h) r:=by
 intro t x a;obtain⟨i,j⟩:=zAT (base:=uN) env t;by_cases f:t∈l
 .rw[<-i f];exact a
 .have:=j f;simp only[envL]at a;rw[this]at a;simp[look,uN]at a
theorem Rel.alloc_out (h:Rel E A t)(o:Obj):Rel E A (t.alloc o):=
 ⟨h.fn,h.inj,fun R b d c x r a=>by rw[heap_alloc_old _ _ _ (h.lt _ _ _ _ r).1];exact h.obj R b d c x r a,fun R b d c r=>by rw[kU];exact⟨Nat.lt_succ_of_lt (h.lt _ _ _ _ r).1,(h.lt _ _ _ _ r).2⟩⟩
theorem Ext.alloc_out (R:Ren)(H:AH)(w:World)(o:Obj):Ext R H w R H (w.alloc o):=
 ⟨zOH R,fun _ _ _ _ h=> .inl h,fun _ _ _ _ h=> .inl h,zP _,fun _ _ _=>rfl,rfl,rfl,rfl,by rw[kU];omega,fun b hb _=>heap_alloc_old _ _ _ hb⟩
section
variable {P:Program}{B:Tb}{D:Dyn}(hX:Ok P B.X)(hr:Good P (rOf B D)){nt:Nat}{rs:List ResultVar}{f0:FuncId}{ro:Bool}
theorem XZ {id:Nat}{k:List Item}{fr:Frame}{cs:List Frame}{f w:World}{tmps:Array Value}{a:List Deferred}(hm:fr.mode= .run)(h:Steps P (lone fr cs f) (lone { fr with tmps:=tmps,todo:= .inBlock id::k,defers:=a} cs w)):
  Steps P (lone fr cs f) (lone { fr with tmps:=tmps,todo:=k,defers:=a} cs w):=
 h.trans (.one (X0 (fr:= { fr with tmps:=tmps,todo:= .inBlock id::k,defers:=a}) hm rfl))
theorem zGO {id:Nat}{k k':List Item}{fr:Frame}{cs:List Frame}{f w:World}{tmps:Array Value}{a:List Deferred}(hm:fr.mode= .run)(i:exitTo id k'=some k)(h:Steps P (lone fr cs f) (lone { fr with tmps:=tmps,todo:= .code (.exit id)::k',defers:=a} cs w)):
  Steps P (lone fr cs f) (lone { fr with tmps:=tmps,todo:=k,defers:=a} cs w):=
 h.trans (.one (zF4 (fr:= { fr with tmps:=tmps,todo:= .code (.exit id)::k',defers:=a}) hm rfl i))
include hX hr in
theorem J4 {n:Nat} : ∀(c:Code) (h:Hint) (Bk:List (Nat×List Nat)) (K:Env->AH->Rs) (env:Env) (H:AH) (out:Ex×AH),kT P f0 nt c h->kK B D n nt rs f0 ro c h Bk K env H=some out->
  WS P nt f0 ro (.code c) env H (fun env' H'=>K env' H'=some out) (XP Bk out) (RP B.X rs out):=by
 intro c
 induction c with
 | skip=>
  intro h Bk K env H out O o lo R fr k cs w hm J G u hL I M;simp only[kK]at o;exact⟨R,w,fr.tmps,k,fr.defers,env,H, .one (zF2 hm G),u,hL,zOL R H w,zP _,I, .inl ⟨rfl,o⟩⟩
 | label l=>
  intro h Bk K env H out O o lo R fr k cs w hm J G u hL I M;simp only[kK]at o;exact⟨R,w,fr.tmps,k,fr.defers,env,H, .one (zIf hm G),u,hL,zOL R H w,zP _,I, .inl ⟨rfl,o⟩⟩
 | region id ops draw=>
  intro h Bk K env H out O o;simp only[kK]at o;exact zLk hX hr o f0 ro _ _
 | seq a b iha ihb=>
  intro h Bk K env H out O o
  cases h with
  | s ha hb=>
   simp only[kK]at o;intro lo R fr k cs w hm J G u hL I M;refine WS.step (WZ hm G) rfl ?_;refine WS.then [.code b] (fun id k=>rfl) (iha ha Bk _ env H out O.1 o) (fun d5 H1 h3 lo R fr k cs w hm J G u hL I M=> ?_) lo R { fr with todo:= .code a:: .code b::k} k cs w hm J rfl u hL I M;exact ihb hb Bk K d5 H1 out O.2 h3 lo R fr k cs w hm J G u hL I M
  | t L m=>
   simp only[kK]at o;obtain⟨vs,hp,o⟩:=wI o;obtain⟨H',hm,i2,o⟩:=zCt o;intro lo R fr k cs w i3 J G u hL I M;obtain⟨N,p,S,U,Q,env',i4,W,Y,Z,V,a5,a6,a7⟩:=O ro env vs H H' hp hm i2 lo R fr k cs w i3 J G u hL I M;rcases a7 with⟨b1,b2,rfl⟩ | ⟨i,k',b1,b2,b3⟩ | ⟨k',b1,b2⟩
   .obtain⟨g7,c1,c2⟩:=JJ o b2;exact⟨N,p,S,U,Q,g7,i4,W,Y.le c2,Z,V,a5,a6, .inl ⟨b1,c1⟩⟩
   .exact b3.elim
   .exact b2.elim
  | _=>simp[kK]at o
 | cond c a b iha ihb=>
  intro h Bk K env H out O o
  cases h with
  | c L ha hb=>
   simp only[kK]at o;split at o
   .rename_i v hv;intro lo R fr k cs w hm J G u hL I M;have b8:=kP u _ _ hv;have key: ∀(t:Bool) (cc:Code) (hh:Hint),v= .bool t->cc=(if t then a else b)->
      (∀y,kK B D n nt rs f0 ro cc hh Bk (fun env H=>pck L env fun vs=>some (.norm vs,H)) env H=some y->WS P nt f0 ro (.code cc) env H (fun env' H'=>(pck L env' fun vs=>some (.norm vs,H'))=some y) (XP Bk y) (RP B.X rs y))->
      jn (kK B D n nt rs f0 ro cc hh Bk (fun env H=>pck L env fun vs=>some (.norm vs,H)) env H) (fun vs H=>unp L vs uN fun env=>K env H)=some out->
      ∃N p c0 U Q env' H',Steps P (lone fr cs w) (lone { fr with tmps:=c0,todo:=U,defers:=Q} cs p)/\EnvR N env' nt c0/\Rel N H' p/\Ext R H w N H' p/\H.next<=H'.next/\Marks lo N p Q/\Ends k (fun env' H'=>K env' H'=some out) (XP Bk out) (RP B.X rs out) U env' H':=by
     intro t cc hh i5 i6 ih hj;subst i5 i6;refine WS.step (aI hm G b8) rfl ?_
     cases hy:kK B D n nt rs f0 ro (if t then a else b) hh Bk (fun env H=>pck L env fun vs=>some (.norm vs,H)) env H with
     | none=>rw[hy]at hj;simp[jn]at hj
     | some y=>
      rw[hy]at hj;obtain⟨N,p,S,U,Q,env',H',W,Y,Z,V,a5,a6,a7⟩:=ih y hy lo R { fr with todo:= .code (if t then a else b)::k} k cs w hm J rfl u hL I M
      rcases a7 with⟨b1,b2⟩ | ⟨id,k',b1,b2,L',vs',b3,b4,b5⟩ | ⟨k',b1,b2⟩
      .obtain⟨vs,c1,c2⟩:=wI b2;injection c2 with c2;subst c2
       obtain⟨env2,d1,d2⟩:=JJ hj c1;exact⟨N,p,S,U,Q,env2,H',W,Y.le d2,Z,V,a5,a6, .inl ⟨b1,d1⟩⟩
      .subst b5;simp only[jn,zC]at hj;exact⟨N,p,S,U,Q,env',H',W,Y,Z,V,a5,a6, .inr (.inl ⟨id,k',b1,b2,L',vs',b3,b4,hj.symm⟩)⟩
      .have c3:=vN b2;obtain⟨v,rfl⟩:=c3;simp only[jn,zC]at hj;subst hj;exact⟨N,p,S,U,Q,env',H',W,Y,Z,V,a5,a6, .inr (.inr ⟨k',b1,b2⟩)⟩
    have l6:=o
    cases v with
    | bool t=>
     cases t with
     | true=>exact key true a ha rfl rfl (fun y hy=>iha ha Bk _ env H y O.1 hy) o
     | false=>exact key false b hb rfl rfl (fun y hy=>ihb hb Bk _ env H y O.2 hy) o
    | _=>simp[cnd,jn]at o
   .simp at o
  | cl ha hb=>
   simp only[kK]at o;split at o
   .rename_i v hv;intro lo R fr k cs w hm J G u hL I M;have b8:=kP u _ _ hv;rcases fP o with⟨rfl,h1⟩ | ⟨rfl,h1⟩
    .refine WS.step (aI hm G b8) rfl ?_;exact((iha ha Bk _ env H out O.1 h1).mono (fun _ _ h=>by simp at h) (fun _ _ _ h=>h) (fun _ _ h=>h)) lo R { fr with todo:= .code a::k} k cs w hm J rfl u hL I M
    .refine WS.step (aI hm G b8) rfl ?_;exact ihb hb Bk _ env H out O.2 h1 lo R { fr with todo:= .code b::k} k cs w hm J rfl u hL I M
   .simp at o
  | cr ha hb=>
   simp only[kK]at o;split at o
   .rename_i v hv;intro lo R fr k cs w hm J G u hL I M;have b8:=kP u _ _ hv;rcases fP o with⟨rfl,h1⟩ | ⟨rfl,h1⟩
    .refine WS.step (aI hm G b8) rfl ?_;exact iha ha Bk _ env H out O.1 h1 lo R { fr with todo:= .code a::k} k cs w hm J rfl u hL I M
    .refine WS.step (aI hm G b8) rfl ?_;exact((ihb hb Bk _ env H out O.2 h1).mono (fun _ _ h=>by simp at h) (fun _ _ _ h=>h) (fun _ _ h=>h)) lo R { fr with todo:= .code b::k} k cs w hm J rfl u hL I M
   .simp at o
  | _=>simp[kK]at o
 | block id b ih=>
  intro h Bk K env H out O o
  cases h with
  | b L hb=>
   simp only[kK]at o;intro lo R fr k cs w hm J G u hL I M;obtain⟨y,hy,c6⟩:=zG1 o;refine WS.step (YS hm G) rfl ?_;obtain⟨N,p,S,U,Q,env',H',W,Y,Z,V,a5,a6,a7⟩:=ih hb _ _ env H y O hy lo R { fr with todo:= .code b:: .inBlock id::k} (.inBlock id::k) cs w hm J rfl u hL I M;rcases a7 with⟨b1,b2⟩ | ⟨i,k',b1,b2,L',vs',b3,b4,b5⟩ | ⟨k',b1,b2⟩
   .obtain⟨vs,c1,c2⟩:=wI b2;injection c2 with c2;subst c2
    rcases c6 with⟨a8,T,C,e2⟩ | ⟨a8,T,C,_⟩ | ⟨i,a8,T,_,C,_⟩ | ⟨v,T,C,_⟩
    .simp only[zT,Ex.norm.injEq]at C;obtain⟨rfl,rfl⟩:=C;obtain⟨env2,d1,d2⟩:=JJ e2 c1;subst b1;exact⟨N,p,S,k,Q,env2,H',XZ (fr:= { fr with todo:= .code b:: .inBlock id::k}) hm W,Y.le d2,Z,V,a5,a6, .inl ⟨rfl,d1⟩⟩
    .simp at C
    .simp at C
    .simp at C
   .subst b5;by_cases hi:i=id
    .subst hi;simp only[uE,yO,zU,zC]at b3;subst b3;rcases c6 with⟨a8,T,C,_⟩ | ⟨a8,T,C,e2⟩ | ⟨j,a8,T,e0,C,_⟩ | ⟨v,T,C,_⟩
     .simp at C
     .simp only[zT,Ex.exit.injEq,true_and]at C;obtain⟨rfl,rfl⟩:=C;obtain⟨env2,d1,d2⟩:=JJ e2 b4;subst b1;have i7:exitTo i k'=some k:=by rw[b2];simp[exitTo]
      exact⟨N,p,S,k,Q,env2,H',zGO (fr:= { fr with todo:= .code b:: .inBlock i::k}) hm i7 W,Y.le d2,Z,V,a5,a6, .inl ⟨rfl,d1⟩⟩
     .simp only[zT,Ex.exit.injEq]at C;exact absurd C.1.1.symm e0
     .simp at C
    .have e8:uE Bk i=some L':=by
      simp only[uE,zG,zX,if_neg (fun e=>hi (Eq.symm e))]at b3;exact b3
     have e9:exitTo i k'=exitTo i k:=by
      rw[b2];simp only[exitTo];rw[if_neg (by simpa using fun e=>hi (Eq.symm e))]
     rcases c6 with⟨a8,T,C,_⟩ | ⟨a8,T,C,_⟩ | ⟨j,a8,T,e0,C,e2⟩ | ⟨v,T,C,_⟩
     .simp at C
     .simp only[zT,Ex.exit.injEq]at C;exact absurd C.1.1 hi
     .exact⟨N,p,S,U,Q,env',H',W,Y,Z,V,a5,a6, .inr (.inl ⟨i,k',b1,e9,L',vs',e8,b4,e2⟩)⟩
     .simp at C
   .have c3:=vN b2;obtain⟨v,rfl⟩:=c3;rcases c6 with⟨a8,T,C,_⟩ | ⟨a8,T,C,_⟩ | ⟨j,a8,T,e0,C,_⟩ | ⟨v2,T,C,e2⟩
    .simp at C
    .simp at C
    .simp at C
    .subst e2;exact⟨N,p,S,U,Q,env',H',W,Y,Z,V,a5,a6, .inr (.inr ⟨k',b1,b2⟩)⟩
  | b0 hb=>
   simp only[kK]at o;intro lo R fr k cs w hm J G u hL I M;refine WS.step (YS hm G) rfl ?_;obtain⟨N,p,S,U,Q,env',H',W,Y,Z,V,a5,a6,a7⟩:=ih hb _ _ env H out O o lo R { fr with todo:= .code b:: .inBlock id::k} (.inBlock id::k) cs w hm J rfl u hL I M;rcases a7 with⟨b1,b2⟩ | ⟨i,k',b1,b2,L',vs',b3,b4,b5⟩ | ⟨k',b1,b2⟩
   .subst b1;exact⟨N,p,S,k,Q,env',H',XZ (fr:= { fr with todo:= .code b:: .inBlock id::k}) hm W,Y,Z,V,a5,a6, .inl ⟨rfl,b2⟩⟩
   .obtain⟨hi,e8⟩:=zBW b3;have e9:exitTo i k'=exitTo i k:=by
     rw[b2];simp only[exitTo];rw[if_neg (by simpa using fun e=>hi (Eq.symm e))]
    exact⟨N,p,S,U,Q,env',H',W,Y,Z,V,a5,a6, .inr (.inl ⟨i,k',b1,e9,L',vs',e8,b4,b5⟩)⟩
   .exact⟨N,p,S,U,Q,env',H',W,Y,Z,V,a5,a6, .inr (.inr ⟨k',b1,b2⟩)⟩
  | _=>simp[kK]at o
 | loop b ih=>
  intro h Bk K env H out O o
  cases h with
  | l L hb=>
   simp only[kK]at o;obtain⟨i8,i9,o⟩:=wI o;have key: ∀(m:Nat) (vs:List AV) (env:Env) (H:AH),PK env L vs->kL m (fun vs H=>unp L vs uN fun env=>kK B D n nt rs f0 ro b hb Bk (fun env H=>pck L env fun vs=>some (.norm vs,H)) env H) vs H=some out->
     ∀(lo:Nat) (R:Ren) (fr:Frame) (k:List Item) (cs:List Frame) (w:World),fr.mode= .run->(ro=false->fr.roundOf=none/\fr.fn=f0)->fr.todo= .code b:: .inLoop b::k->EnvR R env nt fr.tmps->Rel R H w->Marks lo R w fr.defers->lo<=w.heap.size->
     ∃N p c0 U Q env' H',Steps P (lone fr cs w) (lone { fr with tmps:=c0,todo:=U,defers:=Q} cs p)/\EnvR N env' nt c0/\Rel N H' p/\Ext R H w N H' p/\H.next<=H'.next/\Marks lo N p Q/\Ends k (fun env' H'=>K env' H'=some out) (XP Bk out) (RP B.X rs out) U env' H':=by
    intro m
    induction m with
    | zero=>intro vs env H _ hl;have b7:(none:Rs)=some out:=hl;simp at b7
    | succ m ihm=>
     intro vs env H hp hl lo R fr k cs w hm J G u hL I M;have b7:jn (unp L vs uN fun env=>kK B D n nt rs f0 ro b hb Bk (fun env H=>pck L env fun vs=>some (.norm vs,H)) env H) (kL m (fun vs H=>unp L vs uN fun env=>kK B D n nt rs f0 ro b hb Bk (fun env H=>pck L env fun vs=>some (.norm vs,H)) env H))=some out:=hl
     cases hy:(unp L vs uN fun env=>kK B D n nt rs f0 ro b hb Bk (fun env H=>pck L env fun vs=>some (.norm vs,H)) env H)with
     | none=>rw[hy]at b7;simp[jn]at b7
     | some y=>
      rw[hy]at b7;obtain⟨d5,d1,d2⟩:=JJ hy hp;obtain⟨N,p,S,U,Q,env',H',W,Y,Z,V,a5,a6,a7⟩:=ih hb Bk _ d5 H y O d1 lo R fr (.inLoop b::k) cs w hm J G (u.le d2) hL I M;rcases a7 with⟨b1,b2⟩ | ⟨i,k',b1,b2,L',vs',b3,b4,b5⟩ | ⟨k',b1,b2⟩
      .obtain⟨a8,c1,c2⟩:=wI b2;injection c2 with c2;subst c2
       subst b1;have j0:kL m (fun vs H=>unp L vs uN fun env=>kK B D n nt rs f0 ro b hb Bk (fun env H=>pck L env fun vs=>some (.norm vs,H)) env H) a8 H'=some out:=b7;obtain⟨R2,w2,t2,j1,j2,env2,T,C,e2,e3,e4,e5,e6,e7⟩:=ihm a8 env' H' c1 j0 lo N { fr with tmps:=S,todo:= .code b:: .inLoop b::k,defers:=Q} k cs p hm J rfl Y Z a6 (qR M V.size);have g8:=Steps.one (BZ (P:=P) (cs:=cs) (w:=p) (fr:= { fr with tmps:=S,todo:= .inLoop b::k,defers:=Q}) hm rfl);exact⟨R2,w2,t2,j1,j2,env2,T,W.trans (g8.trans C),e2,e3,V.trans e4,qR a5 e5,e6,e7⟩
      .subst b5;simp only[jn,zC]at b7;exact⟨N,p,S,U,Q,env',H',W,Y,Z,V,a5,a6, .inr (.inl ⟨i,k',b1,b2,L',vs',b3,b4,b7.symm⟩)⟩
      .have c3:=vN b2;obtain⟨v,rfl⟩:=c3;simp only[jn,zC]at b7;subst b7;exact⟨N,p,S,U,Q,env',H',W,Y,Z,V,a5,a6, .inr (.inr ⟨k',b1,b2⟩)⟩
   intro lo R fr k cs w hm J G u hL I M;refine WS.step (zF3 hm G) rfl ?_;exact key n i8 env H i9 o lo R { fr with todo:= .code b:: .inLoop b::k} k cs w hm J rfl u hL I M
  | _=>simp[kK]at o
 | exit id=>
  intro h Bk K env H out O o lo R fr k cs w hm J G u hL I M;simp only[kK]at o;split at o
  .rename_i L j3;obtain⟨vs,h1,h2⟩:=wI o;injection h2 with h2
   refine⟨R,w,fr.tmps,fr.todo,fr.defers,env,H, ?_,u,hL,zOL R H w,zP _,I, .inr (.inl ⟨id,k,G,rfl,L,vs,j3,h1,h2.symm⟩)⟩;exact .refl _ _
  .simp at o
 | ret=>
  intro h Bk K env H out O o lo R fr k cs w hm J G u hL I M;simp only[kK]at o;refine⟨R,w,fr.tmps,fr.todo,fr.defers,env,H, ?_,u,hL,zOL R H w,zP _,I, .inr (.inr ⟨k,G,o⟩)⟩;exact .refl _ _
 | rangeFunc f params assign body _ _=>
  intro h Bk K env H out O o
  cases h with
  | rf s L=>
   simp only[kK,zG]at o;split at o
   .simp at o
   .rename_i h4;have g9:ro=false:=by simpa using h4
    split at o
    .rename_i fv j4;obtain⟨vs,hp,o⟩:=wI o;obtain⟨S,f4,l4,o⟩:=zAo o;obtain⟨v,T,c7,o⟩:=fR o;obtain⟨lp,H3,f6,h0,c4,o⟩:=V0 o;unfold rfC at c7;split at c7
     .rename_i g first cap _ _
      intro lo R fr k cs w hm J G u hL I M;obtain⟨c9,h5⟩:=J g9;obtain⟨j5,h6⟩:=hr.call _ _ _ _ _ c7;obtain⟨a9,b6,j6,j7,j8⟩:=kP u _ _ j4
      let LP:Loop:= { state:= .ready,pending:=none,fn:=fr.fn,tmps:=fr.tmps,params:=params,assign:=assign,body:=body,defers:=w.heap.size}
      let W1:World:=(w.alloc (.deferred (some []))).alloc (.loop LP)
      let a0:Frame:= { fr with todo:= .inRangeFunc (w.heap.size+1)::k,defers:= { target:= .collected w.heap.size,args:= #[] } ::fr.defers}
      let R1:Ren:=R.add H.next (w.heap.size+1) 0 0
      have j9:=hL.alloc_out (.deferred (some []));have d6:(w.alloc (.deferred (some []))).heap.size=w.heap.size+1:=kU _ _;have f7:Rel R1 ⟨S,H.next+1⟩ W1:=by
       have:=j9.new (c:=0) (x:= .loop LP) f4 ⟨LP,nt,rfl,O,rfl,rfl,h5,(u.le (zMe hp)).mono (R.sub_add _ _ _ _)⟩;rw[d6]at this;exact this
      have c5:Ext R H w R1 ⟨S,H.next+1⟩ W1:=by
       have:=(Ext.alloc_out R H w (.deferred (some []))).trans (Ext.add (c:=0) (x:= .loop LP) f4);rw[d6]at this;exact this
      have f8:R1 H.next (w.heap.size+1) 0 0:=R.add_self _ _ _ _
      have k0:Marks lo R1 W1 a0.defers:=by
       have f9:=I.ext c5;refine⟨yP.2 ⟨fun q hq r e=> ?_,f9.1⟩,fun q hq=> ?_⟩
       .obtain⟨r',e',_,h2,_,_⟩:=I.2 q hq;rw[e'];intro e2;simp only[Deferred.mk.injEq,Target.collected.injEq,and_true]at e e2;omega
       .rcases zO.1 hq with rfl | hq
        .refine⟨w.heap.size,rfl,M, ?_, ?_, ?_⟩
         .show w.heap.size<W1.heap.size;simp only[W1,kU];omega
         .rintro A d c (h | ⟨_,h,_⟩)
          .have:=(hL.lt _ _ _ _ h).1;omega
          .omega
         .show((w.alloc (.deferred (some []))).alloc (.loop LP)).heap[w.heap.size]? =_;rw[heap_alloc_old _ _ _ (by rw[d6];omega),bI]
        .exact f9.2 q hq
      have k1:VRL R1 [AV.yT H.next] [Value.func (.yield (w.heap.size+1)) #[] #[]]:=⟨_,[],rfl,⟨_,_,_,f8,rfl⟩,rfl⟩
      have f1:VRL R1 (first++[AV.yT H.next]++cap) ((a9++[Value.func (.yield (w.heap.size+1)) #[] #[]])++b6):=
       ((VRL.mono c5.sub _ _ j7).append k1).append (VRL.mono c5.sub _ _ j8)
      have g0:=run_enterLoop_outer (P:=P) (w:=w) fr.fn fr.tmps params assign body;have f5: ∀F:Frame,F.tmps=fr.tmps->(resolve F.eval { callee:= .value f,args:= #[.const (.func (.yield (w.heap.size+1)) #[] #[])],argTypes:= #[] } 0).run P ((w.alloc (.deferred (some []))).alloc (.loop { state:= .ready,pending:=none,fn:=fr.fn,tmps:=fr.tmps,params:=params,assign:=assign,body:=body,defers:=w.heap.size}))=
        .ok { target:= .fn (.func g) ⟨b6⟩,args:=⟨a9++[Value.func (.yield (w.heap.size+1)) #[] #[]]⟩ } ((w.alloc (.deferred (some []))).alloc (.loop { state:= .ready,pending:=none,fn:=fr.fn,tmps:=fr.tmps,params:=params,assign:=assign,body:=body,defers:=w.heap.size})):=by
       intro F hF;have k2:F.eval f=fr.eval f:=by cases f<;>simp[Frame.eval,hF]
       have h7:F.eval f= .func (.func g) ⟨a9⟩ ⟨b6⟩:=k2.trans j6
       have k3:F.eval (.const (.func (.yield (w.heap.size+1)) #[] #[]))= .func (.yield (w.heap.size+1)) #[] #[]:=rfl;simp[resolve,h7,Deferred.ofValue,k3]
      have c8: ∀p,(invoke (.fn (.func g) ⟨b6⟩) ⟨a9++[Value.func (.yield (w.heap.size+1)) #[] #[]]⟩).run P p=(callFunc g ⟨(a9++[Value.func (.yield (w.heap.size+1)) #[] #[]])++b6⟩).run P p:=by
       intro p;have k4:(⟨a9++[Value.func (.yield (w.heap.size+1)) #[] #[]]⟩:Array Value)++⟨b6⟩=⟨(a9++[Value.func (.yield (w.heap.size+1)) #[] #[]])++b6⟩:=by
        apply Array.toList_inj.1;simp
       simp only[invoke,k4]
      have g4: ∃R2 w2 z,Steps P (lone fr cs w) (lone { a0 with todo:= .endRangeFunc (w.heap.size+1)::k} cs w2)/\VR R2 v z/\Rel R2 T w2/\Ext R1 ⟨S,H.next+1⟩ W1 R2 T w2:=by
       rcases h6 with⟨⟨fn,g1,l5⟩,k5⟩ | h8
       .have d0:step P (lone fr cs w)= .next (lone (Frame.enter P g ⟨(a9++[Value.func (.yield (w.heap.size+1)) #[] #[]])++b6⟩ .normal) (a0::cs) W1):=by
         refine step_lone_go ?_;have k6:=hX.nm g fn g1;have hb:fn.body.isNone=false:=by cases hh:fn.body<;>simp_all
         have g2: ∀p,(callFunc g ⟨(a9++[Value.func (.yield (w.heap.size+1)) #[] #[]])++b6⟩).run P p= .ok (.enter g ⟨(a9++[Value.func (.yield (w.heap.size+1)) #[] #[]])++b6⟩) p:=by
          intro p;simp only[callFunc,program,zH,Sem.run,Result.andThen,g1,k6,zM,qE,hb,zL]
         simp only[stepG,stepG.exec,hm,G,c9,Sem.runT_eq,g0,stepG.apply,zH];simp only[qF,yE,if_true];simp only[qH,qF,yE]at c8 g2⊢;simp[f5,c8,g2,a0,W1,LP,hm,c9]
        obtain⟨R2,w2,z,k7,s2,f2,k8,v2,l2,x2⟩:=k5 R1 _ (a0::cs) W1 f1 f7;have g5:step P (lone k7 (a0::cs) w2)= .next (lone { a0 with todo:= .endRangeFunc (w.heap.size+1)::k} cs w2):=step_leave_returned k8
        exact⟨R2,w2,z,(Steps.one d0).trans (s2.trans (.one g5)),v2,l2,x2⟩
       .obtain⟨R2,w2,z,h9,v2,l2,x2⟩:=h8 R1 _ W1 f1 f7;have d0:step P (lone fr cs w)= .next (lone { a0 with todo:= .endRangeFunc (w.heap.size+1)::k} cs w2):=by
         refine step_lone_go ?_;have f3:(callFunc g ⟨(a9++[Value.func (.yield (w.heap.size+1)) #[] #[]])++b6⟩).run P ((w.alloc (.deferred (some []))).alloc (.loop { state:= .ready,pending:=none,fn:=fr.fn,tmps:=fr.tmps,params:=params,assign:=assign,body:=body,defers:=w.heap.size}))= .ok (.value z) w2:=h9
         simp only[stepG,stepG.exec,hm,G,c9,Sem.runT_eq,g0,stepG.apply,zH];simp only[qF,yE,if_true];simp only[qH,qF,yE]at c8 f3;simp[f5,c8,f3,a0,hm,c9,Frame.finish]
        exact⟨R2,w2,z, .one d0,v2,l2,x2⟩
      obtain⟨R2,w2,z,s2,v2,l2,x2⟩:=g4;have d7:R2 H.next (w.heap.size+1) 0 0:=x2.sub _ _ _ _ f8
      obtain⟨L2,l7,k9,_,i0,i1,_,_⟩:=l2.obj _ _ _ _ _ d7 f6;have l0:=run_endLoop (P:=P) k9 (by rw[i0];exact h0);have g6:step P (lone { a0 with todo:= .endRangeFunc (w.heap.size+1)::k} cs w2)= .next (lone { a0 with todo:=(lp.pending.map Item.code).toList++k} cs (vX w2 (w.heap.size+1) (.loop { L2 with state:= .exhausted}))):=by
       refine step_lone_go ?_;have l1:a0.mode= .run:=hm;simp only[stepG,stepG.exec,l1,Sem.runT_eq,l0,i1];simp[World.putObj,vX]
      unfold fF at c4;split at c4
      .rename_i t3 g3;simp only[zC]at c4;subst c4;have l3:=l2.put d7 ⟨_,f6,trivial⟩ g3 (x:= .loop { L2 with state:= .exhausted}) (o':= .dead) trivial;have x3:Ext R2 T w2 R2 ⟨t3,T.next⟩ (vX w2 (w.heap.size+1) (.loop { L2 with state:= .exhausted})):=Ext.put d7 g3
       have d8:=c5.trans (x2.trans x3);have d3:=(k0.ext x2).ext x3;have d4:EnvR R2 env nt fr.tmps:=u.mono (c5.sub.trans x2.sub);have b9:=s2.trans (Steps.one g6);have d9:H.next<=T.next:=qR (Nat.le_succ _) j5
       unfold zEc at o;split at o
       .rename_i hj;rw[hj]at b9;exact⟨R2,_,fr.tmps,k,a0.defers,env,_,b9,d4,l3,d8,d9,d3, .inl ⟨rfl,o⟩⟩
       .rename_i id hj;rw[hj]at b9;exact⟨R2,_,fr.tmps, .code (.exit id)::k,a0.defers,env,_,b9,d4,l3,d8,d9,d3, .inr (.inl ⟨id,k,rfl,rfl,UM o⟩)⟩
       .rename_i hj;rw[hj]at b9;exact⟨R2,_,fr.tmps, .code .ret::k,a0.defers,env,_,b9,d4,l3,d8,d9,d3, .inr (.inr ⟨k,rfl,o⟩)⟩
       .simp at o
      .simp at c4
     .simp at c7
    .simp at o
  | _=>simp[kK]at o
 | scope b _=>intro h Bk K env H out O o;simp[kK]at o
 | goto l=>intro h Bk K env H out O o;simp[kK]at o
 | refuse why=>intro h Bk K env H out O o;simp[kK]at o
end
theorem Rel.wput_out (h:Rel E A t){x:Obj}(hr: ∀R d c,¬E R H d c):Rel E A (vX t H x):=
 ⟨h.fn,h.inj,fun R b d c o a f=>by
  rw[vH _ _ _ _ (fun e=>by subst e;exact hr _ _ _ a)];exact h.obj R b d c o a f,
  fun R b d c a=>by rw[vJ];exact h.lt R b d c a⟩
theorem Ext.wput_above {f:Ren}{w:World}(h:Ext E A t f J w)(x:Obj)(hr:t.heap.size<=H):Ext E A t f J (vX w H x) where
 sub:=h.sub
 new:=h.new
 newA:=h.newA
 next:=h.next
 keepA:=h.keepA
 os:=h.os
 tape:=h.tape
 output:=h.output
 size:=by rw[vJ];exact h.size
 keep b hb hR:=by rw[vH _ _ _ _ (by omega)];exact h.keep b hb hR
theorem Y7 {P:Program}{h:World}{j:Ren}{H0:AH}{cs:List Frame} : ∀(a:List Deferred) (fr:Frame) (w:World) (R:Ren) (H:AH),fr.mode= .returning->fr.defers=a->Marks h.heap.size R w a->Rel R H w->Ext j H0 h R H w->
  ∃f,Steps P (lone fr cs w) (lone { fr with defers:=[] } cs f)/\Rel R H f/\Ext j H0 h R H f
 | [],fr,w,R,H,hm,hd,_,hL,hx=>⟨w,by
   have:({ fr with defers:=[] } :Frame)=fr:=by rw[<-hd]
   rw[this];exact .refl _ _,hL,hx⟩
 | d::a,fr,w,R,H,hm,hd,hM,hL,hx=>by
  obtain⟨r,rfl,u,L,v,x⟩:=hM.2 d (zJ ..);have p:(Instr.takeDeferred r).run P w= .ok [] (vX w r (.deferred none)):=by
   simp[Instr.takeDeferred,getObj,setObj,zH,Sem.run,x,vX,Result.andThen]
  have o:step P (lone fr cs w)= .next (lone { fr with defers:=a} cs (vX w r (.deferred none))):=by
   refine step_lone_go ?_;simp[stepG,unwind,hm,hd,Sem.runT_eq,p]
  have s:Marks h.heap.size R (vX w r (.deferred none)) a:=by
   refine⟨(yP.1 hM.1).2,fun q m=> ?_⟩;obtain⟨i,e,y,z,C,F⟩:=hM.2 q (zE _ m);have t:i≠r:=fun G=>by subst G;exact(yP.1 hM.1).1 q m i rfl e
   exact⟨i,e,y,by rw[vJ];exact z,C,by rw[vH _ _ _ _ t];exact F⟩
  obtain⟨f,I,J,K⟩:=Y7 a { fr with defers:=a} (vX w r (.deferred none)) R H hm rfl s (hL.wput_out v) (hx.wput_above _ u);exact⟨f,(Steps.one o).trans I,J,K⟩
theorem BO: ∀ {k i:Nat} {vs:List AV} {env:Env} {K:Env->Rs} {out:Ex×AH},zMH k i vs env K=some out->vs.length=k/\ ∃env',K env'=some out/\ ∀t,look env' t=if i<=t/\t<i+k then vs[t - i]? else look env t
 | 0,i,vs,env,K,out,h=>by
  simp only[zMH,nl]at h;split at h
  .exact⟨rfl,env,h,fun t=>by rw[if_neg (by omega)]⟩
  .simp at h
 | k+1,i,vs,env,K,out,h=>by
  simp only[zMH]at h;obtain⟨v,l,rfl,a⟩:=KG h;obtain⟨f,env',j,m⟩:=BO a;refine⟨by simp[f],env',j,fun t=> ?_⟩;rw[m t];by_cases e:t=i
  .subst e;rw[if_neg (by omega),if_pos (by omega)];simp[look,bD]
  .by_cases h5:i<=t/\t<i+(k+1)
   .rw[if_pos (by omega),if_pos h5,show t - i=(t - (i+1))+1 from by omega,yW]
   .rw[if_neg (by omega),if_neg h5];simp[look,bD,e]
theorem zAc {X:Cx}{env:Env}{H:AH} : ∀(rs:List ResultVar) (G:List AV->Rs) (z:Ex×AH),zML X rs env H G=some z-> ∃vs,cN X env H rs=some vs/\G vs=some z
 | [],G,z,h=>⟨[],rfl,h⟩
 | r::rs,G,z,h=>by
  simp only[zML]at h;obtain⟨v,f,i⟩:=wJ h;obtain⟨vs,j,m⟩:=zAc rs _ z i;refine⟨v::vs, ?_,m⟩;have:zCj X env H r=some v:=by
   cases r with
   | tmp t=>exact f
   | cell a t=>
    simp only[resE]at f;obtain⟨p,hp,hl⟩:=wZ f;exact aY hp (VQ hl)
  simp only[cN,this,j]
section
variable {P:Program}{X:Cx}(hX:Ok P X)
include hX in
theorem X4 {R:Ren}{H:AH}{w:World}(hL:Rel R H w){env:Env}{nt:Nat}{i:Array Value}(m:EnvR R env nt i): ∀(rs:List ResultVar) (vs:List AV),cN X env H rs=some vs->
  ∃j:List Value,(rs.mapM (fun | .tmp t=>pure (i.getD t undef) | .cell a t=>do loadVar t (← asAddr (i.getD a undef)):ResultVar->Sem Value)).run P w= .ok j w/\VRL R vs j
 | [],vs,h=>by simp only[cN,zC]at h;subst h;exact⟨[],rfl,rfl⟩
 | r::rs,vs,h=>by
  simp only[cN]at h;split at h
  .rename_i v f;split at h
   .rename_i vs' s;simp only[zC]at h;subst h;obtain⟨j,C,F⟩:=X4 hL m rs vs' s;have q: ∃z,(match r with | .tmp t=>pure (i.getD t undef) | .cell a t=>do loadVar t (← asAddr (i.getD a undef)):Sem Value).run P w= .ok z w/\VR R v z:=by
     cases r with
     | tmp t=>exact⟨_,rfl,m.get t v f⟩
     | cell a t=>
      simp only[zCj]at f;unfold b1 at f;split at f
      .rename_i p u;have hp:=m.get a p u;obtain⟨z,o,G⟩:=zDE (P:=P) hX hL f hp;refine⟨z, ?_,G⟩
       cases p with
       | ptr A off=>
        obtain⟨b,d,c,hr,e⟩:=hp;show(do loadVar t (← asAddr (i.getD a undef)):Sem Value).run P w= .ok z w
        rw[e]at o⊢;simp only[Instr.loadAt,Instr.sureAddr,zH,zL,Result.andThen]at o;simp only[asAddr,zH,zL,Result.andThen];exact o
       | _=>simp[WC]at f
      .simp at f
    obtain⟨z,x,y⟩:=q;refine⟨z::j, ?_,z,j,rfl,y,F⟩;rw[List.mapM_cons];simp only[zH,x,Result.andThen,C];rfl
   .simp at h
  .simp at h
end
theorem zKS {a:List Value}(R:VRL E h a):VR E (tupV h) (if R:a.toArray.size=1 then a.toArray[0]else .tuple a.toArray):=by
 unfold tupV;split
 .rename_i v;obtain⟨z,m,rfl,f,i⟩:=R;simp only[VRL]at i;subst i;simpa using f
 .rename_i j;have hl:=zOE _ _ R;have: ¬a.toArray.size=1:=by
   intro f;simp only[List.size_toArray]at f;rw[hl]at f
   match h,f with
   | [x],_=>exact j x rfl
  rw[dif_neg this];exact⟨a,rfl,R⟩
section
variable {P:Program}{B:Tb}{D:Dyn}(hr:Good P (rOf B D)){nt:Nat}{rs:List ResultVar}{f0:FuncId}{ro:Bool}
include hr in
theorem zFn {K:Env->AH->Rs}(j: ∀e H',K e H'=some F->H'.next<=F.2.next)(h:zMM B D nt U W K r A=some F):A.next<=F.2.next:=by
 unfold zMM at h;rw[zG]at h;split at h
 .split at h
  .rename_i row masks p;obtain⟨es,envF,HF,env',c1,c2,c3,f,q⟩:=u5 _ row [] r A r [] h (Le.refl r) (fun ms i=>by intro a o;simp at o);exact qR (wS hr.mono c1).1 (j _ _ f)
  .simp at h
 .obtain⟨es,envF,HF,env',c1,c2,c3,f,_⟩:=u5 _ _ [] r A r [] h (Le.refl r) (fun ms i=>by simp at i);exact qR (wS hr.mono c1).1 (j _ _ f)
theorem d7: ∀ {L:List Nat} {vs:List AV} {base:Env} {K:Env->Rs} {out:Ex×AH},unp L vs base K=some out-> ∃env',K env'=some out
 | [],vs,base,K,out,h=>⟨base,h⟩
 | l::L,vs,base,K,out,h=>by
  simp only[unp]at h;obtain⟨v,l',rfl,a⟩:=KG h;exact d7 a
theorem cH (h:(pck l r fun vs=>some (.norm vs,A))=some F):A.next<=F.2.next:=by
 obtain⟨vs,_,a⟩:=wI h;injection a with a;rw[<-a];exact zP _
include hr in
theorem QZ  : ∀(c:Code) (h:Hint) (Bk:List (Nat×List Nat)) (K:Env->AH->Rs) (env:Env) (n:AH) (out:Ex×AH),(∀e H',K e H'=some out->H'.next<=out.2.next)->kK B D H nt rs f0 ro c h Bk K env n=some out->n.next<=out.2.next:=by
 intro c
 induction c with
 | skip=>intro h Bk K env n out p j;simp only[kK]at j;exact p _ _ j
 | label l=>intro h Bk K env n out p j;simp only[kK]at j;exact p _ _ j
 | region id ops draw=>intro h Bk K env n out p j;simp only[kK]at j;exact zFn hr p j
 | seq a b iha ihb=>
  intro h Bk K env n out p j
  cases h with
  | s ha hb=>simp only[kK]at j;exact iha ha Bk _ env n out (fun e H' h=>ihb hb Bk K e H' out p h) j
  | t L m=>
   simp only[kK]at j;obtain⟨vs,_,j⟩:=wI j;obtain⟨H',_,M,j⟩:=zCt j;obtain⟨env',j⟩:=d7 j;exact qR M (p _ _ j)
  | _=>simp[kK]at j
 | cond c a b iha ihb=>
  intro h Bk K env n out p j
  cases h with
  | c L ha hb=>
   simp only[kK]at j;split at j
   .have key: ∀y,(kK B D H nt rs f0 ro a ha Bk (fun env n=>pck L env fun vs=>some (.norm vs,n)) env n=some y\/kK B D H nt rs f0 ro b hb Bk (fun env n=>pck L env fun vs=>some (.norm vs,n)) env n=some y)->n.next<=y.2.next:=by
     rintro y (o | o)
     .exact iha ha Bk _ env n y (fun e H' h=>cH h) o
     .exact ihb hb Bk _ env n y (fun e H' h=>cH h) o
    rcases UE j with⟨vs,x,o,u⟩ | ⟨id,vs,x,o,rfl⟩ | ⟨v,x,o,rfl⟩
    .have I:=key _ (by rcases fP o with⟨_,h⟩ | ⟨_,h⟩;exact .inl h;exact .inr h);obtain⟨env',q⟩:=d7 u;exact qR I (p _ _ q)
    .exact key _ (by rcases fP o with⟨_,h⟩ | ⟨_,h⟩;exact .inl h;exact .inr h)
    .exact key _ (by rcases fP o with⟨_,h⟩ | ⟨_,h⟩;exact .inl h;exact .inr h)
   .simp at j
  | cl ha hb=>
   simp only[kK]at j;split at j
   .rcases fP j with⟨_,o⟩ | ⟨_,o⟩
    .exact iha ha Bk _ env n out (fun _ _ h=>by simp at h) o
    .exact ihb hb Bk _ env n out p o
   .simp at j
  | cr ha hb=>
   simp only[kK]at j;split at j
   .rcases fP j with⟨_,o⟩ | ⟨_,o⟩
    .exact iha ha Bk _ env n out p o
    .exact ihb hb Bk _ env n out (fun _ _ h=>by simp at h) o
   .simp at j
  | _=>simp[kK]at j
 | block id b ih=>
  intro h Bk K env n out p j
  cases h with
  | b L hb=>
   simp only[kK]at j;obtain⟨y,O,Q⟩:=zG1 j;have o:=ih hb _ _ env n y (fun e H' h=>cH h) O;rcases Q with⟨vs,z,rfl,G⟩ | ⟨vs,z,rfl,G⟩ | ⟨i,vs,z,_,rfl,rfl⟩ | ⟨v,z,rfl,rfl⟩
   .obtain⟨env',q⟩:=d7 G;exact qR o (p _ _ q)
   .obtain⟨env',q⟩:=d7 G;exact qR o (p _ _ q)
   .exact o
   .exact o
  | b0 hb=>simp only[kK]at j;exact ih hb _ _ env n out p j
  | _=>simp[kK]at j
 | loop b ih=>
  intro h Bk K env n out p j
  cases h with
  | l L hb=>
   simp only[kK]at j;obtain⟨N,_,j⟩:=wI j;have key: ∀(m:Nat) (vs:List AV) (n:AH),kL m (fun vs n=>unp L vs uN fun env=>kK B D H nt rs f0 ro b hb Bk (fun env n=>pck L env fun vs=>some (.norm vs,n)) env n) vs n=some out->n.next<=out.2.next:=by
    intro m
    induction m with
    | zero=>intro vs n hl;have F:(none:Rs)=some out:=hl;simp at F
    | succ m ihm=>
     intro vs n hl;have F:jn (unp L vs uN fun env=>kK B D H nt rs f0 ro b hb Bk (fun env n=>pck L env fun vs=>some (.norm vs,n)) env n) (kL m (fun vs n=>unp L vs uN fun env=>kK B D H nt rs f0 ro b hb Bk (fun env n=>pck L env fun vs=>some (.norm vs,n)) env n))=some out:=hl;rcases UE F with⟨vs,x,o,u⟩ | ⟨id,vs,x,o,rfl⟩ | ⟨v,x,o,rfl⟩
     .obtain⟨env',q⟩:=d7 o;exact qR (ih hb Bk _ env' n _ (fun e H' h=>cH h) q) (ihm vs x u)
     .obtain⟨env',q⟩:=d7 o;exact ih hb Bk _ env' n _ (fun e H' h=>cH h) q
     .obtain⟨env',q⟩:=d7 o;exact ih hb Bk _ env' n _ (fun e H' h=>cH h) q
   exact key H N n j
  | _=>simp[kK]at j
 | exit id=>
  intro h Bk K env n out p j;simp only[kK]at j;split at j
  .obtain⟨vs,_,u⟩:=wI j;injection u with u;rw[<-u];exact zP _
  .simp at j
 | ret=>
  intro h Bk K env n out p j;simp only[kK]at j;obtain⟨v,e⟩:=vN j;rw[e];exact zP _
 | rangeFunc f params assign body _ _=>
  intro h Bk K env n out p j
  cases h with
  | rf s L=>
   simp only[kK,zG]at j;split at j
   .simp at j
   .split at j
    .obtain⟨vs,_,j⟩:=wI j;obtain⟨U,_,_,j⟩:=zAo j;obtain⟨v,z,C,j⟩:=fR j;obtain⟨V,S,T,_,J,j⟩:=V0 j;have o:n.next+1<=z.next:=by
      unfold rfC at C;split at C
      .exact(hr.call _ _ _ _ _ C).1
      .simp at C
     have u:=xJ J;have I:S.next<=out.2.next:=by
      unfold zEc at j;split at j
      .exact p _ _ j
      .obtain⟨W,vs',_,_,e⟩:=UM j;rw[e];exact zP _
      .obtain⟨v,e⟩:=vN j;rw[e];exact zP _
      .simp at j
     omega
    .simp at j
  | _=>simp[kK]at j
 | scope b _=>intro h Bk K env n out _ j;simp[kK]at j
 | goto l=>intro h Bk K env n out _ j;simp[kK]at j
 | refuse why=>intro h Bk K env n out _ j;simp[kK]at j
end
section
variable {P:Program}{B:Tb}{D:Dyn}(hX:Ok P B.X)(hr:Good P (rOf B D))
include hX hr in
theorem zGg (p:P.funcs[q]? =some m)(V: ∀body,m.body=some body->kT P q m.ntmps body N)(o:zLS B D H q m N h A=some (s,J)):A.next<=J.next/\zMF P q h A s J:=by
 unfold zLS at o;split at o
 .rename_i body C;rw[zG]at o;split at o
  .rename_i a1;rw[qT]at a1;unfold fG at o;split at o
   .rename_i I H' hc;simp only[zC,zT]at o;obtain⟨rfl,rfl⟩:=o;obtain⟨a8,env,args,G⟩:=BO hc;have hS:=J4 hX hr body N [] _ env A _ (V body C) args;have W: ∀(R:Ren) (a:List Value) (cs:List Frame) (w:World),VRL R h a->Rel R A w->A.next<=H'.next/\
      ∃F u z i,Steps P (lone (Frame.enter P q ⟨a⟩ .normal) cs w) (lone i cs u)/\i.fn=q/\i.leaving P u (.returned z)/\VR F I z/\Rel F H' u/\Ext R A w F H' u:=by
     intro R a cs w y hL;have a9:=zOE _ _ y;have hE:EnvR R env m.ntmps (Frame.enter P q ⟨a⟩ .normal).tmps:=by
      have a2:(Frame.enter P q ⟨a⟩ .normal).tmps=(⟨a⟩:Array Value)++Array.replicate (m.ntmps - a.length) undef:=by
       simp[Frame.enter,p]
      rw[a2];refine⟨by simp;omega,fun t x j=> ?_,fun t ht=> ?_⟩
      .rw[G t]at j;split at j
       .rename_i b0;rw[jF]at j;obtain⟨z,a3,a4⟩:=VRL.get _ _ y t x j;have a5:t<a.length:=by omega
        rw[qZ,Array.getElem?_append_left (by simpa using a5)];have:(⟨a⟩:Array Value)[t]? =some z:=by simpa using a3
        rw[this];exact a4
       .simp[look,uN]at j
      .rw[G t,if_neg (by omega)];rfl
     have a6:(Frame.enter P q ⟨a⟩ .normal).todo= .code body::[]:=by simp[Frame.enter,p,C]
     obtain⟨K,M,t1,b4,f,Y,n,O,e1,l1,x1,n1,m1,o1⟩:=hS w.heap.size R (Frame.enter P q ⟨a⟩ .normal) [] cs w rfl (fun _=>⟨rfl,rfl⟩) a6 hE hL (Marks.nil _ _ _) (zP _);have Z: ∃i:Frame,Steps P (lone (Frame.enter P q ⟨a⟩ .normal) cs w) (lone i cs M)/\i.fn=q/\i.mode= .returning/\i.defers=f/\i.kind= .normal/\i.tmps=t1/\zIo B.X m.results.toList Y n=some (.ret I,H'):=by
      rcases o1 with⟨rfl,b2⟩ | ⟨id,k',b1,b2,L,vs,b3,_⟩ | ⟨k',rfl,b2⟩
      .exact⟨_,O.trans (.one (zNd (fr:= { Frame.enter P q ⟨a⟩ .normal with tmps:=t1,todo:=[],defers:=f}) rfl rfl rfl)),rfl,rfl,rfl,rfl,rfl,b2⟩
      .simp[uE]at b3
      .exact⟨_,O.trans (.one (zNc (fr:= { Frame.enter P q ⟨a⟩ .normal with tmps:=t1,todo:= .code .ret::k',defers:=f}) rfl rfl rfl)),rfl,rfl,rfl,rfl,rfl,b2⟩
     obtain⟨i,hs,Q,S,f3,f4,f5,a0⟩:=Z;obtain⟨vs,a7,T⟩:=zAc _ _ _ a0;simp only[zC,zT,Ex.ret.injEq]at T;obtain⟨rfl,rfl⟩:=T;obtain⟨w2,u1,U,u3⟩:=Y7 (P:=P) (cs:=cs) f i M K n S f3 m1 l1 x1;obtain⟨zs,z1,z2⟩:=X4 hX U e1 _ _ a7;refine⟨n1,K,w2,_, { i with defers:=[] },hs.trans u1,Q,⟨S,rfl,f4,m,by rw[Q];exact p, ?_⟩,zKS z2,U,u3⟩;simp only[f5,results,Array.mapM_eq_mapM_toList,zH,Sem.run_map]
     erw[z1]
     rfl
    refine⟨?_,⟨m,p,by simp[C]⟩,fun R a cs w y hL=>(W R a cs w y hL).2⟩;exact QZ hr body N [] _ env A _ (fun e J hh=>by obtain⟨s,e⟩:=vN hh;rw[e];exact zP _) args
   .simp at o
  .simp at o
 .simp at o
include hX hr in
end
theorem zEG {K:Env->Rs}(vs:unp l h r K=some F):K (zMT l h r)=some F:=by
 induction l generalizing h r with
 | nil=>cases h<;>exact vs
 | cons L l ih=>
  simp only[unp]at vs;obtain⟨v,l',rfl,a⟩:=KG vs;exact ih a
theorem zEH {nt:Nat}{R:Ren} : ∀ {i:List Nat} {j:List AV} {env:Env} {K:Env->Rs} {out:Ex×AH} {vs:List Value} {f:Array Value},zI5 nt i j env K=some out->VRL R j vs->EnvR R env nt f->
  vs.length=i.length/\ ∃env',K env'=some out/\EnvR R env' nt ((i.zip vs).foldl (fun f (x:Nat×Value)=>f.setIfInBounds x.1 x.2) f)
 | [],j,env,K,out,vs,f,h,hv,hE=>by
  simp only[zI5,nl]at h;split at h
  .simp only[VRL]at hv;subst hv;exact⟨rfl,env,h,hE⟩
  .simp at h
 | p::i,j,env,K,out,vs,f,h,hv,hE=>by
  simp only[zI5]at h;obtain⟨a,C,rfl,m⟩:=KG h;obtain⟨v,vs',rfl,s,t⟩:=hv;rw[zG]at m;split at m
  .rename_i o;have q:EnvR R (upd env p a) nt (f.setIfInBounds p v):=hE.put (dst:=some p) s (by simp only[WJ,o,zU]);obtain⟨u,env',y,z⟩:=zEH m t q;exact⟨by simp[u],env',y,z⟩
  .simp at m
theorem zCr {nt:Nat} : ∀ {j:List Nat} {i:List AV} {env:Env} {K:Env->Rs} {out:Ex×AH},zI5 nt j i env K=some out-> ∃env',K env'=some out
 | [],i,env,K,out,h=>by
  simp only[zI5,nl]at h;split at h
  .exact⟨env,h⟩
  .simp at h
 | p::j,i,env,K,out,h=>by
  simp only[zI5]at h;obtain⟨a,m,rfl,f⟩:=KG h;rw[zG]at f;split at f
  .exact zCr f
  .simp at f
theorem W8 {K:AH->Rs}(h:fV H A K=some F): ∃l H',A.h.get H=some (.loop l)/\l.state= .ready/\fF A H (.loop { l with state:= .busy})=some H'/\K H'=some F:=by
 unfold fV at h;split at h
 .rename_i l a;split at h
  .rename_i f;split at h
   .rename_i H' hp;exact⟨l,H',a,f,hp,h⟩
   .simp at h
  .simp at h
 .simp at h
def stOf:Option Code->LoopState
 | none=> .ready
 | some _=> .done
theorem zAU (h:BK H Y A=some (s,J)): ∃l,A.h.get H=some (.loop l)/\fF A H (.loop { l with state:=stOf Y,pending:=Y})=some J/\s= .bool Y.isNone:=by
 unfold BK at h;split at h
 .rename_i l a;split at h
  .split at h
   .rename_i f hp;simp only[zC,zT]at h;obtain⟨rfl,rfl⟩:=h;exact⟨l,a,hp,rfl⟩
   .simp at h
  .split at h
   .rename_i f hp;simp only[zC,zT]at h;obtain⟨rfl,rfl⟩:=h;exact⟨l,a,hp,rfl⟩
   .simp at h
 .simp at h
def Leaves (a:List Item):Option Code->Prop
 | none=>a=[]
 | some (.exit id)=> ∃k,a= .code (.exit id)::k/\exitTo id k=none
 | some .ret=> ∃k,a= .code .ret::k
 | some _=>False
theorem zEa {F fr:Frame}{h:World}(hm:F.mode= .run)(f:F.kind= .normal)(hb:F.roundOf=some H)(a:Leaves F.todo Y)(hr:(Instr.endRound H Y).run g t= .ok c h):
  Go.step g (lone F (fr::z) t)= .next (lone (fr.finish c) z h):=by
 refine step_lone_go ?_
 cases Y with
 | none=>
  simp only[Leaves]at a;simp[stepG,stepG.exec,hm,a,hb,Sem.runT_eq,hr,doReturn,f]
 | some P=>
  cases P<;>simp only[Leaves]at a
  .obtain⟨k,a,i⟩:=a;simp[stepG,stepG.exec,hm,a,hb,i,Sem.runT_eq,hr,doReturn,f]
  .obtain⟨k,a⟩:=a;simp[stepG,stepG.exec,hm,a,hb,Sem.runT_eq,hr,doReturn,f]
section
variable {P:Program}{B:Tb}{D:Dyn}(hX:Ok P B.X)(hr:Good P (rOf B D))
theorem Rel.loopAt (h:Rel E A t){l:ALoop}(a:A.h.get H=some (.loop l))(hR:E H p C f):
  ∃(L:Loop) (nt:Nat),t.heap[p]? =some (.loop L)/\VX l.fn l.site=some (nt,L.params,L.assign,L.body)/\L.state=l.state/\L.pending=l.pending/\L.fn=l.fn/\EnvR E (envL l.live l.vals) nt L.tmps:=h.obj H p C f _ hR a
theorem Rel.loopPut (h:Rel E A t){l:ALoop}(j:A.h.get H=some (.loop l))(hR:E H p C f){st:LoopState}(hp:fF A H (.loop { l with state:=st,pending:=Y})=some J){L:Loop}(hb:t.heap[p]? =some (.loop L)):
  Rel E J (vX t p (.loop { L with state:=st,pending:=Y}))/\Ext E A t E J (vX t p (.loop { L with state:=st,pending:=Y})):=by
 obtain⟨H',nt,a,m,q,s,o,h5⟩:=h.loopAt j hR;rw[hb]at a;injection a with a;injection a with a;subst a
 unfold fF at hp;split at hp
 .rename_i R i;simp only[zC]at hp;subst hp;exact⟨h.put hR ⟨_,j,trivial⟩ i ⟨_,nt,rfl,m,rfl,rfl,o,h5⟩,Ext.put hR i⟩
 .simp at hp
theorem zGQ {x:Rs}(h:zKA H x=some (s,A)): ∃y,x=some y/\((∃vs,y.1= .norm vs/\BK H none y.2=some (s,A))\/(∃id vs,y.1= .exit id vs/\BK H (some (.exit id)) y.2=some (s,A))\/(∃u,y.1= .ret u/\BK H (some .ret) y.2=some (s,A))):=by
 unfold zKA at h;split at h
 .exact⟨_,rfl, .inl ⟨_,rfl,h⟩⟩
 .exact⟨_,rfl, .inr (.inl ⟨_,_,rfl,h⟩)⟩
 .exact⟨_,rfl, .inr (.inr ⟨_,rfl,h⟩)⟩
 .simp at h
theorem zGP (h:BK H Y A=some (s,J)):J.next=A.next:=by
 obtain⟨l,_,hp,_⟩:=zAU h;exact xJ hp
include hX hr in
theorem zLh {d3:List Nat}{hb:Hint}(b5: ∀nt o f body,VX q p=some (nt,o,f,body)->kT P q nt f N/\kT P q nt body hb){L:ALoop}
  (hA:A.h.get C=some (.loop L)) (hf:L.fn=q) (hs:L.site=p) (H':zMK B D H q p l d3 N hb C L h A=some (s,J)):zBw P C h A s J:=by
 unfold zMK at H';split at H'
 .rename_i nt o f body a1;obtain⟨d4,d5⟩:=b5 _ _ _ _ a1;unfold rdK at H';rw[zG]at H';split at H'
  .rename_i d6;obtain rfl:=aT _ _ d6;obtain⟨y,hy,az⟩:=zGQ H';have c0:A.next<=J.next:=by
    have h1:A.next<=y.2.next:=by
     have V:=zEG hy;obtain⟨env',d7⟩:=zCr V;refine QZ hr f N [] _ env' A y (fun e H1 hk=> ?_) d7;obtain⟨v,f0,_,_,hp,W⟩:=W8 hk;rw[<-xJ hp];exact QZ hr body hb _ _ e f0 y (fun e K Y=>by injection Y with Y;rw[<-Y];exact zP _) W
    rcases az with⟨vs,_,i⟩ | ⟨id,vs,_,i⟩ | ⟨u,_,i⟩<;>rw[zGP i]<;>exact h1
   refine⟨c0,fun R n fr cs w b d c Z b6 hL=> ?_⟩;obtain⟨m,f6,d8,Q,f3,f4,c1,d9⟩:=hL.loopAt hA Z;rw[hf,hs,a1]at Q;simp only[zC,zT]at Q;obtain⟨rfl,a4,c6,b7⟩:=Q;obtain⟨c7,c8,V,e0⟩:=zEH (zEG hy) b6 d9;refine⟨m,d8,by rw[c7,<-a4];simp, ?_⟩;have b8:((m.params.zip n.toArray).foldl (fun tmps (t,a)=>tmps.setIfInBounds t a) m.tmps)=((o.toList.zip n).foldl (fun tmps (x:Nat×Value)=>tmps.setIfInBounds x.1 x.2) m.tmps):=by
    rw[<-a4,<-Array.foldl_toList];simp only[Array.toList_zip]
   rw[b8,c1,hf,<-c6,<-b7];have e2:=J4 hX hr f N [] _ c8 A y d4 V;obtain⟨R1,w1,t1,f7,a0,env2,H1,s1,e1,v,M,n1,m1,o1⟩:=e2 w.heap.size R (Frame.round b q ((o.toList.zip n).foldl (fun tmps (x:Nat×Value)=>tmps.setIfInBounds x.1 x.2) m.tmps) f body .normal) [.beginRound, .code body] (fr::cs) w rfl (fun H'=>by simp at H') rfl e0 hL (Marks.nil _ _ _) (zP _);have G: ∀(I:Ren) (O:World) (f0:AH) (F:Frame) (j:Option Code),Steps P (lone (Frame.round b q ((o.toList.zip n).foldl (fun tmps (x:Nat×Value)=>tmps.setIfInBounds x.1 x.2) m.tmps) f body .normal) (fr::cs) w) (lone F (fr::cs) O)->
     F.mode= .run->F.kind= .normal->F.roundOf=some b->Leaves F.todo j->Rel I f0 O->Ext R A w I f0 O->BK C j f0=some (s,J)->
     ∃R' w' z,Steps P (lone (Frame.round b q ((o.toList.zip n).foldl (fun tmps (x:Nat×Value)=>tmps.setIfInBounds x.1 x.2) m.tmps) f body .normal) (fr::cs) w) (lone (fr.finish z) cs w')/\VR R' s z/\Rel R' J w'/\Ext R A w R' J w':=by
    intro I O f0 F j e4 hm hk e5 e6 a5 a6 c9;obtain⟨l2,a7,e7,rfl⟩:=zAU c9;have a2:=a6.sub _ _ _ _ Z;obtain⟨L2,_,a8,_⟩:=a5.loopAt a7 a2;obtain⟨e8,e9⟩:=a5.loopPut a7 a2 e7 a8;have S:=run_endRound (P:=P) j a8;refine⟨I,_,_,e4.trans (.one (zEa hm hk e5 e6 S)),rfl, ?_, ?_⟩
    .have:(if j.isNone=true then LoopState.ready else LoopState.done)=stOf j:=by cases j<;>rfl
     rw[this];exact e8
    .have:(if j.isNone=true then LoopState.ready else LoopState.done)=stOf j:=by cases j<;>rfl
     rw[this];exact a6.trans e9
   rcases o1 with⟨rfl,b2⟩ | ⟨id,k',b1,b2,L',vs,b3,_⟩ | ⟨k',rfl,b2⟩
   .obtain⟨lp,f0,a9,d0,hp,W⟩:=W8 b2;have a3:=M.sub _ _ _ _ Z;obtain⟨L1,_,b0,_,d1,d2,_,_⟩:=v.loopAt a9 a3;have f1:fF H1 C (.loop { lp with state:= .busy,pending:=lp.pending})=some f0:=hp;obtain⟨l2,x2⟩:=v.loopPut a9 a3 f1 b0;rw[<-d2]at l2 x2;have S:=run_beginRound (P:=P) b0 (by rw[d1];exact d0);have b9:Go.step P (lone { (Frame.round b q ((o.toList.zip n).foldl (fun tmps (x:Nat×Value)=>tmps.setIfInBounds x.1 x.2) m.tmps) f body .normal)with tmps:=t1,todo:=[.beginRound, .code body],defers:=a0} (fr::cs) w1)=
      .next (lone { (Frame.round b q ((o.toList.zip n).foldl (fun tmps (x:Nat×Value)=>tmps.setIfInBounds x.1 x.2) m.tmps) f body .normal)with tmps:=t1,todo:=[.code body],defers:=a0} (fr::cs) (vX w1 b (.loop { L1 with state:= .busy,pending:=L1.pending}))):=by
     refine step_lone_go ?_;simp[stepG,stepG.exec,stepG.apply,Frame.round,Sem.runT_eq,zH,S,Frame.finish,World.putObj,vX]
    have f2:=J4 hX hr body hb _ _ env2 f0 y d5 W;obtain⟨R3,w3,t3,f8,f9,f5,K,s3,e3,l3,x3,n3,m3,o3⟩:=f2 w.heap.size R1 { (Frame.round b q ((o.toList.zip n).foldl (fun tmps (x:Nat×Value)=>tmps.setIfInBounds x.1 x.2) m.tmps) f body .normal)with tmps:=t1,todo:=[.code body],defers:=a0} [] (fr::cs) _ rfl (fun H'=>by simp at H') rfl e1 l2 (m1.ext x2) (by rw[vJ];exact M.size);have T:=s1.trans ((Steps.one b9).trans s3);have U:=M.trans (x2.trans x3);rcases o3 with⟨rfl,c2⟩ | ⟨id,k',rfl,c2,L',vs,c3,c4,c5⟩ | ⟨k',rfl,c2⟩
    .injection c2 with c2;subst c2
     rcases az with⟨vs,_,i⟩ | ⟨id,vs,e,_⟩ | ⟨u,e,_⟩
     .exact G R3 w3 K _ none T rfl rfl rfl rfl l3 U i
     .simp at e
     .simp at e
    .subst c5;rcases az with⟨vs,e,_⟩ | ⟨b4,vs',e,i⟩ | ⟨u,e,_⟩
     .simp at e
     .simp only[Ex.exit.injEq]at e;obtain⟨rfl,rfl⟩:=e;exact G R3 w3 K _ (some (.exit id)) T rfl rfl rfl ⟨k',rfl,by rw[c2];rfl⟩ l3 U i
     .simp at e
    .obtain⟨u,e⟩:=vN c2;subst e;rcases az with⟨vs,e,_⟩ | ⟨b4,vs',e,_⟩ | ⟨u,e,i⟩
     .simp at e
     .simp at e
     .exact G R3 w3 K _ (some .ret) T rfl rfl rfl ⟨k',rfl⟩ l3 U i
   .simp[uE]at b3
   .obtain⟨u,e⟩:=vN b2;subst e;rcases az with⟨vs,e,_⟩ | ⟨b4,vs',e,_⟩ | ⟨u,e,i⟩
    .simp at e
    .simp at e
    .exact G R1 w1 H1 _ (some .ret) s1 rfl rfl rfl ⟨k',rfl⟩ v M i
  .simp at H'
 .simp at H'
end
theorem zC1 {α:Type}(l:List α)(m:Nat)(x:α)(h:((T.ofList 0 l .leaf).getD .leaf).get m=some x):l[m]? =some x:=by
 cases hl:T.ofList 0 l .leaf with
 | none=>rw[hl]at h;simp[T.get_leaf]at h
 | some t=>
  rw[hl]at h;simp only[yB]at h;rw[T.get_ofList l 0 .leaf t hl m]at h;split at h
  .simpa using h
  .simp[T.get_leaf]at h
def named (P:Program):Bool:=P.funcs.toList.all fun g=> !(g.name== "runtime.NumGoroutine")
def zNR (P:Program)(fl:List (TypeId×List Nat)):Bool:=fl.all fun x=>(fZ P P.depth x.1==some x.2)&&xK P x.1&&Nat.ble P.depth 10000
theorem cx_ok {P:Program}{fl:List (TypeId×List Nat)}(h:named P=true)(a:zNR P fl=true):Ok P ⟨(T.ofList 0 P.types.toList .leaf).getD .leaf,fl⟩:=by
 refine⟨fun t i m=> ?_,fun x o=> ?_,fun f g a=> ?_⟩
 .have:=zC1 _ _ _ m;simp only[yX]at this;have j:t<P.types.size:=(Array.getElem?_eq_some_iff.1 this).1;unfold Tables.info?
  first
   | (rw[if_pos j];exact this)
   | (simp only[j,if_true,this];done)
   | (rw[this];done)
   | (rw[this];rfl)
   | simp_all
 .simp only[zNR,yC,zF,beq_iff_eq,qT]at a;obtain⟨⟨p,q⟩,s⟩:=a x o;exact⟨p,q,s⟩
 .simp only[named,yC,j6]at h;exact h g (by
   have:=Array.mem_of_getElem? a;simpa using this)
def WO:Hint->Bool
 | .o=>true
 | .s a b=>WO a&&WO b
 | .c _ a b=>WO a&&WO b
 | .cl a b=>WO a&&WO b
 | .cr a b=>WO a&&WO b
 | .b _ a=>WO a
 | .b0 a=>WO a
 | .l _ a=>WO a
 | .rf _ _=>false
 | .t _ _=>false
def fY:Code->Hint->Nat->Bool
 | .seq _ _, .t _ _,_=>false
 | .seq a b, .s ha hb,k=>fY a ha k&&fY b hb (k+(sites a).length)
 | .cond _ a b, .c _ ha hb,k=>fY a ha k&&fY b hb (k+(sites a).length)
 | .cond _ a b, .cl ha hb,k=>fY a ha k&&fY b hb (k+(sites a).length)
 | .cond _ a b, .cr ha hb,k=>fY a ha k&&fY b hb (k+(sites a).length)
 | .block _ b, .b _ hb,k=>fY b hb k
 | .block _ b, .b0 hb,k=>fY b hb k
 | .loop b, .l _ hb,k=>fY b hb k
 | .rangeFunc _ _ _ _, .rf s _,k=>Nat.beq s k
 | _,_,_=>true
theorem U6 (f0:FuncId)(nt:Nat): ∀(c:Code) (h:Hint),WO h=true->kT g f0 nt c h:=by
 intro c
 induction c with
 | seq a b iha ihb=>intro h i;cases h<;>simp_all [kT,WO]
 | cond c a b iha ihb=>intro h i;cases h<;>simp_all [kT,WO]
 | block id b ih=>intro h i;cases h<;>simp_all [kT,WO]
 | loop b ih=>intro h i;cases h<;>simp_all [kT,WO]
 | rangeFunc f ps a b _ _=>intro h i;cases h<;>simp_all [kT,WO]
 | _=>intro h i;simp[kT]
theorem zIC (f0:FuncId)(nt:Nat)(o:List (Array Tmp×Code×Code))(v: ∀(s:Nat) (x:Array Tmp×Code×Code),o[s]? =some x->VX f0 s=some (nt,x)):
  ∀(c:Code) (h:Hint) (k:Nat),fY c h k=true->(∀(j:Nat) (x:Array Tmp×Code×Code),(sites c)[j]? =some x->o[k+j]? =some x)->kT g f0 nt c h:=by
 have u: ∀(a b:Code) (k:Nat),(∀(j:Nat) (x:Array Tmp×Code×Code),(sites a++sites b)[j]? =some x->o[k+j]? =some x)->
   (∀(j:Nat) (x:Array Tmp×Code×Code),(sites a)[j]? =some x->o[k+j]? =some x)/\(∀(j:Nat) (x:Array Tmp×Code×Code),(sites b)[j]? =some x->o[k+(sites a).length+j]? =some x):=by
  intro a b k m;refine⟨fun j x p=>m j x ?_,fun j x p=> ?_⟩
  .rw[j5 (qP.1 p).1];exact p
  .rw[Nat.add_assoc];refine m _ x ?_;rw[jC (by omega),show(sites a).length+j - (sites a).length=j from by omega];exact p
 intro c
 induction c with
 | seq a b iha ihb=>
  intro h k i m;obtain⟨q,t⟩:=u a b k m
  cases h<;>simp only[kT]<;>first | (simp only[fY,zF]at i;exact⟨iha _ k i.1 q,ihb _ _ i.2 t⟩) | (simp[fY]at i)
 | cond c a b iha ihb=>
  intro h k i m;obtain⟨q,t⟩:=u a b k m
  cases h<;>simp only[kT]<;>(simp only[fY,zF]at i;exact⟨iha _ k i.1 q,ihb _ _ i.2 t⟩)
 | block id b ih=>
  intro h k i m
  cases h<;>simp only[kT]<;>first | exact ih _ k i m | (simp[fY]at i)
 | loop b ih=>
  intro h k i m
  cases h<;>simp only[kT]
  exact ih _ k i m
 | rangeFunc f ps a b _ _=>
  intro h k i m
  cases h<;>simp only[kT]
  simp only[fY,zX]at i;subst i;exact v _ _ (m 0 _ rfl)
 | _=>intro h k i m;simp[kT]
def zA5 (a:Func)(h:Hint):Bool:=WO h||match a.body with
 | some b=>fY b h 0
 | none=>true
noncomputable abbrev PP:Program:=Go.Proofs.Tryz.prog
theorem zFb (p:PP.funcs[q]? =some m)(a:zA5 m N=true): ∀body,m.body=some body->kT PP q m.ntmps body N:=by
 intro body hb;simp only[zA5,j9]at a;rcases a with a | a
 .exact U6 _ _ _ _ a
 .simp only[hb]at a;refine zIC q m.ntmps (sites body) (fun s x f=> ?_) body N 0 a (fun j x f=>by rw[j7];exact f);unfold VX;have o:Go.Proofs.Tryz.prog.funcs[q]? =some m:=p;simp only[o,hb,f]
def FS (g:FuncId)(m:List AV->AH->Option (AV×AH)):Prop:= ∀a H v H',m a H=some (v,H')->zHS PP g a H v H'
def FI (g:FuncId)(m:List AV->AH->Option (AV×AH)):Prop:= ∀a H v H',m a H=some (v,H')->H.next<=H'.next/\zMF PP g a H v H'
theorem FI.fs (h:FI q i):FS q i:=fun a H v H' e=>⟨(h a H v H' e).1, .inl (h a H v H' e).2⟩
structure DG (D:Dyn):Prop where
 fn: ∀g,FS g (D.fn g)
 yld: ∀A args H v H',D.yld A args H=some (v,H')->zBw PP A args H v H'
def SOk:List (Nat×(List AV->AH->Option (AV×AH)))->Prop
 | []=>True
 | (i,m)::S=>FS i m/\SOk S
theorem SOk.nil:SOk []:=trivial
theorem SOk.cons {i:Nat}{m:List AV->AH->Option (AV×AH)}{S:List (Nat×(List AV->AH->Option (AV×AH)))}(h:FS i m)(k:SOk S):SOk ((i,m)::S):=⟨h,k⟩
theorem UW {D:Dyn}(f:DG D): ∀ {S:List (Nat×(List AV->AH->Option (AV×AH)))},SOk S-> ∀g,FS g (zBh S D g)
 | [],_,g=>fun a H v H' h=>f.fn g a H v H' h
 | (i,m)::S,hS,g=>fun a H v H' h=>by
  simp only[zBh,zG]at h;split at h
  .rename_i e;rw[zX]at e;subst e;exact hS.1 a H v H' h
  .exact UW f hS.2 g a H v H' h
theorem UI {X:Cx}(a:DG e)(i:SOk v):Good PP (rOf ⟨X,v⟩ e):=
 ⟨fun f args H S H' h=>UW a i f args H S H' h,fun A args H S H' h=>a.yld A args H S H' h⟩
theorem zNQ {X:Cx}(hX:Ok PP X)(j:DG e)(o:SOk v)(n:PP.funcs[q]? =some m)(p:zA5 m N=true)(f:i=zLS ⟨X,v⟩ e H q m N):FI q i:=by
 subst f;intro s a S H' D;exact zGg hX (UI j o) n (zFb n p) D
theorem zLR {X:Cx}(hX:Ok PP X)(j:DG e)(o:SOk v)(n:PP.funcs[q]? =some m)(p: ∀body,m.body=some body->kT PP q m.ntmps body N)(f:i=zLS ⟨X,v⟩ e H q m N):FI q i:=by
 subst f;intro s a S H' D;exact zGg hX (UI j o) n p D
def RS (f s:Nat)(m:Nat->ALoop->List AV->AH->Option (AV×AH)):Prop:=
 ∀A l a H v H',H.h.get A=some (.loop l)->l.fn=f->l.site=s->m A l a H=some (v,H')->zBw PP A a H v H'
theorem U1 {X:Cx}(hX:Ok PP X)(o:DG e)(s:SOk v){i:List Nat}{hb:Hint}(a:(WO N&&WO hb)=true)(q:u=zMK ⟨X,v⟩ e C H p l i N hb):RS H p u:=by
 subst q;intro A n y f S H' t L j D;rw[zF]at a;exact zLh hX (UI o s) (fun nt z x body _=>⟨U6 _ _ _ _ a.1,U6 _ _ _ _ a.2⟩) t L j D
def ROk:List ((Nat×Nat)×(Nat->ALoop->List AV->AH->Option (AV×AH)))->Prop
 | []=>True
 | ((f,s),m)::t=>RS f s m/\ROk t
theorem ROk.nil:ROk []:=trivial
theorem ROk.cons {f s:Nat}{m:Nat->ALoop->List AV->AH->Option (AV×AH)}{t:List ((Nat×Nat)×(Nat->ALoop->List AV->AH->Option (AV×AH)))}(h:RS f s m)(k:ROk t):ROk (((f,s),m)::t):=⟨h,k⟩
theorem zIp (i:ROk V)(t:U2 V H h A=some (s,J)):zBw PP H h A s J:=by
 unfold U2 at t;split at t
 .rename_i l j
  induction V with
  | nil=>simp[U2.go]at t
  | cons x V ih=>
   obtain⟨⟨f,a⟩,m⟩:=x;simp only[U2.go,zG]at t;split at t
   .rename_i e;simp only[zF,zX]at e;exact i.1 H l h A s J j e.1.symm e.2.symm t
   .exact ih i.2 t
 .simp at t
def WQ:Dyn:=⟨fun _ _ _=>none,fun _ _ _=>none⟩
theorem UR:DG WQ:=⟨fun _ _ _ _ _ h=>by simp[WQ]at h,fun _ _ _ _ _ h=>by simp[WQ]at h⟩
noncomputable def dyOf (tab:Dyn->Nat->List (Nat×(List AV->AH->Option (AV×AH))))(tabR:Dyn->Nat->List ((Nat×Nat)×(Nat->ALoop->List AV->AH->Option (AV×AH))))(n:Nat):Dyn:=
 Nat.rec WQ (fun m D=>⟨fun g vs H=>zBh (tab D m) WQ g vs H,U2 (tabR D m)⟩) n
theorem zGU {tab:Dyn->Nat->List (Nat×(List AV->AH->Option (AV×AH)))}{tabR:Dyn->Nat->List ((Nat×Nat)×(Nat->ALoop->List AV->AH->Option (AV×AH)))}(a: ∀D n,DG D->SOk (tab D n))(f: ∀D n,DG D->ROk (tabR D n)): ∀n,DG (dyOf tab tabR n)
 | 0=>UR
 | n+1=>by
  have h:=zGU a f n;exact⟨fun g i H v H' e=>UW UR (a _ n h) g i H v H' e,fun A args H v H' e=>zIp (f _ n h) e⟩
def zLd (x:Option (AV×AH)):Bool:=match x with
 | some (.bool true,_)=>true
 | _=>false
theorem zJj (hm:FI q i)(h:zLd (i [] ⟨.leaf,0⟩)=true)(w:World):Calls PP q #[] w fun e m=>e= .returned (.bool true)/\RowKit.Below w.heap.size w m:=by
 unfold zLd at h;split at h
 .rename_i H' j;intro cs;obtain⟨_,_,j⟩:=hm _ _ _ _ j;obtain⟨v,m,z,p,f,s,t,o,h5,a⟩:=j (fun _ _ _ _=>False) [] cs w rfl (Rel.empty w);simp only[VR]at o;subst o;refine⟨.returned (.bool true),m,p,⟨rfl, ?_⟩,f,s,t⟩;exact⟨a.os,a.tape,a.output,a.size,fun k u=>a.keep k u (fun _ _ _ h=>h)⟩
 .simp at h
theorem run_range_map {kt vt:TypeId}(f:(underlying a).run g t= .ok (.map kt vt) t)(hm:t.heap[H]? =some (.map Q p)):
  (Instr.range a (.map (some H))).run g t= .ok (.pointer (some ⟨t.heap.size,0,none⟩)) (t.alloc (.mapIter (some H) p #[] p)):=by
 simp[Instr.range,zH,f,getObj,Sem.run,hm,newObj,Result.andThen]
structure ML where
 rA:Nat
 rB:Nat
 rC:Nat
 pre:List Oper
 oR:Oper
 oN:Oper
 oX:Oper
 oE:Oper
 rest:List Oper
 id:Nat
 id2:Nat
 body:Code
 t:TypeId
 x:Operand
 it:Nat
 nx:Nat
 ok:Nat
 en:Nat
def ML.opsA (q:ML):Array Oper:=⟨q.pre++[q.oR]⟩
def ML.opsB (q:ML):Array Oper:=⟨[q.oN,q.oX]⟩
def ML.opsC (q:ML):Array Oper:=⟨q.oE::q.rest⟩
def ML.round (q:ML):Code:= .seq (.region q.rB q.opsB false) (.seq (.cond (.tmp q.ok) .skip (.exit q.id)) (.block q.id2 (.seq (.region q.rC q.opsC false) q.body)))
def ML.code (q:ML):Code:= .seq (.region q.rA q.opsA false) (.block q.id (.loop q.round))
structure ML.Fits (q:ML)(nt:Nat):Prop where
 gR:q.oR.guard=none
 pR:q.oR.op= .range q.t q.x
 dR:q.oR.dst=some q.it
 gN:q.oN.guard=none
 pN:q.oN.op= .next (.tmp q.it) false
 dN:q.oN.dst=some q.nx
 gX:q.oX.guard=none
 pX:q.oX.op= .extract (.tmp q.nx) 0
 dX:q.oX.dst=some q.ok
 gE:q.oE.guard=none
 pE:q.oE.op= .entry (.tmp q.it)
 dE:q.oE.dst=some q.en
 it:q.it<nt
 nx:q.nx<nt
 ok:q.ok<nt
 en:q.en<nt
 itnx:q.it≠q.nx
 itok:q.it≠q.ok
 iten:q.it≠q.en
 nxok:q.nx≠q.ok
noncomputable def ML.roundK (q:ML)(B:Tb)(D:Dyn)(n nt:Nat)(hb:Hint)(L:List Nat)(I:Nat)(vs:List AV)(k v:AV)(H:AH):Rs:=
 unp (q.it::L) (.ptr I 0::vs) uN fun e=>
  zCK B D nt q.opsC none (Nat.succ q.rest.length) (fun env H=>kK B D n nt [] 0 true q.body hb [] (fun env H=>pck (q.it::L) env fun vs=>some (.norm vs,H)) env H) (idx q.rest 1) [] (upd e q.en (.tuple [k,v])) H
theorem Rel.told (h:Rel E A t){o o':AObj}{b:T AObj}(hR:E H p C f)(u:A.h.get H=some o)(hl:YL A H)(q:T.set 40 A.h H o'=some b)(s:zHY E o' C f t.heap[p]?):Rel E ⟨b,A.next⟩ t:=by
 have j:=T.get_set _ _ _ _ _ q;have i: ∀a,YL ⟨b,A.next⟩ a->YL A a:=fun a ⟨w,hp,hd⟩=>by
  simp only[j]at hp;by_cases e:a=H
  .subst e;exact hl
  .rw[if_neg e]at hp;exact⟨w,hp,hd⟩
 refine⟨h.fn,fun m v p C f d' c' r R l l'=>h.inj _ _ _ _ _ _ _ r R (i _ l) (i _ l'),fun m b1 x c1 w r hp=> ?_,h.lt⟩;simp only[j]at hp;by_cases e:m=H
 .subst e;rw[if_pos rfl]at hp;injection hp with hp;subst hp
  obtain⟨rfl,rfl,rfl⟩:=h.fn _ _ _ _ _ _ _ r hR;exact s
 .rw[if_neg e]at hp;exact h.obj _ _ _ _ _ r hp
section
variable {P:Program}{fr:Frame}{k:List Item}{cs:List Frame}{w:World}
theorem JO {o:Oper}(hm:fr.mode= .run)(j:fr.todo= .inRegion U (H::l)::k)(m:U[H]? =some o)
  (ops:o.guard=none) (h:o.op= .next (.tmp p) false) (hd:o.dst=some C) (hr:(Instr.next (fr.tmps.getD p undef) false o.type).run P w= .ok c t):
  step P (lone fr cs w)= .next (lone { fr with tmps:=fr.tmps.setIfInBounds C c,todo:= .inRegion U l::k} cs t):=by
 have q:(execOp fr.eval o).run P w= .ok (.value c) t:=by
  have s:fr.eval (.tmp p)=fr.tmps.getD p undef:=rfl;simp only[execOp,h,s,zH,hr,Result.andThen_ok];rfl
 have rest:=uR (cs:=cs) hm j m (by simp[Region.wanted,ops]) (by intro i;rw[h];simp) q;rw[rest,kJ j m,hd];rfl
theorem zA0 {o:Oper}(hm:fr.mode= .run)(j:fr.todo= .inRegion U (H::l)::k)(m:U[H]? =some o)
  (ops:o.guard=none) (h:o.op= .entry (.tmp p)) (hd:o.dst=some C) (hr:(Instr.entry (fr.tmps.getD p undef)).run P w= .ok c t):
  step P (lone fr cs w)= .next (lone { fr with tmps:=fr.tmps.setIfInBounds C c,todo:= .inRegion U l::k} cs t):=by
 have q:(execOp fr.eval o).run P w= .ok (.value c) t:=by
  have s:fr.eval (.tmp p)=fr.tmps.getD p undef:=rfl;simp only[execOp,h,s,zH,hr,Result.andThen_ok];rfl
 have rest:=uR (cs:=cs) hm j m (by simp[Region.wanted,ops]) (by intro i;rw[h];simp) q;rw[rest,kJ j m,hd];rfl
theorem BY {o:Oper}{x:Operand}(hm:fr.mode= .run)(h:fr.todo= .inRegion U (H::l)::k)(j:U[H]? =some o)
  (m:o.guard=none) (f:o.op= .range a x) (hd:o.dst=some p) (hr:(Instr.range a (fr.eval x)).run P w= .ok c t):
  step P (lone fr cs w)= .next (lone { fr with tmps:=fr.tmps.setIfInBounds p c,todo:= .inRegion U l::k} cs t):=by
 have ops:(execOp fr.eval o).run P w= .ok (.value c) t:=by
  simp[execOp,f,zH,hr,Result.andThen]
 have q:=uR (cs:=cs) hm h j (by simp[Region.wanted,m]) (by intro i;rw[f];simp) ops;rw[q,kJ h j,hd];rfl
theorem X1 {o:Oper}{v:Value}(hm:fr.mode= .run)(m:fr.todo= .inRegion U (H::l)::k)(ops:U[H]? =some o)
  (q:o.guard=none) (h:o.op= .extract (.tmp p) f) (hd:o.dst=some C) (hr:fr.tmps.getD p undef= .tuple G) (s:G[f]? =some v):
  step P (lone fr cs w)= .next (lone { fr with tmps:=fr.tmps.setIfInBounds C v,todo:= .inRegion U l::k} cs w):=by
 have t:(execOp fr.eval o).run P w= .ok (.value v) w:=by
  have u:fr.eval (.tmp p)= .tuple G:=hr;simp[execOp,h,u,s,Instr.extract,zH,Result.andThen]
 have x:=uR (cs:=cs) hm m ops (by simp[Region.wanted,q]) (by intro c;rw[h];simp) t;rw[x,kJ m ops,hd];rfl
end
theorem EnvR.slot (h:EnvR E r H G)(hd:p<H)(z:Value):EnvR E (fun t=>bif Nat.beq t p then none else r t) H (G.setIfInBounds p z):=by
 refine⟨by rw[Array.size_setIfInBounds];exact h.size,fun t x a=> ?_,fun t j=> ?_⟩
 .simp only[look,zG,zX]at a;split at a
  .simp at a
  .rename_i i;have:=h.get t x a;rw[qZ,Array.getElem?_setIfInBounds_ne (fun e=>i e.symm),<-qZ];exact this
 .simp only[look,zG];split
  .rfl
  .exact h.out t j
structure AtHead (q:ML)(nt:Nat)(L:List Nat)(I M r m:Nat)(vs:List AV)(arr:Array MapEntry)(clock:Nat)(seen:Array Nat)(R:Ren)(H:AH)(tmps:Array Value)(w:World):Prop where
 rel:Rel R H w
 env: ∃e,PK e (q.it::L) (.ptr I 0::vs)/\EnvR R e nt tmps
 ri:R I r 0 0
 rm: ∃d c,R M m d c
 gi:H.h.get I=some (.raw (.mapIter (some m) clock seen clock))
 gm:H.h.get M=some (.raw (.map arr clock))
 bo:zCm arr.toList clock
theorem Y6 {e:Env}{d:Nat} : ∀ {L:List Nat} {vs:List AV},PK e L vs->(∀l∈L,l≠d)->PK (fun t=>bif Nat.beq t d then none else e t) L vs
 | [],vs,h,_=>h
 | l::L,vs,⟨v,vs',h1,h2,h3⟩,hd=>by
  refine⟨v,vs',h1, ?_,Y6 h3 (fun x a=>hd x (zE _ a))⟩;have:=hd l (zJ ..);simp only[look,zG,zX,if_neg this];exact h2
theorem vQ (t:Array Value)(d:Nat)(z:Value)(h:d<t.size):(t.setIfInBounds d z).getD d undef=z:=by
 rw[qZ,Array.getElem?_setIfInBounds_self_of_lt h];rfl
theorem getD_set_ne (t:Array Value)(d j:Nat)(z:Value)(h:d≠j):(t.setIfInBounds d z).getD j undef=t.getD j undef:=by
 rw[qZ,Array.getElem?_setIfInBounds_ne h,<-qZ]
theorem zAD {P:Program}{q:ML}(M:q.Fits H)(s: ∀nt∈q.it::l,nt≠q.nx/\nt≠q.ok/\nt≠q.en){m:Nat}{i:Nat}{j:Array Nat}{fr:Frame}{k:List Item}{cs:List Frame}
  (r:AtHead q H l p C f m h Q i j E A fr.tmps t) (hm:fr.mode= .run) (ht:fr.todo= .code q.round:: .inLoop q.round:: .inBlock q.id::k):
  ((∀e∈Q.toList,e.born∈j.toList)/\ ∃L,Steps P (lone fr cs t) (lone { fr with tmps:=L,todo:=k} cs t)/\ ∃e,PK e (q.it::l) (.ptr p 0::h)/\EnvR E e H L)\/
  (∃e∈Q.toList,e.born∉j.toList/\ ∃L d',Steps P (lone fr cs t) (lone { fr with tmps:=L,todo:= .inRegion q.opsC ((List.range q.rest.length).map Nat.succ):: .code q.body:: .inBlock q.id2:: .inLoop q.round:: .inBlock q.id::k} cs (vX { t with drawn:=d'} f (.mapIter (some m) i (j.push e.born) i)))/\
   (∃Y,PK Y (q.it::l) (.ptr p 0::h)/\EnvR E Y H L)/\L.getD q.en undef= .tuple #[e.key,e.val]):=by
 obtain⟨e0,hp,z⟩:=r.env;obtain⟨v0,a3,a4,a5,b4⟩:=id hp;obtain⟨rfl,rfl⟩:v0= .ptr p 0/\a3=h:=by injection a4 with a b;exact⟨a.symm,b.symm⟩
 obtain⟨b,d,c,hR,hz⟩:=z.get _ _ a5;obtain⟨rfl,rfl,rfl⟩:=r.rel.fn _ _ _ _ _ _ _ hR r.ri;have G:fr.tmps.getD q.it undef= .pointer (some ⟨b,0,none⟩):=by rw[hz]
 have V:t.heap[b]? =some (.mapIter (some m) i j i):=r.rel.obj _ _ _ _ _ r.ri r.gi;obtain⟨dm,cm,a6⟩:=r.rm;have u:t.heap[m]? =some (.map Q i):=r.rel.obj _ _ _ _ _ a6 r.gm;have a0:b<t.heap.size:=(r.rel.lt _ _ _ _ r.ri).1;have a7:m≠b:=fun e=>by rw[e]at u;rw[V]at u;simp at u
 have b5:=z.size;have Z:Steps P (lone fr cs t) (lone { fr with todo:= .inRegion q.opsB [0,1]:: .code (.seq (.cond (.tmp q.ok) .skip (.exit q.id)) (.block q.id2 (.seq (.region q.rC q.opsC false) q.body))):: .inLoop q.round:: .inBlock q.id::k} cs t):=
  (Steps.one (WZ hm ht)).trans (.one (ZC (fr:= { fr with todo:= .code (.region q.rB q.opsB false):: .code (.seq (.cond (.tmp q.ok) .skip (.exit q.id)) (.block q.id2 (.seq (.region q.rC q.opsC false) q.body))):: .inLoop q.round:: .inBlock q.id::k}) hm rfl))
 rcases run_next_at (P:=P) t q.oN.type b m i i j Q i V u r.bo.2 (zP _)with⟨b6,F⟩ | ⟨e,y,w1,a8,F⟩
 .left;refine⟨fun e y=> ?_, ?_⟩
  .apply Classical.byContradiction;intro a9;have:e∈(leftOf Q j).toList:=by
    simp only[leftOf,Array.toList_filter,List.mem_filter];refine⟨y, ?_⟩;simpa using a9
   have h2:0< (leftOf Q j).size:=by
    have:=List.length_pos_of_mem this;simpa using this
   omega
  .have O:=JO (P:=P) (cs:=cs) (fr:= { fr with todo:= .inRegion q.opsB [0,1]:: .code (.seq (.cond (.tmp q.ok) .skip (.exit q.id)) (.block q.id2 (.seq (.region q.rC q.opsC false) q.body))):: .inLoop q.round:: .inBlock q.id::k}) (w:=t) hm rfl (o:=q.oN) rfl M.gN M.pN M.dN (by rw[G];exact F);have I:=X1 (P:=P) (cs:=cs) (w:=t) (fr:= { fr with tmps:=fr.tmps.setIfInBounds q.nx (.tuple #[.bool false]),todo:= .inRegion q.opsB [1]:: .code (.seq (.cond (.tmp q.ok) .skip (.exit q.id)) (.block q.id2 (.seq (.region q.rC q.opsC false) q.body))):: .inLoop q.round:: .inBlock q.id::k}) hm rfl (o:=q.oX) rfl M.gX M.pX M.dX (vQ _ _ _ (by have:=M.nx;omega)) (v:= .bool false) rfl;have vs:=xV (P:=P) (cs:=cs) (w:=t) (fr:= { fr with tmps:=(fr.tmps.setIfInBounds q.nx (.tuple #[.bool false])).setIfInBounds q.ok (.bool false),todo:= .inRegion q.opsB []:: .code (.seq (.cond (.tmp q.ok) .skip (.exit q.id)) (.block q.id2 (.seq (.region q.rC q.opsC false) q.body))):: .inLoop q.round:: .inBlock q.id::k}) hm rfl;have S:=WZ (P:=P) (cs:=cs) (w:=t) (fr:= { fr with tmps:=(fr.tmps.setIfInBounds q.nx (.tuple #[.bool false])).setIfInBounds q.ok (.bool false),todo:= .code (.seq (.cond (.tmp q.ok) .skip (.exit q.id)) (.block q.id2 (.seq (.region q.rC q.opsC false) q.body))):: .inLoop q.round:: .inBlock q.id::k}) hm rfl;have s5:=aI (P:=P) (cs:=cs) (w:=t) (fr:= { fr with tmps:=(fr.tmps.setIfInBounds q.nx (.tuple #[.bool false])).setIfInBounds q.ok (.bool false),todo:= .code (.cond (.tmp q.ok) .skip (.exit q.id)):: .code (.block q.id2 (.seq (.region q.rC q.opsC false) q.body)):: .inLoop q.round:: .inBlock q.id::k}) (t:=false) hm rfl (vQ _ _ _ (by have:=M.ok;rw[Array.size_setIfInBounds];omega));have T:=zF4 (P:=P) (cs:=cs) (w:=t) (fr:= { fr with tmps:=(fr.tmps.setIfInBounds q.nx (.tuple #[.bool false])).setIfInBounds q.ok (.bool false),todo:= .code (.exit q.id):: .code (.block q.id2 (.seq (.region q.rC q.opsC false) q.body)):: .inLoop q.round:: .inBlock q.id::k}) (k':=k) hm rfl (by simp[exitTo]);refine⟨_,Z.trans ((Steps.one O).trans ((Steps.one I).trans ((Steps.one vs).trans ((Steps.one S).trans ((Steps.one s5).trans (.one T)))))),_,Y6 (Y6 hp (fun nt hl=>(s nt hl).1)) (fun nt hl=>(s nt hl).2.1),(z.slot M.nx _).slot M.ok _⟩
 .right;obtain⟨d',rfl⟩: ∃d',w1= { t with drawn:=d'} :=by
   rcases a8 with rfl | rfl
   .exact⟨w1.drawn,rfl⟩
   .exact⟨t.drawn+1,rfl⟩
  have J:e∈Q.toList/\e.born∉j.toList:=by
   simp only[leftOf,Array.toList_filter,List.mem_filter]at y;exact⟨y.1,by simpa using y.2⟩
  refine⟨e,J.1,J.2, ?_⟩;have U:(Instr.next (.pointer (some ⟨b,0,none⟩)) false q.oN.type).run P t= .ok (.tuple #[.bool true,e.key,e.val]) (vX { t with drawn:=d'} b (.mapIter (some m) i (j.push e.born) i)):=F
  generalize K:vX { t with drawn:=d'} b (.mapIter (some m) i (j.push e.born) i)=w2 at U;have b0:w2.heap[b]? =some (.mapIter (some m) i (j.push e.born) i):=by rw[<-K];exact bC _ _ _ a0
  have b1:w2.heap[m]? =some (.map Q i):=by rw[<-K,vH _ _ _ _ a7];exact u
  have O:=JO (P:=P) (cs:=cs) (fr:= { fr with todo:= .inRegion q.opsB [0,1]:: .code (.seq (.cond (.tmp q.ok) .skip (.exit q.id)) (.block q.id2 (.seq (.region q.rC q.opsC false) q.body))):: .inLoop q.round:: .inBlock q.id::k}) (w:=t) hm rfl (o:=q.oN) rfl M.gN M.pN M.dN (by rw[G];exact U);have I:=X1 (P:=P) (cs:=cs) (w:=w2) (fr:= { fr with tmps:=fr.tmps.setIfInBounds q.nx (.tuple #[.bool true,e.key,e.val]),todo:= .inRegion q.opsB [1]:: .code (.seq (.cond (.tmp q.ok) .skip (.exit q.id)) (.block q.id2 (.seq (.region q.rC q.opsC false) q.body))):: .inLoop q.round:: .inBlock q.id::k}) hm rfl (o:=q.oX) rfl M.gX M.pX M.dX (vQ _ _ _ (by have:=M.nx;omega)) (v:= .bool true) rfl;generalize N:(fr.tmps.setIfInBounds q.nx (.tuple #[.bool true,e.key,e.val])).setIfInBounds q.ok (.bool true)=t2 at I;have W:EnvR E (fun arr=>bif Nat.beq arr q.ok then none else(fun arr=>bif Nat.beq arr q.nx then none else e0 arr) arr) H t2:=by rw[<-N];exact(z.slot M.nx _).slot M.ok _
  have a1:t2.getD q.ok undef= .bool true:=by rw[<-N];exact vQ _ _ _ (by have:=M.ok;rw[Array.size_setIfInBounds];omega)
  have a2:t2.getD q.it undef= .pointer (some ⟨b,0,none⟩):=by rw[<-N,getD_set_ne _ _ _ _ (fun x=>M.itok x.symm),getD_set_ne _ _ _ _ (fun x=>M.itnx x.symm)];exact G
  have vs:=xV (P:=P) (cs:=cs) (w:=w2) (fr:= { fr with tmps:=t2,todo:= .inRegion q.opsB []:: .code (.seq (.cond (.tmp q.ok) .skip (.exit q.id)) (.block q.id2 (.seq (.region q.rC q.opsC false) q.body))):: .inLoop q.round:: .inBlock q.id::k}) hm rfl;have S:=WZ (P:=P) (cs:=cs) (w:=w2) (fr:= { fr with tmps:=t2,todo:= .code (.seq (.cond (.tmp q.ok) .skip (.exit q.id)) (.block q.id2 (.seq (.region q.rC q.opsC false) q.body))):: .inLoop q.round:: .inBlock q.id::k}) hm rfl;have s5:=aI (P:=P) (cs:=cs) (w:=w2) (fr:= { fr with tmps:=t2,todo:= .code (.cond (.tmp q.ok) .skip (.exit q.id)):: .code (.block q.id2 (.seq (.region q.rC q.opsC false) q.body)):: .inLoop q.round:: .inBlock q.id::k}) (t:=true) hm rfl a1;have T:=zF2 (P:=P) (cs:=cs) (w:=w2) (fr:= { fr with tmps:=t2,todo:= .code .skip:: .code (.block q.id2 (.seq (.region q.rC q.opsC false) q.body)):: .inLoop q.round:: .inBlock q.id::k}) hm rfl;have s7:=YS (P:=P) (cs:=cs) (w:=w2) (fr:= { fr with tmps:=t2,todo:= .code (.block q.id2 (.seq (.region q.rC q.opsC false) q.body)):: .inLoop q.round:: .inBlock q.id::k}) hm rfl;have s8:=WZ (P:=P) (cs:=cs) (w:=w2) (fr:= { fr with tmps:=t2,todo:= .code (.seq (.region q.rC q.opsC false) q.body):: .inBlock q.id2:: .inLoop q.round:: .inBlock q.id::k}) hm rfl;have s9:=ZC (P:=P) (cs:=cs) (w:=w2) (fr:= { fr with tmps:=t2,todo:= .code (.region q.rC q.opsC false):: .code q.body:: .inBlock q.id2:: .inLoop q.round:: .inBlock q.id::k}) hm rfl;have b2:List.range q.opsC.size=0::(List.range q.rest.length).map Nat.succ:=by
   rw[<-List.range_succ_eq_map];rfl
  rw[b2]at s9;have b3:=zA0 (P:=P) (cs:=cs) (w:=w2) (fr:= { fr with tmps:=t2,todo:= .inRegion q.opsC (0::(List.range q.rest.length).map Nat.succ):: .code q.body:: .inBlock q.id2:: .inLoop q.round:: .inBlock q.id::k}) hm rfl (o:=q.oE) rfl M.gE M.pE M.dE (by
   rw[a2];exact run_entry_at w2 b m i j Q i e b0 b1 J.1 r.bo.1)
  refine⟨_,d', ?_,⟨_,Y6 (Y6 (Y6 hp (fun nt hl=>(s nt hl).1)) (fun nt hl=>(s nt hl).2.1)) (fun nt hl=>(s nt hl).2.2),W.slot M.en _⟩,vQ _ _ _ (by have:=M.en;rw[W.size];exact this)⟩;rw[K];exact Z.trans ((Steps.one O).trans ((Steps.one I).trans ((Steps.one vs).trans ((Steps.one S).trans ((Steps.one s5).trans ((Steps.one T).trans ((Steps.one s7).trans ((Steps.one s8).trans ((Steps.one s9).trans (.one b3))))))))))
theorem EnvR.know (h:EnvR E r H G)(hd:p<H)(i:VR E s (G.getD p undef)):EnvR E (upd r p s) H G:=by
 refine⟨h.size,fun t y a=> ?_,fun t j=> ?_⟩
 .simp only[look,bD]at a;split at a
  .rename_i e;subst e;injection a with a;subst a;exact i
  .exact h.get t y a
 .simp only[look,bD];rw[if_neg (by omega)];exact h.out t j
section
variable {P:Program}{B:Tb}{D:Dyn}(hX:Ok P B.X)(hr:Good P (rOf B D))
include hX hr in
theorem zDZ {q:ML}{nt:Nat}(hq:q.Fits nt){L:List Nat}{hb:Hint}(a1:kT P 0 nt q.body hb){n:Nat}{I M r m:Nat}{vs:List AV}{arr:Array MapEntry}{a:Nat}{f:Array Nat}{R:Ren}{H j:AH}{tmps:Array Value}{w:World}{t v:AV}{e:MapEntry}{d':Nat}{p:T AObj}
  (h:AtHead q nt L I M r m vs arr a f R H tmps w) (s:T.set 40 H.h I (.raw (.mapIter (some m) a (f.push e.born) a))=some p)
  (hk:VR R t e.key) (hv:VR R v e.val) (O:q.roundK B D n nt hb L I vs t v ⟨p,H.next⟩=some (.norm (.ptr I 0::vs),j)) (a2:j.h.get I=p.get I) (a3:j.h.get M=p.get M) (a4:M≠I)
  {fr:Frame} {k:List Item} {cs:List Frame} {lo:Nat} (hm:fr.mode= .run) (ht:fr.todo= .inRegion q.opsC ((List.range q.rest.length).map Nat.succ):: .code q.body:: .inBlock q.id2:: .inLoop q.round:: .inBlock q.id::k)
  (hE: ∃F,PK F (q.it::L) (.ptr I 0::vs)/\EnvR R F nt fr.tmps) (a5:fr.tmps.getD q.en undef= .tuple #[e.key,e.val]) (hM:Marks lo R w fr.defers) (a6:lo<=w.heap.size):
  ∃G y N Q,Steps P (lone fr cs (vX { w with drawn:=d'} r (.mapIter (some m) a (f.push e.born) a))) (lone { fr with tmps:=N,todo:= .code q.round:: .inLoop q.round:: .inBlock q.id::k,defers:=Q} cs y)/\
   AtHead q nt L I M r m vs arr a (f.push e.born) G j N y/\Ext R H w G j y/\Marks lo G y Q/\H.next<=j.next:=by
 have a7:YL H I:=⟨_,h.gi,trivial⟩;have W:Rel R ⟨p,H.next⟩ (vX { w with drawn:=d'} r (.mapIter (some m) a (f.push e.born) a)):=(h.rel.drew d').put h.ri a7 s rfl
 have z:Ext R H w R ⟨p,H.next⟩ (vX { w with drawn:=d'} r (.mapIter (some m) a (f.push e.born) a)):=(Ext.drew R H w d').trans (Ext.put h.ri s)
 obtain⟨F,hp,a8⟩:=hE;unfold ML.roundK at O;obtain⟨e',Y,a9⟩:=JJ O hp;have Z:VR R (.tuple [t,v]) (fr.tmps.getD q.en undef):=by
  rw[a5];exact⟨[e.key,e.val],rfl,_,_,rfl,hk,_,_,rfl,hv,rfl⟩
 have b0:EnvR R (upd e' q.en (.tuple [t,v])) nt fr.tmps:=(a8.know hq.en Z).le (a9.upd _ _);obtain⟨es,envF,HF,env',c1,c2,c3,c4,_⟩:=u5 _ _ [] _ _ _ [] Y (Le.refl _) (fun ms b1=>by simp at b1);obtain⟨i1,i2⟩:=UG q.rest 1;have hi:es.map (·.i)=(List.range q.rest.length).map Nat.succ:=by
  have:es.map (·.i)=(idx q.rest 1).map (·.1):=by rw[<-c2];simp
  rw[this,i1];apply List.map_congr_left;intro x _;omega
 have a0: ∀e∈es,q.opsC[e.i]? =some e.o:=by
  intro e he;have h1:(e.i,e.o)∈idx q.rest 1:=by rw[<-c2];exact qM.2 ⟨e,he,rfl⟩
  obtain⟨h2,h3⟩:=i2 _ h1;show(q.oE::q.rest).toArray[e.i]? =some e.o;have b7:1<=e.i:=h2;rw[show e.i=(e.i - 1)+1 from by omega,List.getElem?_toArray,yW];exact h3
 obtain⟨S,U,t1,s1,e1,l1,J⟩:=W4 hX hr c1 a0 R fr (.code q.body:: .inBlock q.id2:: .inLoop q.round:: .inBlock q.id::k) cs _ hm (by rw[hi];exact ht) b0 W;have b4:=J4 hX hr (ro:=true) (f0:=0) (rs:=[]) (nt:=nt) (n:=n) q.body hb [] _ env' HF _ a1 c4;have b5:Marks lo S U fr.defers:=(hM.ext z).ext J;obtain⟨R2,w2,t2,b8,C,env2,H2,s2,e2,l2,x2,n2,m2,o2⟩:=b4 lo S { fr with tmps:=t1,todo:= .code q.body:: .inBlock q.id2:: .inLoop q.round:: .inBlock q.id::k} (.inBlock q.id2:: .inLoop q.round:: .inBlock q.id::k) cs U hm (fun h=>by simp at h) rfl (e1.le c3) l1 b5 (qR a6 (z.trans J).size);have b6:=(wS hr.mono c1).1;rcases o2 with⟨rfl,b2⟩ | ⟨id,k',rfl,b2,L',vs',b3,_⟩ | ⟨k',rfl,b2⟩
 .obtain⟨b9,p1,V⟩:=wI b2;simp only[zC,zT,Ex.norm.injEq]at V;obtain⟨rfl,rfl⟩:=V;have K:=z.trans (J.trans x2);refine⟨R2,w2,t2,C, ?_,⟨l2,⟨env2,p1,e2⟩,K.sub _ _ _ _ h.ri, ?_, ?_, ?_,h.bo⟩,K,m2,qR (show H.next<=HF.next from b6) n2⟩
  .refine s1.trans ((Steps.one (xV (fr:= { fr with tmps:=t1,todo:= .inRegion q.opsC []:: .code q.body:: .inBlock q.id2:: .inLoop q.round:: .inBlock q.id::k}) hm rfl)).trans (s2.trans ?_));refine(Steps.one (X0 (fr:= { fr with tmps:=t2,todo:= .inBlock q.id2:: .inLoop q.round:: .inBlock q.id::k,defers:=C}) hm rfl)).trans ?_;exact .one (BZ (fr:= { fr with tmps:=t2,todo:= .inLoop q.round:: .inBlock q.id::k,defers:=C}) hm rfl)
  .obtain⟨d,c,hr⟩:=h.rm;exact⟨d,c,K.sub _ _ _ _ hr⟩
  .rw[a2,T.get_set _ _ _ _ _ s,if_pos rfl]
  .rw[a3,T.get_set _ _ _ _ _ s,if_neg a4];exact h.gm
 .simp[uE]at b3
 .obtain⟨u,e⟩:=vN b2;simp at e
end
section
variable {P:Program}{B:Tb}{D:Dyn}(hX:Ok P B.X)(hr:Good P (rOf B D))
include hX hr in
theorem zIE {q:ML}(hq:q.Fits H)(b0: ∀L∈q.it::l,L≠q.nx/\L≠q.ok/\L≠q.en)(b7:kT P 0 H q.body N){r m:Nat}(b8:f≠C)(hI:True){O:Nat}
  {I:List (AV×AV)->AH->Prop}
  (b2: ∀F k v rest o,I F o->(F++(k,v)::rest).Perm R-> ∃J,q.roundK B D p H N l C h k v o=some (.norm (.ptr C 0::h),J)/\J.h.get C=o.h.get C/\J.h.get f=o.h.get f/\I (F++[(k,v)]) J)
  (b4: ∀F o y U,I F o->T.set 40 o.h C (.raw y)=some U->I F ⟨U,o.next⟩)
  {s:List ((AV×AV)×MapEntry)} (b5:s.map (·.1)=R) (a1:(s.map (·.2)).Perm Q.toList):
  ∀(hb:Nat) (rp M:List ((AV×AV)×MapEntry)) (u:Array Nat) (arr:Ren) (nt:AH) (fr:Frame) (k:List Item) (cs:List Frame) (w:World) (lo:Nat),rp.length=hb->(M++rp).Perm s->u.toList=M.map (·.2.born)->I (M.map (·.1)) nt->
   (∀n∈s,VR arr n.1.1 n.2.key/\VR arr n.1.2 n.2.val)->AtHead q H l C f r m h Q O u arr nt fr.tmps w->fr.mode= .run->fr.todo= .code q.round:: .inLoop q.round:: .inBlock q.id::k->Marks lo arr w fr.defers->lo<=w.heap.size->
   ∃(R':Ren) (V:World) (z:Array Value) (ds:List Deferred) (H':AH) (vs:List ((AV×AV)×MapEntry)) (a0:Array Nat),Steps P (lone fr cs w) (lone { fr with tmps:=z,todo:=k,defers:=ds} cs V)/\vs.Perm s/\I (vs.map (·.1)) H'/\AtHead q H l C f r m h Q O a0 R' H' z V/\Ext arr nt w R' H' V/\Marks lo R' V ds/\nt.next<=H'.next:=by
 have find: ∀e∈Q.toList,∃n∈s,n.2=e:=fun e x=>by
  have:=a1.symm.subset x;obtain⟨n,t,h2⟩:=qM.1 this;exact⟨n,t,h2⟩
 intro hb
 induction hb with
 | zero=>
  intro rp M u arr nt fr k cs w lo W j K a4 S i hm ht hM a5;have:rp=[]:=zR W;subst this;rw[qW]at j;rcases zAD (P:=P) (cs:=cs) hq b0 i hm ht with⟨_,z,s1,x⟩ | ⟨e,x,a6,_⟩
  .exact⟨arr,w,z,fr.defers,nt,M,u,s1,j,a4,⟨i.rel,x,i.ri,i.rm,i.gi,i.gm,i.bo⟩,zOL arr nt w,hM,zP _⟩
  .obtain⟨n,hp,rfl⟩:=find e x;exact absurd (by rw[K];exact qM.2 ⟨n,j.symm.subset hp,rfl⟩) a6
 | succ hb ih=>
  intro rp M u arr nt fr k cs w lo W j K a4 S i hm ht hM a5;rcases zAD (P:=P) (cs:=cs) hq b0 i hm ht with⟨b6,_⟩ | ⟨e,x,a6,z,d',s1,hE,b9⟩
  .exfalso;obtain⟨n,G,rfl⟩: ∃n G,rp=n::G:=by
    cases rp with
    | nil=>simp at W
    | cons n G=>exact⟨n,G,rfl⟩
   have a7:n∈s:=j.subset (by simp);have t:=b6 n.2 (a1.subset (qM.2 ⟨n,a7,rfl⟩));rw[K]at t;have b1:((M++n::G).map (·.2.born)).Nodup:=by
    have h2:((M++n::G).map (·.2.born)).Perm (Q.toList.map (·.born)):=by
     have:=(j.map (·.2)).trans a1;have:=this.map (·.born);rw[List.map_map]at this;exact this
    exact h2.symm.nodup i.bo.1
   rw[List.map_append,List.nodup_append]at b1;exact b1.2.2 _ t _ (by simp) rfl
  .obtain⟨n,hp,rfl⟩:=find e x;have a7:n∈M++rp:=j.symm.subset hp;have c0:n∈rp:=by
    rcases qB.1 a7 with t | t
    .exact absurd (by rw[K];exact qM.2 ⟨n,t,rfl⟩) a6
    .exact t
   obtain⟨Y,Z,rfl⟩:=List.append_of_mem c0;obtain⟨⟨kA,vA⟩,e⟩:=n;have a8:(M++[((kA,vA),e)]++(Y++Z)).Perm s:=by
    refine List.Perm.trans ?_ j;rw[qH];refine List.Perm.append_left _ ?_;exact(List.perm_middle (a:=((kA,vA),e)) (l₁:=Y) (l₂:=Z)).symm
   obtain⟨U,a9⟩:=qK.1 (T.set_some 40 nt.h C (.raw (.mapIter (some m) O (u.push e.born) O)));have b3:=b4 _ _ _ _ a4 a9;obtain⟨J,g1,g2,g3,g4⟩:=b2 (M.map (·.1)) kA vA ((Y++Z).map (·.1)) ⟨U,nt.next⟩ b3 (by
    have:=a8.map (·.1);rw[b5]at this;simpa using this)
   obtain⟨hk,hv⟩:=S _ hp;obtain⟨R1,w1,t1,c1,s2,a2,x2,m2,n2⟩:=zDZ hX hr (d':=d') (cs:=cs) (lo:=lo) (k:=k) (fr:= { fr with tmps:=z,todo:= .inRegion q.opsC ((List.range q.rest.length).map Nat.succ):: .code q.body:: .inBlock q.id2:: .inLoop q.round:: .inBlock q.id::k}) hq b7 i a9 hk hv g1 g2 g3 b8 hm rfl hE b9 hM a5;obtain⟨R2,w2,t2,c2,H4,vs,a0,s3,p3,i3,a3,x3,m3,n3⟩:=ih (Y++Z) (M++[((kA,vA),e)]) (u.push e.born) R1 J { fr with tmps:=t1,todo:= .code q.round:: .inLoop q.round:: .inBlock q.id::k,defers:=c1} k cs w1 lo (by simp at W⊢;omega) a8 (by simp[K]) (by simpa using g4)
    (fun n hp=>⟨VR.mono x2.sub _ _ (S n hp).1,VR.mono x2.sub _ _ (S n hp).2⟩) a2 hm rfl m2 (qR a5 x2.size)
   exact⟨R2,w2,t2,c2,H4,vs,a0,s1.trans (s2.trans s3),p3,i3,a3,x2.trans x3,m3,qR n2 n3⟩
end
section
variable {P:Program}{B:Tb}{D:Dyn}(hX:Ok P B.X)(hr:Good P (rOf B D))
theorem MR.pairs {l:List MapEntry}(h:MR E R l): ∃f:List ((AV×AV)×MapEntry),f.map (·.1)=R/\(f.map (·.2)).Perm l/\ ∀p∈f,VR E p.1.1 p.2.key/\VR E p.1.2 p.2.val:=by
 obtain⟨m,hp,i,j⟩:=h;have key: ∀(R:List (AV×AV)) (m:List MapEntry),VRL E (R.map (·.1)) (m.map (·.key))->VRL E (R.map (·.2)) (m.map (·.val))-> ∃f:List ((AV×AV)×MapEntry),f.map (·.1)=R/\f.map (·.2)=m/\ ∀p∈f,VR E p.1.1 p.2.key/\VR E p.1.2 p.2.val:=by
  intro R
  induction R with
  | nil=>
   intro m i _;simp only[List.map_nil,VRL,List.map_eq_nil_iff]at i;subst i;exact⟨[],rfl,rfl,by simp⟩
  | cons e R ih=>
   intro m i j;obtain⟨x,xs,o,v,z⟩:=i;obtain⟨y,F,u,h5,C⟩:=j
   cases m with
   | nil=>simp at o
   | cons a m=>
    simp only[yK,y9]at o u;obtain⟨rfl,rfl⟩:=o;obtain⟨rfl,rfl⟩:=u;obtain⟨f,q,s,t⟩:=ih m z C;refine⟨(e,a)::f,by simp[q],by simp[s],fun p hp=> ?_⟩;rcases zO.1 hp with rfl | hp
    .exact⟨v,h5⟩
    .exact t p hp
 obtain⟨f,q,s,t⟩:=key R m i j;exact⟨f,q,by rw[s];exact hp,t⟩
variable {nt:Nat}
include hX hr in
theorem V7 {ops:Array Oper} : ∀ {es:List Ent} {env:Env} {H:AH} {envF:Env} {HF:AH},uJ B.X (rOf B D) nt ops env H es envF HF->(∀e∈es,ops[e.i]? =some e.o)->
  ∀(R:Ren) (fr:Frame) (a:List Nat) (k:List Item) (cs:List Frame) (w:World),fr.mode= .run->fr.todo= .inRegion ops (es.map (·.i)++a)::k->EnvR R env nt fr.tmps->Rel R H w->
  ∃t u y,Steps P (lone fr cs w) (lone { fr with tmps:=y,todo:= .inRegion ops a::k} cs u)/\EnvR t envF nt y/\Rel t HF u/\Ext R H w t HF u
 | [],env,H,envF,HF,⟨h1,h2⟩,_,R,fr,a,k,cs,w,hm,ht,hE,hL=>by
  subst h1 h2;refine⟨R,w,fr.tmps, ?_,hE,hL,zOL R H w⟩;have:({ fr with tmps:=fr.tmps,todo:= .inRegion ops a::k} :Frame)=fr:=by
   have f:fr.todo= .inRegion ops a::k:=ht;rw[<-f]
  rw[this];exact .refl _ _
 | e::es,env,H,envF,HF,⟨h1,h2,h3,env',h4,h5⟩,hmem,R,fr,a,k,cs,w,hm,ht,hE,hL=>by
  have x:=hmem e (zJ ..);obtain⟨I,F,G⟩:=KU _ _ _ h3;have m:=zBB hE I;have f:fr.todo= .inRegion ops (e.i::(es.map (·.i)++a))::k:=ht;have key: ∃h j z,Steps P (lone fr cs w) (lone { fr with tmps:=zBx fr.tmps e.o.dst z,todo:= .inRegion ops (es.map (·.i)++a)::k} cs j)/\VR h e.v z/\Rel h e.H' j/\Ext R H w h e.H' j:=by
   cases p:e.want with
   | true=>
    rw[p]at m;exact zCM hX hr (cs:=cs) hm f x m hE hL (F p)
   | false=>
    rw[p]at m;obtain⟨J,s⟩:=G p;refine⟨R,w,undef, ?_,by rw[J];exact BE R,by rw[s];exact hL,by rw[s];exact zOL R H w⟩;rw[<-kJ f x];exact .one (JN hm f x m)
  obtain⟨h,j,z,K,L,M,C⟩:=key;obtain⟨N,O,t2,Q,s,S,T⟩:=V7 h5 (fun q U=>hmem q (zE _ U)) h { fr with tmps:=zBx fr.tmps e.o.dst z,todo:= .inRegion ops (es.map (·.i)++a)::k} a k cs j hm rfl ((hE.mono C.sub).put L h4) M;exact⟨N,O,t2,K.trans Q,s,S,C.trans T⟩
noncomputable def ML.preK (q:ML)(B:Tb)(D:Dyn)(nt:Nat)(L:List Nat)(vs:List AV)(H:AH):Rs:=
 unp L vs uN fun e=>zCK B D nt q.opsA none (Nat.succ q.pre.length) (fun e H=>pck L e fun vs=>bV (opd e q.x) fun v=>some (.norm (v::vs),H)) (idx q.pre 0) [] e H
structure ML.Plan (q:ML)(B:Tb)(D:Dyn)(n nt:Nat)(hb:Hint)(L:List Nat)(vs:List AV)(H H':AH) where
 M:Nat
 ks:List Nat
 es:List (AV×AV)
 inv:List (AV×AV)->AH->Prop
 pre:q.preK B D nt L vs H=some (.norm (.map M::vs),H)
 room:True
 map:H.h.get M=some (.map ks es)
 start: ∀x y t1 t2,T.set 40 H.h M (.raw x)=some t1->T.set 40 t1 H.next (.raw y)=some t2->inv [] ⟨t2,H.next+1⟩
 step: ∀vis k v rest Hk,inv vis Hk->(vis++(k,v)::rest).Perm es-> ∃H3,q.roundK B D n nt hb L H.next vs k v Hk=some (.norm (.ptr H.next 0::vs),H3)/\H3.h.get H.next=Hk.h.get H.next/\H3.h.get M=Hk.h.get M/\inv (vis++[(k,v)]) H3
 raw: ∀vis Hk y t',inv vis Hk->T.set 40 Hk.h H.next (.raw y)=some t'->inv vis ⟨t',Hk.next⟩
 fin: ∀vis Hk t1 t2,inv vis Hk->vis.Perm es->T.set 40 Hk.h M (.map ks es)=some t1->T.set 40 t1 H.next .dead=some t2-> ∀R0 w0 R w,Rel R0 H w0->(∀v∈vs,∃z,VR R0 v z)->(∃b d c,R0 M b d c)->Sub R0 R->Rel R ⟨t2,Hk.next⟩ w->Rel R H' w/\H'.next=Hk.next/\ ∀A,A<H.next->(∀b d c,¬R0 A b d c)->H'.h.get A=H.h.get A
end
section
variable {P:Program}{B:Tb}{D:Dyn}(hX:Ok P B.X)(hr:Good P (rOf B D)){nt:Nat}
theorem Ext.told {o':AObj}{a:T AObj}(hR:E H p C f)(R:T.set 40 A.h H o'=some a):Ext E A t E ⟨a,A.next⟩ t:=
 ⟨zOH E,fun _ _ _ _ h=> .inl h,fun _ _ _ _ h=> .inl h,zP _,fun i _ j=>by
  have:i≠H:=fun e=>by subst e;exact j _ _ _ hR
  simp only[T.get_set _ _ _ _ _ R,if_neg this],rfl,rfl,rfl,zP _,fun _ _ _=>rfl⟩
include hX hr in
theorem zE8 {f0:ML}(Q:f0.Fits nt)(c7: ∀L∈f0.it::l,L≠f0.nx/\L≠f0.ok/\L≠f0.en)(c8: ∀L∈l,L≠f0.it)(c9:kT P 0 nt f0.body N){vt:TypeId}(d0:B.X.und f0.t=some (.map a vt))
  (d1: ∀vs n H',j vs n=some H'->Nonempty (f0.Plan B D H nt N l vs n H')):WH P nt q f0.code l j:=by
 intro ro env vs n H' hp d2 d4 lo R fr k cs w hm f7 d5 hE hL hM d6;obtain⟨f⟩:=d1 vs n H' d2;have a1:=f.pre;unfold ML.preK at a1;obtain⟨e1,b5,b6⟩:=JJ a1 hp;obtain⟨es,envF,HF,env',c1,c2,c3,J,_⟩:=u5 _ _ [] _ _ _ [] b5 (Le.refl _) (fun ms d7=>by simp at d7);obtain⟨hb,p1,J⟩:=wI J;obtain⟨v1,o1,J⟩:=wJ J;simp only[zC,zT,Ex.norm.injEq,y9]at J;obtain⟨⟨rfl,rfl⟩,rfl⟩:=J;obtain⟨i1,i2⟩:=UG f0.pre 0;have hi:es.map (·.i)=List.range f0.pre.length:=by
  have:es.map (·.i)=(idx f0.pre 0).map (·.1):=by rw[<-c2];simp
  rw[this,i1];simp
 have b7: ∀e∈es,f0.opsA[e.i]? =some e.o:=by
  intro e he;have S:(e.i,e.o)∈idx f0.pre 0:=by rw[<-c2];exact qM.2 ⟨e,he,rfl⟩
  have C:=(i2 _ S).2;rw[jF]at C;show(f0.pre++[f0.oR]).toArray[e.i]? =some e.o;rw[List.getElem?_toArray,j5 (qP.1 C).1];exact C
 have d8:List.range f0.opsA.size=es.map (·.i)++[f0.pre.length]:=by
  rw[hi,<-List.range_succ];show List.range (f0.pre++[f0.oR]).toArray.size=_;simp
 obtain⟨s,kt,t1,s1,d9,l1,x1⟩:=V7 hX hr c1 b7 R { fr with todo:= .inRegion f0.opsA (es.map (·.i)++[f0.pre.length]):: .code (.block f0.id (.loop f0.round))::k} [f0.pre.length] (.code (.block f0.id (.loop f0.round))::k) cs w hm rfl (hE.le b6) hL;have a6:EnvR s env' nt t1:=d9.le c3;obtain⟨m,dm,cm,y,e0⟩:=kP (fr:= { fr with tmps:=t1,todo:= .inRegion f0.opsA [f0.pre.length]:: .code (.block f0.id (.loop f0.round))::k}) a6 _ _ o1;obtain⟨arr,mf,a7,a8,e2,e4,a9⟩:=l1.mapAt f.map y;have b2:f0.opsA[f0.pre.length]? =some f0.oR:=by
  show(f0.pre++[f0.oR]).toArray[f0.pre.length]? =some f0.oR;simp
 have s2:=BY (P:=P) (cs:=cs) (w:=kt) (fr:= { fr with tmps:=t1,todo:= .inRegion f0.opsA [f0.pre.length]:: .code (.block f0.id (.loop f0.round))::k}) hm rfl b2 Q.gR Q.pR Q.dR (by rw[e0];exact run_range_map (hX.run_und d0 kt) a7);have f8:f.M<HF.next:=(l1.lt _ _ _ _ y).2
 have b3:=f.room;obtain⟨Y,W⟩:=qK.1 (T.set_some 40 HF.h f.M (.raw (.map arr mf)));obtain⟨Z,O⟩:=qK.1 (T.set_some 40 Y HF.next (.raw (.mapIter (some m) mf #[] mf)))
 have lM:Rel s ⟨Y,HF.next⟩ kt:=l1.told y f.map ⟨_,f.map,trivial⟩ W a7
 have l2:Rel (s.add HF.next kt.heap.size 0 0) ⟨Z,HF.next+1⟩ (kt.alloc (.mapIter (some m) mf #[] mf)):=lM.new (c:=0) (x:= .mapIter (some m) mf #[] mf) (H:=⟨Y,HF.next⟩) O rfl
 have x2:Ext R HF w (s.add HF.next kt.heap.size 0 0) ⟨Z,HF.next+1⟩ (kt.alloc (.mapIter (some m) mf #[] mf)):=(x1.trans (Ext.told y W)).trans (Ext.add (H:=⟨Y,HF.next⟩) O)
 obtain⟨ps,a2,b8,a4⟩:=a8.pairs;have I:Sub s (s.add HF.next kt.heap.size 0 0):=s.sub_add _ _ _ _
 have e5: ∀p∈ps,VR (s.add HF.next kt.heap.size 0 0) p.1.1 p.2.key/\VR (s.add HF.next kt.heap.size 0 0) p.1.2 p.2.val:=fun p hp=>⟨VR.mono I _ _ (a4 p hp).1,VR.mono I _ _ (a4 p hp).2⟩
 have b0:f.M≠HF.next:=by omega
 have e6:EnvR (s.add HF.next kt.heap.size 0 0) (upd env' f0.it (.ptr HF.next 0)) nt (t1.setIfInBounds f0.it (.pointer (some ⟨kt.heap.size,0,none⟩))):=
  (a6.mono I).put (dst:=some f0.it) (x:= .ptr HF.next 0) ⟨kt.heap.size,0,0,s.add_self _ _ _ _,rfl⟩ (by have N:=Q.it;rw[<-qD]at N;simp only[WJ,N,zU])
 have e7:PK (upd env' f0.it (.ptr HF.next 0)) (f0.it::l) (.ptr HF.next 0::hb):=by
  refine⟨_,_,rfl,by simp[look,bD], ?_⟩;have key: ∀(l:List Nat) (vs:List AV),(∀L∈l,L≠f0.it)->PK env' l vs->PK (upd env' f0.it (.ptr HF.next 0)) l vs:=by
   intro l
   induction l with
   | nil=>intro vs _ h;exact h
   | cons L l ih=>
    intro vs hd h;obtain⟨v,vs',S,h2,C⟩:=h;refine⟨v,vs',S, ?_,ih vs' (fun x hx=>hd x (zE _ hx)) C⟩;have:=hd L (zJ ..);simp only[look,bD,if_neg this];exact h2
  exact key l hb c8 p1
 have e8:AtHead f0 nt l HF.next f.M kt.heap.size m hb arr mf #[] (s.add HF.next kt.heap.size 0 0) ⟨Z,HF.next+1⟩ (t1.setIfInBounds f0.it (.pointer (some ⟨kt.heap.size,0,none⟩))) (kt.alloc (.mapIter (some m) mf #[] mf)):=
  ⟨l2,⟨_,e7,e6⟩,s.add_self _ _ _ _,⟨dm,cm,I _ _ _ _ y⟩,by simp only[T.get_set _ _ _ _ _ O,if_true],by simp only[T.get_set _ _ _ _ _ O,if_neg b0,T.get_set _ _ _ _ _ W,if_true],a9⟩
 have e9:Marks lo (s.add HF.next kt.heap.size 0 0) (kt.alloc (.mapIter (some m) mf #[] mf)) fr.defers:=hM.ext x2
 obtain⟨F,K,t3,f1,U,vp,f6,s3,v3,i3,G,x3,m3,n3⟩:=zIE hX hr Q c7 c9 b0 b3 f.step f.raw a2 b8 ps.length ps [] #[] _ ⟨Z,HF.next+1⟩ { fr with tmps:=t1.setIfInBounds f0.it (.pointer (some ⟨kt.heap.size,0,none⟩)),todo:= .code f0.round:: .inLoop f0.round:: .inBlock f0.id::k} k cs _ lo rfl (by simp) rfl (f.start _ _ _ _ W O) e5 e8 hm rfl e9 (qR d6 x2.size)
 obtain⟨d3,f9,b9⟩:=G.rm;obtain⟨tc,b1⟩:=qK.1 (T.set_some 40 U.h f.M (.map f.ks f.es));obtain⟨td,a5⟩:=qK.1 (T.set_some 40 tc HF.next .dead)
 have c0:K.heap[m]? =some (.map arr mf):=G.rel.obj _ _ _ _ _ b9 G.gm;have b4:F f.M m dm cm:=x3.sub _ _ _ _ (I _ _ _ _ y);have l4:Rel F ⟨tc,U.next⟩ K:=G.rel.told b4 G.gm ⟨_,G.gm,trivial⟩ b1 ⟨arr,mf,c0,a8.mono (fun A b d c h=>x3.sub _ _ _ _ (I _ _ _ _ h)),e2,e4,a9⟩
 have l5:Rel F ⟨td,U.next⟩ K:=l4.kill (H:=⟨tc,U.next⟩) a5
 have f2: ∀v∈hb,∃z,VR R v z:=by
  have key: ∀(l:List Nat) (vs:List AV),PK env l vs-> ∀v∈vs,∃z,VR R v z:=by
   intro l
   induction l with
   | nil=>intro vs h v V;simp only[PK]at h;subst h;simp at V
   | cons L l ih=>
    intro vs h v V;obtain⟨v0,vs',S,h2,C⟩:=h;subst S;rcases zO.1 V with rfl | V
    .exact⟨_,hE.get _ _ h2⟩
    .exact ih vs' C v V
  exact key l hb hp
 have f3: ∃b d c,R f.M b d c:=by
  rcases x1.newA _ _ _ _ y with h | h
  .exact⟨_,_,_,h⟩
  .omega
 have c5:Sub R F:=(x2.trans x3).sub;obtain⟨l6,g0,f4⟩:=f.fin _ U tc td i3 (by rw[<-a2];exact v3.map _) b1 a5 R w F K hL f2 f3 c5 l5;have u:=x2.trans x3;have x4:Ext R HF w F H' K:=⟨u.sub,u.new,u.newA,by have:=u.next;omega,f4,u.os,u.tape,u.output,u.size,u.keep⟩
 obtain⟨e3,pk3,f5⟩:=G.env;obtain⟨_,_,a0,_,c6⟩:=pk3;injection a0 with _ a0;subst a0
 refine⟨F,K,t3,k,f1,e3,H', ?_,f5,l6,x4,d4,m3, .inl ⟨rfl,c6,rfl⟩⟩;refine(Steps.one (WZ hm d5)).trans ?_;refine(Steps.one (ZC (fr:= { fr with todo:= .code (.region f0.rA f0.opsA false):: .code (.block f0.id (.loop f0.round))::k}) hm rfl)).trans ?_;rw[d8];refine s1.trans ((Steps.one s2).trans ?_);refine(Steps.one (xV (fr:= { fr with tmps:=t1.setIfInBounds f0.it (.pointer (some ⟨kt.heap.size,0,none⟩)),todo:= .inRegion f0.opsA []:: .code (.block f0.id (.loop f0.round))::k}) hm rfl)).trans ?_;refine(Steps.one (YS (fr:= { fr with tmps:=t1.setIfInBounds f0.it (.pointer (some ⟨kt.heap.size,0,none⟩)),todo:= .code (.block f0.id (.loop f0.round))::k}) hm rfl)).trans ?_;refine(Steps.one (zF3 (fr:= { fr with tmps:=t1.setIfInBounds f0.it (.pointer (some ⟨kt.heap.size,0,none⟩)),todo:= .code (.loop f0.round):: .inBlock f0.id::k}) hm rfl)).trans ?_;exact s3
end
def ups (e:List (AV×AV))(x:AV×AV):List (AV×AV):=match BJ x.1 x.2 e with
 | some r=>r
 | none=>e++[x]
def WW:List (AV×AV)->List (AV×AV)->List (AV×AV)
 | e,[]=>e
 | e,x::l=>WW (ups e x) l
noncomputable def zEg (t:T AObj):Nat->Nat->Bool
 | _,0=>true
 | A,n+1=>match T.get t A with
  | none=>fN (Nat.succ A) fun A=>zEg t A n
  | some _=>false
theorem zD1 {t:T AObj} : ∀ {n A:Nat},zEg t A n=true-> ∀C,A<=C->C<A+n->t.get C=none
 | 0,_,_,C,h1,h2=>by omega
 | n+1,A,h,C,h1,h2=>by
  simp only[zEg]at h;split at h
  .rename_i e;rw[kI]at h;by_cases a:C=A
   .subst a;exact e
   .exact zD1 h C (by simp only[Nat.succ_eq_add_one];omega) (by simp only[Nat.succ_eq_add_one];omega)
  .simp at h
noncomputable def zKR (kk:List Nat)(nb:Nat)(ok:AV->Bool)(x y:AV)(H:AH):Option AH:=match x with
 | .map M=>match y with
  | .map A=>match H.h.get M with
   | some (.map ks es)=>match H.h.get A with
    | some (.map ks' es')=>bif YO kk ks&&YO ks ks'&& !Nat.beq M A&&es.all (fun e=>xP ks e.1&&ok e.2)then
      fN (H.next+1+nb*es.length) fun N=>bif zEg H.h H.next (1+nb*es.length)then
       match fF H A (.map ks (WW es' es))with
       | some H1=>some ⟨H1.h,N⟩
       | none=>none
      else none
     else none
    | _=>none
   | _=>none
  | _=>none
 | _=>none
theorem JI (x:AV×AV): ∀(l e:List (AV×AV)),WW e (l++[x])=ups (WW e l) x
 | [],e=>rfl
 | y::l,e=>by simp only[qF,WW];exact JI x l (ups e y)
open Classical in
theorem zI2 {ks:List Nat}{e:List (AV×AV)}{x:AV×AV}(hk:xP ks x.1=true)(hd:e.Pairwise (fun a b=>a.1≠b.1)):(ups e x).Perm (x::e.filter (fun y=>decide (y.1≠x.1))):=by
 obtain⟨k,v⟩:=x;unfold ups;split
 .rename_i r hr;obtain⟨e1,v0,e2,rfl,rfl⟩:=JU hr;rw[j8,yP]at hd;have h1:e1.filter (fun y=>decide (y.1≠k))=e1:=List.filter_eq_self.2 fun y hy=>by
   simpa using hd.2.2 y hy (k,v0) (zJ ..)
  have h2:e2.filter (fun y=>decide (y.1≠k))=e2:=List.filter_eq_self.2 fun y hy=>by
   have:=hd.2.1.1 y hy;simpa using fun h=>this h.symm
  rw[jN,List.filter_cons];simp only[ne_eq,not_true_eq_false,decide_false,zM,qE];simp only[ne_eq]at h1 h2;rw[h1,h2];exact List.perm_middle
 .rename_i hr;have hn:=setA_none hk hr;have h1:e.filter (fun y=>decide (y.1≠k))=e:=List.filter_eq_self.2 fun y hy=>by simpa using hn y hy
  simp only[ne_eq]at h1⊢;rw[h1];exact List.perm_append_comm
theorem U3 {m:List (AV×AV)}(h:R.Perm m)(hl:R.Pairwise (fun a b=>a.1≠b.1)):m.Pairwise (fun a b=>a.1≠b.1):=
 (List.Perm.pairwise_iff (fun h e=>h e.symm) h).1 hl
open Classical in
theorem BN {ks:List Nat}{e:List (AV×AV)}(hd:e.Pairwise (fun a b=>a.1≠b.1)): ∀(n:Nat) (l:List (AV×AV)),l.length=n->(∀x∈l,xP ks x.1=true)->l.Pairwise (fun a b=>a.1≠b.1)->
  (WW e l).Perm (l++e.filter (fun y=>decide (∀x∈l,y.1≠x.1)))/\(WW e l).Pairwise (fun a b=>a.1≠b.1):=by
 intro n
 induction n with
 | zero=>
  intro l hl hk hp;have:l=[]:=zR hl;subst this;refine⟨?_,hd⟩;rw[List.filter_eq_self.2 (fun y _=>by simp)];simp[WW]
 | succ n ih=>
  intro l hl hk hp;rcases List.eq_nil_or_concat l with rfl | ⟨l,x,rfl⟩
  .simp at hl
  .simp only[List.concat_eq_append]at hl hk hp⊢;rw[j8]at hp;obtain⟨i1,i2⟩:=ih l (by simp at hl;omega) (fun y hy=>hk y (by simp[hy])) hp.1;have h1:=zI2 (hk x (by simp)) i2;rw[JI];have h2:(WW e l).filter (fun y=>decide (y.1≠x.1)) |>.Perm ((l++e.filter (fun y=>decide (∀z∈l,y.1≠z.1))).filter (fun y=>decide (y.1≠x.1))):=i1.filter _;have h3:(l++e.filter (fun y=>decide (∀z∈l,y.1≠z.1))).filter (fun y=>decide (y.1≠x.1))=l++e.filter (fun y=>decide (∀z∈l++[x],y.1≠z.1)):=by
    rw[jN,List.filter_filter];congr 1
    .exact List.filter_eq_self.2 fun y hy=>by simpa using hp.2.2 y hy x (by simp)
    .apply List.filter_congr;intro y _;rw[yL];simp only[zF,zQ,qB,yF];constructor
     .rintro⟨h1,h2⟩ z (hz | rfl)
      .exact h2 z hz
      .exact h1
     .intro h;exact⟨h x (.inr rfl),fun z hz=>h z (.inl hz)⟩
   have h4:(ups (WW e l) x).Perm ((l++[x])++e.filter (fun y=>decide (∀z∈l++[x],y.1≠z.1))):=by
    refine h1.trans ?_;refine((h2.trans (List.Perm.of_eq h3)).cons x).trans ?_;rw[qH];exact List.perm_middle.symm
   refine⟨h4, ?_⟩;refine U3 h1.symm ?_;rw[yP];refine⟨fun y hy=> ?_,List.Pairwise.filter _ i2⟩;have:=(List.mem_filter.1 hy).2;simp only[ne_eq,zQ]at this;exact fun h=>this h.symm
open Classical in
theorem zEE {ks:List Nat}{e l m:List (AV×AV)}(hd:e.Pairwise (fun a b=>a.1≠b.1))(hk: ∀x∈l,xP ks x.1=true)(hl:l.Pairwise (fun a b=>a.1≠b.1))(h:l.Perm m):(WW e l).Perm (WW e m):=by
 obtain⟨h1,_⟩:=BN hd _ l rfl hk hl;obtain⟨h2,_⟩:=BN (ks:=ks) hd _ m rfl (fun x hx=>hk x (h.symm.subset hx)) (U3 h hl);refine h1.trans (List.Perm.trans ?_ h2.symm);have:e.filter (fun y=>decide (∀x∈l,y.1≠x.1))=e.filter (fun y=>decide (∀x∈m,y.1≠x.1)):=by
  apply List.filter_congr;intro y _;congr 1;apply propext;exact⟨fun a x hx=>a x (h.symm.subset hx),fun a x hx=>a x (h.subset hx)⟩
 rw[this];exact h.append_right _
theorem MR.perm {es':List (AV×AV)}{l:List MapEntry}(h:MR E R l)(hp:R.Perm es'):MR E es' l:=by
 obtain⟨f,v,s,t⟩:=h.pairs;subst v;have key: ∀ {a b:List (AV×AV)},a.Perm b-> ∀f:List ((AV×AV)×MapEntry),f.map (·.1)=a-> ∃i:List ((AV×AV)×MapEntry),i.map (·.1)=b/\i.Perm f:=by
  intro a b u
  induction u with
  | nil=>intro f h;exact⟨f,h, .refl _⟩
  | cons x _ ih=>
   intro f h
   cases f with
   | nil=>simp at h
   | cons p f=>
    simp only[yK,y9]at h;obtain⟨i,m,j⟩:=ih f h.2;exact⟨p::i,by simp[m,h.1],j.cons p⟩
  | swap x y l=>
   intro f h
   match f,h with
   | p::q::f,h=>
    simp only[yK,y9]at h;exact⟨q::p::f,by simp[h.1,h.2.1,h.2.2],List.Perm.swap ..⟩
  | trans _ _ ih1 ih2=>
   intro f h;obtain⟨i,m,j⟩:=ih1 f h;obtain⟨rs,b1,b2⟩:=ih2 i m;exact⟨rs,b1,b2.trans j⟩
 obtain⟨i,m,j⟩:=key hp f rfl;refine⟨i.map (·.2),(j.map _).trans s, ?_⟩;subst m;have o: ∀p∈i,VR E p.1.1 p.2.key/\VR E p.1.2 p.2.val:=fun p hp=>t p (j.subset hp)
 clear j t s hp key h
 induction i with
 | nil=>simp[VRL]
 | cons q i ih=>
  obtain⟨z,C⟩:=ih (fun p hp=>o p (zE _ hp));obtain⟨F,G⟩:=o q (zJ ..);exact⟨⟨_,_,rfl,F,z⟩,⟨_,_,rfl,G,C⟩⟩
theorem zLp {o:AObj}(h:fF A H o=some J): ∃t,T.set 40 A.h H o=some t/\J=⟨t,A.next⟩:=by
 unfold fF at h;split at h
 .rename_i t a;injection h with h
  exact⟨t,a,h.symm⟩
 .simp at h
def zME (q:ML)(B:Tb)(D:Dyn)(n nt:Nat)(hb:Hint)(L:List Nat)(vs:List AV)(H:AH)(ks:List Nat)(nb:Nat)(ok:AV->Bool)(M A:Nat):Prop:=
 ∀k v a i,ok v=true->(∀C,C<H.next->C≠M->C≠A->a.h.get C=H.h.get C)->a.h.get A=some (.map ks i)->xP ks k=true->H.next<a.next->(∀C,a.next<=C->C<a.next+nb->a.h.get C=none)->True->A<H.next->
  ∃f,q.roundK B D n nt hb L H.next vs k v a=some (.norm (.ptr H.next 0::vs),f)/\f.next=a.next+nb/\f.h.get A=some (.map ks (ups i (k,v)))/\ ∀C,C≠A->(C<a.next\/a.next+nb<=C)->f.h.get C=a.h.get C
theorem zKP {q:ML}{B:Tb}{D:Dyn}{n nt:Nat}{hb:Hint}{L:List Nat}{vs:List AV}{H H':AH}{kk:List Nat}{nb:Nat}{ok:AV->Bool}{M A:Nat}(h:zKR kk nb ok (.map M) (.map A) H=some H')(a7:q.preK B D nt L vs H=some (.norm (.map M::vs),H))
  (b0:zME q B D n nt hb L vs H kk nb ok M A) (c5:M<H.next) (b1:A<H.next) (b2: ∀J w0,Rel J H w0->(∀v∈vs,∃z,VR J v z)-> ∃b d c,J A b d c):Nonempty (q.Plan B D n nt hb L vs H H'):=by
 unfold zKR at h;simp only at h;split at h
 .rename_i ks es hM;split at h
  .rename_i c6 es' hA;rw[zG]at h;split at h
   .rename_i hc;simp only[zF,j6,yC]at hc;obtain⟨⟨⟨U,V⟩,t⟩,a2⟩:=hc;have U:=aT _ _ U;subst U;have V:=aT _ _ V;subst V;have t:M≠A:=fun e=>by rw[e]at t;simp at t
    rw[kI,zG]at h;split at h
    .rename_i b3;have S:=zD1 b3;split at h
     .rename_i H1 a8;injection h with h
      obtain⟨t1,b4,rfl⟩:=zLp a8;have b5:=T.get_set _ _ _ _ _ b4;have a4:H'.next=H.next+1+nb*es.length:=by rw[<-h]
      have W: ∀C,H'.h.get C=if C=A then some (.map kk (WW es' es))else H.h.get C:=by rw[<-h];exact b5
      refine⟨{ M:=M,ks:=kk,es:=es,inv:=fun i j=>j.next=H.next+1+nb*i.length/\j.h.get A=some (.map kk (WW es' i))/\(∀C,C<H.next->C≠M->C≠A->j.h.get C=H.h.get C)/\ ∀C,j.next<=C->j.h.get C=H.h.get C,pre:=a7,room:=trivial,map:=hM,start:= ?_,step:= ?_,raw:= ?_,fin:= ?_}⟩
      .intro x y s1 s2 Y Z;have m:=T.get_set _ _ _ _ _ Y;have u:=T.get_set _ _ _ _ _ Z;refine⟨by simp, ?_,fun C f F K=> ?_,fun C f=> ?_⟩
       .simp only[u,m];rw[if_neg (by omega),if_neg (Ne.symm t)];exact hA
       .simp only[u,m];rw[if_neg (by omega),if_neg F]
       .simp only at f;simp only[u,m];rw[if_neg (by omega),if_neg (by omega)]
      .intro i k v rest j ⟨s,N,G,I⟩ p;have O:i.length+1+rest.length=es.length:=by have:=p.length_eq;simp at this;omega
       have a9:nb*(i.length+1)<=nb*es.length:=Nat.mul_le_mul_left _ (by omega);rw[Nat.mul_add,Nat.mul_one]at a9;obtain⟨H3,r1,r2,r3,Q⟩:=b0 k v j (WW es' i) (a2 (k,v) (p.subset (by simp))).2 G N (a2 (k,v) (p.subset (by simp))).1 (by omega) (fun C f F=>by rw[I C f];exact S C (by omega) (by omega)) trivial b1;refine⟨H3,r1,Q _ (by omega) (.inl (by omega)),Q _ t (.inl (by omega)), ?_, ?_,fun C f F K=> ?_,fun C f=> ?_⟩
       .rw[r2,s,zV,jI,Nat.mul_add,Nat.mul_one];omega
       .rw[r3,JI]
       .rw[Q C K (.inl (by omega))];exact G C f F K
       .rw[Q C (by omega) (.inr (by omega))];exact I C (by omega)
      .intro i j y t' ⟨s,N,G,I⟩ hs;have m:=T.get_set _ _ _ _ _ hs;refine⟨s, ?_,fun C f F K=> ?_,fun C f=> ?_⟩
       .simp only[m];rw[if_neg (by omega)];exact N
       .simp only[m];rw[if_neg (by omega)];exact G C f F K
       .simp only at f;simp only[m];rw[if_neg (by omega)];exact I C f
      .intro i j c7 t2 ⟨s,N,G,I⟩ p Y Z J w0 R w a0 b6 a1 b9 hR;have m:=T.get_set _ _ _ _ _ Y;have u:=T.get_set _ _ _ _ _ Z;have O:i.length=es.length:=p.length_eq;obtain⟨bA,dA,cA,a5⟩:=b2 J w0 a0 b6;obtain⟨bM,dM,cM,a1⟩:=a1;have e0: ∀C,C≠A-> ∀o,H'.h.get C=some o->t2.get C=some o:=by
        intro C hC o a;rw[W,if_neg hC]at a;rw[u,m];by_cases c1:C=H.next
        .subst c1;rw[S _ (zP _) (by omega)]at a;simp at a
        .rw[if_neg c1];by_cases c2:C=M
         .subst c2;rw[if_pos rfl];rw[hM]at a;exact a
         .rw[if_neg c2];by_cases c3:C<H.next
          .rw[G C c3 c2 hC];exact a
          .by_cases c4:C<H.next+(1+nb*es.length)
           .rw[S C (by omega) c4]at a;simp at a
           .rw[I C (by rw[s,O];omega)];exact a
       have eA:t2.get A=some (.map kk (WW es' i)):=by
        rw[u,m,if_neg (by omega),if_neg (Ne.symm t)];exact N
       have a3: ∀C,YL H' C->YL ⟨t2,j.next⟩ C:=by
        intro C ⟨o,a,hd⟩;by_cases c:C=A
        .subst c;exact⟨_,eA,trivial⟩
        .exact⟨o,e0 C c o a,hd⟩
       refine⟨⟨hR.fn,fun A1 A2 b d c d' c' r r' l l'=>hR.inj _ _ _ _ _ _ _ r r' (a3 _ l) (a3 _ l'),fun C b d c o r a=> ?_,fun C b d c r=>⟨(hR.lt _ _ _ _ r).1,by have:=(hR.lt _ _ _ _ r).2;simp only at this;rw[a4];rw[s,O]at this;exact this⟩⟩,by rw[a4,s,O],fun C hC hn=> ?_⟩
       .by_cases c0:C=A
        .subst c0;rw[W,if_pos rfl]at a;injection a with a;subst a
         obtain⟨arr,a6,o1,o2,o3,o4,o5⟩:=hR.obj _ _ _ _ _ r eA;obtain⟨_,_,_,_,_,b7,_⟩:=a0.obj _ _ _ _ _ a5 hA;obtain⟨_,_,_,_,kM,b8,_⟩:=a0.obj _ _ _ _ _ a1 hM;have hp:=zEE (ks:=kk) b7 (fun x hx=>kM x (p.subset hx)) (U3 p.symm b8) p;exact⟨arr,a6,o1,o2.perm hp,fun e he=>o3 e (hp.symm.subset he),U3 hp o4,o5⟩
        .exact hR.obj _ _ _ _ _ r (e0 C c0 o a)
       .rw[W,if_neg (fun e=>by subst e;exact hn _ _ _ a5)]
     .simp at h
    .simp at h
   .simp at h
  .simp at h
 .simp at h
def zL0:List Nat->Code->Code
 | [],c=>c
 | 0::p, .seq a _=>zL0 p a
 | _::p, .seq _ b=>zL0 p b
 | 0::p, .cond _ a _=>zL0 p a
 | _::p, .cond _ _ b=>zL0 p b
 | _::p, .block _ b=>zL0 p b
 | _::p, .loop b=>zL0 p b
 | _,c=>c
def zOm (a:Func)(p:List Nat):Code:=match a.body with
 | some b=>zL0 p b
 | none=> .skip
def zNN {α:Type} :List α->List α
 | []=>[]
 | [_]=>[]
 | a::l=>a::zNN l
def zNC {α:Type}(d:α):List α->α
 | []=>d
 | [a]=>a
 | _::l=>zNC d l
def op0:Oper:=⟨none, .alloc 0,0,"", #[],none⟩
def ml0:ML:=⟨0,0,0,[],op0,op0,op0,op0,[],0,0, .skip,0, .tmp 0,0,0,0,0⟩
def zFp:Op->TypeId×Operand
 | .range t x=>(t,x)
 | _=>(0, .tmp 0)
def mlOf:Code->ML
 | .seq (.region rA opsA _) (.block id (.loop (.seq (.region rB opsB _) (.seq (.cond (.tmp ok) .skip (.exit _)) (.block id2 (.seq (.region rC opsC _) body))))))=>
  match opsB.toList,opsC.toList with
  | [oN,oX],oE::rest=>
   let a:=zNC op0 opsA.toList
   ⟨rA,rB,rC,zNN opsA.toList,a,oN,oX,oE,rest,id,id2,body,(zFp a.op).1,(zFp a.op).2,a.dst.getD 0,oN.dst.getD 0,ok,oE.dst.getD 0⟩
  | _,_=>ml0
 | _=>ml0
def cR:Code->Hint->List (Code×List Nat×(List AV->AH->Option AH))
 | .seq a b, .t L m=>[(.seq a b,L,m)]
 | .seq a b, .s ha hb=>cR a ha++cR b hb
 | .cond _ a b, .c _ ha hb=>cR a ha++cR b hb
 | .cond _ a b, .cl ha hb=>cR a ha++cR b hb
 | .cond _ a b, .cr ha hb=>cR a ha++cR b hb
 | .block _ b, .b _ hb=>cR b hb
 | .block _ b, .b0 hb=>cR b hb
 | .loop b, .l _ hb=>cR b hb
 | _,_=>[]
def zBz:Hint->Bool
 | .o=>true
 | .s a b=>zBz a&&zBz b
 | .c _ a b=>zBz a&&zBz b
 | .cl a b=>zBz a&&zBz b
 | .cr a b=>zBz a&&zBz b
 | .b _ a=>zBz a
 | .b0 a=>zBz a
 | .l _ a=>zBz a
 | .rf _ _=>false
 | .t _ _=>true
theorem zLv (f0:FuncId)(nt:Nat): ∀(c:Code) (h:Hint),zBz h=true->(∀x∈cR c h,WH g nt f0 x.1 x.2.1 x.2.2)->kT g f0 nt c h:=by
 intro c
 induction c with
 | seq a b iha ihb=>
  intro h j i
  cases h<;>simp only[kT]
  .simp only[zBz,zF]at j;simp only[cR,qB]at i;exact⟨iha _ j.1 (fun x m=>i x (.inl m)),ihb _ j.2 (fun x m=>i x (.inr m))⟩
  .exact i (.seq a b,_,_) (by simp[cR])
 | cond c a b iha ihb=>
  intro h j i
  cases h<;>simp only[kT]<;>
   (simp only[zBz,zF]at j
    simp only[cR,qB]at i;exact⟨iha _ j.1 (fun x m=>i x (.inl m)),ihb _ j.2 (fun x m=>i x (.inr m))⟩)
 | block id b ih=>
  intro h j i
  cases h<;>simp only[kT]<;>first | exact ih _ j i | trivial
 | loop b ih=>
  intro h j i
  cases h<;>simp only[kT]
  exact ih _ j i
 | rangeFunc f ps a b _ _=>intro h j i;cases h<;>simp_all [kT,zBz]
 | _=>intro h j i;simp[kT]
def zCs (a:Func)(h:Hint):List (Code×List Nat×(List AV->AH->Option AH)):=match a.body with
 | some b=>cR b h
 | none=>[]
theorem zFa (i:zBz N=true)(j: ∀x∈zCs m N,WH PP m.ntmps q x.1 x.2.1 x.2.2): ∀body,m.body=some body->kT PP q m.ntmps body N:=by
 intro body hb;refine zLv _ _ _ _ i (fun x f=>j x ?_);unfold zCs;rw[hb];exact f
theorem zKO {X:Cx}(hX:Ok PP X){f0:ML}(o:f0.Fits H)(f: ∀L∈f0.it::l,L≠f0.nx/\L≠f0.ok/\L≠f0.en)(h: ∀L∈l,L≠f0.it){hb:Hint}(i:WO hb=true){kt vt:TypeId}(a:X.und f0.t=some (.map kt vt))
  (m: ∀vs nt H',j vs nt=some H'->Nonempty (f0.Plan ⟨X,[]⟩ WQ 0 H hb l vs nt H')):WH PP H q f0.code l j:=
 zE8 (B:=⟨X,[]⟩) (D:=WQ) hX (UI UR SOk.nil) o f h (U6 _ _ _ _ i) a m
theorem zFP (o:AObj)(h:A.h.get A.next=none): ∃t,T.set 40 A.h A.next o=some t/\ ∀K,U7 A o K=K A.next ⟨t,A.next+1⟩:=by
 obtain⟨t,a⟩:=qK.1 (T.set_some 40 A.h A.next o)
 exact⟨t,a,fun K=>by simp only[U7,h,a,kI]⟩
theorem zIK (h:ld1 (.ptr H p) A=some s): ∃l e sz g,A.h.get H=some (.cells l e sz g)/\nth l p=some s:=by
 unfold ld1 at h;simp only at h;split at h
 .rename_i l e sz g a;exact⟨l,e,sz,g,a,h⟩
 .simp at h
theorem zNB {l:List AV}{e:TypeId}{sz:Nat}{g:Bool}(a:A.h.get H=some (.cells l e sz g))(h:nth l p=some s):ld1 (.ptr H p) A=some s:=by
 simp only[ld1,a,h]
theorem zIP (hR:Rel E A t)(hr:E H p C f){sz:Nat}(R:A.h.get H=some (.cells h a sz W)){o M:Nat}(b:nth h o=some (.map M)): ∃p C f,E M p C f:=by
 obtain⟨_,_,_,l',_,_,_,_,hl,_⟩:=hR.obj _ _ _ _ _ hr R;rw[ZH]at b;obtain⟨v,_,i⟩:=VRL.get _ _ hl _ _ b;obtain⟨p,C,f,w,_⟩:=i;exact⟨p,C,f,w⟩
theorem zEF {ok:AV->Bool}(h:zKR l H ok (.map p) (.map C) A=some J):(∃ks es,A.h.get p=some (.map ks es))/\ ∃ks es,A.h.get C=some (.map ks es):=by
 unfold zKR at h;simp only at h;split at h
 .rename_i a;split at h
  .rename_i f;exact⟨⟨_,_,a⟩,_,_,f⟩
  .simp at h
 .simp at h
theorem zKQ {v:AV}{H:AH}(j:xP l s=true)(m:H.h.get p=some (.map l R)): ∃t,T.set 40 H.h p (.map l (ups R (s,v)))=some t/\upM l (.map p) s v H=some (jU,⟨t,H.next⟩):=by
 obtain⟨t,f⟩:=qK.1 (T.set_some 40 H.h p (.map l (ups R (s,v))));refine⟨t,f, ?_⟩;have A:YO l l=true:=by
  clear f m j
  induction l with
  | nil=>rfl
  | cons a ks ih=>simp[YO,ih]
 simp only[upM,j,m,A,zU];unfold ups at f;simp only at f
 cases o:BJ s v R with
 | some r=>rw[o]at f;simp only[fF,f]
 | none=>rw[o]at f;simp only[fF,f]
def isAg (n:Nat)(v:AV):Bool:=match v with
 | .agg l=>Nat.beq (aR l 0) n&&jV l
 | _=>false
theorem zG3 (h:isAg H s=true): ∃l,s= .agg l/\l.length=H/\jV l=true:=by
 unfold isAg at h;split at h
 .rename_i l;simp only[zF,zX,kG]at h;exact⟨l,rfl,h.1,h.2⟩
 .simp at h
theorem BS: ∀(l:List AV),takeN l.length l=some l
 | []=>rfl
 | a::l=>by simp[takeN,BS l]
theorem zFf {c:List AV}(l:c.length=h.length):setAt c 0 h=some h:=by
 have: ∀(c h:List AV),c.length=h.length->over c h=some h:=by
  intro c
  induction c with
  | nil=>intro h l;cases h with
   | nil=>rfl
   | cons=>simp at l
  | cons a c ih=>intro h l;cases h with
   | nil=>simp at l
   | cons b h=>simp only[zY,Nat.add_right_cancel_iff]at l;simp[over,ih h l]
 cases c with
 | nil=>cases h with
  | nil=>rfl
  | cons=>simp at l
 | cons a c=>simpa[setAt]using this (a::c) h l
theorem zL5 {n A:Nat}{H:AH}{cs:List AV}(f:H.h.get A=some (.cells h a p W))(hl:h.length=n)(i:cs.length=n)(j:jV cs=true)(m:Nat.blt 0 p=true): ∃t,T.set 40 H.h A (.cells cs a p W)=some t/\stN n (.ptr A 0) (.agg cs) H=some (jU,⟨t,H.next⟩):=by
 obtain⟨t,l⟩:=qK.1 (T.set_some 40 H.h A (.cells cs a p W));refine⟨t,l, ?_⟩;have hb:(cs.length.beq n)=true:=by rw[zX];exact i
 simp only[stN,f,kF,kG,hb,j,m,Bool.and_true,zU,zFf (show h.length=cs.length by omega),fF,l]
theorem zLC (f:A.h.get p=some (.cells h a C W))(i:h.length=H):ldN H (.ptr p 0) A=some (.agg h):=by
 subst i;have:uW h 0 h.length=some h:=by
  cases h with
  | nil=>rfl
  | cons n l=>simpa[uW]using BS (n::l)
 simp only[ldN,f,this]
end Go.Eng
end
section
namespace Go.Proofs
open Go.Shelf
def Tryz.laysInsert_ren:Go.Shelf.Ren:=⟨fun | 22=>138 | 29=>187 | 30=>188 | 36=>219 | 17=>229 | n=>n,fun | 24=>117 | 9=>9 | 3=>3 | 4=>4 | 0=>0 | n=>n,fun | n=>n⟩
theorem Tryz.laysInsert:Go.Proofs.Lays2.n22 Tryz.prog Tryz.laysInsert_ren:= {
 mixed:=by kernel_rfl
 f17:=Tryz.func229.trans (congrArg some (by kernel_rfl))
 f22:=Tryz.func138.trans (congrArg some (by kernel_rfl))
 f29:=Tryz.func187.trans (congrArg some (by kernel_rfl))
 f30:=Tryz.func188.trans (congrArg some (by kernel_rfl))
 f36:=Tryz.func219.trans (congrArg some (by kernel_rfl))
 t0:=Tryz.underlying0
 a0:=Tryz.isAgg0
 z0:=Tryz.sizeOf0
 v0:=Tryz.zeroValue0
 t3:=Tryz.underlying3
 a3:=Tryz.isAgg3
 z3:=Tryz.sizeOf3
 v3:=Tryz.zeroValue3
 t4:=Tryz.underlying4
 a4:=Tryz.isAgg4
 z4:=Tryz.sizeOf4
 v4:=Tryz.zeroValue4
 t9:=Tryz.underlying9
 a9:=Tryz.isAgg9
 z9:=Tryz.sizeOf9
 v9:=Tryz.zeroValue9
 t24:=Tryz.underlying117
 a24:=Tryz.isAgg117
 z24:=Tryz.sizeOf117
 v24:=Tryz.zeroValue117
 i9:=by kernel_rfl}
end Go.Proofs
end
section
namespace Go.Eng
open Go.Proofs
noncomputable def zMO (e:Nat)(vs:List AV)(H:AH):Option (AV×AH):=
 match vs with
 | [.slice A off len cc, .int .i64 (.ofNat i), .slice B o2 m _]=>
  match H.h.get A,H.h.get B with
  | some (.cells l e' sz g),some (.cells lB _ sB gB)=>
   bif g&&(!gB&&Nat.blt 0 sB)&&Nat.beq off 0&&Nat.beq cc 1&&Nat.beq sz 1&&Nat.beq e' e&&Nat.blt i len&&Nat.blt 0 m&&Nat.beq (aR l 0) len&&Nat.ble ((len+m)*16) 140737488355328&&jV l then
    match uW lB o2 m with
    | some new=>bif jV new then
      match fF H A .dead with
      | some H1=>cT (len+m) e 1 (l.take i++new++l.drop i) H1
      | none=>none
     else none
    | none=>none
   else none
  | _,_=>none
 | _=>none
theorem vM (b:Nat)(e:TypeId)(a:Nat×Nat): ∀(vs:List Value) (o:Nat) (w:World) (arr:Array Value),w.heap[b]? =some (.cells arr e a)->w.setCells b o vs=vX w b (.cells (xC arr o vs) e a)
 | [],o,w,arr,h=>by simp only[World.setCells,xC];exact(JC w b _ h).symm
 | v::vs,o,w,arr,h=>by
  have hb:b<w.heap.size:=(Array.getElem?_eq_some_iff.1 h).1;have m:w.setCell ⟨b,o,none⟩ v=vX w b (.cells (arr.setIfInBounds o v) e a):=by
   have p:w.heap[b]= .cells arr e a:=by
    have:=(Array.getElem?_eq_some_iff.1 h).2;exact this
   unfold World.setCell vX;congr 1;apply Array.ext
   .simp
   .intro j f q;simp only[Array.size_modify]at f;rw[Array.getElem_modify,Array.getElem_setIfInBounds]
    .by_cases i:b=j
     .subst i;simp[p]
     .simp[i]
    .exact f
  rw[World.setCells,m,vM b e a vs (o+1) _ (arr.setIfInBounds o v) (bC _ _ _ hb),Z6];rfl
theorem zDP (w:World)(o x:Obj):vX (w.alloc o) w.heap.size x=w.alloc x:=by
 unfold vX World.alloc;congr 1;apply Array.ext
 .simp
 .intro j f h;simp at f h;rw[Array.getElem_setIfInBounds]
  .by_cases a:w.heap.size=j
   .subst a;simp
   .have:j<w.heap.size:=by omega
    simp only[if_neg a];rw[Array.getElem_push,Array.getElem_push,dif_pos this,dif_pos this]
  .simp;omega
theorem XD (h:zNr c):c.oneCell'=true:=by cases c<;>simp_all [zNr,Value.oneCell']
theorem zNg {α:Type}{pre l a vs:List α}(hd:pre.length=H)(j:l.length=f)(hi:p<=f)(o:vs.length=C)(d:C<=a.length):
  ((pre++(l++a)).take (H+(p+C))++l.drop p++(pre++(l++a)).drop (H+(p+C)+(l.drop p).length)).take (H+p)++vs++((pre++(l++a)).take (H+(p+C))++l.drop p++(pre++(l++a)).drop (H+(p+C)+(l.drop p).length)).drop (H+p+vs.length)=pre++((l.take p++vs++l.drop p)++a.drop C):=by
 have q:((pre++(l++a)).take (H+(p+C))).length=H+p+C:=by simp;omega
 have i:((pre++(l++a)).take (H+(p+C))++l.drop p++(pre++(l++a)).drop (H+(p+C)+(l.drop p).length)).take (H+p)=pre++l.take p:=by
  rw[qH,List.take_append_of_le_length (by omega),List.take_take,Nat.min_eq_left (by omega),List.take_append,zZ (by omega),List.take_append,show H+p - pre.length=p from by omega,show p - l.length=0 from by omega];simp
 have h:((pre++(l++a)).take (H+(p+C))++l.drop p++(pre++(l++a)).drop (H+(p+C)+(l.drop p).length)).drop (H+p+vs.length)=l.drop p++a.drop C:=by
  rw[qH,jA (by omega)];congr 1;rw[qJ,List.drop_append,qS (by omega),List.drop_append,qS (by omega),show H+(p+C)+(l.length - p) - pre.length - l.length=C from by omega];simp
 rw[i,h];simp
theorem growL {α:Type}{a f h vs r:List α}(j:a.length=H)(t:f.length=p+C)(u:vs.length=p)(hr:r.length=C):
  ((a++f++h).take H++vs++(a++f++h).drop (H+vs.length)).take (H+p)++r++((a++f++h).take H++vs++(a++f++h).drop (H+vs.length)).drop (H+p+r.length)=(a++vs++r)++h:=by
 have o:(a++f++h).take H=a:=by rw[qH,jD j]
 have i:(a++f++h).drop (H+vs.length)=f.drop p++h:=by
  rw[qH,List.drop_append,qS (by omega),List.drop_append,show H+vs.length - a.length=p from by omega,show p - f.length=0 from by omega];simp
 rw[o,i];have q:(a++vs++(f.drop p++h)).take (H+p)=a++vs:=jD (by simp;omega);have s:(a++vs++(f.drop p++h)).drop (H+p+r.length)=h:=by
  rw[<-qH,jA (by simp;omega)]
 rw[q,s]
theorem zLH {R:Ren}{H H':AH}{w:World}{args:List AV}{az:List Value}{v:AV}(h:zMO (Tryz.laysInsert_ren.t 9) args H=some (v,H'))(o:VRL R args az)(hL:Rel R H w):
  H.next<=H'.next/\ ∃(z:Value) (Q:World) (S:Ren),Calls PP (Tryz.laysInsert_ren.f 22) ⟨az⟩ w (fun e w1=>e= .returned z/\w1=Q)/\VR S v z/\Rel S H' Q/\Ext R H w S H' Q:=by
 unfold zMO at h;split at h
 .rename_i A off len cc i B p m c2;split at h
  .rename_i l e' sz g lB eB f3 gB I J;rw[zG]at h;split at h
   .rename_i hc;simp only[zF,zX,qD,qT,j6]at hc;obtain⟨⟨⟨⟨⟨⟨⟨⟨⟨⟨rfl,rfl,d7⟩,rfl⟩,rfl⟩,rfl⟩,rfl⟩,hi⟩,hm⟩,d9⟩,c9⟩,e0⟩:=hc;rw[kG]at d9;split at h
    .rename_i new d0;rw[zG]at h;split at h
     .rename_i e2;split at h
      .rename_i H1 u;obtain⟨t1,s,rfl⟩: ∃t1,T.set 40 H.h A .dead=some t1/\H1=⟨t1,H.next⟩:=by
        unfold fF at u;split at u
        .rename_i t1 s;simp only[zC]at u;exact⟨t1,s,u.symm⟩
        .simp at u
       unfold cT at h;split at h
       .rename_i A2 H2 e3;obtain⟨t2,C,rfl,rfl,_⟩:=fH e3;simp only[kI,zC,zT]at h;obtain⟨rfl,rfl⟩:=h;refine⟨Nat.le_succ _, ?_⟩;obtain⟨v1,f4,rfl,e4,o⟩:=o;obtain⟨v2,f5,rfl,a9,o⟩:=o;obtain⟨v3,f6,rfl,e5,o⟩:=o;simp only[VRL]at o;subst o;obtain⟨b,d,c,hR,rfl⟩:=e4;simp only[VR]at a9;subst a9;obtain⟨b2,K,b0,b8,rfl⟩:=e5;obtain⟨arr,x,pre,l',W,y,U,a3,L,a5,a6,a7,sp,a8⟩:=hL.cellsAt I hR;obtain⟨d1,f7,d3,b9,f2,b1,e6,b3,b4,b5,b6,b7,_⟩:=hL.cellsAt J b8;obtain⟨rfl,f8⟩:=d8 _ _ _ _ d0;obtain⟨a6,d4⟩:=a6 rfl;obtain⟨rfl,d5⟩:=b5 rfl;obtain rfl:=d5.1 d7;have Y:uU 1 c=c:=by rw[xT c (by omega)];simp
        rw[Y];have e7:b2≠b:=fun e=>by
         subst e;have:=hL.inj _ _ _ _ _ _ _ hR b8 (Rel.live I) (Rel.live J);subst this;rw[I]at J;simp at J
        have f9:=zOE _ _ L;have g0:=zOE _ _ b4;have M:VRL R ((lB.drop p).take m) ((b9.drop p).take m):=(b4.drop p).take m;generalize Z:(b9.drop p).take m=vs' at M;have F:vs'.length=m:=by rw[<-Z];simp;omega
        have g1:arr.size=d+l'.length+W.length:=by
         have:=congrArg List.length U;simp at this;omega
        have a0: ∀j v,l'[j]? =some v->w.cell? ⟨b,d+0+j,none⟩=some v:=fun j v a=>by
         simp only[World.cell?,y];have c0:=(qP.1 a).1;rw[<-yX,U,jC (by omega),show d+0+j - pre.length=j from by omega,j5 c0];simpa using a
        have c1: ∀j v,vs'[j]? =some v->w.cell? ⟨b2,K+p+j,none⟩=some v:=fun j v a=>by
         simp only[World.cell?,b1];have c0:=(qP.1 a).1;rw[<-Z,List.getElem?_take,jL]at a;rw[<-yX,e6,jC (by omega),show K+p+j - d3.length=p+j from by omega,qW];split at a
         .simpa using a
         .simp at a
        have c3: ∀v∈l',v.oneCell'=true:=fun v o=>XD (bL L e0 v o)
        have c4: ∀v∈vs',v.oneCell'=true:=fun v o=>XD (bL M e2 v o)
        have V:VRL R (l.take i++(lB.drop p).take m++l.drop i) (l'.take i++vs'++l'.drop i):=((L.take i).append M).append (L.drop i);by_cases c8:len+m<=c
        .have q:=Any2.slices_Insert_string_shift Tryz.laysInsert b (d+0) len c i b2 (K+p) m (uU c2 b0) l' vs' w hi hm c8 (by omega) e7 (by omega) F a0
          (fun j a=>by
           simp only[World.cell?,y];simp;omega)
          (fun j a=>by
           have:=a7 (by decide) (d+0+j) (by omega);simp only[World.frozen?,y];simp only[Bool.and_eq_false_iff,yU];by_cases h0:x.1<=d+0+j
           .exact .inr fun h1=>this ⟨h0,h1⟩
           .exact .inl h0)
          c1 c3 c4 eB (Tryz.laysInsert_ren.t 9) d1.size arr.size (by simp only[World.shape?,b1]) (by simp only[World.shape?,y]) (by omega) (by simp only[World.frozen?,b1];simp) (by simp only[World.frozen?,b1];simp)
         have O:(w.drew).heap[b]? =some (.cells arr (Tryz.laysInsert_ren.t 9) x):=y;have N:b<w.heap.size:=(hL.lt _ _ _ _ hR).1;rw[vM b _ x _ _ _ _ O,vM b _ x _ _ _ _ (bC w.drew _ _ N),Z6]at q;refine⟨_,_,R.add H.next b d c,q,⟨b,d,c,R.add_self _ _ _ _,by simp[Y]⟩, ?_, ?_⟩
         .refine(hL.drew (w.drawn+1)).move hR (Rel.live I) s C ?_;refine⟨_,x,pre,l'.take i++vs'++l'.drop i,W.drop m,rfl, ?_,a3,VRL.mono (R.sub_add _ _ _ _) _ _ V,fun h=>by simp at h,fun _=>⟨?_,d4⟩,fun hz j a=> ?_,_,VRL.mono (R.sub_add _ _ _ _) _ _ (a8.drop m)⟩
          .rw[xG _ _ _ (by rw[u9];omega),xG _ _ _ (by simp;omega),U,Nat.add_zero];exact zNg a3 (by omega) (by omega) F (by omega)
          .simp;omega
          .rw[u9,u9]at a;exact a7 hz j a
         .exact(Ext.drew R H w (w.drawn+1)).trans (Ext.move (w:=w.drew) hR s C)
        .have q:=Any2.slices_Insert_string_grow Tryz.laysInsert b (d+0) len c i b2 (K+p) m (uU c2 b0) l' vs' w hi hm (by omega) (by omega) c9 (by omega) F a0 c1 c3 c4;generalize hG:grownCap w (len+m) c (Tryz.laysInsert_ren.t 9)=G at q;have g2:len+m<=G:=by rw[<-hG];simp only[grownCap,Question.cut];omega
         have e8:G<9223372036854775808:=by
          rw[<-hG];simp only[grownCap,Question.cut];have:=Nat.mod_lt (w.tape w.drawn (.appendCap (len+m) c (Tryz.laysInsert_ren.t 9))) (show 2 ^ 63 - (len+m)>0 by omega);omega
         generalize d6:((l'.take i).toArray++Builtin.zeroCells (Value.string ⟨#[]⟩).cells (len+m - i)++Builtin.zeroCells (Value.string ⟨#[]⟩).cells (G - (len+m)))=ROW at q;have c5:ROW.toList=l'.take i++(Builtin.zeroCells (Value.string ⟨#[]⟩).cells (len+m - i)).toList++(Builtin.zeroCells (Value.string ⟨#[]⟩).cells (G - (len+m))).toList:=by rw[<-d6];simp
         have c6:(Builtin.zeroCells (Value.string ⟨#[]⟩).cells (len+m - i)).toList.length=m+(len - i):=by
          rw[yZ,uA];simp[Value.cells];omega
         have c7:(Builtin.zeroCells (Value.string ⟨#[]⟩).cells (G - (len+m))).toList.length=G - (len+m):=by
          rw[yZ,uA];simp[Value.cells]
         have g3:ROW.size=G:=by
          have:=congrArg List.length c5;simp only[zV,c6,c7,qC,yZ]at this;omega
         have O:((w.alloc (.cells ROW (Tryz.laysInsert_ren.t 9))).drew).heap[w.heap.size]? =some (.cells ROW (Tryz.laysInsert_ren.t 9)):=bI w _;have N:w.heap.size< ((w.alloc (.cells ROW (Tryz.laysInsert_ren.t 9))).drew).heap.size:=by
          have:=kU w (.cells ROW (Tryz.laysInsert_ren.t 9));show w.heap.size< (w.alloc (.cells ROW (Tryz.laysInsert_ren.t 9))).heap.size;omega
         rw[vM _ _ (0,0) _ _ _ _ O]at q;have e9:((vX (w.alloc (.cells ROW (Tryz.laysInsert_ren.t 9))).drew w.heap.size (.cells (xC ROW i vs') (Tryz.laysInsert_ren.t 9))).drew).heap[w.heap.size]? =some (.cells (xC ROW i vs') (Tryz.laysInsert_ren.t 9)):=bC _ _ _ N;rw[vM _ _ (0,0) _ _ _ _ e9]at q;have f1:vX ((vX (w.alloc (.cells ROW (Tryz.laysInsert_ren.t 9))).drew w.heap.size (.cells (xC ROW i vs') (Tryz.laysInsert_ren.t 9))).drew) w.heap.size (.cells (xC (xC ROW i vs') (i+m) (l'.drop i)) (Tryz.laysInsert_ren.t 9))
           =(w.drew.drew).alloc (.cells (xC (xC ROW i vs') (i+m) (l'.drop i)) (Tryz.laysInsert_ren.t 9)):=by
          have e1:(vX (w.alloc (.cells ROW (Tryz.laysInsert_ren.t 9))).drew w.heap.size (.cells (xC ROW i vs') (Tryz.laysInsert_ren.t 9))).drew=vX ((w.drew.drew).alloc (.cells ROW (Tryz.laysInsert_ren.t 9))) w.heap.size (.cells (xC ROW i vs') (Tryz.laysInsert_ren.t 9)):=rfl;rw[e1,Z6];exact zDP (w.drew.drew) _ _
         rw[f1]at q;refine⟨_,_,R.add H.next w.heap.size 0 G,q,⟨w.heap.size,0,G,R.add_self _ _ _ _,by rw[xT G (by omega)];simp⟩, ?_, ?_⟩
         .have hk:Rel R ⟨t1,H.next⟩ w.drew.drew:=(hL.kill s).drew _
          refine hk.new C ?_;refine⟨_,(0,0),[],l'.take i++vs'++l'.drop i,(Builtin.zeroCells (Value.string ⟨#[]⟩).cells (G - (len+m))).toList,rfl, ?_,rfl,VRL.mono (R.sub_add _ _ _ _) _ _ V,fun h=>by simp at h,fun _=>⟨?_,e8⟩,fun _ j _=>by simp,_,hU (XF _ (.string ⟨#[]⟩) (.str 0 0) rfl) _⟩
          .rw[xG _ _ _ (by rw[u9];simp;omega),xG _ _ _ (by omega),c5,yE];exact growL (by simp;omega) c6 F (by simp;omega)
          .rw[c7];simp;omega
         .exact(Ext.kill hR s).trans ((Ext.drew R ⟨t1,H.next⟩ w (w.drawn+2)).trans (Ext.add (w:=w.drew.drew) C))
       .simp at h
      .simp at h
     .simp at h
    .simp at h
   .simp at h
  .simp at h
 .simp at h
noncomputable def zLJ (m:List AV->AH->Option (AV×AH))(vs:List AV)(H:AH):Option (AV×AH):=match m vs H with
 | some r=>some r
 | none=>zMO (Tryz.laysInsert_ren.t 9) vs H
theorem zLI (p:q= Tryz.laysInsert_ren.f 22)(hm:FI q i):FI q (zLJ i):=by
 intro f H v H' h;unfold zLJ at h;split at h
 .rename_i r hr;injection h with h;subst h
  exact hm f H v H' hr
 .have m:H.next<=H'.next:=by
   unfold zMO at h;split at h
   .split at h
    .rw[zG]at h;split at h
     .split at h
      .rw[zG]at h;split at h
       .split at h
        .rename_i s a;have M:=xJ a;unfold cT at h;split at h
         .rename_i N O j;obtain⟨t2,L,rfl,rfl,_⟩:=fH j;simp only[kI,zC,zT]at h;rw[<-h.2];show H.next<=s.next+1
          omega
         .simp at h
        .simp at h
       .simp at h
      .simp at h
     .simp at h
    .simp at h
   .simp at h
  subst p;refine⟨m,⟨_, Tryz.laysInsert.f22,rfl⟩,fun R Q cs w t hL=> ?_⟩;obtain⟨_,z,S,u,x,y,C,F⟩:=zLH h t hL;obtain⟨e,G,o,⟨rfl,rfl⟩,I,J,K⟩:=x cs;exact⟨u,G,z,o,I,J,K,y,C,F⟩
noncomputable def clnK (m:List AV->AH->Option (AV×AH))(vs:List AV)(H:AH):Option (AV×AH):=match vs with
 | [.map M]=>match H.h.get M with
  | some (.map ks es)=>match T.get H.h H.next with
   | none=>match T.set 40 H.h H.next (.map ks es)with
    | some t=>fN (Nat.succ H.next) fun k=>some (.map H.next,⟨t,k⟩)
    | none=>none
   | some _=>none
  | _=>none
 | vs=>m vs H
theorem zMq (f: ∃m,PP.funcs[q]? =some m/\m.body.isSome=true)
  (s: ∀(b:Nat) (es:Array MapEntry) (a:Nat) (w:World),w.heap[b]? =some (.map es a)->Calls PP q #[.map (some b)] w fun e u=>e= .returned (.map (some w.heap.size))/\u=w.alloc (.map es a))
  (hm:FI q i):FI q (clnK i):=by
 intro Q H v H' h;unfold clnK at h;split at h
 .rename_i M;split at h
  .rename_i ks es x;split at h
   .split at h
    .rename_i t j;rw[kI]at h;simp only[zC,zT]at h;obtain⟨rfl,rfl⟩:=h;refine⟨Nat.le_succ _,f,fun R S cs w y hL=> ?_⟩;obtain⟨z,O,rfl,C,o⟩:=y;simp only[VRL]at o;subst o;obtain⟨b,d,c,hR,rfl⟩:=C;obtain⟨arr,a,hb,F,G,I,J⟩:=hL.mapAt x hR;obtain⟨e,T,p,⟨rfl,rfl⟩,K,L,N⟩:=s b arr a w hb cs;refine⟨R.add H.next w.heap.size 0 0,_,_,p,K,L,N,⟨w.heap.size,0,0,R.add_self _ _ _ _,rfl⟩, ?_, ?_⟩
     .exact hL.new j ⟨arr,a,rfl,F.mono (R.sub_add _ _ _ _),G,I,J⟩
     .exact Ext.add j
    .simp at h
   .simp at h
  .simp at h
 .exact hm _ _ _ _ h
def cellAV (N:Nat):Value->AV
 | .bool b=> .bool b
 | .int k n=> .int k n
 | .string s=> .str s.size (pack s.data.toList)
 | .slice none 0 0=> .nS
 | .slice (some ⟨b,o,none⟩) len cap=>bif Nat.blt b N then .slice b o len (2*cap)else .val (.slice (some ⟨b,o,none⟩) len cap)
 | v=> .val v
def cB (N:Nat):Value->AV
 | .slice (some _) 0 0=> .eS
 | v=>cellAV N v
def argAV (N:Nat):Value->AV
 | .agg a=> .agg (a.toList.map (cB N))
 | v=>cB N v
def cOf:Option Obj->Nat
 | some (.cells _ _ fz)=>enc fz
 | _=>0
def RId (w:World):Ren:=fun A b d c=>A=b/\b<w.heap.size/\d=0/\c=cOf w.heap[b]?
theorem zBf (w:World)(v:Value):VR (RId w) (cellAV w.heap.size v) v:=by
 unfold cellAV;split
 .rfl
 .rfl
 .exact⟨_,rfl,rfl,rfl⟩
 .rfl
 .rename_i b o len cap;rw[zG];split
  .rename_i h;exact⟨b,0,_,⟨rfl,by simpa using h,rfl,rfl⟩,by simp[uU,jE]⟩
  .rfl
 .rfl
theorem VA (w:World): ∀l:List Value,VRL (RId w) (l.map (cellAV w.heap.size)) l
 | []=>rfl
 | v::l=>⟨v,l,rfl,zBf w v,VA w l⟩
theorem VD (w:World)(v:Value):VR (RId w) (cB w.heap.size v) v:=by
 unfold cB;split
 .exact⟨_,_,rfl⟩
 .exact zBf w _
theorem W9 (w:World): ∀l:List Value,VRL (RId w) (l.map (cB w.heap.size)) l
 | []=>rfl
 | v::l=>⟨v,l,rfl,VD w v,W9 w l⟩
theorem zJx (w:World)(v:Value):VR (RId w) (argAV w.heap.size v) v:=by
 unfold argAV;split
 .rename_i a;exact⟨a.toList,by simp,W9 w a.toList⟩
 .exact VD w _
theorem zBo (w:World): ∀l:List Value,VRL (RId w) (l.map (argAV w.heap.size)) l
 | []=>rfl
 | v::l=>⟨v,l,rfl,zJx w v,zBo w l⟩
theorem zCd (j:Sub (RId t) E)(m: ∀A b d w a d' c',E A b d w->E A a d' c'->b=a/\d=d'/\w=c'){f:Value}(h:VR E (cellAV t.heap.size c) f):f=c:=by
 unfold cellAV at h;split at h
 .exact h
 .exact h
 .rename_i s;obtain⟨i,rfl,p,q⟩:=h;have:i.data.toList=s.data.toList:=ZG _ _ (by rw[size_data,size_data,p]) q;congr 1
  cases s;cases i;simp only at this;congr 1
  exact Array.toList_inj.1 this
 .exact h
 .rename_i b o len cap;rw[zG]at h;split at h
  .rename_i hb;obtain⟨a,d,w,hr,rfl⟩:=h;obtain⟨rfl,rfl,rfl⟩:=m _ _ _ _ _ _ _ hr (j b b 0 _ ⟨rfl,by simpa using hb,rfl,rfl⟩);simp[uU,jE]
  .exact h
 .exact h
theorem YH {w:World}{R:Ren}(a:Sub (RId w) R)(f: ∀A b d c i d' c',R A b d c->R A i d' c'->b=i/\d=d'/\c=c'): ∀ {l l':List Value},VRL R (l.map (cellAV w.heap.size)) l'->l'=l
 | [],_,h=>h
 | v::l,_,h=>by
  obtain⟨o,l',rfl,j,m⟩:=h;rw[zCd a f j,YH a f m]
def zIB (N:Nat):Obj->AObj
 | .cells arr e _=> .cells (arr.toList.map (cellAV N)) e 0 false
 | x=> .raw x
theorem K2 {α:Type} : ∀(xs:List α) (i:Nat) (t:T α),(T.ofList i xs t).isSome=true
 | [],_,_=>rfl
 | x::xs,i,t=>by
  obtain⟨f,a⟩:=qK.1 (T.set_some 40 t i x);simp only[T.ofList,a];exact K2 xs _ _
noncomputable def H0 (w:World):AH:=⟨(T.ofList 0 (w.heap.toList.map (zIB w.heap.size)) .leaf).getD .leaf,w.heap.size⟩
theorem zDM (w:World)(A:Nat):(H0 w).h.get A=w.heap[A]?.map (zIB w.heap.size):=by
 obtain⟨t,a⟩:=qK.1 (K2 (w.heap.toList.map (zIB w.heap.size)) 0 .leaf);simp only[H0,a,yB];rw[T.get_ofList _ _ _ _ a];simp only[Nat.zero_le,true_and,j7,jH,yZ,jF];split
 .simp
 .rename_i h;rw[T.get_leaf,Array.getElem?_eq_none (by omega)];rfl
theorem H0_ok (w:World): ∀A,(H0 w).next<=A->(H0 w).h.get A=none:=fun A h=>by
 rw[zDM,Array.getElem?_eq_none (by exact h)];rfl
theorem zJO (w:World){b:Nat×Nat}(h:w.heap[H]? =some (.cells G a b)):(H0 w).h.get H=some (.cells (G.toList.map (cellAV w.heap.size)) a 0 false):=by
 rw[zDM,h];rfl
theorem zOz (w:World):Rel (RId w) (H0 w) w:=by
 refine⟨?_, ?_, ?_, ?_⟩
 .rintro A b d c j d' c' ⟨rfl,_,rfl,rfl⟩ ⟨rfl,_,rfl,rfl⟩;exact⟨rfl,rfl,rfl⟩
 .rintro A m b d c d' c' ⟨rfl,_,rfl,rfl⟩ ⟨rfl,_,rfl,rfl⟩ _ _;rfl
 .rintro A b d c o ⟨rfl,_,rfl,rfl⟩ a
  rw[zDM]at a;obtain⟨x,f,rfl⟩:=Option.map_eq_some_iff.1 a;rw[f];unfold zIB;split
  .rename_i arr e i;exact⟨arr,i,[],arr.toList,[],rfl,by simp,rfl,VA _ _,fun _=>⟨rfl,fun h=>absurd h (Nat.lt_irrefl 0),fun _=>rfl⟩,fun h=>by simp at h,fun h=>absurd h (Nat.lt_irrefl 0),[],rfl⟩
  .rfl
 .rintro A b d c ⟨rfl,h,rfl,rfl⟩;exact⟨h,h⟩
theorem calls_param (hm:FI q i)(w:World){args:Array Value}{H':AH}
  (h:i (args.toList.map (argAV w.heap.size)) (H0 w)=some (.bool true,H')) (v: ∀A,A<w.heap.size->H'.h.get A=(H0 w).h.get A):
  Calls PP q args w fun e o=>e= .returned (.bool true)/\RowKit.Below w.heap.size w o:=by
 intro cs;obtain⟨_,_,y⟩:=hm _ _ _ _ h;obtain⟨L,o,z,t,C,F,G,p,h5,a⟩:=y (RId w) args.toList cs w (zBo _ _) (zOz w);simp only[VR]at p;subst p;refine⟨.returned (.bool true),o,t,⟨rfl, ?_⟩,C,F,G⟩;refine⟨a.os,a.tape,a.output,a.size,fun k j=> ?_⟩;have hr:=a.sub k k 0 _ ⟨rfl,j,rfl,rfl⟩;have f:w.heap[k]? =some w.heap[k]:=Array.getElem?_eq_getElem j;have s:=v k j;rw[zDM,f]at s;have m:=h5.obj _ _ _ _ _ hr s;rw[f]at m⊢;generalize w.heap[k]=x at m
 cases x with
 | cells arr e fz=>
  obtain⟨arr',u,pre,l',K,k1,k2,k3,k4,k5,_⟩:=m;obtain⟨rfl,_,k6⟩:=k5 rfl;have hl:=YH a.sub h5.fn k4;have hp:pre=[]:=zR k3;subst hp;subst hl;have I:arr'=arr:=Array.toList_inj.1 (by simpa using k2);have J:u=fz:=(zMf (k6 rfl)).symm;rw[k1,I,J]
 | _=>exact m
noncomputable def cloK (m:List AV->AH->Option (AV×AH))(vs:List AV)(H:AH):Option (AV×AH):=match vs with
 | []=>some (.bool true,H)
 | vs=>m vs H
theorem Rel.below {a:World}(h:Rel E A t)(hb:RowKit.Below t.heap.size t a):Rel E A a:=
 ⟨h.fn,h.inj,fun R b d c o r f=>by rw[hb.block b (h.lt _ _ _ _ r).1];exact h.obj R b d c o r f,fun R b d c r=>⟨qI (h.lt _ _ _ _ r).1 hb.size,(h.lt _ _ _ _ r).2⟩⟩
theorem zMp (p: ∃a,PP.funcs[q]? =some a/\a.body.isSome=true)
  (f: ∀w:World,Calls PP q #[] w fun e s=>e= .returned (.bool true)/\RowKit.Below w.heap.size w s) (hm:FI q i):FI q (cloK i):=by
 intro z H v H' h;unfold cloK at h;split at h
 .simp only[zC,zT]at h;obtain⟨rfl,rfl⟩:=h;refine⟨zP _,p,fun R C cs w m hL=> ?_⟩;simp only[VRL]at m;subst m;obtain⟨e,t,j,⟨rfl,hb⟩,u,x,y⟩:=f w cs;refine⟨R,t, .bool true,j,u,x,y,rfl,hL.below hb, ?_⟩;exact⟨zOH R,fun _ _ _ _ h=> .inl h,fun _ _ _ _ h=> .inl h,zP _,fun _ _ _=>rfl,hb.os,hb.tape,hb.output,hb.size,fun b o _=>hb.block b o⟩
 .exact hm _ _ _ _ h
def Fin (x:Rs)(Q:Ex->AH->Prop):Prop:= ∃e H,x=some (e,H)/\Q e H
def Ret (x:Option (AV×AH))(Q:AV->AH->Prop):Prop:= ∃v H,x=some (v,H)/\Q v H
theorem Fin.pure {e:Ex}{Q:Ex->AH->Prop}(h:Q e A):Fin (some (e,A)) Q:=⟨e,A,rfl,h⟩
theorem Ret.pure {Q:AV->AH->Prop}(h:Q s A):Ret (some (s,A)) Q:=⟨s,A,rfl,h⟩
theorem Fin.mono {x:Rs}{Q a:Ex->AH->Prop}(h:Fin x Q)(k: ∀e H,Q e H->a e H):Fin x a:=by
 obtain⟨e,H,f,i⟩:=h;exact⟨e,H,f,k _ _ i⟩
theorem Ret.mono {x:Option (AV×AH)}{Q a:AV->AH->Prop}(h:Ret x Q)(k: ∀v H,Q v H->a v H):Ret x a:=by
 obtain⟨e,H,f,i⟩:=h;exact⟨e,H,f,k _ _ i⟩
def orN (P:List AV->AH->Prop)(Q:Ex->AH->Prop):Ex->AH->Prop
 | .norm vs,H=>P vs H
 | .exit i vs,H=>Q (.exit i vs) H
 | .ret v,H=>Q (.ret v) H
theorem Fin.jn {x:Rs}{P:List AV->AH->Prop}{K:List AV->AH->Rs}{Q:Ex->AH->Prop}(a:Fin x (orN P Q))(h: ∀vs H,P vs H->Fin (K vs H) Q):Fin (jn x K) Q:=by
 obtain⟨e,H,rfl,hp⟩:=a
 cases e with
 | norm vs=>exact h vs H hp
 | exit i vs=>exact⟨_,_,rfl,hp⟩
 | ret v=>exact⟨_,_,rfl,hp⟩
theorem Fin.loop {Q:Ex->AH->Prop}(b:Nat->List AV->AH->Prop)
  (step: ∀k vs H,b k vs H->Fin (I vs H) (orN (fun vs' H'=> ∃k',k'<k/\b k' vs' H') Q)):
  ∀(n k:Nat) (vs:List AV) (H:AH),b k vs H->k<n->Fin (kL n I vs H) Q:=by
 intro n
 induction n with
 | zero=>intro k vs H _ h;omega
 | succ n ih=>
  intro k vs H f j;refine Fin.jn (step k vs H f) ?_
  rintro vs' H' ⟨k',i,a⟩
  exact ih k' vs' H' a (by omega)
theorem zCc (b:Bool)(x y:Rs):cnd (.bool b) x y=if b then x else y:=by cases b<;>rfl
theorem zN3 (b a:Bool)(x y:Rs):wnt (.bool b) a x y=if b=a then x else y:=by cases b<;>cases a<;>rfl
theorem bVs (v:AV)(K:AV->Rs):bV (some v) K=K v:=rfl
theorem bRs (v:AV)(H:AH)(K:AV->AH->Rs):bR (some (v,H)) K=K v H:=rfl
theorem gH (v:AV)(vs:List AV)(K:AV->List AV->Rs):hd (v::vs) K=K v vs:=rfl
theorem zCQ (K:Rs):nl [] K=K:=rfl
theorem QT (vs:List AV)(H:AH)(K:List AV->AH->Rs):jn (some (.norm vs,H)) K=K vs H:=rfl
theorem zNF (v:AV)(H:AH)(K:List AV->AH->Rs):jn (some (.ret v,H)) K=some (.ret v,H):=rfl
theorem zLE (i:Nat)(vs:List AV)(H:AH)(K:List AV->AH->Rs):jn (some (.exit i vs,H)) K=some (.exit i vs,H):=rfl
theorem zLF (id:Nat)(vs:List AV)(H:AH)(K:List AV->AH->Rs):jb id (some (.norm vs,H)) K=K vs H:=rfl
theorem zNK (id:Nat)(v:AV)(H:AH)(K:List AV->AH->Rs):jb id (some (.ret v,H)) K=some (.ret v,H):=rfl
theorem zCJ (v:AV)(H:AH):fG (some (.ret v,H))=some (v,H):=rfl
theorem zNI (c:Prop)[Decidable c](x y:Rs)(K:List AV->AH->Rs):jn (if c then x else y) K=if c then jn x K else jn y K:=by split<;>rfl
theorem zIx (c:Prop)[Decidable c](x y:Rs):fG (if c then x else y)=if c then fG x else fG y:=by split<;>rfl
theorem zNn (b:Bool)(x y:Option AV):pk3 (some (.bool b)) x y=if b then x else y:=by cases b<;>rfl
def AH.ok (H:AH):Prop:= ∀A,H.next<=A->H.h.get A=none
noncomputable def AH.push (H:AH)(o:AObj):AH:=⟨(T.set 40 H.h H.next o).getD .leaf,H.next+1⟩
noncomputable def AH.put (H:AH)(A:Nat)(o:AObj):AH:=⟨(T.set 40 H.h A o).getD .leaf,H.next⟩
theorem AH.push_next (H:AH)(o:AObj):(H.push o).next=H.next+1:=rfl
def zOC:=@AH.push_next
theorem AH.put_next (H:AH)(A:Nat)(o:AObj):(H.put A o).next=H.next:=rfl
def zOD:=@AH.put_next
theorem AH.push_get (H:AH)(o:AObj)(A:Nat):(H.push o).h.get A=if A=H.next then some o else H.h.get A:=by
 obtain⟨t,a⟩:=qK.1 (T.set_some 40 H.h H.next o)
 simp only[AH.push,a,yB];exact T.get_set _ _ _ _ _ a A
theorem AH.put_get (H:AH)(B:Nat)(o:AObj)(A:Nat):(H.put B o).h.get A=if A=B then some o else H.h.get A:=by
 obtain⟨t,a⟩:=qK.1 (T.set_some 40 H.h B o);simp only[AH.put,a,yB];exact T.get_set _ _ _ _ _ a A
def zOF:=@AH.put_get
theorem AH.push_get_eq (H:AH)(o:AObj):(H.push o).h.get H.next=some o:=by rw[AH.push_get,if_pos rfl]
def zOB:=@AH.push_get_eq
theorem AH.push_get_ne (A:AH)(o:AObj)(h:H<A.next):(A.push o).h.get H=A.h.get H:=by rw[AH.push_get,if_neg (by omega)]
theorem AH.ok.push {H:AH}(h:H.ok)(o:AObj):(H.push o).ok:=fun A a=>by
 rw[zOC]at a;rw[AH.push_get,if_neg (by omega)];exact h A (by omega)
theorem AH.ok.put {H:AH}(h:H.ok){A:Nat}(f:A<H.next)(o:AObj):(H.put A o).ok:=fun B a=>by
 rw[zOD]at a;rw[zOF,if_neg (by omega)];exact h B a
theorem AH.ok.lt (h:A.ok){o:AObj}(f:A.h.get H=some o):H<A.next:=by
 rcases Nat.lt_or_ge H A.next with a | a
 .exact a
 .rw[h H a]at f;cases f
theorem zFO (h:A.ok)(o:AObj)(K:Nat->AH->Rs):U7 A o K=K A.next (A.push o):=by
 unfold U7;rw[h A.next (zP _)]
 obtain⟨t,a⟩:=qK.1 (T.set_some 40 A.h A.next o)
 simp only[a,kI,AH.push,yB]
theorem wR (H:AH)(A:Nat)(o:AObj):fF H A o=some (H.put A o):=by
 unfold fF;obtain⟨t,a⟩:=qK.1 (T.set_some 40 H.h A o);simp only[a,AH.put,yB]
theorem aN (h:A.ok)(o:AObj):newA A o=some (A.next,A.push o):=by
 unfold newA zID;rw[h A.next (zP _)]
 obtain⟨t,a⟩:=qK.1 (T.set_some 40 A.h A.next o)
 simp only[a,AH.push,yB]
theorem kV (h:A.ok)(o:AObj)(a:Nat->AV)(K:AV->AH->Rs):bA (some (o,a)) A K=K (a A.next) (A.push o):=by
 simp only[bA,zFO h]
structure Stp (S:Nat->Prop)(H H':AH):Prop where
 ok:H'.ok
 next:H.next<=H'.next
 keep: ∀A,A<H.next-> ¬S A->H'.h.get A=H.h.get A
abbrev Prs (H H':AH):Prop:=Stp (fun _=>False) H H'
theorem Stp.refl {S:Nat->Prop}{H:AH}(h:H.ok):Stp S H H:=⟨h,zP _,fun _ _ _=>rfl⟩
def zOJ:=@Stp.refl
theorem Stp.trans {f:AH}(h:Stp M A J)(k:Stp M J f):Stp M A f:=
 ⟨k.ok,qR h.next k.next,fun S i j=>by rw[k.keep S (qI i h.next) j,h.keep S i j]⟩
theorem Stp.mono {a:Nat->Prop}(h:Stp M A J)(k: ∀S,S<A.next->M S->a S):Stp a A J:=
 ⟨h.ok,h.next,fun S i j=>h.keep S i (fun x=>j (k S i x))⟩
theorem Stp.fresh {f:AH}(a:Prs A J)(h:Stp M J f)(k: ∀S,M S->A.next<=S):Prs A f:=
 ⟨h.ok,qR a.next h.next,fun S i _=>by
  rw[h.keep S (qI i a.next) (fun x=>by have:=k S x;omega),a.keep S i (fun x=>x)]⟩
theorem Stp.push {S:Nat->Prop}{H0 H:AH}(h:Stp S H0 H)(o:AObj):Stp S H0 (H.push o):=
 ⟨h.ok.push o,by rw[zOC];have:=h.next;omega,fun A a f=>by
  rw[AH.push_get_ne _ _ (qI a h.next)];exact h.keep A a f⟩
theorem Stp.put {S:Nat->Prop}{H0 H:AH}(h:Stp S H0 H){A:Nat}(i:A<H.next)(o:AObj)(j:H0.next<=A\/S A):Stp S H0 (H.put A o):=
 ⟨h.ok.put i o,h.next,fun B m a=>by
  rw[zOF,if_neg (fun e=>by subst e;rcases j with f | f;omega;exact a f)];exact h.keep B m a⟩
theorem Prs.get {H H':AH}(h:Prs H H'){A:Nat}{o:AObj}(f:H.ok)(a:H.h.get A=some o):H'.h.get A=some o:=by
 rw[h.keep A (f.lt a) (fun x=>x)];exact a
def zOM:=@Prs.get
theorem Prs.stp (h:Prs A J):Stp M A J:=h.mono (fun _ _ x=>x.elim)
theorem wrap_i64 {z:Int}(a: -9223372036854775808<=z)(f:z<=9223372036854775807):IntKind.wrap .i64 z=z:=by
 apply uP<;>simp[IntKind.signed,IntKind.min,IntKind.max,IntKind.bits]<;>omega
theorem wrap_u8 (z:Int):IntKind.wrap .u8 z=z % 256:=by simp[IntKind.wrap,IntKind.signed,IntKind.bits]
theorem wrap_u64 (z:Int):IntKind.wrap .u64 z=z % 18446744073709551616:=by simp[IntKind.wrap,IntKind.signed,IntKind.bits]
theorem Q4 (k:IntKind)(a b:Int):kO .add (.int k a) (.int k b)=some (.int k (k.wrap (a+b))):=by simp[kO,bO,xQ,vZ]
theorem zJr (k:IntKind)(a b:Int):kO .sub (.int k a) (.int k b)=some (.int k (k.wrap (a - b))):=by simp[kO,bO,xQ,vZ]
theorem zDA (k:IntKind)(a b:Int):kO .mul (.int k a) (.int k b)=some (.int k (k.wrap (a*b))):=by simp[kO,bO,xQ,vZ]
theorem zJs (k:IntKind)(a b:Int)(h:b≠0):kO .quo (.int k a) (.int k b)=some (.int k (k.wrap (a.tdiv b))):=by
 have:(b==0)=false:=by simpa using h
 simp[kO,bO,xQ,vZ,xS,this]
theorem UY (k:IntKind)(a b:Int)(h:b≠0):kO .rem (.int k a) (.int k b)=some (.int k (a.tmod b)):=by
 have:(b==0)=false:=by simpa using h
 simp[kO,bO,xQ,zC6,xS,this]
theorem zJt (k:IntKind)(a b:Int):kO .eql (.int k a) (.int k b)=some (.bool (decide (a=b))):=by
 have h:keq k k=true:=by rw[xQ];simp
 simp only[kO,bO,h,zU,wC,xS,uL,zC,AV.bool.injEq];rw[yL];simp
theorem UZ (k:IntKind)(a b:Int):kO .neq (.int k a) (.int k b)=some (.bool (decide (a≠b))):=by
 have h:keq k k=true:=by rw[xQ];simp
 simp only[kO,bO,h,zU,wC,xS,uL,zC,AV.bool.injEq];rw[yL];simp
theorem Q3 (k:IntKind)(a b:Int):kO .lss (.int k a) (.int k b)=some (.bool (decide (a<b))):=by
 have h:keq k k=true:=by rw[xQ];simp
 simp only[kO,bO,h,zU,wC,xS,uL,zC,AV.bool.injEq]
theorem zDB (k:IntKind)(a b:Int):kO .leq (.int k a) (.int k b)=some (.bool (decide (a<=b))):=by
 have h:keq k k=true:=by rw[xQ];simp
 simp only[kO,bO,h,zU,wC,xS,uL,zC,AV.bool.injEq];rw[yL];simp
theorem B0 (k:IntKind)(a b:Int):kO .gtr (.int k a) (.int k b)=some (.bool (decide (b<a))):=by
 have h:keq k k=true:=by rw[xQ];simp
 simp only[kO,bO,h,zU,wC,xS,uL,zC,AV.bool.injEq]
theorem zDC (k:IntKind)(a b:Int):kO .geq (.int k a) (.int k b)=some (.bool (decide (b<=a))):=by
 have h:keq k k=true:=by rw[xQ];simp
 simp only[kO,bO,h,zU,wC,xS,uL,zC,AV.bool.injEq];rw[yL];simp
theorem QX (k k':IntKind)(z:Int):cvI k (.int k' z)=some (.int k (k.wrap z)):=by simp[cvI,vZ]
theorem kQ (k:IntKind){z:Int}(h:0<=z):aO (.int k z)=some z.toNat:=by
 cases z with
 | ofNat n=>rfl
 | negSucc n=>omega
theorem zHu (a b:Bool):YP .eql (.bool a) (.bool b)=some (.bool (a==b)):=by simp only[YP,wC]
theorem zHt (a b:Bool):YP .neq (.bool a) (.bool b)=some (.bool (!(a==b))):=by simp only[YP,wC]
theorem zMv (b:Bool):aun .not (.bool b)=some (.bool !b):=by simp[aun,wC]
abbrev Str:=List UInt8
def S (l:Str):AV:= .str l.length (pack l)
theorem YK (l:Str):isCell (S l)=true:=rfl
def ltS (l m:Str):Bool:=Op.bytesLess l m
theorem QP (l:Str):KA (S l)=some (.int .i64 (l.length:Nat)):=rfl
theorem S_eq (l m:Str):(Nat.beq l.length m.length&&Nat.beq (pack l) (pack m))=decide (l=m):=by
 rw[yL];simp only[zF,zX,zQ];exact⟨fun h=>ZG l m h.1 h.2,fun h=>by subst h;exact⟨rfl,rfl⟩⟩
theorem zDx (l m:Str):J6 .eql (S l) (S m)=some (.bool (decide (l=m))):=by simp only[J6,S,zBu,wC,S_eq]
theorem zDw (l m:Str):J6 .neq (S l) (S m)=some (.bool (decide (l≠m))):=by simp only[J6,S,zBu,wC,S_eq];simp
theorem UX (l m:Str):J6 .lss (S l) (S m)=some (.bool (ltS l m)):=by simp only[J6,S,zBu,wC,YT,ltS]
theorem zJq (l m:Str):J6 .geq (S l) (S m)=some (.bool (!ltS l m)):=by simp only[J6,S,zBu,wC,YT,ltS]
theorem UF (l:Str)(k:IntKind){z:Int}(f:0<=z)(a:z.toNat<l.length):KD (S l) (.int k z)=some (.int .u8 (l[z.toNat].toNat:Nat)):=by
 have hb:Nat.blt z.toNat l.length=true:=by rw[qD];exact a
 simp only[KD,kQ k f,S,hb,zU,kI];rw[zCI l _ a,show(256:Nat) ^ z.toNat=2 ^ (8*z.toNat)from by rw[show(256:Nat)=2 ^ 8 from rfl,<-Nat.pow_mul]];rfl
theorem zK0 (n:Nat):(2:Nat) ^ (8*n)=256 ^ n:=by rw[show(256:Nat)=2 ^ 8 from rfl,<-Nat.pow_mul]
theorem zHG (l:Str)(lo hi:Option Nat)(a:hi.getD l.length<=l.length)(f:lo.getD 0<=hi.getD l.length):zHH l.length (pack l) lo hi=some (S ((l.drop (lo.getD 0)).take (hi.getD l.length - lo.getD 0))):=by
 have h:Nat.ble (hi.getD l.length) l.length=true:=by rw[qT];exact a
 have i:Nat.ble (lo.getD 0) (hi.getD l.length)=true:=by rw[qT];exact f
 simp only[zHH,h,i,qO,zU,zAq,S,zK0,<-JY,<-zAi];rw[qC,qJ,Nat.min_eq_left (by omega)]
theorem zIh (l:Str)(k:IntKind){z:Int}(a:0<=z)(f:z.toNat<=l.length):WL (S l) (some (.int k z)) none=some (S (l.drop z.toNat)):=by
 have:=zHG l (some z.toNat) none (zP _) f;simp only[WL,kX,kQ k a,S];rw[this];simp only[yB,Option.getD_none,S];rw[zZ (by simp)]
theorem zIi (l:Str)(k:IntKind){z:Int}(a:0<=z)(f:z.toNat<=l.length):WL (S l) none (some (.int k z))=some (S (l.take z.toNat)):=by
 have:=zHG l none (some z.toNat) f (Nat.zero_le _);simp only[WL,kX,kQ k a,S];rw[this];simp[S]
theorem vI: ∀l:Str,ltS l l=false
 | []=>rfl
 | b::l=>by
  have:=vI l;simp only[ltS,Op.bytesLess]at this⊢;simp[this]
theorem xA: ∀ {a b c:Str},ltS a b=true->ltS b c=true->ltS a c=true
 | [],b,[],_,h=>by cases b<;>simp[ltS,Op.bytesLess]at h
 | [],_,_::_,_,_=>rfl
 | _::_,[],_,h,_=>by simp[ltS,Op.bytesLess]at h
 | _::_,_::_,[],_,h=>by simp[ltS,Op.bytesLess]at h
 | a::l,b::m,c::n,h,k=>by
  have f:= @xA l m n;simp only[ltS,Op.bytesLess,j9,zF,zQ,beq_iff_eq]at h k f⊢;rcases h with h | ⟨rfl,h⟩
  .rcases k with k | ⟨rfl,k⟩
   .left;rw[UInt8.lt_iff_toNat_lt]at*;omega
   .exact .inl h
  .rcases k with k | ⟨rfl,k⟩
   .exact .inl k
   .exact .inr ⟨rfl,f h k⟩
theorem QN: ∀ {a b:Str},ltS a b=false->ltS b a=false->a=b
 | [],[],_,_=>rfl
 | [],_::_,h,_=>by simp[ltS,Op.bytesLess]at h
 | _::_,[],_,h=>by simp[ltS,Op.bytesLess]at h
 | a::l,b::m,h,k=>by
  have f:= @QN l m;simp only[ltS,Op.bytesLess,Bool.or_eq_false_iff,Bool.and_eq_false_iff,yU,beq_eq_false_iff_ne,ne_eq]at h k f;have e:a=b:=by
   apply UInt8.toNat_inj.1;have i:=h.1;have k1:=k.1;rw[UInt8.lt_iff_toNat_lt]at i k1;omega
  subst e;rw[f (by simpa using h.2) (by simpa using k.2)]
theorem dJ {a b:Str}(h:ltS a b=true):ltS b a=false:=by
 cases k:ltS b a with
 | false=>rfl
 | true=>have:=xA h k;rw[vI]at this;cases this
theorem cX {a b:Str}(h:ltS a b=true):a≠b:=fun e=>by subst e;rw[vI]at h;cases h
theorem zIw (A o:Nat):xZ (.ptr A o)=some (.ptr A o):=rfl
theorem zLW (f A o:Nat):fAd f (.ptr A o)=some (.ptr A (o+f)):=by simp[fAd,kI]
theorem wO (o:A.h.get H=some (.cells h C f W))(a:h[p]? =some s):ld1 (.ptr H p) A=some s:=by
 simp only[ld1,o,ZH,a]
theorem QQ {sz:Nat}(o:A.h.get H=some (.cells h f sz W))(a:p+C<=h.length):ldN C (.ptr H p) A=some (.agg ((h.drop p).take C)):=by
 simp only[ldN,o,kZ _ _ _ (.inr a)]
theorem xL {l:List AV}(new:H+h.length<=l.length):setAt l H h=some (l.take H++h++l.drop (H+h.length)):=by
 induction H generalizing l with
 | zero=>
  have: ∀(h l:List AV),h.length<=l.length->over l h=some (h++l.drop h.length):=by
   intro h
   induction h with
   | nil=>intro l _;cases l<;>rfl
   | cons y ys ih=>intro l hl;cases l with
    | nil=>simp at hl
    | cons x l=>simp only[zY,Nat.add_le_add_iff_right]at hl;simp[over,ih l hl]
  have a:=this h l (by omega)
  cases l with
  | nil=>simpa[setAt]using a
  | cons=>simpa[setAt]using a
 | succ H ih=>
  cases l with
  | nil=>simp at new
  | cons x l=>
   simp only[zY]at new;simp only[setAt,ih (l:=l) (by omega)];simp[show H+1+h.length=H+h.length+1 from by omega]
theorem JP {o n:Nat}{x:AV}(l:A.h.get H=some (.cells h p C W))(f:0<C)(i:(kF x).length=n)(j:jV (kF x)=true)(m:o+n<=h.length):
  stN n (.ptr H o) x A=some (jU,A.put H (.cells (h.take o++kF x++h.drop (o+n)) p C W)):=by
 subst i;have a:Nat.blt 0 C=true:=by rw[qD];exact f
 simp only[stN,l,kG,yO,j,a,qO,zU,xL m,wR]
theorem cU {o:Nat}{x:AV}(l:A.h.get H=some (.cells h p C W))(i:0<C)(f:isCell x=true)(j:o<h.length):
  stN 1 (.ptr H o) x A=some (jU,A.put H (.cells (h.set o x) p C W)):=by
 have a:kF x=[x]:=by cases x<;>first | rfl | (simp[isCell]at f)
 rw[JP l i (by rw[a];rfl) (by rw[a];simp[jV,f]) (by omega),a,List.set_eq_take_append_cons_drop,if_pos j];simp
theorem wK  :jV h=true↔ ∀x∈h,isCell x=true:=by
 induction h with
 | nil=>simp[jV]
 | cons x h ih=>simp[jV,ih]
def Rw (k:Nat)(H:AH)(v:AV)(n:Nat)(l:List AV):Prop:=
 l.length=n*k/\((v= .nS/\n=0)\/(v= .eS/\n=0)\/
  ∃A off cc c e sz g,v= .slice A off n cc/\H.h.get A=some (.cells c e sz g)/\A<H.next/\off+n*k<=c.length/\(c.drop off).take (n*k)=l)
theorem Rw.nil (k:Nat)(H:AH):Rw k H .nS 0 []:=⟨by simp, .inl ⟨rfl,rfl⟩⟩
theorem Rw.lnSl {k n:Nat}{H:AH}{v:AV}{l:List AV}(h:Rw k H v n l):lnSl v=some (.int .i64 (n:Int)):=by
 obtain⟨_,⟨rfl,rfl⟩ | ⟨rfl,rfl⟩ | ⟨A,off,cc,c,e,sz,g,rfl,_⟩⟩:=h<;>rfl
theorem Rw.mono (H':Rw H A s p h)(S:Stp M A J)(o: ∀n off m cc,s= .slice n off m cc-> ¬M n):Rw H J s p h:=by
 obtain⟨a,f | f | ⟨n,off,cc,c,e,sz,g,rfl,k,i,j,hl⟩⟩:=H'
 .exact⟨a, .inl f⟩
 .exact⟨a, .inr (.inl f)⟩
 .exact⟨a, .inr (.inr ⟨n,off,cc,c,e,sz,g,rfl,by rw[S.keep n i (o _ _ _ _ rfl)];exact k,qI i S.next,j,hl⟩)⟩
theorem Rw.prs (n:Rw H A s p h)(k:Prs A J):Rw H J s p h:=n.mono k (fun _ _ _ _ _ x=>x)
theorem Rw.at {l:List AV}(h:Rw H A s p l){i:Nat}(hi:i<p):
  ∃n o c e sz g,(∀κ (z:Int),z=(i:Int)->gY H s (.int κ z)=some (.ptr n o))/\A.h.get n=some (.cells c e sz g)/\n<A.next/\o+H<=c.length/\(c.drop o).take H=(l.drop (i*H)).take H:=by
 obtain⟨q,⟨_,rfl⟩ | ⟨_,rfl⟩ | ⟨n,off,cc,c,e,sz,g,rfl,f,a,m,hl⟩⟩:=h
 .omega
 .omega
 .have k:i*H+H<=p*H:=by rw[<-jO];exact yR _ hi
  refine⟨n,off+i*H,c,e,sz,g,fun κ z j=> ?_,f,a,by omega, ?_⟩
  .have hb:Nat.blt i p=true:=by rw[qD];exact hi
   subst j;simp only[gY,kQ κ (show(0:Int)<=(i:Int)by omega),yI,hb,zU,kI]
  .rw[<-hl,List.drop_take,List.take_take,List.drop_drop,Nat.min_eq_left (by omega)]
theorem Rw.ld1 {n:Nat}{H:AH}{v:AV}{l:List AV}(h:Rw 1 H v n l){i:Nat}(hi:i<n):
  ∃p x,(∀κ (z:Int),z=(i:Int)->gY 1 v (.int κ z)=some p)/\Eng.ld1 p H=some x/\l[i]? =some x:=by
 obtain⟨A,o,c,e,sz,g,j,m,q,s,h5⟩:=h.at hi;have hl:l.length=n:=by have:=h.1;omega
 have a:i<l.length:=by omega
 refine⟨_,l[i],j,wO m ?_,zK a⟩;have f:((c.drop o).take 1)[0]? =((l.drop (i*1)).take 1)[0]? :=by rw[h5]
 rw[jJ (by omega),jJ (by omega),jL,jL]at f;simpa[zK a]using f
theorem Rw.ldN {k n:Nat}{H:AH}{v:AV}{l:List AV}(h:Rw k H v n l){i:Nat}(hi:i<n):
  ∃p,(∀κ (z:Int),z=(i:Int)->gY k v (.int κ z)=some p)/\Eng.ldN k p H=some (.agg ((l.drop (i*k)).take k)):=by
 obtain⟨A,o,c,e,sz,g,a,f,m,j,h5⟩:=h.at hi;exact⟨_,a,by rw[QQ f j,h5]⟩
theorem Rw.srcOf {k n:Nat}{H:AH}{v:AV}{l:List AV}(h:Rw k H v n l):Eng.srcOf k v H=some (n,l):=by
 obtain⟨a,⟨rfl,rfl⟩ | ⟨rfl,rfl⟩ | ⟨A,off,cc,c,e,sz,g,rfl,i,j,f,hl⟩⟩:=h
 .have:l=[]:=zR (by simpa using a);subst this;rfl
 .have:l=[]:=zR (by simpa using a);subst this;rfl
 .simp only[Eng.srcOf,i,kZ _ _ _ (.inr f),hl]
theorem ew:(∀ {α:Type} (h:Decidable True) (t e:α), @ite α True h t e=t)/\(∀ {α:Type} (h:Decidable False) (t e:α), @ite α False h t e=e)/\(∀h:Decidable True, @decide True h=true)/\(∀h:Decidable False, @decide False h=false)/\((!true)=false)/\((!false)=true)/\((false=true)=False)/\((true=false)=False)/\(∀b,(b&&true)=b)/\(∀b,(true&&b)=b)/\(∀b,(b&&false)=false)/\(∀b,(false&&b)=false)/\(∀b,(b||true)=true)/\(∀b,(true||b)=true)/\(∀b,(b||false)=b)/\(∀b,(false||b)=b):=by
 refine⟨fun h t e=>if_pos trivial,fun h t e=>if_neg id,fun h=>decide_eq_true trivial,fun h=>decide_eq_false id,rfl,rfl,by simp,by simp,by simp,by simp,by simp,by simp,by simp,by simp,by simp,by simp⟩
def Own (k e:Nat)(H:AH)(v:AV)(n:Nat)(l:List AV):Prop:=
 l.length=n*k/\((v= .nS/\n=0)\/ ∃A,v= .slice A 0 n 1/\A<H.next/\H.h.get A=some (.cells l e k true))
def Blk (v:AV)(A:Nat):Prop:= ∃o n c,v= .slice A o n c
theorem Blk.slice {A o n c B:Nat} :Blk (.slice A o n c) B↔B=A:=⟨fun⟨_,_,_,h⟩=>by simp only[AV.slice.injEq]at h;exact h.1.symm,fun h=>⟨o,n,c,by rw[h]⟩⟩
def zOG:=@Blk.slice
theorem Blk.nil {B:Nat} :Blk .nS B↔False:=⟨fun⟨_,_,_,h⟩=>by simp at h,fun h=>h.elim⟩
def zOO:=@Blk.nil
theorem Own.row (e:Own H p A s C h):Rw H A s C h:=by
 obtain⟨a,⟨rfl,rfl⟩ | ⟨k,rfl,f,i⟩⟩:=e
 .exact⟨a, .inl ⟨rfl,rfl⟩⟩
 .exact⟨a, .inr (.inr ⟨k,0,1,h,p,H,true,rfl,i,f,by omega,by rw[yD,zZ (by omega)]⟩)⟩
theorem Own.nil (k e:Nat)(H:AH):Own k e H .nS 0 []:=⟨by simp, .inl ⟨rfl,rfl⟩⟩
def zOP:=@Own.nil
theorem Own.mono (n:Own H p A s C h)(e:Stp M A J)(i: ∀k,Blk s k-> ¬M k):Own H p J s C h:=by
 obtain⟨a,j | ⟨k,rfl,f,m⟩⟩:=n
 .exact⟨a, .inl j⟩
 .exact⟨a, .inr ⟨k,rfl,qI f e.next,by rw[e.keep k f (i k (zOG.2 rfl))];exact m⟩⟩
theorem Rw.stp (S:Rw H A s p h)(n:Stp M A J)(a: ∀k,Blk s k-> ¬M k):Rw H J s p h:=
 S.mono n (fun k o m c e=>a k (by rw[e];exact zOG.2 rfl))
theorem cG (h:H<=1000000000)(f:p<=1000):roomy H p=true:=by
 unfold roomy;simp only[zF,qT,qD];refine⟨?_,by omega⟩
 calc (H+H / 4+192)*p<=(H+H / 4+192)*1000:=Nat.mul_le_mul_left _ f
  _<=281474976710656:=by omega
theorem J7 {k e bytes n m:Nat}{new:List AV}(a:A.ok)(o:0<k)(l:Own k e A s n h)(hm:new.length=m*k)(z:1<=m)(u:n+m<=1000000000)(hb:bytes<=1000):
  ∃H',app1 e k bytes m new s A=some (.slice A.next 0 (n+m) 1,H')/\Own k e H' (.slice A.next 0 (n+m) 1) (n+m) (h++new)/\Stp (Blk s) A H'/\H'.next=A.next+1:=by
 obtain⟨f,⟨rfl,rfl⟩ | ⟨H,rfl,i,x⟩⟩:=l
 .have hl:h=[]:=zR (by simpa using f);subst hl;have y:Nat.beq m 0=false:=by rw[yA];intro e;rw[zX]at e;omega
  refine⟨A.push (.cells new e k true), ?_,⟨?_, .inr ⟨A.next,rfl,Nat.lt_succ_self _,zOB _ _⟩⟩,(zOJ a).push _,rfl⟩
  .simp only[app1,show m.beq 0=false from y,yM,vR,cG (show m<=1000000000 by omega) hb,zU,cT,yE,aN a,kI,j7]
  .simp[hm]
 .have j:kS h true k 0 1 k=n:=by
   simp only[kS,show((1 % 2).beq 0)=false from rfl,yM,yO,show Nat.beq 0 (1 / 2*k)=true from by simp,qO,zU,kG,f,jF];exact Nat.mul_div_cancel _ o
  have v:Nat.ble (n+m) n=false:=by rw[yA];intro e;rw[qT]at e;omega
  have p:Nat.beq (0+n*k) (aR h 0)=true:=by rw[kG,f,j7,yO]
  have q:uW h 0 (n*k)=some h:=by rw[kZ _ _ _ (.inr (by omega)),yD,zZ (by omega)]
  have t:(A.put H .dead).ok:=a.put i _;refine⟨(A.put H .dead).push (.cells (h++new) e k true), ?_,⟨?_, .inr ⟨A.next,rfl,Nat.lt_succ_self _,zOB (A.put H .dead) _⟩⟩,((zOJ a).put i _ (.inr (zOG.2 rfl))).push _,rfl⟩
  .simp only[app1,x,zEz,j,v,yM,show((1 % 2).beq 0)=false from rfl,p,yO,show Nat.beq 0 (1 / 2*k)=true from by simp,qO,zU,wR,q,vR,
    cG u hb,cT,aN t,kI,zOD]
  .simp[f,hm,jB]
theorem WA {bytes:Nat}(i:A.ok)(f:0<H)(v:Own H p A s C h):
  ∃H',app1 p H bytes 0 [] s A=some (s,H')/\Own H p H' s C h/\Stp (fun _=>False) A H'/\H'.next=A.next:=by
 obtain⟨a,⟨rfl,rfl⟩ | ⟨e,rfl,j,m⟩⟩:=v
 .exact⟨A,rfl,⟨a, .inl ⟨rfl,rfl⟩⟩,zOJ i,rfl⟩
 .have o:kS h true H 0 1 H=C:=by
   simp only[kS,show((1 % 2).beq 0)=false from rfl,yM,yO,show Nat.beq 0 (1 / 2*H)=true from by simp,qO,zU,kG,a,jF];exact Nat.mul_div_cancel _ f
  have q:Nat.blt 0 H=true:=by rw[qD];exact f
  have k:setAt h (0+C*H) []=some h:=by rw[xL (by simp;omega)];simp
  refine⟨A.put e (.cells h p H true), ?_,⟨a, .inr ⟨e,rfl,j,by rw[zOF,if_pos rfl]⟩⟩,⟨i.put j _,zP _,fun B n _=> ?_⟩,rfl⟩
  .simp only[app1,m,zEz,o,Nat.add_zero,Nat.ble_eq_true_of_le (zP C),zU,q,k,zBp,wR,kI]
  .rw[zOF];split
   .rename_i p;rw[p,m]
   .rfl
theorem bK {bytes m:Nat}{e:AV}{new:List AV}(i:A.ok)(a:0<H)(n:Own H p A s C h)(j:srcOf H e A=some (m,new))(hm:new.length=m*H)(o:jV new=true)(f:1<=m)(k:C+m<=1000000000)(hb:bytes<=1000):
  ∃H',apP p H bytes s e A=some (.slice A.next 0 (C+m) 1,H')/\Own H p H' (.slice A.next 0 (C+m) 1) (C+m) (h++new)/\Stp (Blk s) A H'/\H'.next=A.next+1:=by
 obtain⟨H',q,t⟩:=J7 (bytes:=bytes) i a n hm f k hb;exact⟨H',by simp only[apP,j,o,zU,q],t⟩
theorem zMw {bytes:Nat}{m:AV}{new:List AV}(q:A.ok)(k:0<H)(v:Own H p A s C h)(t:srcOf H m A=some (f,new))(hm:new.length=f*H)(u:jV new=true)(y:C+f<=1000000000)(hb:bytes<=1000):
  ∃a H',apP p H bytes s m A=some (a,H')/\Own H p H' a (C+f) (h++new)/\Stp (Blk s) A H'/\A.next<=H'.next/\(∀B,Blk a B->Blk s B\/A.next<=B):=by
 by_cases z:f=0
 .subst z;have:new=[]:=zR (by simpa using hm);subst this;obtain⟨H',n,i,j,e⟩:=WA (bytes:=bytes) q k v;refine⟨s,H',by simp only[apP,t,u,zU,n],by simpa using i,j.mono (fun _ _ x=>x.elim),by omega,fun B o=> .inl o⟩
 .obtain⟨H',n,i,j,e⟩:=bK q k v t hm u (by omega) y hb;exact⟨_,H',n,i,j,by omega,fun B o=> .inr (by rw[zOG.1 o];exact zP _)⟩
theorem WB {k e bytes n m off:Nat}{new:List AV}(c:A.ok)(q:A.h.get H=some (.cells h p C W))(i:off+n*k<=h.length)(t:1<=m)(s:n+m<=1000000000)(hb:bytes<=1000):
  app1 e k bytes m new (.slice H off n (2*n)) A=some (.slice A.next 0 (n+m) 1,A.push (.cells ((h.drop off).take (n*k)++new) e k true)):=by
 have a:((2*n) % 2).beq 0=true:=by rw[jE];rfl
 have f:kS h W C off (2*n) k=n:=by
  simp only[kS,a,zU,yV n (show 0<2 by omega)]
 have j:Nat.ble (n+m) n=false:=by rw[yA];intro e;rw[qT]at e;omega
 simp only[app1,q,zEz,f,j,yM,a,zU,kZ _ _ _ (.inr i),vR,cG s hb,cT,aN c,kI]
theorem Own.len (k:Own H p A s C h):h.length=C*H:=k.1
theorem Rw.len (k:Rw H A s p h):h.length=p*H:=k.1
def jT (l:Str):List AV:=l.map fun c=> .int .u8 c.toNat
theorem W7: ∀l:Str,bytesOf l.length (pack l)=jT l
 | []=>rfl
 | c::l=>by
  have h:c.toNat<256:=c.toNat_lt;have a:pack (c::l) % 256=c.toNat:=by simp only[pack];omega
  have f:pack (c::l) / 256=pack l:=by simp only[pack];omega
  simp only[zY,bytesOf,a,f,W7 l,jT,yK];rfl
theorem zBH (l:Str)(H:AH):srcOf 1 (S l) H=some (l.length,jT l):=by simp only[srcOf,S,show(Nat.beq 1 1)=true from rfl,zU,W7]
theorem bytesV_cells (l:Str):jV (jT l)=true:=by
 rw[wK];intro x a;obtain⟨c,_,rfl⟩:=qM.1 a;rfl
theorem jY (l:Str):(jT l).length=l.length:=by simp[jT]
theorem Z9: ∀l:Str,ZA (jT l)=some (l.length,pack l)
 | []=>rfl
 | c::l=>by
  have a:Nat.blt c.toNat 256=true:=by rw[qD];exact c.toNat_lt
  have f:=Z9 l;show ZA (AV.int .u8 (Int.ofNat c.toNat)::jT l)=_;simp only[ZA,a,zU,f,kI,zY,pack]
theorem J2 {n:Nat}{l:Str}(h:Rw 1 A s n (jT l))(f:s≠ .eS):zDl s A=some (S l):=by
 obtain⟨i,⟨rfl,rfl⟩ | ⟨rfl,rfl⟩ | ⟨H,off,cc,c,e,sz,g,rfl,j,m,a,hl⟩⟩:=h
 .have:l=[]:=by cases l with
   | nil=>rfl
   | cons=>simp[jT]at i
  subst this;rfl
 .exact absurd rfl f
 .rw[Nat.mul_one]at a hl;simp only[zDl,j,kZ _ _ _ (.inr a),hl,Z9,zAq,S]
end Go.Eng
namespace Go.Eng
theorem zNJ (p:Prop)[Decidable p](b:Bool)(H:AH)(K:AV->AH->Rs):
  jn (if p then some (.norm [.bool b],H)else some (.norm [jU],H)) (fun vs H=>hd vs fun y _=>bV (if p then some y else some (.bool false)) fun x=>K x H)=K (.bool (decide p&&b)) H:=by
 by_cases h:p<;>simp[h,jn,hd,bV]
theorem jn_or (p:Prop)[Decidable p](b:Bool)(H:AH)(K:AV->AH->Rs):
  jn (if p then some (.norm [jU],H)else some (.norm [.bool b],H)) (fun vs H=>hd vs fun y _=>bV (if p then some (.bool true)else some y) fun x=>K x H)=K (.bool (decide p||b)) H:=by
 by_cases h:p<;>simp[h,jn,hd,bV]
theorem wB {vs':List AV}{H':AH}(n:I h A=some (.norm vs',H')):kL (H+1) I h A=kL H I vs' H':=by
 show jn (I h A) (kL H I)=_;rw[n];rfl
theorem kD {vs':List AV}(n:I h A=some (.exit p vs',J)):kL (H+1) I h A=some (.exit p vs',J):=by
 show jn (I h A) (kL H I)=_;rw[n];rfl
theorem ZJ (n:I h A=some (.ret s,J)):kL (H+1) I h A=some (.ret s,J):=by
 show jn (I h A) (kL H I)=_;rw[n];rfl
theorem zLG (id:Nat)(vs:List AV)(H:AH)(K:List AV->AH->Rs):jb id (some (.exit id vs,H)) K=K vs H:=by simp[jb]
def Strs (H:AH)(v:AV)(l:List Str):Prop:=Rw 1 H v l.length (l.map S)
theorem Strs.at {H:AH}{v:AV}{l:List Str}(h:Strs H v l){i:Nat}(hi:i<l.length): ∃p,(∀κ (z:Int),z=(i:Int)->gY 1 v (.int κ z)=some p)/\Eng.ld1 p H=some (S l[i]):=by
 obtain⟨p,x,f,j,a⟩:=Rw.ld1 h hi;rw[jP,zK hi]at a;simp only[qA,zC]at a;subst a;exact⟨p,f,j⟩
theorem Strs.lnSl {H:AH}{v:AV}{l:List Str}(h:Strs H v l):Eng.lnSl v=some (.int .i64 (l.length:Int)):=Rw.lnSl h
theorem Strs.prs {H H':AH}{v:AV}{l:List Str}(h:Strs H v l)(s:Prs H H'):Strs H' v l:=Rw.prs h s
theorem zBc {a:Addr}(h:t.cell? a=some c):a.spot=none/\ ∃arr e f,t.heap[a.block]? =some (.cells arr e f)/\arr[a.off]? =some c:=by
 unfold World.cell? at h;split at h
 .rename_i w e f i;split at h
  .cases h
  .rename_i j;exact⟨by simpa using j,w,e,f,i,h⟩
 .cases h
theorem cellAV_string (N:Nat)(s:ByteArray):cellAV N (.string s)=S s.data.toList:=by
 simp only[cellAV,S];rw[<-size_data]
theorem zJw (w:World)(a:0<f)(hb:H<w.heap.size):cB w.heap.size (.slice (some ⟨H,p,none⟩) C f)= .slice H p C (2*f):=by
 obtain⟨c,rfl⟩: ∃c,f=c+1:=⟨f - 1,by omega⟩;have:Nat.blt H w.heap.size=true:=by rw[qD];exact hb
 cases C<;>simp[cB,cellAV,this]
theorem zG8 {x:Obj}(h:t.heap[H]? =some x):H<t.heap.size:=(Array.getElem?_eq_some_iff.1 h).1
end Go.Eng
end
section
noncomputable section
namespace Go.Eng
abbrev Nms:=List (List AV->AH->Rs)
def nmAt (N:Nms)(k:Nat):List AV->AH->Rs:=match N with
 | []=>fun _ _=>none
 | g::N=>match k with
  | 0=>g
  | k+1=>nmAt N k
def ms:Hint->Hint
 | .s a b=> .s (ms a) (ms b)
 | .c L a b=> .c L.tail (ms a) (ms b)
 | .cl a b=> .cl (ms a) (ms b)
 | .cr a b=> .cr (ms a) (ms b)
 | .b L a=> .b L.tail (ms a)
 | .b0 a=> .b0 (ms a)
 | .l L a=> .l L.tail (ms a)
 | .rf s L=> .rf s L
 | .t L m=> .t L m
 | .o=> .o
def pkN (L:List Nat):Env->AH->Rs:=fun env H=>pck L env fun vs=>some (.norm vs,H)
def upK (L:List Nat)(K:Env->AH->Rs):List AV->AH->Rs:=fun vs H=>unp L vs uN fun env=>K env H
def mkAt (P:List Nat)(i:Nat):Nat:=match P with
 | j::m::P=>bif Nat.beq j i then m else mkAt P i
 | _=>0
def sprF (P:List Nat)(i:Nat)(n:Nat):List Nat:=match n with
 | 0=>[]
 | n+1=>mkAt P i::sprF P (i+1) n
def spr (P:List Nat)(n:Nat):List Nat:=match P with
 | []=>[]
 | _=>sprF P 0 n
def zNo (l:List Oper)(R:List Nat):List (Nat×Oper):=match R with
 | []=>[]
 | i::R=>match zEy l i with
  | some o=>(i,o)::zNo l R
  | none=>[]
def aV (B:Tb)(D:Dyn)(n nt:Nat)(rs:List ResultVar)(f0:FuncId)(ro:Bool)(N:Nms):Code->Hint->List (Nat×List Nat)->(Env->AH->Rs)->Env->AH->Rs
 | .skip,_,_,K,env,H=>K env H
 | .label _,_,_,K,env,H=>K env H
 | .region _ ops _, .b P _,_,K,env,H=>zCK B D nt ops (some (spr P ops.size)) (ops.size+1) K (idx ops.toList 0) [] env H
 | .region _ ops _, .c P (.l R _) _,_,K,env,H=>zCK B D nt ops (some (spr P ops.size)) (R.length+1) K (zNo ops.toList R) [] env H
 | .region _ ops draw,_,_,K,env,H=>zMM B D nt ops draw K env H
 | .seq a b, .s ha hb,Bk,K,env,H=>aV B D n nt rs f0 ro N a ha Bk (aV B D n nt rs f0 ro N b hb Bk K) env H
 | .seq _ _, .t L m,_,K,env,H=>pck L env fun vs=>tld (m vs H) H.next fun H=>unp L vs uN fun env=>K env H
 | .cond c a b, .c (k::L) ha hb,Bk,_,env,H=>match opd env c with
  | some v=>jn (cnd v (aV B D n nt rs f0 ro N a ha Bk (pkN L) env H) (aV B D n nt rs f0 ro N b hb Bk (pkN L) env H)) (nmAt N k)
  | none=>none
 | .cond c a b, .cl ha hb,Bk,K,env,H=>match opd env c with
  | some v=>cnd v (aV B D n nt rs f0 ro N a ha Bk (fun _ _=>none) env H) (aV B D n nt rs f0 ro N b hb Bk K env H)
  | none=>none
 | .cond c a b, .cr ha hb,Bk,K,env,H=>match opd env c with
  | some v=>cnd v (aV B D n nt rs f0 ro N a ha Bk K env H) (aV B D n nt rs f0 ro N b hb Bk (fun _ _=>none) env H)
  | none=>none
 | .block id b, .b (k::L) hb,Bk,_,env,H=>jb id (aV B D n nt rs f0 ro N b hb ((id,L)::Bk) (pkN L) env H) (nmAt N k)
 | .block id b, .b0 hb,Bk,K,env,H=>aV B D n nt rs f0 ro N b hb (zEm Bk id) K env H
 | .loop _, .l (k::L) _,_,_,env,H=>pck L env fun vs=>kL n (nmAt N k) vs H
 | .exit id,_,Bk,_,env,H=>match uE Bk id with
  | some L=>pck L env fun vs=>some (.exit id vs,H)
  | none=>none
 | .ret,_,_,_,env,H=>zIo B.X rs env H
 | .rangeFunc f _ _ _, .rf s L,Bk,K,env,H=>bif ro then none else match opd env f with
  | some fv=>pck L env fun vs=>U7 H (.loop ⟨.ready,none,f0,s,L,vs⟩) fun A H=>bR (rfC B.S D fv A H) fun _ H=>
    cS A H fun j H=>zEc j (K env H) (exS Bk env H) (zIo B.X rs env H)
  | none=>none
 | _,_,_,_,_,_=>none
abbrev Prt:=Option (List AV->AH->Rs)
def orP (a b:Prt):Prt:=match a with | some g=>some g | none=>b
def prt (B:Tb)(D:Dyn)(n nt:Nat)(rs:List ResultVar)(f0:FuncId)(ro:Bool)(N:Nms)(i:Nat):Code->Hint->List (Nat×List Nat)->(Env->AH->Rs)->Prt
 | .seq a b, .s ha hb,Bk,K=>orP (prt B D n nt rs f0 ro N i a ha Bk (aV B D n nt rs f0 ro N b hb Bk K)) (prt B D n nt rs f0 ro N i b hb Bk K)
 | .cond _ a b, .c (k::L) ha hb,Bk,K=>bif Nat.beq k i then some (upK L K)else orP (prt B D n nt rs f0 ro N i a ha Bk (pkN L)) (prt B D n nt rs f0 ro N i b hb Bk (pkN L))
 | .cond _ a b, .cl ha hb,Bk,K=>orP (prt B D n nt rs f0 ro N i a ha Bk fun _ _=>none) (prt B D n nt rs f0 ro N i b hb Bk K)
 | .cond _ a b, .cr ha hb,Bk,K=>orP (prt B D n nt rs f0 ro N i a ha Bk K) (prt B D n nt rs f0 ro N i b hb Bk fun _ _=>none)
 | .block id b, .b (k::L) hb,Bk,K=>bif Nat.beq k i then some (upK L K)else prt B D n nt rs f0 ro N i b hb ((id,L)::Bk) (pkN L)
 | .block id b, .b0 hb,Bk,K=>prt B D n nt rs f0 ro N i b hb (zEm Bk id) K
 | .loop b, .l (k::L) hb,Bk,_=>bif Nat.beq k i then some (upK L (aV B D n nt rs f0 ro N b hb Bk (pkN L)))else prt B D n nt rs f0 ro N i b hb Bk (pkN L)
 | _,_,_,_=>none
def funS (B:Tb)(D:Dyn)(n:Nat)(f0:FuncId)(a:Func)(h:Hint)(N:Nms)(f:List AV)(H:AH):Option (AV×AH):=
 match a.body with
 | some body=>bif Nat.ble (a.params.size+a.nfree) a.ntmps then fG (zMH (a.params.size+a.nfree) 0 f uN fun env=>aV B D n a.ntmps a.results.toList f0 false N body h [] (fun env H=>zIo B.X a.results.toList env H) env H)else none
 | none=>none
def prtF (B:Tb)(D:Dyn)(n:Nat)(f0:FuncId)(a:Func)(h:Hint)(N:Nms)(i:Nat):Prt:=
 match a.body with
 | some body=>prt B D n a.ntmps a.results.toList f0 false N i body h [] fun env H=>zIo B.X a.results.toList env H
 | none=>none
def rdS (B:Tb)(D:Dyn)(n:Nat)(f0:FuncId)(nt:Nat)(h:Array Tmp)(a body:Code)(L f:List Nat)(j hb:Hint)(N:Nms)(A:Nat)(l:ALoop)(m:List AV)(H:AH):Option (AV×AH):=
 bif YO L l.live then
  zKA A (unp L l.vals uN fun env=>zI5 nt h.toList m env fun env=>
   aV B D n nt [] f0 true N a j [] (fun env H=>fV A H fun H=>aV B D n nt [] f0 true N body hb (f.map fun i=>(i,[])) (fun _ H=>some (.norm [],H)) env H) env H)
 else none
def rndS (B:Tb)(D:Dyn)(n:Nat)(f0:FuncId)(s:Nat)(L a:List Nat)(f hb:Hint)(N:Nms)(A:Nat)(l:ALoop)(h:List AV)(H:AH):Option (AV×AH):=
 match VX f0 s with
 | some (nt,ps,asg,body)=>rdS B D n f0 nt ps asg body L a f hb N A l h H
 | none=>none
def prtR (B:Tb)(D:Dyn)(n:Nat)(f0:FuncId)(s:Nat)(a:List Nat)(hb:Hint)(N:Nms)(i:Nat):Prt:=
 match VX f0 s with
 | some (nt,_,_,body)=>prt B D n nt [] f0 true N i body hb (a.map fun i=>(i,[])) fun _ H=>some (.norm [],H)
 | none=>none
end Go.Eng
end
end
section
namespace Go.Proofs
open Go.Shelf
def Tryz.clone80_ren:Go.Shelf.Ren:=⟨fun | 5=>80 | 7=>125 | n=>n,fun | 23=>138 | 25=>40 | 3=>119 | 4=>4 | 20=>20 | n=>n,fun | n=>n⟩
theorem Tryz.clone80:Go.Proofs.SlLaysW.n5 Tryz.prog Tryz.clone80_ren:= {
 mixed:=by kernel_rfl
 f5:=⟨Tryz.f80.name,by decide,Tryz.func80.trans (congrArg some (by kernel_rfl))⟩
 f7:=Tryz.func125.trans (congrArg some (by kernel_rfl))
 t4:=Tryz.underlying4
 a4:=Tryz.isAgg4
 z4:=Tryz.sizeOf4
 v4:=Tryz.zeroValue4
 t20:=Tryz.underlying20
 a20:=Tryz.isAgg20
 z20:=Tryz.sizeOf20
 v20:=Tryz.zeroValue20
 t23:=Tryz.underlying138
 a23:=Tryz.isAgg138
 z23:=Tryz.sizeOf138
 v23:=Tryz.zeroValue138}
end Go.Proofs
noncomputable section
namespace Go.Eng.Sh
open Go.Proofs
set_option maxRecDepth 100000
def y (l:T TypeInfo)(v:TypeInfo)(r:T TypeInfo):T TypeInfo:= .node l (some v) r
abbrev o:T TypeInfo:= .leaf
noncomputable def TX:T TypeInfo:=(y (y (y (y (y (y (y (y (y o Tryz.t255 o) Tryz.t127 o) Tryz.t63 (y (y o Tryz.t319 o) Tryz.t191 o)) Tryz.t31 (y (y (y o Tryz.t287 o) Tryz.t159 o) Tryz.t95 (y (y o Tryz.t351 o) Tryz.t223 o))) Tryz.t15 (y (y (y (y o Tryz.t271 o) Tryz.t143 o) Tryz.t79 (y (y o Tryz.t335 o) Tryz.t207 o)) Tryz.t47 (y (y (y o Tryz.t303 o) Tryz.t175 o) Tryz.t111 (y o Tryz.t239 o)))) Tryz.t7 (y (y (y (y (y o Tryz.t263 o) Tryz.t135 o) Tryz.t71 (y (y o Tryz.t327 o) Tryz.t199 o)) Tryz.t39 (y (y (y o Tryz.t295 o) Tryz.t167 o) Tryz.t103 (y o Tryz.t231 o))) Tryz.t23 (y (y (y (y o Tryz.t279 o) Tryz.t151 o) Tryz.t87 (y (y o Tryz.t343 o) Tryz.t215 o)) Tryz.t55 (y (y (y o Tryz.t311 o) Tryz.t183 o) Tryz.t119 (y o Tryz.t247 o))))) Tryz.t3 (y (y (y (y (y (y o Tryz.t259 o) Tryz.t131 o) Tryz.t67 (y (y o Tryz.t323 o) Tryz.t195 o)) Tryz.t35 (y (y (y o Tryz.t291 o) Tryz.t163 o) Tryz.t99 (y o Tryz.t227 o))) Tryz.t19 (y (y (y (y o Tryz.t275 o) Tryz.t147 o) Tryz.t83 (y (y o Tryz.t339 o) Tryz.t211 o)) Tryz.t51 (y (y (y o Tryz.t307 o) Tryz.t179 o) Tryz.t115 (y o Tryz.t243 o)))) Tryz.t11 (y (y (y (y (y o Tryz.t267 o) Tryz.t139 o) Tryz.t75 (y (y o Tryz.t331 o) Tryz.t203 o)) Tryz.t43 (y (y (y o Tryz.t299 o) Tryz.t171 o) Tryz.t107 (y o Tryz.t235 o))) Tryz.t27 (y (y (y (y o Tryz.t283 o) Tryz.t155 o) Tryz.t91 (y (y o Tryz.t347 o) Tryz.t219 o)) Tryz.t59 (y (y (y o Tryz.t315 o) Tryz.t187 o) Tryz.t123 (y o Tryz.t251 o)))))) Tryz.t1 (y (y (y (y (y (y (y o Tryz.t257 o) Tryz.t129 o) Tryz.t65 (y (y o Tryz.t321 o) Tryz.t193 o)) Tryz.t33 (y (y (y o Tryz.t289 o) Tryz.t161 o) Tryz.t97 (y o Tryz.t225 o))) Tryz.t17 (y (y (y (y o Tryz.t273 o) Tryz.t145 o) Tryz.t81 (y (y o Tryz.t337 o) Tryz.t209 o)) Tryz.t49 (y (y (y o Tryz.t305 o) Tryz.t177 o) Tryz.t113 (y o Tryz.t241 o)))) Tryz.t9 (y (y (y (y (y o Tryz.t265 o) Tryz.t137 o) Tryz.t73 (y (y o Tryz.t329 o) Tryz.t201 o)) Tryz.t41 (y (y (y o Tryz.t297 o) Tryz.t169 o) Tryz.t105 (y o Tryz.t233 o))) Tryz.t25 (y (y (y (y o Tryz.t281 o) Tryz.t153 o) Tryz.t89 (y (y o Tryz.t345 o) Tryz.t217 o)) Tryz.t57 (y (y (y o Tryz.t313 o) Tryz.t185 o) Tryz.t121 (y o Tryz.t249 o))))) Tryz.t5 (y (y (y (y (y (y o Tryz.t261 o) Tryz.t133 o) Tryz.t69 (y (y o Tryz.t325 o) Tryz.t197 o)) Tryz.t37 (y (y (y o Tryz.t293 o) Tryz.t165 o) Tryz.t101 (y o Tryz.t229 o))) Tryz.t21 (y (y (y (y o Tryz.t277 o) Tryz.t149 o) Tryz.t85 (y (y o Tryz.t341 o) Tryz.t213 o)) Tryz.t53 (y (y (y o Tryz.t309 o) Tryz.t181 o) Tryz.t117 (y o Tryz.t245 o)))) Tryz.t13 (y (y (y (y (y o Tryz.t269 o) Tryz.t141 o) Tryz.t77 (y (y o Tryz.t333 o) Tryz.t205 o)) Tryz.t45 (y (y (y o Tryz.t301 o) Tryz.t173 o) Tryz.t109 (y o Tryz.t237 o))) Tryz.t29 (y (y (y (y o Tryz.t285 o) Tryz.t157 o) Tryz.t93 (y (y o Tryz.t349 o) Tryz.t221 o)) Tryz.t61 (y (y (y o Tryz.t317 o) Tryz.t189 o) Tryz.t125 (y o Tryz.t253 o))))))) Tryz.t0 (y (y (y (y (y (y (y (y o Tryz.t256 o) Tryz.t128 o) Tryz.t64 (y (y o Tryz.t320 o) Tryz.t192 o)) Tryz.t32 (y (y (y o Tryz.t288 o) Tryz.t160 o) Tryz.t96 (y o Tryz.t224 o))) Tryz.t16 (y (y (y (y o Tryz.t272 o) Tryz.t144 o) Tryz.t80 (y (y o Tryz.t336 o) Tryz.t208 o)) Tryz.t48 (y (y (y o Tryz.t304 o) Tryz.t176 o) Tryz.t112 (y o Tryz.t240 o)))) Tryz.t8 (y (y (y (y (y o Tryz.t264 o) Tryz.t136 o) Tryz.t72 (y (y o Tryz.t328 o) Tryz.t200 o)) Tryz.t40 (y (y (y o Tryz.t296 o) Tryz.t168 o) Tryz.t104 (y o Tryz.t232 o))) Tryz.t24 (y (y (y (y o Tryz.t280 o) Tryz.t152 o) Tryz.t88 (y (y o Tryz.t344 o) Tryz.t216 o)) Tryz.t56 (y (y (y o Tryz.t312 o) Tryz.t184 o) Tryz.t120 (y o Tryz.t248 o))))) Tryz.t4 (y (y (y (y (y (y o Tryz.t260 o) Tryz.t132 o) Tryz.t68 (y (y o Tryz.t324 o) Tryz.t196 o)) Tryz.t36 (y (y (y o Tryz.t292 o) Tryz.t164 o) Tryz.t100 (y o Tryz.t228 o))) Tryz.t20 (y (y (y (y o Tryz.t276 o) Tryz.t148 o) Tryz.t84 (y (y o Tryz.t340 o) Tryz.t212 o)) Tryz.t52 (y (y (y o Tryz.t308 o) Tryz.t180 o) Tryz.t116 (y o Tryz.t244 o)))) Tryz.t12 (y (y (y (y (y o Tryz.t268 o) Tryz.t140 o) Tryz.t76 (y (y o Tryz.t332 o) Tryz.t204 o)) Tryz.t44 (y (y (y o Tryz.t300 o) Tryz.t172 o) Tryz.t108 (y o Tryz.t236 o))) Tryz.t28 (y (y (y (y o Tryz.t284 o) Tryz.t156 o) Tryz.t92 (y (y o Tryz.t348 o) Tryz.t220 o)) Tryz.t60 (y (y (y o Tryz.t316 o) Tryz.t188 o) Tryz.t124 (y o Tryz.t252 o)))))) Tryz.t2 (y (y (y (y (y (y (y o Tryz.t258 o) Tryz.t130 o) Tryz.t66 (y (y o Tryz.t322 o) Tryz.t194 o)) Tryz.t34 (y (y (y o Tryz.t290 o) Tryz.t162 o) Tryz.t98 (y o Tryz.t226 o))) Tryz.t18 (y (y (y (y o Tryz.t274 o) Tryz.t146 o) Tryz.t82 (y (y o Tryz.t338 o) Tryz.t210 o)) Tryz.t50 (y (y (y o Tryz.t306 o) Tryz.t178 o) Tryz.t114 (y o Tryz.t242 o)))) Tryz.t10 (y (y (y (y (y o Tryz.t266 o) Tryz.t138 o) Tryz.t74 (y (y o Tryz.t330 o) Tryz.t202 o)) Tryz.t42 (y (y (y o Tryz.t298 o) Tryz.t170 o) Tryz.t106 (y o Tryz.t234 o))) Tryz.t26 (y (y (y (y o Tryz.t282 o) Tryz.t154 o) Tryz.t90 (y (y o Tryz.t346 o) Tryz.t218 o)) Tryz.t58 (y (y (y o Tryz.t314 o) Tryz.t186 o) Tryz.t122 (y o Tryz.t250 o))))) Tryz.t6 (y (y (y (y (y (y o Tryz.t262 o) Tryz.t134 o) Tryz.t70 (y (y o Tryz.t326 o) Tryz.t198 o)) Tryz.t38 (y (y (y o Tryz.t294 o) Tryz.t166 o) Tryz.t102 (y o Tryz.t230 o))) Tryz.t22 (y (y (y (y o Tryz.t278 o) Tryz.t150 o) Tryz.t86 (y (y o Tryz.t342 o) Tryz.t214 o)) Tryz.t54 (y (y (y o Tryz.t310 o) Tryz.t182 o) Tryz.t118 (y o Tryz.t246 o)))) Tryz.t14 (y (y (y (y (y o Tryz.t270 o) Tryz.t142 o) Tryz.t78 (y (y o Tryz.t334 o) Tryz.t206 o)) Tryz.t46 (y (y (y o Tryz.t302 o) Tryz.t174 o) Tryz.t110 (y o Tryz.t238 o))) Tryz.t30 (y (y (y (y o Tryz.t286 o) Tryz.t158 o) Tryz.t94 (y (y o Tryz.t350 o) Tryz.t222 o)) Tryz.t62 (y (y (y o Tryz.t318 o) Tryz.t190 o) Tryz.t126 (y o Tryz.t254 o))))))))
def X:Cx:=⟨TX,[(42,[6,6,10]),(48,[2,2]),(55,(List.replicate 512 7))]⟩
theorem TX_eq:TX=(T.ofList 0 PP.types.toList .leaf).getD .leaf:=by kernel_rfl
theorem X_ok:Ok PP X:=by
 have h:=cx_ok (P:=PP) (fl:=X.fl) (by kernel_rfl) (by kernel_rfl);rw[<-TX_eq]at h;exact h
structure FY (B:Tb)(D:Dyn)(n:Nat)(i:FuncId)(f:Func)(h:Hint)(N:Nms) where
 mk::
 {g:List AV->AH->Option (AV×AH)}
 p:g=fun vs H=>funS B D n i f h N vs H:=by conv=>rhs;reduce
structure PY (B:Tb)(D:Dyn)(n:Nat)(i:FuncId)(f:Func)(h:Hint)(N:Nms)(k:Nat) where
 mk::
 {g:List AV->AH->Rs}
 p:some g=prtF B D n i f h N k:=by conv=>rhs;reduce
structure RY (B:Tb)(D:Dyn)(n:Nat)(i:FuncId)(s:Nat)(L ids:List Nat)(a b:Hint)(N:Nms) where
 mk::
 {g:Nat->ALoop->List AV->AH->Option (AV×AH)}
 p:g=fun A l az H=>rndS B D n i s L ids a b N A l az H:=by conv=>rhs;reduce
def Hr:Hint:= .s .o .o
def Hq:Hint:= .s .o (.cl Hr .o)
theorem sn:SOk []:=SOk.nil
theorem sc (h:FI q i)(t:SOk v):SOk ((q,i)::v):=SOk.cons h.fs t
theorem fk (n:Nat)(h:Hint)(j:DG e)(f:SOk v)(o:PP.funcs[q]? =some m)(p:zA5 m h=true:=by kernel_rfl)(D:i=zLS ⟨X,v⟩ e n q m h:=by kernel_rfl):FI q i:=zNQ X_ok j f o p D
def t0 (_:Dyn)(_:Nat):Tb:=⟨X,[]⟩
def ad (B:Tb)(i:Nat)(f:List AV->AH->Option (AV×AH)):Tb:=⟨X,(i,f)::B.S⟩
abbrev KO (s:Dyn->Nat->Tb):Prop:= ∀ {D:Dyn},DG D-> ∀n:Nat,SOk (s D n).S
theorem k0:KO t0:=fun _ _=>trivial
theorem kk {s:Dyn->Nat->Tb}(k:KO s)(h:Hint)(f:PP.funcs[q]? =some m)(o:zA5 m h=true:=by kernel_rfl)(p: ∀D n,L D n=zLS ⟨X,(s D n).S⟩ D n q m h:=by intro D n;kernel_rfl):KO (fun D n=>ad (s D n) q (L D n)):=fun j n=>sc (fk n h j (k j n) f o (p _ n)) (k j n)
theorem kc {s:Dyn->Nat->Tb}(k:KO s)(h: ∀ {D:Dyn},DG D-> ∀n:Nat,FI q (L D n)):KO (fun D n=>ad (s D n) q (L D n)):=fun a n=>sc (h a n) (k a n)
noncomputable def X8:ML:=mlOf (zOm Tryz.f126 [1,1,1,0])
theorem zBN:X8.Fits 69:=by constructor<;>first | kernel_rfl | exact of_decide_eq_true (by kernel_rfl)
noncomputable def zBZ:Hint:= .o
noncomputable def zCG (vs:List AV)(H:AH):Rs:=
 hd vs fun a vs=>hd vs fun j vs=>hd vs fun x4 vs=>
 bV (xZ a) fun f=>
 bV (fAd 2 f) fun h=>
 bV (ld1 h H) fun i=>
 some (.norm (i::[a,j,x4]),H)
theorem zBP:X8.preK ⟨X,[]⟩ WQ 69 [0,3,4]=zCG:=by kernel_rfl
noncomputable def zFo (I:Nat)(vs:List AV)(k v:AV)(H:AH):Rs:=
 hd vs fun p vs=>hd vs fun q vs=>hd vs fun x4 vs=>
 bV (jS (.tuple [k,v]) 0) fun f=>
 bV (jS (.tuple [k,v]) 1) fun h=>
 bA (bxV 119 (.agg [(.bool false), .nS, .nS, .nS])) H fun a H=>
 bR (stN 4 a h H) fun t H=>
 bV (xZ x4) fun i=>
 bV (fAd 5 i) fun j=>
 bV (ld1 j H) fun m=>
 bV (ldN 4 a H) fun o=>
 bR (upM [10] m f o H) fun s H=>
 some (.norm [(.ptr I 0),p,q,x4],H)
theorem zE1:X8.roundK ⟨X,[]⟩ WQ 0 69 zBZ [0,3,4]=zFo:=by kernel_rfl
noncomputable def bF (vs:List AV)(H:AH):Option AH:=match vs with
 | [.ptr C p,x3, .ptr E o]=>match ld1 (.ptr C (p+2)) H with
  | some (.map M)=>match ld1 (.ptr E (o+5)) H with
   | some (.map A)=>bif Nat.blt M H.next&&Nat.blt A H.next&&Nat.blt E H.next then zKR [10] 1 (isAg 4) (.map M) (.map A) H else none
   | _=>none
  | _=>none
 | _=>none
theorem zAp: ∀vs H H',bF vs H=some H'->Nonempty (X8.Plan ⟨X,[]⟩ WQ 0 69 zBZ [0,3,4] vs H H'):=by
 intro vs H H' h;unfold bF at h;split at h
 .rename_i C p x3 E o;split at h
  .rename_i M I;split at h
   .rename_i A N;rw[zG]at h;split at h
    .rename_i y;simp only[zF,qD]at y;obtain⟨⟨hM,hA⟩,hE⟩:=y;obtain⟨l,e,sz,g,j,t⟩:=zIK N;have s:=zEF h;refine zKP h ?_ ?_ hM hA ?_
     .rw[zBP];simp only[zCG,hd,bV,xZ,fAd,kI,I]
     .intro k v a e0 O F Q hk S G _ _;obtain⟨cs,rfl,hl,U⟩:=zG3 O;have V:E≠M:=fun e=>by subst e;obtain⟨⟨_,_,f⟩,_⟩:=s;rw[j]at f;simp at f
      have W:E≠A:=fun e=>by subst e;obtain⟨_,_,_,f⟩:=s;rw[j]at f;simp at f
      have Y:a.h.get E=some (.cells l e sz g):=by rw[F E hE V W];exact j
      obtain⟨t1,Z,J⟩:=zFP (.cells [(.bool false), .nS, .nS, .nS] 119 1 false) (G a.next (zP _) (by omega))
      have m:=T.get_set _ _ _ _ _ Z;obtain⟨t2,a0,u⟩:=zL5 (n:=4) (H:=⟨t1,a.next+1⟩) (A:=a.next) (cs:=cs) (by rw[m,if_pos rfl]) rfl hl U rfl
      have i:=T.get_set _ _ _ _ _ a0;simp only at i u;have a1:t2.get A=some (.map [10] e0):=by rw[i,if_neg (by omega),m,if_neg (by omega)];exact Q
      obtain⟨t3,a2,x⟩:=zKQ (v:= .agg cs) (H:=⟨t2,a.next+1⟩) hk a1
      have q:=T.get_set _ _ _ _ _ a2;simp only at q x;have K:ld1 (.ptr E (o+5)) ⟨t2,a.next+1⟩=some (.map A):=zNB (l:=l) (e:=e) (sz:=sz) (g:=g) (by simp only[i,m];rw[if_neg (by omega),if_neg (by omega)];exact Y) t
      have L:ldN 4 (.ptr a.next 0) ⟨t2,a.next+1⟩=some (.agg cs):=zLC (by show t2.get a.next=_;rw[i,if_pos rfl]) hl
      refine⟨⟨t3,a.next+1⟩, ?_,rfl, ?_,fun C hC S=> ?_⟩
      .rw[zE1];simp only[zFo,hd,bV,bR,jS,nth,bA,bxV,kF,J,u,xZ,fAd,kI,K,L,x]
      .simp only[q,if_true]
      .simp only[q,if_neg hC,i,m];rw[if_neg (by omega),if_neg (by omega)]
     .intro R0 w0 hR hv;obtain⟨z,hz⟩:=hv (.ptr E o) (by simp);obtain⟨b,d,c,hr,_⟩:=hz;exact zIP hR hr j t
    .simp at h
   .simp at h
  .simp at h
 .simp at h
theorem zEI:WH PP 69 126 X8.code [0,3,4] bF:=zKO X_ok zBN (by decide+kernel) (by decide+kernel) (hb:=zBZ) (by kernel_rfl) (kt:=40) (vt:=119) (by kernel_rfl) zAp
end Go.Eng.Sh
end
end
section
noncomputable section
namespace Go.Eng.Sh
open Go.Proofs
set_option maxRecDepth 100000
variable (D:Dyn)(n:Nat)
attribute [local irreducible] bV bR hd cnd jn jb kL wnt chk U7 bA kO J6 YP gK eqP eqS eqM eqF eqA zMS ldN ld1 stN cvI zMW zDl zKE WL vD xM vU gY KD zAA zEd fd1 fdN fAd KA lnSl ZM apP apZ cpy uO zJm pk3 s2a bxV Q0 zFR lkM upM dlM mkM callV nl fG tld zKA fV BK cS zEc rfC mn2 mx2 aun jS xZ jU isW aveq bF
def h85:Hint:=(.s .o Hr)
@[irreducible] def f85:=(.mk:FY (t0 D n) D n 85 Tryz.f85 h85 []).1
def t1:=ad (t0 D n) 85 (f85 D n)
theorem k1:KO t1:=kk k0 (ms h85) Tryz.func85
def h32:Hint:=(.s .o (.s Hq Hr))
@[irreducible] def f32:=(.mk:FY (t1 D n) D n 32 Tryz.f32 h32 []).1
def t2:=ad (t1 D n) 32 (f32 D n)
theorem k2:KO t2:=kk k1 (ms h32) Tryz.func32
def h86:Hint:=(.s (.b [15,32767] .o) (.s (.b [10,1023] .o) .o))
@[irreducible] def f86:=(.mk:FY (t2 D n) D n 86 Tryz.f86 h86 []).1
theorem zAK (a:DG e)(n:Nat):FI 86 (f86 e n):=fk n (ms h86) a (k2 a n) Tryz.func86
def t3:=ad (t2 D n) 86 (f86 D n)
theorem k3:KO t3:=kc k2 zAK
def s34:Tb:=⟨X,[(86,f86 D n)]⟩
@[irreducible] def zAM (D:Dyn)(n:Nat)(vs:List AV)(H:AH):Rs:=
 hd vs fun x4 vs=>hd vs fun a vs=>
 bV (kO .lss a (.int .i64 (.ofNat 2))) fun f=>
 cnd f (bR (f86 D n [x4,a,(.int .u8 (.ofNat 1))] H) fun i H=>
 bV (kO .add a (.int .i64 (.ofNat 1))) fun h=>
 some (.norm [x4,h],H))
 (some (.exit 0 [x4],H))
@[irreducible] def zO0 (D:Dyn)(n:Nat)(vs:List AV)(H:AH):Rs:=
 hd vs fun a vs=>
 bV (some a) fun f=>bV (some (.int .i64 (.ofNat 0))) fun h=>some (.ret (.tuple [f,h]),H)
@[irreducible] def f34 (D:Dyn)(n:Nat)(vs:List AV)(H:AH):Option (AV×AH):=
 fG (hd vs fun a vs=>nl vs <|
 bV (kO .lss a (.int .i64 (.ofNat 64))) fun h=>
 jn (wnt h false (bV (kO .gtr a (.int .i64 (.ofNat 8192))) fun j=>
 some (.norm [j],H)) (some (.norm [jU],H))) fun vs H=>hd vs fun i vs=>
 bV (pk3 (some h) (some (.bool true)) (some i)) fun m=>
 cnd m (bV (some .nP) fun t=>bV (some (.int .i64 (.ofNat 1))) fun u=>some (.ret (.tuple [t,u]),H))
 (bV (uO [(0,1),(1,1),(2,8192),(8194,4)] ([(.int .i64 (.ofNat 0)),(.int .i64 (.ofNat 0))]++rep 8192 [(.int .u8 (.ofNat 0))]++[(.int .i64 (.ofNat 0)),(.int .i64 (.ofNat 0)),(.int .i64 (.ofNat 0)),(.int .i64 (.ofNat 0))]) [(0,a)]) fun o=>
 bA (bxV 145 o) H fun f H=>
 bV (xZ f) fun p=>
 bV (fAd 8194 p) fun q=>
 bV (vU 4 1 q (.int .u8 (.ofNat 0))) fun s=>
 bR (stN 1 s a H) fun v H=>
 jb 0 (kL n (zAM D n) [f,(.int .i64 (.ofNat 0))] H) (zO0 D n)))
def h34:Hint:=(.s .o (.s Hq (.s .o (.s .o (.s (.s .o (.b [4] (.l [4,20] (.s .o (.s (.cr .o .o) (.s (.b0 Hr) .o)))))) Hr)))))
def t4:=ad (t3 D n) 34 (f34 D n)
theorem k4:KO t4:=kk k3 h34 Tryz.func34
def h118:Hint:=(.s .o (.s Hq Hr))
@[irreducible] def f118:=(.mk:FY (t4 D n) D n 118 Tryz.f118 h118 []).1
def t5:=ad (t4 D n) 118 (f118 D n)
theorem k5:KO t5:=kk k4 (ms h118) Tryz.func118
def h119:Hint:=(.s .o (.b [1] (.l [0,0,1,6,7] (.s .o (.s (.cr .o .o) (.s (.b0 Hr) .o))))))
@[irreducible] def XX:=(.mk:PY (t5 D n) D n 119 Tryz.f119 h119 [] 0).1
@[irreducible] def zKv:=(.mk:PY (t5 D n) D n 119 Tryz.f119 h119 [XX D n] 1).1
@[irreducible] def f119:=(.mk:FY (t5 D n) D n 119 Tryz.f119 h119 [XX D n,zKv D n]).1
def t6:=ad (t5 D n) 119 (f119 D n)
theorem k6:KO t6:=kk k5 (ms h119) Tryz.func119
def s72:Tb:=⟨X,[(118,f118 D n),(119,f119 D n)]⟩
@[irreducible] def f72 (D:Dyn)(n:Nat)(vs:List AV)(H:AH):Option (AV×AH):=
 fG (hd vs fun y vs=>nl vs <|
 bA (bxV 42 y) H fun a H=>
 bV (ldN 3 a H) fun z=>
 bR (f118 D n [z] H) fun x6 H=>
 bV (aun .not x6) fun C=>
 cnd C (bV (some (.str 0 0)) fun F=>bV (some (.int .i64 (.ofNat 4))) fun G=>some (.ret (.tuple [F,G]),H))
 (bA (bxV 232 (.agg (rep 16 [(.int .u8 (.ofNat 0))]))) H fun x4 H=>
 bV (xM 16 1 x4 none (some (.int .i64 (.ofNat 4))) none) fun I=>
 bV (fAd 0 a) fun J=>
 bV (ld1 J H) fun i=>
 bV (cvI .u64 i) fun j=>
 bR (f119 D n [I,j] H) fun K H=>
 bV (xM 16 1 x4 (some (.int .i64 (.ofNat 4))) (some (.int .i64 (.ofNat 8))) none) fun m=>
 bV (fAd 1 a) fun o=>
 bV (ld1 o H) fun p=>
 bV (cvI .u64 p) fun q=>
 bR (f119 D n [m,q] H) fun L H=>
 bV (xM 16 1 x4 (some (.int .i64 (.ofNat 8))) none none) fun s=>
 bV (fAd 2 a) fun t=>
 bV (ld1 t H) fun u=>
 bR (f119 D n [s,u] H) fun M H=>
 bV (xM 16 1 x4 none none none) fun v=>
 bV (zDl v H) fun x=>
 bV (some x) fun f=>bV (some (.int .i64 (.ofNat 0))) fun h=>some (.ret (.tuple [f,h]),H)))
def h72:Hint:=(.s .o (.s Hq (.s .o (.s .o (.s .o (.s .o Hr))))))
def t7:=ad (t6 D n) 72 (f72 D n)
theorem k7:KO t7:=kk k6 h72 Tryz.func72
def h18:Hint:=(.s .o (.s Hq (.s (.s .o Hq) Hr)))
@[irreducible] def f18:=(.mk:FY (t7 D n) D n 18 Tryz.f18 h18 []).1
theorem zKj (a:DG e)(n:Nat):FI 18 (f18 e n):=fk n (ms h18) a (k7 a n) Tryz.func18
def t8:=ad (t7 D n) 18 (f18 D n)
theorem k8:KO t8:=kc k7 zKj
def h73:Hint:=(.s .o Hr)
@[irreducible] def f73:=(.mk:FY (t8 D n) D n 73 Tryz.f73 h73 []).1
theorem zGl (a:DG e)(n:Nat):FI 73 (f73 e n):=fk n (ms h73) a (k8 a n) Tryz.func73
def t9:=ad (t8 D n) 73 (f73 D n)
theorem k9:KO t9:=kc k8 zGl
def h127:Hint:=(.s .o (.s .o (.s (.b [9,511] .o) Hr)))
@[irreducible] def f127:=(.mk:FY (t9 D n) D n 127 Tryz.f127 h127 []).1
theorem zGE (a:DG e)(n:Nat):FI 127 (f127 e n):=fk n (ms h127) a (k9 a n) Tryz.func127
def t10:=ad (t9 D n) 127 (f127 D n)
theorem k10:KO t10:=kc k9 zGE
def zLO:Hint:=(.s .o (.s .o (.s (.s .o (.b [2,0,3,4] (.l [1,0,3,4,16,17,18] (.s .o (.s (.cr .o .o) (.s (.b0 (.s .o (.s .o (.c [0,0,3,4,16,17,18] (.b [6,63] .o) (.b [7,126,10,1023] .o))))) .o)))))) (.s (.t [0,3,4] bF) Hr))))
@[irreducible] def zAS:=(.mk:PY ⟨X,[]⟩ D n 126 Tryz.f126 zLO [] 0).1
@[irreducible] def KR:=(.mk:PY ⟨X,[]⟩ D n 126 Tryz.f126 zLO [zAS D n] 1).1
@[irreducible] def zKt:=(.mk:PY ⟨X,[]⟩ D n 126 Tryz.f126 zLO [zAS D n,KR D n] 2).1
@[irreducible] def f126:=(.mk:FY ⟨X,[]⟩ D n 126 Tryz.f126 zLO [zAS D n,KR D n,zKt D n]).1
theorem zMa (D:Dyn)(n:Nat):f126 D n=zLS ⟨X,[]⟩ D n 126 Tryz.f126 (ms zLO):=by kernel_rfl
theorem zEk:zCs Tryz.f126 (ms zLO)=[(X8.code,[0,3,4],bF)]:=by kernel_rfl
theorem zGF: ∀x∈zCs Tryz.f126 (ms zLO),WH PP Tryz.f126.ntmps 126 x.1 x.2.1 x.2.2:=by
 rw[zEk];intro x a;simp only[zO,List.not_mem_nil,or_false]at a;subst a;exact zEI
theorem zGG (a:DG e)(n:Nat):FI 126 (f126 e n):=zLR X_ok a sn Tryz.func126 (zFa (by kernel_rfl) zGF) (zMa e n)
def t11:=ad (t10 D n) 126 (f126 D n)
theorem k11:KO t11:=kc k10 zGG
def zMR:Hint:=(.s .o (.s .o (.s (.s .o (.b [3,1,3] (.l [0,1,3,14,15,16] (.s .o (.s (.cr .o .o) (.s (.b0 Hr) .o)))))) (.s (.s .o (.b [2,3] (.l [1,3,27,28,29] (.s .o (.s (.cr .o .o) (.s (.b0 Hr) .o)))))) Hr))))
@[irreducible] def YE:=(.mk:PY (t11 D n) D n 110 Tryz.f110 zMR [] 0).1
@[irreducible] def KS:=(.mk:PY (t11 D n) D n 110 Tryz.f110 zMR [YE D n] 1).1
@[irreducible] def zGJ:=(.mk:PY (t11 D n) D n 110 Tryz.f110 zMR [YE D n,KS D n] 2).1
@[irreducible] def zKw:=(.mk:PY (t11 D n) D n 110 Tryz.f110 zMR [YE D n,KS D n,zGJ D n] 3).1
@[irreducible] def f110:=(.mk:FY (t11 D n) D n 110 Tryz.f110 zMR [YE D n,KS D n,zGJ D n,zKw D n]).1
theorem zGK (a:DG e)(n:Nat):FI 110 (f110 e n):=fk n (ms zMR) a (k11 a n) Tryz.func110
def t12:=ad (t11 D n) 110 (f110 D n)
theorem k12:KO t12:=kc k11 zGK
def h137:Hint:=(.s .o Hr)
@[irreducible] def f137:=(.mk:FY (t12 D n) D n 137 Tryz.f137 h137 []).1
def t13:=ad (t12 D n) 137 (f137 D n)
theorem k13:KO t13:=kk k12 (ms h137) Tryz.func137
def zK5:Hint:=(.s .o (.s (.s .o (.b [5,1] (.l [0,1,10,11,12] (.s .o (.s (.cr .o .o) (.s (.b0 (.s .o Hq)) .o)))))) (.s (.s .o (.cl (.s Hq (.s (.s .o (.b [2] (.l [1,51,52,53] (.s .o (.s (.cr .o .o) (.s (.b0 (.s .o Hq)) .o)))))) Hr)) .o)) (.s Hq (.s (.s .o (.b [4] (.l [3,82,83,84] (.s .o (.s (.cr .o .o) (.s (.b0 (.s .o Hq)) .o)))))) Hr)))))
@[irreducible] def gZ:=(.mk:PY (t13 D n) D n 109 Tryz.f109 zK5 [] 0).1
@[irreducible] def ZT:=(.mk:PY (t13 D n) D n 109 Tryz.f109 zK5 [gZ D n] 1).1
@[irreducible] def XY:=(.mk:PY (t13 D n) D n 109 Tryz.f109 zK5 [gZ D n,ZT D n] 2).1
@[irreducible] def KT:=(.mk:PY (t13 D n) D n 109 Tryz.f109 zK5 [gZ D n,ZT D n,XY D n] 3).1
@[irreducible] def zDg:=(.mk:PY (t13 D n) D n 109 Tryz.f109 zK5 [gZ D n,ZT D n,XY D n,KT D n] 4).1
@[irreducible] def YF:=(.mk:PY (t13 D n) D n 109 Tryz.f109 zK5 [gZ D n,ZT D n,XY D n,KT D n,zDg D n] 5).1
@[irreducible] def f109:=(.mk:FY (t13 D n) D n 109 Tryz.f109 zK5 [gZ D n,ZT D n,XY D n,KT D n,zDg D n,YF D n]).1
theorem zGL (a:DG e)(n:Nat):FI 109 (f109 e n):=fk n (ms zK5) a (k13 a n) Tryz.func109
def t14:=ad (t13 D n) 109 (f109 D n)
theorem k14:KO t14:=kc k13 zGL
def zMP:Hint:=(.s .o (.s .o (.s .o (.s .o (.s (.s .o (.c [3,1,3,4,5] Hr .o)) (.s (.s .o (.b [2,4] (.l [1,1,3,4,5,20,21] (.s .o (.s (.cr .o .o) (.s (.b0 (.s .o (.s .o (.s (.s .o (.c [0,1,3,4,5,6,20,21] .o .o)) Hq)))) .o)))))) Hr))))))
@[irreducible] def dT:=(.mk:PY (t14 D n) D n 227 Tryz.f227 zMP [] 0).1
@[irreducible] def ZQ:=(.mk:PY (t14 D n) D n 227 Tryz.f227 zMP [dT D n] 1).1
@[irreducible] def zDa:=(.mk:PY (t14 D n) D n 227 Tryz.f227 zMP [dT D n,ZQ D n] 2).1
@[irreducible] def zAO:=(.mk:PY (t14 D n) D n 227 Tryz.f227 zMP [dT D n,ZQ D n,zDa D n] 3).1
@[irreducible] def f227:=(.mk:FY (t14 D n) D n 227 Tryz.f227 zMP [dT D n,ZQ D n,zDa D n,zAO D n]).1
def t15:=ad (t14 D n) 227 (f227 D n)
theorem k15:KO t15:=kk k14 (ms zMP) Tryz.func227
def h108:Hint:=(.s .o (.s Hq Hr))
@[irreducible] def f108:=(.mk:FY (t15 D n) D n 108 Tryz.f108 h108 []).1
def t16:=ad (t15 D n) 108 (f108 D n)
theorem k16:KO t16:=kk k15 (ms h108) Tryz.func108
def h81:Hint:=(.s .o (.s Hq Hr))
@[irreducible] def f81:=(.mk:FY (t16 D n) D n 81 Tryz.f81 h81 []).1
def t17:=ad (t16 D n) 81 (f81 D n)
theorem k17:KO t17:=kk k16 (ms h81) Tryz.func81
def h213:Hint:=(.s .o (.s Hq (.s .o (.s (.b [5,19,7,127] .o) (.s .o (.s (.s .o (.c [0,1,2,4,6] (.s .o (.c [5,31,10,1023,12,4095,14,16383] (.l [0,1,2,3,4,6,7,8,9,5,11,10,12,13,14] .o) .o)) (.s .o (.c [7,127,13,8191,15,32767,17,131071] (.l [0,1,2,3,4,5,6,8,9,10,11,12,7,14,13,15,16,17] .o) .o)))) (.s (.b [7,1,9,511] .o) .o)))))))
@[irreducible] def zGp:=(.mk:PY (t17 D n) D n 213 Tryz.f213 h213 [] 0).1
@[irreducible] def f213:=(.mk:FY (t17 D n) D n 213 Tryz.f213 h213 [zGp D n]).1
def t18:=ad (t17 D n) 213 (f213 D n)
theorem k18:KO t18:=kk k17 (ms h213) Tryz.func213
def h177:Hint:=(.s .o (.s .o (.s .o (.s (.b [1,1,5,6] (.l [0,1,5,6] (.s (.s .o (.cr .o .o)) (.b0 (.s .o (.s Hq (.s .o Hr))))))) Hr))))
@[irreducible] def zAP:=(.mk:PY (t18 D n) D n 177 Tryz.f177 h177 [] 0).1
@[irreducible] def zKn:=(.mk:PY (t18 D n) D n 177 Tryz.f177 h177 [zAP D n] 1).1
@[irreducible] def f177:=(.mk:FY (t18 D n) D n 177 Tryz.f177 h177 [zAP D n,zKn D n]).1
def t19:=ad (t18 D n) 177 (f177 D n)
theorem k19:KO t19:=kk k18 (ms h177) Tryz.func177
def h179:Hint:=(.s .o (.s .o (.s (.s .o (.b [1,5] (.l [0,0,5,8,9,10] (.s .o (.s (.cr .o .o) (.s (.b0 Hr) .o)))))) Hr)))
@[irreducible] def XS:=(.mk:PY (t19 D n) D n 179 Tryz.f179 h179 [] 0).1
@[irreducible] def zKl:=(.mk:PY (t19 D n) D n 179 Tryz.f179 h179 [XS D n] 1).1
@[irreducible] def f179:=(.mk:FY (t19 D n) D n 179 Tryz.f179 h179 [XS D n,zKl D n]).1
def t20:=ad (t19 D n) 179 (f179 D n)
theorem k20:KO t20:=kk k19 (ms h179) Tryz.func179
def h131:Hint:=(.s .o (.s (.s .o (.cl (.s (.s .o (.c [0] .o .o)) Hr) .o)) (.s .o (.s Hq (.s .o (.s (.s .o (.c [1] .o .o)) Hr))))))
@[irreducible] def zDe:=(.mk:PY (t20 D n) D n 131 Tryz.f131 h131 [] 0).1
@[irreducible] def zGA:=(.mk:PY (t20 D n) D n 131 Tryz.f131 h131 [zDe D n] 1).1
@[irreducible] def f131:=(.mk:FY (t20 D n) D n 131 Tryz.f131 h131 [zDe D n,zGA D n]).1
theorem zGB (a:DG e)(n:Nat):FI 131 (f131 e n):=fk n (ms h131) a (k20 a n) Tryz.func131
def t21:=ad (t20 D n) 131 (f131 D n)
theorem k21:KO t21:=kc k20 zGB
def h76:Hint:=(.s .o Hr)
@[irreducible] def f76:=(.mk:FY (t21 D n) D n 76 Tryz.f76 h76 []).1
theorem zD9 (a:DG e)(n:Nat):FI 76 (f76 e n):=fk n (ms h76) a (k21 a n) Tryz.func76
def t22:=ad (t21 D n) 76 (f76 D n)
theorem k22:KO t22:=kc k21 zD9
def h230:Hint:=(.s .o (.s (.s .o (.b [1,0] (.l [0,0,1,7,8] (.s .o (.s (.cr .o .o) (.s (.b0 Hr) .o)))))) Hr))
@[irreducible] def zAN:=(.mk:PY (t22 D n) D n 230 Tryz.f230 h230 [] 0).1
@[irreducible] def zKg:=(.mk:PY (t22 D n) D n 230 Tryz.f230 h230 [zAN D n] 1).1
@[irreducible] def f230:=(.mk:FY (t22 D n) D n 230 Tryz.f230 h230 [zAN D n,zKg D n]).1
def t23:=ad (t22 D n) 230 (f230 D n)
theorem k23:KO t23:=kk k22 (ms h230) Tryz.func230
def h225:Hint:=(.s .o Hr)
@[irreducible] def f225:=(.mk:FY (t23 D n) D n 225 Tryz.f225 h225 []).1
def t24:=ad (t23 D n) 225 (f225 D n)
theorem k24:KO t24:=kk k23 (ms h225) Tryz.func225
def h208:Hint:=(.s .o Hr)
@[irreducible] def f208:=(.mk:FY (t24 D n) D n 208 Tryz.f208 h208 []).1
def t25:=ad (t24 D n) 208 (f208 D n)
theorem k25:KO t25:=kk k24 (ms h208) Tryz.func208
def h226:Hint:=(.s .o (.s .o (.s (.s .o (.b [1,3] (.l [0,3,6,7,8] (.s .o (.s (.cr .o .o) (.s (.b0 Hr) .o)))))) Hr)))
@[irreducible] def XR:=(.mk:PY (t25 D n) D n 226 Tryz.f226 h226 [] 0).1
@[irreducible] def zGn:=(.mk:PY (t25 D n) D n 226 Tryz.f226 h226 [XR D n] 1).1
@[irreducible] def f226:=(.mk:FY (t25 D n) D n 226 Tryz.f226 h226 [XR D n,zGn D n]).1
def t26:=ad (t25 D n) 226 (f226 D n)
theorem k26:KO t26:=kk k25 (ms h226) Tryz.func226
def s150:Tb:=⟨X,[(119,f119 D n)]⟩
@[irreducible] def zM5 (D:Dyn)(n:Nat)(vs:List AV)(H:AH):Option (AV×AH):=
 fG (hd vs fun O vs=>hd vs fun f vs=>hd vs fun h vs=>nl vs <|
 bA (bxV 55 (.agg (rep 512 [(.int .u8 (.ofNat 0))]))) H fun x6 H=>
 bV (kO .lss f (.int .i64 (.ofNat 0))) fun i=>
 jn (wnt i false (bV (kO .gtr f (.int .i64 (.ofNat 2147483647))) fun t=>
 some (.norm [t],H)) (some (.norm [jU],H))) fun vs H=>hd vs fun o vs=>
 bV (pk3 (some i) (some (.bool true)) (some o)) fun u=>
 cnd u (bV (zJm 1 (rep 512 [(.int .u8 (.ofNat 0))]) []) fun v=>
 bR (stN 512 x6 v H) fun V H=>
 bV (ldN 512 x6 H) fun p=>bV (some (.int .i64 (.ofNat 1))) fun Q=>some (.ret (.tuple [p,Q]),H))
 (bV (KA h) fun x=>
 bV (kO .gtr x (.int .i64 (.ofNat 500))) fun y=>
 cnd y (bV (zJm 1 (rep 512 [(.int .u8 (.ofNat 0))]) []) fun z=>
 bR (stN 512 x6 z H) fun S H=>
 bV (ldN 512 x6 H) fun j=>bV (some (.int .i64 (.ofNat 40))) fun q=>some (.ret (.tuple [j,q]),H))
 (bA (bxV 55 (.agg (rep 512 [(.int .u8 (.ofNat 0))]))) H fun a H=>
 bV (xM 512 1 a none none none) fun C=>
 bR (cpy 1 C (.str 4 2037675114) H) fun W H=>
 bV (vU 512 1 a (.int .i64 (.ofNat 4))) fun F=>
 bR (stN 1 F O H) fun T H=>
 bV (xM 512 1 a (some (.int .i64 (.ofNat 6))) (some (.int .i64 (.ofNat 8))) none) fun G=>
 bV (KA h) fun I=>
 bV (cvI .u64 I) fun J=>
 bR (f119 D n [G,J] H) fun Y H=>
 bV (xM 512 1 a (some (.int .i64 (.ofNat 8))) (some (.int .i64 (.ofNat 12))) none) fun K=>
 bV (cvI .u64 f) fun L=>
 bR (f119 D n [K,L] H) fun Z H=>
 bV (xM 512 1 a (some (.int .i64 (.ofNat 12))) none none) fun M=>
 bR (cpy 1 M h H) fun a0 H=>
 bV (ldN 512 a H) fun N=>
 bR (stN 512 x6 N H) fun U H=>
 bV (ldN 512 x6 H) fun m=>bV (some (.int .i64 (.ofNat 0))) fun s=>some (.ret (.tuple [m,s]),H))))
def h150:Hint:=(.s .o (.s Hq (.s Hq (.s .o (.s .o (.s .o (.s .o (.s .o (.s .o Hr)))))))))
def t27:=ad (t26 D n) 150 (zM5 D n)
theorem k27:KO t27:=kk k26 h150 Tryz.func150
def s209:Tb:=⟨X,[(226,f226 D n),(150,zM5 D n)]⟩
@[irreducible] def f209 (D:Dyn)(n:Nat)(vs:List AV)(H:AH):Option (AV×AH):=
 fG (hd vs fun U vs=>nl vs <|
 bA (bxV 55 U) H fun a H=>
 bV (xM 512 1 a (some (.int .i64 (.ofNat 6))) (some (.int .i64 (.ofNat 8))) none) fun V=>
 bR (f226 D n [V] H) fun o H=>
 bV (kO .gtr o (.int .u64 (.ofNat 500))) fun F=>
 cnd F (bV (some (.int .u8 (.ofNat 0))) fun W=>bV (some (.int .i64 (.ofNat 0))) fun Y=>bV (some (.str 0 0)) fun x4=>bV (some (.int .i64 (.ofNat 4))) fun Z=>some (.ret (.tuple [W,Y,x4,Z]),H))
 (bV (vU 512 1 a (.int .i64 (.ofNat 4))) fun G=>
 bV (ld1 G H) fun f=>
 bV (xM 512 1 a (some (.int .i64 (.ofNat 8))) (some (.int .i64 (.ofNat 12))) none) fun I=>
 bR (f226 D n [I] H) fun J H=>
 bV (cvI .i64 J) fun h=>
 bV (kO .add (.int .u64 (.ofNat 12)) o) fun K=>
 bV (xM 512 1 a (some (.int .i64 (.ofNat 12))) (some K) none) fun L=>
 bV (zDl L H) fun i=>
 bR (zM5 D n [f,h,i] H) fun j H=>
 bV (jS j 0) fun M=>
 bV (jS j 1) fun N=>
 bA (bxV 55 (.agg (rep 512 [(.int .u8 (.ofNat 0))]))) H fun p H=>
 bR (stN 512 p M H) fun a0 H=>
 bV (kO .neq N (.int .i64 (.ofNat 0))) fun m=>
 jn (wnt m false (bV (ldN 512 p H) fun O=>
 bV (ldN 512 a H) fun Q=>
 bV (gK .neq (eqA (List.replicate 512 7) O Q)) fun S=>
 some (.norm [S],H)) (some (.norm [jU],H))) fun vs H=>hd vs fun q vs=>
 bV (pk3 (some m) (some (.bool true)) (some q)) fun T=>
 cnd T (bV (some (.int .u8 (.ofNat 0))) fun s=>bV (some (.int .i64 (.ofNat 0))) fun t=>bV (some (.str 0 0)) fun u=>bV (some (.int .i64 (.ofNat 4))) fun v=>some (.ret (.tuple [s,t,u,v]),H))
 (bV (some f) fun x=>bV (some h) fun y=>bV (some i) fun z=>bV (some (.int .i64 (.ofNat 0))) fun C=>some (.ret (.tuple [x,y,z,C]),H))))
def h209:Hint:=(.s .o (.s .o (.s Hq (.s .o (.s .o (.s .o (.s .o (.s Hq Hr))))))))
def t28:=ad (t27 D n) 209 (f209 D n)
theorem k28:KO t28:=kk k27 h209 Tryz.func209
def h171:Hint:=(.s .o (.s (.s (.c [5,31] (.l [0,1,2,3,4,6,7,5,8,9] .o) .o) (.cl Hr .o)) (.s .o (.s Hq (.s Hq Hr)))))
@[irreducible] def f171:=(.mk:FY (t28 D n) D n 171 Tryz.f171 h171 []).1
def t29:=ad (t28 D n) 171 (f171 D n)
theorem k29:KO t29:=kk k28 (ms h171) Tryz.func171
def h120:Hint:=(.s .o (.s Hq (.s Hq Hr)))
@[irreducible] def f120:=(.mk:FY (t29 D n) D n 120 Tryz.f120 h120 []).1
def t30:=ad (t29 D n) 120 (f120 D n)
theorem k30:KO t30:=kk k29 (ms h120) Tryz.func120
def h74:Hint:=(.s .o (.s (.s .o Hq) (.s Hq Hr)))
@[irreducible] def f74:=(.mk:FY (t30 D n) D n 74 Tryz.f74 h74 []).1
def t31:=ad (t30 D n) 74 (f74 D n)
theorem k31:KO t31:=kk k30 (ms h74) Tryz.func74
def s25:Tb:=⟨X,[(74,f74 D n)]⟩
@[irreducible] def f25 (D:Dyn)(n:Nat)(vs:List AV)(H:AH):Option (AV×AH):=
 fG (hd vs fun a vs=>hd vs fun f vs=>nl vs <|
 bA (bxV 55 (.agg (rep 512 [(.int .u8 (.ofNat 0))]))) H fun x4 H=>
 bR (f74 D n [a,f] H) fun h H=>
 bV (kO .neq h (.int .i64 (.ofNat 0))) fun s=>
 cnd s (bV (zJm 1 (rep 512 [(.int .u8 (.ofNat 0))]) []) fun t=>
 bR (stN 512 x4 t H) fun U H=>
 bV (ldN 512 x4 H) fun o=>bV (some h) fun Q=>some (.ret (.tuple [o,Q]),H))
 (bV (xZ a) fun u=>
 bV (fAd 3 u) fun v=>
 bV (ld1 v H) fun x=>
 bV (lkM [6] (.int .i64 (.ofNat 0)) true x f H) fun i=>
 bV (jS i 0) fun y=>
 bV (jS i 1) fun z=>
 cnd z (bV (xZ a) fun C=>
 bV (fAd 2 C) fun F=>
 bV (ld1 F H) fun G=>
 bV (gY 513 G y) fun I=>
 bV (fAd 1 I) fun J=>
 bV (ldN 512 J H) fun K=>
 bR (stN 512 x4 K H) fun S H=>
 bV (ldN 512 x4 H) fun j=>bV (some (.int .i64 (.ofNat 0))) fun p=>some (.ret (.tuple [j,p]),H))
 (bV (xZ a) fun L=>
 bV (fAd 1 L) fun M=>
 bV (ld1 M H) fun N=>
 bV (lkM [6] (.agg (rep 512 [(.int .u8 (.ofNat 0))])) false N f H) fun O=>
 bR (stN 512 x4 O H) fun T H=>
 bV (ldN 512 x4 H) fun m=>bV (some (.int .i64 (.ofNat 0))) fun q=>some (.ret (.tuple [m,q]),H))))
def h25:Hint:=(.s .o (.s (.s .o Hq) (.s (.s .o Hq) Hr)))
theorem zKd (a:DG e)(n:Nat):FI 25 (f25 e n):=fk n h25 a (k31 a n) Tryz.func25
def t32:=ad (t31 D n) 25 (f25 D n)
theorem k32:KO t32:=kc k31 zKd
def s122:Tb:=⟨X,[(171,f171 D n),(25,f25 D n)]⟩
@[irreducible] def zO7 (D:Dyn)(n:Nat)(vs:List AV)(H:AH):Rs:=
 hd vs fun a vs=>hd vs fun f vs=>
 some (.norm [a,f],H)
@[irreducible] def zGI (D:Dyn)(n:Nat)(vs:List AV)(H:AH):Rs:=
 hd vs fun i vs=>hd vs fun j vs=>
 bV (some i) fun a=>bV (some j) fun f=>bV (some (.int .i64 (.ofNat 0))) fun h=>some (.ret (.tuple [a,f,h]),H)
@[irreducible] def zGH (D:Dyn)(n:Nat)(vs:List AV)(H:AH):Rs:=
 hd vs fun a vs=>hd vs fun f vs=>
 bV (xZ a) fun z=>
 bV (fAd 0 z) fun C=>
 bV (ld1 C H) fun F=>
 bV (fAd 0 f) fun G=>
 bV (ld1 G H) fun I=>
 bA (bxV 55 (.agg (rep 512 [(.int .u8 (.ofNat 0))]))) H fun h H=>
 bR (f25 D n [F,I] H) fun j H=>
 bV (jS j 0) fun J=>
 bV (jS j 1) fun m=>
 bR (stN 512 h J H) fun a1 H=>
 bV (kO .neq m (.int .i64 (.ofNat 0))) fun K=>
 cnd K (bV (some (.int .u8 (.ofNat 0))) fun s=>bV (some (.str 0 0)) fun t=>bV (some m) fun u=>some (.ret (.tuple [s,t,u]),H))
 (bV (ldN 3 f H) fun L=>
 bV (ldN 512 h H) fun M=>
 bR (f171 D n [L,M] H) fun i H=>
 bV (jS i 0) fun o=>
 bV (jS i 1) fun p=>
 bV (jS i 2) fun q=>
 bV (kO .neq q (.int .i64 (.ofNat 0))) fun N=>
 cnd N (bV (some (.int .u8 (.ofNat 0))) fun v=>bV (some (.str 0 0)) fun x=>bV (some q) fun y=>some (.ret (.tuple [v,x,y]),H))
 (bV (xZ a) fun O=>
 bV (fAd 1 O) fun Q=>
 bV (ld1 Q H) fun S=>
 bV (gK .neq (eqP S .nP)) fun T=>
 jn (cnd T (bV (xZ a) fun U=>
 bV (fAd 1 U) fun V=>
 bV (ld1 V H) fun W=>
 bV (fAd 0 f) fun Y=>
 bV (ld1 Y H) fun Z=>
 bV (ldN 512 h H) fun a0=>
 bR (D.fn 97 [W,Z,a0] H) fun a2 H=>
 some (.norm [o,p],H))
 (some (.norm [o,p],H))) (zGI D n)))
@[irreducible] def f122 (D:Dyn)(n:Nat)(vs:List AV)(H:AH):Option (AV×AH):=
 fG (hd vs fun a vs=>hd vs fun M vs=>nl vs <|
 bA (bxV 42 M) H fun f H=>
 bV (xZ a) fun m=>
 bV (fAd 1 m) fun o=>
 bV (ld1 o H) fun p=>
 bV (gK .neq (eqP p .nP)) fun q=>
 jn (cnd q (bV (xZ a) fun s=>
 bV (fAd 1 s) fun t=>
 bV (ld1 t H) fun u=>
 bV (fAd 0 f) fun v=>
 bV (ld1 v H) fun x=>
 bA (bxV 55 (.agg (rep 512 [(.int .u8 (.ofNat 0))]))) H fun j H=>
 bR (D.fn 170 [u,x] H) fun i H=>
 bV (jS i 0) fun y=>
 bV (jS i 1) fun z=>
 bR (stN 512 j y H) fun O H=>
 bV (kO .eql z (.int .i64 (.ofNat 0))) fun C=>
 jn (cnd C (bV (ldN 3 f H) fun F=>
 bV (ldN 512 j H) fun G=>
 bR (f171 D n [F,G] H) fun h H=>
 bV (jS h 0) fun I=>
 bV (jS h 1) fun J=>
 bV (jS h 2) fun K=>
 bV (kO .eql K (.int .i64 (.ofNat 0))) fun L=>
 cnd L (bV (some I) fun x4=>bV (some J) fun N=>bV (some (.int .i64 (.ofNat 0))) fun x6=>some (.ret (.tuple [x4,N,x6]),H))
 (some (.norm [a,f],H)))
 (some (.norm [a,f],H))) (zO7 D n))
 (some (.norm [a,f],H))) (zGH D n))
def h122:Hint:=(.s .o (.s (.s .o (.c [0,3] (.s .o (.s .o (.c [0,3] (.s .o Hq) .o))) .o)) (.s .o (.s Hq (.s .o (.s Hq (.s (.s .o (.c [14,15] .o .o)) Hr)))))))
def t33:=ad (t32 D n) 122 (f122 D n)
theorem k33:KO t33:=kk k32 h122 Tryz.func122
def h172:Hint:=(.s .o (.s (.s .o (.cl (.s .o Hr) .o)) (.s .o (.s .o Hr))))
@[irreducible] def f172:=(.mk:FY (t33 D n) D n 172 Tryz.f172 h172 []).1
theorem zGv (a:DG e)(n:Nat):FI 172 (f172 e n):=fk n (ms h172) a (k33 a n) Tryz.func172
def t34:=ad (t33 D n) 172 (f172 D n)
theorem k34:KO t34:=kc k33 zGv
def s211:Tb:=⟨X,[(226,f226 D n),(118,f118 D n)]⟩
@[irreducible] def f211 (D:Dyn)(n:Nat)(vs:List AV)(H:AH):Option (AV×AH):=
 fG (hd vs fun h vs=>nl vs <|
 bA (bxV 42 (.agg [(.int .i64 (.ofNat 0)),(.int .i64 (.ofNat 0)),(.int .u64 (.ofNat 0))])) H fun a H=>
 bV (KA h) fun O=>
 bV (kO .neq O (.int .i64 (.ofNat 16))) fun Q=>
 cnd Q (bV (uO [(0,1),(1,1),(2,1)] [(.int .i64 (.ofNat 0)),(.int .i64 (.ofNat 0)),(.int .u64 (.ofNat 0))] []) fun S=>
 bR (stN 3 a S H) fun Z H=>
 bV (ldN 3 a H) fun m=>bV (some (.int .i64 (.ofNat 4))) fun T=>some (.ret (.tuple [m,T]),H))
 (bA (zKE 5 h) H fun q H=>
 bV (s2a 16 q) fun s=>
 bV (ldN 16 s H) fun t=>
 bA (bxV 232 (.agg (rep 16 [(.int .u8 (.ofNat 0))]))) H fun x4 H=>
 bR (stN 16 x4 t H) fun U H=>
 bV (xM 16 1 x4 none (some (.int .i64 (.ofNat 4))) none) fun u=>
 bV (xM 16 1 x4 (some (.int .i64 (.ofNat 4))) (some (.int .i64 (.ofNat 8))) none) fun v=>
 bV (xM 16 1 x4 (some (.int .i64 (.ofNat 8))) none none) fun x=>
 bA (bxV 42 (.agg [(.int .i64 (.ofNat 0)),(.int .i64 (.ofNat 0)),(.int .u64 (.ofNat 0))])) H fun f H=>
 bR (f226 D n [u] H) fun y H=>
 bV (cvI .i64 y) fun z=>
 bR (f226 D n [v] H) fun C H=>
 bV (cvI .i64 C) fun F=>
 bR (f226 D n [x] H) fun G H=>
 bV (uO [(0,1),(1,1),(2,1)] [(.int .i64 (.ofNat 0)),(.int .i64 (.ofNat 0)),(.int .u64 (.ofNat 0))] [(0,z),(1,F),(2,G)]) fun I=>
 bR (stN 3 f I H) fun V H=>
 bV (ldN 3 f H) fun J=>
 bR (f118 D n [J] H) fun K H=>
 bV (aun .not K) fun L=>
 cnd L (bV (uO [(0,1),(1,1),(2,1)] [(.int .i64 (.ofNat 0)),(.int .i64 (.ofNat 0)),(.int .u64 (.ofNat 0))] []) fun M=>
 bR (stN 3 a M H) fun W H=>
 bV (ldN 3 a H) fun i=>bV (some (.int .i64 (.ofNat 4))) fun o=>some (.ret (.tuple [i,o]),H))
 (bV (ldN 3 f H) fun N=>
 bR (stN 3 a N H) fun Y H=>
 bV (ldN 3 a H) fun j=>bV (some (.int .i64 (.ofNat 0))) fun p=>some (.ret (.tuple [j,p]),H))))
def h211:Hint:=(.s .o (.s Hq (.s .o (.s .o (.s Hq Hr)))))
def t35:=ad (t34 D n) 211 (f211 D n)
theorem k35:KO t35:=kk k34 h211 Tryz.func211
def h174:Hint:=(.s .o (.s (.s .o (.cl .o .o)) (.s .o (.s Hq (.b [8,254,12,4095] .o)))))
@[irreducible] def f174:=(.mk:FY (t35 D n) D n 174 Tryz.f174 h174 []).1
theorem zGu (a:DG e)(n:Nat):FI 174 (f174 e n):=fk n (ms h174) a (k35 a n) Tryz.func174
def t36:=ad (t35 D n) 174 (f174 D n)
theorem k36:KO t36:=kc k35 zGu
def h62:Hint:=(.s .o Hr)
@[irreducible] def f62:=(.mk:FY (t36 D n) D n 62 Tryz.f62 h62 []).1
theorem zK8 (a:DG e)(n:Nat):FI 62 (f62 e n):=fk n (ms h62) a (k36 a n) Tryz.func62
def t37:=ad (t36 D n) 62 (f62 D n)
theorem k37:KO t37:=kc k36 zK8
def h210:Hint:=(.s .o (.s .o (.s Hq Hr)))
@[irreducible] def f210:=(.mk:FY (t37 D n) D n 210 Tryz.f210 h210 []).1
def t38:=ad (t37 D n) 210 (f210 D n)
theorem k38:KO t38:=kk k37 (ms h210) Tryz.func210
def h173:Hint:=(.b [7,64,9,510,13,8191] .o)
@[irreducible] def f173:=(.mk:FY (t38 D n) D n 173 Tryz.f173 h173 []).1
def t39:=ad (t38 D n) 173 (f173 D n)
theorem k39:KO t39:=kk k38 (ms h173) Tryz.func173
def h175:Hint:=(.b [7,64,9,510,13,8191] .o)
@[irreducible] def f175:=(.mk:FY (t39 D n) D n 175 Tryz.f175 h175 []).1
def t40:=ad (t39 D n) 175 (f175 D n)
theorem k40:KO t40:=kk k39 (ms h175) Tryz.func175
def zMJ:Tb:=⟨X,[(172,f172 D n),(174,f174 D n),(62,f62 D n)]⟩
def zLP:Hint:=(.s .o (.s Hq (.s .o (.s .o (.s Hq (.s .o (.s (.s .o (.c [4,4,6,7,8] .o .o)) (.s (.s (.b [] .o) (.b [3,4,6] (.l [2,4,6,8,47,48] (.s .o (.s (.cr .o .o) (.s (.b0 (.s (.s .o (.b [1,4,6,8,47,48] (.l [0,4,6,8,47,48,50,51,52] (.s .o (.s (.cr .o .o) (.s (.b0 Hr) .o)))))) (.s .o (.cl .o .o)))) .o)))))) (.s Hq Hr)))))))))
@[irreducible] def ZR:=(.mk:PY (zMJ D n) D n 123 Tryz.f123 zLP [] 0).1
@[irreducible] def ZS:=(.mk:PY (zMJ D n) D n 123 Tryz.f123 zLP [ZR D n] 1).1
@[irreducible] def uM:=(.mk:PY (zMJ D n) D n 123 Tryz.f123 zLP [ZR D n,ZS D n] 2).1
@[irreducible] def dW:=(.mk:PY (zMJ D n) D n 123 Tryz.f123 zLP [ZR D n,ZS D n,uM D n] 3).1
@[irreducible] def zDf:=(.mk:PY (zMJ D n) D n 123 Tryz.f123 zLP [ZR D n,ZS D n,uM D n,dW D n] 4).1
@[irreducible] def f123:=(.mk:FY (zMJ D n) D n 123 Tryz.f123 zLP [ZR D n,ZS D n,uM D n,dW D n,zDf D n]).1
theorem zMb (a:DG e)(n:Nat):FI 123 (f123 e n):=fk n (ms zLP) a (sc (zGv a n) (sc (zGu a n) (sc (zK8 a n) sn))) Tryz.func123
def t41:=ad (t40 D n) 123 (f123 D n)
theorem k41:KO t41:=kc k40 zMb
def h77:Hint:=(.s .o (.s (.s .o (.cl (.s (.b [11,1535] .o) (.s Hq Hr)) .o)) (.s .o (.s Hq (.s Hq Hr)))))
@[irreducible] def f77:=(.mk:FY (t41 D n) D n 77 Tryz.f77 h77 []).1
theorem zD8 (a:DG e)(n:Nat):FI 77 (f77 e n):=fk n (ms h77) a (k41 a n) Tryz.func77
def t42:=ad (t41 D n) 77 (f77 D n)
theorem k42:KO t42:=kc k41 zD8
def h79:Hint:=(.s .o (.s .o (.s (.s .o (.b [2,5] (.l [1,1,2,5,9,10,11] (.s .o (.s (.cr .o .o) (.s (.b0 (.s .o (.s .o (.c [0,1,2,5,9,10,11] .o .o)))) .o)))))) Hr)))
@[irreducible] def zC7:=(.mk:PY (t42 D n) D n 79 Tryz.f79 h79 [] 0).1
@[irreducible] def zAL:=(.mk:PY (t42 D n) D n 79 Tryz.f79 h79 [zC7 D n] 1).1
@[irreducible] def zNU:=(.mk:PY (t42 D n) D n 79 Tryz.f79 h79 [zC7 D n,zAL D n] 2).1
@[irreducible] def f79:=(.mk:FY (t42 D n) D n 79 Tryz.f79 h79 [zC7 D n,zAL D n,zNU D n]).1
theorem zD7 (a:DG e)(n:Nat):FI 79 (f79 e n):=fk n (ms h79) a (k42 a n) Tryz.func79
def t43:=ad (t42 D n) 79 (f79 D n)
theorem k43:KO t43:=kc k42 zD7
def h130:Hint:=(.s .o (.b [7,126,10,1023] .o))
@[irreducible] def f130:=(.mk:FY (t43 D n) D n 130 Tryz.f130 h130 []).1
theorem zGC (a:DG e)(n:Nat):FI 130 (f130 e n):=fk n (ms h130) a (k43 a n) Tryz.func130
def t44:=ad (t43 D n) 130 (f130 D n)
theorem k44:KO t44:=kc k43 zGC
def h212:Hint:=(.s .o (.s Hq (.s (.s .o Hq) (.s Hq Hr))))
@[irreducible] def f212:=(.mk:FY (t44 D n) D n 212 Tryz.f212 h212 []).1
def t45:=ad (t44 D n) 212 (f212 D n)
theorem k45:KO t45:=kk k44 (ms h212) Tryz.func212
def h180:Hint:=(.s .o (.s (.s .o (.c [1,0,1] .o .o)) (.s (.s .o (.s .o (.c [0,0] .o .o))) Hr)))
@[irreducible] def zDc:=(.mk:PY (t45 D n) D n 180 Tryz.f180 h180 [] 0).1
@[irreducible] def zGr:=(.mk:PY (t45 D n) D n 180 Tryz.f180 h180 [zDc D n] 1).1
@[irreducible] def f180:=(.mk:FY (t45 D n) D n 180 Tryz.f180 h180 [zDc D n,zGr D n]).1
def t46:=ad (t45 D n) 180 (f180 D n)
theorem k46:KO t46:=kk k45 (ms h180) Tryz.func180
def zLN:Hint:=(.s .o (.s .o (.s (.s .o (.b [4,0,3] (.l [1,0,3,9,10,11] (.s .o (.s (.cr .o .o) (.s (.b0 (.s .o (.s .o (.s .o (.c [0,0,3,9,10,11] .o .o))))) .o)))))) (.s .o (.s (.s .o (.b [3,6] (.l [2,6,25,26,27] (.s .o (.s (.cr .o .o) (.s (.b0 Hr) .o)))))) Hr)))))
@[irreducible] def XV:=(.mk:PY (t46 D n) D n 132 Tryz.f132 zLN [] 0).1
@[irreducible] def KQ:=(.mk:PY (t46 D n) D n 132 Tryz.f132 zLN [XV D n] 1).1
@[irreducible] def KP:=(.mk:PY (t46 D n) D n 132 Tryz.f132 zLN [XV D n,KQ D n] 2).1
@[irreducible] def zGz:=(.mk:PY (t46 D n) D n 132 Tryz.f132 zLN [XV D n,KQ D n,KP D n] 3).1
@[irreducible] def zKs:=(.mk:PY (t46 D n) D n 132 Tryz.f132 zLN [XV D n,KQ D n,KP D n,zGz D n] 4).1
@[irreducible] def f132:=(.mk:FY (t46 D n) D n 132 Tryz.f132 zLN [XV D n,KQ D n,KP D n,zGz D n,zKs D n]).1
def t47:=ad (t46 D n) 132 (f132 D n)
theorem k47:KO t47:=kk k46 (ms zLN) Tryz.func132
def h214:Hint:=(.s .o (.s (.s .o (.c [1,0,1] .o .o)) (.s (.s .o (.s .o (.c [0,0] .o .o))) Hr)))
@[irreducible] def zDb:=(.mk:PY (t47 D n) D n 214 Tryz.f214 h214 [] 0).1
@[irreducible] def zGo:=(.mk:PY (t47 D n) D n 214 Tryz.f214 h214 [zDb D n] 1).1
@[irreducible] def f214:=(.mk:FY (t47 D n) D n 214 Tryz.f214 h214 [zDb D n,zGo D n]).1
def t48:=ad (t47 D n) 214 (f214 D n)
theorem k48:KO t48:=kk k47 (ms h214) Tryz.func214
def zLM:Hint:=(.s .o (.s .o (.s (.s .o (.b [4,0,3] (.l [1,0,3,9,10,11] (.s .o (.s (.cr .o .o) (.s (.b0 (.s .o (.s .o (.s .o (.c [0,0,3,9,10,11] .o .o))))) .o)))))) (.s .o (.s (.s .o (.b [3,6] (.l [2,6,25,26,27] (.s .o (.s (.cr .o .o) (.s (.b0 Hr) .o)))))) Hr)))))
@[irreducible] def XT:=(.mk:PY (t48 D n) D n 178 Tryz.f178 zLM [] 0).1
@[irreducible] def KM:=(.mk:PY (t48 D n) D n 178 Tryz.f178 zLM [XT D n] 1).1
@[irreducible] def KL:=(.mk:PY (t48 D n) D n 178 Tryz.f178 zLM [XT D n,KM D n] 2).1
@[irreducible] def zGt:=(.mk:PY (t48 D n) D n 178 Tryz.f178 zLM [XT D n,KM D n,KL D n] 3).1
@[irreducible] def zKm:=(.mk:PY (t48 D n) D n 178 Tryz.f178 zLM [XT D n,KM D n,KL D n,zGt D n] 4).1
@[irreducible] def f178:=(.mk:FY (t48 D n) D n 178 Tryz.f178 zLM [XT D n,KM D n,KL D n,zGt D n,zKm D n]).1
def t49:=ad (t48 D n) 178 (f178 D n)
theorem k49:KO t49:=kk k48 (ms zLM) Tryz.func178
def h176:Hint:=(.s .o (.s Hq (.s (.s .o (.cl (.s (.c [5,31,11,2047,13,8191] (.l [0,1,2,3,4,6,7,8,9,10,5,11,12,13,14] .o) .o) .o) .o)) (.s (.c [7,127,13,8191,15,32767] (.l [0,1,2,3,4,5,6,8,9,10,11,12,7,13,14,15,16] .o) .o) .o))))
@[irreducible] def f176:=(.mk:FY (t49 D n) D n 176 Tryz.f176 h176 []).1
def t50:=ad (t49 D n) 176 (f176 D n)
theorem k50:KO t50:=kk k49 (ms h176) Tryz.func176
def zNP:Hint:=(.s .o (.s .o (.s (.s .o (.c [2,0,5,7,8,10,11] (.s .o (.s (.s .o (.c [1,0,2,5,7,8,12] .o .o)) (.s (.c [9,511,14,12287] (.l [0,1,2,3,4,5,6,7,8,13,9,10,11,12,14,15] .o) .o) (.s Hq (.s .o (.s .o (.s (.s .o (.c [0,0,5,7,8,10,11,14] (.b [7,127,11,1023] .o) (.b [7,127,11,1023] .o))) Hq))))))) .o)) (.s .o (.s Hq (.s (.c [12,4095,20,794623,26,67108863,28,268435455] (.l [0,1,2,3,4,5,6,7,8,9,10,11,13,14,15,16,17,18,19,21,22,23,24,12,20,25,26,27,28,29] .o) .o) .o))))))
@[irreducible] def zAR:=(.mk:PY (t50 D n) D n 129 Tryz.f129 zNP [] 0).1
@[irreducible] def XW:=(.mk:PY (t50 D n) D n 129 Tryz.f129 zNP [zAR D n] 1).1
@[irreducible] def zAQ:=(.mk:PY (t50 D n) D n 129 Tryz.f129 zNP [zAR D n,XW D n] 2).1
@[irreducible] def f129:=(.mk:FY (t50 D n) D n 129 Tryz.f129 zNP [zAR D n,XW D n,zAQ D n]).1
theorem zGD (a:DG e)(n:Nat):FI 129 (f129 e n):=fk n (ms zNP) a (k50 a n) Tryz.func129
def t51:=ad (t50 D n) 129 (f129 D n)
theorem k51:KO t51:=kc k50 zGD
def s128:Tb:=⟨X,[(76,f76 D n),(77,f77 D n),(79,f79 D n),(129,f129 D n),(130,f130 D n)]⟩
def h128:Hint:=(.s .o (.s (.s .o (.s (.b [2,2] .o) (.cl Hr .o))) (.s .o (.s Hq (.s (.s .o (.c [1,6,7,8,10,11] .o (.s .o (.s .o (.s (.b [6,63,10,511] .o) (.s .o (.c [0,6,7,8,10,11] .o .o))))))) (.s Hq (.s .o Hr)))))))
@[irreducible] def YC:=(.mk:PY (s128 D n) D n 128 Tryz.f128 h128 [] 0).1
@[irreducible] def cZ:=(.mk:PY (s128 D n) D n 128 Tryz.f128 h128 [YC D n] 1).1
@[irreducible] def f128:=(.mk:FY (s128 D n) D n 128 Tryz.f128 h128 [YC D n,cZ D n]).1
theorem zM9 (a:DG e)(n:Nat):FI 128 (f128 e n):=fk n (ms h128) a (sc (zD9 a n) (sc (zD8 a n) (sc (zD7 a n) (sc (zGD a n) (sc (zGC a n) sn))))) Tryz.func128
def t52:=ad (t51 D n) 128 (f128 D n)
theorem k52:KO t52:=kc k51 zM9
def s82:Tb:=⟨X,[(127,f127 D n),(126,f126 D n),(131,f131 D n)]⟩
def h82:Hint:=(.s .o (.s (.b [9,511] .o) (.s (.s .o (.cl (.s .o (.s Hq (.s (.b [3,6,4,15] .o) Hr))) .o)) (.s .o (.s .o (.s .o (.s (.c [5,31,10,767] (.l [0,1,2,3,4,9,5,6,7,8,10,11] .o) .o) (.s Hq Hr))))))))
@[irreducible] def f82:=(.mk:FY (s82 D n) D n 82 Tryz.f82 h82 []).1
theorem zNT (a:DG e)(n:Nat):FI 82 (f82 e n):=fk n (ms h82) a (sc (zGE a n) (sc (zGG a n) (sc (zGB a n) sn))) Tryz.func82
def t53:=ad (t52 D n) 82 (f82 D n)
theorem k53:KO t53:=kc k52 zNT
end Go.Eng.Sh
end
end



