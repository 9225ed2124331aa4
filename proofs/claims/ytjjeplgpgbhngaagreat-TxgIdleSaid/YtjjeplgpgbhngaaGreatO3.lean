/- A checked evaluator for the program, and what it tells, part 3: no condition. -/
import Derived.Test.YtjjeplgpgbhngaaGreatO2
import Derived.KernelRfl
import Derived.Maps.RangeRun
import Derived.Test.YtjjeplgpgbhngaaGreatProg
import Derived.Shelf.Spec.SlicesInsertGrow
import Derived.Ground.Names2Prog
import Derived.Ground.SlmcProg
import Derived.Shelf.SlMaps.Clone
import Derived.Deep.Strs
set_option linter.all false
set_option linter.unusedVariables false
set_option linter.unusedSimpArgs false
set_option maxHeartbeats 8000000
set_option maxRecDepth 20000
variable {H l e c:Nat}{h:List Go.Eng.AV}{n:List Go.Eng.AV->Go.Eng.AH->Option (Go.Eng.AV×Go.Eng.AH)}{i G:Go.Eng.AH}{A:List (Nat×(List Go.Eng.AV->Go.Eng.AH->Option (Go.Eng.AV×Go.Eng.AH)))}{v:List Nat}{p:Go.World}{t:Go.FuncId}{q:Go.Eng.AV}{s:Go.Eng.Ren}{C:Go.Eng.Ex×Go.Eng.AH}{E:Array Go.Value}{F:List Go.Eng.AV->Go.Eng.AH->Go.Eng.Rs}{I:Go.Eng.Dyn->Nat->List Go.Eng.AV->Go.Eng.AH->Option (Go.Eng.AV×Go.Eng.AH)}{J:Nat->Prop}{L:Go.Eng.Hint}{M:Bool}{N:Array Go.MapEntry}{Q:List (Go.Eng.AV×Go.Eng.AV)}{R:Array Go.Oper}{U:List ((Nat×Nat)×(Nat->Go.Eng.ALoop->List Go.Eng.AV->Go.Eng.AH->Option (Go.Eng.AV×Go.Eng.AH)))}{V:Go.TypeId}{W:Go.Value}{Y:Go.Program}{a:Option Go.Code}{f:List Go.Eng.AV->Go.Eng.AH->Option Go.Eng.AH}{g:Go.Func}{j:Go.Eng.Env}{m:Nat->Go.Eng.ALoop->List Go.Eng.AV->Go.Eng.AH->Option (Go.Eng.AV×Go.Eng.AH)}{r:List Go.Frame}{u:Go.Eng.Ex->Go.Eng.AH->Prop}{z:Go.Eng.Dyn}
section
namespace Go.Eng
theorem jb_some {x:Rs}(h:jb H x F=some C): ∃y,x=some y/\((∃vs id,y=(.norm vs,id)/\F vs id=some C)\/(∃vs id,y=(.exit H vs,id)/\F vs id=some C)\/(∃i vs id,i≠H/\y=(.exit i vs,id)/\C=y)\/(∃v id,y=(.ret v,id)/\C=y)):=by
 unfold jb at h;split at h
 .exact⟨_,rfl, .inl ⟨_,_,rfl,h⟩⟩
 .rename_i i vs id;rw[zF]at h;split at h
  .rename_i hi;rw[zX]at hi;subst hi;exact⟨_,rfl, .inr (.inl ⟨_,_,rfl,h⟩)⟩
  .rename_i hi;rw[zX]at hi;injection h with h;exact⟨_,rfl, .inr (.inr (.inl ⟨_,_,_,hi,rfl,h.symm⟩))⟩
 .injection h with h;exact⟨_,rfl, .inr (.inr (.inr ⟨_,_,rfl,h.symm⟩))⟩
 .simp at h
theorem cnd_some {a b:Rs}(h:cnd q a b=some C):(q= .bool true/\a=some C)\/(q= .bool false/\b=some C):=by
 unfold cnd at h;split at h
 .exact .inl ⟨rfl,h⟩
 .exact .inr ⟨rfl,h⟩
 .simp at h
theorem unp_le {K:Env->Rs}(L:unp v h env0 K=some C)(hp:PK j v h): ∃env',K env'=some C/\Le env' j:=by
 obtain⟨env',vs,f⟩:=unp_some L j hp;refine⟨env',vs,fun t x a=> ?_⟩;by_cases i:t∈v
 .rw[<-(f t).1 i];exact a
 .rw[(f t).2 i]at a;simp[look,env0]at a
theorem liveOf_drop {Bk:List (Nat×List Nat)}(h:liveOf (dropB Bk H) l=some v):l≠H/\liveOf Bk l=some v:=by
 induction Bk with
 | nil=>simp[dropB,liveOf]at h
 | cons x Bk ih=>
  obtain⟨j,M⟩:=x;unfold dropB at h;simp only[List.filter_cons]at h;split at h
  .rename_i a;simp only[yS]at a;have f:j≠H:=fun e=>by rw[e]at a;simp[yC]at a
   simp only[liveOf,zF,zX]at h⊢;split at h
   .rename_i e;subst e;rw[if_pos rfl];exact⟨f,h⟩
   .rename_i e;rw[if_neg e];exact ih h
  .rename_i a;have f:j=H:=by
    have:Nat.beq j H=true:=by simpa using a
    simpa using this
   obtain⟨m,o⟩:=ih h;refine⟨m, ?_⟩;simp only[liveOf,zF,zX];rw[if_neg (fun e=>m (by rw[<-e,f]))];exact o
def XP (Bk:List (Nat×List Nat))(out:Ex×AH)(id:Nat)(env:Env)(H:AH):Prop:= ∃L vs,liveOf Bk id=some L/\PK env L vs/\out=(.exit id vs,H)
def RP (X:Cx)(rs:List ResultVar)(out:Ex×AH)(env:Env)(H:AH):Prop:=retE X rs env H=some out
theorem retK_form {X:Cx}{env:Env}{H:AH} : ∀(rs:List ResultVar) (G:List AV->Rs),(∀vs z,G vs=some z-> ∃v,z=(.ret v,H))-> ∀z,retK X rs env H G=some z-> ∃v,z=(.ret v,H)
 | [],G,hG,z,a=>hG _ _ a
 | r::rs,G,hG,z,a=>by
  simp only[retK]at a;obtain⟨v,_,f⟩:=bV_some a;exact retK_form rs _ (fun vs z a=>hG _ _ a) z f
theorem retE_form {X:Cx}{rs:List ResultVar}(h:RP X rs C j i): ∃v,C=(.ret v,i):=
 retK_form rs _ (fun vs z a=>by injection a with a;exact⟨_,a.symm⟩) _ h
def ToldOk (P:Program)(nt:Nat)(f0:FuncId)(c:Code)(L:List Nat)(m:List AV->AH->Option AH):Prop:=
 ∀(ro:Bool) (env:Env) (vs:List AV) (H H':AH),PK env L vs->m vs H=some H'->H.next<=H'.next->SimI P nt f0 ro (.code c) env H (fun env' a=>PK env' L vs/\a=H') (fun _ _ _=>False) (fun _ _=>False)
theorem tld_some {x:Option AH}{K:AH->Rs}(h:tld x H K=some C): ∃H',x=some H'/\H<=H'.next/\K H'=some C:=by
 unfold tld at h;split at h
 .rename_i H';rw[zF]at h;split at h
  .rename_i a;rw[qO]at a;exact⟨H',rfl,a,h⟩
  .simp at h
 .simp at h
def SitesP (P:Program)(f0:FuncId)(nt:Nat):Code->Hint->Prop
 | .seq a b, .s ha hb=>SitesP P f0 nt a ha/\SitesP P f0 nt b hb
 | .cond _ a b, .c _ ha hb=>SitesP P f0 nt a ha/\SitesP P f0 nt b hb
 | .cond _ a b, .cl ha hb=>SitesP P f0 nt a ha/\SitesP P f0 nt b hb
 | .cond _ a b, .cr ha hb=>SitesP P f0 nt a ha/\SitesP P f0 nt b hb
 | .block _ b, .b _ hb=>SitesP P f0 nt b hb
 | .block _ b, .b0 hb=>SitesP P f0 nt b hb
 | .seq a b, .t L m=>ToldOk P nt f0 (.seq a b) L m
 | .loop b, .l _ hb=>SitesP P f0 nt b hb
 | .rangeFunc _ ps a b, .rf s _=>siteC f0 s=some (nt,ps,a,b)
 | _,_=>True
theorem newB_some {o:AObj}{K:Nat->AH->Rs}(h:newB i o K=some C): ∃t,T.set 40 i.h i.next o=some t/\T.get i.h i.next=none/\K i.next ⟨t,i.next+1⟩=some C:=by
 unfold newB at h;split at h
 .rename_i a;split at h
  .rename_i t f;rw[fN_eq]at h;exact⟨t,f,a,h⟩
  .simp at h
 .simp at h
theorem endLp_some {K:Option Code->AH->Rs}(h:endLp H i K=some C): ∃l H',i.h.get H=some (.loop l)/\l.state≠ .busy/\putA i H .dead=some H'/\K l.pending H'=some C:=by
 unfold endLp at h;split at h
 .rename_i l a;split at h
  .simp at h
  .rename_i hb;split at h
   .rename_i H' hp;exact⟨l,H',a,hb,hp,h⟩
   .simp at h
 .simp at h
theorem exS_some {env:Env}{H:AH}{id:Nat}{out:Ex×AH} : ∀ {Bk:List (Nat×List Nat)},exS Bk env H id=some out->XP Bk out id env H
 | [],h=>by simp[exS]at h
 | (i,L)::r,h=>by
  simp only[exS,zF,zX]at h;split at h
  .rename_i e;obtain⟨vs,f,a⟩:=pck_some h;injection a with a
   exact⟨L,vs,by simp[liveOf,e],f,a.symm⟩
  .rename_i e;obtain⟨j,vs,f,a,h3⟩:=exS_some h;refine⟨j,vs, ?_,a,h3⟩;simp only[liveOf,zF,zX,if_neg e];exact f
theorem envA_look {env:Env} : ∀ {L:List Nat} {vs:List AV} {base:Env},PK env L vs-> ∀t,(t∈L->look (envA L vs base) t=look env t)/\(t∉L->look (envA L vs base) t=look base t)
 | [],vs,base,h,t=>by
  simp only[PK]at h;subst h;exact⟨fun h=>by simp at h,fun _=>rfl⟩
 | l::L,vs,base,⟨v,vs',e,hv,hp⟩,t=>by
  subst e;obtain⟨j,i⟩:=envA_look (base:=upd base l v) hp t;simp only[envA];refine⟨fun a=> ?_,fun a=> ?_⟩
  .by_cases f:t∈L
   .exact j f
   .rw[i f];have:t=l:=by
              simp at a;rcases a with h | h
              .exact h
              .exact absurd h f
    subst this;simp only[look,upd_at,if_true];exact hv.symm
  .simp only[zM,not_or]at a;rw[i a.2];simp only[look,upd_at,if_neg a.1]
theorem envL_le (L:PK j v h):Le (envL v h) j:=by
 intro t x a;obtain⟨i,env⟩:=envA_look (base:=env0) L t;by_cases f:t∈v
 .rw[<-i f];exact a
 .have:=env f;simp only[envL]at a;rw[this]at a;simp[look,env0]at a
theorem Rel.alloc_out (h:Rel s i p)(o:Obj):Rel s i (p.alloc o):=
 ⟨h.fn,h.inj,fun A b d c x r a=>by rw[heap_alloc_old _ _ _ (h.lt _ _ _ _ r).1];exact h.obj A b d c x r a,fun A b d c r=>by rw[heap_alloc_size];exact⟨Nat.lt_succ_of_lt (h.lt _ _ _ _ r).1,(h.lt _ _ _ _ r).2⟩⟩
theorem Ext.alloc_out (R:Ren)(H:AH)(w:World)(o:Obj):Ext R H w R H (w.alloc o):=
 ⟨jT R,fun _ _ _ _ h=> .inl h,fun _ _ _ _ h=> .inl h,zK _,fun _ _ _=>rfl,rfl,rfl,rfl,by rw[heap_alloc_size];omega,fun b hb _=>heap_alloc_old _ _ _ hb⟩
section
variable {P:Program}{B:Tb}{D:Dyn}(hX:Ok P B.X)(hr:Good P (rOf B D)){nt:Nat}{rs:List ResultVar}{f0:FuncId}{ro:Bool}
theorem ends_block {id:Nat}{k:List Item}{fr:Frame}{cs:List Frame}{a w:World}{tmps:Array Value}{ds:List Deferred}(hm:fr.mode= .run)(h:Steps P (lone fr cs a) (lone { fr with tmps:=tmps,todo:= .inBlock id::k,defers:=ds} cs w)):
  Steps P (lone fr cs a) (lone { fr with tmps:=tmps,todo:=k,defers:=ds} cs w):=
 h.trans (.one (st_inBlock (fr:= { fr with tmps:=tmps,todo:= .inBlock id::k,defers:=ds}) hm rfl))
theorem ends_exit {id:Nat}{k k':List Item}{fr:Frame}{cs:List Frame}{a w:World}{tmps:Array Value}{ds:List Deferred}(hm:fr.mode= .run)(f:exitTo id k'=some k)(h:Steps P (lone fr cs a) (lone { fr with tmps:=tmps,todo:= .code (.exit id)::k',defers:=ds} cs w)):
  Steps P (lone fr cs a) (lone { fr with tmps:=tmps,todo:=k,defers:=ds} cs w):=
 h.trans (.one (st_exit (fr:= { fr with tmps:=tmps,todo:= .code (.exit id)::k',defers:=ds}) hm rfl f))
include hX hr in
theorem codeK_ok {n:Nat} : ∀(c:Code) (h:Hint) (Bk:List (Nat×List Nat)) (K:Env->AH->Rs) (env:Env) (H:AH) (out:Ex×AH),SitesP P f0 nt c h->codeK B D n nt rs f0 ro c h Bk K env H=some out->
  SimI P nt f0 ro (.code c) env H (fun env' H'=>K env' H'=some out) (XP Bk out) (RP B.X rs out):=by
 intro c
 induction c with
 | skip=>
  intro h Bk K env H out O o lo R fr k cs w hm J G u hL I M;simp only[codeK]at o;exact⟨R,w,fr.tmps,k,fr.defers,env,H, .one (st_skip hm G),u,hL,jX R H w,zK _,I, .inl ⟨rfl,o⟩⟩
 | label l=>
  intro h Bk K env H out O o lo R fr k cs w hm J G u hL I M;simp only[codeK]at o;exact⟨R,w,fr.tmps,k,fr.defers,env,H, .one (st_label hm G),u,hL,jX R H w,zK _,I, .inl ⟨rfl,o⟩⟩
 | region id ops draw=>
  intro h Bk K env H out O o;simp only[codeK]at o;exact regK_ok hX hr o f0 ro _ _
 | seq a b iha ihb=>
  intro h Bk K env H out O o
  cases h with
  | s ha hb=>
   simp only[codeK]at o;intro lo R fr k cs w hm J G u hL I M;refine jQ (st_seq hm G) rfl ?_;refine SimI.then [.code b] (fun id k=>rfl) (iha ha Bk _ env H out O.1 o) (fun d5 H1 h3 lo R fr k cs w hm J G u hL I M=> ?_) lo R { fr with todo:= .code a:: .code b::k} k cs w hm J rfl u hL I M;exact ihb hb Bk K d5 H1 out O.2 h3 lo R fr k cs w hm J G u hL I M
  | t L m=>
   simp only[codeK]at o;obtain⟨vs,hp,o⟩:=pck_some o;obtain⟨H',hm,i2,o⟩:=tld_some o;intro lo R fr k cs w i3 J G u hL I M;obtain⟨N,p,Q,T,ds,env',i4,V,W,Y,U,Z,a6,a7⟩:=O ro env vs H H' hp hm i2 lo R fr k cs w i3 J G u hL I M;rcases a7 with⟨b1,b2,rfl⟩ | ⟨i,k',b1,b2,b3⟩ | ⟨k',b1,b2⟩
   .obtain⟨g7,c1,c2⟩:=unp_le o b2;exact⟨N,p,Q,T,ds,g7,i4,V,W.le c2,Y,U,Z,a6, .inl ⟨b1,c1⟩⟩
   .exact b3.elim
   .exact b2.elim
  | _=>simp[codeK]at o
 | cond c a b iha ihb=>
  intro h Bk K env H out O o
  cases h with
  | c L ha hb=>
   simp only[codeK]at o;split at o
   .rename_i v hv;intro lo R fr k cs w hm J G u hL I M;have b8:=opd_ok u _ _ hv;have key: ∀(t:Bool) (cc:Code) (hh:Hint),v= .bool t->cc=(if t then a else b)->
      (∀y,codeK B D n nt rs f0 ro cc hh Bk (fun env H=>pck L env fun vs=>some (.norm vs,H)) env H=some y->SimI P nt f0 ro (.code cc) env H (fun env' H'=>(pck L env' fun vs=>some (.norm vs,H'))=some y) (XP Bk y) (RP B.X rs y))->
      jn (codeK B D n nt rs f0 ro cc hh Bk (fun env H=>pck L env fun vs=>some (.norm vs,H)) env H) (fun vs H=>unp L vs env0 fun env=>K env H)=some out->
      ∃N p c0 T ds env' H',Steps P (lone fr cs w) (lone { fr with tmps:=c0,todo:=T,defers:=ds} cs p)/\EnvR N env' nt c0/\Rel N H' p/\Ext R H w N H' p/\H.next<=H'.next/\Marks lo N p ds/\Ends k (fun env' H'=>K env' H'=some out) (XP Bk out) (RP B.X rs out) T env' H':=by
     intro t cc hh i5 i6 ih hj;subst i5 i6;refine jQ (st_cond hm G b8) rfl ?_
     cases hy:codeK B D n nt rs f0 ro (if t then a else b) hh Bk (fun env H=>pck L env fun vs=>some (.norm vs,H)) env H with
     | none=>rw[hy]at hj;simp[jn]at hj
     | some y=>
      rw[hy]at hj;obtain⟨N,p,Q,T,ds,env',H',V,W,Y,U,Z,a6,a7⟩:=ih y hy lo R { fr with todo:= .code (if t then a else b)::k} k cs w hm J rfl u hL I M
      rcases a7 with⟨b1,b2⟩ | ⟨id,k',b1,b2,L',vs',b3,b4,b5⟩ | ⟨k',b1,b2⟩
      .obtain⟨vs,c1,c2⟩:=pck_some b2;injection c2 with c2;subst c2
       obtain⟨env2,d1,d2⟩:=unp_le hj c1;exact⟨N,p,Q,T,ds,env2,H',V,W.le d2,Y,U,Z,a6, .inl ⟨b1,d1⟩⟩
      .subst b5;simp only[jn,zB]at hj;exact⟨N,p,Q,T,ds,env',H',V,W,Y,U,Z,a6, .inr (.inl ⟨id,k',b1,b2,L',vs',b3,b4,hj.symm⟩)⟩
      .have c3:=retE_form b2;obtain⟨v,rfl⟩:=c3;simp only[jn,zB]at hj;subst hj;exact⟨N,p,Q,T,ds,env',H',V,W,Y,U,Z,a6, .inr (.inr ⟨k',b1,b2⟩)⟩
    have l6:=o
    cases v with
    | bool t=>
     cases t with
     | true=>exact key true a ha rfl rfl (fun y hy=>iha ha Bk _ env H y O.1 hy) o
     | false=>exact key false b hb rfl rfl (fun y hy=>ihb hb Bk _ env H y O.2 hy) o
    | _=>simp[cnd,jn]at o
   .simp at o
  | cl ha hb=>
   simp only[codeK]at o;split at o
   .rename_i v hv;intro lo R fr k cs w hm J G u hL I M;have b8:=opd_ok u _ _ hv;rcases cnd_some o with⟨rfl,h1⟩ | ⟨rfl,h1⟩
    .refine jQ (st_cond hm G b8) rfl ?_;exact((iha ha Bk _ env H out O.1 h1).mono (fun _ _ h=>by simp at h) (fun _ _ _ h=>h) (fun _ _ h=>h)) lo R { fr with todo:= .code a::k} k cs w hm J rfl u hL I M
    .refine jQ (st_cond hm G b8) rfl ?_;exact ihb hb Bk _ env H out O.2 h1 lo R { fr with todo:= .code b::k} k cs w hm J rfl u hL I M
   .simp at o
  | cr ha hb=>
   simp only[codeK]at o;split at o
   .rename_i v hv;intro lo R fr k cs w hm J G u hL I M;have b8:=opd_ok u _ _ hv;rcases cnd_some o with⟨rfl,h1⟩ | ⟨rfl,h1⟩
    .refine jQ (st_cond hm G b8) rfl ?_;exact iha ha Bk _ env H out O.1 h1 lo R { fr with todo:= .code a::k} k cs w hm J rfl u hL I M
    .refine jQ (st_cond hm G b8) rfl ?_;exact((ihb hb Bk _ env H out O.2 h1).mono (fun _ _ h=>by simp at h) (fun _ _ _ h=>h) (fun _ _ h=>h)) lo R { fr with todo:= .code b::k} k cs w hm J rfl u hL I M
   .simp at o
  | _=>simp[codeK]at o
 | block id b ih=>
  intro h Bk K env H out O o
  cases h with
  | b L hb=>
   simp only[codeK]at o;intro lo R fr k cs w hm J G u hL I M;obtain⟨y,hy,c6⟩:=jb_some o;refine jQ (st_block hm G) rfl ?_;obtain⟨N,p,Q,T,ds,env',H',V,W,Y,U,Z,a6,a7⟩:=ih hb _ _ env H y O hy lo R { fr with todo:= .code b:: .inBlock id::k} (.inBlock id::k) cs w hm J rfl u hL I M;rcases a7 with⟨b1,b2⟩ | ⟨i,k',b1,b2,L',vs',b3,b4,b5⟩ | ⟨k',b1,b2⟩
   .obtain⟨vs,c1,c2⟩:=pck_some b2;injection c2 with c2;subst c2
    rcases c6 with⟨a8,S,C,e2⟩ | ⟨a8,S,C,_⟩ | ⟨i,a8,S,_,C,_⟩ | ⟨v,S,C,_⟩
    .simp only[zQ,Ex.norm.injEq]at C;obtain⟨rfl,rfl⟩:=C;obtain⟨env2,d1,d2⟩:=unp_le e2 c1;subst b1;exact⟨N,p,Q,k,ds,env2,H',ends_block (fr:= { fr with todo:= .code b:: .inBlock id::k}) hm V,W.le d2,Y,U,Z,a6, .inl ⟨rfl,d1⟩⟩
    .simp at C
    .simp at C
    .simp at C
   .subst b5;by_cases hi:i=id
    .subst hi;simp only[liveOf,yC,zP,zB]at b3;subst b3;rcases c6 with⟨a8,S,C,_⟩ | ⟨a8,S,C,e2⟩ | ⟨j,a8,S,e0,C,_⟩ | ⟨v,S,C,_⟩
     .simp at C
     .simp only[zQ,Ex.exit.injEq,true_and]at C;obtain⟨rfl,rfl⟩:=C;obtain⟨env2,d1,d2⟩:=unp_le e2 b4;subst b1;have i7:exitTo i k'=some k:=by rw[b2];simp[exitTo]
      exact⟨N,p,Q,k,ds,env2,H',ends_exit (fr:= { fr with todo:= .code b:: .inBlock i::k}) hm i7 V,W.le d2,Y,U,Z,a6, .inl ⟨rfl,d1⟩⟩
     .simp only[zQ,Ex.exit.injEq]at C;exact absurd C.1.1.symm e0
     .simp at C
    .have e8:liveOf Bk i=some L':=by
      simp only[liveOf,zF,zX,if_neg (fun e=>hi (Eq.symm e))]at b3;exact b3
     have e9:exitTo i k'=exitTo i k:=by
      rw[b2];simp only[exitTo];rw[if_neg (by simpa using fun e=>hi (Eq.symm e))]
     rcases c6 with⟨a8,S,C,_⟩ | ⟨a8,S,C,_⟩ | ⟨j,a8,S,e0,C,e2⟩ | ⟨v,S,C,_⟩
     .simp at C
     .simp only[zQ,Ex.exit.injEq]at C;exact absurd C.1.1 hi
     .exact⟨N,p,Q,T,ds,env',H',V,W,Y,U,Z,a6, .inr (.inl ⟨i,k',b1,e9,L',vs',e8,b4,e2⟩)⟩
     .simp at C
   .have c3:=retE_form b2;obtain⟨v,rfl⟩:=c3;rcases c6 with⟨a8,S,C,_⟩ | ⟨a8,S,C,_⟩ | ⟨j,a8,S,e0,C,_⟩ | ⟨v2,S,C,e2⟩
    .simp at C
    .simp at C
    .simp at C
    .subst e2;exact⟨N,p,Q,T,ds,env',H',V,W,Y,U,Z,a6, .inr (.inr ⟨k',b1,b2⟩)⟩
  | b0 hb=>
   simp only[codeK]at o;intro lo R fr k cs w hm J G u hL I M;refine jQ (st_block hm G) rfl ?_;obtain⟨N,p,Q,T,ds,env',H',V,W,Y,U,Z,a6,a7⟩:=ih hb _ _ env H out O o lo R { fr with todo:= .code b:: .inBlock id::k} (.inBlock id::k) cs w hm J rfl u hL I M;rcases a7 with⟨b1,b2⟩ | ⟨i,k',b1,b2,L',vs',b3,b4,b5⟩ | ⟨k',b1,b2⟩
   .subst b1;exact⟨N,p,Q,k,ds,env',H',ends_block (fr:= { fr with todo:= .code b:: .inBlock id::k}) hm V,W,Y,U,Z,a6, .inl ⟨rfl,b2⟩⟩
   .obtain⟨hi,e8⟩:=liveOf_drop b3;have e9:exitTo i k'=exitTo i k:=by
     rw[b2];simp only[exitTo];rw[if_neg (by simpa using fun e=>hi (Eq.symm e))]
    exact⟨N,p,Q,T,ds,env',H',V,W,Y,U,Z,a6, .inr (.inl ⟨i,k',b1,e9,L',vs',e8,b4,b5⟩)⟩
   .exact⟨N,p,Q,T,ds,env',H',V,W,Y,U,Z,a6, .inr (.inr ⟨k',b1,b2⟩)⟩
  | _=>simp[codeK]at o
 | loop b ih=>
  intro h Bk K env H out O o
  cases h with
  | l L hb=>
   simp only[codeK]at o;obtain⟨i8,i9,o⟩:=pck_some o;have key: ∀(m:Nat) (vs:List AV) (env:Env) (H:AH),PK env L vs->loopK m (fun vs H=>unp L vs env0 fun env=>codeK B D n nt rs f0 ro b hb Bk (fun env H=>pck L env fun vs=>some (.norm vs,H)) env H) vs H=some out->
     ∀(lo:Nat) (R:Ren) (fr:Frame) (k:List Item) (cs:List Frame) (w:World),fr.mode= .run->(ro=false->fr.roundOf=none/\fr.fn=f0)->fr.todo= .code b:: .inLoop b::k->EnvR R env nt fr.tmps->Rel R H w->Marks lo R w fr.defers->lo<=w.heap.size->
     ∃N p c0 T ds env' H',Steps P (lone fr cs w) (lone { fr with tmps:=c0,todo:=T,defers:=ds} cs p)/\EnvR N env' nt c0/\Rel N H' p/\Ext R H w N H' p/\H.next<=H'.next/\Marks lo N p ds/\Ends k (fun env' H'=>K env' H'=some out) (XP Bk out) (RP B.X rs out) T env' H':=by
    intro m
    induction m with
    | zero=>intro vs env H _ hl;have b7:(none:Rs)=some out:=hl;simp at b7
    | succ m ihm=>
     intro vs env H hp hl lo R fr k cs w hm J G u hL I M;have b7:jn (unp L vs env0 fun env=>codeK B D n nt rs f0 ro b hb Bk (fun env H=>pck L env fun vs=>some (.norm vs,H)) env H) (loopK m (fun vs H=>unp L vs env0 fun env=>codeK B D n nt rs f0 ro b hb Bk (fun env H=>pck L env fun vs=>some (.norm vs,H)) env H))=some out:=hl
     cases hy:(unp L vs env0 fun env=>codeK B D n nt rs f0 ro b hb Bk (fun env H=>pck L env fun vs=>some (.norm vs,H)) env H)with
     | none=>rw[hy]at b7;simp[jn]at b7
     | some y=>
      rw[hy]at b7;obtain⟨d5,d1,d2⟩:=unp_le hy hp;obtain⟨N,p,Q,T,ds,env',H',V,W,Y,U,Z,a6,a7⟩:=ih hb Bk _ d5 H y O d1 lo R fr (.inLoop b::k) cs w hm J G (u.le d2) hL I M;rcases a7 with⟨b1,b2⟩ | ⟨i,k',b1,b2,L',vs',b3,b4,b5⟩ | ⟨k',b1,b2⟩
      .obtain⟨a8,c1,c2⟩:=pck_some b2;injection c2 with c2;subst c2
       subst b1;have j0:loopK m (fun vs H=>unp L vs env0 fun env=>codeK B D n nt rs f0 ro b hb Bk (fun env H=>pck L env fun vs=>some (.norm vs,H)) env H) a8 H'=some out:=b7;obtain⟨R2,w2,t2,j1,j2,env2,S,C,e2,e3,e4,e5,e6,e7⟩:=ihm a8 env' H' c1 j0 lo N { fr with tmps:=Q,todo:= .code b:: .inLoop b::k,defers:=ds} k cs p hm J rfl W Y a6 (qP M U.size);have g8:=Steps.one (st_inLoop (P:=P) (cs:=cs) (w:=p) (fr:= { fr with tmps:=Q,todo:= .inLoop b::k,defers:=ds}) hm rfl);exact⟨R2,w2,t2,j1,j2,env2,S,V.trans (g8.trans C),e2,e3,U.trans e4,qP Z e5,e6,e7⟩
      .subst b5;simp only[jn,zB]at b7;exact⟨N,p,Q,T,ds,env',H',V,W,Y,U,Z,a6, .inr (.inl ⟨i,k',b1,b2,L',vs',b3,b4,b7.symm⟩)⟩
      .have c3:=retE_form b2;obtain⟨v,rfl⟩:=c3;simp only[jn,zB]at b7;subst b7;exact⟨N,p,Q,T,ds,env',H',V,W,Y,U,Z,a6, .inr (.inr ⟨k',b1,b2⟩)⟩
   intro lo R fr k cs w hm J G u hL I M;refine jQ (st_loop hm G) rfl ?_;exact key n i8 env H i9 o lo R { fr with todo:= .code b:: .inLoop b::k} k cs w hm J rfl u hL I M
  | _=>simp[codeK]at o
 | exit id=>
  intro h Bk K env H out O o lo R fr k cs w hm J G u hL I M;simp only[codeK]at o;split at o
  .rename_i L j3;obtain⟨vs,h1,h2⟩:=pck_some o;injection h2 with h2
   refine⟨R,w,fr.tmps,fr.todo,fr.defers,env,H, ?_,u,hL,jX R H w,zK _,I, .inr (.inl ⟨id,k,G,rfl,L,vs,j3,h1,h2.symm⟩)⟩;exact .refl _ _
  .simp at o
 | ret=>
  intro h Bk K env H out O o lo R fr k cs w hm J G u hL I M;simp only[codeK]at o;refine⟨R,w,fr.tmps,fr.todo,fr.defers,env,H, ?_,u,hL,jX R H w,zK _,I, .inr (.inr ⟨k,G,o⟩)⟩;exact .refl _ _
 | rangeFunc f params assign body _ _=>
  intro h Bk K env H out O o
  cases h with
  | rf s L=>
   simp only[codeK,zF]at o;split at o
   .simp at o
   .rename_i h4;have g9:ro=false:=by simpa using h4
    split at o
    .rename_i fv j4;obtain⟨vs,hp,o⟩:=pck_some o;obtain⟨Q,f4,l4,o⟩:=newB_some o;obtain⟨v,S,c7,o⟩:=bR_some o;obtain⟨lp,H3,f6,h0,c4,o⟩:=endLp_some o;unfold rfC at c7;split at c7
     .rename_i g first cap _ _
      intro lo R fr k cs w hm J G u hL I M;obtain⟨c9,h5⟩:=J g9;obtain⟨j5,h6⟩:=hr.call _ _ _ _ _ c7;obtain⟨a9,b6,j6,j7,j8⟩:=opd_ok u _ _ j4
      let LP:Loop:= { state:= .ready,pending:=none,fn:=fr.fn,tmps:=fr.tmps,params:=params,assign:=assign,body:=body,defers:=w.heap.size}
      let W1:World:=(w.alloc (.deferred (some []))).alloc (.loop LP)
      let a0:Frame:= { fr with todo:= .inRangeFunc (w.heap.size+1)::k,defers:= { target:= .collected w.heap.size,args:= #[] } ::fr.defers}
      let R1:Ren:=R.add H.next (w.heap.size+1) 0 0
      have j9:=hL.alloc_out (.deferred (some []));have d6:(w.alloc (.deferred (some []))).heap.size=w.heap.size+1:=heap_alloc_size _ _;have f7:Rel R1 ⟨Q,H.next+1⟩ W1:=by
       have:=j9.new (c:=0) (x:= .loop LP) f4 ⟨LP,nt,rfl,O,rfl,rfl,h5,(u.le (envL_le hp)).mono (R.sub_add _ _ _ _)⟩;rw[d6]at this;exact this
      have c5:Ext R H w R1 ⟨Q,H.next+1⟩ W1:=by
       have:=(Ext.alloc_out R H w (.deferred (some []))).trans (Ext.add (c:=0) (x:= .loop LP) f4);rw[d6]at this;exact this
      have f8:R1 H.next (w.heap.size+1) 0 0:=R.add_self _ _ _ _
      have k0:Marks lo R1 W1 a0.defers:=by
       have f9:=I.ext c5;refine⟨yJ.2 ⟨fun q hq r e=> ?_,f9.1⟩,fun q hq=> ?_⟩
       .obtain⟨r',e',_,h2,_,_⟩:=I.2 q hq;rw[e'];intro e2;simp only[Deferred.mk.injEq,Target.collected.injEq,and_true]at e e2;omega
       .rcases zM.1 hq with rfl | hq
        .refine⟨w.heap.size,rfl,M, ?_, ?_, ?_⟩
         .show w.heap.size<W1.heap.size;simp only[W1,heap_alloc_size];omega
         .rintro A d c (h | ⟨_,h,_⟩)
          .have:=(hL.lt _ _ _ _ h).1;omega
          .omega
         .show((w.alloc (.deferred (some []))).alloc (.loop LP)).heap[w.heap.size]? =_;rw[heap_alloc_old _ _ _ (by rw[d6];omega),heap_alloc_same]
        .exact f9.2 q hq
      have k1:VRL R1 [AV.yT H.next] [Value.func (.yield (w.heap.size+1)) #[] #[]]:=⟨_,[],rfl,⟨_,_,_,f8,rfl⟩,rfl⟩
      have f1:VRL R1 (first++[AV.yT H.next]++cap) ((a9++[Value.func (.yield (w.heap.size+1)) #[] #[]])++b6):=
       ((VRL.mono c5.sub _ _ j7).append k1).append (VRL.mono c5.sub _ _ j8)
      have g0:=run_enterLoop_outer (P:=P) (w:=w) fr.fn fr.tmps params assign body;have f5: ∀F:Frame,F.tmps=fr.tmps->(resolve F.eval { callee:= .value f,args:= #[.const (.func (.yield (w.heap.size+1)) #[] #[])],argTypes:= #[] } 0).run P ((w.alloc (.deferred (some []))).alloc (.loop { state:= .ready,pending:=none,fn:=fr.fn,tmps:=fr.tmps,params:=params,assign:=assign,body:=body,defers:=w.heap.size}))=
        .ok { target:= .fn (.func g) ⟨b6⟩,args:=⟨a9++[Value.func (.yield (w.heap.size+1)) #[] #[]]⟩ } ((w.alloc (.deferred (some []))).alloc (.loop { state:= .ready,pending:=none,fn:=fr.fn,tmps:=fr.tmps,params:=params,assign:=assign,body:=body,defers:=w.heap.size})):=by
       intro F hF;have k2:F.eval f=fr.eval f:=by cases f<;>simp[Frame.eval,hF]
       have h7:F.eval f= .func (.func g) ⟨a9⟩ ⟨b6⟩:=k2.trans j6
       have k3:F.eval (.const (.func (.yield (w.heap.size+1)) #[] #[]))= .func (.yield (w.heap.size+1)) #[] #[]:=rfl;simp[resolve,h7,Deferred.ofValue,k3]
      have c8: ∀p,(invoke (.fn (.func g) ⟨b6⟩) ⟨a9++[Value.func (.yield (w.heap.size+1)) #[] #[]]⟩).run P p=(callFunc g ⟨(a9++[Value.func (.yield (w.heap.size+1)) #[] #[]])++b6⟩).run P p:=by
       intro p;have k4:(⟨a9++[Value.func (.yield (w.heap.size+1)) #[] #[]]⟩:Array Value)++⟨b6⟩=⟨(a9++[Value.func (.yield (w.heap.size+1)) #[] #[]])++b6⟩:=by
        apply Array.toList_inj.1;simp
       simp only[invoke,k4]
      have g4: ∃R2 w2 z,Steps P (lone fr cs w) (lone { a0 with todo:= .endRangeFunc (w.heap.size+1)::k} cs w2)/\VR R2 v z/\Rel R2 S w2/\Ext R1 ⟨Q,H.next+1⟩ W1 R2 S w2:=by
       rcases h6 with⟨⟨fn,g1,l5⟩,k5⟩ | h8
       .have d0:step P (lone fr cs w)= .next (lone (Frame.enter P g ⟨(a9++[Value.func (.yield (w.heap.size+1)) #[] #[]])++b6⟩ .normal) (a0::cs) W1):=by
         refine step_lone_go ?_;have k6:=hX.nm g fn g1;have hb:fn.body.isNone=false:=by cases hh:fn.body<;>simp_all
         have g2: ∀p,(callFunc g ⟨(a9++[Value.func (.yield (w.heap.size+1)) #[] #[]])++b6⟩).run P p= .ok (.enter g ⟨(a9++[Value.func (.yield (w.heap.size+1)) #[] #[]])++b6⟩) p:=by
          intro p;simp only[callFunc,program,zG,Sem.run,Result.andThen,g1,k6,zL,qD,hb,zJ]
         simp only[stepG,stepG.exec,hm,G,c9,Sem.runT_eq,g0,stepG.apply,zG];simp only[qB,qV,if_true];simp only[qC,qB,qV]at c8 g2⊢;simp[f5,c8,g2,a0,W1,LP,hm,c9]
        obtain⟨R2,w2,z,k7,s2,f2,k8,v2,l2,x2⟩:=k5 R1 _ (a0::cs) W1 f1 f7;have g5:step P (lone k7 (a0::cs) w2)= .next (lone { a0 with todo:= .endRangeFunc (w.heap.size+1)::k} cs w2):=step_leave_returned k8
        exact⟨R2,w2,z,(Steps.one d0).trans (s2.trans (.one g5)),v2,l2,x2⟩
       .obtain⟨R2,w2,z,h9,v2,l2,x2⟩:=h8 R1 _ W1 f1 f7;have d0:step P (lone fr cs w)= .next (lone { a0 with todo:= .endRangeFunc (w.heap.size+1)::k} cs w2):=by
         refine step_lone_go ?_;have f3:(callFunc g ⟨(a9++[Value.func (.yield (w.heap.size+1)) #[] #[]])++b6⟩).run P ((w.alloc (.deferred (some []))).alloc (.loop { state:= .ready,pending:=none,fn:=fr.fn,tmps:=fr.tmps,params:=params,assign:=assign,body:=body,defers:=w.heap.size}))= .ok (.value z) w2:=h9
         simp only[stepG,stepG.exec,hm,G,c9,Sem.runT_eq,g0,stepG.apply,zG];simp only[qB,qV,if_true];simp only[qC,qB,qV]at c8 f3;simp[f5,c8,f3,a0,hm,c9,Frame.finish]
        exact⟨R2,w2,z, .one d0,v2,l2,x2⟩
      obtain⟨R2,w2,z,s2,v2,l2,x2⟩:=g4;have d7:R2 H.next (w.heap.size+1) 0 0:=x2.sub _ _ _ _ f8
      obtain⟨L2,l7,k9,_,i0,i1,_,_⟩:=l2.obj _ _ _ _ _ d7 f6;have l0:=run_endLoop (P:=P) k9 (by rw[i0];exact h0);have g6:step P (lone { a0 with todo:= .endRangeFunc (w.heap.size+1)::k} cs w2)= .next (lone { a0 with todo:=(lp.pending.map Item.code).toList++k} cs (wput w2 (w.heap.size+1) (.loop { L2 with state:= .exhausted}))):=by
       refine step_lone_go ?_;have l1:a0.mode= .run:=hm;simp only[stepG,stepG.exec,l1,Sem.runT_eq,l0,i1];simp[World.putObj,wput]
      unfold putA at c4;split at c4
      .rename_i t3 g3;simp only[zB]at c4;subst c4;have l3:=l2.put d7 ⟨_,f6,trivial⟩ g3 (x:= .loop { L2 with state:= .exhausted}) (o':= .dead) trivial;have x3:Ext R2 S w2 R2 ⟨t3,S.next⟩ (wput w2 (w.heap.size+1) (.loop { L2 with state:= .exhausted})):=Ext.put d7 g3
       have d8:=c5.trans (x2.trans x3);have d3:=(k0.ext x2).ext x3;have d4:EnvR R2 env nt fr.tmps:=u.mono (c5.sub.trans x2.sub);have b9:=s2.trans (Steps.one g6);have d9:H.next<=S.next:=qP (Nat.le_succ _) j5
       unfold jmpK at o;split at o
       .rename_i hj;rw[hj]at b9;exact⟨R2,_,fr.tmps,k,a0.defers,env,_,b9,d4,l3,d8,d9,d3, .inl ⟨rfl,o⟩⟩
       .rename_i id hj;rw[hj]at b9;exact⟨R2,_,fr.tmps, .code (.exit id)::k,a0.defers,env,_,b9,d4,l3,d8,d9,d3, .inr (.inl ⟨id,k,rfl,rfl,exS_some o⟩)⟩
       .rename_i hj;rw[hj]at b9;exact⟨R2,_,fr.tmps, .code .ret::k,a0.defers,env,_,b9,d4,l3,d8,d9,d3, .inr (.inr ⟨k,rfl,o⟩)⟩
       .simp at o
      .simp at c4
     .simp at c7
    .simp at o
  | _=>simp[codeK]at o
 | scope b _=>intro h Bk K env H out O o;simp[codeK]at o
 | goto l=>intro h Bk K env H out O o;simp[codeK]at o
 | refuse why=>intro h Bk K env H out O o;simp[codeK]at o
end
theorem Rel.wput_out (h:Rel s i p){x:Obj}(hr: ∀A d c,¬s A H d c):Rel s i (wput p H x):=
 ⟨h.fn,h.inj,fun A b d c o a f=>by
  rw[wput_other _ _ _ _ (fun e=>by subst e;exact hr _ _ _ a)];exact h.obj A b d c o a f,
  fun A b d c a=>by rw[wput_size];exact h.lt A b d c a⟩
theorem Ext.wput_above {f:Ren}{w:World}(h:Ext s i p f G w)(x:Obj)(hr:p.heap.size<=H):Ext s i p f G (wput w H x) where
 sub:=h.sub
 new:=h.new
 newA:=h.newA
 next:=h.next
 keepA:=h.keepA
 os:=h.os
 tape:=h.tape
 output:=h.output
 size:=by rw[wput_size];exact h.size
 keep b hb hR:=by rw[wput_other _ _ _ _ (by omega)];exact h.keep b hb hR
theorem unwind_marks {P:Program}{f:World}{i:Ren}{H0:AH}{cs:List Frame} : ∀(ds:List Deferred) (fr:Frame) (w:World) (R:Ren) (H:AH),fr.mode= .returning->fr.defers=ds->Marks f.heap.size R w ds->Rel R H w->Ext i H0 f R H w->
  ∃a,Steps P (lone fr cs w) (lone { fr with defers:=[] } cs a)/\Rel R H a/\Ext i H0 f R H a
 | [],fr,w,R,H,hm,hd,_,hL,hx=>⟨w,by
   have:({ fr with defers:=[] } :Frame)=fr:=by rw[<-hd]
   rw[this];exact .refl _ _,hL,hx⟩
 | d::ds,fr,w,R,H,hm,hd,hM,hL,hx=>by
  obtain⟨r,rfl,t,J,u,h3⟩:=hM.2 d (zH ..);have o:(Instr.takeDeferred r).run P w= .ok [] (wput w r (.deferred none)):=by
   simp[Instr.takeDeferred,getObj,setObj,zG,Sem.run,h3,wput,Result.andThen]
  have m:step P (lone fr cs w)= .next (lone { fr with defers:=ds} cs (wput w r (.deferred none))):=by
   refine step_lone_go ?_;simp[stepG,unwind,hm,hd,Sem.runT_eq,o]
  have p:Marks f.heap.size R (wput w r (.deferred none)) ds:=by
   refine⟨(yJ.1 hM.1).2,fun q j=> ?_⟩;obtain⟨h,e,v,x,y,z⟩:=hM.2 q (zC _ j);have s:h≠r:=fun C=>by subst C;exact(yJ.1 hM.1).1 q j h rfl e
   exact⟨h,e,v,by rw[wput_size];exact x,y,by rw[wput_other _ _ _ _ s];exact z⟩
  obtain⟨a,F,G,I⟩:=unwind_marks ds { fr with defers:=ds} (wput w r (.deferred none)) R H hm rfl p (hL.wput_out u) (hx.wput_above _ t);exact⟨a,(Steps.one m).trans F,G,I⟩
theorem unpA_some: ∀ {k i:Nat} {vs:List AV} {env:Env} {K:Env->Rs} {out:Ex×AH},unpA k i vs env K=some out->vs.length=k/\ ∃env',K env'=some out/\ ∀t,look env' t=if i<=t/\t<i+k then vs[t - i]? else look env t
 | 0,i,vs,env,K,out,h=>by
  simp only[unpA,nl]at h;split at h
  .exact⟨rfl,env,h,fun t=>by rw[if_neg (by omega)]⟩
  .simp at h
 | k+1,i,vs,env,K,out,h=>by
  simp only[unpA]at h;obtain⟨v,l,rfl,a⟩:=hd_some h;obtain⟨f,env',h3,j⟩:=unpA_some a;refine⟨by simp[f],env',h3,fun t=> ?_⟩;rw[j t];by_cases e:t=i
  .subst e;rw[if_neg (by omega),if_pos (by omega)];simp[look,upd_at]
  .by_cases h5:i<=t/\t<i+(k+1)
   .rw[if_pos (by omega),if_pos h5,show t - i=(t - (i+1))+1 from by omega,yY]
   .rw[if_neg (by omega),if_neg h5];simp[look,upd_at,e]
theorem retK_some {X:Cx}{env:Env}{H:AH} : ∀(rs:List ResultVar) (G:List AV->Rs) (z:Ex×AH),retK X rs env H G=some z-> ∃vs,aresults X env H rs=some vs/\G vs=some z
 | [],G,z,h=>⟨[],rfl,h⟩
 | r::rs,G,z,h=>by
  simp only[retK]at h;obtain⟨v,f,i⟩:=bV_some h;obtain⟨vs,h3,j⟩:=retK_some rs _ z i;refine⟨v::vs, ?_,j⟩;have:aresult X env H r=some v:=by
   cases r with
   | tmp t=>exact f
   | cell a t=>
    simp only[resE]at f;obtain⟨p,hp,hl⟩:=q1_some f;exact b1_of hp (tLoad_ok hl)
  simp only[aresults,this,h3]
section
variable {P:Program}{X:Cx}(hX:Ok P X)
include hX in
theorem results_ok {R:Ren}{H:AH}{w:World}(hL:Rel R H w){env:Env}{nt:Nat}{i:Array Value}(m:EnvR R env nt i): ∀(rs:List ResultVar) (vs:List AV),aresults X env H rs=some vs->
  ∃j:List Value,(rs.mapM (fun | .tmp t=>pure (i.getD t undef) | .cell a t=>do loadVar t (← asAddr (i.getD a undef)):ResultVar->Sem Value)).run P w= .ok j w/\VRL R vs j
 | [],vs,h=>by simp only[aresults,zB]at h;subst h;exact⟨[],rfl,rfl⟩
 | r::rs,vs,h=>by
  simp only[aresults]at h;split at h
  .rename_i v f;split at h
   .rename_i vs' q;simp only[zB]at h;subst h;obtain⟨j,y,C⟩:=results_ok hL m rs vs' q;have o: ∃z,(match r with | .tmp t=>pure (i.getD t undef) | .cell a t=>do loadVar t (← asAddr (i.getD a undef)):Sem Value).run P w= .ok z w/\VR R v z:=by
     cases r with
     | tmp t=>exact⟨_,rfl,m.get t v f⟩
     | cell a t=>
      simp only[aresult]at f;unfold b1 at f;split at f
      .rename_i p s;have hp:=m.get a p s;obtain⟨z,h3,F⟩:=aload_ok (P:=P) hX hL f hp;refine⟨z, ?_,F⟩
       cases p with
       | ptr A off=>
        obtain⟨b,d,c,hr,e⟩:=hp;show(do loadVar t (← asAddr (i.getD a undef)):Sem Value).run P w= .ok z w
        rw[e]at h3⊢;simp only[Instr.loadAt,Instr.sureAddr,zG,zJ,Result.andThen]at h3;simp only[asAddr,zG,zJ,Result.andThen];exact h3
       | _=>simp[aload]at f
      .simp at f
    obtain⟨z,u,x⟩:=o;refine⟨z::j, ?_,z,j,rfl,x,C⟩;rw[List.mapM_cons];simp only[zG,u,Result.andThen,y];rfl
   .simp at h
  .simp at h
end
theorem tupV_ok {a:List Value}(R:VRL s h a):VR s (tupV h) (if R:a.toArray.size=1 then a.toArray[0]else .tuple a.toArray):=by
 unfold tupV;split
 .rename_i v;obtain⟨z,m,rfl,f,i⟩:=R;simp only[VRL]at i;subst i;simpa using f
 .rename_i j;have hl:=jN _ _ R;have: ¬a.toArray.size=1:=by
   intro f;simp only[List.size_toArray]at f;rw[hl]at f
   match h,f with
   | [x],_=>exact j x rfl
  rw[dif_neg this];exact⟨a,rfl,R⟩
section
variable {P:Program}{B:Tb}{D:Dyn}(hr:Good P (rOf B D)){nt:Nat}{rs:List ResultVar}{f0:FuncId}{ro:Bool}
include hr in
theorem regK_next {K:Env->AH->Rs}(ops: ∀e H',K e H'=some C->H'.next<=C.2.next)(h:regK B D nt R M K j i=some C):i.next<=C.2.next:=by
 unfold regK at h;rw[zF]at h;split at h
 .split at h
  .rename_i row masks p;obtain⟨es,envF,HF,env',c1,c2,c3,f,q⟩:=opsK_chain _ row [] j i j [] h (Le.refl j) (fun ms m=>by intro a o;simp at o);exact qP (chain_next hr.mono c1).1 (ops _ _ f)
  .simp at h
 .obtain⟨es,envF,HF,env',c1,c2,c3,f,_⟩:=opsK_chain _ _ [] j i j [] h (Le.refl j) (fun ms m=>by simp at m);exact qP (chain_next hr.mono c1).1 (ops _ _ f)
theorem unp_any: ∀ {L:List Nat} {vs:List AV} {base:Env} {K:Env->Rs} {out:Ex×AH},unp L vs base K=some out-> ∃env',K env'=some out
 | [],vs,base,K,out,h=>⟨base,h⟩
 | l::L,vs,base,K,out,h=>by
  simp only[unp]at h;obtain⟨v,l',rfl,a⟩:=hd_some h;exact unp_any a
theorem pck_norm (h:(pck v j fun vs=>some (.norm vs,i))=some C):i.next<=C.2.next:=by
 obtain⟨vs,_,a⟩:=pck_some h;injection a with a;rw[<-a];exact zK _
include hr in
theorem codeK_next  : ∀(c:Code) (h:Hint) (Bk:List (Nat×List Nat)) (K:Env->AH->Rs) (env:Env) (n:AH) (out:Ex×AH),(∀e H',K e H'=some out->H'.next<=out.2.next)->codeK B D H nt rs f0 ro c h Bk K env n=some out->n.next<=out.2.next:=by
 intro c
 induction c with
 | skip=>intro h Bk K env n out p j;simp only[codeK]at j;exact p _ _ j
 | label l=>intro h Bk K env n out p j;simp only[codeK]at j;exact p _ _ j
 | region id ops draw=>intro h Bk K env n out p j;simp only[codeK]at j;exact regK_next hr p j
 | seq a b iha ihb=>
  intro h Bk K env n out p j
  cases h with
  | s ha hb=>simp only[codeK]at j;exact iha ha Bk _ env n out (fun e H' h=>ihb hb Bk K e H' out p h) j
  | t L m=>
   simp only[codeK]at j;obtain⟨vs,_,j⟩:=pck_some j;obtain⟨H',_,J,j⟩:=tld_some j;obtain⟨env',j⟩:=unp_any j;exact qP J (p _ _ j)
  | _=>simp[codeK]at j
 | cond c a b iha ihb=>
  intro h Bk K env n out p j
  cases h with
  | c L ha hb=>
   simp only[codeK]at j;split at j
   .have key: ∀y,(codeK B D H nt rs f0 ro a ha Bk (fun env n=>pck L env fun vs=>some (.norm vs,n)) env n=some y\/codeK B D H nt rs f0 ro b hb Bk (fun env n=>pck L env fun vs=>some (.norm vs,n)) env n=some y)->n.next<=y.2.next:=by
     rintro y (o | o)
     .exact iha ha Bk _ env n y (fun e H' h=>pck_norm h) o
     .exact ihb hb Bk _ env n y (fun e H' h=>pck_norm h) o
    rcases jn_some j with⟨vs,x,o,u⟩ | ⟨id,vs,x,o,rfl⟩ | ⟨v,x,o,rfl⟩
    .have h3:=key _ (by rcases cnd_some o with⟨_,h⟩ | ⟨_,h⟩;exact .inl h;exact .inr h);obtain⟨env',q⟩:=unp_any u;exact qP h3 (p _ _ q)
    .exact key _ (by rcases cnd_some o with⟨_,h⟩ | ⟨_,h⟩;exact .inl h;exact .inr h)
    .exact key _ (by rcases cnd_some o with⟨_,h⟩ | ⟨_,h⟩;exact .inl h;exact .inr h)
   .simp at j
  | cl ha hb=>
   simp only[codeK]at j;split at j
   .rcases cnd_some j with⟨_,o⟩ | ⟨_,o⟩
    .exact iha ha Bk _ env n out (fun _ _ h=>by simp at h) o
    .exact ihb hb Bk _ env n out p o
   .simp at j
  | cr ha hb=>
   simp only[codeK]at j;split at j
   .rcases cnd_some j with⟨_,o⟩ | ⟨_,o⟩
    .exact iha ha Bk _ env n out p o
    .exact ihb hb Bk _ env n out (fun _ _ h=>by simp at h) o
   .simp at j
  | _=>simp[codeK]at j
 | block id b ih=>
  intro h Bk K env n out p j
  cases h with
  | b L hb=>
   simp only[codeK]at j;obtain⟨y,N,O⟩:=jb_some j;have o:=ih hb _ _ env n y (fun e H' h=>pck_norm h) N;rcases O with⟨vs,z,rfl,G⟩ | ⟨vs,z,rfl,G⟩ | ⟨i,vs,z,_,rfl,rfl⟩ | ⟨v,z,rfl,rfl⟩
   .obtain⟨env',q⟩:=unp_any G;exact qP o (p _ _ q)
   .obtain⟨env',q⟩:=unp_any G;exact qP o (p _ _ q)
   .exact o
   .exact o
  | b0 hb=>simp only[codeK]at j;exact ih hb _ _ env n out p j
  | _=>simp[codeK]at j
 | loop b ih=>
  intro h Bk K env n out p j
  cases h with
  | l L hb=>
   simp only[codeK]at j;obtain⟨M,_,j⟩:=pck_some j;have key: ∀(m:Nat) (vs:List AV) (n:AH),loopK m (fun vs n=>unp L vs env0 fun env=>codeK B D H nt rs f0 ro b hb Bk (fun env n=>pck L env fun vs=>some (.norm vs,n)) env n) vs n=some out->n.next<=out.2.next:=by
    intro m
    induction m with
    | zero=>intro vs n hl;have F:(none:Rs)=some out:=hl;simp at F
    | succ m ihm=>
     intro vs n hl;have F:jn (unp L vs env0 fun env=>codeK B D H nt rs f0 ro b hb Bk (fun env n=>pck L env fun vs=>some (.norm vs,n)) env n) (loopK m (fun vs n=>unp L vs env0 fun env=>codeK B D H nt rs f0 ro b hb Bk (fun env n=>pck L env fun vs=>some (.norm vs,n)) env n))=some out:=hl;rcases jn_some F with⟨vs,x,o,u⟩ | ⟨id,vs,x,o,rfl⟩ | ⟨v,x,o,rfl⟩
     .obtain⟨env',q⟩:=unp_any o;exact qP (ih hb Bk _ env' n _ (fun e H' h=>pck_norm h) q) (ihm vs x u)
     .obtain⟨env',q⟩:=unp_any o;exact ih hb Bk _ env' n _ (fun e H' h=>pck_norm h) q
     .obtain⟨env',q⟩:=unp_any o;exact ih hb Bk _ env' n _ (fun e H' h=>pck_norm h) q
   exact key H M n j
  | _=>simp[codeK]at j
 | exit id=>
  intro h Bk K env n out p j;simp only[codeK]at j;split at j
  .obtain⟨vs,_,u⟩:=pck_some j;injection u with u;rw[<-u];exact zK _
  .simp at j
 | ret=>
  intro h Bk K env n out p j;simp only[codeK]at j;obtain⟨v,e⟩:=retE_form j;rw[e];exact zK _
 | rangeFunc f params assign body _ _=>
  intro h Bk K env n out p j
  cases h with
  | rf s L=>
   simp only[codeK,zF]at j;split at j
   .simp at j
   .split at j
    .obtain⟨vs,_,j⟩:=pck_some j;obtain⟨T,_,_,j⟩:=newB_some j;obtain⟨v,z,C,j⟩:=bR_some j;obtain⟨U,Q,S,_,I,j⟩:=endLp_some j;have o:n.next+1<=z.next:=by
      unfold rfC at C;split at C
      .exact(hr.call _ _ _ _ _ C).1
      .simp at C
     have u:=putA_next I;have h3:Q.next<=out.2.next:=by
      unfold jmpK at j;split at j
      .exact p _ _ j
      .obtain⟨V,vs',_,_,e⟩:=exS_some j;rw[e];exact zK _
      .obtain⟨v,e⟩:=retE_form j;rw[e];exact zK _
      .simp at j
     omega
    .simp at j
  | _=>simp[codeK]at j
 | scope b _=>intro h Bk K env n out _ j;simp[codeK]at j
 | goto l=>intro h Bk K env n out _ j;simp[codeK]at j
 | refuse why=>intro h Bk K env n out _ j;simp[codeK]at j
end
section
variable {P:Program}{B:Tb}{D:Dyn}(hX:Ok P B.X)(hr:Good P (rOf B D))
include hX hr in
theorem funK_in (p:P.funcs[t]? =some g)(V: ∀body,g.body=some body->SitesP P t g.ntmps body L)(n:funK B D H t g L h i=some (q,G)):i.next<=G.next/\SimIn P t h i q G:=by
 unfold funK at n;split at n
 .rename_i body C;rw[zF]at n;split at n
  .rename_i a1;rw[qO]at a1;unfold outR at n;split at n
   .rename_i I s hc;simp only[zB,zQ]at n;obtain⟨rfl,rfl⟩:=n;obtain⟨a8,env,J,args⟩:=unpA_some hc;have hS:=codeK_ok hX hr body L [] _ env i _ (V body C) J;have W: ∀(R:Ren) (a:List Value) (cs:List Frame) (w:World),VRL R h a->Rel R i w->i.next<=s.next/\
      ∃F u z o,Steps P (lone (Frame.enter P t ⟨a⟩ .normal) cs w) (lone o cs u)/\o.fn=t/\o.leaving P u (.returned z)/\VR F I z/\Rel F s u/\Ext R i w F s u:=by
     intro R a cs w y hL;have a9:=jN _ _ y;have hE:EnvR R env g.ntmps (Frame.enter P t ⟨a⟩ .normal).tmps:=by
      have a2:(Frame.enter P t ⟨a⟩ .normal).tmps=(⟨a⟩:Array Value)++Array.replicate (g.ntmps - a.length) undef:=by
       simp[Frame.enter,p]
      rw[a2];refine⟨by simp;omega,fun f x m=> ?_,fun f ht=> ?_⟩
      .rw[args f]at m;split at m
       .rename_i b0;rw[j7]at m;obtain⟨z,a3,a4⟩:=VRL.get _ _ y f x m;have a5:f<a.length:=by omega
        rw[qW,Array.getElem?_append_left (by simpa using a5)];have:(⟨a⟩:Array Value)[f]? =some z:=by simpa using a3
        rw[this];exact a4
       .simp[look,env0]at m
      .rw[args f,if_neg (by omega)];rfl
     have a6:(Frame.enter P t ⟨a⟩ .normal).todo= .code body::[]:=by simp[Frame.enter,p,C]
     obtain⟨K,M,t1,b4,H',Y,N,O,e1,l1,x1,n1,m1,o1⟩:=hS w.heap.size R (Frame.enter P t ⟨a⟩ .normal) [] cs w rfl (fun _=>⟨rfl,rfl⟩) a6 hE hL (Marks.nil _ _ _) (zK _);have Z: ∃o:Frame,Steps P (lone (Frame.enter P t ⟨a⟩ .normal) cs w) (lone o cs M)/\o.fn=t/\o.mode= .returning/\o.defers=H'/\o.kind= .normal/\o.tmps=t1/\retE B.X g.results.toList Y N=some (.ret I,s):=by
      rcases o1 with⟨rfl,b2⟩ | ⟨id,k',b1,b2,j,vs,b3,_⟩ | ⟨k',rfl,b2⟩
      .exact⟨_,O.trans (.one (st_end (fr:= { Frame.enter P t ⟨a⟩ .normal with tmps:=t1,todo:=[],defers:=H'}) rfl rfl rfl)),rfl,rfl,rfl,rfl,rfl,b2⟩
      .simp[liveOf]at b3
      .exact⟨_,O.trans (.one (st_ret (fr:= { Frame.enter P t ⟨a⟩ .normal with tmps:=t1,todo:= .code .ret::k',defers:=H'}) rfl rfl rfl)),rfl,rfl,rfl,rfl,rfl,b2⟩
     obtain⟨o,hs,Q,S,f3,f4,f5,a0⟩:=Z;obtain⟨vs,a7,T⟩:=retK_some _ _ _ a0;simp only[zB,zQ,Ex.ret.injEq]at T;obtain⟨rfl,rfl⟩:=T;obtain⟨w2,u1,U,u3⟩:=unwind_marks (P:=P) (cs:=cs) H' o M K N S f3 m1 l1 x1;obtain⟨zs,z1,z2⟩:=results_ok hX U e1 _ _ a7;refine⟨n1,K,w2,_, { o with defers:=[] },hs.trans u1,Q,⟨S,rfl,f4,g,by rw[Q];exact p, ?_⟩,tupV_ok z2,U,u3⟩;simp only[f5,results,Array.mapM_eq_mapM_toList,zG,Sem.run_map]
     erw[z1]
     rfl
    refine⟨?_,⟨g,p,by simp[C]⟩,fun R a cs w y hL=>(W R a cs w y hL).2⟩;exact codeK_next hr body L [] _ env i _ (fun e G hh=>by obtain⟨q,e⟩:=retE_form hh;rw[e];exact zK _) J
   .simp at n
  .simp at n
 .simp at n
include hX hr in
end
theorem unp_env {K:Env->Rs}(vs:unp v h j K=some C):K (envA v h j)=some C:=by
 induction v generalizing h j with
 | nil=>cases h<;>exact vs
 | cons l v ih=>
  simp only[unp]at vs;obtain⟨L,l',rfl,a⟩:=hd_some vs;exact ih a
theorem unpP_ok {nt:Nat}{R:Ren} : ∀ {i:List Nat} {j:List AV} {env:Env} {K:Env->Rs} {out:Ex×AH} {vs:List Value} {f:Array Value},unpP nt i j env K=some out->VRL R j vs->EnvR R env nt f->
  vs.length=i.length/\ ∃env',K env'=some out/\EnvR R env' nt ((i.zip vs).foldl (fun f (x:Nat×Value)=>f.setIfInBounds x.1 x.2) f)
 | [],j,env,K,out,vs,f,h,hv,hE=>by
  simp only[unpP,nl]at h;split at h
  .simp only[VRL]at hv;subst hv;exact⟨rfl,env,h,hE⟩
  .simp at h
 | p::i,j,env,K,out,vs,f,h,hv,hE=>by
  simp only[unpP]at h;obtain⟨a,z,rfl,m⟩:=hd_some h;obtain⟨v,vs',rfl,s,h3⟩:=hv;rw[zF]at m;split at m
  .rename_i o;have q:EnvR R (upd env p a) nt (f.setIfInBounds p v):=hE.put (dst:=some p) s (by simp only[setD,o,zP]);obtain⟨t,env',u,y⟩:=unpP_ok m h3 q;exact⟨by simp[t],env',u,y⟩
  .simp at m
theorem unpP_any {nt:Nat} : ∀ {j:List Nat} {i:List AV} {env:Env} {K:Env->Rs} {out:Ex×AH},unpP nt j i env K=some out-> ∃env',K env'=some out
 | [],i,env,K,out,h=>by
  simp only[unpP,nl]at h;split at h
  .exact⟨env,h⟩
  .simp at h
 | p::j,i,env,K,out,h=>by
  simp only[unpP]at h;obtain⟨a,m,rfl,f⟩:=hd_some h;rw[zF]at f;split at f
  .exact unpP_any f
  .simp at f
theorem beginK_some {K:AH->Rs}(h:beginK H i K=some C): ∃l H',i.h.get H=some (.loop l)/\l.state= .ready/\putA i H (.loop { l with state:= .busy})=some H'/\K H'=some C:=by
 unfold beginK at h;split at h
 .rename_i l a;split at h
  .rename_i f;split at h
   .rename_i H' hp;exact⟨l,H',a,f,hp,h⟩
   .simp at h
  .simp at h
 .simp at h
def stOf:Option Code->LoopState
 | none=> .ready
 | some _=> .done
theorem endR_some (h:endR H a i=some (q,G)): ∃l,i.h.get H=some (.loop l)/\putA i H (.loop { l with state:=stOf a,pending:=a})=some G/\q= .bool a.isNone:=by
 unfold endR at h;split at h
 .rename_i l A;split at h
  .split at h
   .rename_i f hp;simp only[zB,zQ]at h;obtain⟨rfl,rfl⟩:=h;exact⟨l,A,hp,rfl⟩
   .simp at h
  .split at h
   .rename_i f hp;simp only[zB,zQ]at h;obtain⟨rfl,rfl⟩:=h;exact⟨l,A,hp,rfl⟩
   .simp at h
 .simp at h
def Leaves (a:List Item):Option Code->Prop
 | none=>a=[]
 | some (.exit id)=> ∃k,a= .code (.exit id)::k/\exitTo id k=none
 | some .ret=> ∃k,a= .code .ret::k
 | some _=>False
theorem leave_step {F fr:Frame}{h:World}(hm:F.mode= .run)(f:F.kind= .normal)(hb:F.roundOf=some H)(P:Leaves F.todo a)(hr:(Instr.endRound H a).run Y p= .ok W h):
  Go.step Y (lone F (fr::r) p)= .next (lone (fr.finish W) r h):=by
 refine step_lone_go ?_
 cases a with
 | none=>
  simp only[Leaves]at P;simp[stepG,stepG.exec,hm,P,hb,Sem.runT_eq,hr,doReturn,f]
 | some c=>
  cases c<;>simp only[Leaves]at P
  .obtain⟨k,P,i⟩:=P;simp[stepG,stepG.exec,hm,P,hb,i,Sem.runT_eq,hr,doReturn,f]
  .obtain⟨k,P⟩:=P;simp[stepG,stepG.exec,hm,P,hb,Sem.runT_eq,hr,doReturn,f]
section
variable {P:Program}{B:Tb}{D:Dyn}(hX:Ok P B.X)(hr:Good P (rOf B D))
theorem Rel.loopAt (h:Rel s i p){R:ALoop}(a:i.h.get H=some (.loop R))(hR:s H l e c):
  ∃(L:Loop) (nt:Nat),p.heap[l]? =some (.loop L)/\siteC R.fn R.site=some (nt,L.params,L.assign,L.body)/\L.state=R.state/\L.pending=R.pending/\L.fn=R.fn/\EnvR s (envL R.live R.vals) nt L.tmps:=h.obj H l e c _ hR a
theorem Rel.loopPut (h:Rel s i p){A:ALoop}(j:i.h.get H=some (.loop A))(hR:s H l e c){st:LoopState}(hp:putA i H (.loop { A with state:=st,pending:=a})=some G){L:Loop}(hb:p.heap[l]? =some (.loop L)):
  Rel s G (wput p l (.loop { L with state:=st,pending:=a}))/\Ext s i p s G (wput p l (.loop { L with state:=st,pending:=a})):=by
 obtain⟨w,nt,b,m,q,h3,o,h5⟩:=h.loopAt j hR;rw[hb]at b;injection b with b;injection b with b;subst b
 unfold putA at hp;split at hp
 .rename_i R H';simp only[zB]at hp;subst hp;exact⟨h.put hR ⟨_,j,trivial⟩ H' ⟨_,nt,rfl,m,rfl,rfl,o,h5⟩,Ext.put hR H'⟩
 .simp at hp
theorem endQ_some {x:Rs}(h:endQ H x=some (q,i)): ∃y,x=some y/\((∃vs,y.1= .norm vs/\endR H none y.2=some (q,i))\/(∃id vs,y.1= .exit id vs/\endR H (some (.exit id)) y.2=some (q,i))\/(∃u,y.1= .ret u/\endR H (some .ret) y.2=some (q,i))):=by
 unfold endQ at h;split at h
 .exact⟨_,rfl, .inl ⟨_,rfl,h⟩⟩
 .exact⟨_,rfl, .inr (.inl ⟨_,_,rfl,h⟩)⟩
 .exact⟨_,rfl, .inr (.inr ⟨_,rfl,h⟩)⟩
 .simp at h
theorem endR_next (h:endR H a i=some (q,G)):G.next=i.next:=by
 obtain⟨l,_,hp,_⟩:=endR_some h;exact putA_next hp
include hX hr in
theorem rndK_ok {d3:List Nat}{hb:Hint}(b5: ∀nt o f body,siteC t l=some (nt,o,f,body)->SitesP P t nt f L/\SitesP P t nt body hb){f0:ALoop}
  (hA:i.h.get e=some (.loop f0)) (hf:f0.fn=t) (hs:f0.site=l) (I:rndK B D H t l v d3 L hb e f0 h i=some (q,G)):SimYld P e h i q G:=by
 unfold rndK at I;split at I
 .rename_i nt o f body a1;obtain⟨d4,d5⟩:=b5 _ _ _ _ a1;unfold rdK at I;rw[zF]at I;split at I
  .rename_i d6;obtain rfl:=eqNL_eq _ _ d6;obtain⟨y,hy,C⟩:=endQ_some I;have c0:i.next<=G.next:=by
    have h1:i.next<=y.2.next:=by
     have V:=unp_env hy;obtain⟨env',d7⟩:=unpP_any V;refine codeK_next hr f L [] _ env' i y (fun s H1 hk=> ?_) d7;obtain⟨J,p,_,_,hp,W⟩:=beginK_some hk;rw[<-putA_next hp];exact codeK_next hr body hb _ _ s p y (fun s K Y=>by injection Y with Y;rw[<-Y];exact zK _) W
    rcases C with⟨vs,_,A⟩ | ⟨id,vs,_,A⟩ | ⟨u,_,A⟩<;>rw[endR_next A]<;>exact h1
   refine⟨c0,fun R H' fr cs w b d c Z b6 hL=> ?_⟩;obtain⟨m,f6,d8,Q,f3,f4,c1,d9⟩:=hL.loopAt hA Z;rw[hf,hs,a1]at Q;simp only[zB,zQ]at Q;obtain⟨rfl,a4,c6,b7⟩:=Q;obtain⟨c7,c8,V,e0⟩:=unpP_ok (unp_env hy) b6 d9;refine⟨m,d8,by rw[c7,<-a4];simp, ?_⟩;have b8:((m.params.zip H'.toArray).foldl (fun tmps (n,a)=>tmps.setIfInBounds n a) m.tmps)=((o.toList.zip H').foldl (fun tmps (x:Nat×Value)=>tmps.setIfInBounds x.1 x.2) m.tmps):=by
    rw[<-a4,<-Array.foldl_toList];simp only[Array.toList_zip]
   rw[b8,c1,hf,<-c6,<-b7];have e2:=codeK_ok hX hr f L [] _ c8 i y d4 V;obtain⟨R1,w1,t1,f7,a0,env2,H1,s1,e1,J,M,n1,m1,o1⟩:=e2 w.heap.size R (Frame.round b t ((o.toList.zip H').foldl (fun tmps (x:Nat×Value)=>tmps.setIfInBounds x.1 x.2) m.tmps) f body .normal) [.beginRound, .code body] (fr::cs) w rfl (fun I=>by simp at I) rfl e0 hL (Marks.nil _ _ _) (zK _);have az: ∀(N:Ren) (O:World) (p:AH) (F:Frame) (j:Option Code),Steps P (lone (Frame.round b t ((o.toList.zip H').foldl (fun tmps (x:Nat×Value)=>tmps.setIfInBounds x.1 x.2) m.tmps) f body .normal) (fr::cs) w) (lone F (fr::cs) O)->
     F.mode= .run->F.kind= .normal->F.roundOf=some b->Leaves F.todo j->Rel N p O->Ext R i w N p O->endR e j p=some (q,G)->
     ∃R' w' z,Steps P (lone (Frame.round b t ((o.toList.zip H').foldl (fun tmps (x:Nat×Value)=>tmps.setIfInBounds x.1 x.2) m.tmps) f body .normal) (fr::cs) w) (lone (fr.finish z) cs w')/\VR R' q z/\Rel R' G w'/\Ext R i w R' G w':=by
    intro N O p F j e4 hm hk e5 e6 a5 a6 c9;obtain⟨l2,a7,e7,rfl⟩:=endR_some c9;have a2:=a6.sub _ _ _ _ Z;obtain⟨L2,_,a8,_⟩:=a5.loopAt a7 a2;obtain⟨e8,e9⟩:=a5.loopPut a7 a2 e7 a8;have S:=run_endRound (P:=P) j a8;refine⟨N,_,_,e4.trans (.one (leave_step hm hk e5 e6 S)),rfl, ?_, ?_⟩
    .have:(if j.isNone=true then LoopState.ready else LoopState.done)=stOf j:=by cases j<;>rfl
     rw[this];exact e8
    .have:(if j.isNone=true then LoopState.ready else LoopState.done)=stOf j:=by cases j<;>rfl
     rw[this];exact a6.trans e9
   rcases o1 with⟨rfl,b2⟩ | ⟨id,k',b1,b2,L',vs,b3,_⟩ | ⟨k',rfl,b2⟩
   .obtain⟨lp,p,a9,d0,hp,W⟩:=beginK_some b2;have a3:=M.sub _ _ _ _ Z;obtain⟨L1,_,b0,_,d1,d2,_,_⟩:=J.loopAt a9 a3;have f1:putA H1 e (.loop { lp with state:= .busy,pending:=lp.pending})=some p:=hp;obtain⟨l2,x2⟩:=J.loopPut a9 a3 f1 b0;rw[<-d2]at l2 x2;have S:=run_beginRound (P:=P) b0 (by rw[d1];exact d0);have b9:Go.step P (lone { (Frame.round b t ((o.toList.zip H').foldl (fun tmps (x:Nat×Value)=>tmps.setIfInBounds x.1 x.2) m.tmps) f body .normal)with tmps:=t1,todo:=[.beginRound, .code body],defers:=a0} (fr::cs) w1)=
      .next (lone { (Frame.round b t ((o.toList.zip H').foldl (fun tmps (x:Nat×Value)=>tmps.setIfInBounds x.1 x.2) m.tmps) f body .normal)with tmps:=t1,todo:=[.code body],defers:=a0} (fr::cs) (wput w1 b (.loop { L1 with state:= .busy,pending:=L1.pending}))):=by
     refine step_lone_go ?_;simp[stepG,stepG.exec,stepG.apply,Frame.round,Sem.runT_eq,zG,S,Frame.finish,World.putObj,wput]
    have f2:=codeK_ok hX hr body hb _ _ env2 p y d5 W;obtain⟨R3,w3,t3,f8,f9,f5,K,s3,e3,l3,x3,n3,m3,o3⟩:=f2 w.heap.size R1 { (Frame.round b t ((o.toList.zip H').foldl (fun tmps (x:Nat×Value)=>tmps.setIfInBounds x.1 x.2) m.tmps) f body .normal)with tmps:=t1,todo:=[.code body],defers:=a0} [] (fr::cs) _ rfl (fun I=>by simp at I) rfl e1 l2 (m1.ext x2) (by rw[wput_size];exact M.size);have T:=s1.trans ((Steps.one b9).trans s3);have U:=M.trans (x2.trans x3);rcases o3 with⟨rfl,c2⟩ | ⟨id,k',rfl,c2,L',vs,c3,c4,c5⟩ | ⟨k',rfl,c2⟩
    .injection c2 with c2;subst c2
     rcases C with⟨vs,_,A⟩ | ⟨id,vs,s,_⟩ | ⟨u,s,_⟩
     .exact az R3 w3 K _ none T rfl rfl rfl rfl l3 U A
     .simp at s
     .simp at s
    .subst c5;rcases C with⟨vs,s,_⟩ | ⟨b4,vs',s,A⟩ | ⟨u,s,_⟩
     .simp at s
     .simp only[Ex.exit.injEq]at s;obtain⟨rfl,rfl⟩:=s;exact az R3 w3 K _ (some (.exit id)) T rfl rfl rfl ⟨k',rfl,by rw[c2];rfl⟩ l3 U A
     .simp at s
    .obtain⟨u,s⟩:=retE_form c2;subst s;rcases C with⟨vs,s,_⟩ | ⟨b4,vs',s,_⟩ | ⟨u,s,A⟩
     .simp at s
     .simp at s
     .exact az R3 w3 K _ (some .ret) T rfl rfl rfl ⟨k',rfl⟩ l3 U A
   .simp[liveOf]at b3
   .obtain⟨u,s⟩:=retE_form b2;subst s;rcases C with⟨vs,s,_⟩ | ⟨b4,vs',s,_⟩ | ⟨u,s,A⟩
    .simp at s
    .simp at s
    .exact az R1 w1 H1 _ (some .ret) s1 rfl rfl rfl ⟨k',rfl⟩ J M A
  .simp at I
 .simp at I
end
theorem getD_ofList {α:Type}(l:List α)(m:Nat)(x:α)(h:((T.ofList 0 l .leaf).getD .leaf).get m=some x):l[m]? =some x:=by
 cases hl:T.ofList 0 l .leaf with
 | none=>rw[hl]at h;simp[T.get_leaf]at h
 | some t=>
  rw[hl]at h;simp only[yB]at h;rw[T.get_ofList l 0 .leaf t hl m]at h;split at h
  .simpa using h
  .simp[T.get_leaf]at h
def named (P:Program):Bool:=P.funcs.toList.all fun g=> !(g.name== "runtime.NumGoroutine")
def flatB (P:Program)(fl:List (TypeId×List Nat)):Bool:=fl.all fun x=>(flatK P P.depth x.1==some x.2)&&isAggT P x.1&&Nat.ble P.depth 10000
theorem cx_ok {P:Program}{fl:List (TypeId×List Nat)}(h:named P=true)(a:flatB P fl=true):Ok P ⟨(T.ofList 0 P.types.toList .leaf).getD .leaf,fl⟩:=by
 refine⟨fun t i m=> ?_,fun x o=> ?_,fun f g a=> ?_⟩
 .have:=getD_ofList _ _ _ m;simp only[yM]at this;have j:t<P.types.size:=(Array.getElem?_eq_some_iff.1 this).1;unfold Tables.info?
  first
   | (rw[if_pos j];exact this)
   | (simp only[j,if_true,this];done)
   | (rw[this];done)
   | (rw[this];rfl)
   | simp_all
 .simp only[flatB,qY,zE,beq_iff_eq,qO]at a;obtain⟨⟨p,q⟩,h3⟩:=a x o;exact⟨p,q,h3⟩
 .simp only[named,qY,yS]at h;exact h g (by
   have:=Array.mem_of_getElem? a;simpa using this)
def noRF:Hint->Bool
 | .o=>true
 | .s a b=>noRF a&&noRF b
 | .c _ a b=>noRF a&&noRF b
 | .cl a b=>noRF a&&noRF b
 | .cr a b=>noRF a&&noRF b
 | .b _ a=>noRF a
 | .b0 a=>noRF a
 | .l _ a=>noRF a
 | .rf _ _=>false
 | .t _ _=>false
def numRF:Code->Hint->Nat->Bool
 | .seq _ _, .t _ _,_=>false
 | .seq a b, .s ha hb,k=>numRF a ha k&&numRF b hb (k+(sites a).length)
 | .cond _ a b, .c _ ha hb,k=>numRF a ha k&&numRF b hb (k+(sites a).length)
 | .cond _ a b, .cl ha hb,k=>numRF a ha k&&numRF b hb (k+(sites a).length)
 | .cond _ a b, .cr ha hb,k=>numRF a ha k&&numRF b hb (k+(sites a).length)
 | .block _ b, .b _ hb,k=>numRF b hb k
 | .block _ b, .b0 hb,k=>numRF b hb k
 | .loop b, .l _ hb,k=>numRF b hb k
 | .rangeFunc _ _ _ _, .rf s _,k=>Nat.beq s k
 | _,_,_=>true
theorem noRF_ok (f0:FuncId)(nt:Nat): ∀(c:Code) (h:Hint),noRF h=true->SitesP Y f0 nt c h:=by
 intro c
 induction c with
 | seq a b iha ihb=>intro h i;cases h<;>simp_all [SitesP,noRF]
 | cond c a b iha ihb=>intro h i;cases h<;>simp_all [SitesP,noRF]
 | block id b ih=>intro h i;cases h<;>simp_all [SitesP,noRF]
 | loop b ih=>intro h i;cases h<;>simp_all [SitesP,noRF]
 | rangeFunc f ps a b _ _=>intro h i;cases h<;>simp_all [SitesP,noRF]
 | _=>intro h i;simp[SitesP]
theorem numRF_ok (f0:FuncId)(nt:Nat)(o:List (Array Tmp×Code×Code))(v: ∀(s:Nat) (x:Array Tmp×Code×Code),o[s]? =some x->siteC f0 s=some (nt,x)):
  ∀(c:Code) (h:Hint) (k:Nat),numRF c h k=true->(∀(j:Nat) (x:Array Tmp×Code×Code),(sites c)[j]? =some x->o[k+j]? =some x)->SitesP Y f0 nt c h:=by
 have u: ∀(a b:Code) (k:Nat),(∀(j:Nat) (x:Array Tmp×Code×Code),(sites a++sites b)[j]? =some x->o[k+j]? =some x)->
   (∀(j:Nat) (x:Array Tmp×Code×Code),(sites a)[j]? =some x->o[k+j]? =some x)/\(∀(j:Nat) (x:Array Tmp×Code×Code),(sites b)[j]? =some x->o[k+(sites a).length+j]? =some x):=by
  intro a b k m;refine⟨fun j x p=>m j x ?_,fun j x p=> ?_⟩
  .rw[yQ (qN.1 p).1];exact p
  .rw[Nat.add_assoc];refine m _ x ?_;rw[j5 (by omega),show(sites a).length+j - (sites a).length=j from by omega];exact p
 intro c
 induction c with
 | seq a b iha ihb=>
  intro h k i m;obtain⟨q,t⟩:=u a b k m
  cases h<;>simp only[SitesP]<;>first | (simp only[numRF,zE]at i;exact⟨iha _ k i.1 q,ihb _ _ i.2 t⟩) | (simp[numRF]at i)
 | cond c a b iha ihb=>
  intro h k i m;obtain⟨q,t⟩:=u a b k m
  cases h<;>simp only[SitesP]<;>(simp only[numRF,zE]at i;exact⟨iha _ k i.1 q,ihb _ _ i.2 t⟩)
 | block id b ih=>
  intro h k i m
  cases h<;>simp only[SitesP]<;>first | exact ih _ k i m | (simp[numRF]at i)
 | loop b ih=>
  intro h k i m
  cases h<;>simp only[SitesP]
  exact ih _ k i m
 | rangeFunc f ps a b _ _=>
  intro h k i m
  cases h<;>simp only[SitesP]
  simp only[numRF,zX]at i;subst i;exact v _ _ (m 0 _ rfl)
 | _=>intro h k i m;simp[SitesP]
def sitesB (a:Func)(h:Hint):Bool:=noRF h||match a.body with
 | some b=>numRF b h 0
 | none=>true
noncomputable abbrev PP:Program:=Go.Proofs.Tryz.prog
theorem sitesB_ok (p:PP.funcs[t]? =some g)(a:sitesB g L=true): ∀body,g.body=some body->SitesP PP t g.ntmps body L:=by
 intro body hb;simp only[sitesB,yW]at a;rcases a with a | a
 .exact noRF_ok _ _ _ _ a
 .simp only[hb]at a;refine numRF_ok t g.ntmps (sites body) (fun s x m=> ?_) body L 0 a (fun j x m=>by rw[yU];exact m);unfold siteC;have o:Go.Proofs.Tryz.prog.funcs[t]? =some g:=p;simp only[o,hb,m]
def FS (g:FuncId)(m:List AV->AH->Option (AV×AH)):Prop:= ∀a H v H',m a H=some (v,H')->SimCall PP g a H v H'
def FI (g:FuncId)(m:List AV->AH->Option (AV×AH)):Prop:= ∀a H v H',m a H=some (v,H')->H.next<=H'.next/\SimIn PP g a H v H'
theorem FI.fs (h:FI t n):FS t n:=fun a H v H' e=>⟨(h a H v H' e).1, .inl (h a H v H' e).2⟩
structure DG (D:Dyn):Prop where
 fn: ∀g,FS g (D.fn g)
 yld: ∀A args H v H',D.yld A args H=some (v,H')->SimYld PP A args H v H'
def SOk:List (Nat×(List AV->AH->Option (AV×AH)))->Prop
 | []=>True
 | (i,m)::S=>FS i m/\SOk S
theorem SOk.nil:SOk []:=trivial
theorem SOk.cons {i:Nat}{m:List AV->AH->Option (AV×AH)}{S:List (Nat×(List AV->AH->Option (AV×AH)))}(h:FS i m)(k:SOk S):SOk ((i,m)::S):=⟨h,k⟩
theorem callG_ok {D:Dyn}(f:DG D): ∀ {S:List (Nat×(List AV->AH->Option (AV×AH)))},SOk S-> ∀g,FS g (callG S D g)
 | [],_,g=>fun a H v H' h=>f.fn g a H v H' h
 | (i,m)::S,hS,g=>fun a H v H' h=>by
  simp only[callG,zF]at h;split at h
  .rename_i e;rw[zX]at e;subst e;exact hS.1 a H v H' h
  .exact callG_ok f hS.2 g a H v H' h
theorem good_of {X:Cx}(a:DG z)(i:SOk A):Good PP (rOf ⟨X,A⟩ z):=
 ⟨fun f args H v H' h=>callG_ok a i f args H v H' h,fun S args H v H' h=>a.yld S args H v H' h⟩
theorem fun_ok {X:Cx}(hX:Ok PP X)(j:DG z)(o:SOk A)(i:PP.funcs[t]? =some g)(p:sitesB g L=true)(q:n=funK ⟨X,A⟩ z H t g L):FI t n:=by
 subst q;intro s S v H' e;exact funK_in hX (good_of j o) i (sitesB_ok i p) e
theorem fun_okT {X:Cx}(hX:Ok PP X)(j:DG z)(o:SOk A)(i:PP.funcs[t]? =some g)(p: ∀body,g.body=some body->SitesP PP t g.ntmps body L)(q:n=funK ⟨X,A⟩ z H t g L):FI t n:=by
 subst q;intro s S v H' e;exact funK_in hX (good_of j o) i p e
def RS (f s:Nat)(m:Nat->ALoop->List AV->AH->Option (AV×AH)):Prop:=
 ∀A l a H v H',H.h.get A=some (.loop l)->l.fn=f->l.site=s->m A l a H=some (v,H')->SimYld PP A a H v H'
theorem round_ok {X:Cx}(hX:Ok PP X)(o:DG z)(p:SOk A){i:List Nat}{hb:Hint}(a:(noRF L&&noRF hb)=true)(q:m=rndK ⟨X,A⟩ z e H l v i L hb):RS H l m:=by
 subst q;intro S s y f h H' t u j n;rw[zE]at a;exact rndK_ok hX (good_of o p) (fun nt D x body _=>⟨noRF_ok _ _ _ _ a.1,noRF_ok _ _ _ _ a.2⟩) t u j n
def ROk:List ((Nat×Nat)×(Nat->ALoop->List AV->AH->Option (AV×AH)))->Prop
 | []=>True
 | ((f,s),m)::t=>RS f s m/\ROk t
theorem ROk.nil:ROk []:=trivial
theorem ROk.cons {f s:Nat}{m:Nat->ALoop->List AV->AH->Option (AV×AH)}{t:List ((Nat×Nat)×(Nat->ALoop->List AV->AH->Option (AV×AH)))}(h:RS f s m)(k:ROk t):ROk (((f,s),m)::t):=⟨h,k⟩
theorem rdOfT_ok (A:ROk U)(t:rdOfT U H h i=some (q,G)):SimYld PP H h i q G:=by
 unfold rdOfT at t;split at t
 .rename_i l j
  induction U with
  | nil=>simp[rdOfT.go]at t
  | cons x U ih=>
   obtain⟨⟨f,s⟩,m⟩:=x;simp only[rdOfT.go,zF]at t;split at t
   .rename_i e;simp only[zE,zX]at e;exact A.1 H l h i q G j e.1.symm e.2.symm t
   .exact ih A.2 t
 .simp at t
def dNone:Dyn:=⟨fun _ _ _=>none,fun _ _ _=>none⟩
theorem dNone_ok:DG dNone:=⟨fun _ _ _ _ _ h=>by simp[dNone]at h,fun _ _ _ _ _ h=>by simp[dNone]at h⟩
noncomputable def dyOf (tab:Dyn->Nat->List (Nat×(List AV->AH->Option (AV×AH))))(tabR:Dyn->Nat->List ((Nat×Nat)×(Nat->ALoop->List AV->AH->Option (AV×AH))))(n:Nat):Dyn:=
 Nat.rec dNone (fun m D=>⟨fun g vs H=>callG (tab D m) dNone g vs H,rdOfT (tabR D m)⟩) n
theorem dyOf_ok {tab:Dyn->Nat->List (Nat×(List AV->AH->Option (AV×AH)))}{tabR:Dyn->Nat->List ((Nat×Nat)×(Nat->ALoop->List AV->AH->Option (AV×AH)))}(a: ∀D n,DG D->SOk (tab D n))(f: ∀D n,DG D->ROk (tabR D n)): ∀n,DG (dyOf tab tabR n)
 | 0=>dNone_ok
 | n+1=>by
  have h:=dyOf_ok a f n;exact⟨fun g i H v H' e=>callG_ok dNone_ok (a _ n h) g i H v H' e,fun A args H v H' e=>rdOfT_ok (f _ n h) e⟩
def saysT (x:Option (AV×AH)):Bool:=match x with
 | some (.bool true,_)=>true
 | _=>false
theorem calls_of (hm:FI t n)(h:saysT (n [] ⟨.leaf,0⟩)=true)(w:World):Calls PP t #[] w fun e a=>e= .returned (.bool true)/\RowKit.Below w.heap.size w a:=by
 unfold saysT at h;split at h
 .rename_i H' i;intro cs;obtain⟨_,_,i⟩:=hm _ _ _ _ i;obtain⟨f,a,z,o,p,q,h3,j,h5,h6⟩:=i (fun _ _ _ _=>False) [] cs w rfl (Rel.empty w);simp only[VR]at j;subst j;refine⟨.returned (.bool true),a,o,⟨rfl, ?_⟩,p,q,h3⟩;exact⟨h6.os,h6.tape,h6.output,h6.size,fun k s=>h6.keep k s (fun _ _ _ h=>h)⟩
 .simp at h
theorem run_range_map {kt vt:TypeId}(f:(underlying V).run Y p= .ok (.map kt vt) p)(hm:p.heap[H]? =some (.map N l)):
  (Instr.range V (.map (some H))).run Y p= .ok (.pointer (some ⟨p.heap.size,0,none⟩)) (p.alloc (.mapIter (some H) l #[] l)):=by
 simp[Instr.range,zG,f,getObj,Sem.run,hm,newObj,Result.andThen]
structure ML where
 rA:Nat
 rB:Nat
 rC:Nat
 pre:List Oper
 oR:Oper
 oN:Oper
 oX:Oper
 oE:Oper
 rest:List Oper
 id:Nat
 id2:Nat
 body:Code
 t:TypeId
 x:Operand
 it:Nat
 nx:Nat
 ok:Nat
 en:Nat
def ML.opsA (q:ML):Array Oper:=⟨q.pre++[q.oR]⟩
def ML.opsB (q:ML):Array Oper:=⟨[q.oN,q.oX]⟩
def ML.opsC (q:ML):Array Oper:=⟨q.oE::q.rest⟩
def ML.round (q:ML):Code:= .seq (.region q.rB q.opsB false) (.seq (.cond (.tmp q.ok) .skip (.exit q.id)) (.block q.id2 (.seq (.region q.rC q.opsC false) q.body)))
def ML.code (q:ML):Code:= .seq (.region q.rA q.opsA false) (.block q.id (.loop q.round))
structure ML.Fits (q:ML)(nt:Nat):Prop where
 gR:q.oR.guard=none
 pR:q.oR.op= .range q.t q.x
 dR:q.oR.dst=some q.it
 gN:q.oN.guard=none
 pN:q.oN.op= .next (.tmp q.it) false
 dN:q.oN.dst=some q.nx
 gX:q.oX.guard=none
 pX:q.oX.op= .extract (.tmp q.nx) 0
 dX:q.oX.dst=some q.ok
 gE:q.oE.guard=none
 pE:q.oE.op= .entry (.tmp q.it)
 dE:q.oE.dst=some q.en
 it:q.it<nt
 nx:q.nx<nt
 ok:q.ok<nt
 en:q.en<nt
 itnx:q.it≠q.nx
 itok:q.it≠q.ok
 iten:q.it≠q.en
 nxok:q.nx≠q.ok
noncomputable def ML.roundK (q:ML)(B:Tb)(D:Dyn)(n nt:Nat)(hb:Hint)(L:List Nat)(I:Nat)(vs:List AV)(k v:AV)(H:AH):Rs:=
 unp (q.it::L) (.ptr I 0::vs) env0 fun e=>
  opsK B D nt q.opsC none (Nat.succ q.rest.length) (fun env H=>codeK B D n nt [] 0 true q.body hb [] (fun env H=>pck (q.it::L) env fun vs=>some (.norm vs,H)) env H) (idx q.rest 1) [] (upd e q.en (.tuple [k,v])) H
theorem Rel.told (h:Rel s i p){o o':AObj}{f:T AObj}(hR:s H l e c)(u:i.h.get H=some o)(hl:Live i H)(q:T.set 40 i.h H o'=some f)(R:ORel s o' e c p.heap[l]?):Rel s ⟨f,i.next⟩ p:=by
 have j:=T.get_set _ _ _ _ _ q;have w: ∀a,Live ⟨f,i.next⟩ a->Live i a:=fun a ⟨A,hp,hd⟩=>by
  simp only[j]at hp;by_cases d:a=H
  .subst d;exact hl
  .rw[if_neg d]at hp;exact⟨A,hp,hd⟩
 refine⟨h.fn,fun m v l e c d' c' r t b l'=>h.inj _ _ _ _ _ _ _ r t (w _ b) (w _ l'),fun m b1 x c1 A r hp=> ?_,h.lt⟩;simp only[j]at hp;by_cases d:m=H
 .subst d;rw[if_pos rfl]at hp;injection hp with hp;subst hp
  obtain⟨rfl,rfl,rfl⟩:=h.fn _ _ _ _ _ _ _ r hR;exact R
 .rw[if_neg d]at hp;exact h.obj _ _ _ _ _ r hp
section
variable {P:Program}{fr:Frame}{k:List Item}{cs:List Frame}{w:World}
theorem st_next_map {o:Oper}(hm:fr.mode= .run)(j:fr.todo= .inRegion R (H::v)::k)(m:R[H]? =some o)
  (ops:o.guard=none) (h:o.op= .next (.tmp l) false) (hd:o.dst=some e) (hr:(Instr.next (fr.tmps.getD l undef) false o.type).run P w= .ok W p):
  step P (lone fr cs w)= .next (lone { fr with tmps:=fr.tmps.setIfInBounds e W,todo:= .inRegion R v::k} cs p):=by
 have q:(execOp fr.eval o).run P w= .ok (.value W) p:=by
  have s:fr.eval (.tmp l)=fr.tmps.getD l undef:=rfl;simp only[execOp,h,s,zG,hr,Result.andThen_ok];rfl
 have t:=st_value (cs:=cs) hm j m (by simp[Region.wanted,ops]) (by intro c;rw[h];simp) q;rw[t,finish_region j m,hd];rfl
theorem st_entry_map {o:Oper}(hm:fr.mode= .run)(j:fr.todo= .inRegion R (H::v)::k)(m:R[H]? =some o)
  (ops:o.guard=none) (h:o.op= .entry (.tmp l)) (hd:o.dst=some e) (hr:(Instr.entry (fr.tmps.getD l undef)).run P w= .ok W p):
  step P (lone fr cs w)= .next (lone { fr with tmps:=fr.tmps.setIfInBounds e W,todo:= .inRegion R v::k} cs p):=by
 have q:(execOp fr.eval o).run P w= .ok (.value W) p:=by
  have s:fr.eval (.tmp l)=fr.tmps.getD l undef:=rfl;simp only[execOp,h,s,zG,hr,Result.andThen_ok];rfl
 have t:=st_value (cs:=cs) hm j m (by simp[Region.wanted,ops]) (by intro c;rw[h];simp) q;rw[t,finish_region j m,hd];rfl
theorem st_range_map {o:Oper}{x:Operand}(hm:fr.mode= .run)(h:fr.todo= .inRegion R (H::v)::k)(j:R[H]? =some o)
  (m:o.guard=none) (f:o.op= .range V x) (hd:o.dst=some l) (hr:(Instr.range V (fr.eval x)).run P w= .ok W p):
  step P (lone fr cs w)= .next (lone { fr with tmps:=fr.tmps.setIfInBounds l W,todo:= .inRegion R v::k} cs p):=by
 have ops:(execOp fr.eval o).run P w= .ok (.value W) p:=by
  simp[execOp,f,zG,hr,Result.andThen]
 have q:=st_value (cs:=cs) hm h j (by simp[Region.wanted,m]) (by intro c;rw[f];simp) ops;rw[q,finish_region h j,hd];rfl
theorem st_extract {rest:List Nat}{o:Oper}{v:Value}(hm:fr.mode= .run)(m:fr.todo= .inRegion R (H::rest)::k)(p:R[H]? =some o)
  (q:o.guard=none) (h:o.op= .extract (.tmp l) c) (hd:o.dst=some e) (hr:fr.tmps.getD l undef= .tuple E) (s:E[c]? =some v):
  step P (lone fr cs w)= .next (lone { fr with tmps:=fr.tmps.setIfInBounds e v,todo:= .inRegion R rest::k} cs w):=by
 have t:(execOp fr.eval o).run P w= .ok (.value v) w:=by
  have u:fr.eval (.tmp l)= .tuple E:=hr;simp[execOp,h,u,s,Instr.extract,zG,Result.andThen]
 have x:=st_value (cs:=cs) hm m p (by simp[Region.wanted,q]) (by intro ops;rw[h];simp) t;rw[x,finish_region m p,hd];rfl
end
theorem EnvR.slot (h:EnvR s j H E)(hd:l<H)(z:Value):EnvR s (fun t=>bif Nat.beq t l then none else j t) H (E.setIfInBounds l z):=by
 refine⟨by rw[Array.size_setIfInBounds];exact h.size,fun t x a=> ?_,fun t R=> ?_⟩
 .simp only[look,zF,zX]at a;split at a
  .simp at a
  .rename_i i;have:=h.get t x a;rw[qW,Array.getElem?_setIfInBounds_ne (fun e=>i e.symm),<-qW];exact this
 .simp only[look,zF];split
  .rfl
  .exact h.out t R
structure AtHead (q:ML)(nt:Nat)(L:List Nat)(I M r m:Nat)(vs:List AV)(arr:Array MapEntry)(clock:Nat)(seen:Array Nat)(R:Ren)(H:AH)(tmps:Array Value)(w:World):Prop where
 rel:Rel R H w
 env: ∃e,PK e (q.it::L) (.ptr I 0::vs)/\EnvR R e nt tmps
 ri:R I r 0 0
 rm: ∃d c,R M m d c
 gi:H.h.get I=some (.raw (.mapIter (some m) clock seen clock))
 gm:H.h.get M=some (.raw (.map arr clock))
 bo:Born arr.toList clock
theorem PK_drop {e:Env}{d:Nat} : ∀ {L:List Nat} {vs:List AV},PK e L vs->(∀l∈L,l≠d)->PK (fun t=>bif Nat.beq t d then none else e t) L vs
 | [],vs,h,_=>h
 | l::L,vs,⟨v,vs',h1,h2,h3⟩,hd=>by
  refine⟨v,vs',h1, ?_,PK_drop h3 (fun x a=>hd x (zC _ a))⟩;have:=hd l (zH ..);simp only[look,zF,zX,if_neg this];exact h2
theorem getD_set_same (t:Array Value)(d:Nat)(z:Value)(h:d<t.size):(t.setIfInBounds d z).getD d undef=z:=by
 rw[qW,Array.getElem?_setIfInBounds_self_of_lt h];rfl
theorem getD_set_ne (t:Array Value)(d j:Nat)(z:Value)(h:d≠j):(t.setIfInBounds d z).getD j undef=t.getD j undef:=by
 rw[qW,Array.getElem?_setIfInBounds_ne h,<-qW]
theorem head_step {P:Program}{q:ML}(f:q.Fits H){L:List Nat}(arr: ∀nt∈q.it::L,nt≠q.nx/\nt≠q.ok/\nt≠q.en){m:Nat}{R:Nat}{j:Array Nat}{fr:Frame}{k:List Item}{cs:List Frame}
  (r:AtHead q H L l e c m h N R j s i fr.tmps p) (hm:fr.mode= .run) (ht:fr.todo= .code q.round:: .inLoop q.round:: .inBlock q.id::k):
  ((∀I∈N.toList,I.born∈j.toList)/\ ∃w,Steps P (lone fr cs p) (lone { fr with tmps:=w,todo:=k} cs p)/\ ∃I,PK I (q.it::L) (.ptr l 0::h)/\EnvR s I H w)\/
  (∃I∈N.toList,I.born∉j.toList/\ ∃w d',Steps P (lone fr cs p) (lone { fr with tmps:=w,todo:= .inRegion q.opsC ((List.range q.rest.length).map Nat.succ):: .code q.body:: .inBlock q.id2:: .inLoop q.round:: .inBlock q.id::k} cs (wput { p with drawn:=d'} c (.mapIter (some m) R (j.push I.born) R)))/\
   (∃Z,PK Z (q.it::L) (.ptr l 0::h)/\EnvR s Z H w)/\w.getD q.en undef= .tuple #[I.key,I.val]):=by
 obtain⟨e0,hp,z⟩:=r.env;obtain⟨v0,a3,a4,a5,b4⟩:=id hp;obtain⟨rfl,rfl⟩:v0= .ptr l 0/\a3=h:=by injection a4 with a b;exact⟨a.symm,b.symm⟩
 obtain⟨b,d,M,hR,hz⟩:=z.get _ _ a5;obtain⟨rfl,rfl,rfl⟩:=r.rel.fn _ _ _ _ _ _ _ hR r.ri;have G:fr.tmps.getD q.it undef= .pointer (some ⟨b,0,none⟩):=by rw[hz]
 have W:p.heap[b]? =some (.mapIter (some m) R j R):=r.rel.obj _ _ _ _ _ r.ri r.gi;obtain⟨dm,cm,a6⟩:=r.rm;have u:p.heap[m]? =some (.map N R):=r.rel.obj _ _ _ _ _ a6 r.gm;have a0:b<p.heap.size:=(r.rel.lt _ _ _ _ r.ri).1;have a7:m≠b:=fun I=>by rw[I]at u;rw[W]at u;simp at u
 have b5:=z.size;have s0:Steps P (lone fr cs p) (lone { fr with todo:= .inRegion q.opsB [0,1]:: .code (.seq (.cond (.tmp q.ok) .skip (.exit q.id)) (.block q.id2 (.seq (.region q.rC q.opsC false) q.body))):: .inLoop q.round:: .inBlock q.id::k} cs p):=
  (Steps.one (st_seq hm ht)).trans (.one (st_region (fr:= { fr with todo:= .code (.region q.rB q.opsB false):: .code (.seq (.cond (.tmp q.ok) .skip (.exit q.id)) (.block q.id2 (.seq (.region q.rC q.opsC false) q.body))):: .inLoop q.round:: .inBlock q.id::k}) hm rfl))
 rcases run_next_at (P:=P) p q.oN.type b m R R j N R W u r.bo.2 (zK _)with⟨b6,F⟩ | ⟨I,y,w1,a8,F⟩
 .left;refine⟨fun I y=> ?_, ?_⟩
  .apply Classical.byContradiction;intro a9;have:I∈(leftOf N j).toList:=by
    simp only[leftOf,Array.toList_filter,List.mem_filter];refine⟨y, ?_⟩;simpa using a9
   have h2:0< (leftOf N j).size:=by
    have:=List.length_pos_of_mem this;simpa using this
   omega
  .have O:=st_next_map (P:=P) (cs:=cs) (fr:= { fr with todo:= .inRegion q.opsB [0,1]:: .code (.seq (.cond (.tmp q.ok) .skip (.exit q.id)) (.block q.id2 (.seq (.region q.rC q.opsC false) q.body))):: .inLoop q.round:: .inBlock q.id::k}) (w:=p) hm rfl (o:=q.oN) rfl f.gN f.pN f.dN (by rw[G];exact F);have C:=st_extract (P:=P) (cs:=cs) (w:=p) (fr:= { fr with tmps:=fr.tmps.setIfInBounds q.nx (.tuple #[.bool false]),todo:= .inRegion q.opsB [1]:: .code (.seq (.cond (.tmp q.ok) .skip (.exit q.id)) (.block q.id2 (.seq (.region q.rC q.opsC false) q.body))):: .inLoop q.round:: .inBlock q.id::k}) hm rfl (o:=q.oX) rfl f.gX f.pX f.dX (getD_set_same _ _ _ (by have:=f.nx;omega)) (v:= .bool false) rfl;have Q:=st_region_end (P:=P) (cs:=cs) (w:=p) (fr:= { fr with tmps:=(fr.tmps.setIfInBounds q.nx (.tuple #[.bool false])).setIfInBounds q.ok (.bool false),todo:= .inRegion q.opsB []:: .code (.seq (.cond (.tmp q.ok) .skip (.exit q.id)) (.block q.id2 (.seq (.region q.rC q.opsC false) q.body))):: .inLoop q.round:: .inBlock q.id::k}) hm rfl;have S:=st_seq (P:=P) (cs:=cs) (w:=p) (fr:= { fr with tmps:=(fr.tmps.setIfInBounds q.nx (.tuple #[.bool false])).setIfInBounds q.ok (.bool false),todo:= .code (.seq (.cond (.tmp q.ok) .skip (.exit q.id)) (.block q.id2 (.seq (.region q.rC q.opsC false) q.body))):: .inLoop q.round:: .inBlock q.id::k}) hm rfl;have T:=st_cond (P:=P) (cs:=cs) (w:=p) (fr:= { fr with tmps:=(fr.tmps.setIfInBounds q.nx (.tuple #[.bool false])).setIfInBounds q.ok (.bool false),todo:= .code (.cond (.tmp q.ok) .skip (.exit q.id)):: .code (.block q.id2 (.seq (.region q.rC q.opsC false) q.body)):: .inLoop q.round:: .inBlock q.id::k}) (t:=false) hm rfl (getD_set_same _ _ _ (by have:=f.ok;rw[Array.size_setIfInBounds];omega));have U:=st_exit (P:=P) (cs:=cs) (w:=p) (fr:= { fr with tmps:=(fr.tmps.setIfInBounds q.nx (.tuple #[.bool false])).setIfInBounds q.ok (.bool false),todo:= .code (.exit q.id):: .code (.block q.id2 (.seq (.region q.rC q.opsC false) q.body)):: .inLoop q.round:: .inBlock q.id::k}) (k':=k) hm rfl (by simp[exitTo]);refine⟨_,s0.trans ((Steps.one O).trans ((Steps.one C).trans ((Steps.one Q).trans ((Steps.one S).trans ((Steps.one T).trans (.one U)))))),_,PK_drop (PK_drop hp (fun nt hl=>(arr nt hl).1)) (fun nt hl=>(arr nt hl).2.1),(z.slot f.nx _).slot f.ok _⟩
 .right;obtain⟨d',rfl⟩: ∃d',w1= { p with drawn:=d'} :=by
   rcases a8 with rfl | rfl
   .exact⟨w1.drawn,rfl⟩
   .exact⟨p.drawn+1,rfl⟩
  have J:I∈N.toList/\I.born∉j.toList:=by
   simp only[leftOf,Array.toList_filter,List.mem_filter]at y;exact⟨y.1,by simpa using y.2⟩
  refine⟨I,J.1,J.2, ?_⟩;have V:(Instr.next (.pointer (some ⟨b,0,none⟩)) false q.oN.type).run P p= .ok (.tuple #[.bool true,I.key,I.val]) (wput { p with drawn:=d'} b (.mapIter (some m) R (j.push I.born) R)):=F
  generalize K:wput { p with drawn:=d'} b (.mapIter (some m) R (j.push I.born) R)=w2 at V;have b0:w2.heap[b]? =some (.mapIter (some m) R (j.push I.born) R):=by rw[<-K];exact wput_same _ _ _ a0
  have b1:w2.heap[m]? =some (.map N R):=by rw[<-K,wput_other _ _ _ _ a7];exact u
  have O:=st_next_map (P:=P) (cs:=cs) (fr:= { fr with todo:= .inRegion q.opsB [0,1]:: .code (.seq (.cond (.tmp q.ok) .skip (.exit q.id)) (.block q.id2 (.seq (.region q.rC q.opsC false) q.body))):: .inLoop q.round:: .inBlock q.id::k}) (w:=p) hm rfl (o:=q.oN) rfl f.gN f.pN f.dN (by rw[G];exact V);have C:=st_extract (P:=P) (cs:=cs) (w:=w2) (fr:= { fr with tmps:=fr.tmps.setIfInBounds q.nx (.tuple #[.bool true,I.key,I.val]),todo:= .inRegion q.opsB [1]:: .code (.seq (.cond (.tmp q.ok) .skip (.exit q.id)) (.block q.id2 (.seq (.region q.rC q.opsC false) q.body))):: .inLoop q.round:: .inBlock q.id::k}) hm rfl (o:=q.oX) rfl f.gX f.pX f.dX (getD_set_same _ _ _ (by have:=f.nx;omega)) (v:= .bool true) rfl;generalize vs:(fr.tmps.setIfInBounds q.nx (.tuple #[.bool true,I.key,I.val])).setIfInBounds q.ok (.bool true)=t2 at C;have Y:EnvR s (fun t=>bif Nat.beq t q.ok then none else(fun t=>bif Nat.beq t q.nx then none else e0 t) t) H t2:=by rw[<-vs];exact(z.slot f.nx _).slot f.ok _
  have a1:t2.getD q.ok undef= .bool true:=by rw[<-vs];exact getD_set_same _ _ _ (by have:=f.ok;rw[Array.size_setIfInBounds];omega)
  have a2:t2.getD q.it undef= .pointer (some ⟨b,0,none⟩):=by rw[<-vs,getD_set_ne _ _ _ _ (fun x=>f.itok x.symm),getD_set_ne _ _ _ _ (fun x=>f.itnx x.symm)];exact G
  have Q:=st_region_end (P:=P) (cs:=cs) (w:=w2) (fr:= { fr with tmps:=t2,todo:= .inRegion q.opsB []:: .code (.seq (.cond (.tmp q.ok) .skip (.exit q.id)) (.block q.id2 (.seq (.region q.rC q.opsC false) q.body))):: .inLoop q.round:: .inBlock q.id::k}) hm rfl;have S:=st_seq (P:=P) (cs:=cs) (w:=w2) (fr:= { fr with tmps:=t2,todo:= .code (.seq (.cond (.tmp q.ok) .skip (.exit q.id)) (.block q.id2 (.seq (.region q.rC q.opsC false) q.body))):: .inLoop q.round:: .inBlock q.id::k}) hm rfl;have T:=st_cond (P:=P) (cs:=cs) (w:=w2) (fr:= { fr with tmps:=t2,todo:= .code (.cond (.tmp q.ok) .skip (.exit q.id)):: .code (.block q.id2 (.seq (.region q.rC q.opsC false) q.body)):: .inLoop q.round:: .inBlock q.id::k}) (t:=true) hm rfl a1;have U:=st_skip (P:=P) (cs:=cs) (w:=w2) (fr:= { fr with tmps:=t2,todo:= .code .skip:: .code (.block q.id2 (.seq (.region q.rC q.opsC false) q.body)):: .inLoop q.round:: .inBlock q.id::k}) hm rfl;have s7:=st_block (P:=P) (cs:=cs) (w:=w2) (fr:= { fr with tmps:=t2,todo:= .code (.block q.id2 (.seq (.region q.rC q.opsC false) q.body)):: .inLoop q.round:: .inBlock q.id::k}) hm rfl;have s8:=st_seq (P:=P) (cs:=cs) (w:=w2) (fr:= { fr with tmps:=t2,todo:= .code (.seq (.region q.rC q.opsC false) q.body):: .inBlock q.id2:: .inLoop q.round:: .inBlock q.id::k}) hm rfl;have s9:=st_region (P:=P) (cs:=cs) (w:=w2) (fr:= { fr with tmps:=t2,todo:= .code (.region q.rC q.opsC false):: .code q.body:: .inBlock q.id2:: .inLoop q.round:: .inBlock q.id::k}) hm rfl;have b2:List.range q.opsC.size=0::(List.range q.rest.length).map Nat.succ:=by
   rw[<-List.range_succ_eq_map];rfl
  rw[b2]at s9;have b3:=st_entry_map (P:=P) (cs:=cs) (w:=w2) (fr:= { fr with tmps:=t2,todo:= .inRegion q.opsC (0::(List.range q.rest.length).map Nat.succ):: .code q.body:: .inBlock q.id2:: .inLoop q.round:: .inBlock q.id::k}) hm rfl (o:=q.oE) rfl f.gE f.pE f.dE (by
   rw[a2];exact run_entry_at w2 b m R j N R I b0 b1 J.1 r.bo.1)
  refine⟨_,d', ?_,⟨_,PK_drop (PK_drop (PK_drop hp (fun nt hl=>(arr nt hl).1)) (fun nt hl=>(arr nt hl).2.1)) (fun nt hl=>(arr nt hl).2.2),Y.slot f.en _⟩,getD_set_same _ _ _ (by have:=f.en;rw[Y.size];exact this)⟩;rw[K];exact s0.trans ((Steps.one O).trans ((Steps.one C).trans ((Steps.one Q).trans ((Steps.one S).trans ((Steps.one T).trans ((Steps.one U).trans ((Steps.one s7).trans ((Steps.one s8).trans ((Steps.one s9).trans (.one b3))))))))))
theorem EnvR.know (h:EnvR s j H E)(hd:l<H)(i:VR s q (E.getD l undef)):EnvR s (upd j l q) H E:=by
 refine⟨h.size,fun t y a=> ?_,fun t R=> ?_⟩
 .simp only[look,upd_at]at a;split at a
  .rename_i e;subst e;injection a with a;subst a;exact i
  .exact h.get t y a
 .simp only[look,upd_at];rw[if_neg (by omega)];exact h.out t R
section
variable {P:Program}{B:Tb}{D:Dyn}(hX:Ok P B.X)(hr:Good P (rOf B D))
include hX hr in
theorem round_step {q:ML}{nt:Nat}(hq:q.Fits nt){L:List Nat}{hb:Hint}(a0:SitesP P 0 nt q.body hb){n:Nat}{I M r m:Nat}{vs:List AV}{arr:Array MapEntry}{a:Nat}{f:Array Nat}{R:Ren}{H j:AH}{tmps:Array Value}{w:World}{t v:AV}{e:MapEntry}{d':Nat}{p:T AObj}
  (h:AtHead q nt L I M r m vs arr a f R H tmps w) (s:T.set 40 H.h I (.raw (.mapIter (some m) a (f.push e.born) a))=some p)
  (hk:VR R t e.key) (hv:VR R v e.val) (O:q.roundK B D n nt hb L I vs t v ⟨p,H.next⟩=some (.norm (.ptr I 0::vs),j)) (a1:j.h.get I=p.get I) (a2:j.h.get M=p.get M) (a3:M≠I)
  {fr:Frame} {k:List Item} {cs:List Frame} {lo:Nat} (hm:fr.mode= .run) (ht:fr.todo= .inRegion q.opsC ((List.range q.rest.length).map Nat.succ):: .code q.body:: .inBlock q.id2:: .inLoop q.round:: .inBlock q.id::k)
  (hE: ∃F,PK F (q.it::L) (.ptr I 0::vs)/\EnvR R F nt fr.tmps) (a4:fr.tmps.getD q.en undef= .tuple #[e.key,e.val]) (hM:Marks lo R w fr.defers) (a5:lo<=w.heap.size):
  ∃G y N ds,Steps P (lone fr cs (wput { w with drawn:=d'} r (.mapIter (some m) a (f.push e.born) a))) (lone { fr with tmps:=N,todo:= .code q.round:: .inLoop q.round:: .inBlock q.id::k,defers:=ds} cs y)/\
   AtHead q nt L I M r m vs arr a (f.push e.born) G j N y/\Ext R H w G j y/\Marks lo G y ds/\H.next<=j.next:=by
 have a6:Live H I:=⟨_,h.gi,trivial⟩;have V:Rel R ⟨p,H.next⟩ (wput { w with drawn:=d'} r (.mapIter (some m) a (f.push e.born) a)):=(h.rel.drew d').put h.ri a6 s rfl
 have z:Ext R H w R ⟨p,H.next⟩ (wput { w with drawn:=d'} r (.mapIter (some m) a (f.push e.born) a)):=(Ext.drew R H w d').trans (Ext.put h.ri s)
 obtain⟨F,hp,a7⟩:=hE;unfold ML.roundK at O;obtain⟨e',W,a8⟩:=unp_le O hp;have Y:VR R (.tuple [t,v]) (fr.tmps.getD q.en undef):=by
  rw[a4];exact⟨[e.key,e.val],rfl,_,_,rfl,hk,_,_,rfl,hv,rfl⟩
 have a9:EnvR R (upd e' q.en (.tuple [t,v])) nt fr.tmps:=(a7.know hq.en Y).le (a8.upd _ _);obtain⟨es,envF,HF,env',c1,c2,c3,c4,_⟩:=opsK_chain _ _ [] _ _ _ [] W (Le.refl _) (fun ms b0=>by simp at b0);obtain⟨i1,i2⟩:=idx_get q.rest 1;have hi:es.map (·.i)=(List.range q.rest.length).map Nat.succ:=by
  have:es.map (·.i)=(idx q.rest 1).map (·.1):=by rw[<-c2];simp
  rw[this,i1];apply List.map_congr_left;intro x _;omega
 have Z: ∀e∈es,q.opsC[e.i]? =some e.o:=by
  intro e he;have h1:(e.i,e.o)∈idx q.rest 1:=by rw[<-c2];exact qM.2 ⟨e,he,rfl⟩
  obtain⟨h2,h3⟩:=i2 _ h1;show(q.oE::q.rest).toArray[e.i]? =some e.o;have b6:1<=e.i:=h2;rw[show e.i=(e.i - 1)+1 from by omega,List.getElem?_toArray,yY];exact h3
 obtain⟨Q,S,t1,s1,e1,l1,J⟩:=chain_run hX hr c1 Z R fr (.code q.body:: .inBlock q.id2:: .inLoop q.round:: .inBlock q.id::k) cs _ hm (by rw[hi];exact ht) a9 V;have b1:=codeK_ok hX hr (ro:=true) (f0:=0) (rs:=[]) (nt:=nt) (n:=n) q.body hb [] _ env' HF _ a0 c4;have b4:Marks lo Q S fr.defers:=(hM.ext z).ext J;obtain⟨R2,w2,t2,b7,C,env2,H2,s2,e2,l2,x2,n2,m2,o2⟩:=b1 lo Q { fr with tmps:=t1,todo:= .code q.body:: .inBlock q.id2:: .inLoop q.round:: .inBlock q.id::k} (.inBlock q.id2:: .inLoop q.round:: .inBlock q.id::k) cs S hm (fun h=>by simp at h) rfl (e1.le c3) l1 b4 (qP a5 (z.trans J).size);have b5:=(chain_next hr.mono c1).1;rcases o2 with⟨rfl,b2⟩ | ⟨id,k',rfl,b2,L',vs',b3,_⟩ | ⟨k',rfl,b2⟩
 .obtain⟨b8,p1,U⟩:=pck_some b2;simp only[zB,zQ,Ex.norm.injEq]at U;obtain⟨rfl,rfl⟩:=U;have K:=z.trans (J.trans x2);refine⟨R2,w2,t2,C, ?_,⟨l2,⟨env2,p1,e2⟩,K.sub _ _ _ _ h.ri, ?_, ?_, ?_,h.bo⟩,K,m2,qP (show H.next<=HF.next from b5) n2⟩
  .refine s1.trans ((Steps.one (st_region_end (fr:= { fr with tmps:=t1,todo:= .inRegion q.opsC []:: .code q.body:: .inBlock q.id2:: .inLoop q.round:: .inBlock q.id::k}) hm rfl)).trans (s2.trans ?_));refine(Steps.one (st_inBlock (fr:= { fr with tmps:=t2,todo:= .inBlock q.id2:: .inLoop q.round:: .inBlock q.id::k,defers:=C}) hm rfl)).trans ?_;exact .one (st_inLoop (fr:= { fr with tmps:=t2,todo:= .inLoop q.round:: .inBlock q.id::k,defers:=C}) hm rfl)
  .obtain⟨d,c,hr⟩:=h.rm;exact⟨d,c,K.sub _ _ _ _ hr⟩
  .rw[a1,T.get_set _ _ _ _ _ s,if_pos rfl]
  .rw[a2,T.get_set _ _ _ _ _ s,if_neg a3];exact h.gm
 .simp[liveOf]at b3
 .obtain⟨u,e⟩:=retE_form b2;simp at e
end
section
variable {P:Program}{B:Tb}{D:Dyn}(hX:Ok P B.X)(hr:Good P (rOf B D))
include hX hr in
theorem loop_run {q:ML}(hq:q.Fits H)(b0: ∀n∈q.it::v,n≠q.nx/\n≠q.ok/\n≠q.en)(b7:SitesP P 0 H q.body L){r m:Nat}(b8:c≠e)(hI:True){O:Nat}
  {C:List (AV×AV)->AH->Prop}
  (b2: ∀F k hb rest o,C F o->(F++(k,hb)::rest).Perm Q-> ∃J,q.roundK B D l H L v e h k hb o=some (.norm (.ptr e 0::h),J)/\J.h.get e=o.h.get e/\J.h.get c=o.h.get c/\C (F++[(k,hb)]) J)
  (b4: ∀F o y U,C F o->T.set 40 o.h e (.raw y)=some U->C F ⟨U,o.next⟩)
  {s:List ((AV×AV)×MapEntry)} (b5:s.map (·.1)=Q) (a1:(s.map (·.2)).Perm N.toList):
  ∀(M:Nat) (rp f:List ((AV×AV)×MapEntry)) (u:Array Nat) (R:Ren) (nt:AH) (fr:Frame) (k:List Item) (cs:List Frame) (w:World) (lo:Nat),rp.length=M->(f++rp).Perm s->u.toList=f.map (·.2.born)->C (f.map (·.1)) nt->
   (∀p∈s,VR R p.1.1 p.2.key/\VR R p.1.2 p.2.val)->AtHead q H v e c r m h N O u R nt fr.tmps w->fr.mode= .run->fr.todo= .code q.round:: .inLoop q.round:: .inBlock q.id::k->Marks lo R w fr.defers->lo<=w.heap.size->
   ∃(R':Ren) (V:World) (z:Array Value) (ds:List Deferred) (H':AH) (vs:List ((AV×AV)×MapEntry)) (a0:Array Nat),Steps P (lone fr cs w) (lone { fr with tmps:=z,todo:=k,defers:=ds} cs V)/\vs.Perm s/\C (vs.map (·.1)) H'/\AtHead q H v e c r m h N O a0 R' H' z V/\Ext R nt w R' H' V/\Marks lo R' V ds/\nt.next<=H'.next:=by
 have find: ∀I∈N.toList,∃p∈s,p.2=I:=fun I x=>by
  have:=a1.symm.subset x;obtain⟨p,t,h2⟩:=qM.1 this;exact⟨p,t,h2⟩
 intro M
 induction M with
 | zero=>
  intro rp f u R nt fr k cs w lo W j K a4 S i hm ht hM a5;have:rp=[]:=zR W;subst this;rw[qG]at j;rcases head_step (P:=P) (cs:=cs) hq b0 i hm ht with⟨_,z,s1,x⟩ | ⟨I,x,a6,_⟩
  .exact⟨R,w,z,fr.defers,nt,f,u,s1,j,a4,⟨i.rel,x,i.ri,i.rm,i.gi,i.gm,i.bo⟩,jX R nt w,hM,zK _⟩
  .obtain⟨p,hp,rfl⟩:=find I x;exact absurd (by rw[K];exact qM.2 ⟨p,j.symm.subset hp,rfl⟩) a6
 | succ M ih=>
  intro rp f u R nt fr k cs w lo W j K a4 S i hm ht hM a5;rcases head_step (P:=P) (cs:=cs) hq b0 i hm ht with⟨b6,_⟩ | ⟨I,x,a6,z,d',s1,hE,b9⟩
  .exfalso;obtain⟨p,G,rfl⟩: ∃p G,rp=p::G:=by
    cases rp with
    | nil=>simp at W
    | cons p G=>exact⟨p,G,rfl⟩
   have a7:p∈s:=j.subset (by simp);have t:=b6 p.2 (a1.subset (qM.2 ⟨p,a7,rfl⟩));rw[K]at t;have b1:((f++p::G).map (·.2.born)).Nodup:=by
    have h2:((f++p::G).map (·.2.born)).Perm (N.toList.map (·.born)):=by
     have:=(j.map (·.2)).trans a1;have:=this.map (·.born);rw[List.map_map]at this;exact this
    exact h2.symm.nodup i.bo.1
   rw[List.map_append,List.nodup_append]at b1;exact b1.2.2 _ t _ (by simp) rfl
  .obtain⟨p,hp,rfl⟩:=find I x;have a7:p∈f++rp:=j.symm.subset hp;have c0:p∈rp:=by
    rcases zZ.1 a7 with t | t
    .exact absurd (by rw[K];exact qM.2 ⟨p,t,rfl⟩) a6
    .exact t
   obtain⟨Y,Z,rfl⟩:=List.append_of_mem c0;obtain⟨⟨kA,vA⟩,I⟩:=p;have a8:(f++[((kA,vA),I)]++(Y++Z)).Perm s:=by
    refine List.Perm.trans ?_ j;rw[qC];refine List.Perm.append_left _ ?_;exact(List.perm_middle (a:=((kA,vA),I)) (l₁:=Y) (l₂:=Z)).symm
   obtain⟨U,a9⟩:=qI.1 (T.set_some 40 nt.h e (.raw (.mapIter (some m) O (u.push I.born) O)));have b3:=b4 _ _ _ _ a4 a9;obtain⟨J,g1,g2,g3,g4⟩:=b2 (f.map (·.1)) kA vA ((Y++Z).map (·.1)) ⟨U,nt.next⟩ b3 (by
    have:=a8.map (·.1);rw[b5]at this;simpa using this)
   obtain⟨hk,hv⟩:=S _ hp;obtain⟨R1,w1,t1,c1,s2,a2,x2,m2,n2⟩:=round_step hX hr (d':=d') (cs:=cs) (lo:=lo) (k:=k) (fr:= { fr with tmps:=z,todo:= .inRegion q.opsC ((List.range q.rest.length).map Nat.succ):: .code q.body:: .inBlock q.id2:: .inLoop q.round:: .inBlock q.id::k}) hq b7 i a9 hk hv g1 g2 g3 b8 hm rfl hE b9 hM a5;obtain⟨R2,w2,t2,c2,H4,vs,a0,s3,p3,i3,a3,x3,m3,n3⟩:=ih (Y++Z) (f++[((kA,vA),I)]) (u.push I.born) R1 J { fr with tmps:=t1,todo:= .code q.round:: .inLoop q.round:: .inBlock q.id::k,defers:=c1} k cs w1 lo (by simp at W⊢;omega) a8 (by simp[K]) (by simpa using g4)
    (fun p hp=>⟨VR.mono x2.sub _ _ (S p hp).1,VR.mono x2.sub _ _ (S p hp).2⟩) a2 hm rfl m2 (qP a5 x2.size)
   exact⟨R2,w2,t2,c2,H4,vs,a0,s1.trans (s2.trans s3),p3,i3,a3,x2.trans x3,m3,qP n2 n3⟩
end
section
variable {P:Program}{B:Tb}{D:Dyn}(hX:Ok P B.X)(hr:Good P (rOf B D))
theorem MR.pairs {l:List MapEntry}(h:MR s Q l): ∃f:List ((AV×AV)×MapEntry),f.map (·.1)=Q/\(f.map (·.2)).Perm l/\ ∀p∈f,VR s p.1.1 p.2.key/\VR s p.1.2 p.2.val:=by
 obtain⟨m,hp,i,j⟩:=h;have key: ∀(Q:List (AV×AV)) (m:List MapEntry),VRL s (Q.map (·.1)) (m.map (·.key))->VRL s (Q.map (·.2)) (m.map (·.val))-> ∃f:List ((AV×AV)×MapEntry),f.map (·.1)=Q/\f.map (·.2)=m/\ ∀p∈f,VR s p.1.1 p.2.key/\VR s p.1.2 p.2.val:=by
  intro Q
  induction Q with
  | nil=>
   intro m i _;simp only[List.map_nil,VRL,List.map_eq_nil_iff]at i;subst i;exact⟨[],rfl,rfl,by simp⟩
  | cons e Q ih=>
   intro m i j;obtain⟨x,xs,o,h3,v⟩:=i;obtain⟨y,z,u,h5,h6⟩:=j
   cases m with
   | nil=>simp at o
   | cons a m=>
    simp only[y6,yF]at o u;obtain⟨rfl,rfl⟩:=o;obtain⟨rfl,rfl⟩:=u;obtain⟨f,q,R,t⟩:=ih m v h6;refine⟨(e,a)::f,by simp[q],by simp[R],fun p hp=> ?_⟩;rcases zM.1 hp with rfl | hp
    .exact⟨h3,h5⟩
    .exact t p hp
 obtain⟨f,q,R,t⟩:=key Q m i j;exact⟨f,q,by rw[R];exact hp,t⟩
variable {nt:Nat}
include hX hr in
theorem chain_runT {ops:Array Oper} : ∀ {es:List Ent} {env:Env} {H:AH} {envF:Env} {HF:AH},Chain B.X (rOf B D) nt ops env H es envF HF->(∀e∈es,ops[e.i]? =some e.o)->
  ∀(R:Ren) (fr:Frame) (a:List Nat) (k:List Item) (cs:List Frame) (w:World),fr.mode= .run->fr.todo= .inRegion ops (es.map (·.i)++a)::k->EnvR R env nt fr.tmps->Rel R H w->
  ∃t u y,Steps P (lone fr cs w) (lone { fr with tmps:=y,todo:= .inRegion ops a::k} cs u)/\EnvR t envF nt y/\Rel t HF u/\Ext R H w t HF u
 | [],env,H,envF,HF,⟨h1,h2⟩,_,R,fr,a,k,cs,w,hm,ht,hE,hL=>by
  subst h1 h2;refine⟨R,w,fr.tmps, ?_,hE,hL,jX R H w⟩;have:({ fr with tmps:=fr.tmps,todo:= .inRegion ops a::k} :Frame)=fr:=by
   have f:fr.todo= .inRegion ops a::k:=ht;rw[<-f]
  rw[this];exact .refl _ _
 | e::es,env,H,envF,HF,⟨h1,h2,h3,env',h4,h5⟩,hmem,R,fr,a,k,cs,w,hm,ht,hE,hL=>by
  have x:=hmem e (zH ..);obtain⟨I,F,G⟩:=ent_ok _ _ _ h3;have m:=want_ok hE I;have f:fr.todo= .inRegion ops (e.i::(es.map (·.i)++a))::k:=ht;have key: ∃h j z,Steps P (lone fr cs w) (lone { fr with tmps:=putT fr.tmps e.o.dst z,todo:= .inRegion ops (es.map (·.i)++a)::k} cs j)/\VR h e.v z/\Rel h e.H' j/\Ext R H w h e.H' j:=by
   cases p:e.want with
   | true=>
    rw[p]at m;exact opF_ok hX hr (cs:=cs) hm f x m hE hL (F p)
   | false=>
    rw[p]at m;obtain⟨J,s⟩:=G p;refine⟨R,w,undef, ?_,by rw[J];exact VR_undef R,by rw[s];exact hL,by rw[s];exact jX R H w⟩;rw[<-finish_region f x];exact .one (st_passed hm f x m)
  obtain⟨h,j,z,K,v1,L,C⟩:=key;obtain⟨M,N,t2,O,s,Q,S⟩:=chain_runT h5 (fun q T=>hmem q (zC _ T)) h { fr with tmps:=putT fr.tmps e.o.dst z,todo:= .inRegion ops (es.map (·.i)++a)::k} a k cs j hm rfl ((hE.mono C.sub).put v1 h4) L;exact⟨M,N,t2,K.trans O,s,Q,C.trans S⟩
noncomputable def ML.preK (q:ML)(B:Tb)(D:Dyn)(nt:Nat)(L:List Nat)(vs:List AV)(H:AH):Rs:=
 unp L vs env0 fun e=>opsK B D nt q.opsA none (Nat.succ q.pre.length) (fun e H=>pck L e fun vs=>bV (opd e q.x) fun v=>some (.norm (v::vs),H)) (idx q.pre 0) [] e H
structure ML.Plan (q:ML)(B:Tb)(D:Dyn)(n nt:Nat)(hb:Hint)(L:List Nat)(vs:List AV)(H H':AH) where
 M:Nat
 ks:List Nat
 es:List (AV×AV)
 inv:List (AV×AV)->AH->Prop
 pre:q.preK B D nt L vs H=some (.norm (.map M::vs),H)
 room:True
 map:H.h.get M=some (.map ks es)
 start: ∀x y t1 t2,T.set 40 H.h M (.raw x)=some t1->T.set 40 t1 H.next (.raw y)=some t2->inv [] ⟨t2,H.next+1⟩
 step: ∀vis k v rest Hk,inv vis Hk->(vis++(k,v)::rest).Perm es-> ∃H3,q.roundK B D n nt hb L H.next vs k v Hk=some (.norm (.ptr H.next 0::vs),H3)/\H3.h.get H.next=Hk.h.get H.next/\H3.h.get M=Hk.h.get M/\inv (vis++[(k,v)]) H3
 raw: ∀vis Hk y t',inv vis Hk->T.set 40 Hk.h H.next (.raw y)=some t'->inv vis ⟨t',Hk.next⟩
 fin: ∀vis Hk t1 t2,inv vis Hk->vis.Perm es->T.set 40 Hk.h M (.map ks es)=some t1->T.set 40 t1 H.next .dead=some t2-> ∀R0 w0 R w,Rel R0 H w0->(∀v∈vs,∃z,VR R0 v z)->(∃b d c,R0 M b d c)->Sub R0 R->Rel R ⟨t2,Hk.next⟩ w->Rel R H' w/\H'.next=Hk.next/\ ∀A,A<H.next->(∀b d c,¬R0 A b d c)->H'.h.get A=H.h.get A
end
section
variable {P:Program}{B:Tb}{D:Dyn}(hX:Ok P B.X)(hr:Good P (rOf B D)){nt:Nat}
theorem Ext.told {o':AObj}{a:T AObj}(hR:s H l e c)(f:T.set 40 i.h H o'=some a):Ext s i p s ⟨a,i.next⟩ p:=
 ⟨jT s,fun _ _ _ _ h=> .inl h,fun _ _ _ _ h=> .inl h,zK _,fun R _ j=>by
  have:R≠H:=fun w=>by subst w;exact j _ _ _ hR
  simp only[T.get_set _ _ _ _ _ f,if_neg this],rfl,rfl,rfl,zK _,fun _ _ _=>rfl⟩
include hX hr in
theorem mapLoop_ok {q:ML}(O:q.Fits nt)(c7: ∀l∈q.it::v,l≠q.nx/\l≠q.ok/\l≠q.en)(c8: ∀l∈v,l≠q.it)(c9:SitesP P 0 nt q.body L){vt:TypeId}(d0:B.X.und q.t=some (.map V vt))
  (d1: ∀vs n H',f vs n=some H'->Nonempty (q.Plan B D H nt L v vs n H')):ToldOk P nt t q.code v f:=by
 intro ro env vs n H' hp d2 d4 lo R fr k cs w hm f7 d5 hE hL hM d6;obtain⟨kt⟩:=d1 vs n H' d2;have a1:=kt.pre;unfold ML.preK at a1;obtain⟨e1,b5,b6⟩:=unp_le a1 hp;obtain⟨es,envF,HF,env',c1,c2,c3,I,_⟩:=opsK_chain _ _ [] _ _ _ [] b5 (Le.refl _) (fun ms d7=>by simp at d7);obtain⟨K,p1,I⟩:=pck_some I;obtain⟨v1,o1,I⟩:=bV_some I;simp only[zB,zQ,Ex.norm.injEq,yF]at I;obtain⟨⟨rfl,rfl⟩,rfl⟩:=I;obtain⟨i1,i2⟩:=idx_get q.pre 0;have hi:es.map (·.i)=List.range q.pre.length:=by
  have:es.map (·.i)=(idx q.pre 0).map (·.1):=by rw[<-c2];simp
  rw[this,i1];simp
 have b7: ∀e∈es,q.opsA[e.i]? =some e.o:=by
  intro e he;have Q:(e.i,e.o)∈idx q.pre 0:=by rw[<-c2];exact qM.2 ⟨e,he,rfl⟩
  have h3:=(i2 _ Q).2;rw[j7]at h3;show(q.pre++[q.oR]).toArray[e.i]? =some e.o;rw[List.getElem?_toArray,yQ (qN.1 h3).1];exact h3
 have d8:List.range q.opsA.size=es.map (·.i)++[q.pre.length]:=by
  rw[hi,<-List.range_succ];show List.range (q.pre++[q.oR]).toArray.size=_;simp
 obtain⟨s,a,t1,s1,d9,l1,x1⟩:=chain_runT hX hr c1 b7 R { fr with todo:= .inRegion q.opsA (es.map (·.i)++[q.pre.length]):: .code (.block q.id (.loop q.round))::k} [q.pre.length] (.code (.block q.id (.loop q.round))::k) cs w hm rfl (hE.le b6) hL;have a6:EnvR s env' nt t1:=d9.le c3;obtain⟨m,dm,cm,y,e0⟩:=opd_ok (fr:= { fr with tmps:=t1,todo:= .inRegion q.opsA [q.pre.length]:: .code (.block q.id (.loop q.round))::k}) a6 _ _ o1;obtain⟨arr,j,a7,a8,e2,e4,a9⟩:=l1.mapAt kt.map y;have b2:q.opsA[q.pre.length]? =some q.oR:=by
  show(q.pre++[q.oR]).toArray[q.pre.length]? =some q.oR;simp
 have s2:=st_range_map (P:=P) (cs:=cs) (w:=a) (fr:= { fr with tmps:=t1,todo:= .inRegion q.opsA [q.pre.length]:: .code (.block q.id (.loop q.round))::k}) hm rfl b2 O.gR O.pR O.dR (by rw[e0];exact run_range_map (hX.run_und d0 a) a7);have f8:kt.M<HF.next:=(l1.lt _ _ _ _ y).2
 have b3:=kt.room;obtain⟨W,f0⟩:=qI.1 (T.set_some 40 HF.h kt.M (.raw (.map arr j)));obtain⟨Y,N⟩:=qI.1 (T.set_some 40 W HF.next (.raw (.mapIter (some m) j #[] j)))
 have lM:Rel s ⟨W,HF.next⟩ a:=l1.told y kt.map ⟨_,kt.map,trivial⟩ f0 a7
 have l2:Rel (s.add HF.next a.heap.size 0 0) ⟨Y,HF.next+1⟩ (a.alloc (.mapIter (some m) j #[] j)):=lM.new (c:=0) (x:= .mapIter (some m) j #[] j) (H:=⟨W,HF.next⟩) N rfl
 have Z:Ext R HF w (s.add HF.next a.heap.size 0 0) ⟨Y,HF.next+1⟩ (a.alloc (.mapIter (some m) j #[] j)):=(x1.trans (Ext.told y f0)).trans (Ext.add (H:=⟨W,HF.next⟩) N)
 obtain⟨ps,a2,b8,a4⟩:=a8.pairs;have G:Sub s (s.add HF.next a.heap.size 0 0):=s.sub_add _ _ _ _
 have e5: ∀p∈ps,VR (s.add HF.next a.heap.size 0 0) p.1.1 p.2.key/\VR (s.add HF.next a.heap.size 0 0) p.1.2 p.2.val:=fun p hp=>⟨VR.mono G _ _ (a4 p hp).1,VR.mono G _ _ (a4 p hp).2⟩
 have b0:kt.M≠HF.next:=by omega
 have e6:EnvR (s.add HF.next a.heap.size 0 0) (upd env' q.it (.ptr HF.next 0)) nt (t1.setIfInBounds q.it (.pointer (some ⟨a.heap.size,0,none⟩))):=
  (a6.mono G).put (dst:=some q.it) (x:= .ptr HF.next 0) ⟨a.heap.size,0,0,s.add_self _ _ _ _,rfl⟩ (by have L:=O.it;rw[<-q9]at L;simp only[setD,L,zP])
 have e7:PK (upd env' q.it (.ptr HF.next 0)) (q.it::v) (.ptr HF.next 0::K):=by
  refine⟨_,_,rfl,by simp[look,upd_at], ?_⟩;have key: ∀(v:List Nat) (vs:List AV),(∀l∈v,l≠q.it)->PK env' v vs->PK (upd env' q.it (.ptr HF.next 0)) v vs:=by
   intro v
   induction v with
   | nil=>intro vs _ h;exact h
   | cons l v ih=>
    intro vs hd h;obtain⟨hb,vs',Q,h2,h3⟩:=h;refine⟨hb,vs',Q, ?_,ih vs' (fun x hx=>hd x (zC _ hx)) h3⟩;have:=hd l (zH ..);simp only[look,upd_at,if_neg this];exact h2
  exact key v K c8 p1
 have e8:AtHead q nt v HF.next kt.M a.heap.size m K arr j #[] (s.add HF.next a.heap.size 0 0) ⟨Y,HF.next+1⟩ (t1.setIfInBounds q.it (.pointer (some ⟨a.heap.size,0,none⟩))) (a.alloc (.mapIter (some m) j #[] j)):=
  ⟨l2,⟨_,e7,e6⟩,s.add_self _ _ _ _,⟨dm,cm,G _ _ _ _ y⟩,by simp only[T.get_set _ _ _ _ _ N,if_true],by simp only[T.get_set _ _ _ _ _ N,if_neg b0,T.get_set _ _ _ _ _ f0,if_true],a9⟩
 have e9:Marks lo (s.add HF.next a.heap.size 0 0) (a.alloc (.mapIter (some m) j #[] j)) fr.defers:=hM.ext Z
 obtain⟨C,J,t3,f1,S,vp,f6,s3,v3,i3,F,x3,m3,n3⟩:=loop_run hX hr O c7 c9 b0 b3 kt.step kt.raw a2 b8 ps.length ps [] #[] _ ⟨Y,HF.next+1⟩ { fr with tmps:=t1.setIfInBounds q.it (.pointer (some ⟨a.heap.size,0,none⟩)),todo:= .code q.round:: .inLoop q.round:: .inBlock q.id::k} k cs _ lo rfl (by simp) rfl (kt.start _ _ _ _ f0 N) e5 e8 hm rfl e9 (qP d6 Z.size)
 obtain⟨d3,f9,b9⟩:=F.rm;obtain⟨tc,b1⟩:=qI.1 (T.set_some 40 S.h kt.M (.map kt.ks kt.es));obtain⟨td,a5⟩:=qI.1 (T.set_some 40 tc HF.next .dead)
 have c0:J.heap[m]? =some (.map arr j):=F.rel.obj _ _ _ _ _ b9 F.gm;have b4:C kt.M m dm cm:=x3.sub _ _ _ _ (G _ _ _ _ y);have l4:Rel C ⟨tc,S.next⟩ J:=F.rel.told b4 F.gm ⟨_,F.gm,trivial⟩ b1 ⟨arr,j,c0,a8.mono (fun A b d c h=>x3.sub _ _ _ _ (G _ _ _ _ h)),e2,e4,a9⟩
 have l5:Rel C ⟨td,S.next⟩ J:=l4.kill (H:=⟨tc,S.next⟩) a5
 have f2: ∀hb∈K,∃z,VR R hb z:=by
  have key: ∀(v:List Nat) (vs:List AV),PK env v vs-> ∀hb∈vs,∃z,VR R hb z:=by
   intro v
   induction v with
   | nil=>intro vs h hb U;simp only[PK]at h;subst h;simp at U
   | cons l v ih=>
    intro vs h hb U;obtain⟨v0,vs',Q,h2,h3⟩:=h;subst Q;rcases zM.1 U with rfl | U
    .exact⟨_,hE.get _ _ h2⟩
    .exact ih vs' h3 hb U
  exact key v K hp
 have f3: ∃b d c,R kt.M b d c:=by
  rcases x1.newA _ _ _ _ y with h | h
  .exact⟨_,_,_,h⟩
  .omega
 have c5:Sub R C:=(Z.trans x3).sub;obtain⟨l6,g0,f4⟩:=kt.fin _ S tc td i3 (by rw[<-a2];exact v3.map _) b1 a5 R w C J hL f2 f3 c5 l5;have u:=Z.trans x3;have x4:Ext R HF w C H' J:=⟨u.sub,u.new,u.newA,by have:=u.next;omega,f4,u.os,u.tape,u.output,u.size,u.keep⟩
 obtain⟨e3,pk3,f5⟩:=F.env;obtain⟨_,_,a0,_,c6⟩:=pk3;injection a0 with _ a0;subst a0
 refine⟨C,J,t3,k,f1,e3,H', ?_,f5,l6,x4,d4,m3, .inl ⟨rfl,c6,rfl⟩⟩;refine(Steps.one (st_seq hm d5)).trans ?_;refine(Steps.one (st_region (fr:= { fr with todo:= .code (.region q.rA q.opsA false):: .code (.block q.id (.loop q.round))::k}) hm rfl)).trans ?_;rw[d8];refine s1.trans ((Steps.one s2).trans ?_);refine(Steps.one (st_region_end (fr:= { fr with tmps:=t1.setIfInBounds q.it (.pointer (some ⟨a.heap.size,0,none⟩)),todo:= .inRegion q.opsA []:: .code (.block q.id (.loop q.round))::k}) hm rfl)).trans ?_;refine(Steps.one (st_block (fr:= { fr with tmps:=t1.setIfInBounds q.it (.pointer (some ⟨a.heap.size,0,none⟩)),todo:= .code (.block q.id (.loop q.round))::k}) hm rfl)).trans ?_;refine(Steps.one (st_loop (fr:= { fr with tmps:=t1.setIfInBounds q.it (.pointer (some ⟨a.heap.size,0,none⟩)),todo:= .code (.loop q.round):: .inBlock q.id::k}) hm rfl)).trans ?_;exact s3
end
def ups (e:List (AV×AV))(x:AV×AV):List (AV×AV):=match setA x.1 x.2 e with
 | some r=>r
 | none=>e++[x]
def upsL:List (AV×AV)->List (AV×AV)->List (AV×AV)
 | e,[]=>e
 | e,x::l=>upsL (ups e x) l
noncomputable def freeN (t:T AObj):Nat->Nat->Bool
 | _,0=>true
 | A,n+1=>match T.get t A with
  | none=>fN (Nat.succ A) fun A=>freeN t A n
  | some _=>false
theorem freeN_ok {t:T AObj} : ∀ {n A:Nat},freeN t A n=true-> ∀C,A<=C->C<A+n->t.get C=none
 | 0,_,_,C,h1,h2=>by omega
 | n+1,A,h,C,h1,h2=>by
  simp only[freeN]at h;split at h
  .rename_i e;rw[fN_eq]at h;by_cases a:C=A
   .subst a;exact e
   .exact freeN_ok h C (by simp only[Nat.succ_eq_add_one];omega) (by simp only[Nat.succ_eq_add_one];omega)
  .simp at h
noncomputable def upLp (kk:List Nat)(nb:Nat)(ok:AV->Bool)(x y:AV)(H:AH):Option AH:=match x with
 | .map M=>match y with
  | .map A=>match H.h.get M with
   | some (.map ks es)=>match H.h.get A with
    | some (.map ks' es')=>bif eqNL kk ks&&eqNL ks ks'&& !Nat.beq M A&&es.all (fun e=>keyOk ks e.1&&ok e.2)then
      fN (H.next+1+nb*es.length) fun N=>bif freeN H.h H.next (1+nb*es.length)then
       match putA H A (.map ks (upsL es' es))with
       | some H1=>some ⟨H1.h,N⟩
       | none=>none
      else none
     else none
    | _=>none
   | _=>none
  | _=>none
 | _=>none
theorem upsL_snoc (x:AV×AV): ∀(l e:List (AV×AV)),upsL e (l++[x])=ups (upsL e l) x
 | [],e=>rfl
 | y::l,e=>by simp only[qB,upsL];exact upsL_snoc x l (ups e y)
open Classical in
theorem ups_perm {ks:List Nat}{e:List (AV×AV)}{x:AV×AV}(hk:keyOk ks x.1=true)(hd:e.Pairwise (fun a b=>a.1≠b.1)):(ups e x).Perm (x::e.filter (fun y=>decide (y.1≠x.1))):=by
 obtain⟨k,v⟩:=x;unfold ups;split
 .rename_i r hr;obtain⟨e1,v0,e2,rfl,rfl⟩:=setA_some hr;rw[yV,yJ]at hd;have h1:e1.filter (fun y=>decide (y.1≠k))=e1:=List.filter_eq_self.2 fun y hy=>by
   simpa using hd.2.2 y hy (k,v0) (zH ..)
  have h2:e2.filter (fun y=>decide (y.1≠k))=e2:=List.filter_eq_self.2 fun y hy=>by
   have:=hd.2.1.1 y hy;simpa using fun h=>this h.symm
  rw[jF,List.filter_cons];simp only[ne_eq,not_true_eq_false,decide_false,zL,qD];simp only[ne_eq]at h1 h2;rw[h1,h2];exact List.perm_middle
 .rename_i hr;have hn:=setA_none hk hr;have h1:e.filter (fun y=>decide (y.1≠k))=e:=List.filter_eq_self.2 fun y hy=>by simpa using hn y hy
  simp only[ne_eq]at h1⊢;rw[h1];exact List.perm_append_comm
theorem pw_perm {m:List (AV×AV)}(h:Q.Perm m)(hl:Q.Pairwise (fun a b=>a.1≠b.1)):m.Pairwise (fun a b=>a.1≠b.1):=
 (List.Perm.pairwise_iff (fun h e=>h e.symm) h).1 hl
open Classical in
theorem upsL_perm {ks:List Nat}{e:List (AV×AV)}(hd:e.Pairwise (fun a b=>a.1≠b.1)): ∀(n:Nat) (l:List (AV×AV)),l.length=n->(∀x∈l,keyOk ks x.1=true)->l.Pairwise (fun a b=>a.1≠b.1)->
  (upsL e l).Perm (l++e.filter (fun y=>decide (∀x∈l,y.1≠x.1)))/\(upsL e l).Pairwise (fun a b=>a.1≠b.1):=by
 intro n
 induction n with
 | zero=>
  intro l hl hk hp;have:l=[]:=zR hl;subst this;refine⟨?_,hd⟩;rw[List.filter_eq_self.2 (fun y _=>by simp)];simp[upsL]
 | succ n ih=>
  intro l hl hk hp;rcases List.eq_nil_or_concat l with rfl | ⟨l,x,rfl⟩
  .simp at hl
  .simp only[List.concat_eq_append]at hl hk hp⊢;rw[yV]at hp;obtain⟨i1,i2⟩:=ih l (by simp at hl;omega) (fun y hy=>hk y (by simp[hy])) hp.1;have h1:=ups_perm (hk x (by simp)) i2;rw[upsL_snoc];have h2:(upsL e l).filter (fun y=>decide (y.1≠x.1)) |>.Perm ((l++e.filter (fun y=>decide (∀z∈l,y.1≠z.1))).filter (fun y=>decide (y.1≠x.1))):=i1.filter _;have h3:(l++e.filter (fun y=>decide (∀z∈l,y.1≠z.1))).filter (fun y=>decide (y.1≠x.1))=l++e.filter (fun y=>decide (∀z∈l++[x],y.1≠z.1)):=by
    rw[jF,List.filter_filter];congr 1
    .exact List.filter_eq_self.2 fun y hy=>by simpa using hp.2.2 y hy x (by simp)
    .apply List.filter_congr;intro y _;rw[yG];simp only[zE,zU,zZ,y8];constructor
     .rintro⟨h1,h2⟩ z (hz | rfl)
      .exact h2 z hz
      .exact h1
     .intro h;exact⟨h x (.inr rfl),fun z hz=>h z (.inl hz)⟩
   have h4:(ups (upsL e l) x).Perm ((l++[x])++e.filter (fun y=>decide (∀z∈l++[x],y.1≠z.1))):=by
    refine h1.trans ?_;refine((h2.trans (List.Perm.of_eq h3)).cons x).trans ?_;rw[qC];exact List.perm_middle.symm
   refine⟨h4, ?_⟩;refine pw_perm h1.symm ?_;rw[yJ];refine⟨fun y hy=> ?_,List.Pairwise.filter _ i2⟩;have:=(List.mem_filter.1 hy).2;simp only[ne_eq,zU]at this;exact fun h=>this h.symm
open Classical in
theorem upsL_same {ks:List Nat}{e l m:List (AV×AV)}(hd:e.Pairwise (fun a b=>a.1≠b.1))(hk: ∀x∈l,keyOk ks x.1=true)(hl:l.Pairwise (fun a b=>a.1≠b.1))(h:l.Perm m):(upsL e l).Perm (upsL e m):=by
 obtain⟨h1,_⟩:=upsL_perm hd _ l rfl hk hl;obtain⟨h2,_⟩:=upsL_perm (ks:=ks) hd _ m rfl (fun x hx=>hk x (h.symm.subset hx)) (pw_perm h hl);refine h1.trans (List.Perm.trans ?_ h2.symm);have:e.filter (fun y=>decide (∀x∈l,y.1≠x.1))=e.filter (fun y=>decide (∀x∈m,y.1≠x.1)):=by
  apply List.filter_congr;intro y _;congr 1;apply propext;exact⟨fun a x hx=>a x (h.symm.subset hx),fun a x hx=>a x (h.subset hx)⟩
 rw[this];exact h.append_right _
theorem MR.perm {es':List (AV×AV)}{l:List MapEntry}(h:MR s Q l)(hp:Q.Perm es'):MR s es' l:=by
 obtain⟨f,u,R,h3⟩:=h.pairs;subst u;have key: ∀ {a b:List (AV×AV)},a.Perm b-> ∀f:List ((AV×AV)×MapEntry),f.map (·.1)=a-> ∃i:List ((AV×AV)×MapEntry),i.map (·.1)=b/\i.Perm f:=by
  intro a b t
  induction t with
  | nil=>intro f h;exact⟨f,h, .refl _⟩
  | cons x _ ih=>
   intro f h
   cases f with
   | nil=>simp at h
   | cons p f=>
    simp only[y6,yF]at h;obtain⟨i,m,j⟩:=ih f h.2;exact⟨p::i,by simp[m,h.1],j.cons p⟩
  | swap x y l=>
   intro f h
   match f,h with
   | p::q::f,h=>
    simp only[y6,yF]at h;exact⟨q::p::f,by simp[h.1,h.2.1,h.2.2],List.Perm.swap ..⟩
  | trans _ _ ih1 ih2=>
   intro f h;obtain⟨i,m,j⟩:=ih1 f h;obtain⟨rs,b1,b2⟩:=ih2 i m;exact⟨rs,b1,b2.trans j⟩
 obtain⟨i,m,j⟩:=key hp f rfl;refine⟨i.map (·.2),(j.map _).trans R, ?_⟩;subst m;have o: ∀p∈i,VR s p.1.1 p.2.key/\VR s p.1.2 p.2.val:=fun p hp=>h3 p (j.subset hp)
 clear j h3 R hp key h
 induction i with
 | nil=>simp[VRL]
 | cons q i ih=>
  obtain⟨v,z⟩:=ih (fun p hp=>o p (zC _ hp));obtain⟨C,F⟩:=o q (zH ..);exact⟨⟨_,_,rfl,C,v⟩,⟨_,_,rfl,F,z⟩⟩
theorem putA_eq {o:AObj}(h:putA i H o=some G): ∃t,T.set 40 i.h H o=some t/\G=⟨t,i.next⟩:=by
 unfold putA at h;split at h
 .rename_i t a;injection h with h
  exact⟨t,a,h.symm⟩
 .simp at h
def UpRound (q:ML)(B:Tb)(D:Dyn)(n nt:Nat)(hb:Hint)(L:List Nat)(vs:List AV)(H:AH)(ks:List Nat)(nb:Nat)(ok:AV->Bool)(M A:Nat):Prop:=
 ∀k v a i,ok v=true->(∀C,C<H.next->C≠M->C≠A->a.h.get C=H.h.get C)->a.h.get A=some (.map ks i)->keyOk ks k=true->H.next<a.next->(∀C,a.next<=C->C<a.next+nb->a.h.get C=none)->True->A<H.next->
  ∃f,q.roundK B D n nt hb L H.next vs k v a=some (.norm (.ptr H.next 0::vs),f)/\f.next=a.next+nb/\f.h.get A=some (.map ks (ups i (k,v)))/\ ∀C,C≠A->(C<a.next\/a.next+nb<=C)->f.h.get C=a.h.get C
theorem up_plan {q:ML}{B:Tb}{D:Dyn}{n nt:Nat}{hb:Hint}{L:List Nat}{vs:List AV}{H H':AH}{kk:List Nat}{nb:Nat}{ok:AV->Bool}{M A:Nat}(h:upLp kk nb ok (.map M) (.map A) H=some H')(a6:q.preK B D nt L vs H=some (.norm (.map M::vs),H))
  (a9:UpRound q B D n nt hb L vs H kk nb ok M A) (b9:M<H.next) (b0:A<H.next) (b1: ∀J w0,Rel J H w0->(∀v∈vs,∃z,VR J v z)-> ∃b d c,J A b d c):Nonempty (q.Plan B D n nt hb L vs H H'):=by
 unfold upLp at h;simp only at h;split at h
 .rename_i ks es hM;split at h
  .rename_i c5 es' hA;rw[zF]at h;split at h
   .rename_i hc;simp only[zE,yS,qY]at hc;obtain⟨⟨⟨S,U⟩,t⟩,a1⟩:=hc;have S:=eqNL_eq _ _ S;subst S;have U:=eqNL_eq _ _ U;subst U;have t:M≠A:=fun e=>by rw[e]at t;simp at t
    rw[fN_eq,zF]at h;split at h
    .rename_i b2;have Q:=freeN_ok b2;split at h
     .rename_i H1 a7;injection h with h
      obtain⟨t1,b3,rfl⟩:=putA_eq a7;have b4:=T.get_set _ _ _ _ _ b3;have a3:H'.next=H.next+1+nb*es.length:=by rw[<-h]
      have V: ∀C,H'.h.get C=if C=A then some (.map kk (upsL es' es))else H.h.get C:=by rw[<-h];exact b4
      refine⟨{ M:=M,ks:=kk,es:=es,inv:=fun i j=>j.next=H.next+1+nb*i.length/\j.h.get A=some (.map kk (upsL es' i))/\(∀C,C<H.next->C≠M->C≠A->j.h.get C=H.h.get C)/\ ∀C,j.next<=C->j.h.get C=H.h.get C,pre:=a6,room:=trivial,map:=hM,start:= ?_,step:= ?_,raw:= ?_,fin:= ?_}⟩
      .intro x y s1 s2 W Y;have m:=T.get_set _ _ _ _ _ W;have u:=T.get_set _ _ _ _ _ Y;refine⟨by simp, ?_,fun C f F h3=> ?_,fun C f=> ?_⟩
       .simp only[u,m];rw[if_neg (by omega),if_neg (Ne.symm t)];exact hA
       .simp only[u,m];rw[if_neg (by omega),if_neg F]
       .simp only at f;simp only[u,m];rw[if_neg (by omega),if_neg (by omega)]
      .intro i k v rest j ⟨s,K,G,I⟩ p;have N:i.length+1+rest.length=es.length:=by have:=p.length_eq;simp at this;omega
       have a8:nb*(i.length+1)<=nb*es.length:=Nat.mul_le_mul_left _ (by omega);rw[Nat.mul_add,Nat.mul_one]at a8;obtain⟨H3,r1,r2,r3,O⟩:=a9 k v j (upsL es' i) (a1 (k,v) (p.subset (by simp))).2 G K (a1 (k,v) (p.subset (by simp))).1 (by omega) (fun C f F=>by rw[I C f];exact Q C (by omega) (by omega)) trivial b0;refine⟨H3,r1,O _ (by omega) (.inl (by omega)),O _ t (.inl (by omega)), ?_, ?_,fun C f F h3=> ?_,fun C f=> ?_⟩
       .rw[r2,s,zT,j9,Nat.mul_add,Nat.mul_one];omega
       .rw[r3,upsL_snoc]
       .rw[O C h3 (.inl (by omega))];exact G C f F h3
       .rw[O C (by omega) (.inr (by omega))];exact I C (by omega)
      .intro i j y t' ⟨s,K,G,I⟩ hs;have m:=T.get_set _ _ _ _ _ hs;refine⟨s, ?_,fun C f F h3=> ?_,fun C f=> ?_⟩
       .simp only[m];rw[if_neg (by omega)];exact K
       .simp only[m];rw[if_neg (by omega)];exact G C f F h3
       .simp only at f;simp only[m];rw[if_neg (by omega)];exact I C f
      .intro i j c6 t2 ⟨s,K,G,I⟩ p W Y J w0 R w Z b5 a0 b8 hR;have m:=T.get_set _ _ _ _ _ W;have u:=T.get_set _ _ _ _ _ Y;have N:i.length=es.length:=p.length_eq;obtain⟨bA,dA,cA,a4⟩:=b1 J w0 Z b5;obtain⟨bM,dM,cM,a0⟩:=a0;have e0: ∀C,C≠A-> ∀o,H'.h.get C=some o->t2.get C=some o:=by
        intro C hC o a;rw[V,if_neg hC]at a;rw[u,m];by_cases c1:C=H.next
        .subst c1;rw[Q _ (zK _) (by omega)]at a;simp at a
        .rw[if_neg c1];by_cases c2:C=M
         .subst c2;rw[if_pos rfl];rw[hM]at a;exact a
         .rw[if_neg c2];by_cases c3:C<H.next
          .rw[G C c3 c2 hC];exact a
          .by_cases c4:C<H.next+(1+nb*es.length)
           .rw[Q C (by omega) c4]at a;simp at a
           .rw[I C (by rw[s,N];omega)];exact a
       have eA:t2.get A=some (.map kk (upsL es' i)):=by
        rw[u,m,if_neg (by omega),if_neg (Ne.symm t)];exact K
       have a2: ∀C,Live H' C->Live ⟨t2,j.next⟩ C:=by
        intro C ⟨o,a,hd⟩;by_cases c:C=A
        .subst c;exact⟨_,eA,trivial⟩
        .exact⟨o,e0 C c o a,hd⟩
       refine⟨⟨hR.fn,fun A1 A2 b d c d' c' r r' l l'=>hR.inj _ _ _ _ _ _ _ r r' (a2 _ l) (a2 _ l'),fun C b d c o r a=> ?_,fun C b d c r=>⟨(hR.lt _ _ _ _ r).1,by have:=(hR.lt _ _ _ _ r).2;simp only at this;rw[a3];rw[s,N]at this;exact this⟩⟩,by rw[a3,s,N],fun C hC hn=> ?_⟩
       .by_cases c0:C=A
        .subst c0;rw[V,if_pos rfl]at a;injection a with a;subst a
         obtain⟨arr,a5,o1,o2,o3,o4,o5⟩:=hR.obj _ _ _ _ _ r eA;obtain⟨_,_,_,_,_,b6,_⟩:=Z.obj _ _ _ _ _ a4 hA;obtain⟨_,_,_,_,kM,b7,_⟩:=Z.obj _ _ _ _ _ a0 hM;have hp:=upsL_same (ks:=kk) b6 (fun x hx=>kM x (p.subset hx)) (pw_perm p.symm b7) p;exact⟨arr,a5,o1,o2.perm hp,fun e he=>o3 e (hp.symm.subset he),pw_perm hp o4,o5⟩
        .exact hR.obj _ _ _ _ _ r (e0 C c0 o a)
       .rw[V,if_neg (fun e=>by subst e;exact hn _ _ _ a4)]
     .simp at h
    .simp at h
   .simp at h
  .simp at h
 .simp at h
def subC:List Nat->Code->Code
 | [],c=>c
 | 0::p, .seq a _=>subC p a
 | _::p, .seq _ b=>subC p b
 | 0::p, .cond _ a _=>subC p a
 | _::p, .cond _ _ b=>subC p b
 | _::p, .block _ b=>subC p b
 | _::p, .loop b=>subC p b
 | _,c=>c
def bodyAt (a:Func)(p:List Nat):Code:=match a.body with
 | some b=>subC p b
 | none=> .skip
def initL {α:Type} :List α->List α
 | []=>[]
 | [_]=>[]
 | a::l=>a::initL l
def lastL {α:Type}(d:α):List α->α
 | []=>d
 | [a]=>a
 | _::l=>lastL d l
def op0:Oper:=⟨none, .alloc 0,0,"", #[],none⟩
def ml0:ML:=⟨0,0,0,[],op0,op0,op0,op0,[],0,0, .skip,0, .tmp 0,0,0,0,0⟩
def rangeOf:Op->TypeId×Operand
 | .range t x=>(t,x)
 | _=>(0, .tmp 0)
def mlOf:Code->ML
 | .seq (.region rA opsA _) (.block id (.loop (.seq (.region rB opsB _) (.seq (.cond (.tmp ok) .skip (.exit _)) (.block id2 (.seq (.region rC opsC _) body))))))=>
  match opsB.toList,opsC.toList with
  | [oN,oX],oE::rest=>
   let a:=lastL op0 opsA.toList
   ⟨rA,rB,rC,initL opsA.toList,a,oN,oX,oE,rest,id,id2,body,(rangeOf a.op).1,(rangeOf a.op).2,a.dst.getD 0,oN.dst.getD 0,ok,oE.dst.getD 0⟩
  | _,_=>ml0
 | _=>ml0
def tolds:Code->Hint->List (Code×List Nat×(List AV->AH->Option AH))
 | .seq a b, .t L m=>[(.seq a b,L,m)]
 | .seq a b, .s ha hb=>tolds a ha++tolds b hb
 | .cond _ a b, .c _ ha hb=>tolds a ha++tolds b hb
 | .cond _ a b, .cl ha hb=>tolds a ha++tolds b hb
 | .cond _ a b, .cr ha hb=>tolds a ha++tolds b hb
 | .block _ b, .b _ hb=>tolds b hb
 | .block _ b, .b0 hb=>tolds b hb
 | .loop b, .l _ hb=>tolds b hb
 | _,_=>[]
def noRT:Hint->Bool
 | .o=>true
 | .s a b=>noRT a&&noRT b
 | .c _ a b=>noRT a&&noRT b
 | .cl a b=>noRT a&&noRT b
 | .cr a b=>noRT a&&noRT b
 | .b _ a=>noRT a
 | .b0 a=>noRT a
 | .l _ a=>noRT a
 | .rf _ _=>false
 | .t _ _=>true
theorem noRT_ok (f0:FuncId)(nt:Nat): ∀(c:Code) (h:Hint),noRT h=true->(∀x∈tolds c h,ToldOk Y nt f0 x.1 x.2.1 x.2.2)->SitesP Y f0 nt c h:=by
 intro c
 induction c with
 | seq a b iha ihb=>
  intro h j i
  cases h<;>simp only[SitesP]
  .simp only[noRT,zE]at j;simp only[tolds,zZ]at i;exact⟨iha _ j.1 (fun x m=>i x (.inl m)),ihb _ j.2 (fun x m=>i x (.inr m))⟩
  .exact i (.seq a b,_,_) (by simp[tolds])
 | cond c a b iha ihb=>
  intro h j i
  cases h<;>simp only[SitesP]<;>
   (simp only[noRT,zE]at j
    simp only[tolds,zZ]at i;exact⟨iha _ j.1 (fun x m=>i x (.inl m)),ihb _ j.2 (fun x m=>i x (.inr m))⟩)
 | block id b ih=>
  intro h j i
  cases h<;>simp only[SitesP]<;>first | exact ih _ j i | trivial
 | loop b ih=>
  intro h j i
  cases h<;>simp only[SitesP]
  exact ih _ j i
 | rangeFunc f ps a b _ _=>intro h j i;cases h<;>simp_all [SitesP,noRT]
 | _=>intro h j i;simp[SitesP]
def toldsF (a:Func)(h:Hint):List (Code×List Nat×(List AV->AH->Option AH)):=match a.body with
 | some b=>tolds b h
 | none=>[]
theorem sitesT_ok (i:noRT L=true)(j: ∀x∈toldsF g L,ToldOk PP g.ntmps t x.1 x.2.1 x.2.2): ∀body,g.body=some body->SitesP PP t g.ntmps body L:=by
 intro body hb;refine noRT_ok _ _ _ _ i (fun x m=>j x ?_);unfold toldsF;rw[hb];exact m
theorem up_told {X:Cx}(hX:Ok PP X){q:ML}(o:q.Fits H)(L: ∀l∈q.it::v,l≠q.nx/\l≠q.ok/\l≠q.en)(h: ∀l∈v,l≠q.it){hb:Hint}(i:noRF hb=true){kt vt:TypeId}(j:X.und q.t=some (.map kt vt))
  (m: ∀vs nt H',f vs nt=some H'->Nonempty (q.Plan ⟨X,[]⟩ dNone 0 H hb v vs nt H')):ToldOk PP H t q.code v f:=
 mapLoop_ok (B:=⟨X,[]⟩) (D:=dNone) hX (good_of dNone_ok SOk.nil) o L h (noRF_ok _ _ _ _ i) j m
theorem newB_free (o:AObj)(h:i.h.get i.next=none): ∃t,T.set 40 i.h i.next o=some t/\ ∀K,newB i o K=K i.next ⟨t,i.next+1⟩:=by
 obtain⟨t,a⟩:=qI.1 (T.set_some 40 i.h i.next o)
 exact⟨t,a,fun K=>by simp only[newB,h,a,fN_eq]⟩
theorem ld1_some (h:ld1 (.ptr H l) i=some q): ∃A e sz g,i.h.get H=some (.cells A e sz g)/\nth A l=some q:=by
 unfold ld1 at h;simp only at h;split at h
 .rename_i A e sz g a;exact⟨A,e,sz,g,a,h⟩
 .simp at h
theorem ld1_at {l:List AV}{e:TypeId}{sz:Nat}{g:Bool}(a:i.h.get H=some (.cells l e sz g))(h:nth l c=some q):ld1 (.ptr H c) i=some q:=by
 simp only[ld1,a,h]
theorem in_cells (hR:Rel s i p)(hr:s H l e c){sz:Nat}(f:i.h.get H=some (.cells h V sz M)){o A:Nat}(a:nth h o=some (.map A)): ∃l e c,s A l e c:=by
 obtain⟨_,_,_,l',_,_,_,_,hl,_⟩:=hR.obj _ _ _ _ _ hr f;rw[nth_eq]at a;obtain⟨v,_,R⟩:=VRL.get _ _ hl _ _ a;obtain⟨l,e,c,w,_⟩:=R;exact⟨l,e,c,w⟩
theorem upLp_maps {ok:AV->Bool}(h:upLp v H ok (.map l) (.map e) i=some G):(∃ks es,i.h.get l=some (.map ks es))/\ ∃ks es,i.h.get e=some (.map ks es):=by
 unfold upLp at h;simp only at h;split at h
 .rename_i a;split at h
  .rename_i f;exact⟨⟨_,_,a⟩,_,_,f⟩
  .simp at h
 .simp at h
theorem upM_put {ks:List Nat}{v:AV}{H:AH}(j:keyOk ks q=true)(m:H.h.get l=some (.map ks Q)): ∃t,T.set 40 H.h l (.map ks (ups Q (q,v)))=some t/\upM ks (.map l) q v H=some (undefA,⟨t,H.next⟩):=by
 obtain⟨t,f⟩:=qI.1 (T.set_some 40 H.h l (.map ks (ups Q (q,v))));refine⟨t,f, ?_⟩;have p:eqNL ks ks=true:=by
  clear f m j
  induction ks with
  | nil=>rfl
  | cons a A ih=>simp[eqNL,ih]
 simp only[upM,j,m,p,zP];unfold ups at f;simp only at f
 cases o:setA q v Q with
 | some r=>rw[o]at f;simp only[putA,f]
 | none=>rw[o]at f;simp only[putA,f]
def isAg (n:Nat)(v:AV):Bool:=match v with
 | .agg l=>Nat.beq (lenL l 0) n&&allCells l
 | _=>false
theorem isAg_some (h:isAg H q=true): ∃l,q= .agg l/\l.length=H/\allCells l=true:=by
 unfold isAg at h;split at h
 .rename_i l;simp only[zE,zX,lenL_zero]at h;exact⟨l,rfl,h.1,h.2⟩
 .simp at h
theorem takeN_all: ∀(l:List AV),takeN l.length l=some l
 | []=>rfl
 | a::l=>by simp[takeN,takeN_all l]
theorem setAt_all {c:List AV}(l:c.length=h.length):setAt c 0 h=some h:=by
 have: ∀(c h:List AV),c.length=h.length->over c h=some h:=by
  intro c
  induction c with
  | nil=>intro h l;cases h with
   | nil=>rfl
   | cons=>simp at l
  | cons a c ih=>intro h l;cases h with
   | nil=>simp at l
   | cons b h=>simp only[zV,Nat.add_right_cancel_iff]at l;simp[over,ih h l]
 cases c with
 | nil=>cases h with
  | nil=>rfl
  | cons=>simp at l
 | cons a c=>simpa[setAt]using this (a::c) h l
theorem stN_own {n A:Nat}{H:AH}{cs:List AV}(f:H.h.get A=some (.cells h V l M))(hl:h.length=n)(i:cs.length=n)(j:allCells cs=true)(m:Nat.blt 0 l=true): ∃t,T.set 40 H.h A (.cells cs V l M)=some t/\stN n (.ptr A 0) (.agg cs) H=some (undefA,⟨t,H.next⟩):=by
 obtain⟨t,a⟩:=qI.1 (T.set_some 40 H.h A (.cells cs V l M));refine⟨t,a, ?_⟩;have hb:(cs.length.beq n)=true:=by rw[zX];exact i
 simp only[stN,f,cellsA,lenL_zero,hb,j,m,Bool.and_true,zP,setAt_all (show h.length=cs.length by omega),putA,a]
theorem ldN_own (f:i.h.get l=some (.cells h V e M))(A:h.length=H):ldN H (.ptr l 0) i=some (.agg h):=by
 subst A;have:subN h 0 h.length=some h:=by
  cases h with
  | nil=>rfl
  | cons a n=>simpa[subN]using takeN_all (a::n)
 simp only[ldN,f,this]
end Go.Eng
end
section
namespace Go.Proofs
open Go.Shelf
def Tryz.laysInsert_ren:Go.Shelf.Ren:=⟨fun | 22=>76 | 29=>105 | 30=>106 | 36=>136 | 17=>155 | n=>n,fun | 24=>22 | 9=>9 | 3=>3 | 4=>4 | 0=>0 | n=>n,fun | n=>n⟩
theorem Tryz.laysInsert:Go.Proofs.Lays2.n22 Tryz.prog Tryz.laysInsert_ren:= {
 mixed:=by kernel_rfl
 f17:=Tryz.func155.trans (congrArg some (by kernel_rfl))
 f22:=Tryz.func76.trans (congrArg some (by kernel_rfl))
 f29:=Tryz.func105.trans (congrArg some (by kernel_rfl))
 f30:=Tryz.func106.trans (congrArg some (by kernel_rfl))
 f36:=Tryz.func136.trans (congrArg some (by kernel_rfl))
 t0:=Tryz.underlying0
 a0:=Tryz.isAgg0
 z0:=Tryz.sizeOf0
 v0:=Tryz.zeroValue0
 t3:=Tryz.underlying3
 a3:=Tryz.isAgg3
 z3:=Tryz.sizeOf3
 v3:=Tryz.zeroValue3
 t4:=Tryz.underlying4
 a4:=Tryz.isAgg4
 z4:=Tryz.sizeOf4
 v4:=Tryz.zeroValue4
 t9:=Tryz.underlying9
 a9:=Tryz.isAgg9
 z9:=Tryz.sizeOf9
 v9:=Tryz.zeroValue9
 t24:=Tryz.underlying22
 a24:=Tryz.isAgg22
 z24:=Tryz.sizeOf22
 v24:=Tryz.zeroValue22
 i9:=by kernel_rfl}
end Go.Proofs
end
section
namespace Go.Eng
open Go.Proofs
noncomputable def insT (e:Nat)(vs:List AV)(H:AH):Option (AV×AH):=
 match vs with
 | [.slice A off len cc, .int .i64 (.ofNat i), .slice B o2 m _]=>
  match H.h.get A,H.h.get B with
  | some (.cells l e' sz g),some (.cells lB _ sB gB)=>
   bif g&&(!gB&&Nat.blt 0 sB)&&Nat.beq off 0&&Nat.beq cc 1&&Nat.beq sz 1&&Nat.beq e' e&&Nat.blt i len&&Nat.blt 0 m&&Nat.beq (lenL l 0) len&&Nat.ble ((len+m)*16) 140737488355328&&allCells l then
    match subN lB o2 m with
    | some new=>bif allCells new then
      match putA H A .dead with
      | some H1=>agrow (len+m) e 1 (l.take i++new++l.drop i) H1
      | none=>none
     else none
    | none=>none
   else none
  | _,_=>none
 | _=>none
theorem setCells_wput (b:Nat)(e:TypeId)(a:Nat×Nat): ∀(vs:List Value) (o:Nat) (w:World) (arr:Array Value),w.heap[b]? =some (.cells arr e a)->w.setCells b o vs=wput w b (.cells (arrSet arr o vs) e a)
 | [],o,w,arr,h=>by simp only[World.setCells,arrSet];exact(wput_self w b _ h).symm
 | v::vs,o,w,arr,h=>by
  have hb:b<w.heap.size:=(Array.getElem?_eq_some_iff.1 h).1;have m:w.setCell ⟨b,o,none⟩ v=wput w b (.cells (arr.setIfInBounds o v) e a):=by
   have p:w.heap[b]= .cells arr e a:=by
    have:=(Array.getElem?_eq_some_iff.1 h).2;exact this
   unfold World.setCell wput;congr 1;apply Array.ext
   .simp
   .intro j f h3;simp only[Array.size_modify]at f;rw[Array.getElem_modify,Array.getElem_setIfInBounds]
    .by_cases i:b=j
     .subst i;simp[p]
     .simp[i]
    .exact f
  rw[World.setCells,m,setCells_wput b e a vs (o+1) _ (arr.setIfInBounds o v) (wput_same _ _ _ hb),wput_wput];rfl
theorem wput_alloc (w:World)(o x:Obj):wput (w.alloc o) w.heap.size x=w.alloc x:=by
 unfold wput World.alloc;congr 1;apply Array.ext
 .simp
 .intro j f h3;simp at f h3;rw[Array.getElem_setIfInBounds]
  .by_cases a:w.heap.size=j
   .subst a;simp
   .have:j<w.heap.size:=by omega
    simp only[if_neg a];rw[Array.getElem_push,Array.getElem_push,dif_pos this,dif_pos this]
  .simp;omega
theorem oneCell_of (h:oneV W):W.oneCell'=true:=by cases W<;>simp_all [oneV,Value.oneCell']
theorem shiftL {α:Type}{pre d a vs:List α}(hd:pre.length=H)(j:d.length=c)(hi:l<=c)(o:vs.length=e)(p:e<=a.length):
  ((pre++(d++a)).take (H+(l+e))++d.drop l++(pre++(d++a)).drop (H+(l+e)+(d.drop l).length)).take (H+l)++vs++((pre++(d++a)).take (H+(l+e))++d.drop l++(pre++(d++a)).drop (H+(l+e)+(d.drop l).length)).drop (H+l+vs.length)=pre++((d.take l++vs++d.drop l)++a.drop e):=by
 have q:((pre++(d++a)).take (H+(l+e))).length=H+l+e:=by simp;omega
 have f:((pre++(d++a)).take (H+(l+e))++d.drop l++(pre++(d++a)).drop (H+(l+e)+(d.drop l).length)).take (H+l)=pre++d.take l:=by
  rw[qC,List.take_append_of_le_length (by omega),List.take_take,Nat.min_eq_left (by omega),List.take_append,zW (by omega),List.take_append,show H+l - pre.length=l from by omega,show l - d.length=0 from by omega];simp
 have h:((pre++(d++a)).take (H+(l+e))++d.drop l++(pre++(d++a)).drop (H+(l+e)+(d.drop l).length)).drop (H+l+vs.length)=d.drop l++a.drop e:=by
  rw[qC,yO (by omega)];congr 1;rw[qK,List.drop_append,qQ (by omega),List.drop_append,qQ (by omega),show H+(l+e)+(d.length - l) - pre.length - d.length=e from by omega];simp
 rw[f,h];simp
theorem growL {α:Type}{a f h vs r:List α}(j:a.length=H)(t:f.length=l+e)(u:vs.length=l)(hr:r.length=e):
  ((a++f++h).take H++vs++(a++f++h).drop (H+vs.length)).take (H+l)++r++((a++f++h).take H++vs++(a++f++h).drop (H+vs.length)).drop (H+l+r.length)=(a++vs++r)++h:=by
 have o:(a++f++h).take H=a:=by rw[qC,yX j]
 have p:(a++f++h).drop (H+vs.length)=f.drop l++h:=by
  rw[qC,List.drop_append,qQ (by omega),List.drop_append,show H+vs.length - a.length=l from by omega,show l - f.length=0 from by omega];simp
 rw[o,p];have q:(a++vs++(f.drop l++h)).take (H+l)=a++vs:=yX (by simp;omega);have s:(a++vs++(f.drop l++h)).drop (H+l+r.length)=h:=by
  rw[<-qC,yO (by simp;omega)]
 rw[q,s]
theorem insT_ok {R:Ren}{H H':AH}{w:World}{args:List AV}{az:List Value}{v:AV}(h:insT (Tryz.laysInsert_ren.t 9) args H=some (v,H'))(o:VRL R args az)(hL:Rel R H w):
  H.next<=H'.next/\ ∃(z:Value) (Q:World) (S:Ren),Calls PP (Tryz.laysInsert_ren.f 22) ⟨az⟩ w (fun e w1=>e= .returned z/\w1=Q)/\VR S v z/\Rel S H' Q/\Ext R H w S H' Q:=by
 unfold insT at h;split at h
 .rename_i A off len cc i B p m c2;split at h
  .rename_i l e' sz g lB eB f2 gB I J;rw[zF]at h;split at h
   .rename_i hc;simp only[zE,zX,q9,qO,yS]at hc;obtain⟨⟨⟨⟨⟨⟨⟨⟨⟨⟨rfl,rfl,d7⟩,rfl⟩,rfl⟩,rfl⟩,rfl⟩,hi⟩,hm⟩,d8⟩,c9⟩,d9⟩:=hc;rw[lenL_zero]at d8;split at h
    .rename_i new d0;rw[zF]at h;split at h
     .rename_i e0;split at h
      .rename_i H1 u;obtain⟨t1,s,rfl⟩: ∃t1,T.set 40 H.h A .dead=some t1/\H1=⟨t1,H.next⟩:=by
        unfold putA at u;split at u
        .rename_i t1 s;simp only[zB]at u;exact⟨t1,s,u.symm⟩
        .simp at u
       unfold agrow at h;split at h
       .rename_i A2 H2 e2;obtain⟨t2,C,rfl,rfl,_⟩:=newA_eq e2;simp only[fN_eq,zB,zQ]at h;obtain⟨rfl,rfl⟩:=h;refine⟨Nat.le_succ _, ?_⟩;obtain⟨v1,f3,rfl,e3,o⟩:=o;obtain⟨v2,f4,rfl,a9,o⟩:=o;obtain⟨v3,f5,rfl,e4,o⟩:=o;simp only[VRL]at o;subst o;obtain⟨b,d,c,hR,rfl⟩:=e3;simp only[VR]at a9;subst a9;obtain⟨b2,K,b0,b8,rfl⟩:=e4;obtain⟨arr,x,pre,l',W,y,U,a3,L,a5,a6,a7,sp,a8⟩:=hL.cellsAt I hR;obtain⟨d1,f6,d3,b9,f1,b1,e5,b3,b4,b5,b6,b7,_⟩:=hL.cellsAt J b8;obtain⟨rfl,f7⟩:=subN_eq _ _ _ _ d0;obtain⟨a6,d4⟩:=a6 rfl;obtain⟨rfl,d5⟩:=b5 rfl;obtain rfl:=d5.1 d7;have Y:decap 1 c=c:=by rw[decap_odd c (by omega)];simp
        rw[Y];have e6:b2≠b:=fun e=>by
         subst e;have:=hL.inj _ _ _ _ _ _ _ hR b8 (Rel.live I) (Rel.live J);subst this;rw[I]at J;simp at J
        have f8:=jN _ _ L;have f9:=jN _ _ b4;have M:VRL R ((lB.drop p).take m) ((b9.drop p).take m):=(b4.drop p).take m;generalize Z:(b9.drop p).take m=vs' at M;have F:vs'.length=m:=by rw[<-Z];simp;omega
        have g0:arr.size=d+l'.length+W.length:=by
         have:=congrArg List.length U;simp at this;omega
        have a0: ∀j v,l'[j]? =some v->w.cell? ⟨b,d+0+j,none⟩=some v:=fun j v a=>by
         simp only[World.cell?,y];have c0:=(qN.1 a).1;rw[<-yM,U,j5 (by omega),show d+0+j - pre.length=j from by omega,yQ c0];simpa using a
        have c1: ∀j v,vs'[j]? =some v->w.cell? ⟨b2,K+p+j,none⟩=some v:=fun j v a=>by
         simp only[World.cell?,b1];have c0:=(qN.1 a).1;rw[<-Z,List.getElem?_take,jE]at a;rw[<-yM,e5,j5 (by omega),show K+p+j - d3.length=p+j from by omega,qG];split at a
         .simpa using a
         .simp at a
        have c3: ∀v∈l',v.oneCell'=true:=fun v o=>oneCell_of (allCells_ok L d9 v o)
        have c4: ∀v∈vs',v.oneCell'=true:=fun v o=>oneCell_of (allCells_ok M e0 v o)
        have V:VRL R (l.take i++(lB.drop p).take m++l.drop i) (l'.take i++vs'++l'.drop i):=((L.take i).append M).append (L.drop i);by_cases c8:len+m<=c
        .have q:=Any2.slices_Insert_string_shift Tryz.laysInsert b (d+0) len c i b2 (K+p) m (decap c2 b0) l' vs' w hi hm c8 (by omega) e6 (by omega) F a0
          (fun j a=>by
           simp only[World.cell?,y];simp;omega)
          (fun j a=>by
           have:=a7 (by decide) (d+0+j) (by omega);simp only[World.frozen?,y];simp only[Bool.and_eq_false_iff,yK];by_cases h0:x.1<=d+0+j
           .exact .inr fun h1=>this ⟨h0,h1⟩
           .exact .inl h0)
          c1 c3 c4 eB (Tryz.laysInsert_ren.t 9) d1.size arr.size (by simp only[World.shape?,b1]) (by simp only[World.shape?,y]) (by omega) (by simp only[World.frozen?,b1];simp) (by simp only[World.frozen?,b1];simp)
         have O:(w.drew).heap[b]? =some (.cells arr (Tryz.laysInsert_ren.t 9) x):=y;have N:b<w.heap.size:=(hL.lt _ _ _ _ hR).1;rw[setCells_wput b _ x _ _ _ _ O,setCells_wput b _ x _ _ _ _ (wput_same w.drew _ _ N),wput_wput]at q;refine⟨_,_,R.add H.next b d c,q,⟨b,d,c,R.add_self _ _ _ _,by simp[Y]⟩, ?_, ?_⟩
         .refine(hL.drew (w.drawn+1)).move hR (Rel.live I) s C ?_;refine⟨_,x,pre,l'.take i++vs'++l'.drop i,W.drop m,rfl, ?_,a3,VRL.mono (R.sub_add _ _ _ _) _ _ V,fun h=>by simp at h,fun _=>⟨?_,d4⟩,fun hz j a=> ?_,_,VRL.mono (R.sub_add _ _ _ _) _ _ (a8.drop m)⟩
          .rw[arrSet_toList _ _ _ (by rw[arrSet_size];omega),arrSet_toList _ _ _ (by simp;omega),U,Nat.add_zero];exact shiftL a3 (by omega) (by omega) F (by omega)
          .simp;omega
          .rw[arrSet_size,arrSet_size]at a;exact a7 hz j a
         .exact(Ext.drew R H w (w.drawn+1)).trans (Ext.move (w:=w.drew) hR s C)
        .have q:=Any2.slices_Insert_string_grow Tryz.laysInsert b (d+0) len c i b2 (K+p) m (decap c2 b0) l' vs' w hi hm (by omega) (by omega) c9 (by omega) F a0 c1 c3 c4;generalize hG:grownCap w (len+m) c (Tryz.laysInsert_ren.t 9)=G at q;have g1:len+m<=G:=by rw[<-hG];simp only[grownCap,Question.cut];omega
         have e7:G<9223372036854775808:=by
          rw[<-hG];simp only[grownCap,Question.cut];have:=Nat.mod_lt (w.tape w.drawn (.appendCap (len+m) c (Tryz.laysInsert_ren.t 9))) (show 2 ^ 63 - (len+m)>0 by omega);omega
         generalize d6:((l'.take i).toArray++Builtin.zeroCells (Value.string ⟨#[]⟩).cells (len+m - i)++Builtin.zeroCells (Value.string ⟨#[]⟩).cells (G - (len+m)))=ROW at q;have c5:ROW.toList=l'.take i++(Builtin.zeroCells (Value.string ⟨#[]⟩).cells (len+m - i)).toList++(Builtin.zeroCells (Value.string ⟨#[]⟩).cells (G - (len+m))).toList:=by rw[<-d6];simp
         have c6:(Builtin.zeroCells (Value.string ⟨#[]⟩).cells (len+m - i)).toList.length=m+(len - i):=by
          rw[yN,zeroCells_size];simp[Value.cells];omega
         have c7:(Builtin.zeroCells (Value.string ⟨#[]⟩).cells (G - (len+m))).toList.length=G - (len+m):=by
          rw[yN,zeroCells_size];simp[Value.cells]
         have g2:ROW.size=G:=by
          have:=congrArg List.length c5;simp only[zT,c6,c7,qA,yN]at this;omega
         have O:((w.alloc (.cells ROW (Tryz.laysInsert_ren.t 9))).drew).heap[w.heap.size]? =some (.cells ROW (Tryz.laysInsert_ren.t 9)):=heap_alloc_same w _;have N:w.heap.size< ((w.alloc (.cells ROW (Tryz.laysInsert_ren.t 9))).drew).heap.size:=by
          have:=heap_alloc_size w (.cells ROW (Tryz.laysInsert_ren.t 9));show w.heap.size< (w.alloc (.cells ROW (Tryz.laysInsert_ren.t 9))).heap.size;omega
         rw[setCells_wput _ _ (0,0) _ _ _ _ O]at q;have e8:((wput (w.alloc (.cells ROW (Tryz.laysInsert_ren.t 9))).drew w.heap.size (.cells (arrSet ROW i vs') (Tryz.laysInsert_ren.t 9))).drew).heap[w.heap.size]? =some (.cells (arrSet ROW i vs') (Tryz.laysInsert_ren.t 9)):=wput_same _ _ _ N;rw[setCells_wput _ _ (0,0) _ _ _ _ e8]at q;have e9:wput ((wput (w.alloc (.cells ROW (Tryz.laysInsert_ren.t 9))).drew w.heap.size (.cells (arrSet ROW i vs') (Tryz.laysInsert_ren.t 9))).drew) w.heap.size (.cells (arrSet (arrSet ROW i vs') (i+m) (l'.drop i)) (Tryz.laysInsert_ren.t 9))
           =(w.drew.drew).alloc (.cells (arrSet (arrSet ROW i vs') (i+m) (l'.drop i)) (Tryz.laysInsert_ren.t 9)):=by
          have e1:(wput (w.alloc (.cells ROW (Tryz.laysInsert_ren.t 9))).drew w.heap.size (.cells (arrSet ROW i vs') (Tryz.laysInsert_ren.t 9))).drew=wput ((w.drew.drew).alloc (.cells ROW (Tryz.laysInsert_ren.t 9))) w.heap.size (.cells (arrSet ROW i vs') (Tryz.laysInsert_ren.t 9)):=rfl;rw[e1,wput_wput];exact wput_alloc (w.drew.drew) _ _
         rw[e9]at q;refine⟨_,_,R.add H.next w.heap.size 0 G,q,⟨w.heap.size,0,G,R.add_self _ _ _ _,by rw[decap_odd G (by omega)];simp⟩, ?_, ?_⟩
         .have hk:Rel R ⟨t1,H.next⟩ w.drew.drew:=(hL.kill s).drew _
          refine hk.new C ?_;refine⟨_,(0,0),[],l'.take i++vs'++l'.drop i,(Builtin.zeroCells (Value.string ⟨#[]⟩).cells (G - (len+m))).toList,rfl, ?_,rfl,VRL.mono (R.sub_add _ _ _ _) _ _ V,fun h=>by simp at h,fun _=>⟨?_,e7⟩,fun _ j _=>by simp,_,zeroCells_ok (ofV_ok _ (.string ⟨#[]⟩) (.str 0 0) rfl) _⟩
          .rw[arrSet_toList _ _ _ (by rw[arrSet_size];simp;omega),arrSet_toList _ _ _ (by omega),c5,qV];exact growL (by simp;omega) c6 F (by simp;omega)
          .rw[c7];simp;omega
         .exact(Ext.kill hR s).trans ((Ext.drew R ⟨t1,H.next⟩ w (w.drawn+2)).trans (Ext.add (w:=w.drew.drew) C))
       .simp at h
      .simp at h
     .simp at h
    .simp at h
   .simp at h
  .simp at h
 .simp at h
noncomputable def insK (m:List AV->AH->Option (AV×AH))(vs:List AV)(H:AH):Option (AV×AH):=match m vs H with
 | some r=>some r
 | none=>insT (Tryz.laysInsert_ren.t 9) vs H
theorem insK_ok (p:t= Tryz.laysInsert_ren.f 22)(hm:FI t n):FI t (insK n):=by
 intro q H v H' h;unfold insK at h;split at h
 .rename_i r hr;injection h with h;subst h
  exact hm q H v H' hr
 .have i:H.next<=H'.next:=by
   unfold insT at h;split at h
   .split at h
    .rw[zF]at h;split at h
     .split at h
      .rw[zF]at h;split at h
       .split at h
        .rename_i s a;have L:=putA_next a;unfold agrow at h;split at h
         .rename_i M N j;obtain⟨t2,K,rfl,rfl,_⟩:=newA_eq j;simp only[fN_eq,zB,zQ]at h;rw[<-h.2];show H.next<=s.next+1
          omega
         .simp at h
        .simp at h
       .simp at h
      .simp at h
     .simp at h
    .simp at h
   .simp at h
  subst p;refine⟨i,⟨_, Tryz.laysInsert.f22,rfl⟩,fun R O cs w f hL=> ?_⟩;obtain⟨_,z,Q,u,x,y,C,h3⟩:=insT_ok h f hL;obtain⟨e,F,o,⟨rfl,rfl⟩,G,I,J⟩:=x cs;exact⟨u,F,z,o,G,I,J,y,C,h3⟩
noncomputable def clnK (m:List AV->AH->Option (AV×AH))(vs:List AV)(H:AH):Option (AV×AH):=match vs with
 | [.map M]=>match H.h.get M with
  | some (.map ks es)=>match T.get H.h H.next with
   | none=>match T.set 40 H.h H.next (.map ks es)with
    | some t=>fN (Nat.succ H.next) fun k=>some (.map H.next,⟨t,k⟩)
    | none=>none
   | some _=>none
  | _=>none
 | vs=>m vs H
theorem clnK_ok (q: ∃i,PP.funcs[t]? =some i/\i.body.isSome=true)
  (s: ∀(b:Nat) (es:Array MapEntry) (a:Nat) (w:World),w.heap[b]? =some (.map es a)->Calls PP t #[.map (some b)] w fun e u=>e= .returned (.map (some w.heap.size))/\u=w.alloc (.map es a))
  (hm:FI t n):FI t (clnK n):=by
 intro O H v H' h;unfold clnK at h;split at h
 .rename_i M;split at h
  .rename_i ks es x;split at h
   .split at h
    .rename_i f j;rw[fN_eq]at h;simp only[zB,zQ]at h;obtain⟨rfl,rfl⟩:=h;refine⟨Nat.le_succ _,q,fun R Q cs w y hL=> ?_⟩;obtain⟨z,N,rfl,C,o⟩:=y;simp only[VRL]at o;subst o;obtain⟨b,d,c,hR,rfl⟩:=C;obtain⟨arr,a,hb,F,G,h3,I⟩:=hL.mapAt x hR;obtain⟨e,S,p,⟨rfl,rfl⟩,J,K,L⟩:=s b arr a w hb cs;refine⟨R.add H.next w.heap.size 0 0,_,_,p,J,K,L,⟨w.heap.size,0,0,R.add_self _ _ _ _,rfl⟩, ?_, ?_⟩
     .exact hL.new j ⟨arr,a,rfl,F.mono (R.sub_add _ _ _ _),G,h3,I⟩
     .exact Ext.add j
    .simp at h
   .simp at h
  .simp at h
 .exact hm _ _ _ _ h
def cellAV (N:Nat):Value->AV
 | .bool b=> .bool b
 | .int k n=> .int k n
 | .string s=> .str s.size (pack s.data.toList)
 | .slice none 0 0=> .nS
 | .slice (some ⟨b,o,none⟩) len cap=>bif Nat.blt b N then .slice b o len (2*cap)else .val (.slice (some ⟨b,o,none⟩) len cap)
 | v=> .val v
def argCell (N:Nat):Value->AV
 | .slice (some _) 0 0=> .eS
 | v=>cellAV N v
def argAV (N:Nat):Value->AV
 | .agg a=> .agg (a.toList.map (argCell N))
 | v=>argCell N v
def cOf:Option Obj->Nat
 | some (.cells _ _ fz)=>enc fz
 | _=>0
def RId (w:World):Ren:=fun A b d c=>A=b/\b<w.heap.size/\d=0/\c=cOf w.heap[b]?
theorem cellAV_ok (w:World)(v:Value):VR (RId w) (cellAV w.heap.size v) v:=by
 unfold cellAV;split
 .rfl
 .rfl
 .exact⟨_,rfl,rfl,rfl⟩
 .rfl
 .rename_i b o len cap;rw[zF];split
  .rename_i h;exact⟨b,0,_,⟨rfl,by simpa using h,rfl,rfl⟩,by simp[decap,j6]⟩
  .rfl
 .rfl
theorem cellsAV_ok (w:World): ∀l:List Value,VRL (RId w) (l.map (cellAV w.heap.size)) l
 | []=>rfl
 | v::l=>⟨v,l,rfl,cellAV_ok w v,cellsAV_ok w l⟩
theorem argCell_ok (w:World)(v:Value):VR (RId w) (argCell w.heap.size v) v:=by
 unfold argCell;split
 .exact⟨_,_,rfl⟩
 .exact cellAV_ok w _
theorem argCells_ok (w:World): ∀l:List Value,VRL (RId w) (l.map (argCell w.heap.size)) l
 | []=>rfl
 | v::l=>⟨v,l,rfl,argCell_ok w v,argCells_ok w l⟩
theorem argAV_ok (w:World)(v:Value):VR (RId w) (argAV w.heap.size v) v:=by
 unfold argAV;split
 .rename_i a;exact⟨a.toList,by simp,argCells_ok w a.toList⟩
 .exact argCell_ok w _
theorem argsAV_ok (w:World): ∀l:List Value,VRL (RId w) (l.map (argAV w.heap.size)) l
 | []=>rfl
 | v::l=>⟨v,l,rfl,argAV_ok w v,argsAV_ok w l⟩
theorem cellAV_only (j:Sub (RId p) s)(m: ∀A b d c a d' c',s A b d c->s A a d' c'->b=a/\d=d'/\c=c'){f:Value}(h:VR s (cellAV p.heap.size W) f):f=W:=by
 unfold cellAV at h;split at h
 .exact h
 .exact h
 .rename_i R;obtain⟨i,rfl,w,q⟩:=h;have:i.data.toList=R.data.toList:=pack_inj _ _ (by rw[size_data,size_data,w]) q;congr 1
  cases R;cases i;simp only at this;congr 1
  exact Array.toList_inj.1 this
 .exact h
 .rename_i b o len cap;rw[zF]at h;split at h
  .rename_i hb;obtain⟨a,d,c,hr,rfl⟩:=h;obtain⟨rfl,rfl,rfl⟩:=m _ _ _ _ _ _ _ hr (j b b 0 _ ⟨rfl,by simpa using hb,rfl,rfl⟩);simp[decap,j6]
  .exact h
 .exact h
theorem cellsAV_only {w:World}{R:Ren}(a:Sub (RId w) R)(f: ∀A b d c i d' c',R A b d c->R A i d' c'->b=i/\d=d'/\c=c'): ∀ {l l':List Value},VRL R (l.map (cellAV w.heap.size)) l'->l'=l
 | [],_,h=>h
 | v::l,_,h=>by
  obtain⟨o,l',rfl,j,m⟩:=h;rw[cellAV_only a f j,cellsAV_only a f m]
def objAV (N:Nat):Obj->AObj
 | .cells arr e _=> .cells (arr.toList.map (cellAV N)) e 0 false
 | x=> .raw x
theorem ofList_some {α:Type} : ∀(xs:List α) (i:Nat) (t:T α),(T.ofList i xs t).isSome=true
 | [],_,_=>rfl
 | x::xs,i,t=>by
  obtain⟨f,a⟩:=qI.1 (T.set_some 40 t i x);simp only[T.ofList,a];exact ofList_some xs _ _
noncomputable def H0 (w:World):AH:=⟨(T.ofList 0 (w.heap.toList.map (objAV w.heap.size)) .leaf).getD .leaf,w.heap.size⟩
theorem H0_get (w:World)(A:Nat):(H0 w).h.get A=w.heap[A]?.map (objAV w.heap.size):=by
 obtain⟨t,a⟩:=qI.1 (ofList_some (w.heap.toList.map (objAV w.heap.size)) 0 .leaf);simp only[H0,a,yB];rw[T.get_ofList _ _ _ _ a];simp only[Nat.zero_le,true_and,yU,jC,yN,j7];split
 .simp
 .rename_i h;rw[T.get_leaf,Array.getElem?_eq_none (by omega)];rfl
theorem H0_ok (w:World): ∀A,(H0 w).next<=A->(H0 w).h.get A=none:=fun A h=>by
 rw[H0_get,Array.getElem?_eq_none (by exact h)];rfl
theorem H0_cells (w:World){a:Nat×Nat}(h:w.heap[H]? =some (.cells E V a)):(H0 w).h.get H=some (.cells (E.toList.map (cellAV w.heap.size)) V 0 false):=by
 rw[H0_get,h];rfl
theorem H0_rel (w:World):Rel (RId w) (H0 w) w:=by
 refine⟨?_, ?_, ?_, ?_⟩
 .rintro A b d c j d' c' ⟨rfl,_,rfl,rfl⟩ ⟨rfl,_,rfl,rfl⟩;exact⟨rfl,rfl,rfl⟩
 .rintro A m b d c d' c' ⟨rfl,_,rfl,rfl⟩ ⟨rfl,_,rfl,rfl⟩ _ _;rfl
 .rintro A b d c o ⟨rfl,_,rfl,rfl⟩ a
  rw[H0_get]at a;obtain⟨x,f,rfl⟩:=Option.map_eq_some_iff.1 a;rw[f];unfold objAV;split
  .rename_i arr e i;exact⟨arr,i,[],arr.toList,[],rfl,by simp,rfl,cellsAV_ok _ _,fun _=>⟨rfl,fun h=>absurd h (Nat.lt_irrefl 0),fun _=>rfl⟩,fun h=>by simp at h,fun h=>absurd h (Nat.lt_irrefl 0),[],rfl⟩
  .rfl
 .rintro A b d c ⟨rfl,h,rfl,rfl⟩;exact⟨h,h⟩
theorem calls_param (hm:FI t n)(w:World){args:Array Value}{H':AH}
  (h:n (args.toList.map (argAV w.heap.size)) (H0 w)=some (.bool true,H')) (u: ∀A,A<w.heap.size->H'.h.get A=(H0 w).h.get A):
  Calls PP t args w fun e j=>e= .returned (.bool true)/\RowKit.Below w.heap.size w j:=by
 intro cs;obtain⟨_,_,v⟩:=hm _ _ _ _ h;obtain⟨J,j,z,s,y,C,h3,o,h5,h6⟩:=v (RId w) args.toList cs w (argsAV_ok _ _) (H0_rel w);simp only[VR]at o;subst o;refine⟨.returned (.bool true),j,s,⟨rfl, ?_⟩,y,C,h3⟩;refine⟨h6.os,h6.tape,h6.output,h6.size,fun k i=> ?_⟩;have hr:=h6.sub k k 0 _ ⟨rfl,i,rfl,rfl⟩;have p:w.heap[k]? =some w.heap[k]:=Array.getElem?_eq_getElem i;have q:=u k i;rw[H0_get,p]at q;have a:=h5.obj _ _ _ _ _ hr q;rw[p]at a⊢;generalize w.heap[k]=x at a
 cases x with
 | cells arr e fz=>
  obtain⟨arr',f,pre,l',I,k1,k2,k3,k4,k5,_⟩:=a;obtain⟨rfl,_,k6⟩:=k5 rfl;have hl:=cellsAV_only h6.sub h5.fn k4;have hp:pre=[]:=zR k3;subst hp;subst hl;have F:arr'=arr:=Array.toList_inj.1 (by simpa using k2);have G:f=fz:=(enc_inj (k6 rfl)).symm;rw[k1,F,G]
 | _=>exact a
noncomputable def cloK (m:List AV->AH->Option (AV×AH))(vs:List AV)(H:AH):Option (AV×AH):=match vs with
 | []=>some (.bool true,H)
 | vs=>m vs H
theorem Rel.below {a:World}(h:Rel s i p)(hb:RowKit.Below p.heap.size p a):Rel s i a:=
 ⟨h.fn,h.inj,fun A b d c o r f=>by rw[hb.block b (h.lt _ _ _ _ r).1];exact h.obj A b d c o r f,fun A b d c r=>⟨qF (h.lt _ _ _ _ r).1 hb.size,(h.lt _ _ _ _ r).2⟩⟩
theorem cloI_ok (p: ∃a,PP.funcs[t]? =some a/\a.body.isSome=true)
  (q: ∀w:World,Calls PP t #[] w fun e s=>e= .returned (.bool true)/\RowKit.Below w.heap.size w s) (hm:FI t n):FI t (cloK n):=by
 intro z H v H' h;unfold cloK at h;split at h
 .simp only[zB,zQ]at h;obtain⟨rfl,rfl⟩:=h;refine⟨zK _,p,fun R C cs w i hL=> ?_⟩;simp only[VRL]at i;subst i;obtain⟨e,f,j,⟨rfl,hb⟩,u,x,y⟩:=q w cs;refine⟨R,f, .bool true,j,u,x,y,rfl,hL.below hb, ?_⟩;exact⟨jT R,fun _ _ _ _ h=> .inl h,fun _ _ _ _ h=> .inl h,zK _,fun _ _ _=>rfl,hb.os,hb.tape,hb.output,hb.size,fun b o _=>hb.block b o⟩
 .exact hm _ _ _ _ h
def Fin (x:Rs)(Q:Ex->AH->Prop):Prop:= ∃e H,x=some (e,H)/\Q e H
def Ret (x:Option (AV×AH))(Q:AV->AH->Prop):Prop:= ∃v H,x=some (v,H)/\Q v H
theorem Fin.pure {e:Ex}(h:u e i):Fin (some (e,i)) u:=⟨e,i,rfl,h⟩
theorem Ret.pure {Q:AV->AH->Prop}(h:Q q i):Ret (some (q,i)) Q:=⟨q,i,rfl,h⟩
theorem Fin.mono {x:Rs}{a:Ex->AH->Prop}(h:Fin x u)(k: ∀e H,u e H->a e H):Fin x a:=by
 obtain⟨e,H,f,i⟩:=h;exact⟨e,H,f,k _ _ i⟩
theorem Ret.mono {x:Option (AV×AH)}{Q a:AV->AH->Prop}(h:Ret x Q)(k: ∀v H,Q v H->a v H):Ret x a:=by
 obtain⟨e,H,f,i⟩:=h;exact⟨e,H,f,k _ _ i⟩
def orN (P:List AV->AH->Prop)(Q:Ex->AH->Prop):Ex->AH->Prop
 | .norm vs,H=>P vs H
 | .exit i vs,H=>Q (.exit i vs) H
 | .ret v,H=>Q (.ret v) H
theorem Fin.jn {x:Rs}{P:List AV->AH->Prop}{K:List AV->AH->Rs}{Q:Ex->AH->Prop}(a:Fin x (orN P Q))(h: ∀vs H,P vs H->Fin (K vs H) Q):Fin (jn x K) Q:=by
 obtain⟨e,H,rfl,hp⟩:=a
 cases e with
 | norm vs=>exact h vs H hp
 | exit i vs=>exact⟨_,_,rfl,hp⟩
 | ret v=>exact⟨_,_,rfl,hp⟩
theorem Fin.loop (I:Nat->List AV->AH->Prop)
  (step: ∀k vs H,I k vs H->Fin (F vs H) (orN (fun vs' H'=> ∃k',k'<k/\I k' vs' H') u)):
  ∀(n k:Nat) (vs:List AV) (H:AH),I k vs H->k<n->Fin (loopK n F vs H) u:=by
 intro n
 induction n with
 | zero=>intro k vs H _ h;omega
 | succ n ih=>
  intro k vs H f j;refine Fin.jn (step k vs H f) ?_
  rintro vs' H' ⟨k',i,a⟩
  exact ih k' vs' H' a (by omega)
theorem cnd_b (b:Bool)(x y:Rs):cnd (.bool b) x y=if b then x else y:=by cases b<;>rfl
theorem wnt_b (b a:Bool)(x y:Rs):wnt (.bool b) a x y=if b=a then x else y:=by cases b<;>cases a<;>rfl
theorem bVs (v:AV)(K:AV->Rs):bV (some v) K=K v:=rfl
theorem bRs (v:AV)(H:AH)(K:AV->AH->Rs):bR (some (v,H)) K=K v H:=rfl
theorem hd_cons (v:AV)(vs:List AV)(K:AV->List AV->Rs):hd (v::vs) K=K v vs:=rfl
theorem nl_nil (K:Rs):nl [] K=K:=rfl
theorem jn_norm (vs:List AV)(H:AH)(K:List AV->AH->Rs):jn (some (.norm vs,H)) K=K vs H:=rfl
theorem jn_ret (v:AV)(H:AH)(K:List AV->AH->Rs):jn (some (.ret v,H)) K=some (.ret v,H):=rfl
theorem jn_exit (i:Nat)(vs:List AV)(H:AH)(K:List AV->AH->Rs):jn (some (.exit i vs,H)) K=some (.exit i vs,H):=rfl
theorem jb_norm (id:Nat)(vs:List AV)(H:AH)(K:List AV->AH->Rs):jb id (some (.norm vs,H)) K=K vs H:=rfl
theorem jb_ret (id:Nat)(v:AV)(H:AH)(K:List AV->AH->Rs):jb id (some (.ret v,H)) K=some (.ret v,H):=rfl
theorem outR_ret (v:AV)(H:AH):outR (some (.ret v,H))=some (v,H):=rfl
theorem jn_ite (c:Prop)[Decidable c](x y:Rs)(K:List AV->AH->Rs):jn (if c then x else y) K=if c then jn x K else jn y K:=by split<;>rfl
theorem outR_ite (c:Prop)[Decidable c](x y:Rs):outR (if c then x else y)=if c then outR x else outR y:=by split<;>rfl
theorem pk3_b (b:Bool)(x y:Option AV):pk3 (some (.bool b)) x y=if b then x else y:=by cases b<;>rfl
def AH.ok (H:AH):Prop:= ∀A,H.next<=A->H.h.get A=none
noncomputable def AH.push (H:AH)(o:AObj):AH:=⟨(T.set 40 H.h H.next o).getD .leaf,H.next+1⟩
noncomputable def AH.put (H:AH)(A:Nat)(o:AObj):AH:=⟨(T.set 40 H.h A o).getD .leaf,H.next⟩
theorem AH.push_next (H:AH)(o:AObj):(H.push o).next=H.next+1:=rfl
def jL:=@AH.push_next
theorem AH.put_next (H:AH)(A:Nat)(o:AObj):(H.put A o).next=H.next:=rfl
def jM:=@AH.put_next
theorem AH.push_get (H:AH)(o:AObj)(A:Nat):(H.push o).h.get A=if A=H.next then some o else H.h.get A:=by
 obtain⟨t,a⟩:=qI.1 (T.set_some 40 H.h H.next o)
 simp only[AH.push,a,yB];exact T.get_set _ _ _ _ _ a A
theorem AH.put_get (H:AH)(B:Nat)(o:AObj)(A:Nat):(H.put B o).h.get A=if A=B then some o else H.h.get A:=by
 obtain⟨t,a⟩:=qI.1 (T.set_some 40 H.h B o);simp only[AH.put,a,yB];exact T.get_set _ _ _ _ _ a A
def jO:=@AH.put_get
theorem AH.push_get_eq (H:AH)(o:AObj):(H.push o).h.get H.next=some o:=by rw[AH.push_get,if_pos rfl]
def jK:=@AH.push_get_eq
theorem AH.push_get_ne (A:AH)(o:AObj)(h:H<A.next):(A.push o).h.get H=A.h.get H:=by rw[AH.push_get,if_neg (by omega)]
theorem AH.ok.push {H:AH}(h:H.ok)(o:AObj):(H.push o).ok:=fun A a=>by
 rw[jL]at a;rw[AH.push_get,if_neg (by omega)];exact h A (by omega)
theorem AH.ok.put {H:AH}(h:H.ok){A:Nat}(f:A<H.next)(o:AObj):(H.put A o).ok:=fun B a=>by
 rw[jM]at a;rw[jO,if_neg (by omega)];exact h B a
theorem AH.ok.lt {H:AH}(h:H.ok){o:AObj}(f:H.h.get l=some o):l<H.next:=by
 rcases Nat.lt_or_ge l H.next with a | a
 .exact a
 .rw[h l a]at f;cases f
theorem newB_ok (h:i.ok)(o:AObj)(K:Nat->AH->Rs):newB i o K=K i.next (i.push o):=by
 unfold newB;rw[h i.next (zK _)]
 obtain⟨t,a⟩:=qI.1 (T.set_some 40 i.h i.next o)
 simp only[a,fN_eq,AH.push,yB]
theorem putA_ok (H:AH)(A:Nat)(o:AObj):putA H A o=some (H.put A o):=by
 unfold putA;obtain⟨t,a⟩:=qI.1 (T.set_some 40 H.h A o);simp only[a,AH.put,yB]
theorem newA_ok (h:i.ok)(o:AObj):newA i o=some (i.next,i.push o):=by
 unfold newA newA0;rw[h i.next (zK _)]
 obtain⟨t,a⟩:=qI.1 (T.set_some 40 i.h i.next o)
 simp only[a,AH.push,yB]
theorem bA_ok (h:i.ok)(o:AObj)(a:Nat->AV)(K:AV->AH->Rs):bA (some (o,a)) i K=K (a i.next) (i.push o):=by
 simp only[bA,newB_ok h]
structure Stp (S:Nat->Prop)(H H':AH):Prop where
 ok:H'.ok
 next:H.next<=H'.next
 keep: ∀A,A<H.next-> ¬S A->H'.h.get A=H.h.get A
abbrev Prs (H H':AH):Prop:=Stp (fun _=>False) H H'
theorem Stp.refl {S:Nat->Prop}{H:AH}(h:H.ok):Stp S H H:=⟨h,zK _,fun _ _ _=>rfl⟩
def jV:=@Stp.refl
theorem Stp.trans {f:AH}(h:Stp J i G)(k:Stp J G f):Stp J i f:=
 ⟨k.ok,qP h.next k.next,fun A S j=>by rw[k.keep A (qF S h.next) j,h.keep A S j]⟩
theorem Stp.mono {a:Nat->Prop}(h:Stp J i G)(k: ∀A,A<i.next->J A->a A):Stp a i G:=
 ⟨h.ok,h.next,fun A S j=>h.keep A S (fun x=>j (k A S x))⟩
theorem Stp.fresh {f:AH}(a:Prs i G)(h:Stp J G f)(k: ∀A,J A->i.next<=A):Prs i f:=
 ⟨h.ok,qP a.next h.next,fun A S _=>by
  rw[h.keep A (qF S a.next) (fun x=>by have:=k A x;omega),a.keep A S (fun x=>x)]⟩
theorem Stp.push {S:Nat->Prop}{H0 H:AH}(h:Stp S H0 H)(o:AObj):Stp S H0 (H.push o):=
 ⟨h.ok.push o,by rw[jL];have:=h.next;omega,fun A a f=>by
  rw[AH.push_get_ne _ _ (qF a h.next)];exact h.keep A a f⟩
theorem Stp.put {S:Nat->Prop}{H0 H:AH}(h:Stp S H0 H){A:Nat}(i:A<H.next)(o:AObj)(j:H0.next<=A\/S A):Stp S H0 (H.put A o):=
 ⟨h.ok.put i o,h.next,fun B m a=>by
  rw[jO,if_neg (fun e=>by subst e;rcases j with f | f;omega;exact a f)];exact h.keep B m a⟩
theorem Prs.get {H H':AH}(h:Prs H H'){A:Nat}{o:AObj}(f:H.ok)(a:H.h.get A=some o):H'.h.get A=some o:=by
 rw[h.keep A (f.lt a) (fun x=>x)];exact a
def jY:=@Prs.get
theorem Prs.stp (h:Prs i G):Stp J i G:=h.mono (fun _ _ x=>x.elim)
theorem wrap_i64 {z:Int}(a: -9223372036854775808<=z)(f:z<=9223372036854775807):IntKind.wrap .i64 z=z:=by
 apply wrap_of_range<;>simp[IntKind.signed,IntKind.min,IntKind.max,IntKind.bits]<;>omega
theorem wrap_u8 (z:Int):IntKind.wrap .u8 z=z % 256:=by simp[IntKind.wrap,IntKind.signed,IntKind.bits]
theorem wrap_u32 (z:Int):IntKind.wrap .u32 z=z % 4294967296:=by simp[IntKind.wrap,IntKind.signed,IntKind.bits]
theorem wrap_u64 (z:Int):IntKind.wrap .u64 z=z % 18446744073709551616:=by simp[IntKind.wrap,IntKind.signed,IntKind.bits]
theorem bInt_add (k:IntKind)(a b:Int):bInt .add (.int k a) (.int k b)=some (.int k (k.wrap (a+b))):=by simp[bInt,abinI,keq_eq,mkI_eq]
theorem bInt_sub (k:IntKind)(a b:Int):bInt .sub (.int k a) (.int k b)=some (.int k (k.wrap (a - b))):=by simp[bInt,abinI,keq_eq,mkI_eq]
theorem bInt_mul (k:IntKind)(a b:Int):bInt .mul (.int k a) (.int k b)=some (.int k (k.wrap (a*b))):=by simp[bInt,abinI,keq_eq,mkI_eq]
theorem bInt_quo (k:IntKind)(a b:Int)(h:b≠0):bInt .quo (.int k a) (.int k b)=some (.int k (k.wrap (a.tdiv b))):=by
 have:(b==0)=false:=by simpa using h
 simp[bInt,abinI,keq_eq,mkI_eq,ieq_eq,this]
theorem bInt_rem (k:IntKind)(a b:Int)(h:b≠0):bInt .rem (.int k a) (.int k b)=some (.int k (a.tmod b)):=by
 have:(b==0)=false:=by simpa using h
 simp[bInt,abinI,keq_eq,fI_eq,ieq_eq,this]
theorem bInt_eql (k:IntKind)(a b:Int):bInt .eql (.int k a) (.int k b)=some (.bool (decide (a=b))):=by
 have h:keq k k=true:=by rw[keq_eq];simp
 simp only[bInt,abinI,h,zP,mkB_eq,ieq_eq,ilt_eq,zB,AV.bool.injEq];rw[yG];simp
theorem bInt_neq (k:IntKind)(a b:Int):bInt .neq (.int k a) (.int k b)=some (.bool (decide (a≠b))):=by
 have h:keq k k=true:=by rw[keq_eq];simp
 simp only[bInt,abinI,h,zP,mkB_eq,ieq_eq,ilt_eq,zB,AV.bool.injEq];rw[yG];simp
theorem bInt_lss (k:IntKind)(a b:Int):bInt .lss (.int k a) (.int k b)=some (.bool (decide (a<b))):=by
 have h:keq k k=true:=by rw[keq_eq];simp
 simp only[bInt,abinI,h,zP,mkB_eq,ieq_eq,ilt_eq,zB,AV.bool.injEq]
theorem bInt_leq (k:IntKind)(a b:Int):bInt .leq (.int k a) (.int k b)=some (.bool (decide (a<=b))):=by
 have h:keq k k=true:=by rw[keq_eq];simp
 simp only[bInt,abinI,h,zP,mkB_eq,ieq_eq,ilt_eq,zB,AV.bool.injEq];rw[yG];simp
theorem bInt_gtr (k:IntKind)(a b:Int):bInt .gtr (.int k a) (.int k b)=some (.bool (decide (b<a))):=by
 have h:keq k k=true:=by rw[keq_eq];simp
 simp only[bInt,abinI,h,zP,mkB_eq,ieq_eq,ilt_eq,zB,AV.bool.injEq]
theorem bInt_geq (k:IntKind)(a b:Int):bInt .geq (.int k a) (.int k b)=some (.bool (decide (b<=a))):=by
 have h:keq k k=true:=by rw[keq_eq];simp
 simp only[bInt,abinI,h,zP,mkB_eq,ieq_eq,ilt_eq,zB,AV.bool.injEq];rw[yG];simp
theorem cvI_int (k k':IntKind)(z:Int):cvI k (.int k' z)=some (.int k (k.wrap z)):=by simp[cvI,mkI_eq]
theorem natOf_int (k:IntKind){z:Int}(h:0<=z):natOf (.int k z)=some z.toNat:=by
 cases z with
 | ofNat n=>rfl
 | negSucc n=>omega
theorem bBool_eql (a b:Bool):bBool .eql (.bool a) (.bool b)=some (.bool (a==b)):=by simp only[bBool,mkB_eq]
theorem bBool_neq (a b:Bool):bBool .neq (.bool a) (.bool b)=some (.bool (!(a==b))):=by simp only[bBool,mkB_eq]
theorem aun_not (b:Bool):aun .not (.bool b)=some (.bool !b):=by simp[aun,mkB_eq]
abbrev Str:=List UInt8
def S (l:Str):AV:= .str l.length (pack l)
theorem S_cell (l:Str):isCell (S l)=true:=rfl
def ltS (l m:Str):Bool:=Op.bytesLess l m
theorem lnStr_S (l:Str):lnStr (S l)=some (.int .i64 (l.length:Nat)):=rfl
theorem S_eq (l m:Str):(Nat.beq l.length m.length&&Nat.beq (pack l) (pack m))=decide (l=m):=by
 rw[yG];simp only[zE,zX,zU];exact⟨fun h=>pack_inj l m h.1 h.2,fun h=>by subst h;exact⟨rfl,rfl⟩⟩
theorem bStr_eql (l m:Str):bStr .eql (S l) (S m)=some (.bool (decide (l=m))):=by simp only[bStr,S,abinS,mkB_eq,S_eq]
theorem bStr_neq (l m:Str):bStr .neq (S l) (S m)=some (.bool (decide (l≠m))):=by simp only[bStr,S,abinS,mkB_eq,S_eq];simp
theorem bStr_lss (l m:Str):bStr .lss (S l) (S m)=some (.bool (ltS l m)):=by simp only[bStr,S,abinS,mkB_eq,sless_eq,ltS]
theorem bStr_geq (l m:Str):bStr .geq (S l) (S m)=some (.bool (!ltS l m)):=by simp only[bStr,S,abinS,mkB_eq,sless_eq,ltS]
theorem bStr_add (l m:Str)(h:l.length+m.length<4611686018427387904):bStr .add (S l) (S m)=some (S (l++m)):=by
 have:Nat.blt (l.length+m.length) 4611686018427387904=true:=by rw[q9];exact h
 simp only[bStr,S,abinS,this,zP,mkS_eq,zT,pack_append];rw[show(256:Nat) ^ l.length=2 ^ (8*l.length)from by rw[show(256:Nat)=2 ^ 8 from rfl,<-Nat.pow_mul]]
theorem ixStr_S (l:Str)(k:IntKind){z:Int}(f:0<=z)(a:z.toNat<l.length):ixStr (S l) (.int k z)=some (.int .u8 (l[z.toNat].toNat:Nat)):=by
 have hb:Nat.blt z.toNat l.length=true:=by rw[q9];exact a
 simp only[ixStr,natOf_int k f,S,hb,zP,fN_eq];rw[pack_get l _ a,show(256:Nat) ^ z.toNat=2 ^ (8*z.toNat)from by rw[show(256:Nat)=2 ^ 8 from rfl,<-Nat.pow_mul]];rfl
theorem pow256 (n:Nat):(2:Nat) ^ (8*n)=256 ^ n:=by rw[show(256:Nat)=2 ^ 8 from rfl,<-Nat.pow_mul]
theorem acutS_S (l:Str)(lo hi:Option Nat)(a:hi.getD l.length<=l.length)(f:lo.getD 0<=hi.getD l.length):acutS l.length (pack l) lo hi=some (S ((l.drop (lo.getD 0)).take (hi.getD l.length - lo.getD 0))):=by
 have h:Nat.ble (hi.getD l.length) l.length=true:=by rw[qO];exact a
 have i:Nat.ble (lo.getD 0) (hi.getD l.length)=true:=by rw[qO];exact f
 simp only[acutS,h,i,qJ,zP,mkS_eq,S,pow256,<-pack_drop,<-pack_take];rw[qA,qK,Nat.min_eq_left (by omega)]
theorem slStr_lo (l:Str)(k:IntKind){z:Int}(a:0<=z)(f:z.toNat<=l.length):slStr (S l) (some (.int k z)) none=some (S (l.drop z.toNat)):=by
 have:=acutS_S l (some z.toNat) none (zK _) f;simp only[slStr,natOpt,natOf_int k a,S];rw[this];simp only[yB,Option.getD_none,S];rw[zW (by simp)]
theorem slStr_hi (l:Str)(k:IntKind){z:Int}(a:0<=z)(f:z.toNat<=l.length):slStr (S l) none (some (.int k z))=some (S (l.take z.toNat)):=by
 have:=acutS_S l none (some z.toNat) f (Nat.zero_le _);simp only[slStr,natOpt,natOf_int k a,S];rw[this];simp[S]
theorem ltS_irrefl: ∀l:Str,ltS l l=false
 | []=>rfl
 | b::l=>by
  have:=ltS_irrefl l;simp only[ltS,Op.bytesLess]at this⊢;simp[this]
theorem ltS_trans: ∀ {a b c:Str},ltS a b=true->ltS b c=true->ltS a c=true
 | [],b,[],_,h=>by cases b<;>simp[ltS,Op.bytesLess]at h
 | [],_,_::_,_,_=>rfl
 | _::_,[],_,h,_=>by simp[ltS,Op.bytesLess]at h
 | _::_,_::_,[],_,h=>by simp[ltS,Op.bytesLess]at h
 | a::l,b::m,c::n,h,k=>by
  have f:= @ltS_trans l m n;simp only[ltS,Op.bytesLess,yW,zE,zU,beq_iff_eq]at h k f⊢;rcases h with h | ⟨rfl,h⟩
  .rcases k with k | ⟨rfl,k⟩
   .left;rw[UInt8.lt_iff_toNat_lt]at*;omega
   .exact .inl h
  .rcases k with k | ⟨rfl,k⟩
   .exact .inl k
   .exact .inr ⟨rfl,f h k⟩
theorem ltS_tri: ∀ {a b:Str},ltS a b=false->ltS b a=false->a=b
 | [],[],_,_=>rfl
 | [],_::_,h,_=>by simp[ltS,Op.bytesLess]at h
 | _::_,[],_,h=>by simp[ltS,Op.bytesLess]at h
 | a::l,b::m,h,k=>by
  have f:= @ltS_tri l m;simp only[ltS,Op.bytesLess,Bool.or_eq_false_iff,Bool.and_eq_false_iff,yK,beq_eq_false_iff_ne,ne_eq]at h k f;have e:a=b:=by
   apply UInt8.toNat_inj.1;have i:=h.1;have k1:=k.1;rw[UInt8.lt_iff_toNat_lt]at i k1;omega
  subst e;rw[f (by simpa using h.2) (by simpa using k.2)]
theorem ltS_asymm {a b:Str}(h:ltS a b=true):ltS b a=false:=by
 cases k:ltS b a with
 | false=>rfl
 | true=>have:=ltS_trans h k;rw[ltS_irrefl]at this;cases this
theorem ltS_ne {a b:Str}(h:ltS a b=true):a≠b:=fun e=>by subst e;rw[ltS_irrefl]at h;cases h
theorem pNil_ptr (A o:Nat):pNil (.ptr A o)=some (.ptr A o):=rfl
theorem fAd_ptr (f A o:Nat):fAd f (.ptr A o)=some (.ptr A (o+f)):=by simp[fAd,fN_eq]
theorem ld1_ptr (A:i.h.get H=some (.cells h e c M))(a:h[l]? =some q):ld1 (.ptr H l) i=some q:=by
 simp only[ld1,A,nth_eq,a]
theorem ldN_ptr {sz:Nat}(A:i.h.get H=some (.cells h c sz M))(a:l+e<=h.length):ldN e (.ptr H l) i=some (.agg ((h.drop l).take e)):=by
 simp only[ldN,A,subN_some _ _ _ (.inr a)]
theorem setAt_some {l:List AV}(new:H+h.length<=l.length):setAt l H h=some (l.take H++h++l.drop (H+h.length)):=by
 induction H generalizing l with
 | zero=>
  have: ∀(h l:List AV),h.length<=l.length->over l h=some (h++l.drop h.length):=by
   intro h
   induction h with
   | nil=>intro l _;cases l<;>rfl
   | cons y ys ih=>intro l hl;cases l with
    | nil=>simp at hl
    | cons x l=>simp only[zV,Nat.add_le_add_iff_right]at hl;simp[over,ih l hl]
  have a:=this h l (by omega)
  cases l with
  | nil=>simpa[setAt]using a
  | cons=>simpa[setAt]using a
 | succ H ih=>
  cases l with
  | nil=>simp at new
  | cons x l=>
   simp only[zV]at new;simp only[setAt,ih (l:=l) (by omega)];simp[show H+1+h.length=H+h.length+1 from by omega]
theorem stN_ok {o n:Nat}{x:AV}(sz:i.h.get H=some (.cells h l e M))(f:0<e)(A:(cellsA x).length=n)(j:allCells (cellsA x)=true)(m:o+n<=h.length):
  stN n (.ptr H o) x i=some (undefA,i.put H (.cells (h.take o++cellsA x++h.drop (o+n)) l e M)):=by
 subst A;have a:Nat.blt 0 e=true:=by rw[q9];exact f
 simp only[stN,sz,lenL_zero,yC,j,a,qJ,zP,setAt_some m,putA_ok]
theorem st1_ok {o:Nat}{x:AV}(sz:i.h.get H=some (.cells h l e M))(A:0<e)(f:isCell x=true)(j:o<h.length):
  stN 1 (.ptr H o) x i=some (undefA,i.put H (.cells (h.set o x) l e M)):=by
 have a:cellsA x=[x]:=by cases x<;>first | rfl | (simp[isCell]at f)
 rw[stN_ok sz A (by rw[a];rfl) (by rw[a];simp[allCells,f]) (by omega),a,List.set_eq_take_append_cons_drop,if_pos j];simp
theorem allCells_mem  :allCells h=true↔ ∀x∈h,isCell x=true:=by
 induction h with
 | nil=>simp[allCells]
 | cons x h ih=>simp[allCells,ih]
def Rw (k:Nat)(H:AH)(v:AV)(n:Nat)(l:List AV):Prop:=
 l.length=n*k/\((v= .nS/\n=0)\/(v= .eS/\n=0)\/
  ∃A off cc c e sz g,v= .slice A off n cc/\H.h.get A=some (.cells c e sz g)/\A<H.next/\off+n*k<=c.length/\(c.drop off).take (n*k)=l)
theorem Rw.nil (k:Nat)(H:AH):Rw k H .nS 0 []:=⟨by simp, .inl ⟨rfl,rfl⟩⟩
theorem Rw.lnSl {k n:Nat}{H:AH}{v:AV}{l:List AV}(h:Rw k H v n l):lnSl v=some (.int .i64 (n:Int)):=by
 obtain⟨_,⟨rfl,rfl⟩ | ⟨rfl,rfl⟩ | ⟨A,off,cc,c,e,sz,g,rfl,_⟩⟩:=h<;>rfl
theorem Rw.mono (n:Rw H i q l h)(s:Stp J i G)(o: ∀A off m cc,q= .slice A off m cc-> ¬J A):Rw H G q l h:=by
 obtain⟨a,f | f | ⟨A,off,cc,c,e,sz,g,rfl,p,k,j,hl⟩⟩:=n
 .exact⟨a, .inl f⟩
 .exact⟨a, .inr (.inl f)⟩
 .exact⟨a, .inr (.inr ⟨A,off,cc,c,e,sz,g,rfl,by rw[s.keep A k (o _ _ _ _ rfl)];exact p,qF k s.next,j,hl⟩)⟩
theorem Rw.prs (k:Rw H i q l h)(s:Prs i G):Rw H G q l h:=k.mono s (fun _ _ _ _ _ x=>x)
theorem Rw.at {l:List AV}(h:Rw H G q e l){i:Nat}(hi:i<e):
  ∃A o c k sz g,(∀κ (z:Int),z=(i:Int)->ixSl H q (.int κ z)=some (.ptr A o))/\G.h.get A=some (.cells c k sz g)/\A<G.next/\o+H<=c.length/\(c.drop o).take H=(l.drop (i*H)).take H:=by
 obtain⟨n,⟨_,rfl⟩ | ⟨_,rfl⟩ | ⟨A,off,cc,c,k,sz,g,rfl,f,a,m,hl⟩⟩:=h
 .omega
 .omega
 .have p:i*H+H<=e*H:=by rw[<-jI];exact yP _ hi
  refine⟨A,off+i*H,c,k,sz,g,fun κ z j=> ?_,f,a,by omega, ?_⟩
  .have hb:Nat.blt i e=true:=by rw[q9];exact hi
   subst j;simp only[ixSl,natOf_int κ (show(0:Int)<=(i:Int)by omega),qU,hb,zP,fN_eq]
  .rw[<-hl,List.drop_take,List.take_take,List.drop_drop,Nat.min_eq_left (by omega)]
theorem Rw.ld1 {n:Nat}{H:AH}{v:AV}{l:List AV}(h:Rw 1 H v n l){i:Nat}(hi:i<n):
  ∃p x,(∀κ (z:Int),z=(i:Int)->ixSl 1 v (.int κ z)=some p)/\Eng.ld1 p H=some x/\l[i]? =some x:=by
 obtain⟨A,o,c,e,sz,g,j,m,h3,q,h5⟩:=h.at hi;have hl:l.length=n:=by have:=h.1;omega
 have a:i<l.length:=by omega
 refine⟨_,l[i],j,ld1_ptr m ?_,zO a⟩;have f:((c.drop o).take 1)[0]? =((l.drop (i*1)).take 1)[0]? :=by rw[h5]
 rw[jD (by omega),jD (by omega),jE,jE]at f;simpa[zO a]using f
theorem Rw.ldN {k n:Nat}{H:AH}{v:AV}{l:List AV}(h:Rw k H v n l){i:Nat}(hi:i<n):
  ∃p,(∀κ (z:Int),z=(i:Int)->ixSl k v (.int κ z)=some p)/\Eng.ldN k p H=some (.agg ((l.drop (i*k)).take k)):=by
 obtain⟨A,o,c,e,sz,g,a,f,h3,j,h5⟩:=h.at hi;exact⟨_,a,by rw[ldN_ptr f j,h5]⟩
theorem Rw.srcOf {k n:Nat}{H:AH}{v:AV}{l:List AV}(h:Rw k H v n l):Eng.srcOf k v H=some (n,l):=by
 obtain⟨a,⟨rfl,rfl⟩ | ⟨rfl,rfl⟩ | ⟨A,off,cc,c,e,sz,g,rfl,i,j,f,hl⟩⟩:=h
 .have:l=[]:=zR (by simpa using a);subst this;rfl
 .have:l=[]:=zR (by simpa using a);subst this;rfl
 .simp only[Eng.srcOf,i,subN_some _ _ _ (.inr f),hl]
theorem ew:(∀ {α:Type} (h:Decidable True) (t e:α), @ite α True h t e=t)/\(∀ {α:Type} (h:Decidable False) (t e:α), @ite α False h t e=e)/\(∀h:Decidable True, @decide True h=true)/\(∀h:Decidable False, @decide False h=false)/\((!true)=false)/\((!false)=true)/\((false=true)=False)/\((true=false)=False)/\(∀b,(b&&true)=b)/\(∀b,(true&&b)=b)/\(∀b,(b&&false)=false)/\(∀b,(false&&b)=false)/\(∀b,(b||true)=true)/\(∀b,(true||b)=true)/\(∀b,(b||false)=b)/\(∀b,(false||b)=b):=by
 refine⟨fun h t e=>if_pos trivial,fun h t e=>if_neg id,fun h=>decide_eq_true trivial,fun h=>decide_eq_false id,rfl,rfl,by simp,by simp,by simp,by simp,by simp,by simp,by simp,by simp,by simp,by simp⟩
def Own (k e:Nat)(H:AH)(v:AV)(n:Nat)(l:List AV):Prop:=
 l.length=n*k/\((v= .nS/\n=0)\/ ∃A,v= .slice A 0 n 1/\A<H.next/\H.h.get A=some (.cells l e k true))
def Blk (v:AV)(A:Nat):Prop:= ∃o n c,v= .slice A o n c
theorem Blk.slice {A o n c B:Nat} :Blk (.slice A o n c) B↔B=A:=⟨fun⟨_,_,_,h⟩=>by simp only[AV.slice.injEq]at h;exact h.1.symm,fun h=>⟨o,n,c,by rw[h]⟩⟩
def jS:=@Blk.slice
theorem Blk.nil {B:Nat} :Blk .nS B↔False:=⟨fun⟨_,_,_,h⟩=>by simp at h,fun h=>h.elim⟩
def jZ:=@Blk.nil
theorem Own.row (k:Own H l G q e h):Rw H G q e h:=by
 obtain⟨a,⟨rfl,rfl⟩ | ⟨A,rfl,f,i⟩⟩:=k
 .exact⟨a, .inl ⟨rfl,rfl⟩⟩
 .exact⟨a, .inr (.inr ⟨A,0,1,h,l,H,true,rfl,i,f,by omega,by rw[yE,zW (by omega)]⟩)⟩
theorem Own.nil (k e:Nat)(H:AH):Own k e H .nS 0 []:=⟨by simp, .inl ⟨rfl,rfl⟩⟩
def kB:=@Own.nil
theorem Own.mono (n:Own H l i q e h)(s:Stp J i G)(k: ∀A,Blk q A-> ¬J A):Own H l G q e h:=by
 obtain⟨a,j | ⟨A,rfl,f,m⟩⟩:=n
 .exact⟨a, .inl j⟩
 .exact⟨a, .inr ⟨A,rfl,qF f s.next,by rw[s.keep A f (k A (jS.2 rfl))];exact m⟩⟩
theorem Rw.stp (k:Rw H i q l h)(s:Stp J i G)(a: ∀A,Blk q A-> ¬J A):Rw H G q l h:=
 k.mono s (fun A o m c e=>a A (by rw[e];exact jS.2 rfl))
theorem roomy_ok (h:H<=1000000000)(f:l<=1000):roomy H l=true:=by
 unfold roomy;simp only[zE,qO,q9];refine⟨?_,by omega⟩
 calc (H+H / 4+192)*l<=(H+H / 4+192)*1000:=Nat.mul_le_mul_left _ f
  _<=281474976710656:=by omega
theorem app1_own {k e bytes n m:Nat}{new:List AV}(a:i.ok)(o:0<k)(l:Own k e i q n h)(hm:new.length=m*k)(z:1<=m)(u:n+m<=1000000000)(hb:bytes<=1000):
  ∃H',app1 e k bytes m new q i=some (.slice i.next 0 (n+m) 1,H')/\Own k e H' (.slice i.next 0 (n+m) 1) (n+m) (h++new)/\Stp (Blk q) i H'/\H'.next=i.next+1:=by
 obtain⟨f,⟨rfl,rfl⟩ | ⟨A,rfl,H,x⟩⟩:=l
 .have hl:h=[]:=zR (by simpa using f);subst hl;have y:Nat.beq m 0=false:=by rw[qX];intro e;rw[zX]at e;omega
  refine⟨i.push (.cells new e k true), ?_,⟨?_, .inr ⟨i.next,rfl,Nat.lt_succ_self _,jK _ _⟩⟩,(jV a).push _,rfl⟩
  .simp only[app1,show m.beq 0=false from y,y9,appGrow,roomy_ok (show m<=1000000000 by omega) hb,zP,agrow,qV,newA_ok a,fN_eq,yU]
  .simp[hm]
 .have j:roomOf h true k 0 1 k=n:=by
   simp only[roomOf,show((1 % 2).beq 0)=false from rfl,y9,yC,show Nat.beq 0 (1 / 2*k)=true from by simp,qJ,zP,lenL_zero,f,j7];exact Nat.mul_div_cancel _ o
  have s:Nat.ble (n+m) n=false:=by rw[qX];intro e;rw[qO]at e;omega
  have p:Nat.beq (0+n*k) (lenL h 0)=true:=by rw[lenL_zero,f,yU,yC]
  have v:subN h 0 (n*k)=some h:=by rw[subN_some _ _ _ (.inr (by omega)),yE,zW (by omega)]
  have t:(i.put A .dead).ok:=a.put H _;refine⟨(i.put A .dead).push (.cells (h++new) e k true), ?_,⟨?_, .inr ⟨i.next,rfl,Nat.lt_succ_self _,jK (i.put A .dead) _⟩⟩,((jV a).put H _ (.inr (jS.2 rfl))).push _,rfl⟩
  .simp only[app1,x,app2,j,s,y9,show((1 % 2).beq 0)=false from rfl,p,yC,show Nat.beq 0 (1 / 2*k)=true from by simp,qJ,zP,putA_ok,v,appGrow,
    roomy_ok u hb,agrow,newA_ok t,fN_eq,jM]
  .simp[f,hm,yZ]
theorem app1_none {bytes:Nat}(k:i.ok)(f:0<H)(v:Own H l i q e h):
  ∃H',app1 l H bytes 0 [] q i=some (q,H')/\Own H l H' q e h/\Stp (fun _=>False) i H'/\H'.next=i.next:=by
 obtain⟨a,⟨rfl,rfl⟩ | ⟨A,rfl,j,m⟩⟩:=v
 .exact⟨i,rfl,⟨a, .inl ⟨rfl,rfl⟩⟩,jV k,rfl⟩
 .have o:roomOf h true H 0 1 H=e:=by
   simp only[roomOf,show((1 % 2).beq 0)=false from rfl,y9,yC,show Nat.beq 0 (1 / 2*H)=true from by simp,qJ,zP,lenL_zero,a,j7];exact Nat.mul_div_cancel _ f
  have n:Nat.blt 0 H=true:=by rw[q9];exact f
  have p:setAt h (0+e*H) []=some h:=by rw[setAt_some (by simp;omega)];simp
  refine⟨i.put A (.cells h l H true), ?_,⟨a, .inr ⟨A,rfl,j,by rw[jO,if_pos rfl]⟩⟩,⟨k.put j _,zK _,fun B s _=> ?_⟩,rfl⟩
  .simp only[app1,m,app2,o,Nat.add_zero,Nat.ble_eq_true_of_le (zK e),zP,n,p,appIn,putA_ok,fN_eq]
  .rw[jO];split
   .rename_i l;rw[l,m]
   .rfl
theorem apP_own {bytes m:Nat}{s:AV}{new:List AV}(k:i.ok)(a:0<H)(v:Own H l i q e h)(j:srcOf H s i=some (m,new))(hm:new.length=m*H)(o:allCells new=true)(f:1<=m)(p:e+m<=1000000000)(hb:bytes<=1000):
  ∃H',apP l H bytes q s i=some (.slice i.next 0 (e+m) 1,H')/\Own H l H' (.slice i.next 0 (e+m) 1) (e+m) (h++new)/\Stp (Blk q) i H'/\H'.next=i.next+1:=by
 obtain⟨H',n,t⟩:=app1_own (bytes:=bytes) k a v hm f p hb;exact⟨H',by simp only[apP,j,o,zP,n],t⟩
theorem apP_any {bytes:Nat}{s:AV}{new:List AV}(p:i.ok)(o:0<H)(m:Own H l i q e h)(n:srcOf H s i=some (c,new))(hm:new.length=c*H)(t:allCells new=true)(u:e+c<=1000000000)(hb:bytes<=1000):
  ∃a H',apP l H bytes q s i=some (a,H')/\Own H l H' a (e+c) (h++new)/\Stp (Blk q) i H'/\i.next<=H'.next/\(∀B,Blk a B->Blk q B\/i.next<=B):=by
 by_cases y:c=0
 .subst y;have:new=[]:=zR (by simpa using hm);subst this;obtain⟨H',f,k,h3,z⟩:=app1_none (bytes:=bytes) p o m;refine⟨q,H',by simp only[apP,n,t,zP,f],by simpa using k,h3.mono (fun _ _ x=>x.elim),by omega,fun B j=> .inl j⟩
 .obtain⟨H',f,k,h3,z⟩:=apP_own p o m n hm t (by omega) u hb;exact⟨_,H',f,k,h3,by omega,fun B j=> .inr (by rw[jS.1 j];exact zK _)⟩
theorem app1_full {k e bytes n m off:Nat}{new:List AV}(p:i.ok)(q:i.h.get H=some (.cells h l c M))(A:off+n*k<=h.length)(t:1<=m)(s:n+m<=1000000000)(hb:bytes<=1000):
  app1 e k bytes m new (.slice H off n (2*n)) i=some (.slice i.next 0 (n+m) 1,i.push (.cells ((h.drop off).take (n*k)++new) e k true)):=by
 have a:((2*n) % 2).beq 0=true:=by rw[j6];rfl
 have f:roomOf h M c off (2*n) k=n:=by
  simp only[roomOf,a,zP,yL n (show 0<2 by omega)]
 have j:Nat.ble (n+m) n=false:=by rw[qX];intro e;rw[qO]at e;omega
 simp only[app1,q,app2,f,j,y9,a,zP,subN_some _ _ _ (.inr A),appGrow,roomy_ok s hb,agrow,newA_ok p,fN_eq]
theorem Own.len (k:Own H l i q e h):h.length=e*H:=k.1
theorem Rw.len (k:Rw H i q l h):h.length=l*H:=k.1
def bytesV (l:Str):List AV:=l.map fun c=> .int .u8 c.toNat
theorem bytesOf_S: ∀l:Str,bytesOf l.length (pack l)=bytesV l
 | []=>rfl
 | c::l=>by
  have h:c.toNat<256:=c.toNat_lt;have a:pack (c::l) % 256=c.toNat:=by simp only[pack];omega
  have f:pack (c::l) / 256=pack l:=by simp only[pack];omega
  simp only[zV,bytesOf,a,f,bytesOf_S l,bytesV,y6];rfl
theorem srcOf_S (l:Str)(H:AH):srcOf 1 (S l) H=some (l.length,bytesV l):=by simp only[srcOf,S,show(Nat.beq 1 1)=true from rfl,zP,bytesOf_S]
theorem bytesV_cells (l:Str):allCells (bytesV l)=true:=by
 rw[allCells_mem];intro x a;obtain⟨c,_,rfl⟩:=qM.1 a;rfl
theorem bytesV_length (l:Str):(bytesV l).length=l.length:=by simp[bytesV]
theorem bytesV_append (l m:Str):bytesV (l++m)=bytesV l++bytesV m:=by simp[bytesV]
theorem textOf_bytesV: ∀l:Str,textOf (bytesV l)=some (l.length,pack l)
 | []=>rfl
 | c::l=>by
  have a:Nat.blt c.toNat 256=true:=by rw[q9];exact c.toNat_lt
  have f:=textOf_bytesV l;show textOf (AV.int .u8 (Int.ofNat c.toNat)::bytesV l)=_;simp only[textOf,a,zP,f,fN_eq,zV,pack]
theorem cvBS_row {n:Nat}{l:Str}(h:Rw 1 i q n (bytesV l))(f:q≠ .eS):cvBS q i=some (S l):=by
 obtain⟨H,⟨rfl,rfl⟩ | ⟨rfl,rfl⟩ | ⟨A,off,cc,c,e,sz,g,rfl,j,m,a,hl⟩⟩:=h
 .have:l=[]:=by cases l with
   | nil=>rfl
   | cons=>simp[bytesV]at H
  subst this;rfl
 .exact absurd rfl f
 .rw[Nat.mul_one]at a hl;simp only[cvBS,j,subN_some _ _ _ (.inr a),hl,textOf_bytesV,mkS_eq,S]
end Go.Eng
namespace Go.Eng
theorem jn_and (p:Prop)[Decidable p](b:Bool)(H:AH)(K:AV->AH->Rs):
  jn (if p then some (.norm [.bool b],H)else some (.norm [undefA],H)) (fun vs H=>hd vs fun y _=>bV (if p then some y else some (.bool false)) fun x=>K x H)=K (.bool (decide p&&b)) H:=by
 by_cases h:p<;>simp[h,jn,hd,bV]
theorem jn_or (p:Prop)[Decidable p](b:Bool)(H:AH)(K:AV->AH->Rs):
  jn (if p then some (.norm [undefA],H)else some (.norm [.bool b],H)) (fun vs H=>hd vs fun y _=>bV (if p then some (.bool true)else some y) fun x=>K x H)=K (.bool (decide p||b)) H:=by
 by_cases h:p<;>simp[h,jn,hd,bV]
theorem loop_next {vs':List AV}{H':AH}(n:F h i=some (.norm vs',H')):loopK (H+1) F h i=loopK H F vs' H':=by
 show jn (F h i) (loopK H F)=_;rw[n];rfl
theorem loop_exit {vs':List AV}(n:F h i=some (.exit l vs',G)):loopK (H+1) F h i=some (.exit l vs',G):=by
 show jn (F h i) (loopK H F)=_;rw[n];rfl
theorem loop_ret (n:F h i=some (.ret q,G)):loopK (H+1) F h i=some (.ret q,G):=by
 show jn (F h i) (loopK H F)=_;rw[n];rfl
theorem jb_exit (id:Nat)(vs:List AV)(H:AH)(K:List AV->AH->Rs):jb id (some (.exit id vs,H)) K=K vs H:=by simp[jb]
def Strs (H:AH)(v:AV)(l:List Str):Prop:=Rw 1 H v l.length (l.map S)
theorem Strs.at {H:AH}{v:AV}{l:List Str}(h:Strs H v l){i:Nat}(hi:i<l.length): ∃p,(∀κ (z:Int),z=(i:Int)->ixSl 1 v (.int κ z)=some p)/\Eng.ld1 p H=some (S l[i]):=by
 obtain⟨p,x,a,f,h3⟩:=Rw.ld1 h hi;rw[jG,zO hi]at h3;simp only[zY,zB]at h3;subst h3;exact⟨p,a,f⟩
theorem Strs.lnSl {H:AH}{v:AV}{l:List Str}(h:Strs H v l):Eng.lnSl v=some (.int .i64 (l.length:Int)):=Rw.lnSl h
theorem Strs.prs {H H':AH}{v:AV}{l:List Str}(h:Strs H v l)(s:Prs H H'):Strs H' v l:=Rw.prs h s
theorem cell_some {a:Addr}(h:p.cell? a=some W):a.spot=none/\ ∃arr e f,p.heap[a.block]? =some (.cells arr e f)/\arr[a.off]? =some W:=by
 unfold World.cell? at h;split at h
 .rename_i c e f i;split at h
  .cases h
  .rename_i j;exact⟨by simpa using j,c,e,f,i,h⟩
 .cases h
theorem cellAV_string (N:Nat)(s:ByteArray):cellAV N (.string s)=S s.data.toList:=by
 simp only[cellAV,S];rw[<-size_data]
theorem argSlice (w:World)(a:0<c)(hb:H<w.heap.size):argCell w.heap.size (.slice (some ⟨H,l,none⟩) e c)= .slice H l e (2*c):=by
 obtain⟨b,rfl⟩: ∃b,c=b+1:=⟨c - 1,by omega⟩;have:Nat.blt H w.heap.size=true:=by rw[q9];exact hb
 cases e<;>simp[argCell,cellAV,this]
theorem heap_lt {x:Obj}(h:p.heap[H]? =some x):H<p.heap.size:=(Array.getElem?_eq_some_iff.1 h).1
theorem strs_arg {w:Type}{enc:TypeId×Value->w}{e:TypeId}{x:DataW w×List MemPlace}(G:Y.underlying V=some (.slice e))(I:Y.underlying e=some .string)(J:Y.cellsOf e=1)
  (h:DataW.trod enc Y p H (fun _=>true) M l V [W]=some x): ∃z:List Str,Strs (H0 p) (argCell p.heap.size W) z:=by
 rcases Deep.open_strs G I J h with⟨f,_⟩ | ⟨a,len,cap,m,u,f,_,hl,_,hm,_,y⟩
 .simp only[yF,and_true]at f;subst f;exact⟨[],by simp, .inl ⟨rfl,rfl⟩⟩
 .simp only[yF,and_true]at f;subst f;simp only[if_true]at hm;subst hm;by_cases K:m=0
  .subst K;obtain rfl:len=0:=by omega
   exact⟨[],by simp, .inr (.inl ⟨rfl,rfl⟩)⟩
  .obtain⟨b,o,L⟩:=a;obtain⟨c1,arr,base,S,j,_⟩:=cell_some (y 0 (by omega)).1;have F:L=none:=by simpa[Addr.add]using c1
   subst F;have hb:(Addr.add ⟨b,o,none⟩ 0).block=b:=by simp[Addr.add]
   rw[hb]at j;have s: ∀i,i<m->arr[o+i]? =some (.string (u i)):=fun i hi=>by
    obtain⟨_,arr',N,O,P,q⟩:=cell_some (y i hi).1;rw[add_none]at P q;rw[j]at P;simp only[zB,Obj.cells.injEq]at P;rw[<-P.1]at q;exact q
   have Q:o+m<=arr.size:=by
    have:=(Array.getElem?_eq_some_iff.1 (s (m - 1) (by omega))).1;omega
   rw[argSlice p (by omega) (heap_lt j)];refine⟨(List.range len).map (fun i=>(u i).data.toList),by simp, .inr (.inr ⟨b,o,2*m,_,base,0,false,by simp,H0_cells p j,heap_lt j,by simp;omega, ?_⟩)⟩;apply List.ext_getElem?;intro i;by_cases hi:i<len
   .rw[jD (by simpa using hi),jE,jG,yM,s i (by omega)];simp[hi,cellAV_string]
   .rw[List.getElem?_eq_none (by simp;omega),List.getElem?_eq_none (by simp;omega)]
end Go.Eng
end
section
noncomputable section
namespace Go.Eng
abbrev Nms:=List (List AV->AH->Rs)
def nmAt (N:Nms)(k:Nat):List AV->AH->Rs:=match N with
 | []=>fun _ _=>none
 | g::N=>match k with
  | 0=>g
  | k+1=>nmAt N k
def ms:Hint->Hint
 | .s a b=> .s (ms a) (ms b)
 | .c L a b=> .c L.tail (ms a) (ms b)
 | .cl a b=> .cl (ms a) (ms b)
 | .cr a b=> .cr (ms a) (ms b)
 | .b L a=> .b L.tail (ms a)
 | .b0 a=> .b0 (ms a)
 | .l L a=> .l L.tail (ms a)
 | .rf s L=> .rf s L
 | .t L m=> .t L m
 | .o=> .o
def pkN (L:List Nat):Env->AH->Rs:=fun env H=>pck L env fun vs=>some (.norm vs,H)
def upK (L:List Nat)(K:Env->AH->Rs):List AV->AH->Rs:=fun vs H=>unp L vs env0 fun env=>K env H
def mkAt (P:List Nat)(i:Nat):Nat:=match P with
 | j::m::P=>bif Nat.beq j i then m else mkAt P i
 | _=>0
def sprF (P:List Nat)(i:Nat)(n:Nat):List Nat:=match n with
 | 0=>[]
 | n+1=>mkAt P i::sprF P (i+1) n
def spr (P:List Nat)(n:Nat):List Nat:=match P with
 | []=>[]
 | _=>sprF P 0 n
def pickR (l:List Oper)(R:List Nat):List (Nat×Oper):=match R with
 | []=>[]
 | i::R=>match nthO l i with
  | some o=>(i,o)::pickR l R
  | none=>[]
def codeS (B:Tb)(D:Dyn)(n nt:Nat)(rs:List ResultVar)(f0:FuncId)(ro:Bool)(N:Nms):Code->Hint->List (Nat×List Nat)->(Env->AH->Rs)->Env->AH->Rs
 | .skip,_,_,K,env,H=>K env H
 | .label _,_,_,K,env,H=>K env H
 | .region _ ops _, .b P _,_,K,env,H=>opsK B D nt ops (some (spr P ops.size)) (ops.size+1) K (idx ops.toList 0) [] env H
 | .region _ ops _, .c P (.l R _) _,_,K,env,H=>opsK B D nt ops (some (spr P ops.size)) (R.length+1) K (pickR ops.toList R) [] env H
 | .region _ ops draw,_,_,K,env,H=>regK B D nt ops draw K env H
 | .seq a b, .s ha hb,Bk,K,env,H=>codeS B D n nt rs f0 ro N a ha Bk (codeS B D n nt rs f0 ro N b hb Bk K) env H
 | .seq _ _, .t L m,_,K,env,H=>pck L env fun vs=>tld (m vs H) H.next fun H=>unp L vs env0 fun env=>K env H
 | .cond c a b, .c (k::L) ha hb,Bk,_,env,H=>match opd env c with
  | some v=>jn (cnd v (codeS B D n nt rs f0 ro N a ha Bk (pkN L) env H) (codeS B D n nt rs f0 ro N b hb Bk (pkN L) env H)) (nmAt N k)
  | none=>none
 | .cond c a b, .cl ha hb,Bk,K,env,H=>match opd env c with
  | some v=>cnd v (codeS B D n nt rs f0 ro N a ha Bk (fun _ _=>none) env H) (codeS B D n nt rs f0 ro N b hb Bk K env H)
  | none=>none
 | .cond c a b, .cr ha hb,Bk,K,env,H=>match opd env c with
  | some v=>cnd v (codeS B D n nt rs f0 ro N a ha Bk K env H) (codeS B D n nt rs f0 ro N b hb Bk (fun _ _=>none) env H)
  | none=>none
 | .block id b, .b (k::L) hb,Bk,_,env,H=>jb id (codeS B D n nt rs f0 ro N b hb ((id,L)::Bk) (pkN L) env H) (nmAt N k)
 | .block id b, .b0 hb,Bk,K,env,H=>codeS B D n nt rs f0 ro N b hb (dropB Bk id) K env H
 | .loop _, .l (k::L) _,_,_,env,H=>pck L env fun vs=>loopK n (nmAt N k) vs H
 | .exit id,_,Bk,_,env,H=>match liveOf Bk id with
  | some L=>pck L env fun vs=>some (.exit id vs,H)
  | none=>none
 | .ret,_,_,_,env,H=>retE B.X rs env H
 | .rangeFunc f _ _ _, .rf s L,Bk,K,env,H=>bif ro then none else match opd env f with
  | some fv=>pck L env fun vs=>newB H (.loop ⟨.ready,none,f0,s,L,vs⟩) fun A H=>bR (rfC B.S D fv A H) fun _ H=>
    endLp A H fun j H=>jmpK j (K env H) (exS Bk env H) (retE B.X rs env H)
  | none=>none
 | _,_,_,_,_,_=>none
abbrev Prt:=Option (List AV->AH->Rs)
def orP (a b:Prt):Prt:=match a with | some g=>some g | none=>b
def prt (B:Tb)(D:Dyn)(n nt:Nat)(rs:List ResultVar)(f0:FuncId)(ro:Bool)(N:Nms)(i:Nat):Code->Hint->List (Nat×List Nat)->(Env->AH->Rs)->Prt
 | .seq a b, .s ha hb,Bk,K=>orP (prt B D n nt rs f0 ro N i a ha Bk (codeS B D n nt rs f0 ro N b hb Bk K)) (prt B D n nt rs f0 ro N i b hb Bk K)
 | .cond _ a b, .c (k::L) ha hb,Bk,K=>bif Nat.beq k i then some (upK L K)else orP (prt B D n nt rs f0 ro N i a ha Bk (pkN L)) (prt B D n nt rs f0 ro N i b hb Bk (pkN L))
 | .cond _ a b, .cl ha hb,Bk,K=>orP (prt B D n nt rs f0 ro N i a ha Bk fun _ _=>none) (prt B D n nt rs f0 ro N i b hb Bk K)
 | .cond _ a b, .cr ha hb,Bk,K=>orP (prt B D n nt rs f0 ro N i a ha Bk K) (prt B D n nt rs f0 ro N i b hb Bk fun _ _=>none)
 | .block id b, .b (k::L) hb,Bk,K=>bif Nat.beq k i then some (upK L K)else prt B D n nt rs f0 ro N i b hb ((id,L)::Bk) (pkN L)
 | .block id b, .b0 hb,Bk,K=>prt B D n nt rs f0 ro N i b hb (dropB Bk id) K
 | .loop b, .l (k::L) hb,Bk,_=>bif Nat.beq k i then some (upK L (codeS B D n nt rs f0 ro N b hb Bk (pkN L)))else prt B D n nt rs f0 ro N i b hb Bk (pkN L)
 | _,_,_,_=>none
def funS (B:Tb)(D:Dyn)(n:Nat)(f0:FuncId)(a:Func)(h:Hint)(N:Nms)(f:List AV)(H:AH):Option (AV×AH):=
 match a.body with
 | some body=>bif Nat.ble (a.params.size+a.nfree) a.ntmps then outR (unpA (a.params.size+a.nfree) 0 f env0 fun env=>codeS B D n a.ntmps a.results.toList f0 false N body h [] (fun env H=>retE B.X a.results.toList env H) env H)else none
 | none=>none
def prtF (B:Tb)(D:Dyn)(n:Nat)(f0:FuncId)(a:Func)(h:Hint)(N:Nms)(i:Nat):Prt:=
 match a.body with
 | some body=>prt B D n a.ntmps a.results.toList f0 false N i body h [] fun env H=>retE B.X a.results.toList env H
 | none=>none
def rdS (B:Tb)(D:Dyn)(n:Nat)(f0:FuncId)(nt:Nat)(h:Array Tmp)(a body:Code)(L f:List Nat)(j hb:Hint)(N:Nms)(A:Nat)(l:ALoop)(m:List AV)(H:AH):Option (AV×AH):=
 bif eqNL L l.live then
  endQ A (unp L l.vals env0 fun env=>unpP nt h.toList m env fun env=>
   codeS B D n nt [] f0 true N a j [] (fun env H=>beginK A H fun H=>codeS B D n nt [] f0 true N body hb (f.map fun i=>(i,[])) (fun _ H=>some (.norm [],H)) env H) env H)
 else none
def rndS (B:Tb)(D:Dyn)(n:Nat)(f0:FuncId)(s:Nat)(L a:List Nat)(f hb:Hint)(N:Nms)(A:Nat)(l:ALoop)(h:List AV)(H:AH):Option (AV×AH):=
 match siteC f0 s with
 | some (nt,ps,asg,body)=>rdS B D n f0 nt ps asg body L a f hb N A l h H
 | none=>none
end Go.Eng
end
end
section
namespace Go.Proofs
open Go.Shelf
def Tryz.clone77_ren:Go.Shelf.Ren:=⟨fun | 5=>77 | 7=>107 | n=>n,fun | 23=>80 | 25=>36 | 3=>72 | 4=>4 | 20=>20 | n=>n,fun | n=>n⟩
theorem Tryz.clone77:Go.Proofs.SlLaysW.n5 Tryz.prog Tryz.clone77_ren:= {
 mixed:=by kernel_rfl
 f5:=⟨Tryz.f77.name,by decide,Tryz.func77.trans (congrArg some (by kernel_rfl))⟩
 f7:=Tryz.func107.trans (congrArg some (by kernel_rfl))
 t4:=Tryz.underlying4
 a4:=Tryz.isAgg4
 z4:=Tryz.sizeOf4
 v4:=Tryz.zeroValue4
 t20:=Tryz.underlying20
 a20:=Tryz.isAgg20
 z20:=Tryz.sizeOf20
 v20:=Tryz.zeroValue20
 t23:=Tryz.underlying80
 a23:=Tryz.isAgg80
 z23:=Tryz.sizeOf80
 v23:=Tryz.zeroValue80}
def Tryz.clone83_ren:Go.Shelf.Ren:=⟨fun | 5=>83 | 7=>107 | n=>n,fun | 23=>96 | 25=>3 | 3=>144 | 4=>4 | 20=>20 | n=>n,fun | n=>n⟩
theorem Tryz.clone83:Go.Proofs.SlLaysW.n5 Tryz.prog Tryz.clone83_ren:= {
 mixed:=by kernel_rfl
 f5:=⟨Tryz.f83.name,by decide,Tryz.func83.trans (congrArg some (by kernel_rfl))⟩
 f7:=Tryz.func107.trans (congrArg some (by kernel_rfl))
 t4:=Tryz.underlying4
 a4:=Tryz.isAgg4
 z4:=Tryz.sizeOf4
 v4:=Tryz.zeroValue4
 t20:=Tryz.underlying20
 a20:=Tryz.isAgg20
 z20:=Tryz.sizeOf20
 v20:=Tryz.zeroValue20
 t23:=Tryz.underlying96
 a23:=Tryz.isAgg96
 z23:=Tryz.sizeOf96
 v23:=Tryz.zeroValue96}
end Go.Proofs
noncomputable section
namespace Go.Eng.Sh
open Go.Proofs
set_option maxRecDepth 100000
def y (l:T TypeInfo)(v:TypeInfo)(r:T TypeInfo):T TypeInfo:= .node l (some v) r
abbrev o:T TypeInfo:= .leaf
noncomputable def TX:T TypeInfo:=(y (y (y (y (y (y (y (y (y o Tryz.t255 o) Tryz.t127 o) Tryz.t63 (y o Tryz.t191 o)) Tryz.t31 (y (y o Tryz.t159 o) Tryz.t95 (y o Tryz.t223 o))) Tryz.t15 (y (y (y o Tryz.t143 o) Tryz.t79 (y o Tryz.t207 o)) Tryz.t47 (y (y o Tryz.t175 o) Tryz.t111 (y o Tryz.t239 o)))) Tryz.t7 (y (y (y (y (y o Tryz.t263 o) Tryz.t135 o) Tryz.t71 (y o Tryz.t199 o)) Tryz.t39 (y (y o Tryz.t167 o) Tryz.t103 (y o Tryz.t231 o))) Tryz.t23 (y (y (y o Tryz.t151 o) Tryz.t87 (y o Tryz.t215 o)) Tryz.t55 (y (y o Tryz.t183 o) Tryz.t119 (y o Tryz.t247 o))))) Tryz.t3 (y (y (y (y (y (y o Tryz.t259 o) Tryz.t131 o) Tryz.t67 (y o Tryz.t195 o)) Tryz.t35 (y (y o Tryz.t163 o) Tryz.t99 (y o Tryz.t227 o))) Tryz.t19 (y (y (y o Tryz.t147 o) Tryz.t83 (y o Tryz.t211 o)) Tryz.t51 (y (y o Tryz.t179 o) Tryz.t115 (y o Tryz.t243 o)))) Tryz.t11 (y (y (y (y o Tryz.t139 o) Tryz.t75 (y o Tryz.t203 o)) Tryz.t43 (y (y o Tryz.t171 o) Tryz.t107 (y o Tryz.t235 o))) Tryz.t27 (y (y (y o Tryz.t155 o) Tryz.t91 (y o Tryz.t219 o)) Tryz.t59 (y (y o Tryz.t187 o) Tryz.t123 (y o Tryz.t251 o)))))) Tryz.t1 (y (y (y (y (y (y (y o Tryz.t257 o) Tryz.t129 o) Tryz.t65 (y o Tryz.t193 o)) Tryz.t33 (y (y o Tryz.t161 o) Tryz.t97 (y o Tryz.t225 o))) Tryz.t17 (y (y (y o Tryz.t145 o) Tryz.t81 (y o Tryz.t209 o)) Tryz.t49 (y (y o Tryz.t177 o) Tryz.t113 (y o Tryz.t241 o)))) Tryz.t9 (y (y (y (y (y o Tryz.t265 o) Tryz.t137 o) Tryz.t73 (y o Tryz.t201 o)) Tryz.t41 (y (y o Tryz.t169 o) Tryz.t105 (y o Tryz.t233 o))) Tryz.t25 (y (y (y o Tryz.t153 o) Tryz.t89 (y o Tryz.t217 o)) Tryz.t57 (y (y o Tryz.t185 o) Tryz.t121 (y o Tryz.t249 o))))) Tryz.t5 (y (y (y (y (y (y o Tryz.t261 o) Tryz.t133 o) Tryz.t69 (y o Tryz.t197 o)) Tryz.t37 (y (y o Tryz.t165 o) Tryz.t101 (y o Tryz.t229 o))) Tryz.t21 (y (y (y o Tryz.t149 o) Tryz.t85 (y o Tryz.t213 o)) Tryz.t53 (y (y o Tryz.t181 o) Tryz.t117 (y o Tryz.t245 o)))) Tryz.t13 (y (y (y (y o Tryz.t141 o) Tryz.t77 (y o Tryz.t205 o)) Tryz.t45 (y (y o Tryz.t173 o) Tryz.t109 (y o Tryz.t237 o))) Tryz.t29 (y (y (y o Tryz.t157 o) Tryz.t93 (y o Tryz.t221 o)) Tryz.t61 (y (y o Tryz.t189 o) Tryz.t125 (y o Tryz.t253 o))))))) Tryz.t0 (y (y (y (y (y (y (y (y o Tryz.t256 o) Tryz.t128 o) Tryz.t64 (y o Tryz.t192 o)) Tryz.t32 (y (y o Tryz.t160 o) Tryz.t96 (y o Tryz.t224 o))) Tryz.t16 (y (y (y o Tryz.t144 o) Tryz.t80 (y o Tryz.t208 o)) Tryz.t48 (y (y o Tryz.t176 o) Tryz.t112 (y o Tryz.t240 o)))) Tryz.t8 (y (y (y (y (y o Tryz.t264 o) Tryz.t136 o) Tryz.t72 (y o Tryz.t200 o)) Tryz.t40 (y (y o Tryz.t168 o) Tryz.t104 (y o Tryz.t232 o))) Tryz.t24 (y (y (y o Tryz.t152 o) Tryz.t88 (y o Tryz.t216 o)) Tryz.t56 (y (y o Tryz.t184 o) Tryz.t120 (y o Tryz.t248 o))))) Tryz.t4 (y (y (y (y (y (y o Tryz.t260 o) Tryz.t132 o) Tryz.t68 (y o Tryz.t196 o)) Tryz.t36 (y (y o Tryz.t164 o) Tryz.t100 (y o Tryz.t228 o))) Tryz.t20 (y (y (y o Tryz.t148 o) Tryz.t84 (y o Tryz.t212 o)) Tryz.t52 (y (y o Tryz.t180 o) Tryz.t116 (y o Tryz.t244 o)))) Tryz.t12 (y (y (y (y o Tryz.t140 o) Tryz.t76 (y o Tryz.t204 o)) Tryz.t44 (y (y o Tryz.t172 o) Tryz.t108 (y o Tryz.t236 o))) Tryz.t28 (y (y (y o Tryz.t156 o) Tryz.t92 (y o Tryz.t220 o)) Tryz.t60 (y (y o Tryz.t188 o) Tryz.t124 (y o Tryz.t252 o)))))) Tryz.t2 (y (y (y (y (y (y (y o Tryz.t258 o) Tryz.t130 o) Tryz.t66 (y o Tryz.t194 o)) Tryz.t34 (y (y o Tryz.t162 o) Tryz.t98 (y o Tryz.t226 o))) Tryz.t18 (y (y (y o Tryz.t146 o) Tryz.t82 (y o Tryz.t210 o)) Tryz.t50 (y (y o Tryz.t178 o) Tryz.t114 (y o Tryz.t242 o)))) Tryz.t10 (y (y (y (y (y o Tryz.t266 o) Tryz.t138 o) Tryz.t74 (y o Tryz.t202 o)) Tryz.t42 (y (y o Tryz.t170 o) Tryz.t106 (y o Tryz.t234 o))) Tryz.t26 (y (y (y o Tryz.t154 o) Tryz.t90 (y o Tryz.t218 o)) Tryz.t58 (y (y o Tryz.t186 o) Tryz.t122 (y o Tryz.t250 o))))) Tryz.t6 (y (y (y (y (y (y o Tryz.t262 o) Tryz.t134 o) Tryz.t70 (y o Tryz.t198 o)) Tryz.t38 (y (y o Tryz.t166 o) Tryz.t102 (y o Tryz.t230 o))) Tryz.t22 (y (y (y o Tryz.t150 o) Tryz.t86 (y o Tryz.t214 o)) Tryz.t54 (y (y o Tryz.t182 o) Tryz.t118 (y o Tryz.t246 o)))) Tryz.t14 (y (y (y (y o Tryz.t142 o) Tryz.t78 (y o Tryz.t206 o)) Tryz.t46 (y (y o Tryz.t174 o) Tryz.t110 (y o Tryz.t238 o))) Tryz.t30 (y (y (y o Tryz.t158 o) Tryz.t94 (y o Tryz.t222 o)) Tryz.t62 (y (y o Tryz.t190 o) Tryz.t126 (y o Tryz.t254 o))))))))
def X:Cx:=⟨TX,[(38,[6,6,10]),(144,(List.replicate 512 7))]⟩
theorem TX_eq:TX=(T.ofList 0 PP.types.toList .leaf).getD .leaf:=by kernel_rfl
theorem X_ok:Ok PP X:=by
 have h:=cx_ok (P:=PP) (fl:=X.fl) (by kernel_rfl) (by kernel_rfl);rw[<-TX_eq]at h;exact h
def nN:List AV->AH->Rs:=fun _ _=>none
structure FY (B:Tb)(D:Dyn)(n:Nat)(i:FuncId)(f:Func)(h:Hint)(N:Nms) where
 mk::
 {g:List AV->AH->Option (AV×AH)}
 p:g=fun vs H=>funS B D n i f h N vs H:=by conv=>rhs;reduce
structure PY (B:Tb)(D:Dyn)(n:Nat)(i:FuncId)(f:Func)(h:Hint)(N:Nms)(k:Nat) where
 mk::
 {g:List AV->AH->Rs}
 p:some g=prtF B D n i f h N k:=by conv=>rhs;reduce
structure RY (B:Tb)(D:Dyn)(n:Nat)(i:FuncId)(s:Nat)(L ids:List Nat)(a b:Hint)(N:Nms) where
 mk::
 {g:Nat->ALoop->List AV->AH->Option (AV×AH)}
 p:g=fun A l az H=>rndS B D n i s L ids a b N A l az H:=by conv=>rhs;reduce
def Hr:Hint:= .s .o .o
def Hq:Hint:= .s .o (.cl Hr .o)
theorem sn:SOk []:=SOk.nil
theorem sc (h:FI t n)(i:SOk A):SOk ((t,n)::A):=SOk.cons h.fs i
theorem fk (D:Nat)(h:Hint)(j:DG z)(m:SOk A)(o:PP.funcs[t]? =some g)(p:sitesB g h=true:=by kernel_rfl)(q:n=funK ⟨X,A⟩ z D t g h:=by kernel_rfl):FI t n:=fun_ok X_ok j m o p q
def t0 (_:Dyn)(_:Nat):Tb:=⟨X,[]⟩
def ad (B:Tb)(i:Nat)(f:List AV->AH->Option (AV×AH)):Tb:=⟨X,(i,f)::B.S⟩
abbrev KO (s:Dyn->Nat->Tb):Prop:= ∀ {D:Dyn},DG D-> ∀n:Nat,SOk (s D n).S
theorem k0:KO t0:=fun _ _=>trivial
theorem kk {s:Dyn->Nat->Tb}(k:KO s)(h:Hint)(m:PP.funcs[t]? =some g)(o:sitesB g h=true:=by kernel_rfl)(p: ∀D n,I D n=funK ⟨X,(s D n).S⟩ D n t g h:=by intro D n;kernel_rfl):KO (fun D n=>ad (s D n) t (I D n)):=fun j n=>sc (fk n h j (k j n) m o (p _ n)) (k j n)
theorem kc {s:Dyn->Nat->Tb}(k:KO s)(h: ∀ {D:Dyn},DG D-> ∀n:Nat,FI t (I D n)):KO (fun D n=>ad (s D n) t (I D n)):=fun a n=>sc (h a n) (k a n)
noncomputable def q64_0:ML:=mlOf (bodyAt Tryz.f64 [1,1,1,0])
theorem q64_0_fits:q64_0.Fits 69:=by constructor<;>first | kernel_rfl | exact of_decide_eq_true (by kernel_rfl)
noncomputable def hb64_0:Hint:= .o
noncomputable def pre64_0 (vs:List AV)(H:AH):Rs:=
 hd vs fun a vs=>hd vs fun j vs=>hd vs fun x4 vs=>
 bV (pNil a) fun f=>
 bV (fAd 2 f) fun h=>
 bV (ld1 h H) fun i=>
 some (.norm (i::[a,j,x4]),H)
theorem pre64_0_eq:q64_0.preK ⟨X,[]⟩ dNone 69 [0,3,4]=pre64_0:=by kernel_rfl
noncomputable def rd64_0 (I:Nat)(vs:List AV)(k v:AV)(H:AH):Rs:=
 hd vs fun p vs=>hd vs fun q vs=>hd vs fun x4 vs=>
 bV (pExtract (.tuple [k,v]) 0) fun f=>
 bV (pExtract (.tuple [k,v]) 1) fun h=>
 bA (bxV 72 (.agg [(.bool false), .nS, .nS, .nS])) H fun a H=>
 bR (stN 4 a h H) fun t H=>
 bV (pNil x4) fun i=>
 bV (fAd 5 i) fun j=>
 bV (ld1 j H) fun m=>
 bV (ldN 4 a H) fun o=>
 bR (upM [10] m f o H) fun s H=>
 some (.norm [(.ptr I 0),p,q,x4],H)
theorem rd64_0_eq:q64_0.roundK ⟨X,[]⟩ dNone 0 69 hb64_0 [0,3,4]=rd64_0:=by kernel_rfl
noncomputable def mt64_0 (vs:List AV)(H:AH):Option AH:=match vs with
 | [.ptr C p,x3, .ptr E o]=>match ld1 (.ptr C (p+2)) H with
  | some (.map M)=>match ld1 (.ptr E (o+5)) H with
   | some (.map A)=>bif Nat.blt M H.next&&Nat.blt A H.next&&Nat.blt E H.next then upLp [10] 1 (isAg 4) (.map M) (.map A) H else none
   | _=>none
  | _=>none
 | _=>none
theorem mt64_0_plan: ∀vs H H',mt64_0 vs H=some H'->Nonempty (q64_0.Plan ⟨X,[]⟩ dNone 0 69 hb64_0 [0,3,4] vs H H'):=by
 intro vs H H' h;unfold mt64_0 at h;split at h
 .rename_i C p x3 E o;split at h
  .rename_i M I;split at h
   .rename_i A N;rw[zF]at h;split at h
    .rename_i y;simp only[zE,q9]at y;obtain⟨⟨hM,hA⟩,hE⟩:=y;obtain⟨l,e,sz,g,j,t⟩:=ld1_some N;have s:=upLp_maps h;refine up_plan h ?_ ?_ hM hA ?_
     .rw[pre64_0_eq];simp only[pre64_0,hd,bV,pNil,fAd,fN_eq,I]
     .intro k v a e0 O F Q hk S G _ _;obtain⟨cs,rfl,hl,U⟩:=isAg_some O;have V:E≠M:=fun e=>by subst e;obtain⟨⟨_,_,f⟩,_⟩:=s;rw[j]at f;simp at f
      have W:E≠A:=fun e=>by subst e;obtain⟨_,_,_,f⟩:=s;rw[j]at f;simp at f
      have Y:a.h.get E=some (.cells l e sz g):=by rw[F E hE V W];exact j
      obtain⟨t1,Z,J⟩:=newB_free (.cells [(.bool false), .nS, .nS, .nS] 72 1 false) (G a.next (zK _) (by omega))
      have m:=T.get_set _ _ _ _ _ Z;obtain⟨t2,a0,u⟩:=stN_own (n:=4) (H:=⟨t1,a.next+1⟩) (A:=a.next) (cs:=cs) (by rw[m,if_pos rfl]) rfl hl U rfl
      have i:=T.get_set _ _ _ _ _ a0;simp only at i u;have a1:t2.get A=some (.map [10] e0):=by rw[i,if_neg (by omega),m,if_neg (by omega)];exact Q
      obtain⟨t3,a2,x⟩:=upM_put (v:= .agg cs) (H:=⟨t2,a.next+1⟩) hk a1
      have q:=T.get_set _ _ _ _ _ a2;simp only at q x;have K:ld1 (.ptr E (o+5)) ⟨t2,a.next+1⟩=some (.map A):=ld1_at (l:=l) (e:=e) (sz:=sz) (g:=g) (by simp only[i,m];rw[if_neg (by omega),if_neg (by omega)];exact Y) t
      have L:ldN 4 (.ptr a.next 0) ⟨t2,a.next+1⟩=some (.agg cs):=ldN_own (by show t2.get a.next=_;rw[i,if_pos rfl]) hl
      refine⟨⟨t3,a.next+1⟩, ?_,rfl, ?_,fun C hC S=> ?_⟩
      .rw[rd64_0_eq];simp only[rd64_0,hd,bV,bR,pExtract,nth,bA,bxV,cellsA,J,u,pNil,fAd,fN_eq,K,L,x]
      .simp only[q,if_true]
      .simp only[q,if_neg hC,i,m];rw[if_neg (by omega),if_neg (by omega)]
     .intro R0 w0 hR hv;obtain⟨z,hz⟩:=hv (.ptr E o) (by simp);obtain⟨b,d,c,hr,_⟩:=hz;exact in_cells hR hr j t
    .simp at h
   .simp at h
  .simp at h
 .simp at h
theorem told64_0:ToldOk PP 69 64 q64_0.code [0,3,4] mt64_0:=up_told X_ok q64_0_fits (by decide+kernel) (by decide+kernel) (hb:=hb64_0) (by kernel_rfl) (kt:=36) (vt:=72) (by kernel_rfl) mt64_0_plan
end Go.Eng.Sh
end
end



