/- A checked evaluator for the program, and what it tells, part 3: no condition. -/
import Derived.Test.YtaaflpnhdkoaeaaGreatO2
import Derived.KernelRfl
import Derived.Maps.RangeRun
import Derived.Test.YtaaflpnhdkoaeaaGreatProg
import Derived.Shelf.Spec.SlicesInsertGrow
import Derived.Ground.Names2Prog
import Derived.Ground.SlmcProg
import Derived.Shelf.SlMaps.Clone
import Derived.Deep.Strs
set_option linter.all false
set_option linter.unusedVariables false
set_option linter.unusedSimpArgs false
set_option maxHeartbeats 8000000
set_option maxRecDepth 20000
section
namespace Go.Eng
theorem zFP {id:Nat}{x:Rs}{K:List AV->AH->Rs}{out:Ex×AH}(h:jb id x K=some out): ∃y,x=some y/\((∃vs H,y=(.norm vs,H)/\K vs H=some out)\/(∃vs H,y=(.exit id vs,H)/\K vs H=some out)\/(∃i vs H,i≠id/\y=(.exit i vs,H)/\out=y)\/(∃v H,y=(.ret v,H)/\out=y)):=by
 unfold jb at h;split at h
 .exact⟨_,rfl, .inl ⟨_,_,rfl,h⟩⟩
 .rename_i i vs H;rw[cond_eq_ite]at h;split at h
  .rename_i hi;rw[Nat.beq_eq]at hi;subst hi;exact⟨_,rfl, .inr (.inl ⟨_,_,rfl,h⟩)⟩
  .rename_i hi;rw[Nat.beq_eq]at hi;injection h with h;exact⟨_,rfl, .inr (.inr (.inl ⟨_,_,_,hi,rfl,h.symm⟩))⟩
 .injection h with h;exact⟨_,rfl, .inr (.inr (.inr ⟨_,_,rfl,h.symm⟩))⟩
 .simp at h
theorem uM {c:AV}{a b:Rs}{out:Ex×AH}(h:cnd c a b=some out):(c= .bool true/\a=some out)\/(c= .bool false/\b=some out):=by
 unfold cnd at h;split at h
 .exact .inl ⟨rfl,h⟩
 .exact .inr ⟨rfl,h⟩
 .simp at h
theorem YQ {L:List Nat}{vs:List AV}{K:Env->Rs}{out:Ex×AH}(h:unp L vs xN K=some out){env:Env}(hp:PK env L vs): ∃env',K env'=some out/\Le env' env:=by
 obtain⟨env',h1,h2⟩:=cH h env hp;refine⟨env',h1,fun t x hx=> ?_⟩;by_cases ht:t∈L
 .rw[<-(h2 t).1 ht];exact hx
 .rw[(h2 t).2 ht]at hx;simp[look,xN]at hx
theorem zBA {Bk:List (Nat×List Nat)}{id i:Nat}{L:List Nat}(h:xE (zE3 Bk id) i=some L):i≠id/\xE Bk i=some L:=by
 induction Bk with
 | nil=>simp[zE3,xE]at h
 | cons x Bk ih=>
  obtain⟨j,M⟩:=x;unfold zE3 at h;simp only[List.filter_cons]at h;split at h
  .rename_i hj;simp only[Bool.not_eq_true']at hj;have hj':j≠id:=fun e=>by rw[e]at hj;simp[Nat.beq_refl]at hj
   simp only[xE,cond_eq_ite,Nat.beq_eq]at h⊢;split at h
   .rename_i e;subst e;rw[if_pos rfl];exact⟨hj',h⟩
   .rename_i e;rw[if_neg e];exact ih h
  .rename_i hj;have hj':j=id:=by
    have:Nat.beq j id=true:=by simpa using hj
    simpa using this
   obtain⟨h1,h2⟩:=ih h;refine⟨h1, ?_⟩;simp only[xE,cond_eq_ite,Nat.beq_eq];rw[if_neg (fun e=>h1 (by rw[<-e,hj']))];exact h2
def XP (Bk:List (Nat×List Nat))(out:Ex×AH)(id:Nat)(env:Env)(H:AH):Prop:= ∃L vs,xE Bk id=some L/\PK env L vs/\out=(.exit id vs,H)
def RP (X:Cx)(rs:List ResultVar)(out:Ex×AH)(env:Env)(H:AH):Prop:=zIm X rs env H=some out
theorem BP {X:Cx}{env:Env}{H:AH} : ∀(rs:List ResultVar) (G:List AV->Rs),(∀vs z,G vs=some z-> ∃v,z=(.ret v,H))-> ∀z,zMR X rs env H G=some z-> ∃v,z=(.ret v,H)
 | [],G,hG,z,hz=>hG _ _ hz
 | r::rs,G,hG,z,hz=>by
  simp only[zMR]at hz;obtain⟨v,_,h2⟩:=j8 hz;exact BP rs _ (fun vs z hz=>hG _ _ hz) z h2
theorem wE {X:Cx}{rs:List ResultVar}{env:Env}{H:AH}{y:Ex×AH}(h:RP X rs y env H): ∃v,y=(.ret v,H):=
 BP rs _ (fun vs z hz=>by injection hz with hz;exact⟨_,hz.symm⟩) _ h
def KK (P:Program)(nt:Nat)(f0:FuncId)(c:Code)(L:List Nat)(m:List AV->AH->Option AH):Prop:=
 ∀(ro:Bool) (env:Env) (vs:List AV) (H H':AH),PK env L vs->m vs H=some H'->H.next<=H'.next->KY P nt f0 ro (.code c) env H (fun env' H''=>PK env' L vs/\H''=H') (fun _ _ _=>False) (fun _ _=>False)
theorem zCk {x:Option AH}{N:Nat}{K:AH->Rs}{out:Ex×AH}(h:tld x N K=some out): ∃H',x=some H'/\N<=H'.next/\K H'=some out:=by
 unfold tld at h;split at h
 .rename_i H';rw[cond_eq_ite]at h;split at h
  .rename_i hle;rw[qA]at hle;exact⟨H',rfl,hle,h⟩
  .simp at h
 .simp at h
def yP (P:Program)(f0:FuncId)(nt:Nat):Code->Hint->Prop
 | .seq a b, .s ha hb=>yP P f0 nt a ha/\yP P f0 nt b hb
 | .cond _ a b, .c _ ha hb=>yP P f0 nt a ha/\yP P f0 nt b hb
 | .cond _ a b, .cl ha hb=>yP P f0 nt a ha/\yP P f0 nt b hb
 | .cond _ a b, .cr ha hb=>yP P f0 nt a ha/\yP P f0 nt b hb
 | .block _ b, .b _ hb=>yP P f0 nt b hb
 | .block _ b, .b0 hb=>yP P f0 nt b hb
 | .seq a b, .t L m=>KK P nt f0 (.seq a b) L m
 | .loop b, .l _ hb=>yP P f0 nt b hb
 | .rangeFunc _ ps a b, .rf s _=>VA f0 s=some (nt,ps,a,b)
 | _,_=>True
theorem zA1 {H:AH}{o:AObj}{K:Nat->AH->Rs}{out:Ex×AH}(h:KR H o K=some out): ∃t,T.set 40 H.h H.next o=some t/\T.get H.h H.next=none/\K H.next ⟨t,H.next+1⟩=some out:=by
 unfold KR at h;split at h
 .rename_i hn;split at h
  .rename_i t ht;rw[yG]at h;exact⟨t,ht,hn,h⟩
  .simp at h
 .simp at h
theorem XB {A:Nat}{H:AH}{K:Option Code->AH->Rs}{out:Ex×AH}(h:uZ A H K=some out): ∃l H',H.h.get A=some (.loop l)/\l.state≠ .busy/\uH H A .dead=some H'/\K l.pending H'=some out:=by
 unfold uZ at h;split at h
 .rename_i l hA;split at h
  .simp at h
  .rename_i hb;split at h
   .rename_i H' hp;exact⟨l,H',hA,hb,hp,h⟩
   .simp at h
 .simp at h
theorem U2 {env:Env}{H:AH}{id:Nat}{out:Ex×AH} : ∀ {Bk:List (Nat×List Nat)},exS Bk env H id=some out->XP Bk out id env H
 | [],h=>by simp[exS]at h
 | (i,L)::r,h=>by
  simp only[exS,cond_eq_ite,Nat.beq_eq]at h;split at h
  .rename_i e;obtain⟨vs,h1,h2⟩:=j7 h;injection h2 with h2
   exact⟨L,vs,by simp[xE,e],h1,h2.symm⟩
  .rename_i e;obtain⟨L',vs,h1,h2,h3⟩:=U2 h;refine⟨L',vs, ?_,h2,h3⟩;simp only[xE,cond_eq_ite,Nat.beq_eq,if_neg e];exact h1
theorem zAF {env:Env} : ∀ {L:List Nat} {vs:List AV} {base:Env},PK env L vs-> ∀t,(t∈L->look (zN0 L vs base) t=look env t)/\(t∉L->look (zN0 L vs base) t=look base t)
 | [],vs,base,h,t=>by
  simp only[PK]at h;subst h;exact⟨fun h=>by simp at h,fun _=>rfl⟩
 | l::L,vs,base,⟨v,vs',e,hv,hp⟩,t=>by
  subst e;obtain⟨h1,h2⟩:=zAF (base:=upd base l v) hp t;simp only[zN0];refine⟨fun ht=> ?_,fun ht=> ?_⟩
  .by_cases htL:t∈L
   .exact h1 htL
   .rw[h2 htL];have:t=l:=by
              simp at ht;rcases ht with h | h
              .exact h
              .exact absurd h htL
    subst this;simp only[look,vC,if_true];exact hv.symm
  .simp only[List.mem_cons,not_or]at ht;rw[h2 ht.2];simp only[look,vC,if_neg ht.1]
theorem zMd {env:Env}{L:List Nat}{vs:List AV}(h:PK env L vs):Le (envL L vs) env:=by
 intro t x hx;obtain⟨h1,h2⟩:=zAF (base:=xN) h t;by_cases ht:t∈L
 .rw[<-h1 ht];exact hx
 .have:=h2 ht;simp only[envL]at hx;rw[this]at hx;simp[look,xN]at hx
theorem Rel.alloc_out {R:Ren}{H:AH}{w:World}(h:Rel R H w)(o:Obj):Rel R H (w.alloc o):=
 ⟨h.fn,h.inj,fun A b d c x r hx=>by rw[heap_alloc_old _ _ _ (h.lt _ _ _ _ r).1];exact h.obj A b d c x r hx,fun A b d c r=>by rw[yQ];exact⟨Nat.lt_succ_of_lt (h.lt _ _ _ _ r).1,(h.lt _ _ _ _ r).2⟩⟩
theorem Ext.alloc_out (R:Ren)(H:AH)(w:World)(o:Obj):Ext R H w R H (w.alloc o):=
 ⟨Sub.refl R,fun _ _ _ _ h=> .inl h,fun _ _ _ _ h=> .inl h,Nat.le_refl _,fun _ _ _=>rfl,rfl,rfl,rfl,by rw[yQ];omega,fun b hb _=>heap_alloc_old _ _ _ hb⟩
section
variable {P:Program}{B:Tb}{D:Dyn}(hX:Ok P B.X)(hr:Good P (rOf B D)){nt:Nat}{rs:List ResultVar}{f0:FuncId}{ro:Bool}
theorem XA {id:Nat}{k:List Item}{fr:Frame}{cs:List Frame}{w0 w:World}{tmps:Array Value}{ds:List Deferred}(hm:fr.mode= .run)(h:Steps P (lone fr cs w0) (lone { fr with tmps:=tmps,todo:= .inBlock id::k,defers:=ds} cs w)):
  Steps P (lone fr cs w0) (lone { fr with tmps:=tmps,todo:=k,defers:=ds} cs w):=
 h.trans (.one (W8 (fr:= { fr with tmps:=tmps,todo:= .inBlock id::k,defers:=ds}) hm rfl))
theorem zGT {id:Nat}{k k':List Item}{fr:Frame}{cs:List Frame}{w0 w:World}{tmps:Array Value}{ds:List Deferred}(hm:fr.mode= .run)(hk:exitTo id k'=some k)(h:Steps P (lone fr cs w0) (lone { fr with tmps:=tmps,todo:= .code (.exit id)::k',defers:=ds} cs w)):
  Steps P (lone fr cs w0) (lone { fr with tmps:=tmps,todo:=k,defers:=ds} cs w):=
 h.trans (.one (zEN (fr:= { fr with tmps:=tmps,todo:= .code (.exit id)::k',defers:=ds}) hm rfl hk))
include hX hr in
theorem YC {n:Nat} : ∀(c:Code) (h:Hint) (Bk:List (Nat×List Nat)) (K:Env->AH->Rs) (env:Env) (H:AH) (out:Ex×AH),yP P f0 nt c h->yI B D n nt rs f0 ro c h Bk K env H=some out->
  KY P nt f0 ro (.code c) env H (fun env' H'=>K env' H'=some out) (XP Bk out) (RP B.X rs out):=by
 intro c
 induction c with
 | skip=>
  intro h Bk K env H out hs hk lo R fr k cs w hm hro ht hE hL hM hlo;simp only[yI]at hk;exact⟨R,w,fr.tmps,k,fr.defers,env,H, .one (zEL hm ht),hE,hL,Ext.refl R H w,Nat.le_refl _,hM, .inl ⟨rfl,hk⟩⟩
 | label l=>
  intro h Bk K env H out hs hk lo R fr k cs w hm hro ht hE hL hM hlo;simp only[yI]at hk;exact⟨R,w,fr.tmps,k,fr.defers,env,H, .one (zIe hm ht),hE,hL,Ext.refl R H w,Nat.le_refl _,hM, .inl ⟨rfl,hk⟩⟩
 | region id ops draw=>
  intro h Bk K env H out hs hk;simp only[yI]at hk;exact zLj hX hr hk f0 ro _ _
 | seq a b iha ihb=>
  intro h Bk K env H out hs hk
  cases h with
  | s ha hb=>
   simp only[yI]at hk;intro lo R fr k cs w hm hro ht hE hL hM hlo;refine KY.step (W7 hm ht) rfl ?_;refine KY.then [.code b] (fun id k=>rfl) (iha ha Bk _ env H out hs.1 hk) (fun env1 H1 hmid lo R fr k cs w hm hro ht hE hL hM hlo=> ?_) lo R { fr with todo:= .code a:: .code b::k} k cs w hm hro rfl hE hL hM hlo;exact ihb hb Bk K env1 H1 out hs.2 hmid lo R fr k cs w hm hro ht hE hL hM hlo
  | t L m=>
   simp only[yI]at hk;obtain⟨vs,hp,hk⟩:=j7 hk;obtain⟨H',hm,hle,hk⟩:=zCk hk;intro lo R fr k cs w hmo hro ht hE hL hM hlo;obtain⟨R',w',t',td,ds,env',H'',a1,a2,a3,a4,a5,a6,a7⟩:=hs ro env vs H H' hp hm hle lo R fr k cs w hmo hro ht hE hL hM hlo;rcases a7 with⟨b1,b2,rfl⟩ | ⟨i,k',b1,b2,b3⟩ | ⟨k',b1,b2⟩
   .obtain⟨env'',c1,c2⟩:=YQ hk b2;exact⟨R',w',t',td,ds,env'',H'',a1,a2.le c2,a3,a4,a5,a6, .inl ⟨b1,c1⟩⟩
   .exact b3.elim
   .exact b2.elim
  | _=>simp[yI]at hk
 | cond c a b iha ihb=>
  intro h Bk K env H out hs hk
  cases h with
  | c L ha hb=>
   simp only[yI]at hk;split at hk
   .rename_i v hv;intro lo R fr k cs w hm hro ht hE hL hM hlo;have hvR:=yL hE _ _ hv;have key: ∀(t:Bool) (cc:Code) (hh:Hint),v= .bool t->cc=(if t then a else b)->
      (∀y,yI B D n nt rs f0 ro cc hh Bk (fun env H=>pck L env fun vs=>some (.norm vs,H)) env H=some y->KY P nt f0 ro (.code cc) env H (fun env' H'=>(pck L env' fun vs=>some (.norm vs,H'))=some y) (XP Bk y) (RP B.X rs y))->
      jn (yI B D n nt rs f0 ro cc hh Bk (fun env H=>pck L env fun vs=>some (.norm vs,H)) env H) (fun vs H=>unp L vs xN fun env=>K env H)=some out->
      ∃R' w' tmps' td ds env' H',Steps P (lone fr cs w) (lone { fr with tmps:=tmps',todo:=td,defers:=ds} cs w')/\EnvR R' env' nt tmps'/\Rel R' H' w'/\Ext R H w R' H' w'/\H.next<=H'.next/\Marks lo R' w' ds/\Ends k (fun env' H'=>K env' H'=some out) (XP Bk out) (RP B.X rs out) td env' H':=by
     intro t cc hh hvt hcc ih hj;subst hvt hcc;refine KY.step (d6 hm ht hvR) rfl ?_
     cases hy:yI B D n nt rs f0 ro (if t then a else b) hh Bk (fun env H=>pck L env fun vs=>some (.norm vs,H)) env H with
     | none=>rw[hy]at hj;simp[jn]at hj
     | some y=>
      rw[hy]at hj;obtain⟨R',w',t',td,ds,env',H',a1,a2,a3,a4,a5,a6,a7⟩:=ih y hy lo R { fr with todo:= .code (if t then a else b)::k} k cs w hm hro rfl hE hL hM hlo
      rcases a7 with⟨b1,b2⟩ | ⟨id,k',b1,b2,L',vs',b3,b4,b5⟩ | ⟨k',b1,b2⟩
      .obtain⟨vs,c1,c2⟩:=j7 b2;injection c2 with c2;subst c2
       obtain⟨env2,d1,d2⟩:=YQ hj c1;exact⟨R',w',t',td,ds,env2,H',a1,a2.le d2,a3,a4,a5,a6, .inl ⟨b1,d1⟩⟩
      .subst b5;simp only[jn,zC]at hj;exact⟨R',w',t',td,ds,env',H',a1,a2,a3,a4,a5,a6, .inr (.inl ⟨id,k',b1,b2,L',vs',b3,b4,hj.symm⟩)⟩
      .have hret:=wE b2;obtain⟨v,rfl⟩:=hret;simp only[jn,zC]at hj;subst hj;exact⟨R',w',t',td,ds,env',H',a1,a2,a3,a4,a5,a6, .inr (.inr ⟨k',b1,b2⟩)⟩
    have hk':=hk
    cases v with
    | bool t=>
     cases t with
     | true=>exact key true a ha rfl rfl (fun y hy=>iha ha Bk _ env H y hs.1 hy) hk
     | false=>exact key false b hb rfl rfl (fun y hy=>ihb hb Bk _ env H y hs.2 hy) hk
    | _=>simp[cnd,jn]at hk
   .simp at hk
  | cl ha hb=>
   simp only[yI]at hk;split at hk
   .rename_i v hv;intro lo R fr k cs w hm hro ht hE hL hM hlo;have hvR:=yL hE _ _ hv;rcases uM hk with⟨rfl,h1⟩ | ⟨rfl,h1⟩
    .refine KY.step (d6 hm ht hvR) rfl ?_;exact((iha ha Bk _ env H out hs.1 h1).mono (fun _ _ h=>by simp at h) (fun _ _ _ h=>h) (fun _ _ h=>h)) lo R { fr with todo:= .code a::k} k cs w hm hro rfl hE hL hM hlo
    .refine KY.step (d6 hm ht hvR) rfl ?_;exact ihb hb Bk _ env H out hs.2 h1 lo R { fr with todo:= .code b::k} k cs w hm hro rfl hE hL hM hlo
   .simp at hk
  | cr ha hb=>
   simp only[yI]at hk;split at hk
   .rename_i v hv;intro lo R fr k cs w hm hro ht hE hL hM hlo;have hvR:=yL hE _ _ hv;rcases uM hk with⟨rfl,h1⟩ | ⟨rfl,h1⟩
    .refine KY.step (d6 hm ht hvR) rfl ?_;exact iha ha Bk _ env H out hs.1 h1 lo R { fr with todo:= .code a::k} k cs w hm hro rfl hE hL hM hlo
    .refine KY.step (d6 hm ht hvR) rfl ?_;exact((ihb hb Bk _ env H out hs.2 h1).mono (fun _ _ h=>by simp at h) (fun _ _ _ h=>h) (fun _ _ h=>h)) lo R { fr with todo:= .code b::k} k cs w hm hro rfl hE hL hM hlo
   .simp at hk
  | _=>simp[yI]at hk
 | block id b ih=>
  intro h Bk K env H out hs hk
  cases h with
  | b L hb=>
   simp only[yI]at hk;intro lo R fr k cs w hm hro ht hE hL hM hlo;obtain⟨y,hy,hcases⟩:=zFP hk;refine KY.step (QZ hm ht) rfl ?_;obtain⟨R',w',t',td,ds,env',H',a1,a2,a3,a4,a5,a6,a7⟩:=ih hb _ _ env H y hs hy lo R { fr with todo:= .code b:: .inBlock id::k} (.inBlock id::k) cs w hm hro rfl hE hL hM hlo;rcases a7 with⟨b1,b2⟩ | ⟨i,k',b1,b2,L',vs',b3,b4,b5⟩ | ⟨k',b1,b2⟩
   .obtain⟨vs,c1,c2⟩:=j7 b2;injection c2 with c2;subst c2
    rcases hcases with⟨vs2,H2,e1,e2⟩ | ⟨vs2,H2,e1,_⟩ | ⟨i,vs2,H2,_,e1,_⟩ | ⟨v,H2,e1,_⟩
    .simp only[zK,Ex.norm.injEq]at e1;obtain⟨rfl,rfl⟩:=e1;obtain⟨env2,d1,d2⟩:=YQ e2 c1;subst b1;exact⟨R',w',t',k,ds,env2,H',XA (fr:= { fr with todo:= .code b:: .inBlock id::k}) hm a1,a2.le d2,a3,a4,a5,a6, .inl ⟨rfl,d1⟩⟩
    .simp at e1
    .simp at e1
    .simp at e1
   .subst b5;by_cases hi:i=id
    .subst hi;simp only[xE,Nat.beq_refl,cond_true,zC]at b3;subst b3;rcases hcases with⟨vs2,H2,e1,_⟩ | ⟨vs2,H2,e1,e2⟩ | ⟨j,vs2,H2,hne,e1,_⟩ | ⟨v,H2,e1,_⟩
     .simp at e1
     .simp only[zK,Ex.exit.injEq,true_and]at e1;obtain⟨rfl,rfl⟩:=e1;obtain⟨env2,d1,d2⟩:=YQ e2 b4;subst b1;have hex:exitTo i k'=some k:=by rw[b2];simp[exitTo]
      exact⟨R',w',t',k,ds,env2,H',zGT (fr:= { fr with todo:= .code b:: .inBlock i::k}) hm hex a1,a2.le d2,a3,a4,a5,a6, .inl ⟨rfl,d1⟩⟩
     .simp only[zK,Ex.exit.injEq]at e1;exact absurd e1.1.1.symm hne
     .simp at e1
    .have b3':xE Bk i=some L':=by
      simp only[xE,cond_eq_ite,Nat.beq_eq,if_neg (fun e=>hi (Eq.symm e))]at b3;exact b3
     have b2':exitTo i k'=exitTo i k:=by
      rw[b2];simp only[exitTo];rw[if_neg (by simpa using fun e=>hi (Eq.symm e))]
     rcases hcases with⟨vs2,H2,e1,_⟩ | ⟨vs2,H2,e1,_⟩ | ⟨j,vs2,H2,hne,e1,e2⟩ | ⟨v,H2,e1,_⟩
     .simp at e1
     .simp only[zK,Ex.exit.injEq]at e1;exact absurd e1.1.1 hi
     .exact⟨R',w',t',td,ds,env',H',a1,a2,a3,a4,a5,a6, .inr (.inl ⟨i,k',b1,b2',L',vs',b3',b4,e2⟩)⟩
     .simp at e1
   .have hret:=wE b2;obtain⟨v,rfl⟩:=hret;rcases hcases with⟨vs2,H2,e1,_⟩ | ⟨vs2,H2,e1,_⟩ | ⟨j,vs2,H2,hne,e1,_⟩ | ⟨v2,H2,e1,e2⟩
    .simp at e1
    .simp at e1
    .simp at e1
    .subst e2;exact⟨R',w',t',td,ds,env',H',a1,a2,a3,a4,a5,a6, .inr (.inr ⟨k',b1,b2⟩)⟩
  | b0 hb=>
   simp only[yI]at hk;intro lo R fr k cs w hm hro ht hE hL hM hlo;refine KY.step (QZ hm ht) rfl ?_;obtain⟨R',w',t',td,ds,env',H',a1,a2,a3,a4,a5,a6,a7⟩:=ih hb _ _ env H out hs hk lo R { fr with todo:= .code b:: .inBlock id::k} (.inBlock id::k) cs w hm hro rfl hE hL hM hlo;rcases a7 with⟨b1,b2⟩ | ⟨i,k',b1,b2,L',vs',b3,b4,b5⟩ | ⟨k',b1,b2⟩
   .subst b1;exact⟨R',w',t',k,ds,env',H',XA (fr:= { fr with todo:= .code b:: .inBlock id::k}) hm a1,a2,a3,a4,a5,a6, .inl ⟨rfl,b2⟩⟩
   .obtain⟨hi,b3'⟩:=zBA b3;have b2':exitTo i k'=exitTo i k:=by
     rw[b2];simp only[exitTo];rw[if_neg (by simpa using fun e=>hi (Eq.symm e))]
    exact⟨R',w',t',td,ds,env',H',a1,a2,a3,a4,a5,a6, .inr (.inl ⟨i,k',b1,b2',L',vs',b3',b4,b5⟩)⟩
   .exact⟨R',w',t',td,ds,env',H',a1,a2,a3,a4,a5,a6, .inr (.inr ⟨k',b1,b2⟩)⟩
  | _=>simp[yI]at hk
 | loop b ih=>
  intro h Bk K env H out hs hk
  cases h with
  | l L hb=>
   simp only[yI]at hk;obtain⟨vs0,hp0,hk⟩:=j7 hk;have key: ∀(m:Nat) (vs:List AV) (env:Env) (H:AH),PK env L vs->yJ m (fun vs H=>unp L vs xN fun env=>yI B D n nt rs f0 ro b hb Bk (fun env H=>pck L env fun vs=>some (.norm vs,H)) env H) vs H=some out->
     ∀(lo:Nat) (R:Ren) (fr:Frame) (k:List Item) (cs:List Frame) (w:World),fr.mode= .run->(ro=false->fr.roundOf=none/\fr.fn=f0)->fr.todo= .code b:: .inLoop b::k->EnvR R env nt fr.tmps->Rel R H w->Marks lo R w fr.defers->lo<=w.heap.size->
     ∃R' w' tmps' td ds env' H',Steps P (lone fr cs w) (lone { fr with tmps:=tmps',todo:=td,defers:=ds} cs w')/\EnvR R' env' nt tmps'/\Rel R' H' w'/\Ext R H w R' H' w'/\H.next<=H'.next/\Marks lo R' w' ds/\Ends k (fun env' H'=>K env' H'=some out) (XP Bk out) (RP B.X rs out) td env' H':=by
    intro m
    induction m with
    | zero=>intro vs env H _ hl;have hl':(none:Rs)=some out:=hl;simp at hl'
    | succ m ihm=>
     intro vs env H hp hl lo R fr k cs w hm hro ht hE hL hM hlo;have hl':jn (unp L vs xN fun env=>yI B D n nt rs f0 ro b hb Bk (fun env H=>pck L env fun vs=>some (.norm vs,H)) env H) (yJ m (fun vs H=>unp L vs xN fun env=>yI B D n nt rs f0 ro b hb Bk (fun env H=>pck L env fun vs=>some (.norm vs,H)) env H))=some out:=hl
     cases hy:(unp L vs xN fun env=>yI B D n nt rs f0 ro b hb Bk (fun env H=>pck L env fun vs=>some (.norm vs,H)) env H)with
     | none=>rw[hy]at hl';simp[jn]at hl'
     | some y=>
      rw[hy]at hl';obtain⟨env1,d1,d2⟩:=YQ hy hp;obtain⟨R',w',t',td,ds,env',H',a1,a2,a3,a4,a5,a6,a7⟩:=ih hb Bk _ env1 H y hs d1 lo R fr (.inLoop b::k) cs w hm hro ht (hE.le d2) hL hM hlo;rcases a7 with⟨b1,b2⟩ | ⟨i,k',b1,b2,L',vs',b3,b4,b5⟩ | ⟨k',b1,b2⟩
      .obtain⟨vs2,c1,c2⟩:=j7 b2;injection c2 with c2;subst c2
       subst b1;have hl2:yJ m (fun vs H=>unp L vs xN fun env=>yI B D n nt rs f0 ro b hb Bk (fun env H=>pck L env fun vs=>some (.norm vs,H)) env H) vs2 H'=some out:=hl';obtain⟨R2,w2,t2,td2,ds2,env2,H2,e1,e2,e3,e4,e5,e6,e7⟩:=ihm vs2 env' H' c1 hl2 lo R' { fr with tmps:=t',todo:= .code b:: .inLoop b::k,defers:=ds} k cs w' hm hro rfl a2 a3 a6 (Nat.le_trans hlo a4.size);have hstep:=Steps.one (BC (P:=P) (cs:=cs) (w:=w') (fr:= { fr with tmps:=t',todo:= .inLoop b::k,defers:=ds}) hm rfl);exact⟨R2,w2,t2,td2,ds2,env2,H2,a1.trans (hstep.trans e1),e2,e3,a4.trans e4,Nat.le_trans a5 e5,e6,e7⟩
      .subst b5;simp only[jn,zC]at hl';exact⟨R',w',t',td,ds,env',H',a1,a2,a3,a4,a5,a6, .inr (.inl ⟨i,k',b1,b2,L',vs',b3,b4,hl'.symm⟩)⟩
      .have hret:=wE b2;obtain⟨v,rfl⟩:=hret;simp only[jn,zC]at hl';subst hl';exact⟨R',w',t',td,ds,env',H',a1,a2,a3,a4,a5,a6, .inr (.inr ⟨k',b1,b2⟩)⟩
   intro lo R fr k cs w hm hro ht hE hL hM hlo;refine KY.step (zEM hm ht) rfl ?_;exact key n vs0 env H hp0 hk lo R { fr with todo:= .code b:: .inLoop b::k} k cs w hm hro rfl hE hL hM hlo
  | _=>simp[yI]at hk
 | exit id=>
  intro h Bk K env H out hs hk lo R fr k cs w hm hro ht hE hL hM hlo;simp only[yI]at hk;split at hk
  .rename_i L hL';obtain⟨vs,h1,h2⟩:=j7 hk;injection h2 with h2
   refine⟨R,w,fr.tmps,fr.todo,fr.defers,env,H, ?_,hE,hL,Ext.refl R H w,Nat.le_refl _,hM, .inr (.inl ⟨id,k,ht,rfl,L,vs,hL',h1,h2.symm⟩)⟩;exact .refl _ _
  .simp at hk
 | ret=>
  intro h Bk K env H out hs hk lo R fr k cs w hm hro ht hE hL hM hlo;simp only[yI]at hk;refine⟨R,w,fr.tmps,fr.todo,fr.defers,env,H, ?_,hE,hL,Ext.refl R H w,Nat.le_refl _,hM, .inr (.inr ⟨k,ht,hk⟩)⟩;exact .refl _ _
 | rangeFunc f params assign body _ _=>
  intro h Bk K env H out hs hk
  cases h with
  | rf s L=>
   simp only[yI,cond_eq_ite]at hk;split at hk
   .simp at hk
   .rename_i hrof;have hrof':ro=false:=by simpa using hrof
    split at hk
    .rename_i fv hfv;obtain⟨vs,hp,hk⟩:=j7 hk;obtain⟨t',hset,hnone,hk⟩:=zA1 hk;obtain⟨v,H2,hcall,hk⟩:=uN hk;obtain⟨lp,H3,hA2,hbusy,hput,hk⟩:=XB hk;unfold rfC at hcall;split at hcall
     .rename_i g first cap _ _
      intro lo R fr k cs w hm hro ht hE hL hM hlo;obtain⟨hno,hfr0⟩:=hro hrof';obtain⟨hnx,hsim⟩:=hr.call _ _ _ _ _ hcall;obtain⟨first',cap',hfe,hv1,hv2⟩:=yL hE _ _ hfv
      let LP:Loop:= { state:= .ready,pending:=none,fn:=fr.fn,tmps:=fr.tmps,params:=params,assign:=assign,body:=body,defers:=w.heap.size}
      let W1:World:=(w.alloc (.deferred (some []))).alloc (.loop LP)
      let FR1:Frame:= { fr with todo:= .inRangeFunc (w.heap.size+1)::k,defers:= { target:= .collected w.heap.size,args:= #[] } ::fr.defers}
      let R1:Ren:=R.add H.next (w.heap.size+1) 0 0
      have hLd:=hL.alloc_out (.deferred (some []));have hszd:(w.alloc (.deferred (some []))).heap.size=w.heap.size+1:=yQ _ _;have hR1:Rel R1 ⟨t',H.next+1⟩ W1:=by
       have:=hLd.new (c:=0) (x:= .loop LP) hset ⟨LP,nt,rfl,hs,rfl,rfl,hfr0,(hE.le (zMd hp)).mono (R.sub_add _ _ _ _)⟩;rw[hszd]at this;exact this
      have hx1:Ext R H w R1 ⟨t',H.next+1⟩ W1:=by
       have:=(Ext.alloc_out R H w (.deferred (some []))).trans (Ext.add (c:=0) (x:= .loop LP) hset);rw[hszd]at this;exact this
      have hRA:R1 H.next (w.heap.size+1) 0 0:=R.add_self _ _ _ _
      have hM1:Marks lo R1 W1 FR1.defers:=by
       have hMe:=hM.ext hx1;refine⟨List.pairwise_cons.2 ⟨fun q hq r e=> ?_,hMe.1⟩,fun q hq=> ?_⟩
       .obtain⟨r',e',_,h2,_,_⟩:=hM.2 q hq;rw[e'];intro e2;simp only[Deferred.mk.injEq,Target.collected.injEq,and_true]at e e2;omega
       .rcases List.mem_cons.1 hq with rfl | hq
        .refine⟨w.heap.size,rfl,hlo, ?_, ?_, ?_⟩
         .show w.heap.size<W1.heap.size;simp only[W1,yQ];omega
         .rintro A d c (h | ⟨_,h,_⟩)
          .have:=(hL.lt _ _ _ _ h).1;omega
          .omega
         .show((w.alloc (.deferred (some []))).alloc (.loop LP)).heap[w.heap.size]? =_;rw[heap_alloc_old _ _ _ (by rw[hszd];omega),vK]
        .exact hMe.2 q hq
      have hy1:VRL R1 [AV.yieldTo H.next] [Value.func (.yield (w.heap.size+1)) #[] #[]]:=⟨_,[],rfl,⟨_,_,_,hRA,rfl⟩,rfl⟩
      have hargs:VRL R1 (first++[AV.yieldTo H.next]++cap) ((first'++[Value.func (.yield (w.heap.size+1)) #[] #[]])++cap'):=
       ((VRL.mono hx1.sub _ _ hv1).append hy1).append (VRL.mono hx1.sub _ _ hv2)
      have hen:=run_enterLoop_outer (P:=P) (w:=w) fr.fn fr.tmps params assign body;have hres: ∀F:Frame,F.tmps=fr.tmps->(resolve F.eval { callee:= .value f,args:= #[.const (.func (.yield (w.heap.size+1)) #[] #[])],argTypes:= #[] } 0).run P ((w.alloc (.deferred (some []))).alloc (.loop { state:= .ready,pending:=none,fn:=fr.fn,tmps:=fr.tmps,params:=params,assign:=assign,body:=body,defers:=w.heap.size}))=
        .ok { target:= .fn (.func g) ⟨cap'⟩,args:=⟨first'++[Value.func (.yield (w.heap.size+1)) #[] #[]]⟩ } ((w.alloc (.deferred (some []))).alloc (.loop { state:= .ready,pending:=none,fn:=fr.fn,tmps:=fr.tmps,params:=params,assign:=assign,body:=body,defers:=w.heap.size})):=by
       intro F hF;have hev:F.eval f=fr.eval f:=by cases f<;>simp[Frame.eval,hF]
       have hfe':F.eval f= .func (.func g) ⟨first'⟩ ⟨cap'⟩:=hev.trans hfe
       have hc':F.eval (.const (.func (.yield (w.heap.size+1)) #[] #[]))= .func (.yield (w.heap.size+1)) #[] #[]:=rfl;simp[resolve,hfe',Deferred.ofValue,hc']
      have hinv: ∀w',(invoke (.fn (.func g) ⟨cap'⟩) ⟨first'++[Value.func (.yield (w.heap.size+1)) #[] #[]]⟩).run P w'=(callFunc g ⟨(first'++[Value.func (.yield (w.heap.size+1)) #[] #[]])++cap'⟩).run P w':=by
       intro w';have hea:(⟨first'++[Value.func (.yield (w.heap.size+1)) #[] #[]]⟩:Array Value)++⟨cap'⟩=⟨(first'++[Value.func (.yield (w.heap.size+1)) #[] #[]])++cap'⟩:=by
        apply Array.toList_inj.1;simp
       simp only[invoke,hea]
      have hreach: ∃R2 w2 z,Steps P (lone fr cs w) (lone { FR1 with todo:= .endRangeFunc (w.heap.size+1)::k} cs w2)/\VR R2 v z/\Rel R2 H2 w2/\Ext R1 ⟨t',H.next+1⟩ W1 R2 H2 w2:=by
       rcases hsim with⟨⟨fn,hfn,hbody⟩,hcl⟩ | hdir
       .have hstep1:step P (lone fr cs w)= .next (lone (Frame.enter P g ⟨(first'++[Value.func (.yield (w.heap.size+1)) #[] #[]])++cap'⟩ .normal) (FR1::cs) W1):=by
         refine step_lone_go ?_;have hnm:=hX.nm g fn hfn;have hb:fn.body.isNone=false:=by cases hh:fn.body<;>simp_all
         have hcf: ∀w',(callFunc g ⟨(first'++[Value.func (.yield (w.heap.size+1)) #[] #[]])++cap'⟩).run P w'= .ok (.enter g ⟨(first'++[Value.func (.yield (w.heap.size+1)) #[] #[]])++cap'⟩) w':=by
          intro w';simp only[callFunc,program,Sem.run_bind,Sem.run,Result.andThen,hfn,hnm,Bool.false_eq_true,if_false,hb,Sem.run_pure]
         simp only[stepG,stepG.exec,hm,ht,hno,Sem.runT_eq,hen,stepG.apply,Sem.run_bind];simp only[List.cons_append,List.nil_append,if_true];simp only[List.append_assoc,List.cons_append,List.nil_append]at hinv hcf⊢;simp[hres,hinv,hcf,FR1,W1,LP,hm,hno]
        obtain⟨R2,w2,z,fr',s2,f2,lv2,v2,l2,x2⟩:=hcl R1 _ (FR1::cs) W1 hargs hR1;have hstep2:step P (lone fr' (FR1::cs) w2)= .next (lone { FR1 with todo:= .endRangeFunc (w.heap.size+1)::k} cs w2):=step_leave_returned lv2
        exact⟨R2,w2,z,(Steps.one hstep1).trans (s2.trans (.one hstep2)),v2,l2,x2⟩
       .obtain⟨R2,w2,z,hrun,v2,l2,x2⟩:=hdir R1 _ W1 hargs hR1;have hstep1:step P (lone fr cs w)= .next (lone { FR1 with todo:= .endRangeFunc (w.heap.size+1)::k} cs w2):=by
         refine step_lone_go ?_;have hrun':(callFunc g ⟨(first'++[Value.func (.yield (w.heap.size+1)) #[] #[]])++cap'⟩).run P ((w.alloc (.deferred (some []))).alloc (.loop { state:= .ready,pending:=none,fn:=fr.fn,tmps:=fr.tmps,params:=params,assign:=assign,body:=body,defers:=w.heap.size}))= .ok (.value z) w2:=hrun
         simp only[stepG,stepG.exec,hm,ht,hno,Sem.runT_eq,hen,stepG.apply,Sem.run_bind];simp only[List.cons_append,List.nil_append,if_true];simp only[List.append_assoc,List.cons_append,List.nil_append]at hinv hrun';simp[hres,hinv,hrun',FR1,hm,hno,Frame.finish]
        exact⟨R2,w2,z, .one hstep1,v2,l2,x2⟩
      obtain⟨R2,w2,z,s2,v2,l2,x2⟩:=hreach;have hRA2:R2 H.next (w.heap.size+1) 0 0:=x2.sub _ _ _ _ hRA
      obtain⟨L2,nt2,hb2,_,hst2,hpe2,_,_⟩:=l2.obj _ _ _ _ _ hRA2 hA2;have hel:=run_endLoop (P:=P) hb2 (by rw[hst2];exact hbusy);have hstep3:step P (lone { FR1 with todo:= .endRangeFunc (w.heap.size+1)::k} cs w2)= .next (lone { FR1 with todo:=(lp.pending.map Item.code).toList++k} cs (wP w2 (w.heap.size+1) (.loop { L2 with state:= .exhausted}))):=by
       refine step_lone_go ?_;have hm':FR1.mode= .run:=hm;simp only[stepG,stepG.exec,hm',Sem.runT_eq,hel,hpe2];simp[World.putObj,wP]
      unfold uH at hput;split at hput
      .rename_i t3 ht3;simp only[zC]at hput;subst hput;have l3:=l2.put hRA2 ⟨_,hA2,trivial⟩ ht3 (x:= .loop { L2 with state:= .exhausted}) (o':= .dead) trivial;have x3:Ext R2 H2 w2 R2 ⟨t3,H2.next⟩ (wP w2 (w.heap.size+1) (.loop { L2 with state:= .exhausted})):=Ext.put hRA2 ht3
       have xall:=hx1.trans (x2.trans x3);have hMall:=(hM1.ext x2).ext x3;have hEall:EnvR R2 env nt fr.tmps:=hE.mono (hx1.sub.trans x2.sub);have hsteps:=s2.trans (Steps.one hstep3);have hnxt:H.next<=H2.next:=Nat.le_trans (Nat.le_succ _) hnx
       unfold zCQ at hk;split at hk
       .rename_i hj;rw[hj]at hsteps;exact⟨R2,_,fr.tmps,k,FR1.defers,env,_,hsteps,hEall,l3,xall,hnxt,hMall, .inl ⟨rfl,hk⟩⟩
       .rename_i id hj;rw[hj]at hsteps;exact⟨R2,_,fr.tmps, .code (.exit id)::k,FR1.defers,env,_,hsteps,hEall,l3,xall,hnxt,hMall, .inr (.inl ⟨id,k,rfl,rfl,U2 hk⟩)⟩
       .rename_i hj;rw[hj]at hsteps;exact⟨R2,_,fr.tmps, .code .ret::k,FR1.defers,env,_,hsteps,hEall,l3,xall,hnxt,hMall, .inr (.inr ⟨k,rfl,hk⟩)⟩
       .simp at hk
      .simp at hput
     .simp at hcall
    .simp at hk
  | _=>simp[yI]at hk
 | scope b _=>intro h Bk K env H out hs hk;simp[yI]at hk
 | goto l=>intro h Bk K env H out hs hk;simp[yI]at hk
 | refuse why=>intro h Bk K env H out hs hk;simp[yI]at hk
end
theorem Rel.wput_out {R:Ren}{H:AH}{w:World}(h:Rel R H w){r:Nat}{x:Obj}(hr: ∀A d c,¬R A r d c):Rel R H (wP w r x):=
 ⟨h.fn,h.inj,fun A b d c o ho hg=>by
  rw[kV _ _ _ _ (fun e=>by subst e;exact hr _ _ _ ho)];exact h.obj A b d c o ho hg,
  fun A b d c ho=>by rw[wB];exact h.lt A b d c ho⟩
theorem Ext.wput_above {R R':Ren}{H H':AH}{w0 w:World}(h:Ext R H w0 R' H' w){r:Nat}(x:Obj)(hr:w0.heap.size<=r):Ext R H w0 R' H' (wP w r x) where
 sub:=h.sub
 new:=h.new
 newA:=h.newA
 next:=h.next
 keepA:=h.keepA
 os:=h.os
 tape:=h.tape
 output:=h.output
 size:=by rw[wB];exact h.size
 keep b hb hR:=by rw[kV _ _ _ _ (by omega)];exact h.keep b hb hR
theorem Q9 {P:Program}{w0:World}{R0:Ren}{H0:AH}{cs:List Frame} : ∀(ds:List Deferred) (fr:Frame) (w:World) (R:Ren) (H:AH),fr.mode= .returning->fr.defers=ds->Marks w0.heap.size R w ds->Rel R H w->Ext R0 H0 w0 R H w->
  ∃w',Steps P (lone fr cs w) (lone { fr with defers:=[] } cs w')/\Rel R H w'/\Ext R0 H0 w0 R H w'
 | [],fr,w,R,H,hm,hd,_,hL,hx=>⟨w,by
   have:({ fr with defers:=[] } :Frame)=fr:=by rw[<-hd]
   rw[this];exact .refl _ _,hL,hx⟩
 | d::ds,fr,w,R,H,hm,hd,hM,hL,hx=>by
  obtain⟨r,rfl,h0,h1,h2,h3⟩:=hM.2 d (zH ..);have hrun:(Instr.takeDeferred r).run P w= .ok [] (wP w r (.deferred none)):=by
   simp[Instr.takeDeferred,getObj,setObj,Sem.run_bind,Sem.run,h3,wP,Result.andThen]
  have hstep:step P (lone fr cs w)= .next (lone { fr with defers:=ds} cs (wP w r (.deferred none))):=by
   refine step_lone_go ?_;simp[stepG,unwind,hm,hd,Sem.runT_eq,hrun]
  have hM':Marks w0.heap.size R (wP w r (.deferred none)) ds:=by
   refine⟨(List.pairwise_cons.1 hM.1).2,fun q hq=> ?_⟩;obtain⟨r',e,g0,g1,g2,g3⟩:=hM.2 q (zF _ hq);have hne:r'≠r:=fun e'=>by subst e';exact(List.pairwise_cons.1 hM.1).1 q hq r' rfl e
   exact⟨r',e,g0,by rw[wB];exact g1,g2,by rw[kV _ _ _ _ hne];exact g3⟩
  obtain⟨w',s1,s2,s3⟩:=Q9 ds { fr with defers:=ds} (wP w r (.deferred none)) R H hm rfl hM' (hL.wput_out h2) (hx.wput_above _ h0);exact⟨w',(Steps.one hstep).trans s1,s2,s3⟩
theorem UU: ∀ {k i:Nat} {vs:List AV} {env:Env} {K:Env->Rs} {out:Ex×AH},zML k i vs env K=some out->vs.length=k/\ ∃env',K env'=some out/\ ∀t,look env' t=if i<=t/\t<i+k then vs[t - i]? else look env t
 | 0,i,vs,env,K,out,h=>by
  simp only[zML,nl]at h;split at h
  .exact⟨rfl,env,h,fun t=>by rw[if_neg (by omega)]⟩
  .simp at h
 | k+1,i,vs,env,K,out,h=>by
  simp only[zML]at h;obtain⟨v,l,rfl,h1⟩:=JJ h;obtain⟨h2,env',h3,h4⟩:=UU h1;refine⟨by simp[h2],env',h3,fun t=> ?_⟩;rw[h4 t];by_cases e:t=i
  .subst e;rw[if_neg (by omega),if_pos (by omega)];simp[look,vC]
  .by_cases h5:i<=t/\t<i+(k+1)
   .rw[if_pos (by omega),if_pos h5,show t - i=(t - (i+1))+1 from by omega,List.getElem?_cons_succ]
   .rw[if_neg (by omega),if_neg h5];simp[look,vC,e]
theorem BO {X:Cx}{env:Env}{H:AH} : ∀(rs:List ResultVar) (G:List AV->Rs) (z:Ex×AH),zMR X rs env H G=some z-> ∃vs,gY X env H rs=some vs/\G vs=some z
 | [],G,z,h=>⟨[],rfl,h⟩
 | r::rs,G,z,h=>by
  simp only[zMR]at h;obtain⟨v,h1,h2⟩:=j8 h;obtain⟨vs,h3,h4⟩:=BO rs _ z h2;refine⟨v::vs, ?_,h4⟩;have:zCa X env H r=some v:=by
   cases r with
   | tmp t=>exact h1
   | cell a t=>
    simp only[resE]at h1;obtain⟨p,hp,hl⟩:=jM h1;exact dW hp (V1 hl)
  simp only[gY,this,h3]
section
variable {P:Program}{X:Cx}(hX:Ok P X)
include hX in
theorem WC {R:Ren}{H:AH}{w:World}(hL:Rel R H w){env:Env}{nt:Nat}{tmps:Array Value}(hE:EnvR R env nt tmps): ∀(rs:List ResultVar) (vs:List AV),gY X env H rs=some vs->
  ∃zs:List Value,(rs.mapM (fun | .tmp t=>pure (tmps.getD t undef) | .cell a t=>do loadVar t (← asAddr (tmps.getD a undef)):ResultVar->Sem Value)).run P w= .ok zs w/\VRL R vs zs
 | [],vs,h=>by simp only[gY,zC]at h;subst h;exact⟨[],rfl,rfl⟩
 | r::rs,vs,h=>by
  simp only[gY]at h;split at h
  .rename_i v hv;split at h
   .rename_i vs' hvs;simp only[zC]at h;subst h;obtain⟨zs,h1,h2⟩:=WC hL hE rs vs' hvs;have hone: ∃z,(match r with | .tmp t=>pure (tmps.getD t undef) | .cell a t=>do loadVar t (← asAddr (tmps.getD a undef)):Sem Value).run P w= .ok z w/\VR R v z:=by
     cases r with
     | tmp t=>exact⟨_,rfl,hE.get t v hv⟩
     | cell a t=>
      simp only[zCa]at hv;unfold b1 at hv;split at hv
      .rename_i p hpl;have hp:=hE.get a p hpl;obtain⟨z,h3,h4⟩:=zDu (P:=P) hX hL hv hp;refine⟨z, ?_,h4⟩
       cases p with
       | ptr A off=>
        obtain⟨b,d,c,hr,e⟩:=hp;show(do loadVar t (← asAddr (tmps.getD a undef)):Sem Value).run P w= .ok z w
        rw[e]at h3⊢;simp only[Instr.loadAt,Instr.sureAddr,Sem.run_bind,Sem.run_pure,Result.andThen]at h3;simp only[asAddr,Sem.run_bind,Sem.run_pure,Result.andThen];exact h3
       | _=>simp[KG]at hv
      .simp at hv
    obtain⟨z,hz1,hz2⟩:=hone;refine⟨z::zs, ?_,z,zs,rfl,hz2,h2⟩;rw[List.mapM_cons];simp only[Sem.run_bind,hz1,Result.andThen,h1];rfl
   .simp at h
  .simp at h
end
theorem zKP {R:Ren}{vs:List AV}{zs:List Value}(h:VRL R vs zs):VR R (tupV vs) (if h:zs.toArray.size=1 then zs.toArray[0]else .tuple zs.toArray):=by
 unfold tupV;split
 .rename_i v;obtain⟨z,zs',rfl,h1,h2⟩:=h;simp only[VRL]at h2;subst h2;simpa using h1
 .rename_i hne;have hl:=VRL.length _ _ h;have: ¬zs.toArray.size=1:=by
   intro h1;simp only[List.size_toArray]at h1;rw[hl]at h1
   match vs,h1 with
   | [x],_=>exact hne x rfl
  rw[dif_neg this];exact⟨zs,rfl,h⟩
section
variable {P:Program}{B:Tb}{D:Dyn}(hr:Good P (rOf B D)){nt:Nat}{rs:List ResultVar}{f0:FuncId}{ro:Bool}
include hr in
theorem zF6 {ops:Array Oper}{draw:Bool}{K:Env->AH->Rs}{env:Env}{H:AH}{out:Ex×AH}(hK: ∀e H',K e H'=some out->H'.next<=out.2.next)(h:zMS B D nt ops draw K env H=some out):H.next<=out.2.next:=by
 unfold zMS at h;rw[cond_eq_ite]at h;split at h
 .split at h
  .rename_i row masks hplan;obtain⟨es,envF,HF,env',c1,c2,c3,c4,c5⟩:=wW _ row [] env H env [] h (Le.refl env) (fun ms hms=>by intro a ha;simp at ha);exact Nat.le_trans (jG hr.mono c1).1 (hK _ _ c4)
  .simp at h
 .obtain⟨es,envF,HF,env',c1,c2,c3,c4,_⟩:=wW _ _ [] env H env [] h (Le.refl env) (fun ms hms=>by simp at hms);exact Nat.le_trans (jG hr.mono c1).1 (hK _ _ c4)
theorem bE: ∀ {L:List Nat} {vs:List AV} {base:Env} {K:Env->Rs} {out:Ex×AH},unp L vs base K=some out-> ∃env',K env'=some out
 | [],vs,base,K,out,h=>⟨base,h⟩
 | l::L,vs,base,K,out,h=>by
  simp only[unp]at h;obtain⟨v,l',rfl,h1⟩:=JJ h;exact bE h1
theorem gP {L:List Nat}{env:Env}{H:AH}{y:Ex×AH}(h:(pck L env fun vs=>some (.norm vs,H))=some y):H.next<=y.2.next:=by
 obtain⟨vs,_,h2⟩:=j7 h;injection h2 with h2;rw[<-h2];exact Nat.le_refl _
include hr in
theorem Q0 {n:Nat} : ∀(c:Code) (h:Hint) (Bk:List (Nat×List Nat)) (K:Env->AH->Rs) (env:Env) (H:AH) (out:Ex×AH),(∀e H',K e H'=some out->H'.next<=out.2.next)->yI B D n nt rs f0 ro c h Bk K env H=some out->H.next<=out.2.next:=by
 intro c
 induction c with
 | skip=>intro h Bk K env H out hK hk;simp only[yI]at hk;exact hK _ _ hk
 | label l=>intro h Bk K env H out hK hk;simp only[yI]at hk;exact hK _ _ hk
 | region id ops draw=>intro h Bk K env H out hK hk;simp only[yI]at hk;exact zF6 hr hK hk
 | seq a b iha ihb=>
  intro h Bk K env H out hK hk
  cases h with
  | s ha hb=>simp only[yI]at hk;exact iha ha Bk _ env H out (fun e H' h=>ihb hb Bk K e H' out hK h) hk
  | t L m=>
   simp only[yI]at hk;obtain⟨vs,_,hk⟩:=j7 hk;obtain⟨H',_,hle,hk⟩:=zCk hk;obtain⟨env',hk⟩:=bE hk;exact Nat.le_trans hle (hK _ _ hk)
  | _=>simp[yI]at hk
 | cond c a b iha ihb=>
  intro h Bk K env H out hK hk
  cases h with
  | c L ha hb=>
   simp only[yI]at hk;split at hk
   .have key: ∀y,(yI B D n nt rs f0 ro a ha Bk (fun env H=>pck L env fun vs=>some (.norm vs,H)) env H=some y\/yI B D n nt rs f0 ro b hb Bk (fun env H=>pck L env fun vs=>some (.norm vs,H)) env H=some y)->H.next<=y.2.next:=by
     rintro y (h1 | h1)
     .exact iha ha Bk _ env H y (fun e H' h=>gP h) h1
     .exact ihb hb Bk _ env H y (fun e H' h=>gP h) h1
    rcases VP hk with⟨vs,H1,h1,h2⟩ | ⟨id,vs,H1,h1,rfl⟩ | ⟨v,H1,h1,rfl⟩
    .have h3:=key _ (by rcases uM h1 with⟨_,h⟩ | ⟨_,h⟩;exact .inl h;exact .inr h);obtain⟨env',h4⟩:=bE h2;exact Nat.le_trans h3 (hK _ _ h4)
    .exact key _ (by rcases uM h1 with⟨_,h⟩ | ⟨_,h⟩;exact .inl h;exact .inr h)
    .exact key _ (by rcases uM h1 with⟨_,h⟩ | ⟨_,h⟩;exact .inl h;exact .inr h)
   .simp at hk
  | cl ha hb=>
   simp only[yI]at hk;split at hk
   .rcases uM hk with⟨_,h1⟩ | ⟨_,h1⟩
    .exact iha ha Bk _ env H out (fun _ _ h=>by simp at h) h1
    .exact ihb hb Bk _ env H out hK h1
   .simp at hk
  | cr ha hb=>
   simp only[yI]at hk;split at hk
   .rcases uM hk with⟨_,h1⟩ | ⟨_,h1⟩
    .exact iha ha Bk _ env H out hK h1
    .exact ihb hb Bk _ env H out (fun _ _ h=>by simp at h) h1
   .simp at hk
  | _=>simp[yI]at hk
 | block id b ih=>
  intro h Bk K env H out hK hk
  cases h with
  | b L hb=>
   simp only[yI]at hk;obtain⟨y,hy,hc⟩:=zFP hk;have h1:=ih hb _ _ env H y (fun e H' h=>gP h) hy;rcases hc with⟨vs,H2,rfl,e2⟩ | ⟨vs,H2,rfl,e2⟩ | ⟨i,vs,H2,_,rfl,rfl⟩ | ⟨v,H2,rfl,rfl⟩
   .obtain⟨env',h4⟩:=bE e2;exact Nat.le_trans h1 (hK _ _ h4)
   .obtain⟨env',h4⟩:=bE e2;exact Nat.le_trans h1 (hK _ _ h4)
   .exact h1
   .exact h1
  | b0 hb=>simp only[yI]at hk;exact ih hb _ _ env H out hK hk
  | _=>simp[yI]at hk
 | loop b ih=>
  intro h Bk K env H out hK hk
  cases h with
  | l L hb=>
   simp only[yI]at hk;obtain⟨vs0,_,hk⟩:=j7 hk;have key: ∀(m:Nat) (vs:List AV) (H:AH),yJ m (fun vs H=>unp L vs xN fun env=>yI B D n nt rs f0 ro b hb Bk (fun env H=>pck L env fun vs=>some (.norm vs,H)) env H) vs H=some out->H.next<=out.2.next:=by
    intro m
    induction m with
    | zero=>intro vs H hl;have hl':(none:Rs)=some out:=hl;simp at hl'
    | succ m ihm=>
     intro vs H hl;have hl':jn (unp L vs xN fun env=>yI B D n nt rs f0 ro b hb Bk (fun env H=>pck L env fun vs=>some (.norm vs,H)) env H) (yJ m (fun vs H=>unp L vs xN fun env=>yI B D n nt rs f0 ro b hb Bk (fun env H=>pck L env fun vs=>some (.norm vs,H)) env H))=some out:=hl;rcases VP hl' with⟨vs,H1,h1,h2⟩ | ⟨id,vs,H1,h1,rfl⟩ | ⟨v,H1,h1,rfl⟩
     .obtain⟨env',h4⟩:=bE h1;exact Nat.le_trans (ih hb Bk _ env' H _ (fun e H' h=>gP h) h4) (ihm vs H1 h2)
     .obtain⟨env',h4⟩:=bE h1;exact ih hb Bk _ env' H _ (fun e H' h=>gP h) h4
     .obtain⟨env',h4⟩:=bE h1;exact ih hb Bk _ env' H _ (fun e H' h=>gP h) h4
   exact key n vs0 H hk
  | _=>simp[yI]at hk
 | exit id=>
  intro h Bk K env H out hK hk;simp only[yI]at hk;split at hk
  .obtain⟨vs,_,h2⟩:=j7 hk;injection h2 with h2;rw[<-h2];exact Nat.le_refl _
  .simp at hk
 | ret=>
  intro h Bk K env H out hK hk;simp only[yI]at hk;obtain⟨v,e⟩:=wE hk;rw[e];exact Nat.le_refl _
 | rangeFunc f params assign body _ _=>
  intro h Bk K env H out hK hk
  cases h with
  | rf s L=>
   simp only[yI,cond_eq_ite]at hk;split at hk
   .simp at hk
   .split at hk
    .obtain⟨vs,_,hk⟩:=j7 hk;obtain⟨t',_,_,hk⟩:=zA1 hk;obtain⟨v,H2,hcall,hk⟩:=uN hk;obtain⟨lp,H3,hA2,_,hput,hk⟩:=XB hk;have h1:H.next+1<=H2.next:=by
      unfold rfC at hcall;split at hcall
      .exact(hr.call _ _ _ _ _ hcall).1
      .simp at hcall
     have h2:=jW hput;have h3:H3.next<=out.2.next:=by
      unfold zCQ at hk;split at hk
      .exact hK _ _ hk
      .obtain⟨L',vs',_,_,e⟩:=U2 hk;rw[e];exact Nat.le_refl _
      .obtain⟨v,e⟩:=wE hk;rw[e];exact Nat.le_refl _
      .simp at hk
     omega
    .simp at hk
  | _=>simp[yI]at hk
 | scope b _=>intro h Bk K env H out _ hk;simp[yI]at hk
 | goto l=>intro h Bk K env H out _ hk;simp[yI]at hk
 | refuse why=>intro h Bk K env H out _ hk;simp[yI]at hk
end
section
variable {P:Program}{B:Tb}{D:Dyn}(hX:Ok P B.X)(hr:Good P (rOf B D))
include hX hr in
theorem zG3 {f:FuncId}{fn:Func}(hfn:P.funcs[f]? =some fn){n:Nat}{hint:Hint}(hsites: ∀body,fn.body=some body->yP P f fn.ntmps body hint){args:List AV}{H H':AH}{v:AV}(h:zMY B D n f fn hint args H=some (v,H')):H.next<=H'.next/\zMH P f args H v H':=by
 unfold zMY at h;split at h
 .rename_i body hbody;rw[cond_eq_ite]at h;split at h
  .rename_i hle;rw[qA]at hle;unfold fF at h;split at h
   .rename_i v' H1 hc;simp only[zC,zK]at h;obtain⟨rfl,rfl⟩:=h;obtain⟨hlen,env,hk,hlk⟩:=UU hc;have hS:=YC hX hr body hint [] _ env H _ (hsites body hbody) hk;have main: ∀(R:Ren) (az:List Value) (cs:List Frame) (w:World),VRL R args az->Rel R H w->H.next<=H1.next/\
      ∃R' w' z fr',Steps P (lone (Frame.enter P f ⟨az⟩ .normal) cs w) (lone fr' cs w')/\fr'.fn=f/\fr'.leaving P w' (.returned z)/\VR R' v' z/\Rel R' H1 w'/\Ext R H w R' H1 w':=by
     intro R az cs w hv hL;have hlas:=VRL.length _ _ hv;have hE:EnvR R env fn.ntmps (Frame.enter P f ⟨az⟩ .normal).tmps:=by
      have htm:(Frame.enter P f ⟨az⟩ .normal).tmps=(⟨az⟩:Array Value)++Array.replicate (fn.ntmps - az.length) undef:=by
       simp[Frame.enter,hfn]
      rw[htm];refine⟨by simp;omega,fun t x hx=> ?_,fun t ht=> ?_⟩
      .rw[hlk t]at hx;split at hx
       .rename_i htk;rw[Nat.sub_zero]at hx;obtain⟨z,hz1,hz2⟩:=VRL.get _ _ hv t x hx;have hta:t<az.length:=by omega
        rw[Array.getD_eq_getD_getElem?,Array.getElem?_append_left (by simpa using hta)];have:(⟨az⟩:Array Value)[t]? =some z:=by simpa using hz1
        rw[this];exact hz2
       .simp[look,xN]at hx
      .rw[hlk t,if_neg (by omega)];rfl
     have htd:(Frame.enter P f ⟨az⟩ .normal).todo= .code body::[]:=by simp[Frame.enter,hfn,hbody]
     obtain⟨R1,w1,t1,td1,ds1,env1,H2,s1,e1,l1,x1,n1,m1,o1⟩:=hS w.heap.size R (Frame.enter P f ⟨az⟩ .normal) [] cs w rfl (fun _=>⟨rfl,rfl⟩) htd hE hL (Marks.nil _ _ _) (Nat.le_refl _);have hfin: ∃fr':Frame,Steps P (lone (Frame.enter P f ⟨az⟩ .normal) cs w) (lone fr' cs w1)/\fr'.fn=f/\fr'.mode= .returning/\fr'.defers=ds1/\fr'.kind= .normal/\fr'.tmps=t1/\zIm B.X fn.results.toList env1 H2=some (.ret v',H1):=by
      rcases o1 with⟨rfl,b2⟩ | ⟨id,k',b1,b2,L,vs,b3,_⟩ | ⟨k',rfl,b2⟩
      .exact⟨_,s1.trans (.one (zNl (fr:= { Frame.enter P f ⟨az⟩ .normal with tmps:=t1,todo:=[],defers:=ds1}) rfl rfl rfl)),rfl,rfl,rfl,rfl,rfl,b2⟩
      .simp[xE]at b3
      .exact⟨_,s1.trans (.one (zNk (fr:= { Frame.enter P f ⟨az⟩ .normal with tmps:=t1,todo:= .code .ret::k',defers:=ds1}) rfl rfl rfl)),rfl,rfl,rfl,rfl,rfl,b2⟩
     obtain⟨fr',hs,f1,f2,f3,f4,f5,hret⟩:=hfin;obtain⟨vs,hvs,hg⟩:=BO _ _ _ hret;simp only[zC,zK,Ex.ret.injEq]at hg;obtain⟨rfl,rfl⟩:=hg;obtain⟨w2,u1,u2,u3⟩:=Q9 (P:=P) (cs:=cs) ds1 fr' w1 R1 H2 f2 f3 m1 l1 x1;obtain⟨zs,z1,z2⟩:=WC hX u2 e1 _ _ hvs;refine⟨n1,R1,w2,_, { fr' with defers:=[] },hs.trans u1,f1,⟨f2,rfl,f4,fn,by rw[f1];exact hfn, ?_⟩,zKP z2,u2,u3⟩;simp only[f5,results,Array.mapM_eq_mapM_toList,Sem.run_bind,Sem.run_map]
     erw[z1]
     rfl
    refine⟨?_,⟨fn,hfn,by simp[hbody]⟩,fun R az cs w hv hL=>(main R az cs w hv hL).2⟩;exact Q0 hr body hint [] _ env H _ (fun e H' hh=>by obtain⟨v,e⟩:=wE hh;rw[e];exact Nat.le_refl _) hk
   .simp at h
  .simp at h
 .simp at h
include hX hr in
end
theorem zEp {L:List Nat}{vs:List AV}{base:Env}{K:Env->Rs}{out:Ex×AH}(h:unp L vs base K=some out):K (zN0 L vs base)=some out:=by
 induction L generalizing vs base with
 | nil=>cases vs<;>exact h
 | cons l L ih=>
  simp only[unp]at h;obtain⟨v,l',rfl,h1⟩:=JJ h;exact ih h1
theorem zEq {nt:Nat}{R:Ren} : ∀ {ps:List Nat} {az:List AV} {env:Env} {K:Env->Rs} {out:Ex×AH} {vs:List Value} {tmps:Array Value},zI6 nt ps az env K=some out->VRL R az vs->EnvR R env nt tmps->
  vs.length=ps.length/\ ∃env',K env'=some out/\EnvR R env' nt ((ps.zip vs).foldl (fun tmps (x:Nat×Value)=>tmps.setIfInBounds x.1 x.2) tmps)
 | [],az,env,K,out,vs,tmps,h,hv,hE=>by
  simp only[zI6,nl]at h;split at h
  .simp only[VRL]at hv;subst hv;exact⟨rfl,env,h,hE⟩
  .simp at h
 | p::ps,az,env,K,out,vs,tmps,h,hv,hE=>by
  simp only[zI6]at h;obtain⟨a,az',rfl,h1⟩:=JJ h;obtain⟨v,vs',rfl,h2,h3⟩:=hv;rw[cond_eq_ite]at h1;split at h1
  .rename_i hlt;have hE1:EnvR R (upd env p a) nt (tmps.setIfInBounds p v):=hE.put (dst:=some p) h2 (by simp only[KM,hlt,cond_true]);obtain⟨i1,env',i2,i3⟩:=zEq h1 h3 hE1;exact⟨by simp[i1],env',i2,i3⟩
  .simp at h1
theorem zCi {nt:Nat} : ∀ {ps:List Nat} {az:List AV} {env:Env} {K:Env->Rs} {out:Ex×AH},zI6 nt ps az env K=some out-> ∃env',K env'=some out
 | [],az,env,K,out,h=>by
  simp only[zI6,nl]at h;split at h
  .exact⟨env,h⟩
  .simp at h
 | p::ps,az,env,K,out,h=>by
  simp only[zI6]at h;obtain⟨a,az',rfl,h1⟩:=JJ h;rw[cond_eq_ite]at h1;split at h1
  .exact zCi h1
  .simp at h1
theorem KA {A:Nat}{H:AH}{K:AH->Rs}{out:Ex×AH}(h:uD A H K=some out): ∃l H',H.h.get A=some (.loop l)/\l.state= .ready/\uH H A (.loop { l with state:= .busy})=some H'/\K H'=some out:=by
 unfold uD at h;split at h
 .rename_i l hA;split at h
  .rename_i hs;split at h
   .rename_i H' hp;exact⟨l,H',hA,hs,hp,h⟩
   .simp at h
  .simp at h
 .simp at h
def stOf:Option Code->LoopState
 | none=> .ready
 | some _=> .done
theorem zAG {A:Nat}{j:Option Code}{H H':AH}{v:AV}(h:U4 A j H=some (v,H')): ∃l,H.h.get A=some (.loop l)/\uH H A (.loop { l with state:=stOf j,pending:=j})=some H'/\v= .bool j.isNone:=by
 unfold U4 at h;split at h
 .rename_i l hA;split at h
  .split at h
   .rename_i H1 hp;simp only[zC,zK]at h;obtain⟨rfl,rfl⟩:=h;exact⟨l,hA,hp,rfl⟩
   .simp at h
  .split at h
   .rename_i H1 hp;simp only[zC,zK]at h;obtain⟨rfl,rfl⟩:=h;exact⟨l,hA,hp,rfl⟩
   .simp at h
 .simp at h
def Leaves (td:List Item):Option Code->Prop
 | none=>td=[]
 | some (.exit id)=> ∃k,td= .code (.exit id)::k/\exitTo id k=none
 | some .ret=> ∃k,td= .code .ret::k
 | some _=>False
theorem zDV {P:Program}{F fr:Frame}{cs:List Frame}{w w':World}{b:Nat}{j:Option Code}{v:Value}(hm:F.mode= .run)(hk:F.kind= .normal)(hb:F.roundOf=some b)(ht:Leaves F.todo j)(hr:(Instr.endRound b j).run P w= .ok v w'):
  Go.step P (lone F (fr::cs) w)= .next (lone (fr.finish v) cs w'):=by
 refine step_lone_go ?_
 cases j with
 | none=>
  simp only[Leaves]at ht;simp[stepG,stepG.exec,hm,ht,hb,Sem.runT_eq,hr,doReturn,hk]
 | some c=>
  cases c<;>simp only[Leaves]at ht
  .obtain⟨k,ht,he⟩:=ht;simp[stepG,stepG.exec,hm,ht,hb,he,Sem.runT_eq,hr,doReturn,hk]
  .obtain⟨k,ht⟩:=ht;simp[stepG,stepG.exec,hm,ht,hb,Sem.runT_eq,hr,doReturn,hk]
section
variable {P:Program}{B:Tb}{D:Dyn}(hX:Ok P B.X)(hr:Good P (rOf B D))
theorem Rel.loopAt {R:Ren}{H:AH}{w:World}(h:Rel R H w){A b d c:Nat}{l:ALoop}(hA:H.h.get A=some (.loop l))(hR:R A b d c):
  ∃(L:Loop) (nt:Nat),w.heap[b]? =some (.loop L)/\VA l.fn l.site=some (nt,L.params,L.assign,L.body)/\L.state=l.state/\L.pending=l.pending/\L.fn=l.fn/\EnvR R (envL l.live l.vals) nt L.tmps:=h.obj A b d c _ hR hA
theorem Rel.loopPut {R:Ren}{H H':AH}{w:World}(h:Rel R H w){A b d c:Nat}{l:ALoop}(hA:H.h.get A=some (.loop l))(hR:R A b d c){st:LoopState}{pe:Option Code}(hp:uH H A (.loop { l with state:=st,pending:=pe})=some H'){L:Loop}(hb:w.heap[b]? =some (.loop L)):
  Rel R H' (wP w b (.loop { L with state:=st,pending:=pe}))/\Ext R H w R H' (wP w b (.loop { L with state:=st,pending:=pe})):=by
 obtain⟨L',nt,hb',h1,h2,h3,h4,h5⟩:=h.loopAt hA hR;rw[hb]at hb';injection hb' with hb';injection hb' with hb';subst hb'
 unfold uH at hp;split at hp
 .rename_i t' ht';simp only[zC]at hp;subst hp;exact⟨h.put hR ⟨_,hA,trivial⟩ ht' ⟨_,nt,rfl,h1,rfl,rfl,h4,h5⟩,Ext.put hR ht'⟩
 .simp at hp
theorem zGV {A:Nat}{x:Rs}{v:AV}{H':AH}(h:zMe A x=some (v,H')): ∃y,x=some y/\((∃vs,y.1= .norm vs/\U4 A none y.2=some (v,H'))\/(∃id vs,y.1= .exit id vs/\U4 A (some (.exit id)) y.2=some (v,H'))\/(∃u,y.1= .ret u/\U4 A (some .ret) y.2=some (v,H'))):=by
 unfold zMe at h;split at h
 .exact⟨_,rfl, .inl ⟨_,rfl,h⟩⟩
 .exact⟨_,rfl, .inr (.inl ⟨_,_,rfl,h⟩)⟩
 .exact⟨_,rfl, .inr (.inr ⟨_,rfl,h⟩)⟩
 .simp at h
theorem zGU {A:Nat}{j:Option Code}{H H':AH}{v:AV}(h:U4 A j H=some (v,H')):H'.next=H.next:=by
 obtain⟨l,_,hp,_⟩:=zAG h;exact jW hp
include hX hr in
theorem zLg {n:Nat}{f0:FuncId}{s:Nat}{L ids:List Nat}{ha hb:Hint}(hsites: ∀nt ps asg body,VA f0 s=some (nt,ps,asg,body)->yP P f0 nt asg ha/\yP P f0 nt body hb){A:Nat}{l:ALoop}{az:List AV}{H H':AH}{v:AV}
  (hA:H.h.get A=some (.loop l)) (hf:l.fn=f0) (hs:l.site=s) (h:zMQ B D n f0 s L ids ha hb A l az H=some (v,H')):zBd P A az H v H':=by
 unfold zMQ at h;split at h
 .rename_i nt ps asg body hsite;obtain⟨hsa,hsb⟩:=hsites _ _ _ _ hsite;unfold rdK at h;rw[cond_eq_ite]at h;split at h
  .rename_i hLL;obtain rfl:=dP _ _ hLL;obtain⟨y,hy,hcase⟩:=zGV h;have hnxt:H.next<=H'.next:=by
    have h1:H.next<=y.2.next:=by
     have hy1:=zEp hy;obtain⟨env',hy2⟩:=zCi hy1;refine Q0 hr asg ha [] _ env' H y (fun e H1 hk=> ?_) hy2;obtain⟨l1,H2,_,_,hp,hk2⟩:=KA hk;rw[<-jW hp];exact Q0 hr body hb _ _ e H2 y (fun e H3 hk3=>by injection hk3 with hk3;rw[<-hk3];exact Nat.le_refl _) hk2
    rcases hcase with⟨vs,_,he⟩ | ⟨id,vs,_,he⟩ | ⟨u,_,he⟩<;>rw[zGU he]<;>exact h1
   refine⟨hnxt,fun R as' fr cs w b d c hRA hargs hL=> ?_⟩;obtain⟨Lr,nt',hb0,hsite',hst0,hpe0,hfn0,hE0⟩:=hL.loopAt hA hRA;rw[hf,hs,hsite]at hsite';simp only[zC,zK]at hsite';obtain⟨rfl,hps,hasg,hbody⟩:=hsite';obtain⟨hlen,env1,hy1,hE1⟩:=zEq (zEp hy) hargs hE0;refine⟨Lr,hb0,by rw[hlen,<-hps];simp, ?_⟩;have hfold:((Lr.params.zip as'.toArray).foldl (fun tmps (t,a)=>tmps.setIfInBounds t a) Lr.tmps)=((ps.toList.zip as').foldl (fun tmps (x:Nat×Value)=>tmps.setIfInBounds x.1 x.2) Lr.tmps):=by
    rw[<-hps,<-Array.foldl_toList];simp only[Array.toList_zip]
   rw[hfold,hfn0,hf,<-hasg,<-hbody];have hS1:=YC hX hr asg ha [] _ env1 H y hsa hy1;obtain⟨R1,w1,t1,td1,ds1,env2,H1,s1,e1,l1,x1,n1,m1,o1⟩:=hS1 w.heap.size R (Frame.round b f0 ((ps.toList.zip as').foldl (fun tmps (x:Nat×Value)=>tmps.setIfInBounds x.1 x.2) Lr.tmps) asg body .normal) [.beginRound, .code body] (fr::cs) w rfl (fun h=>by simp at h) rfl hE1 hL (Marks.nil _ _ _) (Nat.le_refl _);have fin: ∀(R2:Ren) (w2:World) (H2:AH) (F:Frame) (j:Option Code),Steps P (lone (Frame.round b f0 ((ps.toList.zip as').foldl (fun tmps (x:Nat×Value)=>tmps.setIfInBounds x.1 x.2) Lr.tmps) asg body .normal) (fr::cs) w) (lone F (fr::cs) w2)->
     F.mode= .run->F.kind= .normal->F.roundOf=some b->Leaves F.todo j->Rel R2 H2 w2->Ext R H w R2 H2 w2->U4 A j H2=some (v,H')->
     ∃R' w' z,Steps P (lone (Frame.round b f0 ((ps.toList.zip as').foldl (fun tmps (x:Nat×Value)=>tmps.setIfInBounds x.1 x.2) Lr.tmps) asg body .normal) (fr::cs) w) (lone (fr.finish z) cs w')/\VR R' v z/\Rel R' H' w'/\Ext R H w R' H' w':=by
    intro R2 w2 H2 F j hst hm hk hro hlv hL2 hx2 hend;obtain⟨l2,hA2,hp2,rfl⟩:=zAG hend;have hRA2:=hx2.sub _ _ _ _ hRA;obtain⟨L2,_,hb2,_⟩:=hL2.loopAt hA2 hRA2;obtain⟨hL3,hx3⟩:=hL2.loopPut hA2 hRA2 hp2 hb2;have hrun:=run_endRound (P:=P) j hb2;refine⟨R2,_,_,hst.trans (.one (zDV hm hk hro hlv hrun)),rfl, ?_, ?_⟩
    .have:(if j.isNone=true then LoopState.ready else LoopState.done)=stOf j:=by cases j<;>rfl
     rw[this];exact hL3
    .have:(if j.isNone=true then LoopState.ready else LoopState.done)=stOf j:=by cases j<;>rfl
     rw[this];exact hx2.trans hx3
   rcases o1 with⟨rfl,b2⟩ | ⟨id,k',b1,b2,L',vs,b3,_⟩ | ⟨k',rfl,b2⟩
   .obtain⟨lp,H2,hA1,hrdy,hp,hk2⟩:=KA b2;have hRA1:=x1.sub _ _ _ _ hRA;obtain⟨L1,_,hb1,_,hst1,hpe1,_,_⟩:=l1.loopAt hA1 hRA1;have hp':uH H1 A (.loop { lp with state:= .busy,pending:=lp.pending})=some H2:=hp;obtain⟨l2,x2⟩:=l1.loopPut hA1 hRA1 hp' hb1;rw[<-hpe1]at l2 x2;have hrun:=run_beginRound (P:=P) hb1 (by rw[hst1];exact hrdy);have hstep:Go.step P (lone { (Frame.round b f0 ((ps.toList.zip as').foldl (fun tmps (x:Nat×Value)=>tmps.setIfInBounds x.1 x.2) Lr.tmps) asg body .normal)with tmps:=t1,todo:=[.beginRound, .code body],defers:=ds1} (fr::cs) w1)=
      .next (lone { (Frame.round b f0 ((ps.toList.zip as').foldl (fun tmps (x:Nat×Value)=>tmps.setIfInBounds x.1 x.2) Lr.tmps) asg body .normal)with tmps:=t1,todo:=[.code body],defers:=ds1} (fr::cs) (wP w1 b (.loop { L1 with state:= .busy,pending:=L1.pending}))):=by
     refine step_lone_go ?_;simp[stepG,stepG.exec,stepG.apply,Frame.round,Sem.runT_eq,Sem.run_bind,hrun,Frame.finish,World.putObj,wP]
    have hS2:=YC hX hr body hb _ _ env2 H2 y hsb hk2;obtain⟨R3,w3,t3,td3,ds3,env3,H3,s3,e3,l3,x3,n3,m3,o3⟩:=hS2 w.heap.size R1 { (Frame.round b f0 ((ps.toList.zip as').foldl (fun tmps (x:Nat×Value)=>tmps.setIfInBounds x.1 x.2) Lr.tmps) asg body .normal)with tmps:=t1,todo:=[.code body],defers:=ds1} [] (fr::cs) _ rfl (fun h=>by simp at h) rfl e1 l2 (m1.ext x2) (by rw[wB];exact x1.size);have hall:=s1.trans ((Steps.one hstep).trans s3);have xall:=x1.trans (x2.trans x3);rcases o3 with⟨rfl,c2⟩ | ⟨id,k',rfl,c2,L',vs,c3,c4,c5⟩ | ⟨k',rfl,c2⟩
    .injection c2 with c2;subst c2
     rcases hcase with⟨vs,_,he⟩ | ⟨id,vs,e,_⟩ | ⟨u,e,_⟩
     .exact fin R3 w3 H3 _ none hall rfl rfl rfl rfl l3 xall he
     .simp at e
     .simp at e
    .subst c5;rcases hcase with⟨vs,e,_⟩ | ⟨id',vs',e,he⟩ | ⟨u,e,_⟩
     .simp at e
     .simp only[Ex.exit.injEq]at e;obtain⟨rfl,rfl⟩:=e;exact fin R3 w3 H3 _ (some (.exit id)) hall rfl rfl rfl ⟨k',rfl,by rw[c2];rfl⟩ l3 xall he
     .simp at e
    .obtain⟨u,e⟩:=wE c2;subst e;rcases hcase with⟨vs,e,_⟩ | ⟨id',vs',e,_⟩ | ⟨u,e,he⟩
     .simp at e
     .simp at e
     .exact fin R3 w3 H3 _ (some .ret) hall rfl rfl rfl ⟨k',rfl⟩ l3 xall he
   .simp[xE]at b3
   .obtain⟨u,e⟩:=wE b2;subst e;rcases hcase with⟨vs,e,_⟩ | ⟨id',vs',e,_⟩ | ⟨u,e,he⟩
    .simp at e
    .simp at e
    .exact fin R1 w1 H1 _ (some .ret) s1 rfl rfl rfl ⟨k',rfl⟩ l1 x1 he
  .simp at h
 .simp at h
end
theorem zBG {α:Type}(l:List α)(m:Nat)(x:α)(h:((T.ofList 0 l .leaf).getD .leaf).get m=some x):l[m]? =some x:=by
 cases hl:T.ofList 0 l .leaf with
 | none=>rw[hl]at h;simp[T.get_leaf]at h
 | some t=>
  rw[hl]at h;simp only[Option.getD_some]at h;rw[T.get_ofList l 0 .leaf t hl m]at h;split at h
  .simpa using h
  .simp[T.get_leaf]at h
def named (P:Program):Bool:=P.funcs.toList.all fun g=> !(g.name== "runtime.NumGoroutine")
def zNZ (P:Program)(fl:List (TypeId×List Nat)):Bool:=fl.all fun x=>(uY P P.depth x.1==some x.2)&&jX P x.1&&Nat.ble P.depth 10000
theorem cx_ok {P:Program}{fl:List (TypeId×List Nat)}(h:named P=true)(hf:zNZ P fl=true):Ok P ⟨(T.ofList 0 P.types.toList .leaf).getD .leaf,fl⟩:=by
 refine⟨fun t i ht=> ?_,fun x hx=> ?_,fun f g hf=> ?_⟩
 .have:=zBG _ _ _ ht;simp only[Array.getElem?_toList]at this;have hlt:t<P.types.size:=(Array.getElem?_eq_some_iff.1 this).1;unfold Tables.info?
  first
   | (rw[if_pos hlt];exact this)
   | (simp only[hlt,if_true,this];done)
   | (rw[this];done)
   | (rw[this];rfl)
   | simp_all
 .simp only[zNZ,List.all_eq_true,zE,beq_iff_eq,qA]at hf;obtain⟨⟨h1,h2⟩,h3⟩:=hf x hx;exact⟨h1,h2,h3⟩
 .simp only[named,List.all_eq_true,Bool.not_eq_true']at h;exact h g (by
   have:=Array.mem_of_getElem? hf;simpa using this)
def KP:Hint->Bool
 | .o=>true
 | .s a b=>KP a&&KP b
 | .c _ a b=>KP a&&KP b
 | .cl a b=>KP a&&KP b
 | .cr a b=>KP a&&KP b
 | .b _ a=>KP a
 | .b0 a=>KP a
 | .l _ a=>KP a
 | .rf _ _=>false
 | .t _ _=>false
def uX:Code->Hint->Nat->Bool
 | .seq _ _, .t _ _,_=>false
 | .seq a b, .s ha hb,k=>uX a ha k&&uX b hb (k+(sites a).length)
 | .cond _ a b, .c _ ha hb,k=>uX a ha k&&uX b hb (k+(sites a).length)
 | .cond _ a b, .cl ha hb,k=>uX a ha k&&uX b hb (k+(sites a).length)
 | .cond _ a b, .cr ha hb,k=>uX a ha k&&uX b hb (k+(sites a).length)
 | .block _ b, .b _ hb,k=>uX b hb k
 | .block _ b, .b0 hb,k=>uX b hb k
 | .loop b, .l _ hb,k=>uX b hb k
 | .rangeFunc _ _ _ _, .rf s _,k=>Nat.beq s k
 | _,_,_=>true
theorem VJ {P:Program}(f0:FuncId)(nt:Nat): ∀(c:Code) (h:Hint),KP h=true->yP P f0 nt c h:=by
 intro c
 induction c with
 | seq a b iha ihb=>intro h hh;cases h<;>simp_all [yP,KP]
 | cond c a b iha ihb=>intro h hh;cases h<;>simp_all [yP,KP]
 | block id b ih=>intro h hh;cases h<;>simp_all [yP,KP]
 | loop b ih=>intro h hh;cases h<;>simp_all [yP,KP]
 | rangeFunc f ps a b _ _=>intro h hh;cases h<;>simp_all [yP,KP]
 | _=>intro h hh;simp[yP]
theorem zID {P:Program}(f0:FuncId)(nt:Nat)(all:List (Array Tmp×Code×Code))(hall: ∀(s:Nat) (x:Array Tmp×Code×Code),all[s]? =some x->VA f0 s=some (nt,x)):
  ∀(c:Code) (h:Hint) (k:Nat),uX c h k=true->(∀(j:Nat) (x:Array Tmp×Code×Code),(sites c)[j]? =some x->all[k+j]? =some x)->yP P f0 nt c h:=by
 have two: ∀(a b:Code) (k:Nat),(∀(j:Nat) (x:Array Tmp×Code×Code),(sites a++sites b)[j]? =some x->all[k+j]? =some x)->
   (∀(j:Nat) (x:Array Tmp×Code×Code),(sites a)[j]? =some x->all[k+j]? =some x)/\(∀(j:Nat) (x:Array Tmp×Code×Code),(sites b)[j]? =some x->all[k+(sites a).length+j]? =some x):=by
  intro a b k hk;refine⟨fun j x hx=>hk j x ?_,fun j x hx=> ?_⟩
  .rw[qF (List.getElem?_eq_some_iff.1 hx).1];exact hx
  .rw[Nat.add_assoc];refine hk _ x ?_;rw[qG (by omega),show(sites a).length+j - (sites a).length=j from by omega];exact hx
 intro c
 induction c with
 | seq a b iha ihb=>
  intro h k hn hk;obtain⟨h1,h2⟩:=two a b k hk
  cases h<;>simp only[yP]<;>first | (simp only[uX,zE]at hn;exact⟨iha _ k hn.1 h1,ihb _ _ hn.2 h2⟩) | (simp[uX]at hn)
 | cond c a b iha ihb=>
  intro h k hn hk;obtain⟨h1,h2⟩:=two a b k hk
  cases h<;>simp only[yP]<;>(simp only[uX,zE]at hn;exact⟨iha _ k hn.1 h1,ihb _ _ hn.2 h2⟩)
 | block id b ih=>
  intro h k hn hk
  cases h<;>simp only[yP]<;>first | exact ih _ k hn hk | (simp[uX]at hn)
 | loop b ih=>
  intro h k hn hk
  cases h<;>simp only[yP]
  exact ih _ k hn hk
 | rangeFunc f ps a b _ _=>
  intro h k hn hk
  cases h<;>simp only[yP]
  simp only[uX,Nat.beq_eq]at hn;subst hn;exact hall _ _ (hk 0 _ rfl)
 | _=>intro h k hn hk;simp[yP]
def zCs (fn:Func)(h:Hint):Bool:=KP h||match fn.body with
 | some b=>uX b h 0
 | none=>true
noncomputable abbrev PP:Program:=Go.Proofs.Tryz.prog
theorem zEU {f:FuncId}{fn:Func}(hfn:PP.funcs[f]? =some fn){h:Hint}(hs:zCs fn h=true): ∀body,fn.body=some body->yP PP f fn.ntmps body h:=by
 intro body hb;simp only[zCs,Bool.or_eq_true]at hs;rcases hs with hs | hs
 .exact VJ _ _ _ _ hs
 .simp only[hb]at hs;refine zID f fn.ntmps (sites body) (fun s x hx=> ?_) body h 0 hs (fun j x hx=>by rw[Nat.zero_add];exact hx);unfold VA;have hfn':Go.Proofs.Tryz.prog.funcs[f]? =some fn:=hfn;simp only[hfn',hb,hx]
def FS (g:FuncId)(m:List AV->AH->Option (AV×AH)):Prop:= ∀az H v H',m az H=some (v,H')->zHT PP g az H v H'
def FI (g:FuncId)(m:List AV->AH->Option (AV×AH)):Prop:= ∀az H v H',m az H=some (v,H')->H.next<=H'.next/\zMH PP g az H v H'
theorem FI.fs {g:FuncId}{m:List AV->AH->Option (AV×AH)}(h:FI g m):FS g m:=fun az H v H' e=>⟨(h az H v H' e).1, .inl (h az H v H' e).2⟩
structure DG (D:Dyn):Prop where
 fn: ∀g,FS g (D.fn g)
 yld: ∀A args H v H',D.yld A args H=some (v,H')->zBd PP A args H v H'
def SOk:List (Nat×(List AV->AH->Option (AV×AH)))->Prop
 | []=>True
 | (i,m)::S=>FS i m/\SOk S
theorem SOk.nil:SOk []:=trivial
theorem SOk.cons {i:Nat}{m:List AV->AH->Option (AV×AH)}{S:List (Nat×(List AV->AH->Option (AV×AH)))}(h:FS i m)(k:SOk S):SOk ((i,m)::S):=⟨h,k⟩
theorem UC {D:Dyn}(hD:DG D): ∀ {S:List (Nat×(List AV->AH->Option (AV×AH)))},SOk S-> ∀g,FS g (zAZ S D g)
 | [],_,g=>fun az H v H' h=>hD.fn g az H v H' h
 | (i,m)::S,hS,g=>fun az H v H' h=>by
  simp only[zAZ,cond_eq_ite]at h;split at h
  .rename_i e;rw[Nat.beq_eq]at e;subst e;exact hS.1 az H v H' h
  .exact UC hD hS.2 g az H v H' h
theorem VU {X:Cx}{S:List (Nat×(List AV->AH->Option (AV×AH)))}{D:Dyn}(hD:DG D)(hS:SOk S):Good PP (rOf ⟨X,S⟩ D):=
 ⟨fun f args H v H' h=>UC hD hS f args H v H' h,fun A args H v H' h=>hD.yld A args H v H' h⟩
theorem zNY {X:Cx}(hX:Ok PP X){S:List (Nat×(List AV->AH->Option (AV×AH)))}{D:Dyn}(hD:DG D)(hS:SOk S){f:FuncId}{fn:Func}(hfn:PP.funcs[f]? =some fn){n:Nat}{h:Hint}(hs:zCs fn h=true){m:List AV->AH->Option (AV×AH)}(he:m=zMY ⟨X,S⟩ D n f fn h):FI f m:=by
 subst he;intro az H v H' e;exact zG3 hX (VU hD hS) hfn (zEU hfn hs) e
theorem zLR {X:Cx}(hX:Ok PP X){S:List (Nat×(List AV->AH->Option (AV×AH)))}{D:Dyn}(hD:DG D)(hS:SOk S){f:FuncId}{fn:Func}(hfn:PP.funcs[f]? =some fn){n:Nat}{h:Hint}(hs: ∀body,fn.body=some body->yP PP f fn.ntmps body h){m:List AV->AH->Option (AV×AH)}(he:m=zMY ⟨X,S⟩ D n f fn h):FI f m:=by
 subst he;intro az H v H' e;exact zG3 hX (VU hD hS) hfn hs e
def RS (f s:Nat)(m:Nat->ALoop->List AV->AH->Option (AV×AH)):Prop:=
 ∀A l az H v H',H.h.get A=some (.loop l)->l.fn=f->l.site=s->m A l az H=some (v,H')->zBd PP A az H v H'
theorem VE {X:Cx}(hX:Ok PP X){S:List (Nat×(List AV->AH->Option (AV×AH)))}{D:Dyn}(hD:DG D)(hS:SOk S){f s:Nat}{n:Nat}{L ids:List Nat}{ha hb:Hint}(hs:(KP ha&&KP hb)=true){m:Nat->ALoop->List AV->AH->Option (AV×AH)}(he:m=zMQ ⟨X,S⟩ D n f s L ids ha hb):RS f s m:=by
 subst he;intro A l az H v H' hA hf hsi e;rw[zE]at hs;exact zLg hX (VU hD hS) (fun nt ps asg body _=>⟨VJ _ _ _ _ hs.1,VJ _ _ _ _ hs.2⟩) hA hf hsi e
def ROk:List ((Nat×Nat)×(Nat->ALoop->List AV->AH->Option (AV×AH)))->Prop
 | []=>True
 | ((f,s),m)::t=>RS f s m/\ROk t
theorem ROk.nil:ROk []:=trivial
theorem ROk.cons {f s:Nat}{m:Nat->ALoop->List AV->AH->Option (AV×AH)}{t:List ((Nat×Nat)×(Nat->ALoop->List AV->AH->Option (AV×AH)))}(h:RS f s m)(k:ROk t):ROk (((f,s),m)::t):=⟨h,k⟩
theorem zIo {t:List ((Nat×Nat)×(Nat->ALoop->List AV->AH->Option (AV×AH)))}(ht:ROk t){A:Nat}{az:List AV}{H H':AH}{v:AV}(h:J3 t A az H=some (v,H')):zBd PP A az H v H':=by
 unfold J3 at h;split at h
 .rename_i l hA
  induction t with
  | nil=>simp[J3.go]at h
  | cons x t ih=>
   obtain⟨⟨f,s⟩,m⟩:=x;simp only[J3.go,cond_eq_ite]at h;split at h
   .rename_i e;simp only[zE,Nat.beq_eq]at e;exact ht.1 A l az H v H' hA e.1.symm e.2.symm h
   .exact ih ht.2 h
 .simp at h
def KX:Dyn:=⟨fun _ _ _=>none,fun _ _ _=>none⟩
theorem U7:DG KX:=⟨fun _ _ _ _ _ h=>by simp[KX]at h,fun _ _ _ _ _ h=>by simp[KX]at h⟩
noncomputable def dyOf (tab:Dyn->Nat->List (Nat×(List AV->AH->Option (AV×AH))))(tabR:Dyn->Nat->List ((Nat×Nat)×(Nat->ALoop->List AV->AH->Option (AV×AH))))(n:Nat):Dyn:=
 Nat.rec KX (fun m D=>⟨fun g vs H=>zAZ (tab D m) KX g vs H,J3 (tabR D m)⟩) n
theorem zGZ {tab:Dyn->Nat->List (Nat×(List AV->AH->Option (AV×AH)))}{tabR:Dyn->Nat->List ((Nat×Nat)×(Nat->ALoop->List AV->AH->Option (AV×AH)))}(h1: ∀D n,DG D->SOk (tab D n))(h2: ∀D n,DG D->ROk (tabR D n)): ∀n,DG (dyOf tab tabR n)
 | 0=>U7
 | n+1=>by
  have ih:=zGZ h1 h2 n;exact⟨fun g az H v H' e=>UC U7 (h1 _ n ih) g az H v H' e,fun A args H v H' e=>zIo (h2 _ n ih) e⟩
def zLb (x:Option (AV×AH)):Bool:=match x with
 | some (.bool true,_)=>true
 | _=>false
theorem zJr {f:FuncId}{m:List AV->AH->Option (AV×AH)}(hm:FI f m)(h:zLb (m [] ⟨.leaf,0⟩)=true)(w:World):Calls PP f #[] w fun e w'=>e= .returned (.bool true)/\RowKit.Below w.heap.size w w':=by
 unfold zLb at h;split at h
 .rename_i H' hc;intro cs;obtain⟨_,_,hc⟩:=hm _ _ _ _ hc;obtain⟨R',w',z,fr',h1,h2,h3,h4,h5,h6⟩:=hc (fun _ _ _ _=>False) [] cs w rfl (Rel.empty w);simp only[VR]at h4;subst h4;refine⟨.returned (.bool true),w',fr',⟨rfl, ?_⟩,h1,h2,h3⟩;exact⟨h6.os,h6.tape,h6.output,h6.size,fun k hk=>h6.keep k hk (fun _ _ _ h=>h)⟩
 .simp at h
theorem run_range_map {P:Program}{w:World}{t kt vt:TypeId}{m:Nat}{arr:Array MapEntry}{clock:Nat}(ht:(underlying t).run P w= .ok (.map kt vt) w)(hm:w.heap[m]? =some (.map arr clock)):
  (Instr.range t (.map (some m))).run P w= .ok (.pointer (some ⟨w.heap.size,0,none⟩)) (w.alloc (.mapIter (some m) clock #[] clock)):=by
 simp[Instr.range,Sem.run_bind,ht,getObj,Sem.run,hm,newObj,Result.andThen]
structure ML where
 rA:Nat
 rB:Nat
 rC:Nat
 pre:List Oper
 oR:Oper
 oN:Oper
 oX:Oper
 oE:Oper
 rest:List Oper
 id:Nat
 id2:Nat
 body:Code
 t:TypeId
 x:Operand
 it:Nat
 nx:Nat
 ok:Nat
 en:Nat
def ML.opsA (q:ML):Array Oper:=⟨q.pre++[q.oR]⟩
def ML.opsB (q:ML):Array Oper:=⟨[q.oN,q.oX]⟩
def ML.opsC (q:ML):Array Oper:=⟨q.oE::q.rest⟩
def ML.round (q:ML):Code:= .seq (.region q.rB q.opsB false) (.seq (.cond (.tmp q.ok) .skip (.exit q.id)) (.block q.id2 (.seq (.region q.rC q.opsC false) q.body)))
def ML.code (q:ML):Code:= .seq (.region q.rA q.opsA false) (.block q.id (.loop q.round))
structure ML.Fits (q:ML)(nt:Nat):Prop where
 gR:q.oR.guard=none
 pR:q.oR.op= .range q.t q.x
 dR:q.oR.dst=some q.it
 gN:q.oN.guard=none
 pN:q.oN.op= .next (.tmp q.it) false
 dN:q.oN.dst=some q.nx
 gX:q.oX.guard=none
 pX:q.oX.op= .extract (.tmp q.nx) 0
 dX:q.oX.dst=some q.ok
 gE:q.oE.guard=none
 pE:q.oE.op= .entry (.tmp q.it)
 dE:q.oE.dst=some q.en
 it:q.it<nt
 nx:q.nx<nt
 ok:q.ok<nt
 en:q.en<nt
 itnx:q.it≠q.nx
 itok:q.it≠q.ok
 iten:q.it≠q.en
 nxok:q.nx≠q.ok
noncomputable def ML.roundK (q:ML)(B:Tb)(D:Dyn)(n nt:Nat)(hb:Hint)(L:List Nat)(I:Nat)(vs:List AV)(k v:AV)(H:AH):Rs:=
 unp (q.it::L) (.ptr I 0::vs) xN fun e=>
  zCA B D nt q.opsC none (Nat.succ q.rest.length) (fun env H=>yI B D n nt [] 0 true q.body hb [] (fun env H=>pck (q.it::L) env fun vs=>some (.norm vs,H)) env H) (idx q.rest 1) [] (upd e q.en (.tuple [k,v])) H
theorem Rel.told {R:Ren}{H:AH}{w:World}(h:Rel R H w){A b d c:Nat}{o o':AObj}{t':T AObj}(hR:R A b d c)(hA:H.h.get A=some o)(hl:QU H A)(hs:T.set 40 H.h A o'=some t')(ho:zHZ R o' d c w.heap[b]?):Rel R ⟨t',H.next⟩ w:=by
 have hg:=T.get_set _ _ _ _ _ hs;have hlv: ∀A',QU ⟨t',H.next⟩ A'->QU H A':=fun A' ⟨p,hp,hd⟩=>by
  simp only[hg]at hp;by_cases e:A'=A
  .subst e;exact hl
  .rw[if_neg e]at hp;exact⟨p,hp,hd⟩
 refine⟨h.fn,fun A1 A2 b d c d' c' r r' l l'=>h.inj _ _ _ _ _ _ _ r r' (hlv _ l) (hlv _ l'),fun A1 b1 d1 c1 p r hp=> ?_,h.lt⟩;simp only[hg]at hp;by_cases e:A1=A
 .subst e;rw[if_pos rfl]at hp;injection hp with hp;subst hp
  obtain⟨rfl,rfl,rfl⟩:=h.fn _ _ _ _ _ _ _ r hR;exact ho
 .rw[if_neg e]at hp;exact h.obj _ _ _ _ _ r hp
section
variable {P:Program}{fr:Frame}{k:List Item}{cs:List Frame}{w:World}
theorem YV {ops:Array Oper}{i:Nat}{rest:List Nat}{o:Oper}{it d:Nat}{v:Value}{w':World}(hm:fr.mode= .run)(ht:fr.todo= .inRegion ops (i::rest)::k)(ho:ops[i]? =some o)
  (hg:o.guard=none) (hop:o.op= .next (.tmp it) false) (hd:o.dst=some d) (hr:(Instr.next (fr.tmps.getD it undef) false o.type).run P w= .ok v w'):
  step P (lone fr cs w)= .next (lone { fr with tmps:=fr.tmps.setIfInBounds d v,todo:= .inRegion ops rest::k} cs w'):=by
 have h1:(execOp fr.eval o).run P w= .ok (.value v) w':=by
  have he:fr.eval (.tmp it)=fr.tmps.getD it undef:=rfl;simp only[execOp,hop,he,Sem.run_bind,hr,Result.andThen_ok];rfl
 have h2:=xQ (cs:=cs) hm ht ho (by simp[Region.wanted,hg]) (by intro c;rw[hop];simp) h1;rw[h2,yH ht ho,hd];rfl
theorem BD {ops:Array Oper}{i:Nat}{rest:List Nat}{o:Oper}{it d:Nat}{v:Value}{w':World}(hm:fr.mode= .run)(ht:fr.todo= .inRegion ops (i::rest)::k)(ho:ops[i]? =some o)
  (hg:o.guard=none) (hop:o.op= .entry (.tmp it)) (hd:o.dst=some d) (hr:(Instr.entry (fr.tmps.getD it undef)).run P w= .ok v w'):
  step P (lone fr cs w)= .next (lone { fr with tmps:=fr.tmps.setIfInBounds d v,todo:= .inRegion ops rest::k} cs w'):=by
 have h1:(execOp fr.eval o).run P w= .ok (.value v) w':=by
  have he:fr.eval (.tmp it)=fr.tmps.getD it undef:=rfl;simp only[execOp,hop,he,Sem.run_bind,hr,Result.andThen_ok];rfl
 have h2:=xQ (cs:=cs) hm ht ho (by simp[Region.wanted,hg]) (by intro c;rw[hop];simp) h1;rw[h2,yH ht ho,hd];rfl
theorem BB {ops:Array Oper}{i:Nat}{rest:List Nat}{o:Oper}{t:TypeId}{x:Operand}{d:Nat}{v:Value}{w':World}(hm:fr.mode= .run)(ht:fr.todo= .inRegion ops (i::rest)::k)(ho:ops[i]? =some o)
  (hg:o.guard=none) (hop:o.op= .range t x) (hd:o.dst=some d) (hr:(Instr.range t (fr.eval x)).run P w= .ok v w'):
  step P (lone fr cs w)= .next (lone { fr with tmps:=fr.tmps.setIfInBounds d v,todo:= .inRegion ops rest::k} cs w'):=by
 have h1:(execOp fr.eval o).run P w= .ok (.value v) w':=by
  simp[execOp,hop,Sem.run_bind,hr,Result.andThen]
 have h2:=xQ (cs:=cs) hm ht ho (by simp[Region.wanted,hg]) (by intro c;rw[hop];simp) h1;rw[h2,yH ht ho,hd];rfl
theorem W9 {ops:Array Oper}{i:Nat}{rest:List Nat}{o:Oper}{nx d j:Nat}{v:Value}{a:Array Value}(hm:fr.mode= .run)(ht:fr.todo= .inRegion ops (i::rest)::k)(ho:ops[i]? =some o)
  (hg:o.guard=none) (hop:o.op= .extract (.tmp nx) j) (hd:o.dst=some d) (hr:fr.tmps.getD nx undef= .tuple a) (ha:a[j]? =some v):
  step P (lone fr cs w)= .next (lone { fr with tmps:=fr.tmps.setIfInBounds d v,todo:= .inRegion ops rest::k} cs w):=by
 have h1:(execOp fr.eval o).run P w= .ok (.value v) w:=by
  have he:fr.eval (.tmp nx)= .tuple a:=hr;simp[execOp,hop,he,ha,Instr.extract,Sem.run_bind,Result.andThen]
 have h2:=xQ (cs:=cs) hm ht ho (by simp[Region.wanted,hg]) (by intro c;rw[hop];simp) h1;rw[h2,yH ht ho,hd];rfl
end
theorem EnvR.slot {R:Ren}{env:Env}{n:Nat}{tmps:Array Value}(h:EnvR R env n tmps){d:Nat}(hd:d<n)(z:Value):EnvR R (fun t=>bif Nat.beq t d then none else env t) n (tmps.setIfInBounds d z):=by
 refine⟨by rw[Array.size_setIfInBounds];exact h.size,fun t x hx=> ?_,fun t ht=> ?_⟩
 .simp only[look,cond_eq_ite,Nat.beq_eq]at hx;split at hx
  .simp at hx
  .rename_i hne;have:=h.get t x hx;rw[Array.getD_eq_getD_getElem?,Array.getElem?_setIfInBounds_ne (fun e=>hne e.symm),<-Array.getD_eq_getD_getElem?];exact this
 .simp only[look,cond_eq_ite];split
  .rfl
  .exact h.out t ht
structure AtHead (q:ML)(nt:Nat)(L:List Nat)(I M r m:Nat)(vs:List AV)(arr:Array MapEntry)(clock:Nat)(seen:Array Nat)(R:Ren)(H:AH)(tmps:Array Value)(w:World):Prop where
 rel:Rel R H w
 env: ∃e,PK e (q.it::L) (.ptr I 0::vs)/\EnvR R e nt tmps
 ri:R I r 0 0
 rm: ∃d c,R M m d c
 gi:H.h.get I=some (.raw (.mapIter (some m) clock seen clock))
 gm:H.h.get M=some (.raw (.map arr clock))
 bo:zCd arr.toList clock
theorem Q8 {e:Env}{d:Nat} : ∀ {L:List Nat} {vs:List AV},PK e L vs->(∀l∈L,l≠d)->PK (fun t=>bif Nat.beq t d then none else e t) L vs
 | [],vs,h,_=>h
 | l::L,vs,⟨v,vs',h1,h2,h3⟩,hd=>by
  refine⟨v,vs',h1, ?_,Q8 h3 (fun x hx=>hd x (zF _ hx))⟩;have:=hd l (zH ..);simp only[look,cond_eq_ite,Nat.beq_eq,if_neg this];exact h2
theorem wI (t:Array Value)(d:Nat)(z:Value)(h:d<t.size):(t.setIfInBounds d z).getD d undef=z:=by
 rw[Array.getD_eq_getD_getElem?,Array.getElem?_setIfInBounds_self_of_lt h];rfl
theorem getD_set_ne (t:Array Value)(d j:Nat)(z:Value)(h:d≠j):(t.setIfInBounds d z).getD j undef=t.getD j undef:=by
 rw[Array.getD_eq_getD_getElem?,Array.getElem?_setIfInBounds_ne h,<-Array.getD_eq_getD_getElem?]
theorem zAd {P:Program}{q:ML}{nt:Nat}(hq:q.Fits nt){L:List Nat}(hLd: ∀l∈q.it::L,l≠q.nx/\l≠q.ok/\l≠q.en){I M r m:Nat}{vs:List AV}{arr:Array MapEntry}{clock:Nat}{seen:Array Nat}{R:Ren}{H:AH}{fr:Frame}{w:World}{k:List Item}{cs:List Frame}
  (h:AtHead q nt L I M r m vs arr clock seen R H fr.tmps w) (hm:fr.mode= .run) (ht:fr.todo= .code q.round:: .inLoop q.round:: .inBlock q.id::k):
  ((∀e∈arr.toList,e.born∈seen.toList)/\ ∃tmps',Steps P (lone fr cs w) (lone { fr with tmps:=tmps',todo:=k} cs w)/\ ∃e,PK e (q.it::L) (.ptr I 0::vs)/\EnvR R e nt tmps')\/
  (∃e∈arr.toList,e.born∉seen.toList/\ ∃tmps' d',Steps P (lone fr cs w) (lone { fr with tmps:=tmps',todo:= .inRegion q.opsC ((List.range q.rest.length).map Nat.succ):: .code q.body:: .inBlock q.id2:: .inLoop q.round:: .inBlock q.id::k} cs (wP { w with drawn:=d'} r (.mapIter (some m) clock (seen.push e.born) clock)))/\
   (∃en,PK en (q.it::L) (.ptr I 0::vs)/\EnvR R en nt tmps')/\tmps'.getD q.en undef= .tuple #[e.key,e.val]):=by
 obtain⟨e0,hp,hE⟩:=h.env;obtain⟨v0,vs0,hv0,hlk,hp'⟩:=id hp;obtain⟨rfl,rfl⟩:v0= .ptr I 0/\vs0=vs:=by injection hv0 with a b;exact⟨a.symm,b.symm⟩
 obtain⟨b,d,c,hR,hz⟩:=hE.get _ _ hlk;obtain⟨rfl,rfl,rfl⟩:=h.rel.fn _ _ _ _ _ _ _ hR h.ri;have hz':fr.tmps.getD q.it undef= .pointer (some ⟨b,0,none⟩):=by rw[hz]
 have hri:w.heap[b]? =some (.mapIter (some m) clock seen clock):=h.rel.obj _ _ _ _ _ h.ri h.gi;obtain⟨dm,cm,hRm⟩:=h.rm;have hrm:w.heap[m]? =some (.map arr clock):=h.rel.obj _ _ _ _ _ hRm h.gm;have hblt:b<w.heap.size:=(h.rel.lt _ _ _ _ h.ri).1;have hmb:m≠b:=fun e=>by rw[e]at hrm;rw[hri]at hrm;simp at hrm
 have hsz:=hE.size;have s0:Steps P (lone fr cs w) (lone { fr with todo:= .inRegion q.opsB [0,1]:: .code (.seq (.cond (.tmp q.ok) .skip (.exit q.id)) (.block q.id2 (.seq (.region q.rC q.opsC false) q.body))):: .inLoop q.round:: .inBlock q.id::k} cs w):=
  (Steps.one (W7 hm ht)).trans (.one (cL (fr:= { fr with todo:= .code (.region q.rB q.opsB false):: .code (.seq (.cond (.tmp q.ok) .skip (.exit q.id)) (.block q.id2 (.seq (.region q.rC q.opsC false) q.body))):: .inLoop q.round:: .inBlock q.id::k}) hm rfl))
 rcases run_next_at (P:=P) w q.oN.type b m clock clock seen arr clock hri hrm h.bo.2 (Nat.le_refl _)with⟨hl0,hrun⟩ | ⟨e,he,w1,hw1,hrun⟩
 .left;refine⟨fun e he=> ?_, ?_⟩
  .apply Classical.byContradiction;intro hne;have:e∈(leftOf arr seen).toList:=by
    simp only[leftOf,Array.toList_filter,List.mem_filter];refine⟨he, ?_⟩;simpa using hne
   have h2:0< (leftOf arr seen).size:=by
    have:=List.length_pos_of_mem this;simpa using this
   omega
  .have s1:=YV (P:=P) (cs:=cs) (fr:= { fr with todo:= .inRegion q.opsB [0,1]:: .code (.seq (.cond (.tmp q.ok) .skip (.exit q.id)) (.block q.id2 (.seq (.region q.rC q.opsC false) q.body))):: .inLoop q.round:: .inBlock q.id::k}) (w:=w) hm rfl (o:=q.oN) rfl hq.gN hq.pN hq.dN (by rw[hz'];exact hrun);have s2:=W9 (P:=P) (cs:=cs) (w:=w) (fr:= { fr with tmps:=fr.tmps.setIfInBounds q.nx (.tuple #[.bool false]),todo:= .inRegion q.opsB [1]:: .code (.seq (.cond (.tmp q.ok) .skip (.exit q.id)) (.block q.id2 (.seq (.region q.rC q.opsC false) q.body))):: .inLoop q.round:: .inBlock q.id::k}) hm rfl (o:=q.oX) rfl hq.gX hq.pX hq.dX (wI _ _ _ (by have:=hq.nx;omega)) (v:= .bool false) rfl;have s3:=kG (P:=P) (cs:=cs) (w:=w) (fr:= { fr with tmps:=(fr.tmps.setIfInBounds q.nx (.tuple #[.bool false])).setIfInBounds q.ok (.bool false),todo:= .inRegion q.opsB []:: .code (.seq (.cond (.tmp q.ok) .skip (.exit q.id)) (.block q.id2 (.seq (.region q.rC q.opsC false) q.body))):: .inLoop q.round:: .inBlock q.id::k}) hm rfl;have s4:=W7 (P:=P) (cs:=cs) (w:=w) (fr:= { fr with tmps:=(fr.tmps.setIfInBounds q.nx (.tuple #[.bool false])).setIfInBounds q.ok (.bool false),todo:= .code (.seq (.cond (.tmp q.ok) .skip (.exit q.id)) (.block q.id2 (.seq (.region q.rC q.opsC false) q.body))):: .inLoop q.round:: .inBlock q.id::k}) hm rfl;have s5:=d6 (P:=P) (cs:=cs) (w:=w) (fr:= { fr with tmps:=(fr.tmps.setIfInBounds q.nx (.tuple #[.bool false])).setIfInBounds q.ok (.bool false),todo:= .code (.cond (.tmp q.ok) .skip (.exit q.id)):: .code (.block q.id2 (.seq (.region q.rC q.opsC false) q.body)):: .inLoop q.round:: .inBlock q.id::k}) (t:=false) hm rfl (wI _ _ _ (by have:=hq.ok;rw[Array.size_setIfInBounds];omega));have s6:=zEN (P:=P) (cs:=cs) (w:=w) (fr:= { fr with tmps:=(fr.tmps.setIfInBounds q.nx (.tuple #[.bool false])).setIfInBounds q.ok (.bool false),todo:= .code (.exit q.id):: .code (.block q.id2 (.seq (.region q.rC q.opsC false) q.body)):: .inLoop q.round:: .inBlock q.id::k}) (k':=k) hm rfl (by simp[exitTo]);refine⟨_,s0.trans ((Steps.one s1).trans ((Steps.one s2).trans ((Steps.one s3).trans ((Steps.one s4).trans ((Steps.one s5).trans (.one s6)))))),_,Q8 (Q8 hp (fun l hl=>(hLd l hl).1)) (fun l hl=>(hLd l hl).2.1),(hE.slot hq.nx _).slot hq.ok _⟩
 .right;obtain⟨d',rfl⟩: ∃d',w1= { w with drawn:=d'} :=by
   rcases hw1 with rfl | rfl
   .exact⟨w1.drawn,rfl⟩
   .exact⟨w.drawn+1,rfl⟩
  have he':e∈arr.toList/\e.born∉seen.toList:=by
   simp only[leftOf,Array.toList_filter,List.mem_filter]at he;exact⟨he.1,by simpa using he.2⟩
  refine⟨e,he'.1,he'.2, ?_⟩;have hrun':(Instr.next (.pointer (some ⟨b,0,none⟩)) false q.oN.type).run P w= .ok (.tuple #[.bool true,e.key,e.val]) (wP { w with drawn:=d'} b (.mapIter (some m) clock (seen.push e.born) clock)):=hrun
  generalize hw2:wP { w with drawn:=d'} b (.mapIter (some m) clock (seen.push e.born) clock)=w2 at hrun';have hi2:w2.heap[b]? =some (.mapIter (some m) clock (seen.push e.born) clock):=by rw[<-hw2];exact v8 _ _ _ hblt
  have hm2:w2.heap[m]? =some (.map arr clock):=by rw[<-hw2,kV _ _ _ _ hmb];exact hrm
  have s1:=YV (P:=P) (cs:=cs) (fr:= { fr with todo:= .inRegion q.opsB [0,1]:: .code (.seq (.cond (.tmp q.ok) .skip (.exit q.id)) (.block q.id2 (.seq (.region q.rC q.opsC false) q.body))):: .inLoop q.round:: .inBlock q.id::k}) (w:=w) hm rfl (o:=q.oN) rfl hq.gN hq.pN hq.dN (by rw[hz'];exact hrun');have s2:=W9 (P:=P) (cs:=cs) (w:=w2) (fr:= { fr with tmps:=fr.tmps.setIfInBounds q.nx (.tuple #[.bool true,e.key,e.val]),todo:= .inRegion q.opsB [1]:: .code (.seq (.cond (.tmp q.ok) .skip (.exit q.id)) (.block q.id2 (.seq (.region q.rC q.opsC false) q.body))):: .inLoop q.round:: .inBlock q.id::k}) hm rfl (o:=q.oX) rfl hq.gX hq.pX hq.dX (wI _ _ _ (by have:=hq.nx;omega)) (v:= .bool true) rfl;generalize ht2:(fr.tmps.setIfInBounds q.nx (.tuple #[.bool true,e.key,e.val])).setIfInBounds q.ok (.bool true)=t2 at s2;have hE2:EnvR R (fun t=>bif Nat.beq t q.ok then none else(fun t=>bif Nat.beq t q.nx then none else e0 t) t) nt t2:=by rw[<-ht2];exact(hE.slot hq.nx _).slot hq.ok _
  have hok2:t2.getD q.ok undef= .bool true:=by rw[<-ht2];exact wI _ _ _ (by have:=hq.ok;rw[Array.size_setIfInBounds];omega)
  have hit2:t2.getD q.it undef= .pointer (some ⟨b,0,none⟩):=by rw[<-ht2,getD_set_ne _ _ _ _ (fun x=>hq.itok x.symm),getD_set_ne _ _ _ _ (fun x=>hq.itnx x.symm)];exact hz'
  have s3:=kG (P:=P) (cs:=cs) (w:=w2) (fr:= { fr with tmps:=t2,todo:= .inRegion q.opsB []:: .code (.seq (.cond (.tmp q.ok) .skip (.exit q.id)) (.block q.id2 (.seq (.region q.rC q.opsC false) q.body))):: .inLoop q.round:: .inBlock q.id::k}) hm rfl;have s4:=W7 (P:=P) (cs:=cs) (w:=w2) (fr:= { fr with tmps:=t2,todo:= .code (.seq (.cond (.tmp q.ok) .skip (.exit q.id)) (.block q.id2 (.seq (.region q.rC q.opsC false) q.body))):: .inLoop q.round:: .inBlock q.id::k}) hm rfl;have s5:=d6 (P:=P) (cs:=cs) (w:=w2) (fr:= { fr with tmps:=t2,todo:= .code (.cond (.tmp q.ok) .skip (.exit q.id)):: .code (.block q.id2 (.seq (.region q.rC q.opsC false) q.body)):: .inLoop q.round:: .inBlock q.id::k}) (t:=true) hm rfl hok2;have s6:=zEL (P:=P) (cs:=cs) (w:=w2) (fr:= { fr with tmps:=t2,todo:= .code .skip:: .code (.block q.id2 (.seq (.region q.rC q.opsC false) q.body)):: .inLoop q.round:: .inBlock q.id::k}) hm rfl;have s7:=QZ (P:=P) (cs:=cs) (w:=w2) (fr:= { fr with tmps:=t2,todo:= .code (.block q.id2 (.seq (.region q.rC q.opsC false) q.body)):: .inLoop q.round:: .inBlock q.id::k}) hm rfl;have s8:=W7 (P:=P) (cs:=cs) (w:=w2) (fr:= { fr with tmps:=t2,todo:= .code (.seq (.region q.rC q.opsC false) q.body):: .inBlock q.id2:: .inLoop q.round:: .inBlock q.id::k}) hm rfl;have s9:=cL (P:=P) (cs:=cs) (w:=w2) (fr:= { fr with tmps:=t2,todo:= .code (.region q.rC q.opsC false):: .code q.body:: .inBlock q.id2:: .inLoop q.round:: .inBlock q.id::k}) hm rfl;have hrg:List.range q.opsC.size=0::(List.range q.rest.length).map Nat.succ:=by
   rw[<-List.range_succ_eq_map];rfl
  rw[hrg]at s9;have s10:=BD (P:=P) (cs:=cs) (w:=w2) (fr:= { fr with tmps:=t2,todo:= .inRegion q.opsC (0::(List.range q.rest.length).map Nat.succ):: .code q.body:: .inBlock q.id2:: .inLoop q.round:: .inBlock q.id::k}) hm rfl (o:=q.oE) rfl hq.gE hq.pE hq.dE (by
   rw[hit2];exact run_entry_at w2 b m clock seen arr clock e hi2 hm2 he'.1 h.bo.1)
  refine⟨_,d', ?_,⟨_,Q8 (Q8 (Q8 hp (fun l hl=>(hLd l hl).1)) (fun l hl=>(hLd l hl).2.1)) (fun l hl=>(hLd l hl).2.2),hE2.slot hq.en _⟩,wI _ _ _ (by have:=hq.en;rw[hE2.size];exact this)⟩;rw[hw2];exact s0.trans ((Steps.one s1).trans ((Steps.one s2).trans ((Steps.one s3).trans ((Steps.one s4).trans ((Steps.one s5).trans ((Steps.one s6).trans ((Steps.one s7).trans ((Steps.one s8).trans ((Steps.one s9).trans (.one s10))))))))))
theorem EnvR.know {R:Ren}{env:Env}{n:Nat}{tmps:Array Value}(h:EnvR R env n tmps){d:Nat}(hd:d<n){x:AV}(hx:VR R x (tmps.getD d undef)):EnvR R (upd env d x) n tmps:=by
 refine⟨h.size,fun t y hy=> ?_,fun t ht=> ?_⟩
 .simp only[look,vC]at hy;split at hy
  .rename_i e;subst e;injection hy with hy;subst hy;exact hx
  .exact h.get t y hy
 .simp only[look,vC];rw[if_neg (by omega)];exact h.out t ht
section
variable {P:Program}{B:Tb}{D:Dyn}(hX:Ok P B.X)(hr:Good P (rOf B D))
include hX hr in
theorem zDK {q:ML}{nt:Nat}(hq:q.Fits nt){L:List Nat}{hb:Hint}(hsb:yP P 0 nt q.body hb){n:Nat}{I M r m:Nat}{vs:List AV}{arr:Array MapEntry}{clock:Nat}{seen:Array Nat}{R:Ren}{H H3:AH}{tmps:Array Value}{w:World}{kA vA:AV}{e:MapEntry}{d':Nat}{t':T AObj}
  (h:AtHead q nt L I M r m vs arr clock seen R H tmps w) (hset:T.set 40 H.h I (.raw (.mapIter (some m) clock (seen.push e.born) clock))=some t')
  (hk:VR R kA e.key) (hv:VR R vA e.val) (hrd:q.roundK B D n nt hb L I vs kA vA ⟨t',H.next⟩=some (.norm (.ptr I 0::vs),H3)) (hgi:H3.h.get I=t'.get I) (hgm:H3.h.get M=t'.get M) (hIM:M≠I)
  {fr:Frame} {k:List Item} {cs:List Frame} {lo:Nat} (hm:fr.mode= .run) (ht:fr.todo= .inRegion q.opsC ((List.range q.rest.length).map Nat.succ):: .code q.body:: .inBlock q.id2:: .inLoop q.round:: .inBlock q.id::k)
  (hE: ∃en,PK en (q.it::L) (.ptr I 0::vs)/\EnvR R en nt fr.tmps) (hen:fr.tmps.getD q.en undef= .tuple #[e.key,e.val]) (hM:Marks lo R w fr.defers) (hlo:lo<=w.heap.size):
  ∃R' w' tmps' ds,Steps P (lone fr cs (wP { w with drawn:=d'} r (.mapIter (some m) clock (seen.push e.born) clock))) (lone { fr with tmps:=tmps',todo:= .code q.round:: .inLoop q.round:: .inBlock q.id::k,defers:=ds} cs w')/\
   AtHead q nt L I M r m vs arr clock (seen.push e.born) R' H3 tmps' w'/\Ext R H w R' H3 w'/\Marks lo R' w' ds/\H.next<=H3.next:=by
 have hLi:QU H I:=⟨_,h.gi,trivial⟩;have hRel2:Rel R ⟨t',H.next⟩ (wP { w with drawn:=d'} r (.mapIter (some m) clock (seen.push e.born) clock)):=(h.rel.drew d').put h.ri hLi hset rfl
 have hExt2:Ext R H w R ⟨t',H.next⟩ (wP { w with drawn:=d'} r (.mapIter (some m) clock (seen.push e.born) clock)):=(Ext.drew R H w d').trans (Ext.put h.ri hset)
 obtain⟨en,hp,hEn⟩:=hE;unfold ML.roundK at hrd;obtain⟨e',hops,hle⟩:=YQ hrd hp;have htup:VR R (.tuple [kA,vA]) (fr.tmps.getD q.en undef):=by
  rw[hen];exact⟨[e.key,e.val],rfl,_,_,rfl,hk,_,_,rfl,hv,rfl⟩
 have hE1:EnvR R (upd e' q.en (.tuple [kA,vA])) nt fr.tmps:=(hEn.know hq.en htup).le (hle.upd _ _);obtain⟨es,envF,HF,env',c1,c2,c3,c4,_⟩:=wW _ _ [] _ _ _ [] hops (Le.refl _) (fun ms hms=>by simp at hms);obtain⟨i1,i2⟩:=VS q.rest 1;have hi:es.map (·.i)=(List.range q.rest.length).map Nat.succ:=by
  have:es.map (·.i)=(idx q.rest 1).map (·.1):=by rw[<-c2];simp
  rw[this,i1];apply List.map_congr_left;intro x _;omega
 have hmem: ∀e∈es,q.opsC[e.i]? =some e.o:=by
  intro e he;have h1:(e.i,e.o)∈idx q.rest 1:=by rw[<-c2];exact List.mem_map.2 ⟨e,he,rfl⟩
  obtain⟨h2,h3⟩:=i2 _ h1;show(q.oE::q.rest).toArray[e.i]? =some e.o;have h2':1<=e.i:=h2;rw[show e.i=(e.i - 1)+1 from by omega,List.getElem?_toArray,List.getElem?_cons_succ];exact h3
 obtain⟨R1,w1,t1,s1,e1,l1,x1⟩:=K6 hX hr c1 hmem R fr (.code q.body:: .inBlock q.id2:: .inLoop q.round:: .inBlock q.id::k) cs _ hm (by rw[hi];exact ht) hE1 hRel2;have hst:=YC hX hr (ro:=true) (f0:=0) (rs:=[]) (nt:=nt) (n:=n) q.body hb [] _ env' HF _ hsb c4;have hM1:Marks lo R1 w1 fr.defers:=(hM.ext hExt2).ext x1;obtain⟨R2,w2,t2,td2,ds2,env2,H2,s2,e2,l2,x2,n2,m2,o2⟩:=hst lo R1 { fr with tmps:=t1,todo:= .code q.body:: .inBlock q.id2:: .inLoop q.round:: .inBlock q.id::k} (.inBlock q.id2:: .inLoop q.round:: .inBlock q.id::k) cs w1 hm (fun h=>by simp at h) rfl (e1.le c3) l1 hM1 (Nat.le_trans hlo (hExt2.trans x1).size);have hnx:=(jG hr.mono c1).1;rcases o2 with⟨rfl,b2⟩ | ⟨id,k',rfl,b2,L',vs',b3,_⟩ | ⟨k',rfl,b2⟩
 .obtain⟨vs2,p1,p2⟩:=j7 b2;simp only[zC,zK,Ex.norm.injEq]at p2;obtain⟨rfl,rfl⟩:=p2;have hx:=hExt2.trans (x1.trans x2);refine⟨R2,w2,t2,ds2, ?_,⟨l2,⟨env2,p1,e2⟩,hx.sub _ _ _ _ h.ri, ?_, ?_, ?_,h.bo⟩,hx,m2,Nat.le_trans (show H.next<=HF.next from hnx) n2⟩
  .refine s1.trans ((Steps.one (kG (fr:= { fr with tmps:=t1,todo:= .inRegion q.opsC []:: .code q.body:: .inBlock q.id2:: .inLoop q.round:: .inBlock q.id::k}) hm rfl)).trans (s2.trans ?_));refine(Steps.one (W8 (fr:= { fr with tmps:=t2,todo:= .inBlock q.id2:: .inLoop q.round:: .inBlock q.id::k,defers:=ds2}) hm rfl)).trans ?_;exact .one (BC (fr:= { fr with tmps:=t2,todo:= .inLoop q.round:: .inBlock q.id::k,defers:=ds2}) hm rfl)
  .obtain⟨d,c,hr⟩:=h.rm;exact⟨d,c,hx.sub _ _ _ _ hr⟩
  .rw[hgi,T.get_set _ _ _ _ _ hset,if_pos rfl]
  .rw[hgm,T.get_set _ _ _ _ _ hset,if_neg hIM];exact h.gm
 .simp[xE]at b3
 .obtain⟨u,e⟩:=wE b2;simp at e
end
section
variable {P:Program}{B:Tb}{D:Dyn}(hX:Ok P B.X)(hr:Good P (rOf B D))
include hX hr in
theorem zIF {q:ML}{nt:Nat}(hq:q.Fits nt){L:List Nat}(hLd: ∀l∈q.it::L,l≠q.nx/\l≠q.ok/\l≠q.en){hb:Hint}(hsb:yP P 0 nt q.body hb){n:Nat}{I M r m:Nat}(hIM:M≠I)(hI:True){vs:List AV}{arr:Array MapEntry}{clock:Nat}{es:List (AV×AV)}
  {inv:List (AV×AV)->AH->Prop}
  (hstep: ∀vis k v rest Hk,inv vis Hk->(vis++(k,v)::rest).Perm es-> ∃H3,q.roundK B D n nt hb L I vs k v Hk=some (.norm (.ptr I 0::vs),H3)/\H3.h.get I=Hk.h.get I/\H3.h.get M=Hk.h.get M/\inv (vis++[(k,v)]) H3)
  (hraw: ∀vis Hk y t',inv vis Hk->T.set 40 Hk.h I (.raw y)=some t'->inv vis ⟨t',Hk.next⟩)
  {ps:List ((AV×AV)×MapEntry)} (hps1:ps.map (·.1)=es) (hps2:(ps.map (·.2)).Perm arr.toList):
  ∀(N:Nat) (rp vp:List ((AV×AV)×MapEntry)) (seen:Array Nat) (R:Ren) (H:AH) (fr:Frame) (k:List Item) (cs:List Frame) (w:World) (lo:Nat),rp.length=N->(vp++rp).Perm ps->seen.toList=vp.map (·.2.born)->inv (vp.map (·.1)) H->
   (∀p∈ps,VR R p.1.1 p.2.key/\VR R p.1.2 p.2.val)->AtHead q nt L I M r m vs arr clock seen R H fr.tmps w->fr.mode= .run->fr.todo= .code q.round:: .inLoop q.round:: .inBlock q.id::k->Marks lo R w fr.defers->lo<=w.heap.size->
   ∃(R':Ren) (w':World) (tmps':Array Value) (ds:List Deferred) (H':AH) (vp':List ((AV×AV)×MapEntry)) (seen':Array Nat),Steps P (lone fr cs w) (lone { fr with tmps:=tmps',todo:=k,defers:=ds} cs w')/\vp'.Perm ps/\inv (vp'.map (·.1)) H'/\AtHead q nt L I M r m vs arr clock seen' R' H' tmps' w'/\Ext R H w R' H' w'/\Marks lo R' w' ds/\H.next<=H'.next:=by
 have find: ∀e∈arr.toList,∃p∈ps,p.2=e:=fun e he=>by
  have:=hps2.symm.subset he;obtain⟨p,h1,h2⟩:=List.mem_map.1 this;exact⟨p,h1,h2⟩
 intro N
 induction N with
 | zero=>
  intro rp vp seen R H fr k cs w lo hN hperm hseen hinv hvr hA hm ht hM hlo;have:rp=[]:=zL hN;subst this;rw[List.append_nil]at hperm;rcases zAd (P:=P) (cs:=cs) hq hLd hA hm ht with⟨_,tmps',s1,he⟩ | ⟨e,he,hns,_⟩
  .exact⟨R,w,tmps',fr.defers,H,vp,seen,s1,hperm,hinv,⟨hA.rel,he,hA.ri,hA.rm,hA.gi,hA.gm,hA.bo⟩,Ext.refl R H w,hM,Nat.le_refl _⟩
  .obtain⟨p,hp,rfl⟩:=find e he;exact absurd (by rw[hseen];exact List.mem_map.2 ⟨p,hperm.symm.subset hp,rfl⟩) hns
 | succ N ih=>
  intro rp vp seen R H fr k cs w lo hN hperm hseen hinv hvr hA hm ht hM hlo;rcases zAd (P:=P) (cs:=cs) hq hLd hA hm ht with⟨hall,_⟩ | ⟨e,he,hns,tmps',d',s1,hE,hen⟩
  .exfalso;obtain⟨p,rp',rfl⟩: ∃p rp',rp=p::rp':=by
    cases rp with
    | nil=>simp at hN
    | cons p rp'=>exact⟨p,rp',rfl⟩
   have hin:p∈ps:=hperm.subset (by simp);have h1:=hall p.2 (hps2.subset (List.mem_map.2 ⟨p,hin,rfl⟩));rw[hseen]at h1;have hnd:((vp++p::rp').map (·.2.born)).Nodup:=by
    have h2:((vp++p::rp').map (·.2.born)).Perm (arr.toList.map (·.born)):=by
     have:=(hperm.map (·.2)).trans hps2;have:=this.map (·.born);rw[List.map_map]at this;exact this
    exact h2.symm.nodup hA.bo.1
   rw[List.map_append,List.nodup_append]at hnd;exact hnd.2.2 _ h1 _ (by simp) rfl
  .obtain⟨p,hp,rfl⟩:=find e he;have hin:p∈vp++rp:=hperm.symm.subset hp;have hrp:p∈rp:=by
    rcases List.mem_append.1 hin with h1 | h1
    .exact absurd (by rw[hseen];exact List.mem_map.2 ⟨p,h1,rfl⟩) hns
    .exact h1
   obtain⟨r1,r2,rfl⟩:=List.append_of_mem hrp;obtain⟨⟨kA,vA⟩,e⟩:=p;have hperm2:(vp++[((kA,vA),e)]++(r1++r2)).Perm ps:=by
    refine List.Perm.trans ?_ hperm;rw[List.append_assoc];refine List.Perm.append_left _ ?_;exact(List.perm_middle (a:=((kA,vA),e)) (l₁:=r1) (l₂:=r2)).symm
   obtain⟨t',hset⟩:=Option.isSome_iff_exists.1 (T.set_some 40 H.h I (.raw (.mapIter (some m) clock (seen.push e.born) clock)));have hinv2:=hraw _ _ _ _ hinv hset;obtain⟨H3,g1,g2,g3,g4⟩:=hstep (vp.map (·.1)) kA vA ((r1++r2).map (·.1)) ⟨t',H.next⟩ hinv2 (by
    have:=hperm2.map (·.1);rw[hps1]at this;simpa using this)
   obtain⟨hk,hv⟩:=hvr _ hp;obtain⟨R1,w1,t1,ds1,s2,a2,x2,m2,n2⟩:=zDK hX hr (d':=d') (cs:=cs) (lo:=lo) (k:=k) (fr:= { fr with tmps:=tmps',todo:= .inRegion q.opsC ((List.range q.rest.length).map Nat.succ):: .code q.body:: .inBlock q.id2:: .inLoop q.round:: .inBlock q.id::k}) hq hsb hA hset hk hv g1 g2 g3 hIM hm rfl hE hen hM hlo;obtain⟨R2,w2,t2,ds2,H4,vp',seen',s3,p3,i3,a3,x3,m3,n3⟩:=ih (r1++r2) (vp++[((kA,vA),e)]) (seen.push e.born) R1 H3 { fr with tmps:=t1,todo:= .code q.round:: .inLoop q.round:: .inBlock q.id::k,defers:=ds1} k cs w1 lo (by simp at hN⊢;omega) hperm2 (by simp[hseen]) (by simpa using g4)
    (fun p hp=>⟨VR.mono x2.sub _ _ (hvr p hp).1,VR.mono x2.sub _ _ (hvr p hp).2⟩) a2 hm rfl m2 (Nat.le_trans hlo x2.size)
   exact⟨R2,w2,t2,ds2,H4,vp',seen',s1.trans (s2.trans s3),p3,i3,a3,x2.trans x3,m3,Nat.le_trans n2 n3⟩
end
section
variable {P:Program}{B:Tb}{D:Dyn}(hX:Ok P B.X)(hr:Good P (rOf B D))
theorem MR.pairs {R:Ren}{es:List (AV×AV)}{l:List MapEntry}(h:MR R es l): ∃ps:List ((AV×AV)×MapEntry),ps.map (·.1)=es/\(ps.map (·.2)).Perm l/\ ∀p∈ps,VR R p.1.1 p.2.key/\VR R p.1.2 p.2.val:=by
 obtain⟨m,hp,h1,h2⟩:=h;have key: ∀(es:List (AV×AV)) (m:List MapEntry),VRL R (es.map (·.1)) (m.map (·.key))->VRL R (es.map (·.2)) (m.map (·.val))-> ∃ps:List ((AV×AV)×MapEntry),ps.map (·.1)=es/\ps.map (·.2)=m/\ ∀p∈ps,VR R p.1.1 p.2.key/\VR R p.1.2 p.2.val:=by
  intro es
  induction es with
  | nil=>
   intro m h1 _;simp only[List.map_nil,VRL,List.map_eq_nil_iff]at h1;subst h1;exact⟨[],rfl,rfl,by simp⟩
  | cons e es ih=>
   intro m h1 h2;obtain⟨x,xs,hx,h3,h4⟩:=h1;obtain⟨y,ys,hy,h5,h6⟩:=h2
   cases m with
   | nil=>simp at hx
   | cons a m=>
    simp only[List.map_cons,List.cons.injEq]at hx hy;obtain⟨rfl,rfl⟩:=hx;obtain⟨rfl,rfl⟩:=hy;obtain⟨ps,i1,i2,i3⟩:=ih m h4 h6;refine⟨(e,a)::ps,by simp[i1],by simp[i2],fun p hp=> ?_⟩;rcases List.mem_cons.1 hp with rfl | hp
    .exact⟨h3,h5⟩
    .exact i3 p hp
 obtain⟨ps,i1,i2,i3⟩:=key es m h1 h2;exact⟨ps,i1,by rw[i2];exact hp,i3⟩
variable {nt:Nat}
include hX hr in
theorem XG {ops:Array Oper} : ∀ {es:List Ent} {env:Env} {H:AH} {envF:Env} {HF:AH},xI B.X (rOf B D) nt ops env H es envF HF->(∀e∈es,ops[e.i]? =some e.o)->
  ∀(R:Ren) (fr:Frame) (tl:List Nat) (k:List Item) (cs:List Frame) (w:World),fr.mode= .run->fr.todo= .inRegion ops (es.map (·.i)++tl)::k->EnvR R env nt fr.tmps->Rel R H w->
  ∃R' w' tmps',Steps P (lone fr cs w) (lone { fr with tmps:=tmps',todo:= .inRegion ops tl::k} cs w')/\EnvR R' envF nt tmps'/\Rel R' HF w'/\Ext R H w R' HF w'
 | [],env,H,envF,HF,⟨h1,h2⟩,_,R,fr,tl,k,cs,w,hm,ht,hE,hL=>by
  subst h1 h2;refine⟨R,w,fr.tmps, ?_,hE,hL,Ext.refl R H w⟩;have:({ fr with tmps:=fr.tmps,todo:= .inRegion ops tl::k} :Frame)=fr:=by
   have ht':fr.todo= .inRegion ops tl::k:=ht;rw[<-ht']
  rw[this];exact .refl _ _
 | e::es,env,H,envF,HF,⟨h1,h2,h3,env',h4,h5⟩,hmem,R,fr,tl,k,cs,w,hm,ht,hE,hL=>by
  have ho:=hmem e (zH ..);obtain⟨hw,hyes,hno⟩:=K0 _ _ _ h3;have hwd:=zBh hE hw;have ht':fr.todo= .inRegion ops (e.i::(es.map (·.i)++tl))::k:=ht;have key: ∃R1 w1 z,Steps P (lone fr cs w) (lone { fr with tmps:=zBe fr.tmps e.o.dst z,todo:= .inRegion ops (es.map (·.i)++tl)::k} cs w1)/\VR R1 e.v z/\Rel R1 e.H' w1/\Ext R H w R1 e.H' w1:=by
   cases hwe:e.want with
   | true=>
    rw[hwe]at hwd;exact zCC hX hr (cs:=cs) hm ht' ho hwd hE hL (hyes hwe)
   | false=>
    rw[hwe]at hwd;obtain⟨e1,e2⟩:=hno hwe;refine⟨R,w,undef, ?_,by rw[e1];exact UL R,by rw[e2];exact hL,by rw[e2];exact Ext.refl R H w⟩;rw[<-yH ht' ho];exact .one (YU hm ht' ho hwd)
  obtain⟨R1,w1,z,s1,v1,l1,x1⟩:=key;obtain⟨R2,w2,t2,s2,e2,l2,x2⟩:=XG h5 (fun q hq=>hmem q (zF _ hq)) R1 { fr with tmps:=zBe fr.tmps e.o.dst z,todo:= .inRegion ops (es.map (·.i)++tl)::k} tl k cs w1 hm rfl ((hE.mono x1.sub).put v1 h4) l1;exact⟨R2,w2,t2,s1.trans s2,e2,l2,x1.trans x2⟩
noncomputable def ML.preK (q:ML)(B:Tb)(D:Dyn)(nt:Nat)(L:List Nat)(vs:List AV)(H:AH):Rs:=
 unp L vs xN fun e=>zCA B D nt q.opsA none (Nat.succ q.pre.length) (fun e H=>pck L e fun vs=>bV (opd e q.x) fun v=>some (.norm (v::vs),H)) (idx q.pre 0) [] e H
structure ML.Plan (q:ML)(B:Tb)(D:Dyn)(n nt:Nat)(hb:Hint)(L:List Nat)(vs:List AV)(H H':AH) where
 M:Nat
 ks:List Nat
 es:List (AV×AV)
 inv:List (AV×AV)->AH->Prop
 pre:q.preK B D nt L vs H=some (.norm (.map M::vs),H)
 room:True
 map:H.h.get M=some (.map ks es)
 start: ∀x y t1 t2,T.set 40 H.h M (.raw x)=some t1->T.set 40 t1 H.next (.raw y)=some t2->inv [] ⟨t2,H.next+1⟩
 step: ∀vis k v rest Hk,inv vis Hk->(vis++(k,v)::rest).Perm es-> ∃H3,q.roundK B D n nt hb L H.next vs k v Hk=some (.norm (.ptr H.next 0::vs),H3)/\H3.h.get H.next=Hk.h.get H.next/\H3.h.get M=Hk.h.get M/\inv (vis++[(k,v)]) H3
 raw: ∀vis Hk y t',inv vis Hk->T.set 40 Hk.h H.next (.raw y)=some t'->inv vis ⟨t',Hk.next⟩
 fin: ∀vis Hk t1 t2,inv vis Hk->vis.Perm es->T.set 40 Hk.h M (.map ks es)=some t1->T.set 40 t1 H.next .dead=some t2-> ∀R0 w0 R w,Rel R0 H w0->(∀v∈vs,∃z,VR R0 v z)->(∃b d c,R0 M b d c)->Sub R0 R->Rel R ⟨t2,Hk.next⟩ w->Rel R H' w/\H'.next=Hk.next/\ ∀A,A<H.next->(∀b d c,¬R0 A b d c)->H'.h.get A=H.h.get A
end
section
variable {P:Program}{B:Tb}{D:Dyn}(hX:Ok P B.X)(hr:Good P (rOf B D)){nt:Nat}
theorem Ext.told {R:Ren}{H:AH}{w:World}{A b d c:Nat}{o':AObj}{t':T AObj}(hR:R A b d c)(hs:T.set 40 H.h A o'=some t'):Ext R H w R ⟨t',H.next⟩ w:=
 ⟨Sub.refl R,fun _ _ _ _ h=> .inl h,fun _ _ _ _ h=> .inl h,Nat.le_refl _,fun A1 _ hk=>by
  have:A1≠A:=fun e=>by subst e;exact hk _ _ _ hR
  simp only[T.get_set _ _ _ _ _ hs,if_neg this],rfl,rfl,rfl,Nat.le_refl _,fun _ _ _=>rfl⟩
include hX hr in
theorem zDT {q:ML}(hq:q.Fits nt){L:List Nat}(hLd: ∀l∈q.it::L,l≠q.nx/\l≠q.ok/\l≠q.en)(hit: ∀l∈L,l≠q.it){hb:Hint}(hsb:yP P 0 nt q.body hb){n:Nat}{f0:FuncId}{kt vt:TypeId}(hty:B.X.und q.t=some (.map kt vt)){mf:List AV->AH->Option AH}
  (hpl: ∀vs H H',mf vs H=some H'->Nonempty (q.Plan B D n nt hb L vs H H')):KK P nt f0 q.code L mf:=by
 intro ro env vs H H' hp hmf hle lo R fr k cs w hm hro htd hE hL hM hlo;obtain⟨pl⟩:=hpl vs H H' hmf;have hpre:=pl.pre;unfold ML.preK at hpre;obtain⟨e1,hops,hle1⟩:=YQ hpre hp;obtain⟨es,envF,HF,env',c1,c2,c3,c4,_⟩:=wW _ _ [] _ _ _ [] hops (Le.refl _) (fun ms hms=>by simp at hms);obtain⟨vs1,p1,c4⟩:=j7 c4;obtain⟨v1,o1,c4⟩:=j8 c4;simp only[zC,zK,Ex.norm.injEq,List.cons.injEq]at c4;obtain⟨⟨rfl,rfl⟩,rfl⟩:=c4;obtain⟨i1,i2⟩:=VS q.pre 0;have hi:es.map (·.i)=List.range q.pre.length:=by
  have:es.map (·.i)=(idx q.pre 0).map (·.1):=by rw[<-c2];simp
  rw[this,i1];simp
 have hmem: ∀e∈es,q.opsA[e.i]? =some e.o:=by
  intro e he;have h1:(e.i,e.o)∈idx q.pre 0:=by rw[<-c2];exact List.mem_map.2 ⟨e,he,rfl⟩
  have h3:=(i2 _ h1).2;rw[Nat.sub_zero]at h3;show(q.pre++[q.oR]).toArray[e.i]? =some e.o;rw[List.getElem?_toArray,qF (List.getElem?_eq_some_iff.1 h3).1];exact h3
 have hrg:List.range q.opsA.size=es.map (·.i)++[q.pre.length]:=by
  rw[hi,<-List.range_succ];show List.range (q.pre++[q.oR]).toArray.size=_;simp
 obtain⟨R1,w1,t1,s1,e1',l1,x1⟩:=XG hX hr c1 hmem R { fr with todo:= .inRegion q.opsA (es.map (·.i)++[q.pre.length]):: .code (.block q.id (.loop q.round))::k} [q.pre.length] (.code (.block q.id (.loop q.round))::k) cs w hm rfl (hE.le hle1) hL;have hE1:EnvR R1 env' nt t1:=e1'.le c3;obtain⟨m,dm,cm,hRM,hev⟩:=yL (fr:= { fr with tmps:=t1,todo:= .inRegion q.opsA [q.pre.length]:: .code (.block q.id (.loop q.round))::k}) hE1 _ _ o1;obtain⟨arr,clock,hbm,hmr,hks,hdd,hbo⟩:=l1.mapAt pl.map hRM;have hlast:q.opsA[q.pre.length]? =some q.oR:=by
  show(q.pre++[q.oR]).toArray[q.pre.length]? =some q.oR;simp
 have s2:=BB (P:=P) (cs:=cs) (w:=w1) (fr:= { fr with tmps:=t1,todo:= .inRegion q.opsA [q.pre.length]:: .code (.block q.id (.loop q.round))::k}) hm rfl hlast hq.gR hq.pR hq.dR (by rw[hev];exact run_range_map (hX.run_und hty w1) hbm);have hMn:pl.M<HF.next:=(l1.lt _ _ _ _ hRM).2
 have hroom:=pl.room;obtain⟨ta,hta⟩:=Option.isSome_iff_exists.1 (T.set_some 40 HF.h pl.M (.raw (.map arr clock)));obtain⟨tb,htb⟩:=Option.isSome_iff_exists.1 (T.set_some 40 ta HF.next (.raw (.mapIter (some m) clock #[] clock)))
 have lM:Rel R1 ⟨ta,HF.next⟩ w1:=l1.told hRM pl.map ⟨_,pl.map,trivial⟩ hta hbm
 have l2:Rel (R1.add HF.next w1.heap.size 0 0) ⟨tb,HF.next+1⟩ (w1.alloc (.mapIter (some m) clock #[] clock)):=lM.new (c:=0) (x:= .mapIter (some m) clock #[] clock) (H:=⟨ta,HF.next⟩) htb rfl
 have x2:Ext R HF w (R1.add HF.next w1.heap.size 0 0) ⟨tb,HF.next+1⟩ (w1.alloc (.mapIter (some m) clock #[] clock)):=(x1.trans (Ext.told hRM hta)).trans (Ext.add (H:=⟨ta,HF.next⟩) htb)
 obtain⟨ps,hps1,hps2,hps3⟩:=hmr.pairs;have hsub:Sub R1 (R1.add HF.next w1.heap.size 0 0):=R1.sub_add _ _ _ _
 have hvr: ∀p∈ps,VR (R1.add HF.next w1.heap.size 0 0) p.1.1 p.2.key/\VR (R1.add HF.next w1.heap.size 0 0) p.1.2 p.2.val:=fun p hp=>⟨VR.mono hsub _ _ (hps3 p hp).1,VR.mono hsub _ _ (hps3 p hp).2⟩
 have hIM:pl.M≠HF.next:=by omega
 have hEh:EnvR (R1.add HF.next w1.heap.size 0 0) (upd env' q.it (.ptr HF.next 0)) nt (t1.setIfInBounds q.it (.pointer (some ⟨w1.heap.size,0,none⟩))):=
  (hE1.mono hsub).put (dst:=some q.it) (x:= .ptr HF.next 0) ⟨w1.heap.size,0,0,R1.add_self _ _ _ _,rfl⟩ (by have hb:=hq.it;rw[<-zR]at hb;simp only[KM,hb,cond_true])
 have hPh:PK (upd env' q.it (.ptr HF.next 0)) (q.it::L) (.ptr HF.next 0::vs1):=by
  refine⟨_,_,rfl,by simp[look,vC], ?_⟩;have key: ∀(L:List Nat) (vs:List AV),(∀l∈L,l≠q.it)->PK env' L vs->PK (upd env' q.it (.ptr HF.next 0)) L vs:=by
   intro L
   induction L with
   | nil=>intro vs _ h;exact h
   | cons l L ih=>
    intro vs hd h;obtain⟨v,vs',h1,h2,h3⟩:=h;refine⟨v,vs',h1, ?_,ih vs' (fun x hx=>hd x (zF _ hx)) h3⟩;have:=hd l (zH ..);simp only[look,vC,if_neg this];exact h2
  exact key L vs1 hit p1
 have hAH:AtHead q nt L HF.next pl.M w1.heap.size m vs1 arr clock #[] (R1.add HF.next w1.heap.size 0 0) ⟨tb,HF.next+1⟩ (t1.setIfInBounds q.it (.pointer (some ⟨w1.heap.size,0,none⟩))) (w1.alloc (.mapIter (some m) clock #[] clock)):=
  ⟨l2,⟨_,hPh,hEh⟩,R1.add_self _ _ _ _,⟨dm,cm,hsub _ _ _ _ hRM⟩,by simp only[T.get_set _ _ _ _ _ htb,if_true],by simp only[T.get_set _ _ _ _ _ htb,if_neg hIM,T.get_set _ _ _ _ _ hta,if_true],hbo⟩
 have hM2:Marks lo (R1.add HF.next w1.heap.size 0 0) (w1.alloc (.mapIter (some m) clock #[] clock)) fr.defers:=hM.ext x2
 obtain⟨R3,w3,t3,ds3,H3,vp,seen,s3,v3,i3,a3,x3,m3,n3⟩:=zIF hX hr hq hLd hsb hIM hroom pl.step pl.raw hps1 hps2 ps.length ps [] #[] _ ⟨tb,HF.next+1⟩ { fr with tmps:=t1.setIfInBounds q.it (.pointer (some ⟨w1.heap.size,0,none⟩)),todo:= .code q.round:: .inLoop q.round:: .inBlock q.id::k} k cs _ lo rfl (by simp) rfl (pl.start _ _ _ _ hta htb) hvr hAH hm rfl hM2 (Nat.le_trans hlo x2.size)
 obtain⟨d3,c3',hRm3⟩:=a3.rm;obtain⟨tc,htc⟩:=Option.isSome_iff_exists.1 (T.set_some 40 H3.h pl.M (.map pl.ks pl.es));obtain⟨td,htd'⟩:=Option.isSome_iff_exists.1 (T.set_some 40 tc HF.next .dead)
 have hmid:w3.heap[m]? =some (.map arr clock):=a3.rel.obj _ _ _ _ _ hRm3 a3.gm;have hRm3':R3 pl.M m dm cm:=x3.sub _ _ _ _ (hsub _ _ _ _ hRM);have l4:Rel R3 ⟨tc,H3.next⟩ w3:=a3.rel.told hRm3' a3.gm ⟨_,a3.gm,trivial⟩ htc ⟨arr,clock,hmid,hmr.mono (fun A b d c h=>x3.sub _ _ _ _ (hsub _ _ _ _ h)),hks,hdd,hbo⟩
 have l5:Rel R3 ⟨td,H3.next⟩ w3:=l4.kill (H:=⟨tc,H3.next⟩) htd'
 have hvs: ∀v∈vs1,∃z,VR R v z:=by
  have key: ∀(L:List Nat) (vs:List AV),PK env L vs-> ∀v∈vs,∃z,VR R v z:=by
   intro L
   induction L with
   | nil=>intro vs h v hv;simp only[PK]at h;subst h;simp at hv
   | cons l L ih=>
    intro vs h v hv;obtain⟨v0,vs',h1,h2,h3⟩:=h;subst h1;rcases List.mem_cons.1 hv with rfl | hv
    .exact⟨_,hE.get _ _ h2⟩
    .exact ih vs' h3 v hv
  exact key L vs1 hp
 have hMR: ∃b d c,R pl.M b d c:=by
  rcases x1.newA _ _ _ _ hRM with h | h
  .exact⟨_,_,_,h⟩
  .omega
 have hs03:Sub R R3:=(x2.trans x3).sub;obtain⟨l6,hnx,hkp⟩:=pl.fin _ H3 tc td i3 (by rw[<-hps1];exact v3.map _) htc htd' R w R3 w3 hL hvs hMR hs03 l5;have x23:=x2.trans x3;have x4:Ext R HF w R3 H' w3:=⟨x23.sub,x23.new,x23.newA,by have:=x23.next;omega,hkp,x23.os,x23.tape,x23.output,x23.size,x23.keep⟩
 obtain⟨e3,pk3,er3⟩:=a3.env;obtain⟨_,_,hq1,_,pk3'⟩:=pk3;injection hq1 with _ hq1;subst hq1
 refine⟨R3,w3,t3,k,ds3,e3,H', ?_,er3,l6,x4,hle,m3, .inl ⟨rfl,pk3',rfl⟩⟩;refine(Steps.one (W7 hm htd)).trans ?_;refine(Steps.one (cL (fr:= { fr with todo:= .code (.region q.rA q.opsA false):: .code (.block q.id (.loop q.round))::k}) hm rfl)).trans ?_;rw[hrg];refine s1.trans ((Steps.one s2).trans ?_);refine(Steps.one (kG (fr:= { fr with tmps:=t1.setIfInBounds q.it (.pointer (some ⟨w1.heap.size,0,none⟩)),todo:= .inRegion q.opsA []:: .code (.block q.id (.loop q.round))::k}) hm rfl)).trans ?_;refine(Steps.one (QZ (fr:= { fr with tmps:=t1.setIfInBounds q.it (.pointer (some ⟨w1.heap.size,0,none⟩)),todo:= .code (.block q.id (.loop q.round))::k}) hm rfl)).trans ?_;refine(Steps.one (zEM (fr:= { fr with tmps:=t1.setIfInBounds q.it (.pointer (some ⟨w1.heap.size,0,none⟩)),todo:= .code (.loop q.round):: .inBlock q.id::k}) hm rfl)).trans ?_;exact s3
end
def ups (e:List (AV×AV))(x:AV×AV):List (AV×AV):=match UQ x.1 x.2 e with
 | some r=>r
 | none=>e++[x]
def W4:List (AV×AV)->List (AV×AV)->List (AV×AV)
 | e,[]=>e
 | e,x::l=>W4 (ups e x) l
noncomputable def zE0 (t:T AObj):Nat->Nat->Bool
 | _,0=>true
 | A,n+1=>match T.get t A with
  | none=>fN (Nat.succ A) fun A=>zE0 t A n
  | some _=>false
theorem zCU {t:T AObj} : ∀ {n A:Nat},zE0 t A n=true-> ∀C,A<=C->C<A+n->t.get C=none
 | 0,_,_,C,h1,h2=>by omega
 | n+1,A,h,C,h1,h2=>by
  simp only[zE0]at h;split at h
  .rename_i e;rw[yG]at h;by_cases hc:C=A
   .subst hc;exact e
   .exact zCU h C (by simp only[Nat.succ_eq_add_one];omega) (by simp only[Nat.succ_eq_add_one];omega)
  .simp at h
noncomputable def zKO (kk:List Nat)(nb:Nat)(ok:AV->Bool)(x y:AV)(H:AH):Option AH:=match x with
 | .map M=>match y with
  | .map A=>match H.h.get M with
   | some (.map ks es)=>match H.h.get A with
    | some (.map ks' es')=>bif QN kk ks&&QN ks ks'&& !Nat.beq M A&&es.all (fun e=>kD ks e.1&&ok e.2)then
      fN (H.next+1+nb*es.length) fun N=>bif zE0 H.h H.next (1+nb*es.length)then
       match uH H A (.map ks (W4 es' es))with
       | some H1=>some ⟨H1.h,N⟩
       | none=>none
      else none
     else none
    | _=>none
   | _=>none
  | _=>none
 | _=>none
theorem YP (x:AV×AV): ∀(l e:List (AV×AV)),W4 e (l++[x])=ups (W4 e l) x
 | [],e=>rfl
 | y::l,e=>by simp only[List.cons_append,W4];exact YP x l (ups e y)
open Classical in
theorem zI3 {ks:List Nat}{e:List (AV×AV)}{x:AV×AV}(hk:kD ks x.1=true)(hd:e.Pairwise (fun a b=>a.1≠b.1)):(ups e x).Perm (x::e.filter (fun y=>decide (y.1≠x.1))):=by
 obtain⟨k,v⟩:=x;unfold ups;split
 .rename_i r hr;obtain⟨e1,v0,e2,rfl,rfl⟩:=J1 hr;rw[List.pairwise_append,List.pairwise_cons]at hd;have h1:e1.filter (fun y=>decide (y.1≠k))=e1:=List.filter_eq_self.2 fun y hy=>by
   simpa using hd.2.2 y hy (k,v0) (zH ..)
  have h2:e2.filter (fun y=>decide (y.1≠k))=e2:=List.filter_eq_self.2 fun y hy=>by
   have:=hd.2.1.1 y hy;simpa using fun h=>this h.symm
  rw[List.filter_append,List.filter_cons];simp only[ne_eq,not_true_eq_false,decide_false,Bool.false_eq_true,if_false];simp only[ne_eq]at h1 h2;rw[h1,h2];exact List.perm_middle
 .rename_i hr;have hn:=setA_none hk hr;have h1:e.filter (fun y=>decide (y.1≠k))=e:=List.filter_eq_self.2 fun y hy=>by simpa using hn y hy
  simp only[ne_eq]at h1⊢;rw[h1];exact List.perm_append_comm
theorem VG {l m:List (AV×AV)}(h:l.Perm m)(hl:l.Pairwise (fun a b=>a.1≠b.1)):m.Pairwise (fun a b=>a.1≠b.1):=
 (List.Perm.pairwise_iff (fun h e=>h e.symm) h).1 hl
open Classical in
theorem UT {ks:List Nat}{e:List (AV×AV)}(hd:e.Pairwise (fun a b=>a.1≠b.1)): ∀(n:Nat) (l:List (AV×AV)),l.length=n->(∀x∈l,kD ks x.1=true)->l.Pairwise (fun a b=>a.1≠b.1)->
  (W4 e l).Perm (l++e.filter (fun y=>decide (∀x∈l,y.1≠x.1)))/\(W4 e l).Pairwise (fun a b=>a.1≠b.1):=by
 intro n
 induction n with
 | zero=>
  intro l hl hk hp;have:l=[]:=zL hl;subst this;refine⟨?_,hd⟩;rw[List.filter_eq_self.2 (fun y _=>by simp)];simp[W4]
 | succ n ih=>
  intro l hl hk hp;rcases List.eq_nil_or_concat l with rfl | ⟨l,x,rfl⟩
  .simp at hl
  .simp only[List.concat_eq_append]at hl hk hp⊢;rw[List.pairwise_append]at hp;obtain⟨i1,i2⟩:=ih l (by simp at hl;omega) (fun y hy=>hk y (by simp[hy])) hp.1;have h1:=zI3 (hk x (by simp)) i2;rw[YP];have h2:(W4 e l).filter (fun y=>decide (y.1≠x.1)) |>.Perm ((l++e.filter (fun y=>decide (∀z∈l,y.1≠z.1))).filter (fun y=>decide (y.1≠x.1))):=i1.filter _;have h3:(l++e.filter (fun y=>decide (∀z∈l,y.1≠z.1))).filter (fun y=>decide (y.1≠x.1))=l++e.filter (fun y=>decide (∀z∈l++[x],y.1≠z.1)):=by
    rw[List.filter_append,List.filter_filter];congr 1
    .exact List.filter_eq_self.2 fun y hy=>by simpa using hp.2.2 y hy x (by simp)
    .apply List.filter_congr;intro y _;rw[Bool.eq_iff_iff];simp only[zE,zJ,qP,List.mem_singleton];constructor
     .rintro⟨h1,h2⟩ z (hz | rfl)
      .exact h2 z hz
      .exact h1
     .intro h;exact⟨h x (.inr rfl),fun z hz=>h z (.inl hz)⟩
   have h4:(ups (W4 e l) x).Perm ((l++[x])++e.filter (fun y=>decide (∀z∈l++[x],y.1≠z.1))):=by
    refine h1.trans ?_;refine((h2.trans (List.Perm.of_eq h3)).cons x).trans ?_;rw[List.append_assoc];exact List.perm_middle.symm
   refine⟨h4, ?_⟩;refine VG h1.symm ?_;rw[List.pairwise_cons];refine⟨fun y hy=> ?_,List.Pairwise.filter _ i2⟩;have:=(List.mem_filter.1 hy).2;simp only[ne_eq,zJ]at this;exact fun h=>this h.symm
open Classical in
theorem zEn {ks:List Nat}{e l m:List (AV×AV)}(hd:e.Pairwise (fun a b=>a.1≠b.1))(hk: ∀x∈l,kD ks x.1=true)(hl:l.Pairwise (fun a b=>a.1≠b.1))(h:l.Perm m):(W4 e l).Perm (W4 e m):=by
 obtain⟨h1,_⟩:=UT hd _ l rfl hk hl;obtain⟨h2,_⟩:=UT (ks:=ks) hd _ m rfl (fun x hx=>hk x (h.symm.subset hx)) (VG h hl);refine h1.trans (List.Perm.trans ?_ h2.symm);have:e.filter (fun y=>decide (∀x∈l,y.1≠x.1))=e.filter (fun y=>decide (∀x∈m,y.1≠x.1)):=by
  apply List.filter_congr;intro y _;congr 1;apply propext;exact⟨fun a x hx=>a x (h.symm.subset hx),fun a x hx=>a x (h.subset hx)⟩
 rw[this];exact h.append_right _
theorem MR.perm {R:Ren}{es es':List (AV×AV)}{l:List MapEntry}(h:MR R es l)(hp:es.Perm es'):MR R es' l:=by
 obtain⟨ps,h1,h2,h3⟩:=h.pairs;subst h1;have key: ∀ {a b:List (AV×AV)},a.Perm b-> ∀ps:List ((AV×AV)×MapEntry),ps.map (·.1)=a-> ∃qs:List ((AV×AV)×MapEntry),qs.map (·.1)=b/\qs.Perm ps:=by
  intro a b hab
  induction hab with
  | nil=>intro ps h;exact⟨ps,h, .refl _⟩
  | cons x _ ih=>
   intro ps h
   cases ps with
   | nil=>simp at h
   | cons p ps=>
    simp only[List.map_cons,List.cons.injEq]at h;obtain⟨qs,a1,a2⟩:=ih ps h.2;exact⟨p::qs,by simp[a1,h.1],a2.cons p⟩
  | swap x y l=>
   intro ps h
   match ps,h with
   | p::q::ps,h=>
    simp only[List.map_cons,List.cons.injEq]at h;exact⟨q::p::ps,by simp[h.1,h.2.1,h.2.2],List.Perm.swap ..⟩
  | trans _ _ ih1 ih2=>
   intro ps h;obtain⟨qs,a1,a2⟩:=ih1 ps h;obtain⟨rs,b1,b2⟩:=ih2 qs a1;exact⟨rs,b1,b2.trans a2⟩
 obtain⟨qs,a1,a2⟩:=key hp ps rfl;refine⟨qs.map (·.2),(a2.map _).trans h2, ?_⟩;subst a1;have h3': ∀p∈qs,VR R p.1.1 p.2.key/\VR R p.1.2 p.2.val:=fun p hp=>h3 p (a2.subset hp)
 clear a2 h3 h2 hp key h
 induction qs with
 | nil=>simp[VRL]
 | cons q qs ih=>
  obtain⟨i1,i2⟩:=ih (fun p hp=>h3' p (zF _ hp));obtain⟨j1,j2⟩:=h3' q (zH ..);exact⟨⟨_,_,rfl,j1,i1⟩,⟨_,_,rfl,j2,i2⟩⟩
theorem zLn {H H':AH}{A:Nat}{o:AObj}(h:uH H A o=some H'): ∃t,T.set 40 H.h A o=some t/\H'=⟨t,H.next⟩:=by
 unfold uH at h;split at h
 .rename_i t ht;injection h with h
  exact⟨t,ht,h.symm⟩
 .simp at h
def zMG (q:ML)(B:Tb)(D:Dyn)(n nt:Nat)(hb:Hint)(L:List Nat)(vs:List AV)(H:AH)(ks:List Nat)(nb:Nat)(ok:AV->Bool)(M A:Nat):Prop:=
 ∀k v Hk e0,ok v=true->(∀C,C<H.next->C≠M->C≠A->Hk.h.get C=H.h.get C)->Hk.h.get A=some (.map ks e0)->kD ks k=true->H.next<Hk.next->(∀C,Hk.next<=C->C<Hk.next+nb->Hk.h.get C=none)->True->A<H.next->
  ∃H3,q.roundK B D n nt hb L H.next vs k v Hk=some (.norm (.ptr H.next 0::vs),H3)/\H3.next=Hk.next+nb/\H3.h.get A=some (.map ks (ups e0 (k,v)))/\ ∀C,C≠A->(C<Hk.next\/Hk.next+nb<=C)->H3.h.get C=Hk.h.get C
theorem zKM {q:ML}{B:Tb}{D:Dyn}{n nt:Nat}{hb:Hint}{L:List Nat}{vs:List AV}{H H':AH}{kk:List Nat}{nb:Nat}{ok:AV->Bool}{M A:Nat}(h:zKO kk nb ok (.map M) (.map A) H=some H')(hpre:q.preK B D nt L vs H=some (.norm (.map M::vs),H))
  (hrd:zMG q B D n nt hb L vs H kk nb ok M A) (hlt:M<H.next) (hlA:A<H.next) (hin: ∀R0 w0,Rel R0 H w0->(∀v∈vs,∃z,VR R0 v z)-> ∃b d c,R0 A b d c):Nonempty (q.Plan B D n nt hb L vs H H'):=by
 unfold zKO at h;simp only at h;split at h
 .rename_i ks es hM;split at h
  .rename_i ks' es' hA;rw[cond_eq_ite]at h;split at h
   .rename_i hc;simp only[zE,Bool.not_eq_true',List.all_eq_true]at hc;obtain⟨⟨⟨hkk,hks⟩,hne⟩,hkeys⟩:=hc;have hkk:=dP _ _ hkk;subst hkk;have hks:=dP _ _ hks;subst hks;have hne:M≠A:=fun e=>by rw[e]at hne;simp at hne
    rw[yG,cond_eq_ite]at h;split at h
    .rename_i hc2;have hfree:=zCU hc2;split at h
     .rename_i H1 hput;injection h with h
      obtain⟨t1,ht1,rfl⟩:=zLn hput;have hg1:=T.get_set _ _ _ _ _ ht1;have hnx:H'.next=H.next+1+nb*es.length:=by rw[<-h]
      have hgt: ∀C,H'.h.get C=if C=A then some (.map kk (W4 es' es))else H.h.get C:=by rw[<-h];exact hg1
      refine⟨{ M:=M,ks:=kk,es:=es,inv:=fun vis Hk=>Hk.next=H.next+1+nb*vis.length/\Hk.h.get A=some (.map kk (W4 es' vis))/\(∀C,C<H.next->C≠M->C≠A->Hk.h.get C=H.h.get C)/\ ∀C,Hk.next<=C->Hk.h.get C=H.h.get C,pre:=hpre,room:=trivial,map:=hM,start:= ?_,step:= ?_,raw:= ?_,fin:= ?_}⟩
      .intro x y s1 s2 hs1 hs2;have g1:=T.get_set _ _ _ _ _ hs1;have g2:=T.get_set _ _ _ _ _ hs2;refine⟨by simp, ?_,fun C h1 h2 h3=> ?_,fun C h1=> ?_⟩
       .simp only[g2,g1];rw[if_neg (by omega),if_neg (Ne.symm hne)];exact hA
       .simp only[g2,g1];rw[if_neg (by omega),if_neg h2]
       .simp only at h1;simp only[g2,g1];rw[if_neg (by omega),if_neg (by omega)]
      .intro vis k v rest Hk ⟨i1,i2,i3,i4⟩ hperm;have hlen:vis.length+1+rest.length=es.length:=by have:=hperm.length_eq;simp at this;omega
       have hmul:nb*(vis.length+1)<=nb*es.length:=Nat.mul_le_mul_left _ (by omega);rw[Nat.mul_add,Nat.mul_one]at hmul;obtain⟨H3,r1,r2,r3,r4⟩:=hrd k v Hk (W4 es' vis) (hkeys (k,v) (hperm.subset (by simp))).2 i3 i2 (hkeys (k,v) (hperm.subset (by simp))).1 (by omega) (fun C h1 h2=>by rw[i4 C h1];exact hfree C (by omega) (by omega)) trivial hlA;refine⟨H3,r1,r4 _ (by omega) (.inl (by omega)),r4 _ hne (.inl (by omega)), ?_, ?_,fun C h1 h2 h3=> ?_,fun C h1=> ?_⟩
       .rw[r2,i1,zM,qO,Nat.mul_add,Nat.mul_one];omega
       .rw[r3,YP]
       .rw[r4 C h3 (.inl (by omega))];exact i3 C h1 h2 h3
       .rw[r4 C (by omega) (.inr (by omega))];exact i4 C (by omega)
      .intro vis Hk y t' ⟨i1,i2,i3,i4⟩ hs;have g1:=T.get_set _ _ _ _ _ hs;refine⟨i1, ?_,fun C h1 h2 h3=> ?_,fun C h1=> ?_⟩
       .simp only[g1];rw[if_neg (by omega)];exact i2
       .simp only[g1];rw[if_neg (by omega)];exact i3 C h1 h2 h3
       .simp only at h1;simp only[g1];rw[if_neg (by omega)];exact i4 C h1
      .intro vis Hk t1' t2 ⟨i1,i2,i3,i4⟩ hperm hs1 hs2 R0 w0 R w hR0 hvs hMR hsub hR;have g1:=T.get_set _ _ _ _ _ hs1;have g2:=T.get_set _ _ _ _ _ hs2;have hlen:vis.length=es.length:=hperm.length_eq;obtain⟨bA,dA,cA,hAR⟩:=hin R0 w0 hR0 hvs;obtain⟨bM,dM,cM,hMR⟩:=hMR;have e0: ∀C,C≠A-> ∀o,H'.h.get C=some o->t2.get C=some o:=by
        intro C hC o ho;rw[hgt,if_neg hC]at ho;rw[g2,g1];by_cases c1:C=H.next
        .subst c1;rw[hfree _ (Nat.le_refl _) (by omega)]at ho;simp at ho
        .rw[if_neg c1];by_cases c2:C=M
         .subst c2;rw[if_pos rfl];rw[hM]at ho;exact ho
         .rw[if_neg c2];by_cases c3:C<H.next
          .rw[i3 C c3 c2 hC];exact ho
          .by_cases c4:C<H.next+(1+nb*es.length)
           .rw[hfree C (by omega) c4]at ho;simp at ho
           .rw[i4 C (by rw[i1,hlen];omega)];exact ho
       have eA:t2.get A=some (.map kk (W4 es' vis)):=by
        rw[g2,g1,if_neg (by omega),if_neg (Ne.symm hne)];exact i2
       have hlive: ∀C,QU H' C->QU ⟨t2,Hk.next⟩ C:=by
        intro C ⟨o,ho,hd⟩;by_cases c:C=A
        .subst c;exact⟨_,eA,trivial⟩
        .exact⟨o,e0 C c o ho,hd⟩
       refine⟨⟨hR.fn,fun A1 A2 b d c d' c' r r' l l'=>hR.inj _ _ _ _ _ _ _ r r' (hlive _ l) (hlive _ l'),fun C b d c o r ho=> ?_,fun C b d c r=>⟨(hR.lt _ _ _ _ r).1,by have:=(hR.lt _ _ _ _ r).2;simp only at this;rw[hnx];rw[i1,hlen]at this;exact this⟩⟩,by rw[hnx,i1,hlen],fun C hC hn=> ?_⟩
       .by_cases c0:C=A
        .subst c0;rw[hgt,if_pos rfl]at ho;injection ho with ho;subst ho
         obtain⟨arr,clock,o1,o2,o3,o4,o5⟩:=hR.obj _ _ _ _ _ r eA;obtain⟨_,_,_,_,_,pwA,_⟩:=hR0.obj _ _ _ _ _ hAR hA;obtain⟨_,_,_,_,kM,pwM,_⟩:=hR0.obj _ _ _ _ _ hMR hM;have hp:=zEn (ks:=kk) pwA (fun x hx=>kM x (hperm.subset hx)) (VG hperm.symm pwM) hperm;exact⟨arr,clock,o1,o2.perm hp,fun e he=>o3 e (hp.symm.subset he),VG hp o4,o5⟩
        .exact hR.obj _ _ _ _ _ r (e0 C c0 o ho)
       .rw[hgt,if_neg (fun e=>by subst e;exact hn _ _ _ hAR)]
     .simp at h
    .simp at h
   .simp at h
  .simp at h
 .simp at h
def zKX:List Nat->Code->Code
 | [],c=>c
 | 0::p, .seq a _=>zKX p a
 | _::p, .seq _ b=>zKX p b
 | 0::p, .cond _ a _=>zKX p a
 | _::p, .cond _ _ b=>zKX p b
 | _::p, .block _ b=>zKX p b
 | _::p, .loop b=>zKX p b
 | _,c=>c
def zOk (fn:Func)(p:List Nat):Code:=match fn.body with
 | some b=>zKX p b
 | none=> .skip
def zNU {α:Type} :List α->List α
 | []=>[]
 | [_]=>[]
 | a::l=>a::zNU l
def zNJ {α:Type}(d:α):List α->α
 | []=>d
 | [a]=>a
 | _::l=>zNJ d l
def op0:Oper:=⟨none, .alloc 0,0,"", #[],none⟩
def ml0:ML:=⟨0,0,0,[],op0,op0,op0,op0,[],0,0, .skip,0, .tmp 0,0,0,0,0⟩
def zF9:Op->TypeId×Operand
 | .range t x=>(t,x)
 | _=>(0, .tmp 0)
def mlOf:Code->ML
 | .seq (.region rA opsA _) (.block id (.loop (.seq (.region rB opsB _) (.seq (.cond (.tmp ok) .skip (.exit _)) (.block id2 (.seq (.region rC opsC _) body))))))=>
  match opsB.toList,opsC.toList with
  | [oN,oX],oE::rest=>
   let oR:=zNJ op0 opsA.toList
   ⟨rA,rB,rC,zNU opsA.toList,oR,oN,oX,oE,rest,id,id2,body,(zF9 oR.op).1,(zF9 oR.op).2,oR.dst.getD 0,oN.dst.getD 0,ok,oE.dst.getD 0⟩
  | _,_=>ml0
 | _=>ml0
def fE:Code->Hint->List (Code×List Nat×(List AV->AH->Option AH))
 | .seq a b, .t L m=>[(.seq a b,L,m)]
 | .seq a b, .s ha hb=>fE a ha++fE b hb
 | .cond _ a b, .c _ ha hb=>fE a ha++fE b hb
 | .cond _ a b, .cl ha hb=>fE a ha++fE b hb
 | .cond _ a b, .cr ha hb=>fE a ha++fE b hb
 | .block _ b, .b _ hb=>fE b hb
 | .block _ b, .b0 hb=>fE b hb
 | .loop b, .l _ hb=>fE b hb
 | _,_=>[]
def zBg:Hint->Bool
 | .o=>true
 | .s a b=>zBg a&&zBg b
 | .c _ a b=>zBg a&&zBg b
 | .cl a b=>zBg a&&zBg b
 | .cr a b=>zBg a&&zBg b
 | .b _ a=>zBg a
 | .b0 a=>zBg a
 | .l _ a=>zBg a
 | .rf _ _=>false
 | .t _ _=>true
theorem zLv {P:Program}(f0:FuncId)(nt:Nat): ∀(c:Code) (h:Hint),zBg h=true->(∀x∈fE c h,KK P nt f0 x.1 x.2.1 x.2.2)->yP P f0 nt c h:=by
 intro c
 induction c with
 | seq a b iha ihb=>
  intro h hh ht
  cases h<;>simp only[yP]
  .simp only[zBg,zE]at hh;simp only[fE,qP]at ht;exact⟨iha _ hh.1 (fun x hx=>ht x (.inl hx)),ihb _ hh.2 (fun x hx=>ht x (.inr hx))⟩
  .exact ht (.seq a b,_,_) (by simp[fE])
 | cond c a b iha ihb=>
  intro h hh ht
  cases h<;>simp only[yP]<;>
   (simp only[zBg,zE]at hh
    simp only[fE,qP]at ht;exact⟨iha _ hh.1 (fun x hx=>ht x (.inl hx)),ihb _ hh.2 (fun x hx=>ht x (.inr hx))⟩)
 | block id b ih=>
  intro h hh ht
  cases h<;>simp only[yP]<;>first | exact ih _ hh ht | trivial
 | loop b ih=>
  intro h hh ht
  cases h<;>simp only[yP]
  exact ih _ hh ht
 | rangeFunc f ps a b _ _=>intro h hh ht;cases h<;>simp_all [yP,zBg]
 | _=>intro h hh ht;simp[yP]
def zCj (fn:Func)(h:Hint):List (Code×List Nat×(List AV->AH->Option AH)):=match fn.body with
 | some b=>fE b h
 | none=>[]
theorem zET {f:FuncId}{fn:Func}{h:Hint}(hn:zBg h=true)(ht: ∀x∈zCj fn h,KK PP fn.ntmps f x.1 x.2.1 x.2.2): ∀body,fn.body=some body->yP PP f fn.ntmps body h:=by
 intro body hb;refine zLv _ _ _ _ hn (fun x hx=>ht x ?_);unfold zCj;rw[hb];exact hx
theorem zKL {X:Cx}(hX:Ok PP X){q:ML}{nt:Nat}(hq:q.Fits nt){L:List Nat}(hLd: ∀l∈q.it::L,l≠q.nx/\l≠q.ok/\l≠q.en)(hit: ∀l∈L,l≠q.it){hb:Hint}(hsb:KP hb=true){f0:FuncId}{kt vt:TypeId}(hty:X.und q.t=some (.map kt vt)){mf:List AV->AH->Option AH}
  (hpl: ∀vs H H',mf vs H=some H'->Nonempty (q.Plan ⟨X,[]⟩ KX 0 nt hb L vs H H')):KK PP nt f0 q.code L mf:=
 zDT (B:=⟨X,[]⟩) (D:=KX) hX (VU U7 SOk.nil) hq hLd hit (VJ _ _ _ _ hsb) hty hpl
theorem zFE {H:AH}(o:AObj)(h:H.h.get H.next=none): ∃t,T.set 40 H.h H.next o=some t/\ ∀K,KR H o K=K H.next ⟨t,H.next+1⟩:=by
 obtain⟨t,ht⟩:=Option.isSome_iff_exists.1 (T.set_some 40 H.h H.next o)
 exact⟨t,ht,fun K=>by simp only[KR,h,ht,yG]⟩
theorem zIL {A o:Nat}{H:AH}{v:AV}(h:ld1 (.ptr A o) H=some v): ∃l e sz g,H.h.get A=some (.cells l e sz g)/\nth l o=some v:=by
 unfold ld1 at h;simp only at h;split at h
 .rename_i l e sz g hA;exact⟨l,e,sz,g,hA,h⟩
 .simp at h
theorem zNI {A o:Nat}{H:AH}{v:AV}{l:List AV}{e:TypeId}{sz:Nat}{g:Bool}(hA:H.h.get A=some (.cells l e sz g))(h:nth l o=some v):ld1 (.ptr A o) H=some v:=by
 simp only[ld1,hA,h]
theorem zIP {R:Ren}{H:AH}{w:World}(hR:Rel R H w){A b d c:Nat}(hr:R A b d c){l:List AV}{e:TypeId}{sz:Nat}{g:Bool}(hA:H.h.get A=some (.cells l e sz g)){o M:Nat}(hn:nth l o=some (.map M)): ∃b d c,R M b d c:=by
 obtain⟨_,_,_,l',_,_,_,_,hl,_⟩:=hR.obj _ _ _ _ _ hr hA;rw[cR]at hn;obtain⟨v,_,hv⟩:=VRL.get _ _ hl _ _ hn;obtain⟨b,d,c,h,_⟩:=hv;exact⟨b,d,c,h⟩
theorem zEo {kk:List Nat}{nb:Nat}{ok:AV->Bool}{M A:Nat}{H H':AH}(h:zKO kk nb ok (.map M) (.map A) H=some H'):(∃ks es,H.h.get M=some (.map ks es))/\ ∃ks es,H.h.get A=some (.map ks es):=by
 unfold zKO at h;simp only at h;split at h
 .rename_i hM;split at h
  .rename_i hA;exact⟨⟨_,_,hM⟩,_,_,hA⟩
  .simp at h
 .simp at h
theorem zKN {ks:List Nat}{A:Nat}{k v:AV}{H:AH}{e0:List (AV×AV)}(hk:kD ks k=true)(hA:H.h.get A=some (.map ks e0)): ∃t,T.set 40 H.h A (.map ks (ups e0 (k,v)))=some t/\upM ks (.map A) k v H=some (qZ,⟨t,H.next⟩):=by
 obtain⟨t,ht⟩:=Option.isSome_iff_exists.1 (T.set_some 40 H.h A (.map ks (ups e0 (k,v))));refine⟨t,ht, ?_⟩;have he:QN ks ks=true:=by
  clear ht hA hk
  induction ks with
  | nil=>rfl
  | cons a l ih=>simp[QN,ih]
 simp only[upM,hk,hA,he,cond_true];unfold ups at ht;simp only at ht
 cases hs:UQ k v e0 with
 | some r=>rw[hs]at ht;simp only[uH,ht]
 | none=>rw[hs]at ht;simp only[uH,ht]
def isAg (n:Nat)(v:AV):Bool:=match v with
 | .agg l=>Nat.beq (fL l 0) n&&qY l
 | _=>false
theorem zFS {n:Nat}{v:AV}(h:isAg n v=true): ∃l,v= .agg l/\l.length=n/\qY l=true:=by
 unfold isAg at h;split at h
 .rename_i l;simp only[zE,Nat.beq_eq,yE]at h;exact⟨l,rfl,h.1,h.2⟩
 .simp at h
theorem UY: ∀(l:List AV),takeN l.length l=some l
 | []=>rfl
 | a::l=>by simp[takeN,UY l]
theorem zEY {l c:List AV}(h:c.length=l.length):setAt c 0 l=some l:=by
 have: ∀(c l:List AV),c.length=l.length->over c l=some l:=by
  intro c
  induction c with
  | nil=>intro l h;cases l with
   | nil=>rfl
   | cons=>simp at h
  | cons a c ih=>intro l h;cases l with
   | nil=>simp at h
   | cons b l=>simp only[zP,Nat.add_right_cancel_iff]at h;simp[over,ih l h]
 cases c with
 | nil=>cases l with
  | nil=>rfl
  | cons=>simp at h
 | cons a c=>simpa[setAt]using this (a::c) l h
theorem zL3 {n A:Nat}{H:AH}{cs l:List AV}{e:TypeId}{sz:Nat}{g:Bool}(hA:H.h.get A=some (.cells l e sz g))(hl:l.length=n)(hc:cs.length=n)(ha:qY cs=true)(hz:Nat.blt 0 sz=true): ∃t,T.set 40 H.h A (.cells cs e sz g)=some t/\stN n (.ptr A 0) (.agg cs) H=some (qZ,⟨t,H.next⟩):=by
 obtain⟨t,ht⟩:=Option.isSome_iff_exists.1 (T.set_some 40 H.h A (.cells cs e sz g));refine⟨t,ht, ?_⟩;have hb:(cs.length.beq n)=true:=by rw[Nat.beq_eq];exact hc
 simp only[stN,hA,yC,yE,hb,ha,hz,Bool.and_true,cond_true,zEY (show l.length=cs.length by omega),uH,ht]
theorem zLC {n A:Nat}{H:AH}{cs:List AV}{e:TypeId}{sz:Nat}{g:Bool}(hA:H.h.get A=some (.cells cs e sz g))(hc:cs.length=n):ldN n (.ptr A 0) H=some (.agg cs):=by
 subst hc;have:xW cs 0 cs.length=some cs:=by
  cases cs with
  | nil=>rfl
  | cons a l=>simpa[xW]using UY (a::l)
 simp only[ldN,hA,this]
end Go.Eng
end
section
namespace Go.Proofs
open Go.Shelf
def Tryz.laysInsert_ren:Go.Shelf.Ren:=⟨fun | 22=>138 | 29=>187 | 30=>188 | 36=>219 | 17=>229 | n=>n,fun | 24=>117 | 9=>9 | 3=>3 | 4=>4 | 0=>0 | n=>n,fun | n=>n⟩
theorem Tryz.laysInsert:Go.Proofs.Lays2.n22 Tryz.prog Tryz.laysInsert_ren:= {
 mixed:=by kernel_rfl
 f17:=Tryz.func229.trans (congrArg some (by kernel_rfl))
 f22:=Tryz.func138.trans (congrArg some (by kernel_rfl))
 f29:=Tryz.func187.trans (congrArg some (by kernel_rfl))
 f30:=Tryz.func188.trans (congrArg some (by kernel_rfl))
 f36:=Tryz.func219.trans (congrArg some (by kernel_rfl))
 t0:=Tryz.underlying0
 a0:=Tryz.isAgg0
 z0:=Tryz.sizeOf0
 v0:=Tryz.zeroValue0
 t3:=Tryz.underlying3
 a3:=Tryz.isAgg3
 z3:=Tryz.sizeOf3
 v3:=Tryz.zeroValue3
 t4:=Tryz.underlying4
 a4:=Tryz.isAgg4
 z4:=Tryz.sizeOf4
 v4:=Tryz.zeroValue4
 t9:=Tryz.underlying9
 a9:=Tryz.isAgg9
 z9:=Tryz.sizeOf9
 v9:=Tryz.zeroValue9
 t24:=Tryz.underlying117
 a24:=Tryz.isAgg117
 z24:=Tryz.sizeOf117
 v24:=Tryz.zeroValue117
 i9:=by kernel_rfl}
end Go.Proofs
end
section
namespace Go.Eng
open Go.Proofs
noncomputable def zMU (e:Nat)(vs:List AV)(H:AH):Option (AV×AH):=
 match vs with
 | [.slice A off len cc, .int .i64 (.ofNat i), .slice B o2 m _]=>
  match H.h.get A,H.h.get B with
  | some (.cells l e' sz g),some (.cells lB _ sB gB)=>
   bif g&&(!gB&&Nat.blt 0 sB)&&Nat.beq off 0&&Nat.beq cc 1&&Nat.beq sz 1&&Nat.beq e' e&&Nat.blt i len&&Nat.blt 0 m&&Nat.beq (fL l 0) len&&Nat.ble ((len+m)*16) 140737488355328&&qY l then
    match xW lB o2 m with
    | some new=>bif qY new then
      match uH H A .dead with
      | some H1=>fG (len+m) e 1 (l.take i++new++l.drop i) H1
      | none=>none
     else none
    | none=>none
   else none
  | _,_=>none
 | _=>none
theorem wD (b:Nat)(e:TypeId)(fz:Nat×Nat): ∀(vs:List Value) (o:Nat) (w:World) (arr:Array Value),w.heap[b]? =some (.cells arr e fz)->w.setCells b o vs=wP w b (.cells (jO arr o vs) e fz)
 | [],o,w,arr,h=>by simp only[World.setCells,jO];exact(YL w b _ h).symm
 | v::vs,o,w,arr,h=>by
  have hb:b<w.heap.size:=(Array.getElem?_eq_some_iff.1 h).1;have h1:w.setCell ⟨b,o,none⟩ v=wP w b (.cells (arr.setIfInBounds o v) e fz):=by
   have hg:w.heap[b]= .cells arr e fz:=by
    have:=(Array.getElem?_eq_some_iff.1 h).2;exact this
   unfold World.setCell wP;congr 1;apply Array.ext
   .simp
   .intro j h2 h3;simp only[Array.size_modify]at h2;rw[Array.getElem_modify,Array.getElem_setIfInBounds]
    .by_cases hj:b=j
     .subst hj;simp[hg]
     .simp[hj]
    .exact h2
  rw[World.setCells,h1,wD b e fz vs (o+1) _ (arr.setIfInBounds o v) (v8 _ _ _ hb),cD];rfl
theorem zDA (w:World)(o x:Obj):wP (w.alloc o) w.heap.size x=w.alloc x:=by
 unfold wP World.alloc;congr 1;apply Array.ext
 .simp
 .intro j h2 h3;simp at h2 h3;rw[Array.getElem_setIfInBounds]
  .by_cases hj:w.heap.size=j
   .subst hj;simp
   .have:j<w.heap.size:=by omega
    simp only[if_neg hj];rw[Array.getElem_push,Array.getElem_push,dif_pos this,dif_pos this]
  .simp;omega
theorem WL {v:Value}(h:zNA v):v.oneCell'=true:=by cases v<;>simp_all [zNA,Value.oneCell']
theorem zNo {α:Type}{pre l spare vs:List α}{d i m n:Nat}(hd:pre.length=d)(hn:l.length=n)(hi:i<=n)(hv:vs.length=m)(hs:m<=spare.length):
  ((pre++(l++spare)).take (d+(i+m))++l.drop i++(pre++(l++spare)).drop (d+(i+m)+(l.drop i).length)).take (d+i)++vs++((pre++(l++spare)).take (d+(i+m))++l.drop i++(pre++(l++spare)).drop (d+(i+m)+(l.drop i).length)).drop (d+i+vs.length)=pre++((l.take i++vs++l.drop i)++spare.drop m):=by
 have hY:((pre++(l++spare)).take (d+(i+m))).length=d+i+m:=by simp;omega
 have e1:((pre++(l++spare)).take (d+(i+m))++l.drop i++(pre++(l++spare)).drop (d+(i+m)+(l.drop i).length)).take (d+i)=pre++l.take i:=by
  rw[List.append_assoc,List.take_append_of_le_length (by omega),List.take_take,Nat.min_eq_left (by omega),List.take_append,zO (by omega),List.take_append,show d+i - pre.length=i from by omega,show i - l.length=0 from by omega];simp
 have e2:((pre++(l++spare)).take (d+(i+m))++l.drop i++(pre++(l++spare)).drop (d+(i+m)+(l.drop i).length)).drop (d+i+vs.length)=l.drop i++spare.drop m:=by
  rw[List.append_assoc,List.drop_left' (by omega)];congr 1;rw[zU,List.drop_append,qB (by omega),List.drop_append,qB (by omega),show d+(i+m)+(l.length - i) - pre.length - l.length=m from by omega];simp
 rw[e1,e2];simp
theorem growL {α:Type}{a z1 z2 vs r:List α}{i m k:Nat}(ha:a.length=i)(hz:z1.length=m+k)(hv:vs.length=m)(hr:r.length=k):
  ((a++z1++z2).take i++vs++(a++z1++z2).drop (i+vs.length)).take (i+m)++r++((a++z1++z2).take i++vs++(a++z1++z2).drop (i+vs.length)).drop (i+m+r.length)=(a++vs++r)++z2:=by
 have e0:(a++z1++z2).take i=a:=by rw[List.append_assoc,List.take_left' ha]
 have e3:(a++z1++z2).drop (i+vs.length)=z1.drop m++z2:=by
  rw[List.append_assoc,List.drop_append,qB (by omega),List.drop_append,show i+vs.length - a.length=m from by omega,show m - z1.length=0 from by omega];simp
 rw[e0,e3];have e1:(a++vs++(z1.drop m++z2)).take (i+m)=a++vs:=List.take_left' (by simp;omega);have e2:(a++vs++(z1.drop m++z2)).drop (i+m+r.length)=z2:=by
  rw[<-List.append_assoc,List.drop_left' (by simp;omega)]
 rw[e1,e2]
theorem zLH {R:Ren}{H H':AH}{w:World}{args:List AV}{az:List Value}{v:AV}(h:zMU (Tryz.laysInsert_ren.t 9) args H=some (v,H'))(hv:VRL R args az)(hL:Rel R H w):
  H.next<=H'.next/\ ∃(z:Value) (w':World) (R':Ren),Calls PP (Tryz.laysInsert_ren.f 22) ⟨az⟩ w (fun e w1=>e= .returned z/\w1=w')/\VR R' v z/\Rel R' H' w'/\Ext R H w R' H' w':=by
 unfold zMU at h;split at h
 .rename_i A off len cc i B o2 m c2;split at h
  .rename_i l e' sz g lB eB szB gB hA hB;rw[cond_eq_ite]at h;split at h
   .rename_i hc;simp only[zE,Nat.beq_eq,zR,qA,Bool.not_eq_true']at hc;obtain⟨⟨⟨⟨⟨⟨⟨⟨⟨⟨rfl,rfl,hsB⟩,rfl⟩,rfl⟩,rfl⟩,rfl⟩,hi⟩,hm⟩,hll⟩,hbig⟩,hcl⟩:=hc;rw[yE]at hll;split at h
    .rename_i new hnew;rw[cond_eq_ite]at h;split at h
     .rename_i hcn;split at h
      .rename_i H1 hput;obtain⟨t1,ht1,rfl⟩: ∃t1,T.set 40 H.h A .dead=some t1/\H1=⟨t1,H.next⟩:=by
        unfold uH at hput;split at hput
        .rename_i t1 ht1;simp only[zC]at hput;exact⟨t1,ht1,hput.symm⟩
        .simp at hput
       unfold fG at h;split at h
       .rename_i A2 H2 hnw;obtain⟨t2,ht2,rfl,rfl,_⟩:=uI hnw;simp only[yG,zC,zK]at h;obtain⟨rfl,rfl⟩:=h;refine⟨Nat.le_succ _, ?_⟩;obtain⟨v1,az1,rfl,hv1,hv⟩:=hv;obtain⟨v2,az2,rfl,hv2,hv⟩:=hv;obtain⟨v3,az3,rfl,hv3,hv⟩:=hv;simp only[VRL]at hv;subst hv;obtain⟨b,d,c,hR,rfl⟩:=hv1;simp only[VR]at hv2;subst hv2;obtain⟨b2,d2,c2',hR2,rfl⟩:=hv3;obtain⟨arr,fz,pre,l',spare,a1,a2,a3,a4,a5,a6,a7,sp,a8⟩:=hL.cellsAt hA hR;obtain⟨arr2,fz2,pre2,lB',spare2,b1,b2',b3,b4,b5,b6,b7,_⟩:=hL.cellsAt hB hR2;obtain⟨rfl,hin⟩:=bF _ _ _ _ hnew;obtain⟨a6,hc63⟩:=a6 rfl;obtain⟨rfl,hfz2⟩:=b5 rfl;obtain rfl:=hfz2.1 hsB;have hdec:xU 1 c=c:=by rw[kE c (by omega)];simp
        rw[hdec];have hne:b2≠b:=fun e=>by
         subst e;have:=hL.inj _ _ _ _ _ _ _ hR hR2 (Rel.live hA) (Rel.live hB);subst this;rw[hA]at hB;simp at hB
        have hl':=VRL.length _ _ a4;have hlB:=VRL.length _ _ b4;have hvsR:VRL R ((lB.drop o2).take m) ((lB'.drop o2).take m):=(b4.drop o2).take m;generalize hvs':(lB'.drop o2).take m=vs' at hvsR;have hvl:vs'.length=m:=by rw[<-hvs'];simp;omega
        have hal:arr.size=d+l'.length+spare.length:=by
         have:=congrArg List.length a2;simp at this;omega
        have hget: ∀j v,l'[j]? =some v->w.cell? ⟨b,d+0+j,none⟩=some v:=fun j v hj=>by
         simp only[World.cell?,a1];have hj':=(List.getElem?_eq_some_iff.1 hj).1;rw[<-Array.getElem?_toList,a2,qG (by omega),show d+0+j - pre.length=j from by omega,qF hj'];simpa using hj
        have hvs: ∀j v,vs'[j]? =some v->w.cell? ⟨b2,d2+o2+j,none⟩=some v:=fun j v hj=>by
         simp only[World.cell?,b1];have hj':=(List.getElem?_eq_some_iff.1 hj).1;rw[<-hvs',List.getElem?_take,qR]at hj;rw[<-Array.getElem?_toList,b2',qG (by omega),show d2+o2+j - pre2.length=o2+j from by omega,List.append_nil];split at hj
         .simpa using hj
         .simp at hj
        have h1c: ∀v∈l',v.oneCell'=true:=fun v hv=>WL (vM a4 hcl v hv)
        have h1v: ∀v∈vs',v.oneCell'=true:=fun v hv=>WL (vM hvsR hcn v hv)
        have hcells:VRL R (l.take i++(lB.drop o2).take m++l.drop i) (l'.take i++vs'++l'.drop i):=((a4.take i).append hvsR).append (a4.drop i);by_cases hroom:len+m<=c
        .have hcall:=Any2.slices_Insert_string_shift Tryz.laysInsert b (d+0) len c i b2 (d2+o2) m (xU c2 c2') l' vs' w hi hm hroom (by omega) hne (by omega) hvl hget
          (fun j hj=>by
           simp only[World.cell?,a1];simp;omega)
          (fun j hj=>by
           have:=a7 (by decide) (d+0+j) (by omega);simp only[World.frozen?,a1];simp only[Bool.and_eq_false_iff,decide_eq_false_iff_not];by_cases h0:fz.1<=d+0+j
           .exact .inr fun h1=>this ⟨h0,h1⟩
           .exact .inl h0)
          hvs h1c h1v eB (Tryz.laysInsert_ren.t 9) arr2.size arr.size (by simp only[World.shape?,b1]) (by simp only[World.shape?,a1]) (by omega) (by simp only[World.frozen?,b1];simp) (by simp only[World.frozen?,b1];simp)
         have hw1:(w.drew).heap[b]? =some (.cells arr (Tryz.laysInsert_ren.t 9) fz):=a1;have hblt:b<w.heap.size:=(hL.lt _ _ _ _ hR).1;rw[wD b _ fz _ _ _ _ hw1,wD b _ fz _ _ _ _ (v8 w.drew _ _ hblt),cD]at hcall;refine⟨_,_,R.add H.next b d c,hcall,⟨b,d,c,R.add_self _ _ _ _,by simp[hdec]⟩, ?_, ?_⟩
         .refine(hL.drew (w.drawn+1)).move hR (Rel.live hA) ht1 ht2 ?_;refine⟨_,fz,pre,l'.take i++vs'++l'.drop i,spare.drop m,rfl, ?_,a3,VRL.mono (R.sub_add _ _ _ _) _ _ hcells,fun h=>by simp at h,fun _=>⟨?_,hc63⟩,fun hz j hj=> ?_,_,VRL.mono (R.sub_add _ _ _ _) _ _ (a8.drop m)⟩
          .rw[jT _ _ _ (by rw[wZ];omega),jT _ _ _ (by simp;omega),a2,Nat.add_zero];exact zNo a3 (by omega) (by omega) hvl (by omega)
          .simp;omega
          .rw[wZ,wZ]at hj;exact a7 hz j hj
         .exact(Ext.drew R H w (w.drawn+1)).trans (Ext.move (w:=w.drew) hR ht1 ht2)
        .have hcall:=Any2.slices_Insert_string_grow Tryz.laysInsert b (d+0) len c i b2 (d2+o2) m (xU c2 c2') l' vs' w hi hm (by omega) (by omega) hbig (by omega) hvl hget hvs h1c h1v;generalize hG:grownCap w (len+m) c (Tryz.laysInsert_ren.t 9)=G at hcall;have hG1:len+m<=G:=by rw[<-hG];simp only[grownCap,Question.cut];omega
         have hG2:G<9223372036854775808:=by
          rw[<-hG];simp only[grownCap,Question.cut];have:=Nat.mod_lt (w.tape w.drawn (.appendCap (len+m) c (Tryz.laysInsert_ren.t 9))) (show 2 ^ 63 - (len+m)>0 by omega);omega
         generalize hROW:((l'.take i).toArray++Builtin.zeroCells (Value.string ⟨#[]⟩).cells (len+m - i)++Builtin.zeroCells (Value.string ⟨#[]⟩).cells (G - (len+m)))=ROW at hcall;have hRl:ROW.toList=l'.take i++(Builtin.zeroCells (Value.string ⟨#[]⟩).cells (len+m - i)).toList++(Builtin.zeroCells (Value.string ⟨#[]⟩).cells (G - (len+m))).toList:=by rw[<-hROW];simp
         have hz1:(Builtin.zeroCells (Value.string ⟨#[]⟩).cells (len+m - i)).toList.length=m+(len - i):=by
          rw[Array.length_toList,xB];simp[Value.cells];omega
         have hz2:(Builtin.zeroCells (Value.string ⟨#[]⟩).cells (G - (len+m))).toList.length=G - (len+m):=by
          rw[Array.length_toList,xB];simp[Value.cells]
         have hRs:ROW.size=G:=by
          have:=congrArg List.length hRl;simp only[zM,hz1,hz2,zQ,Array.length_toList]at this;omega
         have hw1:((w.alloc (.cells ROW (Tryz.laysInsert_ren.t 9))).drew).heap[w.heap.size]? =some (.cells ROW (Tryz.laysInsert_ren.t 9)):=vK w _;have hblt:w.heap.size< ((w.alloc (.cells ROW (Tryz.laysInsert_ren.t 9))).drew).heap.size:=by
          have:=yQ w (.cells ROW (Tryz.laysInsert_ren.t 9));show w.heap.size< (w.alloc (.cells ROW (Tryz.laysInsert_ren.t 9))).heap.size;omega
         rw[wD _ _ (0,0) _ _ _ _ hw1]at hcall;have hw2:((wP (w.alloc (.cells ROW (Tryz.laysInsert_ren.t 9))).drew w.heap.size (.cells (jO ROW i vs') (Tryz.laysInsert_ren.t 9))).drew).heap[w.heap.size]? =some (.cells (jO ROW i vs') (Tryz.laysInsert_ren.t 9)):=v8 _ _ _ hblt;rw[wD _ _ (0,0) _ _ _ _ hw2]at hcall;have hwe:wP ((wP (w.alloc (.cells ROW (Tryz.laysInsert_ren.t 9))).drew w.heap.size (.cells (jO ROW i vs') (Tryz.laysInsert_ren.t 9))).drew) w.heap.size (.cells (jO (jO ROW i vs') (i+m) (l'.drop i)) (Tryz.laysInsert_ren.t 9))
           =(w.drew.drew).alloc (.cells (jO (jO ROW i vs') (i+m) (l'.drop i)) (Tryz.laysInsert_ren.t 9)):=by
          have e1:(wP (w.alloc (.cells ROW (Tryz.laysInsert_ren.t 9))).drew w.heap.size (.cells (jO ROW i vs') (Tryz.laysInsert_ren.t 9))).drew=wP ((w.drew.drew).alloc (.cells ROW (Tryz.laysInsert_ren.t 9))) w.heap.size (.cells (jO ROW i vs') (Tryz.laysInsert_ren.t 9)):=rfl;rw[e1,cD];exact zDA (w.drew.drew) _ _
         rw[hwe]at hcall;refine⟨_,_,R.add H.next w.heap.size 0 G,hcall,⟨w.heap.size,0,G,R.add_self _ _ _ _,by rw[kE G (by omega)];simp⟩, ?_, ?_⟩
         .have hk:Rel R ⟨t1,H.next⟩ w.drew.drew:=(hL.kill ht1).drew _
          refine hk.new ht2 ?_;refine⟨_,(0,0),[],l'.take i++vs'++l'.drop i,(Builtin.zeroCells (Value.string ⟨#[]⟩).cells (G - (len+m))).toList,rfl, ?_,rfl,VRL.mono (R.sub_add _ _ _ _) _ _ hcells,fun h=>by simp at h,fun _=>⟨?_,hG2⟩,fun _ j _=>by simp,_,bD (WM _ (.string ⟨#[]⟩) (.str 0 0) rfl) _⟩
          .rw[jT _ _ _ (by rw[wZ];simp;omega),jT _ _ _ (by omega),hRl,List.nil_append];exact growL (by simp;omega) hz1 hvl (by simp;omega)
          .rw[hz2];simp;omega
         .exact(Ext.kill hR ht1).trans ((Ext.drew R ⟨t1,H.next⟩ w (w.drawn+2)).trans (Ext.add (w:=w.drew.drew) ht2))
       .simp at h
      .simp at h
     .simp at h
    .simp at h
   .simp at h
  .simp at h
 .simp at h
noncomputable def zLJ (m:List AV->AH->Option (AV×AH))(vs:List AV)(H:AH):Option (AV×AH):=match m vs H with
 | some r=>some r
 | none=>zMU (Tryz.laysInsert_ren.t 9) vs H
theorem zLI {f:FuncId}{m:List AV->AH->Option (AV×AH)}(hf:f= Tryz.laysInsert_ren.f 22)(hm:FI f m):FI f (zLJ m):=by
 intro az H v H' h;unfold zLJ at h;split at h
 .rename_i r hr;injection h with h;subst h
  exact hm az H v H' hr
 .have hnx:H.next<=H'.next:=by
   unfold zMU at h;split at h
   .split at h
    .rw[cond_eq_ite]at h;split at h
     .split at h
      .rw[cond_eq_ite]at h;split at h
       .split at h
        .rename_i H1 hput;have e1:=jW hput;unfold fG at h;split at h
         .rename_i A2 H2 hnw;obtain⟨t2,ht2,rfl,rfl,_⟩:=uI hnw;simp only[yG,zC,zK]at h;rw[<-h.2];show H.next<=H1.next+1
          omega
         .simp at h
        .simp at h
       .simp at h
      .simp at h
     .simp at h
    .simp at h
   .simp at h
  subst hf;refine⟨hnx,⟨_, Tryz.laysInsert.f22,rfl⟩,fun R zs cs w hv hL=> ?_⟩;obtain⟨_,z,w',R',hc,h1,h2,h3⟩:=zLH h hv hL;obtain⟨e,w1,fr',⟨rfl,rfl⟩,s1,s2,s3⟩:=hc cs;exact⟨R',w1,z,fr',s1,s2,s3,h1,h2,h3⟩
def cellAV (N:Nat):Value->AV
 | .bool b=> .bool b
 | .int k n=> .int k n
 | .string s=> .str s.size (pack s.data.toList)
 | .slice none 0 0=> .nilSlice
 | .slice (some ⟨b,o,none⟩) len cap=>bif Nat.blt b N then .slice b o len (2*cap)else .val (.slice (some ⟨b,o,none⟩) len cap)
 | v=> .val v
def gI (N:Nat):Value->AV
 | .slice (some _) 0 0=> .emptySl
 | v=>cellAV N v
def argAV (N:Nat):Value->AV
 | .agg a=> .agg (a.toList.map (gI N))
 | v=>gI N v
def cOf:Option Obj->Nat
 | some (.cells _ _ fz)=>enc fz
 | _=>0
def RId (w:World):Ren:=fun A b d c=>A=b/\b<w.heap.size/\d=0/\c=cOf w.heap[b]?
theorem zAX (w:World)(v:Value):VR (RId w) (cellAV w.heap.size v) v:=by
 unfold cellAV;split
 .rfl
 .rfl
 .exact⟨_,rfl,rfl,rfl⟩
 .rfl
 .rename_i b o len cap;rw[cond_eq_ite];split
  .rename_i h;exact⟨b,0,_,⟨rfl,by simpa using h,rfl,rfl⟩,by simp[xU,Nat.mul_mod_right]⟩
  .rfl
 .rfl
theorem XJ (w:World): ∀l:List Value,VRL (RId w) (l.map (cellAV w.heap.size)) l
 | []=>rfl
 | v::l=>⟨v,l,rfl,zAX w v,XJ w l⟩
theorem XN (w:World)(v:Value):VR (RId w) (gI w.heap.size v) v:=by
 unfold gI;split
 .exact⟨_,_,rfl⟩
 .exact zAX w _
theorem KD (w:World): ∀l:List Value,VRL (RId w) (l.map (gI w.heap.size)) l
 | []=>rfl
 | v::l=>⟨v,l,rfl,XN w v,KD w l⟩
theorem zJH (w:World)(v:Value):VR (RId w) (argAV w.heap.size v) v:=by
 unfold argAV;split
 .rename_i a;exact⟨a.toList,by simp,KD w a.toList⟩
 .exact XN w _
theorem zB5 (w:World): ∀l:List Value,VRL (RId w) (l.map (argAV w.heap.size)) l
 | []=>rfl
 | v::l=>⟨v,l,rfl,zJH w v,zB5 w l⟩
theorem zC5 {w:World}{R:Ren}(hs:Sub (RId w) R)(hf: ∀A b d c b' d' c',R A b d c->R A b' d' c'->b=b'/\d=d'/\c=c'){v v':Value}(h:VR R (cellAV w.heap.size v) v'):v'=v:=by
 unfold cellAV at h;split at h
 .exact h
 .exact h
 .rename_i s;obtain⟨s',rfl,h1,h2⟩:=h;have:s'.data.toList=s.data.toList:=cQ _ _ (by rw[size_data,size_data,h1]) h2;congr 1
  cases s;cases s';simp only at this;congr 1
  exact Array.toList_inj.1 this
 .exact h
 .rename_i b o len cap;rw[cond_eq_ite]at h;split at h
  .rename_i hb;obtain⟨b',d,c,hr,rfl⟩:=h;obtain⟨rfl,rfl,rfl⟩:=hf _ _ _ _ _ _ _ hr (hs b b 0 _ ⟨rfl,by simpa using hb,rfl,rfl⟩);simp[xU,Nat.mul_mod_right]
  .exact h
 .exact h
theorem QQ {w:World}{R:Ren}(hs:Sub (RId w) R)(hf: ∀A b d c b' d' c',R A b d c->R A b' d' c'->b=b'/\d=d'/\c=c'): ∀ {l l':List Value},VRL R (l.map (cellAV w.heap.size)) l'->l'=l
 | [],_,h=>h
 | v::l,_,h=>by
  obtain⟨x',l',rfl,h1,h2⟩:=h;rw[zC5 hs hf h1,QQ hs hf h2]
def zIC (N:Nat):Obj->AObj
 | .cells arr e _=> .cells (arr.toList.map (cellAV N)) e 0 false
 | x=> .raw x
theorem JA {α:Type} : ∀(xs:List α) (i:Nat) (t:T α),(T.ofList i xs t).isSome=true
 | [],_,_=>rfl
 | x::xs,i,t=>by
  obtain⟨t',ht⟩:=Option.isSome_iff_exists.1 (T.set_some 40 t i x);simp only[T.ofList,ht];exact JA xs _ _
noncomputable def H0 (w:World):AH:=⟨(T.ofList 0 (w.heap.toList.map (zIC w.heap.size)) .leaf).getD .leaf,w.heap.size⟩
theorem zDz (w:World)(A:Nat):(H0 w).h.get A=w.heap[A]?.map (zIC w.heap.size):=by
 obtain⟨t,ht⟩:=Option.isSome_iff_exists.1 (JA (w.heap.toList.map (zIC w.heap.size)) 0 .leaf);simp only[H0,ht,Option.getD_some];rw[T.get_ofList _ _ _ _ ht];simp only[Nat.zero_le,true_and,Nat.zero_add,qM,Array.length_toList,Nat.sub_zero];split
 .simp
 .rename_i h;rw[T.get_leaf,Array.getElem?_eq_none (by omega)];rfl
theorem H0_ok (w:World): ∀A,(H0 w).next<=A->(H0 w).h.get A=none:=fun A h=>by
 rw[zDz,Array.getElem?_eq_none (by exact h)];rfl
theorem zJW (w:World){b:Nat}{arr:Array Value}{e:TypeId}{fz:Nat×Nat}(h:w.heap[b]? =some (.cells arr e fz)):(H0 w).h.get b=some (.cells (arr.toList.map (cellAV w.heap.size)) e 0 false):=by
 rw[zDz,h];rfl
theorem zOw (w:World):Rel (RId w) (H0 w) w:=by
 refine⟨?_, ?_, ?_, ?_⟩
 .rintro A b d c b' d' c' ⟨rfl,_,rfl,rfl⟩ ⟨rfl,_,rfl,rfl⟩;exact⟨rfl,rfl,rfl⟩
 .rintro A A' b d c d' c' ⟨rfl,_,rfl,rfl⟩ ⟨rfl,_,rfl,rfl⟩ _ _;rfl
 .rintro A b d c o ⟨rfl,_,rfl,rfl⟩ ho
  rw[zDz]at ho;obtain⟨x,hx,rfl⟩:=Option.map_eq_some_iff.1 ho;rw[hx];unfold zIC;split
  .rename_i arr e fz;exact⟨arr,fz,[],arr.toList,[],rfl,by simp,rfl,XJ _ _,fun _=>⟨rfl,fun h=>absurd h (Nat.lt_irrefl 0),fun _=>rfl⟩,fun h=>by simp at h,fun h=>absurd h (Nat.lt_irrefl 0),[],rfl⟩
  .rfl
 .rintro A b d c ⟨rfl,h,rfl,rfl⟩;exact⟨h,h⟩
theorem calls_param {f:FuncId}{m:List AV->AH->Option (AV×AH)}(hm:FI f m)(w:World){args:Array Value}{H':AH}
  (h:m (args.toList.map (argAV w.heap.size)) (H0 w)=some (.bool true,H')) (hk: ∀A,A<w.heap.size->H'.h.get A=(H0 w).h.get A):
  Calls PP f args w fun e w'=>e= .returned (.bool true)/\RowKit.Below w.heap.size w w':=by
 intro cs;obtain⟨_,_,hc⟩:=hm _ _ _ _ h;obtain⟨R',w',z,fr',h1,h2,h3,h4,h5,h6⟩:=hc (RId w) args.toList cs w (zB5 _ _) (zOw w);simp only[VR]at h4;subst h4;refine⟨.returned (.bool true),w',fr',⟨rfl, ?_⟩,h1,h2,h3⟩;refine⟨h6.os,h6.tape,h6.output,h6.size,fun k hlt=> ?_⟩;have hr:=h6.sub k k 0 _ ⟨rfl,hlt,rfl,rfl⟩;have hx:w.heap[k]? =some w.heap[k]:=Array.getElem?_eq_getElem hlt;have hg:=hk k hlt;rw[zDz,hx]at hg;have ho:=h5.obj _ _ _ _ _ hr hg;rw[hx]at ho⊢;generalize w.heap[k]=x at ho
 cases x with
 | cells arr e fz=>
  obtain⟨arr',fz',pre,l',spare,k1,k2,k3,k4,k5,_⟩:=ho;obtain⟨rfl,_,k6⟩:=k5 rfl;have hl:=QQ h6.sub h5.fn k4;have hp:pre=[]:=zL k3;subst hp;subst hl;have ha:arr'=arr:=Array.toList_inj.1 (by simpa using k2);have hf:fz'=fz:=(zMf (k6 rfl)).symm;rw[k1,ha,hf]
 | _=>exact ho
noncomputable def cloK (m:List AV->AH->Option (AV×AH))(vs:List AV)(H:AH):Option (AV×AH):=match vs with
 | []=>some (.bool true,H)
 | vs=>m vs H
theorem Rel.below {R:Ren}{H:AH}{w w':World}(h:Rel R H w)(hb:RowKit.Below w.heap.size w w'):Rel R H w':=
 ⟨h.fn,h.inj,fun A b d c o r ho=>by rw[hb.block b (h.lt _ _ _ _ r).1];exact h.obj A b d c o r ho,fun A b d c r=>⟨zY (h.lt _ _ _ _ r).1 hb.size,(h.lt _ _ _ _ r).2⟩⟩
theorem zMq {f:FuncId}{m:List AV->AH->Option (AV×AH)}(hf: ∃fn,PP.funcs[f]? =some fn/\fn.body.isSome=true)
  (hc: ∀w:World,Calls PP f #[] w fun e w'=>e= .returned (.bool true)/\RowKit.Below w.heap.size w w') (hm:FI f m):FI f (cloK m):=by
 intro az H v H' h;unfold cloK at h;split at h
 .simp only[zC,zK]at h;obtain⟨rfl,rfl⟩:=h;refine⟨Nat.le_refl _,hf,fun R zs cs w hv hL=> ?_⟩;simp only[VRL]at hv;subst hv;obtain⟨e,w1,fr',⟨rfl,hb⟩,s1,s2,s3⟩:=hc w cs;refine⟨R,w1, .bool true,fr',s1,s2,s3,rfl,hL.below hb, ?_⟩;exact⟨Sub.refl R,fun _ _ _ _ h=> .inl h,fun _ _ _ _ h=> .inl h,Nat.le_refl _,fun _ _ _=>rfl,hb.os,hb.tape,hb.output,hb.size,fun b hb' _=>hb.block b hb'⟩
 .exact hm _ _ _ _ h
def Fin (x:Rs)(Q:Ex->AH->Prop):Prop:= ∃e H,x=some (e,H)/\Q e H
def Ret (x:Option (AV×AH))(Q:AV->AH->Prop):Prop:= ∃v H,x=some (v,H)/\Q v H
theorem Fin.pure {e:Ex}{H:AH}{Q:Ex->AH->Prop}(h:Q e H):Fin (some (e,H)) Q:=⟨e,H,rfl,h⟩
theorem Ret.pure {v:AV}{H:AH}{Q:AV->AH->Prop}(h:Q v H):Ret (some (v,H)) Q:=⟨v,H,rfl,h⟩
theorem Fin.mono {x:Rs}{Q Q':Ex->AH->Prop}(h:Fin x Q)(k: ∀e H,Q e H->Q' e H):Fin x Q':=by
 obtain⟨e,H,h1,h2⟩:=h;exact⟨e,H,h1,k _ _ h2⟩
theorem Ret.mono {x:Option (AV×AH)}{Q Q':AV->AH->Prop}(h:Ret x Q)(k: ∀v H,Q v H->Q' v H):Ret x Q':=by
 obtain⟨e,H,h1,h2⟩:=h;exact⟨e,H,h1,k _ _ h2⟩
def orN (P:List AV->AH->Prop)(Q:Ex->AH->Prop):Ex->AH->Prop
 | .norm vs,H=>P vs H
 | .exit i vs,H=>Q (.exit i vs) H
 | .ret v,H=>Q (.ret v) H
theorem Fin.jn {x:Rs}{P:List AV->AH->Prop}{K:List AV->AH->Rs}{Q:Ex->AH->Prop}(hx:Fin x (orN P Q))(h: ∀vs H,P vs H->Fin (K vs H) Q):Fin (jn x K) Q:=by
 obtain⟨e,H,rfl,hp⟩:=hx
 cases e with
 | norm vs=>exact h vs H hp
 | exit i vs=>exact⟨_,_,rfl,hp⟩
 | ret v=>exact⟨_,_,rfl,hp⟩
theorem Fin.loop {b:List AV->AH->Rs}{Q:Ex->AH->Prop}(I:Nat->List AV->AH->Prop)
  (step: ∀k vs H,I k vs H->Fin (b vs H) (orN (fun vs' H'=> ∃k',k'<k/\I k' vs' H') Q)):
  ∀(n k:Nat) (vs:List AV) (H:AH),I k vs H->k<n->Fin (yJ n b vs H) Q:=by
 intro n
 induction n with
 | zero=>intro k vs H _ h;omega
 | succ n ih=>
  intro k vs H hI hk;refine Fin.jn (step k vs H hI) ?_
  rintro vs' H' ⟨k',hk',hI'⟩
  exact ih k' vs' H' hI' (by omega)
theorem zE7 (b:Bool)(x y:Rs):cnd (.bool b) x y=if b then x else y:=by cases b<;>rfl
theorem zNa (b want:Bool)(x y:Rs):wnt (.bool b) want x y=if b=want then x else y:=by cases b<;>cases want<;>rfl
theorem bVs (v:AV)(K:AV->Rs):bV (some v) K=K v:=rfl
theorem bRs (v:AV)(H:AH)(K:AV->AH->Rs):bR (some (v,H)) K=K v H:=rfl
theorem vY (v:AV)(vs:List AV)(K:AV->List AV->Rs):hd (v::vs) K=K v vs:=rfl
theorem zCG (K:Rs):nl [] K=K:=rfl
theorem ZU (vs:List AV)(H:AH)(K:List AV->AH->Rs):jn (some (.norm vs,H)) K=K vs H:=rfl
theorem zNM (v:AV)(H:AH)(K:List AV->AH->Rs):jn (some (.ret v,H)) K=some (.ret v,H):=rfl
theorem zLE (i:Nat)(vs:List AV)(H:AH)(K:List AV->AH->Rs):jn (some (.exit i vs,H)) K=some (.exit i vs,H):=rfl
theorem zLF (id:Nat)(vs:List AV)(H:AH)(K:List AV->AH->Rs):jb id (some (.norm vs,H)) K=K vs H:=rfl
theorem zNR (id:Nat)(v:AV)(H:AH)(K:List AV->AH->Rs):jb id (some (.ret v,H)) K=some (.ret v,H):=rfl
theorem zCz (v:AV)(H:AH):fF (some (.ret v,H))=some (v,H):=rfl
theorem zNP (c:Prop)[Decidable c](x y:Rs)(K:List AV->AH->Rs):jn (if c then x else y) K=if c then jn x K else jn y K:=by split<;>rfl
theorem zIw (c:Prop)[Decidable c](x y:Rs):fF (if c then x else y)=if c then fF x else fF y:=by split<;>rfl
theorem zNw (b:Bool)(x y:Option AV):pk3 (some (.bool b)) x y=if b then x else y:=by cases b<;>rfl
def AH.ok (H:AH):Prop:= ∀A,H.next<=A->H.h.get A=none
noncomputable def AH.push (H:AH)(o:AObj):AH:=⟨(T.set 40 H.h H.next o).getD .leaf,H.next+1⟩
noncomputable def AH.put (H:AH)(A:Nat)(o:AObj):AH:=⟨(T.set 40 H.h A o).getD .leaf,H.next⟩
theorem AH.push_next (H:AH)(o:AObj):(H.push o).next=H.next+1:=rfl
theorem AH.put_next (H:AH)(A:Nat)(o:AObj):(H.put A o).next=H.next:=rfl
theorem AH.push_get (H:AH)(o:AObj)(A:Nat):(H.push o).h.get A=if A=H.next then some o else H.h.get A:=by
 obtain⟨t,ht⟩:=Option.isSome_iff_exists.1 (T.set_some 40 H.h H.next o)
 simp only[AH.push,ht,Option.getD_some];exact T.get_set _ _ _ _ _ ht A
theorem AH.put_get (H:AH)(B:Nat)(o:AObj)(A:Nat):(H.put B o).h.get A=if A=B then some o else H.h.get A:=by
 obtain⟨t,ht⟩:=Option.isSome_iff_exists.1 (T.set_some 40 H.h B o);simp only[AH.put,ht,Option.getD_some];exact T.get_set _ _ _ _ _ ht A
theorem AH.push_get_eq (H:AH)(o:AObj):(H.push o).h.get H.next=some o:=by rw[AH.push_get,if_pos rfl]
theorem AH.push_get_ne (H:AH)(o:AObj){A:Nat}(h:A<H.next):(H.push o).h.get A=H.h.get A:=by rw[AH.push_get,if_neg (by omega)]
theorem AH.ok.push {H:AH}(h:H.ok)(o:AObj):(H.push o).ok:=fun A hA=>by
 rw[AH.push_next]at hA;rw[AH.push_get,if_neg (by omega)];exact h A (by omega)
theorem AH.ok.put {H:AH}(h:H.ok){A:Nat}(hA:A<H.next)(o:AObj):(H.put A o).ok:=fun B hB=>by
 rw[AH.put_next]at hB;rw[AH.put_get,if_neg (by omega)];exact h B hB
theorem AH.ok.lt {H:AH}(h:H.ok){A:Nat}{o:AObj}(hA:H.h.get A=some o):A<H.next:=by
 rcases Nat.lt_or_ge A H.next with h1 | h1
 .exact h1
 .rw[h A h1]at hA;cases hA
theorem zBw {H:AH}(h:H.ok)(o:AObj)(K:Nat->AH->Rs):KR H o K=K H.next (H.push o):=by
 unfold KR;rw[h H.next (Nat.le_refl _)]
 obtain⟨t,ht⟩:=Option.isSome_iff_exists.1 (T.set_some 40 H.h H.next o)
 simp only[ht,yG,AH.push,Option.getD_some]
theorem yX (H:AH)(A:Nat)(o:AObj):uH H A o=some (H.put A o):=by
 unfold uH;obtain⟨t,ht⟩:=Option.isSome_iff_exists.1 (T.set_some 40 H.h A o);simp only[ht,AH.put,Option.getD_some]
theorem dH {H:AH}(h:H.ok)(o:AObj):newA H o=some (H.next,H.push o):=by
 unfold newA zIE;rw[h H.next (Nat.le_refl _)]
 obtain⟨t,ht⟩:=Option.isSome_iff_exists.1 (T.set_some 40 H.h H.next o)
 simp only[ht,AH.push,Option.getD_some]
theorem yR {H:AH}(h:H.ok)(o:AObj)(mk:Nat->AV)(K:AV->AH->Rs):bA (some (o,mk)) H K=K (mk H.next) (H.push o):=by
 simp only[bA,zBw h]
structure Stp (S:Nat->Prop)(H H':AH):Prop where
 ok:H'.ok
 next:H.next<=H'.next
 keep: ∀A,A<H.next-> ¬S A->H'.h.get A=H.h.get A
abbrev Prs (H H':AH):Prop:=Stp (fun _=>False) H H'
theorem Stp.refl {S:Nat->Prop}{H:AH}(h:H.ok):Stp S H H:=⟨h,Nat.le_refl _,fun _ _ _=>rfl⟩
theorem Stp.trans {S:Nat->Prop}{H H1 H2:AH}(h:Stp S H H1)(k:Stp S H1 H2):Stp S H H2:=
 ⟨k.ok,Nat.le_trans h.next k.next,fun A hA hS=>by rw[k.keep A (zY hA h.next) hS,h.keep A hA hS]⟩
theorem Stp.mono {S S':Nat->Prop}{H H1:AH}(h:Stp S H H1)(k: ∀A,A<H.next->S A->S' A):Stp S' H H1:=
 ⟨h.ok,h.next,fun A hA hS=>h.keep A hA (fun x=>hS (k A hA x))⟩
theorem Stp.fresh {S:Nat->Prop}{H0 H H1:AH}(h0:Prs H0 H)(h:Stp S H H1)(k: ∀A,S A->H0.next<=A):Prs H0 H1:=
 ⟨h.ok,Nat.le_trans h0.next h.next,fun A hA _=>by
  rw[h.keep A (zY hA h0.next) (fun x=>by have:=k A x;omega),h0.keep A hA (fun x=>x)]⟩
theorem Stp.push {S:Nat->Prop}{H0 H:AH}(h:Stp S H0 H)(o:AObj):Stp S H0 (H.push o):=
 ⟨h.ok.push o,by rw[AH.push_next];have:=h.next;omega,fun A hA hS=>by
  rw[AH.push_get_ne _ _ (zY hA h.next)];exact h.keep A hA hS⟩
theorem Stp.put {S:Nat->Prop}{H0 H:AH}(h:Stp S H0 H){A:Nat}(hA:A<H.next)(o:AObj)(hS:H0.next<=A\/S A):Stp S H0 (H.put A o):=
 ⟨h.ok.put hA o,h.next,fun B hB hSB=>by
  rw[AH.put_get,if_neg (fun e=>by subst e;rcases hS with h1 | h1;omega;exact hSB h1)];exact h.keep B hB hSB⟩
theorem Prs.get {H H':AH}(h:Prs H H'){A:Nat}{o:AObj}(hk:H.ok)(hA:H.h.get A=some o):H'.h.get A=some o:=by
 rw[h.keep A (hk.lt hA) (fun x=>x)];exact hA
theorem Prs.stp {S:Nat->Prop}{H H':AH}(h:Prs H H'):Stp S H H':=h.mono (fun _ _ x=>x.elim)
theorem wrap_i64 {z:Int}(h1: -9223372036854775808<=z)(h2:z<=9223372036854775807):IntKind.wrap .i64 z=z:=by
 apply xO<;>simp[IntKind.signed,IntKind.min,IntKind.max,IntKind.bits]<;>omega
theorem wrap_u8 (z:Int):IntKind.wrap .u8 z=z % 256:=by simp[IntKind.wrap,IntKind.signed,IntKind.bits]
theorem wrap_u64 (z:Int):IntKind.wrap .u64 z=z % 18446744073709551616:=by simp[IntKind.wrap,IntKind.signed,IntKind.bits]
theorem YF (k:IntKind)(a b:Int):jJ .add (.int k a) (.int k b)=some (.int k (k.wrap (a+b))):=by simp[jJ,vN,kK,wR]
theorem zJB (k:IntKind)(a b:Int):jJ .sub (.int k a) (.int k b)=some (.int k (k.wrap (a - b))):=by simp[jJ,vN,kK,wR]
theorem zDp (k:IntKind)(a b:Int):jJ .mul (.int k a) (.int k b)=some (.int k (k.wrap (a*b))):=by simp[jJ,vN,kK,wR]
theorem zJC (k:IntKind)(a b:Int)(h:b≠0):jJ .quo (.int k a) (.int k b)=some (.int k (k.wrap (a.tdiv b))):=by
 have:(b==0)=false:=by simpa using h
 simp[jJ,vN,kK,wR,kL,this]
theorem zDn (k:IntKind)(a b:Int)(h:b≠0):jJ .rem (.int k a) (.int k b)=some (.int k (a.tmod b)):=by
 have:(b==0)=false:=by simpa using h
 simp[jJ,vN,kK,zBL,kL,this]
theorem zJD (k:IntKind)(a b:Int):jJ .eql (.int k a) (.int k b)=some (.bool (decide (a=b))):=by
 have h:keq k k=true:=by rw[kK];simp
 simp only[jJ,vN,h,cond_true,yY,kL,xK,zC,AV.bool.injEq];rw[Bool.eq_iff_iff];simp
theorem zDo (k:IntKind)(a b:Int):jJ .neq (.int k a) (.int k b)=some (.bool (decide (a≠b))):=by
 have h:keq k k=true:=by rw[kK];simp
 simp only[jJ,vN,h,cond_true,yY,kL,xK,zC,AV.bool.injEq];rw[Bool.eq_iff_iff];simp
theorem aV (k:IntKind)(a b:Int):jJ .lss (.int k a) (.int k b)=some (.bool (decide (a<b))):=by
 have h:keq k k=true:=by rw[kK];simp
 simp only[jJ,vN,h,cond_true,yY,kL,xK,zC,AV.bool.injEq]
theorem zDq (k:IntKind)(a b:Int):jJ .leq (.int k a) (.int k b)=some (.bool (decide (a<=b))):=by
 have h:keq k k=true:=by rw[kK];simp
 simp only[jJ,vN,h,cond_true,yY,kL,xK,zC,AV.bool.injEq];rw[Bool.eq_iff_iff];simp
theorem zDr (k:IntKind)(a b:Int):jJ .gtr (.int k a) (.int k b)=some (.bool (decide (b<a))):=by
 have h:keq k k=true:=by rw[kK];simp
 simp only[jJ,vN,h,cond_true,yY,kL,xK,zC,AV.bool.injEq]
theorem zDs (k:IntKind)(a b:Int):jJ .geq (.int k a) (.int k b)=some (.bool (decide (b<=a))):=by
 have h:keq k k=true:=by rw[kK];simp
 simp only[jJ,vN,h,cond_true,yY,kL,xK,zC,AV.bool.injEq];rw[Bool.eq_iff_iff];simp
theorem zC3 (k k':IntKind)(z:Int):cvI k (.int k' z)=some (.int k (k.wrap z)):=by simp[cvI,wR]
theorem yM (k:IntKind){z:Int}(h:0<=z):dI (.int k z)=some z.toNat:=by
 cases z with
 | ofNat n=>rfl
 | negSucc n=>omega
theorem zHu (a b:Bool):KC .eql (.bool a) (.bool b)=some (.bool (a==b)):=by simp only[KC,yY]
theorem zHt (a b:Bool):KC .neq (.bool a) (.bool b)=some (.bool (!(a==b))):=by simp only[KC,yY]
theorem zMx (b:Bool):aun .not (.bool b)=some (.bool !b):=by simp[aun,yY]
abbrev Str:=List UInt8
def S (l:Str):AV:= .str l.length (pack l)
theorem QT (l:Str):isCell (S l)=true:=rfl
def ltS (l m:Str):Bool:=Op.bytesLess l m
theorem ZP (l:Str):KS (S l)=some (.int .i64 (l.length:Nat)):=rfl
theorem S_eq (l m:Str):(Nat.beq l.length m.length&&Nat.beq (pack l) (pack m))=decide (l=m):=by
 rw[Bool.eq_iff_iff];simp only[zE,Nat.beq_eq,zJ];exact⟨fun h=>cQ l m h.1 h.2,fun h=>by subst h;exact⟨rfl,rfl⟩⟩
theorem UE (l m:Str):YE .eql (S l) (S m)=some (.bool (decide (l=m))):=by simp only[YE,S,UJ,yY,S_eq]
theorem zJy (l m:Str):YE .neq (S l) (S m)=some (.bool (decide (l≠m))):=by simp only[YE,S,UJ,yY,S_eq];simp
theorem UD (l m:Str):YE .lss (S l) (S m)=some (.bool (ltS l m)):=by simp only[YE,S,UJ,yY,Y0,ltS]
theorem zJz (l m:Str):YE .geq (S l) (S m)=some (.bool (!ltS l m)):=by simp only[YE,S,UJ,yY,Y0,ltS]
theorem zJA (l m:Str)(h:l.length+m.length<4611686018427387904):YE .add (S l) (S m)=some (S (l++m)):=by
 have:Nat.blt (l.length+m.length) 4611686018427387904=true:=by rw[zR];exact h
 simp only[YE,S,UJ,this,cond_true,WP,zM,J7];rw[show(256:Nat) ^ l.length=2 ^ (8*l.length)from by rw[show(256:Nat)=2 ^ 8 from rfl,<-Nat.pow_mul]]
theorem VQ (l:Str)(k:IntKind){z:Int}(h0:0<=z)(h1:z.toNat<l.length):KT (S l) (.int k z)=some (.int .u8 ((l[z.toNat].toNat:Nat):Int)):=by
 have hb:Nat.blt z.toNat l.length=true:=by rw[zR];exact h1
 simp only[KT,yM k h0,S,hb,cond_true,yG];rw[zCy l _ h1,show(256:Nat) ^ z.toNat=2 ^ (8*z.toNat)from by rw[show(256:Nat)=2 ^ 8 from rfl,<-Nat.pow_mul]];rfl
theorem zK9 (n:Nat):(2:Nat) ^ (8*n)=256 ^ n:=by rw[show(256:Nat)=2 ^ 8 from rfl,<-Nat.pow_mul]
theorem zHH (l:Str)(lo hi:Option Nat)(h1:hi.getD l.length<=l.length)(h2:lo.getD 0<=hi.getD l.length):zHI l.length (pack l) lo hi=some (S ((l.drop (lo.getD 0)).take (hi.getD l.length - lo.getD 0))):=by
 have e1:Nat.ble (hi.getD l.length) l.length=true:=by rw[qA];exact h1
 have e2:Nat.ble (lo.getD 0) (hi.getD l.length)=true:=by rw[qA];exact h2
 simp only[zHI,e1,e2,Bool.and_self,cond_true,WP,S,zK9,<-J6,<-BV];rw[zQ,zU,Nat.min_eq_left (by omega)]
theorem zIg (l:Str)(k:IntKind){z:Int}(h0:0<=z)(h1:z.toNat<=l.length):V7 (S l) (some (.int k z)) none=some (S (l.drop z.toNat)):=by
 have:=zHH l (some z.toNat) none (Nat.le_refl _) h1;simp only[V7,yT,yM k h0,S];rw[this];simp only[Option.getD_some,Option.getD_none,S];rw[zO (by simp)]
theorem zIh (l:Str)(k:IntKind){z:Int}(h0:0<=z)(h1:z.toNat<=l.length):V7 (S l) none (some (.int k z))=some (S (l.take z.toNat)):=by
 have:=zHH l none (some z.toNat) h1 (Nat.zero_le _);simp only[V7,yT,yM k h0,S];rw[this];simp[S]
theorem kY: ∀l:Str,ltS l l=false
 | []=>rfl
 | b::l=>by
  have:=kY l;simp only[ltS,Op.bytesLess]at this⊢;simp[this]
theorem jN: ∀ {a b c:Str},ltS a b=true->ltS b c=true->ltS a c=true
 | [],b,[],_,h=>by cases b<;>simp[ltS,Op.bytesLess]at h
 | [],_,_::_,_,_=>rfl
 | _::_,[],_,h,_=>by simp[ltS,Op.bytesLess]at h
 | _::_,_::_,[],_,h=>by simp[ltS,Op.bytesLess]at h
 | a::l,b::m,c::n,h,k=>by
  have ih:= @jN l m n;simp only[ltS,Op.bytesLess,Bool.or_eq_true,zE,zJ,beq_iff_eq]at h k ih⊢;rcases h with h | ⟨rfl,h⟩
  .rcases k with k | ⟨rfl,k⟩
   .left;rw[UInt8.lt_iff_toNat_lt]at*;omega
   .exact .inl h
  .rcases k with k | ⟨rfl,k⟩
   .exact .inl k
   .exact .inr ⟨rfl,ih h k⟩
theorem ZN: ∀ {a b:Str},ltS a b=false->ltS b a=false->a=b
 | [],[],_,_=>rfl
 | [],_::_,h,_=>by simp[ltS,Op.bytesLess]at h
 | _::_,[],_,h=>by simp[ltS,Op.bytesLess]at h
 | a::l,b::m,h,k=>by
  have ih:= @ZN l m;simp only[ltS,Op.bytesLess,Bool.or_eq_false_iff,Bool.and_eq_false_iff,decide_eq_false_iff_not,beq_eq_false_iff_ne,ne_eq]at h k ih;have e:a=b:=by
   apply UInt8.toNat_inj.1;have h1:=h.1;have k1:=k.1;rw[UInt8.lt_iff_toNat_lt]at h1 k1;omega
  subst e;rw[ih (by simpa using h.2) (by simpa using k.2)]
theorem uA {a b:Str}(h:ltS a b=true):ltS b a=false:=by
 cases k:ltS b a with
 | false=>rfl
 | true=>have:=jN h k;rw[kY]at this;cases this
theorem bK {a b:Str}(h:ltS a b=true):a≠b:=fun e=>by subst e;rw[kY]at h;cases h
theorem zIv (A o:Nat):xZ (.ptr A o)=some (.ptr A o):=rfl
theorem zLU (f A o:Nat):fAd f (.ptr A o)=some (.ptr A (o+f)):=by simp[fAd,yG]
theorem jQ {H:AH}{A o:Nat}{l:List AV}{e sz:Nat}{g:Bool}{v:AV}(h:H.h.get A=some (.cells l e sz g))(hv:l[o]? =some v):ld1 (.ptr A o) H=some v:=by
 simp only[ld1,h,cR,hv]
theorem ZR {H:AH}{A o n:Nat}{l:List AV}{e sz:Nat}{g:Bool}(h:H.h.get A=some (.cells l e sz g))(hv:o+n<=l.length):ldN n (.ptr A o) H=some (.agg ((l.drop o).take n)):=by
 simp only[ldN,h,yS _ _ _ (.inr hv)]
theorem jZ {l new:List AV}{o:Nat}(h:o+new.length<=l.length):setAt l o new=some (l.take o++new++l.drop (o+new.length)):=by
 induction o generalizing l with
 | zero=>
  have: ∀(new l:List AV),new.length<=l.length->over l new=some (new++l.drop new.length):=by
   intro new
   induction new with
   | nil=>intro l _;cases l<;>rfl
   | cons y ys ih=>intro l hl;cases l with
    | nil=>simp at hl
    | cons x l=>simp only[zP,Nat.add_le_add_iff_right]at hl;simp[over,ih l hl]
  have h2:=this new l (by omega)
  cases l with
  | nil=>simpa[setAt]using h2
  | cons=>simpa[setAt]using h2
 | succ o ih=>
  cases l with
  | nil=>simp at h
  | cons x l=>
   simp only[zP]at h;simp only[setAt,ih (l:=l) (by omega)];simp[show o+1+new.length=o+new.length+1 from by omega]
theorem YW {H:AH}{A o n:Nat}{l:List AV}{e sz:Nat}{g:Bool}{x:AV}(h:H.h.get A=some (.cells l e sz g))(hz:0<sz)(hn:(yC x).length=n)(hc:qY (yC x)=true)(ho:o+n<=l.length):
  stN n (.ptr A o) x H=some (qZ,H.put A (.cells (l.take o++yC x++l.drop (o+n)) e sz g)):=by
 subst hn;have hz':Nat.blt 0 sz=true:=by rw[zR];exact hz
 simp only[stN,h,yE,Nat.beq_refl,hc,hz',Bool.and_self,cond_true,jZ ho,yX]
theorem fH {H:AH}{A o:Nat}{l:List AV}{e sz:Nat}{g:Bool}{x:AV}(h:H.h.get A=some (.cells l e sz g))(hz:0<sz)(hc:isCell x=true)(ho:o<l.length):
  stN 1 (.ptr A o) x H=some (qZ,H.put A (.cells (l.set o x) e sz g)):=by
 have hx:yC x=[x]:=by cases x<;>first | rfl | (simp[isCell]at hc)
 rw[YW h hz (by rw[hx];rfl) (by rw[hx];simp[qY,hc]) (by omega),hx,List.set_eq_take_append_cons_drop,if_pos ho];simp
theorem jA {l:List AV} :qY l=true↔ ∀x∈l,isCell x=true:=by
 induction l with
 | nil=>simp[qY]
 | cons x l ih=>simp[qY,ih]
def Rw (k:Nat)(H:AH)(v:AV)(n:Nat)(l:List AV):Prop:=
 l.length=n*k/\((v= .nilSlice/\n=0)\/(v= .emptySl/\n=0)\/
  ∃A off cc c e sz g,v= .slice A off n cc/\H.h.get A=some (.cells c e sz g)/\A<H.next/\off+n*k<=c.length/\(c.drop off).take (n*k)=l)
theorem Rw.nil (k:Nat)(H:AH):Rw k H .nilSlice 0 []:=⟨by simp, .inl ⟨rfl,rfl⟩⟩
theorem Rw.lnSl {k n:Nat}{H:AH}{v:AV}{l:List AV}(h:Rw k H v n l):lnSl v=some (.int .i64 (n:Int)):=by
 obtain⟨_,⟨rfl,rfl⟩ | ⟨rfl,rfl⟩ | ⟨A,off,cc,c,e,sz,g,rfl,_⟩⟩:=h<;>rfl
theorem Rw.mono {k n:Nat}{S:Nat->Prop}{H H':AH}{v:AV}{l:List AV}(h:Rw k H v n l)(s:Stp S H H')(hS: ∀A off m cc,v= .slice A off m cc-> ¬S A):Rw k H' v n l:=by
 obtain⟨h0,h1 | h1 | ⟨A,off,cc,c,e,sz,g,rfl,hA,hlt,hle,hl⟩⟩:=h
 .exact⟨h0, .inl h1⟩
 .exact⟨h0, .inr (.inl h1)⟩
 .exact⟨h0, .inr (.inr ⟨A,off,cc,c,e,sz,g,rfl,by rw[s.keep A hlt (hS _ _ _ _ rfl)];exact hA,zY hlt s.next,hle,hl⟩)⟩
theorem Rw.prs {k n:Nat}{H H':AH}{v:AV}{l:List AV}(h:Rw k H v n l)(s:Prs H H'):Rw k H' v n l:=h.mono s (fun _ _ _ _ _ x=>x)
theorem Rw.at {k n:Nat}{H:AH}{v:AV}{l:List AV}(h:Rw k H v n l){i:Nat}(hi:i<n):
  ∃A o c e sz g,(∀κ (z:Int),z=(i:Int)->dK k v (.int κ z)=some (.ptr A o))/\H.h.get A=some (.cells c e sz g)/\A<H.next/\o+k<=c.length/\(c.drop o).take k=(l.drop (i*k)).take k:=by
 obtain⟨h0,⟨_,rfl⟩ | ⟨_,rfl⟩ | ⟨A,off,cc,c,e,sz,g,rfl,hA,hlt,hle,hl⟩⟩:=h
 .omega
 .omega
 .have hik:i*k+k<=n*k:=by rw[<-Nat.succ_mul];exact qH _ hi
  refine⟨A,off+i*k,c,e,sz,g,fun κ z hz=> ?_,hA,hlt,by omega, ?_⟩
  .have hb:Nat.blt i n=true:=by rw[zR];exact hi
   subst hz;simp only[dK,yM κ (show(0:Int)<=(i:Int)by omega),qD,hb,cond_true,yG]
  .rw[<-hl,List.drop_take,List.take_take,List.drop_drop,Nat.min_eq_left (by omega)]
theorem Rw.ld1 {n:Nat}{H:AH}{v:AV}{l:List AV}(h:Rw 1 H v n l){i:Nat}(hi:i<n):
  ∃p x,(∀κ (z:Int),z=(i:Int)->dK 1 v (.int κ z)=some p)/\Eng.ld1 p H=some x/\l[i]? =some x:=by
 obtain⟨A,o,c,e,sz,g,h1,h2,h3,h4,h5⟩:=h.at hi;have hl:l.length=n:=by have:=h.1;omega
 have hlt:i<l.length:=by omega
 refine⟨_,l[i],h1,jQ h2 ?_,zG hlt⟩;have e1:((c.drop o).take 1)[0]? =((l.drop (i*1)).take 1)[0]? :=by rw[h5]
 rw[qQ (by omega),qQ (by omega),qR,qR]at e1;simpa[zG hlt]using e1
theorem Rw.ldN {k n:Nat}{H:AH}{v:AV}{l:List AV}(h:Rw k H v n l){i:Nat}(hi:i<n):
  ∃p,(∀κ (z:Int),z=(i:Int)->dK k v (.int κ z)=some p)/\Eng.ldN k p H=some (.agg ((l.drop (i*k)).take k)):=by
 obtain⟨A,o,c,e,sz,g,h1,h2,h3,h4,h5⟩:=h.at hi;exact⟨_,h1,by rw[ZR h2 h4,h5]⟩
theorem Rw.srcOf {k n:Nat}{H:AH}{v:AV}{l:List AV}(h:Rw k H v n l):Eng.srcOf k v H=some (n,l):=by
 obtain⟨h0,⟨rfl,rfl⟩ | ⟨rfl,rfl⟩ | ⟨A,off,cc,c,e,sz,g,rfl,hA,hlt,hle,hl⟩⟩:=h
 .have:l=[]:=zL (by simpa using h0);subst this;rfl
 .have:l=[]:=zL (by simpa using h0);subst this;rfl
 .simp only[Eng.srcOf,hA,yS _ _ _ (.inr hle),hl]
theorem ew:(∀ {α:Type} (h:Decidable True) (t e:α), @ite α True h t e=t)/\(∀ {α:Type} (h:Decidable False) (t e:α), @ite α False h t e=e)/\(∀h:Decidable True, @decide True h=true)/\(∀h:Decidable False, @decide False h=false)/\((!true)=false)/\((!false)=true)/\((false=true)=False)/\((true=false)=False)/\(∀b,(b&&true)=b)/\(∀b,(true&&b)=b)/\(∀b,(b&&false)=false)/\(∀b,(false&&b)=false)/\(∀b,(b||true)=true)/\(∀b,(true||b)=true)/\(∀b,(b||false)=b)/\(∀b,(false||b)=b):=by
 refine⟨fun h t e=>if_pos trivial,fun h t e=>if_neg id,fun h=>decide_eq_true trivial,fun h=>decide_eq_false id,rfl,rfl,by simp,by simp,by simp,by simp,by simp,by simp,by simp,by simp,by simp,by simp⟩
def Own (k e:Nat)(H:AH)(v:AV)(n:Nat)(l:List AV):Prop:=
 l.length=n*k/\((v= .nilSlice/\n=0)\/ ∃A,v= .slice A 0 n 1/\A<H.next/\H.h.get A=some (.cells l e k true))
def Blk (v:AV)(A:Nat):Prop:= ∃o n c,v= .slice A o n c
theorem Blk.slice {A o n c B:Nat} :Blk (.slice A o n c) B↔B=A:=⟨fun⟨_,_,_,h⟩=>by simp only[AV.slice.injEq]at h;exact h.1.symm,fun h=>⟨o,n,c,by rw[h]⟩⟩
theorem Blk.nil {B:Nat} :Blk .nilSlice B↔False:=⟨fun⟨_,_,_,h⟩=>by simp at h,fun h=>h.elim⟩
theorem Own.row {k e n:Nat}{H:AH}{v:AV}{l:List AV}(h:Own k e H v n l):Rw k H v n l:=by
 obtain⟨h0,⟨rfl,rfl⟩ | ⟨A,rfl,hA,hg⟩⟩:=h
 .exact⟨h0, .inl ⟨rfl,rfl⟩⟩
 .exact⟨h0, .inr (.inr ⟨A,0,1,l,e,k,true,rfl,hg,hA,by omega,by rw[List.drop_zero,zO (by omega)]⟩)⟩
theorem Own.nil (k e:Nat)(H:AH):Own k e H .nilSlice 0 []:=⟨by simp, .inl ⟨rfl,rfl⟩⟩
theorem Own.mono {k e n:Nat}{S:Nat->Prop}{H H':AH}{v:AV}{l:List AV}(h:Own k e H v n l)(s:Stp S H H')(hS: ∀A,Blk v A-> ¬S A):Own k e H' v n l:=by
 obtain⟨h0,h1 | ⟨A,rfl,hA,hg⟩⟩:=h
 .exact⟨h0, .inl h1⟩
 .exact⟨h0, .inr ⟨A,rfl,zY hA s.next,by rw[s.keep A hA (hS A (Blk.slice.2 rfl))];exact hg⟩⟩
theorem Rw.stp {k n:Nat}{S:Nat->Prop}{H H':AH}{v:AV}{l:List AV}(h:Rw k H v n l)(s:Stp S H H')(hS: ∀A,Blk v A-> ¬S A):Rw k H' v n l:=
 h.mono s (fun A o m c e=>hS A (by rw[e];exact Blk.slice.2 rfl))
theorem gL {need bytes:Nat}(h1:need<=1000000000)(h2:bytes<=1000):roomy need bytes=true:=by
 unfold roomy;simp only[zE,qA,zR];refine⟨?_,by omega⟩
 calc (need+need / 4+192)*bytes<=(need+need / 4+192)*1000:=Nat.mul_le_mul_left _ h2
  _<=281474976710656:=by omega
theorem YG {k e bytes n m:Nat}{H:AH}{v:AV}{l new:List AV}(hk:H.ok)(hpos:0<k)(h:Own k e H v n l)(hm:new.length=m*k)(hm1:1<=m)(hn:n+m<=1000000000)(hb:bytes<=1000):
  ∃H',app1 e k bytes m new v H=some (.slice H.next 0 (n+m) 1,H')/\Own k e H' (.slice H.next 0 (n+m) 1) (n+m) (l++new)/\Stp (Blk v) H H'/\H'.next=H.next+1:=by
 obtain⟨h0,⟨rfl,rfl⟩ | ⟨A,rfl,hA,hg⟩⟩:=h
 .have hl:l=[]:=zL (by simpa using h0);subst hl;have hz:Nat.beq m 0=false:=by rw[Bool.eq_false_iff];intro e;rw[Nat.beq_eq]at e;omega
  refine⟨H.push (.cells new e k true), ?_,⟨?_, .inr ⟨H.next,rfl,Nat.lt_succ_self _,AH.push_get_eq _ _⟩⟩,(Stp.refl hk).push _,rfl⟩
  .simp only[app1,show m.beq 0=false from hz,cond_false,wL,gL (show m<=1000000000 by omega) hb,cond_true,fG,List.nil_append,dH hk,yG,Nat.zero_add]
  .simp[hm]
 .have hroom:yO l true k 0 1 k=n:=by
   simp only[yO,show((1 % 2).beq 0)=false from rfl,cond_false,Nat.beq_refl,show Nat.beq 0 (1 / 2*k)=true from by simp,Bool.and_self,cond_true,yE,h0,Nat.sub_zero];exact Nat.mul_div_cancel _ hpos
  have hle:Nat.ble (n+m) n=false:=by rw[Bool.eq_false_iff];intro e;rw[qA]at e;omega
  have hlen:Nat.beq (0+n*k) (fL l 0)=true:=by rw[yE,h0,Nat.zero_add,Nat.beq_refl]
  have hsub:xW l 0 (n*k)=some l:=by rw[yS _ _ _ (.inr (by omega)),List.drop_zero,zO (by omega)]
  have hpd:(H.put A .dead).ok:=hk.put hA _;refine⟨(H.put A .dead).push (.cells (l++new) e k true), ?_,⟨?_, .inr ⟨H.next,rfl,Nat.lt_succ_self _,AH.push_get_eq (H.put A .dead) _⟩⟩,((Stp.refl hk).put hA _ (.inr (Blk.slice.2 rfl))).push _,rfl⟩
  .simp only[app1,hg,zEg,hroom,hle,cond_false,show((1 % 2).beq 0)=false from rfl,hlen,Nat.beq_refl,show Nat.beq 0 (1 / 2*k)=true from by simp,Bool.and_self,cond_true,yX,hsub,wL,
    gL hn hb,fG,dH hpd,yG,AH.put_next]
  .simp[h0,hm,Nat.add_mul]
theorem KE {k e bytes n:Nat}{H:AH}{v:AV}{l:List AV}(hk:H.ok)(hpos:0<k)(h:Own k e H v n l):
  ∃H',app1 e k bytes 0 [] v H=some (v,H')/\Own k e H' v n l/\Stp (fun _=>False) H H'/\H'.next=H.next:=by
 obtain⟨h0,⟨rfl,rfl⟩ | ⟨A,rfl,hA,hg⟩⟩:=h
 .exact⟨H,rfl,⟨h0, .inl ⟨rfl,rfl⟩⟩,Stp.refl hk,rfl⟩
 .have hroom:yO l true k 0 1 k=n:=by
   simp only[yO,show((1 % 2).beq 0)=false from rfl,cond_false,Nat.beq_refl,show Nat.beq 0 (1 / 2*k)=true from by simp,Bool.and_self,cond_true,yE,h0,Nat.sub_zero];exact Nat.mul_div_cancel _ hpos
  have hz:Nat.blt 0 k=true:=by rw[zR];exact hpos
  have hset:setAt l (0+n*k) []=some l:=by rw[jZ (by simp;omega)];simp
  refine⟨H.put A (.cells l e k true), ?_,⟨h0, .inr ⟨A,rfl,hA,by rw[AH.put_get,if_pos rfl]⟩⟩,⟨hk.put hA _,Nat.le_refl _,fun B hB _=> ?_⟩,rfl⟩
  .simp only[app1,hg,zEg,hroom,Nat.add_zero,Nat.ble_eq_true_of_le (Nat.le_refl n),cond_true,hz,hset,zB6,yX,yG]
  .rw[AH.put_get];split
   .rename_i e;rw[e,hg]
   .rfl
theorem xA {k e bytes n m:Nat}{H:AH}{v s:AV}{l new:List AV}(hk:H.ok)(hpos:0<k)(h:Own k e H v n l)(hs:srcOf k s H=some (m,new))(hm:new.length=m*k)(hc:qY new=true)(hm1:1<=m)(hn:n+m<=1000000000)(hb:bytes<=1000):
  ∃H',apP e k bytes v s H=some (.slice H.next 0 (n+m) 1,H')/\Own k e H' (.slice H.next 0 (n+m) 1) (n+m) (l++new)/\Stp (Blk v) H H'/\H'.next=H.next+1:=by
 obtain⟨H',h1,h2⟩:=YG (bytes:=bytes) hk hpos h hm hm1 hn hb;exact⟨H',by simp only[apP,hs,hc,cond_true,h1],h2⟩
theorem zMy {k e bytes n m:Nat}{H:AH}{v s:AV}{l new:List AV}(hk:H.ok)(hpos:0<k)(h:Own k e H v n l)(hs:srcOf k s H=some (m,new))(hm:new.length=m*k)(hc:qY new=true)(hn:n+m<=1000000000)(hb:bytes<=1000):
  ∃v' H',apP e k bytes v s H=some (v',H')/\Own k e H' v' (n+m) (l++new)/\Stp (Blk v) H H'/\H.next<=H'.next/\(∀B,Blk v' B->Blk v B\/H.next<=B):=by
 by_cases h0:m=0
 .subst h0;have:new=[]:=zL (by simpa using hm);subst this;obtain⟨H',h1,h2,h3,h4⟩:=KE (bytes:=bytes) hk hpos h;refine⟨v,H',by simp only[apP,hs,hc,cond_true,h1],by simpa using h2,h3.mono (fun _ _ x=>x.elim),by omega,fun B hB=> .inl hB⟩
 .obtain⟨H',h1,h2,h3,h4⟩:=xA hk hpos h hs hm hc (by omega) hn hb;exact⟨_,H',h1,h2,h3,by omega,fun B hB=> .inr (by rw[Blk.slice.1 hB];exact Nat.le_refl _)⟩
theorem KF {k e bytes n m A off:Nat}{H:AH}{c new:List AV}{e' sz:Nat}{g:Bool}(hk:H.ok)(hA:H.h.get A=some (.cells c e' sz g))(hle:off+n*k<=c.length)(hm1:1<=m)(hn:n+m<=1000000000)(hb:bytes<=1000):
  app1 e k bytes m new (.slice A off n (2*n)) H=some (.slice H.next 0 (n+m) 1,H.push (.cells ((c.drop off).take (n*k)++new) e k true)):=by
 have h2:((2*n) % 2).beq 0=true:=by rw[Nat.mul_mod_right];rfl
 have hroom:yO c g sz off (2*n) k=n:=by
  simp only[yO,h2,cond_true,Nat.mul_div_cancel_left n (show 0<2 by omega)]
 have hlt:Nat.ble (n+m) n=false:=by rw[Bool.eq_false_iff];intro e;rw[qA]at e;omega
 simp only[app1,hA,zEg,hroom,hlt,cond_false,h2,cond_true,yS _ _ _ (.inr hle),wL,gL hn hb,fG,dH hk,yG]
theorem Own.len {k e n:Nat}{H:AH}{v:AV}{l:List AV}(h:Own k e H v n l):l.length=n*k:=h.1
theorem Rw.len {k n:Nat}{H:AH}{v:AV}{l:List AV}(h:Rw k H v n l):l.length=n*k:=h.1
def qW (l:Str):List AV:=l.map fun c=> .int .u8 ((c.toNat:Nat):Int)
theorem K9: ∀l:Str,bytesOf l.length (pack l)=qW l
 | []=>rfl
 | c::l=>by
  have hc:c.toNat<256:=c.toNat_lt;have e1:pack (c::l) % 256=c.toNat:=by simp only[pack];omega
  have e2:pack (c::l) / 256=pack l:=by simp only[pack];omega
  simp only[zP,bytesOf,e1,e2,K9 l,qW,List.map_cons];rfl
theorem zBm (l:Str)(H:AH):srcOf 1 (S l) H=some (l.length,qW l):=by simp only[srcOf,S,show(Nat.beq 1 1)=true from rfl,cond_true,K9]
theorem bytesV_cells (l:Str):qY (qW l)=true:=by
 rw[jA];intro x hx;obtain⟨c,_,rfl⟩:=List.mem_map.1 hx;rfl
theorem y8 (l:Str):(qW l).length=l.length:=by simp[qW]
theorem cI: ∀l:Str,cJ (qW l)=some (l.length,pack l)
 | []=>rfl
 | c::l=>by
  have hc:Nat.blt c.toNat 256=true:=by rw[zR];exact c.toNat_lt
  have ih:=cI l;show cJ (AV.int .u8 (Int.ofNat c.toNat)::qW l)=_;simp only[cJ,hc,cond_true,ih,yG,zP,pack]
theorem YA {n:Nat}{H:AH}{v:AV}{l:Str}(h:Rw 1 H v n (qW l))(hne:v≠ .emptySl):zE6 v H=some (S l):=by
 obtain⟨h0,⟨rfl,rfl⟩ | ⟨rfl,rfl⟩ | ⟨A,off,cc,c,e,sz,g,rfl,hA,hlt,hle,hl⟩⟩:=h
 .have:l=[]:=by cases l with
   | nil=>rfl
   | cons=>simp[qW]at h0
  subst this;rfl
 .exact absurd rfl hne
 .rw[Nat.mul_one]at hle hl;simp only[zE6,hA,yS _ _ _ (.inr hle),hl,cI,WP,S]
end Go.Eng
namespace Go.Eng
theorem zNQ (p:Prop)[Decidable p](b:Bool)(H:AH)(K:AV->AH->Rs):
  jn (if p then some (.norm [.bool b],H)else some (.norm [qZ],H)) (fun vs H=>hd vs fun y _=>bV (if p then some y else some (.bool false)) fun x=>K x H)=K (.bool (decide p&&b)) H:=by
 by_cases h:p<;>simp[h,jn,hd,bV]
theorem jn_or (p:Prop)[Decidable p](b:Bool)(H:AH)(K:AV->AH->Rs):
  jn (if p then some (.norm [qZ],H)else some (.norm [.bool b],H)) (fun vs H=>hd vs fun y _=>bV (if p then some (.bool true)else some y) fun x=>K x H)=K (.bool (decide p||b)) H:=by
 by_cases h:p<;>simp[h,jn,hd,bV]
theorem j5 {n:Nat}{b:List AV->AH->Rs}{vs vs':List AV}{H H':AH}(h:b vs H=some (.norm vs',H')):yJ (n+1) b vs H=yJ n b vs' H':=by
 show jn (b vs H) (yJ n b)=_;rw[h];rfl
theorem y9 {n:Nat}{b:List AV->AH->Rs}{vs vs':List AV}{H H':AH}{i:Nat}(h:b vs H=some (.exit i vs',H')):yJ (n+1) b vs H=some (.exit i vs',H'):=by
 show jn (b vs H) (yJ n b)=_;rw[h];rfl
theorem cT {n:Nat}{b:List AV->AH->Rs}{vs:List AV}{H H':AH}{v:AV}(h:b vs H=some (.ret v,H')):yJ (n+1) b vs H=some (.ret v,H'):=by
 show jn (b vs H) (yJ n b)=_;rw[h];rfl
theorem zLG (id:Nat)(vs:List AV)(H:AH)(K:List AV->AH->Rs):jb id (some (.exit id vs,H)) K=K vs H:=by simp[jb]
def Strs (H:AH)(v:AV)(l:List Str):Prop:=Rw 1 H v l.length (l.map S)
theorem Strs.at {H:AH}{v:AV}{l:List Str}(h:Strs H v l){i:Nat}(hi:i<l.length): ∃p,(∀κ (z:Int),z=(i:Int)->dK 1 v (.int κ z)=some p)/\Eng.ld1 p H=some (S l[i]):=by
 obtain⟨p,x,h1,h2,h3⟩:=Rw.ld1 h hi;rw[qT,zG hi]at h3;simp only[Option.map_some,zC]at h3;subst h3;exact⟨p,h1,h2⟩
theorem Strs.lnSl {H:AH}{v:AV}{l:List Str}(h:Strs H v l):Eng.lnSl v=some (.int .i64 (l.length:Int)):=Rw.lnSl h
theorem Strs.prs {H H':AH}{v:AV}{l:List Str}(h:Strs H v l)(s:Prs H H'):Strs H' v l:=Rw.prs h s
theorem zAV {w:World}{a:Addr}{v:Value}(h:w.cell? a=some v):a.spot=none/\ ∃arr e fz,w.heap[a.block]? =some (.cells arr e fz)/\arr[a.off]? =some v:=by
 unfold World.cell? at h;split at h
 .rename_i c e fz hg;split at h
  .cases h
  .rename_i hs;exact⟨by simpa using hs,c,e,fz,hg,h⟩
 .cases h
theorem cellAV_string (N:Nat)(s:ByteArray):cellAV N (.string s)=S s.data.toList:=by
 simp only[cellAV,S];rw[<-size_data]
theorem zJG (w:World){b o len cap:Nat}(hc:0<cap)(hb:b<w.heap.size):gI w.heap.size (.slice (some ⟨b,o,none⟩) len cap)= .slice b o len (2*cap):=by
 obtain⟨c,rfl⟩: ∃c,cap=c+1:=⟨cap - 1,by omega⟩;have:Nat.blt b w.heap.size=true:=by rw[zR];exact hb
 cases len<;>simp[gI,cellAV,this]
theorem zFX {w:World}{b:Nat}{x:Obj}(h:w.heap[b]? =some x):b<w.heap.size:=(Array.getElem?_eq_some_iff.1 h).1
end Go.Eng
end
section
noncomputable section
namespace Go.Eng
abbrev Nms:=List (List AV->AH->Rs)
def nmAt (N:Nms)(k:Nat):List AV->AH->Rs:=match N with
 | []=>fun _ _=>none
 | g::N=>match k with
  | 0=>g
  | k+1=>nmAt N k
def ms:Hint->Hint
 | .s a b=> .s (ms a) (ms b)
 | .c L a b=> .c L.tail (ms a) (ms b)
 | .cl a b=> .cl (ms a) (ms b)
 | .cr a b=> .cr (ms a) (ms b)
 | .b L a=> .b L.tail (ms a)
 | .b0 a=> .b0 (ms a)
 | .l L a=> .l L.tail (ms a)
 | .rf s L=> .rf s L
 | .t L m=> .t L m
 | .o=> .o
def pkN (L:List Nat):Env->AH->Rs:=fun env H=>pck L env fun vs=>some (.norm vs,H)
def upK (L:List Nat)(K:Env->AH->Rs):List AV->AH->Rs:=fun vs H=>unp L vs xN fun env=>K env H
def mkAt (P:List Nat)(i:Nat):Nat:=match P with
 | j::m::P=>bif Nat.beq j i then m else mkAt P i
 | _=>0
def sprF (P:List Nat)(i:Nat)(n:Nat):List Nat:=match n with
 | 0=>[]
 | n+1=>mkAt P i::sprF P (i+1) n
def spr (P:List Nat)(n:Nat):List Nat:=match P with
 | []=>[]
 | _=>sprF P 0 n
def zNx (l:List Oper)(R:List Nat):List (Nat×Oper):=match R with
 | []=>[]
 | i::R=>match zEf l i with
  | some o=>(i,o)::zNx l R
  | none=>[]
def dQ (B:Tb)(D:Dyn)(n nt:Nat)(rs:List ResultVar)(f0:FuncId)(ro:Bool)(N:Nms):Code->Hint->List (Nat×List Nat)->(Env->AH->Rs)->Env->AH->Rs
 | .skip,_,_,K,env,H=>K env H
 | .label _,_,_,K,env,H=>K env H
 | .region _ ops _, .b P _,_,K,env,H=>zCA B D nt ops (some (spr P ops.size)) (ops.size+1) K (idx ops.toList 0) [] env H
 | .region _ ops _, .c P (.l R _) _,_,K,env,H=>zCA B D nt ops (some (spr P ops.size)) (R.length+1) K (zNx ops.toList R) [] env H
 | .region _ ops draw,_,_,K,env,H=>zMS B D nt ops draw K env H
 | .seq a b, .s ha hb,Bk,K,env,H=>dQ B D n nt rs f0 ro N a ha Bk (dQ B D n nt rs f0 ro N b hb Bk K) env H
 | .seq _ _, .t L m,_,K,env,H=>pck L env fun vs=>tld (m vs H) H.next fun H=>unp L vs xN fun env=>K env H
 | .cond c a b, .c (k::L) ha hb,Bk,_,env,H=>match opd env c with
  | some v=>jn (cnd v (dQ B D n nt rs f0 ro N a ha Bk (pkN L) env H) (dQ B D n nt rs f0 ro N b hb Bk (pkN L) env H)) (nmAt N k)
  | none=>none
 | .cond c a b, .cl ha hb,Bk,K,env,H=>match opd env c with
  | some v=>cnd v (dQ B D n nt rs f0 ro N a ha Bk (fun _ _=>none) env H) (dQ B D n nt rs f0 ro N b hb Bk K env H)
  | none=>none
 | .cond c a b, .cr ha hb,Bk,K,env,H=>match opd env c with
  | some v=>cnd v (dQ B D n nt rs f0 ro N a ha Bk K env H) (dQ B D n nt rs f0 ro N b hb Bk (fun _ _=>none) env H)
  | none=>none
 | .block id b, .b (k::L) hb,Bk,_,env,H=>jb id (dQ B D n nt rs f0 ro N b hb ((id,L)::Bk) (pkN L) env H) (nmAt N k)
 | .block id b, .b0 hb,Bk,K,env,H=>dQ B D n nt rs f0 ro N b hb (zE3 Bk id) K env H
 | .loop _, .l (k::L) _,_,_,env,H=>pck L env fun vs=>yJ n (nmAt N k) vs H
 | .exit id,_,Bk,_,env,H=>match xE Bk id with
  | some L=>pck L env fun vs=>some (.exit id vs,H)
  | none=>none
 | .ret,_,_,_,env,H=>zIm B.X rs env H
 | .rangeFunc f _ _ _, .rf s L,Bk,K,env,H=>bif ro then none else match opd env f with
  | some fv=>pck L env fun vs=>KR H (.loop ⟨.ready,none,f0,s,L,vs⟩) fun A H=>bR (rfC B.S D fv A H) fun _ H=>
    uZ A H fun j H=>zCQ j (K env H) (exS Bk env H) (zIm B.X rs env H)
  | none=>none
 | _,_,_,_,_,_=>none
abbrev Prt:=Option (List AV->AH->Rs)
def orP (a b:Prt):Prt:=match a with | some g=>some g | none=>b
def prt (B:Tb)(D:Dyn)(n nt:Nat)(rs:List ResultVar)(f0:FuncId)(ro:Bool)(N:Nms)(i:Nat):Code->Hint->List (Nat×List Nat)->(Env->AH->Rs)->Prt
 | .seq a b, .s ha hb,Bk,K=>orP (prt B D n nt rs f0 ro N i a ha Bk (dQ B D n nt rs f0 ro N b hb Bk K)) (prt B D n nt rs f0 ro N i b hb Bk K)
 | .cond _ a b, .c (k::L) ha hb,Bk,K=>bif Nat.beq k i then some (upK L K)else orP (prt B D n nt rs f0 ro N i a ha Bk (pkN L)) (prt B D n nt rs f0 ro N i b hb Bk (pkN L))
 | .cond _ a b, .cl ha hb,Bk,K=>orP (prt B D n nt rs f0 ro N i a ha Bk fun _ _=>none) (prt B D n nt rs f0 ro N i b hb Bk K)
 | .cond _ a b, .cr ha hb,Bk,K=>orP (prt B D n nt rs f0 ro N i a ha Bk K) (prt B D n nt rs f0 ro N i b hb Bk fun _ _=>none)
 | .block id b, .b (k::L) hb,Bk,K=>bif Nat.beq k i then some (upK L K)else prt B D n nt rs f0 ro N i b hb ((id,L)::Bk) (pkN L)
 | .block id b, .b0 hb,Bk,K=>prt B D n nt rs f0 ro N i b hb (zE3 Bk id) K
 | .loop b, .l (k::L) hb,Bk,_=>bif Nat.beq k i then some (upK L (dQ B D n nt rs f0 ro N b hb Bk (pkN L)))else prt B D n nt rs f0 ro N i b hb Bk (pkN L)
 | _,_,_,_=>none
def funS (B:Tb)(D:Dyn)(n:Nat)(f0:FuncId)(fn:Func)(h:Hint)(N:Nms)(az:List AV)(H:AH):Option (AV×AH):=
 match fn.body with
 | some body=>bif Nat.ble (fn.params.size+fn.nfree) fn.ntmps then fF (zML (fn.params.size+fn.nfree) 0 az xN fun env=>dQ B D n fn.ntmps fn.results.toList f0 false N body h [] (fun env H=>zIm B.X fn.results.toList env H) env H)else none
 | none=>none
def prtF (B:Tb)(D:Dyn)(n:Nat)(f0:FuncId)(fn:Func)(h:Hint)(N:Nms)(i:Nat):Prt:=
 match fn.body with
 | some body=>prt B D n fn.ntmps fn.results.toList f0 false N i body h [] fun env H=>zIm B.X fn.results.toList env H
 | none=>none
def rdS (B:Tb)(D:Dyn)(n:Nat)(f0:FuncId)(nt:Nat)(ps:Array Tmp)(asg body:Code)(L ids:List Nat)(ha hb:Hint)(N:Nms)(A:Nat)(l:ALoop)(az:List AV)(H:AH):Option (AV×AH):=
 bif QN L l.live then
  zMe A (unp L l.vals xN fun env=>zI6 nt ps.toList az env fun env=>
   dQ B D n nt [] f0 true N asg ha [] (fun env H=>uD A H fun H=>dQ B D n nt [] f0 true N body hb (ids.map fun i=>(i,[])) (fun _ H=>some (.norm [],H)) env H) env H)
 else none
def rndS (B:Tb)(D:Dyn)(n:Nat)(f0:FuncId)(s:Nat)(L ids:List Nat)(ha hb:Hint)(N:Nms)(A:Nat)(l:ALoop)(az:List AV)(H:AH):Option (AV×AH):=
 match VA f0 s with
 | some (nt,ps,asg,body)=>rdS B D n f0 nt ps asg body L ids ha hb N A l az H
 | none=>none
def prtR (B:Tb)(D:Dyn)(n:Nat)(f0:FuncId)(s:Nat)(ids:List Nat)(hb:Hint)(N:Nms)(i:Nat):Prt:=
 match VA f0 s with
 | some (nt,_,_,body)=>prt B D n nt [] f0 true N i body hb (ids.map fun i=>(i,[])) fun _ H=>some (.norm [],H)
 | none=>none
end Go.Eng
end
end
section
namespace Go.Proofs
open Go.Shelf
end Go.Proofs
noncomputable section
namespace Go.Eng.Sh
open Go.Proofs
set_option maxRecDepth 100000
set_option maxHeartbeats 4000000
def y (l:T TypeInfo)(v:TypeInfo)(r:T TypeInfo):T TypeInfo:= .node l (some v) r
abbrev o:T TypeInfo:= .leaf
noncomputable def TX:T TypeInfo:=(y (y (y (y (y (y (y (y (y o Tryz.t255 o) Tryz.t127 o) Tryz.t63 (y (y o Tryz.t319 o) Tryz.t191 o)) Tryz.t31 (y (y (y o Tryz.t287 o) Tryz.t159 o) Tryz.t95 (y (y o Tryz.t351 o) Tryz.t223 o))) Tryz.t15 (y (y (y (y o Tryz.t271 o) Tryz.t143 o) Tryz.t79 (y (y o Tryz.t335 o) Tryz.t207 o)) Tryz.t47 (y (y (y o Tryz.t303 o) Tryz.t175 o) Tryz.t111 (y o Tryz.t239 o)))) Tryz.t7 (y (y (y (y (y o Tryz.t263 o) Tryz.t135 o) Tryz.t71 (y (y o Tryz.t327 o) Tryz.t199 o)) Tryz.t39 (y (y (y o Tryz.t295 o) Tryz.t167 o) Tryz.t103 (y o Tryz.t231 o))) Tryz.t23 (y (y (y (y o Tryz.t279 o) Tryz.t151 o) Tryz.t87 (y (y o Tryz.t343 o) Tryz.t215 o)) Tryz.t55 (y (y (y o Tryz.t311 o) Tryz.t183 o) Tryz.t119 (y o Tryz.t247 o))))) Tryz.t3 (y (y (y (y (y (y o Tryz.t259 o) Tryz.t131 o) Tryz.t67 (y (y o Tryz.t323 o) Tryz.t195 o)) Tryz.t35 (y (y (y o Tryz.t291 o) Tryz.t163 o) Tryz.t99 (y o Tryz.t227 o))) Tryz.t19 (y (y (y (y o Tryz.t275 o) Tryz.t147 o) Tryz.t83 (y (y o Tryz.t339 o) Tryz.t211 o)) Tryz.t51 (y (y (y o Tryz.t307 o) Tryz.t179 o) Tryz.t115 (y o Tryz.t243 o)))) Tryz.t11 (y (y (y (y (y o Tryz.t267 o) Tryz.t139 o) Tryz.t75 (y (y o Tryz.t331 o) Tryz.t203 o)) Tryz.t43 (y (y (y o Tryz.t299 o) Tryz.t171 o) Tryz.t107 (y o Tryz.t235 o))) Tryz.t27 (y (y (y (y o Tryz.t283 o) Tryz.t155 o) Tryz.t91 (y (y o Tryz.t347 o) Tryz.t219 o)) Tryz.t59 (y (y (y o Tryz.t315 o) Tryz.t187 o) Tryz.t123 (y o Tryz.t251 o)))))) Tryz.t1 (y (y (y (y (y (y (y o Tryz.t257 o) Tryz.t129 o) Tryz.t65 (y (y o Tryz.t321 o) Tryz.t193 o)) Tryz.t33 (y (y (y o Tryz.t289 o) Tryz.t161 o) Tryz.t97 (y o Tryz.t225 o))) Tryz.t17 (y (y (y (y o Tryz.t273 o) Tryz.t145 o) Tryz.t81 (y (y o Tryz.t337 o) Tryz.t209 o)) Tryz.t49 (y (y (y o Tryz.t305 o) Tryz.t177 o) Tryz.t113 (y o Tryz.t241 o)))) Tryz.t9 (y (y (y (y (y o Tryz.t265 o) Tryz.t137 o) Tryz.t73 (y (y o Tryz.t329 o) Tryz.t201 o)) Tryz.t41 (y (y (y o Tryz.t297 o) Tryz.t169 o) Tryz.t105 (y o Tryz.t233 o))) Tryz.t25 (y (y (y (y o Tryz.t281 o) Tryz.t153 o) Tryz.t89 (y (y o Tryz.t345 o) Tryz.t217 o)) Tryz.t57 (y (y (y o Tryz.t313 o) Tryz.t185 o) Tryz.t121 (y o Tryz.t249 o))))) Tryz.t5 (y (y (y (y (y (y o Tryz.t261 o) Tryz.t133 o) Tryz.t69 (y (y o Tryz.t325 o) Tryz.t197 o)) Tryz.t37 (y (y (y o Tryz.t293 o) Tryz.t165 o) Tryz.t101 (y o Tryz.t229 o))) Tryz.t21 (y (y (y (y o Tryz.t277 o) Tryz.t149 o) Tryz.t85 (y (y o Tryz.t341 o) Tryz.t213 o)) Tryz.t53 (y (y (y o Tryz.t309 o) Tryz.t181 o) Tryz.t117 (y o Tryz.t245 o)))) Tryz.t13 (y (y (y (y (y o Tryz.t269 o) Tryz.t141 o) Tryz.t77 (y (y o Tryz.t333 o) Tryz.t205 o)) Tryz.t45 (y (y (y o Tryz.t301 o) Tryz.t173 o) Tryz.t109 (y o Tryz.t237 o))) Tryz.t29 (y (y (y (y o Tryz.t285 o) Tryz.t157 o) Tryz.t93 (y (y o Tryz.t349 o) Tryz.t221 o)) Tryz.t61 (y (y (y o Tryz.t317 o) Tryz.t189 o) Tryz.t125 (y o Tryz.t253 o))))))) Tryz.t0 (y (y (y (y (y (y (y (y o Tryz.t256 o) Tryz.t128 o) Tryz.t64 (y (y o Tryz.t320 o) Tryz.t192 o)) Tryz.t32 (y (y (y o Tryz.t288 o) Tryz.t160 o) Tryz.t96 (y o Tryz.t224 o))) Tryz.t16 (y (y (y (y o Tryz.t272 o) Tryz.t144 o) Tryz.t80 (y (y o Tryz.t336 o) Tryz.t208 o)) Tryz.t48 (y (y (y o Tryz.t304 o) Tryz.t176 o) Tryz.t112 (y o Tryz.t240 o)))) Tryz.t8 (y (y (y (y (y o Tryz.t264 o) Tryz.t136 o) Tryz.t72 (y (y o Tryz.t328 o) Tryz.t200 o)) Tryz.t40 (y (y (y o Tryz.t296 o) Tryz.t168 o) Tryz.t104 (y o Tryz.t232 o))) Tryz.t24 (y (y (y (y o Tryz.t280 o) Tryz.t152 o) Tryz.t88 (y (y o Tryz.t344 o) Tryz.t216 o)) Tryz.t56 (y (y (y o Tryz.t312 o) Tryz.t184 o) Tryz.t120 (y o Tryz.t248 o))))) Tryz.t4 (y (y (y (y (y (y o Tryz.t260 o) Tryz.t132 o) Tryz.t68 (y (y o Tryz.t324 o) Tryz.t196 o)) Tryz.t36 (y (y (y o Tryz.t292 o) Tryz.t164 o) Tryz.t100 (y o Tryz.t228 o))) Tryz.t20 (y (y (y (y o Tryz.t276 o) Tryz.t148 o) Tryz.t84 (y (y o Tryz.t340 o) Tryz.t212 o)) Tryz.t52 (y (y (y o Tryz.t308 o) Tryz.t180 o) Tryz.t116 (y o Tryz.t244 o)))) Tryz.t12 (y (y (y (y (y o Tryz.t268 o) Tryz.t140 o) Tryz.t76 (y (y o Tryz.t332 o) Tryz.t204 o)) Tryz.t44 (y (y (y o Tryz.t300 o) Tryz.t172 o) Tryz.t108 (y o Tryz.t236 o))) Tryz.t28 (y (y (y (y o Tryz.t284 o) Tryz.t156 o) Tryz.t92 (y (y o Tryz.t348 o) Tryz.t220 o)) Tryz.t60 (y (y (y o Tryz.t316 o) Tryz.t188 o) Tryz.t124 (y o Tryz.t252 o)))))) Tryz.t2 (y (y (y (y (y (y (y o Tryz.t258 o) Tryz.t130 o) Tryz.t66 (y (y o Tryz.t322 o) Tryz.t194 o)) Tryz.t34 (y (y (y o Tryz.t290 o) Tryz.t162 o) Tryz.t98 (y o Tryz.t226 o))) Tryz.t18 (y (y (y (y o Tryz.t274 o) Tryz.t146 o) Tryz.t82 (y (y o Tryz.t338 o) Tryz.t210 o)) Tryz.t50 (y (y (y o Tryz.t306 o) Tryz.t178 o) Tryz.t114 (y o Tryz.t242 o)))) Tryz.t10 (y (y (y (y (y o Tryz.t266 o) Tryz.t138 o) Tryz.t74 (y (y o Tryz.t330 o) Tryz.t202 o)) Tryz.t42 (y (y (y o Tryz.t298 o) Tryz.t170 o) Tryz.t106 (y o Tryz.t234 o))) Tryz.t26 (y (y (y (y o Tryz.t282 o) Tryz.t154 o) Tryz.t90 (y (y o Tryz.t346 o) Tryz.t218 o)) Tryz.t58 (y (y (y o Tryz.t314 o) Tryz.t186 o) Tryz.t122 (y o Tryz.t250 o))))) Tryz.t6 (y (y (y (y (y (y o Tryz.t262 o) Tryz.t134 o) Tryz.t70 (y (y o Tryz.t326 o) Tryz.t198 o)) Tryz.t38 (y (y (y o Tryz.t294 o) Tryz.t166 o) Tryz.t102 (y o Tryz.t230 o))) Tryz.t22 (y (y (y (y o Tryz.t278 o) Tryz.t150 o) Tryz.t86 (y (y o Tryz.t342 o) Tryz.t214 o)) Tryz.t54 (y (y (y o Tryz.t310 o) Tryz.t182 o) Tryz.t118 (y o Tryz.t246 o)))) Tryz.t14 (y (y (y (y (y o Tryz.t270 o) Tryz.t142 o) Tryz.t78 (y (y o Tryz.t334 o) Tryz.t206 o)) Tryz.t46 (y (y (y o Tryz.t302 o) Tryz.t174 o) Tryz.t110 (y o Tryz.t238 o))) Tryz.t30 (y (y (y (y o Tryz.t286 o) Tryz.t158 o) Tryz.t94 (y (y o Tryz.t350 o) Tryz.t222 o)) Tryz.t62 (y (y (y o Tryz.t318 o) Tryz.t190 o) Tryz.t126 (y o Tryz.t254 o))))))))
def X:Cx:=⟨TX,[(42,[6,6,10]),(48,[2,2]),(55,(List.replicate 512 7))]⟩
theorem TX_eq:TX=(T.ofList 0 PP.types.toList .leaf).getD .leaf:=by kernel_rfl
theorem X_ok:Ok PP X:=by
 have h:=cx_ok (P:=PP) (fl:=X.fl) (by kernel_rfl) (by kernel_rfl);rw[<-TX_eq]at h;exact h
abbrev FD (B:Tb)(D:Dyn)(n:Nat)(i:FuncId)(f:Func)(h:Hint)(N:Nms):= {g // g=fun vs H=>funS B D n i f h N vs H}
abbrev PD (B:Tb)(D:Dyn)(n:Nat)(i:FuncId)(f:Func)(h:Hint)(N:Nms)(k:Nat):= {g // some g=prtF B D n i f h N k}
abbrev RD (B:Tb)(D:Dyn)(n:Nat)(i:FuncId)(s:Nat)(L ids:List Nat)(a b:Hint)(N:Nms):= {g // g=fun A l az H=>rndS B D n i s L ids a b N A l az H}
theorem sn:SOk []:=SOk.nil
theorem sc {i:FuncId}{f:List AV->AH->Option (AV×AH)}{S:List (Nat×(List AV->AH->Option (AV×AH)))}(h:FI i f)(t:SOk S):SOk ((i,f)::S):=SOk.cons h.fs t
theorem fk {D:Dyn}(n:Nat){i:FuncId}{f:List AV->AH->Option (AV×AH)}{S:List (Nat×(List AV->AH->Option (AV×AH)))}{fn:Func}(h:Hint)(hD:DG D)(hs:SOk S)(hf:PP.funcs[i]? =some fn)(h1:zCs fn h=true)(h2:f=zMY ⟨X,S⟩ D n i fn h):FI i f:=zNY X_ok hD hs hf h1 h2
noncomputable def WE:ML:=mlOf (zOk Tryz.f126 [1,1,1,0])
theorem zBq:WE.Fits 69:=by constructor<;>first | kernel_rfl | exact of_decide_eq_true (by kernel_rfl)
noncomputable def zBE:Hint:= .o
noncomputable def zCw (vs:List AV)(H:AH):Rs:=
 hd vs fun x0 vs=>hd vs fun x3 vs=>hd vs fun x4 vs=>
 bV (xZ x0) fun x43=>
 bV (fAd 2 x43) fun x44=>
 bV (ld1 x44 H) fun x45=>
 some (.norm (x45::[x0,x3,x4]),H)
theorem zBs:WE.preK ⟨X,[]⟩ KX 69 [0,3,4]=zCw:=by kernel_rfl
noncomputable def zF8 (I:Nat)(vs:List AV)(k v:AV)(H:AH):Rs:=
 hd vs fun x0 vs=>hd vs fun x3 vs=>hd vs fun x4 vs=>
 bV (qX (.tuple [k,v]) 0) fun x50=>
 bV (qX (.tuple [k,v]) 1) fun x51=>
 bA (bxV 119 (.agg [(.bool false), .nilSlice, .nilSlice, .nilSlice])) H fun x8 H=>
 bR (stN 4 x8 x51 H) fun x9999 H=>
 bV (xZ x4) fun x53=>
 bV (fAd 5 x53) fun x54=>
 bV (ld1 x54 H) fun x55=>
 bV (ldN 4 x8 H) fun x57=>
 bR (upM [10] x55 x50 x57 H) fun x9999_2 H=>
 some (.norm [(.ptr I 0),x0,x3,x4],H)
theorem zDM:WE.roundK ⟨X,[]⟩ KX 0 69 zBE [0,3,4]=zF8:=by kernel_rfl
noncomputable def vV (vs:List AV)(H:AH):Option AH:=match vs with
 | [.ptr C p,x3, .ptr E o]=>match ld1 (.ptr C (p+2)) H with
  | some (.map M)=>match ld1 (.ptr E (o+5)) H with
   | some (.map A)=>bif Nat.blt M H.next&&Nat.blt A H.next&&Nat.blt E H.next then zKO [10] 1 (isAg 4) (.map M) (.map A) H else none
   | _=>none
  | _=>none
 | _=>none
theorem zA2: ∀vs H H',vV vs H=some H'->Nonempty (WE.Plan ⟨X,[]⟩ KX 0 69 zBE [0,3,4] vs H H'):=by
 intro vs H H' h;unfold vV at h;split at h
 .rename_i C p x3 E o;split at h
  .rename_i M hld0;split at h
   .rename_i A hld;rw[cond_eq_ite]at h;split at h
    .rename_i hc;simp only[zE,zR]at hc;obtain⟨⟨hM,hA⟩,hE⟩:=hc;obtain⟨l,e,sz,g,hgE,hnth⟩:=zIL hld;have hmaps:=zEo h;refine zKM h ?_ ?_ hM hA ?_
     .rw[zBs];simp only[zCw,hd,bV,xZ,fAd,yG,hld0]
     .intro k v Hk e0 hok hframe hAk hk hlt hfree _ _;obtain⟨cs,rfl,hl,hcl⟩:=zFS hok;have hEM:E≠M:=fun e=>by subst e;obtain⟨⟨_,_,h1⟩,_⟩:=hmaps;rw[hgE]at h1;simp at h1
      have hEA:E≠A:=fun e=>by subst e;obtain⟨_,_,_,h1⟩:=hmaps;rw[hgE]at h1;simp at h1
      have hgk:Hk.h.get E=some (.cells l e sz g):=by rw[hframe E hE hEM hEA];exact hgE
      obtain⟨t1,ht1,hnew⟩:=zFE (.cells [(.bool false), .nilSlice, .nilSlice, .nilSlice] 119 1 false) (hfree Hk.next (Nat.le_refl _) (by omega))
      have g1:=T.get_set _ _ _ _ _ ht1;obtain⟨t2,ht2,hst⟩:=zL3 (n:=4) (H:=⟨t1,Hk.next+1⟩) (A:=Hk.next) (cs:=cs) (by rw[g1,if_pos rfl]) rfl hl hcl rfl
      have g2:=T.get_set _ _ _ _ _ ht2;simp only at g2 hst;have hgA:t2.get A=some (.map [10] e0):=by rw[g2,if_neg (by omega),g1,if_neg (by omega)];exact hAk
      obtain⟨t3,ht3,hup⟩:=zKN (v:= .agg cs) (H:=⟨t2,Hk.next+1⟩) hk hgA
      have g3:=T.get_set _ _ _ _ _ ht3;simp only at g3 hup;have hldE:ld1 (.ptr E (o+5)) ⟨t2,Hk.next+1⟩=some (.map A):=zNI (l:=l) (e:=e) (sz:=sz) (g:=g) (by simp only[g2,g1];rw[if_neg (by omega),if_neg (by omega)];exact hgk) hnth
      have hldo:ldN 4 (.ptr Hk.next 0) ⟨t2,Hk.next+1⟩=some (.agg cs):=zLC (by show t2.get Hk.next=_;rw[g2,if_pos rfl]) hl
      refine⟨⟨t3,Hk.next+1⟩, ?_,rfl, ?_,fun C hC hlt=> ?_⟩
      .rw[zDM];simp only[zF8,hd,bV,bR,qX,nth,bA,bxV,yC,hnew,hst,xZ,fAd,yG,hldE,hldo,hup]
      .simp only[g3,if_true]
      .simp only[g3,if_neg hC,g2,g1];rw[if_neg (by omega),if_neg (by omega)]
     .intro R0 w0 hR hv;obtain⟨z,hz⟩:=hv (.ptr E o) (by simp);obtain⟨b,d,c,hr,_⟩:=hz;exact zIP hR hr hgE hnth
    .simp at h
   .simp at h
  .simp at h
 .simp at h
theorem zEr:KK PP 69 126 WE.code [0,3,4] vV:=zKL X_ok zBq (by decide+kernel) (by decide+kernel) (hb:=zBE) (by kernel_rfl) (kt:=40) (vt:=119) (by kernel_rfl) zA2
end Go.Eng.Sh
end
end
