/- A checked evaluator for the program, and what it tells, part 3: no condition. -/
import Derived.Test.YtgffmjchoomnoaaGreatDoorOV2
import Derived.KernelRfl
import Derived.Maps.RangeRun
import Derived.Test.YtgffmjchoomnoaaGreatDoorProg
import Derived.Shelf.Spec.SlicesInsertGrow
import Derived.Ground.Names2Prog
import Derived.Ground.SlmcProg
import Derived.Shelf.SlMaps.Clone
import Derived.Deep.Strs
set_option linter.all false
set_option maxHeartbeats 8000000
set_option maxRecDepth 20000
section
namespace Go.Eng
theorem zET {id:Nat}{x:Rs}{K:List AV->AH->Rs}{out:Ex×AH}(h:jb id x K=some out): ∃y,x=some y/\((∃vs H,y=(.norm vs,H)/\K vs H=some out)\/(∃vs H,y=(.exit id vs,H)/\K vs H=some out)\/(∃i vs H,i≠id/\y=(.exit i vs,H)/\out=y)\/(∃v H,y=(.ret v,H)/\out=y)):=by
 unfold jb at h;split at h
 ·exact⟨_,rfl, .inl ⟨_,_,rfl,h⟩⟩
 ·rename_i i vs H;rw[cond_eq_ite]at h;split at h
  ·rename_i hi;rw[Nat.beq_eq]at hi;subst hi;exact⟨_,rfl, .inr (.inl ⟨_,_,rfl,h⟩)⟩
  ·rename_i hi;rw[Nat.beq_eq]at hi;injection h with h;exact⟨_,rfl, .inr (.inr (.inl ⟨_,_,_,hi,rfl,h.symm⟩))⟩
 ·injection h with h;exact⟨_,rfl, .inr (.inr (.inr ⟨_,_,rfl,h.symm⟩))⟩
 ·simp at h
theorem uA {c:AV}{a b:Rs}{out:Ex×AH}(h:cnd c a b=some out):(c= .bool true/\a=some out)\/(c= .bool false/\b=some out):=by
 unfold cnd at h;split at h
 ·exact .inl ⟨rfl,h⟩
 ·exact .inr ⟨rfl,h⟩
 ·simp at h
theorem ZZ {L:List Nat}{vs:List AV}{K:Env->Rs}{out:Ex×AH}(h:unp L vs v6 K=some out){env:Env}(hp:PK env L vs): ∃env',K env'=some out/\Le env' env:=by
 obtain⟨env',h1,h2⟩:=fV h env hp;refine⟨env',h1,fun t x hx=> ?_⟩;by_cases ht:t∈L
 ·rw[<-(h2 t).1 ht];exact hx
 ·rw[(h2 t).2 ht]at hx;simp[look,v6]at hx
theorem zAb {Bk:List (Nat×List Nat)}{id i:Nat}{L:List Nat}(h:wX (zII Bk id) i=some L):i≠id/\wX Bk i=some L:=by
 induction Bk with
 | nil=>simp[zII,wX]at h
 | cons x Bk ih=>
  obtain⟨j,M⟩:=x;unfold zII at h;simp only[List.filter_cons]at h;split at h
  ·rename_i hj;simp only[Bool.not_eq_true']at hj;have hj':j≠id:=fun e=>by rw[e]at hj;simp[Nat.beq_refl]at hj
   simp only[wX,cond_eq_ite,Nat.beq_eq]at h⊢;split at h
   ·rename_i e;subst e;rw[if_pos rfl];exact⟨hj',h⟩
   ·rename_i e;rw[if_neg e];exact ih h
  ·rename_i hj;have hj':j=id:=by
    have:Nat.beq j id=true:=by simpa using hj
    simpa using this
   obtain⟨h1,h2⟩:=ih h;refine⟨h1, ?_⟩;simp only[wX,cond_eq_ite,Nat.beq_eq];rw[if_neg (fun e=>h1 (by rw[<-e,hj']))];exact h2
def XP (Bk:List (Nat×List Nat))(out:Ex×AH)(id:Nat)(env:Env)(H:AH):Prop:= ∃L vs,wX Bk id=some L/\PK env L vs/\out=(.exit id vs,H)
def RP (X:Cx)(rs:List ResultVar)(out:Ex×AH)(env:Env)(H:AH):Prop:=zMI X rs env H=some out
theorem VF {X:Cx}{env:Env}{H:AH} : ∀(rs:List ResultVar) (G:List AV->Rs),(∀vs z,G vs=some z-> ∃v,z=(.ret v,H))-> ∀z,zMi X rs env H G=some z-> ∃v,z=(.ret v,H)
 | [],G,hG,z,hz=>hG _ _ hz
 | r::rs,G,hG,z,hz=>by
  simp only[zMi]at hz;obtain⟨v,_,h2⟩:=j0 hz;exact VF rs _ (fun vs z hz=>hG _ _ hz) z h2
theorem kU {X:Cx}{rs:List ResultVar}{env:Env}{H:AH}{y:Ex×AH}(h:RP X rs y env H): ∃v,y=(.ret v,H):=
 VF rs _ (fun vs z hz=>by injection hz with hz;exact⟨_,hz.symm⟩) _ h
def YK (P:Program)(nt:Nat)(f0:FuncId)(c:Code)(L:List Nat)(m:List AV->AH->Option AH):Prop:=
 ∀(ro:Bool) (env:Env) (vs:List AV) (H H':AH),PK env L vs->m vs H=some H'->H.next<=H'.next->YW P nt f0 ro (.code c) env H (fun env' H''=>PK env' L vs/\H''=H') (fun _ _ _=>False) (fun _ _=>False)
theorem zAK {x:Option AH}{N:Nat}{K:AH->Rs}{out:Ex×AH}(h:tld x N K=some out): ∃H',x=some H'/\N<=H'.next/\K H'=some out:=by
 unfold tld at h;split at h
 ·rename_i H';rw[cond_eq_ite]at h;split at h
  ·rename_i hle;rw[zR]at hle;exact⟨H',rfl,hle,h⟩
  ·simp at h
 ·simp at h
def yJ (P:Program)(f0:FuncId)(nt:Nat):Code->Hint->Prop
 | .seq a b, .s ha hb=>yJ P f0 nt a ha/\yJ P f0 nt b hb
 | .cond _ a b, .c _ ha hb=>yJ P f0 nt a ha/\yJ P f0 nt b hb
 | .cond _ a b, .cl ha hb=>yJ P f0 nt a ha/\yJ P f0 nt b hb
 | .cond _ a b, .cr ha hb=>yJ P f0 nt a ha/\yJ P f0 nt b hb
 | .block _ b, .b _ hb=>yJ P f0 nt b hb
 | .block _ b, .b0 hb=>yJ P f0 nt b hb
 | .seq a b, .t L m=>YK P nt f0 (.seq a b) L m
 | .loop b, .l _ hb=>yJ P f0 nt b hb
 | .rangeFunc _ ps a b, .rf s _=>BX f0 s=some (nt,ps,a,b)
 | _,_=>True
theorem VQ {H:AH}{o:AObj}{K:Nat->AH->Rs}{out:Ex×AH}(h:XO H o K=some out): ∃t,T.set 40 H.h H.next o=some t/\T.get H.h H.next=none/\K H.next ⟨t,H.next+1⟩=some out:=by
 unfold XO at h;split at h
 ·rename_i hn;split at h
  ·rename_i t ht;rw[yE]at h;exact⟨t,ht,hn,h⟩
  ·simp at h
 ·simp at h
theorem JR {A:Nat}{H:AH}{K:Option Code->AH->Rs}{out:Ex×AH}(h:fK A H K=some out): ∃l H',H.h.get A=some (.loop l)/\l.state≠ .busy/\u5 H A .dead=some H'/\K l.pending H'=some out:=by
 unfold fK at h;split at h
 ·rename_i l hA;split at h
  ·simp at h
  ·rename_i hb;split at h
   ·rename_i H' hp;exact⟨l,H',hA,hb,hp,h⟩
   ·simp at h
 ·simp at h
theorem WT {env:Env}{H:AH}{id:Nat}{out:Ex×AH} : ∀ {Bk:List (Nat×List Nat)},exS Bk env H id=some out->XP Bk out id env H
 | [],h=>by simp[exS]at h
 | (i,L)::r,h=>by
  simp only[exS,cond_eq_ite,Nat.beq_eq]at h;split at h
  ·rename_i e;obtain⟨vs,h1,h2⟩:=yZ h;injection h2 with h2
   exact⟨L,vs,by simp[wX,e],h1,h2.symm⟩
  ·rename_i e;obtain⟨L',vs,h1,h2,h3⟩:=WT h;refine⟨L',vs, ?_,h2,h3⟩;simp only[wX,cond_eq_ite,Nat.beq_eq,if_neg e];exact h1
theorem UK {env:Env} : ∀ {L:List Nat} {vs:List AV} {base:Env},PK env L vs-> ∀t,(t∈L->look (zMk L vs base) t=look env t)/\(t∉L->look (zMk L vs base) t=look base t)
 | [],vs,base,h,t=>by
  simp only[PK]at h;subst h;exact⟨fun h=>by simp at h,fun _=>rfl⟩
 | l::L,vs,base,⟨v,vs',e,hv,hp⟩,t=>by
  subst e;obtain⟨h1,h2⟩:=UK (base:=upd base l v) hp t;simp only[zMk];refine⟨fun ht=> ?_,fun ht=> ?_⟩
  ·by_cases htL:t∈L
   ·exact h1 htL
   ·rw[h2 htL];have:t=l:=by
              simp at ht;rcases ht with h | h
              ·exact h
              ·exact absurd h htL
    subst this;simp only[look,xO,if_true];exact hv.symm
  ·simp only[List.mem_cons,not_or]at ht;rw[h2 ht.2];simp only[look,xO,if_neg ht.1]
theorem zLL {env:Env}{L:List Nat}{vs:List AV}(h:PK env L vs):Le (envL L vs) env:=by
 intro t x hx;obtain⟨h1,h2⟩:=UK (base:=v6) h t;by_cases ht:t∈L
 ·rw[<-h1 ht];exact hx
 ·have:=h2 ht;simp only[envL]at hx;rw[this]at hx;simp[look,v6]at hx
theorem Rel.alloc_out {R:Ren}{H:AH}{w:World}(h:Rel R H w)(o:Obj):Rel R H (w.alloc o):=
 ⟨h.fn,h.inj,fun A b d c x r hx=>by rw[heap_alloc_old _ _ _ (h.lt _ _ _ _ r).1];exact h.obj A b d c x r hx,fun A b d c r=>by rw[yM];exact⟨Nat.lt_succ_of_lt (h.lt _ _ _ _ r).1,(h.lt _ _ _ _ r).2⟩⟩
theorem Ext.alloc_out (R:Ren)(H:AH)(w:World)(o:Obj):Ext R H w R H (w.alloc o):=
 ⟨Sub.refl R,fun _ _ _ _ h=> .inl h,fun _ _ _ _ h=> .inl h,Nat.le_refl _,fun _ _ _=>rfl,rfl,rfl,rfl,by rw[yM];omega,fun b hb _=>heap_alloc_old _ _ _ hb⟩
section
variable {P:Program}{B:Tb}{D:Dyn}(hX:Ok P B.X)(hr:Good P (rOf B D)){nt:Nat}{rs:List ResultVar}{f0:FuncId}{ro:Bool}
theorem JQ {id:Nat}{k:List Item}{fr:Frame}{cs:List Frame}{w0 w:World}{tmps:Array Value}{ds:List Deferred}(hm:fr.mode= .run)(h:Steps P (lone fr cs w0) (lone { fr with tmps:=tmps,todo:= .inBlock id::k,defers:=ds} cs w)):
  Steps P (lone fr cs w0) (lone { fr with tmps:=tmps,todo:=k,defers:=ds} cs w):=
 h.trans (.one (J5 (fr:= { fr with tmps:=tmps,todo:= .inBlock id::k,defers:=ds}) hm rfl))
theorem zG9 {id:Nat}{k k':List Item}{fr:Frame}{cs:List Frame}{w0 w:World}{tmps:Array Value}{ds:List Deferred}(hm:fr.mode= .run)(hk:exitTo id k'=some k)(h:Steps P (lone fr cs w0) (lone { fr with tmps:=tmps,todo:= .code (.exit id)::k',defers:=ds} cs w)):
  Steps P (lone fr cs w0) (lone { fr with tmps:=tmps,todo:=k,defers:=ds} cs w):=
 h.trans (.one (zDJ (fr:= { fr with tmps:=tmps,todo:= .code (.exit id)::k',defers:=ds}) hm rfl hk))
include hX hr in
theorem ZL {n:Nat} : ∀(c:Code) (h:Hint) (Bk:List (Nat×List Nat)) (K:Env->AH->Rs) (env:Env) (H:AH) (out:Ex×AH),yJ P f0 nt c h->yC B D n nt rs f0 ro c h Bk K env H=some out->
  YW P nt f0 ro (.code c) env H (fun env' H'=>K env' H'=some out) (XP Bk out) (RP B.X rs out):=by
 intro c
 induction c with
 | skip=>
  intro h Bk K env H out hs hk lo R fr k cs w hm hro ht hE hL hM hlo;simp only[yC]at hk;exact⟨R,w,fr.tmps,k,fr.defers,env,H, .one (zDH hm ht),hE,hL,Ext.refl R H w,Nat.le_refl _,hM, .inl ⟨rfl,hk⟩⟩
 | label l=>
  intro h Bk K env H out hs hk lo R fr k cs w hm hro ht hE hL hM hlo;simp only[yC]at hk;exact⟨R,w,fr.tmps,k,fr.defers,env,H, .one (zHx hm ht),hE,hL,Ext.refl R H w,Nat.le_refl _,hM, .inl ⟨rfl,hk⟩⟩
 | region id ops draw=>
  intro h Bk K env H out hs hk;simp only[yC]at hk;exact zKN hX hr hk f0 ro _ _
 | seq a b iha ihb=>
  intro h Bk K env H out hs hk
  cases h with
  | s ha hb=>
   simp only[yC]at hk;intro lo R fr k cs w hm hro ht hE hL hM hlo;refine YW.step (J4 hm ht) rfl ?_;refine YW.then [.code b] (fun id k=>rfl) (iha ha Bk _ env H out hs.1 hk) (fun env1 H1 hmid lo R fr k cs w hm hro ht hE hL hM hlo=> ?_) lo R { fr with todo:= .code a:: .code b::k} k cs w hm hro rfl hE hL hM hlo;exact ihb hb Bk K env1 H1 out hs.2 hmid lo R fr k cs w hm hro ht hE hL hM hlo
  | t L m=>
   simp only[yC]at hk;obtain⟨vs,hp,hk⟩:=yZ hk;obtain⟨H',hm,hle,hk⟩:=zAK hk;intro lo R fr k cs w hmo hro ht hE hL hM hlo;obtain⟨R',w',t',td,ds,env',H'',a1,a2,a3,a4,a5,a6,a7⟩:=hs ro env vs H H' hp hm hle lo R fr k cs w hmo hro ht hE hL hM hlo;rcases a7 with⟨b1,b2,rfl⟩ | ⟨i,k',b1,b2,b3⟩ | ⟨k',b1,b2⟩
   ·obtain⟨env'',c1,c2⟩:=ZZ hk b2;exact⟨R',w',t',td,ds,env'',H'',a1,a2.le c2,a3,a4,a5,a6, .inl ⟨b1,c1⟩⟩
   ·exact b3.elim
   ·exact b2.elim
  | _=>simp[yC]at hk
 | cond c a b iha ihb=>
  intro h Bk K env H out hs hk
  cases h with
  | c L ha hb=>
   simp only[yC]at hk;split at hk
   ·rename_i v hv;intro lo R fr k cs w hm hro ht hE hL hM hlo;have hvR:=yG hE _ _ hv;have key: ∀(t:Bool) (cc:Code) (hh:Hint),v= .bool t->cc=(if t then a else b)->
      (∀y,yC B D n nt rs f0 ro cc hh Bk (fun env H=>pck L env fun vs=>some (.norm vs,H)) env H=some y->YW P nt f0 ro (.code cc) env H (fun env' H'=>(pck L env' fun vs=>some (.norm vs,H'))=some y) (XP Bk y) (RP B.X rs y))->
      jn (yC B D n nt rs f0 ro cc hh Bk (fun env H=>pck L env fun vs=>some (.norm vs,H)) env H) (fun vs H=>unp L vs v6 fun env=>K env H)=some out->
      ∃R' w' tmps' td ds env' H',Steps P (lone fr cs w) (lone { fr with tmps:=tmps',todo:=td,defers:=ds} cs w')/\EnvR R' env' nt tmps'/\Rel R' H' w'/\Ext R H w R' H' w'/\H.next<=H'.next/\Marks lo R' w' ds/\Ends k (fun env' H'=>K env' H'=some out) (XP Bk out) (RP B.X rs out) td env' H':=by
     intro t cc hh hvt hcc ih hj;subst hvt hcc;refine YW.step (fD hm ht hvR) rfl ?_
     cases hy:yC B D n nt rs f0 ro (if t then a else b) hh Bk (fun env H=>pck L env fun vs=>some (.norm vs,H)) env H with
     | none=>rw[hy]at hj;simp[jn]at hj
     | some y=>
      rw[hy]at hj;obtain⟨R',w',t',td,ds,env',H',a1,a2,a3,a4,a5,a6,a7⟩:=ih y hy lo R { fr with todo:= .code (if t then a else b)::k} k cs w hm hro rfl hE hL hM hlo
      rcases a7 with⟨b1,b2⟩ | ⟨id,k',b1,b2,L',vs',b3,b4,b5⟩ | ⟨k',b1,b2⟩
      ·obtain⟨vs,c1,c2⟩:=yZ b2;injection c2 with c2;subst c2
       obtain⟨env2,d1,d2⟩:=ZZ hj c1;exact⟨R',w',t',td,ds,env2,H',a1,a2.le d2,a3,a4,a5,a6, .inl ⟨b1,d1⟩⟩
      ·subst b5;simp only[jn,z7]at hj;exact⟨R',w',t',td,ds,env',H',a1,a2,a3,a4,a5,a6, .inr (.inl ⟨id,k',b1,b2,L',vs',b3,b4,hj.symm⟩)⟩
      ·have hret:=kU b2;obtain⟨v,rfl⟩:=hret;simp only[jn,z7]at hj;subst hj;exact⟨R',w',t',td,ds,env',H',a1,a2,a3,a4,a5,a6, .inr (.inr ⟨k',b1,b2⟩)⟩
    have hk':=hk
    cases v with
    | bool t=>
     cases t with
     | true=>exact key true a ha rfl rfl (fun y hy=>iha ha Bk _ env H y hs.1 hy) hk
     | false=>exact key false b hb rfl rfl (fun y hy=>ihb hb Bk _ env H y hs.2 hy) hk
    | _=>simp[cnd,jn]at hk
   ·simp at hk
  | cl ha hb=>
   simp only[yC]at hk;split at hk
   ·rename_i v hv;intro lo R fr k cs w hm hro ht hE hL hM hlo;have hvR:=yG hE _ _ hv;rcases uA hk with⟨rfl,h1⟩ | ⟨rfl,h1⟩
    ·refine YW.step (fD hm ht hvR) rfl ?_;exact((iha ha Bk _ env H out hs.1 h1).mono (fun _ _ h=>by simp at h) (fun _ _ _ h=>h) (fun _ _ h=>h)) lo R { fr with todo:= .code a::k} k cs w hm hro rfl hE hL hM hlo
    ·refine YW.step (fD hm ht hvR) rfl ?_;exact ihb hb Bk _ env H out hs.2 h1 lo R { fr with todo:= .code b::k} k cs w hm hro rfl hE hL hM hlo
   ·simp at hk
  | cr ha hb=>
   simp only[yC]at hk;split at hk
   ·rename_i v hv;intro lo R fr k cs w hm hro ht hE hL hM hlo;have hvR:=yG hE _ _ hv;rcases uA hk with⟨rfl,h1⟩ | ⟨rfl,h1⟩
    ·refine YW.step (fD hm ht hvR) rfl ?_;exact iha ha Bk _ env H out hs.1 h1 lo R { fr with todo:= .code a::k} k cs w hm hro rfl hE hL hM hlo
    ·refine YW.step (fD hm ht hvR) rfl ?_;exact((ihb hb Bk _ env H out hs.2 h1).mono (fun _ _ h=>by simp at h) (fun _ _ _ h=>h) (fun _ _ h=>h)) lo R { fr with todo:= .code b::k} k cs w hm hro rfl hE hL hM hlo
   ·simp at hk
  | _=>simp[yC]at hk
 | block id b ih=>
  intro h Bk K env H out hs hk
  cases h with
  | b L hb=>
   simp only[yC]at hk;intro lo R fr k cs w hm hro ht hE hL hM hlo;obtain⟨y,hy,hcases⟩:=zET hk;refine YW.step (ZB hm ht) rfl ?_;obtain⟨R',w',t',td,ds,env',H',a1,a2,a3,a4,a5,a6,a7⟩:=ih hb _ _ env H y hs hy lo R { fr with todo:= .code b:: .inBlock id::k} (.inBlock id::k) cs w hm hro rfl hE hL hM hlo;rcases a7 with⟨b1,b2⟩ | ⟨i,k',b1,b2,L',vs',b3,b4,b5⟩ | ⟨k',b1,b2⟩
   ·obtain⟨vs,c1,c2⟩:=yZ b2;injection c2 with c2;subst c2
    rcases hcases with⟨vs2,H2,e1,e2⟩ | ⟨vs2,H2,e1,_⟩ | ⟨i,vs2,H2,_,e1,_⟩ | ⟨v,H2,e1,_⟩
    ·simp only[zD,Ex.norm.injEq]at e1;obtain⟨rfl,rfl⟩:=e1;obtain⟨env2,d1,d2⟩:=ZZ e2 c1;subst b1;exact⟨R',w',t',k,ds,env2,H',JQ (fr:= { fr with todo:= .code b:: .inBlock id::k}) hm a1,a2.le d2,a3,a4,a5,a6, .inl ⟨rfl,d1⟩⟩
    ·simp at e1
    ·simp at e1
    ·simp at e1
   ·subst b5;by_cases hi:i=id
    ·subst hi;simp only[wX,Nat.beq_refl,cond_true,z7]at b3;subst b3;rcases hcases with⟨vs2,H2,e1,_⟩ | ⟨vs2,H2,e1,e2⟩ | ⟨j,vs2,H2,hne,e1,_⟩ | ⟨v,H2,e1,_⟩
     ·simp at e1
     ·simp only[zD,Ex.exit.injEq,true_and]at e1;obtain⟨rfl,rfl⟩:=e1;obtain⟨env2,d1,d2⟩:=ZZ e2 b4;subst b1;have hex:exitTo i k'=some k:=by rw[b2];simp[exitTo]
      exact⟨R',w',t',k,ds,env2,H',zG9 (fr:= { fr with todo:= .code b:: .inBlock i::k}) hm hex a1,a2.le d2,a3,a4,a5,a6, .inl ⟨rfl,d1⟩⟩
     ·simp only[zD,Ex.exit.injEq]at e1;exact absurd e1.1.1.symm hne
     ·simp at e1
    ·have b3':wX Bk i=some L':=by
      simp only[wX,cond_eq_ite,Nat.beq_eq,if_neg (fun e=>hi (Eq.symm e))]at b3;exact b3
     have b2':exitTo i k'=exitTo i k:=by
      rw[b2];simp only[exitTo];rw[if_neg (by simpa using fun e=>hi (Eq.symm e))]
     rcases hcases with⟨vs2,H2,e1,_⟩ | ⟨vs2,H2,e1,_⟩ | ⟨j,vs2,H2,hne,e1,e2⟩ | ⟨v,H2,e1,_⟩
     ·simp at e1
     ·simp only[zD,Ex.exit.injEq]at e1;exact absurd e1.1.1 hi
     ·exact⟨R',w',t',td,ds,env',H',a1,a2,a3,a4,a5,a6, .inr (.inl ⟨i,k',b1,b2',L',vs',b3',b4,e2⟩)⟩
     ·simp at e1
   ·have hret:=kU b2;obtain⟨v,rfl⟩:=hret;rcases hcases with⟨vs2,H2,e1,_⟩ | ⟨vs2,H2,e1,_⟩ | ⟨j,vs2,H2,hne,e1,_⟩ | ⟨v2,H2,e1,e2⟩
    ·simp at e1
    ·simp at e1
    ·simp at e1
    ·subst e2;exact⟨R',w',t',td,ds,env',H',a1,a2,a3,a4,a5,a6, .inr (.inr ⟨k',b1,b2⟩)⟩
  | b0 hb=>
   simp only[yC]at hk;intro lo R fr k cs w hm hro ht hE hL hM hlo;refine YW.step (ZB hm ht) rfl ?_;obtain⟨R',w',t',td,ds,env',H',a1,a2,a3,a4,a5,a6,a7⟩:=ih hb _ _ env H out hs hk lo R { fr with todo:= .code b:: .inBlock id::k} (.inBlock id::k) cs w hm hro rfl hE hL hM hlo;rcases a7 with⟨b1,b2⟩ | ⟨i,k',b1,b2,L',vs',b3,b4,b5⟩ | ⟨k',b1,b2⟩
   ·subst b1;exact⟨R',w',t',k,ds,env',H',JQ (fr:= { fr with todo:= .code b:: .inBlock id::k}) hm a1,a2,a3,a4,a5,a6, .inl ⟨rfl,b2⟩⟩
   ·obtain⟨hi,b3'⟩:=zAb b3;have b2':exitTo i k'=exitTo i k:=by
     rw[b2];simp only[exitTo];rw[if_neg (by simpa using fun e=>hi (Eq.symm e))]
    exact⟨R',w',t',td,ds,env',H',a1,a2,a3,a4,a5,a6, .inr (.inl ⟨i,k',b1,b2',L',vs',b3',b4,b5⟩)⟩
   ·exact⟨R',w',t',td,ds,env',H',a1,a2,a3,a4,a5,a6, .inr (.inr ⟨k',b1,b2⟩)⟩
  | _=>simp[yC]at hk
 | loop b ih=>
  intro h Bk K env H out hs hk
  cases h with
  | l L hb=>
   simp only[yC]at hk;obtain⟨vs0,hp0,hk⟩:=yZ hk;have key: ∀(m:Nat) (vs:List AV) (env:Env) (H:AH),PK env L vs->qW m (fun vs H=>unp L vs v6 fun env=>yC B D n nt rs f0 ro b hb Bk (fun env H=>pck L env fun vs=>some (.norm vs,H)) env H) vs H=some out->
     ∀(lo:Nat) (R:Ren) (fr:Frame) (k:List Item) (cs:List Frame) (w:World),fr.mode= .run->(ro=false->fr.roundOf=none/\fr.fn=f0)->fr.todo= .code b:: .inLoop b::k->EnvR R env nt fr.tmps->Rel R H w->Marks lo R w fr.defers->lo<=w.heap.size->
     ∃R' w' tmps' td ds env' H',Steps P (lone fr cs w) (lone { fr with tmps:=tmps',todo:=td,defers:=ds} cs w')/\EnvR R' env' nt tmps'/\Rel R' H' w'/\Ext R H w R' H' w'/\H.next<=H'.next/\Marks lo R' w' ds/\Ends k (fun env' H'=>K env' H'=some out) (XP Bk out) (RP B.X rs out) td env' H':=by
    intro m
    induction m with
    | zero=>intro vs env H _ hl;have hl':(none:Rs)=some out:=hl;simp at hl'
    | succ m ihm=>
     intro vs env H hp hl lo R fr k cs w hm hro ht hE hL hM hlo;have hl':jn (unp L vs v6 fun env=>yC B D n nt rs f0 ro b hb Bk (fun env H=>pck L env fun vs=>some (.norm vs,H)) env H) (qW m (fun vs H=>unp L vs v6 fun env=>yC B D n nt rs f0 ro b hb Bk (fun env H=>pck L env fun vs=>some (.norm vs,H)) env H))=some out:=hl
     cases hy:(unp L vs v6 fun env=>yC B D n nt rs f0 ro b hb Bk (fun env H=>pck L env fun vs=>some (.norm vs,H)) env H)with
     | none=>rw[hy]at hl';simp[jn]at hl'
     | some y=>
      rw[hy]at hl';obtain⟨env1,d1,d2⟩:=ZZ hy hp;obtain⟨R',w',t',td,ds,env',H',a1,a2,a3,a4,a5,a6,a7⟩:=ih hb Bk _ env1 H y hs d1 lo R fr (.inLoop b::k) cs w hm hro ht (hE.le d2) hL hM hlo;rcases a7 with⟨b1,b2⟩ | ⟨i,k',b1,b2,L',vs',b3,b4,b5⟩ | ⟨k',b1,b2⟩
      ·obtain⟨vs2,c1,c2⟩:=yZ b2;injection c2 with c2;subst c2
       subst b1;have hl2:qW m (fun vs H=>unp L vs v6 fun env=>yC B D n nt rs f0 ro b hb Bk (fun env H=>pck L env fun vs=>some (.norm vs,H)) env H) vs2 H'=some out:=hl';obtain⟨R2,w2,t2,td2,ds2,env2,H2,e1,e2,e3,e4,e5,e6,e7⟩:=ihm vs2 env' H' c1 hl2 lo R' { fr with tmps:=t',todo:= .code b:: .inLoop b::k,defers:=ds} k cs w' hm hro rfl a2 a3 a6 (Nat.le_trans hlo a4.size);have hstep:=Steps.one (V3 (P:=P) (cs:=cs) (w:=w') (fr:= { fr with tmps:=t',todo:= .inLoop b::k,defers:=ds}) hm rfl);exact⟨R2,w2,t2,td2,ds2,env2,H2,a1.trans (hstep.trans e1),e2,e3,a4.trans e4,Nat.le_trans a5 e5,e6,e7⟩
      ·subst b5;simp only[jn,z7]at hl';exact⟨R',w',t',td,ds,env',H',a1,a2,a3,a4,a5,a6, .inr (.inl ⟨i,k',b1,b2,L',vs',b3,b4,hl'.symm⟩)⟩
      ·have hret:=kU b2;obtain⟨v,rfl⟩:=hret;simp only[jn,z7]at hl';subst hl';exact⟨R',w',t',td,ds,env',H',a1,a2,a3,a4,a5,a6, .inr (.inr ⟨k',b1,b2⟩)⟩
   intro lo R fr k cs w hm hro ht hE hL hM hlo;refine YW.step (st_loop hm ht) rfl ?_;exact key n vs0 env H hp0 hk lo R { fr with todo:= .code b:: .inLoop b::k} k cs w hm hro rfl hE hL hM hlo
  | _=>simp[yC]at hk
 | exit id=>
  intro h Bk K env H out hs hk lo R fr k cs w hm hro ht hE hL hM hlo;simp only[yC]at hk;split at hk
  ·rename_i L hL';obtain⟨vs,h1,h2⟩:=yZ hk;injection h2 with h2
   refine⟨R,w,fr.tmps,fr.todo,fr.defers,env,H, ?_,hE,hL,Ext.refl R H w,Nat.le_refl _,hM, .inr (.inl ⟨id,k,ht,rfl,L,vs,hL',h1,h2.symm⟩)⟩;exact .refl _ _
  ·simp at hk
 | ret=>
  intro h Bk K env H out hs hk lo R fr k cs w hm hro ht hE hL hM hlo;simp only[yC]at hk;refine⟨R,w,fr.tmps,fr.todo,fr.defers,env,H, ?_,hE,hL,Ext.refl R H w,Nat.le_refl _,hM, .inr (.inr ⟨k,ht,hk⟩)⟩;exact .refl _ _
 | rangeFunc f params assign body _ _=>
  intro h Bk K env H out hs hk
  cases h with
  | rf s L=>
   simp only[yC,cond_eq_ite]at hk;split at hk
   ·simp at hk
   ·rename_i hrof;have hrof':ro=false:=by simpa using hrof
    split at hk
    ·rename_i fv hfv;obtain⟨vs,hp,hk⟩:=yZ hk;obtain⟨t',hset,hnone,hk⟩:=VQ hk;obtain⟨v,H2,hcall,hk⟩:=uC hk;obtain⟨lp,H3,hA2,hbusy,hput,hk⟩:=JR hk;unfold rfC at hcall;split at hcall
     ·rename_i g first cap _ _
      intro lo R fr k cs w hm hro ht hE hL hM hlo;obtain⟨hno,hfr0⟩:=hro hrof';obtain⟨hnx,hsim⟩:=hr.call _ _ _ _ _ hcall;obtain⟨first',cap',hfe,hv1,hv2⟩:=yG hE _ _ hfv
      let LP:Loop:= { state:= .ready,pending:=none,fn:=fr.fn,tmps:=fr.tmps,params:=params,assign:=assign,body:=body,defers:=w.heap.size}
      let W1:World:=(w.alloc (.deferred (some []))).alloc (.loop LP)
      let FR1:Frame:= { fr with todo:= .inRangeFunc (w.heap.size+1)::k,defers:= { target:= .collected w.heap.size,args:= #[] } ::fr.defers}
      let R1:Ren:=R.add H.next (w.heap.size+1) 0 0
      have hLd:=hL.alloc_out (.deferred (some []));have hszd:(w.alloc (.deferred (some []))).heap.size=w.heap.size+1:=yM _ _;have hR1:Rel R1 ⟨t',H.next+1⟩ W1:=by
       have:=hLd.new (c:=0) (x:= .loop LP) hset ⟨LP,nt,rfl,hs,rfl,rfl,hfr0,(hE.le (zLL hp)).mono (R.sub_add _ _ _ _)⟩;rw[hszd]at this;exact this
      have hx1:Ext R H w R1 ⟨t',H.next+1⟩ W1:=by
       have:=(Ext.alloc_out R H w (.deferred (some []))).trans (Ext.add (c:=0) (x:= .loop LP) hset);rw[hszd]at this;exact this
      have hRA:R1 H.next (w.heap.size+1) 0 0:=R.add_self _ _ _ _
      have hM1:Marks lo R1 W1 FR1.defers:=by
       have hMe:=hM.ext hx1;refine⟨List.pairwise_cons.2 ⟨fun q hq r e=> ?_,hMe.1⟩,fun q hq=> ?_⟩
       ·obtain⟨r',e',_,h2,_,_⟩:=hM.2 q hq;rw[e'];intro e2;simp only[Deferred.mk.injEq,Target.collected.injEq,and_true]at e e2;omega
       ·rcases List.mem_cons.1 hq with rfl | hq
        ·refine⟨w.heap.size,rfl,hlo, ?_, ?_, ?_⟩
         ·show w.heap.size<W1.heap.size;simp only[W1,yM];omega
         ·rintro A d c (h | ⟨_,h,_⟩)
          ·have:=(hL.lt _ _ _ _ h).1;omega
          ·omega
         ·show((w.alloc (.deferred (some []))).alloc (.loop LP)).heap[w.heap.size]? =_;rw[heap_alloc_old _ _ _ (by rw[hszd];omega),xT]
        ·exact hMe.2 q hq
      have hy1:VRL R1 [AV.yieldTo H.next] [Value.func (.yield (w.heap.size+1)) #[] #[]]:=⟨_,[],rfl,⟨_,_,_,hRA,rfl⟩,rfl⟩
      have hargs:VRL R1 (first++[AV.yieldTo H.next]++cap) ((first'++[Value.func (.yield (w.heap.size+1)) #[] #[]])++cap'):=
       ((VRL.mono hx1.sub _ _ hv1).append hy1).append (VRL.mono hx1.sub _ _ hv2)
      have hen:=run_enterLoop_outer (P:=P) (w:=w) fr.fn fr.tmps params assign body;have hres: ∀F:Frame,F.tmps=fr.tmps->(resolve F.eval { callee:= .value f,args:= #[.const (.func (.yield (w.heap.size+1)) #[] #[])],argTypes:= #[] } 0).run P ((w.alloc (.deferred (some []))).alloc (.loop { state:= .ready,pending:=none,fn:=fr.fn,tmps:=fr.tmps,params:=params,assign:=assign,body:=body,defers:=w.heap.size}))=
        .ok { target:= .fn (.func g) ⟨cap'⟩,args:=⟨first'++[Value.func (.yield (w.heap.size+1)) #[] #[]]⟩ } ((w.alloc (.deferred (some []))).alloc (.loop { state:= .ready,pending:=none,fn:=fr.fn,tmps:=fr.tmps,params:=params,assign:=assign,body:=body,defers:=w.heap.size})):=by
       intro F hF;have hev:F.eval f=fr.eval f:=by cases f<;>simp[Frame.eval,hF]
       have hfe':F.eval f= .func (.func g) ⟨first'⟩ ⟨cap'⟩:=hev.trans hfe
       have hc':F.eval (.const (.func (.yield (w.heap.size+1)) #[] #[]))= .func (.yield (w.heap.size+1)) #[] #[]:=rfl;simp[resolve,hfe',Deferred.ofValue,hc']
      have hinv: ∀w',(invoke (.fn (.func g) ⟨cap'⟩) ⟨first'++[Value.func (.yield (w.heap.size+1)) #[] #[]]⟩).run P w'=(callFunc g ⟨(first'++[Value.func (.yield (w.heap.size+1)) #[] #[]])++cap'⟩).run P w':=by
       intro w';have hea:(⟨first'++[Value.func (.yield (w.heap.size+1)) #[] #[]]⟩:Array Value)++⟨cap'⟩=⟨(first'++[Value.func (.yield (w.heap.size+1)) #[] #[]])++cap'⟩:=by
        apply Array.toList_inj.1;simp
       simp only[invoke,hea]
      have hreach: ∃R2 w2 z,Steps P (lone fr cs w) (lone { FR1 with todo:= .endRangeFunc (w.heap.size+1)::k} cs w2)/\VR R2 v z/\Rel R2 H2 w2/\Ext R1 ⟨t',H.next+1⟩ W1 R2 H2 w2:=by
       rcases hsim with⟨⟨fn,hfn,hbody⟩,hcl⟩ | hdir
       ·have hstep1:step P (lone fr cs w)= .next (lone (Frame.enter P g ⟨(first'++[Value.func (.yield (w.heap.size+1)) #[] #[]])++cap'⟩ .normal) (FR1::cs) W1):=by
         refine step_lone_go ?_;have hnm:=hX.nm g fn hfn;have hb:fn.body.isNone=false:=by cases hh:fn.body<;>simp_all
         have hcf: ∀w',(callFunc g ⟨(first'++[Value.func (.yield (w.heap.size+1)) #[] #[]])++cap'⟩).run P w'= .ok (.enter g ⟨(first'++[Value.func (.yield (w.heap.size+1)) #[] #[]])++cap'⟩) w':=by
          intro w';simp only[callFunc,program,Sem.run_bind,Sem.run,Result.andThen,hfn,hnm,Bool.false_eq_true,if_false,hb,Sem.run_pure]
         simp only[stepG,stepG.exec,hm,ht,hno,Sem.runT_eq,hen,stepG.apply,Sem.run_bind];simp only[List.cons_append,List.nil_append,if_true];simp only[List.append_assoc,List.cons_append,List.nil_append]at hinv hcf⊢;simp[hres,hinv,hcf,FR1,W1,LP,hm,hno]
        obtain⟨R2,w2,z,fr',s2,f2,lv2,v2,l2,x2⟩:=hcl R1 _ (FR1::cs) W1 hargs hR1;have hstep2:step P (lone fr' (FR1::cs) w2)= .next (lone { FR1 with todo:= .endRangeFunc (w.heap.size+1)::k} cs w2):=step_leave_returned lv2
        exact⟨R2,w2,z,(Steps.one hstep1).trans (s2.trans (.one hstep2)),v2,l2,x2⟩
       ·obtain⟨R2,w2,z,hrun,v2,l2,x2⟩:=hdir R1 _ W1 hargs hR1;have hstep1:step P (lone fr cs w)= .next (lone { FR1 with todo:= .endRangeFunc (w.heap.size+1)::k} cs w2):=by
         refine step_lone_go ?_;have hrun':(callFunc g ⟨(first'++[Value.func (.yield (w.heap.size+1)) #[] #[]])++cap'⟩).run P ((w.alloc (.deferred (some []))).alloc (.loop { state:= .ready,pending:=none,fn:=fr.fn,tmps:=fr.tmps,params:=params,assign:=assign,body:=body,defers:=w.heap.size}))= .ok (.value z) w2:=hrun
         simp only[stepG,stepG.exec,hm,ht,hno,Sem.runT_eq,hen,stepG.apply,Sem.run_bind];simp only[List.cons_append,List.nil_append,if_true];simp only[List.append_assoc,List.cons_append,List.nil_append]at hinv hrun';simp[hres,hinv,hrun',FR1,hm,hno,Frame.finish]
        exact⟨R2,w2,z, .one hstep1,v2,l2,x2⟩
      obtain⟨R2,w2,z,s2,v2,l2,x2⟩:=hreach;have hRA2:R2 H.next (w.heap.size+1) 0 0:=x2.sub _ _ _ _ hRA
      obtain⟨L2,nt2,hb2,_,hst2,hpe2,_,_⟩:=l2.obj _ _ _ _ _ hRA2 hA2;have hel:=run_endLoop (P:=P) hb2 (by rw[hst2];exact hbusy);have hstep3:step P (lone { FR1 with todo:= .endRangeFunc (w.heap.size+1)::k} cs w2)= .next (lone { FR1 with todo:=(lp.pending.map Item.code).toList++k} cs (wF w2 (w.heap.size+1) (.loop { L2 with state:= .exhausted}))):=by
       refine step_lone_go ?_;have hm':FR1.mode= .run:=hm;simp only[stepG,stepG.exec,hm',Sem.runT_eq,hel,hpe2];simp[World.putObj,wF]
      unfold u5 at hput;split at hput
      ·rename_i t3 ht3;simp only[z7]at hput;subst hput;have l3:=l2.put hRA2 ⟨_,hA2,trivial⟩ ht3 (x:= .loop { L2 with state:= .exhausted}) (o':= .dead) trivial;have x3:Ext R2 H2 w2 R2 ⟨t3,H2.next⟩ (wF w2 (w.heap.size+1) (.loop { L2 with state:= .exhausted})):=Ext.put hRA2 ht3
       have xall:=hx1.trans (x2.trans x3);have hMall:=(hM1.ext x2).ext x3;have hEall:EnvR R2 env nt fr.tmps:=hE.mono (hx1.sub.trans x2.sub);have hsteps:=s2.trans (Steps.one hstep3);have hnxt:H.next<=H2.next:=Nat.le_trans (Nat.le_succ _) hnx
       unfold zH9 at hk;split at hk
       ·rename_i hj;rw[hj]at hsteps;exact⟨R2,_,fr.tmps,k,FR1.defers,env,_,hsteps,hEall,l3,xall,hnxt,hMall, .inl ⟨rfl,hk⟩⟩
       ·rename_i id hj;rw[hj]at hsteps;exact⟨R2,_,fr.tmps, .code (.exit id)::k,FR1.defers,env,_,hsteps,hEall,l3,xall,hnxt,hMall, .inr (.inl ⟨id,k,rfl,rfl,WT hk⟩)⟩
       ·rename_i hj;rw[hj]at hsteps;exact⟨R2,_,fr.tmps, .code .ret::k,FR1.defers,env,_,hsteps,hEall,l3,xall,hnxt,hMall, .inr (.inr ⟨k,rfl,hk⟩)⟩
       ·simp at hk
      ·simp at hput
     ·simp at hcall
    ·simp at hk
  | _=>simp[yC]at hk
 | scope b _=>intro h Bk K env H out hs hk;simp[yC]at hk
 | goto l=>intro h Bk K env H out hs hk;simp[yC]at hk
 | refuse why=>intro h Bk K env H out hs hk;simp[yC]at hk
end
theorem Rel.wput_out {R:Ren}{H:AH}{w:World}(h:Rel R H w){r:Nat}{x:Obj}(hr: ∀A d c,¬R A r d c):Rel R H (wF w r x):=
 ⟨h.fn,h.inj,fun A b d c o ho hg=>by
  rw[kO _ _ _ _ (fun e=>by subst e;exact hr _ _ _ ho)];exact h.obj A b d c o ho hg,
  fun A b d c ho=>by rw[kS];exact h.lt A b d c ho⟩
theorem Ext.wput_above {R R':Ren}{H H':AH}{w0 w:World}(h:Ext R H w0 R' H' w){r:Nat}(x:Obj)(hr:w0.heap.size<=r):Ext R H w0 R' H' (wF w r x) where
 sub:=h.sub
 new:=h.new
 newA:=h.newA
 next:=h.next
 keepA:=h.keepA
 os:=h.os
 tape:=h.tape
 output:=h.output
 size:=by rw[kS];exact h.size
 keep b hb hR:=by rw[kO _ _ _ _ (by omega)];exact h.keep b hb hR
theorem aR {P:Program}{w0:World}{R0:Ren}{H0:AH}{cs:List Frame} : ∀(ds:List Deferred) (fr:Frame) (w:World) (R:Ren) (H:AH),fr.mode= .returning->fr.defers=ds->Marks w0.heap.size R w ds->Rel R H w->Ext R0 H0 w0 R H w->
  ∃w',Steps P (lone fr cs w) (lone { fr with defers:=[] } cs w')/\Rel R H w'/\Ext R0 H0 w0 R H w'
 | [],fr,w,R,H,hm,hd,_,hL,hx=>⟨w,by
   have:({ fr with defers:=[] } :Frame)=fr:=by rw[<-hd]
   rw[this];exact .refl _ _,hL,hx⟩
 | d::ds,fr,w,R,H,hm,hd,hM,hL,hx=>by
  obtain⟨r,rfl,h0,h1,h2,h3⟩:=hM.2 d (zC ..);have hrun:(Instr.takeDeferred r).run P w= .ok [] (wF w r (.deferred none)):=by
   simp[Instr.takeDeferred,getObj,setObj,Sem.run_bind,Sem.run,h3,wF,Result.andThen]
  have hstep:step P (lone fr cs w)= .next (lone { fr with defers:=ds} cs (wF w r (.deferred none))):=by
   refine step_lone_go ?_;simp[stepG,unwind,hm,hd,Sem.runT_eq,hrun]
  have hM':Marks w0.heap.size R (wF w r (.deferred none)) ds:=by
   refine⟨(List.pairwise_cons.1 hM.1).2,fun q hq=> ?_⟩;obtain⟨r',e,g0,g1,g2,g3⟩:=hM.2 q (zA _ hq);have hne:r'≠r:=fun e'=>by subst e';exact(List.pairwise_cons.1 hM.1).1 q hq r' rfl e
   exact⟨r',e,g0,by rw[kS];exact g1,g2,by rw[kO _ _ _ _ hne];exact g3⟩
  obtain⟨w',s1,s2,s3⟩:=aR ds { fr with defers:=ds} (wF w r (.deferred none)) R H hm rfl hM' (hL.wput_out h2) (hx.wput_above _ h0);exact⟨w',(Steps.one hstep).trans s1,s2,s3⟩
theorem XT: ∀ {k i:Nat} {vs:List AV} {env:Env} {K:Env->Rs} {out:Ex×AH},zMv k i vs env K=some out->vs.length=k/\ ∃env',K env'=some out/\ ∀t,look env' t=if i<=t/\t<i+k then vs[t - i]? else look env t
 | 0,i,vs,env,K,out,h=>by
  simp only[zMv,nl]at h;split at h
  ·exact⟨rfl,env,h,fun t=>by rw[if_neg (by omega)]⟩
  ·simp at h
 | k+1,i,vs,env,K,out,h=>by
  simp only[zMv]at h;obtain⟨v,l,rfl,h1⟩:=QZ h;obtain⟨h2,env',h3,h4⟩:=XT h1;refine⟨by simp[h2],env',h3,fun t=> ?_⟩;rw[h4 t];by_cases e:t=i
  ·subst e;rw[if_neg (by omega),if_pos (by omega)];simp[look,xO]
  ·by_cases h5:i<=t/\t<i+(k+1)
   ·rw[if_pos (by omega),if_pos h5,show t - i=(t - (i+1))+1 from by omega,List.getElem?_cons_succ]
   ·rw[if_neg (by omega),if_neg h5];simp[look,xO,e]
theorem VE {X:Cx}{env:Env}{H:AH} : ∀(rs:List ResultVar) (G:List AV->Rs) (z:Ex×AH),zMi X rs env H G=some z-> ∃vs,bZ X env H rs=some vs/\G vs=some z
 | [],G,z,h=>⟨[],rfl,h⟩
 | r::rs,G,z,h=>by
  simp only[zMi]at h;obtain⟨v,h1,h2⟩:=j0 h;obtain⟨vs,h3,h4⟩:=VE rs _ z h2;refine⟨v::vs, ?_,h4⟩;have:zAx X env H r=some v:=by
   cases r with
   | tmp t=>exact h1
   | cell a t=>
    simp only[resE]at h1;obtain⟨p,hp,hl⟩:=jK h1;exact fQ hp (KL hl)
  simp only[bZ,this,h3]
section
variable {P:Program}{X:Cx}(hX:Ok P X)
include hX in
theorem J9 {R:Ren}{H:AH}{w:World}(hL:Rel R H w){env:Env}{nt:Nat}{tmps:Array Value}(hE:EnvR R env nt tmps): ∀(rs:List ResultVar) (vs:List AV),bZ X env H rs=some vs->
  ∃zs:List Value,(rs.mapM (fun | .tmp t=>pure (tmps.getD t undef) | .cell a t=>do loadVar t (← asAddr (tmps.getD a undef)):ResultVar->Sem Value)).run P w= .ok zs w/\VRL R vs zs
 | [],vs,h=>by simp only[bZ,z7]at h;subst h;exact⟨[],rfl,rfl⟩
 | r::rs,vs,h=>by
  simp only[bZ]at h;split at h
  ·rename_i v hv;split at h
   ·rename_i vs' hvs;simp only[z7]at h;subst h;obtain⟨zs,h1,h2⟩:=J9 hL hE rs vs' hvs;have hone: ∃z,(match r with | .tmp t=>pure (tmps.getD t undef) | .cell a t=>do loadVar t (← asAddr (tmps.getD a undef)):Sem Value).run P w= .ok z w/\VR R v z:=by
     cases r with
     | tmp t=>exact⟨_,rfl,hE.get t v hv⟩
     | cell a t=>
      simp only[zAx]at hv;unfold b1 at hv;split at hv
      ·rename_i p hpl;have hp:=hE.get a p hpl;obtain⟨z,h3,h4⟩:=zBX (P:=P) hX hL hv hp;refine⟨z, ?_,h4⟩
       cases p with
       | ptr A off=>
        obtain⟨b,d,c,hr,e⟩:=hp;show(do loadVar t (← asAddr (tmps.getD a undef)):Sem Value).run P w= .ok z w
        rw[e]at h3⊢;simp only[Instr.loadAt,Instr.sureAddr,Sem.run_bind,Sem.run_pure,Result.andThen]at h3;simp only[asAddr,Sem.run_bind,Sem.run_pure,Result.andThen];exact h3
       | _=>simp[YG]at hv
      ·simp at hv
    obtain⟨z,hz1,hz2⟩:=hone;refine⟨z::zs, ?_,z,zs,rfl,hz2,h2⟩;rw[List.mapM_cons];simp only[Sem.run_bind,hz1,Result.andThen,h1];rfl
   ·simp at h
  ·simp at h
end
theorem zKj {R:Ren}{vs:List AV}{zs:List Value}(h:VRL R vs zs):VR R (tupV vs) (if h:zs.toArray.size=1 then zs.toArray[0]else .tuple zs.toArray):=by
 unfold tupV;split
 ·rename_i v;obtain⟨z,zs',rfl,h1,h2⟩:=h;simp only[VRL]at h2;subst h2;simpa using h1
 ·rename_i hne;have hl:=VRL.length _ _ h;have: ¬zs.toArray.size=1:=by
   intro h1;simp only[List.size_toArray]at h1;rw[hl]at h1
   match vs,h1 with
   | [x],_=>exact hne x rfl
  rw[dif_neg this];exact⟨zs,rfl,h⟩
section
variable {P:Program}{B:Tb}{D:Dyn}(hr:Good P (rOf B D)){nt:Nat}{rs:List ResultVar}{f0:FuncId}{ro:Bool}
include hr in
theorem zE4 {ops:Array Oper}{draw:Bool}{K:Env->AH->Rs}{env:Env}{H:AH}{out:Ex×AH}(hK: ∀e H',K e H'=some out->H'.next<=out.2.next)(h:zMK B D nt ops draw K env H=some out):H.next<=out.2.next:=by
 unfold zMK at h;rw[cond_eq_ite]at h;split at h
 ·split at h
  ·rename_i row masks hplan;obtain⟨es,envF,HF,env',c1,c2,c3,c4,c5⟩:=wJ _ row [] env H env [] h (Le.refl env) (fun ms hms=>by intro a ha;simp at ha);exact Nat.le_trans (jB hr.mono c1).1 (hK _ _ c4)
  ·simp at h
 ·obtain⟨es,envF,HF,env',c1,c2,c3,c4,_⟩:=wJ _ _ [] env H env [] h (Le.refl env) (fun ms hms=>by simp at hms);exact Nat.le_trans (jB hr.mono c1).1 (hK _ _ c4)
theorem uR: ∀ {L:List Nat} {vs:List AV} {base:Env} {K:Env->Rs} {out:Ex×AH},unp L vs base K=some out-> ∃env',K env'=some out
 | [],vs,base,K,out,h=>⟨base,h⟩
 | l::L,vs,base,K,out,h=>by
  simp only[unp]at h;obtain⟨v,l',rfl,h1⟩:=QZ h;exact uR h1
theorem bO {L:List Nat}{env:Env}{H:AH}{y:Ex×AH}(h:(pck L env fun vs=>some (.norm vs,H))=some y):H.next<=y.2.next:=by
 obtain⟨vs,_,h2⟩:=yZ h;injection h2 with h2;rw[<-h2];exact Nat.le_refl _
include hr in
theorem aG {n:Nat} : ∀(c:Code) (h:Hint) (Bk:List (Nat×List Nat)) (K:Env->AH->Rs) (env:Env) (H:AH) (out:Ex×AH),(∀e H',K e H'=some out->H'.next<=out.2.next)->yC B D n nt rs f0 ro c h Bk K env H=some out->H.next<=out.2.next:=by
 intro c
 induction c with
 | skip=>intro h Bk K env H out hK hk;simp only[yC]at hk;exact hK _ _ hk
 | label l=>intro h Bk K env H out hK hk;simp only[yC]at hk;exact hK _ _ hk
 | region id ops draw=>intro h Bk K env H out hK hk;simp only[yC]at hk;exact zE4 hr hK hk
 | seq a b iha ihb=>
  intro h Bk K env H out hK hk
  cases h with
  | s ha hb=>simp only[yC]at hk;exact iha ha Bk _ env H out (fun e H' h=>ihb hb Bk K e H' out hK h) hk
  | t L m=>
   simp only[yC]at hk;obtain⟨vs,_,hk⟩:=yZ hk;obtain⟨H',_,hle,hk⟩:=zAK hk;obtain⟨env',hk⟩:=uR hk;exact Nat.le_trans hle (hK _ _ hk)
  | _=>simp[yC]at hk
 | cond c a b iha ihb=>
  intro h Bk K env H out hK hk
  cases h with
  | c L ha hb=>
   simp only[yC]at hk;split at hk
   ·have key: ∀y,(yC B D n nt rs f0 ro a ha Bk (fun env H=>pck L env fun vs=>some (.norm vs,H)) env H=some y\/yC B D n nt rs f0 ro b hb Bk (fun env H=>pck L env fun vs=>some (.norm vs,H)) env H=some y)->H.next<=y.2.next:=by
     rintro y (h1 | h1)
     ·exact iha ha Bk _ env H y (fun e H' h=>bO h) h1
     ·exact ihb hb Bk _ env H y (fun e H' h=>bO h) h1
    rcases WL hk with⟨vs,H1,h1,h2⟩ | ⟨id,vs,H1,h1,rfl⟩ | ⟨v,H1,h1,rfl⟩
    ·have h3:=key _ (by rcases uA h1 with⟨_,h⟩ | ⟨_,h⟩;exact .inl h;exact .inr h);obtain⟨env',h4⟩:=uR h2;exact Nat.le_trans h3 (hK _ _ h4)
    ·exact key _ (by rcases uA h1 with⟨_,h⟩ | ⟨_,h⟩;exact .inl h;exact .inr h)
    ·exact key _ (by rcases uA h1 with⟨_,h⟩ | ⟨_,h⟩;exact .inl h;exact .inr h)
   ·simp at hk
  | cl ha hb=>
   simp only[yC]at hk;split at hk
   ·rcases uA hk with⟨_,h1⟩ | ⟨_,h1⟩
    ·exact iha ha Bk _ env H out (fun _ _ h=>by simp at h) h1
    ·exact ihb hb Bk _ env H out hK h1
   ·simp at hk
  | cr ha hb=>
   simp only[yC]at hk;split at hk
   ·rcases uA hk with⟨_,h1⟩ | ⟨_,h1⟩
    ·exact iha ha Bk _ env H out hK h1
    ·exact ihb hb Bk _ env H out (fun _ _ h=>by simp at h) h1
   ·simp at hk
  | _=>simp[yC]at hk
 | block id b ih=>
  intro h Bk K env H out hK hk
  cases h with
  | b L hb=>
   simp only[yC]at hk;obtain⟨y,hy,hc⟩:=zET hk;have h1:=ih hb _ _ env H y (fun e H' h=>bO h) hy;rcases hc with⟨vs,H2,rfl,e2⟩ | ⟨vs,H2,rfl,e2⟩ | ⟨i,vs,H2,_,rfl,rfl⟩ | ⟨v,H2,rfl,rfl⟩
   ·obtain⟨env',h4⟩:=uR e2;exact Nat.le_trans h1 (hK _ _ h4)
   ·obtain⟨env',h4⟩:=uR e2;exact Nat.le_trans h1 (hK _ _ h4)
   ·exact h1
   ·exact h1
  | b0 hb=>simp only[yC]at hk;exact ih hb _ _ env H out hK hk
  | _=>simp[yC]at hk
 | loop b ih=>
  intro h Bk K env H out hK hk
  cases h with
  | l L hb=>
   simp only[yC]at hk;obtain⟨vs0,_,hk⟩:=yZ hk;have key: ∀(m:Nat) (vs:List AV) (H:AH),qW m (fun vs H=>unp L vs v6 fun env=>yC B D n nt rs f0 ro b hb Bk (fun env H=>pck L env fun vs=>some (.norm vs,H)) env H) vs H=some out->H.next<=out.2.next:=by
    intro m
    induction m with
    | zero=>intro vs H hl;have hl':(none:Rs)=some out:=hl;simp at hl'
    | succ m ihm=>
     intro vs H hl;have hl':jn (unp L vs v6 fun env=>yC B D n nt rs f0 ro b hb Bk (fun env H=>pck L env fun vs=>some (.norm vs,H)) env H) (qW m (fun vs H=>unp L vs v6 fun env=>yC B D n nt rs f0 ro b hb Bk (fun env H=>pck L env fun vs=>some (.norm vs,H)) env H))=some out:=hl;rcases WL hl' with⟨vs,H1,h1,h2⟩ | ⟨id,vs,H1,h1,rfl⟩ | ⟨v,H1,h1,rfl⟩
     ·obtain⟨env',h4⟩:=uR h1;exact Nat.le_trans (ih hb Bk _ env' H _ (fun e H' h=>bO h) h4) (ihm vs H1 h2)
     ·obtain⟨env',h4⟩:=uR h1;exact ih hb Bk _ env' H _ (fun e H' h=>bO h) h4
     ·obtain⟨env',h4⟩:=uR h1;exact ih hb Bk _ env' H _ (fun e H' h=>bO h) h4
   exact key n vs0 H hk
  | _=>simp[yC]at hk
 | exit id=>
  intro h Bk K env H out hK hk;simp only[yC]at hk;split at hk
  ·obtain⟨vs,_,h2⟩:=yZ hk;injection h2 with h2;rw[<-h2];exact Nat.le_refl _
  ·simp at hk
 | ret=>
  intro h Bk K env H out hK hk;simp only[yC]at hk;obtain⟨v,e⟩:=kU hk;rw[e];exact Nat.le_refl _
 | rangeFunc f params assign body _ _=>
  intro h Bk K env H out hK hk
  cases h with
  | rf s L=>
   simp only[yC,cond_eq_ite]at hk;split at hk
   ·simp at hk
   ·split at hk
    ·obtain⟨vs,_,hk⟩:=yZ hk;obtain⟨t',_,_,hk⟩:=VQ hk;obtain⟨v,H2,hcall,hk⟩:=uC hk;obtain⟨lp,H3,hA2,_,hput,hk⟩:=JR hk;have h1:H.next+1<=H2.next:=by
      unfold rfC at hcall;split at hcall
      ·exact(hr.call _ _ _ _ _ hcall).1
      ·simp at hcall
     have h2:=jT hput;have h3:H3.next<=out.2.next:=by
      unfold zH9 at hk;split at hk
      ·exact hK _ _ hk
      ·obtain⟨L',vs',_,_,e⟩:=WT hk;rw[e];exact Nat.le_refl _
      ·obtain⟨v,e⟩:=kU hk;rw[e];exact Nat.le_refl _
      ·simp at hk
     omega
    ·simp at hk
  | _=>simp[yC]at hk
 | scope b _=>intro h Bk K env H out _ hk;simp[yC]at hk
 | goto l=>intro h Bk K env H out _ hk;simp[yC]at hk
 | refuse why=>intro h Bk K env H out _ hk;simp[yC]at hk
end
section
variable {P:Program}{B:Tb}{D:Dyn}(hX:Ok P B.X)(hr:Good P (rOf B D))
include hX hr in
theorem zFa {f:FuncId}{fn:Func}(hfn:P.funcs[f]? =some fn){n:Nat}{hint:Hint}(hsites: ∀body,fn.body=some body->yJ P f fn.ntmps body hint){args:List AV}{H H':AH}{v:AV}(h:zNo B D n f fn hint args H=some (v,H')):H.next<=H'.next/\zMe P f args H v H':=by
 unfold zNo at h;split at h
 ·rename_i body hbody;rw[cond_eq_ite]at h;split at h
  ·rename_i hle;rw[zR]at hle;unfold yR at h;split at h
   ·rename_i v' H1 hc;simp only[z7,zD]at h;obtain⟨rfl,rfl⟩:=h;obtain⟨hlen,env,hk,hlk⟩:=XT hc;have hS:=ZL hX hr body hint [] _ env H _ (hsites body hbody) hk;have main: ∀(R:Ren) (az:List Value) (cs:List Frame) (w:World),VRL R args az->Rel R H w->H.next<=H1.next/\
      ∃R' w' z fr',Steps P (lone (Frame.enter P f ⟨az⟩ .normal) cs w) (lone fr' cs w')/\fr'.fn=f/\fr'.leaving P w' (.returned z)/\VR R' v' z/\Rel R' H1 w'/\Ext R H w R' H1 w':=by
     intro R az cs w hv hL;have hlas:=VRL.length _ _ hv;have hE:EnvR R env fn.ntmps (Frame.enter P f ⟨az⟩ .normal).tmps:=by
      have htm:(Frame.enter P f ⟨az⟩ .normal).tmps=(⟨az⟩:Array Value)++Array.replicate (fn.ntmps - az.length) undef:=by
       simp[Frame.enter,hfn]
      rw[htm];refine⟨by simp;omega,fun t x hx=> ?_,fun t ht=> ?_⟩
      ·rw[hlk t]at hx;split at hx
       ·rename_i htk;rw[Nat.sub_zero]at hx;obtain⟨z,hz1,hz2⟩:=VRL.get _ _ hv t x hx;have hta:t<az.length:=by omega
        rw[Array.getD_eq_getD_getElem?,Array.getElem?_append_left (by simpa using hta)];have:(⟨az⟩:Array Value)[t]? =some z:=by simpa using hz1
        rw[this];exact hz2
       ·simp[look,v6]at hx
      ·rw[hlk t,if_neg (by omega)];rfl
     have htd:(Frame.enter P f ⟨az⟩ .normal).todo= .code body::[]:=by simp[Frame.enter,hfn,hbody]
     obtain⟨R1,w1,t1,td1,ds1,env1,H2,s1,e1,l1,x1,n1,m1,o1⟩:=hS w.heap.size R (Frame.enter P f ⟨az⟩ .normal) [] cs w rfl (fun _=>⟨rfl,rfl⟩) htd hE hL (Marks.nil _ _ _) (Nat.le_refl _);have hfin: ∃fr':Frame,Steps P (lone (Frame.enter P f ⟨az⟩ .normal) cs w) (lone fr' cs w1)/\fr'.fn=f/\fr'.mode= .returning/\fr'.defers=ds1/\fr'.kind= .normal/\fr'.tmps=t1/\zMI B.X fn.results.toList env1 H2=some (.ret v',H1):=by
      rcases o1 with⟨rfl,b2⟩ | ⟨id,k',b1,b2,L,vs,b3,_⟩ | ⟨k',rfl,b2⟩
      ·exact⟨_,s1.trans (.one (zMB (fr:= { Frame.enter P f ⟨az⟩ .normal with tmps:=t1,todo:=[],defers:=ds1}) rfl rfl rfl)),rfl,rfl,rfl,rfl,rfl,b2⟩
      ·simp[wX]at b3
      ·exact⟨_,s1.trans (.one (zMA (fr:= { Frame.enter P f ⟨az⟩ .normal with tmps:=t1,todo:= .code .ret::k',defers:=ds1}) rfl rfl rfl)),rfl,rfl,rfl,rfl,rfl,b2⟩
     obtain⟨fr',hs,f1,f2,f3,f4,f5,hret⟩:=hfin;obtain⟨vs,hvs,hg⟩:=VE _ _ _ hret;simp only[z7,zD,Ex.ret.injEq]at hg;obtain⟨rfl,rfl⟩:=hg;obtain⟨w2,u1,u2,u3⟩:=aR (P:=P) (cs:=cs) ds1 fr' w1 R1 H2 f2 f3 m1 l1 x1;obtain⟨zs,z1,z2⟩:=J9 hX u2 e1 _ _ hvs;refine⟨n1,R1,w2,_, { fr' with defers:=[] },hs.trans u1,f1,⟨f2,rfl,f4,fn,by rw[f1];exact hfn, ?_⟩,zKj z2,u2,u3⟩;simp only[f5,results,Array.mapM_eq_mapM_toList,Sem.run_bind,Sem.run_map]
     erw[z1]
     rfl
    refine⟨?_,⟨fn,hfn,by simp[hbody]⟩,fun R az cs w hv hL=>(main R az cs w hv hL).2⟩;exact aG hr body hint [] _ env H _ (fun e H' hh=>by obtain⟨v,e⟩:=kU hh;rw[e];exact Nat.le_refl _) hk
   ·simp at h
  ·simp at h
 ·simp at h
include hX hr in
end
theorem zDg {L:List Nat}{vs:List AV}{base:Env}{K:Env->Rs}{out:Ex×AH}(h:unp L vs base K=some out):K (zMk L vs base)=some out:=by
 induction L generalizing vs base with
 | nil=>cases vs<;>exact h
 | cons l L ih=>
  simp only[unp]at h;obtain⟨v,l',rfl,h1⟩:=QZ h;exact ih h1
theorem zDh {nt:Nat}{R:Ren} : ∀ {ps:List Nat} {az:List AV} {env:Env} {K:Env->Rs} {out:Ex×AH} {vs:List Value} {tmps:Array Value},zJr nt ps az env K=some out->VRL R az vs->EnvR R env nt tmps->
  vs.length=ps.length/\ ∃env',K env'=some out/\EnvR R env' nt ((ps.zip vs).foldl (fun tmps (x:Nat×Value)=>tmps.setIfInBounds x.1 x.2) tmps)
 | [],az,env,K,out,vs,tmps,h,hv,hE=>by
  simp only[zJr,nl]at h;split at h
  ·simp only[VRL]at hv;subst hv;exact⟨rfl,env,h,hE⟩
  ·simp at h
 | p::ps,az,env,K,out,vs,tmps,h,hv,hE=>by
  simp only[zJr]at h;obtain⟨a,az',rfl,h1⟩:=QZ h;obtain⟨v,vs',rfl,h2,h3⟩:=hv;rw[cond_eq_ite]at h1;split at h1
  ·rename_i hlt;have hE1:EnvR R (upd env p a) nt (tmps.setIfInBounds p v):=hE.put (dst:=some p) h2 (by simp only[YO,hlt,cond_true]);obtain⟨i1,env',i2,i3⟩:=zDh h1 h3 hE1;exact⟨by simp[i1],env',i2,i3⟩
  ·simp at h1
theorem zAG {nt:Nat} : ∀ {ps:List Nat} {az:List AV} {env:Env} {K:Env->Rs} {out:Ex×AH},zJr nt ps az env K=some out-> ∃env',K env'=some out
 | [],az,env,K,out,h=>by
  simp only[zJr,nl]at h;split at h
  ·exact⟨env,h⟩
  ·simp at h
 | p::ps,az,env,K,out,h=>by
  simp only[zJr]at h;obtain⟨a,az',rfl,h1⟩:=QZ h;rw[cond_eq_ite]at h1;split at h1
  ·exact zAG h1
  ·simp at h1
theorem YD {A:Nat}{H:AH}{K:AH->Rs}{out:Ex×AH}(h:xV A H K=some out): ∃l H',H.h.get A=some (.loop l)/\l.state= .ready/\u5 H A (.loop { l with state:= .busy})=some H'/\K H'=some out:=by
 unfold xV at h;split at h
 ·rename_i l hA;split at h
  ·rename_i hs;split at h
   ·rename_i H' hp;exact⟨l,H',hA,hs,hp,h⟩
   ·simp at h
  ·simp at h
 ·simp at h
def stOf:Option Code->LoopState
 | none=> .ready
 | some _=> .done
theorem UL {A:Nat}{j:Option Code}{H H':AH}{v:AV}(h:YQ A j H=some (v,H')): ∃l,H.h.get A=some (.loop l)/\u5 H A (.loop { l with state:=stOf j,pending:=j})=some H'/\v= .bool j.isNone:=by
 unfold YQ at h;split at h
 ·rename_i l hA;split at h
  ·split at h
   ·rename_i H1 hp;simp only[z7,zD]at h;obtain⟨rfl,rfl⟩:=h;exact⟨l,hA,hp,rfl⟩
   ·simp at h
  ·split at h
   ·rename_i H1 hp;simp only[z7,zD]at h;obtain⟨rfl,rfl⟩:=h;exact⟨l,hA,hp,rfl⟩
   ·simp at h
 ·simp at h
def Leaves (td:List Item):Option Code->Prop
 | none=>td=[]
 | some (.exit id)=> ∃k,td= .code (.exit id)::k/\exitTo id k=none
 | some .ret=> ∃k,td= .code .ret::k
 | some _=>False
theorem zCA {P:Program}{F fr:Frame}{cs:List Frame}{w w':World}{b:Nat}{j:Option Code}{v:Value}(hm:F.mode= .run)(hk:F.kind= .normal)(hb:F.roundOf=some b)(ht:Leaves F.todo j)(hr:(Instr.endRound b j).run P w= .ok v w'):
  Go.step P (lone F (fr::cs) w)= .next (lone (fr.finish v) cs w'):=by
 refine step_lone_go ?_
 cases j with
 | none=>
  simp only[Leaves]at ht;simp[stepG,stepG.exec,hm,ht,hb,Sem.runT_eq,hr,doReturn,hk]
 | some c=>
  cases c<;>simp only[Leaves]at ht
  ·obtain⟨k,ht,he⟩:=ht;simp[stepG,stepG.exec,hm,ht,hb,he,Sem.runT_eq,hr,doReturn,hk]
  ·obtain⟨k,ht⟩:=ht;simp[stepG,stepG.exec,hm,ht,hb,Sem.runT_eq,hr,doReturn,hk]
section
variable {P:Program}{B:Tb}{D:Dyn}(hX:Ok P B.X)(hr:Good P (rOf B D))
theorem Rel.loopAt {R:Ren}{H:AH}{w:World}(h:Rel R H w){A b d c:Nat}{l:ALoop}(hA:H.h.get A=some (.loop l))(hR:R A b d c):
  ∃(L:Loop) (nt:Nat),w.heap[b]? =some (.loop L)/\BX l.fn l.site=some (nt,L.params,L.assign,L.body)/\L.state=l.state/\L.pending=l.pending/\L.fn=l.fn/\EnvR R (envL l.live l.vals) nt L.tmps:=h.obj A b d c _ hR hA
theorem Rel.loopPut {R:Ren}{H H':AH}{w:World}(h:Rel R H w){A b d c:Nat}{l:ALoop}(hA:H.h.get A=some (.loop l))(hR:R A b d c){st:LoopState}{pe:Option Code}(hp:u5 H A (.loop { l with state:=st,pending:=pe})=some H'){L:Loop}(hb:w.heap[b]? =some (.loop L)):
  Rel R H' (wF w b (.loop { L with state:=st,pending:=pe}))/\Ext R H w R H' (wF w b (.loop { L with state:=st,pending:=pe})):=by
 obtain⟨L',nt,hb',h1,h2,h3,h4,h5⟩:=h.loopAt hA hR;rw[hb]at hb';injection hb' with hb';injection hb' with hb';subst hb'
 unfold u5 at hp;split at hp
 ·rename_i t' ht';simp only[z7]at hp;subst hp;exact⟨h.put hR ⟨_,hA,trivial⟩ ht' ⟨_,nt,rfl,h1,rfl,rfl,h4,h5⟩,Ext.put hR ht'⟩
 ·simp at hp
theorem zGb {A:Nat}{x:Rs}{v:AV}{H':AH}(h:zLM A x=some (v,H')): ∃y,x=some y/\((∃vs,y.1= .norm vs/\YQ A none y.2=some (v,H'))\/(∃id vs,y.1= .exit id vs/\YQ A (some (.exit id)) y.2=some (v,H'))\/(∃u,y.1= .ret u/\YQ A (some .ret) y.2=some (v,H'))):=by
 unfold zLM at h;split at h
 ·exact⟨_,rfl, .inl ⟨_,rfl,h⟩⟩
 ·exact⟨_,rfl, .inr (.inl ⟨_,_,rfl,h⟩)⟩
 ·exact⟨_,rfl, .inr (.inr ⟨_,rfl,h⟩)⟩
 ·simp at h
theorem zGa {A:Nat}{j:Option Code}{H H':AH}{v:AV}(h:YQ A j H=some (v,H')):H'.next=H.next:=by
 obtain⟨l,_,hp,_⟩:=UL h;exact jT hp
include hX hr in
theorem zKJ {n:Nat}{f0:FuncId}{s:Nat}{L ids:List Nat}{ha hb:Hint}(hsites: ∀nt ps asg body,BX f0 s=some (nt,ps,asg,body)->yJ P f0 nt asg ha/\yJ P f0 nt body hb){A:Nat}{l:ALoop}{az:List AV}{H H':AH}{v:AV}
  (hA:H.h.get A=some (.loop l)) (hf:l.fn=f0) (hs:l.site=s) (h:zKK B D n f0 s L ids ha hb A l az H=some (v,H')):BN P A az H v H':=by
 unfold zKK at h;split at h
 ·rename_i nt ps asg body hsite;obtain⟨hsa,hsb⟩:=hsites _ _ _ _ hsite;unfold rdK at h;rw[cond_eq_ite]at h;split at h
  ·rename_i hLL;obtain rfl:=fJ _ _ hLL;obtain⟨y,hy,hcase⟩:=zGb h;have hnxt:H.next<=H'.next:=by
    have h1:H.next<=y.2.next:=by
     have hy1:=zDg hy;obtain⟨env',hy2⟩:=zAG hy1;refine aG hr asg ha [] _ env' H y (fun e H1 hk=> ?_) hy2;obtain⟨l1,H2,_,_,hp,hk2⟩:=YD hk;rw[<-jT hp];exact aG hr body hb _ _ e H2 y (fun e H3 hk3=>by injection hk3 with hk3;rw[<-hk3];exact Nat.le_refl _) hk2
    rcases hcase with⟨vs,_,he⟩ | ⟨id,vs,_,he⟩ | ⟨u,_,he⟩<;>rw[zGa he]<;>exact h1
   refine⟨hnxt,fun R as' fr cs w b d c hRA hargs hL=> ?_⟩;obtain⟨Lr,nt',hb0,hsite',hst0,hpe0,hfn0,hE0⟩:=hL.loopAt hA hRA;rw[hf,hs,hsite]at hsite';simp only[z7,zD]at hsite';obtain⟨rfl,hps,hasg,hbody⟩:=hsite';obtain⟨hlen,env1,hy1,hE1⟩:=zDh (zDg hy) hargs hE0;refine⟨Lr,hb0,by rw[hlen,<-hps];simp, ?_⟩;have hfold:((Lr.params.zip as'.toArray).foldl (fun tmps (t,a)=>tmps.setIfInBounds t a) Lr.tmps)=((ps.toList.zip as').foldl (fun tmps (x:Nat×Value)=>tmps.setIfInBounds x.1 x.2) Lr.tmps):=by
    rw[<-hps,<-Array.foldl_toList];simp only[Array.toList_zip]
   rw[hfold,hfn0,hf,<-hasg,<-hbody];have hS1:=ZL hX hr asg ha [] _ env1 H y hsa hy1;obtain⟨R1,w1,t1,td1,ds1,env2,H1,s1,e1,l1,x1,n1,m1,o1⟩:=hS1 w.heap.size R (Frame.round b f0 ((ps.toList.zip as').foldl (fun tmps (x:Nat×Value)=>tmps.setIfInBounds x.1 x.2) Lr.tmps) asg body .normal) [.beginRound, .code body] (fr::cs) w rfl (fun h=>by simp at h) rfl hE1 hL (Marks.nil _ _ _) (Nat.le_refl _);have fin: ∀(R2:Ren) (w2:World) (H2:AH) (F:Frame) (j:Option Code),Steps P (lone (Frame.round b f0 ((ps.toList.zip as').foldl (fun tmps (x:Nat×Value)=>tmps.setIfInBounds x.1 x.2) Lr.tmps) asg body .normal) (fr::cs) w) (lone F (fr::cs) w2)->
     F.mode= .run->F.kind= .normal->F.roundOf=some b->Leaves F.todo j->Rel R2 H2 w2->Ext R H w R2 H2 w2->YQ A j H2=some (v,H')->
     ∃R' w' z,Steps P (lone (Frame.round b f0 ((ps.toList.zip as').foldl (fun tmps (x:Nat×Value)=>tmps.setIfInBounds x.1 x.2) Lr.tmps) asg body .normal) (fr::cs) w) (lone (fr.finish z) cs w')/\VR R' v z/\Rel R' H' w'/\Ext R H w R' H' w':=by
    intro R2 w2 H2 F j hst hm hk hro hlv hL2 hx2 hend;obtain⟨l2,hA2,hp2,rfl⟩:=UL hend;have hRA2:=hx2.sub _ _ _ _ hRA;obtain⟨L2,_,hb2,_⟩:=hL2.loopAt hA2 hRA2;obtain⟨hL3,hx3⟩:=hL2.loopPut hA2 hRA2 hp2 hb2;have hrun:=run_endRound (P:=P) j hb2;refine⟨R2,_,_,hst.trans (.one (zCA hm hk hro hlv hrun)),rfl, ?_, ?_⟩
    ·have:(if j.isNone=true then LoopState.ready else LoopState.done)=stOf j:=by cases j<;>rfl
     rw[this];exact hL3
    ·have:(if j.isNone=true then LoopState.ready else LoopState.done)=stOf j:=by cases j<;>rfl
     rw[this];exact hx2.trans hx3
   rcases o1 with⟨rfl,b2⟩ | ⟨id,k',b1,b2,L',vs,b3,_⟩ | ⟨k',rfl,b2⟩
   ·obtain⟨lp,H2,hA1,hrdy,hp,hk2⟩:=YD b2;have hRA1:=x1.sub _ _ _ _ hRA;obtain⟨L1,_,hb1,_,hst1,hpe1,_,_⟩:=l1.loopAt hA1 hRA1;have hp':u5 H1 A (.loop { lp with state:= .busy,pending:=lp.pending})=some H2:=hp;obtain⟨l2,x2⟩:=l1.loopPut hA1 hRA1 hp' hb1;rw[<-hpe1]at l2 x2;have hrun:=run_beginRound (P:=P) hb1 (by rw[hst1];exact hrdy);have hstep:Go.step P (lone { (Frame.round b f0 ((ps.toList.zip as').foldl (fun tmps (x:Nat×Value)=>tmps.setIfInBounds x.1 x.2) Lr.tmps) asg body .normal)with tmps:=t1,todo:=[.beginRound, .code body],defers:=ds1} (fr::cs) w1)=
      .next (lone { (Frame.round b f0 ((ps.toList.zip as').foldl (fun tmps (x:Nat×Value)=>tmps.setIfInBounds x.1 x.2) Lr.tmps) asg body .normal)with tmps:=t1,todo:=[.code body],defers:=ds1} (fr::cs) (wF w1 b (.loop { L1 with state:= .busy,pending:=L1.pending}))):=by
     refine step_lone_go ?_;simp[stepG,stepG.exec,stepG.apply,Frame.round,Sem.runT_eq,Sem.run_bind,hrun,Frame.finish,World.putObj,wF]
    have hS2:=ZL hX hr body hb _ _ env2 H2 y hsb hk2;obtain⟨R3,w3,t3,td3,ds3,env3,H3,s3,e3,l3,x3,n3,m3,o3⟩:=hS2 w.heap.size R1 { (Frame.round b f0 ((ps.toList.zip as').foldl (fun tmps (x:Nat×Value)=>tmps.setIfInBounds x.1 x.2) Lr.tmps) asg body .normal)with tmps:=t1,todo:=[.code body],defers:=ds1} [] (fr::cs) _ rfl (fun h=>by simp at h) rfl e1 l2 (m1.ext x2) (by rw[kS];exact x1.size);have hall:=s1.trans ((Steps.one hstep).trans s3);have xall:=x1.trans (x2.trans x3);rcases o3 with⟨rfl,c2⟩ | ⟨id,k',rfl,c2,L',vs,c3,c4,c5⟩ | ⟨k',rfl,c2⟩
    ·injection c2 with c2;subst c2
     rcases hcase with⟨vs,_,he⟩ | ⟨id,vs,e,_⟩ | ⟨u,e,_⟩
     ·exact fin R3 w3 H3 _ none hall rfl rfl rfl rfl l3 xall he
     ·simp at e
     ·simp at e
    ·subst c5;rcases hcase with⟨vs,e,_⟩ | ⟨id',vs',e,he⟩ | ⟨u,e,_⟩
     ·simp at e
     ·simp only[Ex.exit.injEq]at e;obtain⟨rfl,rfl⟩:=e;exact fin R3 w3 H3 _ (some (.exit id)) hall rfl rfl rfl ⟨k',rfl,by rw[c2];rfl⟩ l3 xall he
     ·simp at e
    ·obtain⟨u,e⟩:=kU c2;subst e;rcases hcase with⟨vs,e,_⟩ | ⟨id',vs',e,_⟩ | ⟨u,e,he⟩
     ·simp at e
     ·simp at e
     ·exact fin R3 w3 H3 _ (some .ret) hall rfl rfl rfl ⟨k',rfl⟩ l3 xall he
   ·simp[wX]at b3
   ·obtain⟨u,e⟩:=kU b2;subst e;rcases hcase with⟨vs,e,_⟩ | ⟨id',vs',e,_⟩ | ⟨u,e,he⟩
    ·simp at e
    ·simp at e
    ·exact fin R1 w1 H1 _ (some .ret) s1 rfl rfl rfl ⟨k',rfl⟩ l1 x1 he
  ·simp at h
 ·simp at h
end
theorem zAe {α:Type}(l:List α)(m:Nat)(x:α)(h:((T.ofList 0 l .leaf).getD .leaf).get m=some x):l[m]? =some x:=by
 cases hl:T.ofList 0 l .leaf with
 | none=>rw[hl]at h;simp[T.get_leaf]at h
 | some t=>
  rw[hl]at h;simp only[Option.getD_some]at h;rw[T.get_ofList l 0 .leaf t hl m]at h;split at h
  ·simpa using h
  ·simp[T.get_leaf]at h
def named (P:Program):Bool:=P.funcs.toList.all fun g=> !(g.name== "runtime.NumGoroutine")
def zNs (P:Program)(fl:List (TypeId×List Nat)):Bool:=fl.all fun x=>(uM P P.depth x.1==some x.2)&&jV P x.1&&Nat.ble P.depth 10000
theorem cx_ok {P:Program}{fl:List (TypeId×List Nat)}(h:named P=true)(hf:zNs P fl=true):Ok P ⟨(T.ofList 0 P.types.toList .leaf).getD .leaf,fl⟩:=by
 refine⟨fun t i ht=> ?_,fun x hx=> ?_,fun f g hf=> ?_⟩
 ·have:=zAe _ _ _ ht;simp only[Array.getElem?_toList]at this;have hlt:t<P.types.size:=(Array.getElem?_eq_some_iff.1 this).1;unfold Tables.info?
  first
   | (rw[if_pos hlt];exact this)
   | (simp only[hlt,if_true,this];done)
   | (rw[this];done)
   | (rw[this];rfl)
   | simp_all
 ·simp only[zNs,List.all_eq_true,z8,beq_iff_eq,zR]at hf;obtain⟨⟨h1,h2⟩,h3⟩:=hf x hx;exact⟨h1,h2,h3⟩
 ·simp only[named,List.all_eq_true,Bool.not_eq_true']at h;exact h g (by
   have:=Array.mem_of_getElem? hf;simpa using this)
def YS:Hint->Bool
 | .o=>true
 | .s a b=>YS a&&YS b
 | .c _ a b=>YS a&&YS b
 | .cl a b=>YS a&&YS b
 | .cr a b=>YS a&&YS b
 | .b _ a=>YS a
 | .b0 a=>YS a
 | .l _ a=>YS a
 | .rf _ _=>false
 | .t _ _=>false
def uL:Code->Hint->Nat->Bool
 | .seq _ _, .t _ _,_=>false
 | .seq a b, .s ha hb,k=>uL a ha k&&uL b hb (k+(sites a).length)
 | .cond _ a b, .c _ ha hb,k=>uL a ha k&&uL b hb (k+(sites a).length)
 | .cond _ a b, .cl ha hb,k=>uL a ha k&&uL b hb (k+(sites a).length)
 | .cond _ a b, .cr ha hb,k=>uL a ha k&&uL b hb (k+(sites a).length)
 | .block _ b, .b _ hb,k=>uL b hb k
 | .block _ b, .b0 hb,k=>uL b hb k
 | .loop b, .l _ hb,k=>uL b hb k
 | .rangeFunc _ _ _ _, .rf s _,k=>Nat.beq s k
 | _,_,_=>true
theorem WA {P:Program}(f0:FuncId)(nt:Nat): ∀(c:Code) (h:Hint),YS h=true->yJ P f0 nt c h:=by
 intro c
 induction c with
 | seq a b iha ihb=>intro h hh;cases h<;>simp_all [yJ,YS]
 | cond c a b iha ihb=>intro h hh;cases h<;>simp_all [yJ,YS]
 | block id b ih=>intro h hh;cases h<;>simp_all [yJ,YS]
 | loop b ih=>intro h hh;cases h<;>simp_all [yJ,YS]
 | rangeFunc f ps a b _ _=>intro h hh;cases h<;>simp_all [yJ,YS]
 | _=>intro h hh;simp[yJ]
theorem zI6 {P:Program}(f0:FuncId)(nt:Nat)(all:List (Array Tmp×Code×Code))(hall: ∀(s:Nat) (x:Array Tmp×Code×Code),all[s]? =some x->BX f0 s=some (nt,x)):
  ∀(c:Code) (h:Hint) (k:Nat),uL c h k=true->(∀(j:Nat) (x:Array Tmp×Code×Code),(sites c)[j]? =some x->all[k+j]? =some x)->yJ P f0 nt c h:=by
 have two: ∀(a b:Code) (k:Nat),(∀(j:Nat) (x:Array Tmp×Code×Code),(sites a++sites b)[j]? =some x->all[k+j]? =some x)->
   (∀(j:Nat) (x:Array Tmp×Code×Code),(sites a)[j]? =some x->all[k+j]? =some x)/\(∀(j:Nat) (x:Array Tmp×Code×Code),(sites b)[j]? =some x->all[k+(sites a).length+j]? =some x):=by
  intro a b k hk;refine⟨fun j x hx=>hk j x ?_,fun j x hx=> ?_⟩
  ·rw[zT (List.getElem?_eq_some_iff.1 hx).1];exact hx
  ·rw[Nat.add_assoc];refine hk _ x ?_;rw[zW (by omega),show(sites a).length+j - (sites a).length=j from by omega];exact hx
 intro c
 induction c with
 | seq a b iha ihb=>
  intro h k hn hk;obtain⟨h1,h2⟩:=two a b k hk
  cases h<;>simp only[yJ]<;>first | (simp only[uL,z8]at hn;exact⟨iha _ k hn.1 h1,ihb _ _ hn.2 h2⟩) | (simp[uL]at hn)
 | cond c a b iha ihb=>
  intro h k hn hk;obtain⟨h1,h2⟩:=two a b k hk
  cases h<;>simp only[yJ]<;>(simp only[uL,z8]at hn;exact⟨iha _ k hn.1 h1,ihb _ _ hn.2 h2⟩)
 | block id b ih=>
  intro h k hn hk
  cases h<;>simp only[yJ]<;>first | exact ih _ k hn hk | (simp[uL]at hn)
 | loop b ih=>
  intro h k hn hk
  cases h<;>simp only[yJ]
  exact ih _ k hn hk
 | rangeFunc f ps a b _ _=>
  intro h k hn hk
  cases h<;>simp only[yJ]
  simp only[uL,Nat.beq_eq]at hn;subst hn;exact hall _ _ (hk 0 _ rfl)
 | _=>intro h k hn hk;simp[yJ]
def zDP (fn:Func)(h:Hint):Bool:=YS h||match fn.body with
 | some b=>uL b h 0
 | none=>true
noncomputable abbrev PP:Program:=Go.Proofs.Tryz.prog
theorem zDO {f:FuncId}{fn:Func}(hfn:PP.funcs[f]? =some fn){h:Hint}(hs:zDP fn h=true): ∀body,fn.body=some body->yJ PP f fn.ntmps body h:=by
 intro body hb;simp only[zDP,Bool.or_eq_true]at hs;rcases hs with hs | hs
 ·exact WA _ _ _ _ hs
 ·simp only[hb]at hs;refine zI6 f fn.ntmps (sites body) (fun s x hx=> ?_) body h 0 hs (fun j x hx=>by rw[Nat.zero_add];exact hx);unfold BX;have hfn':Go.Proofs.Tryz.prog.funcs[f]? =some fn:=hfn;simp only[hfn',hb,hx]
def FS (g:FuncId)(m:List AV->AH->Option (AV×AH)):Prop:= ∀az H v H',m az H=some (v,H')->zH4 PP g az H v H'
def FI (g:FuncId)(m:List AV->AH->Option (AV×AH)):Prop:= ∀az H v H',m az H=some (v,H')->H.next<=H'.next/\zMe PP g az H v H'
theorem FI.fs {g:FuncId}{m:List AV->AH->Option (AV×AH)}(h:FI g m):FS g m:=fun az H v H' e=>⟨(h az H v H' e).1, .inl (h az H v H' e).2⟩
structure DG (D:Dyn):Prop where
 fn: ∀g,FS g (D.fn g)
 yld: ∀A args H v H',D.yld A args H=some (v,H')->BN PP A args H v H'
def SOk:List (Nat×(List AV->AH->Option (AV×AH)))->Prop
 | []=>True
 | (i,m)::S=>FS i m/\SOk S
theorem SOk.nil:SOk []:=trivial
theorem SOk.cons {i:Nat}{m:List AV->AH->Option (AV×AH)}{S:List (Nat×(List AV->AH->Option (AV×AH)))}(h:FS i m)(k:SOk S):SOk ((i,m)::S):=⟨h,k⟩
theorem XB {D:Dyn}(hD:DG D): ∀ {S:List (Nat×(List AV->AH->Option (AV×AH)))},SOk S-> ∀g,FS g (zAu S D g)
 | [],_,g=>fun az H v H' h=>hD.fn g az H v H' h
 | (i,m)::S,hS,g=>fun az H v H' h=>by
  simp only[zAu,cond_eq_ite]at h;split at h
  ·rename_i e;rw[Nat.beq_eq]at e;subst e;exact hS.1 az H v H' h
  ·exact XB hD hS.2 g az H v H' h
theorem WO {X:Cx}{S:List (Nat×(List AV->AH->Option (AV×AH)))}{D:Dyn}(hD:DG D)(hS:SOk S):Good PP (rOf ⟨X,S⟩ D):=
 ⟨fun f args H v H' h=>XB hD hS f args H v H' h,fun A args H v H' h=>hD.yld A args H v H' h⟩
theorem qS {X:Cx}(hX:Ok PP X){S:List (Nat×(List AV->AH->Option (AV×AH)))}{D:Dyn}(hD:DG D)(hS:SOk S){f:FuncId}{fn:Func}(hfn:PP.funcs[f]? =some fn){n:Nat}{h:Hint}(hs:zDP fn h=true){m:List AV->AH->Option (AV×AH)}(he:m=zNo ⟨X,S⟩ D n f fn h):FI f m:=by
 subst he;intro az H v H' e;exact zFa hX (WO hD hS) hfn (zDO hfn hs) e
theorem zLm {X:Cx}(hX:Ok PP X){S:List (Nat×(List AV->AH->Option (AV×AH)))}{D:Dyn}(hD:DG D)(hS:SOk S){f:FuncId}{fn:Func}(hfn:PP.funcs[f]? =some fn){n:Nat}{h:Hint}(hs: ∀body,fn.body=some body->yJ PP f fn.ntmps body h){m:List AV->AH->Option (AV×AH)}(he:m=zNo ⟨X,S⟩ D n f fn h):FI f m:=by
 subst he;intro az H v H' e;exact zFa hX (WO hD hS) hfn hs e
def RS (f s:Nat)(m:Nat->ALoop->List AV->AH->Option (AV×AH)):Prop:=
 ∀A l az H v H',H.h.get A=some (.loop l)->l.fn=f->l.site=s->m A l az H=some (v,H')->BN PP A az H v H'
theorem ZF {X:Cx}(hX:Ok PP X){S:List (Nat×(List AV->AH->Option (AV×AH)))}{D:Dyn}(hD:DG D)(hS:SOk S){f s:Nat}{n:Nat}{L ids:List Nat}{ha hb:Hint}(hs:(YS ha&&YS hb)=true){m:Nat->ALoop->List AV->AH->Option (AV×AH)}(he:m=zKK ⟨X,S⟩ D n f s L ids ha hb):RS f s m:=by
 subst he;intro A l az H v H' hA hf hsi e;rw[z8]at hs;exact zKJ hX (WO hD hS) (fun nt ps asg body _=>⟨WA _ _ _ _ hs.1,WA _ _ _ _ hs.2⟩) hA hf hsi e
def ROk:List ((Nat×Nat)×(Nat->ALoop->List AV->AH->Option (AV×AH)))->Prop
 | []=>True
 | ((f,s),m)::t=>RS f s m/\ROk t
theorem ROk.nil:ROk []:=trivial
theorem ROk.cons {f s:Nat}{m:Nat->ALoop->List AV->AH->Option (AV×AH)}{t:List ((Nat×Nat)×(Nat->ALoop->List AV->AH->Option (AV×AH)))}(h:RS f s m)(k:ROk t):ROk (((f,s),m)::t):=⟨h,k⟩
theorem zHK {t:List ((Nat×Nat)×(Nat->ALoop->List AV->AH->Option (AV×AH)))}(ht:ROk t){A:Nat}{az:List AV}{H H':AH}{v:AV}(h:cT t A az H=some (v,H')):BN PP A az H v H':=by
 unfold cT at h;split at h
 ·rename_i l hA
  induction t with
  | nil=>simp[cT.go]at h
  | cons x t ih=>
   obtain⟨⟨f,s⟩,m⟩:=x;simp only[cT.go,cond_eq_ite]at h;split at h
   ·rename_i e;simp only[z8,Nat.beq_eq]at e;exact ht.1 A l az H v H' hA e.1.symm e.2.symm h
   ·exact ih ht.2 h
 ·simp at h
def YV:Dyn:=⟨fun _ _ _=>none,fun _ _ _=>none⟩
theorem WW:DG YV:=⟨fun _ _ _ _ _ h=>by simp[YV]at h,fun _ _ _ _ _ h=>by simp[YV]at h⟩
noncomputable def dyOf (tab:Dyn->Nat->List (Nat×(List AV->AH->Option (AV×AH))))(tabR:Dyn->Nat->List ((Nat×Nat)×(Nat->ALoop->List AV->AH->Option (AV×AH))))(n:Nat):Dyn:=
 Nat.rec YV (fun m D=>⟨fun g vs H=>zAu (tab D m) YV g vs H,cT (tabR D m)⟩) n
theorem zGf {tab:Dyn->Nat->List (Nat×(List AV->AH->Option (AV×AH)))}{tabR:Dyn->Nat->List ((Nat×Nat)×(Nat->ALoop->List AV->AH->Option (AV×AH)))}(h1: ∀D n,DG D->SOk (tab D n))(h2: ∀D n,DG D->ROk (tabR D n)): ∀n,DG (dyOf tab tabR n)
 | 0=>WW
 | n+1=>by
  have ih:=zGf h1 h2 n;exact⟨fun g az H v H' e=>XB WW (h1 _ n ih) g az H v H' e,fun A args H v H' e=>zHK (h2 _ n ih) e⟩
def zKE (x:Option (AV×AH)):Bool:=match x with
 | some (.bool true,_)=>true
 | _=>false
theorem zIW {f:FuncId}{m:List AV->AH->Option (AV×AH)}(hm:FI f m)(h:zKE (m [] ⟨.leaf,0⟩)=true)(w:World):Calls PP f #[] w fun e w'=>e= .returned (.bool true)/\RowKit.Below w.heap.size w w':=by
 unfold zKE at h;split at h
 ·rename_i H' hc;intro cs;obtain⟨_,_,hc⟩:=hm _ _ _ _ hc;obtain⟨R',w',z,fr',h1,h2,h3,h4,h5,h6⟩:=hc (fun _ _ _ _=>False) [] cs w rfl (Rel.empty w);simp only[VR]at h4;subst h4;refine⟨.returned (.bool true),w',fr',⟨rfl, ?_⟩,h1,h2,h3⟩;exact⟨h6.os,h6.tape,h6.output,h6.size,fun k hk=>h6.keep k hk (fun _ _ _ h=>h)⟩
 ·simp at h
theorem run_range_map {P:Program}{w:World}{t kt vt:TypeId}{m:Nat}{arr:Array MapEntry}{clock:Nat}(ht:(underlying t).run P w= .ok (.map kt vt) w)(hm:w.heap[m]? =some (.map arr clock)):
  (Instr.range t (.map (some m))).run P w= .ok (.pointer (some ⟨w.heap.size,0,none⟩)) (w.alloc (.mapIter (some m) clock #[] clock)):=by
 simp[Instr.range,Sem.run_bind,ht,getObj,Sem.run,hm,newObj,Result.andThen]
structure ML where
 rA:Nat
 rB:Nat
 rC:Nat
 pre:List Oper
 oR:Oper
 oN:Oper
 oX:Oper
 oE:Oper
 rest:List Oper
 id:Nat
 id2:Nat
 body:Code
 t:TypeId
 x:Operand
 it:Nat
 nx:Nat
 ok:Nat
 en:Nat
def ML.opsA (q:ML):Array Oper:=⟨q.pre++[q.oR]⟩
def ML.opsB (q:ML):Array Oper:=⟨[q.oN,q.oX]⟩
def ML.opsC (q:ML):Array Oper:=⟨q.oE::q.rest⟩
def ML.round (q:ML):Code:= .seq (.region q.rB q.opsB false) (.seq (.cond (.tmp q.ok) .skip (.exit q.id)) (.block q.id2 (.seq (.region q.rC q.opsC false) q.body)))
def ML.code (q:ML):Code:= .seq (.region q.rA q.opsA false) (.block q.id (.loop q.round))
structure ML.Fits (q:ML)(nt:Nat):Prop where
 gR:q.oR.guard=none
 pR:q.oR.op= .range q.t q.x
 dR:q.oR.dst=some q.it
 gN:q.oN.guard=none
 pN:q.oN.op= .next (.tmp q.it) false
 dN:q.oN.dst=some q.nx
 gX:q.oX.guard=none
 pX:q.oX.op= .extract (.tmp q.nx) 0
 dX:q.oX.dst=some q.ok
 gE:q.oE.guard=none
 pE:q.oE.op= .entry (.tmp q.it)
 dE:q.oE.dst=some q.en
 it:q.it<nt
 nx:q.nx<nt
 ok:q.ok<nt
 en:q.en<nt
 itnx:q.it≠q.nx
 itok:q.it≠q.ok
 iten:q.it≠q.en
 nxok:q.nx≠q.ok
noncomputable def ML.roundK (q:ML)(B:Tb)(D:Dyn)(n nt:Nat)(hb:Hint)(L:List Nat)(I:Nat)(vs:List AV)(k v:AV)(H:AH):Rs:=
 unp (q.it::L) (.ptr I 0::vs) v6 fun e=>
  zCT B D nt q.opsC none (Nat.succ q.rest.length) (fun env H=>yC B D n nt [] 0 true q.body hb [] (fun env H=>pck (q.it::L) env fun vs=>some (.norm vs,H)) env H) (idx q.rest 1) [] (upd e q.en (.tuple [k,v])) H
theorem Rel.told {R:Ren}{H:AH}{w:World}(h:Rel R H w){A b d c:Nat}{o o':AObj}{t':T AObj}(hR:R A b d c)(hA:H.h.get A=some o)(hl:Z5 H A)(hs:T.set 40 H.h A o'=some t')(ho:zHa R o' d c w.heap[b]?):Rel R ⟨t',H.next⟩ w:=by
 have hg:=T.get_set _ _ _ _ _ hs;have hlv: ∀A',Z5 ⟨t',H.next⟩ A'->Z5 H A':=fun A' ⟨p,hp,hd⟩=>by
  simp only[hg]at hp;by_cases e:A'=A
  ·subst e;exact hl
  ·rw[if_neg e]at hp;exact⟨p,hp,hd⟩
 refine⟨h.fn,fun A1 A2 b d c d' c' r r' l l'=>h.inj _ _ _ _ _ _ _ r r' (hlv _ l) (hlv _ l'),fun A1 b1 d1 c1 p r hp=> ?_,h.lt⟩;simp only[hg]at hp;by_cases e:A1=A
 ·subst e;rw[if_pos rfl]at hp;injection hp with hp;subst hp
  obtain⟨rfl,rfl,rfl⟩:=h.fn _ _ _ _ _ _ _ r hR;exact ho
 ·rw[if_neg e]at hp;exact h.obj _ _ _ _ _ r hp
section
variable {P:Program}{fr:Frame}{k:List Item}{cs:List Frame}{w:World}
theorem Q5 {ops:Array Oper}{i:Nat}{rest:List Nat}{o:Oper}{it d:Nat}{v:Value}{w':World}(hm:fr.mode= .run)(ht:fr.todo= .inRegion ops (i::rest)::k)(ho:ops[i]? =some o)
  (hg:o.guard=none) (hop:o.op= .next (.tmp it) false) (hd:o.dst=some d) (hr:(Instr.next (fr.tmps.getD it undef) false o.type).run P w= .ok v w'):
  step P (lone fr cs w)= .next (lone { fr with tmps:=fr.tmps.setIfInBounds d v,todo:= .inRegion ops rest::k} cs w'):=by
 have h1:(execOp fr.eval o).run P w= .ok (.value v) w':=by
  have he:fr.eval (.tmp it)=fr.tmps.getD it undef:=rfl;simp only[execOp,hop,he,Sem.run_bind,hr,Result.andThen_ok];rfl
 have h2:=xB (cs:=cs) hm ht ho (by simp[Region.wanted,hg]) (by intro c;rw[hop];simp) h1;rw[h2,yB ht ho,hd];rfl
theorem V4 {ops:Array Oper}{i:Nat}{rest:List Nat}{o:Oper}{it d:Nat}{v:Value}{w':World}(hm:fr.mode= .run)(ht:fr.todo= .inRegion ops (i::rest)::k)(ho:ops[i]? =some o)
  (hg:o.guard=none) (hop:o.op= .entry (.tmp it)) (hd:o.dst=some d) (hr:(Instr.entry (fr.tmps.getD it undef)).run P w= .ok v w'):
  step P (lone fr cs w)= .next (lone { fr with tmps:=fr.tmps.setIfInBounds d v,todo:= .inRegion ops rest::k} cs w'):=by
 have h1:(execOp fr.eval o).run P w= .ok (.value v) w':=by
  have he:fr.eval (.tmp it)=fr.tmps.getD it undef:=rfl;simp only[execOp,hop,he,Sem.run_bind,hr,Result.andThen_ok];rfl
 have h2:=xB (cs:=cs) hm ht ho (by simp[Region.wanted,hg]) (by intro c;rw[hop];simp) h1;rw[h2,yB ht ho,hd];rfl
theorem V2 {ops:Array Oper}{i:Nat}{rest:List Nat}{o:Oper}{t:TypeId}{x:Operand}{d:Nat}{v:Value}{w':World}(hm:fr.mode= .run)(ht:fr.todo= .inRegion ops (i::rest)::k)(ho:ops[i]? =some o)
  (hg:o.guard=none) (hop:o.op= .range t x) (hd:o.dst=some d) (hr:(Instr.range t (fr.eval x)).run P w= .ok v w'):
  step P (lone fr cs w)= .next (lone { fr with tmps:=fr.tmps.setIfInBounds d v,todo:= .inRegion ops rest::k} cs w'):=by
 have h1:(execOp fr.eval o).run P w= .ok (.value v) w':=by
  simp[execOp,hop,Sem.run_bind,hr,Result.andThen]
 have h2:=xB (cs:=cs) hm ht ho (by simp[Region.wanted,hg]) (by intro c;rw[hop];simp) h1;rw[h2,yB ht ho,hd];rfl
theorem J6 {ops:Array Oper}{i:Nat}{rest:List Nat}{o:Oper}{nx d j:Nat}{v:Value}{a:Array Value}(hm:fr.mode= .run)(ht:fr.todo= .inRegion ops (i::rest)::k)(ho:ops[i]? =some o)
  (hg:o.guard=none) (hop:o.op= .extract (.tmp nx) j) (hd:o.dst=some d) (hr:fr.tmps.getD nx undef= .tuple a) (ha:a[j]? =some v):
  step P (lone fr cs w)= .next (lone { fr with tmps:=fr.tmps.setIfInBounds d v,todo:= .inRegion ops rest::k} cs w):=by
 have h1:(execOp fr.eval o).run P w= .ok (.value v) w:=by
  have he:fr.eval (.tmp nx)= .tuple a:=hr;simp[execOp,hop,he,ha,Instr.extract,Sem.run_bind,Result.andThen]
 have h2:=xB (cs:=cs) hm ht ho (by simp[Region.wanted,hg]) (by intro c;rw[hop];simp) h1;rw[h2,yB ht ho,hd];rfl
end
theorem EnvR.slot {R:Ren}{env:Env}{n:Nat}{tmps:Array Value}(h:EnvR R env n tmps){d:Nat}(hd:d<n)(z:Value):EnvR R (fun t=>bif Nat.beq t d then none else env t) n (tmps.setIfInBounds d z):=by
 refine⟨by rw[Array.size_setIfInBounds];exact h.size,fun t x hx=> ?_,fun t ht=> ?_⟩
 ·simp only[look,cond_eq_ite,Nat.beq_eq]at hx;split at hx
  ·simp at hx
  ·rename_i hne;have:=h.get t x hx;rw[Array.getD_eq_getD_getElem?,Array.getElem?_setIfInBounds_ne (fun e=>hne e.symm),<-Array.getD_eq_getD_getElem?];exact this
 ·simp only[look,cond_eq_ite];split
  ·rfl
  ·exact h.out t ht
structure AtHead (q:ML)(nt:Nat)(L:List Nat)(I M r m:Nat)(vs:List AV)(arr:Array MapEntry)(clock:Nat)(seen:Array Nat)(R:Ren)(H:AH)(tmps:Array Value)(w:World):Prop where
 rel:Rel R H w
 env: ∃e,PK e (q.it::L) (.ptr I 0::vs)/\EnvR R e nt tmps
 ri:R I r 0 0
 rm: ∃d c,R M m d c
 gi:H.h.get I=some (.raw (.mapIter (some m) clock seen clock))
 gm:H.h.get M=some (.raw (.map arr clock))
 bo:zAA arr.toList clock
theorem aQ {e:Env}{d:Nat} : ∀ {L:List Nat} {vs:List AV},PK e L vs->(∀l∈L,l≠d)->PK (fun t=>bif Nat.beq t d then none else e t) L vs
 | [],vs,h,_=>h
 | l::L,vs,⟨v,vs',h1,h2,h3⟩,hd=>by
  refine⟨v,vs',h1, ?_,aQ h3 (fun x hx=>hd x (zA _ hx))⟩;have:=hd l (zC ..);simp only[look,cond_eq_ite,Nat.beq_eq,if_neg this];exact h2
theorem kZ (t:Array Value)(d:Nat)(z:Value)(h:d<t.size):(t.setIfInBounds d z).getD d undef=z:=by
 rw[Array.getD_eq_getD_getElem?,Array.getElem?_setIfInBounds_self_of_lt h];rfl
theorem getD_set_ne (t:Array Value)(d j:Nat)(z:Value)(h:d≠j):(t.setIfInBounds d z).getD j undef=t.getD j undef:=by
 rw[Array.getD_eq_getD_getElem?,Array.getElem?_setIfInBounds_ne h,<-Array.getD_eq_getD_getElem?]
theorem U3 {P:Program}{q:ML}{nt:Nat}(hq:q.Fits nt){L:List Nat}(hLd: ∀l∈q.it::L,l≠q.nx/\l≠q.ok/\l≠q.en){I M r m:Nat}{vs:List AV}{arr:Array MapEntry}{clock:Nat}{seen:Array Nat}{R:Ren}{H:AH}{fr:Frame}{w:World}{k:List Item}{cs:List Frame}
  (h:AtHead q nt L I M r m vs arr clock seen R H fr.tmps w) (hm:fr.mode= .run) (ht:fr.todo= .code q.round:: .inLoop q.round:: .inBlock q.id::k):
  ((∀e∈arr.toList,e.born∈seen.toList)/\ ∃tmps',Steps P (lone fr cs w) (lone { fr with tmps:=tmps',todo:=k} cs w)/\ ∃e,PK e (q.it::L) (.ptr I 0::vs)/\EnvR R e nt tmps')\/
  (∃e∈arr.toList,e.born∉seen.toList/\ ∃tmps' d',Steps P (lone fr cs w) (lone { fr with tmps:=tmps',todo:= .inRegion q.opsC ((List.range q.rest.length).map Nat.succ):: .code q.body:: .inBlock q.id2:: .inLoop q.round:: .inBlock q.id::k} cs (wF { w with drawn:=d'} r (.mapIter (some m) clock (seen.push e.born) clock)))/\
   (∃en,PK en (q.it::L) (.ptr I 0::vs)/\EnvR R en nt tmps')/\tmps'.getD q.en undef= .tuple #[e.key,e.val]):=by
 obtain⟨e0,hp,hE⟩:=h.env;obtain⟨v0,vs0,hv0,hlk,hp'⟩:=id hp;obtain⟨rfl,rfl⟩:v0= .ptr I 0/\vs0=vs:=by injection hv0 with a b;exact⟨a.symm,b.symm⟩
 obtain⟨b,d,c,hR,hz⟩:=hE.get _ _ hlk;obtain⟨rfl,rfl,rfl⟩:=h.rel.fn _ _ _ _ _ _ _ hR h.ri;have hz':fr.tmps.getD q.it undef= .pointer (some ⟨b,0,none⟩):=by rw[hz]
 have hri:w.heap[b]? =some (.mapIter (some m) clock seen clock):=h.rel.obj _ _ _ _ _ h.ri h.gi;obtain⟨dm,cm,hRm⟩:=h.rm;have hrm:w.heap[m]? =some (.map arr clock):=h.rel.obj _ _ _ _ _ hRm h.gm;have hblt:b<w.heap.size:=(h.rel.lt _ _ _ _ h.ri).1;have hmb:m≠b:=fun e=>by rw[e]at hrm;rw[hri]at hrm;simp at hrm
 have hsz:=hE.size;have s0:Steps P (lone fr cs w) (lone { fr with todo:= .inRegion q.opsB [0,1]:: .code (.seq (.cond (.tmp q.ok) .skip (.exit q.id)) (.block q.id2 (.seq (.region q.rC q.opsC false) q.body))):: .inLoop q.round:: .inBlock q.id::k} cs w):=
  (Steps.one (J4 hm ht)).trans (.one (hJ (fr:= { fr with todo:= .code (.region q.rB q.opsB false):: .code (.seq (.cond (.tmp q.ok) .skip (.exit q.id)) (.block q.id2 (.seq (.region q.rC q.opsC false) q.body))):: .inLoop q.round:: .inBlock q.id::k}) hm rfl))
 rcases run_next_at (P:=P) w q.oN.type b m clock clock seen arr clock hri hrm h.bo.2 (Nat.le_refl _)with⟨hl0,hrun⟩ | ⟨e,he,w1,hw1,hrun⟩
 ·left;refine⟨fun e he=> ?_, ?_⟩
  ·apply Classical.byContradiction;intro hne;have:e∈(leftOf arr seen).toList:=by
    simp only[leftOf,Array.toList_filter,List.mem_filter];refine⟨he, ?_⟩;simpa using hne
   have h2:0< (leftOf arr seen).size:=by
    have:=List.length_pos_of_mem this;simpa using this
   omega
  ·have s1:=Q5 (P:=P) (cs:=cs) (fr:= { fr with todo:= .inRegion q.opsB [0,1]:: .code (.seq (.cond (.tmp q.ok) .skip (.exit q.id)) (.block q.id2 (.seq (.region q.rC q.opsC false) q.body))):: .inLoop q.round:: .inBlock q.id::k}) (w:=w) hm rfl (o:=q.oN) rfl hq.gN hq.pN hq.dN (by rw[hz'];exact hrun);have s2:=J6 (P:=P) (cs:=cs) (w:=w) (fr:= { fr with tmps:=fr.tmps.setIfInBounds q.nx (.tuple #[.bool false]),todo:= .inRegion q.opsB [1]:: .code (.seq (.cond (.tmp q.ok) .skip (.exit q.id)) (.block q.id2 (.seq (.region q.rC q.opsC false) q.body))):: .inLoop q.round:: .inBlock q.id::k}) hm rfl (o:=q.oX) rfl hq.gX hq.pX hq.dX (kZ _ _ _ (by have:=hq.nx;omega)) (v:= .bool false) rfl;have s3:=kD (P:=P) (cs:=cs) (w:=w) (fr:= { fr with tmps:=(fr.tmps.setIfInBounds q.nx (.tuple #[.bool false])).setIfInBounds q.ok (.bool false),todo:= .inRegion q.opsB []:: .code (.seq (.cond (.tmp q.ok) .skip (.exit q.id)) (.block q.id2 (.seq (.region q.rC q.opsC false) q.body))):: .inLoop q.round:: .inBlock q.id::k}) hm rfl;have s4:=J4 (P:=P) (cs:=cs) (w:=w) (fr:= { fr with tmps:=(fr.tmps.setIfInBounds q.nx (.tuple #[.bool false])).setIfInBounds q.ok (.bool false),todo:= .code (.seq (.cond (.tmp q.ok) .skip (.exit q.id)) (.block q.id2 (.seq (.region q.rC q.opsC false) q.body))):: .inLoop q.round:: .inBlock q.id::k}) hm rfl;have s5:=fD (P:=P) (cs:=cs) (w:=w) (fr:= { fr with tmps:=(fr.tmps.setIfInBounds q.nx (.tuple #[.bool false])).setIfInBounds q.ok (.bool false),todo:= .code (.cond (.tmp q.ok) .skip (.exit q.id)):: .code (.block q.id2 (.seq (.region q.rC q.opsC false) q.body)):: .inLoop q.round:: .inBlock q.id::k}) (t:=false) hm rfl (kZ _ _ _ (by have:=hq.ok;rw[Array.size_setIfInBounds];omega));have s6:=zDJ (P:=P) (cs:=cs) (w:=w) (fr:= { fr with tmps:=(fr.tmps.setIfInBounds q.nx (.tuple #[.bool false])).setIfInBounds q.ok (.bool false),todo:= .code (.exit q.id):: .code (.block q.id2 (.seq (.region q.rC q.opsC false) q.body)):: .inLoop q.round:: .inBlock q.id::k}) (k':=k) hm rfl (by simp[exitTo]);refine⟨_,s0.trans ((Steps.one s1).trans ((Steps.one s2).trans ((Steps.one s3).trans ((Steps.one s4).trans ((Steps.one s5).trans (.one s6)))))),_,aQ (aQ hp (fun l hl=>(hLd l hl).1)) (fun l hl=>(hLd l hl).2.1),(hE.slot hq.nx _).slot hq.ok _⟩
 ·right;obtain⟨d',rfl⟩: ∃d',w1= { w with drawn:=d'} :=by
   rcases hw1 with rfl | rfl
   ·exact⟨w1.drawn,rfl⟩
   ·exact⟨w.drawn+1,rfl⟩
  have he':e∈arr.toList/\e.born∉seen.toList:=by
   simp only[leftOf,Array.toList_filter,List.mem_filter]at he;exact⟨he.1,by simpa using he.2⟩
  refine⟨e,he'.1,he'.2, ?_⟩;have hrun':(Instr.next (.pointer (some ⟨b,0,none⟩)) false q.oN.type).run P w= .ok (.tuple #[.bool true,e.key,e.val]) (wF { w with drawn:=d'} b (.mapIter (some m) clock (seen.push e.born) clock)):=hrun
  generalize hw2:wF { w with drawn:=d'} b (.mapIter (some m) clock (seen.push e.born) clock)=w2 at hrun';have hi2:w2.heap[b]? =some (.mapIter (some m) clock (seen.push e.born) clock):=by rw[<-hw2];exact xL _ _ _ hblt
  have hm2:w2.heap[m]? =some (.map arr clock):=by rw[<-hw2,kO _ _ _ _ hmb];exact hrm
  have s1:=Q5 (P:=P) (cs:=cs) (fr:= { fr with todo:= .inRegion q.opsB [0,1]:: .code (.seq (.cond (.tmp q.ok) .skip (.exit q.id)) (.block q.id2 (.seq (.region q.rC q.opsC false) q.body))):: .inLoop q.round:: .inBlock q.id::k}) (w:=w) hm rfl (o:=q.oN) rfl hq.gN hq.pN hq.dN (by rw[hz'];exact hrun');have s2:=J6 (P:=P) (cs:=cs) (w:=w2) (fr:= { fr with tmps:=fr.tmps.setIfInBounds q.nx (.tuple #[.bool true,e.key,e.val]),todo:= .inRegion q.opsB [1]:: .code (.seq (.cond (.tmp q.ok) .skip (.exit q.id)) (.block q.id2 (.seq (.region q.rC q.opsC false) q.body))):: .inLoop q.round:: .inBlock q.id::k}) hm rfl (o:=q.oX) rfl hq.gX hq.pX hq.dX (kZ _ _ _ (by have:=hq.nx;omega)) (v:= .bool true) rfl;generalize ht2:(fr.tmps.setIfInBounds q.nx (.tuple #[.bool true,e.key,e.val])).setIfInBounds q.ok (.bool true)=t2 at s2;have hE2:EnvR R (fun t=>bif Nat.beq t q.ok then none else(fun t=>bif Nat.beq t q.nx then none else e0 t) t) nt t2:=by rw[<-ht2];exact(hE.slot hq.nx _).slot hq.ok _
  have hok2:t2.getD q.ok undef= .bool true:=by rw[<-ht2];exact kZ _ _ _ (by have:=hq.ok;rw[Array.size_setIfInBounds];omega)
  have hit2:t2.getD q.it undef= .pointer (some ⟨b,0,none⟩):=by rw[<-ht2,getD_set_ne _ _ _ _ (fun x=>hq.itok x.symm),getD_set_ne _ _ _ _ (fun x=>hq.itnx x.symm)];exact hz'
  have s3:=kD (P:=P) (cs:=cs) (w:=w2) (fr:= { fr with tmps:=t2,todo:= .inRegion q.opsB []:: .code (.seq (.cond (.tmp q.ok) .skip (.exit q.id)) (.block q.id2 (.seq (.region q.rC q.opsC false) q.body))):: .inLoop q.round:: .inBlock q.id::k}) hm rfl;have s4:=J4 (P:=P) (cs:=cs) (w:=w2) (fr:= { fr with tmps:=t2,todo:= .code (.seq (.cond (.tmp q.ok) .skip (.exit q.id)) (.block q.id2 (.seq (.region q.rC q.opsC false) q.body))):: .inLoop q.round:: .inBlock q.id::k}) hm rfl;have s5:=fD (P:=P) (cs:=cs) (w:=w2) (fr:= { fr with tmps:=t2,todo:= .code (.cond (.tmp q.ok) .skip (.exit q.id)):: .code (.block q.id2 (.seq (.region q.rC q.opsC false) q.body)):: .inLoop q.round:: .inBlock q.id::k}) (t:=true) hm rfl hok2;have s6:=zDH (P:=P) (cs:=cs) (w:=w2) (fr:= { fr with tmps:=t2,todo:= .code .skip:: .code (.block q.id2 (.seq (.region q.rC q.opsC false) q.body)):: .inLoop q.round:: .inBlock q.id::k}) hm rfl;have s7:=ZB (P:=P) (cs:=cs) (w:=w2) (fr:= { fr with tmps:=t2,todo:= .code (.block q.id2 (.seq (.region q.rC q.opsC false) q.body)):: .inLoop q.round:: .inBlock q.id::k}) hm rfl;have s8:=J4 (P:=P) (cs:=cs) (w:=w2) (fr:= { fr with tmps:=t2,todo:= .code (.seq (.region q.rC q.opsC false) q.body):: .inBlock q.id2:: .inLoop q.round:: .inBlock q.id::k}) hm rfl;have s9:=hJ (P:=P) (cs:=cs) (w:=w2) (fr:= { fr with tmps:=t2,todo:= .code (.region q.rC q.opsC false):: .code q.body:: .inBlock q.id2:: .inLoop q.round:: .inBlock q.id::k}) hm rfl;have hrg:List.range q.opsC.size=0::(List.range q.rest.length).map Nat.succ:=by
   rw[<-List.range_succ_eq_map];rfl
  rw[hrg]at s9;have s10:=V4 (P:=P) (cs:=cs) (w:=w2) (fr:= { fr with tmps:=t2,todo:= .inRegion q.opsC (0::(List.range q.rest.length).map Nat.succ):: .code q.body:: .inBlock q.id2:: .inLoop q.round:: .inBlock q.id::k}) hm rfl (o:=q.oE) rfl hq.gE hq.pE hq.dE (by
   rw[hit2];exact run_entry_at w2 b m clock seen arr clock e hi2 hm2 he'.1 h.bo.1)
  refine⟨_,d', ?_,⟨_,aQ (aQ (aQ hp (fun l hl=>(hLd l hl).1)) (fun l hl=>(hLd l hl).2.1)) (fun l hl=>(hLd l hl).2.2),hE2.slot hq.en _⟩,kZ _ _ _ (by have:=hq.en;rw[hE2.size];exact this)⟩;rw[hw2];exact s0.trans ((Steps.one s1).trans ((Steps.one s2).trans ((Steps.one s3).trans ((Steps.one s4).trans ((Steps.one s5).trans ((Steps.one s6).trans ((Steps.one s7).trans ((Steps.one s8).trans ((Steps.one s9).trans (.one s10))))))))))
theorem EnvR.know {R:Ren}{env:Env}{n:Nat}{tmps:Array Value}(h:EnvR R env n tmps){d:Nat}(hd:d<n){x:AV}(hx:VR R x (tmps.getD d undef)):EnvR R (upd env d x) n tmps:=by
 refine⟨h.size,fun t y hy=> ?_,fun t ht=> ?_⟩
 ·simp only[look,xO]at hy;split at hy
  ·rename_i e;subst e;injection hy with hy;subst hy;exact hx
  ·exact h.get t y hy
 ·simp only[look,xO];rw[if_neg (by omega)];exact h.out t ht
section
variable {P:Program}{B:Tb}{D:Dyn}(hX:Ok P B.X)(hr:Good P (rOf B D))
include hX hr in
theorem zCm {q:ML}{nt:Nat}(hq:q.Fits nt){L:List Nat}{hb:Hint}(hsb:yJ P 0 nt q.body hb){n:Nat}{I M r m:Nat}{vs:List AV}{arr:Array MapEntry}{clock:Nat}{seen:Array Nat}{R:Ren}{H H3:AH}{tmps:Array Value}{w:World}{kA vA:AV}{e:MapEntry}{d':Nat}{t':T AObj}
  (h:AtHead q nt L I M r m vs arr clock seen R H tmps w) (hset:T.set 40 H.h I (.raw (.mapIter (some m) clock (seen.push e.born) clock))=some t')
  (hk:VR R kA e.key) (hv:VR R vA e.val) (hrd:q.roundK B D n nt hb L I vs kA vA ⟨t',H.next⟩=some (.norm (.ptr I 0::vs),H3)) (hgi:H3.h.get I=t'.get I) (hgm:H3.h.get M=t'.get M) (hIM:M≠I)
  {fr:Frame} {k:List Item} {cs:List Frame} {lo:Nat} (hm:fr.mode= .run) (ht:fr.todo= .inRegion q.opsC ((List.range q.rest.length).map Nat.succ):: .code q.body:: .inBlock q.id2:: .inLoop q.round:: .inBlock q.id::k)
  (hE: ∃en,PK en (q.it::L) (.ptr I 0::vs)/\EnvR R en nt fr.tmps) (hen:fr.tmps.getD q.en undef= .tuple #[e.key,e.val]) (hM:Marks lo R w fr.defers) (hlo:lo<=w.heap.size):
  ∃R' w' tmps' ds,Steps P (lone fr cs (wF { w with drawn:=d'} r (.mapIter (some m) clock (seen.push e.born) clock))) (lone { fr with tmps:=tmps',todo:= .code q.round:: .inLoop q.round:: .inBlock q.id::k,defers:=ds} cs w')/\
   AtHead q nt L I M r m vs arr clock (seen.push e.born) R' H3 tmps' w'/\Ext R H w R' H3 w'/\Marks lo R' w' ds/\H.next<=H3.next:=by
 have hLi:Z5 H I:=⟨_,h.gi,trivial⟩;have hRel2:Rel R ⟨t',H.next⟩ (wF { w with drawn:=d'} r (.mapIter (some m) clock (seen.push e.born) clock)):=(h.rel.drew d').put h.ri hLi hset rfl
 have hExt2:Ext R H w R ⟨t',H.next⟩ (wF { w with drawn:=d'} r (.mapIter (some m) clock (seen.push e.born) clock)):=(Ext.drew R H w d').trans (Ext.put h.ri hset)
 obtain⟨en,hp,hEn⟩:=hE;unfold ML.roundK at hrd;obtain⟨e',hops,hle⟩:=ZZ hrd hp;have htup:VR R (.tuple [kA,vA]) (fr.tmps.getD q.en undef):=by
  rw[hen];exact⟨[e.key,e.val],rfl,_,_,rfl,hk,_,_,rfl,hv,rfl⟩
 have hE1:EnvR R (upd e' q.en (.tuple [kA,vA])) nt fr.tmps:=(hEn.know hq.en htup).le (hle.upd _ _);obtain⟨es,envF,HF,env',c1,c2,c3,c4,_⟩:=wJ _ _ [] _ _ _ [] hops (Le.refl _) (fun ms hms=>by simp at hms);obtain⟨i1,i2⟩:=WN q.rest 1;have hi:es.map (·.i)=(List.range q.rest.length).map Nat.succ:=by
  have:es.map (·.i)=(idx q.rest 1).map (·.1):=by rw[<-c2];simp
  rw[this,i1];apply List.map_congr_left;intro x _;omega
 have hmem: ∀e∈es,q.opsC[e.i]? =some e.o:=by
  intro e he;have h1:(e.i,e.o)∈idx q.rest 1:=by rw[<-c2];exact List.mem_map.2 ⟨e,he,rfl⟩
  obtain⟨h2,h3⟩:=i2 _ h1;show(q.oE::q.rest).toArray[e.i]? =some e.o;have h2':1<=e.i:=h2;rw[show e.i=(e.i - 1)+1 from by omega,List.getElem?_toArray,List.getElem?_cons_succ];exact h3
 obtain⟨R1,w1,t1,s1,e1,l1,x1⟩:=Y9 hX hr c1 hmem R fr (.code q.body:: .inBlock q.id2:: .inLoop q.round:: .inBlock q.id::k) cs _ hm (by rw[hi];exact ht) hE1 hRel2;have hst:=ZL hX hr (ro:=true) (f0:=0) (rs:=[]) (nt:=nt) (n:=n) q.body hb [] _ env' HF _ hsb c4;have hM1:Marks lo R1 w1 fr.defers:=(hM.ext hExt2).ext x1;obtain⟨R2,w2,t2,td2,ds2,env2,H2,s2,e2,l2,x2,n2,m2,o2⟩:=hst lo R1 { fr with tmps:=t1,todo:= .code q.body:: .inBlock q.id2:: .inLoop q.round:: .inBlock q.id::k} (.inBlock q.id2:: .inLoop q.round:: .inBlock q.id::k) cs w1 hm (fun h=>by simp at h) rfl (e1.le c3) l1 hM1 (Nat.le_trans hlo (hExt2.trans x1).size);have hnx:=(jB hr.mono c1).1;rcases o2 with⟨rfl,b2⟩ | ⟨id,k',rfl,b2,L',vs',b3,_⟩ | ⟨k',rfl,b2⟩
 ·obtain⟨vs2,p1,p2⟩:=yZ b2;simp only[z7,zD,Ex.norm.injEq]at p2;obtain⟨rfl,rfl⟩:=p2;have hx:=hExt2.trans (x1.trans x2);refine⟨R2,w2,t2,ds2, ?_,⟨l2,⟨env2,p1,e2⟩,hx.sub _ _ _ _ h.ri, ?_, ?_, ?_,h.bo⟩,hx,m2,Nat.le_trans (show H.next<=HF.next from hnx) n2⟩
  ·refine s1.trans ((Steps.one (kD (fr:= { fr with tmps:=t1,todo:= .inRegion q.opsC []:: .code q.body:: .inBlock q.id2:: .inLoop q.round:: .inBlock q.id::k}) hm rfl)).trans (s2.trans ?_));refine(Steps.one (J5 (fr:= { fr with tmps:=t2,todo:= .inBlock q.id2:: .inLoop q.round:: .inBlock q.id::k,defers:=ds2}) hm rfl)).trans ?_;exact .one (V3 (fr:= { fr with tmps:=t2,todo:= .inLoop q.round:: .inBlock q.id::k,defers:=ds2}) hm rfl)
  ·obtain⟨d,c,hr⟩:=h.rm;exact⟨d,c,hx.sub _ _ _ _ hr⟩
  ·rw[hgi,T.get_set _ _ _ _ _ hset,if_pos rfl]
  ·rw[hgm,T.get_set _ _ _ _ _ hset,if_neg hIM];exact h.gm
 ·simp[wX]at b3
 ·obtain⟨u,e⟩:=kU b2;simp at e
end
section
variable {P:Program}{B:Tb}{D:Dyn}(hX:Ok P B.X)(hr:Good P (rOf B D))
include hX hr in
theorem zI9 {q:ML}{nt:Nat}(hq:q.Fits nt){L:List Nat}(hLd: ∀l∈q.it::L,l≠q.nx/\l≠q.ok/\l≠q.en){hb:Hint}(hsb:yJ P 0 nt q.body hb){n:Nat}{I M r m:Nat}(hIM:M≠I)(hI:True){vs:List AV}{arr:Array MapEntry}{clock:Nat}{es:List (AV×AV)}
  {inv:List (AV×AV)->AH->Prop}
  (hstep: ∀vis k v rest Hk,inv vis Hk->(vis++(k,v)::rest).Perm es-> ∃H3,q.roundK B D n nt hb L I vs k v Hk=some (.norm (.ptr I 0::vs),H3)/\H3.h.get I=Hk.h.get I/\H3.h.get M=Hk.h.get M/\inv (vis++[(k,v)]) H3)
  (hraw: ∀vis Hk y t',inv vis Hk->T.set 40 Hk.h I (.raw y)=some t'->inv vis ⟨t',Hk.next⟩)
  {ps:List ((AV×AV)×MapEntry)} (hps1:ps.map (·.1)=es) (hps2:(ps.map (·.2)).Perm arr.toList):
  ∀(N:Nat) (rp vp:List ((AV×AV)×MapEntry)) (seen:Array Nat) (R:Ren) (H:AH) (fr:Frame) (k:List Item) (cs:List Frame) (w:World) (lo:Nat),rp.length=N->(vp++rp).Perm ps->seen.toList=vp.map (·.2.born)->inv (vp.map (·.1)) H->
   (∀p∈ps,VR R p.1.1 p.2.key/\VR R p.1.2 p.2.val)->AtHead q nt L I M r m vs arr clock seen R H fr.tmps w->fr.mode= .run->fr.todo= .code q.round:: .inLoop q.round:: .inBlock q.id::k->Marks lo R w fr.defers->lo<=w.heap.size->
   ∃(R':Ren) (w':World) (tmps':Array Value) (ds:List Deferred) (H':AH) (vp':List ((AV×AV)×MapEntry)) (seen':Array Nat),Steps P (lone fr cs w) (lone { fr with tmps:=tmps',todo:=k,defers:=ds} cs w')/\vp'.Perm ps/\inv (vp'.map (·.1)) H'/\AtHead q nt L I M r m vs arr clock seen' R' H' tmps' w'/\Ext R H w R' H' w'/\Marks lo R' w' ds/\H.next<=H'.next:=by
 have find: ∀e∈arr.toList,∃p∈ps,p.2=e:=fun e he=>by
  have:=hps2.symm.subset he;obtain⟨p,h1,h2⟩:=List.mem_map.1 this;exact⟨p,h1,h2⟩
 intro N
 induction N with
 | zero=>
  intro rp vp seen R H fr k cs w lo hN hperm hseen hinv hvr hA hm ht hM hlo;have:rp=[]:=zG hN;subst this;rw[List.append_nil]at hperm;rcases U3 (P:=P) (cs:=cs) hq hLd hA hm ht with⟨_,tmps',s1,he⟩ | ⟨e,he,hns,_⟩
  ·exact⟨R,w,tmps',fr.defers,H,vp,seen,s1,hperm,hinv,⟨hA.rel,he,hA.ri,hA.rm,hA.gi,hA.gm,hA.bo⟩,Ext.refl R H w,hM,Nat.le_refl _⟩
  ·obtain⟨p,hp,rfl⟩:=find e he;exact absurd (by rw[hseen];exact List.mem_map.2 ⟨p,hperm.symm.subset hp,rfl⟩) hns
 | succ N ih=>
  intro rp vp seen R H fr k cs w lo hN hperm hseen hinv hvr hA hm ht hM hlo;rcases U3 (P:=P) (cs:=cs) hq hLd hA hm ht with⟨hall,_⟩ | ⟨e,he,hns,tmps',d',s1,hE,hen⟩
  ·exfalso;obtain⟨p,rp',rfl⟩: ∃p rp',rp=p::rp':=by
    cases rp with
    | nil=>simp at hN
    | cons p rp'=>exact⟨p,rp',rfl⟩
   have hin:p∈ps:=hperm.subset (by simp);have h1:=hall p.2 (hps2.subset (List.mem_map.2 ⟨p,hin,rfl⟩));rw[hseen]at h1;have hnd:((vp++p::rp').map (·.2.born)).Nodup:=by
    have h2:((vp++p::rp').map (·.2.born)).Perm (arr.toList.map (·.born)):=by
     have:=(hperm.map (·.2)).trans hps2;have:=this.map (·.born);rw[List.map_map]at this;exact this
    exact h2.symm.nodup hA.bo.1
   rw[List.map_append,List.nodup_append]at hnd;exact hnd.2.2 _ h1 _ (by simp) rfl
  ·obtain⟨p,hp,rfl⟩:=find e he;have hin:p∈vp++rp:=hperm.symm.subset hp;have hrp:p∈rp:=by
    rcases List.mem_append.1 hin with h1 | h1
    ·exact absurd (by rw[hseen];exact List.mem_map.2 ⟨p,h1,rfl⟩) hns
    ·exact h1
   obtain⟨r1,r2,rfl⟩:=List.append_of_mem hrp;obtain⟨⟨kA,vA⟩,e⟩:=p;have hperm2:(vp++[((kA,vA),e)]++(r1++r2)).Perm ps:=by
    refine List.Perm.trans ?_ hperm;rw[List.append_assoc];refine List.Perm.append_left _ ?_;exact(List.perm_middle (a:=((kA,vA),e)) (l₁:=r1) (l₂:=r2)).symm
   obtain⟨t',hset⟩:=Option.isSome_iff_exists.1 (T.set_some 40 H.h I (.raw (.mapIter (some m) clock (seen.push e.born) clock)));have hinv2:=hraw _ _ _ _ hinv hset;obtain⟨H3,g1,g2,g3,g4⟩:=hstep (vp.map (·.1)) kA vA ((r1++r2).map (·.1)) ⟨t',H.next⟩ hinv2 (by
    have:=hperm2.map (·.1);rw[hps1]at this;simpa using this)
   obtain⟨hk,hv⟩:=hvr _ hp;obtain⟨R1,w1,t1,ds1,s2,a2,x2,m2,n2⟩:=zCm hX hr (d':=d') (cs:=cs) (lo:=lo) (k:=k) (fr:= { fr with tmps:=tmps',todo:= .inRegion q.opsC ((List.range q.rest.length).map Nat.succ):: .code q.body:: .inBlock q.id2:: .inLoop q.round:: .inBlock q.id::k}) hq hsb hA hset hk hv g1 g2 g3 hIM hm rfl hE hen hM hlo;obtain⟨R2,w2,t2,ds2,H4,vp',seen',s3,p3,i3,a3,x3,m3,n3⟩:=ih (r1++r2) (vp++[((kA,vA),e)]) (seen.push e.born) R1 H3 { fr with tmps:=t1,todo:= .code q.round:: .inLoop q.round:: .inBlock q.id::k,defers:=ds1} k cs w1 lo (by simp at hN⊢;omega) hperm2 (by simp[hseen]) (by simpa using g4)
    (fun p hp=>⟨VR.mono x2.sub _ _ (hvr p hp).1,VR.mono x2.sub _ _ (hvr p hp).2⟩) a2 hm rfl m2 (Nat.le_trans hlo x2.size)
   exact⟨R2,w2,t2,ds2,H4,vp',seen',s1.trans (s2.trans s3),p3,i3,a3,x2.trans x3,m3,Nat.le_trans n2 n3⟩
end
section
variable {P:Program}{B:Tb}{D:Dyn}(hX:Ok P B.X)(hr:Good P (rOf B D))
theorem MR.pairs {R:Ren}{es:List (AV×AV)}{l:List MapEntry}(h:MR R es l): ∃ps:List ((AV×AV)×MapEntry),ps.map (·.1)=es/\(ps.map (·.2)).Perm l/\ ∀p∈ps,VR R p.1.1 p.2.key/\VR R p.1.2 p.2.val:=by
 obtain⟨m,hp,h1,h2⟩:=h;have key: ∀(es:List (AV×AV)) (m:List MapEntry),VRL R (es.map (·.1)) (m.map (·.key))->VRL R (es.map (·.2)) (m.map (·.val))-> ∃ps:List ((AV×AV)×MapEntry),ps.map (·.1)=es/\ps.map (·.2)=m/\ ∀p∈ps,VR R p.1.1 p.2.key/\VR R p.1.2 p.2.val:=by
  intro es
  induction es with
  | nil=>
   intro m h1 _;simp only[List.map_nil,VRL,List.map_eq_nil_iff]at h1;subst h1;exact⟨[],rfl,rfl,by simp⟩
  | cons e es ih=>
   intro m h1 h2;obtain⟨x,xs,hx,h3,h4⟩:=h1;obtain⟨y,ys,hy,h5,h6⟩:=h2
   cases m with
   | nil=>simp at hx
   | cons a m=>
    simp only[List.map_cons,List.cons.injEq]at hx hy;obtain⟨rfl,rfl⟩:=hx;obtain⟨rfl,rfl⟩:=hy;obtain⟨ps,i1,i2,i3⟩:=ih m h4 h6;refine⟨(e,a)::ps,by simp[i1],by simp[i2],fun p hp=> ?_⟩;rcases List.mem_cons.1 hp with rfl | hp
    ·exact⟨h3,h5⟩
    ·exact i3 p hp
 obtain⟨ps,i1,i2,i3⟩:=key es m h1 h2;exact⟨ps,i1,by rw[i2];exact hp,i3⟩
variable {nt:Nat}
include hX hr in
theorem JZ {ops:Array Oper} : ∀ {es:List Ent} {env:Env} {H:AH} {envF:Env} {HF:AH},wU B.X (rOf B D) nt ops env H es envF HF->(∀e∈es,ops[e.i]? =some e.o)->
  ∀(R:Ren) (fr:Frame) (tl:List Nat) (k:List Item) (cs:List Frame) (w:World),fr.mode= .run->fr.todo= .inRegion ops (es.map (·.i)++tl)::k->EnvR R env nt fr.tmps->Rel R H w->
  ∃R' w' tmps',Steps P (lone fr cs w) (lone { fr with tmps:=tmps',todo:= .inRegion ops tl::k} cs w')/\EnvR R' envF nt tmps'/\Rel R' HF w'/\Ext R H w R' HF w'
 | [],env,H,envF,HF,⟨h1,h2⟩,_,R,fr,tl,k,cs,w,hm,ht,hE,hL=>by
  subst h1 h2;refine⟨R,w,fr.tmps, ?_,hE,hL,Ext.refl R H w⟩;have:({ fr with tmps:=fr.tmps,todo:= .inRegion ops tl::k} :Frame)=fr:=by
   have ht':fr.todo= .inRegion ops tl::k:=ht;rw[<-ht']
  rw[this];exact .refl _ _
 | e::es,env,H,envF,HF,⟨h1,h2,h3,env',h4,h5⟩,hmem,R,fr,tl,k,cs,w,hm,ht,hE,hL=>by
  have ho:=hmem e (zC ..);obtain⟨hw,hyes,hno⟩:=Y5 _ _ _ h3;have hwd:=BR hE hw;have ht':fr.todo= .inRegion ops (e.i::(es.map (·.i)++tl))::k:=ht;have key: ∃R1 w1 z,Steps P (lone fr cs w) (lone { fr with tmps:=BO fr.tmps e.o.dst z,todo:= .inRegion ops (es.map (·.i)++tl)::k} cs w1)/\VR R1 e.v z/\Rel R1 e.H' w1/\Ext R H w R1 e.H' w1:=by
   cases hwe:e.want with
   | true=>
    rw[hwe]at hwd;exact zB9 hX hr (cs:=cs) hm ht' ho hwd hE hL (hyes hwe)
   | false=>
    rw[hwe]at hwd;obtain⟨e1,e2⟩:=hno hwe;refine⟨R,w,undef, ?_,by rw[e1];exact XL R,by rw[e2];exact hL,by rw[e2];exact Ext.refl R H w⟩;rw[<-yB ht' ho];exact .one (Q4 hm ht' ho hwd)
  obtain⟨R1,w1,z,s1,v1,l1,x1⟩:=key;obtain⟨R2,w2,t2,s2,e2,l2,x2⟩:=JZ h5 (fun q hq=>hmem q (zA _ hq)) R1 { fr with tmps:=BO fr.tmps e.o.dst z,todo:= .inRegion ops (es.map (·.i)++tl)::k} tl k cs w1 hm rfl ((hE.mono x1.sub).put v1 h4) l1;exact⟨R2,w2,t2,s1.trans s2,e2,l2,x1.trans x2⟩
noncomputable def ML.preK (q:ML)(B:Tb)(D:Dyn)(nt:Nat)(L:List Nat)(vs:List AV)(H:AH):Rs:=
 unp L vs v6 fun e=>zCT B D nt q.opsA none (Nat.succ q.pre.length) (fun e H=>pck L e fun vs=>bV (opd e q.x) fun v=>some (.norm (v::vs),H)) (idx q.pre 0) [] e H
structure ML.Plan (q:ML)(B:Tb)(D:Dyn)(n nt:Nat)(hb:Hint)(L:List Nat)(vs:List AV)(H H':AH) where
 M:Nat
 ks:List Nat
 es:List (AV×AV)
 inv:List (AV×AV)->AH->Prop
 pre:q.preK B D nt L vs H=some (.norm (.map M::vs),H)
 room:True
 map:H.h.get M=some (.map ks es)
 start: ∀x y t1 t2,T.set 40 H.h M (.raw x)=some t1->T.set 40 t1 H.next (.raw y)=some t2->inv [] ⟨t2,H.next+1⟩
 step: ∀vis k v rest Hk,inv vis Hk->(vis++(k,v)::rest).Perm es-> ∃H3,q.roundK B D n nt hb L H.next vs k v Hk=some (.norm (.ptr H.next 0::vs),H3)/\H3.h.get H.next=Hk.h.get H.next/\H3.h.get M=Hk.h.get M/\inv (vis++[(k,v)]) H3
 raw: ∀vis Hk y t',inv vis Hk->T.set 40 Hk.h H.next (.raw y)=some t'->inv vis ⟨t',Hk.next⟩
 fin: ∀vis Hk t1 t2,inv vis Hk->vis.Perm es->T.set 40 Hk.h M (.map ks es)=some t1->T.set 40 t1 H.next .dead=some t2-> ∀R0 w0 R w,Rel R0 H w0->(∀v∈vs,∃z,VR R0 v z)->(∃b d c,R0 M b d c)->Sub R0 R->Rel R ⟨t2,Hk.next⟩ w->Rel R H' w/\H'.next=Hk.next/\ ∀A,A<H.next->(∀b d c,¬R0 A b d c)->H'.h.get A=H.h.get A
end
section
variable {P:Program}{B:Tb}{D:Dyn}(hX:Ok P B.X)(hr:Good P (rOf B D)){nt:Nat}
theorem Ext.told {R:Ren}{H:AH}{w:World}{A b d c:Nat}{o':AObj}{t':T AObj}(hR:R A b d c)(hs:T.set 40 H.h A o'=some t'):Ext R H w R ⟨t',H.next⟩ w:=
 ⟨Sub.refl R,fun _ _ _ _ h=> .inl h,fun _ _ _ _ h=> .inl h,Nat.le_refl _,fun A1 _ hk=>by
  have:A1≠A:=fun e=>by subst e;exact hk _ _ _ hR
  simp only[T.get_set _ _ _ _ _ hs,if_neg this],rfl,rfl,rfl,Nat.le_refl _,fun _ _ _=>rfl⟩
include hX hr in
theorem zCy {q:ML}(hq:q.Fits nt){L:List Nat}(hLd: ∀l∈q.it::L,l≠q.nx/\l≠q.ok/\l≠q.en)(hit: ∀l∈L,l≠q.it){hb:Hint}(hsb:yJ P 0 nt q.body hb){n:Nat}{f0:FuncId}{kt vt:TypeId}(hty:B.X.und q.t=some (.map kt vt)){mf:List AV->AH->Option AH}
  (hpl: ∀vs H H',mf vs H=some H'->Nonempty (q.Plan B D n nt hb L vs H H')):YK P nt f0 q.code L mf:=by
 intro ro env vs H H' hp hmf hle lo R fr k cs w hm hro htd hE hL hM hlo;obtain⟨pl⟩:=hpl vs H H' hmf;have hpre:=pl.pre;unfold ML.preK at hpre;obtain⟨e1,hops,hle1⟩:=ZZ hpre hp;obtain⟨es,envF,HF,env',c1,c2,c3,c4,_⟩:=wJ _ _ [] _ _ _ [] hops (Le.refl _) (fun ms hms=>by simp at hms);obtain⟨vs1,p1,c4⟩:=yZ c4;obtain⟨v1,o1,c4⟩:=j0 c4;simp only[z7,zD,Ex.norm.injEq,List.cons.injEq]at c4;obtain⟨⟨rfl,rfl⟩,rfl⟩:=c4;obtain⟨i1,i2⟩:=WN q.pre 0;have hi:es.map (·.i)=List.range q.pre.length:=by
  have:es.map (·.i)=(idx q.pre 0).map (·.1):=by rw[<-c2];simp
  rw[this,i1];simp
 have hmem: ∀e∈es,q.opsA[e.i]? =some e.o:=by
  intro e he;have h1:(e.i,e.o)∈idx q.pre 0:=by rw[<-c2];exact List.mem_map.2 ⟨e,he,rfl⟩
  have h3:=(i2 _ h1).2;rw[Nat.sub_zero]at h3;show(q.pre++[q.oR]).toArray[e.i]? =some e.o;rw[List.getElem?_toArray,zT (List.getElem?_eq_some_iff.1 h3).1];exact h3
 have hrg:List.range q.opsA.size=es.map (·.i)++[q.pre.length]:=by
  rw[hi,<-List.range_succ];show List.range (q.pre++[q.oR]).toArray.size=_;simp
 obtain⟨R1,w1,t1,s1,e1',l1,x1⟩:=JZ hX hr c1 hmem R { fr with todo:= .inRegion q.opsA (es.map (·.i)++[q.pre.length]):: .code (.block q.id (.loop q.round))::k} [q.pre.length] (.code (.block q.id (.loop q.round))::k) cs w hm rfl (hE.le hle1) hL;have hE1:EnvR R1 env' nt t1:=e1'.le c3;obtain⟨m,dm,cm,hRM,hev⟩:=yG (fr:= { fr with tmps:=t1,todo:= .inRegion q.opsA [q.pre.length]:: .code (.block q.id (.loop q.round))::k}) hE1 _ _ o1;obtain⟨arr,clock,hbm,hmr,hks,hdd,hbo⟩:=l1.mapAt pl.map hRM;have hlast:q.opsA[q.pre.length]? =some q.oR:=by
  show(q.pre++[q.oR]).toArray[q.pre.length]? =some q.oR;simp
 have s2:=V2 (P:=P) (cs:=cs) (w:=w1) (fr:= { fr with tmps:=t1,todo:= .inRegion q.opsA [q.pre.length]:: .code (.block q.id (.loop q.round))::k}) hm rfl hlast hq.gR hq.pR hq.dR (by rw[hev];exact run_range_map (hX.run_und hty w1) hbm);have hMn:pl.M<HF.next:=(l1.lt _ _ _ _ hRM).2
 have hroom:=pl.room;obtain⟨ta,hta⟩:=Option.isSome_iff_exists.1 (T.set_some 40 HF.h pl.M (.raw (.map arr clock)));obtain⟨tb,htb⟩:=Option.isSome_iff_exists.1 (T.set_some 40 ta HF.next (.raw (.mapIter (some m) clock #[] clock)))
 have lM:Rel R1 ⟨ta,HF.next⟩ w1:=l1.told hRM pl.map ⟨_,pl.map,trivial⟩ hta hbm
 have l2:Rel (R1.add HF.next w1.heap.size 0 0) ⟨tb,HF.next+1⟩ (w1.alloc (.mapIter (some m) clock #[] clock)):=lM.new (c:=0) (x:= .mapIter (some m) clock #[] clock) (H:=⟨ta,HF.next⟩) htb rfl
 have x2:Ext R HF w (R1.add HF.next w1.heap.size 0 0) ⟨tb,HF.next+1⟩ (w1.alloc (.mapIter (some m) clock #[] clock)):=(x1.trans (Ext.told hRM hta)).trans (Ext.add (H:=⟨ta,HF.next⟩) htb)
 obtain⟨ps,hps1,hps2,hps3⟩:=hmr.pairs;have hsub:Sub R1 (R1.add HF.next w1.heap.size 0 0):=R1.sub_add _ _ _ _
 have hvr: ∀p∈ps,VR (R1.add HF.next w1.heap.size 0 0) p.1.1 p.2.key/\VR (R1.add HF.next w1.heap.size 0 0) p.1.2 p.2.val:=fun p hp=>⟨VR.mono hsub _ _ (hps3 p hp).1,VR.mono hsub _ _ (hps3 p hp).2⟩
 have hIM:pl.M≠HF.next:=by omega
 have hEh:EnvR (R1.add HF.next w1.heap.size 0 0) (upd env' q.it (.ptr HF.next 0)) nt (t1.setIfInBounds q.it (.pointer (some ⟨w1.heap.size,0,none⟩))):=
  (hE1.mono hsub).put (dst:=some q.it) (x:= .ptr HF.next 0) ⟨w1.heap.size,0,0,R1.add_self _ _ _ _,rfl⟩ (by have hb:=hq.it;rw[<-zM]at hb;simp only[YO,hb,cond_true])
 have hPh:PK (upd env' q.it (.ptr HF.next 0)) (q.it::L) (.ptr HF.next 0::vs1):=by
  refine⟨_,_,rfl,by simp[look,xO], ?_⟩;have key: ∀(L:List Nat) (vs:List AV),(∀l∈L,l≠q.it)->PK env' L vs->PK (upd env' q.it (.ptr HF.next 0)) L vs:=by
   intro L
   induction L with
   | nil=>intro vs _ h;exact h
   | cons l L ih=>
    intro vs hd h;obtain⟨v,vs',h1,h2,h3⟩:=h;refine⟨v,vs',h1, ?_,ih vs' (fun x hx=>hd x (zA _ hx)) h3⟩;have:=hd l (zC ..);simp only[look,xO,if_neg this];exact h2
  exact key L vs1 hit p1
 have hAH:AtHead q nt L HF.next pl.M w1.heap.size m vs1 arr clock #[] (R1.add HF.next w1.heap.size 0 0) ⟨tb,HF.next+1⟩ (t1.setIfInBounds q.it (.pointer (some ⟨w1.heap.size,0,none⟩))) (w1.alloc (.mapIter (some m) clock #[] clock)):=
  ⟨l2,⟨_,hPh,hEh⟩,R1.add_self _ _ _ _,⟨dm,cm,hsub _ _ _ _ hRM⟩,by simp only[T.get_set _ _ _ _ _ htb,if_true],by simp only[T.get_set _ _ _ _ _ htb,if_neg hIM,T.get_set _ _ _ _ _ hta,if_true],hbo⟩
 have hM2:Marks lo (R1.add HF.next w1.heap.size 0 0) (w1.alloc (.mapIter (some m) clock #[] clock)) fr.defers:=hM.ext x2
 obtain⟨R3,w3,t3,ds3,H3,vp,seen,s3,v3,i3,a3,x3,m3,n3⟩:=zI9 hX hr hq hLd hsb hIM hroom pl.step pl.raw hps1 hps2 ps.length ps [] #[] _ ⟨tb,HF.next+1⟩ { fr with tmps:=t1.setIfInBounds q.it (.pointer (some ⟨w1.heap.size,0,none⟩)),todo:= .code q.round:: .inLoop q.round:: .inBlock q.id::k} k cs _ lo rfl (by simp) rfl (pl.start _ _ _ _ hta htb) hvr hAH hm rfl hM2 (Nat.le_trans hlo x2.size)
 obtain⟨d3,c3',hRm3⟩:=a3.rm;obtain⟨tc,htc⟩:=Option.isSome_iff_exists.1 (T.set_some 40 H3.h pl.M (.map pl.ks pl.es));obtain⟨td,htd'⟩:=Option.isSome_iff_exists.1 (T.set_some 40 tc HF.next .dead)
 have hmid:w3.heap[m]? =some (.map arr clock):=a3.rel.obj _ _ _ _ _ hRm3 a3.gm;have hRm3':R3 pl.M m dm cm:=x3.sub _ _ _ _ (hsub _ _ _ _ hRM);have l4:Rel R3 ⟨tc,H3.next⟩ w3:=a3.rel.told hRm3' a3.gm ⟨_,a3.gm,trivial⟩ htc ⟨arr,clock,hmid,hmr.mono (fun A b d c h=>x3.sub _ _ _ _ (hsub _ _ _ _ h)),hks,hdd,hbo⟩
 have l5:Rel R3 ⟨td,H3.next⟩ w3:=l4.kill (H:=⟨tc,H3.next⟩) htd'
 have hvs: ∀v∈vs1,∃z,VR R v z:=by
  have key: ∀(L:List Nat) (vs:List AV),PK env L vs-> ∀v∈vs,∃z,VR R v z:=by
   intro L
   induction L with
   | nil=>intro vs h v hv;simp only[PK]at h;subst h;simp at hv
   | cons l L ih=>
    intro vs h v hv;obtain⟨v0,vs',h1,h2,h3⟩:=h;subst h1;rcases List.mem_cons.1 hv with rfl | hv
    ·exact⟨_,hE.get _ _ h2⟩
    ·exact ih vs' h3 v hv
  exact key L vs1 hp
 have hMR: ∃b d c,R pl.M b d c:=by
  rcases x1.newA _ _ _ _ hRM with h | h
  ·exact⟨_,_,_,h⟩
  ·omega
 have hs03:Sub R R3:=(x2.trans x3).sub;obtain⟨l6,hnx,hkp⟩:=pl.fin _ H3 tc td i3 (by rw[<-hps1];exact v3.map _) htc htd' R w R3 w3 hL hvs hMR hs03 l5;have x23:=x2.trans x3;have x4:Ext R HF w R3 H' w3:=⟨x23.sub,x23.new,x23.newA,by have:=x23.next;omega,hkp,x23.os,x23.tape,x23.output,x23.size,x23.keep⟩
 obtain⟨e3,pk3,er3⟩:=a3.env;obtain⟨_,_,hq1,_,pk3'⟩:=pk3;injection hq1 with _ hq1;subst hq1
 refine⟨R3,w3,t3,k,ds3,e3,H', ?_,er3,l6,x4,hle,m3, .inl ⟨rfl,pk3',rfl⟩⟩;refine(Steps.one (J4 hm htd)).trans ?_;refine(Steps.one (hJ (fr:= { fr with todo:= .code (.region q.rA q.opsA false):: .code (.block q.id (.loop q.round))::k}) hm rfl)).trans ?_;rw[hrg];refine s1.trans ((Steps.one s2).trans ?_);refine(Steps.one (kD (fr:= { fr with tmps:=t1.setIfInBounds q.it (.pointer (some ⟨w1.heap.size,0,none⟩)),todo:= .inRegion q.opsA []:: .code (.block q.id (.loop q.round))::k}) hm rfl)).trans ?_;refine(Steps.one (ZB (fr:= { fr with tmps:=t1.setIfInBounds q.it (.pointer (some ⟨w1.heap.size,0,none⟩)),todo:= .code (.block q.id (.loop q.round))::k}) hm rfl)).trans ?_;refine(Steps.one (st_loop (fr:= { fr with tmps:=t1.setIfInBounds q.it (.pointer (some ⟨w1.heap.size,0,none⟩)),todo:= .code (.loop q.round):: .inBlock q.id::k}) hm rfl)).trans ?_;exact s3
end
def ups (e:List (AV×AV))(x:AV×AV):List (AV×AV):=match zDS x.1 x.2 e with
 | some r=>r
 | none=>e++[x]
def J0:List (AV×AV)->List (AV×AV)->List (AV×AV)
 | e,[]=>e
 | e,x::l=>J0 (ups e x) l
noncomputable def zCC (t:T AObj):Nat->Nat->Bool
 | _,0=>true
 | A,n+1=>match T.get t A with
  | none=>fN (Nat.succ A) fun A=>zCC t A n
  | some _=>false
theorem zBs {t:T AObj} : ∀ {n A:Nat},zCC t A n=true-> ∀C,A<=C->C<A+n->t.get C=none
 | 0,_,_,C,h1,h2=>by omega
 | n+1,A,h,C,h1,h2=>by
  simp only[zCC]at h;split at h
  ·rename_i e;rw[yE]at h;by_cases hc:C=A
   ·subst hc;exact e
   ·exact zBs h C (by simp only[Nat.succ_eq_add_one];omega) (by simp only[Nat.succ_eq_add_one];omega)
  ·simp at h
noncomputable def zKi (kk:List Nat)(nb:Nat)(ok:AV->Bool)(x y:AV)(H:AH):Option AH:=match x with
 | .map M=>match y with
  | .map A=>match H.h.get M with
   | some (.map ks es)=>match H.h.get A with
    | some (.map ks' es')=>bif aZ kk ks&&aZ ks ks'&& !Nat.beq M A&&es.all (fun e=>keyOk ks e.1&&ok e.2)then
      fN (H.next+1+nb*es.length) fun N=>bif zCC H.h H.next (1+nb*es.length)then
       match u5 H A (.map ks (J0 es' es))with
       | some H1=>some ⟨H1.h,N⟩
       | none=>none
      else none
     else none
    | _=>none
   | _=>none
  | _=>none
 | _=>none
theorem ZY (x:AV×AV): ∀(l e:List (AV×AV)),J0 e (l++[x])=ups (J0 e l) x
 | [],e=>rfl
 | y::l,e=>by simp only[List.cons_append,J0];exact ZY x l (ups e y)
open Classical in
theorem zHg {ks:List Nat}{e:List (AV×AV)}{x:AV×AV}(hk:keyOk ks x.1=true)(hd:e.Pairwise (fun a b=>a.1≠b.1)):(ups e x).Perm (x::e.filter (fun y=>decide (y.1≠x.1))):=by
 obtain⟨k,v⟩:=x;unfold ups;split
 ·rename_i r hr;obtain⟨e1,v0,e2,rfl,rfl⟩:=QC hr;rw[List.pairwise_append,List.pairwise_cons]at hd;have h1:e1.filter (fun y=>decide (y.1≠k))=e1:=List.filter_eq_self.2 fun y hy=>by
   simpa using hd.2.2 y hy (k,v0) (zC ..)
  have h2:e2.filter (fun y=>decide (y.1≠k))=e2:=List.filter_eq_self.2 fun y hy=>by
   have:=hd.2.1.1 y hy;simpa using fun h=>this h.symm
  rw[List.filter_append,List.filter_cons];simp only[ne_eq,not_true_eq_false,decide_false,Bool.false_eq_true,if_false];simp only[ne_eq]at h1 h2;rw[h1,h2];exact List.perm_middle
 ·rename_i hr;have hn:=setA_none hk hr;have h1:e.filter (fun y=>decide (y.1≠k))=e:=List.filter_eq_self.2 fun y hy=>by simpa using hn y hy
  simp only[ne_eq]at h1⊢;rw[h1];exact List.perm_append_comm
theorem KX {l m:List (AV×AV)}(h:l.Perm m)(hl:l.Pairwise (fun a b=>a.1≠b.1)):m.Pairwise (fun a b=>a.1≠b.1):=
 (List.Perm.pairwise_iff (fun h e=>h e.symm) h).1 hl
open Classical in
theorem XS {ks:List Nat}{e:List (AV×AV)}(hd:e.Pairwise (fun a b=>a.1≠b.1)): ∀(n:Nat) (l:List (AV×AV)),l.length=n->(∀x∈l,keyOk ks x.1=true)->l.Pairwise (fun a b=>a.1≠b.1)->
  (J0 e l).Perm (l++e.filter (fun y=>decide (∀x∈l,y.1≠x.1)))/\(J0 e l).Pairwise (fun a b=>a.1≠b.1):=by
 intro n
 induction n with
 | zero=>
  intro l hl hk hp;have:l=[]:=zG hl;subst this;refine⟨?_,hd⟩;rw[List.filter_eq_self.2 (fun y _=>by simp)];simp[J0]
 | succ n ih=>
  intro l hl hk hp;rcases List.eq_nil_or_concat l with rfl | ⟨l,x,rfl⟩
  ·simp at hl
  ·simp only[List.concat_eq_append]at hl hk hp⊢;rw[List.pairwise_append]at hp;obtain⟨i1,i2⟩:=ih l (by simp at hl;omega) (fun y hy=>hk y (by simp[hy])) hp.1;have h1:=zHg (hk x (by simp)) i2;rw[ZY];have h2:(J0 e l).filter (fun y=>decide (y.1≠x.1)) |>.Perm ((l++e.filter (fun y=>decide (∀z∈l,y.1≠z.1))).filter (fun y=>decide (y.1≠x.1))):=i1.filter _;have h3:(l++e.filter (fun y=>decide (∀z∈l,y.1≠z.1))).filter (fun y=>decide (y.1≠x.1))=l++e.filter (fun y=>decide (∀z∈l++[x],y.1≠z.1)):=by
    rw[List.filter_append,List.filter_filter];congr 1
    ·exact List.filter_eq_self.2 fun y hy=>by simpa using hp.2.2 y hy x (by simp)
    ·apply List.filter_congr;intro y _;rw[Bool.eq_iff_iff];simp only[z8,zF,qD,List.mem_singleton];constructor
     ·rintro⟨h1,h2⟩ z (hz | rfl)
      ·exact h2 z hz
      ·exact h1
     ·intro h;exact⟨h x (.inr rfl),fun z hz=>h z (.inl hz)⟩
   have h4:(ups (J0 e l) x).Perm ((l++[x])++e.filter (fun y=>decide (∀z∈l++[x],y.1≠z.1))):=by
    refine h1.trans ?_;refine((h2.trans (List.Perm.of_eq h3)).cons x).trans ?_;rw[List.append_assoc];exact List.perm_middle.symm
   refine⟨h4, ?_⟩;refine KX h1.symm ?_;rw[List.pairwise_cons];refine⟨fun y hy=> ?_,List.Pairwise.filter _ i2⟩;have:=(List.mem_filter.1 hy).2;simp only[ne_eq,zF]at this;exact fun h=>this h.symm
open Classical in
theorem zDe {ks:List Nat}{e l m:List (AV×AV)}(hd:e.Pairwise (fun a b=>a.1≠b.1))(hk: ∀x∈l,keyOk ks x.1=true)(hl:l.Pairwise (fun a b=>a.1≠b.1))(h:l.Perm m):(J0 e l).Perm (J0 e m):=by
 obtain⟨h1,_⟩:=XS hd _ l rfl hk hl;obtain⟨h2,_⟩:=XS (ks:=ks) hd _ m rfl (fun x hx=>hk x (h.symm.subset hx)) (KX h hl);refine h1.trans (List.Perm.trans ?_ h2.symm);have:e.filter (fun y=>decide (∀x∈l,y.1≠x.1))=e.filter (fun y=>decide (∀x∈m,y.1≠x.1)):=by
  apply List.filter_congr;intro y _;congr 1;apply propext;exact⟨fun a x hx=>a x (h.symm.subset hx),fun a x hx=>a x (h.subset hx)⟩
 rw[this];exact h.append_right _
theorem MR.perm {R:Ren}{es es':List (AV×AV)}{l:List MapEntry}(h:MR R es l)(hp:es.Perm es'):MR R es' l:=by
 obtain⟨ps,h1,h2,h3⟩:=h.pairs;subst h1;have key: ∀ {a b:List (AV×AV)},a.Perm b-> ∀ps:List ((AV×AV)×MapEntry),ps.map (·.1)=a-> ∃qs:List ((AV×AV)×MapEntry),qs.map (·.1)=b/\qs.Perm ps:=by
  intro a b hab
  induction hab with
  | nil=>intro ps h;exact⟨ps,h, .refl _⟩
  | cons x _ ih=>
   intro ps h
   cases ps with
   | nil=>simp at h
   | cons p ps=>
    simp only[List.map_cons,List.cons.injEq]at h;obtain⟨qs,a1,a2⟩:=ih ps h.2;exact⟨p::qs,by simp[a1,h.1],a2.cons p⟩
  | swap x y l=>
   intro ps h
   match ps,h with
   | p::q::ps,h=>
    simp only[List.map_cons,List.cons.injEq]at h;exact⟨q::p::ps,by simp[h.1,h.2.1,h.2.2],List.Perm.swap ..⟩
  | trans _ _ ih1 ih2=>
   intro ps h;obtain⟨qs,a1,a2⟩:=ih1 ps h;obtain⟨rs,b1,b2⟩:=ih2 qs a1;exact⟨rs,b1,b2.trans a2⟩
 obtain⟨qs,a1,a2⟩:=key hp ps rfl;refine⟨qs.map (·.2),(a2.map _).trans h2, ?_⟩;subst a1;have h3': ∀p∈qs,VR R p.1.1 p.2.key/\VR R p.1.2 p.2.val:=fun p hp=>h3 p (a2.subset hp)
 clear a2 h3 h2 hp key h
 induction qs with
 | nil=>simp[VRL]
 | cons q qs ih=>
  obtain⟨i1,i2⟩:=ih (fun p hp=>h3' p (zA _ hp));obtain⟨j1,j2⟩:=h3' q (zC ..);exact⟨⟨_,_,rfl,j1,i1⟩,⟨_,_,rfl,j2,i2⟩⟩
theorem zKV {H H':AH}{A:Nat}{o:AObj}(h:u5 H A o=some H'): ∃t,T.set 40 H.h A o=some t/\H'=⟨t,H.next⟩:=by
 unfold u5 at h;split at h
 ·rename_i t ht;injection h with h
  exact⟨t,ht,h.symm⟩
 ·simp at h
def zMd (q:ML)(B:Tb)(D:Dyn)(n nt:Nat)(hb:Hint)(L:List Nat)(vs:List AV)(H:AH)(ks:List Nat)(nb:Nat)(ok:AV->Bool)(M A:Nat):Prop:=
 ∀k v Hk e0,ok v=true->(∀C,C<H.next->C≠M->C≠A->Hk.h.get C=H.h.get C)->Hk.h.get A=some (.map ks e0)->keyOk ks k=true->H.next<Hk.next->(∀C,Hk.next<=C->C<Hk.next+nb->Hk.h.get C=none)->True->A<H.next->
  ∃H3,q.roundK B D n nt hb L H.next vs k v Hk=some (.norm (.ptr H.next 0::vs),H3)/\H3.next=Hk.next+nb/\H3.h.get A=some (.map ks (ups e0 (k,v)))/\ ∀C,C≠A->(C<Hk.next\/Hk.next+nb<=C)->H3.h.get C=Hk.h.get C
theorem zKg {q:ML}{B:Tb}{D:Dyn}{n nt:Nat}{hb:Hint}{L:List Nat}{vs:List AV}{H H':AH}{kk:List Nat}{nb:Nat}{ok:AV->Bool}{M A:Nat}(h:zKi kk nb ok (.map M) (.map A) H=some H')(hpre:q.preK B D nt L vs H=some (.norm (.map M::vs),H))
  (hrd:zMd q B D n nt hb L vs H kk nb ok M A) (hlt:M<H.next) (hlA:A<H.next) (hin: ∀R0 w0,Rel R0 H w0->(∀v∈vs,∃z,VR R0 v z)-> ∃b d c,R0 A b d c):Nonempty (q.Plan B D n nt hb L vs H H'):=by
 unfold zKi at h;simp only at h;split at h
 ·rename_i ks es hM;split at h
  ·rename_i ks' es' hA;rw[cond_eq_ite]at h;split at h
   ·rename_i hc;simp only[z8,Bool.not_eq_true',List.all_eq_true]at hc;obtain⟨⟨⟨hkk,hks⟩,hne⟩,hkeys⟩:=hc;have hkk:=fJ _ _ hkk;subst hkk;have hks:=fJ _ _ hks;subst hks;have hne:M≠A:=fun e=>by rw[e]at hne;simp at hne
    rw[yE,cond_eq_ite]at h;split at h
    ·rename_i hc2;have hfree:=zBs hc2;split at h
     ·rename_i H1 hput;injection h with h
      obtain⟨t1,ht1,rfl⟩:=zKV hput;have hg1:=T.get_set _ _ _ _ _ ht1;have hnx:H'.next=H.next+1+nb*es.length:=by rw[<-h]
      have hgt: ∀C,H'.h.get C=if C=A then some (.map kk (J0 es' es))else H.h.get C:=by rw[<-h];exact hg1
      refine⟨{ M:=M,ks:=kk,es:=es,inv:=fun vis Hk=>Hk.next=H.next+1+nb*vis.length/\Hk.h.get A=some (.map kk (J0 es' vis))/\(∀C,C<H.next->C≠M->C≠A->Hk.h.get C=H.h.get C)/\ ∀C,Hk.next<=C->Hk.h.get C=H.h.get C,pre:=hpre,room:=trivial,map:=hM,start:= ?_,step:= ?_,raw:= ?_,fin:= ?_}⟩
      ·intro x y s1 s2 hs1 hs2;have g1:=T.get_set _ _ _ _ _ hs1;have g2:=T.get_set _ _ _ _ _ hs2;refine⟨by simp, ?_,fun C h1 h2 h3=> ?_,fun C h1=> ?_⟩
       ·simp only[g2,g1];rw[if_neg (by omega),if_neg (Ne.symm hne)];exact hA
       ·simp only[g2,g1];rw[if_neg (by omega),if_neg h2]
       ·simp only at h1;simp only[g2,g1];rw[if_neg (by omega),if_neg (by omega)]
      ·intro vis k v rest Hk ⟨i1,i2,i3,i4⟩ hperm;have hlen:vis.length+1+rest.length=es.length:=by have:=hperm.length_eq;simp at this;omega
       have hmul:nb*(vis.length+1)<=nb*es.length:=Nat.mul_le_mul_left _ (by omega);rw[Nat.mul_add,Nat.mul_one]at hmul;obtain⟨H3,r1,r2,r3,r4⟩:=hrd k v Hk (J0 es' vis) (hkeys (k,v) (hperm.subset (by simp))).2 i3 i2 (hkeys (k,v) (hperm.subset (by simp))).1 (by omega) (fun C h1 h2=>by rw[i4 C h1];exact hfree C (by omega) (by omega)) trivial hlA;refine⟨H3,r1,r4 _ (by omega) (.inl (by omega)),r4 _ hne (.inl (by omega)), ?_, ?_,fun C h1 h2 h3=> ?_,fun C h1=> ?_⟩
       ·rw[r2,i1,zI,qE,Nat.mul_add,Nat.mul_one];omega
       ·rw[r3,ZY]
       ·rw[r4 C h3 (.inl (by omega))];exact i3 C h1 h2 h3
       ·rw[r4 C (by omega) (.inr (by omega))];exact i4 C (by omega)
      ·intro vis Hk y t' ⟨i1,i2,i3,i4⟩ hs;have g1:=T.get_set _ _ _ _ _ hs;refine⟨i1, ?_,fun C h1 h2 h3=> ?_,fun C h1=> ?_⟩
       ·simp only[g1];rw[if_neg (by omega)];exact i2
       ·simp only[g1];rw[if_neg (by omega)];exact i3 C h1 h2 h3
       ·simp only at h1;simp only[g1];rw[if_neg (by omega)];exact i4 C h1
      ·intro vis Hk t1' t2 ⟨i1,i2,i3,i4⟩ hperm hs1 hs2 R0 w0 R w hR0 hvs hMR hsub hR;have g1:=T.get_set _ _ _ _ _ hs1;have g2:=T.get_set _ _ _ _ _ hs2;have hlen:vis.length=es.length:=hperm.length_eq;obtain⟨bA,dA,cA,hAR⟩:=hin R0 w0 hR0 hvs;obtain⟨bM,dM,cM,hMR⟩:=hMR;have e0: ∀C,C≠A-> ∀o,H'.h.get C=some o->t2.get C=some o:=by
        intro C hC o ho;rw[hgt,if_neg hC]at ho;rw[g2,g1];by_cases c1:C=H.next
        ·subst c1;rw[hfree _ (Nat.le_refl _) (by omega)]at ho;simp at ho
        ·rw[if_neg c1];by_cases c2:C=M
         ·subst c2;rw[if_pos rfl];rw[hM]at ho;exact ho
         ·rw[if_neg c2];by_cases c3:C<H.next
          ·rw[i3 C c3 c2 hC];exact ho
          ·by_cases c4:C<H.next+(1+nb*es.length)
           ·rw[hfree C (by omega) c4]at ho;simp at ho
           ·rw[i4 C (by rw[i1,hlen];omega)];exact ho
       have eA:t2.get A=some (.map kk (J0 es' vis)):=by
        rw[g2,g1,if_neg (by omega),if_neg (Ne.symm hne)];exact i2
       have hlive: ∀C,Z5 H' C->Z5 ⟨t2,Hk.next⟩ C:=by
        intro C ⟨o,ho,hd⟩;by_cases c:C=A
        ·subst c;exact⟨_,eA,trivial⟩
        ·exact⟨o,e0 C c o ho,hd⟩
       refine⟨⟨hR.fn,fun A1 A2 b d c d' c' r r' l l'=>hR.inj _ _ _ _ _ _ _ r r' (hlive _ l) (hlive _ l'),fun C b d c o r ho=> ?_,fun C b d c r=>⟨(hR.lt _ _ _ _ r).1,by have:=(hR.lt _ _ _ _ r).2;simp only at this;rw[hnx];rw[i1,hlen]at this;exact this⟩⟩,by rw[hnx,i1,hlen],fun C hC hn=> ?_⟩
       ·by_cases c0:C=A
        ·subst c0;rw[hgt,if_pos rfl]at ho;injection ho with ho;subst ho
         obtain⟨arr,clock,o1,o2,o3,o4,o5⟩:=hR.obj _ _ _ _ _ r eA;obtain⟨_,_,_,_,_,pwA,_⟩:=hR0.obj _ _ _ _ _ hAR hA;obtain⟨_,_,_,_,kM,pwM,_⟩:=hR0.obj _ _ _ _ _ hMR hM;have hp:=zDe (ks:=kk) pwA (fun x hx=>kM x (hperm.subset hx)) (KX hperm.symm pwM) hperm;exact⟨arr,clock,o1,o2.perm hp,fun e he=>o3 e (hp.symm.subset he),KX hp o4,o5⟩
        ·exact hR.obj _ _ _ _ _ r (e0 C c0 o ho)
       ·rw[hgt,if_neg (fun e=>by subst e;exact hn _ _ _ hAR)]
     ·simp at h
    ·simp at h
   ·simp at h
  ·simp at h
 ·simp at h
def zKq:List Nat->Code->Code
 | [],c=>c
 | 0::p, .seq a _=>zKq p a
 | _::p, .seq _ b=>zKq p b
 | 0::p, .cond _ a _=>zKq p a
 | _::p, .cond _ _ b=>zKq p b
 | _::p, .block _ b=>zKq p b
 | _::p, .loop b=>zKq p b
 | _,c=>c
def zOn (fn:Func)(p:List Nat):Code:=match fn.body with
 | some b=>zKq p b
 | none=> .skip
def zNm {α:Type} :List α->List α
 | []=>[]
 | [_]=>[]
 | a::l=>a::zNm l
def zN8 {α:Type}(d:α):List α->α
 | []=>d
 | [a]=>a
 | _::l=>zN8 d l
def op0:Oper:=⟨none, .alloc 0,0,"", #[],none⟩
def ml0:ML:=⟨0,0,0,[],op0,op0,op0,op0,[],0,0, .skip,0, .tmp 0,0,0,0,0⟩
def zEa:Op->TypeId×Operand
 | .range t x=>(t,x)
 | _=>(0, .tmp 0)
def mlOf:Code->ML
 | .seq (.region rA opsA _) (.block id (.loop (.seq (.region rB opsB _) (.seq (.cond (.tmp ok) .skip (.exit _)) (.block id2 (.seq (.region rC opsC _) body))))))=>
  match opsB.toList,opsC.toList with
  | [oN,oX],oE::rest=>
   let oR:=zN8 op0 opsA.toList
   ⟨rA,rB,rC,zNm opsA.toList,oR,oN,oX,oE,rest,id,id2,body,(zEa oR.op).1,(zEa oR.op).2,oR.dst.getD 0,oN.dst.getD 0,ok,oE.dst.getD 0⟩
  | _,_=>ml0
 | _=>ml0
def gI:Code->Hint->List (Code×List Nat×(List AV->AH->Option AH))
 | .seq a b, .t L m=>[(.seq a b,L,m)]
 | .seq a b, .s ha hb=>gI a ha++gI b hb
 | .cond _ a b, .c _ ha hb=>gI a ha++gI b hb
 | .cond _ a b, .cl ha hb=>gI a ha++gI b hb
 | .cond _ a b, .cr ha hb=>gI a ha++gI b hb
 | .block _ b, .b _ hb=>gI b hb
 | .block _ b, .b0 hb=>gI b hb
 | .loop b, .l _ hb=>gI b hb
 | _,_=>[]
def BQ:Hint->Bool
 | .o=>true
 | .s a b=>BQ a&&BQ b
 | .c _ a b=>BQ a&&BQ b
 | .cl a b=>BQ a&&BQ b
 | .cr a b=>BQ a&&BQ b
 | .b _ a=>BQ a
 | .b0 a=>BQ a
 | .l _ a=>BQ a
 | .rf _ _=>false
 | .t _ _=>true
theorem zL2 {P:Program}(f0:FuncId)(nt:Nat): ∀(c:Code) (h:Hint),BQ h=true->(∀x∈gI c h,YK P nt f0 x.1 x.2.1 x.2.2)->yJ P f0 nt c h:=by
 intro c
 induction c with
 | seq a b iha ihb=>
  intro h hh ht
  cases h<;>simp only[yJ]
  ·simp only[BQ,z8]at hh;simp only[gI,qD]at ht;exact⟨iha _ hh.1 (fun x hx=>ht x (.inl hx)),ihb _ hh.2 (fun x hx=>ht x (.inr hx))⟩
  ·exact ht (.seq a b,_,_) (by simp[gI])
 | cond c a b iha ihb=>
  intro h hh ht
  cases h<;>simp only[yJ]<;>
   (simp only[BQ,z8]at hh
    simp only[gI,qD]at ht;exact⟨iha _ hh.1 (fun x hx=>ht x (.inl hx)),ihb _ hh.2 (fun x hx=>ht x (.inr hx))⟩)
 | block id b ih=>
  intro h hh ht
  cases h<;>simp only[yJ]<;>first | exact ih _ hh ht | trivial
 | loop b ih=>
  intro h hh ht
  cases h<;>simp only[yJ]
  exact ih _ hh ht
 | rangeFunc f ps a b _ _=>intro h hh ht;cases h<;>simp_all [yJ,BQ]
 | _=>intro h hh ht;simp[yJ]
def zAJ (fn:Func)(h:Hint):List (Code×List Nat×(List AV->AH->Option AH)):=match fn.body with
 | some b=>gI b h
 | none=>[]
theorem zDN {f:FuncId}{fn:Func}{h:Hint}(hn:BQ h=true)(ht: ∀x∈zAJ fn h,YK PP fn.ntmps f x.1 x.2.1 x.2.2): ∀body,fn.body=some body->yJ PP f fn.ntmps body h:=by
 intro body hb;refine zL2 _ _ _ _ hn (fun x hx=>ht x ?_);unfold zAJ;rw[hb];exact hx
theorem zKf {X:Cx}(hX:Ok PP X){q:ML}{nt:Nat}(hq:q.Fits nt){L:List Nat}(hLd: ∀l∈q.it::L,l≠q.nx/\l≠q.ok/\l≠q.en)(hit: ∀l∈L,l≠q.it){hb:Hint}(hsb:YS hb=true){f0:FuncId}{kt vt:TypeId}(hty:X.und q.t=some (.map kt vt)){mf:List AV->AH->Option AH}
  (hpl: ∀vs H H',mf vs H=some H'->Nonempty (q.Plan ⟨X,[]⟩ YV 0 nt hb L vs H H')):YK PP nt f0 q.code L mf:=
 zCy (B:=⟨X,[]⟩) (D:=YV) hX (WO WW SOk.nil) hq hLd hit (WA _ _ _ _ hsb) hty hpl
theorem zEE {H:AH}(o:AObj)(h:H.h.get H.next=none): ∃t,T.set 40 H.h H.next o=some t/\ ∀K,XO H o K=K H.next ⟨t,H.next+1⟩:=by
 obtain⟨t,ht⟩:=Option.isSome_iff_exists.1 (T.set_some 40 H.h H.next o)
 exact⟨t,ht,fun K=>by simp only[XO,h,ht,yE]⟩
theorem zIg {A o:Nat}{H:AH}{v:AV}(h:ld1 (.ptr A o) H=some v): ∃l e sz g,H.h.get A=some (.cells l e sz g)/\nth l o=some v:=by
 unfold ld1 at h;simp only at h;split at h
 ·rename_i l e sz g hA;exact⟨l,e,sz,g,hA,h⟩
 ·simp at h
theorem zN7 {A o:Nat}{H:AH}{v:AV}{l:List AV}{e:TypeId}{sz:Nat}{g:Bool}(hA:H.h.get A=some (.cells l e sz g))(h:nth l o=some v):ld1 (.ptr A o) H=some v:=by
 simp only[ld1,hA,h]
theorem zIk {R:Ren}{H:AH}{w:World}(hR:Rel R H w){A b d c:Nat}(hr:R A b d c){l:List AV}{e:TypeId}{sz:Nat}{g:Bool}(hA:H.h.get A=some (.cells l e sz g)){o M:Nat}(hn:nth l o=some (.map M)): ∃b d c,R M b d c:=by
 obtain⟨_,_,_,l',_,_,_,_,hl,_⟩:=hR.obj _ _ _ _ _ hr hA;rw[dJ]at hn;obtain⟨v,_,hv⟩:=VRL.get _ _ hl _ _ hn;obtain⟨b,d,c,h,_⟩:=hv;exact⟨b,d,c,h⟩
theorem zDf {kk:List Nat}{nb:Nat}{ok:AV->Bool}{M A:Nat}{H H':AH}(h:zKi kk nb ok (.map M) (.map A) H=some H'):(∃ks es,H.h.get M=some (.map ks es))/\ ∃ks es,H.h.get A=some (.map ks es):=by
 unfold zKi at h;simp only at h;split at h
 ·rename_i hM;split at h
  ·rename_i hA;exact⟨⟨_,_,hM⟩,_,_,hA⟩
  ·simp at h
 ·simp at h
theorem zKh {ks:List Nat}{A:Nat}{k v:AV}{H:AH}{e0:List (AV×AV)}(hk:keyOk ks k=true)(hA:H.h.get A=some (.map ks e0)): ∃t,T.set 40 H.h A (.map ks (ups e0 (k,v)))=some t/\upM ks (.map A) k v H=some (qM,⟨t,H.next⟩):=by
 obtain⟨t,ht⟩:=Option.isSome_iff_exists.1 (T.set_some 40 H.h A (.map ks (ups e0 (k,v))));refine⟨t,ht, ?_⟩;have he:aZ ks ks=true:=by
  clear ht hA hk
  induction ks with
  | nil=>rfl
  | cons a l ih=>simp[aZ,ih]
 simp only[upM,hk,hA,he,cond_true];unfold ups at ht;simp only at ht
 cases hs:zDS k v e0 with
 | some r=>rw[hs]at ht;simp only[u5,ht]
 | none=>rw[hs]at ht;simp only[u5,ht]
def isAg (n:Nat)(v:AV):Bool:=match v with
 | .agg l=>Nat.beq (aD l 0) n&&qN l
 | _=>false
theorem zEV {n:Nat}{v:AV}(h:isAg n v=true): ∃l,v= .agg l/\l.length=n/\qN l=true:=by
 unfold isAg at h;split at h
 ·rename_i l;simp only[z8,Nat.beq_eq,yA]at h;exact⟨l,rfl,h.1,h.2⟩
 ·simp at h
theorem XV: ∀(l:List AV),takeN l.length l=some l
 | []=>rfl
 | a::l=>by simp[takeN,XV l]
theorem zDR {l c:List AV}(h:c.length=l.length):setAt c 0 l=some l:=by
 have: ∀(c l:List AV),c.length=l.length->over c l=some l:=by
  intro c
  induction c with
  | nil=>intro l h;cases l with
   | nil=>rfl
   | cons=>simp at h
  | cons a c ih=>intro l h;cases l with
   | nil=>simp at h
   | cons b l=>simp only[zJ,Nat.add_right_cancel_iff]at h;simp[over,ih l h]
 cases c with
 | nil=>cases l with
  | nil=>rfl
  | cons=>simp at h
 | cons a c=>simpa[setAt]using this (a::c) l h
theorem zKv {n A:Nat}{H:AH}{cs l:List AV}{e:TypeId}{sz:Nat}{g:Bool}(hA:H.h.get A=some (.cells l e sz g))(hl:l.length=n)(hc:cs.length=n)(ha:qN cs=true)(hz:Nat.blt 0 sz=true): ∃t,T.set 40 H.h A (.cells cs e sz g)=some t/\stN n (.ptr A 0) (.agg cs) H=some (qM,⟨t,H.next⟩):=by
 obtain⟨t,ht⟩:=Option.isSome_iff_exists.1 (T.set_some 40 H.h A (.cells cs e sz g));refine⟨t,ht, ?_⟩;have hb:(cs.length.beq n)=true:=by rw[Nat.beq_eq];exact hc
 simp only[stN,hA,qT,yA,hb,ha,hz,Bool.and_true,cond_true,zDR (show l.length=cs.length by omega),u5,ht]
theorem zL9 {n A:Nat}{H:AH}{cs:List AV}{e:TypeId}{sz:Nat}{g:Bool}(hA:H.h.get A=some (.cells cs e sz g))(hc:cs.length=n):ldN n (.ptr A 0) H=some (.agg cs):=by
 subst hc;have:vY cs 0 cs.length=some cs:=by
  cases cs with
  | nil=>rfl
  | cons a l=>simpa[vY]using XV (a::l)
 simp only[ldN,hA,this]
end Go.Eng
end
section
namespace Go.Proofs
open Go.Shelf
def Tryz.laysInsert_ren:Go.Shelf.Ren:=⟨fun | 22=>74 | 29=>95 | 30=>96 | 36=>115 | 17=>127 | n=>n,fun | 24=>90 | 9=>9 | 3=>3 | 4=>4 | 0=>0 | n=>n,fun | n=>n⟩
theorem Tryz.laysInsert:Go.Proofs.Lays2.n22 Tryz.prog Tryz.laysInsert_ren:= {
 mixed:=by kernel_rfl
 f17:=Tryz.func127.trans (congrArg some (by kernel_rfl))
 f22:=Tryz.func74.trans (congrArg some (by kernel_rfl))
 f29:=Tryz.func95.trans (congrArg some (by kernel_rfl))
 f30:=Tryz.func96.trans (congrArg some (by kernel_rfl))
 f36:=Tryz.func115.trans (congrArg some (by kernel_rfl))
 t0:=Tryz.underlying0
 a0:=Tryz.isAgg0
 z0:=Tryz.sizeOf0
 v0:=Tryz.zeroValue0
 t3:=Tryz.underlying3
 a3:=Tryz.isAgg3
 z3:=Tryz.sizeOf3
 v3:=Tryz.zeroValue3
 t4:=Tryz.underlying4
 a4:=Tryz.isAgg4
 z4:=Tryz.sizeOf4
 v4:=Tryz.zeroValue4
 t9:=Tryz.underlying9
 a9:=Tryz.isAgg9
 z9:=Tryz.sizeOf9
 v9:=Tryz.zeroValue9
 t24:=Tryz.underlying90
 a24:=Tryz.isAgg90
 z24:=Tryz.sizeOf90
 v24:=Tryz.zeroValue90
 i9:=by kernel_rfl}
end Go.Proofs
end
section
namespace Go.Eng
open Go.Proofs
noncomputable def zMj (e:Nat)(vs:List AV)(H:AH):Option (AV×AH):=
 match vs with
 | [.slice A off len cc, .int .i64 (.ofNat i), .slice B o2 m _]=>
  match H.h.get A,H.h.get B with
  | some (.cells l e' sz g),some (.cells lB _ sB gB)=>
   bif g&&(!gB&&Nat.blt 0 sB)&&Nat.beq off 0&&Nat.beq cc 1&&Nat.beq sz 1&&Nat.beq e' e&&Nat.blt i len&&Nat.blt 0 m&&Nat.beq (aD l 0) len&&Nat.ble ((len+m)*16) 140737488355328&&qN l then
    match vY lB o2 m with
    | some new=>bif qN new then
      match u5 H A .dead with
      | some H1=>cK (len+m) e 1 (l.take i++new++l.drop i) H1
      | none=>none
     else none
    | none=>none
   else none
  | _,_=>none
 | _=>none
theorem kT (b:Nat)(e:TypeId)(fz:Nat×Nat): ∀(vs:List Value) (o:Nat) (w:World) (arr:Array Value),w.heap[b]? =some (.cells arr e fz)->w.setCells b o vs=wF w b (.cells (jN arr o vs) e fz)
 | [],o,w,arr,h=>by simp only[World.setCells,jN];exact(ZV w b _ h).symm
 | v::vs,o,w,arr,h=>by
  have hb:b<w.heap.size:=(Array.getElem?_eq_some_iff.1 h).1;have h1:w.setCell ⟨b,o,none⟩ v=wF w b (.cells (arr.setIfInBounds o v) e fz):=by
   have hg:w.heap[b]= .cells arr e fz:=by
    have:=(Array.getElem?_eq_some_iff.1 h).2;exact this
   unfold World.setCell wF;congr 1;apply Array.ext
   ·simp
   ·intro j h2 h3;simp only[Array.size_modify]at h2;rw[Array.getElem_modify,Array.getElem_setIfInBounds]
    ·by_cases hj:b=j
     ·subst hj;simp[hg]
     ·simp[hj]
    ·exact h2
  rw[World.setCells,h1,kT b e fz vs (o+1) _ (arr.setIfInBounds o v) (xL _ _ _ hb),fU];rfl
theorem zC9 (w:World)(o x:Obj):wF (w.alloc o) w.heap.size x=w.alloc x:=by
 unfold wF World.alloc;congr 1;apply Array.ext
 ·simp
 ·intro j h2 h3;simp at h2 h3;rw[Array.getElem_setIfInBounds]
  ·by_cases hj:w.heap.size=j
   ·subst hj;simp
   ·have:j<w.heap.size:=by omega
    simp only[if_neg hj];rw[Array.getElem_push,Array.getElem_push,dif_pos this,dif_pos this]
  ·simp;omega
theorem JF {v:Value}(h:zMZ v):v.oneCell'=true:=by cases v<;>simp_all [zMZ,Value.oneCell']
theorem zMF {α:Type}{pre l spare vs:List α}{d i m n:Nat}(hd:pre.length=d)(hn:l.length=n)(hi:i<=n)(hv:vs.length=m)(hs:m<=spare.length):
  ((pre++(l++spare)).take (d+(i+m))++l.drop i++(pre++(l++spare)).drop (d+(i+m)+(l.drop i).length)).take (d+i)++vs++((pre++(l++spare)).take (d+(i+m))++l.drop i++(pre++(l++spare)).drop (d+(i+m)+(l.drop i).length)).drop (d+i+vs.length)=pre++((l.take i++vs++l.drop i)++spare.drop m):=by
 have hY:((pre++(l++spare)).take (d+(i+m))).length=d+i+m:=by simp;omega
 have e1:((pre++(l++spare)).take (d+(i+m))++l.drop i++(pre++(l++spare)).drop (d+(i+m)+(l.drop i).length)).take (d+i)=pre++l.take i:=by
  rw[List.append_assoc,List.take_append_of_le_length (by omega),List.take_take,Nat.min_eq_left (by omega),List.take_append,zK (by omega),List.take_append,show d+i - pre.length=i from by omega,show i - l.length=0 from by omega];simp
 have e2:((pre++(l++spare)).take (d+(i+m))++l.drop i++(pre++(l++spare)).drop (d+(i+m)+(l.drop i).length)).drop (d+i+vs.length)=l.drop i++spare.drop m:=by
  rw[List.append_assoc,List.drop_left' (by omega)];congr 1;rw[zN,List.drop_append,zO (by omega),List.drop_append,zO (by omega),show d+(i+m)+(l.length - i) - pre.length - l.length=m from by omega];simp
 rw[e1,e2];simp
theorem growL {α:Type}{a z1 z2 vs r:List α}{i m k:Nat}(ha:a.length=i)(hz:z1.length=m+k)(hv:vs.length=m)(hr:r.length=k):
  ((a++z1++z2).take i++vs++(a++z1++z2).drop (i+vs.length)).take (i+m)++r++((a++z1++z2).take i++vs++(a++z1++z2).drop (i+vs.length)).drop (i+m+r.length)=(a++vs++r)++z2:=by
 have e0:(a++z1++z2).take i=a:=by rw[List.append_assoc,List.take_left' ha]
 have e3:(a++z1++z2).drop (i+vs.length)=z1.drop m++z2:=by
  rw[List.append_assoc,List.drop_append,zO (by omega),List.drop_append,show i+vs.length - a.length=m from by omega,show m - z1.length=0 from by omega];simp
 rw[e0,e3];have e1:(a++vs++(z1.drop m++z2)).take (i+m)=a++vs:=List.take_left' (by simp;omega);have e2:(a++vs++(z1.drop m++z2)).drop (i+m+r.length)=z2:=by
  rw[<-List.append_assoc,List.drop_left' (by simp;omega)]
 rw[e1,e2]
theorem zLh {R:Ren}{H H':AH}{w:World}{args:List AV}{az:List Value}{v:AV}(h:zMj (Tryz.laysInsert_ren.t 9) args H=some (v,H'))(hv:VRL R args az)(hL:Rel R H w):
  H.next<=H'.next/\ ∃(z:Value) (w':World) (R':Ren),Calls PP (Tryz.laysInsert_ren.f 22) ⟨az⟩ w (fun e w1=>e= .returned z/\w1=w')/\VR R' v z/\Rel R' H' w'/\Ext R H w R' H' w':=by
 unfold zMj at h;split at h
 ·rename_i A off len cc i B o2 m c2;split at h
  ·rename_i l e' sz g lB eB szB gB hA hB;rw[cond_eq_ite]at h;split at h
   ·rename_i hc;simp only[z8,Nat.beq_eq,zM,zR,Bool.not_eq_true']at hc;obtain⟨⟨⟨⟨⟨⟨⟨⟨⟨⟨rfl,rfl,hsB⟩,rfl⟩,rfl⟩,rfl⟩,rfl⟩,hi⟩,hm⟩,hll⟩,hbig⟩,hcl⟩:=hc;rw[yA]at hll;split at h
    ·rename_i new hnew;rw[cond_eq_ite]at h;split at h
     ·rename_i hcn;split at h
      ·rename_i H1 hput;obtain⟨t1,ht1,rfl⟩: ∃t1,T.set 40 H.h A .dead=some t1/\H1=⟨t1,H.next⟩:=by
        unfold u5 at hput;split at hput
        ·rename_i t1 ht1;simp only[z7]at hput;exact⟨t1,ht1,hput.symm⟩
        ·simp at hput
       unfold cK at h;split at h
       ·rename_i A2 H2 hnw;obtain⟨t2,ht2,rfl,rfl,_⟩:=u6 hnw;simp only[yE,z7,zD]at h;obtain⟨rfl,rfl⟩:=h;refine⟨Nat.le_succ _, ?_⟩;obtain⟨v1,az1,rfl,hv1,hv⟩:=hv;obtain⟨v2,az2,rfl,hv2,hv⟩:=hv;obtain⟨v3,az3,rfl,hv3,hv⟩:=hv;simp only[VRL]at hv;subst hv;obtain⟨b,d,c,hR,rfl⟩:=hv1;simp only[VR]at hv2;subst hv2;obtain⟨b2,d2,c2',hR2,rfl⟩:=hv3;obtain⟨arr,fz,pre,l',spare,a1,a2,a3,a4,a5,a6,a7,sp,a8⟩:=hL.cellsAt hA hR;obtain⟨arr2,fz2,pre2,lB',spare2,b1,b2',b3,b4,b5,b6,b7,_⟩:=hL.cellsAt hB hR2;obtain⟨rfl,hin⟩:=uT _ _ _ _ hnew;obtain⟨a6,hc63⟩:=a6 rfl;obtain⟨rfl,hfz2⟩:=b5 rfl;obtain rfl:=hfz2.1 hsB;have hdec:xE 1 c=c:=by rw[k9 c (by omega)];simp
        rw[hdec];have hne:b2≠b:=fun e=>by
         subst e;have:=hL.inj _ _ _ _ _ _ _ hR hR2 (Rel.live hA) (Rel.live hB);subst this;rw[hA]at hB;simp at hB
        have hl':=VRL.length _ _ a4;have hlB:=VRL.length _ _ b4;have hvsR:VRL R ((lB.drop o2).take m) ((lB'.drop o2).take m):=(b4.drop o2).take m;generalize hvs':(lB'.drop o2).take m=vs' at hvsR;have hvl:vs'.length=m:=by rw[<-hvs'];simp;omega
        have hal:arr.size=d+l'.length+spare.length:=by
         have:=congrArg List.length a2;simp at this;omega
        have hget: ∀j v,l'[j]? =some v->w.cell? ⟨b,d+0+j,none⟩=some v:=fun j v hj=>by
         simp only[World.cell?,a1];have hj':=(List.getElem?_eq_some_iff.1 hj).1;rw[<-Array.getElem?_toList,a2,zW (by omega),show d+0+j - pre.length=j from by omega,zT hj'];simpa using hj
        have hvs: ∀j v,vs'[j]? =some v->w.cell? ⟨b2,d2+o2+j,none⟩=some v:=fun j v hj=>by
         simp only[World.cell?,b1];have hj':=(List.getElem?_eq_some_iff.1 hj).1;rw[<-hvs',List.getElem?_take,qC]at hj;rw[<-Array.getElem?_toList,b2',zW (by omega),show d2+o2+j - pre2.length=o2+j from by omega,List.append_nil];split at hj
         ·simpa using hj
         ·simp at hj
        have h1c: ∀v∈l',v.oneCell'=true:=fun v hv=>JF (xX a4 hcl v hv)
        have h1v: ∀v∈vs',v.oneCell'=true:=fun v hv=>JF (xX hvsR hcn v hv)
        have hcells:VRL R (l.take i++(lB.drop o2).take m++l.drop i) (l'.take i++vs'++l'.drop i):=((a4.take i).append hvsR).append (a4.drop i);by_cases hroom:len+m<=c
        ·have hcall:=Any2.slices_Insert_string_shift Tryz.laysInsert b (d+0) len c i b2 (d2+o2) m (xE c2 c2') l' vs' w hi hm hroom (by omega) hne (by omega) hvl hget
          (fun j hj=>by
           simp only[World.cell?,a1];simp;omega)
          (fun j hj=>by
           have:=a7 (by decide) (d+0+j) (by omega);simp only[World.frozen?,a1];simp only[Bool.and_eq_false_iff,decide_eq_false_iff_not];by_cases h0:fz.1<=d+0+j
           ·exact .inr fun h1=>this ⟨h0,h1⟩
           ·exact .inl h0)
          hvs h1c h1v eB (Tryz.laysInsert_ren.t 9) arr2.size arr.size (by simp only[World.shape?,b1]) (by simp only[World.shape?,a1]) (by omega) (by simp only[World.frozen?,b1];simp) (by simp only[World.frozen?,b1];simp)
         have hw1:(w.drew).heap[b]? =some (.cells arr (Tryz.laysInsert_ren.t 9) fz):=a1;have hblt:b<w.heap.size:=(hL.lt _ _ _ _ hR).1;rw[kT b _ fz _ _ _ _ hw1,kT b _ fz _ _ _ _ (xL w.drew _ _ hblt),fU]at hcall;refine⟨_,_,R.add H.next b d c,hcall,⟨b,d,c,R.add_self _ _ _ _,by simp[hdec]⟩, ?_, ?_⟩
         ·refine(hL.drew (w.drawn+1)).move hR (Rel.live hA) ht1 ht2 ?_;refine⟨_,fz,pre,l'.take i++vs'++l'.drop i,spare.drop m,rfl, ?_,a3,VRL.mono (R.sub_add _ _ _ _) _ _ hcells,fun h=>by simp at h,fun _=>⟨?_,hc63⟩,fun hz j hj=> ?_,_,VRL.mono (R.sub_add _ _ _ _) _ _ (a8.drop m)⟩
          ·rw[jR _ _ _ (by rw[wK];omega),jR _ _ _ (by simp;omega),a2,Nat.add_zero];exact zMF a3 (by omega) (by omega) hvl (by omega)
          ·simp;omega
          ·rw[wK,wK]at hj;exact a7 hz j hj
         ·exact(Ext.drew R H w (w.drawn+1)).trans (Ext.move (w:=w.drew) hR ht1 ht2)
        ·have hcall:=Any2.slices_Insert_string_grow Tryz.laysInsert b (d+0) len c i b2 (d2+o2) m (xE c2 c2') l' vs' w hi hm (by omega) (by omega) hbig (by omega) hvl hget hvs h1c h1v;generalize hG:grownCap w (len+m) c (Tryz.laysInsert_ren.t 9)=G at hcall;have hG1:len+m<=G:=by rw[<-hG];simp only[grownCap,Question.cut];omega
         have hG2:G<9223372036854775808:=by
          rw[<-hG];simp only[grownCap,Question.cut];have:=Nat.mod_lt (w.tape w.drawn (.appendCap (len+m) c (Tryz.laysInsert_ren.t 9))) (show 2 ^ 63 - (len+m)>0 by omega);omega
         generalize hROW:((l'.take i).toArray++Builtin.zeroCells (Value.string ⟨#[]⟩).cells (len+m - i)++Builtin.zeroCells (Value.string ⟨#[]⟩).cells (G - (len+m)))=ROW at hcall;have hRl:ROW.toList=l'.take i++(Builtin.zeroCells (Value.string ⟨#[]⟩).cells (len+m - i)).toList++(Builtin.zeroCells (Value.string ⟨#[]⟩).cells (G - (len+m))).toList:=by rw[<-hROW];simp
         have hz1:(Builtin.zeroCells (Value.string ⟨#[]⟩).cells (len+m - i)).toList.length=m+(len - i):=by
          rw[Array.length_toList,wL];simp[Value.cells];omega
         have hz2:(Builtin.zeroCells (Value.string ⟨#[]⟩).cells (G - (len+m))).toList.length=G - (len+m):=by
          rw[Array.length_toList,wL];simp[Value.cells]
         have hRs:ROW.size=G:=by
          have:=congrArg List.length hRl;simp only[zI,hz1,hz2,zH,Array.length_toList]at this;omega
         have hw1:((w.alloc (.cells ROW (Tryz.laysInsert_ren.t 9))).drew).heap[w.heap.size]? =some (.cells ROW (Tryz.laysInsert_ren.t 9)):=xT w _;have hblt:w.heap.size< ((w.alloc (.cells ROW (Tryz.laysInsert_ren.t 9))).drew).heap.size:=by
          have:=yM w (.cells ROW (Tryz.laysInsert_ren.t 9));show w.heap.size< (w.alloc (.cells ROW (Tryz.laysInsert_ren.t 9))).heap.size;omega
         rw[kT _ _ (0,0) _ _ _ _ hw1]at hcall;have hw2:((wF (w.alloc (.cells ROW (Tryz.laysInsert_ren.t 9))).drew w.heap.size (.cells (jN ROW i vs') (Tryz.laysInsert_ren.t 9))).drew).heap[w.heap.size]? =some (.cells (jN ROW i vs') (Tryz.laysInsert_ren.t 9)):=xL _ _ _ hblt;rw[kT _ _ (0,0) _ _ _ _ hw2]at hcall;have hwe:wF ((wF (w.alloc (.cells ROW (Tryz.laysInsert_ren.t 9))).drew w.heap.size (.cells (jN ROW i vs') (Tryz.laysInsert_ren.t 9))).drew) w.heap.size (.cells (jN (jN ROW i vs') (i+m) (l'.drop i)) (Tryz.laysInsert_ren.t 9))
           =(w.drew.drew).alloc (.cells (jN (jN ROW i vs') (i+m) (l'.drop i)) (Tryz.laysInsert_ren.t 9)):=by
          have e1:(wF (w.alloc (.cells ROW (Tryz.laysInsert_ren.t 9))).drew w.heap.size (.cells (jN ROW i vs') (Tryz.laysInsert_ren.t 9))).drew=wF ((w.drew.drew).alloc (.cells ROW (Tryz.laysInsert_ren.t 9))) w.heap.size (.cells (jN ROW i vs') (Tryz.laysInsert_ren.t 9)):=rfl;rw[e1,fU];exact zC9 (w.drew.drew) _ _
         rw[hwe]at hcall;refine⟨_,_,R.add H.next w.heap.size 0 G,hcall,⟨w.heap.size,0,G,R.add_self _ _ _ _,by rw[k9 G (by omega)];simp⟩, ?_, ?_⟩
         ·have hk:Rel R ⟨t1,H.next⟩ w.drew.drew:=(hL.kill ht1).drew _
          refine hk.new ht2 ?_;refine⟨_,(0,0),[],l'.take i++vs'++l'.drop i,(Builtin.zeroCells (Value.string ⟨#[]⟩).cells (G - (len+m))).toList,rfl, ?_,rfl,VRL.mono (R.sub_add _ _ _ _) _ _ hcells,fun h=>by simp at h,fun _=>⟨?_,hG2⟩,fun _ j _=>by simp,_,uQ (JG _ (.string ⟨#[]⟩) (.str 0 0) rfl) _⟩
          ·rw[jR _ _ _ (by rw[wK];simp;omega),jR _ _ _ (by omega),hRl,List.nil_append];exact growL (by simp;omega) hz1 hvl (by simp;omega)
          ·rw[hz2];simp;omega
         ·exact(Ext.kill hR ht1).trans ((Ext.drew R ⟨t1,H.next⟩ w (w.drawn+2)).trans (Ext.add (w:=w.drew.drew) ht2))
       ·simp at h
      ·simp at h
     ·simp at h
    ·simp at h
   ·simp at h
  ·simp at h
 ·simp at h
noncomputable def zLj (m:List AV->AH->Option (AV×AH))(vs:List AV)(H:AH):Option (AV×AH):=match m vs H with
 | some r=>some r
 | none=>zMj (Tryz.laysInsert_ren.t 9) vs H
theorem zLi {f:FuncId}{m:List AV->AH->Option (AV×AH)}(hf:f= Tryz.laysInsert_ren.f 22)(hm:FI f m):FI f (zLj m):=by
 intro az H v H' h;unfold zLj at h;split at h
 ·rename_i r hr;injection h with h;subst h
  exact hm az H v H' hr
 ·have hnx:H.next<=H'.next:=by
   unfold zMj at h;split at h
   ·split at h
    ·rw[cond_eq_ite]at h;split at h
     ·split at h
      ·rw[cond_eq_ite]at h;split at h
       ·split at h
        ·rename_i H1 hput;have e1:=jT hput;unfold cK at h;split at h
         ·rename_i A2 H2 hnw;obtain⟨t2,ht2,rfl,rfl,_⟩:=u6 hnw;simp only[yE,z7,zD]at h;rw[<-h.2];show H.next<=H1.next+1
          omega
         ·simp at h
        ·simp at h
       ·simp at h
      ·simp at h
     ·simp at h
    ·simp at h
   ·simp at h
  subst hf;refine⟨hnx,⟨_, Tryz.laysInsert.f22,rfl⟩,fun R zs cs w hv hL=> ?_⟩;obtain⟨_,z,w',R',hc,h1,h2,h3⟩:=zLh h hv hL;obtain⟨e,w1,fr',⟨rfl,rfl⟩,s1,s2,s3⟩:=hc cs;exact⟨R',w1,z,fr',s1,s2,s3,h1,h2,h3⟩
noncomputable def clnK (m:List AV->AH->Option (AV×AH))(vs:List AV)(H:AH):Option (AV×AH):=match vs with
 | [.map M]=>match H.h.get M with
  | some (.map ks es)=>match T.get H.h H.next with
   | none=>match T.set 40 H.h H.next (.map ks es)with
    | some t=>fN (Nat.succ H.next) fun k=>some (.map H.next,⟨t,k⟩)
    | none=>none
   | some _=>none
  | _=>none
 | vs=>m vs H
theorem zLV {f:FuncId}{m:List AV->AH->Option (AV×AH)}(hf: ∃fn,PP.funcs[f]? =some fn/\fn.body.isSome=true)
  (hc: ∀(b:Nat) (es:Array MapEntry) (clock:Nat) (w:World),w.heap[b]? =some (.map es clock)->Calls PP f #[.map (some b)] w fun e w'=>e= .returned (.map (some w.heap.size))/\w'=w.alloc (.map es clock))
  (hm:FI f m):FI f (clnK m):=by
 intro az H v H' h;unfold clnK at h;split at h
 ·rename_i M;split at h
  ·rename_i ks es hM;split at h
   ·split at h
    ·rename_i t ht;rw[yE]at h;simp only[z7,zD]at h;obtain⟨rfl,rfl⟩:=h;refine⟨Nat.le_succ _,hf,fun R zs cs w hv hL=> ?_⟩;obtain⟨z,zs',rfl,hz,hn⟩:=hv;simp only[VRL]at hn;subst hn;obtain⟨b,d,c,hR,rfl⟩:=hz;obtain⟨arr,clock,hb,h1,h2,h3,h4⟩:=hL.mapAt hM hR;obtain⟨e,w1,fr',⟨rfl,rfl⟩,s1,s2,s3⟩:=hc b arr clock w hb cs;refine⟨R.add H.next w.heap.size 0 0,_,_,fr',s1,s2,s3,⟨w.heap.size,0,0,R.add_self _ _ _ _,rfl⟩, ?_, ?_⟩
     ·exact hL.new ht ⟨arr,clock,rfl,h1.mono (R.sub_add _ _ _ _),h2,h3,h4⟩
     ·exact Ext.add ht
    ·simp at h
   ·simp at h
  ·simp at h
 ·exact hm _ _ _ _ h
def cellAV (N:Nat):Value->AV
 | .bool b=> .bool b
 | .int k n=> .int k n
 | .string s=> .str s.size (pack s.data.toList)
 | .slice none 0 0=> .nilSlice
 | .slice (some ⟨b,o,none⟩) len cap=>bif Nat.blt b N then .slice b o len (2*cap)else .val (.slice (some ⟨b,o,none⟩) len cap)
 | v=> .val v
def bJ (N:Nat):Value->AV
 | .slice (some _) 0 0=> .emptySl
 | v=>cellAV N v
def argAV (N:Nat):Value->AV
 | .agg a=> .agg (a.toList.map (bJ N))
 | v=>bJ N v
def cOf:Option Obj->Nat
 | some (.cells _ _ fz)=>enc fz
 | _=>0
def RId (w:World):Ren:=fun A b d c=>A=b/\b<w.heap.size/\d=0/\c=cOf w.heap[b]?
theorem UZ (w:World)(v:Value):VR (RId w) (cellAV w.heap.size v) v:=by
 unfold cellAV;split
 ·rfl
 ·rfl
 ·exact⟨_,rfl,rfl,rfl⟩
 ·rfl
 ·rename_i b o len cap;rw[cond_eq_ite];split
  ·rename_i h;exact⟨b,0,_,⟨rfl,by simpa using h,rfl,rfl⟩,by simp[xE,Nat.mul_mod_right]⟩
  ·rfl
 ·rfl
theorem K2 (w:World): ∀l:List Value,VRL (RId w) (l.map (cellAV w.heap.size)) l
 | []=>rfl
 | v::l=>⟨v,l,rfl,UZ w v,K2 w l⟩
theorem K8 (w:World)(v:Value):VR (RId w) (bJ w.heap.size v) v:=by
 unfold bJ;split
 ·exact⟨_,_,rfl⟩
 ·exact UZ w _
theorem YE (w:World): ∀l:List Value,VRL (RId w) (l.map (bJ w.heap.size)) l
 | []=>rfl
 | v::l=>⟨v,l,rfl,K8 w v,YE w l⟩
theorem zJa (w:World)(v:Value):VR (RId w) (argAV w.heap.size v) v:=by
 unfold argAV;split
 ·rename_i a;exact⟨a.toList,by simp,YE w a.toList⟩
 ·exact K8 w _
theorem BF (w:World): ∀l:List Value,VRL (RId w) (l.map (argAV w.heap.size)) l
 | []=>rfl
 | v::l=>⟨v,l,rfl,zJa w v,BF w l⟩
theorem zAt {w:World}{R:Ren}(hs:Sub (RId w) R)(hf: ∀A b d c b' d' c',R A b d c->R A b' d' c'->b=b'/\d=d'/\c=c'){v v':Value}(h:VR R (cellAV w.heap.size v) v'):v'=v:=by
 unfold cellAV at h;split at h
 ·exact h
 ·exact h
 ·rename_i s;obtain⟨s',rfl,h1,h2⟩:=h;have:s'.data.toList=s.data.toList:=dI _ _ (by rw[size_data,size_data,h1]) h2;congr 1
  cases s;cases s';simp only at this;congr 1
  exact Array.toList_inj.1 this
 ·exact h
 ·rename_i b o len cap;rw[cond_eq_ite]at h;split at h
  ·rename_i hb;obtain⟨b',d,c,hr,rfl⟩:=h;obtain⟨rfl,rfl,rfl⟩:=hf _ _ _ _ _ _ _ hr (hs b b 0 _ ⟨rfl,by simpa using hb,rfl,rfl⟩);simp[xE,Nat.mul_mod_right]
  ·exact h
 ·exact h
theorem Z1 {w:World}{R:Ren}(hs:Sub (RId w) R)(hf: ∀A b d c b' d' c',R A b d c->R A b' d' c'->b=b'/\d=d'/\c=c'): ∀ {l l':List Value},VRL R (l.map (cellAV w.heap.size)) l'->l'=l
 | [],_,h=>h
 | v::l,_,h=>by
  obtain⟨x',l',rfl,h1,h2⟩:=h;rw[zAt hs hf h1,Z1 hs hf h2]
def zI5 (N:Nat):Obj->AObj
 | .cells arr e _=> .cells (arr.toList.map (cellAV N)) e 0 false
 | x=> .raw x
theorem QL {α:Type} : ∀(xs:List α) (i:Nat) (t:T α),(T.ofList i xs t).isSome=true
 | [],_,_=>rfl
 | x::xs,i,t=>by
  obtain⟨t',ht⟩:=Option.isSome_iff_exists.1 (T.set_some 40 t i x);simp only[T.ofList,ht];exact QL xs _ _
noncomputable def H0 (w:World):AH:=⟨(T.ofList 0 (w.heap.toList.map (zI5 w.heap.size)) .leaf).getD .leaf,w.heap.size⟩
theorem zC3 (w:World)(A:Nat):(H0 w).h.get A=w.heap[A]?.map (zI5 w.heap.size):=by
 obtain⟨t,ht⟩:=Option.isSome_iff_exists.1 (QL (w.heap.toList.map (zI5 w.heap.size)) 0 .leaf);simp only[H0,ht,Option.getD_some];rw[T.get_ofList _ _ _ _ ht];simp only[Nat.zero_le,true_and,Nat.zero_add,qG,Array.length_toList,Nat.sub_zero];split
 ·simp
 ·rename_i h;rw[T.get_leaf,Array.getElem?_eq_none (by omega)];rfl
theorem H0_ok (w:World): ∀A,(H0 w).next<=A->(H0 w).h.get A=none:=fun A h=>by
 rw[zC3,Array.getElem?_eq_none (by exact h)];rfl
theorem zJm (w:World){b:Nat}{arr:Array Value}{e:TypeId}{fz:Nat×Nat}(h:w.heap[b]? =some (.cells arr e fz)):(H0 w).h.get b=some (.cells (arr.toList.map (cellAV w.heap.size)) e 0 false):=by
 rw[zC3,h];rfl
theorem zOz (w:World):Rel (RId w) (H0 w) w:=by
 refine⟨?_, ?_, ?_, ?_⟩
 ·rintro A b d c b' d' c' ⟨rfl,_,rfl,rfl⟩ ⟨rfl,_,rfl,rfl⟩;exact⟨rfl,rfl,rfl⟩
 ·rintro A A' b d c d' c' ⟨rfl,_,rfl,rfl⟩ ⟨rfl,_,rfl,rfl⟩ _ _;rfl
 ·rintro A b d c o ⟨rfl,_,rfl,rfl⟩ ho
  rw[zC3]at ho;obtain⟨x,hx,rfl⟩:=Option.map_eq_some_iff.1 ho;rw[hx];unfold zI5;split
  ·rename_i arr e fz;exact⟨arr,fz,[],arr.toList,[],rfl,by simp,rfl,K2 _ _,fun _=>⟨rfl,fun h=>absurd h (Nat.lt_irrefl 0),fun _=>rfl⟩,fun h=>by simp at h,fun h=>absurd h (Nat.lt_irrefl 0),[],rfl⟩
  ·rfl
 ·rintro A b d c ⟨rfl,h,rfl,rfl⟩;exact⟨h,h⟩
theorem calls_param {f:FuncId}{m:List AV->AH->Option (AV×AH)}(hm:FI f m)(w:World){args:Array Value}{H':AH}
  (h:m (args.toList.map (argAV w.heap.size)) (H0 w)=some (.bool true,H')) (hk: ∀A,A<w.heap.size->H'.h.get A=(H0 w).h.get A):
  Calls PP f args w fun e w'=>e= .returned (.bool true)/\RowKit.Below w.heap.size w w':=by
 intro cs;obtain⟨_,_,hc⟩:=hm _ _ _ _ h;obtain⟨R',w',z,fr',h1,h2,h3,h4,h5,h6⟩:=hc (RId w) args.toList cs w (BF _ _) (zOz w);simp only[VR]at h4;subst h4;refine⟨.returned (.bool true),w',fr',⟨rfl, ?_⟩,h1,h2,h3⟩;refine⟨h6.os,h6.tape,h6.output,h6.size,fun k hlt=> ?_⟩;have hr:=h6.sub k k 0 _ ⟨rfl,hlt,rfl,rfl⟩;have hx:w.heap[k]? =some w.heap[k]:=Array.getElem?_eq_getElem hlt;have hg:=hk k hlt;rw[zC3,hx]at hg;have ho:=h5.obj _ _ _ _ _ hr hg;rw[hx]at ho⊢;generalize w.heap[k]=x at ho
 cases x with
 | cells arr e fz=>
  obtain⟨arr',fz',pre,l',spare,k1,k2,k3,k4,k5,_⟩:=ho;obtain⟨rfl,_,k6⟩:=k5 rfl;have hl:=Z1 h6.sub h5.fn k4;have hp:pre=[]:=zG k3;subst hp;subst hl;have ha:arr'=arr:=Array.toList_inj.1 (by simpa using k2);have hf:fz'=fz:=(zLN (k6 rfl)).symm;rw[k1,ha,hf]
 | _=>exact ho
noncomputable def cloK (m:List AV->AH->Option (AV×AH))(vs:List AV)(H:AH):Option (AV×AH):=match vs with
 | []=>some (.bool true,H)
 | vs=>m vs H
theorem Rel.below {R:Ren}{H:AH}{w w':World}(h:Rel R H w)(hb:RowKit.Below w.heap.size w w'):Rel R H w':=
 ⟨h.fn,h.inj,fun A b d c o r ho=>by rw[hb.block b (h.lt _ _ _ _ r).1];exact h.obj A b d c o r ho,fun A b d c r=>⟨zV (h.lt _ _ _ _ r).1 hb.size,(h.lt _ _ _ _ r).2⟩⟩
theorem zLU {f:FuncId}{m:List AV->AH->Option (AV×AH)}(hf: ∃fn,PP.funcs[f]? =some fn/\fn.body.isSome=true)
  (hc: ∀w:World,Calls PP f #[] w fun e w'=>e= .returned (.bool true)/\RowKit.Below w.heap.size w w') (hm:FI f m):FI f (cloK m):=by
 intro az H v H' h;unfold cloK at h;split at h
 ·simp only[z7,zD]at h;obtain⟨rfl,rfl⟩:=h;refine⟨Nat.le_refl _,hf,fun R zs cs w hv hL=> ?_⟩;simp only[VRL]at hv;subst hv;obtain⟨e,w1,fr',⟨rfl,hb⟩,s1,s2,s3⟩:=hc w cs;refine⟨R,w1, .bool true,fr',s1,s2,s3,rfl,hL.below hb, ?_⟩;exact⟨Sub.refl R,fun _ _ _ _ h=> .inl h,fun _ _ _ _ h=> .inl h,Nat.le_refl _,fun _ _ _=>rfl,hb.os,hb.tape,hb.output,hb.size,fun b hb' _=>hb.block b hb'⟩
 ·exact hm _ _ _ _ h
def Fin (x:Rs)(Q:Ex->AH->Prop):Prop:= ∃e H,x=some (e,H)/\Q e H
def Ret (x:Option (AV×AH))(Q:AV->AH->Prop):Prop:= ∃v H,x=some (v,H)/\Q v H
theorem Ret.pure {v:AV}{H:AH}{Q:AV->AH->Prop}(h:Q v H):Ret (some (v,H)) Q:=⟨v,H,rfl,h⟩
def orN (P:List AV->AH->Prop)(Q:Ex->AH->Prop):Ex->AH->Prop
 | .norm vs,H=>P vs H
 | .exit i vs,H=>Q (.exit i vs) H
 | .ret v,H=>Q (.ret v) H
theorem Fin.jn {x:Rs}{P:List AV->AH->Prop}{K:List AV->AH->Rs}{Q:Ex->AH->Prop}(hx:Fin x (orN P Q))(h: ∀vs H,P vs H->Fin (K vs H) Q):Fin (jn x K) Q:=by
 obtain⟨e,H,rfl,hp⟩:=hx
 cases e with
 | norm vs=>exact h vs H hp
 | exit i vs=>exact⟨_,_,rfl,hp⟩
 | ret v=>exact⟨_,_,rfl,hp⟩
theorem Fin.loop {b:List AV->AH->Rs}{Q:Ex->AH->Prop}(I:Nat->List AV->AH->Prop)
  (step: ∀k vs H,I k vs H->Fin (b vs H) (orN (fun vs' H'=> ∃k',k'<k/\I k' vs' H') Q)):
  ∀(n k:Nat) (vs:List AV) (H:AH),I k vs H->k<n->Fin (qW n b vs H) Q:=by
 intro n
 induction n with
 | zero=>intro k vs H _ h;omega
 | succ n ih=>
  intro k vs H hI hk;refine Fin.jn (step k vs H hI) ?_
  rintro vs' H' ⟨k',hk',hI'⟩
  exact ih k' vs' H' hI' (by omega)
theorem zCJ (b:Bool)(x y:Rs):cnd (.bool b) x y=if b then x else y:=by cases b<;>rfl
theorem zMr (b want:Bool)(x y:Rs):wnt (.bool b) want x y=if b=want then x else y:=by cases b<;>cases want<;>rfl
theorem bVs (v:AV)(K:AV->Rs):bV (some v) K=K v:=rfl
theorem bRs (v:AV)(H:AH)(K:AV->AH->Rs):bR (some (v,H)) K=K v H:=rfl
theorem fH (v:AV)(vs:List AV)(K:AV->List AV->Rs):hd (v::vs) K=K v vs:=rfl
theorem zEC (K:Rs):nl [] K=K:=rfl
theorem WM (vs:List AV)(H:AH)(K:List AV->AH->Rs):jn (some (.norm vs,H)) K=K vs H:=rfl
theorem zNc (v:AV)(H:AH)(K:List AV->AH->Rs):jn (some (.ret v,H)) K=some (.ret v,H):=rfl
theorem zLd (i:Nat)(vs:List AV)(H:AH)(K:List AV->AH->Rs):jn (some (.exit i vs,H)) K=some (.exit i vs,H):=rfl
theorem zLe (id:Nat)(vs:List AV)(H:AH)(K:List AV->AH->Rs):jb id (some (.norm vs,H)) K=K vs H:=rfl
theorem zNh (id:Nat)(v:AV)(H:AH)(K:List AV->AH->Rs):jb id (some (.ret v,H)) K=some (.ret v,H):=rfl
theorem zB8 (v:AV)(H:AH):yR (some (.ret v,H))=some (v,H):=rfl
theorem zNf (c:Prop)[Decidable c](x y:Rs)(K:List AV->AH->Rs):jn (if c then x else y) K=if c then jn x K else jn y K:=by split<;>rfl
theorem zI2 (c:Prop)[Decidable c](x y:Rs):yR (if c then x else y)=if c then yR x else yR y:=by split<;>rfl
theorem zMV (b:Bool)(x y:Option AV):pk3 (some (.bool b)) x y=if b then x else y:=by cases b<;>rfl
def AH.ok (H:AH):Prop:= ∀A,H.next<=A->H.h.get A=none
noncomputable def AH.push (H:AH)(o:AObj):AH:=⟨(T.set 40 H.h H.next o).getD .leaf,H.next+1⟩
noncomputable def AH.put (H:AH)(A:Nat)(o:AObj):AH:=⟨(T.set 40 H.h A o).getD .leaf,H.next⟩
theorem AH.push_next (H:AH)(o:AObj):(H.push o).next=H.next+1:=rfl
theorem AH.put_next (H:AH)(A:Nat)(o:AObj):(H.put A o).next=H.next:=rfl
theorem AH.push_get (H:AH)(o:AObj)(A:Nat):(H.push o).h.get A=if A=H.next then some o else H.h.get A:=by
 obtain⟨t,ht⟩:=Option.isSome_iff_exists.1 (T.set_some 40 H.h H.next o)
 simp only[AH.push,ht,Option.getD_some];exact T.get_set _ _ _ _ _ ht A
theorem AH.put_get (H:AH)(B:Nat)(o:AObj)(A:Nat):(H.put B o).h.get A=if A=B then some o else H.h.get A:=by
 obtain⟨t,ht⟩:=Option.isSome_iff_exists.1 (T.set_some 40 H.h B o);simp only[AH.put,ht,Option.getD_some];exact T.get_set _ _ _ _ _ ht A
theorem AH.push_get_eq (H:AH)(o:AObj):(H.push o).h.get H.next=some o:=by rw[AH.push_get,if_pos rfl]
theorem AH.push_get_ne (H:AH)(o:AObj){A:Nat}(h:A<H.next):(H.push o).h.get A=H.h.get A:=by rw[AH.push_get,if_neg (by omega)]
theorem AH.ok.push {H:AH}(h:H.ok)(o:AObj):(H.push o).ok:=fun A hA=>by
 rw[AH.push_next]at hA;rw[AH.push_get,if_neg (by omega)];exact h A (by omega)
theorem AH.ok.put {H:AH}(h:H.ok){A:Nat}(hA:A<H.next)(o:AObj):(H.put A o).ok:=fun B hB=>by
 rw[AH.put_next]at hB;rw[AH.put_get,if_neg (by omega)];exact h B hB
theorem AH.ok.lt {H:AH}(h:H.ok){A:Nat}{o:AObj}(hA:H.h.get A=some o):A<H.next:=by
 rcases Nat.lt_or_ge A H.next with h1 | h1
 ·exact h1
 ·rw[h A h1]at hA;cases hA
theorem zED {H:AH}(h:H.ok)(o:AObj)(K:Nat->AH->Rs):XO H o K=K H.next (H.push o):=by
 unfold XO;rw[h H.next (Nat.le_refl _)]
 obtain⟨t,ht⟩:=Option.isSome_iff_exists.1 (T.set_some 40 H.h H.next o)
 simp only[ht,yE,AH.push,Option.getD_some]
theorem yY (H:AH)(A:Nat)(o:AObj):u5 H A o=some (H.put A o):=by
 unfold u5;obtain⟨t,ht⟩:=Option.isSome_iff_exists.1 (T.set_some 40 H.h A o);simp only[ht,AH.put,Option.getD_some]
theorem QM {H:AH}(h:H.ok)(o:AObj):newA H o=some (H.next,H.push o):=by
 unfold newA zI8;rw[h H.next (Nat.le_refl _)]
 obtain⟨t,ht⟩:=Option.isSome_iff_exists.1 (T.set_some 40 H.h H.next o)
 simp only[ht,AH.push,Option.getD_some]
theorem vW {H:AH}(h:H.ok)(o:AObj)(mk:Nat->AV)(K:AV->AH->Rs):bA (some (o,mk)) H K=K (mk H.next) (H.push o):=by
 simp only[bA,zED h]
structure Stp (S:Nat->Prop)(H H':AH):Prop where
 ok:H'.ok
 next:H.next<=H'.next
 keep: ∀A,A<H.next-> ¬S A->H'.h.get A=H.h.get A
abbrev Prs (H H':AH):Prop:=Stp (fun _=>False) H H'
theorem Stp.refl {S:Nat->Prop}{H:AH}(h:H.ok):Stp S H H:=⟨h,Nat.le_refl _,fun _ _ _=>rfl⟩
theorem Stp.trans {S:Nat->Prop}{H H1 H2:AH}(h:Stp S H H1)(k:Stp S H1 H2):Stp S H H2:=
 ⟨k.ok,Nat.le_trans h.next k.next,fun A hA hS=>by rw[k.keep A (zV hA h.next) hS,h.keep A hA hS]⟩
theorem Stp.mono {S S':Nat->Prop}{H H1:AH}(h:Stp S H H1)(k: ∀A,A<H.next->S A->S' A):Stp S' H H1:=
 ⟨h.ok,h.next,fun A hA hS=>h.keep A hA (fun x=>hS (k A hA x))⟩
theorem Stp.fresh {S:Nat->Prop}{H0 H H1:AH}(h0:Prs H0 H)(h:Stp S H H1)(k: ∀A,S A->H0.next<=A):Prs H0 H1:=
 ⟨h.ok,Nat.le_trans h0.next h.next,fun A hA _=>by
  rw[h.keep A (zV hA h0.next) (fun x=>by have:=k A x;omega),h0.keep A hA (fun x=>x)]⟩
theorem Stp.push {S:Nat->Prop}{H0 H:AH}(h:Stp S H0 H)(o:AObj):Stp S H0 (H.push o):=
 ⟨h.ok.push o,by rw[AH.push_next];have:=h.next;omega,fun A hA hS=>by
  rw[AH.push_get_ne _ _ (zV hA h.next)];exact h.keep A hA hS⟩
theorem Stp.put {S:Nat->Prop}{H0 H:AH}(h:Stp S H0 H){A:Nat}(hA:A<H.next)(o:AObj)(hS:H0.next<=A\/S A):Stp S H0 (H.put A o):=
 ⟨h.ok.put hA o,h.next,fun B hB hSB=>by
  rw[AH.put_get,if_neg (fun e=>by subst e;rcases hS with h1 | h1;omega;exact hSB h1)];exact h.keep B hB hSB⟩
theorem Prs.get {H H':AH}(h:Prs H H'){A:Nat}{o:AObj}(hk:H.ok)(hA:H.h.get A=some o):H'.h.get A=some o:=by
 rw[h.keep A (hk.lt hA) (fun x=>x)];exact hA
theorem Prs.stp {S:Nat->Prop}{H H':AH}(h:Prs H H'):Stp S H H':=h.mono (fun _ _ x=>x.elim)
theorem wrap_i64 {z:Int}(h1: -9223372036854775808<=z)(h2:z<=9223372036854775807):IntKind.wrap .i64 z=z:=by
 apply wZ<;>simp[IntKind.signed,IntKind.min,IntKind.max,IntKind.bits]<;>omega
theorem wrap_u8 (z:Int):IntKind.wrap .u8 z=z % 256:=by simp[IntKind.wrap,IntKind.signed,IntKind.bits]
theorem wrap_u64 (z:Int):IntKind.wrap .u64 z=z % 18446744073709551616:=by simp[IntKind.wrap,IntKind.signed,IntKind.bits]
theorem ZP (k:IntKind)(a b:Int):qO .add (.int k a) (.int k b)=some (.int k (k.wrap (a+b))):=by simp[qO,uD,kQ,xP]
theorem zJ3 (k:IntKind)(a b:Int):qO .sub (.int k a) (.int k b)=some (.int k (k.wrap (a - b))):=by simp[qO,uD,kQ,xP]
theorem zJ6 (k:IntKind)(a b:Int):qO .mul (.int k a) (.int k b)=some (.int k (k.wrap (a*b))):=by simp[qO,uD,kQ,xP]
theorem XD (k:IntKind)(a b:Int)(h:b≠0):qO .quo (.int k a) (.int k b)=some (.int k (k.wrap (a.tdiv b))):=by
 have:(b==0)=false:=by simpa using h
 simp[qO,uD,kQ,xP,kR,this]
theorem zJ5 (k:IntKind)(a b:Int)(h:b≠0):qO .rem (.int k a) (.int k b)=some (.int k (a.tmod b)):=by
 have:(b==0)=false:=by simpa using h
 simp[qO,uD,kQ,zAj,kR,this]
theorem zJ7 (k:IntKind)(a b:Int):qO .eql (.int k a) (.int k b)=some (.bool (decide (a=b))):=by
 have h:keq k k=true:=by rw[kQ];simp
 simp only[qO,uD,h,cond_true,yU,kR,wY,z7,AV.bool.injEq];rw[Bool.eq_iff_iff];simp
theorem zBS (k:IntKind)(a b:Int):qO .neq (.int k a) (.int k b)=some (.bool (decide (a≠b))):=by
 have h:keq k k=true:=by rw[kQ];simp
 simp only[qO,uD,h,cond_true,yU,kR,wY,z7,AV.bool.injEq];rw[Bool.eq_iff_iff];simp
theorem cH (k:IntKind)(a b:Int):qO .lss (.int k a) (.int k b)=some (.bool (decide (a<b))):=by
 have h:keq k k=true:=by rw[kQ];simp
 simp only[qO,uD,h,cond_true,yU,kR,wY,z7,AV.bool.injEq]
theorem zBT (k:IntKind)(a b:Int):qO .leq (.int k a) (.int k b)=some (.bool (decide (a<=b))):=by
 have h:keq k k=true:=by rw[kQ];simp
 simp only[qO,uD,h,cond_true,yU,kR,wY,z7,AV.bool.injEq];rw[Bool.eq_iff_iff];simp
theorem zBU (k:IntKind)(a b:Int):qO .gtr (.int k a) (.int k b)=some (.bool (decide (b<a))):=by
 have h:keq k k=true:=by rw[kQ];simp
 simp only[qO,uD,h,cond_true,yU,kR,wY,z7,AV.bool.injEq]
theorem zBV (k:IntKind)(a b:Int):qO .geq (.int k a) (.int k b)=some (.bool (decide (b<=a))):=by
 have h:keq k k=true:=by rw[kQ];simp
 simp only[qO,uD,h,cond_true,yU,kR,wY,z7,AV.bool.injEq];rw[Bool.eq_iff_iff];simp
theorem WY (k k':IntKind)(z:Int):cvI k (.int k' z)=some (.int k (k.wrap z)):=by simp[cvI,xP]
theorem yK (k:IntKind){z:Int}(h:0<=z):aB (.int k z)=some z.toNat:=by
 cases z with
 | ofNat n=>rfl
 | negSucc n=>omega
theorem zGI (a b:Bool):XE .eql (.bool a) (.bool b)=some (.bool (a==b)):=by simp only[XE,yU]
theorem zGH (a b:Bool):XE .neq (.bool a) (.bool b)=some (.bool (!(a==b))):=by simp only[XE,yU]
theorem zM4 (b:Bool):aun .not (.bool b)=some (.bool !b):=by simp[aun,yU]
abbrev Str:=List UInt8
def S (l:Str):AV:= .str l.length (pack l)
theorem Z4 (l:Str):isCell (S l)=true:=rfl
def ltS (l m:Str):Bool:=Op.bytesLess l m
theorem yQ (l:Str):jO (S l)=some (.int .i64 (l.length:Nat)):=rfl
theorem S_eq (l m:Str):(Nat.beq l.length m.length&&Nat.beq (pack l) (pack m))=decide (l=m):=by
 rw[Bool.eq_iff_iff];simp only[z8,Nat.beq_eq,zF];exact⟨fun h=>dI l m h.1 h.2,fun h=>by subst h;exact⟨rfl,rfl⟩⟩
theorem jE (l m:Str):jW .eql (S l) (S m)=some (.bool (decide (l=m))):=by simp only[jW,S,XJ,yU,S_eq]
theorem jI (l m:Str):jW .neq (S l) (S m)=some (.bool (decide (l≠m))):=by simp only[jW,S,XJ,yU,S_eq];simp
theorem uB (l m:Str):jW .lss (S l) (S m)=some (.bool (ltS l m)):=by simp only[jW,S,XJ,yU,ZC,ltS]
theorem xF (l m:Str):jW .geq (S l) (S m)=some (.bool (!ltS l m)):=by simp only[jW,S,XJ,yU,ZC,ltS]
theorem bY (l m:Str)(h:l.length+m.length<4611686018427387904):jW .add (S l) (S m)=some (S (l++m)):=by
 have:Nat.blt (l.length+m.length) 4611686018427387904=true:=by rw[zM];exact h
 simp only[jW,S,XJ,this,cond_true,QO,zI,QI];rw[show(256:Nat) ^ l.length=2 ^ (8*l.length)from by rw[show(256:Nat)=2 ^ 8 from rfl,<-Nat.pow_mul]]
theorem zLg (l:Str)(k:IntKind){z:Int}(h0:0<=z)(h1:z.toNat<l.length):v8 (S l) (.int k z)=some (.int .u8 ((l[z.toNat].toNat:Nat):Int)):=by
 have hb:Nat.blt z.toNat l.length=true:=by rw[zM];exact h1
 simp only[v8,yK k h0,S,hb,cond_true,yE];rw[zB6 l _ h1,show(256:Nat) ^ z.toNat=2 ^ (8*z.toNat)from by rw[show(256:Nat)=2 ^ 8 from rfl,<-Nat.pow_mul]];rfl
theorem zJx (n:Nat):(2:Nat) ^ (8*n)=256 ^ n:=by rw[show(256:Nat)=2 ^ 8 from rfl,<-Nat.pow_mul]
theorem zGQ (l:Str)(lo hi:Option Nat)(h1:hi.getD l.length<=l.length)(h2:lo.getD 0<=hi.getD l.length):zGR l.length (pack l) lo hi=some (S ((l.drop (lo.getD 0)).take (hi.getD l.length - lo.getD 0))):=by
 have e1:Nat.ble (hi.getD l.length) l.length=true:=by rw[zR];exact h1
 have e2:Nat.ble (lo.getD 0) (hi.getD l.length)=true:=by rw[zR];exact h2
 simp only[zGR,e1,e2,Bool.and_self,cond_true,QO,S,zJx,<-QH,<-VK];rw[zH,zN,Nat.min_eq_left (by omega)]
theorem zHA (l:Str)(k:IntKind){z:Int}(h0:0<=z)(h1:z.toNat<=l.length):uV (S l) (some (.int k z)) none=some (S (l.drop z.toNat)):=by
 have:=zGQ l (some z.toNat) none (Nat.le_refl _) h1;simp only[uV,yO,yK k h0,S];rw[this];simp only[Option.getD_some,Option.getD_none,S];rw[zK (by simp)]
theorem ZD (l:Str)(k:IntKind){z:Int}(h0:0<=z)(h1:z.toNat<=l.length):uV (S l) none (some (.int k z))=some (S (l.take z.toNat)):=by
 have:=zGQ l none (some z.toNat) h1 (Nat.zero_le _);simp only[uV,yO,yK k h0,S];rw[this];simp[S]
theorem yD: ∀l:Str,ltS l l=false
 | []=>rfl
 | b::l=>by
  have:=yD l;simp only[ltS,Op.bytesLess]at this⊢;simp[this]
theorem yP: ∀ {a b c:Str},ltS a b=true->ltS b c=true->ltS a c=true
 | [],b,[],_,h=>by cases b<;>simp[ltS,Op.bytesLess]at h
 | [],_,_::_,_,_=>rfl
 | _::_,[],_,h,_=>by simp[ltS,Op.bytesLess]at h
 | _::_,_::_,[],_,h=>by simp[ltS,Op.bytesLess]at h
 | a::l,b::m,c::n,h,k=>by
  have ih:= @yP l m n;simp only[ltS,Op.bytesLess,Bool.or_eq_true,z8,zF,beq_iff_eq]at h k ih⊢;rcases h with h | ⟨rfl,h⟩
  ·rcases k with k | ⟨rfl,k⟩
   ·left;rw[UInt8.lt_iff_toNat_lt]at*;omega
   ·exact .inl h
  ·rcases k with k | ⟨rfl,k⟩
   ·exact .inl k
   ·exact .inr ⟨rfl,ih h k⟩
theorem bC: ∀ {a b:Str},ltS a b=false->ltS b a=false->a=b
 | [],[],_,_=>rfl
 | [],_::_,h,_=>by simp[ltS,Op.bytesLess]at h
 | _::_,[],_,h=>by simp[ltS,Op.bytesLess]at h
 | a::l,b::m,h,k=>by
  have ih:= @bC l m;simp only[ltS,Op.bytesLess,Bool.or_eq_false_iff,Bool.and_eq_false_iff,decide_eq_false_iff_not,beq_eq_false_iff_ne,ne_eq]at h k ih;have e:a=b:=by
   apply UInt8.toNat_inj.1;have h1:=h.1;have k1:=k.1;rw[UInt8.lt_iff_toNat_lt]at h1 k1;omega
  subst e;rw[ih (by simpa using h.2) (by simpa using k.2)]
theorem vT {a b:Str}(h:ltS a b=true):ltS b a=false:=by
 cases k:ltS b a with
 | false=>rfl
 | true=>have:=yP h k;rw[yD]at this;cases this
theorem uG {a b:Str}(h:ltS a b=true):a≠b:=fun e=>by subst e;rw[yD]at h;cases h
theorem zI0 (A o:Nat):wR (.ptr A o)=some (.ptr A o):=rfl
theorem zLo (f A o:Nat):fAd f (.ptr A o)=some (.ptr A (o+f)):=by simp[fAd,yE]
theorem QV {H:AH}{A o:Nat}{l:List AV}{e sz:Nat}{g:Bool}{v:AV}(h:H.h.get A=some (.cells l e sz g))(hv:l[o]? =some v):ld1 (.ptr A o) H=some v:=by
 simp only[ld1,h,dJ,hv]
theorem zAc {H:AH}{A o n:Nat}{l:List AV}{e sz:Nat}{g:Bool}(h:H.h.get A=some (.cells l e sz g))(hv:o+n<=l.length):ldN n (.ptr A o) H=some (.agg ((l.drop o).take n)):=by
 simp only[ldN,h,jJ _ _ _ (.inr hv)]
theorem vR {l new:List AV}{o:Nat}(h:o+new.length<=l.length):setAt l o new=some (l.take o++new++l.drop (o+new.length)):=by
 induction o generalizing l with
 | zero=>
  have: ∀(new l:List AV),new.length<=l.length->over l new=some (new++l.drop new.length):=by
   intro new
   induction new with
   | nil=>intro l _;cases l<;>rfl
   | cons y ys ih=>intro l hl;cases l with
    | nil=>simp at hl
    | cons x l=>simp only[zJ,Nat.add_le_add_iff_right]at hl;simp[over,ih l hl]
  have h2:=this new l (by omega)
  cases l with
  | nil=>simpa[setAt]using h2
  | cons=>simpa[setAt]using h2
 | succ o ih=>
  cases l with
  | nil=>simp at h
  | cons x l=>
   simp only[zJ]at h;simp only[setAt,ih (l:=l) (by omega)];simp[show o+1+new.length=o+new.length+1 from by omega]
theorem V5 {H:AH}{A o n:Nat}{l:List AV}{e sz:Nat}{g:Bool}{x:AV}(h:H.h.get A=some (.cells l e sz g))(hz:0<sz)(hn:(qT x).length=n)(hc:qN (qT x)=true)(ho:o+n<=l.length):
  stN n (.ptr A o) x H=some (qM,H.put A (.cells (l.take o++qT x++l.drop (o+n)) e sz g)):=by
 subst hn;have hz':Nat.blt 0 sz=true:=by rw[zM];exact hz
 simp only[stN,h,yA,Nat.beq_refl,hc,hz',Bool.and_self,cond_true,vR ho,yY]
theorem Q7 {H:AH}{A o:Nat}{l:List AV}{e sz:Nat}{g:Bool}{x:AV}(h:H.h.get A=some (.cells l e sz g))(hz:0<sz)(hc:isCell x=true)(ho:o<l.length):
  stN 1 (.ptr A o) x H=some (qM,H.put A (.cells (l.set o x) e sz g)):=by
 have hx:qT x=[x]:=by cases x<;>first | rfl | (simp[isCell]at hc)
 rw[V5 h hz (by rw[hx];rfl) (by rw[hx];simp[qN,hc]) (by omega),hx,List.set_eq_take_append_cons_drop,if_pos ho];simp
theorem j5 {l:List AV} :qN l=true↔ ∀x∈l,isCell x=true:=by
 induction l with
 | nil=>simp[qN]
 | cons x l ih=>simp[qN,ih]
def Rw (k:Nat)(H:AH)(v:AV)(n:Nat)(l:List AV):Prop:=
 l.length=n*k/\((v= .nilSlice/\n=0)\/(v= .emptySl/\n=0)\/
  ∃A off cc c e sz g,v= .slice A off n cc/\H.h.get A=some (.cells c e sz g)/\A<H.next/\off+n*k<=c.length/\(c.drop off).take (n*k)=l)
theorem Rw.nil (k:Nat)(H:AH):Rw k H .nilSlice 0 []:=⟨by simp, .inl ⟨rfl,rfl⟩⟩
theorem Rw.lnSl {k n:Nat}{H:AH}{v:AV}{l:List AV}(h:Rw k H v n l):lnSl v=some (.int .i64 (n:Int)):=by
 obtain⟨_,⟨rfl,rfl⟩ | ⟨rfl,rfl⟩ | ⟨A,off,cc,c,e,sz,g,rfl,_⟩⟩:=h<;>rfl
theorem Rw.mono {k n:Nat}{S:Nat->Prop}{H H':AH}{v:AV}{l:List AV}(h:Rw k H v n l)(s:Stp S H H')(hS: ∀A off m cc,v= .slice A off m cc-> ¬S A):Rw k H' v n l:=by
 obtain⟨h0,h1 | h1 | ⟨A,off,cc,c,e,sz,g,rfl,hA,hlt,hle,hl⟩⟩:=h
 ·exact⟨h0, .inl h1⟩
 ·exact⟨h0, .inr (.inl h1)⟩
 ·exact⟨h0, .inr (.inr ⟨A,off,cc,c,e,sz,g,rfl,by rw[s.keep A hlt (hS _ _ _ _ rfl)];exact hA,zV hlt s.next,hle,hl⟩)⟩
theorem Rw.prs {k n:Nat}{H H':AH}{v:AV}{l:List AV}(h:Rw k H v n l)(s:Prs H H'):Rw k H' v n l:=h.mono s (fun _ _ _ _ _ x=>x)
theorem Rw.at {k n:Nat}{H:AH}{v:AV}{l:List AV}(h:Rw k H v n l){i:Nat}(hi:i<n):
  ∃A o c e sz g,(∀κ (z:Int),z=(i:Int)->jL k v (.int κ z)=some (.ptr A o))/\H.h.get A=some (.cells c e sz g)/\A<H.next/\o+k<=c.length/\(c.drop o).take k=(l.drop (i*k)).take k:=by
 obtain⟨h0,⟨_,rfl⟩ | ⟨_,rfl⟩ | ⟨A,off,cc,c,e,sz,g,rfl,hA,hlt,hle,hl⟩⟩:=h
 ·omega
 ·omega
 ·have hik:i*k+k<=n*k:=by rw[<-Nat.succ_mul];exact q6 _ hi
  refine⟨A,off+i*k,c,e,sz,g,fun κ z hz=> ?_,hA,hlt,by omega, ?_⟩
  ·have hb:Nat.blt i n=true:=by rw[zM];exact hi
   subst hz;simp only[jL,yK κ (show(0:Int)<=(i:Int)by omega),zS,hb,cond_true,yE]
  ·rw[<-hl,List.drop_take,List.take_take,List.drop_drop,Nat.min_eq_left (by omega)]
theorem Rw.ld1 {n:Nat}{H:AH}{v:AV}{l:List AV}(h:Rw 1 H v n l){i:Nat}(hi:i<n):
  ∃p x,(∀κ (z:Int),z=(i:Int)->jL 1 v (.int κ z)=some p)/\Eng.ld1 p H=some x/\l[i]? =some x:=by
 obtain⟨A,o,c,e,sz,g,h1,h2,h3,h4,h5⟩:=h.at hi;have hl:l.length=n:=by have:=h.1;omega
 have hlt:i<l.length:=by omega
 refine⟨_,l[i],h1,QV h2 ?_,zB hlt⟩;have e1:((c.drop o).take 1)[0]? =((l.drop (i*1)).take 1)[0]? :=by rw[h5]
 rw[qF (by omega),qF (by omega),qC,qC]at e1;simpa[zB hlt]using e1
theorem Rw.ldN {k n:Nat}{H:AH}{v:AV}{l:List AV}(h:Rw k H v n l){i:Nat}(hi:i<n):
  ∃p,(∀κ (z:Int),z=(i:Int)->jL k v (.int κ z)=some p)/\Eng.ldN k p H=some (.agg ((l.drop (i*k)).take k)):=by
 obtain⟨A,o,c,e,sz,g,h1,h2,h3,h4,h5⟩:=h.at hi;exact⟨_,h1,by rw[zAc h2 h4,h5]⟩
theorem Rw.srcOf {k n:Nat}{H:AH}{v:AV}{l:List AV}(h:Rw k H v n l):Eng.srcOf k v H=some (n,l):=by
 obtain⟨h0,⟨rfl,rfl⟩ | ⟨rfl,rfl⟩ | ⟨A,off,cc,c,e,sz,g,rfl,hA,hlt,hle,hl⟩⟩:=h
 ·have:l=[]:=zG (by simpa using h0);subst this;rfl
 ·have:l=[]:=zG (by simpa using h0);subst this;rfl
 ·simp only[Eng.srcOf,hA,jJ _ _ _ (.inr hle),hl]
theorem ew:(∀ {α:Type} (h:Decidable True) (t e:α), @ite α True h t e=t)/\(∀ {α:Type} (h:Decidable False) (t e:α), @ite α False h t e=e)/\(∀h:Decidable True, @decide True h=true)/\(∀h:Decidable False, @decide False h=false)/\((!true)=false)/\((!false)=true)/\((false=true)=False)/\((true=false)=False)/\(∀b,(b&&true)=b)/\(∀b,(true&&b)=b)/\(∀b,(b&&false)=false)/\(∀b,(false&&b)=false)/\(∀b,(b||true)=true)/\(∀b,(true||b)=true)/\(∀b,(b||false)=b)/\(∀b,(false||b)=b):=by
 refine⟨fun h t e=>if_pos trivial,fun h t e=>if_neg id,fun h=>decide_eq_true trivial,fun h=>decide_eq_false id,rfl,rfl,by simp,by simp,by simp,by simp,by simp,by simp,by simp,by simp,by simp,by simp⟩
def Own (k e:Nat)(H:AH)(v:AV)(n:Nat)(l:List AV):Prop:=
 l.length=n*k/\((v= .nilSlice/\n=0)\/ ∃A,v= .slice A 0 n 1/\A<H.next/\H.h.get A=some (.cells l e k true))
def Blk (v:AV)(A:Nat):Prop:= ∃o n c,v= .slice A o n c
theorem Blk.slice {A o n c B:Nat} :Blk (.slice A o n c) B↔B=A:=⟨fun⟨_,_,_,h⟩=>by simp only[AV.slice.injEq]at h;exact h.1.symm,fun h=>⟨o,n,c,by rw[h]⟩⟩
theorem Blk.nil {B:Nat} :Blk .nilSlice B↔False:=⟨fun⟨_,_,_,h⟩=>by simp at h,fun h=>h.elim⟩
theorem Own.row {k e n:Nat}{H:AH}{v:AV}{l:List AV}(h:Own k e H v n l):Rw k H v n l:=by
 obtain⟨h0,⟨rfl,rfl⟩ | ⟨A,rfl,hA,hg⟩⟩:=h
 ·exact⟨h0, .inl ⟨rfl,rfl⟩⟩
 ·exact⟨h0, .inr (.inr ⟨A,0,1,l,e,k,true,rfl,hg,hA,by omega,by rw[List.drop_zero,zK (by omega)]⟩)⟩
theorem Own.nil (k e:Nat)(H:AH):Own k e H .nilSlice 0 []:=⟨by simp, .inl ⟨rfl,rfl⟩⟩
theorem Own.mono {k e n:Nat}{S:Nat->Prop}{H H':AH}{v:AV}{l:List AV}(h:Own k e H v n l)(s:Stp S H H')(hS: ∀A,Blk v A-> ¬S A):Own k e H' v n l:=by
 obtain⟨h0,h1 | ⟨A,rfl,hA,hg⟩⟩:=h
 ·exact⟨h0, .inl h1⟩
 ·exact⟨h0, .inr ⟨A,rfl,zV hA s.next,by rw[s.keep A hA (hS A (Blk.slice.2 rfl))];exact hg⟩⟩
theorem Rw.stp {k n:Nat}{S:Nat->Prop}{H H':AH}{v:AV}{l:List AV}(h:Rw k H v n l)(s:Stp S H H')(hS: ∀A,Blk v A-> ¬S A):Rw k H' v n l:=
 h.mono s (fun A o m c e=>hS A (by rw[e];exact Blk.slice.2 rfl))
theorem ZG {need bytes:Nat}(h1:need<=1000000000)(h2:bytes<=1000):roomy need bytes=true:=by
 unfold roomy;simp only[z8,zR,zM];refine⟨?_,by omega⟩
 calc (need+need / 4+192)*bytes<=(need+need / 4+192)*1000:=Nat.mul_le_mul_left _ h2
  _<=281474976710656:=by omega
theorem zBW {k e bytes n m:Nat}{H:AH}{v:AV}{l new:List AV}(hk:H.ok)(hpos:0<k)(h:Own k e H v n l)(hm:new.length=m*k)(hm1:1<=m)(hn:n+m<=1000000000)(hb:bytes<=1000):
  ∃H',app1 e k bytes m new v H=some (.slice H.next 0 (n+m) 1,H')/\Own k e H' (.slice H.next 0 (n+m) 1) (n+m) (l++new)/\Stp (Blk v) H H'/\H'.next=H.next+1:=by
 obtain⟨h0,⟨rfl,rfl⟩ | ⟨A,rfl,hA,hg⟩⟩:=h
 ·have hl:l=[]:=zG (by simpa using h0);subst hl;have hz:Nat.beq m 0=false:=by rw[Bool.eq_false_iff];intro e;rw[Nat.beq_eq]at e;omega
  refine⟨H.push (.cells new e k true), ?_,⟨?_, .inr ⟨H.next,rfl,Nat.lt_succ_self _,AH.push_get_eq _ _⟩⟩,(Stp.refl hk).push _,rfl⟩
  ·simp only[app1,show m.beq 0=false from hz,cond_false,wT,ZG (show m<=1000000000 by omega) hb,cond_true,cK,List.nil_append,QM hk,yE,Nat.zero_add]
  ·simp[hm]
 ·have hroom:yI l true k 0 1 k=n:=by
   simp only[yI,show((1 % 2).beq 0)=false from rfl,cond_false,Nat.beq_refl,show Nat.beq 0 (1 / 2*k)=true from by simp,Bool.and_self,cond_true,yA,h0,Nat.sub_zero];exact Nat.mul_div_cancel _ hpos
  have hle:Nat.ble (n+m) n=false:=by rw[Bool.eq_false_iff];intro e;rw[zR]at e;omega
  have hlen:Nat.beq (0+n*k) (aD l 0)=true:=by rw[yA,h0,Nat.zero_add,Nat.beq_refl]
  have hsub:vY l 0 (n*k)=some l:=by rw[jJ _ _ _ (.inr (by omega)),List.drop_zero,zK (by omega)]
  have hpd:(H.put A .dead).ok:=hk.put hA _;refine⟨(H.put A .dead).push (.cells (l++new) e k true), ?_,⟨?_, .inr ⟨H.next,rfl,Nat.lt_succ_self _,AH.push_get_eq (H.put A .dead) _⟩⟩,((Stp.refl hk).put hA _ (.inr (Blk.slice.2 rfl))).push _,rfl⟩
  ·simp only[app1,hg,zK9,hroom,hle,cond_false,show((1 % 2).beq 0)=false from rfl,hlen,Nat.beq_refl,show Nat.beq 0 (1 / 2*k)=true from by simp,Bool.and_self,cond_true,yY,hsub,wT,
    ZG hn hb,cK,QM hpd,yE,AH.put_next]
  ·simp[h0,hm,Nat.add_mul]
theorem BG {k e bytes n:Nat}{H:AH}{v:AV}{l:List AV}(hk:H.ok)(hpos:0<k)(h:Own k e H v n l):
  ∃H',app1 e k bytes 0 [] v H=some (v,H')/\Own k e H' v n l/\Stp (fun _=>False) H H'/\H'.next=H.next:=by
 obtain⟨h0,⟨rfl,rfl⟩ | ⟨A,rfl,hA,hg⟩⟩:=h
 ·exact⟨H,rfl,⟨h0, .inl ⟨rfl,rfl⟩⟩,Stp.refl hk,rfl⟩
 ·have hroom:yI l true k 0 1 k=n:=by
   simp only[yI,show((1 % 2).beq 0)=false from rfl,cond_false,Nat.beq_refl,show Nat.beq 0 (1 / 2*k)=true from by simp,Bool.and_self,cond_true,yA,h0,Nat.sub_zero];exact Nat.mul_div_cancel _ hpos
  have hz:Nat.blt 0 k=true:=by rw[zM];exact hpos
  have hset:setAt l (0+n*k) []=some l:=by rw[vR (by simp;omega)];simp
  refine⟨H.put A (.cells l e k true), ?_,⟨h0, .inr ⟨A,rfl,hA,by rw[AH.put_get,if_pos rfl]⟩⟩,⟨hk.put hA _,Nat.le_refl _,fun B hB _=> ?_⟩,rfl⟩
  ·simp only[app1,hg,zK9,hroom,Nat.add_zero,Nat.ble_eq_true_of_le (Nat.le_refl n),cond_true,hz,hset,zCN,yY,yE]
  ·rw[AH.put_get];split
   ·rename_i e;rw[e,hg]
   ·rfl
theorem YF {k e bytes n m:Nat}{H:AH}{v s:AV}{l new:List AV}(hk:H.ok)(hpos:0<k)(h:Own k e H v n l)(hs:srcOf k s H=some (m,new))(hm:new.length=m*k)(hc:qN new=true)(hm1:1<=m)(hn:n+m<=1000000000)(hb:bytes<=1000):
  ∃H',apP e k bytes v s H=some (.slice H.next 0 (n+m) 1,H')/\Own k e H' (.slice H.next 0 (n+m) 1) (n+m) (l++new)/\Stp (Blk v) H H'/\H'.next=H.next+1:=by
 obtain⟨H',h1,h2⟩:=zBW (bytes:=bytes) hk hpos h hm hm1 hn hb;exact⟨H',by simp only[apP,hs,hc,cond_true,h1],h2⟩
theorem zM5 {k e bytes n m:Nat}{H:AH}{v s:AV}{l new:List AV}(hk:H.ok)(hpos:0<k)(h:Own k e H v n l)(hs:srcOf k s H=some (m,new))(hm:new.length=m*k)(hc:qN new=true)(hn:n+m<=1000000000)(hb:bytes<=1000):
  ∃v' H',apP e k bytes v s H=some (v',H')/\Own k e H' v' (n+m) (l++new)/\Stp (Blk v) H H'/\H.next<=H'.next/\(∀B,Blk v' B->Blk v B\/H.next<=B):=by
 by_cases h0:m=0
 ·subst h0;have:new=[]:=zG (by simpa using hm);subst this;obtain⟨H',h1,h2,h3,h4⟩:=BG (bytes:=bytes) hk hpos h;refine⟨v,H',by simp only[apP,hs,hc,cond_true,h1],by simpa using h2,h3.mono (fun _ _ x=>x.elim),by omega,fun B hB=> .inl hB⟩
 ·obtain⟨H',h1,h2,h3,h4⟩:=YF hk hpos h hs hm hc (by omega) hn hb;exact⟨_,H',h1,h2,h3,by omega,fun B hB=> .inr (by rw[Blk.slice.1 hB];exact Nat.le_refl _)⟩
theorem BI {k e bytes n m A off:Nat}{H:AH}{c new:List AV}{e' sz:Nat}{g:Bool}(hk:H.ok)(hA:H.h.get A=some (.cells c e' sz g))(hle:off+n*k<=c.length)(hm1:1<=m)(hn:n+m<=1000000000)(hb:bytes<=1000):
  app1 e k bytes m new (.slice A off n (2*n)) H=some (.slice H.next 0 (n+m) 1,H.push (.cells ((c.drop off).take (n*k)++new) e k true)):=by
 have h2:((2*n) % 2).beq 0=true:=by rw[Nat.mul_mod_right];rfl
 have hroom:yI c g sz off (2*n) k=n:=by
  simp only[yI,h2,cond_true,Nat.mul_div_cancel_left n (show 0<2 by omega)]
 have hlt:Nat.ble (n+m) n=false:=by rw[Bool.eq_false_iff];intro e;rw[zR]at e;omega
 simp only[app1,hA,zK9,hroom,hlt,cond_false,h2,cond_true,jJ _ _ _ (.inr hle),wT,ZG hn hb,cK,QM hk,yE]
theorem Rw.len {k n:Nat}{H:AH}{v:AV}{l:List AV}(h:Rw k H v n l):l.length=n*k:=h.1
def qR (l:Str):List AV:=l.map fun c=> .int .u8 ((c.toNat:Nat):Int)
theorem YB: ∀l:Str,bytesOf l.length (pack l)=qR l
 | []=>rfl
 | c::l=>by
  have hc:c.toNat<256:=c.toNat_lt;have e1:pack (c::l) % 256=c.toNat:=by simp only[pack];omega
  have e2:pack (c::l) / 256=pack l:=by simp only[pack];omega
  simp only[zJ,bytesOf,e1,e2,YB l,qR,List.map_cons];rfl
theorem zKx (l:Str)(H:AH):srcOf 1 (S l) H=some (l.length,qR l):=by simp only[srcOf,S,show(Nat.beq 1 1)=true from rfl,cond_true,YB]
theorem bytesV_cells (l:Str):qN (qR l)=true:=by
 rw[j5];intro x hx;obtain⟨c,_,rfl⟩:=List.mem_map.1 hx;rfl
theorem qU (l:Str):(qR l).length=l.length:=by simp[qR]
theorem u0: ∀l:Str,fW (qR l)=some (l.length,pack l)
 | []=>rfl
 | c::l=>by
  have hc:Nat.blt c.toNat 256=true:=by rw[zM];exact c.toNat_lt
  have ih:=u0 l;show fW (AV.int .u8 (Int.ofNat c.toNat)::qR l)=_;simp only[fW,hc,cond_true,ih,yE,zJ,pack]
theorem dY {n:Nat}{H:AH}{v:AV}{l:Str}(h:Rw 1 H v n (qR l))(hne:v≠ .emptySl):fL v H=some (S l):=by
 obtain⟨h0,⟨rfl,rfl⟩ | ⟨rfl,rfl⟩ | ⟨A,off,cc,c,e,sz,g,rfl,hA,hlt,hle,hl⟩⟩:=h
 ·have:l=[]:=by cases l with
   | nil=>rfl
   | cons=>simp[qR]at h0
  subst this;rfl
 ·exact absurd rfl hne
 ·rw[Nat.mul_one]at hle hl;simp only[fL,hA,jJ _ _ _ (.inr hle),hl,u0,QO,S]
end Go.Eng
namespace Go.Eng
theorem zNg (p:Prop)[Decidable p](b:Bool)(H:AH)(K:AV->AH->Rs):
  jn (if p then some (.norm [.bool b],H)else some (.norm [qM],H)) (fun vs H=>hd vs fun y _=>bV (if p then some y else some (.bool false)) fun x=>K x H)=K (.bool (decide p&&b)) H:=by
 by_cases h:p<;>simp[h,jn,hd,bV]
theorem jn_or (p:Prop)[Decidable p](b:Bool)(H:AH)(K:AV->AH->Rs):
  jn (if p then some (.norm [qM],H)else some (.norm [.bool b],H)) (fun vs H=>hd vs fun y _=>bV (if p then some (.bool true)else some y) fun x=>K x H)=K (.bool (decide p||b)) H:=by
 by_cases h:p<;>simp[h,jn,hd,bV]
theorem yW {n:Nat}{b:List AV->AH->Rs}{vs vs':List AV}{H H':AH}(h:b vs H=some (.norm vs',H')):qW (n+1) b vs H=qW n b vs' H':=by
 show jn (b vs H) (qW n b)=_;rw[h];rfl
theorem qY {n:Nat}{b:List AV->AH->Rs}{vs vs':List AV}{H H':AH}{i:Nat}(h:b vs H=some (.exit i vs',H')):qW (n+1) b vs H=some (.exit i vs',H'):=by
 show jn (b vs H) (qW n b)=_;rw[h];rfl
theorem bT {n:Nat}{b:List AV->AH->Rs}{vs:List AV}{H H':AH}{v:AV}(h:b vs H=some (.ret v,H')):qW (n+1) b vs H=some (.ret v,H'):=by
 show jn (b vs H) (qW n b)=_;rw[h];rfl
theorem zLf (id:Nat)(vs:List AV)(H:AH)(K:List AV->AH->Rs):jb id (some (.exit id vs,H)) K=K vs H:=by simp[jb]
def Strs (H:AH)(v:AV)(l:List Str):Prop:=Rw 1 H v l.length (l.map S)
theorem Strs.at {H:AH}{v:AV}{l:List Str}(h:Strs H v l){i:Nat}(hi:i<l.length): ∃p,(∀κ (z:Int),z=(i:Int)->jL 1 v (.int κ z)=some p)/\Eng.ld1 p H=some (S l[i]):=by
 obtain⟨p,x,h1,h2,h3⟩:=Rw.ld1 h hi;rw[qH,zB hi]at h3;simp only[Option.map_some,z7]at h3;subst h3;exact⟨p,h1,h2⟩
theorem Strs.lnSl {H:AH}{v:AV}{l:List Str}(h:Strs H v l):Eng.lnSl v=some (.int .i64 (l.length:Int)):=Rw.lnSl h
theorem Strs.prs {H H':AH}{v:AV}{l:List Str}(h:Strs H v l)(s:Prs H H'):Strs H' v l:=Rw.prs h s
theorem UX {w:World}{a:Addr}{v:Value}(h:w.cell? a=some v):a.spot=none/\ ∃arr e fz,w.heap[a.block]? =some (.cells arr e fz)/\arr[a.off]? =some v:=by
 unfold World.cell? at h;split at h
 ·rename_i c e fz hg;split at h
  ·cases h
  ·rename_i hs;exact⟨by simpa using hs,c,e,fz,hg,h⟩
 ·cases h
theorem cellAV_string (N:Nat)(s:ByteArray):cellAV N (.string s)=S s.data.toList:=by
 simp only[cellAV,S];rw[<-size_data]
theorem zJ9 (w:World){b o len cap:Nat}(hc:0<cap)(hb:b<w.heap.size):bJ w.heap.size (.slice (some ⟨b,o,none⟩) len cap)= .slice b o len (2*cap):=by
 obtain⟨c,rfl⟩: ∃c,cap=c+1:=⟨cap - 1,by omega⟩;have:Nat.blt b w.heap.size=true:=by rw[zM];exact hb
 cases len<;>simp[bJ,cellAV,this]
theorem zF3 {w:World}{b:Nat}{x:Obj}(h:w.heap[b]? =some x):b<w.heap.size:=(Array.getElem?_eq_some_iff.1 h).1
end Go.Eng
end
section
namespace Go.Proofs
open Go.Shelf
def Tryz.clone80_ren:Go.Shelf.Ren:=⟨fun | 5=>80 | 7=>106 | n=>n,fun | 23=>98 | 25=>57 | 3=>93 | 4=>4 | 20=>20 | n=>n,fun | n=>n⟩
theorem Tryz.clone80:Go.Proofs.SlLaysW.n5 Tryz.prog Tryz.clone80_ren:= {
 mixed:=by kernel_rfl
 f5:=⟨Tryz.f80.name,by decide,Tryz.func80.trans (congrArg some (by kernel_rfl))⟩
 f7:=Tryz.func106.trans (congrArg some (by kernel_rfl))
 t4:=Tryz.underlying4
 a4:=Tryz.isAgg4
 z4:=Tryz.sizeOf4
 v4:=Tryz.zeroValue4
 t20:=Tryz.underlying20
 a20:=Tryz.isAgg20
 z20:=Tryz.sizeOf20
 v20:=Tryz.zeroValue20
 t23:=Tryz.underlying98
 a23:=Tryz.isAgg98
 z23:=Tryz.sizeOf98
 v23:=Tryz.zeroValue98}
end Go.Proofs
noncomputable section
namespace Go.Eng.Sh
open Go.Proofs
set_option maxRecDepth 100000
def X:Cx:=⟨(T.ofList 0 Tryz.prog.types.toList .leaf).getD .leaf,[(50,[2,2]),(59,[6,6,10])]⟩
theorem X_ok:Ok PP X:=cx_ok (by kernel_rfl) (by kernel_rfl)
noncomputable def zCr:ML:=mlOf (zOn Tryz.f65 [1,1,1,0])
theorem zCq:zCr.Fits 69:=by constructor<;>first | kernel_rfl | exact of_decide_eq_true (by kernel_rfl)
noncomputable def zF4:Hint:= .o
noncomputable def zEh (vs:List AV)(H:AH):Rs:=
 hd vs fun a vs=>hd vs fun b vs=>hd vs fun c vs=>
 bV (wR a) fun d=>
 bV (fAd 2 d) fun e=>
 bV (ld1 e H) fun f=>
 some (.norm (f::[a,b,c]),H)
theorem zCt:zCr.preK ⟨X,[]⟩ YV 69 [0,3,4]=zEh:=by kernel_rfl
noncomputable def zJw (I:Nat)(vs:List AV)(k v:AV)(H:AH):Rs:=
 hd vs fun a vs=>hd vs fun b vs=>hd vs fun c vs=>
 bV (qK (.tuple [k,v]) 0) fun d=>
 bV (qK (.tuple [k,v]) 1) fun e=>
 bA (bxV 93 (.agg [(.bool false), .nilSlice, .nilSlice, .nilSlice])) H fun f H=>
 bR (stN 4 f e H) fun g H=>
 bV (wR c) fun h=>
 bV (fAd 5 h) fun i=>
 bV (ld1 i H) fun m=>
 bV (ldN 4 f H) fun o=>
 bR (upM [10] m d o H) fun p H=>
 some (.norm [(.ptr I 0),a,b,c],H)
theorem zE6:zCr.roundK ⟨X,[]⟩ YV 0 69 zF4 [0,3,4]=zJw:=by kernel_rfl
noncomputable def aU (vs:List AV)(H:AH):Option AH:=match vs with
 | [.ptr C p,a, .ptr E o]=>match ld1 (.ptr C (p+2)) H with
  | some (.map M)=>match ld1 (.ptr E (o+5)) H with
   | some (.map A)=>bif Nat.blt M H.next&&Nat.blt A H.next&&Nat.blt E H.next then zKi [10] 1 (isAg 4) (.map M) (.map A) H else none
   | _=>none
  | _=>none
 | _=>none
theorem zA7: ∀vs H H',aU vs H=some H'->Nonempty (zCr.Plan ⟨X,[]⟩ YV 0 69 zF4 [0,3,4] vs H H'):=by
 intro vs H H' h;unfold aU at h;split at h
 ·rename_i C p x3 E o;split at h
  ·rename_i M hld0;split at h
   ·rename_i A hld;rw[cond_eq_ite]at h;split at h
    ·rename_i hc;simp only[z8,zM]at hc;obtain⟨⟨hM,hA⟩,hE⟩:=hc;obtain⟨l,e,sz,g,hgE,hnth⟩:=zIg hld;have hmaps:=zDf h;refine zKg h ?_ ?_ hM hA ?_
     ·rw[zCt];simp only[zEh,hd,bV,wR,fAd,yE,hld0]
     ·intro k v Hk e0 hok hframe hAk hk hlt hfree _ _;obtain⟨cs,rfl,hl,hcl⟩:=zEV hok;have hEM:E≠M:=fun e=>by subst e;obtain⟨⟨_,_,h1⟩,_⟩:=hmaps;rw[hgE]at h1;simp at h1
      have hEA:E≠A:=fun e=>by subst e;obtain⟨_,_,_,h1⟩:=hmaps;rw[hgE]at h1;simp at h1
      have hgk:Hk.h.get E=some (.cells l e sz g):=by rw[hframe E hE hEM hEA];exact hgE
      obtain⟨t1,ht1,hnew⟩:=zEE (.cells [(.bool false), .nilSlice, .nilSlice, .nilSlice] 93 1 false) (hfree Hk.next (Nat.le_refl _) (by omega))
      have g1:=T.get_set _ _ _ _ _ ht1;obtain⟨t2,ht2,hst⟩:=zKv (n:=4) (H:=⟨t1,Hk.next+1⟩) (A:=Hk.next) (cs:=cs) (by rw[g1,if_pos rfl]) rfl hl hcl rfl
      have g2:=T.get_set _ _ _ _ _ ht2;simp only at g2 hst;have hgA:t2.get A=some (.map [10] e0):=by rw[g2,if_neg (by omega),g1,if_neg (by omega)];exact hAk
      obtain⟨t3,ht3,hup⟩:=zKh (v:= .agg cs) (H:=⟨t2,Hk.next+1⟩) hk hgA
      have g3:=T.get_set _ _ _ _ _ ht3;simp only at g3 hup;have hldE:ld1 (.ptr E (o+5)) ⟨t2,Hk.next+1⟩=some (.map A):=zN7 (l:=l) (e:=e) (sz:=sz) (g:=g) (by simp only[g2,g1];rw[if_neg (by omega),if_neg (by omega)];exact hgk) hnth
      have hldo:ldN 4 (.ptr Hk.next 0) ⟨t2,Hk.next+1⟩=some (.agg cs):=zL9 (by show t2.get Hk.next=_;rw[g2,if_pos rfl]) hl
      refine⟨⟨t3,Hk.next+1⟩, ?_,rfl, ?_,fun C hC hlt=> ?_⟩
      ·rw[zE6];simp only[zJw,hd,bV,bR,qK,nth,bA,bxV,qT,hnew,hst,wR,fAd,yE,hldE,hldo,hup]
      ·simp only[g3,if_true]
      ·simp only[g3,if_neg hC,g2,g1];rw[if_neg (by omega),if_neg (by omega)]
     ·intro R0 w0 hR hv;obtain⟨z,hz⟩:=hv (.ptr E o) (by simp);obtain⟨b,d,c,hr,_⟩:=hz;exact zIk hR hr hgE hnth
    ·simp at h
   ·simp at h
  ·simp at h
 ·simp at h
theorem zHl:YK PP 69 65 zCr.code [0,3,4] aU:=zKf X_ok zCq (by decide+kernel) (by decide+kernel) (hb:=zF4) (by kernel_rfl) (kt:=57) (vt:=93) (by kernel_rfl) zA7
end Go.Eng.Sh
end
end
section
noncomputable section
namespace Go.Eng.Sh
open Go.Proofs
set_option maxRecDepth 100000
theorem sc {i:Nat}{m:List AV->AH->Option (AV×AH)}{S:List (Nat×(List AV->AH->Option (AV×AH)))}(h:FI i m)(k:SOk S):SOk ((i,m)::S):=SOk.cons h.fs k
def s51 (D:Dyn)(n:Nat):Tb:=⟨X,[]⟩
def f51 (D:Dyn)(n:Nat)(vs:List AV)(H:AH):Option (AV×AH):=
 yR (hd vs fun a vs=>hd vs fun b vs=>nl vs <|
 bA (mkM [6]) H fun c H=>
 bV (wB [(0,1),(1,1),(2,1),(3,1),(4,1),(5,1),(6,1)] [(.int .i64 (.ofNat 0)), .nilMap, .nilSlice, .nilMap,(.int .i64 (.ofNat 0)), .nilSlice,(.bool false)] [(0,a),(1,b),(3,c)]) fun d=>
 bA (bxV 138 d) H fun e H=>
 bV (some e) fun f=>some (.ret f,H))
def h51:Hint:=(.s .o (.s .o .o))
theorem zJX {D:Dyn}(hD:DG D)(n:Nat):FI 51 (f51 D n):=qS (n:=n) (h:=h51) X_ok hD (SOk.nil) Tryz.func51 (by kernel_rfl) (by kernel_rfl)
def s22 (D:Dyn)(n:Nat):Tb:=⟨X,[(51,f51 D n)]⟩
def f22 (D:Dyn)(n:Nat)(vs:List AV)(H:AH):Option (AV×AH):=
 yR (hd vs fun a vs=>nl vs <|
 bV (qO .lss a (.int .i64 (.ofNat 64))) fun b=>
 jn (wnt b false (bV (qO .gtr a (.int .i64 (.ofNat 8192))) fun c=>
 some (.norm [c],H)) (some (.norm [qM],H))) fun vs H=>hd vs fun d vs=>
 bV (pk3 (some b) (some (.bool true)) (some d)) fun e=>
 cnd e (bV (some .nilPtr) fun f=>bV (some (.int .i64 (.ofNat 1))) fun g=>some (.ret (.tuple [f,g]),H))
 (bA (mkM [6]) H fun h H=>
 bR (f51 D n [a,h] H) fun i H=>
 bV (some i) fun k=>bV (some (.int .i64 (.ofNat 0))) fun m=>some (.ret (.tuple [k,m]),H)))
def h22:Hint:=(.s .o (.s (.s .o (.cl (.s .o .o) .o)) (.s .o .o)))
theorem zK3 {D:Dyn}(hD:DG D)(n:Nat):FI 22 (f22 D n):=qS (n:=n) (h:=h22) X_ok hD (sc (zJX hD n) (SOk.nil)) Tryz.func22 (by kernel_rfl) (by kernel_rfl)
def s78 (D:Dyn)(n:Nat):Tb:=⟨X,[]⟩
def f78 (D:Dyn)(n:Nat)(vs:List AV)(H:AH):Option (AV×AH):=
 yR (hd vs fun a vs=>nl vs <|
 bA (bxV 59 a) H fun b H=>
 bV (fAd 0 b) fun c=>
 bV (ld1 c H) fun d=>
 bV (qO .eql d (.int .i64 (.ofNat 0))) fun e=>
 cnd e (bV (ldN 3 b H) fun f=>
 bV (wB [(0,1),(1,1),(2,1)] [(.int .i64 (.ofNat 0)),(.int .i64 (.ofNat 0)),(.int .u64 (.ofNat 0))] []) fun g=>
 bV (vJ .eql (eqA [6,6,10] f g)) fun h=>
 bV (some h) fun i=>some (.ret i,H))
 (bV (fAd 0 b) fun k=>
 bV (ld1 k H) fun m=>
 bV (qO .gtr m (.int .i64 (.ofNat 0))) fun o=>
 jn (wnt o true (bV (fAd 0 b) fun p=>
 bV (ld1 p H) fun r=>
 bV (qO .lss r (.int .i64 (.ofNat 8192))) fun t=>
 some (.norm [t],H)) (some (.norm [qM],H))) fun vs H=>hd vs fun u vs=>
 bV (pk3 (some o) (some u) (some (.bool false))) fun v=>
 jn (wnt v true (bV (fAd 1 b) fun w=>
 bV (ld1 w H) fun x=>
 bV (qO .geq x (.int .i64 (.ofNat 0))) fun y=>
 some (.norm [y],H)) (some (.norm [qM],H))) fun vs H=>hd vs fun z vs=>
 bV (pk3 (some v) (some z) (some (.bool false))) fun B=>
 jn (wnt B true (bV (fAd 1 b) fun C=>
 bV (ld1 C H) fun E=>
 bV (qO .leq E (.int .i64 (.ofNat 2147483647))) fun F=>
 some (.norm [F],H)) (some (.norm [qM],H))) fun vs H=>hd vs fun G vs=>
 bV (pk3 (some B) (some G) (some (.bool false))) fun I=>
 bV (some I) fun J=>some (.ret J,H)))
def h78:Hint:=(.s .o (.s (.s .o (.cl (.s .o .o) .o)) (.s .o .o)))
theorem zJL {D:Dyn}(hD:DG D)(n:Nat):FI 78 (f78 D n):=qS (n:=n) (h:=h78) X_ok hD (SOk.nil) Tryz.func78 (by kernel_rfl) (by kernel_rfl)
def s79 (D:Dyn)(n:Nat):Tb:=⟨X,[]⟩
def zFo (D:Dyn)(n:Nat)(vs:List AV)(H:AH):Rs:=
 hd vs fun a vs=>hd vs fun b vs=>hd vs fun c vs=>hd vs fun d vs=>
 bV (qO .lss d c) fun e=>
 cnd e (bV (lnSl a) fun f=>
 bV (qO .sub f (.int .i64 (.ofNat 1))) fun g=>
 bV (qO .sub g d) fun h=>
 bV (qO .mul (.int .i64 (.ofNat 8)) d) fun i=>
 bV (qO .shr b i) fun k=>
 bV (cvI .u8 k) fun m=>
 bV (jL 1 a h) fun o=>
 bR (stN 1 o m H) fun p H=>
 bV (qO .add d (.int .i64 (.ofNat 1))) fun r=>
 some (.norm [a,b,c,r],H))
 (some (.exit 0 [],H))
def zNJ (D:Dyn)(n:Nat)(vs:List AV)(H:AH):Rs:=
 some (.ret (.tuple []),H)
def f79 (D:Dyn)(n:Nat)(vs:List AV)(H:AH):Option (AV×AH):=
 yR (hd vs fun a vs=>hd vs fun b vs=>nl vs <|
 bV (lnSl a) fun c=>
 jb 0 (qW n (zFo D n) [a,b,c,(.int .i64 (.ofNat 0))] H) (zNJ D n))
def h79:Hint:=(.s .o (.b [] (.l [0,1,6,7] (.s .o (.s (.cr .o .o) (.s (.b0 (.s .o .o)) .o))))))
theorem zJK {D:Dyn}(hD:DG D)(n:Nat):FI 79 (f79 D n):=qS (n:=n) (h:=h79) X_ok hD (SOk.nil) Tryz.func79 (by kernel_rfl) (by kernel_rfl)
def s52 (D:Dyn)(n:Nat):Tb:=⟨X,[(78,f78 D n),(79,f79 D n)]⟩
def f52 (D:Dyn)(n:Nat)(vs:List AV)(H:AH):Option (AV×AH):=
 yR (hd vs fun a vs=>nl vs <|
 bA (bxV 59 a) H fun b H=>
 bV (ldN 3 b H) fun c=>
 bR (f78 D n [c] H) fun d H=>
 bV (aun .not d) fun e=>
 cnd e (bV (some (.str 0 0)) fun f=>bV (some (.int .i64 (.ofNat 4))) fun g=>some (.ret (.tuple [f,g]),H))
 (bA (bxV 139 (.agg (rep 16 [(.int .u8 (.ofNat 0))]))) H fun h H=>
 bV (v7 16 1 h none (some (.int .i64 (.ofNat 4))) none) fun i=>
 bV (fAd 0 b) fun k=>
 bV (ld1 k H) fun m=>
 bV (cvI .u64 m) fun o=>
 bR (f79 D n [i,o] H) fun p H=>
 bV (v7 16 1 h (some (.int .i64 (.ofNat 4))) (some (.int .i64 (.ofNat 8))) none) fun r=>
 bV (fAd 1 b) fun t=>
 bV (ld1 t H) fun u=>
 bV (cvI .u64 u) fun v=>
 bR (f79 D n [r,v] H) fun w H=>
 bV (v7 16 1 h (some (.int .i64 (.ofNat 8))) none none) fun x=>
 bV (fAd 2 b) fun y=>
 bV (ld1 y H) fun z=>
 bR (f79 D n [x,z] H) fun B H=>
 bV (v7 16 1 h none none none) fun C=>
 bV (fL C H) fun E=>
 bV (some E) fun F=>bV (some (.int .i64 (.ofNat 0))) fun G=>some (.ret (.tuple [F,G]),H)))
def h52:Hint:=(.s .o (.s (.s .o (.cl (.s .o .o) .o)) (.s .o (.s .o (.s .o (.s .o (.s .o .o)))))))
theorem zJW {D:Dyn}(hD:DG D)(n:Nat):FI 52 (f52 D n):=qS (n:=n) (h:=h52) X_ok hD (sc (zJL hD n) (sc (zJK hD n) (SOk.nil))) Tryz.func52 (by kernel_rfl) (by kernel_rfl)
def s23 (D:Dyn)(n:Nat):Tb:=⟨X,[(52,f52 D n)]⟩
def f23 (D:Dyn)(n:Nat)(vs:List AV)(H:AH):Option (AV×AH):=
 yR (hd vs fun a vs=>hd vs fun b vs=>hd vs fun c vs=>nl vs <|
 bA (bxV 59 c) H fun d H=>
 bV (vJ .eql (eqP a .nilPtr)) fun e=>
 cnd e (bV (some .nilPtr) fun f=>bV (some (.int .i64 (.ofNat 2))) fun g=>some (.ret (.tuple [f,g]),H))
 (bV (ldN 3 d H) fun h=>
 bR (f52 D n [h] H) fun i H=>
 bV (qK i 0) fun k=>
 bV (qK i 1) fun m=>
 bV (qO .neq m (.int .i64 (.ofNat 0))) fun o=>
 jn (wnt o false (bV (fAd 0 d) fun p=>
 bV (ld1 p H) fun r=>
 bV (qO .eql r (.int .i64 (.ofNat 1))) fun t=>
 some (.norm [t],H)) (some (.norm [qM],H))) fun vs H=>hd vs fun u vs=>
 bV (pk3 (some o) (some (.bool true)) (some u)) fun v=>
 cnd v (bV (some .nilPtr) fun w=>bV (some (.int .i64 (.ofNat 1))) fun x=>some (.ret (.tuple [w,x]),H))
 (bV (ldN 3 d H) fun y=>
 bA (mkM [10]) H fun z H=>
 bV (wB [(0,1),(1,1),(2,3),(5,1),(6,1),(7,1)] [.nilPtr, .nilPtr,(.int .i64 (.ofNat 0)),(.int .i64 (.ofNat 0)),(.int .u64 (.ofNat 0)), .nilMap,(.int .u64 (.ofNat 0)), .nilSlice] [(0,a),(1,b),(2,y),(3,z)]) fun B=>
 bA (bxV 100 B) H fun C H=>
 bV (some C) fun E=>bV (some (.int .i64 (.ofNat 0))) fun F=>some (.ret (.tuple [E,F]),H))))
def h23:Hint:=(.s .o (.s (.s .o (.cl (.s .o .o) .o)) (.s (.s .o (.s .o (.cl (.s .o .o) .o))) (.s .o .o))))
theorem zK2 {D:Dyn}(hD:DG D)(n:Nat):FI 23 (f23 D n):=qS (n:=n) (h:=h23) X_ok hD (sc (zJW hD n) (SOk.nil)) Tryz.func23 (by kernel_rfl) (by kernel_rfl)
def s7 (D:Dyn)(n:Nat):Tb:=⟨X,[(22,f22 D n),(23,f23 D n)]⟩
def f7 (D:Dyn)(n:Nat)(vs:List AV)(H:AH):Option (AV×AH):=
 yR (nl vs <|
 bR (f22 D n [(.int .i64 (.ofNat 64))] H) fun a H=>
 bV (qK a 0) fun b=>
 bV (qK a 1) fun c=>
 bV (qO .neq c (.int .i64 (.ofNat 0))) fun d=>
 cnd d (bV (some .nilPtr) fun e=>some (.ret e,H))
 (bV (wB [(0,1),(1,1),(2,1)] [(.int .i64 (.ofNat 0)),(.int .i64 (.ofNat 0)),(.int .u64 (.ofNat 0))] []) fun f=>
 bR (f23 D n [b, .nilPtr,f] H) fun g H=>
 bV (qK g 0) fun h=>
 bV (qK g 1) fun i=>
 bV (qO .neq i (.int .i64 (.ofNat 0))) fun k=>
 cnd k (bV (some .nilPtr) fun m=>some (.ret m,H))
 (bV (some h) fun o=>some (.ret o,H))))
def h7:Hint:=(.s .o (.s .o (.s (.s .o (.cl (.s .o .o) .o)) (.s .o (.s (.s .o (.cl (.s .o .o) .o)) (.s .o .o))))))
theorem zIy {D:Dyn}(hD:DG D)(n:Nat):FI 7 (f7 D n):=qS (n:=n) (h:=h7) X_ok hD (sc (zK3 hD n) (sc (zK2 hD n) (SOk.nil))) Tryz.func7 (by kernel_rfl) (by kernel_rfl)
def s27 (D:Dyn)(n:Nat):Tb:=⟨X,[]⟩
def f27 (D:Dyn)(n:Nat)(vs:List AV)(H:AH):Option (AV×AH):=
 yR (hd vs fun a vs=>nl vs <|
 bV (qO .geq a (.int .i64 (.ofNat 1))) fun b=>
 jn (wnt b true (bV (qO .leq a (.int .i64 (.ofNat 2147483647))) fun c=>
 some (.norm [c],H)) (some (.norm [qM],H))) fun vs H=>hd vs fun d vs=>
 bV (pk3 (some b) (some d) (some (.bool false))) fun e=>
 bV (some e) fun f=>some (.ret f,H))
def h27:Hint:=(.s .o (.s .o .o))
theorem JO {D:Dyn}(hD:DG D)(n:Nat):FI 27 (f27 D n):=qS (n:=n) (h:=h27) X_ok hD (SOk.nil) Tryz.func27 (by kernel_rfl) (by kernel_rfl)
def s80 (D:Dyn)(n:Nat):Tb:=⟨X,[]⟩
def f80 (D:Dyn)(n:Nat)(vs:List AV)(H:AH):Option (AV×AH):=
 yR (hd vs fun a vs=>nl vs <|
 bV (vJ .eql (eqM a .nilMap)) fun b=>
 cnd b (bV (some .nilMap) fun c=>some (.ret c,H))
 (none))
def h80:Hint:=(.s .o (.s (.s .o (.cl (.s .o .o) .o)) (.s .o .o)))
theorem zNI {D:Dyn}(hD:DG D)(n:Nat):FI 80 (f80 D n):=qS (n:=n) (h:=h80) X_ok hD (SOk.nil) Tryz.func80 (by kernel_rfl) (by kernel_rfl)
def m80 (D:Dyn)(n:Nat)(vs:List AV)(H:AH):Option (AV×AH):=clnK (f80 D n) vs H
theorem zJB {D:Dyn}(hD:DG D)(n:Nat):FI 80 (m80 D n):=zLV ⟨_,Tryz.func80,rfl⟩ (AnyW.maps_Clone Tryz.clone80) (zNI hD n)
def s81 (D:Dyn)(n:Nat):Tb:=⟨X,[]⟩
def f81 (D:Dyn)(n:Nat)(vs:List AV)(H:AH):Option (AV×AH):=
 yR (hd vs fun a vs=>nl vs <|
 bV (vJ .eql (eqS a .nilSlice)) fun b=>
 cnd b (bV (some .nilSlice) fun c=>some (.ret c,H))
 (bA (wQ 59 3 0 [(.int .i64 (.ofNat 0)),(.int .i64 (.ofNat 0)),(.int .u64 (.ofNat 0))] []) H fun d H=>
 bR (apP 59 3 24 d a H) fun e H=>
 bV (some e) fun f=>some (.ret f,H)))
def h81:Hint:=(.s .o (.s (.s .o (.cl (.s .o .o) .o)) (.s .o .o)))
theorem zBy {D:Dyn}(hD:DG D)(n:Nat):FI 81 (f81 D n):=qS (n:=n) (h:=h81) X_ok hD (SOk.nil) Tryz.func81 (by kernel_rfl) (by kernel_rfl)
def s56 (D:Dyn)(n:Nat):Tb:=⟨X,[(80,m80 D n),(81,f81 D n)]⟩
def f56 (D:Dyn)(n:Nat)(vs:List AV)(H:AH):Option (AV×AH):=
 yR (hd vs fun a vs=>nl vs <|
 bV (vJ .eql (eqP a .nilPtr)) fun b=>
 cnd b (bV (some .nilPtr) fun c=>some (.ret c,H))
 (bV (wR a) fun d=>
 bV (ldN 8 d H) fun e=>
 bA (bxV 100 (.agg [.nilPtr, .nilPtr,(.int .i64 (.ofNat 0)),(.int .i64 (.ofNat 0)),(.int .u64 (.ofNat 0)), .nilMap,(.int .u64 (.ofNat 0)), .nilSlice])) H fun f H=>
 bR (stN 8 f e H) fun g H=>
 bV (wR a) fun h=>
 bV (fAd 5 h) fun i=>
 bV (ld1 i H) fun k=>
 bR (m80 D n [k] H) fun m H=>
 bV (fAd 5 f) fun o=>
 bR (stN 1 o m H) fun p H=>
 bV (wR a) fun r=>
 bV (fAd 7 r) fun t=>
 bV (ld1 t H) fun u=>
 bR (f81 D n [u] H) fun v H=>
 bV (fAd 7 f) fun w=>
 bR (stN 1 w v H) fun x H=>
 bV (some f) fun y=>some (.ret y,H)))
def h56:Hint:=(.s .o (.s (.s .o (.cl (.s .o .o) .o)) (.s .o (.s .o (.s .o (.s .o .o))))))
theorem zJT {D:Dyn}(hD:DG D)(n:Nat):FI 56 (f56 D n):=qS (n:=n) (h:=h56) X_ok hD (sc (zJB hD n) (sc (zBy hD n) (SOk.nil))) Tryz.func56 (by kernel_rfl) (by kernel_rfl)
def s28 (D:Dyn)(n:Nat):Tb:=⟨X,[(56,f56 D n)]⟩
def zLF (D:Dyn)(n:Nat)(vs:List AV)(H:AH):Rs:=
 hd vs fun a vs=>
 bV (some a) fun b=>some (.ret b,H)
def f28 (D:Dyn)(n:Nat)(vs:List AV)(H:AH):Option (AV×AH):=
 yR (hd vs fun a vs=>hd vs fun b vs=>nl vs <|
 bR (f56 D n [a] H) fun c H=>
 bR (callV (s28 D n).S D b [] H) fun d H=>
 bV (qO .neq d (.int .i64 (.ofNat 0))) fun e=>
 jn (cnd e (bV (wR c) fun f=>
 bV (ldN 8 f H) fun g=>
 bV (wR a) fun h=>
 bR (stN 8 h g H) fun i H=>
 some (.norm [d],H))
 (some (.norm [d],H))) (zLF D n))
def h28:Hint:=(.s .o (.s .o (.s .o (.s (.s .o (.c [6] .o .o)) (.s .o .o)))))
theorem zFM {D:Dyn}(hD:DG D)(n:Nat):FI 28 (f28 D n):=qS (n:=n) (h:=h28) X_ok hD (sc (zJT hD n) (SOk.nil)) Tryz.func28 (by kernel_rfl) (by kernel_rfl)
def s57 (D:Dyn)(n:Nat):Tb:=⟨X,[]⟩
def zFy (D:Dyn)(n:Nat)(vs:List AV)(H:AH):Rs:=
 hd vs fun a vs=>hd vs fun b vs=>hd vs fun c vs=>
 bV (ld1 b H) fun d=>
 bV (qO .gtr d (.int .i64 (.ofNat 0))) fun e=>
 cnd e (bV (ld1 c H) fun f=>
 bV (qO .quo f (.int .i64 (.ofNat 128))) fun g=>
 bV (ld1 c H) fun h=>
 bV (qO .rem h (.int .i64 (.ofNat 128))) fun i=>
 bV (wB [(0,1),(1,1),(2,1)] [(.int .i64 (.ofNat 0)),(.int .i64 (.ofNat 0)),(.int .i64 (.ofNat 0))] [(0,g),(1,i)]) fun k=>
 bA (bxV 68 (.agg [(.int .i64 (.ofNat 0)),(.int .i64 (.ofNat 0)),(.int .i64 (.ofNat 0))])) H fun m H=>
 bR (stN 3 m k H) fun o H=>
 bV (fAd 1 m) fun p=>
 bV (ld1 p H) fun r=>
 bV (ld1 b H) fun t=>
 bV (qO .add r t) fun u=>
 bV (mn2 (.int .i64 (.ofNat 128)) u) fun v=>
 bV (fAd 2 m) fun w=>
 bR (stN 1 w v H) fun x H=>
 bV (ldN 3 m H) fun y=>
 bR (callV (s57 D n).S D a [y] H) fun z H=>
 bV (aun .not z) fun B=>
 cnd B (some (.ret (.tuple []),H))
 (bV (ld1 c H) fun C=>
 bV (fAd 2 m) fun E=>
 bV (ld1 E H) fun F=>
 bV (fAd 1 m) fun G=>
 bV (ld1 G H) fun I=>
 bV (qO .sub F I) fun J=>
 bV (qO .add C J) fun K=>
 bR (stN 1 c K H) fun M H=>
 bV (ld1 b H) fun N=>
 bV (fAd 2 m) fun O=>
 bV (ld1 O H) fun P=>
 bV (fAd 1 m) fun Q=>
 bV (ld1 Q H) fun R=>
 bV (qO .sub P R) fun T=>
 bV (qO .sub N T) fun U=>
 bR (stN 1 b U H) fun V H=>
 some (.norm [a,b,c],H)))
 (some (.exit 0 [],H))
def zLA (D:Dyn)(n:Nat)(vs:List AV)(H:AH):Rs:=
 some (.ret (.tuple []),H)
def f57 (D:Dyn)(n:Nat)(vs:List AV)(H:AH):Option (AV×AH):=
 yR (hd vs fun a vs=>hd vs fun b vs=>hd vs fun c vs=>nl vs <|
 jb 0 (qW n (zFy D n) [a,b,c] H) (zLA D n))
def h57:Hint:=(.b [] (.l [0,1,2] (.s (.s .o (.cr .o .o)) (.b0 (.s .o (.s .o (.s (.s .o (.cl .o .o)) (.s .o .o))))))))
theorem zNS {D:Dyn}(hD:DG D)(n:Nat):FI 57 (f57 D n):=qS (n:=n) (h:=h57) X_ok hD (SOk.nil) Tryz.func57 (by kernel_rfl) (by kernel_rfl)
def s30 (D:Dyn)(n:Nat):Tb:=⟨X,[]⟩
def f30 (D:Dyn)(n:Nat)(vs:List AV)(H:AH):Option (AV×AH):=
 yR (hd vs fun a vs=>hd vs fun b vs=>nl vs <|
 bA (bxV 3 a) H fun c H=>
 bA (bxV 3 b) H fun d H=>
 bV (some (.func 57 [] [d,c])) fun e=>some (.ret e,H))
def h30:Hint:=(.s .o (.s .o .o))
theorem UH {D:Dyn}(hD:DG D)(n:Nat):FI 30 (f30 D n):=qS (n:=n) (h:=h30) X_ok hD (SOk.nil) Tryz.func30 (by kernel_rfl) (by kernel_rfl)
def s42 (D:Dyn)(n:Nat):Tb:=⟨X,[]⟩
def f42 (D:Dyn)(n:Nat)(vs:List AV)(H:AH):Option (AV×AH):=
 yR (hd vs fun a vs=>nl vs <|
 bV (qO .shr a (.int .u64 (.ofNat 24))) fun b=>
 bV (cvI .u8 b) fun c=>
 bV (qO .shr a (.int .u64 (.ofNat 16))) fun d=>
 bV (cvI .u8 d) fun e=>
 bV (qO .shr a (.int .u64 (.ofNat 8))) fun f=>
 bV (cvI .u8 f) fun g=>
 bV (cvI .u8 a) fun h=>
 bA (wQ 5 1 5 [(.int .u8 (.ofNat 0))] [(0,(.int .u8 (.ofNat 100))),(1,c),(2,e),(3,g),(4,h)]) H fun i H=>
 bV (fL i H) fun k=>
 bV (some k) fun m=>some (.ret m,H))
def h42:Hint:=(.s .o (.s .o .o))
theorem zFE {D:Dyn}(hD:DG D)(n:Nat):FI 42 (f42 D n):=qS (n:=n) (h:=h42) X_ok hD (SOk.nil) Tryz.func42 (by kernel_rfl) (by kernel_rfl)
def s18 (D:Dyn)(n:Nat):Tb:=⟨X,[(42,f42 D n)]⟩
def f18 (D:Dyn)(n:Nat)(vs:List AV)(H:AH):Option (AV×AH):=
 yR (hd vs fun a vs=>hd vs fun b vs=>nl vs <|
 bV (qO .shr b (.int .u64 (.ofNat 24))) fun c=>
 bV (cvI .u8 c) fun d=>
 bV (qO .shr b (.int .u64 (.ofNat 16))) fun e=>
 bV (cvI .u8 e) fun f=>
 bV (qO .shr b (.int .u64 (.ofNat 8))) fun g=>
 bV (cvI .u8 g) fun h=>
 bV (cvI .u8 b) fun i=>
 bA (wQ 5 1 4 [(.int .u8 (.ofNat 0))] [(0,d),(1,f),(2,h),(3,i)]) H fun k H=>
 bV (fL k H) fun m=>
 bR (f42 D n [a] H) fun o H=>chk (fL k H) m <|
 bV (jW .add o m) fun p=>
 bV (some p) fun r=>some (.ret r,H))
def h18:Hint:=(.s .o (.s .o .o))
theorem aX {D:Dyn}(hD:DG D)(n:Nat):FI 18 (f18 D n):=qS (n:=n) (h:=h18) X_ok hD (sc (zFE hD n) (SOk.nil)) Tryz.func18 (by kernel_rfl) (by kernel_rfl)
def s43 (D:Dyn)(n:Nat):Tb:=⟨X,[]⟩
def f43 (D:Dyn)(n:Nat)(vs:List AV)(H:AH):Option (AV×AH):=
 yR (hd vs fun a vs=>nl vs <|
 bV (vJ .eql (eqP a .nilPtr)) fun b=>
 jn (wnt b false (bV (wR a) fun c=>
 bV (fAd 0 c) fun d=>
 bV (ld1 d H) fun e=>
 bV (vJ .eql (eqP e .nilPtr)) fun f=>
 some (.norm [f],H)) (some (.norm [qM],H))) fun vs H=>hd vs fun g vs=>
 bV (pk3 (some b) (some (.bool true)) (some g)) fun h=>
 jn (wnt h false (bV (wR a) fun i=>
 bV (fAd 5 i) fun k=>
 bV (ld1 k H) fun m=>
 bV (vJ .eql (eqM m .nilMap)) fun o=>
 some (.norm [o],H)) (some (.norm [qM],H))) fun vs H=>hd vs fun p vs=>
 bV (pk3 (some h) (some (.bool true)) (some p)) fun r=>
 bV (some r) fun t=>some (.ret t,H))
def h43:Hint:=(.s .o (.s .o .o))
theorem Y3 {D:Dyn}(hD:DG D)(n:Nat):FI 43 (f43 D n):=qS (n:=n) (h:=h43) X_ok hD (SOk.nil) Tryz.func43 (by kernel_rfl) (by kernel_rfl)
def s47 (D:Dyn)(n:Nat):Tb:=⟨X,[]⟩
def f47 (D:Dyn)(n:Nat)(vs:List AV)(H:AH):Option (AV×AH):=
 yR (hd vs fun a vs=>nl vs <|
 bV (wR a) fun b=>
 bV (fAd 5 b) fun c=>
 bV (ld1 c H) fun d=>
 bV (VW d H) fun e=>
 bV (qO .add (.int .i64 (.ofNat 8192)) e) fun f=>
 bV (some f) fun g=>some (.ret g,H))
def h47:Hint:=(.s .o (.s .o .o))
theorem zFC {D:Dyn}(hD:DG D)(n:Nat):FI 47 (f47 D n):=qS (n:=n) (h:=h47) X_ok hD (SOk.nil) Tryz.func47 (by kernel_rfl) (by kernel_rfl)
def s48 (D:Dyn)(n:Nat):Tb:=⟨X,[]⟩
def f48 (D:Dyn)(n:Nat)(vs:List AV)(H:AH):Option (AV×AH):=
 yR (hd vs fun a vs=>hd vs fun b vs=>nl vs <|
 bA (bxV 59 b) H fun c H=>
 bA (bxV 93 (.agg [(.bool false), .nilSlice, .nilSlice, .nilSlice])) H fun d H=>
 bV (fAd 0 c) fun e=>
 bV (ld1 e H) fun f=>
 bV (qO .eql f (.int .i64 (.ofNat 1))) fun g=>
 cnd g (bV (wR a) fun h=>
 bV (fAd 5 h) fun i=>
 bV (ld1 i H) fun k=>
 bV (fAd 2 c) fun m=>
 bV (ld1 m H) fun o=>
 bV (lkM [10] (.agg [(.bool false), .nilSlice, .nilSlice, .nilSlice]) true k o H) fun p=>
 bV (qK p 0) fun r=>
 bV (qK p 1) fun t=>
 bA (bxV 93 (.agg [(.bool false), .nilSlice, .nilSlice, .nilSlice])) H fun u H=>
 bR (stN 4 u r H) fun v H=>
 bV (aun .not t) fun w=>
 jn (wnt w false (bV (fAd 1 c) fun x=>
 bV (ld1 x H) fun y=>
 bV (qO .neq y (.int .i64 (.ofNat 0))) fun z=>
 some (.norm [z],H)) (some (.norm [qM],H))) fun vs H=>hd vs fun B vs=>
 bV (pk3 (some w) (some (.bool true)) (some B)) fun C=>
 cnd C (bV (wB [(0,1),(1,1),(2,1),(3,1)] [(.bool false), .nilSlice, .nilSlice, .nilSlice] []) fun E=>
 bR (stN 4 d E H) fun F H=>
 bV (ldN 4 d H) fun G=>bV (some (.int .i64 (.ofNat 1))) fun I=>some (.ret (.tuple [G,I]),H))
 (bV (ldN 4 u H) fun J=>
 bR (stN 4 d J H) fun K H=>
 bV (ldN 4 d H) fun M=>bV (some (.int .i64 (.ofNat 0))) fun N=>some (.ret (.tuple [M,N]),H)))
 (bV (ldN 3 c H) fun O=>
 bR (D.fn 75 [a,O] H) fun P H=>
 bV (qK P 0) fun Q=>
 bV (qK P 1) fun R=>
 bV (qK P 2) fun T=>
 bV (qO .neq T (.int .i64 (.ofNat 0))) fun U=>
 cnd U (bV (wB [(0,1),(1,1),(2,1),(3,1)] [(.bool false), .nilSlice, .nilSlice, .nilSlice] []) fun V=>
 bR (stN 4 d V H) fun W H=>
 bV (ldN 4 d H) fun Y=>bV (some T) fun Z=>some (.ret (.tuple [Y,Z]),H))
 (bV (qO .neq Q (.int .u8 (.ofNat 1))) fun a0=>
 jn (wnt a0 true (bV (qO .neq Q (.int .u8 (.ofNat 2))) fun a1=>
 some (.norm [a1],H)) (some (.norm [qM],H))) fun vs H=>hd vs fun a2 vs=>
 bV (pk3 (some a0) (some a2) (some (.bool false))) fun a3=>
 cnd a3 (bV (wB [(0,1),(1,1),(2,1),(3,1)] [(.bool false), .nilSlice, .nilSlice, .nilSlice] []) fun a4=>
 bR (stN 4 d a4 H) fun a5 H=>
 bV (ldN 4 d H) fun a6=>bV (some (.int .i64 (.ofNat 4))) fun a7=>some (.ret (.tuple [a6,a7]),H))
 (bV (qO .eql Q (.int .u8 (.ofNat 1))) fun a8=>
 bR (D.fn 76 [a8,R] H) fun a9 H=>
 bV (qK a9 0) fun b0=>
 bV (qK a9 1) fun b1=>
 bR (stN 4 d b0 H) fun b2 H=>
 bV (ldN 4 d H) fun b3=>bV (some b1) fun b4=>some (.ret (.tuple [b3,b4]),H)))))
def h48:Hint:=(.s .o (.s (.s .o (.cl (.s .o (.s (.s .o (.cl (.s .o .o) .o)) (.s .o .o))) .o)) (.s .o (.s (.s .o (.cl (.s .o .o) .o)) (.s (.s .o (.cl (.s .o .o) .o)) (.s .o .o))))))
theorem UC {D:Dyn}(hD:DG D)(n:Nat):FI 48 (f48 D n):=qS (n:=n) (h:=h48) X_ok hD (SOk.nil) Tryz.func48 (by kernel_rfl) (by kernel_rfl)
def s77 (D:Dyn)(n:Nat):Tb:=⟨X,[]⟩
def zAk (D:Dyn)(n:Nat)(vs:List AV)(H:AH):Rs:=
 hd vs fun a vs=>hd vs fun b vs=>hd vs fun c vs=>hd vs fun d vs=>
 bV (qO .lss d c) fun e=>
 cnd e (bV (jL 1 a d) fun f=>
 bV (ld1 f H) fun g=>
 bV (jW .eql b g) fun h=>
 cnd h (bV (some d) fun i=>some (.ret i,H))
 (bV (qO .add d (.int .i64 (.ofNat 1))) fun k=>
 some (.norm [a,b,c,k],H)))
 (some (.exit 0 [],H))
def zNK (D:Dyn)(n:Nat)(vs:List AV)(H:AH):Rs:=
 bV (some (.int .i64 (.negSucc 0))) fun a=>some (.ret a,H)
def f77 (D:Dyn)(n:Nat)(vs:List AV)(H:AH):Option (AV×AH):=
 yR (hd vs fun a vs=>hd vs fun b vs=>nl vs <|
 bV (lnSl a) fun c=>
 jb 0 (qW n (zAk D n) [a,b,c,(.int .i64 (.ofNat 0))] H) (zNK D n))
def h77:Hint:=(.s .o (.s (.s .o (.b [] (.l [0,1,7,8] (.s .o (.s (.cr .o .o) (.s (.b0 (.s .o (.s .o (.cl (.s .o .o) .o)))) .o)))))) (.s .o .o)))
theorem zJM {D:Dyn}(hD:DG D)(n:Nat):FI 77 (f77 D n):=qS (n:=n) (h:=h77) X_ok hD (SOk.nil) Tryz.func77 (by kernel_rfl) (by kernel_rfl)
def s49 (D:Dyn)(n:Nat):Tb:=⟨X,[(77,f77 D n)]⟩
def f49 (D:Dyn)(n:Nat)(vs:List AV)(H:AH):Option (AV×AH):=
 yR (hd vs fun a vs=>hd vs fun b vs=>nl vs <|
 bA (bxV 93 a) H fun c H=>
 bV (fAd 0 c) fun d=>
 bV (ld1 d H) fun e=>
 bV (aun .not e) fun f=>
 cnd f (bV (some (.str 0 0)) fun g=>bV (some (.bool false)) fun h=>some (.ret (.tuple [g,h]),H))
 (bV (fAd 1 c) fun i=>
 bV (ld1 i H) fun k=>
 bR (f77 D n [k,b] H) fun m H=>
 bV (qO .lss m (.int .i64 (.ofNat 0))) fun o=>
 jn (wnt o false (bV (fAd 2 c) fun p=>
 bV (ld1 p H) fun r=>
 bV (lnSl r) fun t=>
 bV (qO .geq m t) fun u=>
 some (.norm [u],H)) (some (.norm [qM],H))) fun vs H=>hd vs fun v vs=>
 bV (pk3 (some o) (some (.bool true)) (some v)) fun w=>
 cnd w (bV (some (.str 0 0)) fun x=>bV (some (.bool false)) fun y=>some (.ret (.tuple [x,y]),H))
 (bV (fAd 2 c) fun z=>
 bV (ld1 z H) fun B=>
 bV (jL 1 B m) fun C=>
 bV (ld1 C H) fun E=>
 bV (some E) fun F=>bV (some (.bool true)) fun G=>some (.ret (.tuple [F,G]),H))))
def h49:Hint:=(.s .o (.s (.s .o (.cl (.s .o .o) .o)) (.s .o (.s (.s .o (.cl (.s .o .o) .o)) (.s .o .o)))))
theorem zJY {D:Dyn}(hD:DG D)(n:Nat):FI 49 (f49 D n):=qS (n:=n) (h:=h49) X_ok hD (sc (zJM hD n) (SOk.nil)) Tryz.func49 (by kernel_rfl) (by kernel_rfl)
def s50 (D:Dyn)(n:Nat):Tb:=⟨X,[]⟩
def zFB (D:Dyn)(n:Nat)(vs:List AV)(H:AH):Rs:=
 hd vs fun a vs=>hd vs fun b vs=>hd vs fun c vs=>hd vs fun d vs=>hd vs fun e vs=>hd vs fun f vs=>
 bV (qO .add f (.int .i64 (.ofNat 1))) fun g=>
 some (.norm [a,b,c,d,e,g],H)
def zAn (D:Dyn)(n:Nat)(vs:List AV)(H:AH):Rs:=
 hd vs fun a vs=>hd vs fun b vs=>hd vs fun c vs=>hd vs fun d vs=>hd vs fun e vs=>hd vs fun f vs=>
 bV (qO .lss f e) fun g=>
 cnd g (bV (jL 1 d f) fun h=>
 bV (ld1 h H) fun i=>
 bV (jW .lss i a) fun k=>
 jn (wnt k false (bV (fAd 0 b) fun m=>
 bV (ld1 m H) fun o=>
 bV (aun .not o) fun p=>
 some (.norm [p],H)) (some (.norm [qM],H))) fun vs H=>hd vs fun r vs=>
 jn (wnt r true (bV (jW .eql i a) fun t=>
 some (.norm [t],H)) (some (.norm [qM],H))) fun vs H=>hd vs fun u vs=>
 jn (wnt k false (bV (pk3 (some r) (some u) (some (.bool false))) fun v=>
 some (.norm [v],H)) (some (.norm [qM],H))) fun vs H=>hd vs fun w vs=>
 bV (pk3 (some k) (some (.bool true)) (some w)) fun x=>
 jn (cnd x (bV (qO .add c (.int .i64 (.ofNat 1))) fun y=>
 some (.norm [a,b,y,d,e,f],H))
 (some (.norm [a,b,c,d,e,f],H))) (zFB D n))
 (some (.exit 0 [c],H))
def zNW (D:Dyn)(n:Nat)(vs:List AV)(H:AH):Rs:=
 hd vs fun a vs=>
 bV (some a) fun b=>some (.ret b,H)
def f50 (D:Dyn)(n:Nat)(vs:List AV)(H:AH):Option (AV×AH):=
 yR (hd vs fun a vs=>hd vs fun b vs=>nl vs <|
 bA (bxV 93 a) H fun c H=>
 bV (fAd 1 c) fun d=>
 bV (ld1 d H) fun e=>
 bV (lnSl e) fun f=>
 jb 0 (qW n (zAn D n) [b,c,(.int .i64 (.ofNat 0)),e,f,(.int .i64 (.ofNat 0))] H) (zNW D n))
def h50:Hint:=(.s .o (.s .o (.s (.s .o (.b [5] (.l [1,2,5,9,10,11] (.s .o (.s (.cr .o .o) (.s (.b0 (.s .o (.s .o (.c [1,2,5,9,10,11] .o .o)))) .o)))))) (.s .o .o))))
theorem aW {D:Dyn}(hD:DG D)(n:Nat):FI 50 (f50 D n):=qS (n:=n) (h:=h50) X_ok hD (SOk.nil) Tryz.func50 (by kernel_rfl) (by kernel_rfl)
def s21 (D:Dyn)(n:Nat):Tb:=⟨X,[(43,f43 D n),(47,f47 D n),(48,f48 D n),(49,f49 D n),(50,f50 D n)]⟩
def zFP (D:Dyn)(n:Nat)(vs:List AV)(H:AH):Rs:=
 hd vs fun a vs=>hd vs fun b vs=>hd vs fun c vs=>hd vs fun d vs=>hd vs fun e vs=>
 bV (qO .lss e d) fun f=>
 cnd f (bV (ldN 3 c H) fun g=>
 bR (f48 D n [a,g] H) fun h H=>
 bV (qK h 0) fun i=>
 bV (qK h 1) fun k=>
 bA (bxV 93 (.agg [(.bool false), .nilSlice, .nilSlice, .nilSlice])) H fun m H=>
 bR (stN 4 m i H) fun o H=>
 bV (qO .neq k (.int .i64 (.ofNat 0))) fun p=>
 cnd p (bV (some (.str 0 0)) fun r=>bV (some k) fun t=>some (.ret (.tuple [r,t]),H))
 (bV (fAd 0 m) fun u=>
 bV (ld1 u H) fun v=>
 cnd v (bV (ldN 4 m H) fun w=>
 bR (f49 D n [w,b] H) fun x H=>
 bV (qK x 0) fun y=>
 bV (qK x 1) fun z=>
 bV (aun .not z) fun B=>
 cnd B (bV (some (.str 0 0)) fun C=>bV (some (.int .i64 (.ofNat 5))) fun E=>some (.ret (.tuple [C,E]),H))
 (bV (some y) fun F=>bV (some (.int .i64 (.ofNat 0))) fun G=>some (.ret (.tuple [F,G]),H)))
 (bV (fAd 3 m) fun I=>
 bV (ld1 I H) fun J=>
 bV (ldN 4 m H) fun K=>
 bR (f50 D n [K,b] H) fun M H=>chk (ld1 I H) J <|
 bV (jL 3 J M) fun N=>
 bV (ldN 3 N H) fun O=>
 bR (stN 3 c O H) fun P H=>
 bV (qO .add e (.int .i64 (.ofNat 1))) fun Q=>
 some (.norm [a,b,c,d,Q],H))))
 (some (.exit 0 [],H))
def f21b1 (D:Dyn)(n:Nat)(vs:List AV)(H:AH):Rs:=
 bV (some (.str 0 0)) fun a=>bV (some (.int .i64 (.ofNat 4))) fun b=>some (.ret (.tuple [a,b]),H)
def f21 (D:Dyn)(n:Nat)(vs:List AV)(H:AH):Option (AV×AH):=
 yR (hd vs fun a vs=>hd vs fun b vs=>nl vs <|
 bR (f43 D n [a] H) fun c H=>
 cnd c (bV (some (.str 0 0)) fun d=>bV (some (.int .i64 (.ofNat 2))) fun e=>some (.ret (.tuple [d,e]),H))
 (bV (jO b) fun f=>
 bV (qO .lss f (.int .i64 (.ofNat 1))) fun g=>
 jn (wnt g false (bV (jO b) fun h=>
 bV (qO .gtr h (.int .i64 (.ofNat 40))) fun i=>
 some (.norm [i],H)) (some (.norm [qM],H))) fun vs H=>hd vs fun k vs=>
 bV (pk3 (some g) (some (.bool true)) (some k)) fun m=>
 cnd m (bV (some (.str 0 0)) fun o=>bV (some (.int .i64 (.ofNat 1))) fun p=>some (.ret (.tuple [o,p]),H))
 (bV (wR a) fun r=>
 bV (fAd 2 r) fun t=>
 bV (fAd 0 t) fun u=>
 bV (ld1 u H) fun v=>
 bV (qO .eql v (.int .i64 (.ofNat 0))) fun w=>
 cnd w (bV (some (.str 0 0)) fun x=>bV (some (.int .i64 (.ofNat 5))) fun y=>some (.ret (.tuple [x,y]),H))
 (bV (wR a) fun z=>
 bV (fAd 2 z) fun B=>
 bV (ldN 3 B H) fun C=>
 bA (bxV 59 (.agg [(.int .i64 (.ofNat 0)),(.int .i64 (.ofNat 0)),(.int .u64 (.ofNat 0))])) H fun E H=>
 bR (stN 3 E C H) fun F H=>
 bR (f47 D n [a] H) fun G H=>
 jb 0 (qW n (zFP D n) [a,b,E,G,(.int .i64 (.ofNat 0))] H) (f21b1 D n)))))
def h21:Hint:=(.s .o (.s (.s .o (.cl (.s .o .o) .o)) (.s (.s .o (.cl (.s .o .o) .o)) (.s (.s .o (.cl (.s .o .o) .o)) (.s .o (.s (.s .o (.b [] (.l [0,1,6,32,33] (.s .o (.s (.cr .o .o) (.s (.b0 (.s .o (.s (.s .o (.cl (.s .o .o) .o)) (.s (.s .o (.cl (.s .o (.s (.s .o (.cl (.s .o .o) .o)) (.s .o .o))) .o)) .o)))) .o)))))) (.s .o .o)))))))
theorem zFQ {D:Dyn}(hD:DG D)(n:Nat):FI 21 (f21 D n):=qS (n:=n) (h:=h21) X_ok hD (sc (Y3 hD n) (sc (zFC hD n) (sc (UC hD n) (sc (zJY hD n) (sc (aW hD n) (SOk.nil)))))) Tryz.func21 (by kernel_rfl) (by kernel_rfl)
def s31 (D:Dyn)(n:Nat):Tb:=⟨X,[(18,f18 D n),(21,f21 D n)]⟩
def f31 (D:Dyn)(n:Nat)(vs:List AV)(H:AH):Option (AV×AH):=
 yR (hd vs fun a vs=>hd vs fun b vs=>hd vs fun c vs=>nl vs <|
 bA (bxV 69 (.agg (rep 128 [(.int .u8 (.ofNat 0))]))) H fun d H=>
 bA (bxV 69 (.agg (rep 128 [(.int .u8 (.ofNat 0))]))) H fun e H=>
 bR (f18 D n [b,c] H) fun f H=>
 bR (f21 D n [a,f] H) fun g H=>
 bV (qK g 0) fun h=>
 bV (qK g 1) fun i=>
 bV (qO .eql i (.int .i64 (.ofNat 5))) fun k=>
 cnd k (bV (ldN 128 e H) fun m=>
 bR (stN 128 d m H) fun o H=>
 bV (ldN 128 d H) fun p=>bV (some (.bool false)) fun r=>bV (some (.int .i64 (.ofNat 0))) fun t=>some (.ret (.tuple [p,r,t]),H))
 (bV (v7 128 1 e none none none) fun u=>
 bR (cpy 1 u h H) fun v H=>
 bV (ldN 128 e H) fun w=>
 bV (qO .eql i (.int .i64 (.ofNat 0))) fun x=>
 bR (stN 128 d w H) fun y H=>
 bV (ldN 128 d H) fun z=>bV (some x) fun B=>bV (some i) fun C=>some (.ret (.tuple [z,B,C]),H)))
def h31:Hint:=(.s .o (.s .o (.s .o (.s (.s .o (.cl (.s .o .o) .o)) (.s .o (.s .o .o))))))
theorem UG {D:Dyn}(hD:DG D)(n:Nat):FI 31 (f31 D n):=qS (n:=n) (h:=h31) X_ok hD (sc (aX hD n) (sc (zFQ hD n) (SOk.nil))) Tryz.func31 (by kernel_rfl) (by kernel_rfl)
def s82 (D:Dyn)(n:Nat):Tb:=⟨X,[]⟩
def zFn (D:Dyn)(n:Nat)(vs:List AV)(H:AH):Rs:=
 hd vs fun a vs=>hd vs fun b vs=>
 bV (jO a) fun c=>
 bV (qO .gtr c (.int .i64 (.ofNat 0))) fun d=>
 jn (wnt d true (bV (jO a) fun e=>
 bV (qO .sub e (.int .i64 (.ofNat 1))) fun f=>
 bV (v8 a f) fun g=>
 bV (qO .eql g b) fun h=>
 some (.norm [h],H)) (some (.norm [qM],H))) fun vs H=>hd vs fun i vs=>
 bV (pk3 (some d) (some i) (some (.bool false))) fun k=>
 cnd k (bV (jO a) fun m=>
 bV (qO .sub m (.int .i64 (.ofNat 1))) fun o=>
 bV (uV a none (some o)) fun p=>
 some (.norm [p,b],H))
 (some (.exit 0 [a],H))
def zNH (D:Dyn)(n:Nat)(vs:List AV)(H:AH):Rs:=
 hd vs fun a vs=>
 bV (some a) fun b=>some (.ret b,H)
def f82 (D:Dyn)(n:Nat)(vs:List AV)(H:AH):Option (AV×AH):=
 yR (hd vs fun a vs=>hd vs fun b vs=>nl vs <|
 jb 0 (qW n (zFn D n) [a,b] H) (zNH D n))
def h82:Hint:=(.s .o (.s (.b [0] (.l [0,1] (.s (.s .o (.cr .o .o)) (.b0 .o)))) (.s .o .o)))
theorem zJJ {D:Dyn}(hD:DG D)(n:Nat):FI 82 (f82 D n):=qS (n:=n) (h:=h82) X_ok hD (SOk.nil) Tryz.func82 (by kernel_rfl) (by kernel_rfl)
def s58 (D:Dyn)(n:Nat):Tb:=⟨X,[(82,f82 D n)]⟩
def f58 (D:Dyn)(n:Nat)(vs:List AV)(H:AH):Option (AV×AH):=
 yR (hd vs fun a vs=>hd vs fun b vs=>nl vs <|
 bV (jW .eql a (.str 0 0)) fun c=>
 jn (wnt c false (bV (jW .eql b (.str 0 0)) fun d=>
 some (.norm [d],H)) (some (.norm [qM],H))) fun vs H=>hd vs fun e vs=>
 bV (pk3 (some c) (some (.bool true)) (some e)) fun f=>
 cnd f (bV (some a) fun g=>some (.ret g,H))
 (bV (jO b) fun h=>
 bV (qO .eql h (.int .i64 (.ofNat 1))) fun i=>
 jn (wnt i true (bV (v8 b (.int .i64 (.ofNat 0))) fun k=>
 bV (qO .lss k (.int .u8 (.ofNat 128))) fun m=>
 some (.norm [m],H)) (some (.norm [qM],H))) fun vs H=>hd vs fun o vs=>
 bV (pk3 (some i) (some o) (some (.bool false))) fun p=>
 cnd p (bV (v8 b (.int .i64 (.ofNat 0))) fun r=>
 bR (f82 D n [a,r] H) fun t H=>
 bV (some t) fun u=>some (.ret u,H))
 (bR (D.fn 83 [b] H) fun v H=>
 bV (qK v 0) fun w=>
 bV (qK v 1) fun x=>
 bA (bxV 145 (.agg (rep 256 [(.bool false)]))) H fun y H=>
 bR (stN 256 y w H) fun z H=>
 cnd x (bR (D.fn 84 [a,y] H) fun B H=>
 bV (some B) fun C=>some (.ret C,H))
 (bR (D.fn 85 [a,b] H) fun E H=>
 bV (some E) fun F=>some (.ret F,H)))))
def h58:Hint:=(.s .o (.s (.s .o (.cl (.s .o .o) .o)) (.s (.s .o (.cl (.s .o .o) .o)) (.s (.s .o (.s .o (.cl (.s .o .o) .o))) (.s .o .o)))))
theorem zJS {D:Dyn}(hD:DG D)(n:Nat):FI 58 (f58 D n):=qS (n:=n) (h:=h58) X_ok hD (sc (zJJ hD n) (SOk.nil)) Tryz.func58 (by kernel_rfl) (by kernel_rfl)
def s66 (D:Dyn)(n:Nat):Tb:=⟨X,[]⟩
def f66 (D:Dyn)(n:Nat)(vs:List AV)(H:AH):Option (AV×AH):=
 yR (hd vs fun a vs=>hd vs fun b vs=>nl vs <|
 bA (bxV 93 b) H fun c H=>
 bA (bxV 59 (.agg [(.int .i64 (.ofNat 0)),(.int .i64 (.ofNat 0)),(.int .u64 (.ofNat 0))])) H fun d H=>
 bV (wR a) fun e=>
 bV (fAd 1 e) fun f=>
 bV (ld1 f H) fun g=>
 bV (qO .add g (.int .u64 (.ofNat 1))) fun h=>
 bV (wR a) fun i=>
 bV (fAd 1 i) fun k=>
 bR (stN 1 k h H) fun m H=>
 bV (wR a) fun o=>
 bV (fAd 2 o) fun p=>
 bV (ld1 p H) fun r=>
 bV (wR a) fun t=>
 bV (fAd 1 t) fun u=>
 bV (ld1 u H) fun v=>
 bV (ldN 4 c H) fun w=>
 bR (upM [10] r v w H) fun x H=>
 bV (wR a) fun y=>
 bV (fAd 1 y) fun z=>
 bV (ld1 z H) fun B=>
 bV (wB [(0,1),(1,1),(2,1)] [(.int .i64 (.ofNat 0)),(.int .i64 (.ofNat 0)),(.int .u64 (.ofNat 0))] [(0,(.int .i64 (.ofNat 1))),(2,B)]) fun C=>
 bR (stN 3 d C H) fun E H=>
 bV (ldN 3 d H) fun F=>some (.ret F,H))
def h66:Hint:=(.s .o (.s .o (.s .o (.s .o .o))))
theorem zBB {D:Dyn}(hD:DG D)(n:Nat):FI 66 (f66 D n):=qS (n:=n) (h:=h66) X_ok hD (SOk.nil) Tryz.func66 (by kernel_rfl) (by kernel_rfl)
def s65 (D:Dyn)(n:Nat):Tb:=⟨X,[]⟩
def zNN (D:Dyn)(n:Nat)(vs:List AV)(H:AH):Rs:=
 hd vs fun a vs=>hd vs fun b vs=>hd vs fun c vs=>hd vs fun d vs=>hd vs fun e vs=>hd vs fun f vs=>
 bV (qO .add f (.int .i64 (.ofNat 1))) fun g=>
 some (.norm [a,b,c,d,e,g],H)
def zFu (D:Dyn)(n:Nat)(vs:List AV)(H:AH):Rs:=
 hd vs fun a vs=>hd vs fun b vs=>hd vs fun c vs=>hd vs fun d vs=>hd vs fun e vs=>hd vs fun f vs=>
 bV (qO .lss f e) fun g=>
 cnd g (bV (jL 3 d f) fun h=>
 bV (ldN 3 h H) fun i=>
 bA (bxV 59 (.agg [(.int .i64 (.ofNat 0)),(.int .i64 (.ofNat 0)),(.int .u64 (.ofNat 0))])) H fun k H=>
 bR (stN 3 k i H) fun m H=>
 bV (fAd 0 k) fun o=>
 bV (ld1 o H) fun p=>
 bV (qO .eql p (.int .i64 (.ofNat 1))) fun r=>
 jn (cnd r (bV (wR c) fun t=>
 bV (fAd 5 t) fun u=>
 bV (ld1 u H) fun v=>
 bV (fAd 2 k) fun w=>
 bV (ld1 w H) fun x=>
 bR (dlM [10] v x H) fun y H=>
 some (.norm [a,b,c,d,e,f],H))
 (bV (wR c) fun z=>
 bV (fAd 7 z) fun B=>
 bV (ld1 B H) fun C=>
 bV (ldN 3 k H) fun E=>
 bA (wQ 59 3 1 [(.int .i64 (.ofNat 0)),(.int .i64 (.ofNat 0)),(.int .u64 (.ofNat 0))] [(0,E)]) H fun F H=>
 bR (apP 59 3 24 C F H) fun G H=>
 bV (wR c) fun I=>
 bV (fAd 7 I) fun J=>
 bR (stN 1 J G H) fun K H=>
 some (.norm [a,b,c,d,e,f],H))) (zNN D n))
 (some (.exit 0 [a,b,c],H))
def zNO (D:Dyn)(n:Nat)(vs:List AV)(H:AH):Rs:=
 hd vs fun a vs=>hd vs fun b vs=>hd vs fun c vs=>
 tld (aU [a,b,c] H) H.next fun H=>
 bV (wR a) fun d=>
 bV (fAd 1 d) fun e=>
 bV (ld1 e H) fun f=>
 bV (wR c) fun g=>
 bV (fAd 6 g) fun h=>
 bR (stN 1 h f H) fun i H=>
 bV (ldN 3 b H) fun k=>
 bV (wR c) fun m=>
 bV (fAd 2 m) fun o=>
 bR (stN 3 o k H) fun p H=>
 some (.ret (.tuple []),H)
def f65 (D:Dyn)(n:Nat)(vs:List AV)(H:AH):Option (AV×AH):=
 yR (hd vs fun a vs=>hd vs fun b vs=>nl vs <|
 bA (bxV 59 b) H fun c H=>
 bV (wR a) fun d=>
 bV (fAd 0 d) fun e=>
 bV (ld1 e H) fun f=>
 bV (wR a) fun g=>
 bV (fAd 3 g) fun h=>
 bV (ld1 h H) fun i=>
 bV (lnSl i) fun k=>
 jb 0 (qW n (zFu D n) [a,c,f,i,k,(.int .i64 (.ofNat 0))] H) (zNO D n))
def h65:Hint:=(.s .o (.s .o (.s (.s .o (.b [0,3,4] (.l [0,3,4,16,17,18] (.s .o (.s (.cr .o .o) (.s (.b0 (.s .o (.s .o (.c [0,3,4,16,17,18] .o .o)))) .o)))))) (.s (.t [0,3,4] aU) (.s .o .o)))))
theorem zNP (D:Dyn)(n:Nat):f65 D n=zNo (s65 D n) D n 65 Tryz.f65 h65:=by kernel_rfl
theorem zFv:zAJ Tryz.f65 h65=[(zCr.code,[0,3,4],aU)]:=by kernel_rfl
theorem zIA: ∀x∈zAJ Tryz.f65 h65,YK PP Tryz.f65.ntmps 65 x.1 x.2.1 x.2.2:=by
 rw[zFv];intro x hx;simp only[List.mem_cons,List.not_mem_nil,or_false]at hx;subst hx;exact zHl
theorem zFw {D:Dyn}(hD:DG D)(n:Nat):FI 65 (f65 D n):=zLm X_ok hD (SOk.nil) Tryz.func65 (zDN (by kernel_rfl) zIA) (zNP D n)
def s90 (D:Dyn)(n:Nat):Tb:=⟨X,[]⟩
def zFk (D:Dyn)(n:Nat)(vs:List AV)(H:AH):Rs:=
 hd vs fun a vs=>hd vs fun b vs=>hd vs fun c vs=>hd vs fun d vs=>hd vs fun e vs=>
 bV (qO .lss e d) fun f=>
 cnd f (bV (jL 1 c e) fun g=>
 bV (ld1 g H) fun h=>
 bV (jO h) fun i=>
 bV (qO .add (.int .i64 (.ofNat 1)) i) fun k=>
 bV (qO .add b k) fun m=>
 bV (qO .add e (.int .i64 (.ofNat 1))) fun o=>
 some (.norm [a,m,c,d,o],H))
 (some (.exit 0 [a,b],H))
def zFj (D:Dyn)(n:Nat)(vs:List AV)(H:AH):Rs:=
 hd vs fun a vs=>hd vs fun b vs=>hd vs fun c vs=>hd vs fun d vs=>
 bV (qO .lss d c) fun e=>
 cnd e (bV (jL 1 b d) fun f=>
 bV (ld1 f H) fun g=>
 bV (jO g) fun h=>
 bV (qO .add (.int .i64 (.ofNat 1)) h) fun i=>
 bV (qO .add a i) fun k=>
 bV (qO .add d (.int .i64 (.ofNat 1))) fun m=>
 some (.norm [k,b,c,m],H))
 (some (.exit 2 [a],H))
def zNB (D:Dyn)(n:Nat)(vs:List AV)(H:AH):Rs:=
 hd vs fun a vs=>
 bV (some a) fun b=>some (.ret b,H)
def zNA (D:Dyn)(n:Nat)(vs:List AV)(H:AH):Rs:=
 hd vs fun a vs=>hd vs fun b vs=>
 bV (fAd 2 a) fun c=>
 bV (ld1 c H) fun d=>
 bV (lnSl d) fun e=>
 jb 2 (qW n (zFj D n) [b,d,e,(.int .i64 (.ofNat 0))] H) (zNB D n)
def f90 (D:Dyn)(n:Nat)(vs:List AV)(H:AH):Option (AV×AH):=
 yR (hd vs fun a vs=>nl vs <|
 bA (bxV 93 a) H fun b H=>
 bV (fAd 3 b) fun c=>
 bV (ld1 c H) fun d=>
 bV (lnSl d) fun e=>
 bV (qO .mul (.int .i64 (.ofNat 16)) e) fun f=>
 bV (qO .add (.int .i64 (.ofNat 2)) f) fun g=>
 bV (fAd 1 b) fun h=>
 bV (ld1 h H) fun i=>
 bV (lnSl i) fun k=>
 jb 0 (qW n (zFk D n) [b,g,i,k,(.int .i64 (.ofNat 0))] H) (zNA D n))
def h90:Hint:=(.s .o (.s .o (.s (.s .o (.b [1,3] (.l [1,3,14,15,16] (.s .o (.s (.cr .o .o) (.s (.b0 (.s .o .o)) .o)))))) (.s (.s .o (.b [3] (.l [3,27,28,29] (.s .o (.s (.cr .o .o) (.s (.b0 (.s .o .o)) .o)))))) (.s .o .o)))))
theorem zBw {D:Dyn}(hD:DG D)(n:Nat):FI 90 (f90 D n):=qS (n:=n) (h:=h90) X_ok hD (SOk.nil) Tryz.func90 (by kernel_rfl) (by kernel_rfl)
def s72 (D:Dyn)(n:Nat):Tb:=⟨X,[]⟩
def f72 (D:Dyn)(n:Nat)(vs:List AV)(H:AH):Option (AV×AH):=
 yR (hd vs fun a vs=>nl vs <|
 bV (jO a) fun b=>
 bV (qO .geq b (.int .i64 (.ofNat 1))) fun c=>
 jn (wnt c true (bV (jO a) fun d=>
 bV (qO .leq d (.int .i64 (.ofNat 40))) fun e=>
 some (.norm [e],H)) (some (.norm [qM],H))) fun vs H=>hd vs fun f vs=>
 bV (pk3 (some c) (some f) (some (.bool false))) fun g=>
 bV (some g) fun h=>some (.ret h,H))
def h72:Hint:=(.s .o (.s .o .o))
theorem zBA {D:Dyn}(hD:DG D)(n:Nat):FI 72 (f72 D n):=qS (n:=n) (h:=h72) X_ok hD (SOk.nil) Tryz.func72 (by kernel_rfl) (by kernel_rfl)
def s71 (D:Dyn)(n:Nat):Tb:=⟨X,[(72,f72 D n)]⟩
def U8 (D:Dyn)(n:Nat)(vs:List AV)(H:AH):Rs:=
 hd vs fun a vs=>hd vs fun b vs=>hd vs fun c vs=>hd vs fun d vs=>
 bV (qO .lss d c) fun e=>
 cnd e (bV (jL 1 b d) fun f=>
 bV (ld1 f H) fun g=>
 bR (f72 D n [g] H) fun h H=>
 bV (aun .not h) fun i=>
 jn (wnt i false (bV (qO .gtr d (.int .i64 (.ofNat 0))) fun k=>
 some (.norm [k],H)) (some (.norm [qM],H))) fun vs H=>hd vs fun m vs=>
 jn (wnt m true (bV (fAd 1 a) fun o=>
 bV (ld1 o H) fun p=>
 bV (qO .sub d (.int .i64 (.ofNat 1))) fun r=>
 bV (jL 1 p r) fun t=>
 bV (ld1 t H) fun u=>
 bV (jW .geq u g) fun v=>
 some (.norm [v],H)) (some (.norm [qM],H))) fun vs H=>hd vs fun w vs=>
 jn (wnt i false (bV (pk3 (some m) (some w) (some (.bool false))) fun x=>
 some (.norm [x],H)) (some (.norm [qM],H))) fun vs H=>hd vs fun y vs=>
 bV (pk3 (some i) (some (.bool true)) (some y)) fun z=>
 cnd z (bV (some (.bool false)) fun B=>some (.ret B,H))
 (bV (qO .add d (.int .i64 (.ofNat 1))) fun C=>
 some (.norm [a,b,c,C],H)))
 (some (.exit 0 [a],H))
def zFq (D:Dyn)(n:Nat)(vs:List AV)(H:AH):Rs:=
 hd vs fun a vs=>hd vs fun b vs=>hd vs fun c vs=>
 bV (qO .lss c b) fun d=>
 cnd d (bV (jL 1 a c) fun e=>
 bV (ld1 e H) fun f=>
 bV (jO f) fun g=>
 bV (qO .gtr g (.int .i64 (.ofNat 200))) fun h=>
 cnd h (bV (some (.bool false)) fun i=>some (.ret i,H))
 (bV (qO .add c (.int .i64 (.ofNat 1))) fun k=>
 some (.norm [a,b,k],H)))
 (some (.exit 2 [],H))
def zLr (D:Dyn)(n:Nat)(vs:List AV)(H:AH):Rs:=
 bV (some (.bool true)) fun a=>some (.ret a,H)
def zFp (D:Dyn)(n:Nat)(vs:List AV)(H:AH):Rs:=
 hd vs fun a vs=>hd vs fun b vs=>hd vs fun c vs=>
 bV (qO .lss c b) fun d=>
 cnd d (bV (jL 3 a c) fun e=>
 bV (ldN 3 e H) fun f=>
 bA (bxV 59 (.agg [(.int .i64 (.ofNat 0)),(.int .i64 (.ofNat 0)),(.int .u64 (.ofNat 0))])) H fun g H=>
 bR (stN 3 g f H) fun h H=>
 bV (fAd 0 g) fun i=>
 bV (ld1 i H) fun k=>
 bV (qO .lss k (.int .i64 (.ofNat 1))) fun m=>
 jn (wnt m false (bV (fAd 0 g) fun o=>
 bV (ld1 o H) fun p=>
 bV (qO .geq p (.int .i64 (.ofNat 8192))) fun r=>
 some (.norm [r],H)) (some (.norm [qM],H))) fun vs H=>hd vs fun t vs=>
 bV (pk3 (some m) (some (.bool true)) (some t)) fun u=>
 jn (wnt u false (bV (fAd 1 g) fun v=>
 bV (ld1 v H) fun w=>
 bV (qO .lss w (.int .i64 (.ofNat 0))) fun x=>
 some (.norm [x],H)) (some (.norm [qM],H))) fun vs H=>hd vs fun y vs=>
 bV (pk3 (some u) (some (.bool true)) (some y)) fun z=>
 jn (wnt z false (bV (fAd 1 g) fun B=>
 bV (ld1 B H) fun C=>
 bV (qO .gtr C (.int .i64 (.ofNat 2147483647))) fun E=>
 some (.norm [E],H)) (some (.norm [qM],H))) fun vs H=>hd vs fun F vs=>
 bV (pk3 (some z) (some (.bool true)) (some F)) fun G=>
 cnd G (bV (some (.bool false)) fun I=>some (.ret I,H))
 (bV (qO .add c (.int .i64 (.ofNat 1))) fun J=>
 some (.norm [a,b,J],H)))
 (some (.exit 4 [],H))
def zLq (D:Dyn)(n:Nat)(vs:List AV)(H:AH):Rs:=
 bV (some (.bool true)) fun a=>some (.ret a,H)
def U9 (D:Dyn)(n:Nat)(vs:List AV)(H:AH):Rs:=
 hd vs fun a vs=>
 bV (fAd 0 a) fun b=>
 bV (ld1 b H) fun c=>
 cnd c (bV (fAd 2 a) fun d=>
 bV (ld1 d H) fun e=>
 bV (lnSl e) fun f=>
 bV (fAd 1 a) fun g=>
 bV (ld1 g H) fun h=>
 bV (lnSl h) fun i=>
 bV (qO .neq f i) fun k=>
 jn (wnt k false (bV (fAd 3 a) fun m=>
 bV (ld1 m H) fun o=>
 bV (lnSl o) fun p=>
 bV (qO .neq p (.int .i64 (.ofNat 0))) fun r=>
 some (.norm [r],H)) (some (.norm [qM],H))) fun vs H=>hd vs fun t vs=>
 bV (pk3 (some k) (some (.bool true)) (some t)) fun u=>
 cnd u (bV (some (.bool false)) fun v=>some (.ret v,H))
 (bV (fAd 2 a) fun w=>
 bV (ld1 w H) fun x=>
 bV (lnSl x) fun y=>
 jb 2 (qW n (zFq D n) [x,y,(.int .i64 (.ofNat 0))] H) (zLr D n)))
 (bV (fAd 1 a) fun z=>
 bV (ld1 z H) fun B=>
 bV (lnSl B) fun C=>
 bV (qO .eql C (.int .i64 (.ofNat 0))) fun E=>
 jn (wnt E false (bV (fAd 2 a) fun F=>
 bV (ld1 F H) fun G=>
 bV (lnSl G) fun I=>
 bV (qO .neq I (.int .i64 (.ofNat 0))) fun J=>
 some (.norm [J],H)) (some (.norm [qM],H))) fun vs H=>hd vs fun K vs=>
 bV (pk3 (some E) (some (.bool true)) (some K)) fun M=>
 jn (wnt M false (bV (fAd 3 a) fun N=>
 bV (ld1 N H) fun O=>
 bV (lnSl O) fun P=>
 bV (fAd 1 a) fun Q=>
 bV (ld1 Q H) fun R=>
 bV (lnSl R) fun T=>
 bV (qO .add T (.int .i64 (.ofNat 1))) fun U=>
 bV (qO .neq P U) fun V=>
 some (.norm [V],H)) (some (.norm [qM],H))) fun vs H=>hd vs fun W vs=>
 bV (pk3 (some M) (some (.bool true)) (some W)) fun Y=>
 cnd Y (bV (some (.bool false)) fun Z=>some (.ret Z,H))
 (bV (fAd 3 a) fun a0=>
 bV (ld1 a0 H) fun a1=>
 bV (lnSl a1) fun a2=>
 jb 4 (qW n (zFp D n) [a1,a2,(.int .i64 (.ofNat 0))] H) (zLq D n)))
def f71 (D:Dyn)(n:Nat)(vs:List AV)(H:AH):Option (AV×AH):=
 yR (hd vs fun a vs=>nl vs <|
 bA (bxV 93 a) H fun b H=>
 bV (fAd 1 b) fun c=>
 bV (ld1 c H) fun d=>
 bV (lnSl d) fun e=>
 jb 0 (qW n (U8 D n) [b,d,e,(.int .i64 (.ofNat 0))] H) (U9 D n))
def h71:Hint:=(.s .o (.s (.s .o (.b [1] (.l [1,10,11,12] (.s .o (.s (.cr .o .o) (.s (.b0 (.s .o (.s .o (.cl (.s .o .o) .o)))) .o)))))) (.s (.s .o (.cl (.s (.s .o (.cl (.s .o .o) .o)) (.s (.s .o (.b [] (.l [51,52,53] (.s .o (.s (.cr .o .o) (.s (.b0 (.s .o (.s .o (.cl (.s .o .o) .o)))) .o)))))) (.s .o .o))) .o)) (.s (.s .o (.cl (.s .o .o) .o)) (.s (.s .o (.b [] (.l [82,83,84] (.s .o (.s (.cr .o .o) (.s (.b0 (.s .o (.s .o (.cl (.s .o .o) .o)))) .o)))))) (.s .o .o))))))
theorem UA {D:Dyn}(hD:DG D)(n:Nat):FI 71 (f71 D n):=qS (n:=n) (h:=h71) X_ok hD (sc (zBA hD n) (SOk.nil)) Tryz.func71 (by kernel_rfl) (by kernel_rfl)
def s126 (D:Dyn)(n:Nat):Tb:=⟨X,[(90,f90 D n)]⟩
def aY (D:Dyn)(n:Nat)(vs:List AV)(H:AH):Rs:=
 hd vs fun a vs=>hd vs fun b vs=>hd vs fun c vs=>hd vs fun d vs=>hd vs fun e vs=>hd vs fun f vs=>hd vs fun g vs=>
 bV (qO .gtr e (.int .i64 (.ofNat 0))) fun h=>
 jn (wnt h true (bV (qO .gtr d b) fun i=>
 some (.norm [i],H)) (some (.norm [qM],H))) fun vs H=>hd vs fun k vs=>
 bV (pk3 (some h) (some k) (some (.bool false))) fun m=>
 cnd m (bV (some e) fun o=>some (.ret o,H))
 (bV (qO .add g (.int .i64 (.ofNat 1))) fun p=>
 some (.norm [a,b,c,d,f,p],H))
def Y4 (D:Dyn)(n:Nat)(vs:List AV)(H:AH):Rs:=
 hd vs fun a vs=>hd vs fun b vs=>hd vs fun c vs=>hd vs fun d vs=>hd vs fun e vs=>hd vs fun f vs=>
 bV (qO .lss f e) fun g=>
 cnd g (bV (fAd 1 a) fun h=>
 bV (ld1 h H) fun i=>
 bV (jL 1 i f) fun k=>
 bV (ld1 k H) fun m=>
 bV (jO m) fun o=>
 bV (qO .add (.int .i64 (.ofNat 1)) o) fun p=>
 bV (qO .add d p) fun r=>
 bV (fAd 0 a) fun t=>
 bV (ld1 t H) fun u=>
 jn (cnd u (bV (fAd 2 a) fun v=>
 bV (ld1 v H) fun w=>
 bV (jL 1 w f) fun x=>
 bV (ld1 x H) fun y=>
 bV (jO y) fun z=>
 bV (qO .add (.int .i64 (.ofNat 1)) z) fun B=>
 bV (qO .add r B) fun C=>
 some (.norm [a,b,c,C,f,e,f],H))
 (bV (qO .add r (.int .i64 (.ofNat 16))) fun E=>
 some (.norm [a,b,c,E,f,e,f],H))) (aY D n))
 (some (.exit 0 [c],H))
def zFU (D:Dyn)(n:Nat)(vs:List AV)(H:AH):Rs:=
 hd vs fun a vs=>
 bV (some a) fun b=>some (.ret b,H)
def UJ (D:Dyn)(n:Nat)(vs:List AV)(H:AH):Rs:=
 hd vs fun a vs=>hd vs fun b vs=>hd vs fun c vs=>hd vs fun d vs=>
 jb 0 (qW n (Y4 D n) [a,b,c,d,c,(.int .i64 (.ofNat 0))] H) (zFU D n)
def zIF (D:Dyn)(n:Nat)(vs:List AV)(H:AH):Option (AV×AH):=
 yR (hd vs fun a vs=>nl vs <|
 bA (bxV 93 a) H fun b H=>
 bV (ldN 4 b H) fun c=>
 bR (f90 D n [c] H) fun d H=>
 bV (qO .sub d (.int .i64 (.ofNat 2))) fun e=>
 bV (qO .quo e (.int .i64 (.ofNat 2))) fun f=>
 bV (fAd 1 b) fun g=>
 bV (ld1 g H) fun h=>
 bV (lnSl h) fun i=>
 bV (qO .sub i (.int .i64 (.ofNat 1))) fun k=>
 bV (fAd 0 b) fun m=>
 bV (ld1 m H) fun o=>
 bV (aun .not o) fun p=>
 jn (cnd p (bV (qO .sub k (.int .i64 (.ofNat 1))) fun r=>
 some (.norm [b,f,r,(.int .i64 (.ofNat 16))],H))
 (some (.norm [b,f,k,(.int .i64 (.ofNat 0))],H))) (UJ D n))
def h126:Hint:=(.s .o (.s .o (.s .o (.s .o (.s (.s .o (.c [1,3,4,5] (.s .o .o) .o)) (.s (.s .o (.b [4] (.l [1,3,4,5,20,21] (.s .o (.s (.cr .o .o) (.s (.b0 (.s .o (.s .o (.s (.s .o (.c [1,3,4,5,6,20,21] .o .o)) (.s .o (.cl (.s .o .o) .o)))))) .o)))))) (.s .o .o)))))))
theorem zFV {D:Dyn}(hD:DG D)(n:Nat):FI 126 (zIF D n):=qS (n:=n) (h:=h126) X_ok hD (sc (zBw hD n) (SOk.nil)) Tryz.func126 (by kernel_rfl) (by kernel_rfl)
def s73 (D:Dyn)(n:Nat):Tb:=⟨X,[]⟩
def f73 (D:Dyn)(n:Nat)(vs:List AV)(H:AH):Option (AV×AH):=
 yR (hd vs fun a vs=>nl vs <|
 bV (vJ .eql (eqS a .nilSlice)) fun b=>
 cnd b (bV (some .nilSlice) fun c=>some (.ret c,H))
 (bA (wQ 9 1 0 [(.str 0 0)] []) H fun d H=>
 bR (apP 9 1 16 d a H) fun e H=>
 bV (some e) fun f=>some (.ret f,H)))
def h73:Hint:=(.s .o (.s (.s .o (.cl (.s .o .o) .o)) (.s .o .o)))
theorem zBz {D:Dyn}(hD:DG D)(n:Nat):FI 73 (f73 D n):=qS (n:=n) (h:=h73) X_ok hD (SOk.nil) Tryz.func73 (by kernel_rfl) (by kernel_rfl)
end Go.Eng.Sh
end
end
