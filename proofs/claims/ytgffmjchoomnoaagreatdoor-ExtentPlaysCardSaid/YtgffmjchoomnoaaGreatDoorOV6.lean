/- A checked evaluator for the program, and what it tells, part 6: no condition. -/
import Derived.Test.YtgffmjchoomnoaaGreatDoorOV5
set_option linter.all false
set_option maxHeartbeats 8000000
set_option maxRecDepth 20000
section
namespace Go.Eng
theorem zBt {t:T AObj} : ∀(n A:Nat),(∀C,A<=C->t.get C=none)->zCC t A n=true
 | 0,_,_=>rfl
 | n+1,A,h=>by
  simp only[zCC,h A (Nat.le_refl _),yE];exact zBt n _ fun C hC=>h C (by simp only[Nat.succ_eq_add_one]at hC;omega)
theorem zAF: ∀ {l e:List (AV×AV)},(∀x∈l,vV x.1 e=none)->l.Pairwise (fun a b=>aveq b.1 a.1=false)->J0 e l=e++l
 | [],e,_,_=>by simp[J0]
 | x::l,e,h,hp=>by
  rw[List.pairwise_cons]at hp;have h1:ups e x=e++[x]:=by
   obtain⟨k,v⟩:=x;simp only[ups,Sh.setA_none (h (k,v) (zC ..))]
  have fa: ∀ {k:AV} {a b:List (AV×AV)},vV k a=none->vV k b=none->vV k (a++b)=none:=by
   intro k a b
   induction a with
   | nil=>intro _ h;exact h
   | cons c a ih=>
    intro h1 h2;simp only[List.cons_append,vV]at h1⊢
    cases e:aveq k c.1 with
    | true=>rw[e]at h1;cases h1
    | false=>rw[e]at h1;simp only[cond_false]at h1⊢;exact ih h1 h2
  simp only[J0,h1];rw[zAF (l:=l) (fun y hy=>fa (h y (zA _ hy)) (by
   simp only[vV,hp.1 y hy,cond_false])) hp.2]
  simp
end Go.Eng
namespace Go.Eng.Sh
open Go.Nd (Ptr yH)
open Go.Bt
def gO:PN->List Ptr->PN
 | q,[]=>q
 | q,p::gl=>gO (zBL p.sum.toNat q) gl
theorem JU: ∀(gl:List Ptr) (q:PN) (p:Ptr),gO q (gl++[p])=zBL p.sum.toNat (gO q gl)
 | [],_,_=>rfl
 | _::gl,q,p=>by simp only[List.cons_append,gO,JU gl]
theorem zBK (s:Nat): ∀q:PN,(zBL s q).length<=q.length
 | []=>Nat.le_refl _
 | (t,n)::q=>by
  simp only[zBL];split
  ·simp
  ·have:=zBK s q;simp;omega
theorem zBJ (s:Nat): ∀ {q:PN} {x:Nat×Nd.Node},x∈zBL s q->x∈q
 | [],_,h=>h
 | (t,n)::q,x,h=>by
  simp only[zBL]at h;split at h
  ·exact zA _ h
  ·rcases List.mem_cons.1 h with h | h
   ·exact h▸zC ..
   ·exact zA _ (zBJ s h)
theorem VV {s t:Nat}(h:s≠t): ∀q:PN,qV s (zBL t q)=qV s q
 | []=>rfl
 | (a,n)::q=>by
  simp only[zBL];split
  ·rename_i e;simp only[qV];rw[if_neg (fun e2=>h (e2.symm.trans e))]
  ·simp only[qV,VV h q]
theorem Y7 {s:Nat} : ∀ {q:PN},qV s q=none->zBL s q=q
 | [],_=>rfl
 | (a,n)::q,h=>by
  simp only[qV]at h;split at h
  ·cases h
  ·rename_i e;simp only[zBL,if_neg e,Y7 h]
theorem Y6 {H:AH}{s:Nat} : ∀ {es:List (AV×AV)} {q:PN},xZ H es q->qV s q=none->zGk (.int .u64 (s:Nat)) es=none
 | [],[],_,_=>rfl
 | (k,v)::es,(t,nd)::q,h,hl=>by
  obtain⟨⟨rfl,_⟩,h2⟩:=h;simp only[qV]at hl;split at hl
  ·cases hl
  ·rename_i e;have e': ¬s=t:=fun h=>e h.symm
   simp only[zGk,zJ8,e',decide_false,cond_false,Y6 h2 hl]
 | [],_::_,h,_=>h.elim
 | _::_,[],h,_=>h.elim
theorem JV {s:Nat} : ∀ {gl:List Ptr} {q:PN},(∀p∈gl,s≠p.sum.toNat)->qV s (gO q gl)=qV s q
 | [],_,_=>rfl
 | p::gl,q,h=>by
  rw[gO,JV fun p hp=>h p (zA _ hp),VV (h p (zC ..))]
theorem dZ: ∀ {gl:List Ptr} {q:PN} {x:Nat×Nd.Node},x∈gO q gl->x∈q
 | [],_,_,h=>h
 | _::gl,_,_,h=>zBJ _ (dZ (gl:=gl) h)
theorem cB: ∀(gl:List Ptr) (q:PN),(gO q gl).length<=q.length
 | [],_=>Nat.le_refl _
 | _::gl,q=>Nat.le_trans (cB gl _) (zBK _ q)
theorem wM {s:Nat}{nd:Nd.Node} : ∀ {q:PN},qV s q=some nd->(s,nd)∈q
 | [],h=>by cases h
 | (t,n)::q,h=>by
  simp only[qV]at h;split at h
  ·rename_i e;subst e;simp only[z7]at h;subst h;exact zC ..
  ·exact zA _ (wM h)
theorem xZ.keys {H:AH} : ∀ {es:List (AV×AV)} {q:PN},xZ H es q-> ∀kv∈es,∃s,kv.1= .int .u64 ((s:Nat):Int)/\s∈q.map Prod.fst
 | [],[],_,_,h=>by simp at h
 | (k,v)::es,(t,nd)::q,hq,kv,hk=>by
  rcases List.mem_cons.1 hk with rfl | hk
  ·exact⟨t,hq.1.1,by simp⟩
  ·obtain⟨s,h1,h2⟩:=xZ.keys hq.2 kv hk;exact⟨s,h1,zA _ h2⟩
 | [],_::_,h,_,_=>h.elim
 | _::_,[],h,_,_=>h.elim
theorem xZ.dist {H:AH} : ∀ {es:List (AV×AV)} {q:PN},xZ H es q->(q.map Prod.fst).Nodup->es.Pairwise (fun a b=>aveq b.1 a.1=false)
 | [],[],_,_=>List.Pairwise.nil
 | (k,v)::es,(t,nd)::q,hq,hd=>by
  simp only[List.map_cons,List.nodup_cons]at hd;rw[List.pairwise_cons];refine⟨fun kv hkv=> ?_,xZ.dist hq.2 hd.2⟩;obtain⟨s,h1,h2⟩:=xZ.keys hq.2 kv hkv;rw[h1,hq.1.1,zJ8,decide_eq_false_iff_not];intro e;subst e;exact hd.1 h2
 | [],_::_,h,_=>h.elim
 | _::_,[],h,_=>h.elim
theorem xZ.append {H:AH}{es':List (AV×AV)}{q':PN}(h':xZ H es' q'): ∀ {es:List (AV×AV)} {q:PN},xZ H es q->xZ H (es++es') (q++q')
 | [],[],_=>h'
 | _::es,_::q,h=>⟨h.1,xZ.append h' h.2⟩
 | [],_::_,h=>h.elim
 | _::_,[],h=>h.elim
theorem xZ.isAg {H:AH}{es:List (AV×AV)}{q:PN}(h:xZ H es q):es.all (fun e=>keyOk [10] e.1&&Eng.isAg 4 e.2)=true:=by
 rw[List.all_eq_true];intro kv hkv;obtain⟨s,h1,_⟩:=h.keys kv hkv;obtain⟨nd,hn⟩:=h.mem kv hkv;obtain⟨l,h2,h3,h4⟩:=hn.cells;rw[h1,h2,zNb,Bool.true_and];simp only[Eng.isAg,yA,h3,h4,Nat.beq_refl,Bool.and_self]
noncomputable def AH.putB (H:AH)(A:Nat)(o:AObj)(k:Nat):AH:=⟨(H.put A o).h,H.next+k⟩
theorem zHW {H:AH}(hk:H.ok){A:Nat}(hA:A<H.next)(o:AObj)(k:Nat):Stp (fun B=>B=A) H (AH.putB H A o k)/\(AH.putB H A o k).h.get A=some o:=by
 have hg: ∀B,(AH.putB H A o k).h.get B=if B=A then some o else H.h.get B:=fun B=>AH.put_get H A o B
 refine⟨⟨fun B hB=> ?_, ?_,fun B _ hS=> ?_⟩, ?_⟩
 ·have hB:H.next+k<=B:=hB
  rw[hg,if_neg (by omega)];exact hk B (by omega)
 ·show H.next<=H.next+k;omega
 ·rw[hg,if_neg hS]
 ·rw[hg,if_pos rfl]
theorem zHi {H:AH}(hk:H.ok){F M:Nat}{fes es:List (AV×AV)}{f:PN}(hF:H.h.get F=some (.map [10] fes))(hM:H.h.get M=some (.map [10] es))(hne:F≠M)(hp:xZ H fes f):
  zKi [10] 1 (isAg 4) (.map F) (.map M) H=some (AH.putB H M (.map [10] (J0 es fes)) (1+1*fes.length)):=by
 have hb:Nat.beq F M=false:=by rw[Bool.eq_false_iff];intro h;exact hne (Nat.eq_of_beq_eq_true h)
 simp only[zKi,hF,hM,show aZ [10] [10]=true from rfl,hb,hp.isAg,Bool.not_false,Bool.and_self,cond_true,yE,zBt _ _ hk,yY,AH.putB,AH.put_next,Nat.add_assoc]
theorem zOd {H:AH}{M s:Nat}{es:List (AV×AV)}{q:PN}(hk:H.ok)(hM:H.h.get M=some (.map [10] es))(hp:xZ H es q):
  ∃es' H',dlM [10] (.map M) (.int .u64 (s:Nat)) H=some (.tuple [],H')/\H'.h.get M=some (.map [10] es')/\xZ H' es' (zBL s q)/\Stp (fun B=>B=M) H H':=by
 cases hl:qV s q with
 | none=>
  refine⟨es,H, ?_,hM,by rw[Y7 hl];exact hp,Stp.refl hk⟩;simp only[dlM,zNb,hM,show aZ [10] [10]=true from rfl,cond_true,Y6 hp hl]
 | some nd=>
  obtain⟨es',e1,e2,e3⟩:=hp.del s nd hl;have s1:Stp (fun B=>B=M) H (H.put M (.map [10] es')):=(Stp.refl hk).put (hk.lt hM) _ (.inr rfl);refine⟨es',H.put M (.map [10] es'), ?_,by rw[AH.put_get,if_pos rfl],e2.frame fun kv hkv nd2 hn=>hn.stp s1 fun B hB e=> ?_,s1⟩
  ·simp only[dlM,zNb,hM,show aZ [10] [10]=true from rfl,cond_true,e1,yY]
  ·subst e;exact hn.nblk hM (.inr (.inl ⟨_,_,rfl⟩)) hB
theorem zGi (D:Dyn)(n:Nat){H0 H:AH}{At Ac F M:Nat}{d c dr:AV}{root0 root:Ptr}{es:List (AV×AV)}{q:PN}{fes:List (AV×AV)}{f:PN}{g:AV}{gl:List Ptr}{last0 last:Nat}(ti:TI H0 At M d c root0 es q last0 dr)(hq: ∀s nd,qV s q=some nd->s<=last0)
  (ch:Ch H0 H At Ac F fes f g gl last0 last) (hgl: ∀p∈gl,∃s,p=pp s) (hl:last<=900000000) (hn:gl.length<n) (hql:q.length<=last0):
  ∃H' es',f65 D n [.ptr Ac 0, .agg (y6 root)] H=some (.tuple [],H')/\TI H' At M d c root es' (gO q gl++f) last dr/\Stp (fun B=>B=At\/B=M) H0 H':=by
 have tiH:=ti.prs ch.prs;have hfew:=ch.few;obtain⟨Ad,od,rfl⟩:=ti.hd;obtain⟨H1,A3,b1,p1,g1,m1,n1⟩:=box ch.prs.ok (.cells (y6 root) 59 1 false);have ch1:=ch.step p1;have ti1:=tiH.prs p1;have atlt:At<H0.next:=ti.ok.lt ti.gT
 have mlt:M<H0.next:=ti.ok.lt ti.gM
 have N0:=ch.prs.next;have N1:=p1.next
 have cC:=ch.dC;have cF:=ch.dF;have lC:=ch.ltC;have lF:=ch.ltF;have atM:At≠M:=fun e=>by have:=ti.gT;rw[e,ti.gM]at this;cases this
 have gM0: ∀B,Blk g B-> ¬B=M:=fun B hB e=>by have:=ch.gN B hB;omega
 have lp:=vB (b:=zFu D n) gl.length (fun i us H'=>us=[.ptr Ac 0, .ptr A3 0, .ptr At 0,g, .int .i64 (gl.length:Nat), .int .i64 (i:Nat)]/\Stp (fun B=>B=M) H1 H'/\ ∃esi,H'.h.get M=some (.map [10] esi)/\xZ H' esi (gO q (gl.take i))) (fun i us H' hi ⟨hus,st,esi,hM,hp⟩=>by
  subst hus;have hi':gl[i]∈gl:=zU hi;obtain⟨s,hs⟩:=hgl _ hi';have og:Own 3 59 H' g gl.length (gl.flatMap y6):=ch1.gg.mono st gM0;obtain⟨pq,i1,i2⟩:=uP.at (l:=gl) og.row hi;rw[hs]at i2;obtain⟨H2,A6,b2,p2,g2,m2,n2⟩:=box st.ok (.cells [.int .i64 ((0:Nat):Int), .int .i64 ((0:Nat):Int), .int .u64 ((0:Nat):Int)] 59 1 false);obtain⟨H3,e3,g3,s3,n3⟩:=yF p2.ok g2 (l':=y6 (pp s)) rfl rfl;have e3':stN 3 (.ptr A6 0) (.agg (y6 (pp s))) H2=some (qM,H3):=e3;have N2:=st.next;have N3:=p2.next
  have p3:Prs H' H3:=p2.fresh s3 (fun B hB=>by omega);have hM3:=Prs.get p3 st.ok hM;obtain⟨es4,H4,e4,hM4,hp4,s4⟩:=zOd (s:=s) p3.ok hM3 (hp.frame fun kv _ nd hn=>hn.prs p3);have gT3:H3.h.get At=some (.cells (jG (.ptr Ad od) c root0 M last0 dr) 100 1 false):=by
   rw[p3.keep _ (by omega) (fun x=>x),st.keep _ (by omega) atM];exact ti1.gT
  refine⟨_,H4, ?_,rfl,(st.trans (p3.mono fun _ _ x=>x.elim)).trans s4,es4,hM4, ?_⟩
  ·have hiI:((i:Nat):Int)< ((gl.length:Nat):Int):=by omega
   have f0:ld1 (.ptr A6 0) H3=some (.int .i64 ((1:Nat):Int)):=by rw[qL g3];rfl
   have f2:ld1 (.ptr A6 2) H3=some (.int .u64 (s:Nat)):=by rw[qL g3];rfl
   have f5:ld1 (.ptr At 5) H3=some (.map M):=by rw[qL gT3];rfl
   simp(maxSteps:=999999)(disch:=omega) only[zFu,eZ,hiI,i1,i2,b2,e3',f0,f5,f2,e4,zNN,Int.natCast_add]
  ·rw[zQ hi,JU,hs];exact hp4) n _ H1 ⟨rfl,Stp.refl p1.ok,es,ti1.gM,by simpa[gO]using ti1.pq⟩ hn
 obtain⟨m,us,H2,e2,rfl,st,esn,hM,hp⟩:=lp;rw[q9]at hp;have N2:=st.next
 have lastl:qW (m+1) (zFu D n) [.ptr Ac 0, .ptr A3 0, .ptr At 0,g, .int .i64 (gl.length:Nat), .int .i64 (gl.length:Nat)] H2=some (.exit 0 [.ptr Ac 0, .ptr A3 0, .ptr At 0],H2):=qY (by simp only[zFu,eZ,qA]);have gC2:H2.h.get Ac=some (.cells [.ptr At 0, .int .u64 (last:Nat), .map F,g] 120 1 false):=by rw[st.keep _ (by omega) (by omega)];exact ch1.gC
 have gF2:H2.h.get F=some (.map [10] fes):=by rw[st.keep _ (by omega) (by omega)];exact ch1.gF
 have gT2:H2.h.get At=some (.cells (jG (.ptr Ad od) c root0 M last0 dr) 100 1 false):=by rw[st.keep _ (by omega) atM];exact ti1.gT
 have g32:H2.h.get A3=some (.cells (y6 root) 59 1 false):=by rw[st.keep _ (by omega) (by omega)];exact g1
 have pf2:xZ H2 fes f:=ch1.pf.frame fun kv _ nd hn=>hn.stp st fun B hB e=>by subst e;exact hn.nblk ti1.gM (.inr (.inl ⟨_,_,rfl⟩)) hB
 have hup:=zHi st.ok gF2 hM (by omega) pf2;have hnone: ∀x∈fes,vV x.1 esn=none:=fun x hx=>by
  obtain⟨s,hs,hm⟩:=ch1.pf.keys x hx;rw[hs];refine(hp.find s).2 ?_
  cases hk:qV s (gO q gl)with
  | none=>rfl
  | some nd2=>
   have m1:=dZ (wM hk);obtain⟨nd3,h3⟩:=vU (q:=q) (s:=s) (List.mem_map.2 ⟨_,m1,rfl⟩);obtain⟨nd4,h4⟩:=vU hm;have:=hq _ _ h3;have:=ch.fs _ _ h4;omega
 rw[zAF hnone (ch1.pf.dist ch.fd)]at hup;obtain⟨s3,g3M⟩:=zHW st.ok (st.ok.lt hM) (.map [10] (esn++fes)) (1+1*fes.length);have hnx:H2.next<=(AH.putB H2 M (.map [10] (esn++fes)) (1+1*fes.length)).next:=s3.next
 generalize AH.putB H2 M (.map [10] (esn++fes)) (1+1*fes.length)=H3 at hup s3 g3M hnx;have hmt:aU [.ptr Ac 0, .ptr A3 0, .ptr At 0] H2=some H3:=by
  have c1:ld1 (.ptr Ac (0+2)) H2=some (.map F):=by rw[qL gC2];rfl
  have c2:ld1 (.ptr At (0+5)) H2=some (.map M):=by rw[qL gT2];rfl
  have d1:Nat.blt F H2.next=true:=by rw[zM];omega
  have d2:Nat.blt M H2.next=true:=by rw[zM];omega
  have d3:Nat.blt At H2.next=true:=by rw[zM];omega
  simp only[aU,c1,c2,d1,d2,d3,Bool.and_self,cond_true,hup]
 have gC3:H3.h.get Ac=some (.cells [.ptr At 0, .int .u64 (last:Nat), .map F,g] 120 1 false):=by rw[s3.keep _ (by omega) (by omega)];exact gC2
 have gT3:H3.h.get At=some (.cells (jG (.ptr Ad od) c root0 M last0 dr) 100 1 false):=by rw[s3.keep _ (by omega) atM];exact gT2
 have g33:H3.h.get A3=some (.cells (y6 root) 59 1 false):=by rw[s3.keep _ (by omega) (by omega)];exact g32
 obtain⟨H4,e4,g4,s4,n4⟩:=Q6 s3.ok gT3 (o:=6) (x:= .int .u64 (last:Nat)) rfl (by simp[jG]);have g4:H4.h.get At=some (.cells (jG (.ptr Ad od) c root0 M last dr) 100 1 false):=g4;have g34:H4.h.get A3=some (.cells (y6 root) 59 1 false):=by rw[s4.keep _ (by omega) (by omega)];exact g33
 have e5:=V5 (o:=2) (n:=3) (x:= .agg (y6 root)) g4 (by decide) rfl rfl (by simp[jG]);have g5:(H4.put At (.cells ((jG (.ptr Ad od) c root0 M last dr).take 2++qT (.agg (y6 root))++(jG (.ptr Ad od) c root0 M last dr).drop (2+3)) 100 1 false)).h.get At=some (.cells (jG (.ptr Ad od) c root M last dr) 100 1 false):=by rw[AH.put_get,if_pos rfl];rfl
 have s5:Stp (fun B=>B=At) H4 (H4.put At (.cells ((jG (.ptr Ad od) c root0 M last dr).take 2++qT (.agg (y6 root))++(jG (.ptr Ad od) c root0 M last dr).drop (2+3)) 100 1 false)):=(Stp.refl s4.ok).put (s4.ok.lt g4) _ (.inr rfl);generalize H4.put At (.cells ((jG (.ptr Ad od) c root0 M last dr).take 2++qT (.agg (y6 root))++(jG (.ptr Ad od) c root0 M last dr).drop (2+3)) 100 1 false)=H5 at e5 g5 s5;have N3:=s3.next;have N4:=s4.next;have N5:=s5.next
 have fr: ∀ {v:AV} {nd:Nd.Node},y9 H2 v nd->y9 H5 v nd:=fun {v nd} hn=>by
  have h3:y9 H3 v nd:=hn.stp s3 fun B hB e=>by subst e;exact hn.nblk hM (.inr (.inl ⟨_,_,rfl⟩)) hB
  have h4:y9 H4 v nd:=h3.stp s4 fun B hB e=>by subst e;exact h3.nblk gT3 (.inl ⟨_,_,_,_,rfl,fun _ _ e=>by cases e⟩) hB
  exact h4.stp s5 fun B hB e=>by subst e;exact h4.nblk g4 (.inl ⟨_,_,_,_,rfl,fun _ _ e=>by cases e⟩) hB
 refine⟨H5,esn++fes, ?_,⟨s5.ok,g5, ?_, ?_,⟨_,_,rfl⟩, ?_⟩,⟨s5.ok,by omega,fun B hB hS=> ?_⟩⟩
 ·have hble:Nat.ble H2.next H3.next=true:=by rw[zR];exact hnx
  have c0:ld1 (.ptr Ac 0) H1=some (.ptr At 0):=by rw[qL ch1.gC];rfl
  have c3:ld1 (.ptr Ac 3) H1=some g:=by rw[qL ch1.gC];rfl
  have c1:ld1 (.ptr Ac 1) H3=some (.int .u64 (last:Nat)):=by rw[qL gC3];rfl
  have r3:ldN 3 (.ptr A3 0) H4=some (.agg (y6 root)):=by rw[qQ g34];rfl
  simp(maxSteps:=999999)(disch:=omega) only[f65,eZ,b1,c0,c3,ch1.gg.row.lnSl,e2,lastl,zNO,hmt,tld,hble,cond_true,c1,e4,r3,e5]
 ·rw[s5.keep _ (by omega) (fun e=>atM e.symm),s4.keep _ (by omega) (fun e=>atM e.symm)];exact g3M
 ·exact xZ.append (pf2.frame fun kv _ nd hn=>fr hn) (hp.frame fun kv _ nd hn=>fr hn)
 ·have h1:=cB gl q;have h2:=ch.fl;simp only[zI];omega
 ·have a1: ¬B=At:=fun e=>hS (.inl e)
  have a2: ¬B=M:=fun e=>hS (.inr e)
  rw[s5.keep B (by omega) a1,s4.keep B (by omega) a1,s3.keep B (by omega) a2,st.keep B (by omega) a2,p1.keep B (by omega) (fun x=>x),ch.prs.keep B hB (fun x=>x)]
end Go.Eng.Sh
end
section
namespace Go.Bt
open Go.Nd (Str Kvs Ptr qP)
theorem WF.wr: ∀ {h:Nat} {t:Tr h},WF h none none t->WR h t
 | 0,_,w=>w
 | _+1,_,w=>⟨w.1,w.2.1,w.2.2.2⟩
theorem WX.wr: ∀ {h:Nat} {t:Tr h},WX h none none t->(match h,t with | 0,l=>(l:Kvs)≠[] | _+1,t=>t.1≠[])->j9 h t<=500->WR h t
 | 0,_,w,hne,hz=>⟨w.1,hne,hz⟩
 | _+1,_,w,hne,hz=>⟨w.1,hne,hz⟩
end Go.Bt
namespace Go.Eng.Sh
open Go.Nd (Ptr yH qP Kvs)
open Go.Bt
def pZ:Ptr:=⟨((0:Nat):Int),((0:Nat):Int),((0:Nat):Int)⟩
def zH5 (q:PN)(root:Ptr)(kv:Kvs):Prop:=(root=pZ/\kv=[])\/ ∃s h nd,∃t:Bt.Tr h,∃S:List Ptr,root=pp s/\qV s q=some nd/\jF (Qf q []) h nd t S/\WR h t/\(pp s::S).Nodup/\con h t=kv
theorem wD.here {α:Type}{Q:Ptr->Option Nd.Node}{R:Nd.Node->α->List Ptr->Prop}(hr: ∀nd t S,R nd t S-> ∀p∈S,∃nd,Q p=some nd): ∀ {ps:List Ptr} {ts:List α} {S:List Ptr},wD Q R ps ts S-> ∀p∈S,∃nd,Q p=some nd
 | [],[],_,h=>by subst h;simp
 | p::ps,t::ts,_,⟨nd,S1,S2,a,b,c,e⟩=>fun x hx=>by
  subst e;rcases List.mem_cons.1 hx with rfl | hx
  ·exact⟨nd,a⟩
  ·rcases List.mem_append.1 hx with hx | hx
   ·exact hr _ _ _ b x hx
   ·exact wD.here hr c x hx
 | [],_::_,_,h=>h.elim
 | _::_,[],_,h=>h.elim
theorem jF.here {Q:Ptr->Option Nd.Node} : ∀ {h:Nat} {nd:Nd.Node} {t:Bt.Tr h} {S:List Ptr},jF Q h nd t S-> ∀p∈S,∃nd,Q p=some nd
 | 0,_,_,_,w=>by obtain⟨_,rfl⟩:=w;simp
 | h+1,_,_,_,w=>wD.here (fun _ _ _ hr=>jF.here hr) w.2.2.2
theorem zKM {q f:PN}{gl T Fr R:List Ptr}{last0:Nat}(hq: ∀s nd,qV s q=some nd->s<=last0)(hf: ∀s nd,qV s f=some nd->last0<s)(hT:T.Perm (Fr++R))(hG:(gl++R).Nodup)(hgl: ∀p∈gl,∃s,p=pp s)(hFr: ∀p∈Fr,∃j,p=pp j/\last0<j)(hFn:Fr.Nodup)(hR: ∀p∈R,∃nd,Qf q [] p=some nd):
  T.Nodup/\ ∀p∈T,∀nd,Qf q f p=some nd->Qf (gO q gl++f) [] p=some nd:=by
 have hRold: ∀p∈R,∃s nd,p=pp s/\qV s q=some nd/\s<=last0:=fun p hp=>by
  obtain⟨nd,h⟩:=hR p hp;obtain⟨s,rfl,h1 | ⟨_,h1⟩⟩:=uI h
  ·simp[qV]at h1
  ·exact⟨s,nd,rfl,h1,hq _ _ h1⟩
 obtain⟨_,hRn,hdis⟩:=List.nodup_append.1 hG;refine⟨hT.nodup_iff.2 (List.nodup_append.2 ⟨hFn,hRn,fun a ha b hb e=> ?_⟩),fun p hp nd h=> ?_⟩
 ·obtain⟨j,rfl,hj⟩:=hFr a ha;obtain⟨s,nd,rfl,_,hs⟩:=hRold b hb;have:=aS e;omega
 ·obtain⟨s,rfl,h1 | ⟨h0,h1⟩⟩:=uI h
  ·rw[YL];simp only[qV];have hs:=hf _ _ h1;rw[kI]
   cases hk:qV s (gO q gl)with
   | none=>exact h1
   | some n2=>
    obtain⟨n3,h3⟩:=vU (List.mem_map.2 ⟨_,dZ (wM hk),rfl⟩);have:=hq _ _ h3;simp only at this;omega
  ·rw[YL];simp only[qV];have hs:=hq _ _ h1;have hpR:pp s∈R:=by
    rcases List.mem_append.1 (hT.mem_iff.1 hp)with e | e
    ·obtain⟨j,e,hj⟩:=hFr _ e;have:=aS e;omega
    ·exact e
   rw[kI,JV fun p' hp' e=> ?_,h1];obtain⟨s',rfl⟩:=hgl p' hp';have:s=s':=by simpa[pp]using e
   subst this;exact hdis _ hp' _ hpR rfl
theorem zBj {q f:PN}{gl:List Ptr}{last0 last:Nat}(hq: ∀s nd,qV s q=some nd->s<=last0)(hf: ∀s nd,qV s f=some nd->last0<s/\s<=last)(hl:last0<=last): ∀s nd,qV s (gO q gl++f)=some nd->s<=last:=fun s nd h=>by
 rw[kI]at h
 cases hk:qV s (gO q gl)with
 | none=>rw[hk]at h;exact(hf _ _ h).2
 | some n2=>
  obtain⟨n3,h3⟩:=vU (List.mem_map.2 ⟨_,dZ (wM hk),rfl⟩);have:=hq _ _ h3;simp only at this;omega
theorem wD.perm_one {α:Type}{Q:Ptr->Option Nd.Node}{R:Nd.Node->α->List Ptr->Prop}{ps:List Ptr}{t:α}{S:List Ptr}(h:wD Q R ps [t] S): ∃p nd S1,ps=[p]/\Q p=some nd/\R nd t S1/\S=p::S1:=by
 match ps,h with
 | [p],⟨nd,S1,S2,a,b,c,e⟩=>exact⟨p,nd,S1,rfl,a,b,by simp only[wD]at c;rw[e,c,List.append_nil]⟩
 | _::_::_,⟨_,_,_,_,_,c,_⟩=>exact c.elim
 | [],h=>exact h.elim
theorem CutsN.one_inv {nd:Nd.Node}{nds:List Nd.Node}{ss:List Str}(h:CutsN nd nds ss)(hz:Nd.size nd<=500):nds=[nd]/\ss=[]:=by
 cases h with
 | one _=>exact⟨rfl,rfl⟩
 | more h1=>omega
theorem CutsN.more_inv {nd:Nd.Node}{nds:List Nd.Node}{ss:List Str}(h:CutsN nd nds ss)(hz:500<Nd.size nd):ss≠[]:=by
 cases h with
 | one h1=>omega
 | more h1=>simp
def zJn (H0 H':AH)(At M:Nat)(d c dr:AV)(low top:Nat)(kv:Kvs):Prop:= ∃root es q last,TI H' At M d c root es q last dr/\Stp (fun B=>B=At\/B=M) H0 H'/\(∀s nd,qV s q=some nd->s<=last)/\q.length<=last/\low<=last/\last<=top/\zH5 q root kv
theorem zJn.mono {H0 H':AH}{At M:Nat}{d c dr:AV}{low low' top top':Nat}{kv:Kvs}(h:zJn H0 H' At M d c dr low top kv)(hl:low'<=low)(ht:top<=top'):zJn H0 H' At M d c dr low' top' kv:=by
 obtain⟨root,es,q,last,h1,h2,h3,h4,h5,h6,h7⟩:=h;exact⟨root,es,q,last,h1,h2,h3,h4,by omega,by omega,h7⟩
theorem zGh (D:Dyn)(n:Nat){H0 H:AH}{At Ac F M:Nat}{d c dr:AV}{root0:Ptr}{es:List (AV×AV)}{q:PN}{fes:List (AV×AV)}{f:PN}{g:AV}{gl:List Ptr}{last0 last:Nat}(ti:TI H0 At M d c root0 es q last0 dr)(hq: ∀s nd,qV s q=some nd->s<=last0)
  (ch:Ch H0 H At Ac F fes f g gl last0 last) (hgl: ∀p∈gl,∃s,p=pp s) (hl:last<=900000000) (hn:gl.length<n) (hql:q.length<=last0):
  ∃H',f65 D n [.ptr Ac 0, .agg [.int .i64 ((0:Nat):Int), .int .i64 ((0:Nat):Int), .int .u64 ((0:Nat):Int)]] H=some (.tuple [],H')/\zJn H0 H' At M d c dr last last []:=by
 obtain⟨H',es',e,ti',st⟩:=zGi D n (root:=pZ) ti hq ch hgl hl hn hql;refine⟨H',e,_,_,_,last,ti',st,zBj hq ch.fs ch.le, ?_,Nat.le_refl _,Nat.le_refl _, .inl ⟨rfl,rfl⟩⟩;have h1:=cB gl q;have h2:=ch.fl;simp only[zI];omega
theorem dU (D:Dyn)(n:Nat){H0 H:AH}{At Ac F M s h:Nat}{d c dr:AV}{root0:Ptr}{es:List (AV×AV)}{q:PN}{fes:List (AV×AV)}{f:PN}{g:AV}{gl Fr R:List Ptr}{last0 last:Nat}{nd:Nd.Node}{t:Bt.Tr h}{S:List Ptr}(ti:TI H0 At M d c root0 es q last0 dr)(hq: ∀s nd,qV s q=some nd->s<=last0)
  (ch:Ch H0 H At Ac F fes f g gl last0 last) (hgl: ∀p∈gl,∃s,p=pp s) (hl:last<=900000000) (hn:gl.length<n) (hql:q.length<=last0)
  (hs:Qf q f (pp s)=some nd) (rn:jF (Qf q f) h nd t S) (wr:WR h t) (hT:(pp s::S).Perm (Fr++R)) (hG:(gl++R).Nodup) (hFr: ∀p∈Fr,∃j,p=pp j/\last0<j) (hFn:Fr.Nodup) (hR: ∀p∈R,∃nd,Qf q [] p=some nd):
  ∃H',f65 D n [.ptr Ac 0, .agg (y6 (pp s))] H=some (.tuple [],H')/\zJn H0 H' At M d c dr last last (con h t):=by
 obtain⟨H',es',e,ti',st⟩:=zGi D n (root:=pp s) ti hq ch hgl hl hn hql;obtain⟨nd1,mono⟩:=zKM hq (fun s nd h=>(ch.fs s nd h).1) hT hG hgl hFr hFn hR;refine⟨H',e,_,_,_,last,ti',st,zBj hq ch.fs ch.le, ?_,Nat.le_refl _,Nat.le_refl _, .inr ⟨s,h,nd,t,S,rfl, ?_,rn.mono (fun p hp nd hh=>mono p (zA _ hp) nd hh),wr,nd1,rfl⟩⟩
 ·have h1:=cB gl q;have h2:=ch.fl;simp only[zI];omega
 ·have:=mono (pp s) (zC ..) nd hs;rw[YL]at this;simpa[qV]using this
theorem zIQ (D:Dyn)(n:Nat)(hn:200000000<=n){H0 H:AH}{At Ac F M h:Nat}{d c dr u:AV}{root0:Ptr}{es:List (AV×AV)}{q:PN}{fes:List (AV×AV)}{f:PN}{g:AV}{gl Fr R:List Ptr}{last0 last:Nat}{nd:Nd.Node}{t:Bt.Tr h}{S:List Ptr}(ti:TI H0 At M d c root0 es q last0 dr)(hq: ∀s nd,qV s q=some nd->s<=last0)
  (ch:Ch H0 H At Ac F fes f g gl last0 last) (hgl: ∀p∈gl,∃s,p=pp s) (hl:last<=700000000) (hgn:gl.length<n) (hql:q.length<=last0) (hu:kC H g u nd)
  (rn:jF (Qf q f) h nd t S) (wx:WX h none none t) (hS:S.Perm (Fr++R)) (hG:(gl++R).Nodup) (hFr: ∀p∈Fr,∃j,p=pp j/\last0<j/\j<=last) (hFn:Fr.Nodup) (hR: ∀p∈R,∃nd,Qf q [] p=some nd):
  ∃H',f70 D n [.ptr Ac 0,u] H=some (.int .i64 ((0:Nat):Int),H')/\zJn H0 H' At M d c dr last (last+7) (con h t):=by
 obtain⟨ks,vs0,ps,rfl,j1,j2,j3⟩:=id hu.1;obtain⟨H1,A3,b1,p1,g1,m1,n1⟩:=box ch.prs.ok (.cells [.bool nd.leaf,ks,vs0,ps] 93 1 false);have ch1:=ch.step p1;have hu1:=hu.prs p1;have hFr': ∀p∈Fr,∃j,p=pp j/\last0<j:=fun p hp=>by obtain⟨j,a,b,_⟩:=hFr p hp;exact⟨j,a,b⟩
 have e0:ld1 (.ptr A3 0) H1=some (.bool nd.leaf):=by rw[qL g1];rfl
 have e1:ld1 (.ptr A3 1) H1=some ks:=by rw[qL g1];rfl
 have e3:ld1 (.ptr A3 3) H1=some ps:=by rw[qL g1];rfl
 by_cases hk:nd.keys=[]
 ·
  have hk0:((nd.keys.length:Nat):Int)=((0:Nat):Int):=by rw[hk];rfl
  cases h with
  | zero=>
   obtain⟨hnd,rfl⟩:=rn;have ht:t=([]:Kvs):=List.map_eq_nil_iff.1 (show List.map Prod.fst (t:Kvs)=[]from(show(qP t).keys=[]from hnd▸hk));subst ht;obtain⟨H2,e2,dn⟩:=zGh D n ti hq ch1 hgl (by omega) hgn hql;refine⟨H2, ?_,dn.mono (Nat.le_refl _) (by omega)⟩;have e0':ld1 (.ptr A3 0) H1=some (.bool true):=by rw[e0,hnd];rfl
   have bs:wB [(0,1),(1,1),(2,1)] [.int .i64 ((0:Nat):Int), .int .i64 ((0:Nat):Int), .int .u64 ((0:Nat):Int)] []=some (.agg [.int .i64 ((0:Nat):Int), .int .i64 ((0:Nat):Int), .int .u64 ((0:Nat):Int)]):=rfl;simp(maxSteps:=999999)(disch:=omega) only[f70,eZ,b1,e1,j1.row.lnSl,hk0,e0',bs,e2,zLt]
  | succ h=>
   obtain⟨r1,r2,r3,r4⟩:=id rn;obtain⟨w1,w2⟩:=id wx;rw[hk]at r2;have hlen:=w1.2.2.len;rw[<-r2]at hlen;obtain⟨t1,ht1⟩: ∃t1,t.2=[t1]:=by
    match ht:t.2,hlen with
    | [a],_=>exact⟨a,rfl⟩
   have hkb:=w1.2.2;rw[<-r2,ht1]at hkb;rw[ht1]at r4;obtain⟨k0,nd1,S1,hk1,q1,rn1,hS1⟩:=wD.perm_one r4;obtain⟨s1,rfl,_⟩:=uI q1;subst hS1;obtain⟨H2,e2,dn⟩:=dU D n ti hq ch1 hgl (by omega) hgn hql q1 rn1 (WF.wr hkb) hS hG hFr' hFn hR;have e0':ld1 (.ptr A3 0) H1=some (.bool false):=by rw[e0,r1]
   have hcon:con (h+1) t=con h t1:=by simp only[con,ht1,zP,List.flatMap_nil,List.append_nil]
   rw[hcon];refine⟨H2, ?_,dn.mono (Nat.le_refl _) (by omega)⟩;obtain⟨qk,ik,ik'⟩:=uP.at (l:=nd.kids) (j3.mono p1 (fun _ _ x=>x)).row (i:=0) (by rw[hk1];simp);have hkk:nd.kids[0]'(by rw[hk1];simp)=pp s1:=by simp[hk1]
   rw[hkk]at ik';simp(maxSteps:=999999)(disch:=omega) only[f70,eZ,b1,e1,j1.row.lnSl,hk0,e0',e3,ik,ik',e2,zLt]
 ·
  have hk0: ¬((nd.keys.length:Nat):Int)=((0:Nat):Int):=by
   have:nd.keys.length≠0:=fun e=>hk (zG e)
   omega
  have hsh:=rn.shaped wx.gen (fun _=>hk) (jF.kidOk rn);have hz:Nd.size nd<=785:=by rw[rn.size];exact wx.sz
  obtain⟨pv,sv,H2,vs,nds,ss,e2,p2,hcut,oP,hpar,oS,bP,bS,bvs⟩:=UQ D n hn p1.ok hu1.1 hsh (by omega);obtain⟨ts,c1,c2⟩:=XA hcut rn wx;have few:nds.length<=6:=by
   by_cases hb:Nd.size nd<=500
   ·rw[(hcut.one_inv hb).1];simp
   ·have:=(WZ c1 wx (.inr (by rw[<-rn.size];omega))).2.2.1;rw[c2.len];exact this
  have ch2:=ch1.step p2;obtain⟨kv,H3,e3',ch3,a3,o3,f3⟩:=BK D n hn ch2 oP hpar (fun l hl B hB hgB=>by
   rcases bvs l hl B hB with e | e
   ·exact hu.2 B e hgB
   ·have:=Rw.blk ch1.gg.row hgB;omega) (by omega) (by omega)
  have N1:=p1.next;have N2:=p2.next;have N3:=a3.1.next
  have hnone: ∀j,qV (last+1+j) f=none:=fun j=>by
   cases hk:qV (last+1+j) f with
   | none=>rfl
   | some n2=>have:=ch.fs _ _ hk;omega
  have hnew: ∀s nd',qV s (kJ last nds)=some nd'->last0<s:=fun s nd' hs=>by have:=YI hs;have:=ch.le;omega
  have more: ∀p nd,Qf q f p=some nd->Qf q (f++kJ last nds) p=some nd:=fun p nd hp=>XM hq hnew hp
  have at1: ∀j nd',nds[j]? =some nd'->Qf q (f++kJ last nds) (pp (last+1+j))=some nd':=fun j nd' hj=>by rw[YL,kI,hnone];simp only[aC hj]
  have okv:uP H3 kv (pps last nds.length):=by
   have:=o3.row;rw[uP,cU];exact this
  have lkv:=okv.lnSl;rw[cU]at lkv;have t00: ¬(((0:Nat):Int)≠((0:Nat):Int)):=by omega
  by_cases hb:Nd.size nd<=500
  ·obtain⟨rfl,rfl⟩:=hcut.one_inv hb;have hone:(([nd].length:Nat):Int)=((1:Nat):Int):=rfl;have wr:WR h t:=wx.wr (by
    cases h with
    | zero=>obtain⟨rfl,_⟩:=rn;intro e;exact hk (by rw[show t=([]:Kvs)from e];rfl)
    | succ h=>exact(show t.1≠[]from rn.2.1▸hk)) (by rw[<-rn.size];exact hb)
   have hfp: ∀p∈pp (last+1)::Fr,∃j,p=pp j/\last0<j:=fun p hp=>by
    rcases List.mem_cons.1 hp with rfl | hp
    ·exact⟨_,rfl,by have:=ch.le;omega⟩
    ·exact hFr' p hp
   have hfn:(pp (last+1)::Fr).Nodup:=List.nodup_cons.2 ⟨fun hp=>by
    obtain⟨j,e,_,hj⟩:=hFr _ hp;have:=aS e;omega,hFn⟩
   obtain⟨H4,e4,dn⟩:=dU D n (s:=last+1) (t:=t) (S:=S) ti hq ch3 hgl (by simp;omega) hgn hql (at1 0 nd rfl) (rn.mono fun p _ nd hp=>more p nd hp) wr (List.Perm.cons _ hS) hG hfp hfn hR;refine⟨H4, ?_,dn.mono (by simp) (by simp)⟩;obtain⟨qk,ik,ik'⟩:=uP.at okv (i:=0) (by simp[pps]);have hkk:(pps last [nd].length)[0]'(by simp[pps])=pp (last+1):=by simp[pps]
   rw[hkk]at ik';simp(maxSteps:=999999)(disch:=omega) only[f70,eZ,b1,e1,j1.row.lnSl,hk0,xY g1 rfl,e2,qK,nth,t00,e3',lkv,hone,ik,ik',e4,zLs]
  ·have hss:=hcut.more_inv (by omega);obtain⟨w1,w2,w3,_⟩:=WZ c1 wx (.inr (by rw[<-rn.size];omega));have hlen:=w1.2.2.len;simp only at hlen;have hssl:ss.length≠0:=fun e=>hss (zG e)
   have hnl:=c2.len;have hone: ¬((nds.length:Nat):Int)=((1:Nat):Int):=by omega
   have c2':zC2 (Qf q (f++kJ last nds)) h nds ts S:=by
    have mono: ∀ {nds':List Nd.Node} {ts':List (Bt.Tr h)} {S':List Ptr},zC2 (Qf q f) h nds' ts' S'->zC2 (Qf q (f++kJ last nds)) h nds' ts' S':=by
     intro nds'
     induction nds' with
     | nil=>intro ts' S' hp;cases ts' with
      | nil=>exact hp
      | cons=>exact hp.elim
     | cons a nds' ih=>intro ts' S' hp;cases ts' with
      | nil=>exact hp.elim
      | cons b ts'=>
       obtain⟨S1,S2,a1,a2,a3⟩:=hp;exact⟨S1,S2,a1.mono fun p _ nd hp=>more p nd hp,ih a2,a3⟩
    exact mono c2
   obtain⟨S2,r2,pm2⟩:=c2'.kids last at1;have g31:H3.h.get A3=some (.cells [.bool nd.leaf,ks,vs0,ps] 93 1 false):=by
    rw[a3.1.keep _ (by omega) (fun hc=>by
     rcases hc with e | e | e
     ·have:=ch.ltC;omega
     ·have:=ch.ltF;omega
     ·have:=Rw.blk ch.gg.row e;omega)]
    exact Prs.get p2 p1.ok g1
   have oS3:Own 1 9 H3 sv ss.length (ss.map Go.Eng.S):=oS.mono a3.1 (fun B hB hc=>by
    have:=bS B hB;rcases hc with e | e | e
    ·have:=ch.ltC;omega
    ·have:=ch.ltF;omega
    ·have:=Rw.blk ch.gg.row e;omega)
   have hG4:y9 H3 (.agg [.bool false,sv, .nilSlice,kv]) ⟨false,ss,[],pps last nds.length⟩:=⟨sv, .nilSlice,kv,rfl, .inl oS3, .inl (Own.nil ..), .inl (by
    simp only[cU];exact o3)⟩
   have hA4:kC H3 g (.agg [.bool false,sv, .nilSlice,kv]) ⟨false,ss,[],pps last nds.length⟩:=⟨hG4,fun B hB hgB=>by
    have:=Rw.blk ch.gg.row hgB;rcases kB.1 hB with e | e | e
    ·have:=bS B e;omega
    ·exact(Blk.nil.1 e).elim
    ·have:=f3 B e;omega⟩
   obtain⟨H4,e4,ch4,a4⟩:=zGP D n ch3 hA4 (by omega);have hne4:qV (last+nds.length+1) (f++kJ last nds)=none:=by
    cases hk:qV (last+nds.length+1) (f++kJ last nds)with
    | none=>rfl
    | some n2=>have:=ch3.fs _ _ hk;omega
   have more4: ∀p nd',Qf q (f++kJ last nds) p=some nd'->Qf q (f++kJ last nds++[(last+nds.length+1,⟨false,ss,[],pps last nds.length⟩)]) p=some nd':=fun p nd' hp=>XM hq (fun s nd hs=>by
    simp only[qV]at hs;split at hs
    ·have:=ch.le;omega
    ·cases hs) hp
   have at4:Qf q (f++kJ last nds++[(last+nds.length+1,⟨false,ss,[],pps last nds.length⟩)]) (pp (last+nds.length+1))=some ⟨false,ss,[],pps last nds.length⟩:=by
    rw[YL,kI,hne4];simp[qV]
   have rn4:jF (Qf q (f++kJ last nds++[(last+nds.length+1,⟨false,ss,[],pps last nds.length⟩)])) (h+1) ⟨false,ss,[],pps last nds.length⟩ (ss,ts) S2:=⟨rfl,rfl,rfl,r2.mono (fun p _ nd hp=>more4 p nd hp) (fun nd t S1 _ hr=>hr.mono fun p _ nd hp=>more4 p nd hp)⟩;have hsum:=cQ (ks:=ss) (fun k hk=>(w1.1 k hk).1);have wr4:WR (h+1) (ss,ts):=⟨w1,hss,by simp only[jH];omega⟩;have hfp: ∀p∈pp (last+nds.length+1)::(pps last nds.length++Fr),∃j,p=pp j/\last0<j:=fun p hp=>by
    have:=ch.le;rcases List.mem_cons.1 hp with rfl | hp
    ·exact⟨_,rfl,by omega⟩
    ·rcases List.mem_append.1 hp with hp | hp
     ·obtain⟨j,rfl,h1,h2⟩:=fE hp;exact⟨_,rfl,by omega⟩
     ·exact hFr' p hp
   have hfn:(pp (last+nds.length+1)::(pps last nds.length++Fr)).Nodup:=by
    refine List.nodup_cons.2 ⟨fun hp=> ?_,List.nodup_append.2 ⟨QE _ _,hFn,fun a ha b hb e=> ?_⟩⟩
    ·rcases List.mem_append.1 hp with hp | hp
     ·obtain⟨j,e,h1,h2⟩:=fE hp;have:=aS e;omega
     ·obtain⟨j,e,h1,h2⟩:=hFr _ hp;have:=aS e;omega
    ·obtain⟨j,rfl,h1,h2⟩:=fE ha;obtain⟨j',rfl,h3,h4⟩:=hFr _ hb;have:=aS e;omega
   have hT:(pp (last+nds.length+1)::S2).Perm ((pp (last+nds.length+1)::(pps last nds.length++Fr))++R):=by
    rw[List.cons_append,List.append_assoc];exact List.Perm.cons _ (pm2.trans (List.Perm.append_left _ hS))
   obtain⟨H5,e5,dn⟩:=dU D n (s:=last+nds.length+1) ti hq ch4 hgl (by omega) hgn hql at4 rn4 wr4 hT hG hfp hfn hR;have hcon:con (h+1) (ss,ts)=con h t:=w2;rw[hcon]at dn;refine⟨H5, ?_,dn.mono (by omega) (by omega)⟩;simp(maxSteps:=999999)(disch:=omega) only[f70,eZ,b1,e1,j1.row.lnSl,hk0,xY g1 rfl,e2,qK,nth,t00,e3',lkv,hone,zM2 oS3.row.isCell okv.isCell,e4,e5,zLs]
end Go.Eng.Sh
end
section
namespace Go.Bt
open Go.Nd (Str Kvs qP)
theorem WR.gen: ∀ {h:Nat} {t:Tr h},WR h t->Gen h none none t
 | 0,_,w=>w.1
 | _+1,_,w=>w.1
theorem WR.sz: ∀ {h:Nat} {t:Tr h},WR h t->j9 h t<=500
 | 0,_,w=>w.2.2
 | _+1,_,w=>w.2.2
theorem zBu {h:Nat} : ∀ {ts:List (Tr h)},(∀t∈ts,2 ^ h<=(con h t).length)->ts.length*2 ^ h<=(ts.flatMap (con h)).length
 | [],_=>by simp
 | t::ts,ih=>by
  have h1:=ih t (zC ..);have h2:=zBu (ts:=ts) fun t ht=>ih t (zA _ ht)
  simp only[zJ,zP,zI,Nat.add_mul,Nat.one_mul];omega
theorem zF1 {h:Nat}{lo hi:Bd}{t:List Str×List (Tr h)}(ih: ∀ {lo hi:Bd} {t:Tr h},WF h lo hi t->2 ^ h<=(con h t).length)(w:Inn (WF h) lo hi t)(hne:t.1≠[]):2 ^ (h+1)<=(t.2.flatMap (con h)).length:=by
 have hl:=w.2.2.len;have hk:t.1.length≠0:=fun e=>hne (zG e)
 have hf:=zBu (ts:=t.2) fun x hx=>by
  obtain⟨i,hi,rfl⟩:=qI hx;exact ih (KB.at w.2.2 (zB hi))
 have h2:2*2 ^ h<=t.2.length*2 ^ h:=q6 _ (by omega);rw[Nat.pow_succ];omega
theorem WF.many: ∀ {h:Nat} {lo hi:Bd} {t:Tr h},WF h lo hi t->2 ^ h<=(con h t).length
 | 0,_,_,t,w=>by
  have:List.length (t:Kvs)≠0:=fun e=>w.2.1 (zG e)
  show 1<=List.length (t:Kvs);omega
 | _+1,_,_,_,w=>zF1 WF.many w.1 w.2.1
theorem WR.many: ∀ {h:Nat} {t:Tr h},WR h t->2 ^ h<=(con h t).length
 | 0,t,w=>by
  have:List.length (t:Kvs)≠0:=fun e=>w.2.1 (zG e)
  show 1<=List.length (t:Kvs);omega
 | _+1,_,w=>zF1 WF.many w.1 w.2.1
theorem WR.low {h:Nat}{t:Tr h}(w:WR h t)(hk:(con h t).length<=1000000000):h<=29:=by
 have:=w.many;rcases Nat.lt_or_ge h 30 with h1 | h1
 ·omega
 ·have h2:2 ^ 30<=2 ^ h:=Nat.pow_le_pow_right (by decide) h1;have h3:(2:Nat) ^ 30=1073741824:=by decide
  omega
end Go.Bt
namespace Go.Eng.Sh
open Go.Nd (Ptr yH qP Kvs)
open Go.Bt
theorem cbx:(∀A o,qT (.ptr A o)=[.ptr A o])/\qT .nilPtr=[.nilPtr]/\qT .nilFunc=[.nilFunc]/\(∀k z,qT (.int k z)=[.int k z])/\(∀l,qT (S l)=[S l])/\(∀ed K V,qT (edF ed K V)=[edF ed K V])/\(∀A o,aveq (.ptr A o) (.ptr A o)=true):=
 ⟨fun _ _=>rfl,rfl,rfl,fun _ _=>rfl,fun _=>rfl,fun ed _ _=>by cases ed<;>rfl,fun _ _=>by simp[aveq]⟩
theorem zLX {H H':AH}{At Ac F last:Nat}(s:Prs H H')(gC:H'.h.get Ac=some (.cells [.ptr At 0, .int .u64 (last:Nat), .map F, .nilSlice] 120 1 false))(gF:H'.h.get F=some (.map [10] []))(dC:H.next<=Ac)(dF:H.next<=F)(ne:Ac≠F):
  Ch H H' At Ac F [] [] .nilSlice [] last last:=
 ⟨s,gC,gF,trivial,Own.nil ..,fun B hB=>(Blk.nil.1 hB).elim,fun _ h=>by simp at h,dC,dF,ne,fun _ _ h=>by simp[qV]at h,Nat.le_refl _,by simp,by simp,by simp⟩
theorem US (M n:Nat)(hM:300000000<=M)(hn:300000000<=n){H:AH}{At M0 K V last:Nat}{d c dr:AV}{root:Ptr}{es:List (AV×AV)}{q:PN}{kv:Kvs}{ed:Ed}(ti:TI H At M0 d c root es q last dr)(hq: ∀s nd,qV s q=some nd->s<=last)(hql:q.length<=last)(hl:last<=500000000)
  (hr:zH5 q root kv) (hkv:kv.length<=1000000000) (ho:ed.ok) (hb:edB H ed K V):
  ∃(e:Nat) (H':AH),f44 (dy (M+2)) n [.ptr At 0,S ed.key,edF ed K V] H=some (.int .i64 (e:Nat),H')/\
   match ed.run kv with
   | none=>e=5/\Prs H H'
   | some kv'=>e=0/\zJn H H' At M0 d c dr last (last+200) kv':=by
 obtain⟨H1,B2,b1,p1,g1,m1,n1⟩:=box ti.ok (.cells [.ptr At 0] 25 1 false);obtain⟨H2,B4,b2,p2,g2,m2,n2⟩:=box p1.ok (.cells [S ed.key] 9 1 false);obtain⟨H3,B3,b3,p3,g3,m3,n3⟩:=box p2.ok (.cells [edF ed K V] 96 1 false);obtain⟨H4,F,b4,p4,g4,m4,n4⟩:=box p3.ok (.map [10] []);obtain⟨H5,Ac,b5,p5,g5,m5,n5⟩:=box p4.ok (.cells [.ptr At 0, .int .u64 (last:Nat), .map F, .nilSlice] 120 1 false);obtain⟨H6,B6,b6,p6,g6,m6,n6⟩:=box p5.ok (.cells [.nilPtr] 118 1 false);obtain⟨H7,e7,x7,s7⟩:=Box.st (⟨_,g6⟩:Box H6 B6 .nilPtr) p6.ok (x:= .ptr Ac 0) rfl;have P12:=p1.trans p2;have P13:=P12.trans p3;have P15:=(P13.trans p4).trans p5;have P16:=P15.trans p6;have P17:Prs H H7:=P16.fresh s7 (fun B hB=>by have:=P15.next;omega)
 have N1:=p1.next;have N2:=p2.next;have N3:=p3.next;have N4:=p4.next;have N5:=p5.next;have N6:=p6.next;have N7:=s7.next
 have keep7: ∀ {A:Nat} {o:AObj},H5.h.get A=some o->H7.h.get A=some o:=fun {A o} hg=>by
  have:=p5.ok.lt hg;rw[s7.keep _ (by omega) (by omega)];exact Prs.get p6 p5.ok hg
 have g57:=keep7 g5;have g47:=keep7 (Prs.get p5 p4.ok g4);have ch:Ch H H7 At Ac F [] [] .nilSlice [] last last:=zLX P17 g57 g47 (by omega) (by omega) (by omega);have ti7:=ti.prs P17;have ti3:=ti.prs P13;have k2:Box H7 B2 (.ptr At 0):=⟨_,keep7 (Prs.get (p4.trans p5) p3.ok (Prs.get p3 p2.ok (Prs.get p2 p1.ok g1)))⟩;have k3:Box H7 B3 (edF ed K V):=⟨_,keep7 (Prs.get (p4.trans p5) p3.ok g3)⟩;have k4:Box H7 B4 (S ed.key):=⟨_,keep7 (Prs.get (p4.trans p5) p3.ok (Prs.get p3 p2.ok g2))⟩;have l2:ld1 (.ptr B2 0) H3=some (.ptr At 0):=by rw[qL (Prs.get p3 p2.ok (Prs.get p2 p1.ok g1))];rfl
 have l6:ld1 (.ptr At 6) H3=some (.int .u64 (last:Nat)):=by rw[qL ti3.gT];rfl
 have l2':ld1 (.ptr At 2) H7=some (.int .i64 root.at_):=by rw[qL ti7.gT];rfl
 have bs:wB [(0,1),(1,1),(2,1),(3,1)] [.nilPtr, .int .u64 ((0:Nat):Int), .nilMap, .nilSlice] [(0, .ptr At 0),(1, .int .u64 (last:Nat)),(2, .map F)]=some (.agg [.ptr At 0, .int .u64 (last:Nat), .map F, .nilSlice]):=rfl;have bs1:wB [(0,1),(1,1),(2,1),(3,1)] [.bool false, .nilSlice, .nilSlice, .nilSlice] [(0, .bool true)]=some (.agg [.bool true, .nilSlice, .nilSlice, .nilSlice]):=rfl;have t00: ¬(((0:Nat):Int)≠((0:Nat):Int)):=by omega
 have t50:(((5:Nat):Int)≠((0:Nat):Int)):=by omega
 rcases hr with⟨rfl,rfl⟩ | ⟨s,h,nd,t,S0,rfl,hs,rn,wr,nd0,rfl⟩
 ·
  have hroot:pZ.at_=((0:Nat):Int):=rfl;rw[hroot]at l2';have wl:y9 H7 (.agg [.bool true, .nilSlice, .nilSlice, .nilSlice]) (qP []):=⟨.nilSlice, .nilSlice, .nilSlice,rfl, .inl (Own.nil ..), .inl (Own.nil ..), .inl (Own.nil ..)⟩;have wlf:Lf none none ([]:Kvs):=⟨trivial,by simp⟩;obtain⟨u,H8,_,e8,p8,w8⟩:=zGd (M+1) n (by omega) P17.ok wl wlf (by decide) ho (hb.prs ti.ok P17);obtain⟨lu,rfl,lul,luc⟩:=w8.1.cells;obtain⟨H9,B8,b9,p9,g9,m9,n9⟩:=box p8.ok (.cells [.bool false, .nilSlice, .nilSlice, .nilSlice] 93 1 false);obtain⟨H10,e10,g10,s10,n10⟩:=yF p9.ok g9 (l':=lu) lul luc;have e10':stN 4 (.ptr B8 0) (.agg lu) H9=some (qM,H10):=e10;have N8:=p8.next;have N9:=p9.next;have N10:=s10.next
  have P70:Prs H7 H10:=(p8.trans p9).fresh s10 (fun B hB=>by omega);have ch10:=ch.step P70
  cases hrun:ed.run []with
  | none=>
   have hel:edL ed []=(nd0,5):=by simp only[edL,hrun]
   rw[hel]at e8;refine⟨5,H10, ?_,rfl,P17.trans P70⟩;simp(maxSteps:=999999)(disch:=omega) only[f44,eZ,b1,b2,b3,cbx,l2,l6,mkM,b4,bs,b5,b6,e7,k2.ld,l2',k3.ld,bs1,e8,qK,nth,b9,e10',t50,ne_eq,not_false_eq_true]
  | some kv'=>
   have hel:edL ed []=(qP kv',0):=by simp only[edL,hrun]
   rw[hel]at e8 w8;obtain⟨wf1,wf2⟩:=Ed.leaf (lo:=none) (hi:=none) wlf trivial trivial ho hrun;have hne:kv'≠[]:=by
    cases ed with
    | put k v=>simp only[Ed.run,z7]at hrun;subst hrun;simp[Nd.putP]
    | del k=>simp[Ed.run,Nd.lookP]at hrun
   have hu10:kC H10 .nilSlice (.agg lu) (qP kv'):=⟨(w8.1.prs p9).stp s10 (fun B hB e=>by
    have:=w8.1.lt hB;omega),fun B hB hg=>(Blk.nil.1 hg).elim⟩
   obtain⟨H11,e11,ch11,a11⟩:=zGP (dy (M+2)) n ch10 hu10 (by omega);have hQ:Qf q ([]++[(last+1,qP kv')]) (pp (last+1))=some (qP kv'):=by rw[YL];simp[qV]
   obtain⟨H12,e12,dn⟩:=dU (dy (M+2)) n (s:=last+1) (h:=0) (t:=kv') (S:=[]) (Fr:=[pp (last+1)]) (R:=[]) ti hq ch11 (by simp) (by omega) (by simp;omega) hql hQ ⟨rfl,rfl⟩ ⟨wf1,hne,by simp only[bD]at wf2;omega⟩ (by simp) (by simp) (by
    intro p hp;simp only[List.mem_singleton]at hp;subst hp;exact⟨_,rfl,by omega⟩) (by simp) (by simp)
   refine⟨0,H12, ?_,rfl,dn.mono (by omega) (by omega)⟩;have k6:ld1 (.ptr B6 0) H10=some (.ptr Ac 0):=(x7.mono s7.ok P70 (fun x=>x)).ld;have k6':ld1 (.ptr B6 0) H11=some (.ptr Ac 0):=by
    refine((x7.mono s7.ok P70 (fun x=>x)).mono P70.ok a11.1 (fun hc=> ?_)).ld;rcases hc with e | e | e
    ·omega
    ·omega
    ·exact(Blk.nil.1 e).elim
   simp(maxSteps:=999999)(disch:=omega) only[f44,eZ,b1,b2,b3,cbx,l2,l6,mkM,b4,bs,b5,b6,e7,k2.ld,l2',k3.ld,bs1,e8,qK,nth,b9,e10',t00,k6,xY g10 lul,e11,jA k6' (cbx.2.2.2.2.2.2 _ _),e12]
 ·
  have hroot:(pp s).at_=((1:Nat):Int):=rfl;rw[hroot]at l2';have h10: ¬((1:Nat):Int)=((0:Nat):Int):=by omega
  have hh:=wr.low hkv;obtain⟨H8,B1,b8,p8,g8,m8,n8⟩:=box P17.ok (.cells [.int .i64 ((0:Nat):Int)] 3 1 false);obtain⟨H9,e9,x9,s9⟩:=Box.st (⟨_,g8⟩:Box H8 B1 (.int .i64 ((0:Nat):Int))) p8.ok (x:= .int .i64 ((0:Nat):Int)) rfl;obtain⟨H10,B5,b10,p10,g10,m10,n10⟩:=box s9.ok (.cells [.nilFunc] 102 1 false);obtain⟨H11,e11,x11,s11⟩:=Box.st (⟨_,g10⟩:Box H10 B5 .nilFunc) p10.ok (x:=zCI B1 B2 B3 B4 B5 B6) rfl;obtain⟨H12,B8,b12,p12,g12,m12,n12⟩:=box s11.ok (.cells [.bool false, .nilSlice, .nilSlice, .nilSlice] 93 1 false);have N8:=p8.next;have N9:=s9.next;have N10:=p10.next;have N11:=s11.next;have N12:=p12.next
  have P79:Prs H7 H9:=p8.fresh s9 (fun B hB=>by omega);have P7b:Prs H7 H11:=(P79.trans p10).fresh s11 (fun B hB=>by omega);have P7c:Prs H7 H12:=P7b.trans p12;have ch12:=ch.step P7c;have ti12:=ti7.prs P7c;have ti11:=ti7.prs P7b;have x9':Box H12 B1 (.int .i64 ((0:Nat):Int)):=((x9.mono s9.ok p10 (fun x=>x)).mono p10.ok s11 (by omega)).mono s11.ok p12 (fun x=>x);have x11':Box H12 B5 (zCI B1 B2 B3 B4 B5 B6):=x11.mono s11.ok p12 (fun x=>x);have k6:Box H12 B6 (.ptr Ac 0):=x7.mono s7.ok P7c (fun x=>x);have cl:Cl H H12 At Ac K V ed B1 B2 B3 B4 B5 B6 0:=⟨x9',k2.mono s7.ok P7c (fun x=>x),k3.mono s7.ok P7c (fun x=>x),k4.mono s7.ok P7c (fun x=>x),x11',k6,hb,by omega,by omega,by omega,by omega,by omega,by omega⟩;have hold: ∀kv∈es,∀B,xJ kv.2 B->B<H.next:=fun kv hkv B hB=>by
   obtain⟨nd2,hn2⟩:=ti.pq.mem kv hkv;exact hn2.lt hB
  have hne:0<h->nd.keys≠[]:=fun h0=>by
   cases h with
   | zero=>omega
   | succ h=>rw[rn.2.1];exact wr.2.1
  obtain⟨u,e,g',H13,e13,s13,⟨lu,rfl,lul,luc⟩,hout⟩:=zLO ti hold hq ho h M (M+1) (by omega) (by omega) ch12 cl hs rn wr.gen wr.sz hne (by cases h<;>trivial) (by cases h<;>trivial) (by omega) (by omega) (by simp;omega);have hB8: ¬(chg Ac F .nilSlice B8\/B8=B1):=fun hc=>by
   rcases hc with(e | e | e) | e
   ·omega
   ·omega
   ·exact(Blk.nil.1 e).elim
   ·omega
  have g813:H13.h.get B8=some (.cells [.bool false, .nilSlice, .nilSlice, .nilSlice] 93 1 false):=by rw[s13.keep _ n12 hB8];exact g12
  have k613:Box H13 B6 (.ptr Ac 0):=k6.mono p12.ok s13 (fun hc=>by
   rcases hc with(e | e | e) | e
   ·omega
   ·omega
   ·exact(Blk.nil.1 e).elim
   ·omega)
  obtain⟨H14,e14,g14,s14,n14⟩:=yF s13.ok g813 (l':=lu) lul luc;have e14':stN 4 (.ptr B8 0) (.agg lu) H13=some (qM,H14):=e14;have k614:ld1 (.ptr B6 0) H14=some (.ptr Ac 0):=(k613.mono s13.ok s14 (by omega)).ld;have l2b:ld1 (.ptr B2 0) H11=some (.ptr At 0):=(k2.mono s7.ok P7b (fun x=>x)).ld;have lr:ldN 3 (.ptr At 2) H11=some (.agg (y6 (pp s))):=by rw[qQ ti11.gT];rfl
  have x11l:=x11.ld;have hcd:callV (s44 (dy (M+2)) n).S (dy (M+2)) (zCI B1 B2 B3 B4 B5 B6) [.agg (y6 (pp s))] H12=some (.tuple [.agg lu, .int .i64 ((e:Nat):Int)],H13):=e13;have hdf:(.func 67 [] [.ptr B1 0, .ptr B2 0, .ptr B3 0, .ptr B4 0, .ptr B5 0, .ptr B6 0]:AV)=zCI B1 B2 B3 B4 B5 B6:=rfl
  cases hrun:ed.run (con h t)with
  | none=>
   rw[hrun]at hout;have hout:e=5:=hout;subst hout;refine⟨5,H14, ?_,rfl,⟨s14.ok,by have:=s13.next;have:=s14.next;omega,fun B hB _=> ?_⟩⟩
   ·simp(maxSteps:=999999)(disch:=omega) only[f44,eZ,b1,b2,b3,cbx,l2,l6,mkM,b4,bs,b5,b6,e7,k2.ld,l2',h10,b8,e9,b10,hdf,e11,x11l,l2b,lr,b12,hcd,qK,nth,e14',t50,ne_eq,not_false_eq_true]
   ·have:=s13.next
    rw[s14.keep B (by omega) (by omega),s13.keep B (by omega) (fun hc=>by
     rcases hc with(e | e | e) | e
     ·omega
     ·omega
     ·exact(Blk.nil.1 e).elim
     ·omega),P7c.keep B (by omega) (fun x=>x),P17.keep B hB (fun x=>x)]
  | some kv'=>
   rw[hrun]at hout;obtain⟨rfl,fes',f',gl',last',d',nd',S',G,R,Fr,t',ch13,cl13,hA13,rn13,wx13,con13,nk13,hgl,hG,hl1,hl2,hd',pm1,pm2,frn,fr1,more,bg⟩:=hout;have ch14:=ch13.stb g813 s14 (by omega) (by omega);have hA14:=hA13.stb g813 s14;rw[List.nil_append]at hgl;subst hgl;have hSn:(pp s::S0).Nodup:=nd0;have hGR:(gl'++R).Nodup:=pm2.nodup_iff.1 hSn;have hall: ∀p∈pp s::S0,∃nd,Qf q [] p=some nd:=fun p hp=>by
    rcases List.mem_cons.1 hp with rfl | hp
    ·exact⟨nd,by rw[YL];simpa[qV]using hs⟩
    ·exact jF.here rn p hp
   have hin: ∀p∈gl'++R,∃nd,Qf q [] p=some nd:=fun p hp=>hall p (pm2.mem_iff.2 hp)
   have hglp: ∀p∈gl',∃s,p=pp s:=fun p hp=>by
    obtain⟨nd2,h2⟩:=hin p (zY _ hp);obtain⟨s2,rfl,_⟩:=uI h2;exact⟨s2,rfl⟩
   obtain⟨H15,e15,dn⟩:=zIQ (dy (M+2)) n (by omega) ti hq ch14 hglp (by omega) (by omega) hql hA14 rn13 wx13 pm1 hGR fr1 frn (fun p hp=>hin p (qB _ hp));rw[con13]at dn;refine⟨0,H15, ?_,rfl,dn.mono (by omega) (by omega)⟩;simp(maxSteps:=999999)(disch:=omega) only[f44,eZ,b1,b2,b3,cbx,l2,l6,mkM,b4,bs,b5,b6,e7,k2.ld,l2',h10,b8,e9,b10,hdf,e11,x11l,l2b,lr,b12,hcd,qK,nth,e14',t00,k614,xY g14 lul,e15]
open Go.Nd (mayK putP delP lookP)
def yS (H:AH)(At M L:Nat)(kv:Kvs):Prop:= ∃d c dr root es q last,dr= .nilSlice/\isCell c=true/\TI H At M d c root es q last dr/\(∀s nd,qV s q=some nd->s<=last)/\q.length<=last/\last<=L/\zH5 q root kv
theorem yS.prs {H H':AH}{At M L:Nat}{kv:Kvs}(h:yS H At M L kv)(s:Prs H H'):yS H' At M L kv:=by
 obtain⟨d,c,_,root,es,q,last,rfl,hc,ti,h2⟩:=h;exact⟨d,c,_,root,es,q,last,rfl,hc,ti.prs s,h2⟩
theorem yS.up {H:AH}{At M L L':Nat}{kv:Kvs}(h:yS H At M L kv)(hl:L<=L'):yS H At M L' kv:=by
 obtain⟨d,c,_,root,es,q,last,rfl,hc,ti,h2,h3,h4,h5⟩:=h;exact⟨d,c,_,root,es,q,last,rfl,hc,ti,h2,h3,by omega,h5⟩
theorem zJn.treeI {H0 H':AH}{At M low top:Nat}{d c:AV}{kv:Kvs}(h:zJn H0 H' At M d c .nilSlice low top kv)(hc:isCell c=true):yS H' At M top kv/\Stp (fun B=>B=At\/B=M) H0 H':=by
 obtain⟨root,es,q,last,h1,h2,h3,h4,h5,h6,h7⟩:=h;exact⟨⟨d,c,_,root,es,q,last,rfl,hc,h1,h3,h4,h6,h7⟩,h2⟩
theorem TI.stp {S:Nat->Prop}{H H':AH}{At M last:Nat}{d c dr:AV}{root:Ptr}{es:List (AV×AV)}{q:PN}(h:TI H At M d c root es q last dr)(s:Stp S H H')(hA: ¬S At)(hM: ¬S M)(hN: ∀kv∈es,∀B,xJ kv.2 B-> ¬S B):TI H' At M d c root es q last dr:=by
 refine⟨s.ok,by rw[s.keep _ (h.ok.lt h.gT) hA];exact h.gT,by rw[s.keep _ (h.ok.lt h.gM) hM];exact h.gM, ?_,h.hd,h.few⟩;exact h.pq.frame fun kv hkv nd hn=>hn.stp s (hN kv hkv)
def dH (k v:Str):Bool:=mayK k&&decide (v.length<=200)
theorem zEf (m n:Nat)(hm:300000000<=m)(hn:300000000<=n){H:AH}{At M L:Nat}{kv:Kvs}{k v:Str}(t:yS H At M L kv)(hL:L<=500000000)(hkv:kv.length<=1000000000):
  ∃H',f20 (dy (m+2)) n [.ptr At 0,S k,S v] H=some (.int .i64 ((if dH k v then 0 else 1:Nat):Int),H')/\yS H' At M (L+200) (if dH k v then putP k v kv else kv)/\Stp (fun B=>B=At\/B=M) H H':=by
 obtain⟨d,c,_,root,es,q,last,rfl,hc,ti,h2,h3,h4,h5⟩:=id t;obtain⟨H1,A4,b1,p1,g1,m1,n1⟩:=box ti.ok (.cells [S k] 9 1 false);obtain⟨H2,A5,b2,p2,g2,m2,n2⟩:=box p1.ok (.cells [S v] 9 1 false);have P2:=p1.trans p2;have ti2:=ti.prs P2;have x4:Box H2 A4 (S k):=⟨_,Prs.get p2 p1.ok g1⟩;have x5:Box H2 A5 (S v):=⟨_,g2⟩;have hno:=cZ (dy (m+2)) n ti2;by_cases hp:dH k v=true
 ·obtain⟨hp1,hp2⟩:mayK k=true/\v.length<=200:=by simpa[dH]using hp
  obtain⟨e,H3,e3,hout⟩:=US m n hm hn (ed:= .put k v) ti2 h2 h3 (by omega) h5 hkv ⟨hp1,hp2⟩ ⟨x4,x5⟩;simp only[Ed.run]at hout;obtain⟨rfl,dn⟩:=hout;obtain⟨d1,d2⟩:=dn.treeI hc;simp only[Nd.mayK,z8,zF]at hp1;refine⟨H3, ?_,by rw[if_pos hp];exact d1.up (by omega),(P2.mono fun _ _ x=>x.elim).trans d2⟩;have a1: ¬((k.length:Nat):Int)< ((1:Nat):Int):=by omega
  have a2: ¬((40:Nat):Int)< ((k.length:Nat):Int):=by omega
  have a3: ¬((200:Nat):Int)< ((v.length:Nat):Int):=by omega
  have e3':f44 (dy (m+2)) n [.ptr At 0,S k, .func 45 [] [.ptr A4 0, .ptr A5 0]] H2=some (.int .i64 ((0:Nat):Int),H3):=e3;simp(maxSteps:=999999)(disch:=omega) only[f20,eZ,cbx,b1,b2,hno,x4.ld,x5.ld,a1,a2,a3,e3',hp]
 ·refine⟨H2, ?_,by rw[if_neg hp];exact(t.prs P2).up (by omega),P2.mono fun _ _ x=>x.elim⟩;have hx:((k.length:Nat):Int)< ((1:Nat):Int)\/((40:Nat):Int)< ((k.length:Nat):Int)\/((200:Nat):Int)< ((v.length:Nat):Int):=by
   simp only[dH,Nd.mayK,z8,zF]at hp;omega
  simp(maxSteps:=999999)(disch:=omega) only[f20,eZ,cbx,b1,b2,hno,x4.ld,x5.ld,hp];rw[if_pos (by simpa[or_assoc]using hx)];rfl
def dW (k:Str)(kv:Kvs):Nat:=if mayK k then(if(lookP k kv).isSome then 0 else 5)else 1
theorem zAq (m n:Nat)(hm:300000000<=m)(hn:300000000<=n){H:AH}{At M L:Nat}{kv:Kvs}{k:Str}(t:yS H At M L kv)(hL:L<=500000000)(hkv:kv.length<=1000000000):
  ∃H',f35 (dy (m+2)) n [.ptr At 0,S k] H=some (.int .i64 ((dW k kv:Nat):Int),H')/\yS H' At M (L+200) (if dW k kv=0 then delP k kv else kv)/\Stp (fun B=>B=At\/B=M) H H':=by
 obtain⟨d,c,_,root,es,q,last,rfl,hc,ti,h2,h3,h4,h5⟩:=id t;obtain⟨H1,A4,b1,p1,g1,m1,n1⟩:=box ti.ok (.cells [S k] 9 1 false);have ti1:=ti.prs p1;have x4:Box H1 A4 (S k):=⟨_,g1⟩;have hno:=cZ (dy (m+2)) n ti1;by_cases hp:mayK k=true
 ·obtain⟨e,H3,e3,hout⟩:=US m n hm hn (V:=0) (ed:= .del k) ti1 h2 h3 (by omega) h5 hkv hp x4;have hp1:=hp;simp only[Nd.mayK,z8,zF]at hp1;have a1: ¬((k.length:Nat):Int)< ((1:Nat):Int):=by omega
  have a2: ¬((40:Nat):Int)< ((k.length:Nat):Int):=by omega
  have e3':f44 (dy (m+2)) n [.ptr At 0,S k, .func 60 [] [.ptr A4 0]] H1=some (.int .i64 ((e:Nat):Int),H3):=e3;have run:f35 (dy (m+2)) n [.ptr At 0,S k] H=some (.int .i64 ((e:Nat):Int),H3):=by
   simp(maxSteps:=999999)(disch:=omega) only[f35,eZ,cbx,b1,hno,x4.ld,a1,a2,e3',hp]
  cases hr:(Ed.del k).run kv with
  | none=>
   rw[hr]at hout;obtain⟨rfl,p3⟩:=hout;have hl:(lookP k kv).isSome=false:=by
    simp only[Ed.run]at hr;split at hr
    ·cases hr
    ·rename_i h;simpa using h
   have hde:dW k kv=5:=by simp only[dW,hp,if_true,hl,Bool.false_eq_true,if_false]
   refine⟨H3,by rw[hde];exact run,by rw[hde];exact(t.prs (p1.trans p3)).up (by omega),(p1.trans p3).mono fun _ _ x=>x.elim⟩
  | some kv'=>
   rw[hr]at hout;obtain⟨rfl,dn⟩:=hout;obtain⟨d1,d2⟩:=dn.treeI hc;have hl:(lookP k kv).isSome=true/\delP k kv=kv':=by
    simp only[Ed.run]at hr;split at hr
    ·rename_i h;exact⟨h,by simpa using hr⟩
    ·cases hr
   have hde:dW k kv=0:=by simp only[dW,hp,if_true,hl.1]
   refine⟨H3,by rw[hde];exact run,by rw[hde,if_pos rfl,hl.2];exact d1.up (by omega),(p1.mono fun _ _ x=>x.elim).trans d2⟩
 ·have hde:dW k kv=1:=by simp only[dW,hp,Bool.false_eq_true,if_false]
  refine⟨H1, ?_,by rw[hde];exact(t.prs p1).up (by omega),p1.mono fun _ _ x=>x.elim⟩;rw[hde];have hx:((k.length:Nat):Int)< ((1:Nat):Int)\/((40:Nat):Int)< ((k.length:Nat):Int):=by
   simp only[Nd.mayK,z8,zF]at hp;omega
  simp(maxSteps:=999999)(disch:=omega) only[f35,eZ,cbx,b1,hno,x4.ld];rw[if_pos (by simpa using hx)];rfl
end Go.Eng.Sh
end
section
namespace Go.Eng
def Stk (k e:Nat)(H:AH)(v:AV)(n:Nat)(l:List AV):Prop:=
 l.length=n*k/\((v= .nilSlice/\n=0)\/ ∃A cc cells g r,v= .slice A 0 n cc/\A<H.next/\H.h.get A=some (.cells cells e k g)/\cells.length=r*k/\n<=r/\cells.take (n*k)=l/\(cc=2*r\/(cc=1/\g=true)))
theorem Stk.row {k e n:Nat}{H:AH}{v:AV}{l:List AV}(h:Stk k e H v n l):Rw k H v n l:=by
 obtain⟨h0,⟨rfl,rfl⟩ | ⟨A,cc,cells,g,r,rfl,hA,hg,hl,hn,ht,_⟩⟩:=h
 ·exact⟨h0, .inl ⟨rfl,rfl⟩⟩
 ·have:=q6 k hn;exact⟨h0, .inr (.inr ⟨A,0,cc,cells,e,k,g,rfl,hg,hA,by omega,by rw[List.drop_zero];exact ht⟩)⟩
theorem Stk.room {k:Nat}{cells:List AV}{g:Bool}{cc r:Nat}(hpos:0<k)(hl:cells.length=r*k)(hc:cc=2*r\/(cc=1/\g=true)):yI cells g k 0 cc k=r:=by
 rcases hc with rfl | ⟨rfl,rfl⟩
 ·simp only[yI,show((2*r) % 2).beq 0=true by rw[Nat.mul_mod_right];rfl,cond_true,Nat.mul_div_cancel_left r (show 0<2 by omega)]
 ·simp only[yI,show((1 % 2).beq 0)=false from rfl,cond_false,Nat.beq_refl,show Nat.beq 0 (1 / 2*k)=true from by simp,Bool.and_self,cond_true,yA,hl,Nat.sub_zero];exact Nat.mul_div_cancel _ hpos
theorem Stk.cut {k e n i:Nat}{H:AH}{v:AV}{l:List AV}(h:Stk k e H v n l)(hpos:0<k)(hi:i<=n)(κ:IntKind):
  ∃r,j8 k v none (some (.int κ (i:Nat))) none H=some r/\Stk k e H r i (l.take (i*k))/\ ∀B,Blk r B->Blk v B:=by
 have n1:=yK κ (z:=((i:Nat):Int)) (by omega);simp only[zS]at n1;have hb:Nat.blt 0 k=true:=by rw[zM];exact hpos
 have hmul:i*k<=n*k:=q6 _ hi;obtain⟨h0,⟨rfl,rfl⟩ | ⟨A,cc,cells,g,r,rfl,hA,hg,hl,hn,ht,hc⟩⟩:=h
 ·obtain rfl:i=0:=by omega
  exact⟨.nilSlice,by simp only[j8,yO,n1];simp,⟨by simp, .inl ⟨rfl,rfl⟩⟩,fun B hB=>hB⟩
 ·have b1:Nat.ble i r=true:=by rw[zR];omega
  have b2:Nat.ble 0 i=true:=by rw[zR];omega
  have hr:=Stk.room hpos hl hc;have hlt:(l.take (i*k)).length=i*k:=by rw[zH,h0];omega
  have htk:cells.take (i*k)=l.take (i*k):=by rw[<-ht,List.take_take,Nat.min_eq_left hmul]
  rcases hc with rfl | ⟨rfl,rfl⟩
  ·refine⟨.slice A 0 i (2*r), ?_,⟨hlt, .inr ⟨A,2*r,cells,g,r,rfl,hA,hg,hl,by omega,htk, .inl rfl⟩⟩,fun B hB=>by rw[Blk.slice.1 hB];exact Blk.slice.2 rfl⟩;have e2:(2*r) / 2=r:=Nat.mul_div_cancel_left r (show 0<2 by omega);simp only[j8,yO,n1,hg,hb,cond_true,aO,hr,Option.getD_none,Option.getD_some,b1,b2,Bool.and_self,show((2*r) % 2).beq 0=true by rw[Nat.mul_mod_right];rfl,yE,Nat.zero_mul,Nat.add_zero,Nat.sub_zero,e2]
   cases Nat.beq r 0<;>rfl
  ·refine⟨.slice A 0 i 1, ?_,⟨hlt, .inr ⟨A,1,cells,true,r,rfl,hA,hg,hl,by omega,htk, .inr ⟨rfl,rfl⟩⟩⟩,fun B hB=>by rw[Blk.slice.1 hB];exact Blk.slice.2 rfl⟩;simp only[j8,yO,n1,hg,hb,cond_true,aO,hr,Option.getD_none,Option.getD_some,b1,b2,Bool.and_self,show((1 % 2).beq 0)=false from rfl,cond_false,yE,show Nat.beq 0 0=true from rfl]
end Go.Eng
end
section
namespace Go.Eng.Sh
open Go.Nd (Ptr yH)
end Go.Eng.Sh
end
section
namespace Go.Eng
theorem dK {H:AH}(hk:H.ok)(o:AObj)(K:Nat->AH->Rs):XO H o K=K H.next (H.push o):=zED hk o K
end Go.Eng
namespace Go.Eng.Sh
open Go.Nd (Ptr yH)
open Go.Nd (qP Kvs Srt mayK putP delP lookP)
open Go.Bt
def Item (q:PN)(p:Ptr)(c:Kvs)(w:Nat):Prop:= ∃s nd h,∃t:Bt.Tr h,∃S lo hi,p=pp s/\qV s q=some nd/\jF (Qf q []) h nd t S/\Gen h lo hi t/\(0<h->nd.keys≠[])/\j9 h t<=500/\c=con h t/\w=1+S.length
def zOx (q:PN):List Ptr->Kvs->Nat->Prop
 | [],c,w=>c=[]/\w=0
 | p::ps,c,w=> ∃c1 c2 w1 w2,Item q p c1 w1/\zOx q ps c2 w2/\c=c1++c2/\w=w1+w2
theorem zEj: ∀(q:PN) (T:List Ptr),T.Nodup->(∀p∈T,∃s nd,p=pp s/\qV s q=some nd)->T.length<=q.length
 | [],T,_,h=>by
  cases T with
  | nil=>simp
  | cons p T=>obtain⟨s,nd,_,e⟩:=h p (zC ..);cases e
 | (a,n)::q,T,hn,h=>by
  by_cases hm:pp a∈T
  ·have h1:=zEj q (T.erase (pp a)) (hn.erase _) fun p hp=>by
    obtain⟨h2,h3⟩:=(List.Nodup.mem_erase_iff hn).1 hp;obtain⟨s,nd,e,hs⟩:=h p h3;refine⟨s,nd,e, ?_⟩;simp only[qV]at hs;rw[if_neg (fun e2=>h2 (by rw[e,e2]))]at hs;exact hs
   rw[List.length_erase_of_mem hm]at h1;simp only[zJ];omega
  ·have h1:=zEj q T hn fun p hp=>by
    obtain⟨s,nd,e,hs⟩:=h p hp;refine⟨s,nd,e, ?_⟩;simp only[qV]at hs;rw[if_neg (fun e2=>hm (by rw[e2,<-e];exact hp))]at hs;exact hs
   simp only[zJ];omega
theorem zCn {q:PN}{h s:Nat}{nd:Nd.Node}{t:Bt.Tr h}{S:List Ptr}(hs:qV s q=some nd)(rn:jF (Qf q []) h nd t S)(wr:WR h t)(nd0:(pp s::S).Nodup):zOx q [pp s] (con h t) (1+S.length)/\1+S.length<=q.length:=by
 constructor
 ·refine⟨con h t,[],1+S.length,0,⟨s,nd,h,t,S,none,none,rfl,hs,rn,wr.gen,fun h0=> ?_,wr.sz,rfl,rfl⟩,⟨rfl,rfl⟩,by simp,by omega⟩
  cases h with
  | zero=>omega
  | succ h=>rw[rn.2.1];exact wr.2.1
 ·have:=zEj q (pp s::S) nd0 fun p hp=>by
   rcases List.mem_cons.1 hp with rfl | hp
   ·exact⟨s,nd,rfl,hs⟩
   ·obtain⟨nd2,h2⟩:=jF.here rn p hp;obtain⟨s2,rfl,h3 | ⟨_,h3⟩⟩:=uI h2
    ·simp[qV]at h3
    ·exact⟨s2,nd2,rfl,h3⟩
  simp only[zJ]at this;omega
end Go.Eng.Sh
end
section
namespace Go.Eng
end Go.Eng
namespace Go.Eng.Sh
open Go.Nd (Ptr yH qP Kvs Srt mayK putP delP lookP)
open Go.Bt
theorem TI.hold {H:AH}{At M last:Nat}{d c dr:AV}{root:Ptr}{es:List (AV×AV)}{q:PN}(ti:TI H At M d c root es q last dr): ∀kv∈es,∀B,xJ kv.2 B->B<H.next:=fun kv hkv B hB=>by
 obtain⟨nd2,hn2⟩:=ti.pq.mem kv hkv;exact hn2.lt hB
def geR:Option Str->AV
 | none=> .tuple [.str 0 0, .int .i64 ((5:Nat):Int)]
 | some v=> .tuple [S v, .int .i64 ((0:Nat):Int)]
theorem zIa {h:Nat}{lo hi:Bd}{key:Str}{t:Bt.Tr (h+1)}(g:Gen (h+1) lo hi t){x:Bt.Tr h}(hx:t.2[qZ t.1 key]? =some x):lookP key (con (h+1) t)=lookP key (con h x):=by
 obtain⟨sA,sB⟩:=gY (key:=key) (ks:=t.1) (ts:=t.2) g;have:con (h+1) t=(t.2.take (qZ t.1 key)).flatMap (con h)++con h x++(t.2.drop (qZ t.1 key+1)).flatMap (con h):=by
  have e:t.2=t.2.take (qZ t.1 key)++[x]++t.2.drop (qZ t.1 key+1):=zAV hx;simp only[con]
  conv=>lhs;rw[e]
  simp only[zZ,zP,List.flatMap_nil,List.append_nil]
 rw[this,zBi sA sB]
def GI (H4:AH)(q:PN)(kv:Kvs)(key:Str)(At A6 top:Nat)(k:Nat)(us:List AV)(H':AH):Prop:=
 ∃j s nd h,∃t:Bt.Tr h,∃(S0:List Ptr) (lo hi:Bd),us=[.ptr At 0,S key, .ptr A6 0, .int .i64 ((top:Nat):Int), .int .i64 ((j:Nat):Int)]/\k+j=top/\h<k/\Stp (fun B=>B=A6) H4 H'/\H'.h.get A6=some (.cells (y6 (pp s)) 59 1 false)/\qV s q=some nd/\jF (Qf q []) h nd t S0/\Gen h lo hi t/\j9 h t<=500/\lookP key kv=lookP key (con h t)
def GQ (H:AH)(kv:Kvs)(key:Str)(e:Ex)(H':AH):Prop:=Prs H H'/\e= .ret (geR (lookP key kv))
theorem zIn (D:Dyn)(n:Nat)(hn:300000000<=n){H H4:AH}{At M A6:Nat}{dk cch dr:AV}{root:Ptr}{es:List (AV×AV)}{q:PN}{last:Nat}{kv:Kvs}{key:Str}(ti:TI H At M dk cch root es q last dr)(hql:q.length<=90000000)(p4:Prs H H4)(m6:H.next<=A6)(l6:A6<H4.next):
  ∀k us H',GI H4 q kv key At A6 (8192+q.length) k us H'->Fin (zFP D n us H') (orN (fun vs' H''=> ∃k',k'<k/\GI H4 q kv key At A6 (8192+q.length) k' vs' H'') (GQ H kv key)):=by
 intro k us H' ⟨j,s,nd,h,t,S0,lo,hi,hus,hkj,hhk,stp,gA6,hs,rn,gen,hz,hlk⟩;subst hus;have N4:=p4.next;have N':=stp.next
 have P':Prs H H':=p4.fresh stp (fun B hB=>by omega);have ti':=ti.prs P';have hj:((j:Nat):Int)< ((8192+q.length:Nat):Int):=by omega
 have i2:ldN 3 (.ptr A6 0) H'=some (.agg (y6 (pp s))):=by rw[qQ gA6];rfl
 obtain⟨v1,H5,e5,p5,hg5,_,_⟩:=KW D n ti' hs;obtain⟨ks,vs0,ps,rfl,_⟩:=id hg5;obtain⟨H6,A7,b6,p6,g6,m6',n6⟩:=box p5.ok (.cells [.bool false, .nilSlice, .nilSlice, .nilSlice] 93 1 false);have hcell:qN [.bool nd.leaf,ks,vs0,ps]=true:=by obtain⟨_,h1,_,h3⟩:=uZ hg5;exact h3
 obtain⟨H7,e7,g7,s7,n7⟩:=yF p6.ok g6 (l':=[.bool nd.leaf,ks,vs0,ps]) rfl hcell;have e7':stN 4 (.ptr A7 0) (.agg [.bool nd.leaf,ks,vs0,ps]) H6=some (qM,H7):=e7;have N5:=p5.next;have N6:=p6.next;have N7:=s7.next
 have P7:Prs H' H7:=(p5.trans p6).fresh s7 (fun B hB=>by omega);have hg7:y9 H7 (.agg [.bool nd.leaf,ks,vs0,ps]) nd:=(hg5.prs p6).stp s7 (fun B hB e=>by have:=hg5.lt hB;omega);have hsm:small nd:=wI (by rw[rn.size];omega);have f0:ld1 (.ptr A7 0) H7=some (.bool nd.leaf):=by rw[qL g7];rfl
 have t00: ¬(((0:Nat):Int)≠((0:Nat):Int)):=by omega
 have hj1:((j:Nat):Int)+((1:Nat):Int)=((j+1:Nat):Int):=by omega
 cases h with
 | zero=>
  obtain⟨rfl,rfl⟩:=rn;have hlf:(qP (t:Kvs)).leaf=true:=rfl;rw[hlf]at f0;obtain⟨H8,e8,p8⟩:=zIp D n (by omega) P7.ok (key:=key) hg7.node hsm;have hgl:Nd.getN (qP (t:Kvs)) key=lookP key kv:=by rw[hlk];exact Nd.get_leaf _ _
  rw[hgl]at e8;refine⟨.ret (geR (lookP key kv)),H8, ?_,P'.trans (P7.trans p8),rfl⟩
  cases hl:lookP key kv with
  | none=>
   rw[hl]at e8;simp(maxSteps:=999999)(disch:=omega) only[zFP,eZ,hj,i2,e5,qK,nth,b6,e7',t00,f0,xY g7 rfl,e8,Option.isSome_none,geR]
  | some v=>
   rw[hl]at e8;simp(maxSteps:=999999)(disch:=omega) only[zFP,eZ,hj,i2,e5,qK,nth,b6,e7',t00,f0,xY g7 rfl,e8,qJ,Option.getD_some,geR]
 | succ h=>
  obtain⟨r1,r2,r3,r4⟩:=id rn;rw[r1]at f0;obtain⟨H8,e8,p8⟩:=bN D n (by omega) P7.ok (key:=key) hg7.node hsm;have hw:Nd.whereN nd key=qZ t.1 key:=xM r1 r2 key;rw[hw]at e8;have hle:=xN t.1 key;have hl:=gen.2.2.len;have hil:qZ t.1 key<t.2.length:=by omega
  have htk:=zB hil;have hlook:=zIa (key:=key) gen htk;have wk:=KB.at gen.2.2 htk;obtain⟨pk,ndk,Sa,Si,Sb,k1,k2,k3,_,_,_⟩:=r4.at htk;obtain⟨sk,rfl,hsk⟩:=uI k2;have hsk:qV sk q=some ndk:=by
   rcases hsk with hsk | ⟨_,hsk⟩
   ·simp[qV]at hsk
   ·exact hsk
  generalize qZ t.1 key=wi at*
  have hg8:=hg7.prs p8;obtain⟨ks',vs',ps',ee,j1,j2,j3⟩:=hg8;simp only[AV.agg.injEq,List.cons.injEq,and_true,true_and]at ee;obtain⟨rfl,rfl,rfl⟩:=ee;have hkl:=r4.len;obtain⟨qk,ik,ik'⟩:=uP.at (l:=nd.kids) j3.row (i:=wi) (by omega);have hkk:nd.kids[wi]'(by omega)=pp sk:=by
   rw[zB (by omega)]at k1;exact Option.some.inj k1
  rw[hkk]at ik';have N8:=p8.next
  have f3:ld1 (.ptr A7 3) H7=some ps:=by rw[qL g7];rfl
  have f3':ld1 (.ptr A7 3) H8=some ps:=by rw[qL (Prs.get p8 P7.ok g7)];rfl
  have gA68:H8.h.get A6=some (.cells (y6 (pp s)) 59 1 false):=Prs.get (P7.trans p8) stp.ok gA6;obtain⟨H9,e9,g9,s9,_⟩:=yF p8.ok gA68 (l':=y6 (pp sk)) rfl rfl;have e9':stN 3 (.ptr A6 0) (.agg (y6 (pp sk))) H8=some (qM,H9):=e9;have N9:=s9.next
  refine⟨.norm _,H9, ?_,k - 1,by omega,j+1,sk,ndk,h,t.2[wi],Si,_,_,rfl,by omega,by omega,⟨s9.ok,by omega,fun B hB hS=> ?_⟩,g9,hsk,k3,wk.gen,wk.sz,by rw[hlk,hlook]⟩
  ·simp(maxSteps:=999999)(disch:=omega) only[zFP,eZ,hj,i2,e5,qK,nth,b6,e7',t00,f0,f3,xY g7 rfl,e8,jA f3' (yL j3.row),ik,ik',e9',hj1]
  ·rw[s9.keep B (by omega) hS,p8.keep B (by omega) (fun x=>x),P7.keep B (by omega) (fun x=>x)];exact stp.keep B hB hS
theorem zLl (m n:Nat)(hn:300000000<=n){H:AH}{At M L:Nat}{kv:Kvs}(key:Str)(t:yS H At M L kv)(hL:L<=90000000)(hkv:kv.length<=1000000000):
  ∃H',f21 (dy m) n [.ptr At 0,S key] H=some (if mayK key then geR (lookP key kv)else .tuple [.str 0 0, .int .i64 ((1:Nat):Int)],H')/\Prs H H':=by
 obtain⟨d,c,_,root,es,q,last,rfl,hc,ti,h2,h3,h4,h5⟩:=id t;have hno:=cZ (dy m) n ti;by_cases hp:mayK key=true
 ·have hp1:=hp;simp only[Nd.mayK,z8,zF]at hp1;have a1: ¬((key.length:Nat):Int)< ((1:Nat):Int):=by omega
  have a2: ¬((40:Nat):Int)< ((key.length:Nat):Int):=by omega
  have l2':ld1 (.ptr At 2) H=some (.int .i64 root.at_):=by rw[qL ti.gT];rfl
  rw[if_pos hp];rcases h5 with⟨rfl,rfl⟩ | ⟨s,h,nd,tr,S0,rfl,hs,rn,wr,nd0,rfl⟩
  ·have hroot:pZ.at_=((0:Nat):Int):=rfl;rw[hroot]at l2';refine⟨H, ?_,Stp.refl ti.ok⟩;have hlk:lookP key []=none:=rfl;rw[hlk];simp(maxSteps:=999999)(disch:=omega) only[f21,eZ,hno,a1,a2,l2',geR]
  ·have hroot:(pp s).at_=((1:Nat):Int):=rfl;rw[hroot]at l2';have h10: ¬((1:Nat):Int)=((0:Nat):Int):=by omega
   have hh:=wr.low hkv;have lr:ldN 3 (.ptr At 2) H=some (.agg (y6 (pp s))):=by rw[qQ ti.gT];rfl
   obtain⟨H1,A6,b1,p1,g1,m1,n1⟩:=box ti.ok (.cells [.int .i64 ((0:Nat):Int), .int .i64 ((0:Nat):Int), .int .u64 ((0:Nat):Int)] 59 1 false);obtain⟨H2,e2,g2,s2,n2⟩:=yF p1.ok g1 (l':=y6 (pp s)) rfl rfl;have e2':stN 3 (.ptr A6 0) (.agg (y6 (pp s))) H1=some (qM,H2):=e2;have N1:=p1.next;have N2:=s2.next
   have P2:Prs H H2:=p1.fresh s2 (fun B hB=>by omega);have hmost:=zEF (dy m) n (ti.prs P2);obtain⟨e,H5,e5,p5,rfl⟩:=Fin.loop (GI H2 q (con h tr) key At A6 (8192+q.length)) (zIn (dy m) n hn ti (by omega) P2 (by omega) (by omega)) n (8192+q.length) [.ptr At 0,S key, .ptr A6 0, .int .i64 ((8192+q.length:Nat):Int), .int .i64 ((0:Nat):Int)] H2
    ⟨0,s,nd,h,tr,S0,none,none,rfl,by omega,by omega,Stp.refl s2.ok,g2,hs,rn,wr.gen,wr.sz,rfl⟩ (by omega)
   refine⟨H5, ?_,p5⟩;simp(maxSteps:=999999)(disch:=omega) only[f21,eZ,hno,a1,a2,l2',h10,lr,b1,e2',hmost,e5]
 ·rw[if_neg hp];refine⟨H, ?_,Stp.refl ti.ok⟩;have hx:((key.length:Nat):Int)< ((1:Nat):Int)\/((40:Nat):Int)< ((key.length:Nat):Int):=by
   simp only[Nd.mayK,z8,zF]at hp;omega
  simp(maxSteps:=999999)(disch:=omega) only[f21,eZ,hno];rw[if_pos (by simpa using hx)];rfl
open Go.Nd (be zL4 encP)
theorem zGF: ∀(i n:Nat),be (i+1) n=UInt8.ofNat (n / 256 ^ i)::be i n
 | 0,n=>by simp[be]
 | i+1,n=>by
  rw[be,zGF i (n / 256),Nat.div_div_eq_div_mul,Nat.mul_comm 256,<-Nat.pow_succ];rfl
theorem zKC {c m:List AV}{o:Nat}{x:AV}(h:o<c.length):(c.take (o+1)++m).set o x=c.take o++(x::m):=by
 have hl:(c.take o).length=o:=by simp;omega
 rw[fZ c o h,List.append_assoc,List.set_append_right _ _ (by omega),hl];simp
theorem zMU (D:Dyn)(n:Nat){H:AH}(hk:H.ok){A off k cc:Nat}{c:List AV}{e:TypeId}{g:Bool}(z:Nat)(hA:H.h.get A=some (.cells c e 1 g))(hc:off+k<=c.length)(hkk:k<=8)(hn:100<=n):
  ∃H',f79 D n [.slice A off k cc, .int .u64 (z:Nat)] H=some (.tuple [],H')/\H'.h.get A=some (.cells (c.take off++(qR (be k z)++c.drop (off+k))) e 1 g)/\Stp (fun B=>B=A) H H'/\H'.next=H.next:=by
 have hlt:=hk.lt hA;have key:=vB (b:=zFo D n) k (fun i vs H'=>vs=[.slice A off k cc, .int .u64 (z:Nat), .int .i64 (k:Nat), .int .i64 (i:Nat)]/\i<=k/\H'.h.get A=some (.cells (c.take (off+(k - i))++(qR (be i z)++c.drop (off+k))) e 1 g)/\Stp (fun B=>B=A) H H'/\H'.next=H.next)
  (fun i vs H' hi ⟨hvs,hik,hg,hst,hnx⟩=>by
   subst hvs;have hb:Nat.blt (k - 1 - i) k=true:=by rw[zM];omega
   have hsub:(((k:Nat):Int) - 1 - (i:Int))=((k - 1 - i:Nat):Int):=by omega
   have hix:jL 1 (.slice A off k cc) (.int .i64 ((k - 1 - i:Nat):Int))=some (.ptr A (off+(k - 1 - i))):=by
    simp only[jL,yK _ (show(0:Int)<=((k - 1 - i:Nat):Int)by omega),zS,hb,cond_true,yE,Nat.mul_one]
   have hst1:=Q7 (x:= .int .u8 ((((z / 256 ^ i % 256:Nat):Nat)):Int)) (o:=off+(k - 1 - i)) hg (by decide) rfl (by simp[qR,Nd.be_length];omega);have hcell:(c.take (off+(k - i))++(qR (be i z)++c.drop (off+k))).set (off+(k - 1 - i)) (.int .u8 (((z / 256 ^ i % 256:Nat)):Int))=c.take (off+(k - (i+1)))++(qR (be (i+1) z)++c.drop (off+k)):=by
    rw[show off+(k - i)=off+(k - 1 - i)+1 by omega,zKC (by omega),zGF,show k - (i+1)=k - 1 - i by omega];simp[qR]
   have hsh:((z:Nat):Int) / 2 ^ (8*i)=((z / 256 ^ i:Nat):Int):=by
    rw[<-zJx];simp
   refine⟨_,H'.put A (.cells (c.take (off+(k - (i+1)))++(qR (be (i+1) z)++c.drop (off+k))) e 1 g), ?_,rfl,by omega,by rw[AH.put_get,if_pos rfl], ?_,hnx⟩
   ·rw[hcell]at hst1;have hsh':=zJ4 .u64 .i64 (a:=(z:Nat)) (s:=8*i) (by omega) (by simp[IntKind.bits];omega);rw[hsh]at hsh';have h8:(((8:Nat):Int)*(i:Int))=((8*i:Nat):Int):=by omega
    have hw:IntKind.wrap .u8 ((z / 256 ^ i:Nat):Int)=((z / 256 ^ i % 256:Nat):Int):=by rw[wrap_u8];omega
    have h1:((k:Nat):Int) - ((1:Nat):Int) - (i:Int)=((k - 1 - i:Nat):Int):=by omega
    simp(disch:=omega) only[zFo,ev,lnSl,h1,hix,h8,hsh',hw,hst1];simp[hi]
   ·exact hst.put (by omega) _ (.inr rfl)) n _ H ⟨rfl,Nat.zero_le _,by simpa[be,qR]using hA,Stp.refl hk,rfl⟩ (by omega)
 obtain⟨m,vs',H',h1,rfl,_,h3,h4,h5⟩:=key;refine⟨H', ?_,by simpa using h3,h4,h5⟩;have hl:qW (m+1) (zFo D n) [.slice A off k cc, .int .u64 (z:Nat), .int .i64 (k:Nat), .int .i64 (k:Nat)] H'=some (.exit 0 [],H'):=qY (by simp[zFo,ev]);rw[hl]at h1;simp only[f79,ev,lnSl,h1,zNJ]
theorem zLJ (p q:Ptr):eqA [6,6,10] (.agg (y6 p)) (.agg (y6 q))=some (decide (p=q)):=by
 obtain⟨a,b,c⟩:=p;obtain⟨a',b',c'⟩:=q;have h1:=fun x y=>K3 .i64 x y
 have h2:=fun x y=>K3 .u64 x y
 simp only[dS]at h1 h2;simp only[eqA,y6,aD,Nat.succ_eq_add_one,Nat.beq_refl,zJ,zX,Bool.and_self,cond_true,xU,h1,h2];by_cases e1:a=a'<;>by_cases e2:b=b'<;>by_cases e3:c=c'<;>simp[e1,e2,e3]
theorem zIS (b:Bool):vJ .eql (some b)=some (.bool b):=by simp only[vJ,yU]
theorem zN4 (D:Dyn)(n:Nat){H:AH}(hk:H.ok)(p:Ptr): ∃H',f78 D n [.agg (y6 p)] H=some (.bool (zL4 p),H')/\Prs H H':=by
 refine⟨H.push (.cells (y6 p) 59 1 false), ?_,(Stp.refl hk).push _⟩;have hz:eqA [6,6,10] (.agg (y6 p)) (.agg (y6 ⟨0,0,0⟩))=_:=zLJ p ⟨0,0,0⟩;obtain⟨a,b,c⟩:=p;simp only[y6]at hz;simp only[f78,ev,vW hk,y6,vY,takeN,Option.map_some,lg,wB,uN];by_cases h0:a=0
 ·subst h0;simp only[show((0:Nat):Int)=0 from rfl,if_true,hz,zIS,ev,zL4];simp
 ·simp only[show((0:Nat):Int)=0 from rfl,if_neg h0,ev,zL4];rfl
def Z (n:Nat):List AV:=List.replicate n (.int .u8 ((0:Nat):Int))
theorem rep16:rep 16 [.int .u8 ((0:Nat):Int)]=Z 16:=rfl
theorem zA2 (D:Dyn)(n:Nat){H:AH}(hk:H.ok){A off k cc:Nat}{pre seg post:List AV}{e:TypeId}{g:Bool}(z:Nat)(hA:H.h.get A=some (.cells (pre++(seg++post)) e 1 g))(hp:pre.length=off)(hs:seg.length=k)(hkk:k<=8)(hn:100<=n):
  ∃H',f79 D n [.slice A off k cc, .int .u64 (z:Nat)] H=some (.tuple [],H')/\H'.h.get A=some (.cells (pre++(qR (be k z)++post)) e 1 g)/\Stp (fun B=>B=A) H H'/\H'.next=H.next:=by
 obtain⟨H',h1,h2,h3⟩:=zMU D n hk (cc:=cc) (k:=k) (off:=off) z hA (by simp;omega) hkk hn;refine⟨H',h1, ?_,h3⟩;have hd:(pre++(seg++post)).drop (off+k)=post:=by rw[<-List.append_assoc,List.drop_left' (by rw[zI];omega)]
 rw[List.take_left' hp,hd]at h2;exact h2
theorem slA (A lo hi:Nat)(h1:lo<=hi)(h2:hi<=16)(h3:lo<16):v7 16 1 (.ptr A 0) (some (.int .i64 (lo:Nat))) (some (.int .i64 (hi:Nat))) none=some (.slice A lo (hi - lo) (2*(16 - lo))):=by
 have e1:Nat.ble hi 16=true:=by rw[zR];exact h2
 have e2:Nat.ble lo hi=true:=by rw[zR];exact h1
 have e3:Nat.beq 16 lo=false:=by rw[Bool.eq_false_iff];intro h;have:=Nat.eq_of_beq_eq_true h;omega
 simp[v7,yO,yK,aO,e1,e2,e3,yE,show((32 % 2).beq 0)=true from rfl,show(32 / 2).beq lo=false from e3,show Nat.blt 0 1=true from rfl]
theorem zME (A:Nat):v7 16 1 (.ptr A 0) none (some (.int .i64 ((4:Nat):Int))) none=some (.slice A 0 4 32):=rfl
theorem zMD (A:Nat):v7 16 1 (.ptr A 0) (some (.int .i64 ((8:Nat):Int))) none none=some (.slice A 8 8 16):=rfl
theorem zMC (A:Nat):v7 16 1 (.ptr A 0) none none none=some (.slice A 0 16 32):=rfl
theorem zGc (D:Dyn)(n:Nat){H:AH}(hk:H.ok){p:Ptr}(hp:zL4 p=true)(hs:Nd.sumOk p)(hn:100<=n): ∃H',f52 D n [.agg (y6 p)] H=some (.tuple [S (encP p), .int .i64 (0:Nat)],H')/\Prs H H':=by
 have hP:Prs H (H.push (.cells (y6 p) 59 1 false)):=(Stp.refl hk).push _;obtain⟨H2,h2,hP2⟩:=zN4 D n hP.ok p;have hd':vY (y6 p) 0 3=some (y6 p):=rfl;have h0: ∃a b s:Nat,p=⟨a,b,s⟩/\a<4294967296/\b<4294967296/\s<18446744073709551616:=by
  obtain⟨a,b,s⟩:=p;simp only[Nd.sumOk]at hs;have h1:0<=a/\a<8192/\0<=b/\b<=2147483647:=by
   simp only[zL4]at hp;split at hp
   ·simp only[z8,zF]at hp;omega
   ·simp only[z8,zF]at hp;omega
  exact⟨a.toNat,b.toNat,s.toNat,by congr 1<;>omega,by omega,by omega,by omega⟩
 obtain⟨a,b,s,rfl,ha,hb,hss⟩:=h0;have hw: ∀x:Nat,x<18446744073709551616->IntKind.wrap .u64 (x:Int)=(x:Int):=fun x hx=>by rw[wrap_u64];omega
 have hP3:Prs H2 (H2.push (.cells (Z 16) 139 1 false)):=(Stp.refl hP2.ok).push _;have hB:(H2.push (.cells (Z 16) 139 1 false)).h.get H2.next=some (.cells ([]++(Z 4++Z 12)) 139 1 false):=AH.push_get_eq _ _
 have hn3:(H2.push (.cells (Z 16) 139 1 false)).next=H2.next+1:=rfl
 generalize hH3:H2.push (.cells (Z 16) 139 1 false)=H3 at hP3 hB hn3;obtain⟨H4,e4,g4,st4,n4⟩:=zA2 D n hP3.ok (cc:=32) (k:=4) (off:=0) a hB rfl (by simp[Z]) (by omega) hn;rw[show[]++(qR (be 4 a)++Z 12)=qR (be 4 a)++(Z 4++Z 8)from rfl]at g4;obtain⟨H5,e5,g5,st5,n5⟩:=zA2 D n st4.ok (cc:=24) (k:=4) (off:=4) b g4 (by simp[qR,Nd.be_length]) (by simp[Z]) (by omega) hn;rw[<-List.append_assoc,show Z 8=Z 8++[]from rfl]at g5;obtain⟨H6,e6,g6,st6,n6⟩:=zA2 D n st5.ok (cc:=16) (k:=8) (off:=8) s g5 (by simp[qR,Nd.be_length]) (by simp[Z]) (by omega) hn;have hx3:H3.h.get H.next=some (.cells (y6 ⟨a,b,s⟩) 59 1 false):=hP3.get hP2.ok (hP2.get hP.ok (AH.push_get_eq _ _))
 have hlt2:H.next<H2.next:=by have:=hP2.next;rw[AH.push_next]at this;omega
 have hx4:H4.h.get H.next=some (.cells (y6 ⟨a,b,s⟩) 59 1 false):=by rw[st4.keep _ (by have:=hP3.next;omega) (by omega)];exact hx3
 have hx5:H5.h.get H.next=some (.cells (y6 ⟨a,b,s⟩) 59 1 false):=by rw[st5.keep _ (by have:=hP3.next;omega) (by omega)];exact hx4
 have hbytes:qR (be 4 a)++qR (be 4 b)++(qR (be 8 s)++[])=qR (encP ⟨a,b,s⟩):=by simp[encP,qR]
 rw[hbytes]at g6;have hcv:fL (.slice H2.next 0 16 32) H6=some (S (encP ⟨a,b,s⟩)):=dY ⟨by simp[qR,Nd.encP_length], .inr (.inr ⟨_,_,_,_,_,_,_,rfl,g6,by have:=(st6.ok).lt g6;exact this,by simp[qR,Nd.encP_length],by simp[zK,qR,Nd.encP_length]⟩)⟩ (by simp)
 refine⟨H6, ?_, ?_⟩
 ·simp only[f52,ev,vW hk,hd',Option.map_some,h2,hp];simp only[ev,vW hP2.ok,Bool.not_true,Bool.false_eq_true,if_false,rep16,hH3,zME,zMD,zMC,slA _ 4 8 (by omega) (by omega) (by omega),qL hx3,qL hx4,qL hx5,y6,hw a (by omega),hw b (by omega),hw s (by omega),e4,e5,e6,hcv]
 ·have hst:Stp (fun B=>B=H2.next) H3 H6:=(st4.trans st5).trans st6
  exact(hP.trans hP2).trans (hP3.fresh hst (fun A hA=>by omega))
end Go.Eng.Sh
end
section
namespace Go.Eng
open Go.Nd (Kvs Srt)
end Go.Eng
namespace Go.Eng.Sh
open Go.Nd (Ptr yH qP Kvs Srt mayK putP delP lookP)
open Go.Bt
def prV (p:Str×Str):List AV:=[S p.1,S p.2]
def gP (H:AH)(v:AV)(l:Kvs):Prop:=Rw 2 H v l.length (l.flatMap prV)
theorem zBv: ∀(l:Kvs) (i:Nat) (h:i<l.length),((l.flatMap prV).drop (i*2)).take 2=prV l[i]
 | p::l,0,_=>rfl
 | p::l,i+1,h=>by
  rw[zP,show(i+1)*2=2+i*2 by omega,<-List.drop_drop];exact zBv l i (by simpa using h)
theorem gP.at {H:AH}{v:AV}{l:Kvs}(h:gP H v l){i:Nat}(hi:i<l.length): ∃A o,(∀κ (z:Int),z=(i:Int)->jL 2 v (.int κ z)=some (.ptr A o))/\Eng.ldN 2 (.ptr A o) H=some (.agg (prV l[i]))/\Eng.ld1 (.ptr A o) H=some (S l[i].1)/\Eng.ld1 (.ptr A (o+1)) H=some (S l[i].2):=by
 obtain⟨A,o,c,e,sz,g,h1,h2,h3,h4,h5⟩:=Rw.at h hi;rw[zBv l i hi]at h5;have g0:c[o]? =some (S l[i].1):=by
  have:=congrArg (fun x=>x[0]?) h5;simpa[prV]using this
 have g1:c[o+1]? =some (S l[i].2):=by
  have:=congrArg (fun x=>x[1]?) h5;simpa[prV]using this
 exact⟨A,o,h1,by rw[zAc h2 h4,h5],QV h2 g0,QV h2 g1⟩
end Go.Eng.Sh
end
section
namespace Go.Eng
end Go.Eng
namespace Go.Eng.Sh
open Go.Nd (Ptr yH qP Kvs Srt mayK putP delP lookP)
open Go.Bt
theorem zL0 (D:Dyn)(n:Nat)(hn:100<=n){H:AH}(hk:H.ok)(Ad od:Nat){c:AV}(hc:isCell c=true): ∃H' At M,f23 D n [.ptr Ad od,c, .agg (y6 pZ)] H=some (.tuple [.ptr At 0, .int .i64 ((0:Nat):Int)],H')/\Prs H H'/\H.next<=At/\H.next<=M/\yS H' At M 0 []:=by
 obtain⟨H1,A5,b1,p1,g1,m1,n1⟩:=box hk (.cells (y6 pZ) 59 1 false);obtain⟨H2,e2,p2⟩:=zGc D n p1.ok (p:=pZ) rfl (by simp[Nd.sumOk,pZ]) hn;obtain⟨H3,M,b3,p3,g3,m3,n3⟩:=box p2.ok (.map [10] []);obtain⟨H4,At,b4,p4,g4,m4,n4⟩:=box p3.ok (.cells (jG (.ptr Ad od) c pZ M 0 .nilSlice) 100 1 false);have N1:=p1.next;have N2:=p2.next;have N3:=p3.next
 have P12:=p1.trans p2;refine⟨H4,At,M, ?_,(P12.trans p3).trans p4,by omega,by omega,⟨_,_,_,_,_,[],0,rfl,hc,⟨p4.ok,g4,Prs.get p4 p3.ok g3,trivial,⟨_,_,rfl⟩,by simp⟩,fun s nd h=>by simp[qV]at h,by simp,by omega, .inl ⟨rfl,rfl⟩⟩⟩;have r1:ldN 3 (.ptr A5 0) H1=some (.agg (y6 pZ)):=by rw[qQ g1];rfl
 have r2:ldN 3 (.ptr A5 0) H2=some (.agg (y6 pZ)):=by rw[qQ (Prs.get p2 p1.ok g1)];rfl
 have r3:ld1 (.ptr A5 0) H2=some (.int .i64 ((0:Nat):Int)):=by rw[qL (Prs.get p2 p1.ok g1)];rfl
 have t00: ¬(((0:Nat):Int)≠((0:Nat):Int)):=by omega
 have h01: ¬((0:Nat):Int)=((1:Nat):Int):=by omega
 have bs:wB [(0,1),(1,1),(2,3),(5,1),(6,1),(7,1)] [.nilPtr, .nilPtr, .int .i64 ((0:Nat):Int), .int .i64 ((0:Nat):Int), .int .u64 ((0:Nat):Int), .nilMap, .int .u64 ((0:Nat):Int), .nilSlice] [(0, .ptr Ad od),(1,c),(2, .agg (y6 pZ)),(3, .map M)]=some (.agg (jG (.ptr Ad od) c pZ M 0 .nilSlice)):=by
  simp only[wB,uN,zI7,yN hc];rfl
 simp(maxSteps:=999999)(disch:=omega) only[f23,eZ,b1,cq,r1,e2,qK,nth,t00,r3,h01,r2,mkM,b3,bs,b4]
theorem yS.lt {H:AH}{At M L:Nat}{kv:Kvs}(h:yS H At M L kv):At<H.next/\M<H.next:=by
 obtain⟨d,c,_,root,es,q,last,rfl,hc,ti,_⟩:=h;exact⟨ti.ok.lt ti.gT,ti.ok.lt ti.gM⟩
theorem srt_ext: ∀ {l m:Kvs},Srt l->Srt m->(∀k,lookP k l=lookP k m)->l=m
 | [],[],_,_,_=>rfl
 | [],(a,b)::m,_,_,h=>by have:=h a;simp[lookP]at this
 | (a,b)::l,[],_,_,h=>by have:=h a;simp[lookP]at this
 | (a,b)::l,(c,d)::m,hl,hm,h=>by
  have key: ∀ {a c:Str} {b d:Str} {l m:Kvs},Srt ((a,b)::l)->Srt ((c,d)::m)->(∀k,lookP k ((a,b)::l)=lookP k ((c,d)::m))->ltS a c=true->False:=fun {a c b d l m} hl hm h hac=>by
   have h1:=h a;have hc:c≠a:=fun e=>(uG hac) e.symm
   simp only[lookP,if_true,if_neg hc]at h1;have:lookP a m=none:=Nd.look_none fun p hp e=>by
    have:=yP hac (hm.1 p hp);rw[e,yD]at this;cases this
   rw[this]at h1;cases h1
  have e:a=c:=bC (by
   cases hx:ltS a c with
   | false=>rfl
   | true=>exact(key hl hm h hx).elim) (by
   cases hx:ltS c a with
   | false=>rfl
   | true=>exact(key hm hl (fun k=>(h k).symm) hx).elim)
  subst e;have hb:=h a;simp only[lookP,if_true,z7]at hb;subst hb;rw[srt_ext hl.2 hm.2 fun k=>by
   have:=h k;simp only[lookP]at this;by_cases e:a=k
   ·subst e;have n1:lookP a l=none:=Nd.look_none fun p hp e=>by
     have:=hl.1 p hp;rw[e,yD]at this;cases this
    have n2:lookP a m=none:=Nd.look_none fun p hp e=>by
     have:=hm.1 p hp;rw[e,yD]at this;cases this
    rw[n1,n2]
   ·rwa[if_neg e,if_neg e]at this]
end Go.Eng.Sh
end
section
namespace Go.Eng
theorem j7.stk {k e n:Nat}{H:AH}{v:AV}{l:List AV}(h:j7 k e H v n l): ∃e',Stk k e' H v n l:=by
 rcases h with⟨h0,⟨rfl,rfl⟩ | ⟨A,rfl,hA,hg⟩⟩ | ⟨h0,A,e',g,rfl,hA,hg,hn0⟩
 ·exact⟨e,h0, .inl ⟨rfl,rfl⟩⟩
 ·exact⟨e,h0, .inr ⟨A,1,l,true,n,rfl,hA,hg,h0,Nat.le_refl _,zK (by omega), .inr ⟨rfl,rfl⟩⟩⟩
 ·exact⟨e',h0, .inr ⟨A,2*n,l,g,n,rfl,hA,hg,h0,Nat.le_refl _,zK (by omega), .inl rfl⟩⟩
theorem j7.hi {k e n i:Nat}{H:AH}{v:AV}{l:List AV}(h:j7 k e H v n l)(hpos:0<k)(hi:i<=n): ∃r,j8 k v none (some (.int .i64 (i:Nat))) none H=some r/\Rw k H r i (l.take (i*k)):=by
 obtain⟨e',hs⟩:=h.stk;obtain⟨r,h1,h2,_⟩:=hs.cut hpos hi .i64;exact⟨r,h1,h2.row⟩
end Go.Eng
namespace Go.Eng.Sh
open Go.Nd (Ptr yH qP Kvs Srt mayK putP delP lookP)
open Go.Bt
def PrG (H:AH)(v:AV)(l:Kvs):Prop:=j7 2 50 H v l.length (l.flatMap prV)/\(l=[]->v= .nilSlice)
theorem PrG.prs {H H':AH}{v:AV}{l:Kvs}(h:PrG H v l)(s:Prs H H'):PrG H' v l:=⟨h.1.mono s (fun _ _ x=>x),h.2⟩
theorem PrG.row {H:AH}{v:AV}{l:Kvs}(h:PrG H v l):gP H v l:=h.1.row
theorem zBP (D:Dyn)(n:Nat){H:AH}{At M L:Nat}{kv:Kvs}(t:yS H At M L kv): ∃H' At' M',f56 D n [.ptr At 0] H=some (.ptr At' 0,H')/\Prs H H'/\H.next<=At'/\H.next<=M'/\yS H' At' M' L kv:=by
 obtain⟨d,c,_,root,es,q,last,rfl,hc,ti,h2,h3,h4,h5⟩:=t;obtain⟨A0,o0,rfl⟩:=ti.hd;have hk:=ti.ok;have r8:ldN 8 (.ptr At 0) H=some (.agg (jG (.ptr A0 o0) c root M last .nilSlice)):=by rw[qQ ti.gT];rfl
 have hac:qN (jG (.ptr A0 o0) c root M last .nilSlice)=true:=by simp only[qN,jG,hc,Bool.true_and,Bool.and_true];rfl
 obtain⟨Z,hZ⟩: ∃Z:List AV,Z=[.nilPtr, .nilPtr, .int .i64 ((0:Nat):Int), .int .i64 ((0:Nat):Int), .int .u64 ((0:Nat):Int), .nilMap, .int .u64 ((0:Nat):Int), .nilSlice]:=⟨_,rfl⟩;have e1: ∀K,bA (some (.cells [.nilPtr, .nilPtr, .int .i64 ((0:Nat):Int), .int .i64 ((0:Nat):Int), .int .u64 ((0:Nat):Int), .nilMap, .int .u64 ((0:Nat):Int), .nilSlice] 100 1 false,fun A=> .ptr A 0)) H K=K (.ptr H.next 0) (H.push (.cells Z 100 1 false)):=fun K=>by
  rw[hZ,vW hk]
 have e2:stN 8 (.ptr H.next 0) (.agg (jG (.ptr A0 o0) c root M last .nilSlice)) (H.push (.cells Z 100 1 false))=some (qM,H.push (.cells (jG (.ptr A0 o0) c root M last .nilSlice) 100 1 false)):=zHz (by decide) rfl (by rw[hZ];rfl) hac
 have lA:=hk.lt ti.gT;have lM:=hk.lt ti.gM;have p1:Prs H (H.push (.cells (jG (.ptr A0 o0) c root M last .nilSlice) 100 1 false)):=(Stp.refl hk).push _;have g1:=AH.push_get_eq H (.cells (jG (.ptr A0 o0) c root M last .nilSlice) 100 1 false);have n1:=AH.push_next H (.cells (jG (.ptr A0 o0) c root M last .nilSlice) 100 1 false);generalize H.push (.cells (jG (.ptr A0 o0) c root M last .nilSlice) 100 1 false)=H1 at*
 have gM1:=Prs.get p1 hk ti.gM;have e3:m80 D n [.map M] H1=some (.map H1.next,H1.push (.map [10] es)):=by
  obtain⟨t,ht⟩:=Option.isSome_iff_exists.1 (T.set_some 40 H1.h H1.next (.map [10] es))
  simp only[m80,clnK,gM1,p1.ok H1.next (Nat.le_refl _),ht,yE,AH.push,Option.getD_some]
 have p2:Prs H1 (H1.push (.map [10] es)):=(Stp.refl p1.ok).push _;have g2:=AH.push_get_eq H1 (.map [10] es);have n2:=AH.push_next H1 (.map [10] es);have g12:=Prs.get p2 p1.ok g1;generalize H1.push (.map [10] es)=H2 at*
 have e4:stN 1 (.ptr H.next 5) (.map H1.next) H2=some (qM,H2.put H.next (.cells (jG (.ptr A0 o0) c root H1.next last .nilSlice) 100 1 false)):=Q7 g12 (by decide) rfl (by simp[jG])
 have hput: ∀ {H2:AH},H2.ok->H.next<H2.next->Prs H H2-> ∀o,Prs H (H2.put H.next o):=fun {H2} hk2 hlt p o=>⟨hk2.put hlt o,p.next,fun B hB _=>by rw[AH.put_get,if_neg (by omega)];exact p.keep B hB (fun x=>x)⟩
 have P2:=p1.trans p2;have P3:=hput p2.ok (by omega) P2 (.cells (jG (.ptr A0 o0) c root H1.next last .nilSlice) 100 1 false)
 have g3:(H2.put H.next (.cells (jG (.ptr A0 o0) c root H1.next last .nilSlice) 100 1 false)).h.get H.next=some (.cells (jG (.ptr A0 o0) c root H1.next last .nilSlice) 100 1 false):=by rw[AH.put_get,if_pos rfl]
 have g3M:(H2.put H.next (.cells (jG (.ptr A0 o0) c root H1.next last .nilSlice) 100 1 false)).h.get H1.next=some (.map [10] es):=by rw[AH.put_get,if_neg (by omega)];exact g2
 have n3:=AH.put_next H2 H.next (.cells (jG (.ptr A0 o0) c root H1.next last .nilSlice) 100 1 false)
 generalize H2.put H.next (.cells (jG (.ptr A0 o0) c root H1.next last .nilSlice) 100 1 false)=H3 at*
 have e5:f81 D n [.nilSlice] H3=some (.nilSlice,H3):=rfl;have e6:stN 1 (.ptr H.next 7) .nilSlice H3=some (qM,H3.put H.next (.cells (jG (.ptr A0 o0) c root H1.next last .nilSlice) 100 1 false)):=Q7 g3 (by decide) rfl (by simp[jG])
 have P4:=hput P3.ok (by omega) P3 (.cells (jG (.ptr A0 o0) c root H1.next last .nilSlice) 100 1 false)
 have g4:(H3.put H.next (.cells (jG (.ptr A0 o0) c root H1.next last .nilSlice) 100 1 false)).h.get H.next=some (.cells (jG (.ptr A0 o0) c root H1.next last .nilSlice) 100 1 false):=by rw[AH.put_get,if_pos rfl]
 have g4M:(H3.put H.next (.cells (jG (.ptr A0 o0) c root H1.next last .nilSlice) 100 1 false)).h.get H1.next=some (.map [10] es):=by rw[AH.put_get,if_neg (by omega)];exact g3M
 generalize H3.put H.next (.cells (jG (.ptr A0 o0) c root H1.next last .nilSlice) 100 1 false)=H4 at*
 refine⟨H4,H.next,H1.next, ?_,P4,Nat.le_refl _,by omega,⟨_,_,_,root,es,q,last,rfl,hc,⟨P4.ok,g4,g4M,ti.pq.frame fun kv _ nd hn=>hn.prs P4,⟨_,_,rfl⟩,ti.few⟩,h2,h3,h4,h5⟩⟩
 have l5:ld1 (.ptr At 5) H1=some (.map M):=by rw[qL (Prs.get p1 hk ti.gT)];rfl
 have l7:ld1 (.ptr At 7) H3=some .nilSlice:=by rw[qL (Prs.get P3 hk ti.gT)];rfl
 simp(maxSteps:=999999)(disch:=omega) only[f56,eZ,cq,r8,e1,e2,l5,e3,e4,l7,e5,e6]
end Go.Eng.Sh
end
section
namespace Go.Bt
open Go.Nd (Str Kvs Ptr qP Srt rising)
open Go.Eng (ltS yP vT yD bC)
def kK {σ α:Type}(step:σ->α->Bool×σ):List α->σ->Bool×σ
 | [],s=>(true,s)
 | a::l,s=>bif (step s a).1 then kK step l (step s a).2 else(false,(step s a).2)
theorem zB0 {σ α:Type}(step:σ->α->Bool×σ)(l l':List α)(s:σ):kK step (l++l') s=bif (kK step l s).1 then kK step l' (kK step l s).2 else(false,(kK step l s).2):=by
 induction l generalizing s with
 | nil=>rfl
 | cons a l ih=>
  simp only[List.cons_append,kK]
  cases h:(step s a).1 with
  | true=>simp only[cond_true];exact ih _
  | false=>simp only[cond_false]
theorem VB {σ α β:Type}(step:σ->β->Bool×σ)(f:α->List β): ∀(l:List α) (s:σ),kK (fun s x=>kK step (f x) s) l s=kK step (l.flatMap f) s
 | [],_=>rfl
 | a::l,s=>by
  rw[zP,zB0,kK,VB]
def y8 (to k:Str):Bool:=to.isEmpty||ltS k to
def aH (ks:List Str)(to:Str)(first:Nat):Nat:=((ks.drop first).takeWhile (y8 to)).length+1
def zN9 (ks:List Str)(ps:List Ptr)(fr to:Str):List Ptr:=(ps.drop (qZ ks fr)).take (aH ks to (qZ ks fr))
def wS (Q:Ptr->Option Nd.Node)(fr to:Str):Nat->Ptr->Nd.Node->List (Ptr×Nd.Node)
 | 0,p,nd=>[(p,nd)]
 | h+1,p,nd=>(p,nd)::(zN9 nd.keys nd.kids fr to).flatMap fun p'=>match Q p' with
  | some nd'=>wS Q fr to h p' nd'
  | none=>[]
def xS (fr:Str)(x:Ptr×Nd.Node):Kvs:=bif x.2.leaf then(x.2.keys.zip x.2.vals).drop (Nd.whereN x.2 fr)else[]
def kP {σ:Type}(to:Str)(step:σ->Str×Str->Bool×σ)(s:σ)(x:Str×Str):Bool×σ:=bif y8 to x.1 then step s x else(false,s)
def wO {σ:Type}(fr to:Str)(step:σ->Str×Str->Bool×σ)(s:σ)(x:Ptr×Nd.Node):Bool×σ:=kK (kP to step) (xS fr x) s
theorem zJb {to a b:Str}(h:ltS a b=true)(hb:y8 to b=true):y8 to a=true:=by
 simp only[y8,Bool.or_eq_true]at hb⊢;exact hb.imp id (yP h)
theorem zBY {to a b:Str}(h:a=b\/ltS a b=true)(ha:y8 to a=false):y8 to b=false:=by
 rcases h with rfl | h
 ·exact ha
 ·cases hb:y8 to b with
  | false=>rfl
  | true=>rw[zJb h hb]at ha;cases ha
theorem zDW {σ:Type}(to:Str)(step:σ->Str×Str->Bool×σ): ∀(l:Kvs) (s:σ),Srt l->(kK (kP to step) l s).2=(kK step (l.filter fun p=>y8 to p.1) s).2
 | [],_,_=>rfl
 | p::l,s,h=>by
  obtain⟨k,v⟩:=p
  cases ha:y8 to k with
  | true=>
   simp only[kK,kP,ha,cond_true,List.filter_cons,if_true]
   cases hs:(step s (k,v)).1 with
   | true=>simp only[cond_true];exact zDW to step l _ h.2
   | false=>rfl
  | false=>
   have:(((k,v)::l).filter fun p=>y8 to p.1)=[]:=by
    rw[List.filter_eq_nil_iff];intro q hq;rcases List.mem_cons.1 hq with rfl | hq
    ·simp[ha]
    ·have:=zBY (.inr (h.1 q hq)) ha;simp[this]
   rw[this];simp only[kK,kP,ha,cond_false]
def inP (fr to:Str)(p:Str×Str):Bool:= !ltS p.1 fr&&y8 to p.1
theorem VY (fr:Str): ∀ {l:Kvs},Srt l->l.drop (Nd.whereN (qP l) fr)=l.filter fun p=> !ltS p.1 fr
 | [],_=>by simp
 | (a,b)::l,h=>by
  rw[Nd.where_cons h]
  cases ha:ltS a fr with
  | true=>
   simp only[if_true,List.drop_succ_cons,List.filter_cons,ha,Bool.not_true,Bool.false_eq_true,if_false];exact VY fr h.2
  | false=>
   simp only[Bool.false_eq_true,if_false,List.drop_zero]
   symm
   rw[List.filter_eq_self];intro q hq;rcases List.mem_cons.1 hq with rfl | hq
   ·simp[ha]
   ·have h1:=h.1 q hq
    cases hq':ltS q.1 fr with
    | false=>rfl
    | true=>rw[yP h1 hq']at ha;cases ha
theorem zIe (fr:Str)(p:Ptr)(l:Kvs):xS fr (p,qP l)=l.drop (Nd.whereN (qP l) fr):=by
 simp only[xS,qP,cond_true];congr 1
 induction l with
 | nil=>rfl
 | cons a l ih=>simp[ih]
theorem uS {α:Type}{f:α->Bool} : ∀ {l:List α} {x:α},l[(l.takeWhile f).length]? =some x->f x=false
 | [],_,h=>by simp at h
 | a::l,x,h=>by
  cases ha:f a with
  | true=>
   rw[List.takeWhile_cons_of_pos ha]at h;simp only[zJ,List.getElem?_cons_succ]at h;exact uS h
  | false=>
   rw[List.takeWhile_cons_of_neg (by simp[ha])]at h;simp at h;rw[<-h];exact ha
theorem fX {α:Type}{f:α->Bool} : ∀ {l:List α} {i:Nat} {x:α},i< (l.takeWhile f).length->l[i]? =some x->f x=true
 | [],i,_,_,h=>by simp at h
 | a::l,i,x,hi,h=>by
  cases ha:f a with
  | true=>
   rw[List.takeWhile_cons_of_pos ha]at hi
   cases i with
   | zero=>simp at h;rw[<-h];exact ha
   | succ i=>exact fX (by simpa using hi) (by simpa using h)
  | false=>
   rw[List.takeWhile_cons_of_neg (by simp[ha])]at hi;simp at hi
theorem ZM (ks:List Str)(to:Str)(first:Nat)(h:first<=ks.length):first+aH ks to first<=ks.length+1:=by
 have:=(List.takeWhile_sublist (y8 to) (l:=ks.drop first)).length_le
 simp only[aH,zN]at this⊢;omega
theorem beyond {h:Nat}{lo hi:Bd}{to:Str}{i:Nat}{ks:List Str}{ts:List (Tr h)}(hw:Inn (WF h) lo hi (ks,ts))(hi':i<=ks.length): ∀p∈(ts.drop (i+aH ks to i)).flatMap (con h),y8 to p.1=false:=by
 obtain⟨h1,h2,h3⟩:=hw;simp only at h1 h2 h3;have hlen:=h3.len;have hle:=ZM ks to i hi';intro p hp;by_cases hc:i+aH ks to i<ts.length
 ·obtain⟨w,hwd⟩: ∃w,w=((ks.drop i).takeWhile (y8 to)).length:=⟨_,rfl⟩;have hcw:aH ks to i=w+1:=by rw[hwd];rfl
  have hlt:i+w<ks.length:=by omega
  have hk:(ks.drop i)[w]? =some ks[i+w]:=by rw[qC];exact zB hlt
  have ha:=uS (f:=y8 to) (l:=ks.drop i) (x:=ks[i+w]) (by rw[<-hwd];exact hk);have hkb:=h3.drop (zB hlt);have hd:=Nd.rising_drop h2 (i+w);rw[zL hlt,Nd.rising_cons]at hd;rw[hcw,<-Nat.add_assoc]at hp;have:=JW (JX h) hkb hd.2 (fun x hx=>⟨hd.1 x hx,(h1 x (List.mem_of_mem_drop hx)).2.2⟩) p hp;exact zBY this.1 ha
 ·rw[zO (by omega)]at hp;simp at hp
def VZ {β:Type}(Q:Ptr->Option Nd.Node)(f:Ptr->Nd.Node->List β)(p:Ptr):List β:=match Q p with
 | some nd=>f p nd
 | none=>[]
theorem zAE {h:Nat}{Q:Ptr->Option Nd.Node}{fr to:Str}(ih: ∀ {p:Ptr} {nd:Nd.Node} {t:Tr h} {S:List Ptr} {lo hi:Bd},jF Q h nd t S->WF h lo hi t->
   (((wS Q fr to h p nd).flatMap (xS fr)).filter fun p=>y8 to p.1)=(con h t).filter (inP fr to)/\((wS Q fr to h p nd).flatMap (xS fr)).Sublist (con h t)/\(wS Q fr to h p nd).length<=1+S.length):
  ∀ {ps:List Ptr} {ts:List (Tr h)} {S:List Ptr},wD Q (jF Q h) ps ts S->(∀t∈ts,∃lo hi,WF h lo hi t)->
   (((ps.flatMap (VZ Q (wS Q fr to h))).flatMap (xS fr)).filter fun p=>y8 to p.1)=(ts.flatMap (con h)).filter (inP fr to)/\((ps.flatMap (VZ Q (wS Q fr to h))).flatMap (xS fr)).Sublist (ts.flatMap (con h))/\(ps.flatMap (VZ Q (wS Q fr to h))).length<=S.length
 | [],[],_,e,_=>⟨rfl,List.Sublist.refl _,by simp⟩
 | p::ps,t::ts,_,⟨nd,S1,S2,a,b,c,e⟩,hw=>by
  subst e;obtain⟨lo,hi,wt⟩:=hw t (zC ..);obtain⟨i1,i2,i3⟩:=ih (p:=p) b wt;obtain⟨j1,j2,j3⟩:=zAE ih c fun t ht=>hw t (zA _ ht)
  simp only[zP,zZ,List.filter_append,zI,zJ,VZ,a];refine⟨by rw[i1];exact congrArg _ j1,i2.append j2, ?_⟩;have:(ps.flatMap fun p=>VZ Q (wS Q fr to h) p).length<=S2.length:=j3;simp only[VZ]at this;omega
 | [],_::_,_,h,_=>h.elim
 | _::_,[],_,h,_=>h.elim
theorem zDb {h:Nat}{Q:Ptr->Option Nd.Node}{fr to:Str}(ih: ∀ {p:Ptr} {nd:Nd.Node} {t:Tr h} {S:List Ptr} {lo hi:Bd},jF Q h nd t S->WF h lo hi t->
   (((wS Q fr to h p nd).flatMap (xS fr)).filter fun p=>y8 to p.1)=(con h t).filter (inP fr to)/\((wS Q fr to h p nd).flatMap (xS fr)).Sublist (con h t)/\(wS Q fr to h p nd).length<=1+S.length)
  {p:Ptr} {nd:Nd.Node} {t:Tr (h+1)} {S:List Ptr} {lo hi:Bd} (rn:jF Q (h+1) nd t S) (hw:Inn (WF h) lo hi t):
  (((wS Q fr to (h+1) p nd).flatMap (xS fr)).filter fun p=>y8 to p.1)=(con (h+1) t).filter (inP fr to)/\((wS Q fr to (h+1) p nd).flatMap (xS fr)).Sublist (con (h+1) t)/\(wS Q fr to (h+1) p nd).length<=1+S.length:=by
 obtain⟨r1,r2,r3,r4⟩:=rn;obtain⟨ks,ts⟩:=t;simp only at r2;subst r2;have hle:=xN nd.keys fr;obtain⟨i,hi'⟩: ∃i,i=qZ nd.keys fr:=⟨_,rfl⟩;obtain⟨c,hc⟩: ∃c,c=aH nd.keys to i:=⟨_,rfl⟩;obtain⟨Sa,Sb,x1,x2,rfl⟩:=r4.split i;obtain⟨Sc,Sd,x3,x4,rfl⟩:=x2.split c;have hts:ts=ts.take i++((ts.drop i).take c++(ts.drop i).drop c):=by rw[List.take_append_drop,List.take_append_drop]
 obtain⟨k1,k2,k3⟩:=zAE ih x3 fun x hx=>by
  obtain⟨j,hj,rfl⟩:=qI (List.mem_of_mem_drop (List.mem_of_mem_take hx));exact⟨_,_,KB.at hw.2.2 (zB hj)⟩
 have hv:wS Q fr to (h+1) p nd=(p,nd)::(((nd.kids.drop i).take c).flatMap (VZ Q (wS Q fr to h))):=by
  rw[hc,hi'];rfl
 have hlf:xS fr (p,nd)=[]:=by simp only[xS,r1,cond_false]
 have f1:((ts.take i).flatMap (con h)).filter (inP fr to)=[]:=by
  rw[List.filter_eq_nil_iff];intro q hq;have:=(gY (key:=fr) hw).1 q (by rw[hi']at hq;exact hq);simp[inP,this]
 have f2:(((ts.drop i).drop c).flatMap (con h)).filter (inP fr to)=[]:=by
  rw[List.filter_eq_nil_iff];intro q hq;rw[List.drop_drop]at hq;have:=beyond (to:=to) hw (i:=i) (by rw[hi'];exact hle) q (by rw[hc]at hq;exact hq);simp[inP,this]
 have hcon:con (h+1) (nd.keys,ts)=(ts.take i).flatMap (con h)++(((ts.drop i).take c).flatMap (con h)++((ts.drop i).drop c).flatMap (con h)):=by
  rw[<-zZ,<-zZ,<-hts];rfl
 rw[hv];refine⟨?_, ?_, ?_⟩
 ·rw[hcon,List.filter_append,List.filter_append,f1,f2,List.nil_append,List.append_nil,zP,hlf,List.nil_append];exact k1
 ·rw[hcon,zP,hlf,List.nil_append];exact(k2.trans (List.sublist_append_left _ _)).trans (List.sublist_append_right _ _)
 ·simp only[zJ,zI];omega
theorem zAD {Q:Ptr->Option Nd.Node}{fr to:Str}{p:Ptr}{nd:Nd.Node}{t:Kvs}{S:List Ptr}{lo hi:Bd}(rn:jF Q 0 nd t S)(hw:Lf lo hi t):
  (((wS Q fr to 0 p nd).flatMap (xS fr)).filter fun p=>y8 to p.1)=(con 0 t).filter (inP fr to)/\((wS Q fr to 0 p nd).flatMap (xS fr)).Sublist (con 0 t)/\(wS Q fr to 0 p nd).length<=1+S.length:=by
 obtain⟨rfl,rfl⟩:=rn;have hv:wS Q fr to 0 p (qP t)=[(p,qP t)]:=rfl;rw[hv,zP,List.flatMap_nil,List.append_nil,zIe];refine⟨?_,List.drop_sublist _ _,by simp⟩;rw[VY fr hw.1,List.filter_filter];show List.filter _ t=List.filter (inP fr to) t;congr 1;funext q;simp only[inP,Bool.and_comm]
theorem zJq {Q:Ptr->Option Nd.Node}{fr to:Str} : ∀(h:Nat) {p:Ptr} {nd:Nd.Node} {t:Tr h} {S:List Ptr} {lo hi:Bd},jF Q h nd t S->WF h lo hi t->
  (((wS Q fr to h p nd).flatMap (xS fr)).filter fun p=>y8 to p.1)=(con h t).filter (inP fr to)/\((wS Q fr to h p nd).flatMap (xS fr)).Sublist (con h t)/\(wS Q fr to h p nd).length<=1+S.length
 | 0,_,_,_,_,_,_,rn,w=>zAD rn w.1
 | h+1,_,_,_,_,_,_,rn,w=>zDb (fun a b=>zJq h a b) rn w.1
theorem zAC {Q:Ptr->Option Nd.Node}{fr to:Str}{h:Nat}{p:Ptr}{nd:Nd.Node}{t:Tr h}{S:List Ptr}(rn:jF Q h nd t S)(w:WR h t):
  (((wS Q fr to h p nd).flatMap (xS fr)).filter fun p=>y8 to p.1)=(con h t).filter (inP fr to)/\((wS Q fr to h p nd).flatMap (xS fr)).Sublist (con h t)/\(wS Q fr to h p nd).length<=1+S.length:=by
 cases h with
 | zero=>exact zAD rn w.1
 | succ h=>exact zDb (fun a b=>zJq h a b) rn w.1
theorem zKw {a b:Kvs}(h:a.Sublist b)(hb:Srt b):Srt a:=by
 induction h with
 | slnil=>exact hb
 | cons x _ ih=>obtain⟨k,v⟩:=x;exact ih hb.2
 | cons_cons x hs ih=>obtain⟨k,v⟩:=x;exact⟨fun q hq=>hb.1 q (hs.subset hq),ih hb.2⟩
theorem zHf {σ:Type}{Q:Ptr->Option Nd.Node}{fr to:Str}{h:Nat}{p:Ptr}{nd:Nd.Node}{t:Tr h}{S:List Ptr}(rn:jF Q h nd t S)(w:WR h t)(step:σ->Str×Str->Bool×σ)(s:σ):
  (kK (wO fr to step) (wS Q fr to h p nd) s).2=(kK step ((con h t).filter (inP fr to)) s).2:=by
 obtain⟨h1,h2,_⟩:=zAC (fr:=fr) (to:=to) (p:=p) rn w;have:=VB (kP to step) (xS fr) (wS Q fr to h p nd) s;have e:wO fr to step=fun s x=>kK (kP to step) (xS fr x) s:=rfl
 rw[e,this,zDW to step _ s (zKw h2 (zMq w)),h1]
def Vs (Q:Ptr->Option Nd.Node):Nat->Nd.Node->Prop
 | 0,nd=>nd.leaf=true/\nd.vals.length=nd.keys.length/\Nd.size nd<=500
 | h+1,nd=>nd.leaf=false/\nd.kids.length=nd.keys.length+1/\Nd.size nd<=500/\ ∀p∈nd.kids,∃nd',Q p=some nd'/\Vs Q h nd'
theorem zDa {h:Nat}{Q:Ptr->Option Nd.Node}(ih: ∀ {nd:Nd.Node} {t:Tr h} {S:List Ptr} {lo hi:Bd},jF Q h nd t S->WF h lo hi t->Vs Q h nd):
  ∀ {ps:List Ptr} {ts:List (Tr h)} {S:List Ptr},wD Q (jF Q h) ps ts S->(∀t∈ts,∃lo hi,WF h lo hi t)-> ∀p∈ps,∃nd',Q p=some nd'/\Vs Q h nd'
 | [],[],_,_,_=>by simp
 | p::ps,t::ts,_,⟨nd,S1,S2,a,b,c,e⟩,hw=>fun p' hp=>by
  obtain⟨lo,hi,wt⟩:=hw t (zC ..);rcases List.mem_cons.1 hp with rfl | hp
  ·exact⟨nd,a,ih b wt⟩
  ·exact zDa ih c (fun t ht=>hw t (zA _ ht)) p' hp
 | [],_::_,_,h,_=>h.elim
 | _::_,[],_,h,_=>h.elim
theorem zJp {h:Nat}{Q:Ptr->Option Nd.Node}(ih: ∀ {nd:Nd.Node} {t:Tr h} {S:List Ptr} {lo hi:Bd},jF Q h nd t S->WF h lo hi t->Vs Q h nd)
  {nd:Nd.Node} {t:Tr (h+1)} {S:List Ptr} {lo hi:Bd} (rn:jF Q (h+1) nd t S) (hw:Inn (WF h) lo hi t) (hz:j9 (h+1) t<=500):Vs Q (h+1) nd:=by
 have hs:=rn.size;obtain⟨r1,r2,r3,r4⟩:=rn;have hl:=hw.2.2.len;have hkl:=r4.len;refine⟨r1,by rw[hkl,hl,r2],by omega,zDa ih r4 fun x hx=> ?_⟩;obtain⟨j,hj,rfl⟩:=qI hx;exact⟨_,_,KB.at hw.2.2 (zB hj)⟩
theorem zD9 {Q:Ptr->Option Nd.Node}{nd:Nd.Node}{t:Kvs}{S:List Ptr}(rn:jF Q 0 nd t S)(hz:j9 0 t<=500):Vs Q 0 nd:=by
 have hs:=rn.size;obtain⟨rfl,_⟩:=rn;exact⟨rfl,by show(List.map Prod.snd _).length=(List.map Prod.fst _).length;rw[qG,qG],by omega⟩
theorem zMs {Q:Ptr->Option Nd.Node} : ∀(h:Nat) {nd:Nd.Node} {t:Tr h} {S:List Ptr} {lo hi:Bd},jF Q h nd t S->WF h lo hi t->Vs Q h nd
 | 0,_,_,_,_,_,rn,w=>zD9 rn w.2.2
 | h+1,_,_,_,_,_,rn,w=>zJp (fun a b=>zMs h a b) rn w.1 w.2.2.2
theorem zKe {Q:Ptr->Option Nd.Node}{h:Nat}{nd:Nd.Node}{t:Tr h}{S:List Ptr}(rn:jF Q h nd t S)(w:WR h t):Vs Q h nd:=by
 cases h with
 | zero=>exact zD9 rn w.2.2
 | succ h=>exact zJp (fun a b=>zMs h a b) rn w.1 w.2.2
end Go.Bt
end
section
namespace Go.Eng.Sh
open Go.Nd (Ptr yH qP Kvs Srt mayK putP delP lookP)
open Go.Bt
def Adw (W:Nat->Prop)(H:AH)(W':Nat->Prop)(H':AH):Prop:=Stp W H H'/\ ∀B,W' B->W B\/H.next<=B
theorem zGu (D:Dyn)(n:Nat){H:AH}(hk:H.ok){v:AV}{l:List Str}(h:j7 1 9 H v l.length (l.map S))(hl:l.length<=1000000000):
  ∃v' H',f73 D n [v] H=some (v',H')/\Prs H H'/\j7 1 9 H' v' l.length (l.map S)/\ ∀B,Blk v' B->H.next<=B:=by
 by_cases h1:v= .nilSlice
 ·subst h1;exact⟨.nilSlice,H,rfl,Stp.refl hk,h,fun B hB=>(Blk.nil.1 hB).elim⟩
 ·refine cD D n hk h.row h1 (fun e=> ?_) hl;subst e;rcases h with⟨_,⟨h,_⟩ | ⟨_,h,_⟩⟩ | ⟨_,_,_,_,h,_⟩<;>cases h
theorem zLT (D:Dyn)(n:Nat){H:AH}(hk:H.ok){v:AV}{l:List Ptr}(h:j7 3 59 H v l.length (l.flatMap y6))(hl:l.length<=1000000000):
  ∃v' H',f81 D n [v] H=some (v',H')/\Prs H H'/\j7 3 59 H' v' l.length (l.flatMap y6)/\ ∀B,Blk v' B->H.next<=B:=by
 by_cases h1:v= .nilSlice
 ·subst h1;exact⟨.nilSlice,H,rfl,Stp.refl hk,h,fun B hB=>(Blk.nil.1 hB).elim⟩
 ·refine Y8 D n hk h.row h1 (fun e=> ?_) hl;subst e;rcases h with⟨_,⟨h,_⟩ | ⟨_,h,_⟩⟩ | ⟨_,_,_,_,h,_⟩<;>cases h
theorem dB {nd:Nd.Node}(h:Nd.size nd<=500):nd.keys.length<=500/\nd.vals.length<=500/\nd.kids.length<=500:=by
 have h1:=Nd.sumL_ge nd.keys;have h2:=Nd.sumL_ge nd.vals;simp only[Nd.size]at h;omega
theorem zL7 (D:Dyn)(n:Nat){H:AH}{At M last s:Nat}{d c dr:AV}{root:Ptr}{es:List (AV×AV)}{q:PN}{nd:Nd.Node}(h:TI H At M d c root es q last dr)(hs:qV s q=some nd)(hz:Nd.size nd<=500):
  ∃v H',zK5 D n [.ptr At 0, .agg (y6 (pp s))] H=some (.tuple [v, .int .i64 ((0:Nat):Int)],H')/\Prs H H'/\y9 H' v nd/\ ∀B,xJ v B->H.next<=B:=by
 obtain⟨z1,z2,z3⟩:=dB hz;obtain⟨H1,A3,b1,p1,g1,m1,n1⟩:=box h.ok (.cells [.int .i64 ((1:Nat):Int), .int .i64 ((0:Nat):Int), .int .u64 (s:Nat)] 59 1 false);obtain⟨H2,A4,b2,p2,g2,m2,n2⟩:=box p1.ok (.cells [.bool false, .nilSlice, .nilSlice, .nilSlice] 93 1 false);have P2:=p1.trans p2;have h2:=h.prs P2;have hno:=cZ D n h2;obtain⟨v,H3,e3,p3,nv,_⟩:=KW D n h2 hs;obtain⟨ks,vs,ps,rfl,w1,w2,w3⟩:=nv;obtain⟨H4,A6,b4,p4,g4,m4,n4⟩:=box p3.ok (.cells [.bool false, .nilSlice, .nilSlice, .nilSlice] 93 1 false);have hcells: ∀ {a b c:AV},Eng.isCell a=true->Eng.isCell b=true->Eng.isCell c=true->qN [.bool nd.leaf,a,b,c]=true:=fun ha hb hc=>by simp[qN,ha,hb,hc];rfl
 obtain⟨H5,e5,g5,s5,n5⟩:=yF p4.ok g4 (l':=[.bool nd.leaf,ks,vs,ps]) rfl (hcells w1.isCell w2.isCell w3.isCell);have e5':stN 4 (.ptr A6 0) (.agg [.bool nd.leaf,ks,vs,ps]) H4=some (qM,H5):=e5;have P5:Prs H3 H5:=p4.fresh s5 (fun B hB=>by omega);obtain⟨ks',H6,e6,p6,k1,f1⟩:=zGu D n P5.ok (w1.mono P5 (fun _ _ x=>x)) (by omega);have P6:=P5.trans p6;obtain⟨vs',H7,e7,p7,k2,f2⟩:=zGu D n P6.ok (w2.mono P6 (fun _ _ x=>x)) (by omega);have P7:=P6.trans p7;obtain⟨ps',H8,e8,p8,k3,f3⟩:=zLT D n P7.ok (w3.mono P7 (fun _ _ x=>x)) (by omega);have P8:=P7.trans p8;have Q8:Prs H2 H8:=p3.trans P8;have N1:=p1.next;have N2:=p2.next;have N3:=p3.next;have N4:=p4.next;have N5:=P5.next;have N6:=p6.next;have N7:=p7.next;have N8:=p8.next
 obtain⟨H9,e9,g9,s9,n9⟩:=yF P8.ok (Prs.get Q8 p2.ok g2) (l':=[.bool nd.leaf,ks',vs',ps']) rfl (hcells k1.isCell k2.isCell k3.isCell);have e9':stN 4 (.ptr A4 0) (.agg [.bool nd.leaf,ks',vs',ps']) H8=some (qM,H9):=e9;have nb: ∀ {v:AV},(∀B,Blk v B->H5.next<=B)-> ∀B,Blk v B-> ¬B=A4:=fun hv B hB=>by have:=hv B hB;omega
 refine⟨.agg [.bool nd.leaf,ks',vs',ps'],H9, ?_,(P2.trans Q8).fresh s9 (fun B hB=>by omega),⟨ks',vs',ps',rfl,((k1.mono p7 (fun _ _ x=>x)).mono p8 (fun _ _ x=>x)).mono s9 (nb f1),(k2.mono p8 (fun _ _ x=>x)).mono s9 (nb fun B hB=>by have:=f2 B hB;omega),k3.mono s9 (nb fun B hB=>by have:=f3 B hB;omega)⟩,fun B hB=> ?_⟩
 ·have hp:y6 (pp s)=[.int .i64 ((1:Nat):Int), .int .i64 ((0:Nat):Int), .int .u64 (s:Nat)]:=rfl;have e3':f48 D n [.ptr At 0, .agg [.int .i64 ((1:Nat):Int), .int .i64 ((0:Nat):Int), .int .u64 (s:Nat)]] H2=some (.tuple [.agg [.bool nd.leaf,ks,vs,ps], .int .i64 ((0:Nat):Int)],H3):=e3;have g32:=Prs.get p2 p1.ok g1;have r3:ldN 3 (.ptr A3 0) H2=some (.agg [.int .i64 ((1:Nat):Int), .int .i64 ((0:Nat):Int), .int .u64 (s:Nat)]):=by rw[qQ g32];rfl
  have h10: ¬((1:Nat):Int)=((0:Nat):Int):=by omega
  have t00: ¬(((0:Nat):Int)≠((0:Nat):Int)):=by omega
  have ck: ∀ {H':AH} (i:Nat) {x:AV} (K:Rs),H'.h.get A6=some (.cells [.bool nd.leaf,ks,vs,ps] 93 1 false)->[.bool nd.leaf,ks,vs,ps][i]? =some x->aveq x x=true->chk (ld1 (.ptr A6 i) H') x K=K:=fun i x K g hi hx=>jA (by rw[qL g];exact hi) hx
  have g6:=Prs.get p6 P5.ok g5;have g7:=Prs.get p7 P6.ok g6;have g8:=Prs.get p8 P7.ok g7;have ab:aveq (.bool nd.leaf) (.bool nd.leaf)=true:=by cases nd.leaf<;>rfl
  have bs:wB [(0,1),(1,1),(2,1),(3,1)] [.bool false, .nilSlice, .nilSlice, .nilSlice] [(0, .bool nd.leaf),(1,ks'),(2,vs'),(3,ps')]=some (.agg [.bool nd.leaf,ks',vs',ps']):=by
   simp only[wB,uN,zI7,yN k1.isCell,yN k2.isCell,yN k3.isCell];rfl
  have r9:ldN 4 (.ptr A4 0) H9=some (.agg [.bool nd.leaf,ks',vs',ps']):=xY g9 rfl;rw[hp];simp(maxSteps:=999999)(disch:=omega) only[zK5,eZ,b1,b2,hno,qL g32,h10,r3,e3',qK,nth,b4,e5',t00,qL g5,e6,ck 0 _ g6 rfl ab,ck 2 _ g6 rfl (yL w2.row),ck 3 _ g6 rfl (yL w3.row),e7,ck 0 _ g7 rfl ab,ck 3 _ g7 rfl (yL w3.row),e8,ck 0 _ g8 rfl ab,bs,e9',r9]
 ·rcases kB.1 hB with e | e | e
  ·have:=f1 B e;omega
  ·have:=f2 B e;omega
  ·have:=f3 B e;omega
theorem zIK (D:Dyn)(n:Nat){H:AH}{At M last:Nat}{d c dr:AV}{root:Ptr}{es:List (AV×AV)}{q:PN}(h:TI H At M d c root es q last dr):
  f62 D n [.ptr At 0] H=some (.int .i64 ((q.length:Nat):Int),H):=by
 have hno:=cZ D n h;have l5:ld1 (.ptr At 5) H=some (.map M):=by rw[qL h.gT];rfl
 have hm:VW (.map M) H=some (.int .i64 ((q.length:Nat):Int)):=by
  simp only[VW,h.gM,yE,h.pq.len];rfl
 simp(maxSteps:=999999)(disch:=omega) only[f62,eZ,hno,l5,hm]
theorem zHG (D:Dyn)(n:Nat){H:AH}{At M last:Nat}{d c dr:AV}{root:Ptr}{es:List (AV×AV)}{q:PN}(h:TI H At M d c root es q last dr):
  ∃H',f88 D n [.ptr At 0] H=some (.agg (y6 root),H')/\Prs H H':=by
 obtain⟨H1,A2,b1,p1,g1,m1,n1⟩:=box h.ok (.cells [.int .i64 ((0:Nat):Int), .int .i64 ((0:Nat):Int), .int .u64 ((0:Nat):Int)] 59 1 false);have h1:=h.prs p1;have hno:=cZ D n h1;obtain⟨H2,e2,g2,s2,n2⟩:=yF p1.ok g1 (l':=y6 root) rfl rfl;have e2':stN 3 (.ptr A2 0) (.agg (y6 root)) H1=some (qM,H2):=e2;have l2:ldN 3 (.ptr At 2) H1=some (.agg (y6 root)):=by rw[qQ h1.gT];rfl
 have r2:ldN 3 (.ptr A2 0) H2=some (.agg (y6 root)):=by rw[qQ g2];rfl
 refine⟨H2, ?_,p1.fresh s2 (fun B hB=>by omega)⟩;simp(maxSteps:=999999)(disch:=omega) only[f88,eZ,b1,hno,l2,e2',r2]
structure Rdr (At N0 k:Nat)(root:Ptr)(Q:Ptr->Option Nd.Node)(G:AH->(Nat->Prop)->Prop):Prop where
 ok: ∀ {H W},G H W->H.ok
 lt: ∀ {H W},G H W-> ∀B,W B->B<H.next
 frame: ∀ {H H' W S},G H W->Stp S H H'->(∀B,S B->N0<=B/\ ¬W B)->G H' W
 root: ∀ {H W} (D:Dyn) (n:Nat),G H W-> ∃H',f88 D n [.ptr At 0] H=some (.agg (y6 root),H')/\Prs H H'
 dirty: ∀ {H W} (D:Dyn) (n:Nat),G H W->f62 D n [.ptr At 0] H=some (.int .i64 ((k:Nat):Int),H)
 load: ∀ {H W p nd} (m n:Nat),100000000<=m->100000000<=n->G H W->Q p=some nd->Nd.size nd<=500-> ∃v H' W',zK5 (dy m) n [.ptr At 0, .agg (y6 p)] H=some (.tuple [v, .int .i64 ((0:Nat):Int)],H')/\G H' W'/\Adw W H W' H'/\y9 H' v nd/\ ∀B,xJ v B->H.next<=B/\ ¬W' B
theorem Rdr.prs {At N0 k:Nat}{root:Ptr}{Q:Ptr->Option Nd.Node}{G:AH->(Nat->Prop)->Prop}(r:Rdr At N0 k root Q G){H H':AH}{W:Nat->Prop}(h:G H W)(s:Prs H H'):G H' W:=r.frame h s (fun _ x=>x.elim)
def GI0 (N0 At M:Nat)(root:Ptr)(q:PN)(H:AH)(W:Nat->Prop):Prop:=(∀B,¬W B)/\At<N0/\M<N0/\ ∃d c es last,TI H At M d c root es q last .nilSlice/\ ∀kv∈es,∀B,xJ kv.2 B->B<N0
theorem zKP (N0 At M:Nat)(root:Ptr)(q:PN):Rdr At N0 q.length root (Qf q []) (GI0 N0 At M root q) where
 ok:=fun⟨_,_,_,_,_,_,_,ti,_⟩=>ti.ok
 lt:=fun⟨h,_⟩ B hB=>(h B hB).elim
 frame:=fun {H H' W S} ⟨h1,h2,h3,d,c,es,last,ti,h4⟩ s hS=>⟨h1,h2,h3,d,c,es,last,ti.stp s (fun e=>by have:=(hS _ e).1;omega) (fun e=>by have:=(hS _ e).1;omega) (fun kv hkv B hB e=>by have:=(hS _ e).1;have:=h4 kv hkv B hB;omega),h4⟩
 root:=fun D n ⟨_,_,_,_,_,_,_,ti,_⟩=>zHG D n ti
 dirty:=fun D n ⟨_,_,_,_,_,_,_,ti,_⟩=>zIK D n ti
 load:=fun {H W p nd} m n _ _ ⟨h1,h2,h3,d,c,es,last,ti,h4⟩ hq hz=>by
  obtain⟨s,rfl,hs⟩:=uI hq;have hs:qV s q=some nd:=by
   rcases hs with hs | ⟨_,hs⟩
   ·simp[qV]at hs
   ·exact hs
  obtain⟨v,H',e,p,nv,f⟩:=zL7 (dy m) n ti hs hz;exact⟨v,H',W,e,⟨h1,h2,h3,d,c,es,last,ti.prs p,h4⟩,⟨p.mono fun _ _ x=>x.elim,fun B hB=> .inl hB⟩,nv,fun B hB=>⟨f B hB,h1 B⟩⟩
theorem st1c {H:AH}(hk:H.ok){A o e:Nat}{l:List AV}{x:AV}(h:H.h.get A=some (.cells l e 1 false))(hx:Eng.isCell x=true)(ho:o<l.length): ∃H',stN 1 (.ptr A o) x H=some (qM,H')/\H'.h.get A=some (.cells (l.set o x) e 1 false)/\Stp (fun B=>B=A) H H':=
 ⟨_,Q7 h (by decide) hx ho,by rw[AH.put_get,if_pos rfl],(Stp.refl hk).put (hk.lt h) _ (.inr rfl)⟩
theorem Stp.thru {S T:Nat->Prop}{H0 H H1:AH}(h:Stp S H0 H)(k:Stp T H H1)(f: ∀A,T A->H0.next<=A\/S A):Stp S H0 H1:=
 ⟨k.ok,Nat.le_trans h.next k.next,fun A hA hS=>by
  rw[k.keep A (zV hA h.next) (fun x=>by rcases f A x with y | y;omega;exact hS y),h.keep A hA hS]⟩
theorem Adw.refl {W:Nat->Prop}{H:AH}(hk:H.ok):Adw W H W H:=⟨Stp.refl hk,fun _ h=> .inl h⟩
theorem Adw.trans {W W' W'':Nat->Prop}{H H' H'':AH}(h:Adw W H W' H')(k:Adw W' H' W'' H''):Adw W H W'' H'':=
 ⟨Stp.thru h.1 k.1 fun A hA=>(h.2 A hA).symm,fun B hB=>by
  rcases k.2 B hB with e | e
  ·exact h.2 B e
  ·exact .inr (Nat.le_trans h.1.next e)⟩
structure Cns {σ α:Type}(A M N0:Nat)(enc:AH->(Nat->Prop)->α->List AV->Prop)(step:σ->α->Bool×σ)(I:Nat->Bool×σ->AH->(Nat->Prop)->Prop):Prop where
 ok: ∀ {b x H W},I b x H W->H.ok
 lt: ∀ {b x H W},I b x H W-> ∀B,W B->B<H.next/\N0<=B
 mono: ∀ {b b' x H W},I b x H W->b'<=b->I b' x H W
 frame: ∀ {b x H H' W S},I b x H W->Stp S H H'->(∀B,S B-> ¬W B)->I b x H' W
 run: ∀ {b s a az H W} (m:Nat),M<=m->I (b+1) (true,s) H W->enc H W a az-> ∃H' W',(dy (m+1)).yld A az H=some (.bool (step s a).1,H')/\I b (step s a) H' W'/\Adw W H W' H'
def encN (H:AH)(W:Nat->Prop)(x:Ptr×Nd.Node)(az:List AV):Prop:= ∃v,az=[.agg (y6 x.1),v]/\y9 H v x.2/\Nd.size x.2<=500/\(x.2.leaf=true->x.2.vals.length=x.2.keys.length)/\ ∀B,xJ v B-> ¬W B
theorem zM6 (m n:Nat){H:AH}(hk:H.ok)(p:Ptr): ∃H',callV (s89 (dy (m+1)) n).S (dy (m+1)) (.func 41 [] []) [.agg (y6 p)] H=some (.bool false,H')/\Prs H H':=by
 obtain⟨H1,A1,b1,p1,g1,m1,n1⟩:=box hk (.cells (y6 p) 59 1 false);refine⟨H1, ?_,p1⟩;show f41 (dy m) m [.agg (y6 p)] H=_;simp only[f41,eZ,b1]
theorem zIX (m n A:Nat)(az:List AV)(H:AH):callV (s89 (dy (m+1)) n).S (dy (m+1)) (.yieldTo A) az H=(dy (m+1)).yld A az H:=rfl
set_option maxRecDepth 100000 in
theorem zGA (m:Nat)(az:List AV)(H:AH):(dy (m+1)).fn 89 az H=f89 (dy m) m az H:=rfl
section
variable {σ:Type}{At N0 k M A2 Aw:Nat}{root:Ptr}{Q:Ptr->Option Nd.Node}{G:AH->(Nat->Prop)->Prop}{step:σ->Ptr×Nd.Node->Bool×σ}{I:Nat->Bool×σ->AH->(Nat->Prop)->Prop}
def Wid (Aw:Nat)(Wg Wi:Nat->Prop)(B:Nat):Prop:=Wg B\/Wi B\/B=Aw
structure Awk (Aw:Nat)(Wg Wi:Nat->Prop)(H:AH)(Wg' Wi':Nat->Prop)(H':AH):Prop where
 s:Stp (Wid Aw Wg Wi) H H'
 g: ∀B,Wg' B->Wg B\/H.next<=B
 i: ∀B,Wi' B->Wi B\/H.next<=B
theorem Awk.adw {Aw:Nat}{Wg Wi Wg' Wi':Nat->Prop}{H H':AH}(h:Awk Aw Wg Wi H Wg' Wi' H'):Adw (Wid Aw Wg Wi) H (Wid Aw Wg' Wi') H':=⟨h.s,fun B hB=>by
 rcases hB with e | e | e
 ·exact(h.g B e).imp .inl id
 ·exact(h.i B e).imp (fun x=> .inr (.inl x)) id
 ·exact .inl (.inr (.inr e))⟩
theorem Awk.prs {Aw:Nat}{Wg Wi:Nat->Prop}{H H':AH}(h:Prs H H'):Awk Aw Wg Wi H Wg Wi H':=⟨h.stp,fun _ x=> .inl x,fun _ x=> .inl x⟩
theorem Awk.refl {Aw:Nat}{Wg Wi:Nat->Prop}{H:AH}(h:H.ok):Awk Aw Wg Wi H Wg Wi H:=Awk.prs (Stp.refl h)
theorem Awk.trans {Aw:Nat}{Wg Wi Wg' Wi' Wg2 Wi2:Nat->Prop}{H H' H2:AH}(h:Awk Aw Wg Wi H Wg' Wi' H')(k:Awk Aw Wg' Wi' H' Wg2 Wi2 H2):Awk Aw Wg Wi H Wg2 Wi2 H2:=
 ⟨(h.adw.trans k.adw).1,fun B hB=>by
  rcases k.g B hB with e | e
  ·exact h.g B e
  ·exact .inr (Nat.le_trans h.s.next e),fun B hB=>by
  rcases k.i B hB with e | e
  ·exact h.i B e
  ·exact .inr (Nat.le_trans h.s.next e)⟩
structure Wk (N0 At Aw:Nat)(G:AH->(Nat->Prop)->Prop)(I:Nat->Bool×σ->AH->(Nat->Prop)->Prop)(H:AH)(Wg Wi:Nat->Prop)(left bud:Nat)(x:Bool×σ):Prop where
 g:G H Wg
 i:I bud x H Wi
 w: ∃e,H.h.get Aw=some (.cells [.ptr At 0, .nilMap, .int .i64 ((left:Nat):Int), .int .i64 ((0:Nat):Int)] e 1 false)
 lo:N0<=Aw
 ng: ¬Wg Aw
 ni: ¬Wi Aw
 sep: ∀B,Wi B-> ¬Wg B
variable (r:Rdr At N0 k root Q G)(c:Cns A2 M N0 encN step I)
include r c
theorem Wk.ok {H:AH}{Wg Wi:Nat->Prop}{left bud:Nat}{x:Bool×σ}(h:Wk N0 At Aw G I H Wg Wi left bud x):H.ok:=And.left ⟨r.ok h.g,c.ok h.i⟩
theorem Wk.lt {H:AH}{Wg Wi:Nat->Prop}{left bud:Nat}{x:Bool×σ}(h:Wk N0 At Aw G I H Wg Wi left bud x): ∀B,Wid Aw Wg Wi B->B<H.next:=fun B hB=>by
 rcases hB with e | e | rfl
 ·exact r.lt h.g B e
 ·exact(c.lt h.i B e).1
 ·obtain⟨_,g⟩:=h.w;exact(r.ok h.g).lt g
theorem Wk.frame {H H':AH}{Wg Wi S:Nat->Prop}{left bud:Nat}{x:Bool×σ}(h:Wk N0 At Aw G I H Wg Wi left bud x)(s:Stp S H H')(hS: ∀B,S B->N0<=B/\ ¬Wid Aw Wg Wi B):Wk N0 At Aw G I H' Wg Wi left bud x:=by
 obtain⟨e,g⟩:=h.w;refine⟨r.frame h.g s fun B hB=>⟨(hS B hB).1,fun w=>(hS B hB).2 (.inl w)⟩,c.frame h.i s fun B hB w=>(hS B hB).2 (.inr (.inl w)),⟨e, ?_⟩,h.lo,h.ng,h.ni,h.sep⟩;rw[s.keep _ ((r.ok h.g).lt g) (fun w=>(hS _ w).2 (.inr (.inr rfl)))];exact g
theorem Wk.prs {H H':AH}{Wg Wi:Nat->Prop}{left bud:Nat}{x:Bool×σ}(h:Wk N0 At Aw G I H Wg Wi left bud x)(s:Prs H H'):Wk N0 At Aw G I H' Wg Wi left bud x:=h.frame r c s fun _ w=>w.elim
theorem Wk.less {H:AH}{Wg Wi:Nat->Prop}{left left' bud:Nat}{x:Bool×σ}(h:Wk N0 At Aw G I H Wg Wi left bud x): ∃H',stN 1 (.ptr Aw 2) (.int .i64 ((left':Nat):Int)) H=some (qM,H')/\Wk N0 At Aw G I H' Wg Wi left' bud x/\Stp (fun B=>B=Aw) H H':=by
 obtain⟨e,g⟩:=h.w;obtain⟨H',e1,g1,s1⟩:=st1c (r.ok h.g) g (o:=2) (x:= .int .i64 ((left':Nat):Int)) rfl (by simp);exact⟨H',e1,⟨r.frame h.g s1 (fun B hB=>by subst hB;exact⟨h.lo,h.ng⟩),c.frame h.i s1 (fun B hB=>by subst hB;exact h.ni),⟨e,g1⟩,h.lo,h.ng,h.ni,h.sep⟩,s1⟩
theorem Wk.noerr {H:AH}{Wg Wi:Nat->Prop}{left bud:Nat}{x:Bool×σ}(h:Wk N0 At Aw G I H Wg Wi left bud x): ∃H',stN 1 (.ptr Aw 3) (.int .i64 ((0:Nat):Int)) H=some (qM,H')/\Wk N0 At Aw G I H' Wg Wi left bud x/\Stp (fun B=>B=Aw) H H':=by
 obtain⟨e,g⟩:=h.w;obtain⟨H',e1,g1,s1⟩:=st1c (r.ok h.g) g (o:=3) (x:= .int .i64 ((0:Nat):Int)) rfl (by simp);exact⟨H',e1,⟨r.frame h.g s1 (fun B hB=>by subst hB;exact⟨h.lo,h.ng⟩),c.frame h.i s1 (fun B hB=>by subst hB;exact h.ni),⟨e,g1⟩,h.lo,h.ng,h.ni,h.sep⟩,s1⟩
theorem Wk.load {H:AH}{Wg Wi:Nat->Prop}{left bud:Nat}{x:Bool×σ}{p:Ptr}{nd:Nd.Node}(m n:Nat)(hm:100000000<=m)(hn:100000000<=n)(h:Wk N0 At Aw G I H Wg Wi left bud x)(hq:Q p=some nd)(hz:Nd.size nd<=500):
  ∃v H' Wg',zK5 (dy m) n [.ptr At 0, .agg (y6 p)] H=some (.tuple [v, .int .i64 ((0:Nat):Int)],H')/\Wk N0 At Aw G I H' Wg' Wi left bud x/\Awk Aw Wg Wi H Wg' Wi H'/\y9 H' v nd/\ ∀B,xJ v B->H.next<=B/\ ¬Wid Aw Wg' Wi B:=by
 obtain⟨v,H',Wg',e1,g1,a1,n1,f1⟩:=r.load m n hm hn h.g hq hz;obtain⟨e,g⟩:=h.w;have hlt:=(r.ok h.g).lt g;have hw': ∀B,Wg' B-> ¬Wi B:=fun B hB hi=>by
  rcases a1.2 B hB with e | e
  ·exact h.sep B hi e
  ·have:=(c.lt h.i B hi).1;omega
 refine⟨v,H',Wg',e1,⟨g1,c.frame h.i a1.1 (fun B hB hi=>h.sep B hi hB),⟨e,by rw[a1.1.keep _ hlt h.ng];exact g⟩,h.lo,fun hB=> ?_,h.ni,fun B hi hB=>hw' B hB hi⟩,⟨a1.1.mono fun B _ hB=> .inl hB,a1.2,fun B hB=> .inl hB⟩,n1,fun B hB=>⟨(f1 B hB).1,fun hw=> ?_⟩⟩
 ·rcases a1.2 _ hB with e | e
  ·exact h.ng e
  ·omega
 ·have h1:=(f1 B hB).1;rcases hw with e | e | e
  ·exact(f1 B hB).2 e
  ·have:=(c.lt h.i B e).1;omega
  ·omega
theorem Wk.tell {H:AH}{Wg Wi:Nat->Prop}{left bud:Nat}{s:σ}{p:Ptr}{nd:Nd.Node}{v:AV}(m n:Nat)(hm:M<=m)(h:Wk N0 At Aw G I H Wg Wi left (bud+1) (true,s))(hv:y9 H v nd)(hz:Nd.size nd<=500)(hl:nd.leaf=true->nd.vals.length=nd.keys.length)(hb: ∀B,xJ v B-> ¬Wid Aw Wg Wi B):
  ∃H' Wi',callV (s89 (dy (m+1)) n).S (dy (m+1)) (.yieldTo A2) [.agg (y6 p),v] H=some (.bool (step s (p,nd)).1,H')/\Wk N0 At Aw G I H' Wg Wi' left bud (step s (p,nd))/\Awk Aw Wg Wi H Wg Wi' H':=by
 obtain⟨H',Wi',e1,i1,a1⟩:=c.run m hm h.i (a:=(p,nd)) (az:=[.agg (y6 p),v]) ⟨v,rfl,hv,hz,hl,fun B hB w=>hb B hB (.inr (.inl w))⟩;obtain⟨e,g⟩:=h.w;have hlt:=(r.ok h.g).lt g;refine⟨H',Wi',by rw[zIX];exact e1,⟨r.frame h.g a1.1 (fun B hB=>⟨(c.lt h.i B hB).2,h.sep B hB⟩),i1,⟨e,by rw[a1.1.keep _ hlt h.ni];exact g⟩,h.lo,h.ng,fun hB=> ?_,fun B hB hg=> ?_⟩,⟨a1.1.mono fun B _ hB=> .inr (.inl hB),fun B hB=> .inl hB,a1.2⟩⟩
 ·rcases a1.2 _ hB with e | e
  ·exact h.ni e
  ·omega
 ·rcases a1.2 B hB with e | e
  ·exact h.sep B e hg
  ·have:=r.lt h.g B hg;omega
omit r c
structure NB (H:AH)(W:Nat->Prop)(A:Nat)(v:AV)(nd:Nd.Node):Prop where
 g: ∃l e,v= .agg l/\H.h.get A=some (.cells l e 1 false)
 nv:y9 H v nd
 a: ¬W A
 b: ∀B,xJ v B-> ¬W B
theorem NB.adw {H H':AH}{W W':Nat->Prop}{A:Nat}{v:AV}{nd:Nd.Node}(h:NB H W A v nd)(hk:H.ok)(s:Adw W H W' H'):NB H' W' A v nd:=by
 obtain⟨l,e,rfl,g⟩:=h.g;have hlt:=hk.lt g;refine⟨⟨l,e,rfl,by rw[s.1.keep _ hlt h.a];exact g⟩,h.nv.stp s.1 h.b,fun hw=> ?_,fun B hB hw=> ?_⟩
 ·rcases s.2 _ hw with e | e
  ·exact h.a e
  ·omega
 ·rcases s.2 _ hw with e | e
  ·exact h.b B hB e
  ·have:=h.nv.lt hB;omega
end
open Go.Nd (Ptr yH qP)
open Go.Bt
theorem zDM {nd:Nd.Node}(h:Nd.size nd<=500):small nd:=by
 simp only[Nd.size]at h;refine⟨?_, ?_, ?_⟩<;>omega
section
variable {σ:Type}{At N0 k M A2 Aw:Nat}{root:Ptr}{Q:Ptr->Option Nd.Node}{G:AH->(Nat->Prop)->Prop}{step:σ->Ptr×Nd.Node->Bool×σ}{I:Nat->Bool×σ->AH->(Nat->Prop)->Prop}{fr to:Str}
variable (r:Rdr At N0 k root Q G)(c:Cns A2 M N0 encN step I)
include r c
theorem zD5 (m n:Nat)(hm:M+300000000<=m)(hn:300000000<=n){p:Ptr}{nd:Nd.Node}{s:σ}{H:AH}{Wg Wi:Nat->Prop}{left:Nat}(hq:Q p=some nd)(hz:Nd.size nd<=500)(hvl:nd.leaf=true->nd.vals.length=nd.keys.length)(h:Wk N0 At Aw G I H Wg Wi (left+1) (left+1) (true,s))(hlf:left<=1000000000):
  ∃H5 Wg' Wi' A13 v,Wk N0 At Aw G I H5 Wg' Wi' left left (step s (p,nd))/\Awk Aw Wg Wi H Wg' Wi' H5/\NB H5 (Wid Aw Wg' Wi') A13 v nd/\
   ((step s (p,nd)).1=false->f89 (dy (m+1)) n [.ptr Aw 0, .agg (y6 p),S fr,S to, .func 41 [] [], .yieldTo A2] H=some (.bool false,H5))/\
   ((step s (p,nd)).1=true->nd.leaf=true->f89 (dy (m+1)) n [.ptr Aw 0, .agg (y6 p),S fr,S to, .func 41 [] [], .yieldTo A2] H=some (.bool true,H5))/\
   ((step s (p,nd)).1=true->nd.leaf=false-> ∃H6,Prs H5 H6/\f89 (dy (m+1)) n [.ptr Aw 0, .agg (y6 p),S fr,S to, .func 41 [] [], .yieldTo A2] H=yR (jb 0 (qW n (YU (dy (m+1)) n) [.ptr Aw 0,S fr,S to, .func 41 [] [], .yieldTo A2, .ptr A13 0, .int .i64 ((qZ nd.keys fr:Nat):Int), .int .i64 ((qZ nd.keys fr:Nat):Int)] H6) (zIw (dy (m+1)) n))):=by
 have hk:=h.ok r c;obtain⟨e0,gw0⟩:=h.w;have lw:=hk.lt gw0;have hlo:=h.lo;obtain⟨H1,A7,b1,p1,g1,m1,n1⟩:=box hk (.cells (y6 p) 59 1 false);obtain⟨H2,e2,p2⟩:=zM6 m n p1.ok p;have P2:=p1.trans p2;have W2:=h.prs r c P2;obtain⟨H3,e3,W3,s3⟩:=W2.less r c (left':=left);have N1:=p1.next;have N2:=p2.next;have N3:=s3.next
 obtain⟨H4,A13,b4,p4,g4,m4,n4⟩:=box s3.ok (.cells [.bool false, .nilSlice, .nilSlice, .nilSlice] 93 1 false);have W4:=W3.prs r c p4;have N4:=p4.next
 have lt3:=W3.lt r c;have nA13: ¬Wid Aw Wg Wi A13:=fun hw=>by have:=lt3 _ hw;omega
 obtain⟨H5,e5,g5,s5,n5⟩:=yF p4.ok g4 (l':=[.bool false, .nilSlice, .nilSlice, .nilSlice]) rfl rfl;have e5':stN 4 (.ptr A13 0) (.agg [.bool false, .nilSlice, .nilSlice, .nilSlice]) H4=some (qM,H5):=e5;have W5:=W4.frame r c s5 (fun B hB=>by subst hB;exact⟨by omega,nA13⟩);have N5:=s5.next
 obtain⟨v,H6,Wg',e6,W6,a6,nv6,f6⟩:=W5.load r c (m+1) n (by omega) (by omega) hq hz;have N6:=a6.s.next
 have nA13': ¬Wid Aw Wg' Wi A13:=fun hw=>by
  rcases a6.adw.2 _ hw with e | e
  ·exact nA13 e
  ·omega
 have g6:H6.h.get A13=some (.cells [.bool false, .nilSlice, .nilSlice, .nilSlice] 93 1 false):=by rw[a6.s.keep _ (by omega) nA13];exact g5
 obtain⟨ks,vs,ps,rfl,w1,w2,w3⟩:=nv6;have nv6:y9 H6 (.agg [.bool nd.leaf,ks,vs,ps]) nd:=⟨ks,vs,ps,rfl,w1,w2,w3⟩;obtain⟨H7,e7,g7,s7,n7⟩:=yF (W6.ok r c) g6 (l':=[.bool nd.leaf,ks,vs,ps]) rfl (by simp[qN,w1.isCell,w2.isCell,w3.isCell];rfl);have e7':stN 4 (.ptr A13 0) (.agg [.bool nd.leaf,ks,vs,ps]) H6=some (qM,H7):=e7;have W7:=W6.frame r c s7 (fun B hB=>by subst hB;exact⟨by omega,nA13'⟩);have nv7:=nv6.stp s7 (fun B hB e=>by have:=(f6 B hB).1;omega);obtain⟨H8,e8,W8,s8⟩:=W7.noerr r c;have nv8:=nv7.stp s8 (fun B hB e=>by have:=(f6 B hB).1;omega);have N7:=s7.next;have N8:=s8.next
 have g8:H8.h.get A13=some (.cells [.bool nd.leaf,ks,vs,ps] 93 1 false):=by rw[s8.keep _ (by omega) (by omega)];exact g7
 obtain⟨H9,Wi',e9,W9,a9⟩:=W8.tell r c m n (by omega) nv8 hz hvl (fun B hB=>(f6 B hB).2);have nb8:NB H8 (Wid Aw Wg' Wi) A13 (.agg [.bool nd.leaf,ks,vs,ps]) nd:=⟨⟨_,_,rfl,g8⟩,nv8,nA13',fun B hB=>(f6 B hB).2⟩;have nb9:=nb8.adw (W8.ok r c) a9.adw;have g9:H9.h.get A13=some (.cells [.bool nd.leaf,ks,vs,ps] 93 1 false):=by rw[a9.s.keep _ (by omega) nA13'];exact g8
 obtain⟨H10,e10,p10⟩:=bN (dy (m+1)) n (by omega) (W9.ok r c) (v:= .agg [.bool nd.leaf,ks,vs,ps]) (nd:=nd) (key:=fr) nb9.nv.node (zDM hz);have st3:Stp (Wid Aw Wg Wi) H H3:=(Prs.stp P2).trans (s3.mono fun B _ hB=> .inr (.inr hB));have st4:Stp (Wid Aw Wg Wi) H H4:=st3.trans p4.stp;have st5:Stp (Wid Aw Wg Wi) H H5:=Stp.thru st4 s5 fun B hB=> .inl (by omega)
 have st6:Stp (Wid Aw Wg Wi) H H6:=st5.trans a6.s;have st7:Stp (Wid Aw Wg Wi) H H7:=Stp.thru st6 s7 fun B hB=> .inl (by omega)
 have st8:Stp (Wid Aw Wg Wi) H H8:=Stp.thru st7 s8 fun B hB=> .inr (.inr (.inr hB))
 have st9:Stp (Wid Aw Wg Wi) H H9:=Stp.thru st8 a9.s fun B hB=>by
  rcases a6.adw.2 B hB with e | e
  ·exact .inr e
  ·exact .inl (by omega)
 refine⟨H9,Wg',Wi',A13, .agg [.bool nd.leaf,ks,vs,ps],W9,⟨st9,fun B hB=>(a6.g B hB).imp id fun e=>by omega,fun B hB=>(a9.i B hB).imp id fun e=>by omega⟩,nb9, ?_⟩;have gw2:=W2.w;have gw3:=W3.w;have gw5:=W5.w;have gw8:=W8.w;obtain⟨x2,gw2⟩:=gw2;obtain⟨x3,gw3⟩:=gw3;obtain⟨x5,gw5⟩:=gw5;obtain⟨x8,gw8⟩:=gw8;have ne7:A7≠Aw:=by omega
 have nA7: ∀ {Wi:Nat->Prop},¬Wid Aw Wg Wi A7->True:=fun _=>trivial
 have q3:H3.h.get A7=some (.cells (y6 p) 59 1 false):=by rw[s3.keep _ (by omega) ne7];exact Prs.get p2 p1.ok g1
 have q5:H5.h.get A7=some (.cells (y6 p) 59 1 false):=by rw[s5.keep _ (by omega) (by omega),p4.keep _ (by omega) (fun x=>x)];exact q3
 have nw7: ¬Wid Aw Wg Wi A7:=fun hw=>by have:=h.lt r c _ hw;omega
 have q8:H8.h.get A7=some (.cells (y6 p) 59 1 false):=by rw[s8.keep _ (by omega) ne7,s7.keep _ (by omega) (by omega),a6.s.keep _ (by omega) nw7];exact q5
 have hsub:((left+1:Nat):Int) - ((1:Nat):Int)=((left:Nat):Int):=by omega
 have hneg: ¬((left:Nat):Int)< ((0:Nat):Int):=by omega
 have t00: ¬(((0:Nat):Int)≠((0:Nat):Int)):=by omega
 have hky:Eng.keyOk (1::[6,6,10]) (.agg (y6 p))=true:=rfl;have hlk:lkM (1::[6,6,10]) (.agg [.bool false, .nilSlice, .nilSlice, .nilSlice]) true .nilMap (.agg (y6 p)) H3=some (.tuple [.agg [.bool false, .nilSlice, .nilSlice, .nilSlice], .bool false]):=by
  simp only[lkM,hky,cond_true];rfl
 have ap: ∀ {H:AH},H.h.get A7=some (.cells (y6 p) 59 1 false)->ldN 3 (.ptr A7 0) H=some (.agg (y6 p)):=fun g=>by rw[qQ g];rfl
 have hbx:bxV 59 (.agg (y6 p))=some (.cells (y6 p) 59 1 false,fun A=> .ptr A 0):=rfl;have r1:ldN 3 (.ptr A7 0) H1=some (.agg (y6 p)):=ap g1;have r9:ldN 4 (.ptr A13 0) H9=some (.agg [.bool nd.leaf,ks,vs,ps]):=xY g9 rfl;have r8:ldN 4 (.ptr A13 0) H8=some (.agg [.bool nd.leaf,ks,vs,ps]):=xY g8 rfl;refine⟨fun hb=> ?_,fun hb hl=> ?_,fun hb hl=>⟨H10,p10, ?_⟩⟩
 ·rw[hb]at e9;simp(maxSteps:=999999)(disch:=omega) only[f89,zIv,eZ,hbx,b1,r1,e2,qL gw2,hsub,e3,qL gw3,hneg,hlk,ap q3,qK,nth,b4,e5',qL gw5,ap q5,e6,e7',e8,qL gw8,t00,ap q8,r8,e9]
 ·rw[hb]at e9;rw[hl]at e6 e7' r8 e9 g9;simp(maxSteps:=999999)(disch:=omega) only[f89,zIv,eZ,hbx,b1,r1,e2,qL gw2,hsub,e3,qL gw3,hneg,hlk,ap q3,qK,nth,b4,e5',qL gw5,ap q5,e6,e7',e8,qL gw8,t00,ap q8,r8,e9,qL g9]
 ·rw[hb]at e9;rw[hl]at e6 e7' r8 e9 g9 r9 e10;rw[xM hl rfl fr]at e10;simp(maxSteps:=999999)(disch:=omega) only[f89,zIv,eZ,hbx,b1,r1,e2,qL gw2,hsub,e3,qL gw3,hneg,hlk,ap q3,qK,nth,b4,e5',qL gw5,ap q5,e6,e7',e8,qL gw8,t00,ap q8,r8,e9,qL g9,r9,e10]
end
open Go.Nd (Ptr yH qP)
open Go.Bt
theorem l0_go (D:Dyn)(n:Nat){H H':AH}{A2 Aw A13 first i:Nat}{fr to:Str}{nd:Nd.Node}{v:AV}{W:Nat->Prop}{b:Bool}(nb:NB H W A13 v nd)(hi:i<nd.kids.length)(hlen:nd.kids.length=nd.keys.length+1)(hs:i<=1000000)
  (hgo:i=first\/(first<i/\y8 to (nd.keys.getD (i - 1) [])=true))
  (e1:D.fn 89 [.ptr Aw 0, .agg (y6 nd.kids[i]),S fr,S to, .func 41 [] [], .yieldTo A2] H=some (.bool b,H')):
  YU D n [.ptr Aw 0,S fr,S to, .func 41 [] [], .yieldTo A2, .ptr A13 0, .int .i64 ((first:Nat):Int), .int .i64 ((i:Nat):Int)] H=some (bif b then .norm [.ptr Aw 0,S fr,S to, .func 41 [] [], .yieldTo A2, .ptr A13 0, .int .i64 ((first:Nat):Int), .int .i64 ((i+1:Nat):Int)]else .ret (.bool false),H'):=by
 obtain⟨l,e,rfl,g⟩:=nb.g;obtain⟨ks,vs,ps,hl,w1,w2,w3⟩:=nb.nv;simp only[AV.agg.injEq]at hl;subst hl;have hp:uP H ps nd.kids:=w3.row;have hx:Strs H ks nd.keys:=w1.row;obtain⟨qp,ip,ip'⟩:=hp.at hi;have hiI:((i:Nat):Int)< ((nd.kids.length:Nat):Int):=by omega
 have hi1:((i:Nat):Int)+((1:Nat):Int)=((i+1:Nat):Int):=by omega
 have hS:(AV.str 0 0)=S []:=rfl;rcases hgo with rfl | ⟨hf,ha⟩
 ·have hgt: ¬((i:Nat):Int)< ((i:Nat):Int):=by omega
  cases b<;>simp(maxSteps:=999999)(disch:=omega) only[YU,eZ,cond_true,cond_false,qL g,hp.lnSl,hiI,hgt,ip,ip',e1,hi1]
 ·have hgt:((first:Nat):Int)< ((i:Nat):Int):=by omega
  by_cases ht:to=[]
  ·have hne:jW .neq (S to) (S [])=some (.bool false):=by rw[jI];simp[ht]
   cases b<;>simp(maxSteps:=999999)(disch:=omega) only[YU,eZ,cond_true,cond_false,qL g,hp.lnSl,hiI,hgt,hS,hne,ip,ip',e1,hi1]
  ·have hne:jW .neq (S to) (S [])=some (.bool true):=by rw[jI];simp[ht]
   have hi':i - 1<nd.keys.length:=by omega
   obtain⟨qk,ik,ik'⟩:=hx.at hi';have hsub:((i:Nat):Int) - ((1:Nat):Int)=((i - 1:Nat):Int):=by omega
   have hlt:ltS nd.keys[i - 1] to=true:=by
    rw[zE,zB hi',Option.getD_some]at ha;simp only[y8,Bool.or_eq_true,List.isEmpty_iff,ht,false_or]at ha;exact ha
   have hge:jW .geq (S nd.keys[i - 1]) (S to)=some (.bool false):=by rw[xF,hlt];rfl
   cases b<;>simp(maxSteps:=999999)(disch:=omega) only[YU,eZ,cond_true,cond_false,qL g,hp.lnSl,hiI,hgt,hS,hne,hsub,ik,ik',hge,ip,ip',e1,hi1]
theorem zLb (D:Dyn)(n:Nat){H:AH}{A2 Aw A13 first i:Nat}{fr to:Str}{nd:Nd.Node}{v:AV}{W:Nat->Prop}(nb:NB H W A13 v nd)(hlen:nd.kids.length=nd.keys.length+1)(hs:i<=1000000)
  (hst:nd.kids.length<=i\/(first<i/\i<nd.kids.length/\y8 to (nd.keys.getD (i - 1) [])=false)):
  YU D n [.ptr Aw 0,S fr,S to, .func 41 [] [], .yieldTo A2, .ptr A13 0, .int .i64 ((first:Nat):Int), .int .i64 ((i:Nat):Int)] H=some (.exit 0 [],H):=by
 obtain⟨l,e,rfl,g⟩:=nb.g;obtain⟨ks,vs,ps,hl,w1,w2,w3⟩:=nb.nv;simp only[AV.agg.injEq]at hl;subst hl;have hp:uP H ps nd.kids:=w3.row;have hx:Strs H ks nd.keys:=w1.row;have hS:(AV.str 0 0)=S []:=rfl;rcases hst with hge | ⟨hf,hi,ha⟩
 ·have hiI: ¬((i:Nat):Int)< ((nd.kids.length:Nat):Int):=by omega
  simp(maxSteps:=999999)(disch:=omega) only[YU,eZ,cond_true,cond_false,qL g,hp.lnSl,hiI]
 ·have hiI:((i:Nat):Int)< ((nd.kids.length:Nat):Int):=by omega
  have hgt:((first:Nat):Int)< ((i:Nat):Int):=by omega
  have hi':i - 1<nd.keys.length:=by omega
  rw[zE,zB hi',Option.getD_some]at ha;simp only[y8,Bool.or_eq_false_iff]at ha;have hne:jW .neq (S to) (S [])=some (.bool true):=by
   rw[jI];have:to≠[]:=fun e=>by rw[e]at ha;simp at ha
   simp[this]
  obtain⟨qk,ik,ik'⟩:=hx.at hi';have hsub:((i:Nat):Int) - ((1:Nat):Int)=((i - 1:Nat):Int):=by omega
  have hge:jW .geq (S nd.keys[i - 1]) (S to)=some (.bool true):=by rw[xF,ha.2];rfl
  simp(maxSteps:=999999)(disch:=omega) only[YU,eZ,cond_true,cond_false,qL g,hp.lnSl,hiI,hgt,hS,hne,hsub,ik,ik',hge]
def zOB {σ:Type}(N0 At Aw M A2:Nat)(Q:Ptr->Option Nd.Node)(G:AH->(Nat->Prop)->Prop)(step:σ->Ptr×Nd.Node->Bool×σ)(I:Nat->Bool×σ->AH->(Nat->Prop)->Prop)(fr to:Str)(h:Nat):Prop:=
 ∀(m n:Nat) (p:Ptr) (nd:Nd.Node) (s:σ) (H:AH) (Wg Wi:Nat->Prop) (left:Nat),M+h+300000000<=m->300000000<=n->Q p=some nd->Vs Q h nd->Wk N0 At Aw G I H Wg Wi left left (true,s)->(wS Q fr to h p nd).length<=left->left<=1000000000->
  ∃H' Wg' Wi' left',f89 (dy (m+1)) n [.ptr Aw 0, .agg (y6 p),S fr,S to, .func 41 [] [], .yieldTo A2] H=some (.bool (kK step (wS Q fr to h p nd) s).1,H')/\Wk N0 At Aw G I H' Wg' Wi' left' left' (kK step (wS Q fr to h p nd) s)/\Awk Aw Wg Wi H Wg' Wi' H'/\left<=left'+(wS Q fr to h p nd).length/\left'<=left
section
variable {σ:Type}{At N0 k M A2 Aw:Nat}{root:Ptr}{Q:Ptr->Option Nd.Node}{G:AH->(Nat->Prop)->Prop}{step:σ->Ptr×Nd.Node->Bool×σ}{I:Nat->Bool×σ->AH->(Nat->Prop)->Prop}{fr to:Str}
variable (r:Rdr At N0 k root Q G)(c:Cns A2 M N0 encN step I)
include r c
theorem zD4 {h m n A13:Nat}{nd:Nd.Node}{v:AV}(ih:zOB N0 At Aw M A2 Q G step I fr to h)(hlen:nd.kids.length=nd.keys.length+1)(hz:Nd.size nd<=500)(hkids: ∀p∈nd.kids,∃nd',Q p=some nd'/\Vs Q h nd')(hm:M+h+300000000<=m):
  ∀(rr i kf:Nat) {s:σ} {H:AH} {Wg Wi:Nat->Prop} {left:Nat},qZ nd.keys fr<=i->i+rr=qZ nd.keys fr+aH nd.keys to (qZ nd.keys fr)->rr<kf->Wk N0 At Aw G I H Wg Wi left left (true,s)->NB H (Wid Aw Wg Wi) A13 v nd->(((nd.kids.drop i).take rr).flatMap (VZ Q (wS Q fr to h))).length<=left->left<=1000000000->
   ∃H' Wg' Wi' left',jb 0 (qW kf (YU (dy (m+2)) n) [.ptr Aw 0,S fr,S to, .func 41 [] [], .yieldTo A2, .ptr A13 0, .int .i64 ((qZ nd.keys fr:Nat):Int), .int .i64 ((i:Nat):Int)] H) (zIw (dy (m+2)) n)=some (.ret (.bool (kK step (((nd.kids.drop i).take rr).flatMap (VZ Q (wS Q fr to h))) s).1),H')/\
    Wk N0 At Aw G I H' Wg' Wi' left' left' (kK step (((nd.kids.drop i).take rr).flatMap (VZ Q (wS Q fr to h))) s)/\Awk Aw Wg Wi H Wg' Wi' H'/\left<=left'+(((nd.kids.drop i).take rr).flatMap (VZ Q (wS Q fr to h))).length/\left'<=left
 | 0,i,0,_,_,_,_,_,_,_,hk,_,_,_,_=>by omega
 | 0,i,kf+1,s,H,Wg,Wi,left,hf,he,_,wk,nb,_,_=>by
  have hle:=xN nd.keys fr;have hc:=ZM nd.keys to _ hle;have hk5:nd.keys.length<=500:=by obtain⟨a,_,_⟩:=dB hz;exact a
  refine⟨H,Wg,Wi,left, ?_,by simpa[kK]using wk,Awk.refl (wk.ok r c),by simp,Nat.le_refl _⟩;have hst:nd.kids.length<=i\/(qZ nd.keys fr<i/\i<nd.kids.length/\y8 to (nd.keys.getD (i - 1) [])=false):=by
   by_cases hi:nd.kids.length<=i
   ·exact .inl hi
   ·have h1:1<=aH nd.keys to (qZ nd.keys fr):=Nat.succ_le_succ (Nat.zero_le _);refine .inr ⟨by omega,by omega, ?_⟩;have hd:(nd.keys.drop (qZ nd.keys fr))[((nd.keys.drop (qZ nd.keys fr)).takeWhile (y8 to)).length]? =some (nd.keys.getD (i - 1) []):=by
     rw[qC,zE];have:qZ nd.keys fr+((nd.keys.drop (qZ nd.keys fr)).takeWhile (y8 to)).length=i - 1:=by
      have:aH nd.keys to (qZ nd.keys fr)=((nd.keys.drop (qZ nd.keys fr)).takeWhile (y8 to)).length+1:=rfl;omega
     rw[this,zB (by omega),Option.getD_some]
    exact uS hd
  rw[qY (zLb (dy (m+2)) n nb hlen (by omega) hst)];simp only[List.take_zero,List.flatMap_nil,kK];simp only[jb,zIw,eZ];rfl
 | rr+1,i,0,_,_,_,_,_,_,_,hk,_,_,_,_=>by omega
 | rr+1,i,kf+1,s,H,Wg,Wi,left,hf,he,hkf,wk,nb,hl,hlf=>by
  have hle:=xN nd.keys fr;have hc:=ZM nd.keys to _ hle;have hk5:nd.keys.length<=500:=by obtain⟨a,_,_⟩:=dB hz;exact a
  have hi:i<nd.kids.length:=by omega
  have hL:((nd.kids.drop i).take (rr+1)).flatMap (VZ Q (wS Q fr to h))=VZ Q (wS Q fr to h) nd.kids[i]++((nd.kids.drop (i+1)).take rr).flatMap (VZ Q (wS Q fr to h)):=by
   rw[zL hi,List.take_succ_cons,zP]
  obtain⟨nd',hq,hv⟩:=hkids _ (zU hi);have hkf':VZ Q (wS Q fr to h) nd.kids[i]=wS Q fr to h nd.kids[i] nd':=by simp only[VZ,hq]
  rw[hL,hkf']at hl⊢;rw[zI]at hl;obtain⟨H1,Wg1,Wi1,left1,e1,wk1,a1,l1,l1'⟩:=ih m (m+1) _ _ _ _ _ _ _ hm (by omega) hq hv wk (by omega) hlf;have hgo:i=qZ nd.keys fr\/(qZ nd.keys fr<i/\y8 to (nd.keys.getD (i - 1) [])=true):=by
   by_cases hif:i=qZ nd.keys fr
   ·exact .inl hif
   ·refine .inr ⟨by omega, ?_⟩;have hlt:i - 1 - qZ nd.keys fr< ((nd.keys.drop (qZ nd.keys fr)).takeWhile (y8 to)).length:=by
     have:aH nd.keys to (qZ nd.keys fr)=((nd.keys.drop (qZ nd.keys fr)).takeWhile (y8 to)).length+1:=rfl;omega
    refine fX hlt ?_;rw[qC,show qZ nd.keys fr+(i - 1 - qZ nd.keys fr)=i - 1 by omega,zE,zB (by omega),Option.getD_some]
  have hb:=l0_go (dy (m+2)) n (Aw:=Aw) (A2:=A2) (fr:=fr) nb hi hlen (by omega) hgo (by rw[zGA];exact e1);rw[zB0]
  cases hr:(kK step (wS Q fr to h nd.kids[i] nd') s).1 with
  | false=>
   rw[hr]at hb;simp only[cond_false]at hb⊢;have hs:kK step (wS Q fr to h nd.kids[i] nd') s=(false,(kK step (wS Q fr to h nd.kids[i] nd') s).2):=by rw[<-hr]
   rw[hs]at wk1;refine⟨H1,Wg1,Wi1,left1, ?_,wk1,a1,by rw[zI];omega,l1'⟩;rw[bT hb];rfl
  | true=>
   rw[hr]at hb;simp only[cond_true]at hb⊢;have hs:kK step (wS Q fr to h nd.kids[i] nd') s=(true,(kK step (wS Q fr to h nd.kids[i] nd') s).2):=by rw[<-hr]
   rw[hs]at wk1;obtain⟨H2,Wg2,Wi2,left2,e2,wk2,a2,l2,l2'⟩:=zD4 ih hlen hz hkids hm rr (i+1) kf (by omega) (by omega) (by omega) wk1 (nb.adw (wk.ok r c) a1.adw) (by omega) (by omega);refine⟨H2,Wg2,Wi2,left2, ?_,wk2,a1.trans a2,by rw[zI];omega,by omega⟩;rw[yW hb];exact e2
theorem zD6: ∀h,zOB N0 At Aw M A2 Q G step I fr to h
 | 0=>fun m n p nd s H Wg Wi left hm hn hq hv wk hl hlf=>by
  obtain⟨v1,v2,v3⟩:=hv;have hvis:wS Q fr to 0 p nd=[(p,nd)]:=rfl;rw[hvis]at hl⊢;obtain⟨l,rfl⟩: ∃l,left=l+1:=⟨left - 1,by simp at hl;omega⟩;obtain⟨H5,Wg',Wi',A13,v,wk',a',nb,c1,c2,_⟩:=zD5 r c (fr:=fr) (to:=to) m n (by omega) hn hq v3 (fun _=>v2) wk (by omega);have hrun:kK step [(p,nd)] s=step s (p,nd):=by
   simp only[kK]
   cases hb:(step s (p,nd)).1 with
   | true=>simp only[cond_true];rw[<-hb]
   | false=>simp only[cond_false];rw[<-hb]
  rw[hrun];refine⟨H5,Wg',Wi',l, ?_,wk',a',by simp,by omega⟩
  cases hb:(step s (p,nd)).1 with
  | true=>exact c2 hb v1
  | false=>exact c1 hb
 | h+1=>fun m n p nd s H Wg Wi left hm hn hq hv wk hl hlf=>by
  obtain⟨v1,v2,v3,v4⟩:=hv;have hvis:wS Q fr to (h+1) p nd=(p,nd)::((nd.kids.drop (qZ nd.keys fr)).take (aH nd.keys to (qZ nd.keys fr))).flatMap (VZ Q (wS Q fr to h)):=rfl;rw[hvis]at hl⊢;simp only[zJ]at hl⊢;obtain⟨l,rfl⟩: ∃l,left=l+1:=⟨left - 1,by omega⟩;obtain⟨m',rfl⟩: ∃m',m=m'+1:=⟨m - 1,by omega⟩;obtain⟨H5,Wg',Wi',A13,v,wk',a',nb,c1,_,c3⟩:=zD5 r c (fr:=fr) (to:=to) (m'+1) n (by omega) hn hq v3 (fun e=>by rw[v1]at e;cases e) wk (by omega)
  cases hb:(step s (p,nd)).1 with
  | false=>
   have hs:step s (p,nd)=(false,(step s (p,nd)).2):=by rw[<-hb]
   refine⟨H5,Wg',Wi',l, ?_, ?_,a',by omega,by omega⟩
   ·simp only[kK,hb,cond_false];exact c1 hb
   ·simp only[kK,hb,cond_false];rw[hs]at wk';exact wk'
  | true=>
   have hs:step s (p,nd)=(true,(step s (p,nd)).2):=by rw[<-hb]
   rw[hs]at wk';obtain⟨H6,p6,e6⟩:=c3 hb v1;have hk5:nd.keys.length<=500:=by obtain⟨a,_,_⟩:=dB v3;exact a
   have hle:=xN nd.keys fr;have hc:=ZM nd.keys to _ hle;obtain⟨H7,Wg7,Wi7,l7,e7,wk7,a7,b7,b7'⟩:=zD4 r c (m:=m') (n:=n) (zD6 h) v2 v3 v4 (by omega) (aH nd.keys to (qZ nd.keys fr)) (qZ nd.keys fr) n (Nat.le_refl _) rfl (by omega) (wk'.prs r c p6) (nb.adw (wk'.ok r c) ⟨p6.stp,fun B hB=> .inl hB⟩) (by omega) (by omega);refine⟨H7,Wg7,Wi7,l7, ?_, ?_,a'.trans ((Awk.prs p6).trans a7),by omega,by omega⟩
   ·rw[e6,e7];simp only[kK,hb,cond_true];rfl
   ·simp only[kK,hb,cond_true];exact wk7
end
open Go.Nd (Ptr yH qP whereN)
open Go.Bt
def encP (_:AH)(_:Nat->Prop)(x:Str×Str)(az:List AV):Prop:=az=[.agg [S x.1,S x.2]]
def lpP (b:Bool)(Bf Bt By:Nat):ALoop:=⟨bif b then .ready else .done,bif b then none else some .ret,63,0,[2,3,5],[.ptr Bf 0, .ptr Bt 0, .ptr By 0]⟩
def zH8 (A2 Bf Bt By B:Nat):Prop:=B=A2\/B=Bf\/B=Bt\/B=By
structure Inn2 {σ:Type}(I:Nat->Bool×σ->AH->(Nat->Prop)->Prop)(N0 Bf Bt By A1:Nat)(fr to:Str)(b:Nat)(bo:Bool)(s:σ)(H:AH)(Wo:Nat->Prop):Prop where
 i:I b (bo,s) H Wo
 bf:Box H Bf (S fr)
 bt:Box H Bt (S to)
 by':Box H By (.yieldTo A1)
 lo:N0<=Bf/\N0<=Bt/\N0<=By
 nw: ¬Wo Bf/\ ¬Wo Bt/\ ¬Wo By
def I2 {σ:Type}(I:Nat->Bool×σ->AH->(Nat->Prop)->Prop)(N0 A2 Bf Bt By A1:Nat)(fr to:Str)(b:Nat)(x:Bool×σ)(H:AH)(W:Nat->Prop):Prop:=
 ∃Wo bo,Inn2 I N0 Bf Bt By A1 fr to (500*b) bo x.2 H Wo/\(x.1=true->bo=true)/\H.h.get A2=some (.loop (lpP x.1 Bf Bt By))/\N0<=A2/\ ¬Wo A2/\ ∀B,W B↔(Wo B\/zH8 A2 Bf Bt By B)
section
variable {σ:Type}{A1 M N0:Nat}{step:σ->Str×Str->Bool×σ}{I:Nat->Bool×σ->AH->(Nat->Prop)->Prop}(c:Cns A1 M N0 encP step I)
include c
theorem Inn2.adw {Bf Bt By:Nat}{fr to:Str}{b b':Nat}{bo bo':Bool}{s s':σ}{H H':AH}{Wo Wo':Nat->Prop}(h:Inn2 I N0 Bf Bt By A1 fr to b bo s H Wo)(a:Adw Wo H Wo' H')(i:I b' (bo',s') H' Wo'):Inn2 I N0 Bf Bt By A1 fr to b' bo' s' H' Wo':=by
 have hk:=c.ok h.i;have nw: ∀ {B:Nat} {x:AV},Box H B x-> ¬Wo B-> ¬Wo' B:=fun hb hn hw=>by
  rcases a.2 _ hw with e | e
  ·exact hn e
  ·have:=hb.lt hk;omega
 exact⟨i,h.bf.mono hk a.1 h.nw.1,h.bt.mono hk a.1 h.nw.2.1,h.by'.mono hk a.1 h.nw.2.2,h.lo,nw h.bf h.nw.1,nw h.bt h.nw.2.1,nw h.by' h.nw.2.2⟩
theorem Inn2.frame {Bf Bt By:Nat}{fr to:Str}{b:Nat}{bo:Bool}{s:σ}{H H':AH}{Wo S:Nat->Prop}(h:Inn2 I N0 Bf Bt By A1 fr to b bo s H Wo)(k:Stp S H H')(hS: ∀B,S B-> ¬Wo B/\B≠Bf/\B≠Bt/\B≠By):Inn2 I N0 Bf Bt By A1 fr to b bo s H' Wo:=by
 have hk:=c.ok h.i;exact⟨c.frame h.i k fun B hB=>(hS B hB).1,h.bf.mono hk k fun e=>(hS _ e).2.1 rfl,h.bt.mono hk k fun e=>(hS _ e).2.2.1 rfl,h.by'.mono hk k fun e=>(hS _ e).2.2.2 rfl,h.lo,h.nw⟩
theorem Inn2.drop {Bf Bt By:Nat}{fr to:Str}{b b':Nat}{bo:Bool}{s:σ}{H:AH}{Wo:Nat->Prop}(h:Inn2 I N0 Bf Bt By A1 fr to b bo s H Wo)(hb:b'<=b):Inn2 I N0 Bf Bt By A1 fr to b' bo s H Wo:=⟨c.mono h.i hb,h.bf,h.bt,h.by',h.lo,h.nw⟩
theorem VX {m n A7 Bf Bt By:Nat}{fr to:Str}{nd:Nd.Node}{v:AV}(hm:M<=m)(hvl:nd.vals.length=nd.keys.length)(hz:nd.keys.length<=500):
  ∀(rr i kf:Nat) {b:Nat} {s:σ} {H:AH} {Wo:Nat->Prop},i+rr=nd.keys.length->rr<kf->Inn2 I N0 Bf Bt By A1 fr to (b+rr) true s H Wo->NB H Wo A7 v nd->
   ∃H' Wo' bo e,jb 2 (qW kf (zAl (dy (m+1)) n) [.ptr Bt 0, .ptr By 0, .ptr A7 0, .int .i64 ((i:Nat):Int)] H) (zLx (dy (m+1)) n)=some (e,H')/\
    Inn2 I N0 Bf Bt By A1 fr to b bo (kK (kP to step) ((nd.keys.zip nd.vals).drop i) s).2 H' Wo'/\Adw Wo H Wo' H'/\((kK (kP to step) ((nd.keys.zip nd.vals).drop i) s).1=true->bo=true/\e= .norm [])/\((kK (kP to step) ((nd.keys.zip nd.vals).drop i) s).1=false->e= .ret (.tuple []))
 | _,_,0,_,_,_,_,_,hk,_,_=>by omega
 | 0,i,kf+1,b,s,H,Wo,he,_,hi,nb=>by
  obtain⟨l,e,rfl,g⟩:=nb.g;obtain⟨ks,vs,ps,hl,w1,w2,w3⟩:=nb.nv;simp only[AV.agg.injEq]at hl;subst hl;have hx:Strs H ks nd.keys:=w1.row;have hnil:(nd.keys.zip nd.vals).drop i=[]:=zO (by simp;omega);rw[hnil];refine⟨H,Wo,true, .norm [], ?_,hi,Adw.refl (c.ok hi.i),fun _=>⟨rfl,rfl⟩,fun h=>by simp[kK]at h⟩;have hge: ¬((i:Nat):Int)< ((nd.keys.length:Nat):Int):=by omega
  rw[qY (i:=2) (vs':=[]) (H':=H) (by simp(maxSteps:=999999)(disch:=omega) only[zAl,eZ,qL g,hx.lnSl,hge])];simp only[jb,zLx,eZ];rfl
 | rr+1,i,kf+1,b,s,H,Wo,he,hkf,hi,nb=>by
  have nb0:=nb;obtain⟨l,e,rfl,g⟩:=nb.g;obtain⟨ks,vs,ps,hl,w1,w2,w3⟩:=nb.nv;simp only[AV.agg.injEq]at hl;subst hl;have hx:Strs H ks nd.keys:=w1.row;have hy:Strs H vs nd.vals:=w2.row;have hik:i<nd.keys.length:=by omega
  have hiv:i<nd.vals.length:=by omega
  obtain⟨qk,ik,ik'⟩:=hx.at hik;obtain⟨qv,iv,iv'⟩:=hy.at hiv;have hiI:((i:Nat):Int)< ((nd.keys.length:Nat):Int):=by omega
  have hi1:((i:Nat):Int)+((1:Nat):Int)=((i+1:Nat):Int):=by omega
  have hS:(AV.str 0 0)=S []:=rfl;have hL:(nd.keys.zip nd.vals).drop i=(nd.keys[i],nd.vals[i])::(nd.keys.zip nd.vals).drop (i+1):=by
   rw[zL (by simp;omega),List.getElem_zip]
  rw[hL];have hbs:wB [(0,1),(1,1)] [S [],S []] [(0,S nd.keys[i]),(1,S nd.vals[i])]=some (.agg [S nd.keys[i],S nd.vals[i]]):=rfl;have hcall: ∀az H,callV (s63 (dy (m+1)) n).S (dy (m+1)) (.yieldTo A1) az H=(dy (m+1)).yld A1 az H:=fun _ _=>rfl
  cases ha:y8 to nd.keys[i]with
  | false=>
   have hst:kP to step s (nd.keys[i],nd.vals[i])=(false,s):=by simp only[kP,ha,cond_false]
   simp only[kK,hst,cond_false];refine⟨H,Wo,true, .ret (.tuple []), ?_,hi.drop c (b':=b) (by omega),Adw.refl (c.ok hi.i),fun h=>by simp at h,fun _=>rfl⟩;simp only[y8,Bool.or_eq_false_iff]at ha;have hne:jW .neq (S to) (S [])=some (.bool true):=by
    rw[jI];have:to≠[]:=fun e=>by rw[e]at ha;simp at ha
    simp[this]
   have hge:jW .geq (S nd.keys[i]) (S to)=some (.bool true):=by rw[xF,ha.2];rfl
   rw[bT (v:= .tuple []) (H':=H) (by simp(maxSteps:=999999)(disch:=omega) only[zAl,eZ,qL g,hx.lnSl,hiI,hi.bt.ld,hS,hne,ik,ik',hge])];rfl
  | true=>
   obtain⟨H1,Wo1,e1,i1,a1⟩:=c.run m hm hi.i (a:=(nd.keys[i],nd.vals[i])) (az:=[.agg [S nd.keys[i],S nd.vals[i]]]) rfl;have hi':=hi.adw c a1 (b':=b+rr) (bo':=(step s (nd.keys[i],nd.vals[i])).1) (s':=(step s (nd.keys[i],nd.vals[i])).2) i1;have hst:kP to step s (nd.keys[i],nd.vals[i])=step s (nd.keys[i],nd.vals[i]):=by simp only[kP,ha,cond_true]
   have body:zAl (dy (m+1)) n [.ptr Bt 0, .ptr By 0, .ptr A7 0, .int .i64 ((i:Nat):Int)] H=some (bif (step s (nd.keys[i],nd.vals[i])).1 then .norm [.ptr Bt 0, .ptr By 0, .ptr A7 0, .int .i64 ((i+1:Nat):Int)]else .ret (.tuple []),H1):=by
    by_cases ht:to=[]
    ·have hne:jW .neq (S to) (S [])=some (.bool false):=by rw[jI];simp[ht]
     cases hb:(step s (nd.keys[i],nd.vals[i])).1<;>rw[hb]at e1<;>simp(maxSteps:=999999)(disch:=omega) only[zAl,eZ,cond_true,cond_false,qL g,hx.lnSl,hiI,hi.bt.ld,hi.by'.ld,hS,hne,ik,ik',iv,iv',hbs,hcall,e1,hi1]
    ·have hne:jW .neq (S to) (S [])=some (.bool true):=by rw[jI];simp[ht]
     have hlt:ltS nd.keys[i] to=true:=by simpa[y8,ht]using ha
     have hge:jW .geq (S nd.keys[i]) (S to)=some (.bool false):=by rw[xF,hlt];rfl
     cases hb:(step s (nd.keys[i],nd.vals[i])).1<;>rw[hb]at e1<;>simp(maxSteps:=999999)(disch:=omega) only[zAl,eZ,cond_true,cond_false,qL g,hx.lnSl,hiI,hi.bt.ld,hi.by'.ld,hS,hne,ik,ik',hge,iv,iv',hbs,hcall,e1,hi1]
   have nb1:=nb0.adw (c.ok hi.i) a1
   cases hb:(step s (nd.keys[i],nd.vals[i])).1 with
   | false=>
    rw[hb]at body hi';simp only[cond_false]at body;simp only[kK,hst,hb,cond_false];refine⟨H1,Wo1,false, .ret (.tuple []), ?_,hi'.drop c (b':=b) (by omega),a1,fun h=>by simp at h,fun _=>rfl⟩;rw[bT body];rfl
   | true=>
    rw[hb]at body hi';simp only[cond_true]at body;simp only[kK,hst,hb,cond_true];obtain⟨H2,Wo2,bo,e,e2,i2,a2,t2,f2⟩:=VX hm hvl hz rr (i+1) kf (by omega) (by omega) hi' nb1;refine⟨H2,Wo2,bo,e, ?_,i2,a1.trans a2,t2,f2⟩;rw[yW body];exact e2
end
open Go.Nd (Ptr yH qP whereN)
open Go.Bt
section
variable {σ:Type}{A1 M N0:Nat}{step:σ->Str×Str->Bool×σ}{I:Nat->Bool×σ->AH->(Nat->Prop)->Prop}(c:Cns A1 M N0 encP step I)
include c
omit c in
theorem zGy (m:Nat){H:AH}{A2 Bf Bt By:Nat}(gA:H.h.get A2=some (.loop (lpP true Bf Bt By)))(az:List AV):(dy (m+1)).yld A2 az H=zA1 (dy m) m A2 (lpP true Bf Bt By) az H:=by
 show cT (tabR (dy m) m) A2 az H=_;simp only[cT,gA];rfl
theorem zEZ {A2 Bf Bt By:Nat}{fr to:Str}{b0:Nat}{s:σ}{a:Ptr×Nd.Node}{az:List AV}{H:AH}{W:Nat->Prop}(m:Nat)(hm:M+300000000<=m)(hi:I2 I N0 A2 Bf Bt By A1 fr to (b0+1) (true,s) H W)(he:encN H W a az):
  ∃H' W',(dy (m+1)).yld A2 az H=some (.bool (wO fr to step s a).1,H')/\I2 I N0 A2 Bf Bt By A1 fr to b0 (wO fr to step s a) H' W'/\Adw W H W' H':=by
 obtain⟨Wo,bo,hi,hb,gA,hlo,nA,hW⟩:=hi;obtain rfl:=hb rfl;obtain⟨p,nd⟩:=a;obtain⟨v,rfl,nv,hz,hvl,nvw⟩:=he;simp only at nv hz hvl nvw⊢;obtain⟨m',rfl⟩: ∃m',m=m'+1:=⟨m - 1,by omega⟩;rw[zGy (m'+1) gA];have hk:=c.ok hi.i;have lA:=hk.lt gA;have n2:A2≠Bf/\A2≠Bt/\A2≠By:=by
  refine⟨fun e=> ?_,fun e=> ?_,fun e=> ?_⟩
  ·obtain⟨_,h⟩:=hi.bf;rw[<-e,gA]at h;cases h
  ·obtain⟨_,h⟩:=hi.bt;rw[<-e,gA]at h;cases h
  ·obtain⟨_,h⟩:=hi.by';rw[<-e,gA]at h;cases h
 have lbf:=hi.bf.lt hk;have lbt:=hi.bt.lt hk;have lby:=hi.by'.lt hk;have nvo: ∀B,xJ v B-> ¬Wo B:=fun B hB w=>nvw B hB ((hW B).2 (.inl w))
 have nv2: ¬xJ v A2:=fun hB=>nvw A2 hB ((hW A2).2 (.inr (.inl rfl)))
 obtain⟨ks,vs,ps,rfl,w1,w2,w3⟩:=nv;have nv:y9 H (.agg [.bool nd.leaf,ks,vs,ps]) nd:=⟨ks,vs,ps,rfl,w1,w2,w3⟩;obtain⟨H1,A7,b1,p1,g1,m1,n1⟩:=box hk (.cells [.bool false, .nilSlice, .nilSlice, .nilSlice] 93 1 false);obtain⟨H2,e2,g2,s2,n2'⟩:=yF p1.ok g1 (l':=[.bool nd.leaf,ks,vs,ps]) rfl (by simp[qN,w1.isCell,w2.isCell,w3.isCell];rfl);have e2':stN 4 (.ptr A7 0) (.agg [.bool nd.leaf,ks,vs,ps]) H1=some (qM,H2):=e2;have P2:Prs H H2:=p1.fresh s2 fun B hB=>by omega
 have N1:=p1.next;have N2:=s2.next
 have gA2:=Prs.get P2 hk gA;have hbeg: ∀K:AH->Rs,xV A2 H2 K=K (H2.put A2 (.loop { lpP true Bf Bt By with state:= .busy})):=fun K=>by
  simp only[xV,gA2,lpP,cond_true,yY]
 have s3:Stp (fun B=>B=A2) H2 (H2.put A2 (.loop { lpP true Bf Bt By with state:= .busy})):=(Stp.refl s2.ok).put (s2.ok.lt gA2) _ (.inr rfl);have g3:(H2.put A2 (.loop { lpP true Bf Bt By with state:= .busy})).h.get A2=some (.loop { lpP true Bf Bt By with state:= .busy}):=by rw[AH.put_get,if_pos rfl]
 generalize H2.put A2 (.loop { lpP true Bf Bt By with state:= .busy})=H3 at s3 g3 hbeg;have N3:=s3.next
 have lWo: ∀B,Wo B->B<H.next:=fun B hB=>(c.lt hi.i B hB).1
 have i3:=(hi.frame c P2 (fun _ x=>x.elim)).frame c s3 (fun B hB=>by subst hB;exact⟨nA,n2⟩);have q3:H3.h.get A7=some (.cells [.bool nd.leaf,ks,vs,ps] 93 1 false):=by rw[s3.keep _ (by omega) (by omega)];exact g2
 have nv3:y9 H3 (.agg [.bool nd.leaf,ks,vs,ps]) nd:=(nv.prs P2).stp s3 fun B hB e=>nv2 (e▸hB)
 have nb3:NB H3 Wo A7 (.agg [.bool nd.leaf,ks,vs,ps]) nd:=⟨⟨_,_,rfl,q3⟩,nv3,fun w=>by have:=lWo _ w;omega,nvo⟩;have hl:aZ [2,3,5] (lpP true Bf Bt By).live=true:=rfl;have hvls:(lpP true Bf Bt By).vals=[.ptr Bf 0, .ptr Bt 0, .ptr By 0]:=rfl;have s03:Stp W H H3:=(Prs.stp P2).trans (s3.mono fun B _ hB=>(hW B).2 (.inr (.inl hB)))
 cases hlf:nd.leaf with
 | false=>
  have hst:wO fr to step s (p,nd)=(true,s):=by simp only[wO,xS,hlf,cond_false,kK]
  rw[hst];rw[hlf]at q3 e2';have s4:Stp (fun B=>B=A2) H3 (H3.put A2 (.loop (lpP true Bf Bt By))):=(Stp.refl s3.ok).put (s3.ok.lt g3) _ (.inr rfl);have hend:YQ A2 none H3=some (.bool true,H3.put A2 (.loop (lpP true Bf Bt By))):=by simp only[YQ,g3,yY,lpP,cond_true]
  have i4:=i3.frame c s4 (fun B hB=>by subst hB;exact⟨nA,n2⟩);refine⟨H3.put A2 (.loop (lpP true Bf Bt By)),W, ?_,⟨Wo,true,i4.drop c (b':=500*b0) (by omega),fun _=>rfl,by rw[AH.put_get,if_pos rfl],hlo,nA,hW⟩,⟨s03.trans (s4.mono fun B _ hB=>(hW B).2 (.inr (.inl hB))),fun B hB=> .inl hB⟩⟩;simp(maxSteps:=999999)(disch:=omega) only[zA1,eZ,hl,hvls,cond_true,b1,e2',hbeg,qL q3,zLw];exact hend
 | true=>
  rw[hlf]at q3 e2' nb3;obtain⟨H4,e4,p4⟩:=bN (dy (m'+1)) (m'+1) (by omega) s3.ok (key:=fr) nb3.nv.node (zDM hz);have i4:=i3.frame c p4 (fun _ x=>x.elim);have nb4:NB H4 Wo A7 (.agg [.bool true,ks,vs,ps]) nd:=nb3.adw s3.ok ⟨p4.stp,fun B hB=> .inl hB⟩;have hwl:=Nd.whereN_le nd fr;have hk5:nd.keys.length<=500:=by obtain⟨a,_,_⟩:=dB hz;exact a
  obtain⟨H5,Wo5,bo5,e,e5,i5,a5,t5,f5⟩:=VX c (m:=m') (n:=m'+1) (by omega) (hvl hlf) hk5 (nd.keys.length - whereN nd fr) (whereN nd fr) (m'+1) (b:=500*b0) (by omega) (by omega) (i4.drop c (b':=500*b0+(nd.keys.length - whereN nd fr)) (by omega)) nb4;have hst:wO fr to step s (p,nd)=kK (kP to step) ((nd.keys.zip nd.vals).drop (whereN nd fr)) s:=by simp only[wO,xS,hlf,cond_true]
  rw[hst];have N4:=p4.next;have N5:=a5.1.next
  have g4:H4.h.get A2=some (.loop { lpP true Bf Bt By with state:= .busy}):=Prs.get p4 s3.ok g3;have g5:H5.h.get A2=some (.loop { lpP true Bf Bt By with state:= .busy}):=by rw[a5.1.keep _ (by omega) nA];exact g4
  have hk5':=c.ok i5.i;have nA5: ¬Wo5 A2:=fun w=>by
   rcases a5.2 _ w with e | e
   ·exact nA e
   ·omega
  have r4:ldN 4 (.ptr A7 0) H3=some (.agg [.bool true,ks,vs,ps]):=xY q3 rfl;have fin: ∀b:Bool,Stp (fun B=>B=A2) H5 (H5.put A2 (.loop (lpP b Bf Bt By))):=fun b=>(Stp.refl hk5').put (hk5'.lt g5) _ (.inr rfl)
  have run: ∀b:Bool,YQ A2 (bif b then none else some .ret) H5=some (.bool b,H5.put A2 (.loop (lpP b Bf Bt By))):=fun b=>by
   cases b<;>simp only[YQ,g5,yY,lpP,cond_true,cond_false]
  have out: ∀b:Bool,(b=true->bo5=true)->I2 I N0 A2 Bf Bt By A1 fr to b0 (b,(kK (kP to step) ((nd.keys.zip nd.vals).drop (whereN nd fr)) s).2) (H5.put A2 (.loop (lpP b Bf Bt By))) (fun B=>Wo5 B\/zH8 A2 Bf Bt By B):=fun b hb=>
   ⟨Wo5,bo5,i5.frame c (fin b) (fun B hB=>by subst hB;exact⟨nA5,n2⟩),hb,by rw[AH.put_get,if_pos rfl],hlo,nA5,fun B=>Iff.rfl⟩
  have adw: ∀b:Bool,Adw W H (fun B=>Wo5 B\/zH8 A2 Bf Bt By B) (H5.put A2 (.loop (lpP b Bf Bt By))):=fun b=>by
   refine⟨((s03.trans p4.stp).trans (a5.1.mono fun B _ hB=>(hW B).2 (.inl hB))).trans ((fin b).mono fun B _ hB=>(hW B).2 (.inr (.inl hB))),fun B hB=> ?_⟩;rcases hB with e | e
   ·rcases a5.2 B e with e | e
    ·exact .inl ((hW B).2 (.inl e))
    ·exact .inr (by omega)
   ·exact .inl ((hW B).2 (.inr e))
  cases hr:(kK (kP to step) ((nd.keys.zip nd.vals).drop (whereN nd fr)) s).1 with
  | true=>
   obtain⟨rfl,rfl⟩:=t5 hr;have hs:kK (kP to step) ((nd.keys.zip nd.vals).drop (whereN nd fr)) s=(true,(kK (kP to step) ((nd.keys.zip nd.vals).drop (whereN nd fr)) s).2):=by rw[<-hr]
   rw[hs];refine⟨_,_, ?_,out true (fun _=>rfl),adw true⟩;have e5':=e5;simp(maxSteps:=999999)(disch:=omega) only[zA1,eZ,hl,hvls,cond_true,b1,e2',hbeg,qL q3,r4,i3.bf.ld,e4,e5,zLw];exact run true
  | false=>
   obtain rfl:=f5 hr;have hs:kK (kP to step) ((nd.keys.zip nd.vals).drop (whereN nd fr)) s=(false,(kK (kP to step) ((nd.keys.zip nd.vals).drop (whereN nd fr)) s).2):=by rw[<-hr]
   rw[hs];refine⟨_,_, ?_,out false (fun h=>by cases h),adw false⟩;simp(maxSteps:=999999)(disch:=omega) only[zA1,eZ,hl,hvls,cond_true,b1,e2',hbeg,qL q3,r4,i3.bf.ld,e4,e5];exact run false
theorem zF0 (A2 Bf Bt By:Nat)(fr to:Str):Cns A2 (M+300000000) N0 encN (wO fr to step) (I2 I N0 A2 Bf Bt By A1 fr to) where
 ok:=fun⟨_,_,hi,_⟩=>c.ok hi.i
 lt:=fun {b x H W} ⟨Wo,bo,hi,hb,gA,hlo,nA,hW⟩ B hB=>by
  have hk:=c.ok hi.i;rcases(hW B).1 hB with e | e | e | e | e
  ·exact c.lt hi.i B e
  ·subst e;exact⟨hk.lt gA,hlo⟩
  ·subst e;exact⟨hi.bf.lt hk,hi.lo.1⟩
  ·subst e;exact⟨hi.bt.lt hk,hi.lo.2.1⟩
  ·subst e;exact⟨hi.by'.lt hk,hi.lo.2.2⟩
 mono:=fun⟨Wo,bo,hi,hb,gA,hlo,nA,hW⟩ h=>⟨Wo,bo,hi.drop c (by omega),hb,gA,hlo,nA,hW⟩
 frame:=fun {b x H H' W S} ⟨Wo,bo,hi,hb,gA,hlo,nA,hW⟩ s hS=>by
  have hk:=c.ok hi.i;refine⟨Wo,bo,hi.frame c s fun B hB=>⟨fun w=>hS B hB ((hW B).2 (.inl w)),fun e=>hS B hB ((hW B).2 (.inr (.inr (.inl e)))),fun e=>hS B hB ((hW B).2 (.inr (.inr (.inr (.inl e))))),fun e=>hS B hB ((hW B).2 (.inr (.inr (.inr (.inr e)))))⟩,hb, ?_,hlo,nA,hW⟩;rw[s.keep _ (hk.lt gA) fun w=>hS A2 w ((hW A2).2 (.inr (.inl rfl)))];exact gA
 run:=fun m hm hi he=>zEZ c m hm hi he
end
open Go.Nd (Ptr yH qP whereN)
open Go.Bt
def Vis (Q:Ptr->Option Nd.Node)(root:Ptr)(fr to:Str)(L:List (Ptr×Nd.Node)):Prop:=
 ((root.at_=0\/(to≠[]/\ltS fr to=false))/\L=[])\/(root.at_≠0/\(to=[]\/ltS fr to=true)/\ ∃h nd,h<=1000000/\Q root=some nd/\Vs Q h nd/\L=wS Q fr to h root nd)
section
variable {σ:Type}{At N0 k M A2 Aw:Nat}{root:Ptr}{Q:Ptr->Option Nd.Node}{G:AH->(Nat->Prop)->Prop}{step:σ->Ptr×Nd.Node->Bool×σ}{I:Nat->Bool×σ->AH->(Nat->Prop)->Prop}{fr to:Str}
variable (r:Rdr At N0 k root Q G)(c:Cns A2 M N0 encN step I)
include r c
theorem zEB (m:Nat)(hm:M+310000000<=m){Xw Xt Xf Xp:Nat}{s:σ}{H:AH}{Wg Wi:Nat->Prop}{left:Nat}{L:List (Ptr×Nd.Node)}(wk:Wk N0 At Aw G I H Wg Wi left left (true,s))(hL:Vis Q root fr to L)(hl:L.length<=left)(hlf:left<=1000000000)
  (bw:Box H Xw (.ptr Aw 0)) (bt:Box H Xt (S to)) (bf:Box H Xf (S fr)) (bp:Box H Xp (.func 41 [] [])):
  ∃H' Wg' Wi' left',f87 (dy m) m [.yieldTo A2, .ptr Xw 0, .ptr Xt 0, .ptr Xf 0, .ptr Xp 0] H=some (.tuple [],H')/\Wk N0 At Aw G I H' Wg' Wi' left' left' (kK step L s)/\Awk Aw Wg Wi H Wg' Wi' H':=by
 have hk:=wk.ok r c;obtain⟨ek,gw⟩:=wk.w;obtain⟨m',rfl⟩: ∃m',m=m'+1:=⟨m - 1,by omega⟩;obtain⟨H1,e1,p1⟩:=r.root (dy (m'+1)) (m'+1) wk.g;obtain⟨H2,A6,b2,p2,g2,m2,n2⟩:=box p1.ok (.cells [.int .i64 ((0:Nat):Int), .int .i64 ((0:Nat):Int), .int .u64 ((0:Nat):Int)] 59 1 false);obtain⟨H3,e3,g3,s3,n3⟩:=yF p2.ok g2 (l':=y6 root) rfl rfl;have e3':stN 3 (.ptr A6 0) (.agg (y6 root)) H2=some (qM,H3):=e3;have N1:=p1.next;have N2:=p2.next;have N3:=s3.next
 have P3:Prs H H3:=(p1.trans p2).fresh s3 fun B hB=>by omega
 have wk3:=wk.prs r c P3;have up: ∀ {A:Nat} {x:AV},Box H A x->Box H3 A x:=fun hb=>hb.mono hk P3 fun x=>x
 have bw3:=up bw;have bt3:=up bt;have bf3:=up bf;have bp3:=up bp;have hS:(AV.str 0 0)=S []:=rfl;have g3':H3.h.get A6=some (.cells [.int .i64 root.at_, .int .i64 root.birth, .int .u64 root.sum] 59 1 false):=g3;have r3:ldN 3 (.ptr A6 0) H3=some (.agg (y6 root)):=by rw[qQ g3];rfl
 have hbx:bxV 59 (.agg [.int .i64 ((0:Nat):Int), .int .i64 ((0:Nat):Int), .int .u64 ((0:Nat):Int)])=some (.cells [.int .i64 ((0:Nat):Int), .int .i64 ((0:Nat):Int), .int .u64 ((0:Nat):Int)] 59 1 false,fun A=> .ptr A 0):=rfl;rcases hL with⟨hL,rfl⟩ | ⟨hr,ht,h,nd,hh,hq,hv,rfl⟩
 ·refine⟨H3,Wg,Wi,left, ?_,by simpa[kK]using wk3,Awk.prs P3⟩;by_cases h0:root.at_=0
  ·have h0': ¬(root.at_≠((0:Nat):Int)):=by simp[h0]
   simp(maxSteps:=999999)(disch:=omega) only[f87,zFl,eZ,bw.ld,qL gw,e1,hbx,b2,e3',qL g3',h0']
  ·have h0':root.at_≠((0:Nat):Int):=by simpa using h0
   obtain⟨ht,hlt⟩:=hL.resolve_left h0;have hne:jW .eql (S to) (S [])=some (.bool false):=by rw[jE];simp[ht]
   have hls:jW .lss (S fr) (S to)=some (.bool false):=by rw[uB,hlt]
   simp(maxSteps:=999999)(disch:=omega) only[f87,zFl,eZ,bw.ld,qL gw,e1,hbx,b2,e3',qL g3',h0',ne_eq,not_false_eq_true,hS,bt3.ld,bf3.ld,hne,hls]
 ·obtain⟨H4,Wg4,Wi4,left4,e4,wk4,a4,_,_⟩:=zD6 r c (fr:=fr) (to:=to) h m' (m'+1) _ _ _ _ _ _ _ (by omega) (by omega) hq hv wk3 hl hlf;refine⟨H4,Wg4,Wi4,left4, ?_,wk4,(Awk.prs P3).trans a4⟩;have h0':root.at_≠((0:Nat):Int):=by simpa using hr
  by_cases hte:to=[]
  ·have hne:jW .eql (S to) (S [])=some (.bool true):=by rw[jE];simp[hte]
   simp(maxSteps:=999999)(disch:=omega) only[f87,zFl,eZ,bw.ld,qL gw,e1,hbx,b2,e3',qL g3',h0',ne_eq,not_false_eq_true,hS,bt3.ld,bf3.ld,bw3.ld,bp3.ld,hne,r3,e4]
  ·have hne:jW .eql (S to) (S [])=some (.bool false):=by rw[jE];simp[hte]
   have hls:jW .lss (S fr) (S to)=some (.bool true):=by rw[uB,ht.resolve_left hte]
   simp(maxSteps:=999999)(disch:=omega) only[f87,zFl,eZ,bw.ld,qL gw,e1,hbx,b2,e3',qL g3',h0',ne_eq,not_false_eq_true,hS,bt3.ld,bf3.ld,bw3.ld,bp3.ld,hne,hls,r3,e4]
end
section
variable {σ:Type}{At N0 k M A1 Aw:Nat}{root:Ptr}{Q:Ptr->Option Nd.Node}{G:AH->(Nat->Prop)->Prop}{step:σ->Str×Str->Bool×σ}{I:Nat->Bool×σ->AH->(Nat->Prop)->Prop}{fr to:Str}
variable (r:Rdr At N0 k root Q G)(c:Cns A1 M N0 encP step I)
include r c
set_option maxRecDepth 100000 in
theorem zEp (m:Nat)(hm:M+620000000<=m){Xw Xf Xt Xp:Nat}{s:σ}{H:AH}{Wg Wo:Nat->Prop}{left ek:Nat}{L:List (Ptr×Nd.Node)}(hg:G H Wg)(hi:I (500*left) (true,s) H Wo)(gw:H.h.get Aw=some (.cells [.ptr At 0, .nilMap, .int .i64 ((left:Nat):Int), .int .i64 ((0:Nat):Int)] ek 1 false))(hlo:N0<=Aw)(ng: ¬Wg Aw)(ni: ¬Wo Aw)(sep: ∀B,Wo B-> ¬Wg B)
  (hL:Vis Q root fr to L) (hl:L.length<=left) (hlf:left<=1000000000)
  (bw:Box H Xw (.ptr Aw 0)) (bf:Box H Xf (S fr)) (bt:Box H Xt (S to)) (bp:Box H Xp (.func 41 [] [])) (hx:N0<=Xf/\N0<=Xt/\ ¬Wo Xf/\ ¬Wo Xt/\ ¬Wg Xf/\ ¬Wg Xt):
  ∃H' Wg' Wo' bo left' ek',f63 (dy m) m [.yieldTo A1, .ptr Xw 0, .ptr Xf 0, .ptr Xt 0, .ptr Xp 0] H=some (.tuple [],H')/\G H' Wg'/\I (500*left') (bo,(kK (wO fr to step) L s).2) H' Wo'/\
   H'.h.get Aw=some (.cells [.ptr At 0, .nilMap, .int .i64 ((left':Nat):Int), .int .i64 ((0:Nat):Int)] ek' 1 false)/\Stp (fun B=>Wg B\/Wo B\/B=Aw\/B=Xf\/B=Xt) H H'/\(∀B,Wg' B->Wg B\/H.next<=B)/\(∀B,Wo' B->Wo B\/H.next<=B):=by
 have hk:=r.ok hg;have lw:=hk.lt gw;obtain⟨H1,A5,b1,p1,g1,m1,n1⟩:=box hk (.cells [.yieldTo A1] 114 1 false);have N1:=p1.next
 have up: ∀ {H':AH} {A:Nat} {x:AV},Prs H H'->Box H A x->Box H' A x:=fun P hb=>hb.mono hk P fun x=>x
 obtain⟨H2,B4,c4,p2,g2,m2,n2⟩:=box p1.ok (.cells [.ptr Aw 0] 79 1 false);obtain⟨H3,B5,c5,p3,g3,m3,n3⟩:=box p2.ok (.cells [S fr] 9 1 false);obtain⟨H4,B6,c6,p4,g4,m4,n4⟩:=box p3.ok (.cells [S to] 9 1 false);obtain⟨H5,B7,c7,p5,g5,m5,n5⟩:=box p4.ok (.cells [.func 41 [] []] 84 1 false);have N2:=p2.next;have N3:=p3.next;have N4:=p4.next;have N5:=p5.next
 have p6:Prs H5 (H5.push (.loop (lpP true Xf Xt A5))):=(Stp.refl p5.ok).push _;have g6:(H5.push (.loop (lpP true Xf Xt A5))).h.get H5.next=some (.loop (lpP true Xf Xt A5)):=AH.push_get_eq _ _
 have hnew: ∀K:Nat->AH->Rs,XO H5 (.loop ⟨.ready,none,63,0,[2,3,5],[.ptr Xf 0, .ptr Xt 0, .ptr A5 0]⟩) K=K H5.next (H5.push (.loop (lpP true Xf Xt A5))):=fun K=>dK p5.ok _ K
 have hnx:(H5.push (.loop (lpP true Xf Xt A5))).next=H5.next+1:=rfl
 generalize H5.push (.loop (lpP true Xf Xt A5))=H6 at p6 g6 hnew hnx;obtain⟨A2,hA2⟩: ∃A2,A2=H5.next:=⟨_,rfl⟩
 rw[<-hA2]at g6 hnew;have P15:Prs H1 H5:=((p2.trans p3).trans p4).trans p5;have P6:Prs H H6:=(p1.trans P15).trans p6;have lWo: ∀B,Wo B->B<H.next/\N0<=B:=fun B hB=>c.lt hi B hB
 have lWg: ∀B,Wg B->B<H.next:=fun B hB=>r.lt hg B hB
 have lX:Xf<H.next/\Xt<H.next:=⟨bf.lt hk,bt.lt hk⟩
 have in2:Inn2 I N0 Xf Xt A5 A1 fr to (500*left) true s H6 Wo:=⟨c.frame hi P6 fun _ x=>x.elim,up P6 bf,up P6 bt,⟨_,Prs.get (P15.trans p6) p1.ok g1⟩,⟨hx.1,hx.2.1,by omega⟩,⟨hx.2.2.1,hx.2.2.2.1,fun w=>by have:=lWo _ w;omega⟩⟩;have i2:I2 I N0 A2 Xf Xt A5 A1 fr to left (true,s) H6 (fun B=>Wo B\/zH8 A2 Xf Xt A5 B):=⟨Wo,true,in2,fun _=>rfl,g6,by omega,fun w=>by have:=lWo _ w;omega,fun B=>Iff.rfl⟩;have fAw: ∀B:Nat,zH8 A2 Xf Xt A5 B->B≠Aw:=fun B hB e=>by
  rcases hB with e' | e' | e' | e'
  ·omega
  ·obtain⟨_,hb⟩:=bf;rw[<-e',e,gw]at hb;simp at hb
  ·obtain⟨_,hb⟩:=bt;rw[<-e',e,gw]at hb;simp at hb
  ·omega
 have wk:Wk N0 At Aw G (I2 I N0 A2 Xf Xt A5 A1 fr to) H6 Wg (fun B=>Wo B\/zH8 A2 Xf Xt A5 B) left left (true,s):=⟨r.frame hg P6 fun _ x=>x.elim,i2,⟨_,Prs.get P6 hk gw⟩,hlo,ng,fun w=>by
   rcases w with w | w
   ·exact ni w
   ·exact fAw _ w rfl,fun B hB w=>by
   have:=lWg B w;rcases hB with e | e | e | e | e
   ·exact sep B e w
   ·omega
   ·subst e;exact hx.2.2.2.2.1 w
   ·subst e;exact hx.2.2.2.2.2 w
   ·omega⟩
 obtain⟨m',rfl⟩: ∃m',m=m'+1:=⟨m - 1,by omega⟩;obtain⟨H7,Wg7,Wi7,l7,e7,wk7,a7⟩:=zEB r (zF0 c A2 Xf Xt A5 fr to) m' (by omega) wk hL hl hlf (Xw:=B4) (Xt:=B6) (Xf:=B5) (Xp:=B7) ⟨_,Prs.get ((p3.trans p4).trans (p5.trans p6)) p2.ok g2⟩ ⟨_,Prs.get (p5.trans p6) p4.ok g4⟩ ⟨_,Prs.get (p4.trans (p5.trans p6)) p3.ok g3⟩ ⟨_,Prs.get p6 p5.ok g5⟩;obtain⟨Wo7,bo,in7,_,gA7,_,nA7,hW7⟩:=wk7.i;obtain⟨ew7,gw7⟩:=wk7.w;have hk7:=r.ok wk7.g;have N7:=a7.s.next
 have N6:=p6.next
 have s8:Stp (fun B=>B=A2) H7 (H7.put A2 .dead):=(Stp.refl hk7).put (hk7.lt gA7) _ (.inr rfl);have hend: ∀K:Option Code->AH->Rs,fK A2 H7 K=K (lpP (kK (wO fr to step) L s).1 Xf Xt A5).pending (H7.put A2 .dead):=fun K=>by
  cases hb:(kK (wO fr to step) L s).1<;>rw[hb]at gA7<;>simp only[fK,gA7,lpP,cond_true,cond_false,yY]
 refine⟨H7.put A2 .dead,Wg7,Wo7,bo,l7,ew7, ?_,r.frame wk7.g s8 (fun B hB=>by subst hB;exact⟨by have:=r.lt hg;omega,fun w=>wk7.sep _ ((hW7 _).2 (.inr (.inl rfl))) w⟩),c.frame in7.i s8 (fun B hB=>by subst hB;exact nA7),by rw[s8.keep _ (hk7.lt gw7) (by omega)];exact gw7, ?_,fun B hB=> ?_,fun B hB=> ?_⟩
 ·have hrf:rfC (s63 (dy (m'+1)) (m'+1)).S (dy (m'+1)) (.func 87 [] [.ptr B4 0, .ptr B6 0, .ptr B5 0, .ptr B7 0]) A2 H6=some (.tuple [],H7):=e7;have hf:f64 (dy (m'+1)) (m'+1) [.ptr Aw 0,S fr,S to, .func 41 [] []] H1=some (.func 87 [] [.ptr B4 0, .ptr B6 0, .ptr B5 0, .ptr B7 0],H5):=by
   have x1:qT (.ptr Aw 0)=[.ptr Aw 0]:=rfl;have x2: ∀a,qT (S a)=[S a]:=fun _=>rfl
   have x3:qT (.func 41 [] [])=[.func 41 [] []]:=rfl;simp only[f64,eZ,x1,x2,x3,c4,c5,c6,c7]
  have x0:qT (.yieldTo A1)=[.yieldTo A1]:=rfl;have u1: ∀ {A:Nat} {x:AV},Box H A x->ld1 (.ptr A 0) H1=some x:=fun hb=>(up p1 hb).ld
  simp(maxSteps:=999999)(disch:=omega) only[f63,eZ,x0,b1,u1 bw,u1 bf,u1 bt,u1 bp,hf,hnew,hrf,hend]
  cases(kK (wO fr to step) L s).1<;>rfl
 ·refine⟨s8.ok,by have:=s8.next;omega,fun B hB hS=> ?_⟩
  rw[s8.keep B (by omega) (by omega),a7.s.keep B (by omega) (fun w=> ?_),P6.keep B hB fun x=>x];rcases w with w | (w | w | w | w | w) | w
  ·exact hS (.inl w)
  ·exact hS (.inr (.inl w))
  ·omega
  ·exact hS (.inr (.inr (.inr (.inl w))))
  ·exact hS (.inr (.inr (.inr (.inr w))))
  ·omega
  ·exact hS (.inr (.inr (.inl w)))
 ·exact(a7.g B hB).imp id fun e=>by omega
 ·rcases a7.i B ((hW7 B).2 (.inl hB))with(e | e | e | e | e) | e
  ·exact .inl e
  ·exact .inr (by omega)
  ·subst e;exact absurd hB in7.nw.1
  ·subst e;exact absurd hB in7.nw.2.1
  ·exact .inr (by omega)
  ·exact .inr (by omega)
end
open Go.Nd (Ptr yH qP Kvs)
open Go.Bt
def lpR (b:Bool)(Bm Bl Bb:Nat):ALoop:=⟨bif b then .ready else .done,bif b then none else some (.exit 0),16,0,[7,12,13],[.ptr Bm 0, .ptr Bl 0, .ptr Bb 0]⟩
def gJ (most:Nat)(s:Kvs×Bool)(x:Str×Str):Bool×(Kvs×Bool):=bif Nat.beq s.1.length most then(false,(s.1,true))else(true,(s.1++[x],s.2))
structure IR (N0 A1 most Bm Bl Bb:Nat)(b:Nat)(x:Bool×(Kvs×Bool))(H:AH)(W:Nat->Prop):Prop where
 ok:H.ok
 gA:H.h.get A1=some (.loop (lpR x.1 Bm Bl Bb))
 bm:Box H Bm (.int .i64 ((most:Nat):Int))
 bb:Box H Bb (.bool x.2.2)
 bl: ∃v,Box H Bl v/\j7 2 50 H v x.2.1.length (x.2.1.flatMap prV)/\ ¬Blk v A1/\ ¬Blk v Bm/\ ¬Blk v Bl/\ ¬Blk v Bb/\(∀B,Blk v B->N0<=B)/\ ∀B,W B↔(zH8 A1 Bm Bl Bb B\/Blk v B)
 lo:N0<=A1/\N0<=Bm/\N0<=Bl/\N0<=Bb
 ne:Bm≠Bl/\Bm≠Bb/\Bl≠Bb
 few:x.2.1.length+b<=900000000
theorem zIY (m:Nat){H:AH}{A1 Bm Bl Bb:Nat}(gA:H.h.get A1=some (.loop (lpR true Bm Bl Bb)))(az:List AV):(dy (m+1)).yld A1 az H=zCp (dy m) m A1 (lpR true Bm Bl Bb) az H:=by
 show cT (tabR (dy m) m) A1 az H=_;simp only[cT,gA];rfl
theorem uO {H:AH}{A B:Nat}{o:ALoop}{v:AV}(g:H.h.get A=some (.loop o))(b:Box H B v):A≠B:=fun e=>by
 obtain⟨_,hb⟩:=b;rw[<-e,g]at hb;cases hb
theorem zE8 {N0 A1 most Bm Bl Bb:Nat}{b:Nat}{s:Kvs×Bool}{a:Str×Str}{az:List AV}{H:AH}{W:Nat->Prop}(m:Nat)(hi:IR N0 A1 most Bm Bl Bb (b+1) (true,s) H W)(he:encP H W a az)(hmo:0<=most):
  ∃H' W',(dy (m+1)).yld A1 az H=some (.bool (gJ most s a).1,H')/\IR N0 A1 most Bm Bl Bb b (gJ most s a) H' W'/\Adw W H W' H':=by
 obtain⟨hk,gA,bm,bb,⟨v,bl,gv,v1,v2,v3,v4,v5,hW⟩,hlo,hne,hf⟩:=hi;obtain rfl:az=[.agg [S a.1,S a.2]]:=he;obtain⟨l,mo⟩:=s;simp only at gA bb gv hf⊢;rw[zIY m gA];have lA:=hk.lt gA;have lm:=bm.lt hk;have lb:=bb.lt hk;have ll:=bl.lt hk;have nA:A1≠Bm/\A1≠Bl/\A1≠Bb:=⟨uO gA bm,uO gA bl,uO gA bb⟩;obtain⟨H1,A14,b1,p1,g1,m1,n1⟩:=box hk (.cells [S [],S []] 50 1 false);obtain⟨H2,e2,g2,s2,n2⟩:=yF p1.ok g1 (l':=[S a.1,S a.2]) rfl rfl;have e2':stN 2 (.ptr A14 0) (.agg [S a.1,S a.2]) H1=some (qM,H2):=e2;have P2:Prs H H2:=p1.fresh s2 fun B hB=>by omega
 have N1:=p1.next;have N2:=s2.next
 have gA2:=Prs.get P2 hk gA;have hbeg: ∀K:AH->Rs,xV A1 H2 K=K (H2.put A1 (.loop { lpR true Bm Bl Bb with state:= .busy})):=fun K=>by
  simp only[xV,gA2,lpR,cond_true,yY]
 have s3:Stp (fun B=>B=A1) H2 (H2.put A1 (.loop { lpR true Bm Bl Bb with state:= .busy})):=(Stp.refl s2.ok).put (s2.ok.lt gA2) _ (.inr rfl);have g3:(H2.put A1 (.loop { lpR true Bm Bl Bb with state:= .busy})).h.get A1=some (.loop { lpR true Bm Bl Bb with state:= .busy}):=by rw[AH.put_get,if_pos rfl]
 generalize H2.put A1 (.loop { lpR true Bm Bl Bb with state:= .busy})=H3 at s3 g3 hbeg;have N3:=s3.next
 have up: ∀ {B:Nat} {x:AV},Box H B x->A1≠B->Box H3 B x:=fun hb hn=>(hb.mono hk P2 fun x=>x).mono P2.ok s3 (fun e=>hn e.symm)
 have bm3:=up bm nA.1;have bl3:=up bl nA.2.1;have bb3:=up bb nA.2.2;have gv3:j7 2 50 H3 v l.length (l.flatMap prV):=(gv.mono P2 (fun _ _ x=>x)).mono s3 fun B hB e=>v1 (e▸hB)
 have q3:H3.h.get A14=some (.cells [S a.1,S a.2] 50 1 false):=by rw[s3.keep _ (by omega) (by omega)];exact g2
 have hl:aZ [7,12,13] (lpR true Bm Bl Bb).live=true:=rfl;have hvls:(lpR true Bm Bl Bb).vals=[.ptr Bm 0, .ptr Bl 0, .ptr Bb 0]:=rfl;have hS:(AV.str 0 0)=S []:=rfl;have hbx:bxV 50 (.agg [S [],S []])=some (.cells [S [],S []] 50 1 false,fun A=> .ptr A 0):=rfl;have hln:lnSl v=some (.int .i64 ((l.length:Nat):Int)):=gv.row.lnSl;by_cases hfull:l.length=most
 ·have hst:gJ most (l,mo) a=(false,(l,true)):=by simp only[gJ,show Nat.beq l.length most=true by rw[Nat.beq_eq];exact hfull,cond_true]
  rw[hst];obtain⟨H4,e4,b4,s4⟩:=bb3.st s3.ok (x:= .bool true) rfl;have N4:=s4.next
  have g4:H4.h.get A1=some (.loop { lpR true Bm Bl Bb with state:= .busy}):=by rw[s4.keep _ (by omega) (by omega)];exact g3
  have s5:Stp (fun B=>B=A1) H4 (H4.put A1 (.loop (lpR false Bm Bl Bb))):=(Stp.refl s4.ok).put (s4.ok.lt g4) _ (.inr rfl);have hend:YQ A1 (some (.exit 0)) H4=some (.bool false,H4.put A1 (.loop (lpR false Bm Bl Bb))):=by simp only[YQ,g4,yY,lpR,cond_false]
  have up5: ∀ {B:Nat} {x:AV},Box H3 B x->A1≠B->Bb≠B->Box (H4.put A1 (.loop (lpR false Bm Bl Bb))) B x:=fun hb h1 h2=>(hb.mono s3.ok s4 fun e=>h2 e.symm).mono s4.ok s5 fun e=>h1 e.symm
  refine⟨H4.put A1 (.loop (lpR false Bm Bl Bb)),W, ?_,⟨s5.ok,by rw[AH.put_get,if_pos rfl],up5 bm3 nA.1 (Ne.symm hne.2.1),b4.mono s4.ok s5 (Ne.symm nA.2.2),⟨v,up5 bl3 nA.2.1 (Ne.symm hne.2.2),(gv3.mono s4 fun B hB e=>v4 (e▸hB)).mono s5 fun B hB e=>v1 (e▸hB),v1,v2,v3,v4,v5,hW⟩,hlo,hne,by simp only;omega⟩,⟨(((Prs.stp P2).trans (s3.mono fun B _ hB=>(hW B).2 (.inl (.inl hB)))).trans (s4.mono fun B _ hB=>(hW B).2 (.inl (.inr (.inr (.inr hB)))))).trans (s5.mono fun B _ hB=>(hW B).2 (.inl (.inl hB))),fun B hB=> .inl hB⟩⟩;have heq:((l.length:Nat):Int)=((most:Nat):Int):=by omega
  simp(maxSteps:=999999)(disch:=omega) only[zCp,eZ,hl,hvls,cond_true,hS,hbx,b1,e2',hbeg,bl3.ld,hln,bm3.ld,heq,e4];exact hend
 ·have hst:gJ most (l,mo) a=(true,(l++[a],mo)):=by
   have:Nat.beq l.length most=false:=by
    cases hb:Nat.beq l.length most with
    | false=>rfl
    | true=>exact absurd (Nat.eq_of_beq_eq_true hb) hfull
   simp only[gJ,this,cond_false]
  rw[hst];obtain⟨H4,A15,b4,p4,g4,m4,n4⟩:=box s3.ok (.cells [S a.1,S a.2] 50 2 false);have hsrc:srcOf 2 (.slice A15 0 1 2) H4=some (1,[S a.1,S a.2]):=by simp only[srcOf,g4];rfl
  obtain⟨v',H5,e5,gv5,s5,f5⟩:=(gv3.mono p4 (fun _ _ x=>x)).app (bytes:=32) (m:=1) (new:=[S a.1,S a.2]) p4.ok (by decide) hsrc rfl rfl (by omega) (by decide);have N4:=p4.next;have N5:=s5.next
  have bl5:Box H5 Bl v:=(bl3.mono s3.ok p4 fun x=>x).mono p4.ok s5 v3;obtain⟨H6,e6,b6,s6⟩:=bl5.st s5.ok (x:=v') gv5.isCell;have N6:=s6.next
  have g6:H6.h.get A1=some (.loop { lpR true Bm Bl Bb with state:= .busy}):=by rw[s6.keep _ (by omega) (by omega),s5.keep _ (by omega) v1,p4.keep _ (by omega) (fun x=>x)];exact g3
  have s7:Stp (fun B=>B=A1) H6 (H6.put A1 (.loop (lpR true Bm Bl Bb))):=(Stp.refl s6.ok).put (s6.ok.lt g6) _ (.inr rfl);have hend:YQ A1 none H6=some (.bool true,H6.put A1 (.loop (lpR true Bm Bl Bb))):=by simp only[YQ,g6,yY,lpR,cond_true]
  have up7: ∀ {B:Nat} {x:AV},Box H3 B x->A1≠B->Bl≠B-> ¬Blk v B->Box (H6.put A1 (.loop (lpR true Bm Bl Bb))) B x:=fun hb h1 h2 h3=>(((hb.mono s3.ok p4 fun x=>x).mono p4.ok s5 h3).mono s5.ok s6 fun e=>h2 e.symm).mono s6.ok s7 fun e=>h1 e.symm
  have nb: ∀ {B:Nat},¬Blk v B->B<H.next-> ¬Blk v' B:=fun h1 h2 hB=>by
   rcases f5 _ hB with e | e
   ·exact h1 e
   ·omega
  have fl:(l++[a]).flatMap prV=l.flatMap prV++[S a.1,S a.2]:=by simp[zZ,prV]
  refine⟨H6.put A1 (.loop (lpR true Bm Bl Bb)),fun B=>zH8 A1 Bm Bl Bb B\/Blk v' B, ?_,⟨s7.ok,by rw[AH.put_get,if_pos rfl],up7 bm3 nA.1 (Ne.symm hne.1) v2,up7 bb3 nA.2.2 hne.2.2 v4,⟨v',b6.mono s6.ok s7 (Ne.symm nA.2.1), ?_,nb v1 lA,nb v2 lm,nb v3 ll,nb v4 lb,fun B hB=> ?_,fun B=>Iff.rfl⟩,hlo,hne,by simp only[zI,qE];omega⟩,⟨?_,fun B hB=> ?_⟩⟩
  ·have hneq: ¬((l.length:Nat):Int)=((most:Nat):Int):=by omega
   have r3:ldN 2 (.ptr A14 0) H3=some (.agg [S a.1,S a.2]):=by rw[qQ q3];rfl
   have bl1:wQ 50 2 1 [S [],S []] [(0, .agg [S a.1,S a.2])]=some (.cells [S a.1,S a.2] 50 2 false,fun A=> .slice A 0 1 2):=rfl;simp(maxSteps:=999999)(disch:=omega) only[zCp,eZ,hl,hvls,cond_true,hS,hbx,b1,e2',hbeg,bl3.ld,hln,bm3.ld,hneq,r3,bl1,b4,e5,e6];exact hend
  ·simp only[fl,zI,qE];exact(gv5.mono s6 fun B hB e=>nb v3 ll (e▸hB)).mono s7 fun B hB e=>nb v1 lA (e▸hB)
  ·rcases f5 B hB with e | e
   ·exact v5 B e
   ·omega
  ·exact(((((Prs.stp P2).trans (s3.mono fun B _ hB=>(hW B).2 (.inl (.inl hB)))).trans p4.stp).trans (s5.mono fun B _ hB=>(hW B).2 (.inr hB))).trans (s6.mono fun B _ hB=>(hW B).2 (.inl (.inr (.inr (.inl hB)))))).trans (s7.mono fun B _ hB=>(hW B).2 (.inl (.inl hB)))
  ·rcases hB with e | e
   ·exact .inl ((hW B).2 (.inl e))
   ·rcases f5 B e with e | e
    ·exact .inl ((hW B).2 (.inr e))
    ·exact .inr (by omega)
theorem zE9 (N0 A1 most Bm Bl Bb:Nat)(hmo:0<=most):Cns A1 0 N0 encP (gJ most) (IR N0 A1 most Bm Bl Bb) where
 ok:=fun h=>h.ok
 lt:=fun {b x H W} h B hB=>by
  obtain⟨v,bl,gv,v1,v2,v3,v4,v5,hW⟩:=h.bl;rcases(hW B).1 hB with(e | e | e | e) | e
  ·subst e;exact⟨h.ok.lt h.gA,h.lo.1⟩
  ·subst e;exact⟨h.bm.lt h.ok,h.lo.2.1⟩
  ·subst e;exact⟨bl.lt h.ok,h.lo.2.2.1⟩
  ·subst e;exact⟨h.bb.lt h.ok,h.lo.2.2.2⟩
  ·exact⟨gv.lt e,v5 B e⟩
 mono:=fun h hb=>⟨h.ok,h.gA,h.bm,h.bb,h.bl,h.lo,h.ne,by have:=h.few;omega⟩
 frame:=fun {b x H H' W S} h s hS=>by
  obtain⟨v,bl,gv,v1,v2,v3,v4,v5,hW⟩:=h.bl;have n: ∀ {B:Nat},zH8 A1 Bm Bl Bb B-> ¬S B:=fun ho hs=>hS _ hs ((hW _).2 (.inl ho))
  exact⟨s.ok,by rw[s.keep _ (h.ok.lt h.gA) (n (.inl rfl))];exact h.gA,h.bm.mono h.ok s (n (.inr (.inl rfl))),h.bb.mono h.ok s (n (.inr (.inr (.inr rfl)))),⟨v,bl.mono h.ok s (n (.inr (.inr (.inl rfl)))),gv.mono s fun B hB hs=>hS B hs ((hW B).2 (.inr hB)),v1,v2,v3,v4,v5,hW⟩,h.lo,h.ne,h.few⟩
 run:=fun m _ hi he=>zE8 m hi he hmo
set_option maxRecDepth 100000 in
theorem zEb {At N0 k:Nat}{root:Ptr}{Q:Ptr->Option Nd.Node}{G:AH->(Nat->Prop)->Prop}(r:Rdr At N0 k root Q G)(m:Nat)(hm:700000000<=m){fr to:Str}{most:Nat}{H:AH}{Wg:Nat->Prop}{L:List (Ptr×Nd.Node)}(hg:G H Wg)(hN0:N0<=H.next)(hmo:0<=most)(hL:Vis Q root fr to L)(hl:L.length<=8192+k)(hk9:k<=1000000):
  ∃H' Wg' v,f16 (dy (m+1)) (m+1) [.ptr At 0,S fr,S to, .int .i64 ((most:Nat):Int)] H=some (.tuple [v, .bool (kK (wO fr to (gJ most)) L ([],false)).2.2, .int .i64 ((0:Nat):Int)],H')/\G H' Wg'/\Stp Wg H H'/\(∀B,Wg' B->Wg B\/H.next<=B)/\
   j7 2 50 H' v (kK (wO fr to (gJ most)) L ([],false)).2.1.length ((kK (wO fr to (gJ most)) L ([],false)).2.1.flatMap prV)/\ ∀B,Blk v B->H.next<=B:=by
 have hk:=r.ok hg;obtain⟨left,hleft⟩: ∃left,left=8192+k:=⟨_,rfl⟩;obtain⟨H1,Bm,b1,p1,g1,m1,n1⟩:=box hk (.cells [.int .i64 ((most:Nat):Int)] 3 1 false);have G1:=r.prs hg p1;have ed:=r.dirty (dy (m+1)) (m+1) G1;obtain⟨H2,Aw,b2,p2,g2,m2,n2⟩:=box p1.ok (.cells [.ptr At 0, .nilMap, .int .i64 ((left:Nat):Int), .int .i64 ((0:Nat):Int)] 87 1 false);obtain⟨H3,Bl,b3,p3,g3,m3,n3⟩:=box p2.ok (.cells [.nilSlice] 27 1 false);obtain⟨H4,Bb,b4,p4,g4,m4,n4⟩:=box p3.ok (.cells [.bool false] 4 1 false);obtain⟨H5,e5,g5,s5,n5⟩:=yF p4.ok g4 (l':=[.bool false]) rfl rfl;have e5':stN 1 (.ptr Bb 0) (.bool false) H4=some (qM,H5):=by
  obtain⟨H5',e,_⟩:=(show Box H4 Bb (.bool false)from⟨_,g4⟩).st p4.ok (x:= .bool false) rfl;have:=e5;rw[show stN [AV.bool false].length (.ptr Bb 0) (.agg [.bool false]) H4=stN 1 (.ptr Bb 0) (.bool false) H4 from rfl]at this;exact this
 obtain⟨H6,X4,c4,p6,g6,m6,n6⟩:=box s5.ok (.cells [.ptr Aw 0] 79 1 false);obtain⟨H7,X5,c5,p7,g7,m7,n7⟩:=box p6.ok (.cells [S fr] 9 1 false);obtain⟨H8,X6,c6,p8,g8,m8,n8⟩:=box p7.ok (.cells [S to] 9 1 false);obtain⟨H9,X7,c7,p9,g9,m9,n9⟩:=box p8.ok (.cells [.func 41 [] []] 84 1 false);have N1:=p1.next;have N2:=p2.next;have N3:=p3.next;have N4:=p4.next;have N5:=s5.next;have N6:=p6.next;have N7:=p7.next;have N8:=p8.next;have N9:=p9.next
 have p10:Prs H9 (H9.push (.loop (lpR true Bm Bl Bb))):=(Stp.refl p9.ok).push _;have g10:(H9.push (.loop (lpR true Bm Bl Bb))).h.get H9.next=some (.loop (lpR true Bm Bl Bb)):=AH.push_get_eq _ _
 have hnew: ∀K:Nat->AH->Rs,XO H9 (.loop ⟨.ready,none,16,0,[7,12,13],[.ptr Bm 0, .ptr Bl 0, .ptr Bb 0]⟩) K=K H9.next (H9.push (.loop (lpR true Bm Bl Bb))):=fun K=>dK p9.ok _ K
 have hnx:(H9.push (.loop (lpR true Bm Bl Bb))).next=H9.next+1:=rfl
 generalize H9.push (.loop (lpR true Bm Bl Bb))=H10 at p10 g10 hnew hnx;obtain⟨A1,hA1⟩: ∃A1,A1=H9.next:=⟨_,rfl⟩
 rw[<-hA1]at g10 hnew;have N10:=p10.next
 have P69:Prs H5 H9:=((p6.trans p7).trans p8).trans p9;have P510:Prs H5 H10:=P69.trans p10;have P4:Prs H H4:=((p1.trans p2).trans p3).trans p4;have P5:Prs H H5:=P4.fresh s5 fun B hB=>by omega
 have P10:Prs H H10:=P5.trans P510;have bm10:Box H10 Bm (.int .i64 ((most:Nat):Int)):=⟨_,Prs.get P510 s5.ok (by rw[s5.keep _ (by omega) (by omega)];exact Prs.get ((p2.trans p3).trans p4) p1.ok g1)⟩;have gw5:H5.h.get Aw=some (.cells [.ptr At 0, .nilMap, .int .i64 ((left:Nat):Int), .int .i64 ((0:Nat):Int)] 87 1 false):=by rw[s5.keep _ (by omega) (by omega)];exact Prs.get (p3.trans p4) p2.ok g2
 have gw10:=Prs.get P510 s5.ok gw5;have bl10:Box H10 Bl .nilSlice:=⟨_,Prs.get P510 s5.ok (by rw[s5.keep _ (by omega) (by omega)];exact Prs.get p4 p3.ok g3)⟩;have bb10:Box H10 Bb (.bool false):=⟨_,Prs.get P510 s5.ok g5⟩;have lWg: ∀B,Wg B->B<H.next:=fun B hB=>r.lt hg B hB
 have nilB: ∀B,¬Blk .nilSlice B:=fun B hB=>Blk.nil.1 hB
 have i10:IR N0 A1 most Bm Bl Bb (500*left) (true,([],false)) H10 (zH8 A1 Bm Bl Bb):=⟨p10.ok,g10,bm10,bb10,⟨.nilSlice,bl10, .inl (Own.nil ..),nilB _,nilB _,nilB _,nilB _,fun B hB=>(nilB B hB).elim,fun B=>⟨fun h=> .inl h,fun h=>h.elim id fun h=>(nilB B h).elim⟩⟩,by omega,⟨by omega,by omega,by omega⟩,by simp;omega⟩;obtain⟨H11,Wg',Wo',bo,left',ek',e11,G11,i11,gw11,s11,a11,o11⟩:=zEp r (zE9 N0 A1 most Bm Bl Bb (by omega)) m (by omega) (Xw:=X4) (Xf:=X5) (Xt:=X6) (Xp:=X7) (r.prs hg P10) i10 gw10 (by omega) (fun w=>by have:=lWg _ w;omega) (fun w=>by rcases w with w | w | w | w<;>omega) (fun B hB w=>by have:=lWg _ w;rcases hB with w | w | w | w<;>omega) hL (by omega) (by omega)
  ⟨_,Prs.get (((p7.trans p8).trans p9).trans p10) p6.ok g6⟩ ⟨_,Prs.get ((p8.trans p9).trans p10) p7.ok g7⟩ ⟨_,Prs.get (p9.trans p10) p8.ok g8⟩ ⟨_,Prs.get p10 p9.ok g9⟩ ⟨by omega,by omega,fun w=>by rcases w with w | w | w | w<;>omega,fun w=>by rcases w with w | w | w | w<;>omega,fun w=>by have:=lWg _ w;omega,fun w=>by have:=lWg _ w;omega⟩
 obtain⟨v,bl11,gv,v1,v2,v3,v4,v5,hW⟩:=i11.bl;have N11:=s11.next
 have bb11:=i11.bb;have gA11:=i11.gA;simp only at bb11 gA11 gv;have nA:A1≠Bl/\A1≠Bb:=⟨uO gA11 bl11,uO gA11 bb11⟩;have s12:Stp (fun B=>B=A1) H11 (H11.put A1 .dead):=(Stp.refl i11.ok).put (i11.ok.lt gA11) _ (.inr rfl);have hend: ∀K:Option Code->AH->Rs,fK A1 H11 K=K (lpR bo Bm Bl Bb).pending (H11.put A1 .dead):=fun K=>by
  cases bo<;>simp only[fK,gA11,lpR,cond_true,cond_false,yY]
 have nWg: ¬Wg' A1:=fun w=>by
  rcases a11 _ w with w | w
  ·have:=lWg _ w;omega
  ·omega
 have bl12:=bl11.mono i11.ok s12 (fun e=>nA.1 e.symm);have bb12:=bb11.mono i11.ok s12 (fun e=>nA.2 e.symm);have gw12:(H11.put A1 .dead).h.get Aw=some (.cells [.ptr At 0, .nilMap, .int .i64 ((left':Nat):Int), .int .i64 ((0:Nat):Int)] ek' 1 false):=by rw[s12.keep _ (i11.ok.lt gw11) (by omega)];exact gw11
 refine⟨H11.put A1 .dead,Wg',v, ?_,r.frame G11 s12 (fun B hB=>by subst hB;exact⟨by omega,nWg⟩), ?_,fun B hB=>(a11 B hB).imp id fun e=>by omega,gv.mono s12 fun B hB e=>v1 (e▸hB),fun B hB=> ?_⟩
 ·have hrf:rfC (s16 (dy (m+1)) (m+1)).S (dy (m+1)) (.func 63 [] [.ptr X4 0, .ptr X5 0, .ptr X6 0, .ptr X7 0]) A1 H10=some (.tuple [],H11):=e11;have x1:qT (.ptr Aw 0)=[.ptr Aw 0]:=rfl;have x2: ∀a,qT (S a)=[S a]:=fun _=>rfl
  have x3:qT (.func 41 [] [])=[.func 41 [] []]:=rfl;have x4:qT (.int .i64 ((most:Nat):Int))=[.int .i64 ((most:Nat):Int)]:=rfl;have x5:qT .nilSlice=[.nilSlice]:=rfl;have x6:qT (.bool false)=[.bool false]:=rfl;have hf:f40 (dy (m+1)) (m+1) [.ptr Aw 0,S fr,S to, .func 41 [] []] H5=some (.func 63 [] [.ptr X4 0, .ptr X5 0, .ptr X6 0, .ptr X7 0],H9):=by
   simp only[f40,eZ,x1,x2,x3,c4,c5,c6,c7]
  have hadd:((8192:Nat):Int)+((k:Nat):Int)=((left:Nat):Int):=by omega
  have hbs:wB [(0,1),(1,1),(2,1),(3,1)] [.nilPtr, .nilMap, .int .i64 ((0:Nat):Int), .int .i64 ((0:Nat):Int)] [(0, .ptr At 0),(2, .int .i64 ((left:Nat):Int))]=some (.agg [.ptr At 0, .nilMap, .int .i64 ((left:Nat):Int), .int .i64 ((0:Nat):Int)]):=rfl;have hth:f39 (dy (m+1)) (m+1) [.ptr At 0] H1=some (.ptr Aw 0,H2):=by
   simp(maxSteps:=999999)(disch:=omega) only[f39,eZ,ed,hadd,hbs,b2]
  have r1:ld1 (.ptr Bm 0) H1=some (.int .i64 ((most:Nat):Int)):=by rw[qL g1];rfl
  have hneg: ¬((most:Nat):Int)< ((0:Nat):Int):=by omega
  have t00: ¬(((0:Nat):Int)≠((0:Nat):Int)):=by omega
  cases bo<;>simp(maxSteps:=999999)(disch:=omega) only[f16,zOa,eZ,cq,x4,b1,r1,hneg,hth,x5,b3,x6,b4,e5',hf,hnew,hrf,hend,lpR,cond_true,cond_false,zH9,Nat.beq_refl,qL gw12,t00,bl12.ld,bb12.ld]
 ·refine⟨s12.ok,by have:=s12.next;omega,fun B hB hS=> ?_⟩
  rw[s12.keep B (by omega) (by omega),s11.keep B (by omega) (fun w=> ?_),P10.keep B hB fun x=>x];rcases w with w | (w | w | w | w) | w | w | w
  ·exact hS w
  all_goals omega
 ·rcases o11 B ((hW B).2 (.inr hB))with(e | e | e | e) | e<;>omega
end Go.Eng.Sh
end
section
namespace Go.Dr
open Go.Nd (Str Kvs putP delP lookP Srt mayK)
open Go.Eng (ltS yD yP bC vT uG)
open Go.Bt (inP y8)
theorem u9 (a b:UInt8)(l m:Str):ltS (a::l) (b::m)=(decide (a<b)||(a==b&&ltS l m)):=by
 simp only[ltS,Go.Op.bytesLess]
theorem zBg (a:UInt8)(l m:Str):ltS (a::l) (a::m)=ltS l m:=by
 rw[u9];simp[UInt8.lt_irrefl]
def dig (n:Nat):Nat->Str
 | 0=>[]
 | k+1=>UInt8.ofNat (n / 256 ^ k % 256)::dig n k
theorem vH (n:Nat): ∀k,(dig n k).length=k
 | 0=>rfl
 | k+1=>by simp[dig,vH n k]
def zN1 (a:Nat):Str->Nat
 | []=>a
 | b::l=>zN1 (a*256+b.toNat) l
def num (s:Str):Nat:=zN1 0 s
theorem zBc (n:Nat): ∀(k a:Nat),zN1 a (dig n k)=a*256 ^ k+n % 256 ^ k
 | 0,a=>by simp[dig,zN1,Nat.mod_one]
 | k+1,a=>by
  simp only[dig,zN1];rw[zBc n k,UInt8.toNat_ofNat'];have h1:n % 256 ^ (k+1)=256 ^ k*(n / 256 ^ k % 256)+n % 256 ^ k:=by
   rw[Nat.pow_succ,Nat.mod_mul,Nat.add_comm]
  rw[h1,Nat.pow_succ,Nat.add_mul];have h2:n / 256 ^ k % 256 % 2 ^ 8=n / 256 ^ k % 256:=Nat.mod_eq_of_lt (by have:=Nat.mod_lt (n / 256 ^ k) (show 256>0 by omega);omega);rw[h2,Nat.mul_comm (n / 256 ^ k % 256) (256 ^ k),Nat.mul_assoc a,Nat.mul_comm 256 (256 ^ k),Nat.add_assoc,Nat.pow_succ]
theorem W0 {n k:Nat}(h:n<256 ^ k):num (dig n k)=n:=by
 rw[num,zBc,Nat.mod_eq_of_lt h];simp
theorem zBI (n m:Nat): ∀k,ltS (dig n k) (dig m k)=decide (n % 256 ^ k<m % 256 ^ k)
 | 0=>by simp[dig,ltS,Go.Op.bytesLess,Nat.mod_one]
 | k+1=>by
  simp only[dig];rw[u9,zBI n m k];have e: ∀x:Nat,x % 256 ^ (k+1)=256 ^ k*(x / 256 ^ k % 256)+x % 256 ^ k:=fun x=>by
   rw[Nat.pow_succ,Nat.mod_mul,Nat.add_comm]
  have hp:0<256 ^ k:=Nat.pow_pos (by omega);have hn:=Nat.mod_lt n hp;have hm:=Nat.mod_lt m hp;have hx:=Nat.mod_lt (n / 256 ^ k) (show 256>0 by omega);have hy:=Nat.mod_lt (m / 256 ^ k) (show 256>0 by omega);rw[e n,e m];generalize n / 256 ^ k % 256=x at*
  generalize m / 256 ^ k % 256=y at*
  generalize n % 256 ^ k=u at*
  generalize m % 256 ^ k=v at*
  generalize 256 ^ k=P at*
  have hxy:(UInt8.ofNat x<UInt8.ofNat y)↔x<y:=by
   rw[UInt8.lt_iff_toNat_lt,UInt8.toNat_ofNat',UInt8.toNat_ofNat',Nat.mod_eq_of_lt (by omega),Nat.mod_eq_of_lt (by omega)]
  have hxe:(UInt8.ofNat x==UInt8.ofNat y)=decide (x=y):=by
   rw[Bool.eq_iff_iff,beq_iff_eq,zF];constructor
   ·intro h;have:=congrArg UInt8.toNat h;rw[UInt8.toNat_ofNat',UInt8.toNat_ofNat',Nat.mod_eq_of_lt (by omega),Nat.mod_eq_of_lt (by omega)]at this;exact this
   ·rintro rfl;rfl
  rw[Bool.eq_iff_iff,hxe];simp only[Bool.or_eq_true,z8,zF,hxy];rcases Nat.lt_trichotomy x y with h | h | h
  ·have:P*x+P<=P*y:=by rw[<-Nat.mul_succ];exact Nat.mul_le_mul_left _ h
   constructor
   ·intro _;omega
   ·intro _;exact .inl h
  ·subst h;constructor
   ·rintro(h | ⟨_,h⟩)<;>omega
   ·intro h;exact .inr ⟨rfl,by omega⟩
  ·have:P*y+P<=P*x:=by rw[<-Nat.mul_succ];exact Nat.mul_le_mul_left _ h
   constructor
   ·rintro(h | ⟨h,_⟩)<;>omega
   ·intro h;omega
structure Kp where
 n:Nat
 x:Nat
 u:Nat
 r:Str
def Kp.fine (k:Kp):Prop:=1<=k.n/\k.n<=2147483647/\k.x<4294967296/\k.u<18446744073709551616/\k.r.length<=188
theorem WC {k v:Str} : ∀ {l:Kvs},Srt l->(lookP k l=some v↔(k,v)∈l)
 | [],_=>by simp[lookP]
 | (a,b)::l,h=>by
  have ih:=WC (k:=k) (v:=v) h.2;simp only[lookP];split
  ·rename_i e;subst e;rw[List.mem_cons];constructor
   ·intro e;simp at e;exact .inl (by rw[e])
   ·rintro(e | e)
    ·simp at e;rw[e]
    ·have:=h.1 _ e;rw[yD]at this;cases this
  ·rename_i hak;rw[ih,List.mem_cons];constructor
   ·exact .inr
   ·rintro(e | e)
    ·exact absurd (by simp at e;exact e.1.symm) hak
    ·exact e
def Row (l:List Kp):Prop:=l.Pairwise (fun a b=>a.n<b.n)/\ ∀k∈l,k.fine
end Go.Dr
end
section
namespace Go.Eng.Sh
open Go.Nd (Ptr yH qP Kvs Srt)
open Go.Bt
def kF (fr to:Str)(kv:Kvs):Kvs:=kv.filter (inP fr to)
theorem BA {fr to:Str}{kv:Kvs}(ht:to≠[])(h:ltS fr to=false):kF fr to kv=[]:=by
 rw[kF,List.filter_eq_nil_iff];intro p _ hp;simp only[inP,y8,z8,Bool.not_eq_true',Bool.or_eq_true,List.isEmpty_iff,ht,false_or]at hp;have h1:=not_lt (a:=p.1) (b:=fr) (by simp[hp.1]);have:=ZH h1 hp.2;rw[h]at this;cases this
end Go.Eng.Sh
end
section
namespace Go.Eng
theorem kY (s:Str)(k:IntKind){i:Nat}(h:i<s.length):v8 (S s) (.int k ((i:Nat):Int))=some (.int .u8 (((s[i]).toNat:Nat):Int)):=by
 have:=zLg s k (z:=((i:Nat):Int)) (by omega) (by simpa using h);simpa using this
end Go.Eng
namespace Go.Eng.Sh
open Go.Nd (Ptr yH qP Kvs Srt)
open Go.Bt Go.Dr
theorem cv1 {H:AH}{A:Nat}{a:UInt8}{e:Nat}(hk:H.ok)(g:H.h.get A=some (.cells [.int .u8 ((a.toNat:Nat):Int)] e 1 false)):fL (.slice A 0 1 2) H=some (S [a]):=
 dY (n:=1) ⟨rfl, .inr (.inr ⟨_,_,_,_,_,_,_,rfl,g,hk.lt g,by simp,rfl⟩)⟩ (by simp)
theorem VN {c:Nat}(hc:c<256):(UInt8.ofNat c).toNat=c:=by rw[UInt8.toNat_ofNat'];omega
end Go.Eng.Sh
end
section
namespace Go.Eng
theorem UW {w:World}{base n:Nat}{a:Addr}{cs:List Value}(h:w.cells? base a n=some cs)(hn:0<n):a.spot=none/\ ∃arr e fz,w.heap[a.block]? =some (.cells arr e fz)/\ ∀j,j<n->arr[a.off+j]? =cs[j]? :=by
 obtain⟨_,hl,hc⟩:=World.cells?_some h;have h0:=hc 0 hn;rw[zB (by omega)]at h0;obtain⟨c1,arr,te,fz,hg,_⟩:=UX h0;have hsp:a.spot=none:=by simpa[Addr.add]using c1
 obtain⟨b,o,sp⟩:=a;simp only at hsp;subst hsp;have hb:(Addr.add ⟨b,o,none⟩ 0).block=b:=by simp[Addr.add]
 rw[hb]at hg;refine⟨rfl,arr,te,fz,hg,fun j hj=> ?_⟩;have hj':=hc j hj;rw[zB (by omega)]at hj'⊢;obtain⟨_,arr',te',fz',hg',hv⟩:=UX hj';rw[jS]at hg' hv;simp only at hg' hv;rw[hg]at hg';simp only[z7,Obj.cells.injEq]at hg';rw[<-hg'.1]at hv;exact hv
theorem zAf {α β:Type}{k:Nat}{g:α->List β}(hg: ∀s,(g s).length=k): ∀l:List α,(l.flatMap g).length=l.length*k
 | []=>by simp
 | s::l=>by rw[zP,zI,zAf hg l,hg,zJ,Nat.succ_mul,Nat.add_comm]
theorem zFc {α β:Type}{k:Nat}{g:α->List β}(hg: ∀s,(g s).length=k): ∀(l:List α) (i j:Nat) (hi:i<l.length),j<k->(l.flatMap g)[i*k+j]? =(g l[i])[j]?
 | s::l,0,j,_,hj=>by
  rw[zP,Nat.zero_mul,Nat.zero_add,zT (by rw[hg];exact hj)];rfl
 | s::l,i+1,j,h,hj=>by
  have ih:=zFc hg l i j (by simpa using h) hj;rw[zP,zW (by rw[hg,Nat.succ_mul];omega)];have:(i+1)*k+j - (g s).length=i*k+j:=by rw[hg,Nat.succ_mul];omega
  rw[this,ih];rfl
theorem srows_arg {α:Type}[Inhabited α]{H:Type}{enc:TypeId×Value->H}{P:Program}{w:World}{base:Nat}{held:Bool}{fuel:Nat}{v:Value}{x:DataW H×List MemPlace}{t e:TypeId}{k:Nat}(hk:0<k){vals:α->List Value}(hvl: ∀s,(vals s).length=k){good:α->Prop}(ht:P.underlying t=some (.slice e))(hc:P.cellsOf e=k)
  (hd: ∀ {fuel:Nat} {cs:List Value} {x:DataW H×List MemPlace},DataW.trod enc P w base (fun _=>true) held fuel e cs=some x-> ∃s,cs=vals s/\good s)
  (h:DataW.trod enc P w base (fun _=>true) held fuel t [v]=some x):
  ∃l:List α,Rw k (H0 w) (bJ w.heap.size v) l.length (l.flatMap fun s=>(vals s).map (cellAV w.heap.size))/\ ∀s∈l,good s:=by
 have hgl: ∀s,((vals s).map (cellAV w.heap.size)).length=k:=fun s=>by rw[qG,hvl]
 rcases Deep.open_slice ht h with⟨h1,_⟩ | ⟨a,len,cap,m,n,D,Pl,h1,_,hl,_,hm,_,hx⟩
 ·simp only[List.cons.injEq,and_true]at h1;subst h1;exact⟨[],⟨by simp, .inl ⟨rfl,rfl⟩⟩,by simp⟩
 ·simp only[List.cons.injEq,and_true]at h1;subst h1;simp only[if_true]at hm;subst hm;by_cases h0:m=0
  ·subst h0;obtain rfl:len=0:=by omega
   exact⟨[],⟨by simp, .inr (.inl ⟨rfl,rfl⟩)⟩,by simp⟩
  ·simp only[hc]at hx;have hp: ∀i,i<m-> ∃p:α,w.cells? base (a.add (i*k)) k=some (vals p)/\good p:=fun i hi=>by
    obtain⟨cs,k1,k2⟩:=hx i hi;obtain⟨p,rfl,hs⟩:=hd k2;exact⟨p,k1,hs⟩
   obtain⟨Px,hP⟩:=Deep.choose_lt hp;obtain⟨b,o,sp⟩:=a;obtain⟨c1,arr,te,fz,hg,hat0⟩:=UW (hP 0 (by omega)).1 hk;have hsp:sp=none:=by simpa[Addr.add]using c1
   subst hsp;rw[jS]at hg;simp only at hg;have hat: ∀i,i<m-> ∀j,j<k->arr[o+i*k+j]? =(vals (Px i))[j]? :=fun i hi j hj=>by
    obtain⟨_,arr',te',fz',hg',hv⟩:=UW (hP i hi).1 hk;rw[jS]at hg' hv;simp only at hg' hv;rw[hg]at hg';simp only[z7,Obj.cells.injEq]at hg';rw[hg'.1];exact hv j hj
   have hmk:(m - 1)*k+k=m*k:=by rw[<-Nat.succ_mul,Nat.succ_eq_add_one,Nat.sub_add_cancel (by omega)]
   have hsz:o+m*k<=arr.size:=by
    have h2:=hat (m - 1) (by omega) (k - 1) (by omega);rw[zB (by rw[hvl];omega)]at h2;have:=(Array.getElem?_eq_some_iff.1 h2).1;omega
   have hlk:len*k<=m*k:=q6 _ (by omega);rw[zJ9 w (by omega) (zF3 hg)];refine⟨(List.range len).map Px,⟨zAf hgl _, .inr (.inr ⟨b,o,2*m,_,te,0,false,by simp,zJm w hg,zF3 hg,by simp;omega, ?_⟩)⟩, ?_⟩
   ·apply List.ext_getElem?;intro q;simp only[qG,List.length_range];by_cases hq:q<len*k
    ·have hqi:q / k<len:=Nat.div_lt_of_lt_mul (by rw[Nat.mul_comm];exact hq);have hqj:q % k<k:=Nat.mod_lt _ hk;have e1:q / k*k+q % k=q:=by rw[Nat.mul_comm];exact Nat.div_add_mod q k
     rw[qF hq,qC,qH,Array.getElem?_toList];have h3:=hat (q / k) (by omega) (q % k) hqj;rw[Nat.add_assoc,e1]at h3;have h4:=zFc hgl ((List.range len).map Px) (q / k) (q % k) (by simpa using hqi) hqj;rw[e1]at h4;rw[h3,h4,qH];simp only[List.getElem_map,List.getElem_range]
    ·rw[List.getElem?_eq_none (by simp;omega),List.getElem?_eq_none (by rw[zAf hgl];simp;omega)]
   ·intro p hp;obtain⟨i,hi,rfl⟩:=List.mem_map.1 hp;exact(hP i (by have:=List.mem_range.1 hi;omega)).2
end Go.Eng
end
section
namespace Go.Ex
open Go.Nd (Str Kvs putP delP lookP Srt mayK)
open Go.Dr
def jU (i p:Nat):Str:=100::(dig i 4++dig p 4)
theorem zBn (i p:Nat):(jU i p).length=9:=by simp[jU,vH]
theorem WK {i i' p p':Nat}(hi:i<4294967296)(hi':i'<4294967296)(hp:p<4294967296)(hp':p'<4294967296)(h:jU i p=jU i' p'):i=i'/\p=p':=by
 simp only[jU,List.cons.injEq,true_and]at h;obtain⟨h1,h2⟩:=List.append_inj h (by rw[vH,vH]);have e1:=congrArg num h1;have e2:=congrArg num h2;rw[W0 (by omega),W0 (by omega)]at e1 e2;exact⟨e1,e2⟩
theorem bU (i p:Nat):mayK (jU i p)=true:=by simp[mayK,zBn]
def pad (s:Str):Str:=(s++List.replicate 128 0).take 128
theorem KZ (s:Str):(pad s).length=128:=by rw[pad,zH,zI,List.length_replicate];omega
theorem zKY (s:Str){j:Nat}(h:j<128):(pad s).getD j 0=if j<128 then s.getD j 0 else 0:=by
 rw[if_pos h];simp only[pad,zE,List.getElem?_take,h,if_true];by_cases hj:j<s.length
 ·rw[zT hj]
 ·rw[zW (by omega),List.getElem?_eq_none (l:=s) (by omega)];rw[List.getElem?_replicate];split<;>rfl
def jX (kv:Kvs)(i p:Nat):Str:=pad ((lookP (jU i p) kv).getD [])
theorem kH (kv:Kvs)(i p:Nat):(jX kv i p).length=128:=KZ _
def jY (kv:Kvs)(i x:Nat):UInt8:=(jX kv i (x / 128)).getD (x % 128) 0
def jM (kv:Kvs)(i a n:Nat):Str:=(List.range' a n).map (jY kv i)
theorem K4 (kv:Kvs)(i a n:Nat):(jM kv i a n).length=n:=by simp[jM]
theorem zCL (kv:Kvs)(i a n m:Nat):jM kv i a (n+m)=jM kv i a n++jM kv i (a+n) m:=by
 rw[jM,jM,jM,<-List.map_append,List.range'_append_1]
theorem zAv (kv:Kvs)(i a:Nat){c:Nat}(h:a % 128+c<=128):((jX kv i (a / 128)).drop (a % 128)).take c=jM kv i a c:=by
 refine List.ext_getElem (by rw[K4,zH,zN,kH];omega) fun j h1 h2=> ?_
 rw[K4]at h2;have e1:(a+j) / 128=a / 128:=by omega
 have e2:(a+j) % 128=a % 128+j:=by omega
 rw[List.getElem_take,List.getElem_drop];simp only[jM,List.getElem_map,List.getElem_range',Nat.one_mul,jY,e1,e2];rw[zE,zB (by rw[kH];omega)];rfl
def qX (s:Str):Str:=(s.reverse.dropWhile fun b=>b==0).reverse
theorem twP {p:UInt8->Bool} : ∀ {l:Str} {b:UInt8},b∈l.takeWhile p->p b=true
 | [],_,h=>by cases h
 | a::l,b,h=>by
  rw[List.takeWhile_cons]at h
  cases ha:p a with
  | true=>
   rw[ha,if_pos rfl]at h;rcases List.mem_cons.1 h with rfl | h
   ·exact ha
   ·exact twP h
  | false=>rw[ha]at h;simp at h
theorem jZ (s:Str): ∃k,s=qX s++List.replicate k 0/\(qX s=[]\/ ∃h:qX s≠[],(qX s).getLast h≠0):=by
 have h:=List.takeWhile_append_dropWhile (p:=fun b:UInt8=>b==0) (l:=s.reverse);refine⟨(s.reverse.takeWhile fun b=>b==0).length, ?_, ?_⟩
 ·have e:(s.reverse.takeWhile fun b:UInt8=>b==0)=List.replicate (s.reverse.takeWhile fun b=>b==0).length 0:=
   List.eq_replicate_iff.2 ⟨rfl,fun b hb=>by simpa using twP hb⟩
  have h2:=congrArg List.reverse h;rw[List.reverse_append,List.reverse_reverse]at h2;rw[qX,<-List.reverse_replicate,<-e];exact h2.symm
 ·by_cases hn:qX s=[]
  ·exact .inl hn
  ·refine .inr ⟨hn, ?_⟩;have hd:(s.reverse.dropWhile fun b=>b==0)≠[]:=fun e=>hn (by rw[qX,e];rfl)
   have:=List.head_dropWhile_not (fun b:UInt8=>b==0) hd;simp only[qX,List.getLast_reverse];simpa using this
theorem vL (s:Str):(qX s).length<=s.length:=by
 obtain⟨k,h,_⟩:=jZ s;have:=congrArg List.length h;rw[zI]at this;omega
theorem zB5 {b:Str}(h:b.length=128):pad (qX b)=b:=by
 obtain⟨k,hk,_⟩:=jZ b;have hl:=congrArg List.length hk;rw[zI,List.length_replicate,h]at hl;have e:List.replicate 128 (0:UInt8)=List.replicate k 0++List.replicate (128 - k) 0:=by rw[List.replicate_append_replicate];congr 1;omega
 rw[pad,e,<-List.append_assoc,<-hk,List.take_left' h]
def kG (kv:Kvs)(i p:Nat)(b:Str):Kvs:=if qX b=[]then delP (jU i p) kv else putP (jU i p) (qX b) kv
theorem Q1 {kv:Kvs}(h:Srt kv)(i p:Nat)(b:Str):Srt (kG kv i p b):=by
 rw[kG];split
 ·exact Nd.srt_del _ h
 ·exact Nd.srt_put _ _ h
theorem vM {kv:Kvs}(h:Srt kv)(i p:Nat)(b:Str)(k:Str):lookP k (kG kv i p b)=if k=jU i p then(if qX b=[]then none else some (qX b))else lookP k kv:=by
 rw[kG];by_cases hb:qX b=[]
 ·rw[if_pos hb,if_pos hb,Nd.look_del _ _ h]
 ·rw[if_neg hb,if_neg hb,Nd.look_put]
theorem Q2 {kv:Kvs}(h:Srt kv){i p i' p':Nat}{b:Str}(hb:b.length=128)(hi:i<4294967296)(hi':i'<4294967296)(hp:p<4294967296)(hp':p'<4294967296):jX (kG kv i p b) i' p'=if i'=i/\p'=p then b else jX kv i' p':=by
 rw[jX,vM h];by_cases e:i'=i/\p'=p
 ·obtain⟨rfl,rfl⟩:=e;rw[if_pos (rfl:jU i' p'=jU i' p'),if_pos (And.intro rfl rfl)];by_cases ht:qX b=[]
  ·rw[if_pos ht];have:=zB5 hb;rw[ht]at this;exact this
  ·rw[if_neg ht];exact zB5 hb
 ·rw[if_neg fun h=>e (WK hi' hi hp' hp h),if_neg e];rfl
theorem V0 {kv:Kvs}(h:Srt kv)(i p:Nat)(b:Str):(kG kv i p b).length<=kv.length+1:=by
 rw[kG];split
 ·have: ∀(k:Str) (l:Kvs),(delP k l).length<=l.length:=fun k l=>by
   induction l with
   | nil=>exact Nat.le_refl _
   | cons a l ih=>obtain⟨a,b⟩:=a;simp only[delP];split<;>simp only[zJ]<;>omega
  have:=this (jU i p) kv;omega
 ·have:=Nd.len_put (jU i p) (qX b) h;rw[this];split<;>omega
def over (b:Str)(f:Nat)(s:Str):Str:=b.take f++s++b.drop (f+s.length)
theorem zB7 {b s:Str}{f:Nat}(h:f+s.length<=b.length):(over b f s).length=b.length:=by simp[over];omega
theorem zI1 {b s:Str}{f j:Nat}(h:f+s.length<=b.length):(over b f s).getD j 0=if f<=j/\j<f+s.length then s.getD (j - f) 0 else b.getD j 0:=by
 have ht:(b.take f).length=f:=by rw[zH];omega
 simp only[over,zE];by_cases h1:j<f
 ·rw[if_neg (by omega),List.append_assoc,zT (by omega),qF h1]
 ·by_cases h2:j<f+s.length
  ·rw[if_pos ⟨by omega,h2⟩,List.append_assoc,zW (by omega),zT (by omega),ht]
  ·rw[if_neg (by omega),zW (by rw[zI];omega),zI,ht,qC];congr 2;omega
end Go.Ex
end
section
namespace Go.Di
end Go.Di
namespace Go.Eng.Sh
open Go.Nd (Ptr yH qP Kvs Srt Str)
open Go.Bt Go.Dr Go.Di
theorem zAZ {most:Nat} : ∀(l a:Kvs),a.length<=most->(kK (gJ most) l (a,false)).2=((a++l).take most,decide (most<a.length+l.length))
 | [],a,h=>by
  rw[List.append_nil,zK h,zX,Nat.add_zero,decide_eq_false (by omega)];rfl
 | x::l,a,h=>by
  by_cases hf:a.length=most
  ·have hs:gJ most (a,false) x=(false,(a,true)):=by simp only[gJ,show Nat.beq a.length most=true by rw[Nat.beq_eq];exact hf,cond_true]
   simp only[kK,hs,cond_false];rw[List.take_append_of_le_length (by omega),zK (by omega),decide_eq_true (by simp;omega)]
  ·have hne:Nat.beq a.length most=false:=by
    cases hb:Nat.beq a.length most with
    | false=>rfl
    | true=>exact absurd (Nat.eq_of_beq_eq_true hb) hf
   have hs:gJ most (a,false) x=(true,(a++[x],false)):=by simp only[gJ,hne,cond_false]
   simp only[kK,hs,cond_true];rw[zAZ l (a++[x]) (by simp;omega),List.append_assoc,List.singleton_append];simp only[zI,zJ,zX];rw[show a.length+(0+1)+l.length=a.length+(l.length+1)by omega]
theorem VG (m:Nat)(hm:700000000<=m){H:AH}{At M L:Nat}{kv:Kvs}(t:yS H At M L kv)(hL:L<=1000000)(hkv:kv.length<=1000000000)(fr to:Str){most:Nat}(hmo:0<=most):
  ∃H' v,f16 (dy (m+1)) (m+1) [.ptr At 0,S fr,S to, .int .i64 ((most:Nat):Int)] H=some (.tuple [v, .bool (decide (most< (kF fr to kv).length)), .int .i64 ((0:Nat):Int)],H')/\Prs H H'/\j7 2 50 H' v ((kF fr to kv).take most).length (((kF fr to kv).take most).flatMap prV)/\ ∀B,Blk v B->H.next<=B:=by
 obtain⟨d,c,_,root,es,q,last,rfl,hc,ti,h2,h3,h4,h5⟩:=t;have hold:=ti.hold;have lA:=ti.ok.lt ti.gT;have lM:=ti.ok.lt ti.gM;have hg:GI0 H.next At M root q H (fun _=>False):=⟨fun _ x=>x,lA,lM,d,c,es,last,ti,hold⟩
 have main: ∀L0,Vis (Qf q []) root fr to L0->L0.length<=8192+q.length->(kK (wO fr to (gJ most)) L0 ([],false)).2=((kF fr to kv).take most,decide (most< (kF fr to kv).length))-> ∃H' v,f16 (dy (m+1)) (m+1) [.ptr At 0,S fr,S to, .int .i64 ((most:Nat):Int)] H=some (.tuple [v, .bool (decide (most< (kF fr to kv).length)), .int .i64 ((0:Nat):Int)],H')/\Prs H H'/\j7 2 50 H' v ((kF fr to kv).take most).length (((kF fr to kv).take most).flatMap prV)/\ ∀B,Blk v B->H.next<=B:=by
  intro L0 hv hl hr;obtain⟨H',Wg',v,e,_,s,_,g,f⟩:=zEb (zKP H.next At M root q) m hm hg (Nat.le_refl _) hmo hv hl (by omega)
  rw[hr]at e g;exact⟨H',v,e,s,g,f⟩
 rcases h5 with⟨rfl,rfl⟩ | ⟨s,h,nd,t,S0,rfl,hs,rn,wr,nd0,rfl⟩
 ·exact main [] (.inl ⟨.inl rfl,rfl⟩) (by simp) (by
   show(([],false):Kvs×Bool)=(List.take most [],decide (most<0));rw[List.take_nil,decide_eq_false (by omega)])
 ·by_cases hto:to≠[]/\ltS fr to=false
  ·refine main [] (.inl ⟨.inr hto,rfl⟩) (by simp) ?_;rw[BA hto.1 hto.2];show(([],false):Kvs×Bool)=(List.take most [],decide (most<0));rw[List.take_nil,decide_eq_false (by omega)]
  ·have hto':to=[]\/ltS fr to=true:=by
    by_cases h0:to=[]
    ·exact .inl h0
    ·right
     cases hb:ltS fr to with
     | true=>rfl
     | false=>exact absurd ⟨h0,hb⟩ hto
   obtain⟨_,_,hvl⟩:=zAC (Q:=Qf q []) (fr:=fr) (to:=to) (p:=pp s) rn wr;obtain⟨_,hql⟩:=zCn hs rn wr nd0;refine main (wS (Qf q []) fr to h (pp s) nd) (.inr ⟨by simp[pp],hto',h,nd,by have:=wr.low hkv;omega, ?_,zKe rn wr,rfl⟩) (by omega) ?_
   ·rw[YL];simpa[qV]using hs
   ·rw[zHf rn wr,zAZ _ [] (by simp),List.nil_append,zX,Nat.zero_add];rfl
theorem zGj (D:Dyn)(n:Nat){H:AH}(hk:H.ok): ∃H' A,f22 D n [.int .i64 ((64:Nat):Int)] H=some (.tuple [.ptr A 0, .int .i64 ((0:Nat):Int)],H')/\Prs H H':=by
 obtain⟨H1,A1,b1,p1,g1,m1,n1⟩:=box hk (.map [6] []);obtain⟨H2,A2,b2,p2,g2,m2,n2⟩:=box p1.ok (.map [6] []);obtain⟨H3,A3,b3,p3,g3,m3,n3⟩:=box p2.ok (.cells [.int .i64 ((64:Nat):Int), .map A1, .nilSlice, .map A2, .int .i64 ((0:Nat):Int), .nilSlice, .bool false] 138 1 false);refine⟨H3,A3, ?_,(p1.trans p2).trans p3⟩;have a1: ¬((64:Nat):Int)< ((64:Nat):Int):=by omega
 have a2: ¬((8192:Nat):Int)< ((64:Nat):Int):=by omega
 have bs:wB [(0,1),(1,1),(2,1),(3,1),(4,1),(5,1),(6,1)] [.int .i64 ((0:Nat):Int), .nilMap, .nilSlice, .nilMap, .int .i64 ((0:Nat):Int), .nilSlice, .bool false] [(0, .int .i64 ((64:Nat):Int)),(1, .map A1),(3, .map A2)]=some (.agg [.int .i64 ((64:Nat):Int), .map A1, .nilSlice, .map A2, .int .i64 ((0:Nat):Int), .nilSlice, .bool false]):=rfl;simp(maxSteps:=999999)(disch:=omega) only[f22,f51,eZ,a1,a2,mkM,b1,b2,bs,b3]
theorem zFd {α:Type}(f:α->List AV)(k:Nat)(hf: ∀a,(f a).length=k): ∀(l:List α) (i:Nat) (h:i<l.length),((l.flatMap f).drop (i*k)).take k=f l[i]
 | p::l,0,_=>by
  rw[Nat.zero_mul,List.drop_zero,zP,List.take_left' (hf p)];rfl
 | p::l,i+1,h=>by
  rw[zP,show(i+1)*k=k+i*k by rw[Nat.succ_mul,Nat.add_comm],<-List.drop_drop,List.drop_left' (hf p)];exact zFd f k hf l i (by simpa using h)
theorem quoN {c k:Nat}(h:c<1000000)(hk:0<k):qO .quo (.int .i64 ((c:Nat):Int)) (.int .i64 ((k:Nat):Int))=some (.int .i64 ((c / k:Nat):Int)):=by
 have h1:c / k<=c:=Nat.div_le_self c k;have h2:((c:Nat):Int) / ((k:Nat):Int)=((c / k:Nat):Int):=rfl;rw[XD _ _ _ (by omega),Int.tdiv_eq_ediv_of_nonneg (by omega),h2];generalize c / k=q at h1;rw[wrap_i64 (by omega) (by omega)]
theorem remN {c k:Nat}(hk:0<k):qO .rem (.int .i64 ((c:Nat):Int)) (.int .i64 ((k:Nat):Int))=some (.int .i64 ((c % k:Nat):Int)):=by
 have h2:((c:Nat):Int) % ((k:Nat):Int)=((c % k:Nat):Int):=rfl;rw[zJ5 _ _ _ (by omega),Int.tmod_eq_emod_of_nonneg (by omega),h2]
end Go.Eng.Sh
namespace Go.Di
open Go.Nd (Str Kvs putP delP lookP Srt mayK)
open Go.Eng (ltS yD)
open Go.Bt (inP y8)
open Go.Dr
theorem dV (n:Nat): ∀k,dig n (k+1)=dig (n / 256) k++[UInt8.ofNat (n % 256)]
 | 0=>by simp[dig]
 | k+1=>by
  show UInt8.ofNat (n / 256 ^ (k+1) % 256)::dig n (k+1)=(UInt8.ofNat (n / 256 / 256 ^ k % 256)::dig (n / 256) k)++[_];rw[dV n k,Nat.div_div_eq_div_mul,Nat.pow_succ,Nat.mul_comm 256,List.cons_append]
theorem dig_up: ∀(w x:Nat) (pre:Str),x<255*256 ^ w-> ∃(s:Str) (b:UInt8) (k:Nat),pre++dig x (w+1)=s++[b]++List.replicate k 255/\b.toNat<255/\s++[UInt8.ofNat (b.toNat+1)]++List.replicate k 0=pre++dig (x+1) (w+1)/\s.length+1+k=pre.length+w+1
 | w,x,pre,hx=>by
  by_cases h:x % 256<255
  ·have hb:(UInt8.ofNat (x % 256)).toNat=x % 256:=by rw[UInt8.toNat_ofNat'];omega
   refine⟨pre++dig (x / 256) w,UInt8.ofNat (x % 256),0, ?_,by rw[hb];exact h, ?_,by simp[vH]⟩
   ·rw[dV];simp
   ·rw[dV,hb,show(x+1) / 256=x / 256 by omega,show(x+1) % 256=x % 256+1 by omega];simp
  ·cases w with
   | zero=>simp only[Nat.pow_zero]at hx;omega
   | succ w=>
    rw[Nat.pow_succ]at hx;obtain⟨s,b,k,h1,h2,h3,h4⟩:=dig_up w (x / 256) pre (by omega);refine⟨s,b,k+1, ?_,h2, ?_,by omega⟩
    ·rw[dV,<-List.append_assoc,h1,show x % 256=255 by omega,List.replicate_succ',List.append_assoc (s++[b])];rfl
    ·rw[dV,show(x+1) / 256=x / 256+1 by omega,show(x+1) % 256=0 by omega,<-List.append_assoc,<-h3,List.replicate_succ',List.append_assoc (s++[UInt8.ofNat (b.toNat+1)])];rfl
theorem zBh (t:Str):ltS t []=false:=by cases t<;>rfl
theorem zBf: ∀(z:Nat) (t:Str),z<=t.length->ltS t (List.replicate z 0)=false
 | 0,t,_=>zBh t
 | z+1,a::t,h=>by
  rw[List.replicate_succ,u9,zBf z t (by simpa using h)];have: ¬a<0:=fun h=>by have:=UInt8.lt_iff_toNat_lt.1 h;simp at this
  simp[this]
theorem ltS_zeros (z:Nat): ∀(q t:Str),q.length+z<=t.length->ltS t (q++List.replicate z 0)=ltS t q
 | [],t,h=>by rw[List.nil_append,zBf z t (by simpa using h),zBh]
 | b::q,[],h=>by simp at h
 | b::q,a::t,h=>by rw[List.cons_append,u9,u9,ltS_zeros z q t (by simp only[zJ]at h;omega)]
end Go.Di
namespace Go.Eng.Sh
open Go.Nd (Ptr yH qP Kvs Srt Str)
open Go.Bt Go.Dr Go.Di
theorem zCM (D:Dyn)(n:Nat)(hn:2000<=n){H:AH}(hk:H.ok)(s:Str){b:UInt8}(hb:b.toNat<255)(hs:s.length<=1000000)(k:Nat)(hk9:k<=1000): ∃H',f59 D n [S (s++[b]++List.replicate k 255)] H=some (S (s++[UInt8.ofNat (b.toNat+1)]),H')/\Prs H H':=by
 obtain⟨H1,A,b1,p1,g1,m1,n1⟩:=box hk (.cells [.int .u8 ((b.toNat+1:Nat):Int)] 5 1 false);refine⟨H1, ?_,p1⟩;obtain⟨T,hT⟩: ∃T,T=s++[b]++List.replicate k 255:=⟨_,rfl⟩;have hTl:T.length=s.length+1+k:=by rw[hT];simp;omega
 have hTb: ∀(h:s.length<T.length),T[s.length]=b:=fun h=>by subst hT;simp
 have hTr: ∀i (h:i<T.length),s.length<i->T[i]=255:=fun i h hi=>by
  subst hT;rw[List.getElem_append_right (by simp;omega),List.getElem_replicate]
 have hTt:T.take s.length=s:=by rw[hT,List.append_assoc,List.take_left'];rfl
 rw[<-hT];have hl:jO (S T)=some (.int .i64 ((s.length+1+k:Nat):Int)):=by rw[yQ,hTl]
 have hsu:((s.length+1+k:Nat):Int) - ((1:Nat):Int)=((s.length+k - 0:Nat):Int):=by omega
 have lp:qW n (zIB D n) [S T, .int .i64 ((s.length+k - 0:Nat):Int)] H=some (.ret (S (s++[UInt8.ofNat (b.toNat+1)])),H1):=by
  refine kX (fun i=>[S T, .int .i64 ((s.length+k - i:Nat):Int)]) k (fun i hi=> ?_) (fun q=> ?_) n (by omega)
  ·have hge:((0:Nat):Int)<=((s.length+k - i:Nat):Int):=by omega
   have hx:v8 (S T) (.int .i64 ((s.length+k - i:Nat):Int))=some (.int .u8 ((255:Nat):Int)):=by
    rw[kY T .i64 (show s.length+k - i<T.length by omega),hTr _ _ (by omega)];rfl
   have hsub:((s.length+k - i:Nat):Int) - ((1:Nat):Int)=((s.length+k - (i+1):Nat):Int):=by omega
   simp(maxSteps:=999999)(disch:=omega) only[zIB,eZ,hge,hx,ne_eq,not_true_eq_false,hsub]
  ·rw[show s.length+k - k=s.length by omega];have hge:((0:Nat):Int)<=((s.length:Nat):Int):=by omega
   have hx:v8 (S T) (.int .i64 ((s.length:Nat):Int))=some (.int .u8 ((b.toNat:Nat):Int)):=by
    rw[kY T .i64 (show s.length<T.length by omega),hTb]
   have hne:((b.toNat:Nat):Int)≠((255:Nat):Int):=by omega
   have hcut:uV (S T) none (some (.int .i64 ((s.length:Nat):Int)))=some (S s):=by
    rw[ZD _ _ (by omega) (by simp;omega)];simp[hTt]
   have hadd:((b.toNat:Nat):Int)+((1:Nat):Int)=((b.toNat+1:Nat):Int):=by omega
   have hw:IntKind.wrap .u8 ((b.toNat+1:Nat):Int)=((b.toNat+1:Nat):Int):=by rw[wrap_u8];omega
   have bl:wQ 5 1 1 [.int .u8 ((0:Nat):Int)] [(0, .int .u8 ((b.toNat+1:Nat):Int))]=some (.cells [.int .u8 ((b.toNat+1:Nat):Int)] 5 1 false,fun A=> .slice A 0 1 2):=rfl;have hcv:fL (.slice A 0 1 2) H1=some (S [UInt8.ofNat (b.toNat+1)]):=cv1 p1.ok (by rw[VN (by omega)];exact g1);have had:jW .add (S s) (S [UInt8.ofNat (b.toNat+1)])=some (S (s++[UInt8.ofNat (b.toNat+1)])):=by rw[bY _ _ (by simp;omega)]
   refine bT ?_;simp(maxSteps:=999999)(disch:=omega) only[zIB,eZ,hge,hx,hne,ne_eq,not_false_eq_true,hcut,hadd,hw,bl,b1,hcv,had]
 simp(maxSteps:=999999)(disch:=omega) only[f59,eZ,hl,hsu,lp]
end Go.Eng.Sh
namespace Go.Eng
theorem zNp {α:Type}(f:α->List AV)(k:Nat)(hf: ∀a,(f a).length=k): ∀(l:List α) (i:Nat),(l.flatMap f).take (i*k)=(l.take i).flatMap f
 | [],i=>by simp
 | p::l,0=>by simp
 | p::l,i+1=>by
  rw[zP,List.take_succ_cons,zP,<-zNp f k hf l i,show(i+1)*k=(f p).length+i*k by rw[hf,Nat.succ_mul,Nat.add_comm],List.take_length_add_append]
theorem zNq {α:Type}(f:α->List AV)(k:Nat)(hf: ∀a,(f a).length=k): ∀(l:List α) (i:Nat),(l.flatMap f).drop (i*k)=(l.drop i).flatMap f
 | [],i=>by simp
 | p::l,0=>by simp
 | p::l,i+1=>by
  rw[zP,List.drop_succ_cons,<-zNq f k hf l i,show(i+1)*k=(f p).length+i*k by rw[hf,Nat.succ_mul,Nat.add_comm],List.drop_length_add_append]
theorem zNr {α:Type}(f:α->List AV)(hf: ∀a,qN (f a)=true)(l:List α):qN (l.flatMap f)=true:=by
 rw[j5];intro x hx;obtain⟨p,_,hx⟩:=List.mem_flatMap.1 hx;exact j5.1 (hf p) x hx
theorem lowG {α:Type}{f:α->List AV}{k e:Nat}(hf: ∀a,(f a).length=k)(hpos:0<k){H:AH}{v:AV}{l:List α}(h:j7 k e H v l.length (l.flatMap f))(h0:l=[]->v= .nilSlice){j:Nat}(hj:j<=l.length): ∃r,j8 k v (some (.int .i64 (j:Nat))) none none H=some r/\Rw k H r (l.drop j).length ((l.drop j).flatMap f):=by
 by_cases hlt:j<l.length
 ·obtain⟨r,e1,w,_⟩:=Sh.slSl_lo h hpos hlt .i64;rw[zNq f k hf]at w;exact⟨r,e1,by rw[zN];exact w⟩
 ·obtain rfl:j=l.length:=by omega
  by_cases hp:0<l.length
  ·obtain⟨r,e1,w⟩:=ZE h hpos hp .i64;exact⟨r,e1,by rw[List.drop_length];exact w⟩
  ·have hl:l=[]:=zG (by omega);have hv:=h0 hl;subst hl;subst hv;exact⟨.nilSlice,rfl,Rw.nil _ _⟩
theorem insG {α:Type}{f:α->List AV}{k e bytes:Nat}(hf: ∀a,(f a).length=k)(hc: ∀a,qN (f a)=true)(hpos:0<k)(hb:bytes<=1000){H:AH}{v:AV}{l:List α}(hk:H.ok)(h:j7 k e H v l.length (l.flatMap f))(h0:l=[]->v= .nilSlice){j:Nat}(hj:j<=l.length)(hl:l.length<=100000000)(a:α):
  ∃H1 A1 r1 w1 H2 A2 H3 w2 H4 r2 w3 H5,(∀(mk:Nat->AV) (K:AV->AH->Rs),bA (some (.cells [] e k false,mk)) H K=K (mk A1) H1)/\j8 k v none (some (.int .i64 (j:Nat))) none H1=some r1/\
   apP e k bytes (.slice A1 0 0 0) r1 H1=some (w1,H2)/\(∀(mk:Nat->AV) (K:AV->AH->Rs),bA (some (.cells (f a) e k false,mk)) H2 K=K (mk A2) H3)/\
   apP e k bytes w1 (.slice A2 0 1 2) H3=some (w2,H4)/\j8 k v (some (.int .i64 (j:Nat))) none none H4=some r2/\apP e k bytes w2 r2 H4=some (w3,H5)/\Prs H H2/\Prs H H5/\j7 k e H5 w3 (l.take j++a::l.drop j).length ((l.take j++a::l.drop j).flatMap f)/\ ∀B,Blk w3 B->H.next<=B:=by
 obtain⟨H1,A1,b1,p1,g1,m1,n1⟩:=box hk (.cells [] e k false);have h1:=j7.mono h p1 fun _ _ x=>x
 obtain⟨r1,c1,q1⟩:=h1.hi hpos hj;rw[zNp f k hf]at q1;have G1:j7 k e H1 (.slice A1 0 0 0) 0 []:= .inr ⟨by simp,A1,e,false,rfl,n1,g1,rfl⟩;obtain⟨w1,H2,e2,G2,s2,f2⟩:=G1.app (bytes:=bytes) p1.ok hpos q1.srcOf q1.len (zNr f hc _) (by omega) hb;have N1:=p1.next;have N2:=s2.next
 have P2:Prs H H2:=p1.fresh s2 (fun B hB=>by rw[Blk.slice.1 hB];exact m1);obtain⟨H3,A2,b3,p3,g3,m3,n3⟩:=box s2.ok (.cells (f a) e k false);have hbe:Nat.beq k k=true:=by rw[Nat.beq_eq]
 have hsrc:srcOf k (.slice A2 0 1 2) H3=some (1,f a):=
  Rw.srcOf (n:=1) ⟨by rw[hf,Nat.one_mul], .inr (.inr ⟨A2,0,2,f a,e,k,false,rfl,g3,n3,by rw[hf];omega,by rw[List.drop_zero,Nat.one_mul,zK (by rw[hf];exact Nat.le_refl _)]⟩)⟩
 obtain⟨w2,H4,e4,G4,s4,f4⟩:=(G2.mono p3 (fun _ _ x=>x)).app (bytes:=bytes) (m:=1) (new:=f a) p3.ok hpos hsrc (by rw[hf,Nat.one_mul]) (hc a) (by omega) hb;have N3:=p3.next;have N4:=s4.next
 have fw1: ∀B,Blk w1 B->H.next<=B:=fun B hB=>by
  rcases f2 B hB with e | e
  ·rw[Blk.slice.1 e];exact m1
  ·omega
 have P4:Prs H H4:=(P2.trans p3).fresh s4 fw1;have h4:=j7.mono h P4 fun _ _ x=>x
 obtain⟨r2,c2,q2⟩:=lowG hf hpos h4 h0 hj;obtain⟨w3,H5,e5,G5,s5,f5⟩:=G4.app (bytes:=bytes) s4.ok hpos q2.srcOf q2.len (zNr f hc _) (by simp;omega) hb;have fw2: ∀B,Blk w2 B->H.next<=B:=fun B hB=>by
  rcases f4 B hB with e | e
  ·exact fw1 B e
  ·omega
 refine⟨H1,A1,r1,w1,H2,A2,H3,w2,H4,r2,w3,H5,b1,c1,e2,b3,e4,c2,e5,P2,P4.fresh s5 fw2, ?_,fun B hB=> ?_⟩
 ·have hlen:0+j+1+(l.drop j).length=(l.take j++a::l.drop j).length:=by
   simp only[zI,zH,zJ,zN];omega
  rw[hlen]at G5;have hfl:[]++(l.take j).flatMap f++f a++(l.drop j).flatMap f=(l.take j++a::l.drop j).flatMap f:=by
   simp
  rw[hfl]at G5;exact G5
 ·rcases f5 B hB with e | e
  ·exact fw2 B e
  ·omega
end Go.Eng
namespace Go.Eng.Sh
open Go.Nd (Ptr yH qP Kvs Srt Str)
open Go.Bt Go.Dr Go.Di
end Go.Eng.Sh
namespace Go.Eng
theorem chkI (κ:IntKind)(z:Int)(K:Rs):chk (some (.int κ z)) (.int κ z) K=K:=jA rfl (by simp[aveq,kQ,kR])
end Go.Eng
namespace Go.Eng.Sh
open Go.Nd (Ptr yH qP Kvs Srt Str)
open Go.Bt Go.Dr Go.Di
theorem zAw (kv:Kvs):kF [] [] kv=kv:=List.filter_eq_self.2 fun p _=>by
 have:ltS p.1 []=false:=by cases p.1<;>rfl
 simp[inP,y8,this]
theorem zLW (s:Str)(K:Rs):chk (some (S s)) (S s) K=K:=jA rfl (by simp[aveq,S])
theorem nne (z:Int):(z≠z)=False:=eq_false fun h=>h rfl
end Go.Eng.Sh
end
section
namespace Go.Eng
open Go.Nd (Str)
theorem zAL: ∀(n:Nat) (l:List AV),n<=l.length->takeN n l=some (l.take n)
 | 0,_,_=>rfl
 | n+1,[],h=>by simp at h
 | n+1,a::l,h=>by
  have ih:=zAL n l (by simpa using h);simp only[takeN,ih,List.take_succ_cons]
theorem zOj {H:AH}{A off m cc e:Nat}{g:Bool}{b s:Str}(h:H.h.get A=some (.cells (qR b) e 1 g))(hk:H.ok)(hm:off+m<=b.length):
  ∃H',cpy 1 (.slice A off m cc) (S s) H=some (.int .i64 ((min s.length m:Nat):Int),H')/\H'.h.get A=some (.cells (qR (Ex.over b off (s.take (min s.length m)))) e 1 g)/\Stp (fun B=>B=A) H H':=by
 obtain⟨n,hn⟩: ∃n,n=min s.length m:=⟨_,rfl⟩;rw[<-hn];have hnl:n<=s.length:=by omega
 have hmin:Nat.min s.length m=n:=hn.symm;have e1:takeN (n*1) (qR s)=some (qR (s.take n)):=by
  rw[Nat.mul_one,zAL _ _ (by rw[qU];exact hnl),qR,qR,List.map_take]
 have hc:qN (qR (s.take n))=true:=by
  rw[j5];intro x hx;obtain⟨b,_,rfl⟩:=List.mem_map.1 hx;rfl
 have e2:setAt (qR b) off (qR (s.take n))=some (qR (Ex.over b off (s.take n))):=by
  have hl:(s.take n).length=n:=by rw[zH];omega
  rw[vR (by rw[qU,qU,hl];omega)];have hl2:(qR (s.take n)).length=n:=by rw[qU,hl]
  rw[hl2,Ex.over,hl];simp only[qR,List.map_append,List.map_drop];rw[List.map_take (f:=fun c:UInt8=>AV.int .u8 ((c.toNat:Nat):Int)) (l:=b) (i:=off)]
 refine⟨_, ?_, ?_,(Stp.refl hk).put (hk.lt h) (.cells (qR (Ex.over b off (s.take n))) e 1 g) (.inr rfl)⟩
 ·simp only[cpy,zKx,hmin,e1,hc,cond_true,h,show Nat.blt 0 1=true from rfl,e2,yY,yE];rfl
 ·rw[AH.put_get,if_pos rfl]
theorem zAY {n A lo hi:Nat}(h1:lo<=hi)(h2:hi<=n)(h3:lo<n)(κ κ':IntKind):v7 n 1 (.ptr A 0) (some (.int κ (lo:Nat))) (some (.int κ' (hi:Nat))) none=some (.slice A lo (hi - lo) (2*(n - lo))):=by
 have n1:=yK κ (z:=((lo:Nat):Int)) (by omega);have n2:=yK κ' (z:=((hi:Nat):Int)) (by omega);simp only[zS]at n1 n2;have b1:Nat.ble lo hi=true:=by rw[zR];exact h1
 have b2:Nat.ble hi n=true:=by rw[zR];exact h2
 have b4:Nat.beq n lo=false:=by rw[Bool.eq_false_iff];intro h;have:=Nat.eq_of_beq_eq_true h;omega
 have b3:((2*n) % 2).beq 0=true:=by rw[Nat.mul_mod_right];rfl
 have b5:2*n / 2=n:=Nat.mul_div_cancel_left n (by omega);simp[v7,yO,n1,n2,aO,b1,b2,b3,b4,b5,yE,show Nat.blt 0 1=true from rfl]
end Go.Eng
namespace Go.Ex
open Go.Nd (Str Kvs putP delP lookP Srt mayK)
open Go.Dr
def by8 (y:Int):UInt8:=UInt8.ofNat (y % 256).toNat
theorem zM1 (y:Int):(((by8 y).toNat:Nat):Int)=y % 256:=by
 rw[by8,UInt8.toNat_ofNat'];omega
theorem XC (x:Nat):by8 ((x:Nat):Int)=UInt8.ofNat (x % 256):=by
 rw[by8];congr 1
def Z8 (z:Int):Str:=[by8 (z / 16777216),by8 (z / 65536),by8 (z / 256),by8 z]
theorem ZJ (x:Nat):Z8 ((x:Nat):Int)=dig x 4:=by
 have e1:((x:Nat):Int) / 16777216=((x / 16777216:Nat):Int):=by omega
 have e2:((x:Nat):Int) / 65536=((x / 65536:Nat):Int):=by omega
 have e3:((x:Nat):Int) / 256=((x / 256:Nat):Int):=by omega
 rw[Z8,e1,e2,e3,XC,XC,XC,XC];simp[dig]
def zLc (i p:Int):Str:=100::(Z8 i++Z8 p)
theorem zBm (i p:Nat):zLc ((i:Nat):Int) ((p:Nat):Int)=jU i p:=by rw[zLc,ZJ,ZJ];rfl
end Go.Ex
namespace Go.Eng.Sh
open Go.Nd (Ptr yH qP Kvs Srt Str)
open Go.Bt Go.Dr Go.Ex
theorem B9 (H:AH){A e:Nat}{s:Str}{k:Nat}(hk:H.ok)(g:H.h.get A=some (.cells (qR s) e 1 false))(hl:s.length=k):fL (.slice A 0 k (2*k)) H=some (S s):=
 dY (n:=k) ⟨by rw[qU,hl,Nat.mul_one], .inr (.inr ⟨_,_,_,_,_,_,_,rfl,g,hk.lt g,by rw[qU,hl];omega,by
  rw[List.drop_zero,zK (by rw[qU,hl];omega)]⟩)⟩ (by simp)
theorem zHB (x:Int){s:Nat}{k:Int}(hs:k=((2 ^ s:Nat):Int))(h64:s<=64):qO .shr (.int .i64 x) (.int .u64 ((s:Nat):Int))=some (.int .i64 (x / k)):=by
 show fI (x.fdiv ((2 ^ (Nat.min s (IntKind.bits .i64)):Nat):Int)) (fun r=>some (AV.int .i64 r))=_;rw[zAj,show Nat.min s (IntKind.bits .i64)=s from Nat.min_eq_left h64,Int.fdiv_eq_ediv_of_nonneg _ (Int.natCast_nonneg _),hs]
theorem zGC (z:Int):qR (Z8 z)=[.int .u8 (z / 16777216 % 256), .int .u8 (z / 65536 % 256), .int .u8 (z / 256 % 256), .int .u8 (z % 256)]:=by
 simp only[Z8,qR,List.map_cons,List.map_nil,zM1]
theorem V1 (D:Dyn)(n:Nat){H:AH}(hk:H.ok)(x:Int): ∃H',f42 D n [.int .i64 x] H=some (S (100::Z8 x),H')/\Prs H H':=by
 obtain⟨H1,A,b1,p1,g1,m1,n1⟩:=box hk (.cells (qR (100::Z8 x)) 5 1 false);have hcv:fL (.slice A 0 5 10) H1=some (S (100::Z8 x)):=B9 H1 p1.ok g1 rfl;have hbv:qR (100::Z8 x)=[.int .u8 ((100:Nat):Int), .int .u8 (x / 16777216 % 256), .int .u8 (x / 65536 % 256), .int .u8 (x / 256 % 256), .int .u8 (x % 256)]:=by
  have:=zGC x;simp only[qR,List.map_cons]at this⊢;rw[this];rfl
 rw[hbv]at b1;have s1:=zHB x (s:=24) (k:=16777216) (by decide) (by omega);have s2:=zHB x (s:=16) (k:=65536) (by decide) (by omega);have s3:=zHB x (s:=8) (k:=256) (by decide) (by omega);have bl:wQ 5 1 5 [.int .u8 ((0:Nat):Int)] [(0, .int .u8 ((100:Nat):Int)),(1, .int .u8 (x / 16777216 % 256)),(2, .int .u8 (x / 65536 % 256)),(3, .int .u8 (x / 256 % 256)),(4, .int .u8 (x % 256))]=some (.cells [.int .u8 ((100:Nat):Int), .int .u8 (x / 16777216 % 256), .int .u8 (x / 65536 % 256), .int .u8 (x / 256 % 256), .int .u8 (x % 256)] 5 1 false,fun A=> .slice A 0 5 10):=rfl;refine⟨H1, ?_,p1⟩;simp(maxSteps:=999999)(disch:=omega) only[f42,eZ,s1,s2,s3,WY,wrap_u8,bl,b1,hcv]
theorem zEN (D:Dyn)(n:Nat){H:AH}(hk:H.ok)(i x:Int): ∃H',f18 D n [.int .i64 i, .int .i64 x] H=some (S (zLc i x),H')/\Prs H H':=by
 obtain⟨H1,A,b1,p1,g1,m1,n1⟩:=box hk (.cells (qR (Z8 x)) 5 1 false);have hcv:fL (.slice A 0 4 8) H1=some (S (Z8 x)):=B9 H1 p1.ok g1 rfl;obtain⟨H2,e2,p2⟩:=V1 D n p1.ok i;have hcv2:fL (.slice A 0 4 8) H2=some (S (Z8 x)):=B9 H2 p2.ok (Prs.get p2 p1.ok g1) rfl;rw[zGC x]at b1;have s1:=zHB x (s:=24) (k:=16777216) (by decide) (by omega);have s2:=zHB x (s:=16) (k:=65536) (by decide) (by omega);have s3:=zHB x (s:=8) (k:=256) (by decide) (by omega);have bl:wQ 5 1 4 [.int .u8 ((0:Nat):Int)] [(0, .int .u8 (x / 16777216 % 256)),(1, .int .u8 (x / 65536 % 256)),(2, .int .u8 (x / 256 % 256)),(3, .int .u8 (x % 256))]=some (.cells [.int .u8 (x / 16777216 % 256), .int .u8 (x / 65536 % 256), .int .u8 (x / 256 % 256), .int .u8 (x % 256)] 5 1 false,fun A=> .slice A 0 4 8):=rfl;have ha:jW .add (S (100::Z8 i)) (S (Z8 x))=some (S (zLc i x)):=by rw[bY _ _ (by simp[Z8])];rfl
 refine⟨H2, ?_,p1.trans p2⟩;simp(maxSteps:=999999)(disch:=omega) only[f18,eZ,s1,s2,s3,WY,wrap_u8,bl,b1,hcv,e2,hcv2,zLW,ha]
theorem zHu (D:Dyn)(n:Nat){H:AH}(hk:H.ok)(x:Nat): ∃H',f42 D n [.int .i64 ((x:Nat):Int)] H=some (S (100::dig x 4),H')/\Prs H H':=by
 rw[<-ZJ];exact V1 D n hk _
theorem QW (D:Dyn)(n:Nat){H:AH}(hk:H.ok)(i x:Nat): ∃H',f18 D n [.int .i64 ((i:Nat):Int), .int .i64 ((x:Nat):Int)] H=some (S (jU i x),H')/\Prs H H':=by
 rw[<-zBm];exact zEN D n hk _ _
theorem zHk (D:Dyn)(n:Nat){H:AH}(s:Str)(hn:s.length<n)(hs:s.length<=1000000):f82 D n [S s, .int .u8 ((0:Nat):Int)] H=some (S (qX s),H):=by
 obtain⟨k,hk,hz⟩:=jZ s;have hl:=congrArg List.length hk;rw[zI,List.length_replicate]at hl;have lp:qW n (zFn D n) [S s, .int .u8 ((0:Nat):Int)] H=some (.exit 0 [S (qX s)],H):=by
  have hst:S s=S (s.take (s.length - 0)):=by rw[Nat.sub_zero,q9]
  rw[hst];refine kX (fun j=>[S (s.take (s.length - j)), .int .u8 ((0:Nat):Int)]) k (fun j hj=> ?_) (fun q=> ?_) n (by omega)
  ·have hlt:(s.take (s.length - j)).length=s.length - j:=by rw[zH];omega
   have h0:((0:Nat):Int)< (((s.take (s.length - j)).length:Nat):Int):=by omega
   have hsub:(((s.take (s.length - j)).length:Nat):Int) - ((1:Nat):Int)=((s.length - (j+1):Nat):Int):=by omega
   have hi:s.length - (j+1)< (s.take (s.length - j)).length:=by omega
   have hx:v8 (S (s.take (s.length - j))) (.int .i64 ((s.length - (j+1):Nat):Int))=some (.int .u8 ((0:Nat):Int)):=by
    rw[kY _ .i64 hi,List.getElem_take];have:s[s.length - (j+1)]'(by omega)=0:=by
     have h2:s.length - (j+1)< (qX s++List.replicate k 0).length:=by rw[<-hk];omega
     have h3:s[s.length - (j+1)]'(by omega)=(qX s++List.replicate k 0)[s.length - (j+1)]:=by congr 1
     rw[h3,List.getElem_append_right (by omega),List.getElem_replicate]
    rw[this];rfl
   have hcut:uV (S (s.take (s.length - j))) none (some (.int .i64 ((s.length - (j+1):Nat):Int)))=some (S (s.take (s.length - (j+1)))):=by
    rw[ZD _ _ (by omega) (by rw[zS];omega),zS,List.take_take,Nat.min_eq_left (by omega)]
   simp(maxSteps:=999999)(disch:=omega) only[zFn,eZ,yQ,h0,hsub,hx,hcut]
  ·have ht:s.take (s.length - k)=qX s:=by
    have h2:(qX s++List.replicate k 0).take (qX s).length=qX s:=List.take_left' rfl;rw[<-hk]at h2;rw[show s.length - k=(qX s).length by omega];exact h2
   rw[ht];refine qY ?_;rcases hz with hz | ⟨hz,hlast⟩
   ·have h0: ¬((0:Nat):Int)< (((qX s).length:Nat):Int):=by rw[hz];decide
    simp(maxSteps:=999999)(disch:=omega) only[zFn,eZ,yQ,h0]
   ·have hp:=List.length_pos_iff.2 hz;have h0:((0:Nat):Int)< (((qX s).length:Nat):Int):=by omega
    have hsub:(((qX s).length:Nat):Int) - ((1:Nat):Int)=(((qX s).length - 1:Nat):Int):=by omega
    have hx:=kY (qX s) .i64 (show(qX s).length - 1< (qX s).length by omega);have hne: ¬(((qX s)[(qX s).length - 1].toNat:Nat):Int)=((0:Nat):Int):=fun e=>by
     rw[List.getLast_eq_getElem]at hlast;exact hlast (UInt8.toNat_inj.1 (by simpa using e))
    simp(maxSteps:=999999)(disch:=omega) only[zFn,eZ,yQ,h0,hsub,hx,hne]
 simp(maxSteps:=999999)(disch:=omega) only[f82,eZ,lp,zNH]
theorem zDj (D:Dyn)(n:Nat){H:AH}(s:Str)(hn:s.length<n)(hs:s.length<=1000000):f58 D n [S s, .str 1 0] H=some (S (qX s),H):=by
 have e0:(AV.str 0 0)=S []:=rfl;have e1:(AV.str 1 0)=S [0]:=rfl;have hb:=zHk D n (H:=H) s hn hs;have hx:v8 (S [0]) (.int .i64 ((0:Nat):Int))=some (.int .u8 ((0:Nat):Int)):=rfl;have l1:jO (S [0])=some (.int .i64 ((1:Nat):Int)):=rfl;have n0: ¬([0]:Str)=[]:=by decide
 have t1:((0:Nat):Int)< ((128:Nat):Int):=by omega
 by_cases h:s=[]
 ·have q:_=True:=eq_true h;have ht:qX s=s:=by rw[h];rfl
  rw[ht];simp(maxSteps:=999999)(disch:=omega) only[f58,eZ,e0,e1,jE,q]
 ·simp(maxSteps:=999999)(disch:=omega) only[f58,eZ,e0,e1,jE,h,n0,l1,hx,t1,hb]
end Go.Eng.Sh
end
section
namespace Go.Ex
open Go.Nd (Str Kvs putP delP lookP Srt mayK)
theorem zEr:pad []=List.replicate 128 0:=by rw[pad,List.nil_append,zK (by simp)]
theorem zHZ (s:Str):over (List.replicate 128 0) 0 (s.take (min s.length 128))=pad s:=by
 have hl:(s.take (min s.length 128)).length=min s.length 128:=by rw[zH];omega
 rw[over,List.take_zero,List.nil_append,Nat.zero_add,hl,List.drop_replicate,pad,List.take_append,List.take_replicate];have e1:s.take (min s.length 128)=s.take 128:=by
  rcases Nat.le_total s.length 128 with h | h
  ·rw[Nat.min_eq_left h,q9,zK h]
  ·rw[Nat.min_eq_right h]
 rw[e1];congr 2;omega
theorem zK8 {k:Str} : ∀ {l:Kvs},lookP k l=none->delP k l=l
 | [],_=>rfl
 | (a,b)::l,h=>by
  simp only[lookP]at h;by_cases e:a=k
  ·rw[if_pos e]at h;cases h
  ·rw[if_neg e]at h;simp only[delP,if_neg e,zK8 h]
end Go.Ex
namespace Go.Eng.Sh
open Go.Nd (Ptr yH qP Kvs Srt Str lookP putP delP mayK)
open Go.Bt Go.Dr Go.Ex
theorem zE3 (x:AV): ∀n,rep n [x]=List.replicate n x
 | 0=>rfl
 | n+1=>by rw[rep,zE3 x n,List.replicate_succ];rfl
theorem ZT:rep 128 [AV.int .u8 ((0:Nat):Int)]=qR (List.replicate 128 0):=by
 rw[zE3];simp[qR]
theorem QU {A e k:Nat}{H:AH}{l:List AV}{g:Bool}(h:H.h.get A=some (.cells l e 1 g))(hl:l.length=k):ldN k (.ptr A 0) H=some (.agg l):=by
 rw[qQ h,jJ _ _ _ (.inr (by omega)),List.drop_zero,<-hl,q9];rfl
theorem bytesV_cells (b:Str):qN (qR b)=true:=by
 rw[j5];intro x hx;obtain⟨b,_,rfl⟩:=List.mem_map.1 hx;rfl
theorem ZA {H:AH}(hk:H.ok){A e:Nat}{b b':Str}(h:H.h.get A=some (.cells (qR b) e 1 false))(h1:b.length=128)(h2:b'.length=128):
  ∃H',stN 128 (.ptr A 0) (.agg (qR b')) H=some (qM,H')/\H'.h.get A=some (.cells (qR b') e 1 false)/\Stp (fun B=>B=A) H H':=by
 obtain⟨H',e1,g1,s1,_⟩:=yF hk h (l':=qR b') (by rw[qU,qU,h1,h2]) (bytesV_cells b');rw[qU,h1]at e1;exact⟨H',e1,g1,s1⟩
theorem zJv (A:Nat):v7 128 1 (.ptr A 0) none none none=some (.slice A 0 128 256):=rfl
theorem zAB (m n:Nat)(hn:300000000<=n){H:AH}{At M L:Nat}{kv:Kvs}(t:yS H At M L kv)(hL:L<=90000000)(hkv:kv.length<=1000000000)(i p:Nat):
  ∃H',f31 (dy m) n [.ptr At 0, .int .i64 ((i:Nat):Int), .int .i64 ((p:Nat):Int)] H=some (.tuple [.agg (qR (jX kv i p)), .bool (lookP (jU i p) kv).isSome, .int .i64 ((0:Nat):Int)],H')/\Prs H H':=by
 have hk:H.ok:=by obtain⟨_,_,_,_,_,_,_,_,_,ti,_⟩:=t;exact ti.ok
 obtain⟨Z,hZ⟩: ∃Z:Str,Z=List.replicate 128 0:=⟨_,rfl⟩;have hZl:Z.length=128:=by rw[hZ];simp
 obtain⟨H1,A6,b1,p1,g1,m1,n1⟩:=box hk (.cells (qR Z) 69 1 false);obtain⟨H2,A9,b2,p2,g2,m2,n2⟩:=box p1.ok (.cells (qR Z) 69 1 false);obtain⟨H3,e3,p3⟩:=QW (dy m) n p2.ok i p;obtain⟨H4,e4,p4⟩:=zLl m n (by omega) (jU i p) (((t.prs p1).prs p2).prs p3) (by omega) hkv;rw[bU,if_pos rfl]at e4;have N1:=p1.next;have N2:=p2.next;have N3:=p3.next;have N4:=p4.next
 have g64:=Prs.get ((p2.trans p3).trans p4) p1.ok g1;have g94:=Prs.get (p3.trans p4) p2.ok g2;have P4:Prs H H4:=((p1.trans p2).trans p3).trans p4;have hbx:rep 128 [AV.int .u8 ((0:Nat):Int)]=qR Z:=by rw[ZT,hZ]
 cases ho:lookP (jU i p) kv with
 | none=>
  rw[ho]at e4;have e4':f21 (dy m) n [.ptr At 0,S (jU i p)] H3=some (.tuple [.str 0 0, .int .i64 ((5:Nat):Int)],H4):=e4;have hp:jX kv i p=Z:=by rw[jX,ho,hZ];exact zEr
  rw[hp];have r9:=QU g94 (k:=128) (by rw[qU,hZl]);obtain⟨H5,e5,g5,s5⟩:=ZA p4.ok g64 hZl hZl;have r6:=QU g5 (k:=128) (by rw[qU,hZl]);refine⟨H5, ?_,P4.fresh s5 fun B hB=>by omega⟩;simp(maxSteps:=999999)(disch:=omega) only[f31,eZ,hbx,b1,b2,e3,e4',qK,nth,r9,e5,r6,Option.isSome_none]
 | some s=>
  rw[ho]at e4;have e4':f21 (dy m) n [.ptr At 0,S (jU i p)] H3=some (.tuple [S s, .int .i64 ((0:Nat):Int)],H4):=e4;have hp:jX kv i p=pad s:=by rw[jX,ho];rfl
  rw[hp];obtain⟨H5,e5,g5,s5⟩:=zOj (off:=0) (m:=128) (cc:=256) (s:=s) g94 p4.ok (by omega);have hov:Ex.over Z 0 (s.take (min s.length 128))=pad s:=by rw[hZ];exact zHZ s
  rw[hov]at g5;have g65:H5.h.get A6=some (.cells (qR Z) 69 1 false):=by rw[s5.keep _ (by omega) (by omega)];exact g64
  have r9:=QU g5 (k:=128) (by rw[qU,KZ]);obtain⟨H6,e6,g6,s6⟩:=ZA s5.ok g65 hZl (KZ s);have r6:=QU g6 (k:=128) (by rw[qU,KZ]);have N5:=s5.next
  have h05: ¬((0:Nat):Int)=((5:Nat):Int):=by omega
  refine⟨H6, ?_,(P4.fresh s5 fun B hB=>by omega).fresh s6 fun B hB=>by omega⟩;simp(maxSteps:=999999)(disch:=omega) only[f31,eZ,hbx,b1,b2,e3,e4',qK,nth,h05,zJv,e5,r9,e6,r6,qJ]
theorem zCX (m n:Nat)(hm:300000000<=m)(hn:300000000<=n){H:AH}{At M L A:Nat}{kv:Kvs}(t:yS H At M L kv)(hs:Srt kv)(hL:L<=90000000)(hkv:kv.length<=1000000000)(i p:Nat){b:Str}(hb:b.length=128)(g:H.h.get A=some (.cells (qR b) 69 1 false)):
  ∃H',f32 (dy (m+2)) n [.ptr At 0, .int .i64 ((i:Nat):Int), .int .i64 ((p:Nat):Int), .slice A 0 128 256, .bool (lookP (jU i p) kv).isSome] H=some (.int .i64 ((0:Nat):Int),H')/\yS H' At M (L+200) (kG kv i p b)/\Stp (fun B=>B=At\/B=M) H H':=by
 have hk:H.ok:=by obtain⟨_,_,_,_,_,_,_,_,_,ti,_⟩:=t;exact ti.ok
 have hcv:fL (.slice A 0 128 256) H=some (S b):=B9 H hk g hb;have ht:=zDj (dy (m+2)) n (H:=H) b (by omega) (by omega);have e0:(AV.str 0 0)=S []:=rfl;have hl:=vL b;by_cases h:qX b=[]
 ·have hne: ¬(qX b≠[]):=fun e=>e h
  rw[kG,if_pos h]
  cases ho:(lookP (jU i p) kv).isSome with
  | true=>
   obtain⟨H1,e1,p1⟩:=QW (dy (m+2)) n hk i p;obtain⟨H2,e2,t2,s2⟩:=zAq m n hm hn (t.prs p1) (by omega) hkv (k:=jU i p);have hz:dW (jU i p) kv=0:=by
    rw[dW,bU];simp[ho]
   rw[hz]at e2;rw[if_pos hz]at t2;refine⟨H2, ?_,t2,(Prs.stp p1).trans s2⟩;simp(maxSteps:=999999)(disch:=omega) only[f32,eZ,hcv,ht,e0,jI,hne,e1,e2]
  | false=>
   have hd:delP (jU i p) kv=kv:=by
    have hno:lookP (jU i p) kv=none:=by cases hh:lookP (jU i p) kv with
     | none=>rfl
     | some _=>rw[hh]at ho;cases ho
    exact zK8 hno
   rw[hd];refine⟨H, ?_,t.up (by omega),Stp.refl hk⟩;simp(maxSteps:=999999)(disch:=omega) only[f32,eZ,hcv,ht,e0,jI,hne]
 ·have hne:qX b≠[]:=h;rw[kG,if_neg h];obtain⟨H1,e1,p1⟩:=QW (dy (m+2)) n hk i p;obtain⟨H2,e2,t2,s2⟩:=zEf m n hm hn (t.prs p1) (by omega) hkv (k:=jU i p) (v:=qX b);have hput:dH (jU i p) (qX b)=true:=by
   rw[dH,bU];simp;omega
  rw[hput]at e2 t2;simp only[if_true]at e2 t2;refine⟨H2, ?_,t2,(Prs.stp p1).trans s2⟩;simp(maxSteps:=999999)(disch:=omega) only[f32,eZ,hcv,ht,e0,jI,hne,ne_eq,not_false_eq_true,e1,e2]
end Go.Eng.Sh
end
