/- A checked evaluator for the program, and what it tells, part 6: no condition. -/
import Derived.Test.YtngkjhifpekkcaaGreatDoorOX5
import Derived.Test.YtngkjhifpekkcaaGreatDoorRows
import Derived.Test.YtngkjhifpekkcaaGreatDoorCards
import Derived.Test.YtngkjhifpekkcaaGreatDoorTie
import Derived.ProofKit
import Derived.OpenShut
import Derived.Carry
import Derived.LaidMore
import Derived.Lay
import Derived.SevenTiedAt
import Derived.Stop.Joined
set_option linter.all false
set_option linter.unusedVariables false
set_option linter.unusedSimpArgs false
set_option maxHeartbeats 8000000
set_option maxRecDepth 20000
section
namespace Go.Eng.Sh
open Go.Nd (Ptr y9 qM Kvs)
open Go.Bt
def zFQ (H0 H':AH)(At M:Nat)(d c dr:AV)(low top:Nat)(kv:Kvs):Prop:= ∃root es q last,TI H' At M d c root es q last dr/\Stp (fun B=>B=At\/B=M) H0 H'/\(∀s nd,qR s q=some nd->s<=last)/\q.length<=last/\low<=last/\last<=top/\zDW q root kv
theorem zFQ.mono {H0 H':AH}{At M:Nat}{d c dr:AV}{low low' top top':Nat}{kv:Kvs}(h:zFQ H0 H' At M d c dr low top kv)(hl:low'<=low)(ht:top<=top'):zFQ H0 H' At M d c dr low' top' kv:=by
 obtain⟨root,es,q,last,h1,h2,h3,h4,h5,h6,h7⟩:=h;exact⟨root,es,q,last,h1,h2,h3,h4,by omega,by omega,h7⟩
theorem zDe (D:Dyn)(n:Nat){H0 H:AH}{At Ac F M:Nat}{d c dr:AV}{root0:Ptr}{es:List (AV×AV)}{q:PN}{fes:List (AV×AV)}{f:PN}{g:AV}{gl:List Ptr}{last0 last:Nat}(ti:TI H0 At M d c root0 es q last0 dr)(hq: ∀s nd,qR s q=some nd->s<=last0)
  (ch:Ch H0 H At Ac F fes f g gl last0 last) (hgl: ∀p∈gl,∃s,p=pp s) (hl:last<=900000000) (hn:gl.length<n) (hql:q.length<=last0):
  ∃H',f41 D n [.ptr Ac 0, .agg [.int .i64 ((0:Nat):Int), .int .i64 ((0:Nat):Int), .int .u64 ((0:Nat):Int)]] H=some (.tuple [],H')/\zFQ H0 H' At M d c dr last last []:=by
 obtain⟨H',es',e,ti',st⟩:=zDf D n (root:=pZ) ti hq ch hgl hl hn hql;refine⟨H',e,_,_,_,last,ti',st,BD hq ch.fs ch.le, ?_,Nat.le_refl _,Nat.le_refl _, .inl ⟨rfl,rfl⟩⟩;have h1:=fE gl q;have h2:=ch.fl;simp only[zJ];omega
theorem gZ (D:Dyn)(n:Nat){H0 H:AH}{At Ac F M s h:Nat}{d c dr:AV}{root0:Ptr}{es:List (AV×AV)}{q:PN}{fes:List (AV×AV)}{f:PN}{g:AV}{gl Fr R:List Ptr}{last0 last:Nat}{nd:Nd.Node}{t:Bt.Tr h}{S:List Ptr}(ti:TI H0 At M d c root0 es q last0 dr)(hq: ∀s nd,qR s q=some nd->s<=last0)
  (ch:Ch H0 H At Ac F fes f g gl last0 last) (hgl: ∀p∈gl,∃s,p=pp s) (hl:last<=900000000) (hn:gl.length<n) (hql:q.length<=last0)
  (hs:Qf q f (pp s)=some nd) (rn:jL (Qf q f) h nd t S) (wr:WR h t) (hT:(pp s::S).Perm (Fr++R)) (hG:(gl++R).Nodup) (hFr: ∀p∈Fr,∃j,p=pp j/\last0<j) (hFn:Fr.Nodup) (hR: ∀p∈R,∃nd,Qf q [] p=some nd):
  ∃H',f41 D n [.ptr Ac 0, .agg (y7 (pp s))] H=some (.tuple [],H')/\zFQ H0 H' At M d c dr last last (con h t):=by
 obtain⟨H',es',e,ti',st⟩:=zDf D n (root:=pp s) ti hq ch hgl hl hn hql;obtain⟨nd1,mono⟩:=zH6 hq (fun s nd h=>(ch.fs s nd h).1) hT hG hgl hFr hFn hR;refine⟨H',e,_,_,_,last,ti',st,BD hq ch.fs ch.le, ?_,Nat.le_refl _,Nat.le_refl _, .inr ⟨s,h,nd,t,S,rfl, ?_,rn.mono (fun p hp nd hh=>mono p (zA _ hp) nd hh),wr,nd1,rfl⟩⟩
 ·have h1:=fE gl q;have h2:=ch.fl;simp only[zJ];omega
 ·have:=mono (pp s) (zC ..) nd hs;rw[QE]at this;simpa[qR]using this
theorem zFn (D:Dyn)(n:Nat)(hn:200000000<=n){H0 H:AH}{At Ac F M h:Nat}{d c dr u:AV}{root0:Ptr}{es:List (AV×AV)}{q:PN}{fes:List (AV×AV)}{f:PN}{g:AV}{gl Fr R:List Ptr}{last0 last:Nat}{nd:Nd.Node}{t:Bt.Tr h}{S:List Ptr}(ti:TI H0 At M d c root0 es q last0 dr)(hq: ∀s nd,qR s q=some nd->s<=last0)
  (ch:Ch H0 H At Ac F fes f g gl last0 last) (hgl: ∀p∈gl,∃s,p=pp s) (hl:last<=700000000) (hgn:gl.length<n) (hql:q.length<=last0) (hu:jM H g u nd)
  (rn:jL (Qf q f) h nd t S) (wx:WX h none none t) (hS:S.Perm (Fr++R)) (hG:(gl++R).Nodup) (hFr: ∀p∈Fr,∃j,p=pp j/\last0<j/\j<=last) (hFn:Fr.Nodup) (hR: ∀p∈R,∃nd,Qf q [] p=some nd):
  ∃H',f46 D n [.ptr Ac 0,u] H=some (.int .i64 ((0:Nat):Int),H')/\zFQ H0 H' At M d c dr last (last+7) (con h t):=by
 obtain⟨ks,vs0,ps,rfl,j1,j2,j3⟩:=id hu.1;obtain⟨H1,A3,b1,p1,g1,m1,n1⟩:=box ch.prs.ok (.cells [.bool nd.leaf,ks,vs0,ps] 61 1 false);have ch1:=ch.step p1;have hu1:=hu.prs p1;have hFr': ∀p∈Fr,∃j,p=pp j/\last0<j:=fun p hp=>by obtain⟨j,a,b,_⟩:=hFr p hp;exact⟨j,a,b⟩
 have e0:ld1 (.ptr A3 0) H1=some (.bool nd.leaf):=by rw[qJ g1];rfl
 have e1:ld1 (.ptr A3 1) H1=some ks:=by rw[qJ g1];rfl
 have e3:ld1 (.ptr A3 3) H1=some ps:=by rw[qJ g1];rfl
 by_cases hk:nd.keys=[]
 ·
  have hk0:((nd.keys.length:Nat):Int)=((0:Nat):Int):=by rw[hk];rfl
  cases h with
  | zero=>
   obtain⟨hnd,rfl⟩:=rn;have ht:t=([]:Kvs):=List.map_eq_nil_iff.1 (show List.map Prod.fst (t:Kvs)=[]from(show(qM t).keys=[]from hnd▸hk));subst ht;obtain⟨H2,e2,dn⟩:=zDe D n ti hq ch1 hgl (by omega) hgn hql;refine⟨H2, ?_,dn.mono (Nat.le_refl _) (by omega)⟩;have e0':ld1 (.ptr A3 0) H1=some (.bool true):=by rw[e0,hnd];rfl
   have bs:kJ [(0,1),(1,1),(2,1)] [.int .i64 ((0:Nat):Int), .int .i64 ((0:Nat):Int), .int .u64 ((0:Nat):Int)] []=some (.agg [.int .i64 ((0:Nat):Int), .int .i64 ((0:Nat):Int), .int .u64 ((0:Nat):Int)]):=rfl;simp(maxSteps:=999999)(disch:=omega) only[f46,eZ,b1,e1,j1.row.lnSl,hk0,e0',bs,e2,zHP]
  | succ h=>
   obtain⟨r1,r2,r3,r4⟩:=id rn;obtain⟨w1,w2⟩:=id wx;rw[hk]at r2;have hlen:=w1.2.2.len;rw[<-r2]at hlen;obtain⟨t1,ht1⟩: ∃t1,t.2=[t1]:=by
    match ht:t.2,hlen with
    | [a],_=>exact⟨a,rfl⟩
   have hkb:=w1.2.2;rw[<-r2,ht1]at hkb;rw[ht1]at r4;obtain⟨k0,nd1,S1,hk1,q1,rn1,hS1⟩:=kK.perm_one r4;obtain⟨s1,rfl,_⟩:=bC q1;subst hS1;obtain⟨H2,e2,dn⟩:=gZ D n ti hq ch1 hgl (by omega) hgn hql q1 rn1 (WF.wr hkb) hS hG hFr' hFn hR;have e0':ld1 (.ptr A3 0) H1=some (.bool false):=by rw[e0,r1]
   have hcon:con (h+1) t=con h t1:=by simp only[con,ht1,zW,List.flatMap_nil,List.append_nil]
   rw[hcon];refine⟨H2, ?_,dn.mono (Nat.le_refl _) (by omega)⟩;obtain⟨qk,ik,ik'⟩:=uI.at (l:=nd.kids) (j3.mono p1 (fun _ _ x=>x)).row (i:=0) (by rw[hk1];simp);have hkk:nd.kids[0]'(by rw[hk1];simp)=pp s1:=by simp[hk1]
   rw[hkk]at ik';simp(maxSteps:=999999)(disch:=omega) only[f46,eZ,b1,e1,j1.row.lnSl,hk0,e0',e3,ik,ik',e2,zHP]
 ·
  have hk0: ¬((nd.keys.length:Nat):Int)=((0:Nat):Int):=by
   have:nd.keys.length≠0:=fun e=>hk (zF e)
   omega
  have hsh:=rn.shaped wx.gen (fun _=>hk) (jL.kidOk rn);have hz:Nd.size nd<=785:=by rw[rn.size];exact wx.sz
  obtain⟨pv,sv,H2,vs,nds,ss,e2,p2,hcut,oP,hpar,oS,bP,bS,bvs⟩:=XG D n hn p1.ok hu1.1 hsh (by omega);obtain⟨ts,c1,c2⟩:=JU hcut rn wx;have few:nds.length<=6:=by
   by_cases hb:Nd.size nd<=500
   ·rw[(hcut.one_inv hb).1];simp
   ·have:=(JT c1 wx (.inr (by rw[<-rn.size];omega))).2.2.1;rw[c2.len];exact this
  have ch2:=ch1.step p2;obtain⟨kv,H3,e3',ch3,a3,o3,f3⟩:=V2 D n hn ch2 oP hpar (fun l hl B hB hgB=>by
   rcases bvs l hl B hB with e | e
   ·exact hu.2 B e hgB
   ·have:=Rw.blk ch1.gg.row hgB;omega) (by omega) (by omega)
  have N1:=p1.next;have N2:=p2.next;have N3:=a3.1.next
  have hnone: ∀j,qR (last+1+j) f=none:=fun j=>by
   cases hk:qR (last+1+j) f with
   | none=>rfl
   | some n2=>have:=ch.fs _ _ hk;omega
  have hnew: ∀s nd',qR s (jV last nds)=some nd'->last0<s:=fun s nd' hs=>by have:=ZZ hs;have:=ch.le;omega
  have more: ∀p nd,Qf q f p=some nd->Qf q (f++jV last nds) p=some nd:=fun p nd hp=>K7 hq hnew hp
  have at1: ∀j nd',nds[j]? =some nd'->Qf q (f++jV last nds) (pp (last+1+j))=some nd':=fun j nd' hj=>by rw[QE,jU,hnone];simp only[dG hj]
  have okv:uI H3 kv (pps last nds.length):=by
   have:=o3.row;rw[uI,fY];exact this
  have lkv:=okv.lnSl;rw[fY]at lkv;have t00: ¬(((0:Nat):Int)≠((0:Nat):Int)):=by omega
  by_cases hb:Nd.size nd<=500
  ·obtain⟨rfl,rfl⟩:=hcut.one_inv hb;have hone:(([nd].length:Nat):Int)=((1:Nat):Int):=rfl;have wr:WR h t:=wx.wr (by
    cases h with
    | zero=>obtain⟨rfl,_⟩:=rn;intro e;exact hk (by rw[show t=([]:Kvs)from e];rfl)
    | succ h=>exact(show t.1≠[]from rn.2.1▸hk)) (by rw[<-rn.size];exact hb)
   have hfp: ∀p∈pp (last+1)::Fr,∃j,p=pp j/\last0<j:=fun p hp=>by
    rcases List.mem_cons.1 hp with rfl | hp
    ·exact⟨_,rfl,by have:=ch.le;omega⟩
    ·exact hFr' p hp
   have hfn:(pp (last+1)::Fr).Nodup:=List.nodup_cons.2 ⟨fun hp=>by
    obtain⟨j,e,_,hj⟩:=hFr _ hp;have:=dT e;omega,hFn⟩
   obtain⟨H4,e4,dn⟩:=gZ D n (s:=last+1) (t:=t) (S:=S) ti hq ch3 hgl (by simp;omega) hgn hql (at1 0 nd rfl) (rn.mono fun p _ nd hp=>more p nd hp) wr (List.Perm.cons _ hS) hG hfp hfn hR;refine⟨H4, ?_,dn.mono (by simp) (by simp)⟩;obtain⟨qk,ik,ik'⟩:=uI.at okv (i:=0) (by simp[pps]);have hkk:(pps last [nd].length)[0]'(by simp[pps])=pp (last+1):=by simp[pps]
   rw[hkk]at ik';simp(maxSteps:=999999)(disch:=omega) only[f46,eZ,b1,e1,j1.row.lnSl,hk0,xL g1 rfl,e2,qH,nth,t00,e3',lkv,hone,ik,ik',e4,zHO]
  ·have hss:=hcut.more_inv (by omega);obtain⟨w1,w2,w3,_⟩:=JT c1 wx (.inr (by rw[<-rn.size];omega));have hlen:=w1.2.2.len;simp only at hlen;have hssl:ss.length≠0:=fun e=>hss (zF e)
   have hnl:=c2.len;have hone: ¬((nds.length:Nat):Int)=((1:Nat):Int):=by omega
   have c2':zAg (Qf q (f++jV last nds)) h nds ts S:=by
    have mono: ∀ {nds':List Nd.Node} {ts':List (Bt.Tr h)} {S':List Ptr},zAg (Qf q f) h nds' ts' S'->zAg (Qf q (f++jV last nds)) h nds' ts' S':=by
     intro nds'
     induction nds' with
     | nil=>intro ts' S' hp;cases ts' with
      | nil=>exact hp
      | cons=>exact hp.elim
     | cons a nds' ih=>intro ts' S' hp;cases ts' with
      | nil=>exact hp.elim
      | cons b ts'=>
       obtain⟨S1,S2,a1,a2,a3⟩:=hp;exact⟨S1,S2,a1.mono fun p _ nd hp=>more p nd hp,ih a2,a3⟩
    exact mono c2
   obtain⟨S2,r2,pm2⟩:=c2'.kids last at1;have g31:H3.h.get A3=some (.cells [.bool nd.leaf,ks,vs0,ps] 61 1 false):=by
    rw[a3.1.keep _ (by omega) (fun hc=>by
     rcases hc with e | e | e
     ·have:=ch.ltC;omega
     ·have:=ch.ltF;omega
     ·have:=Rw.blk ch.gg.row e;omega)]
    exact Prs.get p2 p1.ok g1
   have oS3:Own 1 9 H3 sv ss.length (ss.map Go.Eng.S):=oS.mono a3.1 (fun B hB hc=>by
    have:=bS B hB;rcases hc with e | e | e
    ·have:=ch.ltC;omega
    ·have:=ch.ltF;omega
    ·have:=Rw.blk ch.gg.row e;omega)
   have hG4:qY H3 (.agg [.bool false,sv, .nilSlice,kv]) ⟨false,ss,[],pps last nds.length⟩:=⟨sv, .nilSlice,kv,rfl, .inl oS3, .inl (Own.nil ..), .inl (by
    simp only[fY];exact o3)⟩
   have hA4:jM H3 g (.agg [.bool false,sv, .nilSlice,kv]) ⟨false,ss,[],pps last nds.length⟩:=⟨hG4,fun B hB hgB=>by
    have:=Rw.blk ch.gg.row hgB;rcases jS.1 hB with e | e | e
    ·have:=bS B e;omega
    ·exact(Blk.nil.1 e).elim
    ·have:=f3 B e;omega⟩
   obtain⟨H4,e4,ch4,a4⟩:=zDH D n ch3 hA4 (by omega);have hne4:qR (last+nds.length+1) (f++jV last nds)=none:=by
    cases hk:qR (last+nds.length+1) (f++jV last nds)with
    | none=>rfl
    | some n2=>have:=ch3.fs _ _ hk;omega
   have more4: ∀p nd',Qf q (f++jV last nds) p=some nd'->Qf q (f++jV last nds++[(last+nds.length+1,⟨false,ss,[],pps last nds.length⟩)]) p=some nd':=fun p nd' hp=>K7 hq (fun s nd hs=>by
    simp only[qR]at hs;split at hs
    ·have:=ch.le;omega
    ·cases hs) hp
   have at4:Qf q (f++jV last nds++[(last+nds.length+1,⟨false,ss,[],pps last nds.length⟩)]) (pp (last+nds.length+1))=some ⟨false,ss,[],pps last nds.length⟩:=by
    rw[QE,jU,hne4];simp[qR]
   have rn4:jL (Qf q (f++jV last nds++[(last+nds.length+1,⟨false,ss,[],pps last nds.length⟩)])) (h+1) ⟨false,ss,[],pps last nds.length⟩ (ss,ts) S2:=⟨rfl,rfl,rfl,r2.mono (fun p _ nd hp=>more4 p nd hp) (fun nd t S1 _ hr=>hr.mono fun p _ nd hp=>more4 p nd hp)⟩;have hsum:=fT (ks:=ss) (fun k hk=>(w1.1 k hk).1);have wr4:WR (h+1) (ss,ts):=⟨w1,hss,by simp only[yZ];omega⟩;have hfp: ∀p∈pp (last+nds.length+1)::(pps last nds.length++Fr),∃j,p=pp j/\last0<j:=fun p hp=>by
    have:=ch.le;rcases List.mem_cons.1 hp with rfl | hp
    ·exact⟨_,rfl,by omega⟩
    ·rcases List.mem_append.1 hp with hp | hp
     ·obtain⟨j,rfl,h1,h2⟩:=bG hp;exact⟨_,rfl,by omega⟩
     ·exact hFr' p hp
   have hfn:(pp (last+nds.length+1)::(pps last nds.length++Fr)).Nodup:=by
    refine List.nodup_cons.2 ⟨fun hp=> ?_,List.nodup_append.2 ⟨Z1 _ _,hFn,fun a ha b hb e=> ?_⟩⟩
    ·rcases List.mem_append.1 hp with hp | hp
     ·obtain⟨j,e,h1,h2⟩:=bG hp;have:=dT e;omega
     ·obtain⟨j,e,h1,h2⟩:=hFr _ hp;have:=dT e;omega
    ·obtain⟨j,rfl,h1,h2⟩:=bG ha;obtain⟨j',rfl,h3,h4⟩:=hFr _ hb;have:=dT e;omega
   have hT:(pp (last+nds.length+1)::S2).Perm ((pp (last+nds.length+1)::(pps last nds.length++Fr))++R):=by
    rw[List.cons_append,List.append_assoc];exact List.Perm.cons _ (pm2.trans (List.Perm.append_left _ hS))
   obtain⟨H5,e5,dn⟩:=gZ D n (s:=last+nds.length+1) ti hq ch4 hgl (by omega) hgn hql at4 rn4 wr4 hT hG hfp hfn hR;have hcon:con (h+1) (ss,ts)=con h t:=w2;rw[hcon]at dn;refine⟨H5, ?_,dn.mono (by omega) (by omega)⟩;simp(maxSteps:=999999)(disch:=omega) only[f46,eZ,b1,e1,j1.row.lnSl,hk0,xL g1 rfl,e2,qH,nth,t00,e3',lkv,hone,zI6 oS3.row.isCell okv.isCell,e4,e5,zHO]
end Go.Eng.Sh
end
section
namespace Go.Bt
open Go.Nd (Str Kvs qM)
theorem WR.gen: ∀ {h:Nat} {t:Tr h},WR h t->Gen h none none t
 | 0,_,w=>w.1
 | _+1,_,w=>w.1
theorem WR.sz: ∀ {h:Nat} {t:Tr h},WR h t->yT h t<=500
 | 0,_,w=>w.2.2
 | _+1,_,w=>w.2.2
theorem BM {h:Nat} : ∀ {ts:List (Tr h)},(∀t∈ts,2 ^ h<=(con h t).length)->ts.length*2 ^ h<=(ts.flatMap (con h)).length
 | [],_=>by simp
 | t::ts,ih=>by
  have h1:=ih t (zC ..);have h2:=BM (ts:=ts) fun t ht=>ih t (zA _ ht)
  simp only[zH,zW,zJ,Nat.add_mul,Nat.one_mul];omega
theorem zCm {h:Nat}{lo hi:Bd}{t:List Str×List (Tr h)}(ih: ∀ {lo hi:Bd} {t:Tr h},WF h lo hi t->2 ^ h<=(con h t).length)(w:Inn (WF h) lo hi t)(hne:t.1≠[]):2 ^ (h+1)<=(t.2.flatMap (con h)).length:=by
 have hl:=w.2.2.len;have hk:t.1.length≠0:=fun e=>hne (zF e)
 have hf:=BM (ts:=t.2) fun x hx=>by
  obtain⟨i,hi,rfl⟩:=List.getElem_of_mem hx;exact ih (KB.at w.2.2 (zB hi))
 have h2:2*2 ^ h<=t.2.length*2 ^ h:=q5 _ (by omega);rw[Nat.pow_succ];omega
theorem WF.many: ∀ {h:Nat} {lo hi:Bd} {t:Tr h},WF h lo hi t->2 ^ h<=(con h t).length
 | 0,_,_,t,w=>by
  have:List.length (t:Kvs)≠0:=fun e=>w.2.1 (zF e)
  show 1<=List.length (t:Kvs);omega
 | _+1,_,_,_,w=>zCm WF.many w.1 w.2.1
theorem WR.many: ∀ {h:Nat} {t:Tr h},WR h t->2 ^ h<=(con h t).length
 | 0,t,w=>by
  have:List.length (t:Kvs)≠0:=fun e=>w.2.1 (zF e)
  show 1<=List.length (t:Kvs);omega
 | _+1,_,w=>zCm WF.many w.1 w.2.1
theorem WR.low {h:Nat}{t:Tr h}(w:WR h t)(hk:(con h t).length<=1000000000):h<=29:=by
 have:=w.many;rcases Nat.lt_or_ge h 30 with h1 | h1
 ·omega
 ·have h2:2 ^ 30<=2 ^ h:=Nat.pow_le_pow_right (by decide) h1;have h3:(2:Nat) ^ 30=1073741824:=by decide
  omega
end Go.Bt
namespace Go.Eng.Sh
open Go.Nd (Ptr y9 qM Kvs)
open Go.Bt
theorem cbx:(∀A o,qQ (.ptr A o)=[.ptr A o])/\qQ .nilPtr=[.nilPtr]/\qQ .nilFunc=[.nilFunc]/\(∀k z,qQ (.int k z)=[.int k z])/\(∀l,qQ (S l)=[S l])/\(∀ed K V,qQ (edF ed K V)=[edF ed K V])/\(∀A o,aveq (.ptr A o) (.ptr A o)=true):=
 ⟨fun _ _=>rfl,rfl,rfl,fun _ _=>rfl,fun _=>rfl,fun ed _ _=>by cases ed<;>rfl,fun _ _=>by simp[aveq]⟩
theorem zI3 {H H':AH}{At Ac F last:Nat}(s:Prs H H')(gC:H'.h.get Ac=some (.cells [.ptr At 0, .int .u64 (last:Nat), .map F, .nilSlice] 105 1 false))(gF:H'.h.get F=some (.map [10] []))(dC:H.next<=Ac)(dF:H.next<=F)(ne:Ac≠F):
  Ch H H' At Ac F [] [] .nilSlice [] last last:=
 ⟨s,gC,gF,trivial,Own.nil ..,fun B hB=>(Blk.nil.1 hB).elim,fun _ h=>by simp at h,dC,dF,ne,fun _ _ h=>by simp[qR]at h,Nat.le_refl _,by simp,by simp,by simp⟩
theorem XJ (M n:Nat)(hM:300000000<=M)(hn:300000000<=n){H:AH}{At M0 K V last:Nat}{d c dr:AV}{root:Ptr}{es:List (AV×AV)}{q:PN}{kv:Kvs}{ed:Ed}(ti:TI H At M0 d c root es q last dr)(hq: ∀s nd,qR s q=some nd->s<=last)(hql:q.length<=last)(hl:last<=500000000)
  (hr:zDW q root kv) (hkv:kv.length<=1000000000) (ho:ed.ok) (hb:edB H ed K V):
  ∃(e:Nat) (H':AH),f19 (dy (M+2)) n [.ptr At 0,S ed.key,edF ed K V] H=some (.int .i64 (e:Nat),H')/\
   match ed.run kv with
   | none=>e=5/\Prs H H'
   | some kv'=>e=0/\zFQ H H' At M0 d c dr last (last+200) kv':=by
 obtain⟨H1,B2,b1,p1,g1,m1,n1⟩:=box ti.ok (.cells [.ptr At 0] 25 1 false);obtain⟨H2,B4,b2,p2,g2,m2,n2⟩:=box p1.ok (.cells [S ed.key] 9 1 false);obtain⟨H3,B3,b3,p3,g3,m3,n3⟩:=box p2.ok (.cells [edF ed K V] 64 1 false);obtain⟨H4,F,b4,p4,g4,m4,n4⟩:=box p3.ok (.map [10] []);obtain⟨H5,Ac,b5,p5,g5,m5,n5⟩:=box p4.ok (.cells [.ptr At 0, .int .u64 (last:Nat), .map F, .nilSlice] 105 1 false);obtain⟨H6,B6,b6,p6,g6,m6,n6⟩:=box p5.ok (.cells [.nilPtr] 103 1 false);obtain⟨H7,e7,x7,s7⟩:=Box.st (⟨_,g6⟩:Box H6 B6 .nilPtr) p6.ok (x:= .ptr Ac 0) rfl;have P12:=p1.trans p2;have P13:=P12.trans p3;have P15:=(P13.trans p4).trans p5;have P16:=P15.trans p6;have P17:Prs H H7:=P16.fresh s7 (fun B hB=>by have:=P15.next;omega)
 have N1:=p1.next;have N2:=p2.next;have N3:=p3.next;have N4:=p4.next;have N5:=p5.next;have N6:=p6.next;have N7:=s7.next
 have keep7: ∀ {A:Nat} {o:AObj},H5.h.get A=some o->H7.h.get A=some o:=fun {A o} hg=>by
  have:=p5.ok.lt hg;rw[s7.keep _ (by omega) (by omega)];exact Prs.get p6 p5.ok hg
 have g57:=keep7 g5;have g47:=keep7 (Prs.get p5 p4.ok g4);have ch:Ch H H7 At Ac F [] [] .nilSlice [] last last:=zI3 P17 g57 g47 (by omega) (by omega) (by omega);have ti7:=ti.prs P17;have ti3:=ti.prs P13;have k2:Box H7 B2 (.ptr At 0):=⟨_,keep7 (Prs.get (p4.trans p5) p3.ok (Prs.get p3 p2.ok (Prs.get p2 p1.ok g1)))⟩;have k3:Box H7 B3 (edF ed K V):=⟨_,keep7 (Prs.get (p4.trans p5) p3.ok g3)⟩;have k4:Box H7 B4 (S ed.key):=⟨_,keep7 (Prs.get (p4.trans p5) p3.ok (Prs.get p3 p2.ok g2))⟩;have l2:ld1 (.ptr B2 0) H3=some (.ptr At 0):=by rw[qJ (Prs.get p3 p2.ok (Prs.get p2 p1.ok g1))];rfl
 have l6:ld1 (.ptr At 6) H3=some (.int .u64 (last:Nat)):=by rw[qJ ti3.gT];rfl
 have l2':ld1 (.ptr At 2) H7=some (.int .i64 root.at_):=by rw[qJ ti7.gT];rfl
 have bs:kJ [(0,1),(1,1),(2,1),(3,1)] [.nilPtr, .int .u64 ((0:Nat):Int), .nilMap, .nilSlice] [(0, .ptr At 0),(1, .int .u64 (last:Nat)),(2, .map F)]=some (.agg [.ptr At 0, .int .u64 (last:Nat), .map F, .nilSlice]):=rfl;have bs1:kJ [(0,1),(1,1),(2,1),(3,1)] [.bool false, .nilSlice, .nilSlice, .nilSlice] [(0, .bool true)]=some (.agg [.bool true, .nilSlice, .nilSlice, .nilSlice]):=rfl;have t00: ¬(((0:Nat):Int)≠((0:Nat):Int)):=by omega
 have t50:(((5:Nat):Int)≠((0:Nat):Int)):=by omega
 rcases hr with⟨rfl,rfl⟩ | ⟨s,h,nd,t,S0,rfl,hs,rn,wr,nd0,rfl⟩
 ·
  have hroot:pZ.at_=((0:Nat):Int):=rfl;rw[hroot]at l2';have wl:qY H7 (.agg [.bool true, .nilSlice, .nilSlice, .nilSlice]) (qM []):=⟨.nilSlice, .nilSlice, .nilSlice,rfl, .inl (Own.nil ..), .inl (Own.nil ..), .inl (Own.nil ..)⟩;have wlf:Lf none none ([]:Kvs):=⟨trivial,by simp⟩;obtain⟨u,H8,_,e8,p8,w8⟩:=zDa (M+1) n (by omega) P17.ok wl wlf (by decide) ho (hb.prs ti.ok P17);obtain⟨lu,rfl,lul,luc⟩:=w8.1.cells;obtain⟨H9,B8,b9,p9,g9,m9,n9⟩:=box p8.ok (.cells [.bool false, .nilSlice, .nilSlice, .nilSlice] 61 1 false);obtain⟨H10,e10,g10,s10,n10⟩:=yE p9.ok g9 (l':=lu) lul luc;have e10':stN 4 (.ptr B8 0) (.agg lu) H9=some (qI,H10):=e10;have N8:=p8.next;have N9:=p9.next;have N10:=s10.next
  have P70:Prs H7 H10:=(p8.trans p9).fresh s10 (fun B hB=>by omega);have ch10:=ch.step P70
  cases hrun:ed.run []with
  | none=>
   have hel:edL ed []=(nd0,5):=by simp only[edL,hrun]
   rw[hel]at e8;refine⟨5,H10, ?_,rfl,P17.trans P70⟩;simp(maxSteps:=999999)(disch:=omega) only[f19,eZ,b1,b2,b3,cbx,l2,l6,mkM,b4,bs,b5,b6,e7,k2.ld,l2',k3.ld,bs1,e8,qH,nth,b9,e10',t50,ne_eq,not_false_eq_true]
  | some kv'=>
   have hel:edL ed []=(qM kv',0):=by simp only[edL,hrun]
   rw[hel]at e8 w8;obtain⟨wf1,wf2⟩:=Ed.leaf (lo:=none) (hi:=none) wlf trivial trivial ho hrun;have hne:kv'≠[]:=by
    cases ed with
    | put k v=>simp only[Ed.run,z7]at hrun;subst hrun;simp[Nd.putP]
    | del k=>simp[Ed.run,Nd.lookP]at hrun
   have hu10:jM H10 .nilSlice (.agg lu) (qM kv'):=⟨(w8.1.prs p9).stp s10 (fun B hB e=>by
    have:=w8.1.lt hB;omega),fun B hB hg=>(Blk.nil.1 hg).elim⟩
   obtain⟨H11,e11,ch11,a11⟩:=zDH (dy (M+2)) n ch10 hu10 (by omega);have hQ:Qf q ([]++[(last+1,qM kv')]) (pp (last+1))=some (qM kv'):=by rw[QE];simp[qR]
   obtain⟨H12,e12,dn⟩:=gZ (dy (M+2)) n (s:=last+1) (h:=0) (t:=kv') (S:=[]) (Fr:=[pp (last+1)]) (R:=[]) ti hq ch11 (by simp) (by omega) (by simp;omega) hql hQ ⟨rfl,rfl⟩ ⟨wf1,hne,by simp only[u6]at wf2;omega⟩ (by simp) (by simp) (by
    intro p hp;simp only[List.mem_singleton]at hp;subst hp;exact⟨_,rfl,by omega⟩) (by simp) (by simp)
   refine⟨0,H12, ?_,rfl,dn.mono (by omega) (by omega)⟩;have k6:ld1 (.ptr B6 0) H10=some (.ptr Ac 0):=(x7.mono s7.ok P70 (fun x=>x)).ld;have k6':ld1 (.ptr B6 0) H11=some (.ptr Ac 0):=by
    refine((x7.mono s7.ok P70 (fun x=>x)).mono P70.ok a11.1 (fun hc=> ?_)).ld;rcases hc with e | e | e
    ·omega
    ·omega
    ·exact(Blk.nil.1 e).elim
   simp(maxSteps:=999999)(disch:=omega) only[f19,eZ,b1,b2,b3,cbx,l2,l6,mkM,b4,bs,b5,b6,e7,k2.ld,l2',k3.ld,bs1,e8,qH,nth,b9,e10',t00,k6,xL g10 lul,e11,j8 k6' (cbx.2.2.2.2.2.2 _ _),e12]
 ·
  have hroot:(pp s).at_=((1:Nat):Int):=rfl;rw[hroot]at l2';have h10: ¬((1:Nat):Int)=((0:Nat):Int):=by omega
  have hh:=wr.low hkv;obtain⟨H8,B1,b8,p8,g8,m8,n8⟩:=box P17.ok (.cells [.int .i64 ((0:Nat):Int)] 3 1 false);obtain⟨H9,e9,x9,s9⟩:=Box.st (⟨_,g8⟩:Box H8 B1 (.int .i64 ((0:Nat):Int))) p8.ok (x:= .int .i64 ((0:Nat):Int)) rfl;obtain⟨H10,B5,b10,p10,g10,m10,n10⟩:=box s9.ok (.cells [.nilFunc] 85 1 false);obtain⟨H11,e11,x11,s11⟩:=Box.st (⟨_,g10⟩:Box H10 B5 .nilFunc) p10.ok (x:=zAJ B1 B2 B3 B4 B5 B6) rfl;obtain⟨H12,B8,b12,p12,g12,m12,n12⟩:=box s11.ok (.cells [.bool false, .nilSlice, .nilSlice, .nilSlice] 61 1 false);have N8:=p8.next;have N9:=s9.next;have N10:=p10.next;have N11:=s11.next;have N12:=p12.next
  have P79:Prs H7 H9:=p8.fresh s9 (fun B hB=>by omega);have P7b:Prs H7 H11:=(P79.trans p10).fresh s11 (fun B hB=>by omega);have P7c:Prs H7 H12:=P7b.trans p12;have ch12:=ch.step P7c;have ti12:=ti7.prs P7c;have ti11:=ti7.prs P7b;have x9':Box H12 B1 (.int .i64 ((0:Nat):Int)):=((x9.mono s9.ok p10 (fun x=>x)).mono p10.ok s11 (by omega)).mono s11.ok p12 (fun x=>x);have x11':Box H12 B5 (zAJ B1 B2 B3 B4 B5 B6):=x11.mono s11.ok p12 (fun x=>x);have k6:Box H12 B6 (.ptr Ac 0):=x7.mono s7.ok P7c (fun x=>x);have cl:Cl H H12 At Ac K V ed B1 B2 B3 B4 B5 B6 0:=⟨x9',k2.mono s7.ok P7c (fun x=>x),k3.mono s7.ok P7c (fun x=>x),k4.mono s7.ok P7c (fun x=>x),x11',k6,hb,by omega,by omega,by omega,by omega,by omega,by omega⟩;have hold: ∀kv∈es,∀B,v5 kv.2 B->B<H.next:=fun kv hkv B hB=>by
   obtain⟨nd2,hn2⟩:=ti.pq.mem kv hkv;exact hn2.lt hB
  have hne:0<h->nd.keys≠[]:=fun h0=>by
   cases h with
   | zero=>omega
   | succ h=>rw[rn.2.1];exact wr.2.1
  obtain⟨u,e,g',H13,e13,s13,⟨lu,rfl,lul,luc⟩,hout⟩:=zHW ti hold hq ho h M (M+1) (by omega) (by omega) ch12 cl hs rn wr.gen wr.sz hne (by cases h<;>trivial) (by cases h<;>trivial) (by omega) (by omega) (by simp;omega);have hB8: ¬(chg Ac F .nilSlice B8\/B8=B1):=fun hc=>by
   rcases hc with(e | e | e) | e
   ·omega
   ·omega
   ·exact(Blk.nil.1 e).elim
   ·omega
  have g813:H13.h.get B8=some (.cells [.bool false, .nilSlice, .nilSlice, .nilSlice] 61 1 false):=by rw[s13.keep _ n12 hB8];exact g12
  have k613:Box H13 B6 (.ptr Ac 0):=k6.mono p12.ok s13 (fun hc=>by
   rcases hc with(e | e | e) | e
   ·omega
   ·omega
   ·exact(Blk.nil.1 e).elim
   ·omega)
  obtain⟨H14,e14,g14,s14,n14⟩:=yE s13.ok g813 (l':=lu) lul luc;have e14':stN 4 (.ptr B8 0) (.agg lu) H13=some (qI,H14):=e14;have k614:ld1 (.ptr B6 0) H14=some (.ptr Ac 0):=(k613.mono s13.ok s14 (by omega)).ld;have l2b:ld1 (.ptr B2 0) H11=some (.ptr At 0):=(k2.mono s7.ok P7b (fun x=>x)).ld;have lr:ldN 3 (.ptr At 2) H11=some (.agg (y7 (pp s))):=by rw[qN ti11.gT];rfl
  have x11l:=x11.ld;have hcd:callV (s19 (dy (M+2)) n).S (dy (M+2)) (zAJ B1 B2 B3 B4 B5 B6) [.agg (y7 (pp s))] H12=some (.tuple [.agg lu, .int .i64 ((e:Nat):Int)],H13):=e13;have hdf:(.func 43 [] [.ptr B1 0, .ptr B2 0, .ptr B3 0, .ptr B4 0, .ptr B5 0, .ptr B6 0]:AV)=zAJ B1 B2 B3 B4 B5 B6:=rfl
  cases hrun:ed.run (con h t)with
  | none=>
   rw[hrun]at hout;have hout:e=5:=hout;subst hout;refine⟨5,H14, ?_,rfl,⟨s14.ok,by have:=s13.next;have:=s14.next;omega,fun B hB _=> ?_⟩⟩
   ·simp(maxSteps:=999999)(disch:=omega) only[f19,eZ,b1,b2,b3,cbx,l2,l6,mkM,b4,bs,b5,b6,e7,k2.ld,l2',h10,b8,e9,b10,hdf,e11,x11l,l2b,lr,b12,hcd,qH,nth,e14',t50,ne_eq,not_false_eq_true]
   ·have:=s13.next
    rw[s14.keep B (by omega) (by omega),s13.keep B (by omega) (fun hc=>by
     rcases hc with(e | e | e) | e
     ·omega
     ·omega
     ·exact(Blk.nil.1 e).elim
     ·omega),P7c.keep B (by omega) (fun x=>x),P17.keep B hB (fun x=>x)]
  | some kv'=>
   rw[hrun]at hout;obtain⟨rfl,fes',f',gl',last',d',nd',S',G,R,Fr,t',ch13,cl13,hA13,rn13,wx13,con13,nk13,hgl,hG,hl1,hl2,hd',pm1,pm2,frn,fr1,more,bg⟩:=hout;have ch14:=ch13.stb g813 s14 (by omega) (by omega);have hA14:=hA13.stb g813 s14;rw[List.nil_append]at hgl;subst hgl;have hSn:(pp s::S0).Nodup:=nd0;have hGR:(gl'++R).Nodup:=pm2.nodup_iff.1 hSn;have hall: ∀p∈pp s::S0,∃nd,Qf q [] p=some nd:=fun p hp=>by
    rcases List.mem_cons.1 hp with rfl | hp
    ·exact⟨nd,by rw[QE];simpa[qR]using hs⟩
    ·exact jL.here rn p hp
   have hin: ∀p∈gl'++R,∃nd,Qf q [] p=some nd:=fun p hp=>hall p (pm2.mem_iff.2 hp)
   have hglp: ∀p∈gl',∃s,p=pp s:=fun p hp=>by
    obtain⟨nd2,h2⟩:=hin p (zU _ hp);obtain⟨s2,rfl,_⟩:=bC h2;exact⟨s2,rfl⟩
   obtain⟨H15,e15,dn⟩:=zFn (dy (M+2)) n (by omega) ti hq ch14 hglp (by omega) (by omega) hql hA14 rn13 wx13 pm1 hGR fr1 frn (fun p hp=>hin p (zZ _ hp));rw[con13]at dn;refine⟨0,H15, ?_,rfl,dn.mono (by omega) (by omega)⟩;simp(maxSteps:=999999)(disch:=omega) only[f19,eZ,b1,b2,b3,cbx,l2,l6,mkM,b4,bs,b5,b6,e7,k2.ld,l2',h10,b8,e9,b10,hdf,e11,x11l,l2b,lr,b12,hcd,qH,nth,e14',t00,k614,xL g14 lul,e15]
open Go.Nd (mayK putP delP lookP)
def jA (H:AH)(At M L:Nat)(kv:Kvs):Prop:= ∃d c dr root es q last,dr= .nilSlice/\isCell c=true/\TI H At M d c root es q last dr/\(∀s nd,qR s q=some nd->s<=last)/\q.length<=last/\last<=L/\zDW q root kv
theorem jA.prs {H H':AH}{At M L:Nat}{kv:Kvs}(h:jA H At M L kv)(s:Prs H H'):jA H' At M L kv:=by
 obtain⟨d,c,_,root,es,q,last,rfl,hc,ti,h2⟩:=h;exact⟨d,c,_,root,es,q,last,rfl,hc,ti.prs s,h2⟩
theorem jA.up {H:AH}{At M L L':Nat}{kv:Kvs}(h:jA H At M L kv)(hl:L<=L'):jA H At M L' kv:=by
 obtain⟨d,c,_,root,es,q,last,rfl,hc,ti,h2,h3,h4,h5⟩:=h;exact⟨d,c,_,root,es,q,last,rfl,hc,ti,h2,h3,by omega,h5⟩
theorem zFQ.treeI {H0 H':AH}{At M low top:Nat}{d c:AV}{kv:Kvs}(h:zFQ H0 H' At M d c .nilSlice low top kv)(hc:isCell c=true):jA H' At M top kv/\Stp (fun B=>B=At\/B=M) H0 H':=by
 obtain⟨root,es,q,last,h1,h2,h3,h4,h5,h6,h7⟩:=h;exact⟨⟨d,c,_,root,es,q,last,rfl,hc,h1,h3,h4,h6,h7⟩,h2⟩
theorem TI.stp {S:Nat->Prop}{H H':AH}{At M last:Nat}{d c dr:AV}{root:Ptr}{es:List (AV×AV)}{q:PN}(h:TI H At M d c root es q last dr)(s:Stp S H H')(hA: ¬S At)(hM: ¬S M)(hN: ∀kv∈es,∀B,v5 kv.2 B-> ¬S B):TI H' At M d c root es q last dr:=by
 refine⟨s.ok,by rw[s.keep _ (h.ok.lt h.gT) hA];exact h.gT,by rw[s.keep _ (h.ok.lt h.gM) hM];exact h.gM, ?_,h.hd,h.few⟩;exact h.pq.frame fun kv hkv nd hn=>hn.stp s (hN kv hkv)
def Z0 (k v:Str):Bool:=mayK k&&decide (v.length<=200)
theorem zHe (m n:Nat)(hm:300000000<=m)(hn:300000000<=n){H:AH}{At M L:Nat}{kv:Kvs}{k v:Str}(t:jA H At M L kv)(hL:L<=500000000)(hkv:kv.length<=1000000000):
  ∃H',f8 (dy (m+2)) n [.ptr At 0,S k,S v] H=some (.int .i64 ((if Z0 k v then 0 else 1:Nat):Int),H')/\jA H' At M (L+200) (if Z0 k v then putP k v kv else kv)/\Stp (fun B=>B=At\/B=M) H H':=by
 obtain⟨d,c,_,root,es,q,last,rfl,hc,ti,h2,h3,h4,h5⟩:=id t;obtain⟨H1,A4,b1,p1,g1,m1,n1⟩:=box ti.ok (.cells [S k] 9 1 false);obtain⟨H2,A5,b2,p2,g2,m2,n2⟩:=box p1.ok (.cells [S v] 9 1 false);have P2:=p1.trans p2;have ti2:=ti.prs P2;have x4:Box H2 A4 (S k):=⟨_,Prs.get p2 p1.ok g1⟩;have x5:Box H2 A5 (S v):=⟨_,g2⟩;have hno:=VO (dy (m+2)) n ti2;by_cases hp:Z0 k v=true
 ·obtain⟨hp1,hp2⟩:mayK k=true/\v.length<=200:=by simpa[Z0]using hp
  obtain⟨e,H3,e3,hout⟩:=XJ m n hm hn (ed:= .put k v) ti2 h2 h3 (by omega) h5 hkv ⟨hp1,hp2⟩ ⟨x4,x5⟩;simp only[Ed.run]at hout;obtain⟨rfl,dn⟩:=hout;obtain⟨d1,d2⟩:=dn.treeI hc;simp only[Nd.mayK,z8,zE]at hp1;refine⟨H3, ?_,by rw[if_pos hp];exact d1.up (by omega),(P2.mono fun _ _ x=>x.elim).trans d2⟩;have a1: ¬((k.length:Nat):Int)< ((1:Nat):Int):=by omega
  have a2: ¬((40:Nat):Int)< ((k.length:Nat):Int):=by omega
  have a3: ¬((200:Nat):Int)< ((v.length:Nat):Int):=by omega
  have e3':f19 (dy (m+2)) n [.ptr At 0,S k, .func 20 [] [.ptr A4 0, .ptr A5 0]] H2=some (.int .i64 ((0:Nat):Int),H3):=e3;simp(maxSteps:=999999)(disch:=omega) only[f8,eZ,cbx,b1,b2,hno,x4.ld,x5.ld,a1,a2,a3,e3',hp]
 ·refine⟨H2, ?_,by rw[if_neg hp];exact(t.prs P2).up (by omega),P2.mono fun _ _ x=>x.elim⟩;have hx:((k.length:Nat):Int)< ((1:Nat):Int)\/((40:Nat):Int)< ((k.length:Nat):Int)\/((200:Nat):Int)< ((v.length:Nat):Int):=by
   simp only[Z0,Nd.mayK,z8,zE]at hp;omega
  simp(maxSteps:=999999)(disch:=omega) only[f8,eZ,cbx,b1,b2,hno,x4.ld,x5.ld,hp];rw[if_pos (by simpa[or_assoc]using hx)];rfl
def QB (k:Str)(kv:Kvs):Nat:=if mayK k then(if(lookP k kv).isSome then 0 else 5)else 1
theorem zHZ (m n:Nat)(hm:300000000<=m)(hn:300000000<=n){H:AH}{At M L:Nat}{kv:Kvs}{k:Str}(t:jA H At M L kv)(hL:L<=500000000)(hkv:kv.length<=1000000000):
  ∃H',f30 (dy (m+2)) n [.ptr At 0,S k] H=some (.int .i64 ((QB k kv:Nat):Int),H')/\jA H' At M (L+200) (if QB k kv=0 then delP k kv else kv)/\Stp (fun B=>B=At\/B=M) H H':=by
 obtain⟨d,c,_,root,es,q,last,rfl,hc,ti,h2,h3,h4,h5⟩:=id t;obtain⟨H1,A4,b1,p1,g1,m1,n1⟩:=box ti.ok (.cells [S k] 9 1 false);have ti1:=ti.prs p1;have x4:Box H1 A4 (S k):=⟨_,g1⟩;have hno:=VO (dy (m+2)) n ti1;by_cases hp:mayK k=true
 ·obtain⟨e,H3,e3,hout⟩:=XJ m n hm hn (V:=0) (ed:= .del k) ti1 h2 h3 (by omega) h5 hkv hp x4;have hp1:=hp;simp only[Nd.mayK,z8,zE]at hp1;have a1: ¬((k.length:Nat):Int)< ((1:Nat):Int):=by omega
  have a2: ¬((40:Nat):Int)< ((k.length:Nat):Int):=by omega
  have e3':f19 (dy (m+2)) n [.ptr At 0,S k, .func 55 [] [.ptr A4 0]] H1=some (.int .i64 ((e:Nat):Int),H3):=e3;have run:f30 (dy (m+2)) n [.ptr At 0,S k] H=some (.int .i64 ((e:Nat):Int),H3):=by
   simp(maxSteps:=999999)(disch:=omega) only[f30,eZ,cbx,b1,hno,x4.ld,a1,a2,e3',hp]
  cases hr:(Ed.del k).run kv with
  | none=>
   rw[hr]at hout;obtain⟨rfl,p3⟩:=hout;have hl:(lookP k kv).isSome=false:=by
    simp only[Ed.run]at hr;split at hr
    ·cases hr
    ·rename_i h;simpa using h
   have hde:QB k kv=5:=by simp only[QB,hp,if_true,hl,Bool.false_eq_true,if_false]
   refine⟨H3,by rw[hde];exact run,by rw[hde];exact(t.prs (p1.trans p3)).up (by omega),(p1.trans p3).mono fun _ _ x=>x.elim⟩
  | some kv'=>
   rw[hr]at hout;obtain⟨rfl,dn⟩:=hout;obtain⟨d1,d2⟩:=dn.treeI hc;have hl:(lookP k kv).isSome=true/\delP k kv=kv':=by
    simp only[Ed.run]at hr;split at hr
    ·rename_i h;exact⟨h,by simpa using hr⟩
    ·cases hr
   have hde:QB k kv=0:=by simp only[QB,hp,if_true,hl.1]
   refine⟨H3,by rw[hde];exact run,by rw[hde,if_pos rfl,hl.2];exact d1.up (by omega),(p1.mono fun _ _ x=>x.elim).trans d2⟩
 ·have hde:QB k kv=1:=by simp only[QB,hp,Bool.false_eq_true,if_false]
  refine⟨H1, ?_,by rw[hde];exact(t.prs p1).up (by omega),p1.mono fun _ _ x=>x.elim⟩;rw[hde];have hx:((k.length:Nat):Int)< ((1:Nat):Int)\/((40:Nat):Int)< ((k.length:Nat):Int):=by
   simp only[Nd.mayK,z8,zE]at hp;omega
  simp(maxSteps:=999999)(disch:=omega) only[f30,eZ,cbx,b1,hno,x4.ld];rw[if_pos (by simpa using hx)];rfl
end Go.Eng.Sh
end
section
namespace Go.Eng
end Go.Eng
end
section
namespace Go.Eng.Sh
open Go.Nd (Ptr y9)
end Go.Eng.Sh
end
section
namespace Go.Eng
theorem WC {H:AH}(hk:H.ok)(o:AObj)(K:Nat->AH->Rs):V9 H o K=K H.next (H.push o):=zC6 hk o K
end Go.Eng
namespace Go.Eng.Sh
open Go.Nd (Ptr y9)
open Go.Nd (qM Kvs Srt mayK putP delP lookP)
open Go.Bt
def Item (q:PN)(p:Ptr)(c:Kvs)(w:Nat):Prop:= ∃s nd h,∃t:Bt.Tr h,∃S lo hi,p=pp s/\qR s q=some nd/\jL (Qf q []) h nd t S/\Gen h lo hi t/\(0<h->nd.keys≠[])/\yT h t<=500/\c=con h t/\w=1+S.length
end Go.Eng.Sh
end
section
namespace Go.Eng
end Go.Eng
namespace Go.Eng.Sh
open Go.Nd (Ptr y9 qM Kvs Srt mayK putP delP lookP)
open Go.Bt
def geR:Option Str->AV
 | none=> .tuple [.str 0 0, .int .i64 ((5:Nat):Int)]
 | some v=> .tuple [S v, .int .i64 ((0:Nat):Int)]
theorem zEL {h:Nat}{lo hi:Bd}{key:Str}{t:Bt.Tr (h+1)}(g:Gen (h+1) lo hi t){x:Bt.Tr h}(hx:t.2[j5 t.1 key]? =some x):lookP key (con (h+1) t)=lookP key (con h x):=by
 obtain⟨sA,sB⟩:=aH (key:=key) (ks:=t.1) (ts:=t.2) g;have:con (h+1) t=(t.2.take (j5 t.1 key)).flatMap (con h)++con h x++(t.2.drop (j5 t.1 key+1)).flatMap (con h):=by
  have e:t.2=t.2.take (j5 t.1 key)++[x]++t.2.drop (j5 t.1 key+1):=UP hx;simp only[con]
  conv=>lhs;rw[e]
  simp only[qC,zW,List.flatMap_nil,List.append_nil]
 rw[this,BC sA sB]
def GI (H4:AH)(q:PN)(kv:Kvs)(key:Str)(At A6 top:Nat)(k:Nat)(us:List AV)(H':AH):Prop:=
 ∃j s nd h,∃t:Bt.Tr h,∃(S0:List Ptr) (lo hi:Bd),us=[.ptr At 0,S key, .ptr A6 0, .int .i64 ((top:Nat):Int), .int .i64 ((j:Nat):Int)]/\k+j=top/\h<k/\Stp (fun B=>B=A6) H4 H'/\H'.h.get A6=some (.cells (y7 (pp s)) 57 1 false)/\qR s q=some nd/\jL (Qf q []) h nd t S0/\Gen h lo hi t/\yT h t<=500/\lookP key kv=lookP key (con h t)
def GQ (H:AH)(kv:Kvs)(key:Str)(e:Ex)(H':AH):Prop:=Prs H H'/\e= .ret (geR (lookP key kv))
theorem zF1 (D:Dyn)(n:Nat)(hn:300000000<=n){H H4:AH}{At M A6:Nat}{dk cch dr:AV}{root:Ptr}{es:List (AV×AV)}{q:PN}{last:Nat}{kv:Kvs}{key:Str}(ti:TI H At M dk cch root es q last dr)(hql:q.length<=90000000)(p4:Prs H H4)(m6:H.next<=A6)(l6:A6<H4.next):
  ∀k us H',GI H4 q kv key At A6 (8192+q.length) k us H'->Fin (zD0 D n us H') (orN (fun vs' H''=> ∃k',k'<k/\GI H4 q kv key At A6 (8192+q.length) k' vs' H'') (GQ H kv key)):=by
 intro k us H' ⟨j,s,nd,h,t,S0,lo,hi,hus,hkj,hhk,stp,gA6,hs,rn,gen,hz,hlk⟩;subst hus;have N4:=p4.next;have N':=stp.next
 have P':Prs H H':=p4.fresh stp (fun B hB=>by omega);have ti':=ti.prs P';have hj:((j:Nat):Int)< ((8192+q.length:Nat):Int):=by omega
 have i2:ldN 3 (.ptr A6 0) H'=some (.agg (y7 (pp s))):=by rw[qN gA6];rfl
 obtain⟨v1,H5,e5,p5,hg5,_,_⟩:=VK D n ti' hs;obtain⟨ks,vs0,ps,rfl,_⟩:=id hg5;obtain⟨H6,A7,b6,p6,g6,m6',n6⟩:=box p5.ok (.cells [.bool false, .nilSlice, .nilSlice, .nilSlice] 61 1 false);have hcell:qK [.bool nd.leaf,ks,vs0,ps]=true:=by obtain⟨_,h1,_,h3⟩:=u0 hg5;exact h3
 obtain⟨H7,e7,g7,s7,n7⟩:=yE p6.ok g6 (l':=[.bool nd.leaf,ks,vs0,ps]) rfl hcell;have e7':stN 4 (.ptr A7 0) (.agg [.bool nd.leaf,ks,vs0,ps]) H6=some (qI,H7):=e7;have N5:=p5.next;have N6:=p6.next;have N7:=s7.next
 have P7:Prs H' H7:=(p5.trans p6).fresh s7 (fun B hB=>by omega);have hg7:qY H7 (.agg [.bool nd.leaf,ks,vs0,ps]) nd:=(hg5.prs p6).stp s7 (fun B hB e=>by have:=hg5.lt hB;omega);have hsm:small nd:=kR (by rw[rn.size];omega);have f0:ld1 (.ptr A7 0) H7=some (.bool nd.leaf):=by rw[qJ g7];rfl
 have t00: ¬(((0:Nat):Int)≠((0:Nat):Int)):=by omega
 have hj1:((j:Nat):Int)+((1:Nat):Int)=((j+1:Nat):Int):=by omega
 cases h with
 | zero=>
  obtain⟨rfl,rfl⟩:=rn;have hlf:(qM (t:Kvs)).leaf=true:=rfl;rw[hlf]at f0;obtain⟨H8,e8,p8⟩:=zF3 D n (by omega) P7.ok (key:=key) hg7.node hsm;have hgl:Nd.getN (qM (t:Kvs)) key=lookP key kv:=by rw[hlk];exact Nd.get_leaf _ _
  rw[hgl]at e8;refine⟨.ret (geR (lookP key kv)),H8, ?_,P'.trans (P7.trans p8),rfl⟩
  cases hl:lookP key kv with
  | none=>
   rw[hl]at e8;simp(maxSteps:=999999)(disch:=omega) only[zD0,eZ,hj,i2,e5,qH,nth,b6,e7',t00,f0,xL g7 rfl,e8,Option.isSome_none,geR]
  | some v=>
   rw[hl]at e8;simp(maxSteps:=999999)(disch:=omega) only[zD0,eZ,hj,i2,e5,qH,nth,b6,e7',t00,f0,xL g7 rfl,e8,qG,Option.getD_some,geR]
 | succ h=>
  obtain⟨r1,r2,r3,r4⟩:=id rn;rw[r1]at f0;obtain⟨H8,e8,p8⟩:=cL D n (by omega) P7.ok (key:=key) hg7.node hsm;have hw:Nd.whereN nd key=j5 t.1 key:=vS r1 r2 key;rw[hw]at e8;have hle:=aI t.1 key;have hl:=gen.2.2.len;have hil:j5 t.1 key<t.2.length:=by omega
  have htk:=zB hil;have hlook:=zEL (key:=key) gen htk;have wk:=KB.at gen.2.2 htk;obtain⟨pk,ndk,Sa,Si,Sb,k1,k2,k3,_,_,_⟩:=r4.at htk;obtain⟨sk,rfl,hsk⟩:=bC k2;have hsk:qR sk q=some ndk:=by
   rcases hsk with hsk | ⟨_,hsk⟩
   ·simp[qR]at hsk
   ·exact hsk
  generalize j5 t.1 key=wi at*
  have hg8:=hg7.prs p8;obtain⟨ks',vs',ps',ee,j1,j2,j3⟩:=hg8;simp only[AV.agg.injEq,List.cons.injEq,and_true,true_and]at ee;obtain⟨rfl,rfl,rfl⟩:=ee;have hkl:=r4.len;obtain⟨qk,ik,ik'⟩:=uI.at (l:=nd.kids) j3.row (i:=wi) (by omega);have hkk:nd.kids[wi]'(by omega)=pp sk:=by
   rw[zB (by omega)]at k1;exact Option.some.inj k1
  rw[hkk]at ik';have N8:=p8.next
  have f3:ld1 (.ptr A7 3) H7=some ps:=by rw[qJ g7];rfl
  have f3':ld1 (.ptr A7 3) H8=some ps:=by rw[qJ (Prs.get p8 P7.ok g7)];rfl
  have gA68:H8.h.get A6=some (.cells (y7 (pp s)) 57 1 false):=Prs.get (P7.trans p8) stp.ok gA6;obtain⟨H9,e9,g9,s9,_⟩:=yE p8.ok gA68 (l':=y7 (pp sk)) rfl rfl;have e9':stN 3 (.ptr A6 0) (.agg (y7 (pp sk))) H8=some (qI,H9):=e9;have N9:=s9.next
  refine⟨.norm _,H9, ?_,k - 1,by omega,j+1,sk,ndk,h,t.2[wi],Si,_,_,rfl,by omega,by omega,⟨s9.ok,by omega,fun B hB hS=> ?_⟩,g9,hsk,k3,wk.gen,wk.sz,by rw[hlk,hlook]⟩
  ·simp(maxSteps:=999999)(disch:=omega) only[zD0,eZ,hj,i2,e5,qH,nth,b6,e7',t00,f0,f3,xL g7 rfl,e8,j8 f3' (yC j3.row),ik,ik',e9',hj1]
  ·rw[s9.keep B (by omega) hS,p8.keep B (by omega) (fun x=>x),P7.keep B (by omega) (fun x=>x)];exact stp.keep B hB hS
theorem zHB (m n:Nat)(hn:300000000<=n){H:AH}{At M L:Nat}{kv:Kvs}(key:Str)(t:jA H At M L kv)(hL:L<=90000000)(hkv:kv.length<=1000000000):
  ∃H',f12 (dy m) n [.ptr At 0,S key] H=some (if mayK key then geR (lookP key kv)else .tuple [.str 0 0, .int .i64 ((1:Nat):Int)],H')/\Prs H H':=by
 obtain⟨d,c,_,root,es,q,last,rfl,hc,ti,h2,h3,h4,h5⟩:=id t;have hno:=VO (dy m) n ti;by_cases hp:mayK key=true
 ·have hp1:=hp;simp only[Nd.mayK,z8,zE]at hp1;have a1: ¬((key.length:Nat):Int)< ((1:Nat):Int):=by omega
  have a2: ¬((40:Nat):Int)< ((key.length:Nat):Int):=by omega
  have l2':ld1 (.ptr At 2) H=some (.int .i64 root.at_):=by rw[qJ ti.gT];rfl
  rw[if_pos hp];rcases h5 with⟨rfl,rfl⟩ | ⟨s,h,nd,tr,S0,rfl,hs,rn,wr,nd0,rfl⟩
  ·have hroot:pZ.at_=((0:Nat):Int):=rfl;rw[hroot]at l2';refine⟨H, ?_,Stp.refl ti.ok⟩;have hlk:lookP key []=none:=rfl;rw[hlk];simp(maxSteps:=999999)(disch:=omega) only[f12,eZ,hno,a1,a2,l2',geR]
  ·have hroot:(pp s).at_=((1:Nat):Int):=rfl;rw[hroot]at l2';have h10: ¬((1:Nat):Int)=((0:Nat):Int):=by omega
   have hh:=wr.low hkv;have lr:ldN 3 (.ptr At 2) H=some (.agg (y7 (pp s))):=by rw[qN ti.gT];rfl
   obtain⟨H1,A6,b1,p1,g1,m1,n1⟩:=box ti.ok (.cells [.int .i64 ((0:Nat):Int), .int .i64 ((0:Nat):Int), .int .u64 ((0:Nat):Int)] 57 1 false);obtain⟨H2,e2,g2,s2,n2⟩:=yE p1.ok g1 (l':=y7 (pp s)) rfl rfl;have e2':stN 3 (.ptr A6 0) (.agg (y7 (pp s))) H1=some (qI,H2):=e2;have N1:=p1.next;have N2:=s2.next
   have P2:Prs H H2:=p1.fresh s2 (fun B hB=>by omega);have hmost:=zC8 (dy m) n (ti.prs P2);obtain⟨e,H5,e5,p5,rfl⟩:=Fin.loop (GI H2 q (con h tr) key At A6 (8192+q.length)) (zF1 (dy m) n hn ti (by omega) P2 (by omega) (by omega)) n (8192+q.length) [.ptr At 0,S key, .ptr A6 0, .int .i64 ((8192+q.length:Nat):Int), .int .i64 ((0:Nat):Int)] H2
    ⟨0,s,nd,h,tr,S0,none,none,rfl,by omega,by omega,Stp.refl s2.ok,g2,hs,rn,wr.gen,wr.sz,rfl⟩ (by omega)
   refine⟨H5, ?_,p5⟩;simp(maxSteps:=999999)(disch:=omega) only[f12,eZ,hno,a1,a2,l2',h10,lr,b1,e2',hmost,e5]
 ·rw[if_neg hp];refine⟨H, ?_,Stp.refl ti.ok⟩;have hx:((key.length:Nat):Int)< ((1:Nat):Int)\/((40:Nat):Int)< ((key.length:Nat):Int):=by
   simp only[Nd.mayK,z8,zE]at hp;omega
  simp(maxSteps:=999999)(disch:=omega) only[f12,eZ,hno];rw[if_pos (by simpa using hx)];rfl
open Go.Nd (be zHm encP)
theorem zDw: ∀(i n:Nat),be (i+1) n=UInt8.ofNat (n / 256 ^ i)::be i n
 | 0,n=>by simp[be]
 | i+1,n=>by
  rw[be,zDw i (n / 256),Nat.div_div_eq_div_mul,Nat.mul_comm 256,<-Nat.pow_succ];rfl
theorem zGZ {c m:List AV}{o:Nat}{x:AV}(h:o<c.length):(c.take (o+1)++m).set o x=c.take o++(x::m):=by
 have hl:(c.take o).length=o:=by simp;omega
 rw[gJ c o h,List.append_assoc,List.set_append_right _ _ (by omega),hl];simp
theorem zIX (D:Dyn)(n:Nat){H:AH}(hk:H.ok){A off k cc:Nat}{c:List AV}{e:TypeId}{g:Bool}(z:Nat)(hA:H.h.get A=some (.cells c e 1 g))(hc:off+k<=c.length)(hkk:k<=8)(hn:100<=n):
  ∃H',f64 D n [.slice A off k cc, .int .u64 (z:Nat)] H=some (.tuple [],H')/\H'.h.get A=some (.cells (c.take off++(qO (be k z)++c.drop (off+k))) e 1 g)/\Stp (fun B=>B=A) H H'/\H'.next=H.next:=by
 have hlt:=hk.lt hA;have key:=uL (b:=zCG D n) k (fun i vs H'=>vs=[.slice A off k cc, .int .u64 (z:Nat), .int .i64 (k:Nat), .int .i64 (i:Nat)]/\i<=k/\H'.h.get A=some (.cells (c.take (off+(k - i))++(qO (be i z)++c.drop (off+k))) e 1 g)/\Stp (fun B=>B=A) H H'/\H'.next=H.next)
  (fun i vs H' hi ⟨hvs,hik,hg,hst,hnx⟩=>by
   subst hvs;have hb:Nat.blt (k - 1 - i) k=true:=by rw[zK];omega
   have hsub:(((k:Nat):Int) - 1 - (i:Int))=((k - 1 - i:Nat):Int):=by omega
   have hix:jP 1 (.slice A off k cc) (.int .i64 ((k - 1 - i:Nat):Int))=some (.ptr A (off+(k - 1 - i))):=by
    simp only[jP,yD _ (show(0:Int)<=((k - 1 - i:Nat):Int)by omega),zS,hb,cond_true,qZ,Nat.mul_one]
   have hst1:=aT (x:= .int .u8 ((((z / 256 ^ i % 256:Nat):Nat)):Int)) (o:=off+(k - 1 - i)) hg (by decide) rfl (by simp[qO,Nd.be_length];omega);have hcell:(c.take (off+(k - i))++(qO (be i z)++c.drop (off+k))).set (off+(k - 1 - i)) (.int .u8 (((z / 256 ^ i % 256:Nat)):Int))=c.take (off+(k - (i+1)))++(qO (be (i+1) z)++c.drop (off+k)):=by
    rw[show off+(k - i)=off+(k - 1 - i)+1 by omega,zGZ (by omega),zDw,show k - (i+1)=k - 1 - i by omega];simp[qO]
   have hsh:((z:Nat):Int) / 2 ^ (8*i)=((z / 256 ^ i:Nat):Int):=by
    rw[<-zBQ];simp
   refine⟨_,H'.put A (.cells (c.take (off+(k - (i+1)))++(qO (be (i+1) z)++c.drop (off+k))) e 1 g), ?_,rfl,by omega,by rw[AH.put_get,if_pos rfl], ?_,hnx⟩
   ·rw[hcell]at hst1;have hsh':=JY .u64 .i64 (a:=(z:Nat)) (s:=8*i) (by omega) (by simp[IntKind.bits];omega);rw[hsh]at hsh';have h8:(((8:Nat):Int)*(i:Int))=((8*i:Nat):Int):=by omega
    have hw:IntKind.wrap .u8 ((z / 256 ^ i:Nat):Int)=((z / 256 ^ i % 256:Nat):Int):=by rw[wrap_u8];omega
    have h1:((k:Nat):Int) - ((1:Nat):Int) - (i:Int)=((k - 1 - i:Nat):Int):=by omega
    simp(disch:=omega) only[zCG,ev,lnSl,h1,hix,h8,hsh',hw,hst1];simp[hi]
   ·exact hst.put (by omega) _ (.inr rfl)) n _ H ⟨rfl,Nat.zero_le _,by simpa[be,qO]using hA,Stp.refl hk,rfl⟩ (by omega)
 obtain⟨m,vs',H',h1,rfl,_,h3,h4,h5⟩:=key;refine⟨H', ?_,by simpa using h3,h4,h5⟩;have hl:qW (m+1) (zCG D n) [.slice A off k cc, .int .u64 (z:Nat), .int .i64 (k:Nat), .int .i64 (k:Nat)] H'=some (.exit 0 [],H'):=yO (by simp[zCG,ev]);rw[hl]at h1;simp only[f64,ev,lnSl,h1,zJH]
theorem zHS (p q:Ptr):eqA [6,6,10] (.agg (y7 p)) (.agg (y7 q))=some (decide (p=q)):=by
 obtain⟨a,b,c⟩:=p;obtain⟨a',b',c'⟩:=q;have h1:=fun x y=>YK .i64 x y
 have h2:=fun x y=>YK .u64 x y
 simp only[gW]at h1 h2;simp only[eqA,y7,dW,Nat.succ_eq_add_one,Nat.beq_refl,zH,zY,Bool.and_self,cond_true,xK,h1,h2];by_cases e1:a=a'<;>by_cases e2:b=b'<;>by_cases e3:c=c'<;>simp[e1,e2,e3]
theorem zFq (b:Bool):xJ .eql (some b)=some (.bool b):=by simp only[xJ,yH]
theorem zJ7 (D:Dyn)(n:Nat){H:AH}(hk:H.ok)(p:Ptr): ∃H',f63 D n [.agg (y7 p)] H=some (.bool (zHm p),H')/\Prs H H':=by
 refine⟨H.push (.cells (y7 p) 57 1 false), ?_,(Stp.refl hk).push _⟩;have hz:eqA [6,6,10] (.agg (y7 p)) (.agg (y7 ⟨0,0,0⟩))=_:=zHS p ⟨0,0,0⟩;obtain⟨a,b,c⟩:=p;simp only[y7]at hz;simp only[f63,ev,xY hk,y7,v8,takeN,Option.map_some,lg,kJ,uB];by_cases h0:a=0
 ·subst h0;simp only[show((0:Nat):Int)=0 from rfl,if_true,hz,zFq,ev,zHm];simp
 ·simp only[show((0:Nat):Int)=0 from rfl,if_neg h0,ev,zHm];rfl
def Z (n:Nat):List AV:=List.replicate n (.int .u8 ((0:Nat):Int))
theorem rep16:rep 16 [.int .u8 ((0:Nat):Int)]=Z 16:=rfl
theorem VL (D:Dyn)(n:Nat){H:AH}(hk:H.ok){A off k cc:Nat}{pre seg post:List AV}{e:TypeId}{g:Bool}(z:Nat)(hA:H.h.get A=some (.cells (pre++(seg++post)) e 1 g))(hp:pre.length=off)(hs:seg.length=k)(hkk:k<=8)(hn:100<=n):
  ∃H',f64 D n [.slice A off k cc, .int .u64 (z:Nat)] H=some (.tuple [],H')/\H'.h.get A=some (.cells (pre++(qO (be k z)++post)) e 1 g)/\Stp (fun B=>B=A) H H'/\H'.next=H.next:=by
 obtain⟨H',h1,h2,h3⟩:=zIX D n hk (cc:=cc) (k:=k) (off:=off) z hA (by simp;omega) hkk hn;refine⟨H',h1, ?_,h3⟩;have hd:(pre++(seg++post)).drop (off+k)=post:=by rw[<-List.append_assoc,List.drop_left' (by rw[zJ];omega)]
 rw[List.take_left' hp,hd]at h2;exact h2
theorem slA (A lo hi:Nat)(h1:lo<=hi)(h2:hi<=16)(h3:lo<16):xB 16 1 (.ptr A 0) (some (.int .i64 (lo:Nat))) (some (.int .i64 (hi:Nat))) none=some (.slice A lo (hi - lo) (2*(16 - lo))):=by
 have e1:Nat.ble hi 16=true:=by rw[zQ];exact h2
 have e2:Nat.ble lo hi=true:=by rw[zQ];exact h1
 have e3:Nat.beq 16 lo=false:=by rw[Bool.eq_false_iff];intro h;have:=Nat.eq_of_beq_eq_true h;omega
 simp[xB,yM,yD,Q1,e1,e2,e3,qZ,show((32 % 2).beq 0)=true from rfl,show(32 / 2).beq lo=false from e3,show Nat.blt 0 1=true from rfl]
theorem zIH (A:Nat):xB 16 1 (.ptr A 0) none (some (.int .i64 ((4:Nat):Int))) none=some (.slice A 0 4 32):=rfl
theorem zIG (A:Nat):xB 16 1 (.ptr A 0) (some (.int .i64 ((8:Nat):Int))) none none=some (.slice A 8 8 16):=rfl
theorem zIF (A:Nat):xB 16 1 (.ptr A 0) none none none=some (.slice A 0 16 32):=rfl
theorem zD9 (D:Dyn)(n:Nat){H:AH}(hk:H.ok){p:Ptr}(hp:zHm p=true)(hs:Nd.sumOk p)(hn:100<=n): ∃H',f40 D n [.agg (y7 p)] H=some (.tuple [S (encP p), .int .i64 (0:Nat)],H')/\Prs H H':=by
 have hP:Prs H (H.push (.cells (y7 p) 57 1 false)):=(Stp.refl hk).push _;obtain⟨H2,h2,hP2⟩:=zJ7 D n hP.ok p;have hd':v8 (y7 p) 0 3=some (y7 p):=rfl;have h0: ∃a b s:Nat,p=⟨a,b,s⟩/\a<4294967296/\b<4294967296/\s<18446744073709551616:=by
  obtain⟨a,b,s⟩:=p;simp only[Nd.sumOk]at hs;have h1:0<=a/\a<8192/\0<=b/\b<=2147483647:=by
   simp only[zHm]at hp;split at hp
   ·simp only[z8,zE]at hp;omega
   ·simp only[z8,zE]at hp;omega
  exact⟨a.toNat,b.toNat,s.toNat,by congr 1<;>omega,by omega,by omega,by omega⟩
 obtain⟨a,b,s,rfl,ha,hb,hss⟩:=h0;have hw: ∀x:Nat,x<18446744073709551616->IntKind.wrap .u64 (x:Int)=(x:Int):=fun x hx=>by rw[wrap_u64];omega
 have hP3:Prs H2 (H2.push (.cells (Z 16) 132 1 false)):=(Stp.refl hP2.ok).push _;have hB:(H2.push (.cells (Z 16) 132 1 false)).h.get H2.next=some (.cells ([]++(Z 4++Z 12)) 132 1 false):=AH.push_get_eq _ _
 have hn3:(H2.push (.cells (Z 16) 132 1 false)).next=H2.next+1:=rfl
 generalize hH3:H2.push (.cells (Z 16) 132 1 false)=H3 at hP3 hB hn3;obtain⟨H4,e4,g4,st4,n4⟩:=VL D n hP3.ok (cc:=32) (k:=4) (off:=0) a hB rfl (by simp[Z]) (by omega) hn;rw[show[]++(qO (be 4 a)++Z 12)=qO (be 4 a)++(Z 4++Z 8)from rfl]at g4;obtain⟨H5,e5,g5,st5,n5⟩:=VL D n st4.ok (cc:=24) (k:=4) (off:=4) b g4 (by simp[qO,Nd.be_length]) (by simp[Z]) (by omega) hn;rw[<-List.append_assoc,show Z 8=Z 8++[]from rfl]at g5;obtain⟨H6,e6,g6,st6,n6⟩:=VL D n st5.ok (cc:=16) (k:=8) (off:=8) s g5 (by simp[qO,Nd.be_length]) (by simp[Z]) (by omega) hn;have hx3:H3.h.get H.next=some (.cells (y7 ⟨a,b,s⟩) 57 1 false):=hP3.get hP2.ok (hP2.get hP.ok (AH.push_get_eq _ _))
 have hlt2:H.next<H2.next:=by have:=hP2.next;rw[AH.push_next]at this;omega
 have hx4:H4.h.get H.next=some (.cells (y7 ⟨a,b,s⟩) 57 1 false):=by rw[st4.keep _ (by have:=hP3.next;omega) (by omega)];exact hx3
 have hx5:H5.h.get H.next=some (.cells (y7 ⟨a,b,s⟩) 57 1 false):=by rw[st5.keep _ (by have:=hP3.next;omega) (by omega)];exact hx4
 have hbytes:qO (be 4 a)++qO (be 4 b)++(qO (be 8 s)++[])=qO (encP ⟨a,b,s⟩):=by simp[encP,qO]
 rw[hbytes]at g6;have hcv:YC (.slice H2.next 0 16 32) H6=some (S (encP ⟨a,b,s⟩)):=fC ⟨by simp[qO,Nd.encP_length], .inr (.inr ⟨_,_,_,_,_,_,_,rfl,g6,by have:=(st6.ok).lt g6;exact this,by simp[qO,Nd.encP_length],by simp[zL,qO,Nd.encP_length]⟩)⟩ (by simp)
 refine⟨H6, ?_, ?_⟩
 ·simp only[f40,ev,xY hk,hd',Option.map_some,h2,hp];simp only[ev,xY hP2.ok,Bool.not_true,Bool.false_eq_true,if_false,rep16,hH3,zIH,zIG,zIF,slA _ 4 8 (by omega) (by omega) (by omega),qJ hx3,qJ hx4,qJ hx5,y7,hw a (by omega),hw b (by omega),hw s (by omega),e4,e5,e6,hcv]
 ·have hst:Stp (fun B=>B=H2.next) H3 H6:=(st4.trans st5).trans st6
  exact(hP.trans hP2).trans (hP3.fresh hst (fun A hA=>by omega))
end Go.Eng.Sh
end
section
namespace Go.Eng
open Go.Nd (Kvs Srt)
end Go.Eng
namespace Go.Eng.Sh
open Go.Nd (Ptr y9 qM Kvs Srt mayK putP delP lookP)
open Go.Bt
def behind (kv:Kvs):Nat->Str
 | 0=>[]
 | i+1=>(kv.getD i ([],[])).1++[0]
end Go.Eng.Sh
end
section
namespace Go.Eng
end Go.Eng
namespace Go.Eng.Sh
open Go.Nd (Ptr y9 qM Kvs Srt mayK putP delP lookP)
open Go.Bt
theorem zBG (x:AV): ∀n,rep n [x]=List.replicate n x
 | 0=>rfl
 | n+1=>by rw[rep,zBG x n,List.replicate_succ];rfl
theorem zHj (D:Dyn)(n:Nat)(hn:100<=n){H:AH}(hk:H.ok)(Ad od:Nat){c:AV}(hc:isCell c=true): ∃H' At M,f17 D n [.ptr Ad od,c, .agg (y7 pZ)] H=some (.tuple [.ptr At 0, .int .i64 ((0:Nat):Int)],H')/\Prs H H'/\H.next<=At/\H.next<=M/\jA H' At M 0 []:=by
 obtain⟨H1,A5,b1,p1,g1,m1,n1⟩:=box hk (.cells (y7 pZ) 57 1 false);obtain⟨H2,e2,p2⟩:=zD9 D n p1.ok (p:=pZ) rfl (by simp[Nd.sumOk,pZ]) hn;obtain⟨H3,M,b3,p3,g3,m3,n3⟩:=box p2.ok (.map [10] []);obtain⟨H4,At,b4,p4,g4,m4,n4⟩:=box p3.ok (.cells (yX (.ptr Ad od) c pZ M 0 .nilSlice) 83 1 false);have N1:=p1.next;have N2:=p2.next;have N3:=p3.next
 have P12:=p1.trans p2;refine⟨H4,At,M, ?_,(P12.trans p3).trans p4,by omega,by omega,⟨_,_,_,_,_,[],0,rfl,hc,⟨p4.ok,g4,Prs.get p4 p3.ok g3,trivial,⟨_,_,rfl⟩,by simp⟩,fun s nd h=>by simp[qR]at h,by simp,by omega, .inl ⟨rfl,rfl⟩⟩⟩;have r1:ldN 3 (.ptr A5 0) H1=some (.agg (y7 pZ)):=by rw[qN g1];rfl
 have r2:ldN 3 (.ptr A5 0) H2=some (.agg (y7 pZ)):=by rw[qN (Prs.get p2 p1.ok g1)];rfl
 have r3:ld1 (.ptr A5 0) H2=some (.int .i64 ((0:Nat):Int)):=by rw[qJ (Prs.get p2 p1.ok g1)];rfl
 have t00: ¬(((0:Nat):Int)≠((0:Nat):Int)):=by omega
 have h01: ¬((0:Nat):Int)=((1:Nat):Int):=by omega
 have bs:kJ [(0,1),(1,1),(2,3),(5,1),(6,1),(7,1)] [.nilPtr, .nilPtr, .int .i64 ((0:Nat):Int), .int .i64 ((0:Nat):Int), .int .u64 ((0:Nat):Int), .nilMap, .int .u64 ((0:Nat):Int), .nilSlice] [(0, .ptr Ad od),(1,c),(2, .agg (y7 pZ)),(3, .map M)]=some (.agg (yX (.ptr Ad od) c pZ M 0 .nilSlice)):=by
  simp only[kJ,uB,zFZ,yQ hc];rfl
 simp(maxSteps:=999999)(disch:=omega) only[f17,eZ,b1,cq,r1,e2,qH,nth,t00,r3,h01,r2,mkM,b3,bs,b4]
theorem jA.lt {H:AH}{At M L:Nat}{kv:Kvs}(h:jA H At M L kv):At<H.next/\M<H.next:=by
 obtain⟨d,c,_,root,es,q,last,rfl,hc,ti,_⟩:=h;exact⟨ti.ok.lt ti.gT,ti.ok.lt ti.gM⟩
end Go.Eng.Sh
end
section
namespace Go.Eng
end Go.Eng
namespace Go.Eng.Sh
open Go.Nd (Ptr y9 qM Kvs Srt mayK putP delP lookP)
open Go.Bt
end Go.Eng.Sh
end
section
namespace Go.Eng
end Go.Eng
namespace Go.Eng.Sh
open Go.Nd (Ptr y9 qM Kvs Srt mayK putP delP lookP)
open Go.Bt
theorem zFo (D:Dyn)(n:Nat){H:AH}{At M L:Nat}{kv:Kvs}(t:jA H At M L kv): ∃H' At' M',f51 D n [.ptr At 0] H=some (.ptr At' 0,H')/\Prs H H'/\H.next<=At'/\H.next<=M'/\jA H' At' M' L kv:=by
 obtain⟨d,c,_,root,es,q,last,rfl,hc,ti,h2,h3,h4,h5⟩:=t;obtain⟨A0,o0,rfl⟩:=ti.hd;have hk:=ti.ok;have r8:ldN 8 (.ptr At 0) H=some (.agg (yX (.ptr A0 o0) c root M last .nilSlice)):=by rw[qN ti.gT];rfl
 have hac:qK (yX (.ptr A0 o0) c root M last .nilSlice)=true:=by simp only[qK,yX,hc,Bool.true_and,Bool.and_true];rfl
 obtain⟨Z,hZ⟩: ∃Z:List AV,Z=[.nilPtr, .nilPtr, .int .i64 ((0:Nat):Int), .int .i64 ((0:Nat):Int), .int .u64 ((0:Nat):Int), .nilMap, .int .u64 ((0:Nat):Int), .nilSlice]:=⟨_,rfl⟩;have e1: ∀K,bA (some (.cells [.nilPtr, .nilPtr, .int .i64 ((0:Nat):Int), .int .i64 ((0:Nat):Int), .int .u64 ((0:Nat):Int), .nilMap, .int .u64 ((0:Nat):Int), .nilSlice] 83 1 false,fun A=> .ptr A 0)) H K=K (.ptr H.next 0) (H.push (.cells Z 83 1 false)):=fun K=>by
  rw[hZ,xY hk]
 have e2:stN 8 (.ptr H.next 0) (.agg (yX (.ptr A0 o0) c root M last .nilSlice)) (H.push (.cells Z 83 1 false))=some (qI,H.push (.cells (yX (.ptr A0 o0) c root M last .nilSlice) 83 1 false)):=zEg (by decide) rfl (by rw[hZ];rfl) hac
 have lA:=hk.lt ti.gT;have lM:=hk.lt ti.gM;have p1:Prs H (H.push (.cells (yX (.ptr A0 o0) c root M last .nilSlice) 83 1 false)):=(Stp.refl hk).push _;have g1:=AH.push_get_eq H (.cells (yX (.ptr A0 o0) c root M last .nilSlice) 83 1 false);have n1:=AH.push_next H (.cells (yX (.ptr A0 o0) c root M last .nilSlice) 83 1 false);generalize H.push (.cells (yX (.ptr A0 o0) c root M last .nilSlice) 83 1 false)=H1 at*
 have gM1:=Prs.get p1 hk ti.gM;have e3:m73 D n [.map M] H1=some (.map H1.next,H1.push (.map [10] es)):=by
  obtain⟨t,ht⟩:=Option.isSome_iff_exists.1 (T.set_some 40 H1.h H1.next (.map [10] es))
  simp only[m73,clnK,gM1,p1.ok H1.next (Nat.le_refl _),ht,qZ,AH.push,Option.getD_some]
 have p2:Prs H1 (H1.push (.map [10] es)):=(Stp.refl p1.ok).push _;have g2:=AH.push_get_eq H1 (.map [10] es);have n2:=AH.push_next H1 (.map [10] es);have g12:=Prs.get p2 p1.ok g1;generalize H1.push (.map [10] es)=H2 at*
 have e4:stN 1 (.ptr H.next 5) (.map H1.next) H2=some (qI,H2.put H.next (.cells (yX (.ptr A0 o0) c root H1.next last .nilSlice) 83 1 false)):=aT g12 (by decide) rfl (by simp[yX])
 have hput: ∀ {H2:AH},H2.ok->H.next<H2.next->Prs H H2-> ∀o,Prs H (H2.put H.next o):=fun {H2} hk2 hlt p o=>⟨hk2.put hlt o,p.next,fun B hB _=>by rw[AH.put_get,if_neg (by omega)];exact p.keep B hB (fun x=>x)⟩
 have P2:=p1.trans p2;have P3:=hput p2.ok (by omega) P2 (.cells (yX (.ptr A0 o0) c root H1.next last .nilSlice) 83 1 false)
 have g3:(H2.put H.next (.cells (yX (.ptr A0 o0) c root H1.next last .nilSlice) 83 1 false)).h.get H.next=some (.cells (yX (.ptr A0 o0) c root H1.next last .nilSlice) 83 1 false):=by rw[AH.put_get,if_pos rfl]
 have g3M:(H2.put H.next (.cells (yX (.ptr A0 o0) c root H1.next last .nilSlice) 83 1 false)).h.get H1.next=some (.map [10] es):=by rw[AH.put_get,if_neg (by omega)];exact g2
 have n3:=AH.put_next H2 H.next (.cells (yX (.ptr A0 o0) c root H1.next last .nilSlice) 83 1 false)
 generalize H2.put H.next (.cells (yX (.ptr A0 o0) c root H1.next last .nilSlice) 83 1 false)=H3 at*
 have e5:f74 D n [.nilSlice] H3=some (.nilSlice,H3):=rfl;have e6:stN 1 (.ptr H.next 7) .nilSlice H3=some (qI,H3.put H.next (.cells (yX (.ptr A0 o0) c root H1.next last .nilSlice) 83 1 false)):=aT g3 (by decide) rfl (by simp[yX])
 have P4:=hput P3.ok (by omega) P3 (.cells (yX (.ptr A0 o0) c root H1.next last .nilSlice) 83 1 false)
 have g4:(H3.put H.next (.cells (yX (.ptr A0 o0) c root H1.next last .nilSlice) 83 1 false)).h.get H.next=some (.cells (yX (.ptr A0 o0) c root H1.next last .nilSlice) 83 1 false):=by rw[AH.put_get,if_pos rfl]
 have g4M:(H3.put H.next (.cells (yX (.ptr A0 o0) c root H1.next last .nilSlice) 83 1 false)).h.get H1.next=some (.map [10] es):=by rw[AH.put_get,if_neg (by omega)];exact g3M
 generalize H3.put H.next (.cells (yX (.ptr A0 o0) c root H1.next last .nilSlice) 83 1 false)=H4 at*
 refine⟨H4,H.next,H1.next, ?_,P4,Nat.le_refl _,by omega,⟨_,_,_,root,es,q,last,rfl,hc,⟨P4.ok,g4,g4M,ti.pq.frame fun kv _ nd hn=>hn.prs P4,⟨_,_,rfl⟩,ti.few⟩,h2,h3,h4,h5⟩⟩
 have l5:ld1 (.ptr At 5) H1=some (.map M):=by rw[qJ (Prs.get p1 hk ti.gT)];rfl
 have l7:ld1 (.ptr At 7) H3=some .nilSlice:=by rw[qJ (Prs.get P3 hk ti.gT)];rfl
 simp(maxSteps:=999999)(disch:=omega) only[f51,eZ,cq,r8,e1,e2,l5,e3,e4,l7,e5,e6]
end Go.Eng.Sh
end
section
namespace Go.Bt
open Go.Nd (Str Kvs Ptr qM Srt rising)
open Go.Eng (ltS yN xS j7 bK)
def zDF (to k:Str):Bool:=to.isEmpty||ltS k to
def inP (fr to:Str)(p:Str×Str):Bool:= !ltS p.1 fr&&zDF to p.1
end Go.Bt
end
section
namespace Go.Eng.Sh
open Go.Nd (Ptr y9 qM Kvs Srt mayK putP delP lookP)
open Go.Bt
def Adw (W:Nat->Prop)(H:AH)(W':Nat->Prop)(H':AH):Prop:=Stp W H H'/\ ∀B,W' B->W B\/H.next<=B
structure Rdr (At N0 k:Nat)(root:Ptr)(Q:Ptr->Option Nd.Node)(G:AH->(Nat->Prop)->Prop):Prop where
 ok: ∀ {H W},G H W->H.ok
 lt: ∀ {H W},G H W-> ∀B,W B->B<H.next
 frame: ∀ {H H' W S},G H W->Stp S H H'->(∀B,S B->N0<=B/\ ¬W B)->G H' W
 root: ∀ {H W} (D:Dyn) (n:Nat),G H W-> ∃H',f89 D n [.ptr At 0] H=some (.agg (y7 root),H')/\Prs H H'
 dirty: ∀ {H W} (D:Dyn) (n:Nat),G H W->f60 D n [.ptr At 0] H=some (.int .i64 ((k:Nat):Int),H)
 load: ∀ {H W p nd} (m n:Nat),100000000<=m->100000000<=n->G H W->Q p=some nd->Nd.size nd<=500-> ∃v H' W',zJX (dy m) n [.ptr At 0, .agg (y7 p)] H=some (.tuple [v, .int .i64 ((0:Nat):Int)],H')/\G H' W'/\Adw W H W' H'/\qY H' v nd/\ ∀B,v5 v B->H.next<=B/\ ¬W' B
theorem st1c {H:AH}(hk:H.ok){A o e:Nat}{l:List AV}{x:AV}(h:H.h.get A=some (.cells l e 1 false))(hx:Eng.isCell x=true)(ho:o<l.length): ∃H',stN 1 (.ptr A o) x H=some (qI,H')/\H'.h.get A=some (.cells (l.set o x) e 1 false)/\Stp (fun B=>B=A) H H':=
 ⟨_,aT h (by decide) hx ho,by rw[AH.put_get,if_pos rfl],(Stp.refl hk).put (hk.lt h) _ (.inr rfl)⟩
theorem Stp.thru {S T:Nat->Prop}{H0 H H1:AH}(h:Stp S H0 H)(k:Stp T H H1)(f: ∀A,T A->H0.next<=A\/S A):Stp S H0 H1:=
 ⟨k.ok,Nat.le_trans h.next k.next,fun A hA hS=>by
  rw[k.keep A (zR hA h.next) (fun x=>by rcases f A x with y | y;omega;exact hS y),h.keep A hA hS]⟩
structure Cns {σ α:Type}(A M N0:Nat)(enc:AH->(Nat->Prop)->α->List AV->Prop)(step:σ->α->Bool×σ)(I:Nat->Bool×σ->AH->(Nat->Prop)->Prop):Prop where
 ok: ∀ {b x H W},I b x H W->H.ok
 lt: ∀ {b x H W},I b x H W-> ∀B,W B->B<H.next/\N0<=B
 mono: ∀ {b b' x H W},I b x H W->b'<=b->I b' x H W
 frame: ∀ {b x H H' W S},I b x H W->Stp S H H'->(∀B,S B-> ¬W B)->I b x H' W
 run: ∀ {b s a az H W} (m:Nat),M<=m->I (b+1) (true,s) H W->enc H W a az-> ∃H' W',(dy (m+1)).yld A az H=some (.bool (step s a).1,H')/\I b (step s a) H' W'/\Adw W H W' H'
def encN (H:AH)(W:Nat->Prop)(x:Ptr×Nd.Node)(az:List AV):Prop:= ∃v,az=[.agg (y7 x.1),v]/\qY H v x.2/\Nd.size x.2<=500/\(x.2.leaf=true->x.2.vals.length=x.2.keys.length)/\ ∀B,v5 v B-> ¬W B
section
variable {σ:Type}{At N0 k M A2 Aw:Nat}{root:Ptr}{Q:Ptr->Option Nd.Node}{G:AH->(Nat->Prop)->Prop}{step:σ->Ptr×Nd.Node->Bool×σ}{I:Nat->Bool×σ->AH->(Nat->Prop)->Prop}
variable (r:Rdr At N0 k root Q G)(c:Cns A2 M N0 encN step I)
include r c
omit r c
end
open Go.Nd (Ptr y9 qM)
open Go.Bt
section
variable {σ:Type}{At N0 k M A2 Aw:Nat}{root:Ptr}{Q:Ptr->Option Nd.Node}{G:AH->(Nat->Prop)->Prop}{step:σ->Ptr×Nd.Node->Bool×σ}{I:Nat->Bool×σ->AH->(Nat->Prop)->Prop}{fr to:Str}
variable (r:Rdr At N0 k root Q G)(c:Cns A2 M N0 encN step I)
include r c
end
open Go.Nd (Ptr y9 qM)
open Go.Bt
section
variable {σ:Type}{At N0 k M A2 Aw:Nat}{root:Ptr}{Q:Ptr->Option Nd.Node}{G:AH->(Nat->Prop)->Prop}{step:σ->Ptr×Nd.Node->Bool×σ}{I:Nat->Bool×σ->AH->(Nat->Prop)->Prop}{fr to:Str}
variable (r:Rdr At N0 k root Q G)(c:Cns A2 M N0 encN step I)
include r c
end
open Go.Nd (Ptr y9 qM whereN)
open Go.Bt
def encP (_:AH)(_:Nat->Prop)(x:Str×Str)(az:List AV):Prop:=az=[.agg [S x.1,S x.2]]
section
variable {σ:Type}{A1 M N0:Nat}{step:σ->Str×Str->Bool×σ}{I:Nat->Bool×σ->AH->(Nat->Prop)->Prop}(c:Cns A1 M N0 encP step I)
include c
end
open Go.Nd (Ptr y9 qM whereN)
open Go.Bt
section
variable {σ:Type}{A1 M N0:Nat}{step:σ->Str×Str->Bool×σ}{I:Nat->Bool×σ->AH->(Nat->Prop)->Prop}(c:Cns A1 M N0 encP step I)
include c
omit c in
end
open Go.Nd (Ptr y9 qM whereN)
open Go.Bt
section
variable {σ:Type}{At N0 k M A2 Aw:Nat}{root:Ptr}{Q:Ptr->Option Nd.Node}{G:AH->(Nat->Prop)->Prop}{step:σ->Ptr×Nd.Node->Bool×σ}{I:Nat->Bool×σ->AH->(Nat->Prop)->Prop}{fr to:Str}
variable (r:Rdr At N0 k root Q G)(c:Cns A2 M N0 encN step I)
include r c
end
section
variable {σ:Type}{At N0 k M A1 Aw:Nat}{root:Ptr}{Q:Ptr->Option Nd.Node}{G:AH->(Nat->Prop)->Prop}{step:σ->Str×Str->Bool×σ}{I:Nat->Bool×σ->AH->(Nat->Prop)->Prop}{fr to:Str}
variable (r:Rdr At N0 k root Q G)(c:Cns A1 M N0 encP step I)
include r c
end
open Go.Nd (Ptr y9 qM Kvs)
open Go.Bt
theorem dK {H:AH}{A B:Nat}{o:ALoop}{v:AV}(g:H.h.get A=some (.loop o))(b:Box H B v):A≠B:=fun e=>by
 obtain⟨_,hb⟩:=b;rw[<-e,g]at hb;cases hb
end Go.Eng.Sh
end
section
namespace Go.Dr
open Go.Nd (Str Kvs putP delP lookP Srt mayK)
open Go.Eng (ltS j7 yN bK xS u5)
open Go.Bt (inP zDF)
def dig (n:Nat):Nat->Str
 | 0=>[]
 | k+1=>UInt8.ofNat (n / 256 ^ k % 256)::dig n k
theorem wW (n:Nat): ∀k,(dig n k).length=k
 | 0=>rfl
 | k+1=>by simp[dig,wW n k]
theorem zDi (n:Nat): ∀(k i:Nat) (h:i< (dig n k).length),((dig n k)[i]).toNat=n / 256 ^ (k - 1 - i) % 256
 | 0,i,h=>by simp[dig]at h
 | k+1,0,h=>by
  simp only[dig,List.getElem_cons_zero];rw[UInt8.toNat_ofNat'];simp
 | k+1,i+1,h=>by
  simp only[dig,List.getElem_cons_succ];rw[zDi n k i (by simpa[dig]using h)];congr 3;omega
def zJ3 (a:Nat):Str->Nat
 | []=>a
 | b::l=>zJ3 (a*256+b.toNat) l
def num (s:Str):Nat:=zJ3 0 s
theorem B9 (n:Nat): ∀(k a:Nat),zJ3 a (dig n k)=a*256 ^ k+n % 256 ^ k
 | 0,a=>by simp[dig,zJ3,Nat.mod_one]
 | k+1,a=>by
  simp only[dig,zJ3];rw[B9 n k,UInt8.toNat_ofNat'];have h1:n % 256 ^ (k+1)=256 ^ k*(n / 256 ^ k % 256)+n % 256 ^ k:=by
   rw[Nat.pow_succ,Nat.mod_mul,Nat.add_comm]
  rw[h1,Nat.pow_succ,Nat.add_mul];have h2:n / 256 ^ k % 256 % 2 ^ 8=n / 256 ^ k % 256:=Nat.mod_eq_of_lt (by have:=Nat.mod_lt (n / 256 ^ k) (show 256>0 by omega);omega);rw[h2,Nat.mul_comm (n / 256 ^ k % 256) (256 ^ k),Nat.mul_assoc a,Nat.mul_comm 256 (256 ^ k),Nat.add_assoc,Nat.pow_succ]
theorem zC2 {n k:Nat}(h:n<256 ^ k):num (dig n k)=n:=by
 rw[num,B9,Nat.mod_eq_of_lt h];simp
end Go.Dr
end
section
namespace Go.Eng.Sh
open Go.Nd (Ptr y9 qM Kvs Srt)
open Go.Bt
def between (fr to:Str)(kv:Kvs):Kvs:=kv.filter (inP fr to)
end Go.Eng.Sh
end
section
namespace Go.Eng
theorem zEV (A off n cc:Nat)(k:IntKind){z:Int}(i:Nat)(hz:z=(i:Int))(h:i<n):jP 1 (.slice A off n cc) (.int k z)=some (.ptr A (off+i)):=by
 subst hz;have n1:=yD k (z:=((i:Nat):Int)) (by omega);simp only[zS]at n1;have hb:Nat.blt i n=true:=by rw[zK];exact h
 simp only[jP,n1,hb,cond_true,qZ,Nat.mul_one]
theorem WK (s:Str)(k:IntKind){i:Nat}(h:i<s.length):bL (S s) (.int k ((i:Nat):Int))=some (.int .u8 (((s[i]).toNat:Nat):Int)):=by
 have:=zHw s k (z:=((i:Nat):Int)) (by omega) (by simpa using h);simpa using this
end Go.Eng
namespace Go.Eng.Sh
open Go.Nd (Ptr y9 qM Kvs Srt)
open Go.Bt Go.Dr
theorem zDt (x k:Nat):qO (dig x k)=(List.range k).map fun i=>AV.int .u8 ((x / 256 ^ (k - 1 - i) % 256:Nat):Int):=by
 apply List.ext_getElem
 ·simp[qS,wW]
 ·intro i h1 h2;simp only[qO,List.getElem_map,List.getElem_range];rw[zDi]
def xD (x k i:Nat):List AV:=((List.range k).map fun j=>AV.int .u8 ((if j<i then x / 256 ^ (k - 1 - j) % 256 else 0:Nat):Int))
theorem zAK (x k:Nat){i:Nat}(h:i<k):(xD x k i).set i (.int .u8 ((x / 256 ^ (k - 1 - i) % 256:Nat):Int))=xD x k (i+1):=by
 apply List.ext_getElem
 ·simp[xD]
 ·intro j h1 h2;simp only[xD,List.getElem_set,List.getElem_map,List.getElem_range];by_cases e:i=j
  ·subst e;simp
  ·rw[if_neg e];by_cases hj:j<i
   ·rw[if_pos hj,if_pos (by omega)]
   ·rw[if_neg hj,if_neg (by omega)]
theorem cv2 {H:AH}{A:Nat}{a b:UInt8}{e:Nat}(hk:H.ok)(g:H.h.get A=some (.cells [.int .u8 ((a.toNat:Nat):Int), .int .u8 ((b.toNat:Nat):Int)] e 1 false)):YC (.slice A 0 2 4) H=some (S [a,b]):=
 fC (n:=2) ⟨rfl, .inr (.inr ⟨_,_,_,_,_,_,_,rfl,g,hk.lt g,by simp,rfl⟩)⟩ (by simp)
theorem zC1 {c:Nat}(hc:c<256):(UInt8.ofNat c).toNat=c:=by rw[UInt8.toNat_ofNat'];omega
end Go.Eng.Sh
end
section
namespace Go.Eng
theorem XN {w:World}{base n:Nat}{a:Addr}{cs:List Value}(h:w.cells? base a n=some cs)(hn:0<n):a.spot=none/\ ∃arr e fz,w.heap[a.block]? =some (.cells arr e fz)/\ ∀j,j<n->arr[a.off+j]? =cs[j]? :=by
 obtain⟨_,hl,hc⟩:=World.cells?_some h;have h0:=hc 0 hn;rw[zB (by omega)]at h0;obtain⟨c1,arr,te,fz,hg,_⟩:=fH h0;have hsp:a.spot=none:=by simpa[Addr.add]using c1
 obtain⟨b,o,sp⟩:=a;simp only at hsp;subst hsp;have hb:(Addr.add ⟨b,o,none⟩ 0).block=b:=by simp[Addr.add]
 rw[hb]at hg;refine⟨rfl,arr,te,fz,hg,fun j hj=> ?_⟩;have hj':=hc j hj;rw[zB (by omega)]at hj'⊢;obtain⟨_,arr',te',fz',hg',hv⟩:=fH hj';rw[j0]at hg' hv;simp only at hg' hv;rw[hg]at hg';simp only[z7,Obj.cells.injEq]at hg';rw[<-hg'.1]at hv;exact hv
theorem VV {α β:Type}{k:Nat}{g:α->List β}(hg: ∀s,(g s).length=k): ∀l:List α,(l.flatMap g).length=l.length*k
 | []=>by simp
 | s::l=>by rw[zW,zJ,VV hg l,hg,zH,Nat.succ_mul,Nat.add_comm]
theorem zCw {α β:Type}{k:Nat}{g:α->List β}(hg: ∀s,(g s).length=k): ∀(l:List α) (i j:Nat) (hi:i<l.length),j<k->(l.flatMap g)[i*k+j]? =(g l[i])[j]?
 | s::l,0,j,_,hj=>by
  rw[zW,Nat.zero_mul,Nat.zero_add,zT (by rw[hg];exact hj)];rfl
 | s::l,i+1,j,h,hj=>by
  have ih:=zCw hg l i j (by simpa using h) hj;rw[zW,zX (by rw[hg,Nat.succ_mul];omega)];have:(i+1)*k+j - (g s).length=i*k+j:=by rw[hg,Nat.succ_mul];omega
  rw[this,ih];rfl
theorem srows_arg {α:Type}[Inhabited α]{H:Type}{enc:TypeId×Value->H}{P:Program}{w:World}{base:Nat}{held:Bool}{fuel:Nat}{v:Value}{x:DataW H×List MemPlace}{t e:TypeId}{k:Nat}(hk:0<k){vals:α->List Value}(hvl: ∀s,(vals s).length=k){good:α->Prop}(ht:P.underlying t=some (.slice e))(hc:P.cellsOf e=k)
  (hd: ∀ {fuel:Nat} {cs:List Value} {x:DataW H×List MemPlace},DataW.trod enc P w base (fun _=>true) held fuel e cs=some x-> ∃s,cs=vals s/\good s)
  (h:DataW.trod enc P w base (fun _=>true) held fuel t [v]=some x):
  ∃l:List α,Rw k (H0 w) (vH w.heap.size v) l.length (l.flatMap fun s=>(vals s).map (cellAV w.heap.size))/\ ∀s∈l,good s:=by
 have hgl: ∀s,((vals s).map (cellAV w.heap.size)).length=k:=fun s=>by rw[qD,hvl]
 rcases Deep.open_slice ht h with⟨h1,_⟩ | ⟨a,len,cap,m,n,D,Pl,h1,_,hl,_,hm,_,hx⟩
 ·simp only[List.cons.injEq,and_true]at h1;subst h1;exact⟨[],⟨by simp, .inl ⟨rfl,rfl⟩⟩,by simp⟩
 ·simp only[List.cons.injEq,and_true]at h1;subst h1;simp only[if_true]at hm;subst hm;by_cases h0:m=0
  ·subst h0;obtain rfl:len=0:=by omega
   exact⟨[],⟨by simp, .inr (.inl ⟨rfl,rfl⟩)⟩,by simp⟩
  ·simp only[hc]at hx;have hp: ∀i,i<m-> ∃p:α,w.cells? base (a.add (i*k)) k=some (vals p)/\good p:=fun i hi=>by
    obtain⟨cs,k1,k2⟩:=hx i hi;obtain⟨p,rfl,hs⟩:=hd k2;exact⟨p,k1,hs⟩
   obtain⟨Px,hP⟩:=Deep.choose_lt hp;obtain⟨b,o,sp⟩:=a;obtain⟨c1,arr,te,fz,hg,hat0⟩:=XN (hP 0 (by omega)).1 hk;have hsp:sp=none:=by simpa[Addr.add]using c1
   subst hsp;rw[j0]at hg;simp only at hg;have hat: ∀i,i<m-> ∀j,j<k->arr[o+i*k+j]? =(vals (Px i))[j]? :=fun i hi j hj=>by
    obtain⟨_,arr',te',fz',hg',hv⟩:=XN (hP i hi).1 hk;rw[j0]at hg' hv;simp only at hg' hv;rw[hg]at hg';simp only[z7,Obj.cells.injEq]at hg';rw[hg'.1];exact hv j hj
   have hmk:(m - 1)*k+k=m*k:=by rw[<-Nat.succ_mul,Nat.succ_eq_add_one,Nat.sub_add_cancel (by omega)]
   have hsz:o+m*k<=arr.size:=by
    have h2:=hat (m - 1) (by omega) (k - 1) (by omega);rw[zB (by rw[hvl];omega)]at h2;have:=(Array.getElem?_eq_some_iff.1 h2).1;omega
   have hlk:len*k<=m*k:=q5 _ (by omega);rw[zAa w (by omega) (JL hg)];refine⟨(List.range len).map Px,⟨VV hgl _, .inr (.inr ⟨b,o,2*m,_,te,0,false,by simp,zAi w hg,JL hg,by simp;omega, ?_⟩)⟩, ?_⟩
   ·apply List.ext_getElem?;intro q;simp only[qD,List.length_range];by_cases hq:q<len*k
    ·have hqi:q / k<len:=Nat.div_lt_of_lt_mul (by rw[Nat.mul_comm];exact hq);have hqj:q % k<k:=Nat.mod_lt _ hk;have e1:q / k*k+q % k=q:=by rw[Nat.mul_comm];exact Nat.div_add_mod q k
     rw[q9 hq,qA,qE,Array.getElem?_toList];have h3:=hat (q / k) (by omega) (q % k) hqj;rw[Nat.add_assoc,e1]at h3;have h4:=zCw hgl ((List.range len).map Px) (q / k) (q % k) (by simpa using hqi) hqj;rw[e1]at h4;rw[h3,h4,qE];simp only[List.getElem_map,List.getElem_range]
    ·rw[List.getElem?_eq_none (by simp;omega),List.getElem?_eq_none (by rw[VV hgl];simp;omega)]
   ·intro p hp;obtain⟨i,hi,rfl⟩:=List.mem_map.1 hp;exact(hP i (by have:=List.mem_range.1 hi;omega)).2
end Go.Eng
end
section
namespace Go.Ex
open Go.Nd (Str Kvs putP delP lookP Srt mayK)
open Go.Dr
def uN (i p:Nat):Str:=100::(dig i 4++dig p 4)
theorem zES (i p:Nat):(uN i p).length=9:=by simp[uN,wW]
theorem zET {i i' p p':Nat}(hi:i<4294967296)(hi':i'<4294967296)(hp:p<4294967296)(hp':p'<4294967296)(h:uN i p=uN i' p'):i=i'/\p=p':=by
 simp only[uN,List.cons.injEq,true_and]at h;obtain⟨h1,h2⟩:=List.append_inj h (by rw[wW,wW]);have e1:=congrArg num h1;have e2:=congrArg num h2;rw[zC2 (by omega),zC2 (by omega)]at e1 e2;exact⟨e1,e2⟩
theorem JH (i p:Nat):mayK (uN i p)=true:=by simp[mayK,zES]
def pad (s:Str):Str:=(s++List.replicate 128 0).take 128
theorem J9 (s:Str):(pad s).length=128:=by rw[pad,zG,zJ,List.length_replicate];omega
def wR (kv:Kvs)(i p:Nat):Str:=pad ((lookP (uN i p) kv).getD [])
theorem wQ (kv:Kvs)(i p:Nat):(wR kv i p).length=128:=J9 _
def U8 (kv:Kvs)(i x:Nat):UInt8:=(wR kv i (x / 128)).getD (x % 128) 0
def yG (kv:Kvs)(i a n:Nat):Str:=(List.range' a n).map (U8 kv i)
theorem xW (kv:Kvs)(i a n:Nat):(yG kv i a n).length=n:=by simp[yG]
theorem YL (kv:Kvs)(i a n m:Nat):yG kv i a (n+m)=yG kv i a n++yG kv i (a+n) m:=by
 rw[yG,yG,yG,<-List.map_append,List.range'_append_1]
theorem U7 (kv:Kvs)(i a:Nat){c:Nat}(h:a % 128+c<=128):((wR kv i (a / 128)).drop (a % 128)).take c=yG kv i a c:=by
 refine List.ext_getElem (by rw[xW,zG,zM,wQ];omega) fun j h1 h2=> ?_
 rw[xW]at h2;have e1:(a+j) / 128=a / 128:=by omega
 have e2:(a+j) % 128=a % 128+j:=by omega
 rw[List.getElem_take,List.getElem_drop];simp only[yG,List.getElem_map,List.getElem_range',Nat.one_mul,U8,e1,e2];rw[zI,zB (by rw[wQ];omega)];rfl
def yW (s:Str):Str:=(s.reverse.dropWhile fun b=>b==0).reverse
theorem twP {p:UInt8->Bool} : ∀ {l:Str} {b:UInt8},b∈l.takeWhile p->p b=true
 | [],_,h=>by cases h
 | a::l,b,h=>by
  rw[List.takeWhile_cons]at h
  cases ha:p a with
  | true=>
   rw[ha,if_pos rfl]at h;rcases List.mem_cons.1 h with rfl | h
   ·exact ha
   ·exact twP h
  | false=>rw[ha]at h;simp at h
theorem v7 (s:Str): ∃k,s=yW s++List.replicate k 0/\(yW s=[]\/ ∃h:yW s≠[],(yW s).getLast h≠0):=by
 have h:=List.takeWhile_append_dropWhile (p:=fun b:UInt8=>b==0) (l:=s.reverse);refine⟨(s.reverse.takeWhile fun b=>b==0).length, ?_, ?_⟩
 ·have e:(s.reverse.takeWhile fun b:UInt8=>b==0)=List.replicate (s.reverse.takeWhile fun b=>b==0).length 0:=
   List.eq_replicate_iff.2 ⟨rfl,fun b hb=>by simpa using twP hb⟩
  have h2:=congrArg List.reverse h;rw[List.reverse_append,List.reverse_reverse]at h2;rw[yW,<-List.reverse_replicate,<-e];exact h2.symm
 ·by_cases hn:yW s=[]
  ·exact .inl hn
  ·refine .inr ⟨hn, ?_⟩;have hd:(s.reverse.dropWhile fun b=>b==0)≠[]:=fun e=>hn (by rw[yW,e];rfl)
   have:=List.head_dropWhile_not (fun b:UInt8=>b==0) hd;simp only[yW,List.getLast_reverse];simpa using this
theorem KE (s:Str):(yW s).length<=s.length:=by
 obtain⟨k,h,_⟩:=v7 s;have:=congrArg List.length h;rw[zJ]at this;omega
theorem UV {b:Str}(h:b.length=128):pad (yW b)=b:=by
 obtain⟨k,hk,_⟩:=v7 b;have hl:=congrArg List.length hk;rw[zJ,List.length_replicate,h]at hl;have e:List.replicate 128 (0:UInt8)=List.replicate k 0++List.replicate (128 - k) 0:=by rw[List.replicate_append_replicate];congr 1;omega
 rw[pad,e,<-List.append_assoc,<-hk,List.take_left' h]
def vK (kv:Kvs)(i p:Nat)(b:Str):Kvs:=if yW b=[]then delP (uN i p) kv else putP (uN i p) (yW b) kv
theorem zBs {kv:Kvs}(h:Srt kv)(i p:Nat)(b:Str):Srt (vK kv i p b):=by
 rw[vK];split
 ·exact Nd.srt_del _ h
 ·exact Nd.srt_put _ _ h
theorem fV {kv:Kvs}(h:Srt kv)(i p:Nat)(b:Str)(k:Str):lookP k (vK kv i p b)=if k=uN i p then(if yW b=[]then none else some (yW b))else lookP k kv:=by
 rw[vK];by_cases hb:yW b=[]
 ·rw[if_pos hb,if_pos hb,Nd.look_del _ _ h]
 ·rw[if_neg hb,if_neg hb,Nd.look_put]
theorem VE {kv:Kvs}(h:Srt kv){i p i' p':Nat}{b:Str}(hb:b.length=128)(hi:i<4294967296)(hi':i'<4294967296)(hp:p<4294967296)(hp':p'<4294967296):wR (vK kv i p b) i' p'=if i'=i/\p'=p then b else wR kv i' p':=by
 rw[wR,fV h];by_cases e:i'=i/\p'=p
 ·obtain⟨rfl,rfl⟩:=e;rw[if_pos (rfl:uN i' p'=uN i' p'),if_pos (And.intro rfl rfl)];by_cases ht:yW b=[]
  ·rw[if_pos ht];have:=UV hb;rw[ht]at this;exact this
  ·rw[if_neg ht];exact UV hb
 ·rw[if_neg fun h=>e (zET hi' hi hp' hp h),if_neg e];rfl
theorem zBt {kv:Kvs}(h:Srt kv)(i p:Nat)(b:Str):(vK kv i p b).length<=kv.length+1:=by
 rw[vK];split
 ·have: ∀(k:Str) (l:Kvs),(delP k l).length<=l.length:=fun k l=>by
   induction l with
   | nil=>exact Nat.le_refl _
   | cons a l ih=>obtain⟨a,b⟩:=a;simp only[delP];split<;>simp only[zH]<;>omega
  have:=this (uN i p) kv;omega
 ·have:=Nd.len_put (uN i p) (yW b) h;rw[this];split<;>omega
def over (b:Str)(f:Nat)(s:Str):Str:=b.take f++s++b.drop (f+s.length)
theorem UX {b s:Str}{f:Nat}(h:f+s.length<=b.length):(over b f s).length=b.length:=by simp[over];omega
theorem zEC {b s:Str}{f j:Nat}(h:f+s.length<=b.length):(over b f s).getD j 0=if f<=j/\j<f+s.length then s.getD (j - f) 0 else b.getD j 0:=by
 have ht:(b.take f).length=f:=by rw[zG];omega
 simp only[over,zI];by_cases h1:j<f
 ·rw[if_neg (by omega),List.append_assoc,zT (by omega),q9 h1]
 ·by_cases h2:j<f+s.length
  ·rw[if_pos ⟨by omega,h2⟩,List.append_assoc,zX (by omega),zT (by omega),ht]
  ·rw[if_neg (by omega),zX (by rw[zJ];omega),zJ,ht,qA];congr 2;omega
end Go.Ex
end
section
namespace Go.Di
end Go.Di
namespace Go.Eng.Sh
open Go.Nd (Ptr y9 qM Kvs Srt Str)
open Go.Bt Go.Dr Go.Di
theorem zDg (D:Dyn)(n:Nat){H:AH}(hk:H.ok): ∃H' A,f16 D n [.int .i64 ((64:Nat):Int)] H=some (.tuple [.ptr A 0, .int .i64 ((0:Nat):Int)],H')/\Prs H H':=by
 obtain⟨H1,A1,b1,p1,g1,m1,n1⟩:=box hk (.map [6] []);obtain⟨H2,A2,b2,p2,g2,m2,n2⟩:=box p1.ok (.map [6] []);obtain⟨H3,A3,b3,p3,g3,m3,n3⟩:=box p2.ok (.cells [.int .i64 ((64:Nat):Int), .map A1, .nilSlice, .map A2, .int .i64 ((0:Nat):Int), .nilSlice, .bool false] 131 1 false);refine⟨H3,A3, ?_,(p1.trans p2).trans p3⟩;have a1: ¬((64:Nat):Int)< ((64:Nat):Int):=by omega
 have a2: ¬((8192:Nat):Int)< ((64:Nat):Int):=by omega
 have bs:kJ [(0,1),(1,1),(2,1),(3,1),(4,1),(5,1),(6,1)] [.int .i64 ((0:Nat):Int), .nilMap, .nilSlice, .nilMap, .int .i64 ((0:Nat):Int), .nilSlice, .bool false] [(0, .int .i64 ((64:Nat):Int)),(1, .map A1),(3, .map A2)]=some (.agg [.int .i64 ((64:Nat):Int), .map A1, .nilSlice, .map A2, .int .i64 ((0:Nat):Int), .nilSlice, .bool false]):=rfl;simp(maxSteps:=999999)(disch:=omega) only[f16,f39,eZ,a1,a2,mkM,b1,b2,bs,b3]
theorem quoN {c k:Nat}(h:c<1000000)(hk:0<k):qL .quo (.int .i64 ((c:Nat):Int)) (.int .i64 ((k:Nat):Int))=some (.int .i64 ((c / k:Nat):Int)):=by
 have h1:c / k<=c:=Nat.div_le_self c k;have h2:((c:Nat):Int) / ((k:Nat):Int)=((c / k:Nat):Int):=rfl;rw[zA5 _ _ _ (by omega),Int.tdiv_eq_ediv_of_nonneg (by omega),h2];generalize c / k=q at h1;rw[wrap_i64 (by omega) (by omega)]
theorem remN {c k:Nat}(hk:0<k):qL .rem (.int .i64 ((c:Nat):Int)) (.int .i64 ((k:Nat):Int))=some (.int .i64 ((c % k:Nat):Int)):=by
 have h2:((c:Nat):Int) % ((k:Nat):Int)=((c % k:Nat):Int):=rfl;rw[zA4 _ _ _ (by omega),Int.tmod_eq_emod_of_nonneg (by omega),h2]
end Go.Eng.Sh
namespace Go.Di
open Go.Nd (Str Kvs putP delP lookP Srt mayK)
open Go.Eng (ltS j7)
open Go.Bt (inP zDF)
open Go.Dr
end Go.Di
namespace Go.Eng.Sh
open Go.Nd (Ptr y9 qM Kvs Srt Str)
open Go.Bt Go.Dr Go.Di
end Go.Eng.Sh
namespace Go.Eng
end Go.Eng
namespace Go.Eng.Sh
open Go.Nd (Ptr y9 qM Kvs Srt Str)
open Go.Bt Go.Dr Go.Di
theorem YB (x:Nat):qO (dig x 4)=[.int .u8 ((x / 16777216 % 256:Nat):Int), .int .u8 ((x / 65536 % 256:Nat):Int), .int .u8 ((x / 256 % 256:Nat):Int), .int .u8 ((x % 256:Nat):Int)]:=by
 have h: ∀y:Nat,(UInt8.ofNat (y % 256)).toNat=y % 256:=fun y=>by rw[UInt8.toNat_ofNat'];omega
 simp only[qO,dig,List.map_cons,List.map_nil,h];rw[show(256:Nat) ^ 3=16777216 by decide,show(256:Nat) ^ 2=65536 by decide,Nat.pow_one,Nat.pow_zero,Nat.div_one]
end Go.Eng.Sh
namespace Go.Eng
end Go.Eng
namespace Go.Eng.Sh
open Go.Nd (Ptr y9 qM Kvs Srt Str)
open Go.Bt Go.Dr Go.Di
theorem chkS (s:Str)(K:Rs):chk (some (S s)) (S s) K=K:=j8 rfl (by simp[aveq,S])
end Go.Eng.Sh
end
section
namespace Go.Eng
open Go.Nd (Str)
theorem UI: ∀(n:Nat) (l:List AV),n<=l.length->takeN n l=some (l.take n)
 | 0,_,_=>rfl
 | n+1,[],h=>by simp at h
 | n+1,a::l,h=>by
  have ih:=UI n l (by simpa using h);simp only[takeN,ih,List.take_succ_cons]
theorem zK1 {H:AH}{A off m cc e:Nat}{g:Bool}{b s:Str}(h:H.h.get A=some (.cells (qO b) e 1 g))(hk:H.ok)(hm:off+m<=b.length):
  ∃H',cpy 1 (.slice A off m cc) (S s) H=some (.int .i64 ((min s.length m:Nat):Int),H')/\H'.h.get A=some (.cells (qO (Ex.over b off (s.take (min s.length m)))) e 1 g)/\Stp (fun B=>B=A) H H':=by
 obtain⟨n,hn⟩: ∃n,n=min s.length m:=⟨_,rfl⟩;rw[<-hn];have hnl:n<=s.length:=by omega
 have hmin:Nat.min s.length m=n:=hn.symm;have e1:takeN (n*1) (qO s)=some (qO (s.take n)):=by
  rw[Nat.mul_one,UI _ _ (by rw[qS];exact hnl),qO,qO,List.map_take]
 have hc:qK (qO (s.take n))=true:=by
  rw[jB];intro x hx;obtain⟨b,_,rfl⟩:=List.mem_map.1 hx;rfl
 have e2:setAt (qO b) off (qO (s.take n))=some (qO (Ex.over b off (s.take n))):=by
  have hl:(s.take n).length=n:=by rw[zG];omega
  rw[xR (by rw[qS,qS,hl];omega)];have hl2:(qO (s.take n)).length=n:=by rw[qS,hl]
  rw[hl2,Ex.over,hl];simp only[qO,List.map_append,List.map_drop];rw[List.map_take (f:=fun c:UInt8=>AV.int .u8 ((c.toNat:Nat):Int)) (l:=b) (i:=off)]
 refine⟨_, ?_, ?_,(Stp.refl hk).put (hk.lt h) (.cells (qO (Ex.over b off (s.take n))) e 1 g) (.inr rfl)⟩
 ·simp only[cpy,zGV,hmin,e1,hc,cond_true,h,show Nat.blt 0 1=true from rfl,e2,jQ,qZ];rfl
 ·rw[AH.put_get,if_pos rfl]
theorem US {n A lo hi:Nat}(h1:lo<=hi)(h2:hi<=n)(h3:lo<n)(κ κ':IntKind):xB n 1 (.ptr A 0) (some (.int κ (lo:Nat))) (some (.int κ' (hi:Nat))) none=some (.slice A lo (hi - lo) (2*(n - lo))):=by
 have n1:=yD κ (z:=((lo:Nat):Int)) (by omega);have n2:=yD κ' (z:=((hi:Nat):Int)) (by omega);simp only[zS]at n1 n2;have b1:Nat.ble lo hi=true:=by rw[zQ];exact h1
 have b2:Nat.ble hi n=true:=by rw[zQ];exact h2
 have b4:Nat.beq n lo=false:=by rw[Bool.eq_false_iff];intro h;have:=Nat.eq_of_beq_eq_true h;omega
 have b3:((2*n) % 2).beq 0=true:=by rw[Nat.mul_mod_right];rfl
 have b5:2*n / 2=n:=Nat.mul_div_cancel_left n (by omega);simp[xB,yM,n1,n2,Q1,b1,b2,b3,b4,b5,qZ,show Nat.blt 0 1=true from rfl]
end Go.Eng
namespace Go.Eng.Sh
open Go.Nd (Ptr y9 qM Kvs Srt Str)
open Go.Bt Go.Dr Go.Ex
theorem zA3 (H:AH){A e:Nat}{s:Str}{k:Nat}(hk:H.ok)(g:H.h.get A=some (.cells (qO s) e 1 false))(hl:s.length=k):YC (.slice A 0 k (2*k)) H=some (S s):=
 fC (n:=k) ⟨by rw[qS,hl,Nat.mul_one], .inr (.inr ⟨_,_,_,_,_,_,_,rfl,g,hk.lt g,by rw[qS,hl];omega,by
  rw[List.drop_zero,zL (by rw[qS,hl];omega)]⟩)⟩ (by simp)
theorem zIk {x s k:Nat}(hs:k=2 ^ s)(h64:s<=64):qL .shr (.int .i64 ((x:Nat):Int)) (.int .u64 ((s:Nat):Int))=some (.int .i64 ((x / k:Nat):Int)):=by
 rw[JY _ _ (by omega) (show s<=64 from h64),hs];congr 2
 all_goals(rw[Int.natCast_ediv,Int.natCast_pow];rfl)
theorem zIv (y:Nat):IntKind.wrap .u8 ((y:Nat):Int)=((y % 256:Nat):Int):=by rw[wrap_u8];omega
theorem zEb (D:Dyn)(n:Nat){H:AH}(hk:H.ok)(x:Nat): ∃H',f38 D n [.int .i64 ((x:Nat):Int)] H=some (S (100::dig x 4),H')/\Prs H H':=by
 obtain⟨H1,A,b1,p1,g1,m1,n1⟩:=box hk (.cells (qO (100::dig x 4)) 5 1 false);have hcv:YC (.slice A 0 5 10) H1=some (S (100::dig x 4)):=zA3 H1 p1.ok g1 (by simp[wW]);have hbv:qO (100::dig x 4)=[.int .u8 ((100:Nat):Int), .int .u8 ((x / 16777216 % 256:Nat):Int), .int .u8 ((x / 65536 % 256:Nat):Int), .int .u8 ((x / 256 % 256:Nat):Int), .int .u8 ((x % 256:Nat):Int)]:=by
  have:=YB x;simp only[qO,List.map_cons]at this⊢;rw[this];rfl
 rw[hbv]at b1;have s1:=zIk (x:=x) (s:=24) (k:=16777216) (by decide) (by omega);have s2:=zIk (x:=x) (s:=16) (k:=65536) (by decide) (by omega);have s3:=zIk (x:=x) (s:=8) (k:=256) (by decide) (by omega);have bl:xX 5 1 5 [.int .u8 ((0:Nat):Int)] [(0, .int .u8 ((100:Nat):Int)),(1, .int .u8 ((x / 16777216 % 256:Nat):Int)),(2, .int .u8 ((x / 65536 % 256:Nat):Int)),(3, .int .u8 ((x / 256 % 256:Nat):Int)),(4, .int .u8 ((x % 256:Nat):Int))]=some (.cells [.int .u8 ((100:Nat):Int), .int .u8 ((x / 16777216 % 256:Nat):Int), .int .u8 ((x / 65536 % 256:Nat):Int), .int .u8 ((x / 256 % 256:Nat):Int), .int .u8 ((x % 256:Nat):Int)] 5 1 false,fun A=> .slice A 0 5 10):=rfl;refine⟨H1, ?_,p1⟩;simp(maxSteps:=999999)(disch:=omega) only[f38,eZ,s1,s2,s3,U2,zIv,bl,b1,hcv]
theorem key_ok (D:Dyn)(n:Nat){H:AH}(hk:H.ok)(i x:Nat): ∃H',f14 D n [.int .i64 ((i:Nat):Int), .int .i64 ((x:Nat):Int)] H=some (S (uN i x),H')/\Prs H H':=by
 obtain⟨H1,A,b1,p1,g1,m1,n1⟩:=box hk (.cells (qO (dig x 4)) 5 1 false);have hcv:YC (.slice A 0 4 8) H1=some (S (dig x 4)):=zA3 H1 p1.ok g1 (by simp[wW]);obtain⟨H2,e2,p2⟩:=zEb D n p1.ok i;have hcv2:YC (.slice A 0 4 8) H2=some (S (dig x 4)):=zA3 H2 p2.ok (Prs.get p2 p1.ok g1) (by simp[wW]);have hbv:=YB x;rw[hbv]at b1;have s1:=zIk (x:=x) (s:=24) (k:=16777216) (by decide) (by omega);have s2:=zIk (x:=x) (s:=16) (k:=65536) (by decide) (by omega);have s3:=zIk (x:=x) (s:=8) (k:=256) (by decide) (by omega);have bl:xX 5 1 4 [.int .u8 ((0:Nat):Int)] [(0, .int .u8 ((x / 16777216 % 256:Nat):Int)),(1, .int .u8 ((x / 65536 % 256:Nat):Int)),(2, .int .u8 ((x / 256 % 256:Nat):Int)),(3, .int .u8 ((x % 256:Nat):Int))]=some (.cells [.int .u8 ((x / 16777216 % 256:Nat):Int), .int .u8 ((x / 65536 % 256:Nat):Int), .int .u8 ((x / 256 % 256:Nat):Int), .int .u8 ((x % 256:Nat):Int)] 5 1 false,fun A=> .slice A 0 4 8):=rfl;have ha:kX .add (S (100::dig i 4)) (S (dig x 4))=some (S (uN i x)):=by rw[JX _ _ (by simp[wW])];rfl
 refine⟨H2, ?_,p1.trans p2⟩;simp(maxSteps:=999999)(disch:=omega) only[f14,eZ,s1,s2,s3,U2,zIv,bl,b1,hcv,e2,hcv2,chkS,ha]
theorem zE6 (D:Dyn)(n:Nat){H:AH}(s:Str)(hn:s.length<n)(hs:s.length<=1000000):f75 D n [S s, .int .u8 ((0:Nat):Int)] H=some (S (yW s),H):=by
 obtain⟨k,hk,hz⟩:=v7 s;have hl:=congrArg List.length hk;rw[zJ,List.length_replicate]at hl;have lp:qW n (zCx D n) [S s, .int .u8 ((0:Nat):Int)] H=some (.exit 0 [S (yW s)],H):=by
  have hst:S s=S (s.take (s.length - 0)):=by rw[Nat.sub_zero,q6]
  rw[hst];refine uM (fun j=>[S (s.take (s.length - j)), .int .u8 ((0:Nat):Int)]) k (fun j hj=> ?_) (fun q=> ?_) n (by omega)
  ·have hlt:(s.take (s.length - j)).length=s.length - j:=by rw[zG];omega
   have h0:((0:Nat):Int)< (((s.take (s.length - j)).length:Nat):Int):=by omega
   have hsub:(((s.take (s.length - j)).length:Nat):Int) - ((1:Nat):Int)=((s.length - (j+1):Nat):Int):=by omega
   have hi:s.length - (j+1)< (s.take (s.length - j)).length:=by omega
   have hx:bL (S (s.take (s.length - j))) (.int .i64 ((s.length - (j+1):Nat):Int))=some (.int .u8 ((0:Nat):Int)):=by
    rw[WK _ .i64 hi,List.getElem_take];have:s[s.length - (j+1)]'(by omega)=0:=by
     have h2:s.length - (j+1)< (yW s++List.replicate k 0).length:=by rw[<-hk];omega
     have h3:s[s.length - (j+1)]'(by omega)=(yW s++List.replicate k 0)[s.length - (j+1)]:=by congr 1
     rw[h3,List.getElem_append_right (by omega),List.getElem_replicate]
    rw[this];rfl
   have hcut:fW (S (s.take (s.length - j))) none (some (.int .i64 ((s.length - (j+1):Nat):Int)))=some (S (s.take (s.length - (j+1)))):=by
    rw[zEi _ _ (by omega) (by rw[zS];omega),zS,List.take_take,Nat.min_eq_left (by omega)]
   simp(maxSteps:=999999)(disch:=omega) only[zCx,eZ,jX,h0,hsub,hx,hcut]
  ·have ht:s.take (s.length - k)=yW s:=by
    have h2:(yW s++List.replicate k 0).take (yW s).length=yW s:=List.take_left' rfl;rw[<-hk]at h2;rw[show s.length - k=(yW s).length by omega];exact h2
   rw[ht];refine yO ?_;rcases hz with hz | ⟨hz,hlast⟩
   ·have h0: ¬((0:Nat):Int)< (((yW s).length:Nat):Int):=by rw[hz];decide
    simp(maxSteps:=999999)(disch:=omega) only[zCx,eZ,jX,h0]
   ·have hp:=List.length_pos_iff.2 hz;have h0:((0:Nat):Int)< (((yW s).length:Nat):Int):=by omega
    have hsub:(((yW s).length:Nat):Int) - ((1:Nat):Int)=(((yW s).length - 1:Nat):Int):=by omega
    have hx:=WK (yW s) .i64 (show(yW s).length - 1< (yW s).length by omega);have hne: ¬(((yW s)[(yW s).length - 1].toNat:Nat):Int)=((0:Nat):Int):=fun e=>by
     rw[List.getLast_eq_getElem]at hlast;exact hlast (UInt8.toNat_inj.1 (by simpa using e))
    simp(maxSteps:=999999)(disch:=omega) only[zCx,eZ,jX,h0,hsub,hx,hne]
 simp(maxSteps:=999999)(disch:=omega) only[f75,eZ,lp,zJv]
theorem zGH (D:Dyn)(n:Nat){H:AH}(s:Str)(hn:s.length<n)(hs:s.length<=1000000):f53 D n [S s, .str 1 0] H=some (S (yW s),H):=by
 have e0:(AV.str 0 0)=S []:=rfl;have e1:(AV.str 1 0)=S [0]:=rfl;have hb:=zE6 D n (H:=H) s hn hs;have hx:bL (S [0]) (.int .i64 ((0:Nat):Int))=some (.int .u8 ((0:Nat):Int)):=rfl;have l1:yY (S [0])=some (.int .i64 ((1:Nat):Int)):=rfl;have n0: ¬([0]:Str)=[]:=by decide
 have t1:((0:Nat):Int)< ((128:Nat):Int):=by omega
 by_cases h:s=[]
 ·have q:_=True:=eq_true h;have ht:yW s=s:=by rw[h];rfl
  rw[ht];simp(maxSteps:=999999)(disch:=omega) only[f53,eZ,e0,e1,vF,q]
 ·simp(maxSteps:=999999)(disch:=omega) only[f53,eZ,e0,e1,vF,h,n0,l1,hx,t1,hb]
end Go.Eng.Sh
end
section
namespace Go.Ex
open Go.Nd (Str Kvs putP delP lookP Srt mayK)
theorem zHh:pad []=List.replicate 128 0:=by rw[pad,List.nil_append,zL (by simp)]
theorem zEA (s:Str):over (List.replicate 128 0) 0 (s.take (min s.length 128))=pad s:=by
 have hl:(s.take (min s.length 128)).length=min s.length 128:=by rw[zG];omega
 rw[over,List.take_zero,List.nil_append,Nat.zero_add,hl,List.drop_replicate,pad,List.take_append,List.take_replicate];have e1:s.take (min s.length 128)=s.take 128:=by
  rcases Nat.le_total s.length 128 with h | h
  ·rw[Nat.min_eq_left h,q6,zL h]
  ·rw[Nat.min_eq_right h]
 rw[e1];congr 2;omega
theorem zGx {k:Str} : ∀ {l:Kvs},lookP k l=none->delP k l=l
 | [],_=>rfl
 | (a,b)::l,h=>by
  simp only[lookP]at h;by_cases e:a=k
  ·rw[if_pos e]at h;cases h
  ·rw[if_neg e]at h;simp only[delP,if_neg e,zGx h]
end Go.Ex
namespace Go.Eng.Sh
open Go.Nd (Ptr y9 qM Kvs Srt Str lookP putP delP mayK)
open Go.Bt Go.Dr Go.Ex
theorem zFW (x:AV): ∀n,rep n [x]=List.replicate n x
 | 0=>rfl
 | n+1=>by rw[rep,zFW x n,List.replicate_succ];rfl
theorem aD:rep 128 [AV.int .u8 ((0:Nat):Int)]=qO (List.replicate 128 0):=by
 rw[zFW];simp[qO]
theorem ZF {A e k:Nat}{H:AH}{l:List AV}{g:Bool}(h:H.h.get A=some (.cells l e 1 g))(hl:l.length=k):ldN k (.ptr A 0) H=some (.agg l):=by
 rw[qN h,jG _ _ _ (.inr (by omega)),List.drop_zero,<-hl,q6];rfl
theorem bytesV_cells (b:Str):qK (qO b)=true:=by
 rw[jB];intro x hx;obtain⟨b,_,rfl⟩:=List.mem_map.1 hx;rfl
theorem cN {H:AH}(hk:H.ok){A e:Nat}{b b':Str}(h:H.h.get A=some (.cells (qO b) e 1 false))(h1:b.length=128)(h2:b'.length=128):
  ∃H',stN 128 (.ptr A 0) (.agg (qO b')) H=some (qI,H')/\H'.h.get A=some (.cells (qO b') e 1 false)/\Stp (fun B=>B=A) H H':=by
 obtain⟨H',e1,g1,s1,_⟩:=yE hk h (l':=qO b') (by rw[qS,qS,h1,h2]) (bytesV_cells b');rw[qS,h1]at e1;exact⟨H',e1,g1,s1⟩
theorem zFV (A:Nat):xB 128 1 (.ptr A 0) none none none=some (.slice A 0 128 256):=rfl
theorem UD (m n:Nat)(hn:300000000<=n){H:AH}{At M L:Nat}{kv:Kvs}(t:jA H At M L kv)(hL:L<=90000000)(hkv:kv.length<=1000000000)(i p:Nat):
  ∃H',f26 (dy m) n [.ptr At 0, .int .i64 ((i:Nat):Int), .int .i64 ((p:Nat):Int)] H=some (.tuple [.agg (qO (wR kv i p)), .bool (lookP (uN i p) kv).isSome, .int .i64 ((0:Nat):Int)],H')/\Prs H H':=by
 have hk:H.ok:=by obtain⟨_,_,_,_,_,_,_,_,_,ti,_⟩:=t;exact ti.ok
 obtain⟨Z,hZ⟩: ∃Z:Str,Z=List.replicate 128 0:=⟨_,rfl⟩;have hZl:Z.length=128:=by rw[hZ];simp
 obtain⟨H1,A6,b1,p1,g1,m1,n1⟩:=box hk (.cells (qO Z) 72 1 false);obtain⟨H2,A9,b2,p2,g2,m2,n2⟩:=box p1.ok (.cells (qO Z) 72 1 false);obtain⟨H3,e3,p3⟩:=key_ok (dy m) n p2.ok i p;obtain⟨H4,e4,p4⟩:=zHB m n (by omega) (uN i p) (((t.prs p1).prs p2).prs p3) (by omega) hkv;rw[JH,if_pos rfl]at e4;have N1:=p1.next;have N2:=p2.next;have N3:=p3.next;have N4:=p4.next
 have g64:=Prs.get ((p2.trans p3).trans p4) p1.ok g1;have g94:=Prs.get (p3.trans p4) p2.ok g2;have P4:Prs H H4:=((p1.trans p2).trans p3).trans p4;have hbx:rep 128 [AV.int .u8 ((0:Nat):Int)]=qO Z:=by rw[aD,hZ]
 cases ho:lookP (uN i p) kv with
 | none=>
  rw[ho]at e4;have e4':f12 (dy m) n [.ptr At 0,S (uN i p)] H3=some (.tuple [.str 0 0, .int .i64 ((5:Nat):Int)],H4):=e4;have hp:wR kv i p=Z:=by rw[wR,ho,hZ];exact zHh
  rw[hp];have r9:=ZF g94 (k:=128) (by rw[qS,hZl]);obtain⟨H5,e5,g5,s5⟩:=cN p4.ok g64 hZl hZl;have r6:=ZF g5 (k:=128) (by rw[qS,hZl]);refine⟨H5, ?_,P4.fresh s5 fun B hB=>by omega⟩;simp(maxSteps:=999999)(disch:=omega) only[f26,eZ,hbx,b1,b2,e3,e4',qH,nth,r9,e5,r6,Option.isSome_none]
 | some s=>
  rw[ho]at e4;have e4':f12 (dy m) n [.ptr At 0,S (uN i p)] H3=some (.tuple [S s, .int .i64 ((0:Nat):Int)],H4):=e4;have hp:wR kv i p=pad s:=by rw[wR,ho];rfl
  rw[hp];obtain⟨H5,e5,g5,s5⟩:=zK1 (off:=0) (m:=128) (cc:=256) (s:=s) g94 p4.ok (by omega);have hov:Ex.over Z 0 (s.take (min s.length 128))=pad s:=by rw[hZ];exact zEA s
  rw[hov]at g5;have g65:H5.h.get A6=some (.cells (qO Z) 72 1 false):=by rw[s5.keep _ (by omega) (by omega)];exact g64
  have r9:=ZF g5 (k:=128) (by rw[qS,J9]);obtain⟨H6,e6,g6,s6⟩:=cN s5.ok g65 hZl (J9 s);have r6:=ZF g6 (k:=128) (by rw[qS,J9]);have N5:=s5.next
  have h05: ¬((0:Nat):Int)=((5:Nat):Int):=by omega
  refine⟨H6, ?_,(P4.fresh s5 fun B hB=>by omega).fresh s6 fun B hB=>by omega⟩;simp(maxSteps:=999999)(disch:=omega) only[f26,eZ,hbx,b1,b2,e3,e4',qH,nth,h05,zFV,e5,r9,e6,r6,qG]
theorem zAW (m n:Nat)(hm:300000000<=m)(hn:300000000<=n){H:AH}{At M L A:Nat}{kv:Kvs}(t:jA H At M L kv)(hs:Srt kv)(hL:L<=90000000)(hkv:kv.length<=1000000000)(i p:Nat){b:Str}(hb:b.length=128)(g:H.h.get A=some (.cells (qO b) 72 1 false)):
  ∃H',f27 (dy (m+2)) n [.ptr At 0, .int .i64 ((i:Nat):Int), .int .i64 ((p:Nat):Int), .slice A 0 128 256, .bool (lookP (uN i p) kv).isSome] H=some (.int .i64 ((0:Nat):Int),H')/\jA H' At M (L+200) (vK kv i p b)/\Stp (fun B=>B=At\/B=M) H H':=by
 have hk:H.ok:=by obtain⟨_,_,_,_,_,_,_,_,_,ti,_⟩:=t;exact ti.ok
 have hcv:YC (.slice A 0 128 256) H=some (S b):=zA3 H hk g hb;have ht:=zGH (dy (m+2)) n (H:=H) b (by omega) (by omega);have e0:(AV.str 0 0)=S []:=rfl;have hl:=KE b;by_cases h:yW b=[]
 ·have hne: ¬(yW b≠[]):=fun e=>e h
  rw[vK,if_pos h]
  cases ho:(lookP (uN i p) kv).isSome with
  | true=>
   obtain⟨H1,e1,p1⟩:=key_ok (dy (m+2)) n hk i p;obtain⟨H2,e2,t2,s2⟩:=zHZ m n hm hn (t.prs p1) (by omega) hkv (k:=uN i p);have hz:QB (uN i p) kv=0:=by
    rw[QB,JH];simp[ho]
   rw[hz]at e2;rw[if_pos hz]at t2;refine⟨H2, ?_,t2,(Prs.stp p1).trans s2⟩;simp(maxSteps:=999999)(disch:=omega) only[f27,eZ,hcv,ht,e0,cX,hne,e1,e2]
  | false=>
   have hd:delP (uN i p) kv=kv:=by
    have hno:lookP (uN i p) kv=none:=by cases hh:lookP (uN i p) kv with
     | none=>rfl
     | some _=>rw[hh]at ho;cases ho
    exact zGx hno
   rw[hd];refine⟨H, ?_,t.up (by omega),Stp.refl hk⟩;simp(maxSteps:=999999)(disch:=omega) only[f27,eZ,hcv,ht,e0,cX,hne]
 ·have hne:yW b≠[]:=h;rw[vK,if_neg h];obtain⟨H1,e1,p1⟩:=key_ok (dy (m+2)) n hk i p;obtain⟨H2,e2,t2,s2⟩:=zHe m n hm hn (t.prs p1) (by omega) hkv (k:=uN i p) (v:=yW b);have hput:Z0 (uN i p) (yW b)=true:=by
   rw[Z0,JH];simp;omega
  rw[hput]at e2 t2;simp only[if_true]at e2 t2;refine⟨H2, ?_,t2,(Prs.stp p1).trans s2⟩;simp(maxSteps:=999999)(disch:=omega) only[f27,eZ,hcv,ht,e0,cX,hne,ne_eq,not_false_eq_true,e1,e2]
def Bx (o:AObj):Prop:=(∃x r e sz,o= .cells (x::r) e sz false)\/ ∃l,o= .loop l
theorem jT.nbx {k e n:Nat}{H:AH}{v:AV}{l:List AV}(h:jT k e H v n l){A:Nat}{o:AObj}(g:H.h.get A=some o)(hb:Bx o): ¬Blk v A:=by
 intro hB;rcases h with⟨h0,⟨rfl,_⟩ | ⟨B,rfl,_,hg⟩⟩ | ⟨h0,B,e',g',rfl,_,hg,hn⟩
 ·exact Blk.nil.1 hB
 ·rw[Blk.slice.1 hB,hg]at g;rcases hb with⟨x,r,e,sz,rfl⟩ | ⟨l,rfl⟩
  ·simp only[z7,AObj.cells.injEq]at g;cases g.2.2.2
  ·cases g
 ·rw[Blk.slice.1 hB,hg]at g;rcases hb with⟨x,r,e,sz,rfl⟩ | ⟨l,rfl⟩
  ·simp only[z7,AObj.cells.injEq]at g;rw[g.1,hn]at h0;simp at h0
  ·cases g
theorem qY.nbx {H:AH}{v:AV}{nd:Nd.Node}(h:qY H v nd){A:Nat}{o:AObj}(g:H.h.get A=some o)(hb:Bx o): ¬v5 v A:=by
 obtain⟨ks,vs,ps,rfl,h1,h2,h3⟩:=h;intro hB;rcases jS.1 hB with h | h | h
 ·exact jT.nbx h1 g hb h
 ·exact jT.nbx h2 g hb h
 ·exact jT.nbx h3 g hb h
theorem jA.free {H H':AH}{At M L:Nat}{kv:Kvs}{S:Nat->Prop}(t:jA H At M L kv)(s:Stp S H H')(hS: ∀B,B<H.next->S B->B≠At/\ ∃o,H.h.get B=some o/\Bx o):jA H' At M L kv:=by
 obtain⟨d,c,_,root,es,q,last,rfl,hc,ti,h2⟩:=t;have lA:=ti.ok.lt ti.gT;have lM:=ti.ok.lt ti.gM;refine⟨d,c,_,root,es,q,last,rfl,hc,ti.stp s (fun e=> ?_) (fun e=> ?_) (fun z hz B hB e=> ?_),h2⟩
 ·exact(hS _ lA e).1 rfl
 ·obtain⟨_,o,g,hb⟩:=hS _ lM e;rw[ti.gM]at g;rcases hb with⟨x,r,e,sz,rfl⟩ | ⟨l,rfl⟩<;>cases g
 ·obtain⟨nd,hn⟩:=ti.pq.mem z hz;obtain⟨_,o,g,hb⟩:=hS _ (hn.lt hB) e;exact hn.nbx g hb hB
theorem Box.bx {H:AH}{A:Nat}{v:AV}(h:Box H A v): ∃o,H.h.get A=some o/\Bx o:=by
 obtain⟨e,g⟩:=h;exact⟨_,g, .inl ⟨_,_,_,_,rfl⟩⟩
theorem mn2N (a b:Nat):mn2 (.int .i64 ((a:Nat):Int)) (.int .i64 ((b:Nat):Int))=some (.int .i64 ((min a b:Nat):Int)):=by
 by_cases h:b<a
 ·have hb:ilt ((b:Nat):Int) ((a:Nat):Int)=true:=by rw[kP];exact decide_eq_true (by omega)
  simp only[mn2,hb,cond_true,show min a b=b by omega]
 ·have hb:ilt ((b:Nat):Int) ((a:Nat):Int)=false:=by rw[kP];exact decide_eq_false (by omega)
  simp only[mn2,hb,cond_false,show min a b=a by omega]
def vN (x n:Nat):List AV:=[.int .i64 ((x / 128:Nat):Int), .int .i64 ((x % 128:Nat):Int), .int .i64 ((min 128 (x % 128+n):Nat):Int)]
def bI (x n:Nat):Nat:=min 128 (x % 128+n) - x % 128
theorem vY {x n:Nat}(h:0<n):0<bI x n/\bI x n<=n/\x % 128+bI x n<=128/\min 128 (x % 128+n)=x % 128+bI x n:=by
 have:=Nat.mod_lt x (show 128>0 by omega);simp only[bI];omega
structure Pc (A1 a n M:Nat)(R:Nat->Prop)(I:Nat->AH->(Nat->Prop)->Prop):Prop where
 ok: ∀ {c H W},I c H W->H.ok
 lt: ∀ {c H W},I c H W-> ∀B,W B->B<H.next
 frame: ∀ {c H H' W S},I c H W->Stp S H H'->(∀B,B<H.next->S B-> ¬W B/\ ¬R B/\ ∃o,H.h.get B=some o/\Bx o)->I c H' W
 run: ∀ {c H W} (m:Nat),M<=m->c<n->I c H W-> ∃H' W',(dy (m+1)).yld A1 [.agg (vN (a+c) (n - c))] H=some (.bool true,H')/\I (c+bI (a+c) (n - c)) H' W'/\Adw W H W' H'
theorem zDs (m n A:Nat)(az:List AV)(H:AH):callV (s52 (dy (m+1)) n).S (dy (m+1)) (.yieldTo A) az H=(dy (m+1)).yld A az H:=rfl
theorem Z2 {A1 a n M Ba Bn:Nat}{R:Nat->Prop}{I:Nat->AH->(Nat->Prop)->Prop}(pc:Pc A1 a n M R I)(m:Nat)(hm:M<=m)(ha:a<=100000)(hn:n<=100000)(hab:Ba≠Bn)(ra: ¬R Ba)(rn: ¬R Bn):
  ∀(rr c kf:Nat) {H:AH} {W:Nat->Prop},n - c<=rr->rr<kf->c<=n->I c H W->Box H Ba (.int .i64 ((a+c:Nat):Int))->Box H Bn (.int .i64 ((n - c:Nat):Int))-> ¬W Ba-> ¬W Bn->
   ∃H' W',qW kf (zCI (dy (m+1)) (m+1)) [.yieldTo A1, .ptr Bn 0, .ptr Ba 0] H=some (.exit 0 [],H')/\I n H' W'/\Stp (fun B=>W B\/B=Ba\/B=Bn) H H'/\ ∀B,W' B->W B\/H.next<=B
 | _,_,0,_,_,_,hk,_,_,_,_,_,_=>by omega
 | rr,c,kf+1,H,W,hr,hkf,hc,hI,ba,bn,wa,wn=>by
  have hk:=pc.ok hI;by_cases h0:c=n
  ·subst h0;have hge: ¬((0:Nat):Int)< ((c - c:Nat):Int):=by omega
   refine⟨H,W,yO ?_,hI,Stp.refl hk,fun B hB=> .inl hB⟩;simp(maxSteps:=999999)(disch:=omega) only[zCI,eZ,bn.ld,hge]
  ·have hlt:c<n:=by omega
   obtain⟨x,hx⟩: ∃x,x=a+c:=⟨_,rfl⟩;obtain⟨r,hrr⟩: ∃r,r=n - c:=⟨_,rfl⟩;obtain⟨q1,q2,q3,q4⟩:=vY (x:=x) (n:=r) (by omega);obtain⟨t,ht⟩: ∃t,t=min 128 (x % 128+r):=⟨_,rfl⟩;obtain⟨k,hk9⟩: ∃k,k=bI x r:=⟨_,rfl⟩;rw[<-hk9]at q1 q2 q3 q4;rw[<-ht]at q4;rw[<-hx]at ba;rw[<-hrr]at bn;have la:=ba.lt hk;have ln:=bn.lt hk;obtain⟨H1,A4,b1,p1,g1,m1,n1⟩:=box hk (.cells [.int .i64 ((0:Nat):Int), .int .i64 ((0:Nat):Int), .int .i64 ((0:Nat):Int)] 71 1 false);obtain⟨H2,e2,g2,s2,n2⟩:=yE p1.ok g1 (l':=[.int .i64 ((x / 128:Nat):Int), .int .i64 ((x % 128:Nat):Int), .int .i64 ((0:Nat):Int)]) rfl rfl;have e2':stN 3 (.ptr A4 0) (.agg [.int .i64 ((x / 128:Nat):Int), .int .i64 ((x % 128:Nat):Int), .int .i64 ((0:Nat):Int)]) H1=some (qI,H2):=e2;obtain⟨H3,e3,g3,s3⟩:=st1c s2.ok g2 (o:=2) (x:= .int .i64 ((t:Nat):Int)) rfl (by simp);have g3':H3.h.get A4=some (.cells (vN x r) 71 1 false):=by rw[g3,vN,<-ht];rfl
   have N1:=p1.next;have N2:=s2.next;have N3:=s3.next
   have P3:Prs H H3:=(p1.fresh s2 fun B hB=>by omega).fresh s3 fun B hB=>by omega
   have I3:=pc.frame hI P3 fun B _ hB=>hB.elim
   obtain⟨H4,W4,e4,I4,d4⟩:=pc.run m hm hlt I3;rw[<-hx,<-hrr]at e4 I4;rw[<-hk9]at I4;have N4:=d4.1.next
   have w4: ∀B,B<H3.next->W4 B->W B:=fun B hB hw=>by
    rcases d4.2 B hw with e | e
    ·exact e
    ·omega
   have nA4: ¬W A4:=fun hw=>by have:=pc.lt hI _ hw;omega
   have g4:H4.h.get A4=some (.cells (vN x r) 71 1 false):=by rw[d4.1.keep _ (by omega) nA4];exact g3'
   have ba4:Box H4 Ba (.int .i64 ((x:Nat):Int)):=(ba.mono hk P3 fun x=>x).mono P3.ok d4.1 wa;have bn4:Box H4 Bn (.int .i64 ((r:Nat):Int)):=(bn.mono hk P3 fun x=>x).mono P3.ok d4.1 wn;obtain⟨H5,e5,ba5,s5⟩:=ba4.st d4.1.ok (x:= .int .i64 ((a+(c+k):Nat):Int)) rfl;have bn5:Box H5 Bn (.int .i64 ((r:Nat):Int)):=bn4.mono d4.1.ok s5 (fun e=>hab e.symm);have N5:=s5.next
   obtain⟨H6,e6,bn6,s6⟩:=bn5.st s5.ok (x:= .int .i64 ((n - (c+k):Nat):Int)) rfl;have N6:=s6.next
   have ba6:Box H6 Ba (.int .i64 ((a+(c+k):Nat):Int)):=ba5.mono s5.ok s6 hab;have I5:=pc.frame I4 s5 fun B hB e=>by subst e;exact⟨fun hw=>wa (w4 _ (by omega) hw),ra,Box.bx ba4⟩
   have I6:=pc.frame I5 s6 fun B hB e=>by subst e;exact⟨fun hw=>wn (w4 _ (by omega) hw),rn,Box.bx bn5⟩
   have g5:H5.h.get A4=some (.cells (vN x r) 71 1 false):=by rw[s5.keep _ (by omega) (by omega)];exact g4
   obtain⟨H7,W7,e7,I7,s7,f7⟩:=Z2 pc m hm ha hn hab ra rn (rr - 1) (c+k) kf (by omega) (by omega) (by omega) I6 ba6 bn6 (fun hw=>wa (w4 _ (by omega) hw)) (fun hw=>wn (w4 _ (by omega) hw));have r31:Eng.ld1 (.ptr A4 1) H2=some (.int .i64 ((x % 128:Nat):Int)):=by rw[qJ g2];rfl
   have r3:ldN 3 (.ptr A4 0) H3=some (.agg (vN x r)):=ZF g3' rfl;have ld4: ∀ {Hx:AH},Hx.h.get A4=some (.cells (vN x r) 71 1 false)->Eng.ld1 (.ptr A4 2) Hx=some (.int .i64 ((t:Nat):Int))/\Eng.ld1 (.ptr A4 1) Hx=some (.int .i64 ((x % 128:Nat):Int)):=fun gx=>⟨by rw[qJ gx,ht];rfl,by rw[qJ gx];rfl⟩
   obtain⟨r42,r41⟩:=ld4 g4;obtain⟨r52,r51⟩:=ld4 g5;have ba2:Box H2 Ba (.int .i64 ((x:Nat):Int)):=(ba.mono hk p1 fun x=>x).mono p1.ok s2 (by omega);have bn2:Box H2 Bn (.int .i64 ((r:Nat):Int)):=(bn.mono hk p1 fun x=>x).mono p1.ok s2 (by omega);have hq:=quoN (c:=x) (k:=128) (by omega) (by omega);have hrm:=remN (c:=x) (k:=128) (by omega);have bs:kJ [(0,1),(1,1),(2,1)] [.int .i64 ((0:Nat):Int), .int .i64 ((0:Nat):Int), .int .i64 ((0:Nat):Int)] [(0, .int .i64 ((x / 128:Nat):Int)),(1, .int .i64 ((x % 128:Nat):Int))]=some (.agg [.int .i64 ((x / 128:Nat):Int), .int .i64 ((x % 128:Nat):Int), .int .i64 ((0:Nat):Int)]):=rfl;have h0r:((0:Nat):Int)< ((r:Nat):Int):=by omega
   have hs1:((x % 128:Nat):Int)+((r:Nat):Int)=((x % 128+r:Nat):Int):=by omega
   have hmn:mn2 (.int .i64 ((128:Nat):Int)) (.int .i64 ((x % 128+r:Nat):Int))=some (.int .i64 ((t:Nat):Int)):=by rw[mn2N,ht]
   have hd:((t:Nat):Int) - ((x % 128:Nat):Int)=((k:Nat):Int):=by omega
   have hs2:((x:Nat):Int)+((k:Nat):Int)=((a+(c+k):Nat):Int):=by omega
   have hs3:((r:Nat):Int) - ((k:Nat):Int)=((n - (c+k):Nat):Int):=by omega
   have body:zCI (dy (m+1)) (m+1) [.yieldTo A1, .ptr Bn 0, .ptr Ba 0] H=some (.norm [.yieldTo A1, .ptr Bn 0, .ptr Ba 0],H6):=by
    simp(maxSteps:=999999)(disch:=omega) only[zCI,eZ,bn.ld,h0r,ba.ld,hq,hrm,bs,b1,e2',r31,bn2.ld,hs1,hmn,e3,r3,zDs,e4,ba4.ld,r42,r41,hd,hs2,e5,bn5.ld,r52,r51,hs3,e6]
   refine⟨H7,W7,by rw[xT body,e7],I7,⟨s7.ok,by have:=s7.next;omega,fun B hB hS=> ?_⟩,fun B hB=> ?_⟩
   ·have h1: ¬W B:=fun e=>hS (.inl e)
    have h2:B≠Ba:=fun e=>hS (.inr (.inl e))
    have h3:B≠Bn:=fun e=>hS (.inr (.inr e))
    rw[s7.keep B (by omega) (fun e=>by
     rcases e with e | e | e
     ·exact h1 (w4 B (by omega) e)
     ·exact h2 e
     ·exact h3 e),s6.keep B (by omega) h3,s5.keep B (by omega) h2,d4.1.keep B (by omega) h1,P3.keep B hB fun x=>x]
   ·rcases f7 B hB with e | e
    ·rcases d4.2 B e with e | e
     ·exact .inl e
     ·exact .inr (by omega)
    ·exact .inr (by omega)
end Go.Eng.Sh
end
section
namespace Go.Ex
open Go.Nd (Str Kvs putP delP lookP Srt mayK)
open Go.Eng.Sh (bI vY)
def Tidy (i:Nat)(kv:Kvs):Prop:= ∀p,p<4294967296-> ∀v,lookP (uN i p) kv=some v->v.length<=128/\ ∃h:v≠[],v.getLast h≠0
structure WS (kv0 kv:Kvs)(i a:Nat)(tx:Str)(c:Nat):Prop where
 srt:Srt kv
 byt: ∀x,x<100000000->U8 kv i x=if a<=x/\x<a+c then tx.getD (x - a) 0 else U8 kv0 i x
 oth: ∀k,(∀p,p<256->k≠uN i p)->lookP k kv=lookP k kv0
 len:kv.length<=kv0.length+c
 tidy:Tidy i kv0->Tidy i kv
theorem zAY {kv:Kvs}(h:Srt kv)(i a:Nat)(tx:Str):WS kv kv i a tx 0:=
 ⟨h,fun x _=>by rw[if_neg (by omega)],fun _ _=>rfl,by omega,fun h=>h⟩
theorem zAo {kv:Kvs}(h:Srt kv){i p:Nat}{b:Str}(hb:b.length=128)(hi:i<4294967296)(hp:p<4294967296)(ht:Tidy i kv):Tidy i (vK kv i p b):=fun q hq v hv=>by
 rw[fV h]at hv;by_cases e:uN i q=uN i p
 ·rw[if_pos e]at hv;by_cases hz:yW b=[]
  ·rw[if_pos hz]at hv;cases hv
  ·rw[if_neg hz]at hv;obtain rfl:=Option.some.inj hv;obtain⟨k,_,h1 | h1⟩:=v7 b
   ·exact absurd h1 hz
   ·exact⟨by have:=KE b;omega,h1⟩
 ·rw[if_neg e]at hv;exact ht q hq v hv
theorem WS.step {kv0 kv:Kvs}{i a c:Nat}{tx:Str}(w:WS kv0 kv i a tx c)(hi:i<4294967296)(ha:a+tx.length<=32768)(hc:c<tx.length):
  WS kv0 (vK kv i ((a+c) / 128) (over (wR kv i ((a+c) / 128)) ((a+c) % 128) ((tx.drop c).take (bI (a+c) (tx.length - c))))) i a tx (c+bI (a+c) (tx.length - c)):=by
 obtain⟨x,hx⟩: ∃x,x=a+c:=⟨_,rfl⟩;rw[<-hx];obtain⟨q1,q2,q3,q4⟩:=vY (x:=x) (n:=tx.length - c) (by omega);obtain⟨k,hk⟩: ∃k,k=bI x (tx.length - c):=⟨_,rfl⟩;rw[<-hk]at q1 q2 q3 q4⊢;have hl:((tx.drop c).take k).length=k:=by rw[zG,zM];omega
 obtain⟨b,hb⟩: ∃b,b=over (wR kv i (x / 128)) (x % 128) ((tx.drop c).take k):=⟨_,rfl⟩;have hbl:b.length=128:=by rw[hb,UX (by rw[hl,wQ];omega),wQ]
 rw[<-hb];refine⟨zBs w.srt _ _ _,fun y hy=> ?_,fun key hkey=> ?_, ?_,fun ht=>zAo w.srt hbl hi (by omega) (w.tidy ht)⟩
 ·rw[U8,VE w.srt hbl hi hi (by omega) (by omega)];by_cases e:y / 128=x / 128
  ·rw[if_pos ⟨rfl,e⟩,hb,zEC (by rw[hl,wQ];omega),hl];by_cases hin:x % 128<=y % 128/\y % 128<x % 128+k
   ·rw[if_pos hin,if_pos (by omega)];simp only[zI,List.getElem?_take,qA];rw[if_pos (by omega)];congr 2;omega
   ·rw[if_neg hin];have:=w.byt y hy;rw[U8,e]at this;rw[this];by_cases h2:a<=y/\y<a+c
    ·rw[if_pos h2,if_pos (by omega)]
    ·rw[if_neg h2,if_neg (by omega)]
  ·rw[if_neg fun h=>e h.2];have:=w.byt y hy;rw[U8]at this;rw[this];by_cases h2:a<=y/\y<a+c
   ·rw[if_pos h2,if_pos (by omega)]
   ·rw[if_neg h2,if_neg (by omega)]
 ·rw[fV w.srt,if_neg (hkey _ (by omega))];exact w.oth key hkey
 ·have:=zBt w.srt i (x / 128) b;have:=w.len;omega
end Go.Ex
namespace Go.Eng.Sh
open Go.Nd (Ptr y9 qM Kvs Srt Str lookP putP delP mayK)
open Go.Bt Go.Dr Go.Ex
def lpW (X2 X3 X4 X5:Nat):ALoop:=⟨.ready,none,24,0,[2,3,4,5],[.ptr X2 0, .ptr X3 0, .ptr X4 0, .ptr X5 0]⟩
structure WI (kv0:Kvs)(i a:Nat)(tx:Str)(At M L0 A1 X2 X3 X4 X5:Nat)(c:Nat)(H:AH)(W:Nat->Prop):Prop where
 gA:H.h.get A1=some (.loop (lpW X2 X3 X4 X5))
 x2:Box H X2 (.ptr At 0)
 x3:Box H X3 (.int .i64 ((i:Nat):Int))
 x4:Box H X4 (.int .i64 ((0:Nat):Int))
 x5:Box H X5 (S (tx.drop c))
 ex: ∃kv,jA H At M (L0+200*c) kv/\WS kv0 kv i a tx c
 w: ∀B,W B↔B=A1\/B=X4\/B=X5\/B=At\/B=M
 ne:X5≠X2/\X5≠X3/\X5≠X4
 na:A1≠At/\X2≠At/\X3≠At/\X4≠At/\X5≠At
theorem zI4 (m:Nat){H:AH}{A1 X2 X3 X4 X5:Nat}(gA:H.h.get A1=some (.loop (lpW X2 X3 X4 X5)))(az:List AV):(dy (m+1)).yld A1 az H=zBM (dy m) m A1 (lpW X2 X3 X4 X5) az H:=by
 show J6 (tabR (dy m) m) A1 az H=_;simp only[J6,gA];rfl
theorem zFw {H:AH}{A B:Nat}{v:AV}{ks:List Nat}{es:List (AV×AV)}(b:Box H A v)(g:H.h.get B=some (.map ks es)):A≠B:=fun e=>by
 obtain⟨_,hb⟩:=b;rw[e,g]at hb;cases hb
theorem jA.gm {H:AH}{At M L:Nat}{kv:Kvs}(t:jA H At M L kv): ∃es,H.h.get M=some (.map [10] es):=by
 obtain⟨_,_,_,_,es,_,_,_,_,ti,_⟩:=t;exact⟨es,ti.gM⟩
theorem jA.okH {H:AH}{At M L:Nat}{kv:Kvs}(t:jA H At M L kv):H.ok:=by
 obtain⟨_,_,_,_,_,_,_,_,_,ti,_⟩:=t;exact ti.ok
theorem zAZ {kv0:Kvs}{i a:Nat}{tx:Str}{At M L0 A1 X2 X3 X4 X5 c:Nat}{H:AH}{W:Nat->Prop}(m:Nat)(hm:400000000<=m)(hi:i<4294967296)(ha:a+tx.length<=32768)(hL0:L0<=50000000)(hkv0:kv0.length<=100000000)(hc:c<tx.length)(h:WI kv0 i a tx At M L0 A1 X2 X3 X4 X5 c H W):
  ∃H' W',(dy (m+1)).yld A1 [.agg (vN (a+c) (tx.length - c))] H=some (.bool true,H')/\WI kv0 i a tx At M L0 A1 X2 X3 X4 X5 (c+bI (a+c) (tx.length - c)) H' W'/\Adw W H W' H':=by
 obtain⟨gA,x2,x3,x4,x5,⟨kv,t,ws⟩,hW,⟨ne2,ne3,ne4⟩,⟨na1,na2,na3,na4,na5⟩⟩:=h;rw[zI4 m gA];obtain⟨es,gM⟩:=t.gm;have hk:=t.okH;obtain⟨x,hx⟩: ∃x,x=a+c:=⟨_,rfl⟩;obtain⟨r,hr⟩: ∃r,r=tx.length - c:=⟨_,rfl⟩;obtain⟨q1,q2,q3,q4⟩:=vY (x:=x) (n:=r) (by omega);have wstep:=ws.step hi ha hc;rw[<-hx,<-hr]at wstep⊢;obtain⟨k,hk9⟩: ∃k,k=bI x r:=⟨_,rfl⟩;obtain⟨tt,htt⟩: ∃tt,tt=min 128 (x % 128+r):=⟨_,rfl⟩;rw[<-hk9]at q1 q2 q3 q4 wstep⊢;rw[<-htt]at q4;have lA:=hk.lt gA;have l2:=x2.lt hk;have l3:=x3.lt hk;have l4:=x4.lt hk;have l5:=x5.lt hk;have lt:=t.lt;have n12:=dK gA x2;have n13:=dK gA x3;have n14:=dK gA x4;have n15:=dK gA x5;have nM1:A1≠M:=fun e=>by rw[e,gM]at gA;cases gA
 have nM2:=zFw x2 gM;have nM3:=zFw x3 gM;have nM4:=zFw x4 gM;have nM5:=zFw x5 gM;obtain⟨b,hb⟩: ∃b,b=wR kv i (x / 128):=⟨_,rfl⟩;have hbl:b.length=128:=by rw[hb];exact wQ ..
 have hkl:=ws.len;obtain⟨H1,A6,b1,p1,g1,m1,n1⟩:=box hk (.cells [.int .i64 ((0:Nat):Int), .int .i64 ((0:Nat):Int), .int .i64 ((0:Nat):Int)] 71 1 false);obtain⟨H2,e2,g2,s2,n2⟩:=yE p1.ok g1 (l':=vN x r) rfl rfl;have e2':stN 3 (.ptr A6 0) (.agg (vN x r)) H1=some (qI,H2):=e2;have P2:Prs H H2:=p1.fresh s2 fun B hB=>by omega
 have N1:=p1.next;have N2:=s2.next
 have gA2:=Prs.get P2 hk gA;have hbeg: ∀K:AH->Rs,uF A1 H2 K=K (H2.put A1 (.loop { lpW X2 X3 X4 X5 with state:= .busy})):=fun K=>by
  simp only[uF,gA2,lpW,jQ]
 have s3:Stp (fun B=>B=A1) H2 (H2.put A1 (.loop { lpW X2 X3 X4 X5 with state:= .busy})):=(Stp.refl s2.ok).put (s2.ok.lt gA2) _ (.inr rfl);have gA3:(H2.put A1 (.loop { lpW X2 X3 X4 X5 with state:= .busy})).h.get A1=some (.loop { lpW X2 X3 X4 X5 with state:= .busy}):=by rw[AH.put_get,if_pos rfl]
 generalize H2.put A1 (.loop { lpW X2 X3 X4 X5 with state:= .busy})=H3 at s3 gA3 hbeg;have N3:=s3.next
 have t3:=(t.prs P2).free s3 fun B _ e=>by subst e;exact⟨na1,_,gA2, .inr ⟨_,rfl⟩⟩
 have T3:Stp (fun B=>B=A1\/B=X5\/B=At\/B=M) H H3:=Stp.thru (Prs.stp P2) s3 fun B e=> .inr (.inl e)
 obtain⟨H4,e4,p4⟩:=UD m m (by omega) t3 (by omega) (by omega) i (x / 128);rw[<-hb]at e4;have N4:=p4.next
 have t4:=t3.prs p4;obtain⟨Z,hZ⟩: ∃Z:Str,Z=List.replicate 128 0:=⟨_,rfl⟩;have hZl:Z.length=128:=by rw[hZ];simp
 have hzr:rep 128 [AV.int .u8 ((0:Nat):Int)]=qO Z:=by rw[aD,hZ]
 obtain⟨H5,A7,b5,p5,g5,m5,n5⟩:=box p4.ok (.cells (qO Z) 72 1 false);have N5:=p5.next
 have t5:=t4.prs p5;obtain⟨H6,e6,g6,s6⟩:=cN p5.ok g5 hZl hbl;have N6:=s6.next
 have bxb: ∀ {y:Str},y.length=128->Bx (.cells (qO y) 72 1 false):=fun {y} hy=>by
  cases y with
  | nil=>simp at hy
  | cons z y=>exact .inl ⟨_,_,_,_,rfl⟩
 have t6:=t5.free s6 fun B _ e=>by subst e;exact⟨by omega,_,g5,bxb hZl⟩
 have T6:Stp (fun B=>B=A1\/B=X5\/B=At\/B=M) H H6:=Stp.thru (Stp.thru (Stp.thru T3 p4 fun B e=>e.elim) p5 fun B e=>e.elim) s6 fun B e=> .inl (by omega)
 obtain⟨rest,hrest⟩: ∃rest,rest=tx.drop c:=⟨_,rfl⟩;have hrl:rest.length=r:=by rw[hrest,zM,hr]
 rw[<-hrest]at x5 wstep;have hmin:min rest.length k=k:=by omega
 obtain⟨H7,e7,g7,s7⟩:=zK1 (off:=x % 128) (m:=k) (cc:=2*(128 - x % 128)) (s:=rest) g6 s6.ok (by omega);rw[hmin]at e7 g7;have N7:=s7.next
 obtain⟨b',hb'⟩: ∃b',b'=Ex.over b (x % 128) (rest.take k):=⟨_,rfl⟩;have g7':H7.h.get A7=some (.cells (qO b') 72 1 false):=by rw[hb'];exact g7
 have hbl':b'.length=128:=by rw[hb',UX (by rw[zG];omega),hbl]
 have t7:=t6.free s7 fun B _ e=>by subst e;exact⟨by omega,_,g6,bxb hbl⟩
 have T7:Stp (fun B=>B=A1\/B=X5\/B=At\/B=M) H H7:=Stp.thru T6 s7 fun B e=> .inl (by omega)
 have nS: ∀ {B:Nat},B≠A1->B≠X5->B≠At->B≠M-> ¬(B=A1\/B=X5\/B=At\/B=M):=fun h1 h2 h3 h4 e=>by
  rcases e with e | e | e | e
  ·exact h1 e
  ·exact h2 e
  ·exact h3 e
  ·exact h4 e
 have x56:Box H6 X5 (S rest):=by
  have y1:=x5.mono hk P2 fun x=>x
  have y3:=y1.mono P2.ok s3 (fun e=>n15 e.symm);have y5:=(y3.mono s3.ok p4 fun x=>x).mono p4.ok p5 fun x=>x
  exact y5.mono p5.ok s6 (by omega)
 have x57:Box H7 X5 (S rest):=x56.mono s6.ok s7 (by omega);obtain⟨H8,e8,x58,s8⟩:=x57.st s7.ok (x:=S (rest.drop k)) rfl;have N8:=s8.next
 have t8:=t7.free s8 fun B _ e=>by subst e;exact⟨na5,Box.bx x57⟩
 have T8:Stp (fun B=>B=A1\/B=X5\/B=At\/B=M) H H8:=Stp.thru T7 s8 fun B e=> .inr (.inr (.inl e))
 have g78:H8.h.get A7=some (.cells (qO b') 72 1 false):=by rw[s8.keep _ (by omega) (by omega)];exact g7'
 obtain⟨m',rfl⟩: ∃m',m=m'+2:=⟨m - 2,by omega⟩;obtain⟨H9,e9,t9,s9⟩:=zAW m' (m'+2) (by omega) (by omega) t8 ws.srt (by omega) (by omega) i (x / 128) hbl' g78;have N9:=s9.next
 have T9:Stp (fun B=>B=A1\/B=X5\/B=At\/B=M) H H9:=Stp.thru T8 s9 fun B e=> .inr (.inr (.inr e))
 have gA9:H9.h.get A1=some (.loop { lpW X2 X3 X4 X5 with state:= .busy}):=by
  rw[s9.keep _ (by omega) (by omega),s8.keep _ (by omega) n15,s7.keep _ (by omega) (by omega),s6.keep _ (by omega) (by omega),p5.keep _ (by omega) (fun x=>x),p4.keep _ (by omega) (fun x=>x)];exact gA3
 have s10:Stp (fun B=>B=A1) H9 (H9.put A1 (.loop (lpW X2 X3 X4 X5))):=(Stp.refl s9.ok).put (s9.ok.lt gA9) _ (.inr rfl);have hend:BV A1 none H9=some (.bool true,H9.put A1 (.loop (lpW X2 X3 X4 X5))):=by simp only[BV,gA9,jQ,lpW]
 have gA10:(H9.put A1 (.loop (lpW X2 X3 X4 X5))).h.get A1=some (.loop (lpW X2 X3 X4 X5)):=by rw[AH.put_get,if_pos rfl]
 have T10:Stp (fun B=>B=A1\/B=X5\/B=At\/B=M) H (H9.put A1 (.loop (lpW X2 X3 X4 X5))):=Stp.thru T9 s10 fun B e=> .inr (.inl e)
 have t10:=t9.free s10 fun B _ e=>by subst e;exact⟨na1,_,gA9, .inr ⟨_,rfl⟩⟩
 generalize H9.put A1 (.loop (lpW X2 X3 X4 X5))=H10 at s10 hend gA10 T10 t10;have x59:Box H9 X5 (S (rest.drop k)):=x58.mono s8.ok s9 (by omega);have hdd:rest.drop k=tx.drop (c+k):=by rw[hrest,List.drop_drop]
 refine⟨H10,W, ?_,⟨gA10,x2.mono hk T10 (nS (fun e=>n12 e.symm) (fun e=>ne2 e.symm) na2 nM2),x3.mono hk T10 (nS (fun e=>n13 e.symm) (fun e=>ne3 e.symm) na3 nM3),x4.mono hk T10 (nS (fun e=>n14 e.symm) (fun e=>ne4 e.symm) na4 nM4),by rw[<-hdd];exact x59.mono s9.ok s10 (fun e=>n15 e.symm),⟨_,t10.up (by omega),by rw[hb',hb];exact wstep⟩,hW,⟨ne2,ne3,ne4⟩,⟨na1,na2,na3,na4,na5⟩⟩,⟨T10.mono fun B _ hB=>(hW B).2 (by
  rcases hB with e | e | e | e
  ·exact .inl e
  ·exact .inr (.inr (.inl e))
  ·exact .inr (.inr (.inr (.inl e)))
  ·exact .inr (.inr (.inr (.inr e)))),fun B hB=> .inl hB⟩⟩
 have hl:cT [2,3,4,5] (lpW X2 X3 X4 X5).live=true:=rfl;have hvl:(lpW X2 X3 X4 X5).vals=[.ptr X2 0, .ptr X3 0, .ptr X4 0, .ptr X5 0]:=rfl;have x23:Box H3 X2 (.ptr At 0):=(x2.mono hk P2 fun x=>x).mono P2.ok s3 (fun e=>n12 e.symm);have x33:Box H3 X3 (.int .i64 ((i:Nat):Int)):=(x3.mono hk P2 fun x=>x).mono P2.ok s3 (fun e=>n13 e.symm);have x28:Box H8 X2 (.ptr At 0):=x2.mono hk T8 (nS (fun e=>n12 e.symm) (fun e=>ne2 e.symm) na2 nM2);have x38:Box H8 X3 (.int .i64 ((i:Nat):Int)):=x3.mono hk T8 (nS (fun e=>n13 e.symm) (fun e=>ne3 e.symm) na3 nM3);have gp3:H3.h.get A6=some (.cells (vN x r) 71 1 false):=by rw[s3.keep _ (by omega) (by omega)];exact g2
 have gp6:H6.h.get A6=some (.cells (vN x r) 71 1 false):=by rw[s6.keep _ (by omega) (by omega),p5.keep _ (by omega) (fun x=>x),p4.keep _ (by omega) (fun x=>x)];exact gp3
 have gp8:H8.h.get A6=some (.cells (vN x r) 71 1 false):=by rw[s8.keep _ (by omega) (by omega),s7.keep _ (by omega) (by omega)];exact gp6
 have q30:Eng.ld1 (.ptr A6 0) H3=some (.int .i64 ((x / 128:Nat):Int)):=by rw[qJ gp3];rfl
 have q61:Eng.ld1 (.ptr A6 1) H6=some (.int .i64 ((x % 128:Nat):Int)):=by rw[qJ gp6];rfl
 have q62:Eng.ld1 (.ptr A6 2) H6=some (.int .i64 ((tt:Nat):Int)):=by rw[qJ gp6,htt];rfl
 have q80:Eng.ld1 (.ptr A6 0) H8=some (.int .i64 ((x / 128:Nat):Int)):=by rw[qJ gp8];rfl
 have hsl:xB 128 1 (.ptr A7 0) (some (.int .i64 ((x % 128:Nat):Int))) (some (.int .i64 ((tt:Nat):Int))) none=some (.slice A7 (x % 128) k (2*(128 - x % 128))):=by
  have:=US (n:=128) (A:=A7) (lo:=x % 128) (hi:=tt) (by omega) (by omega) (by omega) .i64 .i64;rw[this,show tt - x % 128=k by omega]
 have hst:fW (S rest) (some (.int .i64 ((k:Nat):Int))) none=some (S (rest.drop k)):=by
  rw[zEh _ _ (by omega) (by rw[zS];omega),zS]
 have t00: ¬(((0:Nat):Int)≠((0:Nat):Int)):=by omega
 simp(maxSteps:=999999)(disch:=omega) only[zBM,eZ,hl,hvl,cond_true,b1,e2',hbeg,x23.ld,x33.ld,q30,e4,qH,nth,hzr,b5,e6,t00,x56.ld,q61,q62,hsl,e7,x57.ld,chkS,hst,e8,x28.ld,x38.ld,q80,zFV,e9];exact hend
theorem zE2 {kv0:Kvs}{i a:Nat}{tx:Str}{At M L0 A1 X2 X3 X4 X5:Nat}(hi:i<4294967296)(ha:a+tx.length<=32768)(hL0:L0<=50000000)(hkv0:kv0.length<=100000000):Pc A1 a tx.length 400000000 (fun B=>B=X2\/B=X3) (WI kv0 i a tx At M L0 A1 X2 X3 X4 X5) where
 ok:=fun h=>by obtain⟨kv,t,_⟩:=h.ex;exact t.okH
 lt:=fun {c H W} h B hB=>by
  obtain⟨kv,t,_⟩:=h.ex;have hk:=t.okH;have lt:=t.lt;have l1:=hk.lt h.gA;have l2:=h.x2.lt hk;have l3:=h.x3.lt hk;have l4:=h.x4.lt hk;have l5:=h.x5.lt hk;rcases(h.w B).1 hB with e | e | e | e | e<;>omega
 frame:=fun {c H H' W S} h s hS=>by
  obtain⟨kv,t,ws⟩:=h.ex;have hk:=t.okH;have lt:=t.lt;have l1:=hk.lt h.gA;have l2:=h.x2.lt hk;have l3:=h.x3.lt hk;have l4:=h.x4.lt hk;have l5:=h.x5.lt hk;have no: ∀ {B},B<H.next->W B-> ¬S B:=fun hl hw hs=>(hS _ hl hs).1 hw
  have n1:=no l1 ((h.w A1).2 (.inl rfl));have n2: ¬S X2:=fun hs=>(hS _ l2 hs).2.1 (.inl rfl)
  have n3: ¬S X3:=fun hs=>(hS _ l3 hs).2.1 (.inr rfl)
  have n4:=no l4 ((h.w X4).2 (.inr (.inl rfl)));have n5:=no l5 ((h.w X5).2 (.inr (.inr (.inl rfl))));have nT:=no lt.1 ((h.w At).2 (.inr (.inr (.inr (.inl rfl)))));exact⟨by rw[s.keep _ l1 n1];exact h.gA,h.x2.mono hk s n2,h.x3.mono hk s n3,h.x4.mono hk s n4,h.x5.mono hk s n5,⟨kv,t.free s fun B hl hs=>⟨fun e=>nT (e▸hs),(hS B hl hs).2.2⟩,ws⟩,h.w,h.ne,h.na⟩
 run:=fun {c H W} m hm hc h=>zAZ m hm hi ha hL0 hkv0 hc h
set_option maxRecDepth 20000 in
theorem zK4 (m n:Nat)(a b c d:Nat)(H:AH):callV (s23 (dy (m+1)) n).S (dy (m+1)) (.func 24 [] [.ptr a 0, .ptr b 0, .ptr c 0, .ptr d 0]) [] H=f24 (dy m) m [.ptr a 0, .ptr b 0, .ptr c 0, .ptr d 0] H:=rfl
theorem parts_ok (D:Dyn)(n:Nat){H:AH}(hk:H.ok)(a k:Nat): ∃H' Ba Bn,f25 D n [.int .i64 ((a:Nat):Int), .int .i64 ((k:Nat):Int)] H=some (.func 52 [] [.ptr Bn 0, .ptr Ba 0],H')/\Prs H H'/\Box H' Ba (.int .i64 ((a:Nat):Int))/\Box H' Bn (.int .i64 ((k:Nat):Int))/\Ba≠Bn/\H.next<=Ba/\H.next<=Bn:=by
 obtain⟨H1,Ba,b1,p1,g1,m1,n1⟩:=box hk (.cells [.int .i64 ((a:Nat):Int)] 3 1 false);obtain⟨H2,Bn,b2,p2,g2,m2,n2⟩:=box p1.ok (.cells [.int .i64 ((k:Nat):Int)] 3 1 false);have N1:=p1.next
 have hc: ∀z:Int,qQ (.int .i64 z)=[.int .i64 z]:=fun z=>rfl
 refine⟨H2,Ba,Bn, ?_,p1.trans p2,⟨_,Prs.get p2 p1.ok g1⟩,⟨_,g2⟩,by omega,m1,by omega⟩;simp(maxSteps:=999999)(disch:=omega) only[f25,eZ,hc,b1,b2]
theorem zB0 (m n:Nat)(hm:400000000<=m){H:AH}{At M L0 X0 X1 X2 X3:Nat}{kv0:Kvs}{i a:Nat}{tx:Str}(t:jA H At M L0 kv0)(hs:Srt kv0)(hi:i<4294967296)(ha:a+tx.length<=32768)(hL0:L0<=50000000)(hkv0:kv0.length<=100000000)
  (x0:Box H X0 (S tx)) (x1:Box H X1 (.int .i64 ((a:Nat):Int))) (x2:Box H X2 (.ptr At 0)) (x3:Box H X3 (.int .i64 ((i:Nat):Int))) (n2:X2≠At) (n3:X3≠At):
  ∃H' kv',f24 (dy (m+2)) n [.ptr X0 0, .ptr X1 0, .ptr X2 0, .ptr X3 0] H=some (.int .i64 ((0:Nat):Int),H')/\jA H' At M (L0+200*tx.length) kv'/\WS kv0 kv' i a tx tx.length/\Stp (fun B=>B=At\/B=M) H H':=by
 have hk:=t.okH;have lt:=t.lt;have l0:=x0.lt hk;have l1:=x1.lt hk;have l2:=x2.lt hk;have l3:=x3.lt hk;obtain⟨H1,X4,b1,p1,g1,m1,w1⟩:=box hk (.cells [.int .i64 ((0:Nat):Int)] 27 1 false);obtain⟨H2,X5,b2,p2,g2,m2,w2⟩:=box p1.ok (.cells [S []] 9 1 false);have N1:=p1.next;have N2:=p2.next
 have P2:=p1.trans p2;obtain⟨H3,e3,x53,s3⟩:=(show Box H2 X5 (S [])from⟨_,g2⟩).st p2.ok (x:=S tx) rfl;have N3:=s3.next
 have P3:Prs H H3:=P2.fresh s3 fun B hB=>by omega
 obtain⟨H4,Ba,Bn,e4,p4,ba4,bn4,hab,la,ln⟩:=parts_ok (dy (m+2)) n P3.ok a tx.length;have N4:=p4.next
 have lb1:=ba4.lt p4.ok;have lb2:=bn4.lt p4.ok;have P4:=P3.trans p4;have p5:Prs H4 (H4.push (.loop (lpW X2 X3 X4 X5))):=(Stp.refl p4.ok).push _;have g5:(H4.push (.loop (lpW X2 X3 X4 X5))).h.get H4.next=some (.loop (lpW X2 X3 X4 X5)):=AH.push_get_eq _ _
 have hnew: ∀K:Nat->AH->Rs,V9 H4 (.loop ⟨.ready,none,24,0,[2,3,4,5],[.ptr X2 0, .ptr X3 0, .ptr X4 0, .ptr X5 0]⟩) K=K H4.next (H4.push (.loop (lpW X2 X3 X4 X5))):=fun K=>WC p4.ok _ K
 have hnx:(H4.push (.loop (lpW X2 X3 X4 X5))).next=H4.next+1:=rfl
 generalize H4.push (.loop (lpW X2 X3 X4 X5))=H5 at p5 g5 hnew hnx;obtain⟨A1,hA1⟩: ∃A1,A1=H4.next:=⟨_,rfl⟩
 rw[<-hA1]at g5 hnew;have P5:=P4.trans p5;have x41:Box H1 X4 (.int .i64 ((0:Nat):Int)):=⟨_,g1⟩;have x43:Box H3 X4 (.int .i64 ((0:Nat):Int)):=(x41.mono p1.ok p2 fun x=>x).mono p2.ok s3 (by omega);have x45:Box H5 X4 (.int .i64 ((0:Nat):Int)):=(x43.mono P3.ok p4 fun x=>x).mono p4.ok p5 fun x=>x
 have x55:Box H5 X5 (S tx):=(x53.mono P3.ok p4 fun x=>x).mono p4.ok p5 fun x=>x
 have I5:WI kv0 i a tx At M L0 A1 X2 X3 X4 X5 0 H5 (fun B=>B=A1\/B=X4\/B=X5\/B=At\/B=M):=
  ⟨g5,x2.mono hk P5 fun x=>x,x3.mono hk P5 fun x=>x,x45,by rw[List.drop_zero];exact x55,⟨kv0,by simpa using t.prs P5,zAY hs i a tx⟩,fun B=>Iff.rfl,⟨by omega,by omega,by omega⟩,⟨by omega,n2,n3,by omega,by omega⟩⟩
 obtain⟨H6,W6,e6,I6,s6,f6⟩:=Z2 (zE2 hi ha hL0 hkv0) m hm (by omega) (by omega) hab (fun e=>by rcases e with e | e<;>omega) (fun e=>by rcases e with e | e<;>omega) tx.length 0 (m+1) (by omega) (by omega) (by omega) I5 (by simpa using ba4.mono p4.ok p5 fun x=>x) (by simpa using bn4.mono p4.ok p5 fun x=>x) (fun e=>by rcases e with e | e | e | e | e<;>omega) (fun e=>by rcases e with e | e | e | e | e<;>omega);obtain⟨kv',t6,ws6⟩:=I6.ex;have hk6:=t6.okH;have N5:=p5.next;have N6:=s6.next
 have s7:Stp (fun B=>B=A1) H6 (H6.put A1 .dead):=(Stp.refl hk6).put (hk6.lt I6.gA) _ (.inr rfl);have hendL: ∀K:Option Code->AH->Rs,ZP A1 H6 K=K none (H6.put A1 .dead):=fun K=>by
  simp only[ZP,I6.gA,lpW,jQ]
 generalize H6.put A1 .dead=H7 at s7 hendL;have N7:=s7.next
 have t7:=t6.free s7 fun B _ e=>by subst e;exact⟨by omega,_,I6.gA, .inr ⟨_,rfl⟩⟩
 have nA4:=dK I6.gA I6.x4;have x47:Box H7 X4 (.int .i64 ((0:Nat):Int)):=I6.x4.mono hk6 s7 (fun e=>nA4 e.symm);obtain⟨H8,e8,x48,s8⟩:=x47.st s7.ok (x:= .int .i64 ((0:Nat):Int)) rfl;have t8:=t7.free s8 fun B _ e=>by subst e;exact⟨by omega,Box.bx x47⟩
 refine⟨H8,kv', ?_,t8,ws6, ?_⟩
 ·have hc: ∀z:Int,qQ (.int .i64 z)=[.int .i64 z]:=fun z=>rfl
  have hcS:qQ (S [])=[S []]:=rfl;have hS:(AV.str 0 0)=S []:=rfl;have x02:Box H2 X0 (S tx):=x0.mono hk P2 fun x=>x
  have x01:Box H1 X0 (S tx):=x0.mono hk p1 fun x=>x
  have x03:Box H3 X0 (S tx):=x0.mono hk P3 fun x=>x
  have x13:Box H3 X1 (.int .i64 ((a:Nat):Int)):=x1.mono hk P3 fun x=>x
  have hf:f52 (dy (m+1)) (m+1) [.yieldTo A1, .ptr Bn 0, .ptr Ba 0] H5=some (.tuple [],H6):=by
   simp(maxSteps:=999999)(disch:=omega) only[f52,eZ,e6,zHK]
  have hrf:rfC (s24 (dy (m+2)) n).S (dy (m+2)) (.func 52 [] [.ptr Bn 0, .ptr Ba 0]) A1 H5=some (.tuple [],H6):=hf;simp(maxSteps:=999999)(disch:=omega) only[f24,eZ,hc,b1,x01.ld,hS,hcS,b2,e3,x13.ld,x03.ld,jX,e4,hnew,hrf,hendL,zEU,e8,x48.ld]
 ·refine⟨s8.ok,by have:=s8.next;omega,fun B hB hS=> ?_⟩
  have h1:B≠At:=fun e=>hS (.inl e)
  have h2:B≠M:=fun e=>hS (.inr e)
  rw[s8.keep _ (by omega) (by omega),s7.keep _ (by omega) (by omega),s6.keep _ (by omega) (fun e=>by
   rcases e with(e | e | e | e | e) | e | e<;>omega),P5.keep _ hB fun x=>x]
theorem zAV (m n:Nat)(hm:400000000<=m){H:AH}{At M L0:Nat}{kv0:Kvs}{i a:Nat}{tx:Str}(t:jA H At M L0 kv0)(hs:Srt kv0)(hi:1<=i)(hi2:i<=2147483647)(ha:a+tx.length<=32768)(hL0:L0<=50000000)(hkv0:kv0.length<=100000000):
  ∃H' kv',f9 (dy (m+3)) n [.ptr At 0, .int .i64 ((i:Nat):Int), .int .i64 ((a:Nat):Int),S tx] H=some (.int .i64 ((0:Nat):Int),H')/\jA H' At M (L0+200*tx.length) kv'/\WS kv0 kv' i a tx tx.length/\Stp (fun B=>B=At\/B=M) H H':=by
 have hk:=t.okH;have lt:=t.lt;obtain⟨H1,X4,b1,p1,g1,m1,w1⟩:=box hk (.cells [.ptr At 0] 25 1 false);obtain⟨H2,X5,b2,p2,g2,m2,w2⟩:=box p1.ok (.cells [.int .i64 ((i:Nat):Int)] 3 1 false);obtain⟨H3,X6,b3,p3,g3,m3,w3⟩:=box p2.ok (.cells [.int .i64 ((a:Nat):Int)] 3 1 false);obtain⟨H4,X7,b4,p4,g4,m4,w4⟩:=box p3.ok (.cells [S tx] 9 1 false);have N1:=p1.next;have N2:=p2.next;have N3:=p3.next;have N4:=p4.next
 have P4:=((p1.trans p2).trans p3).trans p4;have x4:Box H4 X4 (.ptr At 0):=⟨_,Prs.get ((p2.trans p3).trans p4) p1.ok g1⟩;have x5:Box H4 X5 (.int .i64 ((i:Nat):Int)):=⟨_,Prs.get (p3.trans p4) p2.ok g2⟩;have x6:Box H4 X6 (.int .i64 ((a:Nat):Int)):=⟨_,Prs.get p4 p3.ok g3⟩;have x7:Box H4 X7 (S tx):=⟨_,g4⟩;have hc: ∀z:Int,qQ (.int .i64 z)=[.int .i64 z]:=fun z=>rfl
 have hcp:qQ (.ptr At 0)=[.ptr At 0]:=rfl;have hcS:qQ (S tx)=[S tx]:=rfl;have hS:(AV.str 0 0)=S []:=rfl;have i1:f22 (dy (m+3)) n [.int .i64 ((i:Nat):Int)] H4=some (.bool true,H4):=by
  have a1:((1:Nat):Int)<=((i:Nat):Int):=by omega
  have a2:((i:Nat):Int)<=((2147483647:Nat):Int):=by omega
  simp only[f22,eZ,a1,a2,decide_true]
 have t1: ¬((a:Nat):Int)< ((0:Nat):Int):=by omega
 have t2: ¬((32768:Nat):Int)< ((a:Nat):Int):=by omega
 have t3:((32768:Nat):Int) - ((a:Nat):Int)=((32768 - a:Nat):Int):=by omega
 have t4: ¬((32768 - a:Nat):Int)< ((tx.length:Nat):Int):=by omega
 by_cases h0:tx=[]
 ·have q:_=True:=eq_true h0;refine⟨H4,kv0, ?_,(t.prs P4).up (by omega),by rw[h0];exact zAY hs i a [],Prs.stp P4⟩;simp(maxSteps:=999999)(disch:=omega) only[f9,eZ,hc,hcp,hcS,b1,b2,b3,b4,x4.ld,cq,x5.ld,i1,x6.ld,t1,t2,x7.ld,jX,t3,t4,hS,vF,q]
 ·obtain⟨H5,At',M',e5,p5,l5,l6,t5⟩:=zFo (dy (m+3)) n (t.prs P4);have N5:=p5.next
  obtain⟨H6,kv',e6,t6,ws,s6⟩:=zB0 m (m+2) hm (t.prs (P4.trans p5)) hs (by omega) ha hL0 hkv0 (x7.mono p4.ok p5 fun x=>x) (x6.mono p4.ok p5 fun x=>x) (x4.mono p4.ok p5 fun x=>x) (x5.mono p4.ok p5 fun x=>x) (by omega) (by omega);refine⟨H6,kv', ?_,t6,ws,(Prs.stp (P4.trans p5)).trans s6⟩;have t00: ¬(((0:Nat):Int)≠((0:Nat):Int)):=by omega
  have ew:f23 (dy (m+3)) n [.ptr At 0, .func 24 [] [.ptr X7 0, .ptr X6 0, .ptr X4 0, .ptr X5 0]] H4=some (.int .i64 ((0:Nat):Int),H6):=by
   simp(maxSteps:=999999)(disch:=omega) only[f23,zJV,eZ,e5,zK4,e6,t00]
  simp(maxSteps:=999999)(disch:=omega) only[f9,eZ,hc,hcp,hcS,b1,b2,b3,b4,x4.ld,cq,x5.ld,i1,x6.ld,t1,t2,x7.ld,jX,t3,t4,hS,vF,h0,ew]
def lpD (X5 X6 X10 X11 X12:Nat):ALoop:=⟨.ready,none,11,0,[5,6,10,11,12],[.ptr X5 0, .ptr X6 0, .ptr X10 0, .ptr X11 0, .ptr X12 0]⟩
structure RI (H0:AH)(kv:Kvs)(i a At X5 X6 X10 X11 X12 A1:Nat)(c:Nat)(H:AH)(W:Nat->Prop):Prop where
 prs:Prs H0 H
 gA:H.h.get A1=some (.loop (lpD X5 X6 X10 X11 X12))
 x5:Box H X5 (.ptr At 0)
 x6:Box H X6 (.int .i64 ((i:Nat):Int))
 x10:Box H X10 (S [])
 x11:Box H X11 (.int .i64 ((0:Nat):Int))
 x12: ∃v,Box H X12 v/\jT 1 5 H v c (qO (yG kv i a c))/\(∀B,Blk v B->H0.next<=B/\B≠A1/\B≠X5/\B≠X6/\B≠X10/\B≠X11/\B≠X12)/\ ∀B,W B↔B=A1\/B=X10\/B=X11\/B=X12\/Blk v B
 lo:H0.next<=A1/\H0.next<=X10/\H0.next<=X11/\H0.next<=X12
 ne:X12≠X5/\X12≠X6/\X12≠X10/\X12≠X11
theorem zI5 (m:Nat){H:AH}{A1 X5 X6 X10 X11 X12:Nat}(gA:H.h.get A1=some (.loop (lpD X5 X6 X10 X11 X12)))(az:List AV):(dy (m+1)).yld A1 az H=zBN (dy m) m A1 (lpD X5 X6 X10 X11 X12) az H:=by
 show J6 (tabR (dy m) m) A1 az H=_;simp only[J6,gA];rfl
theorem zEm {H0:AH}{kv:Kvs}{i a At M L X5 X6 X10 X11 X12 A1 c n:Nat}{H:AH}{W:Nat->Prop}(m:Nat)(hm:400000000<=m)(t0:jA H0 At M L kv)(hL:L<=90000000)(hkv:kv.length<=100000000)(ha:a+n<=100000)(hc:c<n)(h:RI H0 kv i a At X5 X6 X10 X11 X12 A1 c H W):
  ∃H' W',(dy (m+1)).yld A1 [.agg (vN (a+c) (n - c))] H=some (.bool true,H')/\RI H0 kv i a At X5 X6 X10 X11 X12 A1 (c+bI (a+c) (n - c)) H' W'/\Adw W H W' H':=by
 obtain⟨prs,gA,x5,x6,x10,x11,⟨v,x12,gv,fv,hW⟩,lo,ne⟩:=h;rw[zI5 m gA];have hk:=prs.ok;obtain⟨x,hx⟩: ∃x,x=a+c:=⟨_,rfl⟩;obtain⟨r,hr⟩: ∃r,r=n - c:=⟨_,rfl⟩;obtain⟨q1,q2,q3,q4⟩:=vY (x:=x) (n:=r) (by omega);rw[<-hx,<-hr];obtain⟨k,hk9⟩: ∃k,k=bI x r:=⟨_,rfl⟩;obtain⟨tt,htt⟩: ∃tt,tt=min 128 (x % 128+r):=⟨_,rfl⟩;rw[<-hk9]at q1 q2 q3 q4⊢;rw[<-htt]at q4;have lA:=hk.lt gA;have l5:=x5.lt hk;have l6:=x6.lt hk;have l10:=x10.lt hk;have l11:=x11.lt hk;have l12:=x12.lt hk;have n5:=dK gA x5;have n6:=dK gA x6;have n10:=dK gA x10;have n11:=dK gA x11;have n12:=dK gA x12;have N0:=prs.next
 obtain⟨H1,A6,b1,p1,g1,m1,n1⟩:=box hk (.cells [.int .i64 ((0:Nat):Int), .int .i64 ((0:Nat):Int), .int .i64 ((0:Nat):Int)] 71 1 false);obtain⟨H2,e2,g2,s2,n2⟩:=yE p1.ok g1 (l':=vN x r) rfl rfl;have e2':stN 3 (.ptr A6 0) (.agg (vN x r)) H1=some (qI,H2):=e2;have P2:Prs H H2:=p1.fresh s2 fun B hB=>by omega
 have N1:=p1.next;have N2:=s2.next
 have gA2:=Prs.get P2 hk gA;have hbeg: ∀K:AH->Rs,uF A1 H2 K=K (H2.put A1 (.loop { lpD X5 X6 X10 X11 X12 with state:= .busy})):=fun K=>by
  simp only[uF,gA2,lpD,jQ]
 have s3:Stp (fun B=>B=A1) H2 (H2.put A1 (.loop { lpD X5 X6 X10 X11 X12 with state:= .busy})):=(Stp.refl s2.ok).put (s2.ok.lt gA2) _ (.inr rfl);have gA3:(H2.put A1 (.loop { lpD X5 X6 X10 X11 X12 with state:= .busy})).h.get A1=some (.loop { lpD X5 X6 X10 X11 X12 with state:= .busy}):=by rw[AH.put_get,if_pos rfl]
 generalize H2.put A1 (.loop { lpD X5 X6 X10 X11 X12 with state:= .busy})=H3 at s3 gA3 hbeg;have N3:=s3.next
 have P03:Prs H0 H3:=(prs.trans P2).fresh s3 fun B hB=>by omega
 obtain⟨H4,e4,p4⟩:=UD m m (by omega) (t0.prs P03) (by omega) (by omega) i (x / 128);obtain⟨b,hb⟩: ∃b,b=wR kv i (x / 128):=⟨_,rfl⟩;have hbl:b.length=128:=by rw[hb];exact wQ ..
 rw[<-hb]at e4;have N4:=p4.next
 obtain⟨Z,hZ⟩: ∃Z:Str,Z=List.replicate 128 0:=⟨_,rfl⟩;have hZl:Z.length=128:=by rw[hZ];simp
 have hzr:rep 128 [AV.int .u8 ((0:Nat):Int)]=qO Z:=by rw[aD,hZ]
 obtain⟨H5,A7,b5,p5,g5,m5,w5⟩:=box p4.ok (.cells (qO Z) 72 1 false);have N5:=p5.next
 obtain⟨H6,e6,g6,s6⟩:=cN p5.ok g5 hZl hbl;have N6:=s6.next
 have P36:Prs H3 H6:=(p4.trans p5).fresh s6 fun B hB=>by omega
 have keep: ∀ {B v},Box H B v->A1≠B->Box H6 B v:=fun hb hne=>((hb.mono hk P2 fun x=>x).mono P2.ok s3 (fun e=>hne e.symm)).mono s3.ok P36 fun x=>x
 have gv6:jT 1 5 H6 v c (qO (yG kv i a c)):=((jT.mono gv P2 fun _ _ x=>x).mono s3 fun B hB e=>(fv B hB).2.1 e).mono P36 fun _ _ x=>x
 have hbp:(b.drop (x % 128)).take k=yG kv i x k:=by rw[hb];exact U7 kv i x (by omega)
 have hrow:Rw 1 H6 (.slice A7 (x % 128) k (2*(128 - x % 128))) k (qO (yG kv i x k)):=by
  rw[<-hbp];refine⟨by rw[qS,zG,zM];omega, .inr (.inr ⟨A7,x % 128,_,_,_,_,_,rfl,g6,s6.ok.lt g6,by rw[qS];omega, ?_⟩)⟩;simp only[qO,List.map_take,List.map_drop,Nat.mul_one]
 obtain⟨v',H7,e7,gv7,s7,f7⟩:=jT.app (bytes:=1) (m:=k) s6.ok (by decide) gv6 hrow.srcOf hrow.len (bytesV_cells _) (by omega) (by decide);have N7:=s7.next
 have x126:=keep x12 n12;have x127:Box H7 X12 v:=x126.mono s6.ok s7 fun hB=>(fv _ hB).2.2.2.2.2.2 rfl
 obtain⟨H8,e8,x128,s8⟩:=x127.st s7.ok (x:=v') gv7.isCell;have N8:=s8.next
 have nv': ∀B,Blk v' B->H0.next<=B/\B≠A1/\B≠X5/\B≠X6/\B≠X10/\B≠X11/\B≠X12:=fun B hB=>by
  rcases f7 B hB with e | e
  ·exact fv B e
  ·exact⟨by omega,by omega,by omega,by omega,by omega,by omega,by omega⟩
 have gA8:H8.h.get A1=some (.loop { lpD X5 X6 X10 X11 X12 with state:= .busy}):=by
  rw[s8.keep _ (by omega) (by omega),s7.keep _ (by omega) (fun hB=>(fv _ hB).2.1 rfl),P36.keep _ (by omega) (fun x=>x)];exact gA3
 have s9:Stp (fun B=>B=A1) H8 (H8.put A1 (.loop (lpD X5 X6 X10 X11 X12))):=(Stp.refl s8.ok).put (s8.ok.lt gA8) _ (.inr rfl);have hend:BV A1 none H8=some (.bool true,H8.put A1 (.loop (lpD X5 X6 X10 X11 X12))):=by simp only[BV,gA8,jQ,lpD]
 have gA9:(H8.put A1 (.loop (lpD X5 X6 X10 X11 X12))).h.get A1=some (.loop (lpD X5 X6 X10 X11 X12)):=by rw[AH.put_get,if_pos rfl]
 generalize H8.put A1 (.loop (lpD X5 X6 X10 X11 X12))=H9 at s9 hend gA9;have keep9: ∀ {B y},Box H6 B y->(∀hB:Blk v B,False)->B≠X12->A1≠B->Box H9 B y:=fun hb h1 h2 h3=>((hb.mono s6.ok s7 h1).mono s7.ok s8 h2).mono s8.ok s9 (fun e=>h3 e.symm)
 have T9:Stp (fun B=>B=A1\/B=X12\/Blk v B) H H9:=by
  have T3:Stp (fun B=>B=A1\/B=X12\/Blk v B) H H3:=Stp.thru (Prs.stp P2) s3 fun B e=> .inr (.inl e)
  have T6:=Stp.thru T3 P36 fun B e=>e.elim
  have T7:=Stp.thru T6 s7 fun B e=> .inr (.inr (.inr e))
  have T8:=Stp.thru T7 s8 fun B e=> .inr (.inr (.inl e))
  exact Stp.thru T8 s9 fun B e=> .inr (.inl e)
 refine⟨H9,fun B=>B=A1\/B=X10\/B=X11\/B=X12\/Blk v' B, ?_,⟨prs.fresh T9 fun B hB=> ?_,gA9,keep9 (keep x5 n5) (fun hB=>(fv _ hB).2.2.1 rfl) (fun e=>ne.1 e.symm) n5,keep9 (keep x6 n6) (fun hB=>(fv _ hB).2.2.2.1 rfl) (fun e=>ne.2.1 e.symm) n6,keep9 (keep x10 n10) (fun hB=>(fv _ hB).2.2.2.2.1 rfl) (fun e=>ne.2.2.1 e.symm) n10,keep9 (keep x11 n11) (fun hB=>(fv _ hB).2.2.2.2.2.1 rfl) (fun e=>ne.2.2.2 e.symm) n11,⟨v',x128.mono s8.ok s9 (fun e=>n12 e.symm), ?_,nv',fun B=>Iff.rfl⟩,lo,ne⟩,⟨T9.mono fun B _ hB=>(hW B).2 (by
  rcases hB with e | e | e
  ·exact .inl e
  ·exact .inr (.inr (.inr (.inl e)))
  ·exact .inr (.inr (.inr (.inr e)))),fun B hB=> ?_⟩⟩
 ·have hl:cT [5,6,10,11,12] (lpD X5 X6 X10 X11 X12).live=true:=rfl;have hvl:(lpD X5 X6 X10 X11 X12).vals=[.ptr X5 0, .ptr X6 0, .ptr X10 0, .ptr X11 0, .ptr X12 0]:=rfl;have x53:Box H3 X5 (.ptr At 0):=(x5.mono hk P2 fun x=>x).mono P2.ok s3 (fun e=>n5 e.symm);have x63:Box H3 X6 (.int .i64 ((i:Nat):Int)):=(x6.mono hk P2 fun x=>x).mono P2.ok s3 (fun e=>n6 e.symm);have gp3:H3.h.get A6=some (.cells (vN x r) 71 1 false):=by rw[s3.keep _ (by omega) (by omega)];exact g2
  have gp6:H6.h.get A6=some (.cells (vN x r) 71 1 false):=by rw[P36.keep _ (by omega) (fun x=>x)];exact gp3
  have q30:Eng.ld1 (.ptr A6 0) H3=some (.int .i64 ((x / 128:Nat):Int)):=by rw[qJ gp3];rfl
  have q61:Eng.ld1 (.ptr A6 1) H6=some (.int .i64 ((x % 128:Nat):Int)):=by rw[qJ gp6];rfl
  have q62:Eng.ld1 (.ptr A6 2) H6=some (.int .i64 ((tt:Nat):Int)):=by rw[qJ gp6,htt];rfl
  have hsl:xB 128 1 (.ptr A7 0) (some (.int .i64 ((x % 128:Nat):Int))) (some (.int .i64 ((tt:Nat):Int))) none=some (.slice A7 (x % 128) k (2*(128 - x % 128))):=by
   have:=US (n:=128) (A:=A7) (lo:=x % 128) (hi:=tt) (by omega) (by omega) (by omega) .i64 .i64;rw[this,show tt - x % 128=k by omega]
  have t00: ¬(((0:Nat):Int)≠((0:Nat):Int)):=by omega
  simp(maxSteps:=999999)(disch:=omega) only[zBN,eZ,hl,hvl,cond_true,b1,e2',hbeg,x53.ld,x63.ld,q30,e4,qH,nth,hzr,b5,e6,t00,x126.ld,q61,q62,hsl,e7,e8];exact hend
 ·rcases hB with e | e | e
  ·rw[e];exact lo.1
  ·rw[e];exact lo.2.2.2
  ·exact(fv B e).1
 ·have e:qO (yG kv i a (c+k))=qO (yG kv i a c)++qO (yG kv i x k):=by rw[YL,hx];simp[qO]
  rw[e];exact(jT.mono gv7 s8 fun B hB e=>(nv' B hB).2.2.2.2.2.2 e).mono s9 fun B hB e=>(nv' B hB).2.1 e
 ·rcases hB with e | e | e | e | e
  ·exact .inl ((hW B).2 (.inl e))
  ·exact .inl ((hW B).2 (.inr (.inl e)))
  ·exact .inl ((hW B).2 (.inr (.inr (.inl e))))
  ·exact .inl ((hW B).2 (.inr (.inr (.inr (.inl e)))))
  ·rcases f7 B e with e | e
   ·exact .inl ((hW B).2 (.inr (.inr (.inr (.inr e)))))
   ·exact .inr (by omega)
theorem zH8 {H0:AH}{kv:Kvs}{i a At M L X5 X6 X10 X11 X12 A1 n:Nat}(t0:jA H0 At M L kv)(hL:L<=90000000)(hkv:kv.length<=100000000)(ha:a+n<=100000):Pc A1 a n 400000000 (fun B=>B<H0.next\/B=X5\/B=X6) (RI H0 kv i a At X5 X6 X10 X11 X12 A1) where
 ok:=fun h=>h.prs.ok
 lt:=fun {c H W} h B hB=>by
  have hk:=h.prs.ok;have l1:=hk.lt h.gA;have l10:=h.x10.lt hk;have l11:=h.x11.lt hk;obtain⟨v,x12,gv,fv,hW⟩:=h.x12;have l12:=x12.lt hk;rcases(hW B).1 hB with e | e | e | e | e
  ·omega
  ·omega
  ·omega
  ·omega
  ·exact gv.lt e
 frame:=fun {c H H' W S} h s hS=>by
  have hk:=h.prs.ok;have l1:=hk.lt h.gA;have l5:=h.x5.lt hk;have l6:=h.x6.lt hk;have l10:=h.x10.lt hk;have l11:=h.x11.lt hk;obtain⟨v,x12,gv,fv,hW⟩:=h.x12;have l12:=x12.lt hk;have no: ∀ {B},B<H.next->W B-> ¬S B:=fun hl hw hs=>(hS _ hl hs).1 hw
  have n1:=no l1 ((hW A1).2 (.inl rfl));have n5: ¬S X5:=fun hs=>(hS _ l5 hs).2.1 (.inr (.inl rfl))
  have n6: ¬S X6:=fun hs=>(hS _ l6 hs).2.1 (.inr (.inr rfl))
  have n10:=no l10 ((hW X10).2 (.inr (.inl rfl)));have n11:=no l11 ((hW X11).2 (.inr (.inr (.inl rfl))));have n12:=no l12 ((hW X12).2 (.inr (.inr (.inr (.inl rfl)))));have N:=h.prs.next
  refine⟨⟨s.ok,by have:=s.next;omega,fun B hB hF=> ?_⟩,by rw[s.keep _ l1 n1];exact h.gA,h.x5.mono hk s n5,h.x6.mono hk s n6,h.x10.mono hk s n10,h.x11.mono hk s n11,⟨v,x12.mono hk s n12,gv.mono s fun B hB hs=>no (gv.lt hB) ((hW B).2 (.inr (.inr (.inr (.inr hB))))) hs,fv,hW⟩,h.lo,h.ne⟩
  rw[s.keep B (by omega) (fun hs=>(hS B (by omega) hs).2.1 (.inl hB)),h.prs.keep B hB hF]
 run:=fun {c H W} m hm hc h=>zEm m hm t0 hL hkv ha hc h
theorem zE0 (m n:Nat)(hm:400000000<=m){H:AH}{At M L:Nat}{kv:Kvs}{i size a k:Nat}(t:jA H At M L kv)(hi:1<=i)(hi2:i<=2147483647)(hsz:size<=32768)(hL:L<=90000000)(hkv:kv.length<=100000000):
  ∃H',f11 (dy (m+2)) n [.ptr At 0, .int .i64 ((i:Nat):Int), .int .i64 ((size:Nat):Int), .int .i64 ((a:Nat):Int), .int .i64 ((k:Nat):Int)] H=some (.tuple [S (yG kv i a (min k (size - a))), .int .i64 ((0:Nat):Int)],H')/\Prs H H':=by
 have hk:=t.okH;have lt:=t.lt;obtain⟨H1,X5,b1,p1,g1,m1,w1⟩:=box hk (.cells [.ptr At 0] 25 1 false);obtain⟨H2,X6,b2,p2,g2,m2,w2⟩:=box p1.ok (.cells [.int .i64 ((i:Nat):Int)] 3 1 false);obtain⟨H3,X10,b3,p3,g3,m3,w3⟩:=box p2.ok (.cells [S []] 9 1 false);obtain⟨H4,X11,b4,p4,g4,m4,w4⟩:=box p3.ok (.cells [.int .i64 ((0:Nat):Int)] 27 1 false);have N1:=p1.next;have N2:=p2.next;have N3:=p3.next;have N4:=p4.next
 have P4:=((p1.trans p2).trans p3).trans p4;have x5:Box H4 X5 (.ptr At 0):=⟨_,Prs.get ((p2.trans p3).trans p4) p1.ok g1⟩;have x6:Box H4 X6 (.int .i64 ((i:Nat):Int)):=⟨_,Prs.get (p3.trans p4) p2.ok g2⟩;have x10:Box H4 X10 (S []):=⟨_,Prs.get p4 p3.ok g3⟩;have x11:Box H4 X11 (.int .i64 ((0:Nat):Int)):=⟨_,g4⟩;have hc: ∀z:Int,qQ (.int .i64 z)=[.int .i64 z]:=fun z=>rfl
 have hcp:qQ (.ptr At 0)=[.ptr At 0]:=rfl;have hcS:qQ (S [])=[S []]:=rfl;have hcN:qQ .nilSlice=[.nilSlice]:=rfl;have hS:(AV.str 0 0)=S []:=rfl;have i1:f22 (dy (m+2)) n [.int .i64 ((i:Nat):Int)] H4=some (.bool true,H4):=by
  have a1:((1:Nat):Int)<=((i:Nat):Int):=by omega
  have a2:((i:Nat):Int)<=((2147483647:Nat):Int):=by omega
  simp only[f22,eZ,a1,a2,decide_true]
 have t1: ¬((size:Nat):Int)< ((0:Nat):Int):=by omega
 have t2: ¬((32768:Nat):Int)< ((size:Nat):Int):=by omega
 have t3: ¬((a:Nat):Int)< ((0:Nat):Int):=by omega
 have t4: ¬((k:Nat):Int)< ((0:Nat):Int):=by omega
 by_cases hge:size<=a
 ·have t5:((size:Nat):Int)<=((a:Nat):Int):=by omega
  obtain⟨H5,e5,x105,s5⟩:=x10.st p4.ok (x:=S []) rfl;have x115:Box H5 X11 (.int .i64 ((0:Nat):Int)):=x11.mono p4.ok s5 (by omega);obtain⟨H6,e6,x116,s6⟩:=x115.st s5.ok (x:= .int .i64 ((0:Nat):Int)) rfl;have x106:Box H6 X10 (S []):=x105.mono s5.ok s6 (by omega);have hz:yG kv i a (min k (size - a))=[]:=by rw[show min k (size - a)=0 by omega];rfl
  rw[hz];refine⟨H6, ?_,(P4.fresh s5 fun B hB=>by omega).fresh s6 fun B hB=>by omega⟩;simp(maxSteps:=999999)(disch:=omega) only[f11,eZ,hc,hcp,hcS,hS,b1,b2,b3,b4,x5.ld,cq,x6.ld,i1,t1,t2,t3,t4,t5,e5,e6,x106.ld,x116.ld]
 ·have t5: ¬((size:Nat):Int)<=((a:Nat):Int):=by omega
  obtain⟨len,hlen⟩: ∃len,len=min k (size - a):=⟨_,rfl⟩;rw[<-hlen];have hsub:((size:Nat):Int) - ((a:Nat):Int)=((size - a:Nat):Int):=by omega
  have hmn:mn2 (.int .i64 ((k:Nat):Int)) (.int .i64 ((size - a:Nat):Int))=some (.int .i64 ((len:Nat):Int)):=by rw[mn2N,hlen]
  obtain⟨H5,X12,b5,p5,g5,m5,w5⟩:=box p4.ok (.cells [.nilSlice] 30 1 false);have N5:=p5.next
  obtain⟨H6,Ba,Bn,e6,p6,ba6,bn6,hab,la,ln⟩:=parts_ok (dy (m+2)) n p5.ok a len;have N6:=p6.next
  have lb1:=ba6.lt p6.ok;have lb2:=bn6.lt p6.ok;have p7:Prs H6 (H6.push (.loop (lpD X5 X6 X10 X11 X12))):=(Stp.refl p6.ok).push _;have g7:(H6.push (.loop (lpD X5 X6 X10 X11 X12))).h.get H6.next=some (.loop (lpD X5 X6 X10 X11 X12)):=AH.push_get_eq _ _
  have hnew: ∀K:Nat->AH->Rs,V9 H6 (.loop ⟨.ready,none,11,0,[5,6,10,11,12],[.ptr X5 0, .ptr X6 0, .ptr X10 0, .ptr X11 0, .ptr X12 0]⟩) K=K H6.next (H6.push (.loop (lpD X5 X6 X10 X11 X12))):=fun K=>WC p6.ok _ K
  have hnx:(H6.push (.loop (lpD X5 X6 X10 X11 X12))).next=H6.next+1:=rfl
  generalize H6.push (.loop (lpD X5 X6 X10 X11 X12))=H7 at p7 g7 hnew hnx;obtain⟨A1,hA1⟩: ∃A1,A1=H6.next:=⟨_,rfl⟩
  rw[<-hA1]at g7 hnew;have P57:=p6.trans p7;have P47:=p5.trans P57;have P7:=P4.trans P47;have x127:Box H7 X12 .nilSlice:=⟨_,Prs.get P57 p5.ok g5⟩;have I7:RI H kv i a At X5 X6 X10 X11 X12 A1 0 H7 (fun B=>B=A1\/B=X10\/B=X11\/B=X12\/Blk .nilSlice B):=
   ⟨P7,g7,x5.mono p4.ok P47 fun x=>x,x6.mono p4.ok P47 fun x=>x,x10.mono p4.ok P47 fun x=>x,x11.mono p4.ok P47 fun x=>x,⟨.nilSlice,x127, .inl (Own.nil ..),fun B hB=>(Blk.nil.1 hB).elim,fun B=>Iff.rfl⟩,⟨by omega,by omega,by omega,by omega⟩,⟨by omega,by omega,by omega,by omega⟩⟩
  have nW: ∀ {B:Nat},B≠A1->B≠X10->B≠X11->B≠X12-> ¬(B=A1\/B=X10\/B=X11\/B=X12\/Blk .nilSlice B):=fun h1 h2 h3 h4 e=>by
   rcases e with e | e | e | e | e
   ·exact h1 e
   ·exact h2 e
   ·exact h3 e
   ·exact h4 e
   ·exact Blk.nil.1 e
  obtain⟨H8,W8,e8,I8,s8,f8⟩:=Z2 (zH8 (n:=len) t hL hkv (by omega)) m hm (by omega) (by omega) hab (fun e=>by rcases e with e | e | e<;>omega) (fun e=>by rcases e with e | e | e<;>omega) len 0 (m+1) (by omega) (by omega) (by omega) I7 (by simpa using ba6.mono p6.ok p7 fun x=>x) (by simpa using bn6.mono p6.ok p7 fun x=>x) (nW (by omega) (by omega) (by omega) (by omega)) (nW (by omega) (by omega) (by omega) (by omega));obtain⟨v,x128,gv8,fv8,_⟩:=I8.x12;have hk8:=I8.prs.ok;have N7:=p7.next;have N8:=s8.next
  have s9:Stp (fun B=>B=A1) H8 (H8.put A1 .dead):=(Stp.refl hk8).put (hk8.lt I8.gA) _ (.inr rfl);have hendL: ∀K:Option Code->AH->Rs,ZP A1 H8 K=K none (H8.put A1 .dead):=fun K=>by
   simp only[ZP,I8.gA,lpD,jQ]
  generalize H8.put A1 .dead=H9 at s9 hendL;have N9:=s9.next
  have d12:=dK I8.gA x128;have d10:=dK I8.gA I8.x10;have d11:=dK I8.gA I8.x11;have x129:Box H9 X12 v:=x128.mono hk8 s9 (fun e=>d12 e.symm);have gv9:jT 1 5 H9 v len (qO (yG kv i a len)):=gv8.mono s9 fun B hB e=>(fv8 B hB).2.1 e
  have hcv:YC v H9=some (S (yG kv i a len)):=fC gv9.row (by
   rcases gv9 with⟨_,⟨rfl,_⟩ | ⟨A,rfl,_⟩⟩ | ⟨_,A,e',g,rfl,_⟩<;>simp)
  have x109:Box H9 X10 (S []):=I8.x10.mono hk8 s9 (fun e=>d10 e.symm);obtain⟨H10,e10,x1010,s10⟩:=x109.st s9.ok (x:=S (yG kv i a len)) rfl;have x1110:Box H10 X11 (.int .i64 ((0:Nat):Int)):=(I8.x11.mono hk8 s9 (fun e=>d11 e.symm)).mono s9.ok s10 (by omega);obtain⟨H11,e11,x1111,sq11⟩:=x1110.st s10.ok (x:= .int .i64 ((0:Nat):Int)) rfl;have x1011:Box H11 X10 (S (yG kv i a len)):=x1010.mono s10.ok sq11 (by omega);have N10:=s10.next
  refine⟨H11, ?_,((I8.prs.fresh s9 fun B hB=>by omega).fresh s10 fun B hB=>by omega).fresh sq11 fun B hB=>by omega⟩;have hf:f52 (dy (m+1)) (m+1) [.yieldTo A1, .ptr Bn 0, .ptr Ba 0] H7=some (.tuple [],H8):=by
   simp(maxSteps:=999999)(disch:=omega) only[f52,eZ,e8,zHK]
  have hrf:rfC (s11 (dy (m+2)) n).S (dy (m+2)) (.func 52 [] [.ptr Bn 0, .ptr Ba 0]) A1 H7=some (.tuple [],H8):=hf;simp(maxSteps:=999999)(disch:=omega) only[f11,eZ,hc,hcp,hcS,hcN,hS,b1,b2,b3,b4,x5.ld,cq,x6.ld,i1,t1,t2,t3,t4,t5,b5,hsub,hmn,e6,hnew,hrf,hendL,zEU,x129.ld,hcv,e10,e11,x1011.ld,x1111.ld]
theorem zAX (D:Dyn)(n:Nat)(hn:100<=n){H:AH}(hk:H.ok): ∃H' At M,f7 D n [] H=some (.ptr At 0,H')/\Prs H H'/\H.next<=At/\H.next<=M/\jA H' At M 0 []:=by
 obtain⟨H1,A1,e1,p1⟩:=zDg D n hk;obtain⟨H2,At,M,e2,p2,m2,m2',ti⟩:=zHj D n hn p1.ok A1 0 (c:= .nilPtr) rfl;have N1:=p1.next
 refine⟨H2,At,M, ?_,p1.trans p2,by omega,by omega,ti⟩;have t00: ¬(((0:Nat):Int)≠((0:Nat):Int)):=by omega
 have bz:kJ [(0,1),(1,1),(2,1)] [.int .i64 ((0:Nat):Int), .int .i64 ((0:Nat):Int), .int .u64 ((0:Nat):Int)] []=some (.agg (y7 pZ)):=rfl;simp(maxSteps:=999999)(disch:=omega) only[f7,eZ,e1,qH,nth,bz,e2,t00]
theorem mx2N (a b:Nat):mx2 (.int .i64 ((a:Nat):Int)) (.int .i64 ((b:Nat):Int))=some (.int .i64 ((max a b:Nat):Int)):=by
 by_cases h:a<b
 ·have hb:ilt ((a:Nat):Int) ((b:Nat):Int)=true:=by rw[kP];exact decide_eq_true (by omega)
  simp only[mx2,hb,cond_true,show max a b=b by omega]
 ·have hb:ilt ((a:Nat):Int) ((b:Nat):Int)=false:=by rw[kP];exact decide_eq_false (by omega)
  simp only[mx2,hb,cond_false,show max a b=a by omega]
theorem zE1 (D:Dyn)(n:Nat){H:AH}{i:Nat}(h1:1<=i)(h2:i<=2147483647):f22 D n [.int .i64 ((i:Nat):Int)] H=some (.bool true,H):=by
 have a1:((1:Nat):Int)<=((i:Nat):Int):=by omega
 have a2:((i:Nat):Int)<=((2147483647:Nat):Int):=by omega
 simp only[f22,eZ,a1,a2,decide_true]
theorem zAj (D:Dyn)(n:Nat){H:AH}(hk:H.ok){At i:Nat}(hi:1<=i)(hi2:i<=2147483647){z:Int}(hz:z<0)(tx:Str): ∃H',f9 D n [.ptr At 0, .int .i64 ((i:Nat):Int), .int .i64 z,S tx] H=some (.int .i64 ((1:Nat):Int),H')/\Prs H H':=by
 obtain⟨H1,X4,b1,p1,g1,m1,w1⟩:=box hk (.cells [.ptr At 0] 25 1 false);obtain⟨H2,X5,b2,p2,g2,m2,w2⟩:=box p1.ok (.cells [.int .i64 ((i:Nat):Int)] 3 1 false);obtain⟨H3,X6,b3,p3,g3,m3,w3⟩:=box p2.ok (.cells [.int .i64 z] 3 1 false);obtain⟨H4,X7,b4,p4,g4,m4,w4⟩:=box p3.ok (.cells [S tx] 9 1 false);have P4:=((p1.trans p2).trans p3).trans p4;have x4:Box H4 X4 (.ptr At 0):=⟨_,Prs.get ((p2.trans p3).trans p4) p1.ok g1⟩;have x5:Box H4 X5 (.int .i64 ((i:Nat):Int)):=⟨_,Prs.get (p3.trans p4) p2.ok g2⟩;have x6:Box H4 X6 (.int .i64 z):=⟨_,Prs.get p4 p3.ok g3⟩;have hc: ∀z:Int,qQ (.int .i64 z)=[.int .i64 z]:=fun z=>rfl
 have hcp:qQ (.ptr At 0)=[.ptr At 0]:=rfl;have hcS:qQ (S tx)=[S tx]:=rfl;have i1:=zE1 D n (H:=H4) hi hi2;have t1:z< ((0:Nat):Int):=hz;refine⟨H4, ?_,P4⟩;simp(maxSteps:=999999)(disch:=omega) only[f9,eZ,hc,hcp,hcS,b1,b2,b3,b4,x4.ld,cq,x5.ld,i1,x6.ld,t1]
def U16s (H:AH)(v:AV)(l:List Int):Prop:=Rw 1 H v l.length (l.map fun z=>AV.int .u16 z)
theorem U16s.at {H:AH}{v:AV}{l:List Int}(h:U16s H v l){i:Nat}(hi:i<l.length): ∃p,(∀κ (z:Int),z=(i:Int)->jP 1 v (.int κ z)=some p)/\Eng.ld1 p H=some (.int .u16 l[i]):=by
 obtain⟨p,x,h1,h2,h3⟩:=Rw.ld1 h hi;refine⟨p,h1, ?_⟩;rw[h2];simpa[hi]using h3.symm
theorem VA (m:Nat)(hm:700000000<=m){Hi:AH}{x0 x1 x2 x3 x4:AV}{texts:List Str}{ats:List Int}(hx0:Strs Hi x0 texts)(hx1:U16s Hi x1 ats)(hl:texts.length<=12){At M:Nat}(hA:Hi.next<=At)(hM:Hi.next<=M):
  ∀(rr i kf:Nat) {H:AH} {kv:Kvs} {sz:Nat},i+rr=texts.length->rr<kf->Prs Hi H->jA H At M (100000*i) kv->Srt kv->kv.length<=500*i->sz<=8500->
   (∃H',qW kf (QA (dy (m+1)) (m+1)) [x0,x1,x2,x3,x4, .ptr At 0, .int .i64 ((sz:Nat):Int), .int .i64 ((i:Nat):Int)] H=some (.ret (.bool true),H')/\Prs Hi H')\/
   (∃H' kv' sz',qW kf (QA (dy (m+1)) (m+1)) [x0,x1,x2,x3,x4, .ptr At 0, .int .i64 ((sz:Nat):Int), .int .i64 ((i:Nat):Int)] H=some (.exit 0 [x2,x3,x4, .ptr At 0, .int .i64 ((sz':Nat):Int)],H')/\Prs Hi H'/\jA H' At M 1200000 kv'/\kv'.length<=6000/\sz'<=8500)
 | _,_,0,_,_,_,_,hk,_,_,_,_,_=>by omega
 | rr,i,kf+1,H,kv,sz,hr,hkf,P,t,hs,hkv,hsz=>by
  have y0:Strs H x0 texts:=Rw.stp hx0 P fun _ _ x=>x
  have y1:U16s H x1 ats:=Rw.stp hx1 P fun _ _ x=>x
  have l0:lnSl x0=some (.int .i64 ((texts.length:Nat):Int)):=y0.lnSl;have l1:lnSl x1=some (.int .i64 ((ats.length:Nat):Int)):=Rw.lnSl y1;by_cases hi:i<texts.length
  ·have hiI:((i:Nat):Int)< ((texts.length:Nat):Int):=by omega
   have hi1:((i:Nat):Int)+((1:Nat):Int)=((i+1:Nat):Int):=by omega
   by_cases hj:i<ats.length
   ·have hjI:((i:Nat):Int)< ((ats.length:Nat):Int):=by omega
    obtain⟨p,i1,i2⟩:=y0.at hi;obtain⟨q,j1,j2⟩:=y1.at hj;by_cases hb:500<texts[i].length
    ·have hbI:((500:Nat):Int)< ((texts[i].length:Nat):Int):=by omega
     refine .inl ⟨H,zEK ?_,P⟩;simp(maxSteps:=999999)(disch:=omega) only[QA,eZ,l0,l1,hiI,hjI,i1,i2,jX,hbI]
    ·have hbI: ¬((500:Nat):Int)< ((texts[i].length:Nat):Int):=by omega
     obtain⟨w,hw⟩: ∃w,w=ats[i].tmod 8000:=⟨_,rfl⟩;have hrem:qL .rem (.int .u16 ats[i]) (.int .u16 ((8000:Nat):Int))=some (.int .u16 w):=by rw[zA4 _ _ _ (by omega),hw];rfl
     have hw1: -8000<w/\w<8000:=by rw[hw];exact⟨Int.lt_tmod_of_pos _ (by omega),Int.tmod_lt_of_pos _ (by omega)⟩
     have hwr:IntKind.wrap .i64 w=w:=wrap_i64 (by omega) (by omega);have lt:=t.lt;by_cases hneg:w<0
     ·obtain⟨H1,e1,p1⟩:=zAj (dy (m+1)) (m+1) P.ok (At:=At) (i:=5) (by omega) (by omega) hneg texts[i];have h10: ¬((1:Nat):Int)=((0:Nat):Int):=by omega
      have body:QA (dy (m+1)) (m+1) [x0,x1,x2,x3,x4, .ptr At 0, .int .i64 ((sz:Nat):Int), .int .i64 ((i:Nat):Int)] H=some (.norm [x0,x1,x2,x3,x4, .ptr At 0, .int .i64 ((sz:Nat):Int), .int .i64 ((i+1:Nat):Int)],H1):=by
       simp(maxSteps:=999999)(disch:=omega) only[QA,zHL,eZ,l0,l1,hiI,hjI,i1,i2,jX,hbI,j1,j2,hrem,hwr,e1,h10,hi1]
      rw[xT body];exact VA m hm hx0 hx1 hl hA hM (rr - 1) (i+1) kf (by omega) (by omega) (P.trans p1) ((t.prs p1).up (by omega)) hs (by omega) hsz
     ·obtain⟨a,ha⟩: ∃a:Nat,w=(a:Int):=⟨w.toNat,by omega⟩;rw[ha]at hrem hwr;obtain⟨m',hm'⟩: ∃m',m=m'+2:=⟨m - 2,by omega⟩;obtain⟨H1,kv1,e1,t1,ws,s1⟩:=zAV m' (m+1) (by omega) t hs (i:=5) (a:=a) (tx:=texts[i]) (by omega) (by omega) (by omega) (by omega) (by omega);have em:m'+3=m+1:=by omega
      rw[em]at e1;have P1:Prs Hi H1:=P.fresh s1 fun B hB=>by omega
      have y01:Strs H1 x0 texts:=Rw.stp hx0 P1 fun _ _ x=>x
      have y11:U16s H1 x1 ats:=Rw.stp hx1 P1 fun _ _ x=>x
      obtain⟨p',i1',i2'⟩:=y01.at hi;obtain⟨q',j1',j2'⟩:=y11.at hj;have ep:p'=p:=by have:=i1' .i64 _ rfl;rw[i1 .i64 _ rfl]at this;exact(Option.some.inj this).symm
      have eq:q'=q:=by have:=j1' .i64 _ rfl;rw[j1 .i64 _ rfl]at this;exact(Option.some.inj this).symm
      rw[ep]at i2';rw[eq]at j2';have hsum:((a:Nat):Int)+((texts[i].length:Nat):Int)=((a+texts[i].length:Nat):Int):=by omega
      have hmx:=mx2N sz (a+texts[i].length);have hlen:=ws.len;have body:QA (dy (m+1)) (m+1) [x0,x1,x2,x3,x4, .ptr At 0, .int .i64 ((sz:Nat):Int), .int .i64 ((i:Nat):Int)] H=some (.norm [x0,x1,x2,x3,x4, .ptr At 0, .int .i64 ((max sz (a+texts[i].length):Nat):Int), .int .i64 ((i+1:Nat):Int)],H1):=by
       simp(maxSteps:=999999)(disch:=omega) only[QA,zHL,eZ,l0,l1,hiI,hjI,i1,i2,jX,hbI,j1,j2,hrem,hwr,e1,i2',j2',hsum,hmx,hi1]
      rw[xT body];exact VA m hm hx0 hx1 hl hA hM (rr - 1) (i+1) kf (by omega) (by omega) P1 (t1.up (by omega)) ws.srt (by omega) (by omega)
   ·have hjI: ¬((i:Nat):Int)< ((ats.length:Nat):Int):=by omega
    refine .inr ⟨H,kv,sz,yO ?_,P,t.up (by omega),by omega,hsz⟩;simp(maxSteps:=999999)(disch:=omega) only[QA,eZ,l0,l1,hiI,hjI]
  ·have hiI: ¬((i:Nat):Int)< ((texts.length:Nat):Int):=by omega
   refine .inr ⟨H,kv,sz,yO ?_,P,t.up (by omega),by omega,hsz⟩;simp(maxSteps:=999999)(disch:=omega) only[QA,eZ,l0,l1,hiI]
theorem zIu (m:Nat)(hm:700000000<=m){H:AH}{At M sz a n k:Nat}{kv:Kvs}(t:jA H At M 1200000 kv)(hkv:kv.length<=6000)(hsz:sz<=8500)(ha:a<=40000)(hn:n<=40000)(hk9:k<=40000):
  ∃H',zFc (dy (m+1)) (m+1) [.int .i64 ((a:Nat):Int), .int .i64 ((n:Nat):Int), .int .i64 ((k:Nat):Int), .ptr At 0, .int .i64 ((sz:Nat):Int)] H=some (.ret (.bool true),H')/\Prs H H':=by
 obtain⟨m',hm'⟩: ∃m',m=m'+1:=⟨m - 1,by omega⟩;have em:m'+2=m+1:=by omega
 have rd: ∀ {Hx:AH},jA Hx At M 1200000 kv-> ∀(b l:Nat),∃H',f11 (dy (m+1)) (m+1) [.ptr At 0, .int .i64 ((5:Nat):Int), .int .i64 ((sz:Nat):Int), .int .i64 ((b:Nat):Int), .int .i64 ((l:Nat):Int)] Hx=some (.tuple [S (yG kv 5 b (min l (sz - b))), .int .i64 ((0:Nat):Int)],H')/\Prs Hx H':=fun tx b l=>by
  have:=zE0 m' (m+1) (by omega) (i:=5) (size:=sz) (a:=b) (k:=l) tx (by omega) (by omega) (by omega) (by omega) (by omega);rwa[em]at this
 obtain⟨H1,e1,p1⟩:=rd t a n;obtain⟨la,hla⟩: ∃la,la=min n (sz - a):=⟨_,rfl⟩;rw[<-hla]at e1;obtain⟨H2,e2,p2⟩:=rd (t.prs p1) (a+la) k;obtain⟨H3,e3,p3⟩:=rd ((t.prs p1).prs p2) a (n+k);obtain⟨H4,e4,p4⟩:=rd (((t.prs p1).prs p2).prs p3) a (n+k);refine⟨H4, ?_,((p1.trans p2).trans p3).trans p4⟩;have hl:(((yG kv 5 a la).length:Nat):Int)=((la:Nat):Int):=by rw[xW]
 have h1:((a:Nat):Int)+((la:Nat):Int)=((a+la:Nat):Int):=by omega
 have h2:((n:Nat):Int)+((k:Nat):Int)=((n+k:Nat):Int):=by omega
 have t00: ¬(((0:Nat):Int)≠((0:Nat):Int)):=by omega
 by_cases hlt:la<n
 ·have hltI:((la:Nat):Int)< ((n:Nat):Int):=by omega
  have hall:yG kv 5 a (min (n+k) (sz - a))=yG kv 5 a la:=by rw[show min (n+k) (sz - a)=la by omega]
  rw[hall]at e3 e4;simp(maxSteps:=999999)(disch:=omega) only[zFc,eZ,e1,qH,nth,jX,hl,h1,e2,h2,e3,e4,t00,vF,decide_true,hltI]
 ·obtain rfl:la=n:=by omega
  have hltI: ¬((la:Nat):Int)< ((la:Nat):Int):=by omega
  have hall:yG kv 5 a (min (la+k) (sz - a))=yG kv 5 a la++yG kv 5 (a+la) (min k (sz - (a+la))):=by rw[<-YL,show la+min k (sz - (a+la))=min (la+k) (sz - a)by omega]
  have hadd:kX .add (S (yG kv 5 a la)) (S (yG kv 5 (a+la) (min k (sz - (a+la)))))=some (S (yG kv 5 a la++yG kv 5 (a+la) (min k (sz - (a+la))))):=by rw[JX _ _ (by rw[xW,xW];omega)]
  rw[hall]at e3 e4;simp(maxSteps:=999999)(disch:=omega) only[zFc,eZ,e1,qH,nth,jX,hl,h1,e2,h2,e3,e4,t00,vF,decide_true,hltI,hadd]
theorem extentParts_walk (m:Nat)(hm:700000000<=m){Hi:AH}(hk:Hi.ok){x0 x1:AV}{texts:List Str}{ats:List Int}(hx0:Strs Hi x0 texts)(hx1:U16s Hi x1 ats)(a n k:Int):
  ∃H',f4z (dy (m+1)) (m+1) [x0,x1, .int .i64 a, .int .i64 n, .int .i64 k] Hi=some (.bool true,H')/\Prs Hi H':=by
 obtain⟨H1,At,M,e1,p1,hA,hM,t1⟩:=zAX (dy (m+1)) (m+1) (by omega) hk;have hz: ∀H,z6 (dy (m+1)) (m+1) [] H=some (.bool true,H):=fun H=>rfl
 have l0:lnSl x0=some (.int .i64 ((texts.length:Nat):Int)):=hx0.lnSl;by_cases c1:12<texts.length
 ·have c1I:((12:Nat):Int)< ((texts.length:Nat):Int):=by omega
  refine⟨H1, ?_,p1⟩;simp(maxSteps:=999999)(disch:=omega) only[f4z,eZ,e1,hz,cq,l0,c1I]
 have c1I: ¬((12:Nat):Int)< ((texts.length:Nat):Int):=by omega
 by_cases c2:a< ((0:Nat):Int)
 ·refine⟨H1, ?_,p1⟩;simp(maxSteps:=999999)(disch:=omega) only[f4z,eZ,e1,hz,cq,l0,c1I,c2]
 by_cases c3:n< ((0:Nat):Int)
 ·refine⟨H1, ?_,p1⟩;simp(maxSteps:=999999)(disch:=omega) only[f4z,eZ,e1,hz,cq,l0,c1I,c2,c3]
 by_cases c4:k< ((0:Nat):Int)
 ·refine⟨H1, ?_,p1⟩;simp(maxSteps:=999999)(disch:=omega) only[f4z,eZ,e1,hz,cq,l0,c1I,c2,c3,c4]
 by_cases c5:((40000:Nat):Int)<a
 ·refine⟨H1, ?_,p1⟩;simp(maxSteps:=999999)(disch:=omega) only[f4z,eZ,e1,hz,cq,l0,c1I,c2,c3,c4,c5]
 by_cases c6:((40000:Nat):Int)<n
 ·refine⟨H1, ?_,p1⟩;simp(maxSteps:=999999)(disch:=omega) only[f4z,eZ,e1,hz,cq,l0,c1I,c2,c3,c4,c5,c6]
 by_cases c7:((40000:Nat):Int)<k
 ·refine⟨H1, ?_,p1⟩;simp(maxSteps:=999999)(disch:=omega) only[f4z,eZ,e1,hz,cq,l0,c1I,c2,c3,c4,c5,c6,c7]
 obtain⟨a',rfl⟩: ∃a':Nat,a=(a':Int):=⟨a.toNat,by omega⟩;obtain⟨n',rfl⟩: ∃n':Nat,n=(n':Int):=⟨n.toNat,by omega⟩;obtain⟨k',rfl⟩: ∃k':Nat,k=(k':Int):=⟨k.toNat,by omega⟩;rcases VA m hm (x2:= .int .i64 ((a':Nat):Int)) (x3:= .int .i64 ((n':Nat):Int)) (x4:= .int .i64 ((k':Nat):Int)) hx0 hx1 (by omega) hA hM texts.length 0 (m+1) (sz:=0) (by omega) (by omega) p1 t1 trivial (by simp) (by omega)with⟨H2,e2,P2⟩ | ⟨H2,kv,sz,e2,P2,t2,h2,h3⟩
 ·refine⟨H2, ?_,P2⟩;simp(maxSteps:=999999)(disch:=omega) only[f4z,eZ,e1,hz,cq,l0,c1I,c2,c3,c4,c5,c6,c7,e2]
 ·obtain⟨H3,e3,p3⟩:=zIu m hm (a:=a') (n:=n') (k:=k') t2 h2 h3 (by omega) (by omega) (by omega);refine⟨H3, ?_,P2.trans p3⟩;simp(maxSteps:=999999)(disch:=omega) only[f4z,eZ,e1,hz,cq,l0,c1I,c2,c3,c4,c5,c6,c7,e2,e3]
end Go.Eng.Sh
end
section
namespace Go.Proofs.YtngkjhifpekkcaaGreatDoor.extentParts
open Go.ChangeShapes Go.WideShapes Go.ChangeAt Go.RowKit
open Go.ChangeMaps (open_string shut_string)
theorem zFt: Tryz.prog.cellsOf 9=1:=by kernel_rfl
theorem zFs: Tryz.prog.cellsOf 46=1:=by kernel_rfl
theorem zGQ {H:Type}{enc:TypeId×Value->H}{w:World}{base:Nat}{held:Bool}{v:Value}{d:DataW H}{ps:List MemPlace}(hv: ∃a len cap,v= .slice a len cap)(h:DataW.Trod enc Tryz.prog w base (fun _=>true) held 44 v d ps):
  ∃l:List Go.Eng.Str,Go.Eng.Strs (Go.Eng.H0 w) (Go.Eng.argAV w.heap.size v) l:=by
 obtain⟨a0,len0,cap0,rfl⟩:=hv;obtain⟨fuel,hf⟩:=h;exact Go.Eng.strs_arg Tryz.underlying44 Tryz.underlying9 zFt hf
set_option maxRecDepth 100000 in
theorem u16_in {H:Type}{enc:TypeId×Value->H}{w:World}{base:Nat}{held:Bool}{v:Value}{d:DataW H}{ps:List MemPlace}(hv: ∃a len cap,v= .slice a len cap)(h:DataW.Trod enc Tryz.prog w base (fun _=>true) held 45 v d ps):
  ∃l:List Int,Go.Eng.Sh.U16s (Go.Eng.H0 w) (Go.Eng.argAV w.heap.size v) l:=by
 obtain⟨a0,len0,cap0,rfl⟩:=hv;obtain⟨fuel,hf⟩:=h;obtain⟨l,h1,_⟩:=Go.Eng.srows_arg (α:=Int) (k:=1) (by decide) (vals:=fun z=>[Value.int .u16 z]) (fun _=>rfl) (good:=fun _=>True) Tryz.underlying45 zFs (fun h=>by
  obtain⟨a1,h1,_⟩:=DataW.trod_int Tryz.underlying46 h;exact⟨a1,h1,trivial⟩) hf
 refine⟨l, ?_⟩;have e: ∀l:List Int,(l.map fun z=>Go.Eng.AV.int .u16 z)=l.flatMap fun s=>([Value.int .u16 s]).map (Go.Eng.cellAV w.heap.size):=by
  intro l
  induction l with
  | nil=>rfl
  | cons s l ih=>rw[List.map_cons,zW,ih];rfl
 show Go.Eng.Rw 1 _ _ l.length _;rw[e];exact h1
theorem own:ownKnob Tryz.prog.godebug=none:=by kernel_rfl
theorem laid:laidOutB Tryz.prog=true:=by kernel_rfl
set_option maxRecDepth 100000 in
theorem contract (H:Type)(enc:TypeId×Value->H)(W:World)(base:Nat)(args:Array Value)(ds gs:List (DataW H))(before:List MemPlace)
  (hval: ∀(j:Nat) t v, Tryz.f4.params[j]? =some t->args[j]? =some v->Value.okWide Tryz.prog W .any base t v)
  (hW:DataW.Whole enc Tryz.prog Tryz.f4.params.toList Rows.extentPartsSpec.vars false W args.toList ds gs before):
  Calls Tryz.prog 4 args W fun e W'=> ∃v,e= .returned v/\Rows.extentPartsSpec.post enc Tryz.prog Tryz.f4 false true false false W args v W':=by
 have hW':=hW;obtain⟨p,q,hA0,hV,rfl,hfz,hnd⟩:=hW;have hA:DataW.TrodAll enc Tryz.prog W 0 (fun _=>true) true Tryz.f4.params.toList args.toList ds p:=hA0;rw[Tryz.params4]at hA hval;obtain⟨v0,vs0,d0,ds0,p0,q0,hargs,rfl,rfl,h0,r0⟩:=trodAll_cons hA;obtain⟨v1,vs1,d1,ds1,p1,q1,rfl,rfl,rfl,h1,r1⟩:=trodAll_cons r0;obtain⟨v2,vs2,d2,ds2,p2,q2,rfl,rfl,rfl,h2,r2⟩:=trodAll_cons r1;obtain⟨v3,vs3,d3,ds3,p3,q3,rfl,rfl,rfl,h3,r3⟩:=trodAll_cons r2;obtain⟨v4,vs4,d4,ds4,p4,q4,rfl,rfl,rfl,h4,r4⟩:=trodAll_cons r3;obtain⟨rfl,rfl,rfl⟩:=trodAll_nil r4;obtain rfl:args= #[v0,v1,v2,v3,v4]:=by cases args;simp_all
 obtain⟨rfl,rfl⟩:=trodVars_none hV;clear hA0;have hlt0: ∀x∈p0,x.block<W.heap.size:=fun x hx=>hW'.lt x (by simp[hx])
 have hlt1: ∀x∈p1,x.block<W.heap.size:=fun x hx=>hW'.lt x (by simp[hx])
 obtain⟨texts,hN⟩:=zGQ (okWide_slice Tryz.underlying44 (hval 0 44 v0 rfl rfl)) h0;obtain⟨ats,hU⟩:=u16_in (okWide_slice Tryz.underlying45 (hval 1 45 v1 rfl rfl)) h1;obtain⟨z2,rfl,rfl,rfl,hz2⟩:=open_int Tryz.underlying3 (hval 2 3 v2 rfl rfl) h2;obtain⟨z3,rfl,rfl,rfl,hz3⟩:=open_int Tryz.underlying3 (hval 3 3 v3 rfl rfl) h3;obtain⟨z4,rfl,rfl,rfl,hz4⟩:=open_int Tryz.underlying3 (hval 4 3 v4 rfl rfl) h4;obtain⟨m,hm⟩: ∃m:Nat,700000000<=m:=⟨_,Nat.le_refl _⟩;obtain⟨H',hrun,hP⟩:=Go.Eng.Sh.extentParts_walk m hm (Go.Eng.H0_ok W) hN hU z2 z3 z4;have hcall:=Go.Eng.calls_param (Go.Eng.Sh.f4z_ok (Go.Eng.Sh.dy_ok (m+1)) (m+1)) W (args:= #[v0,v1, .int .i64 z2, .int .i64 z3, .int .i64 z4]) (H':=H') hrun (fun A hA=>hP.keep A hA (fun x=>x));refine hcall.mono fun e W' ⟨he,hb⟩=> ?_
 subst he;simp only[List.append_nil]at hW';refine⟨_,rfl,_,_,_,[],p0++(p1++([]++([]++([]++[])))),[],hW', ?_, ?_,rfl,hb.frame _,fun h=>by cases h⟩
 ·exact trodAll_cons_mk (shut_bool Tryz.underlying4 _) trodAll_mk0
 ·exact trodAll_cons_mk (Below.trod laid (by kernel_rfl) (of_decide_eq_true (by kernel_rfl)) h0 hb hlt0) (trodAll_cons_mk (Below.trod laid (by kernel_rfl) (of_decide_eq_true (by kernel_rfl)) h1 hb hlt1) (trodAll_cons_mk (shut_int Tryz.underlying3 hz2) (trodAll_cons_mk (shut_int Tryz.underlying3 hz3) (trodAll_cons_mk (shut_int Tryz.underlying3 hz4) trodAll_mk0))))
set_option maxRecDepth 100000 in
theorem lifted (os:Os)(started:os.Started)(H:Type)(enc:TypeId×Value->H):
  ReturnsInHanded {} Tryz.checked os 4 .any (fun w args=>(Rows.extentPartsSpec.pre enc Tryz.prog Tryz.f4 Rows.extentPartsRow.domain false w args/\laidMetH Tryz.prog Rows.extentPartsRow.laid w)/\sizedMet enc Tryz.prog Tryz.f4 (OpenSpec.ofChange Rows.extentPartsSpec) false w args)
   (Rows.extentPartsSpec.post enc Tryz.prog Tryz.f4 false true false false):=by
 refine returnsInHanded_of_change_and (C:= Tryz.checked) (X:=fun w _=>laidMetH Tryz.prog Rows.extentPartsRow.laid w) (fun _ _ _ hh h=>h.of_heap hh) own started (by kernel_rfl) Tryz.func4
  (ChangeSpec.witness_shaped (enc:=enc) (C:= Tryz.checked) (os:=os) (X:=fun w _=>laidMetH Tryz.prog Rows.extentPartsRow.laid w) false (World.laidAll Tryz.prog os Rows.extentPartsRow.laid) #[.slice none 0 0, .slice none 0 0, .int .i64 0, .int .i64 0, .int .i64 0] 8 (World.laidAll_os _ _ _)
   (World.shaped_of_ZipB (by kernel_rfl) (by kernel_rfl)) (by kernel_rfl) (by kernel_rfl) (by kernel_rfl)
   (by rw[MakeChecks.laidMetH_plain _ _ _ (by kernel_rfl)];exact laidMet_laidAll _ (by kernel_rfl) (by kernel_rfl))) ?_
 intro W base args ds gs before hval hW _ _ _ _;exact contract H enc W base args ds gs before hval hW
theorem holds:Rows.ExtentPartsSaid:=
 OpenClaim.holds_of_wide 4 Tryz.f4 rfl rfl rfl rfl rfl rfl rfl ⟨rfl,rfl,rfl,rfl,rfl⟩ rfl rfl rfl rfl rfl (by kernel_rfl) Tryz.func4 (by kernel_rfl)
  (of_decide_eq_true (by kernel_rfl)) (by unfold Func.isWrapper;first | (rw[if_pos (by decide+kernel)];kernel_rfl) | (rw[if_neg (by decide+kernel)];exact⟨rfl,rfl⟩))
  (fun os started H enc _=>lifted os started H enc)
theorem card:Rows.ExtentPartsCardSaid:=
 Claim7.holds_tied_plain_at .later [] [.data, .pinned] true Rows.extentPartsCard.stood.harness true holds (fun _ h=>by cases h) (by kernel_rfl) (fun _ h=>by cases h) extentParts_row_tie rfl ⟨rfl,rfl⟩ (by kernel_rfl) rfl
  (fun f fn hf hfn=>by
   obtain rfl:f=4:=Option.some.inj ((show Tryz.prog.funcNamed Rows.extentPartsRow.func=some 4 by kernel_rfl).symm.trans hf) |>.symm;obtain rfl:fn= Tryz.f4:=(Option.some.inj (Tryz.func4.symm.trans hfn)).symm;exact⟨by kernel_rfl,fun j t ht=>by
    rw[Tryz.params4]at ht;have hm:t∈[44,45,3,3,3]:=by simpa using Array.mem_of_getElem? ht
    have hall:([44,45,3,3,3].all fun u=> !Tryz.prog.wantsStandIn u)=true:=by kernel_rfl
    exact(show Tryz.prog.wantsStandIn t=false by simpa using List.all_eq_true.1 hall t hm)⟩)
  (by kernel_rfl)
end Go.Proofs.YtngkjhifpekkcaaGreatDoor.extentParts
namespace Go.Proofs.YtngkjhifpekkcaaGreatDoor
theorem extentParts_holds:Rows.ExtentPartsCardSaid:=extentParts.card
end Go.Proofs.YtngkjhifpekkcaaGreatDoor
end
