/- A checked evaluator for the program, and what it tells, part 7: no condition. -/
import Derived.Test.YtaaflpnhdkoaeaaGreatO6
import Derived.Test.YtaaflpnhdkoaeaaGreatRows
import Derived.ProofKit
import Derived.OpenShut
import Derived.Carry
set_option linter.all false
set_option linter.unusedVariables false
set_option linter.unusedSimpArgs false
set_option maxHeartbeats 8000000
set_option maxRecDepth 20000
section
set_option maxRecDepth 20000
namespace Go.Eng
theorem zJE {κ:IntKind}{m:Int} : ∀ {a:AV},aveq (.int κ m) a=true->a= .int κ m:=by
 intro a h
 cases a<;>simp only[aveq]at h
 case int k z=>
  rw[zE]at h;have h1:=h.1;have h2:=h.2;rw[kK]at h1;rw[kL]at h2;simp only[zJ,beq_iff_eq]at h1 h2;subst h1;subst h2;rfl
 all_goals cases h
theorem zB1 (κ:IntKind)(m j:Int):aveq (.int κ j) (.int κ m)=decide (j=m):=by
 have:keq κ κ=true:=by rw[kK];simp
 simp only[aveq,this,Bool.true_and,kL];rw[Bool.eq_iff_iff];simp
theorem WY {κ:IntKind}{m:Int}{v:AV} : ∀ {es es':List (AV×AV)},UQ (.int κ m) v es=some es'-> ∀j:Int,kQ (.int κ j) es'=if j=m then some v else kQ (.int κ j) es
 | [],_,h,_=>by cases h
 | (a,b)::es,es',h,j=>by
  simp only[UQ]at h
  cases e:aveq (.int κ m) a with
  | true=>
   rw[e]at h;have ea:=zJE e;subst ea;obtain rfl:=Option.some.inj h;simp only[kQ,zB1];by_cases hj:j=m
   .simp[hj]
   .simp[hj]
  | false=>
   rw[e]at h;simp only[cond_false]at h
   cases h2:UQ (.int κ m) v es with
   | none=>rw[h2]at h;cases h
   | some r=>
    rw[h2]at h;obtain rfl:=Option.some.inj h;have ih:=WY h2 j;simp only[kQ,ih];by_cases hj:j=m
    .subst hj;simp[e]
    .simp[hj]
theorem BM {κ:IntKind}{m:Int}{v:AV} : ∀ {es:List (AV×AV)},UQ (.int κ m) v es=none-> ∀j:Int,kQ (.int κ j) (es++[(.int κ m,v)])=if j=m then some v else kQ (.int κ j) es
 | [],_,j=>by
  simp only[List.nil_append,kQ,zB1];by_cases hj:j=m<;>simp[hj]
 | (a,b)::es,h,j=>by
  simp only[UQ]at h
  cases e:aveq (.int κ m) a with
  | true=>rw[e]at h;cases h
  | false=>
   rw[e]at h;simp only[cond_false]at h
   cases h2:UQ (.int κ m) v es with
   | some r=>rw[h2]at h;cases h
   | none=>
    have ih:=BM h2 j;simp only[List.cons_append,kQ,ih];by_cases hj:j=m
    .subst hj;simp[e]
    .simp[hj]
theorem zNe {κ:IntKind}{ks:List Nat}{H:AH}{M:Nat}{es:List (AV×AV)}(hk:H.ok)(h:H.h.get M=some (.map ks es))(he:QN ks ks=true){m:Int}(hkey:kD ks (.int κ m)=true)(v:AV):
  ∃H' es',upM ks (.map M) (.int κ m) v H=some (qZ,H')/\H'.h.get M=some (.map ks es')/\(∀j:Int,kQ (.int κ j) es'=if j=m then some v else kQ (.int κ j) es)/\Stp (fun B=>B=M) H H'/\H'.next=H.next:=by
 cases hs:UQ (.int κ m) v es with
 | some es'=>
  refine⟨H.put M (.map ks es'),es', ?_,by rw[AH.put_get,if_pos rfl],WY hs,(Stp.refl hk).put (hk.lt h) _ (.inr rfl),rfl⟩;simp only[upM,hkey,cond_true,h,he,hs,yX]
 | none=>
  refine⟨H.put M (.map ks (es++[(.int κ m,v)])),_, ?_,by rw[AH.put_get,if_pos rfl],BM hs,(Stp.refl hk).put (hk.lt h) _ (.inr rfl),rfl⟩;simp only[upM,hkey,cond_true,h,he,hs,yX]
end Go.Eng
namespace Go.Eng.Sh
open Go.Nd (Ptr Str)
open Go.Bk
theorem zJe (D:Dyn)(n:Nat){H:AH}(hk:H.ok){nb:Nat}(h1:64<=nb)(h2:nb<=8192): ∃H' A On Nw,f32 D n [.int .i64 ((nb:Nat):Int)] H=some (.tuple [.ptr A 0, .int .i64 ((0:Nat):Int)],H')/\Prs H H'/\H.next<=A/\H.next<=On/\H.next<=Nw/\DkI H' A nb [] On Nw .nilSlice []:=by
 obtain⟨H1,A1,b1,p1,g1,m1,n1⟩:=box hk (.map [6] []);obtain⟨H2,A2,b2,p2,g2,m2,n2⟩:=box p1.ok (.map [6] []);obtain⟨H3,A3,b3,p3,g3,m3,n3⟩:=box p2.ok (.cells [.int .i64 ((nb:Nat):Int), .map A1, .nilSlice, .map A2, .int .i64 ((0:Nat):Int), .nilSlice, .bool false] 151 1 false);have N1:=p1.next;have N2:=p2.next
 refine⟨H3,A3,A1,A2, ?_,(p1.trans p2).trans p3,by omega,by omega,by omega,⟨g3,Prs.get (p2.trans p3) p1.ok g1,Prs.get p3 p2.ok g2,Own.nil ..,fun n=>rfl,fun w hw=>(List.not_mem_nil hw).elim,by simp,by omega⟩⟩;have a1: ¬((nb:Nat):Int)< ((64:Nat):Int):=by omega
 have a2: ¬((8192:Nat):Int)< ((nb:Nat):Int):=by omega
 have bs:xH [(0,1),(1,1),(2,1),(3,1),(4,1),(5,1),(6,1)] [.int .i64 ((0:Nat):Int), .nilMap, .nilSlice, .nilMap, .int .i64 ((0:Nat):Int), .nilSlice, .bool false] [(0, .int .i64 ((nb:Nat):Int)),(1, .map A1),(3, .map A2)]=some (.agg [.int .i64 ((nb:Nat):Int), .map A1, .nilSlice, .map A2, .int .i64 ((0:Nat):Int), .nilSlice, .bool false]):=rfl;simp(maxSteps:=999999)(disch:=omega) only[f32,f85,eZ,a1,a2,mkM,b1,b2,bs,b3]
theorem zHn (e:Nat){x c:AV}{r s:List AV}(hr:r.length=512)(hs:s.length=512)(hx:isCell x=true):xH [(0,1),(1,512)] (c::r) [(0,x),(1, .agg s)]=some (.agg (x::s))/\aU e 513 1 (c::r) [(0, .agg (x::s))]=some (.cells (x::s) e 513 false,fun A=> .slice A 0 1 2):=by
 have e1:setAt (c::r) 0 [x]=some (x::r):=by rw[jZ (by simp)];rfl
 have e2:setAt (x::r) 1 s=some (x::s):=by
  rw[jZ (by simp[hr,hs])];have:(x::r).drop (1+s.length)=[]:=qB (by simp[hr,hs]);rw[this];simp
 have e3:setAt (c::r) 0 (x::s)=some (x::s):=by
  rw[jZ (by simp[hr,hs])];have:(c::r).drop (0+(x::s).length)=[]:=qB (by simp[hr,hs]);rw[this];simp
 have l1:(fL [x] 0).beq 1=true:=rfl;have l2:(fL s 0).beq 512=true:=by rw[yE,hs];exact Nat.beq_refl _
 have l3:(fL (x::s) 0).beq 513=true:=by rw[yE,zP,hs];exact Nat.beq_refl _
 have hc:=yU hx;constructor
 .simp only[xH,uL,zKb,hc,l1,cond_true,e1];simp only[yC,l2,cond_true,e2]
 .have hrp:rep 1 (c::r)=c::r:=by simp only[rep,List.append_nil]
  simp only[aU,hrp,uL,yC,l3,cond_true,Nat.zero_mul,e3]
theorem zE5 (D:Dyn)(n:Nat){H:AH}(hk:H.ok){Ad nb:Nat}{ws:Ws}{On Nw:Nat}{wv:AV}{es:List (AV×AV)}(d:DkI H Ad nb ws On Nw wv es){k:Nat}(hkn:k<nb){b:Str}(hb:b.length=512)(hf:ws.length<1000000):
  ∃H' wv' es',f26 D n [.ptr Ad 0, .int .i64 ((k:Nat):Int), .agg (qW b)] H=some (.int .i64 ((0:Nat):Int),H')/\DkI H' Ad nb (ws++[(k,b)]) On Nw wv' es'/\Stp (fun B=>B=Ad\/B=Nw\/Blk wv B) H H'/\(∀B,Blk wv' B->Blk wv B\/H.next<=B):=by
 obtain⟨Z,hZ⟩: ∃Z:Str,Z=List.replicate 512 0:=⟨_,rfl⟩;have hzr:rep 512 [AV.int .u8 ((0:Nat):Int)]=qW Z:=by rw[d8,hZ]
 have hZl:(qW Z).length=512:=by rw[y8,hZ];exact List.length_replicate
 obtain⟨H1,A5,b1,p1,g1,m1,n1⟩:=box hk (.cells (qW b) 55 1 false);have d1:=d.prs hk p1;have ha:=zKF D n d1 hkn;have t00: ¬(((0:Nat):Int)≠((0:Nat):Int)):=by omega
 have r3:Eng.ld1 (.ptr Ad 3) H1=some (.map Nw):=by rw[qV d1.gD];rfl
 have r2:Eng.ld1 (.ptr Ad 2) H1=some wv:=by rw[qV d1.gD];rfl
 have lD:=hk.lt d.gD;have lN:=hk.lt d.gN;have lO:=hk.lt d.gO;have nDN:Ad≠Nw:=fun e=>by have:=d.gD;rw[e,d.gN]at this;cases this
 have nDO:Ad≠On:=fun e=>by have:=d.gD;rw[e,d.gO]at this;cases this
 have wA: ∀B,Blk wv B->B<H.next/\B≠Ad/\B≠On/\B≠Nw:=fun B hB=>by
  have g:=d.ow.get hB;refine⟨hk.lt g,fun e=> ?_,fun e=> ?_,fun e=> ?_⟩
  .rw[e,d.gD]at g;simp at g
  .rw[e,d.gO]at g;cases g
  .rw[e,d.gN]at g;cases g
 obtain⟨H2,es',e2,g2,f2,s2,n2⟩:=zNe p1.ok d1.gN rfl (m:=((k:Nat):Int)) (keyI _) (.int .i64 ((ws.length:Nat):Int));have N1:=p1.next
 have gD2:H2.h.get Ad=_:=(s2.keep _ (by omega) nDN).trans d1.gD;have gO2:H2.h.get On=_:=(s2.keep _ (by omega) d.ne).trans d1.gO;have r22:Eng.ld1 (.ptr Ad 2) H2=some wv:=by rw[qV gD2];rfl
 have g5:H2.h.get A5=_:=(s2.keep _ (by omega) (by omega)).trans g1;have rb:=ldR g5 hb;have hbv:(qW b).length=512:=by rw[y8,hb]
 obtain⟨q1,q2⟩:=zHn 153 (x:= .int .i64 ((k:Nat):Int)) (c:= .int .i64 ((0:Nat):Int)) hZl hbv rfl;obtain⟨H3,A6,b3,p3,g3,m3,n3⟩:=box s2.ok (.cells (.int .i64 ((k:Nat):Int)::qW b) 153 513 false);have hsrc:srcOf 513 (.slice A6 0 1 2) H3=some (1,wV (k,b)):=by
  have hln:xW (AV.int .i64 ((k:Nat):Int)::qW b) 0 (1*513)=some (wV (k,b)):=by
   rw[yS _ _ _ (.inr (by simp[hbv])),List.drop_zero,zO (by simp[hbv])];rfl
  simp only[srcOf,g3,hln]
 have N2:=s2.next;have N3:=p3.next
 have ow3:Own 513 153 H3 wv ws.length (ws.flatMap wV):=((d.ow.mono p1 fun _ _ x=>x).mono s2 fun B hB=>(wA B hB).2.2.2).mono p3 fun _ _ x=>x
 have hac:qY (wV (k,b))=true:=by
  have:=bytesV_cells b;simp only[wV,qY,this];rfl
 obtain⟨H4,e4,ow4,s4,n4⟩:=xA (bytes:=520) (m:=1) p3.ok (by decide) ow3 hsrc (by rw[zCf hb]) hac (by omega) (by omega) (by decide);have N4:=s4.next
 have gD4:H4.h.get Ad=_:=(s4.keep _ (by omega) (fun hB=>(wA Ad hB).2.1 rfl)).trans ((p3.keep _ (by omega) (fun x=>x)).trans gD2);have r24:Eng.ld1 (.ptr Ad 2) H4=some wv:=by rw[qV gD4];rfl
 obtain⟨H5,e5,g5',s5,n5⟩:=kJ s4.ok gD4 (o:=2) (x:= .slice H3.next 0 (ws.length+1) 1) rfl (by simp)
 have r45:Eng.ld1 (.ptr Ad 4) H5=some (.int .i64 ((0:Nat):Int)):=by rw[qV g5'];rfl
 refine⟨H5, .slice H3.next 0 (ws.length+1) 1,es', ?_,⟨g5', ?_, ?_, ?_,fun j=> ?_,fun w hw=> ?_,by simp;omega,d.ne⟩,⟨s5.ok,by omega,fun B hB hS=> ?_⟩,fun B hB=> .inr (by rw[Blk.slice.1 hB];omega)⟩
 .simp(maxSteps:=999999)(disch:=omega) only[f26,f75,eZ,b1,ha,t00,r3,r2,d1.ow.row.lnSl,e2,r22,rb,hzr,List.cons_append,List.nil_append,q1,q2,b3,e4,e5,r45]
 .rw[s5.keep _ (by omega) (fun e=>nDO e.symm),s4.keep _ (by omega) (fun hB=>(wA On hB).2.2.1 rfl),p3.keep _ (by omega) (fun x=>x)];exact gO2
 .rw[s5.keep _ (by omega) (fun e=>nDN e.symm),s4.keep _ (by omega) (fun hB=>(wA Nw hB).2.2.2 rfl),p3.keep _ (by omega) (fun x=>x)];exact g2
 .have:=ow4.mono s5 fun B hB=>by rw[Blk.slice.1 hB];omega
  simpa[qL]using this
 .rw[f2,ZS,d.nw j];by_cases e:k=j
  .subst e;simp
  .have e': ¬((j:Nat):Int)=((k:Nat):Int):=by omega
   rw[if_neg e',if_neg e]
 .rcases List.mem_append.1 hw with hw | hw
  .exact d.ln w hw
  .obtain rfl:w=(k,b):=by simpa using hw
   exact hb
 .have a1: ¬B=Ad:=fun e=>hS (.inl e)
  have a2: ¬B=Nw:=fun e=>hS (.inr (.inl e))
  have a3: ¬Blk wv B:=fun e=>hS (.inr (.inr e))
  rw[s5.keep B (by omega) a1,s4.keep B (by omega) a3,p3.keep B (by omega) (fun x=>x),s2.keep B (by omega) a2,p1.keep B hB (fun x=>x)]
end Go.Eng.Sh
end
section
set_option maxRecDepth 20000
namespace Go.Eng
theorem wH (n A off:Nat)(k:IntKind){z:Int}(i:Nat)(hz:z=(i:Int))(h:i<n):vX n 1 (.ptr A off) (.int k z)=some (.ptr A (off+i)):=by
 subst hz;have n1:=yM k (z:=((i:Nat):Int)) (by omega);simp only[qD]at n1;have hb:Nat.blt i n=true:=by rw[zR];exact h
 simp only[vX,n1,hb,cond_true,yG,Nat.mul_one]
end Go.Eng
namespace Go.Bk
def cnt (is:Nat->Nat)(w:Nat):Nat->Nat
 | 0=>0
 | n+1=>cnt is w n+(if is n=w then 1 else 0)
def QV (is:Nat->Nat)(i b:Nat):Nat->Nat:=fun j=>if j=i then b else is j
theorem vF (is:Nat->Nat)(i b:Nat):QV is i b i=b:=by simp[QV]
theorem vG {is:Nat->Nat}{i b j:Nat}(h:j≠i):QV is i b j=is j:=by simp[QV,h]
theorem zDh (is:Nat->Nat)(w:Nat): ∀n,cnt is w n<=n
 | 0=>Nat.le_refl _
 | n+1=>by
  have:=zDh is w n;simp only[cnt];split<;>omega
theorem zHf {is is':Nat->Nat}{w:Nat} : ∀ {n:Nat},(∀i,i<n->(is i=w↔is' i=w))->cnt is w n=cnt is' w n
 | 0,_=>rfl
 | n+1,h=>by
  have ih:=zHf (n:=n) fun i hi=>h i (by omega)
  have h1:=h n (by omega);simp only[cnt,ih];by_cases e:is n=w
  .rw[if_pos e,if_pos (h1.1 e)]
  .rw[if_neg e,if_neg fun x=>e (h1.2 x)]
theorem UA {is:Nat->Nat}{i a b:Nat}(ha:is i=a)(hab:a≠b): ∀ {n:Nat},(i<n->cnt (QV is i b) b n=cnt is b n+1/\cnt (QV is i b) a n+1=cnt is a n)/\(¬i<n->cnt (QV is i b) b n=cnt is b n/\cnt (QV is i b) a n=cnt is a n)
 | 0=>⟨fun h=>by omega,fun _=>⟨rfl,rfl⟩⟩
 | n+1=>by
  obtain⟨h1,h2⟩:=UA ha hab (n:=n);refine⟨fun h=> ?_,fun h=> ?_⟩
  .by_cases e:i=n
   .subst e;obtain⟨h3,h4⟩:=h2 (by omega);simp only[cnt,vF,if_true,h3,h4,ha];simp[hab,Ne.symm hab]
   .obtain⟨h3,h4⟩:=h1 (by omega);have e':n≠i:=fun x=>e x.symm
    simp only[cnt,vG e',h3];omega
  .obtain⟨h3,h4⟩:=h2 (by omega);have e':n≠i:=by omega
   simp only[cnt,vG e',h3,h4,and_self]
theorem zHe {is:Nat->Nat}{i a b w:Nat}(ha:is i=a)(h1:w≠a)(h2:w≠b)(n:Nat):cnt (QV is i b) w n=cnt is w n:=by
 refine zHf fun j _=> ?_
 by_cases e:j=i
 .subst e;rw[vF,ha];exact⟨fun x=>absurd x.symm h2,fun x=>absurd x.symm h1⟩
 .rw[vG e]
theorem zHd {is:Nat->Nat}{w:Nat} : ∀ {n i:Nat},i<n->is i=w->0<cnt is w n
 | n+1,i,h,e=>by
  simp only[cnt];by_cases hi:i=n
  .subst hi;rw[if_pos e];omega
  .have:=zHd (n:=n) (i:=i) (by omega) e;omega
theorem zKC {is:Nat->Nat}{w:Nat} : ∀ {n:Nat},0<cnt is w n-> ∃i,i<n/\is i=w
 | 0,h=>by simp[cnt]at h
 | n+1,h=>by
  simp only[cnt]at h;by_cases e:is n=w
  .exact⟨n,by omega,e⟩
  .rw[if_neg e]at h;obtain⟨i,h1,h2⟩:=zKC (n:=n) (by omega);exact⟨i,by omega,h2⟩
def fnd (is:Nat->Nat)(w:Nat):Nat->Nat->Option Nat
 | 0,_=>none
 | d+1,i=>if is i=w then some i else fnd is w d (i+1)
theorem Y7 {is:Nat->Nat}{w:Nat} : ∀ {d i j:Nat},fnd is w d i=some j->i<=j/\j<i+d/\is j=w
 | 0,_,_,h=>by cases h
 | d+1,i,j,h=>by
  simp only[fnd]at h;split at h
  .rename_i e;obtain rfl:=Option.some.inj h;exact⟨Nat.le_refl _,by omega,e⟩
  .obtain⟨h1,h2,h3⟩:=Y7 h;exact⟨by omega,by omega,h3⟩
theorem zCW {is:Nat->Nat}{w:Nat} : ∀ {d i:Nat},fnd is w d i=none-> ∀j,i<=j->j<i+d->is j≠w
 | 0,_,_,j,h1,h2=>by omega
 | d+1,i,h,j,h1,h2=>by
  simp only[fnd]at h;split at h
  .cases h
  .rename_i e;by_cases hj:j=i
   .subst hj;exact e
   .exact zCW h j (by omega) (by omega)
end Go.Bk
namespace Go.Eng.Sh
open Go.Bk
def Spc (H:AH)(A nb la:Nat)(is:Nat->Nat):Prop:= ∃c,H.h.get A=some (.cells c 145 1 false)/\c.length=8198/\c[0]? =some (.int .i64 ((nb:Nat):Int))/\c[1]? =some (.int .i64 ((la:Nat):Int))/\(∀i,i<8192->c[2+i]? =some (.int .u8 ((is i:Nat):Int)))/\(∀k,k<4->c[8194+k]? =some (.int .i64 ((cnt is k nb:Nat):Int)))/\nb<=8192/\la<8192/\ ∀i,is i<4
theorem Spc.stp {S:Nat->Prop}{H H':AH}{A nb la:Nat}{is:Nat->Nat}(h:Spc H A nb la is)(hk:H.ok)(s:Stp S H H')(hS: ¬S A):Spc H' A nb la is:=by
 obtain⟨c,g,h⟩:=h;exact⟨c,by rw[s.keep _ (hk.lt g) hS];exact g,h⟩
theorem Spc.lt {H:AH}{A nb la:Nat}{is:Nat->Nat}(h:Spc H A nb la is)(hk:H.ok):A<H.next:=by
 obtain⟨c,g,h⟩:=h;exact hk.lt g
theorem V5 (D:Dyn)(n:Nat){H:AH}{A nb la i a b:Nat}{is:Nat->Nat}(h:Spc H A nb la is)(hk:H.ok)(hi:i<nb)(ha:is i=a)(hb:b<4)(hab:a≠b):
  ∃H',f86 D n [.ptr A 0, .int .i64 ((i:Nat):Int), .int .u8 ((b:Nat):Int)] H=some (.tuple [],H')/\Spc H' A nb la (QV is i b)/\Stp (fun B=>B=A) H H'/\H'.next=H.next:=by
 obtain⟨c,g,hl,c0,c1,hc,hn,h1,h2,h4⟩:=h;have ha4:a<4:=by rw[<-ha];exact h4 i
 obtain⟨q1,q2⟩:=(UA ha hab (n:=nb)).1 hi;have hla:=zDh is a nb;have hlb:=zDh is b nb;obtain⟨H1,e1,g1,s1,n1⟩:=kJ hk g (o:=8194+a) (x:= .int .i64 ((cnt (QV is i b) a nb:Nat):Int)) rfl (by omega);obtain⟨H2,e2,g2,s2,n2⟩:=kJ s1.ok g1 (o:=8194+b) (x:= .int .i64 ((cnt (QV is i b) b nb:Nat):Int)) rfl (by simp;omega);obtain⟨H3,e3,g3,s3,n3⟩:=kJ s2.ok g2 (o:=2+i) (x:= .int .u8 ((b:Nat):Int)) rfl (by simp;omega);refine⟨H3, ?_,⟨_,g3,by simp[hl], ?_, ?_,fun j hj=> ?_,fun k hk4=> ?_,h1,h2,fun j=> ?_⟩,(s1.trans s2).trans s3,by omega⟩
 .have r0:ld1 (.ptr A (2+i)) H=some (.int .u8 ((a:Nat):Int)):=jQ g (by rw[hc i (by omega),ha]);have r1:ld1 (.ptr A (8194+a)) H=some (.int .i64 ((cnt is a nb:Nat):Int)):=jQ g (hn a ha4);have r2:ld1 (.ptr A (8194+b)) H1=some (.int .i64 ((cnt is b nb:Nat):Int)):=jQ g1 (by rw[List.getElem?_set_ne (by omega)];exact hn b hb);have i0:vX 8192 1 (.ptr A 2) (.int .i64 ((i:Nat):Int))=some (.ptr A (2+i)):=wH 8192 A 2 .i64 i rfl (by omega);have i1:vX 4 1 (.ptr A 8194) (.int .u8 ((a:Nat):Int))=some (.ptr A (8194+a)):=wH 4 A 8194 .u8 a rfl ha4;have i2:vX 4 1 (.ptr A 8194) (.int .u8 ((b:Nat):Int))=some (.ptr A (8194+b)):=wH 4 A 8194 .u8 b rfl hb;have w1:((cnt is a nb:Nat):Int) - ((1:Nat):Int)=((cnt (QV is i b) a nb:Nat):Int):=by omega
  have w2:((cnt is b nb:Nat):Int)+((1:Nat):Int)=((cnt (QV is i b) b nb:Nat):Int):=by omega
  simp(maxSteps:=999999)(disch:=omega) only[f86,eZ,i0,r0,i1,r1,w1,e1,i2,r2,w2,e2,e3]
 .rw[List.getElem?_set_ne (by omega),List.getElem?_set_ne (by omega),List.getElem?_set_ne (by omega)];exact c0
 .rw[List.getElem?_set_ne (by omega),List.getElem?_set_ne (by omega),List.getElem?_set_ne (by omega)];exact c1
 .by_cases e:j=i
  .subst e;rw[List.getElem?_set_self (by simp;omega),vF]
  .rw[List.getElem?_set_ne (by omega),List.getElem?_set_ne (by omega),List.getElem?_set_ne (by omega),vG e];exact hc j hj
 .rw[List.getElem?_set_ne (by omega)];by_cases e:k=b
  .subst e;rw[List.getElem?_set_self (by simp;omega)]
  .rw[List.getElem?_set_ne (by omega)];by_cases e2:k=a
   .subst e2;rw[List.getElem?_set_self (by omega)]
   .rw[List.getElem?_set_ne (by omega),zHe ha e2 e];exact hn k hk4
 .by_cases e:j=i
  .subst e;rw[vF];exact hb
  .rw[vG e];exact h4 j
theorem zF3 (x:AV): ∀n,rep n [x]=List.replicate n x
 | 0=>rfl
 | n+1=>by rw[rep,zF3 x n,List.replicate_succ];rfl
def zKc:Nat->Nat:=fun i=>if i<2 then 1 else 0
theorem zHg (w n:Nat):cnt (fun _=>w) w n=n:=by
 induction n with
 | zero=>rfl
 | succ n ih=>simp[cnt,ih]
theorem zJl {w v:Nat}(h:v≠w)(n:Nat):cnt (fun _=>v) w n=0:=by
 induction n with
 | zero=>rfl
 | succ n ih=>simp[cnt,ih,h]
theorem zLw:QV (QV (fun _=>0) 0 1) 1 1=zKc:=by
 funext i
 match i with
 | 0=>rfl
 | 1=>rfl
 | i+2=>rw[vG (by omega),vG (by omega),zKc,if_neg (by omega)]
theorem zL5 (D:Dyn)(n:Nat)(hn:100<=n){H:AH}(hk:H.ok){nb:Nat}(h1:64<=nb)(h2:nb<=8192): ∃H' A,f34 D n [.int .i64 ((nb:Nat):Int)] H=some (.tuple [.ptr A 0, .int .i64 ((0:Nat):Int)],H')/\Prs H H'/\H.next<=A/\Spc H' A nb 0 zKc:=by
 obtain⟨r,hr⟩: ∃r,r=rep 8192 [AV.int .u8 ((0:Nat):Int)]:=⟨_,rfl⟩;have hrep:=zF3 (AV.int .u8 ((0:Nat):Int)) 8192;rw[<-hr]at hrep;have hrl:r.length=8192:=by rw[hrep,List.length_replicate]
 have hri: ∀i,i<8192->r[i]? =some (.int .u8 ((0:Nat):Int)):=fun i hi=>by rw[hrep,List.getElem?_replicate,if_pos hi]
 clear hrep;obtain⟨z4,hz4⟩: ∃z4,z4=[AV.int .i64 ((0:Nat):Int), .int .i64 ((0:Nat):Int), .int .i64 ((0:Nat):Int), .int .i64 ((0:Nat):Int)]:=⟨_,rfl⟩;have hb:xH [(0,1),(1,1),(2,8192),(8194,4)] ([AV.int .i64 ((0:Nat):Int), .int .i64 ((0:Nat):Int)]++r++z4) [(0, .int .i64 ((nb:Nat):Int))]=some (.agg ([AV.int .i64 ((nb:Nat):Int), .int .i64 ((0:Nat):Int)]++r++z4)):=rfl;obtain⟨c,hc⟩: ∃c,c=[AV.int .i64 ((nb:Nat):Int), .int .i64 ((0:Nat):Int)]++r++z4:=⟨_,rfl⟩;have hcl:c.length=8198:=by rw[hc,hz4];simp[hrl]
 have c0:c[0]? =some (.int .i64 ((nb:Nat):Int)):=by rw[hc];rfl
 have c1:c[1]? =some (.int .i64 ((0:Nat):Int)):=by rw[hc];rfl
 have g0: ∀i,i<8192->c[2+i]? =some (.int .u8 ((0:Nat):Int)):=fun i hi=>by
  rw[hc,List.append_assoc,qG (by simp),qF (by simp[hrl];omega)];simpa using hri i hi
 have g4: ∀i,i<4->c[8194+i]? =some (.int .i64 ((0:Nat):Int)):=fun i hi=>by
  rw[hc,qG (by simp[hrl]),hz4];have:8194+i - ([AV.int .i64 ((nb:Nat):Int), .int .i64 ((0:Nat):Int)]++r).length=i:=by simp[hrl]
  rw[this]
  match i,hi with
  | 0,_=>rfl
  | 1,_=>rfl
  | 2,_=>rfl
  | 3,_=>rfl
 rw[<-hc]at hb;clear hc;obtain⟨H1,A,b1,p1,g1,m1,n1⟩:=box hk (.cells c 145 1 false);obtain⟨H2,e2,g2,s2,n2⟩:=kJ p1.ok g1 (o:=8194) (x:= .int .i64 ((nb:Nat):Int)) rfl (by omega);have sp2:Spc H2 A nb 0 fun _=>0:=⟨_,g2,by simp[hcl],by rw[List.getElem?_set_ne (by omega)];exact c0,by rw[List.getElem?_set_ne (by omega)];exact c1,fun i hi=>by rw[List.getElem?_set_ne (by omega)];exact g0 i hi,fun k hk4=>by
  by_cases e:k=0
  .subst e;rw[List.getElem?_set_self (by omega),zHg]
  .rw[List.getElem?_set_ne (by omega),zJl (fun h=>e h.symm)];exact g4 k hk4,h2,by omega,fun _=>Nat.succ_pos 3⟩
 obtain⟨H3,e3,sp3,s3,n3⟩:=V5 D n sp2 s2.ok (i:=0) (a:=0) (b:=1) (by omega) rfl (by omega) (by omega);obtain⟨H4,e4,sp4,s4,n4⟩:=V5 D n sp3 s3.ok (i:=1) (a:=0) (b:=1) (by omega) rfl (by omega) (by omega);have N1:=p1.next
 have i1:vX 4 1 (.ptr A 8194) (.int .u8 ((0:Nat):Int))=some (.ptr A 8194):=wH 4 A 8194 .u8 0 rfl (by omega);refine⟨H4,A, ?_,p1.fresh ((s2.trans s3).trans s4) (fun B hB=>by omega),m1,by rw[<-zLw];exact sp4⟩;obtain⟨k,rfl⟩: ∃k,n=k+1+1+1:=⟨n - 3,by omega⟩;have l0:JR D (k+1+1+1) [.ptr A 0, .int .i64 ((0:Nat):Int)] H2=some (.norm [.ptr A 0, .int .i64 ((1:Nat):Int)],H3):=by
  have h02:((0:Nat):Int)< ((2:Nat):Int):=by omega
  have h1:((0:Nat):Int)+((1:Nat):Int)=((1:Nat):Int):=by omega
  simp(maxSteps:=999999)(disch:=omega) only[JR,eZ,h02,e3,h1]
 have l1:JR D (k+1+1+1) [.ptr A 0, .int .i64 ((1:Nat):Int)] H3=some (.norm [.ptr A 0, .int .i64 ((2:Nat):Int)],H4):=by
  have h02:((1:Nat):Int)< ((2:Nat):Int):=by omega
  have h1:((1:Nat):Int)+((1:Nat):Int)=((2:Nat):Int):=by omega
  simp(maxSteps:=999999)(disch:=omega) only[JR,eZ,h02,e4,h1]
 have l2:JR D (k+1+1+1) [.ptr A 0, .int .i64 ((2:Nat):Int)] H4=some (.exit 0 [.ptr A 0],H4):=by
  simp(maxSteps:=999999)(disch:=omega) only[JR,eZ,qJ]
 have hloop:yJ (k+1+1+1) (JR D (k+1+1+1)) [.ptr A 0, .int .i64 ((0:Nat):Int)] H2=some (.exit 0 [.ptr A 0],H4):=by
  rw[j5 l0,j5 l1,y9 l2]
 have a1: ¬((nb:Nat):Int)< ((64:Nat):Int):=by omega
 have a2: ¬((8192:Nat):Int)< ((nb:Nat):Int):=by omega
 simp(maxSteps:=999999)(disch:=omega) only[f34,<-hr,eZ,a1,a2,<-hz4,hb,b1,i1,e2,hloop,zGh]
end Go.Eng.Sh
end
section
set_option maxRecDepth 20000
namespace Go.Eng
theorem WO {H:AH}(hk:H.ok)(o:AObj)(K:Nat->AH->Rs):KR H o K=K H.next (H.push o):=zBw hk o K
theorem mx2S (a b:Nat):mx2 (.int .i64 ((a:Nat):Int)) (.int .i64 ((b:Nat):Int))=some (.int .i64 ((max a b:Nat):Int)):=by
 by_cases h:a<b
 .have hb:ilt ((a:Nat):Int) ((b:Nat):Int)=true:=by rw[xK];simpa using h
  simp only[mx2,hb,cond_true,show max a b=b by omega]
 .have hb:ilt ((a:Nat):Int) ((b:Nat):Int)=false:=by rw[xK];simpa using h
  simp only[mx2,hb,cond_false,show max a b=a by omega]
end Go.Eng
namespace Go.Eng.Sh
open Go.Bk
theorem zCt (D:Dyn)(n:Nat){H:AH}{A nb la:Nat}{is:Nat->Nat}(h:Spc H A nb la is):f23 D n [.ptr A 0] H=some (.int .i64 ((cnt is 0 nb:Nat):Int),H):=by
 obtain⟨c,g,hl,c0,c1,hc,hn,h1,h2,h4⟩:=h;have r1:ld1 (.ptr A (8194+0)) H=some (.int .i64 ((cnt is 0 nb:Nat):Int)):=jQ g (hn 0 (by omega));have i1:vX 4 1 (.ptr A 8194) (.int .u8 ((0:Nat):Int))=some (.ptr A (8194+0)):=wH 4 A 8194 .u8 0 rfl (by omega);simp(maxSteps:=999999)(disch:=omega) only[f23,eZ,cq,i1,r1]
theorem Spc.la' {H:AH}{A nb la:Nat}{is:Nat->Nat}(h:Spc H A nb la is)(hk:H.ok){x:Nat}(hx:x<8192): ∃H',stN 1 (.ptr A 1) (.int .i64 ((x:Nat):Int)) H=some (qZ,H')/\Spc H' A nb x is/\Stp (fun B=>B=A) H H'/\H'.next=H.next:=by
 obtain⟨c,g,hl,c0,c1,hc,hn,h1,h2,h4⟩:=h;obtain⟨H1,e1,g1,s1,n1⟩:=kJ hk g (o:=1) (x:= .int .i64 ((x:Nat):Int)) rfl (by omega);refine⟨H1,e1,⟨_,g1,by simp[hl], ?_, ?_,fun i hi=> ?_,fun k hk4=> ?_,h1,hx,h4⟩,s1,n1⟩
 .rw[List.getElem?_set_ne (by omega)];exact c0
 .rw[List.getElem?_set_self (by omega)]
 .rw[List.getElem?_set_ne (by omega)];exact hc i hi
 .rw[List.getElem?_set_ne (by omega)];exact hn k hk4
theorem zLt (D:Dyn)(n:Nat){H:AH}{A A3 A4 As nb la w:Nat}{is:Nat->Nat}(b3:Box H A3 (.ptr As 0))(b4:Box H A4 (.int .u8 ((w:Nat):Int)))(sp:Spc H As nb la is):
  ∀d i k,i+d=nb->d<k->match fnd is w d i with
   | none=>yJ k (xL D n) [.yieldTo A, .ptr A3 0, .ptr A4 0, .int .i64 ((i:Nat):Int)] H=some (.exit 0 [],H)
   | some j=> ∀H',callV [] D (.yieldTo A) [.int .i64 ((j:Nat):Int)] H=some (.bool false,H')->yJ k (xL D n) [.yieldTo A, .ptr A3 0, .ptr A4 0, .int .i64 ((i:Nat):Int)] H=some (.ret (.tuple []),H'):=by
 obtain⟨c,g,hl,c0,c1,hc,hn,h1,h2,h4⟩:=id sp;have r0:ld1 (.ptr As 0) H=some (.int .i64 ((nb:Nat):Int)):=jQ g c0;intro d
 induction d with
 | zero=>
  intro i k hi hk;obtain⟨k,rfl⟩: ∃k',k=k'+1:=⟨k - 1,by omega⟩;have t: ¬((i:Nat):Int)< ((nb:Nat):Int):=by omega
  simp only[fnd];exact y9 (by simp(maxSteps:=999999)(disch:=omega) only[xL,eZ,b3.ld,r0,t])
 | succ d ih=>
  intro i k hi hk;obtain⟨k,rfl⟩: ∃k',k=k'+1:=⟨k - 1,by omega⟩;have t:((i:Nat):Int)< ((nb:Nat):Int):=by omega
  have i0:vX 8192 1 (.ptr As 2) (.int .i64 ((i:Nat):Int))=some (.ptr As (2+i)):=wH 8192 As 2 .i64 i rfl (by omega);have ri:ld1 (.ptr As (2+i)) H=some (.int .u8 ((is i:Nat):Int)):=jQ g (hc i (by omega));simp only[fnd];by_cases e:is i=w
  .rw[if_pos e];intro H' hcall;have ewI:((is i:Nat):Int)=((w:Nat):Int):=by omega
   exact cT (by simp(maxSteps:=999999)(disch:=omega) only[xL,eZ,b3.ld,r0,t,i0,ri,b4.ld,ewI,hcall])
  .rw[if_neg e];have ewI: ¬((is i:Nat):Int)=((w:Nat):Int):=by omega
   have hi1:((i:Nat):Int)+((1:Nat):Int)=((i+1:Nat):Int):=by omega
   have hs:xL D n [.yieldTo A, .ptr A3 0, .ptr A4 0, .int .i64 ((i:Nat):Int)] H=some (.norm [.yieldTo A, .ptr A3 0, .ptr A4 0, .int .i64 ((i+1:Nat):Int)],H):=by
    simp(maxSteps:=999999)(disch:=omega) only[xL,eZ,b3.ld,r0,t,i0,ri,b4.ld,ewI,hi1]
   have:=ih (i+1) k (by omega) (by omega);rw[j5 hs];exact this
def ofR (is:Nat->Nat)(w nb ab:Nat):Option Nat:=if cnt is w nb=0 then none else fnd is w (nb - max (ab+1) 2) (max (ab+1) 2)
theorem zIB (D:Dyn)(n:Nat)(hn:10000<=n){H:AH}{A A3 A4 A5 As nb la w ab:Nat}{is:Nat->Nat}(b3:Box H A3 (.ptr As 0))(b4:Box H A4 (.int .u8 ((w:Nat):Int)))(b5:Box H A5 (.int .i64 ((ab:Nat):Int)))(sp:Spc H As nb la is)(hw:w<4)(hab:ab<nb)(hnb:2<=nb):
  match ofR is w nb ab with
   | none=>f207 D n [.yieldTo A, .ptr A3 0, .ptr A4 0, .ptr A5 0] H=some (.tuple [],H)
   | some j=> ∀H',callV [] D (.yieldTo A) [.int .i64 ((j:Nat):Int)] H=some (.bool false,H')->f207 D n [.yieldTo A, .ptr A3 0, .ptr A4 0, .ptr A5 0] H=some (.tuple [],H'):=by
 obtain⟨c,g,hl,c0,c1,hc,hn4,h1,h2,h4⟩:=id sp;have r1:ld1 (.ptr As (8194+w)) H=some (.int .i64 ((cnt is w nb:Nat):Int)):=jQ g (hn4 w hw);have i1:vX 4 1 (.ptr As 8194) (.int .u8 ((w:Nat):Int))=some (.ptr As (8194+w)):=wH 4 As 8194 .u8 w rfl hw;have hi1:((ab:Nat):Int)+((1:Nat):Int)=((ab+1:Nat):Int):=by omega
 have hm:=mx2S (ab+1) 2;obtain⟨i,hi⟩: ∃i,i=max (ab+1) 2:=⟨_,rfl⟩;rw[<-hi]at hm;have lp:=zLt D n (A:=A) b3 b4 sp (nb - i) i n (by omega) (by omega);simp only[ofR,<-hi];by_cases h0:cnt is w nb=0
 .rw[if_pos h0];have h0I:((cnt is w nb:Nat):Int)=((0:Nat):Int):=by omega
  simp(maxSteps:=999999)(disch:=omega) only[f207,eZ,b3.ld,b4.ld,i1,r1,h0I]
 .rw[if_neg h0];have h0I: ¬((cnt is w nb:Nat):Int)=((0:Nat):Int):=by omega
  cases hf:fnd is w (nb - i) i with
  | none=>
   rw[hf]at lp;simp only at lp⊢;simp(maxSteps:=999999)(disch:=omega) only[f207,eZ,b3.ld,b4.ld,i1,r1,h0I,b5.ld,hi1,hm,lp,zAt]
  | some j=>
   rw[hf]at lp;simp only at lp⊢;intro H' hcall;have lp':=lp H' hcall;simp(maxSteps:=999999)(disch:=omega) only[f207,eZ,b3.ld,b4.ld,i1,r1,h0I,b5.ld,hi1,hm,lp']
def lpT (A1 A2 A3:Nat):ALoop:=⟨.ready,none,195,0,[1,2,3],[.ptr A1 0, .ptr A2 0, .ptr A3 0]⟩
theorem zOf (m k:Nat){H:AH}{A A1 A2 A3:Nat}(gA:H.h.get A=some (.loop (lpT A1 A2 A3)))(az:List AV):callV [] (dy (m+1)) (.yieldTo A) az H=QA (dy m) m A (lpT A1 A2 A3) az H:=by
 show J3 (tabR (dy m) m) A az H=_;simp only[J3,gA];rfl
theorem zDD (D:Dyn)(n:Nat){H:AH}(hk:H.ok){A A1 A2 A3 As nb la j:Nat}{x y:AV}{is:Nat->Nat}(gA:H.h.get A=some (.loop (lpT A1 A2 A3)))(b1:Box H A1 (.ptr As 0))(b2:Box H A2 x)(b3:Box H A3 y)(sp:Spc H As nb la is)(hj:j<nb)(hj0:is j=0)
  (d1:A2≠A3) (d2:A2≠As) (d3:A3≠As) (d4:A1≠A2) (d5:A1≠A3):
  ∃H',QA D n A (lpT A1 A2 A3) [.int .i64 ((j:Nat):Int)] H=some (.bool false,H')/\H'.h.get A=some (.loop { lpT A1 A2 A3 with state:= .done,pending:=some .ret})/\Box H' A2 (.int .i64 ((j:Nat):Int))/\Box H' A3 (.int .i64 ((0:Nat):Int))/\Spc H' As nb j (QV is j 2)/\Stp (fun B=>B=A\/B=As\/B=A2\/B=A3) H H':=by
 obtain⟨c,gS,_⟩:=id sp;have nAs:As≠A:=fun e=>by rw[e,gA]at gS;cases gS
 have n1:A1≠A:=fun e=>by obtain⟨_,hb⟩:=b1;rw[e,gA]at hb;cases hb
 have n2:A2≠A:=fun e=>by obtain⟨_,hb⟩:=b2;rw[e,gA]at hb;cases hb
 have n3:A3≠A:=fun e=>by obtain⟨_,hb⟩:=b3;rw[e,gA]at hb;cases hb
 have nS1:A1≠As:=fun e=>by
  obtain⟨_,hb⟩:=b1;obtain⟨_,gS,hl,_⟩:=sp;rw[e,gS]at hb;simp only[zC,AObj.cells.injEq]at hb;rw[hb.1]at hl;simp at hl
 have h2:nb<=8192:=by obtain⟨_,_,_,_,_,_,_,h,_⟩:=sp;exact h
 have s1:Stp (fun B=>B=A) H (H.put A (.loop { lpT A1 A2 A3 with state:= .busy})):=(Stp.refl hk).put (hk.lt gA) _ (.inr rfl);have g1:(H.put A (.loop { lpT A1 A2 A3 with state:= .busy})).h.get A=some (.loop { lpT A1 A2 A3 with state:= .busy}):=by rw[AH.put_get,if_pos rfl]
 have hbeg: ∀K:AH->Rs,uD A H K=K (H.put A (.loop { lpT A1 A2 A3 with state:= .busy})):=fun K=>by
  simp only[uD,gA,lpT,yX]
 generalize H.put A (.loop { lpT A1 A2 A3 with state:= .busy})=H1 at s1 g1 hbeg;have b11:=b1.mono hk s1 n1;have sp1:=sp.stp hk s1 nAs;obtain⟨H2,e2,sp2,s2,n2'⟩:=V5 D n sp1 s1.ok hj hj0 (b:=2) (by omega) (by omega);have b12:=b11.mono s1.ok s2 nS1;obtain⟨H3,e3,sp3,s3,n3'⟩:=sp2.la' s2.ok (x:=j) (by omega);have b23:=((b2.mono hk s1 n2).mono s1.ok s2 d2).mono s2.ok s3 d2;obtain⟨H4,e4,b24,s4⟩:=b23.st s3.ok (x:= .int .i64 ((j:Nat):Int)) rfl;have b34:=(((b3.mono hk s1 n3).mono s1.ok s2 d3).mono s2.ok s3 d3).mono s3.ok s4 (fun e=>d1 e.symm);obtain⟨H5,e5,b35,s5⟩:=b34.st s4.ok (x:= .int .i64 ((0:Nat):Int)) rfl;have lA:=hk.lt gA;have N1:=s1.next;have N2:=s2.next;have N3:=s3.next;have N4:=s4.next;have N5:=s5.next
 have g5:H5.h.get A=some (.loop { lpT A1 A2 A3 with state:= .busy}):=by
  rw[s5.keep _ (by omega) (fun e=>n3 e.symm),s4.keep _ (by omega) (fun e=>n2 e.symm),s3.keep _ (by omega) (fun e=>nAs e.symm),s2.keep _ (by omega) (fun e=>nAs e.symm)];exact g1
 have s6:Stp (fun B=>B=A) H5 (H5.put A (.loop { lpT A1 A2 A3 with state:= .done,pending:=some .ret})):=(Stp.refl s5.ok).put (s5.ok.lt g5) _ (.inr rfl);have hend:U4 A (some .ret) H5=some (.bool false,H5.put A (.loop { lpT A1 A2 A3 with state:= .done,pending:=some .ret})):=by
  simp only[U4,g5,yX,lpT]
 have b25:=b24.mono s4.ok s5 d1;have sp5:=(sp3.stp s3.ok s4 (fun e=>d2 e.symm)).stp s4.ok s5 (fun e=>d3 e.symm);have r2:ld1 (.ptr A1 0) H2=some (.ptr As 0):=b12.ld;refine⟨_, ?_,by rw[AH.put_get,if_pos rfl],b25.mono s5.ok s6 n2,b35.mono s5.ok s6 n3,sp5.stp s5.ok s6 nAs,⟨s6.ok,by have:=s6.next;omega,fun B hB hS=> ?_⟩⟩
 .have hl:QN [1,2,3] (lpT A1 A2 A3).live=true:=rfl;have hvl:(lpT A1 A2 A3).vals=[.ptr A1 0, .ptr A2 0, .ptr A3 0]:=rfl;simp(maxSteps:=999999)(disch:=omega) only[QA,eZ,hl,hvl,cond_true,hbeg,b11.ld,e2,r2,e3,e4,e5];exact hend
 .have a1: ¬B=A:=fun e=>hS (.inl e)
  have a2: ¬B=As:=fun e=>hS (.inr (.inl e))
  have a3: ¬B=A2:=fun e=>hS (.inr (.inr (.inl e)))
  have a4: ¬B=A3:=fun e=>hS (.inr (.inr (.inr e)))
  rw[s6.keep B (by omega) a1,s5.keep B (by omega) a4,s4.keep B (by omega) a3,s3.keep B (by omega) a2,s2.keep B (by omega) a2,s1.keep B hB a1]
end Go.Eng.Sh
end
section
set_option maxRecDepth 20000
namespace Go.Eng.Sh
open Go.Bk
theorem take_one (m n:Nat)(hm:10000<=m){H:AH}(hk:H.ok){A1 A2 A3 As nb la ab:Nat}{x y:AV}{is:Nat->Nat}(b1:Box H A1 (.ptr As 0))(b2:Box H A2 x)(b3:Box H A3 y)(sp:Spc H As nb la is)(hab:ab<nb)(hnb:2<=nb)
  (d1:A2≠A3) (d2:A2≠As) (d3:A3≠As) (d4:A1≠A2) (d5:A1≠A3):
  match ofR is 0 nb ab with
  | none=> ∃H',(∀(Kn:AH->Rs) (Kx:AH->Nat->Rs) (Kr:AH->Rs),(bR (f168 (dy (m+2)) n [.ptr As 0, .int .u8 ((0:Nat):Int), .int .i64 ((ab:Nat):Int)] H) fun x19 H=>KR H (.loop ⟨.ready,none,195,0,[1,2,3],[.ptr A1 0, .ptr A2 0, .ptr A3 0]⟩) fun A H=>bR (rfC [(168,f168 (dy (m+2)) n),(86,f86 (dy (m+2)) n)] (dy (m+2)) x19 A H) fun _ H=>uZ A H fun j H=>zCQ j (Kn H) (Kx H) (Kr H))=Kn H')/\Prs H H'
  | some j=> ∃H',(∀(Kn:AH->Rs) (Kx:AH->Nat->Rs) (Kr:AH->Rs),(bR (f168 (dy (m+2)) n [.ptr As 0, .int .u8 ((0:Nat):Int), .int .i64 ((ab:Nat):Int)] H) fun x19 H=>KR H (.loop ⟨.ready,none,195,0,[1,2,3],[.ptr A1 0, .ptr A2 0, .ptr A3 0]⟩) fun A H=>bR (rfC [(168,f168 (dy (m+2)) n),(86,f86 (dy (m+2)) n)] (dy (m+2)) x19 A H) fun _ H=>uZ A H fun j H=>zCQ j (Kn H) (Kx H) (Kr H))=Kr H')/\Box H' A2 (.int .i64 ((j:Nat):Int))/\Box H' A3 (.int .i64 ((0:Nat):Int))/\Spc H' As nb j (QV is j 2)/\Stp (fun B=>B=As\/B=A2\/B=A3) H H':=by
 obtain⟨H1,A3',q1,p1,g1,m1,n1⟩:=box hk (.cells [.ptr As 0] 36 1 false);obtain⟨H2,A4',q2,p2,g2,m2,n2⟩:=box p1.ok (.cells [.int .u8 ((0:Nat):Int)] 141 1 false);obtain⟨H3,A5',q3,p3,g3,m3,n3⟩:=box p2.ok (.cells [.int .i64 ((ab:Nat):Int)] 3 1 false);have p4:Prs H3 (H3.push (.loop (lpT A1 A2 A3))):=(Stp.refl p3.ok).push _;have g4:(H3.push (.loop (lpT A1 A2 A3))).h.get H3.next=some (.loop (lpT A1 A2 A3)):=AH.push_get_eq _ _
 have hnew: ∀K:Nat->AH->Rs,KR H3 (.loop ⟨.ready,none,195,0,[1,2,3],[.ptr A1 0, .ptr A2 0, .ptr A3 0]⟩) K=K H3.next (H3.push (.loop (lpT A1 A2 A3))):=fun K=>WO p3.ok _ K
 generalize H3.push (.loop (lpT A1 A2 A3))=H4 at p4 g4 hnew;have P3:=(p1.trans p2).trans p3;have P4:=P3.trans p4;have N1:=p1.next;have N2:=p2.next;have N3:=p3.next;have N4:=p4.next
 have l1:=b1.lt hk;have l2:=b2.lt hk;have l3:=b3.lt hk;have lS:=sp.lt hk;have c3:Box H4 A3' (.ptr As 0):=⟨_,Prs.get ((p2.trans p3).trans p4) p1.ok g1⟩;have c4:Box H4 A4' (.int .u8 ((0:Nat):Int)):=⟨_,Prs.get (p3.trans p4) p2.ok g2⟩;have c5:Box H4 A5' (.int .i64 ((ab:Nat):Int)):=⟨_,Prs.get p4 p3.ok g3⟩;have sp4:=sp.stp hk P4 (fun x=>x);have hf:=zIB (dy (m+1)) (m+1) (by omega) (A:=H3.next) c3 c4 c5 sp4 (by omega) hab hnb
 have hf20:f168 (dy (m+2)) n [.ptr As 0, .int .u8 ((0:Nat):Int), .int .i64 ((ab:Nat):Int)] H=some (.func 207 [] [.ptr A3' 0, .ptr A4' 0, .ptr A5' 0],H3):=by
  simp only[f168,eZ,cbx,q1,q2,q3]
 cases hr:ofR is 0 nb ab with
 | none=>
  rw[hr]at hf;simp only at hf⊢;have s5:Stp (fun B=>B=H3.next) H4 (H4.put H3.next .dead):=(Stp.refl p4.ok).put (p4.ok.lt g4) _ (.inr rfl)
  have hend: ∀K:Option Code->AH->Rs,uZ H3.next H4 K=K none (H4.put H3.next .dead):=fun K=>by
   simp only[uZ,g4,lpT,yX]
  have hrf:rfC [(168,f168 (dy (m+2)) n),(86,f86 (dy (m+2)) n)] (dy (m+2)) (.func 207 [] [.ptr A3' 0, .ptr A4' 0, .ptr A5' 0]) H3.next H4=some (.tuple [],H4):=hf
  refine⟨_,fun Kn Kx Kr=> ?_,P4.fresh s5 fun B hB=>by omega⟩;simp only[hf20,bR,hnew,hrf,hend,zCQ]
 | some j=>
  rw[hr]at hf;simp only at hf⊢;have hj:j<nb/\is j=0:=by
   simp only[ofR]at hr;split at hr
   .cases hr
   .obtain⟨h1,h2,h3⟩:=Y7 hr;exact⟨by omega,h3⟩
  obtain⟨H5,e5,g5,b25,b35,sp5,s5⟩:=zDD (dy m) m P4.ok g4 (b1.mono hk P4 (fun x=>x)) (b2.mono hk P4 (fun x=>x)) (b3.mono hk P4 (fun x=>x)) sp4 hj.1 hj.2 d1 d2 d3 d4 d5;have hcall:=hf H5 ((zOf m (m+1) g4 _).trans e5);have hrf:rfC [(168,f168 (dy (m+2)) n),(86,f86 (dy (m+2)) n)] (dy (m+2)) (.func 207 [] [.ptr A3' 0, .ptr A4' 0, .ptr A5' 0]) H3.next H4=some (.tuple [],H5):=hcall
  have s6:Stp (fun B=>B=H3.next) H5 (H5.put H3.next .dead):=(Stp.refl s5.ok).put (s5.ok.lt g5) _ (.inr rfl)
  have hend: ∀K:Option Code->AH->Rs,uZ H3.next H5 K=K (some .ret) (H5.put H3.next .dead):=fun K=>by
   simp only[uZ,g5,lpT,yX]
  have N5:=s5.next;have N6:=s6.next
  refine⟨_,fun Kn Kx Kr=> ?_,b25.mono s5.ok s6 (by omega),b35.mono s5.ok s6 (by omega),sp5.stp s5.ok s6 (by omega),⟨s6.ok,by omega,fun B hB hS=> ?_⟩⟩
  .simp only[hf20,bR,hnew,hrf,hend,zCQ]
  .have a1: ¬B=As:=fun e=>hS (.inl e)
   have a2: ¬B=A2:=fun e=>hS (.inr (.inl e))
   have a3: ¬B=A3:=fun e=>hS (.inr (.inr e))
   rw[s6.keep B (by omega) (by omega),s5.keep B (by omega) (fun e=>by rcases e with e | e | e | e<;>omega),P4.keep B hB (fun x=>x)]
theorem zIb (m n:Nat)(hm:10000<=m)(hn:100<=n){H:AH}(hk:H.ok){As nb la:Nat}{is:Nat->Nat}(sp:Spc H As nb la is)(hla:la<nb)(hnb:2<=nb)(h0:is 0≠0)(h1:is 1≠0)(hf:0<cnt is 0 nb):
  ∃H' j,f195 (dy (m+2)) n [.ptr As 0] H=some (.tuple [.int .i64 ((j:Nat):Int), .int .i64 ((0:Nat):Int)],H')/\2<=j/\j<nb/\is j=0/\Spc H' As nb j (QV is j 2)/\Stp (fun B=>B=As) H H':=by
 obtain⟨c,g,hl,c0,c1,hc,hn4,q1,q2,q3⟩:=id sp;obtain⟨H1,A1,b1,p1,g1,m1,n1⟩:=box hk (.cells [.ptr As 0] 36 1 false);obtain⟨H2,A2,b2,p2,g2,m2,n2⟩:=box p1.ok (.cells [.int .i64 ((0:Nat):Int)] 3 1 false);obtain⟨H3,A3,b3,p3,g3,m3,n3⟩:=box p2.ok (.cells [.int .i64 ((0:Nat):Int)] 32 1 false);have P3:=(p1.trans p2).trans p3;have N1:=p1.next;have N2:=p2.next;have N3:=p3.next
 have lS:=sp.lt hk;have sp3:=sp.stp hk P3 (fun x=>x);have x1:Box H3 A1 (.ptr As 0):=⟨_,Prs.get (p2.trans p3) p1.ok g1⟩;have x2:Box H3 A2 (.int .i64 ((0:Nat):Int)):=⟨_,Prs.get p3 p2.ok g2⟩;have x3:Box H3 A3 (.int .i64 ((0:Nat):Int)):=⟨_,g3⟩;have rl:ld1 (.ptr As 1) H3=some (.int .i64 ((la:Nat):Int)):=by
  obtain⟨c',g',_,_,c1',_⟩:=sp3;exact jQ g' c1'
 have hbl:zKE 1 [.int .i64 ((0:Nat):Int), .int .i64 ((0:Nat):Int)] [(0, .int .i64 ((la:Nat):Int)),(1, .int .i64 ((0:Nat):Int))]=some (.agg [.int .i64 ((la:Nat):Int), .int .i64 ((0:Nat):Int)]):=rfl;have i0:zBD 2 1 (.agg [.int .i64 ((la:Nat):Int), .int .i64 ((0:Nat):Int)]) (.int .i64 ((0:Nat):Int))=some (.int .i64 ((la:Nat):Int)):=rfl;have i1:zBD 2 1 (.agg [.int .i64 ((la:Nat):Int), .int .i64 ((0:Nat):Int)]) (.int .i64 ((1:Nat):Int))=some (.int .i64 ((0:Nat):Int)):=rfl;have t0:((0:Nat):Int)< ((2:Nat):Int):=by omega
 have t1:((1:Nat):Int)< ((2:Nat):Int):=by omega
 have a01:((0:Nat):Int)+((1:Nat):Int)=((1:Nat):Int):=by omega
 obtain⟨k,rfl⟩: ∃k,n=k+1+1:=⟨n - 2,by omega⟩;have o1:=take_one m (k+1+1) hm P3.ok x1 x2 x3 sp3 hla hnb (by omega) (by omega) (by omega) (by omega) (by omega)
 cases hr:ofR is 0 nb la with
 | some j=>
  rw[hr]at o1;simp only at o1;obtain⟨H4,e4,y2,y3,sp4,s4⟩:=o1;have hj:2<=j/\j<nb/\is j=0:=by
   simp only[ofR]at hr;split at hr
   .cases hr
   .obtain⟨h1,h2,h3⟩:=Y7 hr;exact⟨by omega,by omega,h3⟩
  refine⟨H4,j, ?_,hj.1,hj.2.1,hj.2.2,sp4,⟨s4.ok,by have:=s4.next;omega,fun B hB hS=> ?_⟩⟩
  .have l0:fO (dy (m+2)) (k+1+1) [.ptr A1 0, .ptr A2 0, .ptr A3 0, .agg [.int .i64 ((la:Nat):Int), .int .i64 ((0:Nat):Int)], .int .i64 ((0:Nat):Int)] H3=some (.ret (.tuple [.int .i64 ((j:Nat):Int), .int .i64 ((0:Nat):Int)]),H4):=by
    simp(maxSteps:=999999)(disch:=omega) only[fO,eZ,t0,i0,x1.ld,e4,y2.ld,y3.ld]
   simp(maxSteps:=999999)(disch:=omega) only[f195,eZ,cbx,cq,b1,b2,b3,x1.ld,rl,hbl,cT l0]
  .rw[s4.keep B (by omega) (fun e=>by rcases e with e | e | e<;>first | omega | exact hS e),P3.keep B hB (fun x=>x)]
 | none=>
  rw[hr]at o1;simp only at o1;obtain⟨H4,e4,p4⟩:=o1;have N4:=p4.next
  have o2:=take_one m (k+1+1) hm p4.ok (x1.mono P3.ok p4 (fun x=>x)) (x2.mono P3.ok p4 (fun x=>x)) (x3.mono P3.ok p4 (fun x=>x)) (sp3.stp P3.ok p4 (fun x=>x)) (ab:=0) (by omega) hnb (by omega) (by omega) (by omega) (by omega) (by omega)
  cases hr2:ofR is 0 nb 0 with
  | none=>
   exfalso;simp only[ofR]at hr2;rw[if_neg (by omega)]at hr2;obtain⟨i,hi,hi0⟩:=zKC hf;have:i≠0/\i≠1:=⟨fun e=>h0 (e▸hi0),fun e=>h1 (e▸hi0)⟩;exact zCW hr2 i (by omega) (by omega) hi0
  | some j=>
   rw[hr2]at o2;simp only at o2;obtain⟨H5,e5,y2,y3,sp5,s5⟩:=o2;have hj:2<=j/\j<nb/\is j=0:=by
    simp only[ofR]at hr2;split at hr2
    .cases hr2
    .obtain⟨h1,h2,h3⟩:=Y7 hr2;exact⟨by omega,by omega,h3⟩
   refine⟨H5,j, ?_,hj.1,hj.2.1,hj.2.2,sp5,⟨s5.ok,by have:=s5.next;omega,fun B hB hS=> ?_⟩⟩
   .have l0:fO (dy (m+2)) (k+1+1) [.ptr A1 0, .ptr A2 0, .ptr A3 0, .agg [.int .i64 ((la:Nat):Int), .int .i64 ((0:Nat):Int)], .int .i64 ((0:Nat):Int)] H3=some (.norm [.ptr A1 0, .ptr A2 0, .ptr A3 0, .agg [.int .i64 ((la:Nat):Int), .int .i64 ((0:Nat):Int)], .int .i64 ((1:Nat):Int)],H4):=by
     simp(maxSteps:=999999)(disch:=omega) only[fO,eZ,t0,i0,x1.ld,e4,a01]
    have l1:fO (dy (m+2)) (k+1+1) [.ptr A1 0, .ptr A2 0, .ptr A3 0, .agg [.int .i64 ((la:Nat):Int), .int .i64 ((0:Nat):Int)], .int .i64 ((1:Nat):Int)] H4=some (.ret (.tuple [.int .i64 ((j:Nat):Int), .int .i64 ((0:Nat):Int)]),H5):=by
     simp(maxSteps:=999999)(disch:=omega) only[fO,eZ,t1,i1,(x1.mono P3.ok p4 (fun x=>x)).ld,e5,y2.ld,y3.ld]
    simp(maxSteps:=999999)(disch:=omega) only[f195,eZ,cbx,cq,b1,b2,b3,x1.ld,rl,hbl,j5 l0,cT l1]
   .rw[s5.keep B (by omega) (fun e=>by rcases e with e | e | e<;>first | omega | exact hS e),p4.keep B (by omega) (fun x=>x),P3.keep B hB (fun x=>x)]
end Go.Eng.Sh
end
section
set_option maxRecDepth 20000
namespace Go.Bk
def zB9 (is:Nat->Nat)(w b i nb:Nat):Nat->Nat:=fun j=>if i<=j/\j<nb/\is j=w then b else is j
theorem zJJ {is:Nat->Nat}{w b i nb:Nat}(hwb:w≠b)(hi:i<nb)(h:is i=w):zB9 (QV is i b) w b (i+1) nb=zB9 is w b i nb:=by
 funext j;simp only[zB9];by_cases e:j=i
 .subst e;rw[vF,if_neg (by omega),if_pos ⟨Nat.le_refl _,hi,h⟩]
 .rw[vG e];by_cases h1:i+1<=j/\j<nb/\is j=w
  .rw[if_pos h1,if_pos ⟨by omega,h1.2⟩]
  .rw[if_neg h1,if_neg fun h2=>h1 ⟨by omega,h2.2⟩]
theorem zHC {is:Nat->Nat}{w b i nb:Nat}(h:is i≠w):zB9 is w b (i+1) nb=zB9 is w b i nb:=by
 funext j;simp only[zB9];by_cases e:j=i
 .subst e;rw[if_neg (by omega),if_neg fun h2=>h h2.2.2]
 .by_cases h1:i+1<=j/\j<nb/\is j=w
  .rw[if_pos h1,if_pos ⟨by omega,h1.2⟩]
  .rw[if_neg h1,if_neg fun h2=>h1 ⟨by omega,h2.2⟩]
theorem zJK (is:Nat->Nat)(w b nb:Nat):zB9 is w b nb nb=is:=by
 funext j;simp only[zB9];rw[if_neg (by omega)]
theorem zHB {is:Nat->Nat}{w b i nb:Nat}(h:cnt is w nb=0):zB9 is w b i nb=is:=by
 funext j;simp only[zB9];rw[if_neg fun h2=>by have:=zHd h2.2.1 h2.2.2;omega]
def zK2 (is:Nat->Nat)(nb:Nat):Nat->Nat:=zB9 (zB9 is 3 0 2 nb) 2 1 2 nb
end Go.Bk
namespace Go.Eng.Sh
open Go.Bk
def lpA (A3 A5:Nat):ALoop:=⟨.ready,none,117,0,[3,5],[.ptr A3 0, .ptr A5 0]⟩
theorem zOh (m k:Nat){H:AH}{A A3 A5:Nat}(gA:H.h.get A=some (.loop (lpA A3 A5)))(az:List AV):callV [] (dy (m+1)) (.yieldTo A) az H=QB (dy m) m A (lpA A3 A5) az H:=by
 show J3 (tabR (dy m) m) A az H=_;simp only[J3,gA];rfl
theorem Spc.nbox {H:AH}{As nb la A1:Nat}{x:AV}{is:Nat->Nat}(sp:Spc H As nb la is)(b1:Box H A1 x):A1≠As:=fun e=>by
 obtain⟨_,hb⟩:=b1;obtain⟨_,gS,hl,_⟩:=sp;rw[e,gS]at hb;simp only[zC,AObj.cells.injEq]at hb;rw[hb.1]at hl;simp at hl
theorem zHA (D:Dyn)(n:Nat){H:AH}(hk:H.ok){A A3 A5 As nb la j w b:Nat}{is:Nat->Nat}(gA:H.h.get A=some (.loop (lpA A3 A5)))(b3:Box H A3 (.ptr As 0))(b5:Box H A5 (.int .u8 ((b:Nat):Int)))(sp:Spc H As nb la is)(hj:j<nb)(hj0:is j=w)(hwb:w≠b)(hb:b<4):
  ∃H',QB D n A (lpA A3 A5) [.int .i64 ((j:Nat):Int)] H=some (.bool true,H')/\H'.h.get A=some (.loop (lpA A3 A5))/\Spc H' As nb la (QV is j b)/\Stp (fun B=>B=A\/B=As) H H':=by
 obtain⟨c,gS,_⟩:=id sp;have nAs:As≠A:=fun e=>by rw[e,gA]at gS;cases gS
 have n3:A3≠A:=fun e=>by obtain⟨_,hb⟩:=b3;rw[e,gA]at hb;cases hb
 have n5:A5≠A:=fun e=>by obtain⟨_,hb⟩:=b5;rw[e,gA]at hb;cases hb
 have s1:Stp (fun B=>B=A) H (H.put A (.loop { lpA A3 A5 with state:= .busy})):=(Stp.refl hk).put (hk.lt gA) _ (.inr rfl);have g1:(H.put A (.loop { lpA A3 A5 with state:= .busy})).h.get A=some (.loop { lpA A3 A5 with state:= .busy}):=by rw[AH.put_get,if_pos rfl]
 have hbeg: ∀K:AH->Rs,uD A H K=K (H.put A (.loop { lpA A3 A5 with state:= .busy})):=fun K=>by
  simp only[uD,gA,lpA,yX]
 generalize H.put A (.loop { lpA A3 A5 with state:= .busy})=H1 at s1 g1 hbeg;have sp1:=sp.stp hk s1 nAs;obtain⟨H2,e2,sp2,s2,n2'⟩:=V5 D n sp1 s1.ok hj hj0 hb hwb;have lA:=hk.lt gA;have N1:=s1.next;have N2:=s2.next
 have g2:H2.h.get A=some (.loop { lpA A3 A5 with state:= .busy}):=by rw[s2.keep _ (by omega) (fun e=>nAs e.symm)];exact g1
 have s6:Stp (fun B=>B=A) H2 (H2.put A (.loop (lpA A3 A5))):=(Stp.refl s2.ok).put (s2.ok.lt g2) _ (.inr rfl);have hend:U4 A none H2=some (.bool true,H2.put A (.loop (lpA A3 A5))):=by
  simp only[U4,g2,yX,lpA]
 refine⟨_, ?_,by rw[AH.put_get,if_pos rfl],sp2.stp s2.ok s6 nAs,⟨s6.ok,by have:=s6.next;omega,fun B hB hS=> ?_⟩⟩
 .have hl:QN [3,5] (lpA A3 A5).live=true:=rfl;have hvl:(lpA A3 A5).vals=[.ptr A3 0, .ptr A5 0]:=rfl;simp(maxSteps:=999999)(disch:=omega) only[QB,eZ,hl,hvl,cond_true,hbeg,(b3.mono hk s1 n3).ld,(b5.mono hk s1 n5).ld,e2];exact hend
 .have a1: ¬B=A:=fun e=>hS (.inl e)
  have a2: ¬B=As:=fun e=>hS (.inr e)
  rw[s6.keep B (by omega) a1,s2.keep B (by omega) a2,s1.keep B hB a1]
theorem zJI (m:Nat){A A3 A5 C3 C4 As nb la w b:Nat}(hwb:w≠b)(hb:b<4)(hnb:nb<=8192):
  ∀d i k (is:Nat->Nat) (H:AH),H.ok->i+d=nb->d<k->H.h.get A=some (.loop (lpA A3 A5))->Box H A3 (.ptr As 0)->Box H A5 (.int .u8 ((b:Nat):Int))->Box H C3 (.ptr As 0)->Box H C4 (.int .u8 ((w:Nat):Int))->Spc H As nb la is->
   ∃H',yJ k (xL (dy (m+1)) (m+1)) [.yieldTo A, .ptr C3 0, .ptr C4 0, .int .i64 ((i:Nat):Int)] H=some (.exit 0 [],H')/\H'.h.get A=some (.loop (lpA A3 A5))/\Spc H' As nb la (zB9 is w b i nb)/\Stp (fun B=>B=A\/B=As) H H':=by
 intro d
 induction d with
 | zero=>
  intro i k is H hk hi hk' gA b3 b5 c3 c4 sp;obtain⟨k,rfl⟩: ∃k',k=k'+1:=⟨k - 1,by omega⟩;obtain⟨c,g,hl,c0,c1,hc,hn,h1,h2,h4⟩:=id sp;have r0:ld1 (.ptr As 0) H=some (.int .i64 ((nb:Nat):Int)):=jQ g c0;have t: ¬((i:Nat):Int)< ((nb:Nat):Int):=by omega
  have hi':i=nb:=by omega
  refine⟨H,y9 (by simp(maxSteps:=999999)(disch:=omega) only[xL,eZ,c3.ld,r0,t]),gA,by rw[hi',zJK];exact sp,Stp.refl hk⟩
 | succ d ih=>
  intro i k is H hk hi hk' gA b3 b5 c3 c4 sp;obtain⟨k,rfl⟩: ∃k',k=k'+1:=⟨k - 1,by omega⟩;obtain⟨c,g,hl,c0,c1,hc,hn,h1,h2,h4⟩:=id sp;have r0:ld1 (.ptr As 0) H=some (.int .i64 ((nb:Nat):Int)):=jQ g c0;have t:((i:Nat):Int)< ((nb:Nat):Int):=by omega
  have i0:vX 8192 1 (.ptr As 2) (.int .i64 ((i:Nat):Int))=some (.ptr As (2+i)):=wH 8192 As 2 .i64 i rfl (by omega);have ri:ld1 (.ptr As (2+i)) H=some (.int .u8 ((is i:Nat):Int)):=jQ g (hc i (by omega));have hi1:((i:Nat):Int)+((1:Nat):Int)=((i+1:Nat):Int):=by omega
  by_cases e:is i=w
  .obtain⟨H1,e1,g1,sp1,s1⟩:=zHA (dy m) m hk gA b3 b5 sp (j:=i) (by omega) e hwb hb;have n3:A3≠A:=fun e=>by obtain⟨_,hb⟩:=b3;rw[e,gA]at hb;cases hb
   have n5:A5≠A:=fun e=>by obtain⟨_,hb⟩:=b5;rw[e,gA]at hb;cases hb
   have m3:C3≠A:=fun e=>by obtain⟨_,hb⟩:=c3;rw[e,gA]at hb;cases hb
   have m4:C4≠A:=fun e=>by obtain⟨_,hb⟩:=c4;rw[e,gA]at hb;cases hb
   have st: ∀ {Bx:Nat} {x:AV},Box H Bx x->Bx≠A->Box H1 Bx x:=fun {Bx x} hb hne=>hb.mono hk s1 fun e=>by
    rcases e with e | e
    .exact hne e
    .exact sp.nbox hb e
   obtain⟨H2,e2,g2,sp2,s2⟩:=ih (i+1) k (QV is i b) H1 s1.ok (by omega) (by omega) g1 (st b3 n3) (st b5 n5) (st c3 m3) (st c4 m4) sp1;rw[zJJ hwb (by omega) e]at sp2;have ewI:((is i:Nat):Int)=((w:Nat):Int):=by omega
   have hs:xL (dy (m+1)) (m+1) [.yieldTo A, .ptr C3 0, .ptr C4 0, .int .i64 ((i:Nat):Int)] H=some (.norm [.yieldTo A, .ptr C3 0, .ptr C4 0, .int .i64 ((i+1:Nat):Int)],H1):=by
    simp(maxSteps:=999999)(disch:=omega) only[xL,eZ,c3.ld,r0,t,i0,ri,c4.ld,ewI,hi1,zOh m (m+1) gA,e1]
   exact⟨H2,by rw[j5 hs];exact e2,g2,sp2,s1.trans s2⟩
  .have ewI: ¬((is i:Nat):Int)=((w:Nat):Int):=by omega
   have hs:xL (dy (m+1)) (m+1) [.yieldTo A, .ptr C3 0, .ptr C4 0, .int .i64 ((i:Nat):Int)] H=some (.norm [.yieldTo A, .ptr C3 0, .ptr C4 0, .int .i64 ((i+1:Nat):Int)],H):=by
    simp(maxSteps:=999999)(disch:=omega) only[xL,eZ,c3.ld,r0,t,i0,ri,c4.ld,ewI,hi1]
   obtain⟨H2,e2,g2,sp2,s2⟩:=ih (i+1) k is H hk (by omega) (by omega) gA b3 b5 c3 c4 sp;rw[zHC e]at sp2;exact⟨H2,by rw[j5 hs];exact e2,g2,sp2,s2⟩
theorem zF1 (m n:Nat)(hm:10000<=m){H:AH}(hk:H.ok){As nb la w b:Nat}{is:Nat->Nat}(sp:Spc H As nb la is)(hnb:2<=nb)(hw:w<4)(hb:b<4)(hwb:w≠b):
  ∃H',f117 (dy (m+2)) n [.ptr As 0, .int .u8 ((w:Nat):Int), .int .u8 ((b:Nat):Int)] H=some (.tuple [],H')/\Spc H' As nb la (zB9 is w b 2 nb)/\Stp (fun B=>B=As) H H':=by
 obtain⟨c,g,hl,c0,c1,hc,hn4,q1,q2,q3⟩:=id sp;obtain⟨H1,A3,b1,p1,g1,m1,n1⟩:=box hk (.cells [.ptr As 0] 36 1 false);obtain⟨H2,A5,b2,p2,g2,m2,n2⟩:=box p1.ok (.cells [.int .u8 ((b:Nat):Int)] 141 1 false);have P2:=p1.trans p2;obtain⟨H3,C3,b3,p3,g3,m3,n3⟩:=box P2.ok (.cells [.ptr As 0] 36 1 false);obtain⟨H4,C4,b4,p4,g4,m4,n4⟩:=box p3.ok (.cells [.int .u8 ((w:Nat):Int)] 141 1 false);obtain⟨H5,C5,b5,p5,g5,m5,n5⟩:=box p4.ok (.cells [.int .i64 ((0:Nat):Int)] 3 1 false);have p6:Prs H5 (H5.push (.loop (lpA A3 A5))):=(Stp.refl p5.ok).push _;have g6:(H5.push (.loop (lpA A3 A5))).h.get H5.next=some (.loop (lpA A3 A5)):=AH.push_get_eq _ _
 have hnew: ∀K:Nat->AH->Rs,KR H5 (.loop ⟨.ready,none,117,0,[3,5],[.ptr A3 0, .ptr A5 0]⟩) K=K H5.next (H5.push (.loop (lpA A3 A5))):=fun K=>WO p5.ok _ K
 generalize H5.push (.loop (lpA A3 A5))=H6 at p6 g6 hnew;have P5:=((P2.trans p3).trans p4).trans p5;have P6:=P5.trans p6;have N1:=p1.next;have N2:=p2.next;have N3:=p3.next;have N4:=p4.next;have N5:=p5.next;have N6:=p6.next
 have lS:=sp.lt hk;have x3:Box H2 A3 (.ptr As 0):=⟨_,Prs.get p2 p1.ok g1⟩;have y3:Box H6 A3 (.ptr As 0):=⟨_,Prs.get ((((p2.trans p3).trans p4).trans p5).trans p6) p1.ok g1⟩;have y5:Box H6 A5 (.int .u8 ((b:Nat):Int)):=⟨_,Prs.get (((p3.trans p4).trans p5).trans p6) p2.ok g2⟩;have z3:Box H6 C3 (.ptr As 0):=⟨_,Prs.get ((p4.trans p5).trans p6) p3.ok g3⟩;have z4:Box H6 C4 (.int .u8 ((w:Nat):Int)):=⟨_,Prs.get (p5.trans p6) p4.ok g4⟩;have z5:Box H6 C5 (.int .i64 ((0:Nat):Int)):=⟨_,Prs.get p6 p5.ok g5⟩;have sp6:=sp.stp hk P6 (fun x=>x);have hf20:f168 (dy (m+2)) n [.ptr As 0, .int .u8 ((w:Nat):Int), .int .i64 ((0:Nat):Int)] H2=some (.func 207 [] [.ptr C3 0, .ptr C4 0, .ptr C5 0],H5):=by
  simp only[f168,eZ,cbx,b3,b4,b5]
 have run: ∃H7,f207 (dy (m+1)) (m+1) [.yieldTo H5.next, .ptr C3 0, .ptr C4 0, .ptr C5 0] H6=some (.tuple [],H7)/\H7.h.get H5.next=some (.loop (lpA A3 A5))/\Spc H7 As nb la (zB9 is w b 2 nb)/\Stp (fun B=>B=H5.next\/B=As) H6 H7:=by
  have r1:ld1 (.ptr As (8194+w)) H6=some (.int .i64 ((cnt is w nb:Nat):Int)):=by
   obtain⟨c',g',_,_,_,_,hn',_⟩:=sp6;exact jQ g' (hn' w hw)
  have i1:vX 4 1 (.ptr As 8194) (.int .u8 ((w:Nat):Int))=some (.ptr As (8194+w)):=wH 4 As 8194 .u8 w rfl hw;by_cases h0:cnt is w nb=0
  .have h0I:((cnt is w nb:Nat):Int)=((0:Nat):Int):=by omega
   refine⟨H6, ?_,g6,by rw[zHB h0];exact sp6,Stp.refl p6.ok⟩;simp(maxSteps:=999999)(disch:=omega) only[f207,eZ,z3.ld,z4.ld,i1,r1,h0I]
  .have h0I: ¬((cnt is w nb:Nat):Int)=((0:Nat):Int):=by omega
   obtain⟨H7,e7,g7,sp7,s7⟩:=zJI m hwb hb q1 (nb - 2) 2 (m+1) is H6 p6.ok (by omega) (by omega) g6 y3 y5 z3 z4 sp6;refine⟨H7, ?_,g7,sp7,s7⟩;have hmx:mx2 (.int .i64 ((1:Nat):Int)) (.int .i64 ((2:Nat):Int))=some (.int .i64 ((2:Nat):Int)):=rfl;have h01:((0:Nat):Int)+((1:Nat):Int)=((1:Nat):Int):=by omega
   simp(maxSteps:=999999)(disch:=omega) only[f207,eZ,z3.ld,z4.ld,i1,r1,h0I,z5.ld,h01,hmx,e7,zAt]
 obtain⟨H7,e7,g7,sp7,s7⟩:=run;have s8:Stp (fun B=>B=H5.next) H7 (H7.put H5.next .dead):=(Stp.refl s7.ok).put (s7.ok.lt g7) _ (.inr rfl)
 have hend: ∀K:Option Code->AH->Rs,uZ H5.next H7 K=K none (H7.put H5.next .dead):=fun K=>by
  simp only[uZ,g7,lpA,yX]
 have hrf:rfC [(168,f168 (dy (m+2)) n),(86,f86 (dy (m+2)) n)] (dy (m+2)) (.func 207 [] [.ptr C3 0, .ptr C4 0, .ptr C5 0]) H5.next H6=some (.tuple [],H7):=e7
 have N7:=s7.next;have N8:=s8.next
 refine⟨_, ?_,sp7.stp s7.ok s8 (by omega),⟨s8.ok,by omega,fun B hB hS=> ?_⟩⟩
 .simp(maxSteps:=999999)(disch:=omega) only[f117,eZ,cbx,b1,b2,x3.ld,hf20,hnew,hrf,hend,zCQ]
 .rw[s8.keep B (by omega) (by omega),s7.keep B (by omega) (fun e=>by rcases e with e | e;omega;exact hS e),P6.keep B hB (fun x=>x)]
theorem zEV (m n:Nat)(hm:10000<=m){H:AH}(hk:H.ok){As nb la:Nat}{is:Nat->Nat}(sp:Spc H As nb la is)(hnb:2<=nb):
  ∃H',f71 (dy (m+2)) n [.ptr As 0] H=some (.tuple [],H')/\Spc H' As nb la (zK2 is nb)/\Stp (fun B=>B=As) H H':=by
 obtain⟨H1,e1,sp1,s1⟩:=zF1 m n hm hk sp hnb (w:=3) (b:=0) (by omega) (by omega) (by omega);obtain⟨H2,e2,sp2,s2⟩:=zF1 m n hm s1.ok sp1 hnb (w:=2) (b:=1) (by omega) (by omega) (by omega);refine⟨H2, ?_,sp2,s1.trans s2⟩;simp(maxSteps:=999999)(disch:=omega) only[f71,eZ,cq,e1,e2,zIY]
end Go.Eng.Sh
end
section
set_option maxRecDepth 20000
namespace Go.Eng.Sh
open Go.Nd (Ptr Str)
open Go.Bk
theorem zOj (D:Dyn)(n:Nat)(hn:1000<=n){H:AH}(hk:H.ok)(kind:UInt8){at_ birth:Nat}(ha:1<=at_)(ha2:at_<8192)(hb:birth<=2147483647){body:Str}(hl:body.length<=500):
  ∃H',f196 D n [.int .i64 ((at_:Nat):Int), .agg (qW (sealB kind birth body))] H=some (.tuple [.agg (y7 (u4 at_ birth (sealB kind birth body))), .int .i64 ((0:Nat):Int)],H')/\Prs H H':=by
 obtain⟨B,hB⟩: ∃B,B=sealB kind birth body:=⟨_,rfl⟩;have hBl:=sealB_len (kind:=kind) (birth:=birth) hl;rw[<-hB]at hBl;obtain⟨H1,A3,b1,p1,g1,m1,n1⟩:=box hk (.cells (qW B) 55 1 false);obtain⟨H2,A4,b2,p2,g2,m2,n2⟩:=box p1.ok (.cells [.int .i64 ((0:Nat):Int), .int .i64 ((0:Nat):Int), .int .u64 ((0:Nat):Int)] 42 1 false);have g12:=Prs.get p2 p1.ok g1;obtain⟨H3,e3,p3⟩:=zFt D n hn p2.ok kind hb hl;rw[<-hB]at e3⊢;obtain⟨H4,e4,p4⟩:=zHm D n hn p3.ok hBl;have g24:=Prs.get (p3.trans p4) p2.ok g2;have g13:=Prs.get p3 p2.ok g12;obtain⟨H5,e5,g5,s5,n5⟩:=yD p4.ok g24 (l':=y7 (u4 at_ birth B)) rfl rfl;have e5':stN 3 (.ptr A4 0) (.agg (y7 (u4 at_ birth B))) H4=some (qZ,H5):=e5;have r3:=ldR g12 hBl;have r33:=ldR g13 hBl;have r5:ldN 3 (.ptr A4 0) H5=some (.agg (y7 (u4 at_ birth B))):=k7 g5 rfl;have t00: ¬(((0:Nat):Int)≠((0:Nat):Int)):=by omega
 have t1: ¬((at_:Nat):Int)< ((1:Nat):Int):=by omega
 have t2: ¬((8192:Nat):Int)<=((at_:Nat):Int):=by omega
 have hbl:xH [(0,1),(1,1),(2,1)] [.int .i64 ((0:Nat):Int), .int .i64 ((0:Nat):Int), .int .u64 ((0:Nat):Int)] [(0, .int .i64 ((at_:Nat):Int)),(1, .int .i64 ((birth:Nat):Int)),(2, .int .u64 ((W6 B:Nat):Int))]=some (.agg (y7 (u4 at_ birth B))):=rfl;have N2:=p2.next;have N3:=p3.next;have N4:=p4.next
 refine⟨H5, ?_,(((p1.trans p2).trans p3).trans p4).fresh s5 fun B hB=>by omega⟩;simp(maxSteps:=999999)(disch:=omega) only[f196,eZ,b1,b2,r3,e3,qX,nth,t00,t1,t2,r33,e4,hbl,e5',r5]
structure Wr (E:Ev)(H:AH)(Aw As At M Ad:Nat)(c:AV)(txg left la:Nat)(is:Nat->Nat)(root:Ptr)(es:List (AV×AV))(q:PN)(last:Nat)(dr:AV)(Z P:Nat->Prop):Prop where
 ti:TI E H At M (.ptr Ad 0) c root es q last dr
 sp:Spc H As E.nb la is
 few:E.ws.length+cnt is 0 E.nb<=990000
 gw: ∃On Nw wv ds tv ov nt tl ol,DkI H Ad E.nb E.ws On Nw wv ds/\H.h.get Aw=some (.cells [.ptr At 0, .ptr As 0, .int .i64 ((txg:Nat):Int), .int .i64 ((left:Nat):Int),tv,ov] 198 1 false)/\Own 1 3 H tv nt tl/\Own 513 202 H ov nt ol/\nt<=E.ws.length/\(∀B,Z B↔B=Aw\/B=As\/B=Ad\/B=Nw\/Blk wv B\/Blk tv B\/Blk ov B)/\ ¬Z On
 pr: ∀B,P B-> ¬Z B
 pa: ∀B,P B↔B=At\/B=M\/Blk dr B\/ ∃kv∈es,wN kv.2 B
 bd:2<=la\/la=0
 nb:64<=E.nb/\E.nb<=8192/\la<E.nb
 s0:is 0≠0/\is 1≠0
 lf:left<=1000000000
theorem Wr.lt {E:Ev}{H:AH}{Aw As At M Ad:Nat}{c:AV}{txg left la:Nat}{is:Nat->Nat}{root:Ptr}{es:List (AV×AV)}{q:PN}{last:Nat}{dr:AV}{Z P:Nat->Prop}(w:Wr E H Aw As At M Ad c txg left la is root es q last dr Z P): ∀B,Z B->B<H.next:=by
 obtain⟨On,Nw,wv,ds,tv,ov,nt,tl,ol,dk,gw,ot,oo,_,hZ,_⟩:=w.gw;have hk:=w.ti.ok;intro B hB;rcases(hZ B).1 hB with rfl | rfl | rfl | rfl | e | e | e
 .exact hk.lt gw
 .exact w.sp.lt hk
 .exact hk.lt dk.gD
 .exact hk.lt dk.gN
 .exact Own.lt dk.ow e
 .exact Own.lt ot e
 .exact Own.lt oo e
theorem Wr.prs {E:Ev}{H H':AH}{Aw As At M Ad:Nat}{c:AV}{txg left la:Nat}{is:Nat->Nat}{root:Ptr}{es:List (AV×AV)}{q:PN}{last:Nat}{dr:AV}{Z P:Nat->Prop}(w:Wr E H Aw As At M Ad c txg left la is root es q last dr Z P)(s:Prs H H'):Wr E H' Aw As At M Ad c txg left la is root es q last dr Z P:=by
 obtain⟨On,Nw,wv,ds,tv,ov,nt,tl,ol,dk,gw,ot,oo,hn,hZ,hO⟩:=w.gw;exact⟨w.ti.prs s,w.sp.stp w.ti.ok s fun x=>x,w.few,⟨On,Nw,wv,ds,tv,ov,nt,tl,ol,dk.prs w.ti.ok s,Prs.get s w.ti.ok gw,ot.mono s fun _ _ x=>x,oo.mono s fun _ _ x=>x,hn,hZ,hO⟩,w.pr,w.pa,w.bd,w.nb,w.s0,w.lf⟩
theorem TI.wr {E:Ev}{H H':AH}{At M Ad:Nat}{root:Ptr}{es:List (AV×AV)}{q:PN}{last:Nat}{dr:AV}{Z:Nat->Prop}(ti:TI E H At M (.ptr Ad 0) .nilPtr root es q last dr)(s:Stp Z H H')(hZ: ∀B,(B=At\/B=M\/Blk dr B\/ ∃kv∈es,wN kv.2 B)-> ¬Z B){ws:Ws}{On Nw:Nat}{wv:AV}{ds:List (AV×AV)}(dk:DkI H' Ad E.nb ws On Nw wv ds):TI { E with ws:=ws} H' At M (.ptr Ad 0) .nilPtr root es q last dr:=
 ⟨s.ok,by rw[s.keep _ (ti.ok.lt ti.gT) (hZ _ (.inl rfl))];exact ti.gT,by rw[s.keep _ (ti.ok.lt ti.gM) (hZ _ (.inr (.inl rfl)))];exact ti.gM,ti.pq.frame fun kv hkv nd hn=>hn.stp s fun A hA=>hZ _ (.inr (.inr (.inr ⟨kv,hkv,hA⟩))),⟨_,_,_,_,_,rfl,dk⟩, .inl rfl,ti.dg.mono s fun A hA=>hZ _ (.inr (.inr (.inl hA))),ti.ds,ti.few⟩
end Go.Eng.Sh
end
section
set_option maxRecDepth 20000
namespace Go.Eng.Sh
open Go.Nd (Ptr Str)
open Go.Bk
theorem xG.old {H:AH} : ∀ {es:List (AV×AV)} {q:PN},xG H es q-> ∀kv∈es,∀B,wN kv.2 B->B<H.next
 | [],[],_=>fun _ h=>by simp at h
 | (k,v)::es,(s,nd)::q,h=>fun kv hkv B hB=>by
  rcases List.mem_cons.1 hkv with rfl | hkv
  .exact h.1.2.lt hB
  .exact xG.old h.2 kv hkv B hB
 | [],_::_,h=>h.elim
 | _::_,[],h=>h.elim
theorem Wr.old {E:Ev}{H:AH}{Aw As At M Ad:Nat}{c:AV}{txg left la:Nat}{is:Nat->Nat}{root:Ptr}{es:List (AV×AV)}{q:PN}{last:Nat}{dr:AV}{Z P:Nat->Prop}(w:Wr E H Aw As At M Ad c txg left la is root es q last dr Z P): ∀B,P B->B<H.next:=fun B hB=>by
 rcases(w.pa B).1 hB with rfl | rfl | e | ⟨kv,hkv,e⟩
 .exact w.ti.ok.lt w.ti.gT
 .exact w.ti.ok.lt w.ti.gM
 .exact w.ti.dg.lt e
 .exact w.ti.pq.old kv hkv B e
theorem Spc.bk {H:AH}{A nb la:Nat}{is:Nat->Nat}(h:Spc H A nb la is): ∃c,H.h.get A=some (.cells c 145 1 false):=by
 obtain⟨c,g,_⟩:=h;exact⟨c,g⟩
theorem yB {H:AH}{A B:Nat}{o p:AObj}(h:H.h.get A=some o)(k:H.h.get B=some p)(e:o≠p):A≠B:=fun x=>by
 rw[x,k]at h;exact e (Option.some.inj h).symm
theorem zKK (m n:Nat)(hm:10000<=m)(hn:1000<=n){E:Ev}{H:AH}{Aw As At M Ad:Nat}{txg left la:Nat}{is:Nat->Nat}{root:Ptr}{es:List (AV×AV)}{q:PN}{last:Nat}{dr:AV}{Z P:Nat->Prop}(w:Wr E H Aw As At M Ad .nilPtr txg left la is root es q last dr Z P)
  (kind:UInt8) {birth:Nat} (hb:birth<=2147483647) {body:Str} (hl:body.length<=500) (hf:0<cnt is 0 E.nb):
  ∃H' j Z',zKv (dy (m+2)) n [.ptr Aw 0, .agg (qW (sealB kind birth body))] H=some (.tuple [.agg (y7 (u4 j birth (sealB kind birth body))), .int .i64 ((0:Nat):Int)],H')/\2<=j/\j<E.nb/\is j=0/\
   Wr { E with ws:=E.ws++[(j,sealB kind birth body)] } H' Aw As At M Ad .nilPtr txg left j (QV is j 2) root es q last dr Z' P/\AdT Z H Z' H':=by
 obtain⟨b,hB⟩: ∃b,b=sealB kind birth body:=⟨_,rfl⟩;have hBl:=sealB_len (kind:=kind) (birth:=birth) hl;rw[<-hB]at hBl;obtain⟨On,Nw,wv,ds,tv,ov,nt,tl,ol,dk,gw,ot,oo,hnt,hZ,hO⟩:=w.gw;have hk:=w.ti.ok;obtain⟨sc,gS⟩:=w.sp.bk;obtain⟨nb1,nb2,nb3⟩:=w.nb;have dAS:Aw≠As:=fun e=>by
  obtain⟨c,g,l8,_⟩:=w.sp;rw[<-e,gw]at g;simp only[zC,AObj.cells.injEq]at g;rw[<-g.1]at l8;simp at l8
 have dAD:Aw≠Ad:=yB gw dk.gD (by simp);have dAN:Aw≠Nw:=yB gw dk.gN (by simp);have dAO:Aw≠On:=yB gw dk.gO (by simp);have dAw: ¬Blk wv Aw:=fun h=>yB gw (dk.ow.get h) (by simp) rfl
 have dAt: ¬Blk tv Aw:=fun h=>yB gw (Own.get ot h) (by simp) rfl
 have dAo: ¬Blk ov Aw:=fun h=>yB gw (Own.get oo h) (by simp) rfl
 have dSD:As≠Ad:=yB gS dk.gD (by simp);have dSN:As≠Nw:=yB gS dk.gN (by simp);have dSO:As≠On:=yB gS dk.gO (by simp);have dSw: ¬Blk wv As:=fun h=>yB gS (dk.ow.get h) (by simp) rfl
 have dSt: ¬Blk tv As:=fun h=>yB gS (Own.get ot h) (by simp) rfl
 have dSo: ¬Blk ov As:=fun h=>yB gS (Own.get oo h) (by simp) rfl
 have dDt: ¬Blk tv Ad:=fun h=>yB dk.gD (Own.get ot h) (by simp) rfl
 have dDo: ¬Blk ov Ad:=fun h=>yB dk.gD (Own.get oo h) (by simp) rfl
 have dNt: ¬Blk tv Nw:=fun h=>yB dk.gN (Own.get ot h) (by simp) rfl
 have dNo: ¬Blk ov Nw:=fun h=>yB dk.gN (Own.get oo h) (by simp) rfl
 have dOt: ¬Blk tv On:=fun h=>yB dk.gO (Own.get ot h) (by simp) rfl
 have dOo: ¬Blk ov On:=fun h=>yB dk.gO (Own.get oo h) (by simp) rfl
 have dwt: ∀B,Blk wv B-> ¬Blk tv B:=fun B h k=>yB (dk.ow.get h) (Own.get ot k) (by simp) rfl
 have dwo: ∀B,Blk wv B-> ¬Blk ov B:=fun B h k=>yB (dk.ow.get h) (Own.get oo k) (by simp) rfl
 have dto: ∀B,Blk tv B-> ¬Blk ov B:=fun B h k=>yB (Own.get ot h) (Own.get oo k) (by simp) rfl
 have zA:Z Aw:=(hZ Aw).2 (.inl rfl);have zS:Z As:=(hZ As).2 (.inr (.inl rfl));have zD:Z Ad:=(hZ Ad).2 (.inr (.inr (.inl rfl)));have zN:Z Nw:=(hZ Nw).2 (.inr (.inr (.inr (.inl rfl))));have zw: ∀B,Blk wv B->Z B:=fun B h=>(hZ B).2 (.inr (.inr (.inr (.inr (.inl h)))))
 have zt: ∀B,Blk tv B->Z B:=fun B h=>(hZ B).2 (.inr (.inr (.inr (.inr (.inr (.inl h))))))
 have zo: ∀B,Blk ov B->Z B:=fun B h=>(hZ B).2 (.inr (.inr (.inr (.inr (.inr (.inr h))))))
 obtain⟨H1,A3,b1,p1,g1,m1,n1⟩:=box hk (.cells (qW b) 55 1 false);obtain⟨H2,A4,b2,p2,g2,m2,n2⟩:=box p1.ok (.cells [.int .i64 ((0:Nat):Int), .int .i64 ((0:Nat):Int), .int .u64 ((0:Nat):Int)] 42 1 false);have P2:=p1.trans p2;have N1:=p1.next;have N2:=p2.next
 have zl:=w.lt;obtain⟨H3,j,e3,j2,jn,j0,sp3,s3⟩:=zIb m n hm (by omega) p2.ok (w.sp.stp hk P2 (fun x=>x)) nb3 (by omega) w.s0.1 w.s0.2 hf;have N3:=s3.next
 have up3: ∀ {A:Nat} {o:AObj},H.h.get A=some o->A≠As->H3.h.get A=some o:=fun {A o} g h=>by
  rw[s3.keep A (by have:=hk.lt g;omega) h];exact Prs.get P2 hk g
 have gw3:=up3 gw dAS;have ot3:Own 1 3 H3 tv nt tl:=(ot.mono P2 fun _ _ x=>x).mono s3 fun B hB e=>dSt (e▸hB)
 obtain⟨H4,A5,b4,p4,g4,m4,n4⟩:=box s3.ok (.cells [.int .i64 ((j:Nat):Int)] 3 1 false);have N4:=p4.next
 have hsrc4:srcOf 1 (.slice A5 0 1 2) H4=some (1,[.int .i64 ((j:Nat):Int)]):=by simp only[srcOf,g4];rfl
 have few:=w.few;have hfw:=dk.few;obtain⟨H5,e5,ot5,s5,n5⟩:=xA (bytes:=8) (m:=1) p4.ok (by decide) (ot3.mono p4 fun _ _ x=>x) hsrc4 rfl rfl (by omega) (by omega) (by decide);have N5:=s5.next
 have gw4:=Prs.get p4 s3.ok gw3;have gw5:H5.h.get Aw=_:=(s5.keep _ (by have:=hk.lt gw;omega) dAt).trans gw4;obtain⟨H6,e6,g6,s6,n6⟩:=kJ s5.ok gw5 (o:=4) (x:= .slice H4.next 0 (nt+1) 1) rfl (by simp)
 have N6:=s6.next
 have st6: ∀ {A:Nat} {o:AObj},H.h.get A=some o->A≠As->A≠Aw-> ¬Blk tv A->H6.h.get A=some o:=fun {A o} g h1 h2 h3=>by
  have:=hk.lt g;rw[s6.keep A (by omega) h2,s5.keep A (by omega) h3];exact Prs.get p4 s3.ok (up3 g h1)
 have dk6:DkI H6 Ad E.nb E.ws On Nw wv ds:=by
  refine⟨st6 dk.gD dSD.symm dAD.symm dDt,st6 dk.gO dSO.symm dAO.symm dOt,st6 dk.gN dSN.symm dAN.symm dNt, ?_,dk.nw,dk.ln,dk.few,dk.ne⟩;exact((((dk.ow.mono P2 fun _ _ x=>x).mono s3 fun B hB e=>dSw (e▸hB)).mono p4 fun _ _ x=>x).mono s5 fun B hB k=>dwt B hB k).mono s6 fun B hB e=>dAw (e▸hB)
 obtain⟨H7,wv',ds',e7,dk7,s7,bw7⟩:=zE5 (dy (m+2)) n s6.ok dk6 jn hBl (by omega);have N7:=s7.next
 have gw6:H6.h.get Aw=_:=g6;have gw7:H7.h.get Aw=_:=(s7.keep _ (by have:=hk.lt gw;omega) (fun e=>by rcases e with e | e | e;exact dAD e;exact dAN e;exact dAw e)).trans gw6;obtain⟨Z0,hZ0⟩: ∃Z0:Str,Z0=List.replicate 512 0:=⟨_,rfl⟩;have hzr:rep 512 [AV.int .u8 ((0:Nat):Int)]=qW Z0:=by rw[d8,hZ0]
 have hZl:(qW Z0).length=512:=by rw[y8,hZ0];exact List.length_replicate
 have hbv:(qW b).length=512:=by rw[y8,hBl]
 obtain⟨q1,q2⟩:=zHn 202 (x:= .int .i64 ((j:Nat):Int)) (c:= .int .i64 ((0:Nat):Int)) hZl hbv rfl;obtain⟨H8,A6,b8,p8,g8,m8,n8⟩:=box s7.ok (.cells (.int .i64 ((j:Nat):Int)::qW b) 202 513 false);have N8:=p8.next
 have hsrc8:srcOf 513 (.slice A6 0 1 2) H8=some (1,wV (j,b)):=by
  have hln:xW (AV.int .i64 ((j:Nat):Int)::qW b) 0 (1*513)=some (wV (j,b)):=by
   rw[yS _ _ _ (.inr (by simp[hbv])),List.drop_zero,zO (by simp[hbv])];rfl
  simp only[srcOf,g8,hln]
 have oo6:Own 513 202 H6 ov nt ol:=((((oo.mono P2 fun _ _ x=>x).mono s3 fun B hB e=>dSo (e▸hB)).mono p4 fun _ _ x=>x).mono s5 fun B hB k=>dto B k hB).mono s6 fun B hB e=>dAo (e▸hB)
 have oo7:Own 513 202 H7 ov nt ol:=oo6.mono s7 fun B hB e=>by
  rcases e with e | e | e
  .exact dDo (e▸hB)
  .exact dNo (e▸hB)
  .exact dwo B e hB
 have hac:qY (wV (j,b))=true:=by
  have:=bytesV_cells b;simp only[wV,qY,this];rfl
 obtain⟨H9,e9,oo9,s9,n9⟩:=xA (bytes:=520) (m:=1) p8.ok (by decide) (oo7.mono p8 fun _ _ x=>x) hsrc8 (by rw[zCf hBl]) hac (by omega) (by omega) (by decide);have N9:=s9.next
 have gw9:H9.h.get Aw=_:=(s9.keep _ (by have:=hk.lt gw;omega) dAo).trans (Prs.get p8 s7.ok gw7);obtain⟨H10,e10,g10,s10,n10⟩:=kJ s9.ok gw9 (o:=5) (x:= .slice H8.next 0 (nt+1) 1) rfl (by simp)
 have N10:=s10.next
 obtain⟨H11,e11,p11⟩:=zOj (dy (m+2)) n hn s10.ok kind (at_:=j) (by omega) (by omega) hb hl;rw[<-hB]at e11;have N11:=p11.next
 have upB: ∀ {A:Nat} {o:AObj},H2.h.get A=some o->H.next<=A->H6.h.get A=some o:=fun {A o} g h=>by
  have:=p2.ok.lt g;rw[s6.keep A (by omega) (by have:=hk.lt gw;omega),s5.keep A (by omega) (fun hB=>by have:=Own.lt ot hB;omega),p4.keep A (by omega) (fun x=>x),s3.keep A (by omega) (by have:=hk.lt gS;omega)];exact g
 have g36:=upB (Prs.get p2 p1.ok g1) (by omega);have g46:=upB g2 (by omega);have z6: ∀B,(B=Ad\/B=Nw\/Blk wv B)->B<H.next:=fun B hB=>by
  rcases hB with e | e | e
  .exact zl B (e▸zD)
  .exact zl B (e▸zN)
  .exact zl B (zw B e)
 have upC: ∀ {A:Nat} {o:AObj},H6.h.get A=some o->H.next<=A->A<H3.next->H10.h.get A=some o:=fun {A o} g h h3=>by
  rw[s10.keep A (by omega) (by have:=hk.lt gw;omega),s9.keep A (by omega) (fun hB=>by have:=Own.lt oo hB;omega),p8.keep A (by omega) (fun x=>x),s7.keep A (by omega) (fun hB=>by have:=z6 A hB;omega)];exact g
 have g310:=upC g36 (by omega) (by omega);have g411:=Prs.get p11 s10.ok (upC g46 (by omega) (by omega));obtain⟨H12,e12,g12,s12,n12⟩:=yD p11.ok g411 (l':=y7 (u4 j birth b)) rfl rfl;have e12':stN 3 (.ptr A4 0) (.agg (y7 (u4 j birth b))) H11=some (qZ,H12):=e12;have N12:=s12.next
 have r12:ldN 3 (.ptr A4 0) H12=some (.agg (y7 (u4 j birth b))):=k7 g12 rfl;have r36:=ldR g36 hBl;have g38:H9.h.get A3=some (.cells (qW b) 55 1 false):=by
  rw[<-s10.keep A3 (by omega) (by have:=hk.lt gw;omega)];exact g310
 have g37:H7.h.get A3=some (.cells (qW b) 55 1 false):=by
  rw[s7.keep A3 (by omega) (fun hB=>by have:=z6 A3 hB;omega)];exact g36
 have r310:=ldR g310 hBl;have r37:=ldR g37 hBl;have gw2:=Prs.get P2 hk gw;have w1:Eng.ld1 (.ptr Aw 1) H2=some (.ptr As 0):=by rw[qV gw2];rfl
 have w4:Eng.ld1 (.ptr Aw 4) H3=some tv:=by rw[qV gw3];rfl
 have w0:Eng.ld1 (.ptr Aw 0) H6=some (.ptr At 0):=by rw[qV gw6];rfl
 have w5:Eng.ld1 (.ptr Aw 5) H7=some ov:=by rw[qV gw7];rfl
 have pAt:P At:=(w.pa At).2 (.inl rfl);have gT6:H6.h.get At=_:=st6 w.ti.gT (fun e=>w.pr At pAt (e▸zS)) (fun e=>w.pr At pAt (e▸zA)) (fun e=>w.pr At pAt (zt At e));have wT:Eng.ld1 (.ptr At 0) H6=some (.ptr Ad 0):=by rw[qV gT6];rfl
 have t00: ¬(((0:Nat):Int)≠((0:Nat):Int)):=by omega
 refine⟨H12,j,fun B=>B=Aw\/B=As\/B=Ad\/B=Nw\/Blk wv' B\/Blk (.slice H4.next 0 (nt+1) 1) B\/Blk (.slice H8.next 0 (nt+1) 1) B, ?_,j2,jn,j0, ?_, ?_⟩
 .rw[<-hB];simp(maxSteps:=999999)(disch:=omega) only[zKv,eZ,b1,b2,w1,e3,qX,nth,t00,w4,zK4 3 (.int .i64 ((0:Nat):Int)) (show isCell (.int .i64 ((j:Nat):Int))=true from rfl),b4,e5,e6,w0,wT,r36,e7,w5,r37,hzr,List.cons_append,List.nil_append,q1,q2,b8,e9,e10,r310,e11,e12',r12]
 ·
  have lAw:=hk.lt gw;have lAs:=hk.lt gS;have dk12:DkI H12 Ad E.nb (E.ws++[(j,sealB kind birth body)]) On Nw wv' ds':=by
   rw[<-hB];have lD:=zl Ad zD;have lN:=zl Nw zN;have lO:=hk.lt dk.gO;refine((((dk7.prs s7.ok p8).stp p8.ok s9 dDo dOo dNo fun B hb hx=> ?_).stp s9.ok s10 dAD.symm dAO.symm dAN.symm fun B hb hx=> ?_).prs s10.ok p11).stp p11.ok s12 (by omega) (by omega) (by omega) fun B hb hx=> ?_
   .rcases bw7 B hb with x | x
    .exact dwo B x hx
    .have:=Own.lt oo hx;omega
   .rcases bw7 B hb with x | x
    .exact dAw (hx▸x)
    .omega
   .rcases bw7 B hb with x | x
    .have:=zl B (zw B x);omega
    .omega
  have st:Stp Z H H12:=⟨s12.ok,by omega,fun B hB hS=>by
   have a1:B≠Aw:=fun e=>hS (e▸zA)
   have a2:B≠As:=fun e=>hS (e▸zS)
   rw[s12.keep B (by omega) (by omega),p11.keep B (by omega) (fun x=>x),s10.keep B (by omega) a1,s9.keep B (by omega) (fun h=>hS (zo B h)),p8.keep B (by omega) (fun x=>x),s7.keep B (by omega) (fun h=>by rcases h with e | e | e;exact hS (e▸zD);exact hS (e▸zN);exact hS (zw B e)),s6.keep B (by omega) a1,s5.keep B (by omega) (fun h=>hS (zt B h)),p4.keep B (by omega) (fun x=>x),s3.keep B (by omega) a2,P2.keep B hB (fun x=>x)]⟩
  obtain⟨k1,k2⟩:=(UA (b:=2) j0 (by omega) (n:=E.nb)).1 jn;refine⟨w.ti.wr st (fun B hB=>w.pr B ((w.pa B).2 hB)) dk12, ?_, ?_,⟨On,Nw,wv',ds',_,_,nt+1,tl++[.int .i64 ((j:Nat):Int)],ol++wV (j,b),dk12, ?_, ?_, ?_, ?_,fun B=>Iff.rfl, ?_⟩,fun B hB hx=> ?_,w.pa, .inl j2,⟨nb1,nb2,jn⟩, ?_,w.lf⟩
  .refine((((((((sp3.stp s3.ok p4 fun x=>x).stp p4.ok s5 dSt).stp s5.ok s6 dAS.symm).stp s6.ok s7 fun e=> ?_).stp s7.ok p8 fun x=>x).stp p8.ok s9 dSo).stp s9.ok s10 dAS.symm).stp s10.ok p11 fun x=>x).stp p11.ok s12 (by omega);rcases e with e | e | e
   .exact dSD e
   .exact dSN e
   .exact dSw e
  .simp only[zM,qO];omega
  .rw[s12.keep Aw (by omega) (by omega)];exact Prs.get p11 s10.ok g10
  .refine((((((ot5.mono s6 fun B hb e=> ?_).mono s7 fun B hb e=> ?_).mono p8 fun _ _ x=>x).mono s9 fun B hb e=> ?_).mono s10 fun B hb e=> ?_).mono p11 fun _ _ x=>x).mono s12 fun B hb e=> ?_
   all_goals rw[Blk.slice.1 hb]at e
   .omega
   .have:=z6 _ e;omega
   .have:=Own.lt oo e;omega
   .omega
   .omega
  .refine((oo9.mono s10 fun B hb e=> ?_).mono p11 fun _ _ x=>x).mono s12 fun B hb e=> ?_
   all_goals rw[Blk.slice.1 hb]at e;omega
  .simp only[zM,qO];omega
  .intro h;have lO:=hk.lt dk.gO;rcases h with e | e | e | e | e | e | e
   .exact dAO e.symm
   .exact dSO e.symm
   .exact hO (e▸zD)
   .exact dk.ne e
   .rcases bw7 On e with x | x
    .exact hO (zw On x)
    .omega
   .rw[Blk.slice.1 e]at lO;omega
   .rw[Blk.slice.1 e]at lO;omega
  .have lP:=w.old B hB;have hn:=w.pr B hB;rcases hx with e | e | e | e | e | e | e
   .exact hn (e▸zA)
   .exact hn (e▸zS)
   .exact hn (e▸zD)
   .exact hn (e▸zN)
   .rcases bw7 B e with x | x
    .exact hn (zw B x)
    .omega
   .rw[Blk.slice.1 e]at lP;omega
   .rw[Blk.slice.1 e]at lP;omega
  .rw[vG (by omega),vG (by omega)];exact w.s0
 .refine⟨⟨s12.ok,by omega,fun B hB hS=> ?_⟩,fun B hx=> ?_⟩
  .have a1:B≠Aw:=fun e=>hS (e▸zA)
   have a2:B≠As:=fun e=>hS (e▸zS)
   rw[s12.keep B (by omega) (by omega),p11.keep B (by omega) (fun x=>x),s10.keep B (by omega) a1,s9.keep B (by omega) (fun h=>hS (zo B h)),p8.keep B (by omega) (fun x=>x),s7.keep B (by omega) (fun h=>by rcases h with e | e | e;exact hS (e▸zD);exact hS (e▸zN);exact hS (zw B e)),s6.keep B (by omega) a1,s5.keep B (by omega) (fun h=>hS (zt B h)),p4.keep B (by omega) (fun x=>x),s3.keep B (by omega) a2,P2.keep B hB (fun x=>x)]
  .rcases hx with e | e | e | e | e | e | e
   .exact .inl (e▸zA)
   .exact .inl (e▸zS)
   .exact .inl (e▸zD)
   .exact .inl (e▸zN)
   .rcases bw7 B e with x | x
    .exact .inl (zw B x)
    .exact .inr (by omega)
   .rw[Blk.slice.1 e];exact .inr (by omega)
   .rw[Blk.slice.1 e];exact .inr (by omega)
end Go.Eng.Sh
end
section
set_option maxRecDepth 20000
namespace Go.Eng.Sh
open Go.Nd (Ptr Str)
open Go.Bk Go.Bt
def cp (l:List Ptr):Nat:=(l.filter fun p=>decide (p.at_=1)).length
theorem zHb:cp []=0:=rfl
theorem bZ (p:Ptr)(l:List Ptr):cp (p::l)=(if p.at_=1 then 1 else 0)+cp l:=by
 by_cases e:p.at_=1
 .simp[cp,e];omega
 .simp[cp,e]
theorem QP (a b:List Ptr):cp (a++b)=cp a+cp b:=by simp[cp,List.filter_append]
theorem zJc (p:Ptr)(l:List Ptr):dsk (p::l)=if p.at_=1 then dsk l else p::dsk l:=by
 by_cases e:p.at_=1<;>simp[dsk,e]
theorem K1 {p:Ptr}{l:List Ptr} :p∈dsk l↔p∈l/\p.at_≠1:=by simp[dsk]
theorem Ev.K_keep {E:Ev}{ws':Ws}{r:Ptr}{nd:Nd.Node}(h:E.K r=some nd)(hb:blkAt r.at_.toNat ws'=blkAt r.at_.toNat E.ws):Ev.K { E with ws:=ws'} r=some nd:=by
 obtain⟨a,birth,kind,body,rfl,h1,h2,h3,h4,h5,h6,h7,h8⟩:=Ev.K_iff.1 h;refine Ev.K_iff.2 ⟨a,birth,kind,body,rfl,h1,h2,h3,h4,h5, ?_,h7,h8⟩;have e:(u4 a birth (sealB kind birth body)).at_.toNat=a:=by simp[u4]
 rw[e]at hb;exact hb.trans h6
structure WOut (nb:Nat)(ws ws':Ws)(is is':Nat->Nat)(T T':List Ptr):Prop where
 pm: ∃news,T'.Perm (dsk T++news)/\news.Nodup/\news.length=cp T/\ ∀r∈news,2<=r.at_/\is r.at_.toNat=0/\is' r.at_.toNat≠0
 up: ∀i,is' i=is i\/(is i=0/\is' i=2)
 ct:cnt is' 0 nb+cp T=cnt is 0 nb
 bk: ∀a,is a≠0->blkAt a ws'=blkAt a ws
 ln:ws'.length=ws.length+cp T
theorem WOut.nil (nb:Nat)(ws:Ws)(is:Nat->Nat){T:List Ptr}(h: ∀r∈T,r.at_≠1):WOut nb ws ws is is T T:=by
 have e:dsk T=T:=List.filter_eq_self.2 fun p hp=>by simpa using h p hp
 have c:cp T=0:=by
  rw[cp,List.length_eq_zero_iff];exact List.filter_eq_nil_iff.2 fun p hp=>by simpa using h p hp
 exact⟨⟨[],by simp[e],by simp,by rw[c];rfl,by simp⟩,fun _=> .inl rfl,by omega,fun _ _=>rfl,by omega⟩
theorem WOut.nz {nb:Nat}{ws ws':Ws}{is is':Nat->Nat}{T T':List Ptr}(w:WOut nb ws ws' is is' T T'){a:Nat}(h:is a≠0):is' a≠0:=by
 rcases w.up a with e | ⟨e,_⟩<;>omega
theorem WOut.used {nb:Nat}{ws ws':Ws}{is is':Nat->Nat}{T T':List Ptr}(w:WOut nb ws ws' is is' T T')(h: ∀r∈T,r.at_≠1->is r.at_.toNat≠0): ∀r∈T',r.at_≠1/\is' r.at_.toNat≠0:=fun r hr=>by
 obtain⟨news,p,_,_,hn⟩:=w.pm;rcases List.mem_append.1 (p.mem_iff.1 hr)with e | e
 .obtain⟨e1,e2⟩:=K1.1 e;exact⟨e2,w.nz (h r e1 e2)⟩
 .obtain⟨h1,_,h3⟩:=hn r e;exact⟨by omega,h3⟩
theorem WOut.app {nb:Nat}{ws ws1 ws2:Ws}{is is1 is2:Nat->Nat}{T T' U U':List Ptr}(w:WOut nb ws ws1 is is1 T T')(v:WOut nb ws1 ws2 is1 is2 U U'):WOut nb ws ws2 is is2 (T++U) (T'++U'):=by
 obtain⟨n1,p1,d1,l1,h1⟩:=w.pm;obtain⟨n2,p2,d2,l2,h2⟩:=v.pm;refine⟨⟨n1++n2, ?_, ?_,by rw[QP,zM,l1,l2],fun r hr=> ?_⟩,fun i=> ?_, ?_,fun a ha=> ?_, ?_⟩
 .rw[zC2];refine(p1.append p2).trans ?_;rw[List.perm_iff_count];intro a;simp only[List.count_append];omega
 .refine List.nodup_append.2 ⟨d1,d2,fun a ha b hb e=> ?_⟩;subst e;exact(h1 a ha).2.2 (h2 a hb).2.1
 .rcases List.mem_append.1 hr with e | e
  .obtain⟨a1,a2,a3⟩:=h1 r e;exact⟨a1,a2,v.nz a3⟩
  .obtain⟨a1,a2,a3⟩:=h2 r e;refine⟨a1, ?_,a3⟩;rcases w.up r.at_.toNat with x | ⟨x,y⟩
   .omega
   .exact x
 .rcases w.up i with a | ⟨a,b⟩<;>rcases v.up i with c | ⟨c,d⟩
  .exact .inl (by omega)
  .exact .inr ⟨by omega,d⟩
  .exact .inr ⟨a,by omega⟩
  .omega
 .have:=w.ct;have:=v.ct;rw[QP];omega
 .rw[v.bk a (w.nz ha),w.bk a ha]
 .have:=w.ln;have:=v.ln;rw[QP];omega
theorem WOut.put {nb:Nat}{ws ws1:Ws}{is is1:Nat->Nat}{S S':List Ptr}(w:WOut nb ws ws1 is is1 S S'){s j birth:Nat}{b:Str}(j2:2<=j)(jn:j<nb)(j0:is1 j=0):WOut nb ws (ws1++[(j,b)]) is (QV is1 j 2) (pp s::S) (u4 j birth b::S'):=by
 have h1:WOut nb ws1 (ws1++[(j,b)]) is1 (QV is1 j 2) [pp s] [u4 j birth b]:=by
  obtain⟨k1,k2⟩:=(UA (b:=2) j0 (by omega) (n:=nb)).1 jn;refine⟨⟨[u4 j birth b],by simp[dsk,pp],by simp,by simp[cp,pp],fun r hr=> ?_⟩,fun i=> ?_, ?_,fun a ha=> ?_,by simp[cp,pp]⟩
  .obtain rfl:r=u4 j birth b:=by simpa using hr
   have:(u4 j birth b).at_.toNat=j:=by simp[u4]
   rw[this,vF];exact⟨by simp[u4];omega,j0,by omega⟩
  .by_cases e:i=j
   .subst e;exact .inr ⟨j0,vF ..⟩
   .exact .inl (vG e)
  .simp only[cp,pp,decide_true,List.filter_cons_of_pos,List.filter_nil,qO];omega
  .rw[Q4,if_neg (fun e:j=a=>ha (by rw[<-e];exact j0))]
 have h2:=w.app h1;refine⟨?_,h2.up, ?_,h2.bk, ?_⟩
 .obtain⟨news,a,b,c,d⟩:=h2.pm;refine⟨news, ?_,b, ?_,d⟩
  .have e1:(u4 j birth ‹_› ::S').Perm (S'++[u4 j birth ‹_›]):=(List.perm_append_singleton _ _).symm;refine e1.trans (a.trans ?_);rw[zC2,zJc];simp[dsk,pp]
  .rw[c,QP,bZ];simp[pp,cp,Nat.add_comm]
 .have:=h2.ct;rw[QP]at this;rw[bZ];simp only[bZ,zHb]at this;omega
 .have:=h2.ln;rw[QP]at this;rw[bZ];simp only[bZ,zHb]at this;omega
def WN (h:Nat)(t:Bt.Tr h):Prop:=(∃lo hi,WF h lo hi t)\/WR h t
theorem WN.gen {h:Nat}{t:Bt.Tr h}(w:WN h t): ∃lo hi,Gen h lo hi t:=by
 rcases w with⟨lo,hi,w⟩ | w
 .exact⟨lo,hi,w.gen⟩
 .exact⟨none,none,w.gen⟩
theorem WN.sz {h:Nat}{t:Bt.Tr h}(w:WN h t):jD h t<=500:=by
 rcases w with⟨lo,hi,w⟩ | w
 .exact w.sz
 .exact w.sz
theorem WN.ne {h:Nat}{t:Bt.Tr (h+1)}(w:WN (h+1) t):t.1≠[]:=by
 rcases w with⟨lo,hi,w⟩ | w
 .exact w.2.1
 .exact w.2.1
theorem WN.kid {h:Nat}{t:Bt.Tr (h+1)}(w:WN (h+1) t){x:Bt.Tr h}(hx:x∈t.2):WN h x:=by
 obtain⟨i,hi,rfl⟩:=qU hx;rcases w with⟨lo,hi',w⟩ | w
 .exact .inl ⟨_,_,w.1.2.2.at (zG hi)⟩
 .exact .inl ⟨_,_,w.1.2.2.at (zG hi)⟩
end Go.Eng.Sh
end
section
set_option maxRecDepth 20000
namespace Go.Eng
theorem rowSt {H:AH}(hk:H.ok){A e k i N cc:Nat}{l1 l2 x:List AV}{g:Bool}(h:H.h.get A=some (.cells (l1++l2) e k g))(h1:l1.length=i*k)(hk0:0<k)(h2:k<=l2.length)(hx:x.length=k)(hc:qY x=true)(hi:i<N):
  ∃H',(∀κ (z:Int),z=(i:Int)->dK k (.slice A 0 N cc) (.int κ z)=some (.ptr A (i*k)))/\stN k (.ptr A (i*k)) (.agg x) H=some (qZ,H')/\H'.h.get A=some (.cells (l1++x++l2.drop k) e k g)/\Stp (fun B=>B=A) H H'/\H'.next=H.next:=by
 have hb:Nat.blt i N=true:=by rw[zR];exact hi
 have hle:i*k+k<=(l1++l2).length:=by rw[zM];omega
 refine⟨_,fun κ z hz=> ?_,YW h hk0 hx hc hle, ?_,(Stp.refl hk).put (hk.lt h) _ (.inr rfl),rfl⟩
 .subst hz;simp only[dK,yM κ (show(0:Int)<=(i:Int)by omega),qD,hb,cond_true,yG,Nat.zero_add]
 .rw[AH.put_get,if_pos rfl];have e1:(l1++l2).take (i*k)=l1:=List.take_left' h1;have e2:(l1++l2).drop (i*k+k)=l2.drop k:=by rw[<-List.drop_drop,List.drop_left' h1]
  simp only[yC,e1,e2]
end Go.Eng
namespace Go.Eng.Sh
open Go.Nd (Ptr Str)
open Go.Bk Go.Bt
theorem AdT.keep {Z Z':Nat->Prop}{H H':AH}(h:AdT Z H Z' H'){A:Nat}(hA:A<H.next)(hz: ¬Z A):H'.h.get A=H.h.get A/\ ¬Z' A/\A<H'.next:=
 ⟨h.1.keep A hA hz,fun x=>by rcases h.2 A x with y | y;exact hz y;omega,zY hA h.1.next⟩
theorem Wr.box {E:Ev}{H H':AH}{Aw As At M Ad:Nat}{txg left la:Nat}{is:Nat->Nat}{root:Ptr}{es:List (AV×AV)}{q:PN}{last:Nat}{dr:AV}{Z P:Nat->Prop}(w:Wr E H Aw As At M Ad .nilPtr txg left la is root es q last dr Z P){A:Nat}(s:Stp (fun B=>B=A) H H')(hz: ¬Z A)(hp: ¬P A){l:List AV}{e k:Nat}{g:Bool}(hg:H.h.get A=some (.cells l e k g)):Wr E H' Aw As At M Ad .nilPtr txg left la is root es q last dr Z P:=by
 obtain⟨On,Nw,wv,ds,tv,ov,nt,tl,ol,dk,gw,ot,oo,hn,hZ,hO⟩:=w.gw;have hk:=w.ti.ok;have nz: ∀B,Z B-> ¬B=A:=fun B h e=>hz (e▸h)
 have nO: ¬On=A:=fun e=>by have:=dk.gO;rw[e,hg]at this;cases this
 have dk':DkI H' Ad E.nb E.ws On Nw wv ds:=dk.stp hk s (nz _ ((hZ _).2 (.inr (.inr (.inl rfl))))) nO (nz _ ((hZ _).2 (.inr (.inr (.inr (.inl rfl)))))) fun B hB=>nz _ ((hZ _).2 (.inr (.inr (.inr (.inr (.inl hB))))))
 have ti':=w.ti.wr s (fun B hB=>fun e=>hp (e▸(w.pa B).2 hB)) dk';exact⟨ti',w.sp.stp hk s (nz _ ((hZ _).2 (.inr (.inl rfl)))),w.few,⟨On,Nw,wv,ds,tv,ov,nt,tl,ol,dk',by rw[s.keep _ (hk.lt gw) (nz _ ((hZ _).2 (.inl rfl)))];exact gw,ot.mono s fun B hB=>nz _ ((hZ _).2 (.inr (.inr (.inr (.inr (.inr (.inl hB))))))),oo.mono s fun B hB=>nz _ ((hZ _).2 (.inr (.inr (.inr (.inr (.inr (.inr hB))))))),hn,hZ,hO⟩,w.pr,w.pa,w.bd,w.nb,w.s0,w.lf⟩
theorem Wr.dec {E:Ev}{H:AH}{Aw As At M Ad:Nat}{txg left la:Nat}{is:Nat->Nat}{root:Ptr}{es:List (AV×AV)}{q:PN}{last:Nat}{dr:AV}{Z P:Nat->Prop}(w:Wr E H Aw As At M Ad .nilPtr txg (left+1) la is root es q last dr Z P):
  ∃H',Eng.ld1 (.ptr Aw 3) H=some (.int .i64 ((left+1:Nat):Int))/\stN 1 (.ptr Aw 3) (.int .i64 ((left:Nat):Int)) H=some (qZ,H')/\Eng.ld1 (.ptr Aw 3) H'=some (.int .i64 ((left:Nat):Int))/\Eng.ld1 (.ptr Aw 0) H'=some (.ptr At 0)/\Wr E H' Aw As At M Ad .nilPtr txg left la is root es q last dr Z P/\AdT Z H Z H'/\H'.next=H.next:=by
 obtain⟨On,Nw,wv,ds,tv,ov,nt,tl,ol,dk,gw,ot,oo,hn,hZ,hO⟩:=w.gw;have hk:=w.ti.ok;obtain⟨H1,e1,g1,s1,n1⟩:=kJ hk gw (o:=3) (x:= .int .i64 ((left:Nat):Int)) rfl (by simp);have zA:Z Aw:=(hZ _).2 (.inl rfl);have dAS:As≠Aw:=fun e=>by
  obtain⟨c,g,l8,_⟩:=w.sp;rw[e,gw]at g;simp only[zC,AObj.cells.injEq]at g;rw[<-g.1]at l8;simp at l8
 have dk':DkI H1 Ad E.nb E.ws On Nw wv ds:=dk.stp hk s1 (fun e=>yB gw dk.gD (by simp) e.symm) (fun e=>hO (e▸zA)) (fun e=>yB gw dk.gN (by simp) e.symm) fun B hB e=>yB gw (dk.ow.get hB) (by simp) e.symm
 refine⟨H1,by rw[qV gw];rfl,e1,by rw[qV g1];rfl,by rw[qV g1];rfl,⟨w.ti.wr s1 (fun B hB e=>w.pr B ((w.pa B).2 hB) (e▸zA)) dk',w.sp.stp hk s1 dAS,w.few,⟨On,Nw,wv,ds,tv,ov,nt,tl,ol,dk',g1,ot.mono s1 fun B hB e=>yB gw (Own.get ot hB) (by simp) e.symm,oo.mono s1 fun B hB e=>yB gw (Own.get oo hB) (by simp) e.symm,hn,hZ,hO⟩,w.pr,w.pa,w.bd,w.nb,w.s0,by have:=w.lf;omega⟩,⟨s1.mono fun B _ e=>e▸zA,fun _ h=> .inl h⟩,n1⟩
def zJU (h:Nat):Prop:= ∀ {E:Ev} {H:AH} {Aw As At M Ad txg left la:Nat} {is:Nat->Nat} {root:Ptr} {es:List (AV×AV)} {q:PN} {last:Nat} {dr:AV} {Z P:Nat->Prop} (k n:Nat) {p:Ptr} {nd:Nd.Node} {t:Bt.Tr h} {S:List Ptr},200000000+h<=k->200000000<=n->
  Wr E H Aw As At M Ad .nilPtr txg left la is root es q last dr Z P->Qf E q [] p=some nd->jB (Qf E q []) h nd t S->WN h t->(∀r∈p::S,r.at_≠1->is r.at_.toNat≠0)->cp (p::S)<=left->cp (p::S)<=cnt is 0 E.nb->txg<=2147483647->
  ∃H' ws' Z' la' is' p' nd' S' left',f96 (dy k) n [.ptr Aw 0, .agg (y7 p)] H=some (.tuple [.agg (y7 p'), .int .i64 ((0:Nat):Int)],H')/\Wr { E with ws:=ws'} H' Aw As At M Ad .nilPtr txg left' la' is' root es q last dr Z' P/\AdT Z H Z' H'/\WOut E.nb E.ws ws' is is' (p::S) (p'::S')/\left'+cp (p::S)=left/\Ev.K { E with ws:=ws'} p'=some nd'/\jB (Ev.K { E with ws:=ws'}) h nd' t S'
theorem zHU {E:Ev}{q:PN}{ws':Ws}{r:Ptr}{nd:Nd.Node}(h:Qf E q [] r=some nd)(hb:r.at_≠1->blkAt r.at_.toNat ws'=blkAt r.at_.toNat E.ws):Qf { E with ws:=ws'} q [] r=some nd:=by
 obtain⟨s,rfl,h1⟩ | ⟨h1,h2⟩:=wS h
 .rw[UM]at h⊢;exact h
 .rw[Q7 h1];exact Ev.K_keep h2 (hb fun e=>by have:=(vJ h2).2;omega)
theorem wkids {h:Nat}(ih:zJU h)(k n:Nat)(hk:200000000+h<=k)(hn:200000000<=n){Aw As At M Ad txg A8 cc N:Nat}{root:Ptr}{es:List (AV×AV)}{q:PN}{last:Nat}{dr kv x4 x6:AV}{P:Nat->Prop}{kids:List Ptr}(ht:txg<=2147483647)(hN:N=kids.length)(hNb:N<=100000):
  ∀(ps:List Ptr) (ts:List (Bt.Tr h)) (S qs:List Ptr) (E:Ev) (H:AH) (Z:Nat->Prop) (left la:Nat) (is:Nat->Nat) (n':Nat) (l2:List AV),Wr E H Aw As At M Ad .nilPtr txg left la is root es q last dr Z P->kU (Qf E q []) (jB (Qf E q []) h) ps ts S->(∀x∈ts,WN h x)->(∀r∈S,r.at_≠1->is r.at_.toNat≠0)->cp S<=left->cp S<=cnt is 0 E.nb->ps.length<n'->
   xV H kv kids->(∀B,Blk kv B->P B)->kids.drop qs.length=ps->qs.length+ps.length=kids.length->H.h.get A8=some (.cells (qs.flatMap y7++l2) 42 3 false)->l2.length=ps.length*3-> ¬Z A8-> ¬P A8->
   ∃H' ws' Z' la' is' left' qs' S',yJ n' (zAk (dy (k+1)) n) [.ptr Aw 0,x4,x6, .slice A8 0 N cc,kv, .int .i64 ((N:Nat):Int), .int .i64 ((qs.length:Nat):Int)] H=some (.exit 0 [.ptr Aw 0,x4,x6, .slice A8 0 N cc],H')/\Wr { E with ws:=ws'} H' Aw As At M Ad .nilPtr txg left' la' is' root es q last dr Z' P/\AdT (fun B=>Z B\/B=A8) H (fun B=>Z' B\/B=A8) H'/\ ¬Z' A8/\WOut E.nb E.ws ws' is is' S S'/\left'+cp S=left/\kU (Ev.K { E with ws:=ws'}) (jB (Ev.K { E with ws:=ws'}) h) qs' ts S'/\H'.h.get A8=some (.cells ((qs++qs').flatMap y7) 42 3 false):=by
 intro ps
 induction ps with
 | nil=>
  intro ts S qs E H Z left la is n' l2 w rl hw hu hcl hcf hn' hkv hkP hd hl g8 hl2 hz8 hp8;obtain⟨n',rfl⟩: ∃m,n'=m+1:=⟨n' - 1,by simp at hn';omega⟩
  cases ts with
  | cons _ _=>exact rl.elim
  | nil=>
   have e:S=[]:=rl;subst e;have hi: ¬((qs.length:Nat):Int)< ((N:Nat):Int):=by simp only[qI]at hl;omega
   have l2n:l2=[]:=zL (by simpa using hl2);subst l2n;refine⟨H,E.ws,Z,la,is,left,[],[],y9 (by simp(disch:=omega) only[zAk,eZ,hi]),w,AdT.prs (Stp.refl w.ti.ok),hz8,WOut.nil _ _ _ (by simp),by rw[zHb];omega,rfl,by simpa using g8⟩
 | cons p ps ihp=>
  intro ts S qs E H Z left la is n' l2 w rl hw hu hcl hcf hn' hkv hkP hd hl g8 hl2 hz8 hp8;obtain⟨n',rfl⟩: ∃m,n'=m+1:=⟨n' - 1,by simp at hn';omega⟩
  cases ts with
  | nil=>exact rl.elim
  | cons t ts=>
   obtain⟨nd,S1,S2,hq,hr,rl2,rfl⟩:=rl;have hqi:qs.length<kids.length:=by simp at hl;omega
   have hpe:kids[qs.length]=p:=by
    have:=List.getElem_cons_drop hqi;rw[hd]at this;simp only[List.cons.injEq]at this;exact this.1
   obtain⟨pk,q1,q2⟩:=hkv.at hqi;rw[hpe]at q2;have hk0:=w.ti.ok;have l8:=hk0.lt g8;obtain⟨H1,A10,b1,p1,g1,m1,n1⟩:=box hk0 (.cells [.int .i64 ((0:Nat):Int), .int .i64 ((0:Nat):Int), .int .u64 ((0:Nat):Int)] 42 1 false);obtain⟨H2,e2,g2,s2,n2⟩:=yD p1.ok g1 (l':=y7 p) rfl rfl;have e2':stN 3 (.ptr A10 0) (.agg (y7 p)) H1=some (qZ,H2):=e2;have p2:Prs H H2:=p1.fresh s2 fun B hB=>by omega
   have r2:ldN 3 (.ptr A10 0) H2=some (.agg (y7 p)):=k7 g2 rfl;have e1:p::(S1++S2)=(p::S1)++S2:=rfl;rw[e1,QP]at hcl hcf;obtain⟨H3,ws3,Z3,la3,is3,p',nd',S1',left3,e3,w3,a3,o3,hl3,hK3,hR3⟩:=ih k k hk (by omega) (w.prs p2) hq hr (hw t (zH ..)) (fun r hr=>hu r (by rw[e1];exact qE _ hr)) (by omega) (by omega) ht;have N2:=p2.next;have N3:=a3.1.next
   have g82:=Prs.get p2 hk0 g8;obtain⟨k8,z8,l83⟩:=a3.keep (p2.ok.lt g82) hz8;have g83:=k8.trans g82;obtain⟨H4,ix4,e4,g4,s4,n4⟩:=rowSt (cc:=cc) w3.ti.ok g83 (i:=qs.length) (N:=N) (x:=y7 p') (wJ qs) (by omega) (by simp at hl2;omega) rfl rfl (by omega);have w4:=w3.box s4 z8 hp8 g83;have hqs:(qs++[p']).length=qs.length+1:=by simp
   have hKk: ∀r,r∈S2-> ∀nd,Qf E q [] r=some nd->Qf { E with ws:=ws3} q [] r=some nd:=fun r hr nd h=>zHU h fun hne=>o3.bk _ (hu r (by rw[e1];exact qK _ hr) hne)
   have rl3:kU (Qf { E with ws:=ws3} q []) (jB (Qf { E with ws:=ws3} q []) h) ps ts S2:=rl2.mono hKk fun nd t S' hS r=>r.mono fun p hp nd hh=>hKk p (hS p hp) nd hh
   have hkv4:xV H4 kv kids:=by
    refine(Rw.stp (Rw.stp (hkv.prs p2) a3.1 fun B hB=> ?_) s4 fun B hB e=> ?_)
    .exact w.pr B (hkP B hB)
    .exact hp8 (e▸hkP B hB)
   obtain⟨H5,ws5,Z5,la5,is5,left5,qs5,S5,e5,w5,a5,z5,o5,hl5,hR5,g5⟩:=ihp ts S2 (qs++[p']) { E with ws:=ws3} H4 Z3 left3 la3 is3 n' (l2.drop 3) w4 rl3 (fun x hx=>hw x (zF _ hx)) (fun r hr hne=>o3.nz (hu r (by rw[e1];exact qK _ hr) hne)) (by omega) (by have:=o3.ct;show cp S2<=cnt is3 0 E.nb;omega) (by simp at hn';omega) hkv4 hkP (by rw[hqs,<-List.drop_drop,hd];rfl) (by simp at hl⊢;omega) (by rw[g4];simp) (by simp at hl2⊢;omega) z8 hp8;have o:=o3.app o5;have hus:=o3.used (fun r hr hne=>hu r (by rw[e1];exact qE _ hr) hne);have hK5: ∀r,r∈p'::S1'-> ∀nd,Ev.K { E with ws:=ws3} r=some nd->Ev.K { E with ws:=ws5} r=some nd:=fun r hr nd h=>Ev.K_keep (E:= { E with ws:=ws3}) h (o5.bk _ (hus r hr).2)
   refine⟨H5,ws5,Z5,la5,is5,left5,p'::qs5,p'::S1'++S5, ?_,w5, ?_,z5,o,by rw[e1,QP];omega,⟨nd',S1',S5,hK5 p' (zH ..) _ hK3,hR3.mono fun r hr nd h=>hK5 r (zF _ hr) nd h,hR5,rfl⟩,by rw[g5];simp⟩
   .have hi:((qs.length:Nat):Int)< ((N:Nat):Int):=by omega
    have t00: ¬(((0:Nat):Int)≠((0:Nat):Int)):=by omega
    have hi1:((qs.length:Nat):Int)+((1:Nat):Int)=(((qs++[p']).length:Nat):Int):=by rw[hqs];omega
    have wi:IntKind.wrap .i64 (((qs++[p']).length:Nat):Int)=(((qs++[p']).length:Nat):Int):=wrap_i64 (by omega) (by omega);have ix4':=ix4 .i64 _ rfl;have q1':=q1 .i64 _ rfl;have e3':(dy (k+1)).fn 96 [.ptr Aw 0, .agg (y7 p)] H2=some (.tuple [.agg (y7 p'), .int .i64 ((0:Nat):Int)],H3):=e3;refine(j5 ?_).trans e5;simp(maxSteps:=999999)(disch:=omega) only[zAk,eZ,hi,q1',q2,b1,e2',r2,e3',qX,nth,ix4',e4,t00,hi1,wi]
   .have a1:AdT (fun B=>Z B\/B=A8) H (fun B=>Z3 B\/B=A8) H3:=by
     refine⟨(p2.stp).trans (a3.1.mono fun B _ h=> .inl h),fun B hB=> ?_⟩;rcases hB with hB | hB
     .rcases a3.2 B hB with x | x
      .exact .inl (.inl x)
      .exact .inr (by omega)
     .exact .inl (.inr hB)
    have a2:AdT (fun B=>Z3 B\/B=A8) H3 (fun B=>Z3 B\/B=A8) H4:=⟨s4.mono fun B _ h=> .inr h,fun B h=> .inl h⟩;exact(a1.trans a2).trans a5
end Go.Eng.Sh
end
section
set_option maxRecDepth 20000
namespace Go.Eng.Sh
open Go.Nd (Ptr Str)
open Go.Bk Go.Bt
theorem zCv (z:List AV): ∀n,(rep n z).length=n*z.length
 | 0=>by simp[rep]
 | n+1=>by rw[rep,zM,zCv z n,Nat.succ_mul];omega
theorem zLx (e sz bytes:Nat)(z:List AV){n:Nat}(hn:n<=1000000)(hb:bytes<=1000):zHY e sz bytes z (.int .i64 ((n:Nat):Int)) (.int .i64 ((n:Nat):Int))=some (.cells (rep n z) e sz false,fun A=> .slice A 0 n (2*n)):=by
 have h1:Nat.ble n n=true:=by rw[qA];omega
 have h2:Nat.ble (n*bytes) 140737488355328=true:=by
  rw[qA]
  calc n*bytes<=1000000*1000:=Nat.mul_le_mul hn hb
   _<=140737488355328:=by decide
 have h3:Nat.blt n 9223372036854775808=true:=by rw[zR];omega
 show zHY e sz bytes z (.int .i64 (.ofNat n)) (.int .i64 (.ofNat n))=_;simp only[zHY,h1,h2,h3,Bool.and_self,cond_true]
theorem zIa (s:Str):W6 s<18446744073709551616:=V4 _ _ (by omega)
theorem AdT.prsR {Z Z':Nat->Prop}{H H1 H2:AH}(h:AdT Z H Z' H1)(s:Prs H1 H2):AdT Z H Z' H2:=h.trans (AdT.prs s)
theorem AdT.boxR {Z Z':Nat->Prop}{H H1 H2:AH}(h:AdT Z H Z' H1){A:Nat}(s:Stp (fun B=>B=A) H1 H2)(hA:H.next<=A):AdT Z H Z' H2:=by
 have N:=h.1.next;have N2:=s.next
 refine⟨⟨s.ok,by omega,fun B hB hz=> ?_⟩,h.2⟩;rw[s.keep B (by omega) (by omega),h.1.keep B hB hz]
theorem AdT.dropR {Z Z1 Z2:Nat->Prop}{H H1 H2:AH}(h:AdT Z H Z1 H1){A:Nat}(k:AdT (fun B=>Z1 B\/B=A) H1 (fun B=>Z2 B\/B=A) H2)(hA:H.next<=A):AdT Z H Z2 H2:=by
 have N:=h.1.next;have N2:=k.1.next
 refine⟨⟨k.1.ok,by omega,fun B hB hz=> ?_⟩,fun B hB=> ?_⟩
 .rw[k.1.keep B (by omega) fun x=> ?_,h.1.keep B hB hz];rcases x with x | x
  .rcases h.2 B x with y | y
   .exact hz y
   .omega
  .omega
 .rcases k.2 B (.inl hB)with(x | x) | x
  .exact h.2 B x
  .exact .inr (by omega)
  .exact .inr (by omega)
theorem zNc {h:Nat}(k n:Nat)(hk:200000000<=k)(hn:200000000<=n){E:Ev}{H:AH}{Aw As At M Ad txg left la s:Nat}{is:Nat->Nat}{root:Ptr}{es:List (AV×AV)}{q:PN}{last:Nat}{dr:AV}{Z P:Nat->Prop}{nd:Nd.Node}{t:Bt.Tr h}{S:List Ptr}
  (w:Wr E H Aw As At M Ad .nilPtr txg (left+1) la is root es q last dr Z P) (hq:yA s q=some nd) (hr:jB (Qf E q []) h nd t S) (hw:WN h t) (hcf:cp S+1<=cnt is 0 E.nb) (hu: ∀r∈S,r.at_≠1->is r.at_.toNat≠0) (ht:txg<=2147483647)
  (hloop: ∀(H:AH) (kv x4 x6:AV) (A8:Nat) (l2:List AV),Wr E H Aw As At M Ad .nilPtr txg left la is root es q last dr Z P->xV H kv nd.kids->(∀B,Blk kv B->P B)->H.h.get A8=some (.cells l2 42 3 false)->l2.length=nd.kids.length*3-> ¬Z A8-> ¬P A8->
   ∃H' ws' Z' la' is' left' qs' S',yJ n (zAk (dy k) n) [.ptr Aw 0,x4,x6, .slice A8 0 nd.kids.length (2*nd.kids.length),kv, .int .i64 ((nd.kids.length:Nat):Int), .int .i64 ((0:Nat):Int)] H=some (.exit 0 [.ptr Aw 0,x4,x6, .slice A8 0 nd.kids.length (2*nd.kids.length)],H')/\Wr { E with ws:=ws'} H' Aw As At M Ad .nilPtr txg left' la' is' root es q last dr Z' P/\AdT (fun B=>Z B\/B=A8) H (fun B=>Z' B\/B=A8) H'/\ ¬Z' A8/\WOut E.nb E.ws ws' is is' S S'/\left'+cp S=left/\qs'.length=nd.kids.length/\jB (Ev.K { E with ws:=ws'}) h { nd with kids:=qs'} t S'/\H'.h.get A8=some (.cells (qs'.flatMap y7) 42 3 false)):
  ∃H' ws' Z' la' is' p' nd' S' left',f96 (dy k) n [.ptr Aw 0, .agg (y7 (pp s))] H=some (.tuple [.agg (y7 p'), .int .i64 ((0:Nat):Int)],H')/\Wr { E with ws:=ws'} H' Aw As At M Ad .nilPtr txg left' la' is' root es q last dr Z' P/\AdT Z H Z' H'/\WOut E.nb E.ws ws' is is' (pp s::S) (p'::S')/\left'+cp (pp s::S)=left+1/\Ev.K { E with ws:=ws'} p'=some nd'/\jB (Ev.K { E with ws:=ws'}) h nd' t S':=by
 obtain⟨k2,rfl⟩: ∃k2,k=k2+2:=⟨k - 2,by omega⟩;have hk0:=w.ti.ok;have zl:=w.lt;have hP:=w.old;obtain⟨H1,A3,b1,p1,g1,m1,n1⟩:=box hk0 (.cells (y7 (pp s)) 42 1 false);obtain⟨H2,A4,b2,p2,g2,m2,n2⟩:=box p1.ok (.cells [.int .i64 ((0:Nat):Int), .int .i64 ((0:Nat):Int), .int .u64 ((0:Nat):Int)] 42 1 false);have P2:=p1.trans p2;have N1:=p1.next;have N2:=p2.next
 have g12:=Prs.get p2 p1.ok g1;obtain⟨H3,d1,d2,d3,d4,w3,a3,n3⟩:=(w.prs P2).dec;have zl3:=w3.lt;obtain⟨k13,z13,l13⟩:=a3.keep (p2.ok.lt g12) (fun x=>by have:=zl _ x;omega);have g13:=k13.trans g12;obtain⟨k23,z23,l23⟩:=a3.keep (p2.ok.lt g2) (fun x=>by have:=zl _ x;omega);have g23:=k23.trans g2;have r2:Eng.ld1 (.ptr A3 0) H2=some (.int .i64 ((1:Nat):Int)):=by rw[qV g12];rfl
 have r3:ldN 3 (.ptr A3 0) H3=some (.agg (y7 (pp s))):=k7 g13 rfl;obtain⟨H4,A6,b4,p4,g4,m4,n4⟩:=box w3.ti.ok (.cells [.bool false, .nilSlice, .nilSlice, .nilSlice] 119 1 false);have N4:=p4.next
 obtain⟨v,H5,e5,p5,hg5,kx,hkx⟩:=BQ (dy (k2+2)) n (w3.ti.prs p4) hq;have N5:=p5.next
 obtain⟨l,rfl,ll,lc⟩:=hg5.cells;have g45:=Prs.get p5 p4.ok g4;obtain⟨H6,e6,g6,s6,n6⟩:=yD p5.ok g45 (l':=l) ll lc;have e6':stN 4 (.ptr A6 0) (.agg l) H5=some (qZ,H6):=e6;have p6:Prs H3 H6:=(p4.trans p5).fresh s6 fun B hB=>by omega
 have N6:=p6.next
 obtain⟨ks,vs,ps,he,h1,h2,h3⟩:=id hg5;simp only[AV.agg.injEq]at he;subst he;have f3:Eng.ld1 (.ptr A6 3) H6=some ps:=by rw[qV g6];rfl
 have hps:xV H5 ps nd.kids:=h3.row;have hln:lnSl ps=some (.int .i64 ((nd.kids.length:Nat):Int)):=hps.lnSl;have hsz:jD h t<=500:=hw.sz;have hsm:small nd:=jY (by rw[hr.size];omega);have hkl:nd.kids.length<=100:=by
  have:Nd.size nd=jD h t:=hr.size;simp only[Nd.size]at this;omega
 obtain⟨z3,hz3⟩: ∃z3,z3=rep nd.kids.length [AV.int .i64 ((0:Nat):Int), .int .i64 ((0:Nat):Int), .int .u64 ((0:Nat):Int)]:=⟨_,rfl⟩;have hz3l:z3.length=nd.kids.length*3:=by rw[hz3];exact zCv _ _
 have hmk:zHY 42 3 24 [.int .i64 ((0:Nat):Int), .int .i64 ((0:Nat):Int), .int .u64 ((0:Nat):Int)] (.int .i64 ((nd.kids.length:Nat):Int)) (.int .i64 ((nd.kids.length:Nat):Int))=some (.cells z3 42 3 false,fun A=> .slice A 0 nd.kids.length (2*nd.kids.length)):=by
  rw[hz3];exact zLx _ _ _ _ (by omega) (by omega)
 obtain⟨H7,A8,b7,p7,g7,m7,n7⟩:=box s6.ok (.cells z3 42 3 false);have N7:=p7.next
 have P7:Prs H3 H7:=p6.trans p7;have w7:=w3.prs P7;have g67:=Prs.get p7 s6.ok g6;have f37:Eng.ld1 (.ptr A6 3) H7=some ps:=by rw[qV g67];rfl
 have bl: ∀B,wN (.agg [.bool nd.leaf,ks,vs,ps]) B->P B:=fun B hB=>(w.pa B).2 (.inr (.inr (.inr ⟨_,hkx,hB⟩)))
 have s57:Stp (fun B=>B=A6) H5 H7:=s6.trans p7.stp;have nA6: ∀B,P B-> ¬B=A6:=fun B hB=>by have:=hP B hB;omega
 have hps7:xV H7 ps nd.kids:=Rw.stp hps s57 fun B hB=>nA6 B (bl B (jK.2 (.inr (.inr hB))))
 have z8: ¬Z A8:=fun x=>by have:=zl _ x;omega
 have q8: ¬P A8:=fun x=>by have:=hP _ x;omega
 obtain⟨H8,ws8,Z8,la8,is8,left8,qs,S',e8,w8,a8,z88,o8,hl8,hql,hR8,g8⟩:=hloop H7 ps (.ptr A4 0) (.ptr A6 0) A8 z3 w7 hps7 (fun B hB=>bl B (jK.2 (.inr (.inr hB)))) g7 hz3l z8 q8;have a07:AdT Z H Z H7:=((AdT.prs P2).trans a3).prsR P7;have a08:AdT Z H Z8 H8:=a07.dropR a8 (by omega);have N8:=a8.1.next
 have zs: ∀B,H.next<=B-> ¬Z B:=fun B hB x=>by have:=zl B x;omega
 obtain⟨k68,z68,l68⟩:=a8.keep (p7.ok.lt g67) (fun x=>by rcases x with x | x;exact zs _ (by omega) x;omega);have g68:=k68.trans g67;have g47:=Prs.get P7 w3.ti.ok g23;obtain⟨k48,z48,l48⟩:=a8.keep (p7.ok.lt g47) (fun x=>by rcases x with x | x;exact zs _ (by omega) x;omega);have g48:=k48.trans g47;obtain⟨H9,e9,g9,s9,n9⟩:=kJ w8.ti.ok g68 (o:=3) (x:= .slice A8 0 nd.kids.length (2*nd.kids.length)) rfl (by simp);have q6: ¬P A6:=fun x=>by have:=hP _ x;omega
 have w9:=w8.box s9 (fun x=>z68 (.inl x)) q6 g68;have a09:=a08.boxR s9 (by omega);have N9:=s9.next
 have g89:H9.h.get A8=some (.cells (qs.flatMap y7) 42 3 false):=by rw[s9.keep _ (w8.ti.ok.lt g8) (by omega)];exact g8
 obtain⟨nd',hnd'⟩: ∃nd',nd'= { nd with kids:=qs} :=⟨_,rfl⟩;have hks9: ∀ {x:AV} {kk:Nat} {ll:List AV} {nn:Nat},Rw kk H5 x nn ll->(∀B,Blk x B->P B)->Rw kk H9 x nn ll:=fun hrw hb=>
  Rw.stp (Rw.stp (Rw.stp hrw s57 fun B hB=>nA6 B (hb B hB)) a8.1 fun B hB x=>by
   rcases x with x | x
   .exact w.pr B (hb B hB) x
   .exact q8 (x▸hb B hB)) s9 fun B hB=>nA6 B (hb B hB)
 have hv9:uF H9 (.agg [.bool nd.leaf,ks,vs, .slice A8 0 nd.kids.length (2*nd.kids.length)]) nd':=by
  refine⟨ks,vs,_,by rw[hnd'], ?_, ?_, ?_⟩
  .rw[hnd'];exact hks9 h1.row fun B hB=>bl B (jK.2 (.inl hB))
  .rw[hnd'];exact hks9 h2.row fun B hB=>bl B (jK.2 (.inr (.inl hB)))
  .rw[hnd'];refine⟨wJ qs, .inr (.inr ⟨A8,0,2*nd.kids.length,_,_,_,_,by simp only[hql],g89,w9.ti.ok.lt g89, ?_, ?_⟩)⟩
   .simp only[wJ];omega
   .simp only[List.drop_zero];rw[zO (by rw[wJ];omega)]
 rw[<-hnd']at hR8;obtain⟨lo,hi,hgen⟩:=hw.gen;have hus:=o8.used hu;have hkid: ∀r∈S',Nd.kidOk r=true:=fun r hr'=>by
  obtain⟨x,hx⟩:=jB.here hR8 r hr';exact(vJ hx).1
 have hne:0<h->nd'.keys≠[]:=fun h0=>by
  cases h with
  | zero=>omega
  | succ h=>rw[hR8.2.1];exact hw.ne
 have hsh:Nd.shaped ltS nd'=true:=hR8.shaped hgen hne hkid;have hsz':Nd.size nd'<=500:=by rw[hR8.size];exact hsz
 have hsm':small nd':=jY (by omega);have hkin: ∀r∈nd'.kids,r∈S':=fun r hr'=>by
  cases h with
  | zero=>obtain⟨e,_⟩:=hR8;rw[e]at hr';simp[Nd.leafOf]at hr'
  | succ h=>exact hR8.2.2.2.kids r hr'
 have hsum: ∀r∈nd'.kids,Nd.sumOk r:=fun r hr'=>by
  obtain⟨x,hx⟩:=jB.here hR8 r (hkin r hr');obtain⟨a,birth,kind,body,rfl,_⟩:=Ev.K_iff.1 hx;exact⟨by simp[u4],by have:=zIa (sealB kind birth body);simp only[u4];omega⟩
 obtain⟨H10,e10,p10⟩:=zGW (k2+1) n (by omega) hn w9.ti.ok hv9 hsm' hsum;have hencR:zKz nd'=(Nd.encN nd',0):=by simp only[zKz,hsh,if_true,if_pos hsz']
 rw[hencR]at e10;have hel:(Nd.encN nd').length<=500:=by rw[Nd.encN_length hsh];exact hsz'
 obtain⟨kind,hkind⟩: ∃kind:UInt8,kind=if nd'.leaf then 1 else 2:=⟨_,rfl⟩
 have w10:=w9.prs p10;obtain⟨H11,e11,p11⟩:=zF0 (dy (k2+2)) n (by omega) p10.ok kind ht hel;obtain⟨B,hB⟩: ∃B,B=sealB kind txg (Nd.encN nd'):=⟨_,rfl⟩;have hBl:=sealB_len (kind:=kind) (birth:=txg) hel;rw[<-hB]at e11 hBl;obtain⟨Zb,hZb⟩: ∃Zb:Str,Zb=List.replicate 512 0:=⟨_,rfl⟩;have hZl:Zb.length=512:=by rw[hZb];simp
 have hzr:rep 512 [AV.int .u8 ((0:Nat):Int)]=qW Zb:=by rw[d8,hZb]
 obtain⟨H12,A13,b12,p12,g12',m12,n12⟩:=box p11.ok (.cells (qW Zb) 55 1 false);obtain⟨H13,e13,g13',s13⟩:=stR p12.ok g12' hZl hBl;have N10:=p10.next;have N11:=p11.next;have N12:=p12.next;have N13:=s13.next
 have P13:Prs H9 H13:=((p10.trans p11).trans p12).fresh s13 fun B hB=>by omega
 have r13:=ldR g13' hBl;have w13:=w9.prs P13;obtain⟨H14,j,Z14,e14,j2,jn,j0,w14,a14⟩:=zKK k2 n (by omega) (by omega) w13 kind ht hel (by have:=o8.ct;show 0<cnt is8 0 E.nb;omega);rw[<-hB]at e14 w14;have g413:H13.h.get A4=_:=Prs.get P13 w9.ti.ok ((s9.keep A4 (w8.ti.ok.lt g48) (by omega)).trans g48);obtain⟨k414,z414,l414⟩:=a14.keep (w13.ti.ok.lt g413) (fun x=>z48 (.inl x));have g414:=k414.trans g413;obtain⟨H15,e15,g15,s15,n15⟩:=yD w14.ti.ok g414 (l':=y7 (u4 j txg B)) rfl rfl;have e15':stN 3 (.ptr A4 0) (.agg (y7 (u4 j txg B))) H14=some (qZ,H15):=e15;have q4: ¬P A4:=fun x=>by have:=hP _ x;omega
 have w15:=w14.box s15 z414 q4 g414;have r15:ldN 3 (.ptr A4 0) H15=some (.agg (y7 (u4 j txg B))):=k7 g15 rfl;have aF:AdT Z H Z14 H15:=((a09.prsR P13).trans a14).boxR s15 (by omega);have oF:=o8.put (s:=s) (birth:=txg) (b:=B) j2 jn j0;have hbk: ∀r∈S',blkAt r.at_.toNat (ws8++[(j,B)])=blkAt r.at_.toNat ws8:=fun r hr'=>by
  rw[Q4,if_neg fun e:j=_=>(hus r hr').2 (by rw[<-e];exact j0)]
 have hRF:jB (Ev.K { E with ws:=ws8++[(j,B)] }) h nd' t S':=hR8.mono fun r hr' nd2 h2=>Ev.K_keep (E:= { E with ws:=ws8}) h2 (hbk r hr')
 have hlf:decide (kind=1)=nd'.leaf:=by rw[hkind];cases nd'.leaf<;>rfl
 have hdec:Nd.decN ltS (decide (kind=1)) (Nd.encN nd')=some nd':=by
  rw[hlf];exact Nd.decN_encN (by simp only[Nd.may,hsh,Bool.true_and,zJ];exact hsz') hsum
 have hKF:Ev.K { E with ws:=ws8++[(j,B)] } (u4 j txg B)=some nd':=by
  refine Ev.K_iff.2 ⟨j,txg,kind,Nd.encN nd',by rw[hB],j2,jn,⟨by have:=w.nb.2.1;have:j<E.nb:=jn;omega,fun r hr'=>(hus r (hkin r hr')).1⟩,ht,hel, ?_,by rw[hkind];cases nd'.leaf<;>simp,hdec⟩;show blkAt j (ws8++[(j,B)])=_;rw[Q4,if_pos rfl,hB]
 refine⟨H15,_,Z14,j,_,u4 j txg B,nd',S',left8, ?_,w15,aF,oF,by rw[bZ];simp only[pp,if_true];omega,hKF,hRF⟩;obtain⟨On,Nw,wv,ds,tv,ov,nt,tl',ol,dk,gw,_⟩:=w10.gw;have fw:Eng.ld1 (.ptr Aw 2) H10=some (.int .i64 ((txg:Nat):Int)):=by rw[qV gw];rfl
 have f0:Eng.ld1 (.ptr A6 0) H9=some (.bool nd.leaf):=by rw[qV g9];rfl
 have f4:ldN 4 (.ptr A6 0) H9=some (.agg [.bool nd.leaf,ks,vs, .slice A8 0 nd.kids.length (2*nd.kids.length)]):=k7 g9 rfl;have hlf2:nd'.leaf=nd.leaf:=by rw[hnd']
 rw[hlf2]at hkind;have t00: ¬(((0:Nat):Int)≠((0:Nat):Int)):=by omega
 have t11: ¬(((1:Nat):Int)≠((1:Nat):Int)):=by omega
 have wi:((left+1:Nat):Int) - ((1:Nat):Int)=((left:Nat):Int):=by omega
 have tl: ¬((left:Nat):Int)< ((0:Nat):Int):=by omega
 have wlf:=w.lf;have wl:IntKind.wrap .i64 ((left:Nat):Int)=((left:Nat):Int):=wrap_i64 (by omega) (by omega)
 cases hc:nd.leaf with
 | true=>
  rw[hc]at hkind f0;have hk1:((kind.toNat:Nat):Int)=((1:Nat):Int):=by rw[hkind];rfl
  rw[hk1]at e11;simp(maxSteps:=999999)(disch:=omega) only[f96,eZ,b1,b2,r2,t11,d1,wi,wl,d2,d3,tl,d4,r3,b4,e5,qX,nth,e6',t00,f3,hln,hmk,b7,f37,e8,zG8,e9,f0,zG7,f4,e10,fw,e11,hzr,b12,e13,r13,e14,e15',r15]
 | false=>
  rw[hc]at hkind f0;have hk1:((kind.toNat:Nat):Int)=((2:Nat):Int):=by rw[hkind];rfl
  rw[hk1]at e11;simp(maxSteps:=999999)(disch:=omega) only[f96,eZ,b1,b2,r2,t11,d1,wi,wl,d2,d3,tl,d4,r3,b4,e5,qX,nth,e6',t00,f3,hln,hmk,b7,f37,e8,zG8,e9,f0,zG7,f4,e10,fw,e11,hzr,b12,e13,r13,e14,e15',r15]
end Go.Eng.Sh
end
section
set_option maxRecDepth 20000
namespace Go.Eng.Sh
open Go.Nd (Ptr Str Kvs)
open Go.Bk Go.Bt
theorem jB.disk {E:Ev}{q:PN} : ∀ {h:Nat} {nd:Nd.Node} {t:Bt.Tr h} {S:List Ptr},jB (Qf E q []) h nd t S->(∀r∈nd.kids,r.at_≠1)->jB E.K h nd t S/\ ∀r∈S,r.at_≠1
 | 0,nd,t,S,w,_=>⟨w,by rw[w.2];simp⟩
 | h+1,nd,t,S,⟨a,b,c,w⟩,hk=>by
  have key: ∀(ps:List Ptr) (ts:List (Bt.Tr h)) (S:List Ptr),kU (Qf E q []) (jB (Qf E q []) h) ps ts S->(∀r∈ps,r.at_≠1)->kU E.K (jB E.K h) ps ts S/\ ∀r∈S,r.at_≠1:=by
   intro ps
   induction ps with
   | nil=>
    intro ts S w _
    cases ts with
    | nil=>have e:S=[]:=w;subst e;exact⟨rfl,by simp⟩
    | cons _ _=>exact w.elim
   | cons p ps ih=>
    intro ts S w hp
    cases ts with
    | nil=>exact w.elim
    | cons t ts=>
     obtain⟨nd,S1,S2,hq,hr,rl,rfl⟩:=w;have hp1:=hp p (zH ..);obtain⟨s,rfl,_⟩ | ⟨_,hK⟩:=wS hq
     .exact absurd rfl hp1
     .obtain⟨_,_,_,_,_,_,_,⟨_,hkk⟩,_⟩:=Ev.K_iff.1 hK;obtain⟨h1,h2⟩:=jB.disk hr hkk;obtain⟨h3,h4⟩:=ih ts S2 rl fun r hr=>hp r (zF _ hr)
      refine⟨⟨nd,S1,S2,hK,h1,h3,rfl⟩,fun r hr=> ?_⟩;rcases List.mem_cons.1 hr with rfl | hr
      .exact hp1
      .rcases List.mem_append.1 hr with e | e
       .exact h2 r e
       .exact h4 r e
  obtain⟨h1,h2⟩:=key nd.kids t.2 S w hk;exact⟨⟨a,b,c,h1⟩,h2⟩
theorem zNb {h:Nat}(D:Dyn)(n:Nat){E:Ev}{H:AH}{Aw As At M Ad txg left la:Nat}{is:Nat->Nat}{root:Ptr}{es:List (AV×AV)}{q:PN}{last:Nat}{dr:AV}{Z P:Nat->Prop}{p:Ptr}{nd:Nd.Node}{t:Bt.Tr h}{S:List Ptr}
  (w:Wr E H Aw As At M Ad .nilPtr txg left la is root es q last dr Z P) (hK:E.K p=some nd) (hr:jB (Qf E q []) h nd t S):
  ∃H' ws' Z' la' is' p' nd' S' left',f96 D n [.ptr Aw 0, .agg (y7 p)] H=some (.tuple [.agg (y7 p'), .int .i64 ((0:Nat):Int)],H')/\Wr { E with ws:=ws'} H' Aw As At M Ad .nilPtr txg left' la' is' root es q last dr Z' P/\AdT Z H Z' H'/\WOut E.nb E.ws ws' is is' (p::S) (p'::S')/\left'+cp (p::S)=left/\Ev.K { E with ws:=ws'} p'=some nd'/\jB (Ev.K { E with ws:=ws'}) h nd' t S':=by
 have hk:=w.ti.ok;obtain⟨H1,A3,b1,p1,g1,m1,n1⟩:=box hk (.cells (y7 p) 42 1 false);obtain⟨H2,A4,b2,p2,g2,m2,n2⟩:=box p1.ok (.cells [.int .i64 ((0:Nat):Int), .int .i64 ((0:Nat):Int), .int .u64 ((0:Nat):Int)] 42 1 false);obtain⟨H3,e3,g3,s3,n3⟩:=yD p2.ok g2 (l':=y7 p) rfl rfl;have e3':stN 3 (.ptr A4 0) (.agg (y7 p)) H2=some (qZ,H3):=e3;have N1:=p1.next
 have P3:Prs H H3:=(p1.trans p2).fresh s3 fun B hB=>by omega
 have g12:=Prs.get p2 p1.ok g1;have r1:Eng.ld1 (.ptr A3 0) H2=some (.int .i64 p.at_):=by rw[qV g12];rfl
 have r2:ldN 3 (.ptr A3 0) H2=some (.agg (y7 p)):=k7 g12 rfl;have r3:ldN 3 (.ptr A4 0) H3=some (.agg (y7 p)):=k7 g3 rfl;have h2:=(vJ hK).2;have t1:(p.at_≠((1:Nat):Int))=True:=eq_true (by omega);obtain⟨_,_,_,_,_,_,_,⟨_,hkk⟩,_⟩:=Ev.K_iff.1 hK;obtain⟨hd,hS⟩:=jB.disk hr hkk;have hall: ∀r∈p::S,r.at_≠1:=fun r hr=>by
  rcases List.mem_cons.1 hr with rfl | hr
  .omega
  .exact hS r hr
 have c:cp (p::S)=0:=by
  rw[cp,List.length_eq_zero_iff];exact List.filter_eq_nil_iff.2 fun p hp=>by simpa using hall p hp
 refine⟨H3,E.ws,Z,la,is,p,nd,S,left, ?_,w.prs P3,AdT.prs P3,WOut.nil _ _ _ hall,by omega,hK,hd⟩;simp(maxSteps:=999999)(disch:=omega) only[f96,eZ,b1,b2,r1,t1,r2,e3',r3]
theorem zI1: ∀h,zJU h:=by
 intro h
 induction h with
 | zero=>
  unfold zJU;intro E H Aw As At M Ad txg left la is root es q last dr Z P k n p nd t S hk hn w hq hr hw hu hcl hcf ht;rcases wS hq with⟨s,rfl,h1 | ⟨_,h1⟩⟩ | ⟨_,hK⟩
  .simp[yA]at h1
  .have hc:cp (pp s::S)=1+cp S:=by rw[bZ];simp[pp]
   obtain⟨left,rfl⟩: ∃l,left=l+1:=⟨left - 1,by omega⟩;refine zNc k n (by omega) hn w h1 hr hw (by omega) (fun r hr=>hu r (zF _ hr)) ht fun H7 kv x4 x6 A8 l2 w7 hkv hkP g8 hl2 z8 q8=> ?_
   obtain⟨rfl,rfl⟩:=hr;have hn0:(Nd.leafOf t).kids=[]:=rfl;have hn0':(Nd.leafOf t).kids.length=0:=rfl;obtain⟨n,rfl⟩: ∃m,n=m+1:=⟨n - 1,by omega⟩;refine⟨H7,E.ws,Z,la,is,left,[],[], ?_,w7,AdT.prs (Stp.refl w7.ti.ok),z8,WOut.nil _ _ _ (by simp),by simp[cp],rfl,⟨rfl,rfl⟩, ?_⟩
   .rw[hn0'];exact y9 (by simp only[zAk,eZ,qJ])
   .rw[hn0',Nat.zero_mul]at hl2;rw[zL hl2]at g8;exact g8
  .exact zNb (dy k) n w hK hr
 | succ h ih=>
  unfold zJU;intro E H Aw As At M Ad txg left la is root es q last dr Z P k n p nd t S hk hn w hq hr hw hu hcl hcf ht;rcases wS hq with⟨s,rfl,h1 | ⟨_,h1⟩⟩ | ⟨_,hK⟩
  .simp[yA]at h1
  .have hc:cp (pp s::S)=1+cp S:=by rw[bZ];simp[pp]
   obtain⟨left,rfl⟩: ∃l,left=l+1:=⟨left - 1,by omega⟩;obtain⟨k,rfl⟩: ∃k',k=k'+1:=⟨k - 1,by omega⟩;have hsz:Nd.size nd<=500:=by rw[hr.size];exact hw.sz
   have hkl:nd.kids.length<=100:=by simp only[Nd.size]at hsz;omega
   refine zNc (k+1) n (by omega) hn w h1 hr hw (by omega) (fun r hr=>hu r (zF _ hr)) ht fun H7 kv x4 x6 A8 l2 w7 hkv hkP g8 hl2 z8 q8=> ?_
   obtain⟨a,b,c,rl⟩:=hr;obtain⟨H8,ws8,Z8,la8,is8,left8,qs,S',e8,w8,a8,z88,o8,hl8,hR,g8'⟩:=wkids ih k n (by omega) hn (x4:=x4) (x6:=x6) (cc:=2*nd.kids.length) ht rfl (by omega) nd.kids t.2 S [] E H7 Z left la is n l2 w7 rl (fun x hx=>hw.kid hx) (fun r hr=>hu r (zF _ hr)) (by omega) (by omega) (by omega) hkv hkP rfl (by simp) g8 hl2 z8 q8;exact⟨H8,ws8,Z8,la8,is8,left8,qs,S',e8,w8,a8,z88,o8,hl8,by rw[hR.len,rl.len],⟨a,b,c,hR⟩,g8'⟩
  .exact zNb (dy k) n w hK hr
theorem nodup_le: ∀ {l m:List Nat},l.Nodup->(∀x∈l,x∈m)->l.length<=m.length
 | [],_,_,_=>Nat.zero_le _
 | x::l,m,h,hs=>by
  obtain⟨hx,hl⟩:=List.nodup_cons.1 h;have:=nodup_le (m:=m.erase x) hl fun y hy=>(List.mem_erase_of_ne fun e:y=x=>hx (e▸hy)).2 (hs y (zF _ hy))
  have hm:=hs x (zH ..);have h2:=List.length_erase_of_mem hm;have h3:=List.length_pos_of_mem hm;rw[zP];omega
theorem zMo {E:Ev}{q:PN} : ∀ {T:List Ptr},T.Nodup->(∀r∈T,∃nd,Qf E q [] r=some nd)->cp T<=q.length:=by
 intro T hT hq;have h1:((T.filter fun p=>decide (p.at_=1)).map fun p=>p.sum.toNat).Nodup:=by
  rw[List.nodup_iff_pairwise_ne,List.pairwise_map];refine(List.nodup_iff_pairwise_ne.1 (hT.filter _)).imp_of_mem fun {a b} ha hb hne e=>hne ?_
  obtain⟨a1,a2⟩:=List.mem_filter.1 ha;obtain⟨b1,b2⟩:=List.mem_filter.1 hb;obtain⟨x,hx⟩:=hq a a1;obtain⟨y,hy⟩:=hq b b1;have pa: ∃s,a=pp s:=by
   obtain⟨s,e,_⟩ | ⟨_,hK⟩:=wS hx
   .exact⟨s,e⟩
   .have:=(vJ hK).2;simp at a2;omega
  have pb: ∃s,b=pp s:=by
   obtain⟨s,e,_⟩ | ⟨_,hK⟩:=wS hy
   .exact⟨s,e⟩
   .have:=(vJ hK).2;simp at b2;omega
  obtain⟨s,rfl⟩:=pa;obtain⟨u,rfl⟩:=pb;have e2:s=u:=by simpa[pp]using e
  rw[e2]
 have h2: ∀s∈(T.filter fun p=>decide (p.at_=1)).map fun p=>p.sum.toNat,s∈q.map (·.1):=fun s hs=>by
  obtain⟨r,hr,rfl⟩:=List.mem_map.1 hs;obtain⟨r1,r2⟩:=List.mem_filter.1 hr;obtain⟨x,hx⟩:=hq r r1;obtain⟨u,rfl,h | ⟨_,h⟩⟩ | ⟨_,hK⟩:=wS hx
  .simp[yA]at h
  .have:(pp u).sum.toNat=u:=by simp[pp]
   rw[this];exact List.mem_map.2 ⟨_,kO h,rfl⟩
  .have:=(vJ hK).2;simp at r2;omega
 have h3:=nodup_le h1 h2;simpa[cp]using h3
def Dsk (H:AH)(Ad As nb:Nat)(ws:Ws)(la:Nat)(is:Nat->Nat)(V:Nat->Prop):Prop:= ∃On Nw wv ds,DkI H Ad nb ws On Nw wv ds/\Spc H As nb la is/\(∀B,V B↔B=As\/B=Ad\/B=Nw\/Blk wv B)/\64<=nb/\nb<=8192/\la<nb/\(2<=la\/la=0)/\(is 0≠0/\is 1≠0)/\ws.length+cnt is 0 nb<=990000
theorem Dsk.prs {H H':AH}{Ad As nb la:Nat}{ws:Ws}{is:Nat->Nat}{V:Nat->Prop}(d:Dsk H Ad As nb ws la is V)(hk:H.ok)(s:Prs H H'):Dsk H' Ad As nb ws la is V:=by
 obtain⟨On,Nw,wv,ds,dk,sp,r⟩:=d;exact⟨On,Nw,wv,ds,dk.prs hk s,sp.stp hk s (fun x=>x),r⟩
theorem Dsk.lt {H:AH}{Ad As nb la:Nat}{ws:Ws}{is:Nat->Nat}{V:Nat->Prop}(d:Dsk H Ad As nb ws la is V)(hk:H.ok): ∀B,V B->B<H.next:=by
 obtain⟨On,Nw,wv,ds,dk,sp,hV,_⟩:=d;intro B hB;rcases(hV B).1 hB with rfl | rfl | rfl | e
 .exact sp.lt hk
 .exact hk.lt dk.gD
 .exact hk.lt dk.gN
 .exact Own.lt dk.ow e
end Go.Eng.Sh
end
section
set_option maxRecDepth 20000
namespace Go.Eng.Sh
open Go.Nd (Ptr Str Kvs)
open Go.Bk Go.Bt
theorem xG.node {H:AH} : ∀ {es:List (AV×AV)} {q:PN},xG H es q-> ∀kv∈es,∃nd,yK H kv.2 nd
 | [],[],_=>fun _ h=>by simp at h
 | (k,v)::es,(s,nd)::q,h=>fun kv hkv=>by
  rcases List.mem_cons.1 hkv with rfl | hkv
  .exact⟨nd,h.1.2⟩
  .exact xG.node h.2 kv hkv
 | [],_::_,h=>h.elim
 | _::_,[],h=>h.elim
theorem XX {E:Ev}{H:AH}{At M Ad As la nb last:Nat}{ws:Ws}{d c dr:AV}{root:Ptr}{es:List (AV×AV)}{q:PN}{is:Nat->Nat}{V:Nat->Prop}(ti:TI E H At M d c root es q last dr)(ds:Dsk H Ad As nb ws la is V): ∀B,(B=At\/B=M\/Blk dr B\/ ∃kv∈es,wN kv.2 B)-> ¬V B:=by
 obtain⟨On,Nw,wv,dm,dk,sp,hV,_⟩:=ds;obtain⟨c8,gS,hl8,c0,_⟩:=sp;have gT:=ti.gT;have key: ∀(o:AObj),zOu o->(∀l e' g,o≠ .cells l e' 3 g)->o≠ .cells (jV d c root M last dr) 140 1 false->o≠ .map [10] es-> ∀B,H.h.get B=some o-> ¬(B=At\/B=M\/Blk dr B\/ ∃kv∈es,wN kv.2 B):=by
  intro o n1 n2 n3 n4 B hB h;rcases h with rfl | rfl | h | ⟨kv,hkv,h⟩
  .rw[gT]at hB;exact n3 (Option.some.inj hB).symm
  .rw[ti.gM]at hB;exact n4 (Option.some.inj hB).symm
  .exact j9.nsep ti.dg hB (fun e' g=>n2 _ e' g) h
  .obtain⟨nd,hnd⟩:=ti.pq.node kv hkv;exact hnd.nblk hB n1 h
 intro B hP hv;rcases(hV B).1 hv with rfl | rfl | rfl | h
 .obtain⟨x,r,e⟩: ∃x r,c8=x::r:=by
   cases c8 with
   | nil=>simp at hl8
   | cons x r=>exact⟨x,r,rfl⟩
  subst e;simp only[List.getElem?_cons_zero,zC]at c0;subst c0;exact key _ (.inl ⟨_,r,_,_,rfl,fun _ _ h=>by cases h⟩) (by simp) (by simp) (by simp) _ gS hP
 .exact key _ (.inl ⟨_,_,_,_,rfl,fun _ _ h=>by cases h⟩) (by simp) (by simp) (by simp) _ dk.gD hP
 .exact key _ (.inr (.inl ⟨_,_,rfl⟩)) (by simp) (by simp) (by simp) _ dk.gN hP
 .exact key _ (.inr (.inr ⟨_,_,513,_,rfl,by omega,by omega⟩)) (by simp) (by simp) (by simp) _ (dk.ow.get h) hP
theorem zN9 {E:Ev}{H H1:AH}{Aw At M Ad As la txg left last:Nat}{dr:AV}{root:Ptr}{es:List (AV×AV)}{q:PN}{is:Nat->Nat}{V:Nat->Prop}(ti:TI E H At M (.ptr Ad 0) .nilPtr root es q last dr)(ds:Dsk H Ad As E.nb E.ws la is V)(p1:Prs H H1)(g1:H1.h.get Aw=some (.cells [.ptr At 0, .ptr As 0, .int .i64 ((txg:Nat):Int), .int .i64 ((left:Nat):Int), .nilSlice, .nilSlice] 198 1 false))(m1:H.next<=Aw)(hl:left<=1000000000):
  Wr E H1 Aw As At M Ad .nilPtr txg left la is root es q last dr (fun B=>B=Aw\/V B) (fun B=>B=At\/B=M\/Blk dr B\/ ∃kv∈es,wN kv.2 B):=by
 have hk:=ti.ok;have ds':=ds.prs hk p1;have htd:=XX ti ds;have hlt:=ds.lt hk;obtain⟨On,Nw,wv,dm,dk,sp,hV,b1,b2,b3,b4,b5,b6⟩:=ds;have dk1:=dk.prs hk p1;refine⟨ti.prs p1,sp.stp hk p1 fun x=>x,b6,⟨On,Nw,wv,dm, .nilSlice, .nilSlice,0,[],[],dk1,g1,Own.nil ..,Own.nil ..,Nat.zero_le _,fun B=> ?_, ?_⟩,fun B hB hx=> ?_,fun B=>Iff.rfl,b4,⟨b1,b2,b3⟩,b5,hl⟩
 .have hn:Blk .nilSlice B↔False:=Blk.nil;rw[hV B,hn];constructor
  .rintro(h | h | h | h | h)
   .exact .inl h
   .exact .inr (.inl h)
   .exact .inr (.inr (.inl h))
   .exact .inr (.inr (.inr (.inl h)))
   .exact .inr (.inr (.inr (.inr (.inl h))))
  .rintro(h | h | h | h | h | h | h)
   .exact .inl h
   .exact .inr (.inl h)
   .exact .inr (.inr (.inl h))
   .exact .inr (.inr (.inr (.inl h)))
   .exact .inr (.inr (.inr (.inr h)))
   .exact h.elim
   .exact h.elim
 .have lO:=hk.lt dk.gO
  rintro(e | hv)
  .omega
  .rcases(hV On).1 hv with e | e | e | e
   .obtain⟨c8,gS,_⟩:=sp;rw[<-e,dk.gO]at gS;cases gS
   .have:=dk.gD;rw[<-e,dk.gO]at this;cases this
   .exact dk.ne e
   .have:=dk.ow.get e;rw[dk.gO]at this;cases this
 .rcases hx with e | e
  .have hold:B<H.next:=by
    rcases hB with rfl | rfl | h | ⟨kv,hkv,h⟩
    .exact hk.lt ti.gT
    .exact hk.lt ti.gM
    .exact ti.dg.lt h
    .exact ti.pq.old kv hkv B h
   omega
  .exact htd B hB e
theorem zI0 (m n:Nat)(hm:400000000<=m)(hn:200000000<=n){E:Ev}{H:AH}{At M L Ad As la txg:Nat}{W V:Nat->Prop}{kv:Kvs}{T:List Ptr}{root:Ptr}{q:PN}{is:Nat->Nat}(t:c9 (.ptr Ad 0) .nilPtr E H At M L W root q kv T)(ds:Dsk H Ad As E.nb E.ws la is V)(hu: ∀r∈T,r.at_≠1->is r.at_.toNat≠0)(h1:1<=txg)(h2:txg<=2147483647)(hkv:kv.length<=1000000000):
  ∃H',(cnt is 0 E.nb<q.length/\f43 (dy m) n [.ptr At 0, .ptr As 0, .int .i64 ((txg:Nat):Int)] H=some (.tuple [.agg [.int .i64 ((0:Nat):Int), .int .i64 ((0:Nat):Int), .int .u64 ((0:Nat):Int)], .nilSlice, .int .i64 ((3:Nat):Int)],H')/\Prs H H')\/
   (q.length<=cnt is 0 E.nb/\ ∃ws' is' la' V' root' T' M' W' dr,f43 (dy m) n [.ptr At 0, .ptr As 0, .int .i64 ((txg:Nat):Int)] H=some (.tuple [.agg (y7 root'),dr, .int .i64 ((0:Nat):Int)],H')/\c9 (.ptr Ad 0) .nilPtr { E with ws:=ws',dl:=[] } H' At M' L W' root' [] kv T'/\Dsk H' Ad As E.nb ws' la' is' V'/\WOut E.nb E.ws ws' is is' T T'/\AdT (fun B=>W B\/V B) H (fun B=>W' B\/V' B) H'/\Rw 3 H' dr E.dl.length (E.dl.flatMap y7)/\ ∀B,Blk dr B-> ¬W' B/\ ¬V' B/\W B):=by
 obtain⟨dr,es,last,hc,ti,hq1,hq2,hq3,hq4,hr,hW⟩:=t;have hk:=ti.ok;obtain⟨H1,A6,b1,p1,g1,m1,n1⟩:=box hk (.cells [.int .i64 ((0:Nat):Int), .int .i64 ((0:Nat):Int), .int .u64 ((0:Nat):Int)] 42 1 false);have N1:=p1.next
 have ti1:=ti.prs p1;have hno:=dD (dy m) n ti1;obtain⟨c8,gS,_⟩: ∃c,H.h.get As=some (.cells c 145 1 false)/\True:=by
  obtain⟨_,_,_,_,_,sp,_⟩:=id ds;obtain⟨c,g⟩:=sp.bk;exact⟨c,g,trivial⟩
 have sp1:Spc H1 As E.nb la is:=by
  obtain⟨_,_,_,_,_,sp,_⟩:=id (ds.prs hk p1);exact sp
 have hfree:=zCt (dy m) n sp1;have x36:Eng.ld1 (.ptr At 5) H1=some (.map M):=by rw[qV ti1.gT];rfl
 have hln:ZQ (.map M) H1=some (.int .i64 ((q.length:Nat):Int)):=by
  simp only[ZQ,ti1.gM,yG,ti1.pq.len];rfl
 have t1: ¬((txg:Nat):Int)< ((1:Nat):Int):=by omega
 have t2: ¬((2147483647:Nat):Int)< ((txg:Nat):Int):=by omega
 have ck: ∀K:Rs,chk (some (.map M)) (.map M) K=K:=fun K=>yV rfl (by simp[aveq])
 have z6:ldN 3 (.ptr A6 0) H1=some (.agg [.int .i64 ((0:Nat):Int), .int .i64 ((0:Nat):Int), .int .u64 ((0:Nat):Int)]):=k7 g1 rfl;have hb0:xH [(0,1),(1,1),(2,1)] [.int .i64 ((0:Nat):Int), .int .i64 ((0:Nat):Int), .int .u64 ((0:Nat):Int)] []=some (.agg [.int .i64 ((0:Nat):Int), .int .i64 ((0:Nat):Int), .int .u64 ((0:Nat):Int)]):=rfl;rcases Nat.lt_or_ge (cnt is 0 E.nb) q.length with hlt | hge
 .obtain⟨H2,e2,g2,s2,n2⟩:=yD p1.ok g1 (l':=[.int .i64 ((0:Nat):Int), .int .i64 ((0:Nat):Int), .int .u64 ((0:Nat):Int)]) rfl rfl;have e2':stN 3 (.ptr A6 0) (.agg [.int .i64 ((0:Nat):Int), .int .i64 ((0:Nat):Int), .int .u64 ((0:Nat):Int)]) H1=some (qZ,H2):=e2;have r2:ldN 3 (.ptr A6 0) H2=some (.agg [.int .i64 ((0:Nat):Int), .int .i64 ((0:Nat):Int), .int .u64 ((0:Nat):Int)]):=k7 g2 rfl;have tl:((cnt is 0 E.nb:Nat):Int)< ((q.length:Nat):Int):=by omega
  refine⟨H2, .inl ⟨hlt, ?_,p1.fresh s2 fun B hB=>by omega⟩⟩;simp(maxSteps:=999999)(disch:=omega) only[f43,eZ,b1,hno,cq,t1,t2,x36,hfree,ck,hln,tl,hb0,e2',r2]
 .have tl: ¬((cnt is 0 E.nb:Nat):Int)< ((q.length:Nat):Int):=by omega
  obtain⟨H2,Aw,b2,p2,g2,m2,n2⟩:=box p1.ok (.cells [.ptr At 0, .ptr As 0, .int .i64 ((txg:Nat):Int), .int .i64 ((q.length:Nat):Int), .nilSlice, .nilSlice] 198 1 false);have N2:=p2.next
  have P2:=p1.trans p2;have w2:=zN9 ti ds P2 g2 (by omega) ti.few;have hbw:xH [(0,1),(1,1),(2,1),(3,1),(4,1),(5,1)] [.nilPtr, .nilPtr, .int .i64 ((0:Nat):Int), .int .i64 ((0:Nat):Int), .nilSlice, .nilSlice] [(0, .ptr At 0),(1, .ptr As 0),(2, .int .i64 ((txg:Nat):Int)),(3, .int .i64 ((q.length:Nat):Int))]=some (.agg [.ptr At 0, .ptr As 0, .int .i64 ((txg:Nat):Int), .int .i64 ((q.length:Nat):Int), .nilSlice, .nilSlice]):=rfl;have gT2:=w2.ti.gT;have rT:ldN 3 (.ptr At 2) H2=some (.agg (y7 root)):=ZR gT2 (by simp[jV]);have hcp:cp T<=q.length:=by
   rcases hr with⟨_,_,rfl⟩ | ⟨h,nd,tr,S,k1,k2,k3,k4,k5,rfl⟩
   .exact Nat.zero_le _
   .refine zMo (E:=E) k4 fun r hr=> ?_
    rcases List.mem_cons.1 hr with rfl | hr
    .exact⟨nd,k1⟩
    .exact jB.here k2 r hr
  have node: ∃H3 ws3 Z3 la3 is3 root3 T3 left3,f96 (dy m) n [.ptr Aw 0, .agg (y7 root)] H2=some (.tuple [.agg (y7 root3), .int .i64 ((0:Nat):Int)],H3)/\Wr { E with ws:=ws3} H3 Aw As At M Ad .nilPtr txg left3 la3 is3 root es q last dr Z3 (fun B=>B=At\/B=M\/Blk dr B\/ ∃kv∈es,wN kv.2 B)/\AdT (fun B=>B=Aw\/V B) H2 Z3 H3/\WOut E.nb E.ws ws3 is is3 T T3/\vU { E with ws:=ws3,dl:=[] } [] root3 kv T3:=by
   rcases hr with⟨rfl,rfl,rfl⟩ | ⟨h,nd,tr,S,k1,k2,k3,k4,k5,rfl⟩
   .obtain⟨H3,A3,b3,p3,g3,m3,n3⟩:=box w2.ti.ok (.cells (y7 pZ) 42 1 false);obtain⟨H4,A4,b4,p4,g4,m4,n4⟩:=box p3.ok (.cells [.int .i64 ((0:Nat):Int), .int .i64 ((0:Nat):Int), .int .u64 ((0:Nat):Int)] 42 1 false);obtain⟨H5,e5,g5,s5,n5⟩:=yD p4.ok g4 (l':=y7 pZ) rfl rfl;have e5':stN 3 (.ptr A4 0) (.agg (y7 pZ)) H4=some (qZ,H5):=e5;have N3:=p3.next
    have P5:Prs H2 H5:=(p3.trans p4).fresh s5 fun B hB=>by omega
    have g34:=Prs.get p4 p3.ok g3;have r1:Eng.ld1 (.ptr A3 0) H4=some (.int .i64 ((0:Nat):Int)):=by rw[qV g34];rfl
    have r2:ldN 3 (.ptr A3 0) H4=some (.agg (y7 pZ)):=k7 g34 rfl;have r3:ldN 3 (.ptr A4 0) H5=some (.agg (y7 pZ)):=k7 g5 rfl;have t01:(((0:Nat):Int)≠((1:Nat):Int))=True:=eq_true (by omega);refine⟨H5,E.ws,_,la,is,pZ,[],q.length, ?_,w2.prs P5,AdT.prs P5,WOut.nil _ _ _ (by simp), .inl ⟨rfl,rfl,rfl⟩⟩;simp(maxSteps:=999999)(disch:=omega) only[f96,eZ,b3,b4,r1,t01,r2,e5',r3]
   .have hlow:=k3.low (by rw[k5];exact hkv);obtain⟨H3,ws3,Z3,la3,is3,p',nd',S',left3,e3,w3,a3,o3,l3,K3,R3⟩:=zI1 h m n (by omega) hn w2 k1 k2 (.inr k3) hu (by omega) (by omega) h2;refine⟨H3,ws3,Z3,la3,is3,p',p'::S',left3,e3,w3,a3,o3, .inr ⟨h,nd',tr,S', ?_, ?_,k3, ?_,k5,rfl⟩⟩
    .have hd:=(o3.used hu p' (zH ..)).1;rw[Q7 fun s e=>hd (by rw[e];rfl)];exact Ev.K_iff.2 (Ev.K_iff.1 K3)
    .refine R3.mono fun r hr' nd2 hn2=> ?_
     have hd:=(o3.used hu r (zF _ hr')).1;rw[Q7 fun s e=>hd (by rw[e];rfl)];exact Ev.K_iff.2 (Ev.K_iff.1 hn2)
    .obtain⟨news,pm,nd1,_,hn⟩:=o3.pm;rw[pm.nodup_iff];refine List.nodup_append.2 ⟨k4.filter _,nd1,fun a ha b hb e=> ?_⟩;subst e;obtain⟨a1,a2⟩:=K1.1 ha;exact hu a a1 a2 (hn a hb).2.1
  obtain⟨H3,ws3,Z3,la3,is3,root3,T3,left3,e3,w3,a3,o3,hr3⟩:=node;have N3:=a3.1.next
  obtain⟨H4,A10,b4,p4,g4,m4,n4⟩:=box w3.ti.ok (.cells [.int .i64 ((0:Nat):Int), .int .i64 ((0:Nat):Int), .int .u64 ((0:Nat):Int)] 42 1 false);obtain⟨H5,e5,g5,s5,n5⟩:=yD p4.ok g4 (l':=y7 root3) rfl rfl;have e5':stN 3 (.ptr A10 0) (.agg (y7 root3)) H4=some (qZ,H5):=e5;have N4:=p4.next
  have P5:Prs H3 H5:=p4.fresh s5 fun B hB=>by omega
  have w5:=w3.prs P5;have r10:ldN 3 (.ptr A10 0) H5=some (.agg (y7 root3)):=k7 g5 rfl;have gT5:=w5.ti.gT;have x1:Eng.ld1 (.ptr At 1) H5=some .nilPtr:=by rw[qV gT5];rfl
  have x7:Eng.ld1 (.ptr At 7) H5=some dr:=by rw[qV gT5];rfl
  have lT:=hk.lt ti.gT;have e6:=YW (o:=2) (n:=3) (x:= .agg (y7 root3)) gT5 (by decide) rfl rfl (by simp[jV]);have g6:(H5.put At (.cells (jV (.ptr Ad 0) .nilPtr root3 M last dr) 140 1 false)).h.get At=some (.cells (jV (.ptr Ad 0) .nilPtr root3 M last dr) 140 1 false):=by rw[AH.put_get,if_pos rfl]
  have e6':stN 3 (.ptr At 2) (.agg (y7 root3)) H5=some (qZ,H5.put At (.cells (jV (.ptr Ad 0) .nilPtr root3 M last dr) 140 1 false)):=e6;have s6':Stp (fun B=>B=At) H5 (H5.put At (.cells (jV (.ptr Ad 0) .nilPtr root3 M last dr) 140 1 false)):=(Stp.refl w5.ti.ok).put (w5.ti.ok.lt gT5) _ (.inr rfl);generalize H5.put At (.cells (jV (.ptr Ad 0) .nilPtr root3 M last dr) 140 1 false)=H6 at e6' g6 s6';obtain⟨H7,e7,g7,s7,n7⟩:=kJ s6'.ok g6 (o:=7) (x:= .nilSlice) rfl (by simp[jV]);have g7':H7.h.get At=some (.cells (jV (.ptr Ad 0) .nilPtr root3 M last .nilSlice) 140 1 false):=g7;obtain⟨H8,M',b8,p8,g8,m8,n8⟩:=box s7.ok (.map [10] []);have g78:=Prs.get p8 s7.ok g7';obtain⟨H9,e9,g9,s9,n9⟩:=kJ p8.ok g78 (o:=5) (x:= .map M') rfl (by simp[jV]);have g9':H9.h.get At=some (.cells (jV (.ptr Ad 0) .nilPtr root3 M' last .nilSlice) 140 1 false):=g9;have N6:=s6'.next;have N7:=s7.next;have N8:=p8.next;have N9:=s9.next
  have zl2:=w2.lt;have kb: ∀ {A:Nat} {o:AObj},H1.h.get A=some o->H.next<=A->A<H2.next->A≠Aw->H5.h.get A=some o:=fun {A o} g ha hb hne=>by
   have h2':=Prs.get p2 p1.ok g;have nz: ¬(A=Aw\/V A):=fun x=>by
    rcases x with x | x
    .exact hne x
    .have:=ds.lt hk A x;omega
   rw[P5.keep A (by omega) (fun x=>x),(a3.keep (w2.ti.ok.lt h2') nz).1];exact h2'
  have g65:=kb g1 (by omega) (by omega) (by omega);have stA: ∀ {A:Nat} {o:AObj},H5.h.get A=some o->A≠At->A<H5.next->H9.h.get A=some o:=fun {A o} g hne hl=>by
   rw[s9.keep A (by omega) hne,p8.keep A (by omega) (fun x=>x),s7.keep A (by omega) hne,s6'.keep A hl hne];exact g
  have g69:=stA g65 (by omega) (w5.ti.ok.lt g65);have g109:=stA g5 (by omega) (by omega);have r109:ldN 3 (.ptr A10 0) H9=some (.agg (y7 root3)):=k7 g109 rfl;obtain⟨H10,e10,g10,s10,n10⟩:=yD s9.ok g69 (l':=y7 root3) rfl rfl;have e10':stN 3 (.ptr A6 0) (.agg (y7 root3)) H9=some (qZ,H10):=e10;have r6:ldN 3 (.ptr A6 0) H10=some (.agg (y7 root3)):=k7 g10 rfl;have N10:=s10.next
  have t00: ¬(((0:Nat):Int)≠((0:Nat):Int)):=by omega
  have hmk:mkM [10]=some (.map [10] [],fun A=> .map A):=rfl;obtain⟨On,Nw,wv,dm,tv,ov,nt,tl',ol,dk,gw,ot,oo,hnt,hZ,hO⟩:=w5.gw;have tP: ∀B,(B=At\/B=M\/Blk dr B\/ ∃kv∈es,wN kv.2 B)-> ¬Z3 B:=w3.pr;have hz3: ∀B,Z3 B-> ¬B=At:=fun B hB e=>tP At (.inl rfl) (e▸hB)
  have l6:A6<H2.next:=by omega
  have nz6: ¬Z3 A6:=(a3.keep (w2.ti.ok.lt (Prs.get p2 p1.ok g1)) (fun x=>by rcases x with x | x;omega;have:=ds.lt hk A6 x;omega)).2.1;have zlt: ∀B,Z3 B->B<H5.next:=w5.lt
  have nO6:On≠A6:=fun e=>by rw[<-e]at g65;rw[dk.gO]at g65;cases g65
  have nOT:On≠At:=fun e=>by rw[<-e]at gT5;rw[dk.gO]at gT5;cases gT5
  have lO:=w5.ti.ok.lt dk.gO;have st59: ∀ {A:Nat} {o:AObj},H5.h.get A=some o->A≠At->A≠A6->H10.h.get A=some o:=fun {A o} g h1 h2=>by
   have:=w5.ti.ok.lt g;rw[s10.keep A (by omega) h2];exact stA g h1 this
  have zI: ∀ {B},Z3 B->B≠At/\B≠A6:=fun {B} hB=>⟨hz3 B hB,fun e=>nz6 (e▸hB)⟩
  have s510:Stp (fun B=>B=At\/B=A6) H5 H10:=⟨s10.ok,by omega,fun A hA hS=>by
   have h1:A≠At:=fun e=>hS (.inl e)
   have h2:A≠A6:=fun e=>hS (.inr e)
   rw[s10.keep A (by omega) h2,s9.keep A (by omega) h1,p8.keep A (by omega) (fun x=>x),s7.keep A (by omega) h1,s6'.keep A hA h1]⟩
  have nI: ∀ {B},Z3 B-> ¬(B=At\/B=A6):=fun {B} hB x=>by rcases x with x | x;exact(zI hB).1 x;exact(zI hB).2 x
  have zS:Z3 As:=(hZ _).2 (.inr (.inl rfl));have zD:Z3 Ad:=(hZ _).2 (.inr (.inr (.inl rfl)));have zN:Z3 Nw:=(hZ _).2 (.inr (.inr (.inr (.inl rfl))));have zw: ∀B,Blk wv B->Z3 B:=fun B hB=>(hZ _).2 (.inr (.inr (.inr (.inr (.inl hB)))))
  have dk10:DkI H10 Ad E.nb ws3 On Nw wv dm:=dk.stp w5.ti.ok s510 (nI zD) (fun x=>by rcases x with x | x;exact nOT x;exact nO6 x) (nI zN) fun B hB=>nI (zw B hB)
  have drP: ∀B,Blk dr B->B=At\/B=M\/Blk dr B\/ ∃kv∈es,wN kv.2 B:=fun B hB=> .inr (.inr (.inl hB))
  have drT: ∀B,Blk dr B->B≠At:=fun B hB e=>by
   subst e;exact j9.nsep ti.dg ti.gT (fun e' g=>by simp) hB
  have drL: ∀B,Blk dr B->B<H.next:=fun B hB=>ti.dg.lt hB
  have rwdr:Rw 3 H10 dr E.dl.length (E.dl.flatMap y7):=by
   refine Rw.stp (w5.ti.dg.row) s510 fun B hB x=> ?_
   rcases x with x | x
   .exact drT B hB x
   .have:=drL B hB;omega
  refine⟨H10, .inr ⟨hge,ws3,is3,la3,fun B=>B=As\/B=Ad\/B=Nw\/Blk wv B,root3,T3,M',fun B=>B=At\/B=M'\/Blk .nilSlice B,dr, ?_,⟨.nilSlice,[],last,rfl,⟨s10.ok, ?_, ?_,trivial,⟨_,_,_,_,_,rfl,dk10⟩, .inl rfl, .inl (Own.nil ..),by simp,by simp⟩,by simp[yA],by simp,hq3,by simp,hr3,fun B=>Iff.rfl⟩,⟨On,Nw,wv,dm,dk10,w5.sp.stp w5.ti.ok s510 (nI zS),fun B=>Iff.rfl,w5.nb.1,w5.nb.2.1,w5.nb.2.2,w5.bd,w5.s0,w5.few⟩,o3,⟨⟨s10.ok,by omega,fun B hB hS=> ?_⟩,fun B hB=> ?_⟩,rwdr,fun B hB=>⟨?_, ?_,(hW B).2 (.inr (.inr hB))⟩⟩⟩
  .simp(maxSteps:=999999)(disch:=omega) only[f43,eZ,b1,hno,cq,t1,t2,x36,hfree,ck,hln,tl,hbw,b2,rT,e3,qX,nth,b4,e5',t00,x1,zJ0,x7,r10,e6',e7,hmk,b8,e9,r109,e10',r6]
  .rw[s10.keep _ (by omega) (by omega)];exact g9'
  .rw[s10.keep _ (by omega) (by omega),s9.keep _ (by omega) (by omega)];exact g8
  .have h1:B≠At:=fun e=>hS (.inl ((hW B).2 (.inl e)))
   have hv: ¬V B:=fun x=>hS (.inr x)
   rw[s510.keep B (by omega) (fun x=>by rcases x with x | x;exact h1 x;omega),P5.keep B (by omega) (fun x=>x),(a3.keep (A:=B) (by omega) (fun x=>by rcases x with x | x;omega;exact hv x)).1,P2.keep B hB (fun x=>x)]
  .have old: ∀B,Z3 B->V B\/H.next<=B:=fun B hB=>by
    rcases a3.2 B hB with(x | x) | x
    .exact .inr (by omega)
    .exact .inl x
    .exact .inr (by omega)
   rcases hB with(e | e | e) | (e | e | e | e)
   .exact .inl (.inl ((hW B).2 (.inl e)))
   .exact .inr (by omega)
   .exact(Blk.nil.1 e).elim
   .rcases old B (e▸zS)with x | x
    .exact .inl (.inr x)
    .exact .inr x
   .rcases old B (e▸zD)with x | x
    .exact .inl (.inr x)
    .exact .inr x
   .rcases old B (e▸zN)with x | x
    .exact .inl (.inr x)
    .exact .inr x
   .rcases old B (zw B e)with x | x
    .exact .inl (.inr x)
    .exact .inr x
  .have:=drL B hB
   rintro(e | e | e)
   .exact drT B hB e
   .omega
   .exact Blk.nil.1 e
  .have h3:=tP B (drP B hB)
   rintro(e | e | e | e)
   .exact h3 (e▸zS)
   .exact h3 (e▸zD)
   .exact h3 (e▸zN)
   .exact h3 (zw B e)
end Go.Eng.Sh
end
section
namespace Go.Eng
open Go.Nd (Kvs Srt)
theorem Y2: ∀(a k:Str),ltS a (k++[0])=(decide (a=k)||ltS a k)
 | [],[]=>rfl
 | [],_::_=>by simp[ltS,Op.bytesLess]
 | a::l,[]=>by
  have h:l.length=l.length:=rfl
  cases l with
  | nil=>simp[ltS,Op.bytesLess]
  | cons b l=>simp[ltS,Op.bytesLess]
 | a::l,b::k=>by
  have ih:=Y2 l k;simp only[ltS,List.cons_append,Op.bytesLess]at ih⊢;rw[ih];by_cases e:a=b
  .subst e;simp
  .have hb:(a==b)=false:=by simp[e]
   simp[e,hb]
theorem zJ7 (a b c d:Str):eqA [2,2] (.agg [S a,S b]) (.agg [S c,S d])=some (decide (a=c/\b=d)):=by
 have h: ∀x y:Str,XK 2 (S x) (S y)=some (decide (x=y)):=fun x y=>by
  show(some (Nat.beq x.length y.length&&Nat.beq (pack x) (pack y)):Option Bool)=_;rw[S_eq]
 simp only[eqA,fL,Nat.succ_eq_add_one,Nat.beq_refl,zP,qI,Bool.and_self,cond_true,wY,h];by_cases e1:a=c
 .by_cases e2:b=d
  .simp[e1,e2]
  .simp[e1,e2]
 .simp[e1]
end Go.Eng
namespace Go.Eng.Sh
open Go.Nd (Ptr sumL leafOf Kvs Srt mayK putP delP lookP)
open Go.Bt
def prV (p:Str×Str):List AV:=[S p.1,S p.2]
def zEh (H:AH)(v:AV)(l:Kvs):Prop:=Rw 2 H v l.length (l.flatMap prV)
theorem zCY: ∀(l:Kvs) (i:Nat) (h:i<l.length),((l.flatMap prV).drop (i*2)).take 2=prV l[i]
 | p::l,0,_=>rfl
 | p::l,i+1,h=>by
  rw[zZ,show(i+1)*2=2+i*2 by omega,<-List.drop_drop];exact zCY l i (by simpa using h)
theorem zEh.at {H:AH}{v:AV}{l:Kvs}(h:zEh H v l){i:Nat}(hi:i<l.length): ∃A o,(∀κ (z:Int),z=(i:Int)->dK 2 v (.int κ z)=some (.ptr A o))/\Eng.ldN 2 (.ptr A o) H=some (.agg (prV l[i]))/\Eng.ld1 (.ptr A o) H=some (S l[i].1)/\Eng.ld1 (.ptr A (o+1)) H=some (S l[i].2):=by
 obtain⟨A,o,c,e,sz,g,h1,h2,h3,h4,h5⟩:=Rw.at h hi;rw[zCY l i hi]at h5;have g0:c[o]? =some (S l[i].1):=by
  have:=congrArg (fun x=>x[0]?) h5;simpa[prV]using this
 have g1:c[o+1]? =some (S l[i].2):=by
  have:=congrArg (fun x=>x[1]?) h5;simpa[prV]using this
 exact⟨A,o,h1,by rw[ZR h2 h4,h5],jQ h2 g0,jQ h2 g1⟩
theorem zNW (m n:Nat)(hn:300000000<=n){H:AH}{d c:AV}{E:Ev}{At M L:Nat}{W:Nat->Prop}{T:List Ptr}{kv:Kvs}{key value:Str}(t:vO d c E H At M L W kv T)(hL:L<=90000000)(hkv:kv.length<=1000000000)(hk:mayK key=true)(hl:lookP key kv=some value):
  ∃H',f21 (dy (m+1)) n [.ptr At 0,S key,S value, .bool true] H=some (.bool true,H')/\Prs H H':=by
 obtain⟨H1,e1,p1⟩:=zLQ m n hn key t hL hkv;rw[if_pos hk,hl]at e1;refine⟨H1, ?_,p1⟩;have e: ∀a:Str,YE .eql (S a) (S a)=some (.bool true):=fun a=>by rw[UE];simp
 simp(maxSteps:=999999)(disch:=omega) only[f21,eZ,e1,geR,qX,nth,e]
def behind (kv:Kvs):Nat->Str
 | 0=>[]
 | i+1=>(kv.getD i ([],[])).1++[0]
theorem zLz: ∀a:Str,ltS a []=false
 | []=>rfl
 | _::_=>rfl
theorem dG: ∀ {kv:Kvs},Srt kv-> ∀i,i<=kv.length->kZ (behind kv i) kv=kv[i]?
 | [],_,i,hi=>by
  obtain rfl:i=0:=by simpa using hi
  rfl
 | p::kv,h,0,_=>by simp[kZ,behind,zLz]
 | p::kv,h,1,_=>by
  obtain⟨h1,h2⟩:=h;simp only[kZ,behind,List.getD_cons_zero,List.find?_cons,Y2,decide_true,Bool.true_or,Bool.not_true]
  cases kv with
  | nil=>rfl
  | cons r kv=>
   have:=h1 r (zH ..);have e1:decide (r.1=p.1)=false:=by simpa using(bK this).symm
   simp[Y2,e1,uA this]
 | p::kv,h,i+2,hi=>by
  obtain⟨h1,h2⟩:=h;have ih:=dG h2 (i+1) (by simpa using hi);have hi':i<kv.length:=by simp at hi;omega
  have e:behind (p::kv) (i+2)=behind kv (i+1):=by simp[behind]
  rw[e];have hlow:ltS p.1 (behind kv (i+1))=true:=by
   simp only[behind,Y2];rw[zT,zG hi',Option.getD_some,h1 _ (qC hi')];simp
  simp only[kZ,List.find?_cons,hlow,Bool.not_true]at ih⊢;simpa using ih
theorem zFI: ∀ {kv:Kvs},Srt kv-> ∀(i:Nat) (h:i<kv.length),lookP kv[i].1 kv=some kv[i].2
 | p::kv,_,0,_=>by simp[lookP]
 | p::kv,hs,i+1,h=>by
  have h':i<kv.length:=by simpa using h
  have ih:=zFI hs.2 i h';have hl:=hs.1 _ (qC h');simp only[List.getElem_cons_succ,lookP];rw[if_neg (bK hl)];exact ih
theorem zIQ (m n:Nat)(hm:200000000<=m)(hn:300000000<=n){H:AH}{d c:AV}{E:Ev}{At M L:Nat}{W:Nat->Prop}{T:List Ptr}{kv:Kvs}{v:AV}(t:vO d c E H At M L W kv T)(hL:L<=90000000)(hkv:kv.length<=100000000)(hv:zEh H v kv)(hs:Srt kv)(hmay: ∀p∈kv,mayK p.1=true):
  ∃H',f20 (dy (m+2)) n [.ptr At 0,v] H=some (.bool true,H')/\Prs H H':=by
 have hkH:=t.okH;have lp:=xR (b:=zAr (dy (m+2)) n) kv.length (fun i us H'=>us=[.ptr At 0,v,S (behind kv i), .int .i64 ((i:Nat):Int)]/\Prs H H') (fun i us H' hi ⟨hus,p0⟩=>by
  subst hus;have t0:=t.prs p0;obtain⟨H1,e1,p1⟩:=zFB m n hm hn (behind kv i) t0 hL;rw[dG hs i (by omega),zG hi]at e1;obtain⟨H2,A7,b2,p2,g2,m2,n2⟩:=box p1.ok (.cells [.str 0 0, .str 0 0] 48 1 false);obtain⟨H3,e3,g3,s3,n3⟩:=yD p2.ok g2 (l':=[S kv[i].1,S kv[i].2]) rfl rfl;have e3':stN 2 (.ptr A7 0) (.agg [S kv[i].1,S kv[i].2]) H2=some (qZ,H3):=e3;have N1:=p1.next;have N2:=p2.next
  have p3:Prs H' H3:=(p1.trans p2).fresh s3 (fun B hB=>by omega);have P3:=p0.trans p3;have r3:ldN 2 (.ptr A7 0) H3=some (.agg [S kv[i].1,S kv[i].2]):=by rw[y6 g3];rfl
  have hv3:zEh H3 v kv:=Rw.stp hv P3 (fun _ _ x=>x);obtain⟨A,o,i1,i2,i3,i4⟩:=hv3.at hi;obtain⟨H4,e4,p4⟩:=zNW (m+1) n hn (t.prs P3) hL (by omega) (hmay _ (qC hi)) (zFI hs i hi);have hv4:zEh H4 v kv:=Rw.stp hv (P3.trans p4) (fun _ _ x=>x);obtain⟨A',o',j1,j2,j3,j4⟩:=hv4.at hi;have hAA:=(i1 .i64 _ rfl).symm.trans (j1 .i64 _ rfl);simp only[zC,AV.ptr.injEq]at hAA;obtain⟨rfl,rfl⟩:=hAA;have i3':ld1 (.ptr A (o+0)) H3=some (S kv[i].1):=i3;have j3':ld1 (.ptr A (o+0)) H4=some (S kv[i].1):=j3;have hl40:=hmay _ (qC hi);simp only[Nd.mayK,zE,zJ]at hl40;have hadd:YE .add (S kv[i].1) (.str 1 0)=some (S (kv[i].1++[0])):=zJA kv[i].1 [0] (by simp;omega);have hbe:behind kv (i+1)=kv[i].1++[0]:=by simp only[behind];rw[zT,zG hi,Option.getD_some]
  have t00: ¬(((0:Nat):Int)≠((0:Nat):Int)):=by omega
  have hiI:((i:Nat):Int)< ((kv.length:Nat):Int):=by omega
  have hpr:prV kv[i]=[S kv[i].1,S kv[i].2]:=rfl;have heq:eqA [2,2] (.agg [S kv[i].1,S kv[i].2]) (.agg [S kv[i].1,S kv[i].2])=some true:=by rw[zJ7];simp
  have hneq:bC .neq (some true)=some (.bool false):=rfl;rw[hpr]at i2;refine⟨_,H4, ?_,rfl,P3.trans p4⟩;rw[hbe];simp(maxSteps:=999999)(disch:=omega) only[zAr,eZ,hv.lnSl,hiI,e1,nxR,qX,nth,b2,e3',t00,r3,i1,i2,i3',i4,j3',heq,hneq,e4,hadd,Int.natCast_add]) n [.ptr At 0,v, .str 0 0, .int .i64 ((0:Nat):Int)] H ⟨rfl,Stp.refl hkH⟩ (by omega)
 obtain⟨k,us,H',e,rfl,p0⟩:=lp;obtain⟨H1,e1,p1⟩:=zFB m n hm hn (behind kv kv.length) (t.prs p0) hL;rw[dG hs kv.length (Nat.le_refl _),List.getElem?_eq_none (Nat.le_refl _)]at e1;obtain⟨H2,A7,b2,p2,g2,m2,n2⟩:=box p1.ok (.cells [.str 0 0, .str 0 0] 48 1 false);obtain⟨H3,e3,g3,s3,n3⟩:=yD p2.ok g2 (l':=[.str 0 0, .str 0 0]) rfl rfl;have e3':stN 2 (.ptr A7 0) (.agg [.str 0 0, .str 0 0]) H2=some (qZ,H3):=e3;have N1:=p1.next
 refine⟨H3, ?_,p0.trans ((p1.trans p2).fresh s3 (fun B hB=>by omega))⟩;have last:yJ (k+1) (zAr (dy (m+2)) n) [.ptr At 0,v,S (behind kv kv.length), .int .i64 ((kv.length:Nat):Int)] H'=some (.exit 0 [.ptr At 0,S (behind kv kv.length)],H'):=y9 (by simp only[zAr,eZ,hv.lnSl,qJ]);simp(maxSteps:=999999)(disch:=omega) only[f20,eZ,e,last,zJ4,e1,nxR,qX,nth,b2,e3']
theorem zCe {k:Str} : ∀ {l:Kvs},Srt l-> ∀j,j<Nd.whereN (leafOf l) k-> ∃h:j<l.length,ltS l[j].1 k=true
 | [],_,j,h=>by simp[Nd.whereN,leafOf]at h
 | (a,b)::l,hs,j,h=>by
  rw[Nd.where_cons hs]at h;split at h
  .rename_i ha
   cases j with
   | zero=>exact⟨by simp,ha⟩
   | succ j=>
    obtain⟨h1,h2⟩:=zCe (k:=k) hs.2 j (by omega);exact⟨by simpa using h1,by simpa using h2⟩
  .omega
theorem zI2 {k:Str} : ∀ {l:Kvs},Srt l-> ∀h:Nd.whereN (leafOf l) k<l.length,ltS l[Nd.whereN (leafOf l) k].1 k=false:=fun {l} hs h=>by
 have h1:=ZM (key:=k) hs;rw[zG h]at h1;have:=List.find?_some h1;simpa using this
theorem J4 {k v:Str} : ∀ {l:Kvs},Srt l->(∀p∈l,p.1≠k)->putP k v l=l.take (Nd.whereN (leafOf l) k)++(k,v)::l.drop (Nd.whereN (leafOf l) k)
 | [],_,_=>rfl
 | (a,b)::l,hs,hn=>by
  have hak:a≠k:=hn (a,b) (zH ..);have ih:=J4 (v:=v) hs.2 fun p hp=>hn p (zF _ hp)
  rw[Nd.where_cons hs];simp only[putP]
  cases ha:ltS a k with
  | true=>
   have h2:ltS k a=false:=uA ha;simp[h2,ih,Ne.symm hak,hak]
  | false=>
   have h2:ltS k a=true:=by
    cases hb:ltS k a with
    | true=>rfl
    | false=>exact absurd (ZN ha hb) hak
   simp[h2,Ne.symm hak,hak]
theorem cV {k:Str}{l:Kvs}(h:lookP k l=none): ∀p∈l,p.1≠k:=by
 induction l with
 | nil=>simp
 | cons q l ih=>
  obtain⟨a,b⟩:=q;simp only[lookP]at h;split at h
  .cases h
  .rename_i e;intro p hp;rcases List.mem_cons.1 hp with rfl | hp
   .exact e
   .exact ih h p hp
end Go.Eng.Sh
end
section
namespace Go.Eng
theorem j9.stk {k e n:Nat}{H:AH}{v:AV}{l:List AV}(h:j9 k e H v n l): ∃e',Stk k e' H v n l:=by
 rcases h with⟨h0,⟨rfl,rfl⟩ | ⟨A,rfl,hA,hg⟩⟩ | ⟨h0,A,e',g,rfl,hA,hg,hn0⟩
 .exact⟨e,h0, .inl ⟨rfl,rfl⟩⟩
 .exact⟨e,h0, .inr ⟨A,1,l,true,n,rfl,hA,hg,h0,Nat.le_refl _,zO (by omega), .inr ⟨rfl,rfl⟩⟩⟩
 .exact⟨e',h0, .inr ⟨A,2*n,l,g,n,rfl,hA,hg,h0,Nat.le_refl _,zO (by omega), .inl rfl⟩⟩
theorem j9.hi {k e n i:Nat}{H:AH}{v:AV}{l:List AV}(h:j9 k e H v n l)(hpos:0<k)(hi:i<=n): ∃r,kX k v none (some (.int .i64 (i:Nat))) none H=some r/\Rw k H r i (l.take (i*k)):=by
 obtain⟨e',hs⟩:=h.stk;obtain⟨r,h1,h2,_⟩:=hs.cut hpos hi .i64;exact⟨r,h1,h2.row⟩
end Go.Eng
namespace Go.Eng.Sh
open Go.Nd (Ptr sumL leafOf Kvs Srt mayK putP delP lookP)
open Go.Bt
theorem ZW: ∀(l:Kvs) (i:Nat),(l.flatMap prV).take (i*2)=(l.take i).flatMap prV
 | [],i=>by simp
 | p::l,0=>by simp
 | p::l,i+1=>by
  rw[zZ,List.take_succ_cons,zZ,<-ZW l i,show(i+1)*2=2+i*2 by omega,List.take_append,show(prV p).length=2 from rfl,zO (show(prV p).length<=2+i*2 by show 2<=_;omega),show 2+i*2 - 2=i*2 by omega]
theorem WV: ∀(l:Kvs) (i:Nat),(l.flatMap prV).drop (i*2)=(l.drop i).flatMap prV
 | [],i=>by simp
 | p::l,0=>by simp
 | p::l,i+1=>by
  rw[zZ,List.drop_succ_cons,<-WV l i,show(i+1)*2=2+i*2 by omega,<-List.drop_drop];rfl
theorem uK (l:Kvs):qY (l.flatMap prV)=true:=by
 rw[jA];intro x hx;obtain⟨p,_,hx⟩:=List.mem_flatMap.1 hx;simp only[prV,List.mem_cons,List.not_mem_nil,or_false]at hx;rcases hx with rfl | rfl<;>rfl
def PrG (H:AH)(v:AV)(l:Kvs):Prop:=j9 2 48 H v l.length (l.flatMap prV)/\(l=[]->v= .nilSlice)
theorem PrG.prs {H H':AH}{v:AV}{l:Kvs}(h:PrG H v l)(s:Prs H H'):PrG H' v l:=⟨h.1.mono s (fun _ _ x=>x),h.2⟩
theorem PrG.row {H:AH}{v:AV}{l:Kvs}(h:PrG H v l):zEh H v l:=h.1.row
theorem ZV {k:Str}{l:Kvs}(hs:Srt l):(lookP k l=none-> ∀h:Nd.whereN (leafOf l) k<l.length,l[Nd.whereN (leafOf l) k].1≠k)/\(∀v,lookP k l=some v-> ∃h:Nd.whereN (leafOf l) k<l.length,l[Nd.whereN (leafOf l) k].1=k):=by
 have h:=Nd.here_look k hs;have hkl:(leafOf l).keys.length=l.length:=qM ..;constructor
 .intro hn h1 e;exact cV hn _ (qC h1) e
 .intro v hv;rw[hv]at h;simp only[Nd.hereN,qS,zE,zJ]at h;have h1:Nd.whereN (leafOf l) k<l.length:=by omega
  refine⟨h1, ?_⟩;have:=h.2;rw[zT,zG h.1,Option.getD_some]at this;have e:(leafOf l).keys[Nd.whereN (leafOf l) k]'h.1=(l[Nd.whereN (leafOf l) k]'h1).1:=List.getElem_map ..;exact e.symm.trans this
theorem YM (k:Str)(l:Kvs):Nd.whereN (leafOf l) k<=l.length:=by
 have:=Nd.whereN_le (leafOf l) k;have hkl:(leafOf l).keys.length=l.length:=qM ..;omega
theorem BE {l:Kvs}(hs:Srt l){w:Nat}(h:w<l.length){k:Str}(hk:l[w].1=k):l=l.take w++[l[w]]++l.drop (w+1)/\(∀p∈l.take w,ltS p.1 k=true)/\ ∀p∈l.drop (w+1),ltS k p.1=true:=by
 have e:l=l.take w++[l[w]]++l.drop (w+1):=V6 (zG h);rw[e]at hs;obtain⟨h1,h2,h3⟩:=d7.1 hs;obtain⟨h4,h5,h6⟩:=d7.1 h1;refine⟨e,fun p hp=> ?_,fun p hp=> ?_⟩
 .have:=h6 p hp l[w] (by simp);rw[hk]at this;exact this
 .have:=h3 l[w] (qK _ (List.mem_singleton.2 rfl)) p hp;rw[hk]at this;exact this
theorem zK8 {l:Kvs}(hs:Srt l){w:Nat}(h:w<l.length){k:Str}(v:Str)(hk:l[w].1=k):putP k v l=l.take w++(k,v)::l.drop (w+1):=by
 obtain⟨e,h1,h2⟩:=BE hs h hk
 conv=>lhs;rw[e]
 rw[zFj h1 h2];have:putP k v [l[w]]=[(k,v)]:=by
  have e2:l[w]=(k,l[w].2):=by rw[<-hk]
  rw[e2];simp[putP]
 rw[this];simp
theorem zKA {l:Kvs}(hs:Srt l){w:Nat}(h:w<l.length){k:Str}(hk:l[w].1=k):delP k l=l.take w++l.drop (w+1):=by
 obtain⟨e,h1,h2⟩:=BE hs h hk
 conv=>lhs;rw[e]
 rw[zH4 h1 h2];have:delP k [l[w]]=[]:=by
  have e2:l[w]=(k,l[w].2):=by rw[<-hk]
  rw[e2];simp[delP]
 rw[this];simp
def GrP (H:AH)(v:AV)(l:Kvs):Prop:=j9 2 48 H v l.length (l.flatMap prV)
theorem GrP.prs {H H':AH}{v:AV}{l:Kvs}(h:GrP H v l)(s:Prs H H'):GrP H' v l:=h.mono s (fun _ _ x=>x)
theorem GrP.row {H:AH}{v:AV}{l:Kvs}(h:GrP H v l):zEh H v l:=j9.row h
theorem GrP.hi {H:AH}{v:AV}{l:Kvs}(h:GrP H v l){i:Nat}(hi:i<=l.length): ∃r,kX 2 v none (some (.int .i64 (i:Nat))) none H=some r/\Rw 2 H r i ((l.flatMap prV).take (i*2)):=j9.hi h (by decide) hi
theorem loG {H:AH}{v:AV}{l:Kvs}(h:GrP H v l){i:Nat}(hi:i<=l.length): ∃r,kX 2 v (some (.int .i64 (i:Nat))) none none H=some r/\zEh H r (l.drop i):=by
 by_cases hlt:i<l.length
 .obtain⟨r,e1,w,_⟩:=ZF h (by decide) hlt .i64;rw[WV]at w;exact⟨r,e1,by rw[zEh,zU];exact w⟩
 .obtain rfl:i=l.length:=by omega
  by_cases h0:0<l.length
  .obtain⟨r,e1,w⟩:=Y1 h (by decide) h0 .i64;exact⟨r,e1,by rw[List.drop_length];exact w⟩
  .have hl:l=[]:=zL (by omega);subst hl;rcases id h with⟨_,⟨rfl,_⟩ | ⟨A,rfl,hA,hg⟩⟩ | ⟨_,A,e',g,rfl,hA,hg,_⟩
   .exact⟨.nilSlice,rfl,Rw.nil _ _⟩
   .refine⟨.slice A 0 0 1, ?_,GrP.row h⟩;show kX 2 (.slice A 0 0 1) (some (.int .i64 (.ofNat 0))) none none H=_;have hg':H.h.get A=some (.cells [] 48 2 true):=hg;simp only[kX,yT,dI,hg'];rfl
   .refine⟨.slice A 0 0 0, ?_,GrP.row h⟩;show kX 2 (.slice A 0 0 0) (some (.int .i64 (.ofNat 0))) none none H=_;have hg':H.h.get A=some (.cells [] e' 2 g):=hg;simp only[kX,yT,dI,hg'];rfl
theorem zLK {H:AH}{v:AV}{l:Kvs}(hk:H.ok)(h:GrP H v l){j k:Nat}(hj:j<=l.length)(hkl:k<=l.length)(hl:l.length<=100000000)(a x:Str):
  ∃H1 A1 r1 r2 w1 H2 A2 H3 w2 H4 w3 H5,(∀(mk:Nat->AV) (K:AV->AH->Rs),bA (some (.cells [] 48 2 false,mk)) H K=K (mk A1) H1)/\kX 2 v none (some (.int .i64 (j:Nat))) none H1=some r1/\(∀(mk:Nat->AV) (K:AV->AH->Rs),bA (some (.cells [S a,S x] 48 2 false,mk)) H1 K=K (mk A2) H2)/\kX 2 v (some (.int .i64 (k:Nat))) none none H2=some r2/\
   apP 48 2 32 (.slice A1 0 0 0) r1 H2=some (w1,H3)/\kX 2 v (some (.int .i64 (k:Nat))) none none H3=some r2/\aveq r2 r2=true/\
   apP 48 2 32 w1 (.slice A2 0 1 2) H3=some (w2,H4)/\kX 2 v (some (.int .i64 (k:Nat))) none none H4=some r2/\apP 48 2 32 w2 r2 H4=some (w3,H5)/\Prs H H1/\Prs H H2/\Prs H H3/\Prs H H4/\Prs H H5/\GrP H5 w3 (l.take j++(a,x)::l.drop k)/\ ∀B,Blk w3 B->H.next<=B:=by
 obtain⟨H1,A1,b1,p1,g1,m1,n1⟩:=box hk (.cells [] 48 2 false);have h1:=h.prs p1;obtain⟨r1,c1,q1⟩:=h1.hi hj;rw[ZW]at q1;obtain⟨H2,A2,b2,p2,g2,m2,n2⟩:=box p1.ok (.cells [S a,S x] 48 2 false);have P2:=p1.trans p2;have h2:=h.prs P2;obtain⟨r2,c2,q2⟩:=loG h2 hkl;have G1:j9 2 48 H2 (.slice A1 0 0 0) 0 []:= .inr ⟨rfl,A1,48,false,rfl,by have:=p2.next;omega,Prs.get p2 p1.ok g1,rfl⟩
 obtain⟨w1,H3,e3,G3,s3,f3⟩:=G1.app (bytes:=32) p2.ok (by decide) (Rw.prs q1 p2).srcOf q1.len (uK _) (by omega) (by decide);have N1:=p1.next;have N2:=p2.next;have N3:=s3.next
 have P3:Prs H H3:=P2.fresh s3 (fun B hB=>by rw[Blk.slice.1 hB];exact m1);have h3:=h.prs P3;have g23:H3.h.get A2=some (.cells [S a,S x] 48 2 false):=by
  rw[s3.keep _ (p2.ok.lt g2) (fun hB=>by have:=Blk.slice.1 hB;omega)];exact g2
 have hsrc:srcOf 2 (.slice A2 0 1 2) H3=some (1,[S a,S x]):=by simp only[srcOf,g23];rfl
 obtain⟨w2,H4,e4,G4,s4,f4⟩:=G3.app (bytes:=32) (m:=1) (new:=[S a,S x]) s3.ok (by decide) hsrc rfl rfl (by omega) (by decide);have N4:=s4.next
 have fw1: ∀B,Blk w1 B->H.next<=B:=fun B hB=>by
  rcases f3 B hB with e | e
  .rw[Blk.slice.1 e];exact m1
  .omega
 have P4:Prs H H4:=P3.fresh s4 fw1;have h4:=h.prs P4;have q24:zEh H4 r2 (l.drop k):=by
  have s24:Stp (fun B=>H.next<=B) H2 H4:=⟨s4.ok,by omega,fun B hB hS=>by
   rw[P4.keep B (by omega) (fun x=>x),P2.keep B (by omega) (fun x=>x)]⟩
  exact Rw.stp q2 s24 (fun B hB hge=>by
   have:=h.lt (cN c2 B hB);omega)
 obtain⟨w3,H5,e5,G5,s5,f5⟩:=G4.app (bytes:=32) s4.ok (by decide) q24.srcOf q24.len (uK _) (by simp;omega) (by decide);have fw2: ∀B,Blk w2 B->H.next<=B:=fun B hB=>by
  rcases f4 B hB with e | e
  .exact fw1 B e
  .omega
 have same: ∀ {H':AH},GrP H' v l->kX 2 v (some (.int .i64 (k:Nat))) none none H'=some r2:=fun {H'} h'=>by
  rw[xD h2 h' (by decide)];exact c2
 refine⟨H1,A1,r1,r2,w1,H2,A2,H3,w2,H4,w3,H5,b1,c1,b2,c2,e3,same h3,yN q2,e4,same h4,e5,p1,P2,P3,P4,P4.fresh s5 fw2, ?_,fun B hB=> ?_⟩
 .have hlen:0+j+1+(l.drop k).length=(l.take j++(a,x)::l.drop k).length:=by
   simp only[zM,zQ,zP,zU];omega
  rw[hlen]at G5;have hfl:[]++(l.take j).flatMap prV++[S a,S x]++(l.drop k).flatMap prV=(l.take j++(a,x)::l.drop k).flatMap prV:=by
   simp[prV]
  rw[hfl]at G5;exact G5
 .rcases f5 B hB with e | e
  .exact fw2 B e
  .omega
theorem zMl {H:AH}{v:AV}{l:Kvs}(hk:H.ok)(h:GrP H v l){j k:Nat}(hj:j<=l.length)(hkl:k<=l.length)(hl:l.length<=100000000):
  ∃H1 A1 r1 r2 w1 H3 w3 H5,(∀(mk:Nat->AV) (K:AV->AH->Rs),bA (some (.cells [] 48 2 false,mk)) H K=K (mk A1) H1)/\kX 2 v none (some (.int .i64 (j:Nat))) none H1=some r1/\kX 2 v (some (.int .i64 (k:Nat))) none none H1=some r2/\
   apP 48 2 32 (.slice A1 0 0 0) r1 H1=some (w1,H3)/\kX 2 v (some (.int .i64 (k:Nat))) none none H3=some r2/\aveq r2 r2=true/\apP 48 2 32 w1 r2 H3=some (w3,H5)/\Prs H H1/\Prs H H3/\Prs H H5/\GrP H5 w3 (l.take j++l.drop k)/\ ∀B,Blk w3 B->H.next<=B:=by
 obtain⟨H1,A1,b1,p1,g1,m1,n1⟩:=box hk (.cells [] 48 2 false);have h1:=h.prs p1;obtain⟨r1,c1,q1⟩:=h1.hi hj;rw[ZW]at q1;obtain⟨r2,c2,q2⟩:=loG h1 hkl;have G1:j9 2 48 H1 (.slice A1 0 0 0) 0 []:= .inr ⟨rfl,A1,48,false,rfl,n1,g1,rfl⟩;obtain⟨w1,H3,e3,G3,s3,f3⟩:=G1.app (bytes:=32) p1.ok (by decide) q1.srcOf q1.len (uK _) (by omega) (by decide);have N1:=p1.next;have N3:=s3.next
 have P3:Prs H H3:=p1.fresh s3 (fun B hB=>by rw[Blk.slice.1 hB];exact m1);have h3:=h.prs P3;have fw1: ∀B,Blk w1 B->H.next<=B:=fun B hB=>by
  rcases f3 B hB with e | e
  .rw[Blk.slice.1 e];exact m1
  .omega
 have q23:zEh H3 r2 (l.drop k):=by
  have s13:Stp (fun B=>H.next<=B) H1 H3:=⟨s3.ok,by omega,fun B hB hS=>by
   rw[P3.keep B (by omega) (fun x=>x),p1.keep B (by omega) (fun x=>x)]⟩
  exact Rw.stp q2 s13 (fun B hB hge=>by
   have:=h.lt (cN c2 B hB);omega)
 obtain⟨w3,H5,e5,G5,s5,f5⟩:=G3.app (bytes:=32) s3.ok (by decide) q23.srcOf q23.len (uK _) (by simp;omega) (by decide);have same:kX 2 v (some (.int .i64 (k:Nat))) none none H3=some r2:=by
  rw[xD h1 h3 (by decide)];exact c2
 refine⟨H1,A1,r1,r2,w1,H3,w3,H5,b1,c1,c2,e3,same,yN q2,e5,p1,P3,P3.fresh s5 fw1, ?_,fun B hB=> ?_⟩
 .have hlen:0+j+(l.drop k).length=(l.take j++l.drop k).length:=by
   simp only[zM,zQ,zU];omega
  rw[hlen]at G5;have hfl:[]++(l.take j).flatMap prV++(l.drop k).flatMap prV=(l.take j++l.drop k).flatMap prV:=by simp
  rw[hfl]at G5;exact G5
 .rcases f5 B hB with e | e
  .exact fw1 B e
  .omega
end Go.Eng.Sh
end
section
namespace Go.Eng
theorem zAU {w:World}{base n:Nat}{a:Addr}{cs:List Value}(h:w.cells? base a n=some cs)(hn:0<n):a.spot=none/\ ∃arr e fz,w.heap[a.block]? =some (.cells arr e fz)/\ ∀j,j<n->arr[a.off+j]? =cs[j]? :=by
 obtain⟨_,hl,hc⟩:=World.cells?_some h;have h0:=hc 0 hn;rw[zG (by omega)]at h0;obtain⟨c1,arr,te,fz,hg,_⟩:=zAV h0;have hsp:a.spot=none:=by simpa[Addr.add]using c1
 obtain⟨b,o,sp⟩:=a;simp only at hsp;subst hsp;have hb:(Addr.add ⟨b,o,none⟩ 0).block=b:=by simp[Addr.add]
 rw[hb]at hg;refine⟨rfl,arr,te,fz,hg,fun j hj=> ?_⟩;have hj':=hc j hj;rw[zG (by omega)]at hj'⊢;obtain⟨_,arr',te',fz',hg',hv⟩:=zAV hj';rw[jU]at hg' hv;simp only at hg' hv;rw[hg]at hg';simp only[zC,Obj.cells.injEq]at hg';rw[<-hg'.1]at hv;exact hv
theorem zBH {α β:Type}{k:Nat}{g:α->List β}(hg: ∀s,(g s).length=k): ∀l:List α,(l.flatMap g).length=l.length*k
 | []=>by simp
 | s::l=>by rw[zZ,zM,zBH hg l,hg,zP,Nat.succ_mul,Nat.add_comm]
theorem zG5 {α β:Type}{k:Nat}{g:α->List β}(hg: ∀s,(g s).length=k): ∀(l:List α) (i j:Nat) (hi:i<l.length),j<k->(l.flatMap g)[i*k+j]? =(g l[i])[j]?
 | s::l,0,j,_,hj=>by
  rw[zZ,Nat.zero_mul,Nat.zero_add,qF (by rw[hg];exact hj)];rfl
 | s::l,i+1,j,h,hj=>by
  have ih:=zG5 hg l i j (by simpa using h) hj;rw[zZ,qG (by rw[hg,Nat.succ_mul];omega)];have:(i+1)*k+j - (g s).length=i*k+j:=by rw[hg,Nat.succ_mul];omega
  rw[this,ih];rfl
theorem srows_arg {α:Type}[Inhabited α]{H:Type}{enc:TypeId×Value->H}{P:Program}{w:World}{base:Nat}{held:Bool}{fuel:Nat}{v:Value}{x:DataW H×List MemPlace}{t e:TypeId}{k:Nat}(hk:0<k){vals:α->List Value}(hvl: ∀s,(vals s).length=k){good:α->Prop}(ht:P.underlying t=some (.slice e))(hc:P.cellsOf e=k)
  (hd: ∀ {fuel:Nat} {cs:List Value} {x:DataW H×List MemPlace},DataW.trod enc P w base (fun _=>true) held fuel e cs=some x-> ∃s,cs=vals s/\good s)
  (h:DataW.trod enc P w base (fun _=>true) held fuel t [v]=some x):
  ∃l:List α,Rw k (H0 w) (gI w.heap.size v) l.length (l.flatMap fun s=>(vals s).map (cellAV w.heap.size))/\ ∀s∈l,good s:=by
 have hgl: ∀s,((vals s).map (cellAV w.heap.size)).length=k:=fun s=>by rw[qM,hvl]
 rcases Deep.open_slice ht h with⟨h1,_⟩ | ⟨a,len,cap,m,n,D,Pl,h1,_,hl,_,hm,_,hx⟩
 .simp only[List.cons.injEq,and_true]at h1;subst h1;exact⟨[],⟨by simp, .inl ⟨rfl,rfl⟩⟩,by simp⟩
 .simp only[List.cons.injEq,and_true]at h1;subst h1;simp only[if_true]at hm;subst hm;by_cases h0:m=0
  .subst h0;obtain rfl:len=0:=by omega
   exact⟨[],⟨by simp, .inr (.inl ⟨rfl,rfl⟩)⟩,by simp⟩
  .simp only[hc]at hx;have hp: ∀i,i<m-> ∃p:α,w.cells? base (a.add (i*k)) k=some (vals p)/\good p:=fun i hi=>by
    obtain⟨cs,k1,k2⟩:=hx i hi;obtain⟨p,rfl,hs⟩:=hd k2;exact⟨p,k1,hs⟩
   obtain⟨Px,hP⟩:=Deep.choose_lt hp;obtain⟨b,o,sp⟩:=a;obtain⟨c1,arr,te,fz,hg,hat0⟩:=zAU (hP 0 (by omega)).1 hk;have hsp:sp=none:=by simpa[Addr.add]using c1
   subst hsp;rw[jU]at hg;simp only at hg;have hat: ∀i,i<m-> ∀j,j<k->arr[o+i*k+j]? =(vals (Px i))[j]? :=fun i hi j hj=>by
    obtain⟨_,arr',te',fz',hg',hv⟩:=zAU (hP i hi).1 hk;rw[jU]at hg' hv;simp only at hg' hv;rw[hg]at hg';simp only[zC,Obj.cells.injEq]at hg';rw[hg'.1];exact hv j hj
   have hmk:(m - 1)*k+k=m*k:=by rw[<-Nat.succ_mul,Nat.succ_eq_add_one,Nat.sub_add_cancel (by omega)]
   have hsz:o+m*k<=arr.size:=by
    have h2:=hat (m - 1) (by omega) (k - 1) (by omega);rw[zG (by rw[hvl];omega)]at h2;have:=(Array.getElem?_eq_some_iff.1 h2).1;omega
   have hlk:len*k<=m*k:=qH _ (by omega);rw[zJG w (by omega) (zFX hg)];refine⟨(List.range len).map Px,⟨zBH hgl _, .inr (.inr ⟨b,o,2*m,_,te,0,false,by simp,zJW w hg,zFX hg,by simp;omega, ?_⟩)⟩, ?_⟩
   .apply List.ext_getElem?;intro q;simp only[qM,List.length_range];by_cases hq:q<len*k
    .have hqi:q / k<len:=Nat.div_lt_of_lt_mul (by rw[Nat.mul_comm];exact hq);have hqj:q % k<k:=Nat.mod_lt _ hk;have e1:q / k*k+q % k=q:=by rw[Nat.mul_comm];exact Nat.div_add_mod q k
     rw[qQ hq,qR,qT,Array.getElem?_toList];have h3:=hat (q / k) (by omega) (q % k) hqj;rw[Nat.add_assoc,e1]at h3;have h4:=zG5 hgl ((List.range len).map Px) (q / k) (q % k) (by simpa using hqi) hqj;rw[e1]at h4;rw[h3,h4,qT];simp only[List.getElem_map,List.getElem_range]
    .rw[List.getElem?_eq_none (by simp;omega),List.getElem?_eq_none (by rw[zBH hgl];simp;omega)]
   .intro p hp;obtain⟨i,hi,rfl⟩:=List.mem_map.1 hp;exact(hP i (by have:=List.mem_range.1 hi;omega)).2
end Go.Eng
end
section
set_option maxRecDepth 20000
namespace Go.Eng.Sh
open Go.Nd (Ptr sumL leafOf Kvs Srt mayK putP delP lookP)
open Go.Bt Go.Bk
def rootOk (p:Ptr):Prop:=Nd.mayP p=true/\Nd.sumOk p/\p.at_≠1
theorem zBp:rootOk pZ:=⟨rfl,by simp[Nd.sumOk,pZ],by simp[pZ]⟩
theorem zIl {E:Ev}{p:Ptr}{nd:Nd.Node}(h:E.K p=some nd):rootOk p:=by
 have h1:=vJ h;obtain⟨a,birth,kind,body,rfl,_⟩:=Ev.K_iff.1 h;exact⟨Nd.kidOk_may h1.1,⟨by simp[u4],by have:=zKW (sealB kind birth body);simp only[u4];omega⟩,by omega⟩
theorem vU.rootOk {E:Ev}{p:Ptr}{kv:Kvs}{T:List Ptr}(h:vU E [] p kv T):Sh.rootOk p:=by
 rcases h with⟨rfl,_⟩ | ⟨h,nd,t,S,hq,_⟩
 .exact zBp
 .obtain⟨s,rfl,h1 | ⟨_,h1⟩⟩ | ⟨_,hK⟩:=wS hq
  .simp[yA]at h1
  .simp[yA]at h1
  .exact zIl hK
theorem zCB (D:Dyn)(n:Nat)(hn:100<=n){E:Ev}{H:AH}(hk:H.ok){Ad:Nat}{p:Ptr}{kv:Kvs}{T:List Ptr}(hd: ∃On Nw wv ds,DkI H Ad E.nb E.ws On Nw wv ds)(hr:vU { E with dl:=[] } [] p kv T):
  ∃H' At M W,f18 D n [.ptr Ad 0, .nilPtr, .agg (y7 p)] H=some (.tuple [.ptr At 0, .int .i64 ((0:Nat):Int)],H')/\Prs H H'/\c9 (.ptr Ad 0) .nilPtr { E with dl:=[] } H' At M 0 W p [] kv T/\(∀B,W B->H.next<=B):=by
 obtain⟨r1',r2',r3'⟩:=hr.rootOk;obtain⟨H1,A5,b1,p1,g1,m1,n1⟩:=box hk (.cells (y7 p) 42 1 false);obtain⟨H2,e2,p2⟩:=zAH D n p1.ok r1' r2' hn;obtain⟨H3,M,b3,p3,g3,m3,n3⟩:=box p2.ok (.map [10] []);obtain⟨H4,At,b4,p4,g4,m4,n4⟩:=box p3.ok (.cells (jV (.ptr Ad 0) .nilPtr p M 0 .nilSlice) 140 1 false);have N1:=p1.next;have N2:=p2.next;have N3:=p3.next
 have P12:=p1.trans p2;have P4:=(P12.trans p3).trans p4;obtain⟨On,Nw,wv,ds,dk⟩:=hd;refine⟨H4,At,M,fun B=>B=At\/B=M\/Blk .nilSlice B, ?_,P4,⟨.nilSlice,[],0,rfl,⟨p4.ok,g4,Prs.get p4 p3.ok g3,trivial,⟨Ad,On,Nw,wv,ds,rfl,dk.prs hk P4⟩, .inl rfl, .inl (Own.nil ..),by simp,by simp⟩,fun s nd h=>by simp[yA]at h,by simp,by omega,by simp,hr,fun B=>Iff.rfl⟩,fun B hB=> ?_⟩
 .have r1:ldN 3 (.ptr A5 0) H1=some (.agg (y7 p)):=by rw[y6 g1];rfl
  have r2:ldN 3 (.ptr A5 0) H2=some (.agg (y7 p)):=by rw[y6 (Prs.get p2 p1.ok g1)];rfl
  have r3:Eng.ld1 (.ptr A5 0) H2=some (.int .i64 p.at_):=by rw[qV (Prs.get p2 p1.ok g1)];rfl
  have t00: ¬(((0:Nat):Int)≠((0:Nat):Int)):=by omega
  have h01: ¬p.at_=((1:Nat):Int):=by omega
  have bs:xH [(0,1),(1,1),(2,3),(5,1),(6,1),(7,1)] [.nilPtr, .nilPtr, .int .i64 ((0:Nat):Int), .int .i64 ((0:Nat):Int), .int .u64 ((0:Nat):Int), .nilMap, .int .u64 ((0:Nat):Int), .nilSlice] [(0, .ptr Ad 0),(1, .nilPtr),(2, .agg (y7 p)),(3, .map M)]=some (.agg (jV (.ptr Ad 0) .nilPtr p M 0 .nilSlice)):=rfl;simp(maxSteps:=999999)(disch:=omega) only[f18,eZ,b1,cq,r1,e2,qX,nth,t00,r3,h01,r2,mkM,b3,bs,b4]
 .rcases hB with rfl | rfl | e
  .omega
  .omega
  .exact(Blk.nil.1 e).elim
structure Wld (E:Ev)(H:AH)(Wd Ad As At M L txg la:Nat)(is:Nat->Nat)(V W:Nat->Prop)(root:Ptr)(q:PN)(kv:Kvs)(T:List Ptr):Prop where
 tx:c9 (.ptr Ad 0) .nilPtr E H At M L W root q kv T
 ds:Dsk H Ad As E.nb E.ws la is V
 us: ∀r∈dsk T++E.dl,is r.at_.toNat≠0
 gW: ∃lv,H.h.get Wd=some (.cells [.ptr Ad 0, .ptr As 0, .ptr At 0, .int .i64 ((txg:Nat):Int),lv] 39 1 false)/\GrP H lv kv
theorem WH {E:Ev}{H:AH}{Ad As At M L la nb:Nat}{ws:Ws}{is:Nat->Nat}{V W:Nat->Prop}{d c:AV}{root:Ptr}{q:PN}{kv:Kvs}{T:List Ptr}(tx:c9 d c E H At M L W root q kv T)(ds:Dsk H Ad As nb ws la is V){B:Nat}{o:AObj}(hB:H.h.get B=some o)(h:(∃l e g,o= .cells l e 2 g)\/ ∃l,o= .cells l 39 1 false): ¬W B/\ ¬V B:=by
 obtain⟨dr,es,last,_,ti,_,_,_,_,_,hW⟩:=tx;obtain⟨On,Nw,wv,dm,dk,sp,hV,_⟩:=ds;obtain⟨c8,gS⟩:=sp.bk;have n3: ∀l e g,o≠ .cells l e 3 g:=by rcases h with⟨_,_,_,rfl⟩ | ⟨_,rfl⟩<;>simp
 have n5: ∀l e g,o≠ .cells l e 513 g:=by rcases h with⟨_,_,_,rfl⟩ | ⟨_,rfl⟩<;>simp
 have nm: ∀l e,o≠ .map l e:=by rcases h with⟨_,_,_,rfl⟩ | ⟨_,rfl⟩<;>simp
 have nT: ∀l,o≠ .cells l 140 1 false:=by rcases h with⟨_,_,_,rfl⟩ | ⟨_,rfl⟩<;>simp
 have nS: ∀l,o≠ .cells l 145 1 false:=by rcases h with⟨_,_,_,rfl⟩ | ⟨_,rfl⟩<;>simp
 have nD: ∀l,o≠ .cells l 151 1 false:=by rcases h with⟨_,_,_,rfl⟩ | ⟨_,rfl⟩<;>simp
 constructor
 .intro hw;rcases(hW B).1 hw with rfl | rfl | e
  .exact nT _ (Option.some.inj (hB.symm.trans ti.gT))
  .exact nm _ _ (Option.some.inj (hB.symm.trans ti.gM))
  .exact j9.nsep ti.dg hB (fun e' g=>n3 _ e' g) e
 .intro hv;rcases(hV B).1 hv with rfl | rfl | rfl | e
  .exact nS _ (Option.some.inj (hB.symm.trans gS))
  .exact nD _ (Option.some.inj (hB.symm.trans dk.gD))
  .exact nm _ _ (Option.some.inj (hB.symm.trans dk.gN))
  .exact n5 _ _ _ (Option.some.inj (hB.symm.trans (dk.ow.get e)))
theorem j9.get2 {k e n:Nat}{H:AH}{v:AV}{l:List AV}(h:j9 k e H v n l){B:Nat}(hB:Blk v B): ∃l e g,H.h.get B=some (.cells l e k g):=by
 rcases h with⟨_,⟨rfl,_⟩ | ⟨A,rfl,_,hg⟩⟩ | ⟨_,A,e',g,rfl,_,hg,_⟩
 .exact(Blk.nil.1 hB).elim
 .rw[Blk.slice.1 hB];exact⟨_,_,_,hg⟩
 .rw[Blk.slice.1 hB];exact⟨_,_,_,hg⟩
theorem vU.srt {E:Ev}{q:PN}{root:Ptr}{kv:Kvs}{T:List Ptr}(h:vU E q root kv T):Srt kv/\ ∀p∈kv,mayK p.1=true/\p.2.length<=200:=by
 rcases h with⟨_,rfl,_⟩ | ⟨h,nd,t,S,_,_,w,_,rfl,_⟩
 .exact⟨trivial,by simp⟩
 .refine⟨zN8 w, ?_⟩
  cases h with
  | zero=>exact fun p hp=>⟨(w.1.2 p hp).2.2.1,(w.1.2 p hp).2.2.2⟩
  | succ h=>
   intro p hp;obtain⟨x,hx,hpx⟩:=List.mem_flatMap.1 hp;obtain⟨i,hi,rfl⟩:=qU hx;exact zOc (w.1.2.2.at (zG hi)) p hpx
theorem zHx (D:Dyn)(n:Nat)(H:AH):f36 D n [.int .i64 ((0:Nat):Int)] H=some (.tuple [.nilPtr, .int .i64 ((1:Nat):Int)],H):=by
 have a1:((0:Nat):Int)< ((1:Nat):Int):=by omega
 simp(maxSteps:=999999)(disch:=omega) only[f36,eZ,a1]
theorem zHq (D:Dyn)(n:Nat)(hn:100<=n){H:AH}(hk:H.ok): ∃H' Wd Ad As At M V W,f15 D n [.int .i64 ((0:Nat):Int)] H=some (.ptr Wd 0,H')/\Prs H H'/\Wld ⟨512,[],[]⟩ H' Wd Ad As At M 0 0 0 zKc V W pZ [] [] []/\(∀B,V B\/W B\/B=Wd->H.next<=B):=by
 obtain⟨H1,Ad,On,Nw,e1,p1,m1,mO,mN,dk⟩:=zJe D n hk (nb:=512) (by omega) (by omega);obtain⟨H2,As,e2,p2,m2,sp⟩:=zL5 D n hn p1.ok (nb:=512) (by omega) (by omega);have e3:=zHx D n H2;have dk2:=dk.prs p1.ok p2;obtain⟨H4,At,M,W,e4,p4,tx,hWn⟩:=zCB D n hn (E:=⟨512,[],[]⟩) p2.ok (p:=pZ) (kv:=[]) (T:=[]) ⟨On,Nw,_,_,dk2⟩ (.inl ⟨rfl,rfl,rfl⟩);obtain⟨H5,Wd,b5,p5,g5,m5,n5⟩:=box p4.ok (.cells [.ptr Ad 0, .ptr As 0, .ptr At 0, .int .i64 ((0:Nat):Int), .nilSlice] 39 1 false);have N1:=p1.next;have N2:=p2.next;have N4:=p4.next
 have P25:=p4.trans p5;have sp5:=sp.stp p2.ok P25 fun x=>x
 have dk5:=dk2.prs p2.ok P25;refine⟨H5,Wd,Ad,As,At,M,fun B=>B=As\/B=Ad\/B=Nw\/Blk .nilSlice B,W, ?_,(p1.trans p2).trans P25,⟨?_,⟨On,Nw,_,_,dk5,sp5,fun B=>Iff.rfl,by decide,by decide,by decide, .inr rfl,⟨by decide,by decide⟩, ?_⟩,by simp[dsk],⟨.nilSlice,g5, .inl (Own.nil ..)⟩⟩,fun B hB=> ?_⟩
 .have t00: ¬(((0:Nat):Int)≠((0:Nat):Int)):=by omega
  have bz:xH [(0,1),(1,1),(2,1)] [.int .i64 ((0:Nat):Int), .int .i64 ((0:Nat):Int), .int .u64 ((0:Nat):Int)] []=some (.agg (y7 pZ)):=rfl;have bs:xH [(0,1),(1,1),(2,1),(3,1),(4,1)] [.nilPtr, .nilPtr, .nilPtr, .int .i64 ((0:Nat):Int), .nilSlice] [(0, .ptr Ad 0),(1, .ptr As 0),(2, .ptr At 0)]=some (.agg [.ptr Ad 0, .ptr As 0, .ptr At 0, .int .i64 ((0:Nat):Int), .nilSlice]):=rfl;simp(maxSteps:=999999)(disch:=omega) only[f15,eZ,e1,e2,e3,qX,nth,bz,e4,t00,bs,b5]
 .obtain⟨dr,es,last,h1,h2,h3⟩:=tx;exact⟨dr,es,last,h1,h2.prs p5,h3⟩
 .have:=zDh zKc 0 512;show 0+cnt zKc 0 512<=990000;omega
 .rcases hB with(e | e | e | e) | e | e
  .omega
  .omega
  .omega
  .exact(Blk.nil.1 e).elim
  .have:=hWn B e;omega
  .omega
end Go.Eng.Sh
end
section
set_option maxRecDepth 20000
namespace Go.Eng.Sh
open Go.Nd (Ptr sumL leafOf Kvs Srt mayK putP delP lookP)
open Go.Bt Go.Bk
structure Sp where
 kd:Nat
 k:Str
 v:Str
 nr:Int
def spV (s:Sp):List AV:=[.int .u8 ((s.kd:Nat):Int),S s.k,S s.v, .int .i64 s.nr]
def vD (s:Sp)(kv:Kvs):Kvs:=if s.kd % 2=0 then(if cP s.k s.v then putP s.k s.v kv else kv)else(if mayK s.k then delP s.k kv else kv)
theorem zLT (D:Dyn)(n:Nat){H:AH}{Wd:Nat}{a b c d lv:AV}{kv:Kvs}(key:Str)(g:H.h.get Wd=some (.cells [a,b,c,d,lv] 39 1 false))(hl:zEh H lv kv)(hs:Srt kv)(hn:kv.length<n)(hb:kv.length<=100000000):
  f22 D n [.ptr Wd 0,S key] H=some (.int .i64 ((Nd.whereN (leafOf kv) key:Nat):Int),H):=by
 have r4:Eng.ld1 (.ptr Wd 4) H=some lv:=by rw[qV g];rfl
 have hw:=YM key kv;have lp: ∀d i n',i+d=Nd.whereN (leafOf kv) key->d<n'->yJ n' (zAq D n) [.ptr Wd 0,S key, .int .i64 ((i:Nat):Int)] H=some (.exit 0 [.int .i64 ((Nd.whereN (leafOf kv) key:Nat):Int)],H):=by
  intro d
  induction d with
  | zero=>
   intro i n' hi hn';obtain⟨n',rfl⟩: ∃m,n'=m+1:=⟨n' - 1,by omega⟩;obtain rfl:i=Nd.whereN (leafOf kv) key:=by omega
   refine y9 ?_;by_cases h:Nd.whereN (leafOf kv) key<kv.length
   .have hge:=zI2 hs h;obtain⟨A,o,i1,i2,i3,i4⟩:=hl.at h;have i3':Eng.ld1 (.ptr A (o+0)) H=some (S kv[Nd.whereN (leafOf kv) key].1):=i3;have hI:((Nd.whereN (leafOf kv) key:Nat):Int)< ((kv.length:Nat):Int):=by omega
    have hlt:YE .lss (S kv[Nd.whereN (leafOf kv) key].1) (S key)=some (.bool false):=by rw[UD,hge]
    simp(maxSteps:=999999)(disch:=omega) only[zAq,eZ,r4,hl.lnSl,hI,i1,i3',hlt]
   .have hI: ¬((Nd.whereN (leafOf kv) key:Nat):Int)< ((kv.length:Nat):Int):=by omega
    simp(maxSteps:=999999)(disch:=omega) only[zAq,eZ,r4,hl.lnSl,hI]
  | succ d ih=>
   intro i n' hi hn';obtain⟨n',rfl⟩: ∃m,n'=m+1:=⟨n' - 1,by omega⟩;obtain⟨h,hlt0⟩:=zCe (k:=key) hs i (by omega);obtain⟨A,o,i1,i2,i3,i4⟩:=hl.at h;have i3':Eng.ld1 (.ptr A (o+0)) H=some (S kv[i].1):=i3;have hI:((i:Nat):Int)< ((kv.length:Nat):Int):=by omega
   have hlt:YE .lss (S kv[i].1) (S key)=some (.bool true):=by rw[UD,hlt0]
   have hi1:((i:Nat):Int)+((1:Nat):Int)=((i+1:Nat):Int):=by omega
   refine(j5 ?_).trans (ih (i+1) n' (by omega) (by omega));simp(maxSteps:=999999)(disch:=omega) only[zAq,eZ,r4,hl.lnSl,hI,i1,i3',hlt,hi1]
 have hloop:=lp (Nd.whereN (leafOf kv) key) 0 n (by omega) (by omega);simp(maxSteps:=999999)(disch:=omega) only[f22,eZ,hloop,zJ2]
theorem Dsk.stp {S:Nat->Prop}{H H':AH}{Ad As nb la:Nat}{ws:Ws}{is:Nat->Nat}{V:Nat->Prop}(d:Dsk H Ad As nb ws la is V)(hk:H.ok)(s:Stp S H H')(hV: ∀B,V B-> ¬S B)(hO: ∀B ks es,H.h.get B=some (.map ks es)->S B->ks=[10]):Dsk H' Ad As nb ws la is V:=by
 obtain⟨On,Nw,wv,ds,dk,sp,hVi,r⟩:=d;exact⟨On,Nw,wv,ds,dk.stp hk s (hV _ ((hVi _).2 (.inr (.inl rfl)))) (fun h=>by have:=hO _ _ _ dk.gO h;simp at this) (hV _ ((hVi _).2 (.inr (.inr (.inl rfl))))) (fun B hB=>hV _ ((hVi _).2 (.inr (.inr (.inr hB))))),sp.stp hk s (hV _ ((hVi _).2 (.inl rfl))),hVi,r⟩
theorem c9.dsk {E:Ev}{H:AH}{Ad As At M L la nb:Nat}{ws:Ws}{is:Nat->Nat}{V W:Nat->Prop}{d c:AV}{root:Ptr}{q:PN}{kv:Kvs}{T:List Ptr}(tx:c9 d c E H At M L W root q kv T)(ds:Dsk H Ad As nb ws la is V):(∀B,V B-> ¬W B)/\ ∀B ks es,H.h.get B=some (.map ks es)->W B->ks=[10]:=by
 obtain⟨dr,es,last,_,ti,_,_,_,_,_,hW⟩:=tx;have h:=XX ti ds;refine⟨fun B hv hw=>h B ?_ hv,fun B ks es' hg hw=> ?_⟩
 .rcases(hW B).1 hw with e | e | e
  .exact .inl e
  .exact .inr (.inl e)
  .exact .inr (.inr (.inl e))
 .rcases(hW B).1 hw with rfl | rfl | e
  .rw[ti.gT]at hg;cases hg
  .rw[ti.gM]at hg;cases hg;rfl
  .exact absurd e (j9.nsep ti.dg hg (fun e' g=>by simp))
theorem Wld.tree {E E':Ev}{H H':AH}{Wd Ad As At M L L' txg la:Nat}{is:Nat->Nat}{V W W':Nat->Prop}{root root':Ptr}{q q':PN}{kv kv':Kvs}{T T':List Ptr}(w:Wld E H Wd Ad As At M L txg la is V W root q kv T)(tx:c9 (.ptr Ad 0) .nilPtr E' H' At M L' W' root' q' kv' T')(a:AdT W H W' H')(c:Chd E E' T T'):
  Dsk H' Ad As E'.nb E'.ws la is V/\(∀r∈dsk T'++E'.dl,is r.at_.toNat≠0)/\ ∃lv,H.h.get Wd=some (.cells [.ptr Ad 0, .ptr As 0, .ptr At 0, .int .i64 ((txg:Nat):Int),lv] 39 1 false)/\GrP H lv kv/\H'.h.get Wd=some (.cells [.ptr Ad 0, .ptr As 0, .ptr At 0, .int .i64 ((txg:Nat):Int),lv] 39 1 false)/\GrP H' lv kv:=by
 obtain⟨lv,gW,gl⟩:=w.gW;have hk:=w.tx.d.okH;obtain⟨h1,h2⟩:=w.tx.dsk w.ds;refine⟨?_,fun r hr=>w.us r (c.pm.mem_iff.1 hr),lv,gW,gl, ?_, ?_⟩
 .rw[c.nb,c.ws];exact w.ds.stp hk a.1 h1 h2
 .rw[a.1.keep _ (hk.lt gW) (WH w.tx w.ds gW (.inr ⟨_,rfl⟩)).1];exact gW
 .exact gl.mono a.1 fun B hB=>by
   obtain⟨l,e,g,h⟩:=j9.get2 gl hB;exact(WH w.tx w.ds h (.inl ⟨_,_,_,rfl⟩)).1
theorem Wld.prs {E:Ev}{H H':AH}{Wd Ad As At M L txg la:Nat}{is:Nat->Nat}{V W:Nat->Prop}{root:Ptr}{q:PN}{kv:Kvs}{T:List Ptr}(w:Wld E H Wd Ad As At M L txg la is V W root q kv T)(s:Prs H H'):Wld E H' Wd Ad As At M L txg la is V W root q kv T:=by
 obtain⟨lv,gW,gl⟩:=w.gW;have hk:=w.tx.d.okH;obtain⟨dr,es,last,h1,h2,h3⟩:=w.tx;exact⟨⟨dr,es,last,h1,h2.prs s,h3⟩,w.ds.prs hk s,w.us,lv,Prs.get s hk gW,gl.prs s⟩
theorem Wld.note {E:Ev}{H H':AH}{Wd Ad As At M L txg txg' la:Nat}{is:Nat->Nat}{V W:Nat->Prop}{root:Ptr}{q:PN}{kv:Kvs}{T:List Ptr}{lv:AV}(tx:c9 (.ptr Ad 0) .nilPtr E H At M L W root q kv T)(ds:Dsk H Ad As E.nb E.ws la is V)(us: ∀r∈dsk T++E.dl,is r.at_.toNat≠0){lv0:AV}(gW:H.h.get Wd=some (.cells [.ptr Ad 0, .ptr As 0, .ptr At 0, .int .i64 ((txg:Nat):Int),lv0] 39 1 false))(s:Stp (fun B=>B=Wd) H H')(g':H'.h.get Wd=some (.cells [.ptr Ad 0, .ptr As 0, .ptr At 0, .int .i64 ((txg':Nat):Int),lv] 39 1 false))(gl:GrP H lv kv):Wld E H' Wd Ad As At M L txg' la is V W root q kv T:=by
 have hk:=tx.d.okH;obtain⟨o1,o2⟩:=WH tx ds gW (.inr ⟨_,rfl⟩);have glW: ∀B,Blk lv B-> ¬B=Wd:=fun B hB e=>by
  obtain⟨l,e',g,h⟩:=j9.get2 gl hB;rw[e,gW]at h;simp at h
 obtain⟨dr,es,last,h1,ti,h3,h4,h5,h6,h7,hW⟩:=tx;have htd:=XX ti ds;refine⟨⟨dr,es,last,h1, ?_,h3,h4,h5,h6,h7,hW⟩,ds.stp hk s (fun B hB e=>o2 (e▸hB)) (fun B ks es' hg e=>by rw[e,gW]at hg;cases hg),us,lv,g',gl.mono s glW⟩;obtain⟨On,Nw,wv,dm,dk,sp,hV,_⟩:=ds.stp hk s (fun B hB e=>o2 (e▸hB)) (fun B ks es' hg e=>by rw[e,gW]at hg;cases hg);refine ti.wr s (fun B hB e=> ?_) dk;subst e;rcases hB with e | e | e | ⟨kv,hkv,e⟩
 .exact o1 ((hW _).2 (.inl e))
 .exact o1 ((hW _).2 (.inr (.inl e)))
 .exact o1 ((hW _).2 (.inr (.inr e)))
 .obtain⟨nd,hnd⟩:=ti.pq.node kv hkv;exact hnd.nblk gW (.inl ⟨_,_,_,_,rfl,fun _ _ h=>by cases h⟩) e
theorem st4 {H:AH}(hk:H.ok){Wd:Nat}{a b c d lv x:AV}(g:H.h.get Wd=some (.cells [a,b,c,d,lv] 39 1 false))(hx:isCell x=true): ∃H',stN 1 (.ptr Wd 4) x H=some (qZ,H')/\H'.h.get Wd=some (.cells [a,b,c,d,x] 39 1 false)/\Stp (fun B=>B=Wd) H H'/\H'.next=H.next:=by
 obtain⟨H1,e,g1,s,n⟩:=kJ hk g (o:=4) (x:=x) hx (by simp);exact⟨H1,e,g1,s,n⟩
theorem zKZ (m n:Nat)(hm:300000000<=m)(hn:300000000<=n){E:Ev}{H:AH}{Wd Ad As At M L txg la:Nat}{is:Nat->Nat}{V W:Nat->Prop}{root:Ptr}{q:PN}{kv:Kvs}{T:List Ptr}(s:Sp)(hkd:s.kd<256)(w:Wld E H Wd Ad As At M L txg la is V W root q kv T)(hL:L<=50000000)(hkv:kv.length<=1000000):
  ∃H' E' W' T' root' q',f16 (dy (m+2)) n [.ptr Wd 0, .agg (spV s)] H=some (.bool true,H')/\Wld E' H' Wd Ad As At M (L+200) txg la is V W' root' q' (vD s kv) T'/\AdT (fun B=>W B\/B=Wd) H (fun B=>W' B\/B=Wd) H'/\Chd E E' T T':=by
 have hk:=w.tx.d.okH;obtain⟨hs,hmy⟩:Srt kv/\ ∀p∈kv,mayK p.1=true/\p.2.length<=200:=by
  obtain⟨_,_,_,_,_,_,_,_,_,hr,_⟩:=w.tx;exact hr.srt
 obtain⟨H1,A3,b1,p1,g1,m1,n1⟩:=box hk (.cells (spV s) 29 1 false);have N1:=p1.next
 have w1:=w.prs p1;have hk1:=p1.ok;obtain⟨lv,gW,gl⟩:=w1.gW;have lW:=hk1.lt gW;have x1:Eng.ld1 (.ptr A3 1) H1=some (S s.k):=by rw[qV g1];rfl
 have x2:Eng.ld1 (.ptr A3 2) H1=some (S s.v):=by rw[qV g1];rfl
 have x0:Eng.ld1 (.ptr A3 0) H1=some (.int .u8 ((s.kd:Nat):Int)):=by rw[qV g1];rfl
 have x00:Eng.ld1 (.ptr A3 (0+0)) H1=some (.int .u8 ((s.kd:Nat):Int)):=x0;have hfind:=zLT (dy (m+2)) n s.k gW gl.row hs (by omega) (by omega);obtain⟨y,hy⟩: ∃y,y=Nd.whereN (leafOf kv) s.k:=⟨_,rfl⟩;have hyl:y<=kv.length:=by rw[hy];exact YM _ _
 rw[<-hy]at hfind;have r4:Eng.ld1 (.ptr Wd 4) H1=some lv:=by rw[qV gW];rfl
 have r2:Eng.ld1 (.ptr Wd 2) H1=some (.ptr At 0):=by rw[qV gW];rfl
 have hln:lnSl lv=some (.int .i64 ((kv.length:Nat):Int)):=gl.row.lnSl;obtain⟨hs1,hs2⟩:=ZV (k:=s.k) hs;rw[<-hy]at hs1 hs2;simp only[spV]at b1 g1;have his: ∀K:AV->AH->Rs,(jn (if((y:Nat):Int)< ((kv.length:Nat):Int)then bV (dK 2 lv (.int .i64 ((y:Nat):Int))) fun x28=>bV (fAd 0 x28) fun x29=>bV (Eng.ld1 x29 H1) fun x30=>bV (YE .eql x30 (S s.k)) fun x33=>some (.norm [x33],H1)else some (.norm [qZ],H1)) fun vs H=>hd vs fun x33 vs=>bV (if((y:Nat):Int)< ((kv.length:Nat):Int)then some x33 else some (.bool false)) fun x34=>K x34 H)=K (.bool (lookP s.k kv).isSome) H1:=by
  intro K;by_cases h:y<kv.length
  .have hI:((y:Nat):Int)< ((kv.length:Nat):Int):=by omega
   obtain⟨A,o,i1,i2,i3,i4⟩:=gl.row.at h;have i1':=i1 .i64 _ rfl;rw[if_pos hI,i1',bVs];have i3':Eng.ld1 (.ptr A (o+0)) H1=some (S kv[y].1):=i3;have hb:decide (kv[y].1=s.k)=(lookP s.k kv).isSome:=by
    cases hlo:lookP s.k kv with
    | none=>have:=hs1 hlo h;simp[this]
    | some v=>obtain⟨h',e⟩:=hs2 v hlo;simp[e]
   simp only[fAd,yG,bVs,i3',UE,ZU,vY,if_pos hI,hb]
  .have hI: ¬((y:Nat):Int)< ((kv.length:Nat):Int):=by omega
   have hb:(lookP s.k kv).isSome=false:=by
    cases hlo:lookP s.k kv with
    | none=>rfl
    | some v=>obtain⟨h',_⟩:=hs2 v hlo;exact absurd h' h
   rw[if_neg hI,ZU,vY,if_neg hI,bVs,hb]
 have hM:(decide (((1:Nat):Int)<=((s.k.length:Nat):Int))&&decide (((s.k.length:Nat):Int)<=((40:Nat):Int)))=mayK s.k:=by
  rw[Bool.eq_iff_iff];simp only[Nd.mayK,zE,zJ];omega
 have hrem:jJ .rem (.int .u8 ((s.kd:Nat):Int)) (.int .u8 ((2:Nat):Int))=some (.int .u8 ((s.kd % 2:Nat):Int)):=by
  rw[zDn _ _ _ (by omega)];congr 2
 have hyc:y+1<=1000001:=by omega
 have bl0:aU 48 2 0 [.str 0 0, .str 0 0] []=some (.cells [] 48 2 false,fun A=> .slice A 0 0 0):=rfl;have bl1:aU 48 2 1 [.str 0 0, .str 0 0] [(0, .agg [S s.k,S s.v])]=some (.cells [S s.k,S s.v] 48 2 false,fun A=> .slice A 0 1 2):=rfl;have bs1:xH [(0,1),(1,1)] [.str 0 0, .str 0 0] [(0,S s.k),(1,S s.v)]=some (.agg [S s.k,S s.v]):=rfl;have avP:aveq (.agg [S s.k,S s.v]) (.agg [S s.k,S s.v])=true:=by simp[aveq,aX,S]
 have ckP: ∀K:Rs,chk (some (.agg [S s.k,S s.v])) (.agg [S s.k,S s.v]) K=K:=fun K=>yV rfl avP
 have ckL: ∀K:Rs,chk (some lv) lv K=K:=fun K=>yV rfl (yN gl.row)
 have hyI:((y:Nat):Int)+((1:Nat):Int)=((y+1:Nat):Int):=by omega
 have a0:AdT (fun B=>W B\/B=Wd) H (fun B=>W B\/B=Wd) H1:=⟨p1.stp,fun B h=> .inl h⟩;have aUp: ∀ {W':Nat->Prop} {H':AH},AdT W H1 W' H'->AdT (fun B=>W B\/B=Wd) H1 (fun B=>W' B\/B=Wd) H':=fun a=>⟨a.1.mono fun B _ h=> .inl h,fun B h=>by
  rcases h with h | h
  .rcases a.2 B h with x | x
   .exact .inl (.inl x)
   .exact .inr x
  .exact .inl (.inr h)⟩
 have aNote: ∀ {W':Nat->Prop} {H2 H3:AH},Stp (fun B=>B=Wd) H2 H3->AdT (fun B=>W' B\/B=Wd) H2 (fun B=>W' B\/B=Wd) H3:=fun s=>⟨s.mono fun B _ h=> .inr h,fun B h=> .inl h⟩
 have aPrs: ∀ {W':Nat->Prop} {H2 H3:AH},Prs H2 H3->AdT (fun B=>W' B\/B=Wd) H2 (fun B=>W' B\/B=Wd) H3:=fun s=>AdT.prs s
 rcases Nat.lt_or_ge (s.kd % 2) 1 with hk0 | hk1'
 .have hk2:s.kd % 2=0:=by omega
  have hkI:((s.kd % 2:Nat):Int)=((0:Nat):Int):=by omega
  obtain⟨H2,E2,W2,T2,e2,t2,a2,c2⟩:=zLm m n hm hn (k:=s.k) (v:=s.v) w1.tx.d (by omega) (by omega);obtain⟨root2,q2,tx2⟩:=t2.x;obtain⟨ds2,us2,lv',gW',gl',gW2,gl2⟩:=w1.tree tx2 a2 c2;obtain rfl:lv=lv':=by
   rw[gW]at gW';simp only[zC,AObj.cells.injEq,List.cons.injEq]at gW';exact gW'.1.2.2.2.2.1
  have N2:=a2.1.next
  have wlt:=w1.tx.d.lt;have k3:=a2.1.keep A3 n1 (fun h=>by
   have:=w.tx.d.lt A3 h;omega)
  have x22:Eng.ld1 (.ptr A3 2) H2=some (S s.v):=by rw[qV (k3.trans g1)];rfl
  have x12:Eng.ld1 (.ptr A3 1) H2=some (S s.k):=by rw[qV (k3.trans g1)];rfl
  by_cases hp:cP s.k s.v=true
  .obtain⟨hp1,hp2⟩:mayK s.k=true/\s.v.length<=200:=by simpa[cP]using hp
   have c200: ¬((200:Nat):Int)< ((s.v.length:Nat):Int):=by omega
   rw[if_pos hp]at e2;rw[if_pos hp]at tx2;obtain⟨H3,A9,b3,p3,g3,m3,n3⟩:=box a2.1.ok (.cells [.str 0 0, .str 0 0] 48 1 false);obtain⟨H4,e4,g4,s4,n4⟩:=yD p3.ok g3 (l':=[S s.k,S s.v]) rfl rfl;have e4':stN 2 (.ptr A9 0) (.agg [S s.k,S s.v]) H3=some (qZ,H4):=e4;have N3:=p3.next
   have P4:Prs H2 H4:=p3.fresh s4 fun B hB=>by omega
   have gl4:=gl2.prs P4;have gW4:=Prs.get P4 a2.1.ok gW2;have hk0':vD s kv=putP s.k s.v kv:=by simp only[vD,hk2,if_true,hp]
   obtain⟨kk,hkk,hkl,hput⟩: ∃kk,(kk=if(lookP s.k kv).isSome then y+1 else y)/\kk<=kv.length/\putP s.k s.v kv=kv.take y++(s.k,s.v)::kv.drop kk:=by
    refine⟨_,rfl, ?_⟩
    cases hlo:lookP s.k kv with
    | some v0=>
     obtain⟨h',e⟩:=hs2 v0 hlo;simp only[qS,if_true];exact⟨by omega,zK8 hs h' s.v e⟩
    | none=>
     simp only[Option.isSome_none,Bool.false_eq_true,if_false];refine⟨hyl, ?_⟩;rw[hy];exact J4 hs (cV hlo)
   obtain⟨G1,B1,r1,r2',w1',G2,B2,G3,w2',G4,w3',G5,q1,q2',q3,q4,q5,q6,q7,q8,q9,q10,P5,P6,P7,P8,P9,gl9,fr9⟩:=zLK P4.ok gl4 hyl hkl (by omega) s.k s.v;obtain⟨H6,e6,g6,s6,n6⟩:=st4 P9.ok (Prs.get P9 P4.ok gW4) (j9.row gl9).isCell;rw[hput]at tx2;have w6:Wld E2 H6 Wd Ad As At M (L+200) txg la is V W2 root2 q2 (kv.take y++(s.k,s.v)::kv.drop kk) T2:=by
    obtain⟨dr,es,last,z1,z2,z3⟩:=tx2;exact Wld.note (lv:=w3') ⟨dr,es,last,z1,z2.prs (P4.trans P9),z3⟩ (ds2.prs a2.1.ok (P4.trans P9)) us2 (Prs.get P9 P4.ok gW4) s6 g6 gl9
   have r49: ∀ {G:AH},Prs H4 G->Eng.ld1 (.ptr Wd 4) G=some lv:=fun {G} h=>by rw[qV (Prs.get h P4.ok gW4)];rfl
   have r9: ∀ {G:AH},Prs H4 G->ldN 2 (.ptr A9 0) G=some (.agg [S s.k,S s.v]):=fun {G} h=>k7 (Prs.get h P4.ok g4) rfl
   have f1:=r49 P5;have f2:=r49 P6;have f3:=r49 P7;have f4:=r49 P8;have h91:=r9 P5;have h93:=r9 P7;have ckR: ∀K:Rs,chk (some r2') r2' K=K:=fun K=>yV rfl q7
   refine⟨H6,E2,W2,T2,root2,q2, ?_,by rw[hk0',hput];exact w6,((a0.trans (aUp a2)).trans (aPrs (P4.trans P9))).trans (aNote s6),c2⟩
   cases hlo:(lookP s.k kv).isSome with
   | true=>
    rw[hlo,if_pos rfl]at hkk;subst hkk;simp(maxSteps:=999999)(disch:=omega) only[f16,eZ,b1,spV,x1,hfind,r4,hln,his,hM,x0,hrem,hkI,r2,x2,e2,hp1,hlo,x22,x12,c200,bs1,b3,e4',bl0,bl1,q1,f1,q2',h91,q3,f2,hyI,q4,q5,h93,ckP,f3,ckL,q6,ckR,q8,f4,q9,q10,e6,zGC]
   | false=>
    rw[hlo]at hkk;simp only[Bool.false_eq_true,if_false]at hkk;subst hkk;simp(maxSteps:=999999)(disch:=omega) only[f16,eZ,b1,spV,x1,hfind,r4,hln,his,hM,x0,hrem,hkI,r2,x2,e2,hp1,hlo,x22,x12,c200,bs1,b3,e4',bl0,bl1,q1,f1,q2',h91,q3,f2,hyI,q4,q5,h93,ckP,f3,ckL,q6,ckR,q8,f4,q9,q10,e6,zGC]
  .rw[if_neg hp]at e2;rw[if_neg hp]at tx2;have hk0':vD s kv=kv:=by simp only[vD,hk2,if_true,hp,if_false];rfl
   refine⟨H2,E2,W2,T2,root2,q2, ?_,by rw[hk0'];exact⟨tx2,ds2,us2,lv,gW2,gl2⟩,a0.trans (aUp a2),c2⟩
   cases hmk:mayK s.k with
   | false=>
    simp(maxSteps:=999999)(disch:=omega) only[f16,eZ,b1,spV,x1,hfind,r4,hln,his,hM,x0,hrem,hkI,r2,x2,e2,hmk]
   | true=>
    have c200:((200:Nat):Int)< ((s.v.length:Nat):Int):=by
     simp only[cP,hmk,Bool.true_and,zJ]at hp;omega
    simp(maxSteps:=999999)(disch:=omega) only[f16,eZ,b1,spV,x1,hfind,r4,hln,his,hM,x0,hrem,hkI,r2,x2,e2,hmk,x22,c200]
 .have hk2:s.kd % 2≠0:=by omega
  have hkI: ¬((s.kd % 2:Nat):Int)=((0:Nat):Int):=by omega
  obtain⟨H2,E2,W2,T2,e2,t2,a2,c2⟩:=zMk m n hm hn (k:=s.k) w1.tx.d (by omega) (by omega);obtain⟨root2,q2,tx2⟩:=t2.x;obtain⟨ds2,us2,lv',gW',gl',gW2,gl2⟩:=w1.tree tx2 a2 c2;obtain rfl:lv=lv':=by
   rw[gW]at gW';simp only[zC,AObj.cells.injEq,List.cons.injEq]at gW';exact gW'.1.2.2.2.2.1
  cases hmk:mayK s.k with
  | false=>
   have hd:aO s.k kv=1:=by rw[aO,hmk];rfl
   rw[hd]at e2;rw[hd,if_neg (by omega)]at tx2;have hk0':vD s kv=kv:=by simp only[vD,hk2,if_false,hmk,Bool.false_eq_true]
   refine⟨H2,E2,W2,T2,root2,q2, ?_,by rw[hk0'];exact⟨tx2,ds2,us2,lv,gW2,gl2⟩,a0.trans (aUp a2),c2⟩;simp(maxSteps:=999999)(disch:=omega) only[f16,eZ,b1,spV,x1,hfind,r4,hln,his,hM,x0,hrem,hkI,r2,e2,hmk]
  | true=>
   have hk0:vD s kv=delP s.k kv:=by simp only[vD,hk2,if_false,hmk,if_true]
   cases hlo:(lookP s.k kv).isSome with
   | false=>
    have hd:aO s.k kv=5:=by rw[aO,hmk,hlo];rfl
    have hno:lookP s.k kv=none:=by simpa using hlo
    rw[hd]at e2;rw[hd,if_neg (by omega)]at tx2;have hk0':vD s kv=kv:=by rw[hk0];exact U6 (cV hno)
    refine⟨H2,E2,W2,T2,root2,q2, ?_,by rw[hk0'];exact⟨tx2,ds2,us2,lv,gW2,gl2⟩,a0.trans (aUp a2),c2⟩;simp(maxSteps:=999999)(disch:=omega) only[f16,eZ,b1,spV,x1,hfind,r4,hln,his,hM,x0,hrem,hkI,r2,e2,hmk,hlo]
   | true=>
    have hd:aO s.k kv=0:=by rw[aO,hmk,hlo];rfl
    rw[hd]at e2;rw[hd,if_pos rfl]at tx2;obtain⟨v0,hv0⟩:=Option.isSome_iff_exists.1 hlo;obtain⟨h',he⟩:=hs2 v0 hv0;have hdel:delP s.k kv=kv.take y++kv.drop (y+1):=zKA hs h' he;obtain⟨G1,B1,r1,r2',w1',G3,w3',G5,q1,q2',q3,q4,q5,q6,q7,P5,P6,P9,gl9,fr9⟩:=zMl a2.1.ok gl2 hyl (show y+1<=kv.length by omega) (by omega);obtain⟨H6,e6,g6,s6,n6⟩:=st4 P9.ok (Prs.get P9 a2.1.ok gW2) (j9.row gl9).isCell;rw[hdel]at tx2;have w6:Wld E2 H6 Wd Ad As At M (L+200) txg la is V W2 root2 q2 (kv.take y++kv.drop (y+1)) T2:=by
     obtain⟨dr,es,last,z1,z2,z3⟩:=tx2;exact Wld.note (lv:=w3') ⟨dr,es,last,z1,z2.prs P9,z3⟩ (ds2.prs a2.1.ok P9) us2 (Prs.get P9 a2.1.ok gW2) s6 g6 gl9
    have r49: ∀ {G:AH},Prs H2 G->Eng.ld1 (.ptr Wd 4) G=some lv:=fun {G} h=>by rw[qV (Prs.get h a2.1.ok gW2)];rfl
    have f1:=r49 P5;have f3:=r49 P6;have ckR: ∀K:Rs,chk (some r2') r2' K=K:=fun K=>yV rfl q6
    refine⟨H6,E2,W2,T2,root2,q2, ?_,by rw[hk0,hdel];exact w6,((a0.trans (aUp a2)).trans (aPrs P9)).trans (aNote s6),c2⟩;simp(maxSteps:=999999)(disch:=omega) only[f16,eZ,b1,spV,x1,hfind,r4,hln,his,hM,x0,hrem,hkI,r2,e2,hmk,hlo,bl0,q1,f1,q2',hyI,q3,q4,f3,ckL,q5,ckR,q7,e6]
end Go.Eng.Sh
end
section
set_option maxRecDepth 20000
namespace Go.Bk
theorem zHD (is:Nat->Nat)(w b i nb j:Nat):zB9 is w b i nb j=if i<=j/\j<nb/\is j=w then b else is j:=rfl
theorem zBl {is:Nat->Nat}{nb:Nat}(h3: ∀i,is i≠3)(i:Nat):(zK2 is nb i=0↔is i=0)/\zK2 is nb i≠3:=by
 have e1:zB9 is 3 0 2 nb=is:=by
  funext j;rw[zHD,if_neg fun h=>h3 j h.2.2]
 rw[zK2,e1,zHD];have:=h3 i;split
 .rename_i h;omega
 .exact⟨Iff.rfl,this⟩
theorem zMp {is:Nat->Nat}{nb:Nat}(h3: ∀i,is i≠3):cnt (zK2 is nb) 0 nb=cnt is 0 nb:=zHf fun i _=>(zBl h3 i).1
end Go.Bk
namespace Go.Eng.Sh
open Go.Nd (Ptr sumL leafOf Kvs Srt mayK putP delP lookP)
open Go.Bt Go.Bk
def zN5 (E:Ev)(is:Nat->Nat)(p:Ptr)(kv:Kvs):Prop:= ∃T,vU { E with dl:=[] } [] p kv T/\ ∀r∈T,r.at_≠1/\is r.at_.toNat≠0
theorem vU.keep {E:Ev}{ws':Ws}{dl':List Ptr}{p:Ptr}{kv:Kvs}{T:List Ptr}(h:vU E [] p kv T)(hb: ∀r∈T,blkAt r.at_.toNat ws'=blkAt r.at_.toNat E.ws):vU { E with ws:=ws',dl:=dl'} [] p kv T:=by
 rcases h with⟨a,b,c⟩ | ⟨h,nd,t,S,h1,h2,h3,h4,h5,rfl⟩
 .exact .inl ⟨a,b,c⟩
 .have key: ∀r∈p::S,∀nd,Qf E [] [] r=some nd->Qf { E with ws:=ws',dl:=dl'} [] [] r=some nd:=fun r hr nd hq=>by
   have:=zHU (ws':=ws') hq fun _=>hb r hr
   obtain⟨s,rfl,h⟩ | ⟨hp,hK⟩:=wS this
   .rcases h with h | ⟨_,h⟩<;>simp[yA]at h
   .rw[Q7 hp];exact Ev.K_iff.2 (Ev.K_iff.1 hK)
  exact .inr ⟨h,nd,t,S,key p (zH ..) nd h1,h2.mono fun r hr nd hq=>key r (zF _ hr) nd hq,h3,h4,h5,rfl⟩
theorem zN5.keep {E:Ev}{is is':Nat->Nat}{ws':Ws}{dl':List Ptr}{p:Ptr}{kv:Kvs}(h:zN5 E is p kv)(hb: ∀a,is a≠0->blkAt a ws'=blkAt a E.ws)(hi: ∀a,is a≠0->is' a≠0):zN5 { E with ws:=ws',dl:=dl'} is' p kv:=by
 obtain⟨T,h1,h2⟩:=h;exact⟨T,h1.keep (E:= { E with dl:=[] }) fun r hr=>hb _ (h2 r hr).2,fun r hr=>⟨(h2 r hr).1,hi _ (h2 r hr).2⟩⟩
theorem zJf (D:Dyn)(n:Nat){E:Ev}{H:AH}{At M L:Nat}{W:Nat->Prop}{d c:AV}{root:Ptr}{q:PN}{kv:Kvs}{T:List Ptr}(tx:c9 d c E H At M L W root q kv T):f24 D n [.ptr At 0] H=some (.int .i64 ((q.length:Nat):Int),H):=by
 obtain⟨dr,es,last,_,ti,_⟩:=tx;have hno:=dD D n ti;have x36:Eng.ld1 (.ptr At 5) H=some (.map M):=by rw[qV ti.gT];rfl
 have hln:ZQ (.map M) H=some (.int .i64 ((q.length:Nat):Int)):=by
  simp only[ZQ,ti.gM,yG,ti.pq.len];rfl
 simp(maxSteps:=999999)(disch:=omega) only[f24,eZ,hno,x36,hln]
theorem zLf (D:Dyn)(n:Nat){E:Ev}{H:AH}{At M L:Nat}{W:Nat->Prop}{d c:AV}{root:Ptr}{q:PN}{kv:Kvs}{T:List Ptr}(tx:c9 d c E H At M L W root q kv T): ∃H',f19 D n [.ptr At 0] H=some (.agg (y7 root),H')/\Prs H H':=by
 obtain⟨dr,es,last,_,ti,_⟩:=tx;obtain⟨H1,A1,b1,p1,g1,m1,n1⟩:=box ti.ok (.cells [.int .i64 ((0:Nat):Int), .int .i64 ((0:Nat):Int), .int .u64 ((0:Nat):Int)] 42 1 false);have ti1:=ti.prs p1;have hno:=dD D n ti1;have x:ldN 3 (.ptr At 2) H1=some (.agg (y7 root)):=ZR ti1.gT (by simp[jV]);obtain⟨H2,e2,g2,s2,n2⟩:=yD p1.ok g1 (l':=y7 root) rfl rfl;have e2':stN 3 (.ptr A1 0) (.agg (y7 root)) H1=some (qZ,H2):=e2;have r:ldN 3 (.ptr A1 0) H2=some (.agg (y7 root)):=k7 g2 rfl;refine⟨H2, ?_,p1.fresh s2 fun B hB=>by omega⟩;simp(maxSteps:=999999)(disch:=omega) only[f19,eZ,b1,hno,x,e2',r]
theorem st3 {H:AH}(hk:H.ok){Wd:Nat}{a b c d lv x:AV}(g:H.h.get Wd=some (.cells [a,b,c,d,lv] 39 1 false))(hx:isCell x=true): ∃H',stN 1 (.ptr Wd 3) x H=some (qZ,H')/\H'.h.get Wd=some (.cells [a,b,c,x,lv] 39 1 false)/\Stp (fun B=>B=Wd) H H'/\H'.next=H.next:=by
 obtain⟨H1,e,g1,s,n⟩:=kJ hk g (o:=3) (x:=x) hx (by simp);exact⟨H1,e,g1,s,n⟩
theorem zEi (m n:Nat)(hm:400000000<=m)(hn:200000000<=n){E:Ev}{H:AH}{Wd Ad As At M L txg la:Nat}{is:Nat->Nat}{V W:Nat->Prop}{root:Ptr}{q:PN}{kv:Kvs}{T:List Ptr}(w:Wld E H Wd Ad As At M L txg la is V W root q kv T)(h3: ∀i,is i≠3)(hq:q.length<=cnt is 0 E.nb)(ht:txg<=1000000)(hkv:kv.length<=1000000)(hdl:E.dl.length<=1000000000):
  ∃H' ws' is' la' V' root' T' M' W',f17 (dy (m+2)) n [.ptr Wd 0, .bool false] H=some (.bool true,H')/\Wld { E with ws:=ws',dl:=[] } H' Wd Ad As At M' L (txg+1) la' is' V' W' root' [] kv T'/\(∀i,is' i≠3)/\(∀a,is a≠0->blkAt a ws'=blkAt a E.ws)/\(∀a,is a≠0->is' a≠0)/\zN5 { E with ws:=ws',dl:=[] } is' root' kv/\AdT (fun B=>(W B\/V B)\/B=Wd) H (fun B=>(W' B\/V' B)\/B=Wd) H':=by
 obtain⟨lv,gW,gl⟩:=w.gW;have hk:=w.tx.d.okH;have x3:Eng.ld1 (.ptr Wd 3) H=some (.int .i64 ((txg:Nat):Int)):=by rw[qV gW];rfl
 obtain⟨H1,e1,g1,s1,n1⟩:=st3 hk gW (x:= .int .i64 ((txg+1:Nat):Int)) rfl;have w1:Wld E H1 Wd Ad As At M L (txg+1) la is V W root q kv T:=Wld.note w.tx w.ds w.us gW s1 g1 gl;obtain⟨H2,A5,b2,p2,g2,m2,l2⟩:=box s1.ok (.cells [.int .i64 ((0:Nat):Int), .int .i64 ((0:Nat):Int), .int .u64 ((0:Nat):Int)] 42 1 false);have N2:=p2.next
 have w2:=w1.prs p2;have gW2:=Prs.get p2 s1.ok g1;have gl2:GrP H2 lv kv:=by
  obtain⟨lv',a,b⟩:=w2.gW;rw[gW2]at a;simp only[zC,AObj.cells.injEq,List.cons.injEq]at a;rw[a.1.2.2.2.2.1];exact b
 obtain⟨H3,hw | ⟨hge,ws',is',la',V',root',T',M',W',dr,e3,tx3,ds3,o3,a3,rdr,fdr⟩⟩:=zI0 (m+2) n (by omega) hn (txg:=txg+1) w2.tx w2.ds (fun r hr hne=>w2.us r (qE _ (K1.2 ⟨hr,hne⟩))) (by omega) (by omega) (by omega)
 .omega
 have N3:=a3.1.next
 obtain⟨o1,o2⟩:=WH w2.tx w2.ds gW2 (.inr ⟨_,rfl⟩);have l5: ¬(W A5\/V A5):=fun h=>by
  rcases h with h | h
  .have:=w1.tx.d.lt A5 h;omega
  .have:=w1.ds.lt s1.ok A5 h;omega
 obtain⟨k5,z5,l53⟩:=a3.keep (A:=A5) l2 l5;obtain⟨H4,e4,g4,s4,n4⟩:=yD tx3.d.okH (k5.trans g2) (l':=y7 root') rfl rfl;have e4':stN 3 (.ptr A5 0) (.agg (y7 root')) H3=some (qZ,H4):=e4;obtain⟨kW,zW,lW3⟩:=a3.keep (A:=Wd) (p2.ok.lt gW2) (fun h=>by rcases h with h | h;exact o1 h;exact o2 h);have gW3:=kW.trans gW2;have lWd:=hk.lt gW;have hN1:H1.next=H.next:=n1
 have n5W:Wd≠A5:=by omega
 have gW4:H4.h.get Wd=_:=(s4.keep _ (tx3.d.okH.lt gW3) n5W).trans gW3;have gl3:GrP H3 lv kv:=gl2.mono a3.1 fun B hB=>by
  obtain⟨l,e,g,h⟩:=j9.get2 gl2 hB;obtain⟨y1,y2⟩:=WH w2.tx w2.ds h (.inl ⟨_,_,_,rfl⟩);exact fun x=>by rcases x with x | x;exact y1 x;exact y2 x
 have gl4:GrP H4 lv kv:=gl3.mono s4 fun B hB e=>by
  obtain⟨l,e',g,h⟩:=j9.get2 gl2 hB;subst e;rw[g2]at h;simp at h
 obtain⟨On,Nw,wv,dm,dk3,sp3,hV3,b1,b2',b3,b4,b5,b6⟩:=id ds3;have nAs:As≠A5:=fun e=>z5 (.inr ((hV3 _).2 (.inl e.symm)))
 have sp4:=sp3.stp tx3.d.okH s4 nAs;obtain⟨H5,e5,sp5,s5⟩:=zEV m n (by omega) s4.ok sp4 (by omega);have N5:=s5.next
 have h3': ∀i,is' i≠3:=fun i=>by
  rcases o3.up i with e | ⟨_,e⟩
  .have:=h3 i;omega
  .omega
 have zAs:V' As:=(hV3 _).2 (.inl rfl);have gW5:H5.h.get Wd=_:=(s5.keep _ (s4.ok.lt gW4) (fun e=>zW (.inr (e▸zAs)))).trans gW4;have lAs:=tx3.d.okH.lt sp3.bk.choose_spec;have gl5:GrP H5 lv kv:=gl4.mono s5 fun B hB e=>by
  obtain⟨l,e',g,h⟩:=j9.get2 gl3 hB;have:=sp3.bk.choose_spec;subst e;rw[this]at h;simp at h
 have s35:Stp (fun B=>B=A5\/B=As) H3 H5:=⟨s5.ok,by omega,fun A hA hS=>by
  rw[s5.keep A (by omega) (fun e=>hS (.inr e)),s4.keep A hA (fun e=>hS (.inl e))]⟩
 have nz: ∀B,W' B-> ¬(B=A5\/B=As):=fun B hB e=>by
  rcases e with e | e
  .exact z5 (.inl (e▸hB))
  .exact(tx3.dsk ds3).1 As zAs (e▸hB)
 have nzV: ∀B,V' B->B≠As-> ¬(B=A5\/B=As):=fun B hB hne e=>by
  rcases e with e | e
  .exact z5 (.inr (e▸hB))
  .exact hne e
 have hcl:=dk3;have dS:As≠Ad/\As≠Nw/\(∀B,Blk wv B->B≠As)/\On≠As/\On≠A5:=by
  have gS:=sp3.bk.choose_spec;refine⟨yB gS dk3.gD (by simp),yB gS dk3.gN (by simp),fun B hB e=>yB gS (dk3.ow.get hB) (by simp) e.symm,fun e=>yB gS dk3.gO (by simp) e.symm,fun e=> ?_⟩;have:=k5.trans g2;rw[<-e,dk3.gO]at this;cases this
 have dk5:DkI H5 Ad E.nb ws' On Nw wv dm:=dk3.stp tx3.d.okH s35 (nzV _ ((hV3 _).2 (.inr (.inl rfl))) fun e=>dS.1 e.symm) (fun e=>by rcases e with e | e;exact dS.2.2.2.2 e;exact dS.2.2.2.1 e) (nzV _ ((hV3 _).2 (.inr (.inr (.inl rfl)))) fun e=>dS.2.1 e.symm) fun B hB=>nzV _ ((hV3 _).2 (.inr (.inr (.inr hB)))) (dS.2.2.1 B hB)
 have tx5:c9 (.ptr Ad 0) .nilPtr { E with ws:=ws',dl:=[] } H5 At M' L W' root' [] kv T':=by
  obtain⟨dr',es',last',z1,ti,z3,z4,z5',z6,z7,hW'⟩:=tx3;have hes:es'=[]:=by
   have:=ti.pq.len;exact zL (by simpa using this)
  subst hes;have:=ti.wr s35 (fun B hB=>by
   rcases hB with e | e | e | ⟨kv,hkv,_⟩
   .exact nz B ((hW' B).2 (.inl e))
   .exact nz B ((hW' B).2 (.inr (.inl e)))
   .exact nz B ((hW' B).2 (.inr (.inr e)))
   .simp at hkv) dk5
  exact⟨dr',[],last',z1,this,z3,z4,z5',z6,z7,hW'⟩
 have us3:=o3.used (fun r hr hne=>w2.us r (qE _ (K1.2 ⟨hr,hne⟩)));have stz: ∀a,is' a≠0->zK2 is' E.nb a≠0:=fun a h e=>h ((zBl h3' a).1.1 e)
 have ds5:Dsk H5 Ad As E.nb ws' la' (zK2 is' E.nb) V':=⟨On,Nw,wv,dm,dk5,sp5,hV3,b1,b2',b3,b4,⟨stz 0 b5.1,stz 1 b5.2⟩,by rw[zMp h3'];exact b6⟩;refine⟨H5,ws',zK2 is' E.nb,la',V',root',T',M',W', ?_,⟨tx5,ds5,fun r hr=> ?_,lv,gW5,gl5⟩,fun i=>(zBl h3' i).2,o3.bk,fun a ha=>stz a (o3.nz ha), ?_, ?_⟩
 .have ht1:((txg:Nat):Int)+((1:Nat):Int)=((txg+1:Nat):Int):=by omega
  have r2:Eng.ld1 (.ptr Wd 2) H1=some (.ptr At 0):=by rw[qV g1];rfl
  have r1:Eng.ld1 (.ptr Wd 1) H1=some (.ptr As 0):=by rw[qV g1];rfl
  have r3:Eng.ld1 (.ptr Wd 3) H1=some (.int .i64 ((txg+1:Nat):Int)):=by rw[qV g1];rfl
  have r14:Eng.ld1 (.ptr Wd 1) H4=some (.ptr As 0):=by rw[qV gW4];rfl
  have hln:lnSl dr=some (.int .i64 ((E.dl.length:Nat):Int)):=Rw.lnSl rdr;obtain⟨n,rfl⟩: ∃k,n=k+1:=⟨n - 1,by omega⟩;have hloop:yJ (n+1) (zBR (dy (m+2)) (n+1)) [.ptr Wd 0, .bool false,dr, .int .i64 ((0:Nat):Int), .int .i64 ((0:Nat):Int)] H4=some (.exit 0 [.ptr Wd 0, .int .i64 ((0:Nat):Int)],H4):=by
   refine y9 ?_;by_cases h0:((0:Nat):Int)< ((E.dl.length:Nat):Int)
   .simp(maxSteps:=999999)(disch:=omega) only[zBR,eZ,hln,h0]
   .simp(maxSteps:=999999)(disch:=omega) only[zBR,eZ,hln,h0]
  simp(maxSteps:=999999)(disch:=omega) only[f17,eZ,x3,ht1,e1,r2,r1,r3,b2,e3,qX,nth,e4',hloop,zJ6,r14,e5]
 .rw[List.append_nil]at hr;exact stz _ (us3 r (K1.1 hr).1).2
 .obtain⟨_,_,_,_,_,_,_,_,_,hr5,_⟩:=tx5;exact⟨T',hr5,fun r hr=>⟨(us3 r hr).1,stz _ (us3 r hr).2⟩⟩
 .refine⟨⟨s5.ok,by omega,fun B hB hS=> ?_⟩,fun B hB=> ?_⟩
  .have h1: ¬(W B\/V B):=fun x=>hS (.inl x)
   have h2:B≠Wd:=fun x=>hS (.inr x)
   obtain⟨kB,zB,_⟩:=a3.keep (A:=B) (by omega) h1;rw[s35.keep B (by omega) (fun e=>by rcases e with e | e;omega;exact zB (.inr (e▸zAs))),kB,p2.keep B (by omega) (fun x=>x),s1.keep B hB h2]
  .rcases hB with hB | hB
   .rcases a3.2 B hB with x | x
    .exact .inl (.inl x)
    .exact .inr (by omega)
   .exact .inl (.inr hB)
end Go.Eng.Sh
end
section
set_option maxRecDepth 20000
namespace Go.Eng.Sh
open Go.Nd (Ptr sumL leafOf Kvs Srt mayK putP delP lookP)
open Go.Bt Go.Bk
def SpR (H:AH)(v:AV)(l:List Sp):Prop:=Rw 4 H v l.length (l.flatMap spV)
theorem zEQ (s:Sp):(spV s).length=4:=rfl
theorem zAj: ∀(l:List Sp) (i:Nat) (h:i<l.length),((l.flatMap spV).drop (i*4)).take 4=spV l[i]
 | p::l,0,_=>by rw[Nat.zero_mul,List.drop_zero,zZ,List.take_left' (zEQ p)];rfl
 | p::l,i+1,h=>by
  rw[zZ,show(i+1)*4=4+i*4 by omega,<-List.drop_drop,List.drop_left' (zEQ p)];exact zAj l i (by simpa using h)
theorem SpR.at {H:AH}{v:AV}{l:List Sp}(h:SpR H v l){i:Nat}(hi:i<l.length): ∃A o,(∀κ (z:Int),z=(i:Int)->dK 4 v (.int κ z)=some (.ptr A o))/\ldN 4 (.ptr A o) H=some (.agg (spV l[i]))/\Eng.ld1 (.ptr A (o+1)) H=some (S l[i].k)/\Eng.ld1 (.ptr A (o+2)) H=some (S l[i].v)/\Eng.ld1 (.ptr A (o+3)) H=some (.int .i64 l[i].nr):=by
 obtain⟨A,o,c,e,sz,g,h1,h2,h3,h4,h5⟩:=Rw.at h hi;rw[zAj l i hi]at h5;have g0: ∀j,j<4->c[o+j]? =(spV l[i])[j]? :=fun j hj=>by
  have:=congrArg (fun x=>x[j]?) h5;simp only[qQ hj,qR]at this;exact this
 exact⟨A,o,h1,by rw[ZR h2 h4,h5],jQ h2 (g0 1 (by omega)),jQ h2 (g0 2 (by omega)),jQ h2 (g0 3 (by omega))⟩
theorem SpR.lnSl {H:AH}{v:AV}{l:List Sp}(h:SpR H v l):Eng.lnSl v=some (.int .i64 ((l.length:Nat):Int)):=Rw.lnSl h
theorem zCM (D:Dyn)(n:Nat)(hn:30000<=n){H:AH}{v:AV}{l:List Sp}(h:SpR H v l): ∃b:Bool,f14 D n [v] H=some (.bool b,H)/\(b=false->l.length<=150):=by
 have hln:=h.lnSl;have lp: ∀d i c n',d+c≥20000->d<n'->c<=22001->i<=c->(∃b:Bool,yJ n' (aG D n) [v, .int .i64 ((c:Nat):Int), .int .i64 ((i:Nat):Int)] H=some (.ret (.bool true),H))\/ ∃c':Nat,c'<=22001/\yJ n' (aG D n) [v, .int .i64 ((c:Nat):Int), .int .i64 ((i:Nat):Int)] H=some (.exit 0 [v, .int .i64 ((c':Nat):Int)],H):=by
  intro d
  induction d with
  | zero=>
   intro i c n' hd hn' hc hi;obtain⟨n',rfl⟩: ∃k,n'=k+1:=⟨n' - 1,by omega⟩;refine .inr ⟨c,hc,y9 ?_⟩;have c1: ¬((c:Nat):Int)< ((20000:Nat):Int):=by omega
   by_cases h0:((i:Nat):Int)< ((l.length:Nat):Int)
   .simp(maxSteps:=999999)(disch:=omega) only[aG,eZ,hln,h0,c1]
   .simp(maxSteps:=999999)(disch:=omega) only[aG,eZ,hln,h0,c1]
  | succ d ih=>
   intro i c n' hd hn' hc hi;obtain⟨n',rfl⟩: ∃k,n'=k+1:=⟨n' - 1,by omega⟩;by_cases h0:i<l.length
   .have h0I:((i:Nat):Int)< ((l.length:Nat):Int):=by omega
    by_cases hc2:c<20000
    .have c1:((c:Nat):Int)< ((20000:Nat):Int):=by omega
     obtain⟨A,o,i1,i2,i3,i4,i5⟩:=h.at h0;by_cases hk:1000< (l[i].k).length
     .have hkI:((1000:Nat):Int)< (((l[i].k).length:Nat):Int):=by omega
      refine .inl ⟨true,cT ?_⟩;simp(maxSteps:=999999)(disch:=omega) only[aG,eZ,hln,h0I,c1,i1,i3,hkI]
     .have hkI: ¬((1000:Nat):Int)< (((l[i].k).length:Nat):Int):=by omega
      by_cases hv:1000< (l[i].v).length
      .have hvI:((1000:Nat):Int)< (((l[i].v).length:Nat):Int):=by omega
       refine .inl ⟨true,cT ?_⟩;simp(maxSteps:=999999)(disch:=omega) only[aG,eZ,hln,h0I,c1,i1,i3,hkI,i4,hvI]
      .have hvI: ¬((1000:Nat):Int)< (((l[i].v).length:Nat):Int):=by omega
       have e1:((c:Nat):Int)+((1:Nat):Int)=((c+1:Nat):Int):=by omega
       have e2:((c+1:Nat):Int)+(((l[i].k).length:Nat):Int)=((c+1+(l[i].k).length:Nat):Int):=by omega
       have e3:((c+1+(l[i].k).length:Nat):Int)+(((l[i].v).length:Nat):Int)=((c+1+(l[i].k).length+(l[i].v).length:Nat):Int):=by omega
       have e4:((i:Nat):Int)+((1:Nat):Int)=((i+1:Nat):Int):=by omega
       have hs:aG D n [v, .int .i64 ((c:Nat):Int), .int .i64 ((i:Nat):Int)] H=some (.norm [v, .int .i64 ((c+1+(l[i].k).length+(l[i].v).length:Nat):Int), .int .i64 ((i+1:Nat):Int)],H):=by
        simp(maxSteps:=999999)(disch:=omega) only[aG,eZ,hln,h0I,c1,i1,i3,hkI,i4,hvI,e1,e2,e3,e4]
       rw[j5 hs];exact ih (i+1) _ n' (by omega) (by omega) (by omega) (by omega)
    .have c1: ¬((c:Nat):Int)< ((20000:Nat):Int):=by omega
     refine .inr ⟨c,hc,y9 ?_⟩;simp(maxSteps:=999999)(disch:=omega) only[aG,eZ,hln,h0I,c1]
   .have h0I: ¬((i:Nat):Int)< ((l.length:Nat):Int):=by omega
    refine .inr ⟨c,hc,y9 ?_⟩;simp(maxSteps:=999999)(disch:=omega) only[aG,eZ,hln,h0I]
 rcases lp 20000 0 0 n (by omega) (by omega) (by omega) (by omega)with⟨_,e⟩ | ⟨c',hc',e⟩
 .refine⟨true, ?_,fun h=>by cases h⟩;simp(maxSteps:=999999)(disch:=omega) only[f14,eZ,e]
 .by_cases h1:20000<=c'
  .have h1I:((20000:Nat):Int)<=((c':Nat):Int):=by omega
   refine⟨true, ?_,fun h=>by cases h⟩;simp(maxSteps:=999999)(disch:=omega) only[f14,eZ,e,zGH,h1I]
  .have h1I: ¬((20000:Nat):Int)<=((c':Nat):Int):=by omega
   refine⟨decide (((150:Nat):Int)< ((l.length:Nat):Int)), ?_,fun h=>by
    have:=of_decide_eq_false h;omega⟩
   simp(maxSteps:=999999)(disch:=omega) only[f14,eZ,e,zGH,h1I,hln]
end Go.Eng.Sh
end
section
set_option maxRecDepth 20000
namespace Go.Eng.Sh
open Go.Nd (Ptr sumL leafOf Kvs Srt mayK putP delP lookP)
open Go.Bt Go.Bk
def aZ (E:Ev)(H:AH)(is:Nat->Nat)(x4 x5:AV)(rs:List Ptr)(ls:List AV)(ks:List Kvs):Prop:=Own 3 42 H x4 rs.length (rs.flatMap y7)/\Own 1 37 H x5 ls.length ls/\rs.length=ls.length/\ks.length=ls.length/\ ∀(j:Nat) p,rs[j]? =some p-> ∀lv,ls[j]? =some lv-> ∀kv,ks[j]? =some kv->zN5 E is p kv/\GrP H lv kv/\kv.length<=1000000
theorem aZ.stp {E:Ev}{is:Nat->Nat}{H H':AH}{x4 x5:AV}{rs:List Ptr}{ls:List AV}{ks:List Kvs}{U:Nat->Prop}(h:aZ E H is x4 x5 rs ls ks)(s:Stp U H H')(h4: ∀B,Blk x4 B-> ¬U B)(h5: ∀B,Blk x5 B-> ¬U B)(hU: ∀B l e g,H.h.get B=some (.cells l e 2 g)-> ¬U B):aZ E H' is x4 x5 rs ls ks:=by
 obtain⟨a,b,c,d,e⟩:=h;refine⟨a.mono s h4,b.mono s h5,c,d,fun j p hp lv hl kv hk=> ?_⟩;obtain⟨e1,e2,e3⟩:=e j p hp lv hl kv hk;refine⟨e1,e2.mono s fun B hB=> ?_,e3⟩;obtain⟨l,e',g,hg⟩:=j9.get2 e2 hB;exact hU B l e' g hg
theorem aZ.keep {E:Ev}{is is':Nat->Nat}{H:AH}{x4 x5:AV}{rs:List Ptr}{ls:List AV}{ks:List Kvs}(h:aZ E H is x4 x5 rs ls ks){ws':Ws}{dl':List Ptr}(hb: ∀a,is a≠0->blkAt a ws'=blkAt a E.ws)(hi: ∀a,is a≠0->is' a≠0):aZ { E with ws:=ws',dl:=dl'} H is' x4 x5 rs ls ks:=by
 obtain⟨a,b,c,d,e⟩:=h;exact⟨a,b,c,d,fun j p hp lv hl kv hk=>⟨(e j p hp lv hl kv hk).1.keep hb hi,(e j p hp lv hl kv hk).2⟩⟩
theorem zDG (s:Sp){kv:Kvs}(hs:Srt kv):(vD s kv).length<=kv.length+1:=by
 rw[vD];split
 .split
  .cases hlo:lookP s.k kv with
   | some v0=>
    obtain⟨h',e⟩:=(ZV hs).2 v0 hlo;rw[zK8 hs h' s.v e];simp;omega
   | none=>
    have:=YM s.k kv;rw[J4 hs (cV hlo)];simp;omega
  .omega
 .split
  .cases hlo:lookP s.k kv with
   | some v0=>
    obtain⟨h',e⟩:=(ZV hs).2 v0 hlo;rw[zKA hs h' e];simp;omega
   | none=>rw[U6 (cV hlo)];omega
  .omega
def OldI (H0:AH)(v0:AV)(i:Nat)(us:List AV)(H:AH):Prop:= ∃E Wd Ad As At M L txg la is V W root q kv T x4 x5 rs ls ks,us=[v0, .ptr Wd 0,x4,x5, .int .i64 ((i:Nat):Int)]/\Wld E H Wd Ad As At M L txg la is V W root q kv T/\E.nb=512/\(∀i,is i≠3)/\L<=200*i/\txg<=i/\kv.length<=i/\aZ E H is x4 x5 rs ls ks/\rs.length<=i/\(∀B,Blk x4 B\/Blk x5 B-> ¬W B/\ ¬V B/\B≠Wd/\B<H.next)/\(∀B,Blk x4 B-> ¬Blk x5 B)/\Prs H0 H/\(∀B,(W B\/V B\/B=Wd\/Blk x4 B\/Blk x5 B)->H0.next<=B)
def OldF (H0:AH)(Wd:Nat)(x4 x5:AV)(H:AH):Prop:= ∃E Ad As At M L txg la is V W root q kv T rs ls ks,Wld E H Wd Ad As At M L txg la is V W root q kv T/\aZ E H is x4 x5 rs ls ks/\Prs H0 H/\rs.length<=1000
theorem aZ.snoc {E:Ev}{is:Nat->Nat}{H H':AH}{x4 x5 x4' x5':AV}{rs:List Ptr}{ls:List AV}{ks:List Kvs}(h:aZ E H is x4 x5 rs ls ks){p:Ptr}{lv:AV}{kv:Kvs}(h4:Own 3 42 H' x4' (rs.length+1) ((rs++[p]).flatMap y7))(h5:Own 1 37 H' x5' (ls.length+1) (ls++[lv]))(ho:zN5 E is p kv)(hg:GrP H' lv kv)(hk:kv.length<=1000000)(hall: ∀lv kv,GrP H lv kv->GrP H' lv kv):aZ E H' is x4' x5' (rs++[p]) (ls++[lv]) (ks++[kv]):=by
 obtain⟨a,b,c,d,e⟩:=h;refine⟨by simpa using h4,by simpa using h5,by simp[c],by simp[d],fun j p' hp lv' hl kv' hk'=> ?_⟩;rcases Nat.lt_trichotomy j rs.length with hj | hj | hj
 .rw[qF hj]at hp;rw[qF (by omega)]at hl hk';obtain⟨e1,e2,e3⟩:=e j p' hp lv' hl kv' hk';exact⟨e1,hall _ _ e2,e3⟩
 .subst hj;rw[qG (by omega),Nat.sub_self]at hp;rw[qG (by omega),c,Nat.sub_self]at hl;rw[qG (by omega),c,d,Nat.sub_self]at hk';simp only[List.getElem?_cons_zero,zC]at hp hl hk';subst hp;subst hl;subst hk';exact⟨ho,hg,hk⟩
 .rw[List.getElem?_eq_none (by simp;omega)]at hp;simp at hp
theorem zFw (m n:Nat)(hm:400000000<=m)(hn:300000000<=n){H0 H:AH}{v0:AV}{l:List Sp}{i:Nat}{us:List AV}(hk0:H0.ok)(hv:SpR H0 v0 l)(hkd: ∀s∈l,s.kd<256)(hi:i<l.length)(hl:l.length<=60)(h:OldI H0 v0 i us H):
  (∃us' H',QX (dy (m+2)) n us H=some (.norm us',H')/\OldI H0 v0 (i+1) us' H')\/ ∃Wd x4 x5 H',QX (dy (m+2)) n us H=some (.exit 0 [.ptr Wd 0,x4,x5],H')/\OldF H0 Wd x4 x5 H':=by
 obtain⟨E,Wd,Ad,As,At,M,L,txg,la,is,V,W,root,q,kv,T,x4,x5,rs,ls,ks,rfl,w,hnb,h3,hL,htx,hkl,hN,hrl,hsep,hs45,hp,hnew⟩:=h;have hk:=w.tx.d.okH;have hvH:SpR H v0 l:=Rw.prs hv hp;obtain⟨A,o,i1,i2,i3,i4,i5⟩:=hvH.at hi;have i1':=i1 .i64 _ rfl;have hiI:((i:Nat):Int)< ((l.length:Nat):Int):=by omega
 have hs0:Srt kv:=by
  obtain⟨_,_,_,_,_,_,_,_,_,hr,_⟩:=w.tx;exact hr.srt.1
 obtain⟨H1,E1,W1,T1,root1,q1,e1,w1,a1,c1⟩:=zKZ m n (by omega) hn l[i] (hkd _ (qC hi)) w (by omega) (by omega);have hE1:E1= { E with ws:=E.ws,dl:=E1.dl} :=by
  have a:=c1.nb;have b:=c1.ws
  cases E1;cases E;simp only at a b;subst a;subst b;rfl
 obtain⟨lv0,gW0,gl0⟩:=w.gW;have two: ∀ {E:Ev} {H:AH} {Ad As At M L txg la:Nat} {is:Nat->Nat} {V W:Nat->Prop} {root:Ptr} {q:PN} {kv:Kvs} {T:List Ptr},Wld E H Wd Ad As At M L txg la is V W root q kv T-> ∀B l e g,H.h.get B=some (.cells l e 2 g)-> ¬W B/\ ¬V B/\B≠Wd:=fun w B l e g hB=>by
  obtain⟨x,y⟩:=WH w.tx w.ds hB (.inl ⟨_,_,_,rfl⟩);obtain⟨lv,gW,_⟩:=w.gW;exact⟨x,y,fun e=>by rw[e,gW]at hB;simp at hB⟩
 have nU: ∀B,Blk x4 B\/Blk x5 B-> ¬(W B\/B=Wd):=fun B hB x=>by
  obtain⟨y1,y2,y3,_⟩:=hsep B hB;rcases x with x | x
  .exact y1 x
  .exact y3 x
 have hN1:aZ E1 H1 is x4 x5 rs ls ks:=by
  rw[hE1];exact(hN.stp a1.1 (fun B hB=>nU B (.inl hB)) (fun B hB=>nU B (.inr hB)) fun B l e g hB x=>by
   obtain⟨y1,y2,y3⟩:=two w B l e g hB;rcases x with x | x
   .exact y1 x
   .exact y3 x).keep (fun a _=>rfl) (fun a h=>h)
 have N1:=a1.1.next
 have hlen1:(vD l[i] kv).length<=i+1:=by have:=zDG l[i] hs0;omega
 have hsep1: ∀B,Blk x4 B\/Blk x5 B-> ¬W1 B/\ ¬V B/\B≠Wd/\B<H1.next:=fun B hB=>by
  obtain⟨y1,y2,y3,y4⟩:=hsep B hB;refine⟨fun x=> ?_,y2,y3,by omega⟩;rcases a1.2 B (.inl x)with(z | z) | z
  .exact y1 z
  .exact y3 z
  .omega
 have hp1:Prs H0 H1:=⟨w1.tx.d.okH,by have:=hp.next;omega,fun B hB _=>by
  rw[a1.1.keep B (by have:=hp.next;omega) (fun x=>by
   have:=hnew B (by rcases x with x | x;exact .inl x;exact .inr (.inr (.inl x)));omega),hp.keep B hB (fun x=>x)]⟩
 have hnew1: ∀B,(W1 B\/V B\/B=Wd\/Blk x4 B\/Blk x5 B)->H0.next<=B:=fun B hB=>by
  rcases hB with x | x
  .rcases a1.2 B (.inl x)with(z | z) | z
   .exact hnew B (.inl z)
   .exact hnew B (.inr (.inr (.inl z)))
   .have:=hp.next;omega
  .exact hnew B (.inr x)
 have hrem:jJ .rem (.int .i64 ((i:Nat):Int)) (.int .i64 ((3:Nat):Int))=some (.int .i64 ((i % 3:Nat):Int)):=by
  rw[zDn _ _ _ (by omega)];congr 2
 have hi1:((i:Nat):Int)+((1:Nat):Int)=((i+1:Nat):Int):=by omega
 by_cases h2:i % 3=2
 .have h2I:((i % 3:Nat):Int)=((2:Nat):Int):=by omega
  have sp1:Spc H1 As E1.nb la is:=by obtain⟨_,_,_,_,_,sp,_⟩:=w1.ds;exact sp
  have hfree:=zCt (dy (m+2)) n sp1;have hdirty:=zJf (dy (m+2)) n w1.tx;obtain⟨lv1,gW1,gl1⟩:=w1.gW;have r1:Eng.ld1 (.ptr Wd 1) H1=some (.ptr As 0):=by rw[qV gW1];rfl
  have r2:Eng.ld1 (.ptr Wd 2) H1=some (.ptr At 0):=by rw[qV gW1];rfl
  have ckT: ∀K:Rs,chk (some (.ptr At 0)) (.ptr At 0) K=K:=fun K=>yV rfl (by simp[aveq])
  rcases Nat.lt_or_ge (cnt is 0 E1.nb) q1.length with hlt | hge
  .have hltI:((cnt is 0 E1.nb:Nat):Int)< ((q1.length:Nat):Int):=by omega
   refine .inr ⟨Wd,x4,x5,H1, ?_,E1,Ad,As,At,M,L+200,txg,la,is,V,W1,root1,q1,_,T1,rs,ls,ks,w1,hN1,hp1,by omega⟩;simp(maxSteps:=999999)(disch:=omega) only[QX,eZ,hvH.lnSl,hiI,i1',i2,e1,hrem,h2I,r1,r2,hfree,ckT,hdirty,hltI]
  .have hltI: ¬((cnt is 0 E1.nb:Nat):Int)< ((q1.length:Nat):Int):=by omega
   have hdl:E1.dl.length<=1000000000:=by
    obtain⟨_,_,_,_,_,_,_,_,hd,_⟩:=w1.tx;omega
   obtain⟨H2,ws2,is2,la2,V2,root2,T2,M2,W2,e2,w2,h32,bk2,nz2,ho2,a2⟩:=zEi m n hm (by omega) w1 h3 hge (by omega) (by omega) hdl;have N2:=a2.1.next
   obtain⟨lv2,gW2,gl2⟩:=w2.gW;have nU2: ∀B,Blk x4 B\/Blk x5 B-> ¬((W1 B\/V B)\/B=Wd):=fun B hB x=>by
    obtain⟨y1,y2,y3,_⟩:=hsep1 B hB;rcases x with(x | x) | x
    .exact y1 x
    .exact y2 x
    .exact y3 x
   have hN2:aZ { E1 with ws:=ws2,dl:=[] } H2 is2 x4 x5 rs ls ks:=(hN1.stp a2.1 (fun B hB=>nU2 B (.inl hB)) (fun B hB=>nU2 B (.inr hB)) fun B l e g hB x=>by
    obtain⟨y1,y2,y3⟩:=two w1 B l e g hB;rcases x with(x | x) | x
    .exact y1 x
    .exact y2 x
    .exact y3 x).keep bk2 nz2
   have hsep2: ∀B,Blk x4 B\/Blk x5 B-> ¬W2 B/\ ¬V2 B/\B≠Wd/\B<H2.next:=fun B hB=>by
    obtain⟨y1,y2,y3,y4⟩:=hsep1 B hB;have key: ¬((W2 B\/V2 B)\/B=Wd):=fun x=>by
     rcases a2.2 B x with(z | z) | z
     .rcases z with z | z
      .exact y1 z
      .exact y2 z
     .exact y3 z
     .omega
    exact⟨fun x=>key (.inl (.inl x)),fun x=>key (.inl (.inr x)),y3,by omega⟩
   have hp2:Prs H0 H2:=⟨w2.tx.d.okH,by have:=hp1.next;omega,fun B hB _=>by
    rw[a2.1.keep B (by have:=hp1.next;omega) (fun x=>by
     have:=hnew1 B (by rcases x with(x | x) | x;exact .inl x;exact .inr (.inl x);exact .inr (.inr (.inl x)));omega),hp1.keep B hB (fun x=>x)]⟩
   have hnew2: ∀B,(W2 B\/V2 B\/B=Wd)->H0.next<=B:=fun B hB=>by
    have:=hp1.next
    rcases a2.2 B (by rcases hB with x | x | x;exact .inl (.inl x);exact .inl (.inr x);exact .inr x)with(z | z) | z
    .rcases z with z | z
     .exact hnew1 B (.inl z)
     .exact hnew1 B (.inr (.inl z))
    .exact hnew1 B (.inr (.inr (.inl z)))
    .omega
   obtain⟨H3,e3,p3⟩:=zLf (dy (m+2)) n w2.tx;obtain⟨H4,A4,b4,p4,g4,m4,n4⟩:=box p3.ok (.cells (y7 root2) 42 3 false);have hsrc4:srcOf 3 (.slice A4 0 1 2) H4=some (1,y7 root2):=by simp only[srcOf,g4];rfl
   obtain⟨o4,o5,_,_,_⟩:=id hN2;obtain⟨H5,e5,o45,s5,n5⟩:=xA (bytes:=24) (m:=1) p4.ok (by decide) ((o4.mono p3 fun _ _ x=>x).mono p4 fun _ _ x=>x) hsrc4 rfl rfl (by omega) (by omega) (by decide);have N3:=p3.next;have N4:=p4.next;have N5:=s5.next
   have gW3:=Prs.get (p3.trans p4) w2.tx.d.okH gW2;have gW5:H5.h.get Wd=_:=(s5.keep Wd (p4.ok.lt gW3) (fun h=>(hsep2 Wd (.inl h)).2.2.1 rfl)).trans gW3;have r45:Eng.ld1 (.ptr Wd 4) H5=some lv2:=by rw[qV gW5];rfl
   have lvc:=(j9.row gl2).isCell;obtain⟨H6,A6,b6,p6,g6,m6,n6⟩:=box s5.ok (.cells [lv2] 37 1 false);have hsrc6:srcOf 1 (.slice A6 0 1 2) H6=some (1,[lv2]):=by simp only[srcOf,g6];rfl
   have o56:Own 1 37 H6 x5 ls.length ls:=((((o5.mono p3 fun _ _ x=>x).mono p4 fun _ _ x=>x).mono s5 fun B hB x=>hs45 B x hB).mono p6 fun _ _ x=>x);obtain⟨_,_,hlr,_,_⟩:=id hN2;obtain⟨H7,e7,o57,s7,n7⟩:=xA (bytes:=24) (m:=1) p6.ok (by decide) o56 hsrc6 rfl (by simp only[qY,lvc];rfl) (by omega) (by omega) (by decide);have N6:=p6.next;have N7:=s7.next
   have lWd:=w2.tx.d.okH.lt gW2;have s27:Stp (fun B=>Blk x4 B\/Blk x5 B) H2 H7:=⟨s7.ok,by omega,fun B hB hS=>by
    rw[s7.keep B (by omega) (fun x=>hS (.inr x)),p6.keep B (by omega) (fun x=>x),s5.keep B (by omega) (fun x=>hS (.inl x)),p4.keep B (by omega) (fun x=>x),p3.keep B hB (fun x=>x)]⟩
   have b45: ∀B,Blk x4 B\/Blk x5 B-> ∃l e k,H2.h.get B=some (.cells l e k true)/\(k=3\/k=1/\e=37):=fun B hB=>by
    rcases hB with hB | hB
    .exact⟨_,_,_,Own.get o4 hB, .inl rfl⟩
    .exact⟨_,_,_,Own.get o5 hB, .inr ⟨rfl,rfl⟩⟩
   have gall: ∀lv kv,GrP H2 lv kv->GrP H7 lv kv:=fun lv kv h=>h.mono s27 fun B hB x=>by
    obtain⟨l,e',g,hg⟩:=j9.get2 h hB;obtain⟨l',e2,k',hg',hk'⟩:=b45 B x;rw[hg']at hg;simp only[zC,AObj.cells.injEq]at hg;rcases hk' with hk' | ⟨hk',_⟩<;>omega
   have w7:Wld { E1 with ws:=ws2,dl:=[] } H7 Wd Ad As At M2 (L+200) (txg+1) la2 is2 V2 W2 root2 [] (vD l[i] kv) T2:=by
    obtain⟨dr,es,last,z1,ti,z3,z4,z5,z6,z7,hW2⟩:=w2.tx;have hes:es=[]:=by
     have:=ti.pq.len;exact zL (by simpa using this)
    subst hes;have ds7:=w2.ds.stp w2.tx.d.okH s27 (fun B hB x=>(hsep2 B x).2.1 hB) (fun B ks' es' hg x=>by
     obtain⟨l',e2,k',hg',_⟩:=b45 B x;rw[hg']at hg;cases hg)
    obtain⟨On,Nw,wv,dm,dk7,_⟩:=id ds7;refine⟨⟨dr,[],last,z1,ti.wr s27 (fun B hB x=> ?_) dk7,z3,z4,z5,z6,z7,hW2⟩,ds7,w2.us,lv2, ?_,gall _ _ gl2⟩
    .rcases hB with e | e | e | ⟨kv,hkv,_⟩
     .exact(hsep2 B x).1 ((hW2 B).2 (.inl e))
     .exact(hsep2 B x).1 ((hW2 B).2 (.inr (.inl e)))
     .exact(hsep2 B x).1 ((hW2 B).2 (.inr (.inr e)))
     .simp at hkv
    .rw[s27.keep Wd lWd (fun x=>(hsep2 Wd x).2.2.1 rfl)];exact gW2
   have hN7:aZ { E1 with ws:=ws2,dl:=[] } H7 is2 (.slice H4.next 0 (rs.length+1) 1) (.slice H6.next 0 (ls.length+1) 1) (rs++[root2]) (ls++[lv2]) (ks++[vD l[i] kv]):=by
    refine hN2.snoc ?_ o57 ho2 (gall _ _ gl2) (by omega) gall;have:(rs++[root2]).flatMap y7=rs.flatMap y7++y7 root2:=by simp
    rw[this];refine(o45.mono p6 fun _ _ x=>x).mono s7 fun B hB x=> ?_
    have:=Own.lt o5 x;rw[Blk.slice.1 hB]at this;omega
   have hbl:aU 42 3 1 [.int .i64 ((0:Nat):Int), .int .i64 ((0:Nat):Int), .int .u64 ((0:Nat):Int)] [(0, .agg (y7 root2))]=some (.cells (y7 root2) 42 3 false,fun A=> .slice A 0 1 2):=rfl;refine .inl ⟨_,H7, ?_, { E1 with ws:=ws2,dl:=[] },Wd,Ad,As,At,M2,L+200,txg+1,la2,is2,V2,W2,root2,[],_,T2,_,_,_,_,_,rfl,w7,by rw[<-hnb];exact c1.nb,h32,by omega,by omega,hlen1,hN7,by simp;omega,fun B hB=> ?_,fun B h4 h5=> ?_,⟨s7.ok,by have:=hp2.next;omega,fun B hB _=> ?_⟩,fun B hB=> ?_⟩
   .simp(maxSteps:=999999)(disch:=omega) only[QX,eZ,hvH.lnSl,hiI,i1',i2,e1,hrem,h2I,r1,r2,hfree,ckT,hdirty,hltI,e2,show Eng.ld1 (.ptr Wd 2) H2=some (.ptr At 0)from by(rw[qV gW2];rfl),e3,hbl,b4,e5,r45,zK4 37 .nilSlice lvc,b6,e7,zAn,hi1]
   .have lw:=w2.tx.d.lt;have lv:=w2.ds.lt w2.tx.d.okH;rcases hB with hB | hB
    .obtain rfl:=Blk.slice.1 hB;exact⟨fun x=>by have:=lw _ x;omega,fun x=>by have:=lv _ x;omega,by omega,by omega⟩
    .obtain rfl:=Blk.slice.1 hB;exact⟨fun x=>by have:=lw _ x;omega,fun x=>by have:=lv _ x;omega,by omega,by omega⟩
   .have a:=Blk.slice.1 h4;have b:=Blk.slice.1 h5;omega
   .have:=hp2.next
    rw[s27.keep B (by omega) (fun x=>by
     have:=hnew1 B (by rcases x with x | x;exact .inr (.inr (.inr (.inl x)));exact .inr (.inr (.inr (.inr x))));omega),hp2.keep B hB (fun x=>x)]
   .have:=hp2.next
    rcases hB with x | x | x | x | x
    .exact hnew2 B (.inl x)
    .exact hnew2 B (.inr (.inl x))
    .exact hnew2 B (.inr (.inr x))
    .rw[Blk.slice.1 x];omega
    .rw[Blk.slice.1 x];omega
 .have h2I: ¬((i % 3:Nat):Int)=((2:Nat):Int):=by omega
  refine .inl ⟨_,H1, ?_,E1,Wd,Ad,As,At,M,L+200,txg,la,is,V,W1,root1,q1,_,T1,x4,x5,rs,ls,ks,rfl,w1,c1.nb.trans hnb,h3,by omega,by omega,hlen1,hN1,by omega,hsep1,hs45,hp1,hnew1⟩;simp(maxSteps:=999999)(disch:=omega) only[QX,eZ,hvH.lnSl,hiI,i1',i2,e1,hrem,h2I,zAn,hi1]
end Go.Eng.Sh
end
section
set_option maxRecDepth 20000
namespace Go.Eng.Sh
open Go.Nd (Ptr sumL leafOf Kvs Srt mayK putP delP lookP)
open Go.Bt Go.Bk
theorem zIA (m n:Nat)(hm:400000000<=m)(hn:300000000<=n){H0:AH}{v0:AV}{l:List Sp}(hk0:H0.ok)(hv:SpR H0 v0 l)(hkd: ∀s∈l,s.kd<256)(hl:l.length<=60):
  ∀d i k us H,i+d=l.length->d<k->OldI H0 v0 i us H-> ∃Wd x4 x5 H',yJ k (QX (dy (m+2)) n) us H=some (.exit 0 [.ptr Wd 0,x4,x5],H')/\OldF H0 Wd x4 x5 H':=by
 intro d
 induction d with
 | zero=>
  intro i k us H hi hk h;obtain⟨k,rfl⟩: ∃k',k=k'+1:=⟨k - 1,by omega⟩;obtain⟨E,Wd,Ad,As,At,M,L,txg,la,is,V,W,root,q,kv,T,x4,x5,rs,ls,ks,rfl,w,hnb,h3,hL,htx,hkl,hN,hrl,hsep,hs45,hp,hnew⟩:=h;have hvH:SpR H v0 l:=Rw.prs hv hp;have hiI: ¬((i:Nat):Int)< ((l.length:Nat):Int):=by omega
  refine⟨Wd,x4,x5,H,y9 ?_,E,Ad,As,At,M,L,txg,la,is,V,W,root,q,kv,T,rs,ls,ks,w,hN,hp,by omega⟩;simp(maxSteps:=999999)(disch:=omega) only[QX,eZ,hvH.lnSl,hiI]
 | succ d ih=>
  intro i k us H hi hk h;obtain⟨k,rfl⟩: ∃k',k=k'+1:=⟨k - 1,by omega⟩;rcases zFw m n hm hn hk0 hv hkd (by omega) hl h with⟨us',H',e,h'⟩ | ⟨Wd,x4,x5,H',e,h'⟩
  .obtain⟨Wd,x4,x5,H2,e2,h2⟩:=ih (i+1) k us' H' (by omega) (by omega) h';exact⟨Wd,x4,x5,H2,(j5 e).trans e2,h2⟩
  .exact⟨Wd,x4,x5,H',y9 e,h'⟩
theorem zIz (m n:Nat)(hm:400000000<=m)(hn:300000000<=n){H0 H:AH}{Wd:Nat}{x4 x5:AV}(h:OldF H0 Wd x4 x5 H):
  ∃H',yJ n (zAm (dy (m+2)) n) [.ptr Wd 0,x4,x5, .int .i64 ((0:Nat):Int)] H=some (.exit 2 [],H')/\Prs H0 H':=by
 obtain⟨E,Ad,As,At,M,L,txg,la,is,V,W,root,q,kv,T,rs,ls,ks,w,hN,hp,hrl⟩:=h;have hk:=w.tx.d.okH;obtain⟨lv,gW,gl⟩:=w.gW;obtain⟨o4,o5,c1,c2,hall⟩:=hN;have key: ∀d i k H',i+d=rs.length->d<k->Prs H H'-> ∃H'',yJ k (zAm (dy (m+2)) n) [.ptr Wd 0,x4,x5, .int .i64 ((i:Nat):Int)] H'=some (.exit 2 [],H'')/\Prs H H'':=by
  intro d
  induction d with
  | zero=>
   intro i k H' hi hk' p;obtain⟨k,rfl⟩: ∃k',k=k'+1:=⟨k - 1,by omega⟩;have h4:xV H' x4 rs:=Rw.prs o4.row p;have hiI: ¬((i:Nat):Int)< ((rs.length:Nat):Int):=by omega
   refine⟨H',y9 ?_,p⟩;simp(maxSteps:=999999)(disch:=omega) only[zAm,eZ,h4.lnSl,hiI]
  | succ d ih=>
   intro i k H' hi hk' p;obtain⟨k,rfl⟩: ∃k',k=k'+1:=⟨k - 1,by omega⟩;have h4:xV H' x4 rs:=Rw.prs o4.row p;have hiI:((i:Nat):Int)< ((rs.length:Nat):Int):=by omega
   obtain⟨p4,i1,i2⟩:=h4.at (show i<rs.length by omega);have i1':=i1 .i64 _ rfl;obtain⟨ho,hg,hkl⟩:=hall i rs[i] (zG (by omega)) (ls[i]'(by omega)) (zG (by omega)) (ks[i]'(by omega)) (zG (by omega));obtain⟨T2,hr2,_⟩:=ho;have g0:Eng.ld1 (.ptr Wd 0) H'=some (.ptr Ad 0):=by rw[qV (Prs.get p hk gW)];rfl
   obtain⟨H2,At2,M2,W2,e2,p2,tx2,_⟩:=zCB (dy (m+2)) n (by omega) (E:=E) p.ok (Ad:=Ad) (by
    obtain⟨On,Nw,wv,dm,dk,_⟩:=w.ds;exact⟨On,Nw,wv,dm,dk.prs hk p⟩) hr2
   have P2:=p.trans p2;have h5:Rw 1 H2 x5 ls.length ls:=Rw.prs o5.row P2;obtain⟨q5,y,j1,j2,j3⟩:=Rw.ld1 h5 (show i<ls.length by omega);have hy:y=ls[i]'(by omega):=by
    rw[zG (by omega)]at j3;exact(Option.some.inj j3).symm
   subst hy;have j1':=j1 .i64 _ rfl;obtain⟨hsr,hmy⟩:=hr2.srt;obtain⟨H3,e3,p3⟩:=zIQ m n (by omega) hn tx2.d (by omega) (by omega) ((hg.prs P2).row) hsr fun p hp=>(hmy p hp).1
   have t00: ¬(((0:Nat):Int)≠((0:Nat):Int)):=by omega
   have hi1:((i:Nat):Int)+((1:Nat):Int)=((i+1:Nat):Int):=by omega
   obtain⟨H4,e4,p4'⟩:=ih (i+1) k H3 (by omega) (by omega) (P2.trans p3);refine⟨H4,(j5 ?_).trans e4,p4'⟩;simp(maxSteps:=999999)(disch:=omega) only[zAm,eZ,h4.lnSl,hiI,g0,i1',i2,e2,qX,nth,t00,j1',j2,e3,hi1]
 obtain⟨H',e,p⟩:=key rs.length 0 n H (by omega) (by omega) (Stp.refl hk);exact⟨H',e,hp.trans p⟩
theorem treeOld_walk (m n:Nat)(hm:400000000<=m)(hn:300000000<=n){H:AH}(hk:H.ok){v:AV}{l:List Sp}(hv:SpR H v l)(hkd: ∀s∈l,s.kd<256):
  ∃H',f4z (dy (m+2)) n [v] H=some (.bool true,H')/\Prs H H':=by
 have zok: ∀H:AH,z13 (dy (m+2)) n [] H=some (.bool true,H):=fun _=>rfl
 have hln:=hv.lnSl;by_cases h60:l.length<=60
 .have h60I: ¬((60:Nat):Int)< ((l.length:Nat):Int):=by omega
  obtain⟨b,e1,_⟩:=zCM (dy (m+2)) n (by omega) hv
  cases b with
  | true=>
   refine⟨H, ?_,Stp.refl hk⟩;simp(maxSteps:=999999)(disch:=omega) only[f4z,eZ,zok,e1]
  | false=>
   obtain⟨H1,Wd,Ad,As,At,M,V,W,e2,p2,w,hnew⟩:=zHq (dy (m+2)) n (by omega) hk;have hI:OldI H v 0 [v, .ptr Wd 0, .nilSlice, .nilSlice, .int .i64 ((0:Nat):Int)] H1:=by
    refine⟨⟨512,[],[]⟩,Wd,Ad,As,At,M,0,0,0,zKc,V,W,pZ,[],[],[], .nilSlice, .nilSlice,[],[],[],rfl,w,rfl,fun i=>by simp only[zKc];split<;>omega,by omega,by omega,by simp,⟨Own.nil ..,Own.nil ..,rfl,rfl,fun j p h=>by simp at h⟩,by simp,fun B h=> ?_,fun B h=>(Blk.nil.1 h).elim,p2,fun B h=> ?_⟩
    .rcases h with h | h<;>exact(Blk.nil.1 h).elim
    .rcases h with h | h | h | h | h
     .exact hnew B (.inr (.inl h))
     .exact hnew B (.inl h)
     .exact hnew B (.inr (.inr h))
     .exact(Blk.nil.1 h).elim
     .exact(Blk.nil.1 h).elim
   obtain⟨Wd',x4,x5,H2,e3,hF⟩:=zIA m n hm hn hk hv hkd h60 l.length 0 n _ H1 (by omega) (by omega) hI;obtain⟨H3,e4,p4⟩:=zIz m n hm hn hF;refine⟨H3, ?_,p4⟩;simp(maxSteps:=999999)(disch:=omega) only[f4z,eZ,zok,e1,hln,h60I,e2,cq,e3,zLV,e4,zIZ]
 .have h60I:((60:Nat):Int)< ((l.length:Nat):Int):=by omega
  obtain⟨b,e1,_⟩:=zCM (dy (m+2)) n (by omega) hv;refine⟨H, ?_,Stp.refl hk⟩
  cases b with
  | true=>simp(maxSteps:=999999)(disch:=omega) only[f4z,eZ,zok,e1]
  | false=>simp(maxSteps:=999999)(disch:=omega) only[f4z,eZ,zok,e1,hln,h60I]
end Go.Eng.Sh
end
section
namespace Go.Proofs.YtaaflpnhdkoaeaaGreat.steps13
open Go.ChangeShapes Go.WideShapes Go.ChangeAt Go.RowKit
theorem zDi: Tryz.prog.cellsOf 29=4:=by kernel_rfl
theorem zJq: Tryz.prog.cellsOf 5=1:=by kernel_rfl
theorem zJp: Tryz.prog.cellsOf 3=1:=by kernel_rfl
theorem zDj: Tryz.prog.cellsOf 9=1:=by kernel_rfl
abbrev Raw:=Int×ByteArray×ByteArray×Int
def zDC (s:Raw):List Value:=[.int .u8 s.1, .string s.2.1, .string s.2.2.1, .int .i64 s.2.2.2]
def zDY (s:Raw):Prop:=0<=s.1/\s.1<256
open Go.Eng.Sh (Sp spV SpR)
def zL4 (s:Raw):Sp:=⟨s.1.toNat,s.2.1.data.toList,s.2.2.1.data.toList,s.2.2.2⟩
theorem zNm (N:Nat){s:Raw}(h:zDY s):spV (zL4 s)=(zDC s).map (Go.Eng.cellAV N):=by
 have hs:((s.1.toNat:Nat):Int)=s.1:=Int.toNat_of_nonneg h.1;simp only[zDC,List.map_cons,List.map_nil,Go.Eng.cellAV_string,spV,zL4,hs];rfl
set_option maxRecDepth 100000 in
theorem zL0 {H:Type}{enc:TypeId×Value->H}{w:World}{base:Nat}{held:Bool}{fuel:Nat}{cs:List Value}{x:DataW H×List MemPlace}(h:DataW.trod enc Tryz.prog w base (fun _=>true) held fuel 29 cs=some x): ∃s:Raw,cs=zDC s/\zDY s:=by
 obtain⟨xs,n,_,_,hl,hlen,hx⟩:=DataW.trod_struct Tryz.underlying29 h;rw[zDi]at hl
 match cs,hl with
 | [c0,c1,c2,c3],_=>
  match xs,hlen with
  | [y0,y1,y2,y3],_=>
   have k0:DataW.trod enc Tryz.prog w base (fun _=>true) held n 5 [c0]=some y0:=by
    have this:DataW.trod enc Tryz.prog w base (fun _=>true) held n 5 (List.take (Tryz.prog.cellsOf 5) (List.drop 0 [c0,c1,c2,c3]))=some y0:=hx 0 _ rfl;rw[zJq]at this;exact this
   have k1:DataW.trod enc Tryz.prog w base (fun _=>true) held n 9 [c1]=some y1:=by
    have this:DataW.trod enc Tryz.prog w base (fun _=>true) held n 9 (List.take (Tryz.prog.cellsOf 9) (List.drop 1 [c0,c1,c2,c3]))=some y1:=hx 1 _ rfl;rw[zDj]at this;exact this
   have k2:DataW.trod enc Tryz.prog w base (fun _=>true) held n 9 [c2]=some y2:=by
    have this:DataW.trod enc Tryz.prog w base (fun _=>true) held n 9 (List.take (Tryz.prog.cellsOf 9) (List.drop 2 [c0,c1,c2,c3]))=some y2:=hx 2 _ rfl;rw[zDj]at this;exact this
   have k3:DataW.trod enc Tryz.prog w base (fun _=>true) held n 3 [c3]=some y3:=by
    have this:DataW.trod enc Tryz.prog w base (fun _=>true) held n 3 (List.take (Tryz.prog.cellsOf 3) (List.drop 3 [c0,c1,c2,c3]))=some y3:=hx 3 _ rfl;rw[zJp]at this;exact this
   clear hx h;obtain⟨a0,h0,_,hw⟩:=DataW.trod_int Tryz.underlying5 k0;obtain⟨a1,h1,_⟩:=DataW.trod_string Tryz.underlying9 k1;obtain⟨a2,h2,_⟩:=DataW.trod_string Tryz.underlying9 k2;obtain⟨a3,h3,_⟩:=DataW.trod_int Tryz.underlying3 k3;obtain rfl:=(List.cons.inj h0).1;obtain rfl:=(List.cons.inj h1).1;obtain rfl:=(List.cons.inj h2).1;obtain rfl:=(List.cons.inj h3).1;refine⟨(a0,a1,a2,a3),rfl, ?_⟩;simp only[Lit.wf,IntKind.min,IntKind.max,IntKind.signed,IntKind.bits,zE,zJ]at hw;simp only[zDY];simp at hw;omega
instance:Inhabited Raw:=⟨(0, .empty, .empty,0)⟩
set_option maxRecDepth 100000 in
theorem steps_in {H:Type}{enc:TypeId×Value->H}{w:World}{base:Nat}{held:Bool}{v:Value}{d:DataW H}{ps:List MemPlace}(hv: ∃a len cap,v= .slice a len cap)(h:DataW.Trod enc Tryz.prog w base (fun _=>true) held 22 v d ps):
  ∃l:List Sp,SpR (Go.Eng.H0 w) (Go.Eng.argAV w.heap.size v) l/\ ∀s∈l,s.kd<256:=by
 obtain⟨a0,len0,cap0,rfl⟩:=hv;obtain⟨fuel,hf⟩:=h;obtain⟨l,h1,h2⟩:=Go.Eng.srows_arg (α:=Raw) (k:=4) (by decide) (vals:=zDC) (fun _=>rfl) (good:=zDY) Tryz.underlying22 zDi (fun h=>zL0 h) hf;refine⟨l.map zL4, ?_,fun s hs=> ?_⟩
 .have e:(l.map zL4).flatMap spV=l.flatMap fun s=>(zDC s).map (Go.Eng.cellAV w.heap.size):=by
   have: ∀l:List Raw,(∀s∈l,zDY s)->(l.map zL4).flatMap spV=l.flatMap fun s=>(zDC s).map (Go.Eng.cellAV w.heap.size):=by
    intro l
    induction l with
    | nil=>intro _;rfl
    | cons s l ih=>
     intro hg;rw[List.map_cons,zZ,zZ,zNm w.heap.size (hg s (zH ..)),ih fun s hs=>hg s (zF _ hs)]
   exact this l h2
  show Go.Eng.Rw 4 _ _ (l.map zL4).length _;rw[e,qM];exact h1
 .obtain⟨r,hr,rfl⟩:=List.mem_map.1 hs;have:=h2 r hr;simp only[zL4];simp only[zDY]at this;omega
end Go.Proofs.YtaaflpnhdkoaeaaGreat.steps13
end
section
namespace Go.Proofs.YtaaflpnhdkoaeaaGreat.treeOld
open Go.ChangeShapes Go.WideShapes Go.ChangeAt Go.RowKit
theorem own:ownKnob Tryz.prog.godebug=none:=by kernel_rfl
theorem laid:laidOutB Tryz.prog=true:=by kernel_rfl
set_option maxRecDepth 100000 in
theorem contract (H:Type)(enc:TypeId×Value->H)(W:World)(base:Nat)(args:Array Value)(ds gs:List (DataW H))(before:List MemPlace)
  (hval: ∀(j:Nat) t v, Tryz.f4.params[j]? =some t->args[j]? =some v->Value.okWide Tryz.prog W .any base t v)
  (hW:DataW.Whole enc Tryz.prog Tryz.f4.params.toList Rows.treeOldSpec.vars false W args.toList ds gs before):
  Calls Tryz.prog 4 args W fun e W'=> ∃v,e= .returned v/\Rows.treeOldSpec.post enc Tryz.prog Tryz.f4 false true false false W args v W':=by
 have hW':=hW;obtain⟨p,q,hA0,hV,rfl,hfz,hnd⟩:=hW;have hA:DataW.TrodAll enc Tryz.prog W 0 (fun _=>true) true Tryz.f4.params.toList args.toList ds p:=hA0;rw[Tryz.params4]at hA hval;obtain⟨v0,vs0,d0,ds0,p0,q0,hargs,rfl,rfl,h0,r0⟩:=trodAll_cons hA;obtain⟨rfl,rfl,rfl⟩:=trodAll_nil r0;obtain rfl:args= #[v0]:=by cases args;simp_all
 obtain⟨rfl,rfl⟩:=trodVars_none hV;clear hA0;have hlt0: ∀x∈p0,x.block<W.heap.size:=fun x hx=>hW'.lt x (by simp[hx])
 obtain⟨l,hN,hkd⟩:=steps13.steps_in (okWide_slice Tryz.underlying22 (hval 0 22 v0 rfl rfl)) h0;obtain⟨m,hm⟩: ∃m:Nat,400000000<=m:=⟨_,Nat.le_refl _⟩;obtain⟨H',hrun,hP⟩:=Go.Eng.Sh.treeOld_walk m (m+2) hm (by omega) (Go.Eng.H0_ok W) hN hkd;have hcall:=Go.Eng.calls_param (Go.Eng.Sh.f4z_ok (Go.Eng.Sh.dy_ok (m+2)) (m+2)) W (args:= #[v0]) (H':=H') hrun (fun A hA=>hP.keep A hA (fun x=>x));refine hcall.mono fun e W' ⟨he,hb⟩=> ?_
 subst he;simp only[List.append_nil]at hW';refine⟨_,rfl,_,_,_,[],p0++[],[],hW', ?_, ?_,rfl,hb.frame _,fun h=>by cases h⟩
 .exact trodAll_cons_mk (shut_bool Tryz.underlying4 _) trodAll_mk0
 .exact trodAll_cons_mk (Below.trod laid (by kernel_rfl) (of_decide_eq_true (by kernel_rfl)) h0 hb hlt0) trodAll_mk0
set_option maxRecDepth 100000 in
theorem lifted (os:Os)(started:os.Started)(H:Type)(enc:TypeId×Value->H):
  ReturnsInHanded {} Tryz.checked os 4 .any (Rows.treeOldSpec.pre6 enc Tryz.prog Tryz.f4 Rows.treeOldRow.domain false) (Rows.treeOldSpec.post enc Tryz.prog Tryz.f4 false true false false):=by
 refine returnsInHanded_of_change (C:= Tryz.checked) own started (by kernel_rfl) Tryz.func4
  (ChangeSpec.witness6 (enc:=enc) (C:= Tryz.checked) false ⟨#[], #[.slice none 0 0],[]⟩ 8 (by kernel_rfl) (by kernel_rfl) (by kernel_rfl) (by kernel_rfl)) ?_
 intro W base args ds gs before hval hW _ _;exact contract H enc W base args ds gs before hval hW
theorem holds:Rows.TreeOldSaid:=
 OpenClaim.holds_of_wide 4 Tryz.f4 rfl rfl rfl rfl rfl rfl rfl ⟨rfl,rfl,rfl,rfl,rfl⟩ rfl rfl rfl rfl rfl (by kernel_rfl) Tryz.func4 (by kernel_rfl)
  (of_decide_eq_true (by kernel_rfl)) (by unfold Func.isWrapper;first | (rw[if_pos (by decide+kernel)];kernel_rfl) | (rw[if_neg (by decide+kernel)];exact⟨rfl,rfl⟩))
  (fun os started H enc _=>lifted os started H enc)
end Go.Proofs.YtaaflpnhdkoaeaaGreat.treeOld
namespace Go.Proofs.YtaaflpnhdkoaeaaGreat
theorem treeOld_holds:Rows.TreeOldSaid:=treeOld.holds
end Go.Proofs.YtaaflpnhdkoaeaaGreat
end
