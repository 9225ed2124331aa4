/- A checked evaluator for the program, and what it tells, part 7: no condition. -/
import Derived.Test.YtgffmjchoomnoaaGreatDoorOW6
import Derived.Test.YtgffmjchoomnoaaGreatDoorRows
import Derived.Test.YtgffmjchoomnoaaGreatDoorCards
import Derived.Test.YtgffmjchoomnoaaGreatDoorTie
import Derived.ProofKit
import Derived.OpenShut
import Derived.Carry
import Derived.LaidMore
import Derived.Lay
import Derived.SevenTiedAt
import Derived.Stop.Joined
set_option linter.all false
set_option linter.unusedVariables false
set_option linter.unusedSimpArgs false
set_option maxHeartbeats 8000000
set_option maxRecDepth 20000
section
namespace Go.Ex
open Go.Nd (Str Kvs putP delP lookP Srt mayK)
open Go.Eng.Sh (bZ vI)
def zIQ (i:Nat)(kv:Kvs):Prop:= ∀p,p<4294967296-> ∀v,lookP (yZ i p) kv=some v->v.length<=128/\ ∃h:v≠[],v.getLast h≠0
def pcs (a n c:Nat):Nat:=(a+c) / 128 - a / 128+(if c<n then 0 else 1)
theorem zAA (a n c:Nat):pcs a n c<=c / 128+2:=by
 rw[pcs];split<;>omega
theorem zAz {a n c:Nat}(hc:c<n):pcs a n c+1<=pcs a n (c+bZ (a+c) (n - c)):=by
 obtain⟨q1,q2,q3,q4⟩:=vI (x:=a+c) (n:=n - c) (by omega);rw[pcs,pcs,if_pos hc];split<;>omega
structure WS (kv0 kv:Kvs)(i a:Nat)(tx:Str)(c:Nat):Prop where
 srt:Srt kv
 byt: ∀x,x<100000000->bD kv i x=if a<=x/\x<a+c then tx.getD (x - a) 0 else bD kv0 i x
 oth: ∀k,(∀p,p<256->k≠yZ i p)->lookP k kv=lookP k kv0
 len:kv.length<=kv0.length+pcs a tx.length c
 tidy:zIQ i kv0->zIQ i kv
theorem zCm {kv:Kvs}(h:Srt kv)(i a:Nat)(tx:Str):WS kv kv i a tx 0:=
 ⟨h,fun x _=>by rw[if_neg (by omega)],fun _ _=>rfl,by omega,fun h=>h⟩
theorem zBH {kv:Kvs}(h:Srt kv){i p:Nat}{b:Str}(hb:b.length=128)(hi:i<4294967296)(hp:p<4294967296)(ht:zIQ i kv):zIQ i (wP kv i p b):=fun q hq v hv=>by
 rw[bI h]at hv;by_cases e:yZ i q=yZ i p
 ·rw[if_pos e]at hv;by_cases hz:yM b=[]
  ·rw[if_pos hz]at hv;cases hv
  ·rw[if_neg hz]at hv;obtain rfl:=Option.some.inj hv;obtain⟨k,_,h1 | h1⟩:=wB b
   ·exact absurd h1 hz
   ·exact⟨by have:=fP b;omega,h1⟩
 ·rw[if_neg e]at hv;exact ht q hq v hv
theorem WS.step {kv0 kv:Kvs}{i a c:Nat}{tx:Str}(w:WS kv0 kv i a tx c)(hi:i<4294967296)(ha:a+tx.length<=32768)(hc:c<tx.length):
  WS kv0 (wP kv i ((a+c) / 128) (over (wQ kv i ((a+c) / 128)) ((a+c) % 128) ((tx.drop c).take (bZ (a+c) (tx.length - c))))) i a tx (c+bZ (a+c) (tx.length - c)):=by
 obtain⟨x,hx⟩: ∃x,x=a+c:=⟨_,rfl⟩;rw[<-hx];obtain⟨q1,q2,q3,q4⟩:=vI (x:=x) (n:=tx.length - c) (by omega);obtain⟨k,hk⟩: ∃k,k=bZ x (tx.length - c):=⟨_,rfl⟩;rw[<-hk]at q1 q2 q3 q4⊢;have hl:((tx.drop c).take k).length=k:=by rw[zH,zN];omega
 obtain⟨b,hb⟩: ∃b,b=over (wQ kv i (x / 128)) (x % 128) ((tx.drop c).take k):=⟨_,rfl⟩;have hbl:b.length=128:=by rw[hb,zAD (by rw[hl,xK];omega),xK]
 rw[<-hb];refine⟨XE w.srt _ _ _,fun y hy=> ?_,fun key hkey=> ?_, ?_,fun ht=>zBH w.srt hbl hi (by omega) (w.tidy ht)⟩
 ·rw[bD,UY w.srt hbl hi hi (by omega) (by omega)];by_cases e:y / 128=x / 128
  ·rw[if_pos ⟨rfl,e⟩,hb,zGL (by rw[hl,xK];omega),hl];by_cases hin:x % 128<=y % 128/\y % 128<x % 128+k
   ·rw[if_pos hin,if_pos (by omega)];simp only[zG,List.getElem?_take,qA];rw[if_pos (by omega)];congr 2;omega
   ·rw[if_neg hin];have:=w.byt y hy;rw[bD,e]at this;rw[this];by_cases h2:a<=y/\y<a+c
    ·rw[if_pos h2,if_pos (by omega)]
    ·rw[if_neg h2,if_neg (by omega)]
  ·rw[if_neg fun h=>e h.2];have:=w.byt y hy;rw[bD]at this;rw[this];by_cases h2:a<=y/\y<a+c
   ·rw[if_pos h2,if_pos (by omega)]
   ·rw[if_neg h2,if_neg (by omega)]
 ·rw[bI w.srt,if_neg (hkey _ (by omega))];exact w.oth key hkey
 ·have:=zD0 w.srt i (x / 128) b;have:=w.len;have:=zAz (a:=a) hc;rw[<-hx,<-hk]at this;omega
end Go.Ex
namespace Go.Eng.Sh
open Go.Nd (Ptr yG qP Kvs Srt Str lookP putP delP mayK)
open Go.Bt Go.Dr Go.Ex
def lpW (X2 X3 X4 X5:Nat):ALoop:=⟨.ready,none,29,0,[2,3,4,5],[.ptr X2 0, .ptr X3 0, .ptr X4 0, .ptr X5 0]⟩
structure WI (kv0:Kvs)(i a:Nat)(tx:Str)(At M L0 A1 X2 X3 X4 X5:Nat)(c:Nat)(H:AH)(W:Nat->Prop):Prop where
 gA:H.h.get A1=some (.loop (lpW X2 X3 X4 X5))
 x2:Box H X2 (.ptr At 0)
 x3:Box H X3 (.int .i64 ((i:Nat):Int))
 x4:Box H X4 (.int .i64 ((0:Nat):Int))
 x5:Box H X5 (S (tx.drop c))
 ex: ∃kv,yP H At M (L0+200*pcs a tx.length c) kv/\WS kv0 kv i a tx c
 w: ∀B,W B↔B=A1\/B=X4\/B=X5\/B=At\/B=M
 ne:X5≠X2/\X5≠X3/\X5≠X4
 na:A1≠At/\X2≠At/\X3≠At/\X4≠At/\X5≠At
theorem zKv (m:Nat){H:AH}{A1 X2 X3 X4 X5:Nat}(gA:H.h.get A1=some (.loop (lpW X2 X3 X4 X5)))(az:List AV):(dy (m+1)).yld A1 az H=zDq (dy m) m A1 (lpW X2 X3 X4 X5) az H:=by
 show cQ (tabR (dy m) m) A1 az H=_;simp only[cQ,gA];rfl
theorem zHJ {H:AH}{A B:Nat}{v:AV}{ks:List Nat}{es:List (AV×AV)}(b:Box H A v)(g:H.h.get B=some (.map ks es)):A≠B:=fun e=>by
 obtain⟨_,hb⟩:=b;rw[e,g]at hb;cases hb
theorem yP.gm {H:AH}{At M L:Nat}{kv:Kvs}(t:yP H At M L kv): ∃es,H.h.get M=some (.map [10] es):=by
 obtain⟨_,_,_,_,es,_,_,_,_,ti,_⟩:=t;exact⟨es,ti.gM⟩
theorem yP.okH {H:AH}{At M L:Nat}{kv:Kvs}(t:yP H At M L kv):H.ok:=by
 obtain⟨_,_,_,_,_,_,_,_,_,ti,_⟩:=t;exact ti.ok
theorem zCn {kv0:Kvs}{i a:Nat}{tx:Str}{At M L0 A1 X2 X3 X4 X5 c:Nat}{H:AH}{W:Nat->Prop}(m:Nat)(hm:400000000<=m)(hi:i<4294967296)(ha:a+tx.length<=32768)(hL0:L0<=50000000)(hkv0:kv0.length<=100000000)(hc:c<tx.length)(h:WI kv0 i a tx At M L0 A1 X2 X3 X4 X5 c H W):
  ∃H' W',(dy (m+1)).yld A1 [.agg (uE (a+c) (tx.length - c))] H=some (.bool true,H')/\WI kv0 i a tx At M L0 A1 X2 X3 X4 X5 (c+bZ (a+c) (tx.length - c)) H' W'/\Adw W H W' H':=by
 obtain⟨gA,x2,x3,x4,x5,⟨kv,t,ws⟩,hW,⟨ne2,ne3,ne4⟩,⟨na1,na2,na3,na4,na5⟩⟩:=h;rw[zKv m gA];obtain⟨es,gM⟩:=t.gm;have hk:=t.okH;obtain⟨x,hx⟩: ∃x,x=a+c:=⟨_,rfl⟩;obtain⟨r,hr⟩: ∃r,r=tx.length - c:=⟨_,rfl⟩;obtain⟨q1,q2,q3,q4⟩:=vI (x:=x) (n:=r) (by omega);have wstep:=ws.step hi ha hc;have hps:=zAz (a:=a) hc;rw[<-hx,<-hr]at wstep⊢;obtain⟨k,hk9⟩: ∃k,k=bZ x r:=⟨_,rfl⟩;obtain⟨tt,htt⟩: ∃tt,tt=min 128 (x % 128+r):=⟨_,rfl⟩;rw[<-hx,<-hr,<-hk9]at hps;rw[<-hk9]at q1 q2 q3 q4 wstep⊢;rw[<-htt]at q4;have lA:=hk.lt gA;have l2:=x2.lt hk;have l3:=x3.lt hk;have l4:=x4.lt hk;have l5:=x5.lt hk;have lt:=t.lt;have n12:=uJ gA x2;have n13:=uJ gA x3;have n14:=uJ gA x4;have n15:=uJ gA x5;have nM1:A1≠M:=fun e=>by rw[e,gM]at gA;cases gA
 have nM2:=zHJ x2 gM;have nM3:=zHJ x3 gM;have nM4:=zHJ x4 gM;have nM5:=zHJ x5 gM;obtain⟨b,hb⟩: ∃b,b=wQ kv i (x / 128):=⟨_,rfl⟩;have hbl:b.length=128:=by rw[hb];exact xK ..
 have hkl:=ws.len;have hpl:=zAA a tx.length c;obtain⟨H1,A6,b1,p1,g1,m1,n1⟩:=box hk (.cells [.int .i64 ((0:Nat):Int), .int .i64 ((0:Nat):Int), .int .i64 ((0:Nat):Int)] 68 1 false);obtain⟨H2,e2,g2,s2,n2⟩:=yA p1.ok g1 (l':=uE x r) rfl rfl;have e2':stN 3 (.ptr A6 0) (.agg (uE x r)) H1=some (qM,H2):=e2;have P2:Prs H H2:=p1.fresh s2 fun B hB=>by omega
 have N1:=p1.next;have N2:=s2.next
 have gA2:=Prs.get P2 hk gA;have hbeg: ∀K:AH->Rs,xQ A1 H2 K=K (H2.put A1 (.loop { lpW X2 X3 X4 X5 with state:= .busy})):=fun K=>by
  simp only[xQ,gA2,lpW,yV]
 have s3:Stp (fun B=>B=A1) H2 (H2.put A1 (.loop { lpW X2 X3 X4 X5 with state:= .busy})):=(Stp.refl s2.ok).put (s2.ok.lt gA2) _ (.inr rfl);have gA3:(H2.put A1 (.loop { lpW X2 X3 X4 X5 with state:= .busy})).h.get A1=some (.loop { lpW X2 X3 X4 X5 with state:= .busy}):=by rw[AH.put_get,if_pos rfl]
 generalize H2.put A1 (.loop { lpW X2 X3 X4 X5 with state:= .busy})=H3 at s3 gA3 hbeg;have N3:=s3.next
 have t3:=(t.prs P2).free s3 fun B _ e=>by subst e;exact⟨na1,_,gA2, .inr ⟨_,rfl⟩⟩
 have T3:Stp (fun B=>B=A1\/B=X5\/B=At\/B=M) H H3:=Stp.thru (Prs.stp P2) s3 fun B e=> .inr (.inl e)
 obtain⟨H4,e4,p4⟩:=zAb m m (by omega) t3 (by omega) (by omega) i (x / 128);rw[<-hb]at e4;have N4:=p4.next
 have t4:=t3.prs p4;obtain⟨Z,hZ⟩: ∃Z:Str,Z=List.replicate 128 0:=⟨_,rfl⟩;have hZl:Z.length=128:=by rw[hZ];simp
 have hzr:rep 128 [AV.int .u8 ((0:Nat):Int)]=qR Z:=by rw[ZK,hZ]
 obtain⟨H5,A7,b5,p5,g5,m5,n5⟩:=box p4.ok (.cells (qR Z) 69 1 false);have N5:=p5.next
 have t5:=t4.prs p5;obtain⟨H6,e6,g6,s6⟩:=Z4 p5.ok g5 hZl hbl;have N6:=s6.next
 have bxb: ∀ {y:Str},y.length=128->Bx (.cells (qR y) 69 1 false):=fun {y} hy=>by
  cases y with
  | nil=>simp at hy
  | cons z y=>exact .inl ⟨_,_,_,_,rfl⟩
 have t6:=t5.free s6 fun B _ e=>by subst e;exact⟨by omega,_,g5,bxb hZl⟩
 have T6:Stp (fun B=>B=A1\/B=X5\/B=At\/B=M) H H6:=Stp.thru (Stp.thru (Stp.thru T3 p4 fun B e=>e.elim) p5 fun B e=>e.elim) s6 fun B e=> .inl (by omega)
 obtain⟨rest,hrest⟩: ∃rest,rest=tx.drop c:=⟨_,rfl⟩;have hrl:rest.length=r:=by rw[hrest,zN,hr]
 rw[<-hrest]at x5 wstep;have hmin:min rest.length k=k:=by omega
 obtain⟨H7,e7,g7,s7⟩:=zMD (off:=x % 128) (m:=k) (cc:=2*(128 - x % 128)) (s:=rest) g6 s6.ok (by omega);rw[hmin]at e7 g7;have N7:=s7.next
 obtain⟨b',hb'⟩: ∃b',b'=Ex.over b (x % 128) (rest.take k):=⟨_,rfl⟩;have g7':H7.h.get A7=some (.cells (qR b') 69 1 false):=by rw[hb'];exact g7
 have hbl':b'.length=128:=by rw[hb',zAD (by rw[zH];omega),hbl]
 have t7:=t6.free s7 fun B _ e=>by subst e;exact⟨by omega,_,g6,bxb hbl⟩
 have T7:Stp (fun B=>B=A1\/B=X5\/B=At\/B=M) H H7:=Stp.thru T6 s7 fun B e=> .inl (by omega)
 have nS: ∀ {B:Nat},B≠A1->B≠X5->B≠At->B≠M-> ¬(B=A1\/B=X5\/B=At\/B=M):=fun h1 h2 h3 h4 e=>by
  rcases e with e | e | e | e
  ·exact h1 e
  ·exact h2 e
  ·exact h3 e
  ·exact h4 e
 have x56:Box H6 X5 (S rest):=by
  have y1:=x5.mono hk P2 fun x=>x
  have y3:=y1.mono P2.ok s3 (fun e=>n15 e.symm);have y5:=(y3.mono s3.ok p4 fun x=>x).mono p4.ok p5 fun x=>x
  exact y5.mono p5.ok s6 (by omega)
 have x57:Box H7 X5 (S rest):=x56.mono s6.ok s7 (by omega);obtain⟨H8,e8,x58,s8⟩:=x57.st s7.ok (x:=S (rest.drop k)) rfl;have N8:=s8.next
 have t8:=t7.free s8 fun B _ e=>by subst e;exact⟨na5,Box.bx x57⟩
 have T8:Stp (fun B=>B=A1\/B=X5\/B=At\/B=M) H H8:=Stp.thru T7 s8 fun B e=> .inr (.inr (.inl e))
 have g78:H8.h.get A7=some (.cells (qR b') 69 1 false):=by rw[s8.keep _ (by omega) (by omega)];exact g7'
 obtain⟨m',rfl⟩: ∃m',m=m'+2:=⟨m - 2,by omega⟩;obtain⟨H9,e9,t9,s9⟩:=zCk m' (m'+2) (by omega) (by omega) t8 ws.srt (by omega) (by omega) i (x / 128) hbl' g78;have N9:=s9.next
 have T9:Stp (fun B=>B=A1\/B=X5\/B=At\/B=M) H H9:=Stp.thru T8 s9 fun B e=> .inr (.inr (.inr e))
 have gA9:H9.h.get A1=some (.loop { lpW X2 X3 X4 X5 with state:= .busy}):=by
  rw[s9.keep _ (by omega) (by omega),s8.keep _ (by omega) n15,s7.keep _ (by omega) (by omega),s6.keep _ (by omega) (by omega),p5.keep _ (by omega) (fun x=>x),p4.keep _ (by omega) (fun x=>x)];exact gA3
 have s10:Stp (fun B=>B=A1) H9 (H9.put A1 (.loop (lpW X2 X3 X4 X5))):=(Stp.refl s9.ok).put (s9.ok.lt gA9) _ (.inr rfl);have hend:YB A1 none H9=some (.bool true,H9.put A1 (.loop (lpW X2 X3 X4 X5))):=by simp only[YB,gA9,yV,lpW]
 have gA10:(H9.put A1 (.loop (lpW X2 X3 X4 X5))).h.get A1=some (.loop (lpW X2 X3 X4 X5)):=by rw[AH.put_get,if_pos rfl]
 have T10:Stp (fun B=>B=A1\/B=X5\/B=At\/B=M) H (H9.put A1 (.loop (lpW X2 X3 X4 X5))):=Stp.thru T9 s10 fun B e=> .inr (.inl e)
 have t10:=t9.free s10 fun B _ e=>by subst e;exact⟨na1,_,gA9, .inr ⟨_,rfl⟩⟩
 generalize H9.put A1 (.loop (lpW X2 X3 X4 X5))=H10 at s10 hend gA10 T10 t10;have x59:Box H9 X5 (S (rest.drop k)):=x58.mono s8.ok s9 (by omega);have hdd:rest.drop k=tx.drop (c+k):=by rw[hrest,List.drop_drop]
 refine⟨H10,W, ?_,⟨gA10,x2.mono hk T10 (nS (fun e=>n12 e.symm) (fun e=>ne2 e.symm) na2 nM2),x3.mono hk T10 (nS (fun e=>n13 e.symm) (fun e=>ne3 e.symm) na3 nM3),x4.mono hk T10 (nS (fun e=>n14 e.symm) (fun e=>ne4 e.symm) na4 nM4),by rw[<-hdd];exact x59.mono s9.ok s10 (fun e=>n15 e.symm),⟨_,t10.up (by omega),by rw[hb',hb];exact wstep⟩,hW,⟨ne2,ne3,ne4⟩,⟨na1,na2,na3,na4,na5⟩⟩,⟨T10.mono fun B _ hB=>(hW B).2 (by
  rcases hB with e | e | e | e
  ·exact .inl e
  ·exact .inr (.inr (.inl e))
  ·exact .inr (.inr (.inr (.inl e)))
  ·exact .inr (.inr (.inr (.inr e)))),fun B hB=> .inl hB⟩⟩
 have hl:aU [2,3,4,5] (lpW X2 X3 X4 X5).live=true:=rfl;have hvl:(lpW X2 X3 X4 X5).vals=[.ptr X2 0, .ptr X3 0, .ptr X4 0, .ptr X5 0]:=rfl;have x23:Box H3 X2 (.ptr At 0):=(x2.mono hk P2 fun x=>x).mono P2.ok s3 (fun e=>n12 e.symm);have x33:Box H3 X3 (.int .i64 ((i:Nat):Int)):=(x3.mono hk P2 fun x=>x).mono P2.ok s3 (fun e=>n13 e.symm);have x28:Box H8 X2 (.ptr At 0):=x2.mono hk T8 (nS (fun e=>n12 e.symm) (fun e=>ne2 e.symm) na2 nM2);have x38:Box H8 X3 (.int .i64 ((i:Nat):Int)):=x3.mono hk T8 (nS (fun e=>n13 e.symm) (fun e=>ne3 e.symm) na3 nM3);have gp3:H3.h.get A6=some (.cells (uE x r) 68 1 false):=by rw[s3.keep _ (by omega) (by omega)];exact g2
 have gp6:H6.h.get A6=some (.cells (uE x r) 68 1 false):=by rw[s6.keep _ (by omega) (by omega),p5.keep _ (by omega) (fun x=>x),p4.keep _ (by omega) (fun x=>x)];exact gp3
 have gp8:H8.h.get A6=some (.cells (uE x r) 68 1 false):=by rw[s8.keep _ (by omega) (by omega),s7.keep _ (by omega) (by omega)];exact gp6
 have q30:Eng.ld1 (.ptr A6 0) H3=some (.int .i64 ((x / 128:Nat):Int)):=by rw[qL gp3];rfl
 have q61:Eng.ld1 (.ptr A6 1) H6=some (.int .i64 ((x % 128:Nat):Int)):=by rw[qL gp6];rfl
 have q62:Eng.ld1 (.ptr A6 2) H6=some (.int .i64 ((tt:Nat):Int)):=by rw[qL gp6,htt];rfl
 have q80:Eng.ld1 (.ptr A6 0) H8=some (.int .i64 ((x / 128:Nat):Int)):=by rw[qL gp8];rfl
 have hsl:xW 128 1 (.ptr A7 0) (some (.int .i64 ((x % 128:Nat):Int))) (some (.int .i64 ((tt:Nat):Int))) none=some (.slice A7 (x % 128) k (2*(128 - x % 128))):=by
  have:=zAu (n:=128) (A:=A7) (lo:=x % 128) (hi:=tt) (by omega) (by omega) (by omega) .i64 .i64;rw[this,show tt - x % 128=k by omega]
 have hst:gV (S rest) (some (.int .i64 ((k:Nat):Int))) none=some (S (rest.drop k)):=by
  rw[zGp _ _ (by omega) (by rw[zS];omega),zS]
 have t00: ¬(((0:Nat):Int)≠((0:Nat):Int)):=by omega
 simp(maxSteps:=999999)(disch:=omega) only[zDq,eZ,hl,hvl,cond_true,b1,e2',hbeg,x23.ld,x33.ld,q30,e4,qK,nth,hzr,b5,e6,t00,x56.ld,q61,q62,hsl,e7,x57.ld,zKU,hst,e8,x28.ld,x38.ld,q80,zId,e9];exact hend
theorem zG4 {kv0:Kvs}{i a:Nat}{tx:Str}{At M L0 A1 X2 X3 X4 X5:Nat}(hi:i<4294967296)(ha:a+tx.length<=32768)(hL0:L0<=50000000)(hkv0:kv0.length<=100000000):Pc A1 a tx.length 400000000 (fun B=>B=X2\/B=X3) (WI kv0 i a tx At M L0 A1 X2 X3 X4 X5) where
 ok:=fun h=>by obtain⟨kv,t,_⟩:=h.ex;exact t.okH
 lt:=fun {c H W} h B hB=>by
  obtain⟨kv,t,_⟩:=h.ex;have hk:=t.okH;have lt:=t.lt;have l1:=hk.lt h.gA;have l2:=h.x2.lt hk;have l3:=h.x3.lt hk;have l4:=h.x4.lt hk;have l5:=h.x5.lt hk;rcases(h.w B).1 hB with e | e | e | e | e<;>omega
 frame:=fun {c H H' W S} h s hS=>by
  obtain⟨kv,t,ws⟩:=h.ex;have hk:=t.okH;have lt:=t.lt;have l1:=hk.lt h.gA;have l2:=h.x2.lt hk;have l3:=h.x3.lt hk;have l4:=h.x4.lt hk;have l5:=h.x5.lt hk;have no: ∀ {B},B<H.next->W B-> ¬S B:=fun hl hw hs=>(hS _ hl hs).1 hw
  have n1:=no l1 ((h.w A1).2 (.inl rfl));have n2: ¬S X2:=fun hs=>(hS _ l2 hs).2.1 (.inl rfl)
  have n3: ¬S X3:=fun hs=>(hS _ l3 hs).2.1 (.inr rfl)
  have n4:=no l4 ((h.w X4).2 (.inr (.inl rfl)));have n5:=no l5 ((h.w X5).2 (.inr (.inr (.inl rfl))));have nT:=no lt.1 ((h.w At).2 (.inr (.inr (.inr (.inl rfl)))));exact⟨by rw[s.keep _ l1 n1];exact h.gA,h.x2.mono hk s n2,h.x3.mono hk s n3,h.x4.mono hk s n4,h.x5.mono hk s n5,⟨kv,t.free s fun B hl hs=>⟨fun e=>nT (e▸hs),(hS B hl hs).2.2⟩,ws⟩,h.w,h.ne,h.na⟩
 run:=fun {c H W} m hm hc h=>zCn m hm hi ha hL0 hkv0 hc h
set_option maxRecDepth 20000 in
theorem zMG (m n:Nat)(a b c d:Nat)(H:AH):callV (s28 (dy (m+1)) n).S (dy (m+1)) (.func 29 [] [.ptr a 0, .ptr b 0, .ptr c 0, .ptr d 0]) [] H=f29 (dy m) m [.ptr a 0, .ptr b 0, .ptr c 0, .ptr d 0] H:=rfl
theorem parts_ok (D:Dyn)(n:Nat){H:AH}(hk:H.ok)(a k:Nat): ∃H' Ba Bn,f30 D n [.int .i64 ((a:Nat):Int), .int .i64 ((k:Nat):Int)] H=some (.func 57 [] [.ptr Bn 0, .ptr Ba 0],H')/\Prs H H'/\Box H' Ba (.int .i64 ((a:Nat):Int))/\Box H' Bn (.int .i64 ((k:Nat):Int))/\Ba≠Bn/\H.next<=Ba/\H.next<=Bn:=by
 obtain⟨H1,Ba,b1,p1,g1,m1,n1⟩:=box hk (.cells [.int .i64 ((a:Nat):Int)] 3 1 false);obtain⟨H2,Bn,b2,p2,g2,m2,n2⟩:=box p1.ok (.cells [.int .i64 ((k:Nat):Int)] 3 1 false);have N1:=p1.next
 have hc: ∀z:Int,qS (.int .i64 z)=[.int .i64 z]:=fun z=>rfl
 refine⟨H2,Ba,Bn, ?_,p1.trans p2,⟨_,Prs.get p2 p1.ok g1⟩,⟨_,g2⟩,by omega,m1,by omega⟩;simp(maxSteps:=999999)(disch:=omega) only[f30,eZ,hc,b1,b2]
theorem zCo (m n:Nat)(hm:400000000<=m){H:AH}{At M L0 X0 X1 X2 X3:Nat}{kv0:Kvs}{i a:Nat}{tx:Str}(t:yP H At M L0 kv0)(hs:Srt kv0)(hi:i<4294967296)(ha:a+tx.length<=32768)(hL0:L0<=50000000)(hkv0:kv0.length<=100000000)
  (x0:Box H X0 (S tx)) (x1:Box H X1 (.int .i64 ((a:Nat):Int))) (x2:Box H X2 (.ptr At 0)) (x3:Box H X3 (.int .i64 ((i:Nat):Int))) (n2:X2≠At) (n3:X3≠At):
  ∃H' kv',f29 (dy (m+2)) n [.ptr X0 0, .ptr X1 0, .ptr X2 0, .ptr X3 0] H=some (.int .i64 ((0:Nat):Int),H')/\yP H' At M (L0+200*pcs a tx.length tx.length) kv'/\WS kv0 kv' i a tx tx.length/\Stp (fun B=>B=At\/B=M) H H':=by
 have hk:=t.okH;have lt:=t.lt;have l0:=x0.lt hk;have l1:=x1.lt hk;have l2:=x2.lt hk;have l3:=x3.lt hk;obtain⟨H1,X4,b1,p1,g1,m1,w1⟩:=box hk (.cells [.int .i64 ((0:Nat):Int)] 30 1 false);obtain⟨H2,X5,b2,p2,g2,m2,w2⟩:=box p1.ok (.cells [S []] 9 1 false);have N1:=p1.next;have N2:=p2.next
 have P2:=p1.trans p2;obtain⟨H3,e3,x53,s3⟩:=(show Box H2 X5 (S [])from⟨_,g2⟩).st p2.ok (x:=S tx) rfl;have N3:=s3.next
 have P3:Prs H H3:=P2.fresh s3 fun B hB=>by omega
 obtain⟨H4,Ba,Bn,e4,p4,ba4,bn4,hab,la,ln⟩:=parts_ok (dy (m+2)) n P3.ok a tx.length;have N4:=p4.next
 have lb1:=ba4.lt p4.ok;have lb2:=bn4.lt p4.ok;have P4:=P3.trans p4;have p5:Prs H4 (H4.push (.loop (lpW X2 X3 X4 X5))):=(Stp.refl p4.ok).push _;have g5:(H4.push (.loop (lpW X2 X3 X4 X5))).h.get H4.next=some (.loop (lpW X2 X3 X4 X5)):=AH.push_get_eq _ _
 have hnew: ∀K:Nat->AH->Rs,WP H4 (.loop ⟨.ready,none,29,0,[2,3,4,5],[.ptr X2 0, .ptr X3 0, .ptr X4 0, .ptr X5 0]⟩) K=K H4.next (H4.push (.loop (lpW X2 X3 X4 X5))):=fun K=>fZ p4.ok _ K
 have hnx:(H4.push (.loop (lpW X2 X3 X4 X5))).next=H4.next+1:=rfl
 generalize H4.push (.loop (lpW X2 X3 X4 X5))=H5 at p5 g5 hnew hnx;obtain⟨A1,hA1⟩: ∃A1,A1=H4.next:=⟨_,rfl⟩
 rw[<-hA1]at g5 hnew;have P5:=P4.trans p5;have x41:Box H1 X4 (.int .i64 ((0:Nat):Int)):=⟨_,g1⟩;have x43:Box H3 X4 (.int .i64 ((0:Nat):Int)):=(x41.mono p1.ok p2 fun x=>x).mono p2.ok s3 (by omega);have x45:Box H5 X4 (.int .i64 ((0:Nat):Int)):=(x43.mono P3.ok p4 fun x=>x).mono p4.ok p5 fun x=>x
 have x55:Box H5 X5 (S tx):=(x53.mono P3.ok p4 fun x=>x).mono p4.ok p5 fun x=>x
 have I5:WI kv0 i a tx At M L0 A1 X2 X3 X4 X5 0 H5 (fun B=>B=A1\/B=X4\/B=X5\/B=At\/B=M):=
  ⟨g5,x2.mono hk P5 fun x=>x,x3.mono hk P5 fun x=>x,x45,by rw[List.drop_zero];exact x55,⟨kv0,(t.prs P5).up (by omega),zCm hs i a tx⟩,fun B=>Iff.rfl,⟨by omega,by omega,by omega⟩,⟨by omega,n2,n3,by omega,by omega⟩⟩
 obtain⟨H6,W6,e6,I6,s6,f6⟩:=Q3 (zG4 hi ha hL0 hkv0) m hm (by omega) (by omega) hab (fun e=>by rcases e with e | e<;>omega) (fun e=>by rcases e with e | e<;>omega) tx.length 0 (m+1) (by omega) (by omega) (by omega) I5 (by simpa using ba4.mono p4.ok p5 fun x=>x) (by simpa using bn4.mono p4.ok p5 fun x=>x) (fun e=>by rcases e with e | e | e | e | e<;>omega) (fun e=>by rcases e with e | e | e | e | e<;>omega);obtain⟨kv',t6,ws6⟩:=I6.ex;have hk6:=t6.okH;have N5:=p5.next;have N6:=s6.next
 have s7:Stp (fun B=>B=A1) H6 (H6.put A1 .dead):=(Stp.refl hk6).put (hk6.lt I6.gA) _ (.inr rfl);have hendL: ∀K:Option Code->AH->Rs,fE A1 H6 K=K none (H6.put A1 .dead):=fun K=>by
  simp only[fE,I6.gA,lpW,yV]
 generalize H6.put A1 .dead=H7 at s7 hendL;have N7:=s7.next
 have t7:=t6.free s7 fun B _ e=>by subst e;exact⟨by omega,_,I6.gA, .inr ⟨_,rfl⟩⟩
 have nA4:=uJ I6.gA I6.x4;have x47:Box H7 X4 (.int .i64 ((0:Nat):Int)):=I6.x4.mono hk6 s7 (fun e=>nA4 e.symm);obtain⟨H8,e8,x48,s8⟩:=x47.st s7.ok (x:= .int .i64 ((0:Nat):Int)) rfl;have t8:=t7.free s8 fun B _ e=>by subst e;exact⟨by omega,Box.bx x47⟩
 refine⟨H8,kv', ?_,t8,ws6, ?_⟩
 ·have hc: ∀z:Int,qS (.int .i64 z)=[.int .i64 z]:=fun z=>rfl
  have hcS:qS (S [])=[S []]:=rfl;have hS:(AV.str 0 0)=S []:=rfl;have x02:Box H2 X0 (S tx):=x0.mono hk P2 fun x=>x
  have x01:Box H1 X0 (S tx):=x0.mono hk p1 fun x=>x
  have x03:Box H3 X0 (S tx):=x0.mono hk P3 fun x=>x
  have x13:Box H3 X1 (.int .i64 ((a:Nat):Int)):=x1.mono hk P3 fun x=>x
  have hf:f57 (dy (m+1)) (m+1) [.yieldTo A1, .ptr Bn 0, .ptr Ba 0] H5=some (.tuple [],H6):=by
   simp(maxSteps:=999999)(disch:=omega) only[f57,eZ,e6,zKa]
  have hrf:rfC (s29 (dy (m+2)) n).S (dy (m+2)) (.func 57 [] [.ptr Bn 0, .ptr Ba 0]) A1 H5=some (.tuple [],H6):=hf;simp(maxSteps:=999999)(disch:=omega) only[f29,eZ,hc,b1,x01.ld,hS,hcS,b2,e3,x13.ld,x03.ld,jF,e4,hnew,hrf,hendL,zG1,e8,x48.ld]
 ·refine⟨s8.ok,by have:=s8.next;omega,fun B hB hS=> ?_⟩
  have h1:B≠At:=fun e=>hS (.inl e)
  have h2:B≠M:=fun e=>hS (.inr e)
  rw[s8.keep _ (by omega) (by omega),s7.keep _ (by omega) (by omega),s6.keep _ (by omega) (fun e=>by
   rcases e with(e | e | e | e | e) | e | e<;>omega),P5.keep _ hB fun x=>x]
theorem WT (m n:Nat)(hm:400000000<=m){H:AH}{At M L0:Nat}{kv0:Kvs}{i a:Nat}{tx:Str}(t:yP H At M L0 kv0)(hs:Srt kv0)(hi:1<=i)(hi2:i<=2147483647)(ha:a+tx.length<=32768)(hL0:L0<=50000000)(hkv0:kv0.length<=100000000):
  ∃H' kv',f9 (dy (m+3)) n [.ptr At 0, .int .i64 ((i:Nat):Int), .int .i64 ((a:Nat):Int),S tx] H=some (.int .i64 ((0:Nat):Int),H')/\yP H' At M (L0+200*pcs a tx.length tx.length) kv'/\WS kv0 kv' i a tx tx.length/\Stp (fun B=>B=At\/B=M) H H':=by
 have hk:=t.okH;have lt:=t.lt;obtain⟨H1,X4,b1,p1,g1,m1,w1⟩:=box hk (.cells [.ptr At 0] 25 1 false);obtain⟨H2,X5,b2,p2,g2,m2,w2⟩:=box p1.ok (.cells [.int .i64 ((i:Nat):Int)] 3 1 false);obtain⟨H3,X6,b3,p3,g3,m3,w3⟩:=box p2.ok (.cells [.int .i64 ((a:Nat):Int)] 3 1 false);obtain⟨H4,X7,b4,p4,g4,m4,w4⟩:=box p3.ok (.cells [S tx] 9 1 false);have N1:=p1.next;have N2:=p2.next;have N3:=p3.next;have N4:=p4.next
 have P4:=((p1.trans p2).trans p3).trans p4;have x4:Box H4 X4 (.ptr At 0):=⟨_,Prs.get ((p2.trans p3).trans p4) p1.ok g1⟩;have x5:Box H4 X5 (.int .i64 ((i:Nat):Int)):=⟨_,Prs.get (p3.trans p4) p2.ok g2⟩;have x6:Box H4 X6 (.int .i64 ((a:Nat):Int)):=⟨_,Prs.get p4 p3.ok g3⟩;have x7:Box H4 X7 (S tx):=⟨_,g4⟩;have hc: ∀z:Int,qS (.int .i64 z)=[.int .i64 z]:=fun z=>rfl
 have hcp:qS (.ptr At 0)=[.ptr At 0]:=rfl;have hcS:qS (S tx)=[S tx]:=rfl;have hS:(AV.str 0 0)=S []:=rfl;have i1:f27 (dy (m+3)) n [.int .i64 ((i:Nat):Int)] H4=some (.bool true,H4):=by
  have a1:((1:Nat):Int)<=((i:Nat):Int):=by omega
  have a2:((i:Nat):Int)<=((2147483647:Nat):Int):=by omega
  simp only[f27,eZ,a1,a2,decide_true]
 have t1: ¬((a:Nat):Int)< ((0:Nat):Int):=by omega
 have t2: ¬((32768:Nat):Int)< ((a:Nat):Int):=by omega
 have t3:((32768:Nat):Int) - ((a:Nat):Int)=((32768 - a:Nat):Int):=by omega
 have t4: ¬((32768 - a:Nat):Int)< ((tx.length:Nat):Int):=by omega
 by_cases h0:tx=[]
 ·have q:_=True:=eq_true h0;refine⟨H4,kv0, ?_,(t.prs P4).up (by omega),by rw[h0];exact zCm hs i a [],Prs.stp P4⟩;simp(maxSteps:=999999)(disch:=omega) only[f9,eZ,hc,hcp,hcS,b1,b2,b3,b4,x4.ld,cq,x5.ld,i1,x6.ld,t1,t2,x7.ld,jF,t3,t4,hS,kB,q]
 ·obtain⟨H5,At',M',e5,p5,l5,l6,t5⟩:=zBh (dy (m+3)) n (t.prs P4);have N5:=p5.next
  obtain⟨H6,kv',e6,t6,ws,s6⟩:=zCo m (m+2) hm (t.prs (P4.trans p5)) hs (by omega) ha hL0 hkv0 (x7.mono p4.ok p5 fun x=>x) (x6.mono p4.ok p5 fun x=>x) (x4.mono p4.ok p5 fun x=>x) (x5.mono p4.ok p5 fun x=>x) (by omega) (by omega);refine⟨H6,kv', ?_,t6,ws,(Prs.stp (P4.trans p5)).trans s6⟩;have t00: ¬(((0:Nat):Int)≠((0:Nat):Int)):=by omega
  have ew:f28 (dy (m+3)) n [.ptr At 0, .func 29 [] [.ptr X7 0, .ptr X6 0, .ptr X4 0, .ptr X5 0]] H4=some (.int .i64 ((0:Nat):Int),H6):=by
   simp(maxSteps:=999999)(disch:=omega) only[f28,zKc,eZ,e5,zMG,e6,t00]
  simp(maxSteps:=999999)(disch:=omega) only[f9,eZ,hc,hcp,hcS,b1,b2,b3,b4,x4.ld,cq,x5.ld,i1,x6.ld,t1,t2,x7.ld,jF,t3,t4,hS,kB,h0,ew]
  try rfl
def lpD (X5 X6 X10 X11 X12:Nat):ALoop:=⟨.ready,none,12,0,[5,6,10,11,12],[.ptr X5 0, .ptr X6 0, .ptr X10 0, .ptr X11 0, .ptr X12 0]⟩
structure RI (H0:AH)(kv:Kvs)(i a At X5 X6 X10 X11 X12 A1:Nat)(c:Nat)(H:AH)(W:Nat->Prop):Prop where
 prs:Prs H0 H
 gA:H.h.get A1=some (.loop (lpD X5 X6 X10 X11 X12))
 x5:Box H X5 (.ptr At 0)
 x6:Box H X6 (.int .i64 ((i:Nat):Int))
 x10:Box H X10 (S [])
 x11:Box H X11 (.int .i64 ((0:Nat):Int))
 x12: ∃v,Box H X12 v/\jO 1 5 H v c (qR (j6 kv i a c))/\(∀B,Blk v B->H0.next<=B/\B≠A1/\B≠X5/\B≠X6/\B≠X10/\B≠X11/\B≠X12)/\ ∀B,W B↔B=A1\/B=X10\/B=X11\/B=X12\/Blk v B
 lo:H0.next<=A1/\H0.next<=X10/\H0.next<=X11/\H0.next<=X12
 ne:X12≠X5/\X12≠X6/\X12≠X10/\X12≠X11
theorem zKw (m:Nat){H:AH}{A1 X5 X6 X10 X11 X12:Nat}(gA:H.h.get A1=some (.loop (lpD X5 X6 X10 X11 X12)))(az:List AV):(dy (m+1)).yld A1 az H=zDr (dy m) m A1 (lpD X5 X6 X10 X11 X12) az H:=by
 show cQ (tabR (dy m) m) A1 az H=_;simp only[cQ,gA];rfl
theorem zGv {H0:AH}{kv:Kvs}{i a At M L X5 X6 X10 X11 X12 A1 c n:Nat}{H:AH}{W:Nat->Prop}(m:Nat)(hm:400000000<=m)(t0:yP H0 At M L kv)(hL:L<=90000000)(hkv:kv.length<=100000000)(ha:a+n<=100000)(hc:c<n)(h:RI H0 kv i a At X5 X6 X10 X11 X12 A1 c H W):
  ∃H' W',(dy (m+1)).yld A1 [.agg (uE (a+c) (n - c))] H=some (.bool true,H')/\RI H0 kv i a At X5 X6 X10 X11 X12 A1 (c+bZ (a+c) (n - c)) H' W'/\Adw W H W' H':=by
 obtain⟨prs,gA,x5,x6,x10,x11,⟨v,x12,gv,fv,hW⟩,lo,ne⟩:=h;rw[zKw m gA];have hk:=prs.ok;obtain⟨x,hx⟩: ∃x,x=a+c:=⟨_,rfl⟩;obtain⟨r,hr⟩: ∃r,r=n - c:=⟨_,rfl⟩;obtain⟨q1,q2,q3,q4⟩:=vI (x:=x) (n:=r) (by omega);rw[<-hx,<-hr];obtain⟨k,hk9⟩: ∃k,k=bZ x r:=⟨_,rfl⟩;obtain⟨tt,htt⟩: ∃tt,tt=min 128 (x % 128+r):=⟨_,rfl⟩;rw[<-hk9]at q1 q2 q3 q4⊢;rw[<-htt]at q4;have lA:=hk.lt gA;have l5:=x5.lt hk;have l6:=x6.lt hk;have l10:=x10.lt hk;have l11:=x11.lt hk;have l12:=x12.lt hk;have n5:=uJ gA x5;have n6:=uJ gA x6;have n10:=uJ gA x10;have n11:=uJ gA x11;have n12:=uJ gA x12;have N0:=prs.next
 obtain⟨H1,A6,b1,p1,g1,m1,n1⟩:=box hk (.cells [.int .i64 ((0:Nat):Int), .int .i64 ((0:Nat):Int), .int .i64 ((0:Nat):Int)] 68 1 false);obtain⟨H2,e2,g2,s2,n2⟩:=yA p1.ok g1 (l':=uE x r) rfl rfl;have e2':stN 3 (.ptr A6 0) (.agg (uE x r)) H1=some (qM,H2):=e2;have P2:Prs H H2:=p1.fresh s2 fun B hB=>by omega
 have N1:=p1.next;have N2:=s2.next
 have gA2:=Prs.get P2 hk gA;have hbeg: ∀K:AH->Rs,xQ A1 H2 K=K (H2.put A1 (.loop { lpD X5 X6 X10 X11 X12 with state:= .busy})):=fun K=>by
  simp only[xQ,gA2,lpD,yV]
 have s3:Stp (fun B=>B=A1) H2 (H2.put A1 (.loop { lpD X5 X6 X10 X11 X12 with state:= .busy})):=(Stp.refl s2.ok).put (s2.ok.lt gA2) _ (.inr rfl);have gA3:(H2.put A1 (.loop { lpD X5 X6 X10 X11 X12 with state:= .busy})).h.get A1=some (.loop { lpD X5 X6 X10 X11 X12 with state:= .busy}):=by rw[AH.put_get,if_pos rfl]
 generalize H2.put A1 (.loop { lpD X5 X6 X10 X11 X12 with state:= .busy})=H3 at s3 gA3 hbeg;have N3:=s3.next
 have P03:Prs H0 H3:=(prs.trans P2).fresh s3 fun B hB=>by omega
 obtain⟨H4,e4,p4⟩:=zAb m m (by omega) (t0.prs P03) (by omega) (by omega) i (x / 128);obtain⟨b,hb⟩: ∃b,b=wQ kv i (x / 128):=⟨_,rfl⟩;have hbl:b.length=128:=by rw[hb];exact xK ..
 rw[<-hb]at e4;have N4:=p4.next
 obtain⟨Z,hZ⟩: ∃Z:Str,Z=List.replicate 128 0:=⟨_,rfl⟩;have hZl:Z.length=128:=by rw[hZ];simp
 have hzr:rep 128 [AV.int .u8 ((0:Nat):Int)]=qR Z:=by rw[ZK,hZ]
 obtain⟨H5,A7,b5,p5,g5,m5,w5⟩:=box p4.ok (.cells (qR Z) 69 1 false);have N5:=p5.next
 obtain⟨H6,e6,g6,s6⟩:=Z4 p5.ok g5 hZl hbl;have N6:=s6.next
 have P36:Prs H3 H6:=(p4.trans p5).fresh s6 fun B hB=>by omega
 have keep: ∀ {B v},Box H B v->A1≠B->Box H6 B v:=fun hb hne=>((hb.mono hk P2 fun x=>x).mono P2.ok s3 (fun e=>hne e.symm)).mono s3.ok P36 fun x=>x
 have gv6:jO 1 5 H6 v c (qR (j6 kv i a c)):=((jO.mono gv P2 fun _ _ x=>x).mono s3 fun B hB e=>(fv B hB).2.1 e).mono P36 fun _ _ x=>x
 have hbp:(b.drop (x % 128)).take k=j6 kv i x k:=by rw[hb];exact zA6 kv i x (by omega)
 have hrow:Rw 1 H6 (.slice A7 (x % 128) k (2*(128 - x % 128))) k (qR (j6 kv i x k)):=by
  rw[<-hbp];refine⟨by rw[qT,zH,zN];omega, .inr (.inr ⟨A7,x % 128,_,_,_,_,_,rfl,g6,s6.ok.lt g6,by rw[qT];omega, ?_⟩)⟩;simp only[qR,List.map_take,List.map_drop,Nat.mul_one]
 obtain⟨v',H7,e7,gv7,s7,f7⟩:=jO.app (bytes:=1) (m:=k) s6.ok (by decide) gv6 hrow.srcOf hrow.len (bytesV_cells _) (by omega) (by decide);have N7:=s7.next
 have x126:=keep x12 n12;have x127:Box H7 X12 v:=x126.mono s6.ok s7 fun hB=>(fv _ hB).2.2.2.2.2.2 rfl
 obtain⟨H8,e8,x128,s8⟩:=x127.st s7.ok (x:=v') gv7.isCell;have N8:=s8.next
 have nv': ∀B,Blk v' B->H0.next<=B/\B≠A1/\B≠X5/\B≠X6/\B≠X10/\B≠X11/\B≠X12:=fun B hB=>by
  rcases f7 B hB with e | e
  ·exact fv B e
  ·exact⟨by omega,by omega,by omega,by omega,by omega,by omega,by omega⟩
 have gA8:H8.h.get A1=some (.loop { lpD X5 X6 X10 X11 X12 with state:= .busy}):=by
  rw[s8.keep _ (by omega) (by omega),s7.keep _ (by omega) (fun hB=>(fv _ hB).2.1 rfl),P36.keep _ (by omega) (fun x=>x)];exact gA3
 have s9:Stp (fun B=>B=A1) H8 (H8.put A1 (.loop (lpD X5 X6 X10 X11 X12))):=(Stp.refl s8.ok).put (s8.ok.lt gA8) _ (.inr rfl);have hend:YB A1 none H8=some (.bool true,H8.put A1 (.loop (lpD X5 X6 X10 X11 X12))):=by simp only[YB,gA8,yV,lpD]
 have gA9:(H8.put A1 (.loop (lpD X5 X6 X10 X11 X12))).h.get A1=some (.loop (lpD X5 X6 X10 X11 X12)):=by rw[AH.put_get,if_pos rfl]
 generalize H8.put A1 (.loop (lpD X5 X6 X10 X11 X12))=H9 at s9 hend gA9;have keep9: ∀ {B y},Box H6 B y->(∀hB:Blk v B,False)->B≠X12->A1≠B->Box H9 B y:=fun hb h1 h2 h3=>((hb.mono s6.ok s7 h1).mono s7.ok s8 h2).mono s8.ok s9 (fun e=>h3 e.symm)
 have T9:Stp (fun B=>B=A1\/B=X12\/Blk v B) H H9:=by
  have T3:Stp (fun B=>B=A1\/B=X12\/Blk v B) H H3:=Stp.thru (Prs.stp P2) s3 fun B e=> .inr (.inl e)
  have T6:=Stp.thru T3 P36 fun B e=>e.elim
  have T7:=Stp.thru T6 s7 fun B e=> .inr (.inr (.inr e))
  have T8:=Stp.thru T7 s8 fun B e=> .inr (.inr (.inl e))
  exact Stp.thru T8 s9 fun B e=> .inr (.inl e)
 refine⟨H9,fun B=>B=A1\/B=X10\/B=X11\/B=X12\/Blk v' B, ?_,⟨prs.fresh T9 fun B hB=> ?_,gA9,keep9 (keep x5 n5) (fun hB=>(fv _ hB).2.2.1 rfl) (fun e=>ne.1 e.symm) n5,keep9 (keep x6 n6) (fun hB=>(fv _ hB).2.2.2.1 rfl) (fun e=>ne.2.1 e.symm) n6,keep9 (keep x10 n10) (fun hB=>(fv _ hB).2.2.2.2.1 rfl) (fun e=>ne.2.2.1 e.symm) n10,keep9 (keep x11 n11) (fun hB=>(fv _ hB).2.2.2.2.2.1 rfl) (fun e=>ne.2.2.2 e.symm) n11,⟨v',x128.mono s8.ok s9 (fun e=>n12 e.symm), ?_,nv',fun B=>Iff.rfl⟩,lo,ne⟩,⟨T9.mono fun B _ hB=>(hW B).2 (by
  rcases hB with e | e | e
  ·exact .inl e
  ·exact .inr (.inr (.inr (.inl e)))
  ·exact .inr (.inr (.inr (.inr e)))),fun B hB=> ?_⟩⟩
 ·have hl:aU [5,6,10,11,12] (lpD X5 X6 X10 X11 X12).live=true:=rfl;have hvl:(lpD X5 X6 X10 X11 X12).vals=[.ptr X5 0, .ptr X6 0, .ptr X10 0, .ptr X11 0, .ptr X12 0]:=rfl;have x53:Box H3 X5 (.ptr At 0):=(x5.mono hk P2 fun x=>x).mono P2.ok s3 (fun e=>n5 e.symm);have x63:Box H3 X6 (.int .i64 ((i:Nat):Int)):=(x6.mono hk P2 fun x=>x).mono P2.ok s3 (fun e=>n6 e.symm);have gp3:H3.h.get A6=some (.cells (uE x r) 68 1 false):=by rw[s3.keep _ (by omega) (by omega)];exact g2
  have gp6:H6.h.get A6=some (.cells (uE x r) 68 1 false):=by rw[P36.keep _ (by omega) (fun x=>x)];exact gp3
  have q30:Eng.ld1 (.ptr A6 0) H3=some (.int .i64 ((x / 128:Nat):Int)):=by rw[qL gp3];rfl
  have q61:Eng.ld1 (.ptr A6 1) H6=some (.int .i64 ((x % 128:Nat):Int)):=by rw[qL gp6];rfl
  have q62:Eng.ld1 (.ptr A6 2) H6=some (.int .i64 ((tt:Nat):Int)):=by rw[qL gp6,htt];rfl
  have hsl:xW 128 1 (.ptr A7 0) (some (.int .i64 ((x % 128:Nat):Int))) (some (.int .i64 ((tt:Nat):Int))) none=some (.slice A7 (x % 128) k (2*(128 - x % 128))):=by
   have:=zAu (n:=128) (A:=A7) (lo:=x % 128) (hi:=tt) (by omega) (by omega) (by omega) .i64 .i64;rw[this,show tt - x % 128=k by omega]
  have t00: ¬(((0:Nat):Int)≠((0:Nat):Int)):=by omega
  simp(maxSteps:=999999)(disch:=omega) only[zDr,eZ,hl,hvl,cond_true,b1,e2',hbeg,x53.ld,x63.ld,q30,e4,qK,nth,hzr,b5,e6,t00,x126.ld,q61,q62,hsl,e7,e8];exact hend
 ·rcases hB with e | e | e
  ·rw[e];exact lo.1
  ·rw[e];exact lo.2.2.2
  ·exact(fv B e).1
 ·have e:qR (j6 kv i a (c+k))=qR (j6 kv i a c)++qR (j6 kv i x k):=by rw[zC7,hx];simp[qR]
  rw[e];exact(jO.mono gv7 s8 fun B hB e=>(nv' B hB).2.2.2.2.2.2 e).mono s9 fun B hB e=>(nv' B hB).2.1 e
 ·rcases hB with e | e | e | e | e
  ·exact .inl ((hW B).2 (.inl e))
  ·exact .inl ((hW B).2 (.inr (.inl e)))
  ·exact .inl ((hW B).2 (.inr (.inr (.inl e))))
  ·exact .inl ((hW B).2 (.inr (.inr (.inr (.inl e)))))
  ·rcases f7 B e with e | e
   ·exact .inl ((hW B).2 (.inr (.inr (.inr (.inr e)))))
   ·exact .inr (by omega)
theorem zJs {H0:AH}{kv:Kvs}{i a At M L X5 X6 X10 X11 X12 A1 n:Nat}(t0:yP H0 At M L kv)(hL:L<=90000000)(hkv:kv.length<=100000000)(ha:a+n<=100000):Pc A1 a n 400000000 (fun B=>B<H0.next\/B=X5\/B=X6) (RI H0 kv i a At X5 X6 X10 X11 X12 A1) where
 ok:=fun h=>h.prs.ok
 lt:=fun {c H W} h B hB=>by
  have hk:=h.prs.ok;have l1:=hk.lt h.gA;have l10:=h.x10.lt hk;have l11:=h.x11.lt hk;obtain⟨v,x12,gv,fv,hW⟩:=h.x12;have l12:=x12.lt hk;rcases(hW B).1 hB with e | e | e | e | e
  ·omega
  ·omega
  ·omega
  ·omega
  ·exact gv.lt e
 frame:=fun {c H H' W S} h s hS=>by
  have hk:=h.prs.ok;have l1:=hk.lt h.gA;have l5:=h.x5.lt hk;have l6:=h.x6.lt hk;have l10:=h.x10.lt hk;have l11:=h.x11.lt hk;obtain⟨v,x12,gv,fv,hW⟩:=h.x12;have l12:=x12.lt hk;have no: ∀ {B},B<H.next->W B-> ¬S B:=fun hl hw hs=>(hS _ hl hs).1 hw
  have n1:=no l1 ((hW A1).2 (.inl rfl));have n5: ¬S X5:=fun hs=>(hS _ l5 hs).2.1 (.inr (.inl rfl))
  have n6: ¬S X6:=fun hs=>(hS _ l6 hs).2.1 (.inr (.inr rfl))
  have n10:=no l10 ((hW X10).2 (.inr (.inl rfl)));have n11:=no l11 ((hW X11).2 (.inr (.inr (.inl rfl))));have n12:=no l12 ((hW X12).2 (.inr (.inr (.inr (.inl rfl)))));have N:=h.prs.next
  refine⟨⟨s.ok,by have:=s.next;omega,fun B hB hF=> ?_⟩,by rw[s.keep _ l1 n1];exact h.gA,h.x5.mono hk s n5,h.x6.mono hk s n6,h.x10.mono hk s n10,h.x11.mono hk s n11,⟨v,x12.mono hk s n12,gv.mono s fun B hB hs=>no (gv.lt hB) ((hW B).2 (.inr (.inr (.inr (.inr hB))))) hs,fv,hW⟩,h.lo,h.ne⟩
  rw[s.keep B (by omega) (fun hs=>(hS B (by omega) hs).2.1 (.inl hB)),h.prs.keep B hB hF]
 run:=fun {c H W} m hm hc h=>zGv m hm t0 hL hkv ha hc h
theorem JY (m n:Nat)(hm:400000000<=m){H:AH}{At M L:Nat}{kv:Kvs}{i size a k:Nat}(t:yP H At M L kv)(hi:1<=i)(hi2:i<=2147483647)(hsz:size<=32768)(hL:L<=90000000)(hkv:kv.length<=100000000):
  ∃H',f12 (dy (m+2)) n [.ptr At 0, .int .i64 ((i:Nat):Int), .int .i64 ((size:Nat):Int), .int .i64 ((a:Nat):Int), .int .i64 ((k:Nat):Int)] H=some (.tuple [S (j6 kv i a (min k (size - a))), .int .i64 ((0:Nat):Int)],H')/\Prs H H':=by
 have hk:=t.okH;have lt:=t.lt;obtain⟨H1,X5,b1,p1,g1,m1,w1⟩:=box hk (.cells [.ptr At 0] 25 1 false);obtain⟨H2,X6,b2,p2,g2,m2,w2⟩:=box p1.ok (.cells [.int .i64 ((i:Nat):Int)] 3 1 false);obtain⟨H3,X10,b3,p3,g3,m3,w3⟩:=box p2.ok (.cells [S []] 9 1 false);obtain⟨H4,X11,b4,p4,g4,m4,w4⟩:=box p3.ok (.cells [.int .i64 ((0:Nat):Int)] 30 1 false);have N1:=p1.next;have N2:=p2.next;have N3:=p3.next;have N4:=p4.next
 have P4:=((p1.trans p2).trans p3).trans p4;have x5:Box H4 X5 (.ptr At 0):=⟨_,Prs.get ((p2.trans p3).trans p4) p1.ok g1⟩;have x6:Box H4 X6 (.int .i64 ((i:Nat):Int)):=⟨_,Prs.get (p3.trans p4) p2.ok g2⟩;have x10:Box H4 X10 (S []):=⟨_,Prs.get p4 p3.ok g3⟩;have x11:Box H4 X11 (.int .i64 ((0:Nat):Int)):=⟨_,g4⟩;have hc: ∀z:Int,qS (.int .i64 z)=[.int .i64 z]:=fun z=>rfl
 have hcp:qS (.ptr At 0)=[.ptr At 0]:=rfl;have hcS:qS (S [])=[S []]:=rfl;have hcN:qS .nilSlice=[.nilSlice]:=rfl;have hS:(AV.str 0 0)=S []:=rfl;have i1:f27 (dy (m+2)) n [.int .i64 ((i:Nat):Int)] H4=some (.bool true,H4):=by
  have a1:((1:Nat):Int)<=((i:Nat):Int):=by omega
  have a2:((i:Nat):Int)<=((2147483647:Nat):Int):=by omega
  simp only[f27,eZ,a1,a2,decide_true]
 have t1: ¬((size:Nat):Int)< ((0:Nat):Int):=by omega
 have t2: ¬((32768:Nat):Int)< ((size:Nat):Int):=by omega
 have t3: ¬((a:Nat):Int)< ((0:Nat):Int):=by omega
 have t4: ¬((k:Nat):Int)< ((0:Nat):Int):=by omega
 by_cases hge:size<=a
 ·have t5:((size:Nat):Int)<=((a:Nat):Int):=by omega
  obtain⟨H5,e5,x105,s5⟩:=x10.st p4.ok (x:=S []) rfl;have x115:Box H5 X11 (.int .i64 ((0:Nat):Int)):=x11.mono p4.ok s5 (by omega);obtain⟨H6,e6,x116,s6⟩:=x115.st s5.ok (x:= .int .i64 ((0:Nat):Int)) rfl;have x106:Box H6 X10 (S []):=x105.mono s5.ok s6 (by omega);have hz:j6 kv i a (min k (size - a))=[]:=by rw[show min k (size - a)=0 by omega];rfl
  rw[hz];refine⟨H6, ?_,(P4.fresh s5 fun B hB=>by omega).fresh s6 fun B hB=>by omega⟩;simp(maxSteps:=999999)(disch:=omega) only[f12,eZ,hc,hcp,hcS,hS,b1,b2,b3,b4,x5.ld,cq,x6.ld,i1,t1,t2,t3,t4,t5,e5,e6,x106.ld,x116.ld]
 ·have t5: ¬((size:Nat):Int)<=((a:Nat):Int):=by omega
  obtain⟨len,hlen⟩: ∃len,len=min k (size - a):=⟨_,rfl⟩;rw[<-hlen];have hsub:((size:Nat):Int) - ((a:Nat):Int)=((size - a:Nat):Int):=by omega
  have hmn:mn2 (.int .i64 ((k:Nat):Int)) (.int .i64 ((size - a:Nat):Int))=some (.int .i64 ((len:Nat):Int)):=by rw[mn2N,hlen]
  obtain⟨H5,X12,b5,p5,g5,m5,w5⟩:=box p4.ok (.cells [.nilSlice] 47 1 false);have N5:=p5.next
  obtain⟨H6,Ba,Bn,e6,p6,ba6,bn6,hab,la,ln⟩:=parts_ok (dy (m+2)) n p5.ok a len;have N6:=p6.next
  have lb1:=ba6.lt p6.ok;have lb2:=bn6.lt p6.ok;have p7:Prs H6 (H6.push (.loop (lpD X5 X6 X10 X11 X12))):=(Stp.refl p6.ok).push _;have g7:(H6.push (.loop (lpD X5 X6 X10 X11 X12))).h.get H6.next=some (.loop (lpD X5 X6 X10 X11 X12)):=AH.push_get_eq _ _
  have hnew: ∀K:Nat->AH->Rs,WP H6 (.loop ⟨.ready,none,12,0,[5,6,10,11,12],[.ptr X5 0, .ptr X6 0, .ptr X10 0, .ptr X11 0, .ptr X12 0]⟩) K=K H6.next (H6.push (.loop (lpD X5 X6 X10 X11 X12))):=fun K=>fZ p6.ok _ K
  have hnx:(H6.push (.loop (lpD X5 X6 X10 X11 X12))).next=H6.next+1:=rfl
  generalize H6.push (.loop (lpD X5 X6 X10 X11 X12))=H7 at p7 g7 hnew hnx;obtain⟨A1,hA1⟩: ∃A1,A1=H6.next:=⟨_,rfl⟩
  rw[<-hA1]at g7 hnew;have P57:=p6.trans p7;have P47:=p5.trans P57;have P7:=P4.trans P47;have x127:Box H7 X12 .nilSlice:=⟨_,Prs.get P57 p5.ok g5⟩;have I7:RI H kv i a At X5 X6 X10 X11 X12 A1 0 H7 (fun B=>B=A1\/B=X10\/B=X11\/B=X12\/Blk .nilSlice B):=
   ⟨P7,g7,x5.mono p4.ok P47 fun x=>x,x6.mono p4.ok P47 fun x=>x,x10.mono p4.ok P47 fun x=>x,x11.mono p4.ok P47 fun x=>x,⟨.nilSlice,x127, .inl (Own.nil ..),fun B hB=>(Blk.nil.1 hB).elim,fun B=>Iff.rfl⟩,⟨by omega,by omega,by omega,by omega⟩,⟨by omega,by omega,by omega,by omega⟩⟩
  have nW: ∀ {B:Nat},B≠A1->B≠X10->B≠X11->B≠X12-> ¬(B=A1\/B=X10\/B=X11\/B=X12\/Blk .nilSlice B):=fun h1 h2 h3 h4 e=>by
   rcases e with e | e | e | e | e
   ·exact h1 e
   ·exact h2 e
   ·exact h3 e
   ·exact h4 e
   ·exact Blk.nil.1 e
  obtain⟨H8,W8,e8,I8,s8,f8⟩:=Q3 (zJs (n:=len) t hL hkv (by omega)) m hm (by omega) (by omega) hab (fun e=>by rcases e with e | e | e<;>omega) (fun e=>by rcases e with e | e | e<;>omega) len 0 (m+1) (by omega) (by omega) (by omega) I7 (by simpa using ba6.mono p6.ok p7 fun x=>x) (by simpa using bn6.mono p6.ok p7 fun x=>x) (nW (by omega) (by omega) (by omega) (by omega)) (nW (by omega) (by omega) (by omega) (by omega));obtain⟨v,x128,gv8,fv8,_⟩:=I8.x12;have hk8:=I8.prs.ok;have N7:=p7.next;have N8:=s8.next
  have s9:Stp (fun B=>B=A1) H8 (H8.put A1 .dead):=(Stp.refl hk8).put (hk8.lt I8.gA) _ (.inr rfl);have hendL: ∀K:Option Code->AH->Rs,fE A1 H8 K=K none (H8.put A1 .dead):=fun K=>by
   simp only[fE,I8.gA,lpD,yV]
  generalize H8.put A1 .dead=H9 at s9 hendL;have N9:=s9.next
  have d12:=uJ I8.gA x128;have d10:=uJ I8.gA I8.x10;have d11:=uJ I8.gA I8.x11;have x129:Box H9 X12 v:=x128.mono hk8 s9 (fun e=>d12 e.symm);have gv9:jO 1 5 H9 v len (qR (j6 kv i a len)):=gv8.mono s9 fun B hB e=>(fv8 B hB).2.1 e
  have hcv:dS v H9=some (S (j6 kv i a len)):=dQ gv9.row (by
   rcases gv9 with⟨_,⟨rfl,_⟩ | ⟨A,rfl,_⟩⟩ | ⟨_,A,e',g,rfl,_⟩<;>simp)
  have x109:Box H9 X10 (S []):=I8.x10.mono hk8 s9 (fun e=>d10 e.symm);obtain⟨H10,e10,x1010,s10⟩:=x109.st s9.ok (x:=S (j6 kv i a len)) rfl;have x1110:Box H10 X11 (.int .i64 ((0:Nat):Int)):=(I8.x11.mono hk8 s9 (fun e=>d11 e.symm)).mono s9.ok s10 (by omega);obtain⟨H11,e11,x1111,sq11⟩:=x1110.st s10.ok (x:= .int .i64 ((0:Nat):Int)) rfl;have x1011:Box H11 X10 (S (j6 kv i a len)):=x1010.mono s10.ok sq11 (by omega);have N10:=s10.next
  refine⟨H11, ?_,((I8.prs.fresh s9 fun B hB=>by omega).fresh s10 fun B hB=>by omega).fresh sq11 fun B hB=>by omega⟩;have hf:f57 (dy (m+1)) (m+1) [.yieldTo A1, .ptr Bn 0, .ptr Ba 0] H7=some (.tuple [],H8):=by
   simp(maxSteps:=999999)(disch:=omega) only[f57,eZ,e8,zKa]
  have hrf:rfC (s12 (dy (m+2)) n).S (dy (m+2)) (.func 57 [] [.ptr Bn 0, .ptr Ba 0]) A1 H7=some (.tuple [],H8):=hf;simp(maxSteps:=999999)(disch:=omega) only[f12,eZ,hc,hcp,hcS,hcN,hS,b1,b2,b3,b4,x5.ld,cq,x6.ld,i1,t1,t2,t3,t4,t5,b5,hsub,hmn,e6,hnew,hrf,hendL,zG1,x129.ld,hcv,e10,e11,x1011.ld,x1111.ld]
theorem zCl (D:Dyn)(n:Nat)(hn:100<=n){H:AH}(hk:H.ok): ∃H' At M,f7 D n [] H=some (.ptr At 0,H')/\Prs H H'/\H.next<=At/\H.next<=M/\yP H' At M 0 []:=by
 obtain⟨H1,A1,e1,p1⟩:=zFh D n hk;obtain⟨H2,At,M,e2,p2,m2,m2',ti⟩:=zJC D n hn p1.ok A1 0 (c:= .nilPtr) rfl;have N1:=p1.next
 refine⟨H2,At,M, ?_,p1.trans p2,by omega,by omega,ti⟩;have t00: ¬(((0:Nat):Int)≠((0:Nat):Int)):=by omega
 have bz:kW [(0,1),(1,1),(2,1)] [.int .i64 ((0:Nat):Int), .int .i64 ((0:Nat):Int), .int .u64 ((0:Nat):Int)] []=some (.agg (qY pZ)):=rfl;simp(maxSteps:=999999)(disch:=omega) only[f7,eZ,e1,qK,nth,bz,e2,t00]
theorem Z3 (D:Dyn)(n:Nat){H:AH}{i:Nat}(h1:1<=i)(h2:i<=2147483647):f27 D n [.int .i64 ((i:Nat):Int)] H=some (.bool true,H):=by
 have a1:((1:Nat):Int)<=((i:Nat):Int):=by omega
 have a2:((i:Nat):Int)<=((2147483647:Nat):Int):=by omega
 simp only[f27,eZ,a1,a2,decide_true]
theorem zBz (D:Dyn)(n:Nat){H:AH}(hk:H.ok){At i:Nat}(hi:1<=i)(hi2:i<=2147483647){z:Int}(hz:z<0)(tx:Str): ∃H',f9 D n [.ptr At 0, .int .i64 ((i:Nat):Int), .int .i64 z,S tx] H=some (.int .i64 ((1:Nat):Int),H')/\Prs H H':=by
 obtain⟨H1,X4,b1,p1,g1,m1,w1⟩:=box hk (.cells [.ptr At 0] 25 1 false);obtain⟨H2,X5,b2,p2,g2,m2,w2⟩:=box p1.ok (.cells [.int .i64 ((i:Nat):Int)] 3 1 false);obtain⟨H3,X6,b3,p3,g3,m3,w3⟩:=box p2.ok (.cells [.int .i64 z] 3 1 false);obtain⟨H4,X7,b4,p4,g4,m4,w4⟩:=box p3.ok (.cells [S tx] 9 1 false);have P4:=((p1.trans p2).trans p3).trans p4;have x4:Box H4 X4 (.ptr At 0):=⟨_,Prs.get ((p2.trans p3).trans p4) p1.ok g1⟩;have x5:Box H4 X5 (.int .i64 ((i:Nat):Int)):=⟨_,Prs.get (p3.trans p4) p2.ok g2⟩;have x6:Box H4 X6 (.int .i64 z):=⟨_,Prs.get p4 p3.ok g3⟩;have hc: ∀z:Int,qS (.int .i64 z)=[.int .i64 z]:=fun z=>rfl
 have hcp:qS (.ptr At 0)=[.ptr At 0]:=rfl;have hcS:qS (S tx)=[S tx]:=rfl;have i1:=Z3 D n (H:=H4) hi hi2;have t1:z< ((0:Nat):Int):=hz;refine⟨H4, ?_,P4⟩;simp(maxSteps:=999999)(disch:=omega) only[f9,eZ,hc,hcp,hcS,b1,b2,b3,b4,x4.ld,cq,x5.ld,i1,x6.ld,t1]
end Go.Eng.Sh
end
section
namespace Go.Ex
open Go.Nd (Str Kvs putP delP lookP Srt mayK)
open Go.Dr
open Go.Eng (ltS yO)
open Go.Bt (inP yB)
open Go.Eng.Sh (yX)
def oth:Str:=[111,116,104,101,114]
def to7:Str:=[100,0,0,0,8]
def Shp (kv:Kvs):Prop:= ∀k v,lookP k kv=some v->k=oth\/(∃q,q<256/\k=yZ 7 q)\/ ∃q,q<256/\k=yZ 8 q
theorem BL: ∀(a l m:Str),ltS (a++l) (a++m)=ltS l m
 | [],l,m=>rfl
 | b::a,l,m=>by rw[List.cons_append,List.cons_append,kG,BL a]
theorem zDX (i:Nat){p q:Nat}(hp:p<4294967296)(hq:q<4294967296):ltS (yZ i p) (yZ i q)=decide (p<q):=by
 rw[yZ,yZ,kG,BL,zIM,Nat.mod_eq_of_lt hp,Nat.mod_eq_of_lt hq]
theorem dig7:dig 7 4=[0,0,0,7]:=by decide
theorem dig8:dig 8 4=[0,0,0,8]:=by decide
theorem zJO (p:Nat):ltS (yZ 7 p) to7=true:=by
 have h:(7:UInt8)<8:=by decide
 rw[yZ,dig7,to7,kG,List.cons_append,kG,List.cons_append,kG,List.cons_append,kG,List.cons_append,hH,decide_eq_true h,Bool.true_or]
theorem zJN (p:Nat):ltS (yZ 8 p) to7=false:=by
 rw[yZ,dig8,to7,kG,List.cons_append,kG,List.cons_append,kG,List.cons_append,kG,List.cons_append,kG]
 cases dig p 4<;>rfl
theorem zLK (p:Nat):ltS (yZ 8 p) (yZ 8 0)=false:=by
 have h:dig 0 4=[0,0,0,0]:=by decide
 have h0: ∀(n:Nat) (l:Str),ltS l (List.replicate n 0)=true->l.length<n:=fun n=>by
  induction n with
  | zero=>intro l hl;cases l<;>simp[ltS,Go.Op.bytesLess]at hl
  | succ n ih=>
   intro l hl
   cases l with
   | nil=>simp
   | cons a l=>
    rw[List.replicate_succ,hH]at hl;have ha: ¬a<0:=by rw[UInt8.lt_iff_toNat_lt];simp
    rw[decide_eq_false ha,Bool.false_or,z8]at hl;have:=ih l hl.2;simp;omega
 rw[yZ,yZ,kG,BL,h]
 cases hb:ltS (dig p 4) [0,0,0,0]with
 | false=>rfl
 | true=>have:=h0 4 _ hb;rw[u4]at this;omega
theorem zIj (s:Str):ltS oth (100::s)=false:=by
 rw[oth,hH];have h1: ¬(111:UInt8)<100:=by decide
 have h2:((111:UInt8)==100)=false:=by decide
 rw[decide_eq_false h1,h2];rfl
theorem zAF (i p:Nat):oth≠yZ i p:=fun h=>by
 have:=congrArg (·.head?) h;simp[oth,yZ]at this
def p9 (x:Str×Str):Bool:=decide (x.1.length=9)
def K4 (first:Nat)(kv:Kvs):Kvs:=(yX (yZ 7 first) to7 kv).filter p9
theorem gS {kv:Kvs}(hs:Srt kv)(h:Shp kv){first:Nat}(hf:first<4294967296)(k v:Str):
  (k,v)∈K4 first kv↔lookP k kv=some v/\ ∃p,first<=p/\p<256/\k=yZ 7 p:=by
 rw[K4,yX,List.mem_filter,List.mem_filter,<-KJ hs];have ha: ∀k,yB to7 k=ltS k to7:=fun k=>by simp[yB,to7]
 constructor
 ·rintro⟨⟨h1,h2⟩,_⟩
  refine⟨h1, ?_⟩;simp only[inP,ha,z8,Bool.not_eq_true']at h2;rcases h k v h1 with rfl | ⟨q,hq,rfl⟩ | ⟨q,hq,rfl⟩
  ·rw[to7,zIj]at h2;cases h2.2
  ·rw[zDX 7 (by omega) hf]at h2;exact⟨q,Nat.not_lt.1 (of_decide_eq_false h2.1),hq,rfl⟩
  ·rw[zJN]at h2;cases h2.2
 ·rintro⟨h1,p,h2,h3,rfl⟩
  refine⟨⟨h1, ?_⟩, ?_⟩
  ·simp only[inP,ha,zJO,zDX 7 (by omega:p<4294967296) hf,Bool.and_true];rw[decide_eq_false (by omega)];rfl
  ·simp[p9,zAQ]
theorem zD4: ∀ {kv:Kvs},Srt kv->kv.Pairwise fun a b=>a.1≠b.1
 | [],_=>List.Pairwise.nil
 | (a,b)::l,h=>List.Pairwise.cons (fun p hp e=>by
   have h1:=h.1 p hp;have e':a=p.1:=e;rw[e',yO]at h1;cases h1) (zD4 h.2)
theorem zJ9 {kv:Kvs}(hs:Srt kv)(first:Nat):(K4 first kv).Pairwise fun a b=>a.1≠b.1:=((zD4 hs).filter _).filter _
def BC (first keep:Nat)(k v:Str):Option Str:=
 if k=yZ 7 first/\0<keep then(if v.length<=keep then some v else if yM (v.take keep)=[]then none else some (yM (v.take keep)))else none
structure CutS (first keep:Nat)(kv0 kv:Kvs)(r:Kvs):Prop where
 srt:Srt kv
 hit: ∀k v,(k,v)∈r->lookP k kv=BC first keep k v
 oth: ∀k,(∀v,(k,v)∉r)->lookP k kv=lookP k kv0
 len:kv.length<=kv0.length
theorem zBb {kv:Kvs}(h:Srt kv)(first keep:Nat):CutS first keep kv kv []:=⟨h,fun _ _ h=>by simp at h,fun _ _=>rfl,Nat.le_refl _⟩
theorem zFl {first keep:Nat}{kv0 kv1 kv:Kvs}{k v:Str}{r:Kvs}(h1: ∀x,lookP x kv1=if x=k then BC first keep k v else lookP x kv0)(hl:kv1.length<=kv0.length)(h:CutS first keep kv1 kv r)(hn: ∀q∈r,k≠q.1):CutS first keep kv0 kv ((k,v)::r) where
 srt:=h.srt
 hit:=fun x w hx=>by
  rcases List.mem_cons.1 hx with e | e
  ·cases e
   rw[h.oth k fun w hw=>hn _ hw rfl,h1,if_pos rfl]
  ·exact h.hit x w e
 oth:=fun x hx=>by
  rw[h.oth x fun w hw=>hx w (zA _ hw),h1,if_neg fun e=>hx v (by rw[e];exact zC)]
 len:=Nat.le_trans h.len hl
theorem len_del (k:Str): ∀l:Kvs,(delP k l).length<=l.length
 | []=>by simp[delP]
 | (a,b)::l=>by
  rw[delP];split
  ·simp
  ·simp only[zI];have:=len_del k l;omega
theorem vP (kv:Kvs)(i x:Nat):bD kv i x=((lookP (yZ i (x / 128)) kv).getD []).getD (x % 128) 0:=by
 rw[bD,wQ,zJA _ (by omega),if_pos (by omega)]
theorem zG9 (w:Str)(j:Nat):(yM w).getD j 0=w.getD j 0:=by
 obtain⟨k,hk,_⟩:=wB w;have:w.getD j 0=(yM w++List.replicate k 0).getD j 0:=by rw[<-hk]
 rw[this];simp only[zG];by_cases hj:j< (yM w).length
 ·rw[zU hj]
 ·rw[zW (by omega),List.getElem?_eq_none (l:=yM w) (by omega),List.getElem?_replicate];split<;>rfl
theorem zGc (w:Str)(n j:Nat):(w.take n).getD j 0=if j<n then w.getD j 0 else 0:=by
 simp only[zG,List.getElem?_take];split<;>rfl
theorem zJp (first keep:Nat){v:Str}{j:Nat} :((BC first keep (yZ 7 first) v).getD []).getD j 0=if j<keep then v.getD j 0 else 0:=by
 rw[BC];by_cases h:0<keep
 ·rw[if_pos ⟨rfl,h⟩];by_cases hv:v.length<=keep
  ·rw[if_pos hv,Option.getD_some];split
   ·rfl
   ·rw[zG,List.getElem?_eq_none (by omega)];rfl
  ·rw[if_neg hv,<-zGc,<-zG9 (v.take keep)];by_cases hz:yM (v.take keep)=[]
   ·rw[if_pos hz,hz];rfl
   ·rw[if_neg hz];rfl
 ·rw[if_neg fun e=>h e.2,if_neg (by omega)];rfl
theorem zGu {first keep:Nat}{k v:Str}(hv:v.length<=128/\ ∃h:v≠[],v.getLast h≠0){u:Str}(hu:BC first keep k v=some u):u.length<=128/\ ∃h:u≠[],u.getLast h≠0:=by
 rw[BC]at hu;split at hu
 ·split at hu
  ·cases hu;exact hv
  ·split at hu
   ·cases hu
   ·rename_i hz
    cases hu
    obtain⟨_,_,h1 | h1⟩:=wB (v.take keep)
    ·exact absurd h1 hz
    ·exact⟨by have:=fP (v.take keep);rw[zH]at this;omega,h1⟩
 ·cases hu
structure CS (kv0 kv:Kvs)(a:Nat):Prop where
 srt:Srt kv
 byt: ∀x,x<32768->bD kv 7 x=if x<a then bD kv0 7 x else 0
 oth: ∀k,(∀p,p<256->k≠yZ 7 p)->lookP k kv=lookP k kv0
 len:kv.length<=kv0.length
 tidy:zIQ 7 kv0->zIQ 7 kv
 shp:Shp kv
theorem zIe {kv0 kv:Kvs}(h:Shp kv0)(ho: ∀k,(∀p,p<256->k≠yZ 7 p)->lookP k kv=lookP k kv0):Shp kv:=fun k v hk=>by
 by_cases e: ∃p,p<256/\k=yZ 7 p
 ·exact .inr (.inl e)
 ·rw[ho k fun p hp he=>e ⟨p,hp,he⟩]at hk;exact h k v hk
theorem zMC {kv0 kv:Kvs}{a:Nat}(hs:Srt kv0)(h:Shp kv0)(hf:a / 128<4294967296)(c:CutS (a / 128) (a % 128) kv0 kv (K4 (a / 128) kv0)):CS kv0 kv a:=by
 have ho: ∀k,(∀p,p<256->k≠yZ 7 p)->lookP k kv=lookP k kv0:=fun k hk=>c.oth k fun v hv=>by
  obtain⟨_,p,_,h2,h3⟩:=(gS hs h hf k v).1 hv;exact hk p h2 h3
 refine⟨c.srt,fun x hx=> ?_,ho,c.len,fun ht p hp v hv=> ?_,zIe h ho⟩
 ·rw[vP,vP];by_cases hin:a / 128<=x / 128
  ·cases hl:lookP (yZ 7 (x / 128)) kv0 with
   | none=>
    have hno: ∀v,(yZ 7 (x / 128),v)∉K4 (a / 128) kv0:=fun v hv=>by
     have h1:=((gS hs h hf _ v).1 hv).1;rw[hl]at h1;cases h1
    rw[c.oth _ hno,hl];split<;>rfl
   | some v=>
    rw[c.hit _ v ((gS hs h hf _ v).2 ⟨hl,x / 128,hin,by omega,rfl⟩)];by_cases e:x / 128=a / 128
    ·rw[e,zJp];by_cases h2:x % 128<a % 128
     ·rw[if_pos h2,if_pos (by omega)];rfl
     ·rw[if_neg h2,if_neg (by omega)]
    ·rw[BC,if_neg fun e'=>e (dH (by omega) (by omega) (by omega) (by omega) e'.1).2,if_neg (by omega)];rfl
  ·rw[c.oth _ fun v hv=>by
    obtain⟨_,p,h1,h2,h3⟩:=(gS hs h hf _ v).1 hv;have:=(dH (by omega) (by omega) (by omega) (by omega) h3).2;omega,if_pos (by omega)]
 ·by_cases e: ∃w,(yZ 7 p,w)∈K4 (a / 128) kv0
  ·obtain⟨w,hw⟩:=e;rw[c.hit _ w hw]at hv;exact zGu (ht p hp w ((gS hs h hf _ w).1 hw).1) hv
  ·rw[c.oth _ fun w hw=>e ⟨w,hw⟩]at hv;exact ht p hp v hv
theorem zKq {kv0:Kvs}{a:Nat}(hs:Srt kv0)(h:Shp kv0)(hf:32768<=a):CS kv0 kv0 a:=
 ⟨hs,fun x hx=>by rw[if_pos (by omega)],fun _ _=>rfl,Nat.le_refl _,fun h=>h,h⟩
end Go.Ex
end
section
namespace Go.Eng.Sh
open Go.Nd (Ptr yG qP Kvs Srt Str lookP putP delP mayK)
open Go.Bt Go.Dr Go.Ex
theorem zMA (s:Str)(h:s.length<4611686018427387904):cvSB 5 (S s)=some (.cells (qR s) 5 1 true,fun A=> .slice A 0 s.length 1):=by
 have:Nat.blt s.length 4611686018427387904=true:=by rw[zM];exact h
 simp only[cvSB,S,this,cond_true,QW]
theorem quoB {c k:Nat}(h:c<9223372036854775808)(hk:0<k):qO .quo (.int .i64 ((c:Nat):Int)) (.int .i64 ((k:Nat):Int))=some (.int .i64 ((c / k:Nat):Int)):=by
 have h1:c / k<=c:=Nat.div_le_self c k;have h2:((c:Nat):Int) / ((k:Nat):Int)=((c / k:Nat):Int):=rfl;rw[WC _ _ _ (by omega),Int.tdiv_eq_ediv_of_nonneg (by omega),h2];generalize c / k=q at h1;rw[wrap_i64 (by omega) (by omega)]
theorem zBB (m n:Nat)(hm:300000000<=m)(hn:300000000<=n){H:AH}{At M L:Nat}{kv:Kvs}(t:yP H At M L kv)(hL:L<=90000000)(hkv:kv.length<=1000000000)(i p:Nat){b:Str}{v:AV}(hb:b.length<=128)(hcv:dS v H=some (S b))(his:(lookP (yZ i p) kv).isSome=true):
  ∃H',f32 (dy (m+2)) n [.ptr At 0, .int .i64 ((i:Nat):Int), .int .i64 ((p:Nat):Int),v, .bool true] H=some (.int .i64 ((0:Nat):Int),H')/\yP H' At M (L+200) (wP kv i p b)/\Stp (fun B=>B=At\/B=M) H H':=by
 have hk:=t.okH;have ht:=zCF (dy (m+2)) n (H:=H) b (by omega) (by omega);have e0:(AV.str 0 0)=S []:=rfl;have hl:=fP b;by_cases h:yM b=[]
 ·have hne: ¬(yM b≠[]):=fun e=>e h
  rw[wP,if_pos h];obtain⟨H1,e1,p1⟩:=dG (dy (m+2)) n hk i p;obtain⟨H2,e2,t2,s2⟩:=zA0 m n hm hn (t.prs p1) (by omega) hkv (k:=yZ i p);have hz:dP (yZ i p) kv=0:=by
   rw[dP,bL];simp[his]
  rw[hz]at e2;rw[if_pos hz]at t2;refine⟨H2, ?_,t2,(Prs.stp p1).trans s2⟩;simp(maxSteps:=999999)(disch:=omega) only[f32,eZ,hcv,ht,e0,jC,hne,e1,e2]
 ·have hne:yM b≠[]:=h;rw[wP,if_neg h];obtain⟨H1,e1,p1⟩:=dG (dy (m+2)) n hk i p;obtain⟨H2,e2,t2,s2⟩:=BF m n hm hn (t.prs p1) (by omega) hkv (k:=yZ i p) (v:=yM b);have hput:gJ (yZ i p) (yM b)=true:=by
   rw[gJ,bL];simp;omega
  rw[hput]at e2 t2;simp only[if_true]at e2 t2;refine⟨H2, ?_,t2,(Prs.stp p1).trans s2⟩;simp(maxSteps:=999999)(disch:=omega) only[f32,eZ,hcv,ht,e0,jC,hne,ne_eq,not_false_eq_true,e1,e2]
theorem zIi {H:AH}{w:AV}{l:Kvs}(h:Rw 2 H w l.length (l.flatMap prV)){i:Nat}(hi:i<l.length): ∃p,(∀κ (z:Int),z=(i:Int)->jW 2 w (.int κ z)=some p)/\Eng.ldN 2 p H=some (.agg [S l[i].1,S l[i].2]):=by
 obtain⟨p,h1,h2⟩:=h.ldN hi;rw[zAY prV 2 (fun _=>rfl) l i hi]at h2;exact⟨p,h1,h2⟩
theorem st_loop (D:Dyn)(n:Nat){H0:AH}{w:AV}{l:Kvs}(hw:Rw 2 H0 w l.length (l.flatMap prV))(hl:l.length<=400000000):
  ∀(rr i kf:Nat) {H:AH} {v:AV} {acc:Kvs},i+rr=l.length->rr<kf->Prs H0 H->acc.length<=i->jO 2 50 H v acc.length (acc.flatMap prV)->(∀B,Blk v B->H0.next<=B)->
   ∃H' v',qX kf (BY D n) [v,w, .int .i64 ((l.length:Nat):Int), .int .i64 ((i:Nat):Int)] H=some (.exit 0 [v'],H')/\Prs H0 H'/\jO 2 50 H' v' (acc++(l.drop i).filter p9).length ((acc++(l.drop i).filter p9).flatMap prV)/\ ∀B,Blk v' B->H0.next<=B
 | _,_,0,_,_,_,_,hk,_,_,_,_=>by omega
 | rr,i,kf+1,H,v,acc,hr,hkf,P,ha,g,hb=>by
  by_cases hi:i<l.length
  ·have hiI:((i:Nat):Int)< ((l.length:Nat):Int):=by omega
   have hi1:((i:Nat):Int)+((1:Nat):Int)=((i+1:Nat):Int):=by omega
   obtain⟨p,i1,i2⟩:=zIi (Rw.stp hw P fun _ _ x=>x) hi;obtain⟨H1,A14,b1,p1,g1,m1,n1⟩:=box P.ok (.cells [S [],S []] 50 1 false);obtain⟨H2,e2,g2,s2,n2⟩:=yA p1.ok g1 (l':=[S l[i].1,S l[i].2]) rfl rfl;have e2':stN 2 (.ptr A14 0) (.agg [S l[i].1,S l[i].2]) H1=some (qM,H2):=e2;have P2:Prs H H2:=p1.fresh s2 fun B hB=>by omega
   have N1:=p1.next;have N2:=s2.next;have N0:=P.next
   have hS:(AV.str 0 0)=S []:=rfl;have q1:Eng.ld1 (.ptr A14 0) H2=some (S l[i].1):=by rw[qL g2];rfl
   by_cases h9:l[i].1.length=9
   ·have h9I:((l[i].1.length:Nat):Int)=((9:Nat):Int):=by omega
    have q2:ldN 2 (.ptr A14 0) H2=some (.agg [S l[i].1,S l[i].2]):=by rw[qQ g2];rfl
    have bl1:vQ 50 2 1 [S [],S []] [(0, .agg [S l[i].1,S l[i].2])]=some (.cells [S l[i].1,S l[i].2] 50 2 false,fun A=> .slice A 0 1 2):=rfl;obtain⟨H4,A15,b4,p4,g4,m4,n4⟩:=box s2.ok (.cells [S l[i].1,S l[i].2] 50 2 false);have hsrc:srcOf 2 (.slice A15 0 1 2) H4=some (1,[S l[i].1,S l[i].2]):=by simp only[srcOf,g4];rfl
    obtain⟨v',H5,e5,gv5,s5,f5⟩:=((g.mono P2 (fun _ _ x=>x)).mono p4 (fun _ _ x=>x)).app (bytes:=32) (m:=1) (new:=[S l[i].1,S l[i].2]) p4.ok (by decide) hsrc rfl rfl (by omega) (by decide);have N4:=p4.next;have N5:=s5.next
    have P5:Prs H0 H5:=(P.trans (P2.trans p4)).fresh s5 fun B hB=>hb B hB
    have fl:(acc++[l[i]]).flatMap prV=acc.flatMap prV++[S l[i].1,S l[i].2]:=by simp[q6,prV]
    have g5':jO 2 50 H5 v' (acc++[l[i]]).length ((acc++[l[i]]).flatMap prV):=by
     rw[fl,zJ];exact gv5
    obtain⟨H',v2,e,P',g',hb'⟩:=st_loop D n hw hl (rr - 1) (i+1) kf (by omega) (by omega) P5 (by simp;omega) g5' (fun B hB=>by
     rcases f5 B hB with e | e
     ·exact hb B e
     ·omega)
    refine⟨H',v2, ?_,P', ?_,hb'⟩
    ·have body:BY D n [v,w, .int .i64 ((l.length:Nat):Int), .int .i64 ((i:Nat):Int)] H=some (.norm [v',w, .int .i64 ((l.length:Nat):Int), .int .i64 ((i+1:Nat):Int)],H5):=by
      simp(maxSteps:=999999)(disch:=omega) only[BY,zKb,eZ,hiI,i1,i2,hS,b1,e2',q1,jF,h9I,q2,bl1,b4,e5,hi1]
     rw[jA body,e]
    ·rw[List.append_assoc]at g';have hd:(l.drop i).filter p9=[l[i]]++(l.drop (i+1)).filter p9:=by
      rw[zK hi,List.filter_cons_of_pos (by simp[p9,h9])];rfl
     rw[hd];exact g'
   ·have h9I: ¬((l[i].1.length:Nat):Int)=((9:Nat):Int):=by omega
    obtain⟨H',v2,e,P',g',hb'⟩:=st_loop D n hw hl (rr - 1) (i+1) kf (by omega) (by omega) (P.trans P2) (by omega) (g.mono P2 (fun _ _ x=>x)) hb;refine⟨H',v2, ?_,P', ?_,hb'⟩
    ·have body:BY D n [v,w, .int .i64 ((l.length:Nat):Int), .int .i64 ((i:Nat):Int)] H=some (.norm [v,w, .int .i64 ((l.length:Nat):Int), .int .i64 ((i+1:Nat):Int)],H2):=by
      simp(maxSteps:=999999)(disch:=omega) only[BY,zKb,eZ,hiI,i1,i2,hS,b1,e2',q1,jF,h9I,hi1]
     rw[jA body,e]
    ·rw[zK hi,List.filter_cons_of_neg (by simp[p9,h9])];exact g'
  ·have hiI: ¬((i:Nat):Int)< ((l.length:Nat):Int):=by omega
   refine⟨H,v,yE ?_,P, ?_,hb⟩
   ·simp(maxSteps:=999999)(disch:=omega) only[BY,eZ,hiI]
   ·rw[zO (by omega),List.filter_nil,List.append_nil];exact g
theorem QX (fr to:Str)(kv:Kvs):(yX fr to kv).length<=kv.length:=List.length_filter_le ..
theorem start_eq:(100:UInt8)::dig 7 4=[100,0,0,0]++[7]++List.replicate 0 255:=by rw[dig7];rfl
theorem zCZ (m:Nat)(hm:700000000<=m){H:AH}{At M L:Nat}{kv:Kvs}(t:yP H At M L kv)(hL:L<=1000000)(hkv:kv.length<=100000000){first:Nat}(hf:first<4294967296):
  ∃H' v,f33 (dy (m+1)) (m+1) [.ptr At 0, .int .i64 ((7:Nat):Int), .int .i64 ((first:Nat):Int)] H=some (.tuple [v, .int .i64 ((0:Nat):Int)],H')/\Prs H H'/\jO 2 50 H' v (K4 first kv).length ((K4 first kv).flatMap prV)/\ ∀B,Blk v B->H.next<=B:=by
 have hk:=t.okH;obtain⟨H1,e1,p1⟩:=dG (dy (m+1)) (m+1) hk 7 first
 obtain⟨H2,e2,p2⟩:=zAo (dy (m+1)) (m+1) p1.ok 7;rw[start_eq]at e2;obtain⟨H3,e3,p3⟩:=zC8 (dy (m+1)) (m+1) (by omega) p2.ok [100,0,0,0] (b:=7) (by decide) (by decide) 0 (by omega);have P3:=(p1.trans p2).trans p3;have hto:([100,0,0,0]++[UInt8.ofNat ((7:UInt8).toNat+1)]:Str)=to7:=rfl;rw[hto]at e3;obtain⟨H4,w,e4,p4,g4,b4⟩:=XT m hm (t.prs P3) hL (by omega) (yZ 7 first) to7 (most:=9223372036854775807) (by omega)
 have hbl:=QX (yZ 7 first) to7 kv
 have htk:(yX (yZ 7 first) to7 kv).take 9223372036854775807=yX (yZ 7 first) to7 kv:=zL (by omega)
 rw[htk]at g4;obtain⟨H5,v,e5,p5,g5,b5⟩:=st_loop (dy (m+1)) (m+1) g4.row (by omega) (yX (yZ 7 first) to7 kv).length 0 (m+1) (acc:=[]) (v:= .nilSlice) (by omega) (by omega) ⟨p4.ok,Nat.le_refl _,fun _ _ _=>rfl⟩ (by simp) (.inl (Own.nil ..)) (fun B hB=>(Blk.nil.1 hB).elim)
 have N3:=P3.next;have N4:=p4.next
 refine⟨H5,v, ?_,(P3.trans p4).trans p5,by simpa[K4]using g5,fun B hB=>by have:=b5 B hB;omega⟩;have hfI: ¬((4294967295:Nat):Int)< ((first:Nat):Int):=by omega
 have t00: ¬(((0:Nat):Int)≠((0:Nat):Int)):=by omega
 have hln:lnSl w=some (.int .i64 (((yX (yZ 7 first) to7 kv).length:Nat):Int)):=g4.row.lnSl
 rw[<-start_eq]at e2 e3;simp(maxSteps:=999999)(disch:=omega) only[f33,zMv,eZ,hfI,e1,e2,e3,e4,qK,nth,t00,hln,e5]
theorem zBG (D:Dyn)(n:Nat){H:AH}{At first:Nat}(hf:4294967296<=first):f33 D n [.ptr At 0, .int .i64 ((7:Nat):Int), .int .i64 ((first:Nat):Int)] H=some (.tuple [.nilSlice, .int .i64 ((0:Nat):Int)],H):=by
 have hfI:((4294967295:Nat):Int)< ((first:Nat):Int):=by omega
 simp(maxSteps:=999999)(disch:=omega) only[f33,eZ,hfI]
structure CB (H:AH)(At M Bi Bf Bk Bt first keep:Nat)(w:AV)(l:Kvs):Prop where
 bi:Box H Bi (.int .i64 ((7:Nat):Int))
 bf:Box H Bf (.int .i64 ((first:Nat):Int))
 bk:Box H Bk (.int .i64 ((keep:Nat):Int))
 bt:Box H Bt (.ptr At 0)
 ne:Bi≠At/\Bf≠At/\Bk≠At/\Bt≠At
 nm:Bi≠M/\Bf≠M/\Bk≠M/\Bt≠M
 row:Rw 2 H w l.length (l.flatMap prV)
 far: ∀B,Blk w B->B≠At/\B≠M
theorem CB.mono {H H':AH}{At M Bi Bf Bk Bt first keep:Nat}{w:AV}{l:Kvs}(h:CB H At M Bi Bf Bk Bt first keep w l)(hk:H.ok)(s:Stp (fun B=>B=At\/B=M) H H'):CB H' At M Bi Bf Bk Bt first keep w l where
 bi:=h.bi.mono hk s fun e=>e.elim h.ne.1 h.nm.1
 bf:=h.bf.mono hk s fun e=>e.elim h.ne.2.1 h.nm.2.1
 bk:=h.bk.mono hk s fun e=>e.elim h.ne.2.2.1 h.nm.2.2.1
 bt:=h.bt.mono hk s fun e=>e.elim h.ne.2.2.2 h.nm.2.2.2
 ne:=h.ne
 nm:=h.nm
 row:=Rw.stp h.row s fun B hB e=>e.elim (h.far B hB).1 (h.far B hB).2
 far:=h.far
theorem CB.prs {H H':AH}{At M Bi Bf Bk Bt first keep:Nat}{w:AV}{l:Kvs}(h:CB H At M Bi Bf Bk Bt first keep w l)(hk:H.ok)(s:Prs H H'):CB H' At M Bi Bf Bk Bt first keep w l:=h.mono hk (Prs.stp s)
theorem zHw (m n:Nat)(hm:300000000<=m)(hn:300000000<=n){H:AH}{At M L Bi Bf Bk Bt first keep i p:Nat}{w:AV}{l kv:Kvs}(c:CB H At M Bi Bf Bk Bt first keep w l)(t:yP H At M L kv)(hs:Srt kv)(hL:L<=90000000)(hkv:kv.length<=1000000000)(hkeep:keep<128)(hl:l.length<=400000000)(hi:i<l.length)(hp:l[i].1=yZ 7 p)(hlk:lookP l[i].1 kv=some l[i].2):
  ∃H' kv',VP (dy (m+2)) n [.ptr Bi 0, .ptr Bf 0, .ptr Bk 0, .ptr Bt 0,w, .int .i64 ((l.length:Nat):Int), .int .i64 ((i:Nat):Int)] H=some (.norm [.ptr Bi 0, .ptr Bf 0, .ptr Bk 0, .ptr Bt 0,w, .int .i64 ((l.length:Nat):Int), .int .i64 ((i+1:Nat):Int)],H')/\yP H' At M (L+200) kv'/\Srt kv'/\kv'.length<=kv.length/\(∀x,lookP x kv'=if x=l[i].1 then BC first keep l[i].1 l[i].2 else lookP x kv)/\Stp (fun B=>B=At\/B=M) H H':=by
 have hk:=t.okH;have lt:=t.lt;have hiI:((i:Nat):Int)< ((l.length:Nat):Int):=by omega
 have hi1:((i:Nat):Int)+((1:Nat):Int)=((i+1:Nat):Int):=by omega
 obtain⟨q,i1,i2⟩:=zIi c.row hi;obtain⟨k,hkd⟩: ∃k,k=l[i].1:=⟨_,rfl⟩;obtain⟨v,hvd⟩: ∃v,v=l[i].2:=⟨_,rfl⟩;rw[<-hkd,<-hvd]at i2 hlk⊢;rw[<-hkd]at hp;obtain⟨H1,X7,b1,p1,g1,m1,n1⟩:=box hk (.cells [S [],S []] 50 1 false);obtain⟨H2,e2,g2,s2,n2⟩:=yA p1.ok g1 (l':=[S k,S v]) rfl rfl;have e2':stN 2 (.ptr X7 0) (.agg [S k,S v]) H1=some (qM,H2):=e2;have P2:Prs H H2:=p1.fresh s2 fun B hB=>by omega
 have N1:=p1.next;have N2:=s2.next
 have hS:(AV.str 0 0)=S []:=rfl;obtain⟨H3,e3,p3⟩:=dG (dy (m+2)) n P2.ok 7 first
 have N3:=p3.next
 have P3:=P2.trans p3;have c2:=c.prs hk P2;have c3:=c.prs hk P3;have g3:=Prs.get p3 P2.ok g2;have t3:=t.prs P3;have r20:Eng.ld1 (.ptr X7 0) H2=some (S k):=by rw[qL g2];rfl
 have r30:Eng.ld1 (.ptr X7 0) H3=some (S k):=by rw[qL g3];rfl
 have r31:Eng.ld1 (.ptr X7 1) H3=some (S v):=by rw[qL g3];rfl
 have t00: ¬(((0:Nat):Int)≠((0:Nat):Int)):=by omega
 have del: ∃H',f35 (dy (m+2)) n [.ptr At 0,S k] H3=some (.int .i64 ((0:Nat):Int),H')/\yP H' At M (L+200) (delP k kv)/\Stp (fun B=>B=At\/B=M) H3 H':=by
  obtain⟨H4,e4,t4,s4⟩:=zA0 m n hm hn t3 (by omega) hkv (k:=k);have hz:dP k kv=0:=by rw[dP,hp,bL,<-hp,hlk];rfl
  rw[hz]at e4;rw[if_pos hz]at t4;exact⟨H4,e4,t4,s4⟩
 by_cases hkk:k=yZ 7 first
 ·have hkT:(k=yZ 7 first)=True:=eq_true hkk
  by_cases h0:0<keep
  ·have h0I:((0:Nat):Int)< ((keep:Nat):Int):=by omega
   by_cases hv:v.length<=keep
   ·have hvI:((v.length:Nat):Int)<=((keep:Nat):Int):=by omega
    refine⟨H3,kv, ?_,t3.up (by omega),hs,Nat.le_refl _,fun x=> ?_,Prs.stp P3⟩
    ·simp(maxSteps:=999999)(disch:=omega) only[VP,zEQ,eZ,hiI,i1,i2,hS,b1,e2',r20,c2.bi.ld,c2.bf.ld,e3,r30,zKU,kB,hkT,c3.bk.ld,h0I,r31,jF,hvI,hi1]
    ·split
     ·rename_i e;rw[e,hlk,BC,if_pos ⟨hkk,h0⟩,if_pos hv]
     ·rfl
   ·have hvI: ¬((v.length:Nat):Int)<=((keep:Nat):Int):=by omega
    have hst:gV (S v) none (some (.int .i64 ((keep:Nat):Int)))=some (S (v.take keep)):=by
     rw[K5 _ _ (by omega) (by rw[zS];omega),zS]
    have htl:(v.take keep).length=keep:=by rw[zH];omega
    obtain⟨H4,X8,b4,p4,g4,m4,n4⟩:=box P3.ok (.cells (qR (v.take keep)) 5 1 true);have hcb:=zMA (v.take keep) (by omega);have hcv:dS (.slice X8 0 keep 1) H4=some (S (v.take keep)):=
     dQ (n:=keep) ⟨by rw[qT,htl,Nat.mul_one], .inr (.inr ⟨_,_,_,_,_,_,_,rfl,g4,p4.ok.lt g4,by rw[qT,htl];omega,by
      rw[List.drop_zero,zL (by rw[qT,htl];omega)]⟩)⟩ (by simp)
    rw[htl]at hcb;obtain⟨H5,e5,t5,s5⟩:=zBB m n hm hn (t3.prs p4) (by omega) hkv 7 first (by omega) hcv (by rw[<-hkk,hlk];rfl)
    refine⟨H5,_, ?_,t5,XE hs _ _ _, ?_,fun x=> ?_,(Prs.stp (P3.trans p4)).trans s5⟩
    ·simp(maxSteps:=999999)(disch:=omega) only[VP,zEQ,eZ,hiI,i1,i2,hS,b1,e2',r20,c2.bi.ld,c2.bf.ld,e3,r30,zKU,kB,hkT,c3.bk.ld,h0I,r31,jF,hvI,c3.bt.ld,c3.bi.ld,c3.bf.ld,hst,hcb,b4,e5,t00,hi1]
    ·rw[wP];split
     ·exact len_del _ _
     ·rw[Nd.len_put _ _ hs,if_pos (by rw[<-hkk,hlk];rfl)];exact Nat.le_refl _
    ·have hres:BC first keep k v=if yM (v.take keep)=[]then none else some (yM (v.take keep)):=by rw[BC,if_pos ⟨hkk,h0⟩,if_neg hv]
     rw[bI hs,<-hkk,hres]
  ·have h0I: ¬((0:Nat):Int)< ((keep:Nat):Int):=by omega
   obtain⟨H4,e4,t4,s4⟩:=del;refine⟨H4,_, ?_,t4,Nd.srt_del _ hs,len_del _ _,fun x=> ?_,(Prs.stp P3).trans s4⟩
   ·simp(maxSteps:=999999)(disch:=omega) only[VP,zEQ,eZ,hiI,i1,i2,hS,b1,e2',r20,c2.bi.ld,c2.bf.ld,e3,r30,zKU,kB,hkT,c3.bk.ld,h0I,c3.bt.ld,e4,t00,hi1]
   ·have hres:BC first keep k v=none:=by rw[BC,if_neg fun e=>h0 e.2]
    rw[Nd.look_del _ _ hs,hres]
 ·obtain⟨H4,e4,t4,s4⟩:=del;refine⟨H4,_, ?_,t4,Nd.srt_del _ hs,len_del _ _,fun x=> ?_,(Prs.stp P3).trans s4⟩
  ·simp(maxSteps:=999999)(disch:=omega) only[VP,zEQ,eZ,hiI,i1,i2,hS,b1,e2',r20,c2.bi.ld,c2.bf.ld,e3,r30,zKU,kB,hkk,c3.bt.ld,e4,t00,hi1]
  ·have hres:BC first keep k v=none:=by rw[BC,if_neg fun e=>hkk e.1]
   rw[Nd.look_del _ _ hs,hres]
theorem zBa (m n:Nat)(hm:300000000<=m)(hn:300000000<=n){At M Bi Bf Bk Bt first keep:Nat}{w:AV}{l:Kvs}(hkeep:keep<128)(hll:l.length<=400000000)(hnod:l.Pairwise fun a b=>a.1≠b.1)(hkey: ∀x∈l,∃p,x.1=yZ 7 p):
  ∀(rr i kf L:Nat) {H:AH} {kv:Kvs},i+rr=l.length->rr<kf->CB H At M Bi Bf Bk Bt first keep w l->yP H At M L kv->Srt kv->L+200*rr<=90000000->kv.length<=1000000000->(∀x∈l.drop i,lookP x.1 kv=some x.2)->
   ∃H' kv',qX kf (VP (dy (m+2)) n) [.ptr Bi 0, .ptr Bf 0, .ptr Bk 0, .ptr Bt 0,w, .int .i64 ((l.length:Nat):Int), .int .i64 ((i:Nat):Int)] H=some (.exit 0 [],H')/\yP H' At M (L+200*rr) kv'/\CutS first keep kv kv' (l.drop i)/\Stp (fun B=>B=At\/B=M) H H'
 | _,_,0,_,_,_,_,hk,_,_,_,_,_,_=>by omega
 | rr,i,kf+1,L,H,kv,hr,hkf,c,t,hs,hL,hkv,hlk=>by
  by_cases hi:i<l.length
  ·have hd:=zK hi;obtain⟨p,hp⟩:=hkey l[i] (zT hi);obtain⟨H1,kv1,e1,t1,s1,len1,look1,st1⟩:=zHw m n hm hn c t hs (by omega) hkv hkeep hll hi hp (hlk _ (by rw[hd];exact zC));have hdn: ∀q∈l.drop (i+1),l[i].1≠q.1:=by
    have h1:=hnod.drop (i:=i);rw[hd]at h1;exact(List.pairwise_cons.1 h1).1
   obtain⟨H2,kv2,e2,t2,c2,st2⟩:=zBa m n hm hn hkeep hll hnod hkey (rr - 1) (i+1) kf (L+200) (by omega) (by omega) (c.mono t.okH st1) t1 s1 (by omega) (by omega) (fun x hx=>by
    rw[look1,if_neg fun e=>hdn x hx e.symm];exact hlk x (by rw[hd];exact zA _ hx))
   refine⟨H2,kv2, ?_,t2.up (by omega), ?_,st1.trans st2⟩
   ·rw[jA e1,e2]
   ·rw[hd];exact zFl look1 len1 c2 hdn
  ·have hiI: ¬((i:Nat):Int)< ((l.length:Nat):Int):=by omega
   refine⟨H,kv,yE ?_,t.up (by omega), ?_,Stp.refl t.okH⟩
   ·simp(maxSteps:=999999)(disch:=omega) only[VP,eZ,hiI]
   ·rw[zO (by omega)];exact zBb hs _ _
theorem zKo (m n:Nat)(hm:300000000<=m)(hn:300000000<=n){H:AH}{At M L Bl Bi Bf Bk Bt first keep:Nat}{w:AV}{kv:Kvs}(c:CB H At M Bi Bf Bk Bt first keep w (K4 first kv))(bl:Box H Bl w)(t:yP H At M L kv)(hs:Srt kv)(hsh:Shp kv)(hf:first<4294967296)(hL:L<=1000000)(hkv:kv.length<=100000)(hkeep:keep<128):
  ∃H' kv',f34 (dy (m+2)) n [.ptr Bl 0, .ptr Bi 0, .ptr Bf 0, .ptr Bk 0, .ptr Bt 0] H=some (.int .i64 ((0:Nat):Int),H')/\yP H' At M (L+200*kv.length) kv'/\CutS first keep kv kv' (K4 first kv)/\Stp (fun B=>B=At\/B=M) H H':=by
 have hle:(K4 first kv).length<=kv.length:=Nat.le_trans (List.length_filter_le ..) (List.length_filter_le ..)
 obtain⟨H1,kv1,e1,t1,c1,s1⟩:=zBa m n hm hn hkeep (by omega) (zJ9 hs first) (fun x hx=>by
  obtain⟨_,p,_,_,h⟩:=(gS hs hsh hf x.1 x.2).1 hx;exact⟨p,h⟩) (K4 first kv).length 0 n L (by omega) (by omega) c t hs (by omega) (by omega) (fun x hx=>((gS hs hsh hf x.1 x.2).1 hx).1)
 refine⟨H1,kv1, ?_,t1.up (by omega),c1,s1⟩;have hln:lnSl w=some (.int .i64 (((K4 first kv).length:Nat):Int)):=c.row.lnSl
 simp(maxSteps:=999999)(disch:=omega) only[f34,zMt,eZ,bl.ld,hln,e1]
set_option maxRecDepth 20000 in
theorem zMH (m n:Nat)(a b c d e:Nat)(H:AH):callV (s28 (dy (m+1)) n).S (dy (m+1)) (.func 34 [] [.ptr a 0, .ptr b 0, .ptr c 0, .ptr d 0, .ptr e 0]) [] H=f34 (dy m) m [.ptr a 0, .ptr b 0, .ptr c 0, .ptr d 0, .ptr e 0] H:=rfl
theorem zG3 (D:Dyn)(n:Nat){H:AH}(hk:H.ok){At:Nat}{z:Int}(hz:z<0): ∃H',f11 D n [.ptr At 0, .int .i64 ((7:Nat):Int), .int .i64 z] H=some (.int .i64 ((1:Nat):Int),H')/\Prs H H':=by
 obtain⟨H1,X3,b1,p1,g1,m1,w1⟩:=box hk (.cells [.ptr At 0] 25 1 false);obtain⟨H2,X4,b2,p2,g2,m2,w2⟩:=box p1.ok (.cells [.int .i64 ((7:Nat):Int)] 3 1 false);have x3:Box H2 X3 (.ptr At 0):=⟨_,Prs.get p2 p1.ok g1⟩;have x4:Box H2 X4 (.int .i64 ((7:Nat):Int)):=⟨_,g2⟩;have hc: ∀z:Int,qS (.int .i64 z)=[.int .i64 z]:=fun z=>rfl
 have hcp:qS (.ptr At 0)=[.ptr At 0]:=rfl;have i1:=Z3 D n (H:=H2) (i:=7) (by omega) (by omega);have t1:z< ((0:Nat):Int):=hz;refine⟨H2, ?_,p1.trans p2⟩;simp(maxSteps:=999999)(disch:=omega) only[f11,eZ,hc,hcp,b1,b2,x3.ld,cq,x4.ld,i1,t1]
theorem zIT (m:Nat)(hm:700000000<=m){H:AH}{At M L a:Nat}{kv:Kvs}(t:yP H At M L kv)(hs:Srt kv)(hsh:Shp kv)(hL:L<=1000000)(hkv:kv.length<=100000)(ha:a<9223372036854775808):
  ∃H' kv',f11 (dy (m+1)) (m+1) [.ptr At 0, .int .i64 ((7:Nat):Int), .int .i64 ((a:Nat):Int)] H=some (.int .i64 ((0:Nat):Int),H')/\yP H' At M (L+200*kv.length) kv'/\CS kv kv' a/\Stp (fun B=>B=At\/B=M) H H':=by
 have hk:=t.okH;have lt:=t.lt;obtain⟨H1,X3,b1,p1,g1,m1,w1⟩:=box hk (.cells [.ptr At 0] 25 1 false);obtain⟨H2,X4,b2,p2,g2,m2,w2⟩:=box p1.ok (.cells [.int .i64 ((7:Nat):Int)] 3 1 false);obtain⟨H3,X7,b3,p3,g3,m3,w3⟩:=box p2.ok (.cells [.int .i64 ((0:Nat):Int)] 3 1 false);obtain⟨H4,X8,b4,p4,g4,m4,w4⟩:=box p3.ok (.cells [.int .i64 ((0:Nat):Int)] 3 1 false);have N1:=p1.next;have N2:=p2.next;have N3:=p3.next;have N4:=p4.next
 have P2:=p1.trans p2;have P4:=(P2.trans p3).trans p4;obtain⟨H5,e5,x75,s5⟩:=(show Box H4 X7 (.int .i64 ((0:Nat):Int))from⟨_,Prs.get p4 p3.ok g3⟩).st p4.ok (x:= .int .i64 ((a / 128:Nat):Int)) rfl;obtain⟨H6,e6,x86,s6⟩:=(show Box H5 X8 (.int .i64 ((0:Nat):Int))from(show Box H4 X8 (.int .i64 ((0:Nat):Int))from⟨_,g4⟩).mono p4.ok s5 (by omega)).st s5.ok (x:= .int .i64 ((a % 128:Nat):Int)) rfl;have N5:=s5.next;have N6:=s6.next
 have P6:Prs H H6:=(P4.fresh s5 fun B hB=>by omega).fresh s6 fun B hB=>by omega
 have x32:Box H2 X3 (.ptr At 0):=⟨_,Prs.get p2 p1.ok g1⟩;have x42:Box H2 X4 (.int .i64 ((7:Nat):Int)):=⟨_,g2⟩;have up: ∀ {B:Nat} {x:AV},Box H2 B x->B<H2.next->Box H6 B x:=fun hb hB=>(((hb.mono P2.ok p3 fun x=>x).mono p3.ok p4 fun x=>x).mono p4.ok s5 (by omega)).mono s5.ok s6 (by omega)
 have x36:=up x32 (by omega);have x46:=up x42 (by omega);have x76:Box H6 X7 (.int .i64 ((a / 128:Nat):Int)):=x75.mono s5.ok s6 (by omega);have hc: ∀z:Int,qS (.int .i64 z)=[.int .i64 z]:=fun z=>rfl
 have hcp:qS (.ptr At 0)=[.ptr At 0]:=rfl;have hcn:qS .nilSlice=[.nilSlice]:=rfl;have i1:=Z3 (dy (m+1)) (m+1) (H:=H2) (i:=7) (by omega) (by omega);have t1: ¬((a:Nat):Int)< ((0:Nat):Int):=by omega
 have t00: ¬(((0:Nat):Int)≠((0:Nat):Int)):=by omega
 have hq:=quoB (c:=a) (k:=128) ha (by omega);have hr:=remN (c:=a) (k:=128) (by omega);obtain⟨m',hm'⟩: ∃m',m=m'+2:=⟨m - 2,by omega⟩;by_cases hf:a / 128<4294967296
 ·obtain⟨H7,w,e7,p7,g7,f7⟩:=zCZ m hm (t.prs P6) hL (by omega) hf;have N7:=p7.next
  obtain⟨H8,X9,b8,p8,g8,m8,w8⟩:=box p7.ok (.cells [.nilSlice] 27 1 false);have N8:=p8.next
  obtain⟨H9,e9,x99,s9⟩:=(show Box H8 X9 .nilSlice from⟨_,g8⟩).st p8.ok (x:=w) g7.isCell;have N9:=s9.next
  have p79:Prs H7 H9:=p8.fresh s9 fun B hB=>by omega
  have P9:Prs H H9:=(P6.trans p7).trans p79;have hln:lnSl w=some (.int .i64 (((K4 (a / 128) kv).length:Nat):Int)):=g7.row.lnSl;by_cases h0:(K4 (a / 128) kv).length=0
  ·refine⟨H9,kv, ?_,(t.prs P9).up (by omega), ?_,Prs.stp P9⟩
   ·have h0I:(((K4 (a / 128) kv).length:Nat):Int)=((0:Nat):Int):=by omega
    simp(maxSteps:=999999)(disch:=omega) only[f11,eZ,hc,hcp,hcn,b1,b2,b3,b4,x32.ld,cq,x42.ld,i1,t1,hq,hr,e5,e6,x36.ld,x46.ld,x76.ld,e7,qK,nth,b8,e9,t00,x99.ld,hln,h0I]
   ·refine zMC hs hsh hf ?_;rw[zF h0];exact zBb hs _ _
  ·have h0I: ¬(((K4 (a / 128) kv).length:Nat):Int)=((0:Nat):Int):=by omega
   obtain⟨H10,At',M',e10,p10,l5,l6,t10⟩:=zBh (dy (m+1)) (m+1) (t.prs P9);have N10:=p10.next
   have up9: ∀ {B:Nat} {x:AV},Box H6 B x->Box H10 B x:=fun hb=>((hb.mono P6.ok p7 fun x=>x).mono p7.ok p79 fun x=>x).mono p79.ok p10 fun x=>x
   have hk9:H9.ok:=p79.ok;have cb:CB H10 At M X4 X7 X8 X3 (a / 128) (a % 128) w (K4 (a / 128) kv):= {
    bi:=up9 x46
    bf:=up9 x76
    bk:=up9 x86
    bt:=up9 x36
    ne:=⟨by omega,by omega,by omega,by omega⟩
    nm:=⟨by omega,by omega,by omega,by omega⟩
    row:=Rw.stp g7.row (p79.trans p10) fun _ _ x=>x
    far:=fun B hB=>by have:=f7 B hB;omega}
   obtain⟨H11,kv',e11,t11,c11,s11⟩:=zKo m' m (by omega) (by omega) cb (x99.mono hk9 p10 fun x=>x) (t.prs (P9.trans p10)) hs hsh hf hL hkv (by omega);have e11':f34 (dy m) m [.ptr X9 0, .ptr X4 0, .ptr X7 0, .ptr X8 0, .ptr X3 0] H10=some (.int .i64 ((0:Nat):Int),H11):=by
    rw[hm']at e11⊢;exact e11
   refine⟨H11,kv', ?_,t11,zMC hs hsh hf c11,(Prs.stp (P9.trans p10)).trans s11⟩;have ew:f28 (dy (m+1)) (m+1) [.ptr At 0, .func 34 [] [.ptr X9 0, .ptr X4 0, .ptr X7 0, .ptr X8 0, .ptr X3 0]] H9=some (.int .i64 ((0:Nat):Int),H11):=by
    simp(maxSteps:=999999)(disch:=omega) only[f28,zKc,eZ,e10,zMH,e11',t00]
   have x39:Box H9 X3 (.ptr At 0):=(x36.mono P6.ok p7 fun x=>x).mono p7.ok p79 fun x=>x
   simp(maxSteps:=999999)(disch:=omega) only[f11,eZ,hc,hcp,hcn,b1,b2,b3,b4,x32.ld,cq,x42.ld,i1,t1,hq,hr,e5,e6,x36.ld,x46.ld,x76.ld,e7,qK,nth,b8,e9,t00,x99.ld,hln,h0I,x39.ld,ew]
   try rfl
 ·have e7:=zBG (dy (m+1)) (m+1) (H:=H6) (At:=At) (first:=a / 128) (by omega)
  obtain⟨H8,X9,b8,p8,g8,m8,w8⟩:=box P6.ok (.cells [.nilSlice] 27 1 false);obtain⟨H9,e9,x99,s9⟩:=(show Box H8 X9 .nilSlice from⟨_,g8⟩).st p8.ok (x:= .nilSlice) rfl;have P9:Prs H H9:=(P6.trans p8).fresh s9 fun B hB=>by omega
  refine⟨H9,kv, ?_,(t.prs P9).up (by omega),zKq hs hsh (by omega),Prs.stp P9⟩;have hln:lnSl .nilSlice=some (.int .i64 ((0:Nat):Int)):=rfl;simp(maxSteps:=999999)(disch:=omega) only[f11,eZ,hc,hcp,hcn,b1,b2,b3,b4,x32.ld,cq,x42.ld,i1,t1,hq,hr,e5,e6,x36.ld,x46.ld,x76.ld,e7,qK,nth,b8,e9,t00,x99.ld,hln]
end Go.Eng.Sh
end
section
namespace Go.Ex
open Go.Nd (Str Kvs putP delP lookP Srt mayK)
open Go.Dr
open Go.Eng (ltS yO)
open Go.Bt (inP yB)
open Go.Eng.Sh (yX)
def cH (n:Nat)(f:Nat->UInt8):Str:=(List.range n).map f
theorem vW (n:Nat)(f:Nat->UInt8):(cH n f).length=n:=by simp[cH]
theorem zGd {n:Nat}(f:Nat->UInt8){i:Nat}(y:UInt8):(cH n f).set i y=cH n fun x=>if x=i then y else f x:=by
 apply List.ext_getElem
 ·simp[cH]
 ·intro j h1 h2;simp only[cH,List.getElem_set,List.getElem_map,List.getElem_range];by_cases e:i=j
  ·rw[if_pos e,if_pos e.symm]
  ·rw[if_neg e,if_neg fun h=>e h.symm]
theorem zGe {n:Nat}{f g:Nat->UInt8}(h: ∀x,x<n->f x=g x):cH n f=cH n g:=by
 apply List.ext_getElem
 ·simp[cH]
 ·intro j h1 h2;simp only[cH,List.getElem_map,List.getElem_range];exact h j (by simpa[cH]using h1)
theorem zGf {n:Nat}(f:Nat->UInt8){a k:Nat}(h:a+k<=n):((cH n f).drop a).take k=(List.range' a k).map f:=by
 apply List.ext_getElem
 ·rw[zH,zN,vW];simp;omega
 ·intro j h1 h2;simp[cH,List.getElem_take,List.getElem_drop]
theorem UC {kv:Kvs}{i n a k:Nat}{f:Nat->UInt8}(h: ∀x,x<n->bD kv i x=f x)(hk:a+k<=n):j6 kv i a k=((cH n f).drop a).take k:=by
 rw[zGf f hk,j6];refine List.map_congr_left fun x hx=>h x ?_
 rw[List.mem_range'_1]at hx;omega
theorem UD {kv:Kvs}{i n:Nat}{f:Nat->UInt8}(h: ∀x,x<n->bD kv i x=f x):j6 kv i 0 n=cH n f:=by
 have:=UC (a:=0) (k:=n) h (by omega);rw[this,List.drop_zero,zL (by rw[vW];omega)]
def vlu:Str:=[118,97,108,117,101]
def zCg:Str:=[109,105,110,101]
def zDQ:Str:=[0,0,0,109,105,110,101]
def kvA:Kvs:=putP oth vlu []
structure KvB (kv:Kvs):Prop where
 shp:Shp kv
 tidy:zIQ 7 kv
 byt: ∀x,x<32768->bD kv 7 x=0
 oth:lookP oth kv=some vlu
 byt8:j6 kv 8 0 7=zDQ
theorem zLG {kv:Kvs}(w:WS kvA kv 8 3 zCg 4):KvB kv:=by
 have hA: ∀k,lookP k kvA=if k=oth then some vlu else none:=fun k=>by rw[kvA,Nd.look_put];rfl
 have h7: ∀p,p<4294967296->lookP (yZ 7 p) kv=none:=fun p hp=>by
  rw[w.oth _ fun q hq e=>by have:=(dH (by omega) (by omega) hp (by omega) e).1;omega,hA,if_neg fun e=>zAF 7 p e.symm]
 refine⟨fun k v hk=> ?_,fun p hp v hv=> ?_,fun x hx=> ?_, ?_, ?_⟩
 ·by_cases e: ∃p,p<256/\k=yZ 8 p
  ·exact .inr (.inr e)
  ·rw[w.oth k fun p hp he=>e ⟨p,hp,he⟩,hA]at hk;by_cases e2:k=oth
   ·exact .inl e2
   ·rw[if_neg e2]at hk;cases hk
 ·rw[h7 p hp]at hv;cases hv
 ·rw[vP,h7 _ (by omega)];rfl
 ·rw[w.oth _ fun p _ e=>zAF 8 p e,hA,if_pos rfl]
 ·have h0: ∀x,x<7->bD kv 8 x=(fun x=>if 3<=x/\x<7 then zCg.getD (x - 3) 0 else 0) x:=fun x hx=>by
   have h8:bD kvA 8 x=0:=by
    have hn:lookP (yZ 8 (x / 128)) kvA=none:=by rw[hA,if_neg fun e=>zAF 8 _ e.symm]
    rw[vP,hn];rfl
   rw[w.byt x (by omega),h8]
  rw[UD h0];rfl
structure FK (kvs kv:Kvs)(f:Nat->UInt8):Prop where
 srt:Srt kv
 shp:Shp kv
 tidy:zIQ 7 kv
 byt: ∀x,x<32768->bD kv 7 x=f x
 oth: ∀k,(∀p,p<256->k≠yZ 7 p)->lookP k kv=lookP k kvs
theorem FK.write {kvs kv kv':Kvs}{f:Nat->UInt8}{a:Nat}{tx:Str}(h:FK kvs kv f)(w:WS kv kv' 7 a tx tx.length):FK kvs kv' fun x=>if a<=x/\x<a+tx.length then tx.getD (x - a) 0 else f x where
 srt:=w.srt
 shp:=zIe h.shp w.oth
 tidy:=w.tidy h.tidy
 byt:=fun x hx=>by
  rw[w.byt x (by omega),h.byt x hx]
 oth:=fun k hk=>by rw[w.oth k hk,h.oth k hk]
theorem FK.cut {kvs kv kv':Kvs}{f:Nat->UInt8}{a:Nat}(h:FK kvs kv f)(c:CS kv kv' a):FK kvs kv' fun x=>if x<a then f x else 0 where
 srt:=c.srt
 shp:=c.shp
 tidy:=c.tidy h.tidy
 byt:=fun x hx=>by
  rw[c.byt x hx,h.byt x hx]
 oth:=fun k hk=>by rw[c.oth k hk,h.oth k hk]
theorem FK.byt8 {kvs kv:Kvs}{f:Nat->UInt8}(h:FK kvs kv f)(b:KvB kvs):j6 kv 8 0 7=zDQ:=by
 rw[<-b.byt8,j6,j6];refine List.map_congr_left fun x hx=> ?_
 rw[List.mem_range'_1]at hx;rw[vP,vP,h.oth _ fun p hp e=>by have:=(dH (by omega) (by omega) (by omega) (by omega) e).1;omega]
theorem FK.oth1 {kvs kv:Kvs}{f:Nat->UInt8}(h:FK kvs kv f)(b:KvB kvs):lookP Ex.oth kv=some vlu:=by
 rw[h.oth _ fun p _ e=>zAF 7 p e,b.oth]
theorem FK.pieces {kvs kv:Kvs}{f:Nat->UInt8}(h:FK kvs kv f)(k v:Str)(hm:(k,v)∈yX (yZ 7 0) (yZ 8 0) kv):v.length<=128/\ ∃hv:v≠[],v.getLast hv≠0:=by
 rw[yX,List.mem_filter,<-KJ h.srt]at hm;obtain⟨h1,h2⟩:=hm;have ha: ∀k,yB (yZ 8 0) k=ltS k (yZ 8 0):=fun k=>by simp[yB,yZ]
 simp only[inP,ha,z8,Bool.not_eq_true']at h2;rcases h.shp k v h1 with rfl | ⟨q,hq,rfl⟩ | ⟨q,hq,rfl⟩
 ·rw[yZ,zIj]at h2;cases h2.2
 ·exact h.tidy q (by omega) v h1
 ·rw[zLK]at h2;cases h2.2
end Go.Ex
namespace Go.Eng.Sh
open Go.Nd (Ptr yG qP Kvs Srt Str lookP putP delP mayK)
open Go.Bt Go.Dr Go.Ex
theorem mkB (k:Nat)(h:k<=1000000):zIk 5 1 1 [.int .u8 ((0:Nat):Int)] (.int .i64 ((k:Nat):Int)) (.int .i64 ((k:Nat):Int))=some (.cells (qR (cH k fun _=>0)) 5 1 false,fun A=> .slice A 0 k (2*k)):=by
 have h1:Nat.ble k k=true:=by rw[zR];exact Nat.le_refl _
 have h2:Nat.ble (k*1) 140737488355328=true:=by rw[zR];omega
 have h3:Nat.blt k 9223372036854775808=true:=by rw[zM];omega
 have hrep:rep k [AV.int .u8 ((0:Nat):Int)]=qR (cH k fun _=>0):=by
  rw[zDj];apply List.ext_getElem
  ·rw[qT,vW,List.length_replicate]
  ·intro j h1 h2;simp[qR,cH]
 have e0:zIk 5 1 1 [.int .u8 ((0:Nat):Int)] (.int .i64 (.ofNat k)) (.int .i64 (.ofNat k))=(bif Nat.ble k k&&Nat.ble (k*1) 140737488355328&&Nat.blt k 9223372036854775808 then some (.cells (rep k [.int .u8 ((0:Nat):Int)]) 5 1 false,fun A=> .slice A 0 k (2*k))else none):=rfl;show zIk 5 1 1 [.int .u8 ((0:Nat):Int)] (.int .i64 (.ofNat k)) (.int .i64 (.ofNat k))=_;rw[e0,h1,h2,h3,hrep];rfl
theorem zIc {H:AH}(hk:H.ok){A n i:Nat}{f:Nat->UInt8}(h:H.h.get A=some (.cells (qR (cH n f)) 5 1 false))(hi:i<n)(y:UInt8): ∃H',stN 1 (.ptr A i) (.int .u8 ((y.toNat:Nat):Int)) H=some (qM,H')/\H'.h.get A=some (.cells (qR (cH n fun x=>if x=i then y else f x)) 5 1 false)/\Stp (fun B=>B=A) H H':=by
 obtain⟨H',e,g,s⟩:=st1c hk h (o:=i) (x:= .int .u8 ((y.toNat:Nat):Int)) rfl (by rw[qT,vW];exact hi);refine⟨H',e, ?_,s⟩;rw[g,<-zGd];congr 2;simp[qR,List.map_set]
theorem ixB {A n cc i:Nat}(hi:i<n){z:Int}(hz:z=(i:Int))(κ:IntKind):jW 1 (.slice A 0 n cc) (.int κ z)=some (.ptr A i):=by
 have hb:Nat.blt i n=true:=by rw[zM];exact hi
 subst hz;simp only[jW,yJ κ (show(0:Int)<=(i:Int)by omega),zS,hb,cond_true,yC,Nat.mul_one,Nat.zero_add]
theorem cutB {H:AH}{A n e lo hi:Nat}{b:Str}(g:H.h.get A=some (.cells (qR b) e 1 false))(hl:b.length=n)(h1:lo<=hi)(h2:hi<=n): ∃r,jJ 1 (.slice A 0 n (2*n)) (some (.int .i64 ((lo:Nat):Int))) (some (.int .i64 ((hi:Nat):Int))) none H=some r/\dS r H=some (S ((b.drop lo).take (hi - lo))):=by
 have n1:=yJ .i64 (z:=((lo:Nat):Int)) (by omega);have n2:=yJ .i64 (z:=((hi:Nat):Int)) (by omega);simp only[zS]at n1 n2;have b1:Nat.ble lo hi=true:=by rw[zR];exact h1
 have b2:Nat.ble hi n=true:=by rw[zR];exact h2
 have b3:((2*n) % 2).beq 0=true:=by rw[Nat.mul_mod_right];rfl
 have b5:2*n / 2=n:=Nat.mul_div_cancel_left n (by omega);have hroom:yI (qR b) false 1 0 (2*n) 1=n:=by simp only[yI,b3,cond_true,b5]
 have cv: ∀o,o+(hi - lo)<=n->(b.drop o).take (hi - lo)=(b.drop lo).take (hi - lo)->dS (.slice A o (hi - lo) (2*(n - lo))) H=some (S ((b.drop lo).take (hi - lo))):=fun o ho hb=>by
  have hs:vT (qR b) o (hi - lo)=some (qR ((b.drop lo).take (hi - lo))):=by
   rw[jI _ _ _ (.inr (by rw[qT];omega)),<-hb];simp[qR,List.map_take,List.map_drop]
  simp only[dS,g,hs,vV,QC,S]
 by_cases h:n=lo
 ·have b4:Nat.beq n lo=true:=by rw[h];exact Nat.beq_refl _
  refine⟨.slice A 0 (hi - lo) (2*(n - lo)), ?_,cv 0 (by omega) (by rw[show hi - lo=0 by omega];rfl)⟩;simp[jJ,yQ,n1,n2,g,hroom,Z2,b1,b2,b3,b4,b5,yC,show Nat.blt 0 1=true from rfl]
 ·have b4:Nat.beq n lo=false:=by rw[Bool.eq_false_iff];intro h';exact h (Nat.eq_of_beq_eq_true h')
  refine⟨.slice A lo (hi - lo) (2*(n - lo)), ?_,cv lo (by omega) rfl⟩;simp[jJ,yQ,n1,n2,g,hroom,Z2,b1,b2,b3,b4,b5,yC,show Nat.blt 0 1=true from rfl]
structure Ax where
 k:Int
 i:Int
 a:Int
 n:Int
 z:Int
 s:Str
def axV (a:Ax):List AV:=[.int .u8 a.k, .int .i64 a.i, .int .i64 a.a, .int .i64 a.n, .int .i64 a.z,S a.s]
def AxR (H:AH)(v:AV)(l:List Ax):Prop:=Rw 6 H v l.length (l.flatMap axV)
theorem AxR.at {H:AH}{v:AV}{l:List Ax}(h:AxR H v l){i:Nat}(hi:i<l.length): ∃A o,(∀κ (z:Int),z=(i:Int)->jW 6 v (.int κ z)=some (.ptr A o))/\Eng.ldN 6 (.ptr A o) H=some (.agg (axV l[i]))/\Eng.ld1 (.ptr A (o+5)) H=some (S l[i].s):=by
 obtain⟨A,o,c,e,sz,g,h1,h2,h3,h4,h5⟩:=Rw.at h hi;rw[zAY axV 6 (fun _=>rfl) l i hi]at h5;have g4:c[o+5]? =some (S l[i].s):=by
  have:=congrArg (fun x=>x[5]?) h5;simpa[axV]using this
 exact⟨A,o,h1,by rw[zDV h2 h4,h5],BO h2 g4⟩
def tot:List Ax->Nat
 | []=>0
 | a::l=>a.s.length+tot l
theorem zJH (D:Dyn)(n:Nat)(hn:200<=n){H:AH}{v:AV}{l:List Ax}(hv:AxR H v l): ∃b,f5 D n [v] H=some (.bool b,H)/\(b=false->l.length<=25/\tot l<=9000/\ ∀a∈l,a.s.length<=3000):=by
 have hln:lnSl v=some (.int .i64 ((l.length:Nat):Int)):=hv.lnSl;by_cases h100:25<l.length
 ·have hI:((25:Nat):Int)< ((l.length:Nat):Int):=by omega
  refine⟨true, ?_,fun h=>by cases h⟩;simp(maxSteps:=999999)(disch:=omega) only[f5,eZ,hln,hI]
 ·have hI: ¬((25:Nat):Int)< ((l.length:Nat):Int):=by omega
  have lp: ∀(rr i kf c:Nat),i+rr=l.length->rr<kf->c<=3000*i-> ∃b,jb 0 (qX kf (zK8 D n) [v, .int .i64 ((c:Nat):Int), .int .i64 ((i:Nat):Int)] H) (f5b1 D n)=some (.ret (.bool b),H)/\(b=false->c+tot (l.drop i)<=9000/\ ∀a∈l.drop i,a.s.length<=3000):=by
   intro rr
   induction rr with
   | zero=>
    intro i kf c he hk hc;obtain⟨k,rfl⟩: ∃k,kf=k+1:=⟨kf - 1,by omega⟩;have hge: ¬((i:Nat):Int)< ((l.length:Nat):Int):=by omega
    rw[yE (i:=0) (vs':=[.int .i64 ((c:Nat):Int)]) (H':=H) (by simp(maxSteps:=999999)(disch:=omega) only[zK8,eZ,hln,hge])];by_cases h9:9000<c
    ·have h9I:((9000:Nat):Int)< ((c:Nat):Int):=by omega
     refine⟨true, ?_,fun h=>by cases h⟩;simp(maxSteps:=999999)(disch:=omega) only[jb,Nat.beq_refl,cond_true,f5b1,eZ,h9I]
    ·have h9I: ¬((9000:Nat):Int)< ((c:Nat):Int):=by omega
     refine⟨false, ?_,fun _=>by rw[zO (by omega)];exact⟨by simp only[tot];omega,fun a ha=>by cases ha⟩⟩;simp(maxSteps:=999999)(disch:=omega) only[jb,Nat.beq_refl,cond_true,f5b1,eZ,h9I]
   | succ rr ih=>
    intro i kf c he hk hc;obtain⟨k,rfl⟩: ∃k,kf=k+1:=⟨kf - 1,by omega⟩;have hi:i<l.length:=by omega
    have hiI:((i:Nat):Int)< ((l.length:Nat):Int):=by omega
    have hi1:((i:Nat):Int)+((1:Nat):Int)=((i+1:Nat):Int):=by omega
    obtain⟨A,o,i1,_,i4⟩:=hv.at hi;by_cases hb:3000<l[i].s.length
    ·have hbI:((3000:Nat):Int)< ((l[i].s.length:Nat):Int):=by omega
     refine⟨true, ?_,fun h=>by cases h⟩;have body:zK8 D n [v, .int .i64 ((c:Nat):Int), .int .i64 ((i:Nat):Int)] H=some (.ret (.bool true),H):=by
      simp(maxSteps:=999999)(disch:=omega) only[zK8,eZ,hln,hiI,i1,i4,jF,hbI]
     rw[hJ body];rfl
    ·have hbI: ¬((3000:Nat):Int)< ((l[i].s.length:Nat):Int):=by omega
     have hci:((c:Nat):Int)+((l[i].s.length:Nat):Int)=((c+l[i].s.length:Nat):Int):=by omega
     obtain⟨b,e,h⟩:=ih (i+1) k (c+l[i].s.length) (by omega) (by omega) (by omega);refine⟨b, ?_,fun hb'=> ?_⟩
     ·have body:zK8 D n [v, .int .i64 ((c:Nat):Int), .int .i64 ((i:Nat):Int)] H=some (.norm [v, .int .i64 ((c+l[i].s.length:Nat):Int), .int .i64 ((i+1:Nat):Int)],H):=by
       simp(maxSteps:=999999)(disch:=omega) only[zK8,eZ,hln,hiI,i1,i4,jF,hbI,hi1,hci]
      rw[jA body,e]
     ·obtain⟨h1,h2⟩:=h hb';rw[zK hi];refine⟨by simp only[tot];omega,fun a ha=> ?_⟩;rcases List.mem_cons.1 ha with rfl | ha
      ·omega
      ·exact h2 a ha
  obtain⟨b,e,h⟩:=lp l.length 0 n 0 (by omega) (by omega) (by omega);refine⟨b, ?_,fun hb=>⟨by omega,by have:=(h hb).1;rw[List.drop_zero]at this;omega,(h hb).2⟩⟩;simp(maxSteps:=999999)(disch:=omega) only[f5,eZ,hln,hI,e]
theorem zBA (D:Dyn)(n:Nat){H:AH}(hk:H.ok){At i:Nat}(hi:1<=i)(hi2:i<=2147483647){a:Nat}(tx:Str)(h:32768<a+tx.length): ∃H',f9 D n [.ptr At 0, .int .i64 ((i:Nat):Int), .int .i64 ((a:Nat):Int),S tx] H=some (.int .i64 ((40:Nat):Int),H')/\Prs H H':=by
 obtain⟨H1,X4,b1,p1,g1,m1,w1⟩:=box hk (.cells [.ptr At 0] 25 1 false);obtain⟨H2,X5,b2,p2,g2,m2,w2⟩:=box p1.ok (.cells [.int .i64 ((i:Nat):Int)] 3 1 false);obtain⟨H3,X6,b3,p3,g3,m3,w3⟩:=box p2.ok (.cells [.int .i64 ((a:Nat):Int)] 3 1 false);obtain⟨H4,X7,b4,p4,g4,m4,w4⟩:=box p3.ok (.cells [S tx] 9 1 false);have P4:=((p1.trans p2).trans p3).trans p4;have x4:Box H4 X4 (.ptr At 0):=⟨_,Prs.get ((p2.trans p3).trans p4) p1.ok g1⟩;have x5:Box H4 X5 (.int .i64 ((i:Nat):Int)):=⟨_,Prs.get (p3.trans p4) p2.ok g2⟩;have x6:Box H4 X6 (.int .i64 ((a:Nat):Int)):=⟨_,Prs.get p4 p3.ok g3⟩;have x7:Box H4 X7 (S tx):=⟨_,g4⟩;have hc: ∀z:Int,qS (.int .i64 z)=[.int .i64 z]:=fun z=>rfl
 have hcp:qS (.ptr At 0)=[.ptr At 0]:=rfl;have hcS:qS (S tx)=[S tx]:=rfl;have i1:=Z3 D n (H:=H4) hi hi2;have t1: ¬((a:Nat):Int)< ((0:Nat):Int):=by omega
 refine⟨H4, ?_,P4⟩;by_cases h2:32768<a
 ·have t2:((32768:Nat):Int)< ((a:Nat):Int):=by omega
  simp(maxSteps:=999999)(disch:=omega) only[f9,eZ,hc,hcp,hcS,b1,b2,b3,b4,x4.ld,cq,x5.ld,i1,x6.ld,t1,t2]
 ·have t2: ¬((32768:Nat):Int)< ((a:Nat):Int):=by omega
  have t3:((32768:Nat):Int) - ((a:Nat):Int)=((32768 - a:Nat):Int):=by omega
  have t4:((32768 - a:Nat):Int)< ((tx.length:Nat):Int):=by omega
  simp(maxSteps:=999999)(disch:=omega) only[f9,eZ,hc,hcp,hcS,b1,b2,b3,b4,x4.ld,cq,x5.ld,i1,x6.ld,t1,t2,x7.ld,jF,t3,t4]
set_option maxRecDepth 20000
def Buf (H:AH)(A:Nat)(f:Nat->UInt8):Prop:=H.h.get A=some (.cells (qR (cH 32768 f)) 5 1 false)
theorem Buf.bx {H:AH}{A:Nat}{f:Nat->UInt8}(h:Buf H A f): ∃o,H.h.get A=some o/\Bx o:=by
 refine⟨_,h, ?_⟩;have hl:(qR (cH 32768 f)).length=32768:=by rw[qT,vW]
 cases hb:qR (cH 32768 f)with
 | nil=>rw[hb]at hl;cases hl
 | cons x r=>exact .inl ⟨_,_,_,_,rfl⟩
theorem Buf.ext {H:AH}{A:Nat}{f g:Nat->UInt8}(h:Buf H A f)(e: ∀x,x<32768->f x=g x):Buf H A g:=by
 rw[Buf]at h⊢;rw[h,zGe e]
theorem zCp (D:Dyn)(n:Nat){A8 A10 a:Nat}{ac:Ax}{x0 x1 x2 x7 x8 x9:AV}(hx8:x8= .slice A8 0 32768 (2*32768))(hne:A8≠A10)(haa:ac.a=((a:Nat):Int))(ha:a+ac.s.length<=32768):
  ∀(rr k kf:Nat) {H:AH} {f:Nat->UInt8},k+rr=ac.s.length->rr<kf->H.ok->Buf H A8 f->H.h.get A10=some (.cells (axV ac) 29 1 false)->
   ∃H',qX kf (zEJ D n) [x0,x1,x2,x7,x8,x9, .ptr A10 0, .int .i64 ((k:Nat):Int)] H=some (.exit 2 [x0,x1,x2,x7,x8,x9, .ptr A10 0],H')/\Buf H' A8 (fun x=>if a+k<=x/\x<a+ac.s.length then ac.s.getD (x - a) 0 else f x)/\Stp (fun B=>B=A8) H H'
 | _,_,0,_,_,_,hk,_,_,_=>by omega
 | rr,k,kf+1,H,f,hr,hkf,hk,hb,g=>by
  have r5:Eng.ld1 (.ptr A10 5) H=some (S ac.s):=by rw[qL g];rfl
  have r2:Eng.ld1 (.ptr A10 2) H=some (.int .i64 ((a:Nat):Int)):=by rw[qL g,<-haa];rfl
  by_cases hi:k<ac.s.length
  ·have hiI:((k:Nat):Int)< ((ac.s.length:Nat):Int):=by omega
   have hi1:((k:Nat):Int)+((1:Nat):Int)=((k+1:Nat):Int):=by omega
   have hak:((a:Nat):Int)+((k:Nat):Int)=((a+k:Nat):Int):=by omega
   obtain⟨H1,e1,g1,s1⟩:=zIc hk hb (i:=a+k) (by omega) ac.s[k];have hix:jW 1 x8 (.int .i64 ((a+k:Nat):Int))=some (.ptr A8 (a+k)):=by rw[hx8];exact ixB (by omega) rfl .i64
   have hst:=vM ac.s .i64 hi;have g10:H1.h.get A10=some (.cells (axV ac) 29 1 false):=by rw[s1.keep _ (hk.lt g) (fun e=>hne e.symm)];exact g
   obtain⟨H2,e2,g2,s2⟩:=zCp D n hx8 hne haa ha (rr - 1) (k+1) kf (by omega) (by omega) s1.ok g1 g10;refine⟨H2, ?_,g2.ext fun x hx=> ?_,s1.trans s2⟩
   ·have body:zEJ D n [x0,x1,x2,x7,x8,x9, .ptr A10 0, .int .i64 ((k:Nat):Int)] H=some (.norm [x0,x1,x2,x7,x8,x9, .ptr A10 0, .int .i64 ((k+1:Nat):Int)],H1):=by
     simp(maxSteps:=999999)(disch:=omega) only[zEJ,eZ,r5,r2,jF,hiI,hak,hst,hix,e1,hi1]
    rw[jA body,e2]
   ·by_cases h1:a+(k+1)<=x/\x<a+ac.s.length
    ·rw[if_pos h1,if_pos (by omega)]
    ·rw[if_neg h1];by_cases h2:x=a+k
     ·rw[if_pos h2,if_pos (by omega),h2,show a+k - a=k by omega,zG,zB hi];rfl
     ·rw[if_neg h2,if_neg (by omega)]
  ·have hiI: ¬((k:Nat):Int)< ((ac.s.length:Nat):Int):=by omega
   refine⟨H,yE ?_,hb.ext fun x hx=>by rw[if_neg (by omega)],Stp.refl hk⟩;simp(maxSteps:=999999)(disch:=omega) only[zEJ,eZ,r5,jF,hiI]
theorem zCj (D:Dyn)(n:Nat){A8:Nat}{x0 x1 x2 x7 x8 x9:AV}(hx8:x8= .slice A8 0 32768 (2*32768)):
  ∀(rr k kf:Nat) {H:AH} {f:Nat->UInt8},rr=32768 - k->rr<kf->H.ok->Buf H A8 f->
   ∃H',qX kf (zEI D n) [x0,x1,x2,x7,x8,x9, .int .i64 ((k:Nat):Int)] H=some (.exit 4 [x0,x1,x2,x7,x8,x9],H')/\Buf H' A8 (fun x=>if x<k then f x else 0)/\Stp (fun B=>B=A8) H H'
 | _,_,0,_,_,_,hk,_,_=>by omega
 | rr,k,kf+1,H,f,hr,hkf,hk,hb=>by
  have hln:lnSl x8=some (.int .i64 ((32768:Nat):Int)):=by rw[hx8];rfl
  by_cases hi:k<32768
  ·have hiI:((k:Nat):Int)< ((32768:Nat):Int):=by omega
   have hi1:((k:Nat):Int)+((1:Nat):Int)=((k+1:Nat):Int):=by omega
   obtain⟨H1,e1,g1,s1⟩:=zIc hk hb (i:=k) hi 0;have e1':stN 1 (.ptr A8 k) (.int .u8 ((0:Nat):Int)) H=some (qM,H1):=e1;have hix:jW 1 x8 (.int .i64 ((k:Nat):Int))=some (.ptr A8 k):=by rw[hx8];exact ixB hi rfl .i64
   obtain⟨H2,e2,g2,s2⟩:=zCj D n hx8 (rr - 1) (k+1) kf (by omega) (by omega) s1.ok g1;refine⟨H2, ?_,g2.ext fun x hx=> ?_,s1.trans s2⟩
   ·have body:zEI D n [x0,x1,x2,x7,x8,x9, .int .i64 ((k:Nat):Int)] H=some (.norm [x0,x1,x2,x7,x8,x9, .int .i64 ((k+1:Nat):Int)],H1):=by
     simp(maxSteps:=999999)(disch:=omega) only[zEI,eZ,hln,hiI,hix,e1',hi1]
    rw[jA body,e2]
   ·by_cases h1:x<k
    ·rw[if_pos (by omega),if_neg (by omega),if_pos h1]
    ·by_cases h2:x=k
     ·rw[if_pos (by omega),if_pos h2,if_neg h1]
     ·rw[if_neg (by omega),if_neg h1]
  ·have hiI: ¬((k:Nat):Int)< ((32768:Nat):Int):=by omega
   refine⟨H,yE ?_,hb.ext fun x hx=>by rw[if_pos (by omega)],Stp.refl hk⟩;simp(maxSteps:=999999)(disch:=omega) only[zEI,eZ,hln,hiI]
structure FS (Hi H:AH)(At M A8:Nat)(kvs kv:Kvs)(f:Nat->UInt8)(L:Nat):Prop where
 P:Prs Hi H
 t:yP H At M L kv
 fk:FK kvs kv f
 buf:Buf H A8 f
 lo:Hi.next<=At/\Hi.next<=M/\Hi.next<=A8
 na:A8≠At
theorem Buf.nm {H:AH}{A8 At M L:Nat}{kv:Kvs}{f:Nat->UInt8}(h:Buf H A8 f)(t:yP H At M L kv):A8≠M:=fun e=>by
 obtain⟨es,g⟩:=t.gm;rw[Buf,e,g]at h;cases h
theorem Buf.lt {H:AH}{A8:Nat}{f:Nat->UInt8}(h:Buf H A8 f)(hk:H.ok):A8<H.next:=hk.lt h
theorem FS.up {Hi H:AH}{At M A8:Nat}{kvs kv:Kvs}{f:Nat->UInt8}{L L':Nat}(h:FS Hi H At M A8 kvs kv f L)(hL:L<=L'):FS Hi H At M A8 kvs kv f L':=⟨h.P,h.t.up hL,h.fk,h.buf,h.lo,h.na⟩
theorem FS.prs {Hi H H':AH}{At M A8:Nat}{kvs kv:Kvs}{f:Nat->UInt8}{L:Nat}(h:FS Hi H At M A8 kvs kv f L)(p:Prs H H'):FS Hi H' At M A8 kvs kv f L:=
 ⟨h.P.trans p,h.t.prs p,h.fk,Prs.get p h.P.ok h.buf,h.lo,h.na⟩
theorem FS.tree {Hi H H':AH}{At M A8:Nat}{kvs kv kv':Kvs}{f:Nat->UInt8}{L L':Nat}(h:FS Hi H At M A8 kvs kv f L)(t:yP H' At M L' kv')(s:Stp (fun B=>B=At\/B=M) H H'):Prs Hi H'/\Buf H' A8 f:=
 ⟨h.P.fresh s fun B hB=>by have:=h.lo;omega,by
  have n1:=h.na;have n2:=h.buf.nm h.t;rw[Buf,s.keep _ (h.buf.lt h.P.ok) (by omega)];exact h.buf⟩
theorem FS.bytes {Hi H H':AH}{At M A8:Nat}{kvs kv:Kvs}{f g:Nat->UInt8}{L:Nat}(P:Prs Hi H)(t:yP H At M L kv)(fk:FK kvs kv g)(b:Buf H A8 f)(lo:Hi.next<=At/\Hi.next<=M/\Hi.next<=A8)(na:A8≠At)(s:Stp (fun B=>B=A8) H H')(b':Buf H' A8 g):FS Hi H' At M A8 kvs kv g L:=
 ⟨P.fresh s fun B hB=>by omega,t.free s fun B _ e=>by subst e;exact⟨na,b.bx⟩,fk,b',lo,na⟩
theorem phC (m:Nat)(hm:700000000<=m){Hi H:AH}{At M A8 A10 L i:Nat}{kvs kv:Kvs}{f:Nat->UInt8}{ac:Ax}{x0 x1 x2 x8:AV}(h:FS Hi H At M A8 kvs kv f L)(hx8:x8= .slice A8 0 32768 (2*32768))(g:H.h.get A10=some (.cells (axV ac) 29 1 false))(ne:A10≠At/\A10≠M/\A10≠A8)(hL:L<=900000)(hkv:kv.length<=130)(hi:i<=100)(haa:ac.a<9223372036854775808):
  ∃H' kv' f',zC2 (dy (m+1)) (m+1) [x0,x1,x2, .ptr At 0,x8, .int .i64 ((i:Nat):Int), .ptr A10 0] H=some (.norm [x0,x1,x2, .ptr At 0,x8, .int .i64 ((i+1:Nat):Int)],H')/\FS Hi H' At M A8 kvs kv' f' (L+26000)/\kv'.length<=kv.length:=by
 have r0:Eng.ld1 (.ptr A10 0) H=some (.int .u8 ac.k):=by rw[qL g];rfl
 have r2:Eng.ld1 (.ptr A10 2) H=some (.int .i64 ac.a):=by rw[qL g];rfl
 have hi1:((i:Nat):Int)+((1:Nat):Int)=((i+1:Nat):Int):=by omega
 by_cases hk1:ac.k=((1:Nat):Int)
 ·by_cases hn:ac.a<0
  ·obtain⟨H1,e1,p1⟩:=zG3 (dy (m+1)) (m+1) h.P.ok (At:=At) hn;have h10: ¬((1:Nat):Int)=((0:Nat):Int):=by omega
   refine⟨H1,kv,f, ?_,(h.prs p1).up (by omega),Nat.le_refl _⟩;simp(maxSteps:=999999)(disch:=omega) only[zC2,zHn,eZ,r0,hk1,r2,e1,h10,hi1]
  ·obtain⟨a,ha⟩: ∃a:Nat,ac.a=((a:Nat):Int):=⟨ac.a.toNat,by omega⟩;obtain⟨H1,kv1,e1,t1,c1,s1⟩:=zIT m hm (a:=a) h.t h.fk.srt h.fk.shp (by omega) (by omega) (by omega);obtain⟨P1,b1⟩:=h.tree t1 s1;rw[<-ha]at e1;obtain⟨H2,e2,b2,s2⟩:=zCj (dy (m+1)) (m+1) (x0:=x0) (x1:=x1) (x2:=x2) (x7:= .ptr At 0) (x9:= .int .i64 ((i:Nat):Int)) hx8 (32768 - a) a (m+1) rfl (by omega) s1.ok b1;rw[<-ha]at e2;have g1:H1.h.get A10=some (.cells (axV ac) 29 1 false):=by rw[s1.keep _ (h.P.ok.lt g) (by omega)];exact g
   have r21:Eng.ld1 (.ptr A10 2) H1=some (.int .i64 ac.a):=by rw[qL g1];rfl
   refine⟨H2,kv1,_, ?_,FS.bytes P1 (t1.up (by omega)) (h.fk.cut c1) b1 h.lo h.na s2 b2,c1.len⟩;simp(maxSteps:=999999)(disch:=omega) only[zC2,zHn,zMp,eZ,r0,hk1,r2,e1,r21,e2,hi1]
 ·refine⟨H,kv,f, ?_,h.up (by omega),Nat.le_refl _⟩;simp(maxSteps:=999999)(disch:=omega) only[zC2,zHn,eZ,r0,hk1,hi1]
theorem phW (m:Nat)(hm:700000000<=m){Hi H:AH}{At M A8 L i:Nat}{kvs kv:Kvs}{f:Nat->UInt8}{l:List Ax}{x0 x1 x2 x8:AV}(hx:AxR Hi x0 l)(h:FS Hi H At M A8 kvs kv f L)(hx8:x8= .slice A8 0 32768 (2*32768))(hL:L<=900000)(hkv:kv.length<=130)(hi:i<l.length)(hs:l[i].s.length<=3000):
  ∃H' A10 kv' f',VN (dy (m+1)) (m+1) [x0,x1,x2, .ptr At 0,x8, .int .i64 ((i:Nat):Int)] H=zC2 (dy (m+1)) (m+1) [x0,x1,x2, .ptr At 0,x8, .int .i64 ((i:Nat):Int), .ptr A10 0] H'/\FS Hi H' At M A8 kvs kv' f' (L+200*(l[i].s.length / 128+2))/\kv'.length<=kv.length+l[i].s.length / 128+2/\H'.h.get A10=some (.cells (axV l[i]) 29 1 false)/\A10≠At/\A10≠M/\A10≠A8:=by
 have hx':AxR H x0 l:=Rw.stp hx h.P fun _ _ x=>x
 obtain⟨A,o,i1,i2,_⟩:=hx'.at hi;obtain⟨ac,hac⟩: ∃ac,ac=l[i]:=⟨_,rfl⟩;rw[<-hac]at i2 hs⊢;have hln:lnSl x0=some (.int .i64 ((l.length:Nat):Int)):=hx.lnSl;have hiI:((i:Nat):Int)< ((l.length:Nat):Int):=by omega
 have lt:=h.t.lt;have l8:=h.buf.lt h.P.ok;obtain⟨H1,A10,b1,p1,g1,m1,n1⟩:=box h.P.ok (.cells [.int .u8 ((0:Nat):Int), .int .i64 ((0:Nat):Int), .int .i64 ((0:Nat):Int), .int .i64 ((0:Nat):Int), .int .i64 ((0:Nat):Int),S []] 29 1 false);obtain⟨H2,e2,g2,s2,n2⟩:=yA p1.ok g1 (l':=axV ac) rfl rfl;have e2':stN 6 (.ptr A10 0) (.agg (axV ac)) H1=some (qM,H2):=e2;have P2:Prs H H2:=p1.fresh s2 fun B hB=>by omega
 have N1:=p1.next;have N2:=s2.next
 have h2:=h.prs P2;have hS:(AV.str 0 0)=S []:=rfl;have r0:Eng.ld1 (.ptr A10 0) H2=some (.int .u8 ac.k):=by rw[qL g2];rfl
 have r2:Eng.ld1 (.ptr A10 2) H2=some (.int .i64 ac.a):=by rw[qL g2];rfl
 have r5:Eng.ld1 (.ptr A10 5) H2=some (S ac.s):=by rw[qL g2];rfl
 by_cases hk0:ac.k=((0:Nat):Int)
 ·by_cases hn:ac.a<0
  ·obtain⟨H3,e3,p3⟩:=zBz (dy (m+1)) (m+1) h2.P.ok (At:=At) (i:=7) (by omega) (by omega) hn ac.s;have h10: ¬((1:Nat):Int)=((0:Nat):Int):=by omega
   refine⟨H3,A10,kv,f, ?_,(h2.prs p3).up (by omega),by omega,Prs.get p3 h2.P.ok g2,by omega,by omega,by omega⟩;simp(maxSteps:=999999)(disch:=omega) only[VN,eZ,hln,hiI,i1,i2,hS,b1,e2',r0,hk0,r2,r5,e3,h10]
  ·obtain⟨a,ha⟩: ∃a:Nat,ac.a=((a:Nat):Int):=⟨ac.a.toNat,by omega⟩;by_cases hb:32768<a+ac.s.length
   ·obtain⟨H3,e3,p3⟩:=zBA (dy (m+1)) (m+1) h2.P.ok (At:=At) (i:=7) (by omega) (by omega) ac.s hb;rw[<-ha]at e3;have h10: ¬((40:Nat):Int)=((0:Nat):Int):=by omega
    refine⟨H3,A10,kv,f, ?_,(h2.prs p3).up (by omega),by omega,Prs.get p3 h2.P.ok g2,by omega,by omega,by omega⟩;simp(maxSteps:=999999)(disch:=omega) only[VN,eZ,hln,hiI,i1,i2,hS,b1,e2',r0,hk0,r2,r5,e3,h10]
   ·obtain⟨m',hm'⟩: ∃m',m=m'+2:=⟨m - 2,by omega⟩;obtain⟨H3,kv3,e3,t3,ws,s3⟩:=WT m' (m+1) (by omega) h2.t h2.fk.srt (i:=7) (a:=a) (tx:=ac.s) (by omega) (by omega) (by omega) (by omega) (by omega);have em:m'+3=m+1:=by omega
    rw[em,<-ha]at e3;obtain⟨P3,b3⟩:=h2.tree t3 s3;have g3:H3.h.get A10=some (.cells (axV ac) 29 1 false):=by rw[s3.keep _ (by omega) (by omega)];exact g2
    obtain⟨H4,e4,b4,s4⟩:=zCp (dy (m+1)) (m+1) (x0:=x0) (x1:=x1) (x2:=x2) (x7:= .ptr At 0) (x9:= .int .i64 ((i:Nat):Int)) hx8 (by omega) ha (by omega) ac.s.length 0 (m+1) (by omega) (by omega) s3.ok b3 g3;have hp:=zAA a ac.s.length ac.s.length;have hl:=ws.len;refine⟨H4,A10,kv3,_, ?_,FS.bytes P3 (t3.up (by omega)) (h2.fk.write ws) b3 h.lo h.na s4 b4,by omega,by rw[s4.keep _ (s3.ok.lt g3) (by omega)];exact g3,by omega,by omega,by omega⟩;simp(maxSteps:=999999)(disch:=omega) only[VN,zMq,eZ,hln,hiI,i1,i2,hS,b1,e2',r0,hk0,r2,r5,e3,e4]
 ·refine⟨H2,A10,kv,f, ?_,h2.up (by omega),by omega,g2,by omega,by omega,by omega⟩;simp(maxSteps:=999999)(disch:=omega) only[VN,eZ,hln,hiI,i1,i2,hS,b1,e2',r0,hk0]
theorem zBt (m:Nat)(hm:700000000<=m){Hi:AH}{At M A8:Nat}{kvs:Kvs}{l:List Ax}{x0 x1 x2 x8:AV}(hx:AxR Hi x0 l)(hx8:x8= .slice A8 0 32768 (2*32768))(hl:l.length<=25)(hs: ∀a∈l,a.s.length<=3000)(haa: ∀a∈l,a.a<9223372036854775808):
  ∀(rr i kf B:Nat) {H:AH} {kv:Kvs} {f:Nat->UInt8},i+rr=l.length->rr<kf->B+tot (l.drop i)<=9000->FS Hi H At M A8 kvs kv f (2000+200*(2*i+B / 128)+26000*i)->kv.length<=5+2*i+B / 128->
   ∃H' kv' f',qX kf (VN (dy (m+1)) (m+1)) [x0,x1,x2, .ptr At 0,x8, .int .i64 ((i:Nat):Int)] H=some (.exit 0 [x1,x2, .ptr At 0,x8],H')/\FS Hi H' At M A8 kvs kv' f' 1000000/\kv'.length<=200
 | _,_,0,_,_,_,_,_,hk,_,_,_=>by omega
 | rr,i,kf+1,B,H,kv,f,hr,hkf,hB,h,hkv=>by
  by_cases hi:i<l.length
  ·have hd:=zK hi;have ht:tot (l.drop i)=l[i].s.length+tot (l.drop (i+1)):=by rw[hd];rfl
   obtain⟨H1,A10,kv1,f1,e1,h1,k1,g1,ne⟩:=phW m hm (x1:=x1) (x2:=x2) hx h hx8 (by omega) (by omega) hi (hs _ (zT hi));obtain⟨H2,kv2,f2,e2,h2,k2⟩:=phC m hm (x0:=x0) (x1:=x1) (x2:=x2) h1 hx8 g1 ne (by omega) (by omega) (i:=i) (by omega) (haa _ (zT hi));obtain⟨H3,kv3,f3,e3,h3,k3⟩:=zBt m hm (x1:=x1) (x2:=x2) hx hx8 hl hs haa (rr - 1) (i+1) kf (B+l[i].s.length) (by omega) (by omega) (by omega) (h2.up (by omega)) (by omega);exact⟨H3,kv3,f3,by rw[jA (e1.trans e2),e3],h3,k3⟩
  ·have hiI: ¬((i:Nat):Int)< ((l.length:Nat):Int):=by omega
   have hln:lnSl x0=some (.int .i64 ((l.length:Nat):Int)):=hx.lnSl;refine⟨H,kv,f,yE ?_,h.up (by omega),by omega⟩;simp(maxSteps:=999999)(disch:=omega) only[VN,eZ,hln,hiI]
set_option maxRecDepth 20000
theorem zDv (D:Dyn)(n:Nat){H:AH}{w:AV}{l:Kvs}(hw:Rw 2 H w l.length (l.flatMap prV))(hp: ∀x∈l,x.2.length<=128/\ ∃h:x.2≠[],x.2.getLast h≠0)(hl:l.length<=1000000)(x14:AV):
  ∀(rr i kf:Nat),i+rr=l.length->rr<kf->qX kf (zEH D n) [x14,w, .int .i64 ((i:Nat):Int)] H=some (.exit 6 [x14],H)
 | _,_,0,_,hk=>by omega
 | rr,i,kf+1,hr,hkf=>by
  have hln:lnSl w=some (.int .i64 ((l.length:Nat):Int)):=hw.lnSl;by_cases hi:i<l.length
  ·have hiI:((i:Nat):Int)< ((l.length:Nat):Int):=by omega
   have hi1:((i:Nat):Int)+((1:Nat):Int)=((i+1:Nat):Int):=by omega
   obtain⟨A,o,i1,i2⟩:=zLe prV 2 (fun _=>rfl) hw hi;have r1:=i2 1 (S l[i].2) rfl;obtain⟨h1,h2,h3⟩:=hp _ (zT hi);obtain⟨v,hv⟩: ∃v,v=l[i].2:=⟨_,rfl⟩;rw[<-hv]at r1 h1;have h2':v≠[]:=by rw[hv];exact h2
   have h3':v.getLast h2'≠0:=by
    have:v.getLast h2'=l[i].2.getLast h2:=by congr 1
    rw[this];exact h3
   have hS:(AV.str 0 0)=S []:=rfl;have hvl:0<v.length:=List.length_pos_iff.2 h2';have t1: ¬((128:Nat):Int)< ((v.length:Nat):Int):=by omega
   have t2:((v.length:Nat):Int) - ((1:Nat):Int)=((v.length - 1:Nat):Int):=by omega
   have hix:=vM v .i64 (i:=v.length - 1) (by omega);have hlast:v[v.length - 1]'(by omega)=v.getLast h2':=(List.getLast_eq_getElem h2').symm;have t3: ¬(((v[v.length - 1]'(by omega)).toNat:Nat):Int)=((0:Nat):Int):=by
    rw[hlast];intro e;have:(v.getLast h2').toNat=0:=by omega
    exact h3' (UInt8.toNat_inj.1 this)
   have body:zEH D n [x14,w, .int .i64 ((i:Nat):Int)] H=some (.norm [x14,w, .int .i64 ((i+1:Nat):Int)],H):=by
    simp(maxSteps:=999999)(disch:=omega) only[zEH,eZ,hln,hiI,i1,r1,hS,kB,h2',jF,t1,t2,hix,t3,hi1]
   rw[jA body];exact zDv D n hw hp hl x14 (rr - 1) (i+1) kf (by omega) (by omega)
  ·have hiI: ¬((i:Nat):Int)< ((l.length:Nat):Int):=by omega
   refine yE ?_;simp(maxSteps:=999999)(disch:=omega) only[zEH,eZ,hln,hiI]
theorem zKi (m:Nat)(hm:700000000<=m){Hi H:AH}{At M A8:Nat}{kvs kv:Kvs}{f:Nat->UInt8}(h:FS Hi H At M A8 kvs kv f 1000000)(hkv:kv.length<=200)(kb:KvB kvs):
  ∃H',zHm (dy (m+1)) (m+1) [.ptr At 0] H=some (.ret (.bool true),H')/\Prs H H':=by
 obtain⟨H1,e1,p1⟩:=zEh (m+1) (m+1) (by omega) Ex.oth h.t (by omega) (by omega);have hmk:mayK Ex.oth=true:=by decide
 rw[hmk,if_pos rfl,h.fk.oth1 kb]at e1;have e1':f21 (dy (m+1)) (m+1) [.ptr At 0,S Ex.oth] H=some (.tuple [S vlu, .int .i64 ((0:Nat):Int)],H1):=e1;obtain⟨m',hm'⟩: ∃m',m=m'+1:=⟨m - 1,by omega⟩;have em:m'+2=m+1:=by omega
 have h1:=h.prs p1;obtain⟨H2,e2,p2⟩:=JY m' (m+1) (by omega) (i:=8) (size:=7) (a:=0) (k:=9) h1.t (by omega) (by omega) (by omega) (by omega) (by omega);rw[em,show min 9 (7 - 0)=7 by decide,h.fk.byt8 kb]at e2;have h2:=h1.prs p2;obtain⟨H3,e3,p3⟩:=dG (dy (m+1)) (m+1) h2.P.ok 7 0;obtain⟨H4,e4,p4⟩:=dG (dy (m+1)) (m+1) p3.ok 8 0;have h4:=(h2.prs p3).prs p4;obtain⟨H5,w,e5,p5,g5,_⟩:=XT m hm h4.t (by omega) (by omega) (yZ 7 0) (yZ 8 0) (most:=9999) (by omega);have hbl:=QX (yZ 7 0) (yZ 8 0) kv;have htk:(yX (yZ 7 0) (yZ 8 0) kv).take 9999=yX (yZ 7 0) (yZ 8 0) kv:=zL (by omega);rw[htk]at g5;have lp:=zDv (dy (m+1)) (m+1) g5.row (fun x hx=>h.fk.pieces x.1 x.2 hx) (by omega) (.int .i64 ((0:Nat):Int)) (yX (yZ 7 0) (yZ 8 0) kv).length 0 (m+1) (by omega) (by omega);refine⟨H5, ?_,(((p1.trans p2).trans p3).trans p4).trans p5⟩;have s1:AV.str 5 491327616111=S Ex.oth:=rfl;have s2:AV.str 5 435761734006=S vlu:=rfl;have s3:AV.str 7 28550371727114240=S zDQ:=rfl;have t1: ¬(vlu≠vlu):=fun e=>e rfl
 have t2: ¬(zDQ≠zDQ):=fun e=>e rfl
 have t00: ¬(((0:Nat):Int)≠((0:Nat):Int)):=by omega
 simp(maxSteps:=999999)(disch:=omega) only[zHm,zMo,eZ,s1,s2,s3,e1',qK,nth,e2,jC,t1,t2,t00,e3,e4,e5,lp]
theorem zKj (m:Nat)(hm:700000000<=m){Hi H:AH}{At M A8:Nat}{kvs kv:Kvs}{f:Nat->UInt8}{x8:AV}(h:FS Hi H At M A8 kvs kv f 1000000)(hx8:x8= .slice A8 0 32768 (2*32768))(hkv:kv.length<=200)(kb:KvB kvs)(a k:Int):
  ∃H',J7 (dy (m+1)) (m+1) [.int .i64 a, .int .i64 k, .ptr At 0,x8] H=some (.ret (.bool true),H')/\Prs H H':=by
 obtain⟨m',hm'⟩: ∃m',m=m'+1:=⟨m - 1,by omega⟩;have em:m'+2=m+1:=by omega
 have t00: ¬(((0:Nat):Int)≠((0:Nat):Int)):=by omega
 obtain⟨H1,e1,p1⟩:=JY m' (m+1) (by omega) (i:=7) (size:=32768) (a:=0) (k:=32768) h.t (by omega) (by omega) (by omega) (by omega) (by omega);have hmn:min 32768 (32768 - 0)=32768:=by omega
 rw[em,hmn,UD h.fk.byt]at e1;have h1:=h.prs p1;have hcv:dS x8 H1=some (S (cH 32768 f)):=by rw[hx8];exact UE H1 h1.P.ok h1.buf (vW _ _)
 have tw: ¬(cH 32768 f≠cH 32768 f):=fun e=>e rfl
 have fin: ∀ {Hx:AH},Prs H1 Hx-> ∃H',zHm (dy (m+1)) (m+1) [.ptr At 0] Hx=some (.ret (.bool true),H')/\Prs H H':=fun {Hx} px=>by
  obtain⟨H',e,p⟩:=zKi m hm (h1.prs px) hkv kb;exact⟨H',e,(p1.trans px).trans p⟩
 have pr:Prs H1 H1:=⟨h1.P.ok,Nat.le_refl _,fun _ _ _=>rfl⟩;by_cases c1:((0:Nat):Int)<=a
 ·by_cases c2:a<=((32768:Nat):Int)
  ·by_cases c3:((0:Nat):Int)<=k
   ·obtain⟨a',rfl⟩: ∃a':Nat,a=(a':Int):=⟨a.toNat,by omega⟩;obtain⟨k',rfl⟩: ∃k':Nat,k=(k':Int):=⟨k.toNat,by omega⟩;obtain⟨H2,e2,p2⟩:=JY m' (m+1) (by omega) (i:=7) (size:=32768) (a:=a') (k:=k') h1.t (by omega) (by omega) (by omega) (by omega) (by omega);rw[em]at e2;have h2:=h1.prs p2;obtain⟨d,hd⟩: ∃d,d=min k' (32768 - a'):=⟨_,rfl⟩;rw[<-hd,UC h.fk.byt (by omega)]at e2;obtain⟨r,r1,r2⟩:=cutB (lo:=a') (hi:=a'+d) h2.buf (vW _ _) (by omega) (by omega);rw[<-hx8]at r1;rw[show a'+d - a'=d by omega]at r2;have hsub:((32768:Nat):Int) - ((a':Nat):Int)=((32768 - a':Nat):Int):=by omega
    have hmn2:=mn2N k' (32768 - a');rw[<-hd]at hmn2;have hadd:((a':Nat):Int)+((d:Nat):Int)=((a'+d:Nat):Int):=by omega
    obtain⟨z,hz⟩: ∃z,z=((cH 32768 f).drop a').take d:=⟨_,rfl⟩;rw[<-hz]at e2 r2;have tz: ¬(z≠z):=fun e=>e rfl
    obtain⟨H',e,p⟩:=fin p2;refine⟨H', ?_,p⟩;simp(maxSteps:=999999)(disch:=omega) only[J7,eZ,e1,qK,nth,t00,hcv,jC,tw,c1,c2,c3,e2,hsub,hmn2,hadd,r1,r2,tz,e]
   ·obtain⟨H',e,p⟩:=fin pr;refine⟨H', ?_,p⟩;simp(maxSteps:=999999)(disch:=omega) only[J7,eZ,e1,qK,nth,t00,hcv,jC,tw,c1,c2,c3,e]
  ·obtain⟨H',e,p⟩:=fin pr;refine⟨H', ?_,p⟩;simp(maxSteps:=999999)(disch:=omega) only[J7,eZ,e1,qK,nth,t00,hcv,jC,tw,c1,c2,e]
 ·obtain⟨H',e,p⟩:=fin pr;refine⟨H', ?_,p⟩;simp(maxSteps:=999999)(disch:=omega) only[J7,eZ,e1,qK,nth,t00,hcv,jC,tw,c1,e]
theorem extentFile_walk (m:Nat)(hm:700000000<=m){Hi:AH}(hk:Hi.ok){x0:AV}{l:List Ax}(hx:AxR Hi x0 l)(haa: ∀a∈l,a.a<9223372036854775808)(a n:Int):
  ∃H',f4z (dy (m+1)) (m+1) [x0, .int .i64 a, .int .i64 n] Hi=some (.bool true,H')/\Prs Hi H':=by
 have hz: ∀H,z6 (dy (m+1)) (m+1) [] H=some (.bool true,H):=fun H=>rfl
 obtain⟨b,eb,hb⟩:=zJH (dy (m+1)) (m+1) (by omega) hx;have rf:Prs Hi Hi:=⟨hk,Nat.le_refl _,fun _ _ _=>rfl⟩
 cases b with
 | true=>
  refine⟨Hi, ?_,rf⟩;simp(maxSteps:=999999)(disch:=omega) only[f4z,eZ,eb,hz,cq]
 | false=>
  obtain⟨hl,hto,hs⟩:=hb rfl;obtain⟨H1,At,M,e1,p1,hA,hM,t1⟩:=zCl (dy (m+1)) (m+1) (by omega) hk;obtain⟨m',hm'⟩: ∃m',m=m'+2:=⟨m - 2,by omega⟩;obtain⟨H2,e2,t2,s2⟩:=BF (m'+1) (m+1) (by omega) (by omega) t1 (by omega) (by simp) (k:=Ex.oth) (v:=vlu);have hput:gJ Ex.oth vlu=true:=by decide
  have em2:m'+1+2=m+1:=by omega
  rw[hput,em2]at e2;rw[hput]at t2;simp only[if_true]at e2 t2;obtain⟨H3,kvs,e3,t3,ws,s3⟩:=WT m' (m+1) (by omega) t2 (Nd.srt_put _ _ trivial) (i:=8) (a:=3) (tx:=zCg) (by omega) (by omega) (by decide) (by omega) (by decide);have em3:m'+3=m+1:=by omega
  rw[em3]at e3;have kb:=zLG ws;have N1:=p1.next;have N2:=s2.next;have N3:=s3.next
  have lt:=t1.lt;have P3:Prs Hi H3:=(p1.fresh s2 fun B hB=>by omega).fresh s3 fun B hB=>by omega
  obtain⟨H4,A8,b4,p4,g4,m4,n4⟩:=box s3.ok (.cells (qR (cH 32768 fun _=>0)) 5 1 false);obtain⟨x8,hx8⟩: ∃x8,x8=AV.slice A8 0 32768 (2*32768):=⟨_,rfl⟩;have hmk: ∀K:AV->AH->Rs,bA (zIk 5 1 1 [.int .u8 ((0:Nat):Int)] (.int .i64 ((32768:Nat):Int)) (.int .i64 ((32768:Nat):Int))) H3 K=K x8 H4:=fun K=>by
   rw[mkB 32768 (by omega),b4,hx8]
  have hlen:kvs.length<=5:=by
   have h1:=ws.len;have h2:=zAA 3 zCg.length zCg.length;have h3:zCg.length=4:=rfl;have h4:(putP Ex.oth vlu ([]:Kvs)).length=1:=rfl;omega
  have hpl:pcs 3 zCg.length zCg.length<=3:=by
   have h2:=zAA 3 zCg.length zCg.length;have h3:zCg.length=4:=rfl;omega
  have fs:FS Hi H4 At M A8 kvs kvs (fun _=>0) (2000+200*(2*0+0 / 128)+26000*0):=
   ⟨P3.trans p4,(t3.prs p4).up (by omega),⟨ws.srt,kb.shp,kb.tidy,kb.byt,fun _ _=>rfl⟩,g4,⟨hA,hM,by omega⟩,by omega⟩
  obtain⟨H5,kv5,f5,e5,fs5,k5⟩:=zBt m hm (x1:= .int .i64 a) (x2:= .int .i64 n) hx hx8 hl hs haa l.length 0 (m+1) 0 (by omega) (by omega) (by rw[List.drop_zero];omega) fs (by omega);obtain⟨H6,e6,p6⟩:=zKj m hm fs5 hx8 k5 kb a n;refine⟨H6, ?_,fs5.P.trans p6⟩;have t00: ¬(((0:Nat):Int)≠((0:Nat):Int)):=by omega
  have s1:AV.str 5 491327616111=S Ex.oth:=rfl;have s2':AV.str 5 435761734006=S vlu:=rfl;have s3':AV.str 4 1701734765=S zCg:=rfl;simp(maxSteps:=999999)(disch:=omega) only[f4z,eZ,eb,hz,cq,e1,s1,s2',s3',e2,t00,e3,hmk,e5,e6]
end Go.Eng.Sh
end
section
namespace Go.Proofs.YtgffmjchoomnoaaGreatDoor.extentFile
open Go.ChangeShapes Go.WideShapes Go.ChangeAt Go.RowKit
open Go.ChangeMaps (open_string shut_string)
theorem zBj: Tryz.prog.cellsOf 29=6:=by kernel_rfl
theorem zHE: Tryz.prog.cellsOf 5=1:=by kernel_rfl
theorem ZF: Tryz.prog.cellsOf 3=1:=by kernel_rfl
theorem zHD: Tryz.prog.cellsOf 9=1:=by kernel_rfl
abbrev Raw:=Int×Int×Int×Int×Int×ByteArray
def zCA (s:Raw):List Value:=[.int .u8 s.1, .int .i64 s.2.1, .int .i64 s.2.2.1, .int .i64 s.2.2.2.1, .int .i64 s.2.2.2.2.1, .string s.2.2.2.2.2]
open Go.Eng.Sh (Ax axV AxR)
def zMM (s:Raw):Ax:=⟨s.1,s.2.1,s.2.2.1,s.2.2.2.1,s.2.2.2.2.1,s.2.2.2.2.2.data.toList⟩
theorem zML (N:Nat)(s:Raw):axV (zMM s)=(zCA s).map (Go.Eng.cellAV N):=by
 simp only[zCA,List.map_cons,List.map_nil,Go.Eng.cellAV_string,axV,zMM];rfl
theorem max_i64:IntKind.max .i64=9223372036854775807:=by decide
set_option maxRecDepth 100000 in
theorem zJ8 {H:Type}{enc:TypeId×Value->H}{w:World}{base:Nat}{held:Bool}{fuel:Nat}{cs:List Value}{x:DataW H×List MemPlace}(h:DataW.trod enc Tryz.prog w base (fun _=>true) held fuel 29 cs=some x): ∃s:Raw,cs=zCA s/\s.2.2.1<9223372036854775808:=by
 obtain⟨xs,n,_,_,hl,hlen,hx⟩:=DataW.trod_struct Tryz.underlying29 h;rw[zBj]at hl
 match cs,hl with
 | [c0,c1,c2,c3,c4,c5],_=>
  match xs,hlen with
  | [y0,y1,y2,y3,y4,y5],_=>
   have k0:DataW.trod enc Tryz.prog w base (fun _=>true) held n 5 [c0]=some y0:=by
    have this:DataW.trod enc Tryz.prog w base (fun _=>true) held n 5 (List.take (Tryz.prog.cellsOf 5) (List.drop 0 [c0,c1,c2,c3,c4,c5]))=some y0:=hx 0 _ rfl;rw[zHE]at this;exact this
   have k1:DataW.trod enc Tryz.prog w base (fun _=>true) held n 3 [c1]=some y1:=by
    have this:DataW.trod enc Tryz.prog w base (fun _=>true) held n 3 (List.take (Tryz.prog.cellsOf 3) (List.drop 1 [c0,c1,c2,c3,c4,c5]))=some y1:=hx 1 _ rfl;rw[ZF]at this;exact this
   have k2:DataW.trod enc Tryz.prog w base (fun _=>true) held n 3 [c2]=some y2:=by
    have this:DataW.trod enc Tryz.prog w base (fun _=>true) held n 3 (List.take (Tryz.prog.cellsOf 3) (List.drop 2 [c0,c1,c2,c3,c4,c5]))=some y2:=hx 2 _ rfl;rw[ZF]at this;exact this
   have k3:DataW.trod enc Tryz.prog w base (fun _=>true) held n 3 [c3]=some y3:=by
    have this:DataW.trod enc Tryz.prog w base (fun _=>true) held n 3 (List.take (Tryz.prog.cellsOf 3) (List.drop 3 [c0,c1,c2,c3,c4,c5]))=some y3:=hx 3 _ rfl;rw[ZF]at this;exact this
   have k4:DataW.trod enc Tryz.prog w base (fun _=>true) held n 3 [c4]=some y4:=by
    have this:DataW.trod enc Tryz.prog w base (fun _=>true) held n 3 (List.take (Tryz.prog.cellsOf 3) (List.drop 4 [c0,c1,c2,c3,c4,c5]))=some y4:=hx 4 _ rfl;rw[ZF]at this;exact this
   have k5:DataW.trod enc Tryz.prog w base (fun _=>true) held n 9 [c5]=some y5:=by
    have this:DataW.trod enc Tryz.prog w base (fun _=>true) held n 9 (List.take (Tryz.prog.cellsOf 9) (List.drop 5 [c0,c1,c2,c3,c4,c5]))=some y5:=hx 5 _ rfl;rw[zHD]at this;exact this
   clear hx h;obtain⟨a0,h0,_⟩:=DataW.trod_int Tryz.underlying5 k0;obtain⟨a1,h1,_⟩:=DataW.trod_int Tryz.underlying3 k1;obtain⟨a2,h2,_,w2⟩:=DataW.trod_int Tryz.underlying3 k2;obtain⟨a3,h3,_⟩:=DataW.trod_int Tryz.underlying3 k3;obtain⟨a4,h4,_⟩:=DataW.trod_int Tryz.underlying3 k4;obtain⟨a5,h5,_⟩:=DataW.trod_string Tryz.underlying9 k5;obtain rfl:=(List.cons.inj h0).1;obtain rfl:=(List.cons.inj h1).1;obtain rfl:=(List.cons.inj h2).1;obtain rfl:=(List.cons.inj h3).1;obtain rfl:=(List.cons.inj h4).1;obtain rfl:=(List.cons.inj h5).1;have hw:a2<=IntKind.max .i64:=by
    simp only[Lit.wf,z8,zE]at w2;exact w2.2
   rw[max_i64]at hw;exact⟨(a0,a1,a2,a3,a4,a5),rfl,by show a2< _;omega⟩
instance:Inhabited Raw:=⟨(0,0,0,0,0, .empty)⟩
set_option maxRecDepth 100000 in
theorem zGj {H:Type}{enc:TypeId×Value->H}{w:World}{base:Nat}{held:Bool}{v:Value}{d:DataW H}{ps:List MemPlace}(hv: ∃a len cap,v= .slice a len cap)(h:DataW.Trod enc Tryz.prog w base (fun _=>true) held 22 v d ps):
  ∃l:List Ax,AxR (Go.Eng.H0 w) (Go.Eng.argAV w.heap.size v) l/\ ∀a∈l,a.a<9223372036854775808:=by
 obtain⟨a0,len0,cap0,rfl⟩:=hv;obtain⟨fuel,hf⟩:=h;obtain⟨l,h1,h2⟩:=Go.Eng.srows_arg (α:=Raw) (k:=6) (by decide) (vals:=zCA) (fun _=>rfl) (good:=fun s=>s.2.2.1<9223372036854775808) Tryz.underlying22 zBj (fun h=>zJ8 h) hf;refine⟨l.map zMM, ?_,fun a ha=> ?_⟩
 ·have e: ∀l:List Raw,(l.map zMM).flatMap axV=l.flatMap fun s=>(zCA s).map (Go.Eng.cellAV w.heap.size):=by
   intro l
   induction l with
   | nil=>rfl
   | cons s l ih=>rw[List.map_cons,zP,zP,zML w.heap.size s,ih]
  show Go.Eng.Rw 6 _ _ (l.map zMM).length _;rw[e,qF];exact h1
 ·obtain⟨s,hs,rfl⟩:=List.mem_map.1 ha;exact h2 s hs
theorem own:ownKnob Tryz.prog.godebug=none:=by kernel_rfl
theorem laid:laidOutB Tryz.prog=true:=by kernel_rfl
set_option maxRecDepth 100000 in
theorem contract (H:Type)(enc:TypeId×Value->H)(W:World)(base:Nat)(args:Array Value)(ds gs:List (DataW H))(before:List MemPlace)
  (hval: ∀(j:Nat) t v, Tryz.f4.params[j]? =some t->args[j]? =some v->Value.okWide Tryz.prog W .any base t v)
  (hW:DataW.Whole enc Tryz.prog Tryz.f4.params.toList Rows.extentFileSpec.vars false W args.toList ds gs before):
  Calls Tryz.prog 4 args W fun e W'=> ∃v,e= .returned v/\Rows.extentFileSpec.post enc Tryz.prog Tryz.f4 false true false false W args v W':=by
 have hW':=hW;obtain⟨p,q,hA0,hV,rfl,hfz,hnd⟩:=hW;have hA:DataW.TrodAll enc Tryz.prog W 0 (fun _=>true) true Tryz.f4.params.toList args.toList ds p:=hA0;rw[Tryz.params4]at hA hval;obtain⟨v0,vs0,d0,ds0,p0,q0,hargs,rfl,rfl,h0,r0⟩:=trodAll_cons hA;obtain⟨v1,vs1,d1,ds1,p1,q1,rfl,rfl,rfl,h1,r1⟩:=trodAll_cons r0;obtain⟨v2,vs2,d2,ds2,p2,q2,rfl,rfl,rfl,h2,r2⟩:=trodAll_cons r1;obtain⟨rfl,rfl,rfl⟩:=trodAll_nil r2;obtain rfl:args= #[v0,v1,v2]:=by cases args;simp_all
 obtain⟨rfl,rfl⟩:=trodVars_none hV;clear hA0;have hlt0: ∀x∈p0,x.block<W.heap.size:=fun x hx=>hW'.lt x (by simp[hx])
 obtain⟨l,hN,hU⟩:=zGj (okWide_slice Tryz.underlying22 (hval 0 22 v0 rfl rfl)) h0;obtain⟨z1,rfl,rfl,rfl,hz1⟩:=open_int Tryz.underlying3 (hval 1 3 v1 rfl rfl) h1;obtain⟨z2,rfl,rfl,rfl,hz2⟩:=open_int Tryz.underlying3 (hval 2 3 v2 rfl rfl) h2;obtain⟨m,hm⟩: ∃m:Nat,700000000<=m:=⟨_,Nat.le_refl _⟩;obtain⟨H',hrun,hP⟩:=Go.Eng.Sh.extentFile_walk m hm (Go.Eng.H0_ok W) hN hU z1 z2;have hcall:=Go.Eng.calls_param (Go.Eng.Sh.f4z_ok (Go.Eng.Sh.dy_ok (m+1)) (m+1)) W (args:= #[v0, .int .i64 z1, .int .i64 z2]) (H':=H') hrun (fun A hA=>hP.keep A hA (fun x=>x));refine hcall.mono fun e W' ⟨he,hb⟩=> ?_
 subst he;simp only[List.append_nil]at hW';refine⟨_,rfl,_,_,_,[],p0++([]++([]++[])),[],hW', ?_, ?_,rfl,hb.frame _,fun h=>by cases h⟩
 ·exact trodAll_cons_mk (shut_bool Tryz.underlying4 _) trodAll_mk0
 ·exact trodAll_cons_mk (Below.trod laid (by kernel_rfl) (of_decide_eq_true (by kernel_rfl)) h0 hb hlt0) (trodAll_cons_mk (shut_int Tryz.underlying3 hz1) (trodAll_cons_mk (shut_int Tryz.underlying3 hz2) trodAll_mk0))
set_option maxRecDepth 100000 in
theorem lifted (os:Os)(started:os.Started)(H:Type)(enc:TypeId×Value->H):
  ReturnsInHanded {} Tryz.checked os 4 .any (fun w args=>(Rows.extentFileSpec.pre enc Tryz.prog Tryz.f4 Rows.extentFileRow.domain false w args/\laidMetH Tryz.prog Rows.extentFileRow.laid w)/\sizedMet enc Tryz.prog Tryz.f4 (OpenSpec.ofChange Rows.extentFileSpec) false w args)
   (Rows.extentFileSpec.post enc Tryz.prog Tryz.f4 false true false false):=by
 refine returnsInHanded_of_change_and (C:= Tryz.checked) (X:=fun w _=>laidMetH Tryz.prog Rows.extentFileRow.laid w) (fun _ _ _ hh h=>h.of_heap hh) own started (by kernel_rfl) Tryz.func4
  (ChangeSpec.witness_shaped (enc:=enc) (C:= Tryz.checked) (os:=os) (X:=fun w _=>laidMetH Tryz.prog Rows.extentFileRow.laid w) false (World.laidAll Tryz.prog os Rows.extentFileRow.laid) #[.slice none 0 0, .int .i64 0, .int .i64 0] 8 (World.laidAll_os _ _ _)
   (World.shaped_of_ZipB (by kernel_rfl) (by kernel_rfl)) (by kernel_rfl) (by kernel_rfl) (by kernel_rfl)
   (by rw[MakeChecks.laidMetH_plain _ _ _ (by kernel_rfl)];exact laidMet_laidAll _ (by kernel_rfl) (by kernel_rfl))) ?_
 intro W base args ds gs before hval hW _ _ _ _;exact contract H enc W base args ds gs before hval hW
theorem holds:Rows.ExtentFileSaid:=
 OpenClaim.holds_of_wide 4 Tryz.f4 rfl rfl rfl rfl rfl rfl rfl ⟨rfl,rfl,rfl,rfl,rfl⟩ rfl rfl rfl rfl rfl (by kernel_rfl) Tryz.func4 (by kernel_rfl)
  (of_decide_eq_true (by kernel_rfl)) (by unfold Func.isWrapper;first | (rw[if_pos (by decide+kernel)];kernel_rfl) | (rw[if_neg (by decide+kernel)];exact⟨rfl,rfl⟩))
  (fun os started H enc _=>lifted os started H enc)
theorem card:Rows.ExtentFileCardSaid:=
 Claim7.holds_tied_plain_at .later [] [.data, .pinned] true Rows.extentFileCard.stood.harness true holds (fun _ h=>by cases h) (by kernel_rfl) (fun _ h=>by cases h) extentFile_row_tie rfl ⟨rfl,rfl⟩ (by kernel_rfl) rfl
  (fun f fn hf hfn=>by
   obtain rfl:f=4:=Option.some.inj ((show Tryz.prog.funcNamed Rows.extentFileRow.func=some 4 by kernel_rfl).symm.trans hf) |>.symm;obtain rfl:fn= Tryz.f4:=(Option.some.inj (Tryz.func4.symm.trans hfn)).symm;exact⟨by kernel_rfl,fun j t ht=>by
    rw[Tryz.params4]at ht;have hm:t∈[22,3,3]:=by simpa using Array.mem_of_getElem? ht
    have hall:([22,3,3].all fun u=> !Tryz.prog.wantsStandIn u)=true:=by kernel_rfl
    exact(show Tryz.prog.wantsStandIn t=false by simpa using List.all_eq_true.1 hall t hm)⟩)
  (by kernel_rfl)
end Go.Proofs.YtgffmjchoomnoaaGreatDoor.extentFile
namespace Go.Proofs.YtgffmjchoomnoaaGreatDoor
theorem extentFile_holds:Rows.ExtentFileCardSaid:=extentFile.card
end Go.Proofs.YtgffmjchoomnoaaGreatDoor
end
