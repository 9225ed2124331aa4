/- A checked evaluator for the program, and what it tells, part 7: no condition. -/
import Derived.Test.YtgffmjchoomnoaaGreatDoorOV6
import Derived.Test.YtgffmjchoomnoaaGreatDoorRows
import Derived.Test.YtgffmjchoomnoaaGreatDoorCards
import Derived.Test.YtgffmjchoomnoaaGreatDoorTie
import Derived.ProofKit
import Derived.OpenShut
import Derived.Carry
import Derived.LaidMore
import Derived.Lay
import Derived.SevenTiedAt
import Derived.Stop.Joined
set_option linter.all false
set_option maxHeartbeats 8000000
set_option maxRecDepth 20000
section
namespace Go.Eng.Sh
open Go.Nd (Ptr yH qP Kvs Srt Str lookP putP delP mayK)
open Go.Bt Go.Dr Go.Ex
def Bx (o:AObj):Prop:=(∃x r e sz,o= .cells (x::r) e sz false)\/ ∃l,o= .loop l
theorem j7.nbx {k e n:Nat}{H:AH}{v:AV}{l:List AV}(h:j7 k e H v n l){A:Nat}{o:AObj}(g:H.h.get A=some o)(hb:Bx o): ¬Blk v A:=by
 intro hB;rcases h with⟨h0,⟨rfl,_⟩ | ⟨B,rfl,_,hg⟩⟩ | ⟨h0,B,e',g',rfl,_,hg,hn⟩
 ·exact Blk.nil.1 hB
 ·rw[Blk.slice.1 hB,hg]at g;rcases hb with⟨x,r,e,sz,rfl⟩ | ⟨l,rfl⟩
  ·simp only[z7,AObj.cells.injEq]at g;cases g.2.2.2
  ·cases g
 ·rw[Blk.slice.1 hB,hg]at g;rcases hb with⟨x,r,e,sz,rfl⟩ | ⟨l,rfl⟩
  ·simp only[z7,AObj.cells.injEq]at g;rw[g.1,hn]at h0;simp at h0
  ·cases g
theorem y9.nbx {H:AH}{v:AV}{nd:Nd.Node}(h:y9 H v nd){A:Nat}{o:AObj}(g:H.h.get A=some o)(hb:Bx o): ¬xJ v A:=by
 obtain⟨ks,vs,ps,rfl,h1,h2,h3⟩:=h;intro hB;rcases kB.1 hB with h | h | h
 ·exact j7.nbx h1 g hb h
 ·exact j7.nbx h2 g hb h
 ·exact j7.nbx h3 g hb h
theorem yS.free {H H':AH}{At M L:Nat}{kv:Kvs}{S:Nat->Prop}(t:yS H At M L kv)(s:Stp S H H')(hS: ∀B,B<H.next->S B->B≠At/\ ∃o,H.h.get B=some o/\Bx o):yS H' At M L kv:=by
 obtain⟨d,c,_,root,es,q,last,rfl,hc,ti,h2⟩:=t;have lA:=ti.ok.lt ti.gT;have lM:=ti.ok.lt ti.gM;refine⟨d,c,_,root,es,q,last,rfl,hc,ti.stp s (fun e=> ?_) (fun e=> ?_) (fun z hz B hB e=> ?_),h2⟩
 ·exact(hS _ lA e).1 rfl
 ·obtain⟨_,o,g,hb⟩:=hS _ lM e;rw[ti.gM]at g;rcases hb with⟨x,r,e,sz,rfl⟩ | ⟨l,rfl⟩<;>cases g
 ·obtain⟨nd,hn⟩:=ti.pq.mem z hz;obtain⟨_,o,g,hb⟩:=hS _ (hn.lt hB) e;exact hn.nbx g hb hB
theorem Box.bx {H:AH}{A:Nat}{v:AV}(h:Box H A v): ∃o,H.h.get A=some o/\Bx o:=by
 obtain⟨e,g⟩:=h;exact⟨_,g, .inl ⟨_,_,_,_,rfl⟩⟩
theorem mn2N (a b:Nat):mn2 (.int .i64 ((a:Nat):Int)) (.int .i64 ((b:Nat):Int))=some (.int .i64 ((min a b:Nat):Int)):=by
 by_cases h:b<a
 ·have hb:ilt ((b:Nat):Int) ((a:Nat):Int)=true:=by rw[wY];exact decide_eq_true (by omega)
  simp only[mn2,hb,cond_true,show min a b=b by omega]
 ·have hb:ilt ((b:Nat):Int) ((a:Nat):Int)=false:=by rw[wY];exact decide_eq_false (by omega)
  simp only[mn2,hb,cond_false,show min a b=a by omega]
def uJ (x n:Nat):List AV:=[.int .i64 ((x / 128:Nat):Int), .int .i64 ((x % 128:Nat):Int), .int .i64 ((min 128 (x % 128+n):Nat):Int)]
def gK (x n:Nat):Nat:=min 128 (x % 128+n) - x % 128
theorem vS {x n:Nat}(h:0<n):0<gK x n/\gK x n<=n/\x % 128+gK x n<=128/\min 128 (x % 128+n)=x % 128+gK x n:=by
 have:=Nat.mod_lt x (show 128>0 by omega);simp only[gK];omega
structure Pc (A1 a n M:Nat)(R:Nat->Prop)(I:Nat->AH->(Nat->Prop)->Prop):Prop where
 ok: ∀ {c H W},I c H W->H.ok
 lt: ∀ {c H W},I c H W-> ∀B,W B->B<H.next
 frame: ∀ {c H H' W S},I c H W->Stp S H H'->(∀B,B<H.next->S B-> ¬W B/\ ¬R B/\ ∃o,H.h.get B=some o/\Bx o)->I c H' W
 run: ∀ {c H W} (m:Nat),M<=m->c<n->I c H W-> ∃H' W',(dy (m+1)).yld A1 [.agg (uJ (a+c) (n - c))] H=some (.bool true,H')/\I (c+gK (a+c) (n - c)) H' W'/\Adw W H W' H'
theorem zGz (m n A:Nat)(az:List AV)(H:AH):callV (s57 (dy (m+1)) n).S (dy (m+1)) (.yieldTo A) az H=(dy (m+1)).yld A az H:=rfl
theorem QG {A1 a n M Ba Bn:Nat}{R:Nat->Prop}{I:Nat->AH->(Nat->Prop)->Prop}(pc:Pc A1 a n M R I)(m:Nat)(hm:M<=m)(ha:a<=100000)(hn:n<=100000)(hab:Ba≠Bn)(ra: ¬R Ba)(rn: ¬R Bn):
  ∀(rr c kf:Nat) {H:AH} {W:Nat->Prop},n - c<=rr->rr<kf->c<=n->I c H W->Box H Ba (.int .i64 ((a+c:Nat):Int))->Box H Bn (.int .i64 ((n - c:Nat):Int))-> ¬W Ba-> ¬W Bn->
   ∃H' W',qW kf (zFy (dy (m+1)) (m+1)) [.yieldTo A1, .ptr Bn 0, .ptr Ba 0] H=some (.exit 0 [],H')/\I n H' W'/\Stp (fun B=>W B\/B=Ba\/B=Bn) H H'/\ ∀B,W' B->W B\/H.next<=B
 | _,_,0,_,_,_,hk,_,_,_,_,_,_=>by omega
 | rr,c,kf+1,H,W,hr,hkf,hc,hI,ba,bn,wa,wn=>by
  have hk:=pc.ok hI;by_cases h0:c=n
  ·subst h0;have hge: ¬((0:Nat):Int)< ((c - c:Nat):Int):=by omega
   refine⟨H,W,qY ?_,hI,Stp.refl hk,fun B hB=> .inl hB⟩;simp(maxSteps:=999999)(disch:=omega) only[zFy,eZ,bn.ld,hge]
  ·have hlt:c<n:=by omega
   obtain⟨x,hx⟩: ∃x,x=a+c:=⟨_,rfl⟩;obtain⟨r,hrr⟩: ∃r,r=n - c:=⟨_,rfl⟩;obtain⟨q1,q2,q3,q4⟩:=vS (x:=x) (n:=r) (by omega);obtain⟨t,ht⟩: ∃t,t=min 128 (x % 128+r):=⟨_,rfl⟩;obtain⟨k,hk9⟩: ∃k,k=gK x r:=⟨_,rfl⟩;rw[<-hk9]at q1 q2 q3 q4;rw[<-ht]at q4;rw[<-hx]at ba;rw[<-hrr]at bn;have la:=ba.lt hk;have ln:=bn.lt hk;obtain⟨H1,A4,b1,p1,g1,m1,n1⟩:=box hk (.cells [.int .i64 ((0:Nat):Int), .int .i64 ((0:Nat):Int), .int .i64 ((0:Nat):Int)] 68 1 false);obtain⟨H2,e2,g2,s2,n2⟩:=yF p1.ok g1 (l':=[.int .i64 ((x / 128:Nat):Int), .int .i64 ((x % 128:Nat):Int), .int .i64 ((0:Nat):Int)]) rfl rfl;have e2':stN 3 (.ptr A4 0) (.agg [.int .i64 ((x / 128:Nat):Int), .int .i64 ((x % 128:Nat):Int), .int .i64 ((0:Nat):Int)]) H1=some (qM,H2):=e2;obtain⟨H3,e3,g3,s3⟩:=st1c s2.ok g2 (o:=2) (x:= .int .i64 ((t:Nat):Int)) rfl (by simp);have g3':H3.h.get A4=some (.cells (uJ x r) 68 1 false):=by rw[g3,uJ,<-ht];rfl
   have N1:=p1.next;have N2:=s2.next;have N3:=s3.next
   have P3:Prs H H3:=(p1.fresh s2 fun B hB=>by omega).fresh s3 fun B hB=>by omega
   have I3:=pc.frame hI P3 fun B _ hB=>hB.elim
   obtain⟨H4,W4,e4,I4,d4⟩:=pc.run m hm hlt I3;rw[<-hx,<-hrr]at e4 I4;rw[<-hk9]at I4;have N4:=d4.1.next
   have w4: ∀B,B<H3.next->W4 B->W B:=fun B hB hw=>by
    rcases d4.2 B hw with e | e
    ·exact e
    ·omega
   have nA4: ¬W A4:=fun hw=>by have:=pc.lt hI _ hw;omega
   have g4:H4.h.get A4=some (.cells (uJ x r) 68 1 false):=by rw[d4.1.keep _ (by omega) nA4];exact g3'
   have ba4:Box H4 Ba (.int .i64 ((x:Nat):Int)):=(ba.mono hk P3 fun x=>x).mono P3.ok d4.1 wa;have bn4:Box H4 Bn (.int .i64 ((r:Nat):Int)):=(bn.mono hk P3 fun x=>x).mono P3.ok d4.1 wn;obtain⟨H5,e5,ba5,s5⟩:=ba4.st d4.1.ok (x:= .int .i64 ((a+(c+k):Nat):Int)) rfl;have bn5:Box H5 Bn (.int .i64 ((r:Nat):Int)):=bn4.mono d4.1.ok s5 (fun e=>hab e.symm);have N5:=s5.next
   obtain⟨H6,e6,bn6,s6⟩:=bn5.st s5.ok (x:= .int .i64 ((n - (c+k):Nat):Int)) rfl;have N6:=s6.next
   have ba6:Box H6 Ba (.int .i64 ((a+(c+k):Nat):Int)):=ba5.mono s5.ok s6 hab;have I5:=pc.frame I4 s5 fun B hB e=>by subst e;exact⟨fun hw=>wa (w4 _ (by omega) hw),ra,Box.bx ba4⟩
   have I6:=pc.frame I5 s6 fun B hB e=>by subst e;exact⟨fun hw=>wn (w4 _ (by omega) hw),rn,Box.bx bn5⟩
   have g5:H5.h.get A4=some (.cells (uJ x r) 68 1 false):=by rw[s5.keep _ (by omega) (by omega)];exact g4
   obtain⟨H7,W7,e7,I7,s7,f7⟩:=QG pc m hm ha hn hab ra rn (rr - 1) (c+k) kf (by omega) (by omega) (by omega) I6 ba6 bn6 (fun hw=>wa (w4 _ (by omega) hw)) (fun hw=>wn (w4 _ (by omega) hw));have r31:Eng.ld1 (.ptr A4 1) H2=some (.int .i64 ((x % 128:Nat):Int)):=by rw[qL g2];rfl
   have r3:ldN 3 (.ptr A4 0) H3=some (.agg (uJ x r)):=QU g3' rfl;have ld4: ∀ {Hx:AH},Hx.h.get A4=some (.cells (uJ x r) 68 1 false)->Eng.ld1 (.ptr A4 2) Hx=some (.int .i64 ((t:Nat):Int))/\Eng.ld1 (.ptr A4 1) Hx=some (.int .i64 ((x % 128:Nat):Int)):=fun gx=>⟨by rw[qL gx,ht];rfl,by rw[qL gx];rfl⟩
   obtain⟨r42,r41⟩:=ld4 g4;obtain⟨r52,r51⟩:=ld4 g5;have ba2:Box H2 Ba (.int .i64 ((x:Nat):Int)):=(ba.mono hk p1 fun x=>x).mono p1.ok s2 (by omega);have bn2:Box H2 Bn (.int .i64 ((r:Nat):Int)):=(bn.mono hk p1 fun x=>x).mono p1.ok s2 (by omega);have hq:=quoN (c:=x) (k:=128) (by omega) (by omega);have hrm:=remN (c:=x) (k:=128) (by omega);have bs:wB [(0,1),(1,1),(2,1)] [.int .i64 ((0:Nat):Int), .int .i64 ((0:Nat):Int), .int .i64 ((0:Nat):Int)] [(0, .int .i64 ((x / 128:Nat):Int)),(1, .int .i64 ((x % 128:Nat):Int))]=some (.agg [.int .i64 ((x / 128:Nat):Int), .int .i64 ((x % 128:Nat):Int), .int .i64 ((0:Nat):Int)]):=rfl;have h0r:((0:Nat):Int)< ((r:Nat):Int):=by omega
   have hs1:((x % 128:Nat):Int)+((r:Nat):Int)=((x % 128+r:Nat):Int):=by omega
   have hmn:mn2 (.int .i64 ((128:Nat):Int)) (.int .i64 ((x % 128+r:Nat):Int))=some (.int .i64 ((t:Nat):Int)):=by rw[mn2N,ht]
   have hd:((t:Nat):Int) - ((x % 128:Nat):Int)=((k:Nat):Int):=by omega
   have hs2:((x:Nat):Int)+((k:Nat):Int)=((a+(c+k):Nat):Int):=by omega
   have hs3:((r:Nat):Int) - ((k:Nat):Int)=((n - (c+k):Nat):Int):=by omega
   have body:zFy (dy (m+1)) (m+1) [.yieldTo A1, .ptr Bn 0, .ptr Ba 0] H=some (.norm [.yieldTo A1, .ptr Bn 0, .ptr Ba 0],H6):=by
    simp(maxSteps:=999999)(disch:=omega) only[zFy,eZ,bn.ld,h0r,ba.ld,hq,hrm,bs,b1,e2',r31,bn2.ld,hs1,hmn,e3,r3,zGz,e4,ba4.ld,r42,r41,hd,hs2,e5,bn5.ld,r52,r51,hs3,e6]
   refine⟨H7,W7,by rw[yW body,e7],I7,⟨s7.ok,by have:=s7.next;omega,fun B hB hS=> ?_⟩,fun B hB=> ?_⟩
   ·have h1: ¬W B:=fun e=>hS (.inl e)
    have h2:B≠Ba:=fun e=>hS (.inr (.inl e))
    have h3:B≠Bn:=fun e=>hS (.inr (.inr e))
    rw[s7.keep B (by omega) (fun e=>by
     rcases e with e | e | e
     ·exact h1 (w4 B (by omega) e)
     ·exact h2 e
     ·exact h3 e),s6.keep B (by omega) h3,s5.keep B (by omega) h2,d4.1.keep B (by omega) h1,P3.keep B hB fun x=>x]
   ·rcases f7 B hB with e | e
    ·rcases d4.2 B e with e | e
     ·exact .inl e
     ·exact .inr (by omega)
    ·exact .inr (by omega)
end Go.Eng.Sh
end
section
namespace Go.Ex
open Go.Nd (Str Kvs putP delP lookP Srt mayK)
open Go.Eng.Sh (gK vS)
def zH2 (i:Nat)(kv:Kvs):Prop:= ∀p,p<4294967296-> ∀v,lookP (jU i p) kv=some v->v.length<=128/\ ∃h:v≠[],v.getLast h≠0
def pcs (a n c:Nat):Nat:=(a+c) / 128 - a / 128+(if c<n then 0 else 1)
theorem zJy (a n c:Nat):pcs a n c<=c / 128+2:=by
 rw[pcs];split<;>omega
theorem zB4 {a n c:Nat}(hc:c<n):pcs a n c+1<=pcs a n (c+gK (a+c) (n - c)):=by
 obtain⟨q1,q2,q3,q4⟩:=vS (x:=a+c) (n:=n - c) (by omega);rw[pcs,pcs,if_pos hc];split<;>omega
structure WS (kv0 kv:Kvs)(i a:Nat)(tx:Str)(c:Nat):Prop where
 srt:Srt kv
 byt: ∀x,x<100000000->jY kv i x=if a<=x/\x<a+c then tx.getD (x - a) 0 else jY kv0 i x
 oth: ∀k,(∀p,p<256->k≠jU i p)->lookP k kv=lookP k kv0
 len:kv.length<=kv0.length+pcs a tx.length c
 tidy:zH2 i kv0->zH2 i kv
theorem zD0 {kv:Kvs}(h:Srt kv)(i a:Nat)(tx:Str):WS kv kv i a tx 0:=
 ⟨h,fun x _=>by rw[if_neg (by omega)],fun _ _=>rfl,by omega,fun h=>h⟩
theorem J3 {kv:Kvs}(h:Srt kv){i p:Nat}{b:Str}(hb:b.length=128)(hi:i<4294967296)(hp:p<4294967296)(ht:zH2 i kv):zH2 i (kG kv i p b):=fun q hq v hv=>by
 rw[vM h]at hv;by_cases e:jU i q=jU i p
 ·rw[if_pos e]at hv;by_cases hz:qX b=[]
  ·rw[if_pos hz]at hv;cases hv
  ·rw[if_neg hz]at hv;obtain rfl:=Option.some.inj hv;obtain⟨k,_,h1 | h1⟩:=jZ b
   ·exact absurd h1 hz
   ·exact⟨by have:=vL b;omega,h1⟩
 ·rw[if_neg e]at hv;exact ht q hq v hv
theorem WS.step {kv0 kv:Kvs}{i a c:Nat}{tx:Str}(w:WS kv0 kv i a tx c)(hi:i<4294967296)(ha:a+tx.length<=32768)(hc:c<tx.length):
  WS kv0 (kG kv i ((a+c) / 128) (over (jX kv i ((a+c) / 128)) ((a+c) % 128) ((tx.drop c).take (gK (a+c) (tx.length - c))))) i a tx (c+gK (a+c) (tx.length - c)):=by
 obtain⟨x,hx⟩: ∃x,x=a+c:=⟨_,rfl⟩;rw[<-hx];obtain⟨q1,q2,q3,q4⟩:=vS (x:=x) (n:=tx.length - c) (by omega);obtain⟨k,hk⟩: ∃k,k=gK x (tx.length - c):=⟨_,rfl⟩;rw[<-hk]at q1 q2 q3 q4⊢;have hl:((tx.drop c).take k).length=k:=by rw[zH,zN];omega
 obtain⟨b,hb⟩: ∃b,b=over (jX kv i (x / 128)) (x % 128) ((tx.drop c).take k):=⟨_,rfl⟩;have hbl:b.length=128:=by rw[hb,zB7 (by rw[hl,kH];omega),kH]
 rw[<-hb];refine⟨Q1 w.srt _ _ _,fun y hy=> ?_,fun key hkey=> ?_, ?_,fun ht=>J3 w.srt hbl hi (by omega) (w.tidy ht)⟩
 ·rw[jY,Q2 w.srt hbl hi hi (by omega) (by omega)];by_cases e:y / 128=x / 128
  ·rw[if_pos ⟨rfl,e⟩,hb,zI1 (by rw[hl,kH];omega),hl];by_cases hin:x % 128<=y % 128/\y % 128<x % 128+k
   ·rw[if_pos hin,if_pos (by omega)];simp only[zE,List.getElem?_take,qC];rw[if_pos (by omega)];congr 2;omega
   ·rw[if_neg hin];have:=w.byt y hy;rw[jY,e]at this;rw[this];by_cases h2:a<=y/\y<a+c
    ·rw[if_pos h2,if_pos (by omega)]
    ·rw[if_neg h2,if_neg (by omega)]
  ·rw[if_neg fun h=>e h.2];have:=w.byt y hy;rw[jY]at this;rw[this];by_cases h2:a<=y/\y<a+c
   ·rw[if_pos h2,if_pos (by omega)]
   ·rw[if_neg h2,if_neg (by omega)]
 ·rw[vM w.srt,if_neg (hkey _ (by omega))];exact w.oth key hkey
 ·have:=V0 w.srt i (x / 128) b;have:=w.len;have:=zB4 (a:=a) hc;rw[<-hx,<-hk]at this;omega
end Go.Ex
namespace Go.Eng.Sh
open Go.Nd (Ptr yH qP Kvs Srt Str lookP putP delP mayK)
open Go.Bt Go.Dr Go.Ex
def lpW (X2 X3 X4 X5:Nat):ALoop:=⟨.ready,none,29,0,[2,3,4,5],[.ptr X2 0, .ptr X3 0, .ptr X4 0, .ptr X5 0]⟩
structure WI (kv0:Kvs)(i a:Nat)(tx:Str)(At M L0 A1 X2 X3 X4 X5:Nat)(c:Nat)(H:AH)(W:Nat->Prop):Prop where
 gA:H.h.get A1=some (.loop (lpW X2 X3 X4 X5))
 x2:Box H X2 (.ptr At 0)
 x3:Box H X3 (.int .i64 ((i:Nat):Int))
 x4:Box H X4 (.int .i64 ((0:Nat):Int))
 x5:Box H X5 (S (tx.drop c))
 ex: ∃kv,yS H At M (L0+200*pcs a tx.length c) kv/\WS kv0 kv i a tx c
 w: ∀B,W B↔B=A1\/B=X4\/B=X5\/B=At\/B=M
 ne:X5≠X2/\X5≠X3/\X5≠X4
 na:A1≠At/\X2≠At/\X3≠At/\X4≠At/\X5≠At
theorem zLY (m:Nat){H:AH}{A1 X2 X3 X4 X5:Nat}(gA:H.h.get A1=some (.loop (lpW X2 X3 X4 X5)))(az:List AV):(dy (m+1)).yld A1 az H=zEd (dy m) m A1 (lpW X2 X3 X4 X5) az H:=by
 show cT (tabR (dy m) m) A1 az H=_;simp only[cT,gA];rfl
theorem zJ0 {H:AH}{A B:Nat}{v:AV}{ks:List Nat}{es:List (AV×AV)}(b:Box H A v)(g:H.h.get B=some (.map ks es)):A≠B:=fun e=>by
 obtain⟨_,hb⟩:=b;rw[e,g]at hb;cases hb
theorem yS.gm {H:AH}{At M L:Nat}{kv:Kvs}(t:yS H At M L kv): ∃es,H.h.get M=some (.map [10] es):=by
 obtain⟨_,_,_,_,es,_,_,_,_,ti,_⟩:=t;exact⟨es,ti.gM⟩
theorem yS.okH {H:AH}{At M L:Nat}{kv:Kvs}(t:yS H At M L kv):H.ok:=by
 obtain⟨_,_,_,_,_,_,_,_,_,ti,_⟩:=t;exact ti.ok
theorem zD1 {kv0:Kvs}{i a:Nat}{tx:Str}{At M L0 A1 X2 X3 X4 X5 c:Nat}{H:AH}{W:Nat->Prop}(m:Nat)(hm:400000000<=m)(hi:i<4294967296)(ha:a+tx.length<=32768)(hL0:L0<=50000000)(hkv0:kv0.length<=100000000)(hc:c<tx.length)(h:WI kv0 i a tx At M L0 A1 X2 X3 X4 X5 c H W):
  ∃H' W',(dy (m+1)).yld A1 [.agg (uJ (a+c) (tx.length - c))] H=some (.bool true,H')/\WI kv0 i a tx At M L0 A1 X2 X3 X4 X5 (c+gK (a+c) (tx.length - c)) H' W'/\Adw W H W' H':=by
 obtain⟨gA,x2,x3,x4,x5,⟨kv,t,ws⟩,hW,⟨ne2,ne3,ne4⟩,⟨na1,na2,na3,na4,na5⟩⟩:=h;rw[zLY m gA];obtain⟨es,gM⟩:=t.gm;have hk:=t.okH;obtain⟨x,hx⟩: ∃x,x=a+c:=⟨_,rfl⟩;obtain⟨r,hr⟩: ∃r,r=tx.length - c:=⟨_,rfl⟩;obtain⟨q1,q2,q3,q4⟩:=vS (x:=x) (n:=r) (by omega);have wstep:=ws.step hi ha hc;have hps:=zB4 (a:=a) hc;rw[<-hx,<-hr]at wstep⊢;obtain⟨k,hk9⟩: ∃k,k=gK x r:=⟨_,rfl⟩;obtain⟨tt,htt⟩: ∃tt,tt=min 128 (x % 128+r):=⟨_,rfl⟩;rw[<-hx,<-hr,<-hk9]at hps;rw[<-hk9]at q1 q2 q3 q4 wstep⊢;rw[<-htt]at q4;have lA:=hk.lt gA;have l2:=x2.lt hk;have l3:=x3.lt hk;have l4:=x4.lt hk;have l5:=x5.lt hk;have lt:=t.lt;have n12:=uO gA x2;have n13:=uO gA x3;have n14:=uO gA x4;have n15:=uO gA x5;have nM1:A1≠M:=fun e=>by rw[e,gM]at gA;cases gA
 have nM2:=zJ0 x2 gM;have nM3:=zJ0 x3 gM;have nM4:=zJ0 x4 gM;have nM5:=zJ0 x5 gM;obtain⟨b,hb⟩: ∃b,b=jX kv i (x / 128):=⟨_,rfl⟩;have hbl:b.length=128:=by rw[hb];exact kH ..
 have hkl:=ws.len;have hpl:=zJy a tx.length c;obtain⟨H1,A6,b1,p1,g1,m1,n1⟩:=box hk (.cells [.int .i64 ((0:Nat):Int), .int .i64 ((0:Nat):Int), .int .i64 ((0:Nat):Int)] 68 1 false);obtain⟨H2,e2,g2,s2,n2⟩:=yF p1.ok g1 (l':=uJ x r) rfl rfl;have e2':stN 3 (.ptr A6 0) (.agg (uJ x r)) H1=some (qM,H2):=e2;have P2:Prs H H2:=p1.fresh s2 fun B hB=>by omega
 have N1:=p1.next;have N2:=s2.next
 have gA2:=Prs.get P2 hk gA;have hbeg: ∀K:AH->Rs,xV A1 H2 K=K (H2.put A1 (.loop { lpW X2 X3 X4 X5 with state:= .busy})):=fun K=>by
  simp only[xV,gA2,lpW,yY]
 have s3:Stp (fun B=>B=A1) H2 (H2.put A1 (.loop { lpW X2 X3 X4 X5 with state:= .busy})):=(Stp.refl s2.ok).put (s2.ok.lt gA2) _ (.inr rfl);have gA3:(H2.put A1 (.loop { lpW X2 X3 X4 X5 with state:= .busy})).h.get A1=some (.loop { lpW X2 X3 X4 X5 with state:= .busy}):=by rw[AH.put_get,if_pos rfl]
 generalize H2.put A1 (.loop { lpW X2 X3 X4 X5 with state:= .busy})=H3 at s3 gA3 hbeg;have N3:=s3.next
 have t3:=(t.prs P2).free s3 fun B _ e=>by subst e;exact⟨na1,_,gA2, .inr ⟨_,rfl⟩⟩
 have T3:Stp (fun B=>B=A1\/B=X5\/B=At\/B=M) H H3:=Stp.thru (Prs.stp P2) s3 fun B e=> .inr (.inl e)
 obtain⟨H4,e4,p4⟩:=zAB m m (by omega) t3 (by omega) (by omega) i (x / 128);rw[<-hb]at e4;have N4:=p4.next
 have t4:=t3.prs p4;obtain⟨Z,hZ⟩: ∃Z:Str,Z=List.replicate 128 0:=⟨_,rfl⟩;have hZl:Z.length=128:=by rw[hZ];simp
 have hzr:rep 128 [AV.int .u8 ((0:Nat):Int)]=qR Z:=by rw[ZT,hZ]
 obtain⟨H5,A7,b5,p5,g5,m5,n5⟩:=box p4.ok (.cells (qR Z) 69 1 false);have N5:=p5.next
 have t5:=t4.prs p5;obtain⟨H6,e6,g6,s6⟩:=ZA p5.ok g5 hZl hbl;have N6:=s6.next
 have bxb: ∀ {y:Str},y.length=128->Bx (.cells (qR y) 69 1 false):=fun {y} hy=>by
  cases y with
  | nil=>simp at hy
  | cons z y=>exact .inl ⟨_,_,_,_,rfl⟩
 have t6:=t5.free s6 fun B _ e=>by subst e;exact⟨by omega,_,g5,bxb hZl⟩
 have T6:Stp (fun B=>B=A1\/B=X5\/B=At\/B=M) H H6:=Stp.thru (Stp.thru (Stp.thru T3 p4 fun B e=>e.elim) p5 fun B e=>e.elim) s6 fun B e=> .inl (by omega)
 obtain⟨rest,hrest⟩: ∃rest,rest=tx.drop c:=⟨_,rfl⟩;have hrl:rest.length=r:=by rw[hrest,zN,hr]
 rw[<-hrest]at x5 wstep;have hmin:min rest.length k=k:=by omega
 obtain⟨H7,e7,g7,s7⟩:=zOj (off:=x % 128) (m:=k) (cc:=2*(128 - x % 128)) (s:=rest) g6 s6.ok (by omega);rw[hmin]at e7 g7;have N7:=s7.next
 obtain⟨b',hb'⟩: ∃b',b'=Ex.over b (x % 128) (rest.take k):=⟨_,rfl⟩;have g7':H7.h.get A7=some (.cells (qR b') 69 1 false):=by rw[hb'];exact g7
 have hbl':b'.length=128:=by rw[hb',zB7 (by rw[zH];omega),hbl]
 have t7:=t6.free s7 fun B _ e=>by subst e;exact⟨by omega,_,g6,bxb hbl⟩
 have T7:Stp (fun B=>B=A1\/B=X5\/B=At\/B=M) H H7:=Stp.thru T6 s7 fun B e=> .inl (by omega)
 have nS: ∀ {B:Nat},B≠A1->B≠X5->B≠At->B≠M-> ¬(B=A1\/B=X5\/B=At\/B=M):=fun h1 h2 h3 h4 e=>by
  rcases e with e | e | e | e
  ·exact h1 e
  ·exact h2 e
  ·exact h3 e
  ·exact h4 e
 have x56:Box H6 X5 (S rest):=by
  have y1:=x5.mono hk P2 fun x=>x
  have y3:=y1.mono P2.ok s3 (fun e=>n15 e.symm);have y5:=(y3.mono s3.ok p4 fun x=>x).mono p4.ok p5 fun x=>x
  exact y5.mono p5.ok s6 (by omega)
 have x57:Box H7 X5 (S rest):=x56.mono s6.ok s7 (by omega);obtain⟨H8,e8,x58,s8⟩:=x57.st s7.ok (x:=S (rest.drop k)) rfl;have N8:=s8.next
 have t8:=t7.free s8 fun B _ e=>by subst e;exact⟨na5,Box.bx x57⟩
 have T8:Stp (fun B=>B=A1\/B=X5\/B=At\/B=M) H H8:=Stp.thru T7 s8 fun B e=> .inr (.inr (.inl e))
 have g78:H8.h.get A7=some (.cells (qR b') 69 1 false):=by rw[s8.keep _ (by omega) (by omega)];exact g7'
 obtain⟨m',rfl⟩: ∃m',m=m'+2:=⟨m - 2,by omega⟩;obtain⟨H9,e9,t9,s9⟩:=zCX m' (m'+2) (by omega) (by omega) t8 ws.srt (by omega) (by omega) i (x / 128) hbl' g78;have N9:=s9.next
 have T9:Stp (fun B=>B=A1\/B=X5\/B=At\/B=M) H H9:=Stp.thru T8 s9 fun B e=> .inr (.inr (.inr e))
 have gA9:H9.h.get A1=some (.loop { lpW X2 X3 X4 X5 with state:= .busy}):=by
  rw[s9.keep _ (by omega) (by omega),s8.keep _ (by omega) n15,s7.keep _ (by omega) (by omega),s6.keep _ (by omega) (by omega),p5.keep _ (by omega) (fun x=>x),p4.keep _ (by omega) (fun x=>x)];exact gA3
 have s10:Stp (fun B=>B=A1) H9 (H9.put A1 (.loop (lpW X2 X3 X4 X5))):=(Stp.refl s9.ok).put (s9.ok.lt gA9) _ (.inr rfl);have hend:YQ A1 none H9=some (.bool true,H9.put A1 (.loop (lpW X2 X3 X4 X5))):=by simp only[YQ,gA9,yY,lpW]
 have gA10:(H9.put A1 (.loop (lpW X2 X3 X4 X5))).h.get A1=some (.loop (lpW X2 X3 X4 X5)):=by rw[AH.put_get,if_pos rfl]
 have T10:Stp (fun B=>B=A1\/B=X5\/B=At\/B=M) H (H9.put A1 (.loop (lpW X2 X3 X4 X5))):=Stp.thru T9 s10 fun B e=> .inr (.inl e)
 have t10:=t9.free s10 fun B _ e=>by subst e;exact⟨na1,_,gA9, .inr ⟨_,rfl⟩⟩
 generalize H9.put A1 (.loop (lpW X2 X3 X4 X5))=H10 at s10 hend gA10 T10 t10;have x59:Box H9 X5 (S (rest.drop k)):=x58.mono s8.ok s9 (by omega);have hdd:rest.drop k=tx.drop (c+k):=by rw[hrest,List.drop_drop]
 refine⟨H10,W, ?_,⟨gA10,x2.mono hk T10 (nS (fun e=>n12 e.symm) (fun e=>ne2 e.symm) na2 nM2),x3.mono hk T10 (nS (fun e=>n13 e.symm) (fun e=>ne3 e.symm) na3 nM3),x4.mono hk T10 (nS (fun e=>n14 e.symm) (fun e=>ne4 e.symm) na4 nM4),by rw[<-hdd];exact x59.mono s9.ok s10 (fun e=>n15 e.symm),⟨_,t10.up (by omega),by rw[hb',hb];exact wstep⟩,hW,⟨ne2,ne3,ne4⟩,⟨na1,na2,na3,na4,na5⟩⟩,⟨T10.mono fun B _ hB=>(hW B).2 (by
  rcases hB with e | e | e | e
  ·exact .inl e
  ·exact .inr (.inr (.inl e))
  ·exact .inr (.inr (.inr (.inl e)))
  ·exact .inr (.inr (.inr (.inr e)))),fun B hB=> .inl hB⟩⟩
 have hl:aZ [2,3,4,5] (lpW X2 X3 X4 X5).live=true:=rfl;have hvl:(lpW X2 X3 X4 X5).vals=[.ptr X2 0, .ptr X3 0, .ptr X4 0, .ptr X5 0]:=rfl;have x23:Box H3 X2 (.ptr At 0):=(x2.mono hk P2 fun x=>x).mono P2.ok s3 (fun e=>n12 e.symm);have x33:Box H3 X3 (.int .i64 ((i:Nat):Int)):=(x3.mono hk P2 fun x=>x).mono P2.ok s3 (fun e=>n13 e.symm);have x28:Box H8 X2 (.ptr At 0):=x2.mono hk T8 (nS (fun e=>n12 e.symm) (fun e=>ne2 e.symm) na2 nM2);have x38:Box H8 X3 (.int .i64 ((i:Nat):Int)):=x3.mono hk T8 (nS (fun e=>n13 e.symm) (fun e=>ne3 e.symm) na3 nM3);have gp3:H3.h.get A6=some (.cells (uJ x r) 68 1 false):=by rw[s3.keep _ (by omega) (by omega)];exact g2
 have gp6:H6.h.get A6=some (.cells (uJ x r) 68 1 false):=by rw[s6.keep _ (by omega) (by omega),p5.keep _ (by omega) (fun x=>x),p4.keep _ (by omega) (fun x=>x)];exact gp3
 have gp8:H8.h.get A6=some (.cells (uJ x r) 68 1 false):=by rw[s8.keep _ (by omega) (by omega),s7.keep _ (by omega) (by omega)];exact gp6
 have q30:Eng.ld1 (.ptr A6 0) H3=some (.int .i64 ((x / 128:Nat):Int)):=by rw[qL gp3];rfl
 have q61:Eng.ld1 (.ptr A6 1) H6=some (.int .i64 ((x % 128:Nat):Int)):=by rw[qL gp6];rfl
 have q62:Eng.ld1 (.ptr A6 2) H6=some (.int .i64 ((tt:Nat):Int)):=by rw[qL gp6,htt];rfl
 have q80:Eng.ld1 (.ptr A6 0) H8=some (.int .i64 ((x / 128:Nat):Int)):=by rw[qL gp8];rfl
 have hsl:v7 128 1 (.ptr A7 0) (some (.int .i64 ((x % 128:Nat):Int))) (some (.int .i64 ((tt:Nat):Int))) none=some (.slice A7 (x % 128) k (2*(128 - x % 128))):=by
  have:=zAY (n:=128) (A:=A7) (lo:=x % 128) (hi:=tt) (by omega) (by omega) (by omega) .i64 .i64;rw[this,show tt - x % 128=k by omega]
 have hst:uV (S rest) (some (.int .i64 ((k:Nat):Int))) none=some (S (rest.drop k)):=by
  rw[zHA _ _ (by omega) (by rw[zS];omega),zS]
 have t00: ¬(((0:Nat):Int)≠((0:Nat):Int)):=by omega
 simp(maxSteps:=999999)(disch:=omega) only[zEd,eZ,hl,hvl,cond_true,b1,e2',hbeg,x23.ld,x33.ld,q30,e4,qK,nth,hzr,b5,e6,t00,x56.ld,q61,q62,hsl,e7,x57.ld,zLW,hst,e8,x28.ld,x38.ld,q80,zJv,e9];exact hend
theorem zHe {kv0:Kvs}{i a:Nat}{tx:Str}{At M L0 A1 X2 X3 X4 X5:Nat}(hi:i<4294967296)(ha:a+tx.length<=32768)(hL0:L0<=50000000)(hkv0:kv0.length<=100000000):Pc A1 a tx.length 400000000 (fun B=>B=X2\/B=X3) (WI kv0 i a tx At M L0 A1 X2 X3 X4 X5) where
 ok:=fun h=>by obtain⟨kv,t,_⟩:=h.ex;exact t.okH
 lt:=fun {c H W} h B hB=>by
  obtain⟨kv,t,_⟩:=h.ex;have hk:=t.okH;have lt:=t.lt;have l1:=hk.lt h.gA;have l2:=h.x2.lt hk;have l3:=h.x3.lt hk;have l4:=h.x4.lt hk;have l5:=h.x5.lt hk;rcases(h.w B).1 hB with e | e | e | e | e<;>omega
 frame:=fun {c H H' W S} h s hS=>by
  obtain⟨kv,t,ws⟩:=h.ex;have hk:=t.okH;have lt:=t.lt;have l1:=hk.lt h.gA;have l2:=h.x2.lt hk;have l3:=h.x3.lt hk;have l4:=h.x4.lt hk;have l5:=h.x5.lt hk;have no: ∀ {B},B<H.next->W B-> ¬S B:=fun hl hw hs=>(hS _ hl hs).1 hw
  have n1:=no l1 ((h.w A1).2 (.inl rfl));have n2: ¬S X2:=fun hs=>(hS _ l2 hs).2.1 (.inl rfl)
  have n3: ¬S X3:=fun hs=>(hS _ l3 hs).2.1 (.inr rfl)
  have n4:=no l4 ((h.w X4).2 (.inr (.inl rfl)));have n5:=no l5 ((h.w X5).2 (.inr (.inr (.inl rfl))));have nT:=no lt.1 ((h.w At).2 (.inr (.inr (.inr (.inl rfl)))));exact⟨by rw[s.keep _ l1 n1];exact h.gA,h.x2.mono hk s n2,h.x3.mono hk s n3,h.x4.mono hk s n4,h.x5.mono hk s n5,⟨kv,t.free s fun B hl hs=>⟨fun e=>nT (e▸hs),(hS B hl hs).2.2⟩,ws⟩,h.w,h.ne,h.na⟩
 run:=fun {c H W} m hm hc h=>zD1 m hm hi ha hL0 hkv0 hc h
set_option maxRecDepth 20000 in
theorem zOm (m n:Nat)(a b c d:Nat)(H:AH):callV (s28 (dy (m+1)) n).S (dy (m+1)) (.func 29 [] [.ptr a 0, .ptr b 0, .ptr c 0, .ptr d 0]) [] H=f29 (dy m) m [.ptr a 0, .ptr b 0, .ptr c 0, .ptr d 0] H:=rfl
theorem parts_ok (D:Dyn)(n:Nat){H:AH}(hk:H.ok)(a k:Nat): ∃H' Ba Bn,f30 D n [.int .i64 ((a:Nat):Int), .int .i64 ((k:Nat):Int)] H=some (.func 57 [] [.ptr Bn 0, .ptr Ba 0],H')/\Prs H H'/\Box H' Ba (.int .i64 ((a:Nat):Int))/\Box H' Bn (.int .i64 ((k:Nat):Int))/\Ba≠Bn/\H.next<=Ba/\H.next<=Bn:=by
 obtain⟨H1,Ba,b1,p1,g1,m1,n1⟩:=box hk (.cells [.int .i64 ((a:Nat):Int)] 3 1 false);obtain⟨H2,Bn,b2,p2,g2,m2,n2⟩:=box p1.ok (.cells [.int .i64 ((k:Nat):Int)] 3 1 false);have N1:=p1.next
 have hc: ∀z:Int,qT (.int .i64 z)=[.int .i64 z]:=fun z=>rfl
 refine⟨H2,Ba,Bn, ?_,p1.trans p2,⟨_,Prs.get p2 p1.ok g1⟩,⟨_,g2⟩,by omega,m1,by omega⟩;simp(maxSteps:=999999)(disch:=omega) only[f30,eZ,hc,b1,b2]
theorem zD2 (m n:Nat)(hm:400000000<=m){H:AH}{At M L0 X0 X1 X2 X3:Nat}{kv0:Kvs}{i a:Nat}{tx:Str}(t:yS H At M L0 kv0)(hs:Srt kv0)(hi:i<4294967296)(ha:a+tx.length<=32768)(hL0:L0<=50000000)(hkv0:kv0.length<=100000000)
  (x0:Box H X0 (S tx)) (x1:Box H X1 (.int .i64 ((a:Nat):Int))) (x2:Box H X2 (.ptr At 0)) (x3:Box H X3 (.int .i64 ((i:Nat):Int))) (n2:X2≠At) (n3:X3≠At):
  ∃H' kv',f29 (dy (m+2)) n [.ptr X0 0, .ptr X1 0, .ptr X2 0, .ptr X3 0] H=some (.int .i64 ((0:Nat):Int),H')/\yS H' At M (L0+200*pcs a tx.length tx.length) kv'/\WS kv0 kv' i a tx tx.length/\Stp (fun B=>B=At\/B=M) H H':=by
 have hk:=t.okH;have lt:=t.lt;have l0:=x0.lt hk;have l1:=x1.lt hk;have l2:=x2.lt hk;have l3:=x3.lt hk;obtain⟨H1,X4,b1,p1,g1,m1,w1⟩:=box hk (.cells [.int .i64 ((0:Nat):Int)] 30 1 false);obtain⟨H2,X5,b2,p2,g2,m2,w2⟩:=box p1.ok (.cells [S []] 9 1 false);have N1:=p1.next;have N2:=p2.next
 have P2:=p1.trans p2;obtain⟨H3,e3,x53,s3⟩:=(show Box H2 X5 (S [])from⟨_,g2⟩).st p2.ok (x:=S tx) rfl;have N3:=s3.next
 have P3:Prs H H3:=P2.fresh s3 fun B hB=>by omega
 obtain⟨H4,Ba,Bn,e4,p4,ba4,bn4,hab,la,ln⟩:=parts_ok (dy (m+2)) n P3.ok a tx.length;have N4:=p4.next
 have lb1:=ba4.lt p4.ok;have lb2:=bn4.lt p4.ok;have P4:=P3.trans p4;have p5:Prs H4 (H4.push (.loop (lpW X2 X3 X4 X5))):=(Stp.refl p4.ok).push _;have g5:(H4.push (.loop (lpW X2 X3 X4 X5))).h.get H4.next=some (.loop (lpW X2 X3 X4 X5)):=AH.push_get_eq _ _
 have hnew: ∀K:Nat->AH->Rs,XO H4 (.loop ⟨.ready,none,29,0,[2,3,4,5],[.ptr X2 0, .ptr X3 0, .ptr X4 0, .ptr X5 0]⟩) K=K H4.next (H4.push (.loop (lpW X2 X3 X4 X5))):=fun K=>dK p4.ok _ K
 have hnx:(H4.push (.loop (lpW X2 X3 X4 X5))).next=H4.next+1:=rfl
 generalize H4.push (.loop (lpW X2 X3 X4 X5))=H5 at p5 g5 hnew hnx;obtain⟨A1,hA1⟩: ∃A1,A1=H4.next:=⟨_,rfl⟩
 rw[<-hA1]at g5 hnew;have P5:=P4.trans p5;have x41:Box H1 X4 (.int .i64 ((0:Nat):Int)):=⟨_,g1⟩;have x43:Box H3 X4 (.int .i64 ((0:Nat):Int)):=(x41.mono p1.ok p2 fun x=>x).mono p2.ok s3 (by omega);have x45:Box H5 X4 (.int .i64 ((0:Nat):Int)):=(x43.mono P3.ok p4 fun x=>x).mono p4.ok p5 fun x=>x
 have x55:Box H5 X5 (S tx):=(x53.mono P3.ok p4 fun x=>x).mono p4.ok p5 fun x=>x
 have I5:WI kv0 i a tx At M L0 A1 X2 X3 X4 X5 0 H5 (fun B=>B=A1\/B=X4\/B=X5\/B=At\/B=M):=
  ⟨g5,x2.mono hk P5 fun x=>x,x3.mono hk P5 fun x=>x,x45,by rw[List.drop_zero];exact x55,⟨kv0,(t.prs P5).up (by omega),zD0 hs i a tx⟩,fun B=>Iff.rfl,⟨by omega,by omega,by omega⟩,⟨by omega,n2,n3,by omega,by omega⟩⟩
 obtain⟨H6,W6,e6,I6,s6,f6⟩:=QG (zHe hi ha hL0 hkv0) m hm (by omega) (by omega) hab (fun e=>by rcases e with e | e<;>omega) (fun e=>by rcases e with e | e<;>omega) tx.length 0 (m+1) (by omega) (by omega) (by omega) I5 (by simpa using ba4.mono p4.ok p5 fun x=>x) (by simpa using bn4.mono p4.ok p5 fun x=>x) (fun e=>by rcases e with e | e | e | e | e<;>omega) (fun e=>by rcases e with e | e | e | e | e<;>omega);obtain⟨kv',t6,ws6⟩:=I6.ex;have hk6:=t6.okH;have N5:=p5.next;have N6:=s6.next
 have s7:Stp (fun B=>B=A1) H6 (H6.put A1 .dead):=(Stp.refl hk6).put (hk6.lt I6.gA) _ (.inr rfl);have hendL: ∀K:Option Code->AH->Rs,fK A1 H6 K=K none (H6.put A1 .dead):=fun K=>by
  simp only[fK,I6.gA,lpW,yY]
 generalize H6.put A1 .dead=H7 at s7 hendL;have N7:=s7.next
 have t7:=t6.free s7 fun B _ e=>by subst e;exact⟨by omega,_,I6.gA, .inr ⟨_,rfl⟩⟩
 have nA4:=uO I6.gA I6.x4;have x47:Box H7 X4 (.int .i64 ((0:Nat):Int)):=I6.x4.mono hk6 s7 (fun e=>nA4 e.symm);obtain⟨H8,e8,x48,s8⟩:=x47.st s7.ok (x:= .int .i64 ((0:Nat):Int)) rfl;have t8:=t7.free s8 fun B _ e=>by subst e;exact⟨by omega,Box.bx x47⟩
 refine⟨H8,kv', ?_,t8,ws6, ?_⟩
 ·have hc: ∀z:Int,qT (.int .i64 z)=[.int .i64 z]:=fun z=>rfl
  have hcS:qT (S [])=[S []]:=rfl;have hS:(AV.str 0 0)=S []:=rfl;have x02:Box H2 X0 (S tx):=x0.mono hk P2 fun x=>x
  have x01:Box H1 X0 (S tx):=x0.mono hk p1 fun x=>x
  have x03:Box H3 X0 (S tx):=x0.mono hk P3 fun x=>x
  have x13:Box H3 X1 (.int .i64 ((a:Nat):Int)):=x1.mono hk P3 fun x=>x
  have hf:f57 (dy (m+1)) (m+1) [.yieldTo A1, .ptr Bn 0, .ptr Ba 0] H5=some (.tuple [],H6):=by
   simp(maxSteps:=999999)(disch:=omega) only[f57,eZ,e6,zLA]
  have hrf:rfC (s29 (dy (m+2)) n).S (dy (m+2)) (.func 57 [] [.ptr Bn 0, .ptr Ba 0]) A1 H5=some (.tuple [],H6):=hf;simp(maxSteps:=999999)(disch:=omega) only[f29,eZ,hc,b1,x01.ld,hS,hcS,b2,e3,x13.ld,x03.ld,yQ,e4,hnew,hrf,hendL,zH9,e8,x48.ld]
 ·refine⟨s8.ok,by have:=s8.next;omega,fun B hB hS=> ?_⟩
  have h1:B≠At:=fun e=>hS (.inl e)
  have h2:B≠M:=fun e=>hS (.inr e)
  rw[s8.keep _ (by omega) (by omega),s7.keep _ (by omega) (by omega),s6.keep _ (by omega) (fun e=>by
   rcases e with(e | e | e | e | e) | e | e<;>omega),P5.keep _ hB fun x=>x]
theorem zCW (m n:Nat)(hm:400000000<=m){H:AH}{At M L0:Nat}{kv0:Kvs}{i a:Nat}{tx:Str}(t:yS H At M L0 kv0)(hs:Srt kv0)(hi:1<=i)(hi2:i<=2147483647)(ha:a+tx.length<=32768)(hL0:L0<=50000000)(hkv0:kv0.length<=100000000):
  ∃H' kv',f9 (dy (m+3)) n [.ptr At 0, .int .i64 ((i:Nat):Int), .int .i64 ((a:Nat):Int),S tx] H=some (.int .i64 ((0:Nat):Int),H')/\yS H' At M (L0+200*pcs a tx.length tx.length) kv'/\WS kv0 kv' i a tx tx.length/\Stp (fun B=>B=At\/B=M) H H':=by
 have hk:=t.okH;have lt:=t.lt;obtain⟨H1,X4,b1,p1,g1,m1,w1⟩:=box hk (.cells [.ptr At 0] 25 1 false);obtain⟨H2,X5,b2,p2,g2,m2,w2⟩:=box p1.ok (.cells [.int .i64 ((i:Nat):Int)] 3 1 false);obtain⟨H3,X6,b3,p3,g3,m3,w3⟩:=box p2.ok (.cells [.int .i64 ((a:Nat):Int)] 3 1 false);obtain⟨H4,X7,b4,p4,g4,m4,w4⟩:=box p3.ok (.cells [S tx] 9 1 false);have N1:=p1.next;have N2:=p2.next;have N3:=p3.next;have N4:=p4.next
 have P4:=((p1.trans p2).trans p3).trans p4;have x4:Box H4 X4 (.ptr At 0):=⟨_,Prs.get ((p2.trans p3).trans p4) p1.ok g1⟩;have x5:Box H4 X5 (.int .i64 ((i:Nat):Int)):=⟨_,Prs.get (p3.trans p4) p2.ok g2⟩;have x6:Box H4 X6 (.int .i64 ((a:Nat):Int)):=⟨_,Prs.get p4 p3.ok g3⟩;have x7:Box H4 X7 (S tx):=⟨_,g4⟩;have hc: ∀z:Int,qT (.int .i64 z)=[.int .i64 z]:=fun z=>rfl
 have hcp:qT (.ptr At 0)=[.ptr At 0]:=rfl;have hcS:qT (S tx)=[S tx]:=rfl;have hS:(AV.str 0 0)=S []:=rfl;have i1:f27 (dy (m+3)) n [.int .i64 ((i:Nat):Int)] H4=some (.bool true,H4):=by
  have a1:((1:Nat):Int)<=((i:Nat):Int):=by omega
  have a2:((i:Nat):Int)<=((2147483647:Nat):Int):=by omega
  simp only[f27,eZ,a1,a2,decide_true]
 have t1: ¬((a:Nat):Int)< ((0:Nat):Int):=by omega
 have t2: ¬((32768:Nat):Int)< ((a:Nat):Int):=by omega
 have t3:((32768:Nat):Int) - ((a:Nat):Int)=((32768 - a:Nat):Int):=by omega
 have t4: ¬((32768 - a:Nat):Int)< ((tx.length:Nat):Int):=by omega
 by_cases h0:tx=[]
 ·have q:_=True:=eq_true h0;refine⟨H4,kv0, ?_,(t.prs P4).up (by omega),by rw[h0];exact zD0 hs i a [],Prs.stp P4⟩;simp(maxSteps:=999999)(disch:=omega) only[f9,eZ,hc,hcp,hcS,b1,b2,b3,b4,x4.ld,cq,x5.ld,i1,x6.ld,t1,t2,x7.ld,yQ,t3,t4,hS,jE,q]
 ·obtain⟨H5,At',M',e5,p5,l5,l6,t5⟩:=zBP (dy (m+3)) n (t.prs P4);have N5:=p5.next
  obtain⟨H6,kv',e6,t6,ws,s6⟩:=zD2 m (m+2) hm (t.prs (P4.trans p5)) hs (by omega) ha hL0 hkv0 (x7.mono p4.ok p5 fun x=>x) (x6.mono p4.ok p5 fun x=>x) (x4.mono p4.ok p5 fun x=>x) (x5.mono p4.ok p5 fun x=>x) (by omega) (by omega);refine⟨H6,kv', ?_,t6,ws,(Prs.stp (P4.trans p5)).trans s6⟩;have t00: ¬(((0:Nat):Int)≠((0:Nat):Int)):=by omega
  have ew:f28 (dy (m+3)) n [.ptr At 0, .func 29 [] [.ptr X7 0, .ptr X6 0, .ptr X4 0, .ptr X5 0]] H4=some (.int .i64 ((0:Nat):Int),H6):=by
   simp(maxSteps:=999999)(disch:=omega) only[f28,zLF,eZ,e5,zOm,e6,t00]
  simp(maxSteps:=999999)(disch:=omega) only[f9,eZ,hc,hcp,hcS,b1,b2,b3,b4,x4.ld,cq,x5.ld,i1,x6.ld,t1,t2,x7.ld,yQ,t3,t4,hS,jE,h0,ew]
  try rfl
def lpD (X5 X6 X10 X11 X12:Nat):ALoop:=⟨.ready,none,12,0,[5,6,10,11,12],[.ptr X5 0, .ptr X6 0, .ptr X10 0, .ptr X11 0, .ptr X12 0]⟩
structure RI (H0:AH)(kv:Kvs)(i a At X5 X6 X10 X11 X12 A1:Nat)(c:Nat)(H:AH)(W:Nat->Prop):Prop where
 prs:Prs H0 H
 gA:H.h.get A1=some (.loop (lpD X5 X6 X10 X11 X12))
 x5:Box H X5 (.ptr At 0)
 x6:Box H X6 (.int .i64 ((i:Nat):Int))
 x10:Box H X10 (S [])
 x11:Box H X11 (.int .i64 ((0:Nat):Int))
 x12: ∃v,Box H X12 v/\j7 1 5 H v c (qR (jM kv i a c))/\(∀B,Blk v B->H0.next<=B/\B≠A1/\B≠X5/\B≠X6/\B≠X10/\B≠X11/\B≠X12)/\ ∀B,W B↔B=A1\/B=X10\/B=X11\/B=X12\/Blk v B
 lo:H0.next<=A1/\H0.next<=X10/\H0.next<=X11/\H0.next<=X12
 ne:X12≠X5/\X12≠X6/\X12≠X10/\X12≠X11
theorem zLZ (m:Nat){H:AH}{A1 X5 X6 X10 X11 X12:Nat}(gA:H.h.get A1=some (.loop (lpD X5 X6 X10 X11 X12)))(az:List AV):(dy (m+1)).yld A1 az H=zEe (dy m) m A1 (lpD X5 X6 X10 X11 X12) az H:=by
 show cT (tabR (dy m) m) A1 az H=_;simp only[cT,gA];rfl
theorem zHJ {H0:AH}{kv:Kvs}{i a At M L X5 X6 X10 X11 X12 A1 c n:Nat}{H:AH}{W:Nat->Prop}(m:Nat)(hm:400000000<=m)(t0:yS H0 At M L kv)(hL:L<=90000000)(hkv:kv.length<=100000000)(ha:a+n<=100000)(hc:c<n)(h:RI H0 kv i a At X5 X6 X10 X11 X12 A1 c H W):
  ∃H' W',(dy (m+1)).yld A1 [.agg (uJ (a+c) (n - c))] H=some (.bool true,H')/\RI H0 kv i a At X5 X6 X10 X11 X12 A1 (c+gK (a+c) (n - c)) H' W'/\Adw W H W' H':=by
 obtain⟨prs,gA,x5,x6,x10,x11,⟨v,x12,gv,fv,hW⟩,lo,ne⟩:=h;rw[zLZ m gA];have hk:=prs.ok;obtain⟨x,hx⟩: ∃x,x=a+c:=⟨_,rfl⟩;obtain⟨r,hr⟩: ∃r,r=n - c:=⟨_,rfl⟩;obtain⟨q1,q2,q3,q4⟩:=vS (x:=x) (n:=r) (by omega);rw[<-hx,<-hr];obtain⟨k,hk9⟩: ∃k,k=gK x r:=⟨_,rfl⟩;obtain⟨tt,htt⟩: ∃tt,tt=min 128 (x % 128+r):=⟨_,rfl⟩;rw[<-hk9]at q1 q2 q3 q4⊢;rw[<-htt]at q4;have lA:=hk.lt gA;have l5:=x5.lt hk;have l6:=x6.lt hk;have l10:=x10.lt hk;have l11:=x11.lt hk;have l12:=x12.lt hk;have n5:=uO gA x5;have n6:=uO gA x6;have n10:=uO gA x10;have n11:=uO gA x11;have n12:=uO gA x12;have N0:=prs.next
 obtain⟨H1,A6,b1,p1,g1,m1,n1⟩:=box hk (.cells [.int .i64 ((0:Nat):Int), .int .i64 ((0:Nat):Int), .int .i64 ((0:Nat):Int)] 68 1 false);obtain⟨H2,e2,g2,s2,n2⟩:=yF p1.ok g1 (l':=uJ x r) rfl rfl;have e2':stN 3 (.ptr A6 0) (.agg (uJ x r)) H1=some (qM,H2):=e2;have P2:Prs H H2:=p1.fresh s2 fun B hB=>by omega
 have N1:=p1.next;have N2:=s2.next
 have gA2:=Prs.get P2 hk gA;have hbeg: ∀K:AH->Rs,xV A1 H2 K=K (H2.put A1 (.loop { lpD X5 X6 X10 X11 X12 with state:= .busy})):=fun K=>by
  simp only[xV,gA2,lpD,yY]
 have s3:Stp (fun B=>B=A1) H2 (H2.put A1 (.loop { lpD X5 X6 X10 X11 X12 with state:= .busy})):=(Stp.refl s2.ok).put (s2.ok.lt gA2) _ (.inr rfl);have gA3:(H2.put A1 (.loop { lpD X5 X6 X10 X11 X12 with state:= .busy})).h.get A1=some (.loop { lpD X5 X6 X10 X11 X12 with state:= .busy}):=by rw[AH.put_get,if_pos rfl]
 generalize H2.put A1 (.loop { lpD X5 X6 X10 X11 X12 with state:= .busy})=H3 at s3 gA3 hbeg;have N3:=s3.next
 have P03:Prs H0 H3:=(prs.trans P2).fresh s3 fun B hB=>by omega
 obtain⟨H4,e4,p4⟩:=zAB m m (by omega) (t0.prs P03) (by omega) (by omega) i (x / 128);obtain⟨b,hb⟩: ∃b,b=jX kv i (x / 128):=⟨_,rfl⟩;have hbl:b.length=128:=by rw[hb];exact kH ..
 rw[<-hb]at e4;have N4:=p4.next
 obtain⟨Z,hZ⟩: ∃Z:Str,Z=List.replicate 128 0:=⟨_,rfl⟩;have hZl:Z.length=128:=by rw[hZ];simp
 have hzr:rep 128 [AV.int .u8 ((0:Nat):Int)]=qR Z:=by rw[ZT,hZ]
 obtain⟨H5,A7,b5,p5,g5,m5,w5⟩:=box p4.ok (.cells (qR Z) 69 1 false);have N5:=p5.next
 obtain⟨H6,e6,g6,s6⟩:=ZA p5.ok g5 hZl hbl;have N6:=s6.next
 have P36:Prs H3 H6:=(p4.trans p5).fresh s6 fun B hB=>by omega
 have keep: ∀ {B v},Box H B v->A1≠B->Box H6 B v:=fun hb hne=>((hb.mono hk P2 fun x=>x).mono P2.ok s3 (fun e=>hne e.symm)).mono s3.ok P36 fun x=>x
 have gv6:j7 1 5 H6 v c (qR (jM kv i a c)):=((j7.mono gv P2 fun _ _ x=>x).mono s3 fun B hB e=>(fv B hB).2.1 e).mono P36 fun _ _ x=>x
 have hbp:(b.drop (x % 128)).take k=jM kv i x k:=by rw[hb];exact zAv kv i x (by omega)
 have hrow:Rw 1 H6 (.slice A7 (x % 128) k (2*(128 - x % 128))) k (qR (jM kv i x k)):=by
  rw[<-hbp];refine⟨by rw[qU,zH,zN];omega, .inr (.inr ⟨A7,x % 128,_,_,_,_,_,rfl,g6,s6.ok.lt g6,by rw[qU];omega, ?_⟩)⟩;simp only[qR,List.map_take,List.map_drop,Nat.mul_one]
 obtain⟨v',H7,e7,gv7,s7,f7⟩:=j7.app (bytes:=1) (m:=k) s6.ok (by decide) gv6 hrow.srcOf hrow.len (bytesV_cells _) (by omega) (by decide);have N7:=s7.next
 have x126:=keep x12 n12;have x127:Box H7 X12 v:=x126.mono s6.ok s7 fun hB=>(fv _ hB).2.2.2.2.2.2 rfl
 obtain⟨H8,e8,x128,s8⟩:=x127.st s7.ok (x:=v') gv7.isCell;have N8:=s8.next
 have nv': ∀B,Blk v' B->H0.next<=B/\B≠A1/\B≠X5/\B≠X6/\B≠X10/\B≠X11/\B≠X12:=fun B hB=>by
  rcases f7 B hB with e | e
  ·exact fv B e
  ·exact⟨by omega,by omega,by omega,by omega,by omega,by omega,by omega⟩
 have gA8:H8.h.get A1=some (.loop { lpD X5 X6 X10 X11 X12 with state:= .busy}):=by
  rw[s8.keep _ (by omega) (by omega),s7.keep _ (by omega) (fun hB=>(fv _ hB).2.1 rfl),P36.keep _ (by omega) (fun x=>x)];exact gA3
 have s9:Stp (fun B=>B=A1) H8 (H8.put A1 (.loop (lpD X5 X6 X10 X11 X12))):=(Stp.refl s8.ok).put (s8.ok.lt gA8) _ (.inr rfl);have hend:YQ A1 none H8=some (.bool true,H8.put A1 (.loop (lpD X5 X6 X10 X11 X12))):=by simp only[YQ,gA8,yY,lpD]
 have gA9:(H8.put A1 (.loop (lpD X5 X6 X10 X11 X12))).h.get A1=some (.loop (lpD X5 X6 X10 X11 X12)):=by rw[AH.put_get,if_pos rfl]
 generalize H8.put A1 (.loop (lpD X5 X6 X10 X11 X12))=H9 at s9 hend gA9;have keep9: ∀ {B y},Box H6 B y->(∀hB:Blk v B,False)->B≠X12->A1≠B->Box H9 B y:=fun hb h1 h2 h3=>((hb.mono s6.ok s7 h1).mono s7.ok s8 h2).mono s8.ok s9 (fun e=>h3 e.symm)
 have T9:Stp (fun B=>B=A1\/B=X12\/Blk v B) H H9:=by
  have T3:Stp (fun B=>B=A1\/B=X12\/Blk v B) H H3:=Stp.thru (Prs.stp P2) s3 fun B e=> .inr (.inl e)
  have T6:=Stp.thru T3 P36 fun B e=>e.elim
  have T7:=Stp.thru T6 s7 fun B e=> .inr (.inr (.inr e))
  have T8:=Stp.thru T7 s8 fun B e=> .inr (.inr (.inl e))
  exact Stp.thru T8 s9 fun B e=> .inr (.inl e)
 refine⟨H9,fun B=>B=A1\/B=X10\/B=X11\/B=X12\/Blk v' B, ?_,⟨prs.fresh T9 fun B hB=> ?_,gA9,keep9 (keep x5 n5) (fun hB=>(fv _ hB).2.2.1 rfl) (fun e=>ne.1 e.symm) n5,keep9 (keep x6 n6) (fun hB=>(fv _ hB).2.2.2.1 rfl) (fun e=>ne.2.1 e.symm) n6,keep9 (keep x10 n10) (fun hB=>(fv _ hB).2.2.2.2.1 rfl) (fun e=>ne.2.2.1 e.symm) n10,keep9 (keep x11 n11) (fun hB=>(fv _ hB).2.2.2.2.2.1 rfl) (fun e=>ne.2.2.2 e.symm) n11,⟨v',x128.mono s8.ok s9 (fun e=>n12 e.symm), ?_,nv',fun B=>Iff.rfl⟩,lo,ne⟩,⟨T9.mono fun B _ hB=>(hW B).2 (by
  rcases hB with e | e | e
  ·exact .inl e
  ·exact .inr (.inr (.inr (.inl e)))
  ·exact .inr (.inr (.inr (.inr e)))),fun B hB=> ?_⟩⟩
 ·have hl:aZ [5,6,10,11,12] (lpD X5 X6 X10 X11 X12).live=true:=rfl;have hvl:(lpD X5 X6 X10 X11 X12).vals=[.ptr X5 0, .ptr X6 0, .ptr X10 0, .ptr X11 0, .ptr X12 0]:=rfl;have x53:Box H3 X5 (.ptr At 0):=(x5.mono hk P2 fun x=>x).mono P2.ok s3 (fun e=>n5 e.symm);have x63:Box H3 X6 (.int .i64 ((i:Nat):Int)):=(x6.mono hk P2 fun x=>x).mono P2.ok s3 (fun e=>n6 e.symm);have gp3:H3.h.get A6=some (.cells (uJ x r) 68 1 false):=by rw[s3.keep _ (by omega) (by omega)];exact g2
  have gp6:H6.h.get A6=some (.cells (uJ x r) 68 1 false):=by rw[P36.keep _ (by omega) (fun x=>x)];exact gp3
  have q30:Eng.ld1 (.ptr A6 0) H3=some (.int .i64 ((x / 128:Nat):Int)):=by rw[qL gp3];rfl
  have q61:Eng.ld1 (.ptr A6 1) H6=some (.int .i64 ((x % 128:Nat):Int)):=by rw[qL gp6];rfl
  have q62:Eng.ld1 (.ptr A6 2) H6=some (.int .i64 ((tt:Nat):Int)):=by rw[qL gp6,htt];rfl
  have hsl:v7 128 1 (.ptr A7 0) (some (.int .i64 ((x % 128:Nat):Int))) (some (.int .i64 ((tt:Nat):Int))) none=some (.slice A7 (x % 128) k (2*(128 - x % 128))):=by
   have:=zAY (n:=128) (A:=A7) (lo:=x % 128) (hi:=tt) (by omega) (by omega) (by omega) .i64 .i64;rw[this,show tt - x % 128=k by omega]
  have t00: ¬(((0:Nat):Int)≠((0:Nat):Int)):=by omega
  simp(maxSteps:=999999)(disch:=omega) only[zEe,eZ,hl,hvl,cond_true,b1,e2',hbeg,x53.ld,x63.ld,q30,e4,qK,nth,hzr,b5,e6,t00,x126.ld,q61,q62,hsl,e7,e8];exact hend
 ·rcases hB with e | e | e
  ·rw[e];exact lo.1
  ·rw[e];exact lo.2.2.2
  ·exact(fv B e).1
 ·have e:qR (jM kv i a (c+k))=qR (jM kv i a c)++qR (jM kv i x k):=by rw[zCL,hx];simp[qR]
  rw[e];exact(j7.mono gv7 s8 fun B hB e=>(nv' B hB).2.2.2.2.2.2 e).mono s9 fun B hB e=>(nv' B hB).2.1 e
 ·rcases hB with e | e | e | e | e
  ·exact .inl ((hW B).2 (.inl e))
  ·exact .inl ((hW B).2 (.inr (.inl e)))
  ·exact .inl ((hW B).2 (.inr (.inr (.inl e))))
  ·exact .inl ((hW B).2 (.inr (.inr (.inr (.inl e)))))
  ·rcases f7 B e with e | e
   ·exact .inl ((hW B).2 (.inr (.inr (.inr (.inr e)))))
   ·exact .inr (by omega)
theorem zKO {H0:AH}{kv:Kvs}{i a At M L X5 X6 X10 X11 X12 A1 n:Nat}(t0:yS H0 At M L kv)(hL:L<=90000000)(hkv:kv.length<=100000000)(ha:a+n<=100000):Pc A1 a n 400000000 (fun B=>B<H0.next\/B=X5\/B=X6) (RI H0 kv i a At X5 X6 X10 X11 X12 A1) where
 ok:=fun h=>h.prs.ok
 lt:=fun {c H W} h B hB=>by
  have hk:=h.prs.ok;have l1:=hk.lt h.gA;have l10:=h.x10.lt hk;have l11:=h.x11.lt hk;obtain⟨v,x12,gv,fv,hW⟩:=h.x12;have l12:=x12.lt hk;rcases(hW B).1 hB with e | e | e | e | e
  ·omega
  ·omega
  ·omega
  ·omega
  ·exact gv.lt e
 frame:=fun {c H H' W S} h s hS=>by
  have hk:=h.prs.ok;have l1:=hk.lt h.gA;have l5:=h.x5.lt hk;have l6:=h.x6.lt hk;have l10:=h.x10.lt hk;have l11:=h.x11.lt hk;obtain⟨v,x12,gv,fv,hW⟩:=h.x12;have l12:=x12.lt hk;have no: ∀ {B},B<H.next->W B-> ¬S B:=fun hl hw hs=>(hS _ hl hs).1 hw
  have n1:=no l1 ((hW A1).2 (.inl rfl));have n5: ¬S X5:=fun hs=>(hS _ l5 hs).2.1 (.inr (.inl rfl))
  have n6: ¬S X6:=fun hs=>(hS _ l6 hs).2.1 (.inr (.inr rfl))
  have n10:=no l10 ((hW X10).2 (.inr (.inl rfl)));have n11:=no l11 ((hW X11).2 (.inr (.inr (.inl rfl))));have n12:=no l12 ((hW X12).2 (.inr (.inr (.inr (.inl rfl)))));have N:=h.prs.next
  refine⟨⟨s.ok,by have:=s.next;omega,fun B hB hF=> ?_⟩,by rw[s.keep _ l1 n1];exact h.gA,h.x5.mono hk s n5,h.x6.mono hk s n6,h.x10.mono hk s n10,h.x11.mono hk s n11,⟨v,x12.mono hk s n12,gv.mono s fun B hB hs=>no (gv.lt hB) ((hW B).2 (.inr (.inr (.inr (.inr hB))))) hs,fv,hW⟩,h.lo,h.ne⟩
  rw[s.keep B (by omega) (fun hs=>(hS B (by omega) hs).2.1 (.inl hB)),h.prs.keep B hB hF]
 run:=fun {c H W} m hm hc h=>zHJ m hm t0 hL hkv ha hc h
theorem zHb (m n:Nat)(hm:400000000<=m){H:AH}{At M L:Nat}{kv:Kvs}{i size a k:Nat}(t:yS H At M L kv)(hi:1<=i)(hi2:i<=2147483647)(hsz:size<=32768)(hL:L<=90000000)(hkv:kv.length<=100000000):
  ∃H',f12 (dy (m+2)) n [.ptr At 0, .int .i64 ((i:Nat):Int), .int .i64 ((size:Nat):Int), .int .i64 ((a:Nat):Int), .int .i64 ((k:Nat):Int)] H=some (.tuple [S (jM kv i a (min k (size - a))), .int .i64 ((0:Nat):Int)],H')/\Prs H H':=by
 have hk:=t.okH;have lt:=t.lt;obtain⟨H1,X5,b1,p1,g1,m1,w1⟩:=box hk (.cells [.ptr At 0] 25 1 false);obtain⟨H2,X6,b2,p2,g2,m2,w2⟩:=box p1.ok (.cells [.int .i64 ((i:Nat):Int)] 3 1 false);obtain⟨H3,X10,b3,p3,g3,m3,w3⟩:=box p2.ok (.cells [S []] 9 1 false);obtain⟨H4,X11,b4,p4,g4,m4,w4⟩:=box p3.ok (.cells [.int .i64 ((0:Nat):Int)] 30 1 false);have N1:=p1.next;have N2:=p2.next;have N3:=p3.next;have N4:=p4.next
 have P4:=((p1.trans p2).trans p3).trans p4;have x5:Box H4 X5 (.ptr At 0):=⟨_,Prs.get ((p2.trans p3).trans p4) p1.ok g1⟩;have x6:Box H4 X6 (.int .i64 ((i:Nat):Int)):=⟨_,Prs.get (p3.trans p4) p2.ok g2⟩;have x10:Box H4 X10 (S []):=⟨_,Prs.get p4 p3.ok g3⟩;have x11:Box H4 X11 (.int .i64 ((0:Nat):Int)):=⟨_,g4⟩;have hc: ∀z:Int,qT (.int .i64 z)=[.int .i64 z]:=fun z=>rfl
 have hcp:qT (.ptr At 0)=[.ptr At 0]:=rfl;have hcS:qT (S [])=[S []]:=rfl;have hcN:qT .nilSlice=[.nilSlice]:=rfl;have hS:(AV.str 0 0)=S []:=rfl;have i1:f27 (dy (m+2)) n [.int .i64 ((i:Nat):Int)] H4=some (.bool true,H4):=by
  have a1:((1:Nat):Int)<=((i:Nat):Int):=by omega
  have a2:((i:Nat):Int)<=((2147483647:Nat):Int):=by omega
  simp only[f27,eZ,a1,a2,decide_true]
 have t1: ¬((size:Nat):Int)< ((0:Nat):Int):=by omega
 have t2: ¬((32768:Nat):Int)< ((size:Nat):Int):=by omega
 have t3: ¬((a:Nat):Int)< ((0:Nat):Int):=by omega
 have t4: ¬((k:Nat):Int)< ((0:Nat):Int):=by omega
 by_cases hge:size<=a
 ·have t5:((size:Nat):Int)<=((a:Nat):Int):=by omega
  obtain⟨H5,e5,x105,s5⟩:=x10.st p4.ok (x:=S []) rfl;have x115:Box H5 X11 (.int .i64 ((0:Nat):Int)):=x11.mono p4.ok s5 (by omega);obtain⟨H6,e6,x116,s6⟩:=x115.st s5.ok (x:= .int .i64 ((0:Nat):Int)) rfl;have x106:Box H6 X10 (S []):=x105.mono s5.ok s6 (by omega);have hz:jM kv i a (min k (size - a))=[]:=by rw[show min k (size - a)=0 by omega];rfl
  rw[hz];refine⟨H6, ?_,(P4.fresh s5 fun B hB=>by omega).fresh s6 fun B hB=>by omega⟩;simp(maxSteps:=999999)(disch:=omega) only[f12,eZ,hc,hcp,hcS,hS,b1,b2,b3,b4,x5.ld,cq,x6.ld,i1,t1,t2,t3,t4,t5,e5,e6,x106.ld,x116.ld]
 ·have t5: ¬((size:Nat):Int)<=((a:Nat):Int):=by omega
  obtain⟨len,hlen⟩: ∃len,len=min k (size - a):=⟨_,rfl⟩;rw[<-hlen];have hsub:((size:Nat):Int) - ((a:Nat):Int)=((size - a:Nat):Int):=by omega
  have hmn:mn2 (.int .i64 ((k:Nat):Int)) (.int .i64 ((size - a:Nat):Int))=some (.int .i64 ((len:Nat):Int)):=by rw[mn2N,hlen]
  obtain⟨H5,X12,b5,p5,g5,m5,w5⟩:=box p4.ok (.cells [.nilSlice] 47 1 false);have N5:=p5.next
  obtain⟨H6,Ba,Bn,e6,p6,ba6,bn6,hab,la,ln⟩:=parts_ok (dy (m+2)) n p5.ok a len;have N6:=p6.next
  have lb1:=ba6.lt p6.ok;have lb2:=bn6.lt p6.ok;have p7:Prs H6 (H6.push (.loop (lpD X5 X6 X10 X11 X12))):=(Stp.refl p6.ok).push _;have g7:(H6.push (.loop (lpD X5 X6 X10 X11 X12))).h.get H6.next=some (.loop (lpD X5 X6 X10 X11 X12)):=AH.push_get_eq _ _
  have hnew: ∀K:Nat->AH->Rs,XO H6 (.loop ⟨.ready,none,12,0,[5,6,10,11,12],[.ptr X5 0, .ptr X6 0, .ptr X10 0, .ptr X11 0, .ptr X12 0]⟩) K=K H6.next (H6.push (.loop (lpD X5 X6 X10 X11 X12))):=fun K=>dK p6.ok _ K
  have hnx:(H6.push (.loop (lpD X5 X6 X10 X11 X12))).next=H6.next+1:=rfl
  generalize H6.push (.loop (lpD X5 X6 X10 X11 X12))=H7 at p7 g7 hnew hnx;obtain⟨A1,hA1⟩: ∃A1,A1=H6.next:=⟨_,rfl⟩
  rw[<-hA1]at g7 hnew;have P57:=p6.trans p7;have P47:=p5.trans P57;have P7:=P4.trans P47;have x127:Box H7 X12 .nilSlice:=⟨_,Prs.get P57 p5.ok g5⟩;have I7:RI H kv i a At X5 X6 X10 X11 X12 A1 0 H7 (fun B=>B=A1\/B=X10\/B=X11\/B=X12\/Blk .nilSlice B):=
   ⟨P7,g7,x5.mono p4.ok P47 fun x=>x,x6.mono p4.ok P47 fun x=>x,x10.mono p4.ok P47 fun x=>x,x11.mono p4.ok P47 fun x=>x,⟨.nilSlice,x127, .inl (Own.nil ..),fun B hB=>(Blk.nil.1 hB).elim,fun B=>Iff.rfl⟩,⟨by omega,by omega,by omega,by omega⟩,⟨by omega,by omega,by omega,by omega⟩⟩
  have nW: ∀ {B:Nat},B≠A1->B≠X10->B≠X11->B≠X12-> ¬(B=A1\/B=X10\/B=X11\/B=X12\/Blk .nilSlice B):=fun h1 h2 h3 h4 e=>by
   rcases e with e | e | e | e | e
   ·exact h1 e
   ·exact h2 e
   ·exact h3 e
   ·exact h4 e
   ·exact Blk.nil.1 e
  obtain⟨H8,W8,e8,I8,s8,f8⟩:=QG (zKO (n:=len) t hL hkv (by omega)) m hm (by omega) (by omega) hab (fun e=>by rcases e with e | e | e<;>omega) (fun e=>by rcases e with e | e | e<;>omega) len 0 (m+1) (by omega) (by omega) (by omega) I7 (by simpa using ba6.mono p6.ok p7 fun x=>x) (by simpa using bn6.mono p6.ok p7 fun x=>x) (nW (by omega) (by omega) (by omega) (by omega)) (nW (by omega) (by omega) (by omega) (by omega));obtain⟨v,x128,gv8,fv8,_⟩:=I8.x12;have hk8:=I8.prs.ok;have N7:=p7.next;have N8:=s8.next
  have s9:Stp (fun B=>B=A1) H8 (H8.put A1 .dead):=(Stp.refl hk8).put (hk8.lt I8.gA) _ (.inr rfl);have hendL: ∀K:Option Code->AH->Rs,fK A1 H8 K=K none (H8.put A1 .dead):=fun K=>by
   simp only[fK,I8.gA,lpD,yY]
  generalize H8.put A1 .dead=H9 at s9 hendL;have N9:=s9.next
  have d12:=uO I8.gA x128;have d10:=uO I8.gA I8.x10;have d11:=uO I8.gA I8.x11;have x129:Box H9 X12 v:=x128.mono hk8 s9 (fun e=>d12 e.symm);have gv9:j7 1 5 H9 v len (qR (jM kv i a len)):=gv8.mono s9 fun B hB e=>(fv8 B hB).2.1 e
  have hcv:fL v H9=some (S (jM kv i a len)):=dY gv9.row (by
   rcases gv9 with⟨_,⟨rfl,_⟩ | ⟨A,rfl,_⟩⟩ | ⟨_,A,e',g,rfl,_⟩<;>simp)
  have x109:Box H9 X10 (S []):=I8.x10.mono hk8 s9 (fun e=>d10 e.symm);obtain⟨H10,e10,x1010,s10⟩:=x109.st s9.ok (x:=S (jM kv i a len)) rfl;have x1110:Box H10 X11 (.int .i64 ((0:Nat):Int)):=(I8.x11.mono hk8 s9 (fun e=>d11 e.symm)).mono s9.ok s10 (by omega);obtain⟨H11,e11,x1111,sq11⟩:=x1110.st s10.ok (x:= .int .i64 ((0:Nat):Int)) rfl;have x1011:Box H11 X10 (S (jM kv i a len)):=x1010.mono s10.ok sq11 (by omega);have N10:=s10.next
  refine⟨H11, ?_,((I8.prs.fresh s9 fun B hB=>by omega).fresh s10 fun B hB=>by omega).fresh sq11 fun B hB=>by omega⟩;have hf:f57 (dy (m+1)) (m+1) [.yieldTo A1, .ptr Bn 0, .ptr Ba 0] H7=some (.tuple [],H8):=by
   simp(maxSteps:=999999)(disch:=omega) only[f57,eZ,e8,zLA]
  have hrf:rfC (s12 (dy (m+2)) n).S (dy (m+2)) (.func 57 [] [.ptr Bn 0, .ptr Ba 0]) A1 H7=some (.tuple [],H8):=hf;simp(maxSteps:=999999)(disch:=omega) only[f12,eZ,hc,hcp,hcS,hcN,hS,b1,b2,b3,b4,x5.ld,cq,x6.ld,i1,t1,t2,t3,t4,t5,b5,hsub,hmn,e6,hnew,hrf,hendL,zH9,x129.ld,hcv,e10,e11,x1011.ld,x1111.ld]
theorem zCZ (D:Dyn)(n:Nat)(hn:100<=n){H:AH}(hk:H.ok): ∃H' At M,f7 D n [] H=some (.ptr At 0,H')/\Prs H H'/\H.next<=At/\H.next<=M/\yS H' At M 0 []:=by
 obtain⟨H1,A1,e1,p1⟩:=zGj D n hk;obtain⟨H2,At,M,e2,p2,m2,m2',ti⟩:=zL0 D n hn p1.ok A1 0 (c:= .nilPtr) rfl;have N1:=p1.next
 refine⟨H2,At,M, ?_,p1.trans p2,by omega,by omega,ti⟩;have t00: ¬(((0:Nat):Int)≠((0:Nat):Int)):=by omega
 have bz:wB [(0,1),(1,1),(2,1)] [.int .i64 ((0:Nat):Int), .int .i64 ((0:Nat):Int), .int .u64 ((0:Nat):Int)] []=some (.agg (y6 pZ)):=rfl;simp(maxSteps:=999999)(disch:=omega) only[f7,eZ,e1,qK,nth,bz,e2,t00]
theorem Z9 (D:Dyn)(n:Nat){H:AH}{i:Nat}(h1:1<=i)(h2:i<=2147483647):f27 D n [.int .i64 ((i:Nat):Int)] H=some (.bool true,H):=by
 have a1:((1:Nat):Int)<=((i:Nat):Int):=by omega
 have a2:((i:Nat):Int)<=((2147483647:Nat):Int):=by omega
 simp only[f27,eZ,a1,a2,decide_true]
end Go.Eng.Sh
end
section
namespace Go.Ex
open Go.Nd (Str Kvs putP delP lookP Srt mayK)
open Go.Dr
open Go.Eng (ltS yD)
open Go.Bt (inP y8)
open Go.Eng.Sh (kF)
def oth:Str:=[111,116,104,101,114]
def p9 (x:Str×Str):Bool:=decide (x.1.length=9)
end Go.Ex
end
section
namespace Go.Eng.Sh
open Go.Nd (Ptr yH qP Kvs Srt Str lookP putP delP mayK)
open Go.Bt Go.Dr Go.Ex
theorem zOg (s:Str)(h:s.length<4611686018427387904):cvSB 5 (S s)=some (.cells (qR s) 5 1 true,fun A=> .slice A 0 s.length 1):=by
 have:Nat.blt s.length 4611686018427387904=true:=by rw[zM];exact h
 simp only[cvSB,S,this,cond_true,YB]
theorem quoB {c k:Nat}(h:c<9223372036854775808)(hk:0<k):qO .quo (.int .i64 ((c:Nat):Int)) (.int .i64 ((k:Nat):Int))=some (.int .i64 ((c / k:Nat):Int)):=by
 have h1:c / k<=c:=Nat.div_le_self c k;have h2:((c:Nat):Int) / ((k:Nat):Int)=((c / k:Nat):Int):=rfl;rw[XD _ _ _ (by omega),Int.tdiv_eq_ediv_of_nonneg (by omega),h2];generalize c / k=q at h1;rw[wrap_i64 (by omega) (by omega)]
theorem zC6 (m n:Nat)(hm:300000000<=m)(hn:300000000<=n){H:AH}{At M L:Nat}{kv:Kvs}(t:yS H At M L kv)(hL:L<=90000000)(hkv:kv.length<=1000000000)(i p:Nat){b:Str}{v:AV}(hb:b.length<=128)(hcv:fL v H=some (S b))(his:(lookP (jU i p) kv).isSome=true):
  ∃H',f32 (dy (m+2)) n [.ptr At 0, .int .i64 ((i:Nat):Int), .int .i64 ((p:Nat):Int),v, .bool true] H=some (.int .i64 ((0:Nat):Int),H')/\yS H' At M (L+200) (kG kv i p b)/\Stp (fun B=>B=At\/B=M) H H':=by
 have hk:=t.okH;have ht:=zDj (dy (m+2)) n (H:=H) b (by omega) (by omega);have e0:(AV.str 0 0)=S []:=rfl;have hl:=vL b;by_cases h:qX b=[]
 ·have hne: ¬(qX b≠[]):=fun e=>e h
  rw[kG,if_pos h];obtain⟨H1,e1,p1⟩:=QW (dy (m+2)) n hk i p;obtain⟨H2,e2,t2,s2⟩:=zAq m n hm hn (t.prs p1) (by omega) hkv (k:=jU i p);have hz:dW (jU i p) kv=0:=by
   rw[dW,bU];simp[his]
  rw[hz]at e2;rw[if_pos hz]at t2;refine⟨H2, ?_,t2,(Prs.stp p1).trans s2⟩;simp(maxSteps:=999999)(disch:=omega) only[f32,eZ,hcv,ht,e0,jI,hne,e1,e2]
 ·have hne:qX b≠[]:=h;rw[kG,if_neg h];obtain⟨H1,e1,p1⟩:=QW (dy (m+2)) n hk i p;obtain⟨H2,e2,t2,s2⟩:=zEf m n hm hn (t.prs p1) (by omega) hkv (k:=jU i p) (v:=qX b);have hput:dH (jU i p) (qX b)=true:=by
   rw[dH,bU];simp;omega
  rw[hput]at e2 t2;simp only[if_true]at e2 t2;refine⟨H2, ?_,t2,(Prs.stp p1).trans s2⟩;simp(maxSteps:=999999)(disch:=omega) only[f32,eZ,hcv,ht,e0,jI,hne,ne_eq,not_false_eq_true,e1,e2]
theorem zJA {H:AH}{w:AV}{l:Kvs}(h:Rw 2 H w l.length (l.flatMap prV)){i:Nat}(hi:i<l.length): ∃p,(∀κ (z:Int),z=(i:Int)->jL 2 w (.int κ z)=some p)/\Eng.ldN 2 p H=some (.agg [S l[i].1,S l[i].2]):=by
 obtain⟨p,h1,h2⟩:=h.ldN hi;rw[zFd prV 2 (fun _=>rfl) l i hi]at h2;exact⟨p,h1,h2⟩
theorem st_loop (D:Dyn)(n:Nat){H0:AH}{w:AV}{l:Kvs}(hw:Rw 2 H0 w l.length (l.flatMap prV))(hl:l.length<=400000000):
  ∀(rr i kf:Nat) {H:AH} {v:AV} {acc:Kvs},i+rr=l.length->rr<kf->Prs H0 H->acc.length<=i->j7 2 50 H v acc.length (acc.flatMap prV)->(∀B,Blk v B->H0.next<=B)->
   ∃H' v',qW kf (zAo D n) [v,w, .int .i64 ((l.length:Nat):Int), .int .i64 ((i:Nat):Int)] H=some (.exit 0 [v'],H')/\Prs H0 H'/\j7 2 50 H' v' (acc++(l.drop i).filter p9).length ((acc++(l.drop i).filter p9).flatMap prV)/\ ∀B,Blk v' B->H0.next<=B
 | _,_,0,_,_,_,_,hk,_,_,_,_=>by omega
 | rr,i,kf+1,H,v,acc,hr,hkf,P,ha,g,hb=>by
  by_cases hi:i<l.length
  ·have hiI:((i:Nat):Int)< ((l.length:Nat):Int):=by omega
   have hi1:((i:Nat):Int)+((1:Nat):Int)=((i+1:Nat):Int):=by omega
   obtain⟨p,i1,i2⟩:=zJA (Rw.stp hw P fun _ _ x=>x) hi;obtain⟨H1,A14,b1,p1,g1,m1,n1⟩:=box P.ok (.cells [S [],S []] 50 1 false);obtain⟨H2,e2,g2,s2,n2⟩:=yF p1.ok g1 (l':=[S l[i].1,S l[i].2]) rfl rfl;have e2':stN 2 (.ptr A14 0) (.agg [S l[i].1,S l[i].2]) H1=some (qM,H2):=e2;have P2:Prs H H2:=p1.fresh s2 fun B hB=>by omega
   have N1:=p1.next;have N2:=s2.next;have N0:=P.next
   have hS:(AV.str 0 0)=S []:=rfl;have q1:Eng.ld1 (.ptr A14 0) H2=some (S l[i].1):=by rw[qL g2];rfl
   by_cases h9:l[i].1.length=9
   ·have h9I:((l[i].1.length:Nat):Int)=((9:Nat):Int):=by omega
    have q2:ldN 2 (.ptr A14 0) H2=some (.agg [S l[i].1,S l[i].2]):=by rw[qQ g2];rfl
    have bl1:wQ 50 2 1 [S [],S []] [(0, .agg [S l[i].1,S l[i].2])]=some (.cells [S l[i].1,S l[i].2] 50 2 false,fun A=> .slice A 0 1 2):=rfl;obtain⟨H4,A15,b4,p4,g4,m4,n4⟩:=box s2.ok (.cells [S l[i].1,S l[i].2] 50 2 false);have hsrc:srcOf 2 (.slice A15 0 1 2) H4=some (1,[S l[i].1,S l[i].2]):=by simp only[srcOf,g4];rfl
    obtain⟨v',H5,e5,gv5,s5,f5⟩:=((g.mono P2 (fun _ _ x=>x)).mono p4 (fun _ _ x=>x)).app (bytes:=32) (m:=1) (new:=[S l[i].1,S l[i].2]) p4.ok (by decide) hsrc rfl rfl (by omega) (by decide);have N4:=p4.next;have N5:=s5.next
    have P5:Prs H0 H5:=(P.trans (P2.trans p4)).fresh s5 fun B hB=>hb B hB
    have fl:(acc++[l[i]]).flatMap prV=acc.flatMap prV++[S l[i].1,S l[i].2]:=by simp[zZ,prV]
    have g5':j7 2 50 H5 v' (acc++[l[i]]).length ((acc++[l[i]]).flatMap prV):=by
     rw[fl,zI];exact gv5
    obtain⟨H',v2,e,P',g',hb'⟩:=st_loop D n hw hl (rr - 1) (i+1) kf (by omega) (by omega) P5 (by simp;omega) g5' (fun B hB=>by
     rcases f5 B hB with e | e
     ·exact hb B e
     ·omega)
    refine⟨H',v2, ?_,P', ?_,hb'⟩
    ·have body:zAo D n [v,w, .int .i64 ((l.length:Nat):Int), .int .i64 ((i:Nat):Int)] H=some (.norm [v',w, .int .i64 ((l.length:Nat):Int), .int .i64 ((i+1:Nat):Int)],H5):=by
      simp(maxSteps:=999999)(disch:=omega) only[zAo,zLE,eZ,hiI,i1,i2,hS,b1,e2',q1,yQ,h9I,q2,bl1,b4,e5,hi1]
     rw[yW body,e]
    ·rw[List.append_assoc]at g';have hd:(l.drop i).filter p9=[l[i]]++(l.drop (i+1)).filter p9:=by
      rw[zL hi,List.filter_cons_of_pos (by simp[p9,h9])];rfl
     rw[hd];exact g'
   ·have h9I: ¬((l[i].1.length:Nat):Int)=((9:Nat):Int):=by omega
    obtain⟨H',v2,e,P',g',hb'⟩:=st_loop D n hw hl (rr - 1) (i+1) kf (by omega) (by omega) (P.trans P2) (by omega) (g.mono P2 (fun _ _ x=>x)) hb;refine⟨H',v2, ?_,P', ?_,hb'⟩
    ·have body:zAo D n [v,w, .int .i64 ((l.length:Nat):Int), .int .i64 ((i:Nat):Int)] H=some (.norm [v,w, .int .i64 ((l.length:Nat):Int), .int .i64 ((i+1:Nat):Int)],H2):=by
      simp(maxSteps:=999999)(disch:=omega) only[zAo,zLE,eZ,hiI,i1,i2,hS,b1,e2',q1,yQ,h9I,hi1]
     rw[yW body,e]
    ·rw[zL hi,List.filter_cons_of_neg (by simp[p9,h9])];exact g'
  ·have hiI: ¬((i:Nat):Int)< ((l.length:Nat):Int):=by omega
   refine⟨H,v,qY ?_,P, ?_,hb⟩
   ·simp(maxSteps:=999999)(disch:=omega) only[zAo,eZ,hiI]
   ·rw[zO (by omega),List.filter_nil,List.append_nil];exact g
end Go.Eng.Sh
end
section
namespace Go.Ex
open Go.Nd (Str Kvs putP delP lookP Srt mayK)
open Go.Dr
open Go.Eng (ltS yD)
open Go.Bt (inP y8)
open Go.Eng.Sh (kF)
def Z6 (n:Nat)(f:Nat->UInt8):Str:=(List.range n).map f
theorem fY (n:Nat)(f:Nat->UInt8):(Z6 n f).length=n:=by simp[Z6]
theorem zHm {n:Nat}(f:Nat->UInt8){i:Nat}(y:UInt8):(Z6 n f).set i y=Z6 n fun x=>if x=i then y else f x:=by
 apply List.ext_getElem
 ·simp[Z6]
 ·intro j h1 h2;simp only[Z6,List.getElem_set,List.getElem_map,List.getElem_range];by_cases e:i=j
  ·rw[if_pos e,if_pos e.symm]
  ·rw[if_neg e,if_neg fun h=>e h.symm]
theorem zHn {n:Nat}{f g:Nat->UInt8}(h: ∀x,x<n->f x=g x):Z6 n f=Z6 n g:=by
 apply List.ext_getElem
 ·simp[Z6]
 ·intro j h1 h2;simp only[Z6,List.getElem_map,List.getElem_range];exact h j (by simpa[Z6]using h1)
theorem zAM {n:Nat}(f:Nat->UInt8){a k:Nat}(h:a+k<=n):((Z6 n f).drop a).take k=(List.range' a k).map f:=by
 apply List.ext_getElem
 ·rw[zH,zN,fY];simp;omega
 ·intro j h1 h2;simp[Z6,List.getElem_take,List.getElem_drop]
theorem zGB {kv:Kvs}{i n a k:Nat}{f:Nat->UInt8}(h: ∀x,x<n->jY kv i x=f x)(hk:a+k<=n):jM kv i a k=((Z6 n f).drop a).take k:=by
 rw[zAM f hk,jM];refine List.map_congr_left fun x hx=>h x ?_
 rw[List.mem_range'_1]at hx;omega
end Go.Ex
namespace Go.Eng.Sh
open Go.Nd (Ptr yH qP Kvs Srt Str lookP putP delP mayK)
open Go.Bt Go.Dr Go.Ex
theorem mkB (k:Nat)(h:k<=1000000):zL3 5 1 1 [.int .u8 ((0:Nat):Int)] (.int .i64 ((k:Nat):Int)) (.int .i64 ((k:Nat):Int))=some (.cells (qR (Z6 k fun _=>0)) 5 1 false,fun A=> .slice A 0 k (2*k)):=by
 have h1:Nat.ble k k=true:=by rw[zR];exact Nat.le_refl _
 have h2:Nat.ble (k*1) 140737488355328=true:=by rw[zR];omega
 have h3:Nat.blt k 9223372036854775808=true:=by rw[zM];omega
 have hrep:rep k [AV.int .u8 ((0:Nat):Int)]=qR (Z6 k fun _=>0):=by
  rw[zE3];apply List.ext_getElem
  ·rw[qU,fY,List.length_replicate]
  ·intro j h1 h2;simp[qR,Z6]
 have e0:zL3 5 1 1 [.int .u8 ((0:Nat):Int)] (.int .i64 (.ofNat k)) (.int .i64 (.ofNat k))=(bif Nat.ble k k&&Nat.ble (k*1) 140737488355328&&Nat.blt k 9223372036854775808 then some (.cells (rep k [.int .u8 ((0:Nat):Int)]) 5 1 false,fun A=> .slice A 0 k (2*k))else none):=rfl;show zL3 5 1 1 [.int .u8 ((0:Nat):Int)] (.int .i64 (.ofNat k)) (.int .i64 (.ofNat k))=_;rw[e0,h1,h2,h3,hrep];rfl
theorem zDG {H:AH}(hk:H.ok){A n i:Nat}{f:Nat->UInt8}(h:H.h.get A=some (.cells (qR (Z6 n f)) 5 1 false))(hi:i<n)(y:UInt8): ∃H',stN 1 (.ptr A i) (.int .u8 ((y.toNat:Nat):Int)) H=some (qM,H')/\H'.h.get A=some (.cells (qR (Z6 n fun x=>if x=i then y else f x)) 5 1 false)/\Stp (fun B=>B=A) H H':=by
 obtain⟨H',e,g,s⟩:=st1c hk h (o:=i) (x:= .int .u8 ((y.toNat:Nat):Int)) rfl (by rw[qU,fY];exact hi);refine⟨H',e, ?_,s⟩;rw[g,<-zHm];congr 2;simp[qR,List.map_set]
theorem ixB {A n cc i:Nat}(hi:i<n){z:Int}(hz:z=(i:Int))(κ:IntKind):jL 1 (.slice A 0 n cc) (.int κ z)=some (.ptr A i):=by
 have hb:Nat.blt i n=true:=by rw[zM];exact hi
 subst hz;simp only[jL,yK κ (show(0:Int)<=(i:Int)by omega),zS,hb,cond_true,yE,Nat.mul_one,Nat.zero_add]
structure Ax where
 k:Int
 i:Int
 a:Int
 n:Int
 z:Int
 s:Str
def axV (a:Ax):List AV:=[.int .u8 a.k, .int .i64 a.i, .int .i64 a.a, .int .i64 a.n, .int .i64 a.z,S a.s]
def AxR (H:AH)(v:AV)(l:List Ax):Prop:=Rw 6 H v l.length (l.flatMap axV)
theorem AxR.at {H:AH}{v:AV}{l:List Ax}(h:AxR H v l){i:Nat}(hi:i<l.length): ∃A o,(∀κ (z:Int),z=(i:Int)->jL 6 v (.int κ z)=some (.ptr A o))/\Eng.ldN 6 (.ptr A o) H=some (.agg (axV l[i]))/\Eng.ld1 (.ptr A (o+5)) H=some (S l[i].s):=by
 obtain⟨A,o,c,e,sz,g,h1,h2,h3,h4,h5⟩:=Rw.at h hi;rw[zFd axV 6 (fun _=>rfl) l i hi]at h5;have g4:c[o+5]? =some (S l[i].s):=by
  have:=congrArg (fun x=>x[5]?) h5;simpa[axV]using this
 exact⟨A,o,h1,by rw[zAc h2 h4,h5],QV h2 g4⟩
def tot:List Ax->Nat
 | []=>0
 | a::l=>a.s.length+tot l
theorem zL6 (D:Dyn)(n:Nat)(hn:200<=n){H:AH}{v:AV}{l:List Ax}(hv:AxR H v l): ∃b,f5 D n [v] H=some (.bool b,H)/\(b=false->l.length<=25/\tot l<=9000/\ ∀a∈l,a.s.length<=3000):=by
 have hln:lnSl v=some (.int .i64 ((l.length:Nat):Int)):=hv.lnSl;by_cases h100:25<l.length
 ·have hI:((25:Nat):Int)< ((l.length:Nat):Int):=by omega
  refine⟨true, ?_,fun h=>by cases h⟩;simp(maxSteps:=999999)(disch:=omega) only[f5,eZ,hln,hI]
 ·have hI: ¬((25:Nat):Int)< ((l.length:Nat):Int):=by omega
  have lp: ∀(rr i kf c:Nat),i+rr=l.length->rr<kf->c<=3000*i-> ∃b,jb 0 (qW kf (zLy D n) [v, .int .i64 ((c:Nat):Int), .int .i64 ((i:Nat):Int)] H) (f5b1 D n)=some (.ret (.bool b),H)/\(b=false->c+tot (l.drop i)<=9000/\ ∀a∈l.drop i,a.s.length<=3000):=by
   intro rr
   induction rr with
   | zero=>
    intro i kf c he hk hc;obtain⟨k,rfl⟩: ∃k,kf=k+1:=⟨kf - 1,by omega⟩;have hge: ¬((i:Nat):Int)< ((l.length:Nat):Int):=by omega
    rw[qY (i:=0) (vs':=[.int .i64 ((c:Nat):Int)]) (H':=H) (by simp(maxSteps:=999999)(disch:=omega) only[zLy,eZ,hln,hge])];by_cases h9:9000<c
    ·have h9I:((9000:Nat):Int)< ((c:Nat):Int):=by omega
     refine⟨true, ?_,fun h=>by cases h⟩;simp(maxSteps:=999999)(disch:=omega) only[jb,Nat.beq_refl,cond_true,f5b1,eZ,h9I]
    ·have h9I: ¬((9000:Nat):Int)< ((c:Nat):Int):=by omega
     refine⟨false, ?_,fun _=>by rw[zO (by omega)];exact⟨by simp only[tot];omega,fun a ha=>by cases ha⟩⟩;simp(maxSteps:=999999)(disch:=omega) only[jb,Nat.beq_refl,cond_true,f5b1,eZ,h9I]
   | succ rr ih=>
    intro i kf c he hk hc;obtain⟨k,rfl⟩: ∃k,kf=k+1:=⟨kf - 1,by omega⟩;have hi:i<l.length:=by omega
    have hiI:((i:Nat):Int)< ((l.length:Nat):Int):=by omega
    have hi1:((i:Nat):Int)+((1:Nat):Int)=((i+1:Nat):Int):=by omega
    obtain⟨A,o,i1,_,i4⟩:=hv.at hi;by_cases hb:3000<l[i].s.length
    ·have hbI:((3000:Nat):Int)< ((l[i].s.length:Nat):Int):=by omega
     refine⟨true, ?_,fun h=>by cases h⟩;have body:zLy D n [v, .int .i64 ((c:Nat):Int), .int .i64 ((i:Nat):Int)] H=some (.ret (.bool true),H):=by
      simp(maxSteps:=999999)(disch:=omega) only[zLy,eZ,hln,hiI,i1,i4,yQ,hbI]
     rw[bT body];rfl
    ·have hbI: ¬((3000:Nat):Int)< ((l[i].s.length:Nat):Int):=by omega
     have hci:((c:Nat):Int)+((l[i].s.length:Nat):Int)=((c+l[i].s.length:Nat):Int):=by omega
     obtain⟨b,e,h⟩:=ih (i+1) k (c+l[i].s.length) (by omega) (by omega) (by omega);refine⟨b, ?_,fun hb'=> ?_⟩
     ·have body:zLy D n [v, .int .i64 ((c:Nat):Int), .int .i64 ((i:Nat):Int)] H=some (.norm [v, .int .i64 ((c+l[i].s.length:Nat):Int), .int .i64 ((i+1:Nat):Int)],H):=by
       simp(maxSteps:=999999)(disch:=omega) only[zLy,eZ,hln,hiI,i1,i4,yQ,hbI,hi1,hci]
      rw[yW body,e]
     ·obtain⟨h1,h2⟩:=h hb';rw[zL hi];refine⟨by simp only[tot];omega,fun a ha=> ?_⟩;rcases List.mem_cons.1 ha with rfl | ha
      ·omega
      ·exact h2 a ha
  obtain⟨b,e,h⟩:=lp l.length 0 n 0 (by omega) (by omega) (by omega);refine⟨b, ?_,fun hb=>⟨by omega,by have:=(h hb).1;rw[List.drop_zero]at this;omega,(h hb).2⟩⟩;simp(maxSteps:=999999)(disch:=omega) only[f5,eZ,hln,hI,e]
theorem zC4 (D:Dyn)(n:Nat){H:AH}(hk:H.ok){At i:Nat}(hi:1<=i)(hi2:i<=2147483647){a:Nat}(tx:Str)(h:32768<a+tx.length): ∃H',f9 D n [.ptr At 0, .int .i64 ((i:Nat):Int), .int .i64 ((a:Nat):Int),S tx] H=some (.int .i64 ((40:Nat):Int),H')/\Prs H H':=by
 obtain⟨H1,X4,b1,p1,g1,m1,w1⟩:=box hk (.cells [.ptr At 0] 25 1 false);obtain⟨H2,X5,b2,p2,g2,m2,w2⟩:=box p1.ok (.cells [.int .i64 ((i:Nat):Int)] 3 1 false);obtain⟨H3,X6,b3,p3,g3,m3,w3⟩:=box p2.ok (.cells [.int .i64 ((a:Nat):Int)] 3 1 false);obtain⟨H4,X7,b4,p4,g4,m4,w4⟩:=box p3.ok (.cells [S tx] 9 1 false);have P4:=((p1.trans p2).trans p3).trans p4;have x4:Box H4 X4 (.ptr At 0):=⟨_,Prs.get ((p2.trans p3).trans p4) p1.ok g1⟩;have x5:Box H4 X5 (.int .i64 ((i:Nat):Int)):=⟨_,Prs.get (p3.trans p4) p2.ok g2⟩;have x6:Box H4 X6 (.int .i64 ((a:Nat):Int)):=⟨_,Prs.get p4 p3.ok g3⟩;have x7:Box H4 X7 (S tx):=⟨_,g4⟩;have hc: ∀z:Int,qT (.int .i64 z)=[.int .i64 z]:=fun z=>rfl
 have hcp:qT (.ptr At 0)=[.ptr At 0]:=rfl;have hcS:qT (S tx)=[S tx]:=rfl;have i1:=Z9 D n (H:=H4) hi hi2;have t1: ¬((a:Nat):Int)< ((0:Nat):Int):=by omega
 refine⟨H4, ?_,P4⟩;by_cases h2:32768<a
 ·have t2:((32768:Nat):Int)< ((a:Nat):Int):=by omega
  simp(maxSteps:=999999)(disch:=omega) only[f9,eZ,hc,hcp,hcS,b1,b2,b3,b4,x4.ld,cq,x5.ld,i1,x6.ld,t1,t2]
 ·have t2: ¬((32768:Nat):Int)< ((a:Nat):Int):=by omega
  have t3:((32768:Nat):Int) - ((a:Nat):Int)=((32768 - a:Nat):Int):=by omega
  have t4:((32768 - a:Nat):Int)< ((tx.length:Nat):Int):=by omega
  simp(maxSteps:=999999)(disch:=omega) only[f9,eZ,hc,hcp,hcS,b1,b2,b3,b4,x4.ld,cq,x5.ld,i1,x6.ld,t1,t2,x7.ld,yQ,t3,t4]
end Go.Eng.Sh
end
section
namespace Go.Ex
open Go.Nd (Str Kvs putP delP lookP Srt mayK)
open Go.Dr
open Go.Eng (ltS yD)
open Go.Bt (inP y8)
open Go.Eng.Sh (kF)
def Good (v:Str):Prop:=v.length<=128/\ ∃h:v≠[],v.getLast h≠0
def ShG (kv:Kvs):Prop:= ∀k v,lookP k kv=some v->(∃i q,1<=i/\i<=2147483647/\q<256/\k=jU i q)/\Good v
theorem ShG.tidy {kv:Kvs}(h:ShG kv)(i:Nat):zH2 i kv:=fun _ _ v hv=>(h _ v hv).2
theorem zAH (v:Str)(k:Nat):qX (v++List.replicate k 0)=qX v:=by
 rw[qX,qX,List.reverse_append,List.reverse_replicate]
 induction k with
 | zero=>simp
 | succ k ih=>rw[List.replicate_succ,List.cons_append,List.dropWhile_cons];simpa using ih
theorem zDk {v:Str}(h:v≠[])(hl:v.getLast h≠0):qX v=v:=by
 obtain⟨w,b,rfl⟩: ∃w b,v=w++[b]:=⟨v.dropLast,v.getLast h,(List.dropLast_concat_getLast h).symm⟩;have hb:b≠0:=by simpa using hl
 rw[qX,List.reverse_append,List.reverse_singleton,List.singleton_append,List.dropWhile_cons,if_neg (by simpa using hb)];simp
theorem zHj {v:Str}(h:Good v):qX (pad v)=v:=by
 have e:pad v=v++List.replicate (128 - v.length) 0:=by
  rw[pad,List.take_append,zK h.1,List.take_replicate];congr 2;omega
 rw[e,zAH];obtain⟨_,h1,h2⟩:=h;exact zDk h1 h2
theorem zEI {kv:Kvs}{i p:Nat}(ht:zH2 i kv)(hp:p<4294967296):lookP (jU i p) kv=if qX (jX kv i p)=[]then none else some (qX (jX kv i p)):=by
 cases hl:lookP (jU i p) kv with
 | none=>
  have:qX (jX kv i p)=[]:=by
   rw[jX,hl,Option.getD_none,zEr];have:=zAH [] 128;rw[List.nil_append]at this;rw[this];rfl
  rw[if_pos this]
 | some v=>
  have hg:Good v:=ht p hp v hl;have:qX (jX kv i p)=v:=by rw[jX,hl];exact zHj hg
  obtain⟨_,h1,_⟩:=hg;rw[this,if_neg h1]
structure RW (kv0 kv:Kvs)(i:Nat)(f:Nat->UInt8):Prop where
 srt:Srt kv
 byt: ∀x,x<32768->jY kv i x=f x
 oth: ∀k,(∀p,p<256->k≠jU i p)->lookP k kv=lookP k kv0
 tidy:zH2 i kv
theorem zEk {kv kv':Kvs}{i p:Nat}(hp:p<256)(h: ∀x,x<32768->jY kv i x=jY kv' i x):jX kv i p=jX kv' i p:=by
 refine List.ext_getElem (by rw[kH,kH]) fun j h1 h2=> ?_
 have hj:j<128:=by rw[kH]at h1;exact h1
 have:=h (128*p+j) (by omega);rw[jY,jY,show(128*p+j) / 128=p by omega,show(128*p+j) % 128=j by omega,zE,zE,zB h1,zB h2]at this;exact this
theorem RW.eq {kv0 kv kv':Kvs}{i:Nat}{f:Nat->UInt8}(a:RW kv0 kv i f)(b:RW kv0 kv' i f):kv=kv':=by
 refine Go.Eng.Sh.srt_ext a.srt b.srt fun k=> ?_
 by_cases e: ∃p,p<256/\k=jU i p
 ·obtain⟨p,hp,rfl⟩:=e;rw[zEI a.tidy (by omega),zEI b.tidy (by omega),zEk (kv:=kv) (kv':=kv') hp fun x hx=>(a.byt x hx).trans (b.byt x hx).symm]
 ·have hn: ∀p,p<256->k≠jU i p:=fun p hp h=>e ⟨p,hp,h⟩
  rw[a.oth k hn,b.oth k hn]
theorem RW.shg {kv0 kv:Kvs}{i:Nat}{f:Nat->UInt8}(a:RW kv0 kv i f)(h:ShG kv0)(h1:1<=i)(h2:i<=2147483647):ShG kv:=fun k v hk=>by
 by_cases e: ∃p,p<256/\k=jU i p
 ·obtain⟨p,hp,rfl⟩:=e;exact⟨⟨i,p,h1,h2,hp,rfl⟩,a.tidy p (by omega) v hk⟩
 ·rw[a.oth k fun p hp he=>e ⟨p,hp,he⟩]at hk;exact h k v hk
theorem WS.rw' {kv0 kv:Kvs}{i a:Nat}{tx:Str}(w:WS kv0 kv i a tx tx.length)(h:zH2 i kv0):RW kv0 kv i fun x=>if a<=x/\x<a+tx.length then tx.getD (x - a) 0 else jY kv0 i x:=
 ⟨w.srt,fun x hx=>w.byt x (by omega),w.oth,w.tidy h⟩
def pcG (g:Nat->UInt8)(p:Nat):Str:=(List.range' (128*p) 128).map g
theorem QF (g:Nat->UInt8)(p:Nat):(pcG g p).length=128:=by simp[pcG]
theorem zEm (g:Nat->UInt8)(p:Nat){j:Nat}(h:j<128):(pcG g p).getD j 0=g (128*p+j):=by
 simp[pcG,zE,zB,h]
structure SR (kv0 kv:Kvs)(i:Nat)(g:Nat->UInt8)(f p:Nat):Prop where
 srt:Srt kv
 byt: ∀x,x<32768->jY kv i x=if 128*f<=x/\x<128*p then g x else jY kv0 i x
 oth: ∀k,(∀p,p<256->k≠jU i p)->lookP k kv=lookP k kv0
 tidy:zH2 i kv
 len:kv.length<=kv0.length+(p - f)
theorem SR.zero {kv0:Kvs}{i:Nat}(hs:Srt kv0)(ht:zH2 i kv0)(g:Nat->UInt8)(f:Nat):SR kv0 kv0 i g f f:=
 ⟨hs,fun x _=>by rw[if_neg (by omega)],fun _ _=>rfl,ht,by omega⟩
theorem SR.step {kv0 kv:Kvs}{i:Nat}{g:Nat->UInt8}{f p:Nat}(a:SR kv0 kv i g f p)(hi:i<4294967296)(hp:p<256)(hf:f<=p):SR kv0 (kG kv i p (pcG g p)) i g f (p+1):=by
 refine⟨Q1 a.srt _ _ _,fun x hx=> ?_,fun k hk=> ?_,J3 a.srt (QF g p) hi (by omega) a.tidy, ?_⟩
 ·rw[jY,Q2 a.srt (QF g p) hi hi (by omega) (by omega)];by_cases e:x / 128=p
  ·rw[if_pos ⟨rfl,e⟩,zEm g p (by omega),if_pos (by omega)];congr 1;omega
  ·rw[if_neg fun h=>e h.2];have:=a.byt x hx;rw[jY]at this;rw[this];by_cases h2:128*f<=x/\x<128*p
   ·rw[if_pos h2,if_pos (by omega)]
   ·rw[if_neg h2,if_neg (by omega)]
 ·rw[vM a.srt,if_neg (hk _ hp)];exact a.oth k hk
 ·have:=V0 a.srt i p (pcG g p);have:=a.len;omega
theorem SR.rw' {kv0 kv:Kvs}{i:Nat}{g:Nat->UInt8}{f p:Nat}(a:SR kv0 kv i g f p)(h: ∀x,x<32768-> ¬(128*f<=x/\x<128*p)->g x=jY kv0 i x):RW kv0 kv i g:=
 ⟨a.srt,fun x hx=>by
  rw[a.byt x hx];split
  ·rfl
  ·rename_i hn;exact(h x hx hn).symm,a.oth,a.tidy⟩
theorem zKU {l:Kvs}(h:Srt l)(k v:Str):putP k v (delP k l)=putP k v l:=
 Go.Eng.Sh.srt_ext (Nd.srt_put _ _ (Nd.srt_del _ h)) (Nd.srt_put _ _ h) fun x=>by
  rw[Nd.look_put,Nd.look_put,Nd.look_del _ _ h];split
  ·rfl
  ·rfl
theorem aF: ∀ {l:Kvs},Srt l-> ∀k,(l.filter fun p=>decide (p.1≠k))=delP k l
 | [],_,_=>rfl
 | (a,b)::l,h,k=>by
  by_cases e:a=k
  ·subst e;rw[List.filter_cons_of_neg (by simp),delP,if_pos rfl];refine List.filter_eq_self.2 fun q hq=>decide_eq_true fun e=> ?_
   have h1:=h.1 q hq;have h2:ltS a q.1=true:=h1;rw[e,yD]at h2;cases h2
  ·rw[List.filter_cons_of_pos (by simpa using e),delP,if_neg e,aF h.2 k]
theorem zOf {l:Kvs}(h:Srt l)(k:Str): ∀q∈delP k l,q.1≠k:=fun q hq=>by
 rw[<-aF h]at hq;simpa using(List.mem_filter.1 hq).2
theorem zJD (t:Str):ltS t []=false:=by cases t<;>rfl
theorem zA9: ∀(a b l m:Str),a.length=b.length->ltS (a++l) (b++m)=(ltS a b||(decide (a=b)&&ltS l m))
 | [],[],l,m,_=>by simp[zJD]
 | [],b::bs,_,_,h=>by simp at h
 | a::la,[],_,_,h=>by simp at h
 | a::la,b::bs,l,m,h=>by
  rw[List.cons_append,List.cons_append,u9,u9,zA9 la bs l m (by simpa using h)];by_cases e:a=b
  ·subst e;simp[UInt8.lt_irrefl]
  ·have e':(a==b)=false:=by simpa using e
   simp[e,e']
theorem zLQ {i j:Nat}(hi:i<4294967296)(hj:j<4294967296):dig j 4=dig i 4↔j=i:=by
 constructor
 ·intro h;have:=congrArg num h;rw[W0 (by omega),W0 (by omega)]at this;exact this
 ·intro h;rw[h]
theorem zEP {i j p q:Nat}(hi:i<4294967296)(hj:j<4294967296)(hp:p<4294967296)(hq:q<4294967296):ltS (jU j q) (jU i p)=decide (j<i\/(j=i/\q<p)):=by
 rw[jU,jU,zBg,zA9 _ _ _ _ (by rw[vH,vH]),zBI,zBI,show 256 ^ 4=4294967296 from rfl,Nat.mod_eq_of_lt hi,Nat.mod_eq_of_lt hj,Nat.mod_eq_of_lt hp,Nat.mod_eq_of_lt hq];by_cases e:j=i
 ·subst e;simp
 ·have: ¬dig j 4=dig i 4:=fun h=>e ((zLQ hi hj).1 h)
  simp[e,this]
theorem zEO {i j q:Nat}(hi:i+1<4294967296)(hj:j<4294967296):ltS (jU j q) (100::dig (i+1) 4)=decide (j<i+1):=by
 have h:=zA9 (dig j 4) (dig (i+1) 4) (dig q 4) [] (by rw[vH,vH]);rw[List.append_nil]at h;rw[jU,zBg,h,zJD,Bool.and_false,Bool.or_false,zBI,show 256 ^ 4=4294967296 from rfl,Nat.mod_eq_of_lt hi,Nat.mod_eq_of_lt hj]
def gQ (i first:Nat)(kv:Kvs):Kvs:=kv.filter fun p=> !ltS p.1 (jU i first)&&ltS p.1 (100::dig (i+1) 4)
theorem u4 {kv:Kvs}(hs:Srt kv)(h:ShG kv){i first:Nat}(hi:i<=2147483647)(hf:first<4294967296)(k v:Str):
  (k,v)∈gQ i first kv↔lookP k kv=some v/\ ∃p,first<=p/\p<256/\k=jU i p:=by
 rw[gQ,List.mem_filter,<-WC hs];constructor
 ·rintro⟨h1,h2⟩
  refine⟨h1, ?_⟩;obtain⟨⟨j,q,j1,j2,hq,rfl⟩,_⟩:=h k v h1;simp only[zEP (show i<4294967296 by omega) (show j<4294967296 by omega) hf (show q<4294967296 by omega),zEO (show i+1<4294967296 by omega) (show j<4294967296 by omega)]at h2;rw[z8,Bool.not_eq_true',decide_eq_false_iff_not,zF]at h2;obtain rfl:j=i:=by omega
  exact⟨q,by omega,hq,rfl⟩
 ·rintro⟨h1,p,h2,h3,rfl⟩
  refine⟨h1, ?_⟩;simp only[zEP (show i<4294967296 by omega) (show i<4294967296 by omega) hf (show p<4294967296 by omega),zEO (show i+1<4294967296 by omega) (show i<4294967296 by omega)];rw[z8,Bool.not_eq_true',decide_eq_false_iff_not,zF];omega
theorem ShG.len9 {kv:Kvs}(h:ShG kv)(hs:Srt kv){q:Str×Str}(hq:q∈kv):q.1.length=9:=by
 obtain⟨⟨i,p,_,_,_,e⟩,_⟩:=h q.1 q.2 ((WC hs).2 hq);rw[e];exact zBn i p
theorem Q3 {kv:Kvs}(hs:Srt kv)(h:ShG kv)(i first:Nat){to:Str}(hto: ∀k:Str,k.length=9->y8 to k=ltS k (100::dig (i+1) 4)):kF (jU i first) to kv=gQ i first kv:=
 List.filter_congr fun x hx=>by simp only[inP,hto _ (h.len9 hs hx)]
theorem zMz {kv:Kvs}(hs:Srt kv)(h:ShG kv)(i first:Nat):((gQ i first kv).filter fun x=>decide (x.1.length=9))=gQ i first kv:=
 List.filter_eq_self.2 fun x hx=>decide_eq_true (h.len9 hs (List.mem_filter.1 hx).1)
theorem zAT: ∀ {kv:Kvs},Srt kv->kv.Pairwise fun a b=>a.1≠b.1
 | [],_=>List.Pairwise.nil
 | (a,b)::l,h=>List.Pairwise.cons (fun p hp e=>by
   have h1:=h.1 p hp;have e':a=p.1:=e;rw[e',yD]at h1;cases h1) (zAT h.2)
theorem zHt {kv:Kvs}(hs:Srt kv)(i first:Nat):(gQ i first kv).Pairwise fun a b=>a.1≠b.1:=(zAT hs).filter _
theorem zAR (i first:Nat)(kv:Kvs):(gQ i first kv).length<=kv.length:=List.length_filter_le ..
def zA0 (i first keep:Nat)(k v:Str):Option Str:=
 if k=jU i first/\0<keep then(if v.length<=keep then some v else if qX (v.take keep)=[]then none else some (qX (v.take keep)))else none
structure CutG (i first keep:Nat)(kv0 kv:Kvs)(r:Kvs):Prop where
 srt:Srt kv
 hit: ∀k v,(k,v)∈r->lookP k kv=zA0 i first keep k v
 oth: ∀k,(∀v,(k,v)∉r)->lookP k kv=lookP k kv0
 len:kv.length<=kv0.length
theorem zBM {kv:Kvs}(h:Srt kv)(i first keep:Nat):CutG i first keep kv kv []:=⟨h,fun _ _ h=>by simp at h,fun _ _=>rfl,Nat.le_refl _⟩
theorem zGr {i first keep:Nat}{kv0 kv1 kv:Kvs}{k v:Str}{r:Kvs}(h1: ∀x,lookP x kv1=if x=k then zA0 i first keep k v else lookP x kv0)(hl:kv1.length<=kv0.length)(h:CutG i first keep kv1 kv r)(hn: ∀q∈r,k≠q.1):CutG i first keep kv0 kv ((k,v)::r) where
 srt:=h.srt
 hit:=fun x w hx=>by
  rcases List.mem_cons.1 hx with e | e
  ·cases e
   rw[h.oth k fun w hw=>hn _ hw rfl,h1,if_pos rfl]
  ·exact h.hit x w e
 oth:=fun x hx=>by
  rw[h.oth x fun w hw=>hx w (zA _ hw),h1,if_neg fun e=>hx v (by rw[e];exact zC)]
 len:=Nat.le_trans h.len hl
theorem dO (k:Str): ∀l:Kvs,(delP k l).length<=l.length
 | []=>by simp[delP]
 | (a,b)::l=>by
  rw[delP];split
  ·simp
  ·simp only[zJ];have:=dO k l;omega
theorem YC (kv:Kvs)(i x:Nat):jY kv i x=((lookP (jU i (x / 128)) kv).getD []).getD (x % 128) 0:=by
 rw[jY,jX,zKY _ (by omega),if_pos (by omega)]
theorem zDl (w:Str)(j:Nat):(qX w).getD j 0=w.getD j 0:=by
 obtain⟨k,hk,_⟩:=jZ w;have:w.getD j 0=(qX w++List.replicate k 0).getD j 0:=by rw[<-hk]
 rw[this];simp only[zE];by_cases hj:j< (qX w).length
 ·rw[zT hj]
 ·rw[zW (by omega),List.getElem?_eq_none (l:=qX w) (by omega),List.getElem?_replicate];split<;>rfl
theorem zDm (w:Str)(n j:Nat):(w.take n).getD j 0=if j<n then w.getD j 0 else 0:=by
 simp only[zE,List.getElem?_take];split<;>rfl
theorem zHI (i first keep:Nat){v:Str}{j:Nat} :((zA0 i first keep (jU i first) v).getD []).getD j 0=if j<keep then v.getD j 0 else 0:=by
 rw[zA0];by_cases h:0<keep
 ·rw[if_pos ⟨rfl,h⟩];by_cases hv:v.length<=keep
  ·rw[if_pos hv,Option.getD_some];split
   ·rfl
   ·rw[zE,List.getElem?_eq_none (by omega)];rfl
  ·rw[if_neg hv,<-zDm,<-zDl (v.take keep)];by_cases hz:qX (v.take keep)=[]
   ·rw[if_pos hz,hz];rfl
   ·rw[if_neg hz];rfl
 ·rw[if_neg fun e=>h e.2,if_neg (by omega)];rfl
theorem zE0 {i first keep:Nat}{k v:Str}(hv:Good v){u:Str}(hu:zA0 i first keep k v=some u):Good u:=by
 rw[zA0]at hu;split at hu
 ·split at hu
  ·cases hu;exact hv
  ·split at hu
   ·cases hu
   ·rename_i hz
    cases hu
    obtain⟨_,_,h1 | h1⟩:=jZ (v.take keep)
    ·exact absurd h1 hz
    ·exact⟨by have:=vL (v.take keep);have:=hv.1;rw[zH]at*;omega,h1⟩
 ·cases hu
theorem zGp {kv0 kv:Kvs}{i a:Nat}(hs:Srt kv0)(h:ShG kv0)(hi:i<=2147483647)(hf:a / 128<4294967296)(c:CutG i (a / 128) (a % 128) kv0 kv (gQ i (a / 128) kv0)):RW kv0 kv i fun x=>if x<a then jY kv0 i x else 0:=by
 have hi':i<4294967296:=by omega
 refine⟨c.srt,fun x hx=> ?_,fun k hk=>c.oth k fun v hv=> ?_,fun p hp v hv=> ?_⟩
 ·show _=if x<a then jY kv0 i x else 0
  rw[YC,YC];by_cases hin:a / 128<=x / 128
  ·cases hl:lookP (jU i (x / 128)) kv0 with
   | none=>
    have hno: ∀v,(jU i (x / 128),v)∉gQ i (a / 128) kv0:=fun v hv=>by
     have h1:=((u4 hs h hi hf _ v).1 hv).1;rw[hl]at h1;cases h1
    rw[c.oth _ hno,hl];split<;>rfl
   | some v=>
    rw[c.hit _ v ((u4 hs h hi hf _ v).2 ⟨hl,x / 128,hin,by omega,rfl⟩)];by_cases e:x / 128=a / 128
    ·rw[e,zHI];by_cases h2:x % 128<a % 128
     ·rw[if_pos h2,if_pos (by omega)];rfl
     ·rw[if_neg h2,if_neg (by omega)]
    ·rw[zA0,if_neg fun e'=>e (WK hi' hi' (by omega) (by omega) e'.1).2,if_neg (by omega)];rfl
  ·rw[c.oth _ fun v hv=>by
    obtain⟨_,p,h1,h2,h3⟩:=(u4 hs h hi hf _ v).1 hv;have:=(WK hi' hi' (by omega) (by omega) h3).2;omega,if_pos (by omega)]
 ·obtain⟨_,p,_,h2,h3⟩:=(u4 hs h hi hf k v).1 hv;exact hk p h2 h3
 ·by_cases e: ∃w,(jU i p,w)∈gQ i (a / 128) kv0
  ·obtain⟨w,hw⟩:=e;rw[c.hit _ w hw]at hv;exact zE0 (h _ w ((u4 hs h hi hf _ w).1 hw).1).2 hv
  ·rw[c.oth _ fun w hw=>e ⟨w,hw⟩]at hv;exact(h _ v hv).2
theorem zGq {kv0:Kvs}{i a:Nat}(hs:Srt kv0)(h:ShG kv0)(hf:32768<=a):RW kv0 kv0 i fun x=>if x<a then jY kv0 i x else 0:=
 ⟨hs,fun x hx=>by show _=if x<a then jY kv0 i x else 0;rw[if_pos (by omega)],fun _ _=>rfl,h.tidy i⟩
theorem BB {i:Nat}(hi:i<=2147483647): ∃(s:Str) (b:UInt8) (k:Nat),(100::dig i 4:Str)=s++[b]++List.replicate k 255/\b.toNat<255/\k<=4/\s.length<=5/\ ∀x:Str,x.length=9->ltS x (s++[UInt8.ofNat (b.toNat+1)])=ltS x (100::dig (i+1) 4):=by
 obtain⟨s,b,k,h1,h2,h3,h4⟩:=Go.Di.dig_up 3 i [100] (by omega);simp only[qE]at h4;refine⟨s,b,k,h1,h2,by omega,by omega,fun x hx=> ?_⟩;have hz:=Go.Di.ltS_zeros k (s++[UInt8.ofNat (b.toNat+1)]) x (by rw[hx];simp;omega);rw[<-hz,h3];rfl
end Go.Ex
namespace Go.Eng.Sh
open Go.Nd (Ptr yH qP Kvs Srt Str lookP putP delP mayK)
open Go.Bt Go.Dr Go.Ex
theorem KH (D:Dyn)(n:Nat){H:AH}(hk:H.ok)(x:Int): ∃H',f38 D n [.int .i64 x] H=some (S (Z8 x),H')/\Prs H H':=by
 obtain⟨H1,A,b1,p1,g1,m1,n1⟩:=box hk (.cells (qR (Z8 x)) 5 1 false);have hcv:fL (.slice A 0 4 8) H1=some (S (Z8 x)):=B9 H1 p1.ok g1 rfl;rw[zGC x]at b1;have s1:=zHB x (s:=24) (k:=16777216) (by decide) (by omega);have s2:=zHB x (s:=16) (k:=65536) (by decide) (by omega);have s3:=zHB x (s:=8) (k:=256) (by decide) (by omega);have bl:wQ 5 1 4 [.int .u8 ((0:Nat):Int)] [(0, .int .u8 (x / 16777216 % 256)),(1, .int .u8 (x / 65536 % 256)),(2, .int .u8 (x / 256 % 256)),(3, .int .u8 (x % 256))]=some (.cells [.int .u8 (x / 16777216 % 256), .int .u8 (x / 65536 % 256), .int .u8 (x / 256 % 256), .int .u8 (x % 256)] 5 1 false,fun A=> .slice A 0 4 8):=rfl;refine⟨H1, ?_,p1⟩;simp(maxSteps:=999999)(disch:=omega) only[f38,eZ,s1,s2,s3,WY,wrap_u8,bl,b1,hcv]
theorem zB1 (D:Dyn)(n:Nat){H:AH}(hk:H.ok)(i x:Int): ∃H',f19 D n [.int .i64 i, .int .i64 x] H=some (S (zLc i x),H')/\Prs H H':=by
 obtain⟨H1,e1,p1⟩:=KH D n hk i;obtain⟨H2,e2,p2⟩:=KH D n p1.ok x;have hS:(AV.str 1 100)=S [100]:=rfl;have a1:jW .add (S [100]) (S (Z8 i))=some (S (100::Z8 i)):=by rw[bY _ _ (by simp[Z8])];rfl
 have a2:jW .add (S (100::Z8 i)) (S (Z8 x))=some (S (zLc i x)):=by rw[bY _ _ (by simp[Z8])];rfl
 refine⟨H2, ?_,p1.trans p2⟩;simp(maxSteps:=999999)(disch:=omega) only[f19,eZ,hS,e1,a1,e2,a2]
theorem KT (D:Dyn)(n:Nat){H:AH}(hk:H.ok)(i x:Nat): ∃H',f19 D n [.int .i64 ((i:Nat):Int), .int .i64 ((x:Nat):Int)] H=some (S (jU i x),H')/\Prs H H':=by
 have:=zB1 D n hk i x;rw[zBm]at this;exact this
theorem J2 (m:Nat)(hm:700000000<=m){H:AH}{At M L:Nat}{kv:Kvs}(t:yS H At M L kv)(hs:Srt kv)(hsh:ShG kv)(hL:L<=1000000)(hkv:kv.length<=100000000){i first:Nat}(hi:i<=2147483647)(hf:first<4294967296):
  ∃H' v,f33 (dy (m+1)) (m+1) [.ptr At 0, .int .i64 ((i:Nat):Int), .int .i64 ((first:Nat):Int)] H=some (.tuple [v, .int .i64 ((0:Nat):Int)],H')/\Prs H H'/\j7 2 50 H' v (gQ i first kv).length ((gQ i first kv).flatMap prV)/\ ∀B,Blk v B->H.next<=B:=by
 have hk:=t.okH;obtain⟨T,hT⟩: ∃T:Str,T=100::dig i 4:=⟨_,rfl⟩;obtain⟨s,b,k,q1,q2,q3,q4,q5⟩:=BB hi;obtain⟨to,hto⟩: ∃to,to=s++[UInt8.ofNat (b.toNat+1)]:=⟨_,rfl⟩;obtain⟨H1,e1,p1⟩:=QW (dy (m+1)) (m+1) hk i first
 obtain⟨H2,e2,p2⟩:=zHu (dy (m+1)) (m+1) p1.ok i;rw[<-hT]at e2 q1;obtain⟨H3,e3,p3⟩:=zCM (dy (m+1)) (m+1) (by omega) p2.ok s q2 (by omega) k (by omega);have P3:=(p1.trans p2).trans p3;rw[<-q1,<-hto]at e3;rw[<-hto]at q5;have hto2: ∀x:Str,x.length=9->y8 to x=ltS x (100::dig (i+1) 4):=fun x hx=>by
  have e1:to.isEmpty=false:=by rw[hto];cases s<;>rfl
  simp only[y8,e1,Bool.false_or,q5 x hx]
 obtain⟨H4,w,e4,p4,g4,b4⟩:=VG m hm (t.prs P3) hL (by omega) (jU i first) to (most:=9223372036854775807) (by omega)
 rw[Q3 hs hsh i first hto2]at g4 e4
 have hbl:=zAR i first kv
 have htk:(gQ i first kv).take 9223372036854775807=gQ i first kv:=zK (by omega)
 rw[htk]at g4;obtain⟨H5,v,e5,p5,g5,b5⟩:=st_loop (dy (m+1)) (m+1) g4.row (by omega) (gQ i first kv).length 0 (m+1) (acc:=[]) (v:= .nilSlice) (by omega) (by omega) ⟨p4.ok,Nat.le_refl _,fun _ _ _=>rfl⟩ (by simp) (.inl (Own.nil ..)) (fun B hB=>(Blk.nil.1 hB).elim)
 have hp9:(gQ i first kv).filter p9=gQ i first kv:=zMz hs hsh i first
 rw[List.nil_append,List.drop_zero,hp9]at g5;have N3:=P3.next;have N4:=p4.next
 refine⟨H5,v, ?_,(P3.trans p4).trans p5,g5,fun B hB=>by have:=b5 B hB;omega⟩;have hfI: ¬((4294967295:Nat):Int)< ((first:Nat):Int):=by omega
 have t00: ¬(((0:Nat):Int)≠((0:Nat):Int)):=by omega
 have hln:lnSl w=some (.int .i64 (((gQ i first kv).length:Nat):Int)):=g4.row.lnSl
 simp(maxSteps:=999999)(disch:=omega) only[f33,zO4,eZ,hfI,e1,e2,e3,e4,qK,nth,t00,hln,e5]
theorem BU (D:Dyn)(n:Nat){H:AH}{At i first:Nat}(hf:4294967296<=first):f33 D n [.ptr At 0, .int .i64 ((i:Nat):Int), .int .i64 ((first:Nat):Int)] H=some (.tuple [.nilSlice, .int .i64 ((0:Nat):Int)],H):=by
 have hfI:((4294967295:Nat):Int)< ((first:Nat):Int):=by omega
 simp(maxSteps:=999999)(disch:=omega) only[f33,eZ,hfI]
theorem KG (D:Dyn)(n:Nat){H:AH}{z:Int}(h: ¬(1<=z/\z<=2147483647)):f27 D n [.int .i64 z] H=some (.bool false,H):=by
 by_cases a1:((1:Nat):Int)<=z
 ·have a2: ¬z<=((2147483647:Nat):Int):=by omega
  simp(maxSteps:=999999)(disch:=omega) only[f27,eZ,a1,a2,decide_true,decide_false]
 ·simp(maxSteps:=999999)(disch:=omega) only[f27,eZ,a1,decide_false]
theorem KS (D:Dyn)(n:Nat){H:AH}{z:Int}(h: ¬(1<=z/\z<=2147483647)):f24 D n [.int .i64 z] H=some (.bool false,H):=by
 by_cases a1:((1:Nat):Int)<=z
 ·have a2: ¬z<=((2147483647:Nat):Int):=by omega
  simp(maxSteps:=999999)(disch:=omega) only[f24,eZ,a1,a2,decide_true,decide_false]
 ·simp(maxSteps:=999999)(disch:=omega) only[f24,eZ,a1,decide_false]
theorem dG (D:Dyn)(n:Nat){H:AH}{i:Nat}(h1:1<=i)(h2:i<=2147483647):f24 D n [.int .i64 ((i:Nat):Int)] H=some (.bool true,H):=by
 have a1:((1:Nat):Int)<=((i:Nat):Int):=by omega
 have a2:((i:Nat):Int)<=((2147483647:Nat):Int):=by omega
 simp only[f24,eZ,a1,a2,decide_true]
theorem zC7 (m:Nat)(hm:700000000<=m){H:AH}{At M L:Nat}{kv:Kvs}(t:yS H At M L kv)(hs:Srt kv)(hsh:ShG kv)(hL:L<=1000000)(hkv:kv.length<=100000000){i:Nat}(h1:1<=i)(h2:i<=2147483647):
  ∃H',f14 (dy (m+1)) (m+1) [.ptr At 0, .int .i64 ((i:Nat):Int)] H=some (.tuple [.int .i64 (((gQ i 0 kv).length:Nat):Int), .int .i64 ((0:Nat):Int)],H')/\Prs H H':=by
 obtain⟨H1,v,e1,p1,g1,_⟩:=J2 m hm t hs hsh hL hkv h2 (first:=0) (by omega)
 have i1:=Z9 (dy (m+1)) (m+1) (H:=H) h1 h2;have hln:lnSl v=some (.int .i64 (((gQ i 0 kv).length:Nat):Int)):=g1.row.lnSl;refine⟨H1, ?_,p1⟩;simp(maxSteps:=999999)(disch:=omega) only[f14,eZ,cq,i1,e1,qK,nth,hln]
theorem zC8 (D:Dyn)(n:Nat){H:AH}{At:Nat}{z:Int}(h: ¬(1<=z/\z<=2147483647)):f14 D n [.ptr At 0, .int .i64 z] H=some (.tuple [.int .i64 ((0:Nat):Int), .int .i64 ((1:Nat):Int)],H):=by
 have i1:=KG D n (H:=H) h;simp(maxSteps:=999999)(disch:=omega) only[f14,eZ,cq,i1]
theorem zCl (D:Dyn)(n:Nat){H:AH}{v:AV}{z:Int}(h: ¬(1<=z/\z<=2147483647)):f15 D n [v, .int .i64 z] H=some (.tuple [.int .i64 ((0:Nat):Int), .int .i64 ((1:Nat):Int)],H):=by
 have i1:=KS D n (H:=H) h;simp(maxSteps:=999999)(disch:=omega) only[f15,eZ,i1]
structure CG (H:AH)(At M Bi Bf Bk Bt ii first keep:Nat)(w:AV)(l:Kvs):Prop where
 bi:Box H Bi (.int .i64 ((ii:Nat):Int))
 bf:Box H Bf (.int .i64 ((first:Nat):Int))
 bk:Box H Bk (.int .i64 ((keep:Nat):Int))
 bt:Box H Bt (.ptr At 0)
 ne:Bi≠At/\Bf≠At/\Bk≠At/\Bt≠At
 nm:Bi≠M/\Bf≠M/\Bk≠M/\Bt≠M
 row:Rw 2 H w l.length (l.flatMap prV)
 far: ∀B,Blk w B->B≠At/\B≠M
theorem CG.mono {H H':AH}{At M Bi Bf Bk Bt ii first keep:Nat}{w:AV}{l:Kvs}(h:CG H At M Bi Bf Bk Bt ii first keep w l)(hk:H.ok)(s:Stp (fun B=>B=At\/B=M) H H'):CG H' At M Bi Bf Bk Bt ii first keep w l where
 bi:=h.bi.mono hk s fun e=>e.elim h.ne.1 h.nm.1
 bf:=h.bf.mono hk s fun e=>e.elim h.ne.2.1 h.nm.2.1
 bk:=h.bk.mono hk s fun e=>e.elim h.ne.2.2.1 h.nm.2.2.1
 bt:=h.bt.mono hk s fun e=>e.elim h.ne.2.2.2 h.nm.2.2.2
 ne:=h.ne
 nm:=h.nm
 row:=Rw.stp h.row s fun B hB e=>e.elim (h.far B hB).1 (h.far B hB).2
 far:=h.far
theorem CG.prs {H H':AH}{At M Bi Bf Bk Bt ii first keep:Nat}{w:AV}{l:Kvs}(h:CG H At M Bi Bf Bk Bt ii first keep w l)(hk:H.ok)(s:Prs H H'):CG H' At M Bi Bf Bk Bt ii first keep w l:=h.mono hk (Prs.stp s)
theorem zGo (m n:Nat)(hm:300000000<=m)(hn:300000000<=n){H:AH}{At M L Bi Bf Bk Bt ii first keep i p:Nat}{w:AV}{l kv:Kvs}(c:CG H At M Bi Bf Bk Bt ii first keep w l)(t:yS H At M L kv)(hs:Srt kv)(hL:L<=90000000)(hkv:kv.length<=1000000000)(hkeep:keep<128)(hl:l.length<=400000000)(hi:i<l.length)(hp:l[i].1=jU ii p)(hlk:lookP l[i].1 kv=some l[i].2):
  ∃H' kv',UF (dy (m+2)) n [.ptr Bi 0, .ptr Bf 0, .ptr Bk 0, .ptr Bt 0,w, .int .i64 ((l.length:Nat):Int), .int .i64 ((i:Nat):Int)] H=some (.norm [.ptr Bi 0, .ptr Bf 0, .ptr Bk 0, .ptr Bt 0,w, .int .i64 ((l.length:Nat):Int), .int .i64 ((i+1:Nat):Int)],H')/\yS H' At M (L+200) kv'/\Srt kv'/\kv'.length<=kv.length/\(∀x,lookP x kv'=if x=l[i].1 then zA0 ii first keep l[i].1 l[i].2 else lookP x kv)/\Stp (fun B=>B=At\/B=M) H H':=by
 have hk:=t.okH;have lt:=t.lt;have hiI:((i:Nat):Int)< ((l.length:Nat):Int):=by omega
 have hi1:((i:Nat):Int)+((1:Nat):Int)=((i+1:Nat):Int):=by omega
 obtain⟨q,i1,i2⟩:=zJA c.row hi;obtain⟨k,hkd⟩: ∃k,k=l[i].1:=⟨_,rfl⟩;obtain⟨v,hvd⟩: ∃v,v=l[i].2:=⟨_,rfl⟩;rw[<-hkd,<-hvd]at i2 hlk⊢;rw[<-hkd]at hp;obtain⟨H1,X7,b1,p1,g1,m1,n1⟩:=box hk (.cells [S [],S []] 50 1 false);obtain⟨H2,e2,g2,s2,n2⟩:=yF p1.ok g1 (l':=[S k,S v]) rfl rfl;have e2':stN 2 (.ptr X7 0) (.agg [S k,S v]) H1=some (qM,H2):=e2;have P2:Prs H H2:=p1.fresh s2 fun B hB=>by omega
 have N1:=p1.next;have N2:=s2.next
 have hS:(AV.str 0 0)=S []:=rfl;obtain⟨H3,e3,p3⟩:=QW (dy (m+2)) n P2.ok ii first
 have N3:=p3.next
 have P3:=P2.trans p3;have c2:=c.prs hk P2;have c3:=c.prs hk P3;have g3:=Prs.get p3 P2.ok g2;have t3:=t.prs P3;have r20:Eng.ld1 (.ptr X7 0) H2=some (S k):=by rw[qL g2];rfl
 have r30:Eng.ld1 (.ptr X7 0) H3=some (S k):=by rw[qL g3];rfl
 have r31:Eng.ld1 (.ptr X7 1) H3=some (S v):=by rw[qL g3];rfl
 have t00: ¬(((0:Nat):Int)≠((0:Nat):Int)):=by omega
 have del: ∃H',f35 (dy (m+2)) n [.ptr At 0,S k] H3=some (.int .i64 ((0:Nat):Int),H')/\yS H' At M (L+200) (delP k kv)/\Stp (fun B=>B=At\/B=M) H3 H':=by
  obtain⟨H4,e4,t4,s4⟩:=zAq m n hm hn t3 (by omega) hkv (k:=k);have hz:dW k kv=0:=by rw[dW,hp,bU,<-hp,hlk];rfl
  rw[hz]at e4;rw[if_pos hz]at t4;exact⟨H4,e4,t4,s4⟩
 by_cases hkk:k=jU ii first
 ·have hkT:(k=jU ii first)=True:=eq_true hkk
  by_cases h0:0<keep
  ·have h0I:((0:Nat):Int)< ((keep:Nat):Int):=by omega
   by_cases hv:v.length<=keep
   ·have hvI:((v.length:Nat):Int)<=((keep:Nat):Int):=by omega
    refine⟨H3,kv, ?_,t3.up (by omega),hs,Nat.le_refl _,fun x=> ?_,Prs.stp P3⟩
    ·simp(maxSteps:=999999)(disch:=omega) only[UF,zFK,eZ,hiI,i1,i2,hS,b1,e2',r20,c2.bi.ld,c2.bf.ld,e3,r30,zLW,jE,hkT,c3.bk.ld,h0I,r31,yQ,hvI,hi1]
    ·split
     ·rename_i e;rw[e,hlk,zA0,if_pos ⟨hkk,h0⟩,if_pos hv]
     ·rfl
   ·have hvI: ¬((v.length:Nat):Int)<=((keep:Nat):Int):=by omega
    have hst:uV (S v) none (some (.int .i64 ((keep:Nat):Int)))=some (S (v.take keep)):=by
     rw[ZD _ _ (by omega) (by rw[zS];omega),zS]
    have htl:(v.take keep).length=keep:=by rw[zH];omega
    obtain⟨H4,X8,b4,p4,g4,m4,n4⟩:=box P3.ok (.cells (qR (v.take keep)) 5 1 true);have hcb:=zOg (v.take keep) (by omega);have hcv:fL (.slice X8 0 keep 1) H4=some (S (v.take keep)):=
     dY (n:=keep) ⟨by rw[qU,htl,Nat.mul_one], .inr (.inr ⟨_,_,_,_,_,_,_,rfl,g4,p4.ok.lt g4,by rw[qU,htl];omega,by
      rw[List.drop_zero,zK (by rw[qU,htl];omega)]⟩)⟩ (by simp)
    rw[htl]at hcb;obtain⟨H5,e5,t5,s5⟩:=zC6 m n hm hn (t3.prs p4) (by omega) hkv ii (first) (by omega) hcv (by rw[<-hkk,hlk];rfl)
    refine⟨H5,_, ?_,t5,Q1 hs _ _ _, ?_,fun x=> ?_,(Prs.stp (P3.trans p4)).trans s5⟩
    ·simp(maxSteps:=999999)(disch:=omega) only[UF,zFK,eZ,hiI,i1,i2,hS,b1,e2',r20,c2.bi.ld,c2.bf.ld,e3,r30,zLW,jE,hkT,c3.bk.ld,h0I,r31,yQ,hvI,c3.bt.ld,c3.bi.ld,c3.bf.ld,hst,hcb,b4,e5,t00,hi1]
    ·rw[kG];split
     ·exact dO _ _
     ·rw[Nd.len_put _ _ hs,if_pos (by rw[<-hkk,hlk];rfl)];exact Nat.le_refl _
    ·have hres:zA0 ii first keep k v=if qX (v.take keep)=[]then none else some (qX (v.take keep)):=by rw[zA0,if_pos ⟨hkk,h0⟩,if_neg hv]
     rw[vM hs,<-hkk,hres]
  ·have h0I: ¬((0:Nat):Int)< ((keep:Nat):Int):=by omega
   obtain⟨H4,e4,t4,s4⟩:=del;refine⟨H4,_, ?_,t4,Nd.srt_del _ hs,dO _ _,fun x=> ?_,(Prs.stp P3).trans s4⟩
   ·simp(maxSteps:=999999)(disch:=omega) only[UF,zFK,eZ,hiI,i1,i2,hS,b1,e2',r20,c2.bi.ld,c2.bf.ld,e3,r30,zLW,jE,hkT,c3.bk.ld,h0I,c3.bt.ld,e4,t00,hi1]
   ·have hres:zA0 ii first keep k v=none:=by rw[zA0,if_neg fun e=>h0 e.2]
    rw[Nd.look_del _ _ hs,hres]
 ·obtain⟨H4,e4,t4,s4⟩:=del;refine⟨H4,_, ?_,t4,Nd.srt_del _ hs,dO _ _,fun x=> ?_,(Prs.stp P3).trans s4⟩
  ·simp(maxSteps:=999999)(disch:=omega) only[UF,zFK,eZ,hiI,i1,i2,hS,b1,e2',r20,c2.bi.ld,c2.bf.ld,e3,r30,zLW,jE,hkk,c3.bt.ld,e4,t00,hi1]
  ·have hres:zA0 ii first keep k v=none:=by rw[zA0,if_neg fun e=>hkk e.1]
   rw[Nd.look_del _ _ hs,hres]
theorem UP (m n:Nat)(hm:300000000<=m)(hn:300000000<=n){At M Bi Bf Bk Bt ii first keep:Nat}{w:AV}{l:Kvs}(hkeep:keep<128)(hll:l.length<=400000000)(hnod:l.Pairwise fun a b=>a.1≠b.1)(hkey: ∀x∈l,∃p,x.1=jU ii p):
  ∀(rr i kf L:Nat) {H:AH} {kv:Kvs},i+rr=l.length->rr<kf->CG H At M Bi Bf Bk Bt ii first keep w l->yS H At M L kv->Srt kv->L+200*rr<=90000000->kv.length<=1000000000->(∀x∈l.drop i,lookP x.1 kv=some x.2)->
   ∃H' kv',qW kf (UF (dy (m+2)) n) [.ptr Bi 0, .ptr Bf 0, .ptr Bk 0, .ptr Bt 0,w, .int .i64 ((l.length:Nat):Int), .int .i64 ((i:Nat):Int)] H=some (.exit 0 [],H')/\yS H' At M (L+200*rr) kv'/\CutG ii first keep kv kv' (l.drop i)/\Stp (fun B=>B=At\/B=M) H H'
 | _,_,0,_,_,_,_,hk,_,_,_,_,_,_=>by omega
 | rr,i,kf+1,L,H,kv,hr,hkf,c,t,hs,hL,hkv,hlk=>by
  by_cases hi:i<l.length
  ·have hd:=zL hi;obtain⟨p,hp⟩:=hkey l[i] (zU hi);obtain⟨H1,kv1,e1,t1,s1,len1,look1,st1⟩:=zGo m n hm hn c t hs (by omega) hkv hkeep hll hi hp (hlk _ (by rw[hd];exact zC));have hdn: ∀q∈l.drop (i+1),l[i].1≠q.1:=by
    have h1:=hnod.drop (i:=i);rw[hd]at h1;exact(List.pairwise_cons.1 h1).1
   obtain⟨H2,kv2,e2,t2,c2,st2⟩:=UP m n hm hn hkeep hll hnod hkey (rr - 1) (i+1) kf (L+200) (by omega) (by omega) (c.mono t.okH st1) t1 s1 (by omega) (by omega) (fun x hx=>by
    rw[look1,if_neg fun e=>hdn x hx e.symm];exact hlk x (by rw[hd];exact zA _ hx))
   refine⟨H2,kv2, ?_,t2.up (by omega), ?_,st1.trans st2⟩
   ·rw[yW e1,e2]
   ·rw[hd];exact zGr look1 len1 c2 hdn
  ·have hiI: ¬((i:Nat):Int)< ((l.length:Nat):Int):=by omega
   refine⟨H,kv,qY ?_,t.up (by omega), ?_,Stp.refl t.okH⟩
   ·simp(maxSteps:=999999)(disch:=omega) only[UF,eZ,hiI]
   ·rw[zO (by omega)];exact zBM hs _ _ _
theorem zIP (m n:Nat)(hm:300000000<=m)(hn:300000000<=n){H:AH}{At M L Bl Bi Bf Bk Bt ii first keep:Nat}{w:AV}{kv:Kvs}(c:CG H At M Bi Bf Bk Bt ii first keep w (gQ ii first kv))(bl:Box H Bl w)(t:yS H At M L kv)(hs:Srt kv)(hsh:ShG kv)(hi2:ii<=2147483647)(hf:first<4294967296)(hL:L<=1000000)(hkv:kv.length<=100000)(hkeep:keep<128):
  ∃H' kv',f34 (dy (m+2)) n [.ptr Bl 0, .ptr Bi 0, .ptr Bf 0, .ptr Bk 0, .ptr Bt 0] H=some (.int .i64 ((0:Nat):Int),H')/\yS H' At M (L+200*kv.length) kv'/\CutG ii first keep kv kv' (gQ ii first kv)/\Stp (fun B=>B=At\/B=M) H H':=by
 have hle:(gQ ii first kv).length<=kv.length:=zAR ii first kv
 obtain⟨H1,kv1,e1,t1,c1,s1⟩:=UP m n hm hn hkeep (by omega) (zHt hs ii first) (fun x hx=>by
  obtain⟨_,p,_,_,h⟩:=(u4 hs hsh hi2 hf x.1 x.2).1 hx;exact⟨p,h⟩) (gQ ii first kv).length 0 n L (by omega) (by omega) c t hs (by omega) (by omega) (fun x hx=>((u4 hs hsh hi2 hf x.1 x.2).1 hx).1)
 refine⟨H1,kv1, ?_,t1.up (by omega),c1,s1⟩;have hln:lnSl w=some (.int .i64 (((gQ ii first kv).length:Nat):Int)):=c.row.lnSl
 simp(maxSteps:=999999)(disch:=omega) only[f34,zO2,eZ,bl.ld,hln,e1]
set_option maxRecDepth 20000 in
theorem zM0 (m n:Nat)(a b c d e:Nat)(H:AH):callV (s28 (dy (m+1)) n).S (dy (m+1)) (.func 34 [] [.ptr a 0, .ptr b 0, .ptr c 0, .ptr d 0, .ptr e 0]) [] H=f34 (dy m) m [.ptr a 0, .ptr b 0, .ptr c 0, .ptr d 0, .ptr e 0] H:=rfl
theorem zHd (m:Nat)(hm:700000000<=m){H:AH}{At M L a ii:Nat}{kv:Kvs}(t:yS H At M L kv)(hs:Srt kv)(hsh:ShG kv)(hi1:1<=ii)(hi2:ii<=2147483647)(hL:L<=1000000)(hkv:kv.length<=100000)(ha:a<9223372036854775808):
  ∃H' kv',f11 (dy (m+1)) (m+1) [.ptr At 0, .int .i64 ((ii:Nat):Int), .int .i64 ((a:Nat):Int)] H=some (.int .i64 ((0:Nat):Int),H')/\yS H' At M (L+200*kv.length) kv'/\RW kv kv' ii (fun x=>if x<a then jY kv ii x else 0)/\kv'.length<=kv.length/\Stp (fun B=>B=At\/B=M) H H':=by
 have hk:=t.okH;have lt:=t.lt;obtain⟨H1,X3,b1,p1,g1,m1,w1⟩:=box hk (.cells [.ptr At 0] 25 1 false);obtain⟨H2,X4,b2,p2,g2,m2,w2⟩:=box p1.ok (.cells [.int .i64 ((ii:Nat):Int)] 3 1 false);obtain⟨H3,X7,b3,p3,g3,m3,w3⟩:=box p2.ok (.cells [.int .i64 ((0:Nat):Int)] 3 1 false);obtain⟨H4,X8,b4,p4,g4,m4,w4⟩:=box p3.ok (.cells [.int .i64 ((0:Nat):Int)] 3 1 false);have N1:=p1.next;have N2:=p2.next;have N3:=p3.next;have N4:=p4.next
 have P2:=p1.trans p2;have P4:=(P2.trans p3).trans p4;obtain⟨H5,e5,x75,s5⟩:=(show Box H4 X7 (.int .i64 ((0:Nat):Int))from⟨_,Prs.get p4 p3.ok g3⟩).st p4.ok (x:= .int .i64 ((a / 128:Nat):Int)) rfl;obtain⟨H6,e6,x86,s6⟩:=(show Box H5 X8 (.int .i64 ((0:Nat):Int))from(show Box H4 X8 (.int .i64 ((0:Nat):Int))from⟨_,g4⟩).mono p4.ok s5 (by omega)).st s5.ok (x:= .int .i64 ((a % 128:Nat):Int)) rfl;have N5:=s5.next;have N6:=s6.next
 have P6:Prs H H6:=(P4.fresh s5 fun B hB=>by omega).fresh s6 fun B hB=>by omega
 have x32:Box H2 X3 (.ptr At 0):=⟨_,Prs.get p2 p1.ok g1⟩;have x42:Box H2 X4 (.int .i64 ((ii:Nat):Int)):=⟨_,g2⟩;have up: ∀ {B:Nat} {x:AV},Box H2 B x->B<H2.next->Box H6 B x:=fun hb hB=>(((hb.mono P2.ok p3 fun x=>x).mono p3.ok p4 fun x=>x).mono p4.ok s5 (by omega)).mono s5.ok s6 (by omega)
 have x36:=up x32 (by omega);have x46:=up x42 (by omega);have x76:Box H6 X7 (.int .i64 ((a / 128:Nat):Int)):=x75.mono s5.ok s6 (by omega);have hc: ∀z:Int,qT (.int .i64 z)=[.int .i64 z]:=fun z=>rfl
 have hcp:qT (.ptr At 0)=[.ptr At 0]:=rfl;have hcn:qT .nilSlice=[.nilSlice]:=rfl;have i1:=Z9 (dy (m+1)) (m+1) (H:=H2) (i:=ii) (by omega) (by omega);have t1: ¬((a:Nat):Int)< ((0:Nat):Int):=by omega
 have t00: ¬(((0:Nat):Int)≠((0:Nat):Int)):=by omega
 have hq:=quoB (c:=a) (k:=128) ha (by omega);have hr:=remN (c:=a) (k:=128) (by omega);obtain⟨m',hm'⟩: ∃m',m=m'+2:=⟨m - 2,by omega⟩;by_cases hf:a / 128<4294967296
 ·obtain⟨H7,w,e7,p7,g7,f7⟩:=J2 m hm (t.prs P6) hs hsh hL (by omega) hi2 hf;have N7:=p7.next
  obtain⟨H8,X9,b8,p8,g8,m8,w8⟩:=box p7.ok (.cells [.nilSlice] 27 1 false);have N8:=p8.next
  obtain⟨H9,e9,x99,s9⟩:=(show Box H8 X9 .nilSlice from⟨_,g8⟩).st p8.ok (x:=w) g7.isCell;have N9:=s9.next
  have p79:Prs H7 H9:=p8.fresh s9 fun B hB=>by omega
  have P9:Prs H H9:=(P6.trans p7).trans p79;have hln:lnSl w=some (.int .i64 (((gQ ii (a / 128) kv).length:Nat):Int)):=g7.row.lnSl;by_cases h0:(gQ ii (a / 128) kv).length=0
  ·refine⟨H9,kv, ?_,(t.prs P9).up (by omega), ?_,Nat.le_refl _,Prs.stp P9⟩
   ·have h0I:(((gQ ii (a / 128) kv).length:Nat):Int)=((0:Nat):Int):=by omega
    simp(maxSteps:=999999)(disch:=omega) only[f11,eZ,hc,hcp,hcn,b1,b2,b3,b4,x32.ld,cq,x42.ld,i1,t1,hq,hr,e5,e6,x36.ld,x46.ld,x76.ld,e7,qK,nth,b8,e9,t00,x99.ld,hln,h0I]
   ·refine zGp hs hsh hi2 hf ?_;rw[zG h0];exact zBM hs _ _ _
  ·have h0I: ¬(((gQ ii (a / 128) kv).length:Nat):Int)=((0:Nat):Int):=by omega
   obtain⟨H10,At',M',e10,p10,l5,l6,t10⟩:=zBP (dy (m+1)) (m+1) (t.prs P9);have N10:=p10.next
   have up9: ∀ {B:Nat} {x:AV},Box H6 B x->Box H10 B x:=fun hb=>((hb.mono P6.ok p7 fun x=>x).mono p7.ok p79 fun x=>x).mono p79.ok p10 fun x=>x
   have hk9:H9.ok:=p79.ok;have cb:CG H10 At M X4 X7 X8 X3 ii (a / 128) (a % 128) w (gQ ii (a / 128) kv):= {
    bi:=up9 x46
    bf:=up9 x76
    bk:=up9 x86
    bt:=up9 x36
    ne:=⟨by omega,by omega,by omega,by omega⟩
    nm:=⟨by omega,by omega,by omega,by omega⟩
    row:=Rw.stp g7.row (p79.trans p10) fun _ _ x=>x
    far:=fun B hB=>by have:=f7 B hB;omega}
   obtain⟨H11,kv',e11,t11,c11,s11⟩:=zIP m' m (by omega) (by omega) cb (x99.mono hk9 p10 fun x=>x) (t.prs (P9.trans p10)) hs hsh hi2 hf hL hkv (by omega);have e11':f34 (dy m) m [.ptr X9 0, .ptr X4 0, .ptr X7 0, .ptr X8 0, .ptr X3 0] H10=some (.int .i64 ((0:Nat):Int),H11):=by
    rw[hm']at e11⊢;exact e11
   refine⟨H11,kv', ?_,t11,zGp hs hsh hi2 hf c11,c11.len,(Prs.stp (P9.trans p10)).trans s11⟩;have ew:f28 (dy (m+1)) (m+1) [.ptr At 0, .func 34 [] [.ptr X9 0, .ptr X4 0, .ptr X7 0, .ptr X8 0, .ptr X3 0]] H9=some (.int .i64 ((0:Nat):Int),H11):=by
    simp(maxSteps:=999999)(disch:=omega) only[f28,zLF,eZ,e10,zM0,e11',t00]
   have x39:Box H9 X3 (.ptr At 0):=(x36.mono P6.ok p7 fun x=>x).mono p7.ok p79 fun x=>x
   simp(maxSteps:=999999)(disch:=omega) only[f11,eZ,hc,hcp,hcn,b1,b2,b3,b4,x32.ld,cq,x42.ld,i1,t1,hq,hr,e5,e6,x36.ld,x46.ld,x76.ld,e7,qK,nth,b8,e9,t00,x99.ld,hln,h0I,x39.ld,ew]
   try rfl
 ·have e7:=BU (dy (m+1)) (m+1) (H:=H6) (At:=At) (i:=ii) (first:=a / 128) (by omega)
  obtain⟨H8,X9,b8,p8,g8,m8,w8⟩:=box P6.ok (.cells [.nilSlice] 27 1 false);obtain⟨H9,e9,x99,s9⟩:=(show Box H8 X9 .nilSlice from⟨_,g8⟩).st p8.ok (x:= .nilSlice) rfl;have P9:Prs H H9:=(P6.trans p8).fresh s9 fun B hB=>by omega
  refine⟨H9,kv, ?_,(t.prs P9).up (by omega),zGq hs hsh (by omega),Nat.le_refl _,Prs.stp P9⟩;have hln:lnSl .nilSlice=some (.int .i64 ((0:Nat):Int)):=rfl;simp(maxSteps:=999999)(disch:=omega) only[f11,eZ,hc,hcp,hcn,b1,b2,b3,b4,x32.ld,cq,x42.ld,i1,t1,hq,hr,e5,e6,x36.ld,x46.ld,x76.ld,e7,qK,nth,b8,e9,t00,x99.ld,hln]
end Go.Eng.Sh
end
section
namespace Go.Di
open Go.Nd (Str Kvs putP delP lookP Srt mayK)
open Go.Eng (ltS)
open Go.Dr
theorem zEY (k v:Str): ∀l:Kvs,(∀q∈l,q.1≠k)->l.take (l.findIdx fun p=> !ltS p.1 k)++(k,v)::l.drop (l.findIdx fun p=> !ltS p.1 k)=putP k v l
 | [],_=>rfl
 | (a,b)::l,h=>by
  have ih:=zEY k v l fun q hq=>h q (zA _ hq)
  have ha: ¬a=k:=h (a,b) (zC ..);simp only[putP,if_neg ha]
  cases hl:ltS a k with
  | true=>
   have:((a,b)::l).findIdx (fun p=> !ltS p.1 k)=(l.findIdx fun p=> !ltS p.1 k)+1:=by rw[List.findIdx_cons];simp[hl]
   rw[this,List.take_succ_cons,List.drop_succ_cons,List.cons_append,ih];rfl
  | false=>
   have:((a,b)::l).findIdx (fun p=> !ltS p.1 k)=0:=by rw[List.findIdx_cons];simp[hl]
   rw[this];rfl
end Go.Di
namespace Go.Eng
end Go.Eng
namespace Go.Eng.Sh
open Go.Nd (Ptr yH qP Kvs Srt Str)
open Go.Bt Go.Dr Go.Di
theorem zEi (p:Str×Str):qN (prV p)=true:=rfl
theorem zE5 (D:Dyn)(n:Nat){H:AH}(hk:H.ok){v:AV}{l:Kvs}(h:gP H v l)(hl:l.length<=1000000)(hn:l.length<n)(key:Str):
  ∃H' v',f54 D n [v,S key] H=some (v',H')/\Prs H H'/\PrG H' v' (l.filter fun p=>decide (p.1≠key))/\ ∀B,Blk v' B->H.next<=B:=by
 have hln:lnSl v=some (.int .i64 ((l.length:Nat):Int)):=Rw.lnSl h;have lp:=vB (b:=zCD D n) l.length (fun i us H'=> ∃w,us=[v,S key,w, .int .i64 ((i:Nat):Int)]/\Prs H H'/\PrG H' w ((l.take i).filter fun p=>decide (p.1≠key))/\ ∀B,Blk w B->H.next<=B) (fun i us H' hi ⟨w,hus,P,g,f⟩=>by
  subst hus;have h':gP H' v l:=Rw.stp h P fun _ _ x=>x
  obtain⟨A,o,i1,i2,i3,_⟩:=h'.at hi;have i3':Eng.ld1 (.ptr A (o+0)) H'=some (S l[i].1):=i3;have hiI:((i:Nat):Int)< ((l.length:Nat):Int):=by omega
  have hi1:((i:Nat):Int)+((1:Nat):Int)=((i+1:Nat):Int):=by omega
  have hts:l.take (i+1)=l.take i++[l[i]]:=zQ hi;by_cases hne:l[i].1≠key
  ·have hq:(l.take (i+1)).filter (fun p=>decide (p.1≠key))=(l.take i).filter (fun p=>decide (p.1≠key))++[l[i]]:=by rw[hts,List.filter_append,List.filter_cons_of_pos (by simpa using hne)];rfl
   have hlen:=List.length_filter_le (fun p=>decide (p.1≠key)) (l.take i);rw[zH]at hlen;obtain⟨H1,A2,b1,p1,g1,m1,n1⟩:=box P.ok (.cells (prV l[i]) 50 2 false);have hsrc:srcOf 2 (.slice A2 0 1 2) H1=some (1,prV l[i]):=by simp only[srcOf,g1];rfl
   obtain⟨w',H2,e2,gw2,s2,f2⟩:=j7.app (bytes:=32) (m:=1) p1.ok (by decide) (j7.mono g.1 p1 fun _ _ x=>x) hsrc rfl rfl (by omega) (by decide);have N:=P.next;have N1:=p1.next
   have bl1:wQ 50 2 1 [S [],S []] [(0, .agg (prV l[i]))]=some (.cells (prV l[i]) 50 2 false,fun A=> .slice A 0 1 2):=rfl;have hS:(AV.str 0 0)=S []:=rfl;refine⟨_,H2, ?_,w',rfl,(P.trans p1).fresh s2 f,⟨?_,fun e=> ?_⟩,fun B hB=> ?_⟩
   ·simp(maxSteps:=999999)(disch:=omega) only[zCD,zLB,eZ,hln,hiI,i1,i3',jI,hne,ne_eq,not_false_eq_true,i2,hS,bl1,b1,e2,hi1]
   ·rw[hq,zI,zZ];have e1:[l[i]].flatMap prV=prV l[i]:=by simp
    rw[e1];exact gw2
   ·rw[hq]at e;simp at e
   ·rcases f2 B hB with e | e
    ·exact f B e
    ·omega
  ·have hq:(l.take (i+1)).filter (fun p=>decide (p.1≠key))=(l.take i).filter (fun p=>decide (p.1≠key)):=by rw[hts,List.filter_append,List.filter_cons_of_neg (by simpa using hne)];simp
   refine⟨_,H', ?_,w,rfl,P,by rw[hq];exact g,f⟩;simp(maxSteps:=999999)(disch:=omega) only[zCD,zLB,eZ,hln,hiI,i1,i3',jI,hne,hi1]) n _ H ⟨.nilSlice,rfl,Stp.refl hk,⟨.inl (Own.nil ..),fun _=>rfl⟩,fun B hB=>(Blk.nil.1 hB).elim⟩ (by omega)
 obtain⟨q,us,H5,e5,w,rfl,P5,g5,f5⟩:=lp;rw[q9]at g5;refine⟨H5,w, ?_,P5,g5,f5⟩;have last:qW (q+1) (zCD D n) [v,S key,w, .int .i64 ((l.length:Nat):Int)] H5=some (.exit 0 [w],H5):=qY (by simp only[zCD,eZ,hln,qA]);simp(maxSteps:=999999)(disch:=omega) only[f54,eZ,e5,last,zNU]
theorem zKI (D:Dyn)(n:Nat){H:AH}(hk:H.ok){v:AV}{l:Kvs}(h:gP H v l)(hl:l.length<=1000000)(hn:l.length<n)(key x:Str)(hno: ∀q∈l,q.1≠key):
  ∃H' v',f55 D n [v,S key,S x] H=some (v',H')/\Prs H H'/\PrG H' v' (Nd.putP key x l)/\ ∀B,Blk v' B->H.next<=B:=by
 obtain⟨H1,w,e1,p1,g1,f1⟩:=zE5 D n hk h hl hn key;rw[List.filter_eq_self.2 (fun q hq=>decide_eq_true (hno q hq))]at g1;have N1:=p1.next
 have hr:gP H1 w l:=g1.row;have hln:lnSl w=some (.int .i64 ((l.length:Nat):Int)):=Rw.lnSl hr;obtain⟨K,hK⟩: ∃K,K=l.findIdx fun p=> !ltS p.1 key:=⟨_,rfl⟩
 have hKl:K<=l.length:=by rw[hK];exact List.findIdx_le_length
 have lp:qW n (zFz D n) [w,S key,S x, .int .i64 ((0:Nat):Int)] H1=some (.exit 0 [w,S key,S x, .int .i64 ((K:Nat):Int)],H1):=by
  refine kX (fun i=>[w,S key,S x, .int .i64 ((i:Nat):Int)]) K (fun i hi=> ?_) (fun q=> ?_) n (by omega)
  ·have hil:i<l.length:=by omega
   obtain⟨A,o,i1,_,i3,_⟩:=hr.at hil;have i3':Eng.ld1 (.ptr A (o+0)) H1=some (S l[i].1):=i3;have hiI:((i:Nat):Int)< ((l.length:Nat):Int):=by omega
   have hi1:((i:Nat):Int)+((1:Nat):Int)=((i+1:Nat):Int):=by omega
   have hlt:ltS l[i].1 key=true:=by
    rw[hK]at hi;have:=List.not_of_lt_findIdx hi;simpa using this
   simp(maxSteps:=999999)(disch:=omega) only[zFz,eZ,hln,hiI,i1,i3',uB,hlt,hi1]
  ·refine qY ?_;by_cases hlt:K<l.length
   ·obtain⟨A,o,i1,_,i3,_⟩:=hr.at hlt;have i3':Eng.ld1 (.ptr A (o+0)) H1=some (S l[K].1):=i3;have hiI:((K:Nat):Int)< ((l.length:Nat):Int):=by omega
    have hl9:ltS l[K].1 key=false:=by
     subst hK;have:=List.findIdx_getElem (xs:=l) (p:=fun p=> !ltS p.1 key) (w:=hlt);simpa using this
    simp(maxSteps:=999999)(disch:=omega) only[zFz,eZ,hln,hiI,i1,i3',uB,hl9]
   ·have hiI: ¬((K:Nat):Int)< ((l.length:Nat):Int):=by omega
    simp(maxSteps:=999999)(disch:=omega) only[zFz,eZ,hln,hiI]
 obtain⟨H2,A1,r1,w1,H3,A2,H4,w2,H5,r2,w3,H6,b2,c2,e3,b4,e5,c5,e6,P3,P6,G6,f6⟩:=insG (f:=prV) (e:=50) (k:=2) (bytes:=32) (fun _=>rfl) zEi (by decide) (by decide) p1.ok g1.1 g1.2 hKl (by omega) (key,x);have hput:=zEY key x l hno;rw[<-hK]at hput;rw[hput]at G6;refine⟨H6,w3, ?_,p1.trans P6,⟨G6,fun e=> ?_⟩,fun B hB=>by have:=f6 B hB;omega⟩
 ·have hS:(AV.str 0 0)=S []:=rfl;have bl0:wQ 50 2 0 [S [],S []] []=some (.cells [] 50 2 false,fun A=> .slice A 0 0 0):=rfl;have bs:wB [(0,1),(1,1)] [S [],S []] [(0,S key),(1,S x)]=some (.agg (prV (key,x))):=rfl;have bl1:wQ 50 2 1 [S [],S []] [(0, .agg (prV (key,x)))]=some (.cells (prV (key,x)) 50 2 false,fun A=> .slice A 0 1 2):=rfl;simp(maxSteps:=999999)(disch:=omega) only[f55,eZ,e1,lp,zNT,hS,bl0,b2,c2,e3,bs,bl1,b4,e5,c5,e6]
 ·rw[<-hput]at e;simp at e
theorem zOc (p:Str×Str):eqA [2,2] (.agg (prV p)) (.agg (prV p))=some true:=by
 have h2: ∀s:Str,YA 2 (S s) (S s)=some true:=fun s=>by simp[YA,S]
 simp only[eqA,prV,aD,Nat.succ_eq_add_one,Nat.beq_refl,zJ,zX,Bool.and_self,cond_true,xU,h2]
theorem zCj (D:Dyn)(n:Nat){H:AH}{v w:AV}{l:Kvs}(hv:gP H v l)(hw:gP H w l)(hl:l.length<n)(hl2:l.length<=1000000):f17 D n [v,w] H=some (.bool true,H):=by
 have l1:lnSl v=some (.int .i64 ((l.length:Nat):Int)):=Rw.lnSl hv;have l2:lnSl w=some (.int .i64 ((l.length:Nat):Int)):=Rw.lnSl hw;have lp:qW n (zIE D n) [v,w, .int .i64 ((0:Nat):Int)] H=some (.exit 0 [],H):=by
  refine kX (fun i=>[v,w, .int .i64 ((i:Nat):Int)]) l.length (fun i hi=> ?_) (fun k=> ?_) n (by omega)
  ·have hiI:((i:Nat):Int)< ((l.length:Nat):Int):=by omega
   have hi1:((i:Nat):Int)+((1:Nat):Int)=((i+1:Nat):Int):=by omega
   obtain⟨A,o,i1,i2,_⟩:=hv.at hi;obtain⟨A',o',j1,j2,_⟩:=hw.at hi;have hc:vJ .neq (eqA [2,2] (.agg (prV l[i])) (.agg (prV l[i])))=some (.bool false):=by rw[zOc];rfl
   simp(maxSteps:=999999)(disch:=omega) only[zIE,eZ,l1,hiI,i1,i2,j1,j2,hc,hi1]
  ·refine qY ?_;simp(maxSteps:=999999)(disch:=omega) only[zIE,eZ,l1,qA]
 have t: ¬(((l.length:Nat):Int)≠((l.length:Nat):Int)):=fun h=>h rfl
 simp(maxSteps:=999999)(disch:=omega) only[f17,eZ,l1,l2,t,lp,zO9]
open Go.Nd (lookP putP delP mayK)
open Go.Ex
theorem zCo (D:Dyn)(n:Nat)(hn:2000<=n){H:AH}(hk:H.ok)(s:Str){b:UInt8}(hb:b.toNat<255)(hs:s.length<=1000000)(k:Nat)(hk9:k<=1000): ∃H',f37 D n [S (s++[b]++List.replicate k 255)] H=some (S (s++[UInt8.ofNat (b.toNat+1)]),H')/\Prs H H':=by
 obtain⟨H1,A,b1,p1,g1,m1,n1⟩:=box hk (.cells [.int .u8 ((b.toNat+1:Nat):Int)] 5 1 false);refine⟨H1, ?_,p1⟩;obtain⟨T,hT⟩: ∃T,T=s++[b]++List.replicate k 255:=⟨_,rfl⟩;have hTl:T.length=s.length+1+k:=by rw[hT];simp;omega
 have hTb: ∀(h:s.length<T.length),T[s.length]=b:=fun h=>by subst hT;simp
 have hTr: ∀i (h:i<T.length),s.length<i->T[i]=255:=fun i h hi=>by
  subst hT;rw[List.getElem_append_right (by simp;omega),List.getElem_replicate]
 have hTt:T.take s.length=s:=by rw[hT,List.append_assoc,List.take_left'];rfl
 rw[<-hT];have hl:jO (S T)=some (.int .i64 ((s.length+1+k - 0:Nat):Int)):=by rw[yQ,hTl,Nat.sub_zero]
 have lp:qW n (zIC D n) [S T, .int .i64 ((s.length+1+k - 0:Nat):Int)] H=some (.exit 0 [S T, .int .i64 ((s.length+1:Nat):Int)],H):=by
  refine kX (fun i=>[S T, .int .i64 ((s.length+1+k - i:Nat):Int)]) k (fun i hi=> ?_) (fun q=> ?_) n (by omega)
  ·have h0:((0:Nat):Int)< ((s.length+1+k - i:Nat):Int):=by omega
   have hsub:((s.length+1+k - i:Nat):Int) - ((1:Nat):Int)=((s.length+1+k - (i+1):Nat):Int):=by omega
   have hx:v8 (S T) (.int .i64 ((s.length+1+k - (i+1):Nat):Int))=some (.int .u8 ((255:Nat):Int)):=by
    rw[kY T .i64 (show s.length+1+k - (i+1)<T.length by omega),hTr _ _ (by omega)];rfl
   simp(maxSteps:=999999)(disch:=omega) only[zIC,eZ,h0,hsub,hx]
  ·rw[show s.length+1+k - k=s.length+1 by omega];have h0:((0:Nat):Int)< ((s.length+1:Nat):Int):=by omega
   have hsub:((s.length+1:Nat):Int) - ((1:Nat):Int)=((s.length:Nat):Int):=by omega
   have hx:v8 (S T) (.int .i64 ((s.length:Nat):Int))=some (.int .u8 ((b.toNat:Nat):Int)):=by
    rw[kY T .i64 (show s.length<T.length by omega),hTb]
   have hne: ¬((b.toNat:Nat):Int)=((255:Nat):Int):=by omega
   exact qY (by simp(maxSteps:=999999)(disch:=omega) only[zIC,eZ,h0,hsub,hx,hne])
 have t0: ¬((s.length+1:Nat):Int)=((0:Nat):Int):=by omega
 have hsub:((s.length+1:Nat):Int) - ((1:Nat):Int)=((s.length:Nat):Int):=by omega
 have hx:v8 (S T) (.int .i64 ((s.length:Nat):Int))=some (.int .u8 ((b.toNat:Nat):Int)):=by
  rw[kY T .i64 (show s.length<T.length by omega),hTb]
 have hcut:uV (S T) none (some (.int .i64 ((s.length:Nat):Int)))=some (S s):=by
  rw[ZD _ _ (by omega) (by simp;omega)];simp[hTt]
 have hadd:((b.toNat:Nat):Int)+((1:Nat):Int)=((b.toNat+1:Nat):Int):=by omega
 have hw:IntKind.wrap .u8 ((b.toNat+1:Nat):Int)=((b.toNat+1:Nat):Int):=by rw[wrap_u8];omega
 have bl:wQ 5 1 1 [.int .u8 ((0:Nat):Int)] [(0, .int .u8 ((b.toNat+1:Nat):Int))]=some (.cells [.int .u8 ((b.toNat+1:Nat):Int)] 5 1 false,fun A=> .slice A 0 1 2):=rfl;have hcv:fL (.slice A 0 1 2) H1=some (S [UInt8.ofNat (b.toNat+1)]):=cv1 p1.ok (by rw[VN (by omega)];exact g1);have had:jW .add (S s) (S [UInt8.ofNat (b.toNat+1)])=some (S (s++[UInt8.ofNat (b.toNat+1)])):=by rw[bY _ _ (by simp;omega)]
 simp(maxSteps:=999999)(disch:=omega) only[f37,eZ,hl,lp,zO0,t0,hsub,hcut,hx,hadd,hw,bl,b1,hcv,had]
theorem zEc (D:Dyn)(n:Nat){H:AH}(hk:H.ok){v:AV}{l:Kvs}(h:gP H v l)(hl:l.length<=1000000)(hn:l.length<n)(fr to:Str):
  ∃H' v',f36 D n [v,S fr,S to] H=some (v',H')/\Prs H H'/\gP H' v' (kF fr to l):=by
 have hln:lnSl v=some (.int .i64 ((l.length:Nat):Int)):=Rw.lnSl h;have hS:(AV.str 0 0)=S []:=rfl;have lp:=vB (b:=UE D n) l.length (fun i us H'=> ∃w,us=[v,S fr,S to,w, .int .i64 ((i:Nat):Int)]/\Prs H H'/\PrG H' w ((l.take i).filter (inP fr to))/\ ∀B,Blk w B->H.next<=B) (fun i us H' hi ⟨w,hus,P,g,f⟩=>by
  subst hus;have h':gP H' v l:=Rw.stp h P fun _ _ x=>x
  obtain⟨A,o,i1,i2,i3,_⟩:=h'.at hi;have i3':Eng.ld1 (.ptr A (o+0)) H'=some (S l[i].1):=i3;have hiI:((i:Nat):Int)< ((l.length:Nat):Int):=by omega
  have hi1:((i:Nat):Int)+((1:Nat):Int)=((i+1:Nat):Int):=by omega
  have hts:l.take (i+1)=l.take i++[l[i]]:=zQ hi
  cases hin:inP fr to l[i]with
  | true=>
   have hq:(l.take (i+1)).filter (inP fr to)=(l.take i).filter (inP fr to)++[l[i]]:=by rw[hts,List.filter_append,List.filter_cons_of_pos hin];rfl
   have hlen:=List.length_filter_le (inP fr to) (l.take i);rw[zH]at hlen;obtain⟨H1,A2,b1,p1,g1,m1,n1⟩:=box P.ok (.cells (prV l[i]) 50 2 false);have hsrc:srcOf 2 (.slice A2 0 1 2) H1=some (1,prV l[i]):=by simp only[srcOf,g1];rfl
   obtain⟨w',H2,e2,gw2,s2,f2⟩:=j7.app (bytes:=32) (m:=1) p1.ok (by decide) (j7.mono g.1 p1 fun _ _ x=>x) hsrc rfl rfl (by omega) (by decide);have N:=P.next;have N1:=p1.next
   have bl1:wQ 50 2 1 [S [],S []] [(0, .agg (prV l[i]))]=some (.cells (prV l[i]) 50 2 false,fun A=> .slice A 0 1 2):=rfl;simp only[inP,y8,z8,Bool.not_eq_true',Bool.or_eq_true,List.isEmpty_iff]at hin;obtain⟨c1,c2⟩:=hin;refine⟨_,H2, ?_,w',rfl,(P.trans p1).fresh s2 f,⟨?_,fun e=> ?_⟩,fun B hB=> ?_⟩
   ·by_cases c3:to=[]
    ·have c3T:(to=[])=True:=eq_true c3;simp(maxSteps:=999999)(disch:=omega) only[UE,zFI,eZ,hln,hiI,i1,i3',xF,c1,Bool.not_false,hS,jE,c3T,i2,bl1,b1,e2,hi1]
    ·have c4:ltS l[i].1 to=true:=by rcases c2 with e | e;exact absurd e c3;exact e
     simp(maxSteps:=999999)(disch:=omega) only[UE,zFI,eZ,hln,hiI,i1,i3',xF,c1,Bool.not_false,hS,jE,c3,uB,c4,i2,bl1,b1,e2,hi1]
   ·rw[hq,zI,zZ];have e1:[l[i]].flatMap prV=prV l[i]:=by simp
    rw[e1];exact gw2
   ·rw[hq]at e;simp at e
   ·rcases f2 B hB with e | e
    ·exact f B e
    ·omega
  | false=>
   have hq:(l.take (i+1)).filter (inP fr to)=(l.take i).filter (inP fr to):=by rw[hts,List.filter_append,List.filter_cons_of_neg (by rw[hin];decide)];simp
   refine⟨_,H', ?_,w,rfl,P,by rw[hq];exact g,f⟩
   cases c1:ltS l[i].1 fr with
   | true=>
    simp(maxSteps:=999999)(disch:=omega) only[UE,zFI,eZ,hln,hiI,i1,i3',xF,c1,Bool.not_true,hi1]
   | false=>
    simp only[inP,y8,c1,Bool.not_false,Bool.true_and,Bool.or_eq_false_iff]at hin;obtain⟨c2,c4⟩:=hin;have c3: ¬to=[]:=fun e=>by rw[e]at c2;cases c2
    simp(maxSteps:=999999)(disch:=omega) only[UE,zFI,eZ,hln,hiI,i1,i3',xF,c1,Bool.not_false,hS,jE,c3,uB,c4,hi1]) n _ H ⟨.nilSlice,rfl,Stp.refl hk,⟨.inl (Own.nil ..),fun _=>rfl⟩,fun B hB=>(Blk.nil.1 hB).elim⟩ (by omega)
 obtain⟨q,us,H5,e5,w,rfl,P5,g5,f5⟩:=lp;rw[q9]at g5;refine⟨H5,w, ?_,P5,g5.row⟩;have last:qW (q+1) (UE D n) [v,S fr,S to,w, .int .i64 ((l.length:Nat):Int)] H5=some (.exit 0 [w],H5):=qY (by simp only[UE,eZ,hln,qA]);simp(maxSteps:=999999)(disch:=omega) only[f36,eZ,e5,last,zO1]
theorem zCk (D:Dyn)(n:Nat)(hn:2000<=n){H:AH}(hk:H.ok){v:AV}{kv:Kvs}(h:gP H v kv)(hs:Srt kv)(hsh:ShG kv)(hl:kv.length<=1000){i:Nat}(h1:1<=i)(h2:i<=2147483647):
  ∃H',f15 D n [v, .int .i64 ((i:Nat):Int)] H=some (.tuple [.int .i64 (((gQ i 0 kv).length:Nat):Int), .int .i64 ((0:Nat):Int)],H')/\Prs H H':=by
 obtain⟨s,b,k,q1,q2,q3,q4,q5⟩:=BB h2;obtain⟨H1,e1,p1⟩:=KT D n hk i 0;obtain⟨H2,e2,p2⟩:=KH D n p1.ok ((i:Nat):Int);rw[ZJ]at e2;obtain⟨H3,e3,p3⟩:=zCo D n hn p2.ok s q2 (by omega) k (by omega);rw[<-q1]at e3;obtain⟨to,hto⟩: ∃to,to=s++[UInt8.ofNat (b.toNat+1)]:=⟨_,rfl⟩;rw[<-hto]at e3 q5;have hto2: ∀x:Str,x.length=9->y8 to x=ltS x (100::dig (i+1) 4):=fun x hx=>by
  have e1:to.isEmpty=false:=by rw[hto];cases s<;>rfl
  simp only[y8,e1,Bool.false_or,q5 x hx]
 have P3:=(p1.trans p2).trans p3;obtain⟨H4,w,e4,p4,g4⟩:=zEc D n p3.ok (Rw.stp h P3 fun _ _ x=>x) (by omega) (by omega) (jU i 0) to;rw[Q3 hs hsh i 0 hto2]at g4;have i1:=dG D n (H:=H) h1 h2;have hln:lnSl w=some (.int .i64 (((gQ i 0 kv).length:Nat):Int)):=Rw.lnSl g4;have hS:(AV.str 1 100)=S [100]:=rfl;have a1:jW .add (S [100]) (S (dig i 4))=some (S (100::dig i 4)):=by rw[bY _ _ (by simp[vH])];rfl
 refine⟨H4, ?_,P3.trans p4⟩;simp(maxSteps:=999999)(disch:=omega) only[f15,eZ,i1,e1,e2,hS,a1,e3,e4,hln]
theorem zEJ (key:Str)(p:Str×Str)(l:Kvs):lookP key (p::l)=if p.1=key then some p.2 else lookP key l:=rfl
theorem zKL (D:Dyn)(n:Nat){H:AH}{v:AV}{l:Kvs}(h:gP H v l)(hl:l.length<=1000000)(hn:l.length<n)(key:Str):f53 D n [v,S key] H=some (S ((lookP key l).getD []),H):=by
 have hln:lnSl v=some (.int .i64 ((l.length:Nat):Int)):=Rw.lnSl h;have hS:(AV.str 0 0)=S []:=rfl;have lp: ∀(rr i kf:Nat),i+rr=l.length->rr<kf->jb 0 (qW kf (zAm D n) [v,S key, .int .i64 ((i:Nat):Int)] H) (zNV D n)=some (.ret (S ((lookP key (l.drop i)).getD [])),H):=by
  intro rr
  induction rr with
  | zero=>
   intro i kf he hk;obtain⟨k,rfl⟩: ∃k,kf=k+1:=⟨kf - 1,by omega⟩;have hge: ¬((i:Nat):Int)< ((l.length:Nat):Int):=by omega
   rw[qY (i:=0) (vs':=[]) (H':=H) (by simp(maxSteps:=999999)(disch:=omega) only[zAm,eZ,hln,hge]),zO (by omega)];rfl
  | succ rr ih=>
   intro i kf he hk;obtain⟨k,rfl⟩: ∃k,kf=k+1:=⟨kf - 1,by omega⟩;have hi:i<l.length:=by omega
   have hiI:((i:Nat):Int)< ((l.length:Nat):Int):=by omega
   have hi1:((i:Nat):Int)+((1:Nat):Int)=((i+1:Nat):Int):=by omega
   obtain⟨A,o,i1,_,i3,i4⟩:=h.at hi;have i3':Eng.ld1 (.ptr A (o+0)) H=some (S l[i].1):=i3;rw[zL hi,zEJ];by_cases e:l[i].1=key
   ·have eT:(l[i].1=key)=True:=eq_true e;have body:zAm D n [v,S key, .int .i64 ((i:Nat):Int)] H=some (.ret (S l[i].2),H):=by
     simp(maxSteps:=999999)(disch:=omega) only[zAm,eZ,hln,hiI,i1,i3',jE,eT,i4]
    rw[bT body,if_pos e];rfl
   ·have body:zAm D n [v,S key, .int .i64 ((i:Nat):Int)] H=some (.norm [v,S key, .int .i64 ((i+1:Nat):Int)],H):=by
     simp(maxSteps:=999999)(disch:=omega) only[zAm,eZ,hln,hiI,i1,i3',jE,e,hi1]
    rw[yW body,if_neg e];exact ih (i+1) k (by omega) (by omega)
 have:=lp l.length 0 n (by omega) (by omega);rw[List.drop_zero]at this;simp(maxSteps:=999999)(disch:=omega) only[f53,eZ,this]
end Go.Eng.Sh
end
section
namespace Go.Ex
open Go.Nd (Str Kvs putP delP lookP Srt mayK)
open Go.Dr
theorem zA4 (g:Nat->UInt8){p:Nat}(hp:p<256):pcG g p=((Z6 32768 g).drop (128*p)).take 128:=(zAM g (by omega)).symm
theorem zDi (w:Str):qX w=w.take (qX w).length:=by
 obtain⟨k,hk,_⟩:=jZ w;have:(qX w++List.replicate k 0).take (qX w).length=qX w:=List.take_left' rfl;rw[<-hk]at this;exact this.symm
theorem zCb (g:Nat->UInt8){p:Nat}(hp:p<256):((Z6 32768 g).drop (128*p)).take (qX (pcG g p)).length=qX (pcG g p):=by
 have h1:=vL (pcG g p);rw[QF]at h1;have h2:=zDi (pcG g p)
 conv=>rhs;rw[h2,zA4 g hp,List.take_take]
 rw[Nat.min_eq_left (by rw[<-zA4 g hp];exact h1),<-zA4 g hp]
theorem zHr {kv:Kvs}(h:Srt kv)(i p:Nat)(b:Str)(hb:qX b≠[]):putP (jU i p) (qX b) (delP (jU i p) kv)=kG kv i p b:=by rw[zKU h,kG,if_neg hb]
end Go.Ex
namespace Go.Eng.Sh
open Go.Nd (Ptr yH qP Kvs Srt Str lookP putP delP mayK)
open Go.Bt Go.Dr Go.Ex
set_option maxRecDepth 20000
def Bf (H:AH)(A:Nat)(f:Nat->UInt8):Prop:=H.h.get A=some (.cells (qR (Z6 32768 f)) 5 1 false)
theorem Bf.ext {H:AH}{A:Nat}{f g:Nat->UInt8}(h:Bf H A f)(e: ∀x,x<32768->f x=g x):Bf H A g:=by
 rw[Bf]at h⊢;rw[h,zHn e]
theorem Bf.prs {H H':AH}{A:Nat}{f:Nat->UInt8}(h:Bf H A f)(hk:H.ok)(p:Prs H H'):Bf H' A f:=Prs.get p hk h
theorem Bf.ld {H:AH}{A x:Nat}{f:Nat->UInt8}(h:Bf H A f)(hx:x<32768):Eng.ld1 (.ptr A x) H=some (.int .u8 (((f x).toNat:Nat):Int)):=by
 refine QV h ?_;simp[qR,Z6,hx]
theorem zOq {A x:Nat}(hx:x<32768):jL 1 (.slice A 0 32768 (2*32768)) (.int .i64 ((x:Nat):Int))=some (.ptr A x):=ixB hx rfl .i64
theorem zNu (D:Dyn)(n:Nat){A p:Nat}{s:Str}{x0 x1 x5:AV}(hx5:x5= .slice A 0 32768 (2*32768))(hp:p<256):
  ∀(rr j kf:Nat) {H:AH} {f:Nat->UInt8},j+rr=min s.length 128->rr<kf->H.ok->Bf H A f->
   ∃H',qW kf (zCG D n) [x0,x1,x5, .int .i64 ((p:Nat):Int),S s, .int .i64 ((j:Nat):Int)] H=some (.exit 2 [x0,x1,x5, .int .i64 ((p:Nat):Int)],H')/\Bf H' A (fun x=>if 128*p+j<=x/\x<128*p+min s.length 128 then s.getD (x - 128*p) 0 else f x)/\Stp (fun B=>B=A) H H'
 | _,_,0,_,_,_,hk,_,_=>by omega
 | rr,j,kf+1,H,f,hr,hkf,hk,hb=>by
  by_cases hi:j<min s.length 128
  ·have hiI:((j:Nat):Int)< ((s.length:Nat):Int):=by omega
   have hi2I:((j:Nat):Int)< ((128:Nat):Int):=by omega
   have hi1:((j:Nat):Int)+((1:Nat):Int)=((j+1:Nat):Int):=by omega
   have hpm:((p:Nat):Int)*((128:Nat):Int)=((128*p:Nat):Int):=by omega
   have hpj:((128*p:Nat):Int)+((j:Nat):Int)=((128*p+j:Nat):Int):=by omega
   have hjs:j<s.length:=by omega
   obtain⟨H1,e1,g1,s1⟩:=zDG hk hb (i:=128*p+j) (by omega) s[j];have hix:jL 1 x5 (.int .i64 ((128*p+j:Nat):Int))=some (.ptr A (128*p+j)):=by rw[hx5];exact zOq (by omega)
   have hst:=kY s .i64 hjs;obtain⟨H2,e2,g2,s2⟩:=zNu D n (x0:=x0) (x1:=x1) (s:=s) hx5 hp (rr - 1) (j+1) kf (by omega) (by omega) s1.ok g1;refine⟨H2, ?_,g2.ext fun x hx=> ?_,s1.trans s2⟩
   ·have body:zCG D n [x0,x1,x5, .int .i64 ((p:Nat):Int),S s, .int .i64 ((j:Nat):Int)] H=some (.norm [x0,x1,x5, .int .i64 ((p:Nat):Int),S s, .int .i64 ((j+1:Nat):Int)],H1):=by
     simp(maxSteps:=999999)(disch:=omega) only[zCG,eZ,yQ,hiI,hi2I,hpm,hpj,hst,hix,e1,hi1]
    rw[yW body,e2]
   ·by_cases h1:128*p+(j+1)<=x/\x<128*p+min s.length 128
    ·rw[if_pos h1,if_pos (by omega)]
    ·rw[if_neg h1];by_cases h2:x=128*p+j
     ·rw[if_pos h2,if_pos (by omega),h2,show 128*p+j - 128*p=j by omega,zE,zB hjs];rfl
     ·rw[if_neg h2,if_neg (by omega)]
  ·refine⟨H,qY ?_,hb.ext fun x hx=>by rw[if_neg (by omega)],Stp.refl hk⟩;by_cases h1:j<s.length
   ·have hiI:((j:Nat):Int)< ((s.length:Nat):Int):=by omega
    have hi2I: ¬((j:Nat):Int)< ((128:Nat):Int):=by omega
    simp(maxSteps:=999999)(disch:=omega) only[zCG,eZ,yQ,hiI,hi2I]
   ·have hiI: ¬((j:Nat):Int)< ((s.length:Nat):Int):=by omega
    simp(maxSteps:=999999)(disch:=omega) only[zCG,eZ,yQ,hiI]
theorem zJF (D:Dyn)(n:Nat)(hn:1000<=n){H0:AH}{A i:Nat}{v x5:AV}{l:Kvs}(h:gP H0 v l)(hl:l.length<=1000000)(hln:l.length<n)(hx5:x5= .slice A 0 32768 (2*32768))(hi:i<4294967296):
  ∀(rr p kf:Nat) {H:AH},p+rr=256->rr<kf->H.ok->Stp (fun B=>B=A) H0 H->H0.next<=A->Bf H A (fun x=>if x<128*p then jY l i x else 0)->
   ∃H',qW kf (zFO D n) [v, .int .i64 ((i:Nat):Int),x5, .int .i64 ((p:Nat):Int)] H=some (.exit 0 [x5],H')/\Bf H' A (jY l i)/\Stp (fun B=>B=A) H0 H'
 | _,_,0,_,_,hk,_,_,_,_=>by omega
 | rr,p,kf+1,H,hr,hkf,hk,P,hA,hb=>by
  by_cases hp:p<256
  ·have hpI:((p:Nat):Int)< ((256:Nat):Int):=by omega
   have hp1:((p:Nat):Int)+((1:Nat):Int)=((p+1:Nat):Int):=by omega
   obtain⟨H1,e1,p1⟩:=KT D n hk i p;have N0:=P.next
   have P0:Prs H0 H:=⟨hk,N0,fun B hB _=>P.keep B hB (by omega)⟩;have h1:gP H1 v l:=Rw.stp (Rw.stp h P0 fun _ _ x=>x) p1 fun _ _ x=>x
   have e2:=zKL D n h1 hl hln (jU i p);obtain⟨s,hs⟩: ∃s,s=(lookP (jU i p) l).getD []:=⟨_,rfl⟩;rw[<-hs]at e2;obtain⟨H2,e3,b2,s2⟩:=zNu D n (x0:=v) (x1:= .int .i64 ((i:Nat):Int)) (s:=s) hx5 hp (min s.length 128) 0 n (by omega) (by omega) p1.ok (hb.prs hk p1);have S2:Stp (fun B=>B=A) H0 H2:=(P.trans (Stp.mono p1 fun B _ e=>e.elim)).trans s2;obtain⟨H3,e4,b3,s3⟩:=zJF D n hn h hl hln hx5 hi (rr - 1) (p+1) kf (by omega) (by omega) s2.ok S2 hA (b2.ext fun x hx=>by
    have hbx:jY l i x=((lookP (jU i (x / 128)) l).getD []).getD (x % 128) 0:=YC l i x;by_cases h1:128*p+0<=x/\x<128*p+min s.length 128
    ·rw[if_pos h1,if_pos (by omega),hbx,show x / 128=p by omega,<-hs,show x % 128=x - 128*p by omega]
    ·rw[if_neg h1];by_cases h2:x<128*p
     ·rw[if_pos h2,if_pos (by omega)]
     ·rw[if_neg h2];by_cases h3:x<128*(p+1)
      ·rw[if_pos h3,hbx,show x / 128=p by omega,<-hs,zE,List.getElem?_eq_none (by omega)];rfl
      ·rw[if_neg h3])
   refine⟨H3, ?_,b3,s3⟩;have body:zFO D n [v, .int .i64 ((i:Nat):Int),x5, .int .i64 ((p:Nat):Int)] H=some (.norm [v, .int .i64 ((i:Nat):Int),x5, .int .i64 ((p+1:Nat):Int)],H2):=by
    simp(maxSteps:=999999)(disch:=omega) only[zFO,eZ,hpI,e1,e2,e3,zO8,hp1]
   rw[yW body,e4]
  ·have hpI: ¬((p:Nat):Int)< ((256:Nat):Int):=by omega
   refine⟨H,qY ?_,hb.ext fun x hx=>by rw[if_pos (by omega)],P⟩;simp(maxSteps:=999999)(disch:=omega) only[zFO,eZ,hpI]
theorem KU (D:Dyn)(n:Nat)(hn:1000<=n){H:AH}(hk:H.ok){i:Nat}{v:AV}{l:Kvs}(h:gP H v l)(hl:l.length<=1000000)(hln:l.length<n)(hi:i<4294967296):
  ∃H' A,f25 D n [v, .int .i64 ((i:Nat):Int)] H=some (.slice A 0 32768 (2*32768),H')/\Bf H' A (jY l i)/\Prs H H'/\H.next<=A:=by
 obtain⟨H1,A,b1,p1,g1,m1,n1⟩:=box hk (.cells (qR (Z6 32768 fun _=>0)) 5 1 false);obtain⟨x5,hx5⟩: ∃x5,x5=AV.slice A 0 32768 (2*32768):=⟨_,rfl⟩;have hmk: ∀K:AV->AH->Rs,bA (zL3 5 1 1 [.int .u8 ((0:Nat):Int)] (.int .i64 ((32768:Nat):Int)) (.int .i64 ((32768:Nat):Int))) H K=K x5 H1:=fun K=>by
  rw[mkB 32768 (by omega),b1,hx5]
 have N1:=p1.next
 obtain⟨H2,e2,b2,s2⟩:=zJF D n hn h hl hln hx5 hi 256 0 n (by omega) (by omega) p1.ok (Stp.mono p1 fun B _ e=>e.elim) m1 (Bf.ext (f:=fun _=>0) g1 fun x hx=>by rw[if_neg (by omega)]);have N2:=s2.next
 refine⟨H2,A, ?_,b2,⟨s2.ok,N2,fun B hB _=>s2.keep B hB (by omega)⟩,m1⟩;rw[<-hx5];simp(maxSteps:=999999)(disch:=omega) only[f25,eZ,hmk,e2,zO7]
theorem zOi {A n e lo hi:Nat}{b:Str}(hl:b.length=n)(h1:lo<=hi)(h2:hi<=n): ∃r,aveq r r=true/\ ∀ {H:AH},H.h.get A=some (.cells (qR b) e 1 false)->j8 1 (.slice A 0 n (2*n)) (some (.int .i64 ((lo:Nat):Int))) (some (.int .i64 ((hi:Nat):Int))) none H=some r/\fL r H=some (S ((b.drop lo).take (hi - lo))):=by
 have n1:=yK .i64 (z:=((lo:Nat):Int)) (by omega);have n2:=yK .i64 (z:=((hi:Nat):Int)) (by omega);simp only[zS]at n1 n2;have b1:Nat.ble lo hi=true:=by rw[zR];exact h1
 have b2:Nat.ble hi n=true:=by rw[zR];exact h2
 have b3:((2*n) % 2).beq 0=true:=by rw[Nat.mul_mod_right];rfl
 have b5:2*n / 2=n:=Nat.mul_div_cancel_left n (by omega);have hroom:yI (qR b) false 1 0 (2*n) 1=n:=by simp only[yI,b3,cond_true,b5]
 have cv: ∀ {H:AH},H.h.get A=some (.cells (qR b) e 1 false)-> ∀o,o+(hi - lo)<=n->(b.drop o).take (hi - lo)=(b.drop lo).take (hi - lo)->fL (.slice A o (hi - lo) (2*(n - lo))) H=some (S ((b.drop lo).take (hi - lo))):=fun {H} g o ho hb=>by
  have hs:vY (qR b) o (hi - lo)=some (qR ((b.drop lo).take (hi - lo))):=by
   rw[jJ _ _ _ (.inr (by rw[qU];omega)),<-hb];simp[qR,List.map_take,List.map_drop]
  simp only[fL,g,hs,u0,QO,S]
 by_cases h:n=lo
 ·have b4:Nat.beq n lo=true:=by rw[h];exact Nat.beq_refl _
  refine⟨.slice A 0 (hi - lo) (2*(n - lo)),K7 _ _ _ _,fun {H} g=>⟨?_,cv g 0 (by omega) (by rw[show hi - lo=0 by omega];rfl)⟩⟩;simp[j8,yO,n1,n2,g,hroom,aO,b1,b2,b3,b4,b5,yE,show Nat.blt 0 1=true from rfl]
 ·have b4:Nat.beq n lo=false:=by rw[Bool.eq_false_iff];intro h';exact h (Nat.eq_of_beq_eq_true h')
  refine⟨.slice A lo (hi - lo) (2*(n - lo)),K7 _ _ _ _,fun {H} g=>⟨?_,cv g lo (by omega) rfl⟩⟩;simp[j8,yO,n1,n2,g,hroom,aO,b1,b2,b3,b4,b5,yE,show Nat.blt 0 1=true from rfl]
theorem rs_in (D:Dyn)(n:Nat)(hn:1000<=n){A p:Nat}{x0 x1 x2 x4:AV}(hx2:x2= .slice A 0 32768 (2*32768))(hp:p<256){H:AH}{g:Nat->UInt8}(hb:Bf H A g):
  qW n (zCF D n) [x0,x1,x2,x4, .int .i64 ((p:Nat):Int), .int .i64 ((128:Nat):Int)] H=some (.exit 2 [x0,x1,x2,x4, .int .i64 ((p:Nat):Int), .int .i64 (((qX (pcG g p)).length:Nat):Int)],H):=by
 obtain⟨z,hz,hl⟩:=jZ (pcG g p);have hlen:=congrArg List.length hz;rw[QF,zI,List.length_replicate]at hlen;have hpm:((p:Nat):Int)*((128:Nat):Int)=((128*p:Nat):Int):=by omega
 have hg: ∀k,k<128->g (128*p+k)=(qX (pcG g p)++List.replicate z 0).getD k 0:=fun k hk=>by rw[<-hz,zEm g p hk]
 have h128:((128:Nat):Int)=((128 - 0:Nat):Int):=by omega
 have main:qW n (zCF D n) [x0,x1,x2,x4, .int .i64 ((p:Nat):Int), .int .i64 ((128 - 0:Nat):Int)] H=some (.exit 2 [x0,x1,x2,x4, .int .i64 ((p:Nat):Int), .int .i64 (((qX (pcG g p)).length:Nat):Int)],H):=by
  refine kX (fun j=>[x0,x1,x2,x4, .int .i64 ((p:Nat):Int), .int .i64 ((128 - j:Nat):Int)]) z (fun j hj=> ?_) (fun q=> ?_) n (by omega)
  ·have h0:((0:Nat):Int)< ((128 - j:Nat):Int):=by omega
   have hadd:((128*p:Nat):Int)+((128 - j:Nat):Int)=((128*p+(128 - j):Nat):Int):=by omega
   have hsub:((128*p+(128 - j):Nat):Int) - ((1:Nat):Int)=((128*p+(127 - j):Nat):Int):=by omega
   have hsub2:((128 - j:Nat):Int) - ((1:Nat):Int)=((128 - (j+1):Nat):Int):=by omega
   have hix:jL 1 x2 (.int .i64 ((128*p+(127 - j):Nat):Int))=some (.ptr A (128*p+(127 - j))):=by rw[hx2];exact zOq (by omega)
   have hv:Eng.ld1 (.ptr A (128*p+(127 - j))) H=some (.int .u8 ((0:Nat):Int)):=by
    rw[hb.ld (by omega),hg _ (by omega),zE,zW (by omega),List.getElem?_replicate,if_pos (by omega)];rfl
   simp(maxSteps:=999999)(disch:=omega) only[zCF,eZ,h0,hpm,hadd,hsub,hix,hv,hsub2]
  ·rw[show 128 - z=(qX (pcG g p)).length by omega];refine qY ?_;rcases hl with he | ⟨hne,hlast⟩
   ·have h0: ¬((0:Nat):Int)< (((qX (pcG g p)).length:Nat):Int):=by rw[he];decide
    simp(maxSteps:=999999)(disch:=omega) only[zCF,eZ,h0]
   ·have hpos:=List.length_pos_iff.2 hne;obtain⟨t,ht⟩: ∃t,t=(qX (pcG g p)).length:=⟨_,rfl⟩;have hlt:t - 1< (qX (pcG g p)).length:=by omega
    have h0:((0:Nat):Int)< ((t:Nat):Int):=by omega
    have hadd:((128*p:Nat):Int)+((t:Nat):Int)=((128*p+t:Nat):Int):=by omega
    have hsub:((128*p+t:Nat):Int) - ((1:Nat):Int)=((128*p+(t - 1):Nat):Int):=by omega
    have hix:jL 1 x2 (.int .i64 ((128*p+(t - 1):Nat):Int))=some (.ptr A (128*p+(t - 1))):=by rw[hx2];exact zOq (by omega)
    have hv:=hb.ld (x:=128*p+(t - 1)) (by omega);have hnz: ¬(((g (128*p+(t - 1))).toNat:Nat):Int)=((0:Nat):Int):=fun e=>by
     rw[List.getLast_eq_getElem]at hlast;refine hlast (UInt8.toNat_inj.1 ?_);have e2:(g (128*p+(t - 1))).toNat=0:=by omega
     rw[hg _ (by omega),zE,zT hlt,zB hlt]at e2;have e3:(qX (pcG g p))[(qX (pcG g p)).length - 1]=(qX (pcG g p))[t - 1]:=by congr 1;omega
     rw[e3];exact e2
    rw[<-ht];simp(maxSteps:=999999)(disch:=omega) only[zCF,eZ,h0,hpm,hadd,hsub,hix,hv,hnz]
 rw[<-h128]at main;exact main
theorem gP.prs {H H':AH}{v:AV}{l:Kvs}(h:gP H v l)(p:Prs H H'):gP H' v l:=Rw.stp h p fun _ _ x=>x
theorem zKH (D:Dyn)(n:Nat)(hn:1000<=n){A p i:Nat}{v x2 x4:AV}(hx2:x2= .slice A 0 32768 (2*32768))(hp:p<256){H:AH}(hk:H.ok){g:Nat->UInt8}(hb:Bf H A g){kv:Kvs}(h:gP H v kv)(hs:Srt kv)(hl:kv.length<=100000)(hln:kv.length<n):
  ∃H' v',zID D n [v, .int .i64 ((i:Nat):Int),x2,x4, .int .i64 ((p:Nat):Int), .int .i64 (((qX (pcG g p)).length:Nat):Int)] H=some (.norm [v', .int .i64 ((i:Nat):Int),x2,x4, .int .i64 ((p+1:Nat):Int)],H')/\Prs H H'/\gP H' v' (kG kv i p (pcG g p))/\ ∀B,Blk v' B->H.next<=B:=by
 have hp1:((p:Nat):Int)+((1:Nat):Int)=((p+1:Nat):Int):=by omega
 have hpm:((p:Nat):Int)*((128:Nat):Int)=((128*p:Nat):Int):=by omega
 obtain⟨H1,e1,p1⟩:=KT D n hk i p;obtain⟨H2,w,e2,p2,g2,f2⟩:=zE5 D n p1.ok (h.prs p1) (by omega) hln (jU i p);rw[aF hs]at g2;have N1:=p1.next;have N2:=p2.next
 have P2:=p1.trans p2;obtain⟨t,ht⟩: ∃t,t=(qX (pcG g p)).length:=⟨_,rfl⟩;have htl:=vL (pcG g p);rw[QF]at htl;rw[<-ht];by_cases h0:t=0
 ·have hnil:qX (pcG g p)=[]:=zG (by omega);have h0I: ¬((0:Nat):Int)< ((t:Nat):Int):=by omega
  refine⟨H2,w, ?_,P2, ?_,fun B hB=>by have:=f2 B hB;omega⟩
  ·simp(maxSteps:=999999)(disch:=omega) only[zID,zLG,eZ,e1,e2,h0I,hp1]
  ·rw[kG,if_pos hnil];exact g2.row
 ·have hne:qX (pcG g p)≠[]:=fun e=>h0 (by rw[ht,e];rfl)
  have h0I:((0:Nat):Int)< ((t:Nat):Int):=by omega
  have hadd:((128*p:Nat):Int)+((t:Nat):Int)=((128*p+t:Nat):Int):=by omega
  obtain⟨r,r0,rr⟩:=zOi (A:=A) (e:=5) (lo:=128*p) (hi:=128*p+t) (fY 32768 g) (by omega) (by omega);have htx:((Z6 32768 g).drop (128*p)).take (128*p+t - 128*p)=qX (pcG g p):=by
   rw[show 128*p+t - 128*p=t by omega,ht];exact zCb g hp
  obtain⟨q1,q2⟩:=rr (hb.prs hk P2);rw[htx]at q2;obtain⟨H3,e3,p3⟩:=KT D n p2.ok i p;obtain⟨q3,q4⟩:=rr (hb.prs hk (P2.trans p3));rw[htx]at q4;rw[<-hx2]at q1 q3;have N3:=p3.next
  have hdl:=dO (jU i p) kv;obtain⟨H4,w4,e4,p4,g4,f4⟩:=zKI D n p3.ok ((g2.prs p3).row) (by omega) (by omega) (jU i p) (qX (pcG g p)) (zOf hs _);rw[zHr hs i p _ hne]at g4;refine⟨H4,w4, ?_,(P2.trans p3).trans p4,g4.row,fun B hB=>by have:=f4 B hB;omega⟩;have c1: ∀K:Rs,chk (some r) r K=K:=fun K=>jA rfl r0
  simp(maxSteps:=999999)(disch:=omega) only[zID,zLG,eZ,e1,e2,h0I,hpm,hadd,q1,q2,e3,q3,q4,c1,zLW,e4,hp1]
theorem zDX (D:Dyn)(n:Nat)(hn:1000<=n){A i f t:Nat}{x2:AV}(hx2:x2= .slice A 0 32768 (2*32768))(hi:i<4294967296){H0:AH}{g:Nat->UInt8}(hb:Bf H0 A g)(hk0:H0.ok){kv0:Kvs}(hl:kv0.length<=90000)(hln:kv0.length+300<n){v0:AV} :
  ∀(rr p kf:Nat) {H:AH} {v:AV} {kv:Kvs},p+rr=max f (min t 256)->f<=p->rr<kf->Prs H0 H->gP H v kv->SR kv0 kv i g f p->(∀B,Blk v B->Blk v0 B\/H0.next<=B)->
   ∃H' v' kv',qW kf (zCE D n) [v, .int .i64 ((i:Nat):Int),x2, .int .i64 ((t:Nat):Int), .int .i64 ((p:Nat):Int)] H=some (.exit 0 [v'],H')/\Prs H0 H'/\gP H' v' kv'/\SR kv0 kv' i g f (max f (min t 256))/\ ∀B,Blk v' B->Blk v0 B\/H0.next<=B
 | _,_,0,_,_,_,_,_,hk,_,_,_,_=>by omega
 | rr,p,kf+1,H,v,kv,hr,hfp,hkf,P,h,a,hv=>by
  by_cases hp:p<min t 256
  ·have hpI:((p:Nat):Int)< ((t:Nat):Int):=by omega
   have hp2I:((p:Nat):Int)< ((256:Nat):Int):=by omega
   have hal:=a.len;have e1:=rs_in D n hn (x0:=v) (x1:= .int .i64 ((i:Nat):Int)) (x4:= .int .i64 ((t:Nat):Int)) hx2 (by omega:p<256) (hb.prs hk0 P);obtain⟨H1,v1,e2,p1,h1,f1⟩:=zKH D n hn (x4:= .int .i64 ((t:Nat):Int)) (i:=i) hx2 (by omega:p<256) P.ok (hb.prs hk0 P) h a.srt (by omega) (by omega);have N0:=P.next
   obtain⟨H2,v2,kv2,e3,P2,h2,a2,f2⟩:=zDX D n hn (f:=f) (t:=t) hx2 hi hb hk0 hl hln (v0:=v0) (rr - 1) (p+1) kf (by omega) (by omega) (by omega) (P.trans p1) h1 (a.step hi (by omega) hfp) (fun B hB=> .inr (by have:=f1 B hB;omega));refine⟨H2,v2,kv2, ?_,P2,h2,a2,f2⟩;have body:zCE D n [v, .int .i64 ((i:Nat):Int),x2, .int .i64 ((t:Nat):Int), .int .i64 ((p:Nat):Int)] H=some (.norm [v1, .int .i64 ((i:Nat):Int),x2, .int .i64 ((t:Nat):Int), .int .i64 ((p+1:Nat):Int)],H1):=by
    simp(maxSteps:=999999)(disch:=omega) only[zCE,eZ,hpI,hp2I,e1,e2]
   rw[yW body,e3]
  ·have he:p=max f (min t 256):=by omega
   refine⟨H,v,kv,qY ?_,P,h,he▸a,hv⟩;by_cases hpt:p<t
   ·have hpI:((p:Nat):Int)< ((t:Nat):Int):=by omega
    have hp2I: ¬((p:Nat):Int)< ((256:Nat):Int):=by omega
    simp(maxSteps:=999999)(disch:=omega) only[zCE,eZ,hpI,hp2I]
   ·have hpI: ¬((p:Nat):Int)< ((t:Nat):Int):=by omega
    simp(maxSteps:=999999)(disch:=omega) only[zCE,eZ,hpI]
theorem VC (D:Dyn)(n:Nat)(hn:1000<=n){A i f t:Nat}{x2 v:AV}(hx2:x2= .slice A 0 32768 (2*32768))(hi:i<4294967296){H:AH}{g:Nat->UInt8}(hb:Bf H A g)(hk:H.ok){kv:Kvs}(h:gP H v kv)(hs:Srt kv)(ht:zH2 i kv)(hl:kv.length<=90000)(hln:kv.length+300<n)(hf:f<=256):
  ∃H' v' kv',f26 D n [v, .int .i64 ((i:Nat):Int),x2, .int .i64 ((f:Nat):Int), .int .i64 ((t:Nat):Int)] H=some (v',H')/\Prs H H'/\gP H' v' kv'/\SR kv kv' i g f (max f (min t 256))/\ ∀B,Blk v' B->Blk v B\/H.next<=B:=by
 obtain⟨H',v',kv',e,p,h',a,f'⟩:=zDX D n hn (t:=t) hx2 hi hb hk hl hln (v0:=v) (max f (min t 256) - f) f n (by omega) (by omega) (by omega) (Stp.refl hk) h (SR.zero hs ht g f) (fun B hB=> .inl hB);refine⟨H',v',kv', ?_,p,h',a,f'⟩;simp(maxSteps:=999999)(disch:=omega) only[f26,eZ,e,zO6]
set_option maxRecDepth 20000
def WD (z:Int):Prop:=1<=z/\z<=2147483647
theorem zKd (D:Dyn)(n:Nat){H:AH}{z:Int}(h:WD z):f27 D n [.int .i64 z] H=some (.bool true,H):=by
 obtain⟨i,rfl⟩: ∃i:Nat,z=(i:Int):=⟨z.toNat,by have:=h.1;omega⟩;have h1:=h.1;have h2:=h.2;exact Z9 D n (by omega) (by omega)
theorem zHH (D:Dyn)(n:Nat){H:AH}{z:Int}(h:WD z):f24 D n [.int .i64 z] H=some (.bool true,H):=by
 obtain⟨i,rfl⟩: ∃i:Nat,z=(i:Int):=⟨z.toNat,by have:=h.1;omega⟩;have h1:=h.1;have h2:=h.2;exact dG D n (by omega) (by omega)
theorem zDY (D:Dyn)(n:Nat){H:AH}{v:AV}{z sz a k:Int}(h: ¬(WD z/\(0<=sz/\sz<=32768)/\0<=a/\0<=k)):f13 D n [v, .int .i64 z, .int .i64 sz, .int .i64 a, .int .i64 k] H=some (.tuple [S [], .int .i64 ((1:Nat):Int)],H):=by
 have hS:(AV.str 0 0)=S []:=rfl;by_cases hz:WD z
 ·have i1:=zHH D n (H:=H) hz;by_cases c1:sz< ((0:Nat):Int)
  ·simp(maxSteps:=999999)(disch:=omega) only[f13,eZ,i1,c1,hS]
  ·by_cases c2:((32768:Nat):Int)<sz
   ·simp(maxSteps:=999999)(disch:=omega) only[f13,eZ,i1,c1,c2,hS]
   ·by_cases c3:a< ((0:Nat):Int)
    ·simp(maxSteps:=999999)(disch:=omega) only[f13,eZ,i1,c1,c2,c3,hS]
    ·have c4:k< ((0:Nat):Int):=by
      rcases Int.lt_or_le k 0 with e | e
      ·exact e
      ·exact absurd ⟨hz,⟨by omega,by omega⟩,by omega,e⟩ h
     simp(maxSteps:=999999)(disch:=omega) only[f13,eZ,i1,c1,c2,c3,c4,hS]
 ·have i1:=KS D n (H:=H) hz;simp(maxSteps:=999999)(disch:=omega) only[f13,eZ,i1,hS]
theorem zCY (D:Dyn)(n:Nat){H:AH}(hk:H.ok){At:Nat}{z sz a k:Int}(h: ¬(WD z/\(0<=sz/\sz<=32768)/\0<=a/\0<=k)): ∃H',f12 D n [.ptr At 0, .int .i64 z, .int .i64 sz, .int .i64 a, .int .i64 k] H=some (.tuple [S [], .int .i64 ((1:Nat):Int)],H')/\Prs H H':=by
 obtain⟨H1,X5,b1,p1,g1,m1,w1⟩:=box hk (.cells [.ptr At 0] 25 1 false);obtain⟨H2,X6,b2,p2,g2,m2,w2⟩:=box p1.ok (.cells [.int .i64 z] 3 1 false);obtain⟨H3,X10,b3,p3,g3,m3,w3⟩:=box p2.ok (.cells [S []] 9 1 false);obtain⟨H4,X11,b4,p4,g4,m4,w4⟩:=box p3.ok (.cells [.int .i64 ((0:Nat):Int)] 30 1 false);have N1:=p1.next;have N2:=p2.next;have N3:=p3.next;have N4:=p4.next
 have P4:=((p1.trans p2).trans p3).trans p4;have x5:Box H4 X5 (.ptr At 0):=⟨_,Prs.get ((p2.trans p3).trans p4) p1.ok g1⟩;have x6:Box H4 X6 (.int .i64 z):=⟨_,Prs.get (p3.trans p4) p2.ok g2⟩;have x10:Box H4 X10 (S []):=⟨_,Prs.get p4 p3.ok g3⟩;have x11:Box H4 X11 (.int .i64 ((0:Nat):Int)):=⟨_,g4⟩;have hc: ∀z:Int,qT (.int .i64 z)=[.int .i64 z]:=fun z=>rfl
 have hcp:qT (.ptr At 0)=[.ptr At 0]:=rfl;have hcS:qT (S [])=[S []]:=rfl;have hS:(AV.str 0 0)=S []:=rfl;obtain⟨H5,e5,x105,s5⟩:=x10.st p4.ok (x:=S []) rfl;have x115:Box H5 X11 (.int .i64 ((0:Nat):Int)):=x11.mono p4.ok s5 (by omega);obtain⟨H6,e6,x116,s6⟩:=x115.st s5.ok (x:= .int .i64 ((1:Nat):Int)) rfl;have x106:Box H6 X10 (S []):=x105.mono s5.ok s6 (by omega);refine⟨H6, ?_,(P4.fresh s5 fun B hB=>by omega).fresh s6 fun B hB=>by omega⟩;by_cases hz:WD z
 ·have i1:=zKd D n (H:=H4) hz;by_cases c1:sz< ((0:Nat):Int)
  ·simp(maxSteps:=999999)(disch:=omega) only[f12,eZ,hc,hcp,hcS,hS,b1,b2,b3,b4,x5.ld,cq,x6.ld,i1,c1,e5,e6,x106.ld,x116.ld]
  ·by_cases c2:((32768:Nat):Int)<sz
   ·simp(maxSteps:=999999)(disch:=omega) only[f12,eZ,hc,hcp,hcS,hS,b1,b2,b3,b4,x5.ld,cq,x6.ld,i1,c1,c2,e5,e6,x106.ld,x116.ld]
   ·by_cases c3:a< ((0:Nat):Int)
    ·simp(maxSteps:=999999)(disch:=omega) only[f12,eZ,hc,hcp,hcS,hS,b1,b2,b3,b4,x5.ld,cq,x6.ld,i1,c1,c2,c3,e5,e6,x106.ld,x116.ld]
    ·have c4:k< ((0:Nat):Int):=by
      rcases Int.lt_or_le k 0 with e | e
      ·exact e
      ·exact absurd ⟨hz,⟨by omega,by omega⟩,by omega,e⟩ h
     simp(maxSteps:=999999)(disch:=omega) only[f12,eZ,hc,hcp,hcS,hS,b1,b2,b3,b4,x5.ld,cq,x6.ld,i1,c1,c2,c3,c4,e5,e6,x106.ld,x116.ld]
 ·have i1:=KG D n (H:=H4) hz;simp(maxSteps:=999999)(disch:=omega) only[f12,eZ,hc,hcp,hcS,hS,b1,b2,b3,b4,x5.ld,cq,x6.ld,i1,e5,e6,x106.ld,x116.ld]
theorem zC5 (D:Dyn)(n:Nat){H:AH}(hk:H.ok){At:Nat}{z a:Int}(tx:Str)(h: ¬(WD z/\0<=a)): ∃H',f9 D n [.ptr At 0, .int .i64 z, .int .i64 a,S tx] H=some (.int .i64 ((1:Nat):Int),H')/\Prs H H':=by
 obtain⟨H1,X4,b1,p1,g1,m1,w1⟩:=box hk (.cells [.ptr At 0] 25 1 false);obtain⟨H2,X5,b2,p2,g2,m2,w2⟩:=box p1.ok (.cells [.int .i64 z] 3 1 false);obtain⟨H3,X6,b3,p3,g3,m3,w3⟩:=box p2.ok (.cells [.int .i64 a] 3 1 false);obtain⟨H4,X7,b4,p4,g4,m4,w4⟩:=box p3.ok (.cells [S tx] 9 1 false);have P4:=((p1.trans p2).trans p3).trans p4;have x4:Box H4 X4 (.ptr At 0):=⟨_,Prs.get ((p2.trans p3).trans p4) p1.ok g1⟩;have x5:Box H4 X5 (.int .i64 z):=⟨_,Prs.get (p3.trans p4) p2.ok g2⟩;have x6:Box H4 X6 (.int .i64 a):=⟨_,Prs.get p4 p3.ok g3⟩;have hc: ∀z:Int,qT (.int .i64 z)=[.int .i64 z]:=fun z=>rfl
 have hcp:qT (.ptr At 0)=[.ptr At 0]:=rfl;have hcS:qT (S tx)=[S tx]:=rfl;refine⟨H4, ?_,P4⟩;by_cases hz:WD z
 ·have i1:=zKd D n (H:=H4) hz;have c1:a< ((0:Nat):Int):=by
   rcases Int.lt_or_le a 0 with e | e
   ·exact e
   ·exact absurd ⟨hz,e⟩ h
  simp(maxSteps:=999999)(disch:=omega) only[f9,eZ,hc,hcp,hcS,b1,b2,b3,b4,x4.ld,cq,x5.ld,i1,x6.ld,c1]
 ·have i1:=KG D n (H:=H4) hz;simp(maxSteps:=999999)(disch:=omega) only[f9,eZ,hc,hcp,hcS,b1,b2,b3,b4,x4.ld,cq,x5.ld,i1,x6.ld]
theorem zCi (D:Dyn)(n:Nat){H:AH}{v:AV}{z a:Int}(tx:Str)(h: ¬(WD z/\0<=a)):f8 D n [v, .int .i64 z, .int .i64 a,S tx] H=some (.tuple [v, .int .i64 ((1:Nat):Int)],H):=by
 by_cases hz:WD z
 ·have i1:=zHH D n (H:=H) hz;have c1:a< ((0:Nat):Int):=by
   rcases Int.lt_or_le a 0 with e | e
   ·exact e
   ·exact absurd ⟨hz,e⟩ h
  simp(maxSteps:=999999)(disch:=omega) only[f8,eZ,i1,c1]
 ·have i1:=KS D n (H:=H) hz;simp(maxSteps:=999999)(disch:=omega) only[f8,eZ,i1]
theorem zCh (D:Dyn)(n:Nat){H:AH}{v:AV}{z:Int}(hz:WD z){a:Nat}(tx:Str)(h:32768<a+tx.length):f8 D n [v, .int .i64 z, .int .i64 ((a:Nat):Int),S tx] H=some (.tuple [v, .int .i64 ((40:Nat):Int)],H):=by
 have i1:=zHH D n (H:=H) hz;have t1: ¬((a:Nat):Int)< ((0:Nat):Int):=by omega
 by_cases h2:32768<a
 ·have t2:((32768:Nat):Int)< ((a:Nat):Int):=by omega
  simp(maxSteps:=999999)(disch:=omega) only[f8,eZ,i1,t1,t2]
 ·have t2: ¬((32768:Nat):Int)< ((a:Nat):Int):=by omega
  have t3:((32768:Nat):Int) - ((a:Nat):Int)=((32768 - a:Nat):Int):=by omega
  have t4:((32768 - a:Nat):Int)< ((tx.length:Nat):Int):=by omega
  simp(maxSteps:=999999)(disch:=omega) only[f8,eZ,i1,t1,t2,yQ,t3,t4]
theorem zHc (D:Dyn)(n:Nat){H:AH}(hk:H.ok){At:Nat}{z a:Int}(h: ¬(WD z/\0<=a)): ∃H',f11 D n [.ptr At 0, .int .i64 z, .int .i64 a] H=some (.int .i64 ((1:Nat):Int),H')/\Prs H H':=by
 obtain⟨H1,X3,b1,p1,g1,m1,w1⟩:=box hk (.cells [.ptr At 0] 25 1 false);obtain⟨H2,X4,b2,p2,g2,m2,w2⟩:=box p1.ok (.cells [.int .i64 z] 3 1 false);have x3:Box H2 X3 (.ptr At 0):=⟨_,Prs.get p2 p1.ok g1⟩;have x4:Box H2 X4 (.int .i64 z):=⟨_,g2⟩;have hc: ∀z:Int,qT (.int .i64 z)=[.int .i64 z]:=fun z=>rfl
 have hcp:qT (.ptr At 0)=[.ptr At 0]:=rfl;refine⟨H2, ?_,p1.trans p2⟩;by_cases hz:WD z
 ·have i1:=zKd D n (H:=H2) hz;have c1:a< ((0:Nat):Int):=by
   rcases Int.lt_or_le a 0 with e | e
   ·exact e
   ·exact absurd ⟨hz,e⟩ h
  simp(maxSteps:=999999)(disch:=omega) only[f11,eZ,hc,hcp,b1,b2,x3.ld,cq,x4.ld,i1,c1]
 ·have i1:=KG D n (H:=H2) hz;simp(maxSteps:=999999)(disch:=omega) only[f11,eZ,hc,hcp,b1,b2,x3.ld,cq,x4.ld,i1]
theorem zHL (D:Dyn)(n:Nat){H:AH}{v:AV}{z a:Int}(h: ¬(WD z/\0<=a)):f10 D n [v, .int .i64 z, .int .i64 a] H=some (.tuple [v, .int .i64 ((1:Nat):Int)],H):=by
 by_cases hz:WD z
 ·have i1:=zHH D n (H:=H) hz;have c1:a< ((0:Nat):Int):=by
   rcases Int.lt_or_le a 0 with e | e
   ·exact e
   ·exact absurd ⟨hz,e⟩ h
  simp(maxSteps:=999999)(disch:=omega) only[f10,eZ,i1,c1]
 ·have i1:=KS D n (H:=H) hz;simp(maxSteps:=999999)(disch:=omega) only[f10,eZ,i1]
theorem zHF (D:Dyn)(n:Nat)(hn:1000<=n){H:AH}(hk:H.ok){v:AV}{l:Kvs}{i size a k:Nat}(h:gP H v l)(hl:l.length<=1000000)(hln:l.length<n)(h1:1<=i)(h2:i<=2147483647)(hsz:size<=32768):
  ∃H',f13 D n [v, .int .i64 ((i:Nat):Int), .int .i64 ((size:Nat):Int), .int .i64 ((a:Nat):Int), .int .i64 ((k:Nat):Int)] H=some (.tuple [S (jM l i a (min k (size - a))), .int .i64 ((0:Nat):Int)],H')/\Prs H H':=by
 have hS:(AV.str 0 0)=S []:=rfl;have i1:=dG D n (H:=H) h1 h2;have t1: ¬((size:Nat):Int)< ((0:Nat):Int):=by omega
 have t2: ¬((32768:Nat):Int)< ((size:Nat):Int):=by omega
 have t3: ¬((a:Nat):Int)< ((0:Nat):Int):=by omega
 have t4: ¬((k:Nat):Int)< ((0:Nat):Int):=by omega
 by_cases hge:size<=a
 ·have t5:((size:Nat):Int)<=((a:Nat):Int):=by omega
  have hz:jM l i a (min k (size - a))=[]:=by rw[show min k (size - a)=0 by omega];rfl
  rw[hz];refine⟨H, ?_,Stp.refl hk⟩;simp(maxSteps:=999999)(disch:=omega) only[f13,eZ,i1,t1,t2,t3,t4,t5,hS]
 ·have t5: ¬((size:Nat):Int)<=((a:Nat):Int):=by omega
  obtain⟨len,hlen⟩: ∃len,len=min k (size - a):=⟨_,rfl⟩;rw[<-hlen];have hsub:((size:Nat):Int) - ((a:Nat):Int)=((size - a:Nat):Int):=by omega
  have hmn:mn2 (.int .i64 ((k:Nat):Int)) (.int .i64 ((size - a:Nat):Int))=some (.int .i64 ((len:Nat):Int)):=by rw[mn2N,hlen]
  have hadd:((a:Nat):Int)+((len:Nat):Int)=((a+len:Nat):Int):=by omega
  obtain⟨H1,A,e1,b1,p1,m1⟩:=KU D n hn hk h hl hln (i:=i) (by omega);obtain⟨r,_,rr⟩:=zOi (A:=A) (e:=5) (lo:=a) (hi:=a+len) (fY 32768 (jY l i)) (by omega) (by omega);obtain⟨q1,q2⟩:=rr b1;rw[show a+len - a=len by omega,<-zGB (kv:=l) (i:=i) (fun x _=>rfl) (by omega)]at q2;refine⟨H1, ?_,p1⟩;simp(maxSteps:=999999)(disch:=omega) only[f13,eZ,i1,t1,t2,t3,t4,t5,e1,hsub,hmn,hadd,q1,q2]
theorem zDV (D:Dyn)(n:Nat){A a:Nat}{s:Str}{x0 x1 x10:AV}(hx:x10= .slice A 0 32768 (2*32768))(ha:a+s.length<=32768):
  ∀(rr k kf:Nat) {H:AH} {f:Nat->UInt8},k+rr=s.length->rr<kf->H.ok->Bf H A f->
   ∃H',qW kf (zNC D n) [x0,x1, .int .i64 ((a:Nat):Int),S s,x10, .int .i64 ((k:Nat):Int)] H=some (.exit 0 [x0,x1, .int .i64 ((a:Nat):Int),S s,x10],H')/\Bf H' A (fun x=>if a+k<=x/\x<a+s.length then s.getD (x - a) 0 else f x)/\Stp (fun B=>B=A) H H'
 | _,_,0,_,_,_,hk,_,_=>by omega
 | rr,k,kf+1,H,f,hr,hkf,hk,hb=>by
  by_cases hi:k<s.length
  ·have hiI:((k:Nat):Int)< ((s.length:Nat):Int):=by omega
   have hi1:((k:Nat):Int)+((1:Nat):Int)=((k+1:Nat):Int):=by omega
   have hak:((a:Nat):Int)+((k:Nat):Int)=((a+k:Nat):Int):=by omega
   obtain⟨H1,e1,g1,s1⟩:=zDG hk hb (i:=a+k) (by omega) s[k];have hix:jL 1 x10 (.int .i64 ((a+k:Nat):Int))=some (.ptr A (a+k)):=by rw[hx];exact zOq (by omega)
   have hst:=kY s .i64 hi;obtain⟨H2,e2,g2,s2⟩:=zDV D n (x0:=x0) (x1:=x1) hx ha (rr - 1) (k+1) kf (by omega) (by omega) s1.ok g1;refine⟨H2, ?_,g2.ext fun x hx=> ?_,s1.trans s2⟩
   ·have body:zNC D n [x0,x1, .int .i64 ((a:Nat):Int),S s,x10, .int .i64 ((k:Nat):Int)] H=some (.norm [x0,x1, .int .i64 ((a:Nat):Int),S s,x10, .int .i64 ((k+1:Nat):Int)],H1):=by
     simp(maxSteps:=999999)(disch:=omega) only[zNC,eZ,yQ,hiI,hak,hst,hix,e1,hi1]
    rw[yW body,e2]
   ·by_cases h1:a+(k+1)<=x/\x<a+s.length
    ·rw[if_pos h1,if_pos (by omega)]
    ·rw[if_neg h1];by_cases h2:x=a+k
     ·rw[if_pos h2,if_pos (by omega),h2,show a+k - a=k by omega,zE,zB hi];rfl
     ·rw[if_neg h2,if_neg (by omega)]
  ·have hiI: ¬((k:Nat):Int)< ((s.length:Nat):Int):=by omega
   refine⟨H,qY ?_,hb.ext fun x hx=>by rw[if_neg (by omega)],Stp.refl hk⟩;simp(maxSteps:=999999)(disch:=omega) only[zNC,eZ,yQ,hiI]
theorem zE7 (D:Dyn)(n:Nat){A:Nat}{x0 x1 x2 x8:AV}(hx:x8= .slice A 0 32768 (2*32768)):
  ∀(rr k kf:Nat) {H:AH} {f:Nat->UInt8},rr=32768 - k->rr<kf->H.ok->Bf H A f->
   ∃H',qW kf (zG6 D n) [x0,x1,x2,x8, .int .i64 ((k:Nat):Int)] H=some (.exit 0 [x0,x1,x2,x8],H')/\Bf H' A (fun x=>if x<k then f x else 0)/\Stp (fun B=>B=A) H H'
 | _,_,0,_,_,_,hk,_,_=>by omega
 | rr,k,kf+1,H,f,hr,hkf,hk,hb=>by
  have hln:lnSl x8=some (.int .i64 ((32768:Nat):Int)):=by rw[hx];rfl
  by_cases hi:k<32768
  ·have hiI:((k:Nat):Int)< ((32768:Nat):Int):=by omega
   have hi1:((k:Nat):Int)+((1:Nat):Int)=((k+1:Nat):Int):=by omega
   obtain⟨H1,e1,g1,s1⟩:=zDG hk hb (i:=k) hi 0;have e1':stN 1 (.ptr A k) (.int .u8 ((0:Nat):Int)) H=some (qM,H1):=e1;have hix:jL 1 x8 (.int .i64 ((k:Nat):Int))=some (.ptr A k):=by rw[hx];exact zOq hi
   obtain⟨H2,e2,g2,s2⟩:=zE7 D n (x0:=x0) (x1:=x1) (x2:=x2) hx (rr - 1) (k+1) kf (by omega) (by omega) s1.ok g1;refine⟨H2, ?_,g2.ext fun x hx=> ?_,s1.trans s2⟩
   ·have body:zG6 D n [x0,x1,x2,x8, .int .i64 ((k:Nat):Int)] H=some (.norm [x0,x1,x2,x8, .int .i64 ((k+1:Nat):Int)],H1):=by
     simp(maxSteps:=999999)(disch:=omega) only[zG6,eZ,hln,hiI,hix,e1',hi1]
    rw[yW body,e2]
   ·by_cases h1:x<k
    ·rw[if_pos (by omega),if_neg (by omega),if_pos h1]
    ·by_cases h2:x=k
     ·rw[if_pos (by omega),if_pos h2,if_neg h1]
     ·rw[if_neg (by omega),if_neg h1]
  ·have hiI: ¬((k:Nat):Int)< ((32768:Nat):Int):=by omega
   refine⟨H,qY ?_,hb.ext fun x hx=>by rw[if_pos (by omega)],Stp.refl hk⟩;simp(maxSteps:=999999)(disch:=omega) only[zG6,eZ,hln,hiI]
theorem zDU (D:Dyn)(n:Nat)(hn:40000<=n){H:AH}(hk:H.ok){v:AV}{kv:Kvs}{i a:Nat}{tx:Str}(h:gP H v kv)(hs:Srt kv)(hsh:ShG kv)(hl:kv.length<=30000)(h1:1<=i)(h2:i<=2147483647)(ha:a+tx.length<=32768):
  ∃H' v' kv',f8 D n [v, .int .i64 ((i:Nat):Int), .int .i64 ((a:Nat):Int),S tx] H=some (.tuple [v', .int .i64 ((0:Nat):Int)],H')/\Prs H H'/\gP H' v' kv'/\RW kv kv' i (fun x=>if a<=x/\x<a+tx.length then tx.getD (x - a) 0 else jY kv i x)/\ ∀B,Blk v' B->Blk v B\/H.next<=B:=by
 have i1:=dG D n (H:=H) h1 h2;have t1: ¬((a:Nat):Int)< ((0:Nat):Int):=by omega
 have t2: ¬((32768:Nat):Int)< ((a:Nat):Int):=by omega
 have t3:((32768:Nat):Int) - ((a:Nat):Int)=((32768 - a:Nat):Int):=by omega
 have t4: ¬((32768 - a:Nat):Int)< ((tx.length:Nat):Int):=by omega
 obtain⟨H1,A,e1,b1,p1,m1⟩:=KU D n (by omega) hk h (by omega) (by omega) (i:=i) (by omega);obtain⟨x10,hx⟩: ∃x10,x10=AV.slice A 0 32768 (2*32768):=⟨_,rfl⟩;rw[<-hx]at e1;obtain⟨H2,e2,b2,s2⟩:=zDV D n (x0:=v) (x1:= .int .i64 ((i:Nat):Int)) hx ha tx.length 0 n (by omega) (by omega) p1.ok b1;have N1:=p1.next;have N2:=s2.next
 have P2:Prs H H2:=p1.fresh s2 fun B hB=>by omega
 have b2':Bf H2 A (fun x=>if a<=x/\x<a+tx.length then tx.getD (x - a) 0 else jY kv i x):=by simpa using b2
 obtain⟨H3,v3,kv3,e3,p3,h3,a3,f3⟩:=VC D n (by omega) (f:=a / 128) (t:=(a+tx.length+127) / 128) hx (i:=i) (by omega) b2' P2.ok (h.prs P2) hs (hsh.tidy i) (by omega) (by omega) (by omega);have q1:=quoB (c:=a) (k:=128) (by omega) (by omega);have q2:((a:Nat):Int)+((tx.length:Nat):Int)=((a+tx.length:Nat):Int):=by omega
 have q3:((a+tx.length:Nat):Int)+((127:Nat):Int)=((a+tx.length+127:Nat):Int):=by omega
 have q4:=quoB (c:=a+tx.length+127) (k:=128) (by omega) (by omega);refine⟨H3,v3,kv3, ?_,P2.trans p3,h3,a3.rw' fun x hx hn=> ?_,fun B hB=>by
  rcases f3 B hB with e | e
  ·exact .inl e
  ·exact .inr (by omega)⟩
 ·simp(maxSteps:=999999)(disch:=omega) only[f8,eZ,i1,t1,t2,yQ,t3,t4,e1,e2,f8b1,q1,q2,q3,q4,e3]
 ·rw[if_neg (by omega)]
theorem zKR (D:Dyn)(n:Nat)(hn:40000<=n){H:AH}(hk:H.ok){v:AV}{kv:Kvs}{i a:Nat}(h:gP H v kv)(hs:Srt kv)(hsh:ShG kv)(hl:kv.length<=30000)(h1:1<=i)(h2:i<=2147483647):
  ∃H' v' kv',f10 D n [v, .int .i64 ((i:Nat):Int), .int .i64 ((a:Nat):Int)] H=some (.tuple [v', .int .i64 ((0:Nat):Int)],H')/\Prs H H'/\gP H' v' kv'/\RW kv kv' i (fun x=>if x<a then jY kv i x else 0)/\ ∀B,Blk v' B->Blk v B\/H.next<=B:=by
 have i1:=dG D n (H:=H) h1 h2;have t1: ¬((a:Nat):Int)< ((0:Nat):Int):=by omega
 obtain⟨H1,A,e1,b1,p1,m1⟩:=KU D n (by omega) hk h (by omega) (by omega) (i:=i) (by omega);obtain⟨x8,hx⟩: ∃x8,x8=AV.slice A 0 32768 (2*32768):=⟨_,rfl⟩;rw[<-hx]at e1;obtain⟨H2,e2,b2,s2⟩:=zE7 D n (x0:=v) (x1:= .int .i64 ((i:Nat):Int)) (x2:= .int .i64 ((a:Nat):Int)) hx (32768 - a) a n rfl (by omega) p1.ok b1;have N1:=p1.next;have N2:=s2.next
 have P2:Prs H H2:=p1.fresh s2 fun B hB=>by omega
 obtain⟨c,hc⟩: ∃c,c=min a 32768:=⟨_,rfl⟩;obtain⟨H3,v3,kv3,e3,p3,h3,a3,f3⟩:=VC D n (by omega) (f:=c / 128) (t:=256) hx (i:=i) (by omega) b2 P2.ok (h.prs P2) hs (hsh.tidy i) (by omega) (by omega) (by omega);have hmn:mn2 (.int .i64 ((a:Nat):Int)) (.int .i64 ((32768:Nat):Int))=some (.int .i64 ((c:Nat):Int)):=by rw[mn2N,hc]
 have q1:=quoB (c:=c) (k:=128) (by omega) (by omega);refine⟨H3,v3,kv3, ?_,P2.trans p3,h3,a3.rw' fun x hx hn=> ?_,fun B hB=>by
  rcases f3 B hB with e | e
  ·exact .inl e
  ·exact .inr (by omega)⟩
 ·simp(maxSteps:=999999)(disch:=omega) only[f10,eZ,i1,t1,e1,e2,zOb,hmn,q1,e3]
 ·show(if x<a then jY kv i x else 0)=jY kv i x
  rw[if_pos (by omega)]
set_option maxRecDepth 20000
structure PE (Hi H:AH)(At M L:Nat)(kv:Kvs)(v:AV):Prop where
 prs:Prs Hi H
 lo:Hi.next<=At/\Hi.next<=M
 t:yS H At M L kv
 srt:Srt kv
 shg:ShG kv
 g:gP H v kv
 f: ∀B,Blk v B->B≠At/\B≠M
theorem PE.fresh {Hi H H':AH}{At M L:Nat}{kv:Kvs}{v:AV}(h:PE Hi H At M L kv v)(s:Prs H H'):PE Hi H' At M L kv v:=
 ⟨h.prs.trans s,h.lo,h.t.prs s,h.srt,h.shg,h.g.prs s,h.f⟩
theorem PE.up {Hi H:AH}{At M L L':Nat}{kv:Kvs}{v:AV}(h:PE Hi H At M L kv v)(hL:L<=L'):PE Hi H At M L' kv v:=
 ⟨h.prs,h.lo,h.t.up hL,h.srt,h.shg,h.g,h.f⟩
theorem PE.step {Hi H H1 H2:AH}{At M L L':Nat}{kv kv1 kv2:Kvs}{v v':AV}{i:Nat}{f:Nat->UInt8}(h:PE Hi H At M L kv v)(p1:Prs H H1)(g1:gP H1 v' kv1)(a1:RW kv kv1 i f)(f1: ∀B,Blk v' B->Blk v B\/H.next<=B)(t2:yS H2 At M L' kv2)(a2:RW kv kv2 i f)(s2:Stp (fun B=>B=At\/B=M) H1 H2)(h1:1<=i)(h2:i<=2147483647):PE Hi H2 At M L' kv2 v':=by
 have e:kv1=kv2:=a1.eq a2;subst e;have lt:=h.t.lt;have hlo:=h.lo;have hf: ∀B,Blk v' B->B≠At/\B≠M:=fun B hB=>by
  rcases f1 B hB with e | e
  ·exact h.f B e
  ·omega
 have P1:=h.prs.trans p1;refine⟨P1.fresh s2 fun B hB=>by omega,h.lo,t2,a2.srt,a2.shg h.shg h1 h2,Rw.stp g1 s2 fun B hB e=> ?_,hf⟩;have:=hf B hB;omega
theorem zHY (m:Nat)(hm:700000000<=m){Hi H:AH}{At M L:Nat}{kv:Kvs}{v:AV}(h:PE Hi H At M L kv v)(hL:L<=900000)(hl:kv.length<=130){tx:Str}(htx:tx.length<=3000)(z a:Int):
  ∃H1 H2 v' kv' e,f8 (dy (m+1)) (m+1) [v, .int .i64 z, .int .i64 a,S tx] H=some (.tuple [v', .int .i64 e],H1)/\f9 (dy (m+1)) (m+1) [.ptr At 0, .int .i64 z, .int .i64 a,S tx] H1=some (.int .i64 e,H2)/\
   PE Hi H2 At M (L+200*(tx.length / 128+2)) kv' v'/\kv'.length<=kv.length+tx.length / 128+2/\Prs H H1/\Stp (fun B=>B=At\/B=M) H1 H2:=by
 have hk:=h.prs.ok;by_cases hg:WD z/\0<=a
 ·obtain⟨hz,ha0⟩:=hg;obtain⟨i,rfl⟩: ∃i:Nat,z=(i:Int):=⟨z.toNat,by have:=hz.1;omega⟩;obtain⟨b,rfl⟩: ∃b:Nat,a=(b:Int):=⟨a.toNat,by omega⟩;have h1:1<=i:=by have:=hz.1;omega
  have h2:i<=2147483647:=by have:=hz.2;omega
  by_cases hb:b+tx.length<=32768
  ·obtain⟨H1,v1,kv1,e1,p1,g1,a1,f1⟩:=zDU (dy (m+1)) (m+1) (by omega) hk h.g h.srt h.shg (by omega) h1 h2 hb;obtain⟨m',hm'⟩: ∃m',m=m'+2:=⟨m - 2,by omega⟩;obtain⟨H2,kv2,e2,t2,ws,s2⟩:=zCW m' (m+1) (by omega) (h.t.prs p1) h.srt h1 h2 hb (by omega) (by omega);have em:m'+3=m+1:=by omega
   rw[em]at e2;have hpl:=zJy b tx.length tx.length;have hwl:=ws.len;exact⟨H1,H2,v1,kv2,_,e1,e2,h.step p1 g1 a1 f1 (t2.up (by omega)) (ws.rw' (h.shg.tidy i)) s2 h1 h2,by omega,p1,s2⟩
  ·have e1:=zCh (dy (m+1)) (m+1) (H:=H) (v:=v) hz (a:=b) tx (by omega);obtain⟨H2,e2,p2⟩:=zC4 (dy (m+1)) (m+1) hk (At:=At) h1 h2 (a:=b) tx (by omega);exact⟨H,H2,v,kv,_,e1,e2,(h.fresh p2).up (by omega),by omega,Stp.refl hk,Prs.stp p2⟩
 ·have e1:=zCi (dy (m+1)) (m+1) (H:=H) (v:=v) tx hg;obtain⟨H2,e2,p2⟩:=zC5 (dy (m+1)) (m+1) hk (At:=At) tx hg;exact⟨H,H2,v,kv,_,e1,e2,(h.fresh p2).up (by omega),by omega,Stp.refl hk,Prs.stp p2⟩
theorem zMW (m:Nat)(hm:700000000<=m){Hi H:AH}{At M L:Nat}{kv:Kvs}{v:AV}(h:PE Hi H At M L kv v)(hL:L<=900000)(hl:kv.length<=130)(z a:Int)(ha9:a<9223372036854775808):
  ∃H1 H2 v' kv' e,f10 (dy (m+1)) (m+1) [v, .int .i64 z, .int .i64 a] H=some (.tuple [v', .int .i64 e],H1)/\f11 (dy (m+1)) (m+1) [.ptr At 0, .int .i64 z, .int .i64 a] H1=some (.int .i64 e,H2)/\
   PE Hi H2 At M (L+26000) kv' v'/\kv'.length<=kv.length/\Prs H H1/\Stp (fun B=>B=At\/B=M) H1 H2:=by
 have hk:=h.prs.ok;by_cases hg:WD z/\0<=a
 ·obtain⟨hz,ha0⟩:=hg;obtain⟨i,rfl⟩: ∃i:Nat,z=(i:Int):=⟨z.toNat,by have:=hz.1;omega⟩;obtain⟨b,rfl⟩: ∃b:Nat,a=(b:Int):=⟨a.toNat,by omega⟩;have h1:1<=i:=by have:=hz.1;omega
  have h2:i<=2147483647:=by have:=hz.2;omega
  obtain⟨H1,v1,kv1,e1,p1,g1,a1,f1⟩:=zKR (dy (m+1)) (m+1) (by omega) hk h.g h.srt h.shg (by omega) h1 h2 (a:=b);obtain⟨H2,kv2,e2,t2,a2,l2,s2⟩:=zHd m hm (a:=b) (ii:=i) (h.t.prs p1) h.srt h.shg h1 h2 (by omega) (by omega) (by omega);exact⟨H1,H2,v1,kv2,_,e1,e2,h.step p1 g1 a1 f1 (t2.up (by omega)) a2 s2 h1 h2,l2,p1,s2⟩
 ·have e1:=zHL (dy (m+1)) (m+1) (H:=H) (v:=v) hg;obtain⟨H2,e2,p2⟩:=zHc (dy (m+1)) (m+1) hk (At:=At) hg;exact⟨H,H2,v,kv,_,e1,e2,(h.fresh p2).up (by omega),by omega,Stp.refl hk,Prs.stp p2⟩
theorem zKX (m:Nat)(hm:700000000<=m){Hi H:AH}{At M L:Nat}{kv:Kvs}{v:AV}(h:PE Hi H At M L kv v)(hL:L<=900000)(hl:kv.length<=130)(z sz a k:Int):
  ∃H1 H2 s e,f12 (dy (m+1)) (m+1) [.ptr At 0, .int .i64 z, .int .i64 sz, .int .i64 a, .int .i64 k] H=some (.tuple [S s, .int .i64 e],H1)/\f13 (dy (m+1)) (m+1) [v, .int .i64 z, .int .i64 sz, .int .i64 a, .int .i64 k] H1=some (.tuple [S s, .int .i64 e],H2)/\Prs H H1/\Prs H1 H2:=by
 have hk:=h.prs.ok;by_cases hg:WD z/\(0<=sz/\sz<=32768)/\0<=a/\0<=k
 ·obtain⟨hz,⟨s0,s1⟩,ha0,hk0⟩:=hg;obtain⟨i,rfl⟩: ∃i:Nat,z=(i:Int):=⟨z.toNat,by have:=hz.1;omega⟩;obtain⟨b,rfl⟩: ∃b:Nat,a=(b:Int):=⟨a.toNat,by omega⟩;obtain⟨c,rfl⟩: ∃c:Nat,sz=(c:Int):=⟨sz.toNat,by omega⟩;obtain⟨d,rfl⟩: ∃d:Nat,k=(d:Int):=⟨k.toNat,by omega⟩;have h1:1<=i:=by have:=hz.1;omega
  have h2:i<=2147483647:=by have:=hz.2;omega
  obtain⟨m',hm'⟩: ∃m',m=m'+1:=⟨m - 1,by omega⟩;obtain⟨H1,e1,p1⟩:=zHb m' (m+1) (by omega) (i:=i) (size:=c) (a:=b) (k:=d) h.t h1 h2 (by omega) (by omega) (by omega);have em:m'+2=m+1:=by omega
  rw[em]at e1;obtain⟨H2,e2,p2⟩:=zHF (dy (m+1)) (m+1) (by omega) p1.ok (h.g.prs p1) (by omega) (by omega) h1 h2 (size:=c) (a:=b) (k:=d) (by omega);exact⟨H1,H2,_,_,e1,e2,p1,p2⟩
 ·obtain⟨H1,e1,p1⟩:=zCY (dy (m+1)) (m+1) hk (At:=At) hg;exact⟨H1,H1,_,_,e1,zDY (dy (m+1)) (m+1) hg,p1,Stp.refl p1.ok⟩
theorem zEl (m:Nat)(hm:700000000<=m){Hi H:AH}{At M L:Nat}{kv:Kvs}{v:AV}(h:PE Hi H At M L kv v)(hL:L<=1000000)(hl:kv.length<=200)(z:Int):
  ∃H1 H2 n e,f14 (dy (m+1)) (m+1) [.ptr At 0, .int .i64 z] H=some (.tuple [.int .i64 n, .int .i64 e],H1)/\f15 (dy (m+1)) (m+1) [v, .int .i64 z] H1=some (.tuple [.int .i64 n, .int .i64 e],H2)/\Prs H H1/\Prs H1 H2:=by
 have hk:=h.prs.ok;by_cases hz:WD z
 ·obtain⟨i,rfl⟩: ∃i:Nat,z=(i:Int):=⟨z.toNat,by have:=hz.1;omega⟩;have h1:1<=i:=by have:=hz.1;omega
  have h2:i<=2147483647:=by have:=hz.2;omega
  obtain⟨H1,e1,p1⟩:=zC7 m hm h.t h.srt h.shg hL (by omega) h1 h2;obtain⟨H2,e2,p2⟩:=zCk (dy (m+1)) (m+1) (by omega) p1.ok (h.g.prs p1) h.srt h.shg (by omega) h1 h2;exact⟨H1,H2,_,_,e1,e2,p1,p2⟩
 ·exact⟨H,H,_,_,zC8 (dy (m+1)) (m+1) hz,zCl (dy (m+1)) (m+1) hz,Stp.refl hk,Stp.refl hk⟩
theorem zA3 (m:Nat)(hm:700000000<=m){Hi H:AH}{At M L A6 j:Nat}{kv:Kvs}{v x0:AV}{a:Ax}(h:PE Hi H At M L kv v)(hL:L<=1000000)(hl:kv.length<=200)(hj:j<=1000)(g:H.h.get A6=some (.cells (axV a) 29 1 false)):
  ∃H',zLC (dy (m+1)) (m+1) [x0, .ptr At 0,v, .int .i64 ((j:Nat):Int), .ptr A6 0] H=some (.norm [x0, .ptr At 0,v, .int .i64 ((j+1:Nat):Int)],H')/\Prs H H':=by
 have hk:=h.prs.ok;have hj1:((j:Nat):Int)+((1:Nat):Int)=((j+1:Nat):Int):=by omega
 have hS0:(AV.str 0 0)=S []:=rfl;have rd: ∀ {Hx:AH},Prs H Hx->Eng.ld1 (.ptr A6 1) Hx=some (.int .i64 a.i)/\Eng.ld1 (.ptr A6 2) Hx=some (.int .i64 a.a):=fun {Hx} P=>by
  have gx:=Prs.get P hk g;exact⟨by rw[qL gx];rfl,by rw[qL gx];rfl⟩
 obtain⟨H1,H2,n,e,e1,e2,p1,p2⟩:=zEl m hm h hL hl a.i;have P2:=p1.trans p2;have h2:=h.fresh P2;obtain⟨H3,w,e3,p3,g3,_⟩:=VG m hm h2.t (by omega) (by omega) [] [] (most:=9999) (by omega);rw[zAw]at e3 g3;have htk:kv.take 9999=kv:=zK (by omega);rw[htk]at g3;have P3:=P2.trans p3;have e4:=zCj (dy (m+1)) (m+1) (H:=H3) (v:=w) (w:=v) (l:=kv) g3.row (h2.g.prs p3) (by omega) (by omega);obtain⟨H4,e5,p4⟩:=zEN (dy (m+1)) (m+1) p3.ok a.i a.a;have P4:=P3.trans p4;obtain⟨H5,e6,p5⟩:=zB1 (dy (m+1)) (m+1) p4.ok a.i a.a;have r0:=rd (Stp.refl hk);have r1:=rd p1;have r3:=rd P3;have r4:=rd P4;obtain⟨K,hK⟩: ∃K,K=zLc a.i a.a:=⟨_,rfl⟩;rw[<-hK]at e5 e6;have tK: ¬(K≠K):=fun e=>e rfl
 refine⟨H5, ?_,P4.trans p5⟩;simp(maxSteps:=999999)(disch:=omega) only[zLC,eZ,r0.1,r0.2,e1,qK,nth,r1.1,r1.2,e2,hS0,e3,nne,e4,Bool.not_true,Bool.not_false,r3.1,r3.2,e5,r4.1,r4.2,chkI,e6,jI,tK,hj1]
set_option maxRecDepth 20000
theorem zLK (m:Nat)(hm:700000000<=m){Hi H:AH}{At M L i:Nat}{kv:Kvs}{l:List Ax}{x0 v:AV}(hx0:AxR Hi x0 l)(hl25:l.length<=25)(hsl: ∀a∈l,a.s.length<=3000)(haa: ∀a∈l,a.a<9223372036854775808)(h:PE Hi H At M L kv v)(hL:L<=800000)(hkl:kv.length<=125)(hi:i<l.length):
  ∃H' kv' v',UD (dy (m+1)) (m+1) [x0, .ptr At 0,v, .int .i64 ((i:Nat):Int)] H=some (.norm [x0, .ptr At 0,v', .int .i64 ((i+1:Nat):Int)],H')/\PE Hi H' At M (L+26000+200*(l[i].s.length / 128+2)) kv' v'/\kv'.length<=kv.length+l[i].s.length / 128+2:=by
 have hx:AxR H x0 l:=Rw.stp hx0 h.prs fun _ _ x=>x
 obtain⟨A',o,i1,i2,_⟩:=hx.at hi;obtain⟨a,ha⟩: ∃a,a=l[i]:=⟨_,rfl⟩;have has:=hsl _ (zU hi);have ha9:=haa _ (zU hi);rw[<-ha]at i2 has ha9⊢;have hk:=h.prs.ok;have lt:=h.t.lt;obtain⟨H1,A6,b1,p1,g1,m1,n1⟩:=box hk (.cells [.int .u8 ((0:Nat):Int), .int .i64 ((0:Nat):Int), .int .i64 ((0:Nat):Int), .int .i64 ((0:Nat):Int), .int .i64 ((0:Nat):Int),S []] 29 1 false);obtain⟨H2,e2,g2,s2,n2⟩:=yF p1.ok g1 (l':=axV a) rfl rfl;have e2':stN 6 (.ptr A6 0) (.agg (axV a)) H1=some (qM,H2):=e2;have P2:Prs H H2:=p1.fresh s2 fun B hB=>by omega
 have N1:=p1.next;have N2:=s2.next
 have h2:=h.fresh P2;have hS:(AV.str 0 0)=S []:=rfl;have hln:lnSl x0=some (.int .i64 ((l.length:Nat):Int)):=hx.lnSl;have hiI:((i:Nat):Int)< ((l.length:Nat):Int):=by omega
 have rd: ∀ {Hx:AH},Hx.h.get A6=some (.cells (axV a) 29 1 false)->Eng.ld1 (.ptr A6 0) Hx=some (.int .u8 a.k)/\Eng.ld1 (.ptr A6 1) Hx=some (.int .i64 a.i)/\Eng.ld1 (.ptr A6 2) Hx=some (.int .i64 a.a)/\Eng.ld1 (.ptr A6 3) Hx=some (.int .i64 a.n)/\Eng.ld1 (.ptr A6 4) Hx=some (.int .i64 a.z)/\Eng.ld1 (.ptr A6 5) Hx=some (S a.s):=fun {Hx} gx=>⟨by rw[qL gx];rfl,by rw[qL gx];rfl,by rw[qL gx];rfl,by rw[qL gx];rfl,by rw[qL gx];rfl,by rw[qL gx];rfl⟩
 obtain⟨r0,r1,r2,r3,r4,r5⟩:=rd g2;by_cases k0:a.k=((0:Nat):Int)
 ·obtain⟨H3,H4,v',kv',e,e3,e4,hP,hkv,p3,s4⟩:=zHY m hm h2 (by omega) (by omega) has a.i a.a;have g3:=Prs.get p3 s2.ok g2;have N3:=p3.next
  have g4:H4.h.get A6=some (.cells (axV a) 29 1 false):=by rw[s4.keep _ (by omega) (by omega)];exact g3
  obtain⟨_,q1,q2,_,_,q5⟩:=rd g3;obtain⟨H5,e5,p5⟩:=zA3 m hm (x0:=x0) (j:=i) hP (by omega) (by omega) (by omega) g4;refine⟨H5,kv',v', ?_,(hP.fresh p5).up (by omega),hkv⟩;simp(maxSteps:=999999)(disch:=omega) only[UD,eZ,hln,hiI,i1,i2,hS,b1,e2',r0,r1,r2,r5,k0,e3,qK,nth,q1,q2,q5,e4,nne,e5]
 ·by_cases k1:a.k=((1:Nat):Int)
  ·have k10: ¬((1:Nat):Int)=((0:Nat):Int):=by omega
   obtain⟨H3,H4,v',kv',e,e3,e4,hP,hkv,p3,s4⟩:=zMW m hm h2 (by omega) (by omega) a.i a.a ha9;have g3:=Prs.get p3 s2.ok g2;have N3:=p3.next
   have g4:H4.h.get A6=some (.cells (axV a) 29 1 false):=by rw[s4.keep _ (by omega) (by omega)];exact g3
   obtain⟨_,q1,q2,_,_,_⟩:=rd g3;obtain⟨H5,e5,p5⟩:=zA3 m hm (x0:=x0) (j:=i) hP (by omega) (by omega) (by omega) g4;refine⟨H5,kv',v', ?_,(hP.fresh p5).up (by omega),by omega⟩;simp(maxSteps:=999999)(disch:=omega) only[UD,zLD,eZ,hln,hiI,i1,i2,hS,b1,e2',r0,r1,r2,k1,k10,e3,qK,nth,q1,q2,e4,nne,e5]
  ·obtain⟨H3,H4,s,e,e3,e4,p3,p4⟩:=zKX m hm h2 (by omega) (by omega) a.i a.z a.a a.n;have g3:=Prs.get p3 s2.ok g2;have g4:=Prs.get p4 p3.ok g3;obtain⟨_,q1,q2,q3,q4,_⟩:=rd g3;have hP:=(h2.fresh p3).fresh p4;obtain⟨H5,e5,p5⟩:=zA3 m hm (x0:=x0) (j:=i) hP (by omega) (by omega) (by omega) g4;have ts: ¬(s≠s):=fun e=>e rfl
   refine⟨H5,kv,v, ?_,(hP.fresh p5).up (by omega),by omega⟩;simp(maxSteps:=999999)(disch:=omega) only[UD,zLD,eZ,hln,hiI,i1,i2,hS,b1,e2',r0,r1,r2,r3,r4,k0,k1,e3,qK,nth,q1,q2,q3,q4,e4,jI,ts,nne,e5]
theorem zAI: ∀(l:List Ax) {i:Nat} (h:i<l.length),tot (l.take (i+1))=tot (l.take i)+l[i].s.length
 | [],_,h=>by simp at h
 | a::l,0,_=>by simp[tot]
 | a::l,i+1,h=>by
  have:=zAI l (i:=i) (by simpa using h);simp only[List.take_succ_cons,tot,List.getElem_cons_succ]at this⊢;omega
theorem zJt: ∀(l:List Ax) (i:Nat),tot (l.take i)<=tot l
 | [],i=>by simp[tot]
 | a::l,0=>by simp[tot]
 | a::l,i+1=>by
  have:=zJt l i;simp only[List.take_succ_cons,tot];omega
theorem zKB:ShG []:=fun k v h=>by cases h
theorem extentPlays_walk (m:Nat)(hm:700000000<=m){Hi:AH}(hk:Hi.ok){x0:AV}{l:List Ax}(hx:AxR Hi x0 l)(haa: ∀a∈l,a.a<9223372036854775808):
  ∃H',f3z (dy (m+1)) (m+1) [x0] Hi=some (.bool true,H')/\Prs Hi H':=by
 obtain⟨b,eb,hb⟩:=zL6 (dy (m+1)) (m+1) (by omega) hx;have hz: ∀H,z6 (dy (m+1)) (m+1) [] H=some (.bool true,H):=fun H=>rfl
 cases hbb:b with
 | true=>
  rw[hbb]at eb;refine⟨Hi, ?_,Stp.refl hk⟩;simp(maxSteps:=999999)(disch:=omega) only[f3z,eZ,eb,hz]
 | false=>
 rw[hbb]at eb;obtain⟨hl,hto,hsl⟩:=hb hbb;obtain⟨H1,At,M,e1,p1,hA,hM,t1⟩:=zCZ (dy (m+1)) (m+1) (by omega) hk;have I1:PE Hi H1 At M 0 [] .nilSlice:=⟨p1,⟨hA,hM⟩,t1,trivial,zKB,Rw.nil _ _,fun B hB=>(Blk.nil.1 hB).elim⟩;have lp:=vB (b:=UD (dy (m+1)) (m+1)) l.length (fun i us H'=> ∃kv v,us=[x0, .ptr At 0,v, .int .i64 ((i:Nat):Int)]/\PE Hi H' At M (26000*i+200*(tot (l.take i) / 128+2*i)) kv v/\kv.length<=tot (l.take i) / 128+2*i) (fun i us H' hi ⟨kv,v,hus,hI,hkl⟩=>by
  subst hus;have ht:=zAI l hi;have htl:=zJt l (i+1);have hs:=hsl _ (zU hi);obtain⟨H2,kv',v',e2,I2,k2⟩:=zLK m hm hx hl hsl haa hI (by omega) (by omega) hi;refine⟨_,H2,e2,kv',v',rfl,I2.up ?_, ?_⟩
  ·rw[ht];omega
  ·rw[ht];omega) (m+1) _ H1 ⟨[], .nilSlice,rfl,by simpa[tot]using I1,by simp⟩ (by omega)
 obtain⟨r,us,H2,e2,kv,v,rfl,hI,_⟩:=lp;have hx2:AxR H2 x0 l:=Rw.stp hx hI.prs fun _ _ x=>x
 have hln:lnSl x0=some (.int .i64 ((l.length:Nat):Int)):=hx2.lnSl;have last:qW (r+1) (UD (dy (m+1)) (m+1)) [x0, .ptr At 0,v, .int .i64 ((l.length:Nat):Int)] H2=some (.exit 0 [],H2):=qY (by simp(maxSteps:=999999)(disch:=omega) only[UD,eZ,hln,qA]);refine⟨H2, ?_,hI.prs⟩;simp(maxSteps:=999999)(disch:=omega) only[f3z,eZ,eb,hz,e1,e2,last,zNZ]
end Go.Eng.Sh
end
section
namespace Go.Proofs.YtgffmjchoomnoaaGreatDoor.extentPlays
open Go.ChangeShapes Go.WideShapes Go.ChangeAt Go.RowKit
open Go.ChangeMaps (open_string shut_string)
theorem zBR: Tryz.prog.cellsOf 29=6:=by kernel_rfl
theorem zIV: Tryz.prog.cellsOf 5=1:=by kernel_rfl
theorem ZO: Tryz.prog.cellsOf 3=1:=by kernel_rfl
theorem zIU: Tryz.prog.cellsOf 9=1:=by kernel_rfl
abbrev Raw:=Int×Int×Int×Int×Int×ByteArray
def zDd (s:Raw):List Value:=[.int .u8 s.1, .int .i64 s.2.1, .int .i64 s.2.2.1, .int .i64 s.2.2.2.1, .int .i64 s.2.2.2.2.1, .string s.2.2.2.2.2]
open Go.Eng.Sh (Ax axV AxR)
def zOs (s:Raw):Ax:=⟨s.1,s.2.1,s.2.2.1,s.2.2.2.1,s.2.2.2.2.1,s.2.2.2.2.2.data.toList⟩
theorem zOr (N:Nat)(s:Raw):axV (zOs s)=(zDd s).map (Go.Eng.cellAV N):=by
 simp only[zDd,List.map_cons,List.map_nil,Go.Eng.cellAV_string,axV,zOs];rfl
theorem max_i64:IntKind.max .i64=9223372036854775807:=by decide
set_option maxRecDepth 100000 in
theorem zKs {H:Type}{enc:TypeId×Value->H}{w:World}{base:Nat}{held:Bool}{fuel:Nat}{cs:List Value}{x:DataW H×List MemPlace}(h:DataW.trod enc Tryz.prog w base (fun _=>true) held fuel 29 cs=some x): ∃s:Raw,cs=zDd s/\s.2.2.1<9223372036854775808:=by
 obtain⟨xs,n,_,_,hl,hlen,hx⟩:=DataW.trod_struct Tryz.underlying29 h;rw[zBR]at hl
 match cs,hl with
 | [c0,c1,c2,c3,c4,c5],_=>
  match xs,hlen with
  | [y0,y1,y2,y3,y4,y5],_=>
   have k0:DataW.trod enc Tryz.prog w base (fun _=>true) held n 5 [c0]=some y0:=by
    have this:DataW.trod enc Tryz.prog w base (fun _=>true) held n 5 (List.take (Tryz.prog.cellsOf 5) (List.drop 0 [c0,c1,c2,c3,c4,c5]))=some y0:=hx 0 _ rfl;rw[zIV]at this;exact this
   have k1:DataW.trod enc Tryz.prog w base (fun _=>true) held n 3 [c1]=some y1:=by
    have this:DataW.trod enc Tryz.prog w base (fun _=>true) held n 3 (List.take (Tryz.prog.cellsOf 3) (List.drop 1 [c0,c1,c2,c3,c4,c5]))=some y1:=hx 1 _ rfl;rw[ZO]at this;exact this
   have k2:DataW.trod enc Tryz.prog w base (fun _=>true) held n 3 [c2]=some y2:=by
    have this:DataW.trod enc Tryz.prog w base (fun _=>true) held n 3 (List.take (Tryz.prog.cellsOf 3) (List.drop 2 [c0,c1,c2,c3,c4,c5]))=some y2:=hx 2 _ rfl;rw[ZO]at this;exact this
   have k3:DataW.trod enc Tryz.prog w base (fun _=>true) held n 3 [c3]=some y3:=by
    have this:DataW.trod enc Tryz.prog w base (fun _=>true) held n 3 (List.take (Tryz.prog.cellsOf 3) (List.drop 3 [c0,c1,c2,c3,c4,c5]))=some y3:=hx 3 _ rfl;rw[ZO]at this;exact this
   have k4:DataW.trod enc Tryz.prog w base (fun _=>true) held n 3 [c4]=some y4:=by
    have this:DataW.trod enc Tryz.prog w base (fun _=>true) held n 3 (List.take (Tryz.prog.cellsOf 3) (List.drop 4 [c0,c1,c2,c3,c4,c5]))=some y4:=hx 4 _ rfl;rw[ZO]at this;exact this
   have k5:DataW.trod enc Tryz.prog w base (fun _=>true) held n 9 [c5]=some y5:=by
    have this:DataW.trod enc Tryz.prog w base (fun _=>true) held n 9 (List.take (Tryz.prog.cellsOf 9) (List.drop 5 [c0,c1,c2,c3,c4,c5]))=some y5:=hx 5 _ rfl;rw[zIU]at this;exact this
   clear hx h;obtain⟨a0,h0,_⟩:=DataW.trod_int Tryz.underlying5 k0;obtain⟨a1,h1,_⟩:=DataW.trod_int Tryz.underlying3 k1;obtain⟨a2,h2,_,w2⟩:=DataW.trod_int Tryz.underlying3 k2;obtain⟨a3,h3,_⟩:=DataW.trod_int Tryz.underlying3 k3;obtain⟨a4,h4,_⟩:=DataW.trod_int Tryz.underlying3 k4;obtain⟨a5,h5,_⟩:=DataW.trod_string Tryz.underlying9 k5;obtain rfl:=(List.cons.inj h0).1;obtain rfl:=(List.cons.inj h1).1;obtain rfl:=(List.cons.inj h2).1;obtain rfl:=(List.cons.inj h3).1;obtain rfl:=(List.cons.inj h4).1;obtain rfl:=(List.cons.inj h5).1;have hw:a2<=IntKind.max .i64:=by
    simp only[Lit.wf,z8,zF]at w2;exact w2.2
   rw[max_i64]at hw;exact⟨(a0,a1,a2,a3,a4,a5),rfl,by show a2< _;omega⟩
instance:Inhabited Raw:=⟨(0,0,0,0,0, .empty)⟩
set_option maxRecDepth 100000 in
theorem zHs {H:Type}{enc:TypeId×Value->H}{w:World}{base:Nat}{held:Bool}{v:Value}{d:DataW H}{ps:List MemPlace}(hv: ∃a len cap,v= .slice a len cap)(h:DataW.Trod enc Tryz.prog w base (fun _=>true) held 22 v d ps):
  ∃l:List Ax,AxR (Go.Eng.H0 w) (Go.Eng.argAV w.heap.size v) l/\ ∀a∈l,a.a<9223372036854775808:=by
 obtain⟨a0,len0,cap0,rfl⟩:=hv;obtain⟨fuel,hf⟩:=h;obtain⟨l,h1,h2⟩:=Go.Eng.srows_arg (α:=Raw) (k:=6) (by decide) (vals:=zDd) (fun _=>rfl) (good:=fun s=>s.2.2.1<9223372036854775808) Tryz.underlying22 zBR (fun h=>zKs h) hf;refine⟨l.map zOs, ?_,fun a ha=> ?_⟩
 ·have e: ∀l:List Raw,(l.map zOs).flatMap axV=l.flatMap fun s=>(zDd s).map (Go.Eng.cellAV w.heap.size):=by
   intro l
   induction l with
   | nil=>rfl
   | cons s l ih=>rw[List.map_cons,zP,zP,zOr w.heap.size s,ih]
  show Go.Eng.Rw 6 _ _ (l.map zOs).length _;rw[e,qG];exact h1
 ·obtain⟨s,hs,rfl⟩:=List.mem_map.1 ha;exact h2 s hs
theorem own:ownKnob Tryz.prog.godebug=none:=by kernel_rfl
theorem laid:laidOutB Tryz.prog=true:=by kernel_rfl
set_option maxRecDepth 100000 in
theorem contract (H:Type)(enc:TypeId×Value->H)(W:World)(base:Nat)(args:Array Value)(ds gs:List (DataW H))(before:List MemPlace)
  (hval: ∀(j:Nat) t v, Tryz.f3.params[j]? =some t->args[j]? =some v->Value.okWide Tryz.prog W .any base t v)
  (hW:DataW.Whole enc Tryz.prog Tryz.f3.params.toList Rows.extentPlaysSpec.vars false W args.toList ds gs before):
  Calls Tryz.prog 3 args W fun e W'=> ∃v,e= .returned v/\Rows.extentPlaysSpec.post enc Tryz.prog Tryz.f3 false true false false W args v W':=by
 have hW':=hW;obtain⟨p,q,hA0,hV,rfl,hfz,hnd⟩:=hW;have hA:DataW.TrodAll enc Tryz.prog W 0 (fun _=>true) true Tryz.f3.params.toList args.toList ds p:=hA0;rw[Tryz.params3]at hA hval;obtain⟨v0,vs0,d0,ds0,p0,q0,hargs,rfl,rfl,h0,r0⟩:=trodAll_cons hA;obtain⟨rfl,rfl,rfl⟩:=trodAll_nil r0;obtain rfl:args= #[v0]:=by cases args;simp_all
 obtain⟨rfl,rfl⟩:=trodVars_none hV;clear hA0;have hlt0: ∀x∈p0,x.block<W.heap.size:=fun x hx=>hW'.lt x (by simp[hx])
 obtain⟨l,hN,hU⟩:=zHs (okWide_slice Tryz.underlying22 (hval 0 22 v0 rfl rfl)) h0;obtain⟨m,hm⟩: ∃m:Nat,700000000<=m:=⟨_,Nat.le_refl _⟩;obtain⟨H',hrun,hP⟩:=Go.Eng.Sh.extentPlays_walk m hm (Go.Eng.H0_ok W) hN hU;have hcall:=Go.Eng.calls_param (Go.Eng.Sh.f3z_ok (Go.Eng.Sh.dy_ok (m+1)) (m+1)) W (args:= #[v0]) (H':=H') hrun (fun A hA=>hP.keep A hA (fun x=>x));refine hcall.mono fun e W' ⟨he,hb⟩=> ?_
 subst he;simp only[List.append_nil]at hW';refine⟨_,rfl,_,_,_,[],p0++[],[],hW', ?_, ?_,rfl,hb.frame _,fun h=>by cases h⟩
 ·exact trodAll_cons_mk (shut_bool Tryz.underlying4 _) trodAll_mk0
 ·exact trodAll_cons_mk (Below.trod laid (by kernel_rfl) (of_decide_eq_true (by kernel_rfl)) h0 hb hlt0) trodAll_mk0
set_option maxRecDepth 100000 in
theorem lifted (os:Os)(started:os.Started)(H:Type)(enc:TypeId×Value->H):
  ReturnsInHanded {} Tryz.checked os 3 .any (fun w args=>(Rows.extentPlaysSpec.pre enc Tryz.prog Tryz.f3 Rows.extentPlaysRow.domain false w args/\laidMetH Tryz.prog Rows.extentPlaysRow.laid w)/\sizedMet enc Tryz.prog Tryz.f3 (OpenSpec.ofChange Rows.extentPlaysSpec) false w args)
   (Rows.extentPlaysSpec.post enc Tryz.prog Tryz.f3 false true false false):=by
 refine returnsInHanded_of_change_and (C:= Tryz.checked) (X:=fun w _=>laidMetH Tryz.prog Rows.extentPlaysRow.laid w) (fun _ _ _ hh h=>h.of_heap hh) own started (by kernel_rfl) Tryz.func3
  (ChangeSpec.witness_shaped (enc:=enc) (C:= Tryz.checked) (os:=os) (X:=fun w _=>laidMetH Tryz.prog Rows.extentPlaysRow.laid w) false (World.laidAll Tryz.prog os Rows.extentPlaysRow.laid) #[.slice none 0 0] 8 (World.laidAll_os _ _ _)
   (World.shaped_of_ZipB (by kernel_rfl) (by kernel_rfl)) (by kernel_rfl) (by kernel_rfl) (by kernel_rfl)
   (by rw[MakeChecks.laidMetH_plain _ _ _ (by kernel_rfl)];exact laidMet_laidAll _ (by kernel_rfl) (by kernel_rfl))) ?_
 intro W base args ds gs before hval hW _ _ _ _;exact contract H enc W base args ds gs before hval hW
theorem holds:Rows.ExtentPlaysSaid:=
 OpenClaim.holds_of_wide 3 Tryz.f3 rfl rfl rfl rfl rfl rfl rfl ⟨rfl,rfl,rfl,rfl,rfl⟩ rfl rfl rfl rfl rfl (by kernel_rfl) Tryz.func3 (by kernel_rfl)
  (of_decide_eq_true (by kernel_rfl)) (by unfold Func.isWrapper;first | (rw[if_pos (by decide+kernel)];kernel_rfl) | (rw[if_neg (by decide+kernel)];exact⟨rfl,rfl⟩))
  (fun os started H enc _=>lifted os started H enc)
theorem card:Rows.ExtentPlaysCardSaid:=
 Claim7.holds_tied_plain_at .later [] [.data, .pinned] true Rows.extentPlaysCard.stood.harness true holds (fun _ h=>by cases h) (by kernel_rfl) (fun _ h=>by cases h) extentPlays_row_tie rfl ⟨rfl,rfl⟩ (by kernel_rfl) rfl
  (fun f fn hf hfn=>by
   obtain rfl:f=3:=Option.some.inj ((show Tryz.prog.funcNamed Rows.extentPlaysRow.func=some 3 by kernel_rfl).symm.trans hf) |>.symm;obtain rfl:fn= Tryz.f3:=(Option.some.inj (Tryz.func3.symm.trans hfn)).symm;exact⟨by kernel_rfl,fun j t ht=>by
    rw[Tryz.params3]at ht;have hm:t∈[22]:=by simpa using Array.mem_of_getElem? ht
    have hall:([22].all fun u=> !Tryz.prog.wantsStandIn u)=true:=by kernel_rfl
    exact(show Tryz.prog.wantsStandIn t=false by simpa using List.all_eq_true.1 hall t hm)⟩)
  (by kernel_rfl)
end Go.Proofs.YtgffmjchoomnoaaGreatDoor.extentPlays
namespace Go.Proofs.YtgffmjchoomnoaaGreatDoor
theorem extentPlays_holds:Rows.ExtentPlaysCardSaid:=extentPlays.card
end Go.Proofs.YtgffmjchoomnoaaGreatDoor
end
