/- A checked evaluator for the program, and what it tells, part 5: no condition. -/
import Derived.Test.YtaaflpnhdkoaeaaGreatO4
set_option linter.all false
set_option linter.unusedVariables false
set_option linter.unusedSimpArgs false
set_option maxHeartbeats 8000000
set_option maxRecDepth 20000
section
namespace Go.Eng.Sh
open Go.Nd (Ptr sumL)
theorem aY (x:Bool)(a b c:AV)(ha:isCell a=true)(hb:isCell b=true)(hc:isCell c=true):qY [.bool x,a,b,c]=true:=by
 simp only[qY,ha,hb,hc];rfl
theorem j9.zero (k e:Nat){H:AH}{A:Nat}{e':TypeId}{g:Bool}(h:H.h.get A=some (.cells [] e' k g))(hk:H.ok):j9 k e H (.slice A 0 0 0) 0 []:= .inr ⟨by simp,A,e',g,rfl,hk.lt h,h,rfl⟩
theorem zB2 (b:Bool):aveq (.bool b) (.bool b)=true:=by cases b<;>rfl
theorem wG (l:List Str):qY (l.map S)=true:=by
 rw[jA];intro x hx;obtain⟨s,_,rfl⟩:=List.mem_map.1 hx;rfl
theorem v5 (l:List Ptr):qY (l.flatMap y7)=true:=by
 rw[jA];intro x hx;obtain⟨p,_,hp⟩:=List.mem_flatMap.1 hx;simp only[y7,List.mem_cons,List.not_mem_nil,or_false]at hp;rcases hp with rfl | rfl | rfl<;>rfl
theorem Rw.blk {k n:Nat}{H:AH}{v:AV}{l:List AV}(h:Rw k H v n l){B:Nat}(hB:Blk v B):B<H.next:=by
 obtain⟨_,⟨rfl,_⟩ | ⟨rfl,_⟩ | ⟨A,off,cc,c,e,sz,g,rfl,_,hlt,_⟩⟩:=h
 .exact(Blk.nil.1 hB).elim
 .obtain⟨_,_,_,h⟩:=hB;cases h
 .rw[Blk.slice.1 hB];exact hlt
def yK (H:AH)(v:AV)(nd:Nd.Node):Prop:= ∃ks vs ps,v= .agg [.bool nd.leaf,ks,vs,ps]/\j9 1 9 H ks nd.keys.length (nd.keys.map S)/\j9 1 9 H vs nd.vals.length (nd.vals.map S)/\j9 3 42 H ps nd.kids.length (nd.kids.flatMap y7)
theorem yK.node {H:AH}{v:AV}{nd:Nd.Node}(h:yK H v nd):uF H v nd:=by
 obtain⟨ks,vs,ps,e,h1,h2,h3⟩:=h;exact⟨ks,vs,ps,e,h1.row,h2.row,h3.row⟩
theorem yK.prs {H H':AH}{v:AV}{nd:Nd.Node}(h:yK H v nd)(s:Prs H H'):yK H' v nd:=by
 obtain⟨ks,vs,ps,e,h1,h2,h3⟩:=h;exact⟨ks,vs,ps,e,h1.mono s (fun _ _ x=>x),h2.mono s (fun _ _ x=>x),h3.mono s (fun _ _ x=>x)⟩
theorem Own.st {k e n:Nat}{H:AH}{v:AV}{l:List AV}(h:Own k e H v n l)(hk:H.ok)(hpos:0<k){i:Nat}(hi:i<n){x:AV}(hx:(yC x).length=k)(hc:qY (yC x)=true):
  ∃p H' l',(∀κ (z:Int),z=(i:Int)->dK k v (.int κ z)=some p)/\stN k p x H=some (qZ,H')/\Own k e H' v n l'/\Stp (Blk v) H H':=by
 obtain⟨h0,⟨_,rfl⟩ | ⟨A,rfl,hA,hg⟩⟩:=h
 .omega
 .have hik:i*k+k<=n*k:=by rw[<-Nat.succ_mul];exact qH _ hi
  have hb:Nat.blt i n=true:=by rw[zR];exact hi
  refine⟨.ptr A (0+i*k),_,_,fun κ z hz=> ?_,YW hg hpos hx hc (by omega),⟨?_, .inr ⟨A,rfl,hA,by rw[AH.put_get,if_pos rfl]⟩⟩,(Stp.refl hk).put hA _ (.inr (Blk.slice.2 rfl))⟩
  .subst hz;simp only[dK,yM κ (show(0:Int)<=(i:Int)by omega),qD,hb,cond_true,yG]
  .simp only[zM,zQ,zU,hx];omega
theorem zOl (x:Nat):Nat.ble 0 x=true:=by rw[qA];omega
theorem V8 {k e n:Nat}{H:AH}{v:AV}{l:List AV}(h:j9 k e H v n l)(hpos:0<k){i:Nat}(hi:i<=n)(κ κ':IntKind):
  ∃r,kX k v none (some (.int κ (i:Nat))) (some (.int κ' (i:Nat))) H=some r/\Rw k H r i (l.take (i*k))/\(0<i->r≠ .nilSlice/\r≠ .emptySl):=by
 have n1:=yM κ (z:=((i:Nat):Int)) (by omega);have n2:=yM κ' (z:=((i:Nat):Int)) (by omega);simp only[qD]at n1 n2;have hb:Nat.blt 0 k=true:=by rw[zR];exact hpos
 have hz:Nat.beq i 0=decide (i=0):=by rw[Bool.eq_iff_iff];simp
 have hmul:i*k<=n*k:=qH _ hi;have b1:Nat.ble i n=true:=by rw[qA];exact hi
 have b2:Nat.ble i i=true:=by rw[qA];exact Nat.le_refl _
 have b3:Nat.ble 0 i=true:=by rw[qA];omega
 rcases h with⟨h0,⟨rfl,rfl⟩ | ⟨A,rfl,hA,hg⟩⟩ | ⟨h0,A,e',g,rfl,hA,hg,hn0⟩
 .obtain rfl:i=0:=by omega
  exact⟨.nilSlice,by simp only[kX,yT,n1,n2];simp,⟨by simp, .inl ⟨rfl,rfl⟩⟩,fun h=>absurd h (by omega)⟩
 .have hroom:yO l true k 0 1 k=n:=by
   simp only[yO,show((1 % 2).beq 0)=false from rfl,cond_false,Nat.beq_refl,show Nat.beq 0 (1 / 2*k)=true from by simp,Bool.and_self,cond_true,yE,h0,Nat.sub_zero];exact Nat.mul_div_cancel _ hpos
  by_cases hi0:i=0
  .subst hi0;refine⟨.slice A 0 0 0, ?_,⟨by simp, .inr (.inr ⟨A,0,0,l,e,k,true,rfl,hg,hA,by simp,by simp⟩)⟩,fun h=>absurd h (by omega)⟩;simp only[kX,yT,n1,n2,hg,hb,cond_true];simp[QY,hroom,yG,zOl]
  .have hz0:Nat.beq i 0=false:=by rw[hz];simpa using hi0
   refine⟨.slice A 0 i (2*i), ?_,⟨by rw[zQ,h0,Nat.min_eq_left hmul], .inr (.inr ⟨A,0,2*i,l,e,k,true,rfl,hg,hA,by omega,by simp⟩)⟩,fun _=>⟨by simp,by simp⟩⟩;simp only[kX,yT,n1,n2,hg,hb,cond_true];simp[QY,hroom,b1,b2,hz0,yG,zOl]
 .have hroom:yO l g k 0 (2*n) k=n:=by
   simp only[yO,show((2*n) % 2).beq 0=true by rw[Nat.mul_mod_right];rfl,cond_true,Nat.mul_div_cancel_left n (show 0<2 by omega)]
  by_cases hi0:i=0
  .subst hi0;refine⟨.slice A 0 0 0, ?_,⟨by simp, .inr (.inr ⟨A,0,0,l,e',k,g,rfl,hg,hA,by simp,by simp⟩)⟩,fun h=>absurd h (by omega)⟩;simp only[kX,yT,n1,n2,hg,hb,cond_true];simp[QY,hroom,yG,zOl]
  .have hz0:Nat.beq i 0=false:=by rw[hz];simpa using hi0
   refine⟨.slice A 0 i (2*i), ?_,⟨by rw[zQ,h0,Nat.min_eq_left hmul], .inr (.inr ⟨A,0,2*i,l,e',k,g,rfl,hg,hA,by omega,by simp⟩)⟩,fun _=>⟨by simp,by simp⟩⟩;simp only[kX,yT,n1,n2,hg,hb,cond_true];simp[QY,hroom,b1,b2,hz0,yG,zOl]
theorem ZF {k e n:Nat}{H:AH}{v:AV}{l:List AV}(h:j9 k e H v n l)(hpos:0<k){i:Nat}(hi:i<n)(κ:IntKind):
  ∃r,kX k v (some (.int κ (i:Nat))) none none H=some r/\Rw k H r (n - i) (l.drop (i*k))/\r≠ .nilSlice/\r≠ .emptySl:=by
 have n1:=yM κ (z:=((i:Nat):Int)) (by omega);simp only[qD]at n1;have hb:Nat.blt 0 k=true:=by rw[zR];exact hpos
 have hmul:i*k<=n*k:=qH _ (by omega);have hsub:(n - i)*k=n*k - i*k:=Nat.sub_mul _ _ _;have b1:Nat.ble n n=true:=by rw[qA];exact Nat.le_refl _
 have b2:Nat.ble i n=true:=by rw[qA];omega
 have b3:Nat.blt i n=true:=by rw[zR];exact hi
 have b4:Nat.beq n i=false:=by rw[Bool.eq_false_iff];intro h;have:=Nat.eq_of_beq_eq_true h;omega
 rcases h with⟨h0,⟨rfl,rfl⟩ | ⟨A,rfl,hA,hg⟩⟩ | ⟨h0,A,e',g,rfl,hA,hg,hn0⟩
 .omega
 .have hroom:yO l true k 0 1 k=n:=by
   simp only[yO,show((1 % 2).beq 0)=false from rfl,cond_false,Nat.beq_refl,show Nat.beq 0 (1 / 2*k)=true from by simp,Bool.and_self,cond_true,yE,h0,Nat.sub_zero];exact Nat.mul_div_cancel _ hpos
  by_cases hi0:i=0
  .subst hi0;refine⟨.slice A 0 n 1, ?_,⟨by simp[h0], .inr (.inr ⟨A,0,1,l,e,k,true,by simp,hg,hA,by simp[h0],by rw[Nat.sub_zero,Nat.zero_mul,List.drop_zero,zO (by omega)]⟩)⟩,by simp,by simp⟩;simp only[kX,yT,n1,hg,hb,cond_true];simp[QY,hroom,b1,yG,zOl,show Nat.beq 1 0=false from rfl]
  .have hz0:Nat.beq i 0=false:=by rw[Bool.eq_false_iff];intro h;exact hi0 (Nat.eq_of_beq_eq_true h)
   refine⟨.slice A (0+i*k) (n - i) (1+2*i), ?_,⟨by simp[h0,hsub], .inr (.inr ⟨A,0+i*k,1+2*i,l,e,k,true,rfl,hg,hA,by omega,by rw[Nat.zero_add,zO (by simp[h0,hsub])]⟩)⟩,by simp,by simp⟩;simp only[kX,yT,n1,hg,hb,cond_true];simp[QY,hroom,b1,b2,b3,hz0,yG,show Nat.beq 1 0=false from rfl]
 .have hroom:yO l g k 0 (2*n) k=n:=by
   simp only[yO,show((2*n) % 2).beq 0=true by rw[Nat.mul_mod_right];rfl,cond_true,Nat.mul_div_cancel_left n (show 0<2 by omega)]
  have b4':Nat.beq (2*n / 2) i=false:=by rw[Nat.mul_div_cancel_left n (show 0<2 by omega)];exact b4
  refine⟨.slice A (0+i*k) (n - i) (2*(2*n / 2 - i)), ?_,⟨by simp[h0,hsub], .inr (.inr ⟨A,0+i*k,2*(2*n / 2 - i),l,e',k,g,rfl,hg,hA,by omega,by rw[Nat.zero_add,zO (by simp[h0,hsub])]⟩)⟩,by simp,by simp⟩;simp only[kX,yT,n1,hg,hb,cond_true];simp[QY,hroom,b1,b2,b4',yG,b4]
theorem K5 (D:Dyn)(n:Nat){H:AH}(hk:H.ok){v:AV}{l:List Str}(h:Strs H v l)(hn:v≠ .nilSlice)(he:v≠ .emptySl)(hl:l.length<=1000000000):
  ∃v' H',f108 D n [v] H=some (v',H')/\Prs H H'/\j9 1 9 H' v' l.length (l.map S)/\ ∀B,Blk v' B->H.next<=B:=by
 have p1:Prs H (H.push (.cells [] 9 1 false)):=(Stp.refl hk).push _;have g1:(H.push (.cells [] 9 1 false)).h.get H.next=some (.cells [] 9 1 false):=AH.push_get_eq _ _
 have n1:(H.push (.cells [] 9 1 false)).next=H.next+1:=rfl
 generalize hH1:H.push (.cells [] 9 1 false)=H1 at p1 g1 n1;obtain⟨v',H2,e2,w2,s2,f2⟩:=(j9.zero 1 9 g1 p1.ok).app (bytes:=16) p1.ok (by decide) (Rw.srcOf (h.prs p1)) (by simp) (wG _) (by omega) (by decide);have hz1:aU 9 1 0 [.str 0 0] []=some (.cells [] 9 1 false,fun A=> .slice A 0 0 0):=rfl;have heq:bC .eql (eqS v .nilSlice)=some (.bool false):=by
  obtain⟨_,⟨rfl,_⟩ | ⟨rfl,_⟩ | ⟨A,off,cc,c,e,sz,g,rfl,_⟩⟩:=h
  .exact absurd rfl hn
  .exact absurd rfl he
  .rfl
 refine⟨v',H2, ?_,p1.fresh s2 (fun B hB=>by rw[Blk.slice.1 hB];exact Nat.le_refl _),by simpa using w2,fun B hB=> ?_⟩
 .simp only[f108,eZ,heq,hz1,yR hk,hH1,e2]
 .rcases f2 B hB with h | h
  .rw[Blk.slice.1 h];exact Nat.le_refl _
  .omega
theorem zAO (D:Dyn)(n:Nat){H:AH}(hk:H.ok){v:AV}{l:List Ptr}(h:xV H v l)(hn:v≠ .nilSlice)(he:v≠ .emptySl)(hl:l.length<=1000000000):
  ∃v' H',f81 D n [v] H=some (v',H')/\Prs H H'/\j9 3 42 H' v' l.length (l.flatMap y7)/\ ∀B,Blk v' B->H.next<=B:=by
 have p1:Prs H (H.push (.cells [] 42 3 false)):=(Stp.refl hk).push _;have g1:(H.push (.cells [] 42 3 false)).h.get H.next=some (.cells [] 42 3 false):=AH.push_get_eq _ _
 have n1:(H.push (.cells [] 42 3 false)).next=H.next+1:=rfl
 generalize hH1:H.push (.cells [] 42 3 false)=H1 at p1 g1 n1;obtain⟨v',H2,e2,w2,s2,f2⟩:=(j9.zero 3 42 g1 p1.ok).app (bytes:=24) p1.ok (by decide) (Rw.srcOf (h.prs p1)) h.1 (v5 _) (by omega) (by decide);have hz1: ∀a b c:AV,aU 42 3 0 [a,b,c] []=some (.cells [] 42 3 false,fun A=> .slice A 0 0 0):=fun _ _ _=>rfl
 have heq:bC .eql (eqS v .nilSlice)=some (.bool false):=by
  obtain⟨_,⟨rfl,_⟩ | ⟨rfl,_⟩ | ⟨A,off,cc,c,e,sz,g,rfl,_⟩⟩:=h
  .exact absurd rfl hn
  .exact absurd rfl he
  .rfl
 refine⟨v',H2, ?_,p1.fresh s2 (fun B hB=>by rw[Blk.slice.1 hB];exact Nat.le_refl _),by simpa using w2,fun B hB=> ?_⟩
 .simp only[f81,eZ,heq,hz1,yR hk,hH1,e2]
 .rcases f2 B hB with h | h
  .rw[Blk.slice.1 h];exact Nat.le_refl _
  .omega
open Go.Nd (cutOk)
def vS (nd:Nd.Node):Prop:=2<=nd.keys.length/\(nd.leaf=true\/3<=nd.keys.length)
def hbnd (nd:Nd.Node)(k:Nat):Prop:=
 (k=1\/Nd.size (Nd.cutA nd k)<=(Nd.size nd - 2) / 2+2)/\(k+(if nd.leaf then 1 else 2)=nd.keys.length\/(Nd.size nd - 2) / 2+2<Nd.size (Nd.cutA nd (k+1)))
theorem YS (l:List Str){i:Nat}(h:i<l.length):sumL (l.take (i+1))=sumL (l.take i)+(1+(l[i]).length):=by
 rw[zV h,Nd.sumL_append,Nd.sumL_cons];rfl
theorem size_leaf {nd:Nd.Node}(hl:nd.leaf=true)(hv:nd.vals.length=nd.keys.length){i:Nat}(h:i<nd.keys.length):Nd.size (Nd.cutA nd (i+1))=Nd.size (Nd.cutA nd i)+(1+(nd.keys[i]).length)+(1+(nd.vals[i]'(by omega)).length):=by
 simp only[Nd.cutA,hl,if_true,Nd.size,YS nd.keys h,YS nd.vals (i:=i) (by omega)];omega
theorem size_inner {nd:Nd.Node}(hl:nd.leaf=false)(hv:nd.kids.length=nd.keys.length+1){i:Nat}(h:i<nd.keys.length):Nd.size (Nd.cutA nd (i+1))=Nd.size (Nd.cutA nd i)+(1+(nd.keys[i]).length)+16:=by
 simp only[Nd.cutA,hl,Bool.false_eq_true,if_false,Nd.size,YS nd.keys h,zQ];omega
theorem V9 (nd:Nd.Node):2<=Nd.size nd:=by simp only[Nd.size];omega
theorem zCT (D:Dyn)(n:Nat){H:AH}{ks vs ps:AV}{nd:Nd.Node}(h1:Strs H ks nd.keys)(h2:Strs H vs nd.vals)(hv:nd.leaf=true->nd.vals.length=nd.keys.length)(hp:nd.leaf=false->nd.kids.length=nd.keys.length+1){A:Nat}{e:TypeId}(hA:H.h.get A=some (.cells [.bool nd.leaf,ks,vs,ps] e 1 false))
  (most:Nat) (L:Nat) (hL:L<=nd.keys.length) (hb:nd.keys.length<=1000000000) (hz:Nd.size nd<=1000000000) (n':Nat) (hn:L<n'):
  Fin (yJ n' (uR D n) [.ptr A 0, .int .i64 (most:Nat), .int .i64 (L:Nat), .int .i64 ((Nd.size (Nd.cutA nd 0) - 2:Nat):Int), .int .i64 (L:Nat), .int .i64 (0:Nat)] H) fun x H'=>H'=H/\((∃j:Nat,0<j/\j<L/\x= .ret (.int .i64 (j:Nat))/\(j=1\/Nd.size (Nd.cutA nd j)<=most+2)/\most+2<Nd.size (Nd.cutA nd (j+1)))\/(x= .exit 0 [.int .i64 (L:Nat)]/\(L<=1\/Nd.size (Nd.cutA nd L)<=most+2))):=by
 refine Fin.loop (fun k us H'=>H'=H/\ ∃(i:Nat),us=[.ptr A 0, .int .i64 (most:Nat), .int .i64 (L:Nat), .int .i64 ((Nd.size (Nd.cutA nd i) - 2:Nat):Int), .int .i64 (L:Nat), .int .i64 (i:Nat)]/\i<=L/\k=L - i/\(i<=1\/Nd.size (Nd.cutA nd i)<=most+2)) ?_ n' L _ H ⟨rfl,0,rfl,by omega,by omega, .inl (by omega)⟩ hn
 rintro k us H' ⟨rfl,i,rfl,hi,rfl,hpre⟩
 by_cases hlt:i<L
 .have hik:i<nd.keys.length:=by omega
  obtain⟨p,p1,p2⟩:=h1.at hik;have hiI:((i:Nat):Int)< ((L:Nat):Int):=by omega
  have z2:=V9 (Nd.cutA nd i);have z2':=V9 (Nd.cutA nd (i+1));have tail:Fin (vQ D n [.ptr A 0, .int .i64 (most:Nat), .int .i64 (L:Nat), .int .i64 ((Nd.size (Nd.cutA nd (i+1)) - 2:Nat):Int), .int .i64 (i:Nat), .int .i64 (L:Nat), .int .i64 (i:Nat)] H')
    (orN (fun us' H''=> ∃k',k'<L - i/\H''=H'/\ ∃(i:Nat),us'=[.ptr A 0, .int .i64 (most:Nat), .int .i64 (L:Nat), .int .i64 ((Nd.size (Nd.cutA nd i) - 2:Nat):Int), .int .i64 (L:Nat), .int .i64 (i:Nat)]/\i<=L/\k'=L - i/\(i<=1\/Nd.size (Nd.cutA nd i)<=most+2))
     (fun x H''=>H''=H'/\((∃j:Nat,0<j/\j<L/\x= .ret (.int .i64 (j:Nat))/\(j=1\/Nd.size (Nd.cutA nd j)<=most+2)/\most+2<Nd.size (Nd.cutA nd (j+1)))\/(x= .exit 0 [.int .i64 (L:Nat)]/\(L<=1\/Nd.size (Nd.cutA nd L)<=most+2))))):=by
   by_cases hc:0<i/\most<Nd.size (Nd.cutA nd (i+1)) - 2
   .have c1:((0:Nat):Int)< (i:Int):=by omega
    have c2:((most:Nat):Int)< ((Nd.size (Nd.cutA nd (i+1)) - 2:Nat):Int):=by omega
    have:vQ D n [.ptr A 0, .int .i64 (most:Nat), .int .i64 (L:Nat), .int .i64 ((Nd.size (Nd.cutA nd (i+1)) - 2:Nat):Int), .int .i64 (i:Nat), .int .i64 (L:Nat), .int .i64 (i:Nat)] H'=some (.ret (.int .i64 (i:Nat)),H'):=by
     simp(disch:=omega) only[vQ,eZ,c1,c2]
    rw[this];exact⟨_,_,rfl,rfl, .inl ⟨i,hc.1,hlt,rfl,by omega,by omega⟩⟩
   .have hcb:(decide (((0:Nat):Int)< (i:Int))&&decide (((most:Nat):Int)< ((Nd.size (Nd.cutA nd (i+1)) - 2:Nat):Int)))=false:=by
     rw[Bool.eq_false_iff];intro hh;simp only[zE,zJ]at hh;exact hc ⟨by omega,by omega⟩
    have:vQ D n [.ptr A 0, .int .i64 (most:Nat), .int .i64 (L:Nat), .int .i64 ((Nd.size (Nd.cutA nd (i+1)) - 2:Nat):Int), .int .i64 (i:Nat), .int .i64 (L:Nat), .int .i64 (i:Nat)] H'=some (.norm [.ptr A 0, .int .i64 (most:Nat), .int .i64 (L:Nat), .int .i64 ((Nd.size (Nd.cutA nd (i+1)) - 2:Nat):Int), .int .i64 (L:Nat), .int .i64 ((i+1:Nat):Int)],H'):=by
     simp(disch:=omega) only[vQ,eZ,hcb,Int.natCast_add]
    rw[this];exact⟨_,_,rfl,L - (i+1),by omega,rfl,i+1,rfl,by omega,rfl,by omega⟩
  have hsz:Nd.size (Nd.cutA nd i)<=1000000002:=by
   have t1:=Nd.sumL_take_le nd.keys i;have t2:=Nd.sumL_take_le nd.vals i;have:Nd.size nd=2+16*nd.kids.length+sumL nd.keys+sumL nd.vals:=rfl;have z0:sumL []=0:=rfl;simp only[Nd.cutA];split<;>simp only[Nd.size,qI,zQ,z0]<;>omega
  have hkl:(nd.keys[i]).length<=1000000000:=by
   have:=Nd.sumL_drop_le nd.keys i;rw[zX hik,Nd.sumL_cons]at this;have:Nd.size nd=2+16*nd.kids.length+sumL nd.keys+sumL nd.vals:=rfl;omega
  cases hl:nd.leaf with
  | true=>
   rw[hl]at hA;obtain⟨q,q1,q2⟩:=h2.at (i:=i) (by rw[hv hl];exact hik);have hs:=size_leaf hl (hv hl) hik;have hvl:(nd.vals[i]'(by rw[hv hl];exact hik)).length<=1000000000:=by
    have:=Nd.sumL_drop_le nd.vals i;rw[zX (by rw[hv hl];exact hik),Nd.sumL_cons]at this;have:Nd.size nd=2+16*nd.kids.length+sumL nd.keys+sumL nd.vals:=rfl;omega
   have hz:((Nd.size (Nd.cutA nd (i+1)) - 2:Nat):Int)=((Nd.size (Nd.cutA nd i) - 2:Nat):Int)+(((1:Nat):Int)+(((nd.keys[i]).length:Nat):Int))+(((1:Nat):Int)+(((nd.vals[i]'(by rw[hv hl];exact hik)).length:Nat):Int)):=by omega
   have:uR D n [.ptr A 0, .int .i64 (most:Nat), .int .i64 (L:Nat), .int .i64 ((Nd.size (Nd.cutA nd i) - 2:Nat):Int), .int .i64 (L:Nat), .int .i64 (i:Nat)] H'=jn (some (.norm [.ptr A 0, .int .i64 (most:Nat), .int .i64 (L:Nat), .int .i64 ((Nd.size (Nd.cutA nd (i+1)) - 2:Nat):Int), .int .i64 (i:Nat), .int .i64 (L:Nat), .int .i64 (i:Nat)],H')) (vQ D n):=by
    rw[hz];simp(disch:=omega) only[uR,eZ,hiI,qV hA,p1,p2,q1,q2]
   rw[this,ZU];exact tail
  | false=>
   rw[hl]at hA;have hs:=size_inner hl (hp hl) hik;have hz:((Nd.size (Nd.cutA nd (i+1)) - 2:Nat):Int)=((Nd.size (Nd.cutA nd i) - 2:Nat):Int)+(((1:Nat):Int)+(((nd.keys[i]).length:Nat):Int))+((16:Nat):Int):=by omega
   have:uR D n [.ptr A 0, .int .i64 (most:Nat), .int .i64 (L:Nat), .int .i64 ((Nd.size (Nd.cutA nd i) - 2:Nat):Int), .int .i64 (L:Nat), .int .i64 (i:Nat)] H'=jn (some (.norm [.ptr A 0, .int .i64 (most:Nat), .int .i64 (L:Nat), .int .i64 ((Nd.size (Nd.cutA nd (i+1)) - 2:Nat):Int), .int .i64 (i:Nat), .int .i64 (L:Nat), .int .i64 (i:Nat)],H')) (vQ D n):=by
    rw[hz];simp(disch:=omega) only[uR,eZ,hiI,qV hA,p1,p2]
   rw[this,ZU];exact tail
 .have hiI: ¬((i:Nat):Int)< ((L:Nat):Int):=by omega
  have hiL:i=L:=by omega
  subst hiL;refine⟨.exit 0 [.int .i64 (i:Nat)],H', ?_,rfl, .inr ⟨rfl,hpre⟩⟩;simp only[uR,eZ,hiI]
theorem zFY (D:Dyn)(n:Nat)(hn:200000000<=n){H:AH}(hk:H.ok){v:AV}{nd:Nd.Node}(h:uF H v nd)(hs:small nd)(hsh:Nd.shaped ltS nd=true)(hc:vS nd):
  ∃(k:Nat) (H':AH),f227 D n [v] H=some (.int .i64 (k:Nat),H')/\Prs H H'/\cutOk nd k/\hbnd nd k:=by
 have h0:=h;obtain⟨ks,vs,ps,rfl,h1,h2,h3⟩:=h;have hkl:=Nd.sumL_ge nd.keys;obtain⟨s1,s2,s3⟩:=id hs;obtain⟨c1,c2⟩:=hc;have hv:nd.leaf=true->nd.vals.length=nd.keys.length:=by
  intro hl;simp only[Nd.shaped,hl,if_true,zE,zJ]at hsh;exact hsh.2.1.1
 have hp:nd.leaf=false->nd.kids.length=nd.keys.length+1:=by
  intro hl;simp only[Nd.shaped,hl,Bool.false_eq_true,if_false,zE,zJ]at hsh;exact hsh.2.1.2
 have p1:Prs H (H.push (.cells [.bool nd.leaf,ks,vs,ps] 119 1 false)):=(Stp.refl hk).push _;have g1:(H.push (.cells [.bool nd.leaf,ks,vs,ps] 119 1 false)).h.get H.next=some (.cells [.bool nd.leaf,ks,vs,ps] 119 1 false):=AH.push_get_eq _ _
 generalize hH1:H.push (.cells [.bool nd.leaf,ks,vs,ps] 119 1 false)=H1 at p1 g1;obtain⟨z,H2,e2,rfl,p2⟩:=YY D n p1.ok (h0.prs p1) hs hn;have g2:=p2.get p1.ok g1;have P:Prs H H2:=p1.trans p2;have hq:=zJC .i64 (((Nd.size nd:Nat):Int) - ((2:Nat):Int)) ((2:Nat):Int) (by omega);have hsz:Nd.size nd<=1000000000:=by simp only[Nd.size];omega
 have hz2:=V9 nd;have hmost:IntKind.wrap .i64 ((((Nd.size nd:Nat):Int) - ((2:Nat):Int)).tdiv ((2:Nat):Int))=(((Nd.size nd - 2) / 2:Nat):Int):=by
  rw[show((Nd.size nd:Nat):Int) - ((2:Nat):Int)=((Nd.size nd - 2:Nat):Int)by omega,Int.tdiv_eq_ediv_of_nonneg (by omega)];rw[wrap_i64 (by omega) (by omega)];omega
 rw[hmost]at hq
 cases hl:nd.leaf with
 | true=>
  obtain⟨x,H3,e3,rfl,hx⟩:=zCT D n (h1.prs P) (h2.prs P) hv hp g2 ((Nd.size nd - 2) / 2) (nd.keys.length - 1) (by omega) (by omega) hsz n (by omega);have hL:((nd.keys.length:Nat):Int) - ((1:Nat):Int)=((nd.keys.length - 1:Nat):Int):=by omega
  rw[hl]at g2 hH1 e2;rw[show Nd.size (Nd.cutA nd 0) - 2=0 by simp[Nd.cutA,hl,Nd.size,sumL]]at e3;rcases hx with⟨j,j1,j2,rfl,j3,j4⟩ | ⟨rfl,j3⟩
  .refine⟨j,H3, ?_,P,⟨j1,by rw[hl];simp only[if_true];omega⟩,j3, .inr j4⟩;simp(disch:=omega) only[f227,eZ,yR hk,hH1,hJ,Option.map_some,hl,e2,hq,qV g2,h1.lnSl,hL,QG,e3]
  .refine⟨nd.keys.length - 1,H3, ?_,P,⟨by omega,by rw[hl];simp only[if_true];omega⟩,by omega, .inl (by rw[hl];simp only[if_true];omega)⟩;simp(disch:=omega) only[f227,eZ,yR hk,hH1,hJ,Option.map_some,hl,e2,hq,qV g2,h1.lnSl,hL,QG,e3,JS]
 | false=>
  have c3:3<=nd.keys.length:=by rcases c2 with h | h;rw[hl]at h;cases h;exact h
  obtain⟨x,H3,e3,rfl,hx⟩:=zCT D n (h1.prs P) (h2.prs P) hv hp g2 ((Nd.size nd - 2) / 2) (nd.keys.length - 2) (by omega) (by omega) hsz n (by omega);have hL:((nd.keys.length:Nat):Int) - ((1:Nat):Int) - ((1:Nat):Int)=((nd.keys.length - 2:Nat):Int):=by omega
  rw[hl]at g2 hH1 e2;rw[show Nd.size (Nd.cutA nd 0) - 2=16 by have hpl:=hp hl;simp only[Nd.cutA,hl,Bool.false_eq_true,if_false,Nd.size,List.take_zero,zQ,Nat.zero_add,show sumL []=0 from rfl];omega]at e3;rcases hx with⟨j,j1,j2,rfl,j3,j4⟩ | ⟨rfl,j3⟩
  .refine⟨j,H3, ?_,P,⟨j1,by rw[hl];simp only[Bool.false_eq_true,if_false];omega⟩,j3, .inr j4⟩;simp(disch:=omega) only[f227,eZ,yR hk,hH1,hJ,Option.map_some,hl,e2,hq,qV g2,h1.lnSl,hL,QG,e3]
  .refine⟨nd.keys.length - 2,H3, ?_,P,⟨by omega,by rw[hl];simp only[Bool.false_eq_true,if_false];omega⟩,by omega, .inl (by rw[hl];simp only[Bool.false_eq_true,if_false];omega)⟩;simp(disch:=omega) only[f227,eZ,yR hk,hH1,hJ,Option.map_some,hl,e2,hq,qV g2,h1.lnSl,hL,QG,e3,JS]
open Go.Nd (cutA cB)
theorem xD {k e n:Nat}{H H':AH}{v:AV}{l l':List AV}(h:j9 k e H v n l)(h':j9 k e H' v n l')(hpos:0<k)(lo hi mx:Option AV):kX k v lo hi mx H'=kX k v lo hi mx H:=by
 have room1: ∀l:List AV,l.length=n*k->yO l true k 0 1 k=n:=fun l h0=>by
  simp only[yO,show((1 % 2).beq 0)=false from rfl,cond_false,Nat.beq_refl,show Nat.beq 0 (1 / 2*k)=true from by simp,Bool.and_self,cond_true,yE,h0,Nat.sub_zero];exact Nat.mul_div_cancel _ hpos
 have room2: ∀(l:List AV) (g:Bool),yO l g k 0 (2*n) k=n:=fun l g=>by
  simp only[yO,show((2*n) % 2).beq 0=true by rw[Nat.mul_mod_right];rfl,cond_true,Nat.mul_div_cancel_left n (show 0<2 by omega)]
 rcases h with⟨h0,⟨rfl,_⟩ | ⟨A,rfl,hA,hg⟩⟩ | ⟨h0,A,e',g,rfl,hA,hg,hn0⟩
 .rfl
 .rcases h' with⟨h0',⟨hv,_⟩ | ⟨A',hv,hA',hg'⟩⟩ | ⟨h0',A',e'',g',hv,hA',hg',_⟩
  .cases hv
  .simp only[AV.slice.injEq]at hv;obtain⟨rfl,_⟩:=hv;simp only[kX,hg,hg',room1 l h0,room1 l' h0']
  .simp only[AV.slice.injEq]at hv;omega
 .rcases h' with⟨h0',⟨hv,_⟩ | ⟨A',hv,hA',hg'⟩⟩ | ⟨h0',A',e'',g',hv,hA',hg',_⟩
  .cases hv
  .simp only[AV.slice.injEq]at hv;omega
  .simp only[AV.slice.injEq]at hv;obtain⟨rfl,_⟩:=hv;simp only[kX,hg,hg',room2]
theorem kJ {H:AH}(hk:H.ok){A o:Nat}{l:List AV}{e:TypeId}{x:AV}(h:H.h.get A=some (.cells l e 1 false))(hx:isCell x=true)(ho:o<l.length):
  ∃H',stN 1 (.ptr A o) x H=some (qZ,H')/\H'.h.get A=some (.cells (l.set o x) e 1 false)/\Stp (fun B=>B=A) H H'/\H'.next=H.next:=
 ⟨_,fH h (by decide) hx ho,by rw[AH.put_get,if_pos rfl],(Stp.refl hk).put (hk.lt h) _ (.inr rfl),rfl⟩
theorem map_take (l:List Str)(k:Nat):(l.map S).take (k*1)=(l.take k).map S:=by simp
theorem map_drop (l:List Str)(k:Nat):(l.map S).drop (k*1)=(l.drop k).map S:=by simp
theorem JK: ∀(l:List Ptr) (k:Nat),(l.flatMap y7).take (k*3)=(l.take k).flatMap y7
 | _,0=>by simp
 | [],k+1=>by simp
 | p::l,k+1=>by
  have ih:=JK l k;rw[show(k+1)*3=k*3+3 from by omega];show((y7 p)++l.flatMap y7).take (k*3+3)=y7 p++(l.take k).flatMap y7;rw[<-ih];rfl
theorem JL: ∀(l:List Ptr) (k:Nat),(l.flatMap y7).drop (k*3)=(l.drop k).flatMap y7
 | _,0=>by simp
 | [],k+1=>by simp
 | p::l,k+1=>by
  have ih:=JL l k;rw[show(k+1)*3=k*3+3 from by omega];show((y7 p)++l.flatMap y7).drop (k*3+3)=(l.drop k).flatMap y7;rw[<-ih];rfl
structure CutI (H0:AH)(A1 A2 A4:Nat)(H:AH)(l1 l2 l4:List AV):Prop where
 prs:Prs H0 H
 a1:H.h.get A1=some (.cells l1 119 1 false)
 a2:H.h.get A2=some (.cells l2 119 1 false)
 a4:H.h.get A4=some (.cells l4 119 1 false)
 o1:H0.next<=A1
 o2:A1<A2
 o4:A2<A4
theorem CutI.lt {H0 H:AH}{A1 A2 A4:Nat}{l1 l2 l4:List AV}(h:CutI H0 A1 A2 A4 H l1 l2 l4):A4<H.next:=h.prs.ok.lt h.a4
theorem CutI.step {H0 H H':AH}{A1 A2 A4:Nat}{l1 l2 l4:List AV}(h:CutI H0 A1 A2 A4 H l1 l2 l4)(s:Prs H H'):CutI H0 A1 A2 A4 H' l1 l2 l4:=
 ⟨h.prs.trans s,s.get h.prs.ok h.a1,s.get h.prs.ok h.a2,s.get h.prs.ok h.a4,h.o1,h.o2,h.o4⟩
theorem CutI.st2 {H0 H:AH}{A1 A2 A4:Nat}{l1 l2 l4:List AV}(h:CutI H0 A1 A2 A4 H l1 l2 l4){o:Nat}{x:AV}(hx:isCell x=true)(ho:o<l2.length):
  ∃H',stN 1 (.ptr A2 o) x H=some (qZ,H')/\CutI H0 A1 A2 A4 H' l1 (l2.set o x) l4/\Stp (fun B=>B=A2) H H':=by
 obtain⟨H',e,g,s,n⟩:=kJ h.prs.ok h.a2 hx ho;have:=h.o1;have:=h.o2;have:=h.o4;have l4:=h.lt;exact⟨H',e,⟨h.prs.fresh s (fun B hB=>by omega),by rw[s.keep _ (by omega) (by omega)];exact h.a1,g,by rw[s.keep _ l4 (by omega)];exact h.a4,h.o1,h.o2,h.o4⟩,s⟩
theorem CutI.st4 {H0 H:AH}{A1 A2 A4:Nat}{l1 l2 l4:List AV}(h:CutI H0 A1 A2 A4 H l1 l2 l4){o:Nat}{x:AV}(hx:isCell x=true)(ho:o<l4.length):
  ∃H',stN 1 (.ptr A4 o) x H=some (qZ,H')/\CutI H0 A1 A2 A4 H' l1 l2 (l4.set o x)/\Stp (fun B=>B=A4) H H':=by
 obtain⟨H',e,g,s,n⟩:=kJ h.prs.ok h.a4 hx ho;have:=h.o1;have:=h.o2;have:=h.o4;have l4:=h.lt;exact⟨H',e,⟨h.prs.fresh s (fun B hB=>by omega),by rw[s.keep _ (by omega) (by omega)];exact h.a1,by rw[s.keep _ (by omega) (by omega)];exact h.a2,g,h.o1,h.o2,h.o4⟩,s⟩
theorem CutI.all2 {H0 H:AH}{A1 A2 A4:Nat}{l1 l2 l4 l':List AV}(h:CutI H0 A1 A2 A4 H l1 l2 l4)(hl:l'.length=l2.length)(hc:qY l'=true):
  ∃H',stN l2.length (.ptr A2 0) (.agg l') H=some (qZ,H')/\CutI H0 A1 A2 A4 H' l1 l' l4/\Stp (fun B=>B=A2) H H':=by
 obtain⟨H',e,g,s,n⟩:=yD h.prs.ok h.a2 hl hc;have:=h.o1;have:=h.o2;have:=h.o4;have l4:=h.lt;exact⟨H',e,⟨h.prs.fresh s (fun B hB=>by omega),by rw[s.keep _ (by omega) (by omega)];exact h.a1,g,by rw[s.keep _ l4 (by omega)];exact h.a4,h.o1,h.o2,h.o4⟩,s⟩
theorem CutI.all4 {H0 H:AH}{A1 A2 A4:Nat}{l1 l2 l4 l':List AV}(h:CutI H0 A1 A2 A4 H l1 l2 l4)(hl:l'.length=l4.length)(hc:qY l'=true):
  ∃H',stN l4.length (.ptr A4 0) (.agg l') H=some (qZ,H')/\CutI H0 A1 A2 A4 H' l1 l2 l'/\Stp (fun B=>B=A4) H H':=by
 obtain⟨H',e,g,s,n⟩:=yD h.prs.ok h.a4 hl hc;have:=h.o1;have:=h.o2;have:=h.o4;have l4:=h.lt;exact⟨H',e,⟨h.prs.fresh s (fun B hB=>by omega),by rw[s.keep _ (by omega) (by omega)];exact h.a1,by rw[s.keep _ (by omega) (by omega)];exact h.a2,g,h.o1,h.o2,h.o4⟩,s⟩
def wN (u:AV)(B:Nat):Prop:= ∃x ks vs ps,u= .agg [x,ks,vs,ps]/\(Blk ks B\/Blk vs B\/Blk ps B)
theorem jK {x ks vs ps:AV}{B:Nat} :wN (.agg [x,ks,vs,ps]) B↔(Blk ks B\/Blk vs B\/Blk ps B):=
 ⟨fun⟨_,_,_,_,e,h⟩=>by simp only[AV.agg.injEq,List.cons.injEq,and_true]at e;obtain⟨rfl,rfl,rfl,rfl⟩:=e;exact h,fun h=>⟨_,_,_,_,rfl,h⟩⟩
def wO (N:Nat)(H:AH)(v:AV)(nd:Nd.Node):Prop:=yK H v nd/\ ∀B,wN v B->N<=B
structure FrG (A k e:Nat)(H:AH)(v:AV)(n:Nat)(l:List AV):Prop where
 g:j9 k e H v n l
 f: ∀B,Blk v B->A<B
theorem FrG.prs {A k e n:Nat}{H H':AH}{v:AV}{l:List AV}(h:FrG A k e H v n l)(s:Prs H H'):FrG A k e H' v n l:=⟨h.g.mono s (fun _ _ x=>x),h.f⟩
theorem FrG.stp {A A' k e n:Nat}{H H':AH}{v:AV}{l:List AV}(h:FrG A k e H v n l)(s:Stp (fun B=>B=A') H H')(hA:A'<=A):FrG A k e H' v n l:=
 ⟨h.g.mono s (fun B hB e=>by have:=h.f B hB;omega),h.f⟩
theorem zOq (l:Str):aveq (S l) (S l)=true:=by simp[S,aveq]
theorem FrG.nil (A k e:Nat)(H:AH):FrG A k e H .nilSlice 0 []:=⟨.inl ⟨by simp, .inl ⟨rfl,rfl⟩⟩,fun B hB=>(Blk.nil.1 hB).elim⟩
theorem FrG.isCell {A k e n:Nat}{H:AH}{v:AV}{l:List AV}(h:FrG A k e H v n l):isCell v=true:=h.g.isCell
theorem FrG.aveq {A k e n:Nat}{H:AH}{v:AV}{l:List AV}(h:FrG A k e H v n l):aveq v v=true:=yN h.g.row
structure FrN (A:Nat)(H:AH)(a b c:AV)(nd:Nd.Node):Prop where
 k:FrG A 1 9 H a nd.keys.length (nd.keys.map S)
 v:FrG A 1 9 H b nd.vals.length (nd.vals.map S)
 p:FrG A 3 42 H c nd.kids.length (nd.kids.flatMap y7)
theorem FrN.stp {A A':Nat}{H H':AH}{a b c:AV}{nd:Nd.Node}(h:FrN A H a b c nd)(s:Stp (fun B=>B=A') H H')(hA:A'<=A):FrN A H' a b c nd:=⟨h.k.stp s hA,h.v.stp s hA,h.p.stp s hA⟩
theorem FrN.fresh {A N:Nat}{H:AH}{x a b c:AV}{nd:Nd.Node}(h:FrN A H a b c nd)(hN:N<=A): ∀B,wN (.agg [x,a,b,c]) B->N<=B:=fun B hB=>by
 rcases jK.1 hB with k | k | k
 .have:=h.k.f B k;omega
 .have:=h.v.f B k;omega
 .have:=h.p.f B k;omega
theorem zHa (D:Dyn)(n:Nat){H0 H:AH}{A1 A2 A4 k:Nat}{b:Bool}{ks vs ps k2 v2 p2 k4 v4 p4:AV}{keys:List Str}{na nb:Nd.Node}
  (h:CutI H0 A1 A2 A4 H [.bool b,ks,vs,ps] [.bool b,k2,v2,p2] [.bool b,k4,v4,p4]) (hks:Strs H ks keys) (hR: ∀B,Blk ks B->B<H0.next) (hk:k<keys.length) (ha:FrN A4 H k2 v2 p2 na) (hb:FrN A4 H k4 v4 p4 nb):
  ∃H',X3 D n [.ptr A1 0, .ptr A2 0, .ptr A4 0, .int .i64 (k:Nat)] H=some (.ret (.tuple [.agg [.bool b,k2,v2,p2],S (keys.getD k []), .agg [.bool b,k4,v4,p4], .int .i64 ((0:Nat):Int)]),H')/\Prs H0 H'/\FrN A4 H' k2 v2 p2 na/\FrN A4 H' k4 v4 p4 nb:=by
 have o1:=h.o1;have o2:=h.o2;have o4:=h.o4;obtain⟨q,q1,q2⟩:=hks.at hk;obtain⟨H1,e1,h1,s1⟩:=h.all2 (l':=[.bool b,k2,v2,p2]) rfl (aY _ _ _ _ ha.k.isCell ha.v.isCell ha.p.isCell);have hks1:Strs H1 ks keys:=Rw.stp hks s1 (fun B hB e=>by have:=hR B hB;omega);obtain⟨q',q1',q2'⟩:=hks1.at hk;obtain rfl:q=q':=by have:=q1 .i64 k rfl;rw[q1' .i64 k rfl]at this;cases this;rfl
 obtain⟨H2,e2,h2,s2⟩:=h1.all4 (l':=[.bool b,k4,v4,p4]) rfl (aY _ _ _ _ hb.k.isCell hb.v.isCell hb.p.isCell);have e1':stN 4 (.ptr A2 0) (.agg [.bool b,k2,v2,p2]) H=some (qZ,H1):=e1;have e2':stN 4 (.ptr A4 0) (.agg [.bool b,k4,v4,p4]) H1=some (qZ,H2):=e2;have hagg:aveq (.agg [.bool b,k4,v4,p4]) (.agg [.bool b,k4,v4,p4])=true:=by simp[Eng.aveq,aX,hb.k.aveq,hb.v.aveq,hb.p.aveq]
 have hg:keys.getD k []=keys[k]:=by rw[zT,zG hk];rfl
 have l4:ldN 4 (.ptr A4 0) H1=some (.agg [.bool b,k4,v4,p4]):=by rw[y6 h1.a4];rfl
 refine⟨H2, ?_,h2.prs,(ha.stp s1 (by omega)).stp s2 (by omega),(hb.stp s1 (by omega)).stp s2 (by omega)⟩;rw[hg];simp(disch:=omega) only[X3,eZ,y6 h.a2,y6 h.a4,qV h.a1,q1,q2,e1',e2',yV (qV h1.a1 1) (yN hks),yV q2' (zOq _),yV l4 hagg,y6 h2.a2,y6 h2.a4,hJ,Option.map_some]
theorem zFW (D:Dyn)(n:Nat){H:AH}(hk:H.ok){v:AV}{l:List Str}(h:j9 1 9 H v l.length (l.map S))(hl:l.length<=1000000000){i:Nat}(h0:0<i)(hi:i<=l.length)(A:Nat)(hA:A<H.next):
  ∃r v' H',kX 1 v none (some (.int .i64 (i:Nat))) (some (.int .i64 (i:Nat))) H=some r/\f108 D n [r] H=some (v',H')/\Prs H H'/\FrG A 1 9 H' v' (l.take i).length ((l.take i).map S):=by
 obtain⟨r,e1,w,hz⟩:=V8 h (by decide) hi .i64 .i64;rw[map_take]at w;have hlen:(l.take i).length=i:=by rw[zQ];omega
 have w':Strs H r (l.take i):=by rw[Strs,hlen];exact w
 obtain⟨v',H',e2,p,g,f⟩:=K5 D n hk w' (hz h0).1 (hz h0).2 (by omega);exact⟨r,v',H',e1,e2,p,g,fun B hB=>by have:=f B hB;omega⟩
theorem zFJ (D:Dyn)(n:Nat){H:AH}(hk:H.ok){v:AV}{l:List Str}(h:j9 1 9 H v l.length (l.map S))(hl:l.length<=1000000000){i:Nat}(hi:i<l.length)(A:Nat)(hA:A<H.next):
  ∃r v' H',aveq r r=true/\kX 1 v (some (.int .i64 (i:Nat))) none none H=some r/\f108 D n [r] H=some (v',H')/\Prs H H'/\FrG A 1 9 H' v' (l.drop i).length ((l.drop i).map S):=by
 obtain⟨r,e1,w,z1,z2⟩:=ZF h (by decide) hi .i64;rw[map_drop]at w;have hlen:(l.drop i).length=l.length - i:=by rw[zU]
 have w':Strs H r (l.drop i):=by rw[Strs,hlen];exact w
 obtain⟨v',H',e2,p,g,f⟩:=K5 D n hk w' z1 z2 (by omega);exact⟨r,v',H',yN w,e1,e2,p,g,fun B hB=>by have:=f B hB;omega⟩
theorem zNV (D:Dyn)(n:Nat){H:AH}(hk:H.ok){v:AV}{l:List Ptr}(h:j9 3 42 H v l.length (l.flatMap y7))(hl:l.length<=1000000000){i:Nat}(h0:0<i)(hi:i<=l.length)(A:Nat)(hA:A<H.next):
  ∃r v' H',kX 3 v none (some (.int .i64 (i:Nat))) (some (.int .i64 (i:Nat))) H=some r/\f81 D n [r] H=some (v',H')/\Prs H H'/\FrG A 3 42 H' v' (l.take i).length ((l.take i).flatMap y7):=by
 obtain⟨r,e1,w,hz⟩:=V8 h (by decide) hi .i64 .i64;rw[JK]at w;have hlen:(l.take i).length=i:=by rw[zQ];omega
 have w':xV H r (l.take i):=by rw[xV,hlen];exact w
 obtain⟨v',H',e2,p,g,f⟩:=zAO D n hk w' (hz h0).1 (hz h0).2 (by omega);exact⟨r,v',H',e1,e2,p,g,fun B hB=>by have:=f B hB;omega⟩
theorem zNG (D:Dyn)(n:Nat){H:AH}(hk:H.ok){v:AV}{l:List Ptr}(h:j9 3 42 H v l.length (l.flatMap y7))(hl:l.length<=1000000000){i:Nat}(hi:i<l.length)(A:Nat)(hA:A<H.next):
  ∃r v' H',aveq r r=true/\kX 3 v (some (.int .i64 (i:Nat))) none none H=some r/\f81 D n [r] H=some (v',H')/\Prs H H'/\FrG A 3 42 H' v' (l.drop i).length ((l.drop i).flatMap y7):=by
 obtain⟨r,e1,w,z1,z2⟩:=ZF h (by decide) hi .i64;rw[JL]at w;have hlen:(l.drop i).length=l.length - i:=by rw[zU]
 have w':xV H r (l.drop i):=by rw[xV,hlen];exact w
 obtain⟨v',H',e2,p,g,f⟩:=zAO D n hk w' z1 z2 (by omega);exact⟨r,v',H',yN w,e1,e2,p,g,fun B hB=>by have:=f B hB;omega⟩
theorem zC4 (D:Dyn)(n:Nat)(hn:200000000<=n){H:AH}(hk:H.ok){b:Bool}{ks vs ps:AV}{nd:Nd.Node}(hb:nd.leaf=b)(h:uF H (.agg [.bool b,ks,vs,ps]) nd)(hs:small nd):
  ∃H1 H2 H3 H4 A1 A2 A4,(∀K,bA (some (AObj.cells [.bool b,ks,vs,ps] 119 1 false,fun A=>AV.ptr A 0)) H K=K (.ptr A1 0) H1)/\(∀K,bA (some (AObj.cells [.bool false, .nilSlice, .nilSlice, .nilSlice] 119 1 false,fun A=>AV.ptr A 0)) H1 K=K (.ptr A2 0) H2)/\
   (∀K,bA (some (AObj.cells [.bool false, .nilSlice, .nilSlice, .nilSlice] 119 1 false,fun A=>AV.ptr A 0)) H2 K=K (.ptr A4 0) H3)/\f109 D n [.agg [.bool b,ks,vs,ps]] H3=some (.bool (Nd.shaped ltS nd),H4)/\
   CutI H A1 A2 A4 H3 [.bool b,ks,vs,ps] [.bool false, .nilSlice, .nilSlice, .nilSlice] [.bool false, .nilSlice, .nilSlice, .nilSlice]/\CutI H A1 A2 A4 H4 [.bool b,ks,vs,ps] [.bool false, .nilSlice, .nilSlice, .nilSlice] [.bool false, .nilSlice, .nilSlice, .nilSlice]:=by
 have p1:Prs H (H.push (.cells [.bool b,ks,vs,ps] 119 1 false)):=(Stp.refl hk).push _;have g1:(H.push (.cells [.bool b,ks,vs,ps] 119 1 false)).h.get H.next=some (.cells [.bool b,ks,vs,ps] 119 1 false):=AH.push_get_eq _ _
 have n1:(H.push (.cells [.bool b,ks,vs,ps] 119 1 false)).next=H.next+1:=rfl
 generalize hH1:H.push (.cells [.bool b,ks,vs,ps] 119 1 false)=H1 at p1 g1 n1;have p2:Prs H1 (H1.push (.cells [.bool false, .nilSlice, .nilSlice, .nilSlice] 119 1 false)):=(Stp.refl p1.ok).push _;have g2:(H1.push (.cells [.bool false, .nilSlice, .nilSlice, .nilSlice] 119 1 false)).h.get H1.next=some (.cells [.bool false, .nilSlice, .nilSlice, .nilSlice] 119 1 false):=AH.push_get_eq _ _
 have n2:(H1.push (.cells [.bool false, .nilSlice, .nilSlice, .nilSlice] 119 1 false)).next=H1.next+1:=rfl
 have g12:=p2.get p1.ok g1;generalize hH2:H1.push (.cells [.bool false, .nilSlice, .nilSlice, .nilSlice] 119 1 false)=H2 at p2 g2 n2 g12;have p3:Prs H2 (H2.push (.cells [.bool false, .nilSlice, .nilSlice, .nilSlice] 119 1 false)):=(Stp.refl p2.ok).push _;have g3:(H2.push (.cells [.bool false, .nilSlice, .nilSlice, .nilSlice] 119 1 false)).h.get H2.next=some (.cells [.bool false, .nilSlice, .nilSlice, .nilSlice] 119 1 false):=AH.push_get_eq _ _
 have g13:=p3.get p2.ok g12;have g23:=p3.get p2.ok g2;generalize hH3:H2.push (.cells [.bool false, .nilSlice, .nilSlice, .nilSlice] 119 1 false)=H3 at p3 g3 g13 g23;have P3:Prs H H3:=(p1.trans p2).trans p3;obtain⟨H4,e4,p4⟩:=vE D n p3.ok (h.prs P3) hs hn;have c3:CutI H H.next H1.next H2.next H3 [.bool b,ks,vs,ps] [.bool false, .nilSlice, .nilSlice, .nilSlice] [.bool false, .nilSlice, .nilSlice, .nilSlice]:=⟨P3,g13,g23,g3,by omega,by omega,by omega⟩
 refine⟨H1,H2,H3,H4,H.next,H1.next,H2.next,fun K=> ?_,fun K=> ?_,fun K=> ?_,e4,c3,c3.step p4⟩
 .simp only[eZ,yR hk,hH1]
 .simp only[eZ,yR p1.ok,hH2]
 .simp only[eZ,yR p2.ok,hH3]
theorem zMn (D:Dyn)(n:Nat)(hn:200000000<=n){H:AH}(hk:H.ok){v:AV}{nd:Nd.Node}(h:yK H v nd)(hs:small nd)(hsh:Nd.shaped ltS nd=true)(hc:vS nd)(hl:nd.leaf=true):
  ∃k va vb H',f213 D n [v] H=some (.tuple [va,S (nd.keys.getD k []),vb, .int .i64 ((0:Nat):Int)],H')/\Prs H H'/\wO H.next H' va (cutA nd k)/\wO H.next H' vb (cB nd k)/\cutOk nd k/\hbnd nd k:=by
 have h0:=h.node;obtain⟨ks,vs,ps,rfl,h1,h2,h3⟩:=h;rw[hl]at h0;have hkl:=Nd.sumL_ge nd.keys;have hvl:nd.vals.length=nd.keys.length:=by
  simp only[Nd.shaped,hl,if_true,zE,zJ]at hsh;exact hsh.2.1.1
 obtain⟨s1,s2,s3⟩:=id hs;obtain⟨c1,c2⟩:=id hc;obtain⟨H1,H2,H3,H4,A1,A2,A4,b1,b2,b3,e4,i3,i4⟩:=zC4 D n hn hk hl h0 hs;obtain⟨k,H5,e5,p5,⟨k1,k2⟩,kb⟩:=zFY D n hn i4.prs.ok (h0.prs i4.prs) hs hsh hc;simp only[hl,if_true]at k2;have i5:=i4.step p5;obtain⟨H6,e6,i6,t6⟩:=i5.st2 (o:=0) (x:= .bool true) rfl (by simp);obtain⟨H7,e7,i7,t7⟩:=i6.st4 (o:=0) (x:= .bool true) rfl (by simp);have m {H':AH} (p:Prs H H'):=h1.mono p (fun _ _ x=>x);have m2 {H':AH} (p:Prs H H'):=h2.mono p (fun _ _ x=>x);obtain⟨r8,k8,H8,c8,e8,p8,f8⟩:=zFW D n i7.prs.ok (m i7.prs) (by omega) k1 (by omega) A4 i7.lt;have i8:=i7.step p8;obtain⟨H9,e9,i9,t9⟩:=i8.st2 (o:=1) (x:=k8) f8.isCell (by simp);have f9:=f8.stp t9 (by have:=i8.o4;omega);obtain⟨r10,k10,H10,_,c10,e10,p10,f10⟩:=zFJ D n i9.prs.ok (m i9.prs) (by omega) (show k< _ by omega) A4 i9.lt;have i10:=i9.step p10;obtain⟨H11,e11,i11,t11⟩:=i10.st4 (o:=1) (x:=k10) f10.isCell (by simp);have f11:=f10.stp t11 (by omega);obtain⟨r12,k12,H12,c12,e12,p12,f12⟩:=zFW D n i11.prs.ok (m2 i11.prs) (by omega) k1 (by omega) A4 i11.lt;have i12:=i11.step p12;obtain⟨r13,k13,H13,q13,c13,e13,p13,f13⟩:=zFJ D n i12.prs.ok (m2 i12.prs) (by omega) (show k< _ by omega) A4 i12.lt;have c13':kX 1 vs (some (.int .i64 (k:Nat))) none none H11=some r13:=by rw[xD (m2 i12.prs) (m2 i11.prs) (by decide)];exact c13
 have i13:=i12.step p13;obtain⟨H14,e14,i14,t14⟩:=i13.st2 (o:=2) (x:=k12) f12.isCell (by simp);obtain⟨H15,e15,i15,t15⟩:=i14.st4 (o:=2) (x:=k13) f13.isCell (by simp);have o4:=i15.o4;have h24:=i15.o1;have h12:=i15.o2;have F8:FrG A4 1 9 H15 k8 _ _:=(((((f9.prs p10).stp t11 (by omega)).prs p12).prs p13).stp t14 (by omega)).stp t15 (by omega);have F10:FrG A4 1 9 H15 k10 _ _:=(((f11.prs p12).prs p13).stp t14 (by omega)).stp t15 (by omega);have F12:FrG A4 1 9 H15 k12 _ _:=((f12.prs p13).stp t14 (by omega)).stp t15 (by omega);have F13:FrG A4 1 9 H15 k13 _ _:=(f13.stp t14 (by omega)).stp t15 (by omega);have na:FrN A4 H15 k8 k12 .nilSlice (cutA nd k):=by
  simp only[cutA,hl,if_true];exact⟨F8,F12,FrG.nil ..⟩
 have nb:FrN A4 H15 k10 k13 .nilSlice (cB nd k):=by
  simp only[cB,hl,if_true];exact⟨F10,F13,FrG.nil ..⟩
 obtain⟨H16,e16,P,fa,fb⟩:=zHa D n i15 ((m i15.prs).row) (fun B hB=>h1.lt hB) (show k<nd.keys.length by omega) na nb;refine⟨k, .agg [.bool true,k8,k12, .nilSlice], .agg [.bool true,k10,k13, .nilSlice],H16, ?_,P, ?_, ?_,⟨k1,by rw[hl];simp only[if_true];omega⟩,kb⟩
 .have t2: ¬((nd.keys.length:Nat):Int)< ((2:Nat):Int):=by omega
  simp(maxSteps:=999999)(disch:=omega) only[f213,eZ,hl,b1,b2,b3,y6 i3.a1,y6 i4.a1,hJ,Option.map_some,e4,hsh,qV i4.a1,h1.row.lnSl,t2,e5,qV i5.a1,e6,yV (qV i6.a1 0) (zB2 _),e7,qV i7.a1,c8,e8,e9,qV i9.a1,c10,e10,e11,qV i11.a1,c12,c13',e12,yV (qV i12.a1 2) (yN h2.row),yV c13 q13,e13,e14,e15,e16]
 .exact⟨⟨k8,k12, .nilSlice,by simp only[cutA,hl,if_true],fa.k.g,fa.v.g,fa.p.g⟩,fa.fresh (by omega)⟩
 .exact⟨⟨k10,k13, .nilSlice,by simp only[cB,hl,if_true],fb.k.g,fb.v.g,fb.p.g⟩,fb.fresh (by omega)⟩
theorem zJi (D:Dyn)(n:Nat)(hn:200000000<=n){H:AH}(hk:H.ok){v:AV}{nd:Nd.Node}(h:yK H v nd)(hs:small nd)(hsh:Nd.shaped ltS nd=true)(hc:vS nd)(hl:nd.leaf=false):
  ∃k va vb H',f213 D n [v] H=some (.tuple [va,S (nd.keys.getD k []),vb, .int .i64 ((0:Nat):Int)],H')/\Prs H H'/\wO H.next H' va (cutA nd k)/\wO H.next H' vb (cB nd k)/\cutOk nd k/\hbnd nd k:=by
 have h0:=h.node;obtain⟨ks,vs,ps,rfl,h1,h2,h3⟩:=h;rw[hl]at h0;have hkl:=Nd.sumL_ge nd.keys;have hpl:nd.kids.length=nd.keys.length+1:=by
  simp only[Nd.shaped,hl,Bool.false_eq_true,if_false,zE,zJ]at hsh;exact hsh.2.1.2
 obtain⟨s1,s2,s3⟩:=id hs;obtain⟨c1,c2⟩:=id hc;obtain⟨H1,H2,H3,H4,A1,A2,A4,b1,b2,b3,e4,i3,i4⟩:=zC4 D n hn hk hl h0 hs;obtain⟨k,H5,e5,p5,⟨k1,k2⟩,kb⟩:=zFY D n hn i4.prs.ok (h0.prs i4.prs) hs hsh hc;simp only[hl,Bool.false_eq_true,if_false]at k2;have i5:=i4.step p5;obtain⟨H6,e6,i6,t6⟩:=i5.st2 (o:=0) (x:= .bool false) rfl (by simp);obtain⟨H7,e7,i7,t7⟩:=i6.st4 (o:=0) (x:= .bool false) rfl (by simp);have m {H':AH} (p:Prs H H'):=h1.mono p (fun _ _ x=>x);have m2 {H':AH} (p:Prs H H'):=h3.mono p (fun _ _ x=>x);obtain⟨r8,k8,H8,c8,e8,p8,f8⟩:=zFW D n i7.prs.ok (m i7.prs) (by omega) k1 (by omega) A4 i7.lt;have i8:=i7.step p8;obtain⟨H9,e9,i9,t9⟩:=i8.st2 (o:=1) (x:=k8) f8.isCell (by simp);have f9:=f8.stp t9 (by have:=i8.o4;omega);obtain⟨r10,k10,H10,_,c10,e10,p10,f10⟩:=zFJ D n i9.prs.ok (m i9.prs) (by omega) (show k+1< _ by omega) A4 i9.lt;have i10:=i9.step p10;obtain⟨H11,e11,i11,t11⟩:=i10.st4 (o:=1) (x:=k10) f10.isCell (by simp);have f11:=f10.stp t11 (by omega);obtain⟨r12,k12,H12,c12,e12,p12,f12⟩:=zNV D n i11.prs.ok (m2 i11.prs) (by omega) (show 0<k+1 by omega) (by omega) A4 i11.lt;have i12:=i11.step p12;obtain⟨r13,k13,H13,q13,c13,e13,p13,f13⟩:=zNG D n i12.prs.ok (m2 i12.prs) (by omega) (show k+1< _ by omega) A4 i12.lt;have c13':kX 3 ps (some (.int .i64 ((k+1:Nat):Int))) none none H11=some r13:=by rw[xD (m2 i12.prs) (m2 i11.prs) (by decide)];exact c13
 have i13:=i12.step p13;obtain⟨H14,e14,i14,t14⟩:=i13.st2 (o:=3) (x:=k12) f12.isCell (by simp);obtain⟨H15,e15,i15,t15⟩:=i14.st4 (o:=3) (x:=k13) f13.isCell (by simp);simp only[Int.natCast_add]at c10 c12 c13 c13';have o4:=i15.o4;have h24:=i15.o1;have h12:=i15.o2;have F8:FrG A4 1 9 H15 k8 _ _:=(((((f9.prs p10).stp t11 (by omega)).prs p12).prs p13).stp t14 (by omega)).stp t15 (by omega);have F10:FrG A4 1 9 H15 k10 _ _:=(((f11.prs p12).prs p13).stp t14 (by omega)).stp t15 (by omega);have F12:FrG A4 3 42 H15 k12 _ _:=((f12.prs p13).stp t14 (by omega)).stp t15 (by omega);have F13:FrG A4 3 42 H15 k13 _ _:=(f13.stp t14 (by omega)).stp t15 (by omega);have na:FrN A4 H15 k8 .nilSlice k12 (cutA nd k):=by
  simp only[cutA,hl,Bool.false_eq_true,if_false];exact⟨F8,FrG.nil ..,F12⟩
 have nb:FrN A4 H15 k10 .nilSlice k13 (cB nd k):=by
  simp only[cB,hl,Bool.false_eq_true,if_false];exact⟨F10,FrG.nil ..,F13⟩
 obtain⟨H16,e16,P,fa,fb⟩:=zHa D n i15 ((m i15.prs).row) (fun B hB=>h1.lt hB) (show k<nd.keys.length by omega) na nb;refine⟨k, .agg [.bool false,k8, .nilSlice,k12], .agg [.bool false,k10, .nilSlice,k13],H16, ?_,P, ?_, ?_,⟨k1,by rw[hl];simp only[Bool.false_eq_true,if_false];omega⟩,kb⟩
 .have t2: ¬((nd.keys.length:Nat):Int)< ((2:Nat):Int):=by omega
  have t3: ¬((nd.keys.length:Nat):Int)< ((3:Nat):Int):=by omega
  simp(maxSteps:=999999)(disch:=omega) only[f213,eZ,hl,b1,b2,b3,y6 i3.a1,y6 i4.a1,hJ,Option.map_some,e4,hsh,qV i4.a1,h1.row.lnSl,t2,t3,e5,qV i5.a1,e6,yV (qV i6.a1 0) (zB2 _),e7,qV i7.a1,c8,e8,e9,qV i9.a1,c10,e10,e11,qV i11.a1,c12,c13',e12,yV (qV i12.a1 3) (yN h3.row),yV c13 q13,e13,e14,e15,e16]
 .exact⟨⟨k8, .nilSlice,k12,by simp only[cutA,hl,Bool.false_eq_true,if_false],fa.k.g,fa.v.g,fa.p.g⟩,fa.fresh (by omega)⟩
 .exact⟨⟨k10, .nilSlice,k13,by simp only[cB,hl,Bool.false_eq_true,if_false],fb.k.g,fb.v.g,fb.p.g⟩,fb.fresh (by omega)⟩
end Go.Eng.Sh
end
section
namespace Go.Eng
namespace T
variable {α:Type}
noncomputable def st (t:T α)(n:Nat)(a:α):T α:=(T.set 40 t n a).getD .leaf
end T
theorem Stp.ld1 {S:Nat->Prop}{H H':AH}(s:Stp S H H'){A:Nat}(o:Nat)(h:A<H.next)(hS: ¬S A):Eng.ld1 (.ptr A o) H'=Eng.ld1 (.ptr A o) H:=by simp only[Eng.ld1,s.keep A h hS]
theorem Stp.ldN {S:Nat->Prop}{H H':AH}(s:Stp S H H'){A:Nat}(o n:Nat)(h:A<H.next)(hS: ¬S A):Eng.ldN n (.ptr A o) H'=Eng.ldN n (.ptr A o) H:=by simp only[Eng.ldN,s.keep A h hS]
theorem Prs.l1 {H H':AH}(s:Prs H H')(A:Nat)(o:Nat)(h:A<H.next):Eng.ld1 (.ptr A o) H'=Eng.ld1 (.ptr A o) H:=s.ld1 o h (fun x=>x)
theorem Prs.b1 {H H':AH}{l:List AV}{e sz:Nat}{g:Bool}(s:Prs (H.push (.cells l e sz g)) H')(o:Nat):Eng.ld1 (.ptr H.next o) H'=l[o]? :=by
 rw[s.l1 _ _ (by rw[AH.push_next];omega),Y3]
theorem Prs.refl {H:AH}(h:H.ok):Prs H H:=Stp.refl h
def Rws (k:Nat)(H:AH):List AV->List (Nat×List AV)->Prop
 | [],[]=>True
 | v::vs,r::rs=>(Rw k H v r.1 r.2/\qY r.2=true)/\Rws k H vs rs
 | _,_=>False
theorem Rws.len {k:Nat}{H:AH} : ∀ {vs:List AV} {rs:List (Nat×List AV)},Rws k H vs rs->vs.length=rs.length
 | [],[],_=>rfl
 | _::vs,_::rs,h=>by simp only[zP,Rws.len h.2]
 | [],_::_,h=>h.elim
 | _::_,[],h=>h.elim
theorem Rws.at {k:Nat}{H:AH} : ∀ {vs:List AV} {rs:List (Nat×List AV)} {i:Nat} {x:AV},Rws k H vs rs->vs[i]? =some x-> ∃r,rs[i]? =some r/\Rw k H x r.1 r.2/\qY r.2=true
 | [],[],_,_,_,h=>by simp at h
 | _::vs,r::rs,0,x,h,hx=>by simp only[List.getElem?_cons_zero,zC]at hx;subst hx;exact⟨r,rfl,h.1⟩
 | _::vs,_::rs,i+1,x,h,hx=>by simp only[List.getElem?_cons_succ]at hx⊢;exact Rws.at h.2 hx
 | [],_::_,_,_,h,_=>h.elim
 | _::_,[],_,_,h,_=>h.elim
theorem Rws.prs {k:Nat}{H H':AH}(s:Prs H H'): ∀ {vs:List AV} {rs:List (Nat×List AV)},Rws k H vs rs->Rws k H' vs rs
 | [],[],_=>trivial
 | _::vs,_::rs,h=>⟨⟨h.1.1.prs s,h.1.2⟩,Rws.prs s h.2⟩
 | [],_::_,h=>h.elim
 | _::_,[],h=>h.elim
def u0 (rs:List (Nat×List AV)):Nat:=(rs.map Prod.fst).sum
def zE8 (rs:List (Nat×List AV)):List AV:=rs.flatMap Prod.snd
theorem cK {rs:List (Nat×List AV)}{i:Nat}{r:Nat×List AV}(h:rs[i]? =some r):u0 (rs.take (i+1))=u0 (rs.take i)+r.1:=by
 obtain⟨hi,rfl⟩:=List.getElem?_eq_some_iff.1 h;rw[zV hi];simp only[u0,List.map_append,List.sum_append,List.map_cons,List.map_nil,List.sum_cons,List.sum_nil,Nat.add_zero]
theorem zAY {rs:List (Nat×List AV)}{i:Nat}{r:Nat×List AV}(h:rs[i]? =some r):zE8 (rs.take (i+1))=zE8 (rs.take i)++r.2:=by
 obtain⟨hi,rfl⟩:=List.getElem?_eq_some_iff.1 h;rw[zV hi];simp only[zE8,qL,zZ,List.flatMap_nil,List.append_nil]
theorem ZC (rs:List (Nat×List AV))(i:Nat):u0 (rs.take i)<=u0 rs:=by
 have:rs=rs.take i++rs.drop i:=(List.take_append_drop i rs).symm
 conv=>rhs;rw[this]
 simp only[u0,List.map_append,List.sum_append];omega
def Part (k e:Nat)(H:AH)(v:AV)(n:Nat)(l:List AV)(tot:Nat):Prop:=
 (tot=0/\v= .nilSlice/\n=0/\l=[])\/ ∃A rest,v= .slice A 0 n 1/\A<H.next/\H.h.get A=some (.cells (l++rest) e k true)/\l.length=n*k/\rest.length=(tot - n)*k/\n<=tot
theorem Part.own {k e:Nat}{H:AH}{v:AV}{n:Nat}{l:List AV}(h:Part k e H v n l n):Own k e H v n l:=by
 rcases h with⟨rfl,rfl,_,rfl⟩ | ⟨A,rest,rfl,hA,hg,hl,hr,_⟩
 .exact Own.nil _ _ _
 .have:rest=[]:=zL (by rw[hr,Nat.sub_self,Nat.zero_mul]);subst this;rw[List.append_nil]at hg;exact⟨hl, .inr ⟨A,rfl,hA,hg⟩⟩
theorem Part.app {k e bytes:Nat}{H:AH}{v s:AV}{n m tot:Nat}{l new:List AV}(hk:H.ok)(hpos:0<k)(h:Part k e H v n l tot)(hs:srcOf k s H=some (m,new))(hm:new.length=m*k)(hc:qY new=true)(hle:n+m<=tot):
  ∃v' H',apP e k bytes v s H=some (v',H')/\Part k e H' v' (n+m) (l++new) tot/\Stp (Blk v) H H'/\H'.next=H.next/\ ∀B,Blk v' B->Blk v B:=by
 rcases h with⟨rfl,rfl,rfl,rfl⟩ | ⟨A,rest,rfl,hA,hg,hl,hr,hn⟩
 .obtain rfl:m=0:=by omega
  have:new=[]:=zL (by simpa using hm);subst this;exact⟨.nilSlice,H,by simp[apP,hs,hc,app1], .inl ⟨rfl,rfl,rfl,rfl⟩,Stp.refl hk,rfl,fun _ x=>x⟩
 .have hlen:(l++rest).length=tot*k:=by rw[zM,hl,hr,<-Nat.add_mul];congr 1;omega
  have hroom:yO (l++rest) true k 0 1 k=tot:=by
   simp only[yO,show((1 % 2).beq 0)=false from rfl,cond_false,Nat.beq_refl,show Nat.beq 0 (1 / 2*k)=true from by simp,Bool.and_self,cond_true,yE,hlen,Nat.sub_zero];exact Nat.mul_div_cancel _ hpos
  have b1:Nat.ble (n+m) tot=true:=by rw[qA];exact hle
  have hz:Nat.blt 0 k=true:=by rw[zR];exact hpos
  have hmr:m*k<=rest.length:=by rw[hr];exact qH _ (by omega)
  have hset:setAt (l++rest) (0+n*k) new=some (l++new++rest.drop (m*k)):=by
   rw[jZ (by rw[hlen,hm,Nat.zero_add,<-Nat.add_mul];exact qH _ hle),Nat.zero_add,hm];congr 1;rw[List.take_append_of_le_length (by omega),zO (by omega),List.drop_append,<-hl,List.drop_of_length_le (by omega),List.nil_append];congr 2;omega
  refine⟨.slice A 0 (n+m) 1,H.put A (.cells (l++new++rest.drop (m*k)) e k true), ?_, .inr ⟨A,rest.drop (m*k),rfl,hA,by rw[AH.put_get,if_pos rfl],by rw[zM,hl,hm,Nat.add_mul],by rw[zU,hr,<-Nat.sub_mul];congr 1;omega,hle⟩,(Stp.refl hk).put hA _ (.inr (Blk.slice.2 rfl)),rfl,fun B hB=>Blk.slice.2 (Blk.slice.1 hB)⟩;simp only[apP,hs,hc,cond_true,app1,hg,zEg,hroom,b1,hz,hset,zB6,yX,yG]
theorem Part.stp {k e:Nat}{S:Nat->Prop}{H H':AH}{v:AV}{n tot:Nat}{l:List AV}(h:Part k e H v n l tot)(s:Stp S H H')(hS: ∀A,Blk v A-> ¬S A):Part k e H' v n l tot:=by
 rcases h with h | ⟨A,rest,rfl,hA,hg,hr⟩
 .exact .inl h
 .exact .inr ⟨A,rest,rfl,zY hA s.next,by rw[s.keep A hA (hS A (Blk.slice.2 rfl))];exact hg,hr⟩
theorem zF5 (z:AV): ∀m:Nat,(rep m [z]).length=m
 | 0=>rfl
 | m+1=>by simp[rep,zF5 z m]
theorem zCu (a b c:AV): ∀m:Nat,(rep m [a,b,c]).length=m*3
 | 0=>rfl
 | m+1=>by simp only[rep,zM,zCu a b c m,zP,qI];omega
theorem zKg {k e bytes m:Nat}{H:AH}{z:List AV}(hk:H.ok)(hpos:0<k)(hz:(rep m z).length=m*k)(hm0:0<m)(hm:m<=1000000000)(hb:bytes<=1000):
  apZ e k bytes z .nilSlice (.int .i64 ((m:Nat):Int)) H=some (.slice H.next 0 m 1,H.push (.cells (rep m z) e k true))/\
  kX k (.slice H.next 0 m 1) none (some (.int .i64 ((0:Nat):Int))) none (H.push (.cells (rep m z) e k true))=some (.slice H.next 0 0 1)/\
  Part k e (H.push (.cells (rep m z) e k true)) (.slice H.next 0 0 1) 0 [] m:=by
 have b1:Nat.ble (m*bytes) 281474976710656=true:=by
  rw[qA];exact Nat.le_trans (Nat.mul_le_mul hm hb) (by decide)
 have b2:Nat.blt m 4611686018427387904=true:=by rw[zR];omega
 have b3:Nat.beq m 0=false:=by rw[Bool.eq_false_iff];intro h;have:=Nat.eq_of_beq_eq_true h;omega
 have hroom:yO (rep m z) true k 0 1 k=m:=by
  simp only[yO,show((1 % 2).beq 0)=false from rfl,cond_false,Nat.beq_refl,show Nat.beq 0 (1 / 2*k)=true from by simp,Bool.and_self,cond_true,yE,hz,Nat.sub_zero];exact Nat.mul_div_cancel _ hpos
 have hb':Nat.blt 0 k=true:=by rw[zR];exact hpos
 refine⟨?_, ?_, .inr ⟨H.next,rep m z,rfl,Nat.lt_succ_self _,AH.push_get_eq _ _,by simp,by simpa using hz,by omega⟩⟩
 .show apZ e k bytes z .nilSlice (.int .i64 (Int.ofNat m)) H=_;simp only[apZ,b1,b2,Bool.and_self,cond_true,app1,show m.beq 0=false from b3,cond_false,wL,gL hm hb,fG,List.nil_append,dH hk,yG]
 .have n0:=yM .i64 (z:=((0:Nat):Int)) (by omega);simp only[kX,yT,n0,AH.push_get_eq,hb',cond_true];simp[QY,hroom,yG,show Nat.ble 0 m=true from by rw[qA];omega,show Nat.ble 0 0=true from rfl,show Nat.beq 1 0=false from rfl]
end Go.Eng
namespace Go.Eng.Sh
open Go.Nd (Ptr sumL cutOk cutA cB)
theorem zIR (D:Dyn)(n m:Nat)(hm:m<=1000000000){H:AH}(hk:H.ok):
  ∃v H',f180 D n [.nilSlice, .int .i64 (m:Nat)] H=some (v,H')/\Prs H H'/\Part 1 9 H' v 0 [] m/\ ∀B,Blk v B->H.next<=B:=by
 have hcap:zMB X 117 .nilSlice=some (.int .i64 ((0:Nat):Int)):=rfl;have hln:lnSl .nilSlice=some (.int .i64 ((0:Nat):Int)):=rfl;have hs:kX 1 .nilSlice none (some (.int .i64 ((0:Nat):Int))) none H=some .nilSlice:=rfl;have h0: ¬((m:Nat):Int)< ((0:Nat):Int):=by omega
 by_cases hp:m=0
 .subst hp;refine⟨.nilSlice,H, ?_,Stp.refl hk, .inl ⟨rfl,rfl,rfl,rfl⟩,fun B hB=>(Blk.nil.1 hB).elim⟩;simp(disch:=omega) only[f180,X4,JU,eZ,h0,hcap,hln,Int.sub_zero,qJ,Int.sub_self]
 .obtain⟨e1,e2,p⟩:=zKg (k:=1) (e:=9) (bytes:=16) (m:=m) (z:=[.str 0 0]) hk (by decide) (by rw[zF5];omega) (by omega) hm (by decide);have hsub:((m:Nat):Int) - (((0:Nat):Int) - ((0:Nat):Int))=((m:Nat):Int):=by omega
  have hpI:((0:Nat):Int)< ((m:Nat):Int):=by omega
  refine⟨_,_, ?_,(Stp.refl hk).push _,p,fun B hB=>by rw[Blk.slice.1 hB];exact Nat.le_refl _⟩;simp(disch:=omega) only[f180,X4,JU,eZ,h0,hcap,hln,hs,hsub,hpI,e1,e2]
theorem zIS (D:Dyn)(n m:Nat)(hm:m<=1000000000){H:AH}(hk:H.ok):
  ∃v H',f214 D n [.nilSlice, .int .i64 (m:Nat)] H=some (v,H')/\Prs H H'/\Part 3 42 H' v 0 [] m/\ ∀B,Blk v B->H.next<=B:=by
 have hcap:zMB X 50 .nilSlice=some (.int .i64 ((0:Nat):Int)):=rfl;have hln:lnSl .nilSlice=some (.int .i64 ((0:Nat):Int)):=rfl;have hs:kX 3 .nilSlice none (some (.int .i64 ((0:Nat):Int))) none H=some .nilSlice:=rfl;have h0: ¬((m:Nat):Int)< ((0:Nat):Int):=by omega
 by_cases hp:m=0
 .subst hp;refine⟨.nilSlice,H, ?_,Stp.refl hk, .inl ⟨rfl,rfl,rfl,rfl⟩,fun B hB=>(Blk.nil.1 hB).elim⟩;simp(disch:=omega) only[f214,X2,JT,eZ,h0,hcap,hln,Int.sub_zero,qJ,Int.sub_self]
 .obtain⟨e1,e2,p⟩:=zKg (k:=3) (e:=42) (bytes:=24) (m:=m) (z:=[.int .i64 (.ofNat 0), .int .i64 (.ofNat 0), .int .u64 (.ofNat 0)]) hk (by decide) (by rw[zCu]) (by omega) hm (by decide);have hsub:((m:Nat):Int) - (((0:Nat):Int) - ((0:Nat):Int))=((m:Nat):Int):=by omega
  have hpI:((0:Nat):Int)< ((m:Nat):Int):=by omega
  refine⟨_,_, ?_,(Stp.refl hk).push _,p,fun B hB=>by rw[Blk.slice.1 hB];exact Nat.le_refl _⟩;simp only[Int.ofNat_eq_natCast]at e1 e2;simp(disch:=omega) only[f214,X2,JT,eZ,h0,hcap,hln,hs,hsub,hpI,e1,e2]
theorem catS1 (D:Dyn)(n:Nat){H:AH}{v:AV}{vs:List AV}{rs:List (Nat×List AV)}(hv:Rw 1 H v vs.length vs)(h:Rws 1 H vs rs)(hb:u0 rs<=1000000000)(hl:vs.length<=1000000000)(n':Nat)(hn:vs.length<n'):
  yJ n' (fS D n) [v, .int .i64 ((0:Nat):Int),v, .int .i64 (vs.length:Nat), .int .i64 ((0:Nat):Int)] H=some (.exit 0 [v, .int .i64 (u0 rs:Nat)],H):=by
 have hlen:=h.len;refine uJ (fun i=>[v, .int .i64 (u0 (rs.take i):Nat),v, .int .i64 (vs.length:Nat), .int .i64 (i:Nat)]) vs.length ?_ ?_ n' hn
 .intro i hi;obtain⟨p,x,p1,p2,p3⟩:=hv.ld1 hi;obtain⟨r,r1,r2,r3⟩:=h.at p3;have hiI:((i:Nat):Int)< ((vs.length:Nat):Int):=by omega
  have hs:=cK r1;have hs2:=ZC rs i;have hs3:=ZC rs (i+1);have hneg: ¬((u0 (rs.take i):Nat):Int)+((r.1:Nat):Int)< ((0:Nat):Int):=by omega
  have hc:((u0 (rs.take (i+1)):Nat):Int)=((u0 (rs.take i):Nat):Int)+((r.1:Nat):Int):=by omega
  rw[hc];simp(disch:=omega) only[fS,aH,eZ,hiI,p1,p2,r2.lnSl,hneg,Int.natCast_add]
 .intro m;refine y9 ?_;have:rs.take vs.length=rs:=by rw[hlen];exact qN
  simp only[fS,eZ,qJ,this]
theorem catS2 (D:Dyn)(n:Nat){H:AH}(hk:H.ok){v:AV}{vs:List AV}{rs:List (Nat×List AV)}(hv:Rw 1 H v vs.length vs)(h:Rws 1 H vs rs)(hl:vs.length<=1000000000)
  {w:AV} (hw:Part 1 9 H w 0 [] (u0 rs)) (hd1: ∀B,Blk w B-> ¬Blk v B) (hd2: ∀B,Blk w B-> ∀x∈vs,¬Blk x B) (n':Nat) (hn:vs.length<n'):
  ∃w' H',yJ n' (fR D n) [w,v, .int .i64 (vs.length:Nat), .int .i64 ((0:Nat):Int)] H=some (.exit 2 [w'],H')/\Stp (Blk w) H H'/\Part 1 9 H' w' (u0 rs) (zE8 rs) (u0 rs)/\ ∀B,Blk w' B->Blk w B:=by
 have hlen:=h.len;obtain⟨m,us,H',k1,w',rfl,k3,k4,k5⟩:=xR (b:=fR D n) vs.length (fun i us H'=> ∃w',us=[w',v, .int .i64 (vs.length:Nat), .int .i64 (i:Nat)]/\Stp (Blk w) H H'/\Part 1 9 H' w' (u0 (rs.take i)) (zE8 (rs.take i)) (u0 rs)/\ ∀B,Blk w' B->Blk w B) (fun i us H1 hi ⟨w1,hus,hs,hp,hB⟩=>by
  subst hus;obtain⟨p,x,p1,p2,p3⟩:=(hv.stp hs (fun A hA hh=>hd1 A hh hA)).ld1 hi;obtain⟨r,r1,r2,r3⟩:=h.at p3;have hx:x∈vs:=List.mem_of_getElem? p3;have r2':=r2.stp hs (fun A hA hh=>hd2 A hh x hx hA);have hiI:((i:Nat):Int)< ((vs.length:Nat):Int):=by omega
  have hs3:=ZC rs (i+1);have hst:=cK r1;obtain⟨w2,H2,e2,q2,s2,n2,b2⟩:=hp.app (bytes:=16) hs.ok (by decide) r2'.srcOf r2.1 r3 (by omega);rw[<-hst,<-zAY r1]at q2;refine⟨_,H2, ?_,w2,rfl,hs.trans (s2.mono fun A _ hA=>hB A hA),q2,fun B hb=>hB B (b2 B hb)⟩;simp(disch:=omega) only[fR,eZ,hiI,p1,p2,e2,Int.natCast_add]) n' _ H ⟨w,rfl,Stp.refl hk,hw,fun _ x=>x⟩ hn
 rw[hlen,qN]at k4;exact⟨w',H',k1.trans (y9 (by simp only[fR,eZ,qJ])),k3,k4,k5⟩
theorem zHj (D:Dyn)(n:Nat){H:AH}(hk:H.ok){v:AV}{vs:List AV}{rs:List (Nat×List AV)}(hv:Rw 1 H v vs.length vs)(h:Rws 1 H vs rs)(hb:u0 rs<=1000000000)(hl:vs.length<=1000000000)(hn:vs.length<n)
  (hv0: ∀B,Blk v B->B<H.next) (hx0: ∀x∈vs,∀B,Blk x B->B<H.next):
  ∃w H',f132 D n [v] H=some (w,H')/\Prs H H'/\Own 1 9 H' w (u0 rs) (zE8 rs)/\ ∀B,Blk w B->H.next<=B:=by
 obtain⟨w1,H1,e1,p1,q1,f1⟩:=zIR D n (u0 rs) hb hk;obtain⟨w2,H2,e2,s2,q2,f2⟩:=catS2 D n p1.ok (hv.prs p1) (h.prs p1) hl q1 (fun B hB hh=>by have:=f1 B hB;have:=hv0 B hh;omega) (fun B hB x hx hh=>by have:=f1 B hB;have:=hx0 x hx B hh;omega) n hn;have l1:=catS1 D n hv h hb hl n hn;refine⟨w2,H2, ?_,p1.fresh s2 f1,q2.own,fun B hB=>f1 B (f2 B hB)⟩;simp only[f132,eZ,hv.lnSl,l1,zAz,e1,e2,X7]
theorem catP1 (D:Dyn)(n:Nat){H:AH}{v:AV}{vs:List AV}{rs:List (Nat×List AV)}(hv:Rw 1 H v vs.length vs)(h:Rws 3 H vs rs)(hb:u0 rs<=1000000000)(hl:vs.length<=1000000000)(n':Nat)(hn:vs.length<n'):
  yJ n' (fQ D n) [v, .int .i64 ((0:Nat):Int),v, .int .i64 (vs.length:Nat), .int .i64 ((0:Nat):Int)] H=some (.exit 0 [v, .int .i64 (u0 rs:Nat)],H):=by
 have hlen:=h.len;refine uJ (fun i=>[v, .int .i64 (u0 (rs.take i):Nat),v, .int .i64 (vs.length:Nat), .int .i64 (i:Nat)]) vs.length ?_ ?_ n' hn
 .intro i hi;obtain⟨p,x,p1,p2,p3⟩:=hv.ld1 hi;obtain⟨r,r1,r2,r3⟩:=h.at p3;have hiI:((i:Nat):Int)< ((vs.length:Nat):Int):=by omega
  have hs:=cK r1;have hs2:=ZC rs i;have hs3:=ZC rs (i+1);have hneg: ¬((u0 (rs.take i):Nat):Int)+((r.1:Nat):Int)< ((0:Nat):Int):=by omega
  have hc:((u0 (rs.take (i+1)):Nat):Int)=((u0 (rs.take i):Nat):Int)+((r.1:Nat):Int):=by omega
  rw[hc];simp(disch:=omega) only[fQ,aD,eZ,hiI,p1,p2,r2.lnSl,hneg,Int.natCast_add]
 .intro m;refine y9 ?_;have:rs.take vs.length=rs:=by rw[hlen];exact qN
  simp only[fQ,eZ,qJ,this]
theorem catP2 (D:Dyn)(n:Nat){H:AH}(hk:H.ok){v:AV}{vs:List AV}{rs:List (Nat×List AV)}(hv:Rw 1 H v vs.length vs)(h:Rws 3 H vs rs)(hl:vs.length<=1000000000)
  {w:AV} (hw:Part 3 42 H w 0 [] (u0 rs)) (hd1: ∀B,Blk w B-> ¬Blk v B) (hd2: ∀B,Blk w B-> ∀x∈vs,¬Blk x B) (n':Nat) (hn:vs.length<n'):
  ∃w' H',yJ n' (fP D n) [w,v, .int .i64 (vs.length:Nat), .int .i64 ((0:Nat):Int)] H=some (.exit 2 [w'],H')/\Stp (Blk w) H H'/\Part 3 42 H' w' (u0 rs) (zE8 rs) (u0 rs)/\ ∀B,Blk w' B->Blk w B:=by
 have hlen:=h.len;obtain⟨m,us,H',k1,w',rfl,k3,k4,k5⟩:=xR (b:=fP D n) vs.length (fun i us H'=> ∃w',us=[w',v, .int .i64 (vs.length:Nat), .int .i64 (i:Nat)]/\Stp (Blk w) H H'/\Part 3 42 H' w' (u0 (rs.take i)) (zE8 (rs.take i)) (u0 rs)/\ ∀B,Blk w' B->Blk w B) (fun i us H1 hi ⟨w1,hus,hs,hp,hB⟩=>by
  subst hus;obtain⟨p,x,p1,p2,p3⟩:=(hv.stp hs (fun A hA hh=>hd1 A hh hA)).ld1 hi;obtain⟨r,r1,r2,r3⟩:=h.at p3;have hx:x∈vs:=List.mem_of_getElem? p3;have r2':=r2.stp hs (fun A hA hh=>hd2 A hh x hx hA);have hiI:((i:Nat):Int)< ((vs.length:Nat):Int):=by omega
  have hs3:=ZC rs (i+1);have hst:=cK r1;obtain⟨w2,H2,e2,q2,s2,n2,b2⟩:=hp.app (bytes:=24) hs.ok (by decide) r2'.srcOf r2.1 r3 (by omega);rw[<-hst,<-zAY r1]at q2;refine⟨_,H2, ?_,w2,rfl,hs.trans (s2.mono fun A _ hA=>hB A hA),q2,fun B hb=>hB B (b2 B hb)⟩;simp(disch:=omega) only[fP,eZ,hiI,p1,p2,e2,Int.natCast_add]) n' _ H ⟨w,rfl,Stp.refl hk,hw,fun _ x=>x⟩ hn
 rw[hlen,qN]at k4;exact⟨w',H',k1.trans (y9 (by simp only[fP,eZ,qJ])),k3,k4,k5⟩
theorem zHk (D:Dyn)(n:Nat){H:AH}(hk:H.ok){v:AV}{vs:List AV}{rs:List (Nat×List AV)}(hv:Rw 1 H v vs.length vs)(h:Rws 3 H vs rs)(hb:u0 rs<=1000000000)(hl:vs.length<=1000000000)(hn:vs.length<n)
  (hv0: ∀B,Blk v B->B<H.next) (hx0: ∀x∈vs,∀B,Blk x B->B<H.next):
  ∃w H',f178 D n [v] H=some (w,H')/\Prs H H'/\Own 3 42 H' w (u0 rs) (zE8 rs)/\ ∀B,Blk w B->H.next<=B:=by
 obtain⟨w1,H1,e1,p1,q1,f1⟩:=zIS D n (u0 rs) hb hk;obtain⟨w2,H2,e2,s2,q2,f2⟩:=catP2 D n p1.ok (hv.prs p1) (h.prs p1) hl q1 (fun B hB hh=>by have:=f1 B hB;have:=hv0 B hh;omega) (fun B hB x hx hh=>by have:=f1 B hB;have:=hx0 x hx B hh;omega) n hn;have l1:=catP1 D n hv h hb hl n hn;refine⟨w2,H2, ?_,p1.fresh s2 f1,q2.own,fun B hB=>f1 B (f2 B hB)⟩;simp only[f178,eZ,hv.lnSl,l1,zAw,e1,e2,X5]
end Go.Eng.Sh
end
section
namespace Go.Eng
theorem hp:(∀(o:AObj) (mk:Nat->AV) (H:AH) (K:AV->AH->Rs),H.ok->bA (some (o,mk)) H K=K (mk H.next) (H.push o))/\
  (∀(H:AH) (A o:Nat) (x:AObj),A<H.next->ld1 (.ptr A o) (H.push x)=ld1 (.ptr A o) H)/\
  (∀(H:AH) (A o n:Nat) (x:AObj),A<H.next->ldN n (.ptr A o) (H.push x)=ldN n (.ptr A o) H)/\
  (∀(l:List AV) (o n:Nat) (a:AV),o=0->n=l.length->(xW l o n).map AV.agg=some (.agg l))/\
  (∀(a b c d:AV),xW [a,b,c,d] 0 4=some [a,b,c,d])/\
  (∀(l:List AV),(some l).map AV.agg=some (.agg l))/\
  (∀(vs:List AV) (i:Nat),qX (.tuple vs) i=vs[i]?):=
 ⟨fun o mk H K h=>yR h o mk K,fun H A o x h=>zBB o x h,fun H A o n x h=>zLD o n x h,fun l o n _ h1 h2=>by subst h1;subst h2;rw[yS _ _ _ (.inr (by omega)),List.drop_zero,qN];rfl,fun _ _ _ _=>rfl,fun _=>rfl,fun vs i=>by simp only[qX,cR]⟩
end Go.Eng
end
section
namespace Go.Nd
def partedN (lt:Str->Str->Bool)(a:Node)(sep:Str)(b:Node):Bool:=
 mayK sep&&(a.leaf==b.leaf)&&(decide (a.keys.length=0)||lt (a.keys.getD (a.keys.length - 1) []) sep)&&(decide (b.keys.length=0)||lt sep (b.keys.getD 0 [])||(a.leaf&&decide (sep=b.keys.getD 0 [])))
end Go.Nd
namespace Go.Eng.Sh
open Go.Nd (Ptr sumL cutOk cutA cB partedN)
theorem zFn (D:Dyn)(n:Nat){H:AH}(hk:H.ok){v w:AV}{a b:Nd.Node}{sep:Str}(h:uF H v a)(h':uF H w b)(hs:small a)(hs':small b):
  ∃H',f212 D n [v,S sep,w] H=some (.bool (partedN ltS a sep b),H')/\Prs H H':=by
 obtain⟨ks,vs,ps,rfl,h1,h2,h3⟩:=h;obtain⟨ks',vs',ps',rfl,k1,k2,k3⟩:=h';have hkl:=Nd.sumL_ge a.keys;have hkl':=Nd.sumL_ge b.keys;obtain⟨s1,s2,s3⟩:=hs;obtain⟨s1',s2',s3'⟩:=hs';have P:Prs H ((H.push (.cells [.bool a.leaf,ks,vs,ps] 119 1 false)).push (.cells [.bool b.leaf,ks',vs',ps'] 119 1 false)):=((Stp.refl hk).push _).push _;have l1:=h1.lnSl;have l2:=k1.lnSl;have q1:=h1.prs P;have q2:=k1.prs P;generalize hH2:(H.push (.cells [.bool a.leaf,ks,vs,ps] 119 1 false)).push (.cells [.bool b.leaf,ks',vs',ps'] 119 1 false)=H2 at P q1 q2;have r1: ∀o,ld1 (.ptr H.next o) H2=[.bool a.leaf,ks,vs,ps][o]? :=fun o=>by rw[<-hH2,zBB _ _ (by rw[AH.push_next];omega),Y3]
 have r2: ∀o,ld1 (.ptr (H.push (.cells [.bool a.leaf,ks,vs,ps] 119 1 false)).next o) H2=[.bool b.leaf,ks',vs',ps'][o]? :=fun o=>by rw[<-hH2,Y3]
 refine⟨H2, ?_,P⟩;have hne: ∀x y:Bool,(!(x==y))=false->x=y:=fun x y=>by cases x<;>cases y<;>simp
 cases hm:Nd.mayK sep with
 | false=>simp(disch:=first | assumption | omega | (simp only[AH.push_next,AH.put_next];omega) | (repeat(first | assumption | apply AH.ok.push))) only[f212,eZ,hp,hH2,yZ,hm,partedN]
 | true=>
  cases hl:(a.leaf==b.leaf)with
  | false=>simp(disch:=first | assumption | omega | (simp only[AH.push_next,AH.put_next];omega) | (repeat(first | assumption | apply AH.ok.push))) only[f212,eZ,hp,hH2,yZ,hm,partedN,r1,r2,hl]
  | true=>
   have e:b.leaf=a.leaf:=by revert hl;cases a.leaf<;>cases b.leaf<;>simp
   rw[e]at r2 hH2;simp only[partedN,hm,hl,Bool.true_and];rw[e];clear hl e hne;generalize a.leaf=la at*
   have hll:(la==la)=true:=by simp
   have tail:
     (∃q0,b.keys.length≠0->(∀κ (z:Int),z=((0:Nat):Int)->dK 1 ks' (.int κ z)=some q0)/\Eng.ld1 q0 H2=some (S (b.keys.getD 0 []))):=by
    by_cases h0:b.keys.length=0
    .exact⟨.nilPtr,fun h=>absurd h0 h⟩
    .obtain⟨q,i1,i2⟩:=q2.at (i:=0) (by omega);refine⟨q,fun _=>⟨i1, ?_⟩⟩;rw[kT (by omega)];exact i2
   obtain⟨q0,hq0⟩:=tail;by_cases ha:a.keys.length=0
   .have ga: ¬((0:Nat):Int)< ((a.keys.length:Nat):Int):=by omega
    simp only[ha,decide_true,Bool.true_or,Bool.true_and];by_cases hb:b.keys.length=0
    .have gb:((b.keys.length:Nat):Int)=((0:Nat):Int):=by omega
     simp only[hb,decide_true,Bool.true_or];simp(disch:=first | assumption | omega | (simp only[AH.push_next,AH.put_next];omega) | (repeat(first | assumption | apply AH.ok.push))) only[f212,eZ,hp,hH2,yZ,hm,r1,r2,hll,l1,l2,ga,gb]
    .have gb: ¬((b.keys.length:Nat):Int)=((0:Nat):Int):=by omega
     obtain⟨i1,i2⟩:=hq0 hb;simp only[hb,decide_false,Bool.false_or]
     cases h1':ltS sep (b.keys.getD 0 [])<;>cases la<;>simp(disch:=first | assumption | omega | (simp only[AH.push_next,AH.put_next];omega) | (repeat(first | assumption | apply AH.ok.push))) only[f212,eZ,hp,hH2,yZ,hm,r1,r2,hll,l1,l2,ga,gb,i1,i2,h1']
   .have ga:((0:Nat):Int)< ((a.keys.length:Nat):Int):=by omega
    obtain⟨q,j1,j2⟩:=q1.at (i:=a.keys.length - 1) (by omega);rw[<-kT (d:=[])]at j2;have hsub:((a.keys.length:Nat):Int) - ((1:Nat):Int)=((a.keys.length - 1:Nat):Int):=by omega
    simp only[ha,decide_false,Bool.false_or]
    cases h0':ltS (a.keys.getD (a.keys.length - 1) []) sep with
    | false=>simp(disch:=first | assumption | omega | (simp only[AH.push_next,AH.put_next];omega) | (repeat(first | assumption | apply AH.ok.push))) only[f212,eZ,hp,hH2,yZ,hm,r1,r2,hll,l1,l2,ga,hsub,j1,j2,h0']
    | true=>
     by_cases hb:b.keys.length=0
     .have gb:((b.keys.length:Nat):Int)=((0:Nat):Int):=by omega
      simp only[hb,decide_true,Bool.true_or];simp(disch:=first | assumption | omega | (simp only[AH.push_next,AH.put_next];omega) | (repeat(first | assumption | apply AH.ok.push))) only[f212,eZ,hp,hH2,yZ,hm,r1,r2,hll,l1,l2,ga,gb,hsub,j1,j2,h0']
     .have gb: ¬((b.keys.length:Nat):Int)=((0:Nat):Int):=by omega
      obtain⟨i1,i2⟩:=hq0 hb;simp only[hb,decide_false,Bool.false_or]
      cases h1':ltS sep (b.keys.getD 0 [])<;>cases la<;>simp(disch:=first | assumption | omega | (simp only[AH.push_next,AH.put_next];omega) | (repeat(first | assumption | apply AH.ok.push))) only[f212,eZ,hp,hH2,yZ,hm,r1,r2,hll,l1,l2,ga,gb,hsub,j1,j2,h0',i1,i2,h1']
end Go.Eng.Sh
end
section
namespace Go.Eng
theorem box {H:AH}(hk:H.ok)(o:AObj): ∃H' A,(∀(mk:Nat->AV) (K:AV->AH->Rs),bA (some (o,mk)) H K=K (mk A) H')/\Prs H H'/\H'.h.get A=some o/\H.next<=A/\A<H'.next:=
 ⟨H.push o,H.next,fun mk K=>yR hk o mk K,(Stp.refl hk).push o,AH.push_get_eq _ _,Nat.le_refl _,by rw[AH.push_next];omega⟩
theorem zNt {x y:AV}(e:TypeId)(z:AV)(hx:isCell x=true)(hy:isCell y=true)(hz:isCell z=true):aU e 1 2 [z] [(0,x),(1,y)]=some (.cells [x,y] e 1 false,fun A=> .slice A 0 2 4):=by
 simp only[aU,uL,rep,yU hx,yU hy];rfl
theorem row3 {x y w:AV}(e:TypeId)(z:AV)(hx:isCell x=true)(hy:isCell y=true)(hw:isCell w=true):aU e 1 3 [z] [(0,x),(1,y),(2,w)]=some (.cells [x,y,w] e 1 false,fun A=> .slice A 0 3 6):=by
 simp only[aU,uL,rep,yU hx,yU hy,yU hw];rfl
theorem zK4 {x:AV}(e:TypeId)(z:AV)(hx:isCell x=true):aU e 1 1 [z] [(0,x)]=some (.cells [x] e 1 false,fun A=> .slice A 0 1 2):=by
 simp only[aU,uL,rep,yU hx];rfl
theorem Rw.lit {H:AH}{A e:Nat}{l:List AV}{cc:Nat}(hk:H.ok)(h:H.h.get A=some (.cells l e 1 false)):Rw 1 H (.slice A 0 l.length cc) l.length l:=
 ⟨by simp, .inr (.inr ⟨A,0,cc,l,e,1,false,rfl,h,hk.lt h,by simp,by simp⟩)⟩
end Go.Eng
namespace Go.Eng.Sh
open Go.Nd (Ptr sumL cutOk cutA cB partedN bQ)
theorem v7 {A:Nat}{H:AH}{l:List AV}{e:TypeId}(h:H.h.get A=some (.cells l e 1 false))(hl:l.length=4):ldN 4 (.ptr A 0) H=some (.agg l):=by
 rw[y6 h,yS _ _ _ (.inr (by omega)),List.drop_zero,zO (by omega)];rfl
def nd0:Nd.Node:=⟨false,[],[],[]⟩
theorem Z4.zero (H0 H:AH):Z4 H0 H (.agg [.bool false, .nilSlice, .nilSlice, .nilSlice]) nd0:=
 ⟨_,_,_,rfl,Own.nil ..,Own.nil ..,Own.nil ..,fun B hB=>by rcases hB with h | h | h<;>exact(Blk.nil.1 h).elim,fun B hB=>(Blk.nil.1 hB).elim,fun B hB=>(Blk.nil.1 hB).elim⟩
def joinOk (a:Nd.Node)(sep:Str)(b:Nd.Node):Bool:=Nd.shaped ltS a&&Nd.shaped ltS b&&partedN ltS a sep b
theorem zJk (D:Dyn)(n:Nat){H:AH}{A cc:Nat}{x y:AV}{l m:List Str}(hk:H.ok)(hg:H.h.get A=some (.cells [x,y] 117 1 false))(h1:Strs H x l)(h2:Strs H y m)(hb:l.length+m.length<=1000000000)(hn:100<=n):
  ∃w H',f132 D n [.slice A 0 2 cc] H=some (w,H')/\Prs H H'/\Own 1 9 H' w (l++m).length ((l++m).map S)/\ ∀B,Blk w B->H.next<=B:=by
 obtain⟨w,H',e,p,o,f⟩:=zHj D n hk (v:= .slice A 0 2 cc) (vs:=[x,y]) (rs:=[(l.length,l.map S),(m.length,m.map S)]) (Rw.lit hk hg) ⟨⟨h1,wG _⟩,⟨h2,wG _⟩,trivial⟩ (by simpa[u0]using hb) (by simp) (by simp;omega)
  (fun B hB=>by rw[Blk.slice.1 hB];exact hk.lt hg) (fun z hz B hB=>by
   simp only[List.mem_cons,List.not_mem_nil,or_false]at hz;rcases hz with rfl | rfl
   .exact Rw.blk h1 hB
   .exact Rw.blk h2 hB)
 exact⟨w,H',e,p,by simpa[u0,zE8]using o,f⟩
theorem zOd (D:Dyn)(n:Nat){H:AH}{A cc:Nat}{x y z:AV}{l m k:List Str}(hk:H.ok)(hg:H.h.get A=some (.cells [x,y,z] 117 1 false))(h1:Strs H x l)(h2:Strs H y m)(h3:Strs H z k)(hb:l.length+m.length+k.length<=1000000000)(hn:100<=n):
  ∃w H',f132 D n [.slice A 0 3 cc] H=some (w,H')/\Prs H H'/\Own 1 9 H' w (l++(m++k)).length ((l++(m++k)).map S)/\ ∀B,Blk w B->H.next<=B:=by
 obtain⟨w,H',e,p,o,f⟩:=zHj D n hk (v:= .slice A 0 3 cc) (vs:=[x,y,z]) (rs:=[(l.length,l.map S),(m.length,m.map S),(k.length,k.map S)]) (Rw.lit hk hg) ⟨⟨h1,wG _⟩,⟨h2,wG _⟩,⟨h3,wG _⟩,trivial⟩ (by simp[u0];omega) (by simp) (by simp;omega)
  (fun B hB=>by rw[Blk.slice.1 hB];exact hk.lt hg) (fun z hz B hB=>by
   simp only[List.mem_cons,List.not_mem_nil,or_false]at hz;rcases hz with rfl | rfl | rfl
   .exact Rw.blk h1 hB
   .exact Rw.blk h2 hB
   .exact Rw.blk h3 hB)
 exact⟨w,H',e,p,by simpa[u0,zE8]using o,f⟩
theorem conP2 (D:Dyn)(n:Nat){H:AH}{A cc:Nat}{x y:AV}{l m:List Ptr}(hk:H.ok)(hg:H.h.get A=some (.cells [x,y] 50 1 false))(h1:xV H x l)(h2:xV H y m)(hb:l.length+m.length<=1000000000)(hn:100<=n):
  ∃w H',f178 D n [.slice A 0 2 cc] H=some (w,H')/\Prs H H'/\Own 3 42 H' w (l++m).length ((l++m).flatMap y7)/\ ∀B,Blk w B->H.next<=B:=by
 obtain⟨w,H',e,p,o,f⟩:=zHk D n hk (v:= .slice A 0 2 cc) (vs:=[x,y]) (rs:=[(l.length,l.flatMap y7),(m.length,m.flatMap y7)]) (Rw.lit hk hg) ⟨⟨h1,v5 _⟩,⟨h2,v5 _⟩,trivial⟩ (by simpa[u0]using hb) (by simp) (by simp;omega)
  (fun B hB=>by rw[Blk.slice.1 hB];exact hk.lt hg) (fun z hz B hB=>by
   simp only[List.mem_cons,List.not_mem_nil,or_false]at hz;rcases hz with rfl | rfl
   .exact Rw.blk h1 hB
   .exact Rw.blk h2 hB)
 exact⟨w,H',e,p,by simpa[u0,zE8]using o,f⟩
theorem dT:xH [(0,1),(1,1),(2,1),(3,1)] [.bool false, .nilSlice, .nilSlice, .nilSlice] []=some (.agg [.bool false, .nilSlice, .nilSlice, .nilSlice]):=rfl
theorem zHp {a b:AV}(x:Bool)(ha:isCell a=true)(hb:isCell b=true):xH [(0,1),(1,1),(2,1),(3,1)] [.bool false, .nilSlice, .nilSlice, .nilSlice] [(0, .bool x),(1,a),(2,b)]=some (.agg [.bool x,a,b, .nilSlice]):=by
 simp only[xH,uL,zKb,yU ha,yU hb];rfl
theorem zMu {a b:AV}(ha:isCell a=true)(hb:isCell b=true):xH [(0,1),(1,1),(2,1),(3,1)] [.bool false, .nilSlice, .nilSlice, .nilSlice] [(1,a),(3,b)]=some (.agg [.bool false,a, .nilSlice,b]):=by
 simp only[xH,uL,zKb,yU ha,yU hb];rfl
theorem zFN (D:Dyn)(n:Nat)(hn:200000000<=n){H:AH}(hk:H.ok){v w:AV}{a b:Nd.Node}{sep:Str}(h:uF H v a)(h':uF H w b)(hs:small a)(hs':small b):
  ∃u H',f176 D n [v,S sep,w] H=some (.tuple [u, .int .i64 ((if joinOk a sep b then 0 else 1:Nat):Int)],H')/\Prs H H'/\Z4 H H' u (if joinOk a sep b then bQ a sep b else nd0):=by
 have i0:=h;have i0':=h';obtain⟨ks,vs,ps,rfl,h1,h2,h3⟩:=h;obtain⟨la,hla⟩: ∃la,la=a.leaf:=⟨_,rfl⟩;rw[<-hla]at i0⊢;obtain⟨ks',vs',ps',rfl,k1,k2,k3⟩:=h';have hkl:=Nd.sumL_ge a.keys;have hkl':=Nd.sumL_ge b.keys;have hvl:=Nd.sumL_ge a.vals;have hvl':=Nd.sumL_ge b.vals;have s0:=hs;have s0':=hs';obtain⟨s1,s2,s3⟩:=hs;obtain⟨s1',s2',s3'⟩:=hs';obtain⟨H1,A1,b1,p1,g1,m1,n1⟩:=box hk (.cells [.bool la,ks,vs,ps] 119 1 false);obtain⟨H2,A2,b2,p2,g2,m2,n2⟩:=box p1.ok (.cells [.bool b.leaf,ks',vs',ps'] 119 1 false);obtain⟨H3,A3,b3,p3,g3,m3,n3⟩:=box p2.ok (.cells [.bool false, .nilSlice, .nilSlice, .nilSlice] 119 1 false);have P3:Prs H H3:=(p1.trans p2).trans p3;have g13:=p3.get p2.ok (p2.get p1.ok g1);have g23:=p3.get p2.ok g2;obtain⟨H4,e4,p4⟩:=vE D n P3.ok (i0.prs P3) s0 hn;have P4:=P3.trans p4;have g14:=p4.get P3.ok g13;have g24:=p4.get P3.ok g23;have g34:=p4.get P3.ok g3;have fin: ∀ {Hx:AH} {l:List AV},Prs H Hx->Hx.h.get A3=some (.cells [.bool false, .nilSlice, .nilSlice, .nilSlice] 119 1 false)->l.length=4->qY l=true-> ∃Hy,stN 4 (.ptr A3 0) (.agg l) Hx=some (qZ,Hy)/\Prs H Hy/\Stp (fun B=>B=A3) Hx Hy/\ldN 4 (.ptr A3 0) Hy=some (.agg l):=fun {Hx l} px hg hl hc=>by
  obtain⟨Hy,e,g,s,_⟩:=yD px.ok hg hl hc;have e':stN 4 (.ptr A3 0) (.agg l) Hx=some (qZ,Hy):=e;exact⟨Hy,e',px.fresh s (fun B hB=>by omega),s,by rw[y6 g,yS _ _ _ (.inr (by omega)),List.drop_zero,zO (by omega)];rfl⟩
 cases c1:Nd.shaped ltS a with
 | false=>
  obtain⟨Hy,ey,py,_,ly⟩:=fin (l:=[.bool false, .nilSlice, .nilSlice, .nilSlice]) P4 g34 rfl rfl;refine⟨.agg [.bool false, .nilSlice, .nilSlice, .nilSlice],Hy, ?_,py, ?_⟩
  rotate_left
  .simp only[joinOk,c1,Bool.false_and,Bool.false_eq_true,if_false];exact Z4.zero _ _
  .simp only[joinOk,c1,Bool.false_and,Bool.false_eq_true,if_false];simp(disch:=omega) only[f176,eZ,b1,b2,b3,y6 g13,hJ,Option.map_some,e4,c1,dT,ey,ly]
 | true=>
 obtain⟨H5,e5,p5⟩:=vE D n P4.ok (i0'.prs P4) s0' hn;have P5:=P4.trans p5;have g15:=p5.get P4.ok g14;have g25:=p5.get P4.ok g24;have g35:=p5.get P4.ok g34
 cases c2:Nd.shaped ltS b with
 | false=>
  obtain⟨Hy,ey,py,_,ly⟩:=fin (l:=[.bool false, .nilSlice, .nilSlice, .nilSlice]) P5 g35 rfl rfl;refine⟨.agg [.bool false, .nilSlice, .nilSlice, .nilSlice],Hy, ?_,py, ?_⟩
  rotate_left
  .simp only[joinOk,c2,Bool.false_and,Bool.and_false,Bool.false_eq_true,if_false];exact Z4.zero _ _
  .simp only[joinOk,c2,Bool.false_and,Bool.and_false,Bool.false_eq_true,if_false];simp(disch:=omega) only[f176,eZ,b1,b2,b3,y6 g13,y6 g24,hJ,Option.map_some,e4,e5,c1,c2,dT,ey,ly]
 | true=>
 obtain⟨H6,e6,p6⟩:=zFn D n P5.ok (sep:=sep) (i0.prs P5) (i0'.prs P5) s0 s0';have P6:=P5.trans p6;have g16:=p6.get P5.ok g15;have g26:=p6.get P5.ok g25;have g36:=p6.get P5.ok g35
 cases c3:partedN ltS a sep b with
 | false=>
  obtain⟨Hy,ey,py,_,ly⟩:=fin (l:=[.bool false, .nilSlice, .nilSlice, .nilSlice]) P6 g36 rfl rfl;refine⟨.agg [.bool false, .nilSlice, .nilSlice, .nilSlice],Hy, ?_,py, ?_⟩
  rotate_left
  .simp only[joinOk,c3,Bool.false_and,Bool.and_false,Bool.false_eq_true,if_false];exact Z4.zero _ _
  .simp only[joinOk,c3,Bool.false_and,Bool.and_false,Bool.false_eq_true,if_false];simp(disch:=omega) only[f176,eZ,b1,b2,b3,y6 g13,y6 g24,y6 g15,y6 g25,hJ,Option.map_some,e4,e5,e6,c1,c2,c3,dT,ey,ly]
 | true=>
 have hj:joinOk a sep b=true:=by simp only[joinOk,c1,c2,c3,Bool.and_self]
 simp only[hj,if_true]
 cases la with
 | true=>
  obtain⟨H7,A7,b7,p7,g7,m7,n7⟩:=box P6.ok (.cells [ks,ks'] 117 1 false);have P7:=P6.trans p7;obtain⟨H8,A8,b8,p8,g8,m8,n8⟩:=box P7.ok (.cells [vs,vs'] 117 1 false);have P8:=P7.trans p8;obtain⟨w9,H9,e9,p9,o9,f9⟩:=zJk D n (cc:=4) P8.ok (p8.get P7.ok g7) (h1.prs P8) (k1.prs P8) (by omega) (by omega);have P9:=P8.trans p9;obtain⟨w10,H10,e10,p10,o10,f10⟩:=zJk D n (cc:=4) P9.ok (p9.get P8.ok g8) (h2.prs P9) (k2.prs P9) (by omega) (by omega);have P10:=P9.trans p10;have up {Hx:AH} {o:AObj} {A:Nat} (g:H6.h.get A=some o) (p:Prs H6 Hx):=p.get P6.ok g;have p69:Prs H6 H9:=(p7.trans p8).trans p9;obtain⟨Hy,ey,py,sy,ly⟩:=fin (l:=[.bool true,w9,w10, .nilSlice]) P10 (up g36 (p69.trans p10)) rfl (by simp only[qY,o9.row.isCell,o10.row.isCell];rfl);have n3':A3<H8.next:=by have:=p4.next;have:=p5.next;have:=p6.next;have:=p7.next;have:=p8.next;omega
  have n9:=p9.next
  refine⟨.agg [.bool true,w9,w10, .nilSlice],Hy, ?_,py, ?_⟩
  rotate_left
  .have:bQ a sep b=⟨true,a.keys++b.keys,a.vals++b.vals,[]⟩:=by simp only[bQ,<-hla,if_true]
   rw[this];refine⟨w9,w10, .nilSlice,rfl,(o9.mono p10 (fun _ _ x=>x)).mono sy (fun B hB e=>by have:=f9 B hB;omega),o10.mono sy (fun B hB e=>by have:=f10 B hB;omega),Own.nil ..,fun B hB=> ?_,fun B hB=>⟨fun h=> ?_,fun h=>(Blk.nil.1 h).elim⟩,fun B hB h=>(Blk.nil.1 h).elim⟩
   .have:=P8.next
    rcases hB with h | h | h
    .have:=f9 B h;omega
    .have:=f10 B h;omega
    .exact(Blk.nil.1 h).elim
   .have:=f10 B h;have:=Rw.blk o9.row hB;omega
  .simp(disch:=omega) only[f176,eZ,b1,b2,b3,y6 g13,y6 g24,y6 g15,y6 g25,hJ,Option.map_some,e4,e5,e6,c1,c2,c3,qV g16,qV g26,qV (up g16 p7),qV (up g26 p7),zNt 117 .nilSlice h1.isCell k1.isCell rfl,zNt 117 .nilSlice h2.isCell k2.isCell rfl,b7,b8,e9,
    yV (qV (up g16 p69) 2) (yN h2),yV (qV (up g26 p69) 2) (yN k2),e10,zHp _ o9.row.isCell o10.row.isCell,ey,ly]
 | false=>
  obtain⟨H7,A7,b7,p7,g7,m7,n7⟩:=box P6.ok (.cells [S sep] 9 1 false);have P7:=P6.trans p7;obtain⟨H8,A8,b8,p8,g8,m8,n8⟩:=box P7.ok (.cells [ks, .slice A7 0 1 2,ks'] 117 1 false);have P8:=P7.trans p8;obtain⟨H9,A9,b9,p9,g9,m9,n9⟩:=box P8.ok (.cells [ps,ps'] 50 1 false);have P9:=P8.trans p9;have hsep:Strs H9 (.slice A7 0 1 2) [sep]:=Rw.lit (cc:=2) P9.ok (Prs.get (p8.trans p9) P7.ok g7);obtain⟨w10,H10,e10,p10,o10,f10⟩:=zOd D n (cc:=6) P9.ok (p9.get P8.ok g8) (h1.prs P9) hsep (k1.prs P9) (by simp only[zP,qI];omega) (by omega);have P10:=P9.trans p10;obtain⟨w11,H11,e11,p11,o11,f11⟩:=conP2 D n (cc:=4) P10.ok (p10.get P9.ok g9) (h3.prs P10) (k3.prs P10) (by omega) (by omega);have P11:=P10.trans p11;have up {Hx:AH} {o:AObj} {A:Nat} (g:H6.h.get A=some o) (p:Prs H6 Hx):=p.get P6.ok g;have p610:Prs H6 H10:=((p7.trans p8).trans p9).trans p10;obtain⟨Hy,ey,py,sy,ly⟩:=fin (l:=[.bool false,w10, .nilSlice,w11]) P11 (up g36 (p610.trans p11)) rfl (by simp only[qY,o10.row.isCell,o11.row.isCell];rfl);have n3':A3<H9.next:=by have:=p4.next;have:=p5.next;have:=p6.next;have:=p7.next;have:=p8.next;have:=p9.next;omega
  have n10:=p10.next
  refine⟨.agg [.bool false,w10, .nilSlice,w11],Hy, ?_,py, ?_⟩
  rotate_left
  .have:bQ a sep b=⟨false,a.keys++([sep]++b.keys),[],a.kids++b.kids⟩:=by simp only[bQ,<-hla,Bool.false_eq_true,if_false]
   rw[this];refine⟨w10, .nilSlice,w11,rfl,(o10.mono p11 (fun _ _ x=>x)).mono sy (fun B hB e=>by have:=f10 B hB;omega),Own.nil ..,o11.mono sy (fun B hB e=>by have:=f11 B hB;omega),fun B hB=> ?_,fun B hB=>⟨fun h=>(Blk.nil.1 h).elim,fun h=> ?_⟩,fun B hB=>(Blk.nil.1 hB).elim⟩
   .have:=P9.next
    rcases hB with h | h | h
    .have:=f10 B h;omega
    .exact(Blk.nil.1 h).elim
    .have:=f11 B h;omega
   .have:=f11 B h;have:=Rw.blk o10.row hB;omega
  .simp(disch:=omega) only[f176,eZ,b1,b2,b3,y6 g13,y6 g24,y6 g15,y6 g25,hJ,Option.map_some,e4,e5,e6,c1,c2,c3,qV g16,qV g26,qV (up g26 p7),qV (up g16 (p7.trans p8)),qV (up g26 (p7.trans p8)),zK4 9 (.str 0 0) (QT sep),b7,
    row3 117 .nilSlice h1.isCell (show isCell (.slice A7 0 1 2)=true from rfl) k1.isCell,zNt 50 .nilSlice h3.isCell k3.isCell rfl,b8,b9,e10,
    yV (qV (up g16 p610) 3) (yN h3),yV (qV (up g26 p610) 3) (yN k3),e11,zMu o10.row.isCell o11.row.isCell,ey,ly]
end Go.Eng.Sh
end
section
namespace Go.Nd
end Go.Nd
namespace Go.Eng.Sh
open Go.Nd (Ptr sumL cutOk cutA cB)
theorem yK.cells {H:AH}{v:AV}{nd:Nd.Node}(h:yK H v nd): ∃l,v= .agg l/\l.length=4/\qY l=true:=by
 obtain⟨ks,vs,ps,rfl,h1,h2,h3⟩:=h;exact⟨_,rfl,rfl,aY _ _ _ _ h1.row.isCell h2.row.isCell h3.row.isCell⟩
theorem yK.zero (H:AH):yK H (.agg [.bool false, .nilSlice, .nilSlice, .nilSlice]) nd0:=
 ⟨_,_,_,rfl, .inl (Own.nil ..), .inl (Own.nil ..), .inl (Own.nil ..)⟩
theorem wO.zero (N:Nat)(H:AH):wO N H (.agg [.bool false, .nilSlice, .nilSlice, .nilSlice]) nd0:=
 ⟨yK.zero H,fun B hB=>by rcases jK.1 hB with h | h | h<;>exact(Blk.nil.1 h).elim⟩
theorem cutNo (D:Dyn)(n:Nat)(hn:200000000<=n){H:AH}(hk:H.ok){v:AV}{nd:Nd.Node}(h:uF H v nd)(hs:small nd)(hc: ¬(Nd.shaped ltS nd=true/\vS nd)):
  ∃H',f213 D n [v] H=some (.tuple [.agg [.bool false, .nilSlice, .nilSlice, .nilSlice],S [], .agg [.bool false, .nilSlice, .nilSlice, .nilSlice], .int .i64 ((1:Nat):Int)],H')/\Prs H H':=by
 have i0:=h;obtain⟨ks,vs,ps,rfl,h1,h2,h3⟩:=h;obtain⟨la,hla⟩: ∃la,la=nd.leaf:=⟨_,rfl⟩;rw[<-hla]at i0⊢;obtain⟨H1,H2,H3,H4,A1,A2,A4,b1,b2,b3,e4,i3,i4⟩:=zC4 D n hn hk hla.symm i0 hs;have o1:=i4.o1;have o2:=i4.o2;have o4:=i4.o4;have l4:=i4.lt;obtain⟨H5,e5,i5,s5⟩:=i4.all2 (l':=[.bool false, .nilSlice, .nilSlice, .nilSlice]) rfl rfl;obtain⟨H6,e6,i6,s6⟩:=i5.all4 (l':=[.bool false, .nilSlice, .nilSlice, .nilSlice]) rfl rfl;have e5':stN 4 (.ptr A2 0) (.agg [.bool false, .nilSlice, .nilSlice, .nilSlice]) H4=some (qZ,H5):=e5;have e6':stN 4 (.ptr A4 0) (.agg [.bool false, .nilSlice, .nilSlice, .nilSlice]) H5=some (qZ,H6):=e6;have hln:=h1.lnSl;refine⟨H6, ?_,i6.prs⟩;have hS:(AV.str 0 0)=S []:=rfl
 cases c1:Nd.shaped ltS nd with
 | false=>
  simp(maxSteps:=999999)(disch:=omega) only[f213,eZ,b1,b2,b3,y6 i3.a1,y6 i4.a1,hJ,Option.map_some,e4,c1,dT,e5',e6',y6 i6.a2,y6 i6.a4,hS]
 | true=>
  have hc: ¬vS nd:=fun hh=>hc ⟨c1,hh⟩
  by_cases t2:nd.keys.length<2
  .have t2':((nd.keys.length:Nat):Int)< ((2:Nat):Int):=by omega
   simp(maxSteps:=999999)(disch:=omega) only[f213,eZ,b1,b2,b3,y6 i3.a1,y6 i4.a1,hJ,Option.map_some,e4,c1,qV i4.a1,hln,t2',dT,e5',e6',y6 i6.a2,y6 i6.a4,hS]
  .have t2': ¬((nd.keys.length:Nat):Int)< ((2:Nat):Int):=by omega
   have hf:la=false:=by
    cases la with
    | false=>rfl
    | true=>exact absurd ⟨by omega, .inl hla.symm⟩ hc
   have t3:nd.keys.length<3:=by
    rcases Nat.lt_or_ge nd.keys.length 3 with h | h
    .exact h
    .exact absurd ⟨by omega, .inr h⟩ hc
   have t3':((nd.keys.length:Nat):Int)< ((3:Nat):Int):=by omega
   subst hf;simp(maxSteps:=999999)(disch:=omega) only[f213,eZ,b1,b2,b3,y6 i3.a1,y6 i4.a1,hJ,Option.map_some,e4,c1,qV i4.a1,hln,t2',t3',dT,e5',e6',y6 i6.a2,y6 i6.a4,hS]
theorem zOa (D:Dyn)(n:Nat)(hn:200000000<=n){H:AH}(hk:H.ok){v:AV}{nd:Nd.Node}(h:yK H v nd)(hs:small nd):
  ∃va sep vb e H',f213 D n [v] H=some (.tuple [va,S sep,vb, .int .i64 ((e:Nat):Int)],H')/\Prs H H'/\
   ((e=0/\ ∃k,Nd.shaped ltS nd=true/\cutOk nd k/\hbnd nd k/\sep=nd.keys.getD k []/\wO H.next H' va (cutA nd k)/\wO H.next H' vb (cB nd k))\/
    (e=1/\sep=[]/\ ¬(Nd.shaped ltS nd=true/\vS nd)/\va= .agg [.bool false, .nilSlice, .nilSlice, .nilSlice]/\vb= .agg [.bool false, .nilSlice, .nilSlice, .nilSlice])):=by
 by_cases hc:Nd.shaped ltS nd=true/\vS nd
 .cases hl:nd.leaf with
  | true=>
   obtain⟨k,va,vb,H',e,p,ga,gb,ok,kb⟩:=zMn D n hn hk h hs hc.1 hc.2 hl;exact⟨va,_,vb,0,H',e,p, .inl ⟨rfl,k,hc.1,ok,kb,rfl,ga,gb⟩⟩
  | false=>
   obtain⟨k,va,vb,H',e,p,ga,gb,ok,kb⟩:=zJi D n hn hk h hs hc.1 hc.2 hl;exact⟨va,_,vb,0,H',e,p, .inl ⟨rfl,k,hc.1,ok,kb,rfl,ga,gb⟩⟩
 .obtain⟨H',e,p⟩:=cutNo D n hn hk h.node hs hc;exact⟨_,[],_,1,H',e,p, .inr ⟨rfl,rfl,hc,rfl,rfl⟩⟩
end Go.Eng.Sh
end
section
namespace Go.Nd
open Go.Eng (ltS kY jN ZN uA bK)
abbrev Kvs:=List (Str×Str)
def lookP (k:Str):Kvs->Option Str
 | []=>none
 | (a,b)::l=>if a=k then some b else lookP k l
def putP (k v:Str):Kvs->Kvs
 | []=>[(k,v)]
 | (a,b)::l=>if a=k then(k,v)::l else if ltS a k then(a,b)::putP k v l else(k,v)::(a,b)::l
def delP (k:Str):Kvs->Kvs
 | []=>[]
 | (a,b)::l=>if a=k then l else(a,b)::delP k l
def Srt:Kvs->Prop
 | []=>True
 | (a,_)::l=>(∀p∈l,ltS a p.1=true)/\Srt l
theorem rising_cons {a:Str}{l:List Str} :rising ltS (a::l)=true↔(∀x∈l,ltS a x=true)/\rising ltS l=true:=by
 induction l generalizing a with
 | nil=>simp[rising]
 | cons b l ih=>
  rw[rising,zE];constructor
  .rintro⟨h1,h2⟩
   refine⟨fun x hx=> ?_,h2⟩;rcases List.mem_cons.1 hx with rfl | hx
   .exact h1
   .exact jN h1 ((ih.1 h2).1 x hx)
  .rintro⟨h1,h2⟩
   exact⟨h1 b (zH ..),h2⟩
theorem WA: ∀l:Kvs,Srt l↔rising ltS (l.map Prod.fst)=true
 | []=>by simp[Srt,rising]
 | (a,b)::l=>by
  rw[List.map_cons,rising_cons,Srt,WA l];simp only[List.mem_map,forall_exists_index,and_imp];constructor
  .rintro⟨h1,h2⟩;exact⟨fun x p hp e=>e▸h1 p hp,h2⟩
  .rintro⟨h1,h2⟩;exact⟨fun p hp=>h1 _ p hp rfl,h2⟩
theorem look_none {k:Str} : ∀ {l:Kvs},(∀p∈l,p.1≠k)->lookP k l=none
 | [],_=>rfl
 | (a,b)::l,h=>by
  rw[lookP,if_neg (h (a,b) (zH ..))];exact look_none fun p hp=>h p (zF _ hp)
theorem mem_put {k v:Str}{p:Str×Str} : ∀ {l:Kvs},p∈putP k v l->p=(k,v)\/p∈l
 | [],h=>by simpa[putP]using h
 | (a,b)::l,h=>by
  simp only[putP]at h;split at h
  .rcases List.mem_cons.1 h with h | h
   .exact .inl h
   .exact .inr (zF _ h)
  .split at h
   .rcases List.mem_cons.1 h with h | h
    .exact .inr (h▸zH ..)
    .rcases mem_put h with h | h
     .exact .inl h
     .exact .inr (zF _ h)
   .rcases List.mem_cons.1 h with h | h
    .exact .inl h
    .exact .inr h
theorem srt_put (k v:Str): ∀ {l:Kvs},Srt l->Srt (putP k v l)
 | [],_=>⟨by simp,trivial⟩
 | (a,b)::l,h=>by
  simp only[putP];split
  .rename_i e;subst e;exact h
  .rename_i hak;split
   .rename_i hlt;refine⟨fun p hp=> ?_,srt_put k v h.2⟩;rcases mem_put hp with rfl | hp
    .exact hlt
    .exact h.1 p hp
   .rename_i hlt;have hka:ltS k a=true:=by
     cases hk:ltS k a with
     | true=>rfl
     | false=>exact absurd (ZN (by simpa using hlt) hk) hak
    refine⟨fun p hp=> ?_,h⟩;rcases List.mem_cons.1 hp with rfl | hp
    .exact hka
    .exact jN hka (h.1 p hp)
theorem mem_del {k:Str}{p:Str×Str} : ∀ {l:Kvs},p∈delP k l->p∈l
 | [],h=>h
 | (a,b)::l,h=>by
  simp only[delP]at h;split at h
  .exact zF _ h
  .rcases List.mem_cons.1 h with h | h
   .exact h▸zH ..
   .exact zF _ (mem_del h)
theorem srt_del (k:Str): ∀ {l:Kvs},Srt l->Srt (delP k l)
 | [],_=>trivial
 | (a,b)::l,h=>by
  simp only[delP];split
  .exact h.2
  .exact⟨fun p hp=>h.1 p (mem_del hp),srt_del k h.2⟩
def whereN (n:Node)(key:Str):Nat:=(n.keys.filter fun k=>ltS k key||(!n.leaf&&decide (k=key))).length
theorem whereN_le (n:Node)(key:Str):whereN n key<=n.keys.length:=List.length_filter_le _ _
def leafOf (l:Kvs):Node:=⟨true,l.map Prod.fst,l.map Prod.snd,[]⟩
theorem where_cons {a b key:Str}{l:Kvs}(h:Srt ((a,b)::l)):whereN (leafOf ((a,b)::l)) key=if ltS a key then whereN (leafOf l) key+1 else 0:=by
 simp only[whereN,leafOf,List.map_cons,Bool.not_true,Bool.false_and,Bool.or_false]
 cases hl:ltS a key with
 | true=>simp[hl]
 | false=>
  rw[List.filter_cons,hl];simp only[Bool.false_eq_true,if_false];rw[List.length_eq_zero_iff,List.filter_eq_nil_iff];intro x hx hlt;obtain⟨p,hp,rfl⟩:=List.mem_map.1 hx;have:=jN (h.1 p hp) hlt;rw[hl]at this;cases this
def hereN (n:Node)(key:Str):Bool:=decide (whereN n key<n.keys.length)&&decide (n.keys.getD (whereN n key) []=key)
theorem here_look (key:Str): ∀ {l:Kvs},Srt l->hereN (leafOf l) key=(lookP key l).isSome
 | [],_=>by simp[hereN,leafOf,lookP]
 | (a,b)::l,h=>by
  have ih:=here_look key h.2;have e1:(leafOf ((a,b)::l)).keys=a::(leafOf l).keys:=rfl;simp only[hereN,where_cons h,lookP,e1]at ih⊢
  cases hl:ltS a key with
  | true=>
   have hne:a≠key:=bK hl;simp only[if_true,if_neg hne,zP,Nat.add_lt_add_iff_right,List.getD_cons_succ];exact ih
  | false=>
   simp only[Bool.false_eq_true,if_false,zP,List.getD_cons_zero,Nat.zero_lt_succ,decide_true,Bool.true_and];by_cases e:a=key
   .simp[e]
   .rw[if_neg e,look_none]
    .simp[e]
    .intro p hp e2;have:=h.1 p hp;rw[e2,hl]at this;cases this
def zIs (n:Node)(key value:Str):Node:=
 if hereN n key then⟨true,n.keys,n.vals.set (whereN n key) value,[]⟩
 else⟨true,n.keys.take (whereN n key)++[key]++n.keys.drop (whereN n key),n.vals.take (whereN n key)++[value]++n.vals.drop (whereN n key),[]⟩
def zN1 (n:Node)(key:Str):Node:=⟨true,n.keys.take (whereN n key)++n.keys.drop (whereN n key+1),n.vals.take (whereN n key)++n.vals.drop (whereN n key+1),[]⟩
theorem put_leaf (key value:Str): ∀ {l:Kvs},Srt l->zIs (leafOf l) key value=leafOf (putP key value l)
 | [],_=>by simp[zIs,hereN,leafOf,putP,whereN]
 | (a,b)::l,h=>by
  have ih:=put_leaf key value h.2;have hh:=here_look key h;have hh':=here_look key h.2;simp only[zIs,hh,hh',where_cons h,lookP,putP]at ih⊢;by_cases e:a=key
  .subst e;simp[kY,leafOf]
  .rw[if_neg e,if_neg e]
   cases hl:ltS a key with
   | true=>
    simp only[if_true];have g: ∀(q:Kvs),leafOf ((a,b)::q)=⟨true,a::(leafOf q).keys,b::(leafOf q).vals,[]⟩:=fun q=>rfl
    rw[g (putP key value l),<-ih,g l];split
    .simp
    .simp
   | false=>
    have:lookP key l=none:=look_none fun p hp e2=>by have:=h.1 p hp;rw[e2,hl]at this;cases this
    rw[this];simp[leafOf]
theorem del_leaf (key:Str): ∀ {l:Kvs},Srt l->hereN (leafOf l) key=true->zN1 (leafOf l) key=leafOf (delP key l)
 | [],_,h=>by simp[hereN,leafOf]at h
 | (a,b)::l,h,hr=>by
  have hh:=here_look key h;have hh':=here_look key h.2;rw[hh]at hr;simp only[zN1,where_cons h,delP];by_cases e:a=key
  .subst e;simp[kY,leafOf]
  .simp only[lookP,if_neg e]at hr;rw[if_neg e];have hl:ltS a key=true:=by
    cases hl:ltS a key with
    | true=>rfl
    | false=>
     have:lookP key l=none:=look_none fun p hp e2=>by have:=h.1 p hp;rw[e2,hl]at this;cases this
     rw[this]at hr;cases hr
   have ih:=del_leaf key h.2 (hh'.trans hr);simp only[hl,if_true];have g: ∀(q:Kvs),leafOf ((a,b)::q)=⟨true,a::(leafOf q).keys,b::(leafOf q).vals,[]⟩:=fun q=>rfl
   rw[g (delP key l),<-ih,g l];simp[zN1]
def getN (n:Node)(key:Str):Option Str:=if n.leaf then lookP key (n.keys.zip n.vals)else none
theorem get_leaf (key:Str)(l:Kvs):getN (leafOf l) key=lookP key l:=by
 simp only[getN,leafOf,if_true];congr 1
 induction l with
 | nil=>rfl
 | cons p l ih=>simp[ih]
theorem leaf_shaped {l:Kvs}(h:Srt l)(h1: ∀p∈l,mayK p.1=true/\p.2.length<=200):shaped ltS (leafOf l)=true:=by
 simp only[shaped,leafOf,if_true,zE,zJ,List.all_eq_true,List.mem_map,forall_exists_index,and_imp,qM,true_and];exact⟨⟨fun x p hp e=>e▸(h1 p hp).1,(WA l).1 h⟩,fun x p hp e=>e▸(h1 p hp).2⟩
theorem look_zip {key:Str} : ∀ {ks vs:List Str} {i:Nat},(∀j,j<i->ks.getD j []≠key)->i<ks.length->ks.getD i []=key->lookP key (ks.zip vs)=vs[i]?
 | [],_,_,_,h,_=>by simp at h
 | k::ks,[],i,_,_,_=>by simp[lookP]
 | k::ks,v::vs,0,_,_,h=>by simp at h;simp[lookP,h]
 | k::ks,v::vs,i+1,h0,h1,h2=>by
  have h00:k≠key:=by simpa using h0 0 (by omega)
  have ih:=look_zip (key:=key) (ks:=ks) (vs:=vs) (i:=i) (fun j hj=>by simpa using h0 (j+1) (by omega)) (by simpa using h1) (by simpa using h2);simp only[List.zip_cons_cons,lookP,if_neg h00,List.getElem?_cons_succ,ih]
theorem look_zip0 {key:Str} : ∀ {ks vs:List Str},(∀j,j<ks.length->ks.getD j []≠key)->lookP key (ks.zip vs)=none
 | [],_,_=>by simp[lookP]
 | k::ks,[],_=>by simp[lookP]
 | k::ks,v::vs,h0=>by
  have h00:k≠key:=by simpa using h0 0 (by simp)
  have ih:=look_zip0 (key:=key) (ks:=ks) (vs:=vs) (fun j hj=>by simpa using h0 (j+1) (by simp;omega));simp only[List.zip_cons_cons,lookP,if_neg h00,ih]
end Go.Nd
namespace Go.Eng.Sh
open Go.Nd (Ptr sumL cutOk cutA cB whereN getN lookP)
theorem zBJ {f:Str->Bool}(l:List Str){i:Nat}(h:i<l.length):((l.take (i+1)).filter f).length=((l.take i).filter f).length+if f (l.getD i [])then 1 else 0:=by
 rw[zV h,List.filter_append,zM,kT h];congr 1
 cases hf:f l[i]<;>simp[hf]
theorem cE (D:Dyn)(n:Nat)(hn:200000000<=n){H:AH}(hk:H.ok){v:AV}{nd:Nd.Node}{key:Str}(h:uF H v nd)(hs:small nd):
  ∃H',f79 D n [v,S key] H=some (.int .i64 (whereN nd key:Nat),H')/\Prs H H':=by
 obtain⟨ks,vs,ps,rfl,h1,h2,h3⟩:=h;obtain⟨la,hla⟩: ∃la,la=nd.leaf:=⟨_,rfl⟩;rw[<-hla];have hkl:=Nd.sumL_ge nd.keys;obtain⟨s1,s2,s3⟩:=hs;obtain⟨H1,A1,b1,p1,g1,m1,n1⟩:=box hk (.cells [.bool la,ks,vs,ps] 119 1 false);have r1:=h1.prs p1;have lp:yJ n (JO D n) [S key, .ptr A1 0, .int .i64 ((0:Nat):Int),ks, .int .i64 (nd.keys.length:Nat), .int .i64 ((0:Nat):Int)] H1=some (.exit 0 [.int .i64 (whereN nd key:Nat)],H1):=by
  refine uJ (fun i=>[S key, .ptr A1 0, .int .i64 ((((nd.keys.take i).filter fun k=>ltS k key||(!nd.leaf&&decide (k=key))).length:Nat):Int),ks, .int .i64 (nd.keys.length:Nat), .int .i64 (i:Nat)]) nd.keys.length ?_ ?_ n (by omega)
  .intro i hi;obtain⟨p,i1,i2⟩:=r1.at hi;rw[<-kT (d:=[])]at i2;have hiI:((i:Nat):Int)< ((nd.keys.length:Nat):Int):=by omega
   rw[zBJ nd.keys hi,<-hla];have hle:((nd.keys.take i).filter fun k=>ltS k key||(!la&&decide (k=key))).length<=nd.keys.length:=Nat.le_trans (List.length_filter_le _ _) (by rw[zQ];omega);generalize((nd.keys.take i).filter fun k=>ltS k key||(!la&&decide (k=key))).length=c at hle;generalize nd.keys.getD i []=x at i2
   cases hx:ltS x key with
   | true=>simp(disch:=omega) only[JO,KU,eZ,hiI,i1,i2,hx,Int.natCast_add]
   | false=>
    cases la with
    | true=>simp(disch:=omega) only[JO,KU,eZ,hiI,i1,i2,hx,qV g1,Int.natCast_add,Nat.add_zero]
    | false=>
     by_cases he:x=key
     .subst he;simp(disch:=omega) only[JO,KU,eZ,hiI,i1,i2,hx,qV g1,Int.natCast_add]
     .simp(disch:=omega) only[JO,KU,eZ,hiI,i1,i2,hx,qV g1,he,Int.natCast_add,Nat.add_zero]
  .intro m;refine y9 ?_;rw[qN];simp only[JO,eZ,qJ,whereN]
 refine⟨H1, ?_,p1⟩;simp only[f79,eZ,b1,qV g1,h1.lnSl,lp,zGb]
theorem zIO (D:Dyn)(n:Nat){H:AH}{v:AV}{l:List Str}{key:Str}(h:Strs H v l)(hl:l.length<=1000000000)(hn:l.length<n):
  ∃z:Int,f124 D n [v,S key] H=some (.int .i64 z,H)/\((∃i:Nat,z=i/\i<l.length/\l.getD i []=key/\ ∀j,j<i->l.getD j []≠key)\/(z= -1/\ ∀j,j<l.length->l.getD j []≠key)):=by
 have lp:Fin (yJ n (fU D n) [v,S key, .int .i64 (l.length:Nat), .int .i64 ((0:Nat):Int)] H) fun x H'=>H'=H/\((∃i:Nat,x= .ret (.int .i64 (i:Nat))/\i<l.length/\l.getD i []=key/\ ∀j,j<i->l.getD j []≠key)\/(x= .exit 0 []/\ ∀j,j<l.length->l.getD j []≠key)):=by
  refine Fin.loop (fun k us H'=>H'=H/\ ∃i:Nat,us=[v,S key, .int .i64 (l.length:Nat), .int .i64 (i:Nat)]/\i<=l.length/\k=l.length - i/\ ∀j,j<i->l.getD j []≠key) ?_ n l.length _ H ⟨rfl,0,rfl,by omega,by omega,fun j hj=>by omega⟩ (by omega)
  rintro k us H' ⟨rfl,i,rfl,hi,rfl,hj⟩
  by_cases hlt:i<l.length
  .obtain⟨p,i1,i2⟩:=h.at hlt;rw[<-kT (d:=[])]at i2;have hiI:((i:Nat):Int)< ((l.length:Nat):Int):=by omega
   by_cases he:l.getD i []=key
   .rw[he]at i2;have e:fU D n [v,S key, .int .i64 (l.length:Nat), .int .i64 (i:Nat)] H'=some (.ret (.int .i64 (i:Nat)),H'):=by
     simp(disch:=omega) only[fU,eZ,hiI,i1,i2]
    rw[e];exact⟨_,_,rfl,rfl, .inl ⟨i,rfl,hlt,he,hj⟩⟩
   .have he': ¬key=l.getD i []:=fun e=>he e.symm
    have e:fU D n [v,S key, .int .i64 (l.length:Nat), .int .i64 (i:Nat)] H'=some (.norm [v,S key, .int .i64 (l.length:Nat), .int .i64 ((i+1:Nat):Int)],H'):=by
     simp(disch:=omega) only[fU,eZ,hiI,i1,i2,he',Int.natCast_add]
    rw[e];refine⟨_,_,rfl,l.length - (i+1),by omega,rfl,i+1,rfl,by omega,rfl,fun j hj'=> ?_⟩;rcases Nat.lt_succ_iff_lt_or_eq.1 hj' with h | rfl
    .exact hj j h
    .exact he
  .have hiI: ¬((i:Nat):Int)< ((l.length:Nat):Int):=by omega
   refine⟨.exit 0 [],H', ?_,rfl, .inr ⟨rfl,fun j hj'=>hj j (by omega)⟩⟩;simp only[fU,eZ,hiI]
 obtain⟨x,H',e,rfl,hx⟩:=lp;rcases hx with⟨i,rfl,h1,h2,h3⟩ | ⟨rfl,h1⟩
 .refine⟨i, ?_, .inl ⟨i,rfl,h1,h2,h3⟩⟩;simp only[f124,eZ,h.lnSl,e]
 .refine⟨-1, ?_, .inr ⟨rfl,h1⟩⟩;simp only[f124,eZ,h.lnSl,e,zD5];rfl
theorem zIV (D:Dyn)(n:Nat)(hn:200000000<=n){H:AH}(hk:H.ok){v:AV}{nd:Nd.Node}{key:Str}(h:uF H v nd)(hs:small nd):
  ∃H',f78 D n [v,S key] H=some (.tuple [S ((getN nd key).getD []), .bool (getN nd key).isSome],H')/\Prs H H':=by
 obtain⟨ks,vs,ps,rfl,h1,h2,h3⟩:=h;obtain⟨la,hla⟩: ∃la,la=nd.leaf:=⟨_,rfl⟩;simp only[getN];rw[<-hla];have hkl:=Nd.sumL_ge nd.keys;have hvl:=Nd.sumL_ge nd.vals;obtain⟨s1,s2,s3⟩:=hs;obtain⟨H1,A1,b1,p1,g1,m1,n1⟩:=box hk (.cells [.bool la,ks,vs,ps] 119 1 false);have hS:(AV.str 0 0)=S []:=rfl;refine⟨H1, ?_,p1⟩
 cases la with
 | false=>simp only[f78,eZ,b1,qV g1,hS,Option.getD_none,Option.isSome_none]
 | true=>
  obtain⟨z,e1,hz⟩:=zIO D n (key:=key) (h1.prs p1) (by omega) (by omega);rcases hz with⟨i,rfl,hi,he,hj⟩ | ⟨rfl,hj⟩
  .have hlk:=Nd.look_zip (vs:=nd.vals) hj hi he;have c1: ¬((i:Nat):Int)< ((0:Nat):Int):=by omega
   by_cases hv:i<nd.vals.length
   .obtain⟨p,i1,i2⟩:=(h2.prs p1).at hv;have c2: ¬((nd.vals.length:Nat):Int)<=((i:Nat):Int):=by omega
    rw[zG hv]at hlk;simp only[hlk,if_true];simp(disch:=omega) only[f78,eZ,b1,qV g1,e1,c1,h2.lnSl,c2,i1,i2,Option.getD_some,qS]
   .have c2:((nd.vals.length:Nat):Int)<=((i:Nat):Int):=by omega
    rw[List.getElem?_eq_none (by omega)]at hlk;simp only[hlk,if_true];simp(disch:=omega) only[f78,eZ,b1,qV g1,e1,c1,h2.lnSl,c2,hS,Option.getD_none,Option.isSome_none]
  .have hlk:=Nd.look_zip0 (vs:=nd.vals) hj;have c1:(-1:Int)< ((0:Nat):Int):=by omega
   simp only[hlk,if_true];simp(disch:=omega) only[f78,eZ,b1,qV g1,e1,c1,hS,Option.getD_none,Option.isSome_none]
end Go.Eng.Sh
end
section
namespace Go.Eng
theorem Y1 {k e n:Nat}{H:AH}{v:AV}{l:List AV}(h:j9 k e H v n l)(hpos:0<k)(h0:0<n)(κ:IntKind):
  ∃r,kX k v (some (.int κ (n:Nat))) none none H=some r/\Rw k H r 0 []:=by
 have n1:=yM κ (z:=((n:Nat):Int)) (by omega);simp only[qD]at n1;have hb:Nat.blt 0 k=true:=by rw[zR];exact hpos
 have b1:Nat.ble n n=true:=by rw[qA];exact Nat.le_refl _
 have b2:Nat.blt n n=false:=by rw[Bool.eq_false_iff];intro h;rw[zR]at h;omega
 have b3:Nat.beq n 0=false:=by rw[Bool.eq_false_iff];intro h;have:=Nat.eq_of_beq_eq_true h;omega
 rcases h with⟨h1,⟨rfl,rfl⟩ | ⟨A,rfl,hA,hg⟩⟩ | ⟨h1,A,e',g,rfl,hA,hg,hn0⟩
 .omega
 .have hroom:yO l true k 0 1 k=n:=by
   simp only[yO,show((1 % 2).beq 0)=false from rfl,cond_false,Nat.beq_refl,show Nat.beq 0 (1 / 2*k)=true from by simp,Bool.and_self,cond_true,yE,h1,Nat.sub_zero];exact Nat.mul_div_cancel _ hpos
  refine⟨.emptySl, ?_,⟨by simp, .inr (.inl ⟨rfl,rfl⟩)⟩⟩;simp only[kX,yT,n1,hg,hb,cond_true];simp[QY,hroom,b1,b2,b3,show Nat.beq 1 0=false from rfl]
 .have hroom:yO l g k 0 (2*n) k=n:=by
   simp only[yO,show((2*n) % 2).beq 0=true by rw[Nat.mul_mod_right];rfl,cond_true,Nat.mul_div_cancel_left n (show 0<2 by omega)]
  have b4:Nat.beq (2*n / 2) n=true:=by rw[Nat.mul_div_cancel_left n (show 0<2 by omega),Nat.beq_refl]
  refine⟨.slice A 0 0 (2*(2*n / 2 - n)), ?_,⟨by simp, .inr (.inr ⟨A,0,_,l,e',k,g,rfl,hg,hA,by omega,by simp⟩)⟩⟩;simp only[kX,yT,n1,hg,hb,cond_true];simp[QY,hroom,b1,b4,yG]
end Go.Eng
namespace Go.Eng.Sh
open Go.Nd (Ptr sumL)
theorem zAP (D:Dyn)(n:Nat){H:AH}(hk:H.ok){v:AV}{l:List Str}(h:j9 1 9 H v l.length (l.map S))(hl:l.length<=1000000000):
  ∃v' H',f108 D n [v] H=some (v',H')/\Prs H H'/\j9 1 9 H' v' l.length (l.map S)/\(∀B,Blk v' B->H.next<=B)/\(0<l.length->Own 1 9 H' v' l.length (l.map S)):=by
 have hr:=h.row;by_cases hv:v= .nilSlice
 .subst hv;have hl0:l=[]:=by
   rcases h with⟨_,⟨_,h0⟩ | ⟨A,h0,_⟩⟩ | ⟨_,A,_,_,h0,_⟩
   .exact zL h0
   .cases h0
   .cases h0
  subst hl0;refine⟨.nilSlice,H, ?_,Stp.refl hk, .inl (Own.nil ..),fun B hB=>(Blk.nil.1 hB).elim,fun h=>absurd h (by simp)⟩;have heq:bC .eql (eqS .nilSlice .nilSlice)=some (.bool true):=rfl;simp only[f108,eZ,heq]
 .have hne:v≠ .emptySl:=by
   rcases h with⟨_,⟨rfl,_⟩ | ⟨A,rfl,_⟩⟩ | ⟨_,A,_,_,rfl,_⟩<;>simp
  by_cases h0:l.length=0
  .obtain⟨v',H',e,p,g,f⟩:=K5 D n hk hr hv hne hl;exact⟨v',H',e,p,g,f,fun h=>absurd h (by omega)⟩
  .have p1:Prs H (H.push (.cells [] 9 1 false)):=(Stp.refl hk).push _;have g1:(H.push (.cells [] 9 1 false)).h.get H.next=some (.cells [] 9 1 false):=AH.push_get_eq _ _
   have n1:(H.push (.cells [] 9 1 false)).next=H.next+1:=rfl
   generalize hH1:H.push (.cells [] 9 1 false)=H1 at p1 g1 n1;have e2:=KF (k:=1) (e:=9) (bytes:=16) (n:=0) (m:=l.length) (off:=0) (new:=l.map S) p1.ok g1 (by simp) (by omega) (by omega) (by decide);have e3:apP 9 1 16 (.slice H.next 0 0 0) v H1=some (.slice H1.next 0 (0+l.length) 1,H1.push (.cells (([]:List AV).drop 0 |>.take (0*1) |> (· ++l.map S)) 9 1 true)):=by
    simp only[apP,(hr.prs p1).srcOf,wG,cond_true];exact e2
   have hz1:aU 9 1 0 [.str 0 0] []=some (.cells [] 9 1 false,fun A=> .slice A 0 0 0):=rfl;have heq:bC .eql (eqS v .nilSlice)=some (.bool false):=by
    rcases h with⟨_,⟨rfl,_⟩ | ⟨A,rfl,_⟩⟩ | ⟨_,A,_,_,rfl,_⟩
    .exact absurd rfl hv
    .rfl
    .rfl
   simp only[List.drop_nil,List.take_nil,List.nil_append,Nat.zero_add]at e3;have hO:Own 1 9 (H1.push (.cells (l.map S) 9 1 true)) (.slice H1.next 0 l.length 1) l.length (l.map S):=⟨by simp, .inr ⟨_,rfl,Nat.lt_succ_self _,AH.push_get_eq _ _⟩⟩
   refine⟨.slice H1.next 0 l.length 1,H1.push (.cells (l.map S) 9 1 true), ?_,p1.push _, .inl hO,fun B hB=>by rw[Blk.slice.1 hB];omega,fun _=>hO⟩
   simp only[f108,eZ,heq,hz1,yR hk,hH1,e3]
theorem zAb (D:Dyn)(n:Nat){H:AH}(hk:H.ok){v:AV}{l:List Str}{i B:Nat}{x:Str}(h:j9 1 9 H v l.length (l.map S))(ho:0<l.length->Own 1 9 H v l.length (l.map S))(hi:i<=l.length)(hl:l.length<=200000000)(hB:H.h.get B=some (.cells [S x] 9 1 false)):
  ∃v' H',zMT D n [v, .int .i64 (i:Nat), .slice B 0 1 2] H=some (v',H')/\Stp (Blk v) H H'/\j9 1 9 H' v' (l.take i++[x]++l.drop i).length ((l.take i++[x]++l.drop i).map S)/\ ∀C,Blk v' C->Blk v C\/H.next<=C:=by
 have hx:Strs H (.slice B 0 1 2) [x]:=Rw.lit (cc:=2) hk hB;have l1:lnSl (.slice B 0 1 2)=some (.int .i64 ((1:Nat):Int)):=rfl;have t10: ¬((1:Nat):Int)=((0:Nat):Int):=by omega
 by_cases hil:i=l.length
 .subst hil;have hs: ∃r,kX 1 v (some (.int .i64 (l.length:Nat))) none none H=some r:=by
   by_cases h0:0<l.length
   .obtain⟨r,e,_⟩:=Y1 h (by decide) h0 .i64;exact⟨r,e⟩
   .have hz:l.length=0:=by omega
    rw[hz];rcases h with⟨_,⟨rfl,_⟩ | ⟨A,rfl,_,hg⟩⟩ | ⟨_,A,e',g,rfl,_,hg,_⟩
    .exact⟨.nilSlice,rfl⟩
    .rw[hz];have:l=[]:=zL hz;subst this;exact⟨.slice A 0 0 1,by simp[kX,yT,yM,hg,QY,yG,yO,show Nat.blt 0 1=true from rfl,show Nat.ble 0 0=true from rfl,show Nat.beq 1 0=false from rfl,show Nat.beq 0 0=true from rfl,dI,show Nat.beq 1 1=true from rfl,fL,bne]⟩
    .rw[hz];have:l=[]:=zL hz;subst this;exact⟨.slice A 0 0 0,by simp[kX,yT,yM,hg,QY,yG,yO,show Nat.blt 0 1=true from rfl,show Nat.ble 0 0=true from rfl,show Nat.beq 0 0=true from rfl,dI]⟩
  obtain⟨r,hr⟩:=hs;obtain⟨v',H',e2,w2,s2,f2⟩:=h.app (bytes:=16) hk (by decide) hx.srcOf (by simp) (wG _) (by simp;omega) (by decide);refine⟨v',H', ?_,s2,by simpa using w2,f2⟩;have:f138 D n [v, .int .i64 (l.length:Nat), .slice B 0 1 2] H=some (v',H'):=by
   simp only[f138,eZ,hr,l1,t10,h.row.lnSl,e2]
  show zLJ (f138 D n) _ H=_;simp only[zLJ,this]
 .have hlt:i<l.length:=by omega
  have hO:=ho (by omega);obtain⟨_,⟨_,h0⟩ | ⟨A,rfl,hA,hg⟩⟩:=id hO
  .omega
  .obtain⟨r,hr,_⟩:=ZF h (by decide) hlt .i64;have hil': ¬((i:Nat):Int)=((l.length:Nat):Int):=by omega
   have hcap:zMB X 117 (.slice A 0 l.length 1)=none:=rfl;have hno:f138 D n [.slice A 0 l.length 1, .int .i64 (i:Nat), .slice B 0 1 2] H=none:=by
    simp(disch:=omega) only[f138,eZ,hr,l1,t10,h.row.lnSl,hil',hcap];rfl
   have b1:Nat.blt i l.length=true:=by rw[zR];exact hlt
   have b2:Nat.ble ((l.length+1)*16) 140737488355328=true:=by rw[qA];omega
   have hpd:(H.put A .dead).ok:=hk.put hA _;refine⟨.slice (H.put A .dead).next 0 (l.length+1) 1,(H.put A .dead).push (.cells ((l.map S).take i++[S x]++(l.map S).drop i) 9 1 true), ?_,((Stp.refl hk).put hA _ (.inr (Blk.slice.2 rfl))).push _, ?_,fun C hC=> .inr (by rw[Blk.slice.1 hC];exact Nat.le_refl _)⟩
   .show zLJ (f138 D n) _ H=_;simp only[zLJ,hno];show zMU 9 [.slice A 0 l.length 1, .int .i64 (.ofNat i), .slice B 0 1 2] H=_;simp only[zMU,hg,hB,b1,b2,wG,yE,qM,Nat.beq_refl,show Nat.blt 0 1=true from rfl,show Nat.beq 1 1=true from rfl,show Nat.beq 0 0=true from rfl,show Nat.beq 9 9=true from rfl,Bool.and_self,Bool.not_false,cond_true,xW,takeN,qY,QT,yX,fG,dH hpd,yG]
   .have hlen:(l.take i++[x]++l.drop i).length=l.length+1:=by simp;omega
    have hmap:(l.take i++[x]++l.drop i).map S=(l.map S).take i++[S x]++(l.map S).drop i:=by simp
    rw[hlen,hmap];exact .inl ⟨by simp;omega, .inr ⟨_,rfl,Nat.lt_succ_self _,AH.push_get_eq _ _⟩⟩
end Go.Eng.Sh
end
section
namespace Go.Eng
theorem Own.set1 {e:Nat}{H:AH}{v:AV}{l:List Str}(hk:H.ok)(h:Own 1 e H v l.length (l.map S)){i:Nat}(hi:i<l.length)(x:Str):
  ∃p H',(∀κ (z:Int),z=(i:Int)->dK 1 v (.int κ z)=some p)/\stN 1 p (S x) H=some (qZ,H')/\Own 1 e H' v (l.set i x).length ((l.set i x).map S)/\Stp (Blk v) H H':=by
 obtain⟨h0,⟨_,h1⟩ | ⟨A,rfl,hA,hg⟩⟩:=h
 .omega
 .have hb:Nat.blt i l.length=true:=by rw[zR];exact hi
  refine⟨.ptr A (0+i*1),_,fun κ z hz=> ?_,fH hg (by decide) (QT x) (by simpa using hi),⟨by simp, .inr ⟨A,by simp,hA,by rw[AH.put_get,if_pos rfl];simp[List.map_set]⟩⟩,(Stp.refl hk).put hA _ (.inr (Blk.slice.2 rfl))⟩;subst hz;simp only[dK,yM κ (show(0:Int)<=(i:Int)by omega),qD,hb,cond_true,yG]
end Go.Eng
namespace Go.Eng.Sh
open Go.Nd (Ptr sumL whereN hereN zIs)
def zDN (nd:Nd.Node)(key value:Str):Bool:=Nd.shaped ltS nd&&nd.leaf&&Nd.mayK key&&decide (value.length<=200)
theorem zIr (D:Dyn)(n:Nat)(hn:200000000<=n){H:AH}(hk:H.ok){v:AV}{nd:Nd.Node}{key value:Str}(h:yK H v nd)(hs:small nd):
  ∃u H',f89 D n [v,S key,S value] H=some (.tuple [u, .int .i64 ((if zDN nd key value then 0 else 1:Nat):Int)],H')/\Prs H H'/\wO H.next H' u (if zDN nd key value then zIs nd key value else nd0):=by
 have i0:=h.node;obtain⟨ks,vs,ps,rfl,h1,h2,h3⟩:=h;have hkl:=Nd.sumL_ge nd.keys;have hvl:=Nd.sumL_ge nd.vals;have s0:=hs;obtain⟨s1,s2,s3⟩:=hs;obtain⟨la,hla⟩: ∃la,la=nd.leaf:=⟨_,rfl⟩;obtain⟨po,hpo⟩: ∃po,po=zDN nd key value:=⟨_,rfl⟩;rw[<-hpo,<-hla];rw[<-hla]at i0;simp only[zDN,<-hla]at hpo;obtain⟨H1,A1,b1,p1,g1,m1,n1⟩:=box hk (.cells [.bool la,ks,vs,ps] 119 1 false);obtain⟨H2,A2,b2,p2,g2,m2,n2⟩:=box p1.ok (.cells [.bool false, .nilSlice, .nilSlice, .nilSlice] 119 1 false);have P2:Prs H H2:=p1.trans p2;have g12:=p2.get p1.ok g1;obtain⟨H4,e4,p4⟩:=vE D n P2.ok (i0.prs P2) s0 hn;have P4:=P2.trans p4;have g14:=p4.get P2.ok g12;have g24:=p4.get P2.ok g2;obtain⟨Hr,er,gr,sr,nr⟩:=yD P4.ok g24 (l':=[.bool false, .nilSlice, .nilSlice, .nilSlice]) rfl rfl;have er':stN 4 (.ptr A2 0) (.agg [.bool false, .nilSlice, .nilSlice, .nilSlice]) H4=some (qZ,Hr):=er;have Pr:Prs H Hr:=P4.fresh sr (fun B hB=>by omega);have lr:=v7 gr rfl
 cases c1:Nd.shaped ltS nd with
 | false=>
  simp only[c1,Bool.false_and,Bool.and_false]at hpo;subst hpo;refine⟨.agg [.bool false, .nilSlice, .nilSlice, .nilSlice],Hr, ?_,Pr,wO.zero _ _⟩;simp only[Bool.false_eq_true,if_false];simp(maxSteps:=999999)(disch:=omega) only[f89,eZ,b1,b2,y6 g12,hJ,Option.map_some,e4,c1,dT,er',lr]
 | true=>
 cases la with
 | false=>
  simp only[Bool.false_and,Bool.and_false]at hpo;subst hpo;refine⟨.agg [.bool false, .nilSlice, .nilSlice, .nilSlice],Hr, ?_,Pr,wO.zero _ _⟩;simp only[Bool.false_eq_true,if_false];simp(maxSteps:=999999)(disch:=omega) only[f89,eZ,b1,b2,y6 g12,hJ,Option.map_some,e4,c1,qV g14,dT,er',lr]
 | true=>
 cases c2:Nd.mayK key with
 | false=>
  simp only[c2,Bool.false_and,Bool.and_false]at hpo;subst hpo;refine⟨.agg [.bool false, .nilSlice, .nilSlice, .nilSlice],Hr, ?_,Pr,wO.zero _ _⟩;simp only[Bool.false_eq_true,if_false];simp(maxSteps:=999999)(disch:=omega) only[f89,eZ,b1,b2,y6 g12,hJ,Option.map_some,e4,c1,qV g14,yZ,c2,dT,er',lr]
 | true=>
 by_cases c3:value.length<=200
 case neg=>
  have c3':((200:Nat):Int)< ((value.length:Nat):Int):=by omega
  simp only[c3,decide_false,Bool.and_false]at hpo;subst hpo;refine⟨.agg [.bool false, .nilSlice, .nilSlice, .nilSlice],Hr, ?_,Pr,wO.zero _ _⟩
  .simp only[Bool.false_eq_true,if_false];simp(maxSteps:=999999)(disch:=omega) only[f89,eZ,b1,b2,y6 g12,hJ,Option.map_some,e4,c1,qV g14,yZ,c2,c3',dT,er',lr]
 case pos=>
 have c3': ¬((200:Nat):Int)< ((value.length:Nat):Int):=by omega
 simp only[c1,c2,c3,decide_true,Bool.and_self]at hpo;subst hpo;simp only[if_true];have hvk:nd.vals.length=nd.keys.length:=by
  simp only[Nd.shaped,<-hla,if_true,zE,zJ]at c1;exact c1.2.1.1
 obtain⟨H5,A3,b5,p5,g5,m5,n5⟩:=box P4.ok (.cells [.bool false, .nilSlice, .nilSlice, .nilSlice] 119 1 false);have P5:=P4.trans p5;have up1 {Hx:AH} (p:Prs H4 Hx):=Prs.get p P4.ok g14;have up2 {Hx:AH} (p:Prs H4 Hx):=Prs.get p P4.ok g24;have q1 {Hx:AH} (p:Prs H Hx):j9 1 9 Hx ks nd.keys.length (nd.keys.map S):=h1.mono p (fun _ _ x=>x);have q2 {Hx:AH} (p:Prs H Hx):j9 1 9 Hx vs nd.vals.length (nd.vals.map S):=h2.mono p (fun _ _ x=>x);obtain⟨w1,H6,e6,p6,o6,f6,t6⟩:=zAP D n P5.ok (q1 P5) (by omega);have P6:=P5.trans p6;obtain⟨w2,H7,e7,p7,o7,f7,t7⟩:=zAP D n P6.ok (q2 P6) (by omega);have P7:=P6.trans p7;obtain⟨H8,e8,g8,s8,n8⟩:=yD P7.ok (Prs.get (p6.trans p7) P5.ok g5) (l':=[.bool true,w1,w2, .nilSlice]) rfl (by simp only[qY,o6.row.isCell,o7.row.isCell];rfl);have e8':stN 4 (.ptr A3 0) (.agg [.bool true,w1,w2, .nilSlice]) H7=some (qZ,H8):=e8;have N6:=p6.next
 have N7:=p7.next
 have p47:Prs H4 H7:=(p5.trans p6).trans p7;have p48:Prs H4 H8:=p47.fresh s8 (fun B hB=>by omega);have P8:=P4.trans p48;have k1:j9 1 9 H8 w1 nd.keys.length (nd.keys.map S):=(o6.mono p7 (fun _ _ x=>x)).mono s8 (fun B hB e=>by have:=f6 B hB;omega);have k2:j9 1 9 H8 w2 nd.vals.length (nd.vals.map S):=o7.mono s8 (fun B hB e=>by have:=f7 B hB;omega);have b1k: ∀B,Blk w1 B->A3<B/\B<H6.next:=fun B hB=>⟨by have:=f6 B hB;omega,o6.lt hB⟩
 have b2k: ∀B,Blk w2 B->H6.next<=B/\B<H8.next:=fun B hB=>⟨f7 B hB,k2.lt hB⟩
 obtain⟨H9,e9,p9⟩:=cE D n hn P8.ok (key:=key) (i0.prs P8) s0;have P9:=P8.trans p9;have p49:Prs H4 H9:=p48.trans p9;have g39:=p9.get P8.ok g8;have hle:=Nd.whereN_le nd key;have hln:=h1.row.lnSl;have N9:=p9.next
 have N5:=p5.next
 have N4:=p4.next
 have fin: ∀ {Hx:AH} {l:List AV},Prs H Hx->Hx.h.get A2=some (.cells [.bool false, .nilSlice, .nilSlice, .nilSlice] 119 1 false)->l.length=4->qY l=true-> ∃Hy,stN 4 (.ptr A2 0) (.agg l) Hx=some (qZ,Hy)/\Prs H Hy/\Stp (fun B=>B=A2) Hx Hy/\ldN 4 (.ptr A2 0) Hy=some (.agg l):=fun {Hx l} px hg hl hc=>by
  obtain⟨Hy,e,g,s,_⟩:=yD px.ok hg hl hc;have e':stN 4 (.ptr A2 0) (.agg l) Hx=some (qZ,Hy):=e;exact⟨Hy,e',px.fresh s (fun B hB=>by omega),s,v7 g hl⟩
 obtain⟨H10,B1,b10,p10,g10,m10,n10⟩:=box P9.ok (.cells [S key] 9 1 false);have Q10:Prs H4 H10:=p49.trans p10;have ow1:0<nd.keys.length->Own 1 9 H10 w1 nd.keys.length (nd.keys.map S):=fun h=>(((t6 h).mono p7 (fun _ _ x=>x)).mono s8 (fun B hB e=>by have:=f6 B hB;omega)).mono (p9.trans p10) (fun _ _ x=>x)
 obtain⟨w1',H11,e11,s11,o11,f11⟩:=zAb D n p10.ok (k1.mono (p9.trans p10) (fun _ _ x=>x)) ow1 hle (by omega) (x:=key) g10;have g3a:H11.h.get A3=some (.cells [.bool true,w1,w2, .nilSlice] 119 1 false):=by rw[s11.keep _ (by have:=p10.next;omega) (fun hB=>by have:=b1k _ hB;omega)];exact p10.get P9.ok g39
 have Q11:Prs H4 H11:=Q10.fresh s11 (fun B hB=>by have:=b1k B hB;omega);obtain⟨H12,e12,g12',s12,n12⟩:=kJ Q11.ok g3a (o:=1) (x:=w1') o11.row.isCell (by simp);have g12':H12.h.get A3=some (.cells [.bool true,w1',w2, .nilSlice] 119 1 false):=g12';have Q12:Prs H4 H12:=Q11.fresh s12 (fun B hB=>by omega);obtain⟨H13,B2,b13,p13,g13,m13,n13⟩:=box Q12.ok (.cells [S value] 9 1 false);have Q13:Prs H4 H13:=Q12.trans p13;have d12: ∀B,Blk w2 B-> ¬Blk w1 B:=fun B hB hB'=>by have:=b1k B hB';have:=b2k B hB;omega
 have kw2:j9 1 9 H13 w2 nd.vals.length (nd.vals.map S):=(((k2.mono (p9.trans p10) (fun _ _ x=>x)).mono s11 d12).mono s12 (fun B hB e=>by have:=b2k B hB;omega)).mono p13 (fun _ _ x=>x);have ow2:0<nd.vals.length->Own 1 9 H13 w2 nd.vals.length (nd.vals.map S):=fun h=>(((((t7 h).mono s8 (fun B hB e=>by have:=f7 B hB;omega)).mono (p9.trans p10) (fun _ _ x=>x)).mono s11 d12).mono s12 (fun B hB e=>by have:=b2k B hB;omega)).mono p13 (fun _ _ x=>x)
 obtain⟨w2',H14,e14,s14,o14,f14⟩:=zAb D n p13.ok kw2 ow2 (i:=whereN nd key) (by omega) (by omega) (x:=value) g13;have N10:=p10.next
 have N11:=s11.next
 have N12:=s12.next
 have N13:=p13.next
 have g3b:H14.h.get A3=some (.cells [.bool true,w1',w2, .nilSlice] 119 1 false):=by rw[s14.keep _ (by omega) (fun hB=>by have:=b2k _ hB;omega)];exact p13.get Q12.ok g12'
 have Q14:Prs H4 H14:=Q13.fresh s14 (fun B hB=>by have:=b2k B hB;omega);obtain⟨H15,e15,g15,s15,n15⟩:=kJ Q14.ok g3b (o:=2) (x:=w2') o14.row.isCell (by simp);have g15:H15.h.get A3=some (.cells [.bool true,w1',w2', .nilSlice] 119 1 false):=g15;have Q15:Prs H4 H15:=Q14.fresh s15 (fun B hB=>by omega);have c15:qY [.bool true,w1',w2', .nilSlice]=true:=by simp only[qY,o11.row.isCell,o14.row.isCell];rfl
 obtain⟨Hz,ez,Pz,sz,lz⟩:=fin (l:=[.bool true,w1',w2', .nilSlice]) (P4.trans Q15) (up2 Q15) rfl c15;have bw1: ∀B,Blk w1' B->A3<B/\(B<H6.next\/H10.next<=B):=fun B hB=>by
  rcases f11 B hB with h | h
  .have:=b1k B h;omega
  .omega
 have bw2: ∀B,Blk w2' B->A3<B:=fun B hB=>by
  rcases f14 B hB with h | h
  .have:=b2k B h;omega
  .omega
 have NN0:=P4.next
 have rz:wO H.next Hz (.agg [.bool true,w1',w2', .nilSlice]) ⟨true,nd.keys.take (whereN nd key)++[key]++nd.keys.drop (whereN nd key),nd.vals.take (whereN nd key)++[value]++nd.vals.drop (whereN nd key),[]⟩:=
  ⟨⟨w1',w2', .nilSlice,rfl,((((o11.mono s12 (fun B hB e=>by have:=bw1 B hB;omega)).mono p13 (fun _ _ x=>x)).mono s14 (fun B hB hB'=>by have:=bw1 B hB;have:=b2k B hB';omega)).mono s15 (fun B hB e=>by have:=bw1 B hB;omega)).mono sz (fun B hB e=>by have:=bw1 B hB;omega),
   (o14.mono s15 (fun B hB e=>by have:=bw2 B hB;omega)).mono sz (fun B hB e=>by have:=bw2 B hB;omega), .inl (Own.nil ..)⟩,fun B hB=>by
     rcases jK.1 hB with h | h | h
     .have:=bw1 B h;omega
     .have:=bw2 B h;omega
     .exact(Blk.nil.1 h).elim⟩
 by_cases hlt:whereN nd key<nd.keys.length
 .obtain⟨q,j1,j2⟩:=(q1 P9).row |> (fun(r:Strs H9 ks nd.keys)=>r.at hlt);rw[<-kT (d:=[])]at j2;have hltI:((whereN nd key:Nat):Int)< ((nd.keys.length:Nat):Int):=by omega
  by_cases heq:nd.keys.getD (whereN nd key) []=key
  .have hh:hereN nd key=true:=by simp only[hereN,heq,decide_true,Bool.and_true,zJ];exact hlt
   rw[heq]at j2;have t7':=(t7 (by omega)).mono s8 (fun B hB e=>by have:=f7 B hB;omega);obtain⟨p,H10,i1,i2,i3,i4⟩:=Own.set1 P9.ok (t7'.mono p9 (fun _ _ x=>x)) (i:=whereN nd key) (by omega) value;have P10:Prs H H10:=P9.fresh i4 (fun B hB=>by have:=b2k B hB;have:=P5.next;omega)
   have g3':H10.h.get A3=some (.cells [.bool true,w1,w2, .nilSlice] 119 1 false):=by rw[i4.keep _ (by omega) (fun hB=>by have:=b2k _ hB;omega)];exact g39
   have g2':H10.h.get A2=some (.cells [.bool false, .nilSlice, .nilSlice, .nilSlice] 119 1 false):=by rw[i4.keep _ (by omega) (fun hB=>by have:=b2k _ hB;omega)];exact up2 p49
   obtain⟨Hy,ey,Py,sy,ly⟩:=fin (l:=[.bool true,w1,w2, .nilSlice]) P10 g2' rfl (by simp only[qY,o6.row.isCell,o7.row.isCell];rfl);refine⟨.agg [.bool true,w1,w2, .nilSlice],Hy, ?_,Py, ?_⟩
   .simp(maxSteps:=999999)(disch:=omega) only[f89,eZ,b1,b2,y6 g12,hJ,Option.map_some,e4,c1,qV g14,yZ,c2,c3',b5,e6,yV (qV (up1 (p5.trans p6)) 2) (yN h2.row),e7,zHp _ o6.row.isCell o7.row.isCell,e8',y6 (up1 p48),e9,qV (up1 p49),hln,hltI,j1,j2,qV g39,i1,i2,v7 g3' rfl,ey,ly]
   .have:zIs nd key value=⟨true,nd.keys,nd.vals.set (whereN nd key) value,[]⟩:=by simp only[zIs,hh,if_true]
    rw[this];have NN:=P4.next
    refine⟨⟨w1,w2, .nilSlice,rfl, ?_, ?_, .inl (Own.nil ..)⟩,fun B hB=>by
     rcases jK.1 hB with h | h | h
     .have:=b1k B h;omega
     .have:=b2k B h;omega
     .exact(Blk.nil.1 h).elim⟩
    .exact((k1.mono p9 (fun _ _ x=>x)).mono i4 (fun B hB hB'=>by have:=b1k B hB;have:=b2k B hB';omega)).mono sy (fun B hB e=>by have:=b1k B hB;omega)
    .exact .inl (i3.mono sy (fun B hB e=>by have:=b2k B hB;omega))
  .have hh:hereN nd key=false:=by simp only[hereN,heq,decide_false,Bool.and_false]
   refine⟨.agg [.bool true,w1',w2', .nilSlice],Hz, ?_,Pz, ?_⟩
   .simp(maxSteps:=999999)(disch:=omega) only[f89,eZ,b1,b2,y6 g12,hJ,Option.map_some,e4,c1,qV g14,yZ,c2,c3',b5,e6,yV (qV (up1 (p5.trans p6)) 2) (yN h2.row),e7,zHp _ o6.row.isCell o7.row.isCell,e8',y6 (up1 p48),e9,qV (up1 p49),hln,hltI,j1,j2,heq,qV g39,zK4 9 (.str 0 0) (QT key),b10,e11,e12,qV g12',zK4 9 (.str 0 0) (QT value),b13,e14,e15,v7 g15 rfl,ez,lz]
   .simp only[zIs,hh,Bool.false_eq_true,if_false];exact rz
 .have hh:hereN nd key=false:=by simp only[hereN,hlt,decide_false,Bool.false_and]
  have hltI: ¬((whereN nd key:Nat):Int)< ((nd.keys.length:Nat):Int):=by omega
  refine⟨.agg [.bool true,w1',w2', .nilSlice],Hz, ?_,Pz, ?_⟩
  .simp(maxSteps:=999999)(disch:=omega) only[f89,eZ,b1,b2,y6 g12,hJ,Option.map_some,e4,c1,qV g14,yZ,c2,c3',b5,e6,yV (qV (up1 (p5.trans p6)) 2) (yN h2.row),e7,zHp _ o6.row.isCell o7.row.isCell,e8',y6 (up1 p48),e9,qV (up1 p49),hln,hltI,qV g39,zK4 9 (.str 0 0) (QT key),b10,e11,e12,qV g12',zK4 9 (.str 0 0) (QT value),b13,e14,e15,v7 g15 rfl,ez,lz]
  .simp only[zIs,hh,Bool.false_eq_true,if_false];exact rz
open Go.Nd (zN1)
theorem hi1 {H:AH}{v:AV}{l:List Str}(h:j9 1 9 H v l.length (l.map S)){i:Nat}(hi:i<=l.length):
  ∃r,kX 1 v none (some (.int .i64 (i:Nat))) (some (.int .i64 (i:Nat))) H=some r/\Strs H r (l.take i):=by
 obtain⟨r,e1,w,_⟩:=V8 h (by decide) hi .i64 .i64;rw[map_take]at w;have hlen:(l.take i).length=i:=by rw[zQ];omega
 exact⟨r,e1,by rw[Strs,hlen];exact w⟩
theorem lo1 {H:AH}{v:AV}{l:List Str}(h:j9 1 9 H v l.length (l.map S)){i:Nat}(hi:i<=l.length)(h0:0<l.length):
  ∃r,kX 1 v (some (.int .i64 (i:Nat))) none none H=some r/\Strs H r (l.drop i):=by
 by_cases hlt:i<l.length
 .obtain⟨r,e1,w,_⟩:=ZF h (by decide) hlt .i64;rw[map_drop]at w;have hlen:(l.drop i).length=l.length - i:=by rw[zU]
  exact⟨r,e1,by rw[Strs,hlen];exact w⟩
 .obtain rfl:i=l.length:=by omega
  obtain⟨r,e1,w⟩:=Y1 h (by decide) h0 .i64;exact⟨r,e1,by rw[List.drop_length];exact w⟩
def zN2 (nd:Nd.Node)(key:Str):Nat:=if Nd.shaped ltS nd&&nd.leaf then(if hereN nd key then 0 else 5)else 1
theorem zJg (D:Dyn)(n:Nat)(hn:200000000<=n){H:AH}(hk:H.ok){v:AV}{nd:Nd.Node}{key:Str}(h:yK H v nd)(hs:small nd):
  ∃u H',f84 D n [v,S key] H=some (.tuple [u, .int .i64 ((zN2 nd key:Nat):Int)],H')/\Prs H H'/\wO H.next H' u (if zN2 nd key=0 then zN1 nd key else nd0):=by
 have i0:=h.node;obtain⟨ks,vs,ps,rfl,h1,h2,h3⟩:=h;have hkl:=Nd.sumL_ge nd.keys;have hvl:=Nd.sumL_ge nd.vals;have s0:=hs;obtain⟨s1,s2,s3⟩:=hs;obtain⟨la,hla⟩: ∃la,la=nd.leaf:=⟨_,rfl⟩;obtain⟨po,hpo⟩: ∃po,po=zN2 nd key:=⟨_,rfl⟩;rw[<-hpo,<-hla];rw[<-hla]at i0;simp only[zN2,<-hla]at hpo;obtain⟨H1,A1,b1,p1,g1,m1,n1⟩:=box hk (.cells [.bool la,ks,vs,ps] 119 1 false);obtain⟨H2,A2,b2,p2,g2,m2,n2⟩:=box p1.ok (.cells [.bool false, .nilSlice, .nilSlice, .nilSlice] 119 1 false);have P2:Prs H H2:=p1.trans p2;have g12:=p2.get p1.ok g1;obtain⟨H4,e4,p4⟩:=vE D n P2.ok (i0.prs P2) s0 hn;have P4:=P2.trans p4;have g14:=p4.get P2.ok g12;have g24:=p4.get P2.ok g2;have fin: ∀ {Hx:AH} {l:List AV},Prs H4 Hx->l.length=4->qY l=true-> ∃Hy,stN 4 (.ptr A2 0) (.agg l) Hx=some (qZ,Hy)/\Prs H Hy/\Stp (fun B=>B=A2) Hx Hy/\ldN 4 (.ptr A2 0) Hy=some (.agg l):=fun {Hx l} px hl hc=>by
  obtain⟨Hy,e,g,s,_⟩:=yD px.ok (Prs.get px P4.ok g24) hl hc;have e':stN 4 (.ptr A2 0) (.agg l) Hx=some (qZ,Hy):=e;exact⟨Hy,e',(P4.trans px).fresh s (fun B hB=>by omega),s,v7 g hl⟩
 obtain⟨Hr,er,Pr,sr,lr⟩:=fin (Prs.refl P4.ok) (l:=[.bool false, .nilSlice, .nilSlice, .nilSlice]) rfl rfl
 cases c1:Nd.shaped ltS nd with
 | false=>
  simp only[c1,Bool.false_and,Bool.false_eq_true,if_false]at hpo;subst hpo;refine⟨.agg [.bool false, .nilSlice, .nilSlice, .nilSlice],Hr, ?_,Pr,wO.zero _ _⟩;simp(maxSteps:=999999)(disch:=omega) only[f84,eZ,b1,b2,y6 g12,hJ,Option.map_some,e4,c1,dT,er,lr]
 | true=>
 cases la with
 | false=>
  simp only[Bool.and_false,Bool.false_eq_true,if_false]at hpo;subst hpo;refine⟨.agg [.bool false, .nilSlice, .nilSlice, .nilSlice],Hr, ?_,Pr,wO.zero _ _⟩;simp(maxSteps:=999999)(disch:=omega) only[f84,eZ,b1,b2,y6 g12,hJ,Option.map_some,e4,c1,qV g14,dT,er,lr]
 | true=>
 have hvk:nd.vals.length=nd.keys.length:=by
  simp only[Nd.shaped,<-hla,if_true,zE,zJ]at c1;exact c1.2.1.1
 simp only[c1,Bool.and_self,if_true]at hpo;obtain⟨H5,e5,p5⟩:=cE D n hn P4.ok (key:=key) (i0.prs P4) s0;have P5:=P4.trans p5;have g15:=p5.get P4.ok g14;have hle:=Nd.whereN_le nd key;have hln:=h1.row.lnSl;obtain⟨Hs,es,Ps,ss,ls⟩:=fin p5 (l:=[.bool false, .nilSlice, .nilSlice, .nilSlice]) rfl rfl;have q1 {Hx:AH} (p:Prs H Hx):j9 1 9 Hx ks nd.keys.length (nd.keys.map S):=h1.mono p (fun _ _ x=>x);have q2 {Hx:AH} (p:Prs H Hx):j9 1 9 Hx vs nd.vals.length (nd.vals.map S):=h2.mono p (fun _ _ x=>x);by_cases hlt:whereN nd key<nd.keys.length
 case neg=>
  have hh:hereN nd key=false:=by simp only[hereN,hlt,decide_false,Bool.false_and]
  have hltI:((nd.keys.length:Nat):Int)<=((whereN nd key:Nat):Int):=by omega
  simp only[hh,Bool.false_eq_true,if_false]at hpo;subst hpo;refine⟨.agg [.bool false, .nilSlice, .nilSlice, .nilSlice],Hs, ?_,Ps,wO.zero _ _⟩;simp(maxSteps:=999999)(disch:=omega) only[f84,eZ,b1,b2,y6 g12,hJ,Option.map_some,e4,c1,qV g14,y6 g14,e5,qV g15,hln,hltI,dT,es,ls]
 case pos=>
 obtain⟨q,j1,j2⟩:=(q1 P5).row |> (fun(r:Strs H5 ks nd.keys)=>r.at hlt);rw[<-kT (d:=[])]at j2;have hltI: ¬((nd.keys.length:Nat):Int)<=((whereN nd key:Nat):Int):=by omega
 by_cases heq:nd.keys.getD (whereN nd key) []=key
 case neg=>
  have hh:hereN nd key=false:=by simp only[hereN,heq,decide_false,Bool.and_false]
  simp only[hh,Bool.false_eq_true,if_false]at hpo;subst hpo;refine⟨.agg [.bool false, .nilSlice, .nilSlice, .nilSlice],Hs, ?_,Ps,wO.zero _ _⟩;simp(maxSteps:=999999)(disch:=omega) only[f84,eZ,b1,b2,y6 g12,hJ,Option.map_some,e4,c1,qV g14,y6 g14,e5,qV g15,hln,hltI,j1,j2,ne_eq,heq,not_false_eq_true,dT,es,ls]
 case pos=>
 have hh:hereN nd key=true:=by simp only[hereN,heq,decide_true,Bool.and_true,zJ];exact hlt
 simp only[hh,if_true]at hpo;subst hpo;generalize hw:whereN nd key=i at*
 obtain⟨r1,c1',x1⟩:=hi1 (q1 P5) (i:=i) (by omega);obtain⟨r2,c2',x2⟩:=lo1 (q1 P5) (i:=i+1) (by omega) (by omega);obtain⟨r3,c3',x3⟩:=hi1 (q2 P5) (i:=i) (by omega);obtain⟨r4,c4',x4⟩:=lo1 (q2 P5) (i:=i+1) (by omega) (by omega);obtain⟨H6,A6,b6,p6,g6,m6,n6⟩:=box P5.ok (.cells [r1,r2] 117 1 false);have P6:=P5.trans p6;obtain⟨H7,A7,b7,p7,g7,m7,n7⟩:=box P6.ok (.cells [r3,r4] 117 1 false);have P7:=P6.trans p7;have p57:Prs H5 H7:=p6.trans p7;obtain⟨w8,H8,e8,p8,o8,f8⟩:=zJk D n (cc:=4) P7.ok (p7.get P6.ok g6) (x1.prs p57) (x2.prs p57) (by simp only[zQ,zU];omega) (by omega);have P8:=P7.trans p8;have p58:=p57.trans p8;obtain⟨w9,H9,e9,p9,o9,f9⟩:=zJk D n (cc:=4) P8.ok (p8.get P7.ok g7) (x3.prs p58) (x4.prs p58) (by simp only[zQ,zU];omega) (by omega);have p59:=p58.trans p9;obtain⟨Hy,ey,Py,sy,ly⟩:=fin (p5.trans p59) (l:=[.bool true,w8,w9, .nilSlice]) rfl (by simp only[qY,o8.row.isCell,o9.row.isCell];rfl);have N7:=p57.next;have N5:=p5.next;have N4:=p4.next;have N8:=p8.next
 simp only[Int.natCast_add]at c2' c4';have up {Hx:AH} (p:Prs H5 Hx):=Prs.get p P5.ok g15;refine⟨.agg [.bool true,w8,w9, .nilSlice],Hy, ?_,Py, ?_⟩
 .simp(maxSteps:=999999)(disch:=omega) only[f84,eZ,b1,b2,y6 g12,hJ,Option.map_some,e4,c1,qV g14,y6 g14,e5,qV g15,hln,hltI,j1,j2,ne_eq,heq,not_true_eq_false,c1',c2',zNt 117 .nilSlice x1.isCell x2.isCell rfl,b6,qV (up p6),xD (q2 P5) (q2 P6) (by decide),c3',c4',zNt 117 .nilSlice x3.isCell x4.isCell rfl,b7,e8,
   yV (qV (up p58) 2) (yN h2.row),xD (q2 P5) (q2 P8) (by decide),yV rfl (yN x3),yV rfl (yN x4),e9,zHp _ o8.row.isCell o9.row.isCell,ey,ly]
 .simp only[if_true,zN1,hw];have NN:=P7.next
  exact⟨⟨w8,w9, .nilSlice,rfl, .inl ((o8.mono p9 (fun _ _ x=>x)).mono sy (fun B hB e=>by have:=f8 B hB;omega)), .inl (o9.mono sy (fun B hB e=>by have:=f9 B hB;omega)), .inl (Own.nil ..)⟩,fun B hB=>by
   rcases jK.1 hB with h | h | h
   .have:=f8 B h;omega
   .have:=f9 B h;omega
   .exact(Blk.nil.1 h).elim⟩
end Go.Eng.Sh
end
section
namespace Go.Bt
open Go.Nd (Str Kvs lookP putP delP Srt leafOf mayK rising sumL)
open Go.Eng (ltS kY jN ZN uA bK)
abbrev Bd:=Option Str
def zFH:Bd->Str->Prop
 | none,_=>True
 | some a,k=>a=k\/ltS a k=true
def zBz:Bd->Str->Prop
 | none,_=>True
 | some a,k=>ltS a k=true
def hiB:Bd->Str->Prop
 | none,_=>True
 | some b,k=>ltS k b=true
theorem zBz.low {b:Bd}{k:Str}(h:zBz b k):zFH b k:=by
 cases b with
 | none=>trivial
 | some a=>exact .inr h
theorem VL {a b c:Str}(h:a=b\/ltS a b=true)(k:ltS b c=true):ltS a c=true:=by
 rcases h with rfl | h
 .exact k
 .exact jN h k
theorem vH {a b c:Str}(h:ltS a b=true)(k:b=c\/ltS b c=true):ltS a c=true:=by
 rcases k with rfl | k
 .exact h
 .exact jN h k
theorem le_trans {a b c:Str}(h:a=b\/ltS a b=true)(k:b=c\/ltS b c=true):a=c\/ltS a c=true:=by
 rcases k with rfl | k
 .exact h
 .exact .inr (VL h k)
theorem not_lt {a b:Str}(h: ¬ltS a b=true):b=a\/ltS b a=true:=by
 cases k:ltS b a with
 | true=>exact .inr rfl
 | false=>exact .inl (ZN k (by simpa using h))
theorem zLA {b:Bd}{k x:Str}(h:zFH b k)(hk:ltS k x=true):zBz b x:=by
 cases b with
 | none=>trivial
 | some a=>exact VL h hk
theorem JE {b:Bd}{k x:Str}(h:zBz b k)(hk:k=x\/ltS k x=true):zBz b x:=by
 cases b with
 | none=>trivial
 | some a=>exact vH h hk
theorem zCS {b:Bd}{k x:Str}(h:hiB b k)(hk:x=k\/ltS x k=true):hiB b x:=by
 cases b with
 | none=>trivial
 | some a=>exact VL hk h
def Tr:Nat->Type
 | 0=>Kvs
 | h+1=>List Str×List (Tr h)
def con:(h:Nat)->Tr h->Kvs
 | 0,l=>l
 | h+1,t=>t.2.flatMap (con h)
def KB {α:Type}(W:Bd->Bd->α->Prop):Bd->List Str->List α->Bd->Prop
 | lo,[],[t],hi=>W lo hi t
 | lo,k::ks,t::ts,hi=>W lo (some k) t/\KB W (some k) ks ts hi
 | _,_,_,_=>False
def KN (lo:Bd)(ks:List Str):Nat->Bd
 | 0=>lo
 | i+1=>ks[i]?
def Z9 (ks:List Str)(hi:Bd)(i:Nat):Bd:=match ks[i]? with
 | some k=>some k
 | none=>hi
theorem JF (lo:Bd)(k:Str)(ks:List Str)(i:Nat):KN lo (k::ks) (i+1)=KN (some k) ks i:=by cases i<;>rfl
theorem JH (hi:Bd)(k:Str)(ks:List Str)(i:Nat):Z9 (k::ks) hi (i+1)=Z9 ks hi i:=rfl
theorem KB.len {α:Type}{W:Bd->Bd->α->Prop} : ∀ {ks:List Str} {ts:List α} {lo hi:Bd},KB W lo ks ts hi->ts.length=ks.length+1
 | [],[],_,_,h=>h.elim
 | [],[_],_,_,_=>rfl
 | [],_::_::_,_,_,h=>h.elim
 | _::_,[],_,_,h=>h.elim
 | _::ks,_::ts,_,_,h=>by simp[KB.len h.2]
theorem KB.at {α:Type}{W:Bd->Bd->α->Prop} : ∀ {ks:List Str} {ts:List α} {lo hi:Bd} {i:Nat} {t:α},KB W lo ks ts hi->ts[i]? =some t->W (KN lo ks i) (Z9 ks hi i) t
 | [],[],_,_,_,_,h,_=>h.elim
 | [],[a],_,_,0,t,h,ht=>by simp at ht;subst ht;exact h
 | [],[a],_,_,i+1,t,h,ht=>by simp at ht
 | [],_::_::_,_,_,_,_,h,_=>h.elim
 | _::_,[],_,_,_,_,h,_=>h.elim
 | k::ks,a::ts,_,_,0,t,h,ht=>by simp at ht;subst ht;exact h.1
 | k::ks,a::ts,_,_,i+1,t,h,ht=>by
  simp only[List.getElem?_cons_succ]at ht;rw[JF,JH];exact KB.at h.2 ht
theorem KB.mono {α:Type}{W W':Bd->Bd->α->Prop}(hW: ∀lo hi t,W lo hi t->W' lo hi t): ∀ {ks:List Str} {ts:List α} {lo hi:Bd},KB W lo ks ts hi->KB W' lo ks ts hi
 | [],[],_,_,h=>h.elim
 | [],[_],_,_,h=>hW _ _ _ h
 | [],_::_::_,_,_,h=>h.elim
 | _::_,[],_,_,h=>h.elim
 | _::ks,_::ts,_,_,h=>⟨hW _ _ _ h.1,KB.mono hW h.2⟩
theorem KB.app {α:Type}{W:Bd->Bd->α->Prop}{k:Str}{ks2:List Str}{ts2:List α}{hi:Bd}(h2:KB W (some k) ks2 ts2 hi): ∀ {ks:List Str} {ts:List α} {lo:Bd},KB W lo ks ts (some k)->KB W lo (ks++(k::ks2)) (ts++ts2) hi
 | [],[],_,h=>h.elim
 | [],[_],_,h=>⟨h,h2⟩
 | [],_::_::_,_,h=>h.elim
 | _::_,[],_,h=>h.elim
 | _::ks,_::ts,_,h=>⟨h.1,KB.app h2 h.2⟩
theorem KB.drop {α:Type}{W:Bd->Bd->α->Prop} : ∀ {ks:List Str} {ts:List α} {lo hi:Bd} {m:Nat} {k:Str},KB W lo ks ts hi->ks[m]? =some k->KB W (some k) (ks.drop (m+1)) (ts.drop (m+1)) hi
 | [],_,_,_,_,_,_,hk=>by simp at hk
 | _::_,[],_,_,_,_,h,_=>h.elim
 | a::ks,t::ts,_,_,0,k,h,hk=>by simp at hk;subst hk;exact h.2
 | a::ks,t::ts,_,_,m+1,k,h,hk=>by
  simp only[List.getElem?_cons_succ]at hk;have:=KB.drop (m:=m) h.2 hk;exact this
theorem KB.take {α:Type}{W:Bd->Bd->α->Prop} : ∀ {ks:List Str} {ts:List α} {lo hi:Bd} {m:Nat} {k:Str},KB W lo ks ts hi->ks[m]? =some k->KB W lo (ks.take m) (ts.take (m+1)) (some k)
 | [],_,_,_,_,_,_,hk=>by simp at hk
 | _::_,[],_,_,_,_,h,_=>h.elim
 | a::ks,t::ts,_,_,0,k,h,hk=>by simp at hk;subst hk;exact h.1
 | a::ks,t::ts,_,_,m+1,k,h,hk=>by
  simp only[List.getElem?_cons_succ]at hk;exact⟨h.1,KB.take h.2 hk⟩
theorem KB.head {α:Type}{W:Bd->Bd->α->Prop}{ks:List Str}{ts:List α}{lo0 hi:Bd}{m:Nat}(h:KB W lo0 ks ts hi)(hm:m<ts.length): ∀ {ss:List Str} {ps:List α} {lo:Bd},KB W lo ss ps (Z9 ks hi m)->KB W lo (ss++ks.drop m) (ps++ts.drop (m+1)) hi
 | [],[],_,h=>h.elim
 | [],[p],lo,hp=>by
  have hl:=h.len;simp only[Z9]at hp
  cases hk:ks[m]? with
  | none=>
   rw[hk]at hp;have:ks.length<=m:=by simpa using hk
   rw[qB this,qB (by omega)];exact hp
  | some k=>
   rw[hk]at hp;obtain⟨hlt,rfl⟩:=List.getElem?_eq_some_iff.1 hk;rw[zX hlt];exact⟨hp,h.drop hk⟩
 | [],_::_::_,_,h=>h.elim
 | _::_,[],_,h=>h.elim
 | _::ss,_::ps,_,hp=>⟨hp.1,KB.head h hm hp.2⟩
theorem KB.splice {α:Type}{W:Bd->Bd->α->Prop}{ss:List Str}{ps:List α} : ∀ {ks:List Str} {ts:List α} {lo hi:Bd} {i m:Nat},KB W lo ks ts hi->i+m<ts.length->KB W (KN lo ks i) ss ps (Z9 ks hi (i+m))->KB W lo (ks.take i++ss++ks.drop (i+m)) (ts.take i++ps++ts.drop (i+m+1)) hi
 | ks,ts,lo,hi,0,m,h,hm,hp=>by
  simp only[Nat.zero_add,List.take_zero,List.nil_append]at hm hp⊢;exact KB.head h hm (lo:=lo) hp
 | [],ts,_,_,i+1,m,h,hm,_=>by have:=h.len;simp only[qI]at this;omega
 | _::_,[],_,_,_+1,_,h,_,_=>h.elim
 | k::ks,t::ts,lo,hi,i+1,m,h,hm,hp=>by
  have e:i+1+m=i+m+1:=by omega
  rw[e,JF,JH]at hp;rw[e];simp only[zP]at hm;have:=KB.splice (i:=i) (m:=m) h.2 (by omega) hp;simp only[List.take_succ_cons,List.drop_succ_cons,List.cons_append];exact⟨h.1,this⟩
def Lf (lo hi:Bd)(l:Kvs):Prop:=Srt l/\ ∀p∈l,zFH lo p.1/\hiB hi p.1/\mayK p.1=true/\p.2.length<=200
def jH (l:Kvs):Nat:=Nd.size (leafOf l)
def jL (ks:List Str)(n:Nat):Nat:=2+16*n+sumL ks
def Inn {α:Type}(W:Bd->Bd->α->Prop)(lo hi:Bd)(t:List Str×List α):Prop:=(∀k∈t.1,mayK k=true/\zBz lo k/\hiB hi k)/\rising ltS t.1=true/\KB W lo t.1 t.2 hi
def jD:(h:Nat)->Tr h->Nat
 | 0,l=>jH l
 | _+1,t=>jL t.1 t.2.length
def WF:(h:Nat)->Bd->Bd->Tr h->Prop
 | 0,lo,hi,l=>Lf lo hi l/\l≠[]/\jH l<=500
 | h+1,lo,hi,t=>Inn (WF h) lo hi t/\t.1≠[]/\160<=jL t.1 t.2.length/\jL t.1 t.2.length<=500
def WR:(h:Nat)->Tr h->Prop
 | 0,l=>Lf none none l/\l≠[]/\jH l<=500
 | h+1,t=>Inn (WF h) none none t/\t.1≠[]/\jL t.1 t.2.length<=500
def WX:(h:Nat)->Bd->Bd->Tr h->Prop
 | 0,lo,hi,l=>Lf lo hi l/\jH l<=785
 | h+1,lo,hi,t=>Inn (WF h) lo hi t/\jL t.1 t.2.length<=785
theorem zAM {h:Nat}(ih: ∀ {lo hi:Bd} {t:Tr h},WF h lo hi t-> ∀p∈con h t,zFH lo p.1/\hiB hi p.1): ∀ {ks:List Str} {ts:List (Tr h)} {lo hi:Bd},KB (WF h) lo ks ts hi->rising ltS ks=true->(∀k∈ks,zBz lo k/\hiB hi k)-> ∀p∈ts.flatMap (con h),zFH lo p.1/\hiB hi p.1
 | [],[],_,_,h,_,_=>h.elim
 | [],[t],lo,hi,hk,_,_=>fun p hp=>by
  simp only[zZ,List.flatMap_nil,List.append_nil]at hp;exact ih hk p hp
 | [],_::_::_,_,_,h,_,_=>h.elim
 | _::_,[],_,_,h,_,_=>h.elim
 | k::ks,t::ts,lo,hi,hk,hr,hb=>fun p hp=>by
  have hkb:=hb k (zH ..);rw[Nd.rising_cons]at hr;simp only[zZ,qP]at hp;rcases hp with hp | hp
  .have:=ih hk.1 p hp;exact⟨this.1,zCS hkb.2 (.inr this.2)⟩
  .have:=zAM ih hk.2 hr.2 (fun x hx=>⟨hr.1 x hx,(hb x (zF _ hx)).2⟩) p hp;exact⟨(JE hkb.1 this.1).low,this.2⟩
theorem zAN: ∀(h:Nat) {lo hi:Bd} {t:Tr h},WF h lo hi t-> ∀p∈con h t,zFH lo p.1/\hiB hi p.1
 | 0,lo,hi,l,hw,p,hp=>⟨(hw.1.2 p hp).1,(hw.1.2 p hp).2.1⟩
 | h+1,lo,hi,t,hw,p,hp=>zAM (zAN h) hw.1.2.2 hw.1.2.1 (fun k hk=>(hw.1.1 k hk).2) p hp
theorem zEP {a b:Kvs}(ha:Srt a)(hb:Srt b)(hab: ∀p∈a,∀q∈b,ltS p.1 q.1=true):Srt (a++b):=by
 induction a with
 | nil=>exact hb
 | cons p a ih=>
  obtain⟨k,v⟩:=p;refine⟨fun q hq=> ?_,ih ha.2 fun p hp=>hab p (zF _ hp)⟩;rcases List.mem_append.1 hq with hq | hq
  .exact ha.1 q hq
  .exact hab _ (zH ..) q hq
theorem zEO {h:Nat}(ih: ∀ {lo hi:Bd} {t:Tr h},WF h lo hi t->Srt (con h t)): ∀ {ks:List Str} {ts:List (Tr h)} {lo hi:Bd},KB (WF h) lo ks ts hi->rising ltS ks=true->(∀k∈ks,zBz lo k/\hiB hi k)->Srt (ts.flatMap (con h))
 | [],[],_,_,h,_,_=>h.elim
 | [],[t],lo,hi,hk,_,_=>by
  simp only[zZ,List.flatMap_nil,List.append_nil];exact ih hk
 | [],_::_::_,_,_,h,_,_=>h.elim
 | _::_,[],_,_,h,_,_=>h.elim
 | k::ks,t::ts,lo,hi,hk,hr,hb=>by
  rw[Nd.rising_cons]at hr;have hbs: ∀x∈ks,zBz (some k) x/\hiB hi x:=fun x hx=>⟨hr.1 x hx,(hb x (zF _ hx)).2⟩
  simp only[zZ];refine zEP (ih hk.1) (zEO ih hk.2 hr.2 hbs) fun p hp q hq=> ?_
  exact vH (zAN h hk.1 p hp).2 (zAM (zAN h) hk.2 hr.2 hbs q hq).1
theorem zHc: ∀(h:Nat) {lo hi:Bd} {t:Tr h},WF h lo hi t->Srt (con h t)
 | 0,_,_,_,hw=>hw.1.1
 | h+1,_,_,_,hw=>zEO (zHc h) hw.1.2.2 hw.1.2.1 (fun k hk=>(hw.1.1 k hk).2)
theorem zLL {h:Nat}{lo hi:Bd}{t:List Str×List (Tr h)}(hw:Inn (WF h) lo hi t):Srt (t.2.flatMap (con h)):=
 zEO (zHc h) hw.2.2 hw.2.1 (fun k hk=>(hw.1 k hk).2)
theorem zN8 {h:Nat}{t:Tr h}(hw:WR h t):Srt (con h t):=by
 cases h with
 | zero=>exact hw.1.1
 | succ h=>exact zLL hw.1
theorem zOc {h:Nat}{lo hi:Bd}{t:Tr h}(hw:WF h lo hi t): ∀p∈con h t,mayK p.1=true/\p.2.length<=200:=by
 induction h generalizing lo hi with
 | zero=>exact fun p hp=>(hw.1.2 p hp).2.2
 | succ h ih=>
  intro p hp;obtain⟨t0,ht0,hp⟩:=List.mem_flatMap.1 hp;obtain⟨i,hi',rfl⟩:=List.mem_iff_getElem.1 ht0;exact ih (KB.at hw.1.2.2 (zG hi')) p hp
theorem zFj {k v:Str}{A C B:Kvs}(hA: ∀p∈A,ltS p.1 k=true)(hB: ∀p∈B,ltS k p.1=true):putP k v (A++C++B)=A++putP k v C++B:=by
 induction A with
 | nil=>
  simp only[List.nil_append]
  induction C with
  | nil=>
   cases B with
   | nil=>rfl
   | cons b B=>
    obtain⟨b,w⟩:=b;have h:=hB (b,w) (zH ..);simp only[List.nil_append,putP,List.cons_append];rw[if_neg (fun e=>bK h e.symm),if_neg (by rw[uA h];simp)]
  | cons c C ih=>
   obtain⟨c,w⟩:=c;simp only[List.cons_append,putP];split
   .rfl
   .split
    .rw[ih];rfl
    .rfl
 | cons a A ih=>
  obtain⟨a,w⟩:=a;have h:=hA (a,w) (zH ..);simp only[List.cons_append,putP];rw[if_neg (bK h),if_pos h,ih (fun p hp=>hA p (zF _ hp))]
theorem zCK {k:Str}{A B:Kvs} :lookP k (A++B)=match lookP k A with | some v=>some v | none=>lookP k B:=by
 induction A with
 | nil=>rfl
 | cons a A ih=>
  obtain⟨a,w⟩:=a;simp only[List.cons_append,lookP];split
  .rfl
  .exact ih
theorem zCI {k:Str}{A C B:Kvs}(hA: ∀p∈A,ltS p.1 k=true)(hB: ∀p∈B,ltS k p.1=true):lookP k (A++C++B)=lookP k C:=by
 rw[zCK,zCK,Nd.look_none (l:=A) (fun p hp=>bK (hA p hp)),Nd.look_none (l:=B) (fun p hp e=>bK (hB p hp) e.symm)]
 cases lookP k C<;>rfl
theorem U6 {k:Str}{l:Kvs}(h: ∀p∈l,p.1≠k):delP k l=l:=by
 induction l with
 | nil=>rfl
 | cons a l ih=>
  obtain⟨a,w⟩:=a;rw[delP,if_neg (h (a,w) (zH ..)),ih fun p hp=>h p (zF _ hp)]
theorem zH4 {k:Str}{A C B:Kvs}(hA: ∀p∈A,ltS p.1 k=true)(hB: ∀p∈B,ltS k p.1=true):delP k (A++C++B)=A++delP k C++B:=by
 induction A with
 | nil=>
  simp only[List.nil_append]
  induction C with
  | nil=>exact U6 fun p hp e=>bK (hB p hp) e.symm
  | cons c C ih=>
   obtain⟨c,w⟩:=c;simp only[List.cons_append,delP];split
   .rfl
   .rw[ih];rfl
 | cons a A ih=>
  obtain⟨a,w⟩:=a;have h:=hA (a,w) (zH ..);simp only[List.cons_append,delP];rw[if_neg (bK h),ih (fun p hp=>hA p (zF _ hp))]
def jC (ks:List Str)(key:Str):Nat:=(ks.filter fun k=>ltS k key||decide (k=key)).length
theorem cG (ks:List Str)(key:Str):jC ks key<=ks.length:=List.length_filter_le _ _
theorem YN {a key:Str}{ks:List Str}(h:rising ltS (a::ks)=true):jC (a::ks) key=if ltS key a=true then 0 else jC ks key+1:=by
 rw[Nd.rising_cons]at h;by_cases hk:ltS key a=true
 .rw[if_pos hk,jC,List.length_eq_zero_iff,List.filter_eq_nil_iff];intro x hx hlt;have hkx:ltS key x=true:=by
   rcases List.mem_cons.1 hx with rfl | hx
   .exact hk
   .exact jN hk (h.1 x hx)
  simp only[Bool.or_eq_true,zJ]at hlt;rcases hlt with hlt | rfl
  .rw[uA hlt]at hkx;cases hkx
  .rw[kY]at hkx;cases hkx
 .rw[if_neg hk,jC,List.filter_cons];have:(ltS a key||decide (a=key))=true:=by
   simp only[Bool.or_eq_true,zJ];rcases not_lt hk with e | e
   .exact .inr e
   .exact .inl e
  rw[this];rfl
theorem XV {key:Str} : ∀ {ks:List Str} {lo:Bd},rising ltS ks=true->zFH lo key->zFH (KN lo ks (jC ks key)) key
 | [],_,_,h=>h
 | a::ks,lo,hr,h=>by
  rw[YN hr];by_cases hk:ltS key a=true
  .rw[if_pos hk];exact h
  .rw[if_neg hk,JF];rw[Nd.rising_cons]at hr;exact XV hr.2 (not_lt hk)
theorem XW {key:Str} : ∀ {ks:List Str} {hi:Bd},rising ltS ks=true->hiB hi key->hiB (Z9 ks hi (jC ks key)) key
 | [],_,_,h=>h
 | a::ks,hi,hr,h=>by
  rw[YN hr];by_cases hk:ltS key a=true
  .rw[if_pos hk];exact hk
  .rw[if_neg hk,JH];rw[Nd.rising_cons]at hr;exact XW hr.2 h
theorem fY {h:Nat}{lo hi:Bd}{key:Str}{ks:List Str}{ts:List (Tr h)}(hw:Inn (WF h) lo hi (ks,ts)):
  (∀p∈(ts.take (jC ks key)).flatMap (con h),ltS p.1 key=true)/\ ∀p∈(ts.drop (jC ks key+1)).flatMap (con h),ltS key p.1=true:=by
 obtain⟨h1,h2,h3⟩:=hw;simp only at h1 h2 h3;have hle:=cG ks key;have hlen:=h3.len;constructor
 .have hl:=XV (lo:=none) h2 (key:=key) trivial
  cases hw:jC ks key with
  | zero=>intro p hp;simp at hp
  | succ w=>
   rw[hw]at hl hle;have hlt:w<ks.length:=by omega
   simp only[KN,zG hlt]at hl;have hk:=h3.take (zG hlt);have hr:rising ltS (ks.take w)=true:=Nd.rising_take h2 w;intro p hp;have hm: ∀x∈ks.take w,ltS x ks[w]=true:=fun x hx=>by
    obtain⟨j,hj,rfl⟩:=List.mem_iff_getElem.1 hx;simp only[zQ]at hj;rw[List.getElem_take];have hd:=Nd.rising_drop h2 j;rw[zX (by omega),Nd.rising_cons]at hd;refine hd.1 _ ?_;rw[List.mem_iff_getElem];exact⟨w - (j+1),by simp;omega,by rw[List.getElem_drop];congr 1;omega⟩
   have:=zAM (zAN h) hk hr (fun x hx=>⟨(h1 x (List.mem_of_mem_take hx)).2.1,hm x hx⟩) p hp;exact vH this.2 hl
 .have hh:=XW (hi:=none) h2 (key:=key) trivial;intro p hp
  cases hk:ks[jC ks key]? with
  | none=>
   have:ks.length<=jC ks key:=by simpa using hk
   rw[qB (by omega)]at hp;simp at hp
  | some k=>
   simp only[Z9,hk]at hh;obtain⟨hlt,rfl⟩:=List.getElem?_eq_some_iff.1 hk;have hkb:=h3.drop hk;have hd:=Nd.rising_drop h2 (jC ks key);rw[zX hlt,Nd.rising_cons]at hd;have:=zAM (zAN h) hkb hd.2 (fun x hx=>⟨hd.1 x hx,(h1 x (List.mem_of_mem_drop hx)).2.2⟩) p hp;exact vH hh this.1
theorem V6 {α:Type}{ts:List α}{i:Nat}{t:α}(h:ts[i]? =some t):ts=ts.take i++[t]++ts.drop (i+1):=by
 obtain⟨hi,rfl⟩:=List.getElem?_eq_some_iff.1 h;rw[List.append_assoc,List.singleton_append,<-zX hi,List.take_append_drop]
theorem xY {a b:List Str} :rising ltS (a++b)=true↔rising ltS a=true/\rising ltS b=true/\ ∀x∈a,∀y∈b,ltS x y=true:=by
 induction a with
 | nil=>simp[rising]
 | cons c a ih=>
  rw[List.cons_append,Nd.rising_cons,Nd.rising_cons,ih];simp only[qP,List.mem_cons];constructor
  .rintro⟨h1,h2,h3,h4⟩
   refine⟨⟨fun x hx=>h1 x (.inl hx),h2⟩,h3,fun x hx y hy=> ?_⟩;rcases hx with rfl | hx
   .exact h1 y (.inr hy)
   .exact h4 x hx y hy
  .rintro⟨⟨h1,h2⟩,h3,h4⟩
   exact⟨fun x hx=>hx.elim (h1 x) (h4 c (.inl rfl) x),h2,h3,fun x hx y hy=>h4 x (.inr hx) y hy⟩
theorem Inn.splice {α:Type}{W:Bd->Bd->α->Prop}{lo hi:Bd}{ks ss:List Str}{ts ps:List α}{i m:Nat}(h:Inn W lo hi (ks,ts))(hm:i+m<ts.length)(hp:Inn W (KN lo ks i) (Z9 ks hi (i+m)) (ss,ps)):
  Inn W lo hi (ks.take i++ss++ks.drop (i+m),ts.take i++ps++ts.drop (i+m+1)):=by
 obtain⟨h1,h2,h3⟩:=h;obtain⟨p1,p2,p3⟩:=hp;simp only at h1 h2 h3 p1 p2 p3;have hlen:=h3.len;have hlo: ∀x∈ks.take i,∀y∈ss,ltS x y=true:=fun x hx y hy=>by
  have hy':=(p1 y hy).2.1
  cases i with
  | zero=>simp at hx
  | succ j=>
   have hj:j<ks.length:=by omega
   simp only[KN,zG hj]at hy';rw[zV hj,qP,List.mem_singleton]at hx;rcases hx with hx | rfl
   .have:=Nd.rising_take h2 (j+1);rw[zV hj,xY]at this;exact jN (this.2.2 x hx _ (List.mem_singleton_self _)) hy'
   .exact hy'
 have hhi: ∀y∈ss,∀z∈ks.drop (i+m),ltS y z=true:=fun y hy z hz=>by
  have hy':=(p1 y hy).2.2;by_cases hj:i+m<ks.length
  .simp only[Z9,zG hj]at hy';have hd:=Nd.rising_drop h2 (i+m);rw[zX hj]at hz hd;rw[Nd.rising_cons]at hd;rcases List.mem_cons.1 hz with rfl | hz
   .exact hy'
   .exact jN hy' (hd.1 z hz)
  .rw[qB (by omega)]at hz;simp at hz
 have htd: ∀x∈ks.take i,∀z∈ks.drop (i+m),ltS x z=true:=fun x hx z hz=>by
  have:ks=ks.take (i+m)++ks.drop (i+m):=(List.take_append_drop _ _).symm;rw[this,xY]at h2;refine h2.2.2 x ?_ z hz;have:ks.take i=(ks.take (i+m)).take i:=by rw[List.take_take,Nat.min_eq_left (by omega)]
  rw[this]at hx;exact List.mem_of_mem_take hx
 have wlo: ∀s,zBz (KN lo ks i) s->zBz lo s:=fun s hs=>by
  cases i with
  | zero=>exact hs
  | succ j=>
   have hj:j<ks.length:=by omega
   simp only[KN,zG hj]at hs;exact JE (h1 _ (qC hj)).2.1 (.inr hs)
 have whi: ∀s,hiB (Z9 ks hi (i+m)) s->hiB hi s:=fun s hs=>by
  by_cases hj:i+m<ks.length
  .simp only[Z9,zG hj]at hs;exact zCS (h1 _ (qC hj)).2.2 (.inr hs)
  .simp only[Z9,List.getElem?_eq_none (show ks.length<=i+m by omega)]at hs;exact hs
 refine⟨fun k hk=> ?_, ?_,KB.splice h3 hm p3⟩
 .simp only[qP]at hk;rcases hk with(hk | hk) | hk
  .exact h1 k (List.mem_of_mem_take hk)
  .exact⟨(p1 k hk).1,wlo k (p1 k hk).2.1,whi k (p1 k hk).2.2⟩
  .exact h1 k (List.mem_of_mem_drop hk)
 .rw[xY,xY];refine⟨⟨Nd.rising_take h2 i,p2,hlo⟩,Nd.rising_drop h2 _,fun x hx z hz=> ?_⟩;rcases List.mem_append.1 hx with hx | hx
  .exact htd x hx z hz
  .exact hhi x hx z hz
def Gen:(h:Nat)->Bd->Bd->Tr h->Prop
 | 0,lo,hi,l=>Lf lo hi l
 | h+1,lo,hi,t=>Inn (WF h) lo hi t
def Full:(h:Nat)->Tr h->Prop
 | 0,l=>l≠[]
 | _+1,t=>160<=jL t.1 t.2.length
theorem WF.gen: ∀ {h:Nat} {lo hi:Bd} {t:Tr h},WF h lo hi t->Gen h lo hi t
 | 0,_,_,_,w=>w.1
 | _+1,_,_,_,w=>w.1
theorem WX.gen: ∀ {h:Nat} {lo hi:Bd} {t:Tr h},WX h lo hi t->Gen h lo hi t
 | 0,_,_,_,w=>w.1
 | _+1,_,_,_,w=>w.1
theorem WF.full: ∀ {h:Nat} {lo hi:Bd} {t:Tr h},WF h lo hi t->Full h t
 | 0,_,_,_,w=>w.2.1
 | _+1,_,_,_,w=>w.2.2.1
theorem WF.sz: ∀ {h:Nat} {lo hi:Bd} {t:Tr h},WF h lo hi t->jD h t<=500
 | 0,_,_,_,w=>w.2.2
 | _+1,_,_,_,w=>w.2.2.2
theorem WX.sz: ∀ {h:Nat} {lo hi:Bd} {t:Tr h},WX h lo hi t->jD h t<=785
 | 0,_,_,_,w=>w.2
 | _+1,_,_,_,w=>w.2
theorem Gen.wx: ∀ {h:Nat} {lo hi:Bd} {t:Tr h},Gen h lo hi t->jD h t<=785->WX h lo hi t
 | 0,_,_,_,w,s=>⟨w,s⟩
 | _+1,_,_,_,w,s=>⟨w,s⟩
theorem Gen.wf: ∀ {h:Nat} {lo hi:Bd} {t:Tr h},Gen h lo hi t->Full h t->jD h t<=500->WF h lo hi t
 | 0,_,_,_,w,f,s=>⟨w,f,s⟩
 | h+1,_,_,t,w,f,s=>⟨w,fun e=>by
  have hl:=w.2.2.len;have f':160<=jL t.1 t.2.length:=f;rw[hl,e]at f';simp[jL,sumL]at f',f,s⟩
def cY:(h:Nat)->Tr h->Str->Tr h->Tr h
 | 0,a,_,b=>List.append a b
 | _+1,a,s,b=>(a.1++([s]++b.1),a.2++b.2)
theorem zDg: ∀(h:Nat) (a:Tr h) (s:Str) (b:Tr h),con h (cY h a s b)=con h a++con h b
 | 0,_,_,_=>rfl
 | h+1,a,s,b=>by simp[con,cY]
theorem JD (a b:Kvs):jH (a++b)+2=jH a+jH b:=by
 simp only[jH,leafOf,Nd.size,List.map_append,Nd.sumL_append,qI];omega
theorem sumL_nil:sumL []=0:=rfl
theorem JG (h:Nat)(a:Tr h)(s:Str)(b:Tr h)(hs:s.length<=40):jD h (cY h a s b)<=jD h a+jD h b+39/\jD h b<=jD h (cY h a s b)/\jD h a<=jD h (cY h a s b):=by
 cases h with
 | zero=>
  have key: ∀a b:Kvs,jH (a++b)<=jH a+jH b+39/\jH b<=jH (a++b)/\jH a<=jH (a++b):=fun a b=>by
   have:=JD a b;have e1:2<=jH a:=by simp only[jH,Nd.size];omega
   have e2:2<=jH b:=by simp only[jH,Nd.size];omega
   omega
  exact key a b
 | succ h=>
  simp only[jD,cY,jL,zM,Nd.sumL_append,Nd.sumL_cons,sumL_nil];omega
theorem zCP {h:Nat}{lo hi:Bd}{s:Str}{a b:Tr h}(ha:Gen h lo (some s) a)(hb:Gen h (some s) hi b)(hs:mayK s=true/\zBz lo s/\hiB hi s):Gen h lo hi (cY h a s b):=by
 cases h with
 | zero=>
  obtain⟨a1,a2⟩:=ha;obtain⟨b1,b2⟩:=hb;refine⟨zEP a1 b1 fun p hp q hq=>vH (a2 p hp).2.1 (b2 q hq).1,fun p hp=> ?_⟩;rcases List.mem_append.1 hp with hp | hp
  .exact⟨(a2 p hp).1,zCS hs.2.2 (.inr (a2 p hp).2.1),(a2 p hp).2.2⟩
  .exact⟨(JE hs.2.1 (b2 p hp).1).low,(b2 p hp).2.1,(b2 p hp).2.2⟩
 | succ h=>
  obtain⟨a1,a2,a3⟩:=ha;obtain⟨b1,b2,b3⟩:=hb;refine⟨fun k hk=> ?_, ?_,KB.app b3 a3⟩
  .simp only[cY,qP,List.mem_singleton]at hk;rcases hk with hk | rfl | hk
   .exact⟨(a1 k hk).1,(a1 k hk).2.1,zCS hs.2.2 (.inr (a1 k hk).2.2)⟩
   .exact hs
   .exact⟨(b1 k hk).1,JE hs.2.1 (.inr (b1 k hk).2.1),(b1 k hk).2.2⟩
  .simp only[cY];rw[xY,List.singleton_append,Nd.rising_cons];refine⟨a2,⟨fun x hx=>(b1 x hx).2.1,b2⟩,fun x hx y hy=> ?_⟩;rcases List.mem_cons.1 hy with rfl | hy
   .exact(a1 x hx).2.2
   .exact jN (a1 x hx).2.2 (b1 y hy).2.1
theorem d7 {a b:Kvs} :Srt (a++b)↔Srt a/\Srt b/\ ∀p∈a,∀q∈b,ltS p.1 q.1=true:=by
 induction a with
 | nil=>simp[Srt]
 | cons c a ih=>
  obtain⟨c,w⟩:=c;rw[List.cons_append,Srt,Srt,ih];simp only[qP,List.mem_cons];constructor
  .rintro⟨h1,h2,h3,h4⟩
   refine⟨⟨fun x hx=>h1 x (.inl hx),h2⟩,h3,fun x hx y hy=> ?_⟩;rcases hx with rfl | hx
   .exact h1 y (.inr hy)
   .exact h4 x hx y hy
  .rintro⟨⟨h1,h2⟩,h3,h4⟩
   exact⟨fun x hx=>hx.elim (h1 x) (h4 _ (.inl rfl) x),h2,h3,fun x hx y hy=>h4 x (.inr hx) y hy⟩
def psz:(h:Nat)->Tr h->Nat->Nat
 | 0,l,k=>jH (List.take (α:=Str×Str) k l)
 | _+1,t,k=>jL (t.1.take k) (k+1)
def KQ:(h:Nat)->Tr h->Nat
 | 0,l=>List.length (α:=Str×Str) l
 | _+1,t=>t.1.length
def zOv (h:Nat)(t:Tr h)(k:Nat):Prop:=
 1<=k/\k+min (h+1) 2<=KQ h t/\(k=1\/psz h t k<=(jD h t - 2) / 2+2)/\(k+min (h+1) 2=KQ h t\/(jD h t - 2) / 2+2<psz h t (k+1))
def zN6:(h:Nat)->Tr h->Tr h->Str->Tr h->Prop
 | 0,l,a,s,b=> ∃k,zOv 0 l k/\a=List.take (α:=Str×Str) k l/\s=(List.map Prod.fst (l:Kvs)).getD k []/\b=List.drop (α:=Str×Str) k l
 | h+1,t,a,s,b=> ∃k,zOv (h+1) t k/\a=(t.1.take k,t.2.take (k+1))/\s=t.1.getD k []/\b=(t.1.drop (k+1),t.2.drop (k+1))
theorem kI (p:Str×Str)(l:Kvs):jH (p::l)=jH l+(2+p.1.length+p.2.length):=by
 simp only[jH,leafOf,Nd.size,List.map_cons,Nd.sumL_cons,qI];omega
theorem bL:jH []=2:=rfl
theorem zC1 {p:Str×Str}(h:mayK p.1=true/\p.2.length<=200):2+p.1.length+p.2.length<=242:=by
 obtain⟨h1,h2⟩:=h;simp only[mayK,zE,zJ]at h1;omega
theorem zJh {lo hi:Bd}{l a b:Kvs}{s:Str}(hw:Lf lo hi l)(hs:jH l<=785)(hb:500<jH l)(hc:zN6 0 l a s b):
  Lf lo (some s) a/\Lf (some s) hi b/\(mayK s=true/\zBz lo s/\hiB hi s)/\a++b=l/\a≠[]/\b≠[]/\jH a<=500/\jH b<=jH l - (jH l - 2) / 2+241:=by
 obtain⟨k,⟨k1,k2,k3,k4⟩,rfl,rfl,rfl⟩:=hc;simp only[KQ,psz,jD,Nat.zero_add,show min 1 2=1 from rfl]at k2 k3 k4;have hk:k<l.length:=k2;have e1:l.take k++l.drop k=l:=List.take_append_drop _ _;obtain⟨w1,w2⟩:=hw;have w1':=w1;rw[<-e1,d7]at w1';obtain⟨sa,sb,sab⟩:=w1';have hd:l.drop k=l[k]::l.drop (k+1):=zX hk;have hsk:(l.map Prod.fst).getD k []=(l[k]).1:=by
  rw[zT,qT,zG hk];rfl
 rw[hsk];have hm:l[k]∈l:=qC hk;have h0:0<l.length:=by omega
 have hm0:l[0]∈l.take k:=by rw[List.mem_iff_getElem];exact⟨0,by simp;omega,by simp⟩
 have hlt0:ltS (l[0]).1 (l[k]).1=true:=sab _ hm0 _ (by rw[hd];exact zH ..);have lsum:=JD (l.take k) (l.drop k);rw[e1]at lsum;have ek:=zC1 (w2 _ hm).2.2;have tk1:jH (l.take (k+1))=jH (l.take k)+(2+(l[k]).1.length+(l[k]).2.length):=by
  rw[zV hk];have:=JD (l.take k) [l[k]];rw[kI,bL]at this;omega
 refine⟨⟨sa,fun p hp=> ?_⟩,⟨sb,fun p hp=> ?_⟩,⟨(w2 _ hm).2.2.1,zLA (w2 _ (qC h0)).1 hlt0,(w2 _ hm).2.1⟩,e1, ?_, ?_, ?_, ?_⟩
 .exact⟨(w2 p (List.mem_of_mem_take hp)).1,sab p hp _ (by rw[hd];exact zH ..),(w2 p (List.mem_of_mem_take hp)).2.2⟩
 .refine⟨?_,(w2 p (List.mem_of_mem_drop hp)).2⟩;rw[hd]at hp sb;rcases List.mem_cons.1 hp with rfl | hp
  .exact .inl rfl
  .exact .inr (sb.1 p hp)
 .intro e;rw[e]at hm0;simp at hm0
 .rw[hd];exact List.cons_ne_nil _ _
 .rcases k3 with rfl | k3
  .have hz:jH (l.take 1)<=244:=by
    have:=zC1 (w2 _ (qC h0)).2.2
    match l,h0 with
    | p::l,_=>simp only[List.take_succ_cons,List.take_zero,kI,bL];simp only[List.getElem_cons_zero]at this;omega
   omega
  .omega
 .rcases k4 with k4 | k4
  .have:l.drop (k+1)=[]:=qB (by omega);rw[hd,this,kI,bL];omega
  .rw[tk1]at k4;omega
theorem B7 (ks:List Str){k:Nat}(h:k<ks.length):sumL (ks.take (k+1))=sumL (ks.take k)+(1+(ks[k]).length):=by
 rw[zV h,Nd.sumL_append,Nd.sumL_cons,sumL_nil];omega
theorem WT {s:Str}(h:mayK s=true):s.length<=40:=by
 simp only[mayK,zE,zJ]at h;omega
theorem zH8 {h:Nat}{lo hi:Bd}{t a b:Tr (h+1)}{s:Str}(hw:Inn (WF h) lo hi t)(hs:jL t.1 t.2.length<=785)(hb:500<jL t.1 t.2.length)(hc:zN6 (h+1) t a s b):
  Inn (WF h) lo (some s) a/\Inn (WF h) (some s) hi b/\(mayK s=true/\zBz lo s/\hiB hi s)/\con (h+1) a++con (h+1) b=con (h+1) t/\160<=jL a.1 a.2.length/\160<=jL b.1 b.2.length/\jL a.1 a.2.length<=500/\jL b.1 b.2.length<=500/\jL b.1 b.2.length<=jL t.1 t.2.length - (jL t.1 t.2.length - 2) / 2+57:=by
 obtain⟨k,⟨k1,k2,k3,k4⟩,rfl,rfl,rfl⟩:=hc;obtain⟨ks,ts⟩:=t;obtain⟨w1,w2,w3⟩:=hw;have hm2:min (h+1+1) 2=2:=by omega
 simp only[KQ,psz,jD,hm2]at k2 k3 k4 w1 w2 w3 hs hb⊢;have hk:k<ks.length:=by omega
 have hlen:=w3.len;have hsk:ks.getD k []=ks[k]:=by rw[zT,zG hk];rfl
 rw[hsk];have hg:=zG hk;have hm:ks[k]∈ks:=qC hk;have e1:ks.take k++ks[k]::ks.drop (k+1)=ks:=by rw[<-zX hk,List.take_append_drop]
 have hr:=w2;rw[<-e1,xY,Nd.rising_cons]at hr;obtain⟨ra,⟨rb,rb'⟩,rab⟩:=hr;have hsum:sumL ks=sumL (ks.take k)+(1+(ks[k]).length+sumL (ks.drop (k+1))):=by
  conv=>lhs;rw[<-e1]
  rw[Nd.sumL_append,Nd.sumL_cons]
 have ek:=WT (w1 _ hm).1;have tk:=B7 ks hk;have l1:(ts.take (k+1)).length=k+1:=by rw[zQ];omega
 have l2:(ts.drop (k+1)).length=ks.length - k:=by rw[zU];omega
 rw[l1,l2];have hk1:k+1<ks.length:=by omega
 have ek1:=WT (w1 _ (qC hk1)).1;have hdr:sumL (ks.drop (k+1))=1+(ks[k+1]).length+sumL (ks.drop (k+2)):=by rw[zX hk1,Nd.sumL_cons]
 have hone:k=1->sumL (ks.take k)<=41:=fun e=>by
  subst e;have:=B7 ks (k:=0) (by omega);have e0:=WT (w1 _ (qC (show 0<ks.length by omega))).1;rw[this];simp only[List.take_zero,sumL_nil];omega
 have hlast:k+2=ks.length->sumL (ks.drop (k+2))=0:=fun e=>by rw[e,List.drop_length];rfl
 simp only[jL]at k3 k4 hs hb⊢;rw[tk]at k4;rw[hlen]at hs hb k3 k4;refine⟨⟨fun x hx=>⟨(w1 x (List.mem_of_mem_take hx)).1,(w1 x (List.mem_of_mem_take hx)).2.1,rab x hx _ (zH ..)⟩,ra,w3.take hg⟩,⟨fun x hx=>⟨(w1 x (List.mem_of_mem_drop hx)).1,rb x hx,(w1 x (List.mem_of_mem_drop hx)).2.2⟩,rb',w3.drop hg⟩,w1 _ hm, ?_, ?_, ?_, ?_, ?_, ?_⟩
 .simp only[con,<-qL,List.take_append_drop]
 .rcases k4 with k4 | k4
  .have:=hlast k4;omega
  .omega
 .rcases k3 with rfl | k3
  .have:=hone rfl;omega
  .omega
 .rcases k3 with rfl | k3
  .have:=hone rfl;omega
  .omega
 .rcases k4 with k4 | k4
  .have:=hlast k4;omega
  .omega
 .rcases k4 with k4 | k4
  .have:=hlast k4;omega
  .omega
inductive Cuts (h:Nat):Tr h->List (Tr h)->List Str->Prop
 | one {t:Tr h} :jD h t<=500->Cuts h t [t] []
 | more {t a b:Tr h} {s:Str} {ps:List (Tr h)} {ss:List Str} :500<jD h t->zN6 h t a s b->Cuts h b ps ss->Cuts h t (a::ps) (s::ss)
theorem zH9 {h:Nat}{lo hi:Bd}{t a b:Tr h}{s:Str}(hw:WX h lo hi t)(hb:500<jD h t)(hc:zN6 h t a s b):
  WF h lo (some s) a/\WX h (some s) hi b/\Full h b/\(mayK s=true/\zBz lo s/\hiB hi s)/\con h a++con h b=con h t/\jD h b<=jD h t - (jD h t - 2) / 2+241:=by
 cases h with
 | zero=>
  obtain⟨a1,b1,hs,e,na,nb,za,zb⟩:=zJh hw.1 hw.2 hb hc;have hz:=hw.2;simp only[jD]at hb⊢;exact⟨⟨a1,na,za⟩,⟨b1,by omega⟩,nb,hs,e,zb⟩
 | succ h=>
  obtain⟨a1,b1,hs,e,na,nb,za,_,zb⟩:=zH8 hw.1 hw.2 hb hc;have hz:=hw.2;simp only[jD]at hb⊢;exact⟨Gen.wf (h:=h+1) a1 na za,⟨b1,by omega⟩,nb,hs,e,by omega⟩
theorem U8 {h:Nat}{t:Tr h}{ps:List (Tr h)}{ss:List Str}(hc:Cuts h t ps ss): ∀ {lo hi:Bd},WX h lo hi t->(Full h t\/500<jD h t)->
  Inn (WF h) lo hi (ss,ps)/\ps.flatMap (con h)=con h t/\ps.length<=6/\(jD h t<=635->ps.length<=5)/\(jD h t<=560->ps.length<=4)/\(jD h t<=522->ps.length<=3)/\(jD h t<=503->ps.length<=2)/\(jD h t<=500->ps.length<=1):=by
 induction hc with
 | one hs=>
  intro lo hi hw hf;rcases hf with hf | hf
  .refine⟨⟨by simp,rfl,hw.gen.wf hf hs⟩,by simp,by simp, ?_⟩;simp
  .omega
 | @more t a b s ps ss hb hc _ ih=>
  intro lo hi hw _;obtain⟨wa,wb,fb,hs,e,z⟩:=zH9 hw hb hc;obtain⟨⟨i1,i2,i3⟩,i4,i5⟩:=ih wb (.inl fb);have hz:=hw.sz;simp only at i1 i2 i3;refine⟨⟨fun k hk=> ?_, ?_,wa,i3⟩, ?_, ?_⟩
  .rcases List.mem_cons.1 hk with rfl | hk
   .exact hs
   .exact⟨(i1 k hk).1,JE hs.2.1 (.inr (i1 k hk).2.1),(i1 k hk).2.2⟩
  .rw[Nd.rising_cons];exact⟨fun x hx=>(i1 x hx).2.1,i2⟩
  .rw[zZ,i4,e]
  .simp only[zP];omega
theorem ZE {ks:List Str}(h: ∀k∈ks,mayK k=true):sumL ks<=41*ks.length:=by
 induction ks with
 | nil=>simp[sumL]
 | cons k ks ih=>
  have:=WT (h k (zH ..));have:=ih fun x hx=>h x (zF _ hx)
  rw[Nd.sumL_cons,zP];omega
theorem zIu {h:Nat}{lo hi:Bd}{ks ss:List Str}{ts ps:List (Tr h)}{i m:Nat}{x:Tr h}(hw:Inn (WF h) lo hi (ks,ts))(hm:i+m<ts.length)(hx:WX h (KN lo ks i) (Z9 ks hi (i+m)) x)(hf:Full h x)(hc:Cuts h x ps ss):
  Inn (WF h) lo hi (ks.take i++ss++ks.drop (i+m),ts.take i++ps++ts.drop (i+m+1))/\
  con (h+1) (ks.take i++ss++ks.drop (i+m),ts.take i++ps++ts.drop (i+m+1))=(ts.take i).flatMap (con h)++con h x++(ts.drop (i+m+1)).flatMap (con h)/\
  jL (ks.take i++ss++ks.drop (i+m)) (ts.take i++ps++ts.drop (i+m+1)).length<=jL ks ts.length+285/\ks.length<=(ks.take i++ss++ks.drop (i+m)).length+m:=by
 obtain⟨c1,c2,c3,_⟩:=U8 hc hx (.inl hf);have l1:=hw.2.2.len;have l2:=c1.2.2.len;simp only at l1 l2;refine⟨hw.splice hm c1, ?_, ?_, ?_⟩
 .simp only[con,qL,c2]
 .have hs:=ZE fun k hk=>(c1.1 k hk).1
  simp only at hs;have e:sumL (ks.take i)+sumL (ks.drop (i+m))<=sumL ks:=by
   have a1:sumL ks=sumL (ks.take i)+sumL (ks.drop i):=by rw[<-Nd.sumL_append,List.take_append_drop]
   have a2:sumL (ks.drop i)=sumL ((ks.drop i).take m)+sumL (ks.drop (i+m)):=by rw[<-List.drop_drop,<-Nd.sumL_append,List.take_append_drop]
   omega
  simp only[jL,zM,zQ,zU,Nd.sumL_append];omega
 .simp only[zM,zQ,zU];omega
theorem zAg {h:Nat}{a b:Tr h}{s:Str}(hs:s.length<=40)(hf:Full h a\/Full h b):Full h (cY h a s b):=by
 cases h with
 | zero=>
  intro e;have e:List.append (α:=Str×Str) a b=[]:=e;rcases hf with hf | hf
  .exact hf (List.append_eq_nil_iff.1 e).1
  .exact hf (List.append_eq_nil_iff.1 e).2
 | succ h=>
  have:=JG (h+1) a s b hs;simp only[jD]at this;show 160<=jL _ _;rcases hf with hf | hf
  .have hf:160<=jL a.1 a.2.length:=hf;omega
  .have hf:160<=jL b.1 b.2.length:=hf;omega
theorem cS {h:Nat}{lo hi:Bd}{t:Tr (h+1)}(hw:WF (h+1) lo hi t):3<=t.1.length:=by
 obtain⟨⟨w1,_,w3⟩,_,hz,_⟩:=hw;have hl:=w3.len;have:=ZE fun k hk=>(w1 k hk).1
 simp only[jL]at hz;omega
theorem zIH {lo hi:Bd}{l:Kvs}{k v:Str}(hw:Lf lo hi l)(hl:zFH lo k)(hh:hiB hi k)(hk:mayK k=true)(hv:v.length<=200):Lf lo hi (putP k v l)/\jH (putP k v l)<=jH l+242:=by
 refine⟨⟨Nd.srt_put _ _ hw.1,fun p hp=> ?_⟩, ?_⟩
 .rcases Nd.mem_put hp with rfl | hp
  .exact⟨hl,hh,hk,hv⟩
  .exact hw.2 p hp
 .have he:=zC1 (p:=(k,v)) ⟨hk,hv⟩;simp only at he;clear hw
  induction l with
  | nil=>simp only[putP,kI,bL];omega
  | cons a l ih=>
   obtain⟨a,b⟩:=a;simp only[putP];split
   .simp only[kI];omega
   .split
    .simp only[kI];omega
    .simp only[kI];omega
theorem zII {lo hi:Bd}{l:Kvs}(k:Str)(hw:Lf lo hi l):Lf lo hi (delP k l)/\jH (delP k l)<=jH l:=by
 refine⟨⟨Nd.srt_del _ hw.1,fun p hp=>hw.2 p (Nd.mem_del hp)⟩, ?_⟩;clear hw
 induction l with
 | nil=>exact Nat.le_refl _
 | cons a l ih=>
  obtain⟨a,b⟩:=a;simp only[delP];split
  .simp only[kI];omega
  .simp only[kI];omega
end Go.Bt
end
section
namespace Go.Ex
open Go.Nd (Str)
def over (b:Str)(f:Nat)(s:Str):Str:=b.take f++s++b.drop (f+s.length)
end Go.Ex
namespace Go.Bk
open Go.Nd (Str be)
def zNj (u:Nat):Str->Nat
 | []=>u
 | b::l=>zNj (Nat.xor u b.toNat*1099511628211 % 18446744073709551616) l
theorem V4: ∀(s:Str) (u:Nat),u<18446744073709551616->zNj u s<18446744073709551616
 | [],_,h=>h
 | _::l,_,_=>V4 l _ (Nat.mod_lt _ (by omega))
theorem BA: ∀(s:Str) (b:UInt8) (u:Nat),zNj u (s++[b])=Nat.xor (zNj u s) b.toNat*1099511628211 % 18446744073709551616
 | [],_,_=>rfl
 | _::l,b,_=>BA l b _
def W6 (s:Str):Nat:=zNj 14695981039346656037 s
theorem zKW (s:Str):W6 s<18446744073709551616:=V4 _ _ (by omega)
def wX:Str:=[106,116,116,121]
def VT (kind:UInt8)(birth:Nat)(n:Nat):Str:=wX++([kind,0]++(be 2 n++be 4 birth))
def sealB (kind:UInt8)(birth:Nat)(body:Str):Str:=VT kind birth body.length++(body++List.replicate (500 - body.length) 0)
theorem JI (kind:UInt8)(birth n:Nat):(VT kind birth n).length=12:=by simp[VT,wX,Nd.be_length]
theorem sealB_len {kind:UInt8}{birth:Nat}{body:Str}(h:body.length<=500):(sealB kind birth body).length=512:=by
 simp[sealB,JI];omega
end Go.Bk
namespace Go.Eng
open Go.Nd (Str)
theorem zCl: ∀(n:Nat) (l:List AV),n<=l.length->takeN n l=some (l.take n)
 | 0,_,_=>rfl
 | n+1,[],h=>by simp at h
 | n+1,a::l,h=>by
  have ih:=zCl n l (by simpa using h);simp only[takeN,ih,List.take_succ_cons]
theorem zOb {H:AH}{A off m cc e:Nat}{g:Bool}{b s:Str}(h:H.h.get A=some (.cells (qW b) e 1 g))(hk:H.ok)(hm:off+m<=b.length):
  ∃H',cpy 1 (.slice A off m cc) (S s) H=some (.int .i64 ((min s.length m:Nat):Int),H')/\H'.h.get A=some (.cells (qW (Ex.over b off (s.take (min s.length m)))) e 1 g)/\Stp (fun B=>B=A) H H':=by
 obtain⟨n,hn⟩: ∃n,n=min s.length m:=⟨_,rfl⟩;rw[<-hn];have hnl:n<=s.length:=by omega
 have hmin:Nat.min s.length m=n:=hn.symm;have e1:takeN (n*1) (qW s)=some (qW (s.take n)):=by
  rw[Nat.mul_one,zCl _ _ (by rw[y8];exact hnl),qW,qW,List.map_take]
 have hc:qY (qW (s.take n))=true:=by
  rw[jA];intro x hx;obtain⟨b,_,rfl⟩:=List.mem_map.1 hx;rfl
 have e2:setAt (qW b) off (qW (s.take n))=some (qW (Ex.over b off (s.take n))):=by
  have hl:(s.take n).length=n:=by rw[zQ];omega
  rw[jZ (by rw[y8,y8,hl];omega)];have hl2:(qW (s.take n)).length=n:=by rw[y8,hl]
  rw[hl2,Ex.over,hl];simp only[qW,List.map_append,List.map_drop];rw[List.map_take (f:=fun c:UInt8=>AV.int .u8 ((c.toNat:Nat):Int)) (l:=b) (i:=off)]
 refine⟨_, ?_, ?_,(Stp.refl hk).put (hk.lt h) (.cells (qW (Ex.over b off (s.take n))) e 1 g) (.inr rfl)⟩
 .simp only[cpy,zBm,hmin,e1,hc,cond_true,h,show Nat.blt 0 1=true from rfl,e2,yX,yG];rfl
 .rw[AH.put_get,if_pos rfl]
theorem zIi {n A lo hi:Nat}(h1:lo<=hi)(h2:hi<=n)(h3:lo<n)(κ κ':IntKind):k9 n 1 (.ptr A 0) (some (.int κ (lo:Nat))) (some (.int κ' (hi:Nat))) none=some (.slice A lo (hi - lo) (2*(n - lo))):=by
 have n1:=yM κ (z:=((lo:Nat):Int)) (by omega);have n2:=yM κ' (z:=((hi:Nat):Int)) (by omega);simp only[qD]at n1 n2;have b1:Nat.ble lo hi=true:=by rw[qA];exact h1
 have b2:Nat.ble hi n=true:=by rw[qA];exact h2
 have b4:Nat.beq n lo=false:=by rw[Bool.eq_false_iff];intro h;have:=Nat.eq_of_beq_eq_true h;omega
 have b3:((2*n) % 2).beq 0=true:=by rw[Nat.mul_mod_right];rfl
 have b5:2*n / 2=n:=Nat.mul_div_cancel_left n (by omega);simp[k9,yT,n1,n2,QY,b1,b2,b3,b4,b5,yG,show Nat.blt 0 1=true from rfl]
theorem zB0 {a b:Nat}(ha:a<18446744073709551616)(hb:b<256):jJ .xor (.int .u64 ((a:Nat):Int)) (.int .u64 (b:Int))=some (.int .u64 ((Nat.xor a b:Nat):Int))/\Nat.xor a b<18446744073709551616:=by
 have h1:Nat.blt a (Y5 .u64)=true:=by rw[zR];exact ha
 have h2:Nat.blt b (Y5 .u64)=true:=by rw[zR];exact Nat.lt_trans hb (by decide)
 have hl:Nat.xor a b<18446744073709551616:=Nat.xor_lt_two_pow (n:=64) ha (Nat.lt_trans hb (by decide));have hk:keq .u64 .u64=true:=rfl;have h5:IntKind.wrap .u64 ((Nat.xor a b:Nat):Int)=((Nat.xor a b:Nat):Int):=by rw[wrap_u64];omega
 have h4:dY .xor .u64 (.ofNat a) (.ofNat b)=some (.int .u64 ((Nat.xor a b:Nat):Int)):=by
  simp only[dY,IntKind.signed,Bool.not_false,h1,h2,Bool.and_self,cond_true,wR,Int.ofNat_eq_natCast,h5]
 have h6:jJ .xor (.int .u64 (.ofNat a)) (.int .u64 (.ofNat b))=dY .xor .u64 (.ofNat a) (.ofNat b):=by simp only[jJ,vN,hk,cond_true]
 exact⟨h6.trans h4,hl⟩
theorem zNS (s:Str)(k:IntKind){i:Nat}(h:i<s.length):KT (S s) (.int k ((i:Nat):Int))=some (.int .u8 (((s[i]).toNat:Nat):Int)):=by
 have:=VQ s k (z:=((i:Nat):Int)) (by omega) (by simpa using h);simpa using this
theorem K7: ∀(b:Str),wY (List.replicate b.length 7) (qW b) (qW b)=some true
 | []=>rfl
 | x::b=>by
  have h:=Q2 .u8 ((x.toNat:Nat):Int) ((x.toNat:Nat):Int);have e:dL .u8=7:=rfl;rw[e,decide_eq_true rfl]at h;simp only[zP,List.replicate_succ,qW,List.map_cons,wY,h];exact K7 b
theorem zMb {b:Str}{n:Nat}(h:b.length=n):eqA (List.replicate n 7) (.agg (qW b)) (.agg (qW b))=some true:=by
 subst h;have h1:=zFL (qW b);rw[y8]at h1;have h2:(List.replicate b.length 7).length=b.length:=List.length_replicate;simp only[eqA,h1,h2,Nat.add_zero,Nat.beq_refl,Bool.and_self,cond_true,K7]
end Go.Eng
namespace Go.Eng.Sh
open Go.Nd (Ptr Str be)
open Go.Bk
set_option maxRecDepth 20000
theorem zOi (H:AH){A e:Nat}{s:Str}{k:Nat}(hk:H.ok)(g:H.h.get A=some (.cells (qW s) e 1 false))(hl:s.length=k):zE6 (.slice A 0 k (2*k)) H=some (S s):=
 YA (n:=k) ⟨by rw[y8,hl,Nat.mul_one], .inr (.inr ⟨_,_,_,_,_,_,_,rfl,g,hk.lt g,by rw[y8,hl];omega,by
  rw[List.drop_zero,zO (by rw[y8,hl];omega)]⟩)⟩ (by simp)
theorem st1d {H:AH}(hk:H.ok){A o e:Nat}{l:List AV}{x:AV}(h:H.h.get A=some (.cells l e 1 false))(hx:Eng.isCell x=true)(ho:o<l.length): ∃H',stN 1 (.ptr A o) x H=some (qZ,H')/\H'.h.get A=some (.cells (l.set o x) e 1 false)/\Stp (fun B=>B=A) H H':=
 ⟨_,fH h (by decide) hx ho,by rw[AH.put_get,if_pos rfl],(Stp.refl hk).put (hk.lt h) _ (.inr rfl)⟩
theorem zK5 (x:AV): ∀n,rep n [x]=List.replicate n x
 | 0=>rfl
 | n+1=>by rw[rep,zK5 x n,List.replicate_succ];rfl
theorem d8 (n:Nat):rep n [AV.int .u8 ((0:Nat):Int)]=qW (List.replicate n 0):=by
 rw[zK5];simp[qW]
theorem bytesV_cells (b:Str):qY (qW b)=true:=by
 rw[jA];intro x hx;obtain⟨b,_,rfl⟩:=List.mem_map.1 hx;rfl
theorem k7 {A e k:Nat}{H:AH}{l:List AV}{g:Bool}(h:H.h.get A=some (.cells l e 1 g))(hl:l.length=k):ldN k (.ptr A 0) H=some (.agg l):=by
 rw[y6 h,yS _ _ _ (.inr (by omega)),List.drop_zero,<-hl,qN];rfl
theorem stR {H:AH}(hk:H.ok){A e n:Nat}{b b':Str}(h:H.h.get A=some (.cells (qW b) e 1 false))(h1:b.length=n)(h2:b'.length=n):
  ∃H',stN n (.ptr A 0) (.agg (qW b')) H=some (qZ,H')/\H'.h.get A=some (.cells (qW b') e 1 false)/\Stp (fun B=>B=A) H H':=by
 obtain⟨H',e1,g1,s1,_⟩:=yD hk h (l':=qW b') (by rw[y8,y8,h1,h2]) (bytesV_cells b');rw[y8,h1]at e1;exact⟨H',e1,g1,s1⟩
theorem ldR {H:AH}{A e n:Nat}{b:Str}{g:Bool}(h:H.h.get A=some (.cells (qW b) e 1 g))(h1:b.length=n):ldN n (.ptr A 0) H=some (.agg (qW b)):=k7 h (by rw[y8,h1])
theorem zMh (D:Dyn)(n:Nat){H:AH}(s:Str)(hn:s.length<n)(hs:s.length<=1000000000):f225 D n [S s] H=some (.int .u64 ((W6 s:Nat):Int),H):=by
 have lp:yJ n (QF D n) [.int .u64 ((14695981039346656037:Nat):Int),S s, .int .i64 ((s.length:Nat):Int), .int .i64 ((0:Nat):Int)] H=some (.exit 0 [.int .u64 ((W6 s:Nat):Int)],H):=by
  refine uJ (fun i=>[.int .u64 ((W6 (s.take i):Nat):Int),S s, .int .i64 ((s.length:Nat):Int), .int .i64 ((i:Nat):Int)]) s.length (fun i hi=> ?_) (fun k=> ?_) n (by omega)
  .have hl:W6 (s.take i)<18446744073709551616:=V4 _ _ (by omega);have hx:=zNS s .i64 hi;have hc:=(s[i]).toNat_lt;obtain⟨hxor,hxl⟩:=zB0 (a:=W6 (s.take i)) (b:=(s[i]).toNat) hl (by omega);have hw:IntKind.wrap .u64 (((s[i]).toNat:Nat):Int)=(((s[i]).toNat:Nat):Int):=by rw[wrap_u64];omega
   have hmul:jJ .mul (.int .u64 ((Nat.xor (W6 (s.take i)) (s[i]).toNat:Nat):Int)) (.int .u64 ((1099511628211:Nat):Int))=some (.int .u64 ((W6 (s.take (i+1)):Nat):Int)):=by
    rw[zDp,wrap_u64,zV hi];have e:W6 (s.take i++[s[i]])=Nat.xor (W6 (s.take i)) (s[i]).toNat*1099511628211 % 18446744073709551616:=BA _ _ _;rw[e,Int.natCast_emod,Int.natCast_mul];rfl
   have hiI:((i:Nat):Int)< ((s.length:Nat):Int):=by omega
   have hi1:((i:Nat):Int)+((1:Nat):Int)=((i+1:Nat):Int):=by omega
   simp(maxSteps:=999999)(disch:=omega) only[QF,eZ,hiI,hx,hw,hxor,hmul,hi1]
  .refine y9 ?_;simp only[QF,eZ,qJ,qN]
 simp only[f225,f230,eZ,ZP,lp,zAp]
theorem zHm (D:Dyn)(n:Nat)(hn:1000<=n){H:AH}(hk:H.ok){b:Str}(hb:b.length=512): ∃H',f208 D n [.agg (qW b)] H=some (.int .u64 ((W6 b:Nat):Int),H')/\Prs H H':=by
 obtain⟨H1,A1,b1,p1,g1,m1,n1⟩:=box hk (.cells (qW b) 55 1 false);have hs:k9 512 1 (.ptr A1 0) none none none=some (.slice A1 0 512 1024):=rfl;have hcv:zE6 (.slice A1 0 512 1024) H1=some (S b):=zOi H1 p1.ok g1 hb;have e:=zMh D n (H:=H1) b (by omega) (by omega);refine⟨H1, ?_,p1⟩;simp(maxSteps:=999999)(disch:=omega) only[f208,eZ,b1,hs,hcv,e]
theorem zF0 (D:Dyn)(n:Nat)(hn:1000<=n){H:AH}(hk:H.ok)(kind:UInt8){birth:Nat}(hb:birth<=2147483647){body:Str}(hl:body.length<=500):
  ∃H',zGG D n [.int .u8 ((kind.toNat:Nat):Int), .int .i64 ((birth:Nat):Int),S body] H=some (.tuple [.agg (qW (sealB kind birth body)), .int .i64 ((0:Nat):Int)],H')/\Prs H H':=by
 obtain⟨Z,hZ⟩: ∃Z:Str,Z=List.replicate 512 0:=⟨_,rfl⟩;have hZl:Z.length=512:=by rw[hZ];simp
 have hzr:rep 512 [AV.int .u8 ((0:Nat):Int)]=qW Z:=by rw[d8,hZ]
 obtain⟨H1,A6,b1,p1,g1,m1,n1⟩:=box hk (.cells (qW Z) 55 1 false);obtain⟨H2,A8,b2,p2,g2,m2,n2⟩:=box p1.ok (.cells (qW Z) 55 1 false);have N1:=p1.next;have N2:=p2.next
 have t1: ¬((birth:Nat):Int)< ((0:Nat):Int):=by omega
 have t2: ¬((2147483647:Nat):Int)< ((birth:Nat):Int):=by omega
 have t3: ¬((500:Nat):Int)< ((body.length:Nat):Int):=by omega
 have s0:k9 512 1 (.ptr A8 0) none none none=some (.slice A8 0 512 1024):=rfl;have s1:k9 512 1 (.ptr A8 0) (some (.int .i64 ((6:Nat):Int))) (some (.int .i64 ((8:Nat):Int))) none=some (.slice A8 6 2 1012):=rfl;have s2:k9 512 1 (.ptr A8 0) (some (.int .i64 ((8:Nat):Int))) (some (.int .i64 ((12:Nat):Int))) none=some (.slice A8 8 4 1008):=rfl;have s3:k9 512 1 (.ptr A8 0) (some (.int .i64 ((12:Nat):Int))) none none=some (.slice A8 12 500 1000):=rfl;have ix:vX 512 1 (.ptr A8 0) (.int .i64 ((4:Nat):Int))=some (.ptr A8 4):=rfl;have hm:(AV.str 4 2037675114)=S wX:=rfl;obtain⟨H3,e3,g3,st3⟩:=zOb (off:=0) (m:=512) (cc:=1024) (s:=wX) g2 p2.ok (by omega);have hmin:min wX.length 512=4:=rfl;rw[hmin]at e3 g3;have o3:Ex.over Z 0 (wX.take 4)=wX++(0::List.replicate 507 0):=by
  rw[hZ];rfl
 rw[o3]at g3;obtain⟨H4,e4,g4,st4⟩:=st1d st3.ok g3 (o:=4) (x:= .int .u8 ((kind.toNat:Nat):Int)) rfl (by rw[y8];simp[wX]);have o4:(qW (wX++(0::List.replicate 507 0))).set 4 (.int .u8 ((kind.toNat:Nat):Int))=qW ((wX++[kind,0])++List.replicate 506 0):=by
  simp[qW,wX,List.replicate_succ]
 rw[o4]at g4;obtain⟨H5,e5,g5,st5,_⟩:=zFi D n st4.ok (off:=6) (k:=2) (cc:=1012) body.length g4 (by rw[y8];simp[wX]) (by omega) (by omega);have o5:(qW ((wX++[kind,0])++List.replicate 506 0)).take 6++(qW (be 2 body.length)++(qW ((wX++[kind,0])++List.replicate 506 0)).drop (6+2))=qW ((wX++([kind,0]++be 2 body.length))++List.replicate 504 0):=by
  simp[qW,wX,List.replicate_succ]
 rw[o5]at g5;obtain⟨H6,e6,g6,st6,_⟩:=zFi D n st5.ok (off:=8) (k:=4) (cc:=1008) birth g5 (by rw[y8];simp[wX,Nd.be_length]) (by omega) (by omega);have hb2:(wX++([kind,0]++be 2 body.length)).length=8:=by simp[wX,Nd.be_length]
 have o6:(qW ((wX++([kind,0]++be 2 body.length))++List.replicate 504 0)).take 8++(qW (be 4 birth)++(qW ((wX++([kind,0]++be 2 body.length))++List.replicate 504 0)).drop (8+4))=qW (VT kind birth body.length++List.replicate 500 0):=by
  obtain⟨Y,hY⟩: ∃Y,Y=wX++([kind,0]++be 2 body.length):=⟨_,rfl⟩;rw[<-hY]at hb2⊢;have e1:(qW (Y++List.replicate 504 0)).take 8=qW Y:=by
   simp only[qW,List.map_append];rw[List.take_left' (by rw[qM,hb2])]
  have e2:(qW (Y++List.replicate 504 0)).drop 12=qW (List.replicate 500 0):=by
   simp only[qW,List.map_append];rw[show 12=8+4 from rfl,<-List.drop_drop,List.drop_left' (by rw[qM,hb2])];simp
  have e3:VT kind birth body.length=Y++be 4 birth:=by rw[hY,VT];simp
  rw[e1,show 8+4=12 from rfl,e2,e3];simp[qW]
 rw[o6]at g6;have hhl:=JI kind birth body.length;obtain⟨H7,e7,g7,st7⟩:=zOb (off:=12) (m:=500) (cc:=1000) (s:=body) g6 st6.ok (by simp[hhl]);have hmin2:min body.length 500=body.length:=by omega
 rw[hmin2]at e7 g7;have o7:Ex.over (VT kind birth body.length++List.replicate 500 0) 12 (body.take body.length)=sealB kind birth body:=by
  rw[qN,Ex.over,List.take_left' hhl,show 12+body.length=12+body.length from rfl,<-List.drop_drop,List.drop_left' hhl,List.drop_replicate,sealB,List.append_assoc]
 rw[o7]at g7;have M3:=st3.next;have M4:=st4.next;have M5:=st5.next;have M6:=st6.next;have M7:=st7.next
 have hsl:=sealB_len (kind:=kind) (birth:=birth) hl;have g67:H7.h.get A6=some (.cells (qW Z) 55 1 false):=by
  rw[st7.keep _ (by omega) (by omega),st6.keep _ (by omega) (by omega),st5.keep _ (by omega) (by omega),st4.keep _ (by omega) (by omega),st3.keep _ (by omega) (by omega)];exact Prs.get p2 p1.ok g1
 obtain⟨H8,e8,g8,st8⟩:=stR st7.ok g67 hZl hsl;have r8:=ldR g7 hsl;have r6:=ldR g8 hsl;have w1:IntKind.wrap .u64 ((body.length:Nat):Int)=((body.length:Nat):Int):=by rw[wrap_u64];omega
 have w2:IntKind.wrap .u64 ((birth:Nat):Int)=((birth:Nat):Int):=by rw[wrap_u64];omega
 refine⟨H8, ?_,(((((((p1.trans p2).fresh st3 fun B hB=>by omega).fresh st4 fun B hB=>by omega).fresh st5 fun B hB=>by omega).fresh st6 fun B hB=>by omega).fresh st7 fun B hB=>by omega).fresh st8 fun B hB=>by omega)⟩;simp(maxSteps:=999999)(disch:=omega) only[zGG,eZ,hzr,b1,t1,t2,ZP,t3,b2,s0,hm,e3,ix,e4,s1,zC3,w1,e5,s2,w2,e6,s3,e7,r8,e8,r6]
end Go.Eng.Sh
end
section
namespace Go.Bk
open Go.Nd (Str be bee)
theorem seal_parts {kind:UInt8}{birth:Nat}{body:Str} :((sealB kind birth body).drop 6).take 2=be 2 body.length/\((sealB kind birth body).drop 8).take 4=be 4 birth/\((sealB kind birth body).drop 12).take body.length=body/\(sealB kind birth body)[4]? =some kind:=by
 have e1:sealB kind birth body=(wX++[kind,0])++(be 2 body.length++(be 4 birth++(body++List.replicate (500 - body.length) 0))):=by simp[sealB,VT]
 have e2:sealB kind birth body=(wX++[kind,0]++be 2 body.length)++(be 4 birth++(body++List.replicate (500 - body.length) 0)):=by simp[sealB,VT]
 refine⟨?_, ?_, ?_, ?_⟩
 .rw[e1,List.drop_left' (by simp[wX]),List.take_left' (Nd.be_length _ _)]
 .rw[e2,List.drop_left' (by simp[wX,Nd.be_length]),List.take_left' (Nd.be_length _ _)]
 .rw[sealB,List.drop_left' (JI _ _ _),List.take_left' rfl]
 .rw[e1];simp[wX]
theorem seal_inj {k k':UInt8}{b:Nat}{s s':Str}(hs:s.length<=500)(hs':s'.length<=500)(e:sealB k b s=sealB k' b s'):k=k'/\s=s':=by
 obtain⟨q1,_,q3,q4⟩:=seal_parts (kind:=k) (birth:=b) (body:=s);obtain⟨r1,_,r3,r4⟩:=seal_parts (kind:=k') (birth:=b) (body:=s');rw[e]at q1 q3 q4;rw[r1]at q1;have hl:=congrArg bee q1;rw[Nd.bee_be,Nd.bee_be,Nat.mod_eq_of_lt (by omega),Nat.mod_eq_of_lt (by omega)]at hl;rw[<-hl,r3]at q3;rw[r4]at q4;exact⟨(Option.some.inj q4).symm,q3.symm⟩
end Go.Bk
namespace Go.Eng.Sh
open Go.Nd (Ptr Str be bee)
open Go.Bk
set_option maxRecDepth 20000
theorem rowB {H:AH}(hk:H.ok){A e lo k cc:Nat}{b:Str}(g:H.h.get A=some (.cells (qW b) e 1 false))(h:lo+k<=b.length):Rw 1 H (.slice A lo k cc) k (qW ((b.drop lo).take k)):=
 ⟨by rw[y8,zQ,zU];omega, .inr (.inr ⟨_,_,_,_,_,_,_,rfl,g,hk.lt g,by rw[y8];omega,by
  rw[Nat.mul_one];simp[qW,List.map_take,List.map_drop]⟩)⟩
theorem zFt (D:Dyn)(n:Nat)(hn:1000<=n){H:AH}(hk:H.ok)(kind:UInt8){birth:Nat}(hb:birth<=2147483647){body:Str}(hl:body.length<=500):
  ∃H',zJ5 D n [.agg (qW (sealB kind birth body))] H=some (.tuple [.int .u8 ((kind.toNat:Nat):Int), .int .i64 ((birth:Nat):Int),S body, .int .i64 ((0:Nat):Int)],H')/\Prs H H':=by
 obtain⟨B,hB⟩: ∃B,B=sealB kind birth body:=⟨_,rfl⟩;obtain⟨q1,q2,q3,q4⟩:=seal_parts (kind:=kind) (birth:=birth) (body:=body);have hBl:=sealB_len (kind:=kind) (birth:=birth) hl;rw[<-hB]at q1 q2 q3 q4 hBl⊢;obtain⟨H1,A1,b1,p1,g1,m1,n1⟩:=box hk (.cells (qW B) 55 1 false);have s1:k9 512 1 (.ptr A1 0) (some (.int .i64 ((6:Nat):Int))) (some (.int .i64 ((8:Nat):Int))) none=some (.slice A1 6 2 1012):=rfl;have s2:k9 512 1 (.ptr A1 0) (some (.int .i64 ((8:Nat):Int))) (some (.int .i64 ((12:Nat):Int))) none=some (.slice A1 8 4 1008):=rfl;have s3:k9 512 1 (.ptr A1 0) (some (.int .i64 ((12:Nat):Int))) (some (.int .u64 ((12+body.length:Nat):Int))) none=some (.slice A1 12 body.length 1000):=by
  have:=zIi (n:=512) (A:=A1) (lo:=12) (hi:=12+body.length) (by omega) (by omega) (by omega) .i64 .u64;rw[this,show 12+body.length - 12=body.length by omega]
 have ix:vX 512 1 (.ptr A1 0) (.int .i64 ((4:Nat):Int))=some (.ptr A1 4):=rfl;have w1:=rowB (cc:=1012) p1.ok g1 (lo:=6) (k:=2) (by omega);have w2:=rowB (cc:=1008) p1.ok g1 (lo:=8) (k:=4) (by omega);have w3:=rowB (cc:=1000) p1.ok g1 (lo:=12) (k:=body.length) (by omega);rw[q1]at w1;rw[q2]at w2;rw[q3]at w3;have w1':Rw 1 H1 (.slice A1 6 2 1012) (be 2 body.length).length (qW (be 2 body.length)):=by rw[Nd.be_length];exact w1
 have w2':Rw 1 H1 (.slice A1 8 4 1008) (be 4 birth).length (qW (be 4 birth)):=by rw[Nd.be_length];exact w2
 have e1:=zAf D n w1' (by rw[Nd.be_length];omega) (by omega);have e2:=zAf D n w2' (by rw[Nd.be_length];omega) (by omega);rw[Nd.bee_be,Nat.mod_eq_of_lt (by omega)]at e1;rw[Nd.bee_be,Nat.mod_eq_of_lt (by omega)]at e2;have hcv:zE6 (.slice A1 12 body.length 1000) H1=some (S body):=YA w3 (by simp);have r4:Eng.ld1 (.ptr A1 4) H1=some (.int .u8 ((kind.toNat:Nat):Int)):=jQ g1 (by
  rw[qW,qT,q4];rfl)
 obtain⟨H2,e3,p2⟩:=zF0 D n hn p1.ok kind hb hl;rw[<-hB]at e3;obtain⟨Z,hZ⟩: ∃Z:Str,Z=List.replicate 512 0:=⟨_,rfl⟩;have hZl:Z.length=512:=by rw[hZ];simp
 have hzr:rep 512 [AV.int .u8 ((0:Nat):Int)]=qW Z:=by rw[d8,hZ]
 obtain⟨H3,A7,b3,p3,g3,m3,n3⟩:=box p2.ok (.cells (qW Z) 55 1 false);obtain⟨H4,e4,g4,s4⟩:=stR p3.ok g3 hZl hBl;have N2:=p2.next;have N3:=p3.next
 have g14:H4.h.get A1=some (.cells (qW B) 55 1 false):=by
  rw[s4.keep _ (by omega) (by omega)];exact Prs.get (p2.trans p3) p1.ok g1
 have r7:=ldR g4 hBl;have r1:=ldR g14 hBl;have he:bC .neq (eqA (List.replicate 512 7) (.agg (qW B)) (.agg (qW B)))=some (.bool false):=by rw[zMb hBl];rfl
 have t1: ¬((500:Nat):Int)< ((body.length:Nat):Int):=by omega
 have wi:IntKind.wrap .i64 ((birth:Nat):Int)=((birth:Nat):Int):=wrap_i64 (by omega) (by omega);have hadd:((12:Nat):Int)+((body.length:Nat):Int)=((12+body.length:Nat):Int):=by omega
 have wu:IntKind.wrap .u64 ((12+body.length:Nat):Int)=((12+body.length:Nat):Int):=by rw[wrap_u64];omega
 have t00: ¬(((0:Nat):Int)≠((0:Nat):Int)):=by omega
 refine⟨H4, ?_,((p1.trans p2).trans p3).fresh s4 fun B hB=>by omega⟩;simp(maxSteps:=999999)(disch:=omega) only[zJ5,eZ,b1,s1,e1,t1,ix,r4,s2,e2,zC3,wi,hadd,wu,s3,hcv,e3,qX,nth,hzr,b3,e4,t00,r7,r1,he]
def u4 (at_:Nat)(birth:Nat)(b:Str):Ptr:=⟨((at_:Nat):Int),((birth:Nat):Int),((W6 b:Nat):Int)⟩
theorem zJo (D:Dyn)(n:Nat)(hn:1000<=n){H:AH}(hk:H.ok)(kind:UInt8){at_ birth:Nat}(ha:1<=at_)(hb:birth<=2147483647){body:Str}(hl:body.length<=500):
  ∃H',f171 D n [.agg (y7 (u4 at_ birth (sealB kind birth body))), .agg (qW (sealB kind birth body))] H=some (.tuple [.int .u8 ((kind.toNat:Nat):Int),S body, .int .i64 ((0:Nat):Int)],H')/\Prs H H':=by
 obtain⟨B,hB⟩: ∃B,B=sealB kind birth body:=⟨_,rfl⟩;have hBl:=sealB_len (kind:=kind) (birth:=birth) hl;rw[<-hB]at hBl;obtain⟨H1,A2,b1,p1,g1,m1,n1⟩:=box hk (.cells (y7 (u4 at_ birth B)) 42 1 false);obtain⟨H2,A3,b2,p2,g2,m2,n2⟩:=box p1.ok (.cells (qW B) 55 1 false);obtain⟨H3,e3,p3⟩:=zHm D n hn p2.ok hBl;obtain⟨H4,e4,p4⟩:=zFt D n hn p3.ok kind hb hl;rw[<-hB]at e4⊢;have g12:=Prs.get p2 p1.ok g1;have g13:=Prs.get p3 p2.ok g12;have g23:=Prs.get p3 p2.ok g2;have g14:=Prs.get p4 p3.ok g13;have r0:Eng.ld1 (.ptr A2 0) H2=some (.int .i64 ((at_:Nat):Int)):=by rw[qV g12];rfl
 have r2:Eng.ld1 (.ptr A2 2) H2=some (.int .u64 ((W6 B:Nat):Int)):=by rw[qV g12];rfl
 have r23:Eng.ld1 (.ptr A2 2) H3=some (.int .u64 ((W6 B:Nat):Int)):=by rw[qV g13];rfl
 have r14:Eng.ld1 (.ptr A2 1) H4=some (.int .i64 ((birth:Nat):Int)):=by rw[qV g14];rfl
 have r3:=ldR g2 hBl;have r33:=ldR g23 hBl;have t0: ¬((at_:Nat):Int)=((0:Nat):Int):=by omega
 have t00: ¬(((0:Nat):Int)≠((0:Nat):Int)):=by omega
 have tS: ¬(((W6 B:Nat):Int)≠((W6 B:Nat):Int)):=fun h=>h rfl
 have tb: ¬(((birth:Nat):Int)≠((birth:Nat):Int)):=fun h=>h rfl
 have ck: ∀K:Rs,chk (some (.int .u64 ((W6 B:Nat):Int))) (.int .u64 ((W6 B:Nat):Int)) K=K:=fun K=>yV rfl (by simp[aveq,kK,kL])
 refine⟨H4, ?_,((p1.trans p2).trans p3).trans p4⟩;simp(maxSteps:=999999)(disch:=omega) only[f171,eZ,b1,b2,r0,t0,r3,r2,e3,r23,ck,tS,r33,e4,qX,nth,t00,r14,tb]
end Go.Eng.Sh
end
section
namespace Go.Eng
theorem cq:(∀A o,bC .eql (eqP (.ptr A o) .nilPtr)=some (.bool false))/\bC .eql (eqP .nilPtr .nilPtr)=some (.bool true)/\(∀M,bC .eql (eqM (.map M) .nilMap)=some (.bool false))/\(∀A o,bC .neq (eqP (.ptr A o) .nilPtr)=some (.bool true))/\bC .neq (eqP .nilPtr .nilPtr)=some (.bool false):=
 ⟨fun _ _=>rfl,rfl,fun _=>rfl,fun _ _=>rfl,rfl⟩
end Go.Eng
namespace Go.Bk
open Go.Nd (Str)
abbrev Ws:=List (Nat×Str)
def ZT (n:Nat):Ws->Option Nat
 | []=>none
 | (a,_)::l=>match ZT n l with
  | some i=>some (i+1)
  | none=>if a=n then some 0 else none
theorem ZS (n a:Nat)(b:Str): ∀l:Ws,ZT n (l++[(a,b)])=if a=n then some l.length else ZT n l
 | []=>by simp[ZT]
 | (c,d)::l=>by
  simp only[List.cons_append,ZT,ZS n a b l];by_cases e:a=n
  .simp[e]
  .simp[e]
theorem Y4 {n:Nat} : ∀ {l:Ws} {i:Nat},ZT n l=some i-> ∃h:i<l.length,(l[i]).1=n
 | (a,b)::l,i,h=>by
  simp only[ZT]at h
  cases hl:ZT n l with
  | some j=>
   rw[hl]at h;simp only[zC]at h;subst h;obtain⟨h1,h2⟩:=Y4 hl;exact⟨by simpa using h1,by simpa using h2⟩
  | none=>
   rw[hl]at h;simp only at h;by_cases e:a=n
   .rw[if_pos e]at h;cases h;exact⟨by simp,e⟩
   .rw[if_neg e]at h;cases h
def blkAt (n:Nat)(l:Ws):Option Str:=(ZT n l).bind fun i=>(l[i]?).map (·.2)
theorem Q4 (n a:Nat)(b:Str)(l:Ws):blkAt n (l++[(a,b)])=if a=n then some b else blkAt n l:=by
 rw[blkAt,ZS];by_cases e:a=n
 .rw[if_pos e,if_pos e];simp
 .rw[if_neg e,if_neg e,blkAt]
  cases hl:ZT n l with
  | none=>rfl
  | some i=>
   obtain⟨h1,_⟩:=Y4 hl;simp[qF h1]
end Go.Bk
namespace Go.Eng.Sh
open Go.Nd (Ptr Str)
open Go.Bk
set_option maxRecDepth 20000
def wV (w:Nat×Str):List AV:= .int .i64 ((w.1:Nat):Int)::qW w.2
structure DkI (H:AH)(Ad nb:Nat)(ws:Ws)(On Nw:Nat)(wv:AV)(es:List (AV×AV)):Prop where
 gD:H.h.get Ad=some (.cells [.int .i64 ((nb:Nat):Int), .map On,wv, .map Nw, .int .i64 ((0:Nat):Int), .nilSlice, .bool false] 151 1 false)
 gO:H.h.get On=some (.map [6] [])
 gN:H.h.get Nw=some (.map [6] es)
 ow:Own 513 153 H wv ws.length (ws.flatMap wV)
 nw: ∀n:Nat,kQ (.int .i64 ((n:Nat):Int)) es=(ZT n ws).map fun i=> .int .i64 ((i:Nat):Int)
 ln: ∀w∈ws,w.2.length=512
 few:ws.length<=1000000
 ne:On≠Nw
theorem zCf {w:Nat×Str}(h:w.2.length=512):(wV w).length=513:=by simp[wV,y8,h]
theorem zG6: ∀(l:Ws) (i:Nat) (h:i<l.length),(∀w∈l,w.2.length=512)->((l.flatMap wV).drop (i*513)).take 513=wV l[i]
 | p::l,0,_,hl=>by
  rw[Nat.zero_mul,List.drop_zero,zZ,List.take_left' (zCf (hl p zH))];rfl
 | p::l,i+1,h,hl=>by
  rw[zZ,show(i+1)*513=513+i*513 by omega,<-List.drop_drop,List.drop_left' (zCf (hl p zH))];exact zG6 l i (by simpa using h) fun w hw=>hl w (zF _ hw)
def zHo (n:Nat)(ws:Ws):Str:=(blkAt n ws).getD (List.replicate 512 0)
theorem zJt {n:Nat}{ws:Ws}(h: ∀w∈ws,w.2.length=512):(zHo n ws).length=512:=by
 rw[zHo,blkAt]
 cases hl:ZT n ws with
 | none=>simp
 | some i=>
  obtain⟨h1,_⟩:=Y4 hl;simp only[Option.bind_some,zG h1,Option.map_some,Option.getD_some];exact h _ (qC h1)
theorem keyI (z:Int):kD [6] (.int .i64 z)=true:=rfl
theorem zKF (D:Dyn)(n:Nat){H:AH}{Ad nb:Nat}{ws:Ws}{On Nw:Nat}{wv:AV}{es:List (AV×AV)}(d:DkI H Ad nb ws On Nw wv es){k:Nat}(hk:k<nb):f74 D n [.ptr Ad 0, .int .i64 ((k:Nat):Int)] H=some (.int .i64 ((0:Nat):Int),H):=by
 have r6:Eng.ld1 (.ptr Ad 6) H=some (.bool false):=by rw[qV d.gD];rfl
 have r0:Eng.ld1 (.ptr Ad 0) H=some (.int .i64 ((nb:Nat):Int)):=by rw[qV d.gD];rfl
 have a:f120 D n [.ptr Ad 0] H=some (.int .i64 ((0:Nat):Int),H):=by
  simp(maxSteps:=999999)(disch:=omega) only[f120,eZ,cq,r6]
 have t00: ¬(((0:Nat):Int)≠((0:Nat):Int)):=by omega
 have t1: ¬((k:Nat):Int)< ((0:Nat):Int):=by omega
 have t2: ¬((nb:Nat):Int)<=((k:Nat):Int):=by omega
 simp(maxSteps:=999999)(disch:=omega) only[f74,eZ,a,t00,t1,r0,t2]
theorem zH3 (D:Dyn)(n:Nat){H:AH}(hk:H.ok){Ad nb:Nat}{ws:Ws}{On Nw:Nat}{wv:AV}{es:List (AV×AV)}(d:DkI H Ad nb ws On Nw wv es){k:Nat}(hkn:k<nb):
  ∃H',f25 D n [.ptr Ad 0, .int .i64 ((k:Nat):Int)] H=some (.tuple [.agg (qW (zHo k ws)), .int .i64 ((0:Nat):Int)],H')/\Prs H H':=by
 obtain⟨Z,hZ⟩: ∃Z:Str,Z=List.replicate 512 0:=⟨_,rfl⟩;have hZl:Z.length=512:=by rw[hZ];simp
 have hzr:rep 512 [AV.int .u8 ((0:Nat):Int)]=qW Z:=by rw[d8,hZ]
 obtain⟨H1,A4,b1,p1,g1,m1,n1⟩:=box hk (.cells (qW Z) 55 1 false);have d1:DkI H1 Ad nb ws On Nw wv es:=⟨Prs.get p1 hk d.gD,Prs.get p1 hk d.gO,Prs.get p1 hk d.gN,d.ow.mono p1 fun _ _ x=>x,d.nw,d.ln,d.few,d.ne⟩;have ha:=zKF D n d1 hkn;have t00: ¬(((0:Nat):Int)≠((0:Nat):Int)):=by omega
 have r3:Eng.ld1 (.ptr Ad 3) H1=some (.map Nw):=by rw[qV d1.gD];rfl
 have r1:Eng.ld1 (.ptr Ad 1) H1=some (.map On):=by rw[qV d1.gD];rfl
 have r2:Eng.ld1 (.ptr Ad 2) H1=some wv:=by rw[qV d1.gD];rfl
 have hbl:(zHo k ws).length=512:=zJt d.ln;obtain⟨H2,e2,g2,s2⟩:=stR p1.ok g1 hZl hbl;have rr:=ldR g2 hbl;refine⟨H2, ?_,p1.fresh s2 fun B hB=>by omega⟩
 cases hl:ZT k ws with
 | none=>
  have hf:=d.nw k;rw[hl]at hf;have hlk:lkM [6] (.int .i64 ((0:Nat):Int)) true (.map Nw) (.int .i64 ((k:Nat):Int)) H1=some (.tuple [.int .i64 ((0:Nat):Int), .bool false]):=by
   simp only[lkM,keyI,cond_true,d1.gN,show QN [6] [6]=true from rfl,hf,Option.map_none];rfl
  have hlo:lkM [6] (.agg (qW Z)) false (.map On) (.int .i64 ((k:Nat):Int)) H1=some (.agg (qW Z)):=by
   simp only[lkM,keyI,cond_true,d1.gO,show QN [6] [6]=true from rfl,kQ];rfl
  have hz:zHo k ws=Z:=by rw[zHo,blkAt,hl,hZ];rfl
  rw[hz]at e2 rr⊢;simp(maxSteps:=999999)(disch:=omega) only[f25,eZ,hzr,b1,ha,t00,r3,hlk,qX,nth,r1,hlo,e2,rr]
 | some i=>
  obtain⟨hi,_⟩:=Y4 hl;have hf:=d.nw k;rw[hl]at hf;have hlk:lkM [6] (.int .i64 ((0:Nat):Int)) true (.map Nw) (.int .i64 ((k:Nat):Int)) H1=some (.tuple [.int .i64 ((i:Nat):Int), .bool true]):=by
   simp only[lkM,keyI,cond_true,d1.gN,show QN [6] [6]=true from rfl,hf,Option.map_some];rfl
  have hz:zHo k ws=ws[i].2:=by rw[zHo,blkAt,hl];simp[zG hi]
  obtain⟨A,o,c,e,sz,g,q1,q2,q3,q4,q5⟩:=Rw.at d1.ow.row hi;rw[zG6 ws i hi d.ln]at q5;have q1':=q1 .i64 ((i:Nat):Int) rfl;have hld:ldN 512 (.ptr A (o+1)) H1=some (.agg (qW (zHo k ws))):=by
   rw[ZR q2 (by omega),hz];have h2:(c.drop (o+1)).take 512=((c.drop o).take 513).drop 1:=by
    rw[List.drop_take,List.drop_drop]
   rw[h2,q5];rfl
  simp(maxSteps:=999999)(disch:=omega) only[f25,eZ,hzr,b1,ha,t00,r3,hlk,qX,nth,r2,q1',hld,e2,rr]
end Go.Eng.Sh
end
section
set_option maxRecDepth 20000
namespace Go.Eng
theorem zJF (s t:Nat):aveq (.int .u64 (s:Nat)) (.int .u64 (t:Nat))=decide (s=t):=by
 have:keq .u64 .u64=true:=by rw[kK];simp
 simp only[aveq,this,Bool.true_and,kL];rw[Bool.eq_iff_iff];simp only[zJ,beq_iff_eq];exact Int.ofNat_inj
theorem zNL (s:Nat):kD [10] (.int .u64 (s:Nat))=true:=rfl
end Go.Eng
namespace Go.Eng.Sh
open Go.Nd (Ptr sumL)
abbrev PN:=List (Nat×Nd.Node)
def yA (s:Nat):PN->Option Nd.Node
 | []=>none
 | (a,n)::l=>if a=s then some n else yA s l
def zDd (s:Nat):PN->PN
 | []=>[]
 | (a,n)::l=>if a=s then l else(a,n)::zDd s l
def xG (H:AH):List (AV×AV)->PN->Prop
 | [],[]=>True
 | (k,v)::es,(s,nd)::q=>(k= .int .u64 (s:Nat)/\yK H v nd)/\xG H es q
 | _,_=>False
theorem xG.len {H:AH} : ∀ {es:List (AV×AV)} {q:PN},xG H es q->es.length=q.length
 | [],[],_=>rfl
 | _::es,_::q,h=>by simp[xG.len h.2]
 | [],_::_,h=>h.elim
 | _::_,[],h=>h.elim
theorem xG.find {H:AH}(s:Nat): ∀ {es:List (AV×AV)} {q:PN},xG H es q->(∀nd,yA s q=some nd-> ∃v,kQ (.int .u64 (s:Nat)) es=some v/\yK H v nd/\ ∃k,(k,v)∈es)/\(yA s q=none->kQ (.int .u64 (s:Nat)) es=none)
 | [],[],_=>⟨fun nd h=>(by cases h),fun _=>rfl⟩
 | (k,v)::es,(t,nd)::q,h=>by
  obtain⟨⟨rfl,h1⟩,h2⟩:=h;obtain⟨i1,i2⟩:=xG.find s h2;simp only[yA,kQ,zJF];by_cases e:t=s
  .subst e;refine⟨fun nd' h=> ?_,fun h=>by simp at h⟩;simp only[if_true,zC]at h;subst h;exact⟨v,by simp,h1,_,zH ..⟩
  .have e': ¬s=t:=fun h=>e h.symm
   refine⟨fun nd' h=> ?_,fun h=> ?_⟩
   .rw[if_neg e]at h;obtain⟨v',j1,j2,k,j3⟩:=i1 nd' h;exact⟨v',by simp[e',j1],j2,k,zF _ j3⟩
   .rw[if_neg e]at h;simp[e',i2 h]
 | [],_::_,h=>h.elim
 | _::_,[],h=>h.elim
theorem xG.frame {H H':AH} : ∀ {es:List (AV×AV)} {q:PN},xG H es q->(∀kv∈es,∀nd,yK H kv.2 nd->yK H' kv.2 nd)->xG H' es q
 | [],[],_,_=>trivial
 | (k,v)::es,(s,nd)::q,h,hf=>⟨⟨h.1.1,hf (k,v) (zH ..) nd h.1.2⟩,xG.frame h.2 fun kv hkv=>hf kv (zF _ hkv)⟩
 | [],_::_,h,_=>h.elim
 | _::_,[],h,_=>h.elim
theorem xG.snoc {H:AH}{v:AV}{s:Nat}{nd:Nd.Node}(hv:yK H v nd): ∀ {es:List (AV×AV)} {q:PN},xG H es q->xG H (es++[(.int .u64 (s:Nat),v)]) (q++[(s,nd)])
 | [],[],_=>⟨⟨rfl,hv⟩,trivial⟩
 | _::es,_::q,h=>⟨h.1,xG.snoc hv h.2⟩
 | [],_::_,h=>h.elim
 | _::_,[],h=>h.elim
theorem kP (s:Nat): ∀(a b:PN),yA s (a++b)=match yA s a with | some n=>some n | none=>yA s b
 | [],_=>rfl
 | (t,n)::a,b=>by
  simp only[List.cons_append,yA];split
  .rfl
  .exact kP s a b
theorem setA_none {k v:AV} : ∀ {es:List (AV×AV)},kQ k es=none->UQ k v es=none
 | [],_=>rfl
 | (a,b)::es,h=>by
  simp only[kQ]at h;simp only[UQ]
  cases e:aveq k a with
  | true=>rw[e]at h;cases h
  | false=>rw[e]at h;simp only[cond_false]at h⊢;rw[setA_none h]
theorem xG.del {H:AH}(s:Nat): ∀ {es:List (AV×AV)} {q:PN},xG H es q->(∀nd,yA s q=some nd-> ∃es',zH5 (.int .u64 (s:Nat)) es=some es'/\xG H es' (zDd s q)/\ ∀kv∈es',kv∈es)
 | [],[],_=>fun nd h=>by cases h
 | (k,v)::es,(t,nd)::q,h=>by
  obtain⟨⟨rfl,h1⟩,h2⟩:=h;have ih:=xG.del s h2;simp only[yA,zH5,zJF,zDd];by_cases e:t=s
  .subst e;intro nd' _;exact⟨es,by simp,by simpa using h2,fun kv hkv=>zF _ hkv⟩
  .have e': ¬s=t:=fun h=>e h.symm
   intro nd' h;rw[if_neg e]at h;obtain⟨es',j1,j2,j3⟩:=ih nd' h;refine⟨(.int .u64 (t:Nat),v)::es',by simp[e',j1], ?_,fun kv hkv=> ?_⟩
   .rw[if_neg e];exact⟨⟨rfl,h1⟩,j2⟩
   .rcases List.mem_cons.1 hkv with rfl | hkv
    .exact zH ..
    .exact zF _ (j3 kv hkv)
 | [],_::_,h=>h.elim
 | _::_,[],h=>h.elim
def zOu (o:AObj):Prop:=(∃x r e g,o= .cells (x::r) e 1 g/\ ∀l b,x≠ .str l b)\/(∃ks es,o= .map ks es)\/ ∃l e k g,o= .cells l e k g/\k≠1/\k≠3
theorem j9.nsep {k e n:Nat}{H:AH}{v:AV}{l:List AV}(h:j9 k e H v n l){A:Nat}{o:AObj}(hA:H.h.get A=some o)(ho: ∀e' g,o≠ .cells l e' k g): ¬Blk v A:=by
 intro hb;rcases h with⟨_,⟨rfl,_⟩ | ⟨B,rfl,_,hg⟩⟩ | ⟨_,B,e',g,rfl,_,hg,_⟩
 .exact Blk.nil.1 hb
 .rw[Blk.slice.1 hb]at hA;rw[hg]at hA;exact ho _ _ (Option.some.inj hA).symm
 .rw[Blk.slice.1 hb]at hA;rw[hg]at hA;exact ho _ _ (Option.some.inj hA).symm
theorem yK.nblk {H:AH}{v:AV}{nd:Nd.Node}{A:Nat}{o:AObj}(h:yK H v nd)(hA:H.h.get A=some o)(ho:zOu o): ¬wN v A:=by
 obtain⟨ks,vs,ps,rfl,h1,h2,h3⟩:=h;have hS: ∀(l:List Str),∀e' g,o≠ .cells (l.map S) e' 1 g:=fun l e' g e=>by
  rcases ho with⟨x,r,e2,g2,rfl,hx⟩ | ⟨_,_,rfl⟩ | ⟨_,_,_,_,rfl,k1,k3⟩
  .simp only[AObj.cells.injEq]at e
   cases l with
   | nil=>simp at e
   | cons y l=>
    simp only[List.map_cons,List.cons.injEq]at e;exact hx _ _ e.1.1
  .cases e
  .simp only[AObj.cells.injEq]at e;omega
 have hP: ∀e' g,o≠ .cells (nd.kids.flatMap y7) e' 3 g:=fun e' g e=>by
  rcases ho with⟨x,r,e2,g2,rfl,_⟩ | ⟨_,_,rfl⟩ | ⟨_,_,_,_,rfl,k1,k3⟩
  .simp only[AObj.cells.injEq]at e;omega
  .cases e
  .simp only[AObj.cells.injEq]at e;omega
 intro hb;rcases jK.1 hb with h | h | h
 .exact j9.nsep h1 hA (hS _) h
 .exact j9.nsep h2 hA (hS _) h
 .exact j9.nsep h3 hA hP h
theorem yK.stp {S:Nat->Prop}{H H':AH}{v:AV}{nd:Nd.Node}(h:yK H v nd)(s:Stp S H H')(hS: ∀A,wN v A-> ¬S A):yK H' v nd:=by
 obtain⟨ks,vs,ps,rfl,h1,h2,h3⟩:=h;exact⟨ks,vs,ps,rfl,h1.mono s (fun A hA=>hS A (jK.2 (.inl hA))),h2.mono s (fun A hA=>hS A (jK.2 (.inr (.inl hA)))),h3.mono s (fun A hA=>hS A (jK.2 (.inr (.inr hA))))⟩
theorem yK.lt {H:AH}{v:AV}{nd:Nd.Node}(h:yK H v nd){B:Nat}(hB:wN v B):B<H.next:=by
 obtain⟨ks,vs,ps,rfl,h1,h2,h3⟩:=h;rcases jK.1 hB with h | h | h
 .exact h1.lt h
 .exact h2.lt h
 .exact h3.lt h
theorem Stp.thr {S T:Nat->Prop}{H0 H H1:AH}(h:Stp S H0 H)(k:Stp T H H1)(f: ∀A,T A->H0.next<=A\/S A):Stp S H0 H1:=
 ⟨k.ok,Nat.le_trans h.next k.next,fun A hA hS=>by
  rw[k.keep A (zY hA h.next) (fun x=>by rcases f A x with y | y;omega;exact hS y),h.keep A hA hS]⟩
def jV (d c:AV)(root:Ptr)(M last:Nat)(dr:AV):List AV:=[d,c, .int .i64 root.at_, .int .i64 root.birth, .int .u64 root.sum, .map M, .int .u64 (last:Nat),dr]
structure Ev where
 nb:Nat
 ws:Bk.Ws
 dl:List Ptr
def OnD (E:Ev)(p:Ptr)(nd:Nd.Node):Prop:= ∃(a birth:Nat) (kind:UInt8) (body:Str),p=u4 a birth (Bk.sealB kind birth body)/\2<=a/\a<E.nb/\(a<8192/\ ∀k∈nd.kids,k.at_≠1)/\birth<=2147483647/\body.length<=500/\Bk.blkAt a E.ws=some (Bk.sealB kind birth body)/\(kind=1\/kind=2)/\Nd.decN ltS (decide (kind=1)) body=some nd
theorem zLs {E:Ev}{p:Ptr}{nd nd':Nd.Node}(h:OnD E p nd)(h':OnD E p nd'):nd=nd':=by
 obtain⟨a,b,k,s,rfl,_,_,_,hb,hs,h1,_,h2⟩:=h;obtain⟨a',b',k',s',e,_,_,_,hb',hs',h1',_,h2'⟩:=h';simp only[u4,Ptr.mk.injEq]at e;have ea:a=a':=by omega
 have eb:b=b':=by omega
 subst ea;subst eb;rw[h1]at h1';obtain⟨e1,e2⟩:=Bk.seal_inj hs hs' (Option.some.inj h1');subst e1;subst e2;rw[h2]at h2';exact Option.some.inj h2'
open Classical in
noncomputable def Ev.K (E:Ev)(p:Ptr):Option Nd.Node:=if h: ∃nd,OnD E p nd then some (Classical.choose h)else none
theorem Ev.K_iff {E:Ev}{p:Ptr}{nd:Nd.Node} :E.K p=some nd↔OnD E p nd:=by
 rw[Ev.K];constructor
 .intro h;split at h
  .rename_i hx;rw[<-Option.some.inj h];exact Classical.choose_spec hx
  .cases h
 .intro h;rw[dif_pos ⟨nd,h⟩];exact congrArg some (zLs (Classical.choose_spec (⟨nd,h⟩: ∃nd,OnD E p nd)) h)
def pp (s:Nat):Ptr:=⟨1,0,(s:Nat)⟩
noncomputable def Qf (E:Ev)(q f:PN)(p:Ptr):Option Nd.Node:=if p=pp p.sum.toNat then(match yA p.sum.toNat f with | some n=>some n | none=>yA p.sum.toNat q)else E.K p
theorem UM (E:Ev)(q f:PN)(s:Nat):Qf E q f (pp s)=match yA s f with | some n=>some n | none=>yA s q:=by simp[Qf,pp]
theorem wS {E:Ev}{q f:PN}{p:Ptr}{nd:Nd.Node}(h:Qf E q f p=some nd):(∃s,p=pp s/\(yA s f=some nd\/(yA s f=none/\yA s q=some nd)))\/((∀s,p≠pp s)/\E.K p=some nd):=by
 simp only[Qf]at h;split at h
 .rename_i e;refine .inl ⟨_,e, ?_⟩;split at h
  .rename_i n hn;exact .inl (hn.trans h)
  .rename_i hn;exact .inr ⟨hn,h⟩
 .rename_i e;exact .inr ⟨fun s es=>e (by rw[es];simp[pp]),h⟩
theorem Q7 {E:Ev}{q f:PN}{p:Ptr}(h: ∀s,p≠pp s):Qf E q f p=E.K p:=by rw[Qf,if_neg (h _)]
structure TI (E:Ev)(H:AH)(At M:Nat)(d c:AV)(root:Ptr)(es:List (AV×AV))(q:PN)(last:Nat)(dr:AV):Prop where
 ok:H.ok
 gT:H.h.get At=some (.cells (jV d c root M last dr) 140 1 false)
 gM:H.h.get M=some (.map [10] es)
 pq:xG H es q
 dk: ∃Ad On Nw wv ds,d= .ptr Ad 0/\DkI H Ad E.nb E.ws On Nw wv ds
 cn:c= .nilPtr\/ ∀p,E.K p=none
 dg:j9 3 42 H dr E.dl.length (E.dl.flatMap y7)
 ds: ∀kv∈es,∀B,wN kv.2 B-> ¬Blk dr B
 few:q.length<=1000000000
theorem TI.hd {E:Ev}{H:AH}{At M last:Nat}{d c dr:AV}{root:Ptr}{es:List (AV×AV)}{q:PN}(h:TI E H At M d c root es q last dr): ∃A o,d= .ptr A o:=by
 obtain⟨A,_,_,_,_,e,_⟩:=h.dk;exact⟨A,0,e⟩
theorem DkI.stp {S:Nat->Prop}{H H':AH}{Ad nb:Nat}{ws:Bk.Ws}{On Nw:Nat}{wv:AV}{es:List (AV×AV)}(d:DkI H Ad nb ws On Nw wv es)(hk:H.ok)(s:Stp S H H')(h1: ¬S Ad)(h2: ¬S On)(h3: ¬S Nw)(h4: ∀B,Blk wv B-> ¬S B):DkI H' Ad nb ws On Nw wv es:=
 ⟨by rw[s.keep _ (hk.lt d.gD) h1];exact d.gD,by rw[s.keep _ (hk.lt d.gO) h2];exact d.gO,by rw[s.keep _ (hk.lt d.gN) h3];exact d.gN,d.ow.mono s h4,d.nw,d.ln,d.few,d.ne⟩
theorem DkI.prs {H H':AH}{Ad nb:Nat}{ws:Bk.Ws}{On Nw:Nat}{wv:AV}{es:List (AV×AV)}(d:DkI H Ad nb ws On Nw wv es)(hk:H.ok)(s:Prs H H'):DkI H' Ad nb ws On Nw wv es:=d.stp hk s (fun x=>x) (fun x=>x) (fun x=>x) fun _ _ x=>x
theorem TI.prs {E:Ev}{H H':AH}{At M last:Nat}{d c dr:AV}{root:Ptr}{es:List (AV×AV)}{q:PN}(h:TI E H At M d c root es q last dr)(s:Prs H H'):TI E H' At M d c root es q last dr:=
 ⟨s.ok,Prs.get s h.ok h.gT,Prs.get s h.ok h.gM,h.pq.frame fun kv _ nd hn=>hn.prs s,by
  obtain⟨Ad,On,Nw,wv,ds,e,hd⟩:=h.dk;exact⟨Ad,On,Nw,wv,ds,e,hd.prs h.ok s⟩,h.cn,h.dg.mono s fun _ _ x=>x,h.ds,h.few⟩
theorem dD (D:Dyn)(n:Nat){H:AH}{E:Ev}{At M last:Nat}{d c dr:AV}{root:Ptr}{es:List (AV×AV)}{q:PN}(h:TI E H At M d c root es q last dr):f73 D n [.ptr At 0] H=some (.bool false,H):=by
 obtain⟨A,o,rfl⟩:=h.hd;simp only[f73,eZ,cq,qV h.gT,jV]
theorem zBx (D:Dyn)(n:Nat){H:AH}{E:Ev}{At M last:Nat}{d c dr:AV}{root:Ptr}{es:List (AV×AV)}{q:PN}(h:TI E H At M d c root es q last dr):f76 D n [.ptr At 0] H=some (.int .i64 ((8192+q.length:Nat):Int),H):=by
 have hf:=h.few;have hln:ZQ (.map M) H=some (.int .i64 ((q.length:Nat):Int)):=by
  simp only[ZQ,h.gM,yG,h.pq.len];rfl
 have e:((8192:Nat):Int)+((q.length:Nat):Int)=((8192+q.length:Nat):Int):=by omega
 simp(disch:=omega) only[f76,eZ,qV h.gT,jV,hln,e]
theorem BQ (D:Dyn)(n:Nat){E:Ev}{H:AH}{At M last s:Nat}{d c dr:AV}{root:Ptr}{es:List (AV×AV)}{q:PN}{nd:Nd.Node}(h:TI E H At M d c root es q last dr)(hs:yA s q=some nd):
  ∃v H',f77 D n [.ptr At 0, .agg (y7 (pp s))] H=some (.tuple [v, .int .i64 ((0:Nat):Int)],H')/\Prs H H'/\yK H' v nd/\ ∃k,(k,v)∈es:=by
 obtain⟨v,f1,f2,hm⟩:=(h.pq.find s).1 nd hs;obtain⟨H1,A3,b1,p1,g1,m1,n1⟩:=box h.ok (.cells [.int .i64 ((1:Nat):Int), .int .i64 ((0:Nat):Int), .int .u64 (s:Nat)] 42 1 false);obtain⟨H2,A4,b2,p2,g2,m2,n2⟩:=box p1.ok (.cells [.bool false, .nilSlice, .nilSlice, .nilSlice] 119 1 false);have P2:Prs H H2:=p1.trans p2;obtain⟨H3,A6,b3,p3,g3,m3,n3⟩:=box P2.ok (.cells [.bool false, .nilSlice, .nilSlice, .nilSlice] 119 1 false);have P3:=P2.trans p3;obtain⟨l,rfl,ll,lc⟩:=f2.cells;obtain⟨H4,e4,g4,s4,n4⟩:=yD P3.ok g3 (l':=l) ll lc;have e4':stN 4 (.ptr A6 0) (.agg l) H3=some (qZ,H4):=e4;have P4:Prs H H4:=P3.fresh s4 (fun B hB=>by have:=P2.next;omega)
 obtain⟨H5,e5,g5,s5,n5⟩:=yD P4.ok (show H4.h.get A4=some (.cells [.bool false, .nilSlice, .nilSlice, .nilSlice] 119 1 false)by rw[s4.keep _ (by have:=p3.next;omega) (by omega)];exact Prs.get p3 P2.ok g2) (l':=l) ll lc
 have e5':stN 4 (.ptr A4 0) (.agg l) H4=some (qZ,H5):=e5;have P5:Prs H H5:=P4.fresh s5 (fun B hB=>by have:=p1.next;omega)
 have g13:H3.h.get A3=some (.cells [.int .i64 ((1:Nat):Int), .int .i64 ((0:Nat):Int), .int .u64 (s:Nat)] 42 1 false):=Prs.get p3 P2.ok (Prs.get p2 p1.ok g1);have g12:=Prs.get p2 p1.ok g1;have g14:H4.h.get A3=some (.cells [.int .i64 ((1:Nat):Int), .int .i64 ((0:Nat):Int), .int .u64 (s:Nat)] 42 1 false):=by rw[s4.keep _ (by have:=p2.next;have:=p3.next;omega) (by have:=p2.next;omega)];exact g13
 have hlk:lkM [10] (.agg [.bool false, .nilSlice, .nilSlice, .nilSlice]) true (.map M) (.int .u64 (s:Nat)) H2=some (.tuple [.agg l, .bool true]):=by
  simp only[lkM,zNL,cond_true,Prs.get P2 h.ok h.gM,show QN [10] [10]=true from rfl,f1];rfl
 refine⟨.agg l,H5, ?_,P5,f2.prs P5,hm⟩;have t00: ¬(((0:Nat):Int)≠((0:Nat):Int)):=by omega
 have hp:y7 (pp s)=[.int .i64 ((1:Nat):Int), .int .i64 ((0:Nat):Int), .int .u64 (s:Nat)]:=rfl;rw[hp];simp(maxSteps:=999999)(disch:=omega) only[f77,eZ,b1,b2,qV g12,qV g13,qV g14,qV (Prs.get P2 h.ok h.gT),jV,hlk,qX,nth,b3,e4',t00,v7 g4 ll,e5',v7 g5 ll]
theorem Z4.free {H0 H:AH}{v:AV}{nd:Nd.Node}(h:Z4 H0 H v nd):wO H0.next H v nd:=by
 obtain⟨ks,vs,ps,rfl,h1,h2,h3,h4,_⟩:=h;exact⟨⟨ks,vs,ps,rfl, .inl h1, .inl h2, .inl h3⟩,fun B hB=>h4 B (jK.1 hB)⟩
theorem zMt (D:Dyn)(n:Nat)(hn:1000<=n){E:Ev}{H:AH}{At M last:Nat}{d dr:AV}{root:Ptr}{es:List (AV×AV)}{q:PN}(h:TI E H At M d .nilPtr root es q last dr){a birth:Nat}{kind:UInt8}{body:Str}(ha:2<=a)(hnb:a<E.nb)(hb:birth<=2147483647)(hl:body.length<=500)(hblk:Bk.blkAt a E.ws=some (Bk.sealB kind birth body)):
  ∃H',zKw D n [.ptr At 0, .agg (y7 (u4 a birth (Bk.sealB kind birth body)))] H=some (.tuple [.int .u8 ((kind.toNat:Nat):Int),S body, .int .i64 ((0:Nat):Int)],H')/\Prs H H':=by
 obtain⟨B,hB⟩: ∃B,B=Bk.sealB kind birth body:=⟨_,rfl⟩;have hBl:=Bk.sealB_len (kind:=kind) (birth:=birth) hl;obtain⟨H1,A3,b1,p1,g1,m1,n1⟩:=box h.ok (.cells (y7 (u4 a birth B)) 42 1 false);obtain⟨Z,hZ⟩: ∃Z:Str,Z=List.replicate 512 0:=⟨_,rfl⟩;have hZl:Z.length=512:=by rw[hZ];exact List.length_replicate
 have hzr:rep 512 [AV.int .u8 ((0:Nat):Int)]=qW Z:=by rw[d8,hZ]
 obtain⟨H2,A12,b2,p2,g2,m2,n2⟩:=box p1.ok (.cells (qW Z) 55 1 false);have N1:=p1.next;have N2:=p2.next
 have h2:=(h.prs p1).prs p2;obtain⟨Ad,On,Nw,wv,ds,rfl,hd⟩:=h2.dk;obtain⟨H3,e3,p3⟩:=zH3 D n p2.ok hd hnb;have hbz:zHo a E.ws=B:=by rw[zHo,hblk,hB];rfl
 rw[hbz]at e3;rw[<-hB]at hBl;obtain⟨H4,e4,g4,s4⟩:=stR p3.ok (Prs.get p3 p2.ok g2) hZl hBl;have N3:=p3.next
 have P4:Prs H H4:=((p1.trans p2).trans p3).fresh s4 fun B hB=>by omega
 have g34:H4.h.get A3=some (.cells (y7 (u4 a birth B)) 42 1 false):=by
  rw[s4.keep _ (by omega) (by omega)];exact Prs.get (p2.trans p3) p1.ok g1
 obtain⟨H5,e5,p5⟩:=zJo D n hn P4.ok kind (at_:=a) (by omega) hb hl;rw[<-hB]at e5⊢;have h5:=(h.prs P4).prs p5;have c1:Eng.ld1 (.ptr At 1) H1=some .nilPtr:=by rw[qV (h.prs p1).gT];rfl
 have c10:Eng.ld1 (.ptr At 0) H1=some (.ptr Ad 0):=by rw[qV (h.prs p1).gT];rfl
 have c5:Eng.ld1 (.ptr At 1) H5=some .nilPtr:=by rw[qV h5.gT];rfl
 have r1:Eng.ld1 (.ptr A3 0) H1=some (.int .i64 ((a:Nat):Int)):=by rw[qV g1];rfl
 have r34:ldN 3 (.ptr A3 0) H4=some (.agg (y7 (u4 a birth B))):=by rw[y6 g34];rfl
 have r4:=ldR g4 hBl;have t00: ¬(((0:Nat):Int)≠((0:Nat):Int)):=by omega
 refine⟨H5, ?_,P4.trans p5⟩;simp(maxSteps:=999999)(disch:=omega) only[zKw,zAC,zAB,eZ,b1,c1,cq,c10,r1,hzr,b2,e3,qX,nth,e4,t00,r34,r4,e5,c5]
theorem zF7 (m n:Nat)(hn:200000000<=n){E:Ev}{H:AH}{At M last:Nat}{d c dr:AV}{root p:Ptr}{es:List (AV×AV)}{q:PN}{nd:Nd.Node}(h:TI E H At M d c root es q last dr)(hs:E.K p=some nd):
  ∃v H',f77 (dy (m+1)) n [.ptr At 0, .agg (y7 p)] H=some (.tuple [v, .int .i64 ((0:Nat):Int)],H')/\Prs H H'/\yK H' v nd/\ ∀B,wN v B->H.next<=B:=by
 have hc:c= .nilPtr:=by
  rcases h.cn with e | e
  .exact e
  .rw[e]at hs;cases hs
 subst hc;obtain⟨a,birth,kind,body,rfl,ha,hnb,_,hb,hl,hblk,hkind,hdec⟩:=Ev.K_iff.1 hs;obtain⟨B,hB⟩: ∃B,B=Bk.sealB kind birth body:=⟨_,rfl⟩;obtain⟨H1,A3,b1,p1,g1,m1,n1⟩:=box h.ok (.cells (y7 (u4 a birth B)) 42 1 false);obtain⟨H2,A4,b2,p2,g2,m2,n2⟩:=box p1.ok (.cells [.bool false, .nilSlice, .nilSlice, .nilSlice] 119 1 false);have N1:=p1.next;have N2:=p2.next
 have P2:=p1.trans p2;obtain⟨H3,e3,p3⟩:=zMt (dy (m+1)) n (by omega) (h.prs P2) ha hnb hb hl hblk;rw[<-hB]at e3⊢;obtain⟨v,H4,e4,p4,hO,l,rfl,ll,lc⟩:=zH6 m n hn p3.ok (decide (kind=1)) body;rw[hdec]at e4;have hF:=(hO nd hdec).free;have N3:=p3.next;have N4:=p4.next
 have P4:=(P2.trans p3).trans p4;obtain⟨H5,e5,g5,s5,n5⟩:=yD p4.ok (Prs.get (p3.trans p4) p2.ok g2) (l':=l) ll lc;have e5':stN 4 (.ptr A4 0) (.agg l) H4=some (qZ,H5):=e5;have e4':f123 (dy (m+1)) n [.bool (decide (kind=1)),S body] H3=some (.tuple [.agg l, .int .i64 ((0:Nat):Int)],H4):=e4;have r1:Eng.ld1 (.ptr A3 0) H2=some (.int .i64 ((a:Nat):Int)):=by rw[qV (Prs.get p2 p1.ok g1)];rfl
 have r3:ldN 3 (.ptr A3 0) H2=some (.agg (y7 (u4 a birth B))):=by rw[y6 (Prs.get p2 p1.ok g1)];rfl
 have t1: ¬((a:Nat):Int)=((1:Nat):Int):=by omega
 have t00: ¬(((0:Nat):Int)≠((0:Nat):Int)):=by omega
 refine⟨.agg l,H5, ?_,P4.fresh s5 fun B hB=>by omega,hF.1.stp s5 fun B hB e=> ?_,fun B hB=> ?_⟩
 .rcases hkind with rfl | rfl
  .have k1:(((1:UInt8).toNat:Nat):Int)=((1:Nat):Int):=rfl;have d1:decide ((1:UInt8)=1)=true:=rfl;have t11: ¬(((1:Nat):Int)≠((1:Nat):Int)):=by omega
   rw[k1]at e3;rw[d1]at e4';simp(maxSteps:=999999)(disch:=omega) only[f77,eZ,b1,b2,r1,t1,r3,e3,qX,nth,t00,t11,e4',e5',v7 g5 ll]
  .have k1:(((2:UInt8).toNat:Nat):Int)=((2:Nat):Int):=rfl;have d1:decide ((2:UInt8)=1)=false:=rfl;have t21:((2:Nat):Int)≠((1:Nat):Int):=by omega
   have t22: ¬(((2:Nat):Int)≠((2:Nat):Int)):=by omega
   have t23: ¬((2:Nat):Int)=((1:Nat):Int):=by omega
   rw[k1]at e3;rw[d1]at e4';simp(maxSteps:=999999)(disch:=omega) only[f77,eZ,b1,b2,r1,t1,r3,e3,qX,nth,t00,ne_eq,t23,not_false_eq_true,t22,e4',e5',v7 g5 ll]
 .have:=hF.2 B hB;omega
 .have:=hF.2 B hB;omega
theorem VF (m n:Nat)(hn:200000000<=n){E:Ev}{H:AH}{At M last:Nat}{d c dr:AV}{root p:Ptr}{es:List (AV×AV)}{q:PN}{nd:Nd.Node}(h:TI E H At M d c root es q last dr)(hs:Qf E q [] p=some nd):
  ∃v H',f77 (dy (m+1)) n [.ptr At 0, .agg (y7 p)] H=some (.tuple [v, .int .i64 ((0:Nat):Int)],H')/\Prs H H'/\yK H' v nd/\((∃k,(k,v)∈es)\/ ∀B,wN v B->H.next<=B):=by
 rcases wS hs with⟨s,rfl,h1 | ⟨_,h1⟩⟩ | ⟨_,h1⟩
 .simp[yA]at h1
 .obtain⟨v,H',e,p,g,k⟩:=BQ (dy (m+1)) n h h1;exact⟨v,H',e,p,g, .inl k⟩
 .obtain⟨v,H',e,p,g,k⟩:=zF7 m n hn h h1;exact⟨v,H',e,p,g, .inr k⟩
end Go.Eng.Sh
end
section
set_option maxRecDepth 20000
namespace Go.Eng.Sh
open Go.Nd (Ptr sumL)
variable {X:Nat->Prop}
structure Ch (X:Nat->Prop)(H0 H:AH)(At Ac F:Nat)(fes:List (AV×AV))(f:PN)(g:AV)(gl:List Ptr)(last0 last:Nat):Prop where
 prs:Prs H0 H
 gC:H.h.get Ac=some (.cells [.ptr At 0, .int .u64 (last:Nat), .map F,g] 242 1 false)
 gF:H.h.get F=some (.map [10] fes)
 pf:xG H fes f
 gg:Own 3 42 H g gl.length (gl.flatMap y7)
 gN: ∀B,Blk g B->H0.next<=B
 gf: ∀kv∈fes,∀B,wN kv.2 B-> ¬Blk g B
 dC:H0.next<=Ac
 dF:H0.next<=F
 ne:Ac≠F
 fs: ∀s nd,yA s f=some nd->last0<s/\s<=last
 le:last0<=last
 few:gl.length<=last+1000
 fd:(f.map Prod.fst).Nodup
 fl:f.length+last0<=last
 gx: ∀kv∈fes,∀B,wN kv.2 B-> ¬X B
 xo: ∀B,X B->B<H0.next
theorem uB {s:Nat} : ∀ {q:PN},s∈q.map Prod.fst-> ∃nd,yA s q=some nd
 | [],h=>by simp at h
 | (t,n)::q,h=>by
  simp only[yA];by_cases e:t=s
  .exact⟨n,if_pos e⟩
  .rw[if_neg e];simp only[List.map_cons,List.mem_cons]at h;exact uB (h.resolve_left fun e'=>e e'.symm)
def chg (Ac F:Nat)(g:AV)(B:Nat):Prop:=B=Ac\/B=F\/Blk g B
def Adv (Ac F:Nat)(H:AH)(g:AV)(H':AH)(g':AV):Prop:=Stp (chg Ac F g) H H'/\ ∀B,Blk g' B->Blk g B\/H.next<=B
def kF (X:Nat->Prop)(H:AH)(g v:AV)(nd:Nd.Node):Prop:=yK H v nd/\ ∀B,wN v B-> ¬Blk g B/\ ¬X B
theorem Adv.prs {Ac F:Nat}{H H':AH}(g:AV)(s:Prs H H'):Adv Ac F H g H' g:=⟨s.mono (fun _ _ x=>x.elim),fun _ h=> .inl h⟩
theorem Adv.trans {Ac F:Nat}{H H1 H2:AH}{g g1 g2:AV}(hA:Ac<H.next)(hF:F<H.next)(h:Adv Ac F H g H1 g1)(k:Adv Ac F H1 g1 H2 g2):Adv Ac F H g H2 g2:=by
 refine⟨⟨k.1.ok,Nat.le_trans h.1.next k.1.next,fun A hA hS=> ?_⟩,fun B hB=> ?_⟩
 .rw[k.1.keep A (zY hA h.1.next) (fun hc=> ?_),h.1.keep A hA hS]
  rcases hc with e | e | e
  .exact hS (.inl e)
  .exact hS (.inr (.inl e))
  .rcases h.2 A e with e | e
   .exact hS (.inr (.inr e))
   .omega
 .have:=h.1.next
  rcases k.2 B hB with e | e
  .exact h.2 B e
  .exact .inr (by omega)
theorem Ch.ltC {H0 H:AH}{At Ac F:Nat}{fes:List (AV×AV)}{f:PN}{g:AV}{gl:List Ptr}{last0 last:Nat}(h:Ch X H0 H At Ac F fes f g gl last0 last):Ac<H.next:=h.prs.ok.lt h.gC
theorem Ch.ltF {H0 H:AH}{At Ac F:Nat}{fes:List (AV×AV)}{f:PN}{g:AV}{gl:List Ptr}{last0 last:Nat}(h:Ch X H0 H At Ac F fes f g gl last0 last):F<H.next:=h.prs.ok.lt h.gF
theorem Ch.keep {H0 H H':AH}{At Ac F:Nat}{fes:List (AV×AV)}{f:PN}{g v:AV}{gl:List Ptr}{last0 last:Nat}{nd:Nd.Node}(h:Ch X H0 H At Ac F fes f g gl last0 last)(hv:kF X H g v nd)(s:Stp (chg Ac F g) H H'):yK H' v nd:=
 hv.1.stp s fun A hA hc=>by
  rcases hc with rfl | rfl | e
  .exact hv.1.nblk h.gC (.inl ⟨_,_,_,_,rfl,fun _ _ e=>by cases e⟩) hA
  .exact hv.1.nblk h.gF (.inr (.inl ⟨_,_,rfl⟩)) hA
  .exact(hv.2 A hA).1 e
theorem Ch.next {H0 H H':AH}{At Ac F:Nat}{fes:List (AV×AV)}{f:PN}{g g' v:AV}{gl:List Ptr}{last0 last:Nat}{nd:Nd.Node}(h:Ch X H0 H At Ac F fes f g gl last0 last)(hv:kF X H g v nd)(s:Adv Ac F H g H' g'):kF X H' g' v nd:=
 ⟨h.keep hv s.1,fun B hB=>⟨fun hg=>by
  rcases s.2 B hg with e | e
  .exact(hv.2 B hB).1 e
  .have:=hv.1.lt hB;omega,(hv.2 B hB).2⟩⟩
theorem Ch.step {H0 H H':AH}{At Ac F:Nat}{fes:List (AV×AV)}{f:PN}{g:AV}{gl:List Ptr}{last0 last:Nat}(h:Ch X H0 H At Ac F fes f g gl last0 last)(s:Prs H H'):Ch X H0 H' At Ac F fes f g gl last0 last:=
 ⟨h.prs.trans s,Prs.get s h.prs.ok h.gC,Prs.get s h.prs.ok h.gF,h.pf.frame fun kv _ nd hn=>hn.prs s,h.gg.mono s (fun _ _ x=>x),h.gN,h.gf,h.dC,h.dF,h.ne,h.fs,h.le,h.few,h.fd,h.fl,h.gx,h.xo⟩
theorem kF.prs {H H':AH}{g v:AV}{nd:Nd.Node}(h:kF X H g v nd)(s:Prs H H'):kF X H' g v nd:=⟨h.1.prs s,h.2⟩
theorem wO.hand {H0 H H':AH}{At Ac F:Nat}{fes:List (AV×AV)}{f:PN}{g v:AV}{gl:List Ptr}{last0 last:Nat}{nd:Nd.Node}(h:Ch X H0 H At Ac F fes f g gl last0 last){N:Nat}(hN:H.next<=N)(hv:wO N H' v nd):kF X H' g v nd:=
 ⟨hv.1,fun B hB=>⟨fun hg=>by have:=hv.2 B hB;have:=Rw.blk h.gg.row hg;omega,fun hx=>by have:=hv.2 B hB;have:=h.xo B hx;have:=h.prs.next;omega⟩⟩
theorem yK.hand {H0 H H':AH}{At Ac F:Nat}{fes:List (AV×AV)}{f:PN}{g v:AV}{gl:List Ptr}{last0 last:Nat}{nd:Nd.Node}(h:Ch X H0 H At Ac F fes f g gl last0 last)(hv:yK H' v nd)(ho: ∀B,wN v B->B<H0.next)(hx: ∀B,wN v B-> ¬X B):kF X H' g v nd:=
 ⟨hv,fun B hB=>⟨fun hg=>by have:=ho B hB;have:=h.gN B hg;omega,hx B hB⟩⟩
theorem zOm (e:TypeId)(p:Ptr)(z:List AV)(hz:z.length=3):aU e 3 1 z [(0, .agg (y7 p))]=some (.cells (y7 p) e 3 false,fun A=> .slice A 0 1 2):=by
 match z,hz with
 | [_,_,_],_=>rfl
theorem zKY (p:Ptr):xW (y7 p) 0 3=some (y7 p):=rfl
theorem zG1 (D:Dyn)(n:Nat){H0 H:AH}{At Ac F:Nat}{fes:List (AV×AV)}{f:PN}{g:AV}{gl:List Ptr}{last0 last:Nat}(h:Ch X H0 H At Ac F fes f g gl last0 last)(p:Ptr)(hl:gl.length+1<=last+1000)(hb:last<=900000000):
  ∃g' H',f130 D n [.ptr Ac 0, .agg (y7 p)] H=some (.tuple [],H')/\Ch X H0 H' At Ac F fes f g' (gl++[p]) last0 last/\Adv Ac F H g H' g':=by
 obtain⟨H1,A3,b1,p1,g1,m1,n1⟩:=box h.prs.ok (.cells (y7 p) 42 1 false);obtain⟨H2,A4,b2,p2,g2,m2,n2⟩:=box p1.ok (.cells (y7 p) 42 3 false);have P2:=p1.trans p2;have h2:=h.step P2;have hsrc:srcOf 3 (.slice A4 0 1 2) H2=some (1,y7 p):=by
  simp only[srcOf,g2];rfl
 obtain⟨g',H3,e3,o3,s3,w3,f3⟩:=zMy (bytes:=24) h2.prs.ok (by decide) h2.gg hsrc rfl rfl (by omega) (by decide);have nC: ¬Blk g Ac:=fun hB=>by
  obtain⟨_,⟨rfl,_⟩ | ⟨A,rfl,_,hg⟩⟩:=h2.gg
  .exact Blk.nil.1 hB
  .rw[<-Blk.slice.1 hB,h2.gC]at hg;simp at hg
 have nF: ¬Blk g F:=fun hB=>by
  obtain⟨_,⟨rfl,_⟩ | ⟨A,rfl,_,hg⟩⟩:=h2.gg
  .exact Blk.nil.1 hB
  .rw[<-Blk.slice.1 hB,h2.gF]at hg;simp at hg
 have gC3:H3.h.get Ac=some (.cells [.ptr At 0, .int .u64 (last:Nat), .map F,g] 242 1 false):=by rw[s3.keep _ h2.ltC nC];exact h2.gC
 have gF3:H3.h.get F=some (.map [10] fes):=by rw[s3.keep _ h2.ltF nF];exact h2.gF
 obtain⟨H4,e4,g4,s4,n4⟩:=kJ s3.ok gC3 (o:=3) (x:=g') o3.row.isCell (by simp);have lt4: ∀B,Blk g' B->B<H3.next:=fun B hB=>Rw.blk o3.row hB
 have nC': ¬Blk g' Ac:=fun hB=>by
  rcases f3 Ac hB with e | e
  .exact nC e
  .have:=h2.ltC;omega
 have S2:Stp (chg Ac F g) H2 H4:=(s3.mono (fun _ _ x=> .inr (.inr x))).trans (s4.mono (fun _ _ x=> .inl x));have S:Stp (chg Ac F g) H H4:=(P2.mono (fun _ _ x=>x.elim)).trans S2;have hadv:Adv Ac F H g H4 g':=⟨S,fun B hB=>by
  rcases f3 B hB with e | e
  .exact .inl e
  .have:=P2.next;exact .inr (by omega)⟩
 have hfl:(gl++[p]).flatMap y7=gl.flatMap y7++y7 p:=by simp
 refine⟨g',H4, ?_,⟨?_, ?_, ?_, ?_, ?_, ?_, ?_,h.dC,h.dF,h.ne,h.fs,h.le,by simpa using hl,h.fd,h.fl,h.gx,h.xo⟩,hadv⟩
 .have e1:=zOm 42 p [.int .i64 ((0:Nat):Int), .int .i64 ((0:Nat):Int), .int .u64 ((0:Nat):Int)] rfl;simp(disch:=omega) only[f130,eZ,b1,qV (Prs.get p1 h.prs.ok h.gC),y6 g1,zKY,Option.map_some,e1,b2,e3,e4]
 .exact h.prs.fresh S (fun B hB=>by
   have:=h.dC;have:=h.dF;rcases hB with e | e | e
   .omega
   .omega
   .exact h.gN B e)
 .exact g4
 .rw[s4.keep _ (by have:=s3.next;have:=h2.ltF;omega) (fun e=>h.ne e.symm)];exact gF3
 .exact h.pf.frame fun kv hkv nd hn=>h.keep ⟨hn,fun B hB=>⟨h.gf kv hkv B hB,h.gx kv hkv B hB⟩⟩ S
 .rw[hfl];have:=o3.mono s4 (fun B hB e=>nC' (e▸hB));simpa using this
 .intro B hB;rcases f3 B hB with e | e
  .exact h.gN B e
  .have:=h2.prs.next;omega
 .intro kv hkv B hB hg;obtain⟨i,hi⟩:=List.mem_iff_getElem.1 hkv;have hlt:B<H.next:=by
   have hp: ∀ {es:List (AV×AV)} {q:PN},xG H es q-> ∀kv∈es,∃nd,yK H kv.2 nd:=by
    intro es
    induction es with
    | nil=>intro q _ kv h;simp at h
    | cons e es ih=>
     intro q hq kv hk
     match q,hq with
     | (t,nd)::q,hq=>
      rcases List.mem_cons.1 hk with rfl | hk
      .exact⟨nd,hq.1.2⟩
      .exact ih hq.2 kv hk
   obtain⟨nd,hn⟩:=hp h.pf kv hkv;exact hn.lt hB
  rcases f3 B hg with e | e
  .exact h.gf kv hkv B hB e
  .have:=P2.next;omega
theorem zHG (D:Dyn)(n:Nat){H0 H:AH}{At Ac F:Nat}{fes:List (AV×AV)}{f:PN}{g v:AV}{gl:List Ptr}{last0 last:Nat}{nd:Nd.Node}(h:Ch X H0 H At Ac F fes f g gl last0 last)(hv:kF X H g v nd)(hb:last<=900000000):
  ∃H',f127 D n [.ptr Ac 0,v] H=some (.agg (y7 (pp (last+1))),H')/\Ch X H0 H' At Ac F (fes++[(.int .u64 ((last+1:Nat):Int),v)]) (f++[(last+1,nd)]) g gl last0 (last+1)/\Adv Ac F H g H' g:=by
 obtain⟨l,rfl,ll,lc⟩:=hv.1.cells;obtain⟨H1,A3,b1,p1,g1,m1,n1⟩:=box h.prs.ok (.cells l 119 1 false);obtain⟨H2,A4,b2,p2,g2,m2,n2⟩:=box p1.ok (.cells [.int .i64 ((0:Nat):Int), .int .i64 ((0:Nat):Int), .int .u64 ((0:Nat):Int)] 42 1 false);have P2:=p1.trans p2;have h2:=h.step P2;obtain⟨H3,e3,g3,s3,n3⟩:=kJ h2.prs.ok h2.gC (o:=1) (x:= .int .u64 ((last+1:Nat):Int)) rfl (by simp);have g3:H3.h.get Ac=some (.cells [.ptr At 0, .int .u64 ((last+1:Nat):Int), .map F,g] 242 1 false):=g3;have gF3:H3.h.get F=some (.map [10] fes):=by rw[s3.keep _ h2.ltF (fun e=>h.ne e.symm)];exact h2.gF
 have hno:kQ (.int .u64 ((last+1:Nat):Int)) fes=none:=(h.pf.find (last+1)).2 (by
  cases hk:yA (last+1) f with
  | none=>rfl
  | some nd'=>have:=h.fs _ _ hk;omega)
 have e4:upM [10] (.map F) (.int .u64 ((last+1:Nat):Int)) (.agg l) H3=some (qZ,H3.put F (.map [10] (fes++[(.int .u64 ((last+1:Nat):Int), .agg l)]))):=by
  simp only[upM,zNL,cond_true,gF3,show QN [10] [10]=true from rfl,setA_none hno,yX]
 have gF4:(H3.put F (.map [10] (fes++[(.int .u64 ((last+1:Nat):Int), .agg l)]))).h.get F=some (.map [10] (fes++[(.int .u64 ((last+1:Nat):Int), .agg l)])):=by rw[AH.put_get,if_pos rfl]
 have s4:Stp (fun B=>B=F) H3 (H3.put F (.map [10] (fes++[(.int .u64 ((last+1:Nat):Int), .agg l)]))):=(Stp.refl s3.ok).put (s3.ok.lt gF3) _ (.inr rfl);generalize H3.put F (.map [10] (fes++[(.int .u64 ((last+1:Nat):Int), .agg l)]))=H4 at e4 gF4 s4;have gC4:H4.h.get Ac=some (.cells [.ptr At 0, .int .u64 ((last+1:Nat):Int), .map F,g] 242 1 false):=by rw[s4.keep _ (s3.ok.lt g3) h.ne];exact g3
 have hC0:=h.ltC;have hF0:=h.ltF;have N1:=p1.next;have N2:=p2.next;have N3:=s3.next;have N4:=s4.next
 have g44:H4.h.get A4=some (.cells [.int .i64 ((0:Nat):Int), .int .i64 ((0:Nat):Int), .int .u64 ((0:Nat):Int)] 42 1 false):=by
  rw[s4.keep _ (by omega) (by omega),s3.keep _ n2 (by omega)];exact g2
 have g33:ldN 4 (.ptr A3 0) H3=some (.agg l):=v7 (e:=119) (by rw[s3.keep _ (by omega) (by omega)];exact Prs.get p2 p1.ok g1) ll;obtain⟨H5,e5,g5,s5,n5⟩:=yD s4.ok g44 (l':=y7 (pp (last+1))) rfl rfl;have e5':stN 3 (.ptr A4 0) (.agg (y7 (pp (last+1)))) H4=some (qZ,H5):=e5;have S4:Stp (chg Ac F g) H H4:=((P2.mono (fun _ _ x=>x.elim)).trans (s3.mono (fun _ _ x=> .inl x))).trans (s4.mono (fun _ _ x=> .inr (.inl x)));have S5:Stp (chg Ac F g) H H5:=⟨s5.ok,Nat.le_trans S4.next s5.next,fun A hA hS=>by rw[s5.keep A (by omega) (by omega),S4.keep A hA hS]⟩
 have hadv:Adv Ac F H g H5 g:=⟨S5,fun B hB=> .inl hB⟩;have hwr:IntKind.wrap .u64 (((last:Nat):Int)+((1:Nat):Int))=((last+1:Nat):Int):=by rw[wrap_u64];omega
 have bs:xH [(0,1),(1,1),(2,1)] [.int .i64 ((0:Nat):Int), .int .i64 ((0:Nat):Int), .int .u64 ((0:Nat):Int)] [(0, .int .i64 ((1:Nat):Int)),(2, .int .u64 ((last+1:Nat):Int))]=some (.agg (y7 (pp (last+1)))):=rfl;have r5:ldN 3 (.ptr A4 0) H5=some (.agg (y7 (pp (last+1)))):=by rw[y6 g5];rfl
 have hv':=h.keep hv S5;refine⟨H5, ?_,⟨?_, ?_, ?_, ?_, ?_,h.gN, ?_,h.dC,h.dF,h.ne, ?_,by have:=h.le;omega,by have:=h.few;omega, ?_,by have:=h.fl;simp;omega,fun kv hkv B hB=> ?_,h.xo⟩,hadv⟩
 .simp(maxSteps:=999999)(disch:=omega) only[f127,eZ,b1,b2,qV h2.gC,hwr,e3,qV g3,g33,e4,qV gC4,bs,e5',r5]
 .exact h.prs.fresh S5 (fun B hB=>by
   have:=h.dC;have:=h.dF;rcases hB with e | e | e
   .omega
   .omega
   .exact h.gN B e)
 .rw[s5.keep _ (by omega) (by omega)];exact gC4
 .rw[s5.keep _ (by omega) (by omega)];exact gF4
 .exact xG.snoc hv' (h.pf.frame fun kv hkv nd hn=>h.keep ⟨hn,fun B hB=>⟨h.gf kv hkv B hB,h.gx kv hkv B hB⟩⟩ S5)
 .have nC: ∀B,Blk g B-> ¬B=Ac:=fun B hB e=>by
   subst e;obtain⟨_,⟨rfl,_⟩ | ⟨A,rfl,_,hg⟩⟩:=h.gg
   .exact Blk.nil.1 hB
   .rw[<-Blk.slice.1 hB,h.gC]at hg;simp at hg
  have nF: ∀B,Blk g B-> ¬B=F:=fun B hB e=>by
   subst e;obtain⟨_,⟨rfl,_⟩ | ⟨A,rfl,_,hg⟩⟩:=h.gg
   .exact Blk.nil.1 hB
   .rw[<-Blk.slice.1 hB,h.gF]at hg;simp at hg
  exact(((h2.gg.mono s3 nC).mono s4 nF).mono s5 (fun B hB e=>by have:=Rw.blk h.gg.row hB;omega))
 .intro kv hkv B hB;rcases List.mem_append.1 hkv with hkv | hkv
  .exact h.gf kv hkv B hB
  .simp only[List.mem_singleton]at hkv;subst hkv;exact(hv.2 B hB).1
 .intro s nd' hs;rw[kP]at hs
  cases hk:yA s f with
  | some nd2=>have:=h.fs _ _ hk;omega
  | none=>
   rw[hk]at hs;simp only[yA]at hs;split at hs
   .have:=h.le;omega
   .cases hs
 .rw[List.map_append,List.nodup_append];refine⟨h.fd,by simp,fun a ha b hb e=> ?_⟩;simp only[List.map_cons,List.map_nil,List.mem_singleton]at hb;subst hb;subst e;obtain⟨nd2,h2⟩:=uB ha;have:=h.fs _ _ h2;omega
 .rcases List.mem_append.1 hkv with hkv | hkv
  .exact h.gx kv hkv B hB
  .simp only[List.mem_singleton]at hkv;subst hkv;exact(hv.2 B hB).2
end Go.Eng.Sh
end
