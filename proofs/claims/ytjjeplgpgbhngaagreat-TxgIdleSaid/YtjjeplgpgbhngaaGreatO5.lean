/- A checked evaluator for the program, and what it tells, part 5: no condition. -/
import Derived.Test.YtjjeplgpgbhngaaGreatO4
set_option linter.all false
set_option linter.unusedVariables false
set_option linter.unusedSimpArgs false
set_option maxHeartbeats 8000000
set_option maxRecDepth 20000
variable (D:Go.Eng.Dyn)(n:Nat){H e M:Go.Eng.AH}{h w l s C:Nat}{k q E:Go.Eng.AV}{i J:Go.Nd.Node}{A:List (Go.Eng.AV×Go.Eng.AV)}{v L P:List Go.Eng.AV}{p:List (Nat×List Go.Eng.AV)}{t:List Go.Nd.Ptr}{B:Go.Nd.Ptr}{F:Nat->Prop}{G:Bool}{I:Nat×List Go.Eng.AV}{N:Go.TypeId}{Q:UInt8}
section
namespace Go.Eng.Sh
open Go.Nd (Ptr sumL)
theorem ble0 (x:Nat):Nat.ble 0 x=true:=by rw[qO];omega
theorem slSl_hi (e:Grow h w H k l v)(t:0<h)(hi:s<=l)(κ x:IntKind):
  ∃r,slSl h k none (some (.int κ (s:Nat))) (some (.int x (s:Nat))) H=some r/\Rw h H r s (v.take (s*h))/\(0<s->r≠ .nS/\r≠ .eS):=by
 have f:=natOf_int κ (z:=(s:Int)) (by omega);have j:=natOf_int x (z:=(s:Int)) (by omega);simp only[qU]at f j;have hb:Nat.blt 0 h=true:=by rw[q9];exact t
 have y:Nat.beq s 0=decide (s=0):=by rw[yG];simp
 have u:s*h<=l*h:=yP _ hi;have b1:Nat.ble s l=true:=by rw[qO];exact hi
 have b2:Nat.ble s s=true:=by rw[qO];exact zK _
 have G:Nat.ble 0 s=true:=by rw[qO];omega
 rcases e with⟨q,⟨rfl,rfl⟩ | ⟨A,rfl,p,a⟩⟩ | ⟨q,A,C,g,rfl,p,a,F⟩
 .obtain rfl:s=0:=by omega
  exact⟨.nS,by simp only[slSl,natOpt,f,j];simp,⟨by simp, .inl ⟨rfl,rfl⟩⟩,fun e=>absurd e (by omega)⟩
 .have m:roomOf v true h 0 1 h=l:=by
   simp only[roomOf,show((1 % 2).beq 0)=false from rfl,y9,yC,show Nat.beq 0 (1 / 2*h)=true from by simp,qJ,zP,lenL_zero,q,j7];exact Nat.mul_div_cancel _ t
  by_cases o:s=0
  .subst o;refine⟨.slice A 0 0 0, ?_,⟨by simp, .inr (.inr ⟨A,0,0,v,w,h,true,rfl,a,p,by simp,by simp⟩)⟩,fun e=>absurd e (by omega)⟩;simp only[slSl,natOpt,f,j,a,hb,zP];simp[acut,m,fN_eq,ble0]
  .have n:Nat.beq s 0=false:=by rw[y];simpa using o
   refine⟨.slice A 0 s (2*s), ?_,⟨by rw[qA,q,Nat.min_eq_left u], .inr (.inr ⟨A,0,2*s,v,w,h,true,rfl,a,p,by omega,by simp⟩)⟩,fun _=>⟨by simp,by simp⟩⟩;simp only[slSl,natOpt,f,j,a,hb,zP];simp[acut,m,b1,b2,n,fN_eq,ble0]
 .have m:roomOf v g h 0 (2*l) h=l:=by
   simp only[roomOf,show((2*l) % 2).beq 0=true by rw[j6];rfl,zP,yL l (show 0<2 by omega)]
  by_cases o:s=0
  .subst o;refine⟨.slice A 0 0 0, ?_,⟨by simp, .inr (.inr ⟨A,0,0,v,C,h,g,rfl,a,p,by simp,by simp⟩)⟩,fun e=>absurd e (by omega)⟩;simp only[slSl,natOpt,f,j,a,hb,zP];simp[acut,m,fN_eq,ble0]
  .have n:Nat.beq s 0=false:=by rw[y];simpa using o
   refine⟨.slice A 0 s (2*s), ?_,⟨by rw[qA,q,Nat.min_eq_left u], .inr (.inr ⟨A,0,2*s,v,C,h,g,rfl,a,p,by omega,by simp⟩)⟩,fun _=>⟨by simp,by simp⟩⟩;simp only[slSl,natOpt,f,j,a,hb,zP];simp[acut,m,b1,b2,n,fN_eq,ble0]
theorem slSl_lo (e:Grow h w H k l v)(q:0<h)(hi:s<l)(κ:IntKind):
  ∃r,slSl h k (some (.int κ (s:Nat))) none none H=some r/\Rw h H r (l - s) (v.drop (s*h))/\r≠ .nS/\r≠ .eS:=by
 have o:=natOf_int κ (z:=(s:Int)) (by omega);simp only[qU]at o;have hb:Nat.blt 0 h=true:=by rw[q9];exact q
 have F:s*h<=l*h:=yP _ (by omega);have m:(l - s)*h=l*h - s*h:=Nat.sub_mul _ _ _;have b1:Nat.ble l l=true:=by rw[qO];exact zK _
 have b2:Nat.ble s l=true:=by rw[qO];omega
 have y:Nat.blt s l=true:=by rw[q9];exact hi
 have t:Nat.beq l s=false:=by rw[qX];intro e;have:=Nat.eq_of_beq_eq_true e;omega
 rcases e with⟨a,⟨rfl,rfl⟩ | ⟨A,rfl,p,f⟩⟩ | ⟨a,A,C,g,rfl,p,f,G⟩
 .omega
 .have j:roomOf v true h 0 1 h=l:=by
   simp only[roomOf,show((1 % 2).beq 0)=false from rfl,y9,yC,show Nat.beq 0 (1 / 2*h)=true from by simp,qJ,zP,lenL_zero,a,j7];exact Nat.mul_div_cancel _ q
  by_cases n:s=0
  .subst n;refine⟨.slice A 0 l 1, ?_,⟨by simp[a], .inr (.inr ⟨A,0,1,v,w,h,true,by simp,f,p,by simp[a],by rw[j7,Nat.zero_mul,yE,zW (by omega)]⟩)⟩,by simp,by simp⟩;simp only[slSl,natOpt,o,f,hb,zP];simp[acut,j,b1,fN_eq,ble0,show Nat.beq 1 0=false from rfl]
  .have u:Nat.beq s 0=false:=by rw[qX];intro e;exact n (Nat.eq_of_beq_eq_true e)
   refine⟨.slice A (0+s*h) (l - s) (1+2*s), ?_,⟨by simp[a,m], .inr (.inr ⟨A,0+s*h,1+2*s,v,w,h,true,rfl,f,p,by omega,by rw[yU,zW (by simp[a,m])]⟩)⟩,by simp,by simp⟩;simp only[slSl,natOpt,o,f,hb,zP];simp[acut,j,b1,b2,y,u,fN_eq,show Nat.beq 1 0=false from rfl]
 .have j:roomOf v g h 0 (2*l) h=l:=by
   simp only[roomOf,show((2*l) % 2).beq 0=true by rw[j6];rfl,zP,yL l (show 0<2 by omega)]
  have x:Nat.beq (2*l / 2) s=false:=by rw[yL l (show 0<2 by omega)];exact t
  refine⟨.slice A (0+s*h) (l - s) (2*(2*l / 2 - s)), ?_,⟨by simp[a,m], .inr (.inr ⟨A,0+s*h,2*(2*l / 2 - s),v,C,h,g,rfl,f,p,by omega,by rw[yU,zW (by simp[a,m])]⟩)⟩,by simp,by simp⟩;simp only[slSl,natOpt,o,f,hb,zP];simp[acut,j,b1,b2,x,fN_eq,t]
theorem cloneS_ok(j:H.ok){l:List Str}(h:Strs H k l)(s:k≠ .nS)(t:k≠ .eS)(hl:l.length<=1000000000):
  ∃a H',f75 D n [k] H=some (a,H')/\Prs H H'/\Grow 1 9 H' a l.length (l.map S)/\ ∀B,Blk a B->H.next<=B:=by
 have f:Prs H (H.push (.cells [] 9 1 false)):=(jV j).push _;have m:(H.push (.cells [] 9 1 false)).h.get H.next=some (.cells [] 9 1 false):=jK _ _
 have u:(H.push (.cells [] 9 1 false)).next=H.next+1:=rfl
 generalize o:H.push (.cells [] 9 1 false)=H1 at f m u;obtain⟨a,x,y,z,C,F⟩:=(Grow.zero 1 9 m f.ok).app (bytes:=16) f.ok (by decide) (Rw.srcOf (h.prs f)) (by simp) (map_cells _) (by omega) (by decide);have p:bldL 9 1 0 [.str 0 0] []=some (.cells [] 9 1 false,fun A=> .slice A 0 0 0):=rfl;have q:cmpO .eql (eqS k .nS)=some (.bool false):=by
  obtain⟨_,⟨rfl,_⟩ | ⟨rfl,_⟩ | ⟨A,off,cc,c,e,sz,g,rfl,_⟩⟩:=h
  .exact absurd rfl s
  .exact absurd rfl t
  .rfl
 refine⟨a,x, ?_,f.fresh C (fun B i=>by rw[jS.1 i];exact zK _),by simpa using z,fun B i=> ?_⟩
 .simp only[f75,eZ,q,p,bA_ok j,o,y]
 .rcases F B i with h | h
  .rw[jS.1 h];exact zK _
  .omega
theorem cloneP_ok(m:H.ok)(h:Ptrs H k t)(v:k≠ .nS)(u:k≠ .eS)(hl:t.length<=1000000000):
  ∃f H',f78 D n [k] H=some (f,H')/\Prs H H'/\Grow 3 38 H' f t.length (t.flatMap ptrV)/\ ∀B,Blk f B->H.next<=B:=by
 have i:Prs H (H.push (.cells [] 38 3 false)):=(jV m).push _;have o:(H.push (.cells [] 38 3 false)).h.get H.next=some (.cells [] 38 3 false):=jK _ _
 have x:(H.push (.cells [] 38 3 false)).next=H.next+1:=rfl
 generalize p:H.push (.cells [] 38 3 false)=H1 at i o x;obtain⟨f,y,z,C,F,G⟩:=(Grow.zero 3 38 o i.ok).app (bytes:=24) i.ok (by decide) (Rw.srcOf (h.prs i)) h.1 (flat_cells _) (by omega) (by decide);have q: ∀a b c:AV,bldL 38 3 0 [a,b,c] []=some (.cells [] 38 3 false,fun A=> .slice A 0 0 0):=fun _ _ _=>rfl
 have s:cmpO .eql (eqS k .nS)=some (.bool false):=by
  obtain⟨_,⟨rfl,_⟩ | ⟨rfl,_⟩ | ⟨A,off,cc,c,e,sz,g,rfl,_⟩⟩:=h
  .exact absurd rfl v
  .exact absurd rfl u
  .rfl
 refine⟨f,y, ?_,i.fresh F (fun B j=>by rw[jS.1 j];exact zK _),by simpa using C,fun B j=> ?_⟩
 .simp only[f78,eZ,s,q,bA_ok m,p,z]
 .rcases G B j with h | h
  .rw[jS.1 h];exact zK _
  .omega
open Go.Nd (cutOk)
def cuttable (a:Nd.Node):Prop:=2<=a.keys.length/\(a.leaf=true\/3<=a.keys.length)
def hbnd (a:Nd.Node)(k:Nat):Prop:=
 (k=1\/Nd.size (Nd.cutA a k)<=(Nd.size a - 2) / 2+2)/\(k+(if a.leaf then 1 else 2)=a.keys.length\/(Nd.size a - 2) / 2+2<Nd.size (Nd.cutA a (k+1)))
theorem sumL_next (l:List Str){i:Nat}(h:i<l.length):sumL (l.take (i+1))=sumL (l.take i)+(1+(l[i]).length):=by
 rw[qH h,Nd.sumL_append,Nd.sumL_cons];rfl
theorem size_leaf (hl:J.leaf=true)(f:J.vals.length=J.keys.length){i:Nat}(h:i<J.keys.length):Nd.size (Nd.cutA J (i+1))=Nd.size (Nd.cutA J i)+(1+(J.keys[i]).length)+(1+(J.vals[i]'(by omega)).length):=by
 simp only[Nd.cutA,hl,if_true,Nd.size,sumL_next J.keys h,sumL_next J.vals (i:=i) (by omega)];omega
theorem size_inner (hl:i.leaf=false)(f:i.kids.length=i.keys.length+1)(a:h<i.keys.length):Nd.size (Nd.cutA i (h+1))=Nd.size (Nd.cutA i h)+(1+(i.keys[h]).length)+16:=by
 simp only[Nd.cutA,hl,zL,qD,Nd.size,sumL_next i.keys a,qA];omega
theorem size_two (a:Nd.Node):2<=Nd.size a:=by simp only[Nd.size];omega
theorem halfLoop(S:Strs H k i.keys)(T:Strs H q i.vals)(o:i.leaf=true->i.vals.length=i.keys.length)(hp:i.leaf=false->i.kids.length=i.keys.length+1)(t:H.h.get h=some (.cells [.bool i.leaf,k,q,E] N 1 false))
  (f:Nat) (L:Nat) (hL:L<=i.keys.length) (hb:i.keys.length<=1000000000) (u:Nd.size i<=1000000000) (y:Nat) (U:L<y):
  Fin (loopK y (f154l1 D n) [.ptr h 0, .int .i64 (f:Nat), .int .i64 (L:Nat), .int .i64 (Nd.size (Nd.cutA i 0) - 2:Nat), .int .i64 (L:Nat), .int .i64 (0:Nat)] H) fun x H'=>H'=H/\((∃j:Nat,0<j/\j<L/\x= .ret (.int .i64 (j:Nat))/\(j=1\/Nd.size (Nd.cutA i j)<=f+2)/\f+2<Nd.size (Nd.cutA i (j+1)))\/(x= .exit 0 [.int .i64 (L:Nat)]/\(L<=1\/Nd.size (Nd.cutA i L)<=f+2))):=by
 refine Fin.loop (fun ks C H'=>H'=H/\ ∃(Q:Nat),C=[.ptr h 0, .int .i64 (f:Nat), .int .i64 (L:Nat), .int .i64 (Nd.size (Nd.cutA i Q) - 2:Nat), .int .i64 (L:Nat), .int .i64 (Q:Nat)]/\Q<=L/\ks=L - Q/\(Q<=1\/Nd.size (Nd.cutA i Q)<=f+2)) ?_ y L _ H ⟨rfl,0,rfl,by omega,by omega, .inl (by omega)⟩ U
 rintro ks C H' ⟨rfl,Q,rfl,hi,rfl,J⟩
 by_cases K:Q<L
 .have m:Q<i.keys.length:=by omega
  obtain⟨p,F,G⟩:=S.at m;have s:(Q:Int)< (L:Int):=by omega
  have z2:=size_two (Nd.cutA i Q);have Z:=size_two (Nd.cutA i (Q+1));have z:Fin (f154j0 D n [.ptr h 0, .int .i64 (f:Nat), .int .i64 (L:Nat), .int .i64 ((Nd.size (Nd.cutA i (Q+1)) - 2:Nat):Int), .int .i64 (Q:Nat), .int .i64 (L:Nat), .int .i64 (Q:Nat)] H')
    (orN (fun M v=> ∃k',k'<L - Q/\v=H'/\ ∃(Q:Nat),M=[.ptr h 0, .int .i64 (f:Nat), .int .i64 (L:Nat), .int .i64 (Nd.size (Nd.cutA i Q) - 2:Nat), .int .i64 (L:Nat), .int .i64 (Q:Nat)]/\Q<=L/\k'=L - Q/\(Q<=1\/Nd.size (Nd.cutA i Q)<=f+2))
     (fun x v=>v=H'/\((∃j:Nat,0<j/\j<L/\x= .ret (.int .i64 (j:Nat))/\(j=1\/Nd.size (Nd.cutA i j)<=f+2)/\f+2<Nd.size (Nd.cutA i (j+1)))\/(x= .exit 0 [.int .i64 (L:Nat)]/\(L<=1\/Nd.size (Nd.cutA i L)<=f+2))))):=by
   by_cases I:0<Q/\f<Nd.size (Nd.cutA i (Q+1)) - 2
   .have c1:((0:Nat):Int)< (Q:Int):=by omega
    have c2:(f:Int)< ((Nd.size (Nd.cutA i (Q+1)) - 2:Nat):Int):=by omega
    have:f154j0 D n [.ptr h 0, .int .i64 (f:Nat), .int .i64 (L:Nat), .int .i64 ((Nd.size (Nd.cutA i (Q+1)) - 2:Nat):Int), .int .i64 (Q:Nat), .int .i64 (L:Nat), .int .i64 (Q:Nat)] H'=some (.ret (.int .i64 (Q:Nat)),H'):=by
     simp(disch:=omega) only[f154j0,eZ,c1,c2]
    rw[this];exact⟨_,_,rfl,rfl, .inl ⟨Q,I.1,K,rfl,by omega,by omega⟩⟩
   .have a:(decide (((0:Nat):Int)< (Q:Int))&&decide ((f:Int)< ((Nd.size (Nd.cutA i (Q+1)) - 2:Nat):Int)))=false:=by
     rw[qX];intro V;simp only[zE,zU]at V;exact I ⟨by omega,by omega⟩
    have:f154j0 D n [.ptr h 0, .int .i64 (f:Nat), .int .i64 (L:Nat), .int .i64 ((Nd.size (Nd.cutA i (Q+1)) - 2:Nat):Int), .int .i64 (Q:Nat), .int .i64 (L:Nat), .int .i64 (Q:Nat)] H'=some (.norm [.ptr h 0, .int .i64 (f:Nat), .int .i64 (L:Nat), .int .i64 ((Nd.size (Nd.cutA i (Q+1)) - 2:Nat):Int), .int .i64 (L:Nat), .int .i64 (Q+1:Nat)],H'):=by
     simp(disch:=omega) only[f154j0,eZ,a,y7]
    rw[this];exact⟨_,_,rfl,L - (Q+1),by omega,rfl,Q+1,rfl,by omega,rfl,by omega⟩
  have a0:Nd.size (Nd.cutA i Q)<=1000000002:=by
   have t1:=Nd.sumL_take_le i.keys Q;have t2:=Nd.sumL_take_le i.vals Q;have:Nd.size i=2+16*i.kids.length+sumL i.keys+sumL i.vals:=rfl;have W:sumL []=0:=rfl;simp only[Nd.cutA];split<;>simp only[Nd.size,yI,qA,W]<;>omega
  have a1:(i.keys[Q]).length<=1000000000:=by
   have:=Nd.sumL_drop_le i.keys Q;rw[qL m,Nd.sumL_cons]at this;have:Nd.size i=2+16*i.kids.length+sumL i.keys+sumL i.vals:=rfl;omega
  cases hl:i.leaf with
  | true=>
   rw[hl]at t;obtain⟨vs,q1,q2⟩:=T.at (i:=Q) (by rw[o hl];exact m);have Y:=size_leaf hl (o hl) m;have a2:(i.vals[Q]'(by rw[o hl];exact m)).length<=1000000000:=by
    have:=Nd.sumL_drop_le i.vals Q;rw[qL (by rw[o hl];exact m),Nd.sumL_cons]at this;have:Nd.size i=2+16*i.kids.length+sumL i.keys+sumL i.vals:=rfl;omega
   have u:((Nd.size (Nd.cutA i (Q+1)) - 2:Nat):Int)=((Nd.size (Nd.cutA i Q) - 2:Nat):Int)+(((1:Nat):Int)+(((i.keys[Q]).length:Nat):Int))+(((1:Nat):Int)+(((i.vals[Q]'(by rw[o hl];exact m)).length:Nat):Int)):=by omega
   have:f154l1 D n [.ptr h 0, .int .i64 (f:Nat), .int .i64 (L:Nat), .int .i64 (Nd.size (Nd.cutA i Q) - 2:Nat), .int .i64 (L:Nat), .int .i64 (Q:Nat)] H'=jn (some (.norm [.ptr h 0, .int .i64 (f:Nat), .int .i64 (L:Nat), .int .i64 ((Nd.size (Nd.cutA i (Q+1)) - 2:Nat):Int), .int .i64 (Q:Nat), .int .i64 (L:Nat), .int .i64 (Q:Nat)],H')) (f154j0 D n):=by
    rw[u];simp(disch:=omega) only[f154l1,eZ,s,ld1_get t,F,G,q1,q2]
   rw[this,jn_norm];exact z
  | false=>
   rw[hl]at t;have Y:=size_inner hl (hp hl) m;have u:((Nd.size (Nd.cutA i (Q+1)) - 2:Nat):Int)=((Nd.size (Nd.cutA i Q) - 2:Nat):Int)+(((1:Nat):Int)+(((i.keys[Q]).length:Nat):Int))+((16:Nat):Int):=by omega
   have:f154l1 D n [.ptr h 0, .int .i64 (f:Nat), .int .i64 (L:Nat), .int .i64 (Nd.size (Nd.cutA i Q) - 2:Nat), .int .i64 (L:Nat), .int .i64 (Q:Nat)] H'=jn (some (.norm [.ptr h 0, .int .i64 (f:Nat), .int .i64 (L:Nat), .int .i64 ((Nd.size (Nd.cutA i (Q+1)) - 2:Nat):Int), .int .i64 (Q:Nat), .int .i64 (L:Nat), .int .i64 (Q:Nat)],H')) (f154j0 D n):=by
    rw[u];simp(disch:=omega) only[f154l1,eZ,s,ld1_get t,F,G]
   rw[this,jn_norm];exact z
 .have s: ¬(Q:Int)< (L:Int):=by omega
  have O:Q=L:=by omega
  subst O;refine⟨.exit 0 [.int .i64 (Q:Nat)],H', ?_,rfl, .inr ⟨rfl,J⟩⟩;simp only[f154l1,eZ,s]
theorem half_ok(T:200000000<=n)(q:H.ok)(h:NodeV H k i)(L:small i)(C:Nd.shaped ltS i=true)(U:cuttable i):
  ∃(v:Nat) (H':AH),f154 D n [k] H=some (.int .i64 (v:Nat),H')/\Prs H H'/\cutOk i v/\hbnd i v:=by
 have V:=h;obtain⟨ks,vs,F,rfl,o,M,h3⟩:=h;have Z:=Nd.sumL_ge i.keys;obtain⟨s1,s2,s3⟩:=id L;obtain⟨c1,c2⟩:=U;have N:i.leaf=true->i.vals.length=i.keys.length:=by
  intro hl;simp only[Nd.shaped,hl,if_true,zE,zU]at C;exact C.2.1.1
 have hp:i.leaf=false->i.kids.length=i.keys.length+1:=by
  intro hl;simp only[Nd.shaped,hl,zL,qD,zE,zU]at C;exact C.2.1.2
 have s:Prs H (H.push (.cells [.bool i.leaf,ks,vs,F] 72 1 false)):=(jV q).push _;have O:(H.push (.cells [.bool i.leaf,ks,vs,F] 72 1 false)).h.get H.next=some (.cells [.bool i.leaf,ks,vs,F] 72 1 false):=jK _ _
 generalize m:H.push (.cells [.bool i.leaf,ks,vs,F] 72 1 false)=H1 at s O;obtain⟨z,W,p,rfl,Q⟩:=size_ok D n s.ok (V.prs s) L T;have f:=Q.get s.ok O;have P:Prs H W:=s.trans Q;have t:=bInt_quo .i64 (((Nd.size i:Nat):Int) - ((2:Nat):Int)) ((2:Nat):Int) (by omega);have K:Nd.size i<=1000000000:=by simp only[Nd.size];omega
 have a0:=size_two i;have S:IntKind.wrap .i64 ((((Nd.size i:Nat):Int) - ((2:Nat):Int)).tdiv ((2:Nat):Int))=(((Nd.size i - 2) / 2:Nat):Int):=by
  rw[show((Nd.size i:Nat):Int) - ((2:Nat):Int)=((Nd.size i - 2:Nat):Int)by omega,Int.tdiv_eq_ediv_of_nonneg (by omega)];rw[wrap_i64 (by omega) (by omega)];omega
 rw[S]at t
 cases hl:i.leaf with
 | true=>
  obtain⟨x,u,a,rfl,G⟩:=halfLoop D n (o.prs P) (M.prs P) N hp f ((Nd.size i - 2) / 2) (i.keys.length - 1) (by omega) (by omega) K n (by omega);have hL:(i.keys.length:Int) - ((1:Nat):Int)=((i.keys.length - 1:Nat):Int):=by omega
  rw[hl]at f m p;rw[show Nd.size (Nd.cutA i 0) - 2=0 by simp[Nd.cutA,hl,Nd.size,sumL]]at a;rcases G with⟨j,I,Y,rfl,y,J⟩ | ⟨rfl,y⟩
  .refine⟨j,u, ?_,P,⟨I,by rw[hl];simp only[if_true];omega⟩,y, .inr J⟩;simp(disch:=omega) only[f154,eZ,bA_ok q,m,sub4,zY,hl,p,t,ld1_get f,o.lnSl,hL,f154j3,a]
  .refine⟨i.keys.length - 1,u, ?_,P,⟨by omega,by rw[hl];simp only[if_true];omega⟩,by omega, .inl (by rw[hl];simp only[if_true];omega)⟩;simp(disch:=omega) only[f154,eZ,bA_ok q,m,sub4,zY,hl,p,t,ld1_get f,o.lnSl,hL,f154j3,a,f154b2]
 | false=>
  have c3:3<=i.keys.length:=by rcases c2 with h | h;rw[hl]at h;cases h;exact h
  obtain⟨x,u,a,rfl,G⟩:=halfLoop D n (o.prs P) (M.prs P) N hp f ((Nd.size i - 2) / 2) (i.keys.length - 2) (by omega) (by omega) K n (by omega);have hL:(i.keys.length:Int) - ((1:Nat):Int) - ((1:Nat):Int)=((i.keys.length - 2:Nat):Int):=by omega
  rw[hl]at f m p;rw[show Nd.size (Nd.cutA i 0) - 2=16 by have a1:=hp hl;simp only[Nd.cutA,hl,zL,qD,Nd.size,List.take_zero,qA,yU,show sumL []=0 from rfl];omega]at a;rcases G with⟨j,I,Y,rfl,y,J⟩ | ⟨rfl,y⟩
  .refine⟨j,u, ?_,P,⟨I,by rw[hl];simp only[zL,qD];omega⟩,y, .inr J⟩;simp(disch:=omega) only[f154,eZ,bA_ok q,m,sub4,zY,hl,p,t,ld1_get f,o.lnSl,hL,f154j3,a]
  .refine⟨i.keys.length - 2,u, ?_,P,⟨by omega,by rw[hl];simp only[zL,qD];omega⟩,by omega, .inl (by rw[hl];simp only[zL,qD];omega)⟩;simp(disch:=omega) only[f154,eZ,bA_ok q,m,sub4,zY,hl,p,t,ld1_get f,o.lnSl,hL,f154j3,a,f154b2]
open Go.Nd (cutA cutB)
theorem slSl_same (n:Grow h w H k l v)(s:Grow h w e k l L)(x:0<h)(lo hi t:Option AV):slSl h k lo hi t e=slSl h k lo hi t H:=by
 have q: ∀v:List AV,v.length=l*h->roomOf v true h 0 1 h=l:=fun v j=>by
  simp only[roomOf,show((1 % 2).beq 0)=false from rfl,y9,yC,show Nat.beq 0 (1 / 2*h)=true from by simp,qJ,zP,lenL_zero,j,j7];exact Nat.mul_div_cancel _ x
 have u: ∀(v:List AV) (g:Bool),roomOf v g h 0 (2*l) h=l:=fun v g=>by
  simp only[roomOf,show((2*l) % 2).beq 0=true by rw[j6];rfl,zP,yL l (show 0<2 by omega)]
 rcases n with⟨j,⟨rfl,_⟩ | ⟨A,rfl,z,o⟩⟩ | ⟨j,A,G,g,rfl,z,o,F⟩
 .rfl
 .rcases s with⟨i,⟨a,_⟩ | ⟨p,a,m,f⟩⟩ | ⟨i,p,y,C,a,m,f,_⟩
  .cases a
  .simp only[AV.slice.injEq]at a;obtain⟨rfl,_⟩:=a;simp only[slSl,o,f,q v j,q L i]
  .simp only[AV.slice.injEq]at a;omega
 .rcases s with⟨i,⟨a,_⟩ | ⟨p,a,m,f⟩⟩ | ⟨i,p,y,C,a,m,f,_⟩
  .cases a
  .simp only[AV.slice.injEq]at a;omega
  .simp only[AV.slice.injEq]at a;obtain⟨rfl,_⟩:=a;simp only[slSl,o,f,u]
theorem st_fld (a:H.ok){o:Nat}{x:AV}(A:H.h.get h=some (.cells v N 1 false))(f:isCell x=true)(i:o<v.length):
  ∃H',stN 1 (.ptr h o) x H=some (undefA,H')/\H'.h.get h=some (.cells (v.set o x) N 1 false)/\Stp (fun B=>B=h) H H'/\H'.next=H.next:=
 ⟨_,st1_ok A (by decide) f i,by rw[jO,if_pos rfl],(jV a).put (a.lt A) _ (.inr rfl),rfl⟩
theorem map_take (l:List Str)(k:Nat):(l.map S).take (k*1)=(l.take k).map S:=by simp
theorem map_drop (l:List Str)(k:Nat):(l.map S).drop (k*1)=(l.drop k).map S:=by simp
theorem flat_take: ∀(l:List Ptr) (k:Nat),(l.flatMap ptrV).take (k*3)=(l.take k).flatMap ptrV
 | _,0=>by simp
 | [],k+1=>by simp
 | p::l,k+1=>by
  have a:=flat_take l k;rw[show(k+1)*3=k*3+3 from by omega];show((ptrV p)++l.flatMap ptrV).take (k*3+3)=ptrV p++(l.take k).flatMap ptrV;rw[<-a];rfl
theorem flat_drop: ∀(l:List Ptr) (k:Nat),(l.flatMap ptrV).drop (k*3)=(l.drop k).flatMap ptrV
 | _,0=>by simp
 | [],k+1=>by simp
 | p::l,k+1=>by
  have a:=flat_drop l k;rw[show(k+1)*3=k*3+3 from by omega];show((ptrV p)++l.flatMap ptrV).drop (k*3+3)=(l.drop k).flatMap ptrV;rw[<-a];rfl
structure CutI (H0:AH)(A1 A2 A4:Nat)(H:AH)(l1 l2 l4:List AV):Prop where
 prs:Prs H0 H
 a1:H.h.get A1=some (.cells l1 72 1 false)
 a2:H.h.get A2=some (.cells l2 72 1 false)
 a4:H.h.get A4=some (.cells l4 72 1 false)
 o1:H0.next<=A1
 o2:A1<A2
 o4:A2<A4
theorem CutI.lt {H0 H:AH}{a f A4:Nat}{i j m:List AV}(h:CutI H0 a f A4 H i j m):A4<H.next:=h.prs.ok.lt h.a4
theorem CutI.step {H0 H H':AH}{a f A4:Nat}{i j m:List AV}(h:CutI H0 a f A4 H i j m)(s:Prs H H'):CutI H0 a f A4 H' i j m:=
 ⟨h.prs.trans s,s.get h.prs.ok h.a1,s.get h.prs.ok h.a2,s.get h.prs.ok h.a4,h.o1,h.o2,h.o4⟩
theorem CutI.st2 (j:CutI H h w l e v L P){o:Nat}{x:AV}(p:isCell x=true)(q:o<L.length):
  ∃H',stN 1 (.ptr w o) x e=some (undefA,H')/\CutI H h w l H' v (L.set o x) P/\Stp (fun B=>B=w) e H':=by
 obtain⟨H',H0,g,s,n⟩:=st_fld j.prs.ok j.a2 p q;have:=j.o1;have:=j.o2;have:=j.o4;have P:=j.lt;exact⟨H',H0,⟨j.prs.fresh s (fun B t=>by omega),by rw[s.keep _ (by omega) (by omega)];exact j.a1,g,by rw[s.keep _ P (by omega)];exact j.a4,j.o1,j.o2,j.o4⟩,s⟩
theorem CutI.st4 (f:CutI H h w l e v L P){o:Nat}{x:AV}(p:isCell x=true)(q:o<P.length):
  ∃H',stN 1 (.ptr l o) x e=some (undefA,H')/\CutI H h w l H' v L (P.set o x)/\Stp (fun B=>B=l) e H':=by
 obtain⟨H',H0,g,s,n⟩:=st_fld f.prs.ok f.a4 p q;have:=f.o1;have:=f.o2;have:=f.o4;have P:=f.lt;exact⟨H',H0,⟨f.prs.fresh s (fun B t=>by omega),by rw[s.keep _ (by omega) (by omega)];exact f.a1,by rw[s.keep _ (by omega) (by omega)];exact f.a2,g,f.o1,f.o2,f.o4⟩,s⟩
theorem CutI.all2 {l':List AV}(j:CutI H h w l e v L P)(hl:l'.length=L.length)(o:allCells l'=true):
  ∃H',stN L.length (.ptr w 0) (.agg l') e=some (undefA,H')/\CutI H h w l H' v l' P/\Stp (fun B=>B=w) e H':=by
 obtain⟨H',H0,g,s,n⟩:=st_all j.prs.ok j.a2 hl o;have:=j.o1;have:=j.o2;have:=j.o4;have P:=j.lt;exact⟨H',H0,⟨j.prs.fresh s (fun B p=>by omega),by rw[s.keep _ (by omega) (by omega)];exact j.a1,g,by rw[s.keep _ P (by omega)];exact j.a4,j.o1,j.o2,j.o4⟩,s⟩
theorem CutI.all4 {l':List AV}(f:CutI H h w l e v L P)(hl:l'.length=P.length)(o:allCells l'=true):
  ∃H',stN P.length (.ptr l 0) (.agg l') e=some (undefA,H')/\CutI H h w l H' v L l'/\Stp (fun B=>B=l) e H':=by
 obtain⟨H',H0,g,s,n⟩:=st_all f.prs.ok f.a4 hl o;have:=f.o1;have:=f.o2;have:=f.o4;have P:=f.lt;exact⟨H',H0,⟨f.prs.fresh s (fun B p=>by omega),by rw[s.keep _ (by omega) (by omega)];exact f.a1,by rw[s.keep _ (by omega) (by omega)];exact f.a2,g,f.o1,f.o2,f.o4⟩,s⟩
def blkN (u:AV)(B:Nat):Prop:= ∃x ks vs a,u= .agg [x,ks,vs,a]/\(Blk ks B\/Blk vs B\/Blk a B)
theorem blkN_mk {a:AV} :blkN (.agg [k,q,E,a]) h↔(Blk q h\/Blk E h\/Blk a h):=
 ⟨fun⟨_,_,_,_,e,x⟩=>by simp only[AV.agg.injEq,yF,and_true]at e;obtain⟨rfl,rfl,rfl,rfl⟩:=e;exact x,fun x=>⟨_,_,_,_,rfl,x⟩⟩
def NodeF (N:Nat)(H:AH)(v:AV)(a:Nd.Node):Prop:=NodeG H v a/\ ∀B,blkN v B->N<=B
structure FrG (A k e:Nat)(H:AH)(v:AV)(n:Nat)(l:List AV):Prop where
 g:Grow k e H v n l
 f: ∀B,Blk v B->A<B
theorem FrG.prs (A:FrG h w l H k s v)(n:Prs H e):FrG h w l e k s v:=⟨A.g.mono n (fun _ _ x=>x),A.f⟩
theorem FrG.stp (A:FrG h l s H k C v)(a:Stp (fun B=>B=w) H e)(j:w<=h):FrG h l s e k C v:=
 ⟨A.g.mono a (fun B i s=>by have:=A.f B i;omega),A.f⟩
theorem aveq_S (l:Str):aveq (S l) (S l)=true:=by simp[S,aveq]
theorem FrG.nil (A k e:Nat)(H:AH):FrG A k e H .nS 0 []:=⟨.inl ⟨by simp, .inl ⟨rfl,rfl⟩⟩,fun B a=>(jZ.1 a).elim⟩
theorem FrG.isCell {A k e n:Nat}{H:AH}{v:AV}{l:List AV}(h:FrG A k e H v n l):isCell v=true:=h.g.isCell
theorem FrG.aveq {A k e n:Nat}{H:AH}{v:AV}{l:List AV}(h:FrG A k e H v n l):aveq v v=true:=aveq_row h.g.row
structure FrN (A:Nat)(H:AH)(a b c:AV)(nd:Nd.Node):Prop where
 k:FrG A 1 9 H a nd.keys.length (nd.keys.map S)
 v:FrG A 1 9 H b nd.vals.length (nd.vals.map S)
 p:FrG A 3 38 H c nd.kids.length (nd.kids.flatMap ptrV)
theorem FrN.stp {A i:Nat}{H H':AH}{a b c:AV}{j:Nd.Node}(h:FrN A H a b c j)(s:Stp (fun B=>B=i) H H')(f:i<=A):FrN A H' a b c j:=⟨h.k.stp s f,h.v.stp s f,h.p.stp s f⟩
theorem FrN.fresh {c:AV}(A:FrN h H q E c i)(m:w<=h): ∀B,blkN (.agg [k,q,E,c]) B->w<=B:=fun B j=>by
 rcases blkN_mk.1 j with N | N | N
 .have:=A.k.f B N;omega
 .have:=A.v.f B N;omega
 .have:=A.p.f B N;omega
theorem cutJ_ok{k2 v2 ks k4 a f:AV}{keys:List Str}
  (z:CutI H h w l e [.bool G,k,q,E] [.bool G,k2,v2,ks] [.bool G,k4,a,f]) (o:Strs e k keys) (hR: ∀B,Blk k B->B<H.next) (t:s<keys.length) (j:FrN l e k2 v2 ks i) (hb:FrN l e k4 a f J):
  ∃H',f134j0 D n [.ptr h 0, .ptr w 0, .ptr l 0, .int .i64 (s:Nat)] e=some (.ret (.tuple [.agg [.bool G,k2,v2,ks],S (keys.getD s []), .agg [.bool G,k4,a,f], .int .i64 (0:Nat)]),H')/\Prs H H'/\FrN l H' k2 v2 ks i/\FrN l H' k4 a f J:=by
 have Z:=z.o1;have o2:=z.o2;have o4:=z.o4;obtain⟨b,q1,q2⟩:=o.at t;obtain⟨m,Q,u,x⟩:=z.all2 (l':=[.bool G,k2,v2,ks]) rfl (allCells4 _ _ _ _ j.k.isCell j.v.isCell j.p.isCell);have I:Strs m k keys:=Rw.stp o x (fun B T H0=>by have:=hR B T;omega);obtain⟨U,K,L⟩:=I.at t;obtain rfl:b=U:=by have:=q1 .i64 s rfl;rw[K .i64 s rfl]at this;cases this;rfl
 obtain⟨F,V,y,A4⟩:=u.all4 (l':=[.bool G,k4,a,f]) rfl (allCells4 _ _ _ _ hb.k.isCell hb.v.isCell hb.p.isCell);have M:stN 4 (.ptr w 0) (.agg [.bool G,k2,v2,ks]) e=some (undefA,m):=Q;have N:stN 4 (.ptr l 0) (.agg [.bool G,k4,a,f]) m=some (undefA,F):=V;have vs:aveq (.agg [.bool G,k4,a,f]) (.agg [.bool G,k4,a,f])=true:=by simp[Eng.aveq,aveqL,hb.k.aveq,hb.v.aveq,hb.p.aveq]
 have W:keys.getD s []=keys[s]:=by rw[qE,zO t];rfl
 have Y:ldN 4 (.ptr l 0) m=some (.agg [.bool G,k4,a,f]):=by rw[ldN_get u.a4];rfl
 refine⟨F, ?_,y.prs,(j.stp x (by omega)).stp A4 (by omega),(hb.stp x (by omega)).stp A4 (by omega)⟩;rw[W];simp(disch:=omega) only[f134j0,eZ,ldN_get z.a2,ldN_get z.a4,ld1_get z.a1,q1,q2,M,N,chk_ok (ld1_get u.a1 1) (aveq_row o),chk_ok L (aveq_S _),chk_ok Y vs,ldN_get y.a2,ldN_get y.a4,sub4,zY]
theorem hiS_ok(q:H.ok){l:List Str}(v:Grow 1 9 H k l.length (l.map S))(hl:l.length<=1000000000)(j:0<h)(hi:h<=l.length)(A:Nat)(y:A<H.next):
  ∃r a H',slSl 1 k none (some (.int .i64 (h:Nat))) (some (.int .i64 (h:Nat))) H=some r/\f75 D n [r] H=some (a,H')/\Prs H H'/\FrG A 1 9 H' a (l.take h).length ((l.take h).map S):=by
 obtain⟨r,s,w,m⟩:=slSl_hi v (by decide) hi .i64 .i64;rw[map_take]at w;have o:(l.take h).length=h:=by rw[qA];omega
 have t:Strs H r (l.take h):=by rw[Strs,o];exact w
 obtain⟨a,H',u,p,g,f⟩:=cloneS_ok D n q t (m j).1 (m j).2 (by omega);exact⟨r,a,H',s,u,p,g,fun B x=>by have:=f B x;omega⟩
theorem loS_ok(m:H.ok){l:List Str}(v:Grow 1 9 H k l.length (l.map S))(hl:l.length<=1000000000)(hi:h<l.length)(A:Nat)(y:A<H.next):
  ∃r a H',aveq r r=true/\slSl 1 k (some (.int .i64 (h:Nat))) none none H=some r/\f75 D n [r] H=some (a,H')/\Prs H H'/\FrG A 1 9 H' a (l.drop h).length ((l.drop h).map S):=by
 obtain⟨r,o,w,q,s⟩:=slSl_lo v (by decide) hi .i64;rw[map_drop]at w;have j:(l.drop h).length=l.length - h:=by rw[qK]
 have t:Strs H r (l.drop h):=by rw[Strs,j];exact w
 obtain⟨a,H',u,p,g,f⟩:=cloneS_ok D n m t q s (by omega);exact⟨r,a,H',aveq_row w,o,u,p,g,fun B x=>by have:=f B x;omega⟩
theorem hiP_ok(q:H.ok)(l:Grow 3 38 H k t.length (t.flatMap ptrV))(hl:t.length<=1000000000)(j:0<h)(hi:h<=t.length)(A:Nat)(y:A<H.next):
  ∃r a H',slSl 3 k none (some (.int .i64 (h:Nat))) (some (.int .i64 (h:Nat))) H=some r/\f78 D n [r] H=some (a,H')/\Prs H H'/\FrG A 3 38 H' a (t.take h).length ((t.take h).flatMap ptrV):=by
 obtain⟨r,s,w,m⟩:=slSl_hi l (by decide) hi .i64 .i64;rw[flat_take]at w;have o:(t.take h).length=h:=by rw[qA];omega
 have v:Ptrs H r (t.take h):=by rw[Ptrs,o];exact w
 obtain⟨a,H',u,p,g,f⟩:=cloneP_ok D n q v (m j).1 (m j).2 (by omega);exact⟨r,a,H',s,u,p,g,fun B x=>by have:=f B x;omega⟩
theorem loP_ok(m:H.ok)(l:Grow 3 38 H k t.length (t.flatMap ptrV))(hl:t.length<=1000000000)(hi:h<t.length)(A:Nat)(y:A<H.next):
  ∃r a H',aveq r r=true/\slSl 3 k (some (.int .i64 (h:Nat))) none none H=some r/\f78 D n [r] H=some (a,H')/\Prs H H'/\FrG A 3 38 H' a (t.drop h).length ((t.drop h).flatMap ptrV):=by
 obtain⟨r,o,w,q,s⟩:=slSl_lo l (by decide) hi .i64;rw[flat_drop]at w;have j:(t.drop h).length=t.length - h:=by rw[qK]
 have v:Ptrs H r (t.drop h):=by rw[Ptrs,j];exact w
 obtain⟨a,H',u,p,g,f⟩:=cloneP_ok D n m v q s (by omega);exact⟨r,a,H',aveq_row w,o,u,p,g,fun B x=>by have:=f B x;omega⟩
theorem cutHead(N:200000000<=n)(z:H.ok)(hb:i.leaf=G)(h:NodeV H (.agg [.bool G,k,q,E]) i)(O:small i):
  ∃a ks j s t u A4,(∀K,bA (some (AObj.cells [.bool G,k,q,E] 72 1 false,fun A=>AV.ptr A 0)) H K=K (.ptr t 0) a)/\(∀K,bA (some (AObj.cells [.bool false, .nS, .nS, .nS] 72 1 false,fun A=>AV.ptr A 0)) a K=K (.ptr u 0) ks)/\
   (∀K,bA (some (AObj.cells [.bool false, .nS, .nS, .nS] 72 1 false,fun A=>AV.ptr A 0)) ks K=K (.ptr A4 0) j)/\f73 D n [.agg [.bool G,k,q,E]] j=some (.bool (Nd.shaped ltS i),s)/\
   CutI H t u A4 j [.bool G,k,q,E] [.bool false, .nS, .nS, .nS] [.bool false, .nS, .nS, .nS]/\CutI H t u A4 s [.bool G,k,q,E] [.bool false, .nS, .nS, .nS] [.bool false, .nS, .nS, .nS]:=by
 have o:Prs H (H.push (.cells [.bool G,k,q,E] 72 1 false)):=(jV z).push _;have C:(H.push (.cells [.bool G,k,q,E] 72 1 false)).h.get H.next=some (.cells [.bool G,k,q,E] 72 1 false):=jK _ _
 have Q:(H.push (.cells [.bool G,k,q,E] 72 1 false)).next=H.next+1:=rfl
 generalize J:H.push (.cells [.bool G,k,q,E] 72 1 false)=a at o C Q;have m:Prs a (a.push (.cells [.bool false, .nS, .nS, .nS] 72 1 false)):=(jV o.ok).push _;have F:(a.push (.cells [.bool false, .nS, .nS, .nS] 72 1 false)).h.get a.next=some (.cells [.bool false, .nS, .nS, .nS] 72 1 false):=jK _ _
 have S:(a.push (.cells [.bool false, .nS, .nS, .nS] 72 1 false)).next=a.next+1:=rfl
 have v:=m.get o.ok C;generalize L:a.push (.cells [.bool false, .nS, .nS, .nS] 72 1 false)=ks at m F S v;have p:Prs ks (ks.push (.cells [.bool false, .nS, .nS, .nS] 72 1 false)):=(jV m.ok).push _;have b:(ks.push (.cells [.bool false, .nS, .nS, .nS] 72 1 false)).h.get ks.next=some (.cells [.bool false, .nS, .nS, .nS] 72 1 false):=jK _ _
 have x:=p.get m.ok v;have y:=p.get m.ok F;generalize M:ks.push (.cells [.bool false, .nS, .nS, .nS] 72 1 false)=j at p b x y;have I:Prs H j:=(o.trans m).trans p;obtain⟨s,T,U⟩:=shaped_ok D n p.ok (h.prs I) O N;have c3:CutI H H.next a.next ks.next j [.bool G,k,q,E] [.bool false, .nS, .nS, .nS] [.bool false, .nS, .nS, .nS]:=⟨I,x,y,b,by omega,by omega,by omega⟩
 refine⟨a,ks,j,s,H.next,a.next,ks.next,fun K=> ?_,fun K=> ?_,fun K=> ?_,T,c3,c3.step U⟩
 .simp only[eZ,bA_ok z,J]
 .simp only[eZ,bA_ok o.ok,L]
 .simp only[eZ,bA_ok m.ok,M]
theorem cutLeaf(N:200000000<=n)(hk:H.ok)(h:NodeG H k i)(I:small i)(y:Nd.shaped ltS i=true)(O:cuttable i)(hl:i.leaf=true):
  ∃v Q T H',f134 D n [k] H=some (.tuple [Q,S (i.keys.getD v []),T, .int .i64 (0:Nat)],H')/\Prs H H'/\NodeF H.next H' Q (cutA i v)/\NodeF H.next H' T (cutB i v)/\cutOk i v/\hbnd i v:=by
 have J:=h.node;obtain⟨ks,vs,ps,rfl,K,U,h3⟩:=h;rw[hl]at J;have c5:=Nd.sumL_ge i.keys;have c6:i.vals.length=i.keys.length:=by
  simp only[Nd.shaped,hl,if_true,zE,zU]at y;exact y.2.1.1
 obtain⟨s1,s2,s3⟩:=id I;obtain⟨c1,c2⟩:=id O;obtain⟨H1,H2,H3,H4,A1,A2,A4,b1,b2,b3,e4,i3,s⟩:=cutHead D n N hk hl J I;obtain⟨v,H5,e5,p5,⟨k1,k2⟩,kb⟩:=half_ok D n N s.prs.ok (J.prs s.prs) I y O;simp only[hl,if_true]at k2;have V:=s.step p5;obtain⟨H6,e6,W,t6⟩:=V.st2 (o:=0) (x:= .bool true) rfl (by simp);obtain⟨H7,e7,t,t7⟩:=W.st4 (o:=0) (x:= .bool true) rfl (by simp);have m {H':AH} (p:Prs H H'):=K.mono p (fun _ _ x=>x);have m2 {H':AH} (p:Prs H H'):=U.mono p (fun _ _ x=>x);obtain⟨r8,k8,H8,c8,e8,p8,f8⟩:=hiS_ok D n t.prs.ok (m t.prs) (by omega) k1 (by omega) A4 t.lt;have Y:=t.step p8;obtain⟨H9,e9,u,t9⟩:=Y.st2 (o:=1) (x:=k8) f8.isCell (by simp);have f9:=f8.stp t9 (by have:=Y.o4;omega);obtain⟨c7,k10,c9,_,a0,a2,L,f10⟩:=loS_ok D n u.prs.ok (m u.prs) (by omega) (show v< _ by omega) A4 u.lt;have a3:=u.step L;obtain⟨a4,a5,f,t11⟩:=a3.st4 (o:=1) (x:=k10) f10.isCell (by simp);have f11:=f10.stp t11 (by omega);obtain⟨d0,k12,d1,a6,a7,G,f12⟩:=hiS_ok D n f.prs.ok (m2 f.prs) (by omega) k1 (by omega) A4 f.lt;have a:=f.step G;obtain⟨a8,k13,d2,a9,M,b0,z,f13⟩:=loS_ok D n a.prs.ok (m2 a.prs) (by omega) (show v< _ by omega) A4 a.lt;have Z:slSl 1 vs (some (.int .i64 (v:Nat))) none none a4=some a8:=by rw[slSl_same (m2 a.prs) (m2 f.prs) (by decide)];exact M
 have b4:=a.step z;obtain⟨d3,b5,b6,t14⟩:=b4.st2 (o:=2) (x:=k12) f12.isCell (by simp);obtain⟨j,b7,q,t15⟩:=b6.st4 (o:=2) (x:=k13) f13.isCell (by simp);have o4:=q.o4;have d4:=q.o1;have h12:=q.o2;have F8:FrG A4 1 9 j k8 _ _:=(((((f9.prs L).stp t11 (by omega)).prs G).prs z).stp t14 (by omega)).stp t15 (by omega);have b8:FrG A4 1 9 j k10 _ _:=(((f11.prs G).prs z).stp t14 (by omega)).stp t15 (by omega);have b9:FrG A4 1 9 j k12 _ _:=((f12.prs z).stp t14 (by omega)).stp t15 (by omega);have c0:FrG A4 1 9 j k13 _ _:=(f13.stp t14 (by omega)).stp t15 (by omega);have na:FrN A4 j k8 k12 .nS (cutA i v):=by
  simp only[cutA,hl,if_true];exact⟨F8,b9,FrG.nil ..⟩
 have nb:FrN A4 j k10 k13 .nS (cutB i v):=by
  simp only[cutB,hl,if_true];exact⟨b8,c0,FrG.nil ..⟩
 obtain⟨c3,c4,P,C,F⟩:=cutJ_ok D n q ((m q.prs).row) (fun B hB=>K.lt hB) (show v<i.keys.length by omega) na nb;refine⟨v, .agg [.bool true,k8,k12, .nS], .agg [.bool true,k10,k13, .nS],c3, ?_,P, ?_, ?_,⟨k1,by rw[hl];simp only[if_true];omega⟩,kb⟩
 .have t2: ¬(i.keys.length:Int)< ((2:Nat):Int):=by omega
  simp(maxSteps:=999999)(disch:=omega) only[f134,eZ,hl,b1,b2,b3,ldN_get i3.a1,ldN_get s.a1,sub4,zY,e4,y,ld1_get s.a1,K.row.lnSl,t2,e5,ld1_get V.a1,e6,chk_ok (ld1_get W.a1 0) (aveq_bool _),e7,ld1_get t.a1,c8,e8,e9,ld1_get u.a1,a0,a2,a5,ld1_get f.a1,a6,Z,a7,chk_ok (ld1_get a.a1 2) (aveq_row U.row),chk_ok M a9,b0,b5,b7,c4]
 .exact⟨⟨k8,k12, .nS,by simp only[cutA,hl,if_true],C.k.g,C.v.g,C.p.g⟩,C.fresh (by omega)⟩
 .exact⟨⟨k10,k13, .nS,by simp only[cutB,hl,if_true],F.k.g,F.v.g,F.p.g⟩,F.fresh (by omega)⟩
theorem cutInner(T:200000000<=n)(hk:H.ok)(h:NodeG H k i)(J:small i)(y:Nd.shaped ltS i=true)(U:cuttable i)(hl:i.leaf=false):
  ∃v V W H',f134 D n [k] H=some (.tuple [V,S (i.keys.getD v []),W, .int .i64 (0:Nat)],H')/\Prs H H'/\NodeF H.next H' V (cutA i v)/\NodeF H.next H' W (cutB i v)/\cutOk i v/\hbnd i v:=by
 have K:=h.node;obtain⟨ks,vs,ps,rfl,L,h2,h3⟩:=h;rw[hl]at K;have c3:=Nd.sumL_ge i.keys;have c4:i.kids.length=i.keys.length+1:=by
  simp only[Nd.shaped,hl,zL,qD,zE,zU]at y;exact y.2.1.2
 obtain⟨s1,s2,s3⟩:=id J;obtain⟨c1,c2⟩:=id U;obtain⟨H1,H2,H3,H4,A1,A2,A4,b1,b2,b3,e4,i3,s⟩:=cutHead D n T hk hl K J;obtain⟨v,H5,e5,p5,⟨k1,k2⟩,kb⟩:=half_ok D n T s.prs.ok (K.prs s.prs) J y U;simp only[hl,zL,qD]at k2;have Y:=s.step p5;obtain⟨H6,e6,Z,t6⟩:=Y.st2 (o:=0) (x:= .bool false) rfl (by simp);obtain⟨H7,e7,t,t7⟩:=Z.st4 (o:=0) (x:= .bool false) rfl (by simp);have m {H':AH} (p:Prs H H'):=L.mono p (fun _ _ x=>x);have m2 {H':AH} (p:Prs H H'):=h3.mono p (fun _ _ x=>x);obtain⟨r8,k8,H8,c8,e8,p8,f8⟩:=hiS_ok D n t.prs.ok (m t.prs) (by omega) k1 (by omega) A4 t.lt;have i8:=t.step p8;obtain⟨H9,e9,u,t9⟩:=i8.st2 (o:=1) (x:=k8) f8.isCell (by simp);have f9:=f8.stp t9 (by have:=i8.o4;omega);obtain⟨c5,k10,c6,_,N,a0,O,f10⟩:=loS_ok D n u.prs.ok (m u.prs) (by omega) (show v+1< _ by omega) A4 u.lt;have a2:=u.step O;obtain⟨a3,a4,f,t11⟩:=a2.st4 (o:=1) (x:=k10) f10.isCell (by simp);have f11:=f10.stp t11 (by omega);obtain⟨c7,k12,c9,Q,a5,G,f12⟩:=hiP_ok D n f.prs.ok (m2 f.prs) (by omega) (show 0<v+1 by omega) (by omega) A4 f.lt;have a:=f.step G;obtain⟨a6,k13,d0,a7,I,a8,z,f13⟩:=loP_ok D n a.prs.ok (m2 a.prs) (by omega) (show v+1< _ by omega) A4 a.lt;have M:slSl 3 ps (some (.int .i64 (v+1:Nat))) none none a3=some a6:=by rw[slSl_same (m2 a.prs) (m2 f.prs) (by decide)];exact I
 have a9:=a.step z;obtain⟨d1,b0,b4,t14⟩:=a9.st2 (o:=3) (x:=k12) f12.isCell (by simp);obtain⟨j,b5,q,t15⟩:=b4.st4 (o:=3) (x:=k13) f13.isCell (by simp);simp only[y7]at N Q I M;have o4:=q.o4;have d2:=q.o1;have h12:=q.o2;have F8:FrG A4 1 9 j k8 _ _:=(((((f9.prs O).stp t11 (by omega)).prs G).prs z).stp t14 (by omega)).stp t15 (by omega);have b6:FrG A4 1 9 j k10 _ _:=(((f11.prs G).prs z).stp t14 (by omega)).stp t15 (by omega);have b7:FrG A4 3 38 j k12 _ _:=((f12.prs z).stp t14 (by omega)).stp t15 (by omega);have b8:FrG A4 3 38 j k13 _ _:=(f13.stp t14 (by omega)).stp t15 (by omega);have na:FrN A4 j k8 .nS k12 (cutA i v):=by
  simp only[cutA,hl,zL,qD];exact⟨F8,FrG.nil ..,b7⟩
 have nb:FrN A4 j k10 .nS k13 (cutB i v):=by
  simp only[cutB,hl,zL,qD];exact⟨b6,FrG.nil ..,b8⟩
 obtain⟨b9,c0,P,C,F⟩:=cutJ_ok D n q ((m q.prs).row) (fun B hB=>L.lt hB) (show v<i.keys.length by omega) na nb;refine⟨v, .agg [.bool false,k8, .nS,k12], .agg [.bool false,k10, .nS,k13],b9, ?_,P, ?_, ?_,⟨k1,by rw[hl];simp only[zL,qD];omega⟩,kb⟩
 .have t2: ¬(i.keys.length:Int)< ((2:Nat):Int):=by omega
  have t3: ¬(i.keys.length:Int)< ((3:Nat):Int):=by omega
  simp(maxSteps:=999999)(disch:=omega) only[f134,eZ,hl,b1,b2,b3,ldN_get i3.a1,ldN_get s.a1,sub4,zY,e4,y,ld1_get s.a1,L.row.lnSl,t2,t3,e5,ld1_get Y.a1,e6,chk_ok (ld1_get Z.a1 0) (aveq_bool _),e7,ld1_get t.a1,c8,e8,e9,ld1_get u.a1,N,a0,a4,ld1_get f.a1,Q,M,a5,chk_ok (ld1_get a.a1 3) (aveq_row h3.row),chk_ok I a7,a8,b0,b5,c0]
 .exact⟨⟨k8, .nS,k12,by simp only[cutA,hl,zL,qD],C.k.g,C.v.g,C.p.g⟩,C.fresh (by omega)⟩
 .exact⟨⟨k10, .nS,k13,by simp only[cutB,hl,zL,qD],F.k.g,F.v.g,F.p.g⟩,F.fresh (by omega)⟩
end Go.Eng.Sh
end
section
namespace Go.Eng
namespace T
variable {α:Type}
noncomputable def st (t:T α)(n:Nat)(a:α):T α:=(T.set 40 t n a).getD .leaf
end T
theorem Stp.ld1 {S:Nat->Prop}{H H':AH}(s:Stp S H H'){A:Nat}(o:Nat)(h:A<H.next)(a: ¬S A):Eng.ld1 (.ptr A o) H'=Eng.ld1 (.ptr A o) H:=by simp only[Eng.ld1,s.keep A h a]
theorem Stp.ldN {S:Nat->Prop}{H H':AH}(s:Stp S H H'){A:Nat}(o n:Nat)(h:A<H.next)(a: ¬S A):Eng.ldN n (.ptr A o) H'=Eng.ldN n (.ptr A o) H:=by simp only[Eng.ldN,s.keep A h a]
theorem Prs.refl {H:AH}(h:H.ok):Prs H H:=jV h
def Rws (k:Nat)(H:AH):List AV->List (Nat×List AV)->Prop
 | [],[]=>True
 | v::vs,r::rs=>(Rw k H v r.1 r.2/\allCells r.2=true)/\Rws k H vs rs
 | _,_=>False
theorem Rws.len {k:Nat}{H:AH} : ∀ {vs:List AV} {rs:List (Nat×List AV)},Rws k H vs rs->vs.length=rs.length
 | [],[],_=>rfl
 | _::vs,_::rs,h=>by simp only[zV,Rws.len h.2]
 | [],_::_,h=>h.elim
 | _::_,[],h=>h.elim
theorem Rws.at {k:Nat}{H:AH} : ∀ {vs:List AV} {rs:List (Nat×List AV)} {i:Nat} {x:AV},Rws k H vs rs->vs[i]? =some x-> ∃r,rs[i]? =some r/\Rw k H x r.1 r.2/\allCells r.2=true
 | [],[],_,_,_,h=>by simp at h
 | _::vs,r::rs,0,x,h,hx=>by simp only[List.getElem?_cons_zero,zB]at hx;subst hx;exact⟨r,rfl,h.1⟩
 | _::vs,_::rs,i+1,x,h,hx=>by simp only[yY]at hx⊢;exact Rws.at h.2 hx
 | [],_::_,_,_,h,_=>h.elim
 | _::_,[],_,_,h,_=>h.elim
theorem Rws.prs {k:Nat}{H H':AH}(s:Prs H H'): ∀ {vs:List AV} {rs:List (Nat×List AV)},Rws k H vs rs->Rws k H' vs rs
 | [],[],_=>trivial
 | _::vs,_::rs,h=>⟨⟨h.1.1.prs s,h.1.2⟩,Rws.prs s h.2⟩
 | [],_::_,h=>h.elim
 | _::_,[],h=>h.elim
def sumN (rs:List (Nat×List AV)):Nat:=(rs.map Prod.fst).sum
def catN (rs:List (Nat×List AV)):List AV:=rs.flatMap Prod.snd
theorem sumN_take (rs:p[h]? =some I):sumN (p.take (h+1))=sumN (p.take h)+I.1:=by
 obtain⟨hi,rfl⟩:=qN.1 rs;rw[qH hi];simp only[sumN,List.map_append,List.sum_append,y6,List.map_nil,List.sum_cons,List.sum_nil,Nat.add_zero]
theorem catN_take (rs:p[h]? =some I):catN (p.take (h+1))=catN (p.take h)++I.2:=by
 obtain⟨hi,rfl⟩:=qN.1 rs;rw[qH hi];simp only[catN,jB,yR,List.flatMap_nil,qG]
theorem sumN_le (rs:List (Nat×List AV))(i:Nat):sumN (rs.take i)<=sumN rs:=by
 have:rs=rs.take i++rs.drop i:=(qR i rs).symm
 conv=>rhs;rw[this]
 simp only[sumN,List.map_append,List.sum_append];omega
def Part (k e:Nat)(H:AH)(v:AV)(n:Nat)(l:List AV)(a:Nat):Prop:=
 (a=0/\v= .nS/\n=0/\l=[])\/ ∃A rest,v= .slice A 0 n 1/\A<H.next/\H.h.get A=some (.cells (l++rest) e k true)/\l.length=n*k/\rest.length=(a - n)*k/\n<=a
theorem Part.own (e:Part h w H k l v l):Own h w H k l v:=by
 rcases e with⟨rfl,rfl,_,rfl⟩ | ⟨A,rest,rfl,f,a,hl,hr,_⟩
 .exact kB _ _ _
 .have:rest=[]:=zR (by rw[hr,Nat.sub_self,Nat.zero_mul]);subst this;rw[qG]at a;exact⟨hl, .inr ⟨A,rfl,f,a⟩⟩
theorem Part.app {bytes:Nat}{m:Nat}{new:List AV}(p:H.ok)(j:0<h)(e:Part h w H k l v s)(n:srcOf h q H=some (m,new))(hm:new.length=m*h)(t:allCells new=true)(f:l+m<=s):
  ∃i H',apP w h bytes k q H=some (i,H')/\Part h w H' i (l+m) (v++new) s/\Stp (Blk k) H H'/\H'.next=H.next/\ ∀B,Blk i B->Blk k B:=by
 rcases e with⟨rfl,rfl,rfl,rfl⟩ | ⟨A,rest,rfl,u,C,hl,hr,J⟩
 .obtain rfl:m=0:=by omega
  have:new=[]:=zR (by simpa using hm);subst this;exact⟨.nS,H,by simp[apP,n,t,app1], .inl ⟨rfl,rfl,rfl,rfl⟩,jV p,rfl,fun _ x=>x⟩
 .have o:(v++rest).length=s*h:=by rw[zT,hl,hr,<-yZ];congr 1;omega
  have y:roomOf (v++rest) true h 0 1 h=s:=by
   simp only[roomOf,show((1 % 2).beq 0)=false from rfl,y9,yC,show Nat.beq 0 (1 / 2*h)=true from by simp,qJ,zP,lenL_zero,o,j7];exact Nat.mul_div_cancel _ j
  have b1:Nat.ble (l+m) s=true:=by rw[qO];exact f
  have F:Nat.blt 0 h=true:=by rw[q9];exact j
  have I:m*h<=rest.length:=by rw[hr];exact yP _ (by omega)
  have z:setAt (v++rest) (0+l*h) new=some (v++new++rest.drop (m*h)):=by
   rw[setAt_some (by rw[o,hm,yU,<-yZ];exact yP _ f),yU,hm];congr 1;rw[List.take_append_of_le_length (by omega),zW (by omega),List.drop_append,<-hl,List.drop_of_length_le (by omega),qV];congr 2;omega
  refine⟨.slice A 0 (l+m) 1,H.put A (.cells (v++new++rest.drop (m*h)) w h true), ?_, .inr ⟨A,rest.drop (m*h),rfl,u,by rw[jO,if_pos rfl],by rw[zT,hl,hm,yZ],by rw[qK,hr,<-Nat.sub_mul];congr 1;omega,f⟩,(jV p).put u _ (.inr (jS.2 rfl)),rfl,fun B G=>jS.2 (jS.1 G)⟩;simp only[apP,n,t,zP,app1,C,app2,y,b1,F,z,appIn,putA_ok,fN_eq]
theorem Part.stp (S:Part h w H k l v s)(H':Stp F H e)(i: ∀A,Blk k A-> ¬F A):Part h w e k l v s:=by
 rcases S with S | ⟨A,rest,rfl,f,j,hr⟩
 .exact .inl S
 .exact .inr ⟨A,rest,rfl,qF f H'.next,by rw[H'.keep A f (i A (jS.2 rfl))];exact j,hr⟩
theorem rep_len (z:AV): ∀m:Nat,(rep m [z]).length=m
 | 0=>rfl
 | m+1=>by simp[rep,rep_len z m]
theorem rep_len3 (a b c:AV): ∀m:Nat,(rep m [a,b,c]).length=m*3
 | 0=>rfl
 | m+1=>by simp only[rep,zT,rep_len3 a b c m,zV,yI];omega
theorem grow_z {k e bytes m:Nat}{z:List AV}(o:H.ok)(a:0<k)(f:(rep m z).length=m*k)(s:0<m)(hm:m<=1000000000)(hb:bytes<=1000):
  apZ e k bytes z .nS (.int .i64 m) H=some (.slice H.next 0 m 1,H.push (.cells (rep m z) e k true))/\
  slSl k (.slice H.next 0 m 1) none (some (.int .i64 (0:Nat))) none (H.push (.cells (rep m z) e k true))=some (.slice H.next 0 0 1)/\
  Part k e (H.push (.cells (rep m z) e k true)) (.slice H.next 0 0 1) 0 [] m:=by
 have b1:Nat.ble (m*bytes) 281474976710656=true:=by
  rw[qO];exact qP (Nat.mul_le_mul hm hb) (by decide)
 have b2:Nat.blt m 4611686018427387904=true:=by rw[q9];omega
 have p:Nat.beq m 0=false:=by rw[qX];intro h;have:=Nat.eq_of_beq_eq_true h;omega
 have i:roomOf (rep m z) true k 0 1 k=m:=by
  simp only[roomOf,show((1 % 2).beq 0)=false from rfl,y9,yC,show Nat.beq 0 (1 / 2*k)=true from by simp,qJ,zP,lenL_zero,f,j7];exact Nat.mul_div_cancel _ a
 have j:Nat.blt 0 k=true:=by rw[q9];exact a
 refine⟨?_, ?_, .inr ⟨H.next,rep m z,rfl,Nat.lt_succ_self _,jK _ _,by simp,by simpa using f,by omega⟩⟩
 .show apZ e k bytes z .nS (.int .i64 (Int.ofNat m)) H=_;simp only[apZ,b1,b2,qJ,zP,app1,show m.beq 0=false from p,y9,appGrow,roomy_ok hm hb,agrow,qV,newA_ok o,fN_eq]
 .have q:=natOf_int .i64 (z:=((0:Nat):Int)) (by omega);simp only[slSl,natOpt,q,jK,j,zP];simp[acut,i,fN_eq,show Nat.ble 0 m=true from by rw[qO];omega,show Nat.ble 0 0=true from rfl,show Nat.beq 1 0=false from rfl]
end Go.Eng
namespace Go.Eng.Sh
open Go.Nd (Ptr sumL cutOk cutA cutB)
theorem growS_ok (D:Dyn)(n m:Nat)(hm:m<=1000000000)(a:H.ok):
  ∃v H',f114 D n [.nS, .int .i64 (m:Nat)] H=some (v,H')/\Prs H H'/\Part 1 9 H' v 0 [] m/\ ∀B,Blk v B->H.next<=B:=by
 have h:acap X 22 .nS=some (.int .i64 (0:Nat)):=rfl;have i:lnSl .nS=some (.int .i64 (0:Nat)):=rfl;have s:slSl 1 .nS none (some (.int .i64 (0:Nat))) none H=some .nS:=rfl;have j: ¬(m:Int)< ((0:Nat):Int):=by omega
 by_cases hp:m=0
 .subst hp;refine⟨.nS,H, ?_,jV a, .inl ⟨rfl,rfl,rfl,rfl⟩,fun B f=>(jZ.1 f).elim⟩;simp(disch:=omega) only[f114,f114j1,f114j0,eZ,j,h,i,Int.sub_zero,yA,Int.sub_self]
 .obtain⟨t,u,p⟩:=grow_z (k:=1) (e:=9) (bytes:=16) (m:=m) (z:=[.str 0 0]) a (by decide) (by rw[rep_len];omega) (by omega) hm (by decide);have o:(m:Int) - (((0:Nat):Int) - ((0:Nat):Int))=(m:Int):=by omega
  have q:((0:Nat):Int)< (m:Int):=by omega
  refine⟨_,_, ?_,(jV a).push _,p,fun B f=>by rw[jS.1 f];exact zK _⟩;simp(disch:=omega) only[f114,f114j1,f114j0,eZ,j,h,i,s,o,q,t,u]
theorem growP_ok (D:Dyn)(n m:Nat)(hm:m<=1000000000)(a:H.ok):
  ∃v H',f135 D n [.nS, .int .i64 (m:Nat)] H=some (v,H')/\Prs H H'/\Part 3 38 H' v 0 [] m/\ ∀B,Blk v B->H.next<=B:=by
 have h:acap X 32 .nS=some (.int .i64 (0:Nat)):=rfl;have i:lnSl .nS=some (.int .i64 (0:Nat)):=rfl;have u:slSl 3 .nS none (some (.int .i64 (0:Nat))) none H=some .nS:=rfl;have j: ¬(m:Int)< ((0:Nat):Int):=by omega
 by_cases hp:m=0
 .subst hp;refine⟨.nS,H, ?_,jV a, .inl ⟨rfl,rfl,rfl,rfl⟩,fun B f=>(jZ.1 f).elim⟩;simp(disch:=omega) only[f135,f135j1,f135j0,eZ,j,h,i,Int.sub_zero,yA,Int.sub_self]
 .obtain⟨o,q,p⟩:=grow_z (k:=3) (e:=38) (bytes:=24) (m:=m) (z:=[.int .i64 (.ofNat 0), .int .i64 (.ofNat 0), .int .u64 (.ofNat 0)]) a (by decide) (by rw[rep_len3]) (by omega) hm (by decide);have s:(m:Int) - (((0:Nat):Int) - ((0:Nat):Int))=(m:Int):=by omega
  have t:((0:Nat):Int)< (m:Int):=by omega
  refine⟨_,_, ?_,(jV a).push _,p,fun B f=>by rw[jS.1 f];exact zK _⟩;simp only[Int.ofNat_eq_natCast]at o q;simp(disch:=omega) only[f135,f135j1,f135j0,eZ,j,h,i,u,s,t,o,q]
theorem catS1(q:Rw 1 H k v.length v)(h:Rws 1 H v p)(hb:sumN p<=1000000000)(hl:v.length<=1000000000)(a:Nat)(s:v.length<a):
  loopK a (f84l1 D n) [k, .int .i64 (0:Nat),k, .int .i64 (v.length:Nat), .int .i64 (0:Nat)] H=some (.exit 0 [k, .int .i64 (sumN p:Nat)],H):=by
 have f:=h.len;refine loop_for (fun i=>[k, .int .i64 (sumN (p.take i):Nat),k, .int .i64 (v.length:Nat), .int .i64 (i:Nat)]) v.length ?_ ?_ a s
 .intro i hi;obtain⟨vs,x,t,u,y⟩:=q.ld1 hi;obtain⟨r,z,C,J⟩:=h.at y;have o:((i:Nat):Int)< (v.length:Int):=by omega
  have K:=sumN_take z;have G:=sumN_le p i;have I:=sumN_le p (i+1);have j: ¬((sumN (p.take i):Nat):Int)+((r.1:Nat):Int)< ((0:Nat):Int):=by omega
  have F:((sumN (p.take (i+1)):Nat):Int)=((sumN (p.take i):Nat):Int)+((r.1:Nat):Int):=by omega
  rw[F];simp(disch:=omega) only[f84l1,f84j0,eZ,o,t,u,C.lnSl,j,y7]
 .intro m;refine loop_exit ?_;have:p.take v.length=p:=by rw[f];exact j8
  simp only[f84l1,eZ,yA,this]
theorem catS2(J:H.ok)(K:Rw 1 H k v.length v)(h:Rws 1 H v p)(hl:v.length<=1000000000)
   (L:Part 1 9 H q 0 [] (sumN p)) (z: ∀B,Blk q B-> ¬Blk k B) (C: ∀B,Blk q B-> ∀x∈v,¬Blk x B) (j:Nat) (M:v.length<j):
  ∃a H',loopK j (f84l2 D n) [q,k, .int .i64 (v.length:Nat), .int .i64 (0:Nat)] H=some (.exit 2 [a],H')/\Stp (Blk q) H H'/\Part 1 9 H' a (sumN p) (catN p) (sumN p)/\ ∀B,Blk a B->Blk q B:=by
 have y:=h.len;obtain⟨m,o,H',k1,a,rfl,k3,k4,k5⟩:=loop_inv (b:=f84l2 D n) v.length (fun i o H'=> ∃a,o=[a,k, .int .i64 (v.length:Nat), .int .i64 (i:Nat)]/\Stp (Blk q) H H'/\Part 1 9 H' a (sumN (p.take i)) (catN (p.take i)) (sumN p)/\ ∀B,Blk a B->Blk q B) (fun i o Z hi ⟨w1,hus,hs,hp,hB⟩=>by
  subst hus;obtain⟨vs,x,N,O,s⟩:=(K.stp hs (fun A f rs=>z A rs f)).ld1 hi;obtain⟨r,t,u,Q⟩:=h.at s;have S:x∈v:=List.mem_of_getElem? s;have F:=u.stp hs (fun A f rs=>C A rs x S f);have G:((i:Nat):Int)< (v.length:Int):=by omega
  have Y:=sumN_le p (i+1);have I:=sumN_take t;obtain⟨T,U,V,q2,W,n2,b2⟩:=hp.app (bytes:=16) hs.ok (by decide) F.srcOf u.1 Q (by omega);rw[<-I,<-catN_take t]at q2;refine⟨_,U, ?_,T,rfl,hs.trans (W.mono fun A _ f=>hB A f),q2,fun B hb=>hB B (b2 B hb)⟩;simp(disch:=omega) only[f84l2,eZ,G,N,O,V,y7]) j _ H ⟨q,rfl,jV J,L,fun _ x=>x⟩ M
 rw[y,j8]at k4;exact⟨a,H',k1.trans (loop_exit (by simp only[f84l2,eZ,yA])),k3,k4,k5⟩
theorem catS_ok(s:H.ok){v:AV}{vs:List AV}{rs:List (Nat×List AV)}(j:Rw 1 H v vs.length vs)(h:Rws 1 H vs rs)(hb:sumN rs<=1000000000)(hl:vs.length<=1000000000)(o:vs.length<n)
  (p: ∀B,Blk v B->B<H.next) (q: ∀x∈vs,∀B,Blk x B->B<H.next):
  ∃w H',f84 D n [v] H=some (w,H')/\Prs H H'/\Own 1 9 H' w (sumN rs) (catN rs)/\ ∀B,Blk w B->H.next<=B:=by
 obtain⟨J,K,t,f,q1,i⟩:=growS_ok D n (sumN rs) hb s;obtain⟨u,y,z,C,q2,F⟩:=catS2 D n f.ok (j.prs f) (h.prs f) hl q1 (fun B a m=>by have:=i B a;have:=p B m;omega) (fun B a x G m=>by have:=i B a;have:=q x G B m;omega) n o;have I:=catS1 D n j h hb hl n o;refine⟨u,y, ?_,f.fresh C i,q2.own,fun B a=>i B (F B a)⟩;simp only[f84,eZ,j.lnSl,I,f84b4,t,z,f84b3]
theorem catP1(q:Rw 1 H k v.length v)(h:Rws 3 H v p)(hb:sumN p<=1000000000)(hl:v.length<=1000000000)(a:Nat)(s:v.length<a):
  loopK a (f103l1 D n) [k, .int .i64 (0:Nat),k, .int .i64 (v.length:Nat), .int .i64 (0:Nat)] H=some (.exit 0 [k, .int .i64 (sumN p:Nat)],H):=by
 have f:=h.len;refine loop_for (fun i=>[k, .int .i64 (sumN (p.take i):Nat),k, .int .i64 (v.length:Nat), .int .i64 (i:Nat)]) v.length ?_ ?_ a s
 .intro i hi;obtain⟨vs,x,t,u,y⟩:=q.ld1 hi;obtain⟨r,z,C,J⟩:=h.at y;have o:((i:Nat):Int)< (v.length:Int):=by omega
  have K:=sumN_take z;have G:=sumN_le p i;have I:=sumN_le p (i+1);have j: ¬((sumN (p.take i):Nat):Int)+((r.1:Nat):Int)< ((0:Nat):Int):=by omega
  have F:((sumN (p.take (i+1)):Nat):Int)=((sumN (p.take i):Nat):Int)+((r.1:Nat):Int):=by omega
  rw[F];simp(disch:=omega) only[f103l1,f103j0,eZ,o,t,u,C.lnSl,j,y7]
 .intro m;refine loop_exit ?_;have:p.take v.length=p:=by rw[f];exact j8
  simp only[f103l1,eZ,yA,this]
theorem catP2(J:H.ok)(K:Rw 1 H k v.length v)(h:Rws 3 H v p)(hl:v.length<=1000000000)
   (L:Part 3 38 H q 0 [] (sumN p)) (z: ∀B,Blk q B-> ¬Blk k B) (C: ∀B,Blk q B-> ∀x∈v,¬Blk x B) (j:Nat) (M:v.length<j):
  ∃a H',loopK j (f103l2 D n) [q,k, .int .i64 (v.length:Nat), .int .i64 (0:Nat)] H=some (.exit 2 [a],H')/\Stp (Blk q) H H'/\Part 3 38 H' a (sumN p) (catN p) (sumN p)/\ ∀B,Blk a B->Blk q B:=by
 have y:=h.len;obtain⟨m,o,H',k1,a,rfl,k3,k4,k5⟩:=loop_inv (b:=f103l2 D n) v.length (fun i o H'=> ∃a,o=[a,k, .int .i64 (v.length:Nat), .int .i64 (i:Nat)]/\Stp (Blk q) H H'/\Part 3 38 H' a (sumN (p.take i)) (catN (p.take i)) (sumN p)/\ ∀B,Blk a B->Blk q B) (fun i o Z hi ⟨w1,hus,hs,hp,hB⟩=>by
  subst hus;obtain⟨vs,x,N,O,s⟩:=(K.stp hs (fun A f rs=>z A rs f)).ld1 hi;obtain⟨r,t,u,Q⟩:=h.at s;have S:x∈v:=List.mem_of_getElem? s;have F:=u.stp hs (fun A f rs=>C A rs x S f);have G:((i:Nat):Int)< (v.length:Int):=by omega
  have Y:=sumN_le p (i+1);have I:=sumN_take t;obtain⟨T,U,V,q2,W,n2,b2⟩:=hp.app (bytes:=24) hs.ok (by decide) F.srcOf u.1 Q (by omega);rw[<-I,<-catN_take t]at q2;refine⟨_,U, ?_,T,rfl,hs.trans (W.mono fun A _ f=>hB A f),q2,fun B hb=>hB B (b2 B hb)⟩;simp(disch:=omega) only[f103l2,eZ,G,N,O,V,y7]) j _ H ⟨q,rfl,jV J,L,fun _ x=>x⟩ M
 rw[y,j8]at k4;exact⟨a,H',k1.trans (loop_exit (by simp only[f103l2,eZ,yA])),k3,k4,k5⟩
theorem catP_ok(s:H.ok){v:AV}{vs:List AV}{rs:List (Nat×List AV)}(j:Rw 1 H v vs.length vs)(h:Rws 3 H vs rs)(hb:sumN rs<=1000000000)(hl:vs.length<=1000000000)(o:vs.length<n)
  (p: ∀B,Blk v B->B<H.next) (q: ∀x∈vs,∀B,Blk x B->B<H.next):
  ∃w H',f103 D n [v] H=some (w,H')/\Prs H H'/\Own 3 38 H' w (sumN rs) (catN rs)/\ ∀B,Blk w B->H.next<=B:=by
 obtain⟨J,K,t,f,q1,i⟩:=growP_ok D n (sumN rs) hb s;obtain⟨u,y,z,C,q2,F⟩:=catP2 D n f.ok (j.prs f) (h.prs f) hl q1 (fun B a m=>by have:=i B a;have:=p B m;omega) (fun B a x G m=>by have:=i B a;have:=q x G B m;omega) n o;have I:=catP1 D n j h hb hl n o;refine⟨u,y, ?_,f.fresh C i,q2.own,fun B a=>i B (F B a)⟩;simp only[f103,eZ,j.lnSl,I,f103b4,t,z,f103b3]
end Go.Eng.Sh
end
section
namespace Go.Eng
theorem hp:(∀(o:AObj) (f:Nat->AV) (H:AH) (K:AV->AH->Rs),H.ok->bA (some (o,f)) H K=K (f H.next) (H.push o))/\
  (∀(H:AH) (A o:Nat) (x:AObj),A<H.next->ld1 (.ptr A o) (H.push x)=ld1 (.ptr A o) H)/\
  (∀(H:AH) (A o n:Nat) (x:AObj),A<H.next->ldN n (.ptr A o) (H.push x)=ldN n (.ptr A o) H)/\
  (∀(l:List AV) (o n:Nat) (a:AV),o=0->n=l.length->(subN l o n).map AV.agg=some (.agg l))/\
  (∀(a b c d:AV),subN [a,b,c,d] 0 4=some [a,b,c,d])/\
  (∀(l:List AV),(some l).map AV.agg=some (.agg l))/\
  (∀(vs:List AV) (i:Nat),pExtract (.tuple vs) i=vs[i]?):=
 ⟨fun o f H K h=>bA_ok h o f K,fun H A o x h=>ld1_old o x h,fun H A o n x h=>ldN_old o n x h,fun l o n _ j m=>by subst j;subst m;rw[subN_some _ _ _ (.inr (by omega)),yE,j8];rfl,fun _ _ _ _=>rfl,fun _=>rfl,fun vs i=>by simp only[pExtract,nth_eq]⟩
end Go.Eng
end
section
namespace Go.Nd
def partedN (lt:Str->Str->Bool)(a:Node)(sep:Str)(b:Node):Bool:=
 mayK sep&&(a.leaf==b.leaf)&&(decide (a.keys.length=0)||lt (a.keys.getD (a.keys.length - 1) []) sep)&&(decide (b.keys.length=0)||lt sep (b.keys.getD 0 [])||(a.leaf&&decide (sep=b.keys.getD 0 [])))
end Go.Nd
namespace Go.Eng.Sh
open Go.Nd (Ptr sumL cutOk cutA cutB partedN)
theorem parted_ok(hk:H.ok){sep:Str}(h:NodeV H k i)(h':NodeV H q J)(hs:small i)(Z:small J):
  ∃H',f133 D n [k,S sep,q] H=some (.bool (partedN ltS i sep J),H')/\Prs H H':=by
 obtain⟨ks,vs,a,rfl,V,h2,h3⟩:=h;obtain⟨I,vs',M,rfl,k1,k2,k3⟩:=h';have a2:=Nd.sumL_ge i.keys;have a1:=Nd.sumL_ge J.keys;obtain⟨s1,s2,s3⟩:=hs;obtain⟨a3,a4,a5⟩:=Z;have P:Prs H ((H.push (.cells [.bool i.leaf,ks,vs,a] 72 1 false)).push (.cells [.bool J.leaf,I,vs',M] 72 1 false)):=((jV hk).push _).push _;have u:=V.lnSl;have C:=k1.lnSl;have q1:=V.prs P;have q2:=k1.prs P;generalize f:(H.push (.cells [.bool i.leaf,ks,vs,a] 72 1 false)).push (.cells [.bool J.leaf,I,vs',M] 72 1 false)=H2 at P q1 q2;have p: ∀o,ld1 (.ptr H.next o) H2=[.bool i.leaf,ks,vs,a][o]? :=fun o=>by rw[<-f,ld1_old _ _ (by rw[jL];omega),ld1_push]
 have j: ∀o,ld1 (.ptr (H.push (.cells [.bool i.leaf,ks,vs,a] 72 1 false)).next o) H2=[.bool J.leaf,I,vs',M][o]? :=fun o=>by rw[<-f,ld1_push]
 refine⟨H2, ?_,P⟩;have a0: ∀x y:Bool,(!(x==y))=false->x=y:=fun x y=>by cases x<;>cases y<;>simp
 cases hm:Nd.mayK sep with
 | false=>simp(disch:=first | assumption | omega | (simp only[jL,jM];omega) | (repeat(first | assumption | apply AH.ok.push))) only[f133,eZ,hp,f,mayKey_ok,hm,partedN]
 | true=>
  cases hl:(i.leaf==J.leaf)with
  | false=>simp(disch:=first | assumption | omega | (simp only[jL,jM];omega) | (repeat(first | assumption | apply AH.ok.push))) only[f133,eZ,hp,f,mayKey_ok,hm,partedN,p,j,hl]
  | true=>
   have e:J.leaf=i.leaf:=by revert hl;cases i.leaf<;>cases J.leaf<;>simp
   rw[e]at j f;simp only[partedN,hm,hl,Bool.true_and];rw[e];clear hl e a0;generalize i.leaf=la at*
   have t:(la==la)=true:=by simp
   have Y:
     (∃Q,J.keys.length≠0->(∀κ (z:Int),z=((0:Nat):Int)->ixSl 1 I (.int κ z)=some Q)/\Eng.ld1 Q H2=some (S (J.keys.getD 0 []))):=by
    by_cases h0:J.keys.length=0
    .exact⟨.nP,fun h=>absurd h0 h⟩
    .obtain⟨v,F,G⟩:=q2.at (i:=0) (by omega);refine⟨v,fun _=>⟨F, ?_⟩⟩;rw[getD_lt (by omega)];exact G
   obtain⟨Q,U⟩:=Y;by_cases W:i.keys.length=0
   .have s: ¬((0:Nat):Int)< (i.keys.length:Int):=by omega
    simp only[W,decide_true,Bool.true_or,Bool.true_and];by_cases hb:J.keys.length=0
    .have m:(J.keys.length:Int)=((0:Nat):Int):=by omega
     simp only[hb,decide_true,Bool.true_or];simp(disch:=first | assumption | omega | (simp only[jL,jM];omega) | (repeat(first | assumption | apply AH.ok.push))) only[f133,eZ,hp,f,mayKey_ok,hm,p,j,t,u,C,s,m]
    .have m: ¬(J.keys.length:Int)=((0:Nat):Int):=by omega
     obtain⟨F,G⟩:=U hb;simp only[hb,decide_false,Bool.false_or]
     cases N:ltS sep (J.keys.getD 0 [])<;>cases la<;>simp(disch:=first | assumption | omega | (simp only[jL,jM];omega) | (repeat(first | assumption | apply AH.ok.push))) only[f133,eZ,hp,f,mayKey_ok,hm,p,j,t,u,C,s,m,F,G,N]
   .have s:((0:Nat):Int)< (i.keys.length:Int):=by omega
    obtain⟨v,T,K⟩:=q1.at (i:=i.keys.length - 1) (by omega);rw[<-getD_lt (d:=[])]at K;have L:(i.keys.length:Int) - ((1:Nat):Int)=((i.keys.length - 1:Nat):Int):=by omega
    simp only[W,decide_false,Bool.false_or]
    cases O:ltS (i.keys.getD (i.keys.length - 1) []) sep with
    | false=>simp(disch:=first | assumption | omega | (simp only[jL,jM];omega) | (repeat(first | assumption | apply AH.ok.push))) only[f133,eZ,hp,f,mayKey_ok,hm,p,j,t,u,C,s,L,T,K,O]
    | true=>
     by_cases hb:J.keys.length=0
     .have m:(J.keys.length:Int)=((0:Nat):Int):=by omega
      simp only[hb,decide_true,Bool.true_or];simp(disch:=first | assumption | omega | (simp only[jL,jM];omega) | (repeat(first | assumption | apply AH.ok.push))) only[f133,eZ,hp,f,mayKey_ok,hm,p,j,t,u,C,s,m,L,T,K,O]
     .have m: ¬(J.keys.length:Int)=((0:Nat):Int):=by omega
      obtain⟨F,G⟩:=U hb;simp only[hb,decide_false,Bool.false_or]
      cases N:ltS sep (J.keys.getD 0 [])<;>cases la<;>simp(disch:=first | assumption | omega | (simp only[jL,jM];omega) | (repeat(first | assumption | apply AH.ok.push))) only[f133,eZ,hp,f,mayKey_ok,hm,p,j,t,u,C,s,m,L,T,K,O,F,G,N]
end Go.Eng.Sh
end
section
namespace Go.Eng
theorem box (f:H.ok)(o:AObj): ∃H' A,(∀(a:Nat->AV) (K:AV->AH->Rs),bA (some (o,a)) H K=K (a A) H')/\Prs H H'/\H'.h.get A=some o/\H.next<=A/\A<H'.next:=
 ⟨H.push o,H.next,fun a K=>bA_ok f o a K,(jV f).push o,jK _ _,zK _,by rw[jL];omega⟩
theorem row2 (e:TypeId)(z:AV)(a:isCell k=true)(f:isCell q=true)(h:isCell z=true):bldL e 1 2 [z] [(0,k),(1,q)]=some (.cells [k,q] e 1 false,fun A=> .slice A 0 2 4):=by
 simp only[bldL,fillA,rep,cellsA_cell a,cellsA_cell f];rfl
theorem row3 (e:TypeId)(z:AV)(a:isCell k=true)(f:isCell q=true)(h:isCell E=true):bldL e 1 3 [z] [(0,k),(1,q),(2,E)]=some (.cells [k,q,E] e 1 false,fun A=> .slice A 0 3 6):=by
 simp only[bldL,fillA,rep,cellsA_cell a,cellsA_cell f,cellsA_cell h];rfl
theorem row1 (e:TypeId)(z:AV)(a:isCell k=true):bldL e 1 1 [z] [(0,k)]=some (.cells [k] e 1 false,fun A=> .slice A 0 1 2):=by
 simp only[bldL,fillA,rep,cellsA_cell a];rfl
theorem Rw.lit {cc:Nat}(a:H.ok)(A:H.h.get h=some (.cells v w 1 false)):Rw 1 H (.slice h 0 v.length cc) v.length v:=
 ⟨by simp, .inr (.inr ⟨h,0,cc,v,w,1,false,rfl,A,a.lt A,by simp,by simp⟩)⟩
end Go.Eng
namespace Go.Eng.Sh
open Go.Nd (Ptr sumL cutOk cutA cutB partedN joinN)
theorem agg4 {e:TypeId}(A:H.h.get h=some (.cells v e 1 false))(hl:v.length=4):ldN 4 (.ptr h 0) H=some (.agg v):=by
 rw[ldN_get A,subN_some _ _ _ (.inr (by omega)),yE,zW (by omega)];rfl
def nd0:Nd.Node:=⟨false,[],[],[]⟩
theorem NodeO.zero (H0 H:AH):NodeO H0 H (.agg [.bool false, .nS, .nS, .nS]) nd0:=
 ⟨_,_,_,rfl,kB ..,kB ..,kB ..,fun B a=>by rcases a with h | h | h<;>exact(jZ.1 h).elim,fun B a=>(jZ.1 a).elim,fun B a=>(jZ.1 a).elim⟩
def joinOk (a:Nd.Node)(sep:Str)(b:Nd.Node):Bool:=Nd.shaped ltS a&&Nd.shaped ltS b&&partedN ltS a sep b
theorem conS2{cc:Nat}{l m:List Str}(i:H.ok)(j:H.h.get h=some (.cells [k,q] 22 1 false))(A:Strs H k l)(s:Strs H q m)(hb:l.length+m.length<=1000000000)(u:100<=n):
  ∃w H',f84 D n [.slice h 0 2 cc] H=some (w,H')/\Prs H H'/\Own 1 9 H' w (l++m).length ((l++m).map S)/\ ∀B,Blk w B->H.next<=B:=by
 obtain⟨w,H',e,p,o,f⟩:=catS_ok D n i (v:= .slice h 0 2 cc) (vs:=[k,q]) (rs:=[(l.length,l.map S),(m.length,m.map S)]) (Rw.lit i j) ⟨⟨A,map_cells _⟩,⟨s,map_cells _⟩,trivial⟩ (by simpa[sumN]using hb) (by simp) (by simp;omega)
  (fun B a=>by rw[jS.1 a];exact i.lt j) (fun z t B a=>by
   simp only[zM,List.not_mem_nil,or_false]at t;rcases t with rfl | rfl
   .exact kD A a
   .exact kD s a)
 exact⟨w,H',e,p,by simpa[sumN,catN]using o,f⟩
theorem conS3{cc:Nat}{l m A:List Str}(i:H.ok)(j:H.h.get h=some (.cells [k,q,E] 22 1 false))(x:Strs H k l)(s:Strs H q m)(h3:Strs H E A)(hb:l.length+m.length+A.length<=1000000000)(u:100<=n):
  ∃w H',f84 D n [.slice h 0 3 cc] H=some (w,H')/\Prs H H'/\Own 1 9 H' w (l++(m++A)).length ((l++(m++A)).map S)/\ ∀B,Blk w B->H.next<=B:=by
 obtain⟨w,H',e,p,o,f⟩:=catS_ok D n i (v:= .slice h 0 3 cc) (vs:=[k,q,E]) (rs:=[(l.length,l.map S),(m.length,m.map S),(A.length,A.map S)]) (Rw.lit i j) ⟨⟨x,map_cells _⟩,⟨s,map_cells _⟩,⟨h3,map_cells _⟩,trivial⟩ (by simp[sumN];omega) (by simp) (by simp;omega)
  (fun B a=>by rw[jS.1 a];exact i.lt j) (fun E t B a=>by
   simp only[zM,List.not_mem_nil,or_false]at t;rcases t with rfl | rfl | rfl
   .exact kD x a
   .exact kD s a
   .exact kD h3 a)
 exact⟨w,H',e,p,by simpa[sumN,catN]using o,f⟩
theorem conP2{cc:Nat}{m:List Ptr}(i:H.ok)(j:H.h.get h=some (.cells [k,q] 32 1 false))(A:Ptrs H k t)(s:Ptrs H q m)(hb:t.length+m.length<=1000000000)(u:100<=n):
  ∃w H',f103 D n [.slice h 0 2 cc] H=some (w,H')/\Prs H H'/\Own 3 38 H' w (t++m).length ((t++m).flatMap ptrV)/\ ∀B,Blk w B->H.next<=B:=by
 obtain⟨w,H',e,p,o,f⟩:=catP_ok D n i (v:= .slice h 0 2 cc) (vs:=[k,q]) (rs:=[(t.length,t.flatMap ptrV),(m.length,m.flatMap ptrV)]) (Rw.lit i j) ⟨⟨A,flat_cells _⟩,⟨s,flat_cells _⟩,trivial⟩ (by simpa[sumN]using hb) (by simp) (by simp;omega)
  (fun B a=>by rw[jS.1 a];exact i.lt j) (fun z x B a=>by
   simp only[zM,List.not_mem_nil,or_false]at x;rcases x with rfl | rfl
   .exact kD A a
   .exact kD s a)
 exact⟨w,H',e,p,by simpa[sumN,catN]using o,f⟩
theorem bldN0:bldS [(0,1),(1,1),(2,1),(3,1)] [.bool false, .nS, .nS, .nS] []=some (.agg [.bool false, .nS, .nS, .nS]):=rfl
theorem bldN3 (x:Bool)(f:isCell k=true)(hb:isCell q=true):bldS [(0,1),(1,1),(2,1),(3,1)] [.bool false, .nS, .nS, .nS] [(0, .bool x),(1,k),(2,q)]=some (.agg [.bool x,k,q, .nS]):=by
 simp only[bldS,fillA,nthP,cellsA_cell f,cellsA_cell hb];rfl
theorem bldNi (f:isCell k=true)(hb:isCell q=true):bldS [(0,1),(1,1),(2,1),(3,1)] [.bool false, .nS, .nS, .nS] [(1,k),(3,q)]=some (.agg [.bool false,k, .nS,q]):=by
 simp only[bldS,fillA,nthP,cellsA_cell f,cellsA_cell hb];rfl
theorem join_ok(hn:200000000<=n)(hk:H.ok){sep:Str}(h:NodeV H k i)(h':NodeV H q J)(hs:small i)(b6:small J):
  ∃u H',f101 D n [k,S sep,q] H=some (.tuple [u, .int .i64 (if joinOk i sep J then 0 else 1:Nat)],H')/\Prs H H'/\NodeO H H' u (if joinOk i sep J then joinN i sep J else nd0):=by
 have i0:=h;have c0:=h';obtain⟨ks,vs,ps,rfl,h1,h2,h3⟩:=h;obtain⟨la,a5⟩: ∃la,la=i.leaf:=⟨_,rfl⟩;rw[<-a5]at i0⊢;obtain⟨a6,vs',c4,rfl,k1,k2,k3⟩:=h';have d7:=Nd.sumL_ge i.keys;have d5:=Nd.sumL_ge J.keys;have d8:=Nd.sumL_ge i.vals;have d6:=Nd.sumL_ge J.vals;have s0:=hs;have c5:=b6;obtain⟨s1,s2,s3⟩:=hs;obtain⟨d9,e0,e1⟩:=b6;obtain⟨H1,A1,b1,p1,g1,m1,n1⟩:=box hk (.cells [.bool la,ks,vs,ps] 72 1 false);obtain⟨H2,A2,b2,p2,g2,m2,n2⟩:=box p1.ok (.cells [.bool J.leaf,a6,vs',c4] 72 1 false);obtain⟨H3,N,b3,p3,g3,m3,n3⟩:=box p2.ok (.cells [.bool false, .nS, .nS, .nS] 72 1 false);have Y:Prs H H3:=(p1.trans p2).trans p3;have U:=p3.get p2.ok (p2.get p1.ok g1);have d0:=p3.get p2.ok g2;obtain⟨H4,e4,Z⟩:=shaped_ok D n Y.ok (i0.prs Y) s0 hn;have O:=Y.trans Z;have d1:=Z.get Y.ok U;have a0:=Z.get Y.ok d0;have c6:=Z.get Y.ok g3;have a1: ∀ {t:AH} {l:List AV},Prs H t->t.h.get N=some (.cells [.bool false, .nS, .nS, .nS] 72 1 false)->l.length=4->allCells l=true-> ∃w,stN 4 (.ptr N 0) (.agg l) t=some (undefA,w)/\Prs H w/\Stp (fun B=>B=N) t w/\ldN 4 (.ptr N 0) w=some (.agg l):=fun {t l} px hg hl hc=>by
  obtain⟨w,e,g,s,_⟩:=st_all px.ok hg hl hc;have e':stN 4 (.ptr N 0) (.agg l) t=some (undefA,w):=e;exact⟨w,e',px.fresh s (fun B f=>by omega),s,by rw[ldN_get g,subN_some _ _ _ (.inr (by omega)),yE,zW (by omega)];rfl⟩
 cases c1:Nd.shaped ltS i with
 | false=>
  obtain⟨w,C,F,_,G⟩:=a1 (l:=[.bool false, .nS, .nS, .nS]) O c6 rfl rfl;refine⟨.agg [.bool false, .nS, .nS, .nS],w, ?_,F, ?_⟩
  rotate_left
  .simp only[joinOk,c1,Bool.false_and,zL,qD];exact NodeO.zero _ _
  .simp only[joinOk,c1,Bool.false_and,zL,qD];simp(disch:=omega) only[f101,eZ,b1,b2,b3,ldN_get U,sub4,zY,e4,c1,bldN0,C,G]
 | true=>
 obtain⟨H5,e5,p5⟩:=shaped_ok D n O.ok (c0.prs O) c5 hn;have K:=O.trans p5;have a2:=p5.get O.ok d1;have a3:=p5.get O.ok a0;have c7:=p5.get O.ok c6
 cases c2:Nd.shaped ltS J with
 | false=>
  obtain⟨w,C,F,_,G⟩:=a1 (l:=[.bool false, .nS, .nS, .nS]) K c7 rfl rfl;refine⟨.agg [.bool false, .nS, .nS, .nS],w, ?_,F, ?_⟩
  rotate_left
  .simp only[joinOk,c2,Bool.false_and,Bool.and_false,zL,qD];exact NodeO.zero _ _
  .simp only[joinOk,c2,Bool.false_and,Bool.and_false,zL,qD];simp(disch:=omega) only[f101,eZ,b1,b2,b3,ldN_get U,ldN_get a0,sub4,zY,e4,e5,c1,c2,bldN0,C,G]
 | true=>
 obtain⟨H6,e6,p6⟩:=parted_ok D n K.ok (sep:=sep) (i0.prs K) (c0.prs K) s0 c5;have Q:=K.trans p6;have V:=p6.get K.ok a2;have L:=p6.get K.ok a3;have a7:=p6.get K.ok c7
 cases c3:partedN ltS i sep J with
 | false=>
  obtain⟨w,C,F,_,G⟩:=a1 (l:=[.bool false, .nS, .nS, .nS]) Q a7 rfl rfl;refine⟨.agg [.bool false, .nS, .nS, .nS],w, ?_,F, ?_⟩
  rotate_left
  .simp only[joinOk,c3,Bool.false_and,Bool.and_false,zL,qD];exact NodeO.zero _ _
  .simp only[joinOk,c3,Bool.false_and,Bool.and_false,zL,qD];simp(disch:=omega) only[f101,eZ,b1,b2,b3,ldN_get U,ldN_get a0,ldN_get a2,ldN_get a3,sub4,zY,e4,e5,e6,c1,c2,c3,bldN0,C,G]
 | true=>
 have hj:joinOk i sep J=true:=by simp only[joinOk,c1,c2,c3,qJ]
 simp only[hj,if_true]
 cases la with
 | true=>
  obtain⟨H7,A7,b7,j,g7,m7,n7⟩:=box Q.ok (.cells [ks,a6] 22 1 false);have T:=Q.trans j;obtain⟨H8,A8,b8,v,g8,m8,n8⟩:=box T.ok (.cells [vs,vs'] 22 1 false);have y:=T.trans v;obtain⟨w9,H9,e9,z,o9,f9⟩:=conS2 D n (cc:=4) y.ok (v.get T.ok g7) (h1.prs y) (k1.prs y) (by omega) (by omega);have m:=y.trans z;obtain⟨M,c8,a8,I,a,f10⟩:=conS2 D n (cc:=4) m.ok (z.get y.ok g8) (h2.prs m) (k2.prs m) (by omega) (by omega);have W:=m.trans I;have up {t:AH} {o:AObj} {A:Nat} (g:H6.h.get A=some o) (p:Prs H6 t):=p.get Q.ok g;have a9:Prs H6 H9:=(j.trans v).trans z;obtain⟨w,C,F,sy,G⟩:=a1 (l:=[.bool true,w9,M, .nS]) W (up a7 (a9.trans I)) rfl (by simp only[allCells,o9.row.isCell,a.row.isCell];rfl);have d2:N<H8.next:=by have:=Z.next;have:=p5.next;have:=p6.next;have:=j.next;have:=v.next;omega
  have n9:=z.next
  refine⟨.agg [.bool true,w9,M, .nS],w, ?_,F, ?_⟩
  rotate_left
  .have:joinN i sep J=⟨true,i.keys++J.keys,i.vals++J.vals,[]⟩:=by simp only[joinN,<-a5,if_true]
   rw[this];refine⟨w9,M, .nS,rfl,(o9.mono I (fun _ _ x=>x)).mono sy (fun B f e=>by have:=f9 B f;omega),a.mono sy (fun B f e=>by have:=f10 B f;omega),kB ..,fun B f=> ?_,fun B f=>⟨fun h=> ?_,fun h=>(jZ.1 h).elim⟩,fun B f h=>(jZ.1 h).elim⟩
   .have:=y.next
    rcases f with h | h | h
    .have:=f9 B h;omega
    .have:=f10 B h;omega
    .exact(jZ.1 h).elim
   .have:=f10 B h;have:=kD o9.row f;omega
  .simp(disch:=omega) only[f101,eZ,b1,b2,b3,ldN_get U,ldN_get a0,ldN_get a2,ldN_get a3,sub4,zY,e4,e5,e6,c1,c2,c3,ld1_get V,ld1_get L,ld1_get (up V j),ld1_get (up L j),row2 22 .nS h1.isCell k1.isCell rfl,row2 22 .nS h2.isCell k2.isCell rfl,b7,b8,e9,
    chk_ok (ld1_get (up V a9) 2) (aveq_row h2),chk_ok (ld1_get (up L a9) 2) (aveq_row k2),a8,bldN3 _ o9.row.isCell a.row.isCell,C,G]
 | false=>
  obtain⟨H7,A7,b7,j,g7,m7,n7⟩:=box Q.ok (.cells [S sep] 9 1 false);have T:=Q.trans j;obtain⟨H8,A8,b8,v,g8,m8,n8⟩:=box T.ok (.cells [ks, .slice A7 0 1 2,a6] 22 1 false);have y:=T.trans v;obtain⟨H9,A9,b9,z,g9,m9,n9⟩:=box y.ok (.cells [ps,c4] 32 1 false);have m:=y.trans z;have c9:Strs H9 (.slice A7 0 1 2) [sep]:=Rw.lit (cc:=2) m.ok (jY (v.trans z) T.ok g7);obtain⟨M,c8,a8,I,a,f10⟩:=conS3 D n (cc:=6) m.ok (z.get y.ok g8) (h1.prs m) c9 (k1.prs m) (by simp only[zV,yI];omega) (by omega);have W:=m.trans I;obtain⟨b0,e2,d3,b4,b5,f11⟩:=conP2 D n (cc:=4) W.ok (I.get m.ok g9) (h3.prs W) (k3.prs W) (by omega) (by omega);have d4:=W.trans b4;have up {t:AH} {o:AObj} {A:Nat} (g:H6.h.get A=some o) (p:Prs H6 t):=p.get Q.ok g;have a4:Prs H6 c8:=((j.trans v).trans z).trans I;obtain⟨w,C,F,sy,G⟩:=a1 (l:=[.bool false,M, .nS,b0]) d4 (up a7 (a4.trans b4)) rfl (by simp only[allCells,a.row.isCell,b5.row.isCell];rfl);have d2:N<H9.next:=by have:=Z.next;have:=p5.next;have:=p6.next;have:=j.next;have:=v.next;have:=z.next;omega
  have e3:=I.next
  refine⟨.agg [.bool false,M, .nS,b0],w, ?_,F, ?_⟩
  rotate_left
  .have:joinN i sep J=⟨false,i.keys++([sep]++J.keys),[],i.kids++J.kids⟩:=by simp only[joinN,<-a5,zL,qD]
   rw[this];refine⟨M, .nS,b0,rfl,(a.mono b4 (fun _ _ x=>x)).mono sy (fun B f e=>by have:=f10 B f;omega),kB ..,b5.mono sy (fun B f e=>by have:=f11 B f;omega),fun B f=> ?_,fun B f=>⟨fun h=>(jZ.1 h).elim,fun h=> ?_⟩,fun B f=>(jZ.1 f).elim⟩
   .have:=m.next
    rcases f with h | h | h
    .have:=f10 B h;omega
    .exact(jZ.1 h).elim
    .have:=f11 B h;omega
   .have:=f11 B h;have:=kD a.row f;omega
  .simp(disch:=omega) only[f101,eZ,b1,b2,b3,ldN_get U,ldN_get a0,ldN_get a2,ldN_get a3,sub4,zY,e4,e5,e6,c1,c2,c3,ld1_get V,ld1_get L,ld1_get (up L j),ld1_get (up V (j.trans v)),ld1_get (up L (j.trans v)),row1 9 (.str 0 0) (S_cell sep),b7,
    row3 22 .nS h1.isCell (show isCell (.slice A7 0 1 2)=true from rfl) k1.isCell,row2 32 .nS h3.isCell k3.isCell rfl,b8,b9,a8,
    chk_ok (ld1_get (up V a4) 3) (aveq_row h3),chk_ok (ld1_get (up L a4) 3) (aveq_row k3),d3,bldNi a.row.isCell b5.row.isCell,C,G]
end Go.Eng.Sh
end
section
namespace Go.Nd
end Go.Nd
namespace Go.Eng.Sh
open Go.Nd (Ptr sumL cutOk cutA cutB)
theorem NodeG.cells {H:AH}(h:NodeG H k i): ∃l,k= .agg l/\l.length=4/\allCells l=true:=by
 obtain⟨ks,vs,j,rfl,f,v,h3⟩:=h;exact⟨_,rfl,rfl,allCells4 _ _ _ _ f.row.isCell v.row.isCell h3.row.isCell⟩
theorem NodeG.zero (H:AH):NodeG H (.agg [.bool false, .nS, .nS, .nS]) nd0:=
 ⟨_,_,_,rfl, .inl (kB ..), .inl (kB ..), .inl (kB ..)⟩
theorem NodeF.zero (N:Nat)(H:AH):NodeF N H (.agg [.bool false, .nS, .nS, .nS]) nd0:=
 ⟨NodeG.zero H,fun B a=>by rcases blkN_mk.1 a with h | h | h<;>exact(jZ.1 h).elim⟩
def jP:=@NodeF.zero
theorem cutNo(I:200000000<=n)(J:H.ok)(h:NodeV H k i)(K:small i)(j: ¬(Nd.shaped ltS i=true/\cuttable i)):
  ∃H',f134 D n [k] H=some (.tuple [.agg [.bool false, .nS, .nS, .nS],S [], .agg [.bool false, .nS, .nS, .nS], .int .i64 (1:Nat)],H')/\Prs H H':=by
 have z:=h;obtain⟨ks,vs,W,rfl,L,Y,h3⟩:=h;obtain⟨la,m⟩: ∃la,la=i.leaf:=⟨_,rfl⟩;rw[<-m]at z⊢;obtain⟨Z,H2,H3,M,A1,N,A4,b1,b2,s,t,u,f⟩:=cutHead D n I J m.symm z K;have o1:=f.o1;have o2:=f.o2;have o4:=f.o4;have l4:=f.lt;obtain⟨C,O,Q,s5⟩:=f.all2 (l':=[.bool false, .nS, .nS, .nS]) rfl rfl;obtain⟨F,T,v,s6⟩:=Q.all4 (l':=[.bool false, .nS, .nS, .nS]) rfl rfl;have o:stN 4 (.ptr N 0) (.agg [.bool false, .nS, .nS, .nS]) M=some (undefA,C):=O;have p:stN 4 (.ptr A4 0) (.agg [.bool false, .nS, .nS, .nS]) C=some (undefA,F):=T;have y:=L.lnSl;refine⟨F, ?_,v.prs⟩;have x:(AV.str 0 0)=S []:=rfl
 cases c1:Nd.shaped ltS i with
 | false=>
  simp(maxSteps:=999999)(disch:=omega) only[f134,eZ,b1,b2,s,ldN_get u.a1,ldN_get f.a1,sub4,zY,t,c1,bldN0,o,p,ldN_get v.a2,ldN_get v.a4,x]
 | true=>
  have j: ¬cuttable i:=fun U=>j ⟨c1,U⟩
  by_cases t2:i.keys.length<2
  .have q:(i.keys.length:Int)< ((2:Nat):Int):=by omega
   simp(maxSteps:=999999)(disch:=omega) only[f134,eZ,b1,b2,s,ldN_get u.a1,ldN_get f.a1,sub4,zY,t,c1,ld1_get f.a1,y,q,bldN0,o,p,ldN_get v.a2,ldN_get v.a4,x]
  .have q: ¬(i.keys.length:Int)< ((2:Nat):Int):=by omega
   have V:la=false:=by
    cases la with
    | false=>rfl
    | true=>exact absurd ⟨by omega, .inl m.symm⟩ j
   have t3:i.keys.length<3:=by
    rcases Nat.lt_or_ge i.keys.length 3 with h | h
    .exact h
    .exact absurd ⟨by omega, .inr h⟩ j
   have G:(i.keys.length:Int)< ((3:Nat):Int):=by omega
   subst V;simp(maxSteps:=999999)(disch:=omega) only[f134,eZ,b1,b2,s,ldN_get u.a1,ldN_get f.a1,sub4,zY,t,c1,ld1_get f.a1,y,q,G,bldN0,o,p,ldN_get v.a2,ldN_get v.a4,x]
theorem cut_ok(m:200000000<=n)(o:H.ok)(h:NodeG H k i)(q:small i):
  ∃a sep j e H',f134 D n [k] H=some (.tuple [a,S sep,j, .int .i64 ((e:Nat):Int)],H')/\Prs H H'/\
   ((e=0/\ ∃v,Nd.shaped ltS i=true/\cutOk i v/\hbnd i v/\sep=i.keys.getD v []/\NodeF H.next H' a (cutA i v)/\NodeF H.next H' j (cutB i v))\/
    (e=1/\sep=[]/\ ¬(Nd.shaped ltS i=true/\cuttable i)/\a= .agg [.bool false, .nS, .nS, .nS]/\j= .agg [.bool false, .nS, .nS, .nS])):=by
 by_cases f:Nd.shaped ltS i=true/\cuttable i
 .cases hl:i.leaf with
  | true=>
   obtain⟨v,a,j,H',e,p,s,t,ok,u⟩:=cutLeaf D n m o h q f.1 f.2 hl;exact⟨a,_,j,0,H',e,p, .inl ⟨rfl,v,f.1,ok,u,rfl,s,t⟩⟩
  | false=>
   obtain⟨v,a,j,H',e,p,s,t,ok,u⟩:=cutInner D n m o h q f.1 f.2 hl;exact⟨a,_,j,0,H',e,p, .inl ⟨rfl,v,f.1,ok,u,rfl,s,t⟩⟩
 .obtain⟨H',e,p⟩:=cutNo D n m o h.node q f;exact⟨_,[],_,1,H',e,p, .inr ⟨rfl,rfl,f,rfl,rfl⟩⟩
end Go.Eng.Sh
end
section
namespace Go.Nd
open Go.Eng (ltS ltS_irrefl ltS_trans ltS_tri ltS_asymm ltS_ne)
abbrev Kvs:=List (Str×Str)
def lookP (k:Str):Kvs->Option Str
 | []=>none
 | (a,b)::l=>if a=k then some b else lookP k l
def putP (k v:Str):Kvs->Kvs
 | []=>[(k,v)]
 | (a,b)::l=>if a=k then(k,v)::l else if ltS a k then(a,b)::putP k v l else(k,v)::(a,b)::l
def delP (k:Str):Kvs->Kvs
 | []=>[]
 | (a,b)::l=>if a=k then l else(a,b)::delP k l
def Srt:Kvs->Prop
 | []=>True
 | (a,_)::l=>(∀p∈l,ltS a p.1=true)/\Srt l
theorem rising_cons {a:Str}{l:List Str} :rising ltS (a::l)=true↔(∀x∈l,ltS a x=true)/\rising ltS l=true:=by
 induction l generalizing a with
 | nil=>simp[rising]
 | cons b l ih=>
  rw[rising,zE];constructor
  .rintro⟨h1,h2⟩
   refine⟨fun x f=> ?_,h2⟩;rcases zM.1 f with rfl | f
   .exact h1
   .exact ltS_trans h1 ((ih.1 h2).1 x f)
  .rintro⟨h1,h2⟩
   exact⟨h1 b (zH ..),h2⟩
theorem srt_rising: ∀l:Kvs,Srt l↔rising ltS (l.map Prod.fst)=true
 | []=>by simp[Srt,rising]
 | (a,b)::l=>by
  rw[y6,rising_cons,Srt,srt_rising l];simp only[qM,forall_exists_index,and_imp];constructor
  .rintro⟨h1,h2⟩;exact⟨fun x p hp e=>e▸h1 p hp,h2⟩
  .rintro⟨h1,h2⟩;exact⟨fun p hp=>h1 _ p hp rfl,h2⟩
theorem look_none {k:Str} : ∀ {l:Kvs},(∀p∈l,p.1≠k)->lookP k l=none
 | [],_=>rfl
 | (a,b)::l,h=>by
  rw[lookP,if_neg (h (a,b) (zH ..))];exact look_none fun p hp=>h p (zC _ hp)
theorem mem_put {k v:Str}{p:Str×Str} : ∀ {l:Kvs},p∈putP k v l->p=(k,v)\/p∈l
 | [],h=>by simpa[putP]using h
 | (a,b)::l,h=>by
  simp only[putP]at h;split at h
  .rcases zM.1 h with h | h
   .exact .inl h
   .exact .inr (zC _ h)
  .split at h
   .rcases zM.1 h with h | h
    .exact .inr (h▸zH ..)
    .rcases mem_put h with h | h
     .exact .inl h
     .exact .inr (zC _ h)
   .rcases zM.1 h with h | h
    .exact .inl h
    .exact .inr h
theorem srt_put (k v:Str): ∀ {l:Kvs},Srt l->Srt (putP k v l)
 | [],_=>⟨by simp,trivial⟩
 | (a,b)::l,h=>by
  simp only[putP];split
  .rename_i e;subst e;exact h
  .rename_i j;split
   .rename_i f;refine⟨fun p hp=> ?_,srt_put k v h.2⟩;rcases mem_put hp with rfl | hp
    .exact f
    .exact h.1 p hp
   .rename_i f;have i:ltS k a=true:=by
     cases m:ltS k a with
     | true=>rfl
     | false=>exact absurd (ltS_tri (by simpa using f) m) j
    refine⟨fun p hp=> ?_,h⟩;rcases zM.1 hp with rfl | hp
    .exact i
    .exact ltS_trans i (h.1 p hp)
theorem mem_del {k:Str}{p:Str×Str} : ∀ {l:Kvs},p∈delP k l->p∈l
 | [],h=>h
 | (a,b)::l,h=>by
  simp only[delP]at h;split at h
  .exact zC _ h
  .rcases zM.1 h with h | h
   .exact h▸zH ..
   .exact zC _ (mem_del h)
theorem srt_del (k:Str): ∀ {l:Kvs},Srt l->Srt (delP k l)
 | [],_=>trivial
 | (a,b)::l,h=>by
  simp only[delP];split
  .exact h.2
  .exact⟨fun p hp=>h.1 p (mem_del hp),srt_del k h.2⟩
def whereN (n:Node)(key:Str):Nat:=(n.keys.filter fun k=>ltS k key||(!n.leaf&&decide (k=key))).length
theorem whereN_le (n:Node)(key:Str):whereN n key<=n.keys.length:=List.length_filter_le _ _
def leafOf (l:Kvs):Node:=⟨true,l.map Prod.fst,l.map Prod.snd,[]⟩
theorem where_cons {a b key:Str}{l:Kvs}(h:Srt ((a,b)::l)):whereN (leafOf ((a,b)::l)) key=if ltS a key then whereN (leafOf l) key+1 else 0:=by
 simp only[whereN,leafOf,y6,Bool.not_true,Bool.false_and,Bool.or_false]
 cases hl:ltS a key with
 | true=>simp[hl]
 | false=>
  rw[List.filter_cons,hl];simp only[zL,qD];rw[List.length_eq_zero_iff,List.filter_eq_nil_iff];intro x i f;obtain⟨p,hp,rfl⟩:=qM.1 i;have:=ltS_trans (h.1 p hp) f;rw[hl]at this;cases this
def hereN (n:Node)(key:Str):Bool:=decide (whereN n key<n.keys.length)&&decide (n.keys.getD (whereN n key) []=key)
theorem here_look (key:Str): ∀ {l:Kvs},Srt l->hereN (leafOf l) key=(lookP key l).isSome
 | [],_=>by simp[hereN,leafOf,lookP]
 | (a,b)::l,h=>by
  have f:=here_look key h.2;have j:(leafOf ((a,b)::l)).keys=a::(leafOf l).keys:=rfl;simp only[hereN,where_cons h,lookP,j]at f⊢
  cases hl:ltS a key with
  | true=>
   have i:a≠key:=ltS_ne hl;simp only[if_true,if_neg i,zV,Nat.add_lt_add_iff_right,List.getD_cons_succ];exact f
  | false=>
   simp only[zL,qD,zV,List.getD_cons_zero,Nat.zero_lt_succ,decide_true,Bool.true_and];by_cases e:a=key
   .simp[e]
   .rw[if_neg e,look_none]
    .simp[e]
    .intro p hp m;have:=h.1 p hp;rw[m,hl]at this;cases this
def putN (n:Node)(key value:Str):Node:=
 if hereN n key then⟨true,n.keys,n.vals.set (whereN n key) value,[]⟩
 else⟨true,n.keys.take (whereN n key)++[key]++n.keys.drop (whereN n key),n.vals.take (whereN n key)++[value]++n.vals.drop (whereN n key),[]⟩
def delN (n:Node)(key:Str):Node:=⟨true,n.keys.take (whereN n key)++n.keys.drop (whereN n key+1),n.vals.take (whereN n key)++n.vals.drop (whereN n key+1),[]⟩
theorem put_leaf (key value:Str): ∀ {l:Kvs},Srt l->putN (leafOf l) key value=leafOf (putP key value l)
 | [],_=>by simp[putN,hereN,leafOf,putP,whereN]
 | (a,b)::l,h=>by
  have f:=put_leaf key value h.2;have j:=here_look key h;have i:=here_look key h.2;simp only[putN,j,i,where_cons h,lookP,putP]at f⊢;by_cases e:a=key
  .subst e;simp[ltS_irrefl,leafOf]
  .rw[if_neg e,if_neg e]
   cases hl:ltS a key with
   | true=>
    simp only[if_true];have g: ∀(q:Kvs),leafOf ((a,b)::q)=⟨true,a::(leafOf q).keys,b::(leafOf q).vals,[]⟩:=fun q=>rfl
    rw[g (putP key value l),<-f,g l];split
    .simp
    .simp
   | false=>
    have:lookP key l=none:=look_none fun p hp m=>by have:=h.1 p hp;rw[m,hl]at this;cases this
    rw[this];simp[leafOf]
theorem del_leaf (key:Str): ∀ {l:Kvs},Srt l->hereN (leafOf l) key=true->delN (leafOf l) key=leafOf (delP key l)
 | [],_,h=>by simp[hereN,leafOf]at h
 | (a,b)::l,h,hr=>by
  have i:=here_look key h;have f:=here_look key h.2;rw[i]at hr;simp only[delN,where_cons h,delP];by_cases e:a=key
  .subst e;simp[ltS_irrefl,leafOf]
  .simp only[lookP,if_neg e]at hr;rw[if_neg e];have hl:ltS a key=true:=by
    cases hl:ltS a key with
    | true=>rfl
    | false=>
     have:lookP key l=none:=look_none fun p hp j=>by have:=h.1 p hp;rw[j,hl]at this;cases this
     rw[this]at hr;cases hr
   have m:=del_leaf key h.2 (f.trans hr);simp only[hl,if_true];have g: ∀(q:Kvs),leafOf ((a,b)::q)=⟨true,a::(leafOf q).keys,b::(leafOf q).vals,[]⟩:=fun q=>rfl
   rw[g (delP key l),<-m,g l];simp[delN]
def getN (n:Node)(key:Str):Option Str:=if n.leaf then lookP key (n.keys.zip n.vals)else none
theorem get_leaf (key:Str)(l:Kvs):getN (leafOf l) key=lookP key l:=by
 simp only[getN,leafOf,if_true];congr 1
 induction l with
 | nil=>rfl
 | cons p l ih=>simp[ih]
theorem leaf_shaped {l:Kvs}(h:Srt l)(a: ∀p∈l,mayK p.1=true/\p.2.length<=200):shaped ltS (leafOf l)=true:=by
 simp only[shaped,leafOf,if_true,zE,zU,qY,qM,forall_exists_index,and_imp,jC,true_and];exact⟨⟨fun x p hp e=>e▸(a p hp).1,(srt_rising l).1 h⟩,fun x p hp e=>e▸(a p hp).2⟩
end Go.Nd
namespace Go.Eng.Sh
open Go.Nd (Ptr sumL cutOk cutA cutB whereN getN lookP)
theorem filter_take {f:Str->Bool}(l:List Str)(i:h<l.length):((l.take (h+1)).filter f).length=((l.take h).filter f).length+if f (l.getD h [])then 1 else 0:=by
 rw[qH i,jF,zT,getD_lt i];congr 1
 cases a:f l[h]<;>simp[a]
theorem where_ok(O:200000000<=n)(I:H.ok){key:Str}(h:NodeV H k i)(J:small i):
  ∃H',f69 D n [k,S key] H=some (.int .i64 (whereN i key:Nat),H')/\Prs H H':=by
 obtain⟨ks,vs,K,rfl,y,Q,h3⟩:=h;obtain⟨la,u⟩: ∃la,la=i.leaf:=⟨_,rfl⟩;rw[<-u];have N:=Nd.sumL_ge i.keys;obtain⟨T,U,V⟩:=J;obtain⟨t,z,b1,C,o,W,Y⟩:=box I (.cells [.bool la,ks,vs,K] 72 1 false);have L:=y.prs C;have M:loopK n (f69l1 D n) [S key, .ptr z 0, .int .i64 (0:Nat),ks, .int .i64 (i.keys.length:Nat), .int .i64 (0:Nat)] t=some (.exit 0 [.int .i64 (whereN i key:Nat)],t):=by
  refine loop_for (fun a=>[S key, .ptr z 0, .int .i64 ((((i.keys.take a).filter fun v=>ltS v key||(!i.leaf&&decide (v=key))).length:Nat):Int),ks, .int .i64 (i.keys.length:Nat), .int .i64 (a:Nat)]) i.keys.length ?_ ?_ n (by omega)
  .intro a hi;obtain⟨p,q,f⟩:=L.at hi;rw[<-getD_lt (d:=[])]at f;have j:((a:Nat):Int)< (i.keys.length:Int):=by omega
   rw[filter_take i.keys hi,<-u];have G:((i.keys.take a).filter fun v=>ltS v key||(!la&&decide (v=key))).length<=i.keys.length:=qP (List.length_filter_le _ _) (by rw[qA];omega);generalize((i.keys.take a).filter fun v=>ltS v key||(!la&&decide (v=key))).length=c at G;generalize i.keys.getD a []=x at f
   cases s:ltS x key with
   | true=>simp(disch:=omega) only[f69l1,f69j0,eZ,j,q,f,s,y7]
   | false=>
    cases la with
    | true=>simp(disch:=omega) only[f69l1,f69j0,eZ,j,q,f,s,ld1_get o,y7,Nat.add_zero]
    | false=>
     by_cases F:x=key
     .subst F;simp(disch:=omega) only[f69l1,f69j0,eZ,j,q,f,s,ld1_get o,y7]
     .simp(disch:=omega) only[f69l1,f69j0,eZ,j,q,f,s,ld1_get o,F,y7,Nat.add_zero]
  .intro m;refine loop_exit ?_;rw[j8];simp only[f69l1,eZ,yA,whereN]
 refine⟨t, ?_,C⟩;simp only[f69,eZ,b1,ld1_get o,y.lnSl,M,f69b2]
end Go.Eng.Sh
end
section
namespace Go.Eng
theorem slSl_end (e:Grow h w H k l v)(j:0<h)(u:0<l)(κ:IntKind):
  ∃r,slSl h k (some (.int κ (l:Nat))) none none H=some r/\Rw h H r 0 []:=by
 have i:=natOf_int κ (z:=(l:Int)) (by omega);simp only[qU]at i;have hb:Nat.blt 0 h=true:=by rw[q9];exact j
 have b1:Nat.ble l l=true:=by rw[qO];exact zK _
 have b2:Nat.blt l l=false:=by rw[qX];intro e;rw[q9]at e;omega
 have p:Nat.beq l 0=false:=by rw[qX];intro e;have:=Nat.eq_of_beq_eq_true e;omega
 rcases e with⟨m,⟨rfl,rfl⟩ | ⟨A,rfl,o,a⟩⟩ | ⟨m,A,q,g,rfl,o,a,t⟩
 .omega
 .have f:roomOf v true h 0 1 h=l:=by
   simp only[roomOf,show((1 % 2).beq 0)=false from rfl,y9,yC,show Nat.beq 0 (1 / 2*h)=true from by simp,qJ,zP,lenL_zero,m,j7];exact Nat.mul_div_cancel _ j
  refine⟨.eS, ?_,⟨by simp, .inr (.inl ⟨rfl,rfl⟩)⟩⟩;simp only[slSl,natOpt,i,a,hb,zP];simp[acut,f,b1,b2,p,show Nat.beq 1 0=false from rfl]
 .have f:roomOf v g h 0 (2*l) h=l:=by
   simp only[roomOf,show((2*l) % 2).beq 0=true by rw[j6];rfl,zP,yL l (show 0<2 by omega)]
  have s:Nat.beq (2*l / 2) l=true:=by rw[yL l (show 0<2 by omega),yC]
  refine⟨.slice A 0 0 (2*(2*l / 2 - l)), ?_,⟨by simp, .inr (.inr ⟨A,0,_,v,q,h,g,rfl,a,o,by omega,by simp⟩)⟩⟩;simp only[slSl,natOpt,i,a,hb,zP];simp[acut,f,b1,s,fN_eq]
end Go.Eng
namespace Go.Eng.Sh
open Go.Nd (Ptr sumL)
theorem cloneG_ok(j:H.ok){l:List Str}(h:Grow 1 9 H k l.length (l.map S))(hl:l.length<=1000000000):
  ∃a H',f75 D n [k] H=some (a,H')/\Prs H H'/\Grow 1 9 H' a l.length (l.map S)/\(∀B,Blk a B->H.next<=B)/\(0<l.length->Own 1 9 H' a l.length (l.map S)):=by
 have hr:=h.row;by_cases s:k= .nS
 .subst s;have z:l=[]:=by
   rcases h with⟨_,⟨_,i⟩ | ⟨A,i,_⟩⟩ | ⟨_,A,_,_,i,_⟩
   .exact zR i
   .cases i
   .cases i
  subst z;refine⟨.nS,H, ?_,jV j, .inl (kB ..),fun B t=>(jZ.1 t).elim,fun h=>absurd h (by simp)⟩;have q:cmpO .eql (eqS .nS .nS)=some (.bool true):=rfl;simp only[f75,eZ,q]
 .have C:k≠ .eS:=by
   rcases h with⟨_,⟨rfl,_⟩ | ⟨A,rfl,_⟩⟩ | ⟨_,A,_,_,rfl,_⟩<;>simp
  by_cases i:l.length=0
  .obtain⟨a,H',e,p,g,f⟩:=cloneS_ok D n j hr s C hl;exact⟨a,H',e,p,g,f,fun h=>absurd h (by omega)⟩
  .have o:Prs H (H.push (.cells [] 9 1 false)):=(jV j).push _;have u:(H.push (.cells [] 9 1 false)).h.get H.next=some (.cells [] 9 1 false):=jK _ _
   have I:(H.push (.cells [] 9 1 false)).next=H.next+1:=rfl
   generalize F:H.push (.cells [] 9 1 false)=H1 at o u I;have J:=app1_full (k:=1) (e:=9) (bytes:=16) (n:=0) (m:=l.length) (off:=0) (new:=l.map S) o.ok u (by simp) (by omega) (by omega) (by decide);have x:apP 9 1 16 (.slice H.next 0 0 0) k H1=some (.slice H1.next 0 (0+l.length) 1,H1.push (.cells (([]:List AV).drop 0 |>.take (0*1) |> (· ++l.map S)) 9 1 true)):=by
    simp only[apP,(hr.prs o).srcOf,map_cells,zP];exact J
   have G:bldL 9 1 0 [.str 0 0] []=some (.cells [] 9 1 false,fun A=> .slice A 0 0 0):=rfl;have q:cmpO .eql (eqS k .nS)=some (.bool false):=by
    rcases h with⟨_,⟨rfl,_⟩ | ⟨A,rfl,_⟩⟩ | ⟨_,A,_,_,rfl,_⟩
    .exact absurd rfl s
    .rfl
    .rfl
   simp only[List.drop_nil,List.take_nil,qV,yU]at x;have y:Own 1 9 (H1.push (.cells (l.map S) 9 1 true)) (.slice H1.next 0 l.length 1) l.length (l.map S):=⟨by simp, .inr ⟨_,rfl,Nat.lt_succ_self _,jK _ _⟩⟩
   refine⟨.slice H1.next 0 l.length 1,H1.push (.cells (l.map S) 9 1 true), ?_,o.push _, .inl y,fun B t=>by rw[jS.1 t];omega,fun _=>y⟩
   simp only[f75,eZ,q,G,bA_ok j,F,x]
theorem insert_ok(m:H.ok){l:List Str}{i:Nat}{x:Str}(v:Grow 1 9 H k l.length (l.map S))(K:0<l.length->Own 1 9 H k l.length (l.map S))(hi:i<=l.length)(hl:l.length<=200000000)(p:H.h.get h=some (.cells [S x] 9 1 false)):
  ∃a H',m76 D n [k, .int .i64 (i:Nat), .slice h 0 1 2] H=some (a,H')/\Stp (Blk k) H H'/\Grow 1 9 H' a (l.take i++[x]++l.drop i).length ((l.take i++[x]++l.drop i).map S)/\ ∀C,Blk a C->Blk k C\/H.next<=C:=by
 have L:Strs H (.slice h 0 1 2) [x]:=Rw.lit (cc:=2) m p;have q:lnSl (.slice h 0 1 2)=some (.int .i64 (1:Nat)):=rfl;have t10: ¬((1:Nat):Int)=((0:Nat):Int):=by omega
 by_cases G:i=l.length
 .subst G;have M: ∃r,slSl 1 k (some (.int .i64 (l.length:Nat))) none none H=some r:=by
   by_cases s:0<l.length
   .obtain⟨r,e,_⟩:=slSl_end v (by decide) s .i64;exact⟨r,e⟩
   .have f:l.length=0:=by omega
    rw[f];rcases v with⟨_,⟨rfl,_⟩ | ⟨A,rfl,_,j⟩⟩ | ⟨_,A,W,g,rfl,_,j,_⟩
    .exact⟨.nS,rfl⟩
    .rw[f];have:l=[]:=zR f;subst this;exact⟨.slice A 0 0 1,by simp[slSl,natOpt,natOf_int,j,acut,fN_eq,roomOf,show Nat.blt 0 1=true from rfl,show Nat.ble 0 0=true from rfl,show Nat.beq 1 0=false from rfl,show Nat.beq 0 0=true from rfl,natOf,show Nat.beq 1 1=true from rfl,lenL,bne]⟩
    .rw[f];have:l=[]:=zR f;subst this;exact⟨.slice A 0 0 0,by simp[slSl,natOpt,natOf_int,j,acut,fN_eq,roomOf,show Nat.blt 0 1=true from rfl,show Nat.ble 0 0=true from rfl,show Nat.beq 0 0=true from rfl,natOf]⟩
  obtain⟨r,hr⟩:=M;obtain⟨a,H',N,O,Q,T⟩:=v.app (bytes:=16) m (by decide) L.srcOf (by simp) (map_cells _) (by simp;omega) (by decide);refine⟨a,H', ?_,Q,by simpa using O,T⟩;have:f76 D n [k, .int .i64 (l.length:Nat), .slice h 0 1 2] H=some (a,H'):=by
   simp only[f76,eZ,hr,q,t10,v.row.lnSl,N]
  show insK (f76 D n) _ H=_;simp only[insK,this]
 .have o:i<l.length:=by omega
  have U:=K (by omega);obtain⟨_,⟨_,s⟩ | ⟨A,rfl,t,j⟩⟩:=id U
  .omega
  .obtain⟨r,hr,_⟩:=slSl_lo v (by decide) o .i64;have u: ¬(i:Int)=(l.length:Int):=by omega
   have y:acap X 22 (.slice A 0 l.length 1)=none:=rfl;have I:f76 D n [.slice A 0 l.length 1, .int .i64 (i:Nat), .slice h 0 1 2] H=none:=by
    simp(disch:=omega) only[f76,eZ,hr,q,t10,v.row.lnSl,u,y];rfl
   have b1:Nat.blt i l.length=true:=by rw[q9];exact o
   have b2:Nat.ble ((l.length+1)*16) 140737488355328=true:=by rw[qO];omega
   have J:(H.put A .dead).ok:=m.put t _;refine⟨.slice (H.put A .dead).next 0 (l.length+1) 1,(H.put A .dead).push (.cells ((l.map S).take i++[S x]++(l.map S).drop i) 9 1 true), ?_,((jV m).put t _ (.inr (jS.2 rfl))).push _, ?_,fun C V=> .inr (by rw[jS.1 V];exact zK _)⟩
   .show insK (f76 D n) _ H=_;simp only[insK,I];show insT 9 [.slice A 0 l.length 1, .int .i64 (.ofNat i), .slice h 0 1 2] H=_;simp only[insT,j,p,b1,b2,map_cells,lenL_zero,jC,yC,show Nat.blt 0 1=true from rfl,show Nat.beq 1 1=true from rfl,show Nat.beq 0 0=true from rfl,show Nat.beq 9 9=true from rfl,qJ,Bool.not_false,zP,subN,takeN,allCells,S_cell,putA_ok,agrow,newA_ok J,fN_eq]
   .have z:(l.take i++[x]++l.drop i).length=l.length+1:=by simp;omega
    have F:(l.take i++[x]++l.drop i).map S=(l.map S).take i++[S x]++(l.map S).drop i:=by simp
    rw[z,F];exact .inl ⟨by simp;omega, .inr ⟨_,rfl,Nat.lt_succ_self _,jK _ _⟩⟩
end Go.Eng.Sh
end
section
namespace Go.Eng
theorem Own.set1 {l:List Str}(f:H.ok)(e:Own 1 h H k l.length (l.map S)){i:Nat}(hi:i<l.length)(x:Str):
  ∃p H',(∀κ (z:Int),z=(i:Int)->ixSl 1 k (.int κ z)=some p)/\stN 1 p (S x) H=some (undefA,H')/\Own 1 h H' k (l.set i x).length ((l.set i x).map S)/\Stp (Blk k) H H':=by
 obtain⟨o,⟨_,q⟩ | ⟨A,rfl,a,j⟩⟩:=e
 .omega
 .have hb:Nat.blt i l.length=true:=by rw[q9];exact hi
  refine⟨.ptr A (0+i*1),_,fun κ z m=> ?_,st1_ok j (by decide) (S_cell x) (by simpa using hi),⟨by simp, .inr ⟨A,by simp,a,by rw[jO,if_pos rfl];simp[List.map_set]⟩⟩,(jV f).put a _ (.inr (jS.2 rfl))⟩;subst m;simp only[ixSl,natOf_int κ (show(0:Int)<=(i:Int)by omega),qU,hb,zP,fN_eq]
end Go.Eng
namespace Go.Eng.Sh
open Go.Nd (Ptr sumL whereN hereN putN)
def putOk (a:Nd.Node)(key value:Str):Bool:=Nd.shaped ltS a&&a.leaf&&Nd.mayK key&&decide (value.length<=200)
theorem putNd_ok(hn:200000000<=n)(hk:H.ok){key value:Str}(h:NodeG H k J)(hs:small J):
  ∃u H',f34 D n [k,S key,S value] H=some (.tuple [u, .int .i64 (if putOk J key value then 0 else 1:Nat)],H')/\Prs H H'/\NodeF H.next H' u (if putOk J key value then putN J key value else nd0):=by
 have i0:=h.node;obtain⟨ks,vs,ps,rfl,h1,h2,h3⟩:=h;have h7:=Nd.sumL_ge J.keys;have h8:=Nd.sumL_ge J.vals;have s0:=hs;obtain⟨s1,s2,s3⟩:=hs;obtain⟨la,b0⟩: ∃la,la=J.leaf:=⟨_,rfl⟩;obtain⟨po,y⟩: ∃po,po=putOk J key value:=⟨_,rfl⟩;rw[<-y,<-b0];rw[<-b0]at i0;simp only[putOk,<-b0]at y;obtain⟨H1,A1,b1,p1,g1,m1,n1⟩:=box hk (.cells [.bool la,ks,vs,ps] 72 1 false);obtain⟨H2,V,b2,p2,g2,m2,n2⟩:=box p1.ok (.cells [.bool false, .nS, .nS, .nS] 72 1 false);have P2:Prs H H2:=p1.trans p2;have N:=p2.get p1.ok g1;obtain⟨z,W,p4⟩:=shaped_ok D n P2.ok (i0.prs P2) s0 hn;have G:=P2.trans p4;have O:=p4.get P2.ok N;have d0:=p4.get P2.ok g2;obtain⟨Hr,er,gr,sr,nr⟩:=st_all G.ok d0 (l':=[.bool false, .nS, .nS, .nS]) rfl rfl;have b3:stN 4 (.ptr V 0) (.agg [.bool false, .nS, .nS, .nS]) z=some (undefA,Hr):=er;have Pr:Prs H Hr:=G.fresh sr (fun B a=>by omega);have lr:=agg4 gr rfl
 cases c1:Nd.shaped ltS J with
 | false=>
  simp only[c1,Bool.false_and,Bool.and_false]at y;subst y;refine⟨.agg [.bool false, .nS, .nS, .nS],Hr, ?_,Pr,jP _ _⟩;simp only[zL,qD];simp(maxSteps:=999999)(disch:=omega) only[f34,eZ,b1,b2,ldN_get N,sub4,zY,W,c1,bldN0,b3,lr]
 | true=>
 cases la with
 | false=>
  simp only[Bool.false_and,Bool.and_false]at y;subst y;refine⟨.agg [.bool false, .nS, .nS, .nS],Hr, ?_,Pr,jP _ _⟩;simp only[zL,qD];simp(maxSteps:=999999)(disch:=omega) only[f34,eZ,b1,b2,ldN_get N,sub4,zY,W,c1,ld1_get O,bldN0,b3,lr]
 | true=>
 cases c2:Nd.mayK key with
 | false=>
  simp only[c2,Bool.false_and,Bool.and_false]at y;subst y;refine⟨.agg [.bool false, .nS, .nS, .nS],Hr, ?_,Pr,jP _ _⟩;simp only[zL,qD];simp(maxSteps:=999999)(disch:=omega) only[f34,eZ,b1,b2,ldN_get N,sub4,zY,W,c1,ld1_get O,mayKey_ok,c2,bldN0,b3,lr]
 | true=>
 by_cases c3:value.length<=200
 case neg=>
  have a1:((200:Nat):Int)< (value.length:Int):=by omega
  simp only[c3,decide_false,Bool.and_false]at y;subst y;refine⟨.agg [.bool false, .nS, .nS, .nS],Hr, ?_,Pr,jP _ _⟩
  .simp only[zL,qD];simp(maxSteps:=999999)(disch:=omega) only[f34,eZ,b1,b2,ldN_get N,sub4,zY,W,c1,ld1_get O,mayKey_ok,c2,a1,bldN0,b3,lr]
 case pos=>
 have a1: ¬((200:Nat):Int)< (value.length:Int):=by omega
 simp only[c1,c2,c3,decide_true,qJ]at y;subst y;simp only[if_true];have h9:J.vals.length=J.keys.length:=by
  simp only[Nd.shaped,<-b0,if_true,zE,zU]at c1;exact c1.2.1.1
 obtain⟨H5,L,b5,p5,g5,m5,n5⟩:=box G.ok (.cells [.bool false, .nS, .nS, .nS] 72 1 false);have P5:=G.trans p5;have up1 {j:AH} (p:Prs z j):=jY p G.ok O;have up2 {j:AH} (p:Prs z j):=jY p G.ok d0;have q1 {j:AH} (p:Prs H j):Grow 1 9 j ks J.keys.length (J.keys.map S):=h1.mono p (fun _ _ x=>x);have q2 {j:AH} (p:Prs H j):Grow 1 9 j vs J.vals.length (J.vals.map S):=h2.mono p (fun _ _ x=>x);obtain⟨F,H6,e6,Y,Z,f6,t6⟩:=cloneG_ok D n P5.ok (q1 P5) (by omega);have P6:=P5.trans Y;obtain⟨m,H7,e7,p7,o7,f7,t7⟩:=cloneG_ok D n P6.ok (q2 P6) (by omega);have P7:=P6.trans p7;obtain⟨H8,e8,g8,s8,n8⟩:=st_all P7.ok (jY (Y.trans p7) P5.ok g5) (l':=[.bool true,F,m, .nS]) rfl (by simp only[allCells,Z.row.isCell,o7.row.isCell];rfl);have b7:stN 4 (.ptr L 0) (.agg [.bool true,F,m, .nS]) H7=some (undefA,H8):=e8;have N6:=Y.next
 have N7:=p7.next
 have f2:Prs z H7:=(p5.trans Y).trans p7;have a2:Prs z H8:=f2.fresh s8 (fun B a=>by omega);have P8:=G.trans a2;have k1:Grow 1 9 H8 F J.keys.length (J.keys.map S):=(Z.mono p7 (fun _ _ x=>x)).mono s8 (fun B a e=>by have:=f6 B a;omega);have k2:Grow 1 9 H8 m J.vals.length (J.vals.map S):=o7.mono s8 (fun B a e=>by have:=f7 B a;omega);have Q: ∀B,Blk F B->L<B/\B<H6.next:=fun B a=>⟨by have:=f6 B a;omega,Z.lt a⟩
 have t: ∀B,Blk m B->H6.next<=B/\B<H8.next:=fun B a=>⟨f7 B a,k2.lt a⟩
 obtain⟨H9,e9,I⟩:=where_ok D n hn P8.ok (key:=key) (i0.prs P8) s0;have P9:=P8.trans I;have a3:Prs z H9:=a2.trans I;have a4:=I.get P8.ok g8;have f3:=Nd.whereN_le J key;have b8:=h1.row.lnSl;have N9:=I.next
 have N5:=p5.next
 have N4:=p4.next
 have d1: ∀ {j:AH} {l:List AV},Prs H j->j.h.get V=some (.cells [.bool false, .nS, .nS, .nS] 72 1 false)->l.length=4->allCells l=true-> ∃M,stN 4 (.ptr V 0) (.agg l) j=some (undefA,M)/\Prs H M/\Stp (fun B=>B=V) j M/\ldN 4 (.ptr V 0) M=some (.agg l):=fun {j l} px hg hl hc=>by
  obtain⟨M,e,g,s,_⟩:=st_all px.ok hg hl hc;have e':stN 4 (.ptr V 0) (.agg l) j=some (undefA,M):=e;exact⟨M,e',px.fresh s (fun B a=>by omega),s,agg4 g hl⟩
 obtain⟨T,B1,d2,v,f4,i5,i6⟩:=box P9.ok (.cells [S key] 9 1 false);have f5:Prs z T:=a3.trans v;have f8:0<J.keys.length->Own 1 9 T F J.keys.length (J.keys.map S):=fun h=>(((t6 h).mono p7 (fun _ _ x=>x)).mono s8 (fun B a e=>by have:=f6 B a;omega)).mono (I.trans v) (fun _ _ x=>x)
 obtain⟨C,d3,d4,a5,b9,f11⟩:=insert_ok D n v.ok (k1.mono (I.trans v) (fun _ _ x=>x)) f8 f3 (by omega) (x:=key) f4;have f9:d3.h.get L=some (.cells [.bool true,F,m, .nS] 72 1 false):=by rw[a5.keep _ (by have:=v.next;omega) (fun a=>by have:=Q _ a;omega)];exact v.get P9.ok a4
 have d5:Prs z d3:=f5.fresh a5 (fun B a=>by have:=Q B a;omega);obtain⟨d6,d7,a0,a6,i7⟩:=st_fld d5.ok f9 (o:=1) (x:=C) b9.row.isCell (by simp);have a0:d6.h.get L=some (.cells [.bool true,C,m, .nS] 72 1 false):=a0;have c0:Prs z d6:=d5.fresh a6 (fun B a=>by omega);obtain⟨c4,B2,d8,U,g0,i8,i9⟩:=box c0.ok (.cells [S value] 9 1 false);have g3:Prs z c4:=c0.trans U;have d9: ∀B,Blk m B-> ¬Blk F B:=fun B a a7=>by have:=Q B a7;have:=t B a;omega
 have g4:Grow 1 9 c4 m J.vals.length (J.vals.map S):=(((k2.mono (I.trans v) (fun _ _ x=>x)).mono a5 d9).mono a6 (fun B a e=>by have:=t B a;omega)).mono U (fun _ _ x=>x);have g6:0<J.vals.length->Own 1 9 c4 m J.vals.length (J.vals.map S):=fun h=>(((((t7 h).mono s8 (fun B a e=>by have:=f7 B a;omega)).mono (I.trans v) (fun _ _ x=>x)).mono a5 d9).mono a6 (fun B a e=>by have:=t B a;omega)).mono U (fun _ _ x=>x)
 obtain⟨K,e0,e1,c5,c6,f14⟩:=insert_ok D n U.ok g4 g6 (i:=whereN J key) (by omega) (by omega) (x:=value) g0;have j0:=v.next
 have j3:=a5.next
 have j4:=a6.next
 have j5:=U.next
 have g7:e0.h.get L=some (.cells [.bool true,C,m, .nS] 72 1 false):=by rw[c5.keep _ (by omega) (fun a=>by have:=t _ a;omega)];exact U.get c0.ok a0
 have e2:Prs z e0:=g3.fresh c5 (fun B a=>by have:=t B a;omega);obtain⟨e3,e5,b4,c7,j6⟩:=st_fld e2.ok g7 (o:=2) (x:=K) c6.row.isCell (by simp);have b4:e3.h.get L=some (.cells [.bool true,C,K, .nS] 72 1 false):=b4;have f1:Prs z e3:=e2.fresh c7 (fun B a=>by omega);have g9:allCells [.bool true,C,K, .nS]=true:=by simp only[allCells,b9.row.isCell,c6.row.isCell];rfl
 obtain⟨Hz,ez,Pz,sz,lz⟩:=d1 (l:=[.bool true,C,K, .nS]) (G.trans f1) (up2 f1) rfl g9;have a8: ∀B,Blk C B->L<B/\(B<H6.next\/T.next<=B):=fun B a=>by
  rcases f11 B a with h | h
  .have:=Q B h;omega
  .omega
 have c8: ∀B,Blk K B->L<B:=fun B a=>by
  rcases f14 B a with h | h
  .have:=t B h;omega
  .omega
 have j7:=G.next
 have rz:NodeF H.next Hz (.agg [.bool true,C,K, .nS]) ⟨true,J.keys.take (whereN J key)++[key]++J.keys.drop (whereN J key),J.vals.take (whereN J key)++[value]++J.vals.drop (whereN J key),[]⟩:=
  ⟨⟨C,K, .nS,rfl,((((b9.mono a6 (fun B a e=>by have:=a8 B a;omega)).mono U (fun _ _ x=>x)).mono c5 (fun B a a7=>by have:=a8 B a;have:=t B a7;omega)).mono c7 (fun B a e=>by have:=a8 B a;omega)).mono sz (fun B a e=>by have:=a8 B a;omega),
   (c6.mono c7 (fun B a e=>by have:=c8 B a;omega)).mono sz (fun B a e=>by have:=c8 B a;omega), .inl (kB ..)⟩,fun B a=>by
     rcases blkN_mk.1 a with h | h | h
     .have:=a8 B h;omega
     .have:=c8 B h;omega
     .exact(jZ.1 h).elim⟩
 by_cases c9:whereN J key<J.keys.length
 .obtain⟨q,j1,j2⟩:=(q1 P9).row |> (fun(r:Strs H9 ks J.keys)=>r.at c9);rw[<-getD_lt (d:=[])]at j2;have a9:((whereN J key:Nat):Int)< (J.keys.length:Int):=by omega
  by_cases b6:J.keys.getD (whereN J key) []=key
  .have hh:hereN J key=true:=by simp only[hereN,b6,decide_true,Bool.and_true,zU];exact c9
   rw[b6]at j2;have h0:=(t7 (by omega)).mono s8 (fun B a e=>by have:=f7 B a;omega);obtain⟨p,T,i1,i2,i3,i4⟩:=Own.set1 P9.ok (h0.mono I (fun _ _ x=>x)) (i:=whereN J key) (by omega) value;have h4:Prs H T:=P9.fresh i4 (fun B a=>by have:=t B a;have:=P5.next;omega)
   have h5:T.h.get L=some (.cells [.bool true,F,m, .nS] 72 1 false):=by rw[i4.keep _ (by omega) (fun a=>by have:=t _ a;omega)];exact a4
   have h6:T.h.get V=some (.cells [.bool false, .nS, .nS, .nS] 72 1 false):=by rw[i4.keep _ (by omega) (fun a=>by have:=t _ a;omega)];exact up2 a3
   obtain⟨M,ey,Py,sy,ly⟩:=d1 (l:=[.bool true,F,m, .nS]) h4 h6 rfl (by simp only[allCells,Z.row.isCell,o7.row.isCell];rfl);refine⟨.agg [.bool true,F,m, .nS],M, ?_,Py, ?_⟩
   .simp(maxSteps:=999999)(disch:=omega) only[f34,eZ,b1,b2,ldN_get N,sub4,zY,W,c1,ld1_get O,mayKey_ok,c2,a1,b5,e6,chk_ok (ld1_get (up1 (p5.trans Y)) 2) (aveq_row h2.row),e7,bldN3 _ Z.row.isCell o7.row.isCell,b7,ldN_get (up1 a2),e9,ld1_get (up1 a3),b8,a9,j1,j2,ld1_get a4,i1,i2,agg4 h5 rfl,ey,ly]
   .have:putN J key value=⟨true,J.keys,J.vals.set (whereN J key) value,[]⟩:=by simp only[putN,hh,if_true]
    rw[this];have NN:=G.next
    refine⟨⟨F,m, .nS,rfl, ?_, ?_, .inl (kB ..)⟩,fun B a=>by
     rcases blkN_mk.1 a with h | h | h
     .have:=Q B h;omega
     .have:=t B h;omega
     .exact(jZ.1 h).elim⟩
    .exact((k1.mono I (fun _ _ x=>x)).mono i4 (fun B a a7=>by have:=Q B a;have:=t B a7;omega)).mono sy (fun B a e=>by have:=Q B a;omega)
    .exact .inl (i3.mono sy (fun B a e=>by have:=t B a;omega))
  .have hh:hereN J key=false:=by simp only[hereN,b6,decide_false,Bool.and_false]
   refine⟨.agg [.bool true,C,K, .nS],Hz, ?_,Pz, ?_⟩
   .simp(maxSteps:=999999)(disch:=omega) only[f34,eZ,b1,b2,ldN_get N,sub4,zY,W,c1,ld1_get O,mayKey_ok,c2,a1,b5,e6,chk_ok (ld1_get (up1 (p5.trans Y)) 2) (aveq_row h2.row),e7,bldN3 _ Z.row.isCell o7.row.isCell,b7,ldN_get (up1 a2),e9,ld1_get (up1 a3),b8,a9,j1,j2,b6,ld1_get a4,row1 9 (.str 0 0) (S_cell key),d2,d4,d7,ld1_get a0,row1 9 (.str 0 0) (S_cell value),d8,e1,e5,agg4 b4 rfl,ez,lz]
   .simp only[putN,hh,zL,qD];exact rz
 .have hh:hereN J key=false:=by simp only[hereN,c9,decide_false,Bool.false_and]
  have a9: ¬((whereN J key:Nat):Int)< (J.keys.length:Int):=by omega
  refine⟨.agg [.bool true,C,K, .nS],Hz, ?_,Pz, ?_⟩
  .simp(maxSteps:=999999)(disch:=omega) only[f34,eZ,b1,b2,ldN_get N,sub4,zY,W,c1,ld1_get O,mayKey_ok,c2,a1,b5,e6,chk_ok (ld1_get (up1 (p5.trans Y)) 2) (aveq_row h2.row),e7,bldN3 _ Z.row.isCell o7.row.isCell,b7,ldN_get (up1 a2),e9,ld1_get (up1 a3),b8,a9,ld1_get a4,row1 9 (.str 0 0) (S_cell key),d2,d4,d7,ld1_get a0,row1 9 (.str 0 0) (S_cell value),d8,e1,e5,agg4 b4 rfl,ez,lz]
  .simp only[putN,hh,zL,qD];exact rz
open Go.Nd (delN)
theorem hi1 {l:List Str}(h:Grow 1 9 H k l.length (l.map S)){i:Nat}(hi:i<=l.length):
  ∃r,slSl 1 k none (some (.int .i64 (i:Nat))) (some (.int .i64 (i:Nat))) H=some r/\Strs H r (l.take i):=by
 obtain⟨r,f,w,_⟩:=slSl_hi h (by decide) hi .i64 .i64;rw[map_take]at w;have a:(l.take i).length=i:=by rw[qA];omega
 exact⟨r,f,by rw[Strs,a];exact w⟩
theorem lo1 {l:List Str}(h:Grow 1 9 H k l.length (l.map S)){i:Nat}(hi:i<=l.length)(m:0<l.length):
  ∃r,slSl 1 k (some (.int .i64 (i:Nat))) none none H=some r/\Strs H r (l.drop i):=by
 by_cases j:i<l.length
 .obtain⟨r,a,w,_⟩:=slSl_lo h (by decide) j .i64;rw[map_drop]at w;have f:(l.drop i).length=l.length - i:=by rw[qK]
  exact⟨r,a,by rw[Strs,f];exact w⟩
 .obtain rfl:i=l.length:=by omega
  obtain⟨r,a,w⟩:=slSl_end h (by decide) m .i64;exact⟨r,a,by rw[List.drop_length];exact w⟩
def delE (a:Nd.Node)(key:Str):Nat:=if Nd.shaped ltS a&&a.leaf then(if hereN a key then 0 else 5)else 1
theorem delNd_ok(hn:200000000<=n)(hk:H.ok){key:Str}(h:NodeG H k i)(hs:small i):
  ∃u H',f48 D n [k,S key] H=some (.tuple [u, .int .i64 (delE i key:Nat)],H')/\Prs H H'/\NodeF H.next H' u (if delE i key=0 then delN i key else nd0):=by
 have i0:=h.node;obtain⟨ks,vs,ps,rfl,h1,h2,h3⟩:=h;have a8:=Nd.sumL_ge i.keys;have a9:=Nd.sumL_ge i.vals;have s0:=hs;obtain⟨s1,s2,s3⟩:=hs;obtain⟨la,L⟩: ∃la,la=i.leaf:=⟨_,rfl⟩;obtain⟨po,f⟩: ∃po,po=delE i key:=⟨_,rfl⟩;rw[<-f,<-L];rw[<-L]at i0;simp only[delE,<-L]at f;obtain⟨H1,A1,b1,p1,g1,m1,n1⟩:=box hk (.cells [.bool la,ks,vs,ps] 72 1 false);obtain⟨H2,T,b2,p2,g2,m2,n2⟩:=box p1.ok (.cells [.bool false, .nS, .nS, .nS] 72 1 false);have F:Prs H H2:=p1.trans p2;have z:=p2.get p1.ok g1;obtain⟨H4,G,U⟩:=shaped_ok D n F.ok (i0.prs F) s0 hn;have y:=F.trans U;have t:=U.get F.ok z;have a4:=U.get F.ok g2;have Z: ∀ {j:AH} {l:List AV},Prs H4 j->l.length=4->allCells l=true-> ∃o,stN 4 (.ptr T 0) (.agg l) j=some (undefA,o)/\Prs H o/\Stp (fun B=>B=T) j o/\ldN 4 (.ptr T 0) o=some (.agg l):=fun {j l} px hl hc=>by
  obtain⟨o,e,g,s,_⟩:=st_all px.ok (jY px y.ok a4) hl hc;have e':stN 4 (.ptr T 0) (.agg l) j=some (undefA,o):=e;exact⟨o,e',(y.trans px).fresh s (fun B C=>by omega),s,agg4 g hl⟩
 obtain⟨Hr,er,Pr,sr,lr⟩:=Z (Prs.refl y.ok) (l:=[.bool false, .nS, .nS, .nS]) rfl rfl
 cases c1:Nd.shaped ltS i with
 | false=>
  simp only[c1,Bool.false_and,zL,qD]at f;subst f;refine⟨.agg [.bool false, .nS, .nS, .nS],Hr, ?_,Pr,jP _ _⟩;simp(maxSteps:=999999)(disch:=omega) only[f48,eZ,b1,b2,ldN_get z,sub4,zY,G,c1,bldN0,er,lr]
 | true=>
 cases la with
 | false=>
  simp only[Bool.and_false,zL,qD]at f;subst f;refine⟨.agg [.bool false, .nS, .nS, .nS],Hr, ?_,Pr,jP _ _⟩;simp(maxSteps:=999999)(disch:=omega) only[f48,eZ,b1,b2,ldN_get z,sub4,zY,G,c1,ld1_get t,bldN0,er,lr]
 | true=>
 have b0:i.vals.length=i.keys.length:=by
  simp only[Nd.shaped,<-L,if_true,zE,zU]at c1;exact c1.2.1.1
 simp only[c1,qJ,if_true]at f;obtain⟨H5,e5,I⟩:=where_ok D n hn y.ok (key:=key) (i0.prs y) s0;have m:=y.trans I;have M:=I.get y.ok t;have b3:=Nd.whereN_le i key;have a0:=h1.row.lnSl;obtain⟨Hs,es,Ps,ss,ls⟩:=Z I (l:=[.bool false, .nS, .nS, .nS]) rfl rfl;have q1 {j:AH} (p:Prs H j):Grow 1 9 j ks i.keys.length (i.keys.map S):=h1.mono p (fun _ _ x=>x);have q2 {j:AH} (p:Prs H j):Grow 1 9 j vs i.vals.length (i.vals.map S):=h2.mono p (fun _ _ x=>x);by_cases a1:whereN i key<i.keys.length
 case neg=>
  have J:hereN i key=false:=by simp only[hereN,a1,decide_false,Bool.false_and]
  have K:(i.keys.length:Int)<=((whereN i key:Nat):Int):=by omega
  simp only[J,zL,qD]at f;subst f;refine⟨.agg [.bool false, .nS, .nS, .nS],Hs, ?_,Ps,jP _ _⟩;simp(maxSteps:=999999)(disch:=omega) only[f48,eZ,b1,b2,ldN_get z,sub4,zY,G,c1,ld1_get t,ldN_get t,e5,ld1_get M,a0,K,bldN0,es,ls]
 case pos=>
 obtain⟨q,j1,j2⟩:=(q1 m).row |> (fun(r:Strs H5 ks i.keys)=>r.at a1);rw[<-getD_lt (d:=[])]at j2;have K: ¬(i.keys.length:Int)<=((whereN i key:Nat):Int):=by omega
 by_cases N:i.keys.getD (whereN i key) []=key
 case neg=>
  have J:hereN i key=false:=by simp only[hereN,N,decide_false,Bool.and_false]
  simp only[J,zL,qD]at f;subst f;refine⟨.agg [.bool false, .nS, .nS, .nS],Hs, ?_,Ps,jP _ _⟩;simp(maxSteps:=999999)(disch:=omega) only[f48,eZ,b1,b2,ldN_get z,sub4,zY,G,c1,ld1_get t,ldN_get t,e5,ld1_get M,a0,K,j1,j2,ne_eq,N,jA,bldN0,es,ls]
 case pos=>
 have J:hereN i key=true:=by simp only[hereN,N,decide_true,Bool.and_true,zU];exact a1
 simp only[J,if_true]at f;subst f;generalize hw:whereN i key=v at*
 obtain⟨r1,a5,x1⟩:=hi1 (q1 m) (i:=v) (by omega);obtain⟨r2,a2,x2⟩:=lo1 (q1 m) (i:=v+1) (by omega) (by omega);obtain⟨r3,a6,x3⟩:=hi1 (q2 m) (i:=v) (by omega);obtain⟨r4,a3,x4⟩:=lo1 (q2 m) (i:=v+1) (by omega) (by omega);obtain⟨H6,A6,b6,p6,g6,m6,n6⟩:=box m.ok (.cells [r1,r2] 22 1 false);have V:=m.trans p6;obtain⟨H7,A7,b7,p7,g7,m7,n7⟩:=box V.ok (.cells [r3,r4] 22 1 false);have W:=V.trans p7;have O:Prs H5 H7:=p6.trans p7;obtain⟨w8,H8,e8,Y,o8,f8⟩:=conS2 D n (cc:=4) W.ok (p7.get V.ok g6) (x1.prs O) (x2.prs O) (by simp only[qA,qK];omega) (by omega);have P8:=W.trans Y;have Q:=O.trans Y;obtain⟨w9,H9,e9,p9,o9,f9⟩:=conS2 D n (cc:=4) P8.ok (Y.get W.ok g7) (x3.prs Q) (x4.prs Q) (by simp only[qA,qK];omega) (by omega);have a7:=Q.trans p9;obtain⟨o,ey,Py,sy,ly⟩:=Z (I.trans a7) (l:=[.bool true,w8,w9, .nS]) rfl (by simp only[allCells,o8.row.isCell,o9.row.isCell];rfl);have N7:=O.next;have N5:=I.next;have N4:=U.next;have N8:=Y.next
 simp only[y7]at a2 a3;have up {j:AH} (p:Prs H5 j):=jY p m.ok M;refine⟨.agg [.bool true,w8,w9, .nS],o, ?_,Py, ?_⟩
 .simp(maxSteps:=999999)(disch:=omega) only[f48,eZ,b1,b2,ldN_get z,sub4,zY,G,c1,ld1_get t,ldN_get t,e5,ld1_get M,a0,K,j1,j2,ne_eq,N,not_true_eq_false,a5,a2,row2 22 .nS x1.isCell x2.isCell rfl,b6,ld1_get (up p6),slSl_same (q2 m) (q2 V) (by decide),a6,a3,row2 22 .nS x3.isCell x4.isCell rfl,b7,e8,
   chk_ok (ld1_get (up Q) 2) (aveq_row h2.row),slSl_same (q2 m) (q2 P8) (by decide),chk_ok rfl (aveq_row x3),chk_ok rfl (aveq_row x4),e9,bldN3 _ o8.row.isCell o9.row.isCell,ey,ly]
 .simp only[if_true,delN,hw];have NN:=W.next
  exact⟨⟨w8,w9, .nS,rfl, .inl ((o8.mono p9 (fun _ _ x=>x)).mono sy (fun B C e=>by have:=f8 B C;omega)), .inl (o9.mono sy (fun B C e=>by have:=f9 B C;omega)), .inl (kB ..)⟩,fun B C=>by
   rcases blkN_mk.1 C with h | h | h
   .have:=f8 B h;omega
   .have:=f9 B h;omega
   .exact(jZ.1 h).elim⟩
end Go.Eng.Sh
end
section
namespace Go.Bt
open Go.Nd (Str Kvs lookP putP delP Srt leafOf mayK rising sumL)
open Go.Eng (ltS ltS_irrefl ltS_trans ltS_tri ltS_asymm ltS_ne)
abbrev Bd:=Option Str
def lowB:Bd->Str->Prop
 | none,_=>True
 | some a,k=>a=k\/ltS a k=true
def lowS:Bd->Str->Prop
 | none,_=>True
 | some a,k=>ltS a k=true
def hiB:Bd->Str->Prop
 | none,_=>True
 | some b,k=>ltS k b=true
theorem lowS.low {b:Bd}{k:Str}(h:lowS b k):lowB b k:=by
 cases b with
 | none=>trivial
 | some a=>exact .inr h
theorem lt_of_le {a b c:Str}(h:a=b\/ltS a b=true)(k:ltS b c=true):ltS a c=true:=by
 rcases h with rfl | h
 .exact k
 .exact ltS_trans h k
theorem lt_of_lt_le {a b c:Str}(h:ltS a b=true)(k:b=c\/ltS b c=true):ltS a c=true:=by
 rcases k with rfl | k
 .exact h
 .exact ltS_trans h k
theorem le_trans {a b c:Str}(h:a=b\/ltS a b=true)(k:b=c\/ltS b c=true):a=c\/ltS a c=true:=by
 rcases k with rfl | k
 .exact h
 .exact .inr (lt_of_le h k)
theorem not_lt {a b:Str}(h: ¬ltS a b=true):b=a\/ltS b a=true:=by
 cases k:ltS b a with
 | true=>exact .inr rfl
 | false=>exact .inl (ltS_tri k (by simpa using h))
theorem lowB_lt {b:Bd}{k x:Str}(h:lowB b k)(f:ltS k x=true):lowS b x:=by
 cases b with
 | none=>trivial
 | some a=>exact lt_of_le h f
theorem lowS_le {b:Bd}{k x:Str}(h:lowS b k)(f:k=x\/ltS k x=true):lowS b x:=by
 cases b with
 | none=>trivial
 | some a=>exact lt_of_lt_le h f
theorem hiB_le {b:Bd}{k x:Str}(h:hiB b k)(f:x=k\/ltS x k=true):hiB b x:=by
 cases b with
 | none=>trivial
 | some a=>exact lt_of_le f h
def Tr:Nat->Type
 | 0=>Kvs
 | h+1=>List Str×List (Tr h)
def con:(h:Nat)->Tr h->Kvs
 | 0,l=>l
 | h+1,t=>t.2.flatMap (con h)
def KB {α:Type}(W:Bd->Bd->α->Prop):Bd->List Str->List α->Bd->Prop
 | lo,[],[t],hi=>W lo hi t
 | lo,k::ks,t::ts,hi=>W lo (some k) t/\KB W (some k) ks ts hi
 | _,_,_,_=>False
def loAt (lo:Bd)(ks:List Str):Nat->Bd
 | 0=>lo
 | i+1=>ks[i]?
def hiAt (ks:List Str)(hi:Bd)(i:Nat):Bd:=match ks[i]? with
 | some k=>some k
 | none=>hi
theorem loAt_cons (lo:Bd)(k:Str)(ks:List Str)(i:Nat):loAt lo (k::ks) (i+1)=loAt (some k) ks i:=by cases i<;>rfl
theorem hiAt_cons (hi:Bd)(k:Str)(ks:List Str)(i:Nat):hiAt (k::ks) hi (i+1)=hiAt ks hi i:=rfl
theorem KB.len {α:Type}{W:Bd->Bd->α->Prop} : ∀ {ks:List Str} {ts:List α} {lo hi:Bd},KB W lo ks ts hi->ts.length=ks.length+1
 | [],[],_,_,h=>h.elim
 | [],[_],_,_,_=>rfl
 | [],_::_::_,_,_,h=>h.elim
 | _::_,[],_,_,h=>h.elim
 | _::ks,_::ts,_,_,h=>by simp[KB.len h.2]
theorem KB.at {α:Type}{W:Bd->Bd->α->Prop} : ∀ {ks:List Str} {ts:List α} {lo hi:Bd} {i:Nat} {t:α},KB W lo ks ts hi->ts[i]? =some t->W (loAt lo ks i) (hiAt ks hi i) t
 | [],[],_,_,_,_,h,_=>h.elim
 | [],[a],_,_,0,t,h,ht=>by simp at ht;subst ht;exact h
 | [],[a],_,_,i+1,t,h,ht=>by simp at ht
 | [],_::_::_,_,_,_,_,h,_=>h.elim
 | _::_,[],_,_,_,_,h,_=>h.elim
 | k::ks,a::ts,_,_,0,t,h,ht=>by simp at ht;subst ht;exact h.1
 | k::ks,a::ts,_,_,i+1,t,h,ht=>by
  simp only[yY]at ht;rw[loAt_cons,hiAt_cons];exact KB.at h.2 ht
theorem KB.mono {α:Type}{W f:Bd->Bd->α->Prop}(a: ∀lo hi t,W lo hi t->f lo hi t): ∀ {ks:List Str} {ts:List α} {lo hi:Bd},KB W lo ks ts hi->KB f lo ks ts hi
 | [],[],_,_,h=>h.elim
 | [],[_],_,_,h=>a _ _ _ h
 | [],_::_::_,_,_,h=>h.elim
 | _::_,[],_,_,h=>h.elim
 | _::ks,_::ts,_,_,h=>⟨a _ _ _ h.1,KB.mono a h.2⟩
theorem KB.app {α:Type}{W:Bd->Bd->α->Prop}{k:Str}{a:List Str}{f:List α}{hi:Bd}(i:KB W (some k) a f hi): ∀ {ks:List Str} {ts:List α} {lo:Bd},KB W lo ks ts (some k)->KB W lo (ks++(k::a)) (ts++f) hi
 | [],[],_,h=>h.elim
 | [],[_],_,h=>⟨h,i⟩
 | [],_::_::_,_,h=>h.elim
 | _::_,[],_,h=>h.elim
 | _::ks,_::ts,_,h=>⟨h.1,KB.app i h.2⟩
theorem KB.drop {α:Type}{W:Bd->Bd->α->Prop} : ∀ {ks:List Str} {ts:List α} {lo hi:Bd} {m:Nat} {k:Str},KB W lo ks ts hi->ks[m]? =some k->KB W (some k) (ks.drop (m+1)) (ts.drop (m+1)) hi
 | [],_,_,_,_,_,_,hk=>by simp at hk
 | _::_,[],_,_,_,_,h,_=>h.elim
 | a::ks,t::ts,_,_,0,k,h,hk=>by simp at hk;subst hk;exact h.2
 | a::ks,t::ts,_,_,m+1,k,h,hk=>by
  simp only[yY]at hk;have:=KB.drop (m:=m) h.2 hk;exact this
theorem KB.take {α:Type}{W:Bd->Bd->α->Prop} : ∀ {ks:List Str} {ts:List α} {lo hi:Bd} {m:Nat} {k:Str},KB W lo ks ts hi->ks[m]? =some k->KB W lo (ks.take m) (ts.take (m+1)) (some k)
 | [],_,_,_,_,_,_,hk=>by simp at hk
 | _::_,[],_,_,_,_,h,_=>h.elim
 | a::ks,t::ts,_,_,0,k,h,hk=>by simp at hk;subst hk;exact h.1
 | a::ks,t::ts,_,_,m+1,k,h,hk=>by
  simp only[yY]at hk;exact⟨h.1,KB.take h.2 hk⟩
theorem KB.head {α:Type}{W:Bd->Bd->α->Prop}{ks:List Str}{ts:List α}{j hi:Bd}{m:Nat}(h:KB W j ks ts hi)(hm:m<ts.length): ∀ {f:List Str} {i:List α} {lo:Bd},KB W lo f i (hiAt ks hi m)->KB W lo (f++ks.drop m) (i++ts.drop (m+1)) hi
 | [],[],_,h=>h.elim
 | [],[p],lo,hp=>by
  have hl:=h.len;simp only[hiAt]at hp
  cases a:ks[m]? with
  | none=>
   rw[a]at hp;have:ks.length<=m:=by simpa using a
   rw[qQ this,qQ (by omega)];exact hp
  | some k=>
   rw[a]at hp;obtain⟨o,rfl⟩:=qN.1 a;rw[qL o];exact⟨hp,h.drop a⟩
 | [],_::_::_,_,h=>h.elim
 | _::_,[],_,h=>h.elim
 | _::f,_::i,_,hp=>⟨hp.1,KB.head h hm hp.2⟩
theorem KB.splice {α:Type}{W:Bd->Bd->α->Prop}{a:List Str}{f:List α} : ∀ {ks:List Str} {ts:List α} {lo hi:Bd} {i m:Nat},KB W lo ks ts hi->i+m<ts.length->KB W (loAt lo ks i) a f (hiAt ks hi (i+m))->KB W lo (ks.take i++a++ks.drop (i+m)) (ts.take i++f++ts.drop (i+m+1)) hi
 | ks,ts,lo,hi,0,m,h,hm,hp=>by
  simp only[yU,List.take_zero,qV]at hm hp⊢;exact KB.head h hm (lo:=lo) hp
 | [],ts,_,_,i+1,m,h,hm,_=>by have:=h.len;simp only[yI]at this;omega
 | _::_,[],_,_,_+1,_,h,_,_=>h.elim
 | k::ks,t::ts,lo,hi,i+1,m,h,hm,hp=>by
  have e:i+1+m=i+m+1:=by omega
  rw[e,loAt_cons,hiAt_cons]at hp;rw[e];simp only[zV]at hm;have:=KB.splice (i:=i) (m:=m) h.2 (by omega) hp;simp only[List.take_succ_cons,List.drop_succ_cons,qB];exact⟨h.1,this⟩
def Lf (lo hi:Bd)(l:Kvs):Prop:=Srt l/\ ∀p∈l,lowB lo p.1/\hiB hi p.1/\mayK p.1=true/\p.2.length<=200
def lsize (l:Kvs):Nat:=Nd.size (leafOf l)
def isize (ks:List Str)(n:Nat):Nat:=2+16*n+sumL ks
def Inn {α:Type}(W:Bd->Bd->α->Prop)(lo hi:Bd)(t:List Str×List α):Prop:=(∀k∈t.1,mayK k=true/\lowS lo k/\hiB hi k)/\rising ltS t.1=true/\KB W lo t.1 t.2 hi
def tsize:(h:Nat)->Tr h->Nat
 | 0,l=>lsize l
 | _+1,t=>isize t.1 t.2.length
def WF:(h:Nat)->Bd->Bd->Tr h->Prop
 | 0,lo,hi,l=>Lf lo hi l/\l≠[]/\lsize l<=500
 | h+1,lo,hi,t=>Inn (WF h) lo hi t/\t.1≠[]/\160<=isize t.1 t.2.length/\isize t.1 t.2.length<=500
def WR:(h:Nat)->Tr h->Prop
 | 0,l=>Lf none none l/\l≠[]/\lsize l<=500
 | h+1,t=>Inn (WF h) none none t/\t.1≠[]/\isize t.1 t.2.length<=500
def WX:(h:Nat)->Bd->Bd->Tr h->Prop
 | 0,lo,hi,l=>Lf lo hi l/\lsize l<=785
 | h+1,lo,hi,t=>Inn (WF h) lo hi t/\isize t.1 t.2.length<=785
theorem con_kb {h:Nat}(a: ∀ {lo hi:Bd} {t:Tr h},WF h lo hi t-> ∀p∈con h t,lowB lo p.1/\hiB hi p.1): ∀ {ks:List Str} {ts:List (Tr h)} {lo hi:Bd},KB (WF h) lo ks ts hi->rising ltS ks=true->(∀k∈ks,lowS lo k/\hiB hi k)-> ∀p∈ts.flatMap (con h),lowB lo p.1/\hiB hi p.1
 | [],[],_,_,h,_,_=>h.elim
 | [],[t],lo,hi,hk,_,_=>fun p hp=>by
  simp only[yR,List.flatMap_nil,qG]at hp;exact a hk p hp
 | [],_::_::_,_,_,h,_,_=>h.elim
 | _::_,[],_,_,h,_,_=>h.elim
 | k::ks,t::ts,lo,hi,hk,hr,hb=>fun p hp=>by
  have f:=hb k (zH ..);rw[Nd.rising_cons]at hr;simp only[yR,zZ]at hp;rcases hp with hp | hp
  .have:=a hk.1 p hp;exact⟨this.1,hiB_le f.2 (.inr this.2)⟩
  .have:=con_kb a hk.2 hr.2 (fun x i=>⟨hr.1 x i,(hb x (zC _ i)).2⟩) p hp;exact⟨(lowS_le f.1 this.1).low,this.2⟩
theorem con_bd: ∀(h:Nat) {lo hi:Bd} {t:Tr h},WF h lo hi t-> ∀p∈con h t,lowB lo p.1/\hiB hi p.1
 | 0,lo,hi,l,hw,p,hp=>⟨(hw.1.2 p hp).1,(hw.1.2 p hp).2.1⟩
 | h+1,lo,hi,t,hw,p,hp=>con_kb (con_bd h) hw.1.2.2 hw.1.2.1 (fun k a=>(hw.1.1 k a).2) p hp
theorem srt_app {a b:Kvs}(i:Srt a)(hb:Srt b)(h: ∀p∈a,∀q∈b,ltS p.1 q.1=true):Srt (a++b):=by
 induction a with
 | nil=>exact hb
 | cons p a ih=>
  obtain⟨k,v⟩:=p;refine⟨fun q f=> ?_,ih i.2 fun p hp=>h p (zC _ hp)⟩;rcases zZ.1 f with f | f
  .exact i.1 q f
  .exact h _ (zH ..) q f
theorem srt_kb {h:Nat}(a: ∀ {lo hi:Bd} {t:Tr h},WF h lo hi t->Srt (con h t)): ∀ {ks:List Str} {ts:List (Tr h)} {lo hi:Bd},KB (WF h) lo ks ts hi->rising ltS ks=true->(∀k∈ks,lowS lo k/\hiB hi k)->Srt (ts.flatMap (con h))
 | [],[],_,_,h,_,_=>h.elim
 | [],[t],lo,hi,hk,_,_=>by
  simp only[yR,List.flatMap_nil,qG];exact a hk
 | [],_::_::_,_,_,h,_,_=>h.elim
 | _::_,[],_,_,h,_,_=>h.elim
 | k::ks,t::ts,lo,hi,hk,hr,hb=>by
  rw[Nd.rising_cons]at hr;have f: ∀x∈ks,lowS (some k) x/\hiB hi x:=fun x i=>⟨hr.1 x i,(hb x (zC _ i)).2⟩
  simp only[yR];refine srt_app (a hk.1) (srt_kb a hk.2 hr.2 f) fun p hp q j=> ?_
  exact lt_of_lt_le (con_bd h hk.1 p hp).2 (con_kb (con_bd h) hk.2 hr.2 f q j).1
theorem con_srt: ∀(h:Nat) {lo hi:Bd} {t:Tr h},WF h lo hi t->Srt (con h t)
 | 0,_,_,_,hw=>hw.1.1
 | h+1,_,_,_,hw=>srt_kb (con_srt h) hw.1.2.2 hw.1.2.1 (fun k a=>(hw.1.1 k a).2)
theorem inn_srt {lo hi:Bd}{t:List Str×List (Tr h)}(a:Inn (WF h) lo hi t):Srt (t.2.flatMap (con h)):=
 srt_kb (con_srt h) a.2.2 a.2.1 (fun k f=>(a.1 k f).2)
theorem wr_srt {t:Tr h}(a:WR h t):Srt (con h t):=by
 cases h with
 | zero=>exact a.1.1
 | succ h=>exact inn_srt a.1
theorem con_ok {lo hi:Bd}{t:Tr h}(a:WF h lo hi t): ∀p∈con h t,mayK p.1=true/\p.2.length<=200:=by
 induction h generalizing lo hi with
 | zero=>exact fun p hp=>(a.1.2 p hp).2.2
 | succ h ih=>
  intro p hp;obtain⟨t0,f,hp⟩:=List.mem_flatMap.1 hp;obtain⟨i,j,rfl⟩:=List.mem_iff_getElem.1 f;exact ih (KB.at a.1.2.2 (zO j)) p hp
theorem put_mid {k v:Str}{A C B:Kvs}(f: ∀p∈A,ltS p.1 k=true)(i: ∀p∈B,ltS k p.1=true):putP k v (A++C++B)=A++putP k v C++B:=by
 induction A with
 | nil=>
  simp only[qV]
  induction C with
  | nil=>
   cases B with
   | nil=>rfl
   | cons b B=>
    obtain⟨b,w⟩:=b;have h:=i (b,w) (zH ..);simp only[qV,putP,qB];rw[if_neg (fun e=>ltS_ne h e.symm),if_neg (by rw[ltS_asymm h];simp)]
  | cons c C ih=>
   obtain⟨c,w⟩:=c;simp only[qB,putP];split
   .rfl
   .split
    .rw[ih];rfl
    .rfl
 | cons a A ih=>
  obtain⟨a,w⟩:=a;have h:=f (a,w) (zH ..);simp only[qB,putP];rw[if_neg (ltS_ne h),if_pos h,ih (fun p hp=>f p (zC _ hp))]
theorem look_app {k:Str}{A B:Kvs} :lookP k (A++B)=match lookP k A with | some v=>some v | none=>lookP k B:=by
 induction A with
 | nil=>rfl
 | cons a A ih=>
  obtain⟨a,w⟩:=a;simp only[qB,lookP];split
  .rfl
  .exact ih
theorem look_mid {k:Str}{A C B:Kvs}(a: ∀p∈A,ltS p.1 k=true)(f: ∀p∈B,ltS k p.1=true):lookP k (A++C++B)=lookP k C:=by
 rw[look_app,look_app,Nd.look_none (l:=A) (fun p hp=>ltS_ne (a p hp)),Nd.look_none (l:=B) (fun p hp e=>ltS_ne (f p hp) e.symm)]
 cases lookP k C<;>rfl
theorem del_none {k:Str}{l:Kvs}(h: ∀p∈l,p.1≠k):delP k l=l:=by
 induction l with
 | nil=>rfl
 | cons a l ih=>
  obtain⟨a,w⟩:=a;rw[delP,if_neg (h (a,w) (zH ..)),ih fun p hp=>h p (zC _ hp)]
theorem del_mid {k:Str}{A C B:Kvs}(f: ∀p∈A,ltS p.1 k=true)(i: ∀p∈B,ltS k p.1=true):delP k (A++C++B)=A++delP k C++B:=by
 induction A with
 | nil=>
  simp only[qV]
  induction C with
  | nil=>exact del_none fun p hp e=>ltS_ne (i p hp) e.symm
  | cons c C ih=>
   obtain⟨c,w⟩:=c;simp only[qB,delP];split
   .rfl
   .rw[ih];rfl
 | cons a A ih=>
  obtain⟨a,w⟩:=a;have h:=f (a,w) (zH ..);simp only[qB,delP];rw[if_neg (ltS_ne h),ih (fun p hp=>f p (zC _ hp))]
def whereI (ks:List Str)(key:Str):Nat:=(ks.filter fun k=>ltS k key||decide (k=key)).length
theorem whereI_le (ks:List Str)(key:Str):whereI ks key<=ks.length:=List.length_filter_le _ _
theorem whereI_cons {a key:Str}{ks:List Str}(h:rising ltS (a::ks)=true):whereI (a::ks) key=if ltS key a=true then 0 else whereI ks key+1:=by
 rw[Nd.rising_cons]at h;by_cases f:ltS key a=true
 .rw[if_pos f,whereI,List.length_eq_zero_iff,List.filter_eq_nil_iff];intro x m i;have j:ltS key x=true:=by
   rcases zM.1 m with rfl | m
   .exact f
   .exact ltS_trans f (h.1 x m)
  simp only[yW,zU]at i;rcases i with i | rfl
  .rw[ltS_asymm i]at j;cases j
  .rw[ltS_irrefl]at j;cases j
 .rw[if_neg f,whereI,List.filter_cons];have:(ltS a key||decide (a=key))=true:=by
   simp only[yW,zU];rcases not_lt f with e | e
   .exact .inr e
   .exact .inl e
  rw[this];rfl
theorem where_lo {key:Str} : ∀ {ks:List Str} {lo:Bd},rising ltS ks=true->lowB lo key->lowB (loAt lo ks (whereI ks key)) key
 | [],_,_,h=>h
 | a::ks,lo,hr,h=>by
  rw[whereI_cons hr];by_cases f:ltS key a=true
  .rw[if_pos f];exact h
  .rw[if_neg f,loAt_cons];rw[Nd.rising_cons]at hr;exact where_lo hr.2 (not_lt f)
theorem where_hi {key:Str} : ∀ {ks:List Str} {hi:Bd},rising ltS ks=true->hiB hi key->hiB (hiAt ks hi (whereI ks key)) key
 | [],_,_,h=>h
 | a::ks,hi,hr,h=>by
  rw[whereI_cons hr];by_cases f:ltS key a=true
  .rw[if_pos f];exact f
  .rw[if_neg f,hiAt_cons];rw[Nd.rising_cons]at hr;exact where_hi hr.2 h
theorem where_sides {lo hi:Bd}{key:Str}{ks:List Str}{ts:List (Tr h)}(o:Inn (WF h) lo hi (ks,ts)):
  (∀p∈(ts.take (whereI ks key)).flatMap (con h),ltS p.1 key=true)/\ ∀p∈(ts.drop (whereI ks key+1)).flatMap (con h),ltS key p.1=true:=by
 obtain⟨q,f,h3⟩:=o;simp only at q f h3;have t:=whereI_le ks key;have y:=h3.len;constructor
 .have hl:=where_lo (lo:=none) f (key:=key) trivial
  cases o:whereI ks key with
  | zero=>intro p hp;simp at hp
  | succ w=>
   rw[o]at hl t;have m:w<ks.length:=by omega
   simp only[loAt,zO m]at hl;have i:=h3.take (zO m);have hr:rising ltS (ks.take w)=true:=Nd.rising_take f w;intro p hp;have hm: ∀x∈ks.take w,ltS x ks[w]=true:=fun x a=>by
    obtain⟨j,v,rfl⟩:=List.mem_iff_getElem.1 a;simp only[qA]at v;rw[List.getElem_take];have hd:=Nd.rising_drop f j;rw[qL (by omega),Nd.rising_cons]at hd;refine hd.1 _ ?_;rw[List.mem_iff_getElem];exact⟨w - (j+1),by simp;omega,by rw[List.getElem_drop];congr 1;omega⟩
   have:=con_kb (con_bd h) i hr (fun x a=>⟨(q x (List.mem_of_mem_take a)).2.1,hm x a⟩) p hp;exact lt_of_lt_le this.2 hl
 .have s:=where_hi (hi:=none) f (key:=key) trivial;intro p hp
  cases i:ks[whereI ks key]? with
  | none=>
   have:ks.length<=whereI ks key:=by simpa using i
   rw[qQ (by omega)]at hp;simp at hp
  | some k=>
   simp only[hiAt,i]at s;obtain⟨m,rfl⟩:=qN.1 i;have u:=h3.drop i;have hd:=Nd.rising_drop f (whereI ks key);rw[qL m,Nd.rising_cons]at hd;have:=con_kb (con_bd h) u hd.2 (fun x a=>⟨hd.1 x a,(q x (List.mem_of_mem_drop a)).2.2⟩) p hp;exact lt_of_lt_le s this.1
theorem split_at {α:Type}{ts:List α}{t:α}(i:ts[h]? =some t):ts=ts.take h++[t]++ts.drop (h+1):=by
 obtain⟨hi,rfl⟩:=qN.1 i;rw[qC,List.singleton_append,<-qL hi,qR]
theorem rising_app {a b:List Str} :rising ltS (a++b)=true↔rising ltS a=true/\rising ltS b=true/\ ∀x∈a,∀y∈b,ltS x y=true:=by
 induction a with
 | nil=>simp[rising]
 | cons c a ih=>
  rw[qB,Nd.rising_cons,Nd.rising_cons,ih];simp only[zZ,zM];constructor
  .rintro⟨h1,h2,h3,h4⟩
   refine⟨⟨fun x f=>h1 x (.inl f),h2⟩,h3,fun x f y h=> ?_⟩;rcases f with rfl | f
   .exact h1 y (.inr h)
   .exact h4 x f y h
  .rintro⟨⟨h1,h2⟩,h3,h4⟩
   exact⟨fun x f=>f.elim (h1 x) (h4 c (.inl rfl) x),h2,h3,fun x f y h=>h4 x (.inr f) y h⟩
theorem Inn.splice {α:Type}{W:Bd->Bd->α->Prop}{lo hi:Bd}{ks F:List Str}{ts I:List α}{i m:Nat}(h:Inn W lo hi (ks,ts))(hm:i+m<ts.length)(hp:Inn W (loAt lo ks i) (hiAt ks hi (i+m)) (F,I)):
  Inn W lo hi (ks.take i++F++ks.drop (i+m),ts.take i++I++ts.drop (i+m+1)):=by
 obtain⟨C,u,h3⟩:=h;obtain⟨v,J,K⟩:=hp;simp only at C u h3 v J K;have S:=h3.len;have L: ∀x∈ks.take i,∀y∈F,ltS x y=true:=fun x a y G=>by
  have t:=(v y G).2.1
  cases i with
  | zero=>simp at a
  | succ j=>
   have f:j<ks.length:=by omega
   simp only[loAt,zO f]at t;rw[qH f,zZ,y8]at a;rcases a with a | rfl
   .have:=Nd.rising_take u (j+1);rw[qH f,rising_app]at this;exact ltS_trans (this.2.2 x a _ (List.mem_singleton_self _)) t
   .exact t
 have M: ∀y∈F,∀z∈ks.drop (i+m),ltS y z=true:=fun y G z o=>by
  have t:=(v y G).2.2;by_cases f:i+m<ks.length
  .simp only[hiAt,zO f]at t;have hd:=Nd.rising_drop u (i+m);rw[qL f]at o hd;rw[Nd.rising_cons]at hd;rcases zM.1 o with rfl | o
   .exact t
   .exact ltS_trans t (hd.1 z o)
  .rw[qQ (by omega)]at o;simp at o
 have N: ∀x∈ks.take i,∀z∈ks.drop (i+m),ltS x z=true:=fun x a z o=>by
  have:ks=ks.take (i+m)++ks.drop (i+m):=(qR _ _).symm;rw[this,rising_app]at u;refine u.2.2 x ?_ z o;have:ks.take i=(ks.take (i+m)).take i:=by rw[List.take_take,Nat.min_eq_left (by omega)]
  rw[this]at a;exact List.mem_of_mem_take a
 have O: ∀s,lowS (loAt lo ks i) s->lowS lo s:=fun s q=>by
  cases i with
  | zero=>exact q
  | succ j=>
   have f:j<ks.length:=by omega
   simp only[loAt,zO f]at q;exact lowS_le (C _ (yH f)).2.1 (.inr q)
 have Q: ∀s,hiB (hiAt ks hi (i+m)) s->hiB hi s:=fun s q=>by
  by_cases f:i+m<ks.length
  .simp only[hiAt,zO f]at q;exact hiB_le (C _ (yH f)).2.2 (.inr q)
  .simp only[hiAt,List.getElem?_eq_none (show ks.length<=i+m by omega)]at q;exact q
 refine⟨fun k p=> ?_, ?_,KB.splice h3 hm K⟩
 .simp only[zZ]at p;rcases p with(p | p) | p
  .exact C k (List.mem_of_mem_take p)
  .exact⟨(v k p).1,O k (v k p).2.1,Q k (v k p).2.2⟩
  .exact C k (List.mem_of_mem_drop p)
 .rw[rising_app,rising_app];refine⟨⟨Nd.rising_take u i,J,L⟩,Nd.rising_drop u _,fun x a z o=> ?_⟩;rcases zZ.1 a with a | a
  .exact N x a z o
  .exact M x a z o
def Gen:(h:Nat)->Bd->Bd->Tr h->Prop
 | 0,lo,hi,l=>Lf lo hi l
 | h+1,lo,hi,t=>Inn (WF h) lo hi t
def Full:(h:Nat)->Tr h->Prop
 | 0,l=>l≠[]
 | _+1,t=>160<=isize t.1 t.2.length
theorem WF.gen: ∀ {h:Nat} {lo hi:Bd} {t:Tr h},WF h lo hi t->Gen h lo hi t
 | 0,_,_,_,w=>w.1
 | _+1,_,_,_,w=>w.1
theorem WX.gen: ∀ {h:Nat} {lo hi:Bd} {t:Tr h},WX h lo hi t->Gen h lo hi t
 | 0,_,_,_,w=>w.1
 | _+1,_,_,_,w=>w.1
theorem WF.full: ∀ {h:Nat} {lo hi:Bd} {t:Tr h},WF h lo hi t->Full h t
 | 0,_,_,_,w=>w.2.1
 | _+1,_,_,_,w=>w.2.2.1
theorem WF.sz: ∀ {h:Nat} {lo hi:Bd} {t:Tr h},WF h lo hi t->tsize h t<=500
 | 0,_,_,_,w=>w.2.2
 | _+1,_,_,_,w=>w.2.2.2
theorem WX.sz: ∀ {h:Nat} {lo hi:Bd} {t:Tr h},WX h lo hi t->tsize h t<=785
 | 0,_,_,_,w=>w.2
 | _+1,_,_,_,w=>w.2
theorem Gen.wx: ∀ {h:Nat} {lo hi:Bd} {t:Tr h},Gen h lo hi t->tsize h t<=785->WX h lo hi t
 | 0,_,_,_,w,s=>⟨w,s⟩
 | _+1,_,_,_,w,s=>⟨w,s⟩
theorem Gen.wf: ∀ {h:Nat} {lo hi:Bd} {t:Tr h},Gen h lo hi t->Full h t->tsize h t<=500->WF h lo hi t
 | 0,_,_,_,w,f,s=>⟨w,f,s⟩
 | h+1,_,_,t,w,f,s=>⟨w,fun e=>by
  have hl:=w.2.2.len;have a:160<=isize t.1 t.2.length:=f;rw[hl,e]at a;simp[isize,sumL]at a,f,s⟩
def joinT:(h:Nat)->Tr h->Str->Tr h->Tr h
 | 0,a,_,b=>List.append a b
 | _+1,a,s,b=>(a.1++([s]++b.1),a.2++b.2)
theorem con_join: ∀(h:Nat) (a:Tr h) (s:Str) (b:Tr h),con h (joinT h a s b)=con h a++con h b
 | 0,_,_,_=>rfl
 | h+1,a,s,b=>by simp[con,joinT]
theorem lsize_app (a b:Kvs):lsize (a++b)+2=lsize a+lsize b:=by
 simp only[lsize,leafOf,Nd.size,List.map_append,Nd.sumL_append,yI];omega
theorem sumL_nil:sumL []=0:=rfl
theorem join_size (h:Nat)(a:Tr h)(s:Str)(b:Tr h)(f:s.length<=40):tsize h (joinT h a s b)<=tsize h a+tsize h b+39/\tsize h b<=tsize h (joinT h a s b)/\tsize h a<=tsize h (joinT h a s b):=by
 cases h with
 | zero=>
  have key: ∀a b:Kvs,lsize (a++b)<=lsize a+lsize b+39/\lsize b<=lsize (a++b)/\lsize a<=lsize (a++b):=fun a b=>by
   have:=lsize_app a b;have i:2<=lsize a:=by simp only[lsize,Nd.size];omega
   have j:2<=lsize b:=by simp only[lsize,Nd.size];omega
   omega
  exact key a b
 | succ h=>
  simp only[tsize,joinT,isize,zT,Nd.sumL_append,Nd.sumL_cons,sumL_nil];omega
theorem join_gen {lo hi:Bd}{s:Str}{a b:Tr h}(u:Gen h lo (some s) a)(hb:Gen h (some s) hi b)(m:mayK s=true/\lowS lo s/\hiB hi s):Gen h lo hi (joinT h a s b):=by
 cases h with
 | zero=>
  obtain⟨i,j⟩:=u;obtain⟨b1,b2⟩:=hb;refine⟨srt_app i b1 fun p hp q v=>lt_of_lt_le (j p hp).2.1 (b2 q v).1,fun p hp=> ?_⟩;rcases zZ.1 hp with hp | hp
  .exact⟨(j p hp).1,hiB_le m.2.2 (.inr (j p hp).2.1),(j p hp).2.2⟩
  .exact⟨(lowS_le m.2.1 (b2 p hp).1).low,(b2 p hp).2.1,(b2 p hp).2.2⟩
 | succ h=>
  obtain⟨i,j,z⟩:=u;obtain⟨b1,b2,C⟩:=hb;refine⟨fun k f=> ?_, ?_,KB.app C z⟩
  .simp only[joinT,zZ,y8]at f;rcases f with f | rfl | f
   .exact⟨(i k f).1,(i k f).2.1,hiB_le m.2.2 (.inr (i k f).2.2)⟩
   .exact m
   .exact⟨(b1 k f).1,lowS_le m.2.1 (.inr (b1 k f).2.1),(b1 k f).2.2⟩
  .simp only[joinT];rw[rising_app,List.singleton_append,Nd.rising_cons];refine⟨j,⟨fun x o=>(b1 x o).2.1,b2⟩,fun x o y t=> ?_⟩;rcases zM.1 t with rfl | t
   .exact(i x o).2.2
   .exact ltS_trans (i x o).2.2 (b1 y t).2.1
theorem srt_app_iff {a b:Kvs} :Srt (a++b)↔Srt a/\Srt b/\ ∀p∈a,∀q∈b,ltS p.1 q.1=true:=by
 induction a with
 | nil=>simp[Srt]
 | cons c a ih=>
  obtain⟨c,w⟩:=c;rw[qB,Srt,Srt,ih];simp only[zZ,zM];constructor
  .rintro⟨h1,h2,h3,h4⟩
   refine⟨⟨fun x f=>h1 x (.inl f),h2⟩,h3,fun x f y h=> ?_⟩;rcases f with rfl | f
   .exact h1 y (.inr h)
   .exact h4 x f y h
  .rintro⟨⟨h1,h2⟩,h3,h4⟩
   exact⟨fun x f=>f.elim (h1 x) (h4 _ (.inl rfl) x),h2,h3,fun x f y h=>h4 x (.inr f) y h⟩
def psz:(h:Nat)->Tr h->Nat->Nat
 | 0,l,k=>lsize (List.take (α:=Str×Str) k l)
 | _+1,t,k=>isize (t.1.take k) (k+1)
def nkeys:(h:Nat)->Tr h->Nat
 | 0,l=>List.length (α:=Str×Str) l
 | _+1,t=>t.1.length
def HalfT (h:Nat)(t:Tr h)(k:Nat):Prop:=
 1<=k/\k+min (h+1) 2<=nkeys h t/\(k=1\/psz h t k<=(tsize h t - 2) / 2+2)/\(k+min (h+1) 2=nkeys h t\/(tsize h t - 2) / 2+2<psz h t (k+1))
def CutT:(h:Nat)->Tr h->Tr h->Str->Tr h->Prop
 | 0,l,a,s,b=> ∃k,HalfT 0 l k/\a=List.take (α:=Str×Str) k l/\s=(List.map Prod.fst (l:Kvs)).getD k []/\b=List.drop (α:=Str×Str) k l
 | h+1,t,a,s,b=> ∃k,HalfT (h+1) t k/\a=(t.1.take k,t.2.take (k+1))/\s=t.1.getD k []/\b=(t.1.drop (k+1),t.2.drop (k+1))
theorem lsize_cons (p:Str×Str)(l:Kvs):lsize (p::l)=lsize l+(2+p.1.length+p.2.length):=by
 simp only[lsize,leafOf,Nd.size,y6,Nd.sumL_cons,yI];omega
theorem lsize_nil:lsize []=2:=rfl
theorem elem_le {p:Str×Str}(h:mayK p.1=true/\p.2.length<=200):2+p.1.length+p.2.length<=242:=by
 obtain⟨a,f⟩:=h;simp only[mayK,zE,zU]at a;omega
theorem cut_leaf {lo hi:Bd}{l a b:Kvs}{s:Str}(z:Lf lo hi l)(I:lsize l<=785)(hb:500<lsize l)(C:CutT 0 l a s b):
  Lf lo (some s) a/\Lf (some s) hi b/\(mayK s=true/\lowS lo s/\hiB hi s)/\a++b=l/\a≠[]/\b≠[]/\lsize a<=500/\lsize b<=lsize l - (lsize l - 2) / 2+241:=by
 obtain⟨k,⟨k1,k2,k3,k4⟩,rfl,rfl,rfl⟩:=C;simp only[nkeys,psz,tsize,yU,show min 1 2=1 from rfl]at k2 k3 k4;have h:k<l.length:=k2;have j:l.take k++l.drop k=l:=qR _ _;obtain⟨F,f⟩:=z;have q:=F;rw[<-j,srt_app_iff]at q;obtain⟨G,m,t⟩:=q;have hd:l.drop k=l[k]::l.drop (k+1):=qL h;have x:(l.map Prod.fst).getD k []=(l[k]).1:=by
  rw[qE,jG,zO h];rfl
 rw[x];have hm:l[k]∈l:=yH h;have o:0<l.length:=by omega
 have i:l[0]∈l.take k:=by rw[List.mem_iff_getElem];exact⟨0,by simp;omega,by simp⟩
 have u:ltS (l[0]).1 (l[k]).1=true:=t _ i _ (by rw[hd];exact zH ..);have v:=lsize_app (l.take k) (l.drop k);rw[j]at v;have J:=elem_le (f _ hm).2.2;have y:lsize (l.take (k+1))=lsize (l.take k)+(2+(l[k]).1.length+(l[k]).2.length):=by
  rw[qH h];have:=lsize_app (l.take k) [l[k]];rw[lsize_cons,lsize_nil]at this;omega
 refine⟨⟨G,fun p hp=> ?_⟩,⟨m,fun p hp=> ?_⟩,⟨(f _ hm).2.2.1,lowB_lt (f _ (yH o)).1 u,(f _ hm).2.1⟩,j, ?_, ?_, ?_, ?_⟩
 .exact⟨(f p (List.mem_of_mem_take hp)).1,t p hp _ (by rw[hd];exact zH ..),(f p (List.mem_of_mem_take hp)).2.2⟩
 .refine⟨?_,(f p (List.mem_of_mem_drop hp)).2⟩;rw[hd]at hp m;rcases zM.1 hp with rfl | hp
  .exact .inl rfl
  .exact .inr (m.1 p hp)
 .intro e;rw[e]at i;simp at i
 .rw[hd];exact List.cons_ne_nil _ _
 .rcases k3 with rfl | k3
  .have K:lsize (l.take 1)<=244:=by
    have:=elem_le (f _ (yH o)).2.2
    match l,o with
    | p::l,_=>simp only[List.take_succ_cons,List.take_zero,lsize_cons,lsize_nil];simp only[List.getElem_cons_zero]at this;omega
   omega
  .omega
 .rcases k4 with k4 | k4
  .have:l.drop (k+1)=[]:=qQ (by omega);rw[hd,this,lsize_cons,lsize_nil];omega
  .rw[y]at k4;omega
theorem sumL_take (ks:List Str){k:Nat}(h:k<ks.length):sumL (ks.take (k+1))=sumL (ks.take k)+(1+(ks[k]).length):=by
 rw[qH h,Nd.sumL_append,Nd.sumL_cons,sumL_nil];omega
theorem key_le {s:Str}(h:mayK s=true):s.length<=40:=by
 simp only[mayK,zE,zU]at h;omega
theorem cut_inner {lo hi:Bd}{t a b:Tr (h+1)}{s:Str}(K:Inn (WF h) lo hi t)(p:isize t.1 t.2.length<=785)(hb:500<isize t.1 t.2.length)(L:CutT (h+1) t a s b):
  Inn (WF h) lo (some s) a/\Inn (WF h) (some s) hi b/\(mayK s=true/\lowS lo s/\hiB hi s)/\con (h+1) a++con (h+1) b=con (h+1) t/\160<=isize a.1 a.2.length/\160<=isize b.1 b.2.length/\isize a.1 a.2.length<=500/\isize b.1 b.2.length<=500/\isize b.1 b.2.length<=isize t.1 t.2.length - (isize t.1 t.2.length - 2) / 2+57:=by
 obtain⟨k,⟨k1,k2,k3,k4⟩,rfl,rfl,rfl⟩:=L;obtain⟨ks,ts⟩:=t;obtain⟨f,v,m⟩:=K;have F:min (h+1+1) 2=2:=by omega
 simp only[nkeys,psz,tsize,F]at k2 k3 k4 f v m p hb⊢;have j:k<ks.length:=by omega
 have C:=m.len;have G:ks.getD k []=ks[k]:=by rw[qE,zO j];rfl
 rw[G];have y:=zO j;have hm:ks[k]∈ks:=yH j;have z:ks.take k++ks[k]::ks.drop (k+1)=ks:=by rw[<-qL j,qR]
 have hr:=v;rw[<-z,rising_app,Nd.rising_cons]at hr;obtain⟨M,⟨N,I⟩,J⟩:=hr;have T:sumL ks=sumL (ks.take k)+(1+(ks[k]).length+sumL (ks.drop (k+1))):=by
  conv=>lhs;rw[<-z]
  rw[Nd.sumL_append,Nd.sumL_cons]
 have W:=key_le (f _ hm).1;have O:=sumL_take ks j;have Q:(ts.take (k+1)).length=k+1:=by rw[qA];omega
 have S:(ts.drop (k+1)).length=ks.length - k:=by rw[qK];omega
 rw[Q,S];have u:k+1<ks.length:=by omega
 have U:=key_le (f _ (yH u)).1;have V:sumL (ks.drop (k+1))=1+(ks[k+1]).length+sumL (ks.drop (k+2)):=by rw[qL u,Nd.sumL_cons]
 have q:k=1->sumL (ks.take k)<=41:=fun e=>by
  subst e;have:=sumL_take ks (k:=0) (by omega);have Y:=key_le (f _ (yH (show 0<ks.length by omega))).1;rw[this];simp only[List.take_zero,sumL_nil];omega
 have o:k+2=ks.length->sumL (ks.drop (k+2))=0:=fun e=>by rw[e,List.drop_length];rfl
 simp only[isize]at k3 k4 p hb⊢;rw[O]at k4;rw[C]at p hb k3 k4;refine⟨⟨fun x i=>⟨(f x (List.mem_of_mem_take i)).1,(f x (List.mem_of_mem_take i)).2.1,J x i _ (zH ..)⟩,M,m.take y⟩,⟨fun x i=>⟨(f x (List.mem_of_mem_drop i)).1,N x i,(f x (List.mem_of_mem_drop i)).2.2⟩,I,m.drop y⟩,f _ hm, ?_, ?_, ?_, ?_, ?_, ?_⟩
 .simp only[con,<-jB,qR]
 .rcases k4 with k4 | k4
  .have:=o k4;omega
  .omega
 .rcases k3 with rfl | k3
  .have:=q rfl;omega
  .omega
 .rcases k3 with rfl | k3
  .have:=q rfl;omega
  .omega
 .rcases k4 with k4 | k4
  .have:=o k4;omega
  .omega
 .rcases k4 with k4 | k4
  .have:=o k4;omega
  .omega
inductive Cuts (h:Nat):Tr h->List (Tr h)->List Str->Prop
 | one {t:Tr h} :tsize h t<=500->Cuts h t [t] []
 | more {t a b:Tr h} {s:Str} {ps:List (Tr h)} {ss:List Str} :500<tsize h t->CutT h t a s b->Cuts h b ps ss->Cuts h t (a::ps) (s::ss)
theorem cut_any {lo hi:Bd}{t a b:Tr h}{s:Str}(f:WX h lo hi t)(hb:500<tsize h t)(p:CutT h t a s b):
  WF h lo (some s) a/\WX h (some s) hi b/\Full h b/\(mayK s=true/\lowS lo s/\hiB hi s)/\con h a++con h b=con h t/\tsize h b<=tsize h t - (tsize h t - 2) / 2+241:=by
 cases h with
 | zero=>
  obtain⟨i,b1,j,e,m,nb,o,q⟩:=cut_leaf f.1 f.2 hb p;have u:=f.2;simp only[tsize]at hb⊢;exact⟨⟨i,m,o⟩,⟨b1,by omega⟩,nb,j,e,q⟩
 | succ h=>
  obtain⟨i,b1,j,e,m,nb,o,_,q⟩:=cut_inner f.1 f.2 hb p;have u:=f.2;simp only[tsize]at hb⊢;exact⟨Gen.wf (h:=h+1) i m o,⟨b1,by omega⟩,nb,j,e,by omega⟩
theorem cuts_ok {t:Tr h}{f:List (Tr h)}{q:List Str}(u:Cuts h t f q): ∀ {lo hi:Bd},WX h lo hi t->(Full h t\/500<tsize h t)->
  Inn (WF h) lo hi (q,f)/\f.flatMap (con h)=con h t/\f.length<=6/\(tsize h t<=635->f.length<=5)/\(tsize h t<=560->f.length<=4)/\(tsize h t<=522->f.length<=3)/\(tsize h t<=503->f.length<=2)/\(tsize h t<=500->f.length<=1):=by
 induction u with
 | one m=>
  intro lo hi o p;rcases p with p | p
  .refine⟨⟨by simp,rfl,o.gen.wf p m⟩,by simp,by simp, ?_⟩;simp
  .omega
 | @more t a b s f q hb u _ ih=>
  intro lo hi o _;obtain⟨C,F,G,m,e,z⟩:=cut_any o hb u;obtain⟨⟨i,v,y⟩,I,K⟩:=ih F (.inl G);have L:=o.sz;simp only at i v y;refine⟨⟨fun k j=> ?_, ?_,C,y⟩, ?_, ?_⟩
  .rcases zM.1 j with rfl | j
   .exact m
   .exact⟨(i k j).1,lowS_le m.2.1 (.inr (i k j).2.1),(i k j).2.2⟩
  .rw[Nd.rising_cons];exact⟨fun x J=>(i x J).2.1,v⟩
  .rw[yR,I,e]
  .simp only[zV];omega
theorem sumL_bound {ks:List Str}(h: ∀k∈ks,mayK k=true):sumL ks<=41*ks.length:=by
 induction ks with
 | nil=>simp[sumL]
 | cons k ks ih=>
  have:=key_le (h k (zH ..));have:=ih fun x a=>h x (zC _ a)
  rw[Nd.sumL_cons,zV];omega
theorem place_ok {lo hi:Bd}{ks a:List Str}{ts f:List (Tr h)}{x:Tr h}(j:Inn (WF h) lo hi (ks,ts))(hm:w+l<ts.length)(o:WX h (loAt lo ks w) (hiAt ks hi (w+l)) x)(p:Full h x)(q:Cuts h x f a):
  Inn (WF h) lo hi (ks.take w++a++ks.drop (w+l),ts.take w++f++ts.drop (w+l+1))/\
  con (h+1) (ks.take w++a++ks.drop (w+l),ts.take w++f++ts.drop (w+l+1))=(ts.take w).flatMap (con h)++con h x++(ts.drop (w+l+1)).flatMap (con h)/\
  isize (ks.take w++a++ks.drop (w+l)) (ts.take w++f++ts.drop (w+l+1)).length<=isize ks ts.length+285/\ks.length<=(ks.take w++a++ks.drop (w+l)).length+l:=by
 obtain⟨c1,c2,c3,_⟩:=cuts_ok q o (.inl p);have s:=j.2.2.len;have t:=c1.2.2.len;simp only at s t;refine⟨j.splice hm c1, ?_, ?_, ?_⟩
 .simp only[con,jB,c2]
 .have u:=sumL_bound fun k v=>(c1.1 k v).1
  simp only at u;have e:sumL (ks.take w)+sumL (ks.drop (w+l))<=sumL ks:=by
   have y:sumL ks=sumL (ks.take w)+sumL (ks.drop w):=by rw[<-Nd.sumL_append,qR]
   have z:sumL (ks.drop w)=sumL ((ks.drop w).take l)+sumL (ks.drop (w+l)):=by rw[<-List.drop_drop,<-Nd.sumL_append,qR]
   omega
  simp only[isize,zT,qA,qK,Nd.sumL_append];omega
 .simp only[zT,qA,qK];omega
theorem full_join {a b:Tr h}{s:Str}(i:s.length<=40)(f:Full h a\/Full h b):Full h (joinT h a s b):=by
 cases h with
 | zero=>
  intro e;have e:List.append (α:=Str×Str) a b=[]:=e;rcases f with f | f
  .exact f (List.append_eq_nil_iff.1 e).1
  .exact f (List.append_eq_nil_iff.1 e).2
 | succ h=>
  have:=join_size (h+1) a s b i;simp only[tsize]at this;show 160<=isize _ _;rcases f with f | f
  .have f:160<=isize a.1 a.2.length:=f;omega
  .have f:160<=isize b.1 b.2.length:=f;omega
theorem many_keys {lo hi:Bd}{t:Tr (h+1)}(a:WF (h+1) lo hi t):3<=t.1.length:=by
 obtain⟨⟨f,_,i⟩,_,j,_⟩:=a;have hl:=i.len;have:=sumL_bound fun k m=>(f k m).1
 simp only[isize]at j;omega
theorem leaf_put {lo hi:Bd}{l:Kvs}{k v:Str}(f:Lf lo hi l)(hl:lowB lo k)(j:hiB hi k)(h:mayK k=true)(i:v.length<=200):Lf lo hi (putP k v l)/\lsize (putP k v l)<=lsize l+242:=by
 refine⟨⟨Nd.srt_put _ _ f.1,fun p hp=> ?_⟩, ?_⟩
 .rcases Nd.mem_put hp with rfl | hp
  .exact⟨hl,j,h,i⟩
  .exact f.2 p hp
 .have m:=elem_le (p:=(k,v)) ⟨h,i⟩;simp only at m;clear f
  induction l with
  | nil=>simp only[putP,lsize_cons,lsize_nil];omega
  | cons a l ih=>
   obtain⟨a,b⟩:=a;simp only[putP];split
   .simp only[lsize_cons];omega
   .split
    .simp only[lsize_cons];omega
    .simp only[lsize_cons];omega
theorem leaf_del {lo hi:Bd}{l:Kvs}(k:Str)(f:Lf lo hi l):Lf lo hi (delP k l)/\lsize (delP k l)<=lsize l:=by
 refine⟨⟨Nd.srt_del _ f.1,fun p hp=>f.2 p (Nd.mem_del hp)⟩, ?_⟩;clear f
 induction l with
 | nil=>exact zK _
 | cons a l ih=>
  obtain⟨a,b⟩:=a;simp only[delP];split
  .simp only[lsize_cons];omega
  .simp only[lsize_cons];omega
end Go.Bt
end
section
namespace Go.Ex
open Go.Nd (Str)
def over (b:Str)(f:Nat)(s:Str):Str:=b.take f++s++b.drop (f+s.length)
end Go.Ex
namespace Go.Bk
open Go.Nd (Str be)
def sumF (u:Nat):Str->Nat
 | []=>u
 | b::l=>sumF (Nat.xor u b.toNat*1099511628211 % 18446744073709551616) l
theorem sumF_lt: ∀(s:Str) (u:Nat),u<18446744073709551616->sumF u s<18446744073709551616
 | [],_,h=>h
 | _::l,_,_=>sumF_lt l _ (Nat.mod_lt _ (by omega))
theorem sumF_snoc: ∀(s:Str) (b:UInt8) (u:Nat),sumF u (s++[b])=Nat.xor (sumF u s) b.toNat*1099511628211 % 18446744073709551616
 | [],_,_=>rfl
 | _::l,b,_=>sumF_snoc l b _
def sumS (s:Str):Nat:=sumF 14695981039346656037 s
theorem sumS_lt (s:Str):sumS s<18446744073709551616:=sumF_lt _ _ (by omega)
def markB:Str:=[106,116,116,121]
def headB (kind:UInt8)(birth:Nat)(n:Nat):Str:=markB++([kind,0]++(be 2 n++be 4 birth))
def sealB (kind:UInt8)(birth:Nat)(body:Str):Str:=headB kind birth body.length++(body++List.replicate (500 - body.length) 0)
theorem headB_len (kind:UInt8)(birth n:Nat):(headB kind birth n).length=12:=by simp[headB,markB,Nd.be_length]
theorem sealB_len {kind:UInt8}{birth:Nat}{body:Str}(h:body.length<=500):(sealB kind birth body).length=512:=by
 simp[sealB,headB_len];omega
end Go.Bk
namespace Go.Eng
open Go.Nd (Str)
theorem takeN_le: ∀(n:Nat) (l:List AV),n<=l.length->takeN n l=some (l.take n)
 | 0,_,_=>rfl
 | n+1,[],h=>by simp at h
 | n+1,a::l,h=>by
  have f:=takeN_le n l (by simpa using h);simp only[takeN,f,List.take_succ_cons]
theorem cpy_S {off m cc:Nat}{b s:Str}(A:H.h.get h=some (.cells (bytesV b) w 1 G))(a:H.ok)(hm:off+m<=b.length):
  ∃H',cpy 1 (.slice h off m cc) (S s) H=some (.int .i64 (min s.length m:Nat),H')/\H'.h.get h=some (.cells (bytesV (Ex.over b off (s.take (min s.length m)))) w 1 G)/\Stp (fun B=>B=h) H H':=by
 obtain⟨n,j⟩: ∃n,n=min s.length m:=⟨_,rfl⟩;rw[<-j];have p:n<=s.length:=by omega
 have o:Nat.min s.length m=n:=j.symm;have t:takeN (n*1) (bytesV s)=some (bytesV (s.take n)):=by
  rw[Nat.mul_one,takeN_le _ _ (by rw[bytesV_length];exact p),bytesV,bytesV,List.map_take]
 have u:allCells (bytesV (s.take n))=true:=by
  rw[allCells_mem];intro x v;obtain⟨b,_,rfl⟩:=qM.1 v;rfl
 have y:setAt (bytesV b) off (bytesV (s.take n))=some (bytesV (Ex.over b off (s.take n))):=by
  have hl:(s.take n).length=n:=by rw[qA];omega
  rw[setAt_some (by rw[bytesV_length,bytesV_length,hl];omega)];have q:(bytesV (s.take n)).length=n:=by rw[bytesV_length,hl]
  rw[q,Ex.over,hl];simp only[bytesV,List.map_append,List.map_drop];rw[List.map_take (f:=fun c:UInt8=>AV.int .u8 c.toNat) (l:=b) (i:=off)]
 refine⟨_, ?_, ?_,(jV a).put (a.lt A) (.cells (bytesV (Ex.over b off (s.take n))) w 1 G) (.inr rfl)⟩
 .simp only[cpy,srcOf_S,o,t,u,zP,A,show Nat.blt 0 1=true from rfl,y,putA_ok,fN_eq];rfl
 .rw[jO,if_pos rfl]
theorem slArr_at {n A lo hi:Nat}(j:lo<=hi)(m:hi<=n)(h3:lo<n)(κ a:IntKind):slArr n 1 (.ptr A 0) (some (.int κ (lo:Nat))) (some (.int a (hi:Nat))) none=some (.slice A lo (hi - lo) (2*(n - lo))):=by
 have f:=natOf_int κ (z:=(lo:Int)) (by omega);have i:=natOf_int a (z:=(hi:Int)) (by omega);simp only[qU]at f i;have b1:Nat.ble lo hi=true:=by rw[qO];exact j
 have b2:Nat.ble hi n=true:=by rw[qO];exact m
 have o:Nat.beq n lo=false:=by rw[qX];intro h;have:=Nat.eq_of_beq_eq_true h;omega
 have p:((2*n) % 2).beq 0=true:=by rw[j6];rfl
 have q:2*n / 2=n:=yL n (by omega);simp[slArr,natOpt,f,i,acut,b1,b2,p,o,q,fN_eq,show Nat.blt 0 1=true from rfl]
theorem bInt_xor_u64 {a b:Nat}(f:a<18446744073709551616)(hb:b<256):bInt .xor (.int .u64 a) (.int .u64 (b:Int))=some (.int .u64 (Nat.xor a b:Nat))/\Nat.xor a b<18446744073709551616:=by
 have h:Nat.blt a (kmod .u64)=true:=by rw[q9];exact f
 have i:Nat.blt b (kmod .u64)=true:=by rw[q9];exact Nat.lt_trans hb (by decide)
 have hl:Nat.xor a b<18446744073709551616:=Nat.xor_lt_two_pow (n:=64) f (Nat.lt_trans hb (by decide));have j:keq .u64 .u64=true:=rfl;have h5:IntKind.wrap .u64 ((Nat.xor a b:Nat):Int)=((Nat.xor a b:Nat):Int):=by rw[wrap_u64];omega
 have m:abits .xor .u64 (.ofNat a) (.ofNat b)=some (.int .u64 (Nat.xor a b:Nat)):=by
  simp only[abits,IntKind.signed,Bool.not_false,h,i,qJ,zP,mkI_eq,Int.ofNat_eq_natCast,h5]
 have h6:bInt .xor (.int .u64 (.ofNat a)) (.int .u64 (.ofNat b))=abits .xor .u64 (.ofNat a) (.ofNat b):=by simp only[bInt,abinI,j,zP]
 exact⟨h6.trans m,hl⟩
theorem ixStrN (s:Str)(k:IntKind)(i:h<s.length):ixStr (S s) (.int k (h:Int))=some (.int .u8 ((s[h]).toNat:Nat)):=by
 have:=ixStr_S s k (z:=(h:Int)) (by omega) (by simpa using i);simpa using this
theorem cellsEq_row: ∀(b:Str),cellsEq (List.replicate b.length 7) (bytesV b) (bytesV b)=some true
 | []=>rfl
 | x::b=>by
  have h:=cellEq_int .u8 (x.toNat:Int) (x.toNat:Int);have e:icode .u8=7:=rfl;rw[e,decide_eq_true rfl]at h;simp only[zV,List.replicate_succ,bytesV,y6,cellsEq,h];exact cellsEq_row b
theorem eqA_row {b:Str}(n:b.length=h):eqA (List.replicate h 7) (.agg (bytesV b)) (.agg (bytesV b))=some true:=by
 subst n;have a:=lenL_eq (bytesV b);rw[bytesV_length]at a;have f:(List.replicate b.length 7).length=b.length:=List.length_replicate;simp only[eqA,a,f,Nat.add_zero,yC,qJ,zP,cellsEq_row]
end Go.Eng
namespace Go.Eng.Sh
open Go.Nd (Ptr Str be)
open Go.Bk
theorem bytes4 (H:AH){s:Str}(a:H.ok)(g:H.h.get h=some (.cells (bytesV s) w 1 false))(hl:s.length=l):cvBS (.slice h 0 l (2*l)) H=some (S s):=
 cvBS_row (n:=l) ⟨by rw[bytesV_length,hl,Nat.mul_one], .inr (.inr ⟨_,_,_,_,_,_,_,rfl,g,a.lt g,by rw[bytesV_length,hl];omega,by
  rw[yE,zW (by rw[bytesV_length,hl];omega)]⟩)⟩ (by simp)
theorem st1d (a:H.ok){o:Nat}{x:AV}(A:H.h.get h=some (.cells v w 1 false))(f:Eng.isCell x=true)(i:o<v.length): ∃H',stN 1 (.ptr h o) x H=some (undefA,H')/\H'.h.get h=some (.cells (v.set o x) w 1 false)/\Stp (fun B=>B=h) H H':=
 ⟨_,st1_ok A (by decide) f i,by rw[jO,if_pos rfl],(jV a).put (a.lt A) _ (.inr rfl)⟩
theorem repOne (x:AV): ∀n,rep n [x]=List.replicate n x
 | 0=>rfl
 | n+1=>by rw[rep,repOne x n,List.replicate_succ];rfl
theorem rep_row (n:Nat):rep n [AV.int .u8 (0:Nat)]=bytesV (List.replicate n 0):=by
 rw[repOne];simp[bytesV]
theorem bytesV_cells (b:Str):allCells (bytesV b)=true:=by
 rw[allCells_mem];intro x a;obtain⟨b,_,rfl⟩:=qM.1 a;rfl
theorem ldN_all (A:H.h.get h=some (.cells v w 1 G))(hl:v.length=l):ldN l (.ptr h 0) H=some (.agg v):=by
 rw[ldN_get A,subN_some _ _ _ (.inr (by omega)),yE,<-hl,j8];rfl
theorem stR (j:H.ok){b a:Str}(A:H.h.get h=some (.cells (bytesV b) w 1 false))(f:b.length=l)(m:a.length=l):
  ∃H',stN l (.ptr h 0) (.agg (bytesV a)) H=some (undefA,H')/\H'.h.get h=some (.cells (bytesV a) w 1 false)/\Stp (fun B=>B=h) H H':=by
 obtain⟨H',i,o,p,_⟩:=st_all j A (l':=bytesV a) (by rw[bytesV_length,bytesV_length,f,m]) (bytesV_cells a);rw[bytesV_length,f]at i;exact⟨H',i,o,p⟩
theorem ldR {b:Str}(A:H.h.get h=some (.cells (bytesV b) w 1 G))(a:b.length=l):ldN l (.ptr h 0) H=some (.agg (bytesV b)):=ldN_all A (by rw[bytesV_length,a])
theorem dsum_ok{H:AH}(s:Str)(t:s.length<n)(u:s.length<=1000000000):f123 D n [S s] H=some (.int .u64 (sumS s:Nat),H):=by
 have m:loopK n (f151l0 D n) [.int .u64 (14695981039346656037:Nat),S s, .int .i64 s.length, .int .i64 (0:Nat)] H=some (.exit 0 [.int .u64 (sumS s:Nat)],H):=by
  refine loop_for (fun i=>[.int .u64 (sumS (s.take i):Nat),S s, .int .i64 s.length, .int .i64 ((i:Nat):Int)]) s.length (fun i hi=> ?_) (fun k=> ?_) n (by omega)
  .have hl:sumS (s.take i)<18446744073709551616:=sumF_lt _ _ (by omega);have o:=ixStrN s .i64 hi;have v:=(s[i]).toNat_lt;obtain⟨f,q⟩:=bInt_xor_u64 (a:=sumS (s.take i)) (b:=(s[i]).toNat) hl (by omega);have p:IntKind.wrap .u64 (((s[i]).toNat:Nat):Int)=(((s[i]).toNat:Nat):Int):=by rw[wrap_u64];omega
   have h:bInt .mul (.int .u64 ((Nat.xor (sumS (s.take i)) (s[i]).toNat:Nat):Int)) (.int .u64 (1099511628211:Nat))=some (.int .u64 ((sumS (s.take (i+1)):Nat):Int)):=by
    rw[bInt_mul,wrap_u64,qH hi];have e:sumS (s.take i++[s[i]])=Nat.xor (sumS (s.take i)) (s[i]).toNat*1099511628211 % 18446744073709551616:=sumF_snoc _ _ _;rw[e,Int.natCast_emod,Int.natCast_mul];rfl
   have j:((i:Nat):Int)< (s.length:Int):=by omega
   have hi1:((i:Nat):Int)+((1:Nat):Int)=((i+1:Nat):Int):=by omega
   simp(maxSteps:=999999)(disch:=omega) only[f151l0,eZ,j,o,p,f,h,hi1]
  .refine loop_exit ?_;simp only[f151l0,eZ,yA,j8]
 simp only[f123,f151,eZ,lnStr_S,m,f151b1]
theorem bsum_ok(p:1000<=n){H:AH}(j:H.ok){b:Str}(hb:b.length=512): ∃H',f152 D n [.agg (bytesV b)] H=some (.int .u64 (sumS b:Nat),H')/\Prs H H':=by
 obtain⟨a,f,b1,h,m,q,s⟩:=box j (.cells (bytesV b) 144 1 false);have o:slArr 512 1 (.ptr f 0) none none none=some (.slice f 0 512 1024):=rfl;have i:cvBS (.slice f 0 512 1024) a=some (S b):=bytes4 a h.ok m hb;have e:=dsum_ok D n (H:=a) b (by omega) (by omega);refine⟨a, ?_,h⟩;simp(maxSteps:=999999)(disch:=omega) only[f152,eZ,b1,o,i,e]
theorem seal_ok(hn:1000<=n)(W:H.ok)(kind:UInt8){birth:Nat}(hb:birth<=2147483647){body:Str}(hl:body.length<=500):
  ∃H',f109 D n [.int .u8 kind.toNat, .int .i64 birth,S body] H=some (.tuple [.agg (bytesV (sealB kind birth body)), .int .i64 (0:Nat)],H')/\Prs H H':=by
 obtain⟨Z,C⟩: ∃Z:Str,Z=List.replicate 512 0:=⟨_,rfl⟩;have Q:Z.length=512:=by rw[C];simp
 have T:rep 512 [AV.int .u8 (0:Nat)]=bytesV Z:=by rw[rep_row,C]
 obtain⟨H1,A6,b1,q,g1,m1,n1⟩:=box W (.cells (bytesV Z) 144 1 false);obtain⟨H2,a,b2,t,g2,m2,n2⟩:=box q.ok (.cells (bytesV Z) 144 1 false);have N1:=q.next;have N2:=t.next
 have t1: ¬(birth:Int)< ((0:Nat):Int):=by omega
 have t2: ¬((2147483647:Nat):Int)< (birth:Int):=by omega
 have t3: ¬((500:Nat):Int)< (body.length:Int):=by omega
 have s0:slArr 512 1 (.ptr a 0) none none none=some (.slice a 0 512 1024):=rfl;have s1:slArr 512 1 (.ptr a 0) (some (.int .i64 (6:Nat))) (some (.int .i64 (8:Nat))) none=some (.slice a 6 2 1012):=rfl;have s2:slArr 512 1 (.ptr a 0) (some (.int .i64 (8:Nat))) (some (.int .i64 (12:Nat))) none=some (.slice a 8 4 1008):=rfl;have s3:slArr 512 1 (.ptr a 0) (some (.int .i64 (12:Nat))) none none=some (.slice a 12 500 1000):=rfl;have ix:ixArr 512 1 (.ptr a 0) (.int .i64 (4:Nat))=some (.ptr a 4):=rfl;have hm:(AV.str 4 2037675114)=S markB:=rfl;obtain⟨H3,u,F,st3⟩:=cpy_S (off:=0) (m:=512) (cc:=1024) (s:=markB) g2 t.ok (by omega);have O:min markB.length 512=4:=rfl;rw[O]at u F;have o3:Ex.over Z 0 (markB.take 4)=markB++(0::List.replicate 507 0):=by
  rw[C];rfl
 rw[o3]at F;obtain⟨H4,e4,I,st4⟩:=st1d st3.ok F (o:=4) (x:= .int .u8 kind.toNat) rfl (by rw[bytesV_length];simp[markB]);have o4:(bytesV (markB++(0::List.replicate 507 0))).set 4 (.int .u8 kind.toNat)=bytesV ((markB++[kind,0])++List.replicate 506 0):=by
  simp[bytesV,markB,List.replicate_succ]
 rw[o4]at I;obtain⟨H5,e5,J,i,_⟩:=put_ok D n st4.ok (off:=6) (k:=2) (cc:=1012) body.length I (by rw[bytesV_length];simp[markB]) (by omega) (by omega);have o5:(bytesV ((markB++[kind,0])++List.replicate 506 0)).take 6++(bytesV (be 2 body.length)++(bytesV ((markB++[kind,0])++List.replicate 506 0)).drop (6+2))=bytesV ((markB++([kind,0]++be 2 body.length))++List.replicate 504 0):=by
  simp[bytesV,markB,List.replicate_succ]
 rw[o5]at J;obtain⟨H6,e6,K,j,_⟩:=put_ok D n i.ok (off:=8) (k:=4) (cc:=1008) birth J (by rw[bytesV_length];simp[markB,Nd.be_length]) (by omega) (by omega);have v:(markB++([kind,0]++be 2 body.length)).length=8:=by simp[markB,Nd.be_length]
 have o6:(bytesV ((markB++([kind,0]++be 2 body.length))++List.replicate 504 0)).take 8++(bytesV (be 4 birth)++(bytesV ((markB++([kind,0]++be 2 body.length))++List.replicate 504 0)).drop (8+4))=bytesV (headB kind birth body.length++List.replicate 500 0):=by
  obtain⟨Y,L⟩: ∃Y,Y=markB++([kind,0]++be 2 body.length):=⟨_,rfl⟩;rw[<-L]at v⊢;have e1:(bytesV (Y++List.replicate 504 0)).take 8=bytesV Y:=by
   simp only[bytesV,List.map_append];rw[yX (by rw[jC,v])]
  have e2:(bytesV (Y++List.replicate 504 0)).drop 12=bytesV (List.replicate 500 0):=by
   simp only[bytesV,List.map_append];rw[show 12=8+4 from rfl,<-List.drop_drop,yO (by rw[jC,v])];simp
  have u:headB kind birth body.length=Y++be 4 birth:=by rw[L,headB];simp
  rw[e1,show 8+4=12 from rfl,e2,u];simp[bytesV]
 rw[o6]at K;have y:=headB_len kind birth body.length;obtain⟨H7,M,G,p⟩:=cpy_S (off:=12) (m:=500) (cc:=1000) (s:=body) K j.ok (by simp[y]);have N:min body.length 500=body.length:=by omega
 rw[N]at M G;have o7:Ex.over (headB kind birth body.length++List.replicate 500 0) 12 (body.take body.length)=sealB kind birth body:=by
  rw[j8,Ex.over,yX y,show 12+body.length=12+body.length from rfl,<-List.drop_drop,yO y,List.drop_replicate,sealB,qC]
 rw[o7]at G;have M3:=st3.next;have M4:=st4.next;have M5:=i.next;have M6:=j.next;have M7:=p.next
 have z:=sealB_len (kind:=kind) (birth:=birth) hl;have U:H7.h.get A6=some (.cells (bytesV Z) 144 1 false):=by
  rw[p.keep _ (by omega) (by omega),j.keep _ (by omega) (by omega),i.keep _ (by omega) (by omega),st4.keep _ (by omega) (by omega),st3.keep _ (by omega) (by omega)];exact jY t q.ok g1
 obtain⟨H8,e8,g8,V⟩:=stR p.ok U Q z;have r8:=ldR G z;have r6:=ldR g8 z;have w1:IntKind.wrap .u64 (body.length:Int)=(body.length:Int):=by rw[wrap_u64];omega
 have w2:IntKind.wrap .u64 (birth:Int)=(birth:Int):=by rw[wrap_u64];omega
 refine⟨H8, ?_,(((((((q.trans t).fresh st3 fun B f=>by omega).fresh st4 fun B f=>by omega).fresh i fun B f=>by omega).fresh j fun B f=>by omega).fresh p fun B f=>by omega).fresh V fun B f=>by omega)⟩;simp(maxSteps:=999999)(disch:=omega) only[f109,eZ,T,b1,t1,t2,lnStr_S,t3,b2,s0,hm,u,ix,e4,s1,cvI_int,w1,e5,s2,w2,e6,s3,M,r8,e8,r6]
end Go.Eng.Sh
end
section
namespace Go.Bk
open Go.Nd (Str be bee)
theorem seal_parts {kind:UInt8}{birth:Nat}{body:Str} :((sealB kind birth body).drop 6).take 2=be 2 body.length/\((sealB kind birth body).drop 8).take 4=be 4 birth/\((sealB kind birth body).drop 12).take body.length=body/\(sealB kind birth body)[4]? =some kind:=by
 have a:sealB kind birth body=(markB++[kind,0])++(be 2 body.length++(be 4 birth++(body++List.replicate (500 - body.length) 0))):=by simp[sealB,headB]
 have f:sealB kind birth body=(markB++[kind,0]++be 2 body.length)++(be 4 birth++(body++List.replicate (500 - body.length) 0)):=by simp[sealB,headB]
 refine⟨?_, ?_, ?_, ?_⟩
 .rw[a,yO (by simp[markB]),yX (Nd.be_length _ _)]
 .rw[f,yO (by simp[markB,Nd.be_length]),yX (Nd.be_length _ _)]
 .rw[sealB,yO (headB_len _ _ _),yX rfl]
 .rw[a];simp[markB]
theorem seal_inj {k':UInt8}{s a:Str}(o:s.length<=500)(m:a.length<=500)(e:sealB Q h s=sealB k' h a):Q=k'/\s=a:=by
 obtain⟨q1,_,q3,f⟩:=seal_parts (kind:=Q) (birth:=h) (body:=s);obtain⟨k,_,i,j⟩:=seal_parts (kind:=k') (birth:=h) (body:=a);rw[e]at q1 q3 f;rw[k]at q1;have hl:=congrArg bee q1;rw[Nd.bee_be,Nd.bee_be,Nat.mod_eq_of_lt (by omega),Nat.mod_eq_of_lt (by omega)]at hl;rw[<-hl,i]at q3;rw[j]at f;exact⟨(y0 f).symm,q3.symm⟩
end Go.Bk
namespace Go.Eng.Sh
open Go.Nd (Ptr Str be bee)
open Go.Bk
theorem rowB (a:H.ok){lo k cc:Nat}{b:Str}(g:H.h.get h=some (.cells (bytesV b) w 1 false))(A:lo+k<=b.length):Rw 1 H (.slice h lo k cc) k (bytesV ((b.drop lo).take k)):=
 ⟨by rw[bytesV_length,qA,qK];omega, .inr (.inr ⟨_,_,_,_,_,_,_,rfl,g,a.lt g,by rw[bytesV_length];omega,by
  rw[Nat.mul_one];simp[bytesV,List.map_take,List.map_drop]⟩)⟩
theorem open_ok(T:1000<=n)(U:H.ok)(kind:UInt8){birth:Nat}(hb:birth<=2147483647){body:Str}(hl:body.length<=500):
  ∃H',f120 D n [.agg (bytesV (sealB kind birth body))] H=some (.tuple [.int .u8 kind.toNat, .int .i64 birth,S body, .int .i64 (0:Nat)],H')/\Prs H H':=by
 obtain⟨B,q⟩: ∃B,B=sealB kind birth body:=⟨_,rfl⟩;obtain⟨q1,q2,q3,s⟩:=seal_parts (kind:=kind) (birth:=birth) (body:=body);have i:=sealB_len (kind:=kind) (birth:=birth) hl;rw[<-q]at q1 q2 q3 s i⊢;obtain⟨m,a,b1,f,j,m1,n1⟩:=box U (.cells (bytesV B) 144 1 false);have V:slArr 512 1 (.ptr a 0) (some (.int .i64 (6:Nat))) (some (.int .i64 (8:Nat))) none=some (.slice a 6 2 1012):=rfl;have W:slArr 512 1 (.ptr a 0) (some (.int .i64 (8:Nat))) (some (.int .i64 (12:Nat))) none=some (.slice a 8 4 1008):=rfl;have Y:slArr 512 1 (.ptr a 0) (some (.int .i64 (12:Nat))) (some (.int .u64 (12+body.length:Nat))) none=some (.slice a 12 body.length 1000):=by
  have:=slArr_at (n:=512) (A:=a) (lo:=12) (hi:=12+body.length) (by omega) (by omega) (by omega) .i64 .u64;rw[this,show 12+body.length - 12=body.length by omega]
 have ix:ixArr 512 1 (.ptr a 0) (.int .i64 (4:Nat))=some (.ptr a 4):=rfl;have t:=rowB (cc:=1012) f.ok j (lo:=6) (k:=2) (by omega);have u:=rowB (cc:=1008) f.ok j (lo:=8) (k:=4) (by omega);have v:=rowB (cc:=1000) f.ok j (lo:=12) (k:=body.length) (by omega);rw[q1]at t;rw[q2]at u;rw[q3]at v;have J:Rw 1 m (.slice a 6 2 1012) (be 2 body.length).length (bytesV (be 2 body.length)):=by rw[Nd.be_length];exact t
 have K:Rw 1 m (.slice a 8 4 1008) (be 4 birth).length (bytesV (be 4 birth)):=by rw[Nd.be_length];exact u
 have x:=get_ok D n J (by rw[Nd.be_length];omega) (by omega);have y:=get_ok D n K (by rw[Nd.be_length];omega) (by omega);rw[Nd.bee_be,Nat.mod_eq_of_lt (by omega)]at x;rw[Nd.bee_be,Nat.mod_eq_of_lt (by omega)]at y;have L:cvBS (.slice a 12 body.length 1000) m=some (S body):=cvBS_row v (by simp);have r4:Eng.ld1 (.ptr a 4) m=some (.int .u8 kind.toNat):=ld1_ptr j (by
  rw[bytesV,jG,s];rfl)
 obtain⟨H2,z,o⟩:=seal_ok D n T f.ok kind hb hl;rw[<-q]at z;obtain⟨Z,C⟩: ∃Z:Str,Z=List.replicate 512 0:=⟨_,rfl⟩;have M:Z.length=512:=by rw[C];simp
 have N:rep 512 [AV.int .u8 (0:Nat)]=bytesV Z:=by rw[rep_row,C]
 obtain⟨H3,A7,b3,p,g3,m3,n3⟩:=box o.ok (.cells (bytesV Z) 144 1 false);obtain⟨F,e4,g4,G⟩:=stR p.ok g3 M i;have N2:=o.next;have N3:=p.next
 have O:F.h.get a=some (.cells (bytesV B) 144 1 false):=by
  rw[G.keep _ (by omega) (by omega)];exact jY (o.trans p) f.ok j
 have r7:=ldR g4 i;have r1:=ldR O i;have he:cmpO .neq (eqA (List.replicate 512 7) (.agg (bytesV B)) (.agg (bytesV B)))=some (.bool false):=by rw[eqA_row i];rfl
 have t1: ¬((500:Nat):Int)< (body.length:Int):=by omega
 have wi:IntKind.wrap .i64 (birth:Int)=(birth:Int):=wrap_i64 (by omega) (by omega);have I:((12:Nat):Int)+(body.length:Int)=((12+body.length:Nat):Int):=by omega
 have wu:IntKind.wrap .u64 ((12+body.length:Nat):Int)=((12+body.length:Nat):Int):=by rw[wrap_u64];omega
 have Q: ¬(((0:Nat):Int)≠((0:Nat):Int)):=by omega
 refine⟨F, ?_,((f.trans o).trans p).fresh G fun B q=>by omega⟩;simp(maxSteps:=999999)(disch:=omega) only[f120,eZ,b1,V,x,t1,ix,r4,W,y,cvI_int,wi,I,wu,Y,L,z,pExtract,nth,N,b3,e4,Q,r7,r1,he]
def ptrB (at_:Nat)(birth:Nat)(b:Str):Ptr:=⟨(at_:Int),(birth:Int),((sumS b:Nat):Int)⟩
theorem check_ok(q:1000<=n)(L:H.ok)(kind:UInt8){at_:Nat}(Z:1<=at_)(hb:h<=2147483647){body:Str}(hl:body.length<=500):
  ∃H',f127 D n [.agg (ptrV (ptrB at_ h (sealB kind h body))), .agg (bytesV (sealB kind h body))] H=some (.tuple [.int .u8 kind.toNat,S body, .int .i64 (0:Nat)],H')/\Prs H H':=by
 obtain⟨B,s⟩: ∃B,B=sealB kind h body:=⟨_,rfl⟩;have i:=sealB_len (kind:=kind) (birth:=h) hl;rw[<-s]at i;obtain⟨H1,j,b1,o,M,m1,n1⟩:=box L (.cells (ptrV (ptrB at_ h B)) 38 1 false);obtain⟨t,A3,b2,a,u,m2,n2⟩:=box o.ok (.cells (bytesV B) 144 1 false);obtain⟨N,O,f⟩:=bsum_ok D n q a.ok i;obtain⟨v,x,y⟩:=open_ok D n q f.ok kind hb hl;rw[<-s]at x⊢;have m:=jY a o.ok M;have p:=jY f a.ok m;have z:=jY f a.ok u;have C:=jY y f.ok p;have Q:Eng.ld1 (.ptr j 0) t=some (.int .i64 at_):=by rw[ld1_get m];rfl
 have T:Eng.ld1 (.ptr j 2) t=some (.int .u64 (sumS B:Nat)):=by rw[ld1_get m];rfl
 have F:Eng.ld1 (.ptr j 2) N=some (.int .u64 (sumS B:Nat)):=by rw[ld1_get p];rfl
 have G:Eng.ld1 (.ptr j 1) v=some (.int .i64 h):=by rw[ld1_get C];rfl
 have U:=ldR u i;have I:=ldR z i;have t0: ¬(at_:Int)=((0:Nat):Int):=by omega
 have J: ¬(((0:Nat):Int)≠((0:Nat):Int)):=by omega
 have V: ¬(((sumS B:Nat):Int)≠((sumS B:Nat):Int)):=fun birth=>birth rfl
 have W: ¬((h:Int)≠(h:Int)):=fun birth=>birth rfl
 have Y: ∀K:Rs,chk (some (.int .u64 (sumS B:Nat))) (.int .u64 (sumS B:Nat)) K=K:=fun K=>chk_ok rfl (by simp[aveq,keq_eq,ieq_eq])
 refine⟨v, ?_,((o.trans a).trans f).trans y⟩;simp(maxSteps:=999999)(disch:=omega) only[f127,eZ,b1,b2,Q,t0,U,T,O,F,Y,V,I,x,pExtract,nth,J,G,W]
end Go.Eng.Sh
end
section
namespace Go.Eng
theorem cq:(∀A o,cmpO .eql (eqP (.ptr A o) .nP)=some (.bool false))/\cmpO .eql (eqP .nP .nP)=some (.bool true)/\(∀M,cmpO .eql (eqM (.map M) .nM)=some (.bool false))/\(∀A o,cmpO .neq (eqP (.ptr A o) .nP)=some (.bool true))/\cmpO .neq (eqP .nP .nP)=some (.bool false):=
 ⟨fun _ _=>rfl,rfl,fun _=>rfl,fun _ _=>rfl,rfl⟩
end Go.Eng
namespace Go.Bk
open Go.Nd (Str)
abbrev Ws:=List (Nat×Str)
def lastW (n:Nat):Ws->Option Nat
 | []=>none
 | (a,_)::l=>match lastW n l with
  | some i=>some (i+1)
  | none=>if a=n then some 0 else none
theorem lastW_snoc (n a:Nat)(b:Str): ∀l:Ws,lastW n (l++[(a,b)])=if a=n then some l.length else lastW n l
 | []=>by simp[lastW]
 | (c,d)::l=>by
  simp only[qB,lastW,lastW_snoc n a b l];by_cases e:a=n
  .simp[e]
  .simp[e]
theorem lastW_at {n:Nat} : ∀ {l:Ws} {i:Nat},lastW n l=some i-> ∃h:i<l.length,(l[i]).1=n
 | (a,b)::l,i,h=>by
  simp only[lastW]at h
  cases hl:lastW n l with
  | some j=>
   rw[hl]at h;simp only[zB]at h;subst h;obtain⟨f,m⟩:=lastW_at hl;exact⟨by simpa using f,by simpa using m⟩
  | none=>
   rw[hl]at h;simp only at h;by_cases e:a=n
   .rw[if_pos e]at h;cases h;exact⟨by simp,e⟩
   .rw[if_neg e]at h;cases h
def blkAt (n:Nat)(l:Ws):Option Str:=(lastW n l).bind fun i=>(l[i]?).map (·.2)
theorem blkAt_snoc (n a:Nat)(b:Str)(l:Ws):blkAt n (l++[(a,b)])=if a=n then some b else blkAt n l:=by
 rw[blkAt,lastW_snoc];by_cases e:a=n
 .rw[if_pos e,if_pos e];simp
 .rw[if_neg e,if_neg e,blkAt]
  cases hl:lastW n l with
  | none=>rfl
  | some i=>
   obtain⟨f,_⟩:=lastW_at hl;simp[yQ f]
theorem lastW_app (n:Nat)(a:Ws): ∀b:Ws,lastW n (a++b)=match lastW n b with | some i=>some (a.length+i) | none=>lastW n a:=by
 induction a with
 | nil=>intro b;cases h:lastW n b<;>simp[h,lastW]
 | cons x a ih=>
  intro b;obtain⟨c,d⟩:=x;simp only[qB,lastW,ih b]
  cases h:lastW n b with
  | none=>rfl
  | some i=>simp only[zV];congr 1;omega
theorem blkAt_app (n:Nat)(a b:Ws):blkAt n (a++b)=match blkAt n b with | some x=>some x | none=>blkAt n a:=by
 simp only[blkAt,lastW_app]
 cases h:lastW n b with
 | none=>
  simp only[Option.bind_none]
  cases f:lastW n a with
  | none=>rfl
  | some i=>
   obtain⟨h3,_⟩:=lastW_at f;simp[yQ h3]
 | some i=>
  obtain⟨h3,_⟩:=lastW_at h;simp[j5,h3]
end Go.Bk
namespace Go.Eng.Sh
open Go.Nd (Ptr Str)
open Go.Bk
def wV (w:Nat×Str):List AV:= .int .i64 (w.1:Nat)::bytesV w.2
structure Dx where
 nw:List (AV×AV)
 on:List (AV×AV)
 wo:Ws
 ww:Ws
structure DkI (H:AH)(Ad nb:Nat)(ws:Ws)(On Nw:Nat)(wv:AV)(es:Dx):Prop where
 gD:H.h.get Ad=some (.cells [.int .i64 nb, .map On,wv, .map Nw, .int .i64 (0:Nat), .nS, .bool false] 100 1 false)
 gO:H.h.get On=some (.map [6] es.on)
 gN:H.h.get Nw=some (.map [6] es.nw)
 ow:Own 513 150 H wv es.ww.length (es.ww.flatMap wV)
 nw: ∀n:Nat,findA (.int .i64 n) es.nw=(lastW n es.ww).map fun i=> .int .i64 ((i:Nat):Int)
 ln: ∀w∈ws,w.2.length=512
 few:ws.length<=1000000
 ne:On≠Nw
 on_: ∀n:Nat,findA (.int .i64 n) es.on=(blkAt n es.wo).map fun b=> .agg (bytesV b)
 sp:ws=es.wo++es.ww
 oa:On+2=Ad
theorem wV_len {w:Nat×Str}(h:w.2.length=512):(wV w).length=513:=by simp[wV,bytesV_length,h]
theorem flatAtW: ∀(l:Ws) (i:Nat) (h:i<l.length),(∀w∈l,w.2.length=512)->((l.flatMap wV).drop (i*513)).take 513=wV l[i]
 | p::l,0,_,hl=>by
  rw[Nat.zero_mul,yE,yR,yX (wV_len (hl p zH))];rfl
 | p::l,i+1,h,hl=>by
  rw[yR,show(i+1)*513=513+i*513 by omega,<-List.drop_drop,yO (wV_len (hl p zH))];exact flatAtW l i (by simpa using h) fun w a=>hl w (zC _ a)
def blkZ (n:Nat)(a:Ws):Str:=(blkAt n a).getD (List.replicate 512 0)
theorem blkZ_len {a:Ws}(n: ∀w∈a,w.2.length=512):(blkZ h a).length=512:=by
 rw[blkZ,blkAt]
 cases hl:lastW h a with
 | none=>simp
 | some i=>
  obtain⟨f,_⟩:=lastW_at hl;simp only[yD,zO f,zY,yB];exact n _ (yH f)
theorem keyI (z:Int):keyOk [6] (.int .i64 z)=true:=rfl
theorem ask_ok{Ad:Ws}{es:Dx}(d:DkI H h w Ad l s k es)(m:C<w):f119 D n [.ptr h 0, .int .i64 C] H=some (.int .i64 (0:Nat),H):=by
 have i:Eng.ld1 (.ptr h 6) H=some (.bool false):=by rw[ld1_get d.gD];rfl
 have j:Eng.ld1 (.ptr h 0) H=some (.int .i64 w):=by rw[ld1_get d.gD];rfl
 have a:f44 D n [.ptr h 0] H=some (.int .i64 (0:Nat),H):=by
  simp(maxSteps:=999999)(disch:=omega) only[f44,eZ,cq,i]
 have f: ¬(((0:Nat):Int)≠((0:Nat):Int)):=by omega
 have t1: ¬(C:Int)< ((0:Nat):Int):=by omega
 have t2: ¬(w:Int)<=(C:Int):=by omega
 simp(maxSteps:=999999)(disch:=omega) only[f119,eZ,a,f,t1,j,t2]
theorem dkread_ok(Nw:H.ok){a:Ws}{es:Dx}(d:DkI H h w a l s q es){k:Nat}(K:k<w):
  ∃H',f91 D n [.ptr h 0, .int .i64 k] H=some (.tuple [.agg (bytesV (blkZ k a)), .int .i64 (0:Nat)],H')/\Prs H H':=by
 obtain⟨Z,u⟩: ∃Z:Str,Z=List.replicate 512 0:=⟨_,rfl⟩;have L:Z.length=512:=by rw[u];simp
 have v:rep 512 [AV.int .u8 (0:Nat)]=bytesV Z:=by rw[rep_row,u]
 obtain⟨Ad,A4,b1,j,S,m1,n1⟩:=box Nw (.cells (bytesV Z) 144 1 false);have f:DkI Ad h w a l s q es:=⟨jY j Nw d.gD,jY j Nw d.gO,jY j Nw d.gN,d.ow.mono j fun _ _ x=>x,d.nw,d.ln,d.few,d.ne,d.on_,d.sp,d.oa⟩;have C:=ask_ok D n f K;have y: ¬(((0:Nat):Int)≠((0:Nat):Int)):=by omega
 have F:Eng.ld1 (.ptr h 3) Ad=some (.map s):=by rw[ld1_get f.gD];rfl
 have T:Eng.ld1 (.ptr h 1) Ad=some (.map l):=by rw[ld1_get f.gD];rfl
 have U:Eng.ld1 (.ptr h 2) Ad=some q:=by rw[ld1_get f.gD];rfl
 have z:(blkZ k a).length=512:=blkZ_len d.ln;obtain⟨V,G,W,Y⟩:=stR j.ok S L z;have I:=ldR W z;refine⟨V, ?_,j.fresh Y fun B hB=>by omega⟩;have On:=d.sp
 cases hl:lastW k es.ww with
 | none=>
  have m:=d.nw k;rw[hl]at m;have t:lkM [6] (.int .i64 (0:Nat)) true (.map s) (.int .i64 k) Ad=some (.tuple [.int .i64 (0:Nat), .bool false]):=by
   simp only[lkM,keyI,zP,f.gN,show eqNL [6] [6]=true from rfl,m,Option.map_none];rfl
  have M:blkAt k a=blkAt k es.wo:=by rw[On,blkAt_app,show blkAt k es.ww=none by rw[blkAt,hl];rfl]
  have N:lkM [6] (.agg (bytesV Z)) false (.map l) (.int .i64 k) Ad=some (.agg (bytesV (blkZ k a))):=by
   have p:=d.on_ k;rw[<-M]at p;rw[blkZ]
   cases hb:blkAt k a with
   | none=>
    rw[hb]at p;simp only[lkM,keyI,zP,f.gO,show eqNL [6] [6]=true from rfl,p,Option.map_none];rw[u];rfl
   | some b=>
    rw[hb]at p;simp only[lkM,keyI,zP,f.gO,show eqNL [6] [6]=true from rfl,p,zY];rfl
  simp(maxSteps:=999999)(disch:=omega) only[f91,eZ,v,b1,C,y,F,t,pExtract,nth,T,N,G,I]
 | some i=>
  obtain⟨hi,_⟩:=lastW_at hl;have m:=d.nw k;rw[hl]at m;have t:lkM [6] (.int .i64 (0:Nat)) true (.map s) (.int .i64 k) Ad=some (.tuple [.int .i64 i, .bool true]):=by
   simp only[lkM,keyI,zP,f.gN,show eqNL [6] [6]=true from rfl,m,zY];rfl
  have hz:blkZ k a=es.ww[i].2:=by rw[blkZ,On,blkAt_app,show blkAt k es.ww=some es.ww[i].2 by rw[blkAt,hl];simp[zO hi]];rfl
  obtain⟨A,o,c,e,sz,g,q1,q2,q3,q4,J⟩:=Rw.at f.ow.row hi;rw[flatAtW es.ww i hi fun nb hw=>d.ln nb (by rw[On];exact qT _ hw)]at J;have O:=q1 .i64 (i:Int) rfl;have Q:ldN 512 (.ptr A (o+1)) Ad=some (.agg (bytesV (blkZ k a))):=by
   rw[ldN_ptr q2 (by omega),hz];have h2:(c.drop (o+1)).take 512=((c.drop o).take 513).drop 1:=by
    rw[List.drop_take,List.drop_drop]
   rw[h2,J];rfl
  simp(maxSteps:=999999)(disch:=omega) only[f91,eZ,v,b1,C,y,F,t,pExtract,nth,U,O,Q,G,I]
end Go.Eng.Sh
end
section
namespace Go.Eng
theorem aveqU (s t:Nat):aveq (.int .u64 (s:Nat)) (.int .u64 (t:Nat))=decide (s=t):=by
 have:keq .u64 .u64=true:=by rw[keq_eq];simp
 simp only[aveq,this,Bool.true_and,ieq_eq];rw[yG];simp only[zU,beq_iff_eq];exact Int.ofNat_inj
theorem keyU (s:Nat):keyOk [10] (.int .u64 (s:Nat))=true:=rfl
end Go.Eng
namespace Go.Eng.Sh
open Go.Nd (Ptr sumL)
abbrev PN:=List (Nat×Nd.Node)
def lookN (s:Nat):PN->Option Nd.Node
 | []=>none
 | (a,n)::l=>if a=s then some n else lookN s l
def cutN (s:Nat):PN->PN
 | []=>[]
 | (a,n)::l=>if a=s then l else(a,n)::cutN s l
def Pend (H:AH):List (AV×AV)->PN->Prop
 | [],[]=>True
 | (k,v)::es,(s,nd)::q=>(k= .int .u64 (s:Nat)/\NodeG H v nd)/\Pend H es q
 | _,_=>False
theorem Pend.len {H:AH} : ∀ {es:List (AV×AV)} {q:PN},Pend H es q->es.length=q.length
 | [],[],_=>rfl
 | _::es,_::q,h=>by simp[Pend.len h.2]
 | [],_::_,h=>h.elim
 | _::_,[],h=>h.elim
theorem Pend.find {H:AH}(s:Nat): ∀ {es:List (AV×AV)} {q:PN},Pend H es q->(∀a,lookN s q=some a-> ∃v,findA (.int .u64 (s:Nat)) es=some v/\NodeG H v a/\ ∃k,(k,v)∈es)/\(lookN s q=none->findA (.int .u64 (s:Nat)) es=none)
 | [],[],_=>⟨fun a h=>(by cases h),fun _=>rfl⟩
 | (k,v)::es,(t,a)::q,h=>by
  obtain⟨⟨rfl,j⟩,m⟩:=h;obtain⟨o,p⟩:=Pend.find s m;simp only[lookN,findA,aveqU];by_cases e:t=s
  .subst e;refine⟨fun f h=> ?_,fun h=>by simp at h⟩;simp only[if_true,zB]at h;subst h;exact⟨v,by simp,j,_,zH ..⟩
  .have i: ¬s=t:=fun h=>e h.symm
   refine⟨fun f h=> ?_,fun h=> ?_⟩
   .rw[if_neg e]at h;obtain⟨u,x,y,k,z⟩:=o f h;exact⟨u,by simp[i,x],y,k,zC _ z⟩
   .rw[if_neg e]at h;simp[i,p h]
 | [],_::_,h=>h.elim
 | _::_,[],h=>h.elim
theorem Pend.frame {H H':AH} : ∀ {es:List (AV×AV)} {q:PN},Pend H es q->(∀kv∈es,∀a,NodeG H kv.2 a->NodeG H' kv.2 a)->Pend H' es q
 | [],[],_,_=>trivial
 | (k,v)::es,(s,a)::q,h,hf=>⟨⟨h.1.1,hf (k,v) (zH ..) a h.1.2⟩,Pend.frame h.2 fun kv f=>hf kv (zC _ f)⟩
 | [],_::_,h,_=>h.elim
 | _::_,[],h,_=>h.elim
theorem Pend.snoc {H:AH}{v:AV}{s:Nat}{a:Nd.Node}(f:NodeG H v a): ∀ {es:List (AV×AV)} {q:PN},Pend H es q->Pend H (es++[(.int .u64 (s:Nat),v)]) (q++[(s,a)])
 | [],[],_=>⟨⟨rfl,f⟩,trivial⟩
 | _::es,_::q,h=>⟨h.1,Pend.snoc f h.2⟩
 | [],_::_,h=>h.elim
 | _::_,[],h=>h.elim
theorem lookN_app (s:Nat): ∀(a b:PN),lookN s (a++b)=match lookN s a with | some n=>some n | none=>lookN s b
 | [],_=>rfl
 | (t,n)::a,b=>by
  simp only[qB,lookN];split
  .rfl
  .exact lookN_app s a b
theorem setA_none {k v:AV} : ∀ {es:List (AV×AV)},findA k es=none->setA k v es=none
 | [],_=>rfl
 | (a,b)::es,h=>by
  simp only[findA]at h;simp only[setA]
  cases e:aveq k a with
  | true=>rw[e]at h;cases h
  | false=>rw[e]at h;simp only[y9]at h⊢;rw[setA_none h]
theorem Pend.del {H:AH}(s:Nat): ∀ {es:List (AV×AV)} {q:PN},Pend H es q->(∀f,lookN s q=some f-> ∃es',delA (.int .u64 (s:Nat)) es=some es'/\Pend H es' (cutN s q)/\ ∀kv∈es',kv∈es)
 | [],[],_=>fun f h=>by cases h
 | (k,v)::es,(t,f)::q,h=>by
  obtain⟨⟨rfl,m⟩,j⟩:=h;have o:=Pend.del s j;simp only[lookN,delA,aveqU,cutN];by_cases e:t=s
  .subst e;intro i _;exact⟨es,by simp,by simpa using j,fun kv a=>zC _ a⟩
  .have p: ¬s=t:=fun h=>e h.symm
   intro i h;rw[if_neg e]at h;obtain⟨es',u,x,y⟩:=o i h;refine⟨(.int .u64 (t:Nat),v)::es',by simp[p,u], ?_,fun kv a=> ?_⟩
   .rw[if_neg e];exact⟨⟨rfl,m⟩,x⟩
   .rcases zM.1 a with rfl | a
    .exact zH ..
    .exact zC _ (y kv a)
 | [],_::_,h=>h.elim
 | _::_,[],h=>h.elim
def NoRow (o:AObj):Prop:=(∃x r e g,o= .cells (x::r) e 1 g/\ ∀l b,x≠ .str l b)\/(∃ks es,o= .map ks es)\/ ∃l e k g,o= .cells l e k g/\k≠1/\k≠3
theorem Grow.nsep {k e n:Nat}{H:AH}{v:AV}{l:List AV}(h:Grow k e H v n l){A:Nat}{o:AObj}(a:H.h.get A=some o)(i: ∀j g,o≠ .cells l j k g): ¬Blk v A:=by
 intro hb;rcases h with⟨_,⟨rfl,_⟩ | ⟨B,rfl,_,f⟩⟩ | ⟨_,B,j,g,rfl,_,f,_⟩
 .exact jZ.1 hb
 .rw[jS.1 hb]at a;rw[f]at a;exact i _ _ (y0 a).symm
 .rw[jS.1 hb]at a;rw[f]at a;exact i _ _ (y0 a).symm
def jR:=@Grow.nsep
theorem NodeG.nblk {o:AObj}(v:NodeG H k i)(f:H.h.get h=some o)(j:NoRow o): ¬blkN k h:=by
 obtain⟨ks,vs,C,rfl,p,q,h3⟩:=v;have m: ∀(l:List Str),∀a g,o≠ .cells (l.map S) a 1 g:=fun l a g e=>by
  rcases j with⟨x,r,s,t,rfl,u⟩ | ⟨_,_,rfl⟩ | ⟨_,_,_,_,rfl,k1,k3⟩
  .simp only[AObj.cells.injEq]at e
   cases l with
   | nil=>simp at e
   | cons y l=>
    simp only[y6,yF]at e;exact u _ _ e.1.1
  .cases e
  .simp only[AObj.cells.injEq]at e;omega
 have z: ∀a g,o≠ .cells (i.kids.flatMap ptrV) a 3 g:=fun a g e=>by
  rcases j with⟨x,r,s,t,rfl,_⟩ | ⟨_,_,rfl⟩ | ⟨_,_,_,_,rfl,k1,k3⟩
  .simp only[AObj.cells.injEq]at e;omega
  .cases e
  .simp only[AObj.cells.injEq]at e;omega
 intro hb;rcases blkN_mk.1 hb with v | v | v
 .exact jR p f (m _) v
 .exact jR q f (m _) v
 .exact jR h3 f z v
theorem NodeG.stp (h:NodeG H k i)(s:Stp F H e)(f: ∀A,blkN k A-> ¬F A):NodeG e k i:=by
 obtain⟨ks,vs,j,rfl,m,o,h3⟩:=h;exact⟨ks,vs,j,rfl,m.mono s (fun A a=>f A (blkN_mk.2 (.inl a))),o.mono s (fun A a=>f A (blkN_mk.2 (.inr (.inl a)))),h3.mono s (fun A a=>f A (blkN_mk.2 (.inr (.inr a))))⟩
theorem NodeG.lt {H:AH}{v:AV}{a:Nd.Node}(h:NodeG H v a){B:Nat}(f:blkN v B):B<H.next:=by
 obtain⟨ks,vs,m,rfl,i,j,h3⟩:=h;rcases blkN_mk.1 f with h | h | h
 .exact i.lt h
 .exact j.lt h
 .exact h3.lt h
theorem Stp.thr {T:Nat->Prop}(h:Stp F H e)(k:Stp T e M)(f: ∀A,T A->H.next<=A\/F A):Stp F H M:=
 ⟨k.ok,qP h.next k.next,fun A i j=>by
  rw[k.keep A (qF i h.next) (fun x=>by rcases f A x with y | y;omega;exact j y),h.keep A i j]⟩
def treeC (d c:AV)(root:Ptr)(M last:Nat)(dr:AV):List AV:=[d,c, .int .i64 root.at_, .int .i64 root.birth, .int .u64 root.sum, .map M, .int .u64 (last:Nat),dr]
structure Ev where
 nb:Nat
 ws:Bk.Ws
 dl:List Ptr
 x:Nat->Prop
def XE (E:Ev)(dr:AV)(B:Nat):Prop:=Blk dr B\/E.x B
def OnD (E:Ev)(p:Ptr)(f:Nd.Node):Prop:= ∃(a birth:Nat) (kind:UInt8) (body:Str),p=ptrB a birth (Bk.sealB kind birth body)/\2<=a/\a<E.nb/\(a<8192/\ ∀k∈f.kids,k.at_≠1)/\birth<=2147483647/\body.length<=500/\Bk.blkAt a E.ws=some (Bk.sealB kind birth body)/\(kind=1\/kind=2)/\Nd.decN ltS (decide (kind=1)) body=some f
theorem onD_one {E:Ev}(h:OnD E B i)(q:OnD E B J):i=J:=by
 obtain⟨a,b,k,s,rfl,_,_,_,hb,t,u,_,v⟩:=h;obtain⟨x,y,k',m,e,_,_,_,I,o,p,_,j⟩:=q;simp only[ptrB,Ptr.mk.injEq]at e;have z:a=x:=by omega
 have C:b=y:=by omega
 subst z;subst C;rw[u]at p;obtain⟨F,G⟩:=Bk.seal_inj t o (y0 p);subst F;subst G;rw[v]at j;exact y0 j
open Classical in
noncomputable def Ev.K (E:Ev)(p:Ptr):Option Nd.Node:=if h: ∃nd,OnD E p nd then some (Classical.choose h)else none
theorem Ev.K_iff {E:Ev}{p:Ptr}{a:Nd.Node} :E.K p=some a↔OnD E p a:=by
 rw[Ev.K];constructor
 .intro h;split at h
  .rename_i f;rw[<-y0 h];exact Classical.choose_spec f
  .cases h
 .intro h;rw[dif_pos ⟨a,h⟩];exact congrArg some (onD_one (Classical.choose_spec (⟨a,h⟩: ∃a,OnD E p a)) h)
def jU:=@Ev.K_iff
def pp (s:Nat):Ptr:=⟨1,0,(s:Nat)⟩
noncomputable def Qf (E:Ev)(q f:PN)(p:Ptr):Option Nd.Node:=if p=pp p.sum.toNat then(match lookN p.sum.toNat f with | some n=>some n | none=>lookN p.sum.toNat q)else E.K p
theorem Qf_pp (E:Ev)(q f:PN)(s:Nat):Qf E q f (pp s)=match lookN s f with | some n=>some n | none=>lookN s q:=by simp[Qf,pp]
theorem Qf_inv {E:Ev}{q f:PN}(h:Qf E q f B=some i):(∃s,B=pp s/\(lookN s f=some i\/(lookN s f=none/\lookN s q=some i)))\/((∀s,B≠pp s)/\E.K B=some i):=by
 simp only[Qf]at h;split at h
 .rename_i e;refine .inl ⟨_,e, ?_⟩;split at h
  .rename_i n p;exact .inl (p.trans h)
  .rename_i p;exact .inr ⟨p,h⟩
 .rename_i e;exact .inr ⟨fun s es=>e (by rw[es];simp[pp]),h⟩
theorem Qf_disk {E:Ev}{q f:PN}(h: ∀s,B≠pp s):Qf E q f B=E.K B:=by rw[Qf,if_neg (h _)]
structure TI (E:Ev)(H:AH)(At M:Nat)(d c:AV)(root:Ptr)(es:List (AV×AV))(q:PN)(last:Nat)(dr:AV):Prop where
 ok:H.ok
 gT:H.h.get At=some (.cells (treeC d c root M last dr) 82 1 false)
 gM:H.h.get M=some (.map [10] es)
 pq:Pend H es q
 dk: ∃Ad On Nw wv ds,d= .ptr Ad 0/\DkI H Ad E.nb E.ws On Nw wv ds
 cn:c= .nP\/ ∀p,E.K p=none
 dg:Grow 3 38 H dr E.dl.length (E.dl.flatMap ptrV)
 ds: ∀kv∈es,∀B,blkN kv.2 B-> ¬XE E dr B
 few:q.length<=1000000000
 xl: ∀B,E.x B->B<H.next
theorem TI.hd {last:Ev}{root:Ptr}{M:PN}(At:TI last H h w k q root A M l E): ∃d o,k= .ptr d o:=by
 obtain⟨d,_,_,_,_,e,_⟩:=At.dk;exact⟨d,0,e⟩
theorem DkI.stp {f:Bk.Ws}{es:Dx}(d:DkI H h w f l s k es)(a:H.ok)(H':Stp F H e)(S: ¬F h)(i: ¬F l)(h3: ¬F s)(j: ∀B,Blk k B-> ¬F B):DkI e h w f l s k es:=
 ⟨by rw[H'.keep _ (a.lt d.gD) S];exact d.gD,by rw[H'.keep _ (a.lt d.gO) i];exact d.gO,by rw[H'.keep _ (a.lt d.gN) h3];exact d.gN,d.ow.mono H' j,d.nw,d.ln,d.few,d.ne,d.on_,d.sp,d.oa⟩
theorem DkI.prs {a:Bk.Ws}{es:Dx}(d:DkI H h w a l s k es)(f:H.ok)(H':Prs H e):DkI e h w a l s k es:=d.stp f H' (fun x=>x) (fun x=>x) (fun x=>x) fun _ _ x=>x
theorem TI.prs {E:Ev}{H H':AH}{At M last:Nat}{d c dr:AV}{root:Ptr}{es:List (AV×AV)}{q:PN}(h:TI E H At M d c root es q last dr)(s:Prs H H'):TI E H' At M d c root es q last dr:=
 ⟨s.ok,jY s h.ok h.gT,jY s h.ok h.gM,h.pq.frame fun kv _ i a=>a.prs s,by
  obtain⟨Ad,On,Nw,wv,ds,e,hd⟩:=h.dk;exact⟨Ad,On,Nw,wv,ds,e,hd.prs h.ok s⟩,h.cn,h.dg.mono s fun _ _ x=>x,h.ds,h.few,fun B f=>qF (h.xl B f) s.next⟩
theorem none_ok{last:Ev}{M:PN}(At:TI last H h w k q B A M l E):f31 D n [.ptr h 0] H=some (.bool false,H):=by
 obtain⟨d,o,rfl⟩:=At.hd;simp only[f31,eZ,cq,ld1_get At.gT,treeC]
theorem most_ok{last:Ev}{M:PN}(At:TI last H h w k q B A M l E):f67 D n [.ptr h 0] H=some (.int .i64 (8192+M.length:Nat),H):=by
 have f:=At.few;have a:lnMap (.map w) H=some (.int .i64 M.length):=by
  simp only[lnMap,At.gM,fN_eq,At.pq.len];rfl
 have e:((8192:Nat):Int)+(M.length:Int)=((8192+M.length:Nat):Int):=by omega
 simp(disch:=omega) only[f67,eZ,ld1_get At.gT,treeC,a,e]
theorem read_pend{c:Ev}{d:PN}(At:TI c H h w k q B A d l E)(V:lookN s d=some i):
  ∃v H',f68 D n [.ptr h 0, .agg (ptrV (pp s))] H=some (.tuple [v, .int .i64 (0:Nat)],H')/\Prs H H'/\NodeG H' v i/\ ∃last,(last,v)∈A:=by
 obtain⟨v,W,y,hm⟩:=(At.pq.find s).1 i V;obtain⟨H1,z,b1,f,C,m1,n1⟩:=box At.ok (.cells [.int .i64 (1:Nat), .int .i64 (0:Nat), .int .u64 (s:Nat)] 38 1 false);obtain⟨F,A4,b2,root,Y,m2,n2⟩:=box f.ok (.cells [.bool false, .nS, .nS, .nS] 72 1 false);have a:Prs H F:=f.trans root;obtain⟨G,Z,b3,j,g3,m3,n3⟩:=box a.ok (.cells [.bool false, .nS, .nS, .nS] 72 1 false);have I:=a.trans j;obtain⟨M,rfl,o,J⟩:=y.cells;obtain⟨m,e4,g4,t,n4⟩:=st_all I.ok g3 (l':=M) o J;have N:stN 4 (.ptr Z 0) (.agg M) G=some (undefA,m):=e4;have K:Prs H m:=I.fresh t (fun dr hB=>by have:=a.next;omega)
 obtain⟨u,e5,g5,s5,n5⟩:=st_all K.ok (show m.h.get A4=some (.cells [.bool false, .nS, .nS, .nS] 72 1 false)by rw[t.keep _ (by have:=j.next;omega) (by omega)];exact jY j a.ok Y) (l':=M) o J
 have O:stN 4 (.ptr A4 0) (.agg M) m=some (undefA,u):=e5;have L:Prs H u:=K.fresh s5 (fun dr hB=>by have:=f.next;omega)
 have x:G.h.get z=some (.cells [.int .i64 (1:Nat), .int .i64 (0:Nat), .int .u64 (s:Nat)] 38 1 false):=jY j a.ok (jY root f.ok C);have Q:=jY root f.ok C;have S:m.h.get z=some (.cells [.int .i64 (1:Nat), .int .i64 (0:Nat), .int .u64 (s:Nat)] 38 1 false):=by rw[t.keep _ (by have:=root.next;have:=j.next;omega) (by have:=root.next;omega)];exact x
 have T:lkM [10] (.agg [.bool false, .nS, .nS, .nS]) true (.map w) (.int .u64 (s:Nat)) F=some (.tuple [.agg M, .bool true]):=by
  simp only[lkM,keyU,zP,jY a At.ok At.gM,show eqNL [10] [10]=true from rfl,W];rfl
 refine⟨.agg M,u, ?_,L,y.prs L,hm⟩;have U: ¬(((0:Nat):Int)≠((0:Nat):Int)):=by omega
 have hp:ptrV (pp s)=[.int .i64 (1:Nat), .int .i64 (0:Nat), .int .u64 (s:Nat)]:=rfl;rw[hp];simp(maxSteps:=999999)(disch:=omega) only[f68,eZ,b1,b2,ld1_get Q,ld1_get x,ld1_get S,ld1_get (jY a At.ok At.gT),treeC,T,pExtract,nth,b3,N,U,agg4 g4 o,O,agg4 g5 o]
theorem NodeO.free (h:NodeO H e k i):NodeF H.next e k i:=by
 obtain⟨ks,vs,f,rfl,H0,j,h3,m,_⟩:=h;exact⟨⟨ks,vs,f,rfl, .inl H0, .inl j, .inl h3⟩,fun B o=>m B (blkN_mk.1 o)⟩
theorem body_ok(V:1000<=n){E:Ev}{M:PN}(At:TI E H h w k .nP B A M l q){body:Str}(ha:2<=s)(J:s<E.nb)(hb:C<=2147483647)(hl:body.length<=500)(I:Bk.blkAt s E.ws=some (Bk.sealB Q C body)):
  ∃H',f98 D n [.ptr h 0, .agg (ptrV (ptrB s C (Bk.sealB Q C body)))] H=some (.tuple [.int .u8 Q.toNat,S body, .int .i64 (0:Nat)],H')/\Prs H H':=by
 obtain⟨last,m⟩: ∃last,last=Bk.sealB Q C body:=⟨_,rfl⟩;have o:=Bk.sealB_len (kind:=Q) (birth:=C) hl;obtain⟨p,d,b1,f,v,m1,n1⟩:=box At.ok (.cells (ptrV (ptrB s C last)) 38 1 false);obtain⟨Z,x⟩: ∃Z:Str,Z=List.replicate 512 0:=⟨_,rfl⟩;have K:Z.length=512:=by rw[x];exact List.length_replicate
 have L:rep 512 [AV.int .u8 (0:Nat)]=bytesV Z:=by rw[rep_row,x]
 obtain⟨H2,a0,b2,i,W,m2,n2⟩:=box f.ok (.cells (bytesV Z) 144 1 false);have N1:=f.next;have N2:=i.next
 have Y:=(At.prs f).prs i;obtain⟨Ad,On,Nw,wv,ds,rfl,hd⟩:=Y.dk;obtain⟨H3,y,j⟩:=dkread_ok D n i.ok hd J;have N:blkZ s E.ws=last:=by rw[blkZ,I,m];rfl
 rw[N]at y;rw[<-m]at o;obtain⟨t,e4,g4,z⟩:=stR j.ok (jY j i.ok W) K o;have N3:=j.next
 have u:Prs H t:=((f.trans i).trans j).fresh z fun last m=>by omega
 have O:t.h.get d=some (.cells (ptrV (ptrB s C last)) 38 1 false):=by
  rw[z.keep _ (by omega) (by omega)];exact jY (i.trans j) f.ok v
 obtain⟨dr,F,G⟩:=check_ok D n V u.ok Q (at_:=s) (by omega) hb hl;rw[<-m]at F⊢;have h5:=(At.prs u).prs G;have c1:Eng.ld1 (.ptr h 1) p=some .nP:=by rw[ld1_get (At.prs f).gT];rfl
 have root:Eng.ld1 (.ptr h 0) p=some (.ptr Ad 0):=by rw[ld1_get (At.prs f).gT];rfl
 have c5:Eng.ld1 (.ptr h 1) dr=some .nP:=by rw[ld1_get h5.gT];rfl
 have r1:Eng.ld1 (.ptr d 0) p=some (.int .i64 s):=by rw[ld1_get v];rfl
 have T:ldN 3 (.ptr d 0) t=some (.agg (ptrV (ptrB s C last))):=by rw[ldN_get O];rfl
 have r4:=ldR g4 o;have U: ¬(((0:Nat):Int)≠((0:Nat):Int)):=by omega
 refine⟨dr, ?_,u.trans G⟩;simp(maxSteps:=999999)(disch:=omega) only[f98,f98j1,f98j2,eZ,b1,c1,cq,root,r1,L,b2,y,pExtract,nth,e4,U,T,r4,F,c5]
theorem read_disk (m n:Nat)(hn:200000000<=n){d:Ev}{p:Ptr}{last:PN}(At:TI d H h w k q B A last l E)(y:d.K p=some i):
  ∃v H',f68 (dy (m+1)) n [.ptr h 0, .agg (ptrV p)] H=some (.tuple [v, .int .i64 (0:Nat)],H')/\Prs H H'/\NodeG H' v i/\ ∀c,blkN v c->H.next<=c:=by
 have hc:q= .nP:=by
  rcases At.cn with e | e
  .exact e
  .rw[e]at y;cases y
 subst hc;obtain⟨a,birth,kind,body,rfl,ha,a2,_,hb,hl,a1,a0,G⟩:=jU.1 y;obtain⟨c,f⟩: ∃c,c=Bk.sealB kind birth body:=⟨_,rfl⟩;obtain⟨H1,L,b1,dr,N,m1,n1⟩:=box At.ok (.cells (ptrV (ptrB a birth c)) 38 1 false);obtain⟨O,A4,b2,j,g2,m2,n2⟩:=box dr.ok (.cells [.bool false, .nS, .nS, .nS] 72 1 false);have N1:=dr.next;have N2:=j.next
 have Q:=dr.trans j;obtain⟨H3,o,t⟩:=body_ok (dy (m+1)) n (by omega) (At.prs Q) ha a2 hb hl a1;rw[<-f]at o⊢;obtain⟨v,T,U,u,hO,M,rfl,z,lc⟩:=decode_ok m n hn t.ok (decide (kind=1)) body;rw[G]at U;have C:=(hO i G).free;have N3:=t.next;have N4:=u.next
 have P4:=(Q.trans t).trans u;obtain⟨V,e5,W,Y,n5⟩:=st_all u.ok (jY (t.trans u) j.ok g2) (l':=M) z lc;have I:stN 4 (.ptr A4 0) (.agg M) T=some (undefA,V):=e5;have s:f99 (dy (m+1)) n [.bool (decide (kind=1)),S body] H3=some (.tuple [.agg M, .int .i64 (0:Nat)],T):=U;have Z:Eng.ld1 (.ptr L 0) O=some (.int .i64 a):=by rw[ld1_get (jY j dr.ok N)];rfl
 have r3:ldN 3 (.ptr L 0) O=some (.agg (ptrV (ptrB a birth c))):=by rw[ldN_get (jY j dr.ok N)];rfl
 have t1: ¬(a:Int)=((1:Nat):Int):=by omega
 have J: ¬(((0:Nat):Int)≠((0:Nat):Int)):=by omega
 refine⟨.agg M,V, ?_,P4.fresh Y fun c f=>by omega,C.1.stp Y fun c f e=> ?_,fun c f=> ?_⟩
 .rcases a0 with rfl | rfl
  .have k1:(((1:UInt8).toNat:Nat):Int)=((1:Nat):Int):=rfl;have F:decide ((1:UInt8)=1)=true:=rfl;have t11: ¬(((1:Nat):Int)≠((1:Nat):Int)):=by omega
   rw[k1]at o;rw[F]at s;simp(maxSteps:=999999)(disch:=omega) only[f68,eZ,b1,b2,Z,t1,r3,o,pExtract,nth,J,t11,s,I,agg4 W z]
  .have k1:(((2:UInt8).toNat:Nat):Int)=((2:Nat):Int):=rfl;have F:decide ((2:UInt8)=1)=false:=rfl;have t21:((2:Nat):Int)≠((1:Nat):Int):=by omega
   have t22: ¬(((2:Nat):Int)≠((2:Nat):Int)):=by omega
   have t23: ¬((2:Nat):Int)=((1:Nat):Int):=by omega
   rw[k1]at o;rw[F]at s;simp(maxSteps:=999999)(disch:=omega) only[f68,eZ,b1,b2,Z,t1,r3,o,pExtract,nth,J,ne_eq,t23,jA,t22,s,I,agg4 W z]
 .have:=C.2 c f;omega
 .have:=C.2 c f;omega
theorem read_ok (m n:Nat)(dr:200000000<=n){d:Ev}{p:Ptr}{last:PN}(At:TI d H h w k q B A last l E)(j:Qf d last [] p=some i):
  ∃v H',f68 (dy (m+1)) n [.ptr h 0, .agg (ptrV p)] H=some (.tuple [v, .int .i64 (0:Nat)],H')/\Prs H H'/\NodeG H' v i/\((∃M,(M,v)∈A)\/ ∀c,blkN v c->H.next<=c):=by
 rcases Qf_inv j with⟨s,rfl,a | ⟨_,a⟩⟩ | ⟨_,a⟩
 .simp[lookN]at a
 .obtain⟨v,H',e,p,g,M⟩:=read_pend (dy (m+1)) n At a;exact⟨v,H',e,p,g, .inl M⟩
 .obtain⟨v,H',e,p,g,M⟩:=read_disk m n dr At a;exact⟨v,H',e,p,g, .inr M⟩
variable {X:Nat->Prop}
structure Ch (X:Nat->Prop)(H0 H:AH)(At Ac F:Nat)(fes:List (AV×AV))(f:PN)(g:AV)(gl:List Ptr)(last0 last:Nat):Prop where
 prs:Prs H0 H
 gC:H.h.get Ac=some (.cells [.ptr At 0, .int .u64 (last:Nat), .map F,g] 120 1 false)
 gF:H.h.get F=some (.map [10] fes)
 pf:Pend H fes f
 gg:Own 3 38 H g gl.length (gl.flatMap ptrV)
 gN: ∀B,Blk g B->H0.next<=B
 gf: ∀kv∈fes,∀B,blkN kv.2 B-> ¬Blk g B
 dC:H0.next<=Ac
 dF:H0.next<=F
 ne:Ac≠F
 fs: ∀s nd,lookN s f=some nd->last0<s/\s<=last
 le:last0<=last
 few:gl.length<=last+1000
 fd:(f.map Prod.fst).Nodup
 fl:f.length+last0<=last
 gx: ∀kv∈fes,∀B,blkN kv.2 B-> ¬X B
 xo: ∀B,X B->B<H0.next
theorem lookN_mem {s:Nat} : ∀ {q:PN},s∈q.map Prod.fst-> ∃a,lookN s q=some a
 | [],h=>by simp at h
 | (t,n)::q,h=>by
  simp only[lookN];by_cases e:t=s
  .exact⟨n,if_pos e⟩
  .rw[if_neg e];simp only[y6,zM]at h;exact lookN_mem (h.resolve_left fun f=>e f.symm)
def chg (a F:Nat)(g:AV)(B:Nat):Prop:=B=a\/B=F\/Blk g B
def Adv (a F:Nat)(H:AH)(g:AV)(H':AH)(f:AV):Prop:=Stp (chg a F g) H H'/\ ∀B,Blk f B->Blk g B\/H.next<=B
def NodeA (X:Nat->Prop)(H:AH)(g v:AV)(a:Nd.Node):Prop:=NodeG H v a/\ ∀B,blkN v B-> ¬Blk g B/\ ¬X B
theorem Adv.prs (g:AV)(s:Prs H e):Adv h w H g e g:=⟨s.mono (fun _ _ x=>x.elim),fun _ a=> .inl a⟩
theorem Adv.trans (i:h<H.next)(t:w<H.next)(a:Adv h w H k e q)(j:Adv h w e q M E):Adv h w H k M E:=by
 refine⟨⟨j.1.ok,qP a.1.next j.1.next,fun A i f=> ?_⟩,fun B m=> ?_⟩
 .rw[j.1.keep A (qF i a.1.next) (fun s=> ?_),a.1.keep A i f]
  rcases s with F | F | F
  .exact f (.inl F)
  .exact f (.inr (.inl F))
  .rcases a.2 A F with F | F
   .exact f (.inr (.inr F))
   .omega
 .have:=a.1.next
  rcases j.2 B m with F | F
  .exact a.2 B F
  .exact .inr (by omega)
theorem Ch.ltC {f:PN}(H0:Ch X H e h w l A f k t s C):w<e.next:=H0.prs.ok.lt H0.gC
theorem Ch.ltF {f:PN}(H0:Ch X H e h w l A f k t s C):l<e.next:=H0.prs.ok.lt H0.gF
theorem Ch.keep {p:List (AV×AV)}{f:PN}(H':Ch X H e h w l p f k t s C)(a:NodeA X e k q i)(j:Stp (chg w l k) e M):NodeG M q i:=
 a.1.stp j fun A F At=>by
  rcases At with rfl | rfl | H0
  .exact a.1.nblk H'.gC (.inl ⟨_,_,_,_,rfl,fun _ _ H0=>by cases H0⟩) F
  .exact a.1.nblk H'.gF (.inr (.inl ⟨_,_,rfl⟩)) F
  .exact(a.2 A F).1 H0
theorem Ch.next {f:PN}(H':Ch X H e h w l A f k t s C)(a:NodeA X e k E i)(j:Adv w l e k M q):NodeA X M q E i:=
 ⟨H'.keep a j.1,fun B F=>⟨fun At=>by
  rcases j.2 B At with H0 | H0
  .exact(a.2 B F).1 H0
  .have:=a.1.lt F;omega,(a.2 B F).2⟩⟩
theorem Ch.step {H0 H H':AH}{At j F:Nat}{i:List (AV×AV)}{f:PN}{g:AV}{gl:List Ptr}{a last:Nat}(h:Ch X H0 H At j F i f g gl a last)(s:Prs H H'):Ch X H0 H' At j F i f g gl a last:=
 ⟨h.prs.trans s,jY s h.prs.ok h.gC,jY s h.prs.ok h.gF,h.pf.frame fun kv _ o m=>m.prs s,h.gg.mono s (fun _ _ x=>x),h.gN,h.gf,h.dC,h.dF,h.ne,h.fs,h.le,h.few,h.fd,h.fl,h.gx,h.xo⟩
theorem NodeA.prs {H H':AH}{g v:AV}{a:Nd.Node}(h:NodeA X H g v a)(s:Prs H H'):NodeA X H' g v a:=⟨h.1.prs s,h.2⟩
theorem NodeF.hand {f:PN}(H0:Ch X H e h w l A f k t s C){N:Nat}(At:e.next<=N)(a:NodeF N M q i):NodeA X M k q i:=
 ⟨a.1,fun B j=>⟨fun H'=>by have:=a.2 B j;have:=kD H0.gg.row H';omega,fun p=>by have:=a.2 B j;have:=H0.xo B p;have:=H0.prs.next;omega⟩⟩
theorem NodeG.hand {f:PN}(H0:Ch X H e h w l A f k t s C)(p:NodeG M q i)(H': ∀B,blkN q B->B<H.next)(o: ∀B,blkN q B-> ¬X B):NodeA X M k q i:=
 ⟨p,fun B F=>⟨fun At=>by have:=H' B F;have:=H0.gN B At;omega,o B F⟩⟩
theorem bldQ (e:TypeId)(p:Ptr)(z:List AV)(a:z.length=3):bldL e 3 1 z [(0, .agg (ptrV p))]=some (.cells (ptrV p) e 3 false,fun A=> .slice A 0 1 2):=by
 match z,a with
 | [_,_,_],_=>rfl
theorem sub3p (p:Ptr):subN (ptrV p) 0 3=some (ptrV p):=rfl
theorem goes_ok{f:PN}(At:Ch X H e h w l A f k t s C)(p:Ptr)(hl:t.length+1<=C+1000)(hb:C<=900000000):
  ∃J H',f71 D n [.ptr w 0, .agg (ptrV p)] e=some (.tuple [],H')/\Ch X H H' h w l A f J (t++[p]) s C/\Adv w l e k H' J:=by
 obtain⟨H1,A3,b1,K,g1,m1,n1⟩:=box At.prs.ok (.cells (ptrV p) 38 1 false);obtain⟨U,A4,b2,p2,g2,m2,n2⟩:=box K.ok (.cells (ptrV p) 38 3 false);have g:=K.trans p2;have j:=At.step g;have W:srcOf 3 (.slice A4 0 1 2) U=some (1,ptrV p):=by
  simp only[srcOf,g2];rfl
 obtain⟨J,L,e3,M,y,w3,f3⟩:=apP_any (bytes:=24) j.prs.ok (by decide) j.gg W rfl rfl (by omega) (by decide);have V: ¬Blk k w:=fun a=>by
  obtain⟨_,⟨rfl,_⟩ | ⟨m,rfl,_,u⟩⟩:=j.gg
  .exact jZ.1 a
  .rw[<-jS.1 a,j.gC]at u;simp at u
 have nF: ¬Blk k l:=fun a=>by
  obtain⟨_,⟨rfl,_⟩ | ⟨m,rfl,_,u⟩⟩:=j.gg
  .exact jZ.1 a
  .rw[<-jS.1 a,j.gF]at u;simp at u
 have Z:L.h.get w=some (.cells [.ptr h 0, .int .u64 (C:Nat), .map l,k] 120 1 false):=by rw[y.keep _ j.ltC V];exact j.gC
 have a0:L.h.get l=some (.map [10] A):=by rw[y.keep _ j.ltF nF];exact j.gF
 obtain⟨G,e4,g4,N,n4⟩:=st_fld y.ok Z (o:=3) (x:=J) M.row.isCell (by simp);have a3: ∀B,Blk J B->B<L.next:=fun B a=>kD M.row a
 have a1: ¬Blk J w:=fun a=>by
  rcases f3 w a with H0 | H0
  .exact V H0
  .have:=j.ltC;omega
 have S2:Stp (chg w l k) U G:=(y.mono (fun _ _ x=> .inr (.inr x))).trans (N.mono (fun _ _ x=> .inl x));have S:Stp (chg w l k) e G:=(g.mono (fun _ _ x=>x.elim)).trans S2;have Y:Adv w l e k G J:=⟨S,fun B a=>by
  rcases f3 B a with H0 | H0
  .exact .inl H0
  .have:=g.next;exact .inr (by omega)⟩
 have a2:(t++[p]).flatMap ptrV=t.flatMap ptrV++ptrV p:=by simp
 refine⟨J,G, ?_,⟨?_, ?_, ?_, ?_, ?_, ?_, ?_,At.dC,At.dF,At.ne,At.fs,At.le,by simpa using hl,At.fd,At.fl,At.gx,At.xo⟩,Y⟩
 .have e1:=bldQ 38 p [.int .i64 (0:Nat), .int .i64 (0:Nat), .int .u64 (0:Nat)] rfl;simp(disch:=omega) only[f71,eZ,b1,ld1_get (jY K At.prs.ok At.gC),ldN_get g1,sub3p,zY,e1,b2,e3,e4]
 .exact At.prs.fresh S (fun B a=>by
   have:=At.dC;have:=At.dF;rcases a with H0 | H0 | H0
   .omega
   .omega
   .exact At.gN B H0)
 .exact g4
 .rw[N.keep _ (by have:=y.next;have:=j.ltF;omega) (fun H0=>At.ne H0.symm)];exact a0
 .exact At.pf.frame fun kv v z O=>At.keep ⟨O,fun B a=>⟨At.gf kv v B a,At.gx kv v B a⟩⟩ S
 .rw[a2];have:=M.mono N (fun B a H0=>a1 (H0▸a));simpa using this
 .intro B a;rcases f3 B a with H0 | H0
  .exact At.gN B H0
  .have:=j.prs.next;omega
 .intro kv v B a u;obtain⟨i,hi⟩:=List.mem_iff_getElem.1 v;have a4:B<e.next:=by
   have hp: ∀ {es:List (AV×AV)} {q:PN},Pend e es q-> ∀kv∈es,∃z,NodeG e kv.2 z:=by
    intro es
    induction es with
    | nil=>intro q _ kv At;simp at At
    | cons H0 es ih=>
     intro q I kv Q
     match q,I with
     | (F,z)::q,I=>
      rcases zM.1 Q with rfl | Q
      .exact⟨z,I.1.2⟩
      .exact ih I.2 kv Q
   obtain⟨z,O⟩:=hp At.pf kv v;exact O.lt a
  rcases f3 B u with H0 | H0
  .exact At.gf kv v B a H0
  .have:=g.next;omega
theorem add_ok{f:PN}(At:Ch X H e h w l A f k t s C)(K:NodeA X e k q i)(hb:C<=900000000):
  ∃H',f65 D n [.ptr w 0,q] e=some (.agg (ptrV (pp (C+1))),H')/\Ch X H H' h w l (A++[(.int .u64 (C+1:Nat),q)]) (f++[(C+1,i)]) k t s (C+1)/\Adv w l e k H' k:=by
 obtain⟨m,rfl,ll,lc⟩:=K.1.cells;obtain⟨H1,A3,b1,L,g1,m1,n1⟩:=box At.prs.ok (.cells m 72 1 false);obtain⟨H2,A4,b2,Q,g2,m2,n2⟩:=box L.ok (.cells [.int .i64 (0:Nat), .int .i64 (0:Nat), .int .u64 (0:Nat)] 38 1 false);have W:=L.trans Q;have u:=At.step W;obtain⟨p,e3,gl,g,n3⟩:=st_fld u.prs.ok u.gC (o:=1) (x:= .int .u64 (C+1:Nat)) rfl (by simp);have gl:p.h.get w=some (.cells [.ptr h 0, .int .u64 (C+1:Nat), .map l,k] 120 1 false):=gl;have T:p.h.get l=some (.map [10] A):=by rw[g.keep _ u.ltF (fun H0=>At.ne H0.symm)];exact u.gF
 have a1:findA (.int .u64 (C+1:Nat)) A=none:=(At.pf.find (C+1)).2 (by
  cases M:lookN (C+1) f with
  | none=>rfl
  | some a2=>have:=At.fs _ _ M;omega)
 have Y:upM [10] (.map l) (.int .u64 (C+1:Nat)) (.agg m) p=some (undefA,p.put l (.map [10] (A++[(.int .u64 (C+1:Nat), .agg m)]))):=by
  simp only[upM,keyU,zP,T,show eqNL [10] [10]=true from rfl,setA_none a1,putA_ok]
 have U:(p.put l (.map [10] (A++[(.int .u64 (C+1:Nat), .agg m)]))).h.get l=some (.map [10] (A++[(.int .u64 (C+1:Nat), .agg m)])):=by rw[jO,if_pos rfl]
 have y:Stp (fun B=>B=l) p (p.put l (.map [10] (A++[(.int .u64 (C+1:Nat), .agg m)]))):=(jV g.ok).put (g.ok.lt T) _ (.inr rfl);generalize p.put l (.map [10] (A++[(.int .u64 (C+1:Nat), .agg m)]))=H4 at Y U y;have V:H4.h.get w=some (.cells [.ptr h 0, .int .u64 (C+1:Nat), .map l,k] 120 1 false):=by rw[y.keep _ (g.ok.lt gl) At.ne];exact gl
 have a9:=At.ltC;have b0:=At.ltF;have N1:=L.next;have N2:=Q.next;have N3:=g.next;have N4:=y.next
 have a3:H4.h.get A4=some (.cells [.int .i64 (0:Nat), .int .i64 (0:Nat), .int .u64 (0:Nat)] 38 1 false):=by
  rw[y.keep _ (by omega) (by omega),g.keep _ n2 (by omega)];exact g2
 have a4:ldN 4 (.ptr A3 0) p=some (.agg m):=agg4 (e:=72) (by rw[g.keep _ (by omega) (by omega)];exact jY Q L.ok g1) ll;obtain⟨G,e5,g5,z,n5⟩:=st_all y.ok a3 (l':=ptrV (pp (C+1))) rfl rfl;have a5:stN 3 (.ptr A4 0) (.agg (ptrV (pp (C+1)))) H4=some (undefA,G):=e5;have Z:Stp (chg w l k) e H4:=((W.mono (fun _ _ x=>x.elim)).trans (g.mono (fun _ _ x=> .inl x))).trans (y.mono (fun _ _ x=> .inr (.inl x)));have N:Stp (chg w l k) e G:=⟨z.ok,qP Z.next z.next,fun F hA hS=>by rw[z.keep F (by omega) (by omega),Z.keep F hA hS]⟩
 have a0:Adv w l e k G k:=⟨N,fun B S=> .inl S⟩;have a6:IntKind.wrap .u64 ((C:Int)+((1:Nat):Int))=((C+1:Nat):Int):=by rw[wrap_u64];omega
 have bs:bldS [(0,1),(1,1),(2,1)] [.int .i64 (0:Nat), .int .i64 (0:Nat), .int .u64 (0:Nat)] [(0, .int .i64 (1:Nat)),(2, .int .u64 (C+1:Nat))]=some (.agg (ptrV (pp (C+1)))):=rfl;have r5:ldN 3 (.ptr A4 0) G=some (.agg (ptrV (pp (C+1)))):=by rw[ldN_get g5];rfl
 have a7:=At.keep K N;refine⟨G, ?_,⟨?_, ?_, ?_, ?_, ?_,At.gN, ?_,At.dC,At.dF,At.ne, ?_,by have:=At.le;omega,by have:=At.few;omega, ?_,by have:=At.fl;simp;omega,fun kv j B S=> ?_,At.xo⟩,a0⟩
 .simp(maxSteps:=999999)(disch:=omega) only[f65,eZ,b1,b2,ld1_get u.gC,a6,e3,ld1_get gl,a4,Y,ld1_get V,bs,a5,r5]
 .exact At.prs.fresh N (fun B S=>by
   have:=At.dC;have:=At.dF;rcases S with H0 | H0 | H0
   .omega
   .omega
   .exact At.gN B H0)
 .rw[z.keep _ (by omega) (by omega)];exact V
 .rw[z.keep _ (by omega) (by omega)];exact U
 .exact Pend.snoc a7 (At.pf.frame fun kv j i hn=>At.keep ⟨hn,fun B S=>⟨At.gf kv j B S,At.gx kv j B S⟩⟩ N)
 .have nC: ∀B,Blk k B-> ¬B=w:=fun B S H0=>by
   subst H0;obtain⟨_,⟨rfl,_⟩ | ⟨F,rfl,_,I⟩⟩:=At.gg
   .exact jZ.1 S
   .rw[<-jS.1 S,At.gC]at I;simp at I
  have nF: ∀B,Blk k B-> ¬B=l:=fun B S H0=>by
   subst H0;obtain⟨_,⟨rfl,_⟩ | ⟨F,rfl,_,I⟩⟩:=At.gg
   .exact jZ.1 S
   .rw[<-jS.1 S,At.gF]at I;simp at I
  exact(((u.gg.mono g nC).mono y nF).mono z (fun B S H0=>by have:=kD At.gg.row S;omega))
 .intro kv j B S;rcases zZ.1 j with j | j
  .exact At.gf kv j B S
  .simp only[y8]at j;subst j;exact(K.2 B S).1
 .intro v a2 J;rw[lookN_app]at J
  cases M:lookN v f with
  | some a8=>have:=At.fs _ _ M;omega
  | none=>
   rw[M]at J;simp only[lookN]at J;split at J
   .have:=At.le;omega
   .cases J
 .rw[List.map_append,List.nodup_append];refine⟨At.fd,by simp,fun a ha b hb H0=> ?_⟩;simp only[y6,List.map_nil,y8]at hb;subst hb;subst H0;obtain⟨a8,u⟩:=lookN_mem ha;have:=At.fs _ _ u;omega
 .rcases zZ.1 j with j | j
  .exact At.gx kv j B S
  .simp only[y8]at j;subst j;exact(K.2 B S).2
open Go.Nd (cutOk cutA cutB)
inductive CutsN:Nd.Node->List Nd.Node->List Str->Prop
 | one {nd:Nd.Node} :Nd.size nd<=500->CutsN nd [nd] []
 | more {nd:Nd.Node} {k:Nat} {ps:List Nd.Node} {ss:List Str} :500<Nd.size nd->cutOk nd k->hbnd nd k->CutsN (cutB nd k) ps ss->CutsN nd (cutA nd k::ps) (nd.keys.getD k []::ss)
def Par (H:AH):List (List AV)->List Nd.Node->Prop
 | [],[]=>True
 | l::vs,nd::nds=>(l.length=4/\allCells l=true/\NodeG H (.agg l) nd)/\Par H vs nds
 | _,_=>False
theorem Par.len {H:AH} : ∀ {vs:List (List AV)} {i:List Nd.Node},Par H vs i->vs.length=i.length/\vs.flatten.length=i.length*4/\allCells vs.flatten=true
 | [],[],_=>⟨rfl,rfl,rfl⟩
 | l::vs,_::i,h=>by
  obtain⟨a,b,c⟩:=Par.len h.2;refine⟨by simp[a], ?_, ?_⟩
  .rw[List.flatten_cons,zT,b,h.1.1,zV];omega
  .rw[List.flatten_cons,allCells_mem];intro x f;rcases zZ.1 f with f | f
   .exact allCells_mem.1 h.1.2.1 x f
   .exact allCells_mem.1 c x f
 | [],_::_,h=>h.elim
 | _::_,[],h=>h.elim
theorem Par.frame {H H':AH} : ∀ {vs:List (List AV)} {f:List Nd.Node},Par H vs f->(∀l∈vs,∀a,NodeG H (.agg l) a->NodeG H' (.agg l) a)->Par H' vs f
 | [],[],_,_=>trivial
 | l::vs,a::f,h,hf=>⟨⟨h.1.1,h.1.2.1,hf l (zH ..) a h.1.2.2⟩,Par.frame h.2 fun l hl=>hf l (zC _ hl)⟩
 | [],_::_,h,_=>h.elim
 | _::_,[],h,_=>h.elim
theorem Par.snoc {H:AH}{l:List AV}{f:Nd.Node}(i:l.length=4/\allCells l=true/\NodeG H (.agg l) f): ∀ {vs:List (List AV)} {a:List Nd.Node},Par H vs a->Par H (vs++[l]) (a++[f])
 | [],[],_=>⟨i,trivial⟩
 | _::vs,_::a,h=>⟨h.1,Par.snoc i h.2⟩
 | [],_::_,h=>h.elim
 | _::_,[],h=>h.elim
theorem Par.mem {H:AH} : ∀ {vs:List (List AV)} {f:List Nd.Node} {l:List AV},Par H vs f->l∈vs-> ∃a,NodeG H (.agg l) a
 | [],[],_,_,hl=>by simp at hl
 | k::vs,a::f,l,h,hl=>by
  rcases zM.1 hl with rfl | hl
  .exact⟨a,h.1.2.2⟩
  .exact Par.mem h.2 hl
 | [],_::_,_,h,_=>h.elim
 | _::_,[],_,h,_=>h.elim
theorem bldN1 (e:TypeId)(l:List AV)(hl:l.length=4)(z:List AV)(a:z.length=4):bldL e 4 1 z [(0, .agg l)]=some (.cells l e 4 false,fun A=> .slice A 0 1 2):=by
 match z,a with
 | [_,_,_,_],_=>match l,hl with
  | [_,_,_,_],_=>rfl
theorem src4 (A:H.h.get h=some (.cells v w 4 G))(hl:v.length=4)(cc:Nat):srcOf 4 (.slice h 0 1 cc) H=some (1,v):=by
 simp only[srcOf,A,subN_some _ _ _ (.inr (show 0+1*4<=v.length by omega)),yE,zW (show v.length<=1*4 by omega)]
theorem shaped_cuttable (h:Nd.shaped ltS i=true)(j:500<Nd.size i):cuttable i:=by
 have f: ∀k∈i.keys,k.length<=40:=fun k f=>by
  simp only[Nd.shaped,zE,qY]at h;have:=h.1.1 k f;simp only[Nd.mayK,zE,zU]at this;omega
 have b1: ∀(c:Nat) (l:List Str),(∀k∈l,k.length<=c)->sumL l<=(c+1)*l.length:=by
  intro c l
  induction l with
  | nil=>simp[sumL]
  | cons a l ih=>
   intro h;have:=ih fun k f=>h k (zC _ f)
   have:=h a (zH ..);rw[Nd.sumL_cons,zV,Nat.mul_succ];omega
 have k1:=b1 40 i.keys f;simp only[Nd.size]at j
 cases hl:i.leaf with
 | true=>
  simp only[Nd.shaped,hl,if_true,zE,zU,qY]at h;have k2:=b1 200 i.vals fun v m=>h.2.2 v m
  rw[h.2.1.2,yI]at j;rw[h.2.1.1]at k2;exact⟨by omega, .inl hl⟩
 | false=>
  simp only[Nd.shaped,hl,zL,qD,zE,zU]at h;rw[h.2.1.1.2]at j;have:sumL []=0:=rfl;rw[h.2.1.2]at j;exact⟨by omega, .inr (by omega)⟩
theorem size_small (h:Nd.size i<=10000):small i:=by
 simp only[Nd.size]at h;exact⟨by omega,by omega,by omega⟩
theorem cutAll_ok(hn:200000000<=n)(hk:H.ok)(h:NodeG H k i)(f4:Nd.shaped ltS i=true)(hz:Nd.size i<=10000):
  ∃q o H' vs p s,f102 D n [k] H=some (.tuple [q,o, .int .i64 (0:Nat)],H')/\Prs H H'/\CutsN i p s/\Own 4 72 H' q p.length vs.flatten/\Par H' vs p/\Own 1 9 H' o s.length (s.map S)/\
   (∀B,Blk q B->H.next<=B)/\(∀B,Blk o B->H.next<=B)/\ ∀l∈vs,∀B,blkN (.agg l) B->blkN k B\/H.next<=B:=by
 obtain⟨l0,rfl,f5,f6⟩:=h.cells;obtain⟨H1,F,b1,p1,g1,m1,n1⟩:=box hk (.cells l0 72 1 false);have lp:Fin (loopK n (f102l0 D n) [.ptr F 0, .nS, .nS] H1) fun x H'=> ∃l j vs p s q o,x= .exit 0 [.ptr F 0,q,o]/\Prs H H'/\H'.h.get F=some (.cells l 72 1 false)/\l.length=4/\allCells l=true/\NodeG H' (.agg l) j/\Nd.size j<=500/\
   (∀a0 a3,CutsN j a0 a3->CutsN i (p++a0) (s++a3))/\Own 4 72 H' q p.length vs.flatten/\Par H' vs p/\Own 1 9 H' o s.length (s.map S)/\(∀B,Blk q B->H.next<=B)/\(∀B,Blk o B->H.next<=B)/\
   (∀B,blkN (.agg l) B->blkN (.agg l0) B\/H.next<=B)/\(∀l∈vs,∀B,blkN (.agg l) B->blkN (.agg l0) B\/H.next<=B)/\p.length<=10000:=by
  refine Fin.loop (fun v us H'=> ∃l j vs p s q o,us=[.ptr F 0,q,o]/\Prs H H'/\H'.h.get F=some (.cells l 72 1 false)/\l.length=4/\allCells l=true/\NodeG H' (.agg l) j/\Nd.shaped ltS j=true/\
   (∀a0 a3,CutsN j a0 a3->CutsN i (p++a0) (s++a3))/\Own 4 72 H' q p.length vs.flatten/\Par H' vs p/\Own 1 9 H' o s.length (s.map S)/\(∀B,Blk q B->H.next<=B)/\(∀B,Blk o B->H.next<=B)/\
   (∀B,blkN (.agg l) B->blkN (.agg l0) B\/H.next<=B)/\(∀l∈vs,∀B,blkN (.agg l) B->blkN (.agg l0) B\/H.next<=B)/\(∀B,blkN (.agg l) B-> ¬Blk o B)/\(∀l∈vs,∀B,blkN (.agg l) B-> ¬Blk o B)/\s.length=p.length/\p.length+Nd.size j<=10000/\v=Nd.size j) ?_ n (Nd.size i) _ H1
   ⟨l0,i,[],[],[], .nS, .nS,rfl,p1,g1,f5,f6,h.prs p1,f4,fun _ _ h=>h,kB ..,trivial,kB ..,fun B f=>(jZ.1 f).elim,fun B f=>(jZ.1 f).elim,fun B f=> .inl f,by simp,fun B _ f=>(jZ.1 f).elim,by simp,rfl,by simpa using hz,rfl⟩ (by omega)
  rintro v us H' ⟨l,j,vs,p,s,q,o,rfl,P,Q,M,lc,hG,a9,b0,N,a7,T,bP,bS,bl,b2,al,f7,d8,i3,rfl⟩
  have d1:small j:=size_small (by omega);obtain⟨z,H2,e2,rfl,J⟩:=size_ok D n P.ok hG.node d1 hn;have P2:=P.trans J;have g2:=jY J P.ok Q;by_cases c8:500<Nd.size j
  case neg=>
   have c0: ¬((500:Nat):Int)< ((Nd.size j:Nat):Int):=by omega
   refine⟨.exit 0 [.ptr F 0,q,o],H2, ?_,l,j,vs,p,s,q,o,rfl,P2,g2,M,lc,hG.prs J,by omega,b0,N.mono J (fun _ _ x=>x),a7.frame (fun l hl i hn=>hn.prs J),T.mono J (fun _ _ x=>x),bP,bS,bl,b2,by omega⟩;simp(disch:=omega) only[f102l0,eZ,agg4 Q M,e2,c0]
  case pos=>
  have c0:((500:Nat):Int)< ((Nd.size j:Nat):Int):=by omega
  have f8:=shaped_cuttable a9 c8;obtain⟨va,sep,vb,e,Z,e3,L,hc⟩:=cut_ok D n hn P2.ok (hG.prs J) d1;rcases hc with⟨rfl,v,_,c1,hb,rfl,ga,gb⟩ | ⟨_,_,f9,_⟩
  case inr=>exact absurd ⟨a9,f8⟩ f9
  have P3:=P2.trans L;have d2:Prs H' Z:=J.trans L;obtain⟨la,rfl,a8,c2⟩:=ga.1.cells;obtain⟨U,rfl,c3,c4⟩:=gb.1.cells;obtain⟨H4,A7,b4,p4,g4,m4,n4⟩:=box P3.ok (.cells [.bool false, .nS, .nS, .nS] 72 1 false);obtain⟨H5,A9,b5,p5,g5,m5,n5⟩:=box p4.ok (.cells [.bool false, .nS, .nS, .nS] 72 1 false);obtain⟨H6,e6,g6,s6,n6⟩:=st_all p5.ok (jY p5 p4.ok g4) (l':=la) a8 c2;have g0:stN 4 (.ptr A7 0) (.agg la) H5=some (undefA,H6):=e6;obtain⟨H7,e7,g7,s7,n7⟩:=st_all s6.ok (show H6.h.get A9=some (.cells [.bool false, .nS, .nS, .nS] 72 1 false)by rw[s6.keep _ n5 (by omega)];exact g5) (l':=U) c3 c4;have g9:stN 4 (.ptr A9 0) (.agg U) H6=some (undefA,H7):=e7;have N3:=d2.next;have N4:=p4.next;have N5:=p5.next
  have d3:Prs Z H7:=((p4.trans p5).fresh s6 (fun B f=>by omega)).fresh s7 (fun B f=>by omega);have h0:H7.h.get A7=some (.cells la 72 1 false):=by rw[s7.keep _ (by omega) (by omega)];exact g6
  obtain⟨V,i5,b8,p8,g8,m8,n8⟩:=box d3.ok (.cells la 72 4 false);have a4:Prs Z V:=d3.trans p8;have W:Prs H' V:=d2.trans a4;obtain⟨H9,e9,o9,K,n9⟩:=apP_own (bytes:=80) a4.ok (by decide) (N.mono W (fun _ _ x=>x)) (src4 g8 a8 2) (by omega) c2 (by omega) (by omega) (by decide);have N8:=a4.next
  have nP: ∀(l:List AV) (i:Nd.Node),NodeG V (.agg l) i-> ∀B,blkN (.agg l) B-> ¬Blk q B:=fun l i t B f hp=>by
   obtain⟨_,⟨rfl,_⟩ | ⟨C,rfl,_,y⟩⟩:=N.mono W (fun _ _ x=>x)
   .exact jZ.1 hp
   .rw[jS.1 hp]at f;exact t.nblk y (.inr (.inr ⟨_,_,_,_,rfl,by decide,by decide⟩)) f
  have d4:=T.mono W (fun _ _ x=>x);have c5: ∀B,Blk o B-> ¬Blk q B:=fun B f hp=>by
   obtain⟨_,⟨rfl,_⟩ | ⟨C,rfl,_,y⟩⟩:=N.mono W (fun _ _ x=>x)
   .exact jZ.1 hp
   .obtain⟨_,⟨rfl,_⟩ | ⟨E,rfl,_,c6⟩⟩:=d4
    .exact jZ.1 f
    .rw[<-jS.1 hp,jS.1 f,c6]at y;simp at y
  obtain⟨b6,h1,h2,G,h3,i6,i7⟩:=box K.ok (.cells [S (j.keys.getD v [])] 9 1 false);have d9:=(d4.mono K c5).mono G (fun _ _ x=>x);have e0:srcOf 1 (.slice h1 0 1 2) b6=some (1,[S (j.keys.getD v [])]):=by
   have:=Rw.srcOf (Rw.lit (cc:=2) G.ok h3);exact this
  obtain⟨a5,h4,h5,Y,i8⟩:=apP_own (bytes:=16) G.ok (by decide) d9 e0 rfl rfl (by omega) (by omega) (by decide);have i4:F<H'.next:=P.ok.lt Q
  have fr: ∀(l:List AV) (i:Nd.Node),NodeG V (.agg l) i->(∀B,blkN (.agg l) B-> ¬Blk o B)->NodeG a5 (.agg l) i:=fun l i t ha=>
   ((t.stp K (nP l i t)).prs G).stp Y ha
  have c9: ∀B,Blk o B->B<Z.next:=fun B f=>by have:=kD T.row f;omega
  have d5:=ga.1.prs a4;have d6:=gb.1.prs a4;have fA: ∀B,blkN (.agg la) B-> ¬Blk o B:=fun B f O=>by have:=ga.2 B f;have:=kD T.row O;have:=J.next;omega
  have fB: ∀B,blkN (.agg U) B-> ¬Blk o B:=fun B f O=>by have:=gb.2 B f;have:=kD T.row O;have:=J.next;omega
  have e1:=fr la _ d5 fA;have e5:=fr U _ d6 fB;have c7: ∀(l:List AV) (i:Nd.Node),NodeG V (.agg l) i-> ∀B,blkN (.agg l) B->B<b6.next:=fun l i t B f=>by have:=t.lt f;have:=K.next;have:=G.next;omega
  have d0:a5.h.get F=some (.cells l 72 1 false):=by
   have e8:V.h.get F=some (.cells l 72 1 false):=jY W P.ok Q;have np: ¬Blk q F:=fun hp=>by
    obtain⟨_,⟨rfl,_⟩ | ⟨C,rfl,_,y⟩⟩:=N
    .exact jZ.1 hp
    .rw[<-jS.1 hp,Q]at y;simp at y
   have ns: ¬Blk o F:=fun hp=>by
    obtain⟨_,⟨rfl,_⟩ | ⟨C,rfl,_,y⟩⟩:=T
    .exact jZ.1 hp
    .rw[<-jS.1 hp,Q]at y;simp at y
   rw[Y.keep _ (by have:=K.next;have:=G.next;omega) ns,G.keep _ (by have:=K.next;omega) (fun x=>x),K.keep _ (by omega) np];exact e8
  obtain⟨b7,d7,h6,b9,i9⟩:=st_all Y.ok d0 (l':=U) (by omega) c4;have f1:stN 4 (.ptr F 0) (.agg U) a5=some (undefA,b7):=by rw[M]at d7;exact d7
  have r9:ldN 4 (.ptr A9 0) a5=some (.agg U):=agg4 (e:=72) (by
   have np: ¬Blk q A9:=fun hp=>by have:=kD N.row hp;omega
   have ns: ¬Blk o A9:=fun hp=>by have:=c9 _ hp;omega
   rw[Y.keep _ (by have:=K.next;have:=G.next;have:=p8.next;omega) ns,G.keep _ (by have:=K.next;have:=p8.next;omega) (fun x=>x),K.keep _ (by have:=p8.next;omega) np,p8.keep _ (by omega) (fun x=>x)];exact g7) c3
  have a6: ∀(u:List AV) (I:Nd.Node),NodeG a5 (.agg u) I->NodeG b7 (.agg u) I:=fun u I t=>t.stp b9 (fun B f e=>by
   subst e;have: ∃x r,l=x::r/\ ∀a b,x≠ .str a b:=by
    obtain⟨ks,vs',ps,ee,_⟩:=hG;simp only[AV.agg.injEq]at ee;exact⟨_,_,ee,fun _ _ e=>by cases e⟩
   obtain⟨x,r,rfl,hx⟩:=this;exact t.nblk d0 (.inl ⟨x,r,_,_,rfl,hx⟩) f)
  have Pn:Prs H b7:=by
   have a1:Prs H H9:=(P3.trans a4).fresh K bP;have a2:Prs H a5:=(a1.trans G).fresh Y bS;exact a2.fresh b9 (fun B f=>by omega)
  have f2:=Nd.cut_size a9 c1;have h7:=Nd.cut_shaped a9 c1;have N9:=K.next;have j0:=G.next;have j1:=Y.next
  have PN:=P.next
  refine⟨.norm [.ptr F 0, .slice V.next 0 (p.length+1) 1, .slice b6.next 0 (s.length+1) 1],b7, ?_,Nd.size (cutB j v),f2.2,U,cutB j v,vs++[la],p++[cutA j v],s++[j.keys.getD v []], .slice V.next 0 (p.length+1) 1, .slice b6.next 0 (s.length+1) 1,rfl,Pn,h6,c3,c4,a6 _ _ e5,h7.2,fun a0 a3 h8=> ?_, ?_, ?_, ?_,fun B f=> ?_,fun B f=> ?_,fun B f=> ?_,fun u m B f=> ?_,fun B f O=> ?_,fun u m B f O=> ?_,by simp[d8], ?_,rfl⟩
  .simp(maxSteps:=999999)(disch:=omega) only[f102l0,eZ,agg4 Q M,e2,c0,agg4 g2 M,e3,pExtract,nth,b4,b5,g0,g9,ne_eq,not_true_eq_false,agg4 h0 a8,bldN1 72 la a8 [.bool false, .nS, .nS, .nS] rfl,zV,yI,b8,e9,row1 9 (.str 0 0) (S_cell (j.keys.getD v [])),h2,h4,r9,f1]
  .rw[qC,qC];exact b0 _ _ (.more c8 c1 hb h8)
  .have h9:=((o9.mono G (fun _ _ x=>x)).mono Y (fun B f O=>by rw[jS.1 f]at O;have:=c9 _ O;omega)).mono b9 (fun B f e=>by rw[jS.1 f]at e;omega);simpa using h9
  .refine Par.snoc ⟨a8,c2,a6 _ _ e1⟩ (a7.frame fun u m I t=>a6 _ _ (fr u I (t.prs W) (f7 u m)))
  .have f3:=h5.mono b9 (fun B f e=>by rw[jS.1 f]at e;omega);simpa using f3
  .rw[jS.1 f];omega
  .rw[jS.1 f];omega
  .exact .inr (by have:=gb.2 B f;have:=J.next;omega)
  .rcases zZ.1 m with m | m
   .exact b2 u m B f
   .simp only[y8]at m;subst m;exact .inr (by have:=ga.2 B f;have:=J.next;omega)
  .rw[jS.1 O]at f;have:=c7 _ _ d6 _ f;omega
  .rw[jS.1 O]at f;rcases zZ.1 m with m | m
   .obtain⟨I,i0⟩:=a7.mem m;have:=c7 _ _ (i0.prs W) _ f;omega
   .simp only[y8]at m;subst m;have:=c7 _ _ d5 _ f;omega
  .simp only[zT,zV,yI];omega
 obtain⟨x,H2,e2,l,j,vs,p,s,q,o,rfl,P,Q,M,lc,hG,i1,b0,N,a7,T,bP,bS,bl,b2,i2⟩:=lp;obtain⟨Z,A3,b3,L,g3,m3,n3⟩:=box P.ok (.cells l 72 4 false);obtain⟨H4,e4,o4,s4,n4⟩:=apP_own (bytes:=80) L.ok (by decide) (N.mono L (fun _ _ x=>x)) (src4 g3 M 2) (by omega) lc (by omega) (by omega) (by decide);have nP: ∀(l:List AV) (i:Nd.Node),NodeG Z (.agg l) i-> ∀B,blkN (.agg l) B-> ¬Blk q B:=fun l i t B f hp=>by
  obtain⟨_,⟨rfl,_⟩ | ⟨C,rfl,_,y⟩⟩:=N.mono L (fun _ _ x=>x)
  .exact jZ.1 hp
  .rw[jS.1 hp]at f;exact t.nblk y (.inr (.inr ⟨_,_,_,_,rfl,by decide,by decide⟩)) f
 have c5: ∀B,Blk o B-> ¬Blk q B:=fun B f hp=>by
  obtain⟨_,⟨rfl,_⟩ | ⟨C,rfl,_,y⟩⟩:=N
  .exact jZ.1 hp
  .obtain⟨_,⟨rfl,_⟩ | ⟨E,rfl,_,c6⟩⟩:=T
   .exact jZ.1 f
   .rw[<-jS.1 hp,jS.1 f,c6]at y;simp at y
 have a6: ∀(u:List AV) (I:Nd.Node),NodeG H2 (.agg u) I->NodeG H4 (.agg u) I:=fun u I t=>(t.prs L).stp s4 (nP u I (t.prs L))
 have N3:=L.next;have PN:=P.next
 refine⟨.slice Z.next 0 (p.length+1) 1,o,H4,vs++[l],p++[j],s, ?_,(P.trans L).fresh s4 bP, ?_, ?_,Par.snoc ⟨M,lc,a6 _ _ hG⟩ (a7.frame fun u m I t=>a6 _ _ t),(T.mono L (fun _ _ x=>x)).mono s4 c5,fun B f=> ?_,bS,fun u m B f=> ?_⟩
 .simp(maxSteps:=999999)(disch:=omega) only[f102,eZ,b1,e2,f102b1,agg4 Q M,bldN1 72 l M [.bool false, .nS, .nS, .nS] rfl,zV,yI,b3,e4]
 .have:=b0 [j] [] (.one i1);rwa[qG]at this
 .simpa using o4
 .rw[jS.1 f];omega
 .rcases zZ.1 m with m | m
  .exact b2 u m B f
  .simp only[y8]at m;subst m;exact bl B f
end Go.Eng.Sh
end



