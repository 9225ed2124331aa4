/- A checked evaluator for the program, and what it tells, part 7: no condition. -/
import Derived.Test.YtaaflpnhdkoaeaaGreatO6
set_option linter.all false
set_option linter.unusedVariables false
set_option linter.unusedSimpArgs false
set_option maxHeartbeats 8000000
set_option maxRecDepth 20000
section
set_option maxRecDepth 20000
namespace Go.Eng
theorem bK (n A off:Nat)(k:IntKind){z:Int}(i:Nat)(f:z=(i:Int))(h:i<n):fJ n 1 (.ptr A off) (.int k z)=some (.ptr A (off+i)):=by
 subst f;have a:=kK k (z:=((i:Nat):Int)) (by omega);simp only[y7]at a;have hb:Nat.blt i n=true:=by rw[qD];exact h
 simp only[fJ,a,hb,zM,kD,Nat.mul_one]
end Go.Eng
namespace Go.Bk
def cnt (is:Nat->Nat)(w:Nat):Nat->Nat
 | 0=>0
 | n+1=>cnt is w n+(if is n=w then 1 else 0)
def VO (is:Nat->Nat)(i b:Nat):Nat->Nat:=fun j=>if j=i then b else is j
theorem fG (is:Nat->Nat)(i b:Nat):VO is i b i=b:=by simp[VO]
theorem gQ {is:Nat->Nat}{i b j:Nat}(h:j≠i):VO is i b j=is j:=by simp[VO,h]
theorem zFi (is:Nat->Nat)(w:Nat): ∀n,cnt is w n<=n
 | 0=>zQ _
 | n+1=>by
  have:=zFi is w n;simp only[cnt];split<;>omega
theorem zNc {is a:Nat->Nat}{w:Nat} : ∀ {n:Nat},(∀i,i<n->(is i=w↔a i=w))->cnt is w n=cnt a w n
 | 0,_=>rfl
 | n+1,h=>by
  have j:=zNc (n:=n) fun i hi=>h i (by omega)
  have f:=h n (by omega);simp only[cnt,j];by_cases e:is n=w
  .rw[if_pos e,if_pos (f.1 e)]
  .rw[if_neg e,if_neg fun x=>e (f.2 x)]
theorem zAS {is:Nat->Nat}{i a b:Nat}(p:is i=a)(m:a≠b): ∀ {n:Nat},(i<n->cnt (VO is i b) b n=cnt is b n+1/\cnt (VO is i b) a n+1=cnt is a n)/\(¬i<n->cnt (VO is i b) b n=cnt is b n/\cnt (VO is i b) a n=cnt is a n)
 | 0=>⟨fun h=>by omega,fun _=>⟨rfl,rfl⟩⟩
 | n+1=>by
  obtain⟨s,q⟩:=zAS p m (n:=n);refine⟨fun h=> ?_,fun h=> ?_⟩
  .by_cases e:i=n
   .subst e;obtain⟨f,j⟩:=q (by omega);simp only[cnt,fG,if_true,f,j,p];simp[m,Ne.symm m]
   .obtain⟨f,j⟩:=s (by omega);have o:n≠i:=fun x=>e x.symm
    simp only[cnt,gQ o,f];omega
  .obtain⟨f,j⟩:=q (by omega);have o:n≠i:=by omega
   simp only[cnt,gQ o,f,j,and_self]
theorem zJF {is:Nat->Nat}{i a b w:Nat}(f:is i=a)(h:w≠a)(m:w≠b)(n:Nat):cnt (VO is i b) w n=cnt is w n:=by
 refine zNc fun j _=> ?_
 by_cases e:j=i
 .subst e;rw[fG,f];exact⟨fun x=>absurd x.symm m,fun x=>absurd x.symm h⟩
 .rw[gQ e]
theorem zNb {is:Nat->Nat}{w:Nat} : ∀ {n:Nat},0<cnt is w n-> ∃i,i<n/\is i=w
 | 0,h=>by simp[cnt]at h
 | n+1,h=>by
  simp only[cnt]at h;by_cases e:is n=w
  .exact⟨n,by omega,e⟩
  .rw[if_neg e]at h;obtain⟨i,f,a⟩:=zNb (n:=n) (by omega);exact⟨i,by omega,a⟩
def fnd (is:Nat->Nat)(w:Nat):Nat->Nat->Option Nat
 | 0,_=>none
 | d+1,i=>if is i=w then some i else fnd is w d (i+1)
theorem KD {is:Nat->Nat}{w:Nat} : ∀ {d i j:Nat},fnd is w d i=some j->i<=j/\j<i+d/\is j=w
 | 0,_,_,h=>by cases h
 | d+1,i,j,h=>by
  simp only[fnd]at h;split at h
  .rename_i e;obtain rfl:=yD h;exact⟨zQ _,by omega,e⟩
  .obtain⟨f,m,a⟩:=KD h;exact⟨by omega,by omega,a⟩
theorem zEL {is:Nat->Nat}{w:Nat} : ∀ {d i:Nat},fnd is w d i=none-> ∀j,i<=j->j<i+d->is j≠w
 | 0,_,_,j,h1,h2=>by omega
 | d+1,i,h,j,h1,h2=>by
  simp only[fnd]at h;split at h
  .cases h
  .rename_i e;by_cases a:j=i
   .subst a;exact e
   .exact zEL h j (by omega) (by omega)
end Go.Bk
namespace Go.Eng.Sh
open Go.Bk
def Spc (H:AH)(A nb a:Nat)(is:Nat->Nat):Prop:= ∃c,H.h.get A=some (.cells c 145 1 false)/\c.length=8198/\c[0]? =some (.int .i64 ((nb:Nat):Int))/\c[1]? =some (.int .i64 ((a:Nat):Int))/\(∀i,i<8192->c[2+i]? =some (.int .u8 ((is i:Nat):Int)))/\(∀k,k<4->c[8194+k]? =some (.int .i64 ((cnt is k nb:Nat):Int)))/\nb<=8192/\a<8192/\ ∀i,is i<4
theorem Spc.stp {S:Nat->Prop}{H H':AH}{A nb a:Nat}{is:Nat->Nat}(h:Spc H A nb a is)(f:H.ok)(s:Stp S H H')(i: ¬S A):Spc H' A nb a is:=by
 obtain⟨c,g,h⟩:=h;exact⟨c,by rw[s.keep _ (f.lt g) i];exact g,h⟩
theorem Spc.lt {H:AH}{A nb a:Nat}{is:Nat->Nat}(h:Spc H A nb a is)(f:H.ok):A<H.next:=by
 obtain⟨c,g,h⟩:=h;exact f.lt g
theorem zD3 (D:Dyn)(n:Nat){H:AH}{A nb s i a b:Nat}{is:Nat->Nat}(h:Spc H A nb s is)(J:H.ok)(hi:i<nb)(f:is i=a)(hb:b<4)(C:a≠b):
  ∃H',f86 D n [.ptr A 0, .int .i64 ((i:Nat):Int), .int .u8 ((b:Nat):Int)] H=some (.tuple [],H')/\Spc H' A nb s (VO is i b)/\Stp (fun B=>B=A) H H'/\H'.next=H.next:=by
 obtain⟨c,g,hl,K,c1,t,p,L,N,u⟩:=h;have q:a<4:=by rw[<-f];exact u i
 obtain⟨q1,q2⟩:=(zAS f C (n:=nb)).1 hi;have a0:=zFi is a nb;have a1:=zFi is b nb;obtain⟨O,S,v,y,n1⟩:=xU J g (o:=8194+a) (x:= .int .i64 ((cnt (VO is i b) a nb:Nat):Int)) rfl (by omega);obtain⟨H2,m,T,z,n2⟩:=xU y.ok v (o:=8194+b) (x:= .int .i64 ((cnt (VO is i b) b nb:Nat):Int)) rfl (by simp;omega);obtain⟨U,V,W,Y,n3⟩:=xU z.ok T (o:=2+i) (x:= .int .u8 ((b:Nat):Int)) rfl (by simp;omega);refine⟨U, ?_,⟨_,W,by simp[hl], ?_, ?_,fun j Z=> ?_,fun k F=> ?_,L,N,fun j=> ?_⟩,(y.trans z).trans Y,by omega⟩
 .have r0:ld1 (.ptr A (2+i)) H=some (.int .u8 ((a:Nat):Int)):=xT g (by rw[t i (by omega),f]);have r1:ld1 (.ptr A (8194+a)) H=some (.int .i64 ((cnt is a nb:Nat):Int)):=xT g (p a q);have r2:ld1 (.ptr A (8194+b)) O=some (.int .i64 ((cnt is b nb:Nat):Int)):=xT v (by rw[qW (by omega)];exact p b hb);have i0:fJ 8192 1 (.ptr A 2) (.int .i64 ((i:Nat):Int))=some (.ptr A (2+i)):=bK 8192 A 2 .i64 i rfl (by omega);have i1:fJ 4 1 (.ptr A 8194) (.int .u8 ((a:Nat):Int))=some (.ptr A (8194+a)):=bK 4 A 8194 .u8 a rfl q;have i2:fJ 4 1 (.ptr A 8194) (.int .u8 ((b:Nat):Int))=some (.ptr A (8194+b)):=bK 4 A 8194 .u8 b rfl hb;have w1:((cnt is a nb:Nat):Int) - ((1:Nat):Int)=((cnt (VO is i b) a nb:Nat):Int):=by omega
  have w2:((cnt is b nb:Nat):Int)+((1:Nat):Int)=((cnt (VO is i b) b nb:Nat):Int):=by omega
  simp(maxSteps:=999999)(disch:=omega) only[f86,eZ,i0,r0,i1,r1,w1,S,i2,r2,w2,m,V]
 .rw[qW (by omega),qW (by omega),qW (by omega)];exact K
 .rw[qW (by omega),qW (by omega),qW (by omega)];exact c1
 .by_cases e:j=i
  .subst e;rw[List.getElem?_set_self (by simp;omega),fG]
  .rw[qW (by omega),qW (by omega),qW (by omega),gQ e];exact t j Z
 .rw[qW (by omega)];by_cases e:k=b
  .subst e;rw[List.getElem?_set_self (by simp;omega)]
  .rw[qW (by omega)];by_cases m:k=a
   .subst m;rw[List.getElem?_set_self (by omega)]
   .rw[qW (by omega),zJF f m e];exact p k F
 .by_cases e:j=i
  .subst e;rw[fG];exact hb
  .rw[gQ e];exact u j
theorem zHr (x:AV): ∀n,rep n [x]=List.replicate n x
 | 0=>rfl
 | n+1=>by rw[rep,zHr x n,List.replicate_succ];rfl
def zO8:Nat->Nat:=fun i=>if i<2 then 1 else 0
theorem zJG (w n:Nat):cnt (fun _=>w) w n=n:=by
 induction n with
 | zero=>rfl
 | succ n ih=>simp[cnt,ih]
theorem zLP {w v:Nat}(h:v≠w)(n:Nat):cnt (fun _=>v) w n=0:=by
 induction n with
 | zero=>rfl
 | succ n ih=>simp[cnt,ih,h]
theorem zO7:VO (VO (fun _=>0) 0 1) 1 1=zO8:=by
 funext i
 match i with
 | 0=>rfl
 | 1=>rfl
 | i+2=>rw[gQ (by omega),gQ (by omega),zO8,if_neg (by omega)]
theorem zNE (D:Dyn)(n:Nat)(hn:100<=n){H:AH}(U:H.ok){nb:Nat}(s:64<=nb)(V:nb<=8192): ∃H' A,f34 D n [.int .i64 ((nb:Nat):Int)] H=some (.tuple [.ptr A 0, .int .i64 ((0:Nat):Int)],H')/\Prs H H'/\H.next<=A/\Spc H' A nb 0 zO8:=by
 obtain⟨r,hr⟩: ∃r,r=rep 8192 [AV.int .u8 ((0:Nat):Int)]:=⟨_,rfl⟩;have p:=zHr (AV.int .u8 ((0:Nat):Int)) 8192;rw[<-hr]at p;have q:r.length=8192:=by rw[p,List.length_replicate]
 have K: ∀i,i<8192->r[i]? =some (.int .u8 ((0:Nat):Int)):=fun i hi=>by rw[p,List.getElem?_replicate,if_pos hi]
 clear p;obtain⟨j,t⟩: ∃j,j=[AV.int .i64 ((0:Nat):Int), .int .i64 ((0:Nat):Int), .int .i64 ((0:Nat):Int), .int .i64 ((0:Nat):Int)]:=⟨_,rfl⟩;have hb:vR [(0,1),(1,1),(2,8192),(8194,4)] ([AV.int .i64 ((0:Nat):Int), .int .i64 ((0:Nat):Int)]++r++j) [(0, .int .i64 ((nb:Nat):Int))]=some (.agg ([AV.int .i64 ((nb:Nat):Int), .int .i64 ((0:Nat):Int)]++r++j)):=rfl;obtain⟨c,f⟩: ∃c,c=[AV.int .i64 ((nb:Nat):Int), .int .i64 ((0:Nat):Int)]++r++j:=⟨_,rfl⟩;have L:c.length=8198:=by rw[f,t];simp[q]
 have W:c[0]? =some (.int .i64 ((nb:Nat):Int)):=by rw[f];rfl
 have c1:c[1]? =some (.int .i64 ((0:Nat):Int)):=by rw[f];rfl
 have Y: ∀i,i<8192->c[2+i]? =some (.int .u8 ((0:Nat):Int)):=fun i hi=>by
  rw[f,qI,jA (by simp),yX (by simp[q];omega)];simpa using K i hi
 have Z: ∀i,i<4->c[8194+i]? =some (.int .i64 ((0:Nat):Int)):=fun i hi=>by
  rw[f,jA (by simp[q]),t];have:8194+i - ([AV.int .i64 ((nb:Nat):Int), .int .i64 ((0:Nat):Int)]++r).length=i:=by simp[q]
  rw[this]
  match i,hi with
  | 0,_=>rfl
  | 1,_=>rfl
  | 2,_=>rfl
  | 3,_=>rfl
 rw[<-f]at hb;clear f;obtain⟨H1,A,b1,v,g1,m1,n1⟩:=box U (.cells c 145 1 false);obtain⟨y,e2,g2,z,n2⟩:=xU v.ok g1 (o:=8194) (x:= .int .i64 ((nb:Nat):Int)) rfl (by omega);have N:Spc y A nb 0 fun _=>0:=⟨_,g2,by simp[L],by rw[qW (by omega)];exact W,by rw[qW (by omega)];exact c1,fun i hi=>by rw[qW (by omega)];exact Y i hi,fun k O=>by
  by_cases e:k=0
  .subst e;rw[List.getElem?_set_self (by omega),zJG]
  .rw[qW (by omega),zLP (fun h=>e h.symm)];exact Z k O,V,by omega,fun _=>Nat.succ_pos 3⟩
 obtain⟨C,e3,S,F,n3⟩:=zD3 D n N z.ok (i:=0) (a:=0) (b:=1) (by omega) rfl (by omega) (by omega);obtain⟨m,e4,T,s4,n4⟩:=zD3 D n S F.ok (i:=1) (a:=0) (b:=1) (by omega) rfl (by omega) (by omega);have N1:=v.next
 have i1:fJ 4 1 (.ptr A 8194) (.int .u8 ((0:Nat):Int))=some (.ptr A 8194):=bK 4 A 8194 .u8 0 rfl (by omega);refine⟨m,A, ?_,v.fresh ((z.trans F).trans s4) (fun B hB=>by omega),m1,by rw[<-zO7];exact T⟩;obtain⟨k,rfl⟩: ∃k,n=k+1+1+1:=⟨n - 3,by omega⟩;have l0:JZ D (k+1+1+1) [.ptr A 0, .int .i64 ((0:Nat):Int)] y=some (.norm [.ptr A 0, .int .i64 ((1:Nat):Int)],C):=by
  have u:((0:Nat):Int)< ((2:Nat):Int):=by omega
  have s:((0:Nat):Int)+((1:Nat):Int)=((1:Nat):Int):=by omega
  simp(maxSteps:=999999)(disch:=omega) only[JZ,eZ,u,e3,s]
 have l1:JZ D (k+1+1+1) [.ptr A 0, .int .i64 ((1:Nat):Int)] C=some (.norm [.ptr A 0, .int .i64 ((2:Nat):Int)],m):=by
  have u:((1:Nat):Int)< ((2:Nat):Int):=by omega
  have s:((1:Nat):Int)+((1:Nat):Int)=((2:Nat):Int):=by omega
  simp(maxSteps:=999999)(disch:=omega) only[JZ,eZ,u,e4,s]
 have l2:JZ D (k+1+1+1) [.ptr A 0, .int .i64 ((2:Nat):Int)] m=some (.exit 0 [.ptr A 0],m):=by
  simp(maxSteps:=999999)(disch:=omega) only[JZ,eZ,yA]
 have J:jY (k+1+1+1) (JZ D (k+1+1+1)) [.ptr A 0, .int .i64 ((0:Nat):Int)] y=some (.exit 0 [.ptr A 0],m):=by
  rw[wR l0,wR l1,jU l2]
 have a1: ¬((nb:Nat):Int)< ((64:Nat):Int):=by omega
 have a2: ¬((8192:Nat):Int)< ((nb:Nat):Int):=by omega
 simp(maxSteps:=999999)(disch:=omega) only[f34,<-hr,eZ,a1,a2,<-t,hb,b1,i1,e2,J,zGb]
end Go.Eng.Sh
end
section
set_option maxRecDepth 20000
namespace Go.Eng
theorem zFV {H:AH}(a:H.ok)(o:AObj)(K:Nat->AH->Rs):VQ H o K=K H.next (H.push o):=zDg a o K
theorem mx2S (a b:Nat):mx2 (.int .i64 ((a:Nat):Int)) (.int .i64 ((b:Nat):Int))=some (.int .i64 ((max a b:Nat):Int)):=by
 by_cases h:a<b
 .have hb:ilt ((a:Nat):Int) ((b:Nat):Int)=true:=by rw[uK];simpa using h
  simp only[mx2,hb,zM,show max a b=b by omega]
 .have hb:ilt ((a:Nat):Int) ((b:Nat):Int)=false:=by rw[uK];simpa using h
  simp only[mx2,hb,qH,show max a b=a by omega]
end Go.Eng
namespace Go.Eng.Sh
open Go.Bk
theorem zKJ (D:Dyn)(n:Nat){H:AH}{A nb a:Nat}{is:Nat->Nat}(h:Spc H A nb a is):f23 D n [.ptr A 0] H=some (.int .i64 ((cnt is 0 nb:Nat):Int),H):=by
 obtain⟨c,g,hl,m,c1,o,f,p,q,s⟩:=h;have i:ld1 (.ptr A (8194+0)) H=some (.int .i64 ((cnt is 0 nb:Nat):Int)):=xT g (f 0 (by omega));have j:fJ 4 1 (.ptr A 8194) (.int .u8 ((0:Nat):Int))=some (.ptr A (8194+0)):=bK 4 A 8194 .u8 0 rfl (by omega);simp(maxSteps:=999999)(disch:=omega) only[f23,eZ,cq,j,i]
theorem Spc.la' {H:AH}{A nb f:Nat}{is:Nat->Nat}(h:Spc H A nb f is)(j:H.ok){x:Nat}(m:x<8192): ∃H',stN 1 (.ptr A 1) (.int .i64 ((x:Nat):Int)) H=some (jO,H')/\Spc H' A nb x is/\Stp (fun B=>B=A) H H'/\H'.next=H.next:=by
 obtain⟨c,g,hl,p,c1,q,s,t,J,u⟩:=h;obtain⟨v,y,z,C,F⟩:=xU j g (o:=1) (x:= .int .i64 ((x:Nat):Int)) rfl (by omega);refine⟨v,y,⟨_,z,by simp[hl], ?_, ?_,fun i hi=> ?_,fun k a=> ?_,t,m,u⟩,C,F⟩
 .rw[qW (by omega)];exact p
 .rw[List.getElem?_set_self (by omega)]
 .rw[qW (by omega)];exact q i hi
 .rw[qW (by omega)];exact s k a
theorem zO4 (D:Dyn)(n:Nat){H:AH}{A f A4 a nb v w:Nat}{is:Nat->Nat}(m:Box H f (.ptr a 0))(p:Box H A4 (.int .u8 ((w:Nat):Int)))(x:Spc H a nb v is):
  ∀d i k,i+d=nb->d<k->match fnd is w d i with
   | none=>jY k (cL D n) [.yieldTo A, .ptr f 0, .ptr A4 0, .int .i64 ((i:Nat):Int)] H=some (.exit 0 [],H)
   | some j=> ∀H',callV [] D (.yieldTo A) [.int .i64 ((j:Nat):Int)] H=some (.bool false,H')->jY k (cL D n) [.yieldTo A, .ptr f 0, .ptr A4 0, .int .i64 ((i:Nat):Int)] H=some (.ret (.tuple []),H'):=by
 obtain⟨c,g,hl,y,c1,z,J,K,L,N⟩:=id x;have o:ld1 (.ptr a 0) H=some (.int .i64 ((nb:Nat):Int)):=xT g y;intro d
 induction d with
 | zero=>
  intro i k hi C;obtain⟨k,rfl⟩: ∃k',k=k'+1:=⟨k - 1,by omega⟩;have t: ¬((i:Nat):Int)< ((nb:Nat):Int):=by omega
  simp only[fnd];exact jU (by simp(maxSteps:=999999)(disch:=omega) only[cL,eZ,m.ld,o,t])
 | succ d ih=>
  intro i k hi C;obtain⟨k,rfl⟩: ∃k',k=k'+1:=⟨k - 1,by omega⟩;have t:((i:Nat):Int)< ((nb:Nat):Int):=by omega
  have q:fJ 8192 1 (.ptr a 2) (.int .i64 ((i:Nat):Int))=some (.ptr a (2+i)):=bK 8192 a 2 .i64 i rfl (by omega);have s:ld1 (.ptr a (2+i)) H=some (.int .u8 ((is i:Nat):Int)):=xT g (z i (by omega));simp only[fnd];by_cases e:is i=w
  .rw[if_pos e];intro H' u;have h:((is i:Nat):Int)=((w:Nat):Int):=by omega
   exact fY (by simp(maxSteps:=999999)(disch:=omega) only[cL,eZ,m.ld,o,t,q,s,p.ld,h,u])
  .rw[if_neg e];have h: ¬((is i:Nat):Int)=((w:Nat):Int):=by omega
   have hi1:((i:Nat):Int)+((1:Nat):Int)=((i+1:Nat):Int):=by omega
   have F:cL D n [.yieldTo A, .ptr f 0, .ptr A4 0, .int .i64 ((i:Nat):Int)] H=some (.norm [.yieldTo A, .ptr f 0, .ptr A4 0, .int .i64 ((i+1:Nat):Int)],H):=by
    simp(maxSteps:=999999)(disch:=omega) only[cL,eZ,m.ld,o,t,q,s,p.ld,h,hi1]
   have:=ih (i+1) k (by omega) (by omega);rw[wR F];exact this
def ofR (is:Nat->Nat)(w nb ab:Nat):Option Nat:=if cnt is w nb=0 then none else fnd is w (nb - max (ab+1) 2) (max (ab+1) 2)
theorem zL8 (D:Dyn)(n:Nat)(O:10000<=n){H:AH}{A p A4 q a nb K w ab:Nat}{is:Nat->Nat}(m:Box H p (.ptr a 0))(o:Box H A4 (.int .u8 ((w:Nat):Int)))(u:Box H q (.int .i64 ((ab:Nat):Int)))(v:Spc H a nb K is)(x:w<4)(L:ab<nb)(N:2<=nb):
  match ofR is w nb ab with
   | none=>f207 D n [.yieldTo A, .ptr p 0, .ptr A4 0, .ptr q 0] H=some (.tuple [],H)
   | some j=> ∀H',callV [] D (.yieldTo A) [.int .i64 ((j:Nat):Int)] H=some (.bool false,H')->f207 D n [.yieldTo A, .ptr p 0, .ptr A4 0, .ptr q 0] H=some (.tuple [],H'):=by
 obtain⟨c,g,hl,S,c1,T,F,U,V,W⟩:=id v;have s:ld1 (.ptr a (8194+w)) H=some (.int .i64 ((cnt is w nb:Nat):Int)):=xT g (F w x);have t:fJ 4 1 (.ptr a 8194) (.int .u8 ((w:Nat):Int))=some (.ptr a (8194+w)):=bK 4 a 8194 .u8 w rfl x;have hi1:((ab:Nat):Int)+((1:Nat):Int)=((ab+1:Nat):Int):=by omega
 have hm:=mx2S (ab+1) 2;obtain⟨i,hi⟩: ∃i,i=max (ab+1) 2:=⟨_,rfl⟩;rw[<-hi]at hm;have f:=zO4 D n (A:=A) m o v (nb - i) i n (by omega) (by omega);simp only[ofR,<-hi];by_cases y:cnt is w nb=0
 .rw[if_pos y];have h:((cnt is w nb:Nat):Int)=((0:Nat):Int):=by omega
  simp(maxSteps:=999999)(disch:=omega) only[f207,eZ,m.ld,o.ld,t,s,h]
 .rw[if_neg y];have h: ¬((cnt is w nb:Nat):Int)=((0:Nat):Int):=by omega
  cases z:fnd is w (nb - i) i with
  | none=>
   rw[z]at f;simp only at f⊢;simp(maxSteps:=999999)(disch:=omega) only[f207,eZ,m.ld,o.ld,t,s,h,u.ld,hi1,hm,f,zCc]
  | some j=>
   rw[z]at f;simp only at f⊢;intro H' C;have J:=f H' C;simp(maxSteps:=999999)(disch:=omega) only[f207,eZ,m.ld,o.ld,t,s,h,u.ld,hi1,hm,J]
def lpT (A1 A2 a:Nat):ALoop:=⟨.ready,none,195,0,[1,2,3],[.ptr A1 0, .ptr A2 0, .ptr a 0]⟩
theorem zQQ (m k:Nat){H:AH}{A A1 A2 a:Nat}(f:H.h.get A=some (.loop (lpT A1 A2 a)))(az:List AV):callV [] (dy (m+1)) (.yieldTo A) az H=QG (dy m) m A (lpT A1 A2 a) az H:=by
 show YN (tabR (dy m) m) A az H=_;simp only[YN,f];rfl
theorem zFE (D:Dyn)(n:Nat){H:AH}(s:H.ok){A A1 A2 a i nb la j:Nat}{x y:AV}{is:Nat->Nat}(t:H.h.get A=some (.loop (lpT A1 A2 a)))(b1:Box H A1 (.ptr i 0))(b2:Box H A2 x)(V:Box H a y)(C:Spc H i nb la is)(hj:j<nb)(a5:is j=0)
  (W:A2≠a) (L:A2≠i) (N:a≠i) (d4:A1≠A2) (d5:A1≠a):
  ∃H',QG D n A (lpT A1 A2 a) [.int .i64 ((j:Nat):Int)] H=some (.bool false,H')/\H'.h.get A=some (.loop { lpT A1 A2 a with state:= .done,pending:=some .ret})/\Box H' A2 (.int .i64 ((j:Nat):Int))/\Box H' a (.int .i64 ((0:Nat):Int))/\Spc H' i nb j (VO is j 2)/\Stp (fun B=>B=A\/B=i\/B=A2\/B=a) H H':=by
 obtain⟨c,F,_⟩:=id C;have z:i≠A:=fun e=>by rw[e,t]at F;cases F
 have n1:A1≠A:=fun e=>by obtain⟨_,hb⟩:=b1;rw[e,t]at hb;cases hb
 have O:A2≠A:=fun e=>by obtain⟨_,hb⟩:=b2;rw[e,t]at hb;cases hb
 have S:a≠A:=fun e=>by obtain⟨_,hb⟩:=V;rw[e,t]at hb;cases hb
 have a6:A1≠i:=fun e=>by
  obtain⟨_,hb⟩:=b1;obtain⟨_,F,hl,_⟩:=C;rw[e,F]at hb;simp only[zB,AObj.cells.injEq]at hb;rw[hb.1]at hl;simp at hl
 have h2:nb<=8192:=by obtain⟨_,_,_,_,_,_,_,h,_⟩:=C;exact h
 have f:Stp (fun B=>B=A) H (H.put A (.loop { lpT A1 A2 a with state:= .busy})):=(zRf s).put (s.lt t) _ (.inr rfl);have Y:(H.put A (.loop { lpT A1 A2 a with state:= .busy})).h.get A=some (.loop { lpT A1 A2 a with state:= .busy}):=by rw[zRc,if_pos rfl]
 have T: ∀K:AH->Rs,uM A H K=K (H.put A (.loop { lpT A1 A2 a with state:= .busy})):=fun K=>by
  simp only[uM,t,lpT,kO]
 generalize H.put A (.loop { lpT A1 A2 a with state:= .busy})=H1 at f Y T;have U:=b1.mono s f n1;have a7:=C.stp s f z;obtain⟨H2,e2,a8,o,c1⟩:=zD3 D n a7 f.ok hj a5 (b:=2) (by omega) (by omega);have a9:=U.mono f.ok o a6;obtain⟨H3,e3,b0,p,c2⟩:=a8.la' o.ok (x:=j) (by omega);have b4:=((b2.mono s f O).mono f.ok o L).mono o.ok p L;obtain⟨H4,e4,b5,q⟩:=b4.st p.ok (x:= .int .i64 ((j:Nat):Int)) rfl;have b6:=(((V.mono s f S).mono f.ok o N).mono o.ok p N).mono p.ok q (fun e=>W e.symm);obtain⟨v,e5,b7,m⟩:=b6.st q.ok (x:= .int .i64 ((0:Nat):Int)) rfl;have lA:=s.lt t;have N1:=f.next;have N2:=o.next;have N3:=p.next;have N4:=q.next;have N5:=m.next
 have Z:v.h.get A=some (.loop { lpT A1 A2 a with state:= .busy}):=by
  rw[m.keep _ (by omega) (fun e=>S e.symm),q.keep _ (by omega) (fun e=>O e.symm),p.keep _ (by omega) (fun e=>z e.symm),o.keep _ (by omega) (fun e=>z e.symm)];exact Y
 have u:Stp (fun B=>B=A) v (v.put A (.loop { lpT A1 A2 a with state:= .done,pending:=some .ret})):=(zRf m.ok).put (m.ok.lt Z) _ (.inr rfl);have a0:YE A (some .ret) v=some (.bool false,v.put A (.loop { lpT A1 A2 a with state:= .done,pending:=some .ret})):=by
  simp only[YE,Z,kO,lpT]
 have b8:=b5.mono q.ok m W;have b9:=(b0.stp p.ok q (fun e=>L e.symm)).stp q.ok m (fun e=>N e.symm);have r2:ld1 (.ptr A1 0) H2=some (.ptr i 0):=a9.ld;refine⟨_, ?_,by rw[zRc,if_pos rfl],b8.mono m.ok u O,b7.mono m.ok u S,b9.stp m.ok u z,⟨u.ok,by have:=u.next;omega,fun B hB J=> ?_⟩⟩
 .have hl:QX [1,2,3] (lpT A1 A2 a).live=true:=rfl;have c0:(lpT A1 A2 a).vals=[.ptr A1 0, .ptr A2 0, .ptr a 0]:=rfl;simp(maxSteps:=999999)(disch:=omega) only[QG,eZ,hl,c0,zM,T,U.ld,e2,r2,e3,e4,e5];exact a0
 .have a1: ¬B=A:=fun e=>J (.inl e)
  have a2: ¬B=i:=fun e=>J (.inr (.inl e))
  have a3: ¬B=A2:=fun e=>J (.inr (.inr (.inl e)))
  have a4: ¬B=a:=fun e=>J (.inr (.inr (.inr e)))
  rw[u.keep B (by omega) a1,m.keep B (by omega) a4,q.keep B (by omega) a3,p.keep B (by omega) a2,o.keep B (by omega) a2,f.keep B hB a1]
end Go.Eng.Sh
end
section
set_option maxRecDepth 20000
namespace Go.Eng.Sh
open Go.Bk
theorem take_one (m n:Nat)(hm:10000<=m){H:AH}(o:H.ok){A1 A2 f i nb la ab:Nat}{x y:AV}{is:Nat->Nat}(b1:Box H A1 (.ptr i 0))(b2:Box H A2 x)(b3:Box H f y)(sp:Spc H i nb la is)(a6:ab<nb)(a7:2<=nb)
  (d1:A2≠f) (d2:A2≠i) (d3:f≠i) (d4:A1≠A2) (d5:A1≠f):
  match ofR is 0 nb ab with
  | none=> ∃H',(∀(u:AH->Rs) (J:AH->Nat->Rs) (v:AH->Rs),(bR (f168 (dy (m+2)) n [.ptr i 0, .int .u8 ((0:Nat):Int), .int .i64 ((ab:Nat):Int)] H) fun Y H=>VQ H (.loop ⟨.ready,none,195,0,[1,2,3],[.ptr A1 0, .ptr A2 0, .ptr f 0]⟩) fun A H=>bR (rfC [(168,f168 (dy (m+2)) n),(86,f86 (dy (m+2)) n)] (dy (m+2)) Y A H) fun _ H=>fQ A H fun j H=>zEG j (u H) (J H) (v H))=u H')/\Prs H H'
  | some j=> ∃H',(∀(u:AH->Rs) (J:AH->Nat->Rs) (v:AH->Rs),(bR (f168 (dy (m+2)) n [.ptr i 0, .int .u8 ((0:Nat):Int), .int .i64 ((ab:Nat):Int)] H) fun Y H=>VQ H (.loop ⟨.ready,none,195,0,[1,2,3],[.ptr A1 0, .ptr A2 0, .ptr f 0]⟩) fun A H=>bR (rfC [(168,f168 (dy (m+2)) n),(86,f86 (dy (m+2)) n)] (dy (m+2)) Y A H) fun _ H=>fQ A H fun j H=>zEG j (u H) (J H) (v H))=v H')/\Box H' A2 (.int .i64 ((j:Nat):Int))/\Box H' f (.int .i64 ((0:Nat):Int))/\Spc H' i nb j (VO is j 2)/\Stp (fun B=>B=i\/B=A2\/B=f) H H':=by
 obtain⟨H1,O,q1,U,g1,m1,n1⟩:=box o (.cells [.ptr i 0] 36 1 false);obtain⟨H2,S,q2,L,g2,m2,n2⟩:=box U.ok (.cells [.int .u8 ((0:Nat):Int)] 141 1 false);obtain⟨a,T,q3,s,g3,m3,n3⟩:=box L.ok (.cells [.int .i64 ((ab:Nat):Int)] 3 1 false);have q:Prs a (a.push (.loop (lpT A1 A2 f))):=(zRf s.ok).push _;have N:(a.push (.loop (lpT A1 A2 f))).h.get a.next=some (.loop (lpT A1 A2 f)):=zR8 _ _
 have V: ∀K:Nat->AH->Rs,VQ a (.loop ⟨.ready,none,195,0,[1,2,3],[.ptr A1 0, .ptr A2 0, .ptr f 0]⟩) K=K a.next (a.push (.loop (lpT A1 A2 f))):=fun K=>zFV s.ok _ K
 generalize a.push (.loop (lpT A1 A2 f))=H4 at q N V;have P3:=(U.trans L).trans s;have t:=P3.trans q;have N1:=U.next;have N2:=L.next;have N3:=s.next;have N4:=q.next
 have l1:=b1.lt o;have l2:=b2.lt o;have l3:=b3.lt o;have lS:=sp.lt o;have c3:Box H4 O (.ptr i 0):=⟨_,zRn ((L.trans s).trans q) U.ok g1⟩;have c4:Box H4 S (.int .u8 ((0:Nat):Int)):=⟨_,zRn (s.trans q) L.ok g2⟩;have c5:Box H4 T (.int .i64 ((ab:Nat):Int)):=⟨_,zRn q s.ok g3⟩;have a4:=sp.stp o t (fun x=>x);have z:=zL8 (dy (m+1)) (m+1) (by omega) (A:=a.next) c3 c4 c5 a4 (by omega) a6 a7
 have a0:f168 (dy (m+2)) n [.ptr i 0, .int .u8 ((0:Nat):Int), .int .i64 ((ab:Nat):Int)] H=some (.func 207 [] [.ptr O 0, .ptr S 0, .ptr T 0],a):=by
  simp only[f168,eZ,cbx,q1,q2,q3]
 cases hr:ofR is 0 nb ab with
 | none=>
  rw[hr]at z;simp only at z⊢;have p:Stp (fun B=>B=a.next) H4 (H4.put a.next .dead):=(zRf q.ok).put (q.ok.lt N) _ (.inr rfl)
  have W: ∀K:Option Code->AH->Rs,fQ a.next H4 K=K none (H4.put a.next .dead):=fun K=>by
   simp only[fQ,N,lpT,kO]
  have Z:rfC [(168,f168 (dy (m+2)) n),(86,f86 (dy (m+2)) n)] (dy (m+2)) (.func 207 [] [.ptr O 0, .ptr S 0, .ptr T 0]) a.next H4=some (.tuple [],H4):=z
  refine⟨_,fun u J v=> ?_,t.fresh p fun B hB=>by omega⟩;simp only[a0,bR,V,Z,W,zEG]
 | some j=>
  rw[hr]at z;simp only at z⊢;have hj:j<nb/\is j=0:=by
   simp only[ofR]at hr;split at hr
   .cases hr
   .obtain⟨h1,h2,h3⟩:=KD hr;exact⟨by omega,h3⟩
  obtain⟨C,e5,g5,a8,a9,b0,p⟩:=zFE (dy m) m t.ok N (b1.mono o t (fun x=>x)) (b2.mono o t (fun x=>x)) (b3.mono o t (fun x=>x)) a4 hj.1 hj.2 d1 d2 d3 d4 d5;have a5:=z C ((zQQ m (m+1) N _).trans e5);have Z:rfC [(168,f168 (dy (m+2)) n),(86,f86 (dy (m+2)) n)] (dy (m+2)) (.func 207 [] [.ptr O 0, .ptr S 0, .ptr T 0]) a.next H4=some (.tuple [],C):=a5
  have F:Stp (fun B=>B=a.next) C (C.put a.next .dead):=(zRf p.ok).put (p.ok.lt g5) _ (.inr rfl)
  have W: ∀K:Option Code->AH->Rs,fQ a.next C K=K (some .ret) (C.put a.next .dead):=fun K=>by
   simp only[fQ,g5,lpT,kO]
  have N5:=p.next;have N6:=F.next
  refine⟨_,fun u J v=> ?_,a8.mono p.ok F (by omega),a9.mono p.ok F (by omega),b0.stp p.ok F (by omega),⟨F.ok,by omega,fun B hB hS=> ?_⟩⟩
  .simp only[a0,bR,V,Z,W,zEG]
  .have a1: ¬B=i:=fun e=>hS (.inl e)
   have a2: ¬B=A2:=fun e=>hS (.inr (.inl e))
   have a3: ¬B=f:=fun e=>hS (.inr (.inr e))
   rw[F.keep B (by omega) (by omega),p.keep B (by omega) (fun e=>by rcases e with e | e | e | e<;>omega),t.keep B hB (fun x=>x)]
theorem zKB (m n:Nat)(hm:10000<=m)(hn:100<=n){H:AH}(L:H.ok){p nb a:Nat}{is:Nat->Nat}(N:Spc H p nb a is)(a2:a<nb)(a0:2<=nb)(h0:is 0≠0)(O:is 1≠0)(hf:0<cnt is 0 nb):
  ∃H' j,f195 (dy (m+2)) n [.ptr p 0] H=some (.tuple [.int .i64 ((j:Nat):Int), .int .i64 ((0:Nat):Int)],H')/\2<=j/\j<nb/\is j=0/\Spc H' p nb j (VO is j 2)/\Stp (fun B=>B=p) H H':=by
 obtain⟨c,g,hl,c0,c1,hc,a7,q1,q2,q3⟩:=id N;obtain⟨H1,A1,b1,C,g1,m1,n1⟩:=box L (.cells [.ptr p 0] 36 1 false);obtain⟨H2,A2,b2,v,g2,m2,n2⟩:=box C.ok (.cells [.int .i64 ((0:Nat):Int)] 3 1 false);obtain⟨t,y,b3,F,g3,m3,n3⟩:=box v.ok (.cells [.int .i64 ((0:Nat):Int)] 32 1 false);have f:=(C.trans v).trans F;have N1:=C.next;have N2:=v.next;have N3:=F.next
 have lS:=N.lt L;have J:=N.stp L f (fun x=>x);have q:Box t A1 (.ptr p 0):=⟨_,zRn (v.trans F) C.ok g1⟩;have x2:Box t A2 (.int .i64 ((0:Nat):Int)):=⟨_,zRn F v.ok g2⟩;have x3:Box t y (.int .i64 ((0:Nat):Int)):=⟨_,g3⟩;have rl:ld1 (.ptr p 1) t=some (.int .i64 ((a:Nat):Int)):=by
  obtain⟨c',g',_,_,a3,_⟩:=J;exact xT g' a3
 have a1:zM0 1 [.int .i64 ((0:Nat):Int), .int .i64 ((0:Nat):Int)] [(0, .int .i64 ((a:Nat):Int)),(1, .int .i64 ((0:Nat):Int))]=some (.agg [.int .i64 ((a:Nat):Int), .int .i64 ((0:Nat):Int)]):=rfl;have i0:zBZ 2 1 (.agg [.int .i64 ((a:Nat):Int), .int .i64 ((0:Nat):Int)]) (.int .i64 ((0:Nat):Int))=some (.int .i64 ((a:Nat):Int)):=rfl;have i1:zBZ 2 1 (.agg [.int .i64 ((a:Nat):Int), .int .i64 ((0:Nat):Int)]) (.int .i64 ((1:Nat):Int))=some (.int .i64 ((0:Nat):Int)):=rfl;have t0:((0:Nat):Int)< ((2:Nat):Int):=by omega
 have t1:((1:Nat):Int)< ((2:Nat):Int):=by omega
 have a4:((0:Nat):Int)+((1:Nat):Int)=((1:Nat):Int):=by omega
 obtain⟨k,rfl⟩: ∃k,n=k+1+1:=⟨n - 2,by omega⟩;have u:=take_one m (k+1+1) hm f.ok q x2 x3 J a2 a0 (by omega) (by omega) (by omega) (by omega) (by omega)
 cases hr:ofR is 0 nb a with
 | some j=>
  rw[hr]at u;simp only at u;obtain⟨z,S,T,U,a5,V⟩:=u;have s:2<=j/\j<nb/\is j=0:=by
   simp only[ofR]at hr;split at hr
   .cases hr
   .obtain⟨O,h2,W⟩:=KD hr;exact⟨by omega,by omega,W⟩
  refine⟨z,j, ?_,s.1,s.2.1,s.2.2,a5,⟨V.ok,by have:=V.next;omega,fun B Y Z=> ?_⟩⟩
  .have l0:cN (dy (m+2)) (k+1+1) [.ptr A1 0, .ptr A2 0, .ptr y 0, .agg [.int .i64 ((a:Nat):Int), .int .i64 ((0:Nat):Int)], .int .i64 ((0:Nat):Int)] t=some (.ret (.tuple [.int .i64 ((j:Nat):Int), .int .i64 ((0:Nat):Int)]),z):=by
    simp(maxSteps:=999999)(disch:=omega) only[cN,eZ,t0,i0,q.ld,S,T.ld,U.ld]
   simp(maxSteps:=999999)(disch:=omega) only[f195,eZ,cbx,cq,b1,b2,b3,q.ld,rl,a1,fY l0]
  .rw[V.keep B (by omega) (fun e=>by rcases e with e | e | e<;>first | omega | exact Z e),f.keep B Y (fun x=>x)]
 | none=>
  rw[hr]at u;simp only at u;obtain⟨z,S,o⟩:=u;have N4:=o.next
  have o2:=take_one m (k+1+1) hm o.ok (q.mono f.ok o (fun x=>x)) (x2.mono f.ok o (fun x=>x)) (x3.mono f.ok o (fun x=>x)) (J.stp f.ok o (fun x=>x)) (ab:=0) (by omega) a0 (by omega) (by omega) (by omega) (by omega) (by omega)
  cases h:ofR is 0 nb 0 with
  | none=>
   exfalso;simp only[ofR]at h;rw[if_neg (by omega)]at h;obtain⟨i,hi,K⟩:=zNb hf;have:i≠0/\i≠1:=⟨fun e=>h0 (e▸K),fun e=>O (e▸K)⟩;exact zEL h i (by omega) (by omega) K
  | some j=>
   rw[h]at o2;simp only at o2;obtain⟨H5,e5,T,U,a6,s5⟩:=o2;have s:2<=j/\j<nb/\is j=0:=by
    simp only[ofR]at h;split at h
    .cases h
    .obtain⟨O,h2,W⟩:=KD h;exact⟨by omega,by omega,W⟩
   refine⟨H5,j, ?_,s.1,s.2.1,s.2.2,a6,⟨s5.ok,by have:=s5.next;omega,fun B Y Z=> ?_⟩⟩
   .have l0:cN (dy (m+2)) (k+1+1) [.ptr A1 0, .ptr A2 0, .ptr y 0, .agg [.int .i64 ((a:Nat):Int), .int .i64 ((0:Nat):Int)], .int .i64 ((0:Nat):Int)] t=some (.norm [.ptr A1 0, .ptr A2 0, .ptr y 0, .agg [.int .i64 ((a:Nat):Int), .int .i64 ((0:Nat):Int)], .int .i64 ((1:Nat):Int)],z):=by
     simp(maxSteps:=999999)(disch:=omega) only[cN,eZ,t0,i0,q.ld,S,a4]
    have l1:cN (dy (m+2)) (k+1+1) [.ptr A1 0, .ptr A2 0, .ptr y 0, .agg [.int .i64 ((a:Nat):Int), .int .i64 ((0:Nat):Int)], .int .i64 ((1:Nat):Int)] z=some (.ret (.tuple [.int .i64 ((j:Nat):Int), .int .i64 ((0:Nat):Int)]),H5):=by
     simp(maxSteps:=999999)(disch:=omega) only[cN,eZ,t1,i1,(q.mono f.ok o (fun x=>x)).ld,e5,T.ld,U.ld]
    simp(maxSteps:=999999)(disch:=omega) only[f195,eZ,cbx,cq,b1,b2,b3,q.ld,rl,a1,wR l0,fY l1]
   .rw[s5.keep B (by omega) (fun e=>by rcases e with e | e | e<;>first | omega | exact Z e),o.keep B (by omega) (fun x=>x),f.keep B Y (fun x=>x)]
end Go.Eng.Sh
end
section
set_option maxRecDepth 20000
namespace Go.Bk
end Go.Bk
namespace Go.Eng.Sh
open Go.Bk
end Go.Eng.Sh
end
section
set_option maxRecDepth 20000
namespace Go.Eng.Sh
open Go.Nd (Ptr Str)
open Go.Bk
theorem zQT (D:Dyn)(n:Nat)(q:1000<=n){H:AH}(C:H.ok)(kind:UInt8){at_ birth:Nat}(Z:1<=at_)(Y:at_<8192)(hb:birth<=2147483647){body:Str}(hl:body.length<=500):
  ∃H',f196 D n [.int .i64 ((at_:Nat):Int), .agg (jN (sealB kind birth body))] H=some (.tuple [.agg (jR (fC at_ birth (sealB kind birth body))), .int .i64 ((0:Nat):Int)],H')/\Prs H H':=by
 obtain⟨B,j⟩: ∃B,B=sealB kind birth body:=⟨_,rfl⟩;have h:=sealB_len (kind:=kind) (birth:=birth) hl;rw[<-j]at h;obtain⟨H1,A3,b1,m,F,m1,n1⟩:=box C (.cells (jN B) 55 1 false);obtain⟨H2,A4,b2,a,J,m2,n2⟩:=box m.ok (.cells [.int .i64 ((0:Nat):Int), .int .i64 ((0:Nat):Int), .int .u64 ((0:Nat):Int)] 42 1 false);have p:=zRn a m.ok F;obtain⟨H3,s,f⟩:=zI1 D n q a.ok kind hb hl;rw[<-j]at s⊢;obtain⟨K,L,i⟩:=zJQ D n q f.ok h;have t:=zRn (f.trans i) a.ok J;have u:=zRn f a.ok p;obtain⟨o,N,O,S,n5⟩:=jW i.ok t (l':=jR (fC at_ birth B)) rfl rfl;have v:stN 3 (.ptr A4 0) (.agg (jR (fC at_ birth B))) K=some (jO,o):=N;have T:=ldR p h;have x:=ldR u h;have U:ldN 3 (.ptr A4 0) o=some (.agg (jR (fC at_ birth B))):=xS O rfl;have y: ¬(((0:Nat):Int)≠((0:Nat):Int)):=by omega
 have V: ¬((at_:Nat):Int)< ((1:Nat):Int):=by omega
 have W: ¬((8192:Nat):Int)<=((at_:Nat):Int):=by omega
 have z:vR [(0,1),(1,1),(2,1)] [.int .i64 ((0:Nat):Int), .int .i64 ((0:Nat):Int), .int .u64 ((0:Nat):Int)] [(0, .int .i64 ((at_:Nat):Int)),(1, .int .i64 ((birth:Nat):Int)),(2, .int .u64 ((U7 B:Nat):Int))]=some (.agg (jR (fC at_ birth B))):=rfl;have N2:=a.next;have N3:=f.next;have N4:=i.next
 refine⟨o, ?_,(((m.trans a).trans f).trans i).fresh S fun B j=>by omega⟩;simp(maxSteps:=999999)(disch:=omega) only[f196,eZ,b1,b2,T,s,jM,nth,y,V,W,x,L,z,v,U]
structure Wr (E:Ev)(H:AH)(Aw As At M Ad:Nat)(c:AV)(txg left la:Nat)(is:Nat->Nat)(root:Ptr)(es:List (AV×AV))(q:PN)(last:Nat)(dr:AV)(Z P:Nat->Prop):Prop where
 ti:TI E H At M (.ptr Ad 0) c root es q last dr
 sp:Spc H As E.nb la is
 few:E.ws.length+cnt is 0 E.nb<=990000
 gw: ∃On Nw wv ds tv ov nt tl ol,DkI H Ad E.nb E.ws On Nw wv ds/\H.h.get Aw=some (.cells [.ptr At 0, .ptr As 0, .int .i64 ((txg:Nat):Int), .int .i64 ((left:Nat):Int),tv,ov] 198 1 false)/\Own 1 3 H tv nt tl/\Own 513 202 H ov nt ol/\nt<=E.ws.length/\(∀B,Z B↔B=Aw\/B=As\/B=Ad\/B=Nw\/Blk wv B\/Blk tv B\/Blk ov B)/\ ¬Z On
 pr: ∀B,P B-> ¬Z B
 pa: ∀B,P B↔B=At\/B=M\/Blk dr B\/ ∃kv∈es,xX kv.2 B
 bd:2<=la\/la=0
 nb:64<=E.nb/\E.nb<=8192/\la<E.nb
 s0:is 0≠0/\is 1≠0
 lf:left<=1000000000
theorem Wr.lt {E:Ev}{H:AH}{Aw i At M Ad:Nat}{c:AV}{txg left j:Nat}{is:Nat->Nat}{root:Ptr}{es:List (AV×AV)}{q:PN}{h:Nat}{m:AV}{Z P:Nat->Prop}(w:Wr E H Aw i At M Ad c txg left j is root es q h m Z P): ∀B,Z B->B<H.next:=by
 obtain⟨v,x,y,z,C,F,nt,J,K,f,o,p,s,_,t,_⟩:=w.gw;have a:=w.ti.ok;intro B u;rcases(t B).1 u with rfl | rfl | rfl | rfl | e | e | e
 .exact a.lt o
 .exact w.sp.lt a
 .exact a.lt f.gD
 .exact a.lt f.gN
 .exact zRq f.ow e
 .exact zRq p e
 .exact zRq s e
theorem Wr.prs {E:Ev}{H H':AH}{Aw f At M Ad:Nat}{c:AV}{txg left h:Nat}{is:Nat->Nat}{root:Ptr}{es:List (AV×AV)}{q:PN}{a:Nat}{i:AV}{Z P:Nat->Prop}(w:Wr E H Aw f At M Ad c txg left h is root es q a i Z P)(s:Prs H H'):Wr E H' Aw f At M Ad c txg left h is root es q a i Z P:=by
 obtain⟨j,m,o,p,t,u,nt,v,y,z,C,F,J,K,L,N⟩:=w.gw;exact⟨w.ti.prs s,w.sp.stp w.ti.ok s fun x=>x,w.few,⟨j,m,o,p,t,u,nt,v,y,z.prs w.ti.ok s,zRn s w.ti.ok C,F.mono s fun _ _ x=>x,J.mono s fun _ _ x=>x,K,L,N⟩,w.pr,w.pa,w.bd,w.nb,w.s0,w.lf⟩
theorem TI.wr {E:Ev}{H H':AH}{At M Ad:Nat}{root:Ptr}{es:List (AV×AV)}{q:PN}{j:Nat}{h:AV}{Z:Nat->Prop}(a:TI E H At M (.ptr Ad 0) .nilPtr root es q j h)(s:Stp Z H H')(f: ∀B,(B=At\/B=M\/Blk h B\/ ∃kv∈es,xX kv.2 B)-> ¬Z B){ws:Ws}{o p:Nat}{t:AV}{u:List (AV×AV)}(v:DkI H' Ad E.nb ws o p t u):TI { E with ws:=ws} H' At M (.ptr Ad 0) .nilPtr root es q j h:=
 ⟨s.ok,by rw[s.keep _ (a.ok.lt a.gT) (f _ (.inl rfl))];exact a.gT,by rw[s.keep _ (a.ok.lt a.gM) (f _ (.inr (.inl rfl)))];exact a.gM,a.pq.frame fun kv m nd x=>x.stp s fun A i=>f _ (.inr (.inr (.inr ⟨kv,m,i⟩))),⟨_,_,_,_,_,rfl,v⟩, .inl rfl,a.dg.mono s fun A i=>f _ (.inr (.inr (.inl i))),a.ds,a.few⟩
end Go.Eng.Sh
end
section
set_option maxRecDepth 20000
namespace Go.Eng.Sh
open Go.Nd (Ptr Str)
open Go.Bk
theorem uF.old {H:AH} : ∀ {es:List (AV×AV)} {q:PN},uF H es q-> ∀kv∈es,∀B,xX kv.2 B->B<H.next
 | [],[],_=>fun _ h=>by simp at h
 | (k,v)::es,(s,nd)::q,h=>fun kv a B f=>by
  rcases zP.1 a with rfl | a
  .exact h.1.2.lt f
  .exact uF.old h.2 kv a B f
 | [],_::_,h=>h.elim
 | _::_,[],h=>h.elim
theorem Wr.old {E:Ev}{H:AH}{Aw h At M Ad:Nat}{c:AV}{txg left i:Nat}{is:Nat->Nat}{root:Ptr}{es:List (AV×AV)}{q:PN}{a:Nat}{j:AV}{Z P:Nat->Prop}(w:Wr E H Aw h At M Ad c txg left i is root es q a j Z P): ∀B,P B->B<H.next:=fun B m=>by
 rcases(w.pa B).1 m with rfl | rfl | e | ⟨kv,f,e⟩
 .exact w.ti.ok.lt w.ti.gT
 .exact w.ti.ok.lt w.ti.gM
 .exact w.ti.dg.lt e
 .exact w.ti.pq.old kv f B e
theorem Spc.bk {H:AH}{A nb a:Nat}{is:Nat->Nat}(h:Spc H A nb a is): ∃c,H.h.get A=some (.cells c 145 1 false):=by
 obtain⟨c,g,_⟩:=h;exact⟨c,g⟩
theorem jZ {H:AH}{A B:Nat}{o p:AObj}(h:H.h.get A=some o)(k:H.h.get B=some p)(e:o≠p):A≠B:=fun x=>by
 rw[x,k]at h;exact e (yD h).symm
theorem zNj (m n:Nat)(hm:10000<=m)(hn:1000<=n){E:Ev}{H:AH}{Aw i At M Ad:Nat}{txg left la:Nat}{is:Nat->Nat}{root:Ptr}{es:List (AV×AV)}{q:PN}{b9:Nat}{dr:AV}{Z P:Nat->Prop}(w:Wr E H Aw i At M Ad .nilPtr txg left la is root es q b9 dr Z P)
  (kind:UInt8) {birth:Nat} (hb:birth<=2147483647) {body:Str} (hl:body.length<=500) (hf:0<cnt is 0 E.nb):
  ∃H' j Z',zLB (dy (m+2)) n [.ptr Aw 0, .agg (jN (sealB kind birth body))] H=some (.tuple [.agg (jR (fC j birth (sealB kind birth body))), .int .i64 ((0:Nat):Int)],H')/\2<=j/\j<E.nb/\is j=0/\
   Wr { E with ws:=E.ws++[(j,sealB kind birth body)] } H' Aw i At M Ad .nilPtr txg left j (VO is j 2) root es q b9 dr Z' P/\AdT Z H Z' H':=by
 obtain⟨b,a⟩: ∃b,b=sealB kind birth body:=⟨_,rfl⟩;have a0:=sealB_len (kind:=kind) (birth:=birth) hl;rw[<-a]at a0;obtain⟨U,y,wv,ds,J,K,nt,tl,ol,f,s,V,L,k3,hZ,hO⟩:=w.gw;have p:=w.ti.ok;obtain⟨sc,gS⟩:=w.sp.bk;obtain⟨f2,f3,f4⟩:=w.nb;have a6:Aw≠i:=fun e=>by
  obtain⟨c,g,l8,_⟩:=w.sp;rw[<-e,s]at g;simp only[zB,AObj.cells.injEq]at g;rw[<-g.1]at l8;simp at l8
 have a7:Aw≠Ad:=jZ s f.gD (by simp);have a8:Aw≠y:=jZ s f.gN (by simp);have a9:Aw≠U:=jZ s f.gO (by simp);have b0: ¬Blk wv Aw:=fun h=>jZ s (f.ow.get h) (by simp) rfl
 have f5: ¬Blk J Aw:=fun h=>jZ s (zRj V h) (by simp) rfl
 have c2: ¬Blk K Aw:=fun h=>jZ s (zRj L h) (by simp) rfl
 have c3:i≠Ad:=jZ gS f.gD (by simp);have c4:i≠y:=jZ gS f.gN (by simp);have c5:i≠U:=jZ gS f.gO (by simp);have c6: ¬Blk wv i:=fun h=>jZ gS (f.ow.get h) (by simp) rfl
 have c7: ¬Blk J i:=fun h=>jZ gS (zRj V h) (by simp) rfl
 have c8: ¬Blk K i:=fun h=>jZ gS (zRj L h) (by simp) rfl
 have f6: ¬Blk J Ad:=fun h=>jZ f.gD (zRj V h) (by simp) rfl
 have c9: ¬Blk K Ad:=fun h=>jZ f.gD (zRj L h) (by simp) rfl
 have f7: ¬Blk J y:=fun h=>jZ f.gN (zRj V h) (by simp) rfl
 have d0: ¬Blk K y:=fun h=>jZ f.gN (zRj L h) (by simp) rfl
 have f8: ¬Blk J U:=fun h=>jZ f.gO (zRj V h) (by simp) rfl
 have f9: ¬Blk K U:=fun h=>jZ f.gO (zRj L h) (by simp) rfl
 have g0: ∀B,Blk wv B-> ¬Blk J B:=fun B h k=>jZ (f.ow.get h) (zRj V k) (by simp) rfl
 have d1: ∀B,Blk wv B-> ¬Blk K B:=fun B h k=>jZ (f.ow.get h) (zRj L k) (by simp) rfl
 have g3: ∀B,Blk J B-> ¬Blk K B:=fun B h k=>jZ (zRj V h) (zRj L k) (by simp) rfl
 have zA:Z Aw:=(hZ Aw).2 (.inl rfl);have zS:Z i:=(hZ i).2 (.inr (.inl rfl));have zD:Z Ad:=(hZ Ad).2 (.inr (.inr (.inl rfl)));have zN:Z y:=(hZ y).2 (.inr (.inr (.inr (.inl rfl))));have zw: ∀B,Blk wv B->Z B:=fun B h=>(hZ B).2 (.inr (.inr (.inr (.inr (.inl h)))))
 have zt: ∀B,Blk J B->Z B:=fun B h=>(hZ B).2 (.inr (.inr (.inr (.inr (.inr (.inl h))))))
 have zo: ∀B,Blk K B->Z B:=fun B h=>(hZ B).2 (.inr (.inr (.inr (.inr (.inr (.inr h))))))
 obtain⟨H1,A3,b1,p1,g1,m1,n1⟩:=box p (.cells (jN b) 55 1 false);obtain⟨H2,A4,b2,p2,g2,m2,n2⟩:=box p1.ok (.cells [.int .i64 ((0:Nat):Int), .int .i64 ((0:Nat):Int), .int .u64 ((0:Nat):Int)] 42 1 false);have P2:=p1.trans p2;have N1:=p1.next;have N2:=p2.next
 have zl:=w.lt;obtain⟨H3,j,e3,j2,jn,j0,g5,z⟩:=zKB m n hm (by omega) p2.ok (w.sp.stp p P2 (fun x=>x)) f4 (by omega) w.s0.1 w.s0.2 hf;have N3:=z.next
 have d2: ∀ {A:Nat} {o:AObj},H.h.get A=some o->A≠i->H3.h.get A=some o:=fun {A o} g h=>by
  rw[z.keep A (by have:=p.lt g;omega) h];exact zRn P2 p g
 have d3:=d2 s a6;have g7:Own 1 3 H3 J nt tl:=(V.mono P2 fun _ _ x=>x).mono z fun B a e=>c7 (e▸a)
 obtain⟨H4,A5,b4,C,g4,m4,n4⟩:=box z.ok (.cells [.int .i64 ((j:Nat):Int)] 3 1 false);have N4:=C.next
 have e1:srcOf 1 (.slice A5 0 1 2) H4=some (1,[.int .i64 ((j:Nat):Int)]):=by simp only[srcOf,g4];rfl
 have k4:=w.few;have k5:=f.few;obtain⟨H5,e5,g9,N,n5⟩:=bW (bytes:=8) (m:=1) C.ok (by decide) (g7.mono C fun _ _ x=>x) e1 rfl rfl (by omega) (by omega) (by decide);have N5:=N.next
 have h0:=zRn C z.ok d3;have h4:H5.h.get Aw=_:=(N.keep _ (by have:=p.lt s;omega) f5).trans h0;obtain⟨W,e6,g6,O,n6⟩:=xU N.ok h4 (o:=4) (x:= .slice H4.next 0 (nt+1) 1) rfl (by simp)
 have N6:=O.next
 have a5: ∀ {A:Nat} {o:AObj},H.h.get A=some o->A≠i->A≠Aw-> ¬Blk J A->W.h.get A=some o:=fun {A o} g h1 h2 h3=>by
  have:=p.lt g;rw[O.keep A (by omega) h2,N.keep A (by omega) h3];exact zRn C z.ok (d2 g h1)
 have h5:DkI W Ad E.nb E.ws U y wv ds:=by
  refine⟨a5 f.gD c3.symm a7.symm f6,a5 f.gO c5.symm a9.symm f8,a5 f.gN c4.symm a8.symm f7, ?_,f.nw,f.ln,f.few,f.ne⟩;exact((((f.ow.mono P2 fun _ _ x=>x).mono z fun B a e=>c6 (e▸a)).mono C fun _ _ x=>x).mono N fun B a k=>g0 B a k).mono O fun B a e=>b0 (e▸a)
 obtain⟨H7,b3,d4,e7,h6,u,a3⟩:=BN (dy (m+2)) n O.ok h5 jn a0 (by omega);have N7:=u.next
 have d5:W.h.get Aw=_:=g6;have d6:H7.h.get Aw=_:=(u.keep _ (by have:=p.lt s;omega) (fun e=>by rcases e with e | e | e;exact a7 e;exact a8 e;exact b0 e)).trans d5;obtain⟨Z0,d7⟩: ∃Z0:Str,Z0=List.replicate 512 0:=⟨_,rfl⟩;have h7:rep 512 [AV.int .u8 ((0:Nat):Int)]=jN Z0:=by rw[dZ,d7]
 have h8:(jN Z0).length=512:=by rw[jS,d7];exact List.length_replicate
 have b5:(jN b).length=512:=by rw[jS,a0]
 obtain⟨q1,q2⟩:=zJR 202 (x:= .int .i64 ((j:Nat):Int)) (c:= .int .i64 ((0:Nat):Int)) h8 b5 rfl;obtain⟨H8,A6,b8,F,g8,m8,n8⟩:=box u.ok (.cells (.int .i64 ((j:Nat):Int)::jN b) 202 513 false);have N8:=F.next
 have e2:srcOf 513 (.slice A6 0 1 2) H8=some (1,wV (j,b)):=by
  have h9:uU (AV.int .i64 ((j:Nat):Int)::jN b) 0 (1*513)=some (wV (j,b)):=by
   rw[kW _ _ _ (.inr (by simp[b5])),yB,zX (by simp[b5])];rfl
  simp only[srcOf,g8,h9]
 have i0:Own 513 202 W K nt ol:=((((L.mono P2 fun _ _ x=>x).mono z fun B a e=>c8 (e▸a)).mono C fun _ _ x=>x).mono N fun B a k=>g3 B k a).mono O fun B a e=>c2 (e▸a)
 have i1:Own 513 202 H7 K nt ol:=i0.mono u fun B a e=>by
  rcases e with e | e | e
  .exact c9 (e▸a)
  .exact d0 (e▸a)
  .exact d1 B e a
 have i2:jP (wV (j,b))=true:=by
  have:=bytesV_cells b;simp only[wV,jP,this];rfl
 obtain⟨H9,e9,i3,S,n9⟩:=bW (bytes:=520) (m:=1) F.ok (by decide) (i1.mono F fun _ _ x=>x) e2 (by rw[zDY a0]) i2 (by omega) (by omega) (by decide);have N9:=S.next
 have i4:H9.h.get Aw=_:=(S.keep _ (by have:=p.lt s;omega) c2).trans (zRn F u.ok d6);obtain⟨i5,i6,i7,s10,k6⟩:=xU S.ok i4 (o:=5) (x:= .slice H8.next 0 (nt+1) 1) rfl (by simp)
 have k7:=s10.next
 obtain⟨i8,d8,v⟩:=zQT (dy (m+2)) n hn s10.ok kind (at_:=j) (by omega) (by omega) hb hl;rw[<-a]at d8;have k8:=v.next
 have d9: ∀ {A:Nat} {o:AObj},H2.h.get A=some o->H.next<=A->W.h.get A=some o:=fun {A o} g h=>by
  have:=p2.ok.lt g;rw[O.keep A (by omega) (by have:=p.lt s;omega),N.keep A (by omega) (fun a=>by have:=zRq V a;omega),C.keep A (by omega) (fun x=>x),z.keep A (by omega) (by have:=p.lt gS;omega)];exact g
 have b6:=d9 (zRn p2 p1.ok g1) (by omega);have i9:=d9 g2 (by omega);have z6: ∀B,(B=Ad\/B=y\/Blk wv B)->B<H.next:=fun B a=>by
  rcases a with e | e | e
  .exact zl B (e▸zD)
  .exact zl B (e▸zN)
  .exact zl B (zw B e)
 have e0: ∀ {A:Nat} {o:AObj},W.h.get A=some o->H.next<=A->A<H3.next->i5.h.get A=some o:=fun {A o} g h h3=>by
  rw[s10.keep A (by omega) (by have:=p.lt s;omega),S.keep A (by omega) (fun a=>by have:=zRq L a;omega),F.keep A (by omega) (fun x=>x),u.keep A (by omega) (fun a=>by have:=z6 A a;omega)];exact g
 have c0:=e0 b6 (by omega) (by omega);have e4:=zRn v s10.ok (e0 i9 (by omega) (by omega));obtain⟨a4,j1,j3,T,k9⟩:=jW v.ok e4 (l':=jR (fC j birth b)) rfl rfl;have e8:stN 3 (.ptr A4 0) (.agg (jR (fC j birth b))) i8=some (jO,a4):=j1;have l0:=T.next
 have j4:ldN 3 (.ptr A4 0) a4=some (.agg (jR (fC j birth b))):=xS j3 rfl;have j5:=ldR b6 a0;have l1:H9.h.get A3=some (.cells (jN b) 55 1 false):=by
  rw[<-s10.keep A3 (by omega) (by have:=p.lt s;omega)];exact c0
 have j6:H7.h.get A3=some (.cells (jN b) 55 1 false):=by
  rw[u.keep A3 (by omega) (fun a=>by have:=z6 A3 a;omega)];exact b6
 have f1:=ldR c0 a0;have j7:=ldR j6 a0;have j8:=zRn P2 p s;have w1:Eng.ld1 (.ptr Aw 1) H2=some (.ptr i 0):=by rw[jL j8];rfl
 have w4:Eng.ld1 (.ptr Aw 4) H3=some J:=by rw[jL d3];rfl
 have w0:Eng.ld1 (.ptr Aw 0) W=some (.ptr At 0):=by rw[jL d5];rfl
 have w5:Eng.ld1 (.ptr Aw 5) H7=some K:=by rw[jL d6];rfl
 have b7:P At:=(w.pa At).2 (.inl rfl);have j9:W.h.get At=_:=a5 w.ti.gT (fun e=>w.pr At b7 (e▸zS)) (fun e=>w.pr At b7 (e▸zA)) (fun e=>w.pr At b7 (zt At e));have wT:Eng.ld1 (.ptr At 0) W=some (.ptr Ad 0):=by rw[jL j9];rfl
 have k0: ¬(((0:Nat):Int)≠((0:Nat):Int)):=by omega
 refine⟨a4,j,fun B=>B=Aw\/B=i\/B=Ad\/B=y\/Blk b3 B\/Blk (.slice H4.next 0 (nt+1) 1) B\/Blk (.slice H8.next 0 (nt+1) 1) B, ?_,j2,jn,j0, ?_, ?_⟩
 .rw[<-a];simp(maxSteps:=999999)(disch:=omega) only[zLB,eZ,b1,b2,w1,e3,jM,nth,k0,w4,zNP 3 (.int .i64 ((0:Nat):Int)) (show isCell (.int .i64 ((j:Nat):Int))=true from rfl),b4,e5,e6,w0,wT,j5,e7,w5,j7,h7,qF,qS,q1,q2,b8,e9,i6,f1,d8,e8,j4]
 ·
  have l2:=p.lt s;have l3:=p.lt gS;have c1:DkI a4 Ad E.nb (E.ws++[(j,sealB kind birth body)]) U y b3 d4:=by
   rw[<-a];have lD:=zl Ad zD;have lN:=zl y zN;have lO:=p.lt f.gO;refine((((h6.prs u.ok F).stp F.ok S c9 f9 d0 fun B hb Y=> ?_).stp S.ok s10 a7.symm a9.symm a8.symm fun B hb Y=> ?_).prs s10.ok v).stp v.ok T (by omega) (by omega) (by omega) fun B hb Y=> ?_
   .rcases a3 B hb with x | x
    .exact d1 B x Y
    .have:=zRq L Y;omega
   .rcases a3 B hb with x | x
    .exact b0 (Y▸x)
    .omega
   .rcases a3 B hb with x | x
    .have:=zl B (zw B x);omega
    .omega
  have st:Stp Z H a4:=⟨T.ok,by omega,fun B a t=>by
   have a1:B≠Aw:=fun e=>t (e▸zA)
   have a2:B≠i:=fun e=>t (e▸zS)
   rw[T.keep B (by omega) (by omega),v.keep B (by omega) (fun x=>x),s10.keep B (by omega) a1,S.keep B (by omega) (fun h=>t (zo B h)),F.keep B (by omega) (fun x=>x),u.keep B (by omega) (fun h=>by rcases h with e | e | e;exact t (e▸zD);exact t (e▸zN);exact t (zw B e)),O.keep B (by omega) a1,N.keep B (by omega) (fun h=>t (zt B h)),C.keep B (by omega) (fun x=>x),z.keep B (by omega) a2,P2.keep B a (fun x=>x)]⟩
  obtain⟨k1,k2⟩:=(zAS (b:=2) j0 (by omega) (n:=E.nb)).1 jn;refine⟨w.ti.wr st (fun B a=>w.pr B ((w.pa B).2 a)) c1, ?_, ?_,⟨U,y,b3,d4,_,_,nt+1,tl++[.int .i64 ((j:Nat):Int)],ol++wV (j,b),c1, ?_, ?_, ?_, ?_,fun B=>Iff.rfl, ?_⟩,fun B a Y=> ?_,w.pa, .inl j2,⟨f2,f3,jn⟩, ?_,w.lf⟩
  .refine((((((((g5.stp z.ok C fun x=>x).stp C.ok N c7).stp N.ok O a6.symm).stp O.ok u fun e=> ?_).stp u.ok F fun x=>x).stp F.ok S c8).stp S.ok s10 a6.symm).stp s10.ok v fun x=>x).stp v.ok T (by omega);rcases e with e | e | e
   .exact c3 e
   .exact c4 e
   .exact c6 e
  .simp only[zT,yL];omega
  .rw[T.keep Aw (by omega) (by omega)];exact zRn v s10.ok i7
  .refine((((((g9.mono O fun B hb e=> ?_).mono u fun B hb e=> ?_).mono F fun _ _ x=>x).mono S fun B hb e=> ?_).mono s10 fun B hb e=> ?_).mono v fun _ _ x=>x).mono T fun B hb e=> ?_
   all_goals rw[zRd.1 hb]at e
   .omega
   .have:=z6 _ e;omega
   .have:=zRq L e;omega
   .omega
   .omega
  .refine((i3.mono s10 fun B hb e=> ?_).mono v fun _ _ x=>x).mono T fun B hb e=> ?_
   all_goals rw[zRd.1 hb]at e;omega
  .simp only[zT,yL];omega
  .intro h;have lO:=p.lt f.gO;rcases h with e | e | e | e | e | e | e
   .exact a9 e.symm
   .exact c5 e.symm
   .exact hO (e▸zD)
   .exact f.ne e
   .rcases a3 U e with x | x
    .exact hO (zw U x)
    .omega
   .rw[zRd.1 e]at lO;omega
   .rw[zRd.1 e]at lO;omega
  .have lP:=w.old B a;have hn:=w.pr B a;rcases Y with e | e | e | e | e | e | e
   .exact hn (e▸zA)
   .exact hn (e▸zS)
   .exact hn (e▸zD)
   .exact hn (e▸zN)
   .rcases a3 B e with x | x
    .exact hn (zw B x)
    .omega
   .rw[zRd.1 e]at lP;omega
   .rw[zRd.1 e]at lP;omega
  .rw[gQ (by omega),gQ (by omega)];exact w.s0
 .refine⟨⟨T.ok,by omega,fun B a t=> ?_⟩,fun B Y=> ?_⟩
  .have a1:B≠Aw:=fun e=>t (e▸zA)
   have a2:B≠i:=fun e=>t (e▸zS)
   rw[T.keep B (by omega) (by omega),v.keep B (by omega) (fun x=>x),s10.keep B (by omega) a1,S.keep B (by omega) (fun h=>t (zo B h)),F.keep B (by omega) (fun x=>x),u.keep B (by omega) (fun h=>by rcases h with e | e | e;exact t (e▸zD);exact t (e▸zN);exact t (zw B e)),O.keep B (by omega) a1,N.keep B (by omega) (fun h=>t (zt B h)),C.keep B (by omega) (fun x=>x),z.keep B (by omega) a2,P2.keep B a (fun x=>x)]
  .rcases Y with e | e | e | e | e | e | e
   .exact .inl (e▸zA)
   .exact .inl (e▸zS)
   .exact .inl (e▸zD)
   .exact .inl (e▸zN)
   .rcases a3 B e with x | x
    .exact .inl (zw B x)
    .exact .inr (by omega)
   .rw[zRd.1 e];exact .inr (by omega)
   .rw[zRd.1 e];exact .inr (by omega)
end Go.Eng.Sh
end
section
set_option maxRecDepth 20000
namespace Go.Eng.Sh
open Go.Nd (Ptr Str)
open Go.Bk Go.Bt
def cp (l:List Ptr):Nat:=(l.filter fun p=>decide (p.at_=1)).length
theorem zJD:cp []=0:=rfl
theorem cX (p:Ptr)(l:List Ptr):cp (p::l)=(if p.at_=1 then 1 else 0)+cp l:=by
 by_cases e:p.at_=1
 .simp[cp,e];omega
 .simp[cp,e]
theorem JR (a b:List Ptr):cp (a++b)=cp a+cp b:=by simp[cp,jF]
theorem zLH (p:Ptr)(l:List Ptr):dsk (p::l)=if p.at_=1 then dsk l else p::dsk l:=by
 by_cases e:p.at_=1<;>simp[dsk,e]
theorem V5 {p:Ptr}{l:List Ptr} :p∈dsk l↔p∈l/\p.at_≠1:=by simp[dsk]
theorem Ev.K_keep {E:Ev}{ws':Ws}{r:Ptr}{nd:Nd.Node}(h:E.K r=some nd)(hb:blkAt r.at_.toNat ws'=blkAt r.at_.toNat E.ws):Ev.K { E with ws:=ws'} r=some nd:=by
 obtain⟨a,birth,kind,body,rfl,f,i,j,m,o,p,q,s⟩:=zRi.1 h;refine zRi.2 ⟨a,birth,kind,body,rfl,f,i,j,m,o, ?_,q,s⟩;have e:(fC a birth (sealB kind birth body)).at_.toNat=a:=by simp[fC]
 rw[e]at hb;exact hb.trans p
structure WOut (nb:Nat)(ws ws':Ws)(is is':Nat->Nat)(T T':List Ptr):Prop where
 pm: ∃news,T'.Perm (dsk T++news)/\news.Nodup/\news.length=cp T/\ ∀r∈news,2<=r.at_/\is r.at_.toNat=0/\is' r.at_.toNat≠0
 up: ∀i,is' i=is i\/(is i=0/\is' i=2)
 ct:cnt is' 0 nb+cp T=cnt is 0 nb
 bk: ∀a,is a≠0->blkAt a ws'=blkAt a ws
 ln:ws'.length=ws.length+cp T
theorem WOut.nil (nb:Nat)(a:Ws)(is:Nat->Nat){T:List Ptr}(h: ∀r∈T,r.at_≠1):WOut nb a a is is T T:=by
 have e:dsk T=T:=List.filter_eq_self.2 fun p hp=>by simpa using h p hp
 have c:cp T=0:=by
  rw[cp,List.length_eq_zero_iff];exact List.filter_eq_nil_iff.2 fun p hp=>by simpa using h p hp
 exact⟨⟨[],by simp[e],by simp,by rw[c];rfl,by simp⟩,fun _=> .inl rfl,by omega,fun _ _=>rfl,by omega⟩
theorem WOut.nz {nb:Nat}{i ws':Ws}{is f:Nat->Nat}{T j:List Ptr}(w:WOut nb i ws' is f T j){a:Nat}(h:is a≠0):f a≠0:=by
 rcases w.up a with e | ⟨e,_⟩<;>omega
theorem WOut.used {nb:Nat}{j ws':Ws}{is a:Nat->Nat}{T f:List Ptr}(w:WOut nb j ws' is a T f)(h: ∀r∈T,r.at_≠1->is r.at_.toNat≠0): ∀r∈f,r.at_≠1/\a r.at_.toNat≠0:=fun r hr=>by
 obtain⟨s,p,_,_,m⟩:=w.pm;rcases qB.1 (p.mem_iff.1 hr)with e | e
 .obtain⟨o,i⟩:=V5.1 e;exact⟨i,w.nz (h r o i)⟩
 .obtain⟨t,_,q⟩:=m r e;exact⟨by omega,q⟩
theorem WOut.app {nb:Nat}{s m o:Ws}{is p q:Nat->Nat}{T t U u:List Ptr}(w:WOut nb s m is p T t)(v:WOut nb m o p q U u):WOut nb s o is q (T++U) (t++u):=by
 obtain⟨J,K,L,l1,z⟩:=w.pm;obtain⟨N,O,S,V,C⟩:=v.pm;refine⟨⟨J++N, ?_, ?_,by rw[JR,zT,l1,V],fun r hr=> ?_⟩,fun i=> ?_, ?_,fun a f=> ?_, ?_⟩
 .rw[zDJ];refine(K.append O).trans ?_;rw[List.perm_iff_count];intro a;simp only[List.count_append];omega
 .refine List.nodup_append.2 ⟨L,S,fun a f b hb e=> ?_⟩;subst e;exact(z a f).2.2 (C a hb).2.1
 .rcases qB.1 hr with e | e
  .obtain⟨h,F,j⟩:=z r e;exact⟨h,F,v.nz j⟩
  .obtain⟨h,F,j⟩:=C r e;refine⟨h, ?_,j⟩;rcases w.up r.at_.toNat with x | ⟨x,y⟩
   .omega
   .exact x
 .rcases w.up i with a | ⟨a,b⟩<;>rcases v.up i with c | ⟨c,d⟩
  .exact .inl (by omega)
  .exact .inr ⟨by omega,d⟩
  .exact .inr ⟨a,by omega⟩
  .omega
 .have:=w.ct;have:=v.ct;rw[JR];omega
 .rw[v.bk a (w.nz f),w.bk a f]
 .have:=w.ln;have:=v.ln;rw[JR];omega
theorem WOut.put {nb:Nat}{q m:Ws}{is f:Nat->Nat}{S o:List Ptr}(w:WOut nb q m is f S o){s j birth:Nat}{b:Str}(y:2<=j)(jn:j<nb)(p:f j=0):WOut nb q (m++[(j,b)]) is (VO f j 2) (pp s::S) (fC j birth b::o):=by
 have u:WOut nb m (m++[(j,b)]) f (VO f j 2) [pp s] [fC j birth b]:=by
  obtain⟨z,C⟩:=(zAS (b:=2) p (by omega) (n:=nb)).1 jn;refine⟨⟨[fC j birth b],by simp[dsk,pp],by simp,by simp[cp,pp],fun r hr=> ?_⟩,fun i=> ?_, ?_,fun a v=> ?_,by simp[cp,pp]⟩
  .obtain rfl:r=fC j birth b:=by simpa using hr
   have:(fC j birth b).at_.toNat=j:=by simp[fC]
   rw[this,fG];exact⟨by simp[fC];omega,p,by omega⟩
  .by_cases e:i=j
   .subst e;exact .inr ⟨p,fG ..⟩
   .exact .inl (gQ e)
  .simp only[cp,pp,decide_true,List.filter_cons_of_pos,List.filter_nil,yL];omega
  .rw[aN,if_neg (fun e:j=a=>v (by rw[<-e];exact p))]
 have h:=w.app u;refine⟨?_,h.up, ?_,h.bk, ?_⟩
 .obtain⟨t,a,b,c,d⟩:=h.pm;refine⟨t, ?_,b, ?_,d⟩
  .have x:(fC j birth ‹_› ::o).Perm (o++[fC j birth ‹_›]):=(List.perm_append_singleton _ _).symm;refine x.trans (a.trans ?_);rw[zDJ,zLH];simp[dsk,pp]
  .rw[c,JR,cX];simp[pp,cp,Nat.add_comm]
 .have:=h.ct;rw[JR]at this;rw[cX];simp only[cX,zJD]at this;omega
 .have:=h.ln;rw[JR]at this;rw[cX];simp only[cX,zJD]at this;omega
def WN (h:Nat)(t:Bt.Tr h):Prop:=(∃lo hi,WF h lo hi t)\/WR h t
theorem WN.gen {h:Nat}{t:Bt.Tr h}(w:WN h t): ∃lo hi,Gen h lo hi t:=by
 rcases w with⟨lo,hi,w⟩ | w
 .exact⟨lo,hi,w.gen⟩
 .exact⟨none,none,w.gen⟩
theorem WN.sz {h:Nat}{t:Bt.Tr h}(w:WN h t):wI h t<=500:=by
 rcases w with⟨lo,hi,w⟩ | w
 .exact w.sz
 .exact w.sz
theorem WN.ne {h:Nat}{t:Bt.Tr (h+1)}(w:WN (h+1) t):t.1≠[]:=by
 rcases w with⟨lo,hi,w⟩ | w
 .exact w.2.1
 .exact w.2.1
theorem WN.kid {h:Nat}{t:Bt.Tr (h+1)}(w:WN (h+1) t){x:Bt.Tr h}(a:x∈t.2):WN h x:=by
 obtain⟨i,hi,rfl⟩:=jH a;rcases w with⟨lo,f,w⟩ | w
 .exact .inl ⟨_,_,w.1.2.2.at (zJ hi)⟩
 .exact .inl ⟨_,_,w.1.2.2.at (zJ hi)⟩
end Go.Eng.Sh
end
section
set_option maxRecDepth 20000
namespace Go.Eng
theorem rowSt {H:AH}(f:H.ok){A e k i N cc:Nat}{l1 a x:List AV}{g:Bool}(h:H.h.get A=some (.cells (l1++a) e k g))(j:l1.length=i*k)(m:0<k)(v:k<=a.length)(p:x.length=k)(q:jP x=true)(hi:i<N):
  ∃H',(∀κ (z:Int),z=(i:Int)->uX k (.slice A 0 N cc) (.int κ z)=some (.ptr A (i*k)))/\stN k (.ptr A (i*k)) (.agg x) H=some (jO,H')/\H'.h.get A=some (.cells (l1++x++a.drop k) e k g)/\Stp (fun B=>B=A) H H'/\H'.next=H.next:=by
 have hb:Nat.blt i N=true:=by rw[qD];exact hi
 have o:i*k+k<=(l1++a).length:=by rw[zT];omega
 refine⟨_,fun κ z s=> ?_,WE h m p q o, ?_,(zRf f).put (f.lt h) _ (.inr rfl),rfl⟩
 .subst s;simp only[uX,kK κ (show(0:Int)<=(i:Int)by omega),y7,hb,zM,kD,yW]
 .rw[zRc,if_pos rfl];have t:(l1++a).take (i*k)=l1:=j9 j;have u:(l1++a).drop (i*k+k)=a.drop k:=by rw[<-List.drop_drop,yY j]
  simp only[jT,t,u]
end Go.Eng
namespace Go.Eng.Sh
open Go.Nd (Ptr Str)
open Go.Bk Go.Bt
theorem AdT.keep {Z a:Nat->Prop}{H H':AH}(h:AdT Z H a H'){A:Nat}(f:A<H.next)(i: ¬Z A):H'.h.get A=H.h.get A/\ ¬a A/\A<H'.next:=
 ⟨h.1.keep A f i,fun x=>by rcases h.2 A x with y | y;exact i y;omega,qQ f h.1.next⟩
theorem Wr.box {E:Ev}{H H':AH}{Aw p At M Ad:Nat}{txg left t:Nat}{is:Nat->Nat}{root:Ptr}{es:List (AV×AV)}{q:PN}{m:Nat}{u:AV}{Z P:Nat->Prop}(w:Wr E H Aw p At M Ad .nilPtr txg left t is root es q m u Z P){A:Nat}(s:Stp (fun B=>B=A) H H')(J: ¬Z A)(hp: ¬P A){l:List AV}{e k:Nat}{g:Bool}(K:H.h.get A=some (.cells l e k g)):Wr E H' Aw p At M Ad .nilPtr txg left t is root es q m u Z P:=by
 obtain⟨i,v,x,y,L,N,nt,O,S,z,C,T,U,V,a,W⟩:=w.gw;have j:=w.ti.ok;have nz: ∀B,Z B-> ¬B=A:=fun B h e=>J (e▸h)
 have Y: ¬i=A:=fun e=>by have:=z.gO;rw[e,K]at this;cases this
 have o:DkI H' Ad E.nb E.ws i v x y:=z.stp j s (nz _ ((a _).2 (.inr (.inr (.inl rfl))))) Y (nz _ ((a _).2 (.inr (.inr (.inr (.inl rfl)))))) fun B f=>nz _ ((a _).2 (.inr (.inr (.inr (.inr (.inl f))))))
 have F:=w.ti.wr s (fun B f=>fun e=>hp (e▸(w.pa B).2 f)) o;exact⟨F,w.sp.stp j s (nz _ ((a _).2 (.inr (.inl rfl)))),w.few,⟨i,v,x,y,L,N,nt,O,S,o,by rw[s.keep _ (j.lt C) (nz _ ((a _).2 (.inl rfl)))];exact C,T.mono s fun B f=>nz _ ((a _).2 (.inr (.inr (.inr (.inr (.inr (.inl f))))))),U.mono s fun B f=>nz _ ((a _).2 (.inr (.inr (.inr (.inr (.inr (.inr f))))))),V,a,W⟩,w.pr,w.pa,w.bd,w.nb,w.s0,w.lf⟩
theorem Wr.dec {E:Ev}{H:AH}{Aw m At M Ad:Nat}{txg left y:Nat}{is:Nat->Nat}{root:Ptr}{es:List (AV×AV)}{q:PN}{u:Nat}{z:AV}{Z P:Nat->Prop}(w:Wr E H Aw m At M Ad .nilPtr txg (left+1) y is root es q u z Z P):
  ∃H',Eng.ld1 (.ptr Aw 3) H=some (.int .i64 ((left+1:Nat):Int))/\stN 1 (.ptr Aw 3) (.int .i64 ((left:Nat):Int)) H=some (jO,H')/\Eng.ld1 (.ptr Aw 3) H'=some (.int .i64 ((left:Nat):Int))/\Eng.ld1 (.ptr Aw 0) H'=some (.ptr At 0)/\Wr E H' Aw m At M Ad .nilPtr txg left y is root es q u z Z P/\AdT Z H Z H'/\H'.next=H.next:=by
 obtain⟨C,F,J,K,W,Y,nt,tl,ol,j,a,L,N,hn,O,S⟩:=w.gw;have p:=w.ti.ok;obtain⟨T,e1,s,i,n1⟩:=xU p a (o:=3) (x:= .int .i64 ((left:Nat):Int)) rfl (by simp);have t:Z Aw:=(O _).2 (.inl rfl);have V:m≠Aw:=fun e=>by
  obtain⟨c,g,U,_⟩:=w.sp;rw[e,a]at g;simp only[zB,AObj.cells.injEq]at g;rw[<-g.1]at U;simp at U
 have v:DkI T Ad E.nb E.ws C F J K:=j.stp p i (fun e=>jZ a j.gD (by simp) e.symm) (fun e=>S (e▸t)) (fun e=>jZ a j.gN (by simp) e.symm) fun B f e=>jZ a (j.ow.get f) (by simp) e.symm
 refine⟨T,by rw[jL a];rfl,e1,by rw[jL s];rfl,by rw[jL s];rfl,⟨w.ti.wr i (fun B f e=>w.pr B ((w.pa B).2 f) (e▸t)) v,w.sp.stp p i V,w.few,⟨C,F,J,K,W,Y,nt,tl,ol,v,s,L.mono i fun B f e=>jZ a (zRj L f) (by simp) e.symm,N.mono i fun B f e=>jZ a (zRj N f) (by simp) e.symm,hn,O,S⟩,w.pr,w.pa,w.bd,w.nb,w.s0,by have:=w.lf;omega⟩,⟨i.mono fun B _ e=>e▸t,fun _ h=> .inl h⟩,n1⟩
def zMl (h:Nat):Prop:= ∀ {E:Ev} {H:AH} {Aw m At M Ad txg left v:Nat} {is:Nat->Nat} {root:Ptr} {es:List (AV×AV)} {q:PN} {f:Nat} {o:AV} {Z P:Nat->Prop} (k n:Nat) {p:Ptr} {nd:Nd.Node} {t:Bt.Tr h} {S:List Ptr},200000000+h<=k->200000000<=n->
  Wr E H Aw m At M Ad .nilPtr txg left v is root es q f o Z P->Qf E q [] p=some nd->kU (Qf E q []) h nd t S->WN h t->(∀r∈p::S,r.at_≠1->is r.at_.toNat≠0)->cp (p::S)<=left->cp (p::S)<=cnt is 0 E.nb->txg<=2147483647->
  ∃H' ws' s la' i a j u left',f96 (dy k) n [.ptr Aw 0, .agg (jR p)] H=some (.tuple [.agg (jR a), .int .i64 ((0:Nat):Int)],H')/\Wr { E with ws:=ws'} H' Aw m At M Ad .nilPtr txg left' la' i root es q f o s P/\AdT Z H s H'/\WOut E.nb E.ws ws' is i (p::S) (a::u)/\left'+cp (p::S)=left/\Ev.K { E with ws:=ws'} a=some j/\kU (Ev.K { E with ws:=ws'}) h j t u
theorem zKg {E:Ev}{q:PN}{ws':Ws}{r:Ptr}{nd:Nd.Node}(h:Qf E q [] r=some nd)(hb:r.at_≠1->blkAt r.at_.toNat ws'=blkAt r.at_.toNat E.ws):Qf { E with ws:=ws'} q [] r=some nd:=by
 obtain⟨s,rfl,a⟩ | ⟨a,f⟩:=vQ h
 .rw[zB1]at h⊢;exact h
 .rw[J8 a];exact Ev.K_keep f (hb fun e=>by have:=(uG f).2;omega)
theorem wkids {h:Nat}(ih:zMl h)(k n:Nat)(hk:200000000+h<=k)(hn:200000000<=n){Aw As At M Ad txg f cc N:Nat}{root:Ptr}{es:List (AV×AV)}{q:PN}{b0:Nat}{dr kv x4 x6:AV}{P:Nat->Prop}{kids:List Ptr}(ht:txg<=2147483647)(hN:N=kids.length)(f3:N<=100000):
  ∀(v:List Ptr) (ts:List (Bt.Tr h)) (S a:List Ptr) (E:Ev) (H:AH) (Z:Nat->Prop) (left la:Nat) (is:Nat->Nat) (j:Nat) (z:List AV),Wr E H Aw As At M Ad .nilPtr txg left la is root es q b0 dr Z P->xZ (Qf E q []) (kU (Qf E q []) h) v ts S->(∀x∈ts,WN h x)->(∀r∈S,r.at_≠1->is r.at_.toNat≠0)->cp S<=left->cp S<=cnt is 0 E.nb->v.length<j->
   vS H kv kids->(∀B,Blk kv B->P B)->kids.drop a.length=v->a.length+v.length=kids.length->H.h.get f=some (.cells (a.flatMap jR++z) 42 3 false)->z.length=v.length*3-> ¬Z f-> ¬P f->
   ∃H' ws' Z' la' b2 left' b3 S',jY j (zAE (dy (k+1)) n) [.ptr Aw 0,x4,x6, .slice f 0 N cc,kv, .int .i64 ((N:Nat):Int), .int .i64 ((a.length:Nat):Int)] H=some (.exit 0 [.ptr Aw 0,x4,x6, .slice f 0 N cc],H')/\Wr { E with ws:=ws'} H' Aw As At M Ad .nilPtr txg left' la' b2 root es q b0 dr Z' P/\AdT (fun B=>Z B\/B=f) H (fun B=>Z' B\/B=f) H'/\ ¬Z' f/\WOut E.nb E.ws ws' is b2 S S'/\left'+cp S=left/\xZ (Ev.K { E with ws:=ws'}) (kU (Ev.K { E with ws:=ws'}) h) b3 ts S'/\H'.h.get f=some (.cells ((a++b3).flatMap jR) 42 3 false):=by
 intro v
 induction v with
 | nil=>
  intro ts S a E H Z left la is j z w O hw T b4 b5 W a6 Y hd hl g8 a0 a7 a4;obtain⟨j,rfl⟩: ∃m,j=m+1:=⟨j - 1,by simp at W;omega⟩
  cases ts with
  | cons _ _=>exact O.elim
  | nil=>
   have e:S=[]:=O;subst e;have hi: ¬((a.length:Nat):Int)< ((N:Nat):Int):=by simp only[yJ]at hl;omega
   have c9:z=[]:=zV (by simpa using a0);subst c9;refine⟨H,E.ws,Z,la,is,left,[],[],jU (by simp(disch:=omega) only[zAE,eZ,hi]),w,AdT.prs (zRf w.ti.ok),a7,WOut.nil _ _ _ (by simp),by rw[zJD];omega,rfl,by simpa using g8⟩
 | cons p v ihp=>
  intro ts S a E H Z left la is j z w O hw T b4 b5 W a6 Y hd hl g8 a0 a7 a4;obtain⟨j,rfl⟩: ∃m,j=m+1:=⟨j - 1,by simp at W;omega⟩
  cases ts with
  | nil=>exact O.elim
  | cons t ts=>
   obtain⟨nd,S1,C,hq,hr,d0,rfl⟩:=O;have b6:a.length<kids.length:=by simp at hl;omega
   have d1:kids[a.length]=p:=by
    have:=List.getElem_cons_drop b6;rw[hd]at this;simp only[yE]at this;exact this.1
   obtain⟨pk,q1,q2⟩:=a6.at b6;rw[d1]at q2;have a8:=w.ti.ok;have l8:=a8.lt g8;obtain⟨H1,b7,b1,p1,g1,m1,n1⟩:=box a8 (.cells [.int .i64 ((0:Nat):Int), .int .i64 ((0:Nat):Int), .int .u64 ((0:Nat):Int)] 42 1 false);obtain⟨H2,e2,g2,s2,n2⟩:=jW p1.ok g1 (l':=jR p) rfl rfl;have d2:stN 3 (.ptr b7 0) (.agg (jR p)) H1=some (jO,H2):=e2;have F:Prs H H2:=p1.fresh s2 fun B u=>by omega
   have r2:ldN 3 (.ptr b7 0) H2=some (.agg (jR p)):=xS g2 rfl;have J:p::(S1++C)=(p::S1)++C:=rfl;rw[J,JR]at b4 b5;obtain⟨H3,y,Z3,d3,b8,s,d4,a9,c5,e3,w3,U,V,f4,d5,d6⟩:=ih k k hk (by omega) (w.prs F) hq hr (hw t (zK ..)) (fun r hr=>T r (by rw[J];exact yC _ hr)) (by omega) (by omega) ht;have N2:=F.next;have N3:=U.1.next
   have b9:=zRn F a8 g8;obtain⟨k8,z8,f5⟩:=U.keep (F.ok.lt b9) a7;have c0:=k8.trans b9;obtain⟨H4,d7,e4,g4,s4,n4⟩:=rowSt (cc:=cc) w3.ti.ok c0 (i:=a.length) (N:=N) (x:=jR s) (cK a) (by omega) (by simp at a0;omega) rfl rfl (by omega);have w4:=w3.box s4 z8 a4 c0;have c1:(a++[s]).length=a.length+1:=by simp
   have c2: ∀r,r∈C-> ∀nd,Qf E q [] r=some nd->Qf { E with ws:=y} q [] r=some nd:=fun r hr nd h=>zKg h fun L=>V.bk _ (T r (by rw[J];exact yR _ hr) L)
   have d8:xZ (Qf { E with ws:=y} q []) (kU (Qf { E with ws:=y} q []) h) v ts C:=d0.mono c2 fun nd t S' hS r=>r.mono fun p hp nd hh=>c2 p (hS p hp) nd hh
   have c7:vS H4 kv kids:=by
    refine(Rw.stp (Rw.stp (a6.prs F) U.1 fun B u=> ?_) s4 fun B u e=> ?_)
    .exact w.pr B (Y B u)
    .exact a4 (e▸Y B u)
   obtain⟨H5,c3,Z5,d9,e0,c6,e6,S5,e5,w5,a5,z5,o5,f6,e7,g5⟩:=ihp ts C (a++[s]) { E with ws:=y} H4 Z3 c5 d3 b8 j (z.drop 3) w4 d8 (fun x hx=>hw x (zC _ hx)) (fun r hr L=>V.nz (T r (by rw[J];exact yR _ hr) L)) (by omega) (by have:=V.ct;show cp C<=cnt b8 0 E.nb;omega) (by simp at W;omega) c7 Y (by rw[c1,<-List.drop_drop,hd];rfl) (by simp at hl⊢;omega) (by rw[g4];simp) (by simp at a0⊢;omega) z8 a4;have o:=V.app o5;have e8:=V.used (fun r hr L=>T r (by rw[J];exact yC _ hr) L);have c4: ∀r,r∈s::a9-> ∀nd,Ev.K { E with ws:=y} r=some nd->Ev.K { E with ws:=c3} r=some nd:=fun r hr nd h=>Ev.K_keep (E:= { E with ws:=y}) h (o5.bk _ (e8 r hr).2)
   refine⟨H5,c3,Z5,d9,e0,c6,s::e6,s::a9++S5, ?_,w5, ?_,z5,o,by rw[J,JR];omega,⟨d4,a9,S5,c4 s (zK ..) _ d5,d6.mono fun r hr nd h=>c4 r (zC _ hr) nd h,e7,rfl⟩,by rw[g5];simp⟩
   .have hi:((a.length:Nat):Int)< ((N:Nat):Int):=by omega
    have e9: ¬(((0:Nat):Int)≠((0:Nat):Int)):=by omega
    have hi1:((a.length:Nat):Int)+((1:Nat):Int)=(((a++[s]).length:Nat):Int):=by rw[c1];omega
    have wi:IntKind.wrap .i64 (((a++[s]).length:Nat):Int)=(((a++[s]).length:Nat):Int):=wrap_i64 (by omega) (by omega);have c8:=d7 .i64 _ rfl;have f1:=q1 .i64 _ rfl;have f2:(dy (k+1)).fn 96 [.ptr Aw 0, .agg (jR p)] H2=some (.tuple [.agg (jR s), .int .i64 ((0:Nat):Int)],H3):=e3;refine(wR ?_).trans e5;simp(maxSteps:=999999)(disch:=omega) only[zAE,eZ,hi,f1,q2,b1,d2,r2,f2,jM,nth,c8,e4,e9,hi1,wi]
   .have a1:AdT (fun B=>Z B\/B=f) H (fun B=>Z3 B\/B=f) H3:=by
     refine⟨(F.stp).trans (U.1.mono fun B _ h=> .inl h),fun B u=> ?_⟩;rcases u with u | u
     .rcases U.2 B u with x | x
      .exact .inl (.inl x)
      .exact .inr (by omega)
     .exact .inl (.inr u)
    have a2:AdT (fun B=>Z3 B\/B=f) H3 (fun B=>Z3 B\/B=f) H4:=⟨s4.mono fun B _ h=> .inr h,fun B h=> .inl h⟩;exact(a1.trans a2).trans a5
end Go.Eng.Sh
end
section
set_option maxRecDepth 20000
namespace Go.Eng.Sh
open Go.Nd (Ptr Str)
open Go.Bk Go.Bt
theorem zEl (z:List AV): ∀n,(rep n z).length=n*z.length
 | 0=>by simp[rep]
 | n+1=>by rw[rep,zT,zEl z n,jI];omega
theorem zOa (e sz bytes:Nat)(z:List AV){n:Nat}(a:n<=1000000)(hb:bytes<=1000):zIa e sz bytes z (.int .i64 ((n:Nat):Int)) (.int .i64 ((n:Nat):Int))=some (.cells (rep n z) e sz false,fun A=> .slice A 0 n (2*n)):=by
 have f:Nat.ble n n=true:=by rw[qV];omega
 have h:Nat.ble (n*bytes) 140737488355328=true:=by
  rw[qV]
  calc n*bytes<=1000000*1000:=Nat.mul_le_mul a hb
   _<=140737488355328:=by decide
 have i:Nat.blt n 9223372036854775808=true:=by rw[qD];omega
 show zIa e sz bytes z (.int .i64 (.ofNat n)) (.int .i64 (.ofNat n))=_;simp only[zIa,f,h,i,qN,zM]
theorem zKA (s:Str):U7 s<18446744073709551616:=zAc _ _ (by omega)
theorem AdT.prsR {Z a:Nat->Prop}{H f i:AH}(h:AdT Z H a f)(s:Prs f i):AdT Z H a i:=h.trans (AdT.prs s)
theorem AdT.boxR {Z a:Nat->Prop}{H f i:AH}(h:AdT Z H a f){A:Nat}(s:Stp (fun B=>B=A) f i)(o:H.next<=A):AdT Z H a i:=by
 have N:=h.1.next;have p:=s.next
 refine⟨⟨s.ok,by omega,fun B j m=> ?_⟩,h.2⟩;rw[s.keep B (by omega) (by omega),h.1.keep B j m]
theorem AdT.dropR {Z f i:Nat->Prop}{H j m:AH}(h:AdT Z H f j){A:Nat}(k:AdT (fun B=>f B\/B=A) j (fun B=>i B\/B=A) m)(p:H.next<=A):AdT Z H i m:=by
 have N:=h.1.next;have q:=k.1.next
 refine⟨⟨k.1.ok,by omega,fun B a o=> ?_⟩,fun B a=> ?_⟩
 .rw[k.1.keep B (by omega) fun x=> ?_,h.1.keep B a o];rcases x with x | x
  .rcases h.2 B x with y | y
   .exact o y
   .omega
  .omega
 .rcases k.2 B (.inl a)with(x | x) | x
  .exact h.2 B x
  .exact .inr (by omega)
  .exact .inr (by omega)
theorem zPM {h:Nat}(k n:Nat)(hk:200000000<=k)(hn:200000000<=n){E:Ev}{H:AH}{Aw As At M Ad txg left la s:Nat}{is:Nat->Nat}{root:Ptr}{es:List (AV×AV)}{q:PN}{a2:Nat}{dr:AV}{Z P:Nat->Prop}{nd:Nd.Node}{t:Bt.Tr h}{S:List Ptr}
  (w:Wr E H Aw As At M Ad .nilPtr txg (left+1) la is root es q a2 dr Z P) (hq:jV s q=some nd) (hr:kU (Qf E q []) h nd t S) (hw:WN h t) (o2:cp S+1<=cnt is 0 E.nb) (hu: ∀r∈S,r.at_≠1->is r.at_.toNat≠0) (ht:txg<=2147483647)
  (i1: ∀(H:AH) (kv x4 x6:AV) (m:Nat) (l2:List AV),Wr E H Aw As At M Ad .nilPtr txg left la is root es q a2 dr Z P->vS H kv nd.kids->(∀B,Blk kv B->P B)->H.h.get m=some (.cells l2 42 3 false)->l2.length=nd.kids.length*3-> ¬Z m-> ¬P m->
   ∃H' ws' N la' a0 left' a9 u,jY n (zAE (dy k) n) [.ptr Aw 0,x4,x6, .slice m 0 nd.kids.length (2*nd.kids.length),kv, .int .i64 ((nd.kids.length:Nat):Int), .int .i64 ((0:Nat):Int)] H=some (.exit 0 [.ptr Aw 0,x4,x6, .slice m 0 nd.kids.length (2*nd.kids.length)],H')/\Wr { E with ws:=ws'} H' Aw As At M Ad .nilPtr txg left' la' a0 root es q a2 dr N P/\AdT (fun B=>Z B\/B=m) H (fun B=>N B\/B=m) H'/\ ¬N m/\WOut E.nb E.ws ws' is a0 S u/\left'+cp S=left/\a9.length=nd.kids.length/\kU (Ev.K { E with ws:=ws'}) h { nd with kids:=a9} t u/\H'.h.get m=some (.cells (a9.flatMap jR) 42 3 false)):
  ∃H' ws' N la' a0 p' f u left',f96 (dy k) n [.ptr Aw 0, .agg (jR (pp s))] H=some (.tuple [.agg (jR p'), .int .i64 ((0:Nat):Int)],H')/\Wr { E with ws:=ws'} H' Aw As At M Ad .nilPtr txg left' la' a0 root es q a2 dr N P/\AdT Z H N H'/\WOut E.nb E.ws ws' is a0 (pp s::S) (p'::u)/\left'+cp (pp s::S)=left+1/\Ev.K { E with ws:=ws'} p'=some f/\kU (Ev.K { E with ws:=ws'}) h f t u:=by
 obtain⟨O,rfl⟩: ∃O,k=O+2:=⟨k - 2,by omega⟩;have j7:=w.ti.ok;have zl:=w.lt;have hP:=w.old;obtain⟨H1,A3,b1,p1,g1,m1,n1⟩:=box j7 (.cells (jR (pp s)) 42 1 false);obtain⟨H2,A4,b2,p2,g2,m2,n2⟩:=box p1.ok (.cells [.int .i64 ((0:Nat):Int), .int .i64 ((0:Nat):Int), .int .u64 ((0:Nat):Int)] 42 1 false);have P2:=p1.trans p2;have N1:=p1.next;have N2:=p2.next
 have b0:=zRn p2 p1.ok g1;obtain⟨H3,d1,d2,d3,d4,w3,a3,n3⟩:=(w.prs P2).dec;have o3:=w3.lt;obtain⟨j8,o4,o5⟩:=a3.keep (p2.ok.lt b0) (fun x=>by have:=zl _ x;omega);have j9:=j8.trans b0;obtain⟨k0,o6,o7⟩:=a3.keep (p2.ok.lt g2) (fun x=>by have:=zl _ x;omega);have k1:=k0.trans g2;have r2:Eng.ld1 (.ptr A3 0) H2=some (.int .i64 ((1:Nat):Int)):=by rw[jL b0];rfl
 have r3:ldN 3 (.ptr A3 0) H3=some (.agg (jR (pp s))):=xS j9 rfl;obtain⟨H4,z,b4,p4,g4,m4,n4⟩:=box w3.ti.ok (.cells [.bool false, .nilSlice, .nilSlice, .nilSlice] 119 1 false);have N4:=p4.next
 obtain⟨v,H5,e5,p5,d6,kx,k3⟩:=zBA (dy (O+2)) n (w3.ti.prs p4) hq;have N5:=p5.next
 obtain⟨l,rfl,ll,lc⟩:=d6.cells;have k4:=zRn p5 p4.ok g4;obtain⟨H6,e6,g6,s6,n6⟩:=jW p5.ok k4 (l':=l) ll lc;have d7:stN 4 (.ptr z 0) (.agg l) H5=some (jO,H6):=e6;have p6:Prs H3 H6:=(p4.trans p5).fresh s6 fun B i=>by omega
 have N6:=p6.next
 obtain⟨ks,vs,F,he,h1,h2,h3⟩:=id d6;simp only[AV.agg.injEq]at he;subst he;have f3:Eng.ld1 (.ptr z 3) H6=some F:=by rw[jL g6];rfl
 have d8:vS H5 F nd.kids:=h3.row;have d9:lnSl F=some (.int .i64 ((nd.kids.length:Nat):Int)):=d8.lnSl;have k5:wI h t<=500:=hw.sz;have o9:small nd:=xN (by rw[hr.size];omega);have p0:nd.kids.length<=100:=by
  have:Nd.size nd=wI h t:=hr.size;simp only[Nd.size]at this;omega
 obtain⟨T,e0⟩: ∃T,T=rep nd.kids.length [AV.int .i64 ((0:Nat):Int), .int .i64 ((0:Nat):Int), .int .u64 ((0:Nat):Int)]:=⟨_,rfl⟩;have i4:T.length=nd.kids.length*3:=by rw[e0];exact zEl _ _
 have e1:zIa 42 3 24 [.int .i64 ((0:Nat):Int), .int .i64 ((0:Nat):Int), .int .u64 ((0:Nat):Int)] (.int .i64 ((nd.kids.length:Nat):Int)) (.int .i64 ((nd.kids.length:Nat):Int))=some (.cells T 42 3 false,fun A=> .slice A 0 nd.kids.length (2*nd.kids.length)):=by
  rw[e0];exact zOa _ _ _ _ (by omega) (by omega)
 obtain⟨U,m,b7,V,g7,m7,n7⟩:=box s6.ok (.cells T 42 3 false);have N7:=V.next
 have P7:Prs H3 U:=p6.trans V;have w7:=w3.prs P7;have b3:=zRn V s6.ok g6;have e2:Eng.ld1 (.ptr z 3) U=some F:=by rw[jL b3];rfl
 have bl: ∀B,xX (.agg [.bool nd.leaf,ks,vs,F]) B->P B:=fun B i=>(w.pa B).2 (.inr (.inr (.inr ⟨_,k3,i⟩)))
 have e3:Stp (fun B=>B=z) H5 U:=s6.trans V.stp;have b5: ∀B,P B-> ¬B=z:=fun B i=>by have:=hP B i;omega
 have i5:vS U F nd.kids:=Rw.stp d8 e3 fun B i=>b5 B (bl B (wO.2 (.inr (.inr i))))
 have z8: ¬Z m:=fun x=>by have:=zl _ x;omega
 have q8: ¬P m:=fun x=>by have:=hP _ x;omega
 obtain⟨H8,L,Z8,p3,k6,i2,qs,u,e8,w8,a8,p8,o8,p9,k7,y,g8⟩:=i1 U F (.ptr A4 0) (.ptr z 0) m T w7 i5 (fun B i=>bl B (wO.2 (.inr (.inr i)))) g7 i4 z8 q8;have k8:AdT Z H Z U:=((AdT.prs P2).trans a3).prsR P7;have k9:AdT Z H Z8 H8:=k8.dropR a8 (by omega);have N8:=a8.1.next
 have zs: ∀B,H.next<=B-> ¬Z B:=fun B i x=>by have:=zl B x;omega
 obtain⟨l0,l1,q0⟩:=a8.keep (V.ok.lt b3) (fun x=>by rcases x with x | x;exact zs _ (by omega) x;omega);have e4:=l0.trans b3;have e7:=zRn P7 w3.ti.ok k1;obtain⟨l3,l4,q1⟩:=a8.keep (V.ok.lt e7) (fun x=>by rcases x with x | x;exact zs _ (by omega) x;omega);have f1:=l3.trans e7;obtain⟨W,e9,g9,Y,n9⟩:=xU w8.ti.ok e4 (o:=3) (x:= .slice m 0 nd.kids.length (2*nd.kids.length)) rfl (by simp);have q6: ¬P z:=fun x=>by have:=hP _ x;omega
 have w9:=w8.box Y (fun x=>l1 (.inl x)) q6 e4;have l5:=k9.boxR Y (by omega);have N9:=Y.next
 have f2:W.h.get m=some (.cells (qs.flatMap jR) 42 3 false):=by rw[Y.keep _ (w8.ti.ok.lt g8) (by omega)];exact g8
 obtain⟨f,J⟩: ∃f,f= { nd with kids:=qs} :=⟨_,rfl⟩;have c6: ∀ {x:AV} {kk:Nat} {ll:List AV} {nn:Nat},Rw kk H5 x nn ll->(∀B,Blk x B->P B)->Rw kk W x nn ll:=fun l6 hb=>
  Rw.stp (Rw.stp (Rw.stp l6 e3 fun B i=>b5 B (hb B i)) a8.1 fun B i x=>by
   rcases x with x | x
   .exact w.pr B (hb B i) x
   .exact q8 (x▸hb B i)) Y fun B i=>b5 B (hb B i)
 have l7:hU W (.agg [.bool nd.leaf,ks,vs, .slice m 0 nd.kids.length (2*nd.kids.length)]) f:=by
  refine⟨ks,vs,_,by rw[J], ?_, ?_, ?_⟩
  .rw[J];exact c6 h1.row fun B i=>bl B (wO.2 (.inl i))
  .rw[J];exact c6 h2.row fun B i=>bl B (wO.2 (.inr (.inl i)))
  .rw[J];refine⟨cK qs, .inr (.inr ⟨m,0,2*nd.kids.length,_,_,_,_,by simp only[k7],f2,w9.ti.ok.lt f2, ?_, ?_⟩)⟩
   .simp only[cK];omega
   .simp only[yB];rw[zX (by rw[cK];omega)]
 rw[<-J]at y;obtain⟨lo,hi,i6⟩:=hw.gen;have f5:=o8.used hu;have i7: ∀r∈u,Nd.kidOk r=true:=fun r p=>by
  obtain⟨x,hx⟩:=kU.here y r p;exact(uG hx).1
 have l8:0<h->f.keys≠[]:=fun h0=>by
  cases h with
  | zero=>omega
  | succ h=>rw[y.2.1];exact hw.ne
 have b6:Nd.shaped ltS f=true:=y.shaped i6 l8 i7;have a7:Nd.size f<=500:=by rw[y.size];exact k5
 have i8:small f:=xN (by omega);have c7: ∀r∈f.kids,r∈u:=fun r p=>by
  cases h with
  | zero=>obtain⟨e,_⟩:=y;rw[e]at p;simp[Nd.leafOf]at p
  | succ h=>exact y.2.2.2.kids r p
 have c8: ∀r∈f.kids,Nd.sumOk r:=fun r p=>by
  obtain⟨x,hx⟩:=kU.here y r (c7 r p);obtain⟨a,birth,kind,body,rfl,_⟩:=zRi.1 hx;exact⟨by simp[fC],by have:=zKA (sealB kind birth body);simp only[fC];omega⟩
 obtain⟨l9,b8,a4⟩:=zJo (O+1) n (by omega) hn w9.ti.ok l7 i8 c8;have i3:zN8 f=(Nd.encN f,0):=by simp only[zN8,b6,if_true,if_pos a7]
 rw[i3]at b8;have a5:(Nd.encN f).length<=500:=by rw[Nd.encN_length b6];exact a7
 obtain⟨kind,C⟩: ∃kind:UInt8,kind=if f.leaf then 1 else 2:=⟨_,rfl⟩
 have m0:=w9.prs a4;obtain⟨q2,a1,b9⟩:=zHn (dy (O+2)) n (by omega) a4.ok kind ht a5;obtain⟨B,i⟩: ∃B,B=sealB kind txg (Nd.encN f):=⟨_,rfl⟩;have c0:=sealB_len (kind:=kind) (birth:=txg) a5;rw[<-i]at a1 c0;obtain⟨Zb,f6⟩: ∃Zb:Str,Zb=List.replicate 512 0:=⟨_,rfl⟩;have m3:Zb.length=512:=by rw[f6];simp
 have f7:rep 512 [AV.int .u8 ((0:Nat):Int)]=jN Zb:=by rw[dZ,f6]
 obtain⟨q3,q5,f8,c1,i9,q7,q9⟩:=box b9.ok (.cells (jN Zb) 55 1 false);obtain⟨f9,g0,j1,g3⟩:=stR c1.ok i9 m3 c0;have r0:=a4.next;have r1:=b9.next;have r4:=c1.next;have r5:=g3.next
 have c2:Prs W f9:=((a4.trans b9).trans c1).fresh g3 fun B i=>by omega
 have g5:=ldR j1 c0;have h4:=w9.prs c2;obtain⟨m5,j,h5,c3,j2,jn,j0,c4,h6⟩:=zNj O n (by omega) (by omega) h4 kind ht a5 (by have:=o8.ct;show 0<cnt k6 0 E.nb;omega);rw[<-i]at c3 c4;have c9:f9.h.get A4=_:=zRn c2 w9.ti.ok ((Y.keep A4 (w8.ti.ok.lt f1) (by omega)).trans f1);obtain⟨j3,j4,o1⟩:=h6.keep (h4.ti.ok.lt c9) (fun x=>l4 (.inl x));have d0:=j3.trans c9;obtain⟨a6,m6,m8,h7,r6⟩:=jW c4.ti.ok d0 (l':=jR (fC j txg B)) rfl rfl;have d5:stN 3 (.ptr A4 0) (.agg (jR (fC j txg B))) m5=some (jO,a6):=m6;have q4: ¬P A4:=fun x=>by have:=hP _ x;omega
 have m9:=c4.box h7 j4 q4 d0;have h8:ldN 3 (.ptr A4 0) a6=some (.agg (jR (fC j txg B))):=xS m8 rfl;have aF:AdT Z H h5 a6:=((l5.prsR c2).trans h6).boxR h7 (by omega);have oF:=o8.put (s:=s) (birth:=txg) (b:=B) j2 jn j0;have n0: ∀r∈u,blkAt r.at_.toNat (L++[(j,B)])=blkAt r.at_.toNat L:=fun r p=>by
  rw[aN,if_neg fun e:j=_=>(f5 r p).2 (by rw[<-e];exact j0)]
 have n5:kU (Ev.K { E with ws:=L++[(j,B)] }) h f t u:=y.mono fun r p r7 h2=>Ev.K_keep (E:= { E with ws:=L}) h2 (n0 r p)
 have n8:decide (kind=1)=f.leaf:=by rw[C];cases f.leaf<;>rfl
 have j5:Nd.decN ltS (decide (kind=1)) (Nd.encN f)=some f:=by
  rw[n8];exact Nd.decN_encN (by simp only[Nd.may,b6,Bool.true_and,zR];exact a7) c8
 have o0:Ev.K { E with ws:=L++[(j,B)] } (fC j txg B)=some f:=by
  refine zRi.2 ⟨j,txg,kind,Nd.encN f,by rw[i],j2,jn,⟨by have:=w.nb.2.1;have:j<E.nb:=jn;omega,fun r p=>(f5 r (c7 r p)).1⟩,ht,a5, ?_,by rw[C];cases f.leaf<;>simp,j5⟩;show blkAt j (L++[(j,B)])=_;rw[aN,if_pos rfl,i]
 refine⟨a6,_,h5,j,_,fC j txg B,f,u,i2, ?_,m9,aF,oF,by rw[cX];simp only[pp,if_true];omega,o0,n5⟩;obtain⟨On,Nw,wv,ds,tv,ov,nt,r8,ol,dk,gw,_⟩:=m0.gw;have fw:Eng.ld1 (.ptr Aw 2) l9=some (.int .i64 ((txg:Nat):Int)):=by rw[jL gw];rfl
 have f0:Eng.ld1 (.ptr z 0) W=some (.bool nd.leaf):=by rw[jL g9];rfl
 have f4:ldN 4 (.ptr z 0) W=some (.agg [.bool nd.leaf,ks,vs, .slice m 0 nd.kids.length (2*nd.kids.length)]):=xS g9 rfl;have j6:f.leaf=nd.leaf:=by rw[J]
 rw[j6]at C;have h9: ¬(((0:Nat):Int)≠((0:Nat):Int)):=by omega
 have i0: ¬(((1:Nat):Int)≠((1:Nat):Int)):=by omega
 have wi:((left+1:Nat):Int) - ((1:Nat):Int)=((left:Nat):Int):=by omega
 have tl: ¬((left:Nat):Int)< ((0:Nat):Int):=by omega
 have r9:=w.lf;have wl:IntKind.wrap .i64 ((left:Nat):Int)=((left:Nat):Int):=wrap_i64 (by omega) (by omega)
 cases hc:nd.leaf with
 | true=>
  rw[hc]at C f0;have c5:((kind.toNat:Nat):Int)=((1:Nat):Int):=by rw[C];rfl
  rw[c5]at a1;simp(maxSteps:=999999)(disch:=omega) only[f96,eZ,b1,b2,r2,i0,d1,wi,wl,d2,d3,tl,d4,r3,b4,e5,jM,nth,d7,h9,f3,d9,e1,b7,e2,e8,zG8,e9,f0,zG7,f4,b8,fw,a1,f7,f8,g0,g5,c3,d5,h8]
 | false=>
  rw[hc]at C f0;have c5:((kind.toNat:Nat):Int)=((2:Nat):Int):=by rw[C];rfl
  rw[c5]at a1;simp(maxSteps:=999999)(disch:=omega) only[f96,eZ,b1,b2,r2,i0,d1,wi,wl,d2,d3,tl,d4,r3,b4,e5,jM,nth,d7,h9,f3,d9,e1,b7,e2,e8,zG8,e9,f0,zG7,f4,b8,fw,a1,f7,f8,g0,g5,c3,d5,h8]
end Go.Eng.Sh
end
section
set_option maxRecDepth 20000
namespace Go.Eng.Sh
open Go.Nd (Ptr Str Kvs)
open Go.Bk Go.Bt
theorem kU.disk {E:Ev}{q:PN} : ∀ {h:Nat} {nd:Nd.Node} {t:Bt.Tr h} {S:List Ptr},kU (Qf E q []) h nd t S->(∀r∈nd.kids,r.at_≠1)->kU E.K h nd t S/\ ∀r∈S,r.at_≠1
 | 0,nd,t,S,w,_=>⟨w,by rw[w.2];simp⟩
 | h+1,nd,t,S,⟨a,b,c,w⟩,hk=>by
  have key: ∀(f:List Ptr) (ts:List (Bt.Tr h)) (S:List Ptr),xZ (Qf E q []) (kU (Qf E q []) h) f ts S->(∀r∈f,r.at_≠1)->xZ E.K (kU E.K h) f ts S/\ ∀r∈S,r.at_≠1:=by
   intro f
   induction f with
   | nil=>
    intro ts S w _
    cases ts with
    | nil=>have e:S=[]:=w;subst e;exact⟨rfl,by simp⟩
    | cons _ _=>exact w.elim
   | cons p f ih=>
    intro ts S w hp
    cases ts with
    | nil=>exact w.elim
    | cons t ts=>
     obtain⟨nd,x,o,y,hr,z,rfl⟩:=w;have m:=hp p (zK ..);obtain⟨s,rfl,_⟩ | ⟨_,u⟩:=vQ y
     .exact absurd rfl m
     .obtain⟨_,_,_,_,_,_,_,⟨_,v⟩,_⟩:=zRi.1 u;obtain⟨i,j⟩:=kU.disk hr v;obtain⟨C,F⟩:=ih ts o z fun r hr=>hp r (zC _ hr)
      refine⟨⟨nd,x,o,u,i,C,rfl⟩,fun r hr=> ?_⟩;rcases zP.1 hr with rfl | hr
      .exact m
      .rcases qB.1 hr with e | e
       .exact j r e
       .exact F r e
  obtain⟨i,j⟩:=key nd.kids t.2 S w hk;exact⟨⟨a,b,c,i⟩,j⟩
theorem zPL {h:Nat}(D:Dyn)(n:Nat){E:Ev}{H:AH}{Aw z At M Ad txg left C:Nat}{is:Nat->Nat}{root:Ptr}{es:List (AV×AV)}{q:PN}{s:Nat}{F:AV}{Z P:Nat->Prop}{p:Ptr}{nd:Nd.Node}{t:Bt.Tr h}{S:List Ptr}
  (w:Wr E H Aw z At M Ad .nilPtr txg left C is root es q s F Z P) (i:E.K p=some nd) (hr:kU (Qf E q []) h nd t S):
  ∃H' ws' J la' v j x L left',f96 D n [.ptr Aw 0, .agg (jR p)] H=some (.tuple [.agg (jR j), .int .i64 ((0:Nat):Int)],H')/\Wr { E with ws:=ws'} H' Aw z At M Ad .nilPtr txg left' la' v root es q s F J P/\AdT Z H J H'/\WOut E.nb E.ws ws' is v (p::S) (j::L)/\left'+cp (p::S)=left/\Ev.K { E with ws:=ws'} j=some x/\kU (Ev.K { E with ws:=ws'}) h x t L:=by
 have V:=w.ti.ok;obtain⟨H1,N,b1,a,W,m1,n1⟩:=box V (.cells (jR p) 42 1 false);obtain⟨m,A4,b2,o,Y,m2,n2⟩:=box a.ok (.cells [.int .i64 ((0:Nat):Int), .int .i64 ((0:Nat):Int), .int .u64 ((0:Nat):Int)] 42 1 false);obtain⟨f,e3,g3,s3,n3⟩:=jW o.ok Y (l':=jR p) rfl rfl;have T:stN 3 (.ptr A4 0) (.agg (jR p)) m=some (jO,f):=e3;have N1:=a.next
 have O:Prs H f:=(a.trans o).fresh s3 fun B hB=>by omega
 have y:=zRn o a.ok W;have r1:Eng.ld1 (.ptr N 0) m=some (.int .i64 p.at_):=by rw[jL y];rfl
 have r2:ldN 3 (.ptr N 0) m=some (.agg (jR p)):=xS y rfl;have r3:ldN 3 (.ptr A4 0) f=some (.agg (jR p)):=xS g3 rfl;have h2:=(uG i).2;have t1:(p.at_≠((1:Nat):Int))=True:=eq_true (by omega);obtain⟨_,_,_,_,_,_,_,⟨_,U⟩,_⟩:=zRi.1 i;obtain⟨hd,hS⟩:=kU.disk hr U;have u: ∀r∈p::S,r.at_≠1:=fun r hr=>by
  rcases zP.1 hr with rfl | hr
  .omega
  .exact hS r hr
 have c:cp (p::S)=0:=by
  rw[cp,List.length_eq_zero_iff];exact List.filter_eq_nil_iff.2 fun p hp=>by simpa using u p hp
 refine⟨f,E.ws,Z,C,is,p,nd,S,left, ?_,w.prs O,AdT.prs O,WOut.nil _ _ _ u,by omega,i,hd⟩;simp(maxSteps:=999999)(disch:=omega) only[f96,eZ,b1,b2,r1,t1,r2,T,r3]
theorem zKq: ∀h,zMl h:=by
 intro h
 induction h with
 | zero=>
  unfold zMl;intro E H Aw As At M Ad txg left C is root es q a0 dr Z P k n p nd t S hk o w F hr i u a1 a2 v;rcases vQ F with⟨s,rfl,f | ⟨_,f⟩⟩ | ⟨_,J⟩
  .simp[jV]at f
  .have hc:cp (pp s::S)=1+cp S:=by rw[cX];simp[pp]
   obtain⟨left,rfl⟩: ∃l,left=l+1:=⟨left - 1,by omega⟩;refine zPM k n (by omega) o w f hr i (by omega) (fun r hr=>u r (zC _ hr)) v fun K kv x4 x6 A8 U y O T z j L V=> ?_
   obtain⟨rfl,rfl⟩:=hr;have b1:(Nd.leafOf t).kids=[]:=rfl;have N:(Nd.leafOf t).kids.length=0:=rfl;obtain⟨n,rfl⟩: ∃m,n=m+1:=⟨n - 1,by omega⟩;refine⟨K,E.ws,Z,C,is,left,[],[], ?_,y,AdT.prs (zRf y.ti.ok),L,WOut.nil _ _ _ (by simp),by simp[cp],rfl,⟨rfl,rfl⟩, ?_⟩
   .rw[N];exact jU (by simp only[zAE,eZ,yA])
   .rw[N,Nat.zero_mul]at j;rw[zV j]at z;exact z
  .exact zPL (dy k) n w J hr
 | succ h ih=>
  unfold zMl;intro E H Aw As At M Ad txg left C is root es q a0 dr Z P k n p nd t S hk o w F hr i u a1 a2 v;rcases vQ F with⟨s,rfl,f | ⟨_,f⟩⟩ | ⟨_,J⟩
  .simp[jV]at f
  .have hc:cp (pp s::S)=1+cp S:=by rw[cX];simp[pp]
   obtain⟨left,rfl⟩: ∃l,left=l+1:=⟨left - 1,by omega⟩;obtain⟨k,rfl⟩: ∃k',k=k'+1:=⟨k - 1,by omega⟩;have a3:Nd.size nd<=500:=by rw[hr.size];exact i.sz
   have b2:nd.kids.length<=100:=by simp only[Nd.size]at a3;omega
   refine zPM (k+1) n (by omega) o w f hr i (by omega) (fun r hr=>u r (zC _ hr)) v fun K kv x4 x6 A8 U y O T z j L V=> ?_
   obtain⟨a,b,c,W⟩:=hr;obtain⟨H8,a4,Z8,a5,a6,Y,qs,S',e8,w8,a8,a7,o8,a9,hR,b0⟩:=wkids ih k n (by omega) o (x4:=x4) (x6:=x6) (cc:=2*nd.kids.length) v rfl (by omega) nd.kids t.2 S [] E K Z left C is n U y W (fun x hx=>i.kid hx) (fun r hr=>u r (zC _ hr)) (by omega) (by omega) (by omega) O T rfl (by simp) z j L V;exact⟨H8,a4,Z8,a5,a6,Y,qs,S',e8,w8,a8,a7,o8,a9,by rw[hR.len,W.len],⟨a,b,c,hR⟩,b0⟩
  .exact zPL (dy k) n w J hr
theorem nodup_le: ∀ {l m:List Nat},l.Nodup->(∀x∈l,x∈m)->l.length<=m.length
 | [],_,_,_=>Nat.zero_le _
 | x::l,m,h,hs=>by
  obtain⟨f,hl⟩:=List.nodup_cons.1 h;have:=nodup_le (m:=m.erase x) hl fun y a=>(List.mem_erase_of_ne fun e:y=x=>f (e▸a)).2 (hs y (zC _ a))
  have hm:=hs x (zK ..);have i:=List.length_erase_of_mem hm;have j:=List.length_pos_of_mem hm;rw[zW];omega
theorem zP1 {E:Ev}{q:PN} : ∀ {T:List Ptr},T.Nodup->(∀r∈T,∃nd,Qf E q [] r=some nd)->cp T<=q.length:=by
 intro T o i;have t:((T.filter fun p=>decide (p.at_=1)).map fun p=>p.sum.toNat).Nodup:=by
  rw[List.nodup_iff_pairwise_ne,List.pairwise_map];refine(List.nodup_iff_pairwise_ne.1 (o.filter _)).imp_of_mem fun {a b} v hb m e=>m ?_
  obtain⟨z,C⟩:=List.mem_filter.1 v;obtain⟨b1,b2⟩:=List.mem_filter.1 hb;obtain⟨x,j⟩:=i a z;obtain⟨y,F⟩:=i b b1;have J: ∃s,a=pp s:=by
   obtain⟨s,e,_⟩ | ⟨_,f⟩:=vQ j
   .exact⟨s,e⟩
   .have:=(uG f).2;simp at C;omega
  have K: ∃s,b=pp s:=by
   obtain⟨s,e,_⟩ | ⟨_,f⟩:=vQ F
   .exact⟨s,e⟩
   .have:=(uG f).2;simp at b2;omega
  obtain⟨s,rfl⟩:=J;obtain⟨u,rfl⟩:=K;have L:s=u:=by simpa[pp]using e
  rw[L]
 have N: ∀s∈(T.filter fun p=>decide (p.at_=1)).map fun p=>p.sum.toNat,s∈q.map (·.1):=fun s O=>by
  obtain⟨r,hr,rfl⟩:=qU.1 O;obtain⟨S,U⟩:=List.mem_filter.1 hr;obtain⟨x,j⟩:=i r S;obtain⟨u,rfl,h | ⟨_,h⟩⟩ | ⟨_,f⟩:=vQ j
  .simp[jV]at h
  .have:(pp u).sum.toNat=u:=by simp[pp]
   rw[this];exact qU.2 ⟨_,xV h,rfl⟩
  .have:=(uG f).2;simp at U;omega
 have V:=nodup_le t N;simpa[cp]using V
def Dsk (H:AH)(Ad f nb:Nat)(h:Ws)(a:Nat)(is:Nat->Nat)(V:Nat->Prop):Prop:= ∃m i j o,DkI H Ad nb h m i j o/\Spc H f nb a is/\(∀B,V B↔B=f\/B=Ad\/B=i\/Blk j B)/\64<=nb/\nb<=8192/\a<nb/\(2<=a\/a=0)/\(is 0≠0/\is 1≠0)/\h.length+cnt is 0 nb<=990000
theorem Dsk.prs {H H':AH}{Ad a nb f:Nat}{h:Ws}{is:Nat->Nat}{V:Nat->Prop}(d:Dsk H Ad a nb h f is V)(i:H.ok)(s:Prs H H'):Dsk H' Ad a nb h f is V:=by
 obtain⟨j,m,o,p,q,t,r⟩:=d;exact⟨j,m,o,p,q.prs i s,t.stp i s (fun x=>x),r⟩
theorem Dsk.lt {H:AH}{Ad h nb i:Nat}{j:Ws}{is:Nat->Nat}{V:Nat->Prop}(d:Dsk H Ad h nb j i is V)(a:H.ok): ∀B,V B->B<H.next:=by
 obtain⟨q,s,t,u,f,m,o,_⟩:=d;intro B p;rcases(o B).1 p with rfl | rfl | rfl | e
 .exact m.lt a
 .exact a.lt f.gD
 .exact a.lt f.gN
 .exact zRq f.ow e
end Go.Eng.Sh
end
section
set_option maxRecDepth 20000
namespace Go.Eng.Sh
open Go.Nd (Ptr Str Kvs)
open Go.Bk Go.Bt
theorem uF.node {H:AH} : ∀ {es:List (AV×AV)} {q:PN},uF H es q-> ∀kv∈es,∃nd,kC H kv.2 nd
 | [],[],_=>fun _ h=>by simp at h
 | (k,v)::es,(s,nd)::q,h=>fun kv a=>by
  rcases zP.1 a with rfl | a
  .exact⟨nd,h.1.2⟩
  .exact uF.node h.2 kv a
 | [],_::_,h=>h.elim
 | _::_,[],h=>h.elim
theorem zE5 {E:Ev}{H:AH}{At M Ad C F nb s:Nat}{J:Ws}{d c f:AV}{root:Ptr}{es:List (AV×AV)}{q:PN}{is:Nat->Nat}{V:Nat->Prop}(i:TI E H At M d c root es q s f)(K:Dsk H Ad C nb J F is V): ∀B,(B=At\/B=M\/Blk f B\/ ∃kv∈es,xX kv.2 B)-> ¬V B:=by
 obtain⟨On,Nw,wv,dm,m,L,N,_⟩:=K;obtain⟨t,O,v,u,_⟩:=L;have S:=i.gT;have key: ∀(o:AObj),zR3 o->(∀l p g,o≠ .cells l p 3 g)->o≠ .cells (xE d c root M s f) 140 1 false->o≠ .map [10] es-> ∀B,H.h.get B=some o-> ¬(B=At\/B=M\/Blk f B\/ ∃kv∈es,xX kv.2 B):=by
  intro o T U W Y B a h;rcases h with rfl | rfl | h | ⟨kv,y,h⟩
  .rw[S]at a;exact W (yD a).symm
  .rw[i.gM]at a;exact Y (yD a).symm
  .exact zRk i.dg a (fun p g=>U _ p g) h
  .obtain⟨nd,z⟩:=i.pq.node kv y;exact z.nblk a T h
 intro B j Z;rcases(N B).1 Z with rfl | rfl | rfl | h
 .obtain⟨x,r,e⟩: ∃x r,t=x::r:=by
   cases t with
   | nil=>simp at v
   | cons x r=>exact⟨x,r,rfl⟩
  subst e;simp only[List.getElem?_cons_zero,zB]at u;subst u;exact key _ (.inl ⟨_,r,_,_,rfl,fun _ _ h=>by cases h⟩) (by simp) (by simp) (by simp) _ O j
 .exact key _ (.inl ⟨_,_,_,_,rfl,fun _ _ h=>by cases h⟩) (by simp) (by simp) (by simp) _ m.gD j
 .exact key _ (.inr (.inl ⟨_,_,rfl⟩)) (by simp) (by simp) (by simp) _ m.gN j
 .exact key _ (.inr (.inr ⟨_,_,513,_,rfl,by omega,by omega⟩)) (by simp) (by simp) (by simp) _ (m.ow.get h) j
theorem zPJ {E:Ev}{H o:AH}{Aw At M Ad p u txg left t:Nat}{s:AV}{root:Ptr}{es:List (AV×AV)}{q:PN}{is:Nat->Nat}{V:Nat->Prop}(f:TI E H At M (.ptr Ad 0) .nilPtr root es q t s)(j:Dsk H Ad p E.nb E.ws u is V)(m:Prs H o)(N:o.h.get Aw=some (.cells [.ptr At 0, .ptr p 0, .int .i64 ((txg:Nat):Int), .int .i64 ((left:Nat):Int), .nilSlice, .nilSlice] 198 1 false))(m1:H.next<=Aw)(hl:left<=1000000000):
  Wr E o Aw p At M Ad .nilPtr txg left u is root es q t s (fun B=>B=Aw\/V B) (fun B=>B=At\/B=M\/Blk s B\/ ∃kv∈es,xX kv.2 B):=by
 have i:=f.ok;have a0:=j.prs i m;have J:=zE5 f j;have a1:=j.lt i;obtain⟨v,O,S,T,a,y,z,b1,b2,U,W,Y,Z⟩:=j;have K:=a.prs i m;refine⟨f.prs m,y.stp i m fun x=>x,Z,⟨v,O,S,T, .nilSlice, .nilSlice,0,[],[],K,N,zRo ..,zRo ..,Nat.zero_le _,fun B=> ?_, ?_⟩,fun B C hx=> ?_,fun B=>Iff.rfl,W,⟨b1,b2,U⟩,Y,hl⟩
 .have hn:Blk .nilSlice B↔False:=zRl;rw[z B,hn];constructor
  .rintro(h | h | h | h | h)
   .exact .inl h
   .exact .inr (.inl h)
   .exact .inr (.inr (.inl h))
   .exact .inr (.inr (.inr (.inl h)))
   .exact .inr (.inr (.inr (.inr (.inl h))))
  .rintro(h | h | h | h | h | h | h)
   .exact .inl h
   .exact .inr (.inl h)
   .exact .inr (.inr (.inl h))
   .exact .inr (.inr (.inr (.inl h)))
   .exact .inr (.inr (.inr (.inr h)))
   .exact h.elim
   .exact h.elim
 .have lO:=i.lt a.gO
  rintro(e | hv)
  .omega
  .rcases(z v).1 hv with e | e | e | e
   .obtain⟨c8,F,_⟩:=y;rw[<-e,a.gO]at F;cases F
   .have:=a.gD;rw[<-e,a.gO]at this;cases this
   .exact a.ne e
   .have:=a.ow.get e;rw[a.gO]at this;cases this
 .rcases hx with e | e
  .have hold:B<H.next:=by
    rcases C with rfl | rfl | h | ⟨kv,L,h⟩
    .exact i.lt f.gT
    .exact i.lt f.gM
    .exact f.dg.lt h
    .exact f.pq.old kv L B h
   omega
  .exact J B C e
theorem zKp (m n:Nat)(hm:400000000<=m)(hn:200000000<=n){E:Ev}{H:AH}{At M L Ad z la txg:Nat}{W V:Nat->Prop}{kv:Kvs}{T:List Ptr}{root:Ptr}{q:PN}{is:Nat->Nat}(t:uE (.ptr Ad 0) .nilPtr E H At M L W root q kv T)(ds:Dsk H Ad z E.nb E.ws la is V)(hu: ∀r∈T,r.at_≠1->is r.at_.toNat≠0)(O:1<=txg)(h2:txg<=2147483647)(d7:kv.length<=1000000000):
  ∃H',(cnt is 0 E.nb<q.length/\f43 (dy m) n [.ptr At 0, .ptr z 0, .int .i64 ((txg:Nat):Int)] H=some (.tuple [.agg [.int .i64 ((0:Nat):Int), .int .i64 ((0:Nat):Int), .int .u64 ((0:Nat):Int)], .nilSlice, .int .i64 ((3:Nat):Int)],H')/\Prs H H')\/
   (q.length<=cnt is 0 E.nb/\ ∃ws' c3 la' V' c0 T' M' W' p,f43 (dy m) n [.ptr At 0, .ptr z 0, .int .i64 ((txg:Nat):Int)] H=some (.tuple [.agg (jR c0),p, .int .i64 ((0:Nat):Int)],H')/\uE (.ptr Ad 0) .nilPtr { E with ws:=ws',dl:=[] } H' At M' L W' c0 [] kv T'/\Dsk H' Ad z E.nb ws' la' c3 V'/\WOut E.nb E.ws ws' is c3 T T'/\AdT (fun B=>W B\/V B) H (fun B=>W' B\/V' B) H'/\Rw 3 H' p E.dl.length (E.dl.flatMap jR)/\ ∀B,Blk p B-> ¬W' B/\ ¬V' B/\W B):=by
 obtain⟨p,es,F,hc,U,i8,i9,d8,j0,hr,hW⟩:=t;have hk:=U.ok;obtain⟨H1,y,b1,J,g1,m1,n1⟩:=box hk (.cells [.int .i64 ((0:Nat):Int), .int .i64 ((0:Nat):Int), .int .u64 ((0:Nat):Int)] 42 1 false);have N1:=J.next
 have b5:=U.prs J;have c4:=YT (dy m) n b5;obtain⟨c8,gS,_⟩: ∃c,H.h.get z=some (.cells c 145 1 false)/\True:=by
  obtain⟨_,_,_,_,_,sp,_⟩:=id ds;obtain⟨c,g⟩:=sp.bk;exact⟨c,g,trivial⟩
 have d9:Spc H1 z E.nb la is:=by
  obtain⟨_,_,_,_,_,sp,_⟩:=id (ds.prs hk J);exact sp
 have c1:=zKJ (dy m) n d9;have c5:Eng.ld1 (.ptr At 5) H1=some (.map M):=by rw[jL b5.gT];rfl
 have c6:QK (.map M) H1=some (.int .i64 ((q.length:Nat):Int)):=by
  simp only[QK,b5.gM,kD,b5.pq.len];rfl
 have t1: ¬((txg:Nat):Int)< ((1:Nat):Int):=by omega
 have t2: ¬((2147483647:Nat):Int)< ((txg:Nat):Int):=by omega
 have ck: ∀K:Rs,chk (some (.map M)) (.map M) K=K:=fun K=>wC rfl (by simp[aveq])
 have z6:ldN 3 (.ptr y 0) H1=some (.agg [.int .i64 ((0:Nat):Int), .int .i64 ((0:Nat):Int), .int .u64 ((0:Nat):Int)]):=xS g1 rfl;have e0:vR [(0,1),(1,1),(2,1)] [.int .i64 ((0:Nat):Int), .int .i64 ((0:Nat):Int), .int .u64 ((0:Nat):Int)] []=some (.agg [.int .i64 ((0:Nat):Int), .int .i64 ((0:Nat):Int), .int .u64 ((0:Nat):Int)]):=rfl;rcases Nat.lt_or_ge (cnt is 0 E.nb) q.length with e1 | e4
 .obtain⟨C,e2,g2,s2,n2⟩:=jW J.ok g1 (l':=[.int .i64 ((0:Nat):Int), .int .i64 ((0:Nat):Int), .int .u64 ((0:Nat):Int)]) rfl rfl;have e8:stN 3 (.ptr y 0) (.agg [.int .i64 ((0:Nat):Int), .int .i64 ((0:Nat):Int), .int .u64 ((0:Nat):Int)]) H1=some (jO,C):=e2;have r2:ldN 3 (.ptr y 0) C=some (.agg [.int .i64 ((0:Nat):Int), .int .i64 ((0:Nat):Int), .int .u64 ((0:Nat):Int)]):=xS g2 rfl;have tl:((cnt is 0 E.nb:Nat):Int)< ((q.length:Nat):Int):=by omega
  refine⟨C, .inl ⟨e1, ?_,J.fresh s2 fun B f=>by omega⟩⟩;simp(maxSteps:=999999)(disch:=omega) only[f43,eZ,b1,c4,cq,t1,t2,c5,c1,ck,c6,tl,e0,e8,r2]
 .have tl: ¬((cnt is 0 E.nb:Nat):Int)< ((q.length:Nat):Int):=by omega
  obtain⟨C,Aw,b2,p2,g2,m2,n2⟩:=box J.ok (.cells [.ptr At 0, .ptr z 0, .int .i64 ((txg:Nat):Int), .int .i64 ((q.length:Nat):Int), .nilSlice, .nilSlice] 198 1 false);have N2:=p2.next
  have P2:=J.trans p2;have w2:=zPJ U ds P2 g2 (by omega) U.few;have f1:vR [(0,1),(1,1),(2,1),(3,1),(4,1),(5,1)] [.nilPtr, .nilPtr, .int .i64 ((0:Nat):Int), .int .i64 ((0:Nat):Int), .nilSlice, .nilSlice] [(0, .ptr At 0),(1, .ptr z 0),(2, .int .i64 ((txg:Nat):Int)),(3, .int .i64 ((q.length:Nat):Int))]=some (.agg [.ptr At 0, .ptr z 0, .int .i64 ((txg:Nat):Int), .int .i64 ((q.length:Nat):Int), .nilSlice, .nilSlice]):=rfl;have f2:=w2.ti.gT;have rT:ldN 3 (.ptr At 2) C=some (.agg (jR root)):=YW f2 (by simp[xE]);have j1:cp T<=q.length:=by
   rcases hr with⟨_,_,rfl⟩ | ⟨h,nd,tr,S,k1,k2,k3,k4,k5,rfl⟩
   .exact Nat.zero_le _
   .refine zP1 (E:=E) k4 fun r hr=> ?_
    rcases zP.1 hr with rfl | hr
    .exact⟨nd,k1⟩
    .exact kU.here k2 r hr
  have node: ∃Y N v a5 a4 j T3 a9,f96 (dy m) n [.ptr Aw 0, .agg (jR root)] C=some (.tuple [.agg (jR j), .int .i64 ((0:Nat):Int)],Y)/\Wr { E with ws:=N} Y Aw z At M Ad .nilPtr txg a9 a5 a4 root es q F p v (fun B=>B=At\/B=M\/Blk p B\/ ∃kv∈es,xX kv.2 B)/\AdT (fun B=>B=Aw\/V B) C v Y/\WOut E.nb E.ws N is a4 T T3/\gP { E with ws:=N,dl:=[] } [] j kv T3:=by
   rcases hr with⟨rfl,rfl,rfl⟩ | ⟨h,nd,tr,S,k1,k2,k3,k4,k5,rfl⟩
   .obtain⟨Y,A3,b3,p3,g3,m3,n3⟩:=box w2.ti.ok (.cells (jR pZ) 42 1 false);obtain⟨H4,A4,b4,p4,g4,m4,n4⟩:=box p3.ok (.cells [.int .i64 ((0:Nat):Int), .int .i64 ((0:Nat):Int), .int .u64 ((0:Nat):Int)] 42 1 false);obtain⟨i,e5,g5,s5,n5⟩:=jW p4.ok g4 (l':=jR pZ) rfl rfl;have b6:stN 3 (.ptr A4 0) (.agg (jR pZ)) H4=some (jO,i):=e5;have N3:=p3.next
    have P5:Prs C i:=(p3.trans p4).fresh s5 fun B f=>by omega
    have c7:=zRn p4 p3.ok g3;have r1:Eng.ld1 (.ptr A3 0) H4=some (.int .i64 ((0:Nat):Int)):=by rw[jL c7];rfl
    have r2:ldN 3 (.ptr A3 0) H4=some (.agg (jR pZ)):=xS c7 rfl;have r3:ldN 3 (.ptr A4 0) i=some (.agg (jR pZ)):=xS g5 rfl;have f3:(((0:Nat):Int)≠((1:Nat):Int))=True:=eq_true (by omega);refine⟨i,E.ws,_,la,is,pZ,[],q.length, ?_,w2.prs P5,AdT.prs P5,WOut.nil _ _ _ (by simp), .inl ⟨rfl,rfl,rfl⟩⟩;simp(maxSteps:=999999)(disch:=omega) only[f96,eZ,b3,b4,r1,f3,r2,b6,r3]
   .have i5:=k3.low (by rw[k5];exact d7);obtain⟨Y,N,v,a5,a4,p',f4,S',a9,e3,w3,a3,o3,l3,K3,R3⟩:=zKq h m n (by omega) hn w2 k1 k2 (.inr k3) hu (by omega) (by omega) h2;refine⟨Y,N,v,a5,a4,p',p'::S',a9,e3,w3,a3,o3, .inr ⟨h,f4,tr,S', ?_, ?_,k3, ?_,k5,rfl⟩⟩
    .have hd:=(o3.used hu p' (zK ..)).1;rw[J8 fun s e=>hd (by rw[e];rfl)];exact zRi.2 (zRi.1 K3)
    .refine R3.mono fun r f5 j2 f6=> ?_
     have hd:=(o3.used hu r (zC _ f5)).1;rw[J8 fun s e=>hd (by rw[e];rfl)];exact zRi.2 (zRi.1 f6)
    .obtain⟨i6,pm,f7,_,hn⟩:=o3.pm;rw[pm.nodup_iff];refine List.nodup_append.2 ⟨k4.filter _,f7,fun a ha b hb e=> ?_⟩;subst e;obtain⟨a1,a2⟩:=V5.1 ha;exact hu a a1 a2 (hn a hb).2.1
  obtain⟨Y,N,v,a5,a4,j,T3,a9,e3,w3,a3,o3,f8⟩:=node;have N3:=a3.1.next
  obtain⟨H4,b7,b4,p4,g4,m4,n4⟩:=box w3.ti.ok (.cells [.int .i64 ((0:Nat):Int), .int .i64 ((0:Nat):Int), .int .u64 ((0:Nat):Int)] 42 1 false);obtain⟨i,e5,g5,s5,n5⟩:=jW p4.ok g4 (l':=jR j) rfl rfl;have b6:stN 3 (.ptr b7 0) (.agg (jR j)) H4=some (jO,i):=e5;have N4:=p4.next
  have P5:Prs Y i:=p4.fresh s5 fun B f=>by omega
  have u:=w3.prs P5;have f9:ldN 3 (.ptr b7 0) i=some (.agg (jR j)):=xS g5 rfl;have Z:=u.ti.gT;have x1:Eng.ld1 (.ptr At 1) i=some .nilPtr:=by rw[jL Z];rfl
  have x7:Eng.ld1 (.ptr At 7) i=some p:=by rw[jL Z];rfl
  have lT:=hk.lt U.gT;have e6:=WE (o:=2) (n:=3) (x:= .agg (jR j)) Z (by decide) rfl rfl (by simp[xE]);have g6:(i.put At (.cells (xE (.ptr Ad 0) .nilPtr j M F p) 140 1 false)).h.get At=some (.cells (xE (.ptr Ad 0) .nilPtr j M F p) 140 1 false):=by rw[zRc,if_pos rfl]
  have c9:stN 3 (.ptr At 2) (.agg (jR j)) i=some (jO,i.put At (.cells (xE (.ptr Ad 0) .nilPtr j M F p) 140 1 false)):=e6;have a6:Stp (fun B=>B=At) i (i.put At (.cells (xE (.ptr Ad 0) .nilPtr j M F p) 140 1 false)):=(zRf u.ti.ok).put (u.ti.ok.lt Z) _ (.inr rfl);generalize i.put At (.cells (xE (.ptr Ad 0) .nilPtr j M F p) 140 1 false)=H6 at c9 g6 a6;obtain⟨H7,e7,g7,s7,n7⟩:=xU a6.ok g6 (o:=7) (x:= .nilSlice) rfl (by simp[xE]);have g0:H7.h.get At=some (.cells (xE (.ptr Ad 0) .nilPtr j M F .nilSlice) 140 1 false):=g7;obtain⟨H8,M',b8,p8,g8,m8,n8⟩:=box s7.ok (.map [10] []);have h0:=zRn p8 s7.ok g0;obtain⟨H9,e9,g9,s9,n9⟩:=xU p8.ok h0 (o:=5) (x:= .map M') rfl (by simp[xE]);have h4:H9.h.get At=some (.cells (xE (.ptr Ad 0) .nilPtr j M' F .nilSlice) 140 1 false):=g9;have N6:=a6.next;have N7:=s7.next;have N8:=p8.next;have N9:=s9.next
  have j3:=w2.lt;have kb: ∀ {A:Nat} {o:AObj},H1.h.get A=some o->H.next<=A->A<C.next->A≠Aw->i.h.get A=some o:=fun {A o} g ha hb a7=>by
   have d0:=zRn p2 J.ok g;have nz: ¬(A=Aw\/V A):=fun x=>by
    rcases x with x | x
    .exact a7 x
    .have:=ds.lt hk A x;omega
   rw[P5.keep A (by omega) (fun x=>x),(a3.keep (w2.ti.ok.lt d0) nz).1];exact d0
  have a8:=kb g1 (by omega) (by omega) (by omega);have b9: ∀ {A:Nat} {o:AObj},i.h.get A=some o->A≠At->A<i.next->H9.h.get A=some o:=fun {A o} g a7 hl=>by
   rw[s9.keep A (by omega) a7,p8.keep A (by omega) (fun x=>x),s7.keep A (by omega) a7,a6.keep A hl a7];exact g
  have h5:=b9 a8 (by omega) (u.ti.ok.lt a8);have d3:=b9 g5 (by omega) (by omega);have d4:ldN 3 (.ptr b7 0) H9=some (.agg (jR j)):=xS d3 rfl;obtain⟨a0,h6,h7,s10,j4⟩:=jW s9.ok h5 (l':=jR j) rfl rfl;have d5:stN 3 (.ptr y 0) (.agg (jR j)) H9=some (jO,a0):=h6;have r6:ldN 3 (.ptr y 0) a0=some (.agg (jR j)):=xS h7 rfl;have j5:=s10.next
  have h8: ¬(((0:Nat):Int)≠((0:Nat):Int)):=by omega
  have h9:mkM [10]=some (.map [10] [],fun A=> .map A):=rfl;obtain⟨On,Nw,wv,dm,tv,ov,nt,j6,ol,dk,gw,ot,oo,j7,hZ,hO⟩:=u.gw;have tP: ∀B,(B=At\/B=M\/Blk p B\/ ∃kv∈es,xX kv.2 B)-> ¬v B:=w3.pr;have i0: ∀B,v B-> ¬B=At:=fun B f e=>tP At (.inl rfl) (e▸f)
  have l6:y<C.next:=by omega
  have i1: ¬v y:=(a3.keep (w2.ti.ok.lt (zRn p2 J.ok g1)) (fun x=>by rcases x with x | x;omega;have:=ds.lt hk y x;omega)).2.1;have j8: ∀B,v B->B<i.next:=u.lt
  have i2:On≠y:=fun e=>by rw[<-e]at a8;rw[dk.gO]at a8;cases a8
  have i3:On≠At:=fun e=>by rw[<-e]at Z;rw[dk.gO]at Z;cases Z
  have lO:=u.ti.ok.lt dk.gO;have i7: ∀ {A:Nat} {o:AObj},i.h.get A=some o->A≠At->A≠y->a0.h.get A=some o:=fun {A o} g O h2=>by
   have:=u.ti.ok.lt g;rw[s10.keep A (by omega) h2];exact b9 g O this
  have zI: ∀ {B},v B->B≠At/\B≠y:=fun {B} f=>⟨i0 B f,fun e=>i1 (e▸f)⟩
  have b0:Stp (fun B=>B=At\/B=y) i a0:=⟨s10.ok,by omega,fun A hA hS=>by
   have O:A≠At:=fun e=>hS (.inl e)
   have h2:A≠y:=fun e=>hS (.inr e)
   rw[s10.keep A (by omega) h2,s9.keep A (by omega) O,p8.keep A (by omega) (fun x=>x),s7.keep A (by omega) O,a6.keep A hA O]⟩
  have nI: ∀ {B},v B-> ¬(B=At\/B=y):=fun {B} f x=>by rcases x with x | x;exact(zI f).1 x;exact(zI f).2 x
  have zS:v z:=(hZ _).2 (.inr (.inl rfl));have zD:v Ad:=(hZ _).2 (.inr (.inr (.inl rfl)));have zN:v Nw:=(hZ _).2 (.inr (.inr (.inr (.inl rfl))));have zw: ∀B,Blk wv B->v B:=fun B f=>(hZ _).2 (.inr (.inr (.inr (.inr (.inl f)))))
  have c2:DkI a0 Ad E.nb N On Nw wv dm:=dk.stp u.ti.ok b0 (nI zD) (fun x=>by rcases x with x | x;exact i3 x;exact i2 x) (nI zN) fun B f=>nI (zw B f)
  have i4: ∀B,Blk p B->B=At\/B=M\/Blk p B\/ ∃kv∈es,xX kv.2 B:=fun B f=> .inr (.inr (.inl f))
  have d1: ∀B,Blk p B->B≠At:=fun B f e=>by
   subst e;exact zRk U.dg U.gT (fun e' g=>by simp) f
  have d2: ∀B,Blk p B->B<H.next:=fun B f=>U.dg.lt f
  have d6:Rw 3 a0 p E.dl.length (E.dl.flatMap jR):=by
   refine Rw.stp (u.ti.dg.row) b0 fun B f x=> ?_
   rcases x with x | x
   .exact d1 B f x
   .have:=d2 B f;omega
  refine⟨a0, .inr ⟨e4,N,a4,a5,fun B=>B=z\/B=Ad\/B=Nw\/Blk wv B,j,T3,M',fun B=>B=At\/B=M'\/Blk .nilSlice B,p, ?_,⟨.nilSlice,[],F,rfl,⟨s10.ok, ?_, ?_,trivial,⟨_,_,_,_,_,rfl,c2⟩, .inl rfl, .inl (zRo ..),by simp,by simp⟩,by simp[jV],by simp,d8,by simp,f8,fun B=>Iff.rfl⟩,⟨On,Nw,wv,dm,c2,u.sp.stp u.ti.ok b0 (nI zS),fun B=>Iff.rfl,u.nb.1,u.nb.2.1,u.nb.2.2,u.bd,u.s0,u.few⟩,o3,⟨⟨s10.ok,by omega,fun B f hS=> ?_⟩,fun B f=> ?_⟩,d6,fun B f=>⟨?_, ?_,(hW B).2 (.inr (.inr f))⟩⟩⟩
  .simp(maxSteps:=999999)(disch:=omega) only[f43,eZ,b1,c4,cq,t1,t2,c5,c1,ck,c6,tl,f1,b2,rT,e3,jM,nth,b4,b6,h8,x1,zIS,x7,f9,c9,e7,h9,b8,e9,d4,d5,r6]
  .rw[s10.keep _ (by omega) (by omega)];exact h4
  .rw[s10.keep _ (by omega) (by omega),s9.keep _ (by omega) (by omega)];exact g8
  .have O:B≠At:=fun e=>hS (.inl ((hW B).2 (.inl e)))
   have hv: ¬V B:=fun x=>hS (.inr x)
   rw[b0.keep B (by omega) (fun x=>by rcases x with x | x;exact O x;omega),P5.keep B (by omega) (fun x=>x),(a3.keep (A:=B) (by omega) (fun x=>by rcases x with x | x;omega;exact hv x)).1,P2.keep B f (fun x=>x)]
  .have old: ∀B,v B->V B\/H.next<=B:=fun B f=>by
    rcases a3.2 B f with(x | x) | x
    .exact .inr (by omega)
    .exact .inl x
    .exact .inr (by omega)
   rcases f with(e | e | e) | (e | e | e | e)
   .exact .inl (.inl ((hW B).2 (.inl e)))
   .exact .inr (by omega)
   .exact(zRl.1 e).elim
   .rcases old B (e▸zS)with x | x
    .exact .inl (.inr x)
    .exact .inr x
   .rcases old B (e▸zD)with x | x
    .exact .inl (.inr x)
    .exact .inr x
   .rcases old B (e▸zN)with x | x
    .exact .inl (.inr x)
    .exact .inr x
   .rcases old B (zw B e)with x | x
    .exact .inl (.inr x)
    .exact .inr x
  .have:=d2 B f
   rintro(e | e | e)
   .exact d1 B f e
   .omega
   .exact zRl.1 e
  .have h3:=tP B (i4 B f)
   rintro(e | e | e | e)
   .exact h3 (e▸zS)
   .exact h3 (e▸zD)
   .exact h3 (e▸zN)
   .exact h3 (zw B e)
end Go.Eng.Sh
end
section
namespace Go.Eng
open Go.Nd (Kvs Srt)
end Go.Eng
namespace Go.Eng.Sh
open Go.Nd (Ptr sumL leafOf Kvs Srt mayK putP delP lookP)
open Go.Bt
def prV (p:Str×Str):List AV:=[S p.1,S p.2]
def zFz (H:AH)(v:AV)(l:Kvs):Prop:=Rw 2 H v l.length (l.flatMap prV)
theorem zEO: ∀(l:Kvs) (i:Nat) (h:i<l.length),((l.flatMap prV).drop (i*2)).take 2=prV l[i]
 | p::l,0,_=>rfl
 | p::l,i+1,h=>by
  rw[qG,show(i+1)*2=2+i*2 by omega,<-List.drop_drop];exact zEO l i (by simpa using h)
theorem zFz.at {H:AH}{v:AV}{l:Kvs}(h:zFz H v l){i:Nat}(hi:i<l.length): ∃A o,(∀κ (z:Int),z=(i:Int)->uX 2 v (.int κ z)=some (.ptr A o))/\Eng.ldN 2 (.ptr A o) H=some (.agg (prV l[i]))/\Eng.ld1 (.ptr A o) H=some (S l[i].1)/\Eng.ld1 (.ptr A (o+1)) H=some (S l[i].2):=by
 obtain⟨A,o,c,e,sz,g,j,f,s,m,a⟩:=Rw.at h hi;rw[zEO l i hi]at a;have p:c[o]? =some (S l[i].1):=by
  have:=congrArg (fun x=>x[0]?) a;simpa[prV]using this
 have q:c[o+1]? =some (S l[i].2):=by
  have:=congrArg (fun x=>x[1]?) a;simpa[prV]using this
 exact⟨A,o,j,by rw[YW f m,a],xT f p,xT f q⟩
def behind (kv:Kvs):Nat->Str
 | 0=>[]
 | i+1=>(kv.getD i ([],[])).1++[0]
theorem look_not {k:Str}{l:Kvs}(h:lookP k l=none): ∀p∈l,p.1≠k:=by
 induction l with
 | nil=>simp
 | cons q l ih=>
  obtain⟨a,b⟩:=q;simp only[lookP]at h;split at h
  .cases h
  .rename_i e;intro p hp;rcases zP.1 hp with rfl | hp
   .exact e
   .exact ih h p hp
theorem srt_ext: ∀ {l m:Kvs},Srt l->Srt m->(∀k,lookP k l=lookP k m)->l=m
 | [],[],_,_,_=>rfl
 | [],(a,b)::m,_,_,h=>by have:=h a;simp[lookP]at this
 | (a,b)::l,[],_,_,h=>by have:=h a;simp[lookP]at this
 | (a,b)::l,(c,d)::m,hl,hm,h=>by
  have key: ∀ {a c:Str} {b d:Str} {l m:Kvs},Srt ((a,b)::l)->Srt ((c,d)::m)->(∀k,lookP k ((a,b)::l)=lookP k ((c,d)::m))->ltS a c=true->False:=fun {a c b d l m} hl hm h j=>by
   have f:=h a;have o:c≠a:=fun e=>(d7 j) e.symm
   simp only[lookP,if_true,if_neg o]at f;have:lookP a m=none:=Nd.look_none fun p hp e=>by
    have:=kR j (hm.1 p hp);rw[e,kV]at this;cases this
   rw[this]at f;cases f
  have e:a=c:=fX (by
   cases i:ltS a c with
   | false=>rfl
   | true=>exact(key hl hm h i).elim) (by
   cases i:ltS c a with
   | false=>rfl
   | true=>exact(key hm hl (fun k=>(h k).symm) i).elim)
  subst e;have hb:=h a;simp only[lookP,if_true,zB]at hb;subst hb;rw[srt_ext hl.2 hm.2 fun k=>by
   have:=h k;simp only[lookP]at this;by_cases e:a=k
   .subst e;have q:lookP a l=none:=Nd.look_none fun p hp e=>by
     have:=hl.1 p hp;rw[e,kV]at this;cases this
    have s:lookP a m=none:=Nd.look_none fun p hp e=>by
     have:=hm.1 p hp;rw[e,kV]at this;cases this
    rw[q,s]
   .rwa[if_neg e,if_neg e]at this]
end Go.Eng.Sh
end
section
namespace Go.Eng
theorem kZ.stk {k e n:Nat}{H:AH}{v:AV}{l:List AV}(h:kZ k e H v n l): ∃f,Stk k f H v n l:=by
 rcases h with⟨a,⟨rfl,rfl⟩ | ⟨A,rfl,i,j⟩⟩ | ⟨a,A,f,g,rfl,i,j,m⟩
 .exact⟨e,a, .inl ⟨rfl,rfl⟩⟩
 .exact⟨e,a, .inr ⟨A,1,l,true,n,rfl,i,j,a,zQ _,zX (by omega), .inr ⟨rfl,rfl⟩⟩⟩
 .exact⟨f,a, .inr ⟨A,2*n,l,g,n,rfl,i,j,a,zQ _,zX (by omega), .inl rfl⟩⟩
theorem kZ.hi {k e n i:Nat}{H:AH}{v:AV}{l:List AV}(h:kZ k e H v n l)(a:0<k)(hi:i<=n): ∃r,vY k v none (some (.int .i64 (i:Nat))) none H=some r/\Rw k H r i (l.take (i*k)):=by
 obtain⟨o,f⟩:=h.stk;obtain⟨r,j,m,_⟩:=f.cut a hi .i64;exact⟨r,j,m.row⟩
end Go.Eng
namespace Go.Eng.Sh
open Go.Nd (Ptr sumL leafOf Kvs Srt mayK putP delP lookP)
open Go.Bt
theorem US: ∀(l:Kvs) (i:Nat),(l.flatMap prV).take (i*2)=(l.take i).flatMap prV
 | [],i=>by simp
 | p::l,0=>by simp
 | p::l,i+1=>by
  rw[qG,List.take_succ_cons,qG,<-US l i,show(i+1)*2=2+i*2 by omega,List.take_append,show(prV p).length=2 from rfl,zX (show(prV p).length<=2+i*2 by show 2<=_;omega),show 2+i*2 - 2=i*2 by omega]
theorem UT: ∀(l:Kvs) (i:Nat),(l.flatMap prV).drop (i*2)=(l.drop i).flatMap prV
 | [],i=>by simp
 | p::l,0=>by simp
 | p::l,i+1=>by
  rw[qG,List.drop_succ_cons,<-UT l i,show(i+1)*2=2+i*2 by omega,<-List.drop_drop];rfl
theorem XG (l:Kvs):jP (l.flatMap prV)=true:=by
 rw[kY];intro x a;obtain⟨p,_,a⟩:=List.mem_flatMap.1 a;simp only[prV,zP,List.not_mem_nil,or_false]at a;rcases a with rfl | rfl<;>rfl
def PrG (H:AH)(v:AV)(l:Kvs):Prop:=kZ 2 48 H v l.length (l.flatMap prV)/\(l=[]->v= .nilSlice)
theorem PrG.prs {H H':AH}{v:AV}{l:Kvs}(h:PrG H v l)(s:Prs H H'):PrG H' v l:=⟨h.1.mono s (fun _ _ x=>x),h.2⟩
theorem PrG.row {H:AH}{v:AV}{l:Kvs}(h:PrG H v l):zFz H v l:=h.1.row
theorem lo2 {H:AH}{v:AV}{l:Kvs}(h:PrG H v l){i:Nat}(hi:i<=l.length): ∃r,vY 2 v (some (.int .i64 (i:Nat))) none none H=some r/\zFz H r (l.drop i):=by
 by_cases f:i<l.length
 .obtain⟨r,a,w,_⟩:=YL h.1 (by decide) f .i64;rw[UT]at w;exact⟨r,a,by rw[zFz,qK];exact w⟩
 .obtain rfl:i=l.length:=by omega
  by_cases j:0<l.length
  .obtain⟨r,a,w⟩:=K5 h.1 (by decide) j .i64;exact⟨r,a,by rw[List.drop_length];exact w⟩
  .have hl:l=[]:=zV (by omega);have m:=h.2 hl;subst hl;subst m;exact⟨.nilSlice,rfl,Rw.nil _ _⟩
theorem zQv {H:AH}{v:AV}{l:Kvs}(hk:H.ok)(h:PrG H v l){j:Nat}(hj:j<=l.length)(hl:l.length<=100000000)(a x:Str):
  ∃i A1 F f t q A2 u y o J z,(∀(C:Nat->AV) (K:AV->AH->Rs),bA (some (.cells [] 48 2 false,C)) H K=K (C A1) i)/\vY 2 v none (some (.int .i64 (j:Nat))) none i=some F/\vY 2 v (some (.int .i64 (j:Nat))) none none i=some f/\
   apP 48 2 32 (.slice A1 0 0 0) F i=some (t,q)/\vY 2 v (some (.int .i64 (j:Nat))) none none q=some f/\aveq f f=true/\(∀(C:Nat->AV) (K:AV->AH->Rs),bA (some (.cells [S a,S x] 48 2 false,C)) q K=K (C A2) u)/\
   apP 48 2 32 t (.slice A2 0 1 2) u=some (y,o)/\vY 2 v (some (.int .i64 (j:Nat))) none none o=some f/\apP 48 2 32 y f o=some (J,z)/\Prs H i/\Prs H q/\Prs H z/\PrG z J (l.take j++(a,x)::l.drop j):=by
 obtain⟨i,A1,b1,s,g1,m1,n1⟩:=box hk (.cells [] 48 2 false);have O:=h.prs s;obtain⟨F,c1,q1⟩:=O.1.hi (by decide) hj;obtain⟨f,c2,q2⟩:=lo2 O hj;rw[US]at q1;have G1:kZ 2 48 i (.slice A1 0 0 0) 0 []:= .inr ⟨rfl,A1,48,false,rfl,n1,g1,rfl⟩;obtain⟨t,q,e2,G2,T,f2⟩:=G1.app (bytes:=32) s.ok (by decide) q1.srcOf q1.len (XG _) (by omega) (by decide);have N1:=s.next;have N2:=T.next
 have U:Prs H q:=s.fresh T (fun B p=>by rw[zRd.1 p];exact m1);have h2:=h.prs U;obtain⟨u,A2,b3,L,g3,m3,n3⟩:=box T.ok (.cells [S a,S x] 48 2 false);have a1:srcOf 2 (.slice A2 0 1 2) u=some (1,[S a,S x]):=by simp only[srcOf,g3];rfl
 obtain⟨y,o,e4,G4,N,f4⟩:=(G2.mono L (fun _ _ x=>x)).app (bytes:=32) (m:=1) (new:=[S a,S x]) L.ok (by decide) a1 rfl rfl (by omega) (by decide);have N3:=L.next;have N4:=N.next
 have Z: ∀B,Blk t B->H.next<=B:=fun B p=>by
  rcases f2 B p with e | e
  .rw[zRd.1 e];exact m1
  .omega
 have V:Prs H o:=(U.trans L).fresh N Z;have h4:=h.prs V;have a0:zFz o f (l.drop j):=by
  have a3:Stp (fun B=>H.next<=B) i o:=⟨N.ok,by omega,fun B p hS=>by
   rw[V.keep B (by omega) (fun x=>x),s.keep B (by omega) (fun x=>x)]⟩
  exact Rw.stp q2 a3 (fun B p a6=>by
   have:=h.1.lt (zAe c2 B p);omega)
 obtain⟨J,z,e5,W,s5,f5⟩:=G4.app (bytes:=32) N.ok (by decide) a0.srcOf a0.len (XG _) (by simp;omega) (by decide);have a4: ∀B,Blk y B->H.next<=B:=fun B p=>by
  rcases f4 B p with e | e
  .exact Z B e
  .omega
 have Y: ∀ {H':AH},PrG H' v l->vY 2 v (some (.int .i64 (j:Nat))) none none H'=some f:=fun {H'} h'=>by
  rw[bD O.1 h'.1 (by decide)];exact c2
 refine⟨i,A1,F,f,t,q,A2,u,y,o,J,z,b1,c1,c2,e2,Y h2,kH q2,b3,e4,Y h4,e5,s,U,V.fresh s5 a4, ?_,fun e=>by simp at e⟩;have a2:0+j+1+(l.drop j).length=(l.take j++(a,x)::l.drop j).length:=by
  simp only[zT,qA,zW,qK];omega
 rw[a2]at W;have a5:[]++(l.take j).flatMap prV++[S a,S x]++(l.drop j).flatMap prV=(l.take j++(a,x)::l.drop j).flatMap prV:=by
  simp[prV]
 rw[a5]at W;exact W
theorem here_split {k:Str}{l:Kvs}(f:Srt l):(lookP k l=none-> ∀h:Nd.whereN (leafOf l) k<l.length,l[Nd.whereN (leafOf l) k].1≠k)/\(∀v,lookP k l=some v-> ∃h:Nd.whereN (leafOf l) k<l.length,l[Nd.whereN (leafOf l) k].1=k):=by
 have h:=Nd.here_look k f;have m:(leafOf l).keys.length=l.length:=jB ..;constructor
 .intro i a e;exact look_not i _ (qY a) e
 .intro v j;rw[j]at h;simp only[Nd.hereN,jK,zE,zR]at h;have a:Nd.whereN (leafOf l) k<l.length:=by omega
  refine⟨a, ?_⟩;have:=h.2;rw[qE,zJ h.1,qZ]at this;have e:(leafOf l).keys[Nd.whereN (leafOf l) k]'h.1=(l[Nd.whereN (leafOf l) k]'a).1:=List.getElem_map ..;exact e.symm.trans this
theorem zHb {l:Kvs}(a:Srt l){w:Nat}(h:w<l.length){k:Str}(f:l[w].1=k):l=l.take w++[l[w]]++l.drop (w+1)/\(∀p∈l.take w,ltS p.1 k=true)/\ ∀p∈l.drop (w+1),ltS k p.1=true:=by
 have e:l=l.take w++[l[w]]++l.drop (w+1):=zEf (zJ h);rw[e]at a;obtain⟨i,o,j⟩:=ZL.1 a;obtain⟨q,s,m⟩:=ZL.1 i;refine⟨e,fun p hp=> ?_,fun p hp=> ?_⟩
 .have:=m p hp l[w] (by simp);rw[f]at this;exact this
 .have:=j l[w] (yR _ (y6.2 rfl)) p hp;rw[f]at this;exact this
theorem del_at {l:Kvs}(f:Srt l){w:Nat}(h:w<l.length){k:Str}(a:l[w].1=k):delP k l=l.take w++l.drop (w+1):=by
 obtain⟨e,i,j⟩:=zHb f h a
 conv=>lhs;rw[e]
 rw[zJv i j];have:delP k [l[w]]=[]:=by
  have m:l[w]=(k,l[w].2):=by rw[<-a]
  rw[m];simp[delP]
 rw[this];simp
def GrP (H:AH)(v:AV)(l:Kvs):Prop:=kZ 2 48 H v l.length (l.flatMap prV)
theorem GrP.prs {H H':AH}{v:AV}{l:Kvs}(h:GrP H v l)(s:Prs H H'):GrP H' v l:=h.mono s (fun _ _ x=>x)
theorem GrP.row {H:AH}{v:AV}{l:Kvs}(h:GrP H v l):zFz H v l:=kZ.row h
theorem GrP.hi {H:AH}{v:AV}{l:Kvs}(h:GrP H v l){i:Nat}(hi:i<=l.length): ∃r,vY 2 v none (some (.int .i64 (i:Nat))) none H=some r/\Rw 2 H r i ((l.flatMap prV).take (i*2)):=kZ.hi h (by decide) hi
end Go.Eng.Sh
end
section
namespace Go.Eng
theorem zCy {w:World}{base n:Nat}{a:Addr}{cs:List Value}(h:w.cells? base a n=some cs)(v:0<n):a.spot=none/\ ∃arr e m,w.heap[a.block]? =some (.cells arr e m)/\ ∀j,j<n->arr[a.off+j]? =cs[j]? :=by
 obtain⟨_,hl,t⟩:=World.cells?_some h;have u:=t 0 v;rw[zJ (by omega)]at u;obtain⟨c1,arr,x,m,p,_⟩:=zCz u;have q:a.spot=none:=by simpa[Addr.add]using c1
 obtain⟨b,o,F⟩:=a;simp only at q;subst q;have hb:(Addr.add ⟨b,o,none⟩ 0).block=b:=by simp[Addr.add]
 rw[hb]at p;refine⟨rfl,arr,x,m,p,fun j y=> ?_⟩;have s:=t j y;rw[zJ (by omega)]at s⊢;obtain⟨_,arr',z,C,f,i⟩:=zCz s;rw[xA]at f i;simp only at f i;rw[p]at f;simp only[zB,Obj.cells.injEq]at f;rw[<-f.1]at i;exact i
theorem zDo {α β:Type}{k:Nat}{g:α->List β}(a: ∀s,(g s).length=k): ∀l:List α,(l.flatMap g).length=l.length*k
 | []=>by simp
 | s::l=>by rw[qG,zT,zDo a l,a,zW,jI,Nat.add_comm]
theorem zIE {α β:Type}{k:Nat}{g:α->List β}(a: ∀s,(g s).length=k): ∀(l:List α) (i j:Nat) (hi:i<l.length),j<k->(l.flatMap g)[i*k+j]? =(g l[i])[j]?
 | s::l,0,j,_,hj=>by
  rw[qG,Nat.zero_mul,yW,yX (by rw[a];exact hj)];rfl
 | s::l,i+1,j,h,hj=>by
  have f:=zIE a l i j (by simpa using h) hj;rw[qG,jA (by rw[a,jI];omega)];have:(i+1)*k+j - (g s).length=i*k+j:=by rw[a,jI];omega
  rw[this,f];rfl
theorem srows_arg {α:Type}[Inhabited α]{H:Type}{enc:TypeId×Value->H}{P:Program}{w:World}{base:Nat}{N:Bool}{z:Nat}{v:Value}{x:DataW H×List MemPlace}{t e:TypeId}{k:Nat}(F:0<k){vals:α->List Value}(O: ∀s,(vals s).length=k){good:α->Prop}(ht:P.underlying t=some (.slice e))(hc:P.cellsOf e=k)
  (hd: ∀ {z:Nat} {cs:List Value} {x:DataW H×List MemPlace},DataW.trod enc P w base (fun _=>true) N z e cs=some x-> ∃s,cs=vals s/\good s)
  (h:DataW.trod enc P w base (fun _=>true) N z t [v]=some x):
  ∃l:List α,Rw k (H0 w) (aB w.heap.size v) l.length (l.flatMap fun s=>(vals s).map (cellAV w.heap.size))/\ ∀s∈l,good s:=by
 have C: ∀s,((vals s).map (cellAV w.heap.size)).length=k:=fun s=>by rw[jB,O]
 rcases Deep.open_slice ht h with⟨y,_⟩ | ⟨a,len,cap,m,n,D,Pl,y,_,hl,_,hm,_,U⟩
 .simp only[yE,and_true]at y;subst y;exact⟨[],⟨by simp, .inl ⟨rfl,rfl⟩⟩,by simp⟩
 .simp only[yE,and_true]at y;subst y;simp only[if_true]at hm;subst hm;by_cases h0:m=0
  .subst h0;obtain rfl:len=0:=by omega
   exact⟨[],⟨by simp, .inr (.inl ⟨rfl,rfl⟩)⟩,by simp⟩
  .simp only[hc]at U;have hp: ∀i,i<m-> ∃p:α,w.cells? base (a.add (i*k)) k=some (vals p)/\good p:=fun i hi=>by
    obtain⟨cs,k1,k2⟩:=U i hi;obtain⟨p,rfl,hs⟩:=hd k2;exact⟨p,k1,hs⟩
   obtain⟨J,K⟩:=Deep.choose_lt hp;obtain⟨b,o,sp⟩:=a;obtain⟨c1,arr,te,fz,f,a2⟩:=zCy (K 0 (by omega)).1 F;have a0:sp=none:=by simpa[Addr.add]using c1
   subst a0;rw[xA]at f;simp only at f;have S: ∀i,i<m-> ∀j,j<k->arr[o+i*k+j]? =(vals (J i))[j]? :=fun i hi j hj=>by
    obtain⟨_,arr',a3,a4,u,L⟩:=zCy (K i hi).1 F;rw[xA]at u L;simp only at u L;rw[f]at u;simp only[zB,Obj.cells.injEq]at u;rw[u.1];exact L j hj
   have a5:(m - 1)*k+k=m*k:=by rw[<-jI,Nat.succ_eq_add_one,Nat.sub_add_cancel (by omega)]
   have a6:o+m*k<=arr.size:=by
    have V:=S (m - 1) (by omega) (k - 1) (by omega);rw[zJ (by rw[O];omega)]at V;have:=(Array.getElem?_eq_some_iff.1 V).1;omega
   have a7:len*k<=m*k:=yN _ (by omega);rw[zM9 w (by omega) (zIw f)];refine⟨(List.range len).map J,⟨zDo C _, .inr (.inr ⟨b,o,2*m,_,te,0,false,by simp,zMo w f,zIw f,by simp;omega, ?_⟩)⟩, ?_⟩
   .apply List.ext_getElem?;intro q;simp only[jB,List.length_range];by_cases W:q<len*k
    .have a1:q / k<len:=Nat.div_lt_of_lt_mul (by rw[Nat.mul_comm];exact W);have T:q % k<k:=Nat.mod_lt _ F;have Y:q / k*k+q % k=q:=by rw[Nat.mul_comm];exact Nat.div_add_mod q k
     rw[jG W,jE,jJ,yS];have Z:=S (q / k) (by omega) (q % k) T;rw[Nat.add_assoc,Y]at Z;have h4:=zIE C ((List.range len).map J) (q / k) (q % k) (by simpa using a1) T;rw[Y]at h4;rw[Z,h4,jJ];simp only[List.getElem_map,List.getElem_range]
    .rw[List.getElem?_eq_none (by simp;omega),List.getElem?_eq_none (by rw[zDo C];simp;omega)]
   .intro p hp;obtain⟨i,hi,rfl⟩:=qU.1 hp;exact(K i (by have:=List.mem_range.1 hi;omega)).2
end Go.Eng
end
section
set_option maxRecDepth 20000
namespace Go.Eng.Sh
open Go.Nd (Ptr sumL leafOf Kvs Srt mayK putP delP lookP)
open Go.Bt Go.Bk
def rootOk (p:Ptr):Prop:=Nd.mayP p=true/\Nd.sumOk p/\p.at_≠1
theorem zD6:rootOk pZ:=⟨rfl,by simp[Nd.sumOk,pZ],by simp[pZ]⟩
theorem zKN {E:Ev}{p:Ptr}{nd:Nd.Node}(h:E.K p=some nd):rootOk p:=by
 have f:=uG h;obtain⟨a,birth,kind,body,rfl,_⟩:=zRi.1 h;exact⟨Nd.kidOk_may f.1,⟨by simp[fC],by have:=zNw (sealB kind birth body);simp only[fC];omega⟩,by omega⟩
theorem gP.rootOk {E:Ev}{p:Ptr}{kv:Kvs}{T:List Ptr}(h:gP E [] p kv T):Sh.rootOk p:=by
 rcases h with⟨rfl,_⟩ | ⟨h,nd,t,S,f,_⟩
 .exact zD6
 .obtain⟨s,rfl,a | ⟨_,a⟩⟩ | ⟨_,i⟩:=vQ f
  .simp[jV]at a
  .simp[jV]at a
  .exact zKN i
theorem zAp (D:Dyn)(n:Nat)(N:100<=n){E:Ev}{H:AH}(x:H.ok){Ad:Nat}{p:Ptr}{kv:Kvs}{T:List Ptr}(hd: ∃j m o q,DkI H Ad E.nb E.ws j m o q)(hr:gP { E with dl:=[] } [] p kv T):
  ∃H' At M W,f18 D n [.ptr Ad 0, .nilPtr, .agg (jR p)] H=some (.tuple [.ptr At 0, .int .i64 ((0:Nat):Int)],H')/\Prs H H'/\uE (.ptr Ad 0) .nilPtr { E with dl:=[] } H' At M 0 W p [] kv T/\(∀B,W B->H.next<=B):=by
 obtain⟨C,F,a0⟩:=hr.rootOk;obtain⟨O,t,b1,a,u,m1,n1⟩:=box x (.cells (jR p) 42 1 false);obtain⟨y,S,f⟩:=zCn D n a.ok C F N;obtain⟨H3,M,U,i,V,m3,n3⟩:=box f.ok (.map [10] []);obtain⟨Y,At,Z,v,g4,m4,n4⟩:=box i.ok (.cells (xE (.ptr Ad 0) .nilPtr p M 0 .nilSlice) 140 1 false);have N1:=a.next;have N2:=f.next;have N3:=i.next
 have J:=a.trans f;have z:=(J.trans i).trans v;obtain⟨j,m,o,q,dk⟩:=hd;refine⟨Y,At,M,fun B=>B=At\/B=M\/Blk .nilSlice B, ?_,z,⟨.nilSlice,[],0,rfl,⟨v.ok,g4,zRn v i.ok V,trivial,⟨Ad,j,m,o,q,rfl,dk.prs x z⟩, .inl rfl, .inl (zRo ..),by simp,by simp⟩,fun s nd h=>by simp[jV]at h,by simp,by omega,by simp,hr,fun B=>Iff.rfl⟩,fun B hB=> ?_⟩
 .have r1:ldN 3 (.ptr t 0) O=some (.agg (jR p)):=by rw[jQ u];rfl
  have r2:ldN 3 (.ptr t 0) y=some (.agg (jR p)):=by rw[jQ (zRn f a.ok u)];rfl
  have r3:Eng.ld1 (.ptr t 0) y=some (.int .i64 p.at_):=by rw[jL (zRn f a.ok u)];rfl
  have K: ¬(((0:Nat):Int)≠((0:Nat):Int)):=by omega
  have L: ¬p.at_=((1:Nat):Int):=by omega
  have bs:vR [(0,1),(1,1),(2,3),(5,1),(6,1),(7,1)] [.nilPtr, .nilPtr, .int .i64 ((0:Nat):Int), .int .i64 ((0:Nat):Int), .int .u64 ((0:Nat):Int), .nilMap, .int .u64 ((0:Nat):Int), .nilSlice] [(0, .ptr Ad 0),(1, .nilPtr),(2, .agg (jR p)),(3, .map M)]=some (.agg (xE (.ptr Ad 0) .nilPtr p M 0 .nilSlice)):=rfl;simp(maxSteps:=999999)(disch:=omega) only[f18,eZ,b1,cq,r1,S,jM,nth,K,r3,L,r2,mkM,U,bs,Z]
 .rcases hB with rfl | rfl | e
  .omega
  .omega
  .exact(zRl.1 e).elim
theorem kZ.get2 {k e n:Nat}{H:AH}{v:AV}{l:List AV}(h:kZ k e H v n l){B:Nat}(a:Blk v B): ∃l e g,H.h.get B=some (.cells l e k g):=by
 rcases h with⟨_,⟨rfl,_⟩ | ⟨A,rfl,_,f⟩⟩ | ⟨_,A,i,g,rfl,_,f,_⟩
 .exact(zRl.1 a).elim
 .rw[zRd.1 a];exact⟨_,_,_,f⟩
 .rw[zRd.1 a];exact⟨_,_,_,f⟩
theorem gP.srt {E:Ev}{q:PN}{root:Ptr}{kv:Kvs}{T:List Ptr}(h:gP E q root kv T):Srt kv/\ ∀p∈kv,mayK p.1=true/\p.2.length<=200:=by
 rcases h with⟨_,rfl,_⟩ | ⟨h,nd,t,S,_,_,w,_,rfl,_⟩
 .exact⟨trivial,by simp⟩
 .refine⟨zMr w, ?_⟩
  cases h with
  | zero=>exact fun p hp=>⟨(w.1.2 p hp).2.2.1,(w.1.2 p hp).2.2.2⟩
  | succ h=>
   intro p hp;obtain⟨x,f,a⟩:=List.mem_flatMap.1 hp;obtain⟨i,hi,rfl⟩:=jH f;exact zQN (w.1.2.2.at (zJ hi)) p a
end Go.Eng.Sh
end
section
set_option maxRecDepth 20000
namespace Go.Eng.Sh
open Go.Nd (Ptr sumL leafOf Kvs Srt mayK putP delP lookP)
open Go.Bt
def Adw (W:Nat->Prop)(H:AH)(a:Nat->Prop)(H':AH):Prop:=Stp W H H'/\ ∀B,a B->W B\/H.next<=B
theorem zJJ (D:Dyn)(n:Nat){H:AH}(f:H.ok){v:AV}{l:List Str}(h:kZ 1 9 H v l.length (l.map S))(hl:l.length<=1000000000):
  ∃a H',f108 D n [v] H=some (a,H')/\Prs H H'/\kZ 1 9 H' a l.length (l.map S)/\ ∀B,Blk a B->H.next<=B:=by
 by_cases i:v= .nilSlice
 .subst i;exact⟨.nilSlice,H,rfl,zRf f,h,fun B j=>(zRl.1 j).elim⟩
 .refine Y2 D n f h.row i (fun e=> ?_) hl;subst e;rcases h with⟨_,⟨h,_⟩ | ⟨_,h,_⟩⟩ | ⟨_,_,_,_,h,_⟩<;>cases h
theorem zP2 (D:Dyn)(n:Nat){H:AH}(f:H.ok){v:AV}{l:List Ptr}(h:kZ 3 42 H v l.length (l.flatMap jR))(hl:l.length<=1000000000):
  ∃a H',f81 D n [v] H=some (a,H')/\Prs H H'/\kZ 3 42 H' a l.length (l.flatMap jR)/\ ∀B,Blk a B->H.next<=B:=by
 by_cases i:v= .nilSlice
 .subst i;exact⟨.nilSlice,H,rfl,zRf f,h,fun B j=>(zRl.1 j).elim⟩
 .refine V8 D n f h.row i (fun e=> ?_) hl;subst e;rcases h with⟨_,⟨h,_⟩ | ⟨_,h,_⟩⟩ | ⟨_,_,_,_,h,_⟩<;>cases h
theorem aG {nd:Nd.Node}(h:Nd.size nd<=500):nd.keys.length<=500/\nd.vals.length<=500/\nd.kids.length<=500:=by
 have a:=Nd.sumL_ge nd.keys;have f:=Nd.sumL_ge nd.vals;simp only[Nd.size]at h;omega
theorem zIf (m n:Nat)(hn:200000000<=n){E:Ev}{H:AH}{p:Ptr}{At M a2:Nat}{d c dr:AV}{root:Ptr}{es:List (AV×AV)}{q:PN}{nd:Nd.Node}(h:TI E H At M d c root es q a2 dr)(hs:Qf E q [] p=some nd)(hz:Nd.size nd<=500):
  ∃v H',f61 (dy (m+1)) n [.ptr At 0, .agg (jR p)] H=some (.tuple [v, .int .i64 ((0:Nat):Int)],H')/\Prs H H'/\kC H' v nd/\ ∀B,xX v B->H.next<=B:=by
 obtain⟨z1,z2,z3⟩:=aG hz;obtain⟨H1,A3,b1,z,g1,m1,n1⟩:=box h.ok (.cells [.int .i64 p.at_, .int .i64 p.birth, .int .u64 p.sum] 42 1 false);obtain⟨T,A4,b2,C,g2,m2,n2⟩:=box z.ok (.cells [.bool false, .nilSlice, .nilSlice, .nilSlice] 119 1 false);have P2:=z.trans C;have h2:=h.prs P2;have a3:=YT (dy (m+1)) n h2;obtain⟨v,H3,e3,U,nv,_⟩:=zD7 m n hn h2 hs;obtain⟨ks,vs,t,rfl,w1,V,F⟩:=nv;obtain⟨H4,W,b4,Y,g4,m4,n4⟩:=box U.ok (.cells [.bool false, .nilSlice, .nilSlice, .nilSlice] 119 1 false);have a0: ∀ {a b c:AV},Eng.isCell a=true->Eng.isCell b=true->Eng.isCell c=true->jP [.bool nd.leaf,a,b,c]=true:=fun ha hb hc=>by simp[jP,ha,hb,hc];rfl
 obtain⟨Z,e5,g5,s5,n5⟩:=jW Y.ok g4 (l':=[.bool nd.leaf,ks,vs,t]) rfl (a0 w1.isCell V.isCell F.isCell);have a4:stN 4 (.ptr W 0) (.agg [.bool nd.leaf,ks,vs,t]) H4=some (jO,Z):=e5;have u:Prs H3 Z:=Y.fresh s5 (fun B f=>by omega);obtain⟨j,H6,e6,p6,k1,f1⟩:=zJJ (dy (m+1)) n u.ok (w1.mono u (fun _ _ x=>x)) (by omega);have J:=u.trans p6;obtain⟨vs',H7,e7,L,k2,f2⟩:=zJJ (dy (m+1)) n J.ok (V.mono J (fun _ _ x=>x)) (by omega);have N:=J.trans L;obtain⟨o,H8,e8,y,k3,f3⟩:=zP2 (dy (m+1)) n N.ok (F.mono N (fun _ _ x=>x)) (by omega);have P8:=N.trans y;have Q8:Prs T H8:=U.trans P8;have N1:=z.next;have N2:=C.next;have N3:=U.next;have N4:=Y.next;have N5:=u.next;have N6:=p6.next;have N7:=L.next;have N8:=y.next
 obtain⟨H9,e9,g9,O,n9⟩:=jW P8.ok (zRn Q8 C.ok g2) (l':=[.bool nd.leaf,j,vs',o]) rfl (a0 k1.isCell k2.isCell k3.isCell);have a5:stN 4 (.ptr A4 0) (.agg [.bool nd.leaf,j,vs',o]) H8=some (jO,H9):=e9;have nb: ∀ {v:AV},(∀B,Blk v B->Z.next<=B)-> ∀B,Blk v B-> ¬B=A4:=fun hv B f=>by have:=hv B f;omega
 refine⟨.agg [.bool nd.leaf,j,vs',o],H9, ?_,(P2.trans Q8).fresh O (fun B f=>by omega),⟨j,vs',o,rfl,((k1.mono L (fun _ _ x=>x)).mono y (fun _ _ x=>x)).mono O (nb f1),(k2.mono y (fun _ _ x=>x)).mono O (nb fun B f=>by have:=f2 B f;omega),k3.mono O (nb fun B f=>by have:=f3 B f;omega)⟩,fun B f=> ?_⟩
 .have hp:jR p=[.int .i64 p.at_, .int .i64 p.birth, .int .u64 p.sum]:=rfl;have a6:f77 (dy (m+1)) n [.ptr At 0, .agg [.int .i64 p.at_, .int .i64 p.birth, .int .u64 p.sum]] T=some (.tuple [.agg [.bool nd.leaf,ks,vs,t], .int .i64 ((0:Nat):Int)],H3):=e3;have a1:=zRn C z.ok g1;have r3:ldN 3 (.ptr A3 0) T=some (.agg [.int .i64 p.at_, .int .i64 p.birth, .int .u64 p.sum]):=by rw[jQ a1];rfl
  have h10: ¬p.at_=((0:Nat):Int):=by have:=zMn hs;omega
  have a7: ¬(((0:Nat):Int)≠((0:Nat):Int)):=by omega
  have s: ∀ {H':AH} (i:Nat) {x:AV} (K:Rs),H'.h.get W=some (.cells [.bool nd.leaf,ks,vs,t] 119 1 false)->[.bool nd.leaf,ks,vs,t][i]? =some x->aveq x x=true->chk (ld1 (.ptr W i) H') x K=K:=fun i x K g hi hx=>wC (by rw[jL g];exact hi) hx
  have S:=zRn p6 u.ok g5;have g7:=zRn L J.ok S;have g8:=zRn y N.ok g7;have ab:aveq (.bool nd.leaf) (.bool nd.leaf)=true:=by cases nd.leaf<;>rfl
  have bs:vR [(0,1),(1,1),(2,1),(3,1)] [.bool false, .nilSlice, .nilSlice, .nilSlice] [(0, .bool nd.leaf),(1,j),(2,vs'),(3,o)]=some (.agg [.bool nd.leaf,j,vs',o]):=by
   simp only[vR,fK,zLb,kP k1.isCell,kP k2.isCell,kP k3.isCell];rfl
  have r9:ldN 4 (.ptr A4 0) H9=some (.agg [.bool nd.leaf,j,vs',o]):=bY g9 rfl;rw[hp];simp(maxSteps:=999999)(disch:=omega) only[f61,eZ,b1,b2,a3,jL a1,h10,r3,a6,jM,nth,b4,a4,a7,jL g5,e6,s 0 _ S rfl ab,s 2 _ S rfl (kH V.row),s 3 _ S rfl (kH F.row),e7,s 0 _ g7 rfl ab,s 3 _ g7 rfl (kH F.row),e8,s 0 _ g8 rfl ab,bs,a5,r9]
 .rcases wO.1 f with e | e | e
  .have:=f1 B e;omega
  .have:=f2 B e;omega
  .have:=f3 B e;omega
theorem zF8 (D:Dyn)(n:Nat){E:Ev}{H:AH}{At M a:Nat}{d c i:AV}{root:Ptr}{es:List (AV×AV)}{q:PN}(h:TI E H At M d c root es q a i):
  f24 D n [.ptr At 0] H=some (.int .i64 ((q.length:Nat):Int),H):=by
 have f:=YT D n h;have j:ld1 (.ptr At 5) H=some (.map M):=by rw[jL h.gT];rfl
 have hm:QK (.map M) H=some (.int .i64 ((q.length:Nat):Int)):=by
  simp only[QK,h.gM,kD,h.pq.len];rfl
 simp(maxSteps:=999999)(disch:=omega) only[f24,eZ,f,j,hm]
theorem K6 (D:Dyn)(n:Nat){E:Ev}{H:AH}{At M m:Nat}{d c s:AV}{root:Ptr}{es:List (AV×AV)}{q:PN}(h:TI E H At M d c root es q m s):
  ∃H',f19 D n [.ptr At 0] H=some (.agg (jR root),H')/\Prs H H':=by
 obtain⟨i,A2,b1,a,t,C,F⟩:=box h.ok (.cells [.int .i64 ((0:Nat):Int), .int .i64 ((0:Nat):Int), .int .u64 ((0:Nat):Int)] 42 1 false);have j:=h.prs a;have o:=YT D n j;obtain⟨f,u,v,x,J⟩:=jW a.ok t (l':=jR root) rfl rfl;have p:stN 3 (.ptr A2 0) (.agg (jR root)) i=some (jO,f):=u;have y:ldN 3 (.ptr At 2) i=some (.agg (jR root)):=by rw[jQ j.gT];rfl
 have z:ldN 3 (.ptr A2 0) f=some (.agg (jR root)):=by rw[jQ v];rfl
 refine⟨f, ?_,a.fresh x (fun B K=>by omega)⟩;simp(maxSteps:=999999)(disch:=omega) only[f19,eZ,b1,o,y,p,z]
structure Rdr (At N0 k:Nat)(root:Ptr)(Q:Ptr->Option Nd.Node)(G:AH->(Nat->Prop)->Prop):Prop where
 ok: ∀ {H W},G H W->H.ok
 lt: ∀ {H W},G H W-> ∀B,W B->B<H.next
 frame: ∀ {H H' W S},G H W->Stp S H H'->(∀B,S B->N0<=B/\ ¬W B)->G H' W
 root: ∀ {H W} (D:Dyn) (n:Nat),G H W-> ∃H',f19 D n [.ptr At 0] H=some (.agg (jR root),H')/\Prs H H'
 dirty: ∀ {H W} (D:Dyn) (n:Nat),G H W->f24 D n [.ptr At 0] H=some (.int .i64 ((k:Nat):Int),H)
 load: ∀ {H W p nd} (m n:Nat),100000000<=m->200000000<=n->G H W->Q p=some nd->Nd.size nd<=500-> ∃v H' W',f61 (dy m) n [.ptr At 0, .agg (jR p)] H=some (.tuple [v, .int .i64 ((0:Nat):Int)],H')/\G H' W'/\Adw W H W' H'/\kC H' v nd/\ ∀B,xX v B->H.next<=B/\ ¬W' B
theorem Rdr.prs {At N0 k:Nat}{root:Ptr}{Q:Ptr->Option Nd.Node}{G:AH->(Nat->Prop)->Prop}(r:Rdr At N0 k root Q G){H H':AH}{W:Nat->Prop}(h:G H W)(s:Prs H H'):G H' W:=r.frame h s (fun _ x=>x.elim)
def GD0 (N0 At M Ad:Nat)(E:Ev)(root:Ptr)(q:PN)(H:AH)(W:Nat->Prop):Prop:=(∀B,¬W B)/\At<N0/\M<N0/\ ∃es j a f h i m,TI E H At M (.ptr Ad 0) .nilPtr root es q j a/\(∀kv∈es,∀B,xX kv.2 B->B<N0)/\(∀B,Blk a B->B<N0)/\DkI H Ad E.nb E.ws f h i m/\Ad<N0/\f<N0/\h<N0/\ ∀B,Blk i B->B<N0
theorem zEm (N0 At M Ad:Nat)(E:Ev)(root:Ptr)(q:PN):Rdr At N0 q.length root (Qf E q []) (GD0 N0 At M Ad E root q) where
 ok:=fun⟨_,_,_,_,_,_,_,_,_,_,ti,_⟩=>ti.ok
 lt:=fun⟨h,_⟩ B a=>(h B a).elim
 frame:=fun {H H' W S} ⟨j,h2,h3,es,last,dr,On,Nw,wv,ds,ti,h4,h5,dk,d1,d2,d3,d4⟩ s hS=>by
  have i: ∀B,B<N0-> ¬S B:=fun B a e=>by have:=(hS _ e).1;omega
  have o:=dk.stp ti.ok s (i _ d1) (i _ d2) (i _ d3) fun B a=>i _ (d4 B a)
  exact⟨j,h2,h3,es,last,dr,On,Nw,wv,ds,ti.wr s (fun B a=>i B (by
   rcases a with rfl | rfl | e | ⟨kv,t,e⟩
   .exact h2
   .exact h3
   .exact h5 _ e
   .exact h4 kv t _ e)) o,h4,h5,o,d1,d2,d3,d4⟩
 root:=fun D n ⟨_,_,_,_,_,_,_,_,_,_,ti,_⟩=>K6 D n ti
 dirty:=fun D n ⟨_,_,_,_,_,_,_,_,_,_,ti,_⟩=>zF8 D n ti
 load:=fun {H W p nd} m n hm u ⟨j,h2,h3,es,last,dr,On,Nw,wv,ds,ti,h4,h5,dk,d⟩ hq hz=>by
  obtain⟨y,rfl⟩: ∃k,m=k+1:=⟨m - 1,by omega⟩;obtain⟨v,H',e,p,z,f⟩:=zIf y n u ti hq hz;exact⟨v,H',W,e,⟨j,h2,h3,es,last,dr,On,Nw,wv,ds,ti.prs p,h4,h5,dk.prs ti.ok p,d⟩,⟨p.mono fun _ _ x=>x.elim,fun B a=> .inl a⟩,z,fun B a=>⟨f B a,j B⟩⟩
end Go.Eng.Sh
end
section
namespace Go.Bt
open Go.Nd (Str Kvs Ptr leafOf Srt rising)
open Go.Eng (ltS kR bH kV fX)
def xH {σ α:Type}(step:σ->α->Bool×σ):List α->σ->Bool×σ
 | [],s=>(true,s)
 | a::l,s=>bif (step s a).1 then xH step l (step s a).2 else(false,(step s a).2)
theorem zEj {σ α:Type}(step:σ->α->Bool×σ)(l l':List α)(s:σ):xH step (l++l') s=bif (xH step l s).1 then xH step l' (xH step l s).2 else(false,(xH step l s).2):=by
 induction l generalizing s with
 | nil=>rfl
 | cons a l ih=>
  simp only[qF,xH]
  cases h:(step s a).1 with
  | true=>simp only[zM];exact ih _
  | false=>simp only[qH]
theorem zBw {σ α β:Type}(step:σ->β->Bool×σ)(f:α->List β): ∀(l:List α) (s:σ),xH (fun s x=>xH step (f x) s) l s=xH step (l.flatMap f) s
 | [],_=>rfl
 | a::l,s=>by
  rw[qG,zEj,xH,zBw]
def kQ (to k:Str):Bool:=to.isEmpty||ltS k to
def ZX (ks:List Str)(to:Str)(first:Nat):Nat:=((ks.drop first).takeWhile (kQ to)).length+1
def zEC (ks:List Str)(a:List Ptr)(fr to:Str):List Ptr:=(a.drop (kB ks fr)).take (ZX ks to (kB ks fr))
def wU (Q:Ptr->Option Nd.Node)(fr to:Str):Nat->Ptr->Nd.Node->List (Ptr×Nd.Node)
 | 0,p,nd=>[(p,nd)]
 | h+1,p,nd=>(p,nd)::(zEC nd.keys nd.kids fr to).flatMap fun a=>match Q a with
  | some nd'=>wU Q fr to h a nd'
  | none=>[]
def bJ (fr:Str)(x:Ptr×Nd.Node):Kvs:=bif x.2.leaf then(x.2.keys.zip x.2.vals).drop (Nd.whereN x.2 fr)else[]
def vB {σ:Type}(to:Str)(step:σ->Str×Str->Bool×σ)(s:σ)(x:Str×Str):Bool×σ:=bif kQ to x.1 then step s x else(false,s)
def vV {σ:Type}(fr to:Str)(step:σ->Str×Str->Bool×σ)(s:σ)(x:Ptr×Nd.Node):Bool×σ:=xH (vB to step) (bJ fr x) s
theorem zMb {to a b:Str}(h:ltS a b=true)(hb:kQ to b=true):kQ to a=true:=by
 simp only[kQ,yO]at hb⊢;exact hb.imp id (kR h)
theorem zFu {to a b:Str}(h:a=b\/ltS a b=true)(f:kQ to a=false):kQ to b=false:=by
 rcases h with rfl | h
 .exact f
 .cases hb:kQ to b with
  | false=>rfl
  | true=>rw[zMb h hb]at f;cases f
theorem zHp {σ:Type}(to:Str)(step:σ->Str×Str->Bool×σ): ∀(l:Kvs) (s:σ),Srt l->(xH (vB to step) l s).2=(xH step (l.filter fun p=>kQ to p.1) s).2
 | [],_,_=>rfl
 | p::l,s,h=>by
  obtain⟨k,v⟩:=p
  cases a:kQ to k with
  | true=>
   simp only[xH,vB,a,zM,List.filter_cons,if_true]
   cases i:(step s (k,v)).1 with
   | true=>simp only[zM];exact zHp to step l _ h.2
   | false=>rfl
  | false=>
   have:(((k,v)::l).filter fun p=>kQ to p.1)=[]:=by
    rw[List.filter_eq_nil_iff];intro q f;rcases zP.1 f with rfl | f
    .simp[a]
    .have:=zFu (.inr (h.1 q f)) a;simp[this]
   rw[this];simp only[xH,vB,a,qH]
def inP (fr to:Str)(p:Str×Str):Bool:= !ltS p.1 fr&&kQ to p.1
theorem zBU (fr:Str): ∀ {l:Kvs},Srt l->l.drop (Nd.whereN (leafOf l) fr)=l.filter fun p=> !ltS p.1 fr
 | [],_=>by simp
 | (a,b)::l,h=>by
  rw[Nd.where_cons h]
  cases f:ltS a fr with
  | true=>
   simp only[if_true,List.drop_succ_cons,List.filter_cons,f,Bool.not_true,zL,qC];exact zBU fr h.2
  | false=>
   simp only[zL,qC,yB]
   symm
   rw[List.filter_eq_self];intro q i;rcases zP.1 i with rfl | i
   .simp[f]
   .have m:=h.1 q i
    cases j:ltS q.1 fr with
    | false=>rfl
    | true=>rw[kR m j]at f;cases f
theorem zLj (fr:Str)(p:Ptr)(l:Kvs):bJ fr (p,leafOf l)=l.drop (Nd.whereN (leafOf l) fr):=by
 simp only[bJ,leafOf,zM];congr 1
 induction l with
 | nil=>rfl
 | cons a l ih=>simp[ih]
theorem dU {α:Type}{f:α->Bool} : ∀ {l:List α} {x:α},l[(l.takeWhile f).length]? =some x->f x=false
 | [],_,h=>by simp at h
 | a::l,x,h=>by
  cases i:f a with
  | true=>
   rw[List.takeWhile_cons_of_pos i]at h;simp only[zW,yV]at h;exact dU h
  | false=>
   rw[List.takeWhile_cons_of_neg (by simp[i])]at h;simp at h;rw[<-h];exact i
theorem QB {α:Type}{f:α->Bool} : ∀ {l:List α} {i:Nat} {x:α},i< (l.takeWhile f).length->l[i]? =some x->f x=true
 | [],i,_,_,h=>by simp at h
 | a::l,i,x,hi,h=>by
  cases j:f a with
  | true=>
   rw[List.takeWhile_cons_of_pos j]at hi
   cases i with
   | zero=>simp at h;rw[<-h];exact j
   | succ i=>exact QB (by simpa using hi) (by simpa using h)
  | false=>
   rw[List.takeWhile_cons_of_neg (by simp[j])]at hi;simp at hi
theorem KJ (ks:List Str)(to:Str)(first:Nat)(h:first<=ks.length):first+ZX ks to first<=ks.length+1:=by
 have:=(List.takeWhile_sublist (kQ to) (l:=ks.drop first)).length_le
 simp only[ZX,qK]at this⊢;omega
theorem beyond {h:Nat}{lo hi:Bd}{to:Str}{i:Nat}{ks:List Str}{ts:List (Tr h)}(y:Inn (WF h) lo hi (ks,ts))(t:i<=ks.length): ∀p∈(ts.drop (i+ZX ks to i)).flatMap (con h),kQ to p.1=false:=by
 obtain⟨o,q,j⟩:=y;simp only at o q j;have F:=j.len;have J:=KJ ks to i t;intro p hp;by_cases K:i+ZX ks to i<ts.length
 .obtain⟨w,m⟩: ∃w,w=((ks.drop i).takeWhile (kQ to)).length:=⟨_,rfl⟩;have u:ZX ks to i=w+1:=by rw[m];rfl
  have a:i+w<ks.length:=by omega
  have z:(ks.drop i)[w]? =some ks[i+w]:=by rw[jE];exact zJ a
  have C:=dU (f:=kQ to) (l:=ks.drop i) (x:=ks[i+w]) (by rw[<-m];exact z);have v:=j.drop (zJ a);have hd:=Nd.rising_drop q (i+w);rw[qL a,Nd.rising_cons]at hd;rw[u,<-Nat.add_assoc]at hp;have:=BP (BQ h) v hd.2 (fun x s=>⟨hd.1 x s,(o x (List.mem_of_mem_drop s)).2.2⟩) p hp;exact zFu this.1 C
 .rw[qT (by omega)]at hp;simp at hp
def JE {β:Type}(Q:Ptr->Option Nd.Node)(f:Ptr->Nd.Node->List β)(p:Ptr):List β:=match Q p with
 | some nd=>f p nd
 | none=>[]
theorem zE1 {h:Nat}{Q:Ptr->Option Nd.Node}{fr to:Str}(i: ∀ {p:Ptr} {nd:Nd.Node} {t:Tr h} {S:List Ptr} {lo hi:Bd},kU Q h nd t S->WF h lo hi t->
   (((wU Q fr to h p nd).flatMap (bJ fr)).filter fun p=>kQ to p.1)=(con h t).filter (inP fr to)/\((wU Q fr to h p nd).flatMap (bJ fr)).Sublist (con h t)/\(wU Q fr to h p nd).length<=1+S.length):
  ∀ {f:List Ptr} {ts:List (Tr h)} {S:List Ptr},xZ Q (kU Q h) f ts S->(∀t∈ts,∃lo hi,WF h lo hi t)->
   (((f.flatMap (JE Q (wU Q fr to h))).flatMap (bJ fr)).filter fun p=>kQ to p.1)=(ts.flatMap (con h)).filter (inP fr to)/\((f.flatMap (JE Q (wU Q fr to h))).flatMap (bJ fr)).Sublist (ts.flatMap (con h))/\(f.flatMap (JE Q (wU Q fr to h))).length<=S.length
 | [],[],_,e,_=>⟨rfl,List.Sublist.refl _,by simp⟩
 | p::f,t::ts,_,⟨nd,S1,S2,a,b,c,e⟩,hw=>by
  subst e;obtain⟨lo,hi,j⟩:=hw t (zK ..);obtain⟨m,o,x⟩:=i (p:=p) b j;obtain⟨q,s,u⟩:=zE1 i c fun t v=>hw t (zC _ v)
  simp only[qG,yZ,jF,zT,zW,JE,a];refine⟨by rw[m];exact congrArg _ q,o.append s, ?_⟩;have:(f.flatMap fun p=>JE Q (wU Q fr to h) p).length<=S2.length:=u;simp only[JE]at this;omega
 | [],_::_,_,h,_=>h.elim
 | _::_,[],_,h,_=>h.elim
theorem zGF {h:Nat}{Q:Ptr->Option Nd.Node}{fr to:Str}(C: ∀ {p:Ptr} {nd:Nd.Node} {t:Tr h} {S:List Ptr} {lo hi:Bd},kU Q h nd t S->WF h lo hi t->
   (((wU Q fr to h p nd).flatMap (bJ fr)).filter fun p=>kQ to p.1)=(con h t).filter (inP fr to)/\((wU Q fr to h p nd).flatMap (bJ fr)).Sublist (con h t)/\(wU Q fr to h p nd).length<=1+S.length)
  {p:Ptr} {nd:Nd.Node} {t:Tr (h+1)} {S:List Ptr} {lo hi:Bd} (F:kU Q (h+1) nd t S) (m:Inn (WF h) lo hi t):
  (((wU Q fr to (h+1) p nd).flatMap (bJ fr)).filter fun p=>kQ to p.1)=(con (h+1) t).filter (inP fr to)/\((wU Q fr to (h+1) p nd).flatMap (bJ fr)).Sublist (con (h+1) t)/\(wU Q fr to (h+1) p nd).length<=1+S.length:=by
 obtain⟨J,u,r3,K⟩:=F;obtain⟨ks,ts⟩:=t;simp only at u;subst u;have y:=fD nd.keys fr;obtain⟨i,f⟩: ∃i,i=kB nd.keys fr:=⟨_,rfl⟩;obtain⟨c,v⟩: ∃c,c=ZX nd.keys to i:=⟨_,rfl⟩;obtain⟨Sa,Sb,x1,L,rfl⟩:=K.split i;obtain⟨Sc,Sd,N,x4,rfl⟩:=L.split c;have z:ts=ts.take i++((ts.drop i).take c++(ts.drop i).drop c):=by rw[qM,qM]
 obtain⟨O,T,k3⟩:=zE1 C N fun x U=>by
  obtain⟨j,V,rfl⟩:=jH (List.mem_of_mem_drop (List.mem_of_mem_take U));exact⟨_,_,KB.at m.2.2 (zJ V)⟩
 have W:wU Q fr to (h+1) p nd=(p,nd)::(((nd.kids.drop i).take c).flatMap (JE Q (wU Q fr to h))):=by
  rw[v,f];rfl
 have s:bJ fr (p,nd)=[]:=by simp only[bJ,J,qH]
 have Y:((ts.take i).flatMap (con h)).filter (inP fr to)=[]:=by
  rw[List.filter_eq_nil_iff];intro q a;have:=(KT (key:=fr) m).1 q (by rw[f]at a;exact a);simp[inP,this]
 have Z:(((ts.drop i).drop c).flatMap (con h)).filter (inP fr to)=[]:=by
  rw[List.filter_eq_nil_iff];intro q a;rw[List.drop_drop]at a;have:=beyond (to:=to) m (i:=i) (by rw[f];exact y) q (by rw[v]at a;exact a);simp[inP,this]
 have o:con (h+1) (nd.keys,ts)=(ts.take i).flatMap (con h)++(((ts.drop i).take c).flatMap (con h)++((ts.drop i).drop c).flatMap (con h)):=by
  rw[<-yZ,<-yZ,<-z];rfl
 rw[W];refine⟨?_, ?_, ?_⟩
 .rw[o,jF,jF,Y,Z,qS,qX,qG,s,qS];exact O
 .rw[o,qG,s,qS];exact(T.trans (List.sublist_append_left _ _)).trans (List.sublist_append_right _ _)
 .simp only[zW,zT];omega
theorem zE0 {Q:Ptr->Option Nd.Node}{fr to:Str}{p:Ptr}{nd:Nd.Node}{t:Kvs}{S:List Ptr}{lo hi:Bd}(a:kU Q 0 nd t S)(f:Lf lo hi t):
  (((wU Q fr to 0 p nd).flatMap (bJ fr)).filter fun p=>kQ to p.1)=(con 0 t).filter (inP fr to)/\((wU Q fr to 0 p nd).flatMap (bJ fr)).Sublist (con 0 t)/\(wU Q fr to 0 p nd).length<=1+S.length:=by
 obtain⟨rfl,rfl⟩:=a;have h:wU Q fr to 0 p (leafOf t)=[(p,leafOf t)]:=rfl;rw[h,qG,List.flatMap_nil,qX,zLj];refine⟨?_,List.drop_sublist _ _,by simp⟩;rw[zBU fr f.1,List.filter_filter];show List.filter _ t=List.filter (inP fr to) t;congr 1;funext q;simp only[inP,Bool.and_comm]
theorem zMt {Q:Ptr->Option Nd.Node}{fr to:Str} : ∀(h:Nat) {p:Ptr} {nd:Nd.Node} {t:Tr h} {S:List Ptr} {lo hi:Bd},kU Q h nd t S->WF h lo hi t->
  (((wU Q fr to h p nd).flatMap (bJ fr)).filter fun p=>kQ to p.1)=(con h t).filter (inP fr to)/\((wU Q fr to h p nd).flatMap (bJ fr)).Sublist (con h t)/\(wU Q fr to h p nd).length<=1+S.length
 | 0,_,_,_,_,_,_,rn,w=>zE0 rn w.1
 | h+1,_,_,_,_,_,_,rn,w=>zGF (fun a b=>zMt h a b) rn w.1
theorem zDZ {Q:Ptr->Option Nd.Node}{fr to:Str}{h:Nat}{p:Ptr}{nd:Nd.Node}{t:Tr h}{S:List Ptr}(f:kU Q h nd t S)(w:WR h t):
  (((wU Q fr to h p nd).flatMap (bJ fr)).filter fun p=>kQ to p.1)=(con h t).filter (inP fr to)/\((wU Q fr to h p nd).flatMap (bJ fr)).Sublist (con h t)/\(wU Q fr to h p nd).length<=1+S.length:=by
 cases h with
 | zero=>exact zE0 f w.1
 | succ h=>exact zGF (fun a b=>zMt h a b) f w.1
theorem zND {a b:Kvs}(h:a.Sublist b)(hb:Srt b):Srt a:=by
 induction h with
 | slnil=>exact hb
 | cons x _ ih=>obtain⟨k,v⟩:=x;exact ih hb.2
 | cons_cons x hs ih=>obtain⟨k,v⟩:=x;exact⟨fun q f=>hb.1 q (hs.subset f),ih hb.2⟩
theorem zKr {σ:Type}{Q:Ptr->Option Nd.Node}{fr to:Str}{h:Nat}{p:Ptr}{nd:Nd.Node}{t:Tr h}{S:List Ptr}(a:kU Q h nd t S)(w:WR h t)(step:σ->Str×Str->Bool×σ)(s:σ):
  (xH (vV fr to step) (wU Q fr to h p nd) s).2=(xH step ((con h t).filter (inP fr to)) s).2:=by
 obtain⟨f,i,_⟩:=zDZ (fr:=fr) (to:=to) (p:=p) a w;have:=zBw (vB to step) (bJ fr) (wU Q fr to h p nd) s;have e:vV fr to step=fun s x=>xH (vB to step) (bJ fr x) s:=rfl
 rw[e,this,zHp to step _ s (zND i (zMr w)),f]
def Vs (Q:Ptr->Option Nd.Node):Nat->Nd.Node->Prop
 | 0,nd=>nd.leaf=true/\nd.vals.length=nd.keys.length/\Nd.size nd<=500
 | h+1,nd=>nd.leaf=false/\nd.kids.length=nd.keys.length+1/\Nd.size nd<=500/\ ∀p∈nd.kids,∃a,Q p=some a/\Vs Q h a
theorem Vs.sz {Q:Ptr->Option Nd.Node}{h:Nat}{nd:Nd.Node}(v:Vs Q h nd):Nd.size nd<=500:=by
 cases h with
 | zero=>exact v.2.2
 | succ h=>exact v.2.2.1
theorem zGE {h:Nat}{Q:Ptr->Option Nd.Node}(j: ∀ {nd:Nd.Node} {t:Tr h} {S:List Ptr} {lo hi:Bd},kU Q h nd t S->WF h lo hi t->Vs Q h nd):
  ∀ {f:List Ptr} {ts:List (Tr h)} {S:List Ptr},xZ Q (kU Q h) f ts S->(∀t∈ts,∃lo hi,WF h lo hi t)-> ∀p∈f,∃i,Q p=some i/\Vs Q h i
 | [],[],_,_,_=>by simp
 | p::f,t::ts,_,⟨nd,S1,S2,a,b,c,e⟩,hw=>fun m hp=>by
  obtain⟨lo,hi,o⟩:=hw t (zK ..);rcases zP.1 hp with rfl | hp
  .exact⟨nd,a,j b o⟩
  .exact zGE j c (fun t q=>hw t (zC _ q)) m hp
 | [],_::_,_,h,_=>h.elim
 | _::_,[],_,h,_=>h.elim
theorem zMs {h:Nat}{Q:Ptr->Option Nd.Node}(o: ∀ {nd:Nd.Node} {t:Tr h} {S:List Ptr} {lo hi:Bd},kU Q h nd t S->WF h lo hi t->Vs Q h nd)
  {nd:Nd.Node} {t:Tr (h+1)} {S:List Ptr} {lo hi:Bd} (a:kU Q (h+1) nd t S) (f:Inn (WF h) lo hi t) (v:wI (h+1) t<=500):Vs Q (h+1) nd:=by
 have y:=a.size;obtain⟨p,q,z,i⟩:=a;have hl:=f.2.2.len;have m:=i.len;refine⟨p,by rw[m,hl,q],by omega,zGE o i fun x s=> ?_⟩;obtain⟨j,u,rfl⟩:=jH s;exact⟨_,_,KB.at f.2.2 (zJ u)⟩
theorem zGD {Q:Ptr->Option Nd.Node}{nd:Nd.Node}{t:Kvs}{S:List Ptr}(a:kU Q 0 nd t S)(f:wI 0 t<=500):Vs Q 0 nd:=by
 have h:=a.size;obtain⟨rfl,_⟩:=a;exact⟨rfl,by show(List.map Prod.snd _).length=(List.map Prod.fst _).length;rw[jB,jB],by omega⟩
theorem zPN {Q:Ptr->Option Nd.Node} : ∀(h:Nat) {nd:Nd.Node} {t:Tr h} {S:List Ptr} {lo hi:Bd},kU Q h nd t S->WF h lo hi t->Vs Q h nd
 | 0,_,_,_,_,_,rn,w=>zGD rn w.2.2
 | h+1,_,_,_,_,_,rn,w=>zMs (fun a b=>zPN h a b) rn w.1 w.2.2.2
theorem zGC {Q:Ptr->Option Nd.Node}{h:Nat}{nd:Nd.Node}{t:Tr h}{S:List Ptr}(f:kU Q h nd t S)(w:WR h t):Vs Q h nd:=by
 cases h with
 | zero=>exact zGD f w.2.2
 | succ h=>exact zMs (fun a b=>zPN h a b) f w.1 w.2.2
end Go.Bt
end
section
namespace Go.Eng.Sh
open Go.Nd (Ptr sumL leafOf)
open Go.Bt
theorem st1c {H:AH}(a:H.ok){A o e:Nat}{l:List AV}{x:AV}(h:H.h.get A=some (.cells l e 1 false))(f:Eng.isCell x=true)(i:o<l.length): ∃H',stN 1 (.ptr A o) x H=some (jO,H')/\H'.h.get A=some (.cells (l.set o x) e 1 false)/\Stp (fun B=>B=A) H H':=
 ⟨_,dW h (by decide) f i,by rw[zRc,if_pos rfl],(zRf a).put (a.lt h) _ (.inr rfl)⟩
theorem Stp.thru {S T:Nat->Prop}{H0 H a:AH}(h:Stp S H0 H)(k:Stp T H a)(f: ∀A,T A->H0.next<=A\/S A):Stp S H0 a:=
 ⟨k.ok,qP h.next k.next,fun A i j=>by
  rw[k.keep A (qQ i h.next) (fun x=>by rcases f A x with y | y;omega;exact j y),h.keep A i j]⟩
theorem Adw.refl {W:Nat->Prop}{H:AH}(a:H.ok):Adw W H W H:=⟨zRf a,fun _ h=> .inl h⟩
theorem Adw.trans {W i a:Nat->Prop}{H H' f:AH}(h:Adw W H i H')(k:Adw i H' a f):Adw W H a f:=
 ⟨Stp.thru h.1 k.1 fun A j=>(h.2 A j).symm,fun B m=>by
  rcases k.2 B m with e | e
  .exact h.2 B e
  .exact .inr (qP h.1.next e)⟩
structure Cns {σ α:Type}(A M N0:Nat)(enc:AH->(Nat->Prop)->α->List AV->Prop)(step:σ->α->Bool×σ)(I:Nat->Bool×σ->AH->(Nat->Prop)->Prop):Prop where
 ok: ∀ {b x H W},I b x H W->H.ok
 lt: ∀ {b x H W},I b x H W-> ∀B,W B->B<H.next/\N0<=B
 mono: ∀ {b b' x H W},I b x H W->b'<=b->I b' x H W
 frame: ∀ {b x H H' W S},I b x H W->Stp S H H'->(∀B,S B-> ¬W B)->I b x H' W
 run: ∀ {b s a az H W} (m:Nat),M<=m->I (b+1) (true,s) H W->enc H W a az-> ∃H' W',(dy (m+1)).yld A az H=some (.bool (step s a).1,H')/\I b (step s a) H' W'/\Adw W H W' H'
def encN (H:AH)(W:Nat->Prop)(x:Ptr×Nd.Node)(az:List AV):Prop:= ∃v,az=[.agg (jR x.1),v]/\kC H v x.2/\Nd.size x.2<=500/\(x.2.leaf=true->x.2.vals.length=x.2.keys.length)/\ ∀B,xX v B-> ¬W B
theorem zPa (m n:Nat){H:AH}(a:H.ok)(p:Ptr): ∃H',callV [(61,f61 (dy (m+1)) n),(79,f79 (dy (m+1)) n)] (dy (m+1)) (.func 106 [] []) [.agg (jR p)] H=some (.bool false,H')/\Prs H H':=by
 obtain⟨f,A1,b1,h,i,j,o⟩:=box a (.cells (jR p) 42 1 false);refine⟨f, ?_,h⟩;show f106 (dy m) m [.agg (jR p)] H=_;simp only[f106,eZ,b1]
theorem zLV (m n A:Nat)(az:List AV)(H:AH):callV [(61,f61 (dy (m+1)) n),(79,f79 (dy (m+1)) n)] (dy (m+1)) (.yieldTo A) az H=(dy (m+1)).yld A az H:=rfl
set_option maxRecDepth 100000 in
theorem zJO (m:Nat)(az:List AV)(H:AH):(dy (m+1)).fn 166 az H=f166 (dy m) m az H:=rfl
section
variable {σ:Type}{At N0 k M A2 Aw:Nat}{root:Ptr}{Q:Ptr->Option Nd.Node}{G:AH->(Nat->Prop)->Prop}{step:σ->Ptr×Nd.Node->Bool×σ}{I:Nat->Bool×σ->AH->(Nat->Prop)->Prop}
def Wid (Aw:Nat)(a f:Nat->Prop)(B:Nat):Prop:=a B\/f B\/B=Aw
structure Awk (Aw:Nat)(Wg Wi:Nat->Prop)(H:AH)(Wg' Wi':Nat->Prop)(H':AH):Prop where
 s:Stp (Wid Aw Wg Wi) H H'
 g: ∀B,Wg' B->Wg B\/H.next<=B
 i: ∀B,Wi' B->Wi B\/H.next<=B
theorem Awk.adw {Aw:Nat}{j m a f:Nat->Prop}{H H':AH}(h:Awk Aw j m H a f H'):Adw (Wid Aw j m) H (Wid Aw a f) H':=⟨h.s,fun B o=>by
 rcases o with e | e | e
 .exact(h.g B e).imp .inl id
 .exact(h.i B e).imp (fun x=> .inr (.inl x)) id
 .exact .inl (.inr (.inr e))⟩
theorem Awk.prs {Aw:Nat}{a f:Nat->Prop}{H H':AH}(h:Prs H H'):Awk Aw a f H a f H':=⟨h.stp,fun _ x=> .inl x,fun _ x=> .inl x⟩
theorem Awk.refl {Aw:Nat}{a f:Nat->Prop}{H:AH}(h:H.ok):Awk Aw a f H a f H:=Awk.prs (zRf h)
theorem Awk.trans {Aw:Nat}{p q f j m o:Nat->Prop}{H H' t:AH}(h:Awk Aw p q H f j H')(k:Awk Aw f j H' m o t):Awk Aw p q H m o t:=
 ⟨(h.adw.trans k.adw).1,fun B a=>by
  rcases k.g B a with e | e
  .exact h.g B e
  .exact .inr (qP h.s.next e),fun B a=>by
  rcases k.i B a with e | e
  .exact h.i B e
  .exact .inr (qP h.s.next e)⟩
structure Wk (N0 At Aw:Nat)(G:AH->(Nat->Prop)->Prop)(I:Nat->Bool×σ->AH->(Nat->Prop)->Prop)(H:AH)(Wg Wi:Nat->Prop)(left bud:Nat)(x:Bool×σ):Prop where
 g:G H Wg
 i:I bud x H Wi
 w: ∃e,H.h.get Aw=some (.cells [.ptr At 0, .nilMap, .int .i64 ((left:Nat):Int), .int .i64 ((0:Nat):Int)] e 1 false)
 lo:N0<=Aw
 ng: ¬Wg Aw
 ni: ¬Wi Aw
 sep: ∀B,Wi B-> ¬Wg B
variable (r:Rdr At N0 k root Q G)(c:Cns A2 M N0 encN step I)
include r c
theorem Wk.ok {H:AH}{f j:Nat->Prop}{left a:Nat}{x:Bool×σ}(h:Wk N0 At Aw G I H f j left a x):H.ok:=And.left ⟨r.ok h.g,c.ok h.i⟩
theorem Wk.lt {H:AH}{a f:Nat->Prop}{left j:Nat}{x:Bool×σ}(h:Wk N0 At Aw G I H a f left j x): ∀B,Wid Aw a f B->B<H.next:=fun B m=>by
 rcases m with e | e | rfl
 .exact r.lt h.g B e
 .exact(c.lt h.i B e).1
 .obtain⟨_,g⟩:=h.w;exact(r.ok h.g).lt g
theorem Wk.frame {H H':AH}{j m S:Nat->Prop}{left o:Nat}{x:Bool×σ}(h:Wk N0 At Aw G I H j m left o x)(s:Stp S H H')(a: ∀B,S B->N0<=B/\ ¬Wid Aw j m B):Wk N0 At Aw G I H' j m left o x:=by
 obtain⟨e,g⟩:=h.w;refine⟨r.frame h.g s fun B f=>⟨(a B f).1,fun w=>(a B f).2 (.inl w)⟩,c.frame h.i s fun B f w=>(a B f).2 (.inr (.inl w)),⟨e, ?_⟩,h.lo,h.ng,h.ni,h.sep⟩;rw[s.keep _ ((r.ok h.g).lt g) (fun w=>(a _ w).2 (.inr (.inr rfl)))];exact g
theorem Wk.prs {H H':AH}{f i:Nat->Prop}{left a:Nat}{x:Bool×σ}(h:Wk N0 At Aw G I H f i left a x)(s:Prs H H'):Wk N0 At Aw G I H' f i left a x:=h.frame r c s fun _ w=>w.elim
theorem Wk.less {H:AH}{m p:Nat->Prop}{left left' j:Nat}{x:Bool×σ}(h:Wk N0 At Aw G I H m p left j x): ∃H',stN 1 (.ptr Aw 2) (.int .i64 ((left':Nat):Int)) H=some (jO,H')/\Wk N0 At Aw G I H' m p left' j x/\Stp (fun B=>B=Aw) H H':=by
 obtain⟨e,g⟩:=h.w;obtain⟨H',q,s,a⟩:=st1c (r.ok h.g) g (o:=2) (x:= .int .i64 ((left':Nat):Int)) rfl (by simp);exact⟨H',q,⟨r.frame h.g a (fun B f=>by subst f;exact⟨h.lo,h.ng⟩),c.frame h.i a (fun B f=>by subst f;exact h.ni),⟨e,s⟩,h.lo,h.ng,h.ni,h.sep⟩,a⟩
theorem Wk.noerr {H:AH}{m p:Nat->Prop}{left j:Nat}{x:Bool×σ}(h:Wk N0 At Aw G I H m p left j x): ∃H',stN 1 (.ptr Aw 3) (.int .i64 ((0:Nat):Int)) H=some (jO,H')/\Wk N0 At Aw G I H' m p left j x/\Stp (fun B=>B=Aw) H H':=by
 obtain⟨e,g⟩:=h.w;obtain⟨H',q,s,a⟩:=st1c (r.ok h.g) g (o:=3) (x:= .int .i64 ((0:Nat):Int)) rfl (by simp);exact⟨H',q,⟨r.frame h.g a (fun B f=>by subst f;exact⟨h.lo,h.ng⟩),c.frame h.i a (fun B f=>by subst f;exact h.ni),⟨e,s⟩,h.lo,h.ng,h.ni,h.sep⟩,a⟩
theorem Wk.load {H:AH}{t j:Nat->Prop}{left s:Nat}{x:Bool×σ}{p:Ptr}{nd:Nd.Node}(m n:Nat)(hm:100000000<=m)(z:200000000<=n)(h:Wk N0 At Aw G I H t j left s x)(C:Q p=some nd)(F:Nd.size nd<=500):
  ∃v H' f,f61 (dy m) n [.ptr At 0, .agg (jR p)] H=some (.tuple [v, .int .i64 ((0:Nat):Int)],H')/\Wk N0 At Aw G I H' f j left s x/\Awk Aw t j H f j H'/\kC H' v nd/\ ∀B,xX v B->H.next<=B/\ ¬Wid Aw f j B:=by
 obtain⟨v,H',f,J,K,o,L,q⟩:=r.load m n hm z h.g C F;obtain⟨e,g⟩:=h.w;have u:=(r.ok h.g).lt g;have y: ∀B,f B-> ¬j B:=fun B a hi=>by
  rcases o.2 B a with e | e
  .exact h.sep B hi e
  .have:=(c.lt h.i B hi).1;omega
 refine⟨v,H',f,J,⟨K,c.frame h.i o.1 (fun B a hi=>h.sep B hi a),⟨e,by rw[o.1.keep _ u h.ng];exact g⟩,h.lo,fun a=> ?_,h.ni,fun B hi a=>y B a hi⟩,⟨o.1.mono fun B _ a=> .inl a,o.2,fun B a=> .inl a⟩,L,fun B a=>⟨(q B a).1,fun N=> ?_⟩⟩
 .rcases o.2 _ a with e | e
  .exact h.ng e
  .omega
 .have O:=(q B a).1;rcases N with e | e | e
  .exact(q B a).2 e
  .have:=(c.lt h.i B e).1;omega
  .omega
theorem Wk.tell {H:AH}{o t:Nat->Prop}{left u:Nat}{s:σ}{p:Ptr}{nd:Nd.Node}{v:AV}(m n:Nat)(hm:M<=m)(h:Wk N0 At Aw G I H o t left (u+1) (true,s))(z:kC H v nd)(C:Nd.size nd<=500)(hl:nd.leaf=true->nd.vals.length=nd.keys.length)(hb: ∀B,xX v B-> ¬Wid Aw o t B):
  ∃H' q,callV [(61,f61 (dy (m+1)) n),(79,f79 (dy (m+1)) n)] (dy (m+1)) (.yieldTo A2) [.agg (jR p),v] H=some (.bool (step s (p,nd)).1,H')/\Wk N0 At Aw G I H' o q left u (step s (p,nd))/\Awk Aw o t H o q H':=by
 obtain⟨H',q,F,J,j⟩:=c.run m hm h.i (a:=(p,nd)) (az:=[.agg (jR p),v]) ⟨v,rfl,z,C,hl,fun B f w=>hb B f (.inr (.inl w))⟩;obtain⟨e,g⟩:=h.w;have y:=(r.ok h.g).lt g;refine⟨H',q,by rw[zLV];exact F,⟨r.frame h.g j.1 (fun B f=>⟨(c.lt h.i B f).2,h.sep B f⟩),J,⟨e,by rw[j.1.keep _ y h.ni];exact g⟩,h.lo,h.ng,fun f=> ?_,fun B f x=> ?_⟩,⟨j.1.mono fun B _ f=> .inr (.inl f),fun B f=> .inl f,j.2⟩⟩
 .rcases j.2 _ f with e | e
  .exact h.ni e
  .omega
 .rcases j.2 B f with e | e
  .exact h.sep B e x
  .have:=r.lt h.g B x;omega
omit r c
structure NB (H:AH)(W:Nat->Prop)(A:Nat)(v:AV)(nd:Nd.Node):Prop where
 g: ∃l e,v= .agg l/\H.h.get A=some (.cells l e 1 false)
 nv:kC H v nd
 a: ¬W A
 b: ∀B,xX v B-> ¬W B
theorem NB.adw {H H':AH}{W i:Nat->Prop}{A:Nat}{v:AV}{nd:Nd.Node}(h:NB H W A v nd)(o:H.ok)(s:Adw W H i H'):NB H' i A v nd:=by
 obtain⟨l,e,rfl,g⟩:=h.g;have m:=o.lt g;refine⟨⟨l,e,rfl,by rw[s.1.keep _ m h.a];exact g⟩,h.nv.stp s.1 h.b,fun f=> ?_,fun B j f=> ?_⟩
 .rcases s.2 _ f with e | e
  .exact h.a e
  .omega
 .rcases s.2 _ f with e | e
  .exact h.b B j e
  .have:=h.nv.lt j;omega
end
open Go.Nd (Ptr sumL leafOf)
open Go.Bt
theorem zHg {nd:Nd.Node}(h:Nd.size nd<=500):small nd:=by
 simp only[Nd.size]at h;refine⟨?_, ?_, ?_⟩<;>omega
section
variable {σ:Type}{At N0 k M A2 Aw:Nat}{root:Ptr}{Q:Ptr->Option Nd.Node}{G:AH->(Nat->Prop)->Prop}{step:σ->Ptr×Nd.Node->Bool×σ}{I:Nat->Bool×σ->AH->(Nat->Prop)->Prop}{fr to:Str}
variable (r:Rdr At N0 k root Q G)(c:Cns A2 M N0 encN step I)
include r c
theorem zGx (m n:Nat)(hm:M+300000000<=m)(hn:300000000<=n){p:Ptr}{nd:Nd.Node}{s:σ}{H:AH}{o f:Nat->Prop}{left:Nat}(hq:Q p=some nd)(hz:Nd.size nd<=500)(b7:nd.leaf=true->nd.vals.length=nd.keys.length)(h:Wk N0 At Aw G I H o f (left+1) (left+1) (true,s))(d2:left<=1000000000):
  ∃t C K j v,Wk N0 At Aw G I t C K left left (step s (p,nd))/\Awk Aw o f H C K t/\NB t (Wid Aw C K) j v nd/\
   ((step s (p,nd)).1=false->f166 (dy (m+1)) n [.ptr Aw 0, .agg (jR p),S fr,S to, .func 106 [] [], .yieldTo A2] H=some (.bool false,t))/\
   ((step s (p,nd)).1=true->nd.leaf=true->f166 (dy (m+1)) n [.ptr Aw 0, .agg (jR p),S fr,S to, .func 106 [] [], .yieldTo A2] H=some (.bool true,t))/\
   ((step s (p,nd)).1=true->nd.leaf=false-> ∃F,Prs t F/\f166 (dy (m+1)) n [.ptr Aw 0, .agg (jR p),S fr,S to, .func 106 [] [], .yieldTo A2] H=dH (jb 0 (jY n (bO (dy (m+1)) n) [.ptr Aw 0,S fr,S to, .func 106 [] [], .yieldTo A2, .ptr j 0, .int .i64 ((kB nd.keys fr:Nat):Int), .int .i64 ((kB nd.keys fr:Nat):Int)] F) (JJ (dy (m+1)) n))):=by
 have hk:=h.ok r c;obtain⟨e0,b8⟩:=h.w;have lw:=hk.lt b8;have d3:=h.lo;obtain⟨H1,y,b1,p1,g1,m1,n1⟩:=box hk (.cells (jR p) 42 1 false);obtain⟨H2,e2,p2⟩:=zPa m n p1.ok p;have P2:=p1.trans p2;have W2:=h.prs r c P2;obtain⟨H3,e3,W3,s3⟩:=W2.less r c (left':=left);have N1:=p1.next;have N2:=p2.next;have N3:=s3.next
 obtain⟨H4,j,b4,V,g4,m4,n4⟩:=box s3.ok (.cells [.bool false, .nilSlice, .nilSlice, .nilSlice] 119 1 false);have W4:=W3.prs r c V;have N4:=V.next
 have b9:=W3.lt r c;have a1: ¬Wid Aw o f j:=fun W=>by have:=b9 _ W;omega
 obtain⟨t,e5,g5,s5,n5⟩:=jW V.ok g4 (l':=[.bool false, .nilSlice, .nilSlice, .nilSlice]) rfl rfl;have a4:stN 4 (.ptr j 0) (.agg [.bool false, .nilSlice, .nilSlice, .nilSlice]) H4=some (jO,t):=e5;have W5:=W4.frame r c s5 (fun B a=>by subst a;exact⟨by omega,a1⟩);have N5:=s5.next
 obtain⟨v,F,C,Y,W6,J,a5,f6⟩:=W5.load r c (m+1) n (by omega) (by omega) hq hz;have N6:=J.s.next
 have a0: ¬Wid Aw C f j:=fun W=>by
  rcases J.adw.2 _ W with e | e
  .exact a1 e
  .omega
 have g6:F.h.get j=some (.cells [.bool false, .nilSlice, .nilSlice, .nilSlice] 119 1 false):=by rw[J.s.keep _ (by omega) a1];exact g5
 obtain⟨ks,vs,q,rfl,w1,w2,w3⟩:=a5;have a5:kC F (.agg [.bool nd.leaf,ks,vs,q]) nd:=⟨ks,vs,q,rfl,w1,w2,w3⟩;obtain⟨H7,e7,g7,Z,n7⟩:=jW (W6.ok r c) g6 (l':=[.bool nd.leaf,ks,vs,q]) rfl (by simp[jP,w1.isCell,w2.isCell,w3.isCell];rfl);have L:stN 4 (.ptr j 0) (.agg [.bool nd.leaf,ks,vs,q]) F=some (jO,H7):=e7;have W7:=W6.frame r c Z (fun B a=>by subst a;exact⟨by omega,a0⟩);have c0:=a5.stp Z (fun B a e=>by have:=(f6 B a).1;omega);obtain⟨H8,e8,W8,s8⟩:=W7.noerr r c;have b3:=c0.stp s8 (fun B a e=>by have:=(f6 B a).1;omega);have N7:=Z.next;have N8:=s8.next
 have g8:H8.h.get j=some (.cells [.bool nd.leaf,ks,vs,q] 119 1 false):=by rw[s8.keep _ (by omega) (by omega)];exact g7
 obtain⟨H9,K,z,W9,a9⟩:=W8.tell r c m n (by omega) b3 hz b7 (fun B a=>(f6 B a).2);have c1:NB H8 (Wid Aw C f) j (.agg [.bool nd.leaf,ks,vs,q]) nd:=⟨⟨_,_,rfl,g8⟩,b3,a0,fun B a=>(f6 B a).2⟩;have b5:=c1.adw (W8.ok r c) a9.adw;have g9:H9.h.get j=some (.cells [.bool nd.leaf,ks,vs,q] 119 1 false):=by rw[a9.s.keep _ (by omega) a0];exact g8
 obtain⟨c2,a7,c3⟩:=Q6 (dy (m+1)) n (by omega) (W9.ok r c) (v:= .agg [.bool nd.leaf,ks,vs,q]) (nd:=nd) (key:=fr) b5.nv.node (zHg hz);have c4:Stp (Wid Aw o f) H H3:=(Prs.stp P2).trans (s3.mono fun B _ a=> .inr (.inr a));have st4:Stp (Wid Aw o f) H H4:=c4.trans V.stp;have c5:Stp (Wid Aw o f) H t:=Stp.thru st4 s5 fun B a=> .inl (by omega)
 have c6:Stp (Wid Aw o f) H F:=c5.trans J.s;have c7:Stp (Wid Aw o f) H H7:=Stp.thru c6 Z fun B a=> .inl (by omega)
 have c8:Stp (Wid Aw o f) H H8:=Stp.thru c7 s8 fun B a=> .inr (.inr (.inr a))
 have c9:Stp (Wid Aw o f) H H9:=Stp.thru c8 a9.s fun B a=>by
  rcases J.adw.2 B a with e | e
  .exact .inr e
  .exact .inl (by omega)
 refine⟨H9,C,K,j, .agg [.bool nd.leaf,ks,vs,q],W9,⟨c9,fun B a=>(J.g B a).imp id fun e=>by omega,fun B a=>(a9.i B a).imp id fun e=>by omega⟩,b5, ?_⟩;have N:=W2.w;have O:=W3.w;have T:=W5.w;have U:=W8.w;obtain⟨x2,N⟩:=N;obtain⟨x3,O⟩:=O;obtain⟨x5,T⟩:=T;obtain⟨x8,U⟩:=U;have b6:y≠Aw:=by omega
 have d4: ∀ {f:Nat->Prop},¬Wid Aw o f y->True:=fun _=>trivial
 have q3:H3.h.get y=some (.cells (jR p) 42 1 false):=by rw[s3.keep _ (by omega) b6];exact zRn p2 p1.ok g1
 have q5:t.h.get y=some (.cells (jR p) 42 1 false):=by rw[s5.keep _ (by omega) (by omega),V.keep _ (by omega) (fun x=>x)];exact q3
 have d0: ¬Wid Aw o f y:=fun W=>by have:=h.lt r c _ W;omega
 have q8:H8.h.get y=some (.cells (jR p) 42 1 false):=by rw[s8.keep _ (by omega) b6,Z.keep _ (by omega) (by omega),J.s.keep _ (by omega) d0];exact q5
 have a2:((left+1:Nat):Int) - ((1:Nat):Int)=((left:Nat):Int):=by omega
 have a3: ¬((left:Nat):Int)< ((0:Nat):Int):=by omega
 have a8: ¬(((0:Nat):Int)≠((0:Nat):Int)):=by omega
 have d1:Eng.keyOk (1::[6,6,10]) (.agg (jR p))=true:=rfl;have b0:lkM (1::[6,6,10]) (.agg [.bool false, .nilSlice, .nilSlice, .nilSlice]) true .nilMap (.agg (jR p)) H3=some (.tuple [.agg [.bool false, .nilSlice, .nilSlice, .nilSlice], .bool false]):=by
  simp only[lkM,d1,zM];rfl
 have u: ∀ {H:AH},H.h.get y=some (.cells (jR p) 42 1 false)->ldN 3 (.ptr y 0) H=some (.agg (jR p)):=fun g=>by rw[jQ g];rfl
 have b2:bxV 42 (.agg (jR p))=some (.cells (jR p) 42 1 false,fun A=> .ptr A 0):=rfl;have r1:ldN 3 (.ptr y 0) H1=some (.agg (jR p)):=u g1;have r9:ldN 4 (.ptr j 0) H9=some (.agg [.bool nd.leaf,ks,vs,q]):=bY g9 rfl;have r8:ldN 4 (.ptr j 0) H8=some (.agg [.bool nd.leaf,ks,vs,q]):=bY g8 rfl;refine⟨fun hb=> ?_,fun hb hl=> ?_,fun hb hl=>⟨c2,c3, ?_⟩⟩
 .rw[hb]at z;simp(maxSteps:=999999)(disch:=omega) only[f166,XV,eZ,b2,b1,r1,e2,jL N,a2,e3,jL O,a3,b0,u q3,jM,nth,b4,a4,jL T,u q5,Y,L,e8,jL U,a8,u q8,r8,z]
 .rw[hb]at z;rw[hl]at Y L r8 z g9;simp(maxSteps:=999999)(disch:=omega) only[f166,XV,eZ,b2,b1,r1,e2,jL N,a2,e3,jL O,a3,b0,u q3,jM,nth,b4,a4,jL T,u q5,Y,L,e8,jL U,a8,u q8,r8,z,jL g9]
 .rw[hb]at z;rw[hl]at Y L r8 z g9 r9 a7;rw[dS hl rfl fr]at a7;simp(maxSteps:=999999)(disch:=omega) only[f166,XV,eZ,b2,b1,r1,e2,jL N,a2,e3,jL O,a3,b0,u q3,jM,nth,b4,a4,jL T,u q5,Y,L,e8,jL U,a8,u q8,r8,z,jL g9,r9,a7]
end
open Go.Nd (Ptr sumL leafOf)
open Go.Bt
theorem l0_go (D:Dyn)(n:Nat){H H':AH}{A2 Aw f first i:Nat}{fr to:Str}{nd:Nd.Node}{v:AV}{W:Nat->Prop}{b:Bool}(nb:NB H W f v nd)(hi:i<nd.kids.length)(T:nd.kids.length=nd.keys.length+1)(U:i<=1000000)
  (y:i=first\/(first<i/\kQ to (nd.keys.getD (i - 1) [])=true))
  (o:D.fn 166 [.ptr Aw 0, .agg (jR nd.kids[i]),S fr,S to, .func 106 [] [], .yieldTo A2] H=some (.bool b,H')):
  bO D n [.ptr Aw 0,S fr,S to, .func 106 [] [], .yieldTo A2, .ptr f 0, .int .i64 ((first:Nat):Int), .int .i64 ((i:Nat):Int)] H=some (bif b then .norm [.ptr Aw 0,S fr,S to, .func 106 [] [], .yieldTo A2, .ptr f 0, .int .i64 ((first:Nat):Int), .int .i64 ((i+1:Nat):Int)]else .ret (.bool false),H'):=by
 obtain⟨l,e,rfl,g⟩:=nb.g;obtain⟨ks,vs,J,hl,K,V,L⟩:=nb.nv;simp only[AV.agg.injEq]at hl;subst hl;have hp:vS H J nd.kids:=L.row;have N:Strs H ks nd.keys:=K.row;obtain⟨Y,p,h⟩:=hp.at hi;have j:((i:Nat):Int)< ((nd.kids.length:Nat):Int):=by omega
 have hi1:((i:Nat):Int)+((1:Nat):Int)=((i+1:Nat):Int):=by omega
 have u:(AV.str 0 0)=S []:=rfl;rcases y with rfl | ⟨Z,q⟩
 .have a: ¬((i:Nat):Int)< ((i:Nat):Int):=by omega
  cases b<;>simp(maxSteps:=999999)(disch:=omega) only[bO,eZ,zM,qH,jL g,hp.lnSl,j,a,p,h,o,hi1]
 .have a:((first:Nat):Int)< ((i:Nat):Int):=by omega
  by_cases s:to=[]
  .have m:aV .neq (S to) (S [])=some (.bool false):=by rw[uT];simp[s]
   cases b<;>simp(maxSteps:=999999)(disch:=omega) only[bO,eZ,zM,qH,jL g,hp.lnSl,j,a,u,m,p,h,o,hi1]
  .have m:aV .neq (S to) (S [])=some (.bool true):=by rw[uT];simp[s]
   have t:i - 1<nd.keys.length:=by omega
   obtain⟨qk,O,z⟩:=N.at t;have x:((i:Nat):Int) - ((1:Nat):Int)=((i - 1:Nat):Int):=by omega
   have C:ltS nd.keys[i - 1] to=true:=by
    rw[qE,zJ t,qZ]at q;simp only[kQ,yO,List.isEmpty_iff,s,false_or]at q;exact q
   have F:aV .geq (S nd.keys[i - 1]) (S to)=some (.bool false):=by rw[Y7,C];rfl
   cases b<;>simp(maxSteps:=999999)(disch:=omega) only[bO,eZ,zM,qH,jL g,hp.lnSl,j,a,u,m,x,O,z,F,p,h,o,hi1]
theorem zOg (D:Dyn)(n:Nat){H:AH}{A2 Aw h first i:Nat}{fr to:Str}{nd:Nd.Node}{v:AV}{W:Nat->Prop}(nb:NB H W h v nd)(J:nd.kids.length=nd.keys.length+1)(K:i<=1000000)
  (p:nd.kids.length<=i\/(first<i/\i<nd.kids.length/\kQ to (nd.keys.getD (i - 1) [])=false)):
  bO D n [.ptr Aw 0,S fr,S to, .func 106 [] [], .yieldTo A2, .ptr h 0, .int .i64 ((first:Nat):Int), .int .i64 ((i:Nat):Int)] H=some (.exit 0 [],H):=by
 obtain⟨l,e,rfl,g⟩:=nb.g;obtain⟨ks,vs,u,hl,x,L,y⟩:=nb.nv;simp only[AV.agg.injEq]at hl;subst hl;have hp:vS H u nd.kids:=y.row;have z:Strs H ks nd.keys:=x.row;have C:(AV.str 0 0)=S []:=rfl;rcases p with j | ⟨N,hi,a⟩
 .have f: ¬((i:Nat):Int)< ((nd.kids.length:Nat):Int):=by omega
  simp(maxSteps:=999999)(disch:=omega) only[bO,eZ,zM,qH,jL g,hp.lnSl,f]
 .have f:((i:Nat):Int)< ((nd.kids.length:Nat):Int):=by omega
  have q:((first:Nat):Int)< ((i:Nat):Int):=by omega
  have m:i - 1<nd.keys.length:=by omega
  rw[qE,zJ m,qZ]at a;simp only[kQ,Bool.or_eq_false_iff]at a;have s:aV .neq (S to) (S [])=some (.bool true):=by
   rw[uT];have:to≠[]:=fun e=>by rw[e]at a;simp at a
   simp[this]
  obtain⟨O,F,t⟩:=z.at m;have o:((i:Nat):Int) - ((1:Nat):Int)=((i - 1:Nat):Int):=by omega
  have j:aV .geq (S nd.keys[i - 1]) (S to)=some (.bool true):=by rw[Y7,a.2];rfl
  simp(maxSteps:=999999)(disch:=omega) only[bO,eZ,zM,qH,jL g,hp.lnSl,f,q,C,s,o,F,t,j]
def zR7 {σ:Type}(N0 At Aw M A2:Nat)(Q:Ptr->Option Nd.Node)(G:AH->(Nat->Prop)->Prop)(step:σ->Ptr×Nd.Node->Bool×σ)(I:Nat->Bool×σ->AH->(Nat->Prop)->Prop)(fr to:Str)(h:Nat):Prop:=
 ∀(m n:Nat) (p:Ptr) (nd:Nd.Node) (s:σ) (H:AH) (i j:Nat->Prop) (left:Nat),M+h+300000000<=m->300000000<=n->Q p=some nd->Vs Q h nd->Wk N0 At Aw G I H i j left left (true,s)->(wU Q fr to h p nd).length<=left->left<=1000000000->
  ∃H' a f left',f166 (dy (m+1)) n [.ptr Aw 0, .agg (jR p),S fr,S to, .func 106 [] [], .yieldTo A2] H=some (.bool (xH step (wU Q fr to h p nd) s).1,H')/\Wk N0 At Aw G I H' a f left' left' (xH step (wU Q fr to h p nd) s)/\Awk Aw i j H a f H'/\left<=left'+(wU Q fr to h p nd).length/\left'<=left
section
variable {σ:Type}{At N0 k M A2 Aw:Nat}{root:Ptr}{Q:Ptr->Option Nd.Node}{G:AH->(Nat->Prop)->Prop}{step:σ->Ptr×Nd.Node->Bool×σ}{I:Nat->Bool×σ->AH->(Nat->Prop)->Prop}{fr to:Str}
variable (r:Rdr At N0 k root Q G)(c:Cns A2 M N0 encN step I)
include r c
theorem zGw {h m n J:Nat}{nd:Nd.Node}{v:AV}(N:zR7 N0 At Aw M A2 Q G step I fr to h)(u:nd.kids.length=nd.keys.length+1)(y:Nd.size nd<=500)(F: ∀p∈nd.kids,∃f,Q p=some f/\Vs Q h f)(hm:M+h+300000000<=m):
  ∀(rr i q:Nat) {s:σ} {H:AH} {j o:Nat->Prop} {left:Nat},kB nd.keys fr<=i->i+rr=kB nd.keys fr+ZX nd.keys to (kB nd.keys fr)->rr<q->Wk N0 At Aw G I H j o left left (true,s)->NB H (Wid Aw j o) J v nd->(((nd.kids.drop i).take rr).flatMap (JE Q (wU Q fr to h))).length<=left->left<=1000000000->
   ∃H' K L left',jb 0 (jY q (bO (dy (m+2)) n) [.ptr Aw 0,S fr,S to, .func 106 [] [], .yieldTo A2, .ptr J 0, .int .i64 ((kB nd.keys fr:Nat):Int), .int .i64 ((i:Nat):Int)] H) (JJ (dy (m+2)) n)=some (.ret (.bool (xH step (((nd.kids.drop i).take rr).flatMap (JE Q (wU Q fr to h))) s).1),H')/\
    Wk N0 At Aw G I H' K L left' left' (xH step (((nd.kids.drop i).take rr).flatMap (JE Q (wU Q fr to h))) s)/\Awk Aw j o H K L H'/\left<=left'+(((nd.kids.drop i).take rr).flatMap (JE Q (wU Q fr to h))).length/\left'<=left
 | 0,i,0,_,_,_,_,_,_,_,hk,_,_,_,_=>by omega
 | 0,i,q+1,s,H,j,o,left,hf,he,_,wk,nb,_,_=>by
  have x:=fD nd.keys fr;have hc:=KJ nd.keys to _ x;have W:nd.keys.length<=500:=by obtain⟨a,_,_⟩:=aG y;exact a
  refine⟨H,j,o,left, ?_,by simpa[xH]using wk,Awk.refl (wk.ok r c),by simp,zQ _⟩;have Y:nd.kids.length<=i\/(kB nd.keys fr<i/\i<nd.kids.length/\kQ to (nd.keys.getD (i - 1) [])=false):=by
   by_cases hi:nd.kids.length<=i
   .exact .inl hi
   .have h1:1<=ZX nd.keys to (kB nd.keys fr):=Nat.succ_le_succ (Nat.zero_le _);refine .inr ⟨by omega,by omega, ?_⟩;have hd:(nd.keys.drop (kB nd.keys fr))[((nd.keys.drop (kB nd.keys fr)).takeWhile (kQ to)).length]? =some (nd.keys.getD (i - 1) []):=by
     rw[jE,qE];have:kB nd.keys fr+((nd.keys.drop (kB nd.keys fr)).takeWhile (kQ to)).length=i - 1:=by
      have:ZX nd.keys to (kB nd.keys fr)=((nd.keys.drop (kB nd.keys fr)).takeWhile (kQ to)).length+1:=rfl;omega
     rw[this,zJ (by omega),qZ]
    exact dU hd
  rw[jU (zOg (dy (m+2)) n nb u (by omega) Y)];simp only[List.take_zero,List.flatMap_nil,xH];simp only[jb,JJ,eZ];rfl
 | rr+1,i,0,_,_,_,_,_,_,_,hk,_,_,_,_=>by omega
 | rr+1,i,q+1,s,H,j,o,left,hf,he,hkf,wk,nb,hl,hlf=>by
  have x:=fD nd.keys fr;have hc:=KJ nd.keys to _ x;have W:nd.keys.length<=500:=by obtain⟨a,_,_⟩:=aG y;exact a
  have hi:i<nd.kids.length:=by omega
  have hL:((nd.kids.drop i).take (rr+1)).flatMap (JE Q (wU Q fr to h))=JE Q (wU Q fr to h) nd.kids[i]++((nd.kids.drop (i+1)).take rr).flatMap (JE Q (wU Q fr to h)):=by
   rw[qL hi,List.take_succ_cons,qG]
  obtain⟨f,O,hv⟩:=F _ (qY hi);have V:JE Q (wU Q fr to h) nd.kids[i]=wU Q fr to h nd.kids[i] f:=by simp only[JE,O]
  rw[hL,V]at hl⊢;rw[zT]at hl;obtain⟨H1,Z,a0,T,e1,t,z,l1,a3⟩:=N m (m+1) _ _ _ _ _ _ _ hm (by omega) O hv wk (by omega) hlf;have a4:i=kB nd.keys fr\/(kB nd.keys fr<i/\kQ to (nd.keys.getD (i - 1) [])=true):=by
   by_cases a5:i=kB nd.keys fr
   .exact .inl a5
   .refine .inr ⟨by omega, ?_⟩;have a6:i - 1 - kB nd.keys fr< ((nd.keys.drop (kB nd.keys fr)).takeWhile (kQ to)).length:=by
     have:ZX nd.keys to (kB nd.keys fr)=((nd.keys.drop (kB nd.keys fr)).takeWhile (kQ to)).length+1:=rfl;omega
    refine QB a6 ?_;rw[jE,show kB nd.keys fr+(i - 1 - kB nd.keys fr)=i - 1 by omega,qE,zJ (by omega),qZ]
  have hb:=l0_go (dy (m+2)) n (Aw:=Aw) (A2:=A2) (fr:=fr) nb hi u (by omega) a4 (by rw[zJO];exact e1);rw[zEj]
  cases hr:(xH step (wU Q fr to h nd.kids[i] f) s).1 with
  | false=>
   rw[hr]at hb;simp only[qH]at hb⊢;have C:xH step (wU Q fr to h nd.kids[i] f) s=(false,(xH step (wU Q fr to h nd.kids[i] f) s).2):=by rw[<-hr]
   rw[C]at t;refine⟨H1,Z,a0,T, ?_,t,z,by rw[zT];omega,a3⟩;rw[fY hb];rfl
  | true=>
   rw[hr]at hb;simp only[zM]at hb⊢;have C:xH step (wU Q fr to h nd.kids[i] f) s=(true,(xH step (wU Q fr to h nd.kids[i] f) s).2):=by rw[<-hr]
   rw[C]at t;obtain⟨H2,a7,a8,U,e2,a9,a2,l2,b0⟩:=zGw N u y F hm rr (i+1) q (by omega) (by omega) (by omega) t (nb.adw (wk.ok r c) z.adw) (by omega) (by omega);refine⟨H2,a7,a8,U, ?_,a9,z.trans a2,by rw[zT];omega,by omega⟩;rw[wR hb];exact e2
theorem zGy: ∀h,zR7 N0 At Aw M A2 Q G step I fr to h
 | 0=>fun m n p nd s H Y Z left hm y z C F hl O=>by
  obtain⟨j,v2,i⟩:=C;have t:wU Q fr to 0 p nd=[(p,nd)]:=rfl;rw[t]at hl⊢;obtain⟨l,rfl⟩: ∃l,left=l+1:=⟨left - 1,by simp at hl;omega⟩;obtain⟨J,u,x,S,v,f,o,nb,c1,c2,_⟩:=zGx r c (fr:=fr) (to:=to) m n (by omega) y z i (fun _=>v2) F (by omega);have N:xH step [(p,nd)] s=step s (p,nd):=by
   simp only[xH]
   cases hb:(step s (p,nd)).1 with
   | true=>simp only[zM];rw[<-hb]
   | false=>simp only[qH];rw[<-hb]
  rw[N];refine⟨J,u,x,l, ?_,f,o,by simp,by omega⟩
  cases hb:(step s (p,nd)).1 with
  | true=>exact c2 hb j
  | false=>exact c1 hb
 | h+1=>fun m n p nd s H Y Z left hm y z C F hl O=>by
  obtain⟨j,v2,i,v4⟩:=C;have t:wU Q fr to (h+1) p nd=(p,nd)::((nd.kids.drop (kB nd.keys fr)).take (ZX nd.keys to (kB nd.keys fr))).flatMap (JE Q (wU Q fr to h)):=rfl;rw[t]at hl⊢;simp only[zW]at hl⊢;obtain⟨l,rfl⟩: ∃l,left=l+1:=⟨left - 1,by omega⟩;obtain⟨q,rfl⟩: ∃q,m=q+1:=⟨m - 1,by omega⟩;obtain⟨J,u,x,S,v,f,o,nb,c1,_,c3⟩:=zGx r c (fr:=fr) (to:=to) (q+1) n (by omega) y z i (fun e=>by rw[j]at e;cases e) F (by omega)
  cases hb:(step s (p,nd)).1 with
  | false=>
   have K:step s (p,nd)=(false,(step s (p,nd)).2):=by rw[<-hb]
   refine⟨J,u,x,l, ?_, ?_,o,by omega,by omega⟩
   .simp only[xH,hb,qH];exact c1 hb
   .simp only[xH,hb,qH];rw[K]at f;exact f
  | true=>
   have K:step s (p,nd)=(true,(step s (p,nd)).2):=by rw[<-hb]
   rw[K]at f;obtain⟨H6,L,e6⟩:=c3 hb j;have a0:nd.keys.length<=500:=by obtain⟨a,_,_⟩:=aG i;exact a
   have T:=fD nd.keys fr;have hc:=KJ nd.keys to _ T;obtain⟨H7,U,V,l7,e7,W,a7,b7,a1⟩:=zGw r c (m:=q) (n:=n) (zGy h) v2 i v4 (by omega) (ZX nd.keys to (kB nd.keys fr)) (kB nd.keys fr) n (zQ _) rfl (by omega) (f.prs r c L) (nb.adw (f.ok r c) ⟨L.stp,fun B hB=> .inl hB⟩) (by omega) (by omega);refine⟨H7,U,V,l7, ?_, ?_,o.trans ((Awk.prs L).trans a7),by omega,by omega⟩
   .rw[e6,e7];simp only[xH,hb,zM];rfl
   .simp only[xH,hb,zM];exact W
end
open Go.Nd (Ptr sumL leafOf whereN)
open Go.Bt
def encP (_:AH)(_:Nat->Prop)(x:Str×Str)(az:List AV):Prop:=az=[.agg [S x.1,S x.2]]
def lpP (b:Bool)(a f h:Nat):ALoop:=⟨bif b then .ready else .done,bif b then none else some .ret,164,0,[2,3,5],[.ptr a 0, .ptr f 0, .ptr h 0]⟩
def zKl (A2 a f h B:Nat):Prop:=B=A2\/B=a\/B=f\/B=h
structure Inn2 {σ:Type}(I:Nat->Bool×σ->AH->(Nat->Prop)->Prop)(N0 Bf Bt By A1:Nat)(fr to:Str)(b:Nat)(bo:Bool)(s:σ)(H:AH)(Wo:Nat->Prop):Prop where
 i:I b (bo,s) H Wo
 bf:Box H Bf (S fr)
 bt:Box H Bt (S to)
 by':Box H By (.yieldTo A1)
 lo:N0<=Bf/\N0<=Bt/\N0<=By
 nw: ¬Wo Bf/\ ¬Wo Bt/\ ¬Wo By
def I2 {σ:Type}(I:Nat->Bool×σ->AH->(Nat->Prop)->Prop)(N0 A2 a f i A1:Nat)(fr to:Str)(b:Nat)(x:Bool×σ)(H:AH)(W:Nat->Prop):Prop:=
 ∃j m,Inn2 I N0 a f i A1 fr to (500*b) m x.2 H j/\(x.1=true->m=true)/\H.h.get A2=some (.loop (lpP x.1 a f i))/\N0<=A2/\ ¬j A2/\ ∀B,W B↔(j B\/zKl A2 a f i B)
section
variable {σ:Type}{A1 M N0:Nat}{step:σ->Str×Str->Bool×σ}{I:Nat->Bool×σ->AH->(Nat->Prop)->Prop}(c:Cns A1 M N0 encP step I)
include c
theorem Inn2.adw {p q t:Nat}{fr to:Str}{b b':Nat}{u bo':Bool}{s s':σ}{H H':AH}{m f:Nat->Prop}(h:Inn2 I N0 p q t A1 fr to b u s H m)(a:Adw m H f H')(i:I b' (bo',s') H' f):Inn2 I N0 p q t A1 fr to b' bo' s' H' f:=by
 have j:=c.ok h.i;have o: ∀ {B:Nat} {x:AV},Box H B x-> ¬m B-> ¬f B:=fun hb v y=>by
  rcases a.2 _ y with e | e
  .exact v e
  .have:=hb.lt j;omega
 exact⟨i,h.bf.mono j a.1 h.nw.1,h.bt.mono j a.1 h.nw.2.1,h.by'.mono j a.1 h.nw.2.2,h.lo,o h.bf h.nw.1,o h.bt h.nw.2.1,o h.by' h.nw.2.2⟩
theorem Inn2.frame {f j m:Nat}{fr to:Str}{b:Nat}{q:Bool}{s:σ}{H H':AH}{o S:Nat->Prop}(h:Inn2 I N0 f j m A1 fr to b q s H o)(k:Stp S H H')(a: ∀B,S B-> ¬o B/\B≠f/\B≠j/\B≠m):Inn2 I N0 f j m A1 fr to b q s H' o:=by
 have p:=c.ok h.i;exact⟨c.frame h.i k fun B t=>(a B t).1,h.bf.mono p k fun e=>(a _ e).2.1 rfl,h.bt.mono p k fun e=>(a _ e).2.2.1 rfl,h.by'.mono p k fun e=>(a _ e).2.2.2 rfl,h.lo,h.nw⟩
theorem Inn2.drop {a f j:Nat}{fr to:Str}{b b':Nat}{m:Bool}{s:σ}{H:AH}{o:Nat->Prop}(h:Inn2 I N0 a f j A1 fr to b m s H o)(hb:b'<=b):Inn2 I N0 a f j A1 fr to b' m s H o:=⟨c.mono h.i hb,h.bf,h.bt,h.by',h.lo,h.nw⟩
theorem zBT {m n C Bf t u:Nat}{fr to:Str}{nd:Nd.Node}{v:AV}(hm:M<=m)(a4:nd.vals.length=nd.keys.length)(hz:nd.keys.length<=500):
  ∀(rr i x:Nat) {b:Nat} {s:σ} {H:AH} {f:Nat->Prop},i+rr=nd.keys.length->rr<x->Inn2 I N0 Bf t u A1 fr to (b+rr) true s H f->NB H f C v nd->
   ∃H' Y F e,jb 2 (jY x (d9 (dy (m+1)) n) [.ptr t 0, .ptr u 0, .ptr C 0, .int .i64 ((i:Nat):Int)] H) (XW (dy (m+1)) n)=some (e,H')/\
    Inn2 I N0 Bf t u A1 fr to b F (xH (vB to step) ((nd.keys.zip nd.vals).drop i) s).2 H' Y/\Adw f H Y H'/\((xH (vB to step) ((nd.keys.zip nd.vals).drop i) s).1=true->F=true/\e= .norm [])/\((xH (vB to step) ((nd.keys.zip nd.vals).drop i) s).1=false->e= .ret (.tuple []))
 | _,_,0,_,_,_,_,_,hk,_,_=>by omega
 | 0,i,x+1,b,s,H,f,he,_,hi,nb=>by
  obtain⟨l,e,rfl,g⟩:=nb.g;obtain⟨ks,vs,ps,hl,O,w2,w3⟩:=nb.nv;simp only[AV.agg.injEq]at hl;subst hl;have o:Strs H ks nd.keys:=O.row;have a3:(nd.keys.zip nd.vals).drop i=[]:=qT (by simp;omega);rw[a3];refine⟨H,f,true, .norm [], ?_,hi,Adw.refl (c.ok hi.i),fun _=>⟨rfl,rfl⟩,fun h=>by simp[xH]at h⟩;have p: ¬((i:Nat):Int)< ((nd.keys.length:Nat):Int):=by omega
  rw[jU (i:=2) (vs':=[]) (H':=H) (by simp(maxSteps:=999999)(disch:=omega) only[d9,eZ,jL g,o.lnSl,p])];simp only[jb,XW,eZ];rfl
 | rr+1,i,x+1,b,s,H,f,he,hkf,hi,nb=>by
  have a5:=nb;obtain⟨l,e,rfl,g⟩:=nb.g;obtain⟨ks,vs,ps,hl,O,w2,w3⟩:=nb.nv;simp only[AV.agg.injEq]at hl;subst hl;have o:Strs H ks nd.keys:=O.row;have hy:Strs H vs nd.vals:=w2.row;have a6:i<nd.keys.length:=by omega
  have a7:i<nd.vals.length:=by omega
  obtain⟨qk,T,L⟩:=o.at a6;obtain⟨qv,iv,Z⟩:=hy.at a7;have N:((i:Nat):Int)< ((nd.keys.length:Nat):Int):=by omega
  have hi1:((i:Nat):Int)+((1:Nat):Int)=((i+1:Nat):Int):=by omega
  have U:(AV.str 0 0)=S []:=rfl;have hL:(nd.keys.zip nd.vals).drop i=(nd.keys[i],nd.vals[i])::(nd.keys.zip nd.vals).drop (i+1):=by
   rw[qL (by simp;omega),List.getElem_zip]
  rw[hL];have a0:vR [(0,1),(1,1)] [S [],S []] [(0,S nd.keys[i]),(1,S nd.vals[i])]=some (.agg [S nd.keys[i],S nd.vals[i]]):=rfl;have W: ∀az H,callV [(107,f107 (dy (m+1)) n),(79,f79 (dy (m+1)) n)] (dy (m+1)) (.yieldTo A1) az H=(dy (m+1)).yld A1 az H:=fun _ _=>rfl
  cases j:kQ to nd.keys[i]with
  | false=>
   have y:vB to step s (nd.keys[i],nd.vals[i])=(false,s):=by simp only[vB,j,qH]
   simp only[xH,y,qH];refine⟨H,f,true, .ret (.tuple []), ?_,hi.drop c (b':=b) (by omega),Adw.refl (c.ok hi.i),fun h=>by simp at h,fun _=>rfl⟩;simp only[kQ,Bool.or_eq_false_iff]at j;have q:aV .neq (S to) (S [])=some (.bool true):=by
    rw[uT];have:to≠[]:=fun e=>by rw[e]at j;simp at j
    simp[this]
   have p:aV .geq (S nd.keys[i]) (S to)=some (.bool true):=by rw[Y7,j.2];rfl
   rw[fY (v:= .tuple []) (H':=H) (by simp(maxSteps:=999999)(disch:=omega) only[d9,eZ,jL g,o.lnSl,N,hi.bt.ld,U,q,T,L,p])];rfl
  | true=>
   obtain⟨H1,a8,J,i1,K⟩:=c.run m hm hi.i (a:=(nd.keys[i],nd.vals[i])) (az:=[.agg [S nd.keys[i],S nd.vals[i]]]) rfl;have z:=hi.adw c K (b':=b+rr) (bo':=(step s (nd.keys[i],nd.vals[i])).1) (s':=(step s (nd.keys[i],nd.vals[i])).2) i1;have y:vB to step s (nd.keys[i],nd.vals[i])=step s (nd.keys[i],nd.vals[i]):=by simp only[vB,j,zM]
   have body:d9 (dy (m+1)) n [.ptr t 0, .ptr u 0, .ptr C 0, .int .i64 ((i:Nat):Int)] H=some (bif (step s (nd.keys[i],nd.vals[i])).1 then .norm [.ptr t 0, .ptr u 0, .ptr C 0, .int .i64 ((i+1:Nat):Int)]else .ret (.tuple []),H1):=by
    by_cases V:to=[]
    .have q:aV .neq (S to) (S [])=some (.bool false):=by rw[uT];simp[V]
     cases hb:(step s (nd.keys[i],nd.vals[i])).1<;>rw[hb]at J<;>simp(maxSteps:=999999)(disch:=omega) only[d9,eZ,zM,qH,jL g,o.lnSl,N,hi.bt.ld,hi.by'.ld,U,q,T,L,iv,Z,a0,W,J,hi1]
    .have q:aV .neq (S to) (S [])=some (.bool true):=by rw[uT];simp[V]
     have a9:ltS nd.keys[i] to=true:=by simpa[kQ,V]using j
     have p:aV .geq (S nd.keys[i]) (S to)=some (.bool false):=by rw[Y7,a9];rfl
     cases hb:(step s (nd.keys[i],nd.vals[i])).1<;>rw[hb]at J<;>simp(maxSteps:=999999)(disch:=omega) only[d9,eZ,zM,qH,jL g,o.lnSl,N,hi.bt.ld,hi.by'.ld,U,q,T,L,p,iv,Z,a0,W,J,hi1]
   have b0:=a5.adw (c.ok hi.i) K
   cases hb:(step s (nd.keys[i],nd.vals[i])).1 with
   | false=>
    rw[hb]at body z;simp only[qH]at body;simp only[xH,y,hb,qH];refine⟨H1,a8,false, .ret (.tuple []), ?_,z.drop c (b':=b) (by omega),K,fun h=>by simp at h,fun _=>rfl⟩;rw[fY body];rfl
   | true=>
    rw[hb]at body z;simp only[zM]at body;simp only[xH,y,hb,zM];obtain⟨H2,b1,F,e,e2,i2,a2,t2,f2⟩:=zBT hm a4 hz rr (i+1) x (by omega) (by omega) z b0;refine⟨H2,b1,F,e, ?_,i2,K.trans a2,t2,f2⟩;rw[wR body];exact e2
end
open Go.Nd (Ptr sumL leafOf whereN)
open Go.Bt
section
variable {σ:Type}{A1 M N0:Nat}{step:σ->Str×Str->Bool×σ}{I:Nat->Bool×σ->AH->(Nat->Prop)->Prop}(c:Cns A1 M N0 encP step I)
include c
omit c in
theorem zJN (m:Nat){H:AH}{A2 a f i:Nat}(j:H.h.get A2=some (.loop (lpP true a f i)))(az:List AV):(dy (m+1)).yld A2 az H=aZ (dy m) m A2 (lpP true a f i) az H:=by
 show YN (tabR (dy m) m) A2 az H=_;simp only[YN,j];rfl
theorem zIs {A2 j o q:Nat}{fr to:Str}{J:Nat}{s:σ}{a:Ptr×Nd.Node}{az:List AV}{H:AH}{W:Nat->Prop}(m:Nat)(hm:M+300000000<=m)(hi:I2 I N0 A2 j o q A1 fr to (J+1) (true,s) H W)(he:encN H W a az):
  ∃H' W',(dy (m+1)).yld A2 az H=some (.bool (vV fr to step s a).1,H')/\I2 I N0 A2 j o q A1 fr to J (vV fr to step s a) H' W'/\Adw W H W' H':=by
 obtain⟨T,bo,hi,hb,L,a8,U,u⟩:=hi;obtain rfl:=hb rfl;obtain⟨p,nd⟩:=a;obtain⟨v,rfl,nv,hz,a9,a3⟩:=he;simp only at nv hz a9 a3⊢;obtain⟨z,rfl⟩: ∃z,m=z+1:=⟨m - 1,by omega⟩;rw[zJN (z+1) L];have N:=c.ok hi.i;have lA:=N.lt L;have n2:A2≠j/\A2≠o/\A2≠q:=by
  refine⟨fun e=> ?_,fun e=> ?_,fun e=> ?_⟩
  .obtain⟨_,h⟩:=hi.bf;rw[<-e,L]at h;cases h
  .obtain⟨_,h⟩:=hi.bt;rw[<-e,L]at h;cases h
  .obtain⟨_,h⟩:=hi.by';rw[<-e,L]at h;cases h
 have c4:=hi.bf.lt N;have c5:=hi.bt.lt N;have c6:=hi.by'.lt N;have b8: ∀B,xX v B-> ¬T B:=fun B f w=>a3 B f ((u B).2 (.inl w))
 have b9: ¬xX v A2:=fun f=>a3 A2 f ((u A2).2 (.inr (.inl rfl)))
 obtain⟨ks,vs,y,rfl,w1,w2,w3⟩:=nv;have nv:kC H (.agg [.bool nd.leaf,ks,vs,y]) nd:=⟨ks,vs,y,rfl,w1,w2,w3⟩;obtain⟨H1,V,b1,p1,g1,m1,n1⟩:=box N (.cells [.bool false, .nilSlice, .nilSlice, .nilSlice] 119 1 false);obtain⟨C,e2,g2,s2,c7⟩:=jW p1.ok g1 (l':=[.bool nd.leaf,ks,vs,y]) rfl (by simp[jP,w1.isCell,w2.isCell,w3.isCell];rfl);have O:stN 4 (.ptr V 0) (.agg [.bool nd.leaf,ks,vs,y]) H1=some (jO,C):=e2;have P2:Prs H C:=p1.fresh s2 fun B f=>by omega
 have N1:=p1.next;have N2:=s2.next
 have b2:=zRn P2 N L;have a0: ∀K:AH->Rs,uM A2 C K=K (C.put A2 (.loop { lpP true j o q with state:= .busy})):=fun K=>by
  simp only[uM,b2,lpP,zM,kO]
 have t:Stp (fun B=>B=A2) C (C.put A2 (.loop { lpP true j o q with state:= .busy})):=(zRf s2.ok).put (s2.ok.lt b2) _ (.inr rfl);have g3:(C.put A2 (.loop { lpP true j o q with state:= .busy})).h.get A2=some (.loop { lpP true j o q with state:= .busy}):=by rw[zRc,if_pos rfl]
 generalize C.put A2 (.loop { lpP true j o q with state:= .busy})=H3 at t g3 a0;have N3:=t.next
 have c0: ∀B,T B->B<H.next:=fun B f=>(c.lt hi.i B f).1
 have i3:=(hi.frame c P2 (fun _ x=>x.elim)).frame c t (fun B f=>by subst f;exact⟨U,n2⟩);have q3:H3.h.get V=some (.cells [.bool nd.leaf,ks,vs,y] 119 1 false):=by rw[t.keep _ (by omega) (by omega)];exact g2
 have c1:kC H3 (.agg [.bool nd.leaf,ks,vs,y]) nd:=(nv.prs P2).stp t fun B f e=>b9 (e▸f)
 have a4:NB H3 T V (.agg [.bool nd.leaf,ks,vs,y]) nd:=⟨⟨_,_,rfl,q3⟩,c1,fun w=>by have:=c0 _ w;omega,b8⟩;have hl:QX [2,3,5] (lpP true j o q).live=true:=rfl;have a2:(lpP true j o q).vals=[.ptr j 0, .ptr o 0, .ptr q 0]:=rfl;have b3:Stp W H H3:=(Prs.stp P2).trans (t.mono fun B _ f=>(u B).2 (.inr (.inl f)))
 cases S:nd.leaf with
 | false=>
  have a6:vV fr to step s (p,nd)=(true,s):=by simp only[vV,bJ,S,qH,xH]
  rw[a6];rw[S]at q3 O;have s4:Stp (fun B=>B=A2) H3 (H3.put A2 (.loop (lpP true j o q))):=(zRf t.ok).put (t.ok.lt g3) _ (.inr rfl);have b7:YE A2 none H3=some (.bool true,H3.put A2 (.loop (lpP true j o q))):=by simp only[YE,g3,kO,lpP,zM]
  have i4:=i3.frame c s4 (fun B f=>by subst f;exact⟨U,n2⟩);refine⟨H3.put A2 (.loop (lpP true j o q)),W, ?_,⟨T,true,i4.drop c (b':=500*J) (by omega),fun _=>rfl,by rw[zRc,if_pos rfl],a8,U,u⟩,⟨b3.trans (s4.mono fun B _ f=>(u B).2 (.inr (.inl f))),fun B f=> .inl f⟩⟩;simp(maxSteps:=999999)(disch:=omega) only[aZ,eZ,hl,a2,zM,b1,O,a0,jL q3,BA];exact b7
 | true=>
  rw[S]at q3 O a4;obtain⟨H4,e4,Y⟩:=Q6 (dy (z+1)) (z+1) (by omega) t.ok (key:=fr) a4.nv.node (zHg hz);have i4:=i3.frame c Y (fun _ x=>x.elim);have c2:NB H4 T V (.agg [.bool true,ks,vs,y]) nd:=a4.adw t.ok ⟨Y.stp,fun B f=> .inl f⟩;have c8:=Nd.whereN_le nd fr;have c3:nd.keys.length<=500:=by obtain⟨a,_,_⟩:=aG hz;exact a
  obtain⟨F,a1,b4,e,e5,i5,Z,t5,f5⟩:=zBT c (m:=z) (n:=z+1) (by omega) (a9 S) c3 (nd.keys.length - whereN nd fr) (whereN nd fr) (z+1) (b:=500*J) (by omega) (by omega) (i4.drop c (b':=500*J+(nd.keys.length - whereN nd fr)) (by omega)) c2;have a6:vV fr to step s (p,nd)=xH (vB to step) ((nd.keys.zip nd.vals).drop (whereN nd fr)) s:=by simp only[vV,bJ,S,zM]
  rw[a6];have N4:=Y.next;have N5:=Z.1.next
  have g4:H4.h.get A2=some (.loop { lpP true j o q with state:= .busy}):=zRn Y t.ok g3;have g5:F.h.get A2=some (.loop { lpP true j o q with state:= .busy}):=by rw[Z.1.keep _ (by omega) U];exact g4
  have a7:=c.ok i5.i;have b5: ¬a1 A2:=fun w=>by
   rcases Z.2 _ w with e | e
   .exact U e
   .omega
  have r4:ldN 4 (.ptr V 0) H3=some (.agg [.bool true,ks,vs,y]):=bY q3 rfl;have b6: ∀b:Bool,Stp (fun B=>B=A2) F (F.put A2 (.loop (lpP b j o q))):=fun b=>(zRf a7).put (a7.lt g5) _ (.inr rfl)
  have run: ∀b:Bool,YE A2 (bif b then none else some .ret) F=some (.bool b,F.put A2 (.loop (lpP b j o q))):=fun b=>by
   cases b<;>simp only[YE,g5,kO,lpP,zM,qH]
  have out: ∀b:Bool,(b=true->b4=true)->I2 I N0 A2 j o q A1 fr to J (b,(xH (vB to step) ((nd.keys.zip nd.vals).drop (whereN nd fr)) s).2) (F.put A2 (.loop (lpP b j o q))) (fun B=>a1 B\/zKl A2 j o q B):=fun b hb=>
   ⟨a1,b4,i5.frame c (b6 b) (fun B f=>by subst f;exact⟨b5,n2⟩),hb,by rw[zRc,if_pos rfl],a8,b5,fun B=>Iff.rfl⟩
  have adw: ∀b:Bool,Adw W H (fun B=>a1 B\/zKl A2 j o q B) (F.put A2 (.loop (lpP b j o q))):=fun b=>by
   refine⟨((b3.trans Y.stp).trans (Z.1.mono fun B _ f=>(u B).2 (.inl f))).trans ((b6 b).mono fun B _ f=>(u B).2 (.inr (.inl f))),fun B f=> ?_⟩;rcases f with e | e
   .rcases Z.2 B e with e | e
    .exact .inl ((u B).2 (.inl e))
    .exact .inr (by omega)
   .exact .inl ((u B).2 (.inr e))
  cases hr:(xH (vB to step) ((nd.keys.zip nd.vals).drop (whereN nd fr)) s).1 with
  | true=>
   obtain⟨rfl,rfl⟩:=t5 hr;have hs:xH (vB to step) ((nd.keys.zip nd.vals).drop (whereN nd fr)) s=(true,(xH (vB to step) ((nd.keys.zip nd.vals).drop (whereN nd fr)) s).2):=by rw[<-hr]
   rw[hs];refine⟨_,_, ?_,out true (fun _=>rfl),adw true⟩;have c9:=e5;simp(maxSteps:=999999)(disch:=omega) only[aZ,eZ,hl,a2,zM,b1,O,a0,jL q3,r4,i3.bf.ld,e4,e5,BA];exact run true
  | false=>
   obtain rfl:=f5 hr;have hs:xH (vB to step) ((nd.keys.zip nd.vals).drop (whereN nd fr)) s=(false,(xH (vB to step) ((nd.keys.zip nd.vals).drop (whereN nd fr)) s).2):=by rw[<-hr]
   rw[hs];refine⟨_,_, ?_,out false (fun h=>by cases h),adw false⟩;simp(maxSteps:=999999)(disch:=omega) only[aZ,eZ,hl,a2,zM,b1,O,a0,jL q3,r4,i3.bf.ld,e4,e5];exact run false
theorem zIt (A2 o p q:Nat)(fr to:Str):Cns A2 (M+300000000) N0 encN (vV fr to step) (I2 I N0 A2 o p q A1 fr to) where
 ok:=fun⟨_,_,hi,_⟩=>c.ok hi.i
 lt:=fun {b x H W} ⟨j,bo,hi,hb,gA,hlo,nA,hW⟩ B a=>by
  have f:=c.ok hi.i;rcases(hW B).1 a with e | e | e | e | e
  .exact c.lt hi.i B e
  .subst e;exact⟨f.lt gA,hlo⟩
  .subst e;exact⟨hi.bf.lt f,hi.lo.1⟩
  .subst e;exact⟨hi.bt.lt f,hi.lo.2.1⟩
  .subst e;exact⟨hi.by'.lt f,hi.lo.2.2⟩
 mono:=fun⟨j,bo,hi,hb,gA,hlo,nA,hW⟩ h=>⟨j,bo,hi.drop c (by omega),hb,gA,hlo,nA,hW⟩
 frame:=fun {b x H H' W S} ⟨j,bo,hi,hb,gA,hlo,nA,hW⟩ s hS=>by
  have f:=c.ok hi.i;refine⟨j,bo,hi.frame c s fun B a=>⟨fun w=>hS B a ((hW B).2 (.inl w)),fun e=>hS B a ((hW B).2 (.inr (.inr (.inl e)))),fun e=>hS B a ((hW B).2 (.inr (.inr (.inr (.inl e))))),fun e=>hS B a ((hW B).2 (.inr (.inr (.inr (.inr e)))))⟩,hb, ?_,hlo,nA,hW⟩;rw[s.keep _ (f.lt gA) fun w=>hS A2 w ((hW A2).2 (.inr (.inl rfl)))];exact gA
 run:=fun m hm hi t=>zIs c m hm hi t
end
open Go.Nd (Ptr sumL leafOf whereN)
open Go.Bt
def Vis (Q:Ptr->Option Nd.Node)(root:Ptr)(fr to:Str)(L:List (Ptr×Nd.Node)):Prop:=
 ((root.at_=0\/(to≠[]/\ltS fr to=false))/\L=[])\/(root.at_≠0/\(to=[]\/ltS fr to=true)/\ ∃h nd,h<=1000000/\Q root=some nd/\Vs Q h nd/\L=wU Q fr to h root nd)
section
variable {σ:Type}{At N0 k M A2 Aw:Nat}{root:Ptr}{Q:Ptr->Option Nd.Node}{G:AH->(Nat->Prop)->Prop}{step:σ->Ptr×Nd.Node->Bool×σ}{I:Nat->Bool×σ->AH->(Nat->Prop)->Prop}{fr to:Str}
variable (r:Rdr At N0 k root Q G)(c:Cns A2 M N0 encN step I)
include r c
theorem zBK (m:Nat)(hm:M+310000000<=m){Xw Xt Xf Xp:Nat}{s:σ}{H:AH}{N O:Nat->Prop}{left:Nat}{L:List (Ptr×Nd.Node)}(u:Wk N0 At Aw G I H N O left left (true,s))(hL:Vis Q root fr to L)(hl:L.length<=left)(a7:left<=1000000000)
  (o:Box H Xw (.ptr Aw 0)) (bt:Box H Xt (S to)) (bf:Box H Xf (S fr)) (bp:Box H Xp (.func 106 [] [])):
  ∃H' a0 a1 left',f165 (dy m) m [.yieldTo A2, .ptr Xw 0, .ptr Xt 0, .ptr Xf 0, .ptr Xp 0] H=some (.tuple [],H')/\Wk N0 At Aw G I H' a0 a1 left' left' (xH step L s)/\Awk Aw N O H a0 a1 H':=by
 have hk:=u.ok r c;obtain⟨ek,v⟩:=u.w;obtain⟨f,rfl⟩: ∃f,m=f+1:=⟨m - 1,by omega⟩;obtain⟨H1,y,T⟩:=r.root (dy (f+1)) (f+1) u.g;obtain⟨H2,U,b2,V,g2,m2,n2⟩:=box T.ok (.cells [.int .i64 ((0:Nat):Int), .int .i64 ((0:Nat):Int), .int .u64 ((0:Nat):Int)] 42 1 false);obtain⟨i,e3,g3,s3,n3⟩:=jW V.ok g2 (l':=jR root) rfl rfl;have p:stN 3 (.ptr U 0) (.agg (jR root)) H2=some (jO,i):=e3;have N1:=T.next;have N2:=V.next;have N3:=s3.next
 have z:Prs H i:=(T.trans V).fresh s3 fun B hB=>by omega
 have a2:=u.prs r c z;have up: ∀ {A:Nat} {x:AV},Box H A x->Box i A x:=fun hb=>hb.mono hk z fun x=>x
 have a3:=up o;have C:=up bt;have F:=up bf;have a5:=up bp;have W:(AV.str 0 0)=S []:=rfl;have q:i.h.get U=some (.cells [.int .i64 root.at_, .int .i64 root.birth, .int .u64 root.sum] 42 1 false):=g3;have r3:ldN 3 (.ptr U 0) i=some (.agg (jR root)):=by rw[jQ g3];rfl
 have t:bxV 42 (.agg [.int .i64 ((0:Nat):Int), .int .i64 ((0:Nat):Int), .int .u64 ((0:Nat):Int)])=some (.cells [.int .i64 ((0:Nat):Int), .int .i64 ((0:Nat):Int), .int .u64 ((0:Nat):Int)] 42 1 false,fun A=> .ptr A 0):=rfl;rcases hL with⟨hL,rfl⟩ | ⟨hr,Y,h,nd,hh,hq,hv,rfl⟩
 .refine⟨i,N,O,left, ?_,by simpa[xH]using a2,Awk.prs z⟩;by_cases Z:root.at_=0
  .have a: ¬(root.at_≠((0:Nat):Int)):=by simp[Z]
   simp(maxSteps:=999999)(disch:=omega) only[f165,JK,eZ,o.ld,jL v,y,t,b2,p,jL q,a]
  .have a:root.at_≠((0:Nat):Int):=by simpa using Z
   obtain⟨Y,a8⟩:=hL.resolve_left Z;have j:aV .eql (S to) (S [])=some (.bool false):=by rw[KL];simp[Y]
   have J:aV .lss (S fr) (S to)=some (.bool false):=by rw[Y6,a8]
   simp(maxSteps:=999999)(disch:=omega) only[f165,JK,eZ,o.ld,jL v,y,t,b2,p,jL q,a,ne_eq,j6,W,C.ld,F.ld,j,J]
 .obtain⟨H4,a9,b0,a6,e4,b1,a4,_,_⟩:=zGy r c (fr:=fr) (to:=to) h f (f+1) _ _ _ _ _ _ _ (by omega) (by omega) hq hv a2 hl a7;refine⟨H4,a9,b0,a6, ?_,b1,(Awk.prs z).trans a4⟩;have a:root.at_≠((0:Nat):Int):=by simpa using hr
  by_cases K:to=[]
  .have j:aV .eql (S to) (S [])=some (.bool true):=by rw[KL];simp[K]
   simp(maxSteps:=999999)(disch:=omega) only[f165,JK,eZ,o.ld,jL v,y,t,b2,p,jL q,a,ne_eq,j6,W,C.ld,F.ld,a3.ld,a5.ld,j,r3,e4]
  .have j:aV .eql (S to) (S [])=some (.bool false):=by rw[KL];simp[K]
   have J:aV .lss (S fr) (S to)=some (.bool true):=by rw[Y6,Y.resolve_left K]
   simp(maxSteps:=999999)(disch:=omega) only[f165,JK,eZ,o.ld,jL v,y,t,b2,p,jL q,a,ne_eq,j6,W,C.ld,F.ld,a3.ld,a5.ld,j,J,r3,e4]
end
section
variable {σ:Type}{At N0 k M A1 Aw:Nat}{root:Ptr}{Q:Ptr->Option Nd.Node}{G:AH->(Nat->Prop)->Prop}{step:σ->Str×Str->Bool×σ}{I:Nat->Bool×σ->AH->(Nat->Prop)->Prop}{fr to:Str}
variable (r:Rdr At N0 k root Q G)(c:Cns A1 M N0 encP step I)
include r c
set_option maxRecDepth 100000 in
theorem zHV (m:Nat)(hm:M+620000000<=m){Xw Xf Xt Xp:Nat}{s:σ}{H:AH}{t p:Nat->Prop}{left ek:Nat}{L:List (Ptr×Nd.Node)}(Y:G H t)(hi:I (500*left) (true,s) H p)(Z:H.h.get Aw=some (.cells [.ptr At 0, .nilMap, .int .i64 ((left:Nat):Int), .int .i64 ((0:Nat):Int)] ek 1 false))(b3:N0<=Aw)(ng: ¬t Aw)(ni: ¬p Aw)(sep: ∀B,p B-> ¬t B)
  (hL:Vis Q root fr to L) (hl:L.length<=left) (b4:left<=1000000000)
  (bw:Box H Xw (.ptr Aw 0)) (bf:Box H Xf (S fr)) (bt:Box H Xt (S to)) (bp:Box H Xp (.func 106 [] [])) (y:N0<=Xf/\N0<=Xt/\ ¬p Xf/\ ¬p Xt/\ ¬t Xf/\ ¬t Xt):
  ∃H' a4 a5 bo left' b5,f164 (dy m) m [.yieldTo A1, .ptr Xw 0, .ptr Xf 0, .ptr Xt 0, .ptr Xp 0] H=some (.tuple [],H')/\G H' a4/\I (500*left') (bo,(xH (vV fr to step) L s).2) H' a5/\
   H'.h.get Aw=some (.cells [.ptr At 0, .nilMap, .int .i64 ((left':Nat):Int), .int .i64 ((0:Nat):Int)] b5 1 false)/\Stp (fun B=>t B\/p B\/B=Aw\/B=Xf\/B=Xt) H H'/\(∀B,a4 B->t B\/H.next<=B)/\(∀B,a5 B->p B\/H.next<=B):=by
 have z:=r.ok Y;have lw:=z.lt Z;obtain⟨H1,j,b1,T,g1,m1,n1⟩:=box z (.cells [.yieldTo A1] 276 1 false);have N1:=T.next
 have up: ∀ {H':AH} {A:Nat} {x:AV},Prs H H'->Box H A x->Box H' A x:=fun P hb=>hb.mono z P fun x=>x
 obtain⟨H2,B4,c4,p2,g2,m2,n2⟩:=box T.ok (.cells [.ptr Aw 0] 207 1 false);obtain⟨H3,B5,c5,U,g3,m3,n3⟩:=box p2.ok (.cells [S fr] 9 1 false);obtain⟨H4,B6,c6,C,g4,m4,n4⟩:=box U.ok (.cells [S to] 9 1 false);obtain⟨o,B7,c7,u,g5,m5,n5⟩:=box C.ok (.cells [.func 106 [] []] 212 1 false);have N2:=p2.next;have N3:=U.next;have N4:=C.next;have N5:=u.next
 have v:Prs o (o.push (.loop (lpP true Xf Xt j))):=(zRf u.ok).push _;have g6:(o.push (.loop (lpP true Xf Xt j))).h.get o.next=some (.loop (lpP true Xf Xt j)):=zR8 _ _
 have a0: ∀K:Nat->AH->Rs,VQ o (.loop ⟨.ready,none,164,0,[2,3,5],[.ptr Xf 0, .ptr Xt 0, .ptr j 0]⟩) K=K o.next (o.push (.loop (lpP true Xf Xt j))):=fun K=>WV u.ok _ K
 have b6:(o.push (.loop (lpP true Xf Xt j))).next=o.next+1:=rfl
 generalize o.push (.loop (lpP true Xf Xt j))=H6 at v g6 a0 b6;obtain⟨A2,b7⟩: ∃A2,A2=o.next:=⟨_,rfl⟩
 rw[<-b7]at g6 a0;have a6:Prs H1 o:=((p2.trans U).trans C).trans u;have F:Prs H H6:=(T.trans a6).trans v;have a8: ∀B,p B->B<H.next/\N0<=B:=fun B f=>c.lt hi B f
 have b8: ∀B,t B->B<H.next:=fun B f=>r.lt Y B f
 have lX:Xf<H.next/\Xt<H.next:=⟨bf.lt z,bt.lt z⟩
 have b9:Inn2 I N0 Xf Xt j A1 fr to (500*left) true s H6 p:=⟨c.frame hi F fun _ x=>x.elim,up F bf,up F bt,⟨_,zRn (a6.trans v) T.ok g1⟩,⟨y.1,y.2.1,by omega⟩,⟨y.2.2.1,y.2.2.2.1,fun w=>by have:=a8 _ w;omega⟩⟩;have i2:I2 I N0 A2 Xf Xt j A1 fr to left (true,s) H6 (fun B=>p B\/zKl A2 Xf Xt j B):=⟨p,true,b9,fun _=>rfl,g6,by omega,fun w=>by have:=a8 _ w;omega,fun B=>Iff.rfl⟩;have c0: ∀B:Nat,zKl A2 Xf Xt j B->B≠Aw:=fun B f e=>by
  rcases f with V | V | V | V
  .omega
  .obtain⟨_,hb⟩:=bf;rw[<-V,e,Z]at hb;simp at hb
  .obtain⟨_,hb⟩:=bt;rw[<-V,e,Z]at hb;simp at hb
  .omega
 have wk:Wk N0 At Aw G (I2 I N0 A2 Xf Xt j A1 fr to) H6 t (fun B=>p B\/zKl A2 Xf Xt j B) left left (true,s):=⟨r.frame Y F fun _ x=>x.elim,i2,⟨_,zRn F z Z⟩,b3,ng,fun w=>by
   rcases w with w | w
   .exact ni w
   .exact c0 _ w rfl,fun B f w=>by
   have:=b8 B w;rcases f with e | e | e | e | e
   .exact sep B e w
   .omega
   .subst e;exact y.2.2.2.2.1 w
   .subst e;exact y.2.2.2.2.2 w
   .omega⟩
 obtain⟨q,rfl⟩: ∃q,m=q+1:=⟨m - 1,by omega⟩;obtain⟨J,c1,d0,l7,e7,O,a7⟩:=zBK r (zIt c A2 Xf Xt j fr to) q (by omega) wk hL hl b4 (Xw:=B4) (Xt:=B6) (Xf:=B5) (Xp:=B7) ⟨_,zRn ((U.trans C).trans (u.trans v)) p2.ok g2⟩ ⟨_,zRn (u.trans v) C.ok g4⟩ ⟨_,zRn (C.trans (u.trans v)) U.ok g3⟩ ⟨_,zRn v u.ok g5⟩;obtain⟨c2,bo,a1,_,a2,_,c3,a9⟩:=O.i;obtain⟨c8,b0⟩:=O.w;have a3:=r.ok O.g;have N7:=a7.s.next
 have N6:=v.next
 have N:Stp (fun B=>B=A2) J (J.put A2 .dead):=(zRf a3).put (a3.lt a2) _ (.inr rfl);have b2: ∀K:Option Code->AH->Rs,fQ A2 J K=K (lpP (xH (vV fr to step) L s).1 Xf Xt j).pending (J.put A2 .dead):=fun K=>by
  cases hb:(xH (vV fr to step) L s).1<;>rw[hb]at a2<;>simp only[fQ,a2,lpP,zM,qH,kO]
 refine⟨J.put A2 .dead,c1,c2,bo,l7,c8, ?_,r.frame O.g N (fun B f=>by subst f;exact⟨by have:=r.lt Y;omega,fun w=>O.sep _ ((a9 _).2 (.inr (.inl rfl))) w⟩),c.frame a1.i N (fun B f=>by subst f;exact c3),by rw[N.keep _ (a3.lt b0) (by omega)];exact b0, ?_,fun B f=> ?_,fun B f=> ?_⟩
 .have c9:rfC [(107,f107 (dy (q+1)) (q+1)),(79,f79 (dy (q+1)) (q+1))] (dy (q+1)) (.func 165 [] [.ptr B4 0, .ptr B6 0, .ptr B5 0, .ptr B7 0]) A2 H6=some (.tuple [],J):=e7;have hf:f107 (dy (q+1)) (q+1) [.ptr Aw 0,S fr,S to, .func 106 [] []] H1=some (.func 165 [] [.ptr B4 0, .ptr B6 0, .ptr B5 0, .ptr B7 0],o):=by
   have x1:jT (.ptr Aw 0)=[.ptr Aw 0]:=rfl;have x2: ∀a,jT (S a)=[S a]:=fun _=>rfl
   have x3:jT (.func 106 [] [])=[.func 106 [] []]:=rfl;simp only[f107,eZ,x1,x2,x3,c4,c5,c6,c7]
  have x0:jT (.yieldTo A1)=[.yieldTo A1]:=rfl;have u1: ∀ {A:Nat} {x:AV},Box H A x->ld1 (.ptr A 0) H1=some x:=fun hb=>(up T hb).ld
  simp(maxSteps:=999999)(disch:=omega) only[f164,eZ,x0,b1,u1 bw,u1 bf,u1 bt,u1 bp,hf,a0,c9,b2]
  cases(xH (vV fr to step) L s).1<;>rfl
 .refine⟨N.ok,by have:=N.next;omega,fun B f W=> ?_⟩
  rw[N.keep B (by omega) (by omega),a7.s.keep B (by omega) (fun w=> ?_),F.keep B f fun x=>x];rcases w with w | (w | w | w | w | w) | w
  .exact W (.inl w)
  .exact W (.inr (.inl w))
  .omega
  .exact W (.inr (.inr (.inr (.inl w))))
  .exact W (.inr (.inr (.inr (.inr w))))
  .omega
  .exact W (.inr (.inr (.inl w)))
 .exact(a7.g B f).imp id fun e=>by omega
 .rcases a7.i B ((a9 B).2 (.inl f))with(e | e | e | e | e) | e
  .exact .inl e
  .exact .inr (by omega)
  .subst e;exact absurd f a1.nw.1
  .subst e;exact absurd f a1.nw.2.1
  .exact .inr (by omega)
  .exact .inr (by omega)
end
open Go.Nd (Ptr sumL leafOf Kvs)
open Go.Bt
def lpR (b:Bool)(a f h:Nat):ALoop:=⟨bif b then .ready else .done,bif b then none else some (.exit 0),53,0,[7,12,13],[.ptr a 0, .ptr f 0, .ptr h 0]⟩
def aU (most:Nat)(s:Kvs×Bool)(x:Str×Str):Bool×(Kvs×Bool):=bif Nat.beq s.1.length most then(false,(s.1,true))else(true,(s.1++[x],s.2))
structure IR (N0 A1 most Bm Bl Bb:Nat)(b:Nat)(x:Bool×(Kvs×Bool))(H:AH)(W:Nat->Prop):Prop where
 ok:H.ok
 gA:H.h.get A1=some (.loop (lpR x.1 Bm Bl Bb))
 bm:Box H Bm (.int .i64 ((most:Nat):Int))
 bb:Box H Bb (.bool x.2.2)
 bl: ∃v,Box H Bl v/\kZ 2 48 H v x.2.1.length (x.2.1.flatMap prV)/\ ¬Blk v A1/\ ¬Blk v Bm/\ ¬Blk v Bl/\ ¬Blk v Bb/\(∀B,Blk v B->N0<=B)/\ ∀B,W B↔(zKl A1 Bm Bl Bb B\/Blk v B)
 lo:N0<=A1/\N0<=Bm/\N0<=Bl/\N0<=Bb
 ne:Bm≠Bl/\Bm≠Bb/\Bl≠Bb
 few:x.2.1.length+b<=900000000
theorem zLW (m:Nat){H:AH}{A1 a f i:Nat}(j:H.h.get A1=some (.loop (lpR true a f i)))(az:List AV):(dy (m+1)).yld A1 az H=zAl (dy m) m A1 (lpR true a f i) az H:=by
 show YN (tabR (dy m) m) A1 az H=_;simp only[YN,j];rfl
theorem zDP {H:AH}{A B:Nat}{o:ALoop}{v:AV}(g:H.h.get A=some (.loop o))(b:Box H B v):A≠B:=fun e=>by
 obtain⟨_,hb⟩:=b;rw[<-e,g]at hb;cases hb
theorem zHx {N0 A1 most o i j:Nat}{b:Nat}{s:Kvs×Bool}{a:Str×Str}{az:List AV}{H:AH}{W:Nat->Prop}(m:Nat)(hi:IR N0 A1 most o i j (b+1) (true,s) H W)(he:encP H W a az)(c7:0<=most):
  ∃H' W',(dy (m+1)).yld A1 az H=some (.bool (aU most s a).1,H')/\IR N0 A1 most o i j b (aU most s a) H' W'/\Adw W H W' H':=by
 obtain⟨L,N,bm,bb,⟨v,bl,gv,U,v2,v3,v4,v5,t⟩,a8,T,hf⟩:=hi;obtain rfl:az=[.agg [S a.1,S a.2]]:=he;obtain⟨l,mo⟩:=s;simp only at N bb gv hf⊢;rw[zLW m N];have lA:=L.lt N;have lm:=bm.lt L;have lb:=bb.lt L;have ll:=bl.lt L;have u:A1≠o/\A1≠i/\A1≠j:=⟨zDP N bm,zDP N bl,zDP N bb⟩;obtain⟨H1,a4,b1,p1,g1,m1,n1⟩:=box L (.cells [S [],S []] 48 1 false);obtain⟨J,e2,g2,s2,n2⟩:=jW p1.ok g1 (l':=[S a.1,S a.2]) rfl rfl;have a9:stN 2 (.ptr a4 0) (.agg [S a.1,S a.2]) H1=some (jO,J):=e2;have V:Prs H J:=p1.fresh s2 fun B f=>by omega
 have N1:=p1.next;have N2:=s2.next
 have b0:=zRn V L N;have a2: ∀K:AH->Rs,uM A1 J K=K (J.put A1 (.loop { lpR true o i j with state:= .busy})):=fun K=>by
  simp only[uM,b0,lpR,zM,kO]
 have q:Stp (fun B=>B=A1) J (J.put A1 (.loop { lpR true o i j with state:= .busy})):=(zRf s2.ok).put (s2.ok.lt b0) _ (.inr rfl);have g3:(J.put A1 (.loop { lpR true o i j with state:= .busy})).h.get A1=some (.loop { lpR true o i j with state:= .busy}):=by rw[zRc,if_pos rfl]
 generalize J.put A1 (.loop { lpR true o i j with state:= .busy})=H3 at q g3 a2;have N3:=q.next
 have up: ∀ {B:Nat} {x:AV},Box H B x->A1≠B->Box H3 B x:=fun hb hn=>(hb.mono L V fun x=>x).mono V.ok q (fun e=>hn e.symm)
 have a0:=up bm u.1;have a1:=up bl u.2.1;have b2:=up bb u.2.2;have b3:kZ 2 48 H3 v l.length (l.flatMap prV):=(gv.mono V (fun _ _ x=>x)).mono q fun B f e=>U (e▸f)
 have q3:H3.h.get a4=some (.cells [S a.1,S a.2] 48 1 false):=by rw[q.keep _ (by omega) (by omega)];exact g2
 have hl:QX [7,12,13] (lpR true o i j).live=true:=rfl;have a7:(lpR true o i j).vals=[.ptr o 0, .ptr i 0, .ptr j 0]:=rfl;have hS:(AV.str 0 0)=S []:=rfl;have b5:bxV 48 (.agg [S [],S []])=some (.cells [S [],S []] 48 1 false,fun A=> .ptr A 0):=rfl;have b7:lnSl v=some (.int .i64 ((l.length:Nat):Int)):=gv.row.lnSl;by_cases a6:l.length=most
 .have a5:aU most (l,mo) a=(false,(l,true)):=by simp only[aU,show Nat.beq l.length most=true by rw[zY];exact a6,zM]
  rw[a5];obtain⟨y,e4,b4,z⟩:=b2.st q.ok (x:= .bool true) rfl;have N4:=z.next
  have g4:y.h.get A1=some (.loop { lpR true o i j with state:= .busy}):=by rw[z.keep _ (by omega) (by omega)];exact g3
  have p:Stp (fun B=>B=A1) y (y.put A1 (.loop (lpR false o i j))):=(zRf z.ok).put (z.ok.lt g4) _ (.inr rfl);have a3:YE A1 (some (.exit 0)) y=some (.bool false,y.put A1 (.loop (lpR false o i j))):=by simp only[YE,g4,kO,lpR,qH]
  have b8: ∀ {B:Nat} {x:AV},Box H3 B x->A1≠B->j≠B->Box (y.put A1 (.loop (lpR false o i j))) B x:=fun hb Y h2=>(hb.mono q.ok z fun e=>h2 e.symm).mono z.ok p fun e=>Y e.symm
  refine⟨y.put A1 (.loop (lpR false o i j)),W, ?_,⟨p.ok,by rw[zRc,if_pos rfl],b8 a0 u.1 (Ne.symm T.2.1),b4.mono z.ok p (Ne.symm u.2.2),⟨v,b8 a1 u.2.1 (Ne.symm T.2.2),(b3.mono z fun B f e=>v4 (e▸f)).mono p fun B f e=>U (e▸f),U,v2,v3,v4,v5,t⟩,a8,T,by simp only;omega⟩,⟨(((Prs.stp V).trans (q.mono fun B _ f=>(t B).2 (.inl (.inl f)))).trans (z.mono fun B _ f=>(t B).2 (.inl (.inr (.inr (.inr f)))))).trans (p.mono fun B _ f=>(t B).2 (.inl (.inl f))),fun B f=> .inl f⟩⟩;have c3:((l.length:Nat):Int)=((most:Nat):Int):=by omega
  simp(maxSteps:=999999)(disch:=omega) only[zAl,eZ,hl,a7,zM,hS,b5,b1,a9,a2,a1.ld,b7,a0.ld,c3,e4];exact a3
 .have a5:aU most (l,mo) a=(true,(l++[a],mo)):=by
   have:Nat.beq l.length most=false:=by
    cases hb:Nat.beq l.length most with
    | false=>rfl
    | true=>exact absurd (Nat.eq_of_beq_eq_true hb) a6
   simp only[aU,this,qH]
  rw[a5];obtain⟨y,c4,b4,C,g4,m4,n4⟩:=box q.ok (.cells [S a.1,S a.2] 48 2 false);have c1:srcOf 2 (.slice c4 0 1 2) y=some (1,[S a.1,S a.2]):=by simp only[srcOf,g4];rfl
  obtain⟨v',H5,e5,b9,p,f5⟩:=(b3.mono C (fun _ _ x=>x)).app (bytes:=32) (m:=1) (new:=[S a.1,S a.2]) C.ok (by decide) c1 rfl rfl (by omega) (by decide);have N4:=C.next;have N5:=p.next
  have c5:Box H5 i v:=(a1.mono q.ok C fun x=>x).mono C.ok p v3;obtain⟨O,e6,b6,F⟩:=c5.st p.ok (x:=v') b9.isCell;have N6:=F.next
  have g6:O.h.get A1=some (.loop { lpR true o i j with state:= .busy}):=by rw[F.keep _ (by omega) (by omega),p.keep _ (by omega) U,C.keep _ (by omega) (fun x=>x)];exact g3
  have Z:Stp (fun B=>B=A1) O (O.put A1 (.loop (lpR true o i j))):=(zRf F.ok).put (F.ok.lt g6) _ (.inr rfl);have a3:YE A1 none O=some (.bool true,O.put A1 (.loop (lpR true o i j))):=by simp only[YE,g6,kO,lpR,zM]
  have c0: ∀ {B:Nat} {x:AV},Box H3 B x->A1≠B->i≠B-> ¬Blk v B->Box (O.put A1 (.loop (lpR true o i j))) B x:=fun hb Y h2 h3=>(((hb.mono q.ok C fun x=>x).mono C.ok p h3).mono p.ok F fun e=>h2 e.symm).mono F.ok Z fun e=>Y e.symm
  have nb: ∀ {B:Nat},¬Blk v B->B<H.next-> ¬Blk v' B:=fun Y h2 f=>by
   rcases f5 _ f with e | e
   .exact Y e
   .omega
  have fl:(l++[a]).flatMap prV=l.flatMap prV++[S a.1,S a.2]:=by simp[yZ,prV]
  refine⟨O.put A1 (.loop (lpR true o i j)),fun B=>zKl A1 o i j B\/Blk v' B, ?_,⟨Z.ok,by rw[zRc,if_pos rfl],c0 a0 u.1 (Ne.symm T.1) v2,c0 b2 u.2.2 T.2.2 v4,⟨v',b6.mono F.ok Z (Ne.symm u.2.1), ?_,nb U lA,nb v2 lm,nb v3 ll,nb v4 lb,fun B f=> ?_,fun B=>Iff.rfl⟩,a8,T,by simp only[zT,yL];omega⟩,⟨?_,fun B f=> ?_⟩⟩
  .have c2: ¬((l.length:Nat):Int)=((most:Nat):Int):=by omega
   have r3:ldN 2 (.ptr a4 0) H3=some (.agg [S a.1,S a.2]):=by rw[jQ q3];rfl
   have c6:dL 48 2 1 [S [],S []] [(0, .agg [S a.1,S a.2])]=some (.cells [S a.1,S a.2] 48 2 false,fun A=> .slice A 0 1 2):=rfl;simp(maxSteps:=999999)(disch:=omega) only[zAl,eZ,hl,a7,zM,hS,b5,b1,a9,a2,a1.ld,b7,a0.ld,c2,r3,c6,b4,e5,e6];exact a3
  .simp only[fl,zT,yL];exact(b9.mono F fun B f e=>nb v3 ll (e▸f)).mono Z fun B f e=>nb U lA (e▸f)
  .rcases f5 B f with e | e
   .exact v5 B e
   .omega
  .exact(((((Prs.stp V).trans (q.mono fun B _ f=>(t B).2 (.inl (.inl f)))).trans C.stp).trans (p.mono fun B _ f=>(t B).2 (.inr f))).trans (F.mono fun B _ f=>(t B).2 (.inl (.inr (.inr (.inl f)))))).trans (Z.mono fun B _ f=>(t B).2 (.inl (.inl f)))
  .rcases f with e | e
   .exact .inl ((t B).2 (.inl e))
   .rcases f5 B e with e | e
    .exact .inl ((t B).2 (.inr e))
    .exact .inr (by omega)
theorem zHy (N0 A1 most q t u:Nat)(J:0<=most):Cns A1 0 N0 encP (aU most) (IR N0 A1 most q t u) where
 ok:=fun h=>h.ok
 lt:=fun {b x H W} h B f=>by
  obtain⟨v,i,j,y,v2,z,C,o,a⟩:=h.bl;rcases(a B).1 f with(e | e | e | e) | e
  .subst e;exact⟨h.ok.lt h.gA,h.lo.1⟩
  .subst e;exact⟨h.bm.lt h.ok,h.lo.2.1⟩
  .subst e;exact⟨i.lt h.ok,h.lo.2.2.1⟩
  .subst e;exact⟨h.bb.lt h.ok,h.lo.2.2.2⟩
  .exact⟨j.lt e,o B e⟩
 mono:=fun h hb=>⟨h.ok,h.gA,h.bm,h.bb,h.bl,h.lo,h.ne,by have:=h.few;omega⟩
 frame:=fun {b x H H' W S} h s F=>by
  obtain⟨v,i,j,y,v2,z,C,o,a⟩:=h.bl;have n: ∀ {B:Nat},zKl A1 q t u B-> ¬S B:=fun K p=>F _ p ((a _).2 (.inl K))
  exact⟨s.ok,by rw[s.keep _ (h.ok.lt h.gA) (n (.inl rfl))];exact h.gA,h.bm.mono h.ok s (n (.inr (.inl rfl))),h.bb.mono h.ok s (n (.inr (.inr (.inr rfl)))),⟨v,i.mono h.ok s (n (.inr (.inr (.inl rfl)))),j.mono s fun B f p=>F B p ((a B).2 (.inr f)),y,v2,z,C,o,a⟩,h.lo,h.ne,h.few⟩
 run:=fun m _ hi L=>zHx m hi L J
set_option maxRecDepth 100000 in
theorem zHA {At N0 k:Nat}{root:Ptr}{Q:Ptr->Option Nd.Node}{G:AH->(Nat->Prop)->Prop}(r:Rdr At N0 k root Q G)(m:Nat)(hm:700000000<=m){fr to:Str}{most:Nat}{H:AH}{Wg:Nat->Prop}{L:List (Ptr×Nd.Node)}(hg:G H Wg)(e2:N0<=H.next)(e3:0<=most)(hL:Vis Q root fr to L)(hl:L.length<=8192+k)(e4:k<=1000000):
  ∃H' V v,f53 (dy (m+1)) (m+1) [.ptr At 0,S fr,S to, .int .i64 ((most:Nat):Int)] H=some (.tuple [v, .bool (xH (vV fr to (aU most)) L ([],false)).2.2, .int .i64 ((0:Nat):Int)],H')/\G H' V/\Stp Wg H H'/\(∀B,V B->Wg B\/H.next<=B)/\
   kZ 2 48 H' v (xH (vV fr to (aU most)) L ([],false)).2.1.length ((xH (vV fr to (aU most)) L ([],false)).2.1.flatMap prV)/\ ∀B,Blk v B->H.next<=B:=by
 have hk:=r.ok hg;obtain⟨left,e1⟩: ∃left,left=8192+k:=⟨_,rfl⟩;obtain⟨H1,j,b1,Y,g1,m1,n1⟩:=box hk (.cells [.int .i64 ((most:Nat):Int)] 3 1 false);have G1:=r.prs hg Y;have ed:=r.dirty (dy (m+1)) (m+1) G1;obtain⟨H2,Aw,b2,Z,g2,m2,n2⟩:=box Y.ok (.cells [.ptr At 0, .nilMap, .int .i64 ((left:Nat):Int), .int .i64 ((0:Nat):Int)] 215 1 false);obtain⟨H3,o,b3,J,g3,m3,n3⟩:=box Z.ok (.cells [.nilSlice] 37 1 false);obtain⟨H4,i,b4,C,g4,m4,n4⟩:=box J.ok (.cells [.bool false] 4 1 false);obtain⟨N,e5,g5,q,n5⟩:=jW C.ok g4 (l':=[.bool false]) rfl rfl;have c2:stN 1 (.ptr i 0) (.bool false) H4=some (jO,N):=by
  obtain⟨e6,e,_⟩:=(show Box H4 i (.bool false)from⟨_,g4⟩).st C.ok (x:= .bool false) rfl;have:=e5;rw[show stN [AV.bool false].length (.ptr i 0) (.agg [.bool false]) H4=stN 1 (.ptr i 0) (.bool false) H4 from rfl]at this;exact this
 obtain⟨H6,X4,c4,p6,g6,m6,n6⟩:=box q.ok (.cells [.ptr Aw 0] 207 1 false);obtain⟨H7,X5,c5,p7,g7,m7,n7⟩:=box p6.ok (.cells [S fr] 9 1 false);obtain⟨H8,X6,c6,O,g8,m8,n8⟩:=box p7.ok (.cells [S to] 9 1 false);obtain⟨p,X7,c7,y,g9,m9,n9⟩:=box O.ok (.cells [.func 106 [] []] 212 1 false);have N1:=Y.next;have N2:=Z.next;have N3:=J.next;have N4:=C.next;have N5:=q.next;have N6:=p6.next;have N7:=p7.next;have N8:=O.next;have N9:=y.next
 have s:Prs p (p.push (.loop (lpR true j o i))):=(zRf y.ok).push _;have a2:(p.push (.loop (lpR true j o i))).h.get p.next=some (.loop (lpR true j o i)):=zR8 _ _
 have a0: ∀K:Nat->AH->Rs,VQ p (.loop ⟨.ready,none,53,0,[7,12,13],[.ptr j 0, .ptr o 0, .ptr i 0]⟩) K=K p.next (p.push (.loop (lpR true j o i))):=fun K=>WV y.ok _ K
 have c3:(p.push (.loop (lpR true j o i))).next=p.next+1:=rfl
 generalize p.push (.loop (lpR true j o i))=H10 at s a2 a0 c3;obtain⟨A1,c8⟩: ∃A1,A1=p.next:=⟨_,rfl⟩
 rw[<-c8]at a2 a0;have e7:=s.next
 have c9:Prs N p:=((p6.trans p7).trans O).trans y;have T:Prs N H10:=c9.trans s;have P4:Prs H H4:=((Y.trans Z).trans J).trans C;have P5:Prs H N:=P4.fresh q fun B f=>by omega
 have a5:Prs H H10:=P5.trans T;have a8:Box H10 j (.int .i64 ((most:Nat):Int)):=⟨_,zRn T q.ok (by rw[q.keep _ (by omega) (by omega)];exact zRn ((Z.trans J).trans C) Y.ok g1)⟩;have d0:N.h.get Aw=some (.cells [.ptr At 0, .nilMap, .int .i64 ((left:Nat):Int), .int .i64 ((0:Nat):Int)] 215 1 false):=by rw[q.keep _ (by omega) (by omega)];exact zRn (J.trans C) Z.ok g2
 have a9:=zRn T q.ok d0;have b0:Box H10 o .nilSlice:=⟨_,zRn T q.ok (by rw[q.keep _ (by omega) (by omega)];exact zRn C J.ok g3)⟩;have b5:Box H10 i (.bool false):=⟨_,zRn T q.ok g5⟩;have W: ∀B,Wg B->B<H.next:=fun B f=>r.lt hg B f
 have F: ∀B,¬Blk .nilSlice B:=fun B f=>zRl.1 f
 have d1:IR N0 A1 most j o i (500*left) (true,([],false)) H10 (zKl A1 j o i):=⟨s.ok,a2,a8,b5,⟨.nilSlice,b0, .inl (zRo ..),F _,F _,F _,F _,fun B f=>(F B f).elim,fun B=>⟨fun h=> .inl h,fun h=>h.elim id fun h=>(F B h).elim⟩⟩,by omega,⟨by omega,by omega,by omega⟩,by simp;omega⟩;obtain⟨z,V,e8,bo,left',d2,d3,d4,t,a3,a6,a7,d5⟩:=zHV r (zHy N0 A1 most j o i (by omega)) m (by omega) (Xw:=X4) (Xf:=X5) (Xt:=X6) (Xp:=X7) (r.prs hg a5) d1 a9 (by omega) (fun w=>by have:=W _ w;omega) (fun w=>by rcases w with w | w | w | w<;>omega) (fun B f w=>by have:=W _ w;rcases f with w | w | w | w<;>omega) hL (by omega) (by omega)
  ⟨_,zRn (((p7.trans O).trans y).trans s) p6.ok g6⟩ ⟨_,zRn ((O.trans y).trans s) p7.ok g7⟩ ⟨_,zRn (y.trans s) O.ok g8⟩ ⟨_,zRn s y.ok g9⟩ ⟨by omega,by omega,fun w=>by rcases w with w | w | w | w<;>omega,fun w=>by rcases w with w | w | w | w<;>omega,fun w=>by have:=W _ w;omega,fun w=>by have:=W _ w;omega⟩
 obtain⟨v,a4,gv,v1,v2,v3,v4,v5,hW⟩:=t.bl;have e9:=a6.next
 have a1:=t.bb;have U:=t.gA;simp only at a1 U gv;have nA:A1≠o/\A1≠i:=⟨zDP U a4,zDP U a1⟩;have u:Stp (fun B=>B=A1) z (z.put A1 .dead):=(zRf t.ok).put (t.ok.lt U) _ (.inr rfl);have b6: ∀K:Option Code->AH->Rs,fQ A1 z K=K (lpR bo j o i).pending (z.put A1 .dead):=fun K=>by
  cases bo<;>simp only[fQ,U,lpR,zM,qH,kO]
 have d6: ¬V A1:=fun w=>by
  rcases a7 _ w with w | w
  .have:=W _ w;omega
  .omega
 have b7:=a4.mono t.ok u (fun e=>nA.1 e.symm);have b8:=a1.mono t.ok u (fun e=>nA.2 e.symm);have b9:(z.put A1 .dead).h.get Aw=some (.cells [.ptr At 0, .nilMap, .int .i64 ((left':Nat):Int), .int .i64 ((0:Nat):Int)] d2 1 false):=by rw[u.keep _ (t.ok.lt a3) (by omega)];exact a3
 refine⟨z.put A1 .dead,V,v, ?_,r.frame d4 u (fun B f=>by subst f;exact⟨by omega,d6⟩), ?_,fun B f=>(a7 B f).imp id fun e=>by omega,gv.mono u fun B f e=>v1 (e▸f),fun B f=> ?_⟩
 .have d7:rfC [(104,f104 (dy (m+1)) (m+1)),(105,f105 (dy (m+1)) (m+1))] (dy (m+1)) (.func 164 [] [.ptr X4 0, .ptr X5 0, .ptr X6 0, .ptr X7 0]) A1 H10=some (.tuple [],z):=d3;have x1:jT (.ptr Aw 0)=[.ptr Aw 0]:=rfl;have x2: ∀a,jT (S a)=[S a]:=fun _=>rfl
  have x3:jT (.func 106 [] [])=[.func 106 [] []]:=rfl;have x4:jT (.int .i64 ((most:Nat):Int))=[.int .i64 ((most:Nat):Int)]:=rfl;have x5:jT .nilSlice=[.nilSlice]:=rfl;have x6:jT (.bool false)=[.bool false]:=rfl;have hf:f105 (dy (m+1)) (m+1) [.ptr Aw 0,S fr,S to, .func 106 [] []] N=some (.func 164 [] [.ptr X4 0, .ptr X5 0, .ptr X6 0, .ptr X7 0],p):=by
   simp only[f105,eZ,x1,x2,x3,c4,c5,c6,c7]
  have c0:((8192:Nat):Int)+((k:Nat):Int)=((left:Nat):Int):=by omega
  have d8:vR [(0,1),(1,1),(2,1),(3,1)] [.nilPtr, .nilMap, .int .i64 ((0:Nat):Int), .int .i64 ((0:Nat):Int)] [(0, .ptr At 0),(2, .int .i64 ((left:Nat):Int))]=some (.agg [.ptr At 0, .nilMap, .int .i64 ((left:Nat):Int), .int .i64 ((0:Nat):Int)]):=rfl;have d9:f104 (dy (m+1)) (m+1) [.ptr At 0] H1=some (.ptr Aw 0,H2):=by
   simp(maxSteps:=999999)(disch:=omega) only[f104,eZ,ed,c0,d8,b2]
  have r1:ld1 (.ptr j 0) H1=some (.int .i64 ((most:Nat):Int)):=by rw[jL g1];rfl
  have c1: ¬((most:Nat):Int)< ((0:Nat):Int):=by omega
  have e0: ¬(((0:Nat):Int)≠((0:Nat):Int)):=by omega
  cases bo<;>simp(maxSteps:=999999)(disch:=omega) only[f53,zIP,eZ,cq,x4,b1,r1,c1,d9,x5,b3,x6,b4,c2,hf,a0,d7,b6,lpR,zM,qH,zEG,yF,jL b9,e0,b7.ld,b8.ld]
 .refine⟨u.ok,by have:=u.next;omega,fun B f hS=> ?_⟩
  rw[u.keep B (by omega) (by omega),a6.keep B (by omega) (fun w=> ?_),a5.keep B f fun x=>x];rcases w with w | (w | w | w | w) | w | w | w
  .exact hS w
  all_goals omega
 .rcases d5 B ((hW B).2 (.inr f))with(e | e | e | e) | e<;>omega
open Go.Nd (Srt)
def uH (fr to:Str)(kv:Kvs):Kvs:=kv.filter (inP fr to)
theorem zCE {fr to:Str}{kv:Kvs}(f:to≠[])(h:ltS fr to=false):uH fr to kv=[]:=by
 rw[uH,List.filter_eq_nil_iff];intro p _ hp;simp only[inP,kQ,zE,yT,yO,List.isEmpty_iff,f,false_or]at hp;have i:=not_lt (a:=p.1) (b:=fr) (by simp[hp.1]);have:=K7 i hp.2;rw[h]at this;cases this
theorem zEi {most:Nat} : ∀(l a:Kvs),a.length<=most->(xH (aU most) l (a,false)).2=((a++l).take most,decide (most<a.length+l.length))
 | [],a,h=>by
  rw[qX,zX h,yJ,Nat.add_zero,decide_eq_false (by omega)];rfl
 | x::l,a,h=>by
  by_cases i:a.length=most
  .have f:aU most (a,false) x=(false,(a,true)):=by simp only[aU,show Nat.beq a.length most=true by rw[zY];exact i,zM]
   simp only[xH,f,qH];rw[List.take_append_of_le_length (by omega),zX (by omega),decide_eq_true (by simp;omega)]
  .have j:Nat.beq a.length most=false:=by
    cases hb:Nat.beq a.length most with
    | false=>rfl
    | true=>exact absurd (Nat.eq_of_beq_eq_true hb) i
   have f:aU most (a,false) x=(true,(a++[x],false)):=by simp only[aU,j,qH]
   simp only[xH,f,zM];rw[zEi l (a++[x]) (by simp;omega),qI,List.singleton_append];simp only[zT,zW,yJ];rw[show a.length+(0+1)+l.length=a.length+(l.length+1)by omega]
theorem visD {E:Ev}{H:AH}{At M L Ad:Nat}{W:Nat->Prop}{root:Ptr}{q:PN}{kv:Kvs}{T:List Ptr}(t:uE (.ptr Ad 0) .nilPtr E H At M L W root q kv T)(F:kv.length<=1000000000){fr to:Str} :
  ∃m,GD0 H.next At M Ad E root q H (fun _=>False)/\Vis (Qf E q []) root fr to m/\m.length<=8192+q.length/\q.length<=L/\ ∀ {σ:Type} (step:σ->Str×Str->Bool×σ) (s:σ),(xH (vV fr to step) m s).2=(xH step (uH fr to kv) s).2:=by
 obtain⟨N,es,z,_,a,h2,h3,h4,Z,O,_⟩:=t;obtain⟨J,S,U,V,Y,K,f⟩:=a.dk;obtain rfl:Ad=J:=by simpa using K
 have o:GD0 H.next At M Ad E root q H (fun _=>False):=⟨fun _ x=>x,a.ok.lt a.gT,a.ok.lt a.gM,es,z,N,S,U,V,Y,a,a.hold,fun B u=>kZ.lt a.dg u,f,a.ok.lt f.gD,a.ok.lt f.gO,a.ok.lt f.gN,fun B u=>zRq f.ow u⟩
 rcases O with⟨rfl,rfl,_⟩ | ⟨h,nd,t,S0,v,j,wr,nd0,rfl,_⟩
 .exact⟨[],o, .inl ⟨.inl rfl,rfl⟩,by simp,by omega,fun step s=>rfl⟩
 .by_cases i:to≠[]/\ltS fr to=false
  .exact⟨[],o, .inl ⟨.inr i,rfl⟩,by simp,by omega,fun step s=>by rw[zCE i.1 i.2];rfl⟩
  .have C:to=[]\/ltS fr to=true:=by
    by_cases y:to=[]
    .exact .inl y
    .right
     cases hb:ltS fr to with
     | true=>rfl
     | false=>exact absurd ⟨y,hb⟩ i
   obtain⟨_,_,a0⟩:=zDZ (Q:=Qf E q []) (fr:=fr) (to:=to) (p:=root) j wr;obtain⟨_,a1⟩:=UC v j wr nd0;have a2:=zMn v;exact⟨wU (Qf E q []) fr to h root nd,o, .inr ⟨by omega,C,h,nd,by have:=wr.low F;omega,v,zGC j wr,rfl⟩,by omega,by omega,fun step s=>zKr j wr step s⟩
theorem zHB (m:Nat)(hm:700000000<=m){E:Ev}{H:AH}{At M L Ad:Nat}{W:Nat->Prop}{root:Ptr}{q:PN}{kv:Kvs}{T:List Ptr}(t:uE (.ptr Ad 0) .nilPtr E H At M L W root q kv T)(hL:L<=1000000)(a:kv.length<=1000000000)(fr to:Str){most:Nat}(h:0<=most):
  ∃H' v,f53 (dy (m+1)) (m+1) [.ptr At 0,S fr,S to, .int .i64 ((most:Nat):Int)] H=some (.tuple [v, .bool (decide (most< (uH fr to kv).length)), .int .i64 ((0:Nat):Int)],H')/\Prs H H'/\kZ 2 48 H' v ((uH fr to kv).take most).length (((uH fr to kv).take most).flatMap prV)/\ ∀B,Blk v B->H.next<=B:=by
 obtain⟨i,j,o,hl,x,hr⟩:=visD t a (fr:=fr) (to:=to);obtain⟨H',u,v,e,_,s,_,g,f⟩:=zHA (zEm H.next At M Ad E root q) m hm j (zQ _) h o hl (by omega)
 have p:(xH (vV fr to (aU most)) i ([],false)).2=((uH fr to kv).take most,decide (most< (uH fr to kv).length)):=by
  rw[hr,zEi (most:=most) _ [] (Nat.zero_le _)];show(([]++uH fr to kv).take most,decide (most< ([]:Kvs).length+(uH fr to kv).length))=_;rw[qS,yJ,yW]
 rw[p]at e g;exact⟨H',v,e,s,g,f⟩
end Go.Eng.Sh
end

