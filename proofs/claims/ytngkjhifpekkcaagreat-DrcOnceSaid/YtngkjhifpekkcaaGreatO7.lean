/- A checked evaluator for the program, and what it tells, part 7: no condition. -/
import Derived.Test.YtngkjhifpekkcaaGreatO6
import Derived.Test.YtngkjhifpekkcaaGreatRows
import Derived.ProofKit
import Derived.OpenShut
import Derived.Carry
set_option linter.all false
set_option linter.unusedVariables false
set_option linter.unusedSimpArgs false
set_option maxHeartbeats 8000000
section
namespace Go.Eng
theorem zHH (A off n cc:Nat)(k:IntKind){z:Int}(i:Nat)(hz:z=(i:Int))(h:i<n):yW 1 (.slice A off n cc) (.int k z)=some (.ptr A (off+i)):=by
 subst hz
 have n1:=yL k (z:=((i:Nat):Int)) (by omega)
 simp only[zY]at n1
 have hb:Nat.blt i n=true:=by rw[zL];exact h
 simp only[yW,n1,hb,cond_true,yB,Nat.mul_one]
theorem zAD {a b:Nat}(ha:a<18446744073709551616)(hb:b<256):qP .or (.int .u64 ((a*256:Nat):Int)) (.int .u64 (b:Int))=some (.int .u64 (((a*256+b):Nat):Int))∨18446744073709551616≤a*256:=by
 by_cases h:a*256<18446744073709551616
 ·left
  have h1:Nat.blt (a*256) (YB .u64)=true:=by rw[zL];exact h
  have h2:Nat.blt b (YB .u64)=true:=by rw[zL];exact Nat.lt_trans hb (by decide)
  have h3:Nat.lor (a*256) b=a*256+b:=by
   have:=Nat.two_pow_add_eq_or_of_lt (b:=b) (i:=8) (by omega) a
   rw[Nat.mul_comm a 256];exact this.symm
  have hk:keq .u64 .u64=true:=rfl
  have h5:IntKind.wrap .u64 ((a*256+b:Nat):Int)=((a*256+b:Nat):Int):=by rw[wrap_u64];omega
  have h4:BI .or .u64 (.ofNat (a*256)) (.ofNat b)=some (.int .u64 ((a*256+b:Nat):Int)):=by
   simp only[BI,IntKind.signed,Bool.not_false,h1,h2,Bool.and_self,cond_true,h3,wJ,Int.ofNat_eq_natCast,h5]
  have h6:qP .or (.int .u64 (.ofNat (a*256))) (.int .u64 (.ofNat b))=BI .or .u64 (.ofNat (a*256)) (.ofNat b):=by simp only[qP,vK,hk,cond_true]
  exact h6.trans h4
 ·right;omega
theorem VQ (s:Str)(k:IntKind){i:Nat}(h:i<s.length):WA (S s) (.int k ((i:Nat):Int))=some (.int .u8 (((s[i]).toNat:Nat):Int)):=by
 have:=zKH s k (z:=((i:Nat):Int)) (by omega) (by simpa using h)
 simpa using this
end Go.Eng
namespace Go.Eng.Sh
open Go.Nd (Ptr yJ qQ Kvs Srt)
open Go.Bt Go.Dr
theorem zHo (s:Str){i:Nat}(h:i<s.length):num (s.take (i+1))=num (s.take i)*256+(s[i]).toNat:=by
 rw[num,zI h,zBa];rfl
theorem zMB (s:Str){i:Nat}(h:s.length≤i):num s<256 ^ i:=by
 have h1:=J5 s 0
 have h2:256 ^ s.length≤256 ^ i:=Nat.pow_le_pow_right (by omega) h
 rw[num];omega
theorem KM (D:Dyn)(n:Nat)(hn:100≤n){H:AH}(s:Str)(hs:s.length≤8):zFy D n [S s] H=some (.int .u64 ((num s:Nat):Int),H):=by
 have lp:qV n (zBH D n) [S s, .int .u64 ((0:Nat):Int), .int .i64 ((s.length:Nat):Int), .int .i64 ((0:Nat):Int)] H=some (.exit 0 [.int .u64 ((num s:Nat):Int)],H):=by
  refine vW (fun i=>[S s, .int .u64 ((num (s.take i):Nat):Int), .int .i64 ((s.length:Nat):Int), .int .i64 ((i:Nat):Int)]) s.length (fun i hi=> ?_) (fun k=> ?_) n (by omega)
  ·have hb:=zMB (s.take i) (i:=7) (by simp;omega)
   have h7:(256:Nat) ^ 7=72057594037927936:=by decide
   have hx:=VQ s .i64 hi
   have hsh:qP .shl (.int .u64 ((num (s.take i):Nat):Int)) (.int .u64 ((8:Nat):Int))=some (.int .u64 ((num (s.take i)*256:Nat):Int)):=by
    rw[zIr _ _ _ (by decide),wrap_u64]
    congr 2
    have h8:(2:Int) ^ 8=256:=by decide
    all_goals omega
   have hc:=(s[i]).toNat_lt
   have hor:=(zAD (a:=num (s.take i)) (b:=(s[i]).toNat) (by omega) (by omega)).resolve_right (by omega)
   have hw:IntKind.wrap .u64 (((s[i]).toNat:Nat):Int)=(((s[i]).toNat:Nat):Int):=by rw[wrap_u64];omega
   have hiI:((i:Nat):Int)< ((s.length:Nat):Int):=by omega
   have hi1:((i:Nat):Int)+((1:Nat):Int)=((i+1:Nat):Int):=by omega
   simp(maxSteps:=999999)(disch:=omega) only[zBH,eZ,hiI,hsh,hx,hw,hor,hi1,zHo s hi]
  ·refine qZ ?_
   simp only[zBH,eZ,zX,zZ]
 simp only[zFy,eZ,wM,lp,zJm]
theorem zGc (x k:Nat):yP (dig x k)=(List.range k).map fun i=>AV.int .u8 ((x / 256 ^ (k - 1 - i) % 256:Nat):Int):=by
 apply List.ext_getElem
 ·simp[dQ,jH]
 ·intro i h1 h2
  simp only[yP,List.getElem_map,List.getElem_range]
  rw[zFX]
def xX (x k i:Nat):List AV:=((List.range k).map fun j=>AV.int .u8 ((if j<i then x / 256 ^ (k - 1 - j) % 256 else 0:Nat):Int))
theorem zCB (x k:Nat){i:Nat}(h:i<k):(xX x k i).set i (.int .u8 ((x / 256 ^ (k - 1 - i) % 256:Nat):Int))=xX x k (i+1):=by
 apply List.ext_getElem
 ·simp[xX]
 ·intro j h1 h2
  simp only[xX,List.getElem_set,List.getElem_map,List.getElem_range]
  by_cases e:i=j
  ·subst e;simp
  ·rw[if_neg e]
   by_cases hj:j<i
   ·rw[if_pos hj,if_pos (by omega)]
   ·rw[if_neg hj,if_neg (by omega)]
theorem QS (D:Dyn)(n:Nat)(hn:100≤n){H:AH}(hk:H.ok)(x k:Nat)(hx:x<18446744073709551616)(hk8:k≤8):
  ∃H',f56 D n [.int .u64 ((x:Nat):Int), .int .i64 ((k:Nat):Int)] H=some (S (dig x k),H')∧Prs H H':=by
 have hrep:rep k [AV.int .u8 ((0:Nat):Int)]=xX x k 0:=by
  rw[zDK]
  apply List.ext_getElem
  ·simp[xX]
  ·intro j h1 h2
   simp[xX]
 obtain⟨H1,A,b1,p1,g1,m1,n1⟩:=box hk (.cells (xX x k 0) 5 1 false)
 have hmk:zLM 5 1 1 [.int .u8 ((0:Nat):Int)] (.int .i64 ((k:Nat):Int)) (.int .i64 ((k:Nat):Int))=some (.cells (xX x k 0) 5 1 false,fun A=> .slice A 0 k (2*k)):=by
  have h1:Nat.ble k k=true:=by rw[zS];exact Nat.le_refl _
  have h2:Nat.ble (k*1) 140737488355328=true:=by rw[zS];omega
  have h3:Nat.blt k 9223372036854775808=true:=by rw[zL];omega
  have e0:zLM 5 1 1 [.int .u8 ((0:Nat):Int)] (.int .i64 (.ofNat k)) (.int .i64 (.ofNat k))=(bif Nat.ble k k&&Nat.ble (k*1) 140737488355328&&Nat.blt k 9223372036854775808 then some (.cells (rep k [.int .u8 ((0:Nat):Int)]) 5 1 false,fun A=> .slice A 0 k (2*k))else none):=rfl
  show zLM 5 1 1 [.int .u8 ((0:Nat):Int)] (.int .i64 (.ofNat k)) (.int .i64 (.ofNat k))=_
  rw[e0,h1,h2,h3,hrep];rfl
 have lp:=jB (b:=zF3 D n) k (fun i us H'=>us=[.int .u64 ((x:Nat):Int), .int .i64 ((k:Nat):Int), .slice A 0 k (2*k), .int .i64 ((k:Nat):Int), .int .i64 ((i:Nat):Int)]∧Prs H H'∧H'.h.get A=some (.cells (xX x k i) 5 1 false)) (fun i us H' hi ⟨hus,P,g⟩=>by
  subst hus
  obtain⟨H2,e2,g2,s2⟩:=zIT P.ok g (o:=i) (x:= .int .u8 ((x / 256 ^ (k - 1 - i) % 256:Nat):Int)) rfl (by simp[xX];omega)
  rw[zCB x k hi]at g2
  refine⟨_,H2, ?_,rfl,P.fresh s2 (fun B hB=>by omega),g2⟩
  have hs1:((k:Nat):Int) - ((1:Nat):Int)=((k - 1:Nat):Int):=by omega
  have hs2:((k - 1:Nat):Int) - ((i:Nat):Int)=((k - 1 - i:Nat):Int):=by omega
  have hm8:((8:Nat):Int)*((k - 1 - i:Nat):Int)=((8*(k - 1 - i):Nat):Int):=by omega
  have hpw:(2:Nat) ^ (8*(k - 1 - i))=256 ^ (k - 1 - i):=zDY _
  have hshr:qP .shr (.int .u64 ((x:Nat):Int)) (.int .i64 ((8*(k - 1 - i):Nat):Int))=some (.int .u64 ((x / 256 ^ (k - 1 - i):Nat):Int)):=by
   rw[zBS _ _ (by omega) (show 8*(k - 1 - i)≤64 by omega), ← hpw]
   congr 2
   all_goals(rw[Int.natCast_ediv,Int.natCast_pow];rfl)
  have hw:IntKind.wrap .u8 ((x / 256 ^ (k - 1 - i):Nat):Int)=((x / 256 ^ (k - 1 - i) % 256:Nat):Int):=by rw[wrap_u8];omega
  have hix:yW 1 (.slice A 0 k (2*k)) (.int .i64 ((i:Nat):Int))=some (.ptr A i):=by rw[zHH A 0 k (2*k) .i64 i rfl hi];simp
  have hiI:((i:Nat):Int)< ((k:Nat):Int):=by omega
  have hi1:((i:Nat):Int)+((1:Nat):Int)=((i+1:Nat):Int):=by omega
  simp(maxSteps:=999999)(disch:=omega) only[zF3,eZ,hiI,hs1,hs2,hm8,hshr,hw,hix,e2,hi1]) n _ H1 ⟨rfl,p1,g1⟩ (by omega)
 obtain⟨r,us,H2,e2,rfl,P2,g2⟩:=lp
 refine⟨H2, ?_,P2⟩
 have last:qV (r+1) (zF3 D n) [.int .u64 ((x:Nat):Int), .int .i64 ((k:Nat):Int), .slice A 0 k (2*k), .int .i64 ((k:Nat):Int), .int .i64 ((k:Nat):Int)] H2=some (.exit 0 [.slice A 0 k (2*k)],H2):=qZ (by simp only[zF3,eZ,zX])
 have hcv:zCC (.slice A 0 k (2*k)) H2=some (S (dig x k)):=Z8 (n:=k) ⟨by simp[dQ,jH], .inr (.inr ⟨_,_,_,_,_,_,_,rfl,g2,P2.ok.lt g2,by simp[xX],by
  rw[zGc,List.drop_zero,zJ (by simp[xX]),xX]
  refine List.map_congr_left fun j hj=> ?_
  rw[if_pos (by simpa using hj)]⟩)⟩ (by simp)
 have hln:lnSl (.slice A 0 k (2*k))=some (.int .i64 ((k:Nat):Int)):=rfl
 simp(maxSteps:=999999)(disch:=omega) only[f56,eZ,hmk,b1,hln,e2,last,zN9,hcv]
theorem cv2 {H:AH}{A:Nat}{a b:UInt8}{e:Nat}(hk:H.ok)(g:H.h.get A=some (.cells [.int .u8 ((a.toNat:Nat):Int), .int .u8 ((b.toNat:Nat):Int)] e 1 false)):zCC (.slice A 0 2 4) H=some (S [a,b]):=
 Z8 (n:=2) ⟨rfl, .inr (.inr ⟨_,_,_,_,_,_,_,rfl,g,hk.lt g,by simp,rfl⟩)⟩ (by simp)
theorem cv1 {H:AH}{A:Nat}{a:UInt8}{e:Nat}(hk:H.ok)(g:H.h.get A=some (.cells [.int .u8 ((a.toNat:Nat):Int)] e 1 false)):zCC (.slice A 0 1 2) H=some (S [a]):=
 Z8 (n:=1) ⟨rfl, .inr (.inr ⟨_,_,_,_,_,_,_,rfl,g,hk.lt g,by simp,rfl⟩)⟩ (by simp)
theorem Q5 {c:Nat}(hc:c<256):(UInt8.ofNat c).toNat=c:=by rw[UInt8.toNat_ofNat'];omega
theorem zAa (D:Dyn)(n:Nat){H:AH}(hk:H.ok){c:Nat}(hc:c<256): ∃H',f97 D n [.int .i64 ((c:Nat):Int)] H=some (S (hdK c),H')∧Prs H H':=by
 obtain⟨H1,A,b1,p1,g1,m1,n1⟩:=box hk (.cells [.int .u8 ((114:Nat):Int), .int .u8 ((c:Nat):Int)] 5 1 false)
 refine⟨H1, ?_,p1⟩
 have hw:IntKind.wrap .u8 ((c:Nat):Int)=((c:Nat):Int):=by rw[wrap_u8];omega
 have bl:kZ 5 1 2 [.int .u8 ((0:Nat):Int)] [(0, .int .u8 ((114:Nat):Int)),(1, .int .u8 ((c:Nat):Int))]=some (.cells [.int .u8 ((114:Nat):Int), .int .u8 ((c:Nat):Int)] 5 1 false,fun A=> .slice A 0 2 4):=rfl
 have hcv:zCC (.slice A 0 2 4) H1=some (S (hdK c)):=cv2 p1.ok (a:=114) (b:=UInt8.ofNat c) (by rw[Q5 hc];exact g1)
 simp(maxSteps:=999999)(disch:=omega) only[f97,eZ,hw,bl,b1,hcv]
theorem zGf (D:Dyn)(n:Nat)(hn:1≤n){H:AH}(hk:H.ok){c:Nat}(hc:c<255): ∃H',f91 D n [S (hdK c)] H=some (S (hdK (c+1)),H')∧Prs H H':=by
 obtain⟨H1,A,b1,p1,g1,m1,n1⟩:=box hk (.cells [.int .u8 ((c+1:Nat):Int)] 5 1 false)
 refine⟨H1, ?_,p1⟩
 obtain⟨n',rfl⟩: ∃n',n=n'+1:=⟨n - 1,by omega⟩
 have hl:jV (S (hdK c))=some (.int .i64 ((2:Nat):Int)):=rfl
 have hs:((2:Nat):Int) - ((1:Nat):Int)=((1:Nat):Int):=by omega
 have hge:((0:Nat):Int)≤((1:Nat):Int):=by omega
 have hx:WA (S (hdK c)) (.int .i64 ((1:Nat):Int))=some (.int .u8 ((c:Nat):Int)):=by
  rw[VQ (hdK c) .i64 (show 1< (hdK c).length by simp[hdK])]
  simp only[hdK,List.getElem_cons_succ,List.getElem_cons_zero]
  rw[Q5 (by omega)]
 have hne:((c:Nat):Int)≠((255:Nat):Int):=by omega
 have hcut:uA (S (hdK c)) none (some (.int .i64 ((1:Nat):Int)))=some (S [114]):=by
  rw[zAZ _ _ (by omega) (by simp[hdK])];rfl
 have hadd:((c:Nat):Int)+((1:Nat):Int)=((c+1:Nat):Int):=by omega
 have hw:IntKind.wrap .u8 ((c+1:Nat):Int)=((c+1:Nat):Int):=by rw[wrap_u8];omega
 have bl:kZ 5 1 1 [.int .u8 ((0:Nat):Int)] [(0, .int .u8 ((c+1:Nat):Int))]=some (.cells [.int .u8 ((c+1:Nat):Int)] 5 1 false,fun A=> .slice A 0 1 2):=rfl
 have hcv:zCC (.slice A 0 1 2) H1=some (S [UInt8.ofNat (c+1)]):=cv1 p1.ok (by rw[Q5 (by omega)];exact g1)
 have had:jY .add (S [114]) (S [UInt8.ofNat (c+1)])=some (S (hdK (c+1))):=by rw[dT _ _ (by simp)];rfl
 have body:zKR D (n'+1) [S (hdK c), .int .i64 ((1:Nat):Int)] H=some (.ret (S (hdK (c+1))),H1):=by
  simp(maxSteps:=999999)(disch:=omega) only[zKR,eZ,hge,hx,hne,ne_eq,not_false_eq_true,hcut,hadd,hw,bl,b1,hcv,had]
 simp(maxSteps:=999999)(disch:=omega) only[f91,eZ,hl,hs,vV body]
theorem zIV (D:Dyn)(n:Nat)(hn:100≤n){H:AH}(hk:H.ok){c k:Nat}(hc:c<256)(hk2:k≤4000000000): ∃H',f55 D n [.int .i64 ((c:Nat):Int), .int .i64 ((k:Nat):Int)] H=some (S (uD c k),H')∧Prs H H':=by
 obtain⟨H1,e1,p1⟩:=zAa D n hk hc
 obtain⟨H2,e2,p2⟩:=QS D n hn p1.ok k 4 (by omega) (by omega)
 refine⟨H2, ?_,p1.trans p2⟩
 have hw:IntKind.wrap .u64 ((k:Nat):Int)=((k:Nat):Int):=by rw[wrap_u64];omega
 have had:jY .add (S (hdK c)) (S (dig k 4))=some (S (uD c k)):=by rw[dT _ _ (by simp[hdK,jH])];rfl
 simp(maxSteps:=999999)(disch:=omega) only[f55,eZ,e1,hw,e2,had]
theorem zBn (D:Dyn)(n:Nat){H:AH}{x:Nat}(hx:x<4294967296):f54 D n [.int .i64 ((x:Nat):Int)] H=some (.bool true,H):=by
 have h1:((0:Nat):Int)≤((x:Nat):Int):=by omega
 have h2:((x:Nat):Int)≤((4294967295:Nat):Int):=by omega
 simp(maxSteps:=999999)(disch:=omega) only[f54,eZ,h1,h2]
theorem zJE (k:IntKind)(z:Int):aveq (.int k z) (.int k z)=true:=by simp[aveq,kH,kI]
def kpV (k:Kp):List AV:=[.int .i64 ((k.x:Nat):Int), .int .u64 ((k.u:Nat):Int),S k.r, .int .i64 ((k.n:Nat):Int)]
def kp0:List AV:=[.int .i64 ((0:Nat):Int), .int .u64 ((0:Nat):Int),S [], .int .i64 ((0:Nat):Int)]
theorem zGQ (k:Kp):(uH k).take 4=dig k.x 4:=by
 rw[uH,List.append_assoc,List.take_append_of_le_length (by simp[jH]),zJ (by simp[jH])]
theorem zJK (k:Kp):((uH k).drop 4).take 8=dig k.u 8:=by
 rw[uH,List.append_assoc,List.drop_append_of_le_length (by simp[jH]),List.drop_of_length_le (by simp[jH]),List.nil_append,List.take_append_of_le_length (by simp[jH]),zJ (by simp[jH])]
theorem zGR (k:Kp):(uH k).drop 12=k.r:=by
 rw[uH,List.drop_append,List.drop_of_length_le (by simp[jH]),List.nil_append]
 simp[jH]
theorem zHD (D:Dyn)(n:Nat)(hn:100≤n){H:AH}(hk:H.ok){c:Nat}{k:Kp}(hf:k.fine): ∃H',f96 D n [.agg [S (uD c k.n),S (uH k)]] H=some (.tuple [.agg (kpV k), .bool true],H')∧Prs H H':=by
 obtain⟨f1,f2,f3,f4,f5⟩:=hf
 obtain⟨H1,A1,b1,p1,g1,m1,n1⟩:=box hk (.cells [S (uD c k.n),S (uH k)] 48 1 false)
 obtain⟨H2,A2,b2,p2,g2,m2,n2⟩:=box p1.ok (.cells kp0 118 1 false)
 obtain⟨H3,A4,b3,p3,g3,m3,n3⟩:=box p2.ok (.cells kp0 118 1 false)
 obtain⟨H4,e4,g4,s4⟩:=zIT p3.ok g3 (o:=3) (x:= .int .i64 ((k.n:Nat):Int)) rfl (by simp[kp0])
 obtain⟨H5,e5,g5,s5⟩:=zIT s4.ok g4 (o:=0) (x:= .int .i64 ((k.x:Nat):Int)) rfl (by simp[kp0])
 obtain⟨H6,e6,g6,s6⟩:=zIT s5.ok g5 (o:=1) (x:= .int .u64 ((k.u:Nat):Int)) rfl (by simp[kp0])
 obtain⟨H7,e7,g7,s7⟩:=zIT s6.ok g6 (o:=2) (x:=S k.r) rfl (by simp[kp0])
 have g7:H7.h.get A4=some (.cells (kpV k) 118 1 false):=g7
 have N1:=p1.next;have N2:=p2.next;have N3:=p3.next;have N4:=s4.next;have N5:=s5.next;have N6:=s6.next;have N7:=s7.next
 have S37:Stp (fun B=>B=A4) H3 H7:=((s4.trans s5).trans s6).trans s7
 have P7:Prs H H7:=((p1.trans p2).trans p3).fresh S37 fun B hB=>by omega
 have g27:H7.h.get A2=some (.cells kp0 118 1 false):=by rw[S37.keep _ (by omega) (by omega)];exact Prs.get p3 p2.ok g2
 obtain⟨H8,e8,g8,s8,n8⟩:=qY P7.ok g27 (l':=kpV k) rfl rfl
 have e8':stN 4 (.ptr A2 0) (.agg (kpV k)) H7=some (qN,H8):=e8
 refine⟨H8, ?_,P7.fresh s8 fun B hB=>by omega⟩
 have l1: ∀ {H':AH},H'.h.get A1=some (.cells [S (uD c k.n),S (uH k)] 48 1 false)→ld1 (.ptr A1 0) H'=some (S (uD c k.n))∧ld1 (.ptr A1 1) H'=some (S (uH k)):=fun g=>⟨by rw[qL g];rfl,by rw[qL g];rfl⟩
 have q2:=Prs.get p2 p1.ok g1
 have q3:=Prs.get p3 p2.ok q2
 have k4: ∀ {H':AH},Stp (fun B=>B=A4) H3 H'→H'.h.get A1=some (.cells [S (uD c k.n),S (uH k)] 48 1 false):=fun s=>by rw[s.keep _ (by omega) (by omega)];exact q3
 have q4:=k4 s4;have q5:=k4 (s4.trans s5);have q6:=k4 ((s4.trans s5).trans s6)
 have hS:(AV.str 0 0)=S []:=rfl
 have hkl:jV (S (uD c k.n))=some (.int .i64 ((6:Nat):Int)):=by rw[wM,Z5]
 have hvl:jV (S (uH k))=some (.int .i64 ((12+k.r.length:Nat):Int)):=by rw[wM,fL]
 have t6: ¬(((6:Nat):Int)≠((6:Nat):Int)):=by omega
 have t12: ¬((12+k.r.length:Nat):Int)< ((12:Nat):Int):=by omega
 have c1:uA (S (uD c k.n)) (some (.int .i64 ((2:Nat):Int))) none=some (S (dig k.n 4)):=by rw[zAY _ _ (by omega) (by rw[Z5];decide)];rfl
 have c2:uA (S (uH k)) none (some (.int .i64 ((4:Nat):Int)))=some (S (dig k.x 4)):=by
  rw[zAZ _ _ (by omega) (by rw[fL];simp;omega)];exact congrArg (fun z=>some (S z)) (zGQ k)
 have c3:uA (S (uH k)) (some (.int .i64 ((4:Nat):Int))) (some (.int .i64 ((12:Nat):Int)))=some (S (dig k.u 8)):=by
  rw[zCb _ _ _ (by omega) (by omega) (by rw[fL];simp)];exact congrArg (fun z=>some (S z)) (zJK k)
 have c4:uA (S (uH k)) (some (.int .i64 ((12:Nat):Int))) none=some (S k.r):=by
  rw[zAY _ _ (by omega) (by rw[fL];simp)];exact congrArg (fun z=>some (S z)) (zGR k)
 have d1: ∀H,zFy D n [S (dig k.n 4)] H=some (.int .u64 ((k.n:Nat):Int),H):=fun H=>by rw[KM D n hn _ (by rw[jH];omega),Q7 (by omega)]
 have d2: ∀H,zFy D n [S (dig k.x 4)] H=some (.int .u64 ((k.x:Nat):Int),H):=fun H=>by rw[KM D n hn _ (by rw[jH];omega),Q7 (by omega)]
 have d3: ∀H,zFy D n [S (dig k.u 8)] H=some (.int .u64 ((k.u:Nat):Int),H):=fun H=>by rw[KM D n hn _ (by rw[jH];omega),Q7 (by omega)]
 have h1:((1:Nat):Int)≤((k.n:Nat):Int):=by omega
 have h2:((k.n:Nat):Int)≤((2147483647:Nat):Int):=by omega
 have r7:ldN 4 (.ptr A4 0) H7=some (.agg (kpV k)):=kU g7 rfl
 have r73:ld1 (.ptr A4 3) H7=some (.int .i64 ((k.n:Nat):Int)):=by rw[qL g7];rfl
 have g78:H8.h.get A4=some (.cells (kpV k) 118 1 false):=by rw[s8.keep _ (P7.ok.lt g7) (by omega)];exact g7
 have r83:ld1 (.ptr A4 3) H8=some (.int .i64 ((k.n:Nat):Int)):=by rw[qL g78];rfl
 have r8:ldN 4 (.ptr A2 0) H8=some (.agg (kpV k)):=kU g8 rfl
 have hb2: ∀K,bA (some (.cells [.int .i64 ((0:Nat):Int), .int .u64 ((0:Nat):Int),S [], .int .i64 ((0:Nat):Int)] 118 1 false,fun A=> .ptr A 0)) H1 K=K (.ptr A2 0) H2:=fun K=>b2 _ K
 have hb3: ∀K,bA (some (.cells [.int .i64 ((0:Nat):Int), .int .u64 ((0:Nat):Int),S [], .int .i64 ((0:Nat):Int)] 118 1 false,fun A=> .ptr A 0)) H2 K=K (.ptr A4 0) H3:=fun K=>b3 _ K
 simp(maxSteps:=999999)(disch:=omega) only[f96,eZ,hS,b1,hb2,(l1 q2).1,(l1 q2).2,hkl,hvl,t6,t12,hb3,(l1 q3).1,c1,d1,e4,(l1 q4).2,c2,d2,e5,(l1 q5).2,c3,d3,e6,(l1 q6).2,c4,e7,r7,r73,h1,h2,e8',yZ r83 (zJE _ _),r8]
def lpW (B4 B5 B6:Nat):ALoop:=⟨.ready,none,53,0,[4,5,6],[.ptr B4 0, .ptr B5 0, .ptr B6 0]⟩
theorem zIl (m:Nat){H:AH}{A B4 B5 B6:Nat}(gA:H.h.get A=some (.loop (lpW B4 B5 B6)))(az:List AV):(dy (m+1)).yld A az H=zDU (dy m) m A (lpW B4 B5 B6) az H:=by
 show cN (tabR (dy m) m) A az H=_
 simp only[cN,gA]
 rfl
def Kps (H:AH)(v:AV)(l:List Kp):Prop:=yF 4 118 H v l.length (l.flatMap kpV)
theorem zDI (m:Nat)(hm:100≤m){H:AH}{A B4 B5 B6 c:Nat}{v:AV}{l:List Kp}{k:Kp}(hk:H.ok)(gA:H.h.get A=some (.loop (lpW B4 B5 B6)))(hb:Box H B6 v)(hv:Kps H v l)(hl:l.length≤100000000)(hf:k.fine)(v1: ¬Blk v A)(v2: ¬Blk v B6):
  ∃H' v',(dy (m+1)).yld A [.agg [S (uD c k.n),S (uH k)], .int .i64 ((0:Nat):Int)] H=some (.bool true,H')∧H'.h.get A=some (.loop (lpW B4 B5 B6))∧Box H' B6 v'∧Kps H' v' (l++[k])∧Stp (fun B=>B=A∨B=B6∨Blk v B) H H'∧(∀B,Blk v' B→Blk v B∨H.next≤B):=by
 rw[zIl m gA]
 have lA:=hk.lt gA
 have lb:=hb.lt hk
 have nA:=zAC gA hb
 obtain⟨H1,A7,b1,p1,g1,m1,n1⟩:=box hk (.cells [S [],S []] 48 1 false)
 obtain⟨H2,e2,g2,s2,n2⟩:=qY p1.ok g1 (l':=[S (uD c k.n),S (uH k)]) rfl rfl
 have e2':stN 2 (.ptr A7 0) (.agg [S (uD c k.n),S (uH k)]) H1=some (qN,H2):=e2
 have P2:Prs H H2:=p1.fresh s2 fun B hB=>by omega
 have N1:=p1.next;have N2:=s2.next
 have gA2:=Prs.get P2 hk gA
 have hbeg: ∀K:AH→Rs,xP A H2 K=K (H2.put A (.loop { lpW B4 B5 B6 with state:= .busy})):=fun K=>by
  simp only[xP,gA2,lpW,yQ]
 have s3:Stp (fun B=>B=A) H2 (H2.put A (.loop { lpW B4 B5 B6 with state:= .busy})):=(Stp.refl s2.ok).put (s2.ok.lt gA2) _ (.inr rfl)
 have g3:(H2.put A (.loop { lpW B4 B5 B6 with state:= .busy})).h.get A=some (.loop { lpW B4 B5 B6 with state:= .busy}):=by rw[AH.put_get,if_pos rfl]
 generalize H2.put A (.loop { lpW B4 B5 B6 with state:= .busy})=H3 at s3 g3 hbeg
 have N3:=s3.next
 have q3:H3.h.get A7=some (.cells [S (uD c k.n),S (uH k)] 48 1 false):=by rw[s3.keep _ (by omega) (by omega)];exact g2
 obtain⟨H4,e4,p4⟩:=zHD (dy m) m hm s3.ok (c:=c) hf
 obtain⟨H5,A9,b5,p5,g5,m5,n5⟩:=box p4.ok (.cells kp0 118 1 false)
 obtain⟨H6,e6,g6,s6,n6⟩:=qY p5.ok g5 (l':=kpV k) rfl rfl
 have e6':stN 4 (.ptr A9 0) (.agg (kpV k)) H5=some (qN,H6):=e6
 have N4:=p4.next;have N5:=p5.next;have N6:=s6.next
 have P36:Prs H3 H6:=(p4.trans p5).fresh s6 fun B hB=>by omega
 obtain⟨H7,A10,b7,p7,g7,m7,n7⟩:=box s6.ok (.cells (kpV k) 118 4 false)
 have hsrc:srcOf 4 (.slice A10 0 1 2) H7=some (1,kpV k):=by simp only[srcOf,g7];rfl
 have P37:=P36.trans p7
 have hv7:Kps H7 v l:=((yF.mono hv P2 (fun _ _ x=>x)).mono s3 fun B hB e=>v1 (e▸hB)).mono P37 (fun _ _ x=>x)
 obtain⟨v',H8,e8,gv8,s8,f8⟩:=yF.app (bytes:=40) (m:=1) p7.ok (by decide) hv7 hsrc rfl rfl (by omega) (by decide)
 have N7:=p7.next;have N8:=s8.next
 have b3:Box H3 B6 v:=(hb.mono hk P2 fun x=>x).mono P2.ok s3 (fun e=>nA e.symm)
 have b6':Box H6 B6 v:=b3.mono s3.ok P36 fun x=>x
 have b8:Box H8 B6 v:=(b6'.mono s6.ok p7 fun x=>x).mono p7.ok s8 v2
 obtain⟨H9,e9,b9,s9⟩:=b8.st s8.ok (x:=v') gv8.isCell
 have N9:=s9.next
 have g9:H9.h.get A=some (.loop { lpW B4 B5 B6 with state:= .busy}):=by rw[s9.keep _ (by omega) nA,s8.keep _ (by omega) v1,P37.keep _ (by omega) (fun x=>x)];exact g3
 have s10:Stp (fun B=>B=A) H9 (H9.put A (.loop (lpW B4 B5 B6))):=(Stp.refl s9.ok).put (s9.ok.lt g9) _ (.inr rfl)
 have hend:YE A none H9=some (.bool true,H9.put A (.loop (lpW B4 B5 B6))):=by simp only[YE,g9,yQ,lpW]
 have nb: ∀ {B:Nat},¬Blk v B→B<H.next→ ¬Blk v' B:=fun h1 h2 hB=>by
  rcases f8 _ hB with e | e
  ·exact h1 e
  ·omega
 have fl:(l++[k]).flatMap kpV=l.flatMap kpV++kpV k:=by simp[zR]
 refine⟨H9.put A (.loop (lpW B4 B5 B6)),v', ?_,by rw[AH.put_get,if_pos rfl],b9.mono s9.ok s10 (fun e=>nA e.symm), ?_,⟨s10.ok,by have:=s10.next;omega,fun B hB hS=> ?_⟩,fun B hB=> ?_⟩
 ·have hl':aR [4,5,6] (lpW B4 B5 B6).live=true:=rfl
  have hvls:(lpW B4 B5 B6).vals=[.ptr B4 0, .ptr B5 0, .ptr B6 0]:=rfl
  have hS:(AV.str 0 0)=S []:=rfl
  have hbx:bxV 48 (.agg [S [],S []])=some (.cells [S [],S []] 48 1 false,fun A=> .ptr A 0):=rfl
  have t00: ¬(((0:Nat):Int)≠((0:Nat):Int)):=by omega
  have r3:ldN 2 (.ptr A7 0) H3=some (.agg [S (uD c k.n),S (uH k)]):=by rw[qR q3];rfl
  have r6:ldN 4 (.ptr A9 0) H6=some (.agg (kpV k)):=kU g6 rfl
  have hb5: ∀K,bA (some (.cells [.int .i64 ((0:Nat):Int), .int .u64 ((0:Nat):Int),S [], .int .i64 ((0:Nat):Int)] 118 1 false,fun A=> .ptr A 0)) H4 K=K (.ptr A9 0) H5:=fun K=>b5 _ K
  have bl1:kZ 118 4 1 [.int .i64 ((0:Nat):Int), .int .u64 ((0:Nat):Int),S [], .int .i64 ((0:Nat):Int)] [(0, .agg (kpV k))]=some (.cells (kpV k) 118 4 false,fun A=> .slice A 0 1 2):=rfl
  simp(maxSteps:=999999)(disch:=omega) only[zDU,eZ,hl',hvls,cond_true,hS,hbx,b1,e2',hbeg,t00,r3,e4,qM,nth,hb5,e6',b6'.ld,r6,bl1,b7,e8,e9]
  exact hend
 ·show yF 4 _ _ v' _ _
  rw[fl,zE,qD]
  exact(gv8.mono s9 fun B hB e=>nb v2 lb (e▸hB)).mono s10 fun B hB e=>nb v1 lA (e▸hB)
 ·rw[s10.keep B (by omega) (fun e=>hS (.inl e)),s9.keep B (by omega) (fun e=>hS (.inr (.inl e))),s8.keep B (by omega) (fun e=>hS (.inr (.inr e))),P37.keep B (by omega) (fun x=>x),s3.keep B (by omega) (fun e=>hS (.inl e)),P2.keep B hB (fun x=>x)]
 ·rcases f8 B hB with e | e
  ·exact .inl e
  ·exact .inr (by omega)
theorem QX (fr to:Str)(kv:Kvs):(xO fr to kv).length≤kv.length:=List.length_filter_le _ _
theorem zCj (m:Nat)(hm:800000000≤m){H:AH}{A B4 B5 B6 Xt Xc At M L c:Nat}{kv oth:Kvs}{f:Nat→List Kp}(t:j8 H At M L kv)(hL:L≤1000000)(hkv:kv.length≤100000000)(d:Drc kv oth f)(h1:1≤c)(h2:c≤16)
  (gA:H.h.get A=some (.loop (lpW B4 B5 B6))) (hb:Box H B6 .nilSlice) (bt:Box H Xt (.ptr At 0)) (bc:Box H Xc (.int .i64 ((c:Nat):Int))):
  ∃H' v,f131 (dy (m+1)) (m+1) [.yieldTo A, .ptr Xt 0, .ptr Xc 0] H=some (.tuple [],H')∧H'.h.get A=some (.loop (lpW B4 B5 B6))∧Box H' B6 v∧Kps H' v (f c)∧Stp (fun B=>B=A∨B=B6) H H'∧(∀B,Blk v B→H.next≤B):=by
 have hk:H.ok:=by obtain⟨_,_,_,_,_,_,_,_,_,ti,_⟩:=t;exact ti.ok
 have lA:=hk.lt gA
 have lb:=hb.lt hk
 obtain⟨H1,e1,p1⟩:=zAa (dy (m+1)) (m+1) hk (c:=c) (by omega)
 obtain⟨H2,e2,p2⟩:=zAa (dy (m+1)) (m+1) p1.ok (c:=c) (by omega)
 obtain⟨H3,e3,p3⟩:=zGf (dy (m+1)) (m+1) (by omega) p2.ok (c:=c) (by omega)
 have P3:Prs H H3:=(p1.trans p2).trans p3
 have hrg:=d.range h1 h2
 have hlen:(xO (hdK c) (hdK (c+1)) kv).length≤2147483647:=by have:=QX (hdK c) (hdK (c+1)) kv;omega
 obtain⟨H4,w,e4,p4,gw,fw⟩:=zDS m (by omega) (t.prs P3) hL (by omega) (hdK c) (hdK (c+1)) (most:=2147483647) (by omega) hlen
 have hbt:xO (hdK c) (hdK (c+1)) kv=(f c).map (JK c):=hrg
 have hfl:(f c).length≤100000000:=by
  have:=QX (hdK c) (hdK (c+1)) kv
  rw[hbt,qB]at this;omega
 rw[hbt]at gw
 have hw:zJG H4 w ((f c).map (JK c)):=gw.row
 have P4:Prs H H4:=P3.trans p4
 have N3:=P3.next;have N4:=p4.next
 have gA4:=Prs.get P4 hk gA
 have lp:=jB (b:=U4 (dy (m+1)) (m+1)) (f c).length (fun i us H'=>us=[.yieldTo A,w, .int .i64 (((f c).length:Nat):Int), .int .i64 ((i:Nat):Int)]∧ ∃v,H'.h.get A=some (.loop (lpW B4 B5 B6))∧Box H' B6 v∧Kps H' v ((f c).take i)∧Stp (fun B=>B=A∨B=B6) H4 H'∧(∀B,Blk v B→H4.next≤B)) (fun i us H' hi ⟨hus,v,gA',hb',hv',st,hf⟩=>by
  subst hus
  have hil:i< ((f c).map (JK c)).length:=by simpa using hi
  have hw':zJG H' w ((f c).map (JK c)):=Rw.stp hw st (fun B hB e=>by
   have:=fw B hB
   rcases e with e | e<;>omega)
  obtain⟨A',o,i1,i2,i3,i4⟩:=hw'.at hil
  have hg:((f c).map (JK c))[i]=JK c (f c)[i]:=by simp
  rw[hg]at i2
  have N:=st.next
  obtain⟨H5,A8,b5,p5,g5,m5,n5⟩:=box st.ok (.cells [S [],S []] 48 1 false)
  obtain⟨H6,e6,g6,s6,n6⟩:=qY p5.ok g5 (l':=[S (uD c (f c)[i].n),S (uH (f c)[i])]) rfl rfl
  have e6':stN 2 (.ptr A8 0) (.agg [S (uD c (f c)[i].n),S (uH (f c)[i])]) H5=some (qN,H6):=e6
  have P6:Prs H' H6:=p5.fresh s6 fun B hB=>by omega
  have N5:=p5.next;have N6:=s6.next
  have ltv: ∀B,Blk v B→B<H'.next:=fun B hB=>yF.lt hv' hB
  obtain⟨H7,v',e7,gA7,b7,hv7,s7,f7⟩:=zDI m (by omega) (c:=c) P6.ok (Prs.get P6 st.ok gA') (hb'.mono st.ok P6 fun x=>x) (yF.mono hv' P6 fun _ _ x=>x) (by simp;omega) ((d.row c).2 _ (zQ hi)) (fun hB=>by have:=hf _ hB;omega) (fun hB=>by have:=hf _ hB;omega)
  have N7:=s7.next
  refine⟨_,H7, ?_,rfl,v',gA7,b7,by rw[zI hi];exact hv7,Stp.thru st (P6.stp.trans s7) fun B hB=> ?_,fun B hB=> ?_⟩
  ·have hiI:((i:Nat):Int)< (((f c).length:Nat):Int):=by omega
   have hi1:((i:Nat):Int)+((1:Nat):Int)=((i+1:Nat):Int):=by omega
   have hS:(AV.str 0 0)=S []:=rfl
   have hbx:bxV 48 (.agg [S [],S []])=some (.cells [S [],S []] 48 1 false,fun A=> .ptr A 0):=rfl
   have i2':ldN 2 (.ptr A' o) H'=some (.agg [S (uD c (f c)[i].n),S (uH (f c)[i])]):=i2
   have r6:ldN 2 (.ptr A8 0) H6=some (.agg [S (uD c (f c)[i].n),S (uH (f c)[i])]):=by rw[qR g6];rfl
   have hcall:callV (s131 (dy (m+1)) (m+1)).S (dy (m+1)) (.yieldTo A) [.agg [S (uD c (f c)[i].n),S (uH (f c)[i])], .int .i64 ((0:Nat):Int)] H6=some (.bool true,H7):=e7
   simp(maxSteps:=999999)(disch:=omega) only[U4,eZ,hiI,i1,i2',hS,hbx,b5,e6',r6,hcall,hi1]
  ·rcases hB with e | e | e
   ·exact .inr (.inl e)
   ·exact .inr (.inr e)
   ·exact .inl (hf B e)
  ·rcases f7 B hB with e | e
   ·exact hf B e
   ·omega) (m+1) _ H4 ⟨rfl, .nilSlice,gA4,hb.mono hk P4 fun x=>x, .inl (Own.nil ..),Stp.refl p4.ok,fun B hB=>(Blk.nil.1 hB).elim⟩ (by omega)
 obtain⟨r,us,H5,e5,rfl,v,gA5,b5,hv5,st5,f5⟩:=lp
 rw[zZ]at hv5
 refine⟨H5,v, ?_,gA5,b5,hv5,(Prs.stp P4).trans st5,fun B hB=>by have:=f5 B hB;omega⟩
 have last:qV (r+1) (U4 (dy (m+1)) (m+1)) [.yieldTo A,w, .int .i64 (((f c).length:Nat):Int), .int .i64 (((f c).length:Nat):Int)] H5=some (.exit 0 [],H5):=qZ (by simp only[U4,eZ,zX])
 have u: ∀ {H':AH} {X:Nat} {x:AV},Prs H H'→Box H X x→ld1 (.ptr X 0) H'=some x:=fun P hb=>(hb.mono hk P fun x=>x).ld
 have cp: ∀(K:Rs),chk (some (.ptr At 0)) (.ptr At 0) K=K:=fun K=>yZ rfl (by simp[aveq])
 have ci: ∀(K:Rs),chk (some (.int .i64 ((c:Nat):Int))) (.int .i64 ((c:Nat):Int)) K=K:=fun K=>yZ rfl (zJE _ _)
 have t00: ¬(((0:Nat):Int)≠((0:Nat):Int)):=by omega
 have hln:lnSl w=some (.int .i64 (((f c).length:Nat):Int)):=by rw[hw.lnSl,qB]
 simp(maxSteps:=999999)(disch:=omega) only[f131,eZ,bt.ld,bc.ld,e1,u p1 bt,u p1 bc,cp,ci,e2,u (p1.trans p2) bt,e3,u P3 bt,e4,qM,nth,t00,hln,e5,last,zJn]
set_option maxRecDepth 100000 in
theorem BZ (m n:Nat)(hm:800000000≤m){H:AH}{At M L c:Nat}{kv oth:Kvs}{f:Nat→List Kp}(t:j8 H At M L kv)(hL:L≤1000000)(hkv:kv.length≤100000000)(d:Drc kv oth f)(h1:1≤c)(h2:c≤16):
  ∃H' v,f53 (dy (m+2)) n [.ptr At 0, .int .i64 ((c:Nat):Int)] H=some (.tuple [v, .int .i64 ((0:Nat):Int)],H')∧Prs H H'∧Kps H' v (f c)∧(∀B,Blk v B→H.next≤B):=by
 have hk:H.ok:=by obtain⟨_,_,_,_,_,_,_,_,_,ti,_⟩:=t;exact ti.ok
 obtain⟨H1,B4,b1,p1,g1,m1,n1⟩:=box hk (.cells [.nilSlice] 113 1 false)
 obtain⟨H2,B5,b2,p2,g2,m2,n2⟩:=box p1.ok (.cells [.int .i64 ((0:Nat):Int)] 26 1 false)
 obtain⟨H3,B6,b3,p3,g3,m3,n3⟩:=box p2.ok (.cells [.nilSlice] 113 1 false)
 obtain⟨H4,Xt,b4,p4,g4,m4,n4⟩:=box p3.ok (.cells [.ptr At 0] 22 1 false)
 obtain⟨H5,Xc,b5,p5,g5,m5,n5⟩:=box p4.ok (.cells [.int .i64 ((c:Nat):Int)] 3 1 false)
 have N1:=p1.next;have N2:=p2.next;have N3:=p3.next;have N4:=p4.next;have N5:=p5.next
 have p6:Prs H5 (H5.push (.loop (lpW B4 B5 B6))):=(Stp.refl p5.ok).push _
 have g6:(H5.push (.loop (lpW B4 B5 B6))).h.get H5.next=some (.loop (lpW B4 B5 B6)):=AH.push_get_eq _ _
 have hnew: ∀K:Nat→AH→Rs,KQ H5 (.loop ⟨.ready,none,53,0,[4,5,6],[.ptr B4 0, .ptr B5 0, .ptr B6 0]⟩) K=K H5.next (H5.push (.loop (lpW B4 B5 B6))):=fun K=>fZ p5.ok _ K
 have hnx:(H5.push (.loop (lpW B4 B5 B6))).next=H5.next+1:=rfl
 generalize H5.push (.loop (lpW B4 B5 B6))=H6 at p6 g6 hnew hnx
 obtain⟨A,hA⟩: ∃A,A=H5.next:=⟨_,rfl⟩
 rw[← hA]at g6 hnew
 have P6:Prs H H6:=((((p1.trans p2).trans p3).trans p4).trans p5).trans p6
 have P26:Prs H2 H6:=((p3.trans p4).trans p5).trans p6
 obtain⟨H7,v,e7,gA7,b7,hv7,s7,f7⟩:=zCj m hm (t.prs P6) hL hkv d h1 h2 g6 ⟨_,Prs.get ((p4.trans p5).trans p6) p3.ok g3⟩ ⟨_,Prs.get (p5.trans p6) p4.ok g4⟩ ⟨_,Prs.get p6 p5.ok g5⟩
 have N6:=p6.next;have N7:=s7.next
 have s8:Stp (fun B=>B=A) H7 (H7.put A .dead):=(Stp.refl s7.ok).put (s7.ok.lt gA7) _ (.inr rfl)
 have hend: ∀K:Option Code→AH→Rs,bW A H7 K=K none (H7.put A .dead):=fun K=>by simp only[bW,gA7,lpW,yQ]
 generalize H7.put A .dead=H8 at s8 hend
 have N8:=s8.next
 have nA:A≠B6:=zAC gA7 b7
 have k8: ∀ {B:Nat} {x:AV},Box H2 B x→B<H2.next→Box H8 B x:=fun hb hl=>((hb.mono p2.ok P26 fun x=>x).mono P26.ok s7 (fun e=>by rcases e with e | e<;>omega)).mono s7.ok s8 (fun e=>by omega)
 have b48:Box H8 B4 .nilSlice:=k8 ⟨_,Prs.get p2 p1.ok g1⟩ (by omega)
 have b58:Box H8 B5 (.int .i64 ((0:Nat):Int)):=k8 ⟨_,g2⟩ (by omega)
 have b68:Box H8 B6 v:=b7.mono s7.ok s8 (fun e=>nA e.symm)
 obtain⟨H9,e9,b9,s9⟩:=b48.st s8.ok (x:=v) hv7.isCell
 have b59:=b58.mono s8.ok s9 (fun e=>by omega)
 obtain⟨H10,e10,b10,s10⟩:=b59.st s9.ok (x:= .int .i64 ((0:Nat):Int)) rfl
 have b410:=b9.mono s9.ok s10 (fun e=>by omega)
 have N9:=s9.next
 refine⟨H10,v, ?_, ?_, ?_,fun B hB=>by have:=f7 B hB;omega⟩
 ·have hrf:rfC (s53 (dy (m+2)) n).S (dy (m+2)) (.func 131 [] [.ptr Xt 0, .ptr Xc 0]) A H6=some (.tuple [],H7):=e7
  have x1:qU (.ptr At 0)=[.ptr At 0]:=rfl
  have x4:qU (.int .i64 ((c:Nat):Int))=[.int .i64 ((c:Nat):Int)]:=rfl
  have x5:qU .nilSlice=[.nilSlice]:=rfl
  have x6:qU (.int .i64 ((0:Nat):Int))=[.int .i64 ((0:Nat):Int)]:=rfl
  have hf:f95 (dy (m+2)) n [.ptr At 0, .int .i64 ((c:Nat):Int)] H3=some (.func 131 [] [.ptr Xt 0, .ptr Xc 0],H5):=by
   simp only[f95,eZ,x1,x4,b4,b5]
  have t1: ¬((c:Nat):Int)< ((1:Nat):Int):=by omega
  have t2: ¬((16:Nat):Int)< ((c:Nat):Int):=by omega
  simp(maxSteps:=999999)(disch:=omega) only[f53,eZ,cq,x5,b1,x6,b2,t1,t2,b3,hf,hnew,hrf,hend,zEx,b68.ld,e9,e10,b410.ld,b10.ld]
 ·refine⟨s10.ok,by have:=s10.next;omega,fun B hB _=> ?_⟩
  rw[s10.keep B (by omega) (by omega),s9.keep B (by omega) (by omega),s8.keep B (by omega) (by omega),s7.keep B (by omega) (fun e=>by rcases e with e | e<;>omega),P6.keep B hB fun x=>x]
 ·have q8:=yF.mono hv7 s8 fun B hB e=>by have:=f7 B hB;omega
  have q9:=yF.mono q8 s9 fun B hB e=>by have:=f7 B hB;omega
  exact yF.mono q9 s10 fun B hB e=>by have:=f7 B hB;omega
theorem zBu: ∀(l:List Kp) (i:Nat) (h:i<l.length),((l.flatMap kpV).drop (i*4)).take 4=kpV l[i]
 | p::l,0,_=>rfl
 | p::l,i+1,h=>by
  rw[zN,show(i+1)*4=4+i*4 by omega, ← List.drop_drop]
  exact zBu l i (by simpa using h)
theorem JD: ∀(l:List Kp) (i:Nat),(l.flatMap kpV).take (i*4)=(l.take i).flatMap kpV
 | [],i=>by simp
 | p::l,0=>by simp
 | p::l,i+1=>by
  rw[zN,show(i+1)*4=i*4+4 by omega,List.take_succ_cons,zN, ← JD l i]
  rfl
def KpR (H:AH)(v:AV)(l:List Kp):Prop:=Rw 4 H v l.length (l.flatMap kpV)
theorem KpR.at {H:AH}{v:AV}{l:List Kp}(h:KpR H v l){i:Nat}(hi:i<l.length): ∃A o,(∀κ (z:Int),z=(i:Int)→yW 4 v (.int κ z)=some (.ptr A o))∧Eng.ldN 4 (.ptr A o) H=some (.agg (kpV l[i]))∧Eng.ld1 (.ptr A (o+3)) H=some (.int .i64 ((l[i].n:Nat):Int)):=by
 obtain⟨A,o,c,e,sz,g,h1,h2,h3,h4,h5⟩:=Rw.at h hi
 rw[zBu l i hi]at h5
 have g3:c[o+3]? =some (.int .i64 ((l[i].n:Nat):Int)):=by
  have:=congrArg (fun x=>x[3]?) h5
  simpa[kpV]using this
 exact⟨A,o,h1,by rw[zA9 h2 h4,h5],wN h2 g3⟩
def kv3 (k:Kp):List AV:=[.int .i64 ((k.x:Nat):Int), .int .u64 ((k.u:Nat):Int),S k.r]
def Kws (H:AH)(v:AV)(l:List Kp):Prop:=yF 3 35 H v l.length (l.flatMap kv3)
theorem zCU (m n:Nat)(hm:800000000≤m)(hn:100000001≤n){H:AH}{At M L c:Nat}{kv oth:Kvs}{f:Nat→List Kp}(t:j8 H At M L kv)(hL:L≤1000000)(hkv:kv.length≤100000000)(d:Drc kv oth f)(h1:1≤c)(h2:c≤16)(hfl:(f c).length≤100000000):
  ∃H' v,f16 (dy (m+2)) n [.ptr At 0, .int .i64 ((c:Nat):Int)] H=some (.tuple [v, .int .i64 ((0:Nat):Int)],H')∧Prs H H'∧Kws H' v (f c)∧(∀B,Blk v B→H.next≤B):=by
 obtain⟨H1,v,e1,p1,gv,fv⟩:=BZ m n hm t hL hkv d h1 h2
 have hv:KpR H1 v (f c):=gv.row
 have N1:=p1.next
 have lp:=jB (b:=zFh (dy (m+2)) n) (f c).length (fun i us H'=> ∃w,us=[.int .i64 ((0:Nat):Int),w,v, .int .i64 (((f c).length:Nat):Int), .int .i64 ((i:Nat):Int)]∧Prs H1 H'∧Kws H' w ((f c).take i)∧(∀B,Blk w B→H1.next≤B)) (fun i us H' hi ⟨w,hus,P,hw,fw⟩=>by
  subst hus
  have hv':KpR H' v (f c):=Rw.stp hv P fun _ _ x=>x
  obtain⟨A,o,i1,i2,i3⟩:=hv'.at hi
  have N:=P.next
  obtain⟨H2,A10,b2,p2,g2,m2,n2⟩:=box P.ok (.cells kp0 118 1 false)
  obtain⟨H3,e3,g3,s3,n3⟩:=qY p2.ok g2 (l':=kpV (f c)[i]) rfl rfl
  have e3':stN 4 (.ptr A10 0) (.agg (kpV (f c)[i])) H2=some (qN,H3):=e3
  have N2:=p2.next;have N3:=s3.next
  have P3:Prs H' H3:=p2.fresh s3 fun B hB=>by omega
  obtain⟨H4,A11,b4,p4,g4,m4,n4⟩:=box P3.ok (.cells (kv3 (f c)[i]) 35 3 false)
  have hsrc:srcOf 3 (.slice A11 0 1 2) H4=some (1,kv3 (f c)[i]):=by simp only[srcOf,g4];rfl
  obtain⟨w',H5,e5,gw5,s5,f5⟩:=yF.app (bytes:=32) (m:=1) p4.ok (by decide) (yF.mono hw (P3.trans p4) fun _ _ x=>x) hsrc rfl rfl (by simp;omega) (by decide)
  have N4:=p4.next
  have P5:Prs H1 H5:=(P.trans (P3.trans p4)).fresh s5 fw
  have fl:((f c).take (i+1)).flatMap kv3=((f c).take i).flatMap kv3++kv3 (f c)[i]:=by rw[zI hi,zR];simp
  refine⟨_,H5, ?_,w',rfl,P5, ?_,fun B hB=> ?_⟩
  ·have hiI:((i:Nat):Int)< (((f c).length:Nat):Int):=by omega
   have hi1:((i:Nat):Int)+((1:Nat):Int)=((i+1:Nat):Int):=by omega
   have hS:(AV.str 0 0)=S []:=rfl
   have hb2: ∀K,bA (some (.cells [.int .i64 ((0:Nat):Int), .int .u64 ((0:Nat):Int),S [], .int .i64 ((0:Nat):Int)] 118 1 false,fun A=> .ptr A 0)) H' K=K (.ptr A10 0) H2:=fun K=>b2 _ K
   have r3:ldN 3 (.ptr A10 0) H3=some (.agg (kv3 (f c)[i])):=by rw[qR g3];rfl
   have bl1:kZ 35 3 1 [.int .i64 ((0:Nat):Int), .int .u64 ((0:Nat):Int),S []] [(0, .agg (kv3 (f c)[i]))]=some (.cells (kv3 (f c)[i]) 35 3 false,fun A=> .slice A 0 1 2):=rfl
   simp(maxSteps:=999999)(disch:=omega) only[zFh,eZ,hiI,i1,i2,hS,hb2,e3',r3,bl1,b4,e5,hi1]
  ·show yF 3 _ _ w' _ _
   rw[fl]
   have e:((f c).take (i+1)).length=((f c).take i).length+1:=by simp;omega
   rw[e];exact gw5
  ·rcases f5 B hB with e | e
   ·exact fw B e
   ·omega) n _ H1 ⟨.nilSlice,rfl,Stp.refl p1.ok, .inl (Own.nil ..),fun B hB=>(Blk.nil.1 hB).elim⟩ (by omega)
 obtain⟨q,us,H2,e2,w,rfl,P2,hw,fw⟩:=lp
 rw[zZ]at hw
 refine⟨H2,w, ?_,p1.trans P2,hw,fun B hB=>by have:=fw B hB;omega⟩
 have last:qV (q+1) (zFh (dy (m+2)) n) [.int .i64 ((0:Nat):Int),w,v, .int .i64 (((f c).length:Nat):Int), .int .i64 (((f c).length:Nat):Int)] H2=some (.exit 0 [.int .i64 ((0:Nat):Int),w],H2):=qZ (by simp only[zFh,eZ,zX])
 simp(maxSteps:=999999)(disch:=omega) only[f16,eZ,e1,qM,nth,hv.lnSl,e2,last,zNc]
def YC (x u:Nat)(k:Kp):Bool:=decide (k.x=x)&&decide (k.u=u)
theorem zHV (m:Nat){H:AH}(hk:H.ok){Xx Xu x u:Nat}{k:Kp}(bx:Box H Xx (.int .i64 ((x:Nat):Int)))(bu:Box H Xu (.int .u64 ((u:Nat):Int))):
  ∃H',f58 (dy m) m [.agg (kpV k), .ptr Xx 0, .ptr Xu 0] H=some (.bool (YC x u k),H')∧Prs H H':=by
 obtain⟨H1,A3,b1,p1,g1,m1,n1⟩:=box hk (.cells (kpV k) 118 1 false)
 refine⟨H1, ?_,p1⟩
 have hbx:bxV 118 (.agg (kpV k))=some (.cells (kpV k) 118 1 false,fun A=> .ptr A 0):=rfl
 have r0:ld1 (.ptr A3 0) H1=some (.int .i64 ((k.x:Nat):Int)):=by rw[qL g1];rfl
 have r1:ld1 (.ptr A3 1) H1=some (.int .u64 ((k.u:Nat):Int)):=by rw[qL g1];rfl
 have bx1:=(bx.mono hk p1 fun x=>x).ld
 have bu1:=(bu.mono hk p1 fun x=>x).ld
 by_cases hx:k.x=x
 ·have hxI:((k.x:Nat):Int)=((x:Nat):Int):=by omega
  by_cases hu:k.u=u
  ·have huI:((k.u:Nat):Int)=((u:Nat):Int):=by omega
   have:YC x u k=true:=by simp[YC,hx,hu]
   rw[this]
   simp(maxSteps:=999999)(disch:=omega) only[f58,eZ,hbx,b1,r0,bx1,hxI,r1,bu1,huI]
  ·have huI: ¬((k.u:Nat):Int)=((u:Nat):Int):=by omega
   have:YC x u k=false:=by simp[YC,hu]
   rw[this]
   simp(maxSteps:=999999)(disch:=omega) only[f58,eZ,hbx,b1,r0,bx1,hxI,r1,bu1,huI]
 ·have hxI: ¬((k.x:Nat):Int)=((x:Nat):Int):=by omega
  have:YC x u k=false:=by simp[YC,hx]
  rw[this]
  simp(maxSteps:=999999)(disch:=omega) only[f58,eZ,hbx,b1,r0,bx1,hxI]
theorem UX (m n:Nat)(a b:Nat)(x:AV)(H:AH):callV (s57 (dy (m+1)) n).S (dy (m+1)) (.func 58 [] [.ptr a 0, .ptr b 0]) [x] H=f58 (dy m) m [x, .ptr a 0, .ptr b 0] H:=rfl
def JF (o:Option Kp):List AV:=match o with
 | some k=>kpV k
 | none=>kp0
theorem JE (m n:Nat){H0:AH}{v:AV}{l:List Kp}{Xx Xu x u A4:Nat}(hA:H0.next≤A4)(hv0:KpR H0 v l)(bx0:Box H0 Xx (.int .i64 ((x:Nat):Int)))(bu0:Box H0 Xu (.int .u64 ((u:Nat):Int)))(hl:l.length≤100000000)(hk0:H0.ok):
  ∀(rr i kf:Nat) {H:AH},i+rr=l.length→rr<kf→Prs H0 H→H.h.get A4=some (.cells kp0 118 1 false)→
   ∃H',jb 0 (qV kf (zAk (dy (m+1)) n) [.func 58 [] [.ptr Xx 0, .ptr Xu 0], .ptr A4 0,v, .int .i64 ((l.length:Nat):Int), .int .i64 ((i:Nat):Int)] H) (zKU (dy (m+1)) n)=some (.ret (.tuple [.agg (JF ((l.drop i).find? (YC x u))), .bool ((l.drop i).find? (YC x u)).isSome]),H')∧Prs H0 H'
 | _,_,0,_,_,hk,_,_=>by omega
 | 0,i,kf+1,H,he,_,P,g=>by
  have hge: ¬((i:Nat):Int)< ((l.length:Nat):Int):=by omega
  obtain⟨H2,e2,g2,s2,n2⟩:=qY P.ok g (l':=kp0) rfl rfl
  have e2':stN 4 (.ptr A4 0) (.agg kp0) H=some (qN,H2):=e2
  have hnil:l.drop i=[]:=zP (by omega)
  rw[hnil]
  refine⟨H2, ?_,P.fresh s2 fun B hB=>by omega⟩
  rw[qZ (i:=0) (vs':=[.ptr A4 0]) (H':=H) (by simp(maxSteps:=999999)(disch:=omega) only[zAk,eZ,hge])]
  have bs:jE [(0,3),(3,1)] [.int .i64 ((0:Nat):Int), .int .u64 ((0:Nat):Int), .str 0 0, .int .i64 ((0:Nat):Int)] []=some (.agg kp0):=rfl
  have r2:ldN 4 (.ptr A4 0) H2=some (.agg kp0):=kU g2 rfl
  simp(maxSteps:=999999)(disch:=omega) only[jb,Nat.beq_refl,cond_true,zKU,eZ,bs,e2',r2,List.find?_nil,JF,Option.isSome_none]
 | rr+1,i,kf+1,H,he,hkf,P,g=>by
  have hi:i<l.length:=by omega
  have hv:KpR H v l:=Rw.stp hv0 P fun _ _ x=>x
  obtain⟨A,o,i1,i2,i3⟩:=hv.at hi
  obtain⟨H2,A7,b2,p2,g2,m2,n2⟩:=box P.ok (.cells kp0 118 1 false)
  obtain⟨H3,e3,g3,s3,n3⟩:=qY p2.ok g2 (l':=kpV l[i]) rfl rfl
  have e3':stN 4 (.ptr A7 0) (.agg (kpV l[i])) H2=some (qN,H3):=e3
  have N:=P.next;have N2:=p2.next;have N3:=s3.next
  have lA4:=P.ok.lt g
  have P3:Prs H0 H3:=(P.trans p2).fresh s3 fun B hB=>by omega
  have up: ∀ {X:Nat} {x:AV},Box H0 X x→Box H3 X x:=fun hb=>hb.mono hk0 P3 fun x=>x
  obtain⟨H4,e4,p4⟩:=zHV m P3.ok (k:=l[i]) (up bx0) (up bu0)
  have N4:=p4.next
  have g34:H3.h.get A4=some (.cells kp0 118 1 false):=by rw[s3.keep _ (by omega) (by omega),p2.keep _ lA4 (fun x=>x)];exact g
  have g44:=Prs.get p4 s3.ok g34
  have g47:=Prs.get p4 s3.ok g3
  have P4:=P3.trans p4
  have hL:l.drop i=l[i]::l.drop (i+1):=zM hi
  have hiI:((i:Nat):Int)< ((l.length:Nat):Int):=by omega
  have hi1:((i:Nat):Int)+((1:Nat):Int)=((i+1:Nat):Int):=by omega
  have hS:(AV.str 0 0)=S []:=rfl
  have hb2: ∀K,bA (some (.cells [.int .i64 ((0:Nat):Int), .int .u64 ((0:Nat):Int),S [], .int .i64 ((0:Nat):Int)] 118 1 false,fun A=> .ptr A 0)) H K=K (.ptr A7 0) H2:=fun K=>b2 _ K
  have r3:ldN 4 (.ptr A7 0) H3=some (.agg (kpV l[i])):=kU g3 rfl
  have r4:ldN 4 (.ptr A7 0) H4=some (.agg (kpV l[i])):=kU g47 rfl
  rw[hL]
  cases hf:YC x u l[i]with
  | true=>
   rw[hf]at e4
   obtain⟨H5,e5,g5,s5,n5⟩:=qY P4.ok g44 (l':=kpV l[i]) rfl rfl
   have e5':stN 4 (.ptr A4 0) (.agg (kpV l[i])) H4=some (qN,H5):=e5
   have r5:ldN 4 (.ptr A4 0) H5=some (.agg (kpV l[i])):=kU g5 rfl
   refine⟨H5, ?_,P4.fresh s5 fun B hB=>by omega⟩
   have body:zAk (dy (m+1)) n [.func 58 [] [.ptr Xx 0, .ptr Xu 0], .ptr A4 0,v, .int .i64 ((l.length:Nat):Int), .int .i64 ((i:Nat):Int)] H=some (.ret (.tuple [.agg (kpV l[i]), .bool true]),H5):=by
    simp(maxSteps:=999999)(disch:=omega) only[zAk,eZ,hiI,i1,i2,hS,hb2,e3',r3,UX,e4,r4,e5',r5]
   rw[vV body]
   simp only[jb,List.find?_cons_of_pos hf,JF,qK]
  | false=>
   rw[hf]at e4
   have body:zAk (dy (m+1)) n [.func 58 [] [.ptr Xx 0, .ptr Xu 0], .ptr A4 0,v, .int .i64 ((l.length:Nat):Int), .int .i64 ((i:Nat):Int)] H=some (.norm [.func 58 [] [.ptr Xx 0, .ptr Xu 0], .ptr A4 0,v, .int .i64 ((l.length:Nat):Int), .int .i64 ((i+1:Nat):Int)],H4):=by
    simp(maxSteps:=999999)(disch:=omega) only[zAk,eZ,hiI,i1,i2,hS,hb2,e3',r3,UX,e4,hi1]
   obtain⟨H5,e5,p5⟩:=JE m n hA hv0 bx0 bu0 hl hk0 rr (i+1) kf (by omega) (by omega) P4 g44
   refine⟨H5, ?_,p5⟩
   rw[xK body,e5,List.find?_cons_of_neg (by simp[hf])]
def zCp (o:Option Kp):List AV:=match o with
 | some k=>[S k.r, .int .i64 ((0:Nat):Int)]
 | none=>[S [], .int .i64 ((5:Nat):Int)]
theorem zEp (m n:Nat)(hm:800000000≤m)(hn:100000001≤n){H:AH}{At M L c x u:Nat}{kv oth:Kvs}{f:Nat→List Kp}(t:j8 H At M L kv)(hL:L≤1000000)(hkv:kv.length≤100000000)(d:Drc kv oth f)(h1:1≤c)(h2:c≤16)(hfl:(f c).length≤100000000)(hx:x<4294967296):
  ∃H',f17 (dy (m+2)) n [.ptr At 0, .int .i64 ((c:Nat):Int), .int .i64 ((x:Nat):Int), .int .u64 ((u:Nat):Int)] H=some (.tuple (zCp ((f c).find? (YC x u))),H')∧Prs H H':=by
 have hk:H.ok:=by obtain⟨_,_,_,_,_,_,_,_,_,ti,_⟩:=t;exact ti.ok
 obtain⟨H1,X6,b1,p1,g1,m1,n1⟩:=box hk (.cells [.int .i64 ((x:Nat):Int)] 3 1 false)
 obtain⟨H2,X7,b2,p2,g2,m2,n2⟩:=box p1.ok (.cells [.int .u64 ((u:Nat):Int)] 28 1 false)
 have P2:=p1.trans p2
 obtain⟨H3,v,e3,p3,gv,fv⟩:=BZ m n hm (t.prs P2) hL hkv d h1 h2
 have bx3:Box H3 X6 (.int .i64 ((x:Nat):Int)):=⟨_,Prs.get (p2.trans p3) p1.ok g1⟩
 have bu3:Box H3 X7 (.int .u64 ((u:Nat):Int)):=⟨_,Prs.get p3 p2.ok g2⟩
 have P3:=P2.trans p3
 obtain⟨H4,A4,b4,p4,g4,m4,n4⟩:=box p3.ok (.cells kp0 118 1 false)
 have hv:KpR H3 v (f c):=gv.row
 obtain⟨H5,e5,p5⟩:=JE (m+1) n (by omega) hv bx3 bu3 hfl p3.ok (f c).length 0 n (by omega) (by omega) p4 g4
 rw[List.drop_zero]at e5
 have N1:=p1.next;have N2:=p2.next;have N3:=p3.next;have N4:=p4.next;have N5:=p5.next
 have hS:(AV.str 0 0)=S []:=rfl
 have hb4: ∀K,bA (some (.cells [.int .i64 ((0:Nat):Int), .int .u64 ((0:Nat):Int),S [], .int .i64 ((0:Nat):Int)] 118 1 false,fun A=> .ptr A 0)) H3 K=K (.ptr A4 0) H4:=fun K=>b4 _ K
 have hfirst:f57 (dy (m+2)) n [v, .func 58 [] [.ptr X6 0, .ptr X7 0]] H3=some (.tuple [.agg (JF ((f c).find? (YC x u))), .bool ((f c).find? (YC x u)).isSome],H5):=by
  simp(maxSteps:=999999)(disch:=omega) only[f57,eZ,hS,hb4,hv.lnSl,e5]
 obtain⟨H6,A12,b6,p6,g6,m6,n6⟩:=box p5.ok (.cells kp0 118 1 false)
 have hb6: ∀K,bA (some (.cells [.int .i64 ((0:Nat):Int), .int .u64 ((0:Nat):Int),S [], .int .i64 ((0:Nat):Int)] 118 1 false,fun A=> .ptr A 0)) H5 K=K (.ptr A12 0) H6:=fun K=>b6 _ K
 have x1: ∀k z,qU (.int k z)=[.int k z]:=fun _ _=>rfl
 have P5:=P3.trans p5
 have iX: ∀H,f54 (dy (m+2)) n [.int .i64 ((x:Nat):Int)] H=some (.bool true,H):=fun H=>zBn _ _ hx
 have t00: ¬(((0:Nat):Int)≠((0:Nat):Int)):=by omega
 cases ho:(f c).find? (YC x u)with
 | none=>
  rw[ho]at hfirst
  obtain⟨H7,e7,g7,s7,n7⟩:=qY p6.ok g6 (l':=kp0) rfl rfl
  have e7':stN 4 (.ptr A12 0) (.agg kp0) H6=some (qN,H7):=e7
  refine⟨H7, ?_,(P5.trans p6).fresh s7 fun B hB=>by omega⟩
  simp only[JF,Option.isSome_none]at hfirst
  simp(maxSteps:=999999)(disch:=omega) only[f17,eZ,x1,b1,b2,e3,qM,nth,t00,bx3.ld,iX,hfirst,hS,hb6,e7',zCp]
 | some k=>
  rw[ho]at hfirst
  obtain⟨H7,e7,g7,s7,n7⟩:=qY p6.ok g6 (l':=kpV k) rfl rfl
  have e7':stN 4 (.ptr A12 0) (.agg (kpV k)) H6=some (qN,H7):=e7
  refine⟨H7, ?_,(P5.trans p6).fresh s7 fun B hB=>by omega⟩
  simp only[JF,qK]at hfirst
  have r7:ld1 (.ptr A12 2) H7=some (S k.r):=by rw[qL g7];rfl
  simp(maxSteps:=999999)(disch:=omega) only[f17,eZ,x1,b1,b2,e3,qM,nth,t00,bx3.ld,iX,hfirst,hS,hb6,e7',r7,zCp]
end Go.Eng.Sh
end
section
namespace Go.Dr
open Go.Nd (Str Kvs putP delP lookP Srt mayK)
theorem inj_n {l:List Kp}(hp:l.Pairwise fun a b=>a.n<b.n){j k:Kp}(hj:j∈l)(hk:k∈l)(e:j.n=k.n):j=k:=by
 obtain⟨a,ha,rfl⟩:=qE hj
 obtain⟨b,hb,rfl⟩:=qE hk
 rw[List.pairwise_iff_getElem]at hp
 rcases Nat.lt_trichotomy a b with h | h | h
 ·have:=hp a b ha hb h;omega
 ·subst h;rfl
 ·have:=hp b a hb ha h;omega
theorem zHO {l:List Kp}{x:Nat} : ∀k∈uW x l,k∈l:=by
 intro k hk
 rcases List.mem_append.1 hk with h | h
 ·exact(List.mem_filter.1 h).1
 ·exact(List.mem_filter.1 (List.mem_of_mem_take h)).1
theorem WD {l:List Kp}(hp:l.Pairwise fun a b=>a.n<b.n)(x:Nat):(uW x l).Pairwise fun a b=>a.n≠b.n:=by
 rw[uW,List.pairwise_append]
 refine⟨(hp.sublist List.filter_sublist).imp fun h=>Nat.ne_of_lt h,((hp.sublist List.filter_sublist).sublist (List.take_sublist _ _)).imp fun h=>Nat.ne_of_lt h,fun a ha b hb e=> ?_⟩
 have h1:=List.mem_filter.1 ha
 have h2:=List.mem_filter.1 (List.mem_of_mem_take hb)
 have:=inj_n hp h1.1 h2.1 e
 subst this
 simp at h1 h2
 exact h2.2 h1.2
theorem zHP {l:List Kp}{x:Nat} :(uW x l).length≤l.length:=by
 have h1:(uW x l).length≤(l.filter fun k=>k.x=x).length+(l.filter fun k=>k.x≠x).length:=by
  simp only[uW,zE,zH,xU]
  omega
 have h2: ∀l:List Kp,(l.filter fun k=>k.x=x).length+(l.filter fun k=>k.x≠x).length=l.length:=by
  intro l
  induction l with
  | nil=>rfl
  | cons k l ih=>
   by_cases hk:k.x=x
   ·simp only[List.filter_cons,hk,decide_true,if_true,ne_eq,not_true_eq_false,decide_false,Bool.false_eq_true,if_false,zG]
    simp only[ne_eq]at ih
    omega
   ·simp only[List.filter_cons,hk,decide_false,Bool.false_eq_true,if_false,ne_eq,not_false_eq_true,decide_true,if_true,zG]
    simp only[ne_eq]at ih
    omega
 rw[h2]at h1;exact h1
def BP (f:Nat→List Kp)(c:Nat)(g:List Kp)(d:Nat):List Kp:=if d=c then(f c).filter (fun j=>decide (j.n∉g.map Kp.n))else f d
theorem zHW (f:Nat→List Kp)(c:Nat):BP f c []=f:=by
 funext d
 unfold BP
 split
 ·rename_i e;subst e
  refine List.filter_eq_self.2 fun j _=>by simp
 ·rfl
theorem zET (f:Nat→List Kp)(c:Nat)(g:List Kp)(k:Kp):(fun d=>if d=c then(BP f c g c).filter (fun j=>j.n≠k.n)else BP f c g d)=BP f c (g++[k]):=by
 funext d
 by_cases e:d=c
 ·simp only[BP,e,if_true,List.filter_filter]
  refine List.filter_congr fun j _=> ?_
  rw[Bool.eq_iff_iff]
  simp only[List.map_append,List.map_cons,List.map_nil,qF,List.mem_singleton,not_or,z7,zC,ne_eq,and_comm]
 ·simp only[BP,e,if_false]
end Go.Dr
namespace Go.Eng.Sh
open Go.Nd (Ptr yJ qQ Kvs Srt mayK putP delP lookP)
open Go.Bt Go.Dr
theorem zCa (D:Dyn)(n:Nat){H0:AH}{v:AV}{l:List Kp}{x:Nat}{a0 a1 a3 a4 a13:AV}(hk0:H0.ok)(hv0:KpR H0 v l)(hl:l.length≤1000000)(hn:l.length<n):
  ∃H' g s',qV n (zCy D n) [a0,a1, .int .i64 ((x:Nat):Int),a3,a4,a13, .nilSlice, .nilSlice,v, .int .i64 ((l.length:Nat):Int), .int .i64 ((0:Nat):Int)] H0=some (.exit 0 [a0,a1, .int .i64 ((x:Nat):Int),a3,a4,a13,g,s'],H')∧Prs H0 H'∧Kps H' g (l.filter fun k=>k.x=x)∧Kps H' s' (l.filter fun k=>k.x≠x)∧(∀B,Blk g B→H0.next≤B)∧(∀B,Blk s' B→H0.next≤B)∧(∀B,Blk g B→ ¬Blk s' B):=by
 have lp:=jB (b:=zCy D n) l.length (fun i us H'=> ∃g s',us=[a0,a1, .int .i64 ((x:Nat):Int),a3,a4,a13,g,s',v, .int .i64 ((l.length:Nat):Int), .int .i64 ((i:Nat):Int)]∧Prs H0 H'∧Kps H' g ((l.take i).filter fun k=>k.x=x)∧Kps H' s' ((l.take i).filter fun k=>k.x≠x)∧(∀B,Blk g B→H0.next≤B)∧(∀B,Blk s' B→H0.next≤B)∧(∀B,Blk g B→ ¬Blk s' B)) (fun i us H hi ⟨g,s',hus,P,hg,hs,fg,fs,dj⟩=>by
  subst hus
  have hv:KpR H v l:=Rw.stp hv0 P fun _ _ x=>x
  obtain⟨A,o,i1,i2,i3⟩:=hv.at hi
  have N:=P.next
  obtain⟨H2,A18,b2,p2,g2,m2,n2⟩:=box P.ok (.cells kp0 118 1 false)
  obtain⟨H3,e3,g3,s3,n3⟩:=qY p2.ok g2 (l':=kpV l[i]) rfl rfl
  have e3':stN 4 (.ptr A18 0) (.agg (kpV l[i])) H2=some (qN,H3):=e3
  have N2:=p2.next;have N3:=s3.next
  have P3:Prs H H3:=p2.fresh s3 fun B hB=>by omega
  obtain⟨H4,A11,b4,p4,g4,m4,n4⟩:=box P3.ok (.cells (kpV l[i]) 118 4 false)
  have hsrc:srcOf 4 (.slice A11 0 1 2) H4=some (1,kpV l[i]):=by simp only[srcOf,g4];rfl
  have N4:=p4.next
  have P34:=P3.trans p4
  have hiI:((i:Nat):Int)< ((l.length:Nat):Int):=by omega
  have hi1:((i:Nat):Int)+((1:Nat):Int)=((i+1:Nat):Int):=by omega
  have hS:(AV.str 0 0)=S []:=rfl
  have hb2: ∀K,bA (some (.cells [.int .i64 ((0:Nat):Int), .int .u64 ((0:Nat):Int),S [], .int .i64 ((0:Nat):Int)] 118 1 false,fun A=> .ptr A 0)) H K=K (.ptr A18 0) H2:=fun K=>b2 _ K
  have r3:ldN 4 (.ptr A18 0) H3=some (.agg (kpV l[i])):=kU g3 rfl
  have r30:ld1 (.ptr A18 0) H3=some (.int .i64 ((l[i].x:Nat):Int)):=by rw[qL g3];rfl
  have bl1:kZ 118 4 1 [.int .i64 ((0:Nat):Int), .int .u64 ((0:Nat):Int),S [], .int .i64 ((0:Nat):Int)] [(0, .agg (kpV l[i]))]=some (.cells (kpV l[i]) 118 4 false,fun A=> .slice A 0 1 2):=rfl
  have ht:l.take (i+1)=l.take i++[l[i]]:=zI hi
  have hfl: ∀p:Kp→Bool,((l.take i).filter p).length≤1000000:=fun p=>Nat.le_trans (List.length_filter_le _ _) (by simp;omega)
  have hg4:Kps H4 g ((l.take i).filter fun k=>k.x=x):=yF.mono hg P34 fun _ _ x=>x
  have hs4:Kps H4 s' ((l.take i).filter fun k=>k.x≠x):=yF.mono hs P34 fun _ _ x=>x
  have lg: ∀B,Blk g B→B<H.next:=fun B hB=>yF.lt hg hB
  have ls: ∀B,Blk s' B→B<H.next:=fun B hB=>yF.lt hs hB
  have P04:=P.trans P34
  by_cases hx:l[i].x=x
  ·have hxI:((l[i].x:Nat):Int)=((x:Nat):Int):=by omega
   obtain⟨g',H5,e5,gw5,s5,f5⟩:=yF.app (bytes:=40) (m:=1) p4.ok (by decide) hg4 hsrc rfl rfl (by have:=hfl (fun k=>decide (k.x=x));omega) (by decide)
   have fe:(l.take (i+1)).filter (fun k=>decide (k.x=x))=(l.take i).filter (fun k=>decide (k.x=x))++[l[i]]:=by rw[ht,List.filter_append];simp[hx]
   have fn:(l.take (i+1)).filter (fun k=>decide (k.x≠x))=(l.take i).filter (fun k=>decide (k.x≠x)):=by rw[ht,List.filter_append];simp[hx]
   refine⟨_,H5, ?_,g',s',rfl,P04.fresh s5 fg, ?_, ?_,fun B hB=> ?_,fs,fun B hB hB'=> ?_⟩
   ·simp(maxSteps:=999999)(disch:=omega) only[zCy,eZ,hiI,i1,i2,hS,hb2,e3',r30,hxI,r3,bl1,b4,e5,zL1,hi1]
   ·show yF 4 _ _ g' _ _
    rw[fe,zE,zR]
    simpa using gw5
   ·rw[fn];exact yF.mono hs4 s5 fun B hB e=>dj B e hB
   ·rcases f5 B hB with e | e
    ·exact fg B e
    ·omega
   ·rcases f5 B hB with e | e
    ·exact dj B e hB'
    ·have:=ls B hB';omega
  ·have hxI: ¬((l[i].x:Nat):Int)=((x:Nat):Int):=by omega
   obtain⟨g',H5,e5,gw5,s5,f5⟩:=yF.app (bytes:=40) (m:=1) p4.ok (by decide) hs4 hsrc rfl rfl (by have:=hfl (fun k=>decide (k.x≠x));omega) (by decide)
   have fe:(l.take (i+1)).filter (fun k=>decide (k.x=x))=(l.take i).filter (fun k=>decide (k.x=x)):=by rw[ht,List.filter_append];simp[hx]
   have fn:(l.take (i+1)).filter (fun k=>decide (k.x≠x))=(l.take i).filter (fun k=>decide (k.x≠x))++[l[i]]:=by rw[ht,List.filter_append];simp[hx]
   refine⟨_,H5, ?_,g,g',rfl,P04.fresh s5 fs, ?_, ?_,fg,fun B hB=> ?_,fun B hB hB'=> ?_⟩
   ·simp(maxSteps:=999999)(disch:=omega) only[zCy,eZ,hiI,i1,i2,hS,hb2,e3',r30,hxI,r3,bl1,b4,e5,zL1,hi1]
   ·rw[fe];exact yF.mono hg4 s5 fun B hB e=>dj B hB e
   ·show yF 4 _ _ g' _ _
    rw[fn,zE,zR]
    simpa using gw5
   ·rcases f5 B hB with e | e
    ·exact fs B e
    ·omega
   ·rcases f5 B hB' with e | e
    ·exact dj B hB e
    ·have:=lg B hB;omega) n _ H0 ⟨.nilSlice, .nilSlice,rfl,Stp.refl hk0, .inl (Own.nil ..), .inl (Own.nil ..),fun B hB=>(Blk.nil.1 hB).elim,fun B hB=>(Blk.nil.1 hB).elim,fun B hB=>(Blk.nil.1 hB).elim⟩ hn
 obtain⟨q,us,H',e1,g,s',rfl,P,hg,hs,fg,fs,dj⟩:=lp
 rw[zZ]at hg hs
 refine⟨H',g,s', ?_,P,hg,hs,fg,fs,dj⟩
 rw[e1]
 exact qZ (by simp only[zCy,eZ,zX])
theorem zFY (m n:Nat)(hm:300000000≤m)(hn:300000000≤n){H0:AH}{At M L c:Nat}{kv oth:Kvs}{f:Nat→List Kp}{g:AV}{gl:List Kp}{a2 a3 a4 a13:AV}(t:j8 H0 At M L kv)(d:Drc kv oth f)(h1:1≤c)(h2:c≤16)(hg0:KpR H0 g gl)(hgl:gl.length≤1000)(hL:L≤100000000)(hkv:kv.length≤100000000)
  (hmem: ∀k∈gl,k∈f c) (hdis:gl.Pairwise fun a b=>a.n≠b.n) (hgA: ∀B,Blk g B→B≠At∧B≠M):
  ∃H' kv',qV n (zFp (dy (m+2)) n) [.ptr At 0, .int .i64 ((c:Nat):Int),a2,a3,a4,a13,g, .int .i64 ((gl.length:Nat):Int), .int .i64 ((0:Nat):Int)] H0=some (.exit 2 [.ptr At 0, .int .i64 ((c:Nat):Int),a2,a3,a4,a13],H')∧j8 H' At M (L+200*gl.length) kv'∧Drc kv' oth (BP f c gl)∧kv'.length≤kv.length∧Stp (fun B=>B=At∨B=M) H0 H':=by
 have lp:=jB (b:=zFp (dy (m+2)) n) gl.length (fun i us H'=>us=[.ptr At 0, .int .i64 ((c:Nat):Int),a2,a3,a4,a13,g, .int .i64 ((gl.length:Nat):Int), .int .i64 ((i:Nat):Int)]∧ ∃kv',j8 H' At M (L+200*i) kv'∧Drc kv' oth (BP f c (gl.take i))∧kv'.length≤kv.length∧Stp (fun B=>B=At∨B=M) H0 H') (fun i us H hi ⟨hus,kv',ti,di,hlen,st⟩=>by
  subst hus
  have hg:KpR H g gl:=Rw.stp hg0 st fun B hB e=>by
   rcases e with e | e
   ·exact(hgA B hB).1 e
   ·exact(hgA B hB).2 e
  obtain⟨A,o,i1,i2,i3⟩:=hg.at hi
  have hin:=hmem _ (zQ hi)
  have hfine:=(d.row c).2 _ hin
  obtain⟨f1,f2,_⟩:=hfine
  obtain⟨H2,A21,b2,p2,g2,m2,n2⟩:=box st.ok (.cells kp0 118 1 false)
  obtain⟨H3,e3,g3,s3,n3⟩:=qY p2.ok g2 (l':=kpV gl[i]) rfl rfl
  have e3':stN 4 (.ptr A21 0) (.agg (kpV gl[i])) H2=some (qN,H3):=e3
  have P3:Prs H H3:=p2.fresh s3 fun B hB=>by omega
  obtain⟨H4,e4,p4⟩:=zIV (dy (m+2)) n (by omega) P3.ok (c:=c) (k:=gl[i].n) (by omega) (by omega)
  have P4:=P3.trans p4
  obtain⟨H5,e5,t5,s5⟩:=zLl m n hm hn (k:=uD c gl[i].n) (ti.prs P4) (by omega) (by omega)
  have hmayk:=zBe c gl[i].n
  have hstill:gl[i]∈BP f c (gl.take i) c:=by
   simp only[BP,if_true]
   rw[List.mem_filter]
   refine⟨hin, ?_⟩
   simp only[zC]
   intro h
   obtain⟨j,hj,e⟩:=List.mem_map.1 h
   obtain⟨a,ha,rfl⟩:=qE hj
   rw[List.pairwise_iff_getElem]at hdis
   simp only[zH]at ha
   rw[List.getElem_take]at e
   exact hdis a i (by omega) hi (by omega) e
  have hfound:lookP (uD c gl[i].n) kv'=some (uH gl[i]):=(KS di.srt).2 ((di.mem _).2 (.inr ⟨c,gl[i],hstill,rfl⟩))
  have hde:YI (uD c gl[i].n) kv'=0:=by simp only[YI,hmayk,if_true,hfound,qK]
  rw[hde]at e5 t5
  simp only[if_true]at t5
  refine⟨_,H5, ?_,rfl,delP (uD c gl[i].n) kv',by rw[show L+200*(i+1)=L+200*i+200 by omega];exact t5, ?_, ?_,(st.trans (Prs.stp P4)).trans s5⟩
  ·have hiI:((i:Nat):Int)< ((gl.length:Nat):Int):=by omega
   have hi1:((i:Nat):Int)+((1:Nat):Int)=((i+1:Nat):Int):=by omega
   have hS:(AV.str 0 0)=S []:=rfl
   have hb2: ∀K,bA (some (.cells [.int .i64 ((0:Nat):Int), .int .u64 ((0:Nat):Int),S [], .int .i64 ((0:Nat):Int)] 118 1 false,fun A=> .ptr A 0)) H K=K (.ptr A21 0) H2:=fun K=>b2 _ K
   have r3:ld1 (.ptr A21 3) H3=some (.int .i64 ((gl[i].n:Nat):Int)):=by rw[qL g3];rfl
   have t00: ¬(((0:Nat):Int)≠((0:Nat):Int)):=by omega
   simp(maxSteps:=999999)(disch:=omega) only[zFp,eZ,hiI,i1,i2,hS,hb2,e3',r3,e4,e5,t00,hi1]
  ·have:=di.del h1 h2 (k:=gl[i]) ((d.row c).2 _ hin)
   rw[zET]at this
   rw[zI hi]
   exact this
  ·rw[Nd.len_del];split<;>omega) n _ H0 ⟨rfl,kv,by simpa using t,by rw[List.take_zero,zHW];exact d,Nat.le_refl _,Stp.refl (by obtain⟨_,_,_,_,_,_,_,_,_,ti,_⟩:=t;exact ti.ok)⟩ (by omega)
 obtain⟨q,us,H',e1,rfl,kv',t',d',hlen,st⟩:=lp
 rw[zZ]at d'
 refine⟨H',kv', ?_,t',d',hlen,st⟩
 rw[e1]
 exact qZ (by simp only[zFp,eZ,zX])
theorem zHF (f:Nat→List Kp)(c x u:Nat)(r:Str)(hp:(f c).Pairwise fun a b=>a.n<b.n):(fun d=>if d=c then BP f c (uW x (f c)) c++[(⟨jW (f c),x,u,r⟩:Kp)]else BP f c (uW x (f c)) d)=fun d=>if d=c then KX (f c) x u r else f d:=by
 funext d
 by_cases e:d=c
 ·simp only[e,if_true,BP,KX]
  rw[zEN hp]
 ·simp only[e,if_false,BP]
theorem zKp (D:Dyn)(n:Nat){H:AH}{g s':AV}{l:List Kp}{x N0:Nat}{a0 a1 a2 a3 a4 a13:AV}(hk:H.ok)(hg:Kps H g (l.filter fun k=>k.x=x))(hs:Kps H s' (l.filter fun k=>k.x≠x))(hl:l.length≤1000000)(fg: ∀B,Blk g B→N0≤B)(hN:N0≤H.next)(dj: ∀B,Blk g B→ ¬Blk s' B):
  ∃H' g',zHY D n [a0,a1,a2,a3,a4,a13,g,s'] H=zL0 D n [a0,a1,a2,a3,a4,a13,g'] H'∧Stp (Blk g) H H'∧Kps H' g' (uW x l)∧ ∀B,Blk g' B→N0≤B:=by
 have hln:lnSl s'=some (.int .i64 (((xU x l).length:Nat):Int)):=hs.row.lnSl
 have hsl:(xU x l).length≤1000000:=Nat.le_trans (List.length_filter_le _ _) hl
 have hgl:(l.filter fun k=>k.x=x).length≤1000000:=Nat.le_trans (List.length_filter_le _ _) hl
 by_cases h7:7< (xU x l).length
 ·obtain⟨q,e1,w1⟩:=yF.hi hs (by decide) (i:=(xU x l).length - 7) (Nat.sub_le _ _)
  rw[JD]at w1
  have hsrc:=w1.srcOf
  obtain⟨g',H2,e2,gw,s2,f2⟩:=yF.app (bytes:=40) hk (by decide) hg hsrc w1.len (by
   rw[jR];intro y hy
   obtain⟨k,_,hy⟩:=List.mem_flatMap.1 hy
   simp only[kpV,List.mem_cons,List.not_mem_nil,or_false]at hy
   rcases hy with rfl | rfl | rfl | rfl<;>rfl) (by omega) (by decide)
  refine⟨H2,g', ?_,s2, ?_,fun B hB=> ?_⟩
  ·have hsub:(((xU x l).length:Nat):Int) - ((7:Nat):Int)=(((xU x l).length - 7:Nat):Int):=by omega
   have hpos:((0:Nat):Int)< (((xU x l).length - 7:Nat):Int):=by omega
   simp(maxSteps:=999999)(disch:=omega) only[zHY,eZ,hln,hsub,hpos,e1,e2]
  ·show yF 4 _ _ g' _ _
   rw[uW,zE,zR,zH,Nat.min_eq_left (Nat.sub_le _ _)]
   exact gw
  ·rcases f2 B hB with e | e
   ·exact fg B e
   ·omega
 ·refine⟨H,g, ?_,Stp.refl hk, ?_,fg⟩
  ·have hneg: ¬((0:Nat):Int)< (((xU x l).length:Nat):Int) - ((7:Nat):Int):=by omega
   simp(maxSteps:=999999)(disch:=omega) only[zHY,eZ,hln,hneg]
  ·have:uW x l=l.filter fun k=>k.x=x:=by rw[uW,show(xU x l).length - 7=0 by omega];simp
   rw[this];exact hg
theorem zKD (m n:Nat)(hm:800000000≤m)(hn:300000000≤n){H:AH}{At M L c x u:Nat}{r:Str}{kv oth:Kvs}{f:Nat→List Kp}(t:j8 H At M L kv)(hL:L≤1000000)(hkv:kv.length≤1000000)(d:Drc kv oth f)(h1:1≤c)(h2:c≤16)(hx:x<4294967296)(hu:u<18446744073709551616)(hr:r.length≤188)(h8:(f c).length≤8)(hnx:jW (f c)≤2147483647):
  ∃H' kv',f15 (dy (m+2)) n [.ptr At 0, .int .i64 ((c:Nat):Int), .int .i64 ((x:Nat):Int), .int .u64 ((u:Nat):Int),S r] H=some (.int .i64 ((0:Nat):Int),H')∧j8 H' At M (L+2000) kv'∧Drc kv' oth (fun d=>if d=c then KX (f c) x u r else f d)∧kv'.length≤kv.length+1∧Stp (fun B=>B=At∨B=M) H H':=by
 obtain⟨lA,lM⟩:At<H.next∧M<H.next:=by
  obtain⟨_,_,_,_,_,_,_,_,_,ti,_⟩:=t
  exact⟨ti.ok.lt ti.gT,ti.ok.lt ti.gM⟩
 obtain⟨H1,v,e1,p1,gv,fv⟩:=BZ m n hm t hL (by omega) d h1 h2
 have hv:KpR H1 v (f c):=gv.row
 have N1:=p1.next
 have hp:=(d.row c).1
 obtain⟨H2,g,s',e2,p2,hg,hs,fg,fs,dj⟩:=zCa (dy (m+2)) n (x:=x) (a0:= .ptr At 0) (a1:= .int .i64 ((c:Nat):Int)) (a3:= .int .u64 ((u:Nat):Int)) (a4:=S r) (a13:= .int .i64 ((jW (f c):Nat):Int)) p1.ok hv (by omega) (by omega)
 have N2:=p2.next
 obtain⟨H3,g',e3,s3,hg3,fg3⟩:=zKp (dy (m+2)) n (N0:=H1.next) (a0:= .ptr At 0) (a1:= .int .i64 ((c:Nat):Int)) (a2:= .int .i64 ((x:Nat):Int)) (a3:= .int .u64 ((u:Nat):Int)) (a4:=S r) (a13:= .int .i64 ((jW (f c):Nat):Int)) p2.ok hg hs (by omega) fg N2 dj
 have P3:Prs H H3:=(p1.trans p2).fresh s3 fun B hB=>by have:=fg B hB;omega
 have hgl:(uW x (f c)).length≤(f c).length:=zHP
 obtain⟨H4,kv4,e4,t4,d4,l4,s4⟩:=zFY m n (by omega) hn (a2:= .int .i64 ((x:Nat):Int)) (a3:= .int .u64 ((u:Nat):Int)) (a4:=S r) (a13:= .int .i64 ((jW (f c):Nat):Int)) (t.prs P3) d h1 h2 (g:=g') (gl:=uW x (f c)) hg3.row (by omega) (by omega) (by omega) zHO (WD hp x) (fun B hB=>by have:=fg3 B hB;omega)
 have hk4:=s4.ok
 obtain⟨H5,e5,p5⟩:=zIV (dy (m+2)) n (by omega) hk4 (c:=c) (k:=jW (f c)) (by omega) (by omega)
 obtain⟨H6,e6,p6⟩:=QS (dy (m+2)) n (by omega) p5.ok x 4 (by omega) (by omega)
 obtain⟨H7,e7,p7⟩:=QS (dy (m+2)) n (by omega) p6.ok u 8 hu (by omega)
 have P47:=(p5.trans p6).trans p7
 have hval:dig x 4++dig u 8++r=uH ⟨jW (f c),x,u,r⟩:=rfl
 obtain⟨H8,e8,t8,s8⟩:=cO m n (by omega) hn (k:=uD c (jW (f c))) (v:=uH ⟨jW (f c),x,u,r⟩) (t4.prs P47) (by omega) (by omega)
 have hput:u4 (uD c (jW (f c))) (uH ⟨jW (f c),x,u,r⟩)=true:=by
  simp only[u4,zBe,Bool.true_and,zC,fL];omega
 rw[hput]at e8 t8
 simp only[if_true]at e8 t8
 have hfine:(⟨jW (f c),x,u,r⟩:Kp).fine:=⟨zHr _ fun k hk=>((d.row c).2 k hk).1,hnx,hx,hu,hr⟩
 have d8:=d4.put h1 h2 (k:=⟨jW (f c),x,u,r⟩) hfine (fun j hj=>by
  simp only[BP,if_true]at hj
  exact zKt hp j (List.mem_filter.1 hj).1)
 rw[zHF f c x u r hp]at d8
 refine⟨H8,_, ?_,t8.up (by omega),d8, ?_,(((Prs.stp P3).trans s4).trans (Prs.stp P47)).trans s8⟩
 ·have iX: ∀H,f54 (dy (m+2)) n [.int .i64 ((x:Nat):Int)] H=some (.bool true,H):=fun H=>zBn _ _ hx
  have t00: ¬(((0:Nat):Int)≠((0:Nat):Int)):=by omega
  have t188: ¬((188:Nat):Int)< ((r.length:Nat):Int):=by omega
  have hw:IntKind.wrap .u64 ((x:Nat):Int)=((x:Nat):Int):=by rw[wrap_u64];omega
  have ha1:jY .add (S (dig x 4)) (S (dig u 8))=some (S (dig x 4++dig u 8)):=dT _ _ (by simp[jH])
  have ha2:jY .add (S (dig x 4++dig u 8)) (S r)=some (S (uH ⟨jW (f c),x,u,r⟩)):=by rw[dT _ _ (by simp[jH];omega),hval]
  have hlg:lnSl g'=some (.int .i64 (((uW x (f c)).length:Nat):Int)):=hg3.row.lnSl
  have tail:zKZ (dy (m+2)) n [.ptr At 0, .int .i64 ((c:Nat):Int), .int .i64 ((x:Nat):Int), .int .u64 ((u:Nat):Int),S r,v, .int .i64 ((jW (f c):Nat):Int)] H1=some (.ret (.int .i64 ((0:Nat):Int)),H8):=by
   simp(maxSteps:=999999)(disch:=omega) only[zKZ,eZ,hv.lnSl,e2]
   rw[e3]
   simp(maxSteps:=999999)(disch:=omega) only[zL0,eZ,hlg,e4,zNd,e5,hw,e6,e7,ha1,ha2,e8]
  by_cases hl0:0< (f c).length
  ·have hl0I:((0:Nat):Int)< (((f c).length:Nat):Int):=by omega
   obtain⟨A,o,i1,i2,i3⟩:=hv.at (i:=(f c).length - 1) (by omega)
   have hsub:(((f c).length:Nat):Int) - ((1:Nat):Int)=(((f c).length - 1:Nat):Int):=by omega
   have hne:f c≠[]:=fun e=>by rw[e]at hl0;simp at hl0
   have hnk:jW (f c)=(f c)[(f c).length - 1].n+1:=by
    simp only[jW,List.getLast?_eq_some_getLast hne,List.getLast_eq_getElem]
   have t3: ¬((2147483647:Nat):Int)≤(((f c)[(f c).length - 1].n:Nat):Int):=by omega
   have hadd:(((f c)[(f c).length - 1].n:Nat):Int)+((1:Nat):Int)=((jW (f c):Nat):Int):=by omega
   simp(maxSteps:=999999)(disch:=omega) only[f15,eZ,e1,qM,nth,t00,iX,t188,hv.lnSl,hl0I,hsub,i1,i3,t3,hadd,tail]
  ·have hl0I: ¬((0:Nat):Int)< (((f c).length:Nat):Int):=by omega
   have hnil:f c=[]:=zF (by omega)
   have hnk:jW (f c)=1:=by rw[hnil];rfl
   rw[hnk]at tail
   simp(maxSteps:=999999)(disch:=omega) only[f15,eZ,e1,qM,nth,t00,iX,t188,hv.lnSl,hl0I,tail]
 ·have:=Nd.len_put (uD c (jW (f c))) (uH ⟨jW (f c),x,u,r⟩) d4.srt
  rw[this];split<;>omega
end Go.Eng.Sh
end
section
namespace Go.Dr
open Go.Nd (Str Kvs putP delP lookP Srt mayK)
end Go.Dr
namespace Go.Eng.Sh
open Go.Nd (Ptr yJ qQ Kvs Srt mayK putP delP lookP)
open Go.Bt Go.Dr
theorem zFW (D:Dyn)(n:Nat){H:AH}(hk:H.ok): ∃H' A,f49 D n [.int .i64 ((64:Nat):Int)] H=some (.tuple [.ptr A 0, .int .i64 ((0:Nat):Int)],H')∧Prs H H':=by
 obtain⟨H1,A1,b1,p1,g1,m1,n1⟩:=box hk (.map [6] [])
 obtain⟨H2,A2,b2,p2,g2,m2,n2⟩:=box p1.ok (.map [6] [])
 obtain⟨H3,A3,b3,p3,g3,m3,n3⟩:=box p2.ok (.cells [.int .i64 ((64:Nat):Int), .map A1, .nilSlice, .map A2, .int .i64 ((0:Nat):Int), .nilSlice, .bool false] 163 1 false)
 refine⟨H3,A3, ?_,(p1.trans p2).trans p3⟩
 have a1: ¬((64:Nat):Int)< ((64:Nat):Int):=by omega
 have a2: ¬((8192:Nat):Int)< ((64:Nat):Int):=by omega
 have bs:jE [(0,1),(1,1),(2,1),(3,1),(4,1),(5,1),(6,1)] [.int .i64 ((0:Nat):Int), .nilMap, .nilSlice, .nilMap, .int .i64 ((0:Nat):Int), .nilSlice, .bool false] [(0, .int .i64 ((64:Nat):Int)),(1, .map A1),(3, .map A2)]=some (.agg [.int .i64 ((64:Nat):Int), .map A1, .nilSlice, .map A2, .int .i64 ((0:Nat):Int), .nilSlice, .bool false]):=rfl
 simp(maxSteps:=999999)(disch:=omega) only[f49,f94,eZ,a1,a2,mkM,b1,b2,bs,b3]
theorem zCF (D:Dyn)(n:Nat)(hn:100≤n){H:AH}(hk:H.ok): ∃H' At M,f13 D n [] H=some (.ptr At 0,H')∧Prs H H'∧H.next≤At∧H.next≤M∧j8 H' At M 0 []:=by
 obtain⟨H1,A1,e1,p1⟩:=zFW D n hk
 obtain⟨H4,At,M,e4,p4,m4,m4',ti⟩:=zKq D n hn p1.ok A1 0 (c:= .nilPtr) rfl
 have N1:=p1.next
 refine⟨H4,At,M, ?_,p1.trans p4,by omega,by omega,ti⟩
 have t00: ¬(((0:Nat):Int)≠((0:Nat):Int)):=by omega
 have bz:jE [(0,1),(1,1),(2,1)] [.int .i64 ((0:Nat):Int), .int .i64 ((0:Nat):Int), .int .u64 ((0:Nat):Int)] []=some (.agg (qW pZ)):=rfl
 simp(maxSteps:=999999)(disch:=omega) only[f13,eZ,e1,qM,nth,t00,bz,e4]
theorem Kws.at {H:AH}{v:AV}{l:List Kp}(h:Kws H v l){i:Nat}(hi:i<l.length): ∃A o,(∀κ (z:Int),z=(i:Int)→yW 3 v (.int κ z)=some (.ptr A o))∧Eng.ld1 (.ptr A o) H=some (.int .i64 ((l[i].x:Nat):Int))∧Eng.ld1 (.ptr A (o+1)) H=some (.int .u64 ((l[i].u:Nat):Int))∧Eng.ld1 (.ptr A (o+2)) H=some (S l[i].r):=by
 have fa: ∀(l:List Kp) (i:Nat) (h:i<l.length),((l.flatMap kv3).drop (i*3)).take 3=kv3 l[i]:=by
  intro l
  induction l with
  | nil=>intro i h;simp at h
  | cons p l ih=>
   intro i h
   cases i with
   | zero=>rfl
   | succ i=>
    rw[zN,show(i+1)*3=3+i*3 by omega, ← List.drop_drop]
    exact ih i (by simpa using h)
 obtain⟨A,o,c,e,sz,g,h1,h2,h3,h4,h5⟩:=Rw.at h.row hi
 rw[fa l i hi]at h5
 have g0:c[o]? =some (.int .i64 ((l[i].x:Nat):Int)):=by
  have:=congrArg (fun x=>x[0]?) h5
  simpa[kv3]using this
 have g1:c[o+1]? =some (.int .u64 ((l[i].u:Nat):Int)):=by
  have:=congrArg (fun x=>x[1]?) h5
  simpa[kv3]using this
 have g2:c[o+2]? =some (S l[i].r):=by
  have:=congrArg (fun x=>x[2]?) h5
  simpa[kv3]using this
 exact⟨A,o,h1,wN h2 g0,wN h2 g1,wN h2 g2⟩
end Go.Eng.Sh
end
section
namespace Go.Dr
open Go.Nd (Str Kvs putP delP lookP Srt mayK)
open Go.Eng.Sh (YC)
theorem K5.len {l:List Kp}{cs:List Kl}(h:K5 l cs):l.length=min (dl cs).length 8:=by
 have:=congrArg List.length h
 simp only[qB,List.length_reverse,zH]at this
 omega
theorem K5.at {l:List Kp}{cs:List Kl}{p:Nat}(h:K5 l cs)(hp:p< (dl cs).length)(h8:p<8): ∃hi:l.length - 1 - p<l.length,zG6 l[l.length - 1 - p]=(dl cs)[p]:=by
 have hl:=h.len
 have hi:l.length - 1 - p<l.length:=by omega
 refine⟨hi, ?_⟩
 have e:(l.map zG6)[l.length - 1 - p]? =some (dl cs)[p]:=by
  rw[show l.map zG6=((dl cs).take 8).reverse from h,List.getElem?_reverse (by simp;omega),qH (by simp;omega)]
  have:((dl cs).take 8).length - 1 - (l.length - 1 - p)=p:=by simp;omega
  rw[this,zA hp]
 rw[qJ,zA hi]at e
 simpa using e
theorem zLj {cs:List Kl}{i j:Nat}(hi:i< (dl cs).length)(hj:j< (dl cs).length)(h:(dl cs)[i].1=(dl cs)[j].1):i=j:=by
 have hd:=fC cs
 rw[List.pairwise_iff_getElem]at hd
 rcases Nat.lt_trichotomy i j with e | e | e
 ·exact absurd h (hd i j hi hj e)
 ·exact e
 ·exact absurd h.symm (hd j i hj hi e)
theorem K5.mem {l:List Kp}{cs:List Kl}{k:Kp}(h:K5 l cs)(hk:k∈l): ∃p,∃hp:p< (dl cs).length,p<8∧zG6 k=(dl cs)[p]:=by
 have:zG6 k∈l.map zG6:=List.mem_map.2 ⟨k,hk,rfl⟩
 rw[show l.map zG6=((dl cs).take 8).reverse from h,List.mem_reverse]at this
 obtain⟨p,hp,e⟩:=qE this
 simp only[zH]at hp
 rw[List.getElem_take]at e
 exact⟨p,by omega,by omega,e.symm⟩
theorem WI {x u:Nat}{k:Kp} :YC x u k=true↔k.x=x∧k.u=u:=by
 rw[YC,z7,zC,zC]
theorem K5.find {l:List Kp}{cs:List Kl}{p:Nat}(h:K5 l cs)(hp:p< (dl cs).length)(h8:p<8): ∃k,l.find? (YC (dl cs)[p].1 (dl cs)[p].2.1)=some k∧zG6 k=(dl cs)[p]:=by
 obtain⟨hi,e⟩:=h.at hp h8
 cases hf:l.find? (YC (dl cs)[p].1 (dl cs)[p].2.1)with
 | none=>
  have:=List.find?_eq_none.1 hf _ (zQ hi)
  rw[WI]at this
  exact absurd ⟨by rw[← e];rfl,by rw[← e];rfl⟩ this
 | some k=>
  refine⟨k,rfl, ?_⟩
  obtain⟨q,hq,_,e2⟩:=h.mem (List.mem_of_find?_eq_some hf)
  have:=WI.1 (List.find?_some hf)
  have:(dl cs)[q].1=(dl cs)[p].1:=by rw[← e2];exact this.1
  have:=zLj hq hp this
  subst this;exact e2
theorem K5.far {l:List Kp}{cs:List Kl}{p:Nat}(h:K5 l cs)(hp:p< (dl cs).length)(h8:8≤p)(u:Nat):l.find? (YC (dl cs)[p].1 u)=none:=by
 rw[List.find?_eq_none]
 intro k hk hf
 obtain⟨q,hq,hq8,e2⟩:=h.mem hk
 have:=(WI.1 hf).1
 have:(dl cs)[q].1=(dl cs)[p].1:=by rw[← e2];exact this
 have:=zLj hq hp this
 omega
theorem K5.other {l:List Kp}{cs:List Kl}{p u:Nat}(h:K5 l cs)(hp:p< (dl cs).length)(hu:u≠(dl cs)[p].2.1):l.find? (YC (dl cs)[p].1 u)=none:=by
 rw[List.find?_eq_none]
 intro k hk hf
 obtain⟨q,hq,hq8,e2⟩:=h.mem hk
 have h1:=WI.1 hf
 have:(dl cs)[q].1=(dl cs)[p].1:=by rw[← e2];exact h1.1
 have:=zLj hq hp this
 subst this
 refine hu ?_
 rw[← e2];exact h1.2.symm
abbrev Ca:=Nat×Kl
def jI (c:Nat)(L:List Ca):List Kl:=(L.filter fun a=>a.1=c).map Prod.snd
def news (c:Nat):List Nat→List Ca→List Kl
 | _,[]=>[]
 | had,a::L=>if a.1=c∧a.2.1∉had then a.2::news c (had++[a.2.1]) L else news c had L
theorem KP (c:Nat): ∀(L:List Ca) (had:List Nat),news c had L=(dl (jI c L)).filter fun b=>decide (b.1∉had)
 | [],had=>rfl
 | a::L,had=>by
  by_cases hc:a.1=c
  ·have e:jI c (a::L)=a.2::jI c L:=by simp[jI,hc]
   rw[e,dl,List.filter_cons]
   by_cases hh:a.2.1∈had
   ·rw[news,if_neg (by simp[hh]),if_neg (by simp[hh]),List.filter_filter,KP c L had]
    refine List.filter_congr fun b _=> ?_
    rw[Bool.eq_iff_iff]
    simp only[z7,zC,ne_eq]
    constructor
    ·intro h;exact⟨h,fun e=>h (e▸hh)⟩
    ·exact fun h=>h.1
   ·rw[news,if_pos ⟨hc,hh⟩,if_pos (by simp[hh]),List.filter_filter,KP c L (had++[a.2.1])]
    congr 1
    refine List.filter_congr fun b _=> ?_
    rw[Bool.eq_iff_iff]
    simp only[z7,zC,ne_eq,qF,List.mem_singleton,not_or]
  ·have e:jI c (a::L)=jI c L:=by simp[jI,hc]
   rw[e,news,if_neg (by simp[hc]),KP c L had]
theorem zHs (c:Nat)(L:List Ca):news c [] L=dl (jI c L):=by
 rw[KP]
 exact List.filter_eq_self.2 fun b _=>by simp
def BM:Kvs:=[([113],[49]),([114],[51]),([114,0],[52]),([114,17],[53]),([115],[50])]
theorem zHk:Srt BM:=(Nd.srt_rising _).2 (by decide)
theorem zLf:Drc BM BM (fun _=>[]) where
 srt:=zHk
 mem:=fun p=>by simp
 row:=fun c=>⟨List.Pairwise.nil,by simp⟩
 few:=fun c h=>absurd rfl h
 oth:=fun p hp c h1 h2 t e=>by
  have hc:(UInt8.ofNat c).toNat=c:=by rw[UInt8.toNat_ofNat'];omega
  have e':p.1=114::UInt8.ofNat c::t:=e
  have z:(0:UInt8).toNat=0:=rfl
  have s:(17:UInt8).toNat=17:=rfl
  simp only[BM,List.mem_cons,List.not_mem_nil,or_false]at hp
  rcases hp with rfl | rfl | rfl | rfl | rfl
  ·simp at e'
  ·simp at e'
  ·simp only[List.cons.injEq,true_and]at e'
   have:=congrArg UInt8.toNat e'.1;omega
  ·simp only[List.cons.injEq,true_and]at e'
   have:=congrArg UInt8.toNat e'.1;omega
  ·simp at e'
theorem VC {α:Type}[DecidableEq α]: ∀ {a b:List α},a.Nodup→(∀x∈a,x∈b)→a.length≤b.length
 | [],_,_,_=>by simp
 | x::a,b,hn,h=>by
  rw[List.nodup_cons]at hn
  have hx:=h x (zB ..)
  have:=VC (a:=a) (b:=b.erase x) hn.2 fun y hy=>(List.mem_erase_of_ne (fun e:y=x=>hn.1 (by rw[← e];exact hy))).2 (h y (z8 _ hy))
  rw[List.length_erase_of_mem hx]at this
  have:0<b.length:=List.length_pos_of_mem hx
  simp only[zG];omega
theorem XU: ∀ {l:Kvs},Srt l→l.Nodup
 | [],_=>List.nodup_nil
 | (a,b)::l,h=>by
  rw[List.nodup_cons]
  refine⟨fun hm=> ?_,XU h.2⟩
  have:=h.1 _ hm
  rw[Go.Eng.ltS_irrefl]at this;cases this
theorem zLg {kv:Kvs}{f:Nat→List Kp}(d:Drc kv BM f)(h8: ∀c,(f c).length≤8)(h3: ∀c,f c≠[]→c≤3):kv.length≤29:=by
 have:=VC (a:=kv) (b:=BM++((f 1).map (JK 1)++((f 2).map (JK 2)++(f 3).map (JK 3)))) (XU d.srt) fun p hp=>by
  rcases(d.mem p).1 hp with h | ⟨c,k,hk,rfl⟩
  ·exact zU _ h
  ·have hne:f c≠[]:=fun e=>by rw[e]at hk;simp at hk
   have h1:=(d.few c hne).1
   have h2:=h3 c hne
   refine zW _ ?_
   have hc:c=1∨c=2∨c=3:=by omega
   rcases hc with rfl | rfl | rfl
   ·exact zU _ (List.mem_map.2 ⟨k,hk,rfl⟩)
   ·exact zW _ (zU _ (List.mem_map.2 ⟨k,hk,rfl⟩))
   ·exact zW _ (zW _ (List.mem_map.2 ⟨k,hk,rfl⟩))
 have a:=h8 1;have b:=h8 2;have c:=h8 3
 simp only[zE,qB,BM,zG,qA]at this
 omega
end Go.Dr
end
section
namespace Go.Eng.Sh
open Go.Nd (Ptr yJ qQ Kvs Srt mayK putP delP lookP)
open Go.Bt Go.Dr
def caV (a:Ca):List AV:=[.int .i64 ((a.1:Nat):Int), .int .i64 ((a.2.1:Nat):Int), .int .u64 ((a.2.2.1:Nat):Int),S a.2.2.2]
def ca0:List AV:=[.int .i64 ((0:Nat):Int), .int .i64 ((0:Nat):Int), .int .u64 ((0:Nat):Int),S []]
def CaR (H:AH)(v:AV)(l:List Ca):Prop:=Rw 4 H v l.length (l.flatMap caV)
theorem zBv: ∀(l:List Ca) (i:Nat) (h:i<l.length),((l.flatMap caV).drop (i*4)).take 4=caV l[i]
 | p::l,0,_=>rfl
 | p::l,i+1,h=>by
  rw[zN,show(i+1)*4=4+i*4 by omega, ← List.drop_drop]
  exact zBv l i (by simpa using h)
theorem CaR.at {H:AH}{v:AV}{l:List Ca}(h:CaR H v l){i:Nat}(hi:i<l.length): ∃p,(∀κ (z:Int),z=(i:Int)→yW 4 v (.int κ z)=some p)∧Eng.ldN 4 p H=some (.agg (caV l[i])):=by
 obtain⟨p,h1,h2⟩:=Rw.ldN h hi
 rw[zBv l i hi]at h2
 exact⟨p,h1,h2⟩
def nAV (x:Nat):AV:= .int .i64 ((x:Nat):Int)
def Hds (H:AH)(v:AV)(had:List Nat):Prop:=yF 1 3 H v had.length (had.map nAV)
theorem Hds.at {H:AH}{v:AV}{l:List Nat}(h:Hds H v l){i:Nat}(hi:i<l.length): ∃p,(∀κ (z:Int),z=(i:Int)→yW 1 v (.int κ z)=some p)∧Eng.ld1 p H=some (.int .i64 ((l[i]:Nat):Int)):=by
 obtain⟨p,x,h1,h2,h3⟩:=Rw.ld1 (yF.row h) hi
 rw[qJ,zA hi]at h3
 simp only[Option.map_some,z6]at h3
 subst h3
 exact⟨p,h1,h2⟩
theorem zIz (l:List Nat)(x:Nat){i:Nat}(h:i<l.length):(l.take (i+1)).any (fun y=>decide (y=x))=((l.take i).any (fun y=>decide (y=x))||decide (l[i]=x)):=by
 rw[zI h,List.any_append]
 simp
theorem zHL (D:Dyn)(n:Nat){H:AH}{hv:AV}{had:List Nat}{a:Ca}{A12 e:Nat}{a0 a1 a2 a7 a9 a11:AV}(hh:Hds H hv had)(g12:H.h.get A12=some (.cells (caV a) e 1 false))(b:Bool)(hl:had.length≤1000000)(hn:had.length<n):
  qV n (zAm D n) [a0,a1,a2,a7,a9,hv,a11, .ptr A12 0, .bool b, .int .i64 ((0:Nat):Int)] H=some (.exit 2 [a0,a1,a2,a7,a9,hv,a11, .ptr A12 0, .bool (b||had.any fun y=>decide (y=a.2.1))],H):=by
 have r1:ld1 (.ptr A12 1) H=some (.int .i64 ((a.2.1:Nat):Int)):=by rw[qL g12];rfl
 have main:qV n (zAm D n) [a0,a1,a2,a7,a9,hv,a11, .ptr A12 0, .bool (b||(had.take 0).any fun y=>decide (y=a.2.1)), .int .i64 ((0:Nat):Int)] H=some (.exit 2 [a0,a1,a2,a7,a9,hv,a11, .ptr A12 0, .bool (b||had.any fun y=>decide (y=a.2.1))],H):=by
  refine vW (fun i=>[a0,a1,a2,a7,a9,hv,a11, .ptr A12 0, .bool (b||(had.take i).any fun y=>decide (y=a.2.1)), .int .i64 ((i:Nat):Int)]) had.length (fun i hi=> ?_) (fun k=> ?_) n hn
  ·obtain⟨p,i1,i2⟩:=hh.at hi
   have hiI:((i:Nat):Int)< ((had.length:Nat):Int):=by omega
   have hi1:((i:Nat):Int)+((1:Nat):Int)=((i+1:Nat):Int):=by omega
   have hln:lnSl hv=some (.int .i64 ((had.length:Nat):Int)):=by rw[(yF.row hh).lnSl]
   rw[zIz had a.2.1 hi, ← Bool.or_assoc]
   cases hc:(b||(had.take i).any fun y=>decide (y=a.2.1))with
   | true=>simp(maxSteps:=999999)(disch:=omega) only[zAm,eZ,hln,hiI,hi1,Bool.true_or]
   | false=>
    by_cases hx:had[i]=a.2.1
    ·have hxI:((had[i]:Nat):Int)=((a.2.1:Nat):Int):=by omega
     simp(maxSteps:=999999)(disch:=omega) only[zAm,eZ,hln,hiI,i1,i2,r1,hxI,hi1,hx,Bool.false_or,decide_true]
    ·have hxI: ¬((had[i]:Nat):Int)=((a.2.1:Nat):Int):=by omega
     simp(maxSteps:=999999)(disch:=omega) only[zAm,eZ,hln,hiI,i1,i2,r1,hxI,hi1,hx,Bool.false_or,decide_false]
  ·refine qZ ?_
   have hln:lnSl hv=some (.int .i64 ((had.length:Nat):Int)):=by rw[(yF.row hh).lnSl]
   simp only[zAm,eZ,hln,zX,zZ]
 simpa using main
theorem zLz {u:Nat}(hu:u<18446744073709551616): ∃u',qP .add (.int .u64 ((u:Nat):Int)) (.int .u64 ((1:Nat):Int))=some (.int .u64 ((u':Nat):Int))∧u'≠u∧IntKind.wrap .u64 (((u:Nat):Int)+((1:Nat):Int))=((u':Nat):Int):=by
 refine⟨(u+1) % 18446744073709551616, ?_,by omega,by rw[wrap_u64];omega⟩
 rw[dV,wrap_u64]
 congr 2
structure Win (H0 H:AH)(c:Nat)(cs:List Kl)(L:List Ca)(l:List Kp)(P:List Kl)(hv:AV)(k:Nat):Prop where
 prs:Prs H0 H
 had:Hds H hv (P.map (·.1))
 own: ∀B,Blk hv B→H0.next≤B
 news:dl cs=P++news c (P.map (·.1)) L
 k:k=l.length - min P.length 8
theorem zGO (m n:Nat)(hm:800000000≤m)(hn:300000000≤n){H0 H:AH}{At M Lm c:Nat}{kv oth:Kvs}{f:Nat→List Kp}{av w:AV}{all:List Ca}{cs:List Kl}{P:List Kl}{hv:AV}{k i:Nat}(t:j8 H0 At M Lm kv)(hLm:Lm≤1000000)(hkv:kv.length≤100000000)(d:Drc kv oth f)(h1:1≤c)(h2:c≤16)(hs:K5 (f c) cs)
  (ha:CaR H0 av all) (hw:Kws H0 w (f c)) (hall:all.length≤1000) (hx32: ∀a∈all,a.2.1<4294967296∧a.2.2.1<18446744073709551616) (hi:i<all.length) (hP:P.length≤1000)
  (wn:Win H0 H c cs (all[i]::(all.take i).reverse) (f c) P hv k):
  ∃H' P' hv' k',WJ (dy (m+2)) n [.ptr At 0,av, .int .i64 ((c:Nat):Int),w, .int .i64 ((k:Nat):Int),hv, .int .i64 ((i:Nat):Int)] H=some (.norm [.ptr At 0,av, .int .i64 ((c:Nat):Int),w, .int .i64 ((k':Nat):Int),hv', .int .i64 (((i:Nat):Int) - ((1:Nat):Int))],H')∧Win H0 H' c cs ((all.take i).reverse) (f c) P' hv' k'∧P'.length≤P.length+1:=by
 obtain⟨wp,wh,wo,wnw,wk⟩:=wn
 have hl8:=hs.len
 have ha':CaR H av all:=Rw.stp ha wp fun _ _ x=>x
 obtain⟨p,i1,i2⟩:=ha'.at hi
 have hin:all[i]∈all:=zQ hi
 obtain⟨x32,u64⟩:=hx32 _ hin
 obtain⟨H2,A12,b2,p2,g2,m2,n2⟩:=box wp.ok (.cells ca0 58 1 false)
 obtain⟨H3,e3,g3,s3,n3⟩:=qY p2.ok g2 (l':=caV all[i]) rfl rfl
 have e3':stN 4 (.ptr A12 0) (.agg (caV all[i])) H2=some (qN,H3):=e3
 have N:=wp.next;have N2:=p2.next;have N3:=s3.next
 have P3:Prs H H3:=p2.fresh s3 fun B hB=>by omega
 have wh3:Hds H3 hv (P.map (·.1)):=yF.mono wh P3 fun _ _ x=>x
 have hge:((0:Nat):Int)≤((i:Nat):Int):=by omega
 have hS:(AV.str 0 0)=S []:=rfl
 have hb2: ∀K,bA (some (.cells [.int .i64 ((0:Nat):Int), .int .i64 ((0:Nat):Int), .int .u64 ((0:Nat):Int),S []] 58 1 false,fun A=> .ptr A 0)) H K=K (.ptr A12 0) H2:=fun K=>b2 _ K
 have r0:ld1 (.ptr A12 0) H3=some (.int .i64 ((all[i].1:Nat):Int)):=by rw[qL g3];rfl
 have hloop:=fun b=>zHL (dy (m+2)) n (a0:= .ptr At 0) (a1:=av) (a2:= .int .i64 ((c:Nat):Int)) (a7:=w) (a9:= .int .i64 ((k:Nat):Int)) (a11:= .int .i64 ((i:Nat):Int)) wh3 g3 b (by simp;omega) (by simp;omega)
 by_cases hskip:all[i].1=c∧all[i].2.1∉P.map (·.1)
 case neg=>
  have hnw:news c (P.map (·.1)) (all[i]::(all.take i).reverse)=news c (P.map (·.1)) ((all.take i).reverse):=by rw[news,if_neg hskip]
  rw[hnw]at wnw
  refine⟨H3,P,hv,k, ?_,⟨wp.trans P3,wh3,wo,wnw,wk⟩,by omega⟩
  have bt:zFa (dy (m+2)) n [.ptr At 0,av, .int .i64 ((c:Nat):Int),w, .int .i64 ((k:Nat):Int),hv, .int .i64 ((i:Nat):Int), .ptr A12 0, .bool true] H3=some (.exit 1 [.ptr At 0,av, .int .i64 ((c:Nat):Int),w, .int .i64 ((k:Nat):Int),hv, .int .i64 ((i:Nat):Int)],H3):=by
   simp only[zFa,eZ]
  by_cases hc:all[i].1=c
  ·have hcI: ¬(((all[i].1:Nat):Int)≠((c:Nat):Int)):=by omega
   have hany:(P.map (·.1)).any (fun y=>decide (y=all[i].2.1))=true:=by
    rw[List.any_eq_true]
    have:all[i].2.1∈P.map (·.1):=by
     by_cases h:all[i].2.1∈P.map (·.1)
     ·exact h
     ·exact absurd ⟨hc,h⟩ hskip
    exact⟨_,this,by simp⟩
   have hx:=hloop false
   rw[show(false||(P.map (·.1)).any fun y=>decide (y=all[i].2.1))=true by simpa using hany]at hx
   simp(maxSteps:=999999)(disch:=omega) only[WJ,eZ,hge,i1,i2,hS,hb2,e3',r0,hcI,hx,bt,zF9]
  ·have hcI:((all[i].1:Nat):Int)≠((c:Nat):Int):=by omega
   have hx:=hloop true
   rw[Bool.true_or]at hx
   simp(maxSteps:=999999)(disch:=omega) only[WJ,eZ,hge,i1,i2,hS,hb2,e3',r0,hcI,ne_eq,not_false_eq_true,hx,bt,zF9]
 case pos=>
 obtain⟨hc,hnin⟩:=hskip
 have hcI: ¬(((all[i].1:Nat):Int)≠((c:Nat):Int)):=by omega
 have hany:(false||(P.map (·.1)).any fun y=>decide (y=all[i].2.1))=false:=by
  rw[Bool.false_or,List.any_eq_false]
  intro y hy
  simp only[zC]
  exact fun e=>hnin (e▸hy)
 have hl0:=hloop false
 rw[hany]at hl0
 have hnw:news c (P.map (·.1)) (all[i]::(all.take i).reverse)=all[i].2::news c ((P++[all[i].2]).map (·.1)) ((all.take i).reverse):=by rw[news,if_pos ⟨hc,hnin⟩,List.map_append];rfl
 rw[hnw]at wnw
 have hp:P.length< (dl cs).length:=by rw[wnw];simp
 have hat:(dl cs)[P.length]=all[i].2:=by simp[wnw]
 have wnw':dl cs=(P++[all[i].2])++news c ((P++[all[i].2]).map (·.1)) ((all.take i).reverse):=by rw[wnw,List.append_assoc];rfl
 obtain⟨H4,A4,b4,p4,g4,m4,n4⟩:=box P3.ok (.cells [nAV all[i].2.1] 3 1 false)
 have hsrc:srcOf 1 (.slice A4 0 1 2) H4=some (1,[nAV all[i].2.1]):=by simp only[srcOf,g4];rfl
 obtain⟨hv',H5,e5,gw5,s5,f5⟩:=yF.app (bytes:=8) (m:=1) p4.ok (by decide) (yF.mono wh3 p4 fun _ _ x=>x) hsrc rfl rfl (by simp;omega) (by decide)
 have N4:=p4.next;have N5:=s5.next
 have P04:Prs H0 H4:=(wp.trans P3).trans p4
 have P5:Prs H0 H5:=P04.fresh s5 wo
 have g5:H5.h.get A12=some (.cells (caV all[i]) 58 1 false):=by
  have lt3:=P3.ok.lt g3
  rw[s5.keep _ (by omega) (fun hB=>by have:=yF.lt wh hB;omega),p4.keep _ lt3 (fun x=>x)];exact g3
 obtain⟨H6,e6,p6⟩:=zEp m n hm (by omega) (x:=all[i].2.1) (u:=all[i].2.2.1) (t.prs P5) hLm hkv d h1 h2 (by omega) x32
 obtain⟨u',_,hu',hwu⟩:=zLz u64
 obtain⟨H7,e7,p7⟩:=zEp m n hm (by omega) (x:=all[i].2.1) (u:=u') ((t.prs P5).prs p6) hLm hkv d h1 h2 (by omega) x32
 have hoth:(f c).find? (YC all[i].2.1 u')=none:=by have:=hs.other hp (u:=u') (by rw[hat];exact hu');rw[hat]at this;exact this
 rw[hoth]at e7
 simp only[zCp]at e7
 have P7:=(P5.trans p6).trans p7
 have gr: ∀ {H':AH},H'.h.get A12=some (.cells (caV all[i]) 58 1 false)→ld1 (.ptr A12 1) H'=some (.int .i64 ((all[i].2.1:Nat):Int))∧ld1 (.ptr A12 2) H'=some (.int .u64 ((all[i].2.2.1:Nat):Int))∧ld1 (.ptr A12 3) H'=some (S all[i].2.2.2):=fun g=>⟨by rw[qL g];rfl,by rw[qL g];rfl,by rw[qL g];rfl⟩
 have g6:=Prs.get p6 P5.ok g5
 have g7:=Prs.get p7 p6.ok g6
 have hv7:Hds H7 hv' ((P++[all[i].2]).map (·.1)):=by
  have:yF 1 3 H7 hv' _ _:=yF.mono gw5 (p6.trans p7) fun _ _ x=>x
  show yF 1 _ _ _ _ _
  rw[List.map_append,List.map_append,zE]
  simpa using this
 have hown: ∀B,Blk hv' B→H0.next≤B:=fun B hB=>by
  rcases f5 B hB with e | e
  ·exact wo B e
  ·omega
 have t5: ¬(((5:Nat):Int)≠((5:Nat):Int)):=by omega
 have t0: ¬(((0:Nat):Int)≠((0:Nat):Int)):=by omega
 have hlh:lnSl hv'=some (.int .i64 ((P.length+1:Nat):Int)):=by rw[(yF.row hv7).lnSl];simp
 have bl1:kZ 3 1 1 [.int .i64 ((0:Nat):Int)] [(0, .int .i64 ((all[i].2.1:Nat):Int))]=some (.cells [nAV all[i].2.1] 3 1 false,fun A=> .slice A 0 1 2):=rfl
 by_cases h8:P.length<8
 ·obtain⟨k0,hf,hk0⟩:=hs.find hp h8
  rw[hat]at hf hk0
  rw[hf]at e6
  have hr0:k0.r=all[i].2.2.2:=by have:=congrArg (fun z:Kl=>z.2.2) hk0;exact this
  simp only[zCp,hr0]at e6
  obtain⟨hi8,hc8⟩:=hs.at hp h8
  rw[hat]at hc8
  have hk1:k=(f c).length - P.length:=by rw[wk,Nat.min_eq_left (by omega)]
  have hkk:k - 1=(f c).length - 1 - P.length:=by omega
  have hk1':1≤k:=by omega
  obtain⟨A,o,w1,w2,w3,w4⟩:=(show Kws H7 w (f c)from yF.mono hw P7 fun _ _ x=>x).at hi8
  have y1:(f c)[(f c).length - 1 - P.length].x=all[i].2.1:=congrArg (fun z:Kl=>z.1) hc8
  have y2:(f c)[(f c).length - 1 - P.length].u=all[i].2.2.1:=congrArg (fun z:Kl=>z.2.1) hc8
  have y3:(f c)[(f c).length - 1 - P.length].r=all[i].2.2.2:=congrArg (fun z:Kl=>z.2.2) hc8
  rw[y1]at w2;rw[y2]at w3;rw[y3]at w4
  have w2':ld1 (.ptr A (o+0)) H7=some (.int .i64 ((all[i].2.1:Nat):Int)):=w2
  rw[← hkk]at w1
  refine⟨H7,P++[all[i].2],hv',k - 1, ?_,⟨P7,hv7,hown,wnw',by simp only[zE,qD];omega⟩,by simp⟩
  have hgt: ¬((8:Nat):Int)< ((P.length+1:Nat):Int):=by omega
  have hks:((k:Nat):Int) - ((1:Nat):Int)=((k - 1:Nat):Int):=by omega
  have hkn: ¬((k - 1:Nat):Int)< ((0:Nat):Int):=by omega
  have hsn: ∀a,jY .neq (S a) (S a)=some (.bool false):=fun a=>by rw[wZ];simp
  have tx: ¬(((all[i].2.1:Nat):Int)≠((all[i].2.1:Nat):Int)):=by omega
  have tu: ¬(((all[i].2.2.1:Nat):Int)≠((all[i].2.2.1:Nat):Int)):=by omega
  simp(maxSteps:=999999)(disch:=omega) only[WJ,eZ,hge,i1,i2,hS,hb2,e3',r0,hcI,hl0,zFa,(gr g3).1,bl1,b4,e5,(gr g5).1,(gr g5).2.1,e6,qM,nth,(gr g6).1,(gr g6).2.1,hwu,e7,t5,hlh,hgt,hks,t0,(gr g7).1,(gr g7).2.1,(gr g7).2.2,hsn,hkn,w1,w2',tx,w3,tu,w4,zF9]
 ·have hfar:=hs.far hp (by omega) all[i].2.2.1
  rw[hat]at hfar
  rw[hfar]at e6
  simp only[zCp]at e6
  refine⟨H7,P++[all[i].2],hv',k, ?_,⟨P7,hv7,hown,wnw',by simp only[zE,qD];omega⟩,by simp⟩
  have hgt:((8:Nat):Int)< ((P.length+1:Nat):Int):=by omega
  simp(maxSteps:=999999)(disch:=omega) only[WJ,eZ,hge,i1,i2,hS,hb2,e3',r0,hcI,hl0,zFa,(gr g3).1,bl1,b4,e5,(gr g5).1,(gr g5).2.1,e6,qM,nth,(gr g6).1,(gr g6).2.1,hwu,e7,t5,hlh,hgt,zF9]
theorem BQ (m n:Nat)(hm:800000000≤m)(hn:300000000≤n){H:AH}{At M Lm c:Nat}{kv oth:Kvs}{f:Nat→List Kp}{av:AV}{all:List Ca}(t:j8 H At M Lm kv)(hLm:Lm≤1000000)(hkv:kv.length≤100000000)(d:Drc kv oth f)(h1:1≤c)(h2:c≤16)(hs:K5 (f c) (jI c all.reverse))
  (ha:CaR H av all) (hall:all.length≤900) (hx32: ∀a∈all,a.2.1<4294967296∧a.2.2.1<18446744073709551616):
  ∃H',f25 (dy (m+2)) n [.ptr At 0,av, .int .i64 ((c:Nat):Int)] H=some (.bool true,H')∧Prs H H':=by
 have hl8:=hs.len
 obtain⟨H1,w,e1,p1,gw,fw⟩:=zCU m n hm (by omega) t hLm hkv d h1 h2 (by omega)
 obtain⟨z,hz⟩: ∃z:Nat→Int,∀j,z j=((all.length:Nat):Int) - ((1:Nat):Int) - ((j:Nat):Int):=⟨_,fun _=>rfl⟩
 have lp:=jB (b:=WJ (dy (m+2)) n) all.length (fun j us H'=> ∃P hv k,us=[.ptr At 0,av, .int .i64 ((c:Nat):Int),w, .int .i64 ((k:Nat):Int),hv, .int .i64 (z j)]∧Win H1 H' c (jI c all.reverse) ((all.take (all.length - j)).reverse) (f c) P hv k∧P.length≤j) (fun j us H' hj ⟨P,hv,k,hus,wn,hP⟩=>by
  subst hus
  have hi:all.length - 1 - j<all.length:=by omega
  have htk:(all.take (all.length - j)).reverse=all[all.length - 1 - j]::(all.take (all.length - 1 - j)).reverse:=by
   rw[show all.length - j=(all.length - 1 - j)+1 by omega,zI hi,List.reverse_append];rfl
  rw[htk]at wn
  obtain⟨H2,P',hv',k',e2,wn2,hP2⟩:=zGO m n hm hn (t.prs p1) hLm hkv d h1 h2 hs (Rw.stp ha p1 fun _ _ x=>x) gw (by omega) hx32 hi (by omega) wn
  have hzj:z j=((all.length - 1 - j:Nat):Int):=by rw[hz];omega
  have hzj1:z (j+1)=((all.length - 1 - j:Nat):Int) - ((1:Nat):Int):=by rw[hz];omega
  refine⟨_,H2,by rw[hzj];exact e2,P',hv',k',by rw[hzj1],by rw[show all.length - (j+1)=all.length - 1 - j by omega];exact wn2,by omega⟩) n _ H1 ⟨[], .nilSlice,(f c).length,rfl,⟨Stp.refl p1.ok, .inl (Own.nil ..),fun B hB=>(Blk.nil.1 hB).elim,by rw[Nat.sub_zero,zZ];exact(zHs c all.reverse).symm,by simp⟩,by simp⟩ (by omega)
 obtain⟨q,us,H2,e2,P,hv,k,rfl,wn,hP⟩:=lp
 obtain⟨wp,wh,wo,wnw,wk⟩:=wn
 rw[Nat.sub_self,List.take_zero]at wnw
 have hdl:dl (jI c all.reverse)=P:=by rw[wnw];simp[news]
 have hk0:k=0:=by rw[wk,hl8,hdl];omega
 subst hk0
 refine⟨H2, ?_,p1.trans wp⟩
 have hzn: ¬((0:Nat):Int)≤z all.length:=by rw[hz];omega
 have last:qV (q+1) (WJ (dy (m+2)) n) [.ptr At 0,av, .int .i64 ((c:Nat):Int),w, .int .i64 ((0:Nat):Int),hv, .int .i64 (z all.length)] H2=some (.exit 0 [.int .i64 ((0:Nat):Int)],H2):=qZ (by simp only[WJ,eZ,hzn])
 have hz0:((all.length:Nat):Int) - ((1:Nat):Int)=z 0:=by rw[hz];omega
 have hwz:IntKind.wrap .i64 (z 0)=z 0:=by have:=hz 0;rw[wrap_i64]<;>omega
 have hlw:lnSl w=some (.int .i64 (((f c).length:Nat):Int)):=gw.row.lnSl
 have hgt: ¬((8:Nat):Int)< (((f c).length:Nat):Int):=by omega
 have t0: ¬(((0:Nat):Int)≠((0:Nat):Int)):=by omega
 simp(maxSteps:=999999)(disch:=omega) only[f25,eZ,e1,qM,nth,t0,hlw,hgt,(show lnSl av=_ from ha.lnSl),hz0,hwz,e2,last,zNb]
structure Sk where
 kind:Int
 client:Int
 xid:Int
 sum:Nat
 reply:Str
 key:Str
def stV (s:Sk):List AV:=[.int .u8 s.kind, .int .i64 s.client, .int .i64 s.xid, .int .u64 ((s.sum:Nat):Int),S s.reply,S s.key]
def SkR (H:AH)(v:AV)(l:List Sk):Prop:=Rw 6 H v l.length (l.flatMap stV)
theorem zBt: ∀(l:List Sk) (i:Nat) (h:i<l.length),((l.flatMap stV).drop (i*6)).take 6=stV l[i]
 | p::l,0,_=>rfl
 | p::l,i+1,h=>by
  rw[zN,show(i+1)*6=6+i*6 by omega, ← List.drop_drop]
  exact zBt l i (by simpa using h)
theorem SkR.at {H:AH}{v:AV}{l:List Sk}(h:SkR H v l){i:Nat}(hi:i<l.length): ∃A o,(∀κ (z:Int),z=(i:Int)→yW 6 v (.int κ z)=some (.ptr A o))∧ld1 (.ptr A (o+1)) H=some (.int .i64 l[i].client)∧ld1 (.ptr A (o+2)) H=some (.int .i64 l[i].xid)∧ld1 (.ptr A (o+3)) H=some (.int .u64 ((l[i].sum:Nat):Int))∧ld1 (.ptr A (o+4)) H=some (S l[i].reply)∧ld1 (.ptr A (o+5)) H=some (S l[i].key):=by
 obtain⟨A,o,c,e,sz,g,h1,h2,h3,h4,h5⟩:=Rw.at h hi
 rw[zBt l i hi]at h5
 have gj: ∀j,j<6→c[o+j]? =(stV l[i])[j]? :=fun j hj=>by
  have:=congrArg (fun x=>x[j]?) h5
  simpa[qH hj]using this
 exact⟨A,o,h1,wN h2 (gj 1 (by omega)),wN h2 (gj 2 (by omega)),wN h2 (gj 3 (by omega)),wN h2 (gj 4 (by omega)),wN h2 (gj 5 (by omega))⟩
theorem JA (D:Dyn)(n:Nat){H:AH}{v:AV}{l:List Sk}(hv:SkR H v l): ∀(rr acc i kf:Nat),20000≤acc+rr→rr<kf→i≤acc→acc≤22001→i≤l.length→
  ∃b,jb 0 (qV kf (WK D n) [v, .int .i64 ((acc:Nat):Int), .int .i64 ((i:Nat):Int)] H) (zFc D n)=some (.ret (.bool b),H)∧(b=false→l.length≤120)
 | _,_,_,0,_,hk,_,_,_=>by omega
 | rr,acc,i,kf+1,hr,hk,hia,hac,hil=>by
  have hln:lnSl v=some (.int .i64 ((l.length:Nat):Int)):=hv.lnSl
  by_cases hend:i<l.length∧acc<20000
  case neg=>
   have hex:WK D n [v, .int .i64 ((acc:Nat):Int), .int .i64 ((i:Nat):Int)] H=some (.exit 0 [v, .int .i64 ((acc:Nat):Int)],H):=by
    by_cases hi:i<l.length
    ·have hiI:((i:Nat):Int)< ((l.length:Nat):Int):=by omega
     have haI: ¬((acc:Nat):Int)< ((20000:Nat):Int):=by omega
     simp(maxSteps:=999999)(disch:=omega) only[WK,eZ,hln,hiI,haI]
    ·have hiI: ¬((i:Nat):Int)< ((l.length:Nat):Int):=by omega
     simp(maxSteps:=999999)(disch:=omega) only[WK,eZ,hln,hiI]
   rw[qZ hex]
   by_cases ha:20000≤acc
   ·have haI:((20000:Nat):Int)≤((acc:Nat):Int):=by omega
    refine⟨true, ?_,fun h=>by cases h⟩
    simp(maxSteps:=999999)(disch:=omega) only[jb,Nat.beq_refl,cond_true,zFc,eZ,haI]
   ·have haI: ¬((20000:Nat):Int)≤((acc:Nat):Int):=by omega
    by_cases hl:120<l.length
    ·have hlI:((120:Nat):Int)< ((l.length:Nat):Int):=by omega
     refine⟨true, ?_,fun h=>by cases h⟩
     simp(maxSteps:=999999)(disch:=omega) only[jb,Nat.beq_refl,cond_true,zFc,eZ,haI,hln,hlI]
    ·have hlI: ¬((120:Nat):Int)< ((l.length:Nat):Int):=by omega
     refine⟨false, ?_,fun _=>by omega⟩
     simp(maxSteps:=999999)(disch:=omega) only[jb,Nat.beq_refl,cond_true,zFc,eZ,haI,hln,hlI]
  case pos=>
  obtain⟨hi,ha⟩:=hend
  obtain⟨A,o,i1,_,_,_,i5,i6⟩:=hv.at hi
  have hiI:((i:Nat):Int)< ((l.length:Nat):Int):=by omega
  have haI:((acc:Nat):Int)< ((20000:Nat):Int):=by omega
  have hi1:((i:Nat):Int)+((1:Nat):Int)=((i+1:Nat):Int):=by omega
  by_cases hr1:1000< (l[i].reply).length
  ·have hrI:((1000:Nat):Int)< (((l[i].reply).length:Nat):Int):=by omega
   refine⟨true, ?_,fun h=>by cases h⟩
   rw[vV (v:= .bool true) (H':=H) (by simp(maxSteps:=999999)(disch:=omega) only[WK,eZ,hln,hiI,haI,i1,i5,wM,hrI])]
   rfl
  ·have hrI: ¬((1000:Nat):Int)< (((l[i].reply).length:Nat):Int):=by omega
   by_cases hk1:1000< (l[i].key).length
   ·have hkI:((1000:Nat):Int)< (((l[i].key).length:Nat):Int):=by omega
    refine⟨true, ?_,fun h=>by cases h⟩
    rw[vV (v:= .bool true) (H':=H) (by simp(maxSteps:=999999)(disch:=omega) only[WK,eZ,hln,hiI,haI,i1,i5,i6,wM,hrI,hkI])]
    rfl
   ·have hkI: ¬((1000:Nat):Int)< (((l[i].key).length:Nat):Int):=by omega
    have s1:((acc:Nat):Int)+((1:Nat):Int)=((acc+1:Nat):Int):=by omega
    have s2:((acc+1:Nat):Int)+(((l[i].reply).length:Nat):Int)=((acc+1+(l[i].reply).length:Nat):Int):=by omega
    have s3:((acc+1+(l[i].reply).length:Nat):Int)+(((l[i].key).length:Nat):Int)=((acc+1+(l[i].reply).length+(l[i].key).length:Nat):Int):=by omega
    have body:WK D n [v, .int .i64 ((acc:Nat):Int), .int .i64 ((i:Nat):Int)] H=some (.norm [v, .int .i64 ((acc+1+(l[i].reply).length+(l[i].key).length:Nat):Int), .int .i64 ((i+1:Nat):Int)],H):=by
     simp(maxSteps:=999999)(disch:=omega) only[WK,eZ,hln,hiI,haI,i1,i5,i6,wM,hrI,hkI,s1,s2,s3,hi1]
    rw[xK body]
    exact JA D n hv (rr - 1) _ _ kf (by omega) (by omega) (by omega) (by omega) (by omega)
theorem zHC (D:Dyn)(n:Nat)(hn:30000≤n){H:AH}{v:AV}{l:List Sk}(hv:SkR H v l): ∃b,f24 D n [v] H=some (.bool b,H)∧(b=false→l.length≤120):=by
 obtain⟨b,e,h⟩:=JA D n hv 20000 0 0 n (by omega) (by omega) (by omega) (by omega) (by omega)
 refine⟨b, ?_,h⟩
 simp(maxSteps:=999999)(disch:=omega) only[f24,eZ,e]
def uN (z:Int):Nat:=(z % 18446744073709551616).toNat
theorem zD5 (z:Int):IntKind.wrap .u64 z=((uN z:Nat):Int):=by
 rw[wrap_u64,uN]
 have h1:=Int.emod_nonneg z (show(18446744073709551616:Int)≠0 by decide)
 omega
def zCO (s:Sk):Ca:=(1+uN s.client % 3,(uN s.xid % 20,s.sum,if 188<s.reply.length then[]else s.reply))
structure OnceI (H0 H:AH)(At M:Nat)(l:List Sk)(i:Nat)(av:AV):Prop where
 prs:Prs H0 H
 lo:H0.next≤At∧H0.next≤M
 tr: ∃kv f,j8 H At M (1000+2000*i) kv∧Drc kv BM f∧kv.length≤5+i∧ ∀c,K5 (f c) (jI c ((l.take i).map zCO).reverse)∧(f c).length≤8∧(f c≠[]→c≤3)∧jW (f c)≤i+1
 all:yF 4 58 H av i (((l.take i).map zCO).flatMap caV)
 own: ∀B,Blk av B→H0.next≤B∧B≠At∧B≠M
theorem j8.app4 {H H':AH}{At M L n e:Nat}{kv:Kvs}{v:AV}{l:List AV}(t:j8 H At M L kv)(hg:yF 4 e H v n l)(s:Stp (Blk v) H H'):j8 H' At M L kv:=by
 obtain⟨d,c,_,root,es,q,last,rfl,hc,ti,h2⟩:=t
 have hget: ∀B,Blk v B→ ∃o,H.h.get B=some o∧zNr o:=fun B hB=>by
  rcases hg with⟨_,⟨rfl,_⟩ | ⟨A,rfl,_,hgA⟩⟩ | ⟨_,A,e',g,rfl,_,hgA⟩
  ·exact(Blk.nil.1 hB).elim
  ·rw[Blk.slice.1 hB];exact⟨_,hgA, .inr (.inr ⟨_,_,_,_,rfl,by decide,by decide⟩)⟩
  ·rw[Blk.slice.1 hB];exact⟨_,hgA, .inr (.inr ⟨_,_,_,_,rfl,by decide,by decide⟩)⟩
 refine⟨d,c,_,root,es,q,last,rfl,hc,ti.stp s (fun hB=> ?_) (fun hB=> ?_) (fun z hz B hB hB'=> ?_),h2⟩
 ·exact yF.nsep hg ti.gT (fun e' g e=>by simp only[AObj.cells.injEq]at e;omega) hB
 ·exact yF.nsep hg ti.gM (fun e' g e=>by cases e) hB
 ·obtain⟨nd,hn⟩:=ti.pq.mem z hz
  obtain⟨o,ho,hr⟩:=hget B hB'
  exact hn.nblk ho hr hB
theorem UW (c:Nat)(L:List Ca)(a:Ca):jI c ((L++[a]).reverse)=if a.1=c then a.2::jI c L.reverse else jI c L.reverse:=by
 rw[List.reverse_append]
 show jI c (a::L.reverse)=_
 by_cases h:a.1=c
 ·simp[jI,h]
 ·simp[jI,h]
theorem caLen (l:List Sk){i:Nat}(h:i≤l.length):((l.take i).map zCO).length=i:=by simp;omega
set_option maxRecDepth 100000 in
theorem zEa (m n:Nat)(hm:800000000≤m)(hn:300000000≤n){H0 H:AH}{At M i:Nat}{lv av:AV}{l:List Sk}(hl0:SkR H0 lv l)(hl:l.length≤120)(hsum: ∀s∈l,s.sum<18446744073709551616)(hi:i<l.length)(o:OnceI H0 H At M l i av):
  ∃H' av',zAj (dy (m+2)) n [lv, .ptr At 0,av, .int .i64 ((i:Nat):Int)] H=some (.norm [lv, .ptr At 0,av', .int .i64 ((i+1:Nat):Int)],H')∧OnceI H0 H' At M l (i+1) av':=by
 obtain⟨P,lo,⟨kv,f,t,d,hkl,hf⟩,hall,hown⟩:=o
 have hl1:SkR H lv l:=Rw.stp hl0 P fun _ _ x=>x
 obtain⟨A,off,i1,i2,i3,i4,i5,i6⟩:=hl1.at hi
 have hin:l[i]∈l:=zQ hi
 have N:=P.next
 obtain⟨a,hca⟩: ∃a,a=zCO l[i]:=⟨_,rfl⟩
 have a1:a.1=1+uN l[i].client % 3:=by rw[hca];rfl
 have a2:a.2.1=uN l[i].xid % 20:=by rw[hca];rfl
 have a3:a.2.2.1=l[i].sum:=by rw[hca];rfl
 have a4:a.2.2.2=if 188<l[i].reply.length then[]else l[i].reply:=by rw[hca];rfl
 have hu:=hsum _ hin
 have hc3:1≤a.1∧a.1≤3:=by omega
 have hx20:a.2.1<20:=by omega
 have hr188:a.2.2.2.length≤188:=by
  rw[a4]
  split
  ·simp
  ·omega
 obtain⟨H2,A6,b2,p2,g2,m2,n2⟩:=box P.ok (.cells ca0 58 1 false)
 obtain⟨H3,e3,g3,s3,n3⟩:=qY p2.ok g2 (l':=[.int .i64 ((a.1:Nat):Int), .int .i64 ((a.2.1:Nat):Int), .int .u64 ((a.2.2.1:Nat):Int),S l[i].reply]) rfl rfl
 have e3':stN 4 (.ptr A6 0) (.agg [.int .i64 ((a.1:Nat):Int), .int .i64 ((a.2.1:Nat):Int), .int .u64 ((a.2.2.1:Nat):Int),S l[i].reply]) H2=some (qN,H3):=e3
 have N2:=p2.next;have N3:=s3.next
 have P3:Prs H H3:=p2.fresh s3 fun B hB=>by omega
 obtain⟨H4,p4,g4,e4⟩: ∃H4,Prs H H4∧H4.h.get A6=some (.cells (caV a) 58 1 false)∧(if 188<l[i].reply.length then stN 1 (.ptr A6 3) (S []) H3=some (qN,H4)else H4=H3):=by
  by_cases h:188<l[i].reply.length
  ·obtain⟨H4,e4,g4,s4⟩:=zIT s3.ok g3 (o:=3) (x:=S []) rfl (by simp)
   refine⟨H4,P3.fresh s4 fun B hB=>by omega, ?_,by rw[if_pos h];exact e4⟩
   rw[g4];simp only[caV,a4,if_pos h];rfl
  ·refine⟨H3,P3, ?_,by rw[if_neg h]⟩
   rw[g3];simp only[caV,a4,if_neg h]
 have N4:=p4.next
 obtain⟨hsay,hf8,hf3,hfn⟩:=hf a.1
 obtain⟨H5,kv5,e5,t5,d5,hk5,s5⟩:=zKD m n hm hn (x:=a.2.1) (u:=a.2.2.1) (r:=a.2.2.2) (t.prs p4) (by omega) (by omega) d hc3.1 (by omega) (by omega) (by omega) hr188 hf8 (by omega)
 have P45:Prs H0 H5:=(P.trans p4).fresh s5 fun B hB=>by rcases hB with e | e<;>omega
 have N5:=s5.next
 have lA6:=p4.ok.lt g4
 have lt:=t.lt
 have g5:H5.h.get A6=some (.cells (caV a) 58 1 false):=by rw[s5.keep _ lA6 (fun e=>by rcases e with e | e<;>omega)];exact g4
 have hall5:yF 4 58 H5 av i (((l.take i).map zCO).flatMap caV):=(yF.mono hall p4 fun _ _ x=>x).mono s5 fun B hB e=>by
  have:=hown B hB
  rcases e with e | e
  ·exact this.2.1 e
  ·exact this.2.2 e
 obtain⟨H6,A7,b6,p6,g6,m6,n6⟩:=box s5.ok (.cells (caV a) 58 4 false)
 have hsrc:srcOf 4 (.slice A7 0 1 2) H6=some (1,caV a):=by simp only[srcOf,g6];rfl
 obtain⟨av',H7,e7,gw7,s7,f7⟩:=yF.app (bytes:=40) (m:=1) p6.ok (by decide) (yF.mono hall5 p6 fun _ _ x=>x) hsrc rfl rfl (by omega) (by decide)
 have N6:=p6.next;have N7:=s7.next
 have P7:Prs H0 H7:=(P45.trans p6).fresh s7 fun B hB=>(hown B hB).1
 have hsnoc:(l.take (i+1)).map zCO=(l.take i).map zCO++[a]:=by rw[zI hi,List.map_append,hca];rfl
 have hall7:yF 4 58 H7 av' (i+1) (((l.take (i+1)).map zCO).flatMap caV):=by
  rw[hsnoc,zR];simpa using gw7
 have hown7: ∀B,Blk av' B→H0.next≤B∧B≠At∧B≠M:=fun B hB=>by
  rcases f7 B hB with e | e
  ·exact hown B e
  ·exact⟨by omega,by omega,by omega⟩
 have t7:j8 H7 At M (1000+2000*(i+1)) kv5:=((t5.prs p6).app4 (yF.mono hall5 p6 fun _ _ x=>x) s7).up (by omega)
 obtain⟨F,d5,hf'⟩: ∃F:Nat→List Kp,Drc kv5 BM F∧ ∀c,K5 (F c) (jI c ((l.take (i+1)).map zCO).reverse)∧(F c).length≤8∧(F c≠[]→c≤3)∧jW (F c)≤i+1+1:=⟨_,d5,fun c=>by
  rw[hsnoc,UW]
  by_cases hc:c=a.1
  ·subst hc
   simp only[if_true]
   exact⟨zDE hsay _ _ _,zHG _ _ _ _,fun _=>hc3.2,by rw[zEt];omega⟩
  ·simp only[if_neg hc,if_neg (Ne.symm hc)]
   obtain⟨x1,x2,x3,x4⟩:=hf c
   exact⟨x1,x2,x3,by omega⟩⟩
 have hxs: ∀b∈(l.take (i+1)).map zCO,b.2.1<4294967296∧b.2.2.1<18446744073709551616:=fun b hb=>by
  obtain⟨s,hs,rfl⟩:=List.mem_map.1 hb
  exact⟨by show uN s.xid % 20< _;omega,hsum s (List.mem_of_mem_take hs)⟩
 have hcl:((l.take (i+1)).map zCO).length=i+1:=caLen l (by omega)
 have hcr:CaR H7 av' ((l.take (i+1)).map zCO):=by rw[CaR,hcl];exact hall7.row
 have lp:=jB (b:=zCw (dy (m+2)) n) 3 (fun j us H'=>us=[lv, .ptr At 0,av', .int .i64 ((i:Nat):Int), .int .i64 ((j+1:Nat):Int)]∧Prs H7 H') (fun j us H' hj ⟨hus,Pj⟩=>by
  subst hus
  obtain⟨H8,e8,p8⟩:=BQ m n hm hn (c:=j+1) (t7.prs Pj) (by omega) (by omega) d5 (by omega) (by omega) (hf' (j+1)).1 (Rw.stp hcr Pj fun _ _ x=>x) (by omega) hxs
  refine⟨_,H8, ?_,rfl,Pj.trans p8⟩
  have hj3:((j+1:Nat):Int)≤((3:Nat):Int):=by omega
  have hj1:((j+1:Nat):Int)+((1:Nat):Int)=((j+1+1:Nat):Int):=by omega
  simp(maxSteps:=999999)(disch:=omega) only[zCw,eZ,hj3,e8,hj1]) n _ H7 ⟨rfl,Stp.refl s7.ok⟩ (by omega)
 obtain⟨q,us,H8,e8,rfl,P8⟩:=lp
 have last:qV (q+1) (zCw (dy (m+2)) n) [lv, .ptr At 0,av', .int .i64 ((i:Nat):Int), .int .i64 ((3+1:Nat):Int)] H8=some (.exit 2 [lv, .ptr At 0,av', .int .i64 ((i:Nat):Int)],H8):=qZ (by
  have h4: ¬((3+1:Nat):Int)≤((3:Nat):Int):=by omega
  simp only[zCw,eZ,h4])
 refine⟨H8,av', ?_,⟨P7.trans P8,lo,⟨kv5,F,t7.prs P8,d5,by omega,hf'⟩,yF.mono hall7 P8 fun _ _ x=>x,hown7⟩⟩
 have hiI:((i:Nat):Int)< ((l.length:Nat):Int):=by omega
 have hi1:((i:Nat):Int)+((1:Nat):Int)=((i+1:Nat):Int):=by omega
 have hS:(AV.str 0 0)=S []:=rfl
 have rem: ∀a b:Nat,b≠0→qP .rem (.int .u64 ((a:Nat):Int)) (.int .u64 ((b:Nat):Int))=some (.int .u64 ((a % b:Nat):Int)):=fun a b hb=>by
  rw[zIs _ _ _ (by omega)];rfl
 have q1:qP .rem (.int .u64 ((uN l[i].client:Nat):Int)) (.int .u64 ((3:Nat):Int))=some (.int .u64 ((uN l[i].client % 3:Nat):Int)):=rem _ 3 (by decide)
 have q2:qP .rem (.int .u64 ((uN l[i].xid:Nat):Int)) (.int .u64 ((20:Nat):Int))=some (.int .u64 ((uN l[i].xid % 20:Nat):Int)):=rem _ 20 (by decide)
 have q3:((1:Nat):Int)+((uN l[i].client % 3:Nat):Int)=((a.1:Nat):Int):=by omega
 have q4:jE [(0,1),(1,1),(2,1),(3,1)] [.int .i64 ((0:Nat):Int), .int .i64 ((0:Nat):Int), .int .u64 ((0:Nat):Int),S []] [(0, .int .i64 ((a.1:Nat):Int)),(1, .int .i64 ((a.2.1:Nat):Int)),(2, .int .u64 ((a.2.2.1:Nat):Int)),(3,S l[i].reply)]=some (.agg [.int .i64 ((a.1:Nat):Int), .int .i64 ((a.2.1:Nat):Int), .int .u64 ((a.2.2.1:Nat):Int),S l[i].reply]):=rfl
 have hb2: ∀K,bA (some (.cells [.int .i64 ((0:Nat):Int), .int .i64 ((0:Nat):Int), .int .u64 ((0:Nat):Int),S []] 58 1 false,fun A=> .ptr A 0)) H K=K (.ptr A6 0) H2:=fun K=>b2 _ K
 have r3:ld1 (.ptr A6 3) H3=some (S l[i].reply):=by rw[qL g3];rfl
 have gr:ld1 (.ptr A6 0) H4=some (.int .i64 ((a.1:Nat):Int))∧ld1 (.ptr A6 1) H4=some (.int .i64 ((a.2.1:Nat):Int))∧ld1 (.ptr A6 2) H4=some (.int .u64 ((a.2.2.1:Nat):Int))∧ld1 (.ptr A6 3) H4=some (S a.2.2.2):=⟨by rw[qL g4];rfl,by rw[qL g4];rfl,by rw[qL g4];rfl,by rw[qL g4];rfl⟩
 have t00: ¬(((0:Nat):Int)≠((0:Nat):Int)):=by omega
 have r5:ldN 4 (.ptr A6 0) H5=some (.agg (caV a)):=kU g5 rfl
 have bl1:kZ 58 4 1 [.int .i64 ((0:Nat):Int), .int .i64 ((0:Nat):Int), .int .u64 ((0:Nat):Int),S []] [(0, .agg (caV a))]=some (.cells (caV a) 58 4 false,fun A=> .slice A 0 1 2):=rfl
 have tail:zKS (dy (m+2)) n [lv, .ptr At 0,av, .int .i64 ((i:Nat):Int), .ptr A6 0] H4=some (.norm [lv, .ptr At 0,av', .int .i64 ((i+1:Nat):Int)],H8):=by
  have e8':qV n (zCw (dy (m+2)) n) [lv, .ptr At 0,av', .int .i64 ((i:Nat):Int), .int .i64 ((1:Nat):Int)] H7=some (.exit 2 [lv, .ptr At 0,av', .int .i64 ((i:Nat):Int)],H8):=by
   rw[show((1:Nat):Int)=((0+1:Nat):Int)by omega,e8,last]
  simp(maxSteps:=999999)(disch:=omega) only[zKS,eZ,gr.1,gr.2.1,gr.2.2.1,gr.2.2.2,e5,t00,r5,hS,bl1,b6,e7,e8',zN7,hi1]
 have hw1:=zD5 l[i].client
 have hw2:=zD5 l[i].xid
 rw[a2]at q4 e3'
 rw[a3]at q4 e3'
 by_cases h:188<l[i].reply.length
 ·rw[if_pos h]at e4
  have hI:((188:Nat):Int)< ((l[i].reply.length:Nat):Int):=by omega
  simp(maxSteps:=999999)(disch:=omega) only[zAj,eZ,(show lnSl lv=_ from hl0.lnSl),hiI,i1,i2,i3,i4,i5,hw1,hw2,q1,q2,q3,hS,q4,hb2,e3',r3,wM,hI,e4,tail]
 ·rw[if_neg h]at e4
  subst e4
  have hI: ¬((188:Nat):Int)< ((l[i].reply.length:Nat):Int):=by omega
  simp(maxSteps:=999999)(disch:=omega) only[zAj,eZ,(show lnSl lv=_ from hl0.lnSl),hiI,i1,i2,i3,i4,i5,hw1,hw2,q1,q2,q3,hS,q4,hb2,e3',r3,wM,hI,tail]
theorem zI4 {kv:Kvs}{f:Nat→List Kp}(d:Drc kv BM f): ∀p∈kv,p.1.length≤6:=fun p hp=>by
 rcases(d.mem p).1 hp with h | ⟨c,k,_,rfl⟩
 ·simp only[BM,List.mem_cons,List.not_mem_nil,or_false]at h
  rcases h with rfl | rfl | rfl | rfl | rfl<;>decide
 ·exact Nat.le_of_eq (Z5 c k.n)
theorem zIc (m n:Nat)(hm:200000000≤m)(hn:300000000≤n){H:AH}{At M L:Nat}{kv:Kvs}{f:Nat→List Kp}(t:j8 H At M L kv)(hL:L≤90000000)(d:Drc kv BM f)(hl:kv.length≤29):
  ∃H',qV n (zF2 (dy (m+2)) n) [.ptr At 0, .int .i64 ((0:Nat):Int), .str 0 0, .int .i64 ((0:Nat):Int)] H=some (.exit 4 [.ptr At 0, .int .i64 ((kv.length:Nat):Int)],H')∧Prs H H':=by
 have hk:H.ok:=by obtain⟨_,_,_,_,_,_,_,_,_,ti,_⟩:=t;exact ti.ok
 have hs:=d.srt
 have hS:(AV.str 0 0)=S []:=rfl
 have lp:=jB (b:=zF2 (dy (m+2)) n) kv.length (fun i us H'=>us=[.ptr At 0, .int .i64 ((i:Nat):Int),S (behind kv i), .int .i64 ((i:Nat):Int)]∧Prs H H') (fun i us H' hi ⟨hus,p0⟩=>by
  subst hus
  obtain⟨H1,e1,p1⟩:=zEi m n hm hn (behind kv i) (t.prs p0) hL
  rw[gV hs i (by omega),zA hi]at e1
  obtain⟨H2,A7,b2,p2,g2,m2,n2⟩:=box p1.ok (.cells [S [],S []] 48 1 false)
  obtain⟨H3,e3,g3,s3,n3⟩:=qY p2.ok g2 (l':=[S kv[i].1,S kv[i].2]) rfl rfl
  have e3':stN 2 (.ptr A7 0) (.agg [S kv[i].1,S kv[i].2]) H2=some (qN,H3):=e3
  have N1:=p1.next;have N2:=p2.next
  have p3:Prs H' H3:=(p1.trans p2).fresh s3 (fun B hB=>by omega)
  have r3:ld1 (.ptr A7 0) H3=some (S kv[i].1):=by rw[qL g3];rfl
  have hl6:=zI4 d kv[i] (zQ hi)
  have hadd:jY .add (S kv[i].1) (.str 1 0)=some (S (kv[i].1++[0])):=dT kv[i].1 [0] (by simp;omega)
  have hbe:behind kv (i+1)=kv[i].1++[0]:=by simp only[behind];rw[zK,zA hi,Option.getD_some]
  have t00: ¬(((0:Nat):Int)≠((0:Nat):Int)):=by omega
  have hiI:((i:Nat):Int)< ((100:Nat):Int):=by omega
  have hi1:((i:Nat):Int)+((1:Nat):Int)=((i+1:Nat):Int):=by omega
  have hbx:bxV 48 (.agg [S [],S []])=some (.cells [S [],S []] 48 1 false,fun A=> .ptr A 0):=rfl
  refine⟨_,H3, ?_,rfl,p0.trans p3⟩
  rw[hbe]
  simp(maxSteps:=999999)(disch:=omega) only[zF2,eZ,hiI,e1,nxR,qM,nth,hS,hbx,b2,e3',t00,r3,hadd,hi1]) n [.ptr At 0, .int .i64 ((0:Nat):Int), .str 0 0, .int .i64 ((0:Nat):Int)] H ⟨rfl,Stp.refl hk⟩ (by omega)
 obtain⟨k,us,H',e,rfl,p0⟩:=lp
 obtain⟨H1,e1,p1⟩:=zEi m n hm hn (behind kv kv.length) (t.prs p0) hL
 rw[gV hs kv.length (Nat.le_refl _),List.getElem?_eq_none (Nat.le_refl _)]at e1
 obtain⟨H2,A7,b2,p2,g2,m2,n2⟩:=box p1.ok (.cells [S [],S []] 48 1 false)
 obtain⟨H3,e3,g3,s3,n3⟩:=qY p2.ok g2 (l':=[S [],S []]) rfl rfl
 have e3':stN 2 (.ptr A7 0) (.agg [S [],S []]) H2=some (qN,H3):=e3
 have N1:=p1.next
 refine⟨H3, ?_,p0.trans ((p1.trans p2).fresh s3 (fun B hB=>by omega))⟩
 have hiI:((kv.length:Nat):Int)< ((100:Nat):Int):=by omega
 have t50:((5:Nat):Int)≠((0:Nat):Int):=by omega
 have hbx:bxV 48 (.agg [S [],S []])=some (.cells [S [],S []] 48 1 false,fun A=> .ptr A 0):=rfl
 rw[e]
 exact qZ (by simp(maxSteps:=999999)(disch:=omega) only[zF2,eZ,hiI,e1,nxR,qM,nth,hS,hbx,b2,e3',t50,ne_eq,not_false_eq_true])
def psK:Kvs:=[([113],[49]),([115],[50]),([114],[51]),([114,0],[52]),([114,17],[53])]
theorem zMv: ∀p∈psK,p∈BM∧mayK p.1=true∧p.1.length≤2:=by decide
theorem zKM (m n:Nat)(hn:300000000≤n){H:AH}{At M L:Nat}{kv:Kvs}{f:Nat→List Kp}{v x8:AV}(t:j8 H At M L kv)(hL:L≤90000000)(hkv:kv.length≤1000)(d:Drc kv BM f)(hv:zJG H v psK):
  ∃H',qV n (zF1 (dy (m+2)) n) [.ptr At 0,x8,v, .int .i64 ((5:Nat):Int), .int .i64 ((0:Nat):Int)] H=some (.exit 6 [x8],H')∧Prs H H':=by
 have hk:H.ok:=by obtain⟨_,_,_,_,_,_,_,_,_,ti,_⟩:=t;exact ti.ok
 have h5:psK.length=5:=rfl
 have lp:=jB (b:=zF1 (dy (m+2)) n) 5 (fun i us H'=>us=[.ptr At 0,x8,v, .int .i64 ((5:Nat):Int), .int .i64 ((i:Nat):Int)]∧Prs H H') (fun i us H' hi ⟨hus,p0⟩=>by
  subst hus
  have hi5:i<psK.length:=by omega
  obtain⟨h1,h2,h3⟩:=zMv psK[i] (zQ hi5)
  obtain⟨A,o,i1,i2,i3,i4⟩:=(show zJG H' v psK from Rw.stp hv p0 fun _ _ x=>x).at hi5
  have hpr:prV psK[i]=[S psK[i].1,S psK[i].2]:=rfl
  rw[hpr]at i2
  obtain⟨H2,A7,b2,p2,g2,m2,n2⟩:=box p0.ok (.cells [S [],S []] 48 1 false)
  obtain⟨H3,e3,g3,s3,n3⟩:=qY p2.ok g2 (l':=[S psK[i].1,S psK[i].2]) rfl rfl
  have e3':stN 2 (.ptr A7 0) (.agg [S psK[i].1,S psK[i].2]) H2=some (qN,H3):=e3
  have p3:Prs H' H3:=p2.fresh s3 (fun B hB=>by omega)
  obtain⟨H4,e4,p4⟩:=zKN (m+2) n hn psK[i].1 (t.prs (p0.trans p3)) hL (by omega)
  have hlk:lookP psK[i].1 kv=some psK[i].2:=(KS d.srt).2 ((d.mem _).2 (.inl h1))
  rw[if_pos h2,hlk]at e4
  refine⟨_,H4, ?_,rfl,(p0.trans p3).trans p4⟩
  have hiI:((i:Nat):Int)< ((5:Nat):Int):=by omega
  have hi1:((i:Nat):Int)+((1:Nat):Int)=((i+1:Nat):Int):=by omega
  have hS:(AV.str 0 0)=S []:=rfl
  have hbx:bxV 48 (.agg [S [],S []])=some (.cells [S [],S []] 48 1 false,fun A=> .ptr A 0):=rfl
  have t00: ¬(((0:Nat):Int)≠((0:Nat):Int)):=by omega
  have r3:ld1 (.ptr A7 0) H3=some (S psK[i].1):=by rw[qL g3];rfl
  have r4:ld1 (.ptr A7 1) H4=some (S psK[i].2):=by rw[qL (Prs.get p4 s3.ok g3)];rfl
  have hsn: ∀a,jY .neq (S a) (S a)=some (.bool false):=fun a=>by rw[wZ];simp
  simp(maxSteps:=999999)(disch:=omega) only[zF1,eZ,hiI,i1,i2,hS,hbx,b2,e3',r3,e4,geR,qM,nth,t00,r4,hsn,hi1]) n _ H ⟨rfl,Stp.refl hk⟩ (by omega)
 obtain⟨k,us,H',e,rfl,p0⟩:=lp
 refine⟨H', ?_,p0⟩
 rw[e]
 exact qZ (by simp only[zF1,eZ,zX])
theorem drcOnce_walk (m n:Nat)(hm:800000000≤m)(hn:300000000≤n){H:AH}(hk:H.ok){lv:AV}{l:List Sk}(hv:SkR H lv l)(hsum: ∀s∈l,s.sum<18446744073709551616):
  ∃H',f5z (dy (m+2)) n [lv] H=some (.bool true,H')∧Prs H H':=by
 have zok: ∀H:AH,z14 (dy (m+2)) n [] H=some (.bool true,H):=fun _=>rfl
 obtain⟨b,eb,hb⟩:=zHC (dy (m+2)) n (by omega) hv
 cases b with
 | true=>
  refine⟨H, ?_,Stp.refl hk⟩
  simp(maxSteps:=999999)(disch:=omega) only[f5z,eZ,zok,eb]
 | false=>
 have hl:=hb rfl
 obtain⟨H1,At,M,e1,p1,q1,q2,t1⟩:=zCF (dy (m+2)) n (by omega) hk
 obtain⟨H2,e2,t2,s2⟩:=cO m n (by omega) hn (k:=[113]) (v:=[49]) t1 (by omega) (by simp)
 rw[show u4 [113] [49]=true from rfl]at e2 t2
 simp only[if_true]at e2 t2
 obtain⟨H3,e3,t3,s3⟩:=cO m n (by omega) hn (k:=[115]) (v:=[50]) t2 (by omega) (by decide)
 rw[show u4 [115] [50]=true from rfl]at e3 t3
 simp only[if_true]at e3 t3
 obtain⟨H4,e4,t4,s4⟩:=cO m n (by omega) hn (k:=[114]) (v:=[51]) t3 (by omega) (by decide)
 rw[show u4 [114] [51]=true from rfl]at e4 t4
 simp only[if_true]at e4 t4
 obtain⟨H5,e5,t5,s5⟩:=cO m n (by omega) hn (k:=[114,0]) (v:=[52]) t4 (by omega) (by decide)
 rw[show u4 [114,0] [52]=true from rfl]at e5 t5
 simp only[if_true]at e5 t5
 obtain⟨H6,e6,t6,s6⟩:=cO m n (by omega) hn (k:=[114,17]) (v:=[53]) t5 (by omega) (by decide)
 rw[show u4 [114,17] [53]=true from rfl]at e6 t6
 simp only[if_true]at e6 t6
 have hoth:putP [114,17] [53] (putP [114,0] [52] (putP [114] [51] (putP [115] [50] (putP [113] [49] []))))=BM:=by decide
 rw[hoth]at t6
 have S26:Stp (fun B=>B=At∨B=M) H1 H6:=(((s2.trans s3).trans s4).trans s5).trans s6
 have P6:Prs H H6:=p1.fresh S26 fun B hB=>by rcases hB with e | e<;>omega
 have o0:OnceI H H6 At M l 0 .nilSlice:=⟨P6,⟨q1,q2⟩,⟨BM,fun _=>[],t6,zLf,by decide,fun c=>⟨zH4,by simp,fun h=>absurd rfl h,by simp[jW]⟩⟩, .inl (Own.nil ..),fun B hB=>(Blk.nil.1 hB).elim⟩
 have lp:=jB (b:=zAj (dy (m+2)) n) l.length (fun i us H'=> ∃av,us=[lv, .ptr At 0,av, .int .i64 ((i:Nat):Int)]∧OnceI H H' At M l i av) (fun i us H' hi ⟨av,hus,o⟩=>by
  subst hus
  obtain⟨H7,av',e7,o7⟩:=zEa m n hm hn hv hl hsum hi o
  exact⟨_,H7,e7,av',rfl,o7⟩) n _ H6 ⟨.nilSlice,rfl,o0⟩ (by omega)
 obtain⟨q,us,H7,e7,av,rfl,o7⟩:=lp
 obtain⟨P7,lo,⟨kv,f,t7,d7,hk7,hf7⟩,_,_⟩:=o7
 have hkv29:kv.length≤29:=zLg d7 (fun c=>(hf7 c).2.1) (fun c h=>(hf7 c).2.2.1 h)
 have last:qV (q+1) (zAj (dy (m+2)) n) [lv, .ptr At 0,av, .int .i64 ((l.length:Nat):Int)] H7=some (.exit 0 [.ptr At 0],H7):=qZ (by simp only[zAj,eZ,(show lnSl lv=_ from hv.lnSl),zX])
 obtain⟨H8,e8,p8⟩:=zIc m n (by omega) hn t7 (by omega) d7 hkv29
 obtain⟨H9,A9,b9,p9,g9,m9,n9⟩:=box p8.ok (.cells (psK.flatMap prV) 48 2 false)
 have hps:zJG H9 (.slice A9 0 5 10) psK:=⟨rfl, .inr (.inr ⟨_,_,_,_,_,_,_,rfl,g9,n9,by decide,rfl⟩)⟩
 obtain⟨H10,e10,p10⟩:=zKM m n hn (x8:= .int .i64 ((kv.length:Nat):Int)) ((t7.prs p8).prs p9) (by omega) (by omega) d7 hps
 refine⟨H10, ?_,((P7.trans p8).trans p9).trans p10⟩
 have k1:(AV.str 1 113)=S [113]:=rfl
 have k2:(AV.str 1 49)=S [49]:=rfl
 have k3:(AV.str 1 115)=S [115]:=rfl
 have k4:(AV.str 1 50)=S [50]:=rfl
 have k5:(AV.str 1 114)=S [114]:=rfl
 have k6:(AV.str 1 51)=S [51]:=rfl
 have k7:(AV.str 2 114)=S [114,0]:=rfl
 have k8:(AV.str 1 52)=S [52]:=rfl
 have k9:(AV.str 2 4466)=S [114,17]:=rfl
 have k10:(AV.str 1 53)=S [53]:=rfl
 have t00: ¬(((0:Nat):Int)≠((0:Nat):Int)):=by omega
 have bs: ∀a b:Str,jE [(0,1),(1,1)] [.str 0 0, .str 0 0] [(0,S a),(1,S b)]=some (.agg [S a,S b]):=fun a b=>rfl
 have bl:kZ 48 2 5 [.str 0 0, .str 0 0] [(0, .agg [S [113],S [49]]),(1, .agg [S [115],S [50]]),(2, .agg [S [114],S [51]]),(3, .agg [S [114,0],S [52]]),(4, .agg [S [114,17],S [53]])]=some (.cells (psK.flatMap prV) 48 2 false,fun A=> .slice A 0 5 10):=rfl
 have hln:lnSl (.slice A9 0 5 10)=some (.int .i64 ((5:Nat):Int)):=rfl
 have h29:((kv.length:Nat):Int)≤((29:Nat):Int):=by omega
 have tail:zKT (dy (m+2)) n [.ptr At 0] H7=some (.ret (.bool true),H10):=by
  simp(maxSteps:=999999)(disch:=omega) only[zKT,eZ,e8,zN5,k1,k2,k3,k4,k5,k6,k7,k8,k9,k10,bs,bl,b9,hln,e10,zN6,h29]
 simp(maxSteps:=999999)(disch:=omega) only[f5z,eZ,zok,eb,e1,cq,k1,k2,k3,k4,k5,k6,k7,k8,k9,k10,e2,e3,e4,e5,e6,t00,e7,last,tail]
end Go.Eng.Sh
end
section
namespace Go.Eng
theorem UQ {w:World}{base n:Nat}{a:Addr}{cs:List Value}(h:w.cells? base a n=some cs)(hn:0<n):a.spot=none∧ ∃arr e fz,w.heap[a.block]? =some (.cells arr e fz)∧ ∀j,j<n→arr[a.off+j]? =cs[j]? :=by
 obtain⟨_,hl,hc⟩:=World.cells?_some h
 have h0:=hc 0 hn
 rw[zA (by omega)]at h0
 obtain⟨c1,arr,te,fz,hg,_⟩:=UR h0
 have hsp:a.spot=none:=by simpa[Addr.add]using c1
 obtain⟨b,o,sp⟩:=a
 simp only at hsp;subst hsp
 have hb:(Addr.add ⟨b,o,none⟩ 0).block=b:=by simp[Addr.add]
 rw[hb]at hg
 refine⟨rfl,arr,te,fz,hg,fun j hj=> ?_⟩
 have hj':=hc j hj
 rw[zA (by omega)]at hj'⊢
 obtain⟨_,arr',te',fz',hg',hv⟩:=UR hj'
 rw[jL]at hg' hv
 simp only at hg' hv
 rw[hg]at hg'
 simp only[z6,Obj.cells.injEq]at hg'
 rw[← hg'.1]at hv;exact hv
theorem zAe {α β:Type}{k:Nat}{g:α→List β}(hg: ∀s,(g s).length=k): ∀l:List α,(l.flatMap g).length=l.length*k
 | []=>by simp
 | s::l=>by rw[zN,zE,zAe hg l,hg,zG,Nat.succ_mul,Nat.add_comm]
theorem zER {α β:Type}{k:Nat}{g:α→List β}(hg: ∀s,(g s).length=k): ∀(l:List α) (i j:Nat) (hi:i<l.length),j<k→(l.flatMap g)[i*k+j]? =(g l[i])[j]?
 | s::l,0,j,_,hj=>by
  rw[zN,Nat.zero_mul,Nat.zero_add,qC (by rw[hg];exact hj)];rfl
 | s::l,i+1,j,h,hj=>by
  have ih:=zER hg l i j (by simpa using h) hj
  rw[zN,qG (by rw[hg,Nat.succ_mul];omega)]
  have:(i+1)*k+j - (g s).length=i*k+j:=by rw[hg,Nat.succ_mul];omega
  rw[this,ih];rfl
theorem srows_arg {α:Type}[Inhabited α]{H:Type}{enc:TypeId×Value→H}{P:Program}{w:World}{base:Nat}{held:Bool}{fuel:Nat}{v:Value}{x:DataW H×List MemPlace}{t e:TypeId}{k:Nat}(hk:0<k){vals:α→List Value}(hvl: ∀s,(vals s).length=k){good:α→Prop}(ht:P.underlying t=some (.slice e))(hc:P.cellsOf e=k)
  (hd: ∀ {fuel:Nat} {cs:List Value} {x:DataW H×List MemPlace},DataW.trod enc P w base (fun _=>true) held fuel e cs=some x→ ∃s,cs=vals s∧good s)
  (h:DataW.trod enc P w base (fun _=>true) held fuel t [v]=some x):
  ∃l:List α,Rw k (H0 w) (bC w.heap.size v) l.length (l.flatMap fun s=>(vals s).map (cellAV w.heap.size))∧ ∀s∈l,good s:=by
 have hgl: ∀s,((vals s).map (cellAV w.heap.size)).length=k:=fun s=>by rw[qB,hvl]
 rcases Deep.open_slice ht h with⟨h1,_⟩ | ⟨a,len,cap,m,n,D,Pl,h1,_,hl,_,hm,_,hx⟩
 ·simp only[List.cons.injEq,and_true]at h1;subst h1
  exact⟨[],⟨by simp, .inl ⟨rfl,rfl⟩⟩,by simp⟩
 ·simp only[List.cons.injEq,and_true]at h1;subst h1
  simp only[if_true]at hm;subst hm
  by_cases h0:m=0
  ·subst h0
   obtain rfl:len=0:=by omega
   exact⟨[],⟨by simp, .inr (.inl ⟨rfl,rfl⟩)⟩,by simp⟩
  ·simp only[hc]at hx
   have hp: ∀i,i<m→ ∃p:α,w.cells? base (a.add (i*k)) k=some (vals p)∧good p:=fun i hi=>by
    obtain⟨cs,k1,k2⟩:=hx i hi
    obtain⟨p,rfl,hs⟩:=hd k2
    exact⟨p,k1,hs⟩
   obtain⟨Px,hP⟩:=Deep.choose_lt hp
   obtain⟨b,o,sp⟩:=a
   obtain⟨c1,arr,te,fz,hg,hat0⟩:=UQ (hP 0 (by omega)).1 hk
   have hsp:sp=none:=by simpa[Addr.add]using c1
   subst hsp
   rw[jL]at hg
   simp only at hg
   have hat: ∀i,i<m→ ∀j,j<k→arr[o+i*k+j]? =(vals (Px i))[j]? :=fun i hi j hj=>by
    obtain⟨_,arr',te',fz',hg',hv⟩:=UQ (hP i hi).1 hk
    rw[jL]at hg' hv
    simp only at hg' hv
    rw[hg]at hg'
    simp only[z6,Obj.cells.injEq]at hg'
    rw[hg'.1];exact hv j hj
   have hmk:(m - 1)*k+k=m*k:=by rw[← Nat.succ_mul,Nat.succ_eq_add_one,Nat.sub_add_cancel (by omega)]
   have hsz:o+m*k≤arr.size:=by
    have h2:=hat (m - 1) (by omega) (k - 1) (by omega)
    rw[zA (by rw[hvl];omega)]at h2
    have:=(Array.getElem?_eq_some_iff.1 h2).1
    omega
   have hlk:len*k≤m*k:=zV _ (by omega)
   rw[zIx w (by omega) (zEI hg)]
   refine⟨(List.range len).map Px,⟨zAe hgl _, .inr (.inr ⟨b,o,2*m,_,te,0,false,by simp,zIL w hg,zEI hg,by simp;omega, ?_⟩)⟩, ?_⟩
   ·apply List.ext_getElem?
    intro q
    simp only[qB,List.length_range]
    by_cases hq:q<len*k
    ·have hqi:q / k<len:=Nat.div_lt_of_lt_mul (by rw[Nat.mul_comm];exact hq)
     have hqj:q % k<k:=Nat.mod_lt _ hk
     have e1:q / k*k+q % k=q:=by rw[Nat.mul_comm];exact Nat.div_add_mod q k
     rw[qH hq,qI,qJ,Array.getElem?_toList]
     have h3:=hat (q / k) (by omega) (q % k) hqj
     rw[Nat.add_assoc,e1]at h3
     have h4:=zER hgl ((List.range len).map Px) (q / k) (q % k) (by simpa using hqi) hqj
     rw[e1]at h4
     rw[h3,h4,qJ]
     simp only[List.getElem_map,List.getElem_range]
    ·rw[List.getElem?_eq_none (by simp;omega),List.getElem?_eq_none (by rw[zAe hgl];simp;omega)]
   ·intro p hp
    obtain⟨i,hi,rfl⟩:=List.mem_map.1 hp
    exact(hP i (by have:=List.mem_range.1 hi;omega)).2
end Go.Eng
namespace Go.Proofs.YtngkjhifpekkcaaGreat.drcOnce
open Go.ChangeShapes Go.WideShapes Go.ChangeAt Go.RowKit
theorem zBP: Tryz.prog.cellsOf 56=6:=by kernel_rfl
theorem zIh: Tryz.prog.cellsOf 5=1:=by kernel_rfl
theorem zBR: Tryz.prog.cellsOf 3=1:=by kernel_rfl
theorem zIg: Tryz.prog.cellsOf 28=1:=by kernel_rfl
theorem zBQ: Tryz.prog.cellsOf 9=1:=by kernel_rfl
abbrev Raw:=Int×Int×Int×Int×ByteArray×ByteArray
def zC6 (s:Raw):List Value:=[.int .u8 s.1, .int .i64 s.2.1, .int .i64 s.2.2.1, .int .u64 s.2.2.2.1, .string s.2.2.2.2.1, .string s.2.2.2.2.2]
def zCs (s:Raw):Prop:=0≤s.2.2.2.1∧s.2.2.2.1<18446744073709551616
open Go.Eng.Sh (Sk stV SkR)
def zK2 (s:Raw):Sk:=⟨s.1,s.2.1,s.2.2.1,s.2.2.2.1.toNat,s.2.2.2.2.1.data.toList,s.2.2.2.2.2.data.toList⟩
theorem zMb (N:Nat){s:Raw}(h:zCs s):stV (zK2 s)=(zC6 s).map (Go.Eng.cellAV N):=by
 have hs:((s.2.2.2.1.toNat:Nat):Int)=s.2.2.2.1:=Int.toNat_of_nonneg h.1
 simp only[zC6,List.map_cons,List.map_nil,Go.Eng.cellAV_string,stV,zK2,hs]
 rfl
set_option maxRecDepth 100000 in
theorem zJY {H:Type}{enc:TypeId×Value→H}{w:World}{base:Nat}{held:Bool}{fuel:Nat}{cs:List Value}{x:DataW H×List MemPlace}(h:DataW.trod enc Tryz.prog w base (fun _=>true) held fuel 56 cs=some x): ∃s:Raw,cs=zC6 s∧zCs s:=by
 obtain⟨xs,n,_,_,hl,hlen,hx⟩:=DataW.trod_struct Tryz.underlying56 h
 rw[zBP]at hl
 match cs,hl with
 | [c0,c1,c2,c3,c4,c5],_=>
  match xs,hlen with
  | [y0,y1,y2,y3,y4,y5],_=>
   have k0:DataW.trod enc Tryz.prog w base (fun _=>true) held n 5 [c0]=some y0:=by
    have this:DataW.trod enc Tryz.prog w base (fun _=>true) held n 5 (List.take (Tryz.prog.cellsOf 5) (List.drop 0 [c0,c1,c2,c3,c4,c5]))=some y0:=hx 0 _ rfl
    rw[zIh]at this;exact this
   have k1:DataW.trod enc Tryz.prog w base (fun _=>true) held n 3 [c1]=some y1:=by
    have this:DataW.trod enc Tryz.prog w base (fun _=>true) held n 3 (List.take (Tryz.prog.cellsOf 3) (List.drop 1 [c0,c1,c2,c3,c4,c5]))=some y1:=hx 1 _ rfl
    rw[zBR]at this;exact this
   have k2:DataW.trod enc Tryz.prog w base (fun _=>true) held n 3 [c2]=some y2:=by
    have this:DataW.trod enc Tryz.prog w base (fun _=>true) held n 3 (List.take (Tryz.prog.cellsOf 3) (List.drop 2 [c0,c1,c2,c3,c4,c5]))=some y2:=hx 2 _ rfl
    rw[zBR]at this;exact this
   have k3:DataW.trod enc Tryz.prog w base (fun _=>true) held n 28 [c3]=some y3:=by
    have this:DataW.trod enc Tryz.prog w base (fun _=>true) held n 28 (List.take (Tryz.prog.cellsOf 28) (List.drop 3 [c0,c1,c2,c3,c4,c5]))=some y3:=hx 3 _ rfl
    rw[zIg]at this;exact this
   have k4:DataW.trod enc Tryz.prog w base (fun _=>true) held n 9 [c4]=some y4:=by
    have this:DataW.trod enc Tryz.prog w base (fun _=>true) held n 9 (List.take (Tryz.prog.cellsOf 9) (List.drop 4 [c0,c1,c2,c3,c4,c5]))=some y4:=hx 4 _ rfl
    rw[zBQ]at this;exact this
   have k5:DataW.trod enc Tryz.prog w base (fun _=>true) held n 9 [c5]=some y5:=by
    have this:DataW.trod enc Tryz.prog w base (fun _=>true) held n 9 (List.take (Tryz.prog.cellsOf 9) (List.drop 5 [c0,c1,c2,c3,c4,c5]))=some y5:=hx 5 _ rfl
    rw[zBQ]at this;exact this
   clear hx h
   obtain⟨a0,h0,_⟩:=DataW.trod_int Tryz.underlying5 k0
   obtain⟨a1,h1,_⟩:=DataW.trod_int Tryz.underlying3 k1
   obtain⟨a2,h2,_⟩:=DataW.trod_int Tryz.underlying3 k2
   obtain⟨a3,h3,_,hw⟩:=DataW.trod_int Tryz.underlying28 k3
   obtain⟨a4,h4,_⟩:=DataW.trod_string Tryz.underlying9 k4
   obtain⟨a5,h5,_⟩:=DataW.trod_string Tryz.underlying9 k5
   obtain rfl:=(List.cons.inj h0).1
   obtain rfl:=(List.cons.inj h1).1
   obtain rfl:=(List.cons.inj h2).1
   obtain rfl:=(List.cons.inj h3).1
   obtain rfl:=(List.cons.inj h4).1
   obtain rfl:=(List.cons.inj h5).1
   refine⟨(a0,a1,a2,a3,a4,a5),rfl, ?_⟩
   simp only[Lit.wf,IntKind.min,IntKind.max,IntKind.signed,IntKind.bits,z7,zC]at hw
   simp only[zCs]
   simp at hw
   omega
instance:Inhabited Raw:=⟨(0,0,0,0, .empty, .empty)⟩
set_option maxRecDepth 100000 in
theorem zGY {H:Type}{enc:TypeId×Value→H}{w:World}{base:Nat}{held:Bool}{v:Value}{d:DataW H}{ps:List MemPlace}(hv: ∃a len cap,v= .slice a len cap)(h:DataW.Trod enc Tryz.prog w base (fun _=>true) held 52 v d ps):
  ∃l:List Sk,SkR (Go.Eng.H0 w) (Go.Eng.argAV w.heap.size v) l∧ ∀s∈l,s.sum<18446744073709551616:=by
 obtain⟨a0,len0,cap0,rfl⟩:=hv
 obtain⟨fuel,hf⟩:=h
 obtain⟨l,h1,h2⟩:=Go.Eng.srows_arg (α:=Raw) (k:=6) (by decide) (vals:=zC6) (fun _=>rfl) (good:=zCs) Tryz.underlying52 zBP (fun h=>zJY h) hf
 refine⟨l.map zK2, ?_,fun s hs=> ?_⟩
 ·have e:(l.map zK2).flatMap stV=l.flatMap fun s=>(zC6 s).map (Go.Eng.cellAV w.heap.size):=by
   have: ∀l:List Raw,(∀s∈l,zCs s)→(l.map zK2).flatMap stV=l.flatMap fun s=>(zC6 s).map (Go.Eng.cellAV w.heap.size):=by
    intro l
    induction l with
    | nil=>intro _;rfl
    | cons s l ih=>
     intro hg
     rw[List.map_cons,zN,zN,zMb w.heap.size (hg s (zB ..)),ih fun s hs=>hg s (z8 _ hs)]
   exact this l h2
  show Go.Eng.Rw 6 _ _ (l.map zK2).length _
  rw[e,qB];exact h1
 ·obtain⟨r,hr,rfl⟩:=List.mem_map.1 hs
  have:=h2 r hr
  simp only[zK2]
  simp only[zCs]at this
  omega
theorem own:ownKnob Tryz.prog.godebug=none:=by kernel_rfl
theorem laid:laidOutB Tryz.prog=true:=by kernel_rfl
set_option maxRecDepth 100000 in
theorem contract (H:Type)(enc:TypeId×Value→H)(W:World)(base:Nat)(args:Array Value)(ds gs:List (DataW H))(before:List MemPlace)
  (hval: ∀(j:Nat) t v, Tryz.f5.params[j]? =some t→args[j]? =some v→Value.okWide Tryz.prog W .any base t v)
  (hW:DataW.Whole enc Tryz.prog Tryz.f5.params.toList Rows.drcOnceSpec.vars false W args.toList ds gs before):
  Calls Tryz.prog 5 args W fun e W'=> ∃v,e= .returned v∧Rows.drcOnceSpec.post enc Tryz.prog Tryz.f5 false true false false W args v W':=by
 have hW':=hW
 obtain⟨p,q,hA0,hV,rfl,hfz,hnd⟩:=hW
 have hA:DataW.TrodAll enc Tryz.prog W 0 (fun _=>true) true Tryz.f5.params.toList args.toList ds p:=hA0
 rw[Tryz.params5]at hA hval
 obtain⟨v0,vs0,d0,ds0,p0,q0,hargs,rfl,rfl,h0,r0⟩:=trodAll_cons hA
 obtain⟨rfl,rfl,rfl⟩:=trodAll_nil r0
 obtain rfl:args= #[v0]:=by cases args;simp_all
 obtain⟨rfl,rfl⟩:=trodVars_none hV
 clear hA0
 have hlt0: ∀x∈p0,x.block<W.heap.size:=fun x hx=>hW'.lt x (by simp[hx])
 obtain⟨l,hN,hsum⟩:=zGY (okWide_slice Tryz.underlying52 (hval 0 52 v0 rfl rfl)) h0
 obtain⟨m,hm⟩: ∃m:Nat,800000000≤m:=⟨_,Nat.le_refl _⟩
 obtain⟨H',hrun,hP⟩:=Go.Eng.Sh.drcOnce_walk m (m+2) hm (by omega) (Go.Eng.H0_ok W) hN hsum
 have hcall:=Go.Eng.calls_param (Go.Eng.Sh.f5z_ok (Go.Eng.Sh.dy_ok (m+2)) (m+2)) W (args:= #[v0]) (H':=H') hrun (fun A hA=>hP.keep A hA (fun x=>x))
 refine hcall.mono fun e W' ⟨he,hb⟩=> ?_
 subst he
 simp only[List.append_nil]at hW'
 refine⟨_,rfl,_,_,_,[],p0++[],[],hW', ?_, ?_,rfl,hb.frame _,fun h=>by cases h⟩
 ·exact trodAll_cons_mk (shut_bool Tryz.underlying4 _) trodAll_mk0
 ·exact trodAll_cons_mk (Below.trod laid (by kernel_rfl) (of_decide_eq_true (by kernel_rfl)) h0 hb hlt0) trodAll_mk0
set_option maxRecDepth 100000 in
theorem lifted (os:Os)(started:os.Started)(H:Type)(enc:TypeId×Value→H):
  ReturnsInHanded {} Tryz.checked os 5 .any (Rows.drcOnceSpec.pre6 enc Tryz.prog Tryz.f5 Rows.drcOnceRow.domain false) (Rows.drcOnceSpec.post enc Tryz.prog Tryz.f5 false true false false):=by
 refine returnsInHanded_of_change (C:= Tryz.checked) own started (by kernel_rfl) Tryz.func5
  (ChangeSpec.witness6 (enc:=enc) (C:= Tryz.checked) false ⟨#[], #[.slice none 0 0],[]⟩ 8 (by kernel_rfl) (by kernel_rfl) (by kernel_rfl) (by kernel_rfl)) ?_
 intro W base args ds gs before hval hW _ _
 exact contract H enc W base args ds gs before hval hW
theorem holds:Rows.DrcOnceSaid:=
 OpenClaim.holds_of_wide 5 Tryz.f5 rfl rfl rfl rfl rfl rfl rfl ⟨rfl,rfl,rfl,rfl,rfl⟩ rfl rfl rfl rfl rfl (by kernel_rfl) Tryz.func5 (by kernel_rfl)
  (of_decide_eq_true (by kernel_rfl)) (by unfold Func.isWrapper;first | (rw[if_pos (by decide+kernel)];kernel_rfl) | (rw[if_neg (by decide+kernel)];exact⟨rfl,rfl⟩))
  (fun os started H enc _=>lifted os started H enc)
end Go.Proofs.YtngkjhifpekkcaaGreat.drcOnce
namespace Go.Proofs.YtngkjhifpekkcaaGreat
theorem drcOnce_holds:Rows.DrcOnceSaid:=drcOnce.holds
end Go.Proofs.YtngkjhifpekkcaaGreat
end
