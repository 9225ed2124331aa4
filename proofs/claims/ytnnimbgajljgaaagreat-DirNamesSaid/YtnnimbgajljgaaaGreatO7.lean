/- A checked evaluator for the program, and what it tells, part 7: no condition. -/
import Derived.Test.YtnnimbgajljgaaaGreatO6
import Derived.Test.YtnnimbgajljgaaaGreatRows
import Derived.ProofKit
import Derived.OpenShut
import Derived.Carry
set_option linter.all false
set_option linter.unusedVariables false
set_option linter.unusedSimpArgs false
set_option maxHeartbeats 8000000
set_option maxRecDepth 20000
section
namespace Go.Eng
theorem zAo {a b:Nat}(ha:a<18014398509481984)(hb:b<256):qN .or (.int .i64 ((a*256:Nat):Int)) (.int .i64 (b:Int))=some (.int .i64 (((a*256+b):Nat):Int)):=by
 have h3:a*256||| b=a*256+b:=by
  have:=Nat.two_pow_add_eq_or_of_lt (b:=b) (i:=8) (by omega) a
  rw[Nat.mul_comm a 256];exact this.symm
 have hk:keq .i64 .i64=true:=rfl
 have hA:BitVec.ofInt 64 ((a*256:Nat):Int)=BitVec.ofNat 64 (a*256):=BitVec.ofInt_natCast _ _
 have hB:BitVec.ofInt 64 (b:Int)=BitVec.ofNat 64 b:=BitVec.ofInt_natCast _ _
 have hv:(BitVec.ofNat 64 (a*256)||| BitVec.ofNat 64 b).toNat=a*256+b:=by
  rw[BitVec.toNat_or,BitVec.toNat_ofNat,BitVec.toNat_ofNat,Nat.mod_eq_of_lt (by omega),Nat.mod_eq_of_lt (by omega),h3]
 have h6:qN .or (.int .i64 (.ofNat (a*256))) (.int .i64 (.ofNat b))=fK.slow .or .i64 (.ofNat (a*256)) (.ofNat b):=by
  simp only[qN,xS,hk,cond_true,fK,IntKind.signed,Bool.not_true,Bool.false_and,cond_false]
 have h7:fK.slow .or .i64 (.ofNat (a*256)) (.ofNat b)=some (.int .i64 ((a*256+b:Nat):Int)):=by
  have h8:fK.slow .or .i64 (.ofNat (a*256)) (.ofNat b)=fI (IntKind.wrap .i64 ((BitVec.ofInt 64 ((a*256:Nat):Int)||| BitVec.ofInt 64 (b:Int)).toNat:Nat)) (fun n=>some (.int .i64 n)):=rfl
  rw[h8,zA5,hA,hB,hv,wrap_i64 (by omega) (by omega)]
 exact h6.trans h7
theorem UO {a b:Nat}(ha:a<18446744073709551616)(hb:b<256):qN .xor (.int .u64 ((a:Nat):Int)) (.int .u64 (b:Int))=some (.int .u64 ((Nat.xor a b:Nat):Int))∧Nat.xor a b<18446744073709551616:=by
 have h1:Nat.blt a (Z0 .u64)=true:=by rw[zJ];exact ha
 have h2:Nat.blt b (Z0 .u64)=true:=by rw[zJ];exact Nat.lt_trans hb (by decide)
 have hl:Nat.xor a b<18446744073709551616:=Nat.xor_lt_two_pow (n:=64) ha (Nat.lt_trans hb (by decide))
 have hk:keq .u64 .u64=true:=rfl
 have h5:IntKind.wrap .u64 ((Nat.xor a b:Nat):Int)=((Nat.xor a b:Nat):Int):=by rw[wrap_u64];omega
 have h4:fK .xor .u64 (.ofNat a) (.ofNat b)=some (.int .u64 ((Nat.xor a b:Nat):Int)):=by
  simp only[fK,IntKind.signed,Bool.not_false,h1,h2,Bool.and_self,cond_true,kV,Int.ofNat_eq_natCast,h5]
 have h6:qN .xor (.int .u64 (.ofNat a)) (.int .u64 (.ofNat b))=fK .xor .u64 (.ofNat a) (.ofNat b):=by simp only[qN,xS,hk,cond_true]
 exact⟨h6.trans h4,hl⟩
theorem zHv {a:Nat}(ha:a<18446744073709551616):qN .and (.int .u64 ((a:Nat):Int)) (.int .u64 ((1023:Nat):Int))=some (.int .u64 ((a % 1024:Nat):Int)):=by
 have h1:Nat.blt a (Z0 .u64)=true:=by rw[zJ];exact ha
 have h2:Nat.blt 1023 (Z0 .u64)=true:=rfl
 have hl:Nat.land a 1023=a % 1024:=Nat.and_two_pow_sub_one_eq_mod a 10
 have hk:keq .u64 .u64=true:=rfl
 have h5:IntKind.wrap .u64 ((a % 1024:Nat):Int)=((a % 1024:Nat):Int):=by rw[wrap_u64];omega
 have h4:fK .and .u64 (.ofNat a) (.ofNat 1023)=some (.int .u64 ((a % 1024:Nat):Int)):=by
  simp only[fK,IntKind.signed,Bool.not_false,h1,h2,Bool.and_self,cond_true,hl,kV,Int.ofNat_eq_natCast,h5]
 have h6:qN .and (.int .u64 (.ofNat a)) (.int .u64 (.ofNat 1023))=fK .and .u64 (.ofNat a) (.ofNat 1023):=by simp only[qN,xS,hk,cond_true]
 exact h6.trans h4
end Go.Eng
namespace Go.Eng.Sh
open Go.Nd (Ptr yF qP Kvs Srt)
open Go.Bt Go.Dr Go.Di
theorem slA4 (A:Nat):gQ 4 1 (.ptr A 0) none none none=some (.slice A 0 4 8):=rfl
theorem Q1 (D:Dyn)(n:Nat)(hn:100≤n){H:AH}(hk:H.ok)(x:Nat)(hx:x<9223372036854775808):
  ∃H',f32 D n [.int .i64 ((x:Nat):Int)] H=some (S (dig x 4),H')∧Prs H H':=by
 obtain⟨H1,A,b1,p1,g1,m1,n1⟩:=box hk (.cells (gJ x 4 0) 115 1 false)
 have hb1: ∀K,bA (some (.cells [(.int .u8 ((0:Nat):Int)),(.int .u8 ((0:Nat):Int)),(.int .u8 ((0:Nat):Int)),(.int .u8 ((0:Nat):Int))] 115 1 false,fun A=> .ptr A 0)) H K=K (.ptr A 0) H1:=fun K=>b1 _ K
 have lp:=xU (b:=zEI D n) 4 (fun i us H'=>us=[.int .i64 ((x:Nat):Int), .ptr A 0, .int .i64 ((i:Nat):Int)]∧Prs H H'∧H'.h.get A=some (.cells (gJ x 4 i) 115 1 false)) (fun i us H' hi ⟨hus,P,g⟩=>by
  subst hus
  obtain⟨H2,e2,g2,s2⟩:=zHV P.ok g (o:=i) (x:= .int .u8 ((x / 256 ^ (4 - 1 - i) % 256:Nat):Int)) rfl (by simp[gJ];omega)
  rw[zCg x 4 hi]at g2
  refine⟨_,H2, ?_,rfl,P.fresh s2 (fun B hB=>by omega),g2⟩
  have hs2:((3:Nat):Int) - ((i:Nat):Int)=((4 - 1 - i:Nat):Int):=by omega
  have hm8:((8:Nat):Int)*((4 - 1 - i:Nat):Int)=((8*(4 - 1 - i):Nat):Int):=by omega
  have hpw:(2:Nat) ^ (8*(4 - 1 - i))=256 ^ (4 - 1 - i):=zDw _
  have hshr:qN .shr (.int .i64 ((x:Nat):Int)) (.int .i64 ((8*(4 - 1 - i):Nat):Int))=some (.int .i64 ((x / 256 ^ (4 - 1 - i):Nat):Int)):=by
   rw[zBy _ _ (by omega) (show 8*(4 - 1 - i)≤64 by omega), ← hpw]
   congr 2
   all_goals(rw[Int.natCast_ediv,Int.natCast_pow];rfl)
  have hw:IntKind.wrap .u8 ((x / 256 ^ (4 - 1 - i):Nat):Int)=((x / 256 ^ (4 - 1 - i) % 256:Nat):Int):=by rw[wrap_u8];omega
  have hix:QB 4 1 (.ptr A 0) (.int .i64 ((i:Nat):Int))=some (.ptr A i):=by rw[dH 4 A 0 .i64 i rfl hi,Nat.zero_add]
  have hiI:((i:Nat):Int)< ((4:Nat):Int):=by omega
  have hi1:((i:Nat):Int)+((1:Nat):Int)=((i+1:Nat):Int):=by omega
  simp(maxSteps:=999999)(disch:=omega) only[zEI,eZ,hiI,hs2,hm8,hshr,hw,hix,e2,hi1]) n _ H1 ⟨rfl,p1,g1⟩ (by omega)
 obtain⟨r,us,H2,e2,rfl,P2,g2⟩:=lp
 refine⟨H2, ?_,P2⟩
 have last:qX (r+1) (zEI D n) [.int .i64 ((x:Nat):Int), .ptr A 0, .int .i64 ((4:Nat):Int)] H2=some (.exit 0 [.ptr A 0],H2):=yE (by simp only[zEI,eZ,zZ])
 have hcv:zFa (.slice A 0 4 8) H2=some (S (dig x 4)):=WJ (n:=4) ⟨by simp[dU,jR], .inr (.inr ⟨_,_,_,_,_,_,_,rfl,g2,P2.ok.lt g2,by simp[gJ],by
  rw[zFn,List.drop_zero,zL (by simp[gJ]),gJ]
  refine List.map_congr_left fun j hj=> ?_
  rw[if_pos (by simpa using hj)]⟩)⟩ (by simp)
 simp(maxSteps:=999999)(disch:=omega) only[f32,eZ,hb1,e2,last,zM1,slA4,hcv]
theorem zAh (D:Dyn)(n:Nat)(hn:100≤n){H:AH}(hk:H.ok){d c:Nat}(hd:d<9223372036854775808)(hc:c<9223372036854775808):
  ∃H',f31 D n [.int .i64 ((d:Nat):Int), .int .i64 ((c:Nat):Int)] H=some (S (yA d c),H')∧Prs H H':=by
 obtain⟨H1,e1,p1⟩:=Q1 D n hn hk d hd
 obtain⟨H2,e2,p2⟩:=Q1 D n hn p1.ok c hc
 refine⟨H2, ?_,p1.trans p2⟩
 have hS:(AV.str 1 101)=S [101]:=rfl
 have h1:kO .add (S [101]) (S (dig d 4))=some (S (gS d)):=by rw[WO _ _ (by simp[jR])];rfl
 have h2:kO .add (S (gS d)) (S (dig c 4))=some (S (yA d c)):=by rw[WO _ _ (by simp[jR,wB])];rfl
 simp(maxSteps:=999999)(disch:=omega) only[f31,eZ,hS,e1,h1,e2,h2]
theorem U7 (D:Dyn)(n:Nat)(hn:100≤n){H:AH}(s:Str)(hs:4≤s.length):f58 D n [S s] H=some (.int .i64 ((num (s.take 4):Nat):Int),H):=by
 have lp:qX n (zH0 D n) [S s, .int .i64 ((0:Nat):Int), .int .i64 ((0:Nat):Int)] H=some (.exit 0 [.int .i64 ((num (s.take 4):Nat):Int)],H):=by
  refine xV (fun i=>[S s, .int .i64 ((num (s.take i):Nat):Int), .int .i64 ((i:Nat):Int)]) 4 (fun i hi=> ?_) (fun k=> ?_) n (by omega)
  ·have hb:=zL9 (s.take i) (i:=3) (by simp;omega)
   have h7:(256:Nat) ^ 3=16777216:=by decide
   have hx:=VL s .i64 (show i<s.length by omega)
   have hsh:qN .shl (.int .i64 ((num (s.take i):Nat):Int)) (.int .u64 ((8:Nat):Int))=some (.int .i64 ((num (s.take i)*256:Nat):Int)):=by
    rw[zHu _ _ _ (by decide)]
    have h8:(2:Int) ^ 8=256:=by decide
    rw[h8,wrap_i64 (by omega) (by omega)]
    congr 2
   have hc:=(s[i]).toNat_lt
   have hor:=zAo (a:=num (s.take i)) (b:=(s[i]).toNat) (by omega) (by omega)
   have hw:IntKind.wrap .i64 (((s[i]).toNat:Nat):Int)=(((s[i]).toNat:Nat):Int):=wrap_i64 (by omega) (by omega)
   have hiI:((i:Nat):Int)< ((4:Nat):Int):=by omega
   have hi1:((i:Nat):Int)+((1:Nat):Int)=((i+1:Nat):Int):=by omega
   simp(maxSteps:=999999)(disch:=omega) only[zH0,eZ,hiI,hsh,hx,hw,hor,hi1,zGt s (show i<s.length by omega)]
  ·refine yE ?_
   simp only[zH0,eZ,zZ]
 simp only[f58,eZ,lp,zLU]
theorem zJT (D:Dyn)(n:Nat){H:AH}(s:Str)(hn:s.length<n)(hs:s.length≤1000000000):f46 D n [S s] H=some (.int .u64 ((zCq s:Nat):Int),H):=by
 have lp:qX n (zGZ D n) [.int .u64 ((14695981039346656037:Nat):Int),S s, .int .i64 ((s.length:Nat):Int), .int .i64 ((0:Nat):Int)] H=some (.exit 0 [.int .u64 ((zCq s:Nat):Int)],H):=by
  refine xV (fun i=>[.int .u64 ((zCq (s.take i):Nat):Int),S s, .int .i64 ((s.length:Nat):Int), .int .i64 ((i:Nat):Int)]) s.length (fun i hi=> ?_) (fun k=> ?_) n (by omega)
  ·have hl:zCq (s.take i)<18446744073709551616:=BG _ _ (by omega)
   have hx:=VL s .i64 hi
   have hc:=(s[i]).toNat_lt
   obtain⟨hxor,hxl⟩:=UO (a:=zCq (s.take i)) (b:=(s[i]).toNat) hl (by omega)
   have hw:IntKind.wrap .u64 (((s[i]).toNat:Nat):Int)=(((s[i]).toNat:Nat):Int):=by rw[wrap_u64];omega
   have hmul:qN .mul (.int .u64 ((Nat.xor (zCq (s.take i)) (s[i]).toNat:Nat):Int)) (.int .u64 ((1099511628211:Nat):Int))=some (.int .u64 ((zCq (s.take (i+1)):Nat):Int)):=by
    rw[zBB,wrap_u64,zN hi]
    have e:zCq (s.take i++[s[i]])=Nat.xor (zCq (s.take i)) (s[i]).toNat*1099511628211 % 18446744073709551616:=XK _ _ _
    rw[e,Int.natCast_emod,Int.natCast_mul];rfl
   have hiI:((i:Nat):Int)< ((s.length:Nat):Int):=by omega
   have hi1:((i:Nat):Int)+((1:Nat):Int)=((i+1:Nat):Int):=by omega
   simp(maxSteps:=999999)(disch:=omega) only[zGZ,eZ,hiI,hx,hw,hxor,hmul,hi1]
  ·refine yE ?_
   simp only[zGZ,eZ,zZ,qB]
 simp only[f46,f64,eZ,u0,lp,zLR]
theorem bJ (D:Dyn)(n:Nat){H:AH}(s:Str)(hn:s.length<n)(hs:s.length≤1000000000):f22 D n [S s] H=some (.int .i64 ((yM s:Nat):Int),H):=by
 have hl:zCq s<18446744073709551616:=BG _ _ (by omega)
 have h1:=zHv hl
 have hh:=uV s
 have hw:IntKind.wrap .i64 ((zCq s % 1024:Nat):Int)=((yM s:Nat):Int):=wrap_i64 (by omega) (by omega)
 simp only[f22,eZ,zJT D n s hn hs,h1,hw]
theorem jZ (D:Dyn)(n:Nat){H:AH}(x:Int):f26 D n [.int .i64 x] H=some (.bool (decide (1≤x)&&decide (x≤2147483647)),H):=by
 by_cases h1:(1:Int)≤x
 ·by_cases h2:x≤2147483647
  ·have a1:((1:Nat):Int)≤x:=by omega
   have a2:x≤((2147483647:Nat):Int):=by omega
   simp only[f26,eZ,a1,a2,h1,h2,decide_true,Bool.and_self]
  ·have a1:((1:Nat):Int)≤x:=by omega
   have a2: ¬x≤((2147483647:Nat):Int):=by omega
   simp only[f26,eZ,a1,a2,h1,h2,decide_true,decide_false,Bool.and_false]
 ·have a1: ¬((1:Nat):Int)≤x:=by omega
  simp only[f26,eZ,a1,h1,decide_false,Bool.false_and]
theorem zK2 (D:Dyn)(n:Nat){H:AH}(s:Str)(hs:s.length<4294967281):m50 D n [S s, .str 2 12032] H=some (.bool (hasB s),H):=by
 have h1:Nat.blt s.length 4294967281=true:=by rw[zJ];exact hs
 have h2:Nat.beq 12032 12032=true:=rfl
 simp only[m50,zHm,S,h1,h2,Bool.and_self,cond_true,QF,hasB]
theorem zAg (D:Dyn)(n:Nat){H:AH}(s:Str)(hs:s.length<4294967281):f27 D n [S s] H=some (.bool (bX s),H):=by
 have e0:(AV.str 0 0)=S []:=rfl
 have e1:(AV.str 1 46)=S [46]:=rfl
 have e2:(AV.str 2 11822)=S [46,46]:=rfl
 have e3:(AV.str 9 2147850105812604056366)=S [46,115,110,97,112,115,104,111,116]:=rfl
 have hc:=zK2 D n (H:=H) s hs
 by_cases h0:s=[]
 ·have r:bX s=false:=by rw[h0];decide
  have q:_=True:=eq_true h0
  simp(config:= { maxSteps:=1000000}) only[f27,zAc,zAb,zAa,eZ,e0,e1,e2,e3,jK,q,r]
 by_cases h1:s=[46]
 ·have r:bX s=false:=by rw[h1];decide
  have q:_=True:=eq_true h1
  simp(config:= { maxSteps:=1000000}) only[f27,zAc,zAb,zAa,eZ,e0,e1,e2,e3,jK,h0,q,r]
 by_cases h2:s=[46,46]
 ·have r:bX s=false:=by rw[h2];decide
  have q:_=True:=eq_true h2
  simp(config:= { maxSteps:=1000000}) only[f27,zAc,zAb,zAa,eZ,e0,e1,e2,e3,jK,h0,h1,q,r]
 by_cases h3:s=[46,115,110,97,112,115,104,111,116]
 ·have r:bX s=false:=by rw[h3];decide
  have q:_=True:=eq_true h3
  simp(config:= { maxSteps:=1000000}) only[f27,zAc,zAb,zAa,eZ,e0,e1,e2,e3,jK,h0,h1,h2,q,r]
 by_cases hl:s.length≤32
 ·have r:bX s= !hasB s:=by simp[bX,h0,h1,h2,h3,hl]
  have hlI:((s.length:Nat):Int)≤((32:Nat):Int):=by omega
  simp(config:= { maxSteps:=1000000}) only[f27,zAc,zAb,zAa,eZ,e0,e1,e2,e3,jK,h0,h1,h2,h3,u0,hlI,hc,r]
 ·have r:bX s=false:=by simp[bX,hl]
  have hlI: ¬((s.length:Nat):Int)≤((32:Nat):Int):=by omega
  simp(config:= { maxSteps:=1000000}) only[f27,zAc,zAb,zAa,eZ,e0,e1,e2,e3,jK,h0,h1,h2,h3,u0,hlI,r]
theorem avI (k:IntKind)(z:Int):aveq (.int k z) (.int k z)=true:=by simp[aveq,kB,kC]
theorem chkI (k:IntKind)(z:Int)(K:Rs):chk (some (.int k z)) (.int k z) K=K:=j0 rfl (avI _ _)
def sdV (d:Nat)(e:En):List AV:=[S e.n, .int .i64 ((e.i:Nat):Int), .int .i64 ((e.c:Nat):Int),S (yA d e.c), .bool true]
abbrev sd0:List AV:=[S [], .int .i64 ((0:Nat):Int), .int .i64 ((0:Nat):Int),S [], .bool false]
theorem zHC {A:Nat}{H:AH}{l:List AV}{e:TypeId}(h:H.h.get A=some (.cells l e 1 false))(hl:l.length=5):ldN 5 (.ptr A 0) H=some (.agg l):=by
 rw[qQ h,j6 _ _ _ (.inr (by omega)),List.drop_zero, ← hl,qB];rfl
theorem zL1 {c:Nat}(h:c<1000000):qN .quo (.int .i64 ((c:Nat):Int)) (.int .i64 ((256:Nat):Int))=some (.int .i64 ((c / 256:Nat):Int)):=by
 rw[WP _ _ _ (by omega),Int.tdiv_eq_ediv_of_nonneg (by omega),wrap_i64 (by omega) (by omega)]
 rfl
theorem zKU {c:Nat}(h:c<1000000):qN .rem (.int .i64 ((c:Nat):Int)) (.int .i64 ((256:Nat):Int))=some (.int .i64 ((c % 256:Nat):Int)):=by
 rw[zBz _ _ _ (by omega),Int.tmod_eq_emod_of_nonneg (by omega)]
 rfl
theorem zH7 (D:Dyn)(n:Nat)(hn:100≤n){H:AH}(hk:H.ok){d:Nat}{e:En}(hf:e.fine): ∃H',f40 D n [.agg [S (yA d e.c),S (xO e)]] H=some (.tuple [.agg (sdV d e), .bool true],H')∧Prs H H':=by
 obtain⟨f1,f2,f3,f4,f5,f6⟩:=hf
 have f7:=KK f5
 obtain⟨H1,A1,b1,p1,g1,m1,n1⟩:=box hk (.cells [S (yA d e.c),S (xO e)] 85 1 false)
 obtain⟨H2,A2,b2,p2,g2,m2,n2⟩:=box p1.ok (.cells sd0 71 1 false)
 obtain⟨H3,A4,b3,p3,g3,m3,n3⟩:=box p2.ok (.cells sd0 71 1 false)
 obtain⟨H4,e4,g4,s4,_⟩:=qV p3.ok g3 (l':=[S [], .int .i64 ((0:Nat):Int), .int .i64 ((0:Nat):Int),S (yA d e.c), .bool false]) rfl rfl
 have e4':stN 5 (.ptr A4 0) (.agg [S [], .int .i64 ((0:Nat):Int), .int .i64 ((0:Nat):Int),S (yA d e.c), .bool false]) H3=some (qM,H4):=e4
 obtain⟨H5,e5,g5,s5⟩:=zHV s4.ok g4 (o:=2) (x:= .int .i64 ((e.c:Nat):Int)) rfl (by simp)
 obtain⟨H6,e6,g6,s6⟩:=zHV s5.ok g5 (o:=1) (x:= .int .i64 ((e.i:Nat):Int)) rfl (by simp)
 obtain⟨H7,e7,g7,s7⟩:=zHV s6.ok g6 (o:=0) (x:=S e.n) rfl (by simp)
 obtain⟨H8,e8,g8,s8⟩:=zHV s7.ok g7 (o:=4) (x:= .bool true) rfl (by simp)
 have g8:H8.h.get A4=some (.cells (sdV d e) 71 1 false):=g8
 have N1:=p1.next;have N2:=p2.next;have N3:=p3.next;have N4:=s4.next;have N5:=s5.next;have N6:=s6.next;have N7:=s7.next;have N8:=s8.next
 have S38:Stp (fun B=>B=A4) H3 H8:=(((s4.trans s5).trans s6).trans s7).trans s8
 have P8:Prs H H8:=((p1.trans p2).trans p3).fresh S38 fun B hB=>by omega
 have g28:H8.h.get A2=some (.cells sd0 71 1 false):=by rw[S38.keep _ (by omega) (by omega)];exact Prs.get p3 p2.ok g2
 obtain⟨H9,e9,g9,s9,n9⟩:=qV P8.ok g28 (l':=sdV d e) rfl rfl
 have e9':stN 5 (.ptr A2 0) (.agg (sdV d e)) H8=some (qM,H9):=e9
 refine⟨H9, ?_,P8.fresh s9 fun B hB=>by omega⟩
 have l1: ∀ {H':AH},H'.h.get A1=some (.cells [S (yA d e.c),S (xO e)] 85 1 false)→ld1 (.ptr A1 0) H'=some (S (yA d e.c))∧ld1 (.ptr A1 1) H'=some (S (xO e)):=fun g=>⟨by rw[qL g];rfl,by rw[qL g];rfl⟩
 have q2:=Prs.get p2 p1.ok g1
 have q3:=Prs.get p3 p2.ok q2
 have k4: ∀ {H':AH},Stp (fun B=>B=A4) H3 H'→H'.h.get A1=some (.cells [S (yA d e.c),S (xO e)] 85 1 false):=fun s=>by rw[s.keep _ (by omega) (by omega)];exact q3
 have q4:=k4 s4;have q5:=k4 (s4.trans s5);have q6:=k4 ((s4.trans s5).trans s6)
 have hS:(AV.str 0 0)=S []:=rfl
 have hkl:wP (S (yA d e.c))=some (.int .i64 ((9:Nat):Int)):=by rw[u0,xW]
 have vl:(xO e).length=4+e.n.length:=by simp[xO,jR]
 have hvl:wP (S (xO e))=some (.int .i64 ((4+e.n.length:Nat):Int)):=by rw[u0,vl]
 have t9: ¬(((9:Nat):Int)≠((9:Nat):Int)):=by omega
 have t4: ¬((4+e.n.length:Nat):Int)< ((4:Nat):Int):=by omega
 have t1: ¬((e.c:Nat):Int)< ((1:Nat):Int):=by omega
 have t2: ¬((262144:Nat):Int)< ((e.c:Nat):Int):=by omega
 have kd:(yA d e.c).drop 5=dig e.c 4:=by rw[yA,List.drop_left' (wB d)]
 have c1:K6 (S (yA d e.c)) (some (.int .i64 ((5:Nat):Int))) none=some (S (dig e.c 4)):=by rw[zAH _ _ (by omega) (by rw[xW];decide)];exact congrArg (fun z=>some (S z)) kd
 have vd:(xO e).drop 4=e.n:=by rw[xO,List.drop_left' (jR _ _)]
 have c2:K6 (S (xO e)) (some (.int .i64 ((4:Nat):Int))) none=some (S e.n):=by rw[zAH _ _ (by omega) (by rw[vl];simp)];exact congrArg (fun z=>some (S z)) vd
 have d1: ∀H,f58 D n [S (dig e.c 4)] H=some (.int .i64 ((e.c:Nat):Int),H):=fun H=>by rw[U7 D n hn _ (by rw[jR];omega),zL (by rw[jR];omega),vB (by omega)]
 have d2: ∀H,f58 D n [S (xO e)] H=some (.int .i64 ((e.i:Nat):Int),H):=fun H=>by rw[U7 D n hn _ (by rw[vl];omega),xO,List.take_left' (jR _ _),vB (by omega)]
 have i1: ∀H,f26 D n [.int .i64 ((e.i:Nat):Int)] H=some (.bool true,H):=fun H=>by
  rw[jZ,decide_eq_true (by omega),decide_eq_true (by omega)];rfl
 have y1: ∀H,f27 D n [S e.n] H=some (.bool true,H):=fun H=>by rw[zAg D n _ (by omega),f5]
 have h1: ∀H,f22 D n [S e.n] H=some (.int .i64 (((e.c - 1) / 256:Nat):Int),H):=fun H=>by rw[bJ D n _ (by omega) (by omega),f6]
 have hsub:((e.c:Nat):Int) - ((1:Nat):Int)=((e.c - 1:Nat):Int):=by omega
 have hq:=zL1 (c:=e.c - 1) (by omega)
 have r52:ld1 (.ptr A4 2) H5=some (.int .i64 ((e.c:Nat):Int)):=by rw[qL g5];rfl
 have r71:ld1 (.ptr A4 1) H7=some (.int .i64 ((e.i:Nat):Int)):=by rw[qL g7];rfl
 have r70:ld1 (.ptr A4 0) H7=some (S e.n):=by rw[qL g7];rfl
 have r72:ld1 (.ptr A4 2) H7=some (.int .i64 ((e.c:Nat):Int)):=by rw[qL g7];rfl
 have r8:ldN 5 (.ptr A4 0) H8=some (.agg (sdV d e)):=zHC g8 rfl
 have r9:ldN 5 (.ptr A2 0) H9=some (.agg (sdV d e)):=zHC g9 rfl
 have hb1:bxV 85 (.agg [S (yA d e.c),S (xO e)])=some (.cells [S (yA d e.c),S (xO e)] 85 1 false,fun A=> .ptr A 0):=rfl
 have hbs:bxV 71 (.agg [S [], .int .i64 ((0:Nat):Int), .int .i64 ((0:Nat):Int),S [], .bool false])=some (.cells sd0 71 1 false,fun A=> .ptr A 0):=rfl
 have bs:jT [(0,3),(3,1),(4,1)] [S [], .int .i64 ((0:Nat):Int), .int .i64 ((0:Nat):Int),S [], .bool false] [(1,S (yA d e.c))]=some (.agg [S [], .int .i64 ((0:Nat):Int), .int .i64 ((0:Nat):Int),S (yA d e.c), .bool false]):=rfl
 simp(maxSteps:=999999)(disch:=omega) only[f40,eZ,hS,hb1,b1,hbs,b2,(l1 q2).1,hkl,t9,bs,b3,e4',(l1 q4).1,c1,d1,e5,r52,t1,t2,(l1 q5).2,hvl,t4,d2,e6,(l1 q6).2,c2,e7,r71,i1,r70,y1,r72,hsub,hq,h1,chkI,e8,r8,e9',r9]
theorem JN (m:Nat)(hm:100≤m){H4:AH}{d N0:Nat}{v cv:AV}{l:List En}{σ:Type}{step:σ→En→Bool×σ}{IR:σ→AH→Prop}{W:Nat→Prop}(hk4:H4.ok)(hv4:zKv H4 v (l.map (xZ d)))(hvb: ∀B,Blk v B→N0≤B)(hW: ∀B,W B→B<N0)(hl:l.length≤100000000)(hf: ∀e∈l,e.fine)
  (hst: ∀s H H',H.ok→IR s H→Prs H H'→IR s H')
  (call: ∀s e H,H4.next≤H.next→H.ok→IR s H→e∈l→ ∃H',callV (s28 (dy (m+1)) (m+1)).S (dy (m+1)) cv [.agg (sdV d e)] H=some (.bool (step s e).1,H')∧IR (step s e).2 H'∧Stp W H H'):
  ∀(rr i kf:Nat) {H:AH} (s:σ),i+rr=l.length→rr<kf→IR s H→Stp W H4 H→
   ∃H',jb 0 (qX kf (zA9 (dy (m+1)) (m+1)) [cv,v, .int .i64 ((l.length:Nat):Int), .int .i64 ((i:Nat):Int)] H) (zH1 (dy (m+1)) (m+1))=some (.ret (.int .i64 ((0:Nat):Int)),H')∧IR (jJ step (l.drop i) s).2 H'∧Stp W H4 H'
 | _,_,0,_,_,_,hk,_,_=>by omega
 | 0,i,kf+1,H,s,he,_,hI,P=>by
  have hge: ¬((i:Nat):Int)< ((l.length:Nat):Int):=by omega
  have hnil:l.drop i=[]:=zP (by omega)
  rw[hnil]
  refine⟨H, ?_,hI,P⟩
  rw[yE (i:=0) (vs':=[]) (H':=H) (by simp(maxSteps:=999999)(disch:=omega) only[zA9,eZ,hge])]
  simp(maxSteps:=999999)(disch:=omega) only[jb,Nat.beq_refl,cond_true,zH1,eZ]
 | rr+1,i,kf+1,H,s,he,hkf,hI,P=>by
  have hi:i<l.length:=by omega
  have hil:i< (l.map (xZ d)).length:=by simpa using hi
  have hv:zKv H v (l.map (xZ d)):=Rw.stp hv4 P fun B hB e=>by
   have:=hvb B hB;have:=hW B e;omega
  obtain⟨A',o,i1,i2,i3,i4⟩:=hv.at hil
  have hg:(l.map (xZ d))[i]=xZ d l[i]:=by simp
  rw[hg]at i2
  have N:=P.next
  have hfe:=hf _ (zS hi)
  obtain⟨H5,A8,b5,p5,g5,m5,n5⟩:=box P.ok (.cells [S [],S []] 85 1 false)
  obtain⟨H6,e6,g6,s6,n6⟩:=qV p5.ok g5 (l':=[S (yA d l[i].c),S (xO l[i])]) rfl rfl
  have e6':stN 2 (.ptr A8 0) (.agg [S (yA d l[i].c),S (xO l[i])]) H5=some (qM,H6):=e6
  have P6:Prs H H6:=p5.fresh s6 fun B hB=>by omega
  have N5:=p5.next;have N6:=s6.next
  obtain⟨H7,e7,p7⟩:=zH7 (dy (m+1)) (m+1) (by omega) P6.ok (d:=d) hfe
  obtain⟨H8,A9,b8,p8,g8,m8,n8⟩:=box p7.ok (.cells sd0 71 1 false)
  obtain⟨H9,e9,g9,s9,n9⟩:=qV p8.ok g8 (l':=sdV d l[i]) rfl rfl
  have e9':stN 5 (.ptr A9 0) (.agg (sdV d l[i])) H8=some (qM,H9):=e9
  have N7:=p7.next;have N8:=p8.next;have N9:=s9.next
  have P9:Prs H H9:=((P6.trans p7).trans p8).fresh s9 fun B hB=>by omega
  obtain⟨H10,e10,I10,s10⟩:=call s l[i] H9 (by omega) s9.ok (hst _ _ _ P.ok hI P9) (zS hi)
  have P10:Stp W H4 H10:=P.trans ((Prs.stp P9).trans s10) |>.mono fun _ _ x=>x
  have hL:l.drop i=l[i]::l.drop (i+1):=zM hi
  have hiI:((i:Nat):Int)< ((l.length:Nat):Int):=by omega
  have hi1:((i:Nat):Int)+((1:Nat):Int)=((i+1:Nat):Int):=by omega
  have hS:(AV.str 0 0)=S []:=rfl
  have hbx:bxV 85 (.agg [S [],S []])=some (.cells [S [],S []] 85 1 false,fun A=> .ptr A 0):=rfl
  have hbs:bxV 71 (.agg [S [], .int .i64 ((0:Nat):Int), .int .i64 ((0:Nat):Int),S [], .bool false])=some (.cells sd0 71 1 false,fun A=> .ptr A 0):=rfl
  have i2':ldN 2 (.ptr A' o) H=some (.agg [S (yA d l[i].c),S (xO l[i])]):=i2
  have r6:ldN 2 (.ptr A8 0) H6=some (.agg [S (yA d l[i].c),S (xO l[i])]):=by rw[qQ g6];rfl
  have r9:ldN 5 (.ptr A9 0) H9=some (.agg (sdV d l[i])):=zHC g9 rfl
  rw[hL]
  cases hc:(step s l[i]).1 with
  | true=>
   rw[hc]at e10
   have body:zA9 (dy (m+1)) (m+1) [cv,v, .int .i64 ((l.length:Nat):Int), .int .i64 ((i:Nat):Int)] H=some (.norm [cv,v, .int .i64 ((l.length:Nat):Int), .int .i64 ((i+1:Nat):Int)],H10):=by
    simp(maxSteps:=999999)(disch:=omega) only[zA9,eZ,hiI,i1,i2',hS,hbx,b5,e6',r6,e7,qK,nth,hbs,b8,e9',r9,e10,hi1]
   obtain⟨H11,e11,I11,P11⟩:=JN m hm hk4 hv4 hvb hW hl hf hst call rr (i+1) kf (step s l[i]).2 (by omega) (by omega) I10 P10
   refine⟨H11, ?_, ?_,P11⟩
   ·rw[vN body,e11]
   ·simp only[jJ,hc,cond_true];exact I11
  | false=>
   rw[hc]at e10
   have body:zA9 (dy (m+1)) (m+1) [cv,v, .int .i64 ((l.length:Nat):Int), .int .i64 ((i:Nat):Int)] H=some (.exit 0 [],H10):=by
    simp(maxSteps:=999999)(disch:=omega) only[zA9,eZ,hiI,i1,i2',hS,hbx,b5,e6',r6,e7,qK,nth,hbs,b8,e9',r9,e10]
   refine⟨H10, ?_, ?_,P10⟩
   ·rw[yE body]
    simp(maxSteps:=999999)(disch:=omega) only[jb,Nat.beq_refl,cond_true,zH1,eZ]
   ·simp only[jJ,hc,cond_false];exact I10
theorem c256 (h:Nat):((h:Nat):Int)*((256:Nat):Int)=((h*256:Nat):Int)∧((h*256:Nat):Int)+((1:Nat):Int)=((h*256+1:Nat):Int)∧((h*256+1:Nat):Int)+((256:Nat):Int)=((h*256+257:Nat):Int):=by omega
theorem zBx (m:Nat)(hm:700000000≤m){H:AH}{At M L d h:Nat}{kv:Kvs}(t:jI H At M L kv)(hL:L≤1000000)(hkv:kv.length≤100000000)(f:bT d kv)(hd:d<2147483648)(hh:h<1024)
  {cv:AV} {σ:Type} {step:σ→En→Bool×σ} {IR:σ→AH→Prop} {W:Nat→Prop} (hW: ∀B,W B→B<H.next)
  (hst: ∀s H H',H.ok→IR s H→Prs H H'→IR s H')
  (call: ∀s e H',H.next≤H'.next→H'.ok→IR s H'→e∈chE d h kv→ ∃H'',callV (s28 (dy (m+1)) (m+1)).S (dy (m+1)) cv [.agg (sdV d e)] H'=some (.bool (step s e).1,H'')∧IR (step s e).2 H''∧Stp W H' H'')
  (s:σ) (hI:IR s H):
  ∃H',f28 (dy (m+1)) (m+1) [.ptr At 0, .int .i64 ((d:Nat):Int), .int .i64 ((h:Nat):Int),cv] H=some (.int .i64 ((0:Nat):Int),H')∧IR (jJ step (chE d h kv) s).2 H'∧Stp W H H':=by
 have hk:H.ok:=by obtain⟨_,_,_,_,_,_,_,_,_,ti,_⟩:=t;exact ti.ok
 obtain⟨c1,c2,c3⟩:=f.chain hd hh
 obtain⟨H1,e1,p1⟩:=zAh (dy (m+1)) (m+1) (by omega) hk (d:=d) (c:=h*256+1) (by omega) (by omega)
 obtain⟨H2,e2,p2⟩:=zAh (dy (m+1)) (m+1) (by omega) p1.ok (d:=d) (c:=h*256+257) (by omega) (by omega)
 have P2:=p1.trans p2
 have hlen:(xK (yA d (h*256+1)) (yA d (h*256+257)) kv).length≤2147483647:=by have:=List.length_filter_le (inP (yA d (h*256+1)) (yA d (h*256+257))) kv;rw[xK];omega
 obtain⟨H3,v,e3,p3,gv,fv⟩:=zDs m hm (t.prs P2) hL (by omega) (yA d (h*256+1)) (yA d (h*256+257)) (most:=2147483647) (by omega) hlen
 have hb:xK (yA d (h*256+1)) (yA d (h*256+257)) kv=(chE d h kv).map (xZ d):=c1
 have hcl:(chE d h kv).length≤100000000:=by
  have:=List.length_filter_le (inP (yA d (h*256+1)) (yA d (h*256+257))) kv
  rw[c1,qG]at this;omega
 rw[hb]at gv
 have hv:zKv H3 v ((chE d h kv).map (xZ d)):=gv.row
 have P3:=P2.trans p3
 have N2:=P2.next;have N3:=P3.next
 obtain⟨H4,e4,I4,s4⟩:=JN m (by omega) p3.ok hv (N0:=H.next) (fun B hB=>by have:=fv B hB;omega) hW hcl (fun e he=>(c2 e he).1) hst (fun s e H' hn hk' hI' he=>call s e H' (by omega) hk' hI' he) (chE d h kv).length 0 (m+1) s (by omega) (by omega) (hst _ _ _ hk hI P3) (Stp.refl p3.ok)
 rw[List.drop_zero]at I4
 refine⟨H4, ?_,I4,(Prs.stp P3).trans s4⟩
 obtain⟨hm1,ha1,ha2⟩:=c256 h
 have t00: ¬(((0:Nat):Int)≠((0:Nat):Int)):=by omega
 have hln:lnSl v=some (.int .i64 (((chE d h kv).length:Nat):Int)):=by rw[hv.lnSl,qG]
 simp(maxSteps:=999999)(disch:=omega) only[f28,eZ,hm1,ha1,e1,ha2,e2,e3,qK,nth,t00,hln,e4]
def zBb (d:Nat):Option En→List AV
 | some e=>sdV d e
 | none=>sd0
def ZK (nm:Str)(s:Option En)(e:En):Bool×Option En:=bif decide (e.n=nm)then(false,some e)else(!s.isSome,s)
theorem zAK (nm:Str): ∀l:List En,(jJ (ZK nm) l none).2=l.find? fun e=>decide (e.n=nm)
 | []=>rfl
 | e::l=>by
  by_cases h:e.n=nm
  ·rw[List.find?_cons_of_pos (by simp[h])]
   simp only[jJ,ZK,h,decide_true,cond_true,cond_false]
  ·rw[List.find?_cons_of_neg (by simp[h]), ← zAK nm l]
   simp only[jJ,ZK,h,decide_false,cond_false,cond_true,Option.isSome_none,Bool.not_false]
set_option maxRecDepth 20000 in
theorem zCk (m n:Nat)(a b:Nat)(x:AV)(H:AH):callV (s28 (dy (m+1)) n).S (dy (m+1)) (.func 55 [] [.ptr a 0, .ptr b 0]) [x] H=f55 (dy m) m [x, .ptr a 0, .ptr b 0] H:=rfl
theorem zGb (D:Dyn)(n:Nat){H:AH}(hk:H.ok){d X5 X8:Nat}{nm:Str}{e:En}{s:Option En}(b5:Box H X5 (S nm))(g8:H.h.get X8=some (.cells (zBb d s) 71 1 false))(h58:X5≠X8):
  ∃H',f55 D n [.agg (sdV d e), .ptr X5 0, .ptr X8 0] H=some (.bool (ZK nm s e).1,H')∧(Box H' X5 (S nm)∧H'.h.get X8=some (.cells (zBb d (ZK nm s e).2) 71 1 false))∧Stp (fun B=>B=X8) H H':=by
 obtain⟨H1,A3,b1,p1,g1,m1,n1⟩:=box hk (.cells (sdV d e) 71 1 false)
 have N1:=p1.next
 have l8:=hk.lt g8
 have l5:=b5.lt hk
 have b51:=b5.mono hk p1 fun x=>x
 have g81:=Prs.get p1 hk g8
 have hbx:bxV 71 (.agg (sdV d e))=some (.cells (sdV d e) 71 1 false,fun A=> .ptr A 0):=rfl
 have r4:ld1 (.ptr A3 4) H1=some (.bool true):=by rw[qL g1];rfl
 have r0:ld1 (.ptr A3 0) H1=some (S e.n):=by rw[qL g1];rfl
 have q4: ∀ {H':AH} {l:List AV},H'.h.get X8=some (.cells l 71 1 false)→ld1 (.ptr X8 4) H'=l[4]? :=fun g=>by rw[qL g]
 by_cases h:e.n=nm
 ·have hst:ZK nm s e=(false,some e):=by simp only[ZK,h,decide_true,cond_true]
  have hlen:(zBb d s).length=5:=by cases s<;>rfl
  obtain⟨H2,e2,g2,s2,n2⟩:=qV p1.ok g81 (l':=sdV d e) (hlen.symm) rfl
  rw[hlen]at e2
  have e2':stN 5 (.ptr X8 0) (.agg (sdV d e)) H1=some (qM,H2):=e2
  have r5:ldN 5 (.ptr A3 0) H1=some (.agg (sdV d e)):=zHC g1 rfl
  have r8:ld1 (.ptr X8 4) H2=some (.bool true):=by rw[q4 g2];rfl
  rw[hst]
  refine⟨H2, ?_,⟨b51.mono p1.ok s2 h58,g2⟩,(Prs.stp p1).trans s2⟩
  simp(maxSteps:=999999)(disch:=omega) only[f55,zJN,eZ,hbx,b1,r4,r0,b51.ld,jK,h,r5,e2',r8]
 ·have hst:ZK nm s e=(!s.isSome,s):=by simp only[ZK,h,decide_false,cond_false]
  have r8:ld1 (.ptr X8 4) H1=some (.bool s.isSome):=by rw[q4 g81];cases s<;>rfl
  rw[hst]
  refine⟨H1, ?_,⟨b51,g81⟩,Prs.stp p1⟩
  simp(maxSteps:=999999)(disch:=omega) only[f55,zJN,eZ,hbx,b1,r4,r0,b51.ld,jK,h,r8]
def hH (d:Nat)(nm:Str)(kv:Kvs):List AV:=bif bX nm then(match xR d nm kv with
 | some e=>[.agg (sdV d e), .int .i64 ((0:Nat):Int)]
 | none=>[.agg sd0, .int .i64 ((5:Nat):Int)])else[.agg sd0, .int .i64 ((56:Nat):Int)]
theorem zBq (m:Nat)(hm:700000000≤m){H:AH}{At M L d:Nat}{kv:Kvs}{nm:Str}(t:jI H At M L kv)(hL:L≤1000000)(hkv:kv.length≤100000000)(f:bT d kv)(hd:1≤d)(hd2:d≤2147483647)(hnm:nm.length<4294967281):
  ∃H',f37 (dy (m+1)) (m+1) [.ptr At 0, .int .i64 ((d:Nat):Int),S nm] H=some (.tuple (hH d nm kv),H')∧Prs H H':=by
 have hk:H.ok:=by obtain⟨_,_,_,_,_,_,_,_,_,ti,_⟩:=t;exact ti.ok
 obtain⟨H1,X5,b1,p1,g1,m1,n1⟩:=box hk (.cells [S nm] 9 1 false)
 obtain⟨H2,X6,b2,p2,g2,m2,n2⟩:=box p1.ok (.cells sd0 71 1 false)
 have N1:=p1.next;have N2:=p2.next
 have P2:=p1.trans p2
 have hbS:qS (S nm)=[S nm]:=rfl
 have hS:(AV.str 0 0)=S []:=rfl
 have hbs:bxV 71 (.agg [S [], .int .i64 ((0:Nat):Int), .int .i64 ((0:Nat):Int),S [], .bool false])=some (.cells sd0 71 1 false,fun A=> .ptr A 0):=rfl
 have bs:jT [(0,3),(3,1),(4,1)] [S [], .int .i64 ((0:Nat):Int), .int .i64 ((0:Nat):Int),S [], .bool false] []=some (.agg sd0):=rfl
 have x5:Box H2 X5 (S nm):=⟨_,Prs.get p2 p1.ok g1⟩
 have i1: ∀H,f26 (dy (m+1)) (m+1) [.int .i64 ((d:Nat):Int)] H=some (.bool true,H):=fun H=>by
  rw[jZ,decide_eq_true (by omega),decide_eq_true (by omega)];rfl
 have y1: ∀H,f27 (dy (m+1)) (m+1) [S nm] H=some (.bool (bX nm),H):=fun H=>zAg _ _ _ hnm
 cases hy:bX nm with
 | false=>
  obtain⟨H3,e3,g3,s3,n3⟩:=qV p2.ok g2 (l':=sd0) rfl rfl
  have e3':stN 5 (.ptr X6 0) (.agg sd0) H2=some (qM,H3):=e3
  have r3:ldN 5 (.ptr X6 0) H3=some (.agg sd0):=zHC g3 rfl
  refine⟨H3, ?_,P2.fresh s3 fun B hB=>by omega⟩
  rw[hy]at y1
  simp(maxSteps:=999999)(disch:=omega) only[f37,eZ,cq,hbS,b1,hS,hbs,b2,i1,x5.ld,y1,bs,e3',r3,hH,hy,cond_false]
 | true=>
  rw[hy]at y1
  have hl:=KK hy
  obtain⟨H3,X8,b3,p3,g3,m3,n3⟩:=box p2.ok (.cells sd0 71 1 false)
  have N3:=p3.next
  have P3:=P2.trans p3
  have x53:Box H3 X5 (S nm):=x5.mono p2.ok p3 fun x=>x
  obtain⟨H4,e4,⟨x54,g84⟩,s4⟩:=zBx m hm (t.prs P3) hL hkv f (d:=d) (h:=yM nm) (by omega) (uV nm) (cv:= .func 55 [] [.ptr X5 0, .ptr X8 0]) (step:=ZK nm)
   (IR:=fun s H=>Box H X5 (S nm)∧H.h.get X8=some (.cells (zBb d s) 71 1 false)) (W:=fun B=>B=X8) (fun B hB=>by omega) (fun s H H' hk hI P=>⟨hI.1.mono hk P fun x=>x,Prs.get P hk hI.2⟩)
   (fun s e H' hn hk' hI he=>by
    rw[zCk]
    exact zGb (dy m) m hk' hI.1 hI.2 (by omega)) none ⟨x53,g3⟩
  have hrun:(jJ (ZK nm) (chE d (yM nm) kv) none).2=xR d nm kv:=zAK nm _
  rw[hrun]at g84
  have N4:=s4.next
  have h1: ∀H,f22 (dy (m+1)) (m+1) [S nm] H=some (.int .i64 ((yM nm:Nat):Int),H):=fun H=>bJ _ _ _ (by omega) (by omega)
  have g64:H4.h.get X6=some (.cells sd0 71 1 false):=by rw[s4.keep _ (by omega) (by omega)];exact Prs.get p3 p2.ok g2
  have P4:Prs H H4:=P3.fresh s4 fun B hB=>by omega
  have t00: ¬(((0:Nat):Int)≠((0:Nat):Int)):=by omega
  cases ho:xR d nm kv with
  | none=>
   rw[ho]at g84
   obtain⟨H5,e5,g5,s5,n5⟩:=qV s4.ok g64 (l':=sd0) rfl rfl
   have e5':stN 5 (.ptr X6 0) (.agg sd0) H4=some (qM,H5):=e5
   have r5:ldN 5 (.ptr X6 0) H5=some (.agg sd0):=zHC g5 rfl
   have r84:ld1 (.ptr X8 4) H4=some (.bool false):=by rw[qL g84];rfl
   refine⟨H5, ?_,P4.fresh s5 fun B hB=>by omega⟩
   simp(maxSteps:=999999)(disch:=omega) only[f37,eZ,cq,hbS,b1,hS,hbs,b2,i1,x5.ld,y1,b3,x53.ld,h1,e4,t00,r84,bs,e5',r5,hH,hy,ho,cond_true]
  | some e=>
   rw[ho]at g84
   obtain⟨H5,e5,g5,s5,n5⟩:=qV s4.ok g64 (l':=sdV d e) rfl rfl
   have e5':stN 5 (.ptr X6 0) (.agg (sdV d e)) H4=some (qM,H5):=e5
   have r5:ldN 5 (.ptr X6 0) H5=some (.agg (sdV d e)):=zHC g5 rfl
   have r84:ld1 (.ptr X8 4) H4=some (.bool true):=by rw[qL g84];rfl
   have r8:ldN 5 (.ptr X8 0) H4=some (.agg (sdV d e)):=zHC g84 rfl
   refine⟨H5, ?_,P4.fresh s5 fun B hB=>by omega⟩
   simp(maxSteps:=999999)(disch:=omega) only[f37,eZ,cq,hbS,b1,hS,hbs,b2,i1,x5.ld,y1,b3,x53.ld,h1,e4,t00,r84,r8,e5',r5,hH,hy,ho,cond_true]
def VW (d:Nat)(nm:Str)(kv:Kvs):List AV:=bif bX nm then(match xR d nm kv with
 | some e=>[.int .i64 ((e.i:Nat):Int), .int .i64 ((e.c:Nat):Int), .int .i64 ((0:Nat):Int)]
 | none=>[.int .i64 ((0:Nat):Int), .int .i64 ((0:Nat):Int), .int .i64 ((5:Nat):Int)])else[.int .i64 ((0:Nat):Int), .int .i64 ((0:Nat):Int), .int .i64 ((56:Nat):Int)]
theorem zAi (d:Nat)(nm:Str)(kv:Kvs):(∃e,bX nm=true∧xR d nm kv=some e∧hH d nm kv=[.agg (sdV d e), .int .i64 ((0:Nat):Int)]∧VW d nm kv=[.int .i64 ((e.i:Nat):Int), .int .i64 ((e.c:Nat):Int), .int .i64 ((0:Nat):Int)])∨(∃x:Nat,x≠0∧x≤1000∧hH d nm kv=[.agg sd0, .int .i64 ((x:Nat):Int)]∧VW d nm kv=[.int .i64 ((0:Nat):Int), .int .i64 ((0:Nat):Int), .int .i64 ((x:Nat):Int)]):=by
 cases hy:bX nm with
 | false=>exact .inr ⟨56,by omega,by omega,by simp only[hH,hy,cond_false],by simp only[VW,hy,cond_false]⟩
 | true=>cases ho:xR d nm kv with
  | none=>exact .inr ⟨5,by omega,by omega,by simp only[hH,hy,cond_true,ho],by simp only[VW,hy,cond_true,ho]⟩
  | some e=>exact .inl ⟨e,rfl,rfl,by simp only[hH,hy,cond_true,ho],by simp only[VW,hy,cond_true,ho]⟩
theorem zHa (m:Nat)(hm:700000000≤m){H:AH}{At M L d:Nat}{kv:Kvs}{nm:Str}(t:jI H At M L kv)(hL:L≤1000000)(hkv:kv.length≤100000000)(f:bT d kv)(hd:1≤d)(hd2:d≤2147483647)(hnm:nm.length<4294967281):
  ∃H',f12 (dy (m+1)) (m+1) [.ptr At 0, .int .i64 ((d:Nat):Int),S nm] H=some (.tuple (VW d nm kv),H')∧Prs H H':=by
 obtain⟨H1,e1,p1⟩:=zBq m hm t hL hkv f hd hd2 hnm
 obtain⟨H2,A9,b2,p2,g2,m2,n2⟩:=box p1.ok (.cells sd0 71 1 false)
 have N1:=p1.next
 have hS:(AV.str 0 0)=S []:=rfl
 have hbs:bxV 71 (.agg [S [], .int .i64 ((0:Nat):Int), .int .i64 ((0:Nat):Int),S [], .bool false])=some (.cells sd0 71 1 false,fun A=> .ptr A 0):=rfl
 rcases zAi d nm kv with⟨e,_,_,h1,h2⟩ | ⟨x,_,_,h1,h2⟩
 ·rw[h1]at e1
  rw[h2]
  obtain⟨H3,e3,g3,s3,n3⟩:=qV p2.ok g2 (l':=sdV d e) rfl rfl
  have e3':stN 5 (.ptr A9 0) (.agg (sdV d e)) H2=some (qM,H3):=e3
  have r1:ld1 (.ptr A9 1) H3=some (.int .i64 ((e.i:Nat):Int)):=by rw[qL g3];rfl
  have r2:ld1 (.ptr A9 2) H3=some (.int .i64 ((e.c:Nat):Int)):=by rw[qL g3];rfl
  refine⟨H3, ?_,(p1.trans p2).fresh s3 fun B hB=>by omega⟩
  simp(maxSteps:=999999)(disch:=omega) only[f12,eZ,e1,qK,nth,hS,hbs,b2,e3',r1,r2]
 ·rw[h1]at e1
  rw[h2]
  obtain⟨H3,e3,g3,s3,n3⟩:=qV p2.ok g2 (l':=sd0) rfl rfl
  have e3':stN 5 (.ptr A9 0) (.agg sd0) H2=some (qM,H3):=e3
  have r1:ld1 (.ptr A9 1) H3=some (.int .i64 ((0:Nat):Int)):=by rw[qL g3];rfl
  have r2:ld1 (.ptr A9 2) H3=some (.int .i64 ((0:Nat):Int)):=by rw[qL g3];rfl
  refine⟨H3, ?_,(p1.trans p2).fresh s3 fun B hB=>by omega⟩
  simp(maxSteps:=999999)(disch:=omega) only[f12,eZ,e1,qK,nth,hS,hbs,b2,e3',r1,r2]
def dJ (d:Nat)(nm:Str)(kv:Kvs):Option En:=bif bX nm then xR d nm kv else none
def zAf (d:Nat)(nm:Str)(kv:Kvs):Kvs:=match dJ d nm kv with
 | some e=>Nd.delP (yA d e.c) kv
 | none=>kv
def zF3 (d:Nat)(nm:Str)(kv:Kvs):List AV:=match dJ d nm kv with
 | some e=>[.int .i64 ((e.i:Nat):Int), .int .i64 ((0:Nat):Int)]
 | none=>[.int .i64 ((0:Nat):Int), .int .i64 ((bif bX nm then 5 else 56:Nat):Int)]
theorem zCb (d:Nat)(nm:Str)(kv:Kvs):(∃e,bX nm=true∧xR d nm kv=some e∧dJ d nm kv=some e∧hH d nm kv=[.agg (sdV d e), .int .i64 ((0:Nat):Int)])∨(∃x:Nat,x≠0∧x=(bif bX nm then 5 else 56)∧dJ d nm kv=none∧hH d nm kv=[.agg sd0, .int .i64 ((x:Nat):Int)]):=by
 cases hy:bX nm with
 | false=>exact .inr ⟨56,by omega,rfl,by simp only[dJ,hy,cond_false],by simp only[hH,hy,cond_false]⟩
 | true=>cases ho:xR d nm kv with
  | none=>exact .inr ⟨5,by omega,rfl,by simp only[dJ,hy,cond_true,ho],by simp only[hH,hy,cond_true,ho]⟩
  | some e=>exact .inl ⟨e,rfl,rfl,by simp only[dJ,hy,cond_true,ho],by simp only[hH,hy,cond_true,ho]⟩
theorem zHe (m:Nat)(hm:700000000≤m){H:AH}{At M L d:Nat}{kv:Kvs}{nm:Str}(t:jI H At M L kv)(hL:L≤1000000)(hkv:kv.length≤100000000)(f:bT d kv)(hd:1≤d)(hd2:d≤2147483647)(hnm:nm.length<4294967281):
  ∃H',f10 (dy (m+1)) (m+1) [.ptr At 0, .int .i64 ((d:Nat):Int),S nm] H=some (.tuple (zF3 d nm kv),H')∧jI H' At M (L+200) (zAf d nm kv)∧Stp (fun B=>B=At∨B=M) H H':=by
 obtain⟨H1,e1,p1⟩:=zBq m hm t hL hkv f hd hd2 hnm
 obtain⟨H2,A8,b2,p2,g2,m2,n2⟩:=box p1.ok (.cells sd0 71 1 false)
 have N1:=p1.next
 have hS:(AV.str 0 0)=S []:=rfl
 have hbs:bxV 71 (.agg [S [], .int .i64 ((0:Nat):Int), .int .i64 ((0:Nat):Int),S [], .bool false])=some (.cells sd0 71 1 false,fun A=> .ptr A 0):=rfl
 have t00: ¬(((0:Nat):Int)≠((0:Nat):Int)):=by omega
 rcases zCb d nm kv with⟨e,hy,ho,h1,h2⟩ | ⟨x,hx,hx2,h1,h2⟩
 ·rw[h2]at e1
  obtain⟨f1,f2,f3⟩:=f.found (by omega) ho
  obtain⟨H3,e3,g3,s3,n3⟩:=qV p2.ok g2 (l':=sdV d e) rfl rfl
  have e3':stN 5 (.ptr A8 0) (.agg (sdV d e)) H2=some (qM,H3):=e3
  have P3:Prs H H3:=(p1.trans p2).fresh s3 fun B hB=>by omega
  have r3:ld1 (.ptr A8 3) H3=some (S (yA d e.c)):=by rw[qL g3];rfl
  have hz:YD (yA d e.c) kv=0:=by
   have h1:Nd.mayK (yA d e.c)=true:=by simp[Nd.mayK,xW]
   have h2:=(aY f.1).2 f2
   simp only[YD,h1,h2,if_true,Option.isSome_some]
  obtain⟨m',rfl⟩: ∃m',m=m'+1:=⟨m - 1,by omega⟩
  obtain⟨H4,e4,t4,s4⟩:=zJX m' (m'+1+1) (by omega) (by omega) (t.prs P3) (by omega) (by omega) (k:=yA d e.c)
  rw[hz]at e4
  rw[if_pos hz]at t4
  have N3:=P3.next
  have lt:=t.lt
  have g4:H4.h.get A8=some (.cells (sdV d e) 71 1 false):=by rw[s4.keep _ (s3.ok.lt g3) (by omega)];exact g3
  have r4:ld1 (.ptr A8 1) H4=some (.int .i64 ((e.i:Nat):Int)):=by rw[qL g4];rfl
  refine⟨H4, ?_,by rw[zAf,h1];exact t4,(Prs.stp P3).trans s4⟩
  simp(maxSteps:=999999)(disch:=omega) only[f10,eZ,e1,qK,nth,hS,hbs,b2,e3',t00,r3,e4,r4,zF3,h1]
 ·rw[h2]at e1
  obtain⟨H3,e3,g3,s3,n3⟩:=qV p2.ok g2 (l':=sd0) rfl rfl
  have e3':stN 5 (.ptr A8 0) (.agg sd0) H2=some (qM,H3):=e3
  have P3:Prs H H3:=(p1.trans p2).fresh s3 fun B hB=>by omega
  refine⟨H3, ?_,by rw[zAf,h1];exact(t.prs P3).up (by omega),Prs.stp P3⟩
  have tx:((x:Nat):Int)≠((0:Nat):Int):=by omega
  simp(maxSteps:=999999)(disch:=omega) only[f10,eZ,e1,qK,nth,hS,hbs,b2,e3',tx,ne_eq,not_false_eq_true,zF3,h1, ← hx2]
def xC (l:List En):List AV:=(List.range 256).map fun p=> .bool (xD l p)
theorem zBP (l:List En):(xC l).length=256:=by simp[xC]
theorem YL (l:List En){p:Nat}(h:p<256):(xC l)[p]? =some (.bool (xD l p)):=by simp[xC,h]
theorem zBN (l:List En)(e:En):(xC l).set ((e.c - 1) % 256) (.bool true)=xC (l++[e]):=by
 apply List.ext_getElem
 ·simp[xC]
 ·intro j h1 h2
  simp only[xC,List.getElem_set,List.getElem_map,List.getElem_range,xD,List.any_append,List.any_cons,List.any_nil,Bool.or_false]
  by_cases h:(e.c - 1) % 256=j
  ·rw[if_pos h,beq_iff_eq.2 h,Bool.or_true]
  ·rw[if_neg h,beq_eq_false_iff_ne.2 h,Bool.or_false]
def QW (nm:Str)(l:List En):Bool:=l.any fun e=>decide (e.n=nm)
theorem vR (nm:Str)(l:List En)(e:En):QW nm (l++[e])=(QW nm l||decide (e.n=nm)):=by simp[QW]
def cK (nm:Str)(l:List En)(e:En):Bool×List En:=(!QW nm (l++[e]),l++[e])
theorem zDg (nm:Str): ∀(es l:List En),QW nm l=false→QW nm (jJ (cK nm) es l).2=QW nm es∧(QW nm es=false→(jJ (cK nm) es l).2=l++es)
 | [],l,h=>⟨h,fun _=>(List.append_nil l).symm⟩
 | e::es,l,h=>by
  by_cases hn:e.n=nm
  ·have h1:QW nm (l++[e])=true:=by rw[vR,h,decide_eq_true hn];rfl
   have h2:QW nm (e::es)=true:=by simp[QW,hn]
   simp only[jJ,cK,h1,Bool.not_true,cond_false]
   exact⟨h2.symm,fun h=>by rw[h2]at h;cases h⟩
  ·have h1:QW nm (l++[e])=false:=by rw[vR,h,decide_eq_false hn];rfl
   have h2:QW nm (e::es)=QW nm es:=by simp[QW,hn]
   simp only[jJ,cK,h1,Bool.not_false,cond_true]
   rw[h2]
   obtain⟨g1,g2⟩:=zDg nm es (l++[e]) h1
   exact⟨g1,fun h=>by rw[g2 h,List.append_assoc];rfl⟩
theorem zHA (nm:Str)(l:List En):QW nm l=(l.find? fun e=>decide (e.n=nm)).isSome:=by
 rw[Bool.eq_iff_iff,List.find?_isSome,QW,List.any_eq_true]
set_option maxRecDepth 20000 in
theorem zFm (m n:Nat)(a b c:Nat)(x:AV)(H:AH):callV (s28 (dy (m+1)) n).S (dy (m+1)) (.func 29 [] [.ptr a 0, .ptr b 0, .ptr c 0]) [x] H=f29 (dy m) m [x, .ptr a 0, .ptr b 0, .ptr c 0] H:=rfl
def AI (X10 X11 X6:Nat)(nm:Str)(l:List En)(H:AH):Prop:=H.h.get X10=some (.cells (xC l) 68 1 false)∧Box H X11 (.bool (QW nm l))∧Box H X6 (S nm)
theorem zK9 (D:Dyn)(n:Nat){H:AH}(hk:H.ok){d X10 X11 X6:Nat}{nm:Str}{e:En}{l:List En}(hI:AI X10 X11 X6 nm l H)(hne:X6<X10∧X10<X11)(hf:e.fine):
  ∃H',f29 D n [.agg (sdV d e), .ptr X10 0, .ptr X11 0, .ptr X6 0] H=some (.bool (cK nm l e).1,H')∧AI X10 X11 X6 nm (cK nm l e).2 H'∧Stp (fun B=>B=X10∨B=X11) H H':=by
 obtain⟨g10,b11,b6⟩:=hI
 obtain⟨f1,f2,_⟩:=hf
 obtain⟨H1,A4,b1,p1,g1,m1,n1⟩:=box hk (.cells (sdV d e) 71 1 false)
 have N1:=p1.next
 have l10:=hk.lt g10
 have l11:=b11.lt hk
 have l6:=b6.lt hk
 have hp:(e.c - 1) % 256<256:=Nat.mod_lt _ (by omega)
 obtain⟨H2,e2,g2,s2⟩:=zHV p1.ok (Prs.get p1 hk g10) (o:=(e.c - 1) % 256) (x:= .bool true) rfl (by rw[zBP];omega)
 rw[zBN]at g2
 have N2:=s2.next
 have g12:H2.h.get A4=some (.cells (sdV d e) 71 1 false):=by rw[s2.keep _ n1 (by omega)];exact g1
 have b112:Box H2 X11 (.bool (QW nm l)):=(b11.mono hk p1 fun x=>x).mono p1.ok s2 (by omega)
 have b62:Box H2 X6 (S nm):=(b6.mono hk p1 fun x=>x).mono p1.ok s2 (by omega)
 obtain⟨H3,e3,b113,s3⟩:=b112.st s2.ok (x:= .bool (QW nm (l++[e]))) rfl
 have g103:H3.h.get X10=some (.cells (xC (l++[e])) 68 1 false):=by rw[s3.keep _ (by omega) (by omega)];exact g2
 have b63:Box H3 X6 (S nm):=b62.mono s2.ok s3 (by omega)
 have hbx:bxV 71 (.agg (sdV d e))=some (.cells (sdV d e) 71 1 false,fun A=> .ptr A 0):=rfl
 have r2:ld1 (.ptr A4 2) H1=some (.int .i64 ((e.c:Nat):Int)):=by rw[qL g1];rfl
 have r4:ld1 (.ptr A4 4) H2=some (.bool true):=by rw[qL g12];rfl
 have r0:ld1 (.ptr A4 0) H2=some (S e.n):=by rw[qL g12];rfl
 have hsub:((e.c:Nat):Int) - ((1:Nat):Int)=((e.c - 1:Nat):Int):=by omega
 have hrem:=zKU (c:=e.c - 1) (by omega)
 have hix:QB 256 1 (.ptr X10 0) (.int .i64 (((e.c - 1) % 256:Nat):Int))=some (.ptr X10 ((e.c - 1) % 256)):=by rw[dH 256 X10 0 .i64 _ rfl hp,Nat.zero_add]
 refine⟨H3, ?_,⟨g103,b113,b63⟩,((Prs.stp p1).trans (s2.mono fun _ _ x=> .inl x)).trans (s3.mono fun _ _ x=> .inr x)⟩
 rw[vR]at e3 b113
 cases ha:QW nm l with
 | true=>
  rw[ha,Bool.true_or]at e3
  have hst:(cK nm l e).1=false:=by simp only[cK,vR,ha,Bool.true_or,Bool.not_true]
  rw[ha]at b112
  rw[ha,Bool.true_or]at b113
  simp(maxSteps:=999999)(disch:=omega) only[f29,eZ,hbx,b1,r2,hsub,hrem,hix,e2,b112.ld,e3,b113.ld,hst]
 | false=>
  rw[ha,Bool.false_or]at e3 b113
  rw[ha]at b112
  by_cases hn:e.n=nm
  ·have hst:(cK nm l e).1=false:=by simp only[cK,vR,ha,hn,decide_true,Bool.or_true,Bool.not_true]
   rw[decide_eq_true hn]at e3 b113
   simp(maxSteps:=999999)(disch:=omega) only[f29,eZ,hbx,b1,r2,hsub,hrem,hix,e2,b112.ld,r4,r0,b62.ld,jK,hn,e3,b113.ld,hst]
  ·have hst:(cK nm l e).1=true:=by simp only[cK,vR,ha,hn,decide_false,Bool.or_false,Bool.not_false]
   rw[decide_eq_false hn]at e3 b113
   simp(maxSteps:=999999)(disch:=omega) only[f29,eZ,hbx,b1,r2,hsub,hrem,hix,e2,b112.ld,r4,r0,b62.ld,jK,hn,e3,b113.ld,hst]
def bN (d:Nat)(nm:Str)(ino:Int)(kv:Kvs):Nat×Nat×Kvs:=
 if 1≤ino∧ino≤2147483647 then
  if bX nm=true then
   if(xR d nm kv).isSome=true then(0,6,kv)else
    match vM (chE d (yM nm) kv)with
    | none=>(0,3,kv)
    | some p=>(yM nm*256+p+1,0,Nd.putP (yA d (yM nm*256+p+1)) (xO ⟨yM nm*256+p+1,ino.toNat,nm⟩) kv)
  else(0,56,kv)
 else(0,1,kv)
def jG (l:List En):Nat:=(vM l).getD 256
theorem ZV (l:List En):jG l≤256∧(∀q,q<jG l→xD l q=true)∧(jG l<256→xD l (jG l)=false∧vM l=some (jG l))∧(jG l=256→vM l=none):=by
 cases h:vM l with
 | none=>
  have e:jG l=256:=by rw[jG,h];rfl
  rw[e]
  refine⟨Nat.le_refl _,fun q hq=> ?_,fun h=>absurd h (by omega),fun _=>rfl⟩
  have:=List.find?_eq_none.1 h q (List.mem_range.2 hq)
  simpa using this
 | some p=>
  have e:jG l=p:=by rw[jG,h];rfl
  rw[e]
  obtain⟨h1,h2,h3⟩:=List.find?_range_eq_some.1 h
  have hp:=List.mem_range.1 h2
  refine⟨by omega,fun q hq=> ?_,fun _=>⟨by simpa using h1,rfl⟩,fun h=>by omega⟩
  have:=h3 q hq
  simpa using this
theorem zC2 (D:Dyn)(n:Nat)(hn:300≤n){H:AH}{X10:Nat}{l:List En}{a0 a1 a3 a6 hh:AV}(g:H.h.get X10=some (.cells (xC l) 68 1 false)):
  qX n (zLG D n) [a0,a1,a3,a6, .ptr X10 0,hh, .int .i64 ((0:Nat):Int)] H=some (.exit 0 [a0,a1,a3,a6,hh, .int .i64 ((jG l:Nat):Int)],H):=by
 obtain⟨p1,p2,p3,p4⟩:=ZV l
 refine xV (fun i=>[a0,a1,a3,a6, .ptr X10 0,hh, .int .i64 ((i:Nat):Int)]) (jG l) (fun i hi=> ?_) (fun k=> ?_) n (by omega)
 ·have hiI:((i:Nat):Int)< ((256:Nat):Int):=by omega
  have hix:QB 256 1 (.ptr X10 0) (.int .i64 ((i:Nat):Int))=some (.ptr X10 i):=by rw[dH 256 X10 0 .i64 i rfl (by omega),Nat.zero_add]
  have r:ld1 (.ptr X10 i) H=some (.bool true):=by rw[qL g,YL l (by omega),p2 i hi]
  have hi1:((i:Nat):Int)+((1:Nat):Int)=((i+1:Nat):Int):=by omega
  simp(maxSteps:=999999)(disch:=omega) only[zLG,eZ,hiI,hix,r,hi1]
 ·refine yE ?_
  by_cases h:jG l<256
  ·have hiI:((jG l:Nat):Int)< ((256:Nat):Int):=by omega
   have hix:QB 256 1 (.ptr X10 0) (.int .i64 ((jG l:Nat):Int))=some (.ptr X10 (jG l)):=by rw[dH 256 X10 0 .i64 _ rfl h,Nat.zero_add]
   have r:ld1 (.ptr X10 (jG l)) H=some (.bool false):=by rw[qL g,YL l h,(p3 h).1]
   simp(maxSteps:=999999)(disch:=omega) only[zLG,eZ,hiI,hix,r]
  ·have hiI: ¬((jG l:Nat):Int)< ((256:Nat):Int):=by omega
   simp(maxSteps:=999999)(disch:=omega) only[zLG,eZ,hiI]
theorem zBO:rep 256 [AV.bool false]=xC []:=by
 rw[xC,show(fun p=>AV.bool (xD [] p))=fun _=>AV.bool false from rfl,List.map_const',List.length_range,zDk]
theorem cookA {h p c:Nat}(hc:c=h*256+p+1):((h:Nat):Int)*((256:Nat):Int)=((h*256:Nat):Int)∧((h*256:Nat):Int)+((p:Nat):Int)=((h*256+p:Nat):Int)∧((h*256+p:Nat):Int)+((1:Nat):Int)=((c:Nat):Int):=by omega
theorem chkS (s:Str)(K:Rs):chk (some (S s)) (S s) K=K:=j0 rfl (by simp[aveq,S])
theorem WH (m:Nat)(hm:700000000≤m){H:AH}{At M L d:Nat}{kv:Kvs}{nm:Str}{ino:Int}(t:jI H At M L kv)(hL:L≤1000000)(hkv:kv.length≤100000000)(f:bT d kv)(hd:1≤d)(hd2:d≤2147483647)(hnm:nm.length<4294967281):
  ∃H',f8 (dy (m+1)) (m+1) [.ptr At 0, .int .i64 ((d:Nat):Int),S nm, .int .i64 ino] H=some (.tuple [.int .i64 (((bN d nm ino kv).1:Nat):Int), .int .i64 (((bN d nm ino kv).2.1:Nat):Int)],H')∧jI H' At M (L+200) (bN d nm ino kv).2.2∧Stp (fun B=>B=At∨B=M) H H':=by
 have hk:H.ok:=by obtain⟨_,_,_,_,_,_,_,_,_,ti,_⟩:=t;exact ti.ok
 obtain⟨H1,X6,b1,p1,g1,m1,n1⟩:=box hk (.cells [S nm] 9 1 false)
 have N1:=p1.next
 have x6:Box H1 X6 (S nm):=⟨_,g1⟩
 have hbS:qS (S nm)=[S nm]:=rfl
 have i1: ∀H,f26 (dy (m+1)) (m+1) [.int .i64 ((d:Nat):Int)] H=some (.bool true,H):=fun H=>by
  rw[jZ,decide_eq_true (by omega),decide_eq_true (by omega)];rfl
 have y1: ∀H,f27 (dy (m+1)) (m+1) [S nm] H=some (.bool (bX nm),H):=fun H=>zAg _ _ _ hnm
 by_cases hi: ¬(1≤ino∧ino≤2147483647)
 ·have i2: ∀H,f26 (dy (m+1)) (m+1) [.int .i64 ino] H=some (.bool false,H):=fun H=>by
   rw[jZ, ← Bool.decide_and,decide_eq_false hi]
  have ha:bN d nm ino kv=(0,1,kv):=by rw[bN,if_neg hi]
  rw[ha]
  refine⟨H1, ?_,(t.prs p1).up (by omega),Prs.stp p1⟩
  simp(maxSteps:=999999)(disch:=omega) only[f8,eZ,cq,hbS,b1,i1,i2]
 replace hi:=Classical.not_not.1 hi
 obtain⟨i,rfl⟩: ∃i:Nat,ino=(i:Int):=⟨ino.toNat,by omega⟩
 have i2: ∀H,f26 (dy (m+1)) (m+1) [.int .i64 ((i:Nat):Int)] H=some (.bool true,H):=fun H=>by
  rw[jZ, ← Bool.decide_and,decide_eq_true hi]
 cases hy:bX nm with
 | false=>
  rw[hy]at y1
  have ha:bN d nm ((i:Nat):Int) kv=(0,56,kv):=by rw[bN,if_pos hi,if_neg (by rw[hy];decide)]
  rw[ha]
  refine⟨H1, ?_,(t.prs p1).up (by omega),Prs.stp p1⟩
  simp(maxSteps:=999999)(disch:=omega) only[f8,eZ,cq,hbS,b1,i1,i2,x6.ld,y1]
 | true=>
 rw[hy]at y1
 have hl:=KK hy
 obtain⟨H2,X10,b2,p2,g2,m2,n2⟩:=box p1.ok (.cells (xC []) 68 1 false)
 obtain⟨H3,X11,b3,p3,g3,m3,n3⟩:=box p2.ok (.cells [.bool false] 4 1 false)
 have N2:=p2.next;have N3:=p3.next
 have x11:Box H3 X11 (.bool false):=⟨_,g3⟩
 obtain⟨H4,e4,x114,s4⟩:=x11.st p3.ok (x:= .bool false) rfl
 have N4:=s4.next
 have P4:Prs H H4:=((p1.trans p2).trans p3).fresh s4 fun B hB=>by omega
 have x64:Box H4 X6 (S nm):=(x6.mono p1.ok (p2.trans p3) fun x=>x).mono p3.ok s4 (by omega)
 have g104:H4.h.get X10=some (.cells (xC []) 68 1 false):=by rw[s4.keep _ (by omega) (by omega)];exact Prs.get p3 p2.ok g2
 have h1: ∀H,f22 (dy (m+1)) (m+1) [S nm] H=some (.int .i64 ((yM nm:Nat):Int),H):=fun H=>bJ _ _ _ (by omega) (by omega)
 have c2:=(f.chain (h:=yM nm) (by omega) (uV nm)).2.1
 obtain⟨H5,e5,I5,s5⟩:=zBx m hm (t.prs P4) hL hkv f (d:=d) (h:=yM nm) (by omega) (uV nm) (cv:= .func 29 [] [.ptr X10 0, .ptr X11 0, .ptr X6 0]) (step:=cK nm)
  (IR:=AI X10 X11 X6 nm) (W:=fun B=>B=X10∨B=X11) (fun B hB=>by omega) (fun s H H' hk hI P=>⟨Prs.get P hk hI.1,hI.2.1.mono hk P fun x=>x,hI.2.2.mono hk P fun x=>x⟩)
  (fun s e H' hn hk' hI he=>by
   rw[zFm]
   exact zK9 (dy m) m hk' hI (by omega) (c2 e he).1) [] ⟨g104,x114,x64⟩
 obtain⟨r1,r2⟩:=zDg nm (chE d (yM nm) kv) [] rfl
 obtain⟨g105,x115,x65⟩:=I5
 rw[r1]at x115
 have N5:=s5.next
 have P5:Prs H H5:=P4.fresh s5 fun B hB=>by omega
 have t00: ¬(((0:Nat):Int)≠((0:Nat):Int)):=by omega
 have hb10: ∀K,bA (some (.cells (rep 256 [.bool false]) 68 1 false,fun A=> .ptr A 0)) H1 K=K (.ptr X10 0) H2:=fun K=>by rw[zBO];exact b2 _ K
 have hb11:qS (.bool false)=[.bool false]:=rfl
 have hfind:(xR d nm kv).isSome=QW nm (chE d (yM nm) kv):=(zHA nm _).symm
 cases hany:QW nm (chE d (yM nm) kv)with
 | true=>
  rw[hany]at x115 hfind
  have ha:bN d nm ((i:Nat):Int) kv=(0,6,kv):=by rw[bN,if_pos hi,if_pos hy,if_pos hfind]
  rw[ha]
  refine⟨H5, ?_,(t.prs P5).up (by omega),Prs.stp P5⟩
  simp(maxSteps:=999999)(disch:=omega) only[f8,eZ,cq,hbS,b1,i1,i2,x6.ld,y1,hb10,hb11,b3,e4,x64.ld,h1,e5,t00,x115.ld]
 | false=>
 rw[hany]at x115 hfind
 rw[r2 hany,List.nil_append]at g105
 have lp:=zC2 (dy (m+1)) (m+1) (by omega) (a0:= .ptr At 0) (a1:= .int .i64 ((d:Nat):Int)) (a3:= .int .i64 ((i:Nat):Int)) (a6:= .ptr X6 0) (hh:= .int .i64 ((yM nm:Nat):Int)) g105
 obtain⟨q1,q2,q3,q4⟩:=ZV (chE d (yM nm) kv)
 by_cases hp: ¬jG (chE d (yM nm) kv)<256
 ·have hpe:jG (chE d (yM nm) kv)=256:=by omega
  have ha:bN d nm ((i:Nat):Int) kv=(0,3,kv):=by rw[bN,if_pos hi,if_pos hy,if_neg (by rw[hfind];decide),q4 hpe]
  rw[ha]
  rw[hpe]at lp
  refine⟨H5, ?_,(t.prs P5).up (by omega),Prs.stp P5⟩
  simp(maxSteps:=999999)(disch:=omega) only[f8,eZ,cq,hbS,b1,i1,i2,x6.ld,y1,hb10,hb11,b3,e4,x64.ld,h1,e5,t00,x115.ld,lp,f8b1]
 ·replace hp:=Classical.not_not.1 hp
  have hpl:=(q3 hp).2
  have hh:=uV nm
  obtain⟨_,hfe,hfr⟩:=f.free (i:=i) (by omega) hpl (by omega) (by omega) hy
  have ha:bN d nm ((i:Nat):Int) kv=(yM nm*256+jG (chE d (yM nm) kv)+1,0,Nd.putP (yA d (yM nm*256+jG (chE d (yM nm) kv)+1)) (xO ⟨yM nm*256+jG (chE d (yM nm) kv)+1,i,nm⟩) kv):=by
   rw[bN,if_pos hi,if_pos hy,if_neg (by rw[hfind];decide),hpl];rfl
  rw[ha]
  obtain⟨c,hc⟩: ∃c,c=yM nm*256+jG (chE d (yM nm) kv)+1:=⟨_,rfl⟩
  rw[← hc]at hfe hfr⊢
  obtain⟨H6,e6,p6⟩:=zAh (dy (m+1)) (m+1) (by omega) s5.ok (d:=d) (c:=c) (by omega) (by omega)
  obtain⟨H7,e7,p7⟩:=Q1 (dy (m+1)) (m+1) (by omega) p6.ok i (by omega)
  have x66:=(x65.mono s5.ok p6 fun x=>x).ld
  have x67:=(x65.mono s5.ok (p6.trans p7) fun x=>x).ld
  have hval:kO .add (S (dig i 4)) (S nm)=some (S (xO ⟨c,i,nm⟩)):=by rw[WO _ _ (by simp[jR];omega)];rfl
  have hput:ZT (yA d c) (xO ⟨c,i,nm⟩)=true:=by
   have:(xO ⟨c,i,nm⟩).length=4+nm.length:=by simp[xO,jR]
   simp[ZT,Nd.mayK,xW,this];omega
  have P7:Prs H H7:=(P5.trans p6).trans p7
  obtain⟨m',rfl⟩: ∃m',m=m'+1:=⟨m - 1,by omega⟩
  obtain⟨H8,e8,t8,s8⟩:=zJ7 m' (m'+1+1) (by omega) (by omega) (t.prs P7) (by omega) (by omega) (k:=yA d c) (v:=xO ⟨c,i,nm⟩)
  rw[hput]at e8 t8
  simp only[if_true]at e8 t8
  refine⟨H8, ?_,t8,(Prs.stp P7).trans s8⟩
  have hne:((jG (chE d (yM nm) kv):Nat):Int)≠((256:Nat):Int):=by omega
  obtain⟨hm1,ha1,ha2⟩:=cookA hc
  simp(maxSteps:=999999)(disch:=omega) only[f8,eZ,cq,hbS,b1,i1,i2,x6.ld,y1,hb10,hb11,b3,e4,x64.ld,h1,e5,t00,x115.ld,lp,f8b1,hne,hm1,ha1,ha2,x65.ld,e6,x66,chkS,e7,x67,hval,e8]
def etV (e:En):List AV:=[S e.n, .int .i64 ((e.i:Nat):Int), .int .i64 ((e.c:Nat):Int)]
theorem zF7 (D:Dyn)(n:Nat){H:AH}(hk:H.ok): ∃H' A,f24 D n [.int .i64 ((64:Nat):Int)] H=some (.tuple [.ptr A 0, .int .i64 ((0:Nat):Int)],H')∧Prs H H':=by
 obtain⟨H1,A1,b1,p1,g1,m1,n1⟩:=box hk (.map [6] [])
 obtain⟨H2,A2,b2,p2,g2,m2,n2⟩:=box p1.ok (.map [6] [])
 obtain⟨H3,A3,b3,p3,g3,m3,n3⟩:=box p2.ok (.cells [.int .i64 ((64:Nat):Int), .map A1, .nilSlice, .map A2, .int .i64 ((0:Nat):Int), .nilSlice, .bool false] 130 1 false)
 refine⟨H3,A3, ?_,(p1.trans p2).trans p3⟩
 have a1: ¬((64:Nat):Int)< ((64:Nat):Int):=by omega
 have a2: ¬((8192:Nat):Int)< ((64:Nat):Int):=by omega
 have bs:jT [(0,1),(1,1),(2,1),(3,1),(4,1),(5,1),(6,1)] [.int .i64 ((0:Nat):Int), .nilMap, .nilSlice, .nilMap, .int .i64 ((0:Nat):Int), .nilSlice, .bool false] [(0, .int .i64 ((64:Nat):Int)),(1, .map A1),(3, .map A2)]=some (.agg [.int .i64 ((64:Nat):Int), .map A1, .nilSlice, .map A2, .int .i64 ((0:Nat):Int), .nilSlice, .bool false]):=rfl
 simp(maxSteps:=999999)(disch:=omega) only[f24,f48,eZ,a1,a2,mkM,b1,b2,bs,b3]
theorem zH3 (D:Dyn)(n:Nat)(hn:100≤n){H:AH}(hk:H.ok): ∃H' At M,f7 D n [] H=some (.ptr At 0,H')∧Prs H H'∧H.next≤At∧H.next≤M∧jI H' At M 0 []:=by
 obtain⟨H1,A1,e1,p1⟩:=zF7 D n hk
 obtain⟨H2,At,M,e2,p2,m2,m2',ti⟩:=zJb D n hn p1.ok A1 0 (c:= .nilPtr) rfl
 have N1:=p1.next
 refine⟨H2,At,M, ?_,p1.trans p2,by omega,by omega,ti⟩
 have t00: ¬(((0:Nat):Int)≠((0:Nat):Int)):=by omega
 have bz:jT [(0,1),(1,1),(2,1)] [.int .i64 ((0:Nat):Int), .int .i64 ((0:Nat):Int), .int .u64 ((0:Nat):Int)] []=some (.agg (qW pZ)):=rfl
 simp(maxSteps:=999999)(disch:=omega) only[f7,eZ,e1,qK,nth,bz,e2,t00]
theorem WY {d:Nat}{nm:Str}{i:Nat}{kv:Kvs}(f:bT d kv)(hd:d<2147483648)(h:(bN d nm ((i:Nat):Int) kv).2.1=0): ∃e:En,e.fine∧e.i=i∧e.n=nm∧bX nm=true∧xR d nm kv=none∧(∀q∈kv,q.1≠yA d e.c)∧bN d nm ((i:Nat):Int) kv=(e.c,0,Nd.putP (yA d e.c) (xO e) kv):=by
 by_cases h1:1≤((i:Nat):Int)∧((i:Nat):Int)≤2147483647
 ·by_cases h2:bX nm=true
  ·by_cases h3:(xR d nm kv).isSome=true
   ·rw[bN,if_pos h1,if_pos h2,if_pos h3]at h;cases h
   ·cases hp:vM (chE d (yM nm) kv)with
    | none=>rw[bN,if_pos h1,if_pos h2,if_neg h3,hp]at h;cases h
    | some p=>
     obtain⟨g1,g2,g3⟩:=f.free (i:=i) hd hp (by omega) (by omega) h2
     refine⟨_,g2,rfl,rfl,h2, ?_,g3, ?_⟩
     ·cases hf:xR d nm kv with
      | none=>rfl
      | some e=>rw[hf]at h3;exact absurd rfl h3
     ·rw[bN,if_pos h1,if_pos h2,if_neg h3,hp];rfl
  ·rw[bN,if_pos h1,if_neg h2]at h;cases h
 ·rw[bN,if_neg h1]at h;cases h
theorem zI5 {α:Type}(f:α→List AV)(k:Nat)(hf: ∀a,(f a).length=k): ∀(l:List α) (i:Nat) (h:i<l.length),((l.flatMap f).drop (i*k)).take k=f l[i]
 | p::l,0,_=>by
  rw[Nat.zero_mul,List.drop_zero,zT,List.take_left' (hf p)];rfl
 | p::l,i+1,h=>by
  rw[zT,show(i+1)*k=k+i*k by rw[Nat.succ_mul,Nat.add_comm], ← List.drop_drop,List.drop_left' (hf p)]
  exact zI5 f k hf l i (by simpa using h)
def EnR (H:AH)(v:AV)(l:List En):Prop:=Rw 3 H v l.length (l.flatMap etV)
theorem EnR.at {H:AH}{v:AV}{l:List En}(h:EnR H v l){i:Nat}(hi:i<l.length): ∃A o,(∀κ (z:Int),z=(i:Int)→jW 3 v (.int κ z)=some (.ptr A o))∧Eng.ldN 3 (.ptr A o) H=some (.agg (etV l[i])):=by
 obtain⟨A,o,c,e,sz,g,h1,h2,h3,h4,h5⟩:=Rw.at h hi
 rw[zI5 etV 3 (fun _=>rfl) l i hi]at h5
 exact⟨A,o,h1,by rw[BY h2 h4,h5]⟩
end Go.Eng.Sh
end
section
namespace Go.Di
open Go.Nd (Str Kvs putP delP lookP Srt mayK)
open Go.Eng (ltS qZ y5 xF kK wG)
open Go.Bt (inP y9 vZ)
open Go.Dr
open Go.Eng.Sh (bN WY dJ zAf)
theorem dD {d d' a b:Nat}(hd:d<4294967296)(hd':d'<4294967296)(ha:a<4294967296)(hb:b<4294967296)(h:yA d a=yA d' b):d=d'∧a=b:=by
 obtain⟨h1,h2⟩:=List.append_inj h (by rw[wB,wB])
 simp only[gS,List.cons.injEq,true_and]at h1
 have e1:=congrArg num h1
 have e2:=congrArg num h2
 rw[vB (by omega),vB (by omega)]at e1 e2
 exact⟨e1,e2⟩
theorem zL5 {d d' c:Nat}{v:Str}(hd:d<2147483648)(hd':d'<2147483648)(h:d≠d'):inP (yA d 1) (gS (d+1)) (yA d' c,v)=false:=by
 have hne:(gS (d+1)).isEmpty=false:=rfl
 simp only[inP,y9,hne,Bool.false_or]
 rcases Nat.lt_or_gt_of_ne h with h | h
 ·rw[zGm c (show d+1≤d' by omega) (by omega),Bool.and_false]
 ·have h1:=KQ c h (by omega)
  have h2:ltS (gS d) (yA d 1)=true:=by
   have:=BV (gS d) [] (dig 1 4)
   rw[List.append_nil]at this
   rw[yA,this];rfl
  rw[y5 h1 h2];rfl
theorem bT.put2 {d d' c:Nat}{v:Str}{kv:Kvs}(f:bT d kv)(hd:d<2147483648)(hd':d'<2147483648)(h:d≠d'):bT d (putP (yA d' c) v kv):=
 ⟨Nd.srt_put _ _ f.1,fun p hp hi=>by
  rcases(jM f.1).1 hp with rfl | ⟨h1,_⟩
  ·rw[zL5 hd hd' h]at hi;cases hi
  ·exact f.2 p h1 hi⟩
def othN:Str:=[111,116,104,101,114]
structure DM (kv:Kvs)(X:List En):Prop where
 f1:bT 1 kv
 f2:bT 2 kv
 mem: ∀e:En,e.fine→(xZ 1 e∈kv↔e∈X)
 fine: ∀e∈X,e.fine
 ne:X.Pairwise fun a b=>a.n≠b.n
 oth: ∃e0:En,e0.fine∧e0.i=5∧e0.n=othN∧xZ 2 e0∈kv∧ ∀e:En,e.fine→xZ 2 e∈kv→e=e0
 key:lookP [102] kv=some [107,101,121]
def B9 (nm:Str)(X:List En):Option En:=X.find? fun e=>decide (e.n=nm)
theorem kF {nm:Str}{X:List En}{e:En}(hp:X.Pairwise fun a b=>a.n≠b.n):B9 nm X=some e↔e∈X∧e.n=nm:=by
 constructor
 ·intro h
  exact⟨List.mem_of_find?_eq_some h,by simpa using List.find?_some h⟩
 ·rintro⟨hm,hn⟩
  induction X with
  | nil=>cases hm
  | cons a X ih=>
   rw[List.pairwise_cons]at hp
   rcases List.mem_cons.1 hm with rfl | hm
   ·exact List.find?_cons_of_pos (by simp[hn])
   ·rw[B9,List.find?_cons_of_neg (by simp only[zD];rw[← hn];exact hp.1 e hm)]
    exact ih hp.2 hm
theorem bD {nm:Str}{X:List En} :B9 nm X=none↔ ∀e∈X,e.n≠nm:=by
 rw[B9,List.find?_eq_none];simp
theorem DM.find {kv:Kvs}{X:List En}(d:DM kv X)(nm:Str):xR 1 nm kv=B9 nm X:=by
 cases h:B9 nm X with
 | none=>
  rw[bD]at h
  exact(d.f1.find_none (by omega)).2 fun e he hm=>h e ((d.mem e he).1 hm)
 | some e=>
  obtain⟨h1,h2⟩:=(kF d.ne).1 h
  have he:=d.fine e h1
  cases hf:xR 1 nm kv with
  | none=>exact absurd h2 ((d.f1.find_none (by omega)).1 hf e he ((d.mem e he).2 h1))
  | some x=>
   obtain⟨g1,g2,g3⟩:=d.f1.found (by omega) hf
   have:=(kF d.ne).2 ⟨(d.mem x g1).1 g2,g3⟩
   rw[h]at this;exact this.symm
theorem DM.here {kv:Kvs}{X:List En}(d:DM kv X)(nm:Str):dJ 1 nm kv=B9 nm X:=by
 rw[dJ,d.find]
 cases hm:bX nm with
 | true=>rfl
 | false=>
  cases h:B9 nm X with
  | none=>rfl
  | some e=>
   obtain⟨h1,h2⟩:=(kF d.ne).1 h
   have:=(d.fine e h1).2.2.2.2.1
   rw[h2,hm]at this;cases this
theorem WE {d:Nat}{a b:En}(ha:a.fine)(hb:b.fine)(h:xZ d a=xZ d b):a=b:=by
 have:=congrArg zHd h
 rwa[QO ha,QO hb]at this
theorem DM.add {kv:Kvs}{X:List En}(d:DM kv X){nm:Str}{i:Nat}(h:(bN 1 nm ((i:Nat):Int) kv).2.1=0): ∃e:En,e.fine∧e.i=i∧e.n=nm∧B9 nm X=none∧bN 1 nm ((i:Nat):Int) kv=(e.c,0,putP (yA 1 e.c) (xO e) kv)∧DM (putP (yA 1 e.c) (xO e) kv) (X++[e]):=by
 obtain⟨e,g1,g2,g3,g4,g5,g6,g7⟩:=WY d.f1 (by omega) h
 rw[d.find]at g5
 have hc:=g1.2.1
 refine⟨e,g1,g2,g3,g5,g7,d.f1.put g1,d.f2.put2 (by omega) (by omega) (by omega),fun x hx=> ?_,fun x hx=> ?_, ?_, ?_, ?_⟩
 ·rw[jM d.f1.1,qA,List.mem_singleton, ← d.mem x hx]
  constructor
  ·rintro(h | ⟨h,_⟩)
   ·exact .inr (WE hx g1 h)
   ·exact .inl h
  ·rintro(h | rfl)
   ·exact .inr ⟨h,g6 _ h⟩
   ·exact .inl rfl
 ·rcases List.mem_append.1 hx with hx | hx
  ·exact d.fine x hx
  ·rw[List.mem_singleton.1 hx];exact g1
 ·rw[List.pairwise_append]
  refine⟨d.ne,by simp,fun a ha b hb=> ?_⟩
  rw[List.mem_singleton.1 hb,g3]
  exact bD.1 g5 a ha
 ·obtain⟨e0,o1,o2,o3,o4,o5⟩:=d.oth
  refine⟨e0,o1,o2,o3,(jM d.f1.1).2 (.inr ⟨o4,fun e'=> ?_⟩),fun x hx hm=> ?_⟩
  ·have:=(dD (by omega) (by omega) (by have:=o1.2.1;omega) (by omega) e').1;omega
  ·rcases(jM d.f1.1).1 hm with h | ⟨h,_⟩
   ·have:=(dD (by omega) (by omega) (by have:=hx.2.1;omega) (by omega) (congrArg Prod.fst h)).1;omega
   ·exact o5 x hx h
 ·rw[Nd.look_put,if_neg (fun h=>by have:=congrArg List.length h;rw[xW]at this;simp at this)];exact d.key
theorem DM.del {kv:Kvs}{X:List En}(d:DM kv X){nm:Str}{e:En}(h:B9 nm X=some e):DM (delP (yA 1 e.c) kv) (X.filter fun a=>decide (a.n≠nm)):=by
 obtain⟨h1,h2⟩:=(kF d.ne).1 h
 have he:=d.fine e h1
 have hc:=he.2.1
 refine⟨d.f1.del _,d.f2.del _,fun x hx=> ?_,fun x hx=>d.fine x (List.mem_filter.1 hx).1,d.ne.filter _, ?_, ?_⟩
 ·rw[xE d.f1.1,List.mem_filter,d.mem x hx]
  simp only[zD]
  refine and_congr_right fun hm=> ?_
  constructor
  ·intro hk hn
   have:=(kF d.ne).2 ⟨hm,hn⟩
   rw[h]at this
   injection this with this
   exact hk (by rw[this];rfl)
  ·intro hn hk
   have h3:=(dD (by omega) (by omega) (by have:=hx.2.1;omega) (by omega) hk).2
   have h4:xZ 1 x∈kv:=(d.mem x hx).2 hm
   have h5:xZ 1 e∈kv:=(d.mem e he).2 h1
   have h6:lookP (yA 1 e.c) kv=some (xO e):=(aY d.f1.1).2 h5
   have h7:lookP (yA 1 e.c) kv=some (xO x):=(aY d.f1.1).2 (by rw[← h3];exact h4)
   rw[h6]at h7
   have h8:xZ 1 x=xZ 1 e:=by rw[xZ,xZ,h3];rw[Option.some.inj h7]
   have:=WE hx he h8
   exact hn (by rw[this];exact h2)
 ·obtain⟨e0,o1,o2,o3,o4,o5⟩:=d.oth
  refine⟨e0,o1,o2,o3,(xE d.f1.1).2 ⟨o4,fun e'=> ?_⟩,fun x hx hm=>o5 x hx (Nd.mem_del hm)⟩
  have:=(dD (by omega) (by omega) (by have:=o1.2.1;omega) (by omega) e').1;omega
 ·rw[Nd.look_del _ _ d.f1.1,if_neg (fun h=>by have:=congrArg List.length h;rw[xW]at this;simp at this)];exact d.key
theorem zKK {d:Nat} : ∀ {l:List En},(∀e∈l,e.fine)→Srt (l.map (xZ d))→l.Pairwise fun a b=>a.c<b.c
 | [],_,_=> .nil
 | e::l,hf,hs=>by
  rw[List.map_cons]at hs
  refine List.pairwise_cons.2 ⟨fun x hx=> ?_,zKK (fun y hy=>hf y (zA _ hy)) hs.2⟩
  have h1:=hs.1 (xZ d x) (List.mem_map_of_mem hx)
  have h2:=(hf e (zB ..)).2.1
  have h3:=(hf x (zA _ hx)).2.1
  have h4:ltS (yA d e.c) (yA d x.c)=true:=h1
  rw[cV d (by omega) (by omega)]at h4
  exact of_decide_eq_true h4
theorem bT.sorted {d b:Nat}{kv:Kvs}(f:bT d kv)(hd:d<2147483648)(hb:b≤262144):(liE d b kv).Pairwise fun a b=>a.c<b.c:=by
 obtain⟨h1,h2,_⟩:=f.list hd hb
 refine zKK (d:=d) (fun e he=>(h2 e he).1) ?_
 rw[← h1]
 exact Bt.srt_sub List.filter_sublist f.1
theorem YS: ∀ {a b:List En},(a.Pairwise fun x y=>x.c<y.c)→(b.Pairwise fun x y=>x.c<y.c)→(∀e,e∈a↔e∈b)→a=b
 | [],[],_,_,_=>rfl
 | [],y::b,_,_,h=>by have:=(h y).2 (zB ..);cases this
 | x::a,[],_,_,h=>by have:=(h x).1 (zB ..);cases this
 | x::a,y::b,ha,hb,h=>by
  rw[List.pairwise_cons]at ha hb
  have hxy:x=y:=by
   rcases List.mem_cons.1 ((h x).1 (zB ..))with e | e
   ·exact e
   ·rcases List.mem_cons.1 ((h y).2 (zB ..))with e' | e'
    ·exact e'.symm
    ·have:=hb.1 x e;have:=ha.1 y e';omega
  subst hxy
  rw[YS ha.2 hb.2 fun e=> ?_]
  constructor
  ·intro he
   rcases List.mem_cons.1 ((h e).1 (zA _ he))with rfl | e'
   ·have:=ha.1 e he;omega
   ·exact e'
  ·intro he
   rcases List.mem_cons.1 ((h e).2 (zA _ he))with rfl | e'
   ·have:=hb.1 e he;omega
   ·exact e'
theorem J5: ∀ {R:List En},(R.Pairwise fun a b=>a.c<b.c)→ ∀(j:Nat) (h:j<R.length) (x:En),x∈R.drop (j+1)↔x∈R∧R[j].c<x.c
 | a::R,hp,0,_,x=>by
  rw[List.pairwise_cons]at hp
  rw[List.drop_succ_cons,List.drop_zero,List.mem_cons]
  constructor
  ·intro h;exact⟨.inr h,hp.1 x h⟩
  ·rintro⟨rfl | h,h2⟩
   ·exact absurd h2 (by simp)
   ·exact h
 | a::R,hp,j+1,h,x=>by
  rw[List.pairwise_cons]at hp
  have hj:j<R.length:=by simpa using h
  rw[List.drop_succ_cons,J5 hp.2 j hj x,List.mem_cons]
  simp only[List.getElem_cons_succ]
  constructor
  ·rintro⟨h1,h2⟩;exact⟨.inr h1,h2⟩
  ·rintro⟨rfl | h1,h2⟩
   ·have:=hp.1 R[j] (zS hj);omega
   ·exact⟨h1,h2⟩
theorem bT.behind {d b:Nat}{kv:Kvs}(f:bT d kv)(hd:d<2147483648)(hb:b≤262144)(j:Nat)(h:j< (liE d b kv).length):liE d (liE d b kv)[j].c kv=(liE d b kv).drop (j+1):=by
 obtain⟨_,h2,h3⟩:=f.list hd hb
 have hj:=h2 _ (zS h)
 have hc:=hj.1.2.1
 obtain⟨_,g2,g3⟩:=f.list hd hc
 have hs:=f.sorted hd hb
 refine YS (f.sorted hd hc) (List.Pairwise.sublist (List.drop_sublist _ _) hs) fun e=> ?_
 rw[J5 hs j h e]
 constructor
 ·intro he
  have hf:=(g2 e he).1
  obtain⟨q1,q2⟩:=(g3 e hf).1 he
  exact⟨(h3 e hf).2 ⟨q1,by omega⟩,q2⟩
 ·rintro⟨q1,q2⟩
  have hf:=(h2 e q1).1
  exact(g3 e hf).2 ⟨((h3 e hf).1 q1).1,q2⟩
theorem DM.listed {kv:Kvs}{X:List En}(d:DM kv X):(∀e,e∈liE 1 0 kv↔e∈X)∧(liE 1 0 kv).length=X.length:=by
 obtain⟨_,h2,h3⟩:=d.f1.list (d:=1) (b:=0) (by omega) (by omega)
 have hm: ∀e,e∈liE 1 0 kv↔e∈X:=fun e=>by
  constructor
  ·intro he
   have hf:=(h2 e he).1
   exact(d.mem e hf).1 ((h3 e hf).1 he).1
  ·intro he
   have hf:=d.fine e he
   exact(h3 e hf).2 ⟨(d.mem e hf).2 he,by have:=hf.1;omega⟩
 refine⟨hm, ?_⟩
 have n1:(liE 1 0 kv).Nodup:=(d.f1.sorted (by omega) (by omega)).imp fun {a b} h e=>by rw[e]at h;omega
 have n2:X.Nodup:=d.ne.imp fun {a b} h e=>h (by rw[e])
 exact((List.perm_ext_iff_of_nodup n1 n2).2 hm).length_eq
end Go.Di
namespace Go.Eng
open Go.Nd (Str)
open Go.Di
end Go.Eng
namespace Go.Eng.Sh
open Go.Nd (Ptr yF qP Kvs Srt)
open Go.Bt Go.Dr Go.Di
theorem jI.map {H H':AH}{At M L K:Nat}{kv:Kvs}{es:List (AV×AV)}(t:jI H At M L kv)(g:H.h.get K=some (.map [2] es))(s:Stp (fun B=>B=K) H H'):jI H' At M L kv:=by
 obtain⟨d,c,_,root,es',q,last,rfl,hc,ti,h2⟩:=t
 refine⟨d,c,_,root,es',q,last,rfl,hc,ti.stp s (fun e=> ?_) (fun e=> ?_) (fun z hz B hB e=> ?_),h2⟩
 ·have:=ti.gT;rw[e,g]at this;cases this
 ·have:=ti.gM;rw[e,g]at this;cases this
 ·obtain⟨nd,hn⟩:=ti.pq.mem z hz
  subst e
  exact hn.nblk g (.inr (.inl ⟨_,_,rfl⟩)) hB
end Go.Eng.Sh
end
section
namespace Go.Di
open Go.Nd (Str Kvs putP delP lookP Srt mayK)
open Go.Dr
theorem J3 {α:Type}[DecidableEq α]: ∀ {a b:List α},a.Nodup→(∀x∈a,x∈b)→a.length≤b.length
 | [],_,_,_=>by simp
 | x::a,b,h,hs=>by
  rw[List.nodup_cons]at h
  have hx:=hs x (zB ..)
  have h2: ∀y∈a,y∈b.erase x:=fun y hy=>(List.mem_erase_of_ne (fun(e:y=x)=>h.1 (e▸hy))).2 (hs y (zA _ hy))
  have:=J3 h.2 h2
  rw[List.length_erase_of_mem hx]at this
  have:0<b.length:=List.length_pos_of_mem hx
  simp only[zG];omega
def nmI (i:Nat):Str:=[UInt8.ofNat (97+i % 26),UInt8.ofNat (97+i / 26 % 26),UInt8.ofNat (97+i / 676 % 26),UInt8.ofNat (97+i / 17576 % 26),UInt8.ofNat (97+i / 456976)]
def zKo (i:Nat):Bool:=decide (yM (nmI i)=140)
def uH (n:Nat):List Nat:=(List.range n).filter zKo
def wit:List Nat:=[295,486,2936,4116,5074,5836,6089,6886,7620,8777,9221,9931,11261,12831,13387,13520,16152,16394,16893,16921,18279,19982,20065,20676,21128,21861,22432,
 23195,24800,25407,26362,26449,31319,32398,34027,34308,34690,35557,36595,37782,38128,40290,40566,41255,42194,42832,43403,43906,45144,45509,45856,46990,
 47960,48059,54665,56365,57392,57715,58214,59530,61088,61431,61690,62123,62557,62986,63485,63815,64715,66604,66673,67165,67738,68515,69262,69840,71521,
 72828,73361,74515,75328,75861,76786,77548,77801,79986,80601,81236,82179,82252,83398,84402,84786,86661,88749,89916,91590,91711,92353,93048,93811,94653,
 95415,97081,97900,99254,99844,100408,101935,102390,104373,104616,105882,106571,107609,109055,109578,111411,111844,112017,113757,114606,115211,115748,116536,
 118135,118741,119082,121641,123299,124649,125286,125615,126257,126524,128572,129623,131330,132339,132854,135619,136086,138543,139210,142615,142817,143886,
 144147,146095,147244,147569,147902,149377,149486,150115,151486,152579,154352,154879,156306,160773,161176,163448,164038,164290,165053,165782,166962,167344,
 168515,168914,171065,173051,173550,174405,174797,175676,176219,177478,177924,178495,180236,181067,182244,182985,183783,185940,187825,188310,188327,189327,
 190877,191625,192630,192898,193538,194157,197819,199548,200103,201210,201973,202465,202830,203607,205131,205646,206785,208894,210548,211821,212885,214260,
 214513,216214,218069,218698,219119,222902,223664,223917,224818,225618,225894,227352,228437,228873,229320,230435,230699,232090,232381,233200,233565,235500,
 235777,236032,237827,238806,239673,240368,241747,242597,243650,244647,247428,248109,250560,252444,252977,254652,255206,255794,256467,256952,257633,259183]
theorem zIz:wit.all (fun i=>zKo i&&decide (i<259184))=true:=by decide+kernel
def upB:List Nat→Bool
 | a::b::l=>decide (a<b)&&upB (b::l)
 | _=>true
theorem zHR: ∀l:List Nat,upB l=true→l.Pairwise (fun a b=>a<b)
 | [],_=> .nil
 | [a],_=>by simp
 | a::b::l,h=>by
  simp only[upB,z8,zD]at h
  have ih:=zHR (b::l) h.2
  refine List.pairwise_cons.2 ⟨fun x hx=> ?_,ih⟩
  rcases List.mem_cons.1 hx with rfl | hx
  ·exact h.1
  ·have:=(List.pairwise_cons.1 ih).1 x hx;omega
theorem zKz:wit.Pairwise (fun a b=>a<b):=zHR _ (by decide+kernel)
theorem QC (n:Nat):uH (n+1)=uH n++(if zKo n then[n]else[]):=by
 rw[uH,List.range_succ,List.filter_append]
 congr 1
 cases h:zKo n<;>simp[h]
theorem zE9 {n:Nat}(h:259184≤n):257≤(uH n).length:=by
 have h1:wit.Nodup:=zKz.imp fun {a b} h e=>by omega
 have h2: ∀x∈wit,x∈uH n:=fun x hx=>by
  have:=List.all_eq_true.1 zIz x hx
  simp only[z8,zD]at this
  exact List.mem_filter.2 ⟨List.mem_range.2 (by omega),this.1⟩
 have h3:wit.length=257:=by decide+kernel
 rw[← h3]
 exact J3 h1 h2
theorem vX (x:Nat):(UInt8.ofNat (97+x % 26)).toNat=97+x % 26:=by
 rw[UInt8.toNat_ofNat'];have:=Nat.mod_lt x (show 26>0 by omega);omega
theorem zJg {i j:Nat}(hi:i<600000)(hj:j<600000)(h:nmI i=nmI j):i=j:=by
 simp only[nmI,List.cons.injEq,and_true]at h
 obtain⟨h1,h2,h3,h4,h5⟩:=h
 have g: ∀ {x y:Nat},UInt8.ofNat (97+x % 26)=UInt8.ofNat (97+y % 26)→x % 26=y % 26:=fun {x y} h=>by
  have:=congrArg UInt8.toNat h
  rw[vX,vX]at this;omega
 have e1:=g h1;have e2:=g h2;have e3:=g h3;have e4:=g h4
 have e5:=congrArg UInt8.toNat h5
 rw[UInt8.toNat_ofNat',UInt8.toNat_ofNat']at e5
 omega
theorem zJf {i:Nat}(h:i<600000): ∀b∈nmI i,97≤b.toNat∧b.toNat≤122:=fun b hb=>by
 simp only[nmI,List.mem_cons,List.not_mem_nil,or_false]at hb
 have l: ∀x:Nat,x % 26<26:=fun x=>Nat.mod_lt x (by omega)
 rcases hb with rfl | rfl | rfl | rfl | rfl
 ·rw[vX];have:=l i;omega
 ·rw[vX];have:=l (i / 26);omega
 ·rw[vX];have:=l (i / 676);omega
 ·rw[vX];have:=l (i / 17576);omega
 ·rw[UInt8.toNat_ofNat'];omega
theorem zJe {i:Nat}(h:i<600000):bX (nmI i)=true:=by
 have hb:hasB (nmI i)=false:=by
  rw[hasB,List.any_eq_false]
  intro b hb hc
  have:=zJf h b hb
  simp only[Bool.or_eq_true,beq_iff_eq]at hc
  rcases hc with rfl | rfl
  ·exact absurd this.1 (by decide)
  ·exact absurd this.1 (by decide)
 have hl:(nmI i).length=5:=rfl
 have hn: ∀s:Str,s.length≠5→nmI i≠s:=fun s hs e=>hs (by rw[← e,hl])
 simp[bX,hb,hl,hn [] (by decide),hn [46] (by decide),hn [46,46] (by decide),hn [46,115,110,97,112,115,104,111,116] (by decide)]
open Go.Bt (inP y9 vZ)
open Go.Eng.Sh (bN WY dJ zAf)
structure D1 (kv:Kvs)(X:List En):Prop where
 f1:bT 1 kv
 mem: ∀e:En,e.fine→(xZ 1 e∈kv↔e∈X)
 fine: ∀e∈X,e.fine
 ne:X.Pairwise fun a b=>a.n≠b.n
theorem D1.find {kv:Kvs}{X:List En}(d:D1 kv X)(nm:Str):xR 1 nm kv=B9 nm X:=by
 cases h:B9 nm X with
 | none=>
  rw[bD]at h
  exact(d.f1.find_none (by omega)).2 fun e he hm=>h e ((d.mem e he).1 hm)
 | some e=>
  obtain⟨h1,h2⟩:=(kF d.ne).1 h
  have he:=d.fine e h1
  cases hf:xR 1 nm kv with
  | none=>exact absurd h2 ((d.f1.find_none (by omega)).1 hf e he ((d.mem e he).2 h1))
  | some x=>
   obtain⟨g1,g2,g3⟩:=d.f1.found (by omega) hf
   have:=(kF d.ne).2 ⟨(d.mem x g1).1 g2,g3⟩
   rw[h]at this;exact this.symm
theorem D1.put {kv:Kvs}{X:List En}(d:D1 kv X){e:En}(he:e.fine)(hn:B9 e.n X=none)(hc: ∀x∈X,x.c≠e.c):D1 (putP (yA 1 e.c) (xO e) kv) (X++[e]):=by
 have hc2:=he.2.1
 refine⟨d.f1.put he,fun x hx=> ?_,fun x hx=> ?_, ?_⟩
 ·rw[jM d.f1.1,qA,List.mem_singleton, ← d.mem x hx]
  constructor
  ·rintro(h | ⟨h,_⟩)
   ·exact .inr (WE hx he h)
   ·exact .inl h
  ·rintro(h | rfl)
   ·refine .inr ⟨h,fun e'=>hc x ((d.mem x hx).1 h) ?_⟩
    exact KR (d:=1) (by have:=hx.2.1;omega) (by omega) e'
   ·exact .inl rfl
 ·rcases List.mem_append.1 hx with hx | hx
  ·exact d.fine x hx
  ·rw[List.mem_singleton.1 hx];exact he
 ·rw[List.pairwise_append]
  refine⟨d.ne,by simp,fun a ha b hb=> ?_⟩
  rw[List.mem_singleton.1 hb]
  exact bD.1 hn a ha
theorem D1.del {kv:Kvs}{X:List En}(d:D1 kv X){nm:Str}{e:En}(h:B9 nm X=some e)(hc: ∀x∈X,x.c=e.c→x=e):D1 (delP (yA 1 e.c) kv) (X.filter fun a=>decide (a.n≠nm)):=by
 obtain⟨h1,h2⟩:=(kF d.ne).1 h
 have he:=d.fine e h1
 have hc2:=he.2.1
 refine⟨d.f1.del _,fun x hx=> ?_,fun x hx=>d.fine x (List.mem_filter.1 hx).1,d.ne.filter _⟩
 rw[xE d.f1.1,List.mem_filter,d.mem x hx]
 simp only[zD]
 refine and_congr_right fun hm=> ?_
 constructor
 ·intro hk hn
  have:=(kF d.ne).2 ⟨hm,hn⟩
  rw[h]at this
  injection this with this
  exact hk (by rw[this];rfl)
 ·intro hn hk
  have h3:=KR (d:=1) (by have:=hx.2.1;omega) (by omega) hk
  exact hn (by rw[hc x hm h3];exact h2)
theorem zAP {l:List En}{p:Nat}(h1:p<256)(h2:xD l p=false)(h3: ∀q,q<p→xD l q=true):vM l=some p:=by
 rw[vM,List.find?_range_eq_some]
 exact⟨by simp[h2],List.mem_range.2 h1,fun q hq=>by simp[h3 q hq]⟩
theorem D1.taken {kv:Kvs}{X:List En}(d:D1 kv X){h:Nat}(hh:h<1024)(p:Nat):xD (chE 1 h kv) p=true↔ ∃x∈X,yM x.n=h∧(x.c - 1) % 256=p:=by
 obtain⟨_,h2,h3⟩:=d.f1.chain (d:=1) (by omega) hh
 rw[xD,List.any_eq_true]
 constructor
 ·rintro⟨x,hx,hp⟩
  have hf:=(h2 x hx).1
  exact⟨x,(d.mem x hf).1 ((h3 x hf).1 hx).1,(h2 x hx).2,by simpa using hp⟩
 ·rintro⟨x,hx,q1,q2⟩
  have hf:=d.fine x hx
  exact⟨x,(h3 x hf).2 ⟨(d.mem x hf).2 hx,q1⟩,by simp[q2]⟩
structure Ns (L:List Nat):Prop where
 len:L.length=257
 up:L.Pairwise fun a b=>a<b
 hit: ∀i∈L,i<600000∧yM (nmI i)=140
def enT (L:List Nat)(j:Nat):En:=⟨35840+j+1,9,nmI (L.getD j 0)⟩
def enX (L:List Nat)(i:Nat):List En:=(List.range i).map (enT L)
theorem KY {l:List Nat}{i:Nat}(h:i<l.length):l.getD i 0=l[i]:=by simp[List.getD,h]
theorem Ns.at {L:List Nat}(n:Ns L){j:Nat}(h:j<257):L.getD j 0<600000∧yM (nmI (L.getD j 0))=140∧bX (nmI (L.getD j 0))=true:=by
 have hj:j<L.length:=by rw[n.len];exact h
 rw[KY hj]
 obtain⟨h1,h2⟩:=n.hit _ (zS hj)
 exact⟨h1,h2,zJe h1⟩
theorem Ns.inj {L:List Nat}(n:Ns L){i j:Nat}(hi:i<257)(hj:j<257)(h:nmI (L.getD i 0)=nmI (L.getD j 0)):i=j:=by
 have e:=zJg (n.at hi).1 (n.at hj).1 h
 have hi':i<L.length:=by rw[n.len];exact hi
 have hj':j<L.length:=by rw[n.len];exact hj
 rw[KY hi',KY hj']at e
 rcases Nat.lt_trichotomy i j with h | h | h
 ·have:=List.pairwise_iff_getElem.1 n.up i j hi' hj' h;omega
 ·exact h
 ·have:=List.pairwise_iff_getElem.1 n.up j i hj' hi' h;omega
theorem Ns.fine {L:List Nat}(n:Ns L){j:Nat}(h:j<256):(enT L j).fine:=by
 obtain⟨h1,h2,h3⟩:=n.at (show j<257 by omega)
 exact⟨by simp only[enT];omega,by simp only[enT];omega,by simp only[enT];omega,by simp only[enT];omega,h3,by simp only[enT];rw[h2];omega⟩
theorem Ns.who {L:List Nat}(n:Ns L){i j:Nat}(hi:i≤256)(hj:j<257):B9 (nmI (L.getD j 0)) (enX L i)=if j<i then some (enT L j)else none:=by
 have hp:(enX L i).Pairwise fun a b=>a.n≠b.n:=by
  rw[enX,List.pairwise_map]
  refine List.Pairwise.imp_of_mem ?_ (List.nodup_range (n:=i))
  intro a b ha hb hab e
  exact hab (n.inj (by have:=List.mem_range.1 ha;omega) (by have:=List.mem_range.1 hb;omega) e)
 split
 ·rename_i h
  exact(kF hp).2 ⟨List.mem_map.2 ⟨j,List.mem_range.2 h,rfl⟩,rfl⟩
 ·rename_i h
  rw[bD]
  intro e he hn
  obtain⟨k,hk,rfl⟩:=List.mem_map.1 he
  have hk:=List.mem_range.1 hk
  have:=n.inj (by omega) hj hn;omega
theorem Ns.add {L:List Nat}(n:Ns L){i:Nat}(hi:i<256){kv:Kvs}(d:D1 kv (enX L i)):bN 1 (nmI (L.getD i 0)) ((9:Nat):Int) kv=(35840+i+1,0,putP (yA 1 (35840+i+1)) (xO (enT L i)) kv)∧D1 (putP (yA 1 (35840+i+1)) (xO (enT L i)) kv) (enX L (i+1)):=by
 obtain⟨h1,h2,h3⟩:=n.at (show i<257 by omega)
 have hw:=n.who (i:=i) (j:=i) (by omega) (by omega)
 rw[if_neg (by omega)]at hw
 have hp:vM (chE 1 140 kv)=some i:=by
  refine zAP hi ?_ fun q hq=> ?_
  ·cases ht:xD (chE 1 140 kv) i with
   | false=>rfl
   | true=>
    obtain⟨x,hx,_,q2⟩:=(d.taken (by omega) i).1 ht
    obtain⟨k,hk,rfl⟩:=List.mem_map.1 hx
    have hk:=List.mem_range.1 hk
    simp only[enT]at q2;omega
  ·refine(d.taken (by omega) q).2 ⟨enT L q,List.mem_map.2 ⟨q,List.mem_range.2 hq,rfl⟩,(n.at (by omega)).2.1, ?_⟩
   simp only[enT];omega
 refine⟨?_, ?_⟩
 ·rw[bN,if_pos (by omega),if_pos h3,if_neg (by rw[d.find,hw];decide),h2,hp];rfl
 ·have:enX L (i+1)=enX L i++[enT L i]:=by rw[enX,List.range_succ,List.map_append];rfl
  rw[this]
  refine d.put (e:=enT L i) (n.fine hi) hw fun x hx=> ?_
  obtain⟨k,hk,rfl⟩:=List.mem_map.1 hx
  have hk:=List.mem_range.1 hk
  simp only[enT];omega
theorem Ns.full {L:List Nat}(n:Ns L){kv:Kvs}(d:D1 kv (enX L 256)):bN 1 (nmI (L.getD 256 0)) ((9:Nat):Int) kv=(0,3,kv):=by
 obtain⟨h1,h2,h3⟩:=n.at (show 256<257 by omega)
 have hw:=n.who (i:=256) (j:=256) (by omega) (by omega)
 rw[if_neg (by omega)]at hw
 have hp:vM (chE 1 140 kv)=none:=by
  rw[vM,List.find?_eq_none]
  intro q hq
  have hq:=List.mem_range.1 hq
  have:xD (chE 1 140 kv) q=true:=(d.taken (by omega) q).2 ⟨enT L q,List.mem_map.2 ⟨q,List.mem_range.2 hq,rfl⟩,(n.at (by omega)).2.1,by simp only[enT];omega⟩
  simp[this]
 rw[bN,if_pos (by omega),if_pos h3,if_neg (by rw[d.find,hw];decide),h2,hp]
theorem Ns.swap {L:List Nat}(n:Ns L){kv:Kvs}(d:D1 kv (enX L 256)):dJ 1 (nmI (L.getD 7 0)) kv=some (enT L 7)∧bN 1 (nmI (L.getD 256 0)) ((8:Nat):Int) (delP (yA 1 35848) kv)=(35848,0,putP (yA 1 35848) (xO ⟨35848,8,nmI (L.getD 256 0)⟩) (delP (yA 1 35848) kv))∧bT 1 (delP (yA 1 35848) kv)∧
  bT 1 (putP (yA 1 35848) (xO ⟨35848,8,nmI (L.getD 256 0)⟩) (delP (yA 1 35848) kv))∧xR 1 (nmI (L.getD 200 0)) (putP (yA 1 35848) (xO ⟨35848,8,nmI (L.getD 256 0)⟩) (delP (yA 1 35848) kv))=some (enT L 200):=by
 obtain⟨h1,h2,h3⟩:=n.at (show 256<257 by omega)
 have w7:=n.who (i:=256) (j:=7) (by omega) (by omega)
 rw[if_pos (by omega)]at w7
 have w256:=n.who (i:=256) (j:=256) (by omega) (by omega)
 rw[if_neg (by omega)]at w256
 have w200:=n.who (i:=256) (j:=200) (by omega) (by omega)
 rw[if_pos (by omega)]at w200
 have hh:dJ 1 (nmI (L.getD 7 0)) kv=some (enT L 7):=by rw[dJ,(n.at (show 7<257 by omega)).2.2,d.find,w7];rfl
 have dd:=d.del w7 fun x hx e=>by
  obtain⟨k,hk,rfl⟩:=List.mem_map.1 hx
  simp only[enT]at e
  have:k=7:=by omega
  rw[this]
 have e7:yA 1 (enT L 7).c=yA 1 35848:=rfl
 rw[e7]at dd
 obtain⟨Y,hY⟩: ∃Y,Y=(enX L 256).filter fun a=>decide (a.n≠nmI (L.getD 7 0)):=⟨_,rfl⟩
 rw[← hY]at dd
 have hmem: ∀k,k<256→(enT L k∈Y↔k≠7):=fun k hk=>by
  rw[hY,List.mem_filter]
  simp only[zD]
  constructor
  ·rintro⟨_,h⟩ rfl;exact h rfl
  ·intro h
   exact⟨List.mem_map.2 ⟨k,List.mem_range.2 hk,rfl⟩,fun e=>h (n.inj (by omega) (by omega) e)⟩
 have hY2: ∀x∈Y,∃k,k<256∧k≠7∧x=enT L k:=fun x hx=>by
  have hx':=hx
  rw[hY]at hx'
  obtain⟨k,hk,rfl⟩:=List.mem_map.1 (List.mem_filter.1 hx').1
  have hk:=List.mem_range.1 hk
  exact⟨k,hk,(hmem k hk).1 hx,rfl⟩
 have wY:B9 (nmI (L.getD 256 0)) Y=none:=bD.2 fun x hx=>by
  obtain⟨k,hk,_,rfl⟩:=hY2 x hx
  intro e
  have:=n.inj (by omega) (by omega) e;omega
 have hp:vM (chE 1 140 (delP (yA 1 35848) kv))=some 7:=by
  refine zAP (by omega) ?_ fun q hq=> ?_
  ·cases ht:xD (chE 1 140 (delP (yA 1 35848) kv)) 7 with
   | false=>rfl
   | true=>
    obtain⟨x,hx,_,q2⟩:=(dd.taken (by omega) 7).1 ht
    obtain⟨k,hk,hk7,rfl⟩:=hY2 x hx
    simp only[enT]at q2;omega
  ·exact(dd.taken (by omega) q).2 ⟨enT L q,(hmem q (by omega)).2 (by omega),(n.at (by omega)).2.1,by simp only[enT];omega⟩
 have hf:(⟨35848,8,nmI (L.getD 256 0)⟩:En).fine:=⟨by simp only;omega,by simp only;omega,by simp only;omega,by simp only;omega,h3,by simp only;rw[h2]⟩
 have d3:=dd.put (e:=⟨35848,8,nmI (L.getD 256 0)⟩) hf wY fun x hx=>by
  obtain⟨k,hk,hk7,rfl⟩:=hY2 x hx
  simp only[enT];omega
 refine⟨hh, ?_,dd.f1,d3.f1, ?_⟩
 ·rw[bN,if_pos (by omega),if_pos h3,if_neg (by rw[dd.find,wY];decide),h2,hp];rfl
 ·rw[d3.find]
  exact(kF d3.ne).2 ⟨List.mem_append.2 (.inl ((hmem 200 (by omega)).2 (by omega))),rfl⟩
theorem zM7:D1 [] []:=⟨⟨trivial,fun p h=>by cases h⟩,fun e _=>⟨fun h=>(by cases h),fun h=>(by cases h)⟩,fun e h=>(by cases h), .nil⟩
theorem zIu (k:Str): ∀l:Kvs,(delP k l).length≤l.length
 | []=>Nat.le_refl _
 | (a,b)::l=>by
  have ih:=zIu k l
  simp only[delP]
  split
  ·simp
  ·simp only[zG];omega
end Go.Di
namespace Go.Eng.Sh
open Go.Nd (Ptr yF qP Kvs Srt)
open Go.Bt Go.Dr Go.Di
def Bad (x0:AV)(z:Int)(c:Nat):Prop:=(x0= .nilPtr∧c=2)∨(∃A,x0= .ptr A 0∧ ¬(1≤z∧z≤2147483647)∧c=1)
theorem gZ (D:Dyn)(n:Nat){H:AH}{x:Int}(h: ¬(1≤x∧x≤2147483647)):f26 D n [.int .i64 x] H=some (.bool false,H):=by
 rw[jZ]
 by_cases h1:1≤x
 ·rw[decide_eq_false (p:=x≤2147483647) (by omega),Bool.and_false]
 ·rw[decide_eq_false h1,Bool.false_and]
theorem VM (D:Dyn)(n:Nat){H:AH}{x:Int}(h:1≤x∧x≤2147483647):f26 D n [.int .i64 x] H=some (.bool true,H):=by
 rw[jZ,decide_eq_true h.1,decide_eq_true h.2];rfl
theorem cqN:vH .eql (eqP .nilPtr .nilPtr)=some (.bool true):=rfl
theorem zAJ (D:Dyn)(n:Nat){H:AH}(hk:H.ok){x0:AV}{z:Int}{c:Nat}(h:Bad x0 z c)(nm:Str):
  ∃H',f37 D n [x0, .int .i64 z,S nm] H=some (.tuple [.agg sd0, .int .i64 ((c:Nat):Int)],H')∧Prs H H':=by
 obtain⟨H1,X5,b1,p1,g1,m1,n1⟩:=box hk (.cells [S nm] 9 1 false)
 obtain⟨H2,X6,b2,p2,g2,m2,n2⟩:=box p1.ok (.cells sd0 71 1 false)
 have N1:=p1.next;have N2:=p2.next
 have P2:=p1.trans p2
 have hbS:qS (S nm)=[S nm]:=rfl
 have hS:(AV.str 0 0)=S []:=rfl
 have hbs:bxV 71 (.agg [S [], .int .i64 ((0:Nat):Int), .int .i64 ((0:Nat):Int),S [], .bool false])=some (.cells sd0 71 1 false,fun A=> .ptr A 0):=rfl
 have bs:jT [(0,3),(3,1),(4,1)] [S [], .int .i64 ((0:Nat):Int), .int .i64 ((0:Nat):Int),S [], .bool false] []=some (.agg sd0):=rfl
 obtain⟨H3,e3,g3,s3,n3⟩:=qV p2.ok g2 (l':=sd0) rfl rfl
 have e3':stN 5 (.ptr X6 0) (.agg sd0) H2=some (qM,H3):=e3
 have r3:ldN 5 (.ptr X6 0) H3=some (.agg sd0):=zHC g3 rfl
 refine⟨H3, ?_,P2.fresh s3 fun B hB=>by omega⟩
 rcases h with⟨rfl,rfl⟩ | ⟨A,rfl,hz,rfl⟩
 ·simp(maxSteps:=999999)(disch:=omega) only[f37,eZ,cqN,hbS,b1,hS,hbs,b2,bs,e3',r3]
 ·have i1: ∀H,f26 D n [.int .i64 z] H=some (.bool false,H):=fun H=>gZ D n hz
  simp(maxSteps:=999999)(disch:=omega) only[f37,eZ,cq,hbS,b1,hS,hbs,b2,i1,bs,e3',r3]
theorem zGP (D:Dyn)(n:Nat){H:AH}(hk:H.ok){x0:AV}{z:Int}{c:Nat}(h:Bad x0 z c)(nm:Str):
  ∃H',f12 D n [x0, .int .i64 z,S nm] H=some (.tuple [.int .i64 ((0:Nat):Int), .int .i64 ((0:Nat):Int), .int .i64 ((c:Nat):Int)],H')∧Prs H H':=by
 obtain⟨H1,e1,p1⟩:=zAJ D n hk h nm
 obtain⟨H2,A9,b2,p2,g2,m2,n2⟩:=box p1.ok (.cells sd0 71 1 false)
 have N1:=p1.next
 have hS:(AV.str 0 0)=S []:=rfl
 have hbs:bxV 71 (.agg [S [], .int .i64 ((0:Nat):Int), .int .i64 ((0:Nat):Int),S [], .bool false])=some (.cells sd0 71 1 false,fun A=> .ptr A 0):=rfl
 obtain⟨H3,e3,g3,s3,n3⟩:=qV p2.ok g2 (l':=sd0) rfl rfl
 have e3':stN 5 (.ptr A9 0) (.agg sd0) H2=some (qM,H3):=e3
 have r1:ld1 (.ptr A9 1) H3=some (.int .i64 ((0:Nat):Int)):=by rw[qL g3];rfl
 have r2:ld1 (.ptr A9 2) H3=some (.int .i64 ((0:Nat):Int)):=by rw[qL g3];rfl
 refine⟨H3, ?_,(p1.trans p2).fresh s3 fun B hB=>by omega⟩
 simp(maxSteps:=999999)(disch:=omega) only[f12,eZ,e1,qK,nth,hS,hbs,b2,e3',r1,r2]
theorem zH5 (D:Dyn)(n:Nat){H:AH}(hk:H.ok){x0:AV}{z:Int}{c:Nat}(h:Bad x0 z c)(nm:Str):
  ∃H',f10 D n [x0, .int .i64 z,S nm] H=some (.tuple [.int .i64 ((0:Nat):Int), .int .i64 ((c:Nat):Int)],H')∧Prs H H':=by
 obtain⟨H1,e1,p1⟩:=zAJ D n hk h nm
 obtain⟨H2,A9,b2,p2,g2,m2,n2⟩:=box p1.ok (.cells sd0 71 1 false)
 have N1:=p1.next
 have hS:(AV.str 0 0)=S []:=rfl
 have hbs:bxV 71 (.agg [S [], .int .i64 ((0:Nat):Int), .int .i64 ((0:Nat):Int),S [], .bool false])=some (.cells sd0 71 1 false,fun A=> .ptr A 0):=rfl
 obtain⟨H3,e3,g3,s3,n3⟩:=qV p2.ok g2 (l':=sd0) rfl rfl
 have e3':stN 5 (.ptr A9 0) (.agg sd0) H2=some (qM,H3):=e3
 have hc:((c:Nat):Int)≠((0:Nat):Int):=by rcases h with⟨_,rfl⟩ | ⟨_,_,_,rfl⟩<;>omega
 refine⟨H3, ?_,(p1.trans p2).fresh s3 fun B hB=>by omega⟩
 simp(maxSteps:=999999)(disch:=omega) only[f10,eZ,e1,qK,nth,hS,hbs,b2,e3',hc,ne_eq,not_false_eq_true]
theorem zFE (D:Dyn)(n:Nat){H:AH}(hk:H.ok){x0:AV}{z:Int}{c:Nat}(h:Bad x0 z c)(nm:Str)(ino:Int):
  ∃H',f8 D n [x0, .int .i64 z,S nm, .int .i64 ino] H=some (.tuple [.int .i64 ((0:Nat):Int), .int .i64 ((c:Nat):Int)],H')∧Prs H H':=by
 obtain⟨H1,X6,b1,p1,g1,m1,n1⟩:=box hk (.cells [S nm] 9 1 false)
 have hbS:qS (S nm)=[S nm]:=rfl
 refine⟨H1, ?_,p1⟩
 rcases h with⟨rfl,rfl⟩ | ⟨A,rfl,hz,rfl⟩
 ·simp(maxSteps:=999999)(disch:=omega) only[f8,eZ,cqN,hbS,b1]
 ·have i1: ∀H,f26 D n [.int .i64 z] H=some (.bool false,H):=fun H=>gZ D n hz
  simp(maxSteps:=999999)(disch:=omega) only[f8,eZ,cq,hbS,b1,i1]
theorem KO (D:Dyn)(n:Nat){H:AH}{x0:AV}{z b k:Int}{c:Nat}(h:(x0= .nilPtr∧c=2)∨(∃A,x0= .ptr A 0∧ ¬((1≤z∧z≤2147483647)∧0≤b∧0≤k)∧c=1)):
  f14 D n [x0, .int .i64 z, .int .i64 b, .int .i64 k] H=some (.tuple [.nilSlice, .bool false, .int .i64 ((c:Nat):Int)],H):=by
 rcases h with⟨rfl,rfl⟩ | ⟨A,rfl,hz,rfl⟩
 ·simp(maxSteps:=999999)(disch:=omega) only[f14,eZ,cqN]
 ·by_cases h1:1≤z∧z≤2147483647
  ·have i1: ∀H,f26 D n [.int .i64 z] H=some (.bool true,H):=fun H=>VM D n h1
   by_cases h2:b< ((0:Nat):Int)
   ·simp(maxSteps:=999999)(disch:=omega) only[f14,eZ,cq,i1,h2]
   ·have h3:k< ((0:Nat):Int):=by omega
    simp(maxSteps:=999999)(disch:=omega) only[f14,eZ,cq,i1,h2,h3]
  ·have i1: ∀H,f26 D n [.int .i64 z] H=some (.bool false,H):=fun H=>gZ D n h1
   simp(maxSteps:=999999)(disch:=omega) only[f14,eZ,cq,i1]
theorem U6 (D:Dyn)(n:Nat){H:AH}{x0:AV}{z:Int}{c:Nat}(h:Bad x0 z c):f17 D n [x0, .int .i64 z] H=some (.tuple [.bool false, .int .i64 ((c:Nat):Int)],H):=by
 have e:=KO D n (H:=H) (x0:=x0) (z:=z) (b:=((0:Nat):Int)) (k:=((1:Nat):Int)) (c:=c) (by
  rcases h with h | ⟨A,h1,h2,h3⟩
  ·exact .inl h
  ·exact .inr ⟨A,h1,fun h=>h2 h.1,h3⟩)
 have hc: ¬((c:Nat):Int)=((0:Nat):Int):=by rcases h with⟨_,rfl⟩ | ⟨_,_,_,rfl⟩<;>omega
 simp(maxSteps:=999999)(disch:=omega) only[f17,eZ,e,qK,nth,hc]
end Go.Eng.Sh
end
section
namespace Go.Di
theorem zIO: ∃N,N≤259184∧(uH N).length=257∧ ∀i,i<N→(uH i).length<257:=by
 have main: ∀k,(∃N,N≤k∧(uH N).length=257∧ ∀i,i<N→(uH i).length<257)∨ ∀i,i≤k→(uH i).length<257:=by
  intro k
  induction k with
  | zero=>exact .inr fun i hi=>by
                    obtain rfl:i=0:=by omega
                    decide
  | succ k ih=>
   rcases ih with⟨N,h1,h2⟩ | h
   ·exact .inl ⟨N,by omega,h2⟩
   ·have hk:=h k (Nat.le_refl _)
    have hs:=QC k
    have hl:(uH (k+1)).length≤(uH k).length+1:=by
     rw[hs,zH];split<;>simp
    by_cases he:(uH (k+1)).length=257
    ·exact .inl ⟨k+1,Nat.le_refl _,he,fun i hi=>h i (by omega)⟩
    ·refine .inr fun i hi=> ?_
     rcases Nat.lt_or_ge i (k+1)with h' | h'
     ·exact h i (by omega)
     ·obtain rfl:i=k+1:=by omega
      omega
 rcases main 259184 with h | h
 ·exact h
 ·have:=h 259184 (Nat.le_refl _)
  have:=zE9 (Nat.le_refl 259184)
  omega
theorem zJz {N:Nat}(h:(uH N).length=257)(hN:N≤259184):Ns (uH N):=
 ⟨h,List.Pairwise.filter _ List.pairwise_lt_range,fun i hi=>by
  obtain⟨h1,h2⟩:=List.mem_filter.1 hi
  have:=List.mem_range.1 h1
  exact⟨by omega,of_decide_eq_true h2⟩⟩
theorem zI3:yM [97]=140:=by decide+kernel
end Go.Di
namespace Go.Eng.Sh
open Go.Nd (Ptr yF qP Kvs Srt Str)
open Go.Bt Go.Dr Go.Di
theorem quoN {c k:Nat}(h:c<1000000)(hk:0<k):qN .quo (.int .i64 ((c:Nat):Int)) (.int .i64 ((k:Nat):Int))=some (.int .i64 ((c / k:Nat):Int)):=by
 have h1:c / k≤c:=Nat.div_le_self c k
 have h2:((c:Nat):Int) / ((k:Nat):Int)=((c / k:Nat):Int):=rfl
 rw[WP _ _ _ (by omega),Int.tdiv_eq_ediv_of_nonneg (by omega),h2]
 generalize c / k=q at h1
 rw[wrap_i64 (by omega) (by omega)]
theorem remN {c k:Nat}(hk:0<k):qN .rem (.int .i64 ((c:Nat):Int)) (.int .i64 ((k:Nat):Int))=some (.int .i64 ((c % k:Nat):Int)):=by
 have h2:((c:Nat):Int) % ((k:Nat):Int)=((c % k:Nat):Int):=rfl
 rw[zBz _ _ _ (by omega),Int.tmod_eq_emod_of_nonneg (by omega),h2]
theorem zCt {x:Nat}(h:x<256):IntKind.wrap .u8 ((x:Nat):Int)=((x:Nat):Int):=by rw[wrap_u8];omega
theorem zGw {i:Nat}(h:i<600000):yJ (nmI i)=[.int .u8 ((97+i % 26:Nat):Int), .int .u8 ((97+i / 26 % 26:Nat):Int), .int .u8 ((97+i / 676 % 26:Nat):Int), .int .u8 ((97+i / 17576 % 26:Nat):Int), .int .u8 ((97+i / 456976:Nat):Int)]:=by
 have h5:(UInt8.ofNat (97+i / 456976)).toNat=97+i / 456976:=by rw[UInt8.toNat_ofNat'];omega
 simp only[yJ,nmI,List.map_cons,List.map_nil,vX,h5]
def nmL (l:List Nat):List Str:=l.map nmI
theorem zC5 (D:Dyn)(n:Nat)(hn:100≤n){H0 H:AH}{i:Nat}{v x3 x5 x7 x10 x12 x13:AV}(hi:i<259184)(hl:(uH i).length<257)(P:Prs H0 H)(g:jA 1 9 H v (nmL (uH i)).length ((nmL (uH i)).map S))(f: ∀B,Blk v B→H0.next≤B):
  ∃H' v',zA8 D n [x3,x5,x7,x10,x12,x13,v, .int .i64 ((i:Nat):Int)] H=some (.norm [x3,x5,x7,x10,x12,x13,v', .int .i64 ((i+1:Nat):Int)],H')∧Prs H0 H'∧jA 1 9 H' v' (nmL (uH (i+1))).length ((nmL (uH (i+1))).map S)∧ ∀B,Blk v' B→H0.next≤B:=by
 have hbv:=zGw (i:=i) (by omega)
 obtain⟨H1,A,b1,p1,g1,m1,n1⟩:=box P.ok (.cells (yJ (nmI i)) 5 1 false)
 have hcv:zFa (.slice A 0 5 10) H1=some (S (nmI i)):=WJ (n:=5) ⟨by simp[yJ,nmI], .inr (.inr ⟨_,_,_,_,_,_,_,rfl,g1,p1.ok.lt g1,by simp[yJ,nmI],rfl⟩)⟩ (by simp)
 rw[hbv]at b1
 have q1:=remN (c:=i) (k:=26) (by omega)
 have q2:=quoN (c:=i) (k:=26) (by omega) (by omega)
 have q3:=remN (c:=i / 26) (k:=26) (by omega)
 have q4:=quoN (c:=i) (k:=676) (by omega) (by omega)
 have q5:=remN (c:=i / 676) (k:=26) (by omega)
 have q6:=quoN (c:=i) (k:=17576) (by omega) (by omega)
 have q7:=remN (c:=i / 17576) (k:=26) (by omega)
 have q8:=quoN (c:=i) (k:=456976) (by omega) (by omega)
 have a1:((97:Nat):Int)+((i % 26:Nat):Int)=((97+i % 26:Nat):Int):=by omega
 have a2:((97:Nat):Int)+((i / 26 % 26:Nat):Int)=((97+i / 26 % 26:Nat):Int):=by omega
 have a3:((97:Nat):Int)+((i / 676 % 26:Nat):Int)=((97+i / 676 % 26:Nat):Int):=by omega
 have a4:((97:Nat):Int)+((i / 17576 % 26:Nat):Int)=((97+i / 17576 % 26:Nat):Int):=by omega
 have a5:((97:Nat):Int)+((i / 456976:Nat):Int)=((97+i / 456976:Nat):Int):=by omega
 have w1:=zCt (x:=97+i % 26) (by omega)
 have w2:=zCt (x:=97+i / 26 % 26) (by omega)
 have w3:=zCt (x:=97+i / 676 % 26) (by omega)
 have w4:=zCt (x:=97+i / 17576 % 26) (by omega)
 have w5:=zCt (x:=97+i / 456976) (by omega)
 have bl:vQ 5 1 5 [.int .u8 ((0:Nat):Int)] [(0, .int .u8 ((97+i % 26:Nat):Int)),(1, .int .u8 ((97+i / 26 % 26:Nat):Int)),(2, .int .u8 ((97+i / 676 % 26:Nat):Int)),(3, .int .u8 ((97+i / 17576 % 26:Nat):Int)),(4, .int .u8 ((97+i / 456976:Nat):Int))]=some (.cells [.int .u8 ((97+i % 26:Nat):Int), .int .u8 ((97+i / 26 % 26:Nat):Int), .int .u8 ((97+i / 676 % 26:Nat):Int), .int .u8 ((97+i / 17576 % 26:Nat):Int), .int .u8 ((97+i / 456976:Nat):Int)] 5 1 false,fun A=> .slice A 0 5 10):=rfl
 have hh: ∀H,f22 D n [S (nmI i)] H=some (.int .i64 ((yM (nmI i):Nat):Int),H):=fun H=>bJ _ _ _ (by have:(nmI i).length=5:=rfl;omega) (by have:(nmI i).length=5:=rfl;omega)
 have ha: ∀H,f22 D n [S [97]] H=some (.int .i64 ((140:Nat):Int),H):=fun H=>by
  have:=bJ D n (H:=H) [97] (by simp;omega) (by simp)
  rwa[zI3]at this
 have s97:(AV.str 1 97)=S [97]:=rfl
 have hln:lnSl v=some (.int .i64 (((nmL (uH i)).length:Nat):Int)):=g.row.lnSl
 have hnl:(nmL (uH i)).length=(uH i).length:=by simp[nmL]
 have hlt:(((nmL (uH i)).length:Nat):Int)< ((257:Nat):Int):=by omega
 have hi6:((i:Nat):Int)< ((600000:Nat):Int):=by omega
 have hi1:((i:Nat):Int)+((1:Nat):Int)=((i+1:Nat):Int):=by omega
 have N1:=p1.next;have N0:=P.next
 by_cases hit:yM (nmI i)=140
 ·have hs:uH (i+1)=uH i++[i]:=by rw[QC,if_pos (by simp[zKo,hit])]
  obtain⟨H2,B,b2,p2,g2,m2,n2⟩:=box p1.ok (.cells [S (nmI i)] 9 1 false)
  have N2:=p2.next
  have hsrc:srcOf 1 (.slice B 0 1 2) H2=some (1,[S (nmI i)]):=by simp only[srcOf,g2];rfl
  obtain⟨v',H3,e3,gw3,s3,f3⟩:=jA.app (bytes:=16) (m:=1) p2.ok (by decide) (jA.mono g (p1.trans p2) fun _ _ x=>x) hsrc rfl rfl (by omega) (by decide)
  have hS:(AV.str 0 0)=S []:=rfl
  have bl2:vQ 9 1 1 [S []] [(0,S (nmI i))]=some (.cells [S (nmI i)] 9 1 false,fun A=> .slice A 0 1 2):=rfl
  have heq:((yM (nmI i):Nat):Int)=((140:Nat):Int):=by omega
  refine⟨H3,v', ?_,(P.trans (p1.trans p2)).fresh s3 f, ?_,fun B hB=> ?_⟩
  ·simp(maxSteps:=999999)(disch:=omega) only[zA8,zJO,eZ,hln,hlt,hi6,q1,q2,q3,q4,q5,q6,q7,q8,a1,a2,a3,a4,a5,zAj,w1,w2,w3,w4,w5,bl,b1,hcv,hh,s97,ha,heq,hS,bl2,b2,e3,hi1]
  ·have hm:nmL (uH (i+1))=nmL (uH i)++[nmI i]:=by rw[hs];simp[nmL]
   rw[hm,zH,List.map_append];exact gw3
  ·rcases f3 B hB with e | e
   ·exact f B e
   ·omega
 ·have hs:uH (i+1)=uH i:=by rw[QC,if_neg (by simp[zKo,hit])];simp
  have hne: ¬((yM (nmI i):Nat):Int)=((140:Nat):Int):=by omega
  refine⟨H1,v, ?_,P.trans p1,by rw[hs];exact jA.mono g p1 fun _ _ x=>x,f⟩
  simp(maxSteps:=999999)(disch:=omega) only[zA8,zJO,eZ,hln,hlt,hi6,q1,q2,q3,q4,q5,q6,q7,q8,a1,a2,a3,a4,a5,zAj,w1,w2,w3,w4,w5,bl,b1,hcv,hh,s97,ha,hne,hi1]
theorem zC6 (D:Dyn)(n:Nat)(hn:1000000≤n){H0:AH}(hk:H0.ok)(x3 x5 x7 x10 x12 x13:AV):
  ∃L H' v,Ns L∧qX n (zA8 D n) [x3,x5,x7,x10,x12,x13, .nilSlice, .int .i64 ((0:Nat):Int)] H0=some (.exit 0 [x3,x5,x7,x10,x12,x13,v],H')∧Prs H0 H'∧Strs H' v (nmL L)∧ ∀B,Blk v B→H0.next≤B:=by
 obtain⟨N,hN,h257,hlt⟩:=zIO
 have lp:=xU (b:=zA8 D n) N (fun i us H'=> ∃v,us=[x3,x5,x7,x10,x12,x13,v, .int .i64 ((i:Nat):Int)]∧Prs H0 H'∧jA 1 9 H' v (nmL (uH i)).length ((nmL (uH i)).map S)∧(∀B,Blk v B→H0.next≤B)) (fun i us H' hi ⟨v,hus,P,g,f⟩=>by
  subst hus
  obtain⟨H2,v2,e2,P2,g2,f2⟩:=zC5 D n (by omega) (x3:=x3) (x5:=x5) (x7:=x7) (x10:=x10) (x12:=x12) (x13:=x13) (by omega) (hlt i hi) P g f
  exact⟨_,H2,e2,v2,rfl,P2,g2,f2⟩) n _ H0 ⟨.nilSlice,rfl,Stp.refl hk, .inl (Own.nil ..),fun B hB=>(Blk.nil.1 hB).elim⟩ (by omega)
 obtain⟨q,us,H5,e5,v,rfl,P5,g5,f5⟩:=lp
 refine⟨uH N,H5,v,zJz h257 hN, ?_,P5,g5.row,f5⟩
 have hnl:(nmL (uH N)).length=257:=by simp[nmL,h257]
 have hln:lnSl v=some (.int .i64 (((nmL (uH N)).length:Nat):Int)):=g5.row.lnSl
 have hge: ¬(((nmL (uH N)).length:Nat):Int)< ((257:Nat):Int):=by omega
 rw[e5]
 refine yE ?_
 simp(maxSteps:=999999)(disch:=omega) only[zA8,eZ,hln,hge]
theorem zHY {L:List Nat}(n:Ns L){j:Nat}(hj:j<257)(h:j< (nmL L).length):(nmL L)[j]=nmI (L.getD j 0):=by
 have hj':j<L.length:=by rw[n.len];exact hj
 simp only[nmL,List.getElem_map,KY hj']
theorem BR {L:List Nat}(n:Ns L):(nmL L).length=257:=by simp[nmL,n.len]
theorem VQ (D:Dyn)(n:Nat)(hn:100≤n){H:AH} :f22 D n [S [97]] H=some (.int .i64 ((140:Nat):Int),H):=by
 have:=bJ D n (H:=H) [97] (by simp;omega) (by simp)
 rwa[zI3]at this
theorem zFC (m:Nat)(hm:700000000≤m){H1:AH}{At M:Nat}{L:List Nat}{v x3 x5 x7 x10 x12:AV}(n:Ns L)(hv:Strs H1 v (nmL L))(hb: ∀B,Blk v B→B≠At∧B≠M)(t:jI H1 At M 0 []):
  ∃H' kv,qX (m+1) (zCe (dy (m+1)) (m+1)) [x3,x5,x7,x10,x12, .ptr At 0,v, .int .i64 ((0:Nat):Int)] H1=some (.exit 2 [x3,x5,x7,x10,x12, .ptr At 0,v],H')∧Stp (fun B=>B=At∨B=M) H1 H'∧jI H' At M 51400 kv∧D1 kv (enX L 256)∧kv.length≤257:=by
 have hk1:H1.ok:=by obtain⟨_,_,_,_,_,_,_,_,_,ti,_⟩:=t;exact ti.ok
 have keepV: ∀ {H:AH},Stp (fun B=>B=At∨B=M) H1 H→Strs H v (nmL L):=fun st=>Rw.stp hv st fun B hB e=>by have:=hb B hB;omega
 have s97:(AV.str 1 97)=S [97]:=rfl
 have ha: ∀H,f22 (dy (m+1)) (m+1) [S [97]] H=some (.int .i64 ((140:Nat):Int),H):=fun H=>VQ _ _ (by omega)
 have t00: ¬(((0:Nat):Int)≠((0:Nat):Int)):=by omega
 have hmul:((256:Nat):Int)*((140:Nat):Int)=((35840:Nat):Int):=by omega
 have lp:=xU (b:=zCe (dy (m+1)) (m+1)) 257 (fun j us H=>us=[x3,x5,x7,x10,x12, .ptr At 0,v, .int .i64 ((j:Nat):Int)]∧Stp (fun B=>B=At∨B=M) H1 H∧ ∃kv,jI H At M (200*j) kv∧D1 kv (enX L (min j 256))∧kv.length≤j) (fun j us H hj ⟨hus,st,kv,tr,d,hkv⟩=>by
  subst hus
  have hvj:=keepV st
  have hjl:j< (nmL L).length:=by rw[BR n];exact hj
  obtain⟨p,i1,i2⟩:=hvj.at hjl
  rw[zHY n hj]at i2
  have h5:(nmI (L.getD j 0)).length=5:=rfl
  obtain⟨H2,e2,t2,s2⟩:=WH m hm (nm:=nmI (L.getD j 0)) (ino:=((9:Nat):Int)) tr (by omega) (by omega) d.f1 (d:=1) (by omega) (by omega) (by omega)
  have hln:lnSl v=some (.int .i64 (((nmL L).length:Nat):Int)):=hvj.lnSl
  have hjI:((j:Nat):Int)< (((nmL L).length:Nat):Int):=by omega
  have hj1:((j:Nat):Int)+((1:Nat):Int)=((j+1:Nat):Int):=by omega
  by_cases h256:j<256
  ·rw[show min j 256=j by omega]at d
   obtain⟨a1,d1⟩:=n.add h256 d
   rw[a1]at e2 t2
   simp only at e2 t2
   have hlen:=Nd.len_put (yA 1 (35840+j+1)) (xO (enT L j)) d.f1.1
   refine⟨_,H2, ?_,rfl,st.trans s2,_,t2.up (by omega),by rw[show min (j+1) 256=j+1 by omega];exact d1,by rw[hlen];split<;>omega⟩
   have hlt:((j:Nat):Int)< ((256:Nat):Int):=by omega
   have hadd:((35840:Nat):Int)+((j:Nat):Int)=((35840+j:Nat):Int):=by omega
   have hadd2:((35840+j:Nat):Int)+((1:Nat):Int)=((35840+j+1:Nat):Int):=by omega
   have tn: ¬(((35840+j+1:Nat):Int)≠((35840+j+1:Nat):Int)):=fun h=>h rfl
   have hne: ¬((j:Nat):Int)=((256:Nat):Int):=by omega
   simp(maxSteps:=999999)(disch:=omega) only[zCe,eZ,hln,hjI,i1,i2,e2,qK,nth,hlt,t00,s97,ha,hmul,hadd,hadd2,tn,hne,hj1]
  ·obtain rfl:j=256:=by omega
   have a1:=n.full d
   rw[a1]at e2 t2
   simp only at e2 t2
   refine⟨_,H2, ?_,rfl,st.trans s2,_,t2.up (by omega),d,by omega⟩
   have hlt: ¬((256:Nat):Int)< ((256:Nat):Int):=by omega
   have t33: ¬(((3:Nat):Int)≠((3:Nat):Int)):=by omega
   simp(maxSteps:=999999)(disch:=omega) only[zCe,eZ,hln,hjI,i1,i2,e2,qK,nth,hlt,t33,hj1]) (m+1) _ H1 ⟨rfl,Stp.refl hk1,[],t,zM7,by simp⟩ (by omega)
 obtain⟨q,us,H5,e5,rfl,st,kv,tr,d,hkv⟩:=lp
 refine⟨H5,kv, ?_,st,tr.up (by omega),d,hkv⟩
 have hln:lnSl v=some (.int .i64 (((nmL L).length:Nat):Int)):=(keepV st).lnSl
 have hge: ¬((257:Nat):Int)< (((nmL L).length:Nat):Int):=by rw[BR n];omega
 rw[e5]
 refine yE ?_
 simp(maxSteps:=999999)(disch:=omega) only[zCe,eZ,hln,hge]
theorem zDR (m:Nat)(hm:700000000≤m){H:AH}{At M:Nat}{L:List Nat}{v:AV}{kv:Kvs}(n:Ns L)(hv:Strs H v (nmL L))(hb: ∀B,Blk v B→B≠At∧B≠M)(t:jI H At M 51400 kv)(d:D1 kv (enX L 256))(hkv:kv.length≤257):
  ∃H',zJP (dy (m+1)) (m+1) [.int .i64 ((2:Nat):Int), .int .i64 ((2:Nat):Int), .int .i64 ((2:Nat):Int), .int .i64 ((2:Nat):Int), .int .i64 ((2:Nat):Int), .ptr At 0,v] H=some (.ret (.bool true),H')∧Stp (fun B=>B=At∨B=M) H H':=by
 have hk:H.ok:=by obtain⟨_,_,_,_,_,_,_,_,_,ti,_⟩:=t;exact ti.ok
 obtain⟨w1,w2,w3,w4,w5⟩:=n.swap d
 obtain⟨kv2,hkv2⟩: ∃kv2,kv2=Nd.delP (yA 1 35848) kv:=⟨_,rfl⟩
 obtain⟨kv3,hkv3⟩: ∃kv3,kv3=Nd.putP (yA 1 35848) (xO ⟨35848,8,nmI (L.getD 256 0)⟩) kv2:=⟨_,rfl⟩
 rw[← hkv2]at w2 w3 w4 w5
 rw[← hkv3]at w2 w4 w5
 have l5: ∀j,(nmI (L.getD j 0)).length=5:=fun j=>rfl
 have hdv:zF3 1 (nmI (L.getD 7 0)) kv=[.int .i64 ((9:Nat):Int), .int .i64 ((0:Nat):Int)]:=by simp only[zF3,w1];rfl
 have hdk:zAf 1 (nmI (L.getD 7 0)) kv=kv2:=by simp only[zAf,w1,hkv2];rfl
 obtain⟨H1,e1,t1,s1⟩:=zHe m hm (nm:=nmI (L.getD 7 0)) t (by omega) (by omega) d.f1 (d:=1) (by omega) (by omega) (by have:=l5 7;omega)
 rw[hdv]at e1
 rw[hdk]at t1
 have hl2:kv2.length≤257:=by
  rw[hkv2];exact Nat.le_trans (zIu ..) hkv
 obtain⟨H2,e2,t2,s2⟩:=WH m hm (nm:=nmI (L.getD 256 0)) (ino:=((8:Nat):Int)) t1 (by omega) (by omega) w3 (d:=1) (by omega) (by omega) (by have:=l5 256;omega)
 rw[w2]at e2 t2
 simp only at e2 t2
 have hl3:kv3.length≤258:=by
  have:=Nd.len_put (yA 1 35848) (xO ⟨35848,8,nmI (L.getD 256 0)⟩) w3.1
  rw[hkv3,this];split<;>omega
 obtain⟨H3,e3,p3⟩:=zHa m hm (nm:=nmI (L.getD 200 0)) t2 (by omega) (by omega) w4 (d:=1) (by omega) (by omega) (by have:=l5 200;omega)
 have hfv:VW 1 (nmI (L.getD 200 0)) kv3=[.int .i64 ((9:Nat):Int), .int .i64 ((36041:Nat):Int), .int .i64 ((0:Nat):Int)]:=by
  simp only[VW,(n.at (show 200<257 by omega)).2.2,cond_true,w5];rfl
 rw[hfv]at e3
 have t3:=t2.prs p3
 obtain⟨H4,e4,p4⟩:=zFE (dy (m+1)) (m+1) p3.ok (x0:= .ptr At 0) (z:=((0:Nat):Int)) (c:=1) (.inr ⟨At,rfl,by omega,rfl⟩) [97] ((1:Nat):Int)
 obtain⟨H5,e5,t5,s5⟩:=WH m hm (nm:=[98]) (ino:=((0:Nat):Int)) (t3.prs p4) (by omega) (by omega) w4 (d:=1) (by omega) (by omega) (by simp)
 have a5:bN 1 [98] ((0:Nat):Int) kv3=(0,1,kv3):=by rw[bN,if_neg (by omega)]
 rw[a5]at e5 t5
 simp only at e5 t5
 obtain⟨H6,e6,t6,s6⟩:=WH m hm (nm:=[46,46]) (ino:=((1:Nat):Int)) t5 (by omega) (by omega) w4 (d:=1) (by omega) (by omega) (by simp)
 have a6:bN 1 [46,46] ((1:Nat):Int) kv3=(0,56,kv3):=by rw[bN,if_pos (by omega),if_neg (by decide)]
 rw[a6]at e6 t6
 simp only at e6 t6
 have e7:f14 (dy (m+1)) (m+1) [.ptr At 0, .int .i64 ((1:Nat):Int), .int .i64 (Int.negSucc 0), .int .i64 ((0:Nat):Int)] H6=some (.tuple [.nilSlice, .bool false, .int .i64 ((1:Nat):Int)],H6):=KO _ _ (.inr ⟨At,rfl,by omega,rfl⟩)
 have e8:f17 (dy (m+1)) (m+1) [.ptr At 0, .int .i64 ((2147483648:Nat):Int)] H6=some (.tuple [.bool false, .int .i64 ((1:Nat):Int)],H6):=U6 _ _ (.inr ⟨At,rfl,by omega,rfl⟩)
 have st3:Stp (fun B=>B=At∨B=M) H H3:=(s1.trans s2).trans (Prs.stp p3)
 have st6:Stp (fun B=>B=At∨B=M) H H6:=((st3.trans (Prs.stp p4)).trans s5).trans s6
 have far: ∀B,Blk v B→ ¬(B=At∨B=M):=fun B hB e=>by have:=hb B hB;omega
 have hv1:Strs H1 v (nmL L):=Rw.stp hv s1 far
 have hv2:Strs H2 v (nmL L):=Rw.stp hv1 s2 far
 have hv6:Strs H6 v (nmL L):=Rw.stp hv st6 far
 have hl:=BR n
 obtain⟨q7,i7,r7⟩:=hv.at (i:=7) (by omega)
 obtain⟨q256,i256,r256⟩:=hv1.at (i:=256) (by omega)
 obtain⟨q200,i200,r200⟩:=hv2.at (i:=200) (by omega)
 rw[zHY n (by omega)]at r7 r256 r200
 have x7:=i7 .i64 ((7:Nat):Int) rfl
 have x256:=i256 .i64 ((256:Nat):Int) rfl
 have x200:=i200 .i64 ((200:Nat):Int) rfl
 have hln:lnSl v=some (.int .i64 ((257:Nat):Int)):=by rw[hv6.lnSl,hl]
 have s97:(AV.str 1 97)=S [97]:=rfl
 have s98:(AV.str 1 98)=S [98]:=rfl
 have sdd:(AV.str 2 11822)=S [46,46]:=rfl
 have ha: ∀H,f22 (dy (m+1)) (m+1) [S [97]] H=some (.int .i64 ((140:Nat):Int),H):=fun H=>VQ _ _ (by omega)
 have hmul:((256:Nat):Int)*((140:Nat):Int)=((35840:Nat):Int):=by omega
 have h8:((35840:Nat):Int)+((8:Nat):Int)=((35848:Nat):Int):=by omega
 have h201:((35840:Nat):Int)+((201:Nat):Int)=((36041:Nat):Int):=by omega
 have hz: ∀H,z6 (dy (m+1)) (m+1) [] H=some (.bool true,H):=fun H=>rfl
 refine⟨H6, ?_,st6⟩
 simp(maxSteps:=999999)(disch:=omega) only[zJP,eZ,x7,r7,e1,qK,nth,x256,r256,e2,x200,r200,e3,s97,s98,sdd,e4,e5,e6,e7,e8,hln,ha,hmul,h8,h201,hz]
theorem dirNames_walk (m:Nat)(hm:700000000≤m){Hi:AH}(hk:Hi.ok): ∃H',f4z (dy (m+1)) (m+1) [] Hi=some (.bool true,H')∧Prs Hi H':=by
 have s97:(AV.str 1 97)=S [97]:=rfl
 have bn: ∀z,Bad .nilPtr z 2:=fun z=> .inl ⟨rfl,rfl⟩
 obtain⟨H1,e1,p1⟩:=zGP (dy (m+1)) (m+1) hk (bn ((1:Nat):Int)) [97]
 obtain⟨H2,e2,p2⟩:=zFE (dy (m+1)) (m+1) p1.ok (bn ((1:Nat):Int)) [97] ((1:Nat):Int)
 obtain⟨H3,e3,p3⟩:=zH5 (dy (m+1)) (m+1) p2.ok (bn ((1:Nat):Int)) [97]
 have e4:f14 (dy (m+1)) (m+1) [.nilPtr, .int .i64 ((1:Nat):Int), .int .i64 ((0:Nat):Int), .int .i64 ((0:Nat):Int)] H3=some (.tuple [.nilSlice, .bool false, .int .i64 ((2:Nat):Int)],H3):=KO _ _ (.inl ⟨rfl,rfl⟩)
 have e5:f17 (dy (m+1)) (m+1) [.nilPtr, .int .i64 ((1:Nat):Int)] H3=some (.tuple [.bool false, .int .i64 ((2:Nat):Int)],H3):=U6 _ _ (bn _)
 obtain⟨H4,At,M,e6,p6,hA,hM,t⟩:=zH3 (dy (m+1)) (m+1) (by omega) p3.ok
 have lt:=t.lt
 obtain⟨L,H5,v,n,e7,p7,hv,fv⟩:=zC6 (dy (m+1)) (m+1) (by omega) p6.ok (.int .i64 ((2:Nat):Int)) (.int .i64 ((2:Nat):Int)) (.int .i64 ((2:Nat):Int)) (.int .i64 ((2:Nat):Int)) (.int .i64 ((2:Nat):Int)) (.ptr At 0)
 have hb: ∀B,Blk v B→B≠At∧B≠M:=fun B hB=>by have:=fv B hB;omega
 obtain⟨H6,kv,e8,s8,t8,d8,l8⟩:=zFC m hm (x3:= .int .i64 ((2:Nat):Int)) (x5:= .int .i64 ((2:Nat):Int)) (x7:= .int .i64 ((2:Nat):Int)) (x10:= .int .i64 ((2:Nat):Int)) (x12:= .int .i64 ((2:Nat):Int)) n hv hb (t.prs p7)
 have hv6:Strs H6 v (nmL L):=Rw.stp hv s8 fun B hB e=>by have:=hb B hB;omega
 obtain⟨H7,e9,s9⟩:=zDR m hm n hv6 hb t8 d8 l8
 have N3:=((p1.trans p2).trans p3).next
 have P5:Prs Hi H5:=(((p1.trans p2).trans p3).trans p6).trans p7
 refine⟨H7, ?_,(P5.fresh s8 fun B hB=>by omega).fresh s9 fun B hB=>by omega⟩
 simp(maxSteps:=999999)(disch:=omega) only[f4z,zLZ,eZ,s97,e1,e2,e3,e4,e5,qK,nth,e6,cq,e7,e8,e9]
end Go.Eng.Sh
end
section
namespace Go.Proofs.YtnnimbgajljgaaaGreat.dirNames
open Go.ChangeShapes Go.WideShapes Go.ChangeAt Go.RowKit
theorem own:ownKnob Tryz.prog.godebug=none:=by kernel_rfl
theorem contract (H:Type)(enc:TypeId×Value→H)(W:World)(args:Array Value)(ds gs:List (DataW H))(before:List MemPlace)
  (hW:DataW.Whole enc Tryz.prog Tryz.f4.params.toList Rows.dirNamesSpec.vars false W args.toList ds gs before):
  Calls Tryz.prog 4 args W fun e W'=> ∃v,e= .returned v∧Rows.dirNamesSpec.post enc Tryz.prog Tryz.f4 false true false false W args v W':=by
 have hW':=hW
 obtain⟨p,q,hA0,hV,rfl,hfz,hnd⟩:=hW
 have hA:DataW.TrodAll enc Tryz.prog W 0 (fun _=>true) true Tryz.f4.params.toList args.toList ds p:=hA0
 rw[Tryz.params4]at hA
 obtain⟨rfl,rfl,rfl⟩:=trodAll_none hA
 obtain⟨rfl,rfl⟩:=trodVars_none hV
 clear hA0
 obtain⟨m,hm⟩: ∃m:Nat,700000000≤m:=⟨_,Nat.le_refl _⟩
 obtain⟨H',hrun,hP⟩:=Go.Eng.Sh.dirNames_walk m hm (Go.Eng.H0_ok W)
 have hcall:=Go.Eng.calls_param (Go.Eng.Sh.f4z_ok (Go.Eng.Sh.dy_ok (m+1)) (m+1)) W (args:= #[]) (H':=H') (by
  simp only[List.map_nil];exact hrun) (fun A hA=>hP.keep A hA (fun x=>x))
 refine hcall.mono fun e W' ⟨he,hb⟩=> ?_
 subst he
 simp only[List.append_nil]at hW'
 refine⟨_,rfl,_,_,_,[],[],[],hW', ?_, ?_,rfl,hb.frame _,fun h=>by cases h⟩
 ·exact trodAll_cons_mk (shut_bool Tryz.underlying4 _) trodAll_mk0
 ·exact trodAll_mk0
set_option maxRecDepth 100000 in
theorem lifted (os:Os)(started:os.Started)(H:Type)(enc:TypeId×Value→H):
  ReturnsInHanded {} Tryz.checked os 4 .any (Rows.dirNamesSpec.pre6 enc Tryz.prog Tryz.f4 Rows.dirNamesRow.domain false) (Rows.dirNamesSpec.post enc Tryz.prog Tryz.f4 false true false false):=by
 refine returnsInHanded_of_change (C:= Tryz.checked) own started (by kernel_rfl) Tryz.func4
  (ChangeSpec.witness6 (enc:=enc) (C:= Tryz.checked) false ⟨#[], #[],[]⟩ 8 (by kernel_rfl) (by kernel_rfl) (by kernel_rfl) (by kernel_rfl)) ?_
 intro W base args ds gs before hval hW _ _
 exact contract H enc W args ds gs before hW
theorem holds:Rows.DirNamesSaid:=
 OpenClaim.holds_of_wide 4 Tryz.f4 rfl rfl rfl rfl rfl rfl rfl ⟨rfl,rfl,rfl,rfl,rfl⟩ rfl rfl rfl rfl rfl (by kernel_rfl) Tryz.func4 (by kernel_rfl)
  (of_decide_eq_true (by kernel_rfl)) (by unfold Func.isWrapper;first | (rw[if_pos (by decide+kernel)];kernel_rfl) | (rw[if_neg (by decide+kernel)];exact⟨rfl,rfl⟩))
  (fun os started H enc _=>lifted os started H enc)
end Go.Proofs.YtnnimbgajljgaaaGreat.dirNames
namespace Go.Proofs.YtnnimbgajljgaaaGreat
theorem dirNames_holds:Rows.DirNamesSaid:=dirNames.holds
end Go.Proofs.YtnnimbgajljgaaaGreat
end
