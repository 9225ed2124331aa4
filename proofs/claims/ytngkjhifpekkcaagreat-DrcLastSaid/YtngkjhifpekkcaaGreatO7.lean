/- A checked evaluator for the program, and what it tells, part 7: no condition. -/
import Derived.Test.YtngkjhifpekkcaaGreatO6
import Derived.Test.YtngkjhifpekkcaaGreatRows
import Derived.ProofKit
import Derived.OpenShut
import Derived.Carry
set_option linter.all false
set_option linter.unusedVariables false
set_option linter.unusedSimpArgs false
set_option maxHeartbeats 8000000
section
namespace Go.Eng
theorem ixSl_int (A off n cc:Nat)(k:IntKind){z:Int}(i:Nat)(hz:z=(i:Int))(h:i<n):ixSl 1 (.slice A off n cc) (.int k z)=some (.ptr A (off+i)):=by
 subst hz
 have n1:=natOf_int k (z:=((i:Nat):Int)) (by omega)
 simp only[Int.toNat_natCast]at n1
 have hb:Nat.blt i n=true:=by rw[Nat.blt_eq];exact h
 simp only[ixSl,n1,hb,cond_true,fN_eq,Nat.mul_one]
theorem bInt_or_u64 {a b:Nat}(ha:a<18446744073709551616)(hb:b<256):bInt .or (.int .u64 ((a*256:Nat):Int)) (.int .u64 (b:Int))=some (.int .u64 (((a*256+b):Nat):Int))∨18446744073709551616≤a*256:=by
 by_cases h:a*256<18446744073709551616
 ·left
  have h1:Nat.blt (a*256) (kmod .u64)=true:=by rw[Nat.blt_eq];exact h
  have h2:Nat.blt b (kmod .u64)=true:=by rw[Nat.blt_eq];exact Nat.lt_trans hb (by decide)
  have h3:Nat.lor (a*256) b=a*256+b:=by
   have:=Nat.two_pow_add_eq_or_of_lt (b:=b) (i:=8) (by omega) a
   rw[Nat.mul_comm a 256];exact this.symm
  have hk:keq .u64 .u64=true:=rfl
  have h5:IntKind.wrap .u64 ((a*256+b:Nat):Int)=((a*256+b:Nat):Int):=by rw[wrap_u64];omega
  have h4:abits .or .u64 (.ofNat (a*256)) (.ofNat b)=some (.int .u64 ((a*256+b:Nat):Int)):=by
   simp only[abits,IntKind.signed,Bool.not_false,h1,h2,Bool.and_self,cond_true,h3,mkI_eq,Int.ofNat_eq_natCast,h5]
  have h6:bInt .or (.int .u64 (.ofNat (a*256))) (.int .u64 (.ofNat b))=abits .or .u64 (.ofNat (a*256)) (.ofNat b):=by simp only[bInt,abinI,hk,cond_true]
  exact h6.trans h4
 ·right;omega
theorem ixStr_nat (s:Str)(k:IntKind){i:Nat}(h:i<s.length):ixStr (S s) (.int k ((i:Nat):Int))=some (.int .u8 (((s[i]).toNat:Nat):Int)):=by
 have:=ixStr_S s k (z:=((i:Nat):Int)) (by omega) (by simpa using h)
 simpa using this
end Go.Eng
namespace Go.Eng.Sh
open Go.Nd (Ptr sumL leafOf Kvs Srt)
open Go.Bt Go.Dr
theorem num_take (s:Str){i:Nat}(h:i<s.length):num (s.take (i+1))=num (s.take i)*256+(s[i]).toNat:=by
 rw[num,List.take_succ_eq_append_getElem h,numF_app];rfl
theorem num_lt (s:Str){i:Nat}(h:s.length≤i):num s<256 ^ i:=by
 have h1:=numF_bound s 0
 have h2:256 ^ s.length≤256 ^ i:=Nat.pow_le_pow_right (by omega) h
 rw[num];omega
theorem parse_ok (D:Dyn)(n:Nat)(hn:100≤n){H:AH}(s:Str)(hs:s.length≤8):f132 D n [S s] H=some (.int .u64 ((num s:Nat):Int),H):=by
 have lp:loopK n (f132l0 D n) [S s, .int .u64 ((0:Nat):Int), .int .i64 ((s.length:Nat):Int), .int .i64 ((0:Nat):Int)] H=some (.exit 0 [.int .u64 ((num s:Nat):Int)],H):=by
  refine loop_for (fun i=>[S s, .int .u64 ((num (s.take i):Nat):Int), .int .i64 ((s.length:Nat):Int), .int .i64 ((i:Nat):Int)]) s.length (fun i hi=> ?_) (fun k=> ?_) n (by omega)
  ·have hb:=num_lt (s.take i) (i:=7) (by simp;omega)
   have h7:(256:Nat) ^ 7=72057594037927936:=by decide
   have hx:=ixStr_nat s .i64 hi
   have hsh:bInt .shl (.int .u64 ((num (s.take i):Nat):Int)) (.int .u64 ((8:Nat):Int))=some (.int .u64 ((num (s.take i)*256:Nat):Int)):=by
    rw[bInt_shl _ _ _ (by decide),wrap_u64]
    congr 2
    have h8:(2:Int) ^ 8=256:=by decide
    all_goals omega
   have hc:=(s[i]).toNat_lt
   have hor:=(bInt_or_u64 (a:=num (s.take i)) (b:=(s[i]).toNat) (by omega) (by omega)).resolve_right (by omega)
   have hw:IntKind.wrap .u64 (((s[i]).toNat:Nat):Int)=(((s[i]).toNat:Nat):Int):=by rw[wrap_u64];omega
   have hiI:((i:Nat):Int)< ((s.length:Nat):Int):=by omega
   have hi1:((i:Nat):Int)+((1:Nat):Int)=((i+1:Nat):Int):=by omega
   simp(config:= { maxSteps:=1000000}) (disch:=omega) only[f132l0,ev,lg,wnt_undef,ew,hiI,hsh,hx,hw,hor,hi1,num_take s hi]
  ·refine loop_exit ?_
   simp only[f132l0,ev,lg,wnt_undef,ew,Int.lt_irrefl,List.take_length]
 simp only[f132,ev,lg,wnt_undef,ew,lnStr_S,lp,f132b1]
theorem byteV_dig (x k:Nat):bytesV (dig x k)=(List.range k).map fun i=>AV.int .u8 ((x / 256 ^ (k - 1 - i) % 256:Nat):Int):=by
 apply List.ext_getElem
 ·simp[bytesV_length,dig_len]
 ·intro i h1 h2
  simp only[bytesV,List.getElem_map,List.getElem_range]
  rw[dig_get]
def digRow (x k i:Nat):List AV:=((List.range k).map fun j=>AV.int .u8 ((if j<i then x / 256 ^ (k - 1 - j) % 256 else 0:Nat):Int))
theorem digRow_set (x k:Nat){i:Nat}(h:i<k):(digRow x k i).set i (.int .u8 ((x / 256 ^ (k - 1 - i) % 256:Nat):Int))=digRow x k (i+1):=by
 apply List.ext_getElem
 ·simp[digRow]
 ·intro j h1 h2
  simp only[digRow,List.getElem_set,List.getElem_map,List.getElem_range]
  by_cases e:i=j
  ·subst e;simp
  ·rw[if_neg e]
   by_cases hj:j<i
   ·rw[if_pos hj,if_pos (by omega)]
   ·rw[if_neg hj,if_neg (by omega)]
theorem digits_ok (D:Dyn)(n:Nat)(hn:100≤n){H:AH}(hk:H.ok)(x k:Nat)(hx:x<18446744073709551616)(hk8:k≤8):
  ∃H',f56 D n [.int .u64 ((x:Nat):Int), .int .i64 ((k:Nat):Int)] H=some (S (dig x k),H')∧Prs H H':=by
 have hrep:rep k [AV.int .u8 ((0:Nat):Int)]=digRow x k 0:=by
  rw[rep_one]
  apply List.ext_getElem
  ·simp[digRow]
  ·intro j h1 h2
   simp[digRow]
 obtain⟨H1,A,b1,p1,g1,m1,n1⟩:=box hk (.cells (digRow x k 0) 5 1 false)
 have hmk:mkSl 5 1 1 [.int .u8 ((0:Nat):Int)] (.int .i64 ((k:Nat):Int)) (.int .i64 ((k:Nat):Int))=some (.cells (digRow x k 0) 5 1 false,fun A=> .slice A 0 k (2*k)):=by
  have h1:Nat.ble k k=true:=by rw[Nat.ble_eq];exact Nat.le_refl _
  have h2:Nat.ble (k*1) 140737488355328=true:=by rw[Nat.ble_eq];omega
  have h3:Nat.blt k 9223372036854775808=true:=by rw[Nat.blt_eq];omega
  have e0:mkSl 5 1 1 [.int .u8 ((0:Nat):Int)] (.int .i64 (.ofNat k)) (.int .i64 (.ofNat k))=(bif Nat.ble k k&&Nat.ble (k*1) 140737488355328&&Nat.blt k 9223372036854775808 then some (.cells (rep k [.int .u8 ((0:Nat):Int)]) 5 1 false,fun A=> .slice A 0 k (2*k))else none):=rfl
  show mkSl 5 1 1 [.int .u8 ((0:Nat):Int)] (.int .i64 (.ofNat k)) (.int .i64 (.ofNat k))=_
  rw[e0,h1,h2,h3,hrep];rfl
 have lp:=loop_inv (b:=f56l0 D n) k (fun i us H'=>us=[.int .u64 ((x:Nat):Int), .int .i64 ((k:Nat):Int), .slice A 0 k (2*k), .int .i64 ((k:Nat):Int), .int .i64 ((i:Nat):Int)]∧Prs H H'∧H'.h.get A=some (.cells (digRow x k i) 5 1 false)) (fun i us H' hi ⟨hus,P,g⟩=>by
  subst hus
  obtain⟨H2,e2,g2,s2⟩:=st1c P.ok g (o:=i) (x:= .int .u8 ((x / 256 ^ (k - 1 - i) % 256:Nat):Int)) rfl (by simp[digRow];omega)
  rw[digRow_set x k hi]at g2
  refine⟨_,H2, ?_,rfl,P.fresh s2 (fun B hB=>by omega),g2⟩
  have hs1:((k:Nat):Int) - ((1:Nat):Int)=((k - 1:Nat):Int):=by omega
  have hs2:((k - 1:Nat):Int) - ((i:Nat):Int)=((k - 1 - i:Nat):Int):=by omega
  have hm8:((8:Nat):Int)*((k - 1 - i:Nat):Int)=((8*(k - 1 - i):Nat):Int):=by omega
  have hpw:(2:Nat) ^ (8*(k - 1 - i))=256 ^ (k - 1 - i):=pow256 _
  have hshr:bInt .shr (.int .u64 ((x:Nat):Int)) (.int .i64 ((8*(k - 1 - i):Nat):Int))=some (.int .u64 ((x / 256 ^ (k - 1 - i):Nat):Int)):=by
   rw[bInt_shr _ _ (by omega) (show 8*(k - 1 - i)≤64 by omega), ← hpw]
   congr 2
   all_goals(rw[Int.natCast_ediv,Int.natCast_pow];rfl)
  have hw:IntKind.wrap .u8 ((x / 256 ^ (k - 1 - i):Nat):Int)=((x / 256 ^ (k - 1 - i) % 256:Nat):Int):=by rw[wrap_u8];omega
  have hix:ixSl 1 (.slice A 0 k (2*k)) (.int .i64 ((i:Nat):Int))=some (.ptr A i):=by rw[ixSl_int A 0 k (2*k) .i64 i rfl hi];simp
  have hiI:((i:Nat):Int)< ((k:Nat):Int):=by omega
  have hi1:((i:Nat):Int)+((1:Nat):Int)=((i+1:Nat):Int):=by omega
  simp(config:= { maxSteps:=1000000}) (disch:=omega) only[f56l0,ev,lg,wnt_undef,ew,hiI,hs1,hs2,hm8,hshr,hw,hix,e2,hi1]) n _ H1 ⟨rfl,p1,g1⟩ (by omega)
 obtain⟨r,us,H2,e2,rfl,P2,g2⟩:=lp
 refine⟨H2, ?_,P2⟩
 have last:loopK (r+1) (f56l0 D n) [.int .u64 ((x:Nat):Int), .int .i64 ((k:Nat):Int), .slice A 0 k (2*k), .int .i64 ((k:Nat):Int), .int .i64 ((k:Nat):Int)] H2=some (.exit 0 [.slice A 0 k (2*k)],H2):=loop_exit (by simp only[f56l0,ev,lg,wnt_undef,ew,Int.lt_irrefl])
 have hcv:cvBS (.slice A 0 k (2*k)) H2=some (S (dig x k)):=cvBS_row (n:=k) ⟨by simp[bytesV_length,dig_len], .inr (.inr ⟨_,_,_,_,_,_,_,rfl,g2,P2.ok.lt g2,by simp[digRow],by
  rw[byteV_dig,List.drop_zero,List.take_of_length_le (by simp[digRow]),digRow]
  refine List.map_congr_left fun j hj=> ?_
  rw[if_pos (by simpa using hj)]⟩)⟩ (by simp)
 have hln:lnSl (.slice A 0 k (2*k))=some (.int .i64 ((k:Nat):Int)):=rfl
 simp(config:= { maxSteps:=1000000}) (disch:=omega) only[f56,ev,lg,wnt_undef,ew,hmk,b1,hln,e2,last,f56b1,hcv]
theorem cv2 {H:AH}{A:Nat}{a b:UInt8}{e:Nat}(hk:H.ok)(g:H.h.get A=some (.cells [.int .u8 ((a.toNat:Nat):Int), .int .u8 ((b.toNat:Nat):Int)] e 1 false)):cvBS (.slice A 0 2 4) H=some (S [a,b]):=
 cvBS_row (n:=2) ⟨rfl, .inr (.inr ⟨_,_,_,_,_,_,_,rfl,g,hk.lt g,by simp,rfl⟩)⟩ (by simp)
theorem cv1 {H:AH}{A:Nat}{a:UInt8}{e:Nat}(hk:H.ok)(g:H.h.get A=some (.cells [.int .u8 ((a.toNat:Nat):Int)] e 1 false)):cvBS (.slice A 0 1 2) H=some (S [a]):=
 cvBS_row (n:=1) ⟨rfl, .inr (.inr ⟨_,_,_,_,_,_,_,rfl,g,hk.lt g,by simp,rfl⟩)⟩ (by simp)
theorem ofNat_nat {c:Nat}(hc:c<256):(UInt8.ofNat c).toNat=c:=by rw[UInt8.toNat_ofNat'];omega
theorem head_ok (D:Dyn)(n:Nat){H:AH}(hk:H.ok){c:Nat}(hc:c<256): ∃H',f97 D n [.int .i64 ((c:Nat):Int)] H=some (S (hdK c),H')∧Prs H H':=by
 obtain⟨H1,A,b1,p1,g1,m1,n1⟩:=box hk (.cells [.int .u8 ((114:Nat):Int), .int .u8 ((c:Nat):Int)] 5 1 false)
 refine⟨H1, ?_,p1⟩
 have hw:IntKind.wrap .u8 ((c:Nat):Int)=((c:Nat):Int):=by rw[wrap_u8];omega
 have bl:bldL 5 1 2 [.int .u8 ((0:Nat):Int)] [(0, .int .u8 ((114:Nat):Int)),(1, .int .u8 ((c:Nat):Int))]=some (.cells [.int .u8 ((114:Nat):Int), .int .u8 ((c:Nat):Int)] 5 1 false,fun A=> .slice A 0 2 4):=rfl
 have hcv:cvBS (.slice A 0 2 4) H1=some (S (hdK c)):=cv2 p1.ok (a:=114) (b:=UInt8.ofNat c) (by rw[ofNat_nat hc];exact g1)
 simp(config:= { maxSteps:=1000000}) (disch:=omega) only[f97,ev,lg,wnt_undef,ew,hw,bl,b1,hcv]
theorem behind_ok (D:Dyn)(n:Nat)(hn:1≤n){H:AH}(hk:H.ok){c:Nat}(hc:c<255): ∃H',f91 D n [S (hdK c)] H=some (S (hdK (c+1)),H')∧Prs H H':=by
 obtain⟨H1,A,b1,p1,g1,m1,n1⟩:=box hk (.cells [.int .u8 ((c+1:Nat):Int)] 5 1 false)
 refine⟨H1, ?_,p1⟩
 obtain⟨n',rfl⟩: ∃n',n=n'+1:=⟨n - 1,by omega⟩
 have hl:lnStr (S (hdK c))=some (.int .i64 ((2:Nat):Int)):=rfl
 have hs:((2:Nat):Int) - ((1:Nat):Int)=((1:Nat):Int):=by omega
 have hge:((0:Nat):Int)≤((1:Nat):Int):=by omega
 have hx:ixStr (S (hdK c)) (.int .i64 ((1:Nat):Int))=some (.int .u8 ((c:Nat):Int)):=by
  rw[ixStr_nat (hdK c) .i64 (show 1< (hdK c).length by simp[hdK])]
  simp only[hdK,List.getElem_cons_succ,List.getElem_cons_zero]
  rw[ofNat_nat (by omega)]
 have hne:((c:Nat):Int)≠((255:Nat):Int):=by omega
 have hcut:slStr (S (hdK c)) none (some (.int .i64 ((1:Nat):Int)))=some (S [114]):=by
  rw[slStr_hi _ _ (by omega) (by simp[hdK])];rfl
 have hadd:((c:Nat):Int)+((1:Nat):Int)=((c+1:Nat):Int):=by omega
 have hw:IntKind.wrap .u8 ((c+1:Nat):Int)=((c+1:Nat):Int):=by rw[wrap_u8];omega
 have bl:bldL 5 1 1 [.int .u8 ((0:Nat):Int)] [(0, .int .u8 ((c+1:Nat):Int))]=some (.cells [.int .u8 ((c+1:Nat):Int)] 5 1 false,fun A=> .slice A 0 1 2):=rfl
 have hcv:cvBS (.slice A 0 1 2) H1=some (S [UInt8.ofNat (c+1)]):=cv1 p1.ok (by rw[ofNat_nat (by omega)];exact g1)
 have had:bStr .add (S [114]) (S [UInt8.ofNat (c+1)])=some (S (hdK (c+1))):=by rw[bStr_add _ _ (by simp)];rfl
 have body:f91l0 D (n'+1) [S (hdK c), .int .i64 ((1:Nat):Int)] H=some (.ret (S (hdK (c+1))),H1):=by
  simp(config:= { maxSteps:=1000000}) (disch:=omega) only[f91l0,ev,lg,wnt_undef,ew,hge,hx,hne,ne_eq,not_false_eq_true,hcut,hadd,hw,bl,b1,hcv,had]
 simp(config:= { maxSteps:=1000000}) (disch:=omega) only[f91,ev,lg,wnt_undef,ew,hl,hs,loop_ret body]
theorem key_ok (D:Dyn)(n:Nat)(hn:100≤n){H:AH}(hk:H.ok){c k:Nat}(hc:c<256)(hk2:k≤4000000000): ∃H',f55 D n [.int .i64 ((c:Nat):Int), .int .i64 ((k:Nat):Int)] H=some (S (keyK c k),H')∧Prs H H':=by
 obtain⟨H1,e1,p1⟩:=head_ok D n hk hc
 obtain⟨H2,e2,p2⟩:=digits_ok D n hn p1.ok k 4 (by omega) (by omega)
 refine⟨H2, ?_,p1.trans p2⟩
 have hw:IntKind.wrap .u64 ((k:Nat):Int)=((k:Nat):Int):=by rw[wrap_u64];omega
 have had:bStr .add (S (hdK c)) (S (dig k 4))=some (S (keyK c k)):=by rw[bStr_add _ _ (by simp[hdK,dig_len])];rfl
 simp(config:= { maxSteps:=1000000}) (disch:=omega) only[f55,ev,lg,wnt_undef,ew,e1,hw,e2,had]
theorem isXid_ok (D:Dyn)(n:Nat){H:AH}{x:Nat}(hx:x<4294967296):f54 D n [.int .i64 ((x:Nat):Int)] H=some (.bool true,H):=by
 have h1:((0:Nat):Int)≤((x:Nat):Int):=by omega
 have h2:((x:Nat):Int)≤((4294967295:Nat):Int):=by omega
 simp(config:= { maxSteps:=1000000}) (disch:=omega) only[f54,ev,lg,wnt_undef,ew,h1,h2]
end Go.Eng.Sh
end
section
namespace Go.Eng.Sh
open Go.Nd (Ptr sumL leafOf Kvs Srt)
open Go.Bt Go.Dr
theorem av_int (k:IntKind)(z:Int):aveq (.int k z) (.int k z)=true:=by simp[aveq,keq_eq,ieq_eq]
def kpV (k:Kp):List AV:=[.int .i64 ((k.x:Nat):Int), .int .u64 ((k.u:Nat):Int),S k.r, .int .i64 ((k.n:Nat):Int)]
def kp0:List AV:=[.int .i64 ((0:Nat):Int), .int .u64 ((0:Nat):Int),S [], .int .i64 ((0:Nat):Int)]
theorem val_take (k:Kp):(valK k).take 4=dig k.x 4:=by
 rw[valK,List.append_assoc,List.take_append_of_le_length (by simp[dig_len]),List.take_of_length_le (by simp[dig_len])]
theorem val_mid (k:Kp):((valK k).drop 4).take 8=dig k.u 8:=by
 rw[valK,List.append_assoc,List.drop_append_of_le_length (by simp[dig_len]),List.drop_of_length_le (by simp[dig_len]),List.nil_append,List.take_append_of_le_length (by simp[dig_len]),List.take_of_length_le (by simp[dig_len])]
theorem val_drop (k:Kp):(valK k).drop 12=k.r:=by
 rw[valK,List.drop_append,List.drop_of_length_le (by simp[dig_len]),List.nil_append]
 simp[dig_len]
theorem kread_ok (D:Dyn)(n:Nat)(hn:100≤n){H:AH}(hk:H.ok){c:Nat}{k:Kp}(hf:k.fine): ∃H',f96 D n [.agg [S (keyK c k.n),S (valK k)]] H=some (.tuple [.agg (kpV k), .bool true],H')∧Prs H H':=by
 obtain⟨f1,f2,f3,f4,f5⟩:=hf
 obtain⟨H1,A1,b1,p1,g1,m1,n1⟩:=box hk (.cells [S (keyK c k.n),S (valK k)] 48 1 false)
 obtain⟨H2,A2,b2,p2,g2,m2,n2⟩:=box p1.ok (.cells kp0 118 1 false)
 obtain⟨H3,A4,b3,p3,g3,m3,n3⟩:=box p2.ok (.cells kp0 118 1 false)
 obtain⟨H4,e4,g4,s4⟩:=st1c p3.ok g3 (o:=3) (x:= .int .i64 ((k.n:Nat):Int)) rfl (by simp[kp0])
 obtain⟨H5,e5,g5,s5⟩:=st1c s4.ok g4 (o:=0) (x:= .int .i64 ((k.x:Nat):Int)) rfl (by simp[kp0])
 obtain⟨H6,e6,g6,s6⟩:=st1c s5.ok g5 (o:=1) (x:= .int .u64 ((k.u:Nat):Int)) rfl (by simp[kp0])
 obtain⟨H7,e7,g7,s7⟩:=st1c s6.ok g6 (o:=2) (x:=S k.r) rfl (by simp[kp0])
 have g7:H7.h.get A4=some (.cells (kpV k) 118 1 false):=g7
 have N1:=p1.next;have N2:=p2.next;have N3:=p3.next;have N4:=s4.next;have N5:=s5.next;have N6:=s6.next;have N7:=s7.next
 have S37:Stp (fun B=>B=A4) H3 H7:=((s4.trans s5).trans s6).trans s7
 have P7:Prs H H7:=((p1.trans p2).trans p3).fresh S37 fun B hB=>by omega
 have g27:H7.h.get A2=some (.cells kp0 118 1 false):=by rw[S37.keep _ (by omega) (by omega)];exact Prs.get p3 p2.ok g2
 obtain⟨H8,e8,g8,s8,n8⟩:=st_all P7.ok g27 (l':=kpV k) rfl rfl
 have e8':stN 4 (.ptr A2 0) (.agg (kpV k)) H7=some (undefA,H8):=e8
 refine⟨H8, ?_,P7.fresh s8 fun B hB=>by omega⟩
 have l1: ∀ {H':AH},H'.h.get A1=some (.cells [S (keyK c k.n),S (valK k)] 48 1 false)→ld1 (.ptr A1 0) H'=some (S (keyK c k.n))∧ld1 (.ptr A1 1) H'=some (S (valK k)):=fun g=>⟨by rw[ld1_get g];rfl,by rw[ld1_get g];rfl⟩
 have q2:=Prs.get p2 p1.ok g1
 have q3:=Prs.get p3 p2.ok q2
 have k4: ∀ {H':AH},Stp (fun B=>B=A4) H3 H'→H'.h.get A1=some (.cells [S (keyK c k.n),S (valK k)] 48 1 false):=fun s=>by rw[s.keep _ (by omega) (by omega)];exact q3
 have q4:=k4 s4;have q5:=k4 (s4.trans s5);have q6:=k4 ((s4.trans s5).trans s6)
 have hS:(AV.str 0 0)=S []:=rfl
 have hkl:lnStr (S (keyK c k.n))=some (.int .i64 ((6:Nat):Int)):=by rw[lnStr_S,keyK_len]
 have hvl:lnStr (S (valK k))=some (.int .i64 ((12+k.r.length:Nat):Int)):=by rw[lnStr_S,valK_len]
 have t6: ¬(((6:Nat):Int)≠((6:Nat):Int)):=by omega
 have t12: ¬((12+k.r.length:Nat):Int)< ((12:Nat):Int):=by omega
 have c1:slStr (S (keyK c k.n)) (some (.int .i64 ((2:Nat):Int))) none=some (S (dig k.n 4)):=by rw[slStr_lo _ _ (by omega) (by rw[keyK_len];decide)];rfl
 have c2:slStr (S (valK k)) none (some (.int .i64 ((4:Nat):Int)))=some (S (dig k.x 4)):=by
  rw[slStr_hi _ _ (by omega) (by rw[valK_len];simp;omega)];exact congrArg (fun z=>some (S z)) (val_take k)
 have c3:slStr (S (valK k)) (some (.int .i64 ((4:Nat):Int))) (some (.int .i64 ((12:Nat):Int)))=some (S (dig k.u 8)):=by
  rw[slStr_both _ _ _ (by omega) (by omega) (by rw[valK_len];simp)];exact congrArg (fun z=>some (S z)) (val_mid k)
 have c4:slStr (S (valK k)) (some (.int .i64 ((12:Nat):Int))) none=some (S k.r):=by
  rw[slStr_lo _ _ (by omega) (by rw[valK_len];simp)];exact congrArg (fun z=>some (S z)) (val_drop k)
 have d1: ∀H,f132 D n [S (dig k.n 4)] H=some (.int .u64 ((k.n:Nat):Int),H):=fun H=>by rw[parse_ok D n hn _ (by rw[dig_len];omega),num_dig (by omega)]
 have d2: ∀H,f132 D n [S (dig k.x 4)] H=some (.int .u64 ((k.x:Nat):Int),H):=fun H=>by rw[parse_ok D n hn _ (by rw[dig_len];omega),num_dig (by omega)]
 have d3: ∀H,f132 D n [S (dig k.u 8)] H=some (.int .u64 ((k.u:Nat):Int),H):=fun H=>by rw[parse_ok D n hn _ (by rw[dig_len];omega),num_dig (by omega)]
 have h1:((1:Nat):Int)≤((k.n:Nat):Int):=by omega
 have h2:((k.n:Nat):Int)≤((2147483647:Nat):Int):=by omega
 have r7:ldN 4 (.ptr A4 0) H7=some (.agg (kpV k)):=agg4 g7 rfl
 have r73:ld1 (.ptr A4 3) H7=some (.int .i64 ((k.n:Nat):Int)):=by rw[ld1_get g7];rfl
 have g78:H8.h.get A4=some (.cells (kpV k) 118 1 false):=by rw[s8.keep _ (P7.ok.lt g7) (by omega)];exact g7
 have r83:ld1 (.ptr A4 3) H8=some (.int .i64 ((k.n:Nat):Int)):=by rw[ld1_get g78];rfl
 have r8:ldN 4 (.ptr A2 0) H8=some (.agg (kpV k)):=agg4 g8 rfl
 have hb2: ∀K,bA (some (.cells [.int .i64 ((0:Nat):Int), .int .u64 ((0:Nat):Int),S [], .int .i64 ((0:Nat):Int)] 118 1 false,fun A=> .ptr A 0)) H1 K=K (.ptr A2 0) H2:=fun K=>b2 _ K
 have hb3: ∀K,bA (some (.cells [.int .i64 ((0:Nat):Int), .int .u64 ((0:Nat):Int),S [], .int .i64 ((0:Nat):Int)] 118 1 false,fun A=> .ptr A 0)) H2 K=K (.ptr A4 0) H3:=fun K=>b3 _ K
 simp(config:= { maxSteps:=1000000}) (disch:=omega) only[f96,ev,lg,wnt_undef,ew,hS,b1,hb2,(l1 q2).1,(l1 q2).2,hkl,hvl,t6,t12,hb3,(l1 q3).1,c1,d1,e4,(l1 q4).2,c2,d2,e5,(l1 q5).2,c3,d3,e6,(l1 q6).2,c4,e7,r7,r73,h1,h2,e8',chk_ok r83 (av_int _ _),r8]
def lpW (B4 B5 B6:Nat):ALoop:=⟨.ready,none,53,0,[4,5,6],[.ptr B4 0, .ptr B5 0, .ptr B6 0]⟩
theorem call_r53 (m:Nat){H:AH}{A B4 B5 B6:Nat}(gA:H.h.get A=some (.loop (lpW B4 B5 B6)))(az:List AV):(dy (m+1)).yld A az H=r53_0 (dy m) m A (lpW B4 B5 B6) az H:=by
 show rdOfT (tabR (dy m) m) A az H=_
 simp only[rdOfT,gA]
 rfl
def Kps (H:AH)(v:AV)(l:List Kp):Prop:=Grow 4 118 H v l.length (l.flatMap kpV)
theorem row_round (m:Nat)(hm:100≤m){H:AH}{A B4 B5 B6 c:Nat}{v:AV}{l:List Kp}{k:Kp}(hk:H.ok)(gA:H.h.get A=some (.loop (lpW B4 B5 B6)))(hb:Box H B6 v)(hv:Kps H v l)(hl:l.length≤100000000)(hf:k.fine)(v1: ¬Blk v A)(v2: ¬Blk v B6):
  ∃H' v',(dy (m+1)).yld A [.agg [S (keyK c k.n),S (valK k)], .int .i64 ((0:Nat):Int)] H=some (.bool true,H')∧H'.h.get A=some (.loop (lpW B4 B5 B6))∧Box H' B6 v'∧Kps H' v' (l++[k])∧Stp (fun B=>B=A∨B=B6∨Blk v B) H H'∧(∀B,Blk v' B→Blk v B∨H.next≤B):=by
 rw[call_r53 m gA]
 have lA:=hk.lt gA
 have lb:=hb.lt hk
 have nA:=boxNe gA hb
 obtain⟨H1,A7,b1,p1,g1,m1,n1⟩:=box hk (.cells [S [],S []] 48 1 false)
 obtain⟨H2,e2,g2,s2,n2⟩:=st_all p1.ok g1 (l':=[S (keyK c k.n),S (valK k)]) rfl rfl
 have e2':stN 2 (.ptr A7 0) (.agg [S (keyK c k.n),S (valK k)]) H1=some (undefA,H2):=e2
 have P2:Prs H H2:=p1.fresh s2 fun B hB=>by omega
 have N1:=p1.next;have N2:=s2.next
 have gA2:=Prs.get P2 hk gA
 have hbeg: ∀K:AH→Rs,beginK A H2 K=K (H2.put A (.loop { lpW B4 B5 B6 with state:= .busy})):=fun K=>by
  simp only[beginK,gA2,lpW,putA_ok]
 have s3:Stp (fun B=>B=A) H2 (H2.put A (.loop { lpW B4 B5 B6 with state:= .busy})):=(Stp.refl s2.ok).put (s2.ok.lt gA2) _ (.inr rfl)
 have g3:(H2.put A (.loop { lpW B4 B5 B6 with state:= .busy})).h.get A=some (.loop { lpW B4 B5 B6 with state:= .busy}):=by rw[AH.put_get,if_pos rfl]
 generalize H2.put A (.loop { lpW B4 B5 B6 with state:= .busy})=H3 at s3 g3 hbeg
 have N3:=s3.next
 have q3:H3.h.get A7=some (.cells [S (keyK c k.n),S (valK k)] 48 1 false):=by rw[s3.keep _ (by omega) (by omega)];exact g2
 obtain⟨H4,e4,p4⟩:=kread_ok (dy m) m hm s3.ok (c:=c) hf
 obtain⟨H5,A9,b5,p5,g5,m5,n5⟩:=box p4.ok (.cells kp0 118 1 false)
 obtain⟨H6,e6,g6,s6,n6⟩:=st_all p5.ok g5 (l':=kpV k) rfl rfl
 have e6':stN 4 (.ptr A9 0) (.agg (kpV k)) H5=some (undefA,H6):=e6
 have N4:=p4.next;have N5:=p5.next;have N6:=s6.next
 have P36:Prs H3 H6:=(p4.trans p5).fresh s6 fun B hB=>by omega
 obtain⟨H7,A10,b7,p7,g7,m7,n7⟩:=box s6.ok (.cells (kpV k) 118 4 false)
 have hsrc:srcOf 4 (.slice A10 0 1 2) H7=some (1,kpV k):=by simp only[srcOf,g7];rfl
 have P37:=P36.trans p7
 have hv7:Kps H7 v l:=((Grow.mono hv P2 (fun _ _ x=>x)).mono s3 fun B hB e=>v1 (e▸hB)).mono P37 (fun _ _ x=>x)
 obtain⟨v',H8,e8,gv8,s8,f8⟩:=Grow.app (bytes:=40) (m:=1) p7.ok (by decide) hv7 hsrc rfl rfl (by omega) (by decide)
 have N7:=p7.next;have N8:=s8.next
 have b3:Box H3 B6 v:=(hb.mono hk P2 fun x=>x).mono P2.ok s3 (fun e=>nA e.symm)
 have b6':Box H6 B6 v:=b3.mono s3.ok P36 fun x=>x
 have b8:Box H8 B6 v:=(b6'.mono s6.ok p7 fun x=>x).mono p7.ok s8 v2
 obtain⟨H9,e9,b9,s9⟩:=b8.st s8.ok (x:=v') gv8.isCell
 have N9:=s9.next
 have g9:H9.h.get A=some (.loop { lpW B4 B5 B6 with state:= .busy}):=by rw[s9.keep _ (by omega) nA,s8.keep _ (by omega) v1,P37.keep _ (by omega) (fun x=>x)];exact g3
 have s10:Stp (fun B=>B=A) H9 (H9.put A (.loop (lpW B4 B5 B6))):=(Stp.refl s9.ok).put (s9.ok.lt g9) _ (.inr rfl)
 have hend:endR A none H9=some (.bool true,H9.put A (.loop (lpW B4 B5 B6))):=by simp only[endR,g9,putA_ok,lpW]
 have nb: ∀ {B:Nat},¬Blk v B→B<H.next→ ¬Blk v' B:=fun h1 h2 hB=>by
  rcases f8 _ hB with e | e
  ·exact h1 e
  ·omega
 have fl:(l++[k]).flatMap kpV=l.flatMap kpV++kpV k:=by simp[List.flatMap_append]
 refine⟨H9.put A (.loop (lpW B4 B5 B6)),v', ?_,by rw[AH.put_get,if_pos rfl],b9.mono s9.ok s10 (fun e=>nA e.symm), ?_,⟨s10.ok,by have:=s10.next;omega,fun B hB hS=> ?_⟩,fun B hB=> ?_⟩
 ·have hl':eqNL [4,5,6] (lpW B4 B5 B6).live=true:=rfl
  have hvls:(lpW B4 B5 B6).vals=[.ptr B4 0, .ptr B5 0, .ptr B6 0]:=rfl
  have hS:(AV.str 0 0)=S []:=rfl
  have hbx:bxV 48 (.agg [S [],S []])=some (.cells [S [],S []] 48 1 false,fun A=> .ptr A 0):=rfl
  have t00: ¬(((0:Nat):Int)≠((0:Nat):Int)):=by omega
  have r3:ldN 2 (.ptr A7 0) H3=some (.agg [S (keyK c k.n),S (valK k)]):=by rw[ldN_get q3];rfl
  have r6:ldN 4 (.ptr A9 0) H6=some (.agg (kpV k)):=agg4 g6 rfl
  have hb5: ∀K,bA (some (.cells [.int .i64 ((0:Nat):Int), .int .u64 ((0:Nat):Int),S [], .int .i64 ((0:Nat):Int)] 118 1 false,fun A=> .ptr A 0)) H4 K=K (.ptr A9 0) H5:=fun K=>b5 _ K
  have bl1:bldL 118 4 1 [.int .i64 ((0:Nat):Int), .int .u64 ((0:Nat):Int),S [], .int .i64 ((0:Nat):Int)] [(0, .agg (kpV k))]=some (.cells (kpV k) 118 4 false,fun A=> .slice A 0 1 2):=rfl
  simp(config:= { maxSteps:=1000000}) (disch:=omega) only[r53_0,ev,lg,wnt_undef,ew,hl',hvls,cond_true,hS,hbx,b1,e2',hbeg,t00,r3,e4,pExtract,nth,hb5,e6',b6'.ld,r6,bl1,b7,e8,e9]
  exact hend
 ·show Grow 4 _ _ v' _ _
  rw[fl,List.length_append,List.length_singleton]
  exact(gv8.mono s9 fun B hB e=>nb v2 lb (e▸hB)).mono s10 fun B hB e=>nb v1 lA (e▸hB)
 ·rw[s10.keep B (by omega) (fun e=>hS (.inl e)),s9.keep B (by omega) (fun e=>hS (.inr (.inl e))),s8.keep B (by omega) (fun e=>hS (.inr (.inr e))),P37.keep B (by omega) (fun x=>x),s3.keep B (by omega) (fun e=>hS (.inl e)),P2.keep B hB (fun x=>x)]
 ·rcases f8 B hB with e | e
  ·exact .inl e
  ·exact .inr (by omega)
end Go.Eng.Sh
end
section
namespace Go.Eng.Sh
open Go.Nd (Ptr sumL leafOf Kvs Srt)
open Go.Bt Go.Dr
theorem between_len (fr to:Str)(kv:Kvs):(between fr to kv).length≤kv.length:=List.length_filter_le _ _
theorem pairsK_run (m:Nat)(hm:800000000≤m){H:AH}{A B4 B5 B6 Xt Xc At M L c:Nat}{kv oth:Kvs}{f:Nat→List Kp}(t:TreeI H At M L kv)(hL:L≤1000000)(hkv:kv.length≤100000000)(d:Drc kv oth f)(h1:1≤c)(h2:c≤16)
  (gA:H.h.get A=some (.loop (lpW B4 B5 B6))) (hb:Box H B6 .nilSlice) (bt:Box H Xt (.ptr At 0)) (bc:Box H Xc (.int .i64 ((c:Nat):Int))):
  ∃H' v,f131 (dy (m+1)) (m+1) [.yieldTo A, .ptr Xt 0, .ptr Xc 0] H=some (.tuple [],H')∧H'.h.get A=some (.loop (lpW B4 B5 B6))∧Box H' B6 v∧Kps H' v (f c)∧Stp (fun B=>B=A∨B=B6) H H'∧(∀B,Blk v B→H.next≤B):=by
 have hk:H.ok:=by obtain⟨_,_,_,_,_,_,_,_,_,ti,_⟩:=t;exact ti.ok
 have lA:=hk.lt gA
 have lb:=hb.lt hk
 obtain⟨H1,e1,p1⟩:=head_ok (dy (m+1)) (m+1) hk (c:=c) (by omega)
 obtain⟨H2,e2,p2⟩:=head_ok (dy (m+1)) (m+1) p1.ok (c:=c) (by omega)
 obtain⟨H3,e3,p3⟩:=behind_ok (dy (m+1)) (m+1) (by omega) p2.ok (c:=c) (by omega)
 have P3:Prs H H3:=(p1.trans p2).trans p3
 have hrg:=d.range h1 h2
 have hlen:(between (hdK c) (hdK (c+1)) kv).length≤2147483647:=by have:=between_len (hdK c) (hdK (c+1)) kv;omega
 obtain⟨H4,w,e4,p4,gw,fw⟩:=rangeM_ok m (by omega) (t.prs P3) hL (by omega) (hdK c) (hdK (c+1)) (most:=2147483647) (by omega) hlen
 have hbt:between (hdK c) (hdK (c+1)) kv=(f c).map (encK c):=hrg
 have hfl:(f c).length≤100000000:=by
  have:=between_len (hdK c) (hdK (c+1)) kv
  rw[hbt,List.length_map]at this;omega
 rw[hbt]at gw
 have hw:Prs2 H4 w ((f c).map (encK c)):=gw.row
 have P4:Prs H H4:=P3.trans p4
 have N3:=P3.next;have N4:=p4.next
 have gA4:=Prs.get P4 hk gA
 have lp:=loop_inv (b:=f131l0 (dy (m+1)) (m+1)) (f c).length (fun i us H'=>us=[.yieldTo A,w, .int .i64 (((f c).length:Nat):Int), .int .i64 ((i:Nat):Int)]∧ ∃v,H'.h.get A=some (.loop (lpW B4 B5 B6))∧Box H' B6 v∧Kps H' v ((f c).take i)∧Stp (fun B=>B=A∨B=B6) H4 H'∧(∀B,Blk v B→H4.next≤B)) (fun i us H' hi ⟨hus,v,gA',hb',hv',st,hf⟩=>by
  subst hus
  have hil:i< ((f c).map (encK c)).length:=by simpa using hi
  have hw':Prs2 H' w ((f c).map (encK c)):=Rw.stp hw st (fun B hB e=>by
   have:=fw B hB
   rcases e with e | e<;>omega)
  obtain⟨A',o,i1,i2,i3,i4⟩:=hw'.at hil
  have hg:((f c).map (encK c))[i]=encK c (f c)[i]:=by simp
  rw[hg]at i2
  have N:=st.next
  obtain⟨H5,A8,b5,p5,g5,m5,n5⟩:=box st.ok (.cells [S [],S []] 48 1 false)
  obtain⟨H6,e6,g6,s6,n6⟩:=st_all p5.ok g5 (l':=[S (keyK c (f c)[i].n),S (valK (f c)[i])]) rfl rfl
  have e6':stN 2 (.ptr A8 0) (.agg [S (keyK c (f c)[i].n),S (valK (f c)[i])]) H5=some (undefA,H6):=e6
  have P6:Prs H' H6:=p5.fresh s6 fun B hB=>by omega
  have N5:=p5.next;have N6:=s6.next
  have ltv: ∀B,Blk v B→B<H'.next:=fun B hB=>Grow.lt hv' hB
  obtain⟨H7,v',e7,gA7,b7,hv7,s7,f7⟩:=row_round m (by omega) (c:=c) P6.ok (Prs.get P6 st.ok gA') (hb'.mono st.ok P6 fun x=>x) (Grow.mono hv' P6 fun _ _ x=>x) (by simp;omega) ((d.row c).2 _ (List.getElem_mem hi)) (fun hB=>by have:=hf _ hB;omega) (fun hB=>by have:=hf _ hB;omega)
  have N7:=s7.next
  refine⟨_,H7, ?_,rfl,v',gA7,b7,by rw[List.take_succ_eq_append_getElem hi];exact hv7,Stp.thru st (P6.stp.trans s7) fun B hB=> ?_,fun B hB=> ?_⟩
  ·have hiI:((i:Nat):Int)< (((f c).length:Nat):Int):=by omega
   have hi1:((i:Nat):Int)+((1:Nat):Int)=((i+1:Nat):Int):=by omega
   have hS:(AV.str 0 0)=S []:=rfl
   have hbx:bxV 48 (.agg [S [],S []])=some (.cells [S [],S []] 48 1 false,fun A=> .ptr A 0):=rfl
   have i2':ldN 2 (.ptr A' o) H'=some (.agg [S (keyK c (f c)[i].n),S (valK (f c)[i])]):=i2
   have r6:ldN 2 (.ptr A8 0) H6=some (.agg [S (keyK c (f c)[i].n),S (valK (f c)[i])]):=by rw[ldN_get g6];rfl
   have hcall:callV (s131 (dy (m+1)) (m+1)).S (dy (m+1)) (.yieldTo A) [.agg [S (keyK c (f c)[i].n),S (valK (f c)[i])], .int .i64 ((0:Nat):Int)] H6=some (.bool true,H7):=e7
   simp(config:= { maxSteps:=1000000}) (disch:=omega) only[f131l0,ev,lg,wnt_undef,ew,hiI,i1,i2',hS,hbx,b5,e6',r6,hcall,hi1]
  ·rcases hB with e | e | e
   ·exact .inr (.inl e)
   ·exact .inr (.inr e)
   ·exact .inl (hf B e)
  ·rcases f7 B hB with e | e
   ·exact hf B e
   ·omega) (m+1) _ H4 ⟨rfl, .nilSlice,gA4,hb.mono hk P4 fun x=>x, .inl (Own.nil ..),Stp.refl p4.ok,fun B hB=>(Blk.nil.1 hB).elim⟩ (by omega)
 obtain⟨r,us,H5,e5,rfl,v,gA5,b5,hv5,st5,f5⟩:=lp
 rw[List.take_length]at hv5
 refine⟨H5,v, ?_,gA5,b5,hv5,(Prs.stp P4).trans st5,fun B hB=>by have:=f5 B hB;omega⟩
 have last:loopK (r+1) (f131l0 (dy (m+1)) (m+1)) [.yieldTo A,w, .int .i64 (((f c).length:Nat):Int), .int .i64 (((f c).length:Nat):Int)] H5=some (.exit 0 [],H5):=loop_exit (by simp only[f131l0,ev,lg,wnt_undef,ew,Int.lt_irrefl])
 have u: ∀ {H':AH} {X:Nat} {x:AV},Prs H H'→Box H X x→ld1 (.ptr X 0) H'=some x:=fun P hb=>(hb.mono hk P fun x=>x).ld
 have cp: ∀(K:Rs),chk (some (.ptr At 0)) (.ptr At 0) K=K:=fun K=>chk_ok rfl (by simp[aveq])
 have ci: ∀(K:Rs),chk (some (.int .i64 ((c:Nat):Int))) (.int .i64 ((c:Nat):Int)) K=K:=fun K=>chk_ok rfl (av_int _ _)
 have t00: ¬(((0:Nat):Int)≠((0:Nat):Int)):=by omega
 have hln:lnSl w=some (.int .i64 (((f c).length:Nat):Int)):=by rw[hw.lnSl,List.length_map]
 simp(config:= { maxSteps:=1000000}) (disch:=omega) only[f131,ev,lg,wnt_undef,ew,bt.ld,bc.ld,e1,u p1 bt,u p1 bc,cp,ci,e2,u (p1.trans p2) bt,e3,u P3 bt,e4,pExtract,nth,t00,hln,e5,last,f131b1]
set_option maxRecDepth 100000 in
theorem rows_ok (m n:Nat)(hm:800000000≤m){H:AH}{At M L c:Nat}{kv oth:Kvs}{f:Nat→List Kp}(t:TreeI H At M L kv)(hL:L≤1000000)(hkv:kv.length≤100000000)(d:Drc kv oth f)(h1:1≤c)(h2:c≤16):
  ∃H' v,f53 (dy (m+2)) n [.ptr At 0, .int .i64 ((c:Nat):Int)] H=some (.tuple [v, .int .i64 ((0:Nat):Int)],H')∧Prs H H'∧Kps H' v (f c)∧(∀B,Blk v B→H.next≤B):=by
 have hk:H.ok:=by obtain⟨_,_,_,_,_,_,_,_,_,ti,_⟩:=t;exact ti.ok
 obtain⟨H1,B4,b1,p1,g1,m1,n1⟩:=box hk (.cells [.nilSlice] 113 1 false)
 obtain⟨H2,B5,b2,p2,g2,m2,n2⟩:=box p1.ok (.cells [.int .i64 ((0:Nat):Int)] 26 1 false)
 obtain⟨H3,B6,b3,p3,g3,m3,n3⟩:=box p2.ok (.cells [.nilSlice] 113 1 false)
 obtain⟨H4,Xt,b4,p4,g4,m4,n4⟩:=box p3.ok (.cells [.ptr At 0] 22 1 false)
 obtain⟨H5,Xc,b5,p5,g5,m5,n5⟩:=box p4.ok (.cells [.int .i64 ((c:Nat):Int)] 3 1 false)
 have N1:=p1.next;have N2:=p2.next;have N3:=p3.next;have N4:=p4.next;have N5:=p5.next
 have p6:Prs H5 (H5.push (.loop (lpW B4 B5 B6))):=(Stp.refl p5.ok).push _
 have g6:(H5.push (.loop (lpW B4 B5 B6))).h.get H5.next=some (.loop (lpW B4 B5 B6)):=AH.push_get_eq _ _
 have hnew: ∀K:Nat→AH→Rs,newB H5 (.loop ⟨.ready,none,53,0,[4,5,6],[.ptr B4 0, .ptr B5 0, .ptr B6 0]⟩) K=K H5.next (H5.push (.loop (lpW B4 B5 B6))):=fun K=>newB_push p5.ok _ K
 have hnx:(H5.push (.loop (lpW B4 B5 B6))).next=H5.next+1:=rfl
 generalize H5.push (.loop (lpW B4 B5 B6))=H6 at p6 g6 hnew hnx
 obtain⟨A,hA⟩: ∃A,A=H5.next:=⟨_,rfl⟩
 rw[← hA]at g6 hnew
 have P6:Prs H H6:=((((p1.trans p2).trans p3).trans p4).trans p5).trans p6
 have P26:Prs H2 H6:=((p3.trans p4).trans p5).trans p6
 obtain⟨H7,v,e7,gA7,b7,hv7,s7,f7⟩:=pairsK_run m hm (t.prs P6) hL hkv d h1 h2 g6 ⟨_,Prs.get ((p4.trans p5).trans p6) p3.ok g3⟩ ⟨_,Prs.get (p5.trans p6) p4.ok g4⟩ ⟨_,Prs.get p6 p5.ok g5⟩
 have N6:=p6.next;have N7:=s7.next
 have s8:Stp (fun B=>B=A) H7 (H7.put A .dead):=(Stp.refl s7.ok).put (s7.ok.lt gA7) _ (.inr rfl)
 have hend: ∀K:Option Code→AH→Rs,endLp A H7 K=K none (H7.put A .dead):=fun K=>by simp only[endLp,gA7,lpW,putA_ok]
 generalize H7.put A .dead=H8 at s8 hend
 have N8:=s8.next
 have nA:A≠B6:=boxNe gA7 b7
 have k8: ∀ {B:Nat} {x:AV},Box H2 B x→B<H2.next→Box H8 B x:=fun hb hl=>((hb.mono p2.ok P26 fun x=>x).mono P26.ok s7 (fun e=>by rcases e with e | e<;>omega)).mono s7.ok s8 (fun e=>by omega)
 have b48:Box H8 B4 .nilSlice:=k8 ⟨_,Prs.get p2 p1.ok g1⟩ (by omega)
 have b58:Box H8 B5 (.int .i64 ((0:Nat):Int)):=k8 ⟨_,g2⟩ (by omega)
 have b68:Box H8 B6 v:=b7.mono s7.ok s8 (fun e=>nA e.symm)
 obtain⟨H9,e9,b9,s9⟩:=b48.st s8.ok (x:=v) hv7.isCell
 have b59:=b58.mono s8.ok s9 (fun e=>by omega)
 obtain⟨H10,e10,b10,s10⟩:=b59.st s9.ok (x:= .int .i64 ((0:Nat):Int)) rfl
 have b410:=b9.mono s9.ok s10 (fun e=>by omega)
 have N9:=s9.next
 refine⟨H10,v, ?_, ?_, ?_,fun B hB=>by have:=f7 B hB;omega⟩
 ·have hrf:rfC (s53 (dy (m+2)) n).S (dy (m+2)) (.func 131 [] [.ptr Xt 0, .ptr Xc 0]) A H6=some (.tuple [],H7):=e7
  have x1:cellsA (.ptr At 0)=[.ptr At 0]:=rfl
  have x4:cellsA (.int .i64 ((c:Nat):Int))=[.int .i64 ((c:Nat):Int)]:=rfl
  have x5:cellsA .nilSlice=[.nilSlice]:=rfl
  have x6:cellsA (.int .i64 ((0:Nat):Int))=[.int .i64 ((0:Nat):Int)]:=rfl
  have hf:f95 (dy (m+2)) n [.ptr At 0, .int .i64 ((c:Nat):Int)] H3=some (.func 131 [] [.ptr Xt 0, .ptr Xc 0],H5):=by
   simp only[f95,ev,lg,wnt_undef,ew,x1,x4,b4,b5]
  have t1: ¬((c:Nat):Int)< ((1:Nat):Int):=by omega
  have t2: ¬((16:Nat):Int)< ((c:Nat):Int):=by omega
  simp(config:= { maxSteps:=1000000}) (disch:=omega) only[f53,ev,lg,wnt_undef,ew,cq,x5,b1,x6,b2,t1,t2,b3,hf,hnew,hrf,hend,jmpK,b68.ld,e9,e10,b410.ld,b10.ld]
 ·refine⟨s10.ok,by have:=s10.next;omega,fun B hB _=> ?_⟩
  rw[s10.keep B (by omega) (by omega),s9.keep B (by omega) (by omega),s8.keep B (by omega) (by omega),s7.keep B (by omega) (fun e=>by rcases e with e | e<;>omega),P6.keep B hB fun x=>x]
 ·have q8:=Grow.mono hv7 s8 fun B hB e=>by have:=f7 B hB;omega
  have q9:=Grow.mono q8 s9 fun B hB e=>by have:=f7 B hB;omega
  exact Grow.mono q9 s10 fun B hB e=>by have:=f7 B hB;omega
end Go.Eng.Sh
end
section
namespace Go.Eng.Sh
open Go.Nd (Ptr sumL leafOf Kvs Srt)
open Go.Bt Go.Dr
theorem flat_atK: ∀(l:List Kp) (i:Nat) (h:i<l.length),((l.flatMap kpV).drop (i*4)).take 4=kpV l[i]
 | p::l,0,_=>rfl
 | p::l,i+1,h=>by
  rw[List.flatMap_cons,show(i+1)*4=4+i*4 by omega, ← List.drop_drop]
  exact flat_atK l i (by simpa using h)
theorem flat_takeK: ∀(l:List Kp) (i:Nat),(l.flatMap kpV).take (i*4)=(l.take i).flatMap kpV
 | [],i=>by simp
 | p::l,0=>by simp
 | p::l,i+1=>by
  rw[List.flatMap_cons,show(i+1)*4=i*4+4 by omega,List.take_succ_cons,List.flatMap_cons, ← flat_takeK l i]
  rfl
def KpR (H:AH)(v:AV)(l:List Kp):Prop:=Rw 4 H v l.length (l.flatMap kpV)
theorem KpR.at {H:AH}{v:AV}{l:List Kp}(h:KpR H v l){i:Nat}(hi:i<l.length): ∃A o,(∀κ (z:Int),z=(i:Int)→ixSl 4 v (.int κ z)=some (.ptr A o))∧Eng.ldN 4 (.ptr A o) H=some (.agg (kpV l[i]))∧Eng.ld1 (.ptr A (o+3)) H=some (.int .i64 ((l[i].n:Nat):Int)):=by
 obtain⟨A,o,c,e,sz,g,h1,h2,h3,h4,h5⟩:=Rw.at h hi
 rw[flat_atK l i hi]at h5
 have g3:c[o+3]? =some (.int .i64 ((l[i].n:Nat):Int)):=by
  have:=congrArg (fun x=>x[3]?) h5
  simpa[kpV]using this
 exact⟨A,o,h1,by rw[ldN_ptr h2 h4,h5],ld1_ptr h2 g3⟩
def kv3 (k:Kp):List AV:=[.int .i64 ((k.x:Nat):Int), .int .u64 ((k.u:Nat):Int),S k.r]
def Kws (H:AH)(v:AV)(l:List Kp):Prop:=Grow 3 35 H v l.length (l.flatMap kv3)
theorem window_ok (m n:Nat)(hm:800000000≤m)(hn:100000001≤n){H:AH}{At M L c:Nat}{kv oth:Kvs}{f:Nat→List Kp}(t:TreeI H At M L kv)(hL:L≤1000000)(hkv:kv.length≤100000000)(d:Drc kv oth f)(h1:1≤c)(h2:c≤16)(hfl:(f c).length≤100000000):
  ∃H' v,f16 (dy (m+2)) n [.ptr At 0, .int .i64 ((c:Nat):Int)] H=some (.tuple [v, .int .i64 ((0:Nat):Int)],H')∧Prs H H'∧Kws H' v (f c)∧(∀B,Blk v B→H.next≤B):=by
 obtain⟨H1,v,e1,p1,gv,fv⟩:=rows_ok m n hm t hL hkv d h1 h2
 have hv:KpR H1 v (f c):=gv.row
 have N1:=p1.next
 have lp:=loop_inv (b:=f16l0 (dy (m+2)) n) (f c).length (fun i us H'=> ∃w,us=[.int .i64 ((0:Nat):Int),w,v, .int .i64 (((f c).length:Nat):Int), .int .i64 ((i:Nat):Int)]∧Prs H1 H'∧Kws H' w ((f c).take i)∧(∀B,Blk w B→H1.next≤B)) (fun i us H' hi ⟨w,hus,P,hw,fw⟩=>by
  subst hus
  have hv':KpR H' v (f c):=Rw.stp hv P fun _ _ x=>x
  obtain⟨A,o,i1,i2,i3⟩:=hv'.at hi
  have N:=P.next
  obtain⟨H2,A10,b2,p2,g2,m2,n2⟩:=box P.ok (.cells kp0 118 1 false)
  obtain⟨H3,e3,g3,s3,n3⟩:=st_all p2.ok g2 (l':=kpV (f c)[i]) rfl rfl
  have e3':stN 4 (.ptr A10 0) (.agg (kpV (f c)[i])) H2=some (undefA,H3):=e3
  have N2:=p2.next;have N3:=s3.next
  have P3:Prs H' H3:=p2.fresh s3 fun B hB=>by omega
  obtain⟨H4,A11,b4,p4,g4,m4,n4⟩:=box P3.ok (.cells (kv3 (f c)[i]) 35 3 false)
  have hsrc:srcOf 3 (.slice A11 0 1 2) H4=some (1,kv3 (f c)[i]):=by simp only[srcOf,g4];rfl
  obtain⟨w',H5,e5,gw5,s5,f5⟩:=Grow.app (bytes:=32) (m:=1) p4.ok (by decide) (Grow.mono hw (P3.trans p4) fun _ _ x=>x) hsrc rfl rfl (by simp;omega) (by decide)
  have N4:=p4.next
  have P5:Prs H1 H5:=(P.trans (P3.trans p4)).fresh s5 fw
  have fl:((f c).take (i+1)).flatMap kv3=((f c).take i).flatMap kv3++kv3 (f c)[i]:=by rw[List.take_succ_eq_append_getElem hi,List.flatMap_append];simp
  refine⟨_,H5, ?_,w',rfl,P5, ?_,fun B hB=> ?_⟩
  ·have hiI:((i:Nat):Int)< (((f c).length:Nat):Int):=by omega
   have hi1:((i:Nat):Int)+((1:Nat):Int)=((i+1:Nat):Int):=by omega
   have hS:(AV.str 0 0)=S []:=rfl
   have hb2: ∀K,bA (some (.cells [.int .i64 ((0:Nat):Int), .int .u64 ((0:Nat):Int),S [], .int .i64 ((0:Nat):Int)] 118 1 false,fun A=> .ptr A 0)) H' K=K (.ptr A10 0) H2:=fun K=>b2 _ K
   have r3:ldN 3 (.ptr A10 0) H3=some (.agg (kv3 (f c)[i])):=by rw[ldN_get g3];rfl
   have bl1:bldL 35 3 1 [.int .i64 ((0:Nat):Int), .int .u64 ((0:Nat):Int),S []] [(0, .agg (kv3 (f c)[i]))]=some (.cells (kv3 (f c)[i]) 35 3 false,fun A=> .slice A 0 1 2):=rfl
   simp(config:= { maxSteps:=1000000}) (disch:=omega) only[f16l0,ev,lg,wnt_undef,ew,hiI,i1,i2,hS,hb2,e3',r3,bl1,b4,e5,hi1]
  ·show Grow 3 _ _ w' _ _
   rw[fl]
   have e:((f c).take (i+1)).length=((f c).take i).length+1:=by simp;omega
   rw[e];exact gw5
  ·rcases f5 B hB with e | e
   ·exact fw B e
   ·omega) n _ H1 ⟨.nilSlice,rfl,Stp.refl p1.ok, .inl (Own.nil ..),fun B hB=>(Blk.nil.1 hB).elim⟩ (by omega)
 obtain⟨q,us,H2,e2,w,rfl,P2,hw,fw⟩:=lp
 rw[List.take_length]at hw
 refine⟨H2,w, ?_,p1.trans P2,hw,fun B hB=>by have:=fw B hB;omega⟩
 have last:loopK (q+1) (f16l0 (dy (m+2)) n) [.int .i64 ((0:Nat):Int),w,v, .int .i64 (((f c).length:Nat):Int), .int .i64 (((f c).length:Nat):Int)] H2=some (.exit 0 [.int .i64 ((0:Nat):Int),w],H2):=loop_exit (by simp only[f16l0,ev,lg,wnt_undef,ew,Int.lt_irrefl])
 simp(config:= { maxSteps:=1000000}) (disch:=omega) only[f16,ev,lg,wnt_undef,ew,e1,pExtract,nth,hv.lnSl,e2,last,f16b1]
def fitK (x u:Nat)(k:Kp):Bool:=decide (k.x=x)&&decide (k.u=u)
theorem fits_run (m:Nat){H:AH}(hk:H.ok){Xx Xu x u:Nat}{k:Kp}(bx:Box H Xx (.int .i64 ((x:Nat):Int)))(bu:Box H Xu (.int .u64 ((u:Nat):Int))):
  ∃H',f58 (dy m) m [.agg (kpV k), .ptr Xx 0, .ptr Xu 0] H=some (.bool (fitK x u k),H')∧Prs H H':=by
 obtain⟨H1,A3,b1,p1,g1,m1,n1⟩:=box hk (.cells (kpV k) 118 1 false)
 refine⟨H1, ?_,p1⟩
 have hbx:bxV 118 (.agg (kpV k))=some (.cells (kpV k) 118 1 false,fun A=> .ptr A 0):=rfl
 have r0:ld1 (.ptr A3 0) H1=some (.int .i64 ((k.x:Nat):Int)):=by rw[ld1_get g1];rfl
 have r1:ld1 (.ptr A3 1) H1=some (.int .u64 ((k.u:Nat):Int)):=by rw[ld1_get g1];rfl
 have bx1:=(bx.mono hk p1 fun x=>x).ld
 have bu1:=(bu.mono hk p1 fun x=>x).ld
 by_cases hx:k.x=x
 ·have hxI:((k.x:Nat):Int)=((x:Nat):Int):=by omega
  by_cases hu:k.u=u
  ·have huI:((k.u:Nat):Int)=((u:Nat):Int):=by omega
   have:fitK x u k=true:=by simp[fitK,hx,hu]
   rw[this]
   simp(config:= { maxSteps:=1000000}) (disch:=omega) only[f58,ev,lg,wnt_undef,ew,hbx,b1,r0,bx1,hxI,r1,bu1,huI]
  ·have huI: ¬((k.u:Nat):Int)=((u:Nat):Int):=by omega
   have:fitK x u k=false:=by simp[fitK,hu]
   rw[this]
   simp(config:= { maxSteps:=1000000}) (disch:=omega) only[f58,ev,lg,wnt_undef,ew,hbx,b1,r0,bx1,hxI,r1,bu1,huI]
 ·have hxI: ¬((k.x:Nat):Int)=((x:Nat):Int):=by omega
  have:fitK x u k=false:=by simp[fitK,hx]
  rw[this]
  simp(config:= { maxSteps:=1000000}) (disch:=omega) only[f58,ev,lg,wnt_undef,ew,hbx,b1,r0,bx1,hxI]
theorem call_fits (m n:Nat)(a b:Nat)(x:AV)(H:AH):callV (s57 (dy (m+1)) n).S (dy (m+1)) (.func 58 [] [.ptr a 0, .ptr b 0]) [x] H=f58 (dy m) m [x, .ptr a 0, .ptr b 0] H:=rfl
def firstV (o:Option Kp):List AV:=match o with
 | some k=>kpV k
 | none=>kp0
theorem first_loop (m n:Nat){H0:AH}{v:AV}{l:List Kp}{Xx Xu x u A4:Nat}(hA:H0.next≤A4)(hv0:KpR H0 v l)(bx0:Box H0 Xx (.int .i64 ((x:Nat):Int)))(bu0:Box H0 Xu (.int .u64 ((u:Nat):Int)))(hl:l.length≤100000000)(hk0:H0.ok):
  ∀(rr i kf:Nat) {H:AH},i+rr=l.length→rr<kf→Prs H0 H→H.h.get A4=some (.cells kp0 118 1 false)→
   ∃H',jb 0 (loopK kf (f57l0 (dy (m+1)) n) [.func 58 [] [.ptr Xx 0, .ptr Xu 0], .ptr A4 0,v, .int .i64 ((l.length:Nat):Int), .int .i64 ((i:Nat):Int)] H) (f57b1 (dy (m+1)) n)=some (.ret (.tuple [.agg (firstV ((l.drop i).find? (fitK x u))), .bool ((l.drop i).find? (fitK x u)).isSome]),H')∧Prs H0 H'
 | _,_,0,_,_,hk,_,_=>by omega
 | 0,i,kf+1,H,he,_,P,g=>by
  have hge: ¬((i:Nat):Int)< ((l.length:Nat):Int):=by omega
  obtain⟨H2,e2,g2,s2,n2⟩:=st_all P.ok g (l':=kp0) rfl rfl
  have e2':stN 4 (.ptr A4 0) (.agg kp0) H=some (undefA,H2):=e2
  have hnil:l.drop i=[]:=List.drop_eq_nil_of_le (by omega)
  rw[hnil]
  refine⟨H2, ?_,P.fresh s2 fun B hB=>by omega⟩
  rw[loop_exit (i:=0) (vs':=[.ptr A4 0]) (H':=H) (by simp(config:= { maxSteps:=1000000}) (disch:=omega) only[f57l0,ev,lg,wnt_undef,ew,hge])]
  have bs:bldS [(0,3),(3,1)] [.int .i64 ((0:Nat):Int), .int .u64 ((0:Nat):Int), .str 0 0, .int .i64 ((0:Nat):Int)] []=some (.agg kp0):=rfl
  have r2:ldN 4 (.ptr A4 0) H2=some (.agg kp0):=agg4 g2 rfl
  simp(config:= { maxSteps:=1000000}) (disch:=omega) only[jb,Nat.beq_refl,cond_true,f57b1,ev,lg,wnt_undef,ew,bs,e2',r2,List.find?_nil,firstV,Option.isSome_none]
 | rr+1,i,kf+1,H,he,hkf,P,g=>by
  have hi:i<l.length:=by omega
  have hv:KpR H v l:=Rw.stp hv0 P fun _ _ x=>x
  obtain⟨A,o,i1,i2,i3⟩:=hv.at hi
  obtain⟨H2,A7,b2,p2,g2,m2,n2⟩:=box P.ok (.cells kp0 118 1 false)
  obtain⟨H3,e3,g3,s3,n3⟩:=st_all p2.ok g2 (l':=kpV l[i]) rfl rfl
  have e3':stN 4 (.ptr A7 0) (.agg (kpV l[i])) H2=some (undefA,H3):=e3
  have N:=P.next;have N2:=p2.next;have N3:=s3.next
  have lA4:=P.ok.lt g
  have P3:Prs H0 H3:=(P.trans p2).fresh s3 fun B hB=>by omega
  have up: ∀ {X:Nat} {x:AV},Box H0 X x→Box H3 X x:=fun hb=>hb.mono hk0 P3 fun x=>x
  obtain⟨H4,e4,p4⟩:=fits_run m P3.ok (k:=l[i]) (up bx0) (up bu0)
  have N4:=p4.next
  have g34:H3.h.get A4=some (.cells kp0 118 1 false):=by rw[s3.keep _ (by omega) (by omega),p2.keep _ lA4 (fun x=>x)];exact g
  have g44:=Prs.get p4 s3.ok g34
  have g47:=Prs.get p4 s3.ok g3
  have P4:=P3.trans p4
  have hL:l.drop i=l[i]::l.drop (i+1):=List.drop_eq_getElem_cons hi
  have hiI:((i:Nat):Int)< ((l.length:Nat):Int):=by omega
  have hi1:((i:Nat):Int)+((1:Nat):Int)=((i+1:Nat):Int):=by omega
  have hS:(AV.str 0 0)=S []:=rfl
  have hb2: ∀K,bA (some (.cells [.int .i64 ((0:Nat):Int), .int .u64 ((0:Nat):Int),S [], .int .i64 ((0:Nat):Int)] 118 1 false,fun A=> .ptr A 0)) H K=K (.ptr A7 0) H2:=fun K=>b2 _ K
  have r3:ldN 4 (.ptr A7 0) H3=some (.agg (kpV l[i])):=agg4 g3 rfl
  have r4:ldN 4 (.ptr A7 0) H4=some (.agg (kpV l[i])):=agg4 g47 rfl
  rw[hL]
  cases hf:fitK x u l[i]with
  | true=>
   rw[hf]at e4
   obtain⟨H5,e5,g5,s5,n5⟩:=st_all P4.ok g44 (l':=kpV l[i]) rfl rfl
   have e5':stN 4 (.ptr A4 0) (.agg (kpV l[i])) H4=some (undefA,H5):=e5
   have r5:ldN 4 (.ptr A4 0) H5=some (.agg (kpV l[i])):=agg4 g5 rfl
   refine⟨H5, ?_,P4.fresh s5 fun B hB=>by omega⟩
   have body:f57l0 (dy (m+1)) n [.func 58 [] [.ptr Xx 0, .ptr Xu 0], .ptr A4 0,v, .int .i64 ((l.length:Nat):Int), .int .i64 ((i:Nat):Int)] H=some (.ret (.tuple [.agg (kpV l[i]), .bool true]),H5):=by
    simp(config:= { maxSteps:=1000000}) (disch:=omega) only[f57l0,ev,lg,wnt_undef,ew,hiI,i1,i2,hS,hb2,e3',r3,call_fits,e4,r4,e5',r5]
   rw[loop_ret body]
   simp only[jb,List.find?_cons_of_pos hf,firstV,Option.isSome_some]
  | false=>
   rw[hf]at e4
   have body:f57l0 (dy (m+1)) n [.func 58 [] [.ptr Xx 0, .ptr Xu 0], .ptr A4 0,v, .int .i64 ((l.length:Nat):Int), .int .i64 ((i:Nat):Int)] H=some (.norm [.func 58 [] [.ptr Xx 0, .ptr Xu 0], .ptr A4 0,v, .int .i64 ((l.length:Nat):Int), .int .i64 ((i+1:Nat):Int)],H4):=by
    simp(config:= { maxSteps:=1000000}) (disch:=omega) only[f57l0,ev,lg,wnt_undef,ew,hiI,i1,i2,hS,hb2,e3',r3,call_fits,e4,hi1]
   obtain⟨H5,e5,p5⟩:=first_loop m n hA hv0 bx0 bu0 hl hk0 rr (i+1) kf (by omega) (by omega) P4 g44
   refine⟨H5, ?_,p5⟩
   rw[loop_next body,e5,List.find?_cons_of_neg (by simp[hf])]
def lookV (o:Option Kp):List AV:=match o with
 | some k=>[S k.r, .int .i64 ((0:Nat):Int)]
 | none=>[S [], .int .i64 ((5:Nat):Int)]
theorem look_ok (m n:Nat)(hm:800000000≤m)(hn:100000001≤n){H:AH}{At M L c x u:Nat}{kv oth:Kvs}{f:Nat→List Kp}(t:TreeI H At M L kv)(hL:L≤1000000)(hkv:kv.length≤100000000)(d:Drc kv oth f)(h1:1≤c)(h2:c≤16)(hfl:(f c).length≤100000000)(hx:x<4294967296):
  ∃H',f17 (dy (m+2)) n [.ptr At 0, .int .i64 ((c:Nat):Int), .int .i64 ((x:Nat):Int), .int .u64 ((u:Nat):Int)] H=some (.tuple (lookV ((f c).find? (fitK x u))),H')∧Prs H H':=by
 have hk:H.ok:=by obtain⟨_,_,_,_,_,_,_,_,_,ti,_⟩:=t;exact ti.ok
 obtain⟨H1,X6,b1,p1,g1,m1,n1⟩:=box hk (.cells [.int .i64 ((x:Nat):Int)] 3 1 false)
 obtain⟨H2,X7,b2,p2,g2,m2,n2⟩:=box p1.ok (.cells [.int .u64 ((u:Nat):Int)] 28 1 false)
 have P2:=p1.trans p2
 obtain⟨H3,v,e3,p3,gv,fv⟩:=rows_ok m n hm (t.prs P2) hL hkv d h1 h2
 have bx3:Box H3 X6 (.int .i64 ((x:Nat):Int)):=⟨_,Prs.get (p2.trans p3) p1.ok g1⟩
 have bu3:Box H3 X7 (.int .u64 ((u:Nat):Int)):=⟨_,Prs.get p3 p2.ok g2⟩
 have P3:=P2.trans p3
 obtain⟨H4,A4,b4,p4,g4,m4,n4⟩:=box p3.ok (.cells kp0 118 1 false)
 have hv:KpR H3 v (f c):=gv.row
 obtain⟨H5,e5,p5⟩:=first_loop (m+1) n (by omega) hv bx3 bu3 hfl p3.ok (f c).length 0 n (by omega) (by omega) p4 g4
 rw[List.drop_zero]at e5
 have N1:=p1.next;have N2:=p2.next;have N3:=p3.next;have N4:=p4.next;have N5:=p5.next
 have hS:(AV.str 0 0)=S []:=rfl
 have hb4: ∀K,bA (some (.cells [.int .i64 ((0:Nat):Int), .int .u64 ((0:Nat):Int),S [], .int .i64 ((0:Nat):Int)] 118 1 false,fun A=> .ptr A 0)) H3 K=K (.ptr A4 0) H4:=fun K=>b4 _ K
 have hfirst:f57 (dy (m+2)) n [v, .func 58 [] [.ptr X6 0, .ptr X7 0]] H3=some (.tuple [.agg (firstV ((f c).find? (fitK x u))), .bool ((f c).find? (fitK x u)).isSome],H5):=by
  simp(config:= { maxSteps:=1000000}) (disch:=omega) only[f57,ev,lg,wnt_undef,ew,hS,hb4,hv.lnSl,e5]
 obtain⟨H6,A12,b6,p6,g6,m6,n6⟩:=box p5.ok (.cells kp0 118 1 false)
 have hb6: ∀K,bA (some (.cells [.int .i64 ((0:Nat):Int), .int .u64 ((0:Nat):Int),S [], .int .i64 ((0:Nat):Int)] 118 1 false,fun A=> .ptr A 0)) H5 K=K (.ptr A12 0) H6:=fun K=>b6 _ K
 have x1: ∀k z,cellsA (.int k z)=[.int k z]:=fun _ _=>rfl
 have P5:=P3.trans p5
 have iX: ∀H,f54 (dy (m+2)) n [.int .i64 ((x:Nat):Int)] H=some (.bool true,H):=fun H=>isXid_ok _ _ hx
 have t00: ¬(((0:Nat):Int)≠((0:Nat):Int)):=by omega
 cases ho:(f c).find? (fitK x u)with
 | none=>
  rw[ho]at hfirst
  obtain⟨H7,e7,g7,s7,n7⟩:=st_all p6.ok g6 (l':=kp0) rfl rfl
  have e7':stN 4 (.ptr A12 0) (.agg kp0) H6=some (undefA,H7):=e7
  refine⟨H7, ?_,(P5.trans p6).fresh s7 fun B hB=>by omega⟩
  simp only[firstV,Option.isSome_none]at hfirst
  simp(config:= { maxSteps:=1000000}) (disch:=omega) only[f17,ev,lg,wnt_undef,ew,x1,b1,b2,e3,pExtract,nth,t00,bx3.ld,iX,hfirst,hS,hb6,e7',lookV]
 | some k=>
  rw[ho]at hfirst
  obtain⟨H7,e7,g7,s7,n7⟩:=st_all p6.ok g6 (l':=kpV k) rfl rfl
  have e7':stN 4 (.ptr A12 0) (.agg (kpV k)) H6=some (undefA,H7):=e7
  refine⟨H7, ?_,(P5.trans p6).fresh s7 fun B hB=>by omega⟩
  simp only[firstV,Option.isSome_some]at hfirst
  have r7:ld1 (.ptr A12 2) H7=some (S k.r):=by rw[ld1_get g7];rfl
  simp(config:= { maxSteps:=1000000}) (disch:=omega) only[f17,ev,lg,wnt_undef,ew,x1,b1,b2,e3,pExtract,nth,t00,bx3.ld,iX,hfirst,hS,hb6,e7',r7,lookV]
end Go.Eng.Sh
end
section
namespace Go.Dr
open Go.Nd (Str Kvs putP delP lookP Srt mayK)
theorem inj_n {l:List Kp}(hp:l.Pairwise fun a b=>a.n<b.n){j k:Kp}(hj:j∈l)(hk:k∈l)(e:j.n=k.n):j=k:=by
 obtain⟨a,ha,rfl⟩:=List.getElem_of_mem hj
 obtain⟨b,hb,rfl⟩:=List.getElem_of_mem hk
 rw[List.pairwise_iff_getElem]at hp
 rcases Nat.lt_trichotomy a b with h | h | h
 ·have:=hp a b ha hb h;omega
 ·subst h;rfl
 ·have:=hp b a hb ha h;omega
theorem goes_mem {l:List Kp}{x:Nat} : ∀k∈goesK x l,k∈l:=by
 intro k hk
 rcases List.mem_append.1 hk with h | h
 ·exact(List.mem_filter.1 h).1
 ·exact(List.mem_filter.1 (List.mem_of_mem_take h)).1
theorem goes_distinct {l:List Kp}(hp:l.Pairwise fun a b=>a.n<b.n)(x:Nat):(goesK x l).Pairwise fun a b=>a.n≠b.n:=by
 rw[goesK,List.pairwise_append]
 refine⟨(hp.sublist List.filter_sublist).imp fun h=>Nat.ne_of_lt h,((hp.sublist List.filter_sublist).sublist (List.take_sublist _ _)).imp fun h=>Nat.ne_of_lt h,fun a ha b hb e=> ?_⟩
 have h1:=List.mem_filter.1 ha
 have h2:=List.mem_filter.1 (List.mem_of_mem_take hb)
 have:=inj_n hp h1.1 h2.1 e
 subst this
 simp at h1 h2
 exact h2.2 h1.2
theorem goes_len {l:List Kp}{x:Nat} :(goesK x l).length≤l.length:=by
 have h1:(goesK x l).length≤(l.filter fun k=>k.x=x).length+(l.filter fun k=>k.x≠x).length:=by
  simp only[goesK,List.length_append,List.length_take,stayK]
  omega
 have h2: ∀l:List Kp,(l.filter fun k=>k.x=x).length+(l.filter fun k=>k.x≠x).length=l.length:=by
  intro l
  induction l with
  | nil=>rfl
  | cons k l ih=>
   by_cases hk:k.x=x
   ·simp only[List.filter_cons,hk,decide_true,if_true,ne_eq,not_true_eq_false,decide_false,Bool.false_eq_true,if_false,List.length_cons]
    simp only[ne_eq]at ih
    omega
   ·simp only[List.filter_cons,hk,decide_false,Bool.false_eq_true,if_false,ne_eq,not_false_eq_true,decide_true,if_true,List.length_cons]
    simp only[ne_eq]at ih
    omega
 rw[h2]at h1;exact h1
def fdel (f:Nat→List Kp)(c:Nat)(g:List Kp)(d:Nat):List Kp:=if d=c then(f c).filter (fun j=>decide (j.n∉g.map Kp.n))else f d
theorem fdel_nil (f:Nat→List Kp)(c:Nat):fdel f c []=f:=by
 funext d
 unfold fdel
 split
 ·rename_i e;subst e
  refine List.filter_eq_self.2 fun j _=>by simp
 ·rfl
theorem fdel_snoc (f:Nat→List Kp)(c:Nat)(g:List Kp)(k:Kp):(fun d=>if d=c then(fdel f c g c).filter (fun j=>j.n≠k.n)else fdel f c g d)=fdel f c (g++[k]):=by
 funext d
 by_cases e:d=c
 ·simp only[fdel,e,if_true,List.filter_filter]
  refine List.filter_congr fun j _=> ?_
  rw[Bool.eq_iff_iff]
  simp only[List.map_append,List.map_cons,List.map_nil,List.mem_append,List.mem_singleton,not_or,Bool.and_eq_true,decide_eq_true_eq,ne_eq,and_comm]
 ·simp only[fdel,e,if_false]
end Go.Dr
namespace Go.Eng.Sh
open Go.Nd (Ptr sumL leafOf Kvs Srt mayK putP delP lookP)
open Go.Bt Go.Dr
theorem split_loop (D:Dyn)(n:Nat){H0:AH}{v:AV}{l:List Kp}{x:Nat}{a0 a1 a3 a4 a13:AV}(hk0:H0.ok)(hv0:KpR H0 v l)(hl:l.length≤1000000)(hn:l.length<n):
  ∃H' g s',loopK n (f15l1 D n) [a0,a1, .int .i64 ((x:Nat):Int),a3,a4,a13, .nilSlice, .nilSlice,v, .int .i64 ((l.length:Nat):Int), .int .i64 ((0:Nat):Int)] H0=some (.exit 0 [a0,a1, .int .i64 ((x:Nat):Int),a3,a4,a13,g,s'],H')∧Prs H0 H'∧Kps H' g (l.filter fun k=>k.x=x)∧Kps H' s' (l.filter fun k=>k.x≠x)∧(∀B,Blk g B→H0.next≤B)∧(∀B,Blk s' B→H0.next≤B)∧(∀B,Blk g B→ ¬Blk s' B):=by
 have lp:=loop_inv (b:=f15l1 D n) l.length (fun i us H'=> ∃g s',us=[a0,a1, .int .i64 ((x:Nat):Int),a3,a4,a13,g,s',v, .int .i64 ((l.length:Nat):Int), .int .i64 ((i:Nat):Int)]∧Prs H0 H'∧Kps H' g ((l.take i).filter fun k=>k.x=x)∧Kps H' s' ((l.take i).filter fun k=>k.x≠x)∧(∀B,Blk g B→H0.next≤B)∧(∀B,Blk s' B→H0.next≤B)∧(∀B,Blk g B→ ¬Blk s' B)) (fun i us H hi ⟨g,s',hus,P,hg,hs,fg,fs,dj⟩=>by
  subst hus
  have hv:KpR H v l:=Rw.stp hv0 P fun _ _ x=>x
  obtain⟨A,o,i1,i2,i3⟩:=hv.at hi
  have N:=P.next
  obtain⟨H2,A18,b2,p2,g2,m2,n2⟩:=box P.ok (.cells kp0 118 1 false)
  obtain⟨H3,e3,g3,s3,n3⟩:=st_all p2.ok g2 (l':=kpV l[i]) rfl rfl
  have e3':stN 4 (.ptr A18 0) (.agg (kpV l[i])) H2=some (undefA,H3):=e3
  have N2:=p2.next;have N3:=s3.next
  have P3:Prs H H3:=p2.fresh s3 fun B hB=>by omega
  obtain⟨H4,A11,b4,p4,g4,m4,n4⟩:=box P3.ok (.cells (kpV l[i]) 118 4 false)
  have hsrc:srcOf 4 (.slice A11 0 1 2) H4=some (1,kpV l[i]):=by simp only[srcOf,g4];rfl
  have N4:=p4.next
  have P34:=P3.trans p4
  have hiI:((i:Nat):Int)< ((l.length:Nat):Int):=by omega
  have hi1:((i:Nat):Int)+((1:Nat):Int)=((i+1:Nat):Int):=by omega
  have hS:(AV.str 0 0)=S []:=rfl
  have hb2: ∀K,bA (some (.cells [.int .i64 ((0:Nat):Int), .int .u64 ((0:Nat):Int),S [], .int .i64 ((0:Nat):Int)] 118 1 false,fun A=> .ptr A 0)) H K=K (.ptr A18 0) H2:=fun K=>b2 _ K
  have r3:ldN 4 (.ptr A18 0) H3=some (.agg (kpV l[i])):=agg4 g3 rfl
  have r30:ld1 (.ptr A18 0) H3=some (.int .i64 ((l[i].x:Nat):Int)):=by rw[ld1_get g3];rfl
  have bl1:bldL 118 4 1 [.int .i64 ((0:Nat):Int), .int .u64 ((0:Nat):Int),S [], .int .i64 ((0:Nat):Int)] [(0, .agg (kpV l[i]))]=some (.cells (kpV l[i]) 118 4 false,fun A=> .slice A 0 1 2):=rfl
  have ht:l.take (i+1)=l.take i++[l[i]]:=List.take_succ_eq_append_getElem hi
  have hfl: ∀p:Kp→Bool,((l.take i).filter p).length≤1000000:=fun p=>Nat.le_trans (List.length_filter_le _ _) (by simp;omega)
  have hg4:Kps H4 g ((l.take i).filter fun k=>k.x=x):=Grow.mono hg P34 fun _ _ x=>x
  have hs4:Kps H4 s' ((l.take i).filter fun k=>k.x≠x):=Grow.mono hs P34 fun _ _ x=>x
  have lg: ∀B,Blk g B→B<H.next:=fun B hB=>Grow.lt hg hB
  have ls: ∀B,Blk s' B→B<H.next:=fun B hB=>Grow.lt hs hB
  have P04:=P.trans P34
  by_cases hx:l[i].x=x
  ·have hxI:((l[i].x:Nat):Int)=((x:Nat):Int):=by omega
   obtain⟨g',H5,e5,gw5,s5,f5⟩:=Grow.app (bytes:=40) (m:=1) p4.ok (by decide) hg4 hsrc rfl rfl (by have:=hfl (fun k=>decide (k.x=x));omega) (by decide)
   have fe:(l.take (i+1)).filter (fun k=>decide (k.x=x))=(l.take i).filter (fun k=>decide (k.x=x))++[l[i]]:=by rw[ht,List.filter_append];simp[hx]
   have fn:(l.take (i+1)).filter (fun k=>decide (k.x≠x))=(l.take i).filter (fun k=>decide (k.x≠x)):=by rw[ht,List.filter_append];simp[hx]
   refine⟨_,H5, ?_,g',s',rfl,P04.fresh s5 fg, ?_, ?_,fun B hB=> ?_,fs,fun B hB hB'=> ?_⟩
   ·simp(config:= { maxSteps:=1000000}) (disch:=omega) only[f15l1,ev,lg,wnt_undef,ew,hiI,i1,i2,hS,hb2,e3',r30,hxI,r3,bl1,b4,e5,f15j0,hi1]
   ·show Grow 4 _ _ g' _ _
    rw[fe,List.length_append,List.flatMap_append]
    simpa using gw5
   ·rw[fn];exact Grow.mono hs4 s5 fun B hB e=>dj B e hB
   ·rcases f5 B hB with e | e
    ·exact fg B e
    ·omega
   ·rcases f5 B hB with e | e
    ·exact dj B e hB'
    ·have:=ls B hB';omega
  ·have hxI: ¬((l[i].x:Nat):Int)=((x:Nat):Int):=by omega
   obtain⟨g',H5,e5,gw5,s5,f5⟩:=Grow.app (bytes:=40) (m:=1) p4.ok (by decide) hs4 hsrc rfl rfl (by have:=hfl (fun k=>decide (k.x≠x));omega) (by decide)
   have fe:(l.take (i+1)).filter (fun k=>decide (k.x=x))=(l.take i).filter (fun k=>decide (k.x=x)):=by rw[ht,List.filter_append];simp[hx]
   have fn:(l.take (i+1)).filter (fun k=>decide (k.x≠x))=(l.take i).filter (fun k=>decide (k.x≠x))++[l[i]]:=by rw[ht,List.filter_append];simp[hx]
   refine⟨_,H5, ?_,g,g',rfl,P04.fresh s5 fs, ?_, ?_,fg,fun B hB=> ?_,fun B hB hB'=> ?_⟩
   ·simp(config:= { maxSteps:=1000000}) (disch:=omega) only[f15l1,ev,lg,wnt_undef,ew,hiI,i1,i2,hS,hb2,e3',r30,hxI,r3,bl1,b4,e5,f15j0,hi1]
   ·rw[fe];exact Grow.mono hg4 s5 fun B hB e=>dj B hB e
   ·show Grow 4 _ _ g' _ _
    rw[fn,List.length_append,List.flatMap_append]
    simpa using gw5
   ·rcases f5 B hB with e | e
    ·exact fs B e
    ·omega
   ·rcases f5 B hB' with e | e
    ·exact dj B hB e
    ·have:=lg B hB;omega) n _ H0 ⟨.nilSlice, .nilSlice,rfl,Stp.refl hk0, .inl (Own.nil ..), .inl (Own.nil ..),fun B hB=>(Blk.nil.1 hB).elim,fun B hB=>(Blk.nil.1 hB).elim,fun B hB=>(Blk.nil.1 hB).elim⟩ hn
 obtain⟨q,us,H',e1,g,s',rfl,P,hg,hs,fg,fs,dj⟩:=lp
 rw[List.take_length]at hg hs
 refine⟨H',g,s', ?_,P,hg,hs,fg,fs,dj⟩
 rw[e1]
 exact loop_exit (by simp only[f15l1,ev,lg,wnt_undef,ew,Int.lt_irrefl])
theorem dels_loop (m n:Nat)(hm:300000000≤m)(hn:300000000≤n){H0:AH}{At M L c:Nat}{kv oth:Kvs}{f:Nat→List Kp}{g:AV}{gl:List Kp}{a2 a3 a4 a13:AV}(t:TreeI H0 At M L kv)(d:Drc kv oth f)(h1:1≤c)(h2:c≤16)(hg0:KpR H0 g gl)(hgl:gl.length≤1000)(hL:L≤100000000)(hkv:kv.length≤100000000)
  (hmem: ∀k∈gl,k∈f c) (hdis:gl.Pairwise fun a b=>a.n≠b.n) (hgA: ∀B,Blk g B→B≠At∧B≠M):
  ∃H' kv',loopK n (f15l2 (dy (m+2)) n) [.ptr At 0, .int .i64 ((c:Nat):Int),a2,a3,a4,a13,g, .int .i64 ((gl.length:Nat):Int), .int .i64 ((0:Nat):Int)] H0=some (.exit 2 [.ptr At 0, .int .i64 ((c:Nat):Int),a2,a3,a4,a13],H')∧TreeI H' At M (L+200*gl.length) kv'∧Drc kv' oth (fdel f c gl)∧kv'.length≤kv.length∧Stp (fun B=>B=At∨B=M) H0 H':=by
 have lp:=loop_inv (b:=f15l2 (dy (m+2)) n) gl.length (fun i us H'=>us=[.ptr At 0, .int .i64 ((c:Nat):Int),a2,a3,a4,a13,g, .int .i64 ((gl.length:Nat):Int), .int .i64 ((i:Nat):Int)]∧ ∃kv',TreeI H' At M (L+200*i) kv'∧Drc kv' oth (fdel f c (gl.take i))∧kv'.length≤kv.length∧Stp (fun B=>B=At∨B=M) H0 H') (fun i us H hi ⟨hus,kv',ti,di,hlen,st⟩=>by
  subst hus
  have hg:KpR H g gl:=Rw.stp hg0 st fun B hB e=>by
   rcases e with e | e
   ·exact(hgA B hB).1 e
   ·exact(hgA B hB).2 e
  obtain⟨A,o,i1,i2,i3⟩:=hg.at hi
  have hin:=hmem _ (List.getElem_mem hi)
  have hfine:=(d.row c).2 _ hin
  obtain⟨f1,f2,_⟩:=hfine
  obtain⟨H2,A21,b2,p2,g2,m2,n2⟩:=box st.ok (.cells kp0 118 1 false)
  obtain⟨H3,e3,g3,s3,n3⟩:=st_all p2.ok g2 (l':=kpV gl[i]) rfl rfl
  have e3':stN 4 (.ptr A21 0) (.agg (kpV gl[i])) H2=some (undefA,H3):=e3
  have P3:Prs H H3:=p2.fresh s3 fun B hB=>by omega
  obtain⟨H4,e4,p4⟩:=key_ok (dy (m+2)) n (by omega) P3.ok (c:=c) (k:=gl[i].n) (by omega) (by omega)
  have P4:=P3.trans p4
  obtain⟨H5,e5,t5,s5⟩:=delT_ok m n hm hn (k:=keyK c gl[i].n) (ti.prs P4) (by omega) (by omega)
  have hmayk:=mayK_key c gl[i].n
  have hstill:gl[i]∈fdel f c (gl.take i) c:=by
   simp only[fdel,if_true]
   rw[List.mem_filter]
   refine⟨hin, ?_⟩
   simp only[decide_eq_true_eq]
   intro h
   obtain⟨j,hj,e⟩:=List.mem_map.1 h
   obtain⟨a,ha,rfl⟩:=List.getElem_of_mem hj
   rw[List.pairwise_iff_getElem]at hdis
   simp only[List.length_take]at ha
   rw[List.getElem_take]at e
   exact hdis a i (by omega) hi (by omega) e
  have hfound:lookP (keyK c gl[i].n) kv'=some (valK gl[i]):=(mem_look di.srt).2 ((di.mem _).2 (.inr ⟨c,gl[i],hstill,rfl⟩))
  have hde:delET (keyK c gl[i].n) kv'=0:=by simp only[delET,hmayk,if_true,hfound,Option.isSome_some]
  rw[hde]at e5 t5
  simp only[if_true]at t5
  refine⟨_,H5, ?_,rfl,delP (keyK c gl[i].n) kv',by rw[show L+200*(i+1)=L+200*i+200 by omega];exact t5, ?_, ?_,(st.trans (Prs.stp P4)).trans s5⟩
  ·have hiI:((i:Nat):Int)< ((gl.length:Nat):Int):=by omega
   have hi1:((i:Nat):Int)+((1:Nat):Int)=((i+1:Nat):Int):=by omega
   have hS:(AV.str 0 0)=S []:=rfl
   have hb2: ∀K,bA (some (.cells [.int .i64 ((0:Nat):Int), .int .u64 ((0:Nat):Int),S [], .int .i64 ((0:Nat):Int)] 118 1 false,fun A=> .ptr A 0)) H K=K (.ptr A21 0) H2:=fun K=>b2 _ K
   have r3:ld1 (.ptr A21 3) H3=some (.int .i64 ((gl[i].n:Nat):Int)):=by rw[ld1_get g3];rfl
   have t00: ¬(((0:Nat):Int)≠((0:Nat):Int)):=by omega
   simp(config:= { maxSteps:=1000000}) (disch:=omega) only[f15l2,ev,lg,wnt_undef,ew,hiI,i1,i2,hS,hb2,e3',r3,e4,e5,t00,hi1]
  ·have:=di.del h1 h2 (k:=gl[i]) ((d.row c).2 _ hin)
   rw[fdel_snoc]at this
   rw[List.take_succ_eq_append_getElem hi]
   exact this
  ·rw[Nd.len_del];split<;>omega) n _ H0 ⟨rfl,kv,by simpa using t,by rw[List.take_zero,fdel_nil];exact d,Nat.le_refl _,Stp.refl (by obtain⟨_,_,_,_,_,_,_,_,_,ti,_⟩:=t;exact ti.ok)⟩ (by omega)
 obtain⟨q,us,H',e1,rfl,kv',t',d',hlen,st⟩:=lp
 rw[List.take_length]at d'
 refine⟨H',kv', ?_,t',d',hlen,st⟩
 rw[e1]
 exact loop_exit (by simp only[f15l2,ev,lg,wnt_undef,ew,Int.lt_irrefl])
end Go.Eng.Sh
end
section
namespace Go.Eng.Sh
open Go.Nd (Ptr sumL leafOf Kvs Srt mayK putP delP lookP)
open Go.Bt Go.Dr
theorem kept_fun (f:Nat→List Kp)(c x u:Nat)(r:Str)(hp:(f c).Pairwise fun a b=>a.n<b.n):(fun d=>if d=c then fdel f c (goesK x (f c)) c++[(⟨nextK (f c),x,u,r⟩:Kp)]else fdel f c (goesK x (f c)) d)=fun d=>if d=c then keepR (f c) x u r else f d:=by
 funext d
 by_cases e:d=c
 ·simp only[e,if_true,fdel,keepR]
  rw[goes_left hp]
 ·simp only[e,if_false,fdel]
theorem over_ok (D:Dyn)(n:Nat){H:AH}{g s':AV}{l:List Kp}{x N0:Nat}{a0 a1 a2 a3 a4 a13:AV}(hk:H.ok)(hg:Kps H g (l.filter fun k=>k.x=x))(hs:Kps H s' (l.filter fun k=>k.x≠x))(hl:l.length≤1000000)(fg: ∀B,Blk g B→N0≤B)(hN:N0≤H.next)(dj: ∀B,Blk g B→ ¬Blk s' B):
  ∃H' g',f15b5 D n [a0,a1,a2,a3,a4,a13,g,s'] H=f15j4 D n [a0,a1,a2,a3,a4,a13,g'] H'∧Stp (Blk g) H H'∧Kps H' g' (goesK x l)∧ ∀B,Blk g' B→N0≤B:=by
 have hln:lnSl s'=some (.int .i64 (((stayK x l).length:Nat):Int)):=hs.row.lnSl
 have hsl:(stayK x l).length≤1000000:=Nat.le_trans (List.length_filter_le _ _) hl
 have hgl:(l.filter fun k=>k.x=x).length≤1000000:=Nat.le_trans (List.length_filter_le _ _) hl
 by_cases h7:7< (stayK x l).length
 ·obtain⟨q,e1,w1⟩:=Grow.hi hs (by decide) (i:=(stayK x l).length - 7) (Nat.sub_le _ _)
  rw[flat_takeK]at w1
  have hsrc:=w1.srcOf
  obtain⟨g',H2,e2,gw,s2,f2⟩:=Grow.app (bytes:=40) hk (by decide) hg hsrc w1.len (by
   rw[allCells_mem];intro y hy
   obtain⟨k,_,hy⟩:=List.mem_flatMap.1 hy
   simp only[kpV,List.mem_cons,List.not_mem_nil,or_false]at hy
   rcases hy with rfl | rfl | rfl | rfl<;>rfl) (by omega) (by decide)
  refine⟨H2,g', ?_,s2, ?_,fun B hB=> ?_⟩
  ·have hsub:(((stayK x l).length:Nat):Int) - ((7:Nat):Int)=(((stayK x l).length - 7:Nat):Int):=by omega
   have hpos:((0:Nat):Int)< (((stayK x l).length - 7:Nat):Int):=by omega
   simp(config:= { maxSteps:=1000000}) (disch:=omega) only[f15b5,ev,lg,wnt_undef,ew,hln,hsub,hpos,e1,e2]
  ·show Grow 4 _ _ g' _ _
   rw[goesK,List.length_append,List.flatMap_append,List.length_take,Nat.min_eq_left (Nat.sub_le _ _)]
   exact gw
  ·rcases f2 B hB with e | e
   ·exact fg B e
   ·omega
 ·refine⟨H,g, ?_,Stp.refl hk, ?_,fg⟩
  ·have hneg: ¬((0:Nat):Int)< (((stayK x l).length:Nat):Int) - ((7:Nat):Int):=by omega
   simp(config:= { maxSteps:=1000000}) (disch:=omega) only[f15b5,ev,lg,wnt_undef,ew,hln,hneg]
  ·have:goesK x l=l.filter fun k=>k.x=x:=by rw[goesK,show(stayK x l).length - 7=0 by omega];simp
   rw[this];exact hg
theorem keep_ok (m n:Nat)(hm:800000000≤m)(hn:300000000≤n){H:AH}{At M L c x u:Nat}{r:Str}{kv oth:Kvs}{f:Nat→List Kp}(t:TreeI H At M L kv)(hL:L≤1000000)(hkv:kv.length≤1000000)(d:Drc kv oth f)(h1:1≤c)(h2:c≤16)(hx:x<4294967296)(hu:u<18446744073709551616)(hr:r.length≤188)(h8:(f c).length≤8)(hnx:nextK (f c)≤2147483647):
  ∃H' kv',f15 (dy (m+2)) n [.ptr At 0, .int .i64 ((c:Nat):Int), .int .i64 ((x:Nat):Int), .int .u64 ((u:Nat):Int),S r] H=some (.int .i64 ((0:Nat):Int),H')∧TreeI H' At M (L+2000) kv'∧Drc kv' oth (fun d=>if d=c then keepR (f c) x u r else f d)∧kv'.length≤kv.length+1∧Stp (fun B=>B=At∨B=M) H H':=by
 obtain⟨lA,lM⟩:At<H.next∧M<H.next:=by
  obtain⟨_,_,_,_,_,_,_,_,_,ti,_⟩:=t
  exact⟨ti.ok.lt ti.gT,ti.ok.lt ti.gM⟩
 obtain⟨H1,v,e1,p1,gv,fv⟩:=rows_ok m n hm t hL (by omega) d h1 h2
 have hv:KpR H1 v (f c):=gv.row
 have N1:=p1.next
 have hp:=(d.row c).1
 obtain⟨H2,g,s',e2,p2,hg,hs,fg,fs,dj⟩:=split_loop (dy (m+2)) n (x:=x) (a0:= .ptr At 0) (a1:= .int .i64 ((c:Nat):Int)) (a3:= .int .u64 ((u:Nat):Int)) (a4:=S r) (a13:= .int .i64 ((nextK (f c):Nat):Int)) p1.ok hv (by omega) (by omega)
 have N2:=p2.next
 obtain⟨H3,g',e3,s3,hg3,fg3⟩:=over_ok (dy (m+2)) n (N0:=H1.next) (a0:= .ptr At 0) (a1:= .int .i64 ((c:Nat):Int)) (a2:= .int .i64 ((x:Nat):Int)) (a3:= .int .u64 ((u:Nat):Int)) (a4:=S r) (a13:= .int .i64 ((nextK (f c):Nat):Int)) p2.ok hg hs (by omega) fg N2 dj
 have P3:Prs H H3:=(p1.trans p2).fresh s3 fun B hB=>by have:=fg B hB;omega
 have hgl:(goesK x (f c)).length≤(f c).length:=goes_len
 obtain⟨H4,kv4,e4,t4,d4,l4,s4⟩:=dels_loop m n (by omega) hn (a2:= .int .i64 ((x:Nat):Int)) (a3:= .int .u64 ((u:Nat):Int)) (a4:=S r) (a13:= .int .i64 ((nextK (f c):Nat):Int)) (t.prs P3) d h1 h2 (g:=g') (gl:=goesK x (f c)) hg3.row (by omega) (by omega) (by omega) goes_mem (goes_distinct hp x) (fun B hB=>by have:=fg3 B hB;omega)
 have hk4:=s4.ok
 obtain⟨H5,e5,p5⟩:=key_ok (dy (m+2)) n (by omega) hk4 (c:=c) (k:=nextK (f c)) (by omega) (by omega)
 obtain⟨H6,e6,p6⟩:=digits_ok (dy (m+2)) n (by omega) p5.ok x 4 (by omega) (by omega)
 obtain⟨H7,e7,p7⟩:=digits_ok (dy (m+2)) n (by omega) p6.ok u 8 hu (by omega)
 have P47:=(p5.trans p6).trans p7
 have hval:dig x 4++dig u 8++r=valK ⟨nextK (f c),x,u,r⟩:=rfl
 obtain⟨H8,e8,t8,s8⟩:=putT_ok m n (by omega) hn (k:=keyK c (nextK (f c))) (v:=valK ⟨nextK (f c),x,u,r⟩) (t4.prs P47) (by omega) (by omega)
 have hput:putOkT (keyK c (nextK (f c))) (valK ⟨nextK (f c),x,u,r⟩)=true:=by
  simp only[putOkT,mayK_key,Bool.true_and,decide_eq_true_eq,valK_len];omega
 rw[hput]at e8 t8
 simp only[if_true]at e8 t8
 have hfine:(⟨nextK (f c),x,u,r⟩:Kp).fine:=⟨next_one _ fun k hk=>((d.row c).2 k hk).1,hnx,hx,hu,hr⟩
 have d8:=d4.put h1 h2 (k:=⟨nextK (f c),x,u,r⟩) hfine (fun j hj=>by
  simp only[fdel,if_true]at hj
  exact next_gt hp j (List.mem_filter.1 hj).1)
 rw[kept_fun f c x u r hp]at d8
 refine⟨H8,_, ?_,t8.up (by omega),d8, ?_,(((Prs.stp P3).trans s4).trans (Prs.stp P47)).trans s8⟩
 ·have iX: ∀H,f54 (dy (m+2)) n [.int .i64 ((x:Nat):Int)] H=some (.bool true,H):=fun H=>isXid_ok _ _ hx
  have t00: ¬(((0:Nat):Int)≠((0:Nat):Int)):=by omega
  have t188: ¬((188:Nat):Int)< ((r.length:Nat):Int):=by omega
  have hw:IntKind.wrap .u64 ((x:Nat):Int)=((x:Nat):Int):=by rw[wrap_u64];omega
  have ha1:bStr .add (S (dig x 4)) (S (dig u 8))=some (S (dig x 4++dig u 8)):=bStr_add _ _ (by simp[dig_len])
  have ha2:bStr .add (S (dig x 4++dig u 8)) (S r)=some (S (valK ⟨nextK (f c),x,u,r⟩)):=by rw[bStr_add _ _ (by simp[dig_len];omega),hval]
  have hlg:lnSl g'=some (.int .i64 (((goesK x (f c)).length:Nat):Int)):=hg3.row.lnSl
  have tail:f15j6 (dy (m+2)) n [.ptr At 0, .int .i64 ((c:Nat):Int), .int .i64 ((x:Nat):Int), .int .u64 ((u:Nat):Int),S r,v, .int .i64 ((nextK (f c):Nat):Int)] H1=some (.ret (.int .i64 ((0:Nat):Int)),H8):=by
   simp(config:= { maxSteps:=1000000}) (disch:=omega) only[f15j6,ev,lg,wnt_undef,ew,hv.lnSl,e2]
   rw[e3]
   simp(config:= { maxSteps:=1000000}) (disch:=omega) only[f15j4,ev,lg,wnt_undef,ew,hlg,e4,f15b3,e5,hw,e6,e7,ha1,ha2,e8]
  by_cases hl0:0< (f c).length
  ·have hl0I:((0:Nat):Int)< (((f c).length:Nat):Int):=by omega
   obtain⟨A,o,i1,i2,i3⟩:=hv.at (i:=(f c).length - 1) (by omega)
   have hsub:(((f c).length:Nat):Int) - ((1:Nat):Int)=(((f c).length - 1:Nat):Int):=by omega
   have hne:f c≠[]:=fun e=>by rw[e]at hl0;simp at hl0
   have hnk:nextK (f c)=(f c)[(f c).length - 1].n+1:=by
    simp only[nextK,List.getLast?_eq_some_getLast hne,List.getLast_eq_getElem]
   have t3: ¬((2147483647:Nat):Int)≤(((f c)[(f c).length - 1].n:Nat):Int):=by omega
   have hadd:(((f c)[(f c).length - 1].n:Nat):Int)+((1:Nat):Int)=((nextK (f c):Nat):Int):=by omega
   simp(config:= { maxSteps:=1000000}) (disch:=omega) only[f15,ev,lg,wnt_undef,ew,e1,pExtract,nth,t00,iX,t188,hv.lnSl,hl0I,hsub,i1,i3,t3,hadd,tail]
  ·have hl0I: ¬((0:Nat):Int)< (((f c).length:Nat):Int):=by omega
   have hnil:f c=[]:=List.eq_nil_of_length_eq_zero (by omega)
   have hnk:nextK (f c)=1:=by rw[hnil];rfl
   rw[hnk]at tail
   simp(config:= { maxSteps:=1000000}) (disch:=omega) only[f15,ev,lg,wnt_undef,ew,e1,pExtract,nth,t00,iX,t188,hv.lnSl,hl0I,tail]
 ·have:=Nd.len_put (keyK c (nextK (f c))) (valK ⟨nextK (f c),x,u,r⟩) d4.srt
  rw[this];split<;>omega
end Go.Eng.Sh
end
section
namespace Go.Dr
open Go.Nd (Str Kvs putP delP lookP Srt mayK)
def gL (fs j:Nat):Kp:=⟨j+1,fs+j,j,[114]⟩
def rowL (fs i:Nat):List Kp:=(List.range' (i - 8) (min i 8)).map (gL fs)
theorem rowL_len (fs i:Nat):(rowL fs i).length=min i 8:=by simp[rowL]
theorem rowL_get (fs i k:Nat)(h:k< (rowL fs i).length):(rowL fs i)[k]=gL fs (i - 8+k):=by
 simp only[rowL,List.getElem_map,List.getElem_range',Nat.one_mul]
theorem rowL_succ (fs i:Nat):rowL fs (i+1)=(rowL fs i).drop ((rowL fs i).length - 7)++[gL fs i]:=by
 apply List.ext_getElem
 ·simp only[List.length_append,List.length_drop,rowL_len,List.length_singleton];omega
 ·intro k h1 h2
  rw[rowL_get]
  have h1':=h1
  rw[rowL_len]at h1'
  by_cases hk:k< ((rowL fs i).drop ((rowL fs i).length - 7)).length
  ·rw[List.getElem_append_left hk,List.getElem_drop,rowL_get]
   simp only[List.length_drop,rowL_len]at hk
   congr 1
   rw[rowL_len];omega
  ·rw[List.getElem_append_right (by omega)]
   simp only[List.getElem_singleton]
   simp only[List.length_drop,rowL_len]at hk
   congr 1
   omega
theorem rowL_next (fs:Nat): ∀i,nextK (rowL fs i)=i+1
 | 0=>rfl
 | i+1=>by rw[rowL_succ];simp[nextK,gL]
theorem rowL_mem {fs i:Nat}{k:Kp}(h:k∈rowL fs i): ∃j,k=gL fs j∧i - 8≤j∧j<i:=by
 simp only[rowL,List.mem_map,List.mem_range'_1]at h
 obtain⟨j,hj,rfl⟩:=h
 exact⟨j,rfl,by omega,by omega⟩
theorem rowL_keep (fs i:Nat):keepR (rowL fs i) (fs+i) i [114]=rowL fs (i+1):=by
 have hs:stayK (fs+i) (rowL fs i)=rowL fs i:=List.filter_eq_self.2 fun k hk=>by
  obtain⟨j,rfl,_,hj⟩:=rowL_mem hk
  exact decide_eq_true (show fs+j≠fs+i by omega)
 rw[keepR,hs,rowL_next,rowL_succ];rfl
theorem rowL_find {fs many i:Nat}(hi:i<many):(rowL fs many).find? (Go.Eng.Sh.fitK (fs+i) i)=if many - 8≤i then some (gL fs i)else none:=by
 split
 ·rename_i h8
  have hin:gL fs i∈rowL fs many:=by
   simp only[rowL,List.mem_map,List.mem_range'_1]
   exact⟨i,by omega,rfl⟩
  cases hf:(rowL fs many).find? (Go.Eng.Sh.fitK (fs+i) i)with
  | none=>
   have:=List.find?_eq_none.1 hf _ hin
   simp[Go.Eng.Sh.fitK,gL]at this
  | some k=>
   obtain⟨j,rfl,_,_⟩:=rowL_mem (List.mem_of_find?_eq_some hf)
   have:=List.find?_some hf
   rw[Go.Eng.Sh.fitK,Bool.and_eq_true]at this
   have hj:j=i:=of_decide_eq_true this.2
   rw[hj]
 ·rename_i h8
  rw[List.find?_eq_none]
  intro k hk
  obtain⟨j,rfl,h1,_⟩:=rowL_mem hk
  rw[Go.Eng.Sh.fitK,Bool.and_eq_true]
  rintro⟨_,h⟩
  have hj:j=i:=of_decide_eq_true h
  omega
theorem drc_new:Drc [] [] (fun _=>[]) where
 srt:=trivial
 mem:=fun p=>by simp
 row:=fun c=>⟨List.Pairwise.nil,by simp⟩
 few:=fun c h=>absurd rfl h
 oth:=by simp
end Go.Dr
namespace Go.Eng.Sh
open Go.Nd (Ptr sumL leafOf Kvs Srt mayK putP delP lookP)
open Go.Bt Go.Dr
theorem dnew64_ok (D:Dyn)(n:Nat){H:AH}(hk:H.ok): ∃H' A,f49 D n [.int .i64 ((64:Nat):Int)] H=some (.tuple [.ptr A 0, .int .i64 ((0:Nat):Int)],H')∧Prs H H':=by
 obtain⟨H1,A1,b1,p1,g1,m1,n1⟩:=box hk (.map [6] [])
 obtain⟨H2,A2,b2,p2,g2,m2,n2⟩:=box p1.ok (.map [6] [])
 obtain⟨H3,A3,b3,p3,g3,m3,n3⟩:=box p2.ok (.cells [.int .i64 ((64:Nat):Int), .map A1, .nilSlice, .map A2, .int .i64 ((0:Nat):Int), .nilSlice, .bool false] 163 1 false)
 refine⟨H3,A3, ?_,(p1.trans p2).trans p3⟩
 have a1: ¬((64:Nat):Int)< ((64:Nat):Int):=by omega
 have a2: ¬((8192:Nat):Int)< ((64:Nat):Int):=by omega
 have bs:bldS [(0,1),(1,1),(2,1),(3,1),(4,1),(5,1),(6,1)] [.int .i64 ((0:Nat):Int), .nilMap, .nilSlice, .nilMap, .int .i64 ((0:Nat):Int), .nilSlice, .bool false] [(0, .int .i64 ((64:Nat):Int)),(1, .map A1),(3, .map A2)]=some (.agg [.int .i64 ((64:Nat):Int), .map A1, .nilSlice, .map A2, .int .i64 ((0:Nat):Int), .nilSlice, .bool false]):=rfl
 simp(config:= { maxSteps:=1000000}) (disch:=omega) only[f49,f94,ev,lg,wnt_undef,ew,a1,a2,mkM,b1,b2,bs,b3]
theorem begun27_ok (D:Dyn)(n:Nat)(hn:100≤n){H:AH}(hk:H.ok): ∃H' At M,f13 D n [] H=some (.ptr At 0,H')∧Prs H H'∧H.next≤At∧H.next≤M∧TreeI H' At M 0 []:=by
 obtain⟨H1,A1,e1,p1⟩:=dnew64_ok D n hk
 obtain⟨H4,At,M,e4,p4,m4,m4',ti⟩:=open_ok D n hn p1.ok A1 0 (c:= .nilPtr) rfl
 have N1:=p1.next
 refine⟨H4,At,M, ?_,p1.trans p4,by omega,by omega,ti⟩
 have t00: ¬(((0:Nat):Int)≠((0:Nat):Int)):=by omega
 have bz:bldS [(0,1),(1,1),(2,1)] [.int .i64 ((0:Nat):Int), .int .i64 ((0:Nat):Int), .int .u64 ((0:Nat):Int)] []=some (.agg (ptrV pZ)):=rfl
 simp(config:= { maxSteps:=1000000}) (disch:=omega) only[f13,ev,lg,wnt_undef,ew,e1,pExtract,nth,t00,bz,e4]
theorem Kws.at {H:AH}{v:AV}{l:List Kp}(h:Kws H v l){i:Nat}(hi:i<l.length): ∃A o,(∀κ (z:Int),z=(i:Int)→ixSl 3 v (.int κ z)=some (.ptr A o))∧Eng.ld1 (.ptr A o) H=some (.int .i64 ((l[i].x:Nat):Int))∧Eng.ld1 (.ptr A (o+1)) H=some (.int .u64 ((l[i].u:Nat):Int))∧Eng.ld1 (.ptr A (o+2)) H=some (S l[i].r):=by
 have fa: ∀(l:List Kp) (i:Nat) (h:i<l.length),((l.flatMap kv3).drop (i*3)).take 3=kv3 l[i]:=by
  intro l
  induction l with
  | nil=>intro i h;simp at h
  | cons p l ih=>
   intro i h
   cases i with
   | zero=>rfl
   | succ i=>
    rw[List.flatMap_cons,show(i+1)*3=3+i*3 by omega, ← List.drop_drop]
    exact ih i (by simpa using h)
 obtain⟨A,o,c,e,sz,g,h1,h2,h3,h4,h5⟩:=Rw.at h.row hi
 rw[fa l i hi]at h5
 have g0:c[o]? =some (.int .i64 ((l[i].x:Nat):Int)):=by
  have:=congrArg (fun x=>x[0]?) h5
  simpa[kv3]using this
 have g1:c[o+1]? =some (.int .u64 ((l[i].u:Nat):Int)):=by
  have:=congrArg (fun x=>x[1]?) h5
  simpa[kv3]using this
 have g2:c[o+2]? =some (S l[i].r):=by
  have:=congrArg (fun x=>x[2]?) h5
  simpa[kv3]using this
 exact⟨A,o,h1,ld1_ptr h2 g0,ld1_ptr h2 g1,ld1_ptr h2 g2⟩
def oneF (c:Nat)(l:List Kp)(d:Nat):List Kp:=if d=c then l else[]
theorem oneF_keep (c x u:Nat)(l:List Kp)(r:Str):(fun d=>if d=c then keepR (oneF c l c) x u r else oneF c l d)=oneF c (keepR l x u r):=by
 funext d
 by_cases e:d=c
 ·subst e;simp[oneF]
 ·simp[oneF,e]
theorem u64_of (z:Int): ∃a:Nat,IntKind.wrap .u64 z=((a:Nat):Int)∧a<18446744073709551616:=by
 rw[wrap_u64]
 have h1:=Int.emod_nonneg z (show(18446744073709551616:Int)≠0 by decide)
 have h2:=Int.emod_lt_of_pos z (show(0:Int)<18446744073709551616 by decide)
 exact⟨(z % 18446744073709551616).toNat,by omega,by omega⟩
theorem drcLast_walk (m n:Nat)(hm:800000000≤m)(hn:300000000≤n){H:AH}(hk:H.ok)(zc zm zf:Int):
  ∃H',f3z (dy (m+2)) n [.int .i64 zc, .int .i64 zm, .int .i64 zf] H=some (.bool true,H')∧Prs H H':=by
 have zok: ∀H:AH,z14 (dy (m+2)) n [] H=some (.bool true,H):=fun _=>rfl
 obtain⟨a1,w1,l1⟩:=u64_of zm
 obtain⟨a2,w2,l2⟩:=u64_of zf
 obtain⟨a3,w3,l3⟩:=u64_of zc
 obtain⟨many,hmany⟩: ∃many,many=a1 % 30:=⟨_,rfl⟩
 obtain⟨fs,hfs⟩: ∃fs,fs=a2 % 1000000:=⟨_,rfl⟩
 obtain⟨c,hc⟩: ∃c,c=1+a3 % 16:=⟨_,rfl⟩
 have rem: ∀a b:Nat,b≠0→bInt .rem (.int .u64 ((a:Nat):Int)) (.int .u64 ((b:Nat):Int))=some (.int .u64 ((a % b:Nat):Int)):=fun a b hb=>by
  rw[bInt_rem _ _ _ (by omega)];rfl
 have r1:bInt .rem (.int .u64 ((a1:Nat):Int)) (.int .u64 ((30:Nat):Int))=some (.int .u64 ((many:Nat):Int)):=by rw[hmany];exact rem a1 30 (by decide)
 have r2:bInt .rem (.int .u64 ((a2:Nat):Int)) (.int .u64 ((1000000:Nat):Int))=some (.int .u64 ((fs:Nat):Int)):=by rw[hfs];exact rem a2 1000000 (by decide)
 have r3:bInt .rem (.int .u64 ((a3:Nat):Int)) (.int .u64 ((16:Nat):Int))=some (.int .u64 ((a3 % 16:Nat):Int)):=rem a3 16 (by decide)
 have hm30:many<30:=by omega
 have hf6:fs<1000000:=by omega
 have hc1:1≤c∧c≤16:=by omega
 obtain⟨H1,At,M,e1,p1,q1,q2,t1⟩:=begun27_ok (dy (m+2)) n (by omega) hk
 have N1:=p1.next
 have hr1:(AV.str 1 114)=S [114]:=rfl
 have t00: ¬(((0:Nat):Int)≠((0:Nat):Int)):=by omega
 have lp:=loop_inv (b:=f3zl0 (dy (m+2)) n) many (fun i us H'=>us=[.int .i64 ((c:Nat):Int), .int .i64 ((many:Nat):Int), .int .i64 ((fs:Nat):Int), .ptr At 0, .int .i64 ((i:Nat):Int)]∧ ∃kv,TreeI H' At M (2000*i) kv∧Drc kv [] (oneF c (rowL fs i))∧kv.length≤i∧Prs H H') (fun i us H' hi ⟨hus,kv,ti,di,hlen,P⟩=>by
  subst hus
  have hcc:oneF c (rowL fs i) c=rowL fs i:=by simp[oneF]
  obtain⟨H2,kv2,e2,t2,d2,hl2,s2⟩:=keep_ok m n hm hn (x:=fs+i) (u:=i) (r:=[114]) ti (by omega) (by omega) di hc1.1 hc1.2 (by omega) (by omega) (by simp) (by rw[hcc,rowL_len];omega) (by rw[hcc,rowL_next];omega)
  rw[oneF_keep,rowL_keep]at d2
  refine⟨_,H2, ?_,rfl,kv2,by rw[show 2000*(i+1)=2000*i+2000 by omega];exact t2,d2,by omega,P.fresh s2 fun B hB=>by rcases hB with e | e<;>omega⟩
  have hiI:((i:Nat):Int)< ((many:Nat):Int):=by omega
  have hi1:((i:Nat):Int)+((1:Nat):Int)=((i+1:Nat):Int):=by omega
  have hfi:((fs:Nat):Int)+((i:Nat):Int)=((fs+i:Nat):Int):=by omega
  have hw:IntKind.wrap .u64 ((i:Nat):Int)=((i:Nat):Int):=by rw[wrap_u64];omega
  simp(config:= { maxSteps:=1000000}) (disch:=omega) only[f3zl0,ev,lg,wnt_undef,ew,hiI,hfi,hw,hr1,e2,t00,hi1]) n _ H1 ⟨rfl,[],t1,by
   have:oneF c (rowL fs 0)=fun _=>[]:=by funext d;simp[oneF,rowL]
   rw[this];exact drc_new,by simp,p1⟩ (by omega)
 obtain⟨q,us,H2,e2,rfl,kv,t2,d2,hlen,P2⟩:=lp
 have last:loopK (q+1) (f3zl0 (dy (m+2)) n) [.int .i64 ((c:Nat):Int), .int .i64 ((many:Nat):Int), .int .i64 ((fs:Nat):Int), .ptr At 0, .int .i64 ((many:Nat):Int)] H2=some (.exit 0 [.int .i64 ((c:Nat):Int), .int .i64 ((many:Nat):Int), .int .i64 ((fs:Nat):Int), .ptr At 0],H2):=loop_exit (by simp only[f3zl0,ev,lg,wnt_undef,ew,Int.lt_irrefl])
 have hcc:oneF c (rowL fs many) c=rowL fs many:=by simp[oneF]
 have hrl:=rowL_len fs many
 obtain⟨H3,w,e3,p3,gw,fw⟩:=window_ok m n hm (by omega) t2 (by omega) (by omega) d2 hc1.1 hc1.2 (by rw[hcc,hrl];omega)
 rw[hcc]at gw
 have P3:=P2.trans p3
 have lp2:=loop_inv (b:=f3zl1 (dy (m+2)) n) many (fun i us H'=>us=[.int .i64 ((c:Nat):Int), .int .i64 ((many:Nat):Int), .int .i64 ((fs:Nat):Int), .ptr At 0,w, .int .i64 ((i:Nat):Int)]∧Prs H3 H') (fun i us H' hi ⟨hus,P⟩=>by
  subst hus
  obtain⟨H4,e4,p4⟩:=look_ok m n hm (by omega) (x:=fs+i) (u:=i) ((t2.prs p3).prs P) (by omega) (by omega) d2 hc1.1 hc1.2 (by rw[hcc,hrl];omega) (by omega)
  rw[hcc,rowL_find hi]at e4
  refine⟨_,H4, ?_,rfl,P.trans p4⟩
  have hiI:((i:Nat):Int)< ((many:Nat):Int):=by omega
  have hi1:((i:Nat):Int)+((1:Nat):Int)=((i+1:Nat):Int):=by omega
  have hfi:((fs:Nat):Int)+((i:Nat):Int)=((fs+i:Nat):Int):=by omega
  have hw:IntKind.wrap .u64 ((i:Nat):Int)=((i:Nat):Int):=by rw[wrap_u64];omega
  have bb: ∀a b:Bool,bBool .neq (.bool a) (.bool b)=some (.bool (!(a==b))):=fun a b=>by cases a<;>cases b<;>rfl
  by_cases h8:many - 8≤i
  ·rw[if_pos h8]at e4
   simp only[lookV]at e4
   have hge:((many:Nat):Int) - ((8:Nat):Int)≤((i:Nat):Int):=by omega
   have hmx:mx2 (.int .i64 ((0:Nat):Int)) (.int .i64 (((many:Nat):Int) - ((8:Nat):Int)))=some (.int .i64 ((many - 8:Nat):Int)):=by
    simp only[mx2,ilt_eq]
    by_cases h:((0:Nat):Int)< ((many:Nat):Int) - ((8:Nat):Int)
    ·simp only[h,decide_true,cond_true];congr 2;omega
    ·simp only[h,decide_false,cond_false];congr 2;omega
   have hs2:((i:Nat):Int) - ((many - 8:Nat):Int)=((i - (many - 8):Nat):Int):=by omega
   have gw':Kws H4 w (rowL fs many):=Grow.mono gw (P.trans p4) fun _ _ x=>x
   obtain⟨A,o,i1,i2,_,_⟩:=gw'.at (i:=i - (many - 8)) (by rw[hrl];omega)
   have hgx:(rowL fs many)[i - (many - 8)]'(by rw[hrl];omega)=gL fs i:=by rw[rowL_get];congr 1;omega
   rw[hgx]at i2
   have i2':ld1 (.ptr A (o+0)) H4=some (.int .i64 ((fs+i:Nat):Int)):=i2
   simp(config:= { maxSteps:=1000000}) (disch:=omega) only[f3zl1,ev,lg,wnt_undef,ew,hiI,hfi,hw,e4,pExtract,nth,hge,bb,beq_self_eq_true,Bool.not_true,hmx,hs2,i1,i2',ne_eq,not_true_eq_false,hi1]
  ·rw[if_neg h8]at e4
   simp only[lookV]at e4
   have hge: ¬((many:Nat):Int) - ((8:Nat):Int)≤((i:Nat):Int):=by omega
   have h50: ¬((5:Nat):Int)=((0:Nat):Int):=by omega
   simp(config:= { maxSteps:=1000000}) (disch:=omega) only[f3zl1,ev,lg,wnt_undef,ew,hiI,hfi,hw,e4,pExtract,nth,hge,h50,bb,beq_self_eq_true,Bool.not_true,hi1]) n _ H3 ⟨rfl,Stp.refl p3.ok⟩ (by omega)
 obtain⟨q2,us,H4,e4,rfl,P4⟩:=lp2
 have last2:loopK (q2+1) (f3zl1 (dy (m+2)) n) [.int .i64 ((c:Nat):Int), .int .i64 ((many:Nat):Int), .int .i64 ((fs:Nat):Int), .ptr At 0,w, .int .i64 ((many:Nat):Int)] H4=some (.exit 2 [],H4):=loop_exit (by simp only[f3zl1,ev,lg,wnt_undef,ew,Int.lt_irrefl])
 refine⟨H4, ?_,P3.trans P4⟩
 have hadd:((1:Nat):Int)+((a3 % 16:Nat):Int)=((c:Nat):Int):=by omega
 have hmn:mn2 (.int .i64 ((many:Nat):Int)) (.int .i64 ((8:Nat):Int))=some (.int .i64 ((min many 8:Nat):Int)):=by
  simp only[mn2,ilt_eq]
  by_cases h:((8:Nat):Int)< ((many:Nat):Int)
  ·simp only[h,decide_true,cond_true];congr 2;omega
  ·simp only[h,decide_false,cond_false];congr 2;omega
 have hlw:lnSl w=some (.int .i64 ((min many 8:Nat):Int)):=by rw[gw.row.lnSl,hrl]
 simp(config:= { maxSteps:=1000000}) (disch:=omega) only[f3z,ev,lg,wnt_undef,ew,e1,w1,w2,w3,r1,r2,r3,hadd,zok,cq,e2,last,f3zb3,e3,pExtract,nth,t00,hlw,hmn,ne_eq,not_true_eq_false,e4,last2,f3zb2]
end Go.Eng.Sh
end
section
namespace Go.Proofs.YtngkjhifpekkcaaGreat.drcLast
open Go.ChangeShapes Go.WideShapes Go.ChangeAt Go.RowKit
theorem own:ownKnob Tryz.prog.godebug=none:=by kernel_rfl
set_option maxRecDepth 100000 in
theorem contract (H:Type)(enc:TypeId×Value→H)(W:World)(base:Nat)(args:Array Value)(ds gs:List (DataW H))(before:List MemPlace)
  (hval: ∀(j:Nat) t v, Tryz.f3.params[j]? =some t→args[j]? =some v→Value.okWide Tryz.prog W .any base t v)
  (hW:DataW.Whole enc Tryz.prog Tryz.f3.params.toList Rows.drcLastSpec.vars false W args.toList ds gs before):
  Calls Tryz.prog 3 args W fun e W'=> ∃v,e= .returned v∧Rows.drcLastSpec.post enc Tryz.prog Tryz.f3 false true false false W args v W':=by
 have hW':=hW
 obtain⟨p,q,hA0,hV,rfl,hfz,hnd⟩:=hW
 have hA:DataW.TrodAll enc Tryz.prog W 0 (fun _=>true) true Tryz.f3.params.toList args.toList ds p:=hA0
 rw[Tryz.params3]at hA hval
 obtain⟨v0,vs0,d0,ds0,p0,q0,hargs,rfl,rfl,h0,r0⟩:=trodAll_cons hA
 obtain⟨v1,vs1,d1,ds1,p1,q1,rfl,rfl,rfl,h1,r1⟩:=trodAll_cons r0
 obtain⟨v2,vs2,d2,ds2,p2,q2,rfl,rfl,rfl,h2,r2⟩:=trodAll_cons r1
 obtain⟨rfl,rfl,rfl⟩:=trodAll_nil r2
 obtain rfl:args= #[v0,v1,v2]:=by cases args;simp_all
 obtain⟨rfl,rfl⟩:=trodVars_none hV
 obtain⟨a0,rfl,rfl,rfl,w0⟩:=open_int Tryz.underlying3 (hval 0 3 v0 rfl rfl) h0
 obtain⟨a1,rfl,rfl,rfl,w1⟩:=open_int Tryz.underlying3 (hval 1 3 v1 rfl rfl) h1
 obtain⟨a2,rfl,rfl,rfl,w2⟩:=open_int Tryz.underlying3 (hval 2 3 v2 rfl rfl) h2
 clear hA0
 obtain⟨m,hm⟩: ∃m:Nat,800000000≤m:=⟨_,Nat.le_refl _⟩
 obtain⟨H',hrun,hP⟩:=Go.Eng.Sh.drcLast_walk m (m+2) hm (by omega) (Go.Eng.H0_ok W) a0 a1 a2
 have hcall:=Go.Eng.calls_param (Go.Eng.Sh.f3z_ok (Go.Eng.Sh.dy_ok (m+2)) (m+2)) W (args:= #[.int .i64 a0, .int .i64 a1, .int .i64 a2]) (H':=H') hrun (fun A hA=>hP.keep A hA (fun x=>x))
 refine hcall.mono fun e W' ⟨he,hb⟩=> ?_
 subst he
 simp only[List.append_nil]at hW'
 refine⟨_,rfl,_,_,_,[],[],[],hW', ?_, ?_,rfl,hb.frame _,fun h=>by cases h⟩
 ·exact trodAll_cons_mk (shut_bool Tryz.underlying4 _) trodAll_mk0
 ·exact trodAll_cons_mk (shut_int Tryz.underlying3 w0) (trodAll_cons_mk (shut_int Tryz.underlying3 w1) (trodAll_cons_mk (shut_int Tryz.underlying3 w2) trodAll_mk0))
set_option maxRecDepth 100000 in
theorem lifted (os:Os)(started:os.Started)(H:Type)(enc:TypeId×Value→H):
  ReturnsInHanded {} Tryz.checked os 3 .any (Rows.drcLastSpec.pre6 enc Tryz.prog Tryz.f3 Rows.drcLastRow.domain false) (Rows.drcLastSpec.post enc Tryz.prog Tryz.f3 false true false false):=by
 refine returnsInHanded_of_change (C:= Tryz.checked) own started (by kernel_rfl) Tryz.func3
  (ChangeSpec.witness6 (enc:=enc) (C:= Tryz.checked) false ⟨#[], #[.int .i64 0, .int .i64 0, .int .i64 0],[]⟩ 8 (by kernel_rfl) (by kernel_rfl) (by kernel_rfl) (by kernel_rfl)) ?_
 intro W base args ds gs before hval hW _ _
 exact contract H enc W base args ds gs before hval hW
theorem holds:Rows.DrcLastSaid:=
 OpenClaim.holds_of_wide 3 Tryz.f3 rfl rfl rfl rfl rfl rfl rfl ⟨rfl,rfl,rfl,rfl,rfl⟩ rfl rfl rfl rfl rfl (by kernel_rfl) Tryz.func3 (by kernel_rfl)
  (of_decide_eq_true (by kernel_rfl)) (by unfold Func.isWrapper;first | (rw[if_pos (by decide+kernel)];kernel_rfl) | (rw[if_neg (by decide+kernel)];exact⟨rfl,rfl⟩))
  (fun os started H enc _=>lifted os started H enc)
end Go.Proofs.YtngkjhifpekkcaaGreat.drcLast
namespace Go.Proofs.YtngkjhifpekkcaaGreat
theorem drcLast_holds:Rows.DrcLastSaid:=drcLast.holds
end Go.Proofs.YtngkjhifpekkcaaGreat
end
