/- A checked evaluator for the program, and what it tells, part 7: no condition. -/
import Derived.Test.YtngkjhifpekkcaaGreatO6
import Derived.Test.YtngkjhifpekkcaaGreatRows
import Derived.ProofKit
import Derived.OpenShut
import Derived.Carry
set_option linter.all false
set_option linter.unusedVariables false
set_option linter.unusedSimpArgs false
set_option maxHeartbeats 8000000
section
namespace Go.Eng
open Go.Nd (Kvs Srt)
theorem ltS_zero: ∀(a k:Str),ltS a (k++[0])=(decide (a=k)||ltS a k)
 | [],[]=>rfl
 | [],_::_=>by simp[ltS,Op.bytesLess]
 | a::l,[]=>by
  have h:l.length=l.length:=rfl
  cases l with
  | nil=>simp[ltS,Op.bytesLess]
  | cons b l=>simp[ltS,Op.bytesLess]
 | a::l,b::k=>by
  have ih:=ltS_zero l k
  simp only[ltS,List.cons_append,Op.bytesLess]at ih⊢
  rw[ih]
  by_cases e:a=b
  ·subst e;simp
  ·have hb:(a==b)=false:=by simp[e]
   simp[e,hb]
theorem eqA_pair (a b c d:Str):eqA [2,2] (.agg [S a,S b]) (.agg [S c,S d])=some (decide (a=c∧b=d)):=by
 have h: ∀x y:Str,cellEq 2 (S x) (S y)=some (decide (x=y)):=fun x y=>by
  show(some (Nat.beq x.length y.length&&Nat.beq (pack x) (pack y)):Option Bool)=_
  rw[S_eq]
 simp only[eqA,lenL,Nat.succ_eq_add_one,Nat.beq_refl,List.length_cons,List.length_nil,Bool.and_self,cond_true,cellsEq,h]
 by_cases e1:a=c
 ·by_cases e2:b=d
  ·simp[e1,e2]
  ·simp[e1,e2]
 ·simp[e1]
end Go.Eng
namespace Go.Eng.Sh
open Go.Nd (Ptr sumL leafOf Kvs Srt mayK putP delP lookP)
open Go.Bt
def prV (p:Str×Str):List AV:=[S p.1,S p.2]
def Prs2 (H:AH)(v:AV)(l:Kvs):Prop:=Rw 2 H v l.length (l.flatMap prV)
theorem flat_at2: ∀(l:Kvs) (i:Nat) (h:i<l.length),((l.flatMap prV).drop (i*2)).take 2=prV l[i]
 | p::l,0,_=>rfl
 | p::l,i+1,h=>by
  rw[List.flatMap_cons,show(i+1)*2=2+i*2 by omega, ← List.drop_drop]
  exact flat_at2 l i (by simpa using h)
theorem Prs2.at {H:AH}{v:AV}{l:Kvs}(h:Prs2 H v l){i:Nat}(hi:i<l.length): ∃A o,(∀κ (z:Int),z=(i:Int)→ixSl 2 v (.int κ z)=some (.ptr A o))∧Eng.ldN 2 (.ptr A o) H=some (.agg (prV l[i]))∧Eng.ld1 (.ptr A o) H=some (S l[i].1)∧Eng.ld1 (.ptr A (o+1)) H=some (S l[i].2):=by
 obtain⟨A,o,c,e,sz,g,h1,h2,h3,h4,h5⟩:=Rw.at h hi
 rw[flat_at2 l i hi]at h5
 have g0:c[o]? =some (S l[i].1):=by
  have:=congrArg (fun x=>x[0]?) h5
  simpa[prV]using this
 have g1:c[o+1]? =some (S l[i].2):=by
  have:=congrArg (fun x=>x[1]?) h5
  simpa[prV]using this
 exact⟨A,o,h1,by rw[ldN_ptr h2 h4,h5],ld1_ptr h2 g0,ld1_ptr h2 g1⟩
theorem has_ok (m n:Nat)(hn:300000000≤n){H:AH}{At M L:Nat}{kv:Kvs}{key value:Str}(t:TreeI H At M L kv)(hL:L≤90000000)(hkv:kv.length≤1000000000)(hk:mayK key=true)(hl:lookP key kv=some value):
  ∃H',f33 (dy m) n [.ptr At 0,S key,S value, .bool true] H=some (.bool true,H')∧Prs H H':=by
 obtain⟨H1,e1,p1⟩:=getT_ok m n hn key t hL hkv
 rw[if_pos hk,hl]at e1
 refine⟨H1, ?_,p1⟩
 have e: ∀a:Str,bStr .eql (S a) (S a)=some (.bool true):=fun a=>by rw[bStr_eql];simp
 simp(config:= { maxSteps:=1000000}) (disch:=omega) only[f33,ev,lg,wnt_undef,ew,e1,geR,pExtract,nth,e]
def behind (kv:Kvs):Nat→Str
 | 0=>[]
 | i+1=>(kv.getD i ([],[])).1++[0]
theorem ltS_nil: ∀a:Str,ltS a []=false
 | []=>rfl
 | _::_=>rfl
theorem next_behind: ∀ {kv:Kvs},Srt kv→ ∀i,i≤kv.length→nextP (behind kv i) kv=kv[i]?
 | [],_,i,hi=>by
  obtain rfl:i=0:=by simpa using hi
  rfl
 | p::kv,h,0,_=>by simp[nextP,behind,ltS_nil]
 | p::kv,h,1,_=>by
  obtain⟨h1,h2⟩:=h
  simp only[nextP,behind,List.getD_cons_zero,List.find?_cons,ltS_zero,decide_true,Bool.true_or,Bool.not_true]
  cases kv with
  | nil=>rfl
  | cons r kv=>
   have:=h1 r (List.mem_cons_self ..)
   have e1:decide (r.1=p.1)=false:=by simpa using(ltS_ne this).symm
   simp[ltS_zero,e1,ltS_asymm this]
 | p::kv,h,i+2,hi=>by
  obtain⟨h1,h2⟩:=h
  have ih:=next_behind h2 (i+1) (by simpa using hi)
  have hi':i<kv.length:=by simp at hi;omega
  have e:behind (p::kv) (i+2)=behind kv (i+1):=by simp[behind]
  rw[e]
  have hlow:ltS p.1 (behind kv (i+1))=true:=by
   simp only[behind,ltS_zero]
   rw[List.getD_eq_getElem?_getD,List.getElem?_eq_getElem hi',Option.getD_some,h1 _ (List.getElem_mem hi')]
   simp
  simp only[nextP,List.find?_cons,hlow,Bool.not_true]at ih⊢
  simpa using ih
theorem look_at: ∀ {kv:Kvs},Srt kv→ ∀(i:Nat) (h:i<kv.length),lookP kv[i].1 kv=some kv[i].2
 | p::kv,_,0,_=>by simp[lookP]
 | p::kv,hs,i+1,h=>by
  have h':i<kv.length:=by simpa using h
  have ih:=look_at hs.2 i h'
  have hl:=hs.1 _ (List.getElem_mem h')
  simp only[List.getElem_cons_succ,lookP]
  rw[if_neg (ltS_ne hl)]
  exact ih
theorem holds_ok (m n:Nat)(hm:200000000≤m)(hn:300000000≤n){H:AH}{At M L:Nat}{kv:Kvs}{v:AV}(t:TreeI H At M L kv)(hL:L≤90000000)(hkv:kv.length≤100000000)(hv:Prs2 H v kv)(hs:Srt kv)(hmay: ∀p∈kv,mayK p.1=true):
  ∃H',f22 (dy (m+2)) n [.ptr At 0,v] H=some (.bool true,H')∧Prs H H':=by
 obtain⟨_,_,_,_,_,_,_,_,_,ti,_⟩:=id t
 have lp:=loop_inv (b:=f22l0 (dy (m+2)) n) kv.length (fun i us H'=>us=[.ptr At 0,v,S (behind kv i), .int .i64 ((i:Nat):Int)]∧Prs H H') (fun i us H' hi ⟨hus,p0⟩=>by
  subst hus
  have t0:=t.prs p0
  obtain⟨H1,e1,p1⟩:=next_ok m n hm hn (behind kv i) t0 hL
  rw[next_behind hs i (by omega),List.getElem?_eq_getElem hi]at e1
  obtain⟨H2,A7,b2,p2,g2,m2,n2⟩:=box p1.ok (.cells [.str 0 0, .str 0 0] 48 1 false)
  obtain⟨H3,e3,g3,s3,n3⟩:=st_all p2.ok g2 (l':=[S kv[i].1,S kv[i].2]) rfl rfl
  have e3':stN 2 (.ptr A7 0) (.agg [S kv[i].1,S kv[i].2]) H2=some (undefA,H3):=e3
  have N1:=p1.next;have N2:=p2.next
  have p3:Prs H' H3:=(p1.trans p2).fresh s3 (fun B hB=>by omega)
  have P3:=p0.trans p3
  have r3:ldN 2 (.ptr A7 0) H3=some (.agg [S kv[i].1,S kv[i].2]):=by rw[ldN_get g3];rfl
  have hv3:Prs2 H3 v kv:=Rw.stp hv P3 (fun _ _ x=>x)
  obtain⟨A,o,i1,i2,i3,i4⟩:=hv3.at hi
  obtain⟨H4,e4,p4⟩:=has_ok (m+2) n hn (t.prs P3) hL (by omega) (hmay _ (List.getElem_mem hi)) (look_at hs i hi)
  have hv4:Prs2 H4 v kv:=Rw.stp hv (P3.trans p4) (fun _ _ x=>x)
  obtain⟨A',o',j1,j2,j3,j4⟩:=hv4.at hi
  have hAA:=(i1 .i64 _ rfl).symm.trans (j1 .i64 _ rfl)
  simp only[Option.some.injEq,AV.ptr.injEq]at hAA
  obtain⟨rfl,rfl⟩:=hAA
  have i3':ld1 (.ptr A (o+0)) H3=some (S kv[i].1):=i3
  have j3':ld1 (.ptr A (o+0)) H4=some (S kv[i].1):=j3
  have hl40:=hmay _ (List.getElem_mem hi)
  simp only[Nd.mayK,Bool.and_eq_true,decide_eq_true_eq]at hl40
  have hadd:bStr .add (S kv[i].1) (.str 1 0)=some (S (kv[i].1++[0])):=bStr_add kv[i].1 [0] (by simp;omega)
  have hbe:behind kv (i+1)=kv[i].1++[0]:=by simp only[behind];rw[List.getD_eq_getElem?_getD,List.getElem?_eq_getElem hi,Option.getD_some]
  have t00: ¬(((0:Nat):Int)≠((0:Nat):Int)):=by omega
  have hiI:((i:Nat):Int)< ((kv.length:Nat):Int):=by omega
  have hpr:prV kv[i]=[S kv[i].1,S kv[i].2]:=rfl
  have heq:eqA [2,2] (.agg [S kv[i].1,S kv[i].2]) (.agg [S kv[i].1,S kv[i].2])=some true:=by rw[eqA_pair];simp
  have hneq:cmpO .neq (some true)=some (.bool false):=rfl
  rw[hpr]at i2
  refine⟨_,H4, ?_,rfl,P3.trans p4⟩
  rw[hbe]
  simp(config:= { maxSteps:=1000000}) (disch:=omega) only[f22l0,ev,lg,wnt_undef,ew,hv.lnSl,hiI,e1,nxR,pExtract,nth,b2,e3',t00,r3,i1,i2,i3',i4,j3',heq,hneq,e4,hadd,Int.natCast_add]) n [.ptr At 0,v, .str 0 0, .int .i64 ((0:Nat):Int)] H ⟨rfl,Stp.refl ti.ok⟩ (by omega)
 obtain⟨k,us,H',e,rfl,p0⟩:=lp
 obtain⟨H1,e1,p1⟩:=next_ok m n hm hn (behind kv kv.length) (t.prs p0) hL
 rw[next_behind hs kv.length (Nat.le_refl _),List.getElem?_eq_none (Nat.le_refl _)]at e1
 obtain⟨H2,A7,b2,p2,g2,m2,n2⟩:=box p1.ok (.cells [.str 0 0, .str 0 0] 48 1 false)
 obtain⟨H3,e3,g3,s3,n3⟩:=st_all p2.ok g2 (l':=[.str 0 0, .str 0 0]) rfl rfl
 have e3':stN 2 (.ptr A7 0) (.agg [.str 0 0, .str 0 0]) H2=some (undefA,H3):=e3
 have N1:=p1.next
 refine⟨H3, ?_,p0.trans ((p1.trans p2).fresh s3 (fun B hB=>by omega))⟩
 have last:loopK (k+1) (f22l0 (dy (m+2)) n) [.ptr At 0,v,S (behind kv kv.length), .int .i64 ((kv.length:Nat):Int)] H'=some (.exit 0 [.ptr At 0,S (behind kv kv.length)],H'):=loop_exit (by simp only[f22l0,ev,lg,wnt_undef,ew,hv.lnSl,Int.lt_irrefl])
 simp(config:= { maxSteps:=1000000}) (disch:=omega) only[f22,ev,lg,wnt_undef,ew,e,last,f22b1,e1,nxR,pExtract,nth,b2,e3']
end Go.Eng.Sh
end
section
namespace Go.Eng
theorem ixArr_int (n A off:Nat)(k:IntKind){z:Int}(i:Nat)(hz:z=(i:Int))(h:i<n):ixArr n 1 (.ptr A off) (.int k z)=some (.ptr A (off+i)):=by
 subst hz
 have n1:=natOf_int k (z:=((i:Nat):Int)) (by omega)
 simp only[Int.toNat_natCast]at n1
 have hb:Nat.blt i n=true:=by rw[Nat.blt_eq];exact h
 simp only[ixArr,n1,hb,cond_true,fN_eq,Nat.mul_one]
end Go.Eng
namespace Go.Eng.Sh
open Go.Nd (Ptr sumL leafOf Kvs Srt mayK putP delP lookP)
open Go.Bt
theorem sput_ok (D:Dyn)(n:Nat){H:AH}(hk:H.ok){A e i:Nat}{c:List AV}{x y:Int}(g:H.h.get A=some (.cells c e 1 false))(hl:c.length=8198)(hi:i<8192)(c0:c[2+i]? =some (.int .u8 ((0:Nat):Int)))(c1:c[8194]? =some (.int .i64 x))(c2:c[8195]? =some (.int .i64 y))(hx:0≤x∧x≤10000)(hy:0≤y∧y≤10000):
  ∃H',f98 D n [.ptr A 0, .int .i64 (i:Nat), .int .u8 ((1:Nat):Int)] H=some (.tuple [],H')∧H'.h.get A=some (.cells (((c.set 8194 (.int .i64 (x - ((1:Nat):Int)))).set 8195 (.int .i64 (y+((1:Nat):Int)))).set (2+i) (.int .u8 ((1:Nat):Int))) e 1 false)∧Stp (fun B=>B=A) H H':=by
 obtain⟨H1,e1,g1,s1,n1⟩:=st_fld hk g (o:=8194) (x:= .int .i64 (x - ((1:Nat):Int))) rfl (by omega)
 obtain⟨H2,e2,g2,s2,n2⟩:=st_fld s1.ok g1 (o:=8195) (x:= .int .i64 (y+((1:Nat):Int))) rfl (by simp;omega)
 obtain⟨H3,e3,g3,s3,n3⟩:=st_fld s2.ok g2 (o:=2+i) (x:= .int .u8 ((1:Nat):Int)) rfl (by simp;omega)
 refine⟨H3, ?_,g3,(s1.trans s2).trans s3⟩
 have r0:ld1 (.ptr A (2+i)) H=some (.int .u8 ((0:Nat):Int)):=ld1_ptr g c0
 have r1:ld1 (.ptr A 8194) H=some (.int .i64 x):=ld1_ptr g c1
 have r2:ld1 (.ptr A 8195) H1=some (.int .i64 y):=ld1_ptr g1 (by rw[List.getElem?_set_ne (by omega)];exact c2)
 have i0:ixArr 8192 1 (.ptr A 2) (.int .i64 ((i:Nat):Int))=some (.ptr A (2+i)):=ixArr_int 8192 A 2 .i64 i rfl hi
 have i1:ixArr 4 1 (.ptr A 8194) (.int .u8 ((0:Nat):Int))=some (.ptr A 8194):=ixArr_int 4 A 8194 .u8 0 rfl (by omega)
 have i2:ixArr 4 1 (.ptr A 8194) (.int .u8 ((1:Nat):Int))=some (.ptr A 8195):=ixArr_int 4 A 8194 .u8 1 rfl (by omega)
 have w1:IntKind.wrap .i64 (x - ((1:Nat):Int))=x - ((1:Nat):Int):=by rw[wrap_i64]<;>omega
 have w2:IntKind.wrap .i64 (y+((1:Nat):Int))=y+((1:Nat):Int):=by rw[wrap_i64]<;>omega
 simp(config:= { maxSteps:=1000000}) (disch:=omega) only[f98,ev,lg,wnt_undef,ew,i0,r0,i1,r1,w1,e1,i2,r2,w2,e2,e3]
theorem rep_one (x:AV): ∀n,rep n [x]=List.replicate n x
 | 0=>rfl
 | n+1=>by rw[rep,rep_one x n,List.replicate_succ];rfl
theorem snew_ok (D:Dyn)(n:Nat)(hn:100≤n){H:AH}(hk:H.ok): ∃H' A,f59 D n [.int .i64 ((512:Nat):Int)] H=some (.tuple [.ptr A 0, .int .i64 ((0:Nat):Int)],H')∧Prs H H':=by
 obtain⟨r,hr⟩: ∃r,r=rep 8192 [AV.int .u8 ((0:Nat):Int)]:=⟨_,rfl⟩
 have hrep:=rep_one (AV.int .u8 ((0:Nat):Int)) 8192
 rw[← hr]at hrep
 have hrl:r.length=8192:=by rw[hrep,List.length_replicate]
 have hr0:r[0]? =some (.int .u8 ((0:Nat):Int)):=by rw[hrep,List.getElem?_replicate];rfl
 have hr1:r[1]? =some (.int .u8 ((0:Nat):Int)):=by rw[hrep,List.getElem?_replicate];rfl
 clear hrep
 obtain⟨z4,hz4⟩: ∃z4,z4=[AV.int .i64 ((0:Nat):Int), .int .i64 ((0:Nat):Int), .int .i64 ((0:Nat):Int), .int .i64 ((0:Nat):Int)]:=⟨_,rfl⟩
 have hb:bldS [(0,1),(1,1),(2,8192),(8194,4)] ([AV.int .i64 ((0:Nat):Int), .int .i64 ((0:Nat):Int)]++r++z4) [(0, .int .i64 ((512:Nat):Int))]=some (.agg ([AV.int .i64 ((512:Nat):Int), .int .i64 ((0:Nat):Int)]++r++z4)):=rfl
 obtain⟨c,hc⟩: ∃c,c=[AV.int .i64 ((512:Nat):Int), .int .i64 ((0:Nat):Int)]++r++z4:=⟨_,rfl⟩
 have hcl:c.length=8198:=by rw[hc,hz4];simp[hrl]
 have g0: ∀i x,i<8192→r[i]? =some x→c[2+i]? =some x:=fun i x hi hx=>by
  rw[hc,List.append_assoc,List.getElem?_append_right (by simp),List.getElem?_append_left (by simp[hrl];omega)]
  simpa using hx
 have g4: ∀i,i<4→c[8194+i]? =some (.int .i64 ((0:Nat):Int)):=fun i hi=>by
  rw[hc,List.getElem?_append_right (by simp[hrl]),hz4]
  have:8194+i - ([AV.int .i64 ((512:Nat):Int), .int .i64 ((0:Nat):Int)]++r).length=i:=by simp[hrl]
  rw[this]
  match i,hi with
  | 0,_=>rfl
  | 1,_=>rfl
  | 2,_=>rfl
  | 3,_=>rfl
 rw[← hc]at hb
 have c2:=g0 0 _ (by omega) hr0
 have c3:=g0 1 _ (by omega) hr1
 have c94:=g4 0 (by omega)
 have c95:=g4 1 (by omega)
 clear g0 g4 hc
 obtain⟨H1,A,b1,p1,g1,m1,n1⟩:=box hk (.cells c 155 1 false)
 obtain⟨H2,e2,g2,s2,n2⟩:=st_fld p1.ok g1 (o:=8194) (x:= .int .i64 ((512:Nat):Int)) rfl (by omega)
 obtain⟨H3,e3,g3,s3⟩:=sput_ok D n s2.ok (i:=0) (x:=((512:Nat):Int)) (y:=((0:Nat):Int)) g2 (by simp[hcl]) (by omega) (by rw[List.getElem?_set_ne (by omega)];exact c2) (by rw[List.getElem?_set_self (by omega)]) (by rw[List.getElem?_set_ne (by omega)];exact c95) (by omega) (by omega)
 obtain⟨H4,e4,g4',s4⟩:=sput_ok D n s3.ok (i:=1) (x:=((512:Nat):Int) - ((1:Nat):Int)) (y:=((0:Nat):Int)+((1:Nat):Int)) g3 (by simp[hcl]) (by omega)
  (by rw[List.getElem?_set_ne (by omega),List.getElem?_set_ne (by omega),List.getElem?_set_ne (by omega),List.getElem?_set_ne (by omega)];exact c3)
  (by rw[List.getElem?_set_ne (by omega),List.getElem?_set_ne (by omega),List.getElem?_set_self (by simp[hcl])])
  (by rw[List.getElem?_set_ne (by omega),List.getElem?_set_self (by simp[hcl])]) (by omega) (by omega)
 have i1:ixArr 4 1 (.ptr A 8194) (.int .u8 ((0:Nat):Int))=some (.ptr A 8194):=ixArr_int 4 A 8194 .u8 0 rfl (by omega)
 refine⟨H4,A, ?_,p1.fresh ((s2.trans s3).trans s4) (fun B hB=>by omega)⟩
 obtain⟨k,rfl⟩: ∃k,n=k+1+1+1:=⟨n - 3,by omega⟩
 have l0:f59l0 D (k+1+1+1) [.ptr A 0, .int .i64 ((0:Nat):Int)] H2=some (.norm [.ptr A 0, .int .i64 ((1:Nat):Int)],H3):=by
  have h02:((0:Nat):Int)< ((2:Nat):Int):=by omega
  have h1:((0:Nat):Int)+((1:Nat):Int)=((1:Nat):Int):=by omega
  simp(config:= { maxSteps:=1000000}) (disch:=omega) only[f59l0,ev,lg,wnt_undef,ew,h02,e3,h1]
 have l1:f59l0 D (k+1+1+1) [.ptr A 0, .int .i64 ((1:Nat):Int)] H3=some (.norm [.ptr A 0, .int .i64 ((2:Nat):Int)],H4):=by
  have h02:((1:Nat):Int)< ((2:Nat):Int):=by omega
  have h1:((1:Nat):Int)+((1:Nat):Int)=((2:Nat):Int):=by omega
  simp(config:= { maxSteps:=1000000}) (disch:=omega) only[f59l0,ev,lg,wnt_undef,ew,h02,e4,h1]
 have l2:f59l0 D (k+1+1+1) [.ptr A 0, .int .i64 ((2:Nat):Int)] H4=some (.exit 0 [.ptr A 0],H4):=by
  simp(config:= { maxSteps:=1000000}) (disch:=omega) only[f59l0,ev,lg,wnt_undef,ew,Int.lt_irrefl]
 have hloop:loopK (k+1+1+1) (f59l0 D (k+1+1+1)) [.ptr A 0, .int .i64 ((0:Nat):Int)] H2=some (.exit 0 [.ptr A 0],H4):=by
  rw[loop_next l0,loop_next l1,loop_exit l2]
 have a1: ¬((512:Nat):Int)< ((64:Nat):Int):=by omega
 have a2: ¬((8192:Nat):Int)< ((512:Nat):Int):=by omega
 simp(config:= { maxSteps:=1000000}) (disch:=omega) only[f59, ← hr,ev,lg,wnt_undef,ew,a1,a2, ← hz4,hb,b1,i1,e2,hloop,f59b1]
end Go.Eng.Sh
end
section
namespace Go.Eng.Sh
open Go.Nd (Ptr sumL leafOf Kvs Srt mayK putP delP lookP)
open Go.Bt
theorem dnew_ok (D:Dyn)(n:Nat){H:AH}(hk:H.ok): ∃H' A,f49 D n [.int .i64 ((512:Nat):Int)] H=some (.tuple [.ptr A 0, .int .i64 ((0:Nat):Int)],H')∧Prs H H':=by
 obtain⟨H1,A1,b1,p1,g1,m1,n1⟩:=box hk (.map [6] [])
 obtain⟨H2,A2,b2,p2,g2,m2,n2⟩:=box p1.ok (.map [6] [])
 obtain⟨H3,A3,b3,p3,g3,m3,n3⟩:=box p2.ok (.cells [.int .i64 ((512:Nat):Int), .map A1, .nilSlice, .map A2, .int .i64 ((0:Nat):Int), .nilSlice, .bool false] 163 1 false)
 refine⟨H3,A3, ?_,(p1.trans p2).trans p3⟩
 have a1: ¬((512:Nat):Int)< ((64:Nat):Int):=by omega
 have a2: ¬((8192:Nat):Int)< ((512:Nat):Int):=by omega
 have bs:bldS [(0,1),(1,1),(2,1),(3,1),(4,1),(5,1),(6,1)] [.int .i64 ((0:Nat):Int), .nilMap, .nilSlice, .nilMap, .int .i64 ((0:Nat):Int), .nilSlice, .bool false] [(0, .int .i64 ((512:Nat):Int)),(1, .map A1),(3, .map A2)]=some (.agg [.int .i64 ((512:Nat):Int), .map A1, .nilSlice, .map A2, .int .i64 ((0:Nat):Int), .nilSlice, .bool false]):=rfl
 simp(config:= { maxSteps:=1000000}) (disch:=omega) only[f49,f94,ev,lg,wnt_undef,ew,a1,a2,mkM,b1,b2,bs,b3]
theorem anew_ok (D:Dyn)(n:Nat){H:AH}(hk:H.ok)(cap:Nat)(hc:cap≤1024): ∃H' x e,f61 D n [.int .i64 (cap:Nat)] H=some (.tuple [x, .int .i64 ((e:Nat):Int)],H')∧Prs H H'∧isCell x=true:=by
 by_cases h0:cap<1
 ·refine⟨H, .nilPtr,1, ?_,Stp.refl hk,rfl⟩
  have a1:((cap:Nat):Int)< ((1:Nat):Int):=by omega
  simp(config:= { maxSteps:=1000000}) (disch:=omega) only[f61,ev,lg,wnt_undef,ew,a1]
 ·obtain⟨H1,A1,b1,p1,g1,m1,n1⟩:=box hk (.map [6] [])
  obtain⟨H2,A2,b2,p2,g2,m2,n2⟩:=box p1.ok (.cells [.nilPtr, .nilPtr, .int .i64 ((0:Nat):Int), .nilPtr, .nilPtr, .int .i64 ((0:Nat):Int), .nilPtr, .nilPtr, .int .i64 ((0:Nat):Int), .nilPtr, .nilPtr, .int .i64 ((0:Nat):Int), .map A1, .int .i64 (cap:Nat), .int .i64 ((0:Nat):Int)] 206 1 false)
  refine⟨H2, .ptr A2 0,0, ?_,p1.trans p2,rfl⟩
  have a1: ¬((cap:Nat):Int)< ((1:Nat):Int):=by omega
  have a2: ¬((1024:Nat):Int)< ((cap:Nat):Int):=by omega
  have bs:bldS [(0,12),(12,1)] [.nilPtr, .nilPtr, .int .i64 ((0:Nat):Int), .nilPtr, .nilPtr, .int .i64 ((0:Nat):Int), .nilPtr, .nilPtr, .int .i64 ((0:Nat):Int), .nilPtr, .nilPtr, .int .i64 ((0:Nat):Int), .nilMap] [(1, .map A1)]=some (.agg [.nilPtr, .nilPtr, .int .i64 ((0:Nat):Int), .nilPtr, .nilPtr, .int .i64 ((0:Nat):Int), .nilPtr, .nilPtr, .int .i64 ((0:Nat):Int), .nilPtr, .nilPtr, .int .i64 ((0:Nat):Int), .map A1]):=rfl
  have bs2:bldS [(0,13),(13,1),(14,1)] [.nilPtr, .nilPtr, .int .i64 ((0:Nat):Int), .nilPtr, .nilPtr, .int .i64 ((0:Nat):Int), .nilPtr, .nilPtr, .int .i64 ((0:Nat):Int), .nilPtr, .nilPtr, .int .i64 ((0:Nat):Int), .nilMap, .int .i64 ((0:Nat):Int), .int .i64 ((0:Nat):Int)] [(0, .agg [.nilPtr, .nilPtr, .int .i64 ((0:Nat):Int), .nilPtr, .nilPtr, .int .i64 ((0:Nat):Int), .nilPtr, .nilPtr, .int .i64 ((0:Nat):Int), .nilPtr, .nilPtr, .int .i64 ((0:Nat):Int), .map A1]),(1, .int .i64 (cap:Nat))]=some (.agg [.nilPtr, .nilPtr, .int .i64 ((0:Nat):Int), .nilPtr, .nilPtr, .int .i64 ((0:Nat):Int), .nilPtr, .nilPtr, .int .i64 ((0:Nat):Int), .nilPtr, .nilPtr, .int .i64 ((0:Nat):Int), .map A1, .int .i64 (cap:Nat), .int .i64 ((0:Nat):Int)]):=rfl
  simp(config:= { maxSteps:=1000000}) (disch:=omega) only[f61,ev,lg,wnt_undef,ew,a1,a2,mkM,b1,bs,bs2,b2]
theorem open_ok (D:Dyn)(n:Nat)(hn:100≤n){H:AH}(hk:H.ok)(Ad od:Nat){c:AV}(hc:isCell c=true): ∃H' At M,f31 D n [.ptr Ad od,c, .agg (ptrV pZ)] H=some (.tuple [.ptr At 0, .int .i64 ((0:Nat):Int)],H')∧Prs H H'∧H.next≤At∧H.next≤M∧TreeI H' At M 0 []:=by
 obtain⟨H1,A5,b1,p1,g1,m1,n1⟩:=box hk (.cells (ptrV pZ) 72 1 false)
 obtain⟨H2,e2,p2⟩:=encPtr_ok D n p1.ok (p:=pZ) rfl (by simp[Nd.sumOk,pZ]) hn
 obtain⟨H3,M,b3,p3,g3,m3,n3⟩:=box p2.ok (.map [10] [])
 obtain⟨H4,At,b4,p4,g4,m4,n4⟩:=box p3.ok (.cells (treeC (.ptr Ad od) c pZ M 0 .nilSlice) 141 1 false)
 have N1:=p1.next;have N2:=p2.next;have N3:=p3.next
 have P12:=p1.trans p2
 refine⟨H4,At,M, ?_,(P12.trans p3).trans p4,by omega,by omega,⟨_,_,_,_,_,[],0,rfl,hc,⟨p4.ok,g4,Prs.get p4 p3.ok g3,trivial,⟨_,_,rfl⟩,by simp⟩,fun s nd h=>by simp[lookN]at h,by simp,by omega, .inl ⟨rfl,rfl⟩⟩⟩
 have r1:ldN 3 (.ptr A5 0) H1=some (.agg (ptrV pZ)):=by rw[ldN_get g1];rfl
 have r2:ldN 3 (.ptr A5 0) H2=some (.agg (ptrV pZ)):=by rw[ldN_get (Prs.get p2 p1.ok g1)];rfl
 have r3:ld1 (.ptr A5 0) H2=some (.int .i64 ((0:Nat):Int)):=by rw[ld1_get (Prs.get p2 p1.ok g1)];rfl
 have t00: ¬(((0:Nat):Int)≠((0:Nat):Int)):=by omega
 have h01: ¬((0:Nat):Int)=((1:Nat):Int):=by omega
 have bs:bldS [(0,1),(1,1),(2,3),(5,1),(6,1),(7,1)] [.nilPtr, .nilPtr, .int .i64 ((0:Nat):Int), .int .i64 ((0:Nat):Int), .int .u64 ((0:Nat):Int), .nilMap, .int .u64 ((0:Nat):Int), .nilSlice] [(0, .ptr Ad od),(1,c),(2, .agg (ptrV pZ)),(3, .map M)]=some (.agg (treeC (.ptr Ad od) c pZ M 0 .nilSlice)):=by
  simp only[bldS,fillA,nthP,cellsA_cell hc];rfl
 simp(config:= { maxSteps:=1000000}) (disch:=omega) only[f31,ev,lg,wnt_undef,ew,b1,cq,r1,e2,pExtract,nth,t00,r3,h01,r2,mkM,b3,bs,b4]
theorem TreeI.lt {H:AH}{At M L:Nat}{kv:Kvs}(h:TreeI H At M L kv):At<H.next∧M<H.next:=by
 obtain⟨d,c,_,root,es,q,last,rfl,hc,ti,_⟩:=h
 exact⟨ti.ok.lt ti.gT,ti.ok.lt ti.gM⟩
theorem begun_ok (D:Dyn)(n:Nat)(hn:100≤n){H:AH}(hk:H.ok)(cap:Nat)(hc:cap≤1024): ∃H' W At M x y z,f19 D n [.int .i64 (cap:Nat)] H=some (.ptr W 0,H')∧Prs H H'∧H.next≤W∧H.next≤At∧H.next≤M∧At<W∧M<W∧H'.h.get W=some (.cells (x::y:: .ptr At 0::z) 44 1 false)∧TreeI H' At M 0 []:=by
 obtain⟨H1,A1,e1,p1⟩:=dnew_ok D n hk
 obtain⟨H2,A2,e2,p2⟩:=snew_ok D n hn p1.ok
 obtain⟨H3,x,er,e3,p3,hx⟩:=anew_ok D n p2.ok cap hc
 obtain⟨H4,At,M,e4,p4,m4,m4',ti⟩:=open_ok D n hn p3.ok A1 0 hx
 obtain⟨H5,W,b5,p5,g5,m5,n5⟩:=box p4.ok (.cells [.ptr A1 0, .ptr A2 0, .ptr At 0, .int .i64 ((0:Nat):Int), .nilSlice] 44 1 false)
 have N1:=p1.next;have N2:=p2.next;have N3:=p3.next;have N4:=p4.next
 refine⟨H5,W,At,M,_,_,_, ?_,(((p1.trans p2).trans p3).trans p4).trans p5,by omega,by omega,by omega,by have:=ti.lt;omega,by have:=ti.lt;omega,g5,ti.prs p5⟩
 have t00: ¬(((0:Nat):Int)≠((0:Nat):Int)):=by omega
 have bz:bldS [(0,1),(1,1),(2,1)] [.int .i64 ((0:Nat):Int), .int .i64 ((0:Nat):Int), .int .u64 ((0:Nat):Int)] []=some (.agg (ptrV pZ)):=rfl
 have bs:bldS [(0,1),(1,1),(2,1),(3,1),(4,1)] [.nilPtr, .nilPtr, .nilPtr, .int .i64 ((0:Nat):Int), .nilSlice] [(0, .ptr A1 0),(1, .ptr A2 0),(2, .ptr At 0)]=some (.agg [.ptr A1 0, .ptr A2 0, .ptr At 0, .int .i64 ((0:Nat):Int), .nilSlice]):=rfl
 simp(config:= { maxSteps:=1000000}) (disch:=omega) only[f19,ev,lg,wnt_undef,ew,e1,e2,e3,pExtract,nth,bz,e4,t00,bs,b5]
end Go.Eng.Sh
end
section
namespace Go.Eng.Sh
open Go.Nd (Ptr sumL leafOf Kvs Srt mayK putP delP lookP)
open Go.Bt
theorem where_lt {k:Str} : ∀ {l:Kvs},Srt l→ ∀j,j<Nd.whereN (leafOf l) k→ ∃h:j<l.length,ltS l[j].1 k=true
 | [],_,j,h=>by simp[Nd.whereN,leafOf]at h
 | (a,b)::l,hs,j,h=>by
  rw[Nd.where_cons hs]at h
  split at h
  ·rename_i ha
   cases j with
   | zero=>exact⟨by simp,ha⟩
   | succ j=>
    obtain⟨h1,h2⟩:=where_lt (k:=k) hs.2 j (by omega)
    exact⟨by simpa using h1,by simpa using h2⟩
  ·omega
theorem where_ge {k:Str} : ∀ {l:Kvs},Srt l→ ∀h:Nd.whereN (leafOf l) k<l.length,ltS l[Nd.whereN (leafOf l) k].1 k=false:=fun {l} hs h=>by
 have h1:=nextP_leaf (key:=k) hs
 rw[List.getElem?_eq_getElem h]at h1
 have:=List.find?_some h1
 simpa using this
theorem put_split {k v:Str} : ∀ {l:Kvs},Srt l→(∀p∈l,p.1≠k)→putP k v l=l.take (Nd.whereN (leafOf l) k)++(k,v)::l.drop (Nd.whereN (leafOf l) k)
 | [],_,_=>rfl
 | (a,b)::l,hs,hn=>by
  have hak:a≠k:=hn (a,b) (List.mem_cons_self ..)
  have ih:=put_split (v:=v) hs.2 fun p hp=>hn p (List.mem_cons_of_mem _ hp)
  rw[Nd.where_cons hs]
  simp only[putP]
  cases ha:ltS a k with
  | true=>
   have h2:ltS k a=false:=ltS_asymm ha
   simp[h2,ih,Ne.symm hak,hak]
  | false=>
   have h2:ltS k a=true:=by
    cases hb:ltS k a with
    | true=>rfl
    | false=>exact absurd (ltS_tri ha hb) hak
   simp[h2,Ne.symm hak,hak]
theorem put_same {k v:Str} : ∀ {l:Kvs},Srt l→lookP k l=some v→putP k v l=l
 | [],_,h=>by simp[lookP]at h
 | (a,b)::l,hs,h=>by
  simp only[lookP]at h
  simp only[putP]
  by_cases e:a=k
  ·subst e
   rw[if_pos rfl]at h
   simp only[Option.some.injEq]at h;subst h
   simp[ltS_irrefl]
  ·rw[if_neg e]at h
   have ih:=put_same hs.2 h
   have hm:ltS a k=true:=by
    cases hx:l.find? (fun p=>p.1==k)with
    | none=>
     have:lookP k l=none:=Nd.look_none fun p hp e2=>by
      have:=List.find?_eq_none.1 hx p hp
      simp[e2]at this
     rw[this]at h;cases h
    | some p=>
     have h1:=List.find?_some hx
     have h2:=hs.1 p (List.mem_of_find?_eq_some hx)
     simp only[beq_iff_eq]at h1
     rw[← h1];exact h2
   simp[hm,ih,e]
theorem look_not {k:Str}{l:Kvs}(h:lookP k l=none): ∀p∈l,p.1≠k:=by
 induction l with
 | nil=>simp
 | cons q l ih=>
  obtain⟨a,b⟩:=q
  simp only[lookP]at h
  split at h
  ·cases h
  ·rename_i e
   intro p hp
   rcases List.mem_cons.1 hp with rfl | hp
   ·exact e
   ·exact ih h p hp
def putAll (f:Str→Str):List Str→Kvs→Kvs
 | [],l=>l
 | k::ks,l=>putAll f ks (if mayK k then putP k (f k) l else l)
theorem putAll_srt (f:Str→Str): ∀(ks:List Str) {l:Kvs},Srt l→Srt (putAll f ks l)
 | [],_,h=>h
 | k::ks,l,h=>putAll_srt f ks (by split;exact Nd.srt_put k (f k) h;exact h)
theorem putAll_look (f:Str→Str)(x:Str): ∀(ks:List Str) (l:Kvs),lookP x (putAll f ks l)=if x∈ks∧mayK x=true then some (f x)else lookP x l
 | [],l=>by simp[putAll]
 | k::ks,l=>by
  rw[putAll,putAll_look f x ks]
  by_cases h1:x∈ks∧mayK x=true
  ·rw[if_pos h1,if_pos ⟨List.mem_cons_of_mem _ h1.1,h1.2⟩]
  ·rw[if_neg h1]
   by_cases h2:x=k
   ·subst h2
    by_cases h3:mayK x=true
    ·rw[if_pos h3,if_pos ⟨List.mem_cons_self ..,h3⟩,Nd.look_put];simp
    ·rw[if_neg h3,if_neg (fun h=>h3 h.2)]
   ·have h4: ¬(x∈k::ks∧mayK x=true):=fun h=>by
     rcases List.mem_cons.1 h.1 with e | e
     ·exact h2 e
     ·exact h1 ⟨e,h.2⟩
    rw[if_neg h4]
    split
    ·rw[Nd.look_put,if_neg h2]
    ·rfl
theorem putAll_snoc (f:Str→Str)(k:Str): ∀(ks:List Str) (l:Kvs),putAll f (ks++[k]) l=if mayK k then putP k (f k) (putAll f ks l)else putAll f ks l
 | [],_=>rfl
 | _::ks,l=>by rw[List.cons_append,putAll,putAll_snoc f k ks,putAll]
theorem putAll_may (f:Str→Str): ∀(ks:List Str) {l:Kvs},(∀p∈l,mayK p.1=true)→ ∀p∈putAll f ks l,mayK p.1=true
 | [],_,h=>h
 | k::ks,l,h=>putAll_may f ks fun p hp=>by
  split at hp
  ·rename_i hk
   rcases Nd.mem_put hp with rfl | hp
   ·exact hk
   ·exact h p hp
  ·exact h p hp
theorem putAll_len (f:Str→Str): ∀(ks:List Str) {l:Kvs},Srt l→(putAll f ks l).length≤l.length+ks.length
 | [],_,_=>by simp[putAll]
 | k::ks,l,h=>by
  rw[putAll]
  have h1:=Nd.len_put k (f k) h
  have h2:=putAll_len f ks (l:=if mayK k then putP k (f k) l else l) (by split;exact Nd.srt_put k (f k) h;exact h)
  have h3:(if mayK k then putP k (f k) l else l).length≤l.length+1:=by
   split
   ·rw[h1];split<;>omega
   ·omega
  simp only[List.length_cons];omega
end Go.Eng.Sh
end
section
namespace Go.Eng
theorem Grow.stk {k e n:Nat}{H:AH}{v:AV}{l:List AV}(h:Grow k e H v n l): ∃e',Stk k e' H v n l:=by
 rcases h with⟨h0,⟨rfl,rfl⟩ | ⟨A,rfl,hA,hg⟩⟩ | ⟨h0,A,e',g,rfl,hA,hg⟩
 ·exact⟨e,h0, .inl ⟨rfl,rfl⟩⟩
 ·exact⟨e,h0, .inr ⟨A,1,l,true,n,rfl,hA,hg,h0,Nat.le_refl _,List.take_of_length_le (by omega), .inr ⟨rfl,rfl⟩⟩⟩
 ·exact⟨e',h0, .inr ⟨A,2*n,l,g,n,rfl,hA,hg,h0,Nat.le_refl _,List.take_of_length_le (by omega), .inl rfl⟩⟩
theorem Grow.hi {k e n i:Nat}{H:AH}{v:AV}{l:List AV}(h:Grow k e H v n l)(hpos:0<k)(hi:i≤n): ∃r,slSl k v none (some (.int .i64 (i:Nat))) none H=some r∧Rw k H r i (l.take (i*k)):=by
 obtain⟨e',hs⟩:=h.stk
 obtain⟨r,h1,h2,_⟩:=hs.cut hpos hi .i64
 exact⟨r,h1,h2.row⟩
end Go.Eng
namespace Go.Eng.Sh
open Go.Nd (Ptr sumL leafOf Kvs Srt mayK putP delP lookP)
open Go.Bt
theorem flat_take2: ∀(l:Kvs) (i:Nat),(l.flatMap prV).take (i*2)=(l.take i).flatMap prV
 | [],i=>by simp
 | p::l,0=>by simp
 | p::l,i+1=>by
  rw[List.flatMap_cons,List.take_succ_cons,List.flatMap_cons, ← flat_take2 l i,show(i+1)*2=2+i*2 by omega,List.take_append,show(prV p).length=2 from rfl,List.take_of_length_le (show(prV p).length≤2+i*2 by show 2≤_;omega),show 2+i*2 - 2=i*2 by omega]
theorem flat_drop2: ∀(l:Kvs) (i:Nat),(l.flatMap prV).drop (i*2)=(l.drop i).flatMap prV
 | [],i=>by simp
 | p::l,0=>by simp
 | p::l,i+1=>by
  rw[List.flatMap_cons,List.drop_succ_cons, ← flat_drop2 l i,show(i+1)*2=2+i*2 by omega, ← List.drop_drop]
  rfl
theorem flat_cells2 (l:Kvs):allCells (l.flatMap prV)=true:=by
 rw[allCells_mem]
 intro x hx
 obtain⟨p,_,hx⟩:=List.mem_flatMap.1 hx
 simp only[prV,List.mem_cons,List.not_mem_nil,or_false]at hx
 rcases hx with rfl | rfl<;>rfl
def PrG (H:AH)(v:AV)(l:Kvs):Prop:=Grow 2 48 H v l.length (l.flatMap prV)∧(l=[]→v= .nilSlice)
theorem PrG.prs {H H':AH}{v:AV}{l:Kvs}(h:PrG H v l)(s:Prs H H'):PrG H' v l:=⟨h.1.mono s (fun _ _ x=>x),h.2⟩
theorem PrG.row {H:AH}{v:AV}{l:Kvs}(h:PrG H v l):Prs2 H v l:=h.1.row
theorem lo2 {H:AH}{v:AV}{l:Kvs}(h:PrG H v l){i:Nat}(hi:i≤l.length): ∃r,slSl 2 v (some (.int .i64 (i:Nat))) none none H=some r∧Prs2 H r (l.drop i):=by
 by_cases hlt:i<l.length
 ·obtain⟨r,e1,w,_⟩:=slSl_lo h.1 (by decide) hlt .i64
  rw[flat_drop2]at w
  exact⟨r,e1,by rw[Prs2,List.length_drop];exact w⟩
 ·obtain rfl:i=l.length:=by omega
  by_cases h0:0<l.length
  ·obtain⟨r,e1,w⟩:=slSl_end h.1 (by decide) h0 .i64
   exact⟨r,e1,by rw[List.drop_length];exact w⟩
  ·have hl:l=[]:=List.eq_nil_of_length_eq_zero (by omega)
   have hv:=h.2 hl
   subst hl;subst hv
   exact⟨.nilSlice,rfl,Rw.nil _ _⟩
theorem ins_ok {H:AH}{v:AV}{l:Kvs}(hk:H.ok)(h:PrG H v l){j:Nat}(hj:j≤l.length)(hl:l.length≤100000000)(a x:Str):
  ∃H1 A1 r1 r2 w1 H2 A2 H3 w2 H4 w3 H5,(∀(mk:Nat→AV) (K:AV→AH→Rs),bA (some (.cells [] 48 2 false,mk)) H K=K (mk A1) H1)∧slSl 2 v none (some (.int .i64 (j:Nat))) none H1=some r1∧slSl 2 v (some (.int .i64 (j:Nat))) none none H1=some r2∧
   apP 48 2 32 (.slice A1 0 0 0) r1 H1=some (w1,H2)∧slSl 2 v (some (.int .i64 (j:Nat))) none none H2=some r2∧aveq r2 r2=true∧(∀(mk:Nat→AV) (K:AV→AH→Rs),bA (some (.cells [S a,S x] 48 2 false,mk)) H2 K=K (mk A2) H3)∧
   apP 48 2 32 w1 (.slice A2 0 1 2) H3=some (w2,H4)∧slSl 2 v (some (.int .i64 (j:Nat))) none none H4=some r2∧apP 48 2 32 w2 r2 H4=some (w3,H5)∧Prs H H1∧Prs H H2∧Prs H H5∧PrG H5 w3 (l.take j++(a,x)::l.drop j):=by
 obtain⟨H1,A1,b1,p1,g1,m1,n1⟩:=box hk (.cells [] 48 2 false)
 have h1:=h.prs p1
 obtain⟨r1,c1,q1⟩:=h1.1.hi (by decide) hj
 obtain⟨r2,c2,q2⟩:=lo2 h1 hj
 rw[flat_take2]at q1
 have G1:Grow 2 48 H1 (.slice A1 0 0 0) 0 []:= .inr ⟨rfl,A1,48,false,rfl,n1,g1⟩
 obtain⟨w1,H2,e2,G2,s2,f2⟩:=G1.app (bytes:=32) p1.ok (by decide) q1.srcOf q1.len (flat_cells2 _) (by omega) (by decide)
 have N1:=p1.next;have N2:=s2.next
 have P2:Prs H H2:=p1.fresh s2 (fun B hB=>by rw[Blk.slice.1 hB];exact m1)
 have h2:=h.prs P2
 obtain⟨H3,A2,b3,p3,g3,m3,n3⟩:=box s2.ok (.cells [S a,S x] 48 2 false)
 have hsrc:srcOf 2 (.slice A2 0 1 2) H3=some (1,[S a,S x]):=by simp only[srcOf,g3];rfl
 obtain⟨w2,H4,e4,G4,s4,f4⟩:=(G2.mono p3 (fun _ _ x=>x)).app (bytes:=32) (m:=1) (new:=[S a,S x]) p3.ok (by decide) hsrc rfl rfl (by omega) (by decide)
 have N3:=p3.next;have N4:=s4.next
 have fw1: ∀B,Blk w1 B→H.next≤B:=fun B hB=>by
  rcases f2 B hB with e | e
  ·rw[Blk.slice.1 e];exact m1
  ·omega
 have P4:Prs H H4:=(P2.trans p3).fresh s4 fw1
 have h4:=h.prs P4
 have q24:Prs2 H4 r2 (l.drop j):=by
  have s14:Stp (fun B=>H.next≤B) H1 H4:=⟨s4.ok,by omega,fun B hB hS=>by
   rw[P4.keep B (by omega) (fun x=>x),p1.keep B (by omega) (fun x=>x)]⟩
  exact Rw.stp q2 s14 (fun B hB hge=>by
   have:=h.1.lt (slSl_blk c2 B hB);omega)
 obtain⟨w3,H5,e5,G5,s5,f5⟩:=G4.app (bytes:=32) s4.ok (by decide) q24.srcOf q24.len (flat_cells2 _) (by simp;omega) (by decide)
 have fw2: ∀B,Blk w2 B→H.next≤B:=fun B hB=>by
  rcases f4 B hB with e | e
  ·exact fw1 B e
  ·omega
 have same: ∀ {H':AH},PrG H' v l→slSl 2 v (some (.int .i64 (j:Nat))) none none H'=some r2:=fun {H'} h'=>by
  rw[slSl_same h1.1 h'.1 (by decide)];exact c2
 refine⟨H1,A1,r1,r2,w1,H2,A2,H3,w2,H4,w3,H5,b1,c1,c2,e2,same h2,aveq_row q2,b3,e4,same h4,e5,p1,P2,P4.fresh s5 fw2, ?_,fun e=>by simp at e⟩
 have hlen:0+j+1+(l.drop j).length=(l.take j++(a,x)::l.drop j).length:=by
  simp only[List.length_append,List.length_take,List.length_cons,List.length_drop];omega
 rw[hlen]at G5
 have hfl:[]++(l.take j).flatMap prV++[S a,S x]++(l.drop j).flatMap prV=(l.take j++(a,x)::l.drop j).flatMap prV:=by
  simp[prV]
 rw[hfl]at G5
 exact G5
end Go.Eng.Sh
end
section
namespace Go.Eng.Sh
open Go.Nd (Ptr sumL leafOf Kvs Srt mayK putP delP lookP)
open Go.Bt
theorem short_ok (D:Dyn)(n:Nat)(H:AH)(a:Str)(ha:a.length≤1000000000):f21 D n [S a] H=some (S (a.take 100),H):=by
 have hm:mn2 (.int .i64 ((a.length:Nat):Int)) (.int .i64 ((100:Nat):Int))=some (.int .i64 ((min a.length 100:Nat):Int)):=by
  by_cases h:a.length≤100
  ·have hb:ilt ((100:Nat):Int) ((a.length:Nat):Int)=false:=by rw[ilt_eq];simp;omega
   rw[Nat.min_eq_left h]
   simp only[mn2,hb,cond_false]
  ·have hb:ilt ((100:Nat):Int) ((a.length:Nat):Int)=true:=by rw[ilt_eq];simp;omega
   rw[Nat.min_eq_right (by omega)]
   simp only[mn2,hb,cond_true]
 have hs:=slStr_hi a .i64 (z:=((min a.length 100:Nat):Int)) (by omega) (by simp;omega)
 rw[show(((min a.length 100:Nat):Int)).toNat=min a.length 100 by omega]at hs
 have ht:a.take (min a.length 100)=a.take 100:=by
  rw[Nat.min_comm, ← List.take_take,List.take_length]
 rw[ht]at hs
 simp(config:= { maxSteps:=1000000}) (disch:=omega) only[f21,ev,lg,wnt_undef,ew,hm,hs]
structure TO (Hi H:AH)(W0 W1 At0 M0 At1 M1 L:Nat)(kv0 kv1:Kvs):Prop where
 prs:Prs Hi H
 w0: ∃x y z,H.h.get W0=some (.cells (x::y:: .ptr At0 0::z) 44 1 false)
 w1: ∃x y z,H.h.get W1=some (.cells (x::y:: .ptr At1 0::z) 44 1 false)
 t0:TreeI H At0 M0 L kv0
 t1:TreeI H At1 M1 L kv1
 ne:At0≠At1∧M0≠M1
 fr:Hi.next≤At0∧Hi.next≤M0∧Hi.next≤At1∧Hi.next≤M1
 nw:W0≠At0∧W0≠M0∧W0≠At1∧W0≠M1∧W1≠At0∧W1≠M0∧W1≠At1∧W1≠M1
theorem PrG.tree {H H':AH}{At M L:Nat}{kv l:Kvs}{v:AV}(h:PrG H v l)(t:TreeI H At M L kv)(s:Stp (fun B=>B=At∨B=M) H H'):PrG H' v l:=by
 obtain⟨d,c,_,root,es,q,last,rfl,hc,ti,_⟩:=t
 refine⟨h.1.mono s (fun B hB e=> ?_),h.2⟩
 rcases e with rfl | rfl
 ·exact Grow.nsep h.1 ti.gT (fun e' g e=>by simp only[AObj.cells.injEq]at e;omega) hB
 ·exact Grow.nsep h.1 ti.gM (fun e' g e=>by cases e) hB
theorem TO.prs' {Hi H H':AH}{W0 W1 At0 M0 At1 M1 L L':Nat}{kv0 kv1:Kvs}(h:TO Hi H W0 W1 At0 M0 At1 M1 L kv0 kv1)(s:Prs H H')(hl:L≤L'):TO Hi H' W0 W1 At0 M0 At1 M1 L' kv0 kv1:=by
 obtain⟨x,y,z,g⟩:=h.w0
 obtain⟨x',y',z',g'⟩:=h.w1
 exact⟨h.prs.trans s,⟨x,y,z,Prs.get s h.prs.ok g⟩,⟨x',y',z',Prs.get s h.prs.ok g'⟩,(h.t0.prs s).up hl,(h.t1.prs s).up hl,h.ne,h.fr,h.nw⟩
theorem TO.up1 {Hi H H':AH}{W0 W1 At0 M0 At1 M1 L L':Nat}{kv0 kv1 kv1':Kvs}(h:TO Hi H W0 W1 At0 M0 At1 M1 L kv0 kv1)(s:Stp (fun B=>B=At1∨B=M1) H H')(t:TreeI H' At1 M1 L' kv1')(hl:L≤L'):TO Hi H' W0 W1 At0 M0 At1 M1 L' kv0 kv1':=by
 obtain⟨x,y,z,g⟩:=h.w0
 obtain⟨x',y',z',g'⟩:=h.w1
 obtain⟨n1,n2,n3,n4,n5,n6,n7,n8⟩:=h.nw
 have f:=h.fr
 refine⟨h.prs.fresh s (fun B hB=>by rcases hB with e | e<;>omega),⟨x,y,z, ?_⟩,⟨x',y',z', ?_⟩,(h.t0.other h.t1 h.ne s).up hl,t,h.ne,h.fr,h.nw⟩
 ·rw[s.keep _ (h.prs.ok.lt g) (fun e=>by rcases e with e | e<;>omega)];exact g
 ·rw[s.keep _ (h.prs.ok.lt g') (fun e=>by rcases e with e | e<;>omega)];exact g'
theorem here_split {k:Str}{l:Kvs}(hs:Srt l):(lookP k l=none→ ∀h:Nd.whereN (leafOf l) k<l.length,l[Nd.whereN (leafOf l) k].1≠k)∧(∀v,lookP k l=some v→ ∃h:Nd.whereN (leafOf l) k<l.length,l[Nd.whereN (leafOf l) k].1=k):=by
 have h:=Nd.here_look k hs
 have hkl:(leafOf l).keys.length=l.length:=List.length_map ..
 constructor
 ·intro hn h1 e
  exact look_not hn _ (List.getElem_mem h1) e
 ·intro v hv
  rw[hv]at h
  simp only[Nd.hereN,Option.isSome_some,Bool.and_eq_true,decide_eq_true_eq]at h
  have h1:Nd.whereN (leafOf l) k<l.length:=by omega
  refine⟨h1, ?_⟩
  have:=h.2
  rw[List.getD_eq_getElem?_getD,List.getElem?_eq_getElem h.1,Option.getD_some]at this
  have e:(leafOf l).keys[Nd.whereN (leafOf l) k]'h.1=(l[Nd.whereN (leafOf l) k]'h1).1:=List.getElem_map ..
  exact e.symm.trans this
theorem where_len (k:Str)(l:Kvs):Nd.whereN (leafOf l) k≤l.length:=by
 have:=Nd.whereN_le (leafOf l) k
 have hkl:(leafOf l).keys.length=l.length:=List.length_map ..
 omega
end Go.Eng.Sh
end
section
namespace Go.Eng
theorem avS (a:Str):aveq (S a) (S a)=true:=by simp[aveq,S]
theorem strs_same {H H':AH}{v:AV}{l:List Str}(h:Strs H v l)(h':Strs H' v l){i:Nat}(hi:i<l.length){p:AV}(hp:ixSl 1 v (.int .i64 ((i:Nat):Int))=some p):ld1 p H'=some (S l[i]):=by
 obtain⟨q,h1,h2⟩:=h'.at hi
 have:=(h1 .i64 _ rfl).symm.trans hp
 simp only[Option.some.injEq]at this
 rw[← this];exact h2
end Go.Eng
namespace Go.Eng.Sh
open Go.Nd (Ptr sumL leafOf Kvs Srt mayK putP delP lookP)
open Go.Bt
end Go.Eng.Sh
end
section
namespace Go.Eng.Sh
open Go.Nd (Ptr sumL leafOf Kvs Srt mayK putP delP lookP)
open Go.Bt
end Go.Eng.Sh
end
section
namespace Go.Eng.Sh
open Go.Nd (Ptr sumL leafOf Kvs Srt mayK putP delP lookP)
open Go.Bt
theorem del_first {l:Kvs}{i:Nat}(h:i<l.length):lookP l[i].1 (l.drop i)=some l[i].2∧delP l[i].1 (l.drop i)=l.drop (i+1):=by
 rw[List.drop_eq_getElem_cons h]
 exact⟨by simp[lookP],by simp[delP]⟩
theorem delET_zero {k:Str}{kv:Kvs}{v:Str}(h1:mayK k=true)(h2:lookP k kv=some v):delET k kv=0:=by simp[delET,h1,h2]
end Go.Eng.Sh
end
section
namespace Go.Eng.Sh
open Go.Nd (Ptr sumL leafOf Kvs Srt mayK putP delP lookP)
open Go.Bt
theorem copyT_ok (D:Dyn)(n:Nat){H:AH}{At M L:Nat}{kv:Kvs}(t:TreeI H At M L kv): ∃H' At' M',f37 D n [.ptr At 0] H=some (.ptr At' 0,H')∧Prs H H'∧H.next≤At'∧H.next≤M'∧TreeI H' At' M' L kv:=by
 obtain⟨d,c,_,root,es,q,last,rfl,hc,ti,h2,h3,h4,h5⟩:=t
 obtain⟨A0,o0,rfl⟩:=ti.hd
 have hk:=ti.ok
 have r8:ldN 8 (.ptr At 0) H=some (.agg (treeC (.ptr A0 o0) c root M last .nilSlice)):=by rw[ldN_get ti.gT];rfl
 have hac:allCells (treeC (.ptr A0 o0) c root M last .nilSlice)=true:=by simp only[allCells,treeC,hc,Bool.true_and,Bool.and_true];rfl
 obtain⟨Z,hZ⟩: ∃Z:List AV,Z=[.nilPtr, .nilPtr, .int .i64 ((0:Nat):Int), .int .i64 ((0:Nat):Int), .int .u64 ((0:Nat):Int), .nilMap, .int .u64 ((0:Nat):Int), .nilSlice]:=⟨_,rfl⟩
 have e1: ∀K,bA (some (.cells [.nilPtr, .nilPtr, .int .i64 ((0:Nat):Int), .int .i64 ((0:Nat):Int), .int .u64 ((0:Nat):Int), .nilMap, .int .u64 ((0:Nat):Int), .nilSlice] 141 1 false,fun A=> .ptr A 0)) H K=K (.ptr H.next 0) (H.push (.cells Z 141 1 false)):=fun K=>by
  rw[hZ,bA_ok hk]
 have e2:stN 8 (.ptr H.next 0) (.agg (treeC (.ptr A0 o0) c root M last .nilSlice)) (H.push (.cells Z 141 1 false))=some (undefA,H.push (.cells (treeC (.ptr A0 o0) c root M last .nilSlice) 141 1 false)):=stN_push (by decide) rfl (by rw[hZ];rfl) hac
 have lA:=hk.lt ti.gT
 have lM:=hk.lt ti.gM
 have p1:Prs H (H.push (.cells (treeC (.ptr A0 o0) c root M last .nilSlice) 141 1 false)):=(Stp.refl hk).push _
 have g1:=AH.push_get_eq H (.cells (treeC (.ptr A0 o0) c root M last .nilSlice) 141 1 false)
 have n1:=AH.push_next H (.cells (treeC (.ptr A0 o0) c root M last .nilSlice) 141 1 false)
 generalize H.push (.cells (treeC (.ptr A0 o0) c root M last .nilSlice) 141 1 false)=H1 at*
 have gM1:=Prs.get p1 hk ti.gM
 have e3:m76 D n [.map M] H1=some (.map H1.next,H1.push (.map [10] es)):=by
  obtain⟨t,ht⟩:=Option.isSome_iff_exists.1 (T.set_some 40 H1.h H1.next (.map [10] es))
  simp only[m76,clnK,gM1,p1.ok H1.next (Nat.le_refl _),ht,fN_eq,AH.push,Option.getD_some]
 have p2:Prs H1 (H1.push (.map [10] es)):=(Stp.refl p1.ok).push _
 have g2:=AH.push_get_eq H1 (.map [10] es)
 have n2:=AH.push_next H1 (.map [10] es)
 have g12:=Prs.get p2 p1.ok g1
 generalize H1.push (.map [10] es)=H2 at*
 have e4:stN 1 (.ptr H.next 5) (.map H1.next) H2=some (undefA,H2.put H.next (.cells (treeC (.ptr A0 o0) c root H1.next last .nilSlice) 141 1 false)):=st1_ok g12 (by decide) rfl (by simp[treeC])
 have hput: ∀ {H2:AH},H2.ok→H.next<H2.next→Prs H H2→ ∀o,Prs H (H2.put H.next o):=fun {H2} hk2 hlt p o=>⟨hk2.put hlt o,p.next,fun B hB _=>by rw[AH.put_get,if_neg (by omega)];exact p.keep B hB (fun x=>x)⟩
 have P2:=p1.trans p2
 have P3:=hput p2.ok (by omega) P2 (.cells (treeC (.ptr A0 o0) c root H1.next last .nilSlice) 141 1 false)
 have g3:(H2.put H.next (.cells (treeC (.ptr A0 o0) c root H1.next last .nilSlice) 141 1 false)).h.get H.next=some (.cells (treeC (.ptr A0 o0) c root H1.next last .nilSlice) 141 1 false):=by rw[AH.put_get,if_pos rfl]
 have g3M:(H2.put H.next (.cells (treeC (.ptr A0 o0) c root H1.next last .nilSlice) 141 1 false)).h.get H1.next=some (.map [10] es):=by rw[AH.put_get,if_neg (by omega)];exact g2
 have n3:=AH.put_next H2 H.next (.cells (treeC (.ptr A0 o0) c root H1.next last .nilSlice) 141 1 false)
 generalize H2.put H.next (.cells (treeC (.ptr A0 o0) c root H1.next last .nilSlice) 141 1 false)=H3 at*
 have e5:f77 D n [.nilSlice] H3=some (.nilSlice,H3):=rfl
 have e6:stN 1 (.ptr H.next 7) .nilSlice H3=some (undefA,H3.put H.next (.cells (treeC (.ptr A0 o0) c root H1.next last .nilSlice) 141 1 false)):=st1_ok g3 (by decide) rfl (by simp[treeC])
 have P4:=hput P3.ok (by omega) P3 (.cells (treeC (.ptr A0 o0) c root H1.next last .nilSlice) 141 1 false)
 have g4:(H3.put H.next (.cells (treeC (.ptr A0 o0) c root H1.next last .nilSlice) 141 1 false)).h.get H.next=some (.cells (treeC (.ptr A0 o0) c root H1.next last .nilSlice) 141 1 false):=by rw[AH.put_get,if_pos rfl]
 have g4M:(H3.put H.next (.cells (treeC (.ptr A0 o0) c root H1.next last .nilSlice) 141 1 false)).h.get H1.next=some (.map [10] es):=by rw[AH.put_get,if_neg (by omega)];exact g3M
 generalize H3.put H.next (.cells (treeC (.ptr A0 o0) c root H1.next last .nilSlice) 141 1 false)=H4 at*
 refine⟨H4,H.next,H1.next, ?_,P4,Nat.le_refl _,by omega,⟨_,_,_,root,es,q,last,rfl,hc,⟨P4.ok,g4,g4M,ti.pq.frame fun kv _ nd hn=>hn.prs P4,⟨_,_,rfl⟩,ti.few⟩,h2,h3,h4,h5⟩⟩
 have l5:ld1 (.ptr At 5) H1=some (.map M):=by rw[ld1_get (Prs.get p1 hk ti.gT)];rfl
 have l7:ld1 (.ptr At 7) H3=some .nilSlice:=by rw[ld1_get (Prs.get P3 hk ti.gT)];rfl
 simp(config:= { maxSteps:=1000000}) (disch:=omega) only[f37,ev,lg,wnt_undef,ew,cq,r8,e1,e2,l5,e3,e4,l7,e5,e6]
end Go.Eng.Sh
end
section
namespace Go.Eng.Sh
open Go.Nd (Ptr sumL leafOf Kvs Srt mayK putP delP lookP)
open Go.Bt
def shK (a:Str):Str:=a.take 100
theorem shK_put (a:Str):putOkT a (shK a)=mayK a:=by
 have:(shK a).length≤200:=by simp only[shK,List.length_take];omega
 simp[putOkT,this]
structure T1 (Hi H:AH)(W At M L:Nat)(kv:Kvs):Prop where
 prs:Prs Hi H
 w: ∃x y z,H.h.get W=some (.cells (x::y:: .ptr At 0::z) 44 1 false)
 t:TreeI H At M L kv
 fr:Hi.next≤At∧Hi.next≤M
 nw:W≠At∧W≠M
theorem T1.ld {Hi H:AH}{W At M L:Nat}{kv:Kvs}(h:T1 Hi H W At M L kv):ld1 (.ptr W 2) H=some (.ptr At 0):=by
 obtain⟨x,y,z,g⟩:=h.w;rw[ld1_get g];rfl
theorem T1.prs' {Hi H H':AH}{W At M L L':Nat}{kv:Kvs}(h:T1 Hi H W At M L kv)(s:Prs H H')(hl:L≤L'):T1 Hi H' W At M L' kv:=by
 obtain⟨x,y,z,g⟩:=h.w
 exact⟨h.prs.trans s,⟨x,y,z,Prs.get s h.prs.ok g⟩,(h.t.prs s).up hl,h.fr,h.nw⟩
theorem T1.up {Hi H H':AH}{W At M L L':Nat}{kv kv':Kvs}(h:T1 Hi H W At M L kv)(s:Stp (fun B=>B=At∨B=M) H H')(t:TreeI H' At M L' kv'):T1 Hi H' W At M L' kv':=by
 obtain⟨x,y,z,g⟩:=h.w
 obtain⟨n1,n2⟩:=h.nw
 have f:=h.fr
 refine⟨h.prs.fresh s (fun B hB=>by rcases hB with e | e<;>omega),⟨x,y,z, ?_⟩,t,h.fr,h.nw⟩
 rw[s.keep _ (h.prs.ok.lt g) (fun e=>by rcases e with e | e<;>omega)];exact g
theorem cfind_ok (D:Dyn)(n:Nat)(hn:1000≤n){H:AH}{x0 x3 x4 pv:AV}{keys:List Str}{l:Kvs}{i:Nat}(hx:Strs H x0 keys)(hi:i<keys.length)(hp:Prs2 H pv l)(hs:Srt l)(hl:l.length≤500):
  loopK n (f8zl0 D n) [x0,x3,x4,pv, .int .i64 ((i:Nat):Int), .int .i64 ((0:Nat):Int)] H=some (.exit 2 [x0,x3,x4,pv, .int .i64 ((i:Nat):Int), .int .i64 ((Nd.whereN (leafOf l) keys[i]:Nat):Int)],H):=by
 obtain⟨qk,ik,ik'⟩:=hx.at hi
 have hle:=where_len keys[i] l
 refine loop_for (fun j=>[x0,x3,x4,pv, .int .i64 ((i:Nat):Int), .int .i64 ((j:Nat):Int)]) (Nd.whereN (leafOf l) keys[i]) (fun j hj=> ?_) (fun m=> ?_) n (by omega)
 ·obtain⟨hj1,hj2⟩:=where_lt hs j hj
  obtain⟨A,o,i1,i2,i3,i4⟩:=hp.at hj1
  have i3':ld1 (.ptr A (o+0)) H=some (S l[j].1):=i3
  have hjI:((j:Nat):Int)< ((l.length:Nat):Int):=by omega
  simp(config:= { maxSteps:=1000000}) (disch:=omega) only[f8zl0,ev,lg,wnt_undef,ew,hp.lnSl,hjI,i1,i3',ik,ik',bStr_lss,hj2,Int.natCast_add]
 ·refine loop_exit ?_
  by_cases hw:Nd.whereN (leafOf l) keys[i]<l.length
  ·have h2:=where_ge (k:=keys[i]) hs hw
   obtain⟨A,o,i1,i2,i3,i4⟩:=hp.at hw
   have i3':ld1 (.ptr A (o+0)) H=some (S l[Nd.whereN (leafOf l) keys[i]].1):=i3
   generalize Nd.whereN (leafOf l) keys[i]=w at*
   have hjI:((w:Nat):Int)< ((l.length:Nat):Int):=by omega
   simp(config:= { maxSteps:=1000000}) (disch:=omega) only[f8zl0,ev,lg,wnt_undef,ew,hp.lnSl,hjI,i1,i3',ik,ik',bStr_lss,h2]
  ·generalize Nd.whereN (leafOf l) keys[i]=w at*
   have hjI: ¬((w:Nat):Int)< ((l.length:Nat):Int):=by omega
   simp(config:= { maxSteps:=1000000}) (disch:=omega) only[f8zl0,ev,lg,wnt_undef,ew,hp.lnSl,hjI]
theorem cb2_ok (D:Dyn)(n:Nat){H:AH}(hk:H.ok){x0 x3 x4 pv:AV}{keys:List Str}{l:Kvs}{i:Nat}(hx:Strs H x0 keys)(hi:i<keys.length)(hp:PrG H pv l)(hs:Srt l)(hl:l.length≤500)(ha:(keys[i]).length≤1000)(hlk: ∀v,lookP keys[i] l=some v→v=shK keys[i]):
  ∃H' pv',f8zb2 D n [x0,x3,x4,pv, .int .i64 ((i:Nat):Int), .int .i64 ((Nd.whereN (leafOf l) keys[i]:Nat):Int)] H=some (.norm [x0,x3,x4,pv', .int .i64 ((i:Nat):Int)],H')∧Prs H H'∧PrG H' pv' (putP keys[i] (shK keys[i]) l):=by
 obtain⟨qk,ik,ik'⟩:=hx.at hi
 obtain⟨hs1,hs2⟩:=here_split (k:=keys[i]) hs
 have hwl:=where_len keys[i] l
 cases hlo:lookP keys[i] l with
 | some v=>
  obtain rfl:=hlk v hlo
  obtain⟨hw,he⟩:=hs2 _ hlo
  obtain⟨A,o,i1,i2,i3,i4⟩:=hp.row.at hw
  have i3':ld1 (.ptr A (o+0)) H=some (S l[Nd.whereN (leafOf l) keys[i]].1):=i3
  rw[put_same hs hlo]
  refine⟨H,pv, ?_,Stp.refl hk,hp⟩
  have hne:bStr .neq (S l[Nd.whereN (leafOf l) keys[i]].1) (S keys[i])=some (.bool false):=by rw[bStr_neq];simp[he]
  generalize Nd.whereN (leafOf l) keys[i]=w at*
  have hjI: ¬((w:Nat):Int)=((l.length:Nat):Int):=by omega
  simp(config:= { maxSteps:=1000000}) (disch:=omega) only[f8zb2,ev,lg,wnt_undef,ew,hp.row.lnSl,hjI,i1,i3',ik,ik',hne,f8zj1]
 | none=>
  have hs1:=hs1 hlo
  rw[put_split hs (look_not hlo)]
  obtain⟨H1,A1,r1,r2,w1,H2,A2,H3,w2,H4,w3,H5,b1,c1,c2,e1,c3,hav,b3,e3,c4,e5,P1,P2,P5,G5⟩:=ins_ok hk hp hwl (by omega) keys[i] (shK keys[i])
  refine⟨H5,w3, ?_,P5,G5⟩
  have k1:=strs_same hx (Rw.stp hx P1 (fun _ _ x=>x)) hi (ik .i64 _ rfl)
  have k2:=strs_same hx (Rw.stp hx P2 (fun _ _ x=>x)) hi (ik .i64 _ rfl)
  have hsh:f21 D n [S keys[i]] H2=some (S (shK keys[i]),H2):=short_ok D n H2 keys[i] (by omega)
  have bl0:bldL 48 2 0 [.str 0 0, .str 0 0] []=some (.cells [] 48 2 false,fun A=> .slice A 0 0 0):=rfl
  have bl1:bldL 48 2 1 [.str 0 0, .str 0 0] [(0, .agg [S keys[i],S (shK keys[i])])]=some (.cells [S keys[i],S (shK keys[i])] 48 2 false,fun A=> .slice A 0 1 2):=rfl
  have bs:bldS [(0,1),(1,1)] [.str 0 0, .str 0 0] [(0,S keys[i]),(1,S (shK keys[i]))]=some (.agg [S keys[i],S (shK keys[i])]):=rfl
  by_cases hw:Nd.whereN (leafOf l) keys[i]=l.length
  ·have hjI:((Nd.whereN (leafOf l) keys[i]:Nat):Int)=((l.length:Nat):Int):=by omega
   generalize Nd.whereN (leafOf l) keys[i]=w at*
   simp(config:= { maxSteps:=1000000}) (disch:=omega) only[f8zb2,ev,lg,wnt_undef,ew,hp.row.lnSl,hjI,bl0,b1,hjI▸c1,hjI▸c2,ik,k1,e1,chk_ok k2 (avS _),chk_ok (hjI▸c3) hav,hsh,bs,bl1,b3,e3,chk_ok (hjI▸c4) hav,e5,f8zj1]
  ·have hw':Nd.whereN (leafOf l) keys[i]<l.length:=by omega
   obtain⟨A,o,i1,i2,i3,i4⟩:=hp.row.at hw'
   have i3':ld1 (.ptr A (o+0)) H=some (S l[Nd.whereN (leafOf l) keys[i]].1):=i3
   have hne:bStr .neq (S l[Nd.whereN (leafOf l) keys[i]].1) (S keys[i])=some (.bool true):=by rw[bStr_neq];simp[hs1 hw']
   have hjI: ¬((Nd.whereN (leafOf l) keys[i]:Nat):Int)=((l.length:Nat):Int):=by omega
   generalize Nd.whereN (leafOf l) keys[i]=w at*
   simp(config:= { maxSteps:=1000000}) (disch:=omega) only[f8zb2,ev,lg,wnt_undef,ew,hp.row.lnSl,hjI,i1,i3',ik,ik',hne,bl0,b1,c1,c2,k1,e1,chk_ok k2 (avS _),chk_ok c3 hav,hsh,bs,bl1,b3,e3,chk_ok c4 hav,e5,f8zj1]
theorem take_snocC {ks:List Str}{i:Nat}(h:i<ks.length):putAll shK (ks.take (i+1)) []=if mayK ks[i]then putP ks[i] (shK ks[i]) (putAll shK (ks.take i) [])else putAll shK (ks.take i) []:=by
 rw[List.take_succ_eq_append_getElem h,putAll_snoc]
def OC (Hi:AH)(x0 x1:AV)(keys:List Str)(W At M:Nat)(i:Nat)(us:List AV)(H:AH):Prop:=
 ∃pv,us=[x0,x1, .ptr W 0,pv, .int .i64 ((i:Nat):Int)]∧T1 Hi H W At M (400*i) (putAll shK (keys.take i) [])∧PrG H pv (putAll shK (keys.take i) [])
theorem cstep4_ok (m n:Nat)(hm:300000000≤m)(hn:300000000≤n){Hi H:AH}{x0 x1 pv:AV}{keys:List Str}{W At M i:Nat}(hx:Strs Hi x0 keys)(hl:keys.length≤150)(hi:i<keys.length)
  (t:T1 Hi H W At M (400*i) (putAll shK (keys.take i) [])) (hp:PrG H pv (putAll shK (keys.take i) [])):
  ∃e H',f8zl4 (dy (m+2)) n [x0,x1, .ptr W 0,pv, .int .i64 ((i:Nat):Int)] H=some (e,H')∧((e= .ret (.bool true)∧Prs Hi H')∨ ∃us,e= .norm us∧OC Hi x0 x1 keys W At M (i+1) us H'):=by
 have hx0:Strs H x0 keys:=Rw.stp hx t.prs (fun _ _ x=>x)
 obtain⟨qa,ia,ia'⟩:=hx0.at hi
 have hiI:((i:Nat):Int)< ((keys.length:Nat):Int):=by omega
 have hi1:((i:Nat):Int)+((1:Nat):Int)=((i+1:Nat):Int):=by omega
 by_cases ha:((1000:Nat):Int)< (((keys[i]).length:Nat):Int)
 ·refine⟨.ret (.bool true),H, ?_, .inl ⟨rfl,t.prs⟩⟩
  simp(config:= { maxSteps:=1000000}) (disch:=omega) only[f8zl4,ev,lg,wnt_undef,ew,hx0.lnSl,hiI,ia,ia',ha]
 ·have hlen0:=putAll_len shK (keys.take i) (l:=[]) trivial
  simp only[List.length_nil,List.length_take]at hlen0
  have hsrt:=putAll_srt shK (keys.take i) (l:=[]) trivial
  obtain⟨H1,e1,t1,s1⟩:=putT_ok m n hm hn (k:=keys[i]) (v:=shK keys[i]) t.t (by omega) (by omega)
  have U1:=t.up s1 t1
  rw[shK_put]at e1 U1
  have k0:(if mayK keys[i]then putP keys[i] (shK keys[i]) (putAll shK (keys.take i) [])else putAll shK (keys.take i) [])=putAll shK (keys.take (i+1)) []:=(take_snocC hi).symm
  rw[k0]at U1
  have U1':=U1.prs' (Stp.refl U1.prs.ok) (show 400*i+200≤400*(i+1)by omega)
  have hp1:PrG H1 pv (putAll shK (keys.take i) []):=hp.tree t.t s1
  have sh0:f21 (dy (m+2)) n [S keys[i]] H=some (S (shK keys[i]),H):=short_ok (dy (m+2)) n H keys[i] (by omega)
  have av: ∀A o,aveq (.ptr A o) (.ptr A o)=true:=cbx.2.2.2.2.2.2
  have ckp: ∀A o (K:Rs),chk (some (.ptr A o)) (.ptr A o) K=K:=fun A o K=>chk_ok rfl (av A o)
  have cks: ∀a (K:Rs),chk (some (S a)) (S a) K=K:=fun a K=>chk_ok rfl (avS a)
  by_cases hmay:mayK keys[i]=true
  ·rw[hmay]at e1
   simp only[if_true]at e1
   have t00: ¬(((0:Nat):Int)≠((0:Nat):Int)):=by omega
   have hx2:Strs H1 x0 keys:=Rw.stp hx U1.prs (fun _ _ x=>x)
   have hf:=cfind_ok (dy (m+2)) n (by omega) (x3:=x1) (x4:= .ptr W 0) hx2 hi hp1.row hsrt (by omega)
   obtain⟨H3,pv',e3,p3,g3⟩:=cb2_ok (dy (m+2)) n U1.prs.ok (x3:=x1) (x4:= .ptr W 0) hx2 hi hp1 hsrt (by omega) (by omega) (fun v hv=>by
    rw[putAll_look]at hv
    split at hv
    ·exact(Option.some.inj hv).symm
    ·cases hv)
   have hk0:putP keys[i] (shK keys[i]) (putAll shK (keys.take i) [])=putAll shK (keys.take (i+1)) []:=by rw[← k0,if_pos hmay]
   rw[hk0]at g3
   refine⟨.norm _,H3, ?_, .inr ⟨_,rfl,pv',rfl,U1'.prs' p3 (Nat.le_refl _),g3⟩⟩
   simp(config:= { maxSteps:=1000000}) (disch:=omega) only[f8zl4,ev,lg,wnt_undef,ew,hx0.lnSl,hiI,ia,ia',ha,t.ld,sh0,ckp,cks,e1,t00,hf,e3,f8zb3,hi1]
  ·have hmf:mayK keys[i]=false:=by simpa using hmay
   rw[hmf]at e1
   simp only[Bool.false_eq_true,if_false]at e1
   have t10:((1:Nat):Int)≠((0:Nat):Int):=by omega
   have hk0:putAll shK (keys.take (i+1)) []=putAll shK (keys.take i) []:=by rw[← k0,hmf];rfl
   refine⟨.norm _,H1, ?_, .inr ⟨_,rfl,pv,rfl,U1',by rw[hk0];exact hp1⟩⟩
   simp(config:= { maxSteps:=1000000}) (disch:=omega) only[f8zl4,ev,lg,wnt_undef,ew,hx0.lnSl,hiI,ia,ia',ha,t.ld,sh0,ckp,cks,e1,t10,ne_eq,not_false_eq_true,f8zb3,hi1]
end Go.Eng.Sh
end
section
namespace Go.Eng.Sh
open Go.Nd (Ptr sumL leafOf Kvs Srt mayK putP delP lookP)
open Go.Bt
structure C2 (Hi H:AH)(W At M L:Nat)(kv:Kvs)(pv:AV)(At' M' L':Nat)(kv':Kvs):Prop where
 prs:Prs Hi H
 w: ∃x y z,H.h.get W=some (.cells (x::y:: .ptr At 0::z) 44 1 false)
 t:TreeI H At M L kv
 c:TreeI H At' M' L' kv'
 p:PrG H pv kv
 ne:At≠At'∧M≠M'
 fr:Hi.next≤At'∧Hi.next≤M'
 nw:W≠At'∧W≠M'
theorem C2.up {Hi H H':AH}{W At M L At' M' L' L'':Nat}{pv:AV}{kv kv' kv'':Kvs}(h:C2 Hi H W At M L kv pv At' M' L' kv')(s:Stp (fun B=>B=At'∨B=M') H H')(c:TreeI H' At' M' L'' kv''):C2 Hi H' W At M L kv pv At' M' L'' kv'':=by
 obtain⟨x,y,z,g⟩:=h.w
 obtain⟨n1,n2⟩:=h.nw
 have f:=h.fr
 refine⟨h.prs.fresh s (fun B hB=>by rcases hB with e | e<;>omega),⟨x,y,z, ?_⟩,h.t.other h.c h.ne s,c,h.p.tree h.c s,h.ne,h.fr,h.nw⟩
 rw[s.keep _ (h.prs.ok.lt g) (fun e=>by rcases e with e | e<;>omega)];exact g
theorem T1.copy {Hi H H':AH}{W At M L At' M':Nat}{pv:AV}{kv:Kvs}(h:T1 Hi H W At M L kv)(hp:PrG H pv kv)(s:Prs H H')(m1:H.next≤At')(m2:H.next≤M')(c:TreeI H' At' M' L kv):C2 Hi H' W At M L kv pv At' M' L kv:=by
 obtain⟨x,y,z,g⟩:=h.w
 have lt:=h.t.lt
 have lw:=h.prs.ok.lt g
 have N:=h.prs.next
 exact⟨h.prs.trans s,⟨x,y,z,Prs.get s h.prs.ok g⟩,h.t.prs s,c,hp.prs s,⟨by omega,by omega⟩,⟨by omega,by omega⟩,⟨by omega,by omega⟩⟩
theorem C2.copy {Hi H H':AH}{W At M L At0 M0 L0 At' M':Nat}{pv:AV}{kv kv0:Kvs}(h:C2 Hi H W At M L kv pv At0 M0 L0 kv0)(s:Prs H H')(m1:H.next≤At')(m2:H.next≤M')(c:TreeI H' At' M' L kv):C2 Hi H' W At M L kv pv At' M' L kv:=by
 obtain⟨x,y,z,g⟩:=h.w
 have lt:=h.t.lt
 have lw:=h.prs.ok.lt g
 have N:=h.prs.next
 exact⟨h.prs.trans s,⟨x,y,z,Prs.get s h.prs.ok g⟩,h.t.prs s,c,h.p.prs s,⟨by omega,by omega⟩,⟨by omega,by omega⟩,⟨by omega,by omega⟩⟩
theorem C2.ld {Hi H:AH}{W At M L At' M' L':Nat}{pv:AV}{kv kv':Kvs}(h:C2 Hi H W At M L kv pv At' M' L' kv'):ld1 (.ptr W 2) H=some (.ptr At 0):=by
 obtain⟨x,y,z,g⟩:=h.w;rw[ld1_get g];rfl
def anoth:Str:=[97,110,111,116,104,101,114,32,111,110,101]
theorem ifput_len {k v:Str}{l:Kvs}{b:Bool}(hs:Srt l):Srt (if b then putP k v l else l)∧(if b then putP k v l else l).length≤l.length+1:=by
 cases b
 ·exact⟨hs,by simp⟩
 ·refine⟨Nd.srt_put k v hs, ?_⟩
  have:=Nd.len_put k v hs
  simp only[if_true]
  rw[this];split<;>omega
theorem cstep6_ok (m n:Nat)(hm:300000000≤m)(hn:300000000≤n){Hi H:AH}{x1 pv:AV}{keys:List Str}{W At M L At' M' L' i:Nat}{kv kv':Kvs}(hx:Strs Hi x1 keys)(hi:i<keys.length)(hkl:keys.length≤150)(hL':L'≤400000000)(hkv':kv'.length≤100000000)(hs':Srt kv')
  (t:C2 Hi H W At M L kv pv At' M' L' kv'):
  ∃e H',f8zl6 (dy (m+2)) n [x1, .ptr W 0,pv, .ptr At' 0, .int .i64 ((i:Nat):Int)] H=some (e,H')∧((e= .ret (.bool true)∧Prs Hi H')∨ ∃kv'',e= .norm [x1, .ptr W 0,pv, .ptr At' 0, .int .i64 ((i+1:Nat):Int)]∧C2 Hi H' W At M L kv pv At' M' (L'+200) kv''∧Srt kv''∧kv''.length≤kv'.length+1):=by
 have hx0:Strs H x1 keys:=Rw.stp hx t.prs (fun _ _ x=>x)
 obtain⟨qa,ia,ia'⟩:=hx0.at hi
 have hiI:((i:Nat):Int)< ((keys.length:Nat):Int):=by omega
 have hi1:((i:Nat):Int)+((1:Nat):Int)=((i+1:Nat):Int):=by omega
 by_cases ha:((1000:Nat):Int)< (((keys[i]).length:Nat):Int)
 ·refine⟨.ret (.bool true),H, ?_, .inl ⟨rfl,t.prs⟩⟩
  simp(config:= { maxSteps:=1000000}) (disch:=omega) only[f8zl6,ev,lg,wnt_undef,ew,hx0.lnSl,hiI,ia,ia',ha]
 ·have hrem:bInt .rem (.int .i64 ((i:Nat):Int)) (.int .i64 ((3:Nat):Int))=some (.int .i64 ((i % 3:Nat):Int)):=by
   rw[bInt_rem _ _ _ (by omega)];rfl
  by_cases h3:i % 3=0
  ·have h3I:((i % 3:Nat):Int)=((0:Nat):Int):=by omega
   obtain⟨H1,e1,t1,s1⟩:=delT_ok m n hm hn (k:=keys[i]) t.c (by omega) (by omega)
   refine⟨_,H1, ?_, .inr ⟨_,rfl,t.up s1 t1, ?_, ?_⟩⟩
   ·simp(config:= { maxSteps:=1000000}) (disch:=omega) only[f8zl6,ev,lg,wnt_undef,ew,hx0.lnSl,hiI,ia,ia',ha,hrem,h3I,e1,f8zj5,hi1]
   ·split
    ·exact Nd.srt_del _ hs'
    ·exact hs'
   ·split
    ·have:=Nd.len_del keys[i] kv';rw[this];split<;>omega
    ·omega
  ·have h3I: ¬((i % 3:Nat):Int)=((0:Nat):Int):=by omega
   obtain⟨H1,e1,t1,s1⟩:=putT_ok m n hm hn (k:=keys[i]) (v:=anoth) t.c (by omega) (by omega)
   have e1':f20 (dy (m+2)) n [.ptr At' 0,S keys[i], .str 11 122623018020828045242232417] H=some (.int .i64 ((if putOkT keys[i] anoth then 0 else 1:Nat):Int),H1):=e1
   have hq:=ifput_len (k:=keys[i]) (v:=anoth) (b:=putOkT keys[i] anoth) hs'
   refine⟨_,H1, ?_, .inr ⟨_,rfl,t.up s1 t1,hq.1,hq.2⟩⟩
   simp(config:= { maxSteps:=1000000}) (disch:=omega) only[f8zl6,ev,lg,wnt_undef,ew,hx0.lnSl,hiI,ia,ia',ha,hrem,h3I,e1',f8zj5,hi1]
theorem cstep7_ok (m n:Nat)(hm:300000000≤m)(hn:300000000≤n){Hi H:AH}{pv:AV}{W At M L At' M' L' i:Nat}{kv:Kvs}(hmay: ∀p∈kv,mayK p.1=true)(hi:i<kv.length)(hL':L'≤400000000)(hkv:kv.length≤100000000)
  (t:C2 Hi H W At M L kv pv At' M' L' (kv.drop i)):
  ∃H',f8zl7 (dy (m+2)) n [.ptr W 0,pv, .ptr At' 0, .int .i64 ((i:Nat):Int)] H=some (.norm [.ptr W 0,pv, .ptr At' 0, .int .i64 ((i+1:Nat):Int)],H')∧C2 Hi H' W At M L kv pv At' M' (L'+200) (kv.drop (i+1)):=by
 have hiI:((i:Nat):Int)< ((kv.length:Nat):Int):=by omega
 have hi1:((i:Nat):Int)+((1:Nat):Int)=((i+1:Nat):Int):=by omega
 obtain⟨l1,l2⟩:=del_first hi
 have z1:=delET_zero (hmay _ (List.getElem_mem hi)) l1
 obtain⟨H1,e1,t1,s1⟩:=delT_ok m n hm hn (k:=kv[i].1) t.c (by omega) (by simp;omega)
 have U:=t.up s1 t1
 rw[z1]at e1 U
 rw[if_pos rfl,l2]at U
 refine⟨H1, ?_,U⟩
 obtain⟨A,o,i1,_,i3,_⟩:=t.p.row.at hi
 have i3':ld1 (.ptr A (o+0)) H=some (S kv[i].1):=i3
 have t00: ¬(((0:Nat):Int)≠((0:Nat):Int)):=by omega
 simp(config:= { maxSteps:=1000000}) (disch:=omega) only[f8zl7,ev,lg,wnt_undef,ew,t.p.row.lnSl,hiI,i1,i3',e1,t00,hi1]
theorem cend_ok (m n:Nat)(hm:300000000≤m)(hn:300000000≤n){Hi H:AH}{pv:AV}{W At M L At' M' L':Nat}{kv kv':Kvs}(hs:Srt kv)(hmay: ∀p∈kv,mayK p.1=true)(hlen:kv.length≤150)(hL:L≤60000)
  (t:C2 Hi H W At M L kv pv At' M' L' kv'):
  ∃H',f8zb9 (dy (m+2)) n [.ptr W 0,pv] H=some (.ret (.bool true),H')∧Prs Hi H':=by
 obtain⟨H1,At1,M1,e1,p1,m1,m2,c1⟩:=copyT_ok (dy (m+2)) n t.t
 have U0:=t.copy p1 m1 m2 c1
 have lp:=loop_inv (b:=f8zl7 (dy (m+2)) n) kv.length (fun i us H'=>us=[.ptr W 0,pv, .ptr At1 0, .int .i64 ((i:Nat):Int)]∧C2 Hi H' W At M L kv pv At1 M1 (L+200*i) (kv.drop i)) (fun i us H' hi ⟨hus,T⟩=>by
  subst hus
  obtain⟨H'',e,T'⟩:=cstep7_ok m n hm hn hmay hi (by omega) (by omega) T
  exact⟨_,H'',e,rfl,by rw[show L+200*(i+1)=L+200*i+200 by omega];exact T'⟩) n [.ptr W 0,pv, .ptr At1 0, .int .i64 ((0:Nat):Int)] H1 ⟨rfl,by simpa using U0⟩ (by omega)
 obtain⟨k,us,H3,e3,rfl,T3⟩:=lp
 rw[List.drop_length]at T3
 have last:loopK (k+1) (f8zl7 (dy (m+2)) n) [.ptr W 0,pv, .ptr At1 0, .int .i64 ((kv.length:Nat):Int)] H3=some (.exit 6 [.ptr W 0,pv, .ptr At1 0],H3):=loop_exit (by simp only[f8zl7,ev,lg,wnt_undef,ew,T3.p.row.lnSl,Int.lt_irrefl])
 obtain⟨H4,e4,p4⟩:=holds_ok m n (by omega) hn T3.t (by omega) (by omega) T3.p.row hs hmay
 obtain⟨H5,e5,p5⟩:=holds_ok m n (by omega) hn (v:= .nilSlice) (T3.c.prs p4) (by omega) (by simp) (Rw.nil _ _) trivial (by simp)
 refine⟨H5, ?_,(T3.prs.trans p4).trans p5⟩
 simp(config:= { maxSteps:=1000000}) (disch:=omega) only[f8zb9,ev,lg,wnt_undef,ew,t.ld,e1,e3,last,f8zb8,T3.ld,e4,e5]
theorem treeCopies_walk (m n:Nat)(hm:300000000≤m)(hn:300000000≤n){H:AH}(hk:H.ok){v0 v1:AV}{ahead behind:List Str}(hx:Strs H v0 ahead)(hy:Strs H v1 behind):
  ∃H',f8z (dy (m+2)) n [v0,v1] H=some (.bool true,H')∧Prs H H':=by
 have hln:=hx.lnSl
 have hln1:=hy.lnSl
 have zok: ∀H:AH,z18 (dy (m+2)) n [] H=some (.bool true,H):=fun _=>rfl
 by_cases hl0:ahead.length≤100
 case neg=>
  have hlI:((100:Nat):Int)< ((ahead.length:Nat):Int):=by omega
  refine⟨H, ?_,Stp.refl hk⟩
  simp only[f8z,ev,lg,wnt_undef,ew,hln,hlI,zok]
 case pos=>
 have hlI0: ¬((100:Nat):Int)< ((ahead.length:Nat):Int):=by omega
 by_cases hl1:behind.length≤100
 case neg=>
  have hlI:((100:Nat):Int)< ((behind.length:Nat):Int):=by omega
  refine⟨H, ?_,Stp.refl hk⟩
  simp only[f8z,ev,lg,wnt_undef,ew,hln,hlI0,hln1,hlI,zok]
 case pos=>
 have hlI1: ¬((100:Nat):Int)< ((behind.length:Nat):Int):=by omega
 obtain⟨H1,W,At,M,x,y,z,e1,p1,a1,a2,a3,a4,a5,g1,t1⟩:=begun_ok (dy (m+2)) n (by omega) hk 0 (by omega)
 have lw:=p1.ok.lt g1
 have lt1:=t1.lt
 have N1:=p1.next
 have T:T1 H H1 W At M (400*0) (putAll shK (ahead.take 0) []):=⟨p1,⟨x,y,z,g1⟩,t1,⟨a2,a3⟩,⟨by omega,by omega⟩⟩
 have P0:PrG H1 .nilSlice (putAll shK (ahead.take 0) []):=⟨.inl (Own.nil ..),fun _=>rfl⟩
 have lp:Fin (loopK n (f8zl4 (dy (m+2)) n) [v0,v1, .ptr W 0, .nilSlice, .int .i64 ((0:Nat):Int)] H1) fun e H'=>(e= .ret (.bool true)∧Prs H H')∨ ∃pv,e= .exit 0 [v1, .ptr W 0,pv]∧T1 H H' W At M (400*ahead.length) (putAll shK ahead [])∧PrG H' pv (putAll shK ahead []):=by
  refine Fin.loop (fun k us H'=> ∃i,OC H v0 v1 ahead W At M i us H'∧i≤ahead.length∧k=ahead.length - i) ?_ n ahead.length _ H1 ⟨0,⟨.nilSlice,rfl,T,P0⟩,by omega,by omega⟩ (by omega)
  rintro k us H' ⟨i,⟨pv,rfl,T',P'⟩,hi,rfl⟩
  by_cases hlt:i<ahead.length
  ·rcases cstep4_ok m n hm hn hx (by omega) hlt T' P' with⟨e,H'',er,⟨rfl,p⟩ | ⟨us',rfl,hO⟩⟩
   ·exact⟨_,_,er, .inl ⟨rfl,p⟩⟩
   ·exact⟨_,_,er,ahead.length - (i+1),by omega,i+1,hO,by omega,rfl⟩
  ·obtain rfl:i=ahead.length:=by omega
   rw[List.take_length]at T' P'
   refine⟨.exit 0 [v1, .ptr W 0,pv],H', ?_, .inr ⟨pv,rfl,T',P'⟩⟩
   simp only[f8zl4,ev,lg,wnt_undef,ew,(show lnSl v0=_ from hln),Int.lt_irrefl]
 obtain⟨e,H3,e3,⟨rfl,p3⟩ | ⟨pv,rfl,T3,P3⟩⟩:=lp
 ·refine⟨H3, ?_,p3⟩
  simp(config:= { maxSteps:=1000000}) (disch:=omega) only[f8z,ev,lg,wnt_undef,ew,hln,hlI0,hln1,hlI1,zok,e1,cq,e3]
 ·have hpl:=putAll_len shK ahead (l:=[]) trivial
  have hps:=putAll_srt shK ahead (l:=[]) trivial
  simp only[List.length_nil]at hpl
  obtain⟨H4,At',M',e4,p4,m1,m2,c4⟩:=copyT_ok (dy (m+2)) n T3.t
  have U:=T3.copy P3 p4 m1 m2 c4
  have lp2:Fin (loopK n (f8zl6 (dy (m+2)) n) [v1, .ptr W 0,pv, .ptr At' 0, .int .i64 ((0:Nat):Int)] H4) fun e H'=>(e= .ret (.bool true)∧Prs H H')∨ ∃L' kv',e= .exit 4 [.ptr W 0,pv]∧C2 H H' W At M (400*ahead.length) (putAll shK ahead []) pv At' M' L' kv':=by
   refine Fin.loop (fun k us H'=> ∃i kv',us=[v1, .ptr W 0,pv, .ptr At' 0, .int .i64 ((i:Nat):Int)]∧C2 H H' W At M (400*ahead.length) (putAll shK ahead []) pv At' M' (400*ahead.length+200*i) kv'∧Srt kv'∧kv'.length≤100+i∧i≤behind.length∧k=behind.length - i) ?_ n behind.length _ H4 ⟨0,_,rfl,U,hps,by omega,by omega,by omega⟩ (by omega)
   rintro k us H' ⟨i,kv',rfl,U',hs',hkl,hi,rfl⟩
   by_cases hlt:i<behind.length
   ·rcases cstep6_ok m n hm hn hy hlt (by omega) (by omega) (by omega) hs' U' with⟨e,H'',er,⟨rfl,p⟩ | ⟨kv'',rfl,hO,hs'',hl''⟩⟩
    ·exact⟨_,_,er, .inl ⟨rfl,p⟩⟩
    ·exact⟨_,_,er,behind.length - (i+1),by omega,i+1,kv'',rfl,by rw[show 400*ahead.length+200*(i+1)=400*ahead.length+200*i+200 by omega];exact hO,hs'',by omega,by omega,rfl⟩
   ·obtain rfl:i=behind.length:=by omega
    refine⟨.exit 4 [.ptr W 0,pv],H', ?_, .inr ⟨_,kv',rfl,U'⟩⟩
    simp only[f8zl6,ev,lg,wnt_undef,ew,(show lnSl v1=_ from hln1),Int.lt_irrefl]
  obtain⟨e,H5,e5,⟨rfl,p5⟩ | ⟨L',kv',rfl,U5⟩⟩:=lp2
  ·refine⟨H5, ?_,p5⟩
   simp(config:= { maxSteps:=1000000}) (disch:=omega) only[f8z,ev,lg,wnt_undef,ew,hln,hlI0,hln1,hlI1,zok,e1,cq,e3,f8zb10,T3.ld,e4,e5]
  ·obtain⟨H6,e6,p6⟩:=cend_ok m n hm hn hps (putAll_may shK ahead (l:=[]) (by simp)) (by omega) (by omega) U5
   refine⟨H6, ?_,p6⟩
   simp(config:= { maxSteps:=1000000}) (disch:=omega) only[f8z,ev,lg,wnt_undef,ew,hln,hlI0,hln1,hlI1,zok,e1,cq,e3,f8zb10,T3.ld,e4,e5,e6]
end Go.Eng.Sh
end
section
namespace Go.Proofs.YtngkjhifpekkcaaGreat.treeCopies
open Go.ChangeShapes Go.WideShapes Go.ChangeAt Go.RowKit
open Go.ChangeMaps (open_string shut_string)
theorem cellsOfS: Tryz.prog.cellsOf 9=1:=by kernel_rfl
theorem strs_in {H:Type}{enc:TypeId×Value→H}{w:World}{base:Nat}{held:Bool}{v:Value}{d:DataW H}{ps:List MemPlace}(hv: ∃a len cap,v= .slice a len cap)(h:DataW.Trod enc Tryz.prog w base (fun _=>true) held 37 v d ps):
  ∃l:List Go.Eng.Str,Go.Eng.Strs (Go.Eng.H0 w) (Go.Eng.argAV w.heap.size v) l:=by
 obtain⟨a0,len0,cap0,rfl⟩:=hv
 obtain⟨fuel,hf⟩:=h
 exact Go.Eng.strs_arg Tryz.underlying37 Tryz.underlying9 cellsOfS hf
theorem own:ownKnob Tryz.prog.godebug=none:=by kernel_rfl
theorem laid:laidOutB Tryz.prog=true:=by kernel_rfl
set_option maxRecDepth 100000 in
theorem contract (H:Type)(enc:TypeId×Value→H)(W:World)(base:Nat)(args:Array Value)(ds gs:List (DataW H))(before:List MemPlace)
  (hval: ∀(j:Nat) t v, Tryz.f8.params[j]? =some t→args[j]? =some v→Value.okWide Tryz.prog W .any base t v)
  (hW:DataW.Whole enc Tryz.prog Tryz.f8.params.toList Rows.treeCopiesSpec.vars false W args.toList ds gs before):
  Calls Tryz.prog 8 args W fun e W'=> ∃v,e= .returned v∧Rows.treeCopiesSpec.post enc Tryz.prog Tryz.f8 false true false false W args v W':=by
 have hW':=hW
 obtain⟨p,q,hA0,hV,rfl,hfz,hnd⟩:=hW
 have hA:DataW.TrodAll enc Tryz.prog W 0 (fun _=>true) true Tryz.f8.params.toList args.toList ds p:=hA0
 rw[Tryz.params8]at hA hval
 obtain⟨v0,vs0,d0,ds0,p0,q0,hargs,rfl,rfl,h0,r0⟩:=trodAll_cons hA
 obtain⟨v1,vs1,d1,ds1,p1,q1,rfl,rfl,rfl,h1,r1⟩:=trodAll_cons r0
 obtain⟨rfl,rfl,rfl⟩:=trodAll_nil r1
 obtain rfl:args= #[v0,v1]:=by cases args;simp_all
 obtain⟨rfl,rfl⟩:=trodVars_none hV
 clear hA0
 have hlt0: ∀x∈p0,x.block<W.heap.size:=fun x hx=>hW'.lt x (by simp[hx])
 have hlt1: ∀x∈p1,x.block<W.heap.size:=fun x hx=>hW'.lt x (by simp[hx])
 obtain⟨ahead,hN⟩:=strs_in (okWide_slice Tryz.underlying37 (hval 0 37 v0 rfl rfl)) h0
 obtain⟨behind,hM⟩:=strs_in (okWide_slice Tryz.underlying37 (hval 1 37 v1 rfl rfl)) h1
 obtain⟨m,hm⟩: ∃m:Nat,300000000≤m:=⟨_,Nat.le_refl _⟩
 obtain⟨H',hrun,hP⟩:=Go.Eng.Sh.treeCopies_walk m (m+2) hm (by omega) (Go.Eng.H0_ok W) hN hM
 have hcall:=Go.Eng.calls_param (Go.Eng.Sh.f8z_ok (Go.Eng.Sh.dy_ok (m+2)) (m+2)) W (args:= #[v0,v1]) (H':=H') hrun (fun A hA=>hP.keep A hA (fun x=>x))
 refine hcall.mono fun e W' ⟨he,hb⟩=> ?_
 subst he
 simp only[List.append_nil]at hW'
 refine⟨_,rfl,_,_,_,[],p0++(p1++[]),[],hW', ?_, ?_,rfl,hb.frame _,fun h=>by cases h⟩
 ·exact trodAll_cons_mk (shut_bool Tryz.underlying4 _) trodAll_mk0
 ·exact trodAll_cons_mk (Below.trod laid (by kernel_rfl) (of_decide_eq_true (by kernel_rfl)) h0 hb hlt0) (trodAll_cons_mk (Below.trod laid (by kernel_rfl) (of_decide_eq_true (by kernel_rfl)) h1 hb hlt1) trodAll_mk0)
set_option maxRecDepth 100000 in
theorem lifted (os:Os)(started:os.Started)(H:Type)(enc:TypeId×Value→H):
  ReturnsInHanded {} Tryz.checked os 8 .any (Rows.treeCopiesSpec.pre6 enc Tryz.prog Tryz.f8 Rows.treeCopiesRow.domain false) (Rows.treeCopiesSpec.post enc Tryz.prog Tryz.f8 false true false false):=by
 refine returnsInHanded_of_change (C:= Tryz.checked) own started (by kernel_rfl) Tryz.func8
  (ChangeSpec.witness6 (enc:=enc) (C:= Tryz.checked) false ⟨#[], #[.slice none 0 0, .slice none 0 0],[]⟩ 8 (by kernel_rfl) (by kernel_rfl) (by kernel_rfl) (by kernel_rfl)) ?_
 intro W base args ds gs before hval hW _ _
 exact contract H enc W base args ds gs before hval hW
theorem holds:Rows.TreeCopiesSaid:=
 OpenClaim.holds_of_wide 8 Tryz.f8 rfl rfl rfl rfl rfl rfl rfl ⟨rfl,rfl,rfl,rfl,rfl⟩ rfl rfl rfl rfl rfl (by kernel_rfl) Tryz.func8 (by kernel_rfl)
  (of_decide_eq_true (by kernel_rfl)) (by unfold Func.isWrapper;first | (rw[if_pos (by decide+kernel)];kernel_rfl) | (rw[if_neg (by decide+kernel)];exact⟨rfl,rfl⟩))
  (fun os started H enc _=>lifted os started H enc)
end Go.Proofs.YtngkjhifpekkcaaGreat.treeCopies
namespace Go.Proofs.YtngkjhifpekkcaaGreat
theorem treeCopies_holds:Rows.TreeCopiesSaid:=treeCopies.holds
end Go.Proofs.YtngkjhifpekkcaaGreat
end
