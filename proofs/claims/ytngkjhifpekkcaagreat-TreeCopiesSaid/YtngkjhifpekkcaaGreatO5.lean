/- A checked evaluator for the program, and what it tells, part 5: no condition. -/
import Derived.Test.YtngkjhifpekkcaaGreatO4
import Derived.Test.YtngkjhifpekkcaaGreatProg
import Derived.KernelRfl
set_option linter.all false
set_option linter.unusedVariables false
set_option linter.unusedSimpArgs false
set_option maxHeartbeats 8000000
section
noncomputable section
namespace Go.Eng.Sh
open Go.Proofs
set_option maxRecDepth 1000000
def z18 (D:Dyn)(n:Nat)(vs:List AV)(H:AH):Option (AV×AH):=cloK (f18 D n) vs H
theorem z18_ok {D:Dyn}(hD:DG D)(n:Nat):FI 18 (z18 D n):=cloI_ok ⟨_,Tryz.func18,rfl⟩ c18 (f18_ok hD n)
def s8z (D:Dyn)(n:Nat):Tb:=⟨X,[(18,z18 D n),(19,f19 D n),(21,f21 D n),(20,f20 D n),(37,f37 D n),(23,f23 D n),(22,f22 D n)]⟩
def f8zl0 (D:Dyn)(n:Nat)(vs:List AV)(H:AH):Rs:=
 hd vs fun x0_3 vs=>hd vs fun x1_3 vs=>hd vs fun x5_2 vs=>hd vs fun x6_2 vs=>hd vs fun x7_2 vs=>hd vs fun x8 vs=>
 bV (lnSl x6_2) fun x58=>
 bV (bInt .lss x8 x58) fun x59=>
 jn (wnt x59 true (bV (ixSl 2 x6_2 x8) fun x63=>
 bV (fAd 0 x63) fun x64=>
 bV (ld1 x64 H) fun x65=>
 bV (ixSl 1 x0_3 x7_2) fun x68=>
 bV (ld1 x68 H) fun x69=>
 bV (bStr .lss x65 x69) fun x70=>
 some (.norm [x70],H)) (some (.norm [undefA],H))) fun vs H=>hd vs fun x70_2 vs=>
 bV (pk3 (some x59) (some x70_2) (some (.bool false))) fun x71=>
 cnd x71 (bV (bInt .add x8 (.int .i64 (.ofNat 1))) fun x73=>
 some (.norm [x0_3,x1_3,x5_2,x6_2,x7_2,x73],H))
 (some (.exit 2 [x0_3,x1_3,x5_2,x6_2,x7_2,x8],H))
def f8zj1 (D:Dyn)(n:Nat)(vs:List AV)(H:AH):Rs:=
 hd vs fun x0_5 vs=>hd vs fun x1_5 vs=>hd vs fun x5_4 vs=>hd vs fun x6_4 vs=>hd vs fun x7_4 vs=>
 some (.norm [x0_5,x1_5,x5_4,x6_4,x7_4],H)
def f8zb2 (D:Dyn)(n:Nat)(vs:List AV)(H:AH):Rs:=
 hd vs fun x0_4 vs=>hd vs fun x1_4 vs=>hd vs fun x5_3 vs=>hd vs fun x6_3 vs=>hd vs fun x7_3 vs=>hd vs fun x8_2 vs=>
 bV (lnSl x6_3) fun x76=>
 bV (bInt .eql x8_2 x76) fun x77=>
 jn (wnt x77 false (bV (ixSl 2 x6_3 x8_2) fun x81=>
 bV (fAd 0 x81) fun x82=>
 bV (ld1 x82 H) fun x83=>
 bV (ixSl 1 x0_4 x7_3) fun x86=>
 bV (ld1 x86 H) fun x87=>
 bV (bStr .neq x83 x87) fun x88=>
 some (.norm [x88],H)) (some (.norm [undefA],H))) fun vs H=>hd vs fun x88_2 vs=>
 bV (pk3 (some x77) (some (.bool true)) (some x88_2)) fun x89=>
 jn (cnd x89 (bA (bldL 48 2 0 [(.str 0 0),(.str 0 0)] []) H fun x90 H=>
 bV (slSl 2 x6_3 none (some x8_2) none H) fun x93=>
 bV (ixSl 1 x0_4 x7_3) fun x97=>
 bV (ld1 x97 H) fun x98=>
 bV (ixSl 1 x0_4 x7_3) fun x101=>
 bV (ld1 x101 H) fun x102=>
 bV (slSl 2 x6_3 (some x8_2) none none H) fun x109=>
 bR (apP 48 2 32 x90 x93 H) fun x94 H=>chk (ld1 x97 H) x98 <| chk (ld1 x101 H) x102 <| chk (slSl 2 x6_3 (some x8_2) none none H) x109 <|
 bR (f21 D n [x102] H) fun x103 H=>chk (ld1 x97 H) x98 <| chk (slSl 2 x6_3 (some x8_2) none none H) x109 <|
 bV (bldS [(0,1),(1,1)] [(.str 0 0),(.str 0 0)] [(0,x98),(1,x103)]) fun x104=>
 bA (bldL 48 2 1 [(.str 0 0),(.str 0 0)] [(0,x104)]) H fun x105 H=>
 bR (apP 48 2 32 x94 x105 H) fun x106 H=>chk (slSl 2 x6_3 (some x8_2) none none H) x109 <|
 bR (apP 48 2 32 x106 x109 H) fun x110 H=>
 some (.norm [x0_4,x1_4,x5_3,x110,x7_3],H))
 (some (.norm [x0_4,x1_4,x5_3,x6_3,x7_3],H))) (f8zj1 D n)
def f8zb3 (D:Dyn)(n:Nat)(vs:List AV)(H:AH):Rs:=
 hd vs fun x0_6 vs=>hd vs fun x1_6 vs=>hd vs fun x5_5 vs=>hd vs fun x6_5 vs=>hd vs fun x7_5 vs=>
 bV (bInt .add x7_5 (.int .i64 (.ofNat 1))) fun x34=>
 some (.norm [x0_6,x1_6,x5_5,x6_5,x34],H)
def f8zl4 (D:Dyn)(n:Nat)(vs:List AV)(H:AH):Rs:=
 hd vs fun x0_2 vs=>hd vs fun x1_2 vs=>hd vs fun x5 vs=>hd vs fun x6 vs=>hd vs fun x7 vs=>
 bV (lnSl x0_2) fun x31=>
 bV (bInt .lss x7 x31) fun x32=>
 cnd x32 (jb 1 (bV (ixSl 1 x0_2 x7) fun x37=>
 bV (ld1 x37 H) fun x38=>
 bV (lnStr x38) fun x39=>
 bV (bInt .gtr x39 (.int .i64 (.ofNat 1000))) fun x40=>
 cnd x40 (bV (some (.bool true)) fun x4_3=>some (.ret x4_3,H))
 (bV (pNil x5) fun x42=>
 bV (fAd 2 x42) fun x43=>
 bV (ld1 x43 H) fun x44=>
 bV (ixSl 1 x0_2 x7) fun x47=>
 bV (ld1 x47 H) fun x48=>
 bV (ixSl 1 x0_2 x7) fun x51=>
 bV (ld1 x51 H) fun x52=>
 bR (f21 D n [x52] H) fun x53 H=>chk (ld1 x43 H) x44 <| chk (ld1 x47 H) x48 <|
 bR (f20 D n [x44,x48,x53] H) fun x54 H=>
 bV (bInt .neq x54 (.int .i64 (.ofNat 0))) fun x55=>
 cnd x55 (some (.exit 1 [x0_2,x1_2,x5,x6,x7],H))
 (jb 2 (loopK n (f8zl0 D n) [x0_2,x1_2,x5,x6,x7,(.int .i64 (.ofNat 0))] H) (f8zb2 D n)))) (f8zb3 D n))
 (some (.exit 0 [x1_2,x5,x6],H))
def f8zj5 (D:Dyn)(n:Nat)(vs:List AV)(H:AH):Rs:=
 hd vs fun x1_9 vs=>hd vs fun x5_8 vs=>hd vs fun x6_8 vs=>hd vs fun x9_2 vs=>hd vs fun x10_2 vs=>
 bV (bInt .add x10_2 (.int .i64 (.ofNat 1))) fun x121=>
 some (.norm [x1_9,x5_8,x6_8,x9_2,x121],H)
def f8zl6 (D:Dyn)(n:Nat)(vs:List AV)(H:AH):Rs:=
 hd vs fun x1_8 vs=>hd vs fun x5_7 vs=>hd vs fun x6_7 vs=>hd vs fun x9 vs=>hd vs fun x10 vs=>
 bV (lnSl x1_8) fun x118=>
 bV (bInt .lss x10 x118) fun x119=>
 cnd x119 (bV (ixSl 1 x1_8 x10) fun x124=>
 bV (ld1 x124 H) fun x125=>
 bV (lnStr x125) fun x126=>
 bV (bInt .gtr x126 (.int .i64 (.ofNat 1000))) fun x127=>
 cnd x127 (bV (some (.bool true)) fun x4_4=>some (.ret x4_4,H))
 (bV (bInt .rem x10 (.int .i64 (.ofNat 3))) fun x129=>
 bV (bInt .eql x129 (.int .i64 (.ofNat 0))) fun x130=>
 jn (cnd x130 (bV (ixSl 1 x1_8 x10) fun x134=>
 bV (ld1 x134 H) fun x135=>
 bR (f23 D n [x9,x135] H) fun x136 H=>
 some (.norm [x1_8,x5_7,x6_7,x9,x10],H))
 (bV (ixSl 1 x1_8 x10) fun x140=>
 bV (ld1 x140 H) fun x141=>
 bR (f20 D n [x9,x141,(.str 11 122623018020828045242232417)] H) fun x142 H=>
 some (.norm [x1_8,x5_7,x6_7,x9,x10],H))) (f8zj5 D n)))
 (some (.exit 4 [x5_7,x6_7],H))
def f8zl7 (D:Dyn)(n:Nat)(vs:List AV)(H:AH):Rs:=
 hd vs fun x5_10 vs=>hd vs fun x6_10 vs=>hd vs fun x11 vs=>hd vs fun x12 vs=>
 bV (lnSl x6_10) fun x150=>
 bV (bInt .lss x12 x150) fun x151=>
 cnd x151 (bV (ixSl 2 x6_10 x12) fun x157=>
 bV (fAd 0 x157) fun x158=>
 bV (ld1 x158 H) fun x159=>
 bR (f23 D n [x11,x159] H) fun x160 H=>
 bV (bInt .neq x160 (.int .i64 (.ofNat 0))) fun x161=>
 cnd x161 (bV (some (.bool false)) fun x4_5=>some (.ret x4_5,H))
 (bV (bInt .add x12 (.int .i64 (.ofNat 1))) fun x153=>
 some (.norm [x5_10,x6_10,x11,x153],H)))
 (some (.exit 6 [x5_10,x6_10,x11],H))
def f8zb8 (D:Dyn)(n:Nat)(vs:List AV)(H:AH):Rs:=
 hd vs fun x5_11 vs=>hd vs fun x6_11 vs=>hd vs fun x11_2 vs=>
 bV (pNil x5_11) fun x163=>
 bV (fAd 2 x163) fun x164=>
 bV (ld1 x164 H) fun x165=>
 bR (f22 D n [x165,x6_11] H) fun x167 H=>
 jn (wnt x167 true (bR (f22 D n [x11_2, .nilSlice] H) fun x170 H=>
 some (.norm [x170],H)) (some (.norm [undefA],H))) fun vs H=>hd vs fun x170_2 vs=>
 bV (pk3 (some x167) (some x170_2) (some (.bool false))) fun x171=>
 bV (some x171) fun x4_6=>some (.ret x4_6,H)
def f8zb9 (D:Dyn)(n:Nat)(vs:List AV)(H:AH):Rs:=
 hd vs fun x5_9 vs=>hd vs fun x6_9 vs=>
 bV (pNil x5_9) fun x144=>
 bV (fAd 2 x144) fun x145=>
 bV (ld1 x145 H) fun x146=>
 bR (f37 D n [x146] H) fun x147 H=>
 jb 6 (loopK n (f8zl7 D n) [x5_9,x6_9,x147,(.int .i64 (.ofNat 0))] H) (f8zb8 D n)
def f8zb10 (D:Dyn)(n:Nat)(vs:List AV)(H:AH):Rs:=
 hd vs fun x1_7 vs=>hd vs fun x5_6 vs=>hd vs fun x6_6 vs=>
 bV (pNil x5_6) fun x112=>
 bV (fAd 2 x112) fun x113=>
 bV (ld1 x113 H) fun x114=>
 bR (f37 D n [x114] H) fun x115 H=>
 jb 4 (loopK n (f8zl6 D n) [x1_7,x5_6,x6_6,x115,(.int .i64 (.ofNat 0))] H) (f8zb9 D n)
def f8z (D:Dyn)(n:Nat)(vs:List AV)(H:AH):Option (AV×AH):=
 outR (hd vs fun x0 vs=>hd vs fun x1 vs=>nl vs <|
 bR (z18 D n [] H) fun x13 H=>
 bV (aun .not x13) fun x14=>
 jn (wnt x14 false (bV (lnSl x0) fun x17=>
 bV (bInt .gtr x17 (.int .i64 (.ofNat 100))) fun x18=>
 some (.norm [x18],H)) (some (.norm [undefA],H))) fun vs H=>hd vs fun x18_2 vs=>
 bV (pk3 (some x14) (some (.bool true)) (some x18_2)) fun x19=>
 jn (wnt x19 false (bV (lnSl x1) fun x22=>
 bV (bInt .gtr x22 (.int .i64 (.ofNat 100))) fun x23=>
 some (.norm [x23],H)) (some (.norm [undefA],H))) fun vs H=>hd vs fun x23_2 vs=>
 bV (pk3 (some x19) (some (.bool true)) (some x23_2)) fun x24=>
 cnd x24 (bR (z18 D n [] H) fun x25 H=>
 bV (some x25) fun x4=>some (.ret x4,H))
 (bR (f19 D n [(.int .i64 (.ofNat 0))] H) fun x26 H=>
 bV (cmpO .eql (eqP x26 .nilPtr)) fun x28=>
 cnd x28 (bV (some (.bool false)) fun x4_2=>some (.ret x4_2,H))
 (jb 0 (loopK n (f8zl4 D n) [x0,x1,x26, .nilSlice,(.int .i64 (.ofNat 0))] H) (f8zb10 D n))))
def h8z:Hint:=(.s .o (.s (.s .o (.cl (.s .o .o) .o)) (.s .o (.s (.s .o (.cl (.s .o .o) .o)) (.s .o (.s (.s .o (.b [1,5,6] (.l [0,1,5,6,7] (.s (.s .o (.cr .o .o)) (.s (.b [0,1,5,6,7] (.s (.s .o (.cl (.s .o .o) .o)) (.s (.s .o (.cl .o .o)) (.s .o (.s (.b [0,1,5,6,7,8] (.l [0,1,5,6,7,8] (.s (.s .o (.cr .o .o)) (.b0 .o)))) (.s .o (.c [0,1,5,6,7] .o .o))))))) .o))))) (.s .o (.s (.s .o (.b [5,6] (.l [1,5,6,9,10] (.s (.s .o (.cr .o .o)) (.s (.b0 (.s (.s .o (.cl (.s .o .o) .o)) (.s .o (.c [1,5,6,9,10] .o .o)))) .o))))) (.s .o (.s (.s .o (.b [5,6,11] (.l [5,6,11,12] (.s (.s .o (.cr .o .o)) (.s (.b0 (.s .o (.cl (.s .o .o) .o))) .o))))) (.s .o .o)))))))))))
theorem f8z_eq (D:Dyn)(n:Nat):f8z D n=funK (s8z D n) D n 8 Tryz.f8 h8z:=by kernel_rfl
theorem f8z_ok {D:Dyn}(hD:DG D)(n:Nat):FI 8 (f8z D n):=fun_ok X_ok hD (SOk.cons (z18_ok hD n).fs (SOk.cons (f19_ok hD n).fs (SOk.cons (f21_ok hD n).fs (SOk.cons (f20_ok hD n).fs (SOk.cons (f37_ok hD n).fs (SOk.cons (f23_ok hD n).fs (SOk.cons (f22_ok hD n).fs (SOk.nil)))))))) Tryz.func8 (by kernel_rfl) (f8z_eq D n)
end Go.Eng.Sh
end
end
section
namespace Go.Nd
abbrev Str:=List UInt8
structure Ptr where
 at_:Int
 birth:Int
 sum:Int
 deriving DecidableEq
structure Node where
 leaf:Bool
 keys:List Str
 vals:List Str
 kids:List Ptr
 deriving DecidableEq
def be:Nat→Nat→Str
 | 0,_=>[]
 | k+1,n=>be k (n / 256)++[UInt8.ofNat n]
theorem be_length: ∀k n,(be k n).length=k
 | 0,_=>rfl
 | k+1,n=>by simp[be,be_length k]
def mayP (p:Ptr):Bool:=if p.at_=0 then decide (p.birth=0)&&decide (p.sum=0)else decide (0<p.at_)&&decide (p.at_<8192)&&decide (0≤p.birth)&&decide (p.birth≤2147483647)
def encP (p:Ptr):Str:=be 4 p.at_.toNat++(be 4 p.birth.toNat++be 8 p.sum.toNat)
theorem encP_length (p:Ptr):(encP p).length=16:=by simp[encP,be_length]
def sumOk (p:Ptr):Prop:=0≤p.sum∧p.sum<18446744073709551616
def mayK (k:Str):Bool:=decide (1≤k.length)&&decide (k.length≤40)
def rising (lt:Str→Str→Bool):List Str→Bool
 | []=>true
 | [_]=>true
 | a::b::l=>lt a b&&rising lt (b::l)
def kidOk (p:Ptr):Bool:=decide (1≤p.at_)&&decide (p.at_<8192)&&decide (0≤p.birth)&&decide (p.birth≤2147483647)
def shaped (lt:Str→Str→Bool)(n:Node):Bool:=
 n.keys.all mayK&&rising lt n.keys&&
 (if n.leaf then decide (n.vals.length=n.keys.length)&&decide (n.kids=[])&&n.vals.all (fun v=>decide (v.length≤200))
  else decide (n.keys≠[])&&decide (n.vals=[])&&decide (n.kids.length=n.keys.length+1)&&n.kids.all kidOk)
def sumL (l:List Str):Nat:=l.foldl (fun n s=>n+(1+s.length)) 0
theorem sumL_from (l:List Str)(a:Nat):l.foldl (fun n s=>n+(1+s.length)) a=a+sumL l:=by
 induction l generalizing a with
 | nil=>simp[sumL]
 | cons s l ih=>simp only[List.foldl_cons,sumL];rw[ih,ih];omega
theorem sumL_cons (s:Str)(l:List Str):sumL (s::l)=1+s.length+sumL l:=by
 simp only[sumL,List.foldl_cons];rw[sumL_from,sumL_from];simp[sumL]
theorem sumL_append (l m:List Str):sumL (l++m)=sumL l+sumL m:=by
 induction l with
 | nil=>simp[sumL]
 | cons s l ih=>rw[List.cons_append,sumL_cons,sumL_cons,ih];omega
def size (n:Node):Nat:=2+16*n.kids.length+sumL n.keys+sumL n.vals
def may (lt:Str→Str→Bool)(n:Node):Bool:=shaped lt n&&decide (size n≤500)
theorem sumL_ge (l:List Str):l.length≤sumL l:=by
 induction l with
 | nil=>simp
 | cons s l ih=>rw[sumL_cons,List.length_cons];omega
end Go.Nd
end
section
namespace Go.Eng
theorem loop_for {b:List AV→AH→Rs}{H:AH}{r:Rs}(st:Nat→List AV)(N:Nat)(step: ∀i,i<N→b (st i) H=some (.norm (st (i+1)),H))(last: ∀n,loopK (n+1) b (st N) H=r): ∀n,N<n→loopK n b (st 0) H=r:=by
 suffices h: ∀(m i n:Nat),i+m=N→m<n→loopK n b (st i) H=r from fun n hn=>h N 0 n (by omega) hn
 intro m
 induction m with
 | zero=>
  intro i n hi hn
  obtain⟨n,rfl⟩: ∃k,n=k+1:=⟨n - 1,by omega⟩
  rw[show i=N by omega];exact last n
 | succ m ih=>
  intro i n hi hn
  obtain⟨n,rfl⟩: ∃k,n=k+1:=⟨n - 1,by omega⟩
  rw[loop_next (step i (by omega))]
  exact ih (i+1) n (by omega) (by omega)
theorem sum_take_succ {α:Type}(l:List α)(i:Nat)(h:i<l.length):l.take (i+1)=l.take i++[l[i]]:=by
 rw[List.take_succ_eq_append_getElem h]
theorem ld1_push (H:AH)(l:List AV)(e sz o:Nat)(g:Bool):ld1 (.ptr H.next o) (H.push (.cells l e sz g))=l[o]? :=by simp only[ld1,AH.push_get_eq,nth_eq]
theorem ldN_push (H:AH)(l:List AV)(e sz o n:Nat)(g:Bool):ldN n (.ptr H.next o) (H.push (.cells l e sz g))=(subN l o n).map .agg:=by
 simp only[ldN,AH.push_get_eq];cases subN l o n<;>rfl
theorem ld1_old {H:AH}{A:Nat}(o:Nat)(x:AObj)(h:A<H.next):ld1 (.ptr A o) (H.push x)=ld1 (.ptr A o) H:=by simp only[ld1,AH.push_get_ne _ _ h]
theorem ldN_old {H:AH}{A:Nat}(o n:Nat)(x:AObj)(h:A<H.next):ldN n (.ptr A o) (H.push x)=ldN n (.ptr A o) H:=by simp only[ldN,AH.push_get_ne _ _ h]
theorem loop_inv {b:List AV→AH→Rs}(N:Nat)(I:Nat→List AV→AH→Prop)(step: ∀i vs H,i<N→I i vs H→ ∃vs' H',b vs H=some (.norm vs',H')∧I (i+1) vs' H'):
  ∀(n:Nat) (vs:List AV) (H:AH),I 0 vs H→N<n→ ∃m vs' H',loopK n b vs H=loopK (m+1) b vs' H'∧I N vs' H':=by
 suffices h: ∀(m i n:Nat) (vs:List AV) (H:AH),i+m=N→m<n→I i vs H→ ∃m vs' H',loopK n b vs H=loopK (m+1) b vs' H'∧I N vs' H' from fun n vs H h0 hn=>h N 0 n vs H (by omega) hn h0
 intro m
 induction m with
 | zero=>
  intro i n vs H hi hn hI
  obtain⟨n,rfl⟩: ∃k,n=k+1:=⟨n - 1,by omega⟩
  exact⟨n,vs,H,rfl,by rw[show N=i by omega];exact hI⟩
 | succ m ih=>
  intro i n vs H hi hn hI
  obtain⟨n,rfl⟩: ∃k,n=k+1:=⟨n - 1,by omega⟩
  obtain⟨vs',H',h1,h2⟩:=step i vs H (by omega) hI
  rw[loop_next h1]
  exact ih (i+1) n vs' H' (by omega) (by omega) h2
def notN:Ex→Bool
 | .norm _=>false
 | _=>true
theorem jn_notN {e:Ex}{H:AH}{K:List AV→AH→Rs}(h:notN e=true):jn (some (e,H)) K=some (e,H):=by cases e<;>first | rfl | (simp[notN]at h)
theorem loop_all {b:List AV→AH→Rs}(N:Nat)(good:Nat→Bool)(I:Nat→List AV→AH→Prop)(Good Bad:Ex→AH→Prop)
  (step: ∀i vs H,i<N→I i vs H→good i=true→ ∃vs' H',b vs H=some (.norm vs',H')∧I (i+1) vs' H')
  (bad: ∀i vs H,i<N→I i vs H→good i=false→ ∃e H',b vs H=some (e,H')∧notN e=true∧Bad e H')
  (last: ∀vs H,I N vs H→ ∃e H',b vs H=some (e,H')∧notN e=true∧Good e H'):
  ∀(n:Nat) (vs:List AV) (H:AH),I 0 vs H→N<n→ ∃e H',loopK n b vs H=some (e,H')∧if(List.range N).all good then Good e H' else Bad e H':=by
 suffices h: ∀(m i n:Nat) (vs:List AV) (H:AH),i+m=N→m<n→I i vs H→(∀j,j<i→good j=true)→ ∃e H',loopK n b vs H=some (e,H')∧if(List.range N).all good then Good e H' else Bad e H' from
  fun n vs H h0 hn=>h N 0 n vs H (by omega) hn h0 (fun j hj=>by omega)
 intro m
 induction m with
 | zero=>
  intro i n vs H hi hn hI hg
  obtain⟨n,rfl⟩: ∃k,n=k+1:=⟨n - 1,by omega⟩
  rw[show i=N by omega]at hI hg
  obtain⟨e,H',h1,h2,h3⟩:=last vs H hI
  refine⟨e,H', ?_, ?_⟩
  ·show jn (b vs H) _=_
   rw[h1,jn_notN h2]
  ·rw[if_pos (by simpa[List.all_eq_true]using hg)];exact h3
 | succ m ih=>
  intro i n vs H hi hn hI hg
  obtain⟨n,rfl⟩: ∃k,n=k+1:=⟨n - 1,by omega⟩
  cases hgi:good i with
  | true=>
   obtain⟨vs',H',h1,h2⟩:=step i vs H (by omega) hI hgi
   rw[loop_next h1]
   exact ih (i+1) n vs' H' (by omega) (by omega) h2 (fun j hj=>by
    rcases Nat.lt_succ_iff_lt_or_eq.1 hj with h | rfl
    ·exact hg j h
    ·exact hgi)
  | false=>
   obtain⟨e,H',h1,h2,h3⟩:=bad i vs H (by omega) hI hgi
   refine⟨e,H', ?_, ?_⟩
   ·show jn (b vs H) _=_
    rw[h1,jn_notN h2]
   ·rw[if_neg (by
     simp only[List.all_eq_true,List.mem_range];intro h
     have:=h i (by omega)
     rw[hgi]at this;cases this)];exact h3
theorem wnt_undef (want:Bool)(x y:Rs):wnt undefA want x y=y:=by cases want<;>rfl
theorem bInt_shr (k k':IntKind){a:Int}{s:Nat}(ha:0≤a)(hs:s≤k.bits):bInt .shr (.int k a) (.int k' (s:Int))=some (.int k (a / 2 ^ s)):=by
 show fI (a.fdiv ((2 ^ (Nat.min s k.bits):Nat):Int)) (fun r=>some (AV.int k r))=_
 rw[fI_eq,show Nat.min s k.bits=s from Nat.min_eq_left hs,Int.fdiv_eq_ediv_of_nonneg _ (Int.natCast_nonneg _)]
 simp
theorem cellsA_cell {v:AV}(h:isCell v=true):cellsA v=[v]:=by cases v<;>first | rfl | (simp[isCell]at h)
theorem Rw.isCell {k n:Nat}{H:AH}{v:AV}{l:List AV}(h:Rw k H v n l):Eng.isCell v=true:=by
 obtain⟨_,⟨rfl,_⟩ | ⟨rfl,_⟩ | ⟨A,off,cc,c,e,sz,g,rfl,_⟩⟩:=h<;>rfl
theorem cellEq_int (k:IntKind)(a b:Int):cellEq (icode k) (.int k a) (.int k b)=some (decide (a=b)):=by
 have:keq k k=true:=by rw[keq_eq];simp
 simp only[cellEq,Nat.beq_refl,this,Bool.and_self,cond_true,ieq_eq]
 congr 1
theorem aveq_row {k n:Nat}{H:AH}{v:AV}{l:List AV}(h:Rw k H v n l):aveq v v=true:=by
 obtain⟨_,⟨rfl,_⟩ | ⟨rfl,_⟩ | ⟨A,off,cc,c,e,sz,g,rfl,_⟩⟩:=h
 ·rfl
 ·rfl
 ·simp[aveq]
theorem chk_ok {x:Option AV}{v:AV}{K:Rs}(h:x=some v)(hv:aveq v v=true):chk x v K=K:=by subst h;simp[chk,hv]
theorem ld1_get {H:AH}{A:Nat}{l:List AV}{e:TypeId}{sz:Nat}{g:Bool}(h:H.h.get A=some (.cells l e sz g))(o:Nat):ld1 (.ptr A o) H=l[o]? :=by simp only[ld1,h,nth_eq]
theorem ldN_get {H:AH}{A:Nat}{l:List AV}{e:TypeId}{sz:Nat}{g:Bool}(h:H.h.get A=some (.cells l e sz g))(o n:Nat):ldN n (.ptr A o) H=(subN l o n).map .agg:=by simp only[ldN,h];cases subN l o n<;>rfl
theorem jn_orf (b c:Bool)(H:AH)(K:AV→AH→Rs):
  jn (if b=false then some (.norm [.bool c],H)else some (.norm [undefA],H)) (fun vs H=>hd vs fun y _=>bV (if b=true then some (.bool true)else some y) fun x=>K x H)=K (.bool (b||c)) H:=by
 cases b<;>simp[jn,hd,bV]
theorem jn_orn (p:Prop)[Decidable p](b:Bool)(H:AH)(K:AV→AH→Rs):
  jn (if ¬p then some (.norm [.bool b],H)else some (.norm [undefA],H)) (fun vs H=>hd vs fun y _=>bV (if p then some (.bool true)else some y) fun x=>K x H)=K (.bool (decide p||b)) H:=by
 by_cases h:p<;>simp[h,jn,hd,bV]
theorem lg:(∀(p:Prop) [Decidable p] (b:Bool) (H:AH) (K:AV→AH→Rs),jn (if ¬p then some (.norm [.bool b],H)else some (.norm [undefA],H)) (fun vs H=>hd vs fun y _=>bV (if p then some (.bool true)else some y) fun x=>K x H)=K (.bool (decide p||b)) H)∧
  (∀(p:Prop) [Decidable p] (b:Bool) (H:AH) (K:AV→AH→Rs),jn (if p then some (.norm [.bool b],H)else some (.norm [undefA],H)) (fun vs H=>hd vs fun y _=>bV (if p then some y else some (.bool false)) fun x=>K x H)=K (.bool (decide p&&b)) H)∧
  (∀(p:Prop) [Decidable p] (b:Bool) (H:AH) (K:AV→AH→Rs),jn (if p then some (.norm [undefA],H)else some (.norm [.bool b],H)) (fun vs H=>hd vs fun y _=>bV (if p then some (.bool true)else some y) fun x=>K x H)=K (.bool (decide p||b)) H)∧
  (∀(b c:Bool) (H:AH) (K:AV→AH→Rs),jn (if b=false then some (.norm [.bool c],H)else some (.norm [undefA],H)) (fun vs H=>hd vs fun y _=>bV (if b=true then some (.bool true)else some y) fun x=>K x H)=K (.bool (b||c)) H)∧
  (∀(p:Prop) [Decidable p],(decide p=true)=p)∧(∀(p:Prop) [Decidable p],(decide p=false)= ¬p)∧(∀(b:Bool),decide (b=true)=b):=
 ⟨fun p _ b H K=>jn_orn p b H K,fun p _ b H K=>jn_and p b H K,fun p _ b H K=>jn_or p b H K,jn_orf,fun p _=>decide_eq_true_eq,fun p _=>by simp,fun b=>by simp⟩
theorem ev:(∀(v:AV) (vs:List AV) (K:AV→List AV→Rs),hd (v::vs) K=K v vs)∧
 (∀(K:Rs),nl [] K=K)∧
 (∀(v:AV) (K:AV→Rs),bV (some v) K=K v)∧
 (∀(v:AV) (H:AH) (K:AV→AH→Rs),bR (some (v,H)) K=K v H)∧
 (∀(vs:List AV) (H:AH) (K:List AV→AH→Rs),jn (some (.norm vs,H)) K=K vs H)∧
 (∀(v:AV) (H:AH) (K:List AV→AH→Rs),jn (some (.ret v,H)) K=some (.ret v,H))∧
 (∀(i:Nat) (vs:List AV) (H:AH) (K:List AV→AH→Rs),jn (some (.exit i vs,H)) K=some (.exit i vs,H))∧
 (∀(id:Nat) (vs:List AV) (H:AH) (K:List AV→AH→Rs),jb id (some (.norm vs,H)) K=K vs H)∧
 (∀(id:Nat) (v:AV) (H:AH) (K:List AV→AH→Rs),jb id (some (.ret v,H)) K=some (.ret v,H))∧
 (∀(id:Nat) (vs:List AV) (H:AH) (K:List AV→AH→Rs),jb id (some (.exit id vs,H)) K=K vs H)∧
 (∀(v:AV) (H:AH),outR (some (.ret v,H))=some (v,H))∧
 (∀(b:Bool) (x y:Rs),cnd (.bool b) x y=if b then x else y)∧
 (∀(b want:Bool) (x y:Rs),wnt (.bool b) want x y=if b=want then x else y)∧
 (∀(b:Bool) (x y:Option AV),pk3 (some (.bool b)) x y=if b then x else y)∧
 (∀(k:IntKind) (a b:Int),bInt .add (.int k a) (.int k b)=some (.int k (k.wrap (a+b))))∧
 (∀(k:IntKind) (a b:Int),bInt .sub (.int k a) (.int k b)=some (.int k (k.wrap (a - b))))∧
 (∀(k:IntKind) (a b:Int),bInt .mul (.int k a) (.int k b)=some (.int k (k.wrap (a*b))))∧
 (∀(k:IntKind) (a b:Int),bInt .eql (.int k a) (.int k b)=some (.bool (decide (a=b))))∧
 (∀(k:IntKind) (a b:Int),bInt .neq (.int k a) (.int k b)=some (.bool (decide (a≠b))))∧
 (∀(k:IntKind) (a b:Int),bInt .lss (.int k a) (.int k b)=some (.bool (decide (a<b))))∧
 (∀(k:IntKind) (a b:Int),bInt .leq (.int k a) (.int k b)=some (.bool (decide (a≤b))))∧
 (∀(k:IntKind) (a b:Int),bInt .gtr (.int k a) (.int k b)=some (.bool (decide (b<a))))∧
 (∀(k:IntKind) (a b:Int),bInt .geq (.int k a) (.int k b)=some (.bool (decide (b≤a))))∧
 (∀(k k':IntKind) (z:Int),cvI k (.int k' z)=some (.int k (k.wrap z)))∧
 (∀(a b:Bool),bBool .eql (.bool a) (.bool b)=some (.bool (a==b)))∧
 (∀(a b:Bool),bBool .neq (.bool a) (.bool b)=some (.bool (!(a==b))))∧
 (∀(b:Bool),aun .not (.bool b)=some (.bool !b))∧
 (∀(l:Str),lnStr (S l)=some (.int .i64 (l.length:Nat)))∧
 (∀(l m:Str),bStr .eql (S l) (S m)=some (.bool (decide (l=m))))∧
 (∀(l m:Str),bStr .neq (S l) (S m)=some (.bool (decide (l≠m))))∧
 (∀(l m:Str),bStr .lss (S l) (S m)=some (.bool (ltS l m)))∧
 (∀(l m:Str),bStr .geq (S l) (S m)=some (.bool (!ltS l m)))∧
 (∀(A o:Nat),pNil (.ptr A o)=some (.ptr A o))∧
 (∀(f A o:Nat),fAd f (.ptr A o)=some (.ptr A (o+f)))∧
 (∀(e:TypeId) (x:AV),bxV e x=some (.cells (cellsA x) e 1 false,fun A=> .ptr A 0))∧
 (∀(l:List AV),cellsA (.agg l)=l)∧
 (∀(H:AH) (l:List AV) (e sz o:Nat) (g:Bool),ld1 (.ptr H.next o) (H.push (.cells l e sz g))=l[o]?)∧
 (∀(H:AH) (l:List AV) (e sz o n:Nat) (g:Bool),ldN n (.ptr H.next o) (H.push (.cells l e sz g))=(subN l o n).map .agg)∧
 (∀(a:AV) (l:List AV),(a::l)[0]? =some a)∧
 (∀(a:AV) (l:List AV) (i:Nat),(a::l)[i+1]? =l[i]?)∧
 (∀(n:Nat),0+n=n)∧
 (∀(n:Nat),Int.ofNat n=(n:Int))∧
 (∀(z:Int), -9223372036854775808≤z→z≤9223372036854775807→IntKind.wrap .i64 z=z):=
 ⟨hd_cons,nl_nil,bVs,bRs,jn_norm,jn_ret,jn_exit,jb_norm,jb_ret,jb_exit,outR_ret,cnd_b,wnt_b,pk3_b,bInt_add,bInt_sub,bInt_mul,bInt_eql,bInt_neq,bInt_lss,bInt_leq,bInt_gtr,bInt_geq,cvI_int,bBool_eql,bBool_neq,aun_not,lnStr_S,bStr_eql,bStr_neq,bStr_lss,bStr_geq,pNil_ptr,fAd_ptr,fun _ _=>rfl,fun _=>rfl,ld1_push,ldN_push,fun _ _=>List.getElem?_cons_zero,fun _ _ _=>List.getElem?_cons_succ,Nat.zero_add,fun _=>rfl,fun _ h1 h2=>wrap_i64 h1 h2⟩
end Go.Eng
end
section
namespace Go.Eng
def Grow (k e:Nat)(H:AH)(v:AV)(n:Nat)(l:List AV):Prop:=
 Own k e H v n l∨(l.length=n*k∧ ∃A e' g,v= .slice A 0 n (2*n)∧A<H.next∧H.h.get A=some (.cells l e' k g))
theorem Grow.len {k e n:Nat}{H:AH}{v:AV}{l:List AV}(h:Grow k e H v n l):l.length=n*k:=by
 rcases h with h | h
 ·exact h.1
 ·exact h.1
theorem Grow.row {k e n:Nat}{H:AH}{v:AV}{l:List AV}(h:Grow k e H v n l):Rw k H v n l:=by
 rcases h with h | ⟨h0,A,e',g,rfl,hA,hg⟩
 ·exact h.row
 ·exact⟨h0, .inr (.inr ⟨A,0,2*n,l,e',k,g,rfl,hg,hA,by omega,by rw[List.drop_zero,List.take_of_length_le (by omega)]⟩)⟩
theorem Grow.mono {k e n:Nat}{S:Nat→Prop}{H H':AH}{v:AV}{l:List AV}(h:Grow k e H v n l)(s:Stp S H H')(hS: ∀A,Blk v A→ ¬S A):Grow k e H' v n l:=by
 rcases h with h | ⟨h0,A,e',g,rfl,hA,hg⟩
 ·exact .inl (h.mono s hS)
 ·exact .inr ⟨h0,A,e',g,rfl,Nat.lt_of_lt_of_le hA s.next,by rw[s.keep A hA (hS A (Blk.slice.2 rfl))];exact hg⟩
theorem Grow.lt {k e n:Nat}{H:AH}{v:AV}{l:List AV}(h:Grow k e H v n l){B:Nat}(hB:Blk v B):B<H.next:=by
 rcases h with⟨_,⟨rfl,_⟩ | ⟨A,rfl,hA,_⟩⟩ | ⟨_,A,e',g,rfl,hA,_⟩
 ·exact(Blk.nil.1 hB).elim
 ·rw[Blk.slice.1 hB];exact hA
 ·rw[Blk.slice.1 hB];exact hA
theorem Grow.app1 {k e bytes n m:Nat}{H:AH}{v:AV}{l new:List AV}(hk:H.ok)(hpos:0<k)(h:Grow k e H v n l)(hm:new.length=m*k)(hn:n+m≤1000000000)(hb:bytes≤1000):
  ∃v' H',Eng.app1 e k bytes m new v H=some (v',H')∧Grow k e H' v' (n+m) (l++new)∧Stp (Blk v) H H'∧(∀B,Blk v' B→Blk v B∨H.next≤B):=by
 by_cases h0:m=0
 ·subst h0
  have:new=[]:=List.eq_nil_of_length_eq_zero (by simpa using hm)
  subst this
  rcases h with h | ⟨h0,A,e',g,rfl,hA,hg⟩
  ·obtain⟨H',h1,h2,h3,h4⟩:=app1_none (bytes:=bytes) hk hpos h
   exact⟨v,H',h1, .inl (by simpa using h2),h3.mono (fun _ _ x=>x.elim),fun B hB=> .inl hB⟩
  ·have hroom:roomOf l g k 0 (2*n) k=n:=by
    simp only[roomOf,show((2*n) % 2).beq 0=true by rw[Nat.mul_mod_right];rfl,cond_true,Nat.mul_div_cancel_left n (show 0<2 by omega)]
   have hz:Nat.blt 0 k=true:=by rw[Nat.blt_eq];exact hpos
   have hset:setAt l (0+n*k) []=some l:=by rw[setAt_some (by simp;omega)];simp
   have hg':(H.put A (.cells l e' k g)).h.get A=some (.cells l e' k g):=by rw[AH.put_get,if_pos rfl]
   refine⟨.slice A 0 n (2*n),H.put A (.cells l e' k g), ?_, .inr ⟨by simpa using h0,A,e',g,rfl,hA,by simpa using hg'⟩,(Stp.refl hk).put hA _ (.inr (Blk.slice.2 rfl)),fun B hB=> .inl hB⟩
   simp only[Eng.app1,hg,app2,hroom,Nat.add_zero,Nat.ble_eq_true_of_le (Nat.le_refl n),cond_true,hz,hset,appIn,putA_ok,fN_eq]
 ·rcases h with h | ⟨hl,A,e',g,rfl,hA,hg⟩
  ·obtain⟨H',h1,h2,h3,h4⟩:=app1_own (bytes:=bytes) hk hpos h hm (by omega) hn hb
   exact⟨_,H',h1, .inl h2,h3,fun B hB=> .inr (by rw[Blk.slice.1 hB];exact Nat.le_refl _)⟩
  ·have h1:=app1_full (k:=k) (e:=e) (bytes:=bytes) (n:=n) (m:=m) (off:=0) (new:=new) hk hg (by omega) (by omega) hn hb
   rw[List.drop_zero,List.take_of_length_le (by omega)]at h1
   refine⟨_,_,h1, .inl ⟨by simp[hl,hm,Nat.add_mul], .inr ⟨H.next,rfl,Nat.lt_succ_self _,AH.push_get_eq _ _⟩⟩,(Stp.refl hk).push _,fun B hB=> .inr (by rw[Blk.slice.1 hB];exact Nat.le_refl _)⟩
theorem Grow.app {k e bytes n m:Nat}{H:AH}{v s:AV}{l new:List AV}(hk:H.ok)(hpos:0<k)(h:Grow k e H v n l)(hs:srcOf k s H=some (m,new))(hm:new.length=m*k)(hc:allCells new=true)(hn:n+m≤1000000000)(hb:bytes≤1000):
  ∃v' H',apP e k bytes v s H=some (v',H')∧Grow k e H' v' (n+m) (l++new)∧Stp (Blk v) H H'∧(∀B,Blk v' B→Blk v B∨H.next≤B):=by
 obtain⟨v',H',h1,h2⟩:=h.app1 (bytes:=bytes) (e:=e) hk hpos hm hn hb
 exact⟨v',H',by simp only[apP,hs,hc,cond_true,h1],h2⟩
theorem Grow.isCell {k e n:Nat}{H:AH}{v:AV}{l:List AV}(h:Grow k e H v n l):isCell v=true:=h.row.isCell
def Box (H:AH)(A:Nat)(v:AV):Prop:= ∃e,H.h.get A=some (.cells [v] e 1 false)
theorem Box.ld {H:AH}{A:Nat}{v:AV}(h:Box H A v):ld1 (.ptr A 0) H=some v:=by
 obtain⟨e,h⟩:=h;rw[ld1_get h];rfl
theorem Box.st {H:AH}{A:Nat}{v x:AV}(h:Box H A v)(hk:H.ok)(hx:Eng.isCell x=true): ∃H',stN 1 (.ptr A 0) x H=some (undefA,H')∧Box H' A x∧Stp (fun B=>B=A) H H':=by
 obtain⟨e,h⟩:=h
 exact⟨_,st1_ok h (by decide) hx (by simp),⟨e,by rw[AH.put_get,if_pos rfl];rfl⟩,(Stp.refl hk).put (hk.lt h) _ (.inr rfl)⟩
theorem Box.mono {S:Nat→Prop}{H H':AH}{A:Nat}{v:AV}(h:Box H A v)(hk:H.ok)(s:Stp S H H')(hA: ¬S A):Box H' A v:=by
 obtain⟨e,h⟩:=h;exact⟨e,by rw[s.keep A (hk.lt h) hA];exact h⟩
theorem Box.lt {H:AH}{A:Nat}{v:AV}(h:Box H A v)(hk:H.ok):A<H.next:=by obtain⟨e,h⟩:=h;exact hk.lt h
end Go.Eng
end
section
namespace Go.Nd
theorem rising_ix (lt:Str→Str→Bool): ∀l:List Str,rising lt l=true↔ ∀i (h:i+1<l.length),lt l[i] l[i+1]=true
 | []=>by simp[rising]
 | [a]=>by simp[rising]
 | a::b::l=>by
  have ih:=rising_ix lt (b::l)
  simp only[rising,Bool.and_eq_true,ih]
  constructor
  ·rintro⟨h1,h2⟩ i h
   cases i with
   | zero=>exact h1
   | succ i=>exact h2 i (by simpa using h)
  ·intro h
   exact⟨h 0 (by simp),fun i hi=>h (i+1) (by simpa using hi)⟩
theorem rising_take {lt:Str→Str→Bool}{l:List Str}(h:rising lt l=true)(k:Nat):rising lt (l.take k)=true:=by
 rw[rising_ix]at h⊢
 intro i hi
 simp only[List.length_take]at hi
 simp only[List.getElem_take]
 exact h i (by omega)
theorem rising_drop {lt:Str→Str→Bool}{l:List Str}(h:rising lt l=true)(k:Nat):rising lt (l.drop k)=true:=by
 rw[rising_ix]at h⊢
 intro i hi
 simp only[List.length_drop]at hi
 simp only[List.getElem_drop]
 exact h (k+i) (by omega)
theorem all_take {α:Type}{f:α→Bool}{l:List α}(h:l.all f=true)(k:Nat):(l.take k).all f=true:=by
 simp only[List.all_eq_true]at h⊢
 exact fun x hx=>h x (List.mem_of_mem_take hx)
theorem all_drop {α:Type}{f:α→Bool}{l:List α}(h:l.all f=true)(k:Nat):(l.drop k).all f=true:=by
 simp only[List.all_eq_true]at h⊢
 exact fun x hx=>h x (List.mem_of_mem_drop hx)
def cutA (n:Node)(k:Nat):Node:=if n.leaf then⟨true,n.keys.take k,n.vals.take k,[]⟩else⟨false,n.keys.take k,[],n.kids.take (k+1)⟩
def cutB (n:Node)(k:Nat):Node:=if n.leaf then⟨true,n.keys.drop k,n.vals.drop k,[]⟩else⟨false,n.keys.drop (k+1),[],n.kids.drop (k+1)⟩
def joinN (a:Node)(sep:Str)(b:Node):Node:=if a.leaf then⟨true,a.keys++b.keys,a.vals++b.vals,[]⟩else⟨false,a.keys++([sep]++b.keys),[],a.kids++b.kids⟩
def cutOk (n:Node)(k:Nat):Prop:=1≤k∧k+(if n.leaf then 1 else 2)≤n.keys.length
theorem cut_shaped {lt:Str→Str→Bool}{n:Node}{k:Nat}(h:shaped lt n=true)(hk:cutOk n k):shaped lt (cutA n k)=true∧shaped lt (cutB n k)=true:=by
 obtain⟨leaf,keys,vals,kids⟩:=n
 obtain⟨k1,k2⟩:=hk
 cases leaf with
 | true=>
  simp only[shaped,if_true,Bool.and_eq_true,decide_eq_true_eq]at h k2
  obtain⟨⟨h1,h2⟩,⟨h3,h4⟩,h5⟩:=h
  simp only[shaped,cutA,cutB,if_true,Bool.and_eq_true,decide_eq_true_eq]
  exact⟨⟨⟨all_take h1 k,rising_take h2 k⟩,⟨by simp[h3],trivial⟩,all_take h5 k⟩,⟨all_drop h1 k,rising_drop h2 k⟩,⟨by simp[h3],trivial⟩,all_drop h5 k⟩
 | false=>
  simp only[shaped,Bool.false_eq_true,if_false,Bool.and_eq_true,decide_eq_true_eq]at h k2
  obtain⟨⟨h1,h2⟩,⟨⟨h3,h4⟩,h5⟩,h6⟩:=h
  simp only[shaped,cutA,cutB,Bool.false_eq_true,if_false,Bool.and_eq_true,decide_eq_true_eq]
  refine⟨⟨⟨all_take h1 k,rising_take h2 k⟩,⟨⟨?_,trivial⟩, ?_⟩,all_take h6 _⟩,⟨all_drop h1 _,rising_drop h2 _⟩,⟨⟨?_,trivial⟩, ?_⟩,all_drop h6 _⟩
  ·intro e;have:=congrArg List.length e;rw[List.length_take]at this;simp only[List.length_nil]at this;omega
  ·rw[List.length_take,List.length_take];omega
  ·intro e;have:=congrArg List.length e;rw[List.length_drop]at this;simp only[List.length_nil]at this;omega
  ·rw[List.length_drop,List.length_drop];omega
theorem sumL_drop_le (l:List Str)(k:Nat):sumL (l.drop k)≤sumL l:=by
 have:sumL l=sumL (l.take k)+sumL (l.drop k):=by rw[← sumL_append,List.take_append_drop]
 omega
theorem sumL_take_le (l:List Str)(k:Nat):sumL (l.take k)≤sumL l:=by
 have:sumL l=sumL (l.take k)+sumL (l.drop k):=by rw[← sumL_append,List.take_append_drop]
 omega
theorem sumL_parts (l:List Str)(k:Nat):sumL l=sumL (l.take k)+sumL (l.drop k):=by rw[← sumL_append,List.take_append_drop]
theorem cut_size {lt:Str→Str→Bool}{n:Node}{k:Nat}(h:shaped lt n=true)(hk:cutOk n k):size (cutA n k)<size n∧size (cutB n k)<size n:=by
 obtain⟨leaf,keys,vals,kids⟩:=n
 obtain⟨k1,k2⟩:=hk
 have p1:=sumL_parts keys k
 have g1:=sumL_ge (keys.take k)
 have g2:=sumL_ge (keys.drop k)
 simp only[List.length_take,List.length_drop]at g1 g2
 cases leaf with
 | true=>
  simp only[if_true]at k2
  simp only[shaped,if_true,Bool.and_eq_true,decide_eq_true_eq]at h
  have p2:=sumL_parts vals k
  simp only[cutA,cutB,if_true,size,List.length_nil,h.2.1.2]
  omega
 | false=>
  simp only[Bool.false_eq_true,if_false]at k2
  simp only[shaped,Bool.false_eq_true,if_false,Bool.and_eq_true,decide_eq_true_eq]at h
  have h5:=h.2.1.2
  have p3:=sumL_parts keys (k+1)
  have g3:=sumL_ge (keys.take (k+1))
  simp only[List.length_take]at g3
  simp only[cutA,cutB,Bool.false_eq_true,if_false,size,h.2.1.1.2,List.length_take,List.length_drop]
  have:sumL []=0:=rfl
  omega
end Go.Nd
end
section
section
namespace Go.Eng.Sh
open Go.Nd (Ptr sumL)
theorem mayKey_ok (D:Dyn)(n:Nat)(s:Str)(H:AH):f108 D n [S s] H=some (.bool (Nd.mayK s),H):=by
 simp only[f108,hd_cons,nl_nil,lnStr_S,bVs,bInt_geq,bInt_leq,wnt_b,jn_ite,jn_norm,pk3_b,outR_ite,outR_ret]
 have h1:(Int.ofNat 1≤((s.length:Nat):Int))=(1≤s.length):=by simp;omega
 have h2:(((s.length:Nat):Int)≤Int.ofNat 40)=(s.length≤40):=by simp;omega
 simp only[h1,h2,Nd.mayK]
 by_cases h:1≤s.length<;>simp[h,bVs,outR]
theorem sumL_nil:sumL []=0:=rfl
theorem sumL_at (l:List Str)(i:Nat)(hi:i<l.length):sumL (l.take (i+1))=sumL (l.take i)+(1+l[i].length)∧sumL (l.take i)+(1+l[i].length)≤sumL l:=by
 have hs:sumL l=sumL (l.take i)+(1+l[i].length+sumL (l.drop (i+1))):=by
  rw[← Nd.sumL_cons, ← List.drop_eq_getElem_cons hi, ← Nd.sumL_append,List.take_append_drop]
 refine⟨?_,by omega⟩
 rw[sum_take_succ l i hi,Nd.sumL_append,Nd.sumL_cons];simp[sumL]
theorem size0 (D:Dyn)(n0:Nat){H:AH}{ks:AV}{l:List Str}(h:Strs H ks l)(x:AV)(a:Int)(n:Nat)(ha:0≤a)(hn:l.length<n)(hb:a+sumL l≤1000000000000):
  loopK n (f123l0 D n0) [x, .int .i64 a,ks, .int .i64 (l.length:Nat), .int .i64 (0:Nat)] H=some (.exit 0 [x, .int .i64 (a+sumL l)],H):=by
 have key:=loop_for (b:=f123l0 D n0) (H:=H) (r:=some (.exit 0 [x, .int .i64 (a+sumL l)],H)) (fun i=>[x, .int .i64 (a+sumL (l.take i)),ks, .int .i64 (l.length:Nat), .int .i64 (i:Nat)]) l.length (fun i hi=>by
  obtain⟨p,h1,h2⟩:=h.at hi
  obtain⟨hs1,hs⟩:=sumL_at l i hi
  have hge:=Nd.sumL_ge l
  simp(disch:=omega) [f123l0,hd_cons,bVs,bInt_lss,cnd_b,hi,h1,h2,lnStr_S,bInt_add,wrap_i64,hs1,Int.add_assoc]) (fun n=>loop_exit (by
  simp[f123l0,hd_cons,bVs,bInt_lss,cnd_b])) n hn
 simpa[sumL_nil]using key
theorem size1 (D:Dyn)(n0:Nat){H:AH}{ks:AV}{l:List Str}(h:Strs H ks l)(a:Int)(n:Nat)(ha:0≤a)(hn:l.length<n)(hb:a+sumL l≤1000000000000):
  loopK n (f123l1 D n0) [.int .i64 a,ks, .int .i64 (l.length:Nat), .int .i64 (0:Nat)] H=some (.exit 2 [.int .i64 (a+sumL l)],H):=by
 have key:=loop_for (b:=f123l1 D n0) (H:=H) (r:=some (.exit 2 [.int .i64 (a+sumL l)],H)) (fun i=>[.int .i64 (a+sumL (l.take i)),ks, .int .i64 (l.length:Nat), .int .i64 (i:Nat)]) l.length (fun i hi=>by
  obtain⟨p,h1,h2⟩:=h.at hi
  obtain⟨hs1,hs⟩:=sumL_at l i hi
  have hge:=Nd.sumL_ge l
  simp(disch:=omega) [f123l1,hd_cons,bVs,bInt_lss,cnd_b,hi,h1,h2,lnStr_S,bInt_add,wrap_i64,hs1,Int.add_assoc]) (fun n=>loop_exit (by
  simp[f123l1,hd_cons,bVs,bInt_lss,cnd_b])) n hn
 simpa[sumL_nil]using key
def ptrV (p:Ptr):List AV:=[.int .i64 p.at_, .int .i64 p.birth, .int .u64 p.sum]
def Ptrs (H:AH)(v:AV)(l:List Ptr):Prop:=Rw 3 H v l.length (l.flatMap ptrV)
def NodeV (H:AH)(v:AV)(n:Nd.Node):Prop:= ∃ks vs ps,v= .agg [.bool n.leaf,ks,vs,ps]∧Strs H ks n.keys∧Strs H vs n.vals∧Ptrs H ps n.kids
theorem Ptrs.lnSl {H:AH}{v:AV}{l:List Ptr}(h:Ptrs H v l):Eng.lnSl v=some (.int .i64 (l.length:Int)):=Rw.lnSl h
theorem Ptrs.prs {H H':AH}{v:AV}{l:List Ptr}(h:Ptrs H v l)(s:Prs H H'):Ptrs H' v l:=Rw.prs h s
theorem flat3: ∀(l:List Ptr) (i:Nat) (hi:i<l.length),((l.flatMap ptrV).drop (i*3)).take 3=ptrV l[i]
 | [],i,hi=>by simp at hi
 | p::l,0,_=>rfl
 | p::l,i+1,hi=>by
  have:=flat3 l i (by simpa using hi)
  rw[show(i+1)*3=i*3+3 from by omega]
  exact this
theorem Ptrs.at {H:AH}{v:AV}{l:List Ptr}(h:Ptrs H v l){i:Nat}(hi:i<l.length): ∃p,(∀κ (z:Int),z=(i:Int)→ixSl 3 v (.int κ z)=some p)∧Eng.ldN 3 p H=some (.agg (ptrV l[i])):=by
 obtain⟨p,h1,h2⟩:=Rw.ldN h hi
 rw[flat3 l i hi]at h2
 exact⟨p,h1,h2⟩
theorem NodeV.prs {H H':AH}{v:AV}{n:Nd.Node}(h:NodeV H v n)(s:Prs H H'):NodeV H' v n:=by
 obtain⟨ks,vs,ps,rfl,h1,h2,h3⟩:=h;exact⟨ks,vs,ps,rfl,h1.prs s,h2.prs s,h3.prs s⟩
def small (n:Nd.Node):Prop:=n.kids.length≤100000∧sumL n.keys≤100000000∧sumL n.vals≤100000000
theorem size_ok (D:Dyn)(n:Nat){H:AH}(hk:H.ok){v:AV}{nd:Nd.Node}(h:NodeV H v nd)(hs:small nd)(hn:200000000≤n):
  Ret (f123 D n [v] H) fun r H'=>r= .int .i64 (Nd.size nd:Nat)∧Prs H H':=by
 obtain⟨ks,vs,ps,rfl,h1,h2,h3⟩:=h
 obtain⟨s1,s2,s3⟩:=hs
 have hP:Prs H (H.push (.cells [.bool nd.leaf,ks,vs,ps] 133 1 false)):=(Stp.refl hk).push _
 have hkl:=Nd.sumL_ge nd.keys
 have hvl:=Nd.sumL_ge nd.vals
 simp(disch:=omega) only[f123,ev,bA_ok hk,h1.lnSl,h2.lnSl,h3.lnSl,size0 D n (h1.prs hP),f123b3,size1 D n (h2.prs hP),f123b2]
 apply Ret.pure;refine⟨?_,hP⟩
 simp only[Nd.size,AV.int.injEq,true_and];omega
end Go.Eng.Sh
end
section
namespace Go.Eng.Sh
open Go.Nd (Ptr be mayP encP)
end Go.Eng.Sh
end
section
namespace Go.Eng.Sh
open Go.Nd (Ptr)
theorem rising_iff (lt:Str→Str→Bool): ∀l:List Str,Nd.rising lt l=true↔ ∀i (h:i+1<l.length),lt l[i] l[i+1]=true
 | []=>by simp[Nd.rising]
 | [a]=>by simp[Nd.rising]
 | a::b::l=>by
  have ih:=rising_iff lt (b::l)
  simp only[Nd.rising,Bool.and_eq_true,ih]
  constructor
  ·rintro⟨h1,h2⟩ i h
   cases i with
   | zero=>exact h1
   | succ i=>exact h2 i (by simpa using h)
  ·intro h
   exact⟨h 0 (by simp),fun i hi=>h (i+1) (by simpa using hi)⟩
def goodK (l:List Str)(i:Nat):Bool:=Nd.mayK (l.getD i [])&&(decide (i=0)||ltS (l.getD (i - 1) []) (l.getD i []))
theorem goodK_all (l:List Str):(List.range l.length).all (goodK l)=(l.all Nd.mayK&&Nd.rising ltS l):=by
 rw[Bool.eq_iff_iff,Bool.and_eq_true,rising_iff]
 simp only[List.all_eq_true,List.mem_range,goodK,Bool.and_eq_true,Bool.or_eq_true,decide_eq_true_eq]
 constructor
 ·intro h
  refine⟨fun x hx=> ?_,fun i hi=> ?_⟩
  ·obtain⟨i,hi,rfl⟩:=List.mem_iff_getElem.1 hx
   have:=(h i hi).1
   rwa[List.getD_eq_getElem?_getD,List.getElem?_eq_getElem hi]at this
  ·have:=(h (i+1) hi).2
   simp only[Nat.add_eq_zero_iff,Nat.one_ne_zero,and_false,false_or,Nat.add_sub_cancel]at this
   rwa[List.getD_eq_getElem?_getD,List.getElem?_eq_getElem (by omega),List.getD_eq_getElem?_getD,List.getElem?_eq_getElem hi]at this
 ·rintro⟨h1,h2⟩ i hi
  refine⟨?_, ?_⟩
  ·rw[List.getD_eq_getElem?_getD,List.getElem?_eq_getElem hi];exact h1 _ (List.getElem_mem hi)
  ·by_cases h0:i=0
   ·exact .inl h0
   ·right
    have:=h2 (i - 1) (by omega)
    rw[List.getD_eq_getElem?_getD,List.getElem?_eq_getElem (show i - 1<l.length by omega),List.getD_eq_getElem?_getD,List.getElem?_eq_getElem hi]
    simpa[show i - 1+1=i by omega]using this
theorem all_range {α:Type}(l:List α)(d:α)(f:α→Bool):(List.range l.length).all (fun i=>f (l.getD i d))=l.all f:=by
 rw[Bool.eq_iff_iff]
 simp only[List.all_eq_true,List.mem_range]
 constructor
 ·intro h x hx
  obtain⟨i,hi,rfl⟩:=List.mem_iff_getElem.1 hx
  have:=h i hi
  rwa[List.getD_eq_getElem?_getD,List.getElem?_eq_getElem hi]at this
 ·intro h i hi
  rw[List.getD_eq_getElem?_getD,List.getElem?_eq_getElem hi];exact h _ (List.getElem_mem hi)
theorem getD_lt {α:Type}{l:List α}{i:Nat}{d:α}(h:i<l.length):l.getD i d=l[i]:=by rw[List.getD_eq_getElem?_getD,List.getElem?_eq_getElem h];rfl
theorem shaped0 (D:Dyn)(n:Nat){H:AH}{ks:AV}{l:List Str}(h:Strs H ks l){A e:Nat}{c:List AV}(hA:H.h.get A=some (.cells c e 1 false))(hc:c[1]? =some ks)(hl:l.length≤1000000000)(n':Nat)(hn:l.length<n'):
  ∃e H',loopK n' (f107l0 D n) [.ptr A 0,ks, .int .i64 (l.length:Nat), .int .i64 (0:Nat)] H=some (e,H')∧if(List.range l.length).all (goodK l)then(e= .exit 0 [.ptr A 0]∧H'=H)else(e= .ret (.bool false)∧H'=H):=by
 refine loop_all l.length (goodK l) (fun i vs H'=>H'=H∧vs=[.ptr A 0,ks, .int .i64 (l.length:Nat), .int .i64 (i:Nat)]) (fun e H'=>e= .exit 0 [.ptr A 0]∧H'=H) (fun e H'=>e= .ret (.bool false)∧H'=H) ?_ ?_ ?_ n' _ H ⟨rfl,rfl⟩ hn
 ·rintro i vs H' hi ⟨rfl,rfl⟩ hg
  obtain⟨p,h1,h2⟩:=h.at hi
  simp only[goodK,getD_lt hi,Bool.and_eq_true,Bool.or_eq_true,decide_eq_true_eq]at hg
  refine⟨_,H', ?_,rfl,rfl⟩
  have hiI:((i:Nat):Int)< ((l.length:Nat):Int):=by omega
  by_cases h0:i=0
  ·subst h0
   simp(disch:=omega) only[f107l0,ev,lg,wnt_undef,ew,hiI,h1,h2,mayKey_ok,hg.1,Int.lt_irrefl,show((0:Nat):Int)+((1:Nat):Int)=((0+1:Nat):Int)from rfl]
  ·have hlt:i - 1<l.length:=by omega
   obtain⟨q,q1,q2⟩:=h.at hlt
   have hg2:=hg.2.resolve_left h0
   rw[getD_lt hlt]at hg2
   have hsub:((i:Nat):Int) - ((1:Nat):Int)=((i - 1:Nat):Int):=by omega
   have hpos:((0:Nat):Int)< (i:Int):=by omega
   simp(disch:=omega) only[f107l0,ev,lg,wnt_undef,ew,hiI,hpos,h1,h2,mayKey_ok,hg.1,ld1_get hA,hc,hsub,q1,q2,hg2,Int.natCast_add]
 ·rintro i vs H' hi ⟨rfl,rfl⟩ hg
  obtain⟨p,h1,h2⟩:=h.at hi
  have hiI:((i:Nat):Int)< ((l.length:Nat):Int):=by omega
  refine⟨.ret (.bool false),H', ?_,rfl,rfl,rfl⟩
  simp only[goodK,getD_lt hi]at hg
  cases hm:Nd.mayK l[i]with
  | false=>simp(disch:=omega) only[f107l0,ev,lg,wnt_undef,ew,hiI,h1,h2,mayKey_ok,hm]
  | true=>
   simp only[hm,Bool.true_and,Bool.or_eq_false_iff,decide_eq_false_iff_not]at hg
   have hlt:i - 1<l.length:=by omega
   obtain⟨q,q1,q2⟩:=h.at hlt
   have hg2:=hg.2
   rw[getD_lt hlt]at hg2
   have hsub:((i:Nat):Int) - ((1:Nat):Int)=((i - 1:Nat):Int):=by omega
   have hpos:((0:Nat):Int)< (i:Int):=by omega
   simp(disch:=omega) only[f107l0,ev,lg,wnt_undef,ew,hiI,hpos,h1,h2,mayKey_ok,hm,ld1_get hA,hc,hsub,q1,q2,hg2]
 ·rintro vs H' ⟨rfl,rfl⟩
  refine⟨.exit 0 [.ptr A 0],H', ?_,rfl,rfl,rfl⟩
  simp only[f107l0,ev,lg,wnt_undef,ew,Int.lt_irrefl]
theorem shaped1 (D:Dyn)(n:Nat){H:AH}{vs:AV}{l:List Str}(h:Strs H vs l)(hl:l.length≤1000000000)(n':Nat)(hn:l.length<n'):
  ∃e H',loopK n' (f107l1 D n) [vs, .int .i64 (l.length:Nat), .int .i64 (0:Nat)] H=some (e,H')∧if(List.range l.length).all (fun i=>decide ((l.getD i []).length≤200))then(e= .exit 2 []∧H'=H)else(e= .ret (.bool false)∧H'=H):=by
 refine loop_all l.length _ (fun i us H'=>H'=H∧us=[vs, .int .i64 (l.length:Nat), .int .i64 (i:Nat)]) (fun e H'=>e= .exit 2 []∧H'=H) (fun e H'=>e= .ret (.bool false)∧H'=H) ?_ ?_ ?_ n' _ H ⟨rfl,rfl⟩ hn
 ·rintro i us H' hi ⟨rfl,rfl⟩ hg
  obtain⟨p,h1,h2⟩:=h.at hi
  simp only[getD_lt hi,decide_eq_true_eq]at hg
  refine⟨_,H', ?_,rfl,rfl⟩
  have hiI:((i:Nat):Int)< ((l.length:Nat):Int):=by omega
  have hg': ¬((200:Nat):Int)< ((l[i].length:Nat):Int):=by omega
  simp(disch:=omega) only[f107l1,ev,lg,wnt_undef,ew,hiI,h1,h2,hg',Int.natCast_add]
 ·rintro i us H' hi ⟨rfl,rfl⟩ hg
  obtain⟨p,h1,h2⟩:=h.at hi
  simp only[getD_lt hi,decide_eq_false_iff_not]at hg
  refine⟨.ret (.bool false),H', ?_,rfl,rfl,rfl⟩
  have hiI:((i:Nat):Int)< ((l.length:Nat):Int):=by omega
  have hg':((200:Nat):Int)< ((l[i].length:Nat):Int):=by omega
  simp(disch:=omega) only[f107l1,ev,lg,wnt_undef,ew,hiI,h1,h2,hg',Int.natCast_add]
 ·rintro us H' ⟨rfl,rfl⟩
  refine⟨.exit 2 [],H', ?_,rfl,rfl,rfl⟩
  simp only[f107l1,ev,lg,wnt_undef,ew,Int.lt_irrefl]
def pz:Ptr:=⟨0,0,0⟩
theorem kid_b (x:Ptr):(((decide (x.at_< ((1:Nat):Int))||decide (((8192:Nat):Int)≤x.at_))||decide (x.birth< ((0:Nat):Int)))||decide (((2147483647:Nat):Int)<x.birth))= !(Nd.kidOk x):=by
 rw[Bool.eq_iff_iff];simp only[Nd.kidOk,Bool.or_eq_true,decide_eq_true_eq,Bool.not_eq_true',Bool.and_eq_false_iff,decide_eq_false_iff_not];omega
theorem box_ptr {H':AH}(hk:H'.ok)(x:Ptr): ∃H2,stN 3 (.ptr H'.next 0) (.agg (ptrV x)) (H'.push (.cells [.int .i64 (0:Nat), .int .i64 (0:Nat), .int .u64 (0:Nat)] 72 1 false))=some (undefA,H2)∧Prs H' H2∧H2.next=H'.next+1∧H2.h.get H'.next=some (.cells (ptrV x) 72 1 false):=by
 refine⟨_,stN_ok (AH.push_get_eq _ _) (by decide) rfl rfl (by decide), ?_,rfl,by rw[AH.put_get,if_pos rfl];rfl⟩
 exact((Stp.refl hk).push _).fresh ((Stp.refl (hk.push _)).put (by rw[AH.push_next];omega) _ (.inr rfl)) (fun A hA=>by omega)
theorem shaped3 (D:Dyn)(n:Nat){H:AH}(hk:H.ok){vs:AV}{l:List Ptr}(h:Ptrs H vs l)(hl:l.length≤1000000000)(n':Nat)(hn:l.length<n'):
  ∃e H',loopK n' (f107l3 D n) [vs, .int .i64 (l.length:Nat), .int .i64 (0:Nat)] H=some (e,H')∧if(List.range l.length).all (fun i=>Nd.kidOk (l.getD i pz))then(e= .exit 4 []∧Prs H H')else(e= .ret (.bool false)∧Prs H H'):=by
 refine loop_all l.length _ (fun i us H'=>Prs H H'∧us=[vs, .int .i64 (l.length:Nat), .int .i64 (i:Nat)]) (fun e H'=>e= .exit 4 []∧Prs H H') (fun e H'=>e= .ret (.bool false)∧Prs H H') ?_ ?_ ?_ n' _ H ⟨Stp.refl hk,rfl⟩ hn
 ·rintro i us H' hi ⟨hP,rfl⟩ hg
  obtain⟨p,h1,h2⟩:=(h.prs hP).at hi
  simp only[getD_lt hi]at hg
  generalize l[i]=x at hg h2
  obtain⟨H2,hH2,hP2,n2,g2⟩:=box_ptr hP.ok x
  have hiI:((i:Nat):Int)< ((l.length:Nat):Int):=by omega
  have hb:=kid_b x
  rw[hg]at hb
  simp only[ptrV]at g2 hH2 h2
  refine⟨_,H2, ?_,hP.trans hP2,rfl⟩
  simp(disch:=omega) only[f107l3,ev,lg,wnt_undef,ew,hiI,h1,h2,bA_ok hP.ok,hH2,ld1_get g2,hb,Int.natCast_add]
 ·rintro i us H' hi ⟨hP,rfl⟩ hg
  obtain⟨p,h1,h2⟩:=(h.prs hP).at hi
  simp only[getD_lt hi]at hg
  generalize l[i]=x at hg h2
  obtain⟨H2,hH2,hP2,n2,g2⟩:=box_ptr hP.ok x
  have hiI:((i:Nat):Int)< ((l.length:Nat):Int):=by omega
  have hb:=kid_b x
  rw[hg]at hb
  simp only[ptrV]at g2 hH2 h2
  refine⟨.ret (.bool false),H2, ?_,rfl,rfl,hP.trans hP2⟩
  simp(disch:=omega) only[f107l3,ev,lg,wnt_undef,ew,hiI,h1,h2,bA_ok hP.ok,hH2,ld1_get g2,hb]
 ·rintro us H' ⟨hP,rfl⟩
  refine⟨.exit 4 [],H', ?_,rfl,rfl,hP⟩
  simp only[f107l3,ev,lg,wnt_undef,ew,Int.lt_irrefl]
end Go.Eng.Sh
end
section
namespace Go.Eng.Sh
open Go.Nd (Ptr sumL)
theorem shaped_ok (D:Dyn)(n:Nat){H:AH}(hk:H.ok){v:AV}{nd:Nd.Node}(h:NodeV H v nd)(hs:small nd)(hn:200000000≤n):
  ∃H',f107 D n [v] H=some (.bool (Nd.shaped ltS nd),H')∧Prs H H':=by
 obtain⟨ks,vs,ps,rfl,h1,h2,h3⟩:=h
 obtain⟨s1,s2,s3⟩:=hs
 have hP:Prs H (H.push (.cells [.bool nd.leaf,ks,vs,ps] 133 1 false)):=(Stp.refl hk).push _
 have hg:(H.push (.cells [.bool nd.leaf,ks,vs,ps] 133 1 false)).h.get H.next=some (.cells [.bool nd.leaf,ks,vs,ps] 133 1 false):=AH.push_get_eq _ _
 have hkl:=Nd.sumL_ge nd.keys
 have hvl:=Nd.sumL_ge nd.vals
 have hf:f107 D n [.agg [.bool nd.leaf,ks,vs,ps]] H=outR (jb 0 (loopK n (f107l0 D n) [.ptr H.next 0,ks, .int .i64 (nd.keys.length:Nat), .int .i64 (0:Nat)] (H.push (.cells [.bool nd.leaf,ks,vs,ps] 133 1 false))) (f107b5 D n)):=by
  simp only[f107,ev,lg,wnt_undef,ew,bA_ok hk,h1.lnSl]
 rw[hf]
 generalize H.push (.cells [.bool nd.leaf,ks,vs,ps] 133 1 false)=H1 at hP hg
 obtain⟨e0,H2,e1,e2⟩:=shaped0 D n (h1.prs hP) hg (by rfl) (by omega) n (by omega)
 rw[e1]
 rw[goodK_all]at e2
 split at e2
 ·rename_i hgood
  obtain⟨rfl,rfl⟩:=e2
  simp only[Nd.shaped,hgood,Bool.true_and]
  obtain⟨leaf,keys,vals,kids⟩:=nd
  simp only at h1 h2 h3 hg hkl hvl s1 s2 s3 hgood⊢
  cases leaf with
  | true=>
   by_cases hc:vals.length=keys.length∧kids.length=0
   ·obtain⟨hc1,hc2⟩:=hc
    obtain⟨e3,H3,e4,e5⟩:=shaped1 D n (h2.prs hP) (by omega) n (by omega)
    have hz: ¬(((vals.length:Nat):Int)≠((keys.length:Nat):Int)):=by omega
    have hz2: ¬(((kids.length:Nat):Int)≠((0:Nat):Int)):=by omega
    have hkn:kids=[]:=List.eq_nil_of_length_eq_zero hc2
    rw[all_range vals ([]:Str) (fun v=>decide (v.length≤200))]at e5
    split at e5
    ·rename_i hv
     obtain⟨rfl,rfl⟩:=e5
     refine⟨H3, ?_,hP⟩
     have hr:(decide (vals.length=keys.length)&&decide (kids=[])&&vals.all fun v=>decide (v.length≤200))=true:=by simp only[hc1,hkn,hv,decide_true,Bool.and_self]
     simp only[f107b5,ev,lg,wnt_undef,ew,ld1_get hg,h1.lnSl,h2.lnSl,h3.lnSl,hz,hz2,e4,f107b2,hr]
    ·rename_i hv
     obtain⟨rfl,rfl⟩:=e5
     refine⟨H3, ?_,hP⟩
     have hr:(decide (vals.length=keys.length)&&decide (kids=[])&&vals.all fun v=>decide (v.length≤200))=false:=by simp only[Bool.eq_false_iff.2 hv,Bool.and_false]
     simp only[f107b5,ev,lg,wnt_undef,ew,ld1_get hg,h1.lnSl,h2.lnSl,h3.lnSl,hz,hz2,e4,f107b2,hr]
   ·refine⟨H2, ?_,hP⟩
    have hr:(decide (vals.length=keys.length)&&decide (kids=[]))=false:=by
     rw[Bool.and_eq_false_iff,decide_eq_false_iff_not,decide_eq_false_iff_not]
     by_cases ha:vals.length=keys.length
     ·right;intro hb;exact hc ⟨ha,by rw[hb];rfl⟩
     ·exact .inl ha
    simp only[f107b5,ev,lg,wnt_undef,ew,ld1_get hg,h1.lnSl,h2.lnSl,h3.lnSl,hr]
    rw[if_pos (by simp only[Bool.or_eq_true,decide_eq_true_eq];omega)]
    simp only[ev,lg,wnt_undef,ew]
  | false=>
   by_cases hc:keys.length≠0∧vals.length=0∧kids.length=keys.length+1
   ·obtain⟨hc1,hc2,hc3⟩:=hc
    obtain⟨e3,H3,e4,e5⟩:=shaped3 D n hP.ok (h3.prs hP) (by omega) n (by omega)
    have hz: ¬(((keys.length:Nat):Int)=((0:Nat):Int)):=by omega
    have hz2: ¬(((vals.length:Nat):Int)≠((0:Nat):Int)):=by omega
    have hz3: ¬(((kids.length:Nat):Int)≠((keys.length:Nat):Int)+((1:Nat):Int)):=by omega
    have hvn:vals=[]:=List.eq_nil_of_length_eq_zero hc2
    have hkn:keys≠[]:=fun e=>hc1 (by rw[e];rfl)
    rw[all_range kids pz Nd.kidOk]at e5
    split at e5
    ·rename_i hv
     obtain⟨rfl,hP3⟩:=e5
     refine⟨H3, ?_,hP.trans hP3⟩
     have hr:(decide (keys≠[])&&decide (vals=[])&&decide (kids.length=keys.length+1)&&kids.all Nd.kidOk)=true:=by simp only[hc3,hvn,hv,decide_eq_true hkn,decide_true,Bool.and_self]
     simp(disch:=omega) only[f107b5,ev,lg,wnt_undef,ew,ld1_get hg,h1.lnSl,h2.lnSl,h3.lnSl,hz,hz2,hz3,e4,f107b4,hr]
    ·rename_i hv
     obtain⟨rfl,hP3⟩:=e5
     refine⟨H3, ?_,hP.trans hP3⟩
     have hr:(decide (keys≠[])&&decide (vals=[])&&decide (kids.length=keys.length+1)&&kids.all Nd.kidOk)=false:=by simp only[Bool.eq_false_iff.2 hv,Bool.and_false]
     simp(disch:=omega) only[f107b5,ev,lg,wnt_undef,ew,ld1_get hg,h1.lnSl,h2.lnSl,h3.lnSl,hz,hz2,hz3,e4,f107b4,hr]
   ·refine⟨H2, ?_,hP⟩
    have hr:(decide (keys≠[])&&decide (vals=[])&&decide (kids.length=keys.length+1))=false:=by
     rw[Bool.eq_false_iff];intro hh
     simp only[Bool.and_eq_true,decide_eq_true_eq]at hh
     exact hc ⟨fun e=>hh.1.1 (List.eq_nil_of_length_eq_zero e),by rw[hh.1.2];rfl,hh.2⟩
    simp(disch:=omega) only[f107b5,ev,lg,wnt_undef,ew,ld1_get hg,h1.lnSl,h2.lnSl,h3.lnSl,hr]
    rw[if_pos (by simp only[Bool.or_eq_true,decide_eq_true_eq];omega)]
    simp only[ev,lg,wnt_undef,ew]
 ·rename_i hbad
  obtain⟨rfl,rfl⟩:=e2
  refine⟨H2, ?_,hP⟩
  simp only[Nd.shaped,Bool.eq_false_iff.2 hbad,ev,lg,wnt_undef,ew]
end Go.Eng.Sh
end
section
namespace Go.Eng.Sh
open Go.Nd (Ptr sumL encP)
def OutB (P:Nat→Prop)(H:AH)(A:Nat)(l:Str):Prop:= ∃v,Box H A v∧Grow 1 5 H v l.length (bytesV l)∧(∀B,Blk v B→ ¬P B∧B≠A)∧ ¬P A
theorem OutB.app {P:Nat→Prop}{H:AH}{A:Nat}{l m:Str}(h:OutB P H A l)(hk:H.ok)(hP: ∀B,P B→B<H.next){s:AV}(hs:srcOf 1 s H=some (m.length,bytesV m))(hn:l.length+m.length≤1000000000):
  ∃v v' H' H'',ld1 (.ptr A 0) H=some v∧apP 5 1 1 v s H=some (v',H')∧stN 1 (.ptr A 0) v' H'=some (undefA,H'')∧OutB P H'' A (l++m)∧Stp (fun B=> ¬P B) H H'':=by
 obtain⟨v,hb,hg,hv,hA⟩:=h
 obtain⟨v',H',e1,g1,s1,n1⟩:=hg.app (bytes:=1) hk (by decide) hs (by simp[bytesV]) (bytesV_cells m) hn (by decide)
 have hb':Box H' A v:=hb.mono hk s1 (fun x=>(hv A x).2 rfl)
 obtain⟨H'',e2,b2,s2⟩:=hb'.st s1.ok g1.isCell
 have hlt:=hb.lt hk
 have hne: ∀B,Blk v' B→B≠A:=fun B hB e=>by
  rcases n1 B hB with h | h
  ·exact(hv B h).2 e
  ·omega
 refine⟨v,v',H',H'',hb.ld,e1,e2,⟨v',b2, ?_,fun B hB=>⟨fun hp=> ?_,hne B hB⟩,hA⟩, ?_⟩
 ·have:=g1.mono s2 (fun B hB=>hne B hB)
  simpa[bytesV]using this
 ·rcases n1 B hB with h | h
  ·exact(hv B h).1 hp
  ·have:=hP B hp;omega
 ·exact(s1.mono (fun B _ hB=>(hv B hB).1)).trans (s2.mono (fun B _ hB=>by rw[hB];exact hA))
structure EncI (N E:Nat)(A:Nat)(H0 H:AH)(l:Str):Prop where
 prs:Prs H0 H
 n:H0.next=N
 out:OutB (fun B=>B<N∨B=E) H A l
 err:Box H E (.int .i64 (0:Nat))
theorem EncI.step {N E A:Nat}{H0 H H':AH}{l l':Str}(h:EncI N E A H0 H l)(h1:OutB (fun B=>B<N∨B=E) H' A l')(h2:Stp (fun B=> ¬(B<N∨B=E)) H H'):EncI N E A H0 H' l':=
 ⟨h.prs.fresh h2 (fun B hB=>by rw[h.n];omega),h.n,h1,h.err.mono h.prs.ok h2 (fun hh=>hh (.inr rfl))⟩
theorem EncI.lt {N E A:Nat}{H0 H:AH}{l:Str}(h:EncI N E A H0 H l): ∀B,(B<N∨B=E)→B<H.next:=by
 rintro B (hB | rfl)
 ·have:=h.prs.next;rw[h.n]at this;omega
 ·exact h.err.lt h.prs.ok
end Go.Eng.Sh
end
section
namespace Go.Eng.Sh
open Go.Nd (Ptr sumL encP)
theorem Box.new (H:AH)(v:AV)(e:TypeId):Box (H.push (.cells [v] e 1 false)) H.next v:=⟨e,AH.push_get_eq _ _⟩
theorem sub4 (a b c d:AV):subN [a,b,c,d] 0 4=some [a,b,c,d]:=rfl
end Go.Eng.Sh
end
section
namespace Go.Eng.Sh
open Go.Nd (Ptr mayP)
theorem st_all {H:AH}(hk:H.ok){A:Nat}{l l':List AV}{e:TypeId}(h:H.h.get A=some (.cells l e 1 false))(hl:l'.length=l.length)(hc:allCells l'=true):
  ∃H',stN l.length (.ptr A 0) (.agg l') H=some (undefA,H')∧H'.h.get A=some (.cells l' e 1 false)∧Stp (fun B=>B=A) H H'∧H'.next=H.next:=by
 refine⟨_,stN_ok h (by decide) hl hc (by omega), ?_,(Stp.refl hk).put (hk.lt h) _ (.inr rfl),rfl⟩
 rw[AH.put_get,if_pos rfl]
 simp[cellsA]
end Go.Eng.Sh
end
section
namespace Go.Eng.Sh
open Go.Nd (Ptr mayP)
structure RdI (R:Nat)(H0 H:AH)(rest:Str)(bad leaf:Bool)(kv vv pv:AV)(ks vs:List Str)(ps:List Ptr):Prop where
 prs:Stp (fun B=>B=R) H0 H
 get: ∃e,H.h.get R=some (.cells [S rest, .bool bad, .bool leaf,kv,vv,pv] e 1 false)
 k:Own 1 9 H kv ks.length (ks.map S)
 v:Own 1 9 H vv vs.length (vs.map S)
 p:Own 3 72 H pv ps.length (ps.flatMap ptrV)
 kb: ∀B,Blk kv B→H0.next≤B∧B≠R∧ ¬Blk vv B∧ ¬Blk pv B
 vb: ∀B,Blk vv B→H0.next≤B∧B≠R∧ ¬Blk pv B
 pb: ∀B,Blk pv B→H0.next≤B∧B≠R
 small:rest.length≤10000∧ks.length≤1000000∧vs.length≤1000000∧ps.length≤1000000
theorem RdI.put {R:Nat}{H0 H:AH}{rest:Str}{bad leaf:Bool}{kv vv pv:AV}{ks vs:List Str}{ps:List Ptr}(h:RdI R H0 H rest bad leaf kv vv pv ks vs ps){o:Nat}{x:AV}(hx:isCell x=true)(ho:o<6){rest':Str}{bad':Bool}(hr:rest'.length≤10000)
  (hl:[S rest, .bool bad, .bool leaf,kv,vv,pv].set o x=[S rest', .bool bad', .bool leaf,kv,vv,pv]): ∃H',stN 1 (.ptr R o) x H=some (undefA,H')∧RdI R H0 H' rest' bad' leaf kv vv pv ks vs ps:=by
 obtain⟨e,hg⟩:=h.get
 have hlt:=h.prs.ok.lt hg
 have hst:Stp (fun B=>B=R) H (H.put R (.cells ([S rest, .bool bad, .bool leaf,kv,vv,pv].set o x) e 1 false)):=(Stp.refl h.prs.ok).put hlt _ (.inr rfl)
 refine⟨_,st1_ok hg (by decide) hx ho,⟨h.prs.trans hst,⟨e,by rw[AH.put_get,if_pos rfl,hl]⟩,h.k.mono hst (fun B hB=>(h.kb B hB).2.1),h.v.mono hst (fun B hB=>(h.vb B hB).2.1),h.p.mono hst (fun B hB=>(h.pb B hB).2),h.kb,h.vb,h.pb,hr,h.small.2⟩⟩
theorem RdI.lt {R:Nat}{H0 H:AH}{rest:Str}{bad leaf:Bool}{kv vv pv:AV}{ks vs:List Str}{ps:List Ptr}(h:RdI R H0 H rest bad leaf kv vv pv ks vs ps):R<H.next:=by
 obtain⟨e,hg⟩:=h.get;exact h.prs.ok.lt hg
theorem Own.lt {k e n:Nat}{H:AH}{v:AV}{l:List AV}(h:Own k e H v n l){B:Nat}(hB:Blk v B):B<H.next:=(Grow.lt (.inl h) hB)
end Go.Eng.Sh
end
section
namespace Go.Eng.Sh
open Go.Nd (Ptr mayP)
end Go.Eng.Sh
end
section
namespace Go.Eng.Sh
open Go.Nd (Ptr mayP)
def NodeO (H0 H:AH)(v:AV)(nd:Nd.Node):Prop:= ∃ks vs ps,v= .agg [.bool nd.leaf,ks,vs,ps]∧Own 1 9 H ks nd.keys.length (nd.keys.map S)∧Own 1 9 H vs nd.vals.length (nd.vals.map S)∧Own 3 72 H ps nd.kids.length (nd.kids.flatMap ptrV)∧(∀B,Blk ks B∨Blk vs B∨Blk ps B→H0.next≤B)∧(∀B,Blk ks B→ ¬Blk vs B∧ ¬Blk ps B)∧ ∀B,Blk vs B→ ¬Blk ps B
theorem NodeO.node {H0 H:AH}{v:AV}{nd:Nd.Node}(h:NodeO H0 H v nd):NodeV H v nd:=by
 obtain⟨ks,vs,ps,e,h1,h2,h3,_⟩:=h;exact⟨ks,vs,ps,e,h1.row,h2.row,h3.row⟩
end Go.Eng.Sh
end
section
namespace Go.Eng.Sh
open Go.Nd (Ptr sumL)
theorem allCells4 (x:Bool)(a b c:AV)(ha:isCell a=true)(hb:isCell b=true)(hc:isCell c=true):allCells [.bool x,a,b,c]=true:=by
 simp only[allCells,ha,hb,hc];rfl
theorem Grow.zero (k e:Nat){H:AH}{A:Nat}{e':TypeId}{g:Bool}(h:H.h.get A=some (.cells [] e' k g))(hk:H.ok):Grow k e H (.slice A 0 0 0) 0 []:= .inr ⟨by simp,A,e',g,rfl,hk.lt h,h⟩
theorem aveq_bool (b:Bool):aveq (.bool b) (.bool b)=true:=by cases b<;>rfl
theorem map_cells (l:List Str):allCells (l.map S)=true:=by
 rw[allCells_mem];intro x hx;obtain⟨s,_,rfl⟩:=List.mem_map.1 hx;rfl
theorem flat_cells (l:List Ptr):allCells (l.flatMap ptrV)=true:=by
 rw[allCells_mem];intro x hx
 obtain⟨p,_,hp⟩:=List.mem_flatMap.1 hx
 simp only[ptrV,List.mem_cons,List.not_mem_nil,or_false]at hp
 rcases hp with rfl | rfl | rfl<;>rfl
theorem Rw.blk {k n:Nat}{H:AH}{v:AV}{l:List AV}(h:Rw k H v n l){B:Nat}(hB:Blk v B):B<H.next:=by
 obtain⟨_,⟨rfl,_⟩ | ⟨rfl,_⟩ | ⟨A,off,cc,c,e,sz,g,rfl,_,hlt,_⟩⟩:=h
 ·exact(Blk.nil.1 hB).elim
 ·obtain⟨_,_,_,h⟩:=hB;cases h
 ·rw[Blk.slice.1 hB];exact hlt
def NodeG (H:AH)(v:AV)(nd:Nd.Node):Prop:= ∃ks vs ps,v= .agg [.bool nd.leaf,ks,vs,ps]∧Grow 1 9 H ks nd.keys.length (nd.keys.map S)∧Grow 1 9 H vs nd.vals.length (nd.vals.map S)∧Grow 3 72 H ps nd.kids.length (nd.kids.flatMap ptrV)
theorem NodeG.node {H:AH}{v:AV}{nd:Nd.Node}(h:NodeG H v nd):NodeV H v nd:=by
 obtain⟨ks,vs,ps,e,h1,h2,h3⟩:=h;exact⟨ks,vs,ps,e,h1.row,h2.row,h3.row⟩
theorem NodeG.prs {H H':AH}{v:AV}{nd:Nd.Node}(h:NodeG H v nd)(s:Prs H H'):NodeG H' v nd:=by
 obtain⟨ks,vs,ps,e,h1,h2,h3⟩:=h;exact⟨ks,vs,ps,e,h1.mono s (fun _ _ x=>x),h2.mono s (fun _ _ x=>x),h3.mono s (fun _ _ x=>x)⟩
end Go.Eng.Sh
end
section
namespace Go.Eng.Sh
open Go.Nd (Ptr sumL)
end Go.Eng.Sh
end
section
namespace Go.Eng.Sh
open Go.Nd (Ptr sumL)
theorem Own.st {k e n:Nat}{H:AH}{v:AV}{l:List AV}(h:Own k e H v n l)(hk:H.ok)(hpos:0<k){i:Nat}(hi:i<n){x:AV}(hx:(cellsA x).length=k)(hc:allCells (cellsA x)=true):
  ∃p H' l',(∀κ (z:Int),z=(i:Int)→ixSl k v (.int κ z)=some p)∧stN k p x H=some (undefA,H')∧Own k e H' v n l'∧Stp (Blk v) H H':=by
 obtain⟨h0,⟨_,rfl⟩ | ⟨A,rfl,hA,hg⟩⟩:=h
 ·omega
 ·have hik:i*k+k≤n*k:=by rw[← Nat.succ_mul];exact Nat.mul_le_mul_right _ hi
  have hb:Nat.blt i n=true:=by rw[Nat.blt_eq];exact hi
  refine⟨.ptr A (0+i*k),_,_,fun κ z hz=> ?_,stN_ok hg hpos hx hc (by omega),⟨?_, .inr ⟨A,rfl,hA,by rw[AH.put_get,if_pos rfl]⟩⟩,(Stp.refl hk).put hA _ (.inr (Blk.slice.2 rfl))⟩
  ·subst hz
   simp only[ixSl,natOf_int κ (show(0:Int)≤(i:Int)by omega),Int.toNat_natCast,hb,cond_true,fN_eq]
  ·simp only[List.length_append,List.length_take,List.length_drop,hx];omega
end Go.Eng.Sh
end
section
namespace Go.Eng.Sh
open Go.Nd (Ptr sumL)
theorem ble0 (x:Nat):Nat.ble 0 x=true:=by rw[Nat.ble_eq];omega
theorem slSl_hi {k e n:Nat}{H:AH}{v:AV}{l:List AV}(h:Grow k e H v n l)(hpos:0<k){i:Nat}(hi:i≤n)(κ κ':IntKind):
  ∃r,slSl k v none (some (.int κ (i:Nat))) (some (.int κ' (i:Nat))) H=some r∧Rw k H r i (l.take (i*k))∧(0<i→r≠ .nilSlice∧r≠ .emptySl):=by
 have n1:=natOf_int κ (z:=((i:Nat):Int)) (by omega)
 have n2:=natOf_int κ' (z:=((i:Nat):Int)) (by omega)
 simp only[Int.toNat_natCast]at n1 n2
 have hb:Nat.blt 0 k=true:=by rw[Nat.blt_eq];exact hpos
 have hz:Nat.beq i 0=decide (i=0):=by rw[Bool.eq_iff_iff];simp
 have hmul:i*k≤n*k:=Nat.mul_le_mul_right _ hi
 have b1:Nat.ble i n=true:=by rw[Nat.ble_eq];exact hi
 have b2:Nat.ble i i=true:=by rw[Nat.ble_eq];exact Nat.le_refl _
 have b3:Nat.ble 0 i=true:=by rw[Nat.ble_eq];omega
 rcases h with⟨h0,⟨rfl,rfl⟩ | ⟨A,rfl,hA,hg⟩⟩ | ⟨h0,A,e',g,rfl,hA,hg⟩
 ·obtain rfl:i=0:=by omega
  exact⟨.nilSlice,by simp only[slSl,natOpt,n1,n2];simp,⟨by simp, .inl ⟨rfl,rfl⟩⟩,fun h=>absurd h (by omega)⟩
 ·have hroom:roomOf l true k 0 1 k=n:=by
   simp only[roomOf,show((1 % 2).beq 0)=false from rfl,cond_false,Nat.beq_refl,show Nat.beq 0 (1 / 2*k)=true from by simp,Bool.and_self,cond_true,lenL_zero,h0,Nat.sub_zero]
   exact Nat.mul_div_cancel _ hpos
  by_cases hi0:i=0
  ·subst hi0
   refine⟨.slice A 0 0 0, ?_,⟨by simp, .inr (.inr ⟨A,0,0,l,e,k,true,rfl,hg,hA,by simp,by simp⟩)⟩,fun h=>absurd h (by omega)⟩
   simp only[slSl,natOpt,n1,n2,hg,hb,cond_true];simp[acut,hroom,fN_eq,ble0]
  ·have hz0:Nat.beq i 0=false:=by rw[hz];simpa using hi0
   refine⟨.slice A 0 i (2*i), ?_,⟨by rw[List.length_take,h0,Nat.min_eq_left hmul], .inr (.inr ⟨A,0,2*i,l,e,k,true,rfl,hg,hA,by omega,by simp⟩)⟩,fun _=>⟨by simp,by simp⟩⟩
   simp only[slSl,natOpt,n1,n2,hg,hb,cond_true];simp[acut,hroom,b1,b2,hz0,fN_eq,ble0]
 ·have hroom:roomOf l g k 0 (2*n) k=n:=by
   simp only[roomOf,show((2*n) % 2).beq 0=true by rw[Nat.mul_mod_right];rfl,cond_true,Nat.mul_div_cancel_left n (show 0<2 by omega)]
  by_cases hi0:i=0
  ·subst hi0
   refine⟨.slice A 0 0 0, ?_,⟨by simp, .inr (.inr ⟨A,0,0,l,e',k,g,rfl,hg,hA,by simp,by simp⟩)⟩,fun h=>absurd h (by omega)⟩
   simp only[slSl,natOpt,n1,n2,hg,hb,cond_true];simp[acut,hroom,fN_eq,ble0]
  ·have hz0:Nat.beq i 0=false:=by rw[hz];simpa using hi0
   refine⟨.slice A 0 i (2*i), ?_,⟨by rw[List.length_take,h0,Nat.min_eq_left hmul], .inr (.inr ⟨A,0,2*i,l,e',k,g,rfl,hg,hA,by omega,by simp⟩)⟩,fun _=>⟨by simp,by simp⟩⟩
   simp only[slSl,natOpt,n1,n2,hg,hb,cond_true];simp[acut,hroom,b1,b2,hz0,fN_eq,ble0]
theorem slSl_lo {k e n:Nat}{H:AH}{v:AV}{l:List AV}(h:Grow k e H v n l)(hpos:0<k){i:Nat}(hi:i<n)(κ:IntKind):
  ∃r,slSl k v (some (.int κ (i:Nat))) none none H=some r∧Rw k H r (n - i) (l.drop (i*k))∧r≠ .nilSlice∧r≠ .emptySl:=by
 have n1:=natOf_int κ (z:=((i:Nat):Int)) (by omega)
 simp only[Int.toNat_natCast]at n1
 have hb:Nat.blt 0 k=true:=by rw[Nat.blt_eq];exact hpos
 have hmul:i*k≤n*k:=Nat.mul_le_mul_right _ (by omega)
 have hsub:(n - i)*k=n*k - i*k:=Nat.sub_mul _ _ _
 have b1:Nat.ble n n=true:=by rw[Nat.ble_eq];exact Nat.le_refl _
 have b2:Nat.ble i n=true:=by rw[Nat.ble_eq];omega
 have b3:Nat.blt i n=true:=by rw[Nat.blt_eq];exact hi
 have b4:Nat.beq n i=false:=by rw[Bool.eq_false_iff];intro h;have:=Nat.eq_of_beq_eq_true h;omega
 rcases h with⟨h0,⟨rfl,rfl⟩ | ⟨A,rfl,hA,hg⟩⟩ | ⟨h0,A,e',g,rfl,hA,hg⟩
 ·omega
 ·have hroom:roomOf l true k 0 1 k=n:=by
   simp only[roomOf,show((1 % 2).beq 0)=false from rfl,cond_false,Nat.beq_refl,show Nat.beq 0 (1 / 2*k)=true from by simp,Bool.and_self,cond_true,lenL_zero,h0,Nat.sub_zero]
   exact Nat.mul_div_cancel _ hpos
  by_cases hi0:i=0
  ·subst hi0
   refine⟨.slice A 0 n 1, ?_,⟨by simp[h0], .inr (.inr ⟨A,0,1,l,e,k,true,by simp,hg,hA,by simp[h0],by rw[Nat.sub_zero,Nat.zero_mul,List.drop_zero,List.take_of_length_le (by omega)]⟩)⟩,by simp,by simp⟩
   simp only[slSl,natOpt,n1,hg,hb,cond_true];simp[acut,hroom,b1,fN_eq,ble0,show Nat.beq 1 0=false from rfl]
  ·have hz0:Nat.beq i 0=false:=by rw[Bool.eq_false_iff];intro h;exact hi0 (Nat.eq_of_beq_eq_true h)
   refine⟨.slice A (0+i*k) (n - i) (1+2*i), ?_,⟨by simp[h0,hsub], .inr (.inr ⟨A,0+i*k,1+2*i,l,e,k,true,rfl,hg,hA,by omega,by rw[Nat.zero_add,List.take_of_length_le (by simp[h0,hsub])]⟩)⟩,by simp,by simp⟩
   simp only[slSl,natOpt,n1,hg,hb,cond_true];simp[acut,hroom,b1,b2,b3,hz0,fN_eq,show Nat.beq 1 0=false from rfl]
 ·have hroom:roomOf l g k 0 (2*n) k=n:=by
   simp only[roomOf,show((2*n) % 2).beq 0=true by rw[Nat.mul_mod_right];rfl,cond_true,Nat.mul_div_cancel_left n (show 0<2 by omega)]
  have b4':Nat.beq (2*n / 2) i=false:=by rw[Nat.mul_div_cancel_left n (show 0<2 by omega)];exact b4
  refine⟨.slice A (0+i*k) (n - i) (2*(2*n / 2 - i)), ?_,⟨by simp[h0,hsub], .inr (.inr ⟨A,0+i*k,2*(2*n / 2 - i),l,e',k,g,rfl,hg,hA,by omega,by rw[Nat.zero_add,List.take_of_length_le (by simp[h0,hsub])]⟩)⟩,by simp,by simp⟩
  simp only[slSl,natOpt,n1,hg,hb,cond_true];simp[acut,hroom,b1,b2,b4',fN_eq,b4]
theorem cloneS_ok (D:Dyn)(n:Nat){H:AH}(hk:H.ok){v:AV}{l:List Str}(h:Strs H v l)(hn:v≠ .nilSlice)(he:v≠ .emptySl)(hl:l.length≤1000000000):
  ∃v' H',f109 D n [v] H=some (v',H')∧Prs H H'∧Grow 1 9 H' v' l.length (l.map S)∧ ∀B,Blk v' B→H.next≤B:=by
 have p1:Prs H (H.push (.cells [] 9 1 false)):=(Stp.refl hk).push _
 have g1:(H.push (.cells [] 9 1 false)).h.get H.next=some (.cells [] 9 1 false):=AH.push_get_eq _ _
 have n1:(H.push (.cells [] 9 1 false)).next=H.next+1:=rfl
 generalize hH1:H.push (.cells [] 9 1 false)=H1 at p1 g1 n1
 obtain⟨v',H2,e2,w2,s2,f2⟩:=(Grow.zero 1 9 g1 p1.ok).app (bytes:=16) p1.ok (by decide) (Rw.srcOf (h.prs p1)) (by simp) (map_cells _) (by omega) (by decide)
 have hz1:bldL 9 1 0 [.str 0 0] []=some (.cells [] 9 1 false,fun A=> .slice A 0 0 0):=rfl
 have heq:cmpO .eql (eqS v .nilSlice)=some (.bool false):=by
  obtain⟨_,⟨rfl,_⟩ | ⟨rfl,_⟩ | ⟨A,off,cc,c,e,sz,g,rfl,_⟩⟩:=h
  ·exact absurd rfl hn
  ·exact absurd rfl he
  ·rfl
 refine⟨v',H2, ?_,p1.fresh s2 (fun B hB=>by rw[Blk.slice.1 hB];exact Nat.le_refl _),by simpa using w2,fun B hB=> ?_⟩
 ·simp only[f109,ev,lg,wnt_undef,ew,heq,hz1,bA_ok hk,hH1,e2]
 ·rcases f2 B hB with h | h
  ·rw[Blk.slice.1 h];exact Nat.le_refl _
  ·omega
theorem cloneP_ok (D:Dyn)(n:Nat){H:AH}(hk:H.ok){v:AV}{l:List Ptr}(h:Ptrs H v l)(hn:v≠ .nilSlice)(he:v≠ .emptySl)(hl:l.length≤1000000000):
  ∃v' H',f77 D n [v] H=some (v',H')∧Prs H H'∧Grow 3 72 H' v' l.length (l.flatMap ptrV)∧ ∀B,Blk v' B→H.next≤B:=by
 have p1:Prs H (H.push (.cells [] 72 3 false)):=(Stp.refl hk).push _
 have g1:(H.push (.cells [] 72 3 false)).h.get H.next=some (.cells [] 72 3 false):=AH.push_get_eq _ _
 have n1:(H.push (.cells [] 72 3 false)).next=H.next+1:=rfl
 generalize hH1:H.push (.cells [] 72 3 false)=H1 at p1 g1 n1
 obtain⟨v',H2,e2,w2,s2,f2⟩:=(Grow.zero 3 72 g1 p1.ok).app (bytes:=24) p1.ok (by decide) (Rw.srcOf (h.prs p1)) h.1 (flat_cells _) (by omega) (by decide)
 have hz1: ∀a b c:AV,bldL 72 3 0 [a,b,c] []=some (.cells [] 72 3 false,fun A=> .slice A 0 0 0):=fun _ _ _=>rfl
 have heq:cmpO .eql (eqS v .nilSlice)=some (.bool false):=by
  obtain⟨_,⟨rfl,_⟩ | ⟨rfl,_⟩ | ⟨A,off,cc,c,e,sz,g,rfl,_⟩⟩:=h
  ·exact absurd rfl hn
  ·exact absurd rfl he
  ·rfl
 refine⟨v',H2, ?_,p1.fresh s2 (fun B hB=>by rw[Blk.slice.1 hB];exact Nat.le_refl _),by simpa using w2,fun B hB=> ?_⟩
 ·simp only[f77,ev,lg,wnt_undef,ew,heq,hz1,bA_ok hk,hH1,e2]
 ·rcases f2 B hB with h | h
  ·rw[Blk.slice.1 h];exact Nat.le_refl _
  ·omega
end Go.Eng.Sh
end
end
section
namespace Go.Eng.Sh
open Go.Nd (Ptr sumL cutOk)
def cuttable (nd:Nd.Node):Prop:=2≤nd.keys.length∧(nd.leaf=true∨3≤nd.keys.length)
def hbnd (nd:Nd.Node)(k:Nat):Prop:=
 (k=1∨Nd.size (Nd.cutA nd k)≤(Nd.size nd - 2) / 2+2)∧(k+(if nd.leaf then 1 else 2)=nd.keys.length∨(Nd.size nd - 2) / 2+2<Nd.size (Nd.cutA nd (k+1)))
theorem sumL_next (l:List Str){i:Nat}(h:i<l.length):sumL (l.take (i+1))=sumL (l.take i)+(1+(l[i]).length):=by
 rw[List.take_succ_eq_append_getElem h,Nd.sumL_append,Nd.sumL_cons];rfl
theorem size_leaf {nd:Nd.Node}(hl:nd.leaf=true)(hv:nd.vals.length=nd.keys.length){i:Nat}(h:i<nd.keys.length):Nd.size (Nd.cutA nd (i+1))=Nd.size (Nd.cutA nd i)+(1+(nd.keys[i]).length)+(1+(nd.vals[i]'(by omega)).length):=by
 simp only[Nd.cutA,hl,if_true,Nd.size,sumL_next nd.keys h,sumL_next nd.vals (i:=i) (by omega)];omega
theorem size_inner {nd:Nd.Node}(hl:nd.leaf=false)(hv:nd.kids.length=nd.keys.length+1){i:Nat}(h:i<nd.keys.length):Nd.size (Nd.cutA nd (i+1))=Nd.size (Nd.cutA nd i)+(1+(nd.keys[i]).length)+16:=by
 simp only[Nd.cutA,hl,Bool.false_eq_true,if_false,Nd.size,sumL_next nd.keys h,List.length_take];omega
theorem size_two (nd:Nd.Node):2≤Nd.size nd:=by simp only[Nd.size];omega
theorem halfLoop (D:Dyn)(n:Nat){H:AH}{ks vs ps:AV}{nd:Nd.Node}(h1:Strs H ks nd.keys)(h2:Strs H vs nd.vals)(hv:nd.leaf=true→nd.vals.length=nd.keys.length)(hp:nd.leaf=false→nd.kids.length=nd.keys.length+1){A:Nat}{e:TypeId}(hA:H.h.get A=some (.cells [.bool nd.leaf,ks,vs,ps] e 1 false))
  (most:Nat) (L:Nat) (hL:L≤nd.keys.length) (hb:nd.keys.length≤1000000000) (hz:Nd.size nd≤1000000000) (n':Nat) (hn:L<n'):
  Fin (loopK n' (f183l1 D n) [.ptr A 0, .int .i64 (most:Nat), .int .i64 (L:Nat), .int .i64 ((Nd.size (Nd.cutA nd 0) - 2:Nat):Int), .int .i64 (L:Nat), .int .i64 (0:Nat)] H) fun x H'=>H'=H∧((∃j:Nat,0<j∧j<L∧x= .ret (.int .i64 (j:Nat))∧(j=1∨Nd.size (Nd.cutA nd j)≤most+2)∧most+2<Nd.size (Nd.cutA nd (j+1)))∨(x= .exit 0 [.int .i64 (L:Nat)]∧(L≤1∨Nd.size (Nd.cutA nd L)≤most+2))):=by
 refine Fin.loop (fun k us H'=>H'=H∧ ∃(i:Nat),us=[.ptr A 0, .int .i64 (most:Nat), .int .i64 (L:Nat), .int .i64 ((Nd.size (Nd.cutA nd i) - 2:Nat):Int), .int .i64 (L:Nat), .int .i64 (i:Nat)]∧i≤L∧k=L - i∧(i≤1∨Nd.size (Nd.cutA nd i)≤most+2)) ?_ n' L _ H ⟨rfl,0,rfl,by omega,by omega, .inl (by omega)⟩ hn
 rintro k us H' ⟨rfl,i,rfl,hi,rfl,hpre⟩
 by_cases hlt:i<L
 ·have hik:i<nd.keys.length:=by omega
  obtain⟨p,p1,p2⟩:=h1.at hik
  have hiI:((i:Nat):Int)< ((L:Nat):Int):=by omega
  have z2:=size_two (Nd.cutA nd i)
  have z2':=size_two (Nd.cutA nd (i+1))
  have tail:Fin (f183j0 D n [.ptr A 0, .int .i64 (most:Nat), .int .i64 (L:Nat), .int .i64 ((Nd.size (Nd.cutA nd (i+1)) - 2:Nat):Int), .int .i64 (i:Nat), .int .i64 (L:Nat), .int .i64 (i:Nat)] H')
    (orN (fun us' H''=> ∃k',k'<L - i∧H''=H'∧ ∃(i:Nat),us'=[.ptr A 0, .int .i64 (most:Nat), .int .i64 (L:Nat), .int .i64 ((Nd.size (Nd.cutA nd i) - 2:Nat):Int), .int .i64 (L:Nat), .int .i64 (i:Nat)]∧i≤L∧k'=L - i∧(i≤1∨Nd.size (Nd.cutA nd i)≤most+2))
     (fun x H''=>H''=H'∧((∃j:Nat,0<j∧j<L∧x= .ret (.int .i64 (j:Nat))∧(j=1∨Nd.size (Nd.cutA nd j)≤most+2)∧most+2<Nd.size (Nd.cutA nd (j+1)))∨(x= .exit 0 [.int .i64 (L:Nat)]∧(L≤1∨Nd.size (Nd.cutA nd L)≤most+2))))):=by
   by_cases hc:0<i∧most<Nd.size (Nd.cutA nd (i+1)) - 2
   ·have c1:((0:Nat):Int)< (i:Int):=by omega
    have c2:((most:Nat):Int)< ((Nd.size (Nd.cutA nd (i+1)) - 2:Nat):Int):=by omega
    have:f183j0 D n [.ptr A 0, .int .i64 (most:Nat), .int .i64 (L:Nat), .int .i64 ((Nd.size (Nd.cutA nd (i+1)) - 2:Nat):Int), .int .i64 (i:Nat), .int .i64 (L:Nat), .int .i64 (i:Nat)] H'=some (.ret (.int .i64 (i:Nat)),H'):=by
     simp(disch:=omega) only[f183j0,ev,lg,wnt_undef,ew,c1,c2]
    rw[this]
    exact⟨_,_,rfl,rfl, .inl ⟨i,hc.1,hlt,rfl,by omega,by omega⟩⟩
   ·have hcb:(decide (((0:Nat):Int)< (i:Int))&&decide (((most:Nat):Int)< ((Nd.size (Nd.cutA nd (i+1)) - 2:Nat):Int)))=false:=by
     rw[Bool.eq_false_iff];intro hh
     simp only[Bool.and_eq_true,decide_eq_true_eq]at hh
     exact hc ⟨by omega,by omega⟩
    have:f183j0 D n [.ptr A 0, .int .i64 (most:Nat), .int .i64 (L:Nat), .int .i64 ((Nd.size (Nd.cutA nd (i+1)) - 2:Nat):Int), .int .i64 (i:Nat), .int .i64 (L:Nat), .int .i64 (i:Nat)] H'=some (.norm [.ptr A 0, .int .i64 (most:Nat), .int .i64 (L:Nat), .int .i64 ((Nd.size (Nd.cutA nd (i+1)) - 2:Nat):Int), .int .i64 (L:Nat), .int .i64 ((i+1:Nat):Int)],H'):=by
     simp(disch:=omega) only[f183j0,ev,lg,wnt_undef,ew,hcb,Int.natCast_add]
    rw[this]
    exact⟨_,_,rfl,L - (i+1),by omega,rfl,i+1,rfl,by omega,rfl,by omega⟩
  have hsz:Nd.size (Nd.cutA nd i)≤1000000002:=by
   have t1:=Nd.sumL_take_le nd.keys i;have t2:=Nd.sumL_take_le nd.vals i
   have:Nd.size nd=2+16*nd.kids.length+sumL nd.keys+sumL nd.vals:=rfl
   have z0:sumL []=0:=rfl
   simp only[Nd.cutA]
   split<;>simp only[Nd.size,List.length_nil,List.length_take,z0]<;>omega
  have hkl:(nd.keys[i]).length≤1000000000:=by
   have:=Nd.sumL_drop_le nd.keys i
   rw[List.drop_eq_getElem_cons hik,Nd.sumL_cons]at this
   have:Nd.size nd=2+16*nd.kids.length+sumL nd.keys+sumL nd.vals:=rfl
   omega
  cases hl:nd.leaf with
  | true=>
   rw[hl]at hA
   obtain⟨q,q1,q2⟩:=h2.at (i:=i) (by rw[hv hl];exact hik)
   have hs:=size_leaf hl (hv hl) hik
   have hvl:(nd.vals[i]'(by rw[hv hl];exact hik)).length≤1000000000:=by
    have:=Nd.sumL_drop_le nd.vals i
    rw[List.drop_eq_getElem_cons (by rw[hv hl];exact hik),Nd.sumL_cons]at this
    have:Nd.size nd=2+16*nd.kids.length+sumL nd.keys+sumL nd.vals:=rfl
    omega
   have hz:((Nd.size (Nd.cutA nd (i+1)) - 2:Nat):Int)=((Nd.size (Nd.cutA nd i) - 2:Nat):Int)+(((1:Nat):Int)+(((nd.keys[i]).length:Nat):Int))+(((1:Nat):Int)+(((nd.vals[i]'(by rw[hv hl];exact hik)).length:Nat):Int)):=by omega
   have:f183l1 D n [.ptr A 0, .int .i64 (most:Nat), .int .i64 (L:Nat), .int .i64 ((Nd.size (Nd.cutA nd i) - 2:Nat):Int), .int .i64 (L:Nat), .int .i64 (i:Nat)] H'=jn (some (.norm [.ptr A 0, .int .i64 (most:Nat), .int .i64 (L:Nat), .int .i64 ((Nd.size (Nd.cutA nd (i+1)) - 2:Nat):Int), .int .i64 (i:Nat), .int .i64 (L:Nat), .int .i64 (i:Nat)],H')) (f183j0 D n):=by
    rw[hz]
    simp(disch:=omega) only[f183l1,ev,lg,wnt_undef,ew,hiI,ld1_get hA,p1,p2,q1,q2]
   rw[this,jn_norm];exact tail
  | false=>
   rw[hl]at hA
   have hs:=size_inner hl (hp hl) hik
   have hz:((Nd.size (Nd.cutA nd (i+1)) - 2:Nat):Int)=((Nd.size (Nd.cutA nd i) - 2:Nat):Int)+(((1:Nat):Int)+(((nd.keys[i]).length:Nat):Int))+((16:Nat):Int):=by omega
   have:f183l1 D n [.ptr A 0, .int .i64 (most:Nat), .int .i64 (L:Nat), .int .i64 ((Nd.size (Nd.cutA nd i) - 2:Nat):Int), .int .i64 (L:Nat), .int .i64 (i:Nat)] H'=jn (some (.norm [.ptr A 0, .int .i64 (most:Nat), .int .i64 (L:Nat), .int .i64 ((Nd.size (Nd.cutA nd (i+1)) - 2:Nat):Int), .int .i64 (i:Nat), .int .i64 (L:Nat), .int .i64 (i:Nat)],H')) (f183j0 D n):=by
    rw[hz]
    simp(disch:=omega) only[f183l1,ev,lg,wnt_undef,ew,hiI,ld1_get hA,p1,p2]
   rw[this,jn_norm];exact tail
 ·have hiI: ¬((i:Nat):Int)< ((L:Nat):Int):=by omega
  have hiL:i=L:=by omega
  subst hiL
  refine⟨.exit 0 [.int .i64 (i:Nat)],H', ?_,rfl, .inr ⟨rfl,hpre⟩⟩
  simp only[f183l1,ev,lg,wnt_undef,ew,hiI]
theorem half_ok (D:Dyn)(n:Nat)(hn:200000000≤n){H:AH}(hk:H.ok){v:AV}{nd:Nd.Node}(h:NodeV H v nd)(hs:small nd)(hsh:Nd.shaped ltS nd=true)(hc:cuttable nd):
  ∃(k:Nat) (H':AH),f183 D n [v] H=some (.int .i64 (k:Nat),H')∧Prs H H'∧cutOk nd k∧hbnd nd k:=by
 have h0:=h
 obtain⟨ks,vs,ps,rfl,h1,h2,h3⟩:=h
 have hkl:=Nd.sumL_ge nd.keys
 obtain⟨s1,s2,s3⟩:=id hs
 obtain⟨c1,c2⟩:=hc
 have hv:nd.leaf=true→nd.vals.length=nd.keys.length:=by
  intro hl
  simp only[Nd.shaped,hl,if_true,Bool.and_eq_true,decide_eq_true_eq]at hsh
  exact hsh.2.1.1
 have hp:nd.leaf=false→nd.kids.length=nd.keys.length+1:=by
  intro hl
  simp only[Nd.shaped,hl,Bool.false_eq_true,if_false,Bool.and_eq_true,decide_eq_true_eq]at hsh
  exact hsh.2.1.2
 have p1:Prs H (H.push (.cells [.bool nd.leaf,ks,vs,ps] 133 1 false)):=(Stp.refl hk).push _
 have g1:(H.push (.cells [.bool nd.leaf,ks,vs,ps] 133 1 false)).h.get H.next=some (.cells [.bool nd.leaf,ks,vs,ps] 133 1 false):=AH.push_get_eq _ _
 generalize hH1:H.push (.cells [.bool nd.leaf,ks,vs,ps] 133 1 false)=H1 at p1 g1
 obtain⟨z,H2,e2,rfl,p2⟩:=size_ok D n p1.ok (h0.prs p1) hs hn
 have g2:=p2.get p1.ok g1
 have P:Prs H H2:=p1.trans p2
 have hq:=bInt_quo .i64 (((Nd.size nd:Nat):Int) - ((2:Nat):Int)) ((2:Nat):Int) (by omega)
 have hsz:Nd.size nd≤1000000000:=by simp only[Nd.size];omega
 have hz2:=size_two nd
 have hmost:IntKind.wrap .i64 ((((Nd.size nd:Nat):Int) - ((2:Nat):Int)).tdiv ((2:Nat):Int))=(((Nd.size nd - 2) / 2:Nat):Int):=by
  rw[show((Nd.size nd:Nat):Int) - ((2:Nat):Int)=((Nd.size nd - 2:Nat):Int)by omega,Int.tdiv_eq_ediv_of_nonneg (by omega)]
  rw[wrap_i64 (by omega) (by omega)];omega
 rw[hmost]at hq
 cases hl:nd.leaf with
 | true=>
  obtain⟨x,H3,e3,rfl,hx⟩:=halfLoop D n (h1.prs P) (h2.prs P) hv hp g2 ((Nd.size nd - 2) / 2) (nd.keys.length - 1) (by omega) (by omega) hsz n (by omega)
  have hL:((nd.keys.length:Nat):Int) - ((1:Nat):Int)=((nd.keys.length - 1:Nat):Int):=by omega
  rw[hl]at g2 hH1 e2
  rw[show Nd.size (Nd.cutA nd 0) - 2=0 by simp[Nd.cutA,hl,Nd.size,sumL]]at e3
  rcases hx with⟨j,j1,j2,rfl,j3,j4⟩ | ⟨rfl,j3⟩
  ·refine⟨j,H3, ?_,P,⟨j1,by rw[hl];simp only[if_true];omega⟩,j3, .inr j4⟩
   simp(disch:=omega) only[f183,ev,lg,wnt_undef,ew,bA_ok hk,hH1,sub4,Option.map_some,hl,e2,hq,ld1_get g2,h1.lnSl,hL,f183j3,e3]
  ·refine⟨nd.keys.length - 1,H3, ?_,P,⟨by omega,by rw[hl];simp only[if_true];omega⟩,by omega, .inl (by rw[hl];simp only[if_true];omega)⟩
   simp(disch:=omega) only[f183,ev,lg,wnt_undef,ew,bA_ok hk,hH1,sub4,Option.map_some,hl,e2,hq,ld1_get g2,h1.lnSl,hL,f183j3,e3,f183b2]
 | false=>
  have c3:3≤nd.keys.length:=by rcases c2 with h | h;rw[hl]at h;cases h;exact h
  obtain⟨x,H3,e3,rfl,hx⟩:=halfLoop D n (h1.prs P) (h2.prs P) hv hp g2 ((Nd.size nd - 2) / 2) (nd.keys.length - 2) (by omega) (by omega) hsz n (by omega)
  have hL:((nd.keys.length:Nat):Int) - ((1:Nat):Int) - ((1:Nat):Int)=((nd.keys.length - 2:Nat):Int):=by omega
  rw[hl]at g2 hH1 e2
  rw[show Nd.size (Nd.cutA nd 0) - 2=16 by have hpl:=hp hl;simp only[Nd.cutA,hl,Bool.false_eq_true,if_false,Nd.size,List.take_zero,List.length_take,Nat.zero_add,show sumL []=0 from rfl];omega]at e3
  rcases hx with⟨j,j1,j2,rfl,j3,j4⟩ | ⟨rfl,j3⟩
  ·refine⟨j,H3, ?_,P,⟨j1,by rw[hl];simp only[Bool.false_eq_true,if_false];omega⟩,j3, .inr j4⟩
   simp(disch:=omega) only[f183,ev,lg,wnt_undef,ew,bA_ok hk,hH1,sub4,Option.map_some,hl,e2,hq,ld1_get g2,h1.lnSl,hL,f183j3,e3]
  ·refine⟨nd.keys.length - 2,H3, ?_,P,⟨by omega,by rw[hl];simp only[Bool.false_eq_true,if_false];omega⟩,by omega, .inl (by rw[hl];simp only[Bool.false_eq_true,if_false];omega)⟩
   simp(disch:=omega) only[f183,ev,lg,wnt_undef,ew,bA_ok hk,hH1,sub4,Option.map_some,hl,e2,hq,ld1_get g2,h1.lnSl,hL,f183j3,e3,f183b2]
end Go.Eng.Sh
end
section
namespace Go.Eng.Sh
open Go.Nd (Ptr sumL cutOk cutA cutB)
theorem slSl_same {k e n:Nat}{H H':AH}{v:AV}{l l':List AV}(h:Grow k e H v n l)(h':Grow k e H' v n l')(hpos:0<k)(lo hi mx:Option AV):slSl k v lo hi mx H'=slSl k v lo hi mx H:=by
 have room1: ∀l:List AV,l.length=n*k→roomOf l true k 0 1 k=n:=fun l h0=>by
  simp only[roomOf,show((1 % 2).beq 0)=false from rfl,cond_false,Nat.beq_refl,show Nat.beq 0 (1 / 2*k)=true from by simp,Bool.and_self,cond_true,lenL_zero,h0,Nat.sub_zero]
  exact Nat.mul_div_cancel _ hpos
 have room2: ∀(l:List AV) (g:Bool),roomOf l g k 0 (2*n) k=n:=fun l g=>by
  simp only[roomOf,show((2*n) % 2).beq 0=true by rw[Nat.mul_mod_right];rfl,cond_true,Nat.mul_div_cancel_left n (show 0<2 by omega)]
 rcases h with⟨h0,⟨rfl,_⟩ | ⟨A,rfl,hA,hg⟩⟩ | ⟨h0,A,e',g,rfl,hA,hg⟩
 ·rfl
 ·rcases h' with⟨h0',⟨hv,_⟩ | ⟨A',hv,hA',hg'⟩⟩ | ⟨h0',A',e'',g',hv,hA',hg'⟩
  ·cases hv
  ·simp only[AV.slice.injEq]at hv;obtain⟨rfl,_⟩:=hv
   simp only[slSl,hg,hg',room1 l h0,room1 l' h0']
  ·simp only[AV.slice.injEq]at hv;omega
 ·rcases h' with⟨h0',⟨hv,_⟩ | ⟨A',hv,hA',hg'⟩⟩ | ⟨h0',A',e'',g',hv,hA',hg'⟩
  ·cases hv
  ·simp only[AV.slice.injEq]at hv;omega
  ·simp only[AV.slice.injEq]at hv;obtain⟨rfl,_⟩:=hv
   simp only[slSl,hg,hg',room2]
theorem st_fld {H:AH}(hk:H.ok){A o:Nat}{l:List AV}{e:TypeId}{x:AV}(h:H.h.get A=some (.cells l e 1 false))(hx:isCell x=true)(ho:o<l.length):
  ∃H',stN 1 (.ptr A o) x H=some (undefA,H')∧H'.h.get A=some (.cells (l.set o x) e 1 false)∧Stp (fun B=>B=A) H H'∧H'.next=H.next:=
 ⟨_,st1_ok h (by decide) hx ho,by rw[AH.put_get,if_pos rfl],(Stp.refl hk).put (hk.lt h) _ (.inr rfl),rfl⟩
theorem map_take (l:List Str)(k:Nat):(l.map S).take (k*1)=(l.take k).map S:=by simp
theorem map_drop (l:List Str)(k:Nat):(l.map S).drop (k*1)=(l.drop k).map S:=by simp
theorem flat_take: ∀(l:List Ptr) (k:Nat),(l.flatMap ptrV).take (k*3)=(l.take k).flatMap ptrV
 | _,0=>by simp
 | [],k+1=>by simp
 | p::l,k+1=>by
  have ih:=flat_take l k
  rw[show(k+1)*3=k*3+3 from by omega]
  show((ptrV p)++l.flatMap ptrV).take (k*3+3)=ptrV p++(l.take k).flatMap ptrV
  rw[← ih];rfl
theorem flat_drop: ∀(l:List Ptr) (k:Nat),(l.flatMap ptrV).drop (k*3)=(l.drop k).flatMap ptrV
 | _,0=>by simp
 | [],k+1=>by simp
 | p::l,k+1=>by
  have ih:=flat_drop l k
  rw[show(k+1)*3=k*3+3 from by omega]
  show((ptrV p)++l.flatMap ptrV).drop (k*3+3)=(l.drop k).flatMap ptrV
  rw[← ih];rfl
structure CutI (H0:AH)(A1 A2 A4:Nat)(H:AH)(l1 l2 l4:List AV):Prop where
 prs:Prs H0 H
 a1:H.h.get A1=some (.cells l1 133 1 false)
 a2:H.h.get A2=some (.cells l2 133 1 false)
 a4:H.h.get A4=some (.cells l4 133 1 false)
 o1:H0.next≤A1
 o2:A1<A2
 o4:A2<A4
theorem CutI.lt {H0 H:AH}{A1 A2 A4:Nat}{l1 l2 l4:List AV}(h:CutI H0 A1 A2 A4 H l1 l2 l4):A4<H.next:=h.prs.ok.lt h.a4
theorem CutI.step {H0 H H':AH}{A1 A2 A4:Nat}{l1 l2 l4:List AV}(h:CutI H0 A1 A2 A4 H l1 l2 l4)(s:Prs H H'):CutI H0 A1 A2 A4 H' l1 l2 l4:=
 ⟨h.prs.trans s,s.get h.prs.ok h.a1,s.get h.prs.ok h.a2,s.get h.prs.ok h.a4,h.o1,h.o2,h.o4⟩
theorem CutI.st2 {H0 H:AH}{A1 A2 A4:Nat}{l1 l2 l4:List AV}(h:CutI H0 A1 A2 A4 H l1 l2 l4){o:Nat}{x:AV}(hx:isCell x=true)(ho:o<l2.length):
  ∃H',stN 1 (.ptr A2 o) x H=some (undefA,H')∧CutI H0 A1 A2 A4 H' l1 (l2.set o x) l4∧Stp (fun B=>B=A2) H H':=by
 obtain⟨H',e,g,s,n⟩:=st_fld h.prs.ok h.a2 hx ho
 have:=h.o1;have:=h.o2;have:=h.o4;have l4:=h.lt
 exact⟨H',e,⟨h.prs.fresh s (fun B hB=>by omega),by rw[s.keep _ (by omega) (by omega)];exact h.a1,g,by rw[s.keep _ l4 (by omega)];exact h.a4,h.o1,h.o2,h.o4⟩,s⟩
theorem CutI.st4 {H0 H:AH}{A1 A2 A4:Nat}{l1 l2 l4:List AV}(h:CutI H0 A1 A2 A4 H l1 l2 l4){o:Nat}{x:AV}(hx:isCell x=true)(ho:o<l4.length):
  ∃H',stN 1 (.ptr A4 o) x H=some (undefA,H')∧CutI H0 A1 A2 A4 H' l1 l2 (l4.set o x)∧Stp (fun B=>B=A4) H H':=by
 obtain⟨H',e,g,s,n⟩:=st_fld h.prs.ok h.a4 hx ho
 have:=h.o1;have:=h.o2;have:=h.o4;have l4:=h.lt
 exact⟨H',e,⟨h.prs.fresh s (fun B hB=>by omega),by rw[s.keep _ (by omega) (by omega)];exact h.a1,by rw[s.keep _ (by omega) (by omega)];exact h.a2,g,h.o1,h.o2,h.o4⟩,s⟩
theorem CutI.all2 {H0 H:AH}{A1 A2 A4:Nat}{l1 l2 l4 l':List AV}(h:CutI H0 A1 A2 A4 H l1 l2 l4)(hl:l'.length=l2.length)(hc:allCells l'=true):
  ∃H',stN l2.length (.ptr A2 0) (.agg l') H=some (undefA,H')∧CutI H0 A1 A2 A4 H' l1 l' l4∧Stp (fun B=>B=A2) H H':=by
 obtain⟨H',e,g,s,n⟩:=st_all h.prs.ok h.a2 hl hc
 have:=h.o1;have:=h.o2;have:=h.o4;have l4:=h.lt
 exact⟨H',e,⟨h.prs.fresh s (fun B hB=>by omega),by rw[s.keep _ (by omega) (by omega)];exact h.a1,g,by rw[s.keep _ l4 (by omega)];exact h.a4,h.o1,h.o2,h.o4⟩,s⟩
theorem CutI.all4 {H0 H:AH}{A1 A2 A4:Nat}{l1 l2 l4 l':List AV}(h:CutI H0 A1 A2 A4 H l1 l2 l4)(hl:l'.length=l4.length)(hc:allCells l'=true):
  ∃H',stN l4.length (.ptr A4 0) (.agg l') H=some (undefA,H')∧CutI H0 A1 A2 A4 H' l1 l2 l'∧Stp (fun B=>B=A4) H H':=by
 obtain⟨H',e,g,s,n⟩:=st_all h.prs.ok h.a4 hl hc
 have:=h.o1;have:=h.o2;have:=h.o4;have l4:=h.lt
 exact⟨H',e,⟨h.prs.fresh s (fun B hB=>by omega),by rw[s.keep _ (by omega) (by omega)];exact h.a1,by rw[s.keep _ (by omega) (by omega)];exact h.a2,g,h.o1,h.o2,h.o4⟩,s⟩
end Go.Eng.Sh
end
section
namespace Go.Eng.Sh
open Go.Nd (Ptr sumL cutOk cutA cutB)
def blkN (u:AV)(B:Nat):Prop:= ∃x ks vs ps,u= .agg [x,ks,vs,ps]∧(Blk ks B∨Blk vs B∨Blk ps B)
theorem blkN_mk {x ks vs ps:AV}{B:Nat} :blkN (.agg [x,ks,vs,ps]) B↔(Blk ks B∨Blk vs B∨Blk ps B):=
 ⟨fun⟨_,_,_,_,e,h⟩=>by simp only[AV.agg.injEq,List.cons.injEq,and_true]at e;obtain⟨rfl,rfl,rfl,rfl⟩:=e;exact h,fun h=>⟨_,_,_,_,rfl,h⟩⟩
def NodeF (N:Nat)(H:AH)(v:AV)(nd:Nd.Node):Prop:=NodeG H v nd∧ ∀B,blkN v B→N≤B
structure FrG (A k e:Nat)(H:AH)(v:AV)(n:Nat)(l:List AV):Prop where
 g:Grow k e H v n l
 f: ∀B,Blk v B→A<B
theorem FrG.prs {A k e n:Nat}{H H':AH}{v:AV}{l:List AV}(h:FrG A k e H v n l)(s:Prs H H'):FrG A k e H' v n l:=⟨h.g.mono s (fun _ _ x=>x),h.f⟩
theorem FrG.stp {A A' k e n:Nat}{H H':AH}{v:AV}{l:List AV}(h:FrG A k e H v n l)(s:Stp (fun B=>B=A') H H')(hA:A'≤A):FrG A k e H' v n l:=
 ⟨h.g.mono s (fun B hB e=>by have:=h.f B hB;omega),h.f⟩
theorem aveq_S (l:Str):aveq (S l) (S l)=true:=by simp[S,aveq]
theorem FrG.nil (A k e:Nat)(H:AH):FrG A k e H .nilSlice 0 []:=⟨.inl ⟨by simp, .inl ⟨rfl,rfl⟩⟩,fun B hB=>(Blk.nil.1 hB).elim⟩
theorem FrG.isCell {A k e n:Nat}{H:AH}{v:AV}{l:List AV}(h:FrG A k e H v n l):isCell v=true:=h.g.isCell
theorem FrG.aveq {A k e n:Nat}{H:AH}{v:AV}{l:List AV}(h:FrG A k e H v n l):aveq v v=true:=aveq_row h.g.row
structure FrN (A:Nat)(H:AH)(a b c:AV)(nd:Nd.Node):Prop where
 k:FrG A 1 9 H a nd.keys.length (nd.keys.map S)
 v:FrG A 1 9 H b nd.vals.length (nd.vals.map S)
 p:FrG A 3 72 H c nd.kids.length (nd.kids.flatMap ptrV)
theorem FrN.stp {A A':Nat}{H H':AH}{a b c:AV}{nd:Nd.Node}(h:FrN A H a b c nd)(s:Stp (fun B=>B=A') H H')(hA:A'≤A):FrN A H' a b c nd:=⟨h.k.stp s hA,h.v.stp s hA,h.p.stp s hA⟩
theorem FrN.fresh {A N:Nat}{H:AH}{x a b c:AV}{nd:Nd.Node}(h:FrN A H a b c nd)(hN:N≤A): ∀B,blkN (.agg [x,a,b,c]) B→N≤B:=fun B hB=>by
 rcases blkN_mk.1 hB with k | k | k
 ·have:=h.k.f B k;omega
 ·have:=h.v.f B k;omega
 ·have:=h.p.f B k;omega
theorem cutJ_ok (D:Dyn)(n:Nat){H0 H:AH}{A1 A2 A4 k:Nat}{b:Bool}{ks vs ps k2 v2 p2 k4 v4 p4:AV}{keys:List Str}{na nb:Nd.Node}
  (h:CutI H0 A1 A2 A4 H [.bool b,ks,vs,ps] [.bool b,k2,v2,p2] [.bool b,k4,v4,p4]) (hks:Strs H ks keys) (hR: ∀B,Blk ks B→B<H0.next) (hk:k<keys.length) (ha:FrN A4 H k2 v2 p2 na) (hb:FrN A4 H k4 v4 p4 nb):
  ∃H',f167j0 D n [.ptr A1 0, .ptr A2 0, .ptr A4 0, .int .i64 (k:Nat)] H=some (.ret (.tuple [.agg [.bool b,k2,v2,p2],S (keys.getD k []), .agg [.bool b,k4,v4,p4], .int .i64 ((0:Nat):Int)]),H')∧Prs H0 H'∧FrN A4 H' k2 v2 p2 na∧FrN A4 H' k4 v4 p4 nb:=by
 have o1:=h.o1;have o2:=h.o2;have o4:=h.o4
 obtain⟨q,q1,q2⟩:=hks.at hk
 obtain⟨H1,e1,h1,s1⟩:=h.all2 (l':=[.bool b,k2,v2,p2]) rfl (allCells4 _ _ _ _ ha.k.isCell ha.v.isCell ha.p.isCell)
 have hks1:Strs H1 ks keys:=Rw.stp hks s1 (fun B hB e=>by have:=hR B hB;omega)
 obtain⟨q',q1',q2'⟩:=hks1.at hk
 obtain rfl:q=q':=by have:=q1 .i64 k rfl;rw[q1' .i64 k rfl]at this;cases this;rfl
 obtain⟨H2,e2,h2,s2⟩:=h1.all4 (l':=[.bool b,k4,v4,p4]) rfl (allCells4 _ _ _ _ hb.k.isCell hb.v.isCell hb.p.isCell)
 have e1':stN 4 (.ptr A2 0) (.agg [.bool b,k2,v2,p2]) H=some (undefA,H1):=e1
 have e2':stN 4 (.ptr A4 0) (.agg [.bool b,k4,v4,p4]) H1=some (undefA,H2):=e2
 have hagg:aveq (.agg [.bool b,k4,v4,p4]) (.agg [.bool b,k4,v4,p4])=true:=by simp[Eng.aveq,aveqL,hb.k.aveq,hb.v.aveq,hb.p.aveq]
 have hg:keys.getD k []=keys[k]:=by rw[List.getD_eq_getElem?_getD,List.getElem?_eq_getElem hk];rfl
 have l4:ldN 4 (.ptr A4 0) H1=some (.agg [.bool b,k4,v4,p4]):=by rw[ldN_get h1.a4];rfl
 refine⟨H2, ?_,h2.prs,(ha.stp s1 (by omega)).stp s2 (by omega),(hb.stp s1 (by omega)).stp s2 (by omega)⟩
 rw[hg]
 simp(disch:=omega) only[f167j0,ev,lg,wnt_undef,ew,ldN_get h.a2,ldN_get h.a4,ld1_get h.a1,q1,q2,e1',e2',chk_ok (ld1_get h1.a1 1) (aveq_row hks),chk_ok q2' (aveq_S _),chk_ok l4 hagg,ldN_get h2.a2,ldN_get h2.a4,sub4,Option.map_some]
end Go.Eng.Sh
end
section
namespace Go.Eng.Sh
open Go.Nd (Ptr sumL cutOk cutA cutB)
theorem hiS_ok (D:Dyn)(n:Nat){H:AH}(hk:H.ok){v:AV}{l:List Str}(h:Grow 1 9 H v l.length (l.map S))(hl:l.length≤1000000000){i:Nat}(h0:0<i)(hi:i≤l.length)(A:Nat)(hA:A<H.next):
  ∃r v' H',slSl 1 v none (some (.int .i64 (i:Nat))) (some (.int .i64 (i:Nat))) H=some r∧f109 D n [r] H=some (v',H')∧Prs H H'∧FrG A 1 9 H' v' (l.take i).length ((l.take i).map S):=by
 obtain⟨r,e1,w,hz⟩:=slSl_hi h (by decide) hi .i64 .i64
 rw[map_take]at w
 have hlen:(l.take i).length=i:=by rw[List.length_take];omega
 have w':Strs H r (l.take i):=by rw[Strs,hlen];exact w
 obtain⟨v',H',e2,p,g,f⟩:=cloneS_ok D n hk w' (hz h0).1 (hz h0).2 (by omega)
 exact⟨r,v',H',e1,e2,p,g,fun B hB=>by have:=f B hB;omega⟩
theorem loS_ok (D:Dyn)(n:Nat){H:AH}(hk:H.ok){v:AV}{l:List Str}(h:Grow 1 9 H v l.length (l.map S))(hl:l.length≤1000000000){i:Nat}(hi:i<l.length)(A:Nat)(hA:A<H.next):
  ∃r v' H',aveq r r=true∧slSl 1 v (some (.int .i64 (i:Nat))) none none H=some r∧f109 D n [r] H=some (v',H')∧Prs H H'∧FrG A 1 9 H' v' (l.drop i).length ((l.drop i).map S):=by
 obtain⟨r,e1,w,z1,z2⟩:=slSl_lo h (by decide) hi .i64
 rw[map_drop]at w
 have hlen:(l.drop i).length=l.length - i:=by rw[List.length_drop]
 have w':Strs H r (l.drop i):=by rw[Strs,hlen];exact w
 obtain⟨v',H',e2,p,g,f⟩:=cloneS_ok D n hk w' z1 z2 (by omega)
 exact⟨r,v',H',aveq_row w,e1,e2,p,g,fun B hB=>by have:=f B hB;omega⟩
theorem hiP_ok (D:Dyn)(n:Nat){H:AH}(hk:H.ok){v:AV}{l:List Ptr}(h:Grow 3 72 H v l.length (l.flatMap ptrV))(hl:l.length≤1000000000){i:Nat}(h0:0<i)(hi:i≤l.length)(A:Nat)(hA:A<H.next):
  ∃r v' H',slSl 3 v none (some (.int .i64 (i:Nat))) (some (.int .i64 (i:Nat))) H=some r∧f77 D n [r] H=some (v',H')∧Prs H H'∧FrG A 3 72 H' v' (l.take i).length ((l.take i).flatMap ptrV):=by
 obtain⟨r,e1,w,hz⟩:=slSl_hi h (by decide) hi .i64 .i64
 rw[flat_take]at w
 have hlen:(l.take i).length=i:=by rw[List.length_take];omega
 have w':Ptrs H r (l.take i):=by rw[Ptrs,hlen];exact w
 obtain⟨v',H',e2,p,g,f⟩:=cloneP_ok D n hk w' (hz h0).1 (hz h0).2 (by omega)
 exact⟨r,v',H',e1,e2,p,g,fun B hB=>by have:=f B hB;omega⟩
theorem loP_ok (D:Dyn)(n:Nat){H:AH}(hk:H.ok){v:AV}{l:List Ptr}(h:Grow 3 72 H v l.length (l.flatMap ptrV))(hl:l.length≤1000000000){i:Nat}(hi:i<l.length)(A:Nat)(hA:A<H.next):
  ∃r v' H',aveq r r=true∧slSl 3 v (some (.int .i64 (i:Nat))) none none H=some r∧f77 D n [r] H=some (v',H')∧Prs H H'∧FrG A 3 72 H' v' (l.drop i).length ((l.drop i).flatMap ptrV):=by
 obtain⟨r,e1,w,z1,z2⟩:=slSl_lo h (by decide) hi .i64
 rw[flat_drop]at w
 have hlen:(l.drop i).length=l.length - i:=by rw[List.length_drop]
 have w':Ptrs H r (l.drop i):=by rw[Ptrs,hlen];exact w
 obtain⟨v',H',e2,p,g,f⟩:=cloneP_ok D n hk w' z1 z2 (by omega)
 exact⟨r,v',H',aveq_row w,e1,e2,p,g,fun B hB=>by have:=f B hB;omega⟩
end Go.Eng.Sh
end
section
namespace Go.Eng.Sh
open Go.Nd (Ptr sumL cutOk cutA cutB)
theorem cutHead (D:Dyn)(n:Nat)(hn:200000000≤n){H:AH}(hk:H.ok){b:Bool}{ks vs ps:AV}{nd:Nd.Node}(hb:nd.leaf=b)(h:NodeV H (.agg [.bool b,ks,vs,ps]) nd)(hs:small nd):
  ∃H1 H2 H3 H4 A1 A2 A4,(∀K,bA (some (AObj.cells [.bool b,ks,vs,ps] 133 1 false,fun A=>AV.ptr A 0)) H K=K (.ptr A1 0) H1)∧(∀K,bA (some (AObj.cells [.bool false, .nilSlice, .nilSlice, .nilSlice] 133 1 false,fun A=>AV.ptr A 0)) H1 K=K (.ptr A2 0) H2)∧
   (∀K,bA (some (AObj.cells [.bool false, .nilSlice, .nilSlice, .nilSlice] 133 1 false,fun A=>AV.ptr A 0)) H2 K=K (.ptr A4 0) H3)∧f107 D n [.agg [.bool b,ks,vs,ps]] H3=some (.bool (Nd.shaped ltS nd),H4)∧
   CutI H A1 A2 A4 H3 [.bool b,ks,vs,ps] [.bool false, .nilSlice, .nilSlice, .nilSlice] [.bool false, .nilSlice, .nilSlice, .nilSlice]∧CutI H A1 A2 A4 H4 [.bool b,ks,vs,ps] [.bool false, .nilSlice, .nilSlice, .nilSlice] [.bool false, .nilSlice, .nilSlice, .nilSlice]:=by
 have p1:Prs H (H.push (.cells [.bool b,ks,vs,ps] 133 1 false)):=(Stp.refl hk).push _
 have g1:(H.push (.cells [.bool b,ks,vs,ps] 133 1 false)).h.get H.next=some (.cells [.bool b,ks,vs,ps] 133 1 false):=AH.push_get_eq _ _
 have n1:(H.push (.cells [.bool b,ks,vs,ps] 133 1 false)).next=H.next+1:=rfl
 generalize hH1:H.push (.cells [.bool b,ks,vs,ps] 133 1 false)=H1 at p1 g1 n1
 have p2:Prs H1 (H1.push (.cells [.bool false, .nilSlice, .nilSlice, .nilSlice] 133 1 false)):=(Stp.refl p1.ok).push _
 have g2:(H1.push (.cells [.bool false, .nilSlice, .nilSlice, .nilSlice] 133 1 false)).h.get H1.next=some (.cells [.bool false, .nilSlice, .nilSlice, .nilSlice] 133 1 false):=AH.push_get_eq _ _
 have n2:(H1.push (.cells [.bool false, .nilSlice, .nilSlice, .nilSlice] 133 1 false)).next=H1.next+1:=rfl
 have g12:=p2.get p1.ok g1
 generalize hH2:H1.push (.cells [.bool false, .nilSlice, .nilSlice, .nilSlice] 133 1 false)=H2 at p2 g2 n2 g12
 have p3:Prs H2 (H2.push (.cells [.bool false, .nilSlice, .nilSlice, .nilSlice] 133 1 false)):=(Stp.refl p2.ok).push _
 have g3:(H2.push (.cells [.bool false, .nilSlice, .nilSlice, .nilSlice] 133 1 false)).h.get H2.next=some (.cells [.bool false, .nilSlice, .nilSlice, .nilSlice] 133 1 false):=AH.push_get_eq _ _
 have g13:=p3.get p2.ok g12
 have g23:=p3.get p2.ok g2
 generalize hH3:H2.push (.cells [.bool false, .nilSlice, .nilSlice, .nilSlice] 133 1 false)=H3 at p3 g3 g13 g23
 have P3:Prs H H3:=(p1.trans p2).trans p3
 obtain⟨H4,e4,p4⟩:=shaped_ok D n p3.ok (h.prs P3) hs hn
 have c3:CutI H H.next H1.next H2.next H3 [.bool b,ks,vs,ps] [.bool false, .nilSlice, .nilSlice, .nilSlice] [.bool false, .nilSlice, .nilSlice, .nilSlice]:=⟨P3,g13,g23,g3,by omega,by omega,by omega⟩
 refine⟨H1,H2,H3,H4,H.next,H1.next,H2.next,fun K=> ?_,fun K=> ?_,fun K=> ?_,e4,c3,c3.step p4⟩
 ·simp only[ev,lg,wnt_undef,ew,bA_ok hk,hH1]
 ·simp only[ev,lg,wnt_undef,ew,bA_ok p1.ok,hH2]
 ·simp only[ev,lg,wnt_undef,ew,bA_ok p2.ok,hH3]
end Go.Eng.Sh
end
section
namespace Go.Eng.Sh
open Go.Nd (Ptr sumL cutOk cutA cutB)
theorem cutLeaf (D:Dyn)(n:Nat)(hn:200000000≤n){H:AH}(hk:H.ok){v:AV}{nd:Nd.Node}(h:NodeG H v nd)(hs:small nd)(hsh:Nd.shaped ltS nd=true)(hc:cuttable nd)(hl:nd.leaf=true):
  ∃k va vb H',f167 D n [v] H=some (.tuple [va,S (nd.keys.getD k []),vb, .int .i64 ((0:Nat):Int)],H')∧Prs H H'∧NodeF H.next H' va (cutA nd k)∧NodeF H.next H' vb (cutB nd k)∧cutOk nd k∧hbnd nd k:=by
 have h0:=h.node
 obtain⟨ks,vs,ps,rfl,h1,h2,h3⟩:=h
 rw[hl]at h0
 have hkl:=Nd.sumL_ge nd.keys
 have hvl:nd.vals.length=nd.keys.length:=by
  simp only[Nd.shaped,hl,if_true,Bool.and_eq_true,decide_eq_true_eq]at hsh
  exact hsh.2.1.1
 obtain⟨s1,s2,s3⟩:=id hs
 obtain⟨c1,c2⟩:=id hc
 obtain⟨H1,H2,H3,H4,A1,A2,A4,b1,b2,b3,e4,i3,i4⟩:=cutHead D n hn hk hl h0 hs
 obtain⟨k,H5,e5,p5,⟨k1,k2⟩,kb⟩:=half_ok D n hn i4.prs.ok (h0.prs i4.prs) hs hsh hc
 simp only[hl,if_true]at k2
 have i5:=i4.step p5
 obtain⟨H6,e6,i6,t6⟩:=i5.st2 (o:=0) (x:= .bool true) rfl (by simp)
 obtain⟨H7,e7,i7,t7⟩:=i6.st4 (o:=0) (x:= .bool true) rfl (by simp)
 have m {H':AH} (p:Prs H H'):=h1.mono p (fun _ _ x=>x)
 have m2 {H':AH} (p:Prs H H'):=h2.mono p (fun _ _ x=>x)
 obtain⟨r8,k8,H8,c8,e8,p8,f8⟩:=hiS_ok D n i7.prs.ok (m i7.prs) (by omega) k1 (by omega) A4 i7.lt
 have i8:=i7.step p8
 obtain⟨H9,e9,i9,t9⟩:=i8.st2 (o:=1) (x:=k8) f8.isCell (by simp)
 have f9:=f8.stp t9 (by have:=i8.o4;omega)
 obtain⟨r10,k10,H10,_,c10,e10,p10,f10⟩:=loS_ok D n i9.prs.ok (m i9.prs) (by omega) (show k< _ by omega) A4 i9.lt
 have i10:=i9.step p10
 obtain⟨H11,e11,i11,t11⟩:=i10.st4 (o:=1) (x:=k10) f10.isCell (by simp)
 have f11:=f10.stp t11 (by omega)
 obtain⟨r12,k12,H12,c12,e12,p12,f12⟩:=hiS_ok D n i11.prs.ok (m2 i11.prs) (by omega) k1 (by omega) A4 i11.lt
 have i12:=i11.step p12
 obtain⟨r13,k13,H13,q13,c13,e13,p13,f13⟩:=loS_ok D n i12.prs.ok (m2 i12.prs) (by omega) (show k< _ by omega) A4 i12.lt
 have c13':slSl 1 vs (some (.int .i64 (k:Nat))) none none H11=some r13:=by rw[slSl_same (m2 i12.prs) (m2 i11.prs) (by decide)];exact c13
 have i13:=i12.step p13
 obtain⟨H14,e14,i14,t14⟩:=i13.st2 (o:=2) (x:=k12) f12.isCell (by simp)
 obtain⟨H15,e15,i15,t15⟩:=i14.st4 (o:=2) (x:=k13) f13.isCell (by simp)
 have o4:=i15.o4
 have h24:=i15.o1
 have h12:=i15.o2
 have F8:FrG A4 1 9 H15 k8 _ _:=(((((f9.prs p10).stp t11 (by omega)).prs p12).prs p13).stp t14 (by omega)).stp t15 (by omega)
 have F10:FrG A4 1 9 H15 k10 _ _:=(((f11.prs p12).prs p13).stp t14 (by omega)).stp t15 (by omega)
 have F12:FrG A4 1 9 H15 k12 _ _:=((f12.prs p13).stp t14 (by omega)).stp t15 (by omega)
 have F13:FrG A4 1 9 H15 k13 _ _:=(f13.stp t14 (by omega)).stp t15 (by omega)
 have na:FrN A4 H15 k8 k12 .nilSlice (cutA nd k):=by
  simp only[cutA,hl,if_true];exact⟨F8,F12,FrG.nil ..⟩
 have nb:FrN A4 H15 k10 k13 .nilSlice (cutB nd k):=by
  simp only[cutB,hl,if_true];exact⟨F10,F13,FrG.nil ..⟩
 obtain⟨H16,e16,P,fa,fb⟩:=cutJ_ok D n i15 ((m i15.prs).row) (fun B hB=>h1.lt hB) (show k<nd.keys.length by omega) na nb
 refine⟨k, .agg [.bool true,k8,k12, .nilSlice], .agg [.bool true,k10,k13, .nilSlice],H16, ?_,P, ?_, ?_,⟨k1,by rw[hl];simp only[if_true];omega⟩,kb⟩
 ·have t2: ¬((nd.keys.length:Nat):Int)< ((2:Nat):Int):=by omega
  simp(config:= { maxSteps:=1000000}) (disch:=omega) only[f167,ev,lg,wnt_undef,ew,hl,b1,b2,b3,ldN_get i3.a1,ldN_get i4.a1,sub4,Option.map_some,e4,hsh,ld1_get i4.a1,h1.row.lnSl,t2,e5,ld1_get i5.a1,e6,chk_ok (ld1_get i6.a1 0) (aveq_bool _),e7,ld1_get i7.a1,c8,e8,e9,ld1_get i9.a1,c10,e10,e11,ld1_get i11.a1,c12,c13',e12,chk_ok (ld1_get i12.a1 2) (aveq_row h2.row),chk_ok c13 q13,e13,e14,e15,e16]
 ·exact⟨⟨k8,k12, .nilSlice,by simp only[cutA,hl,if_true],fa.k.g,fa.v.g,fa.p.g⟩,fa.fresh (by omega)⟩
 ·exact⟨⟨k10,k13, .nilSlice,by simp only[cutB,hl,if_true],fb.k.g,fb.v.g,fb.p.g⟩,fb.fresh (by omega)⟩
end Go.Eng.Sh
end
section
namespace Go.Eng.Sh
open Go.Nd (Ptr sumL cutOk cutA cutB)
theorem cutInner (D:Dyn)(n:Nat)(hn:200000000≤n){H:AH}(hk:H.ok){v:AV}{nd:Nd.Node}(h:NodeG H v nd)(hs:small nd)(hsh:Nd.shaped ltS nd=true)(hc:cuttable nd)(hl:nd.leaf=false):
  ∃k va vb H',f167 D n [v] H=some (.tuple [va,S (nd.keys.getD k []),vb, .int .i64 ((0:Nat):Int)],H')∧Prs H H'∧NodeF H.next H' va (cutA nd k)∧NodeF H.next H' vb (cutB nd k)∧cutOk nd k∧hbnd nd k:=by
 have h0:=h.node
 obtain⟨ks,vs,ps,rfl,h1,h2,h3⟩:=h
 rw[hl]at h0
 have hkl:=Nd.sumL_ge nd.keys
 have hpl:nd.kids.length=nd.keys.length+1:=by
  simp only[Nd.shaped,hl,Bool.false_eq_true,if_false,Bool.and_eq_true,decide_eq_true_eq]at hsh
  exact hsh.2.1.2
 obtain⟨s1,s2,s3⟩:=id hs
 obtain⟨c1,c2⟩:=id hc
 obtain⟨H1,H2,H3,H4,A1,A2,A4,b1,b2,b3,e4,i3,i4⟩:=cutHead D n hn hk hl h0 hs
 obtain⟨k,H5,e5,p5,⟨k1,k2⟩,kb⟩:=half_ok D n hn i4.prs.ok (h0.prs i4.prs) hs hsh hc
 simp only[hl,Bool.false_eq_true,if_false]at k2
 have i5:=i4.step p5
 obtain⟨H6,e6,i6,t6⟩:=i5.st2 (o:=0) (x:= .bool false) rfl (by simp)
 obtain⟨H7,e7,i7,t7⟩:=i6.st4 (o:=0) (x:= .bool false) rfl (by simp)
 have m {H':AH} (p:Prs H H'):=h1.mono p (fun _ _ x=>x)
 have m2 {H':AH} (p:Prs H H'):=h3.mono p (fun _ _ x=>x)
 obtain⟨r8,k8,H8,c8,e8,p8,f8⟩:=hiS_ok D n i7.prs.ok (m i7.prs) (by omega) k1 (by omega) A4 i7.lt
 have i8:=i7.step p8
 obtain⟨H9,e9,i9,t9⟩:=i8.st2 (o:=1) (x:=k8) f8.isCell (by simp)
 have f9:=f8.stp t9 (by have:=i8.o4;omega)
 obtain⟨r10,k10,H10,_,c10,e10,p10,f10⟩:=loS_ok D n i9.prs.ok (m i9.prs) (by omega) (show k+1< _ by omega) A4 i9.lt
 have i10:=i9.step p10
 obtain⟨H11,e11,i11,t11⟩:=i10.st4 (o:=1) (x:=k10) f10.isCell (by simp)
 have f11:=f10.stp t11 (by omega)
 obtain⟨r12,k12,H12,c12,e12,p12,f12⟩:=hiP_ok D n i11.prs.ok (m2 i11.prs) (by omega) (show 0<k+1 by omega) (by omega) A4 i11.lt
 have i12:=i11.step p12
 obtain⟨r13,k13,H13,q13,c13,e13,p13,f13⟩:=loP_ok D n i12.prs.ok (m2 i12.prs) (by omega) (show k+1< _ by omega) A4 i12.lt
 have c13':slSl 3 ps (some (.int .i64 ((k+1:Nat):Int))) none none H11=some r13:=by rw[slSl_same (m2 i12.prs) (m2 i11.prs) (by decide)];exact c13
 have i13:=i12.step p13
 obtain⟨H14,e14,i14,t14⟩:=i13.st2 (o:=3) (x:=k12) f12.isCell (by simp)
 obtain⟨H15,e15,i15,t15⟩:=i14.st4 (o:=3) (x:=k13) f13.isCell (by simp)
 simp only[Int.natCast_add]at c10 c12 c13 c13'
 have o4:=i15.o4
 have h24:=i15.o1
 have h12:=i15.o2
 have F8:FrG A4 1 9 H15 k8 _ _:=(((((f9.prs p10).stp t11 (by omega)).prs p12).prs p13).stp t14 (by omega)).stp t15 (by omega)
 have F10:FrG A4 1 9 H15 k10 _ _:=(((f11.prs p12).prs p13).stp t14 (by omega)).stp t15 (by omega)
 have F12:FrG A4 3 72 H15 k12 _ _:=((f12.prs p13).stp t14 (by omega)).stp t15 (by omega)
 have F13:FrG A4 3 72 H15 k13 _ _:=(f13.stp t14 (by omega)).stp t15 (by omega)
 have na:FrN A4 H15 k8 .nilSlice k12 (cutA nd k):=by
  simp only[cutA,hl,Bool.false_eq_true,if_false];exact⟨F8,FrG.nil ..,F12⟩
 have nb:FrN A4 H15 k10 .nilSlice k13 (cutB nd k):=by
  simp only[cutB,hl,Bool.false_eq_true,if_false];exact⟨F10,FrG.nil ..,F13⟩
 obtain⟨H16,e16,P,fa,fb⟩:=cutJ_ok D n i15 ((m i15.prs).row) (fun B hB=>h1.lt hB) (show k<nd.keys.length by omega) na nb
 refine⟨k, .agg [.bool false,k8, .nilSlice,k12], .agg [.bool false,k10, .nilSlice,k13],H16, ?_,P, ?_, ?_,⟨k1,by rw[hl];simp only[Bool.false_eq_true,if_false];omega⟩,kb⟩
 ·have t2: ¬((nd.keys.length:Nat):Int)< ((2:Nat):Int):=by omega
  have t3: ¬((nd.keys.length:Nat):Int)< ((3:Nat):Int):=by omega
  simp(config:= { maxSteps:=1000000}) (disch:=omega) only[f167,ev,lg,wnt_undef,ew,hl,b1,b2,b3,ldN_get i3.a1,ldN_get i4.a1,sub4,Option.map_some,e4,hsh,ld1_get i4.a1,h1.row.lnSl,t2,t3,e5,ld1_get i5.a1,e6,chk_ok (ld1_get i6.a1 0) (aveq_bool _),e7,ld1_get i7.a1,c8,e8,e9,ld1_get i9.a1,c10,e10,e11,ld1_get i11.a1,c12,c13',e12,chk_ok (ld1_get i12.a1 3) (aveq_row h3.row),chk_ok c13 q13,e13,e14,e15,e16]
 ·exact⟨⟨k8, .nilSlice,k12,by simp only[cutA,hl,Bool.false_eq_true,if_false],fa.k.g,fa.v.g,fa.p.g⟩,fa.fresh (by omega)⟩
 ·exact⟨⟨k10, .nilSlice,k13,by simp only[cutB,hl,Bool.false_eq_true,if_false],fb.k.g,fb.v.g,fb.p.g⟩,fb.fresh (by omega)⟩
end Go.Eng.Sh
end
section
namespace Go.Eng
namespace T
variable {α:Type}
theorem setF_any: ∀(f g:Nat) (t:T α) (n:Nat) (a:α) (t' t'':T α),setF f t n a=some t'→setF g t n a=some t''→t'=t'':=by
 intro f
 induction f with
 | zero=>intro g t n a t' t'' h;simp[setF_zero]at h
 | succ f ih=>
  intro g t n a t' t'' h h'
  cases g with
  | zero=>simp[setF_zero]at h'
  | succ g=>
   cases t with
   | leaf=>
    rw[setF_leaf]at h h'
    split at h
    ·rename_i h0;rw[if_pos h0]at h';rw[h]at h';simpa using h'
    ·rename_i h0
     rw[if_neg h0]at h'
     split at h
     ·rename_i hm
      rw[if_pos hm]at h'
      split at h
      ·rename_i l hl
       split at h'
       ·rename_i l' hl'
        have:=ih g _ _ _ _ _ hl hl'
        subst this;rw[h]at h';simpa using h'
       ·simp at h'
      ·simp at h
     ·rename_i hm
      rw[if_neg hm]at h'
      split at h
      ·rename_i l hl
       split at h'
       ·rename_i l' hl'
        have:=ih g _ _ _ _ _ hl hl'
        subst this;rw[h]at h';simpa using h'
       ·simp at h'
      ·simp at h
   | node l v r=>
    rw[setF_node]at h h'
    split at h
    ·rename_i h0;rw[if_pos h0]at h';rw[h]at h';simpa using h'
    ·rename_i h0
     rw[if_neg h0]at h'
     split at h
     ·rename_i hm
      rw[if_pos hm]at h'
      split at h
      ·rename_i l hl
       split at h'
       ·rename_i l' hl'
        have:=ih g _ _ _ _ _ hl hl'
        subst this;rw[h]at h';simpa using h'
       ·simp at h'
      ·simp at h
     ·rename_i hm
      rw[if_neg hm]at h'
      split at h
      ·rename_i l hl
       split at h'
       ·rename_i l' hl'
        have:=ih g _ _ _ _ _ hl hl'
        subst this;rw[h]at h';simpa using h'
       ·simp at h'
      ·simp at h
noncomputable def st (t:T α)(n:Nat)(a:α):T α:=(T.set 40 t n a).getD .leaf
theorem st_of {f:Nat}{t:T α}{n:Nat}{a:α}{t':T α}(h:setF f t n a=some t'):st t n a=t':=by
 obtain⟨t2,h2⟩:=Option.isSome_iff_exists.1 (T.set_some 40 t n a)
 have:=setF_any _ _ _ _ _ _ _ h2 h
 simp only[st,h2,Option.getD_some,this]
theorem st_big (t:T α)(n:Nat)(a:α): ∃f,setF f t n a=some (st t n a):=by
 obtain⟨t2,h2⟩:=Option.isSome_iff_exists.1 (T.set_some 40 t n a)
 exact⟨_,by simp only[st,h2,Option.getD_some];exact h2⟩
theorem st_leaf (n:Nat)(a:α):st (.leaf:T α) n a=if n=0 then .node .leaf (some a) .leaf else if n % 2=1 then .node (st .leaf (n / 2) a) none .leaf else .node .leaf none (st .leaf (n / 2 - 1) a):=by
 by_cases h0:n=0
 ·rw[if_pos h0];exact st_of (f:=1) (by rw[setF_leaf,if_pos h0])
 ·rw[if_neg h0]
  by_cases hm:n % 2=1
  ·rw[if_pos hm]
   obtain⟨f,hf⟩:=st_big (.leaf:T α) (n / 2) a
   exact st_of (f:=f+1) (by rw[setF_leaf,if_neg h0,if_pos hm,hf])
  ·rw[if_neg hm]
   obtain⟨f,hf⟩:=st_big (.leaf:T α) (n / 2 - 1) a
   exact st_of (f:=f+1) (by rw[setF_leaf,if_neg h0,if_neg hm,hf])
theorem st_node (l:T α)(v:Option α)(r:T α)(n:Nat)(a:α):st (.node l v r) n a=if n=0 then .node l (some a) r else if n % 2=1 then .node (st l (n / 2) a) v r else .node l v (st r (n / 2 - 1) a):=by
 by_cases h0:n=0
 ·rw[if_pos h0];exact st_of (f:=1) (by rw[setF_node,if_pos h0])
 ·rw[if_neg h0]
  by_cases hm:n % 2=1
  ·rw[if_pos hm]
   obtain⟨f,hf⟩:=st_big l (n / 2) a
   exact st_of (f:=f+1) (by rw[setF_node,if_neg h0,if_pos hm,hf])
  ·rw[if_neg hm]
   obtain⟨f,hf⟩:=st_big r (n / 2 - 1) a
   exact st_of (f:=f+1) (by rw[setF_node,if_neg h0,if_neg hm,hf])
theorem st_st (n:Nat): ∀(t:T α) (a b:α),st (st t n a) n b=st t n b:=by
 induction n using Nat.strongRecOn with
 | ind n ih=>
  intro t a b
  cases t with
  | leaf=>
   rw[st_leaf n a,st_leaf n b]
   by_cases h0:n=0
   ·rw[if_pos h0,if_pos h0,st_node,if_pos h0]
   ·rw[if_neg h0,if_neg h0]
    by_cases hm:n % 2=1
    ·rw[if_pos hm,if_pos hm,st_node,if_neg h0,if_pos hm,ih (n / 2) (by omega)]
    ·rw[if_neg hm,if_neg hm,st_node,if_neg h0,if_neg hm,ih (n / 2 - 1) (by omega)]
  | node l v r=>
   rw[st_node l v r n a,st_node l v r n b]
   by_cases h0:n=0
   ·rw[if_pos h0,if_pos h0,st_node,if_pos h0]
   ·rw[if_neg h0,if_neg h0]
    by_cases hm:n % 2=1
    ·rw[if_pos hm,if_pos hm,st_node,if_neg h0,if_pos hm,ih (n / 2) (by omega)]
    ·rw[if_neg hm,if_neg hm,st_node,if_neg h0,if_neg hm,ih (n / 2 - 1) (by omega)]
end T
theorem AH.push_st (H:AH)(o:AObj):H.push o=⟨T.st H.h H.next o,H.next+1⟩:=rfl
theorem AH.put_st (H:AH)(A:Nat)(o:AObj):H.put A o=⟨T.st H.h A o,H.next⟩:=rfl
theorem AH.put_push (H:AH)(o o':AObj):(H.push o).put H.next o'=H.push o':=by
 simp only[AH.push_st,AH.put_st,T.st_st]
theorem stN_push {H:AH}{n:Nat}{z l:List AV}{e sz:Nat}{g:Bool}(hz:0<sz)(hl:l.length=n)(hn:z.length=n)(hc:allCells l=true):
  stN n (.ptr H.next 0) (.agg l) (H.push (.cells z e sz g))=some (undefA,H.push (.cells l e sz g)):=by
 rw[stN_ok (x:= .agg l) (AH.push_get_eq _ _) hz hl hc (by omega),AH.put_push]
 simp[cellsA,List.drop_eq_nil_of_le,hn]
theorem Stp.ld1 {S:Nat→Prop}{H H':AH}(s:Stp S H H'){A:Nat}(o:Nat)(h:A<H.next)(hS: ¬S A):Eng.ld1 (.ptr A o) H'=Eng.ld1 (.ptr A o) H:=by simp only[Eng.ld1,s.keep A h hS]
theorem Stp.ldN {S:Nat→Prop}{H H':AH}(s:Stp S H H'){A:Nat}(o n:Nat)(h:A<H.next)(hS: ¬S A):Eng.ldN n (.ptr A o) H'=Eng.ldN n (.ptr A o) H:=by simp only[Eng.ldN,s.keep A h hS]
theorem Prs.l1 {H H':AH}(s:Prs H H')(A:Nat)(o:Nat)(h:A<H.next):Eng.ld1 (.ptr A o) H'=Eng.ld1 (.ptr A o) H:=s.ld1 o h (fun x=>x)
theorem Prs.b1 {H H':AH}{l:List AV}{e sz:Nat}{g:Bool}(s:Prs (H.push (.cells l e sz g)) H')(o:Nat):Eng.ld1 (.ptr H.next o) H'=l[o]? :=by
 rw[s.l1 _ _ (by rw[AH.push_next];omega),ld1_push]
theorem Prs.refl {H:AH}(h:H.ok):Prs H H:=Stp.refl h
theorem Prs.pushed {H:AH}(h:H.ok)(o:AObj):Prs H (H.push o):=(Stp.refl h).push o
end Go.Eng
end
section
namespace Go.Eng
def Rws (k:Nat)(H:AH):List AV→List (Nat×List AV)→Prop
 | [],[]=>True
 | v::vs,r::rs=>(Rw k H v r.1 r.2∧allCells r.2=true)∧Rws k H vs rs
 | _,_=>False
theorem Rws.len {k:Nat}{H:AH} : ∀ {vs:List AV} {rs:List (Nat×List AV)},Rws k H vs rs→vs.length=rs.length
 | [],[],_=>rfl
 | _::vs,_::rs,h=>by simp only[List.length_cons,Rws.len h.2]
 | [],_::_,h=>h.elim
 | _::_,[],h=>h.elim
theorem Rws.at {k:Nat}{H:AH} : ∀ {vs:List AV} {rs:List (Nat×List AV)} {i:Nat} {x:AV},Rws k H vs rs→vs[i]? =some x→ ∃r,rs[i]? =some r∧Rw k H x r.1 r.2∧allCells r.2=true
 | [],[],_,_,_,h=>by simp at h
 | _::vs,r::rs,0,x,h,hx=>by simp only[List.getElem?_cons_zero,Option.some.injEq]at hx;subst hx;exact⟨r,rfl,h.1⟩
 | _::vs,_::rs,i+1,x,h,hx=>by simp only[List.getElem?_cons_succ]at hx⊢;exact Rws.at h.2 hx
 | [],_::_,_,_,h,_=>h.elim
 | _::_,[],_,_,h,_=>h.elim
theorem Rws.prs {k:Nat}{H H':AH}(s:Prs H H'): ∀ {vs:List AV} {rs:List (Nat×List AV)},Rws k H vs rs→Rws k H' vs rs
 | [],[],_=>trivial
 | _::vs,_::rs,h=>⟨⟨h.1.1.prs s,h.1.2⟩,Rws.prs s h.2⟩
 | [],_::_,h=>h.elim
 | _::_,[],h=>h.elim
def sumN (rs:List (Nat×List AV)):Nat:=(rs.map Prod.fst).sum
def catN (rs:List (Nat×List AV)):List AV:=rs.flatMap Prod.snd
theorem sumN_take {rs:List (Nat×List AV)}{i:Nat}{r:Nat×List AV}(h:rs[i]? =some r):sumN (rs.take (i+1))=sumN (rs.take i)+r.1:=by
 obtain⟨hi,rfl⟩:=List.getElem?_eq_some_iff.1 h
 rw[List.take_succ_eq_append_getElem hi];simp only[sumN,List.map_append,List.sum_append,List.map_cons,List.map_nil,List.sum_cons,List.sum_nil,Nat.add_zero]
theorem catN_take {rs:List (Nat×List AV)}{i:Nat}{r:Nat×List AV}(h:rs[i]? =some r):catN (rs.take (i+1))=catN (rs.take i)++r.2:=by
 obtain⟨hi,rfl⟩:=List.getElem?_eq_some_iff.1 h
 rw[List.take_succ_eq_append_getElem hi];simp only[catN,List.flatMap_append,List.flatMap_cons,List.flatMap_nil,List.append_nil]
theorem sumN_le (rs:List (Nat×List AV))(i:Nat):sumN (rs.take i)≤sumN rs:=by
 have:rs=rs.take i++rs.drop i:=(List.take_append_drop i rs).symm
 conv=>rhs;rw[this]
 simp only[sumN,List.map_append,List.sum_append];omega
def Part (k e:Nat)(H:AH)(v:AV)(n:Nat)(l:List AV)(tot:Nat):Prop:=
 (tot=0∧v= .nilSlice∧n=0∧l=[])∨ ∃A rest,v= .slice A 0 n 1∧A<H.next∧H.h.get A=some (.cells (l++rest) e k true)∧l.length=n*k∧rest.length=(tot - n)*k∧n≤tot
theorem Part.own {k e:Nat}{H:AH}{v:AV}{n:Nat}{l:List AV}(h:Part k e H v n l n):Own k e H v n l:=by
 rcases h with⟨rfl,rfl,_,rfl⟩ | ⟨A,rest,rfl,hA,hg,hl,hr,_⟩
 ·exact Own.nil _ _ _
 ·have:rest=[]:=List.eq_nil_of_length_eq_zero (by rw[hr,Nat.sub_self,Nat.zero_mul])
  subst this;rw[List.append_nil]at hg
  exact⟨hl, .inr ⟨A,rfl,hA,hg⟩⟩
theorem Part.app {k e bytes:Nat}{H:AH}{v s:AV}{n m tot:Nat}{l new:List AV}(hk:H.ok)(hpos:0<k)(h:Part k e H v n l tot)(hs:srcOf k s H=some (m,new))(hm:new.length=m*k)(hc:allCells new=true)(hle:n+m≤tot):
  ∃v' H',apP e k bytes v s H=some (v',H')∧Part k e H' v' (n+m) (l++new) tot∧Stp (Blk v) H H'∧H'.next=H.next∧ ∀B,Blk v' B→Blk v B:=by
 rcases h with⟨rfl,rfl,rfl,rfl⟩ | ⟨A,rest,rfl,hA,hg,hl,hr,hn⟩
 ·obtain rfl:m=0:=by omega
  have:new=[]:=List.eq_nil_of_length_eq_zero (by simpa using hm)
  subst this
  exact⟨.nilSlice,H,by simp[apP,hs,hc,app1], .inl ⟨rfl,rfl,rfl,rfl⟩,Stp.refl hk,rfl,fun _ x=>x⟩
 ·have hlen:(l++rest).length=tot*k:=by rw[List.length_append,hl,hr, ← Nat.add_mul];congr 1;omega
  have hroom:roomOf (l++rest) true k 0 1 k=tot:=by
   simp only[roomOf,show((1 % 2).beq 0)=false from rfl,cond_false,Nat.beq_refl,show Nat.beq 0 (1 / 2*k)=true from by simp,Bool.and_self,cond_true,lenL_zero,hlen,Nat.sub_zero]
   exact Nat.mul_div_cancel _ hpos
  have b1:Nat.ble (n+m) tot=true:=by rw[Nat.ble_eq];exact hle
  have hz:Nat.blt 0 k=true:=by rw[Nat.blt_eq];exact hpos
  have hmr:m*k≤rest.length:=by rw[hr];exact Nat.mul_le_mul_right _ (by omega)
  have hset:setAt (l++rest) (0+n*k) new=some (l++new++rest.drop (m*k)):=by
   rw[setAt_some (by rw[hlen,hm,Nat.zero_add, ← Nat.add_mul];exact Nat.mul_le_mul_right _ hle),Nat.zero_add,hm]
   congr 1
   rw[List.take_append_of_le_length (by omega),List.take_of_length_le (by omega),List.drop_append, ← hl,List.drop_of_length_le (by omega),List.nil_append]
   congr 2;omega
  refine⟨.slice A 0 (n+m) 1,H.put A (.cells (l++new++rest.drop (m*k)) e k true), ?_, .inr ⟨A,rest.drop (m*k),rfl,hA,by rw[AH.put_get,if_pos rfl],by rw[List.length_append,hl,hm,Nat.add_mul],by rw[List.length_drop,hr, ← Nat.sub_mul];congr 1;omega,hle⟩,(Stp.refl hk).put hA _ (.inr (Blk.slice.2 rfl)),rfl,fun B hB=>Blk.slice.2 (Blk.slice.1 hB)⟩
  simp only[apP,hs,hc,cond_true,app1,hg,app2,hroom,b1,hz,hset,appIn,putA_ok,fN_eq]
theorem Part.stp {k e:Nat}{S:Nat→Prop}{H H':AH}{v:AV}{n tot:Nat}{l:List AV}(h:Part k e H v n l tot)(s:Stp S H H')(hS: ∀A,Blk v A→ ¬S A):Part k e H' v n l tot:=by
 rcases h with h | ⟨A,rest,rfl,hA,hg,hr⟩
 ·exact .inl h
 ·exact .inr ⟨A,rest,rfl,Nat.lt_of_lt_of_le hA s.next,by rw[s.keep A hA (hS A (Blk.slice.2 rfl))];exact hg,hr⟩
theorem rep_len (z:AV): ∀m:Nat,(rep m [z]).length=m
 | 0=>rfl
 | m+1=>by simp[rep,rep_len z m]
theorem rep_len3 (a b c:AV): ∀m:Nat,(rep m [a,b,c]).length=m*3
 | 0=>rfl
 | m+1=>by simp only[rep,List.length_append,rep_len3 a b c m,List.length_cons,List.length_nil];omega
theorem grow_z {k e bytes m:Nat}{H:AH}{z:List AV}(hk:H.ok)(hpos:0<k)(hz:(rep m z).length=m*k)(hm0:0<m)(hm:m≤1000000000)(hb:bytes≤1000):
  apZ e k bytes z .nilSlice (.int .i64 ((m:Nat):Int)) H=some (.slice H.next 0 m 1,H.push (.cells (rep m z) e k true))∧
  slSl k (.slice H.next 0 m 1) none (some (.int .i64 ((0:Nat):Int))) none (H.push (.cells (rep m z) e k true))=some (.slice H.next 0 0 1)∧
  Part k e (H.push (.cells (rep m z) e k true)) (.slice H.next 0 0 1) 0 [] m:=by
 have b1:Nat.ble (m*bytes) 281474976710656=true:=by
  rw[Nat.ble_eq];exact Nat.le_trans (Nat.mul_le_mul hm hb) (by decide)
 have b2:Nat.blt m 4611686018427387904=true:=by rw[Nat.blt_eq];omega
 have b3:Nat.beq m 0=false:=by rw[Bool.eq_false_iff];intro h;have:=Nat.eq_of_beq_eq_true h;omega
 have hroom:roomOf (rep m z) true k 0 1 k=m:=by
  simp only[roomOf,show((1 % 2).beq 0)=false from rfl,cond_false,Nat.beq_refl,show Nat.beq 0 (1 / 2*k)=true from by simp,Bool.and_self,cond_true,lenL_zero,hz,Nat.sub_zero]
  exact Nat.mul_div_cancel _ hpos
 have hb':Nat.blt 0 k=true:=by rw[Nat.blt_eq];exact hpos
 refine⟨?_, ?_, .inr ⟨H.next,rep m z,rfl,Nat.lt_succ_self _,AH.push_get_eq _ _,by simp,by simpa using hz,by omega⟩⟩
 ·show apZ e k bytes z .nilSlice (.int .i64 (Int.ofNat m)) H=_
  simp only[apZ,b1,b2,Bool.and_self,cond_true,app1,show m.beq 0=false from b3,cond_false,appGrow,roomy_ok hm hb,agrow,List.nil_append,newA_ok hk,fN_eq]
 ·have n0:=natOf_int .i64 (z:=((0:Nat):Int)) (by omega)
  simp only[slSl,natOpt,n0,AH.push_get_eq,hb',cond_true]
  simp[acut,hroom,fN_eq,show Nat.ble 0 m=true from by rw[Nat.ble_eq];omega,show Nat.ble 0 0=true from rfl,show Nat.beq 1 0=false from rfl]
end Go.Eng
namespace Go.Eng.Sh
open Go.Nd (Ptr sumL cutOk cutA cutB)
theorem growS_ok (D:Dyn)(n m:Nat)(hm:m≤1000000000){H:AH}(hk:H.ok):
  ∃v H',f144 D n [.nilSlice, .int .i64 (m:Nat)] H=some (v,H')∧Prs H H'∧Part 1 9 H' v 0 [] m∧ ∀B,Blk v B→H.next≤B:=by
 have hcap:acap X 37 .nilSlice=some (.int .i64 ((0:Nat):Int)):=rfl
 have hln:lnSl .nilSlice=some (.int .i64 ((0:Nat):Int)):=rfl
 have hs:slSl 1 .nilSlice none (some (.int .i64 ((0:Nat):Int))) none H=some .nilSlice:=rfl
 have h0: ¬((m:Nat):Int)< ((0:Nat):Int):=by omega
 by_cases hp:m=0
 ·subst hp
  refine⟨.nilSlice,H, ?_,Stp.refl hk, .inl ⟨rfl,rfl,rfl,rfl⟩,fun B hB=>(Blk.nil.1 hB).elim⟩
  simp(disch:=omega) only[f144,f144j1,f144j0,ev,lg,wnt_undef,ew,h0,hcap,hln,Int.sub_zero,Int.lt_irrefl,Int.sub_self]
 ·obtain⟨e1,e2,p⟩:=grow_z (k:=1) (e:=9) (bytes:=16) (m:=m) (z:=[.str 0 0]) hk (by decide) (by rw[rep_len];omega) (by omega) hm (by decide)
  have hsub:((m:Nat):Int) - (((0:Nat):Int) - ((0:Nat):Int))=((m:Nat):Int):=by omega
  have hpI:((0:Nat):Int)< ((m:Nat):Int):=by omega
  refine⟨_,_, ?_,(Stp.refl hk).push _,p,fun B hB=>by rw[Blk.slice.1 hB];exact Nat.le_refl _⟩
  simp(disch:=omega) only[f144,f144j1,f144j0,ev,lg,wnt_undef,ew,h0,hcap,hln,hs,hsub,hpI,e1,e2]
theorem growP_ok (D:Dyn)(n m:Nat)(hm:m≤1000000000){H:AH}(hk:H.ok):
  ∃v H',f168 D n [.nilSlice, .int .i64 (m:Nat)] H=some (v,H')∧Prs H H'∧Part 3 72 H' v 0 [] m∧ ∀B,Blk v B→H.next≤B:=by
 have hcap:acap X 77 .nilSlice=some (.int .i64 ((0:Nat):Int)):=rfl
 have hln:lnSl .nilSlice=some (.int .i64 ((0:Nat):Int)):=rfl
 have hs:slSl 3 .nilSlice none (some (.int .i64 ((0:Nat):Int))) none H=some .nilSlice:=rfl
 have h0: ¬((m:Nat):Int)< ((0:Nat):Int):=by omega
 by_cases hp:m=0
 ·subst hp
  refine⟨.nilSlice,H, ?_,Stp.refl hk, .inl ⟨rfl,rfl,rfl,rfl⟩,fun B hB=>(Blk.nil.1 hB).elim⟩
  simp(disch:=omega) only[f168,f168j1,f168j0,ev,lg,wnt_undef,ew,h0,hcap,hln,Int.sub_zero,Int.lt_irrefl,Int.sub_self]
 ·obtain⟨e1,e2,p⟩:=grow_z (k:=3) (e:=72) (bytes:=24) (m:=m) (z:=[.int .i64 (.ofNat 0), .int .i64 (.ofNat 0), .int .u64 (.ofNat 0)]) hk (by decide) (by rw[rep_len3]) (by omega) hm (by decide)
  have hsub:((m:Nat):Int) - (((0:Nat):Int) - ((0:Nat):Int))=((m:Nat):Int):=by omega
  have hpI:((0:Nat):Int)< ((m:Nat):Int):=by omega
  refine⟨_,_, ?_,(Stp.refl hk).push _,p,fun B hB=>by rw[Blk.slice.1 hB];exact Nat.le_refl _⟩
  simp only[Int.ofNat_eq_natCast]at e1 e2
  simp(disch:=omega) only[f168,f168j1,f168j0,ev,lg,wnt_undef,ew,h0,hcap,hln,hs,hsub,hpI,e1,e2]
end Go.Eng.Sh
end
section
namespace Go.Eng.Sh
open Go.Nd (Ptr sumL cutOk cutA cutB)
theorem catS1 (D:Dyn)(n:Nat){H:AH}{v:AV}{vs:List AV}{rs:List (Nat×List AV)}(hv:Rw 1 H v vs.length vs)(h:Rws 1 H vs rs)(hb:sumN rs≤1000000000)(hl:vs.length≤1000000000)(n':Nat)(hn:vs.length<n'):
  loopK n' (f111l1 D n) [v, .int .i64 ((0:Nat):Int),v, .int .i64 (vs.length:Nat), .int .i64 ((0:Nat):Int)] H=some (.exit 0 [v, .int .i64 (sumN rs:Nat)],H):=by
 have hlen:=h.len
 refine loop_for (fun i=>[v, .int .i64 (sumN (rs.take i):Nat),v, .int .i64 (vs.length:Nat), .int .i64 (i:Nat)]) vs.length ?_ ?_ n' hn
 ·intro i hi
  obtain⟨p,x,p1,p2,p3⟩:=hv.ld1 hi
  obtain⟨r,r1,r2,r3⟩:=h.at p3
  have hiI:((i:Nat):Int)< ((vs.length:Nat):Int):=by omega
  have hs:=sumN_take r1
  have hs2:=sumN_le rs i
  have hs3:=sumN_le rs (i+1)
  have hneg: ¬((sumN (rs.take i):Nat):Int)+((r.1:Nat):Int)< ((0:Nat):Int):=by omega
  have hc:((sumN (rs.take (i+1)):Nat):Int)=((sumN (rs.take i):Nat):Int)+((r.1:Nat):Int):=by omega
  rw[hc]
  simp(disch:=omega) only[f111l1,f111j0,ev,lg,wnt_undef,ew,hiI,p1,p2,r2.lnSl,hneg,Int.natCast_add]
 ·intro m
  refine loop_exit ?_
  have:rs.take vs.length=rs:=by rw[hlen];exact List.take_length
  simp only[f111l1,ev,lg,wnt_undef,ew,Int.lt_irrefl,this]
theorem catS2 (D:Dyn)(n:Nat){H:AH}(hk:H.ok){v:AV}{vs:List AV}{rs:List (Nat×List AV)}(hv:Rw 1 H v vs.length vs)(h:Rws 1 H vs rs)(hl:vs.length≤1000000000)
  {w:AV} (hw:Part 1 9 H w 0 [] (sumN rs)) (hd1: ∀B,Blk w B→ ¬Blk v B) (hd2: ∀B,Blk w B→ ∀x∈vs,¬Blk x B) (n':Nat) (hn:vs.length<n'):
  ∃w' H',loopK n' (f111l2 D n) [w,v, .int .i64 (vs.length:Nat), .int .i64 ((0:Nat):Int)] H=some (.exit 2 [w'],H')∧Stp (Blk w) H H'∧Part 1 9 H' w' (sumN rs) (catN rs) (sumN rs)∧ ∀B,Blk w' B→Blk w B:=by
 have hlen:=h.len
 obtain⟨m,us,H',k1,w',rfl,k3,k4,k5⟩:=loop_inv (b:=f111l2 D n) vs.length (fun i us H'=> ∃w',us=[w',v, .int .i64 (vs.length:Nat), .int .i64 (i:Nat)]∧Stp (Blk w) H H'∧Part 1 9 H' w' (sumN (rs.take i)) (catN (rs.take i)) (sumN rs)∧ ∀B,Blk w' B→Blk w B) (fun i us H1 hi ⟨w1,hus,hs,hp,hB⟩=>by
  subst hus
  obtain⟨p,x,p1,p2,p3⟩:=(hv.stp hs (fun A hA hh=>hd1 A hh hA)).ld1 hi
  obtain⟨r,r1,r2,r3⟩:=h.at p3
  have hx:x∈vs:=List.mem_of_getElem? p3
  have r2':=r2.stp hs (fun A hA hh=>hd2 A hh x hx hA)
  have hiI:((i:Nat):Int)< ((vs.length:Nat):Int):=by omega
  have hs3:=sumN_le rs (i+1)
  have hst:=sumN_take r1
  obtain⟨w2,H2,e2,q2,s2,n2,b2⟩:=hp.app (bytes:=16) hs.ok (by decide) r2'.srcOf r2.1 r3 (by omega)
  rw[← hst, ← catN_take r1]at q2
  refine⟨_,H2, ?_,w2,rfl,hs.trans (s2.mono fun A _ hA=>hB A hA),q2,fun B hb=>hB B (b2 B hb)⟩
  simp(disch:=omega) only[f111l2,ev,lg,wnt_undef,ew,hiI,p1,p2,e2,Int.natCast_add]) n' _ H ⟨w,rfl,Stp.refl hk,hw,fun _ x=>x⟩ hn
 rw[hlen,List.take_length]at k4
 exact⟨w',H',k1.trans (loop_exit (by simp only[f111l2,ev,lg,wnt_undef,ew,Int.lt_irrefl])),k3,k4,k5⟩
theorem catS_ok (D:Dyn)(n:Nat){H:AH}(hk:H.ok){v:AV}{vs:List AV}{rs:List (Nat×List AV)}(hv:Rw 1 H v vs.length vs)(h:Rws 1 H vs rs)(hb:sumN rs≤1000000000)(hl:vs.length≤1000000000)(hn:vs.length<n)
  (hv0: ∀B,Blk v B→B<H.next) (hx0: ∀x∈vs,∀B,Blk x B→B<H.next):
  ∃w H',f111 D n [v] H=some (w,H')∧Prs H H'∧Own 1 9 H' w (sumN rs) (catN rs)∧ ∀B,Blk w B→H.next≤B:=by
 obtain⟨w1,H1,e1,p1,q1,f1⟩:=growS_ok D n (sumN rs) hb hk
 obtain⟨w2,H2,e2,s2,q2,f2⟩:=catS2 D n p1.ok (hv.prs p1) (h.prs p1) hl q1 (fun B hB hh=>by have:=f1 B hB;have:=hv0 B hh;omega) (fun B hB x hx hh=>by have:=f1 B hB;have:=hx0 x hx B hh;omega) n hn
 have l1:=catS1 D n hv h hb hl n hn
 refine⟨w2,H2, ?_,p1.fresh s2 f1,q2.own,fun B hB=>f1 B (f2 B hB)⟩
 simp only[f111,ev,lg,wnt_undef,ew,hv.lnSl,l1,f111b4,e1,e2,f111b3]
end Go.Eng.Sh
end
section
namespace Go.Eng.Sh
open Go.Nd (Ptr sumL cutOk cutA cutB)
theorem catP1 (D:Dyn)(n:Nat){H:AH}{v:AV}{vs:List AV}{rs:List (Nat×List AV)}(hv:Rw 1 H v vs.length vs)(h:Rws 3 H vs rs)(hb:sumN rs≤1000000000)(hl:vs.length≤1000000000)(n':Nat)(hn:vs.length<n'):
  loopK n' (f140l1 D n) [v, .int .i64 ((0:Nat):Int),v, .int .i64 (vs.length:Nat), .int .i64 ((0:Nat):Int)] H=some (.exit 0 [v, .int .i64 (sumN rs:Nat)],H):=by
 have hlen:=h.len
 refine loop_for (fun i=>[v, .int .i64 (sumN (rs.take i):Nat),v, .int .i64 (vs.length:Nat), .int .i64 (i:Nat)]) vs.length ?_ ?_ n' hn
 ·intro i hi
  obtain⟨p,x,p1,p2,p3⟩:=hv.ld1 hi
  obtain⟨r,r1,r2,r3⟩:=h.at p3
  have hiI:((i:Nat):Int)< ((vs.length:Nat):Int):=by omega
  have hs:=sumN_take r1
  have hs2:=sumN_le rs i
  have hs3:=sumN_le rs (i+1)
  have hneg: ¬((sumN (rs.take i):Nat):Int)+((r.1:Nat):Int)< ((0:Nat):Int):=by omega
  have hc:((sumN (rs.take (i+1)):Nat):Int)=((sumN (rs.take i):Nat):Int)+((r.1:Nat):Int):=by omega
  rw[hc]
  simp(disch:=omega) only[f140l1,f140j0,ev,lg,wnt_undef,ew,hiI,p1,p2,r2.lnSl,hneg,Int.natCast_add]
 ·intro m
  refine loop_exit ?_
  have:rs.take vs.length=rs:=by rw[hlen];exact List.take_length
  simp only[f140l1,ev,lg,wnt_undef,ew,Int.lt_irrefl,this]
theorem catP2 (D:Dyn)(n:Nat){H:AH}(hk:H.ok){v:AV}{vs:List AV}{rs:List (Nat×List AV)}(hv:Rw 1 H v vs.length vs)(h:Rws 3 H vs rs)(hl:vs.length≤1000000000)
  {w:AV} (hw:Part 3 72 H w 0 [] (sumN rs)) (hd1: ∀B,Blk w B→ ¬Blk v B) (hd2: ∀B,Blk w B→ ∀x∈vs,¬Blk x B) (n':Nat) (hn:vs.length<n'):
  ∃w' H',loopK n' (f140l2 D n) [w,v, .int .i64 (vs.length:Nat), .int .i64 ((0:Nat):Int)] H=some (.exit 2 [w'],H')∧Stp (Blk w) H H'∧Part 3 72 H' w' (sumN rs) (catN rs) (sumN rs)∧ ∀B,Blk w' B→Blk w B:=by
 have hlen:=h.len
 obtain⟨m,us,H',k1,w',rfl,k3,k4,k5⟩:=loop_inv (b:=f140l2 D n) vs.length (fun i us H'=> ∃w',us=[w',v, .int .i64 (vs.length:Nat), .int .i64 (i:Nat)]∧Stp (Blk w) H H'∧Part 3 72 H' w' (sumN (rs.take i)) (catN (rs.take i)) (sumN rs)∧ ∀B,Blk w' B→Blk w B) (fun i us H1 hi ⟨w1,hus,hs,hp,hB⟩=>by
  subst hus
  obtain⟨p,x,p1,p2,p3⟩:=(hv.stp hs (fun A hA hh=>hd1 A hh hA)).ld1 hi
  obtain⟨r,r1,r2,r3⟩:=h.at p3
  have hx:x∈vs:=List.mem_of_getElem? p3
  have r2':=r2.stp hs (fun A hA hh=>hd2 A hh x hx hA)
  have hiI:((i:Nat):Int)< ((vs.length:Nat):Int):=by omega
  have hs3:=sumN_le rs (i+1)
  have hst:=sumN_take r1
  obtain⟨w2,H2,e2,q2,s2,n2,b2⟩:=hp.app (bytes:=24) hs.ok (by decide) r2'.srcOf r2.1 r3 (by omega)
  rw[← hst, ← catN_take r1]at q2
  refine⟨_,H2, ?_,w2,rfl,hs.trans (s2.mono fun A _ hA=>hB A hA),q2,fun B hb=>hB B (b2 B hb)⟩
  simp(disch:=omega) only[f140l2,ev,lg,wnt_undef,ew,hiI,p1,p2,e2,Int.natCast_add]) n' _ H ⟨w,rfl,Stp.refl hk,hw,fun _ x=>x⟩ hn
 rw[hlen,List.take_length]at k4
 exact⟨w',H',k1.trans (loop_exit (by simp only[f140l2,ev,lg,wnt_undef,ew,Int.lt_irrefl])),k3,k4,k5⟩
theorem catP_ok (D:Dyn)(n:Nat){H:AH}(hk:H.ok){v:AV}{vs:List AV}{rs:List (Nat×List AV)}(hv:Rw 1 H v vs.length vs)(h:Rws 3 H vs rs)(hb:sumN rs≤1000000000)(hl:vs.length≤1000000000)(hn:vs.length<n)
  (hv0: ∀B,Blk v B→B<H.next) (hx0: ∀x∈vs,∀B,Blk x B→B<H.next):
  ∃w H',f140 D n [v] H=some (w,H')∧Prs H H'∧Own 3 72 H' w (sumN rs) (catN rs)∧ ∀B,Blk w B→H.next≤B:=by
 obtain⟨w1,H1,e1,p1,q1,f1⟩:=growP_ok D n (sumN rs) hb hk
 obtain⟨w2,H2,e2,s2,q2,f2⟩:=catP2 D n p1.ok (hv.prs p1) (h.prs p1) hl q1 (fun B hB hh=>by have:=f1 B hB;have:=hv0 B hh;omega) (fun B hB x hx hh=>by have:=f1 B hB;have:=hx0 x hx B hh;omega) n hn
 have l1:=catP1 D n hv h hb hl n hn
 refine⟨w2,H2, ?_,p1.fresh s2 f1,q2.own,fun B hB=>f1 B (f2 B hB)⟩
 simp only[f140,ev,lg,wnt_undef,ew,hv.lnSl,l1,f140b4,e1,e2,f140b3]
end Go.Eng.Sh
end
section
namespace Go.Eng
theorem hp:(∀(o:AObj) (mk:Nat→AV) (H:AH) (K:AV→AH→Rs),H.ok→bA (some (o,mk)) H K=K (mk H.next) (H.push o))∧
  (∀(H:AH) (A o:Nat) (x:AObj),A<H.next→ld1 (.ptr A o) (H.push x)=ld1 (.ptr A o) H)∧
  (∀(H:AH) (A o n:Nat) (x:AObj),A<H.next→ldN n (.ptr A o) (H.push x)=ldN n (.ptr A o) H)∧
  (∀(l:List AV) (o n:Nat) (a:AV),o=0→n=l.length→(subN l o n).map AV.agg=some (.agg l))∧
  (∀(a b c d:AV),subN [a,b,c,d] 0 4=some [a,b,c,d])∧
  (∀(l:List AV),(some l).map AV.agg=some (.agg l))∧
  (∀(vs:List AV) (i:Nat),pExtract (.tuple vs) i=vs[i]?):=
 ⟨fun o mk H K h=>bA_ok h o mk K,fun H A o x h=>ld1_old o x h,fun H A o n x h=>ldN_old o n x h,fun l o n _ h1 h2=>by subst h1;subst h2;rw[subN_some _ _ _ (.inr (by omega)),List.drop_zero,List.take_length];rfl,fun _ _ _ _=>rfl,fun _=>rfl,fun vs i=>by simp only[pExtract,nth_eq]⟩
end Go.Eng
end
section
namespace Go.Nd
def partedN (lt:Str→Str→Bool)(a:Node)(sep:Str)(b:Node):Bool:=
 mayK sep&&(a.leaf==b.leaf)&&(decide (a.keys.length=0)||lt (a.keys.getD (a.keys.length - 1) []) sep)&&(decide (b.keys.length=0)||lt sep (b.keys.getD 0 [])||(a.leaf&&decide (sep=b.keys.getD 0 [])))
end Go.Nd
namespace Go.Eng.Sh
open Go.Nd (Ptr sumL cutOk cutA cutB partedN)
theorem parted_ok (D:Dyn)(n:Nat){H:AH}(hk:H.ok){v w:AV}{a b:Nd.Node}{sep:Str}(h:NodeV H v a)(h':NodeV H w b)(hs:small a)(hs':small b):
  ∃H',f166 D n [v,S sep,w] H=some (.bool (partedN ltS a sep b),H')∧Prs H H':=by
 obtain⟨ks,vs,ps,rfl,h1,h2,h3⟩:=h
 obtain⟨ks',vs',ps',rfl,k1,k2,k3⟩:=h'
 have hkl:=Nd.sumL_ge a.keys
 have hkl':=Nd.sumL_ge b.keys
 obtain⟨s1,s2,s3⟩:=hs
 obtain⟨s1',s2',s3'⟩:=hs'
 have P:Prs H ((H.push (.cells [.bool a.leaf,ks,vs,ps] 133 1 false)).push (.cells [.bool b.leaf,ks',vs',ps'] 133 1 false)):=((Stp.refl hk).push _).push _
 have l1:=h1.lnSl
 have l2:=k1.lnSl
 have q1:=h1.prs P
 have q2:=k1.prs P
 generalize hH2:(H.push (.cells [.bool a.leaf,ks,vs,ps] 133 1 false)).push (.cells [.bool b.leaf,ks',vs',ps'] 133 1 false)=H2 at P q1 q2
 have r1: ∀o,ld1 (.ptr H.next o) H2=[.bool a.leaf,ks,vs,ps][o]? :=fun o=>by rw[← hH2,ld1_old _ _ (by rw[AH.push_next];omega),ld1_push]
 have r2: ∀o,ld1 (.ptr (H.push (.cells [.bool a.leaf,ks,vs,ps] 133 1 false)).next o) H2=[.bool b.leaf,ks',vs',ps'][o]? :=fun o=>by rw[← hH2,ld1_push]
 refine⟨H2, ?_,P⟩
 have hne: ∀x y:Bool,(!(x==y))=false→x=y:=fun x y=>by cases x<;>cases y<;>simp
 cases hm:Nd.mayK sep with
 | false=>simp(disch:=first | assumption | omega | (simp only[AH.push_next,AH.put_next];omega) | (repeat(first | assumption | apply AH.ok.push))) only[f166,ev,lg,wnt_undef,ew,hp,hH2,mayKey_ok,hm,partedN]
 | true=>
  cases hl:(a.leaf==b.leaf)with
  | false=>simp(disch:=first | assumption | omega | (simp only[AH.push_next,AH.put_next];omega) | (repeat(first | assumption | apply AH.ok.push))) only[f166,ev,lg,wnt_undef,ew,hp,hH2,mayKey_ok,hm,partedN,r1,r2,hl]
  | true=>
   have e:b.leaf=a.leaf:=by revert hl;cases a.leaf<;>cases b.leaf<;>simp
   rw[e]at r2 hH2
   simp only[partedN,hm,hl,Bool.true_and]
   rw[e]
   clear hl e hne
   generalize a.leaf=la at*
   have hll:(la==la)=true:=by simp
   have tail:
     (∃q0,b.keys.length≠0→(∀κ (z:Int),z=((0:Nat):Int)→ixSl 1 ks' (.int κ z)=some q0)∧Eng.ld1 q0 H2=some (S (b.keys.getD 0 []))):=by
    by_cases h0:b.keys.length=0
    ·exact⟨.nilPtr,fun h=>absurd h0 h⟩
    ·obtain⟨q,i1,i2⟩:=q2.at (i:=0) (by omega)
     refine⟨q,fun _=>⟨i1, ?_⟩⟩
     rw[getD_lt (by omega)];exact i2
   obtain⟨q0,hq0⟩:=tail
   by_cases ha:a.keys.length=0
   ·have ga: ¬((0:Nat):Int)< ((a.keys.length:Nat):Int):=by omega
    simp only[ha,decide_true,Bool.true_or,Bool.true_and]
    by_cases hb:b.keys.length=0
    ·have gb:((b.keys.length:Nat):Int)=((0:Nat):Int):=by omega
     simp only[hb,decide_true,Bool.true_or]
     simp(disch:=first | assumption | omega | (simp only[AH.push_next,AH.put_next];omega) | (repeat(first | assumption | apply AH.ok.push))) only[f166,ev,lg,wnt_undef,ew,hp,hH2,mayKey_ok,hm,r1,r2,hll,l1,l2,ga,gb]
    ·have gb: ¬((b.keys.length:Nat):Int)=((0:Nat):Int):=by omega
     obtain⟨i1,i2⟩:=hq0 hb
     simp only[hb,decide_false,Bool.false_or]
     cases h1':ltS sep (b.keys.getD 0 [])<;>cases la<;>simp(disch:=first | assumption | omega | (simp only[AH.push_next,AH.put_next];omega) | (repeat(first | assumption | apply AH.ok.push))) only[f166,ev,lg,wnt_undef,ew,hp,hH2,mayKey_ok,hm,r1,r2,hll,l1,l2,ga,gb,i1,i2,h1']
   ·have ga:((0:Nat):Int)< ((a.keys.length:Nat):Int):=by omega
    obtain⟨q,j1,j2⟩:=q1.at (i:=a.keys.length - 1) (by omega)
    rw[← getD_lt (d:=[])]at j2
    have hsub:((a.keys.length:Nat):Int) - ((1:Nat):Int)=((a.keys.length - 1:Nat):Int):=by omega
    simp only[ha,decide_false,Bool.false_or]
    cases h0':ltS (a.keys.getD (a.keys.length - 1) []) sep with
    | false=>simp(disch:=first | assumption | omega | (simp only[AH.push_next,AH.put_next];omega) | (repeat(first | assumption | apply AH.ok.push))) only[f166,ev,lg,wnt_undef,ew,hp,hH2,mayKey_ok,hm,r1,r2,hll,l1,l2,ga,hsub,j1,j2,h0']
    | true=>
     by_cases hb:b.keys.length=0
     ·have gb:((b.keys.length:Nat):Int)=((0:Nat):Int):=by omega
      simp only[hb,decide_true,Bool.true_or]
      simp(disch:=first | assumption | omega | (simp only[AH.push_next,AH.put_next];omega) | (repeat(first | assumption | apply AH.ok.push))) only[f166,ev,lg,wnt_undef,ew,hp,hH2,mayKey_ok,hm,r1,r2,hll,l1,l2,ga,gb,hsub,j1,j2,h0']
     ·have gb: ¬((b.keys.length:Nat):Int)=((0:Nat):Int):=by omega
      obtain⟨i1,i2⟩:=hq0 hb
      simp only[hb,decide_false,Bool.false_or]
      cases h1':ltS sep (b.keys.getD 0 [])<;>cases la<;>simp(disch:=first | assumption | omega | (simp only[AH.push_next,AH.put_next];omega) | (repeat(first | assumption | apply AH.ok.push))) only[f166,ev,lg,wnt_undef,ew,hp,hH2,mayKey_ok,hm,r1,r2,hll,l1,l2,ga,gb,hsub,j1,j2,h0',i1,i2,h1']
end Go.Eng.Sh
end
section
namespace Go.Eng
theorem box {H:AH}(hk:H.ok)(o:AObj): ∃H' A,(∀(mk:Nat→AV) (K:AV→AH→Rs),bA (some (o,mk)) H K=K (mk A) H')∧Prs H H'∧H'.h.get A=some o∧H.next≤A∧A<H'.next:=
 ⟨H.push o,H.next,fun mk K=>bA_ok hk o mk K,(Stp.refl hk).push o,AH.push_get_eq _ _,Nat.le_refl _,by rw[AH.push_next];omega⟩
theorem row2 {x y:AV}(e:TypeId)(z:AV)(hx:isCell x=true)(hy:isCell y=true)(hz:isCell z=true):bldL e 1 2 [z] [(0,x),(1,y)]=some (.cells [x,y] e 1 false,fun A=> .slice A 0 2 4):=by
 simp only[bldL,fillA,rep,cellsA_cell hx,cellsA_cell hy];rfl
theorem row3 {x y w:AV}(e:TypeId)(z:AV)(hx:isCell x=true)(hy:isCell y=true)(hw:isCell w=true):bldL e 1 3 [z] [(0,x),(1,y),(2,w)]=some (.cells [x,y,w] e 1 false,fun A=> .slice A 0 3 6):=by
 simp only[bldL,fillA,rep,cellsA_cell hx,cellsA_cell hy,cellsA_cell hw];rfl
theorem row1 {x:AV}(e:TypeId)(z:AV)(hx:isCell x=true):bldL e 1 1 [z] [(0,x)]=some (.cells [x] e 1 false,fun A=> .slice A 0 1 2):=by
 simp only[bldL,fillA,rep,cellsA_cell hx];rfl
theorem Rw.lit {H:AH}{A e:Nat}{l:List AV}{cc:Nat}(hk:H.ok)(h:H.h.get A=some (.cells l e 1 false)):Rw 1 H (.slice A 0 l.length cc) l.length l:=
 ⟨by simp, .inr (.inr ⟨A,0,cc,l,e,1,false,rfl,h,hk.lt h,by simp,by simp⟩)⟩
end Go.Eng
namespace Go.Eng.Sh
open Go.Nd (Ptr sumL cutOk cutA cutB partedN joinN)
theorem agg4 {A:Nat}{H:AH}{l:List AV}{e:TypeId}(h:H.h.get A=some (.cells l e 1 false))(hl:l.length=4):ldN 4 (.ptr A 0) H=some (.agg l):=by
 rw[ldN_get h,subN_some _ _ _ (.inr (by omega)),List.drop_zero,List.take_of_length_le (by omega)];rfl
def nd0:Nd.Node:=⟨false,[],[],[]⟩
theorem NodeO.zero (H0 H:AH):NodeO H0 H (.agg [.bool false, .nilSlice, .nilSlice, .nilSlice]) nd0:=
 ⟨_,_,_,rfl,Own.nil ..,Own.nil ..,Own.nil ..,fun B hB=>by rcases hB with h | h | h<;>exact(Blk.nil.1 h).elim,fun B hB=>(Blk.nil.1 hB).elim,fun B hB=>(Blk.nil.1 hB).elim⟩
def joinOk (a:Nd.Node)(sep:Str)(b:Nd.Node):Bool:=Nd.shaped ltS a&&Nd.shaped ltS b&&partedN ltS a sep b
theorem conS2 (D:Dyn)(n:Nat){H:AH}{A cc:Nat}{x y:AV}{l m:List Str}(hk:H.ok)(hg:H.h.get A=some (.cells [x,y] 37 1 false))(h1:Strs H x l)(h2:Strs H y m)(hb:l.length+m.length≤1000000000)(hn:100≤n):
  ∃w H',f111 D n [.slice A 0 2 cc] H=some (w,H')∧Prs H H'∧Own 1 9 H' w (l++m).length ((l++m).map S)∧ ∀B,Blk w B→H.next≤B:=by
 obtain⟨w,H',e,p,o,f⟩:=catS_ok D n hk (v:= .slice A 0 2 cc) (vs:=[x,y]) (rs:=[(l.length,l.map S),(m.length,m.map S)]) (Rw.lit hk hg) ⟨⟨h1,map_cells _⟩,⟨h2,map_cells _⟩,trivial⟩ (by simpa[sumN]using hb) (by simp) (by simp;omega)
  (fun B hB=>by rw[Blk.slice.1 hB];exact hk.lt hg) (fun z hz B hB=>by
   simp only[List.mem_cons,List.not_mem_nil,or_false]at hz
   rcases hz with rfl | rfl
   ·exact Rw.blk h1 hB
   ·exact Rw.blk h2 hB)
 exact⟨w,H',e,p,by simpa[sumN,catN]using o,f⟩
theorem conS3 (D:Dyn)(n:Nat){H:AH}{A cc:Nat}{x y z:AV}{l m k:List Str}(hk:H.ok)(hg:H.h.get A=some (.cells [x,y,z] 37 1 false))(h1:Strs H x l)(h2:Strs H y m)(h3:Strs H z k)(hb:l.length+m.length+k.length≤1000000000)(hn:100≤n):
  ∃w H',f111 D n [.slice A 0 3 cc] H=some (w,H')∧Prs H H'∧Own 1 9 H' w (l++(m++k)).length ((l++(m++k)).map S)∧ ∀B,Blk w B→H.next≤B:=by
 obtain⟨w,H',e,p,o,f⟩:=catS_ok D n hk (v:= .slice A 0 3 cc) (vs:=[x,y,z]) (rs:=[(l.length,l.map S),(m.length,m.map S),(k.length,k.map S)]) (Rw.lit hk hg) ⟨⟨h1,map_cells _⟩,⟨h2,map_cells _⟩,⟨h3,map_cells _⟩,trivial⟩ (by simp[sumN];omega) (by simp) (by simp;omega)
  (fun B hB=>by rw[Blk.slice.1 hB];exact hk.lt hg) (fun z hz B hB=>by
   simp only[List.mem_cons,List.not_mem_nil,or_false]at hz
   rcases hz with rfl | rfl | rfl
   ·exact Rw.blk h1 hB
   ·exact Rw.blk h2 hB
   ·exact Rw.blk h3 hB)
 exact⟨w,H',e,p,by simpa[sumN,catN]using o,f⟩
theorem conP2 (D:Dyn)(n:Nat){H:AH}{A cc:Nat}{x y:AV}{l m:List Ptr}(hk:H.ok)(hg:H.h.get A=some (.cells [x,y] 77 1 false))(h1:Ptrs H x l)(h2:Ptrs H y m)(hb:l.length+m.length≤1000000000)(hn:100≤n):
  ∃w H',f140 D n [.slice A 0 2 cc] H=some (w,H')∧Prs H H'∧Own 3 72 H' w (l++m).length ((l++m).flatMap ptrV)∧ ∀B,Blk w B→H.next≤B:=by
 obtain⟨w,H',e,p,o,f⟩:=catP_ok D n hk (v:= .slice A 0 2 cc) (vs:=[x,y]) (rs:=[(l.length,l.flatMap ptrV),(m.length,m.flatMap ptrV)]) (Rw.lit hk hg) ⟨⟨h1,flat_cells _⟩,⟨h2,flat_cells _⟩,trivial⟩ (by simpa[sumN]using hb) (by simp) (by simp;omega)
  (fun B hB=>by rw[Blk.slice.1 hB];exact hk.lt hg) (fun z hz B hB=>by
   simp only[List.mem_cons,List.not_mem_nil,or_false]at hz
   rcases hz with rfl | rfl
   ·exact Rw.blk h1 hB
   ·exact Rw.blk h2 hB)
 exact⟨w,H',e,p,by simpa[sumN,catN]using o,f⟩
theorem bldN0:bldS [(0,1),(1,1),(2,1),(3,1)] [.bool false, .nilSlice, .nilSlice, .nilSlice] []=some (.agg [.bool false, .nilSlice, .nilSlice, .nilSlice]):=rfl
theorem bldN3 {a b:AV}(x:Bool)(ha:isCell a=true)(hb:isCell b=true):bldS [(0,1),(1,1),(2,1),(3,1)] [.bool false, .nilSlice, .nilSlice, .nilSlice] [(0, .bool x),(1,a),(2,b)]=some (.agg [.bool x,a,b, .nilSlice]):=by
 simp only[bldS,fillA,nthP,cellsA_cell ha,cellsA_cell hb];rfl
theorem bldNi {a b:AV}(ha:isCell a=true)(hb:isCell b=true):bldS [(0,1),(1,1),(2,1),(3,1)] [.bool false, .nilSlice, .nilSlice, .nilSlice] [(1,a),(3,b)]=some (.agg [.bool false,a, .nilSlice,b]):=by
 simp only[bldS,fillA,nthP,cellsA_cell ha,cellsA_cell hb];rfl
theorem join_ok (D:Dyn)(n:Nat)(hn:200000000≤n){H:AH}(hk:H.ok){v w:AV}{a b:Nd.Node}{sep:Str}(h:NodeV H v a)(h':NodeV H w b)(hs:small a)(hs':small b):
  ∃u H',f138 D n [v,S sep,w] H=some (.tuple [u, .int .i64 ((if joinOk a sep b then 0 else 1:Nat):Int)],H')∧Prs H H'∧NodeO H H' u (if joinOk a sep b then joinN a sep b else nd0):=by
 have i0:=h;have i0':=h'
 obtain⟨ks,vs,ps,rfl,h1,h2,h3⟩:=h
 obtain⟨la,hla⟩: ∃la,la=a.leaf:=⟨_,rfl⟩
 rw[← hla]at i0⊢
 obtain⟨ks',vs',ps',rfl,k1,k2,k3⟩:=h'
 have hkl:=Nd.sumL_ge a.keys
 have hkl':=Nd.sumL_ge b.keys
 have hvl:=Nd.sumL_ge a.vals
 have hvl':=Nd.sumL_ge b.vals
 have s0:=hs;have s0':=hs'
 obtain⟨s1,s2,s3⟩:=hs
 obtain⟨s1',s2',s3'⟩:=hs'
 obtain⟨H1,A1,b1,p1,g1,m1,n1⟩:=box hk (.cells [.bool la,ks,vs,ps] 133 1 false)
 obtain⟨H2,A2,b2,p2,g2,m2,n2⟩:=box p1.ok (.cells [.bool b.leaf,ks',vs',ps'] 133 1 false)
 obtain⟨H3,A3,b3,p3,g3,m3,n3⟩:=box p2.ok (.cells [.bool false, .nilSlice, .nilSlice, .nilSlice] 133 1 false)
 have P3:Prs H H3:=(p1.trans p2).trans p3
 have g13:=p3.get p2.ok (p2.get p1.ok g1)
 have g23:=p3.get p2.ok g2
 obtain⟨H4,e4,p4⟩:=shaped_ok D n P3.ok (i0.prs P3) s0 hn
 have P4:=P3.trans p4
 have g14:=p4.get P3.ok g13;have g24:=p4.get P3.ok g23;have g34:=p4.get P3.ok g3
 have fin: ∀ {Hx:AH} {l:List AV},Prs H Hx→Hx.h.get A3=some (.cells [.bool false, .nilSlice, .nilSlice, .nilSlice] 133 1 false)→l.length=4→allCells l=true→ ∃Hy,stN 4 (.ptr A3 0) (.agg l) Hx=some (undefA,Hy)∧Prs H Hy∧Stp (fun B=>B=A3) Hx Hy∧ldN 4 (.ptr A3 0) Hy=some (.agg l):=fun {Hx l} px hg hl hc=>by
  obtain⟨Hy,e,g,s,_⟩:=st_all px.ok hg hl hc
  have e':stN 4 (.ptr A3 0) (.agg l) Hx=some (undefA,Hy):=e
  exact⟨Hy,e',px.fresh s (fun B hB=>by omega),s,by rw[ldN_get g,subN_some _ _ _ (.inr (by omega)),List.drop_zero,List.take_of_length_le (by omega)];rfl⟩
 cases c1:Nd.shaped ltS a with
 | false=>
  obtain⟨Hy,ey,py,_,ly⟩:=fin (l:=[.bool false, .nilSlice, .nilSlice, .nilSlice]) P4 g34 rfl rfl
  refine⟨.agg [.bool false, .nilSlice, .nilSlice, .nilSlice],Hy, ?_,py, ?_⟩
  rotate_left
  ·simp only[joinOk,c1,Bool.false_and,Bool.false_eq_true,if_false];exact NodeO.zero _ _
  ·simp only[joinOk,c1,Bool.false_and,Bool.false_eq_true,if_false]
   simp(disch:=omega) only[f138,ev,lg,wnt_undef,ew,b1,b2,b3,ldN_get g13,sub4,Option.map_some,e4,c1,bldN0,ey,ly]
 | true=>
 obtain⟨H5,e5,p5⟩:=shaped_ok D n P4.ok (i0'.prs P4) s0' hn
 have P5:=P4.trans p5
 have g15:=p5.get P4.ok g14;have g25:=p5.get P4.ok g24;have g35:=p5.get P4.ok g34
 cases c2:Nd.shaped ltS b with
 | false=>
  obtain⟨Hy,ey,py,_,ly⟩:=fin (l:=[.bool false, .nilSlice, .nilSlice, .nilSlice]) P5 g35 rfl rfl
  refine⟨.agg [.bool false, .nilSlice, .nilSlice, .nilSlice],Hy, ?_,py, ?_⟩
  rotate_left
  ·simp only[joinOk,c2,Bool.false_and,Bool.and_false,Bool.false_eq_true,if_false];exact NodeO.zero _ _
  ·simp only[joinOk,c2,Bool.false_and,Bool.and_false,Bool.false_eq_true,if_false]
   simp(disch:=omega) only[f138,ev,lg,wnt_undef,ew,b1,b2,b3,ldN_get g13,ldN_get g24,sub4,Option.map_some,e4,e5,c1,c2,bldN0,ey,ly]
 | true=>
 obtain⟨H6,e6,p6⟩:=parted_ok D n P5.ok (sep:=sep) (i0.prs P5) (i0'.prs P5) s0 s0'
 have P6:=P5.trans p6
 have g16:=p6.get P5.ok g15;have g26:=p6.get P5.ok g25;have g36:=p6.get P5.ok g35
 cases c3:partedN ltS a sep b with
 | false=>
  obtain⟨Hy,ey,py,_,ly⟩:=fin (l:=[.bool false, .nilSlice, .nilSlice, .nilSlice]) P6 g36 rfl rfl
  refine⟨.agg [.bool false, .nilSlice, .nilSlice, .nilSlice],Hy, ?_,py, ?_⟩
  rotate_left
  ·simp only[joinOk,c3,Bool.false_and,Bool.and_false,Bool.false_eq_true,if_false];exact NodeO.zero _ _
  ·simp only[joinOk,c3,Bool.false_and,Bool.and_false,Bool.false_eq_true,if_false]
   simp(disch:=omega) only[f138,ev,lg,wnt_undef,ew,b1,b2,b3,ldN_get g13,ldN_get g24,ldN_get g15,ldN_get g25,sub4,Option.map_some,e4,e5,e6,c1,c2,c3,bldN0,ey,ly]
 | true=>
 have hj:joinOk a sep b=true:=by simp only[joinOk,c1,c2,c3,Bool.and_self]
 simp only[hj,if_true]
 cases la with
 | true=>
  obtain⟨H7,A7,b7,p7,g7,m7,n7⟩:=box P6.ok (.cells [ks,ks'] 37 1 false)
  have P7:=P6.trans p7
  obtain⟨H8,A8,b8,p8,g8,m8,n8⟩:=box P7.ok (.cells [vs,vs'] 37 1 false)
  have P8:=P7.trans p8
  obtain⟨w9,H9,e9,p9,o9,f9⟩:=conS2 D n (cc:=4) P8.ok (p8.get P7.ok g7) (h1.prs P8) (k1.prs P8) (by omega) (by omega)
  have P9:=P8.trans p9
  obtain⟨w10,H10,e10,p10,o10,f10⟩:=conS2 D n (cc:=4) P9.ok (p9.get P8.ok g8) (h2.prs P9) (k2.prs P9) (by omega) (by omega)
  have P10:=P9.trans p10
  have up {Hx:AH} {o:AObj} {A:Nat} (g:H6.h.get A=some o) (p:Prs H6 Hx):=p.get P6.ok g
  have p69:Prs H6 H9:=(p7.trans p8).trans p9
  obtain⟨Hy,ey,py,sy,ly⟩:=fin (l:=[.bool true,w9,w10, .nilSlice]) P10 (up g36 (p69.trans p10)) rfl (by simp only[allCells,o9.row.isCell,o10.row.isCell];rfl)
  have n3':A3<H8.next:=by have:=p4.next;have:=p5.next;have:=p6.next;have:=p7.next;have:=p8.next;omega
  have n9:=p9.next
  refine⟨.agg [.bool true,w9,w10, .nilSlice],Hy, ?_,py, ?_⟩
  rotate_left
  ·have:joinN a sep b=⟨true,a.keys++b.keys,a.vals++b.vals,[]⟩:=by simp only[joinN, ← hla,if_true]
   rw[this]
   refine⟨w9,w10, .nilSlice,rfl,(o9.mono p10 (fun _ _ x=>x)).mono sy (fun B hB e=>by have:=f9 B hB;omega),o10.mono sy (fun B hB e=>by have:=f10 B hB;omega),Own.nil ..,fun B hB=> ?_,fun B hB=>⟨fun h=> ?_,fun h=>(Blk.nil.1 h).elim⟩,fun B hB h=>(Blk.nil.1 h).elim⟩
   ·have:=P8.next
    rcases hB with h | h | h
    ·have:=f9 B h;omega
    ·have:=f10 B h;omega
    ·exact(Blk.nil.1 h).elim
   ·have:=f10 B h;have:=Rw.blk o9.row hB;omega
  ·simp(disch:=omega) only[f138,ev,lg,wnt_undef,ew,b1,b2,b3,ldN_get g13,ldN_get g24,ldN_get g15,ldN_get g25,sub4,Option.map_some,e4,e5,e6,c1,c2,c3,ld1_get g16,ld1_get g26,ld1_get (up g16 p7),ld1_get (up g26 p7),row2 37 .nilSlice h1.isCell k1.isCell rfl,row2 37 .nilSlice h2.isCell k2.isCell rfl,b7,b8,e9,
    chk_ok (ld1_get (up g16 p69) 2) (aveq_row h2),chk_ok (ld1_get (up g26 p69) 2) (aveq_row k2),e10,bldN3 _ o9.row.isCell o10.row.isCell,ey,ly]
 | false=>
  obtain⟨H7,A7,b7,p7,g7,m7,n7⟩:=box P6.ok (.cells [S sep] 9 1 false)
  have P7:=P6.trans p7
  obtain⟨H8,A8,b8,p8,g8,m8,n8⟩:=box P7.ok (.cells [ks, .slice A7 0 1 2,ks'] 37 1 false)
  have P8:=P7.trans p8
  obtain⟨H9,A9,b9,p9,g9,m9,n9⟩:=box P8.ok (.cells [ps,ps'] 77 1 false)
  have P9:=P8.trans p9
  have hsep:Strs H9 (.slice A7 0 1 2) [sep]:=Rw.lit (cc:=2) P9.ok (Prs.get (p8.trans p9) P7.ok g7)
  obtain⟨w10,H10,e10,p10,o10,f10⟩:=conS3 D n (cc:=6) P9.ok (p9.get P8.ok g8) (h1.prs P9) hsep (k1.prs P9) (by simp only[List.length_cons,List.length_nil];omega) (by omega)
  have P10:=P9.trans p10
  obtain⟨w11,H11,e11,p11,o11,f11⟩:=conP2 D n (cc:=4) P10.ok (p10.get P9.ok g9) (h3.prs P10) (k3.prs P10) (by omega) (by omega)
  have P11:=P10.trans p11
  have up {Hx:AH} {o:AObj} {A:Nat} (g:H6.h.get A=some o) (p:Prs H6 Hx):=p.get P6.ok g
  have p610:Prs H6 H10:=((p7.trans p8).trans p9).trans p10
  obtain⟨Hy,ey,py,sy,ly⟩:=fin (l:=[.bool false,w10, .nilSlice,w11]) P11 (up g36 (p610.trans p11)) rfl (by simp only[allCells,o10.row.isCell,o11.row.isCell];rfl)
  have n3':A3<H9.next:=by have:=p4.next;have:=p5.next;have:=p6.next;have:=p7.next;have:=p8.next;have:=p9.next;omega
  have n10:=p10.next
  refine⟨.agg [.bool false,w10, .nilSlice,w11],Hy, ?_,py, ?_⟩
  rotate_left
  ·have:joinN a sep b=⟨false,a.keys++([sep]++b.keys),[],a.kids++b.kids⟩:=by simp only[joinN, ← hla,Bool.false_eq_true,if_false]
   rw[this]
   refine⟨w10, .nilSlice,w11,rfl,(o10.mono p11 (fun _ _ x=>x)).mono sy (fun B hB e=>by have:=f10 B hB;omega),Own.nil ..,o11.mono sy (fun B hB e=>by have:=f11 B hB;omega),fun B hB=> ?_,fun B hB=>⟨fun h=>(Blk.nil.1 h).elim,fun h=> ?_⟩,fun B hB=>(Blk.nil.1 hB).elim⟩
   ·have:=P9.next
    rcases hB with h | h | h
    ·have:=f10 B h;omega
    ·exact(Blk.nil.1 h).elim
    ·have:=f11 B h;omega
   ·have:=f11 B h;have:=Rw.blk o10.row hB;omega
  ·simp(disch:=omega) only[f138,ev,lg,wnt_undef,ew,b1,b2,b3,ldN_get g13,ldN_get g24,ldN_get g15,ldN_get g25,sub4,Option.map_some,e4,e5,e6,c1,c2,c3,ld1_get g16,ld1_get g26,ld1_get (up g26 p7),ld1_get (up g16 (p7.trans p8)),ld1_get (up g26 (p7.trans p8)),row1 9 (.str 0 0) (S_cell sep),b7,
    row3 37 .nilSlice h1.isCell (show isCell (.slice A7 0 1 2)=true from rfl) k1.isCell,row2 77 .nilSlice h3.isCell k3.isCell rfl,b8,b9,e10,
    chk_ok (ld1_get (up g16 p610) 3) (aveq_row h3),chk_ok (ld1_get (up g26 p610) 3) (aveq_row k3),e11,bldNi o10.row.isCell o11.row.isCell,ey,ly]
end Go.Eng.Sh
end
section
namespace Go.Nd
end Go.Nd
namespace Go.Eng.Sh
open Go.Nd (Ptr sumL cutOk cutA cutB)
theorem NodeG.cells {H:AH}{v:AV}{nd:Nd.Node}(h:NodeG H v nd): ∃l,v= .agg l∧l.length=4∧allCells l=true:=by
 obtain⟨ks,vs,ps,rfl,h1,h2,h3⟩:=h
 exact⟨_,rfl,rfl,allCells4 _ _ _ _ h1.row.isCell h2.row.isCell h3.row.isCell⟩
theorem NodeG.zero (H:AH):NodeG H (.agg [.bool false, .nilSlice, .nilSlice, .nilSlice]) nd0:=
 ⟨_,_,_,rfl, .inl (Own.nil ..), .inl (Own.nil ..), .inl (Own.nil ..)⟩
theorem NodeF.zero (N:Nat)(H:AH):NodeF N H (.agg [.bool false, .nilSlice, .nilSlice, .nilSlice]) nd0:=
 ⟨NodeG.zero H,fun B hB=>by rcases blkN_mk.1 hB with h | h | h<;>exact(Blk.nil.1 h).elim⟩
theorem cutNo (D:Dyn)(n:Nat)(hn:200000000≤n){H:AH}(hk:H.ok){v:AV}{nd:Nd.Node}(h:NodeV H v nd)(hs:small nd)(hc: ¬(Nd.shaped ltS nd=true∧cuttable nd)):
  ∃H',f167 D n [v] H=some (.tuple [.agg [.bool false, .nilSlice, .nilSlice, .nilSlice],S [], .agg [.bool false, .nilSlice, .nilSlice, .nilSlice], .int .i64 ((1:Nat):Int)],H')∧Prs H H':=by
 have i0:=h
 obtain⟨ks,vs,ps,rfl,h1,h2,h3⟩:=h
 obtain⟨la,hla⟩: ∃la,la=nd.leaf:=⟨_,rfl⟩
 rw[← hla]at i0⊢
 obtain⟨H1,H2,H3,H4,A1,A2,A4,b1,b2,b3,e4,i3,i4⟩:=cutHead D n hn hk hla.symm i0 hs
 have o1:=i4.o1;have o2:=i4.o2;have o4:=i4.o4;have l4:=i4.lt
 obtain⟨H5,e5,i5,s5⟩:=i4.all2 (l':=[.bool false, .nilSlice, .nilSlice, .nilSlice]) rfl rfl
 obtain⟨H6,e6,i6,s6⟩:=i5.all4 (l':=[.bool false, .nilSlice, .nilSlice, .nilSlice]) rfl rfl
 have e5':stN 4 (.ptr A2 0) (.agg [.bool false, .nilSlice, .nilSlice, .nilSlice]) H4=some (undefA,H5):=e5
 have e6':stN 4 (.ptr A4 0) (.agg [.bool false, .nilSlice, .nilSlice, .nilSlice]) H5=some (undefA,H6):=e6
 have hln:=h1.lnSl
 refine⟨H6, ?_,i6.prs⟩
 have hS:(AV.str 0 0)=S []:=rfl
 cases c1:Nd.shaped ltS nd with
 | false=>
  simp(config:= { maxSteps:=1000000}) (disch:=omega) only[f167,ev,lg,wnt_undef,ew,b1,b2,b3,ldN_get i3.a1,ldN_get i4.a1,sub4,Option.map_some,e4,c1,bldN0,e5',e6',ldN_get i6.a2,ldN_get i6.a4,hS]
 | true=>
  have hc: ¬cuttable nd:=fun hh=>hc ⟨c1,hh⟩
  by_cases t2:nd.keys.length<2
  ·have t2':((nd.keys.length:Nat):Int)< ((2:Nat):Int):=by omega
   simp(config:= { maxSteps:=1000000}) (disch:=omega) only[f167,ev,lg,wnt_undef,ew,b1,b2,b3,ldN_get i3.a1,ldN_get i4.a1,sub4,Option.map_some,e4,c1,ld1_get i4.a1,hln,t2',bldN0,e5',e6',ldN_get i6.a2,ldN_get i6.a4,hS]
  ·have t2': ¬((nd.keys.length:Nat):Int)< ((2:Nat):Int):=by omega
   have hf:la=false:=by
    cases la with
    | false=>rfl
    | true=>exact absurd ⟨by omega, .inl hla.symm⟩ hc
   have t3:nd.keys.length<3:=by
    rcases Nat.lt_or_ge nd.keys.length 3 with h | h
    ·exact h
    ·exact absurd ⟨by omega, .inr h⟩ hc
   have t3':((nd.keys.length:Nat):Int)< ((3:Nat):Int):=by omega
   subst hf
   simp(config:= { maxSteps:=1000000}) (disch:=omega) only[f167,ev,lg,wnt_undef,ew,b1,b2,b3,ldN_get i3.a1,ldN_get i4.a1,sub4,Option.map_some,e4,c1,ld1_get i4.a1,hln,t2',t3',bldN0,e5',e6',ldN_get i6.a2,ldN_get i6.a4,hS]
theorem cut_ok (D:Dyn)(n:Nat)(hn:200000000≤n){H:AH}(hk:H.ok){v:AV}{nd:Nd.Node}(h:NodeG H v nd)(hs:small nd):
  ∃va sep vb e H',f167 D n [v] H=some (.tuple [va,S sep,vb, .int .i64 ((e:Nat):Int)],H')∧Prs H H'∧
   ((e=0∧ ∃k,Nd.shaped ltS nd=true∧cutOk nd k∧hbnd nd k∧sep=nd.keys.getD k []∧NodeF H.next H' va (cutA nd k)∧NodeF H.next H' vb (cutB nd k))∨
    (e=1∧sep=[]∧ ¬(Nd.shaped ltS nd=true∧cuttable nd)∧va= .agg [.bool false, .nilSlice, .nilSlice, .nilSlice]∧vb= .agg [.bool false, .nilSlice, .nilSlice, .nilSlice])):=by
 by_cases hc:Nd.shaped ltS nd=true∧cuttable nd
 ·cases hl:nd.leaf with
  | true=>
   obtain⟨k,va,vb,H',e,p,ga,gb,ok,kb⟩:=cutLeaf D n hn hk h hs hc.1 hc.2 hl
   exact⟨va,_,vb,0,H',e,p, .inl ⟨rfl,k,hc.1,ok,kb,rfl,ga,gb⟩⟩
  | false=>
   obtain⟨k,va,vb,H',e,p,ga,gb,ok,kb⟩:=cutInner D n hn hk h hs hc.1 hc.2 hl
   exact⟨va,_,vb,0,H',e,p, .inl ⟨rfl,k,hc.1,ok,kb,rfl,ga,gb⟩⟩
 ·obtain⟨H',e,p⟩:=cutNo D n hn hk h.node hs hc
  exact⟨_,[],_,1,H',e,p, .inr ⟨rfl,rfl,hc,rfl,rfl⟩⟩
end Go.Eng.Sh
end
section
namespace Go.Nd
open Go.Eng (ltS ltS_irrefl ltS_trans ltS_tri ltS_asymm ltS_ne)
abbrev Kvs:=List (Str×Str)
def lookP (k:Str):Kvs→Option Str
 | []=>none
 | (a,b)::l=>if a=k then some b else lookP k l
def putP (k v:Str):Kvs→Kvs
 | []=>[(k,v)]
 | (a,b)::l=>if a=k then(k,v)::l else if ltS a k then(a,b)::putP k v l else(k,v)::(a,b)::l
def delP (k:Str):Kvs→Kvs
 | []=>[]
 | (a,b)::l=>if a=k then l else(a,b)::delP k l
def Srt:Kvs→Prop
 | []=>True
 | (a,_)::l=>(∀p∈l,ltS a p.1=true)∧Srt l
theorem rising_cons {a:Str}{l:List Str} :rising ltS (a::l)=true↔(∀x∈l,ltS a x=true)∧rising ltS l=true:=by
 induction l generalizing a with
 | nil=>simp[rising]
 | cons b l ih=>
  rw[rising,Bool.and_eq_true]
  constructor
  ·rintro⟨h1,h2⟩
   refine⟨fun x hx=> ?_,h2⟩
   rcases List.mem_cons.1 hx with rfl | hx
   ·exact h1
   ·exact ltS_trans h1 ((ih.1 h2).1 x hx)
  ·rintro⟨h1,h2⟩
   exact⟨h1 b (List.mem_cons_self ..),h2⟩
theorem srt_rising: ∀l:Kvs,Srt l↔rising ltS (l.map Prod.fst)=true
 | []=>by simp[Srt,rising]
 | (a,b)::l=>by
  rw[List.map_cons,rising_cons,Srt,srt_rising l]
  simp only[List.mem_map,forall_exists_index,and_imp]
  constructor
  ·rintro⟨h1,h2⟩;exact⟨fun x p hp e=>e▸h1 p hp,h2⟩
  ·rintro⟨h1,h2⟩;exact⟨fun p hp=>h1 _ p hp rfl,h2⟩
theorem look_none {k:Str} : ∀ {l:Kvs},(∀p∈l,p.1≠k)→lookP k l=none
 | [],_=>rfl
 | (a,b)::l,h=>by
  rw[lookP,if_neg (h (a,b) (List.mem_cons_self ..))]
  exact look_none fun p hp=>h p (List.mem_cons_of_mem _ hp)
theorem look_put (k v x:Str): ∀l:Kvs,lookP x (putP k v l)=if x=k then some v else lookP x l
 | []=>by
  simp only[putP,lookP]
  by_cases h:x=k
  ·rw[if_pos h.symm,if_pos h]
  ·rw[if_neg (fun e=>h e.symm),if_neg h]
 | (a,b)::l=>by
  have ih:=look_put k v x l
  simp only[putP]
  split
  ·rename_i e
   subst e
   simp only[lookP]
   by_cases h:x=a
   ·rw[if_pos h.symm,if_pos h]
   ·rw[if_neg (fun e=>h e.symm),if_neg h,if_neg (fun e=>h e.symm)]
  ·rename_i hak
   split
   ·simp only[lookP,ih]
    by_cases h:x=k
    ·subst h;rw[if_neg hak,if_pos rfl,if_pos rfl]
    ·rw[if_neg h,if_neg h]
   ·simp only[lookP]
    by_cases h:x=k
    ·rw[if_pos h.symm,if_pos h]
    ·rw[if_neg (fun e=>h e.symm),if_neg h]
theorem mem_put {k v:Str}{p:Str×Str} : ∀ {l:Kvs},p∈putP k v l→p=(k,v)∨p∈l
 | [],h=>by simpa[putP]using h
 | (a,b)::l,h=>by
  simp only[putP]at h
  split at h
  ·rcases List.mem_cons.1 h with h | h
   ·exact .inl h
   ·exact .inr (List.mem_cons_of_mem _ h)
  ·split at h
   ·rcases List.mem_cons.1 h with h | h
    ·exact .inr (h▸List.mem_cons_self ..)
    ·rcases mem_put h with h | h
     ·exact .inl h
     ·exact .inr (List.mem_cons_of_mem _ h)
   ·rcases List.mem_cons.1 h with h | h
    ·exact .inl h
    ·exact .inr h
theorem srt_put (k v:Str): ∀ {l:Kvs},Srt l→Srt (putP k v l)
 | [],_=>⟨by simp,trivial⟩
 | (a,b)::l,h=>by
  simp only[putP]
  split
  ·rename_i e;subst e;exact h
  ·rename_i hak
   split
   ·rename_i hlt
    refine⟨fun p hp=> ?_,srt_put k v h.2⟩
    rcases mem_put hp with rfl | hp
    ·exact hlt
    ·exact h.1 p hp
   ·rename_i hlt
    have hka:ltS k a=true:=by
     cases hk:ltS k a with
     | true=>rfl
     | false=>exact absurd (ltS_tri (by simpa using hlt) hk) hak
    refine⟨fun p hp=> ?_,h⟩
    rcases List.mem_cons.1 hp with rfl | hp
    ·exact hka
    ·exact ltS_trans hka (h.1 p hp)
theorem mem_del {k:Str}{p:Str×Str} : ∀ {l:Kvs},p∈delP k l→p∈l
 | [],h=>h
 | (a,b)::l,h=>by
  simp only[delP]at h
  split at h
  ·exact List.mem_cons_of_mem _ h
  ·rcases List.mem_cons.1 h with h | h
   ·exact h▸List.mem_cons_self ..
   ·exact List.mem_cons_of_mem _ (mem_del h)
theorem srt_del (k:Str): ∀ {l:Kvs},Srt l→Srt (delP k l)
 | [],_=>trivial
 | (a,b)::l,h=>by
  simp only[delP]
  split
  ·exact h.2
  ·exact⟨fun p hp=>h.1 p (mem_del hp),srt_del k h.2⟩
theorem len_put (k v:Str): ∀ {l:Kvs},Srt l→(putP k v l).length=if(lookP k l).isSome then l.length else l.length+1
 | [],_=>rfl
 | (a,b)::l,h=>by
  have ih:=len_put k v h.2
  simp only[putP,lookP]
  split
  ·simp
  ·rename_i hak
   split
   ·simp only[List.length_cons,ih];split<;>omega
   ·rename_i hlt
    have:lookP k l=none:=look_none fun p hp e=>hlt (by
     have:=h.1 p hp;rw[e]at this;exact this)
    rw[this];rfl
theorem len_del (k:Str): ∀(l:Kvs),(delP k l).length=if(lookP k l).isSome then l.length - 1 else l.length
 | []=>rfl
 | (a,b)::l=>by
  have ih:=len_del k l
  simp only[delP,lookP]
  split
  ·simp
  ·simp only[List.length_cons,ih]
   split
   ·rename_i hs
    have:0<l.length:=by cases l with | nil=>simp[lookP]at hs | cons=>simp
    omega
   ·rfl
def whereN (n:Node)(key:Str):Nat:=(n.keys.filter fun k=>ltS k key||(!n.leaf&&decide (k=key))).length
theorem whereN_le (n:Node)(key:Str):whereN n key≤n.keys.length:=List.length_filter_le _ _
def leafOf (l:Kvs):Node:=⟨true,l.map Prod.fst,l.map Prod.snd,[]⟩
theorem where_cons {a b key:Str}{l:Kvs}(h:Srt ((a,b)::l)):whereN (leafOf ((a,b)::l)) key=if ltS a key then whereN (leafOf l) key+1 else 0:=by
 simp only[whereN,leafOf,List.map_cons,Bool.not_true,Bool.false_and,Bool.or_false]
 cases hl:ltS a key with
 | true=>simp[hl]
 | false=>
  rw[List.filter_cons,hl]
  simp only[Bool.false_eq_true,if_false]
  rw[List.length_eq_zero_iff,List.filter_eq_nil_iff]
  intro x hx hlt
  obtain⟨p,hp,rfl⟩:=List.mem_map.1 hx
  have:=ltS_trans (h.1 p hp) hlt
  rw[hl]at this;cases this
def hereN (n:Node)(key:Str):Bool:=decide (whereN n key<n.keys.length)&&decide (n.keys.getD (whereN n key) []=key)
theorem here_look (key:Str): ∀ {l:Kvs},Srt l→hereN (leafOf l) key=(lookP key l).isSome
 | [],_=>by simp[hereN,leafOf,lookP]
 | (a,b)::l,h=>by
  have ih:=here_look key h.2
  have e1:(leafOf ((a,b)::l)).keys=a::(leafOf l).keys:=rfl
  simp only[hereN,where_cons h,lookP,e1]at ih⊢
  cases hl:ltS a key with
  | true=>
   have hne:a≠key:=ltS_ne hl
   simp only[if_true,if_neg hne,List.length_cons,Nat.add_lt_add_iff_right,List.getD_cons_succ]
   exact ih
  | false=>
   simp only[Bool.false_eq_true,if_false,List.length_cons,List.getD_cons_zero,Nat.zero_lt_succ,decide_true,Bool.true_and]
   by_cases e:a=key
   ·simp[e]
   ·rw[if_neg e,look_none]
    ·simp[e]
    ·intro p hp e2
     have:=h.1 p hp;rw[e2,hl]at this;cases this
def putN (n:Node)(key value:Str):Node:=
 if hereN n key then⟨true,n.keys,n.vals.set (whereN n key) value,[]⟩
 else⟨true,n.keys.take (whereN n key)++[key]++n.keys.drop (whereN n key),n.vals.take (whereN n key)++[value]++n.vals.drop (whereN n key),[]⟩
def delN (n:Node)(key:Str):Node:=⟨true,n.keys.take (whereN n key)++n.keys.drop (whereN n key+1),n.vals.take (whereN n key)++n.vals.drop (whereN n key+1),[]⟩
theorem put_leaf (key value:Str): ∀ {l:Kvs},Srt l→putN (leafOf l) key value=leafOf (putP key value l)
 | [],_=>by simp[putN,hereN,leafOf,putP,whereN]
 | (a,b)::l,h=>by
  have ih:=put_leaf key value h.2
  have hh:=here_look key h
  have hh':=here_look key h.2
  simp only[putN,hh,hh',where_cons h,lookP,putP]at ih⊢
  by_cases e:a=key
  ·subst e
   simp[ltS_irrefl,leafOf]
  ·rw[if_neg e,if_neg e]
   cases hl:ltS a key with
   | true=>
    simp only[if_true]
    have g: ∀(q:Kvs),leafOf ((a,b)::q)=⟨true,a::(leafOf q).keys,b::(leafOf q).vals,[]⟩:=fun q=>rfl
    rw[g (putP key value l), ← ih,g l]
    split
    ·simp
    ·simp
   | false=>
    have:lookP key l=none:=look_none fun p hp e2=>by have:=h.1 p hp;rw[e2,hl]at this;cases this
    rw[this]
    simp[leafOf]
theorem del_leaf (key:Str): ∀ {l:Kvs},Srt l→hereN (leafOf l) key=true→delN (leafOf l) key=leafOf (delP key l)
 | [],_,h=>by simp[hereN,leafOf]at h
 | (a,b)::l,h,hr=>by
  have hh:=here_look key h
  have hh':=here_look key h.2
  rw[hh]at hr
  simp only[delN,where_cons h,delP]
  by_cases e:a=key
  ·subst e
   simp[ltS_irrefl,leafOf]
  ·simp only[lookP,if_neg e]at hr
   rw[if_neg e]
   have hl:ltS a key=true:=by
    cases hl:ltS a key with
    | true=>rfl
    | false=>
     have:lookP key l=none:=look_none fun p hp e2=>by have:=h.1 p hp;rw[e2,hl]at this;cases this
     rw[this]at hr;cases hr
   have ih:=del_leaf key h.2 (hh'.trans hr)
   simp only[hl,if_true]
   have g: ∀(q:Kvs),leafOf ((a,b)::q)=⟨true,a::(leafOf q).keys,b::(leafOf q).vals,[]⟩:=fun q=>rfl
   rw[g (delP key l), ← ih,g l]
   simp[delN]
def getN (n:Node)(key:Str):Option Str:=if n.leaf then lookP key (n.keys.zip n.vals)else none
theorem get_leaf (key:Str)(l:Kvs):getN (leafOf l) key=lookP key l:=by
 simp only[getN,leafOf,if_true]
 congr 1
 induction l with
 | nil=>rfl
 | cons p l ih=>simp[ih]
theorem leaf_shaped {l:Kvs}(h:Srt l)(h1: ∀p∈l,mayK p.1=true∧p.2.length≤200):shaped ltS (leafOf l)=true:=by
 simp only[shaped,leafOf,if_true,Bool.and_eq_true,decide_eq_true_eq,List.all_eq_true,List.mem_map,forall_exists_index,and_imp,List.length_map,true_and]
 exact⟨⟨fun x p hp e=>e▸(h1 p hp).1,(srt_rising l).1 h⟩,fun x p hp e=>e▸(h1 p hp).2⟩
end Go.Nd
end
section
namespace Go.Nd
theorem look_zip {key:Str} : ∀ {ks vs:List Str} {i:Nat},(∀j,j<i→ks.getD j []≠key)→i<ks.length→ks.getD i []=key→lookP key (ks.zip vs)=vs[i]?
 | [],_,_,_,h,_=>by simp at h
 | k::ks,[],i,_,_,_=>by simp[lookP]
 | k::ks,v::vs,0,_,_,h=>by simp at h;simp[lookP,h]
 | k::ks,v::vs,i+1,h0,h1,h2=>by
  have h00:k≠key:=by simpa using h0 0 (by omega)
  have ih:=look_zip (key:=key) (ks:=ks) (vs:=vs) (i:=i) (fun j hj=>by simpa using h0 (j+1) (by omega)) (by simpa using h1) (by simpa using h2)
  simp only[List.zip_cons_cons,lookP,if_neg h00,List.getElem?_cons_succ,ih]
theorem look_zip0 {key:Str} : ∀ {ks vs:List Str},(∀j,j<ks.length→ks.getD j []≠key)→lookP key (ks.zip vs)=none
 | [],_,_=>by simp[lookP]
 | k::ks,[],_=>by simp[lookP]
 | k::ks,v::vs,h0=>by
  have h00:k≠key:=by simpa using h0 0 (by simp)
  have ih:=look_zip0 (key:=key) (ks:=ks) (vs:=vs) (fun j hj=>by simpa using h0 (j+1) (by simp;omega))
  simp only[List.zip_cons_cons,lookP,if_neg h00,ih]
end Go.Nd
namespace Go.Eng.Sh
open Go.Nd (Ptr sumL cutOk cutA cutB whereN getN lookP)
theorem filter_take {f:Str→Bool}(l:List Str){i:Nat}(h:i<l.length):((l.take (i+1)).filter f).length=((l.take i).filter f).length+if f (l.getD i [])then 1 else 0:=by
 rw[List.take_succ_eq_append_getElem h,List.filter_append,List.length_append,getD_lt h]
 congr 1
 cases hf:f l[i]<;>simp[hf]
theorem where_ok (D:Dyn)(n:Nat)(hn:200000000≤n){H:AH}(hk:H.ok){v:AV}{nd:Nd.Node}{key:Str}(h:NodeV H v nd)(hs:small nd):
  ∃H',f70 D n [v,S key] H=some (.int .i64 (whereN nd key:Nat),H')∧Prs H H':=by
 obtain⟨ks,vs,ps,rfl,h1,h2,h3⟩:=h
 obtain⟨la,hla⟩: ∃la,la=nd.leaf:=⟨_,rfl⟩
 rw[← hla]
 have hkl:=Nd.sumL_ge nd.keys
 obtain⟨s1,s2,s3⟩:=hs
 obtain⟨H1,A1,b1,p1,g1,m1,n1⟩:=box hk (.cells [.bool la,ks,vs,ps] 133 1 false)
 have r1:=h1.prs p1
 have lp:loopK n (f70l1 D n) [S key, .ptr A1 0, .int .i64 ((0:Nat):Int),ks, .int .i64 (nd.keys.length:Nat), .int .i64 ((0:Nat):Int)] H1=some (.exit 0 [.int .i64 (whereN nd key:Nat)],H1):=by
  refine loop_for (fun i=>[S key, .ptr A1 0, .int .i64 ((((nd.keys.take i).filter fun k=>ltS k key||(!nd.leaf&&decide (k=key))).length:Nat):Int),ks, .int .i64 (nd.keys.length:Nat), .int .i64 (i:Nat)]) nd.keys.length ?_ ?_ n (by omega)
  ·intro i hi
   obtain⟨p,i1,i2⟩:=r1.at hi
   rw[← getD_lt (d:=[])]at i2
   have hiI:((i:Nat):Int)< ((nd.keys.length:Nat):Int):=by omega
   rw[filter_take nd.keys hi, ← hla]
   have hle:((nd.keys.take i).filter fun k=>ltS k key||(!la&&decide (k=key))).length≤nd.keys.length:=Nat.le_trans (List.length_filter_le _ _) (by rw[List.length_take];omega)
   generalize((nd.keys.take i).filter fun k=>ltS k key||(!la&&decide (k=key))).length=c at hle
   generalize nd.keys.getD i []=x at i2
   cases hx:ltS x key with
   | true=>simp(disch:=omega) only[f70l1,f70j0,ev,lg,wnt_undef,ew,hiI,i1,i2,hx,Int.natCast_add]
   | false=>
    cases la with
    | true=>simp(disch:=omega) only[f70l1,f70j0,ev,lg,wnt_undef,ew,hiI,i1,i2,hx,ld1_get g1,Int.natCast_add,Nat.add_zero]
    | false=>
     by_cases he:x=key
     ·subst he
      simp(disch:=omega) only[f70l1,f70j0,ev,lg,wnt_undef,ew,hiI,i1,i2,hx,ld1_get g1,Int.natCast_add]
     ·simp(disch:=omega) only[f70l1,f70j0,ev,lg,wnt_undef,ew,hiI,i1,i2,hx,ld1_get g1,he,Int.natCast_add,Nat.add_zero]
  ·intro m
   refine loop_exit ?_
   rw[List.take_length]
   simp only[f70l1,ev,lg,wnt_undef,ew,Int.lt_irrefl,whereN]
 refine⟨H1, ?_,p1⟩
 simp only[f70,ev,lg,wnt_undef,ew,b1,ld1_get g1,h1.lnSl,lp,f70b2]
theorem index_ok (D:Dyn)(n:Nat){H:AH}{v:AV}{l:List Str}{key:Str}(h:Strs H v l)(hl:l.length≤1000000000)(hn:l.length<n):
  ∃z:Int,f115 D n [v,S key] H=some (.int .i64 z,H)∧((∃i:Nat,z=i∧i<l.length∧l.getD i []=key∧ ∀j,j<i→l.getD j []≠key)∨(z= -1∧ ∀j,j<l.length→l.getD j []≠key)):=by
 have lp:Fin (loopK n (f115l0 D n) [v,S key, .int .i64 (l.length:Nat), .int .i64 ((0:Nat):Int)] H) fun x H'=>H'=H∧((∃i:Nat,x= .ret (.int .i64 (i:Nat))∧i<l.length∧l.getD i []=key∧ ∀j,j<i→l.getD j []≠key)∨(x= .exit 0 []∧ ∀j,j<l.length→l.getD j []≠key)):=by
  refine Fin.loop (fun k us H'=>H'=H∧ ∃i:Nat,us=[v,S key, .int .i64 (l.length:Nat), .int .i64 (i:Nat)]∧i≤l.length∧k=l.length - i∧ ∀j,j<i→l.getD j []≠key) ?_ n l.length _ H ⟨rfl,0,rfl,by omega,by omega,fun j hj=>by omega⟩ (by omega)
  rintro k us H' ⟨rfl,i,rfl,hi,rfl,hj⟩
  by_cases hlt:i<l.length
  ·obtain⟨p,i1,i2⟩:=h.at hlt
   rw[← getD_lt (d:=[])]at i2
   have hiI:((i:Nat):Int)< ((l.length:Nat):Int):=by omega
   by_cases he:l.getD i []=key
   ·rw[he]at i2
    have e:f115l0 D n [v,S key, .int .i64 (l.length:Nat), .int .i64 (i:Nat)] H'=some (.ret (.int .i64 (i:Nat)),H'):=by
     simp(disch:=omega) only[f115l0,ev,lg,wnt_undef,ew,hiI,i1,i2]
    rw[e]
    exact⟨_,_,rfl,rfl, .inl ⟨i,rfl,hlt,he,hj⟩⟩
   ·have he': ¬key=l.getD i []:=fun e=>he e.symm
    have e:f115l0 D n [v,S key, .int .i64 (l.length:Nat), .int .i64 (i:Nat)] H'=some (.norm [v,S key, .int .i64 (l.length:Nat), .int .i64 ((i+1:Nat):Int)],H'):=by
     simp(disch:=omega) only[f115l0,ev,lg,wnt_undef,ew,hiI,i1,i2,he',Int.natCast_add]
    rw[e]
    refine⟨_,_,rfl,l.length - (i+1),by omega,rfl,i+1,rfl,by omega,rfl,fun j hj'=> ?_⟩
    rcases Nat.lt_succ_iff_lt_or_eq.1 hj' with h | rfl
    ·exact hj j h
    ·exact he
  ·have hiI: ¬((i:Nat):Int)< ((l.length:Nat):Int):=by omega
   refine⟨.exit 0 [],H', ?_,rfl, .inr ⟨rfl,fun j hj'=>hj j (by omega)⟩⟩
   simp only[f115l0,ev,lg,wnt_undef,ew,hiI]
 obtain⟨x,H',e,rfl,hx⟩:=lp
 rcases hx with⟨i,rfl,h1,h2,h3⟩ | ⟨rfl,h1⟩
 ·refine⟨i, ?_, .inl ⟨i,rfl,h1,h2,h3⟩⟩
  simp only[f115,ev,lg,wnt_undef,ew,h.lnSl,e]
 ·refine⟨-1, ?_, .inr ⟨rfl,h1⟩⟩
  simp only[f115,ev,lg,wnt_undef,ew,h.lnSl,e,f115b1]
  rfl
theorem getNd_ok (D:Dyn)(n:Nat)(hn:200000000≤n){H:AH}(hk:H.ok){v:AV}{nd:Nd.Node}{key:Str}(h:NodeV H v nd)(hs:small nd):
  ∃H',f72 D n [v,S key] H=some (.tuple [S ((getN nd key).getD []), .bool (getN nd key).isSome],H')∧Prs H H':=by
 obtain⟨ks,vs,ps,rfl,h1,h2,h3⟩:=h
 obtain⟨la,hla⟩: ∃la,la=nd.leaf:=⟨_,rfl⟩
 simp only[getN]
 rw[← hla]
 have hkl:=Nd.sumL_ge nd.keys
 have hvl:=Nd.sumL_ge nd.vals
 obtain⟨s1,s2,s3⟩:=hs
 obtain⟨H1,A1,b1,p1,g1,m1,n1⟩:=box hk (.cells [.bool la,ks,vs,ps] 133 1 false)
 have hS:(AV.str 0 0)=S []:=rfl
 refine⟨H1, ?_,p1⟩
 cases la with
 | false=>simp only[f72,ev,lg,wnt_undef,ew,b1,ld1_get g1,hS,Option.getD_none,Option.isSome_none]
 | true=>
  obtain⟨z,e1,hz⟩:=index_ok D n (key:=key) (h1.prs p1) (by omega) (by omega)
  rcases hz with⟨i,rfl,hi,he,hj⟩ | ⟨rfl,hj⟩
  ·have hlk:=Nd.look_zip (vs:=nd.vals) hj hi he
   have c1: ¬((i:Nat):Int)< ((0:Nat):Int):=by omega
   by_cases hv:i<nd.vals.length
   ·obtain⟨p,i1,i2⟩:=(h2.prs p1).at hv
    have c2: ¬((nd.vals.length:Nat):Int)≤((i:Nat):Int):=by omega
    rw[List.getElem?_eq_getElem hv]at hlk
    simp only[hlk,if_true]
    simp(disch:=omega) only[f72,ev,lg,wnt_undef,ew,b1,ld1_get g1,e1,c1,h2.lnSl,c2,i1,i2,Option.getD_some,Option.isSome_some]
   ·have c2:((nd.vals.length:Nat):Int)≤((i:Nat):Int):=by omega
    rw[List.getElem?_eq_none (by omega)]at hlk
    simp only[hlk,if_true]
    simp(disch:=omega) only[f72,ev,lg,wnt_undef,ew,b1,ld1_get g1,e1,c1,h2.lnSl,c2,hS,Option.getD_none,Option.isSome_none]
  ·have hlk:=Nd.look_zip0 (vs:=nd.vals) hj
   have c1:(-1:Int)< ((0:Nat):Int):=by omega
   simp only[hlk,if_true]
   simp(disch:=omega) only[f72,ev,lg,wnt_undef,ew,b1,ld1_get g1,e1,c1,hS,Option.getD_none,Option.isSome_none]
end Go.Eng.Sh
end
section
namespace Go.Eng
theorem slSl_end {k e n:Nat}{H:AH}{v:AV}{l:List AV}(h:Grow k e H v n l)(hpos:0<k)(h0:0<n)(κ:IntKind):
  ∃r,slSl k v (some (.int κ (n:Nat))) none none H=some r∧Rw k H r 0 []:=by
 have n1:=natOf_int κ (z:=((n:Nat):Int)) (by omega)
 simp only[Int.toNat_natCast]at n1
 have hb:Nat.blt 0 k=true:=by rw[Nat.blt_eq];exact hpos
 have b1:Nat.ble n n=true:=by rw[Nat.ble_eq];exact Nat.le_refl _
 have b2:Nat.blt n n=false:=by rw[Bool.eq_false_iff];intro h;rw[Nat.blt_eq]at h;omega
 have b3:Nat.beq n 0=false:=by rw[Bool.eq_false_iff];intro h;have:=Nat.eq_of_beq_eq_true h;omega
 rcases h with⟨h1,⟨rfl,rfl⟩ | ⟨A,rfl,hA,hg⟩⟩ | ⟨h1,A,e',g,rfl,hA,hg⟩
 ·omega
 ·have hroom:roomOf l true k 0 1 k=n:=by
   simp only[roomOf,show((1 % 2).beq 0)=false from rfl,cond_false,Nat.beq_refl,show Nat.beq 0 (1 / 2*k)=true from by simp,Bool.and_self,cond_true,lenL_zero,h1,Nat.sub_zero]
   exact Nat.mul_div_cancel _ hpos
  refine⟨.emptySl, ?_,⟨by simp, .inr (.inl ⟨rfl,rfl⟩)⟩⟩
  simp only[slSl,natOpt,n1,hg,hb,cond_true];simp[acut,hroom,b1,b2,b3,show Nat.beq 1 0=false from rfl]
 ·have hroom:roomOf l g k 0 (2*n) k=n:=by
   simp only[roomOf,show((2*n) % 2).beq 0=true by rw[Nat.mul_mod_right];rfl,cond_true,Nat.mul_div_cancel_left n (show 0<2 by omega)]
  have b4:Nat.beq (2*n / 2) n=true:=by rw[Nat.mul_div_cancel_left n (show 0<2 by omega),Nat.beq_refl]
  refine⟨.slice A 0 0 (2*(2*n / 2 - n)), ?_,⟨by simp, .inr (.inr ⟨A,0,_,l,e',k,g,rfl,hg,hA,by omega,by simp⟩)⟩⟩
  simp only[slSl,natOpt,n1,hg,hb,cond_true];simp[acut,hroom,b1,b4,fN_eq]
end Go.Eng
namespace Go.Eng.Sh
open Go.Nd (Ptr sumL)
theorem cloneG_ok (D:Dyn)(n:Nat){H:AH}(hk:H.ok){v:AV}{l:List Str}(h:Grow 1 9 H v l.length (l.map S))(hl:l.length≤1000000000):
  ∃v' H',f109 D n [v] H=some (v',H')∧Prs H H'∧Grow 1 9 H' v' l.length (l.map S)∧(∀B,Blk v' B→H.next≤B)∧(0<l.length→Own 1 9 H' v' l.length (l.map S)):=by
 have hr:=h.row
 by_cases hv:v= .nilSlice
 ·subst hv
  have hl0:l=[]:=by
   rcases h with⟨_,⟨_,h0⟩ | ⟨A,h0,_⟩⟩ | ⟨_,A,_,_,h0,_⟩
   ·exact List.eq_nil_of_length_eq_zero h0
   ·cases h0
   ·cases h0
  subst hl0
  refine⟨.nilSlice,H, ?_,Stp.refl hk, .inl (Own.nil ..),fun B hB=>(Blk.nil.1 hB).elim,fun h=>absurd h (by simp)⟩
  have heq:cmpO .eql (eqS .nilSlice .nilSlice)=some (.bool true):=rfl
  simp only[f109,ev,lg,wnt_undef,ew,heq]
 ·have hne:v≠ .emptySl:=by
   rcases h with⟨_,⟨rfl,_⟩ | ⟨A,rfl,_⟩⟩ | ⟨_,A,_,_,rfl,_⟩<;>simp
  by_cases h0:l.length=0
  ·obtain⟨v',H',e,p,g,f⟩:=cloneS_ok D n hk hr hv hne hl
   exact⟨v',H',e,p,g,f,fun h=>absurd h (by omega)⟩
  ·have p1:Prs H (H.push (.cells [] 9 1 false)):=(Stp.refl hk).push _
   have g1:(H.push (.cells [] 9 1 false)).h.get H.next=some (.cells [] 9 1 false):=AH.push_get_eq _ _
   have n1:(H.push (.cells [] 9 1 false)).next=H.next+1:=rfl
   generalize hH1:H.push (.cells [] 9 1 false)=H1 at p1 g1 n1
   have e2:=app1_full (k:=1) (e:=9) (bytes:=16) (n:=0) (m:=l.length) (off:=0) (new:=l.map S) p1.ok g1 (by simp) (by omega) (by omega) (by decide)
   have e3:apP 9 1 16 (.slice H.next 0 0 0) v H1=some (.slice H1.next 0 (0+l.length) 1,H1.push (.cells (([]:List AV).drop 0 |>.take (0*1) |> (· ++l.map S)) 9 1 true)):=by
    simp only[apP,(hr.prs p1).srcOf,map_cells,cond_true];exact e2
   have hz1:bldL 9 1 0 [.str 0 0] []=some (.cells [] 9 1 false,fun A=> .slice A 0 0 0):=rfl
   have heq:cmpO .eql (eqS v .nilSlice)=some (.bool false):=by
    rcases h with⟨_,⟨rfl,_⟩ | ⟨A,rfl,_⟩⟩ | ⟨_,A,_,_,rfl,_⟩
    ·exact absurd rfl hv
    ·rfl
    ·rfl
   simp only[List.drop_nil,List.take_nil,List.nil_append,Nat.zero_add]at e3
   have hO:Own 1 9 (H1.push (.cells (l.map S) 9 1 true)) (.slice H1.next 0 l.length 1) l.length (l.map S):=⟨by simp, .inr ⟨_,rfl,Nat.lt_succ_self _,AH.push_get_eq _ _⟩⟩
   refine⟨.slice H1.next 0 l.length 1,H1.push (.cells (l.map S) 9 1 true), ?_,p1.push _, .inl hO,fun B hB=>by rw[Blk.slice.1 hB];omega,fun _=>hO⟩
   simp only[f109,ev,lg,wnt_undef,ew,heq,hz1,bA_ok hk,hH1,e3]
theorem insert_ok (D:Dyn)(n:Nat){H:AH}(hk:H.ok){v:AV}{l:List Str}{i B:Nat}{x:Str}(h:Grow 1 9 H v l.length (l.map S))(ho:0<l.length→Own 1 9 H v l.length (l.map S))(hi:i≤l.length)(hl:l.length≤200000000)(hB:H.h.get B=some (.cells [S x] 9 1 false)):
  ∃v' H',m110 D n [v, .int .i64 (i:Nat), .slice B 0 1 2] H=some (v',H')∧Stp (Blk v) H H'∧Grow 1 9 H' v' (l.take i++[x]++l.drop i).length ((l.take i++[x]++l.drop i).map S)∧ ∀C,Blk v' C→Blk v C∨H.next≤C:=by
 have hx:Strs H (.slice B 0 1 2) [x]:=Rw.lit (cc:=2) hk hB
 have l1:lnSl (.slice B 0 1 2)=some (.int .i64 ((1:Nat):Int)):=rfl
 have t10: ¬((1:Nat):Int)=((0:Nat):Int):=by omega
 by_cases hil:i=l.length
 ·subst hil
  have hs: ∃r,slSl 1 v (some (.int .i64 (l.length:Nat))) none none H=some r:=by
   by_cases h0:0<l.length
   ·obtain⟨r,e,_⟩:=slSl_end h (by decide) h0 .i64;exact⟨r,e⟩
   ·have hz:l.length=0:=by omega
    rw[hz]
    rcases h with⟨_,⟨rfl,_⟩ | ⟨A,rfl,_,hg⟩⟩ | ⟨_,A,e',g,rfl,_,hg⟩
    ·exact⟨.nilSlice,rfl⟩
    ·rw[hz]
     have:l=[]:=List.eq_nil_of_length_eq_zero hz
     subst this
     exact⟨.slice A 0 0 1,by simp[slSl,natOpt,natOf_int,hg,acut,fN_eq,roomOf,show Nat.blt 0 1=true from rfl,show Nat.ble 0 0=true from rfl,show Nat.beq 1 0=false from rfl,show Nat.beq 0 0=true from rfl,natOf,show Nat.beq 1 1=true from rfl,lenL,bne]⟩
    ·rw[hz]
     have:l=[]:=List.eq_nil_of_length_eq_zero hz
     subst this
     exact⟨.slice A 0 0 0,by simp[slSl,natOpt,natOf_int,hg,acut,fN_eq,roomOf,show Nat.blt 0 1=true from rfl,show Nat.ble 0 0=true from rfl,show Nat.beq 0 0=true from rfl,natOf]⟩
  obtain⟨r,hr⟩:=hs
  obtain⟨v',H',e2,w2,s2,f2⟩:=h.app (bytes:=16) hk (by decide) hx.srcOf (by simp) (map_cells _) (by simp;omega) (by decide)
  refine⟨v',H', ?_,s2,by simpa using w2,f2⟩
  have:f110 D n [v, .int .i64 (l.length:Nat), .slice B 0 1 2] H=some (v',H'):=by
   simp only[f110,ev,lg,wnt_undef,ew,hr,l1,t10,h.row.lnSl,e2]
  show insK (f110 D n) _ H=_
  simp only[insK,this]
 ·have hlt:i<l.length:=by omega
  have hO:=ho (by omega)
  obtain⟨_,⟨_,h0⟩ | ⟨A,rfl,hA,hg⟩⟩:=id hO
  ·omega
  ·obtain⟨r,hr,_⟩:=slSl_lo h (by decide) hlt .i64
   have hil': ¬((i:Nat):Int)=((l.length:Nat):Int):=by omega
   have hcap:acap X 37 (.slice A 0 l.length 1)=none:=rfl
   have hno:f110 D n [.slice A 0 l.length 1, .int .i64 (i:Nat), .slice B 0 1 2] H=none:=by
    simp(disch:=omega) only[f110,ev,lg,wnt_undef,ew,hr,l1,t10,h.row.lnSl,hil',hcap]
    rfl
   have b1:Nat.blt i l.length=true:=by rw[Nat.blt_eq];exact hlt
   have b2:Nat.ble ((l.length+1)*16) 140737488355328=true:=by rw[Nat.ble_eq];omega
   have hpd:(H.put A .dead).ok:=hk.put hA _
   refine⟨.slice (H.put A .dead).next 0 (l.length+1) 1,(H.put A .dead).push (.cells ((l.map S).take i++[S x]++(l.map S).drop i) 9 1 true), ?_,((Stp.refl hk).put hA _ (.inr (Blk.slice.2 rfl))).push _, ?_,fun C hC=> .inr (by rw[Blk.slice.1 hC];exact Nat.le_refl _)⟩
   ·show insK (f110 D n) _ H=_
    simp only[insK,hno]
    show insT 9 [.slice A 0 l.length 1, .int .i64 (.ofNat i), .slice B 0 1 2] H=_
    simp only[insT,hg,hB,b1,b2,map_cells,lenL_zero,List.length_map,Nat.beq_refl,show Nat.blt 0 1=true from rfl,show Nat.beq 1 1=true from rfl,show Nat.beq 0 0=true from rfl,show Nat.beq 9 9=true from rfl,Bool.and_self,Bool.not_false,cond_true,subN,takeN,allCells,S_cell,putA_ok,agrow,newA_ok hpd,fN_eq]
   ·have hlen:(l.take i++[x]++l.drop i).length=l.length+1:=by simp;omega
    have hmap:(l.take i++[x]++l.drop i).map S=(l.map S).take i++[S x]++(l.map S).drop i:=by simp
    rw[hlen,hmap]
    exact .inl ⟨by simp;omega, .inr ⟨_,rfl,Nat.lt_succ_self _,AH.push_get_eq _ _⟩⟩
end Go.Eng.Sh
end
section
namespace Go.Eng
theorem Own.set1 {e:Nat}{H:AH}{v:AV}{l:List Str}(hk:H.ok)(h:Own 1 e H v l.length (l.map S)){i:Nat}(hi:i<l.length)(x:Str):
  ∃p H',(∀κ (z:Int),z=(i:Int)→ixSl 1 v (.int κ z)=some p)∧stN 1 p (S x) H=some (undefA,H')∧Own 1 e H' v (l.set i x).length ((l.set i x).map S)∧Stp (Blk v) H H':=by
 obtain⟨h0,⟨_,h1⟩ | ⟨A,rfl,hA,hg⟩⟩:=h
 ·omega
 ·have hb:Nat.blt i l.length=true:=by rw[Nat.blt_eq];exact hi
  refine⟨.ptr A (0+i*1),_,fun κ z hz=> ?_,st1_ok hg (by decide) (S_cell x) (by simpa using hi),⟨by simp, .inr ⟨A,by simp,hA,by rw[AH.put_get,if_pos rfl];simp[List.map_set]⟩⟩,(Stp.refl hk).put hA _ (.inr (Blk.slice.2 rfl))⟩
  subst hz
  simp only[ixSl,natOf_int κ (show(0:Int)≤(i:Int)by omega),Int.toNat_natCast,hb,cond_true,fN_eq]
end Go.Eng
namespace Go.Eng.Sh
open Go.Nd (Ptr sumL whereN hereN putN)
def putOk (nd:Nd.Node)(key value:Str):Bool:=Nd.shaped ltS nd&&nd.leaf&&Nd.mayK key&&decide (value.length≤200)
theorem putNd_ok (D:Dyn)(n:Nat)(hn:200000000≤n){H:AH}(hk:H.ok){v:AV}{nd:Nd.Node}{key value:Str}(h:NodeG H v nd)(hs:small nd):
  ∃u H',f65 D n [v,S key,S value] H=some (.tuple [u, .int .i64 ((if putOk nd key value then 0 else 1:Nat):Int)],H')∧Prs H H'∧NodeF H.next H' u (if putOk nd key value then putN nd key value else nd0):=by
 have i0:=h.node
 obtain⟨ks,vs,ps,rfl,h1,h2,h3⟩:=h
 have hkl:=Nd.sumL_ge nd.keys
 have hvl:=Nd.sumL_ge nd.vals
 have s0:=hs
 obtain⟨s1,s2,s3⟩:=hs
 obtain⟨la,hla⟩: ∃la,la=nd.leaf:=⟨_,rfl⟩
 obtain⟨po,hpo⟩: ∃po,po=putOk nd key value:=⟨_,rfl⟩
 rw[← hpo, ← hla]
 rw[← hla]at i0
 simp only[putOk, ← hla]at hpo
 obtain⟨H1,A1,b1,p1,g1,m1,n1⟩:=box hk (.cells [.bool la,ks,vs,ps] 133 1 false)
 obtain⟨H2,A2,b2,p2,g2,m2,n2⟩:=box p1.ok (.cells [.bool false, .nilSlice, .nilSlice, .nilSlice] 133 1 false)
 have P2:Prs H H2:=p1.trans p2
 have g12:=p2.get p1.ok g1
 obtain⟨H4,e4,p4⟩:=shaped_ok D n P2.ok (i0.prs P2) s0 hn
 have P4:=P2.trans p4
 have g14:=p4.get P2.ok g12;have g24:=p4.get P2.ok g2
 obtain⟨Hr,er,gr,sr,nr⟩:=st_all P4.ok g24 (l':=[.bool false, .nilSlice, .nilSlice, .nilSlice]) rfl rfl
 have er':stN 4 (.ptr A2 0) (.agg [.bool false, .nilSlice, .nilSlice, .nilSlice]) H4=some (undefA,Hr):=er
 have Pr:Prs H Hr:=P4.fresh sr (fun B hB=>by omega)
 have lr:=agg4 gr rfl
 cases c1:Nd.shaped ltS nd with
 | false=>
  simp only[c1,Bool.false_and,Bool.and_false]at hpo
  subst hpo
  refine⟨.agg [.bool false, .nilSlice, .nilSlice, .nilSlice],Hr, ?_,Pr,NodeF.zero _ _⟩
  simp only[Bool.false_eq_true,if_false]
  simp(config:= { maxSteps:=1000000}) (disch:=omega) only[f65,ev,lg,wnt_undef,ew,b1,b2,ldN_get g12,sub4,Option.map_some,e4,c1,bldN0,er',lr]
 | true=>
 cases la with
 | false=>
  simp only[Bool.false_and,Bool.and_false]at hpo
  subst hpo
  refine⟨.agg [.bool false, .nilSlice, .nilSlice, .nilSlice],Hr, ?_,Pr,NodeF.zero _ _⟩
  simp only[Bool.false_eq_true,if_false]
  simp(config:= { maxSteps:=1000000}) (disch:=omega) only[f65,ev,lg,wnt_undef,ew,b1,b2,ldN_get g12,sub4,Option.map_some,e4,c1,ld1_get g14,bldN0,er',lr]
 | true=>
 cases c2:Nd.mayK key with
 | false=>
  simp only[c2,Bool.false_and,Bool.and_false]at hpo
  subst hpo
  refine⟨.agg [.bool false, .nilSlice, .nilSlice, .nilSlice],Hr, ?_,Pr,NodeF.zero _ _⟩
  simp only[Bool.false_eq_true,if_false]
  simp(config:= { maxSteps:=1000000}) (disch:=omega) only[f65,ev,lg,wnt_undef,ew,b1,b2,ldN_get g12,sub4,Option.map_some,e4,c1,ld1_get g14,mayKey_ok,c2,bldN0,er',lr]
 | true=>
 by_cases c3:value.length≤200
 case neg=>
  have c3':((200:Nat):Int)< ((value.length:Nat):Int):=by omega
  simp only[c3,decide_false,Bool.and_false]at hpo
  subst hpo
  refine⟨.agg [.bool false, .nilSlice, .nilSlice, .nilSlice],Hr, ?_,Pr,NodeF.zero _ _⟩
  ·simp only[Bool.false_eq_true,if_false]
   simp(config:= { maxSteps:=1000000}) (disch:=omega) only[f65,ev,lg,wnt_undef,ew,b1,b2,ldN_get g12,sub4,Option.map_some,e4,c1,ld1_get g14,mayKey_ok,c2,c3',bldN0,er',lr]
 case pos=>
 have c3': ¬((200:Nat):Int)< ((value.length:Nat):Int):=by omega
 simp only[c1,c2,c3,decide_true,Bool.and_self]at hpo
 subst hpo
 simp only[if_true]
 have hvk:nd.vals.length=nd.keys.length:=by
  simp only[Nd.shaped, ← hla,if_true,Bool.and_eq_true,decide_eq_true_eq]at c1;exact c1.2.1.1
 obtain⟨H5,A3,b5,p5,g5,m5,n5⟩:=box P4.ok (.cells [.bool false, .nilSlice, .nilSlice, .nilSlice] 133 1 false)
 have P5:=P4.trans p5
 have up1 {Hx:AH} (p:Prs H4 Hx):=Prs.get p P4.ok g14
 have up2 {Hx:AH} (p:Prs H4 Hx):=Prs.get p P4.ok g24
 have q1 {Hx:AH} (p:Prs H Hx):Grow 1 9 Hx ks nd.keys.length (nd.keys.map S):=h1.mono p (fun _ _ x=>x)
 have q2 {Hx:AH} (p:Prs H Hx):Grow 1 9 Hx vs nd.vals.length (nd.vals.map S):=h2.mono p (fun _ _ x=>x)
 obtain⟨w1,H6,e6,p6,o6,f6,t6⟩:=cloneG_ok D n P5.ok (q1 P5) (by omega)
 have P6:=P5.trans p6
 obtain⟨w2,H7,e7,p7,o7,f7,t7⟩:=cloneG_ok D n P6.ok (q2 P6) (by omega)
 have P7:=P6.trans p7
 obtain⟨H8,e8,g8,s8,n8⟩:=st_all P7.ok (Prs.get (p6.trans p7) P5.ok g5) (l':=[.bool true,w1,w2, .nilSlice]) rfl (by simp only[allCells,o6.row.isCell,o7.row.isCell];rfl)
 have e8':stN 4 (.ptr A3 0) (.agg [.bool true,w1,w2, .nilSlice]) H7=some (undefA,H8):=e8
 have N6:=p6.next
 have N7:=p7.next
 have p47:Prs H4 H7:=(p5.trans p6).trans p7
 have p48:Prs H4 H8:=p47.fresh s8 (fun B hB=>by omega)
 have P8:=P4.trans p48
 have k1:Grow 1 9 H8 w1 nd.keys.length (nd.keys.map S):=(o6.mono p7 (fun _ _ x=>x)).mono s8 (fun B hB e=>by have:=f6 B hB;omega)
 have k2:Grow 1 9 H8 w2 nd.vals.length (nd.vals.map S):=o7.mono s8 (fun B hB e=>by have:=f7 B hB;omega)
 have b1k: ∀B,Blk w1 B→A3<B∧B<H6.next:=fun B hB=>⟨by have:=f6 B hB;omega,o6.lt hB⟩
 have b2k: ∀B,Blk w2 B→H6.next≤B∧B<H8.next:=fun B hB=>⟨f7 B hB,k2.lt hB⟩
 obtain⟨H9,e9,p9⟩:=where_ok D n hn P8.ok (key:=key) (i0.prs P8) s0
 have P9:=P8.trans p9
 have p49:Prs H4 H9:=p48.trans p9
 have g39:=p9.get P8.ok g8
 have hle:=Nd.whereN_le nd key
 have hln:=h1.row.lnSl
 have N9:=p9.next
 have N5:=p5.next
 have N4:=p4.next
 have fin: ∀ {Hx:AH} {l:List AV},Prs H Hx→Hx.h.get A2=some (.cells [.bool false, .nilSlice, .nilSlice, .nilSlice] 133 1 false)→l.length=4→allCells l=true→ ∃Hy,stN 4 (.ptr A2 0) (.agg l) Hx=some (undefA,Hy)∧Prs H Hy∧Stp (fun B=>B=A2) Hx Hy∧ldN 4 (.ptr A2 0) Hy=some (.agg l):=fun {Hx l} px hg hl hc=>by
  obtain⟨Hy,e,g,s,_⟩:=st_all px.ok hg hl hc
  have e':stN 4 (.ptr A2 0) (.agg l) Hx=some (undefA,Hy):=e
  exact⟨Hy,e',px.fresh s (fun B hB=>by omega),s,agg4 g hl⟩
 obtain⟨H10,B1,b10,p10,g10,m10,n10⟩:=box P9.ok (.cells [S key] 9 1 false)
 have Q10:Prs H4 H10:=p49.trans p10
 have ow1:0<nd.keys.length→Own 1 9 H10 w1 nd.keys.length (nd.keys.map S):=fun h=>(((t6 h).mono p7 (fun _ _ x=>x)).mono s8 (fun B hB e=>by have:=f6 B hB;omega)).mono (p9.trans p10) (fun _ _ x=>x)
 obtain⟨w1',H11,e11,s11,o11,f11⟩:=insert_ok D n p10.ok (k1.mono (p9.trans p10) (fun _ _ x=>x)) ow1 hle (by omega) (x:=key) g10
 have g3a:H11.h.get A3=some (.cells [.bool true,w1,w2, .nilSlice] 133 1 false):=by rw[s11.keep _ (by have:=p10.next;omega) (fun hB=>by have:=b1k _ hB;omega)];exact p10.get P9.ok g39
 have Q11:Prs H4 H11:=Q10.fresh s11 (fun B hB=>by have:=b1k B hB;omega)
 obtain⟨H12,e12,g12',s12,n12⟩:=st_fld Q11.ok g3a (o:=1) (x:=w1') o11.row.isCell (by simp)
 have g12':H12.h.get A3=some (.cells [.bool true,w1',w2, .nilSlice] 133 1 false):=g12'
 have Q12:Prs H4 H12:=Q11.fresh s12 (fun B hB=>by omega)
 obtain⟨H13,B2,b13,p13,g13,m13,n13⟩:=box Q12.ok (.cells [S value] 9 1 false)
 have Q13:Prs H4 H13:=Q12.trans p13
 have d12: ∀B,Blk w2 B→ ¬Blk w1 B:=fun B hB hB'=>by have:=b1k B hB';have:=b2k B hB;omega
 have kw2:Grow 1 9 H13 w2 nd.vals.length (nd.vals.map S):=(((k2.mono (p9.trans p10) (fun _ _ x=>x)).mono s11 d12).mono s12 (fun B hB e=>by have:=b2k B hB;omega)).mono p13 (fun _ _ x=>x)
 have ow2:0<nd.vals.length→Own 1 9 H13 w2 nd.vals.length (nd.vals.map S):=fun h=>(((((t7 h).mono s8 (fun B hB e=>by have:=f7 B hB;omega)).mono (p9.trans p10) (fun _ _ x=>x)).mono s11 d12).mono s12 (fun B hB e=>by have:=b2k B hB;omega)).mono p13 (fun _ _ x=>x)
 obtain⟨w2',H14,e14,s14,o14,f14⟩:=insert_ok D n p13.ok kw2 ow2 (i:=whereN nd key) (by omega) (by omega) (x:=value) g13
 have N10:=p10.next
 have N11:=s11.next
 have N12:=s12.next
 have N13:=p13.next
 have g3b:H14.h.get A3=some (.cells [.bool true,w1',w2, .nilSlice] 133 1 false):=by rw[s14.keep _ (by omega) (fun hB=>by have:=b2k _ hB;omega)];exact p13.get Q12.ok g12'
 have Q14:Prs H4 H14:=Q13.fresh s14 (fun B hB=>by have:=b2k B hB;omega)
 obtain⟨H15,e15,g15,s15,n15⟩:=st_fld Q14.ok g3b (o:=2) (x:=w2') o14.row.isCell (by simp)
 have g15:H15.h.get A3=some (.cells [.bool true,w1',w2', .nilSlice] 133 1 false):=g15
 have Q15:Prs H4 H15:=Q14.fresh s15 (fun B hB=>by omega)
 have c15:allCells [.bool true,w1',w2', .nilSlice]=true:=by simp only[allCells,o11.row.isCell,o14.row.isCell];rfl
 obtain⟨Hz,ez,Pz,sz,lz⟩:=fin (l:=[.bool true,w1',w2', .nilSlice]) (P4.trans Q15) (up2 Q15) rfl c15
 have bw1: ∀B,Blk w1' B→A3<B∧(B<H6.next∨H10.next≤B):=fun B hB=>by
  rcases f11 B hB with h | h
  ·have:=b1k B h;omega
  ·omega
 have bw2: ∀B,Blk w2' B→A3<B:=fun B hB=>by
  rcases f14 B hB with h | h
  ·have:=b2k B h;omega
  ·omega
 have NN0:=P4.next
 have rz:NodeF H.next Hz (.agg [.bool true,w1',w2', .nilSlice]) ⟨true,nd.keys.take (whereN nd key)++[key]++nd.keys.drop (whereN nd key),nd.vals.take (whereN nd key)++[value]++nd.vals.drop (whereN nd key),[]⟩:=
  ⟨⟨w1',w2', .nilSlice,rfl,((((o11.mono s12 (fun B hB e=>by have:=bw1 B hB;omega)).mono p13 (fun _ _ x=>x)).mono s14 (fun B hB hB'=>by have:=bw1 B hB;have:=b2k B hB';omega)).mono s15 (fun B hB e=>by have:=bw1 B hB;omega)).mono sz (fun B hB e=>by have:=bw1 B hB;omega),
   (o14.mono s15 (fun B hB e=>by have:=bw2 B hB;omega)).mono sz (fun B hB e=>by have:=bw2 B hB;omega), .inl (Own.nil ..)⟩,fun B hB=>by
     rcases blkN_mk.1 hB with h | h | h
     ·have:=bw1 B h;omega
     ·have:=bw2 B h;omega
     ·exact(Blk.nil.1 h).elim⟩
 by_cases hlt:whereN nd key<nd.keys.length
 ·obtain⟨q,j1,j2⟩:=(q1 P9).row |> (fun(r:Strs H9 ks nd.keys)=>r.at hlt)
  rw[← getD_lt (d:=[])]at j2
  have hltI:((whereN nd key:Nat):Int)< ((nd.keys.length:Nat):Int):=by omega
  by_cases heq:nd.keys.getD (whereN nd key) []=key
  ·have hh:hereN nd key=true:=by simp only[hereN,heq,decide_true,Bool.and_true,decide_eq_true_eq];exact hlt
   rw[heq]at j2
   have t7':=(t7 (by omega)).mono s8 (fun B hB e=>by have:=f7 B hB;omega)
   obtain⟨p,H10,i1,i2,i3,i4⟩:=Own.set1 P9.ok (t7'.mono p9 (fun _ _ x=>x)) (i:=whereN nd key) (by omega) value
   have P10:Prs H H10:=P9.fresh i4 (fun B hB=>by have:=b2k B hB;have:=P5.next;omega)
   have g3':H10.h.get A3=some (.cells [.bool true,w1,w2, .nilSlice] 133 1 false):=by rw[i4.keep _ (by omega) (fun hB=>by have:=b2k _ hB;omega)];exact g39
   have g2':H10.h.get A2=some (.cells [.bool false, .nilSlice, .nilSlice, .nilSlice] 133 1 false):=by rw[i4.keep _ (by omega) (fun hB=>by have:=b2k _ hB;omega)];exact up2 p49
   obtain⟨Hy,ey,Py,sy,ly⟩:=fin (l:=[.bool true,w1,w2, .nilSlice]) P10 g2' rfl (by simp only[allCells,o6.row.isCell,o7.row.isCell];rfl)
   refine⟨.agg [.bool true,w1,w2, .nilSlice],Hy, ?_,Py, ?_⟩
   ·simp(config:= { maxSteps:=1000000}) (disch:=omega) only[f65,ev,lg,wnt_undef,ew,b1,b2,ldN_get g12,sub4,Option.map_some,e4,c1,ld1_get g14,mayKey_ok,c2,c3',b5,e6,chk_ok (ld1_get (up1 (p5.trans p6)) 2) (aveq_row h2.row),e7,bldN3 _ o6.row.isCell o7.row.isCell,e8',ldN_get (up1 p48),e9,ld1_get (up1 p49),hln,hltI,j1,j2,ld1_get g39,i1,i2,agg4 g3' rfl,ey,ly]
   ·have:putN nd key value=⟨true,nd.keys,nd.vals.set (whereN nd key) value,[]⟩:=by simp only[putN,hh,if_true]
    rw[this]
    have NN:=P4.next
    refine⟨⟨w1,w2, .nilSlice,rfl, ?_, ?_, .inl (Own.nil ..)⟩,fun B hB=>by
     rcases blkN_mk.1 hB with h | h | h
     ·have:=b1k B h;omega
     ·have:=b2k B h;omega
     ·exact(Blk.nil.1 h).elim⟩
    ·exact((k1.mono p9 (fun _ _ x=>x)).mono i4 (fun B hB hB'=>by have:=b1k B hB;have:=b2k B hB';omega)).mono sy (fun B hB e=>by have:=b1k B hB;omega)
    ·exact .inl (i3.mono sy (fun B hB e=>by have:=b2k B hB;omega))
  ·have hh:hereN nd key=false:=by simp only[hereN,heq,decide_false,Bool.and_false]
   refine⟨.agg [.bool true,w1',w2', .nilSlice],Hz, ?_,Pz, ?_⟩
   ·simp(config:= { maxSteps:=1000000}) (disch:=omega) only[f65,ev,lg,wnt_undef,ew,b1,b2,ldN_get g12,sub4,Option.map_some,e4,c1,ld1_get g14,mayKey_ok,c2,c3',b5,e6,chk_ok (ld1_get (up1 (p5.trans p6)) 2) (aveq_row h2.row),e7,bldN3 _ o6.row.isCell o7.row.isCell,e8',ldN_get (up1 p48),e9,ld1_get (up1 p49),hln,hltI,j1,j2,heq,ld1_get g39,row1 9 (.str 0 0) (S_cell key),b10,e11,e12,ld1_get g12',row1 9 (.str 0 0) (S_cell value),b13,e14,e15,agg4 g15 rfl,ez,lz]
   ·simp only[putN,hh,Bool.false_eq_true,if_false];exact rz
 ·have hh:hereN nd key=false:=by simp only[hereN,hlt,decide_false,Bool.false_and]
  have hltI: ¬((whereN nd key:Nat):Int)< ((nd.keys.length:Nat):Int):=by omega
  refine⟨.agg [.bool true,w1',w2', .nilSlice],Hz, ?_,Pz, ?_⟩
  ·simp(config:= { maxSteps:=1000000}) (disch:=omega) only[f65,ev,lg,wnt_undef,ew,b1,b2,ldN_get g12,sub4,Option.map_some,e4,c1,ld1_get g14,mayKey_ok,c2,c3',b5,e6,chk_ok (ld1_get (up1 (p5.trans p6)) 2) (aveq_row h2.row),e7,bldN3 _ o6.row.isCell o7.row.isCell,e8',ldN_get (up1 p48),e9,ld1_get (up1 p49),hln,hltI,ld1_get g39,row1 9 (.str 0 0) (S_cell key),b10,e11,e12,ld1_get g12',row1 9 (.str 0 0) (S_cell value),b13,e14,e15,agg4 g15 rfl,ez,lz]
  ·simp only[putN,hh,Bool.false_eq_true,if_false];exact rz
end Go.Eng.Sh
end
section
namespace Go.Eng.Sh
open Go.Nd (Ptr sumL whereN hereN delN)
theorem hi1 {H:AH}{v:AV}{l:List Str}(h:Grow 1 9 H v l.length (l.map S)){i:Nat}(hi:i≤l.length):
  ∃r,slSl 1 v none (some (.int .i64 (i:Nat))) (some (.int .i64 (i:Nat))) H=some r∧Strs H r (l.take i):=by
 obtain⟨r,e1,w,_⟩:=slSl_hi h (by decide) hi .i64 .i64
 rw[map_take]at w
 have hlen:(l.take i).length=i:=by rw[List.length_take];omega
 exact⟨r,e1,by rw[Strs,hlen];exact w⟩
theorem lo1 {H:AH}{v:AV}{l:List Str}(h:Grow 1 9 H v l.length (l.map S)){i:Nat}(hi:i≤l.length)(h0:0<l.length):
  ∃r,slSl 1 v (some (.int .i64 (i:Nat))) none none H=some r∧Strs H r (l.drop i):=by
 by_cases hlt:i<l.length
 ·obtain⟨r,e1,w,_⟩:=slSl_lo h (by decide) hlt .i64
  rw[map_drop]at w
  have hlen:(l.drop i).length=l.length - i:=by rw[List.length_drop]
  exact⟨r,e1,by rw[Strs,hlen];exact w⟩
 ·obtain rfl:i=l.length:=by omega
  obtain⟨r,e1,w⟩:=slSl_end h (by decide) h0 .i64
  exact⟨r,e1,by rw[List.drop_length];exact w⟩
def delE (nd:Nd.Node)(key:Str):Nat:=if Nd.shaped ltS nd&&nd.leaf then(if hereN nd key then 0 else 5)else 1
theorem delNd_ok (D:Dyn)(n:Nat)(hn:200000000≤n){H:AH}(hk:H.ok){v:AV}{nd:Nd.Node}{key:Str}(h:NodeG H v nd)(hs:small nd):
  ∃u H',f67 D n [v,S key] H=some (.tuple [u, .int .i64 ((delE nd key:Nat):Int)],H')∧Prs H H'∧NodeF H.next H' u (if delE nd key=0 then delN nd key else nd0):=by
 have i0:=h.node
 obtain⟨ks,vs,ps,rfl,h1,h2,h3⟩:=h
 have hkl:=Nd.sumL_ge nd.keys
 have hvl:=Nd.sumL_ge nd.vals
 have s0:=hs
 obtain⟨s1,s2,s3⟩:=hs
 obtain⟨la,hla⟩: ∃la,la=nd.leaf:=⟨_,rfl⟩
 obtain⟨po,hpo⟩: ∃po,po=delE nd key:=⟨_,rfl⟩
 rw[← hpo, ← hla]
 rw[← hla]at i0
 simp only[delE, ← hla]at hpo
 obtain⟨H1,A1,b1,p1,g1,m1,n1⟩:=box hk (.cells [.bool la,ks,vs,ps] 133 1 false)
 obtain⟨H2,A2,b2,p2,g2,m2,n2⟩:=box p1.ok (.cells [.bool false, .nilSlice, .nilSlice, .nilSlice] 133 1 false)
 have P2:Prs H H2:=p1.trans p2
 have g12:=p2.get p1.ok g1
 obtain⟨H4,e4,p4⟩:=shaped_ok D n P2.ok (i0.prs P2) s0 hn
 have P4:=P2.trans p4
 have g14:=p4.get P2.ok g12;have g24:=p4.get P2.ok g2
 have fin: ∀ {Hx:AH} {l:List AV},Prs H4 Hx→l.length=4→allCells l=true→ ∃Hy,stN 4 (.ptr A2 0) (.agg l) Hx=some (undefA,Hy)∧Prs H Hy∧Stp (fun B=>B=A2) Hx Hy∧ldN 4 (.ptr A2 0) Hy=some (.agg l):=fun {Hx l} px hl hc=>by
  obtain⟨Hy,e,g,s,_⟩:=st_all px.ok (Prs.get px P4.ok g24) hl hc
  have e':stN 4 (.ptr A2 0) (.agg l) Hx=some (undefA,Hy):=e
  exact⟨Hy,e',(P4.trans px).fresh s (fun B hB=>by omega),s,agg4 g hl⟩
 obtain⟨Hr,er,Pr,sr,lr⟩:=fin (Prs.refl P4.ok) (l:=[.bool false, .nilSlice, .nilSlice, .nilSlice]) rfl rfl
 cases c1:Nd.shaped ltS nd with
 | false=>
  simp only[c1,Bool.false_and,Bool.false_eq_true,if_false]at hpo
  subst hpo
  refine⟨.agg [.bool false, .nilSlice, .nilSlice, .nilSlice],Hr, ?_,Pr,NodeF.zero _ _⟩
  simp(config:= { maxSteps:=1000000}) (disch:=omega) only[f67,ev,lg,wnt_undef,ew,b1,b2,ldN_get g12,sub4,Option.map_some,e4,c1,bldN0,er,lr]
 | true=>
 cases la with
 | false=>
  simp only[Bool.and_false,Bool.false_eq_true,if_false]at hpo
  subst hpo
  refine⟨.agg [.bool false, .nilSlice, .nilSlice, .nilSlice],Hr, ?_,Pr,NodeF.zero _ _⟩
  simp(config:= { maxSteps:=1000000}) (disch:=omega) only[f67,ev,lg,wnt_undef,ew,b1,b2,ldN_get g12,sub4,Option.map_some,e4,c1,ld1_get g14,bldN0,er,lr]
 | true=>
 have hvk:nd.vals.length=nd.keys.length:=by
  simp only[Nd.shaped, ← hla,if_true,Bool.and_eq_true,decide_eq_true_eq]at c1;exact c1.2.1.1
 simp only[c1,Bool.and_self,if_true]at hpo
 obtain⟨H5,e5,p5⟩:=where_ok D n hn P4.ok (key:=key) (i0.prs P4) s0
 have P5:=P4.trans p5
 have g15:=p5.get P4.ok g14
 have hle:=Nd.whereN_le nd key
 have hln:=h1.row.lnSl
 obtain⟨Hs,es,Ps,ss,ls⟩:=fin p5 (l:=[.bool false, .nilSlice, .nilSlice, .nilSlice]) rfl rfl
 have q1 {Hx:AH} (p:Prs H Hx):Grow 1 9 Hx ks nd.keys.length (nd.keys.map S):=h1.mono p (fun _ _ x=>x)
 have q2 {Hx:AH} (p:Prs H Hx):Grow 1 9 Hx vs nd.vals.length (nd.vals.map S):=h2.mono p (fun _ _ x=>x)
 by_cases hlt:whereN nd key<nd.keys.length
 case neg=>
  have hh:hereN nd key=false:=by simp only[hereN,hlt,decide_false,Bool.false_and]
  have hltI:((nd.keys.length:Nat):Int)≤((whereN nd key:Nat):Int):=by omega
  simp only[hh,Bool.false_eq_true,if_false]at hpo
  subst hpo
  refine⟨.agg [.bool false, .nilSlice, .nilSlice, .nilSlice],Hs, ?_,Ps,NodeF.zero _ _⟩
  simp(config:= { maxSteps:=1000000}) (disch:=omega) only[f67,ev,lg,wnt_undef,ew,b1,b2,ldN_get g12,sub4,Option.map_some,e4,c1,ld1_get g14,ldN_get g14,e5,ld1_get g15,hln,hltI,bldN0,es,ls]
 case pos=>
 obtain⟨q,j1,j2⟩:=(q1 P5).row |> (fun(r:Strs H5 ks nd.keys)=>r.at hlt)
 rw[← getD_lt (d:=[])]at j2
 have hltI: ¬((nd.keys.length:Nat):Int)≤((whereN nd key:Nat):Int):=by omega
 by_cases heq:nd.keys.getD (whereN nd key) []=key
 case neg=>
  have hh:hereN nd key=false:=by simp only[hereN,heq,decide_false,Bool.and_false]
  simp only[hh,Bool.false_eq_true,if_false]at hpo
  subst hpo
  refine⟨.agg [.bool false, .nilSlice, .nilSlice, .nilSlice],Hs, ?_,Ps,NodeF.zero _ _⟩
  simp(config:= { maxSteps:=1000000}) (disch:=omega) only[f67,ev,lg,wnt_undef,ew,b1,b2,ldN_get g12,sub4,Option.map_some,e4,c1,ld1_get g14,ldN_get g14,e5,ld1_get g15,hln,hltI,j1,j2,ne_eq,heq,not_false_eq_true,bldN0,es,ls]
 case pos=>
 have hh:hereN nd key=true:=by simp only[hereN,heq,decide_true,Bool.and_true,decide_eq_true_eq];exact hlt
 simp only[hh,if_true]at hpo
 subst hpo
 generalize hw:whereN nd key=i at*
 obtain⟨r1,c1',x1⟩:=hi1 (q1 P5) (i:=i) (by omega)
 obtain⟨r2,c2',x2⟩:=lo1 (q1 P5) (i:=i+1) (by omega) (by omega)
 obtain⟨r3,c3',x3⟩:=hi1 (q2 P5) (i:=i) (by omega)
 obtain⟨r4,c4',x4⟩:=lo1 (q2 P5) (i:=i+1) (by omega) (by omega)
 obtain⟨H6,A6,b6,p6,g6,m6,n6⟩:=box P5.ok (.cells [r1,r2] 37 1 false)
 have P6:=P5.trans p6
 obtain⟨H7,A7,b7,p7,g7,m7,n7⟩:=box P6.ok (.cells [r3,r4] 37 1 false)
 have P7:=P6.trans p7
 have p57:Prs H5 H7:=p6.trans p7
 obtain⟨w8,H8,e8,p8,o8,f8⟩:=conS2 D n (cc:=4) P7.ok (p7.get P6.ok g6) (x1.prs p57) (x2.prs p57) (by simp only[List.length_take,List.length_drop];omega) (by omega)
 have P8:=P7.trans p8
 have p58:=p57.trans p8
 obtain⟨w9,H9,e9,p9,o9,f9⟩:=conS2 D n (cc:=4) P8.ok (p8.get P7.ok g7) (x3.prs p58) (x4.prs p58) (by simp only[List.length_take,List.length_drop];omega) (by omega)
 have p59:=p58.trans p9
 obtain⟨Hy,ey,Py,sy,ly⟩:=fin (p5.trans p59) (l:=[.bool true,w8,w9, .nilSlice]) rfl (by simp only[allCells,o8.row.isCell,o9.row.isCell];rfl)
 have N7:=p57.next;have N5:=p5.next;have N4:=p4.next;have N8:=p8.next
 simp only[Int.natCast_add]at c2' c4'
 have up {Hx:AH} (p:Prs H5 Hx):=Prs.get p P5.ok g15
 refine⟨.agg [.bool true,w8,w9, .nilSlice],Hy, ?_,Py, ?_⟩
 ·simp(config:= { maxSteps:=1000000}) (disch:=omega) only[f67,ev,lg,wnt_undef,ew,b1,b2,ldN_get g12,sub4,Option.map_some,e4,c1,ld1_get g14,ldN_get g14,e5,ld1_get g15,hln,hltI,j1,j2,ne_eq,heq,not_true_eq_false,c1',c2',row2 37 .nilSlice x1.isCell x2.isCell rfl,b6,ld1_get (up p6),slSl_same (q2 P5) (q2 P6) (by decide),c3',c4',row2 37 .nilSlice x3.isCell x4.isCell rfl,b7,e8,
   chk_ok (ld1_get (up p58) 2) (aveq_row h2.row),slSl_same (q2 P5) (q2 P8) (by decide),chk_ok rfl (aveq_row x3),chk_ok rfl (aveq_row x4),e9,bldN3 _ o8.row.isCell o9.row.isCell,ey,ly]
 ·simp only[if_true,delN,hw]
  have NN:=P7.next
  exact⟨⟨w8,w9, .nilSlice,rfl, .inl ((o8.mono p9 (fun _ _ x=>x)).mono sy (fun B hB e=>by have:=f8 B hB;omega)), .inl (o9.mono sy (fun B hB e=>by have:=f9 B hB;omega)), .inl (Own.nil ..)⟩,fun B hB=>by
   rcases blkN_mk.1 hB with h | h | h
   ·have:=f8 B h;omega
   ·have:=f9 B h;omega
   ·exact(Blk.nil.1 h).elim⟩
end Go.Eng.Sh
end
section
namespace Go.Bt
open Go.Nd (Str Kvs lookP putP delP Srt leafOf mayK rising sumL)
open Go.Eng (ltS ltS_irrefl ltS_trans ltS_tri ltS_asymm ltS_ne)
abbrev Bd:=Option Str
def lowB:Bd→Str→Prop
 | none,_=>True
 | some a,k=>a=k∨ltS a k=true
def lowS:Bd→Str→Prop
 | none,_=>True
 | some a,k=>ltS a k=true
def hiB:Bd→Str→Prop
 | none,_=>True
 | some b,k=>ltS k b=true
theorem lowS.low {b:Bd}{k:Str}(h:lowS b k):lowB b k:=by
 cases b with
 | none=>trivial
 | some a=>exact .inr h
theorem lt_of_le {a b c:Str}(h:a=b∨ltS a b=true)(k:ltS b c=true):ltS a c=true:=by
 rcases h with rfl | h
 ·exact k
 ·exact ltS_trans h k
theorem lt_of_lt_le {a b c:Str}(h:ltS a b=true)(k:b=c∨ltS b c=true):ltS a c=true:=by
 rcases k with rfl | k
 ·exact h
 ·exact ltS_trans h k
theorem le_trans {a b c:Str}(h:a=b∨ltS a b=true)(k:b=c∨ltS b c=true):a=c∨ltS a c=true:=by
 rcases k with rfl | k
 ·exact h
 ·exact .inr (lt_of_le h k)
theorem not_lt {a b:Str}(h: ¬ltS a b=true):b=a∨ltS b a=true:=by
 cases k:ltS b a with
 | true=>exact .inr rfl
 | false=>exact .inl (ltS_tri k (by simpa using h))
theorem lowB_lt {b:Bd}{k x:Str}(h:lowB b k)(hk:ltS k x=true):lowS b x:=by
 cases b with
 | none=>trivial
 | some a=>exact lt_of_le h hk
theorem lowS_le {b:Bd}{k x:Str}(h:lowS b k)(hk:k=x∨ltS k x=true):lowS b x:=by
 cases b with
 | none=>trivial
 | some a=>exact lt_of_lt_le h hk
theorem hiB_le {b:Bd}{k x:Str}(h:hiB b k)(hk:x=k∨ltS x k=true):hiB b x:=by
 cases b with
 | none=>trivial
 | some a=>exact lt_of_le hk h
def Tr:Nat→Type
 | 0=>Kvs
 | h+1=>List Str×List (Tr h)
def con:(h:Nat)→Tr h→Kvs
 | 0,l=>l
 | h+1,t=>t.2.flatMap (con h)
def KB {α:Type}(W:Bd→Bd→α→Prop):Bd→List Str→List α→Bd→Prop
 | lo,[],[t],hi=>W lo hi t
 | lo,k::ks,t::ts,hi=>W lo (some k) t∧KB W (some k) ks ts hi
 | _,_,_,_=>False
def loAt (lo:Bd)(ks:List Str):Nat→Bd
 | 0=>lo
 | i+1=>ks[i]?
def hiAt (ks:List Str)(hi:Bd)(i:Nat):Bd:=match ks[i]? with
 | some k=>some k
 | none=>hi
theorem loAt_cons (lo:Bd)(k:Str)(ks:List Str)(i:Nat):loAt lo (k::ks) (i+1)=loAt (some k) ks i:=by cases i<;>rfl
theorem hiAt_cons (hi:Bd)(k:Str)(ks:List Str)(i:Nat):hiAt (k::ks) hi (i+1)=hiAt ks hi i:=rfl
theorem KB.len {α:Type}{W:Bd→Bd→α→Prop} : ∀ {ks:List Str} {ts:List α} {lo hi:Bd},KB W lo ks ts hi→ts.length=ks.length+1
 | [],[],_,_,h=>h.elim
 | [],[_],_,_,_=>rfl
 | [],_::_::_,_,_,h=>h.elim
 | _::_,[],_,_,h=>h.elim
 | _::ks,_::ts,_,_,h=>by simp[KB.len h.2]
theorem KB.at {α:Type}{W:Bd→Bd→α→Prop} : ∀ {ks:List Str} {ts:List α} {lo hi:Bd} {i:Nat} {t:α},KB W lo ks ts hi→ts[i]? =some t→W (loAt lo ks i) (hiAt ks hi i) t
 | [],[],_,_,_,_,h,_=>h.elim
 | [],[a],_,_,0,t,h,ht=>by simp at ht;subst ht;exact h
 | [],[a],_,_,i+1,t,h,ht=>by simp at ht
 | [],_::_::_,_,_,_,_,h,_=>h.elim
 | _::_,[],_,_,_,_,h,_=>h.elim
 | k::ks,a::ts,_,_,0,t,h,ht=>by simp at ht;subst ht;exact h.1
 | k::ks,a::ts,_,_,i+1,t,h,ht=>by
  simp only[List.getElem?_cons_succ]at ht
  rw[loAt_cons,hiAt_cons]
  exact KB.at h.2 ht
theorem KB.mono {α:Type}{W W':Bd→Bd→α→Prop}(hW: ∀lo hi t,W lo hi t→W' lo hi t): ∀ {ks:List Str} {ts:List α} {lo hi:Bd},KB W lo ks ts hi→KB W' lo ks ts hi
 | [],[],_,_,h=>h.elim
 | [],[_],_,_,h=>hW _ _ _ h
 | [],_::_::_,_,_,h=>h.elim
 | _::_,[],_,_,h=>h.elim
 | _::ks,_::ts,_,_,h=>⟨hW _ _ _ h.1,KB.mono hW h.2⟩
theorem KB.app {α:Type}{W:Bd→Bd→α→Prop}{k:Str}{ks2:List Str}{ts2:List α}{hi:Bd}(h2:KB W (some k) ks2 ts2 hi): ∀ {ks:List Str} {ts:List α} {lo:Bd},KB W lo ks ts (some k)→KB W lo (ks++(k::ks2)) (ts++ts2) hi
 | [],[],_,h=>h.elim
 | [],[_],_,h=>⟨h,h2⟩
 | [],_::_::_,_,h=>h.elim
 | _::_,[],_,h=>h.elim
 | _::ks,_::ts,_,h=>⟨h.1,KB.app h2 h.2⟩
theorem KB.drop {α:Type}{W:Bd→Bd→α→Prop} : ∀ {ks:List Str} {ts:List α} {lo hi:Bd} {m:Nat} {k:Str},KB W lo ks ts hi→ks[m]? =some k→KB W (some k) (ks.drop (m+1)) (ts.drop (m+1)) hi
 | [],_,_,_,_,_,_,hk=>by simp at hk
 | _::_,[],_,_,_,_,h,_=>h.elim
 | a::ks,t::ts,_,_,0,k,h,hk=>by simp at hk;subst hk;exact h.2
 | a::ks,t::ts,_,_,m+1,k,h,hk=>by
  simp only[List.getElem?_cons_succ]at hk
  have:=KB.drop (m:=m) h.2 hk
  exact this
theorem KB.take {α:Type}{W:Bd→Bd→α→Prop} : ∀ {ks:List Str} {ts:List α} {lo hi:Bd} {m:Nat} {k:Str},KB W lo ks ts hi→ks[m]? =some k→KB W lo (ks.take m) (ts.take (m+1)) (some k)
 | [],_,_,_,_,_,_,hk=>by simp at hk
 | _::_,[],_,_,_,_,h,_=>h.elim
 | a::ks,t::ts,_,_,0,k,h,hk=>by simp at hk;subst hk;exact h.1
 | a::ks,t::ts,_,_,m+1,k,h,hk=>by
  simp only[List.getElem?_cons_succ]at hk
  exact⟨h.1,KB.take h.2 hk⟩
theorem KB.head {α:Type}{W:Bd→Bd→α→Prop}{ks:List Str}{ts:List α}{lo0 hi:Bd}{m:Nat}(h:KB W lo0 ks ts hi)(hm:m<ts.length): ∀ {ss:List Str} {ps:List α} {lo:Bd},KB W lo ss ps (hiAt ks hi m)→KB W lo (ss++ks.drop m) (ps++ts.drop (m+1)) hi
 | [],[],_,h=>h.elim
 | [],[p],lo,hp=>by
  have hl:=h.len
  simp only[hiAt]at hp
  cases hk:ks[m]? with
  | none=>
   rw[hk]at hp
   have:ks.length≤m:=by simpa using hk
   rw[List.drop_eq_nil_of_le this,List.drop_eq_nil_of_le (by omega)]
   exact hp
  | some k=>
   rw[hk]at hp
   obtain⟨hlt,rfl⟩:=List.getElem?_eq_some_iff.1 hk
   rw[List.drop_eq_getElem_cons hlt]
   exact⟨hp,h.drop hk⟩
 | [],_::_::_,_,h=>h.elim
 | _::_,[],_,h=>h.elim
 | _::ss,_::ps,_,hp=>⟨hp.1,KB.head h hm hp.2⟩
theorem KB.splice {α:Type}{W:Bd→Bd→α→Prop}{ss:List Str}{ps:List α} : ∀ {ks:List Str} {ts:List α} {lo hi:Bd} {i m:Nat},KB W lo ks ts hi→i+m<ts.length→KB W (loAt lo ks i) ss ps (hiAt ks hi (i+m))→KB W lo (ks.take i++ss++ks.drop (i+m)) (ts.take i++ps++ts.drop (i+m+1)) hi
 | ks,ts,lo,hi,0,m,h,hm,hp=>by
  simp only[Nat.zero_add,List.take_zero,List.nil_append]at hm hp⊢
  exact KB.head h hm (lo:=lo) hp
 | [],ts,_,_,i+1,m,h,hm,_=>by have:=h.len;simp only[List.length_nil]at this;omega
 | _::_,[],_,_,_+1,_,h,_,_=>h.elim
 | k::ks,t::ts,lo,hi,i+1,m,h,hm,hp=>by
  have e:i+1+m=i+m+1:=by omega
  rw[e,loAt_cons,hiAt_cons]at hp
  rw[e]
  simp only[List.length_cons]at hm
  have:=KB.splice (i:=i) (m:=m) h.2 (by omega) hp
  simp only[List.take_succ_cons,List.drop_succ_cons,List.cons_append]
  exact⟨h.1,this⟩
def Lf (lo hi:Bd)(l:Kvs):Prop:=Srt l∧ ∀p∈l,lowB lo p.1∧hiB hi p.1∧mayK p.1=true∧p.2.length≤200
def lsize (l:Kvs):Nat:=Nd.size (leafOf l)
def isize (ks:List Str)(n:Nat):Nat:=2+16*n+sumL ks
def Inn {α:Type}(W:Bd→Bd→α→Prop)(lo hi:Bd)(t:List Str×List α):Prop:=(∀k∈t.1,mayK k=true∧lowS lo k∧hiB hi k)∧rising ltS t.1=true∧KB W lo t.1 t.2 hi
def tsize:(h:Nat)→Tr h→Nat
 | 0,l=>lsize l
 | _+1,t=>isize t.1 t.2.length
def WF:(h:Nat)→Bd→Bd→Tr h→Prop
 | 0,lo,hi,l=>Lf lo hi l∧l≠[]∧lsize l≤500
 | h+1,lo,hi,t=>Inn (WF h) lo hi t∧t.1≠[]∧160≤isize t.1 t.2.length∧isize t.1 t.2.length≤500
def WR:(h:Nat)→Tr h→Prop
 | 0,l=>Lf none none l∧l≠[]∧lsize l≤500
 | h+1,t=>Inn (WF h) none none t∧t.1≠[]∧isize t.1 t.2.length≤500
def WX:(h:Nat)→Bd→Bd→Tr h→Prop
 | 0,lo,hi,l=>Lf lo hi l∧lsize l≤785
 | h+1,lo,hi,t=>Inn (WF h) lo hi t∧isize t.1 t.2.length≤785
theorem con_kb {h:Nat}(ih: ∀ {lo hi:Bd} {t:Tr h},WF h lo hi t→ ∀p∈con h t,lowB lo p.1∧hiB hi p.1): ∀ {ks:List Str} {ts:List (Tr h)} {lo hi:Bd},KB (WF h) lo ks ts hi→rising ltS ks=true→(∀k∈ks,lowS lo k∧hiB hi k)→ ∀p∈ts.flatMap (con h),lowB lo p.1∧hiB hi p.1
 | [],[],_,_,h,_,_=>h.elim
 | [],[t],lo,hi,hk,_,_=>fun p hp=>by
  simp only[List.flatMap_cons,List.flatMap_nil,List.append_nil]at hp
  exact ih hk p hp
 | [],_::_::_,_,_,h,_,_=>h.elim
 | _::_,[],_,_,h,_,_=>h.elim
 | k::ks,t::ts,lo,hi,hk,hr,hb=>fun p hp=>by
  have hkb:=hb k (List.mem_cons_self ..)
  rw[Nd.rising_cons]at hr
  simp only[List.flatMap_cons,List.mem_append]at hp
  rcases hp with hp | hp
  ·have:=ih hk.1 p hp
   exact⟨this.1,hiB_le hkb.2 (.inr this.2)⟩
  ·have:=con_kb ih hk.2 hr.2 (fun x hx=>⟨hr.1 x hx,(hb x (List.mem_cons_of_mem _ hx)).2⟩) p hp
   exact⟨(lowS_le hkb.1 this.1).low,this.2⟩
theorem con_bd: ∀(h:Nat) {lo hi:Bd} {t:Tr h},WF h lo hi t→ ∀p∈con h t,lowB lo p.1∧hiB hi p.1
 | 0,lo,hi,l,hw,p,hp=>⟨(hw.1.2 p hp).1,(hw.1.2 p hp).2.1⟩
 | h+1,lo,hi,t,hw,p,hp=>con_kb (con_bd h) hw.1.2.2 hw.1.2.1 (fun k hk=>(hw.1.1 k hk).2) p hp
theorem srt_app {a b:Kvs}(ha:Srt a)(hb:Srt b)(hab: ∀p∈a,∀q∈b,ltS p.1 q.1=true):Srt (a++b):=by
 induction a with
 | nil=>exact hb
 | cons p a ih=>
  obtain⟨k,v⟩:=p
  refine⟨fun q hq=> ?_,ih ha.2 fun p hp=>hab p (List.mem_cons_of_mem _ hp)⟩
  rcases List.mem_append.1 hq with hq | hq
  ·exact ha.1 q hq
  ·exact hab _ (List.mem_cons_self ..) q hq
end Go.Bt
end
section
namespace Go.Bt
open Go.Nd (Str Kvs lookP putP delP Srt leafOf mayK rising sumL)
open Go.Eng (ltS ltS_irrefl ltS_trans ltS_tri ltS_asymm ltS_ne)
theorem put_mid {k v:Str}{A C B:Kvs}(hA: ∀p∈A,ltS p.1 k=true)(hB: ∀p∈B,ltS k p.1=true):putP k v (A++C++B)=A++putP k v C++B:=by
 induction A with
 | nil=>
  simp only[List.nil_append]
  induction C with
  | nil=>
   cases B with
   | nil=>rfl
   | cons b B=>
    obtain⟨b,w⟩:=b
    have h:=hB (b,w) (List.mem_cons_self ..)
    simp only[List.nil_append,putP,List.cons_append]
    rw[if_neg (fun e=>ltS_ne h e.symm),if_neg (by rw[ltS_asymm h];simp)]
  | cons c C ih=>
   obtain⟨c,w⟩:=c
   simp only[List.cons_append,putP]
   split
   ·rfl
   ·split
    ·rw[ih];rfl
    ·rfl
 | cons a A ih=>
  obtain⟨a,w⟩:=a
  have h:=hA (a,w) (List.mem_cons_self ..)
  simp only[List.cons_append,putP]
  rw[if_neg (ltS_ne h),if_pos h,ih (fun p hp=>hA p (List.mem_cons_of_mem _ hp))]
theorem look_app {k:Str}{A B:Kvs} :lookP k (A++B)=match lookP k A with | some v=>some v | none=>lookP k B:=by
 induction A with
 | nil=>rfl
 | cons a A ih=>
  obtain⟨a,w⟩:=a
  simp only[List.cons_append,lookP]
  split
  ·rfl
  ·exact ih
theorem look_mid {k:Str}{A C B:Kvs}(hA: ∀p∈A,ltS p.1 k=true)(hB: ∀p∈B,ltS k p.1=true):lookP k (A++C++B)=lookP k C:=by
 rw[look_app,look_app,Nd.look_none (l:=A) (fun p hp=>ltS_ne (hA p hp)),Nd.look_none (l:=B) (fun p hp e=>ltS_ne (hB p hp) e.symm)]
 cases lookP k C<;>rfl
theorem del_none {k:Str}{l:Kvs}(h: ∀p∈l,p.1≠k):delP k l=l:=by
 induction l with
 | nil=>rfl
 | cons a l ih=>
  obtain⟨a,w⟩:=a
  rw[delP,if_neg (h (a,w) (List.mem_cons_self ..)),ih fun p hp=>h p (List.mem_cons_of_mem _ hp)]
theorem del_mid {k:Str}{A C B:Kvs}(hA: ∀p∈A,ltS p.1 k=true)(hB: ∀p∈B,ltS k p.1=true):delP k (A++C++B)=A++delP k C++B:=by
 induction A with
 | nil=>
  simp only[List.nil_append]
  induction C with
  | nil=>exact del_none fun p hp e=>ltS_ne (hB p hp) e.symm
  | cons c C ih=>
   obtain⟨c,w⟩:=c
   simp only[List.cons_append,delP]
   split
   ·rfl
   ·rw[ih];rfl
 | cons a A ih=>
  obtain⟨a,w⟩:=a
  have h:=hA (a,w) (List.mem_cons_self ..)
  simp only[List.cons_append,delP]
  rw[if_neg (ltS_ne h),ih (fun p hp=>hA p (List.mem_cons_of_mem _ hp))]
def whereI (ks:List Str)(key:Str):Nat:=(ks.filter fun k=>ltS k key||decide (k=key)).length
theorem whereI_le (ks:List Str)(key:Str):whereI ks key≤ks.length:=List.length_filter_le _ _
theorem whereI_cons {a key:Str}{ks:List Str}(h:rising ltS (a::ks)=true):whereI (a::ks) key=if ltS key a=true then 0 else whereI ks key+1:=by
 rw[Nd.rising_cons]at h
 by_cases hk:ltS key a=true
 ·rw[if_pos hk,whereI,List.length_eq_zero_iff,List.filter_eq_nil_iff]
  intro x hx hlt
  have hkx:ltS key x=true:=by
   rcases List.mem_cons.1 hx with rfl | hx
   ·exact hk
   ·exact ltS_trans hk (h.1 x hx)
  simp only[Bool.or_eq_true,decide_eq_true_eq]at hlt
  rcases hlt with hlt | rfl
  ·rw[ltS_asymm hlt]at hkx;cases hkx
  ·rw[ltS_irrefl]at hkx;cases hkx
 ·rw[if_neg hk,whereI,List.filter_cons]
  have:(ltS a key||decide (a=key))=true:=by
   simp only[Bool.or_eq_true,decide_eq_true_eq]
   rcases not_lt hk with e | e
   ·exact .inr e
   ·exact .inl e
  rw[this];rfl
theorem where_lo {key:Str} : ∀ {ks:List Str} {lo:Bd},rising ltS ks=true→lowB lo key→lowB (loAt lo ks (whereI ks key)) key
 | [],_,_,h=>h
 | a::ks,lo,hr,h=>by
  rw[whereI_cons hr]
  by_cases hk:ltS key a=true
  ·rw[if_pos hk];exact h
  ·rw[if_neg hk,loAt_cons]
   rw[Nd.rising_cons]at hr
   exact where_lo hr.2 (not_lt hk)
theorem where_hi {key:Str} : ∀ {ks:List Str} {hi:Bd},rising ltS ks=true→hiB hi key→hiB (hiAt ks hi (whereI ks key)) key
 | [],_,_,h=>h
 | a::ks,hi,hr,h=>by
  rw[whereI_cons hr]
  by_cases hk:ltS key a=true
  ·rw[if_pos hk];exact hk
  ·rw[if_neg hk,hiAt_cons]
   rw[Nd.rising_cons]at hr
   exact where_hi hr.2 h
theorem where_sides {h:Nat}{lo hi:Bd}{key:Str}{ks:List Str}{ts:List (Tr h)}(hw:Inn (WF h) lo hi (ks,ts)):
  (∀p∈(ts.take (whereI ks key)).flatMap (con h),ltS p.1 key=true)∧ ∀p∈(ts.drop (whereI ks key+1)).flatMap (con h),ltS key p.1=true:=by
 obtain⟨h1,h2,h3⟩:=hw
 simp only at h1 h2 h3
 have hle:=whereI_le ks key
 have hlen:=h3.len
 constructor
 ·have hl:=where_lo (lo:=none) h2 (key:=key) trivial
  cases hw:whereI ks key with
  | zero=>intro p hp;simp at hp
  | succ w=>
   rw[hw]at hl hle
   have hlt:w<ks.length:=by omega
   simp only[loAt,List.getElem?_eq_getElem hlt]at hl
   have hk:=h3.take (List.getElem?_eq_getElem hlt)
   have hr:rising ltS (ks.take w)=true:=Nd.rising_take h2 w
   intro p hp
   have hm: ∀x∈ks.take w,ltS x ks[w]=true:=fun x hx=>by
    obtain⟨j,hj,rfl⟩:=List.mem_iff_getElem.1 hx
    simp only[List.length_take]at hj
    rw[List.getElem_take]
    have hd:=Nd.rising_drop h2 j
    rw[List.drop_eq_getElem_cons (by omega),Nd.rising_cons]at hd
    refine hd.1 _ ?_
    rw[List.mem_iff_getElem]
    exact⟨w - (j+1),by simp;omega,by rw[List.getElem_drop];congr 1;omega⟩
   have:=con_kb (con_bd h) hk hr (fun x hx=>⟨(h1 x (List.mem_of_mem_take hx)).2.1,hm x hx⟩) p hp
   exact lt_of_lt_le this.2 hl
 ·have hh:=where_hi (hi:=none) h2 (key:=key) trivial
  intro p hp
  cases hk:ks[whereI ks key]? with
  | none=>
   have:ks.length≤whereI ks key:=by simpa using hk
   rw[List.drop_eq_nil_of_le (by omega)]at hp
   simp at hp
  | some k=>
   simp only[hiAt,hk]at hh
   obtain⟨hlt,rfl⟩:=List.getElem?_eq_some_iff.1 hk
   have hkb:=h3.drop hk
   have hd:=Nd.rising_drop h2 (whereI ks key)
   rw[List.drop_eq_getElem_cons hlt,Nd.rising_cons]at hd
   have:=con_kb (con_bd h) hkb hd.2 (fun x hx=>⟨hd.1 x hx,(h1 x (List.mem_of_mem_drop hx)).2.2⟩) p hp
   exact lt_of_lt_le hh this.1
theorem split_at {α:Type}{ts:List α}{i:Nat}{t:α}(h:ts[i]? =some t):ts=ts.take i++[t]++ts.drop (i+1):=by
 obtain⟨hi,rfl⟩:=List.getElem?_eq_some_iff.1 h
 rw[List.append_assoc,List.singleton_append, ← List.drop_eq_getElem_cons hi,List.take_append_drop]
theorem rising_app {a b:List Str} :rising ltS (a++b)=true↔rising ltS a=true∧rising ltS b=true∧ ∀x∈a,∀y∈b,ltS x y=true:=by
 induction a with
 | nil=>simp[rising]
 | cons c a ih=>
  rw[List.cons_append,Nd.rising_cons,Nd.rising_cons,ih]
  simp only[List.mem_append,List.mem_cons]
  constructor
  ·rintro⟨h1,h2,h3,h4⟩
   refine⟨⟨fun x hx=>h1 x (.inl hx),h2⟩,h3,fun x hx y hy=> ?_⟩
   rcases hx with rfl | hx
   ·exact h1 y (.inr hy)
   ·exact h4 x hx y hy
  ·rintro⟨⟨h1,h2⟩,h3,h4⟩
   exact⟨fun x hx=>hx.elim (h1 x) (h4 c (.inl rfl) x),h2,h3,fun x hx y hy=>h4 x (.inr hx) y hy⟩
theorem Inn.splice {α:Type}{W:Bd→Bd→α→Prop}{lo hi:Bd}{ks ss:List Str}{ts ps:List α}{i m:Nat}(h:Inn W lo hi (ks,ts))(hm:i+m<ts.length)(hp:Inn W (loAt lo ks i) (hiAt ks hi (i+m)) (ss,ps)):
  Inn W lo hi (ks.take i++ss++ks.drop (i+m),ts.take i++ps++ts.drop (i+m+1)):=by
 obtain⟨h1,h2,h3⟩:=h
 obtain⟨p1,p2,p3⟩:=hp
 simp only at h1 h2 h3 p1 p2 p3
 have hlen:=h3.len
 have hlo: ∀x∈ks.take i,∀y∈ss,ltS x y=true:=fun x hx y hy=>by
  have hy':=(p1 y hy).2.1
  cases i with
  | zero=>simp at hx
  | succ j=>
   have hj:j<ks.length:=by omega
   simp only[loAt,List.getElem?_eq_getElem hj]at hy'
   rw[List.take_succ_eq_append_getElem hj,List.mem_append,List.mem_singleton]at hx
   rcases hx with hx | rfl
   ·have:=Nd.rising_take h2 (j+1)
    rw[List.take_succ_eq_append_getElem hj,rising_app]at this
    exact ltS_trans (this.2.2 x hx _ (List.mem_singleton_self _)) hy'
   ·exact hy'
 have hhi: ∀y∈ss,∀z∈ks.drop (i+m),ltS y z=true:=fun y hy z hz=>by
  have hy':=(p1 y hy).2.2
  by_cases hj:i+m<ks.length
  ·simp only[hiAt,List.getElem?_eq_getElem hj]at hy'
   have hd:=Nd.rising_drop h2 (i+m)
   rw[List.drop_eq_getElem_cons hj]at hz hd
   rw[Nd.rising_cons]at hd
   rcases List.mem_cons.1 hz with rfl | hz
   ·exact hy'
   ·exact ltS_trans hy' (hd.1 z hz)
  ·rw[List.drop_eq_nil_of_le (by omega)]at hz;simp at hz
 have htd: ∀x∈ks.take i,∀z∈ks.drop (i+m),ltS x z=true:=fun x hx z hz=>by
  have:ks=ks.take (i+m)++ks.drop (i+m):=(List.take_append_drop _ _).symm
  rw[this,rising_app]at h2
  refine h2.2.2 x ?_ z hz
  have:ks.take i=(ks.take (i+m)).take i:=by rw[List.take_take,Nat.min_eq_left (by omega)]
  rw[this]at hx;exact List.mem_of_mem_take hx
 have wlo: ∀s,lowS (loAt lo ks i) s→lowS lo s:=fun s hs=>by
  cases i with
  | zero=>exact hs
  | succ j=>
   have hj:j<ks.length:=by omega
   simp only[loAt,List.getElem?_eq_getElem hj]at hs
   exact lowS_le (h1 _ (List.getElem_mem hj)).2.1 (.inr hs)
 have whi: ∀s,hiB (hiAt ks hi (i+m)) s→hiB hi s:=fun s hs=>by
  by_cases hj:i+m<ks.length
  ·simp only[hiAt,List.getElem?_eq_getElem hj]at hs
   exact hiB_le (h1 _ (List.getElem_mem hj)).2.2 (.inr hs)
  ·simp only[hiAt,List.getElem?_eq_none (show ks.length≤i+m by omega)]at hs
   exact hs
 refine⟨fun k hk=> ?_, ?_,KB.splice h3 hm p3⟩
 ·simp only[List.mem_append]at hk
  rcases hk with(hk | hk) | hk
  ·exact h1 k (List.mem_of_mem_take hk)
  ·exact⟨(p1 k hk).1,wlo k (p1 k hk).2.1,whi k (p1 k hk).2.2⟩
  ·exact h1 k (List.mem_of_mem_drop hk)
 ·rw[rising_app,rising_app]
  refine⟨⟨Nd.rising_take h2 i,p2,hlo⟩,Nd.rising_drop h2 _,fun x hx z hz=> ?_⟩
  rcases List.mem_append.1 hx with hx | hx
  ·exact htd x hx z hz
  ·exact hhi x hx z hz
def Gen:(h:Nat)→Bd→Bd→Tr h→Prop
 | 0,lo,hi,l=>Lf lo hi l
 | h+1,lo,hi,t=>Inn (WF h) lo hi t
def Full:(h:Nat)→Tr h→Prop
 | 0,l=>l≠[]
 | _+1,t=>160≤isize t.1 t.2.length
theorem WF.gen: ∀ {h:Nat} {lo hi:Bd} {t:Tr h},WF h lo hi t→Gen h lo hi t
 | 0,_,_,_,w=>w.1
 | _+1,_,_,_,w=>w.1
theorem WX.gen: ∀ {h:Nat} {lo hi:Bd} {t:Tr h},WX h lo hi t→Gen h lo hi t
 | 0,_,_,_,w=>w.1
 | _+1,_,_,_,w=>w.1
theorem WF.full: ∀ {h:Nat} {lo hi:Bd} {t:Tr h},WF h lo hi t→Full h t
 | 0,_,_,_,w=>w.2.1
 | _+1,_,_,_,w=>w.2.2.1
theorem WF.sz: ∀ {h:Nat} {lo hi:Bd} {t:Tr h},WF h lo hi t→tsize h t≤500
 | 0,_,_,_,w=>w.2.2
 | _+1,_,_,_,w=>w.2.2.2
theorem WX.sz: ∀ {h:Nat} {lo hi:Bd} {t:Tr h},WX h lo hi t→tsize h t≤785
 | 0,_,_,_,w=>w.2
 | _+1,_,_,_,w=>w.2
theorem Gen.wx: ∀ {h:Nat} {lo hi:Bd} {t:Tr h},Gen h lo hi t→tsize h t≤785→WX h lo hi t
 | 0,_,_,_,w,s=>⟨w,s⟩
 | _+1,_,_,_,w,s=>⟨w,s⟩
theorem Gen.wf: ∀ {h:Nat} {lo hi:Bd} {t:Tr h},Gen h lo hi t→Full h t→tsize h t≤500→WF h lo hi t
 | 0,_,_,_,w,f,s=>⟨w,f,s⟩
 | h+1,_,_,t,w,f,s=>⟨w,fun e=>by
  have hl:=w.2.2.len
  have f':160≤isize t.1 t.2.length:=f
  rw[hl,e]at f'
  simp[isize,sumL]at f',f,s⟩
def joinT:(h:Nat)→Tr h→Str→Tr h→Tr h
 | 0,a,_,b=>List.append a b
 | _+1,a,s,b=>(a.1++([s]++b.1),a.2++b.2)
theorem con_join: ∀(h:Nat) (a:Tr h) (s:Str) (b:Tr h),con h (joinT h a s b)=con h a++con h b
 | 0,_,_,_=>rfl
 | h+1,a,s,b=>by simp[con,joinT]
theorem lsize_app (a b:Kvs):lsize (a++b)+2=lsize a+lsize b:=by
 simp only[lsize,leafOf,Nd.size,List.map_append,Nd.sumL_append,List.length_nil];omega
theorem sumL_nil:sumL []=0:=rfl
theorem join_size (h:Nat)(a:Tr h)(s:Str)(b:Tr h)(hs:s.length≤40):tsize h (joinT h a s b)≤tsize h a+tsize h b+39∧tsize h b≤tsize h (joinT h a s b)∧tsize h a≤tsize h (joinT h a s b):=by
 cases h with
 | zero=>
  have key: ∀a b:Kvs,lsize (a++b)≤lsize a+lsize b+39∧lsize b≤lsize (a++b)∧lsize a≤lsize (a++b):=fun a b=>by
   have:=lsize_app a b
   have e1:2≤lsize a:=by simp only[lsize,Nd.size];omega
   have e2:2≤lsize b:=by simp only[lsize,Nd.size];omega
   omega
  exact key a b
 | succ h=>
  simp only[tsize,joinT,isize,List.length_append,Nd.sumL_append,Nd.sumL_cons,sumL_nil]
  omega
theorem join_gen {h:Nat}{lo hi:Bd}{s:Str}{a b:Tr h}(ha:Gen h lo (some s) a)(hb:Gen h (some s) hi b)(hs:mayK s=true∧lowS lo s∧hiB hi s):Gen h lo hi (joinT h a s b):=by
 cases h with
 | zero=>
  obtain⟨a1,a2⟩:=ha
  obtain⟨b1,b2⟩:=hb
  refine⟨srt_app a1 b1 fun p hp q hq=>lt_of_lt_le (a2 p hp).2.1 (b2 q hq).1,fun p hp=> ?_⟩
  rcases List.mem_append.1 hp with hp | hp
  ·exact⟨(a2 p hp).1,hiB_le hs.2.2 (.inr (a2 p hp).2.1),(a2 p hp).2.2⟩
  ·exact⟨(lowS_le hs.2.1 (b2 p hp).1).low,(b2 p hp).2.1,(b2 p hp).2.2⟩
 | succ h=>
  obtain⟨a1,a2,a3⟩:=ha
  obtain⟨b1,b2,b3⟩:=hb
  refine⟨fun k hk=> ?_, ?_,KB.app b3 a3⟩
  ·simp only[joinT,List.mem_append,List.mem_singleton]at hk
   rcases hk with hk | rfl | hk
   ·exact⟨(a1 k hk).1,(a1 k hk).2.1,hiB_le hs.2.2 (.inr (a1 k hk).2.2)⟩
   ·exact hs
   ·exact⟨(b1 k hk).1,lowS_le hs.2.1 (.inr (b1 k hk).2.1),(b1 k hk).2.2⟩
  ·simp only[joinT]
   rw[rising_app,List.singleton_append,Nd.rising_cons]
   refine⟨a2,⟨fun x hx=>(b1 x hx).2.1,b2⟩,fun x hx y hy=> ?_⟩
   rcases List.mem_cons.1 hy with rfl | hy
   ·exact(a1 x hx).2.2
   ·exact ltS_trans (a1 x hx).2.2 (b1 y hy).2.1
end Go.Bt
end
section
namespace Go.Bt
open Go.Nd (Str Kvs lookP putP delP Srt leafOf mayK rising sumL)
open Go.Eng (ltS ltS_irrefl ltS_trans ltS_tri ltS_asymm ltS_ne)
theorem srt_app_iff {a b:Kvs} :Srt (a++b)↔Srt a∧Srt b∧ ∀p∈a,∀q∈b,ltS p.1 q.1=true:=by
 induction a with
 | nil=>simp[Srt]
 | cons c a ih=>
  obtain⟨c,w⟩:=c
  rw[List.cons_append,Srt,Srt,ih]
  simp only[List.mem_append,List.mem_cons]
  constructor
  ·rintro⟨h1,h2,h3,h4⟩
   refine⟨⟨fun x hx=>h1 x (.inl hx),h2⟩,h3,fun x hx y hy=> ?_⟩
   rcases hx with rfl | hx
   ·exact h1 y (.inr hy)
   ·exact h4 x hx y hy
  ·rintro⟨⟨h1,h2⟩,h3,h4⟩
   exact⟨fun x hx=>hx.elim (h1 x) (h4 _ (.inl rfl) x),h2,h3,fun x hx y hy=>h4 x (.inr hx) y hy⟩
def psz:(h:Nat)→Tr h→Nat→Nat
 | 0,l,k=>lsize (List.take (α:=Str×Str) k l)
 | _+1,t,k=>isize (t.1.take k) (k+1)
def nkeys:(h:Nat)→Tr h→Nat
 | 0,l=>List.length (α:=Str×Str) l
 | _+1,t=>t.1.length
def HalfT (h:Nat)(t:Tr h)(k:Nat):Prop:=
 1≤k∧k+min (h+1) 2≤nkeys h t∧(k=1∨psz h t k≤(tsize h t - 2) / 2+2)∧(k+min (h+1) 2=nkeys h t∨(tsize h t - 2) / 2+2<psz h t (k+1))
def CutT:(h:Nat)→Tr h→Tr h→Str→Tr h→Prop
 | 0,l,a,s,b=> ∃k,HalfT 0 l k∧a=List.take (α:=Str×Str) k l∧s=(List.map Prod.fst (l:Kvs)).getD k []∧b=List.drop (α:=Str×Str) k l
 | h+1,t,a,s,b=> ∃k,HalfT (h+1) t k∧a=(t.1.take k,t.2.take (k+1))∧s=t.1.getD k []∧b=(t.1.drop (k+1),t.2.drop (k+1))
theorem lsize_cons (p:Str×Str)(l:Kvs):lsize (p::l)=lsize l+(2+p.1.length+p.2.length):=by
 simp only[lsize,leafOf,Nd.size,List.map_cons,Nd.sumL_cons,List.length_nil];omega
theorem lsize_nil:lsize []=2:=rfl
theorem elem_le {p:Str×Str}(h:mayK p.1=true∧p.2.length≤200):2+p.1.length+p.2.length≤242:=by
 obtain⟨h1,h2⟩:=h
 simp only[mayK,Bool.and_eq_true,decide_eq_true_eq]at h1;omega
theorem cut_leaf {lo hi:Bd}{l a b:Kvs}{s:Str}(hw:Lf lo hi l)(hs:lsize l≤785)(hb:500<lsize l)(hc:CutT 0 l a s b):
  Lf lo (some s) a∧Lf (some s) hi b∧(mayK s=true∧lowS lo s∧hiB hi s)∧a++b=l∧a≠[]∧b≠[]∧lsize a≤500∧lsize b≤lsize l - (lsize l - 2) / 2+241:=by
 obtain⟨k,⟨k1,k2,k3,k4⟩,rfl,rfl,rfl⟩:=hc
 simp only[nkeys,psz,tsize,Nat.zero_add,show min 1 2=1 from rfl]at k2 k3 k4
 have hk:k<l.length:=k2
 have e1:l.take k++l.drop k=l:=List.take_append_drop _ _
 obtain⟨w1,w2⟩:=hw
 have w1':=w1
 rw[← e1,srt_app_iff]at w1'
 obtain⟨sa,sb,sab⟩:=w1'
 have hd:l.drop k=l[k]::l.drop (k+1):=List.drop_eq_getElem_cons hk
 have hsk:(l.map Prod.fst).getD k []=(l[k]).1:=by
  rw[List.getD_eq_getElem?_getD,List.getElem?_map,List.getElem?_eq_getElem hk];rfl
 rw[hsk]
 have hm:l[k]∈l:=List.getElem_mem hk
 have h0:0<l.length:=by omega
 have hm0:l[0]∈l.take k:=by rw[List.mem_iff_getElem];exact⟨0,by simp;omega,by simp⟩
 have hlt0:ltS (l[0]).1 (l[k]).1=true:=sab _ hm0 _ (by rw[hd];exact List.mem_cons_self ..)
 have lsum:=lsize_app (l.take k) (l.drop k)
 rw[e1]at lsum
 have ek:=elem_le (w2 _ hm).2.2
 have tk1:lsize (l.take (k+1))=lsize (l.take k)+(2+(l[k]).1.length+(l[k]).2.length):=by
  rw[List.take_succ_eq_append_getElem hk]
  have:=lsize_app (l.take k) [l[k]]
  rw[lsize_cons,lsize_nil]at this;omega
 refine⟨⟨sa,fun p hp=> ?_⟩,⟨sb,fun p hp=> ?_⟩,⟨(w2 _ hm).2.2.1,lowB_lt (w2 _ (List.getElem_mem h0)).1 hlt0,(w2 _ hm).2.1⟩,e1, ?_, ?_, ?_, ?_⟩
 ·exact⟨(w2 p (List.mem_of_mem_take hp)).1,sab p hp _ (by rw[hd];exact List.mem_cons_self ..),(w2 p (List.mem_of_mem_take hp)).2.2⟩
 ·refine⟨?_,(w2 p (List.mem_of_mem_drop hp)).2⟩
  rw[hd]at hp sb
  rcases List.mem_cons.1 hp with rfl | hp
  ·exact .inl rfl
  ·exact .inr (sb.1 p hp)
 ·intro e;rw[e]at hm0;simp at hm0
 ·rw[hd];exact List.cons_ne_nil _ _
 ·rcases k3 with rfl | k3
  ·have hz:lsize (l.take 1)≤244:=by
    have:=elem_le (w2 _ (List.getElem_mem h0)).2.2
    match l,h0 with
    | p::l,_=>simp only[List.take_succ_cons,List.take_zero,lsize_cons,lsize_nil];simp only[List.getElem_cons_zero]at this;omega
   omega
  ·omega
 ·rcases k4 with k4 | k4
  ·have:l.drop (k+1)=[]:=List.drop_eq_nil_of_le (by omega)
   rw[hd,this,lsize_cons,lsize_nil];omega
  ·rw[tk1]at k4;omega
theorem sumL_take (ks:List Str){k:Nat}(h:k<ks.length):sumL (ks.take (k+1))=sumL (ks.take k)+(1+(ks[k]).length):=by
 rw[List.take_succ_eq_append_getElem h,Nd.sumL_append,Nd.sumL_cons,sumL_nil];omega
theorem key_le {s:Str}(h:mayK s=true):s.length≤40:=by
 simp only[mayK,Bool.and_eq_true,decide_eq_true_eq]at h;omega
theorem cut_inner {h:Nat}{lo hi:Bd}{t a b:Tr (h+1)}{s:Str}(hw:Inn (WF h) lo hi t)(hs:isize t.1 t.2.length≤785)(hb:500<isize t.1 t.2.length)(hc:CutT (h+1) t a s b):
  Inn (WF h) lo (some s) a∧Inn (WF h) (some s) hi b∧(mayK s=true∧lowS lo s∧hiB hi s)∧con (h+1) a++con (h+1) b=con (h+1) t∧160≤isize a.1 a.2.length∧160≤isize b.1 b.2.length∧isize a.1 a.2.length≤500∧isize b.1 b.2.length≤500∧isize b.1 b.2.length≤isize t.1 t.2.length - (isize t.1 t.2.length - 2) / 2+57:=by
 obtain⟨k,⟨k1,k2,k3,k4⟩,rfl,rfl,rfl⟩:=hc
 obtain⟨ks,ts⟩:=t
 obtain⟨w1,w2,w3⟩:=hw
 have hm2:min (h+1+1) 2=2:=by omega
 simp only[nkeys,psz,tsize,hm2]at k2 k3 k4 w1 w2 w3 hs hb⊢
 have hk:k<ks.length:=by omega
 have hlen:=w3.len
 have hsk:ks.getD k []=ks[k]:=by rw[List.getD_eq_getElem?_getD,List.getElem?_eq_getElem hk];rfl
 rw[hsk]
 have hg:=List.getElem?_eq_getElem hk
 have hm:ks[k]∈ks:=List.getElem_mem hk
 have e1:ks.take k++ks[k]::ks.drop (k+1)=ks:=by rw[← List.drop_eq_getElem_cons hk,List.take_append_drop]
 have hr:=w2
 rw[← e1,rising_app,Nd.rising_cons]at hr
 obtain⟨ra,⟨rb,rb'⟩,rab⟩:=hr
 have hsum:sumL ks=sumL (ks.take k)+(1+(ks[k]).length+sumL (ks.drop (k+1))):=by
  conv=>lhs;rw[← e1]
  rw[Nd.sumL_append,Nd.sumL_cons]
 have ek:=key_le (w1 _ hm).1
 have tk:=sumL_take ks hk
 have l1:(ts.take (k+1)).length=k+1:=by rw[List.length_take];omega
 have l2:(ts.drop (k+1)).length=ks.length - k:=by rw[List.length_drop];omega
 rw[l1,l2]
 have hk1:k+1<ks.length:=by omega
 have ek1:=key_le (w1 _ (List.getElem_mem hk1)).1
 have hdr:sumL (ks.drop (k+1))=1+(ks[k+1]).length+sumL (ks.drop (k+2)):=by rw[List.drop_eq_getElem_cons hk1,Nd.sumL_cons]
 have hone:k=1→sumL (ks.take k)≤41:=fun e=>by
  subst e
  have:=sumL_take ks (k:=0) (by omega)
  have e0:=key_le (w1 _ (List.getElem_mem (show 0<ks.length by omega))).1
  rw[this];simp only[List.take_zero,sumL_nil];omega
 have hlast:k+2=ks.length→sumL (ks.drop (k+2))=0:=fun e=>by rw[e,List.drop_length];rfl
 simp only[isize]at k3 k4 hs hb⊢
 rw[tk]at k4
 rw[hlen]at hs hb k3 k4
 refine⟨⟨fun x hx=>⟨(w1 x (List.mem_of_mem_take hx)).1,(w1 x (List.mem_of_mem_take hx)).2.1,rab x hx _ (List.mem_cons_self ..)⟩,ra,w3.take hg⟩,⟨fun x hx=>⟨(w1 x (List.mem_of_mem_drop hx)).1,rb x hx,(w1 x (List.mem_of_mem_drop hx)).2.2⟩,rb',w3.drop hg⟩,w1 _ hm, ?_, ?_, ?_, ?_, ?_, ?_⟩
 ·simp only[con, ← List.flatMap_append,List.take_append_drop]
 ·rcases k4 with k4 | k4
  ·have:=hlast k4;omega
  ·omega
 ·rcases k3 with rfl | k3
  ·have:=hone rfl;omega
  ·omega
 ·rcases k3 with rfl | k3
  ·have:=hone rfl;omega
  ·omega
 ·rcases k4 with k4 | k4
  ·have:=hlast k4;omega
  ·omega
 ·rcases k4 with k4 | k4
  ·have:=hlast k4;omega
  ·omega
inductive Cuts (h:Nat):Tr h→List (Tr h)→List Str→Prop
 | one {t:Tr h} :tsize h t≤500→Cuts h t [t] []
 | more {t a b:Tr h} {s:Str} {ps:List (Tr h)} {ss:List Str} :500<tsize h t→CutT h t a s b→Cuts h b ps ss→Cuts h t (a::ps) (s::ss)
theorem cut_any {h:Nat}{lo hi:Bd}{t a b:Tr h}{s:Str}(hw:WX h lo hi t)(hb:500<tsize h t)(hc:CutT h t a s b):
  WF h lo (some s) a∧WX h (some s) hi b∧Full h b∧(mayK s=true∧lowS lo s∧hiB hi s)∧con h a++con h b=con h t∧tsize h b≤tsize h t - (tsize h t - 2) / 2+241:=by
 cases h with
 | zero=>
  obtain⟨a1,b1,hs,e,na,nb,za,zb⟩:=cut_leaf hw.1 hw.2 hb hc
  have hz:=hw.2
  simp only[tsize]at hb⊢
  exact⟨⟨a1,na,za⟩,⟨b1,by omega⟩,nb,hs,e,zb⟩
 | succ h=>
  obtain⟨a1,b1,hs,e,na,nb,za,_,zb⟩:=cut_inner hw.1 hw.2 hb hc
  have hz:=hw.2
  simp only[tsize]at hb⊢
  exact⟨Gen.wf (h:=h+1) a1 na za,⟨b1,by omega⟩,nb,hs,e,by omega⟩
theorem cuts_ok {h:Nat}{t:Tr h}{ps:List (Tr h)}{ss:List Str}(hc:Cuts h t ps ss): ∀ {lo hi:Bd},WX h lo hi t→(Full h t∨500<tsize h t)→
  Inn (WF h) lo hi (ss,ps)∧ps.flatMap (con h)=con h t∧ps.length≤6∧(tsize h t≤635→ps.length≤5)∧(tsize h t≤560→ps.length≤4)∧(tsize h t≤522→ps.length≤3)∧(tsize h t≤503→ps.length≤2)∧(tsize h t≤500→ps.length≤1):=by
 induction hc with
 | one hs=>
  intro lo hi hw hf
  rcases hf with hf | hf
  ·refine⟨⟨by simp,rfl,hw.gen.wf hf hs⟩,by simp,by simp, ?_⟩
   simp
  ·omega
 | @more t a b s ps ss hb hc _ ih=>
  intro lo hi hw _
  obtain⟨wa,wb,fb,hs,e,z⟩:=cut_any hw hb hc
  obtain⟨⟨i1,i2,i3⟩,i4,i5⟩:=ih wb (.inl fb)
  have hz:=hw.sz
  simp only at i1 i2 i3
  refine⟨⟨fun k hk=> ?_, ?_,wa,i3⟩, ?_, ?_⟩
  ·rcases List.mem_cons.1 hk with rfl | hk
   ·exact hs
   ·exact⟨(i1 k hk).1,lowS_le hs.2.1 (.inr (i1 k hk).2.1),(i1 k hk).2.2⟩
  ·rw[Nd.rising_cons];exact⟨fun x hx=>(i1 x hx).2.1,i2⟩
  ·rw[List.flatMap_cons,i4,e]
  ·simp only[List.length_cons]
   omega
theorem sumL_bound {ks:List Str}(h: ∀k∈ks,mayK k=true):sumL ks≤41*ks.length:=by
 induction ks with
 | nil=>simp[sumL]
 | cons k ks ih=>
  have:=key_le (h k (List.mem_cons_self ..))
  have:=ih fun x hx=>h x (List.mem_cons_of_mem _ hx)
  rw[Nd.sumL_cons,List.length_cons];omega
theorem place_ok {h:Nat}{lo hi:Bd}{ks ss:List Str}{ts ps:List (Tr h)}{i m:Nat}{x:Tr h}(hw:Inn (WF h) lo hi (ks,ts))(hm:i+m<ts.length)(hx:WX h (loAt lo ks i) (hiAt ks hi (i+m)) x)(hf:Full h x)(hc:Cuts h x ps ss):
  Inn (WF h) lo hi (ks.take i++ss++ks.drop (i+m),ts.take i++ps++ts.drop (i+m+1))∧
  con (h+1) (ks.take i++ss++ks.drop (i+m),ts.take i++ps++ts.drop (i+m+1))=(ts.take i).flatMap (con h)++con h x++(ts.drop (i+m+1)).flatMap (con h)∧
  isize (ks.take i++ss++ks.drop (i+m)) (ts.take i++ps++ts.drop (i+m+1)).length≤isize ks ts.length+285∧ks.length≤(ks.take i++ss++ks.drop (i+m)).length+m:=by
 obtain⟨c1,c2,c3,_⟩:=cuts_ok hc hx (.inl hf)
 have l1:=hw.2.2.len
 have l2:=c1.2.2.len
 simp only at l1 l2
 refine⟨hw.splice hm c1, ?_, ?_, ?_⟩
 ·simp only[con,List.flatMap_append,c2]
 ·have hs:=sumL_bound fun k hk=>(c1.1 k hk).1
  simp only at hs
  have e:sumL (ks.take i)+sumL (ks.drop (i+m))≤sumL ks:=by
   have a1:sumL ks=sumL (ks.take i)+sumL (ks.drop i):=by rw[← Nd.sumL_append,List.take_append_drop]
   have a2:sumL (ks.drop i)=sumL ((ks.drop i).take m)+sumL (ks.drop (i+m)):=by rw[← List.drop_drop, ← Nd.sumL_append,List.take_append_drop]
   omega
  simp only[isize,List.length_append,List.length_take,List.length_drop,Nd.sumL_append]
  omega
 ·simp only[List.length_append,List.length_take,List.length_drop];omega
theorem full_join {h:Nat}{a b:Tr h}{s:Str}(hs:s.length≤40)(hf:Full h a∨Full h b):Full h (joinT h a s b):=by
 cases h with
 | zero=>
  intro e
  have e:List.append (α:=Str×Str) a b=[]:=e
  rcases hf with hf | hf
  ·exact hf (List.append_eq_nil_iff.1 e).1
  ·exact hf (List.append_eq_nil_iff.1 e).2
 | succ h=>
  have:=join_size (h+1) a s b hs
  simp only[tsize]at this
  show 160≤isize _ _
  rcases hf with hf | hf
  ·have hf:160≤isize a.1 a.2.length:=hf
   omega
  ·have hf:160≤isize b.1 b.2.length:=hf
   omega
theorem many_keys {h:Nat}{lo hi:Bd}{t:Tr (h+1)}(hw:WF (h+1) lo hi t):3≤t.1.length:=by
 obtain⟨⟨w1,_,w3⟩,_,hz,_⟩:=hw
 have hl:=w3.len
 have:=sumL_bound fun k hk=>(w1 k hk).1
 simp only[isize]at hz
 omega
theorem leaf_put {lo hi:Bd}{l:Kvs}{k v:Str}(hw:Lf lo hi l)(hl:lowB lo k)(hh:hiB hi k)(hk:mayK k=true)(hv:v.length≤200):Lf lo hi (putP k v l)∧lsize (putP k v l)≤lsize l+242:=by
 refine⟨⟨Nd.srt_put _ _ hw.1,fun p hp=> ?_⟩, ?_⟩
 ·rcases Nd.mem_put hp with rfl | hp
  ·exact⟨hl,hh,hk,hv⟩
  ·exact hw.2 p hp
 ·have he:=elem_le (p:=(k,v)) ⟨hk,hv⟩
  simp only at he
  clear hw
  induction l with
  | nil=>simp only[putP,lsize_cons,lsize_nil];omega
  | cons a l ih=>
   obtain⟨a,b⟩:=a
   simp only[putP]
   split
   ·simp only[lsize_cons];omega
   ·split
    ·simp only[lsize_cons];omega
    ·simp only[lsize_cons];omega
theorem leaf_del {lo hi:Bd}{l:Kvs}(k:Str)(hw:Lf lo hi l):Lf lo hi (delP k l)∧lsize (delP k l)≤lsize l:=by
 refine⟨⟨Nd.srt_del _ hw.1,fun p hp=>hw.2 p (Nd.mem_del hp)⟩, ?_⟩
 clear hw
 induction l with
 | nil=>exact Nat.le_refl _
 | cons a l ih=>
  obtain⟨a,b⟩:=a
  simp only[delP]
  split
  ·simp only[lsize_cons];omega
  ·simp only[lsize_cons];omega
end Go.Bt
end
section
namespace Go.Eng
theorem aveqU (s t:Nat):aveq (.int .u64 (s:Nat)) (.int .u64 (t:Nat))=decide (s=t):=by
 have:keq .u64 .u64=true:=by rw[keq_eq];simp
 simp only[aveq,this,Bool.true_and,ieq_eq]
 rw[Bool.eq_iff_iff];simp only[decide_eq_true_eq,beq_iff_eq];exact Int.ofNat_inj
theorem keyU (s:Nat):keyOk [10] (.int .u64 (s:Nat))=true:=rfl
theorem cq:(∀A o,cmpO .eql (eqP (.ptr A o) .nilPtr)=some (.bool false))∧cmpO .eql (eqP .nilPtr .nilPtr)=some (.bool true)∧(∀M,cmpO .eql (eqM (.map M) .nilMap)=some (.bool false))∧(∀A o,cmpO .neq (eqP (.ptr A o) .nilPtr)=some (.bool true))∧cmpO .neq (eqP .nilPtr .nilPtr)=some (.bool false):=
 ⟨fun _ _=>rfl,rfl,fun _=>rfl,fun _ _=>rfl,rfl⟩
end Go.Eng
namespace Go.Eng.Sh
open Go.Nd (Ptr sumL)
abbrev PN:=List (Nat×Nd.Node)
def lookN (s:Nat):PN→Option Nd.Node
 | []=>none
 | (a,n)::l=>if a=s then some n else lookN s l
def cutN (s:Nat):PN→PN
 | []=>[]
 | (a,n)::l=>if a=s then l else(a,n)::cutN s l
def Pend (H:AH):List (AV×AV)→PN→Prop
 | [],[]=>True
 | (k,v)::es,(s,nd)::q=>(k= .int .u64 (s:Nat)∧NodeG H v nd)∧Pend H es q
 | _,_=>False
theorem Pend.len {H:AH} : ∀ {es:List (AV×AV)} {q:PN},Pend H es q→es.length=q.length
 | [],[],_=>rfl
 | _::es,_::q,h=>by simp[Pend.len h.2]
 | [],_::_,h=>h.elim
 | _::_,[],h=>h.elim
theorem Pend.find {H:AH}(s:Nat): ∀ {es:List (AV×AV)} {q:PN},Pend H es q→(∀nd,lookN s q=some nd→ ∃v,findA (.int .u64 (s:Nat)) es=some v∧NodeG H v nd∧ ∃k,(k,v)∈es)∧(lookN s q=none→findA (.int .u64 (s:Nat)) es=none)
 | [],[],_=>⟨fun nd h=>(by cases h),fun _=>rfl⟩
 | (k,v)::es,(t,nd)::q,h=>by
  obtain⟨⟨rfl,h1⟩,h2⟩:=h
  obtain⟨i1,i2⟩:=Pend.find s h2
  simp only[lookN,findA,aveqU]
  by_cases e:t=s
  ·subst e
   refine⟨fun nd' h=> ?_,fun h=>by simp at h⟩
   simp only[if_true,Option.some.injEq]at h;subst h
   exact⟨v,by simp,h1,_,List.mem_cons_self ..⟩
  ·have e': ¬s=t:=fun h=>e h.symm
   refine⟨fun nd' h=> ?_,fun h=> ?_⟩
   ·rw[if_neg e]at h
    obtain⟨v',j1,j2,k,j3⟩:=i1 nd' h
    exact⟨v',by simp[e',j1],j2,k,List.mem_cons_of_mem _ j3⟩
   ·rw[if_neg e]at h
    simp[e',i2 h]
 | [],_::_,h=>h.elim
 | _::_,[],h=>h.elim
theorem Pend.frame {H H':AH} : ∀ {es:List (AV×AV)} {q:PN},Pend H es q→(∀kv∈es,∀nd,NodeG H kv.2 nd→NodeG H' kv.2 nd)→Pend H' es q
 | [],[],_,_=>trivial
 | (k,v)::es,(s,nd)::q,h,hf=>⟨⟨h.1.1,hf (k,v) (List.mem_cons_self ..) nd h.1.2⟩,Pend.frame h.2 fun kv hkv=>hf kv (List.mem_cons_of_mem _ hkv)⟩
 | [],_::_,h,_=>h.elim
 | _::_,[],h,_=>h.elim
theorem Pend.snoc {H:AH}{v:AV}{s:Nat}{nd:Nd.Node}(hv:NodeG H v nd): ∀ {es:List (AV×AV)} {q:PN},Pend H es q→Pend H (es++[(.int .u64 (s:Nat),v)]) (q++[(s,nd)])
 | [],[],_=>⟨⟨rfl,hv⟩,trivial⟩
 | _::es,_::q,h=>⟨h.1,Pend.snoc hv h.2⟩
 | [],_::_,h=>h.elim
 | _::_,[],h=>h.elim
theorem lookN_app (s:Nat): ∀(a b:PN),lookN s (a++b)=match lookN s a with | some n=>some n | none=>lookN s b
 | [],_=>rfl
 | (t,n)::a,b=>by
  simp only[List.cons_append,lookN]
  split
  ·rfl
  ·exact lookN_app s a b
theorem setA_none {k v:AV} : ∀ {es:List (AV×AV)},findA k es=none→setA k v es=none
 | [],_=>rfl
 | (a,b)::es,h=>by
  simp only[findA]at h
  simp only[setA]
  cases e:aveq k a with
  | true=>rw[e]at h;cases h
  | false=>rw[e]at h;simp only[cond_false]at h⊢;rw[setA_none h]
theorem Pend.del {H:AH}(s:Nat): ∀ {es:List (AV×AV)} {q:PN},Pend H es q→(∀nd,lookN s q=some nd→ ∃es',delA (.int .u64 (s:Nat)) es=some es'∧Pend H es' (cutN s q)∧ ∀kv∈es',kv∈es)
 | [],[],_=>fun nd h=>by cases h
 | (k,v)::es,(t,nd)::q,h=>by
  obtain⟨⟨rfl,h1⟩,h2⟩:=h
  have ih:=Pend.del s h2
  simp only[lookN,delA,aveqU,cutN]
  by_cases e:t=s
  ·subst e
   intro nd' _
   exact⟨es,by simp,by simpa using h2,fun kv hkv=>List.mem_cons_of_mem _ hkv⟩
  ·have e': ¬s=t:=fun h=>e h.symm
   intro nd' h
   rw[if_neg e]at h
   obtain⟨es',j1,j2,j3⟩:=ih nd' h
   refine⟨(.int .u64 (t:Nat),v)::es',by simp[e',j1], ?_,fun kv hkv=> ?_⟩
   ·rw[if_neg e];exact⟨⟨rfl,h1⟩,j2⟩
   ·rcases List.mem_cons.1 hkv with rfl | hkv
    ·exact List.mem_cons_self ..
    ·exact List.mem_cons_of_mem _ (j3 kv hkv)
 | [],_::_,h=>h.elim
 | _::_,[],h=>h.elim
def NoRow (o:AObj):Prop:=(∃x r e g,o= .cells (x::r) e 1 g∧ ∀l b,x≠ .str l b)∨(∃ks es,o= .map ks es)∨ ∃l e k g,o= .cells l e k g∧k≠1∧k≠3
theorem Grow.nsep {k e n:Nat}{H:AH}{v:AV}{l:List AV}(h:Grow k e H v n l){A:Nat}{o:AObj}(hA:H.h.get A=some o)(ho: ∀e' g,o≠ .cells l e' k g): ¬Blk v A:=by
 intro hb
 rcases h with⟨_,⟨rfl,_⟩ | ⟨B,rfl,_,hg⟩⟩ | ⟨_,B,e',g,rfl,_,hg⟩
 ·exact Blk.nil.1 hb
 ·rw[Blk.slice.1 hb]at hA;rw[hg]at hA;exact ho _ _ (Option.some.inj hA).symm
 ·rw[Blk.slice.1 hb]at hA;rw[hg]at hA;exact ho _ _ (Option.some.inj hA).symm
theorem NodeG.nblk {H:AH}{v:AV}{nd:Nd.Node}{A:Nat}{o:AObj}(h:NodeG H v nd)(hA:H.h.get A=some o)(ho:NoRow o): ¬blkN v A:=by
 obtain⟨ks,vs,ps,rfl,h1,h2,h3⟩:=h
 have hS: ∀(l:List Str),∀e' g,o≠ .cells (l.map S) e' 1 g:=fun l e' g e=>by
  rcases ho with⟨x,r,e2,g2,rfl,hx⟩ | ⟨_,_,rfl⟩ | ⟨_,_,_,_,rfl,k1,k3⟩
  ·simp only[AObj.cells.injEq]at e
   cases l with
   | nil=>simp at e
   | cons y l=>
    simp only[List.map_cons,List.cons.injEq]at e
    exact hx _ _ e.1.1
  ·cases e
  ·simp only[AObj.cells.injEq]at e;omega
 have hP: ∀e' g,o≠ .cells (nd.kids.flatMap ptrV) e' 3 g:=fun e' g e=>by
  rcases ho with⟨x,r,e2,g2,rfl,_⟩ | ⟨_,_,rfl⟩ | ⟨_,_,_,_,rfl,k1,k3⟩
  ·simp only[AObj.cells.injEq]at e;omega
  ·cases e
  ·simp only[AObj.cells.injEq]at e;omega
 intro hb
 rcases blkN_mk.1 hb with h | h | h
 ·exact Grow.nsep h1 hA (hS _) h
 ·exact Grow.nsep h2 hA (hS _) h
 ·exact Grow.nsep h3 hA hP h
theorem NodeG.stp {S:Nat→Prop}{H H':AH}{v:AV}{nd:Nd.Node}(h:NodeG H v nd)(s:Stp S H H')(hS: ∀A,blkN v A→ ¬S A):NodeG H' v nd:=by
 obtain⟨ks,vs,ps,rfl,h1,h2,h3⟩:=h
 exact⟨ks,vs,ps,rfl,h1.mono s (fun A hA=>hS A (blkN_mk.2 (.inl hA))),h2.mono s (fun A hA=>hS A (blkN_mk.2 (.inr (.inl hA)))),h3.mono s (fun A hA=>hS A (blkN_mk.2 (.inr (.inr hA))))⟩
theorem NodeG.lt {H:AH}{v:AV}{nd:Nd.Node}(h:NodeG H v nd){B:Nat}(hB:blkN v B):B<H.next:=by
 obtain⟨ks,vs,ps,rfl,h1,h2,h3⟩:=h
 rcases blkN_mk.1 hB with h | h | h
 ·exact h1.lt h
 ·exact h2.lt h
 ·exact h3.lt h
def treeC (d c:AV)(root:Ptr)(M last:Nat)(dr:AV):List AV:=[d,c, .int .i64 root.at_, .int .i64 root.birth, .int .u64 root.sum, .map M, .int .u64 (last:Nat),dr]
structure TI (H:AH)(At M:Nat)(d c:AV)(root:Ptr)(es:List (AV×AV))(q:PN)(last:Nat)(dr:AV):Prop where
 ok:H.ok
 gT:H.h.get At=some (.cells (treeC d c root M last dr) 141 1 false)
 gM:H.h.get M=some (.map [10] es)
 pq:Pend H es q
 hd: ∃A o,d= .ptr A o
 few:q.length≤1000000000
theorem TI.prs {H H':AH}{At M last:Nat}{d c dr:AV}{root:Ptr}{es:List (AV×AV)}{q:PN}(h:TI H At M d c root es q last dr)(s:Prs H H'):TI H' At M d c root es q last dr:=
 ⟨s.ok,Prs.get s h.ok h.gT,Prs.get s h.ok h.gM,h.pq.frame fun kv _ nd hn=>hn.prs s,h.hd,h.few⟩
theorem none_ok (D:Dyn)(n:Nat){H:AH}{At M last:Nat}{d c dr:AV}{root:Ptr}{es:List (AV×AV)}{q:PN}(h:TI H At M d c root es q last dr):f62 D n [.ptr At 0] H=some (.bool false,H):=by
 obtain⟨A,o,rfl⟩:=h.hd
 simp only[f62,ev,lg,wnt_undef,ew,cq,ld1_get h.gT,treeC]
theorem most_ok (D:Dyn)(n:Nat){H:AH}{At M last:Nat}{d c dr:AV}{root:Ptr}{es:List (AV×AV)}{q:PN}(h:TI H At M d c root es q last dr):f68 D n [.ptr At 0] H=some (.int .i64 ((8192+q.length:Nat):Int),H):=by
 have hf:=h.few
 have hln:lnMap (.map M) H=some (.int .i64 ((q.length:Nat):Int)):=by
  simp only[lnMap,h.gM,fN_eq,h.pq.len];rfl
 have e:((8192:Nat):Int)+((q.length:Nat):Int)=((8192+q.length:Nat):Int):=by omega
 simp(disch:=omega) only[f68,ev,lg,wnt_undef,ew,ld1_get h.gT,treeC,hln,e]
def pp (s:Nat):Ptr:=⟨1,0,(s:Nat)⟩
theorem read_ok (D:Dyn)(n:Nat){H:AH}{At M last s:Nat}{d c dr:AV}{root:Ptr}{es:List (AV×AV)}{q:PN}{nd:Nd.Node}(h:TI H At M d c root es q last dr)(hs:lookN s q=some nd):
  ∃v H',f69 D n [.ptr At 0, .agg (ptrV (pp s))] H=some (.tuple [v, .int .i64 ((0:Nat):Int)],H')∧Prs H H'∧NodeG H' v nd∧ ∃k,(k,v)∈es:=by
 obtain⟨v,f1,f2,hm⟩:=(h.pq.find s).1 nd hs
 obtain⟨H1,A3,b1,p1,g1,m1,n1⟩:=box h.ok (.cells [.int .i64 ((1:Nat):Int), .int .i64 ((0:Nat):Int), .int .u64 (s:Nat)] 72 1 false)
 obtain⟨H2,A4,b2,p2,g2,m2,n2⟩:=box p1.ok (.cells [.bool false, .nilSlice, .nilSlice, .nilSlice] 133 1 false)
 have P2:Prs H H2:=p1.trans p2
 obtain⟨H3,A6,b3,p3,g3,m3,n3⟩:=box P2.ok (.cells [.bool false, .nilSlice, .nilSlice, .nilSlice] 133 1 false)
 have P3:=P2.trans p3
 obtain⟨l,rfl,ll,lc⟩:=f2.cells
 obtain⟨H4,e4,g4,s4,n4⟩:=st_all P3.ok g3 (l':=l) ll lc
 have e4':stN 4 (.ptr A6 0) (.agg l) H3=some (undefA,H4):=e4
 have P4:Prs H H4:=P3.fresh s4 (fun B hB=>by have:=P2.next;omega)
 obtain⟨H5,e5,g5,s5,n5⟩:=st_all P4.ok (show H4.h.get A4=some (.cells [.bool false, .nilSlice, .nilSlice, .nilSlice] 133 1 false)by rw[s4.keep _ (by have:=p3.next;omega) (by omega)];exact Prs.get p3 P2.ok g2) (l':=l) ll lc
 have e5':stN 4 (.ptr A4 0) (.agg l) H4=some (undefA,H5):=e5
 have P5:Prs H H5:=P4.fresh s5 (fun B hB=>by have:=p1.next;omega)
 have g13:H3.h.get A3=some (.cells [.int .i64 ((1:Nat):Int), .int .i64 ((0:Nat):Int), .int .u64 (s:Nat)] 72 1 false):=Prs.get p3 P2.ok (Prs.get p2 p1.ok g1)
 have g12:=Prs.get p2 p1.ok g1
 have g14:H4.h.get A3=some (.cells [.int .i64 ((1:Nat):Int), .int .i64 ((0:Nat):Int), .int .u64 (s:Nat)] 72 1 false):=by rw[s4.keep _ (by have:=p2.next;have:=p3.next;omega) (by have:=p2.next;omega)];exact g13
 have hlk:lkM [10] (.agg [.bool false, .nilSlice, .nilSlice, .nilSlice]) true (.map M) (.int .u64 (s:Nat)) H2=some (.tuple [.agg l, .bool true]):=by
  simp only[lkM,keyU,cond_true,Prs.get P2 h.ok h.gM,show eqNL [10] [10]=true from rfl,f1];rfl
 refine⟨.agg l,H5, ?_,P5,f2.prs P5,hm⟩
 have t00: ¬(((0:Nat):Int)≠((0:Nat):Int)):=by omega
 have hp:ptrV (pp s)=[.int .i64 ((1:Nat):Int), .int .i64 ((0:Nat):Int), .int .u64 (s:Nat)]:=rfl
 rw[hp]
 simp(config:= { maxSteps:=1000000}) (disch:=omega) only[f69,ev,lg,wnt_undef,ew,b1,b2,ld1_get g12,ld1_get g13,ld1_get g14,ld1_get (Prs.get P2 h.ok h.gT),treeC,hlk,pExtract,nth,b3,e4',t00,agg4 g4 ll,e5',agg4 g5 ll]
end Go.Eng.Sh
end
