/- A checked evaluator for the program, and what it tells, part 4: no condition. -/
import Derived.Test.YtaaflpnhdkoaeaaGreatO3
import Derived.Test.YtaaflpnhdkoaeaaGreatProg
import Derived.KernelRfl
set_option linter.all false
set_option linter.unusedVariables false
set_option linter.unusedSimpArgs false
set_option maxHeartbeats 8000000
set_option maxRecDepth 20000
section
noncomputable section
namespace Go.Eng.Sh
open Go.Proofs
set_option maxRecDepth 100000
set_option maxHeartbeats 4000000
variable (D:Dyn)(n:Nat)
attribute [local irreducible] bV bR hd cnd jn jb yJ wnt chk KR bA jJ YE KC bC eqP eqS eqM eqF eqA zO4 ldN ld1 stN cvI zO9 zE6 zMm V7 kX k9 vX dK KT zBD zFQ fd1 fdN fAd KS lnSl ZQ apP apZ cpy xH zKE pk3 s2a bxV aU zHY lkM upM dlM mkM callV nl fF tld zMe uD U4 uZ zCQ rfC mn2 mx2 aun qX xZ qZ isW aveq vV
def h85:Hint:=(.s .o (.s .o .o))
def f85:=(⟨_,by conv=>rhs;reduce⟩:FD ⟨X,[]⟩ D n 85 Tryz.f85 h85 []).1
theorem zKj {D:Dyn}(hD:DG D)(n:Nat):FI 85 (f85 D n):=fk n (ms h85) hD sn Tryz.func85 (by kernel_rfl) (by kernel_rfl)
attribute [local irreducible] f85
def s32:Tb:=⟨X,[(85,f85 D n)]⟩
def h32:Hint:=(.s .o (.s (.s .o (.cl (.s .o .o) .o)) (.s .o .o)))
def f32:=(⟨_,by conv=>rhs;reduce⟩:FD (s32 D n) D n 32 Tryz.f32 h32 []).1
theorem zGj {D:Dyn}(hD:DG D)(n:Nat):FI 32 (f32 D n):=fk n (ms h32) hD (sc (zKj hD n) sn) Tryz.func32 (by kernel_rfl) (by kernel_rfl)
attribute [local irreducible] f32
def h86:Hint:=(.s (.b [15,32767] .o) (.s (.b [10,1023] .o) .o))
def f86:=(⟨_,by conv=>rhs;reduce⟩:FD ⟨X,[]⟩ D n 86 Tryz.f86 h86 []).1
theorem X0 {D:Dyn}(hD:DG D)(n:Nat):FI 86 (f86 D n):=fk n (ms h86) hD sn Tryz.func86 (by kernel_rfl) (by kernel_rfl)
attribute [local irreducible] f86
def s34:Tb:=⟨X,[(86,f86 D n)]⟩
def JR (D:Dyn)(n:Nat)(vs:List AV)(H:AH):Rs:=
 hd vs fun x4 vs=>hd vs fun x20 vs=>
 bV (jJ .lss x20 (.int .i64 (.ofNat 2))) fun x21=>
 cnd x21 (bR (f86 D n [x4,x20,(.int .u8 (.ofNat 1))] H) fun x25 H=>
 bV (jJ .add x20 (.int .i64 (.ofNat 1))) fun x26=>
 some (.norm [x4,x26],H))
 (some (.exit 0 [x4],H))
def zGh (D:Dyn)(n:Nat)(vs:List AV)(H:AH):Rs:=
 hd vs fun x4_2 vs=>
 bV (some x4_2) fun x2_2=>bV (some (.int .i64 (.ofNat 0))) fun x3_2=>some (.ret (.tuple [x2_2,x3_2]),H)
def f34 (D:Dyn)(n:Nat)(vs:List AV)(H:AH):Option (AV×AH):=
 fF (hd vs fun x0 vs=>nl vs <|
 bV (jJ .lss x0 (.int .i64 (.ofNat 64))) fun x7=>
 jn (wnt x7 false (bV (jJ .gtr x0 (.int .i64 (.ofNat 8192))) fun x10=>
 some (.norm [x10],H)) (some (.norm [qZ],H))) fun vs H=>hd vs fun x10_2 vs=>
 bV (pk3 (some x7) (some (.bool true)) (some x10_2)) fun x11=>
 cnd x11 (bV (some .nilPtr) fun x2=>bV (some (.int .i64 (.ofNat 1))) fun x3=>some (.ret (.tuple [x2,x3]),H))
 (bV (xH [(0,1),(1,1),(2,8192),(8194,4)] ([(.int .i64 (.ofNat 0)),(.int .i64 (.ofNat 0))]++rep 8192 [(.int .u8 (.ofNat 0))]++[(.int .i64 (.ofNat 0)),(.int .i64 (.ofNat 0)),(.int .i64 (.ofNat 0)),(.int .i64 (.ofNat 0))]) [(0,x0)]) fun x13=>
 bA (bxV 145 x13) H fun x14 H=>
 bV (xZ x14) fun x17=>
 bV (fAd 8194 x17) fun x18=>
 bV (vX 4 1 x18 (.int .u8 (.ofNat 0))) fun x19=>
 bR (stN 1 x19 x0 H) fun x9999 H=>
 jb 0 (yJ n (JR D n) [x14,(.int .i64 (.ofNat 0))] H) (zGh D n)))
def h34:Hint:=(.s .o (.s (.s .o (.cl (.s .o .o) .o)) (.s .o (.s .o (.s (.s .o (.b [4] (.l [4,20] (.s .o (.s (.cr .o .o) (.s (.b0 (.s .o .o)) .o)))))) (.s .o .o))))))
theorem zGi {D:Dyn}(hD:DG D)(n:Nat):FI 34 (f34 D n):=fk n h34 hD (sc (X0 hD n) sn) Tryz.func34 (by kernel_rfl) (by kernel_rfl)
attribute [local irreducible] JR zGh f34
def h118:Hint:=(.s .o (.s (.s .o (.cl (.s .o .o) .o)) (.s .o .o)))
def f118:=(⟨_,by conv=>rhs;reduce⟩:FD ⟨X,[]⟩ D n 118 Tryz.f118 h118 []).1
theorem zBZ {D:Dyn}(hD:DG D)(n:Nat):FI 118 (f118 D n):=fk n (ms h118) hD sn Tryz.func118 (by kernel_rfl) (by kernel_rfl)
attribute [local irreducible] f118
def h119:Hint:=(.s .o (.b [1] (.l [0,0,1,6,7] (.s .o (.s (.cr .o .o) (.s (.b0 (.s .o .o)) .o))))))
def aJ:=(⟨_,by conv=>rhs;reduce⟩:PD ⟨X,[]⟩ D n 119 Tryz.f119 h119 [] 0).1
attribute [local irreducible] aJ
def zAD:=(⟨_,by conv=>rhs;reduce⟩:PD ⟨X,[]⟩ D n 119 Tryz.f119 h119 [aJ D n] 1).1
attribute [local irreducible] zAD
def f119:=(⟨_,by conv=>rhs;reduce⟩:FD ⟨X,[]⟩ D n 119 Tryz.f119 h119 [aJ D n,zAD D n]).1
theorem zBY {D:Dyn}(hD:DG D)(n:Nat):FI 119 (f119 D n):=fk n (ms h119) hD sn Tryz.func119 (by kernel_rfl) (by kernel_rfl)
attribute [local irreducible] f119
def s72:Tb:=⟨X,[(118,f118 D n),(119,f119 D n)]⟩
def f72 (D:Dyn)(n:Nat)(vs:List AV)(H:AH):Option (AV×AH):=
 fF (hd vs fun x0 vs=>nl vs <|
 bA (bxV 42 x0) H fun x1 H=>
 bV (ldN 3 x1 H) fun x5=>
 bR (f118 D n [x5] H) fun x6 H=>
 bV (aun .not x6) fun x7=>
 cnd x7 (bV (some (.str 0 0)) fun x2=>bV (some (.int .i64 (.ofNat 4))) fun x3=>some (.ret (.tuple [x2,x3]),H))
 (bA (bxV 232 (.agg (rep 16 [(.int .u8 (.ofNat 0))]))) H fun x4 H=>
 bV (k9 16 1 x4 none (some (.int .i64 (.ofNat 4))) none) fun x8=>
 bV (fAd 0 x1) fun x9=>
 bV (ld1 x9 H) fun x10=>
 bV (cvI .u64 x10) fun x11=>
 bR (f119 D n [x8,x11] H) fun x12 H=>
 bV (k9 16 1 x4 (some (.int .i64 (.ofNat 4))) (some (.int .i64 (.ofNat 8))) none) fun x13=>
 bV (fAd 1 x1) fun x14=>
 bV (ld1 x14 H) fun x15=>
 bV (cvI .u64 x15) fun x16=>
 bR (f119 D n [x13,x16] H) fun x17 H=>
 bV (k9 16 1 x4 (some (.int .i64 (.ofNat 8))) none none) fun x18=>
 bV (fAd 2 x1) fun x19=>
 bV (ld1 x19 H) fun x20=>
 bR (f119 D n [x18,x20] H) fun x21 H=>
 bV (k9 16 1 x4 none none none) fun x22=>
 bV (zE6 x22 H) fun x23=>
 bV (some x23) fun x2_2=>bV (some (.int .i64 (.ofNat 0))) fun x3_2=>some (.ret (.tuple [x2_2,x3_2]),H)))
def h72:Hint:=(.s .o (.s (.s .o (.cl (.s .o .o) .o)) (.s .o (.s .o (.s .o (.s .o (.s .o .o)))))))
theorem zGd {D:Dyn}(hD:DG D)(n:Nat):FI 72 (f72 D n):=fk n h72 hD (sc (zBZ hD n) (sc (zBY hD n) sn)) Tryz.func72 (by kernel_rfl) (by kernel_rfl)
attribute [local irreducible] f72
def s18:Tb:=⟨X,[(72,f72 D n)]⟩
def h18:Hint:=(.s .o (.s (.s .o (.cl (.s .o .o) .o)) (.s (.s .o (.s .o (.cl (.s .o .o) .o))) (.s .o .o))))
def f18:=(⟨_,by conv=>rhs;reduce⟩:FD (s18 D n) D n 18 Tryz.f18 h18 []).1
theorem zAu {D:Dyn}(hD:DG D)(n:Nat):FI 18 (f18 D n):=fk n (ms h18) hD (sc (zGd hD n) sn) Tryz.func18 (by kernel_rfl) (by kernel_rfl)
attribute [local irreducible] f18
def h73:Hint:=(.s .o (.s .o .o))
def f73:=(⟨_,by conv=>rhs;reduce⟩:FD ⟨X,[]⟩ D n 73 Tryz.f73 h73 []).1
theorem cZ {D:Dyn}(hD:DG D)(n:Nat):FI 73 (f73 D n):=fk n (ms h73) hD sn Tryz.func73 (by kernel_rfl) (by kernel_rfl)
attribute [local irreducible] f73
def h127:Hint:=(.s .o (.s .o (.s (.b [9,511] .o) (.s .o .o))))
def f127:=(⟨_,by conv=>rhs;reduce⟩:FD ⟨X,[]⟩ D n 127 Tryz.f127 h127 []).1
theorem U1 {D:Dyn}(hD:DG D)(n:Nat):FI 127 (f127 D n):=fk n (ms h127) hD sn Tryz.func127 (by kernel_rfl) (by kernel_rfl)
attribute [local irreducible] f127
def zLO:Hint:=(.s .o (.s .o (.s (.s .o (.b [2,0,3,4] (.l [1,0,3,4,16,17,18] (.s .o (.s (.cr .o .o) (.s (.b0 (.s .o (.s .o (.c [0,0,3,4,16,17,18] (.b [6,63] .o) (.b [7,126,10,1023] .o))))) .o)))))) (.s (.t [0,3,4] vV) (.s .o .o)))))
def QM:=(⟨_,by conv=>rhs;reduce⟩:PD ⟨X,[]⟩ D n 126 Tryz.f126 zLO [] 0).1
attribute [local irreducible] QM
def fT:=(⟨_,by conv=>rhs;reduce⟩:PD ⟨X,[]⟩ D n 126 Tryz.f126 zLO [QM D n] 1).1
attribute [local irreducible] fT
def zAA:=(⟨_,by conv=>rhs;reduce⟩:PD ⟨X,[]⟩ D n 126 Tryz.f126 zLO [QM D n,fT D n] 2).1
attribute [local irreducible] zAA
def f126:=(⟨_,by conv=>rhs;reduce⟩:FD ⟨X,[]⟩ D n 126 Tryz.f126 zLO [QM D n,fT D n,zAA D n]).1
theorem zMa (D:Dyn)(n:Nat):f126 D n=zMY ⟨X,[]⟩ D n 126 Tryz.f126 (ms zLO):=by kernel_rfl
theorem zE1:zCj Tryz.f126 (ms zLO)=[(WE.code,[0,3,4],vV)]:=by kernel_rfl
theorem zGM: ∀x∈zCj Tryz.f126 (ms zLO),KK PP Tryz.f126.ntmps 126 x.1 x.2.1 x.2.2:=by
 rw[zE1];intro x hx;simp only[List.mem_cons,List.not_mem_nil,or_false]at hx;subst hx;exact zEr
theorem zBX {D:Dyn}(hD:DG D)(n:Nat):FI 126 (f126 D n):=zLR X_ok hD sn Tryz.func126 (zET (by kernel_rfl) zGM) (zMa D n)
attribute [local irreducible] f126
def zMX:Hint:=(.s .o (.s .o (.s (.s .o (.b [3,1,3] (.l [0,1,3,14,15,16] (.s .o (.s (.cr .o .o) (.s (.b0 (.s .o .o)) .o)))))) (.s (.s .o (.b [2,3] (.l [1,3,27,28,29] (.s .o (.s (.cr .o .o) (.s (.b0 (.s .o .o)) .o)))))) (.s .o .o)))))
def bU:=(⟨_,by conv=>rhs;reduce⟩:PD ⟨X,[]⟩ D n 110 Tryz.f110 zMX [] 0).1
attribute [local irreducible] bU
def fV:=(⟨_,by conv=>rhs;reduce⟩:PD ⟨X,[]⟩ D n 110 Tryz.f110 zMX [bU D n] 1).1
attribute [local irreducible] fV
def X9:=(⟨_,by conv=>rhs;reduce⟩:PD ⟨X,[]⟩ D n 110 Tryz.f110 zMX [bU D n,fV D n] 2).1
attribute [local irreducible] X9
def zAE:=(⟨_,by conv=>rhs;reduce⟩:PD ⟨X,[]⟩ D n 110 Tryz.f110 zMX [bU D n,fV D n,X9 D n] 3).1
attribute [local irreducible] zAE
def f110:=(⟨_,by conv=>rhs;reduce⟩:FD ⟨X,[]⟩ D n 110 Tryz.f110 zMX [bU D n,fV D n,X9 D n,zAE D n]).1
theorem ZX {D:Dyn}(hD:DG D)(n:Nat):FI 110 (f110 D n):=fk n (ms zMX) hD sn Tryz.func110 (by kernel_rfl) (by kernel_rfl)
attribute [local irreducible] f110
def h137:Hint:=(.s .o (.s .o .o))
def f137:=(⟨_,by conv=>rhs;reduce⟩:FD ⟨X,[]⟩ D n 137 Tryz.f137 h137 []).1
theorem VZ {D:Dyn}(hD:DG D)(n:Nat):FI 137 (f137 D n):=fk n (ms h137) hD sn Tryz.func137 (by kernel_rfl) (by kernel_rfl)
attribute [local irreducible] f137
def zLd:Tb:=⟨X,[(137,f137 D n)]⟩
def zKf:Hint:=(.s .o (.s (.s .o (.b [5,1] (.l [0,1,10,11,12] (.s .o (.s (.cr .o .o) (.s (.b0 (.s .o (.s .o (.cl (.s .o .o) .o)))) .o)))))) (.s (.s .o (.cl (.s (.s .o (.cl (.s .o .o) .o)) (.s (.s .o (.b [2] (.l [1,51,52,53] (.s .o (.s (.cr .o .o) (.s (.b0 (.s .o (.s .o (.cl (.s .o .o) .o)))) .o)))))) (.s .o .o))) .o)) (.s (.s .o (.cl (.s .o .o) .o)) (.s (.s .o (.b [4] (.l [3,82,83,84] (.s .o (.s (.cr .o .o) (.s (.b0 (.s .o (.s .o (.cl (.s .o .o) .o)))) .o)))))) (.s .o .o))))))
def xM:=(⟨_,by conv=>rhs;reduce⟩:PD (zLd D n) D n 109 Tryz.f109 zKf [] 0).1
attribute [local irreducible] xM
def uU:=(⟨_,by conv=>rhs;reduce⟩:PD (zLd D n) D n 109 Tryz.f109 zKf [xM D n] 1).1
attribute [local irreducible] uU
def aK:=(⟨_,by conv=>rhs;reduce⟩:PD (zLd D n) D n 109 Tryz.f109 zKf [xM D n,uU D n] 2).1
attribute [local irreducible] aK
def fW:=(⟨_,by conv=>rhs;reduce⟩:PD (zLd D n) D n 109 Tryz.f109 zKf [xM D n,uU D n,aK D n] 3).1
attribute [local irreducible] fW
def JZ:=(⟨_,by conv=>rhs;reduce⟩:PD (zLd D n) D n 109 Tryz.f109 zKf [xM D n,uU D n,aK D n,fW D n] 4).1
attribute [local irreducible] JZ
def bW:=(⟨_,by conv=>rhs;reduce⟩:PD (zLd D n) D n 109 Tryz.f109 zKf [xM D n,uU D n,aK D n,fW D n,JZ D n] 5).1
attribute [local irreducible] bW
def f109:=(⟨_,by conv=>rhs;reduce⟩:FD (zLd D n) D n 109 Tryz.f109 zKf [xM D n,uU D n,aK D n,fW D n,JZ D n,bW D n]).1
theorem dO {D:Dyn}(hD:DG D)(n:Nat):FI 109 (f109 D n):=fk n (ms zKf) hD (sc (VZ hD n) sn) Tryz.func109 (by kernel_rfl) (by kernel_rfl)
attribute [local irreducible] f109
def zNp:Tb:=⟨X,[(110,f110 D n)]⟩
def zMV:Hint:=(.s .o (.s .o (.s .o (.s .o (.s (.s .o (.c [3,1,3,4,5] (.s .o .o) .o)) (.s (.s .o (.b [2,4] (.l [1,1,3,4,5,20,21] (.s .o (.s (.cr .o .o) (.s (.b0 (.s .o (.s .o (.s (.s .o (.c [0,1,3,4,5,6,20,21] .o .o)) (.s .o (.cl (.s .o .o) .o)))))) .o)))))) (.s .o .o)))))))
def vQ:=(⟨_,by conv=>rhs;reduce⟩:PD (zNp D n) D n 227 Tryz.f227 zMV [] 0).1
attribute [local irreducible] vQ
def uR:=(⟨_,by conv=>rhs;reduce⟩:PD (zNp D n) D n 227 Tryz.f227 zMV [vQ D n] 1).1
attribute [local irreducible] uR
def JS:=(⟨_,by conv=>rhs;reduce⟩:PD (zNp D n) D n 227 Tryz.f227 zMV [vQ D n,uR D n] 2).1
attribute [local irreducible] JS
def QG:=(⟨_,by conv=>rhs;reduce⟩:PD (zNp D n) D n 227 Tryz.f227 zMV [vQ D n,uR D n,JS D n] 3).1
attribute [local irreducible] QG
def f227:=(⟨_,by conv=>rhs;reduce⟩:FD (zNp D n) D n 227 Tryz.f227 zMV [vQ D n,uR D n,JS D n,QG D n]).1
theorem zGm {D:Dyn}(hD:DG D)(n:Nat):FI 227 (f227 D n):=fk n (ms zMV) hD (sc (ZX hD n) sn) Tryz.func227 (by kernel_rfl) (by kernel_rfl)
attribute [local irreducible] f227
def h108:Hint:=(.s .o (.s (.s .o (.cl (.s .o .o) .o)) (.s .o .o)))
def f108:=(⟨_,by conv=>rhs;reduce⟩:FD ⟨X,[]⟩ D n 108 Tryz.f108 h108 []).1
theorem zC0 {D:Dyn}(hD:DG D)(n:Nat):FI 108 (f108 D n):=fk n (ms h108) hD sn Tryz.func108 (by kernel_rfl) (by kernel_rfl)
attribute [local irreducible] f108
def h81:Hint:=(.s .o (.s (.s .o (.cl (.s .o .o) .o)) (.s .o .o)))
def f81:=(⟨_,by conv=>rhs;reduce⟩:FD ⟨X,[]⟩ D n 81 Tryz.f81 h81 []).1
theorem zKl {D:Dyn}(hD:DG D)(n:Nat):FI 81 (f81 D n):=fk n (ms h81) hD sn Tryz.func81 (by kernel_rfl) (by kernel_rfl)
attribute [local irreducible] f81
def s213:Tb:=⟨X,[(109,f109 D n),(227,f227 D n),(108,f108 D n),(81,f81 D n)]⟩
def h213:Hint:=(.s .o (.s (.s .o (.cl (.s .o .o) .o)) (.s .o (.s (.b [5,19,7,127] .o) (.s .o (.s (.s .o (.c [0,1,2,4,6] (.s .o (.c [5,31,10,1023,12,4095,14,16383] (.l [0,1,2,3,4,6,7,8,9,5,11,10,12,13,14] .o) .o)) (.s .o (.c [7,127,13,8191,15,32767,17,131071] (.l [0,1,2,3,4,5,6,8,9,10,11,12,7,14,13,15,16,17] .o) .o)))) (.s (.b [7,1,9,511] .o) .o)))))))
def X3:=(⟨_,by conv=>rhs;reduce⟩:PD (s213 D n) D n 213 Tryz.f213 h213 [] 0).1
attribute [local irreducible] X3
def f213:=(⟨_,by conv=>rhs;reduce⟩:FD (s213 D n) D n 213 Tryz.f213 h213 [X3 D n]).1
theorem zGq {D:Dyn}(hD:DG D)(n:Nat):FI 213 (f213 D n):=fk n (ms h213) hD (sc (dO hD n) (sc (zGm hD n) (sc (zC0 hD n) (sc (zKl hD n) sn)))) Tryz.func213 (by kernel_rfl) (by kernel_rfl)
attribute [local irreducible] f213
def s177:Tb:=⟨X,[(110,f110 D n),(213,f213 D n)]⟩
def h177:Hint:=(.s .o (.s .o (.s .o (.s (.b [1,1,5,6] (.l [0,1,5,6] (.s (.s .o (.cr .o .o)) (.b0 (.s .o (.s (.s .o (.cl (.s .o .o) .o)) (.s .o (.s .o .o)))))))) (.s .o .o)))))
def QH:=(⟨_,by conv=>rhs;reduce⟩:PD (s177 D n) D n 177 Tryz.f177 h177 [] 0).1
attribute [local irreducible] QH
def zAx:=(⟨_,by conv=>rhs;reduce⟩:PD (s177 D n) D n 177 Tryz.f177 h177 [QH D n] 1).1
attribute [local irreducible] zAx
def f177:=(⟨_,by conv=>rhs;reduce⟩:FD (s177 D n) D n 177 Tryz.f177 h177 [QH D n,zAx D n]).1
theorem zBU {D:Dyn}(hD:DG D)(n:Nat):FI 177 (f177 D n):=fk n (ms h177) hD (sc (ZX hD n) (sc (zGq hD n) sn)) Tryz.func177 (by kernel_rfl) (by kernel_rfl)
attribute [local irreducible] f177
def s179:Tb:=⟨X,[(127,f127 D n)]⟩
def h179:Hint:=(.s .o (.s .o (.s (.s .o (.b [1,5] (.l [0,0,5,8,9,10] (.s .o (.s (.cr .o .o) (.s (.b0 (.s .o .o)) .o)))))) (.s .o .o))))
def aC:=(⟨_,by conv=>rhs;reduce⟩:PD (s179 D n) D n 179 Tryz.f179 h179 [] 0).1
attribute [local irreducible] aC
def zAv:=(⟨_,by conv=>rhs;reduce⟩:PD (s179 D n) D n 179 Tryz.f179 h179 [aC D n] 1).1
attribute [local irreducible] zAv
def f179:=(⟨_,by conv=>rhs;reduce⟩:FD (s179 D n) D n 179 Tryz.f179 h179 [aC D n,zAv D n]).1
theorem zBS {D:Dyn}(hD:DG D)(n:Nat):FI 179 (f179 D n):=fk n (ms h179) hD (sc (U1 hD n) sn) Tryz.func179 (by kernel_rfl) (by kernel_rfl)
attribute [local irreducible] f179
def s131:Tb:=⟨X,[(126,f126 D n),(177,f177 D n),(179,f179 D n),(127,f127 D n)]⟩
def h131:Hint:=(.s .o (.s (.s .o (.cl (.s (.s .o (.c [0] .o .o)) (.s .o .o)) .o)) (.s .o (.s (.s .o (.cl (.s .o .o) .o)) (.s .o (.s (.s .o (.c [1] .o .o)) (.s .o .o)))))))
def JW:=(⟨_,by conv=>rhs;reduce⟩:PD (s131 D n) D n 131 Tryz.f131 h131 [] 0).1
attribute [local irreducible] JW
def X8:=(⟨_,by conv=>rhs;reduce⟩:PD (s131 D n) D n 131 Tryz.f131 h131 [JW D n] 1).1
attribute [local irreducible] X8
def f131:=(⟨_,by conv=>rhs;reduce⟩:FD (s131 D n) D n 131 Tryz.f131 h131 [JW D n,X8 D n]).1
theorem zGK {D:Dyn}(hD:DG D)(n:Nat):FI 131 (f131 D n):=fk n (ms h131) hD (sc (zBX hD n) (sc (zBU hD n) (sc (zBS hD n) (sc (U1 hD n) sn)))) Tryz.func131 (by kernel_rfl) (by kernel_rfl)
attribute [local irreducible] f131
def h76:Hint:=(.s .o (.s .o .o))
def f76:=(⟨_,by conv=>rhs;reduce⟩:FD ⟨X,[]⟩ D n 76 Tryz.f76 h76 []).1
theorem zAl {D:Dyn}(hD:DG D)(n:Nat):FI 76 (f76 D n):=fk n (ms h76) hD sn Tryz.func76 (by kernel_rfl) (by kernel_rfl)
attribute [local irreducible] f76
def h230:Hint:=(.s .o (.s (.s .o (.b [1,0] (.l [0,0,1,7,8] (.s .o (.s (.cr .o .o) (.s (.b0 (.s .o .o)) .o)))))) (.s .o .o)))
def QF:=(⟨_,by conv=>rhs;reduce⟩:PD ⟨X,[]⟩ D n 230 Tryz.f230 h230 [] 0).1
attribute [local irreducible] QF
def zAp:=(⟨_,by conv=>rhs;reduce⟩:PD ⟨X,[]⟩ D n 230 Tryz.f230 h230 [QF D n] 1).1
attribute [local irreducible] zAp
def f230:=(⟨_,by conv=>rhs;reduce⟩:FD ⟨X,[]⟩ D n 230 Tryz.f230 h230 [QF D n,zAp D n]).1
theorem zGl {D:Dyn}(hD:DG D)(n:Nat):FI 230 (f230 D n):=fk n (ms h230) hD sn Tryz.func230 (by kernel_rfl) (by kernel_rfl)
attribute [local irreducible] f230
def s225:Tb:=⟨X,[(230,f230 D n)]⟩
def h225:Hint:=(.s .o (.s .o .o))
def f225:=(⟨_,by conv=>rhs;reduce⟩:FD (s225 D n) D n 225 Tryz.f225 h225 []).1
theorem zGn {D:Dyn}(hD:DG D)(n:Nat):FI 225 (f225 D n):=fk n (ms h225) hD (sc (zGl hD n) sn) Tryz.func225 (by kernel_rfl) (by kernel_rfl)
attribute [local irreducible] f225
def s208:Tb:=⟨X,[(225,f225 D n)]⟩
def h208:Hint:=(.s .o (.s .o .o))
def f208:=(⟨_,by conv=>rhs;reduce⟩:FD (s208 D n) D n 208 Tryz.f208 h208 []).1
theorem zBQ {D:Dyn}(hD:DG D)(n:Nat):FI 208 (f208 D n):=fk n (ms h208) hD (sc (zGn hD n) sn) Tryz.func208 (by kernel_rfl) (by kernel_rfl)
attribute [local irreducible] f208
def h226:Hint:=(.s .o (.s .o (.s (.s .o (.b [1,3] (.l [0,3,6,7,8] (.s .o (.s (.cr .o .o) (.s (.b0 (.s .o .o)) .o)))))) (.s .o .o))))
def aB:=(⟨_,by conv=>rhs;reduce⟩:PD ⟨X,[]⟩ D n 226 Tryz.f226 h226 [] 0).1
attribute [local irreducible] aB
def X1:=(⟨_,by conv=>rhs;reduce⟩:PD ⟨X,[]⟩ D n 226 Tryz.f226 h226 [aB D n] 1).1
attribute [local irreducible] X1
def f226:=(⟨_,by conv=>rhs;reduce⟩:FD ⟨X,[]⟩ D n 226 Tryz.f226 h226 [aB D n,X1 D n]).1
theorem zBN {D:Dyn}(hD:DG D)(n:Nat):FI 226 (f226 D n):=fk n (ms h226) hD sn Tryz.func226 (by kernel_rfl) (by kernel_rfl)
attribute [local irreducible] f226
def s150:Tb:=⟨X,[(119,f119 D n)]⟩
def zGG (D:Dyn)(n:Nat)(vs:List AV)(H:AH):Option (AV×AH):=
 fF (hd vs fun x0 vs=>hd vs fun x1 vs=>hd vs fun x2 vs=>nl vs <|
 bA (bxV 55 (.agg (rep 512 [(.int .u8 (.ofNat 0))]))) H fun x6 H=>
 bV (jJ .lss x1 (.int .i64 (.ofNat 0))) fun x10=>
 jn (wnt x10 false (bV (jJ .gtr x1 (.int .i64 (.ofNat 2147483647))) fun x13=>
 some (.norm [x13],H)) (some (.norm [qZ],H))) fun vs H=>hd vs fun x13_2 vs=>
 bV (pk3 (some x10) (some (.bool true)) (some x13_2)) fun x14=>
 cnd x14 (bV (zKE 1 (rep 512 [(.int .u8 (.ofNat 0))]) []) fun x15=>
 bR (stN 512 x6 x15 H) fun x9999 H=>
 bV (ldN 512 x6 H) fun x9006=>bV (some (.int .i64 (.ofNat 1))) fun x7=>some (.ret (.tuple [x9006,x7]),H))
 (bV (KS x2) fun x17=>
 bV (jJ .gtr x17 (.int .i64 (.ofNat 500))) fun x18=>
 cnd x18 (bV (zKE 1 (rep 512 [(.int .u8 (.ofNat 0))]) []) fun x19=>
 bR (stN 512 x6 x19 H) fun x9999_2 H=>
 bV (ldN 512 x6 H) fun x9006_2=>bV (some (.int .i64 (.ofNat 40))) fun x7_2=>some (.ret (.tuple [x9006_2,x7_2]),H))
 (bA (bxV 55 (.agg (rep 512 [(.int .u8 (.ofNat 0))]))) H fun x8 H=>
 bV (k9 512 1 x8 none none none) fun x20=>
 bR (cpy 1 x20 (.str 4 2037675114) H) fun x21 H=>
 bV (vX 512 1 x8 (.int .i64 (.ofNat 4))) fun x23=>
 bR (stN 1 x23 x0 H) fun x9999_3 H=>
 bV (k9 512 1 x8 (some (.int .i64 (.ofNat 6))) (some (.int .i64 (.ofNat 8))) none) fun x24=>
 bV (KS x2) fun x26=>
 bV (cvI .u64 x26) fun x27=>
 bR (f119 D n [x24,x27] H) fun x28 H=>
 bV (k9 512 1 x8 (some (.int .i64 (.ofNat 8))) (some (.int .i64 (.ofNat 12))) none) fun x29=>
 bV (cvI .u64 x1) fun x31=>
 bR (f119 D n [x29,x31] H) fun x32 H=>
 bV (k9 512 1 x8 (some (.int .i64 (.ofNat 12))) none none) fun x33=>
 bR (cpy 1 x33 x2 H) fun x35 H=>
 bV (ldN 512 x8 H) fun x36=>
 bR (stN 512 x6 x36 H) fun x9999_4 H=>
 bV (ldN 512 x6 H) fun x9006_3=>bV (some (.int .i64 (.ofNat 0))) fun x7_3=>some (.ret (.tuple [x9006_3,x7_3]),H))))
def h150:Hint:=(.s .o (.s (.s .o (.cl (.s .o .o) .o)) (.s (.s .o (.cl (.s .o .o) .o)) (.s .o (.s .o (.s .o (.s .o (.s .o (.s .o (.s .o .o))))))))))
theorem zBV {D:Dyn}(hD:DG D)(n:Nat):FI 150 (zGG D n):=fk n h150 hD (sc (zBY hD n) sn) Tryz.func150 (by kernel_rfl) (by kernel_rfl)
attribute [local irreducible] zGG
def s209:Tb:=⟨X,[(226,f226 D n),(150,zGG D n)]⟩
def zJ5 (D:Dyn)(n:Nat)(vs:List AV)(H:AH):Option (AV×AH):=
 fF (hd vs fun x0 vs=>nl vs <|
 bA (bxV 55 x0) H fun x1 H=>
 bV (k9 512 1 x1 (some (.int .i64 (.ofNat 6))) (some (.int .i64 (.ofNat 8))) none) fun x8=>
 bR (f226 D n [x8] H) fun x9 H=>
 bV (jJ .gtr x9 (.int .u64 (.ofNat 500))) fun x11=>
 cnd x11 (bV (some (.int .u8 (.ofNat 0))) fun x2=>bV (some (.int .i64 (.ofNat 0))) fun x3=>bV (some (.str 0 0)) fun x4=>bV (some (.int .i64 (.ofNat 4))) fun x5=>some (.ret (.tuple [x2,x3,x4,x5]),H))
 (bV (vX 512 1 x1 (.int .i64 (.ofNat 4))) fun x12=>
 bV (ld1 x12 H) fun x13=>
 bV (k9 512 1 x1 (some (.int .i64 (.ofNat 8))) (some (.int .i64 (.ofNat 12))) none) fun x14=>
 bR (f226 D n [x14] H) fun x15 H=>
 bV (cvI .i64 x15) fun x16=>
 bV (jJ .add (.int .u64 (.ofNat 12)) x9) fun x18=>
 bV (k9 512 1 x1 (some (.int .i64 (.ofNat 12))) (some x18) none) fun x19=>
 bV (zE6 x19 H) fun x20=>
 bR (zGG D n [x13,x16,x20] H) fun x25 H=>
 bV (qX x25 0) fun x26=>
 bV (qX x25 1) fun x27=>
 bA (bxV 55 (.agg (rep 512 [(.int .u8 (.ofNat 0))]))) H fun x7 H=>
 bR (stN 512 x7 x26 H) fun x9999 H=>
 bV (jJ .neq x27 (.int .i64 (.ofNat 0))) fun x29=>
 jn (wnt x29 false (bV (ldN 512 x7 H) fun x31=>
 bV (ldN 512 x1 H) fun x32=>
 bV (bC .neq (eqA (List.replicate 512 7) x31 x32)) fun x33=>
 some (.norm [x33],H)) (some (.norm [qZ],H))) fun vs H=>hd vs fun x33_2 vs=>
 bV (pk3 (some x29) (some (.bool true)) (some x33_2)) fun x34=>
 cnd x34 (bV (some (.int .u8 (.ofNat 0))) fun x2_2=>bV (some (.int .i64 (.ofNat 0))) fun x3_2=>bV (some (.str 0 0)) fun x4_2=>bV (some (.int .i64 (.ofNat 4))) fun x5_2=>some (.ret (.tuple [x2_2,x3_2,x4_2,x5_2]),H))
 (bV (some x13) fun x2_3=>bV (some x16) fun x3_3=>bV (some x20) fun x4_3=>bV (some (.int .i64 (.ofNat 0))) fun x5_3=>some (.ret (.tuple [x2_3,x3_3,x4_3,x5_3]),H))))
def h209:Hint:=(.s .o (.s .o (.s (.s .o (.cl (.s .o .o) .o)) (.s .o (.s .o (.s .o (.s .o (.s (.s .o (.cl (.s .o .o) .o)) (.s .o .o)))))))))
theorem zBP {D:Dyn}(hD:DG D)(n:Nat):FI 209 (zJ5 D n):=fk n h209 hD (sc (zBN hD n) (sc (zBV hD n) sn)) Tryz.func209 (by kernel_rfl) (by kernel_rfl)
attribute [local irreducible] zJ5
def s171:Tb:=⟨X,[(208,f208 D n),(209,zJ5 D n)]⟩
def h171:Hint:=(.s .o (.s (.s (.c [5,31] (.l [0,1,2,3,4,6,7,5,8,9] .o) .o) (.cl (.s .o .o) .o)) (.s .o (.s (.s .o (.cl (.s .o .o) .o)) (.s (.s .o (.cl (.s .o .o) .o)) (.s .o .o))))))
def f171:=(⟨_,by conv=>rhs;reduce⟩:FD (s171 D n) D n 171 Tryz.f171 h171 []).1
theorem zGB {D:Dyn}(hD:DG D)(n:Nat):FI 171 (f171 D n):=fk n (ms h171) hD (sc (zBQ hD n) (sc (zBP hD n) sn)) Tryz.func171 (by kernel_rfl) (by kernel_rfl)
attribute [local irreducible] f171
def h120:Hint:=(.s .o (.s (.s .o (.cl (.s .o .o) .o)) (.s (.s .o (.cl (.s .o .o) .o)) (.s .o .o))))
def f120:=(⟨_,by conv=>rhs;reduce⟩:FD ⟨X,[]⟩ D n 120 Tryz.f120 h120 []).1
theorem zGQ {D:Dyn}(hD:DG D)(n:Nat):FI 120 (f120 D n):=fk n (ms h120) hD sn Tryz.func120 (by kernel_rfl) (by kernel_rfl)
attribute [local irreducible] f120
def s74:Tb:=⟨X,[(120,f120 D n)]⟩
def h74:Hint:=(.s .o (.s (.s .o (.s .o (.cl (.s .o .o) .o))) (.s (.s .o (.cl (.s .o .o) .o)) (.s .o .o))))
def f74:=(⟨_,by conv=>rhs;reduce⟩:FD (s74 D n) D n 74 Tryz.f74 h74 []).1
theorem zGc {D:Dyn}(hD:DG D)(n:Nat):FI 74 (f74 D n):=fk n (ms h74) hD (sc (zGQ hD n) sn) Tryz.func74 (by kernel_rfl) (by kernel_rfl)
attribute [local irreducible] f74
def s25:Tb:=⟨X,[(74,f74 D n)]⟩
def f25 (D:Dyn)(n:Nat)(vs:List AV)(H:AH):Option (AV×AH):=
 fF (hd vs fun x0 vs=>hd vs fun x1 vs=>nl vs <|
 bA (bxV 55 (.agg (rep 512 [(.int .u8 (.ofNat 0))]))) H fun x4 H=>
 bR (f74 D n [x0,x1] H) fun x11 H=>
 bV (jJ .neq x11 (.int .i64 (.ofNat 0))) fun x13=>
 cnd x13 (bV (zKE 1 (rep 512 [(.int .u8 (.ofNat 0))]) []) fun x14=>
 bR (stN 512 x4 x14 H) fun x9999 H=>
 bV (ldN 512 x4 H) fun x9004=>bV (some x11) fun x5=>some (.ret (.tuple [x9004,x5]),H))
 (bV (xZ x0) fun x18=>
 bV (fAd 3 x18) fun x19=>
 bV (ld1 x19 H) fun x20=>
 bV (lkM [6] (.int .i64 (.ofNat 0)) true x20 x1 H) fun x22=>
 bV (qX x22 0) fun x23=>
 bV (qX x22 1) fun x24=>
 cnd x24 (bV (xZ x0) fun x27=>
 bV (fAd 2 x27) fun x28=>
 bV (ld1 x28 H) fun x29=>
 bV (dK 513 x29 x23) fun x31=>
 bV (fAd 1 x31) fun x32=>
 bV (ldN 512 x32 H) fun x33=>
 bR (stN 512 x4 x33 H) fun x9999_2 H=>
 bV (ldN 512 x4 H) fun x9004_2=>bV (some (.int .i64 (.ofNat 0))) fun x5_2=>some (.ret (.tuple [x9004_2,x5_2]),H))
 (bV (xZ x0) fun x35=>
 bV (fAd 1 x35) fun x36=>
 bV (ld1 x36 H) fun x37=>
 bV (lkM [6] (.agg (rep 512 [(.int .u8 (.ofNat 0))])) false x37 x1 H) fun x39=>
 bR (stN 512 x4 x39 H) fun x9999_3 H=>
 bV (ldN 512 x4 H) fun x9004_3=>bV (some (.int .i64 (.ofNat 0))) fun x5_3=>some (.ret (.tuple [x9004_3,x5_3]),H))))
def h25:Hint:=(.s .o (.s (.s .o (.s .o (.cl (.s .o .o) .o))) (.s (.s .o (.s .o (.cl (.s .o .o) .o))) (.s .o .o))))
theorem zKt {D:Dyn}(hD:DG D)(n:Nat):FI 25 (f25 D n):=fk n h25 hD (sc (zGc hD n) sn) Tryz.func25 (by kernel_rfl) (by kernel_rfl)
attribute [local irreducible] f25
def s122:Tb:=⟨X,[(171,f171 D n),(25,f25 D n)]⟩
def zD6 (D:Dyn)(n:Nat)(vs:List AV)(H:AH):Rs:=
 hd vs fun x0_2 vs=>hd vs fun x3_2 vs=>
 some (.norm [x0_2,x3_2],H)
def zAC (D:Dyn)(n:Nat)(vs:List AV)(H:AH):Rs:=
 hd vs fun x14 vs=>hd vs fun x15 vs=>
 bV (some x14) fun x4_4=>bV (some x15) fun x5_4=>bV (some (.int .i64 (.ofNat 0))) fun x6_4=>some (.ret (.tuple [x4_4,x5_4,x6_4]),H)
def zAB (D:Dyn)(n:Nat)(vs:List AV)(H:AH):Rs:=
 hd vs fun x0_3 vs=>hd vs fun x3_3 vs=>
 bV (xZ x0_3) fun x46=>
 bV (fAd 0 x46) fun x47=>
 bV (ld1 x47 H) fun x48=>
 bV (fAd 0 x3_3) fun x49=>
 bV (ld1 x49 H) fun x50=>
 bA (bxV 55 (.agg (rep 512 [(.int .u8 (.ofNat 0))]))) H fun x12 H=>
 bR (f25 D n [x48,x50] H) fun x51 H=>
 bV (qX x51 0) fun x52=>
 bV (qX x51 1) fun x53=>
 bR (stN 512 x12 x52 H) fun x9999_2 H=>
 bV (jJ .neq x53 (.int .i64 (.ofNat 0))) fun x55=>
 cnd x55 (bV (some (.int .u8 (.ofNat 0))) fun x4_2=>bV (some (.str 0 0)) fun x5_2=>bV (some x53) fun x6_2=>some (.ret (.tuple [x4_2,x5_2,x6_2]),H))
 (bV (ldN 3 x3_3 H) fun x58=>
 bV (ldN 512 x12 H) fun x59=>
 bR (f171 D n [x58,x59] H) fun x60 H=>
 bV (qX x60 0) fun x61=>
 bV (qX x60 1) fun x62=>
 bV (qX x60 2) fun x63=>
 bV (jJ .neq x63 (.int .i64 (.ofNat 0))) fun x65=>
 cnd x65 (bV (some (.int .u8 (.ofNat 0))) fun x4_3=>bV (some (.str 0 0)) fun x5_3=>bV (some x63) fun x6_3=>some (.ret (.tuple [x4_3,x5_3,x6_3]),H))
 (bV (xZ x0_3) fun x68=>
 bV (fAd 1 x68) fun x69=>
 bV (ld1 x69 H) fun x70=>
 bV (bC .neq (eqP x70 .nilPtr)) fun x71=>
 jn (cnd x71 (bV (xZ x0_3) fun x73=>
 bV (fAd 1 x73) fun x74=>
 bV (ld1 x74 H) fun x75=>
 bV (fAd 0 x3_3) fun x76=>
 bV (ld1 x76 H) fun x77=>
 bV (ldN 512 x12 H) fun x78=>
 bR (D.fn 97 [x75,x77,x78] H) fun x79 H=>
 some (.norm [x61,x62],H))
 (some (.norm [x61,x62],H))) (zAC D n)))
def zKw (D:Dyn)(n:Nat)(vs:List AV)(H:AH):Option (AV×AH):=
 fF (hd vs fun x0 vs=>hd vs fun x1 vs=>nl vs <|
 bA (bxV 42 x1) H fun x3 H=>
 bV (xZ x0) fun x17=>
 bV (fAd 1 x17) fun x18=>
 bV (ld1 x18 H) fun x19=>
 bV (bC .neq (eqP x19 .nilPtr)) fun x20=>
 jn (cnd x20 (bV (xZ x0) fun x23=>
 bV (fAd 1 x23) fun x24=>
 bV (ld1 x24 H) fun x25=>
 bV (fAd 0 x3) fun x26=>
 bV (ld1 x26 H) fun x27=>
 bA (bxV 55 (.agg (rep 512 [(.int .u8 (.ofNat 0))]))) H fun x7 H=>
 bR (D.fn 170 [x25,x27] H) fun x28 H=>
 bV (qX x28 0) fun x29=>
 bV (qX x28 1) fun x30=>
 bR (stN 512 x7 x29 H) fun x9999 H=>
 bV (jJ .eql x30 (.int .i64 (.ofNat 0))) fun x32=>
 jn (cnd x32 (bV (ldN 3 x3 H) fun x34=>
 bV (ldN 512 x7 H) fun x35=>
 bR (f171 D n [x34,x35] H) fun x36 H=>
 bV (qX x36 0) fun x37=>
 bV (qX x36 1) fun x38=>
 bV (qX x36 2) fun x39=>
 bV (jJ .eql x39 (.int .i64 (.ofNat 0))) fun x41=>
 cnd x41 (bV (some x37) fun x4=>bV (some x38) fun x5=>bV (some (.int .i64 (.ofNat 0))) fun x6=>some (.ret (.tuple [x4,x5,x6]),H))
 (some (.norm [x0,x3],H)))
 (some (.norm [x0,x3],H))) (zD6 D n))
 (some (.norm [x0,x3],H))) (zAB D n))
def h122:Hint:=(.s .o (.s (.s .o (.c [0,3] (.s .o (.s .o (.c [0,3] (.s .o (.s .o (.cl (.s .o .o) .o))) .o))) .o)) (.s .o (.s (.s .o (.cl (.s .o .o) .o)) (.s .o (.s (.s .o (.cl (.s .o .o) .o)) (.s (.s .o (.c [14,15] .o .o)) (.s .o .o))))))))
theorem zGP {D:Dyn}(hD:DG D)(n:Nat):FI 122 (zKw D n):=fk n h122 hD (sc (zGB hD n) (sc (zKt hD n) sn)) Tryz.func122 (by kernel_rfl) (by kernel_rfl)
attribute [local irreducible] zD6 zAC zAB zKw
def h172:Hint:=(.s .o (.s (.s .o (.cl (.s .o (.s .o .o)) .o)) (.s .o (.s .o (.s .o .o)))))
def f172:=(⟨_,by conv=>rhs;reduce⟩:FD ⟨X,[]⟩ D n 172 Tryz.f172 h172 []).1
theorem VY {D:Dyn}(hD:DG D)(n:Nat):FI 172 (f172 D n):=fk n (ms h172) hD sn Tryz.func172 (by kernel_rfl) (by kernel_rfl)
attribute [local irreducible] f172
def s211:Tb:=⟨X,[(226,f226 D n),(118,f118 D n)]⟩
def zJ3 (D:Dyn)(n:Nat)(vs:List AV)(H:AH):Option (AV×AH):=
 fF (hd vs fun x0 vs=>nl vs <|
 bA (bxV 42 (.agg [(.int .i64 (.ofNat 0)),(.int .i64 (.ofNat 0)),(.int .u64 (.ofNat 0))])) H fun x2 H=>
 bV (KS x0) fun x7=>
 bV (jJ .neq x7 (.int .i64 (.ofNat 16))) fun x8=>
 cnd x8 (bV (xH [(0,1),(1,1),(2,1)] [(.int .i64 (.ofNat 0)),(.int .i64 (.ofNat 0)),(.int .u64 (.ofNat 0))] []) fun x9=>
 bR (stN 3 x2 x9 H) fun x9999 H=>
 bV (ldN 3 x2 H) fun x9002=>bV (some (.int .i64 (.ofNat 4))) fun x3=>some (.ret (.tuple [x9002,x3]),H))
 (bA (zMm 5 x0) H fun x11 H=>
 bV (s2a 16 x11) fun x12=>
 bV (ldN 16 x12 H) fun x13=>
 bA (bxV 232 (.agg (rep 16 [(.int .u8 (.ofNat 0))]))) H fun x4 H=>
 bR (stN 16 x4 x13 H) fun x9999_2 H=>
 bV (k9 16 1 x4 none (some (.int .i64 (.ofNat 4))) none) fun x14=>
 bV (k9 16 1 x4 (some (.int .i64 (.ofNat 4))) (some (.int .i64 (.ofNat 8))) none) fun x17=>
 bV (k9 16 1 x4 (some (.int .i64 (.ofNat 8))) none none) fun x20=>
 bA (bxV 42 (.agg [(.int .i64 (.ofNat 0)),(.int .i64 (.ofNat 0)),(.int .u64 (.ofNat 0))])) H fun x5 H=>
 bR (f226 D n [x14] H) fun x15 H=>
 bV (cvI .i64 x15) fun x16=>
 bR (f226 D n [x17] H) fun x18 H=>
 bV (cvI .i64 x18) fun x19=>
 bR (f226 D n [x20] H) fun x21 H=>
 bV (xH [(0,1),(1,1),(2,1)] [(.int .i64 (.ofNat 0)),(.int .i64 (.ofNat 0)),(.int .u64 (.ofNat 0))] [(0,x16),(1,x19),(2,x21)]) fun x22=>
 bR (stN 3 x5 x22 H) fun x9999_3 H=>
 bV (ldN 3 x5 H) fun x23=>
 bR (f118 D n [x23] H) fun x24 H=>
 bV (aun .not x24) fun x25=>
 cnd x25 (bV (xH [(0,1),(1,1),(2,1)] [(.int .i64 (.ofNat 0)),(.int .i64 (.ofNat 0)),(.int .u64 (.ofNat 0))] []) fun x26=>
 bR (stN 3 x2 x26 H) fun x9999_4 H=>
 bV (ldN 3 x2 H) fun x9002_2=>bV (some (.int .i64 (.ofNat 4))) fun x3_2=>some (.ret (.tuple [x9002_2,x3_2]),H))
 (bV (ldN 3 x5 H) fun x27=>
 bR (stN 3 x2 x27 H) fun x9999_5 H=>
 bV (ldN 3 x2 H) fun x9002_3=>bV (some (.int .i64 (.ofNat 0))) fun x3_3=>some (.ret (.tuple [x9002_3,x3_3]),H))))
def h211:Hint:=(.s .o (.s (.s .o (.cl (.s .o .o) .o)) (.s .o (.s .o (.s (.s .o (.cl (.s .o .o) .o)) (.s .o .o))))))
theorem zGs {D:Dyn}(hD:DG D)(n:Nat):FI 211 (zJ3 D n):=fk n h211 hD (sc (zBN hD n) (sc (zBZ hD n) sn)) Tryz.func211 (by kernel_rfl) (by kernel_rfl)
attribute [local irreducible] zJ3
def s174:Tb:=⟨X,[(172,f172 D n),(211,zJ3 D n)]⟩
def h174:Hint:=(.s .o (.s (.s .o (.cl .o .o)) (.s .o (.s (.s .o (.cl (.s .o .o) .o)) (.b [8,254,12,4095] .o)))))
def f174:=(⟨_,by conv=>rhs;reduce⟩:FD (s174 D n) D n 174 Tryz.f174 h174 []).1
theorem zGA {D:Dyn}(hD:DG D)(n:Nat):FI 174 (f174 D n):=fk n (ms h174) hD (sc (VY hD n) (sc (zGs hD n) sn)) Tryz.func174 (by kernel_rfl) (by kernel_rfl)
attribute [local irreducible] f174
def s62:Tb:=⟨X,[(109,f109 D n),(110,f110 D n)]⟩
def h62:Hint:=(.s .o (.s .o .o))
def f62:=(⟨_,by conv=>rhs;reduce⟩:FD (s62 D n) D n 62 Tryz.f62 h62 []).1
theorem zKp {D:Dyn}(hD:DG D)(n:Nat):FI 62 (f62 D n):=fk n (ms h62) hD (sc (dO hD n) (sc (ZX hD n) sn)) Tryz.func62 (by kernel_rfl) (by kernel_rfl)
attribute [local irreducible] f62
def s210:Tb:=⟨X,[(172,f172 D n)]⟩
def h210:Hint:=(.s .o (.s .o (.s (.s .o (.cl (.s .o .o) .o)) (.s .o .o))))
def f210:=(⟨_,by conv=>rhs;reduce⟩:FD (s210 D n) D n 210 Tryz.f210 h210 []).1
theorem zBO {D:Dyn}(hD:DG D)(n:Nat):FI 210 (f210 D n):=fk n (ms h210) hD (sc (VY hD n) sn) Tryz.func210 (by kernel_rfl) (by kernel_rfl)
attribute [local irreducible] f210
def s173:Tb:=⟨X,[(210,f210 D n)]⟩
def h173:Hint:=(.b [7,64,9,510,13,8191] .o)
def f173:=(⟨_,by conv=>rhs;reduce⟩:FD (s173 D n) D n 173 Tryz.f173 h173 []).1
theorem zM6 {D:Dyn}(hD:DG D)(n:Nat):FI 173 (f173 D n):=fk n (ms h173) hD (sc (zBO hD n) sn) Tryz.func173 (by kernel_rfl) (by kernel_rfl)
attribute [local irreducible] f173
def s175:Tb:=⟨X,[(210,f210 D n)]⟩
def h175:Hint:=(.b [7,64,9,510,13,8191] .o)
def f175:=(⟨_,by conv=>rhs;reduce⟩:FD (s175 D n) D n 175 Tryz.f175 h175 []).1
theorem zM5 {D:Dyn}(hD:DG D)(n:Nat):FI 175 (f175 D n):=fk n (ms h175) hD (sc (zBO hD n) sn) Tryz.func175 (by kernel_rfl) (by kernel_rfl)
attribute [local irreducible] f175
def zMP:Tb:=⟨X,[(172,f172 D n),(174,f174 D n),(62,f62 D n)]⟩
def zLP:Hint:=(.s .o (.s (.s .o (.cl (.s .o .o) .o)) (.s .o (.s .o (.s (.s .o (.cl (.s .o .o) .o)) (.s .o (.s (.s .o (.c [4,4,6,7,8] .o .o)) (.s (.s (.b [] .o) (.b [3,4,6] (.l [2,4,6,8,47,48] (.s .o (.s (.cr .o .o) (.s (.b0 (.s (.s .o (.b [1,4,6,8,47,48] (.l [0,4,6,8,47,48,50,51,52] (.s .o (.s (.cr .o .o) (.s (.b0 (.s .o .o)) .o)))))) (.s .o (.cl .o .o)))) .o)))))) (.s (.s .o (.cl (.s .o .o) .o)) (.s .o .o))))))))))
def uS:=(⟨_,by conv=>rhs;reduce⟩:PD (zMP D n) D n 123 Tryz.f123 zLP [] 0).1
attribute [local irreducible] uS
def uT:=(⟨_,by conv=>rhs;reduce⟩:PD (zMP D n) D n 123 Tryz.f123 zLP [uS D n] 1).1
attribute [local irreducible] uT
def wK:=(⟨_,by conv=>rhs;reduce⟩:PD (zMP D n) D n 123 Tryz.f123 zLP [uS D n,uT D n] 2).1
attribute [local irreducible] wK
def vR:=(⟨_,by conv=>rhs;reduce⟩:PD (zMP D n) D n 123 Tryz.f123 zLP [uS D n,uT D n,wK D n] 3).1
attribute [local irreducible] vR
def JY:=(⟨_,by conv=>rhs;reduce⟩:PD (zMP D n) D n 123 Tryz.f123 zLP [uS D n,uT D n,wK D n,vR D n] 4).1
attribute [local irreducible] JY
def f123:=(⟨_,by conv=>rhs;reduce⟩:FD (zMP D n) D n 123 Tryz.f123 zLP [uS D n,uT D n,wK D n,vR D n,JY D n]).1
theorem zGO {D:Dyn}(hD:DG D)(n:Nat):FI 123 (f123 D n):=fk n (ms zLP) hD (sc (VY hD n) (sc (zGA hD n) (sc (zKp hD n) sn))) Tryz.func123 (by kernel_rfl) (by kernel_rfl)
attribute [local irreducible] f123
def s77:Tb:=⟨X,[(122,zKw D n),(123,f123 D n)]⟩
def h77:Hint:=(.s .o (.s (.s .o (.cl (.s (.b [11,1535] .o) (.s (.s .o (.cl (.s .o .o) .o)) (.s .o .o))) .o)) (.s .o (.s (.s .o (.cl (.s .o .o) .o)) (.s (.s .o (.cl (.s .o .o) .o)) (.s .o .o))))))
def f77:=(⟨_,by conv=>rhs;reduce⟩:FD (s77 D n) D n 77 Tryz.f77 h77 []).1
theorem JQ {D:Dyn}(hD:DG D)(n:Nat):FI 77 (f77 D n):=fk n (ms h77) hD (sc (zGP hD n) (sc (zGO hD n) sn)) Tryz.func77 (by kernel_rfl) (by kernel_rfl)
attribute [local irreducible] f77
def h79:Hint:=(.s .o (.s .o (.s (.s .o (.b [2,5] (.l [1,1,2,5,9,10,11] (.s .o (.s (.cr .o .o) (.s (.b0 (.s .o (.s .o (.c [0,1,2,5,9,10,11] .o .o)))) .o)))))) (.s .o .o))))
def KU:=(⟨_,by conv=>rhs;reduce⟩:PD ⟨X,[]⟩ D n 79 Tryz.f79 h79 [] 0).1
attribute [local irreducible] KU
def JO:=(⟨_,by conv=>rhs;reduce⟩:PD ⟨X,[]⟩ D n 79 Tryz.f79 h79 [KU D n] 1).1
attribute [local irreducible] JO
def zGb:=(⟨_,by conv=>rhs;reduce⟩:PD ⟨X,[]⟩ D n 79 Tryz.f79 h79 [KU D n,JO D n] 2).1
attribute [local irreducible] zGb
def f79:=(⟨_,by conv=>rhs;reduce⟩:FD ⟨X,[]⟩ D n 79 Tryz.f79 h79 [KU D n,JO D n,zGb D n]).1
theorem JP {D:Dyn}(hD:DG D)(n:Nat):FI 79 (f79 D n):=fk n (ms h79) hD sn Tryz.func79 (by kernel_rfl) (by kernel_rfl)
attribute [local irreducible] f79
def h130:Hint:=(.s .o (.b [7,126,10,1023] .o))
def f130:=(⟨_,by conv=>rhs;reduce⟩:FD ⟨X,[]⟩ D n 130 Tryz.f130 h130 []).1
theorem zBW {D:Dyn}(hD:DG D)(n:Nat):FI 130 (f130 D n):=fk n (ms h130) hD sn Tryz.func130 (by kernel_rfl) (by kernel_rfl)
attribute [local irreducible] f130
def s212:Tb:=⟨X,[(137,f137 D n)]⟩
def h212:Hint:=(.s .o (.s (.s .o (.cl (.s .o .o) .o)) (.s (.s .o (.s .o (.cl (.s .o .o) .o))) (.s (.s .o (.cl (.s .o .o) .o)) (.s .o .o)))))
def f212:=(⟨_,by conv=>rhs;reduce⟩:FD (s212 D n) D n 212 Tryz.f212 h212 []).1
theorem zGr {D:Dyn}(hD:DG D)(n:Nat):FI 212 (f212 D n):=fk n (ms h212) hD (sc (VZ hD n) sn) Tryz.func212 (by kernel_rfl) (by kernel_rfl)
attribute [local irreducible] f212
def h180:Hint:=(.s .o (.s (.s .o (.c [1,0,1] .o .o)) (.s (.s .o (.s .o (.c [0,0] .o .o))) (.s .o .o))))
def JU:=(⟨_,by conv=>rhs;reduce⟩:PD ⟨X,[]⟩ D n 180 Tryz.f180 h180 [] 0).1
attribute [local irreducible] JU
def X4:=(⟨_,by conv=>rhs;reduce⟩:PD ⟨X,[]⟩ D n 180 Tryz.f180 h180 [JU D n] 1).1
attribute [local irreducible] X4
def f180:=(⟨_,by conv=>rhs;reduce⟩:FD ⟨X,[]⟩ D n 180 Tryz.f180 h180 [JU D n,X4 D n]).1
theorem zGx {D:Dyn}(hD:DG D)(n:Nat):FI 180 (f180 D n):=fk n (ms h180) hD sn Tryz.func180 (by kernel_rfl) (by kernel_rfl)
attribute [local irreducible] f180
def zMO:Tb:=⟨X,[(180,f180 D n)]⟩
def zLN:Hint:=(.s .o (.s .o (.s (.s .o (.b [4,0,3] (.l [1,0,3,9,10,11] (.s .o (.s (.cr .o .o) (.s (.b0 (.s .o (.s .o (.s .o (.c [0,0,3,9,10,11] .o .o))))) .o)))))) (.s .o (.s (.s .o (.b [3,6] (.l [2,6,25,26,27] (.s .o (.s (.cr .o .o) (.s (.b0 (.s .o .o)) .o)))))) (.s .o .o))))))
def aH:=(⟨_,by conv=>rhs;reduce⟩:PD (zMO D n) D n 132 Tryz.f132 zLN [] 0).1
attribute [local irreducible] aH
def fS:=(⟨_,by conv=>rhs;reduce⟩:PD (zMO D n) D n 132 Tryz.f132 zLN [aH D n] 1).1
attribute [local irreducible] fS
def fR:=(⟨_,by conv=>rhs;reduce⟩:PD (zMO D n) D n 132 Tryz.f132 zLN [aH D n,fS D n] 2).1
attribute [local irreducible] fR
def X7:=(⟨_,by conv=>rhs;reduce⟩:PD (zMO D n) D n 132 Tryz.f132 zLN [aH D n,fS D n,fR D n] 3).1
attribute [local irreducible] X7
def zAz:=(⟨_,by conv=>rhs;reduce⟩:PD (zMO D n) D n 132 Tryz.f132 zLN [aH D n,fS D n,fR D n,X7 D n] 4).1
attribute [local irreducible] zAz
def f132:=(⟨_,by conv=>rhs;reduce⟩:FD (zMO D n) D n 132 Tryz.f132 zLN [aH D n,fS D n,fR D n,X7 D n,zAz D n]).1
theorem U0 {D:Dyn}(hD:DG D)(n:Nat):FI 132 (f132 D n):=fk n (ms zLN) hD (sc (zGx hD n) sn) Tryz.func132 (by kernel_rfl) (by kernel_rfl)
attribute [local irreducible] f132
def h214:Hint:=(.s .o (.s (.s .o (.c [1,0,1] .o .o)) (.s (.s .o (.s .o (.c [0,0] .o .o))) (.s .o .o))))
def JT:=(⟨_,by conv=>rhs;reduce⟩:PD ⟨X,[]⟩ D n 214 Tryz.f214 h214 [] 0).1
attribute [local irreducible] JT
def X2:=(⟨_,by conv=>rhs;reduce⟩:PD ⟨X,[]⟩ D n 214 Tryz.f214 h214 [JT D n] 1).1
attribute [local irreducible] X2
def f214:=(⟨_,by conv=>rhs;reduce⟩:FD ⟨X,[]⟩ D n 214 Tryz.f214 h214 [JT D n,X2 D n]).1
theorem zGp {D:Dyn}(hD:DG D)(n:Nat):FI 214 (f214 D n):=fk n (ms h214) hD sn Tryz.func214 (by kernel_rfl) (by kernel_rfl)
attribute [local irreducible] f214
def zMN:Tb:=⟨X,[(214,f214 D n)]⟩
def zLM:Hint:=(.s .o (.s .o (.s (.s .o (.b [4,0,3] (.l [1,0,3,9,10,11] (.s .o (.s (.cr .o .o) (.s (.b0 (.s .o (.s .o (.s .o (.c [0,0,3,9,10,11] .o .o))))) .o)))))) (.s .o (.s (.s .o (.b [3,6] (.l [2,6,25,26,27] (.s .o (.s (.cr .o .o) (.s (.b0 (.s .o .o)) .o)))))) (.s .o .o))))))
def aD:=(⟨_,by conv=>rhs;reduce⟩:PD (zMN D n) D n 178 Tryz.f178 zLM [] 0).1
attribute [local irreducible] aD
def fQ:=(⟨_,by conv=>rhs;reduce⟩:PD (zMN D n) D n 178 Tryz.f178 zLM [aD D n] 1).1
attribute [local irreducible] fQ
def fP:=(⟨_,by conv=>rhs;reduce⟩:PD (zMN D n) D n 178 Tryz.f178 zLM [aD D n,fQ D n] 2).1
attribute [local irreducible] fP
def X5:=(⟨_,by conv=>rhs;reduce⟩:PD (zMN D n) D n 178 Tryz.f178 zLM [aD D n,fQ D n,fP D n] 3).1
attribute [local irreducible] X5
def zAw:=(⟨_,by conv=>rhs;reduce⟩:PD (zMN D n) D n 178 Tryz.f178 zLM [aD D n,fQ D n,fP D n,X5 D n] 4).1
attribute [local irreducible] zAw
def f178:=(⟨_,by conv=>rhs;reduce⟩:FD (zMN D n) D n 178 Tryz.f178 zLM [aD D n,fQ D n,fP D n,X5 D n,zAw D n]).1
theorem zBT {D:Dyn}(hD:DG D)(n:Nat):FI 178 (f178 D n):=fk n (ms zLM) hD (sc (zGp hD n) sn) Tryz.func178 (by kernel_rfl) (by kernel_rfl)
attribute [local irreducible] f178
def s176:Tb:=⟨X,[(109,f109 D n),(212,f212 D n),(132,f132 D n),(178,f178 D n)]⟩
def h176:Hint:=(.s .o (.s (.s .o (.cl (.s .o .o) .o)) (.s (.s .o (.cl (.s (.c [5,31,11,2047,13,8191] (.l [0,1,2,3,4,6,7,8,9,10,5,11,12,13,14] .o) .o) .o) .o)) (.s (.c [7,127,13,8191,15,32767] (.l [0,1,2,3,4,5,6,8,9,10,11,12,7,13,14,15,16] .o) .o) .o))))
def f176:=(⟨_,by conv=>rhs;reduce⟩:FD (s176 D n) D n 176 Tryz.f176 h176 []).1
theorem zGz {D:Dyn}(hD:DG D)(n:Nat):FI 176 (f176 D n):=fk n (ms h176) hD (sc (dO hD n) (sc (zGr hD n) (sc (U0 hD n) (sc (zBT hD n) sn)))) Tryz.func176 (by kernel_rfl) (by kernel_rfl)
attribute [local irreducible] f176
def s129:Tb:=⟨X,[(110,f110 D n),(77,f77 D n),(130,f130 D n),(176,f176 D n),(177,f177 D n),(132,f132 D n),(179,f179 D n),(178,f178 D n)]⟩
def zNX:Hint:=(.s .o (.s .o (.s (.s .o (.c [2,0,5,7,8,10,11] (.s .o (.s (.s .o (.c [1,0,2,5,7,8,12] .o .o)) (.s (.c [9,511,14,12287] (.l [0,1,2,3,4,5,6,7,8,13,9,10,11,12,14,15] .o) .o) (.s (.s .o (.cl (.s .o .o) .o)) (.s .o (.s .o (.s (.s .o (.c [0,0,5,7,8,10,11,14] (.b [7,127,11,1023] .o) (.b [7,127,11,1023] .o))) (.s .o (.cl (.s .o .o) .o))))))))) .o)) (.s .o (.s (.s .o (.cl (.s .o .o) .o)) (.s (.c [12,4095,20,794623,26,67108863,28,268435455] (.l [0,1,2,3,4,5,6,7,8,9,10,11,13,14,15,16,17,18,19,21,22,23,24,12,20,25,26,27,28,29] .o) .o) .o))))))
def QL:=(⟨_,by conv=>rhs;reduce⟩:PD (s129 D n) D n 129 Tryz.f129 zNX [] 0).1
attribute [local irreducible] QL
def JX:=(⟨_,by conv=>rhs;reduce⟩:PD (s129 D n) D n 129 Tryz.f129 zNX [QL D n] 1).1
attribute [local irreducible] JX
def QK:=(⟨_,by conv=>rhs;reduce⟩:PD (s129 D n) D n 129 Tryz.f129 zNX [QL D n,JX D n] 2).1
attribute [local irreducible] QK
def f129:=(⟨_,by conv=>rhs;reduce⟩:FD (s129 D n) D n 129 Tryz.f129 zNX [QL D n,JX D n,QK D n]).1
theorem zGL {D:Dyn}(hD:DG D)(n:Nat):FI 129 (f129 D n):=fk n (ms zNX) hD (sc (ZX hD n) (sc (JQ hD n) (sc (zBW hD n) (sc (zGz hD n) (sc (zBU hD n) (sc (U0 hD n) (sc (zBS hD n) (sc (zBT hD n) sn)))))))) Tryz.func129 (by kernel_rfl) (by kernel_rfl)
attribute [local irreducible] f129
def s128:Tb:=⟨X,[(76,f76 D n),(77,f77 D n),(79,f79 D n),(129,f129 D n),(130,f130 D n)]⟩
def h128:Hint:=(.s .o (.s (.s .o (.s (.b [2,2] .o) (.cl (.s .o .o) .o))) (.s .o (.s (.s .o (.cl (.s .o .o) .o)) (.s (.s .o (.c [1,6,7,8,10,11] .o (.s .o (.s .o (.s (.b [6,63,10,511] .o) (.s .o (.c [0,6,7,8,10,11] .o .o))))))) (.s (.s .o (.cl (.s .o .o) .o)) (.s .o (.s .o .o))))))))
def aI:=(⟨_,by conv=>rhs;reduce⟩:PD (s128 D n) D n 128 Tryz.f128 h128 [] 0).1
attribute [local irreducible] aI
def bT:=(⟨_,by conv=>rhs;reduce⟩:PD (s128 D n) D n 128 Tryz.f128 h128 [aI D n] 1).1
attribute [local irreducible] bT
def f128:=(⟨_,by conv=>rhs;reduce⟩:FD (s128 D n) D n 128 Tryz.f128 h128 [aI D n,bT D n]).1
theorem zM9 {D:Dyn}(hD:DG D)(n:Nat):FI 128 (f128 D n):=fk n (ms h128) hD (sc (zAl hD n) (sc (JQ hD n) (sc (JP hD n) (sc (zGL hD n) (sc (zBW hD n) sn))))) Tryz.func128 (by kernel_rfl) (by kernel_rfl)
attribute [local irreducible] f128
def s82:Tb:=⟨X,[(127,f127 D n),(126,f126 D n),(131,f131 D n)]⟩
def h82:Hint:=(.s .o (.s (.b [9,511] .o) (.s (.s .o (.cl (.s .o (.s (.s .o (.cl (.s .o .o) .o)) (.s (.b [3,6,4,15] .o) (.s .o .o)))) .o)) (.s .o (.s .o (.s .o (.s (.c [5,31,10,767] (.l [0,1,2,3,4,9,5,6,7,8,10,11] .o) .o) (.s (.s .o (.cl (.s .o .o) .o)) (.s .o .o)))))))))
def f82:=(⟨_,by conv=>rhs;reduce⟩:FD (s82 D n) D n 82 Tryz.f82 h82 []).1
theorem zGa {D:Dyn}(hD:DG D)(n:Nat):FI 82 (f82 D n):=fk n (ms h82) hD (sc (U1 hD n) (sc (zBX hD n) (sc (zGK hD n) sn))) Tryz.func82 (by kernel_rfl) (by kernel_rfl)
attribute [local irreducible] f82
end Go.Eng.Sh
end
end
section
noncomputable section
namespace Go.Eng.Sh
open Go.Proofs
set_option maxRecDepth 100000
set_option maxHeartbeats 4000000
variable (D:Dyn)(n:Nat)
attribute [local irreducible] bV bR hd cnd jn jb yJ wnt chk KR bA jJ YE KC bC eqP eqS eqM eqF eqA zO4 ldN ld1 stN cvI zO9 zE6 zMm V7 kX k9 vX dK KT zBD zFQ fd1 fdN fAd KS lnSl ZQ apP apZ cpy xH zKE pk3 s2a bxV aU zHY lkM upM dlM mkM callV nl fF tld zMe uD U4 uZ zCQ rfC mn2 mx2 aun qX xZ qZ isW aveq vV f85 f32 f86 JR zGh f34 f118 aJ zAD f119 f72 f18 f73 f127 QM fT zAA f126 bU fV X9 zAE f110 f137 xM uU aK fW JZ bW f109 vQ uR JS QG f227 f108 f81 X3 f213 QH zAx f177 aC zAv f179 JW X8 f131 f76 QF zAp f230 f225 f208 aB X1 f226 zGG zJ5 f171 f120 f74 f25 zD6 zAC zAB zKw f172 zJ3 f174 f62 f210 f173 f175 uS uT wK vR JY f123 f77 KU JO zGb f79 f130 f212 JU X4 f180 aH fS fR X7 zAz f132 JT X2 f214 aD fQ fP X5 zAw f178 f176 QL JX QK f129 aI bT f128 f82
def h138:Hint:=(.s .o (.s .o (.s .o (.s (.s .o (.cl (.s .o .o) .o)) (.s .o (.s (.s .o (.cl (.s .o .o) .o)) (.s (.s .o (.cl (.s .o (.s .o (.s (.b [8,255] .o) (.s .o .o)))) .o)) (.s .o (.s (.s .o (.cl (.s (.b [8,255] .o) (.s .o (.s .o .o))) .o)) (.s .o (.s .o (.s .o .o))))))))))))
def f138:=(⟨_,by conv=>rhs;reduce⟩:FD ⟨X,[]⟩ D n 138 Tryz.f138 h138 []).1
theorem zM8 {D:Dyn}(hD:DG D)(n:Nat):FI 138 (f138 D n):=fk n (ms h138) hD sn Tryz.func138 (by kernel_rfl) (by kernel_rfl)
def zMT (D:Dyn)(n:Nat)(vs:List AV)(H:AH):Option (AV×AH):=zLJ (f138 D n) vs H
theorem zFG {D:Dyn}(hD:DG D)(n:Nat):FI 138 (zMT D n):=zLI (by kernel_rfl) (zM8 hD n)
attribute [local irreducible] f138 zMT
def s89:Tb:=⟨X,[(109,f109 D n),(137,f137 D n),(108,f108 D n),(79,f79 D n),(138,zMT D n)]⟩
def h89:Hint:=(.s .o (.s (.s .o (.cl (.s .o .o) .o)) (.s (.c [2,3,5,31,8,255] (.l [0,1,3,4,7,2,5,6,8] .o) .o) (.s .o (.s (.s .o (.cl (.s .o (.s .o .o)) .o)) (.s .o (.s .o (.s .o .o))))))))
def f89:=(⟨_,by conv=>rhs;reduce⟩:FD (s89 D n) D n 89 Tryz.f89 h89 []).1
theorem zKi {D:Dyn}(hD:DG D)(n:Nat):FI 89 (f89 D n):=fk n (ms h89) hD (sc (dO hD n) (sc (VZ hD n) (sc (zC0 hD n) (sc (JP hD n) (sc (zFG hD n) sn))))) Tryz.func89 (by kernel_rfl) (by kernel_rfl)
attribute [local irreducible] f89
def s88:Tb:=⟨X,[(89,f89 D n)]⟩
def h88:Hint:=(.s .o (.s .o .o))
def f88:=(⟨_,by conv=>rhs;reduce⟩:FD (s88 D n) D n 88 Tryz.f88 h88 []).1
theorem zO1 {D:Dyn}(hD:DG D)(n:Nat):FI 88 (f88 D n):=fk n (ms h88) hD (sc (zKi hD n) sn) Tryz.func88 (by kernel_rfl) (by kernel_rfl)
attribute [local irreducible] f88
def s38:Tb:=⟨X,[(73,f73 D n),(82,f82 D n)]⟩
def h38:Hint:=(.s .o (.s (.s .o (.cl (.s .o .o) .o)) (.s (.s .o (.cl (.s .o .o) .o)) (.s .o .o))))
def f38:=(⟨_,by conv=>rhs;reduce⟩:FD (s38 D n) D n 38 Tryz.f38 h38 []).1
theorem zGg {D:Dyn}(hD:DG D)(n:Nat):FI 38 (f38 D n):=fk n (ms h38) hD (sc (cZ hD n) (sc (zGa hD n) sn)) Tryz.func38 (by kernel_rfl) (by kernel_rfl)
attribute [local irreducible] f38
def s19:Tb:=⟨X,[(73,f73 D n)]⟩
def h19:Hint:=(.s .o (.s (.s .o (.cl (.s .o .o) .o)) (.s .o .o)))
def f19:=(⟨_,by conv=>rhs;reduce⟩:FD (s19 D n) D n 19 Tryz.f19 h19 []).1
theorem zD1 {D:Dyn}(hD:DG D)(n:Nat):FI 19 (f19 D n):=fk n (ms h19) hD (sc (cZ hD n) sn) Tryz.func19 (by kernel_rfl) (by kernel_rfl)
attribute [local irreducible] f19
def s24:Tb:=⟨X,[(73,f73 D n)]⟩
def h24:Hint:=(.s .o (.s (.s .o (.cl (.s .o .o) .o)) (.s .o .o)))
def f24:=(⟨_,by conv=>rhs;reduce⟩:FD (s24 D n) D n 24 Tryz.f24 h24 []).1
theorem zCZ {D:Dyn}(hD:DG D)(n:Nat):FI 24 (f24 D n):=fk n (ms h24) hD (sc (cZ hD n) sn) Tryz.func24 (by kernel_rfl) (by kernel_rfl)
attribute [local irreducible] f24
def h124:Hint:=(.s .o (.s (.s .o (.b [1] (.l [0,0,1,7,8] (.s .o (.s (.cr .o .o) (.s (.b0 (.s .o (.s .o (.cl (.s .o .o) .o)))) .o)))))) (.s .o .o)))
def fU:=(⟨_,by conv=>rhs;reduce⟩:PD ⟨X,[]⟩ D n 124 Tryz.f124 h124 [] 0).1
attribute [local irreducible] fU
def zD5:=(⟨_,by conv=>rhs;reduce⟩:PD ⟨X,[]⟩ D n 124 Tryz.f124 h124 [fU D n] 1).1
attribute [local irreducible] zD5
def f124:=(⟨_,by conv=>rhs;reduce⟩:FD ⟨X,[]⟩ D n 124 Tryz.f124 h124 [fU D n,zD5 D n]).1
theorem zGN {D:Dyn}(hD:DG D)(n:Nat):FI 124 (f124 D n):=fk n (ms h124) hD sn Tryz.func124 (by kernel_rfl) (by kernel_rfl)
attribute [local irreducible] f124
def s78:Tb:=⟨X,[(124,f124 D n)]⟩
def h78:Hint:=(.s .o (.s (.s .o (.cl (.s .o .o) .o)) (.s .o (.s (.s .o (.cl (.s .o .o) .o)) (.s .o .o)))))
def f78:=(⟨_,by conv=>rhs;reduce⟩:FD (s78 D n) D n 78 Tryz.f78 h78 []).1
theorem zKm {D:Dyn}(hD:DG D)(n:Nat):FI 78 (f78 D n):=fk n (ms h78) hD (sc (zGN hD n) sn) Tryz.func78 (by kernel_rfl) (by kernel_rfl)
attribute [local irreducible] f78
def s27:Tb:=⟨X,[(73,f73 D n),(76,f76 D n),(77,f77 D n),(78,f78 D n),(79,f79 D n)]⟩
def h27:Hint:=(.s .o (.s (.s .o (.cl (.s .o .o) .o)) (.s (.s .o (.cl (.s .o .o) .o)) (.s (.s .o (.cl (.s .o .o) .o)) (.s .o (.s (.s .o (.b [1] (.l [0,0,1,6,32,33] (.s .o (.s (.cr .o .o) (.s (.b0 (.s .o (.s (.s .o (.cl (.s .o .o) .o)) (.s (.s .o (.cl (.s .o (.s (.s .o (.cl (.s .o .o) .o)) (.s .o .o))) .o)) (.b [4,12,7,127] .o))))) .o)))))) (.s .o .o)))))))
def zAo:=(⟨_,by conv=>rhs;reduce⟩:PD (s27 D n) D n 27 Tryz.f27 h27 [] 0).1
attribute [local irreducible] zAo
def zM1:=(⟨_,by conv=>rhs;reduce⟩:PD (s27 D n) D n 27 Tryz.f27 h27 [zAo D n] 1).1
attribute [local irreducible] zM1
def f27:=(⟨_,by conv=>rhs;reduce⟩:FD (s27 D n) D n 27 Tryz.f27 h27 [zAo D n,zM1 D n]).1
theorem zKr {D:Dyn}(hD:DG D)(n:Nat):FI 27 (f27 D n):=fk n (ms h27) hD (sc (cZ hD n) (sc (zAl hD n) (sc (JQ hD n) (sc (zKm hD n) (sc (JP hD n) sn))))) Tryz.func27 (by kernel_rfl) (by kernel_rfl)
attribute [local irreducible] f27
def s21:Tb:=⟨X,[(27,f27 D n)]⟩
def h21:Hint:=(.s .o (.s .o (.s .o .o)))
def f21:=(⟨_,by conv=>rhs;reduce⟩:FD (s21 D n) D n 21 Tryz.f21 h21 []).1
theorem zGo {D:Dyn}(hD:DG D)(n:Nat):FI 21 (f21 D n):=fk n (ms h21) hD (sc (zKr hD n) sn) Tryz.func21 (by kernel_rfl) (by kernel_rfl)
attribute [local irreducible] f21
def h148:Hint:=(.s .o (.b [1] (.l [0,0,1,3] (.s (.s .o (.cr .o .o)) (.s (.b0 (.s .o (.cl .o .o))) .o)))))
def QJ:=(⟨_,by conv=>rhs;reduce⟩:PD ⟨X,[]⟩ D n 148 Tryz.f148 h148 [] 0).1
attribute [local irreducible] QJ
def zD3:=(⟨_,by conv=>rhs;reduce⟩:PD ⟨X,[]⟩ D n 148 Tryz.f148 h148 [QJ D n] 1).1
attribute [local irreducible] zD3
def f148:=(⟨_,by conv=>rhs;reduce⟩:FD ⟨X,[]⟩ D n 148 Tryz.f148 h148 [QJ D n,zD3 D n]).1
theorem zM7 {D:Dyn}(hD:DG D)(n:Nat):FI 148 (f148 D n):=fk n (ms h148) hD sn Tryz.func148 (by kernel_rfl) (by kernel_rfl)
attribute [local irreducible] f148
def h95:Hint:=(.s .o (.s .o .o))
def f95:=(⟨_,by conv=>rhs;reduce⟩:FD ⟨X,[]⟩ D n 95 Tryz.f95 h95 []).1
theorem zG9 {D:Dyn}(hD:DG D)(n:Nat):FI 95 (f95 D n):=fk n (ms h95) hD sn Tryz.func95 (by kernel_rfl) (by kernel_rfl)
attribute [local irreducible] f95
def s41:Tb:=⟨X,[(73,f73 D n),(76,f76 D n),(77,f77 D n),(79,f79 D n),(95,f95 D n)]⟩
def h41:Hint:=(.s .o (.s (.s .o (.cl (.s .o .o) .o)) (.s (.s .o (.cl (.s .o .o) .o)) (.s .o (.s (.s .o (.b [2,4,6] (.l [1,0,1,4,6,28,29] (.s .o (.s (.cr .o .o) (.s (.b0 (.s (.s .o (.cl (.s .o .o) .o)) (.s .o (.s (.s .o (.cl (.s .o .o) .o)) (.s .o (.s .o (.s (.s .o (.cl (.s (.b [11,2047] .o) .o) .o)) (.s .o (.c [0,0,1,4,6,28,29] (.s .o (.b0 (.rf 0 [6]))) .o))))))))) .o)))))) (.s (.s .o (.cl (.s .o .o) .o)) (.s .o .o)))))))
def zBM:=(⟨_,by conv=>rhs;reduce⟩:PD (s41 D n) D n 41 Tryz.f41 h41 [] 0).1
attribute [local irreducible] zBM
def KW:=(⟨_,by conv=>rhs;reduce⟩:PD (s41 D n) D n 41 Tryz.f41 h41 [zBM D n] 1).1
attribute [local irreducible] KW
def zJ1:=(⟨_,by conv=>rhs;reduce⟩:PD (s41 D n) D n 41 Tryz.f41 h41 [zBM D n,KW D n] 2).1
attribute [local irreducible] zJ1
def f41:=(⟨_,by conv=>rhs;reduce⟩:FD (s41 D n) D n 41 Tryz.f41 h41 [zBM D n,KW D n,zJ1 D n]).1
theorem zGf {D:Dyn}(hD:DG D)(n:Nat):FI 41 (f41 D n):=fk n (ms h41) hD (sc (cZ hD n) (sc (zAl hD n) (sc (JQ hD n) (sc (JP hD n) (sc (zG9 hD n) sn))))) Tryz.func41 (by kernel_rfl) (by kernel_rfl)
def zK7:Hint:= .o
def zK6:Hint:=(.b0 .o)
def BR:=(⟨_,by conv=>rhs;reduce⟩:RD (s41 D n) D n 41 0 [6] [0] zK7 zK6 []).1
theorem zIq (D:Dyn)(n:Nat):BR D n=zMQ (s41 D n) D n 41 0 [6] [0] (ms zK7) (ms zK6):=by kernel_rfl
theorem zIp {D:Dyn}(hD:DG D)(n:Nat):RS 41 0 (BR D n):=VE X_ok hD (sc (cZ hD n) (sc (zAl hD n) (sc (JQ hD n) (sc (JP hD n) (sc (zG9 hD n) sn))))) (by kernel_rfl) (zIq D n)
attribute [local irreducible] f41 BR
def h23:Hint:=(.s .o (.s (.s .o (.cl (.s .o .o) .o)) (.s .o .o)))
def f23:=(⟨_,by conv=>rhs;reduce⟩:FD ⟨X,[]⟩ D n 23 Tryz.f23 h23 []).1
theorem zD0 {D:Dyn}(hD:DG D)(n:Nat):FI 23 (f23 D n):=fk n (ms h23) hD sn Tryz.func23 (by kernel_rfl) (by kernel_rfl)
attribute [local irreducible] f23
def h193:Hint:=(.s .o .o)
def f193:=(⟨_,by conv=>rhs;reduce⟩:FD ⟨X,[]⟩ D n 193 Tryz.f193 h193 []).1
theorem zM4 {D:Dyn}(hD:DG D)(n:Nat):FI 193 (f193 D n):=fk n (ms h193) hD sn Tryz.func193 (by kernel_rfl) (by kernel_rfl)
attribute [local irreducible] f193
def s194:Tb:=⟨X,[(72,f72 D n)]⟩
def h194:Hint:=(.s .o (.s .o (.s (.s .o (.c [0,2,4] .o .o)) .o)))
def zD2:=(⟨_,by conv=>rhs;reduce⟩:PD (s194 D n) D n 194 Tryz.f194 h194 [] 0).1
attribute [local irreducible] zD2
def f194:=(⟨_,by conv=>rhs;reduce⟩:FD (s194 D n) D n 194 Tryz.f194 h194 [zD2 D n]).1
theorem zM3 {D:Dyn}(hD:DG D)(n:Nat):FI 194 (f194 D n):=fk n (ms h194) hD (sc (zGd hD n) sn) Tryz.func194 (by kernel_rfl) (by kernel_rfl)
attribute [local irreducible] f194
def zNr:Tb:=⟨X,[(109,f109 D n),(110,f110 D n)]⟩
def zMW:Hint:=(.s .o (.s (.s .o (.cl (.s .o .o) .o)) (.s (.s .o (.cl (.s .o .o) .o)) (.s .o (.s .o (.s .o (.s .o (.s (.s .o (.c [3,1,4,5,6,7] .o .o)) (.s (.s .o (.b [2,4,5] (.l [1,1,4,5,6,7,38,39,40] (.s .o (.s (.cr .o .o) (.s (.b0 (.s .o (.s .o (.s .o (.c [0,1,4,5,6,7,38,39,40] .o .o))))) .o)))))) (.s (.s .o (.cl (.s (.b [] .o) .o) .o)) (.s .o .o)))))))))))
def QI:=(⟨_,by conv=>rhs;reduce⟩:PD (zNr D n) D n 149 Tryz.f149 zMW [] 0).1
attribute [local irreducible] QI
def uC:=(⟨_,by conv=>rhs;reduce⟩:PD (zNr D n) D n 149 Tryz.f149 zMW [QI D n] 1).1
attribute [local irreducible] uC
def X6:=(⟨_,by conv=>rhs;reduce⟩:PD (zNr D n) D n 149 Tryz.f149 zMW [QI D n,uC D n] 2).1
attribute [local irreducible] X6
def zAy:=(⟨_,by conv=>rhs;reduce⟩:PD (zNr D n) D n 149 Tryz.f149 zMW [QI D n,uC D n,X6 D n] 3).1
attribute [local irreducible] zAy
def f149:=(⟨_,by conv=>rhs;reduce⟩:FD (zNr D n) D n 149 Tryz.f149 zMW [QI D n,uC D n,X6 D n,zAy D n]).1
theorem zGJ {D:Dyn}(hD:DG D)(n:Nat):FI 149 (f149 D n):=fk n (ms zMW) hD (sc (dO hD n) (sc (ZX hD n) sn)) Tryz.func149 (by kernel_rfl) (by kernel_rfl)
attribute [local irreducible] f149
def h207:Hint:=(.s (.s (.b [] .o) (.cl .o .o)) (.s .o (.b [1] (.l [0,0,1,2,5] (.s (.s .o (.cr .o .o)) (.s (.b0 (.s (.b [11,2047] .o) (.cl .o .o))) .o))))))
def xL:=(⟨_,by conv=>rhs;reduce⟩:PD ⟨X,[]⟩ D n 207 Tryz.f207 h207 [] 0).1
attribute [local irreducible] xL
def zAt:=(⟨_,by conv=>rhs;reduce⟩:PD ⟨X,[]⟩ D n 207 Tryz.f207 h207 [xL D n] 1).1
attribute [local irreducible] zAt
def f207:=(⟨_,by conv=>rhs;reduce⟩:FD ⟨X,[]⟩ D n 207 Tryz.f207 h207 [xL D n,zAt D n]).1
theorem zM2 {D:Dyn}(hD:DG D)(n:Nat):FI 207 (f207 D n):=fk n (ms h207) hD sn Tryz.func207 (by kernel_rfl) (by kernel_rfl)
attribute [local irreducible] f207
def h168:Hint:=(.s .o (.s .o .o))
def f168:=(⟨_,by conv=>rhs;reduce⟩:FD ⟨X,[]⟩ D n 168 Tryz.f168 h168 []).1
theorem JV {D:Dyn}(hD:DG D)(n:Nat):FI 168 (f168 D n):=fk n (ms h168) hD sn Tryz.func168 (by kernel_rfl) (by kernel_rfl)
attribute [local irreducible] f168
def zNq:Tb:=⟨X,[(168,f168 D n),(86,f86 D n)]⟩
def h195:Hint:=(.s .o (.s (.s .o (.cl (.s .o .o) .o)) (.s (.s .o (.b [1,2,3] (.l [0,1,2,3,13,14] (.s .o (.s (.cr .o .o) (.s (.b0 (.s .o (.s .o (.b0 (.rf 0 [1,2,3]))))) .o)))))) (.s .o .o))))
def fO:=(⟨_,by conv=>rhs;reduce⟩:PD (zNq D n) D n 195 Tryz.f195 h195 [] 0).1
attribute [local irreducible] fO
def zGv:=(⟨_,by conv=>rhs;reduce⟩:PD (zNq D n) D n 195 Tryz.f195 h195 [fO D n] 1).1
attribute [local irreducible] zGv
def f195:=(⟨_,by conv=>rhs;reduce⟩:FD (zNq D n) D n 195 Tryz.f195 h195 [fO D n,zGv D n]).1
theorem zGw {D:Dyn}(hD:DG D)(n:Nat):FI 195 (f195 D n):=fk n (ms h195) hD (sc (JV hD n) (sc (X0 hD n) sn)) Tryz.func195 (by kernel_rfl) (by kernel_rfl)
def zFb:Hint:= .o
def zFa:Hint:=(.b0 (.s .o (.s .o (.s .o .o))))
def QA:=(⟨_,by conv=>rhs;reduce⟩:RD (zNq D n) D n 195 0 [1,2,3] [0] zFb zFa []).1
theorem zFd (D:Dyn)(n:Nat):QA D n=zMQ (zNq D n) D n 195 0 [1,2,3] [0] (ms zFb) (ms zFa):=by kernel_rfl
theorem zFc {D:Dyn}(hD:DG D)(n:Nat):RS 195 0 (QA D n):=VE X_ok hD (sc (JV hD n) (sc (X0 hD n) sn)) (by kernel_rfl) (zFd D n)
attribute [local irreducible] f195 QA
def h75:Hint:=(.s .o (.s (.s .o (.cl (.s .o .o) .o)) (.s .o (.s (.s .o (.cl (.s .o .o) .o)) (.s .o (.s .o .o))))))
def f75:=(⟨_,by conv=>rhs;reduce⟩:FD ⟨X,[]⟩ D n 75 Tryz.f75 h75 []).1
theorem zKn {D:Dyn}(hD:DG D)(n:Nat):FI 75 (f75 D n):=fk n (ms h75) hD sn Tryz.func75 (by kernel_rfl) (by kernel_rfl)
attribute [local irreducible] f75
def s26:Tb:=⟨X,[(74,f74 D n),(75,f75 D n)]⟩
def f26 (D:Dyn)(n:Nat)(vs:List AV)(H:AH):Option (AV×AH):=
 fF (hd vs fun x0 vs=>hd vs fun x1 vs=>hd vs fun x2 vs=>nl vs <|
 bA (bxV 55 x2) H fun x5 H=>
 bR (f74 D n [x0,x1] H) fun x10 H=>
 bV (jJ .neq x10 (.int .i64 (.ofNat 0))) fun x12=>
 cnd x12 (bV (some x10) fun x6=>some (.ret x6,H))
 (bV (xZ x0) fun x15=>
 bV (fAd 3 x15) fun x16=>
 bV (ld1 x16 H) fun x17=>
 bV (xZ x0) fun x20=>
 bV (fAd 2 x20) fun x21=>
 bV (ld1 x21 H) fun x22=>
 bV (lnSl x22) fun x23=>
 bR (upM [6] x17 x1 x23 H) fun x9999 H=>
 bV (xZ x0) fun x26=>
 bV (fAd 2 x26) fun x27=>
 bV (ld1 x27 H) fun x28=>
 bV (ldN 512 x5 H) fun x30=>
 bV (xH [(0,1),(1,512)] ([(.int .i64 (.ofNat 0))]++rep 512 [(.int .u8 (.ofNat 0))]) [(0,x1),(1,x30)]) fun x31=>
 bA (aU 153 513 1 ([(.int .i64 (.ofNat 0))]++rep 512 [(.int .u8 (.ofNat 0))]) [(0,x31)]) H fun x32 H=>
 bR (apP 153 513 520 x28 x32 H) fun x33 H=>
 bV (xZ x0) fun x34=>
 bV (fAd 2 x34) fun x35=>
 bR (stN 1 x35 x33 H) fun x9999_2 H=>
 bR (f75 D n [x0] H) fun x37 H=>
 bV (some x37) fun x6_2=>some (.ret x6_2,H)))
def h26:Hint:=(.s .o (.s (.s .o (.s .o (.cl (.s .o .o) .o))) (.s .o (.s .o (.s .o .o)))))
theorem zKs {D:Dyn}(hD:DG D)(n:Nat):FI 26 (f26 D n):=fk n h26 hD (sc (zGc hD n) (sc (zKn hD n) sn)) Tryz.func26 (by kernel_rfl) (by kernel_rfl)
attribute [local irreducible] f26
def s196:Tb:=⟨X,[(209,zJ5 D n),(208,f208 D n)]⟩
def h196:Hint:=(.s .o (.s .o (.s (.s .o (.cl (.s .o .o) .o)) (.s (.s .o (.cl (.s .o .o) .o)) (.s .o .o)))))
def f196:=(⟨_,by conv=>rhs;reduce⟩:FD (s196 D n) D n 196 Tryz.f196 h196 []).1
theorem zGu {D:Dyn}(hD:DG D)(n:Nat):FI 196 (f196 D n):=fk n (ms h196) hD (sc (zBP hD n) (sc (zBQ hD n) sn)) Tryz.func196 (by kernel_rfl) (by kernel_rfl)
attribute [local irreducible] f196
def s151:Tb:=⟨X,[(195,f195 D n),(26,f26 D n),(196,f196 D n)]⟩
def zKv (D:Dyn)(n:Nat)(vs:List AV)(H:AH):Option (AV×AH):=
 fF (hd vs fun x0 vs=>hd vs fun x1 vs=>nl vs <|
 bA (bxV 55 x1) H fun x3 H=>
 bA (bxV 42 (.agg [(.int .i64 (.ofNat 0)),(.int .i64 (.ofNat 0)),(.int .u64 (.ofNat 0))])) H fun x4 H=>
 bV (xZ x0) fun x11=>
 bV (fAd 1 x11) fun x12=>
 bV (ld1 x12 H) fun x13=>
 bR (f195 D n [x13] H) fun x14 H=>
 bV (qX x14 0) fun x15=>
 bV (qX x14 1) fun x16=>
 bV (jJ .neq x16 (.int .i64 (.ofNat 0))) fun x18=>
 cnd x18 (bV (xH [(0,1),(1,1),(2,1)] [(.int .i64 (.ofNat 0)),(.int .i64 (.ofNat 0)),(.int .u64 (.ofNat 0))] []) fun x19=>
 bR (stN 3 x4 x19 H) fun x9999 H=>
 bV (ldN 3 x4 H) fun x9004=>bV (some x16) fun x5=>some (.ret (.tuple [x9004,x5]),H))
 (bV (xZ x0) fun x23=>
 bV (fAd 4 x23) fun x24=>
 bV (ld1 x24 H) fun x25=>
 bA (aU 3 1 1 [(.int .i64 (.ofNat 0))] [(0,x15)]) H fun x27 H=>
 bR (apP 3 1 8 x25 x27 H) fun x28 H=>
 bV (xZ x0) fun x29=>
 bV (fAd 4 x29) fun x30=>
 bR (stN 1 x30 x28 H) fun x9999_2 H=>
 bV (xZ x0) fun x32=>
 bV (fAd 0 x32) fun x33=>
 bV (ld1 x33 H) fun x34=>
 bV (xZ x34) fun x35=>
 bV (fAd 0 x35) fun x36=>
 bV (ld1 x36 H) fun x37=>
 bV (ldN 512 x3 H) fun x39=>
 bR (f26 D n [x37,x15,x39] H) fun x40 H=>
 bV (jJ .neq x40 (.int .i64 (.ofNat 0))) fun x42=>
 cnd x42 (bV (xH [(0,1),(1,1),(2,1)] [(.int .i64 (.ofNat 0)),(.int .i64 (.ofNat 0)),(.int .u64 (.ofNat 0))] []) fun x43=>
 bR (stN 3 x4 x43 H) fun x9999_3 H=>
 bV (ldN 3 x4 H) fun x9004_2=>bV (some x40) fun x5_2=>some (.ret (.tuple [x9004_2,x5_2]),H))
 (bV (xZ x0) fun x47=>
 bV (fAd 5 x47) fun x48=>
 bV (ld1 x48 H) fun x49=>
 bV (ldN 512 x3 H) fun x51=>
 bV (xH [(0,1),(1,512)] ([(.int .i64 (.ofNat 0))]++rep 512 [(.int .u8 (.ofNat 0))]) [(0,x15),(1,x51)]) fun x52=>
 bA (aU 202 513 1 ([(.int .i64 (.ofNat 0))]++rep 512 [(.int .u8 (.ofNat 0))]) [(0,x52)]) H fun x53 H=>
 bR (apP 202 513 520 x49 x53 H) fun x54 H=>
 bV (xZ x0) fun x55=>
 bV (fAd 5 x55) fun x56=>
 bR (stN 1 x56 x54 H) fun x9999_4 H=>
 bV (ldN 512 x3 H) fun x58=>
 bR (f196 D n [x15,x58] H) fun x59 H=>
 bV (qX x59 0) fun x60=>
 bV (qX x59 1) fun x61=>
 bR (stN 3 x4 x60 H) fun x9999_5 H=>
 bV (ldN 3 x4 H) fun x9004_3=>bV (some x61) fun x5_3=>some (.ret (.tuple [x9004_3,x5_3]),H))))
def h151:Hint:=(.s .o (.s .o (.s (.s .o (.cl (.s .o .o) .o)) (.s .o (.s (.s .o (.s .o (.cl (.s .o .o) .o))) (.s .o (.s .o .o)))))))
theorem zGF {D:Dyn}(hD:DG D)(n:Nat):FI 151 (zKv D n):=fk n h151 hD (sc (zGw hD n) (sc (zKs hD n) (sc (zGu hD n) sn))) Tryz.func151 (by kernel_rfl) (by kernel_rfl)
attribute [local irreducible] zKv
def s96:Tb:=⟨X,[(77,f77 D n),(149,f149 D n),(150,zGG D n),(151,zKv D n)]⟩
def zAk (D:Dyn)(n:Nat)(vs:List AV)(H:AH):Rs:=
 hd vs fun x0_2 vs=>hd vs fun x4_2 vs=>hd vs fun x6_2 vs=>hd vs fun x8 vs=>hd vs fun x49_2 vs=>hd vs fun x50_2 vs=>hd vs fun x51 vs=>
 bV (jJ .lss x51 x50_2) fun x52=>
 cnd x52 (bV (dK 3 x49_2 x51) fun x54=>
 bV (ldN 3 x54 H) fun x55=>
 bA (bxV 42 (.agg [(.int .i64 (.ofNat 0)),(.int .i64 (.ofNat 0)),(.int .u64 (.ofNat 0))])) H fun x10 H=>
 bR (stN 3 x10 x55 H) fun x9999_6 H=>
 bV (ldN 3 x10 H) fun x60=>
 bR (D.fn 96 [x0_2,x60] H) fun x61 H=>
 bV (qX x61 0) fun x62=>
 bV (qX x61 1) fun x63=>
 bV (dK 3 x8 x51) fun x64=>
 bR (stN 3 x64 x62 H) fun x9999_7 H=>
 bV (jJ .neq x63 (.int .i64 (.ofNat 0))) fun x66=>
 cnd x66 (bV (xH [(0,1),(1,1),(2,1)] [(.int .i64 (.ofNat 0)),(.int .i64 (.ofNat 0)),(.int .u64 (.ofNat 0))] []) fun x67=>
 bR (stN 3 x4_2 x67 H) fun x9999_8 H=>
 bV (ldN 3 x4_2 H) fun x9004_4=>bV (some x63) fun x5_4=>some (.ret (.tuple [x9004_4,x5_4]),H))
 (bV (jJ .add x51 (.int .i64 (.ofNat 1))) fun x69=>
 some (.norm [x0_2,x4_2,x6_2,x8,x49_2,x50_2,x69],H)))
 (some (.exit 0 [x0_2,x4_2,x6_2,x8],H))
def zG7 (D:Dyn)(n:Nat)(vs:List AV)(H:AH):Rs:=
 hd vs fun x0_4 vs=>hd vs fun x4_4 vs=>hd vs fun x6_4 vs=>hd vs fun x11 vs=>
 bV (ldN 4 x6_4 H) fun x75=>
 bR (f149 D n [x75] H) fun x76 H=>
 bV (qX x76 0) fun x77=>
 bV (qX x76 1) fun x78=>
 bV (jJ .neq x78 (.int .i64 (.ofNat 0))) fun x80=>
 cnd x80 (bV (xH [(0,1),(1,1),(2,1)] [(.int .i64 (.ofNat 0)),(.int .i64 (.ofNat 0)),(.int .u64 (.ofNat 0))] []) fun x81=>
 bR (stN 3 x4_4 x81 H) fun x9999_10 H=>
 bV (ldN 3 x4_4 H) fun x9004_5=>bV (some x78) fun x5_5=>some (.ret (.tuple [x9004_5,x5_5]),H))
 (bV (xZ x0_4) fun x86=>
 bV (fAd 2 x86) fun x87=>
 bV (ld1 x87 H) fun x88=>
 bR (zGG D n [x11,x88,x77] H) fun x90 H=>
 bV (qX x90 0) fun x91=>
 bV (qX x90 1) fun x92=>
 bA (bxV 55 (.agg (rep 512 [(.int .u8 (.ofNat 0))]))) H fun x13 H=>
 bR (stN 512 x13 x91 H) fun x9999_11 H=>
 bV (jJ .neq x92 (.int .i64 (.ofNat 0))) fun x94=>
 cnd x94 (bV (xH [(0,1),(1,1),(2,1)] [(.int .i64 (.ofNat 0)),(.int .i64 (.ofNat 0)),(.int .u64 (.ofNat 0))] []) fun x95=>
 bR (stN 3 x4_4 x95 H) fun x9999_12 H=>
 bV (ldN 3 x4_4 H) fun x9004_6=>bV (some x92) fun x5_6=>some (.ret (.tuple [x9004_6,x5_6]),H))
 (bV (ldN 512 x13 H) fun x98=>
 bR (zKv D n [x0_4,x98] H) fun x99 H=>
 bV (qX x99 0) fun x100=>
 bV (qX x99 1) fun x101=>
 bR (stN 3 x4_4 x100 H) fun x9999_13 H=>
 bV (ldN 3 x4_4 H) fun x9004_7=>bV (some x101) fun x5_7=>some (.ret (.tuple [x9004_7,x5_7]),H)))
def zG8 (D:Dyn)(n:Nat)(vs:List AV)(H:AH):Rs:=
 hd vs fun x0_3 vs=>hd vs fun x4_3 vs=>hd vs fun x6_3 vs=>hd vs fun x8_2 vs=>
 bV (fAd 3 x6_3) fun x71=>
 bR (stN 1 x71 x8_2 H) fun x9999_9 H=>
 bV (fAd 0 x6_3) fun x72=>
 bV (ld1 x72 H) fun x73=>
 jn (cnd x73 (some (.norm [x0_3,x4_3,x6_3,(.int .u8 (.ofNat 1))],H))
 (some (.norm [x0_3,x4_3,x6_3,(.int .u8 (.ofNat 2))],H))) (zG7 D n)
def f96 (D:Dyn)(n:Nat)(vs:List AV)(H:AH):Option (AV×AH):=
 fF (hd vs fun x0 vs=>hd vs fun x1 vs=>nl vs <|
 bA (bxV 42 x1) H fun x3 H=>
 bA (bxV 42 (.agg [(.int .i64 (.ofNat 0)),(.int .i64 (.ofNat 0)),(.int .u64 (.ofNat 0))])) H fun x4 H=>
 bV (fAd 0 x3) fun x14=>
 bV (ld1 x14 H) fun x15=>
 bV (jJ .neq x15 (.int .i64 (.ofNat 1))) fun x16=>
 cnd x16 (bV (ldN 3 x3 H) fun x17=>
 bR (stN 3 x4 x17 H) fun x9999 H=>
 bV (ldN 3 x4 H) fun x9004=>bV (some (.int .i64 (.ofNat 0))) fun x5=>some (.ret (.tuple [x9004,x5]),H))
 (bV (xZ x0) fun x19=>
 bV (fAd 3 x19) fun x20=>
 bV (ld1 x20 H) fun x21=>
 bV (jJ .sub x21 (.int .i64 (.ofNat 1))) fun x22=>
 bV (xZ x0) fun x23=>
 bV (fAd 3 x23) fun x24=>
 bR (stN 1 x24 x22 H) fun x9999_2 H=>
 bV (xZ x0) fun x26=>
 bV (fAd 3 x26) fun x27=>
 bV (ld1 x27 H) fun x28=>
 bV (jJ .lss x28 (.int .i64 (.ofNat 0))) fun x29=>
 cnd x29 (bV (xH [(0,1),(1,1),(2,1)] [(.int .i64 (.ofNat 0)),(.int .i64 (.ofNat 0)),(.int .u64 (.ofNat 0))] []) fun x30=>
 bR (stN 3 x4 x30 H) fun x9999_3 H=>
 bV (ldN 3 x4 H) fun x9004_2=>bV (some (.int .i64 (.ofNat 4))) fun x5_2=>some (.ret (.tuple [x9004_2,x5_2]),H))
 (bV (xZ x0) fun x33=>
 bV (fAd 0 x33) fun x34=>
 bV (ld1 x34 H) fun x35=>
 bV (ldN 3 x3 H) fun x36=>
 bA (bxV 119 (.agg [(.bool false), .nilSlice, .nilSlice, .nilSlice])) H fun x6 H=>
 bR (f77 D n [x35,x36] H) fun x37 H=>
 bV (qX x37 0) fun x38=>
 bV (qX x37 1) fun x39=>
 bR (stN 4 x6 x38 H) fun x9999_4 H=>
 bV (jJ .neq x39 (.int .i64 (.ofNat 0))) fun x41=>
 cnd x41 (bV (xH [(0,1),(1,1),(2,1)] [(.int .i64 (.ofNat 0)),(.int .i64 (.ofNat 0)),(.int .u64 (.ofNat 0))] []) fun x42=>
 bR (stN 3 x4 x42 H) fun x9999_5 H=>
 bV (ldN 3 x4 H) fun x9004_3=>bV (some x39) fun x5_3=>some (.ret (.tuple [x9004_3,x5_3]),H))
 (bV (fAd 3 x6) fun x44=>
 bV (ld1 x44 H) fun x45=>
 bV (lnSl x45) fun x46=>
 bA (zHY 42 3 24 [(.int .i64 (.ofNat 0)),(.int .i64 (.ofNat 0)),(.int .u64 (.ofNat 0))] x46 x46) H fun x47 H=>
 bV (fAd 3 x6) fun x48=>
 bV (ld1 x48 H) fun x49=>
 bV (lnSl x49) fun x50=>
 jb 0 (yJ n (zAk D n) [x0,x4,x6,x47,x49,x50,(.int .i64 (.ofNat 0))] H) (zG8 D n)))))
def h96:Hint:=(.s .o (.s (.s .o (.cl (.s .o .o) .o)) (.s (.s .o (.s .o (.cl (.s .o .o) .o))) (.s .o (.s (.s .o (.cl (.s .o .o) .o)) (.s .o (.s (.s .o (.b [0,4,6,8] (.l [0,4,6,8,49,50,51] (.s .o (.s (.cr .o .o) (.s (.b0 (.s .o (.s .o (.s .o (.cl (.s .o .o) .o))))) .o)))))) (.s .o (.s .o (.s (.s .o (.c [0,4,6,11] .o .o)) (.s .o (.s (.s .o (.cl (.s .o .o) .o)) (.s .o (.s (.s .o (.cl (.s .o .o) .o)) (.s .o .o)))))))))))))))
theorem zKh {D:Dyn}(hD:DG D)(n:Nat):FI 96 (f96 D n):=fk n h96 hD (sc (JQ hD n) (sc (zGJ hD n) (sc (zBV hD n) (sc (zGF hD n) sn)))) Tryz.func96 (by kernel_rfl) (by kernel_rfl)
attribute [local irreducible] zAk zG7 zG8 f96
def s43:Tb:=⟨X,[(73,f73 D n),(23,f23 D n),(96,f96 D n)]⟩
def zLY (D:Dyn)(n:Nat)(vs:List AV)(H:AH):Rs:=
 hd vs fun x1_2 vs=>hd vs fun x6_2 vs=>hd vs fun x11 vs=>hd vs fun x64_2 vs=>hd vs fun x65_2 vs=>hd vs fun x66 vs=>
 bV (jJ .lss x66 x65_2) fun x67=>
 cnd x67 (bV (dK 1 x64_2 x66) fun x68=>
 bV (ld1 x68 H) fun x69=>
 bR (D.fn 70 [x1_2,x69] H) fun x72 H=>
 bV (jJ .add x66 (.int .i64 (.ofNat 1))) fun x73=>
 some (.norm [x1_2,x6_2,x11,x64_2,x65_2,x73],H))
 (some (.exit 0 [x6_2,x11],H))
def zM0 (D:Dyn)(n:Nat)(vs:List AV)(H:AH):Rs:=
 hd vs fun x6_3 vs=>hd vs fun x11_2 vs=>
 bV (xH [(0,1),(1,1),(2,1)] [(.int .i64 (.ofNat 0)),(.int .i64 (.ofNat 0)),(.int .u64 (.ofNat 0))] []) fun x74=>
 bR (stN 3 x6_3 x74 H) fun x9999_5 H=>
 bV (ldN 3 x6_3 H) fun x9006_4=>bV (some .nilSlice) fun x7_4=>bV (some x11_2) fun x8_4=>some (.ret (.tuple [x9006_4,x7_4,x8_4]),H)
def zLX (D:Dyn)(n:Nat)(vs:List AV)(H:AH):Rs:=
 hd vs fun x0_2 vs=>hd vs fun x6_4 vs=>hd vs fun x10_2 vs=>hd vs fun x84_2 vs=>hd vs fun x85_2 vs=>hd vs fun x86 vs=>
 bV (jJ .lss x86 x85_2) fun x87=>
 cnd x87 (bV (dK 513 x84_2 x86) fun x88=>
 bV (ldN 513 x88 H) fun x89=>
 bA (bxV 202 (.agg ([(.int .i64 (.ofNat 0))]++rep 512 [(.int .u8 (.ofNat 0))]))) H fun x15 H=>
 bR (stN 513 x15 x89 H) fun x9999_6 H=>
 bV (xZ x0_2) fun x91=>
 bV (fAd 1 x91) fun x92=>
 bV (ld1 x92 H) fun x93=>
 bV (fAd 0 x15) fun x94=>
 bV (ld1 x94 H) fun x95=>
 bV (fAd 1 x15) fun x96=>
 bV (ldN 512 x96 H) fun x97=>
 bR (D.fn 97 [x93,x95,x97] H) fun x98 H=>
 bV (jJ .add x86 (.int .i64 (.ofNat 1))) fun x99=>
 some (.norm [x0_2,x6_4,x10_2,x84_2,x85_2,x99],H))
 (some (.exit 2 [x0_2,x6_4,x10_2],H))
def zLZ (D:Dyn)(n:Nat)(vs:List AV)(H:AH):Rs:=
 hd vs fun x0_3 vs=>hd vs fun x6_5 vs=>hd vs fun x10_3 vs=>
 some (.norm [x0_3,x6_5,x10_3],H)
def zJ0 (D:Dyn)(n:Nat)(vs:List AV)(H:AH):Rs:=
 hd vs fun x0_4 vs=>hd vs fun x6_6 vs=>hd vs fun x10_4 vs=>
 bV (xZ x0_4) fun x101=>
 bV (fAd 7 x101) fun x102=>
 bV (ld1 x102 H) fun x103=>
 bV (ldN 3 x10_4 H) fun x106=>
 bV (xZ x0_4) fun x107=>
 bV (fAd 2 x107) fun x108=>
 bR (stN 3 x108 x106 H) fun x9999_7 H=>
 bV (xZ x0_4) fun x109=>
 bV (fAd 7 x109) fun x110=>
 bR (stN 1 x110 .nilSlice H) fun x9999_8 H=>
 bA (mkM [10]) H fun x112 H=>
 bV (xZ x0_4) fun x113=>
 bV (fAd 5 x113) fun x114=>
 bR (stN 1 x114 x112 H) fun x9999_9 H=>
 bV (ldN 3 x10_4 H) fun x115=>
 bR (stN 3 x6_6 x115 H) fun x9999_10 H=>
 bV (ldN 3 x6_6 H) fun x9006_5=>bV (some x103) fun x7_5=>bV (some (.int .i64 (.ofNat 0))) fun x8_5=>some (.ret (.tuple [x9006_5,x7_5,x8_5]),H)
def f43 (D:Dyn)(n:Nat)(vs:List AV)(H:AH):Option (AV×AH):=
 fF (hd vs fun x0 vs=>hd vs fun x1 vs=>hd vs fun x2 vs=>nl vs <|
 bA (bxV 42 (.agg [(.int .i64 (.ofNat 0)),(.int .i64 (.ofNat 0)),(.int .u64 (.ofNat 0))])) H fun x6 H=>
 bR (f73 D n [x0] H) fun x18 H=>
 jn (wnt x18 false (bV (bC .eql (eqP x1 .nilPtr)) fun x21=>
 some (.norm [x21],H)) (some (.norm [qZ],H))) fun vs H=>hd vs fun x21_2 vs=>
 bV (pk3 (some x18) (some (.bool true)) (some x21_2)) fun x22=>
 cnd x22 (bV (xH [(0,1),(1,1),(2,1)] [(.int .i64 (.ofNat 0)),(.int .i64 (.ofNat 0)),(.int .u64 (.ofNat 0))] []) fun x23=>
 bR (stN 3 x6 x23 H) fun x9999 H=>
 bV (ldN 3 x6 H) fun x9006=>bV (some .nilSlice) fun x7=>bV (some (.int .i64 (.ofNat 2))) fun x8=>some (.ret (.tuple [x9006,x7,x8]),H))
 (bV (jJ .lss x2 (.int .i64 (.ofNat 1))) fun x25=>
 jn (wnt x25 false (bV (jJ .gtr x2 (.int .i64 (.ofNat 2147483647))) fun x28=>
 some (.norm [x28],H)) (some (.norm [qZ],H))) fun vs H=>hd vs fun x28_2 vs=>
 bV (pk3 (some x25) (some (.bool true)) (some x28_2)) fun x29=>
 cnd x29 (bV (xH [(0,1),(1,1),(2,1)] [(.int .i64 (.ofNat 0)),(.int .i64 (.ofNat 0)),(.int .u64 (.ofNat 0))] []) fun x30=>
 bR (stN 3 x6 x30 H) fun x9999_2 H=>
 bV (ldN 3 x6 H) fun x9006_2=>bV (some .nilSlice) fun x7_2=>bV (some (.int .i64 (.ofNat 1))) fun x8_2=>some (.ret (.tuple [x9006_2,x7_2,x8_2]),H))
 (bV (xZ x0) fun x34=>
 bV (fAd 5 x34) fun x35=>
 bV (ld1 x35 H) fun x36=>
 bR (f23 D n [x1] H) fun x32 H=>chk (ld1 x35 H) x36 <|
 bV (ZQ x36 H) fun x37=>
 bV (jJ .lss x32 x37) fun x38=>
 cnd x38 (bV (xH [(0,1),(1,1),(2,1)] [(.int .i64 (.ofNat 0)),(.int .i64 (.ofNat 0)),(.int .u64 (.ofNat 0))] []) fun x39=>
 bR (stN 3 x6 x39 H) fun x9999_3 H=>
 bV (ldN 3 x6 H) fun x9006_3=>bV (some .nilSlice) fun x7_3=>bV (some (.int .i64 (.ofNat 3))) fun x8_3=>some (.ret (.tuple [x9006_3,x7_3,x8_3]),H))
 (bV (xZ x0) fun x44=>
 bV (fAd 5 x44) fun x45=>
 bV (ld1 x45 H) fun x46=>
 bV (ZQ x46 H) fun x47=>
 bV (xH [(0,1),(1,1),(2,1),(3,1),(4,1),(5,1)] [.nilPtr, .nilPtr,(.int .i64 (.ofNat 0)),(.int .i64 (.ofNat 0)), .nilSlice, .nilSlice] [(0,x0),(1,x1),(2,x2),(3,x47)]) fun x48=>
 bA (bxV 198 x48) H fun x49 H=>
 bV (xZ x0) fun x53=>
 bV (fAd 2 x53) fun x54=>
 bV (ldN 3 x54 H) fun x55=>
 bR (f96 D n [x49,x55] H) fun x56 H=>
 bV (qX x56 0) fun x57=>
 bV (qX x56 1) fun x58=>
 bA (bxV 42 (.agg [(.int .i64 (.ofNat 0)),(.int .i64 (.ofNat 0)),(.int .u64 (.ofNat 0))])) H fun x10 H=>
 bR (stN 3 x10 x57 H) fun x9999_4 H=>
 bV (jJ .neq x58 (.int .i64 (.ofNat 0))) fun x60=>
 cnd x60 (bV (xZ x49) fun x62=>
 bV (fAd 4 x62) fun x63=>
 bV (ld1 x63 H) fun x64=>
 bV (lnSl x64) fun x65=>
 jb 0 (yJ n (zLY D n) [x1,x6,x58,x64,x65,(.int .i64 (.ofNat 0))] H) (zM0 D n))
 (bV (xZ x0) fun x77=>
 bV (fAd 1 x77) fun x78=>
 bV (ld1 x78 H) fun x79=>
 bV (bC .neq (eqP x79 .nilPtr)) fun x80=>
 jn (cnd x80 (bV (xZ x49) fun x82=>
 bV (fAd 5 x82) fun x83=>
 bV (ld1 x83 H) fun x84=>
 bV (lnSl x84) fun x85=>
 jb 2 (yJ n (zLX D n) [x0,x6,x10,x84,x85,(.int .i64 (.ofNat 0))] H) (zLZ D n))
 (some (.norm [x0,x6,x10],H))) (zJ0 D n))))))
def h43:Hint:=(.s .o (.s (.s .o (.cl (.s .o .o) .o)) (.s (.s .o (.cl (.s .o .o) .o)) (.s (.s .o (.cl (.s .o .o) .o)) (.s .o (.s .o (.s (.s .o (.cl (.s (.s .o (.b [6,11] (.l [1,6,11,64,65,66] (.s .o (.s (.cr .o .o) (.s (.b0 (.s .o .o)) .o)))))) (.s .o .o)) .o)) (.s (.s .o (.c [0,6,10] (.s .o (.b [0,6,10] (.l [0,6,10,84,85,86] (.s .o (.s (.cr .o .o) (.s (.b0 (.s .o .o)) .o)))))) .o)) (.s .o (.s .o (.s .o (.s .o .o))))))))))))
theorem zGe {D:Dyn}(hD:DG D)(n:Nat):FI 43 (f43 D n):=fk n h43 hD (sc (cZ hD n) (sc (zD0 hD n) (sc (zKh hD n) sn))) Tryz.func43 (by kernel_rfl) (by kernel_rfl)
attribute [local irreducible] zLY zM0 zLX zLZ zJ0 f43
def s84:Tb:=⟨X,[(109,f109 D n),(79,f79 D n),(132,f132 D n)]⟩
def h84:Hint:=(.s .o (.s (.s .o (.cl (.s .o .o) .o)) (.s .o (.s (.s .o (.cl (.s .o .o) .o)) (.s (.c [11,2047,23,8388607,25,33554431] (.l [0,1,2,3,4,5,6,7,8,9,10,12,13,14,15,16,17,18,19,20,21,22,11,23,24,25,26] .o) .o) .o)))))
def f84:=(⟨_,by conv=>rhs;reduce⟩:FD (s84 D n) D n 84 Tryz.f84 h84 []).1
theorem zKk {D:Dyn}(hD:DG D)(n:Nat):FI 84 (f84 D n):=fk n (ms h84) hD (sc (dO hD n) (sc (JP hD n) (sc (U0 hD n) sn))) Tryz.func84 (by kernel_rfl) (by kernel_rfl)
attribute [local irreducible] f84
def s83:Tb:=⟨X,[(84,f84 D n)]⟩
def h83:Hint:=(.s .o (.s .o .o))
def f83:=(⟨_,by conv=>rhs;reduce⟩:FD (s83 D n) D n 83 Tryz.f83 h83 []).1
theorem zO2 {D:Dyn}(hD:DG D)(n:Nat):FI 83 (f83 D n):=fk n (ms h83) hD (sc (zKk hD n) sn) Tryz.func83 (by kernel_rfl) (by kernel_rfl)
attribute [local irreducible] f83
def s29:Tb:=⟨X,[(73,f73 D n),(82,f82 D n)]⟩
def h29:Hint:=(.s .o (.s (.s .o (.cl (.s .o .o) .o)) (.s (.s .o (.cl (.s .o .o) .o)) (.s .o .o))))
def f29:=(⟨_,by conv=>rhs;reduce⟩:FD (s29 D n) D n 29 Tryz.f29 h29 []).1
theorem zGk {D:Dyn}(hD:DG D)(n:Nat):FI 29 (f29 D n):=fk n (ms h29) hD (sc (cZ hD n) (sc (zGa hD n) sn)) Tryz.func29 (by kernel_rfl) (by kernel_rfl)
attribute [local irreducible] f29
def s13:Tb:=⟨X,[(32,f32 D n),(34,f34 D n),(18,f18 D n),(38,f38 D n),(19,f19 D n),(24,f24 D n),(21,f21 D n),(41,f41 D n),(43,f43 D n),(29,f29 D n)]⟩
def h13:Hint:=(.s .o (.s .o (.s .o (.s .o (.s (.s .o (.cl (.s .o .o) .o)) (.s .o (.s .o (.s (.s .o (.cl (.s .o .o) .o)) (.s .o (.s (.c [21,2097151,26,67108863,31,2147483647,36,68719476735] (.l [0,1,2,3,4,5,6,7,8,9,10,11,12,13,14,15,16,17,18,19,20,21,22,23,24,25,26,27,28,29,30,31,32,33,34,35,37,36,38,39,40] .o) .o) .o))))))))))
def f13:=(⟨_,by conv=>rhs;reduce⟩:FD (s13 D n) D n 13 Tryz.f13 h13 []).1
theorem zD4 {D:Dyn}(hD:DG D)(n:Nat):FI 13 (f13 D n):=fk n (ms h13) hD (sc (zGj hD n) (sc (zGi hD n) (sc (zAu hD n) (sc (zGg hD n) (sc (zD1 hD n) (sc (zCZ hD n) (sc (zGo hD n) (sc (zGf hD n) (sc (zGe hD n) (sc (zGk hD n) sn)))))))))) Tryz.func13 (by kernel_rfl) (by kernel_rfl)
attribute [local irreducible] f13
def h14:Hint:=(.s .o (.s .o (.s (.s .o (.b [1,0,3] (.l [0,0,3,4] (.s (.s .o (.cr .o .o)) (.s (.b0 (.s (.s .o (.cl (.s .o .o) .o)) (.b [] .o))) .o))))) (.s .o .o))))
def aG:=(⟨_,by conv=>rhs;reduce⟩:PD ⟨X,[]⟩ D n 14 Tryz.f14 h14 [] 0).1
attribute [local irreducible] aG
def zGH:=(⟨_,by conv=>rhs;reduce⟩:PD ⟨X,[]⟩ D n 14 Tryz.f14 h14 [aG D n] 1).1
attribute [local irreducible] zGH
def f14:=(⟨_,by conv=>rhs;reduce⟩:FD ⟨X,[]⟩ D n 14 Tryz.f14 h14 [aG D n,zGH D n]).1
theorem zGI {D:Dyn}(hD:DG D)(n:Nat):FI 14 (f14 D n):=fk n (ms h14) hD sn Tryz.func14 (by kernel_rfl) (by kernel_rfl)
attribute [local irreducible] f14
def h36:Hint:=(.s .o (.s (.s .o (.cl (.s .o .o) .o)) (.s .o .o)))
def f36:=(⟨_,by conv=>rhs;reduce⟩:FD ⟨X,[]⟩ D n 36 Tryz.f36 h36 []).1
theorem zKq {D:Dyn}(hD:DG D)(n:Nat):FI 36 (f36 D n):=fk n (ms h36) hD sn Tryz.func36 (by kernel_rfl) (by kernel_rfl)
attribute [local irreducible] f36
def s15:Tb:=⟨X,[(32,f32 D n),(34,f34 D n),(36,f36 D n),(18,f18 D n)]⟩
def h15:Hint:=(.s .o (.s .o (.s .o (.s .o (.s .o (.s (.s .o (.cl (.s .o .o) .o)) (.s .o .o)))))))
def f15:=(⟨_,by conv=>rhs;reduce⟩:FD (s15 D n) D n 15 Tryz.f15 h15 []).1
theorem zGE {D:Dyn}(hD:DG D)(n:Nat):FI 15 (f15 D n):=fk n (ms h15) hD (sc (zGj hD n) (sc (zGi hD n) (sc (zKq hD n) (sc (zAu hD n) sn)))) Tryz.func15 (by kernel_rfl) (by kernel_rfl)
attribute [local irreducible] f15
def h22:Hint:=(.s .o (.s .o (.s (.b [1,5] (.l [0,0,1,5] (.s (.s .o (.cr .o .o)) (.b0 .o)))) (.s .o .o))))
def zAq:=(⟨_,by conv=>rhs;reduce⟩:PD ⟨X,[]⟩ D n 22 Tryz.f22 h22 [] 0).1
attribute [local irreducible] zAq
def zJ2:=(⟨_,by conv=>rhs;reduce⟩:PD ⟨X,[]⟩ D n 22 Tryz.f22 h22 [zAq D n] 1).1
attribute [local irreducible] zJ2
def f22:=(⟨_,by conv=>rhs;reduce⟩:FD ⟨X,[]⟩ D n 22 Tryz.f22 h22 [zAq D n,zJ2 D n]).1
theorem zKu {D:Dyn}(hD:DG D)(n:Nat):FI 22 (f22 D n):=fk n (ms h22) hD sn Tryz.func22 (by kernel_rfl) (by kernel_rfl)
attribute [local irreducible] f22
def s16:Tb:=⟨X,[(22,f22 D n),(38,f38 D n),(29,f29 D n)]⟩
def h16:Hint:=(.s .o (.s .o (.s (.b [] .o) (.s .o (.s (.s .o (.cl (.s (.b [8,255] .o) (.s (.s .o (.cl (.s .o .o) .o)) (.s .o (.s (.s .o (.c [0,8] (.c [8,254,11,2046,19,524286,22,4194303] (.l [0,1,2,3,4,5,6,7,9,10,12,13,14,15,16,17,18,8,11,19,20,21,22] .o) .o) (.c [8,254,11,2046,18,262142,21,2097151] (.l [0,1,2,3,4,5,6,7,9,10,12,13,14,15,16,17,8,11,18,19,20,21] .o) .o))) (.s .o .o))))) .o)) (.s (.b [6,63] .o) (.s (.s .o (.cl (.s .o .o) .o)) (.s (.s .o (.cl (.s .o .o) .o)) (.s (.c [8,254,16,65534,19,524287] (.l [0,1,2,3,4,5,6,7,9,10,11,12,13,14,15,8,16,17,18,19] .o) .o) (.s .o .o))))))))))
def zGC:=(⟨_,by conv=>rhs;reduce⟩:PD (s16 D n) D n 16 Tryz.f16 h16 [] 0).1
attribute [local irreducible] zGC
def f16:=(⟨_,by conv=>rhs;reduce⟩:FD (s16 D n) D n 16 Tryz.f16 h16 [zGC D n]).1
theorem zGD {D:Dyn}(hD:DG D)(n:Nat):FI 16 (f16 D n):=fk n (ms h16) hD (sc (zKu hD n) (sc (zGg hD n) (sc (zGk hD n) sn))) Tryz.func16 (by kernel_rfl) (by kernel_rfl)
attribute [local irreducible] f16
def s117:Tb:=⟨X,[(168,f168 D n),(86,f86 D n)]⟩
def h117:Hint:=(.s .o (.s .o (.b0 (.rf 0 [3,5]))))
def f117:=(⟨_,by conv=>rhs;reduce⟩:FD (s117 D n) D n 117 Tryz.f117 h117 []).1
theorem zGR {D:Dyn}(hD:DG D)(n:Nat):FI 117 (f117 D n):=fk n (ms h117) hD (sc (JV hD n) (sc (X0 hD n) sn)) Tryz.func117 (by kernel_rfl) (by kernel_rfl)
def zFf:Hint:= .o
def zFe:Hint:=(.b0 .o)
def QB:=(⟨_,by conv=>rhs;reduce⟩:RD (s117 D n) D n 117 0 [3,5] [] zFf zFe []).1
theorem zFh (D:Dyn)(n:Nat):QB D n=zMQ (s117 D n) D n 117 0 [3,5] [] (ms zFf) (ms zFe):=by kernel_rfl
theorem zFg {D:Dyn}(hD:DG D)(n:Nat):RS 117 0 (QB D n):=VE X_ok hD (sc (JV hD n) (sc (X0 hD n) sn)) (by kernel_rfl) (zFh D n)
attribute [local irreducible] f117 QB
def s71:Tb:=⟨X,[(117,f117 D n)]⟩
def h71:Hint:=(.s .o (.c [0] (.s .o .o) .o))
def zIY:=(⟨_,by conv=>rhs;reduce⟩:PD (s71 D n) D n 71 Tryz.f71 h71 [] 0).1
attribute [local irreducible] zIY
def f71:=(⟨_,by conv=>rhs;reduce⟩:FD (s71 D n) D n 71 Tryz.f71 h71 [zIY D n]).1
theorem zKo {D:Dyn}(hD:DG D)(n:Nat):FI 71 (f71 D n):=fk n (ms h71) hD (sc (zGR hD n) sn) Tryz.func71 (by kernel_rfl) (by kernel_rfl)
attribute [local irreducible] f71
def s17:Tb:=⟨X,[(43,f43 D n),(71,f71 D n)]⟩
def h17:Hint:=(.s .o (.s .o (.s (.c [12,4095,18,163839] (.l [0,1,2,3,4,5,6,7,8,9,10,11,17,12,13,14,15,16,18,19,20] .o) .o) (.s (.s .o (.b [1,0,7] (.l [0,0,1,6,7,8] (.s (.s .o (.cr .o .o)) (.s (.b0 (.s (.b [9,511] .o) (.cl (.s .o .o) .o))) .o))))) (.s .o (.s .o .o))))))
def zBR:=(⟨_,by conv=>rhs;reduce⟩:PD (s17 D n) D n 17 Tryz.f17 h17 [] 0).1
attribute [local irreducible] zBR
def zJ6:=(⟨_,by conv=>rhs;reduce⟩:PD (s17 D n) D n 17 Tryz.f17 h17 [zBR D n] 1).1
attribute [local irreducible] zJ6
def f17:=(⟨_,by conv=>rhs;reduce⟩:FD (s17 D n) D n 17 Tryz.f17 h17 [zBR D n,zJ6 D n]).1
theorem zGy {D:Dyn}(hD:DG D)(n:Nat):FI 17 (f17 D n):=fk n (ms h17) hD (sc (zGe hD n) (sc (zKo hD n) sn)) Tryz.func17 (by kernel_rfl) (by kernel_rfl)
attribute [local irreducible] f17
def s20:Tb:=⟨X,[(41,f41 D n),(21,f21 D n)]⟩
def h20:Hint:=(.s .o (.s .o (.s (.s .o (.b [1,0,5] (.l [0,0,1,5,6] (.s (.s .o (.cr .o .o)) (.s (.b0 (.s .o (.s (.s (.b [22,4194303] .o) (.cl (.s .o .o) .o)) .o))) .o))))) (.s .o (.s .o .o)))))
def zAr:=(⟨_,by conv=>rhs;reduce⟩:PD (s20 D n) D n 20 Tryz.f20 h20 [] 0).1
attribute [local irreducible] zAr
def zJ4:=(⟨_,by conv=>rhs;reduce⟩:PD (s20 D n) D n 20 Tryz.f20 h20 [zAr D n] 1).1
attribute [local irreducible] zJ4
def f20:=(⟨_,by conv=>rhs;reduce⟩:FD (s20 D n) D n 20 Tryz.f20 h20 [zAr D n,zJ4 D n]).1
theorem zGt {D:Dyn}(hD:DG D)(n:Nat):FI 20 (f20 D n):=fk n (ms h20) hD (sc (zGf hD n) (sc (zGo hD n) sn)) Tryz.func20 (by kernel_rfl) (by kernel_rfl)
attribute [local irreducible] f20
def s4:Tb:=⟨X,[(13,f13 D n),(14,f14 D n),(15,f15 D n),(16,f16 D n),(23,f23 D n),(24,f24 D n),(17,f17 D n),(19,f19 D n),(18,f18 D n),(20,f20 D n)]⟩
def h4:Hint:=(.s .o (.s (.s .o (.cl (.s .o .o) .o)) (.s .o (.s (.s .o (.cl (.s .o .o) .o)) (.s .o (.s .o (.s (.s .o (.b [4,3,4,5] (.l [1,0,3,4,5,6] (.s (.s .o (.cr .o .o)) (.s (.b0 (.s (.s .o (.cl (.s .o .o) .o)) (.s .o (.c [0,0,3,4,5,6] (.s (.s (.c [4,15,9,511] (.l [0,1,2,3,5,6,7,8,4,9,10] .o) .o) (.cl .o .o)) (.s (.s .o (.cl (.s .o .o) .o)) (.s .o .o))) .o)))) .o))))) (.s (.s .o (.b [3] (.l [2,3,4,5,7] (.s (.s .o (.cr .o .o)) (.s (.b0 (.s (.b [8,255] .o) (.s .o (.cl (.s .o .o) .o)))) .o))))) (.s .o .o)))))))))
def zLW:=(⟨_,by conv=>rhs;reduce⟩:PD (s4 D n) D n 4 Tryz.f4 h4 [] 0).1
attribute [local irreducible] zLW
def zMZ:=(⟨_,by conv=>rhs;reduce⟩:PD (s4 D n) D n 4 Tryz.f4 h4 [zLW D n] 1).1
attribute [local irreducible] zMZ
def zO3:=(⟨_,by conv=>rhs;reduce⟩:PD (s4 D n) D n 4 Tryz.f4 h4 [zLW D n,zMZ D n] 2).1
attribute [local irreducible] zO3
def f4b3:=(⟨_,by conv=>rhs;reduce⟩:PD (s4 D n) D n 4 Tryz.f4 h4 [zLW D n,zMZ D n,zO3 D n] 3).1
attribute [local irreducible] f4b3
def f4b4:=(⟨_,by conv=>rhs;reduce⟩:PD (s4 D n) D n 4 Tryz.f4 h4 [zLW D n,zMZ D n,zO3 D n,f4b3 D n] 4).1
attribute [local irreducible] f4b4
def f4:=(⟨_,by conv=>rhs;reduce⟩:FD (s4 D n) D n 4 Tryz.f4 h4 [zLW D n,zMZ D n,zO3 D n,f4b3 D n,f4b4 D n]).1
theorem f4_ok {D:Dyn}(hD:DG D)(n:Nat):FI 4 (f4 D n):=fk n (ms h4) hD (sc (zD4 hD n) (sc (zGI hD n) (sc (zGE hD n) (sc (zGD hD n) (sc (zD0 hD n) (sc (zCZ hD n) (sc (zGy hD n) (sc (zD1 hD n) (sc (zAu hD n) (sc (zGt hD n) sn)))))))))) Tryz.func4 (by kernel_rfl) (by kernel_rfl)
attribute [local irreducible] f4
end Go.Eng.Sh
end
end
section
noncomputable section
namespace Go.Eng.Sh
open Go.Proofs
set_option maxRecDepth 100000
set_option maxHeartbeats 4000000
def tab (D:Dyn)(n:Nat):List (Nat×(List AV->AH->Option (AV×AH))):=[(4,f4 D n),(13,f13 D n),(14,f14 D n),(15,f15 D n),(16,f16 D n),(17,f17 D n),(18,f18 D n),(19,f19 D n),(20,f20 D n),(21,f21 D n),(22,f22 D n),(23,f23 D n),(24,f24 D n),(25,f25 D n),(26,f26 D n),(27,f27 D n),(29,f29 D n),(32,f32 D n),(34,f34 D n),(36,f36 D n),(38,f38 D n),(41,f41 D n),(43,f43 D n),(62,f62 D n),(71,f71 D n),(72,f72 D n),(73,f73 D n),(74,f74 D n),(75,f75 D n),(76,f76 D n),(77,f77 D n),(78,f78 D n),(79,f79 D n),(81,f81 D n),(82,f82 D n),(83,f83 D n),(84,f84 D n),(85,f85 D n),(86,f86 D n),(88,f88 D n),(89,f89 D n),(95,f95 D n),(96,f96 D n),(108,f108 D n),(109,f109 D n),(110,f110 D n),(117,f117 D n),(118,f118 D n),(119,f119 D n),(120,f120 D n),(122,zKw D n),(123,f123 D n),(124,f124 D n),(126,f126 D n),(127,f127 D n),(128,f128 D n),(129,f129 D n),(130,f130 D n),(131,f131 D n),(132,f132 D n),(137,f137 D n),(138,zMT D n),(148,f148 D n),(149,f149 D n),(150,zGG D n),(151,zKv D n),(168,f168 D n),(171,f171 D n),(172,f172 D n),(173,f173 D n),(174,f174 D n),(175,f175 D n),(176,f176 D n),(177,f177 D n),(178,f178 D n),(179,f179 D n),(180,f180 D n),(193,f193 D n),(194,f194 D n),(195,f195 D n),(196,f196 D n),(207,f207 D n),(208,f208 D n),(209,zJ5 D n),(210,f210 D n),(211,zJ3 D n),(212,f212 D n),(213,f213 D n),(214,f214 D n),(225,f225 D n),(226,f226 D n),(227,f227 D n),(230,f230 D n)]
def tabR (D:Dyn)(n:Nat):List ((Nat×Nat)×(Nat->ALoop->List AV->AH->Option (AV×AH))):=[((41,0),BR D n),((117,0),QB D n),((195,0),QA D n)]
theorem zNg (D:Dyn)(n:Nat)(hD:DG D):SOk (tab D n):=sc (f4_ok hD n) (sc (zD4 hD n) (sc (zGI hD n) (sc (zGE hD n) (sc (zGD hD n) (sc (zGy hD n) (sc (zAu hD n) (sc (zD1 hD n) (sc (zGt hD n) (sc (zGo hD n) (sc (zKu hD n) (sc (zD0 hD n) (sc (zCZ hD n) (sc (zKt hD n) (sc (zKs hD n) (sc (zKr hD n) (sc (zGk hD n) (sc (zGj hD n) (sc (zGi hD n) (sc (zKq hD n) (sc (zGg hD n) (sc (zGf hD n) (sc (zGe hD n) (sc (zKp hD n) (sc (zKo hD n) (sc (zGd hD n) (sc (cZ hD n) (sc (zGc hD n) (sc (zKn hD n) (sc (zAl hD n) (sc (JQ hD n) (sc (zKm hD n) (sc (JP hD n) (sc (zKl hD n) (sc (zGa hD n) (sc (zO2 hD n) (sc (zKk hD n) (sc (zKj hD n) (sc (X0 hD n) (sc (zO1 hD n) (sc (zKi hD n) (sc (zG9 hD n) (sc (zKh hD n) (sc (zC0 hD n) (sc (dO hD n) (sc (ZX hD n) (sc (zGR hD n) (sc (zBZ hD n) (sc (zBY hD n) (sc (zGQ hD n) (sc (zGP hD n) (sc (zGO hD n) (sc (zGN hD n) (sc (zBX hD n) (sc (U1 hD n) (sc (zM9 hD n) (sc (zGL hD n) (sc (zBW hD n) (sc (zGK hD n) (sc (U0 hD n) (sc (VZ hD n) (sc (zFG hD n) (sc (zM7 hD n) (sc (zGJ hD n) (sc (zBV hD n) (sc (zGF hD n) (sc (JV hD n) (sc (zGB hD n) (sc (VY hD n) (sc (zM6 hD n) (sc (zGA hD n) (sc (zM5 hD n) (sc (zGz hD n) (sc (zBU hD n) (sc (zBT hD n) (sc (zBS hD n) (sc (zGx hD n) (sc (zM4 hD n) (sc (zM3 hD n) (sc (zGw hD n) (sc (zGu hD n) (sc (zM2 hD n) (sc (zBQ hD n) (sc (zBP hD n) (sc (zBO hD n) (sc (zGs hD n) (sc (zGr hD n) (sc (zGq hD n) (sc (zGp hD n) (sc (zGn hD n) (sc (zBN hD n) (sc (zGm hD n) (sc (zGl hD n) sn))))))))))))))))))))))))))))))))))))))))))))))))))))))))))))))))))))))))))))))))))))))))))))
theorem zKQ (D:Dyn)(n:Nat)(hD:DG D):ROk (tabR D n):=ROk.cons (zIp hD n) (ROk.cons (zFg hD n) (ROk.cons (zFc hD n) (ROk.nil)))
def dy (n:Nat):Dyn:=dyOf tab tabR n
theorem dy_ok (n:Nat):DG (dy n):=zGZ zNg zKQ n
end Go.Eng.Sh
end
end
section
noncomputable section
namespace Go.Eng.Sh
open Go.Proofs
set_option maxRecDepth 1000000
set_option maxHeartbeats 4000000
theorem c13_r:zLb (f13 (dy 100000) 100000 [] ⟨.leaf,0⟩)=true:=by kernel_rfl
theorem c13 (w:World):Calls PP 13 #[] w fun e w'=>e= .returned (.bool true)/\RowKit.Below w.heap.size w w':=zJr (zD4 (dy_ok 100000) 100000) c13_r w
end Go.Eng.Sh
end
end
section
noncomputable section
namespace Go.Eng.Sh
open Go.Proofs
set_option maxRecDepth 1000000
set_option maxHeartbeats 4000000
def z13 (D:Dyn)(n:Nat)(vs:List AV)(H:AH):Option (AV×AH):=cloK (f13 D n) vs H
theorem zN7 {D:Dyn}(hD:DG D)(n:Nat):FI 13 (z13 D n):=zMq ⟨_,Tryz.func13,rfl⟩ c13 (zD4 hD n)
variable (D:Dyn)(n:Nat)
attribute [local irreducible] bV bR hd cnd jn jb yJ wnt chk KR bA jJ YE KC bC eqP eqS eqM eqF eqA zO4 ldN ld1 stN cvI zO9 zE6 zMm V7 kX k9 vX dK KT zBD zFQ fd1 fdN fAd KS lnSl ZQ apP apZ cpy xH zKE pk3 s2a bxV aU zHY lkM upM dlM mkM callV nl fF tld zMe uD U4 uZ zCQ rfC mn2 mx2 aun qX xZ qZ isW aveq vV f85 f32 f86 JR zGh f34 f118 aJ zAD f119 f72 f18 f73 f127 QM fT zAA f126 bU fV X9 zAE f110 f137 xM uU aK fW JZ bW f109 vQ uR JS QG f227 f108 f81 X3 f213 QH zAx f177 aC zAv f179 JW X8 f131 f76 QF zAp f230 f225 f208 aB X1 f226 zGG zJ5 f171 f120 f74 f25 zD6 zAC zAB zKw f172 zJ3 f174 f62 f210 f173 f175 uS uT wK vR JY f123 f77 KU JO zGb f79 f130 f212 JU X4 f180 aH fS fR X7 zAz f132 JT X2 f214 aD fQ fP X5 zAw f178 f176 QL JX QK f129 aI bT f128 f82 f138 zMT f89 f88 f38 f19 f24 fU zD5 f124 f78 zAo zM1 f27 f21 QJ zD3 f148 f95 zBM KW zJ1 f41 BR f23 f193 zD2 f194 QI uC X6 zAy f149 xL zAt f207 f168 fO zGv f195 QA f75 f26 f196 zKv zAk zG7 zG8 f96 zLY zM0 zLX zLZ zJ0 f43 f84 f83 f29 f13 aG zGH f14 f36 f15 zAq zJ2 f22 zGC f16 f117 QB zIY f71 zBR zJ6 f17 zAr zJ4 f20 zLW zMZ zO3 f4b3 f4b4 f4 z13
def s4z:Tb:=⟨X,[(13,z13 D n),(14,f14 D n),(15,f15 D n),(16,f16 D n),(23,f23 D n),(24,f24 D n),(17,f17 D n),(19,f19 D n),(18,f18 D n),(20,f20 D n)]⟩
def h4z:Hint:=(.s .o (.s (.s .o (.cl (.s .o .o) .o)) (.s .o (.s (.s .o (.cl (.s .o .o) .o)) (.s .o (.s .o (.s (.s .o (.b [4,3,4,5] (.l [1,0,3,4,5,6] (.s (.s .o (.cr .o .o)) (.s (.b0 (.s (.s .o (.cl (.s .o .o) .o)) (.s .o (.c [0,0,3,4,5,6] (.s (.s (.c [4,15,9,511] (.l [0,1,2,3,5,6,7,8,4,9,10] .o) .o) (.cl .o .o)) (.s (.s .o (.cl (.s .o .o) .o)) (.s .o .o))) .o)))) .o))))) (.s (.s .o (.b [3] (.l [2,3,4,5,7] (.s (.s .o (.cr .o .o)) (.s (.b0 (.s (.b [8,255] .o) (.s .o (.cl (.s .o .o) .o)))) .o))))) (.s .o .o)))))))))
def zAn:=(⟨_,by conv=>rhs;reduce⟩:PD (s4z D n) D n 4 Tryz.f4 h4z [] 0).1
attribute [local irreducible] zAn
def QX:=(⟨_,by conv=>rhs;reduce⟩:PD (s4z D n) D n 4 Tryz.f4 h4z [zAn D n] 1).1
attribute [local irreducible] QX
def zAm:=(⟨_,by conv=>rhs;reduce⟩:PD (s4z D n) D n 4 Tryz.f4 h4z [zAn D n,QX D n] 2).1
attribute [local irreducible] zAm
def zIZ:=(⟨_,by conv=>rhs;reduce⟩:PD (s4z D n) D n 4 Tryz.f4 h4z [zAn D n,QX D n,zAm D n] 3).1
attribute [local irreducible] zIZ
def zLV:=(⟨_,by conv=>rhs;reduce⟩:PD (s4z D n) D n 4 Tryz.f4 h4z [zAn D n,QX D n,zAm D n,zIZ D n] 4).1
attribute [local irreducible] zLV
def f4z:=(⟨_,by conv=>rhs;reduce⟩:FD (s4z D n) D n 4 Tryz.f4 h4z [zAn D n,QX D n,zAm D n,zIZ D n,zLV D n]).1
theorem f4z_ok {D:Dyn}(hD:DG D)(n:Nat):FI 4 (f4z D n):=fk n (ms h4z) hD (sc (zN7 hD n) (sc (zGI hD n) (sc (zGE hD n) (sc (zGD hD n) (sc (zD0 hD n) (sc (zCZ hD n) (sc (zGy hD n) (sc (zD1 hD n) (sc (zAu hD n) (sc (zGt hD n) sn)))))))))) Tryz.func4 (by kernel_rfl) (by kernel_rfl)
attribute [local irreducible] f4z
end Go.Eng.Sh
end
end
section
namespace Go.Nd
abbrev Str:=List UInt8
structure Ptr where
 at_:Int
 birth:Int
 sum:Int
 deriving DecidableEq
structure Node where
 leaf:Bool
 keys:List Str
 vals:List Str
 kids:List Ptr
 deriving DecidableEq
def be:Nat->Nat->Str
 | 0,_=>[]
 | k+1,n=>be k (n / 256)++[UInt8.ofNat n]
def bee (l:Str):Nat:=l.foldl (fun n c=>n*256+c.toNat) 0
theorem be_length: ∀k n,(be k n).length=k
 | 0,_=>rfl
 | k+1,n=>by simp[be,be_length k]
theorem bee_snoc (l:Str)(c:UInt8):bee (l++[c])=bee l*256+c.toNat:=by simp[bee]
theorem bee_be: ∀k n,bee (be k n)=n % 256 ^ k
 | 0,n=>by simp[be,bee,Nat.mod_one]
 | k+1,n=>by
  rw[be,bee_snoc,bee_be k,Nat.pow_succ,Nat.mul_comm (256 ^ k) 256,Nat.mod_mul];simp[UInt8.toNat_ofNat'];omega
theorem zDk (l:Str):be l.length (bee l)=l:=by
 suffices h: ∀(m:Nat) (l:Str),l.length=m->be m (bee l)=l from h _ l rfl
 intro m
 induction m with
 | zero=>intro l h;rw[zL h];rfl
 | succ m ih=>
  intro l h;obtain⟨l',c,rfl⟩: ∃l' c,l=l'++[c]:=⟨l.dropLast,l.getLast (by intro e;simp[e]at h),(List.dropLast_concat_getLast _).symm⟩;simp only[zM,qO,Nat.add_right_cancel_iff]at h;have hc:c.toNat<256:=c.toNat_lt;rw[bee_snoc,be,show(bee l'*256+c.toNat) / 256=bee l' from by omega,ih l' h];congr 2;apply UInt8.toNat_inj.1;rw[UInt8.toNat_ofNat'];omega
theorem bee_lt (l:Str):bee l<256 ^ l.length:=by
 have:=bee_be l.length (bee l);rw[zDk]at this;rw[this];exact Nat.mod_lt _ (Nat.pow_pos (by omega))
def mayP (p:Ptr):Bool:=if p.at_=0 then decide (p.birth=0)&&decide (p.sum=0)else decide (0<p.at_)&&decide (p.at_<8192)&&decide (0<=p.birth)&&decide (p.birth<=2147483647)
def ZY (p:Ptr):Str:=be 4 p.at_.toNat++(be 4 p.birth.toNat++be 8 p.sum.toNat)
def kH (s:Str):Ptr:=⟨(bee (s.take 4):Nat),(bee ((s.drop 4).take 4):Nat),(bee (s.drop 8):Nat)⟩
def decP (s:Str):Option Ptr:=if mayP (kH s)then some (kH s)else none
theorem encP_length (p:Ptr):(ZY p).length=16:=by simp[ZY,be_length]
def sumOk (p:Ptr):Prop:=0<=p.sum/\p.sum<18446744073709551616
theorem zDO {p:Ptr}(h:mayP p=true)(hs:sumOk p):kH (ZY p)=p:=by
 obtain⟨a,b,s⟩:=p;have e1:(ZY ⟨a,b,s⟩).take 4=be 4 a.toNat:=by simp[ZY,be_length]
 have e2:((ZY ⟨a,b,s⟩).drop 4).take 4=be 4 b.toNat:=by
  rw[ZY,List.drop_left' (by simp[be_length]),List.take_left' (by simp[be_length])]
 have e3:(ZY ⟨a,b,s⟩).drop 8=be 8 s.toNat:=by
  rw[ZY,<-List.append_assoc,List.drop_left' (by simp[be_length])]
 simp only[kH,e1,e2,e3,bee_be];simp only[sumOk]at hs;simp only[mayP]at h;split at h
 .simp only[zE,zJ]at h;simp_all
 .simp only[zE,zJ]at h;congr 1<;>omega
theorem zE2 {s:Str}(h:s.length=16):ZY (kH s)=s:=by
 have h1:=zDk (s.take 4);have h2:=zDk ((s.drop 4).take 4);have h3:=zDk (s.drop 8);rw[show(s.take 4).length=4 from by simp;omega]at h1;rw[show((s.drop 4).take 4).length=4 from by simp;omega]at h2;rw[show(s.drop 8).length=8 from by simp;omega]at h3;simp only[ZY,kH,qD,h1,h2,h3];rw[show s.drop 8=(s.drop 4).drop 4 from by rw[List.drop_drop],List.take_append_drop,List.take_append_drop]
theorem zFk {s:Str}(h:s.length=16):sumOk (kH s):=by
 have:=bee_lt (s.drop 8);rw[show(s.drop 8).length=8 from by simp;omega]at this;simp only[sumOk,kH];omega
def encT (s:Str):Str:=UInt8.ofNat s.length::s
def mayK (k:Str):Bool:=decide (1<=k.length)&&decide (k.length<=40)
def rising (lt:Str->Str->Bool):List Str->Bool
 | []=>true
 | [_]=>true
 | a::b::l=>lt a b&&rising lt (b::l)
def kidOk (p:Ptr):Bool:=decide (1<=p.at_)&&decide (p.at_<8192)&&decide (0<=p.birth)&&decide (p.birth<=2147483647)
theorem kidOk_may {p:Ptr}(h:kidOk p=true):mayP p=true:=by
 simp only[kidOk,zE,zJ]at h;simp only[mayP];rw[if_neg (by omega)];simp only[zE,zJ];omega
def shaped (lt:Str->Str->Bool)(n:Node):Bool:=
 n.keys.all mayK&&rising lt n.keys&&
 (if n.leaf then decide (n.vals.length=n.keys.length)&&decide (n.kids=[])&&n.vals.all (fun v=>decide (v.length<=200))
  else decide (n.keys≠[])&&decide (n.vals=[])&&decide (n.kids.length=n.keys.length+1)&&n.kids.all kidOk)
def sumL (l:List Str):Nat:=l.foldl (fun n s=>n+(1+s.length)) 0
theorem B9 (l:List Str)(a:Nat):l.foldl (fun n s=>n+(1+s.length)) a=a+sumL l:=by
 induction l generalizing a with
 | nil=>simp[sumL]
 | cons s l ih=>simp only[List.foldl_cons,sumL];rw[ih,ih];omega
theorem sumL_cons (s:Str)(l:List Str):sumL (s::l)=1+s.length+sumL l:=by
 simp only[sumL,List.foldl_cons];rw[B9,B9];simp[sumL]
theorem sumL_append (l m:List Str):sumL (l++m)=sumL l+sumL m:=by
 induction l with
 | nil=>simp[sumL]
 | cons s l ih=>rw[List.cons_append,sumL_cons,sumL_cons,ih];omega
def size (n:Node):Nat:=2+16*n.kids.length+sumL n.keys+sumL n.vals
def may (lt:Str->Str->Bool)(n:Node):Bool:=shaped lt n&&decide (size n<=500)
def encL:List Str->List Str->Str
 | k::ks,v::vs=>encT k++(encT v++encL ks vs)
 | _,_=>[]
def encI:List Str->List Ptr->Str
 | k::ks,p::ps=>encT k++(ZY p++encI ks ps)
 | _,_=>[]
def encB (n:Node):Str:=if n.leaf then encL n.keys n.vals else match n.kids with
 | p::ps=>ZY p++encI n.keys ps
 | []=>[]
def encN (n:Node):Str:=be 2 n.keys.length++encB n
def kN:Str->Option (Str×Str)
 | []=>none
 | c::r=>if c.toNat<=r.length then some (r.take c.toNat,r.drop c.toNat)else none
def uV (s:Str):Option (Ptr×Str):=if 16<=s.length then match decP (s.take 16)with | some p=>some (p,s.drop 16) | none=>none else none
def Y8:Nat->Str->Option (List Str×List Str×Str)
 | 0,s=>some ([],[],s)
 | k+1,s=>match kN s with
  | some (a,s)=>match kN s with
   | some (b,s)=>match Y8 k s with
    | some (ks,vs,s)=>some (a::ks,b::vs,s)
    | none=>none
   | none=>none
  | none=>none
def Y9:Nat->Str->Option (List Str×List Ptr×Str)
 | 0,s=>some ([],[],s)
 | k+1,s=>match kN s with
  | some (a,s)=>match uV s with
   | some (b,s)=>match Y9 k s with
    | some (ks,vs,s)=>some (a::ks,b::vs,s)
    | none=>none
   | none=>none
  | none=>none
theorem decL_snoc: ∀(k:Nat) (s:Str),Y8 (k+1) s=(Y8 k s).bind fun x=>(kN x.2.2).bind fun a=>(kN a.2).bind fun b=>some (x.1++[a.1],x.2.1++[b.1],b.2)
 | 0,s=>by
  simp only[Y8,Option.bind_some]
  cases kN s with
  | none=>rfl
  | some a=>obtain⟨a,s1⟩:=a;simp only[Option.bind_some];cases kN s1 with
   | none=>rfl
   | some b=>rfl
 | k+1,s=>by
  rw[Y8]
  conv=>rhs;rw[Y8]
  cases kN s with
  | none=>rfl
  | some a=>
   obtain⟨a,s1⟩:=a;simp only
   cases kN s1 with
   | none=>rfl
   | some b=>
    obtain⟨b,s2⟩:=b;simp only;rw[decL_snoc k s2]
    cases Y8 k s2 with
    | none=>rfl
    | some x=>
     obtain⟨ks,vs,r⟩:=x;simp only[Option.bind_some]
     cases kN r with
     | none=>rfl
     | some c=>obtain⟨c,r1⟩:=c;simp only[Option.bind_some];cases kN r1 with
      | none=>rfl
      | some d=>rfl
theorem decI_snoc: ∀(k:Nat) (s:Str),Y9 (k+1) s=(Y9 k s).bind fun x=>(kN x.2.2).bind fun a=>(uV a.2).bind fun b=>some (x.1++[a.1],x.2.1++[b.1],b.2)
 | 0,s=>by
  simp only[Y9,Option.bind_some]
  cases kN s with
  | none=>rfl
  | some a=>obtain⟨a,s1⟩:=a;simp only[Option.bind_some];cases uV s1 with
   | none=>rfl
   | some b=>rfl
 | k+1,s=>by
  rw[Y9]
  conv=>rhs;rw[Y9]
  cases kN s with
  | none=>rfl
  | some a=>
   obtain⟨a,s1⟩:=a;simp only
   cases uV s1 with
   | none=>rfl
   | some b=>
    obtain⟨b,s2⟩:=b;simp only;rw[decI_snoc k s2]
    cases Y9 k s2 with
    | none=>rfl
    | some x=>
     obtain⟨ks,vs,r⟩:=x;simp only[Option.bind_some]
     cases kN r with
     | none=>rfl
     | some c=>obtain⟨c,r1⟩:=c;simp only[Option.bind_some];cases uV r1 with
      | none=>rfl
      | some d=>rfl
theorem decL_all (s:Str)(k:Nat):(List.range k).all (fun i=>(Y8 (i+1) s).isSome)=(Y8 k s).isSome:=by
 induction k with
 | zero=>simp[Y8]
 | succ k ih=>
  rw[List.range_succ,List.all_append,ih];simp only[List.all_cons,List.all_nil,Bool.and_true];rw[decL_snoc]
  cases Y8 k s<;>simp
theorem decI_all (s:Str)(k:Nat):(List.range k).all (fun i=>(Y9 (i+1) s).isSome)=(Y9 k s).isSome:=by
 induction k with
 | zero=>simp[Y9]
 | succ k ih=>
  rw[List.range_succ,List.all_append,ih];simp only[List.all_cons,List.all_nil,Bool.and_true];rw[decI_snoc]
  cases Y9 k s<;>simp
def decB (leaf:Bool)(k:Nat)(s:Str):Option (Node×Str):=
 if leaf then match Y8 k s with
  | some (ks,vs,s)=>some (⟨true,ks,vs,[]⟩,s)
  | none=>none
 else match uV s with
  | some (p,s)=>match Y9 k s with
   | some (ks,ps,s)=>some (⟨false,ks,[],p::ps⟩,s)
   | none=>none
  | none=>none
def decN (lt:Str->Str->Bool)(leaf:Bool)(s:Str):Option Node:=
 if s.length<=500/\2<=s.length then match decB leaf (bee (s.take 2)) (s.drop 2)with
  | some (n,r)=>if r=[]/\may lt n=true then some n else none
  | none=>none
 else none
theorem YR (s r:Str)(h:s.length<256):kN (encT s++r)=some (s,r):=by
 have e:(UInt8.ofNat s.length).toNat=s.length:=by rw[UInt8.toNat_ofNat'];omega
 simp only[encT,List.cons_append,kN,e];rw[if_pos (by simp)];simp
theorem XZ {s a r:Str}(h:kN s=some (a,r)):s=encT a++r/\a.length<256:=by
 cases s with
 | nil=>simp[kN]at h
 | cons c s=>
  simp only[kN]at h;split at h
  .simp only[zC,zK]at h;obtain⟨rfl,rfl⟩:=h;have hc:c.toNat<256:=c.toNat_lt;have hl:(s.take c.toNat).length=c.toNat:=by simp;omega
   refine⟨?_,by omega⟩;simp only[encT,hl,List.cons_append,List.take_append_drop];congr 1;apply UInt8.toNat_inj.1;rw[UInt8.toNat_ofNat'];omega
  .simp at h
theorem UX {p:Ptr}(r:Str)(h:mayP p=true)(hs:sumOk p):uV (ZY p++r)=some (p,r):=by
 have hl:=encP_length p;have e1:(ZY p++r).take 16=ZY p:=List.take_left' hl;have e2:(ZY p++r).drop 16=r:=List.drop_left' hl;simp only[uV,e1,e2];rw[if_pos (by simp[hl])];simp only[decP,zDO h hs,h,if_true]
theorem takeP_eq {s r:Str}{p:Ptr}(h:uV s=some (p,r)):s=ZY p++r/\mayP p=true/\sumOk p:=by
 simp only[uV]at h;split at h
 .rename_i hl;split at h
  .rename_i q hq;simp only[zC,zK]at h;obtain⟨rfl,rfl⟩:=h;have hl':(s.take 16).length=16:=by simp;omega
   simp only[decP]at hq;split at hq
   .rename_i hm;simp only[zC]at hq;subst hq;exact⟨by rw[zE2 hl',List.take_append_drop],hm,zFk hl'⟩
   .simp at hq
  .simp at h
 .simp at h
theorem encL_snoc: ∀(ks vs:List Str) (k v:Str),ks.length=vs.length->encL (ks++[k]) (vs++[v])=encL ks vs++(encT k++encT v)
 | [],[],k,v,_=>by simp[encL]
 | [],_::_,_,_,h=>by simp at h
 | _::_,[],_,_,h=>by simp at h
 | a::ks,b::vs,k,v,h=>by simp[encL,encL_snoc ks vs k v (by simpa using h)]
theorem encI_snoc: ∀(ks:List Str) (vs:List Ptr) (k:Str) (v:Ptr),ks.length=vs.length->encI (ks++[k]) (vs++[v])=encI ks vs++(encT k++ZY v)
 | [],[],k,v,_=>by simp[encI]
 | [],_::_,_,_,h=>by simp at h
 | _::_,[],_,_,h=>by simp at h
 | a::ks,b::vs,k,v,h=>by simp[encI,encI_snoc ks vs k v (by simpa using h)]
theorem zD9: ∀(ks vs:List Str),ks.length=vs.length->(∀k∈ks,k.length<256)->(∀v∈vs,v.length<256)->Y8 ks.length (encL ks vs)=some (ks,vs,[])
 | [],[],_,_,_=>rfl
 | [],_::_,h,_,_=>by simp at h
 | _::_,[],h,_,_=>by simp at h
 | k::ks,v::vs,h,hk,hv=>by
  have ih:=zD9 ks vs (by simpa using h) (fun x hx=>hk x (zF _ hx)) (fun x hx=>hv x (zF _ hx));simp only[zP,Y8,encL,YR k _ (hk k (zH ..)),YR v _ (hv v (zH ..)),ih]
theorem zDa: ∀(ks:List Str) (ps:List Ptr),ks.length=ps.length->(∀k∈ks,k.length<256)->(∀p∈ps,mayP p=true/\sumOk p)->Y9 ks.length (encI ks ps)=some (ks,ps,[])
 | [],[],_,_,_=>rfl
 | [],_::_,h,_,_=>by simp at h
 | _::_,[],h,_,_=>by simp at h
 | k::ks,v::vs,h,hk,hv=>by
  have ih:=zDa ks vs (by simpa using h) (fun x hx=>hk x (zF _ hx)) (fun x hx=>hv x (zF _ hx));have hv1:=hv v (zH ..);simp only[zP,Y9,encI,YR k _ (hk k (zH ..)),UX _ hv1.1 hv1.2,ih]
theorem decL_eq: ∀ {k:Nat} {s:Str} {ks vs:List Str} {r:Str},Y8 k s=some (ks,vs,r)->s=encL ks vs++r/\ks.length=k/\vs.length=k
 | 0,s,ks,vs,r,h=>by
  simp only[Y8,zC,zK]at h;obtain⟨rfl,rfl,rfl⟩:=h;simp[encL]
 | k+1,s,ks,vs,r,h=>by
  simp only[Y8]at h;split at h
  .rename_i a s1 h1;split at h
   .rename_i b s2 h2;split at h
    .rename_i ks' vs' s3 h3;simp only[zC,zK]at h;obtain⟨rfl,rfl,rfl⟩:=h;obtain⟨rfl,_⟩:=XZ h1;obtain⟨rfl,_⟩:=XZ h2;obtain⟨rfl,e1,e2⟩:=decL_eq h3;exact⟨by simp[encL],by simp[e1],by simp[e2]⟩
    .simp at h
   .simp at h
  .simp at h
theorem decI_eq: ∀ {k:Nat} {s:Str} {ks:List Str} {vs:List Ptr} {r:Str},Y9 k s=some (ks,vs,r)->s=encI ks vs++r/\ks.length=k/\vs.length=k/\ ∀p∈vs,sumOk p
 | 0,s,ks,vs,r,h=>by
  simp only[Y9,zC,zK]at h;obtain⟨rfl,rfl,rfl⟩:=h;simp[encI]
 | k+1,s,ks,vs,r,h=>by
  simp only[Y9]at h;split at h
  .rename_i a s1 h1;split at h
   .rename_i b s2 h2;split at h
    .rename_i ks' vs' s3 h3;simp only[zC,zK]at h;obtain⟨rfl,rfl,rfl⟩:=h;obtain⟨rfl,_⟩:=XZ h1;obtain⟨rfl,_,hs⟩:=takeP_eq h2;obtain⟨rfl,e1,e2,e3⟩:=decI_eq h3;exact⟨by simp[encI],by simp[e1],by simp[e2],by simpa using⟨hs,e3⟩⟩
    .simp at h
   .simp at h
  .simp at h
theorem encL_length: ∀(ks vs:List Str),ks.length=vs.length->(encL ks vs).length=sumL ks+sumL vs
 | [],[],_=>rfl
 | [],_::_,h=>by simp at h
 | _::_,[],h=>by simp at h
 | k::ks,v::vs,h=>by
  simp only[encL,zM,encT,zP,encL_length ks vs (by simpa using h),sumL_cons];omega
theorem encI_length: ∀(ks:List Str) (vs:List Ptr),ks.length=vs.length->(encI ks vs).length=sumL ks+16*vs.length
 | [],[],_=>rfl
 | [],_::_,h=>by simp at h
 | _::_,[],h=>by simp at h
 | k::ks,v::vs,h=>by
  simp only[encI,zM,encT,zP,encP_length,encI_length ks vs (by simpa using h),sumL_cons];omega
theorem encN_length {lt:Str->Str->Bool}{n:Node}(h:shaped lt n=true):(encN n).length=size n:=by
 obtain⟨leaf,ks,vs,ps⟩:=n;simp only[shaped,zE]at h;obtain⟨_,h⟩:=h
 cases leaf with
 | true=>
  simp only[if_true,zE,zJ]at h;simp only[encN,encB,if_true,zM,be_length,encL_length _ _ h.1.1.symm,size,h.1.2,qI];omega
 | false=>
  simp only[Bool.false_eq_true,if_false,zE,zJ]at h
  cases ps with
  | nil=>simp at h
  | cons p ps=>
   have e:ks.length=ps.length:=by have:=h.1.2;simp at this;omega
   simp only[encN,encB,Bool.false_eq_true,if_false,zM,be_length,encP_length,encI_length _ _ e,size,zP,h.1.1.2];simp[sumL];omega
theorem zDW {lt:Str->Str->Bool}{n:Node}(h:shaped lt n=true): ∀k∈n.keys,k.length<256:=by
 intro k hk;simp only[shaped,zE,List.all_eq_true]at h;have:=h.1.1 k hk;simp only[mayK,zE,zJ]at this;omega
theorem sumL_ge (l:List Str):l.length<=sumL l:=by
 induction l with
 | nil=>simp
 | cons s l ih=>rw[sumL_cons,zP];omega
theorem decN_encN {lt:Str->Str->Bool}{n:Node}(h:may lt n=true)(hs: ∀p∈n.kids,sumOk p):decN lt n.leaf (encN n)=some n:=by
 have hm:=h;simp only[may,zE,zJ]at h;obtain⟨hsh,hsz⟩:=h;have hlen:=encN_length hsh;have hk:=zDW hsh;have hkl:n.keys.length<=500:=by have:=sumL_ge n.keys;simp only[size]at hsz;omega
 have e1:(encN n).take 2=be 2 n.keys.length:=by simp[encN,be_length]
 have e2:(encN n).drop 2=encB n:=by rw[encN,List.drop_left' (be_length 2 _)]
 have e3:bee (be 2 n.keys.length)=n.keys.length:=by rw[bee_be];omega
 simp only[decN];rw[if_pos ⟨by omega,by rw[hlen,size];omega⟩,e1,e2,e3];have key:decB n.leaf n.keys.length (encB n)=some (n,[]):=by
  obtain⟨leaf,ks,vs,ps⟩:=n;simp only[shaped,zE]at hsh;obtain⟨_,hsh⟩:=hsh
  cases leaf with
  | true=>
   simp only[if_true,zE,zJ,List.all_eq_true]at hsh;simp only[decB,encB,if_true];rw[zD9 ks vs hsh.1.1.symm hk (fun v hv=>by have:=hsh.2 v hv;omega)];simp[hsh.1.2]
  | false=>
   simp only[Bool.false_eq_true,if_false,zE,zJ,List.all_eq_true]at hsh
   cases ps with
   | nil=>simp at hsh
   | cons p ps=>
    have e:ks.length=ps.length:=by have:=hsh.1.2;simp at this;omega
    simp only[decB,encB,Bool.false_eq_true,if_false];rw[UX _ (kidOk_may (hsh.2 p (zH ..))) (hs p (zH ..))];simp only;rw[zDa ks ps e hk (fun q hq=>⟨kidOk_may (hsh.2 q (zF _ hq)),hs q (zF _ hq)⟩)];simp[hsh.1.1.2]
 rw[key];simp[hm]
end Go.Nd
end
section
namespace Go.Eng
theorem uJ {b:List AV->AH->Rs}{H:AH}{r:Rs}(st:Nat->List AV)(N:Nat)(step: ∀i,i<N->b (st i) H=some (.norm (st (i+1)),H))(last: ∀n,yJ (n+1) b (st N) H=r): ∀n,N<n->yJ n b (st 0) H=r:=by
 suffices h: ∀(m i n:Nat),i+m=N->m<n->yJ n b (st i) H=r from fun n hn=>h N 0 n (by omega) hn
 intro m
 induction m with
 | zero=>
  intro i n hi hn;obtain⟨n,rfl⟩: ∃k,n=k+1:=⟨n - 1,by omega⟩;rw[show i=N by omega];exact last n
 | succ m ih=>
  intro i n hi hn;obtain⟨n,rfl⟩: ∃k,n=k+1:=⟨n - 1,by omega⟩;rw[j5 (step i (by omega))];exact ih (i+1) n (by omega) (by omega)
theorem jP {α:Type}(l:List α)(i:Nat)(h:i<l.length):l.take (i+1)=l.take i++[l[i]]:=by
 rw[zV h]
theorem Y3 (H:AH)(l:List AV)(e sz o:Nat)(g:Bool):ld1 (.ptr H.next o) (H.push (.cells l e sz g))=l[o]? :=by simp only[ld1,AH.push_get_eq,cR]
theorem zIK (H:AH)(l:List AV)(e sz o n:Nat)(g:Bool):ldN n (.ptr H.next o) (H.push (.cells l e sz g))=(xW l o n).map .agg:=by
 simp only[ldN,AH.push_get_eq];cases xW l o n<;>rfl
theorem zBB {H:AH}{A:Nat}(o:Nat)(x:AObj)(h:A<H.next):ld1 (.ptr A o) (H.push x)=ld1 (.ptr A o) H:=by simp only[ld1,AH.push_get_ne _ _ h]
theorem zLD {H:AH}{A:Nat}(o n:Nat)(x:AObj)(h:A<H.next):ldN n (.ptr A o) (H.push x)=ldN n (.ptr A o) H:=by simp only[ldN,AH.push_get_ne _ _ h]
theorem xR {b:List AV->AH->Rs}(N:Nat)(I:Nat->List AV->AH->Prop)(step: ∀i vs H,i<N->I i vs H-> ∃vs' H',b vs H=some (.norm vs',H')/\I (i+1) vs' H'):
  ∀(n:Nat) (vs:List AV) (H:AH),I 0 vs H->N<n-> ∃m vs' H',yJ n b vs H=yJ (m+1) b vs' H'/\I N vs' H':=by
 suffices h: ∀(m i n:Nat) (vs:List AV) (H:AH),i+m=N->m<n->I i vs H-> ∃m vs' H',yJ n b vs H=yJ (m+1) b vs' H'/\I N vs' H' from fun n vs H h0 hn=>h N 0 n vs H (by omega) hn h0
 intro m
 induction m with
 | zero=>
  intro i n vs H hi hn hI;obtain⟨n,rfl⟩: ∃k,n=k+1:=⟨n - 1,by omega⟩;exact⟨n,vs,H,rfl,by rw[show N=i by omega];exact hI⟩
 | succ m ih=>
  intro i n vs H hi hn hI;obtain⟨n,rfl⟩: ∃k,n=k+1:=⟨n - 1,by omega⟩;obtain⟨vs',H',h1,h2⟩:=step i vs H (by omega) hI;rw[j5 h1];exact ih (i+1) n vs' H' (by omega) (by omega) h2
def notN:Ex->Bool
 | .norm _=>false
 | _=>true
theorem zFO {e:Ex}{H:AH}{K:List AV->AH->Rs}(h:notN e=true):jn (some (e,H)) K=some (e,H):=by cases e<;>first | rfl | (simp[notN]at h)
theorem cU {b:List AV->AH->Rs}(N:Nat)(good:Nat->Bool)(I:Nat->List AV->AH->Prop)(Good Bad:Ex->AH->Prop)
  (step: ∀i vs H,i<N->I i vs H->good i=true-> ∃vs' H',b vs H=some (.norm vs',H')/\I (i+1) vs' H')
  (bad: ∀i vs H,i<N->I i vs H->good i=false-> ∃e H',b vs H=some (e,H')/\notN e=true/\Bad e H')
  (last: ∀vs H,I N vs H-> ∃e H',b vs H=some (e,H')/\notN e=true/\Good e H'):
  ∀(n:Nat) (vs:List AV) (H:AH),I 0 vs H->N<n-> ∃e H',yJ n b vs H=some (e,H')/\if(List.range N).all good then Good e H' else Bad e H':=by
 suffices h: ∀(m i n:Nat) (vs:List AV) (H:AH),i+m=N->m<n->I i vs H->(∀j,j<i->good j=true)-> ∃e H',yJ n b vs H=some (e,H')/\if(List.range N).all good then Good e H' else Bad e H' from
  fun n vs H h0 hn=>h N 0 n vs H (by omega) hn h0 (fun j hj=>by omega)
 intro m
 induction m with
 | zero=>
  intro i n vs H hi hn hI hg;obtain⟨n,rfl⟩: ∃k,n=k+1:=⟨n - 1,by omega⟩;rw[show i=N by omega]at hI hg;obtain⟨e,H',h1,h2,h3⟩:=last vs H hI;refine⟨e,H', ?_, ?_⟩
  .show jn (b vs H) _=_;rw[h1,zFO h2]
  .rw[if_pos (by simpa[List.all_eq_true]using hg)];exact h3
 | succ m ih=>
  intro i n vs H hi hn hI hg;obtain⟨n,rfl⟩: ∃k,n=k+1:=⟨n - 1,by omega⟩
  cases hgi:good i with
  | true=>
   obtain⟨vs',H',h1,h2⟩:=step i vs H (by omega) hI hgi;rw[j5 h1];exact ih (i+1) n vs' H' (by omega) (by omega) h2 (fun j hj=>by
    rcases Nat.lt_succ_iff_lt_or_eq.1 hj with h | rfl
    .exact hg j h
    .exact hgi)
  | false=>
   obtain⟨e,H',h1,h2,h3⟩:=bad i vs H (by omega) hI hgi;refine⟨e,H', ?_, ?_⟩
   .show jn (b vs H) _=_;rw[h1,zFO h2]
   .rw[if_neg (by
     simp only[List.all_eq_true,List.mem_range];intro h;have:=h i (by omega);rw[hgi]at this;cases this)];exact h3
theorem zEj (want:Bool)(x y:Rs):wnt qZ want x y=y:=by cases want<;>rfl
theorem zDl (k k':IntKind){a:Int}{s:Nat}(ha:0<=a)(hs:s<=k.bits):jJ .shr (.int k a) (.int k' (s:Int))=some (.int k (a / 2 ^ s)):=by
 show fI (a.fdiv ((2 ^ (Nat.min s k.bits):Nat):Int)) (fun r=>some (AV.int k r))=_;rw[zBL,show Nat.min s k.bits=s from Nat.min_eq_left hs,Int.fdiv_eq_ediv_of_nonneg _ (Int.natCast_nonneg _)];simp
theorem zDm (k k':IntKind)(a:Int){s:Nat}(hs:s<=k.bits):jJ .shl (.int k a) (.int k' (s:Int))=some (.int k (k.wrap (a*2 ^ s))):=by
 show mkI k (a*(2 ^ (Nat.min s k.bits):Nat))=_;rw[wR,show Nat.min s k.bits=s from Nat.min_eq_left hs];simp
theorem yU {v:AV}(h:isCell v=true):yC v=[v]:=by cases v<;>first | rfl | (simp[isCell]at h)
theorem Rw.isCell {k n:Nat}{H:AH}{v:AV}{l:List AV}(h:Rw k H v n l):Eng.isCell v=true:=by
 obtain⟨_,⟨rfl,_⟩ | ⟨rfl,_⟩ | ⟨A,off,cc,c,e,sz,g,rfl,_⟩⟩:=h<;>rfl
theorem Q2 (k:IntKind)(a b:Int):XK (dL k) (.int k a) (.int k b)=some (decide (a=b)):=by
 have:keq k k=true:=by rw[kK];simp
 simp only[XK,Nat.beq_refl,this,Bool.and_self,cond_true,kL];congr 1
theorem yN {k n:Nat}{H:AH}{v:AV}{l:List AV}(h:Rw k H v n l):aveq v v=true:=by
 obtain⟨_,⟨rfl,_⟩ | ⟨rfl,_⟩ | ⟨A,off,cc,c,e,sz,g,rfl,_⟩⟩:=h
 .rfl
 .rfl
 .simp[aveq]
theorem yV {x:Option AV}{v:AV}{K:Rs}(h:x=some v)(hv:aveq v v=true):chk x v K=K:=by subst h;simp[chk,hv]
theorem qV {H:AH}{A:Nat}{l:List AV}{e:TypeId}{sz:Nat}{g:Bool}(h:H.h.get A=some (.cells l e sz g))(o:Nat):ld1 (.ptr A o) H=l[o]? :=by simp only[ld1,h,cR]
theorem y6 {H:AH}{A:Nat}{l:List AV}{e:TypeId}{sz:Nat}{g:Bool}(h:H.h.get A=some (.cells l e sz g))(o n:Nat):ldN n (.ptr A o) H=(xW l o n).map .agg:=by simp only[ldN,h];cases xW l o n<;>rfl
theorem zNO (b c:Bool)(H:AH)(K:AV->AH->Rs):
  jn (if b=false then some (.norm [.bool c],H)else some (.norm [qZ],H)) (fun vs H=>hd vs fun y _=>bV (if b=true then some (.bool true)else some y) fun x=>K x H)=K (.bool (b||c)) H:=by
 cases b<;>simp[jn,hd,bV]
theorem zNN (p:Prop)[Decidable p](b:Bool)(H:AH)(K:AV->AH->Rs):
  jn (if ¬p then some (.norm [.bool b],H)else some (.norm [qZ],H)) (fun vs H=>hd vs fun y _=>bV (if p then some (.bool true)else some y) fun x=>K x H)=K (.bool (decide p||b)) H:=by
 by_cases h:p<;>simp[h,jn,hd,bV]
theorem lg:(∀(p:Prop) [Decidable p] (b:Bool) (H:AH) (K:AV->AH->Rs),jn (if ¬p then some (.norm [.bool b],H)else some (.norm [qZ],H)) (fun vs H=>hd vs fun y _=>bV (if p then some (.bool true)else some y) fun x=>K x H)=K (.bool (decide p||b)) H)/\
  (∀(p:Prop) [Decidable p] (b:Bool) (H:AH) (K:AV->AH->Rs),jn (if p then some (.norm [.bool b],H)else some (.norm [qZ],H)) (fun vs H=>hd vs fun y _=>bV (if p then some y else some (.bool false)) fun x=>K x H)=K (.bool (decide p&&b)) H)/\
  (∀(p:Prop) [Decidable p] (b:Bool) (H:AH) (K:AV->AH->Rs),jn (if p then some (.norm [qZ],H)else some (.norm [.bool b],H)) (fun vs H=>hd vs fun y _=>bV (if p then some (.bool true)else some y) fun x=>K x H)=K (.bool (decide p||b)) H)/\
  (∀(b c:Bool) (H:AH) (K:AV->AH->Rs),jn (if b=false then some (.norm [.bool c],H)else some (.norm [qZ],H)) (fun vs H=>hd vs fun y _=>bV (if b=true then some (.bool true)else some y) fun x=>K x H)=K (.bool (b||c)) H)/\
  (∀(p:Prop) [Decidable p],(decide p=true)=p)/\(∀(p:Prop) [Decidable p],(decide p=false)= ¬p)/\(∀(b:Bool),decide (b=true)=b):=
 ⟨fun p _ b H K=>zNN p b H K,fun p _ b H K=>zNQ p b H K,fun p _ b H K=>jn_or p b H K,zNO,fun p _=>zJ,fun p _=>by simp,fun b=>by simp⟩
theorem ev:(∀(v:AV) (vs:List AV) (K:AV->List AV->Rs),hd (v::vs) K=K v vs)/\
 (∀(K:Rs),nl [] K=K)/\
 (∀(v:AV) (K:AV->Rs),bV (some v) K=K v)/\
 (∀(v:AV) (H:AH) (K:AV->AH->Rs),bR (some (v,H)) K=K v H)/\
 (∀(vs:List AV) (H:AH) (K:List AV->AH->Rs),jn (some (.norm vs,H)) K=K vs H)/\
 (∀(v:AV) (H:AH) (K:List AV->AH->Rs),jn (some (.ret v,H)) K=some (.ret v,H))/\
 (∀(i:Nat) (vs:List AV) (H:AH) (K:List AV->AH->Rs),jn (some (.exit i vs,H)) K=some (.exit i vs,H))/\
 (∀(id:Nat) (vs:List AV) (H:AH) (K:List AV->AH->Rs),jb id (some (.norm vs,H)) K=K vs H)/\
 (∀(id:Nat) (v:AV) (H:AH) (K:List AV->AH->Rs),jb id (some (.ret v,H)) K=some (.ret v,H))/\
 (∀(id:Nat) (vs:List AV) (H:AH) (K:List AV->AH->Rs),jb id (some (.exit id vs,H)) K=K vs H)/\
 (∀(v:AV) (H:AH),fF (some (.ret v,H))=some (v,H))/\
 (∀(b:Bool) (x y:Rs),cnd (.bool b) x y=if b then x else y)/\
 (∀(b want:Bool) (x y:Rs),wnt (.bool b) want x y=if b=want then x else y)/\
 (∀(b:Bool) (x y:Option AV),pk3 (some (.bool b)) x y=if b then x else y)/\
 (∀(k:IntKind) (a b:Int),jJ .add (.int k a) (.int k b)=some (.int k (k.wrap (a+b))))/\
 (∀(k:IntKind) (a b:Int),jJ .sub (.int k a) (.int k b)=some (.int k (k.wrap (a - b))))/\
 (∀(k:IntKind) (a b:Int),jJ .mul (.int k a) (.int k b)=some (.int k (k.wrap (a*b))))/\
 (∀(k:IntKind) (a b:Int),jJ .eql (.int k a) (.int k b)=some (.bool (decide (a=b))))/\
 (∀(k:IntKind) (a b:Int),jJ .neq (.int k a) (.int k b)=some (.bool (decide (a≠b))))/\
 (∀(k:IntKind) (a b:Int),jJ .lss (.int k a) (.int k b)=some (.bool (decide (a<b))))/\
 (∀(k:IntKind) (a b:Int),jJ .leq (.int k a) (.int k b)=some (.bool (decide (a<=b))))/\
 (∀(k:IntKind) (a b:Int),jJ .gtr (.int k a) (.int k b)=some (.bool (decide (b<a))))/\
 (∀(k:IntKind) (a b:Int),jJ .geq (.int k a) (.int k b)=some (.bool (decide (b<=a))))/\
 (∀(k k':IntKind) (z:Int),cvI k (.int k' z)=some (.int k (k.wrap z)))/\
 (∀(a b:Bool),KC .eql (.bool a) (.bool b)=some (.bool (a==b)))/\
 (∀(a b:Bool),KC .neq (.bool a) (.bool b)=some (.bool (!(a==b))))/\
 (∀(b:Bool),aun .not (.bool b)=some (.bool !b))/\
 (∀(l:Str),KS (S l)=some (.int .i64 (l.length:Nat)))/\
 (∀(l m:Str),YE .eql (S l) (S m)=some (.bool (decide (l=m))))/\
 (∀(l m:Str),YE .neq (S l) (S m)=some (.bool (decide (l≠m))))/\
 (∀(l m:Str),YE .lss (S l) (S m)=some (.bool (ltS l m)))/\
 (∀(l m:Str),YE .geq (S l) (S m)=some (.bool (!ltS l m)))/\
 (∀(A o:Nat),xZ (.ptr A o)=some (.ptr A o))/\
 (∀(f A o:Nat),fAd f (.ptr A o)=some (.ptr A (o+f)))/\
 (∀(e:TypeId) (x:AV),bxV e x=some (.cells (yC x) e 1 false,fun A=> .ptr A 0))/\
 (∀(l:List AV),yC (.agg l)=l)/\
 (∀(H:AH) (l:List AV) (e sz o:Nat) (g:Bool),ld1 (.ptr H.next o) (H.push (.cells l e sz g))=l[o]?)/\
 (∀(H:AH) (l:List AV) (e sz o n:Nat) (g:Bool),ldN n (.ptr H.next o) (H.push (.cells l e sz g))=(xW l o n).map .agg)/\
 (∀(a:AV) (l:List AV),(a::l)[0]? =some a)/\
 (∀(a:AV) (l:List AV) (i:Nat),(a::l)[i+1]? =l[i]?)/\
 (∀(n:Nat),0+n=n)/\
 (∀(n:Nat),Int.ofNat n=(n:Int))/\
 (∀(z:Int), -9223372036854775808<=z->z<=9223372036854775807->IntKind.wrap .i64 z=z):=
 ⟨vY,zCG,bVs,bRs,ZU,zNM,zLE,zLF,zNR,zLG,zCz,zE7,zNa,zNw,YF,zJB,zDp,zJD,zDo,aV,zDq,zDr,zDs,zC3,zHu,zHt,zMx,ZP,UE,zJy,UD,zJz,zIv,zLU,fun _ _=>rfl,fun _=>rfl,Y3,zIK,fun _ _=>List.getElem?_cons_zero,fun _ _ _=>List.getElem?_cons_succ,Nat.zero_add,fun _=>rfl,fun _ h1 h2=>wrap_i64 h1 h2⟩
def eZ:=And.intro zEj (And.intro ev (And.intro lg ew))
def j9 (k e:Nat)(H:AH)(v:AV)(n:Nat)(l:List AV):Prop:=
 Own k e H v n l\/(l.length=n*k/\ ∃A e' g,v= .slice A 0 n (2*n)/\A<H.next/\H.h.get A=some (.cells l e' k g)/\n=0)
theorem j9.len {k e n:Nat}{H:AH}{v:AV}{l:List AV}(h:j9 k e H v n l):l.length=n*k:=by
 rcases h with h | h
 .exact h.1
 .exact h.1
theorem j9.row {k e n:Nat}{H:AH}{v:AV}{l:List AV}(h:j9 k e H v n l):Rw k H v n l:=by
 rcases h with h | ⟨h0,A,e',g,rfl,hA,hg,hn0⟩
 .exact h.row
 .exact⟨h0, .inr (.inr ⟨A,0,2*n,l,e',k,g,rfl,hg,hA,by omega,by rw[List.drop_zero,zO (by omega)]⟩)⟩
theorem j9.mono {k e n:Nat}{S:Nat->Prop}{H H':AH}{v:AV}{l:List AV}(h:j9 k e H v n l)(s:Stp S H H')(hS: ∀A,Blk v A-> ¬S A):j9 k e H' v n l:=by
 rcases h with h | ⟨h0,A,e',g,rfl,hA,hg,hn0⟩
 .exact .inl (h.mono s hS)
 .exact .inr ⟨h0,A,e',g,rfl,zY hA s.next,by rw[s.keep A hA (hS A (Blk.slice.2 rfl))];exact hg,hn0⟩
theorem j9.lt {k e n:Nat}{H:AH}{v:AV}{l:List AV}(h:j9 k e H v n l){B:Nat}(hB:Blk v B):B<H.next:=by
 rcases h with⟨_,⟨rfl,_⟩ | ⟨A,rfl,hA,_⟩⟩ | ⟨_,A,e',g,rfl,hA,_⟩
 .exact(Blk.nil.1 hB).elim
 .rw[Blk.slice.1 hB];exact hA
 .rw[Blk.slice.1 hB];exact hA
theorem j9.app1 {k e bytes n m:Nat}{H:AH}{v:AV}{l new:List AV}(hk:H.ok)(hpos:0<k)(h:j9 k e H v n l)(hm:new.length=m*k)(hn:n+m<=1000000000)(hb:bytes<=1000):
  ∃v' H',Eng.app1 e k bytes m new v H=some (v',H')/\j9 k e H' v' (n+m) (l++new)/\Stp (Blk v) H H'/\(∀B,Blk v' B->Blk v B\/H.next<=B):=by
 by_cases h0:m=0
 .subst h0;have:new=[]:=zL (by simpa using hm);subst this;rcases h with h | ⟨h0,A,e',g,rfl,hA,hg,hn0⟩
  .obtain⟨H',h1,h2,h3,h4⟩:=KE (bytes:=bytes) hk hpos h;exact⟨v,H',h1, .inl (by simpa using h2),h3.mono (fun _ _ x=>x.elim),fun B hB=> .inl hB⟩
  .have hroom:yO l g k 0 (2*n) k=n:=by
    simp only[yO,show((2*n) % 2).beq 0=true by rw[Nat.mul_mod_right];rfl,cond_true,Nat.mul_div_cancel_left n (show 0<2 by omega)]
   have hz:Nat.blt 0 k=true:=by rw[zR];exact hpos
   have hset:setAt l (0+n*k) []=some l:=by rw[jZ (by simp;omega)];simp
   have hg':(H.put A (.cells l e' k g)).h.get A=some (.cells l e' k g):=by rw[AH.put_get,if_pos rfl]
   refine⟨.slice A 0 n (2*n),H.put A (.cells l e' k g), ?_, .inr ⟨by simpa using h0,A,e',g,rfl,hA,by simpa using hg',by omega⟩,(Stp.refl hk).put hA _ (.inr (Blk.slice.2 rfl)),fun B hB=> .inl hB⟩;simp only[Eng.app1,hg,zEg,hroom,Nat.add_zero,Nat.ble_eq_true_of_le (Nat.le_refl n),cond_true,hz,hset,zB6,yX,yG]
 .rcases h with h | ⟨hl,A,e',g,rfl,hA,hg,hn0⟩
  .obtain⟨H',h1,h2,h3,h4⟩:=YG (bytes:=bytes) hk hpos h hm (by omega) hn hb;exact⟨_,H',h1, .inl h2,h3,fun B hB=> .inr (by rw[Blk.slice.1 hB];exact Nat.le_refl _)⟩
  .have h1:=KF (k:=k) (e:=e) (bytes:=bytes) (n:=n) (m:=m) (off:=0) (new:=new) hk hg (by omega) (by omega) hn hb;rw[List.drop_zero,zO (by omega)]at h1;refine⟨_,_,h1, .inl ⟨by simp[hl,hm,Nat.add_mul], .inr ⟨H.next,rfl,Nat.lt_succ_self _,AH.push_get_eq _ _⟩⟩,(Stp.refl hk).push _,fun B hB=> .inr (by rw[Blk.slice.1 hB];exact Nat.le_refl _)⟩
theorem j9.app {k e bytes n m:Nat}{H:AH}{v s:AV}{l new:List AV}(hk:H.ok)(hpos:0<k)(h:j9 k e H v n l)(hs:srcOf k s H=some (m,new))(hm:new.length=m*k)(hc:qY new=true)(hn:n+m<=1000000000)(hb:bytes<=1000):
  ∃v' H',apP e k bytes v s H=some (v',H')/\j9 k e H' v' (n+m) (l++new)/\Stp (Blk v) H H'/\(∀B,Blk v' B->Blk v B\/H.next<=B):=by
 obtain⟨v',H',h1,h2⟩:=h.app1 (bytes:=bytes) (e:=e) hk hpos hm hn hb;exact⟨v',H',by simp only[apP,hs,hc,cond_true,h1],h2⟩
theorem j9.isCell {k e n:Nat}{H:AH}{v:AV}{l:List AV}(h:j9 k e H v n l):isCell v=true:=h.row.isCell
def Box (H:AH)(A:Nat)(v:AV):Prop:= ∃e,H.h.get A=some (.cells [v] e 1 false)
theorem Box.ld {H:AH}{A:Nat}{v:AV}(h:Box H A v):ld1 (.ptr A 0) H=some v:=by
 obtain⟨e,h⟩:=h;rw[qV h];rfl
theorem Box.st {H:AH}{A:Nat}{v x:AV}(h:Box H A v)(hk:H.ok)(hx:Eng.isCell x=true): ∃H',stN 1 (.ptr A 0) x H=some (qZ,H')/\Box H' A x/\Stp (fun B=>B=A) H H':=by
 obtain⟨e,h⟩:=h;exact⟨_,fH h (by decide) hx (by simp),⟨e,by rw[AH.put_get,if_pos rfl];rfl⟩,(Stp.refl hk).put (hk.lt h) _ (.inr rfl)⟩
theorem Box.mono {S:Nat->Prop}{H H':AH}{A:Nat}{v:AV}(h:Box H A v)(hk:H.ok)(s:Stp S H H')(hA: ¬S A):Box H' A v:=by
 obtain⟨e,h⟩:=h;exact⟨e,by rw[s.keep A (hk.lt h) hA];exact h⟩
theorem Box.lt {H:AH}{A:Nat}{v:AV}(h:Box H A v)(hk:H.ok):A<H.next:=by obtain⟨e,h⟩:=h;exact hk.lt h
theorem YX {k:Nat}(H:AH)(c:List AV)(e:TypeId)(sz:Nat)(g:Bool)(m cc:Nat)(hc:c.length=m*k):srcOf k (.slice H.next 0 m cc) (H.push (.cells c e sz g))=some (m,c):=by
 simp only[srcOf,AH.push_get_eq];rw[yS _ _ _ (.inr (by omega)),List.drop_zero,zO (by omega)]
end Go.Eng
end
section
namespace Go.Nd
theorem rising_ix (lt:Str->Str->Bool): ∀l:List Str,rising lt l=true↔ ∀i (h:i+1<l.length),lt l[i] l[i+1]=true
 | []=>by simp[rising]
 | [a]=>by simp[rising]
 | a::b::l=>by
  have ih:=rising_ix lt (b::l);simp only[rising,zE,ih];constructor
  .rintro⟨h1,h2⟩ i h
   cases i with
   | zero=>exact h1
   | succ i=>exact h2 i (by simpa using h)
  .intro h;exact⟨h 0 (by simp),fun i hi=>h (i+1) (by simpa using hi)⟩
theorem rising_take {lt:Str->Str->Bool}{l:List Str}(h:rising lt l=true)(k:Nat):rising lt (l.take k)=true:=by
 rw[rising_ix]at h⊢;intro i hi;simp only[zQ]at hi;simp only[List.getElem_take];exact h i (by omega)
theorem rising_drop {lt:Str->Str->Bool}{l:List Str}(h:rising lt l=true)(k:Nat):rising lt (l.drop k)=true:=by
 rw[rising_ix]at h⊢;intro i hi;simp only[zU]at hi;simp only[List.getElem_drop];exact h (k+i) (by omega)
theorem YH {α:Type}{f:α->Bool}{l:List α}(h:l.all f=true)(k:Nat):(l.take k).all f=true:=by
 simp only[List.all_eq_true]at h⊢;exact fun x hx=>h x (List.mem_of_mem_take hx)
theorem YI {α:Type}{f:α->Bool}{l:List α}(h:l.all f=true)(k:Nat):(l.drop k).all f=true:=by
 simp only[List.all_eq_true]at h⊢;exact fun x hx=>h x (List.mem_of_mem_drop hx)
def cutA (n:Node)(k:Nat):Node:=if n.leaf then⟨true,n.keys.take k,n.vals.take k,[]⟩else⟨false,n.keys.take k,[],n.kids.take (k+1)⟩
def cB (n:Node)(k:Nat):Node:=if n.leaf then⟨true,n.keys.drop k,n.vals.drop k,[]⟩else⟨false,n.keys.drop (k+1),[],n.kids.drop (k+1)⟩
def bQ (a:Node)(sep:Str)(b:Node):Node:=if a.leaf then⟨true,a.keys++b.keys,a.vals++b.vals,[]⟩else⟨false,a.keys++([sep]++b.keys),[],a.kids++b.kids⟩
def cutOk (n:Node)(k:Nat):Prop:=1<=k/\k+(if n.leaf then 1 else 2)<=n.keys.length
theorem cut_shaped {lt:Str->Str->Bool}{n:Node}{k:Nat}(h:shaped lt n=true)(hk:cutOk n k):shaped lt (cutA n k)=true/\shaped lt (cB n k)=true:=by
 obtain⟨leaf,keys,vals,kids⟩:=n;obtain⟨k1,k2⟩:=hk
 cases leaf with
 | true=>
  simp only[shaped,if_true,zE,zJ]at h k2;obtain⟨⟨h1,h2⟩,⟨h3,h4⟩,h5⟩:=h;simp only[shaped,cutA,cB,if_true,zE,zJ];exact⟨⟨⟨YH h1 k,rising_take h2 k⟩,⟨by simp[h3],trivial⟩,YH h5 k⟩,⟨YI h1 k,rising_drop h2 k⟩,⟨by simp[h3],trivial⟩,YI h5 k⟩
 | false=>
  simp only[shaped,Bool.false_eq_true,if_false,zE,zJ]at h k2;obtain⟨⟨h1,h2⟩,⟨⟨h3,h4⟩,h5⟩,h6⟩:=h;simp only[shaped,cutA,cB,Bool.false_eq_true,if_false,zE,zJ];refine⟨⟨⟨YH h1 k,rising_take h2 k⟩,⟨⟨?_,trivial⟩, ?_⟩,YH h6 _⟩,⟨YI h1 _,rising_drop h2 _⟩,⟨⟨?_,trivial⟩, ?_⟩,YI h6 _⟩
  .intro e;have:=congrArg List.length e;rw[zQ]at this;simp only[qI]at this;omega
  .rw[zQ,zQ];omega
  .intro e;have:=congrArg List.length e;rw[zU]at this;simp only[qI]at this;omega
  .rw[zU,zU];omega
theorem sumL_drop_le (l:List Str)(k:Nat):sumL (l.drop k)<=sumL l:=by
 have:sumL l=sumL (l.take k)+sumL (l.drop k):=by rw[<-sumL_append,List.take_append_drop]
 omega
theorem sumL_take_le (l:List Str)(k:Nat):sumL (l.take k)<=sumL l:=by
 have:sumL l=sumL (l.take k)+sumL (l.drop k):=by rw[<-sumL_append,List.take_append_drop]
 omega
theorem ZD (l:List Str)(k:Nat):sumL l=sumL (l.take k)+sumL (l.drop k):=by rw[<-sumL_append,List.take_append_drop]
theorem cut_size {lt:Str->Str->Bool}{n:Node}{k:Nat}(h:shaped lt n=true)(hk:cutOk n k):size (cutA n k)<size n/\size (cB n k)<size n:=by
 obtain⟨leaf,keys,vals,kids⟩:=n;obtain⟨k1,k2⟩:=hk;have p1:=ZD keys k;have g1:=sumL_ge (keys.take k);have g2:=sumL_ge (keys.drop k);simp only[zQ,zU]at g1 g2
 cases leaf with
 | true=>
  simp only[if_true]at k2;simp only[shaped,if_true,zE,zJ]at h;have p2:=ZD vals k;simp only[cutA,cB,if_true,size,qI,h.2.1.2];omega
 | false=>
  simp only[Bool.false_eq_true,if_false]at k2;simp only[shaped,Bool.false_eq_true,if_false,zE,zJ]at h;have h5:=h.2.1.2;have p3:=ZD keys (k+1);have g3:=sumL_ge (keys.take (k+1));simp only[zQ]at g3;simp only[cutA,cB,Bool.false_eq_true,if_false,size,h.2.1.1.2,zQ,zU];have:sumL []=0:=rfl;omega
end Go.Nd
end
section
namespace Go.Eng.Sh
open Go.Nd (Ptr sumL)
theorem yZ (D:Dyn)(n:Nat)(s:Str)(H:AH):f137 D n [S s] H=some (.bool (Nd.mayK s),H):=by
 simp only[f137,vY,zCG,ZP,bVs,zDs,zDq,zNa,zNP,ZU,zNw,zIw,zCz];have h1:(Int.ofNat 1<=((s.length:Nat):Int))=(1<=s.length):=by simp;omega
 have h2:(((s.length:Nat):Int)<=Int.ofNat 40)=(s.length<=40):=by simp;omega
 simp only[h1,h2,Nd.mayK];by_cases h:1<=s.length<;>simp[h,bVs,fF]
theorem sumL_nil:sumL []=0:=rfl
theorem YT (l:List Str)(i:Nat)(hi:i<l.length):sumL (l.take (i+1))=sumL (l.take i)+(1+l[i].length)/\sumL (l.take i)+(1+l[i].length)<=sumL l:=by
 have hs:sumL l=sumL (l.take i)+(1+l[i].length+sumL (l.drop (i+1))):=by
  rw[<-Nd.sumL_cons,<-zX hi,<-Nd.sumL_append,List.take_append_drop]
 refine⟨?_,by omega⟩;rw[jP l i hi,Nd.sumL_append,Nd.sumL_cons];simp[sumL]
theorem size0 (D:Dyn)(n0:Nat){H:AH}{ks:AV}{l:List Str}(h:Strs H ks l)(x:AV)(a:Int)(n:Nat)(ha:0<=a)(hn:l.length<n)(hb:a+sumL l<=1000000000000):
  yJ n (bU D n0) [x, .int .i64 a,ks, .int .i64 (l.length:Nat), .int .i64 (0:Nat)] H=some (.exit 0 [x, .int .i64 (a+sumL l)],H):=by
 have key:=uJ (b:=bU D n0) (H:=H) (r:=some (.exit 0 [x, .int .i64 (a+sumL l)],H)) (fun i=>[x, .int .i64 (a+sumL (l.take i)),ks, .int .i64 (l.length:Nat), .int .i64 (i:Nat)]) l.length (fun i hi=>by
  obtain⟨p,h1,h2⟩:=h.at hi;obtain⟨hs1,hs⟩:=YT l i hi;have hge:=Nd.sumL_ge l;simp(disch:=omega) [bU,vY,bVs,aV,zE7,hi,h1,h2,ZP,YF,wrap_i64,hs1,Int.add_assoc]) (fun n=>y9 (by
  simp[bU,vY,bVs,aV,zE7])) n hn
 simpa[sumL_nil]using key
theorem size1 (D:Dyn)(n0:Nat){H:AH}{ks:AV}{l:List Str}(h:Strs H ks l)(a:Int)(n:Nat)(ha:0<=a)(hn:l.length<n)(hb:a+sumL l<=1000000000000):
  yJ n (fV D n0) [.int .i64 a,ks, .int .i64 (l.length:Nat), .int .i64 (0:Nat)] H=some (.exit 2 [.int .i64 (a+sumL l)],H):=by
 have key:=uJ (b:=fV D n0) (H:=H) (r:=some (.exit 2 [.int .i64 (a+sumL l)],H)) (fun i=>[.int .i64 (a+sumL (l.take i)),ks, .int .i64 (l.length:Nat), .int .i64 (i:Nat)]) l.length (fun i hi=>by
  obtain⟨p,h1,h2⟩:=h.at hi;obtain⟨hs1,hs⟩:=YT l i hi;have hge:=Nd.sumL_ge l;simp(disch:=omega) [fV,vY,bVs,aV,zE7,hi,h1,h2,ZP,YF,wrap_i64,hs1,Int.add_assoc]) (fun n=>y9 (by
  simp[fV,vY,bVs,aV,zE7])) n hn
 simpa[sumL_nil]using key
def y7 (p:Ptr):List AV:=[.int .i64 p.at_, .int .i64 p.birth, .int .u64 p.sum]
def xV (H:AH)(v:AV)(l:List Ptr):Prop:=Rw 3 H v l.length (l.flatMap y7)
def uF (H:AH)(v:AV)(n:Nd.Node):Prop:= ∃ks vs ps,v= .agg [.bool n.leaf,ks,vs,ps]/\Strs H ks n.keys/\Strs H vs n.vals/\xV H ps n.kids
theorem xV.lnSl {H:AH}{v:AV}{l:List Ptr}(h:xV H v l):Eng.lnSl v=some (.int .i64 (l.length:Int)):=Rw.lnSl h
theorem xV.prs {H H':AH}{v:AV}{l:List Ptr}(h:xV H v l)(s:Prs H H'):xV H' v l:=Rw.prs h s
theorem zO0: ∀(l:List Ptr) (i:Nat) (hi:i<l.length),((l.flatMap y7).drop (i*3)).take 3=y7 l[i]
 | [],i,hi=>by simp at hi
 | p::l,0,_=>rfl
 | p::l,i+1,hi=>by
  have:=zO0 l i (by simpa using hi);rw[show(i+1)*3=i*3+3 from by omega];exact this
theorem xV.at {H:AH}{v:AV}{l:List Ptr}(h:xV H v l){i:Nat}(hi:i<l.length): ∃p,(∀κ (z:Int),z=(i:Int)->dK 3 v (.int κ z)=some p)/\Eng.ldN 3 p H=some (.agg (y7 l[i])):=by
 obtain⟨p,h1,h2⟩:=Rw.ldN h hi;rw[zO0 l i hi]at h2;exact⟨p,h1,h2⟩
theorem uF.prs {H H':AH}{v:AV}{n:Nd.Node}(h:uF H v n)(s:Prs H H'):uF H' v n:=by
 obtain⟨ks,vs,ps,rfl,h1,h2,h3⟩:=h;exact⟨ks,vs,ps,rfl,h1.prs s,h2.prs s,h3.prs s⟩
def small (n:Nd.Node):Prop:=n.kids.length<=100000/\sumL n.keys<=100000000/\sumL n.vals<=100000000
theorem YY (D:Dyn)(n:Nat){H:AH}(hk:H.ok){v:AV}{nd:Nd.Node}(h:uF H v nd)(hs:small nd)(hn:200000000<=n):
  Ret (f110 D n [v] H) fun r H'=>r= .int .i64 (Nd.size nd:Nat)/\Prs H H':=by
 obtain⟨ks,vs,ps,rfl,h1,h2,h3⟩:=h;obtain⟨s1,s2,s3⟩:=hs;have hP:Prs H (H.push (.cells [.bool nd.leaf,ks,vs,ps] 119 1 false)):=(Stp.refl hk).push _;have hkl:=Nd.sumL_ge nd.keys;have hvl:=Nd.sumL_ge nd.vals;simp(disch:=omega) only[f110,ev,yR hk,h1.lnSl,h2.lnSl,h3.lnSl,size0 D n (h1.prs hP),zAE,size1 D n (h2.prs hP),X9];apply Ret.pure;refine⟨?_,hP⟩;simp only[Nd.size,AV.int.injEq,true_and];omega
open Go.Nd (be mayP ZY)
theorem zHr: ∀(i n:Nat),be (i+1) n=UInt8.ofNat (n / 256 ^ i)::be i n
 | 0,n=>by simp[be]
 | i+1,n=>by
  rw[be,zHr i (n / 256),Nat.div_div_eq_div_mul,Nat.mul_comm 256,<-Nat.pow_succ];rfl
theorem zL9 {c m:List AV}{o:Nat}{x:AV}(h:o<c.length):(c.take (o+1)++m).set o x=c.take o++(x::m):=by
 have hl:(c.take o).length=o:=by simp;omega
 rw[jP c o h,List.append_assoc,List.set_append_right _ _ (by omega),hl];simp
theorem zFi (D:Dyn)(n:Nat){H:AH}(hk:H.ok){A off k cc:Nat}{c:List AV}{e:TypeId}{g:Bool}(z:Nat)(hA:H.h.get A=some (.cells c e 1 g))(hc:off+k<=c.length)(hkk:k<=8)(hn:100<=n):
  ∃H',f119 D n [.slice A off k cc, .int .u64 (z:Nat)] H=some (.tuple [],H')/\H'.h.get A=some (.cells (c.take off++(qW (be k z)++c.drop (off+k))) e 1 g)/\Stp (fun B=>B=A) H H'/\H'.next=H.next:=by
 have hlt:=hk.lt hA;have key:=xR (b:=aJ D n) k (fun i vs H'=>vs=[.slice A off k cc, .int .u64 (z:Nat), .int .i64 (k:Nat), .int .i64 (i:Nat)]/\i<=k/\H'.h.get A=some (.cells (c.take (off+(k - i))++(qW (be i z)++c.drop (off+k))) e 1 g)/\Stp (fun B=>B=A) H H'/\H'.next=H.next)
  (fun i vs H' hi ⟨hvs,hik,hg,hst,hnx⟩=>by
   subst hvs;have hb:Nat.blt (k - 1 - i) k=true:=by rw[zR];omega
   have hsub:(((k:Nat):Int) - 1 - (i:Int))=((k - 1 - i:Nat):Int):=by omega
   have hix:dK 1 (.slice A off k cc) (.int .i64 ((k - 1 - i:Nat):Int))=some (.ptr A (off+(k - 1 - i))):=by
    simp only[dK,yM _ (show(0:Int)<=((k - 1 - i:Nat):Int)by omega),qD,hb,cond_true,yG,Nat.mul_one]
   have hst1:=fH (x:= .int .u8 ((((z / 256 ^ i % 256:Nat):Nat)):Int)) (o:=off+(k - 1 - i)) hg (by decide) rfl (by simp[qW,Nd.be_length];omega);have hcell:(c.take (off+(k - i))++(qW (be i z)++c.drop (off+k))).set (off+(k - 1 - i)) (.int .u8 (((z / 256 ^ i % 256:Nat)):Int))=c.take (off+(k - (i+1)))++(qW (be (i+1) z)++c.drop (off+k)):=by
    rw[show off+(k - i)=off+(k - 1 - i)+1 by omega,zL9 (by omega),zHr,show k - (i+1)=k - 1 - i by omega];simp[qW]
   have hsh:((z:Nat):Int) / 2 ^ (8*i)=((z / 256 ^ i:Nat):Int):=by
    rw[<-zK9];simp
   refine⟨_,H'.put A (.cells (c.take (off+(k - (i+1)))++(qW (be (i+1) z)++c.drop (off+k))) e 1 g), ?_,rfl,by omega,by rw[AH.put_get,if_pos rfl], ?_,hnx⟩
   .rw[hcell]at hst1;have hsh':=zDl .u64 .i64 (a:=(z:Nat)) (s:=8*i) (by omega) (by simp[IntKind.bits];omega);rw[hsh]at hsh';have h8:(((8:Nat):Int)*(i:Int))=((8*i:Nat):Int):=by omega
    have hw:IntKind.wrap .u8 ((z / 256 ^ i:Nat):Int)=((z / 256 ^ i % 256:Nat):Int):=by rw[wrap_u8];omega
    have h1:((k:Nat):Int) - ((1:Nat):Int) - (i:Int)=((k - 1 - i:Nat):Int):=by omega
    simp(disch:=omega) only[aJ,ev,lnSl,h1,hix,h8,hsh',hw,hst1];simp[hi]
   .exact hst.put (by omega) _ (.inr rfl)) n _ H ⟨rfl,Nat.zero_le _,by simpa[be,qW]using hA,Stp.refl hk,rfl⟩ (by omega)
 obtain⟨m,vs',H',h1,rfl,_,h3,h4,h5⟩:=key;refine⟨H', ?_,by simpa using h3,h4,h5⟩;have hl:yJ (m+1) (aJ D n) [.slice A off k cc, .int .u64 (z:Nat), .int .i64 (k:Nat), .int .i64 (k:Nat)] H'=some (.exit 0 [],H'):=y9 (by simp[aJ,ev]);rw[hl]at h1;simp only[f119,ev,lnSl,h1,zAD]
theorem zMc (p q:Ptr):eqA [6,6,10] (.agg (y7 p)) (.agg (y7 q))=some (decide (p=q)):=by
 obtain⟨a,b,c⟩:=p;obtain⟨a',b',c'⟩:=q;have h1:=fun x y=>Q2 .i64 x y
 have h2:=fun x y=>Q2 .u64 x y
 simp only[dL]at h1 h2;simp only[eqA,y7,fL,Nat.succ_eq_add_one,Nat.beq_refl,zP,qI,Bool.and_self,cond_true,wY,h1,h2];by_cases e1:a=a'<;>by_cases e2:b=b'<;>by_cases e3:c=c'<;>simp[e1,e2,e3]
theorem zJm (b:Bool):bC .eql (some b)=some (.bool b):=by simp only[bC,yY]
theorem zKd (D:Dyn)(n:Nat){H:AH}(hk:H.ok)(p:Ptr): ∃H',f118 D n [.agg (y7 p)] H=some (.bool (mayP p),H')/\Prs H H':=by
 refine⟨H.push (.cells (y7 p) 42 1 false), ?_,(Stp.refl hk).push _⟩;have hz:eqA [6,6,10] (.agg (y7 p)) (.agg (y7 ⟨0,0,0⟩))=_:=zMc p ⟨0,0,0⟩;obtain⟨a,b,c⟩:=p;simp only[y7]at hz;simp only[f118,ev,yR hk,y7,xW,takeN,Option.map_some,lg,xH,uL];by_cases h0:a=0
 .subst h0;simp only[show((0:Nat):Int)=0 from rfl,if_true,hz,zJm,ev,mayP];simp
 .simp only[show((0:Nat):Int)=0 from rfl,if_neg h0,ev,mayP];rfl
def Z (n:Nat):List AV:=List.replicate n (.int .u8 ((0:Nat):Int))
theorem zLi:rep 16 [.int .u8 ((0:Nat):Int)]=Z 16:=rfl
theorem zBr (D:Dyn)(n:Nat){H:AH}(hk:H.ok){A off k cc:Nat}{pre seg post:List AV}{e:TypeId}{g:Bool}(z:Nat)(hA:H.h.get A=some (.cells (pre++(seg++post)) e 1 g))(hp:pre.length=off)(hs:seg.length=k)(hkk:k<=8)(hn:100<=n):
  ∃H',f119 D n [.slice A off k cc, .int .u64 (z:Nat)] H=some (.tuple [],H')/\H'.h.get A=some (.cells (pre++(qW (be k z)++post)) e 1 g)/\Stp (fun B=>B=A) H H'/\H'.next=H.next:=by
 obtain⟨H',h1,h2,h3⟩:=zFi D n hk (cc:=cc) (k:=k) (off:=off) z hA (by simp;omega) hkk hn;refine⟨H',h1, ?_,h3⟩;have hd:(pre++(seg++post)).drop (off+k)=post:=by rw[<-List.append_assoc,List.drop_left' (by rw[zM];omega)]
 rw[List.take_left' hp,hd]at h2;exact h2
theorem slA (A lo hi:Nat)(h1:lo<=hi)(h2:hi<=16)(h3:lo<16):k9 16 1 (.ptr A 0) (some (.int .i64 (lo:Nat))) (some (.int .i64 (hi:Nat))) none=some (.slice A lo (hi - lo) (2*(16 - lo))):=by
 have e1:Nat.ble hi 16=true:=by rw[qA];exact h2
 have e2:Nat.ble lo hi=true:=by rw[qA];exact h1
 have e3:Nat.beq 16 lo=false:=by rw[Bool.eq_false_iff];intro h;have:=Nat.eq_of_beq_eq_true h;omega
 simp[k9,yT,yM,QY,e1,e2,e3,yG,show((32 % 2).beq 0)=true from rfl,show(32 / 2).beq lo=false from e3,show Nat.blt 0 1=true from rfl]
theorem zES (A:Nat):k9 16 1 (.ptr A 0) none (some (.int .i64 ((4:Nat):Int))) none=some (.slice A 0 4 32):=rfl
theorem zER (A:Nat):k9 16 1 (.ptr A 0) (some (.int .i64 ((8:Nat):Int))) none none=some (.slice A 8 8 16):=rfl
theorem zNn (A:Nat):k9 16 1 (.ptr A 0) none none none=some (.slice A 0 16 32):=rfl
theorem zAH (D:Dyn)(n:Nat){H:AH}(hk:H.ok){p:Ptr}(hp:mayP p=true)(hs:Nd.sumOk p)(hn:100<=n): ∃H',f72 D n [.agg (y7 p)] H=some (.tuple [S (ZY p), .int .i64 (0:Nat)],H')/\Prs H H':=by
 have hP:Prs H (H.push (.cells (y7 p) 42 1 false)):=(Stp.refl hk).push _;obtain⟨H2,h2,hP2⟩:=zKd D n hP.ok p;have hd':xW (y7 p) 0 3=some (y7 p):=rfl;have h0: ∃a b s:Nat,p=⟨a,b,s⟩/\a<4294967296/\b<4294967296/\s<18446744073709551616:=by
  obtain⟨a,b,s⟩:=p;simp only[Nd.sumOk]at hs;have h1:0<=a/\a<8192/\0<=b/\b<=2147483647:=by
   simp only[mayP]at hp;split at hp
   .simp only[zE,zJ]at hp;omega
   .simp only[zE,zJ]at hp;omega
  exact⟨a.toNat,b.toNat,s.toNat,by congr 1<;>omega,by omega,by omega,by omega⟩
 obtain⟨a,b,s,rfl,ha,hb,hss⟩:=h0;have hw: ∀x:Nat,x<18446744073709551616->IntKind.wrap .u64 (x:Int)=(x:Int):=fun x hx=>by rw[wrap_u64];omega
 have hP3:Prs H2 (H2.push (.cells (Z 16) 232 1 false)):=(Stp.refl hP2.ok).push _;have hB:(H2.push (.cells (Z 16) 232 1 false)).h.get H2.next=some (.cells ([]++(Z 4++Z 12)) 232 1 false):=AH.push_get_eq _ _
 have hn3:(H2.push (.cells (Z 16) 232 1 false)).next=H2.next+1:=rfl
 generalize hH3:H2.push (.cells (Z 16) 232 1 false)=H3 at hP3 hB hn3;obtain⟨H4,e4,g4,st4,n4⟩:=zBr D n hP3.ok (cc:=32) (k:=4) (off:=0) a hB rfl (by simp[Z]) (by omega) hn;rw[show[]++(qW (be 4 a)++Z 12)=qW (be 4 a)++(Z 4++Z 8)from rfl]at g4;obtain⟨H5,e5,g5,st5,n5⟩:=zBr D n st4.ok (cc:=24) (k:=4) (off:=4) b g4 (by simp[qW,Nd.be_length]) (by simp[Z]) (by omega) hn;rw[<-List.append_assoc,show Z 8=Z 8++[]from rfl]at g5;obtain⟨H6,e6,g6,st6,n6⟩:=zBr D n st5.ok (cc:=16) (k:=8) (off:=8) s g5 (by simp[qW,Nd.be_length]) (by simp[Z]) (by omega) hn;have hx3:H3.h.get H.next=some (.cells (y7 ⟨a,b,s⟩) 42 1 false):=hP3.get hP2.ok (hP2.get hP.ok (AH.push_get_eq _ _))
 have hlt2:H.next<H2.next:=by have:=hP2.next;rw[AH.push_next]at this;omega
 have hx4:H4.h.get H.next=some (.cells (y7 ⟨a,b,s⟩) 42 1 false):=by rw[st4.keep _ (by have:=hP3.next;omega) (by omega)];exact hx3
 have hx5:H5.h.get H.next=some (.cells (y7 ⟨a,b,s⟩) 42 1 false):=by rw[st5.keep _ (by have:=hP3.next;omega) (by omega)];exact hx4
 have hbytes:qW (be 4 a)++qW (be 4 b)++(qW (be 8 s)++[])=qW (ZY ⟨a,b,s⟩):=by simp[ZY,qW]
 rw[hbytes]at g6;have hcv:zE6 (.slice H2.next 0 16 32) H6=some (S (ZY ⟨a,b,s⟩)):=YA ⟨by simp[qW,Nd.encP_length], .inr (.inr ⟨_,_,_,_,_,_,_,rfl,g6,by have:=(st6.ok).lt g6;exact this,by simp[qW,Nd.encP_length],by simp[zO,qW,Nd.encP_length]⟩)⟩ (by simp)
 refine⟨H6, ?_, ?_⟩
 .simp only[f72,ev,yR hk,hd',Option.map_some,h2,hp];simp only[ev,yR hP2.ok,Bool.not_true,Bool.false_eq_true,if_false,zLi,hH3,zES,zER,zNn,slA _ 4 8 (by omega) (by omega) (by omega),qV hx3,qV hx4,qV hx5,y7,hw a (by omega),hw b (by omega),hw s (by omega),e4,e5,e6,hcv]
 .have hst:Stp (fun B=>B=H2.next) H3 H6:=(st4.trans st5).trans st6
  exact(hP.trans hP2).trans (hP3.fresh hst (fun A hA=>by omega))
theorem WB (lt:Str->Str->Bool): ∀l:List Str,Nd.rising lt l=true↔ ∀i (h:i+1<l.length),lt l[i] l[i+1]=true
 | []=>by simp[Nd.rising]
 | [a]=>by simp[Nd.rising]
 | a::b::l=>by
  have ih:=WB lt (b::l);simp only[Nd.rising,zE,ih];constructor
  .rintro⟨h1,h2⟩ i h
   cases i with
   | zero=>exact h1
   | succ i=>exact h2 i (by simpa using h)
  .intro h;exact⟨h 0 (by simp),fun i hi=>h (i+1) (by simpa using hi)⟩
def zDZ (l:List Str)(i:Nat):Bool:=Nd.mayK (l.getD i [])&&(decide (i=0)||ltS (l.getD (i - 1) []) (l.getD i []))
theorem zG0 (l:List Str):(List.range l.length).all (zDZ l)=(l.all Nd.mayK&&Nd.rising ltS l):=by
 rw[Bool.eq_iff_iff,zE,WB];simp only[List.all_eq_true,List.mem_range,zDZ,zE,Bool.or_eq_true,zJ];constructor
 .intro h;refine⟨fun x hx=> ?_,fun i hi=> ?_⟩
  .obtain⟨i,hi,rfl⟩:=List.mem_iff_getElem.1 hx;have:=(h i hi).1;rwa[zT,zG hi]at this
  .have:=(h (i+1) hi).2;simp only[Nat.add_eq_zero_iff,Nat.one_ne_zero,and_false,false_or,Nat.add_sub_cancel]at this;rwa[zT,zG (by omega),zT,zG hi]at this
 .rintro⟨h1,h2⟩ i hi
  refine⟨?_, ?_⟩
  .rw[zT,zG hi];exact h1 _ (qC hi)
  .by_cases h0:i=0
   .exact .inl h0
   .right;have:=h2 (i - 1) (by omega);rw[zT,zG (show i - 1<l.length by omega),zT,zG hi];simpa[show i - 1+1=i by omega]using this
theorem zB8 {α:Type}(l:List α)(d:α)(f:α->Bool):(List.range l.length).all (fun i=>f (l.getD i d))=l.all f:=by
 rw[Bool.eq_iff_iff];simp only[List.all_eq_true,List.mem_range];constructor
 .intro h x hx;obtain⟨i,hi,rfl⟩:=List.mem_iff_getElem.1 hx;have:=h i hi;rwa[zT,zG hi]at this
 .intro h i hi;rw[zT,zG hi];exact h _ (qC hi)
theorem kT {α:Type}{l:List α}{i:Nat}{d:α}(h:i<l.length):l.getD i d=l[i]:=by rw[zT,zG h];rfl
theorem zL8 (D:Dyn)(n:Nat){H:AH}{ks:AV}{l:List Str}(h:Strs H ks l){A e:Nat}{c:List AV}(hA:H.h.get A=some (.cells c e 1 false))(hc:c[1]? =some ks)(hl:l.length<=1000000000)(n':Nat)(hn:l.length<n'):
  ∃e H',yJ n' (xM D n) [.ptr A 0,ks, .int .i64 (l.length:Nat), .int .i64 (0:Nat)] H=some (e,H')/\if(List.range l.length).all (zDZ l)then(e= .exit 0 [.ptr A 0]/\H'=H)else(e= .ret (.bool false)/\H'=H):=by
 refine cU l.length (zDZ l) (fun i vs H'=>H'=H/\vs=[.ptr A 0,ks, .int .i64 (l.length:Nat), .int .i64 (i:Nat)]) (fun e H'=>e= .exit 0 [.ptr A 0]/\H'=H) (fun e H'=>e= .ret (.bool false)/\H'=H) ?_ ?_ ?_ n' _ H ⟨rfl,rfl⟩ hn
 .rintro i vs H' hi ⟨rfl,rfl⟩ hg
  obtain⟨p,h1,h2⟩:=h.at hi;simp only[zDZ,kT hi,zE,Bool.or_eq_true,zJ]at hg;refine⟨_,H', ?_,rfl,rfl⟩;have hiI:((i:Nat):Int)< ((l.length:Nat):Int):=by omega
  by_cases h0:i=0
  .subst h0;simp(disch:=omega) only[xM,eZ,hiI,h1,h2,yZ,hg.1,qJ,show((0:Nat):Int)+((1:Nat):Int)=((0+1:Nat):Int)from rfl]
  .have hlt:i - 1<l.length:=by omega
   obtain⟨q,q1,q2⟩:=h.at hlt;have hg2:=hg.2.resolve_left h0;rw[kT hlt]at hg2;have hsub:((i:Nat):Int) - ((1:Nat):Int)=((i - 1:Nat):Int):=by omega
   have hpos:((0:Nat):Int)< (i:Int):=by omega
   simp(disch:=omega) only[xM,eZ,hiI,hpos,h1,h2,yZ,hg.1,qV hA,hc,hsub,q1,q2,hg2,Int.natCast_add]
 .rintro i vs H' hi ⟨rfl,rfl⟩ hg
  obtain⟨p,h1,h2⟩:=h.at hi;have hiI:((i:Nat):Int)< ((l.length:Nat):Int):=by omega
  refine⟨.ret (.bool false),H', ?_,rfl,rfl,rfl⟩;simp only[zDZ,kT hi]at hg
  cases hm:Nd.mayK l[i]with
  | false=>simp(disch:=omega) only[xM,eZ,hiI,h1,h2,yZ,hm]
  | true=>
   simp only[hm,Bool.true_and,Bool.or_eq_false_iff,decide_eq_false_iff_not]at hg;have hlt:i - 1<l.length:=by omega
   obtain⟨q,q1,q2⟩:=h.at hlt;have hg2:=hg.2;rw[kT hlt]at hg2;have hsub:((i:Nat):Int) - ((1:Nat):Int)=((i - 1:Nat):Int):=by omega
   have hpos:((0:Nat):Int)< (i:Int):=by omega
   simp(disch:=omega) only[xM,eZ,hiI,hpos,h1,h2,yZ,hm,qV hA,hc,hsub,q1,q2,hg2]
 .rintro vs H' ⟨rfl,rfl⟩
  refine⟨.exit 0 [.ptr A 0],H', ?_,rfl,rfl,rfl⟩;simp only[xM,eZ,qJ]
theorem zL7 (D:Dyn)(n:Nat){H:AH}{vs:AV}{l:List Str}(h:Strs H vs l)(hl:l.length<=1000000000)(n':Nat)(hn:l.length<n'):
  ∃e H',yJ n' (uU D n) [vs, .int .i64 (l.length:Nat), .int .i64 (0:Nat)] H=some (e,H')/\if(List.range l.length).all (fun i=>decide ((l.getD i []).length<=200))then(e= .exit 2 []/\H'=H)else(e= .ret (.bool false)/\H'=H):=by
 refine cU l.length _ (fun i us H'=>H'=H/\us=[vs, .int .i64 (l.length:Nat), .int .i64 (i:Nat)]) (fun e H'=>e= .exit 2 []/\H'=H) (fun e H'=>e= .ret (.bool false)/\H'=H) ?_ ?_ ?_ n' _ H ⟨rfl,rfl⟩ hn
 .rintro i us H' hi ⟨rfl,rfl⟩ hg
  obtain⟨p,h1,h2⟩:=h.at hi;simp only[kT hi,zJ]at hg;refine⟨_,H', ?_,rfl,rfl⟩;have hiI:((i:Nat):Int)< ((l.length:Nat):Int):=by omega
  have hg': ¬((200:Nat):Int)< ((l[i].length:Nat):Int):=by omega
  simp(disch:=omega) only[uU,eZ,hiI,h1,h2,hg',Int.natCast_add]
 .rintro i us H' hi ⟨rfl,rfl⟩ hg
  obtain⟨p,h1,h2⟩:=h.at hi;simp only[kT hi,decide_eq_false_iff_not]at hg;refine⟨.ret (.bool false),H', ?_,rfl,rfl,rfl⟩;have hiI:((i:Nat):Int)< ((l.length:Nat):Int):=by omega
  have hg':((200:Nat):Int)< ((l[i].length:Nat):Int):=by omega
  simp(disch:=omega) only[uU,eZ,hiI,h1,h2,hg',Int.natCast_add]
 .rintro us H' ⟨rfl,rfl⟩
  refine⟨.exit 2 [],H', ?_,rfl,rfl,rfl⟩;simp only[uU,eZ,qJ]
def pz:Ptr:=⟨0,0,0⟩
theorem zNK (x:Ptr):(((decide (x.at_< ((1:Nat):Int))||decide (((8192:Nat):Int)<=x.at_))||decide (x.birth< ((0:Nat):Int)))||decide (((2147483647:Nat):Int)<x.birth))= !(Nd.kidOk x):=by
 rw[Bool.eq_iff_iff];simp only[Nd.kidOk,Bool.or_eq_true,zJ,Bool.not_eq_true',Bool.and_eq_false_iff,decide_eq_false_iff_not];omega
theorem zC7 {H':AH}(hk:H'.ok)(x:Ptr): ∃H2,stN 3 (.ptr H'.next 0) (.agg (y7 x)) (H'.push (.cells [.int .i64 (0:Nat), .int .i64 (0:Nat), .int .u64 (0:Nat)] 42 1 false))=some (qZ,H2)/\Prs H' H2/\H2.next=H'.next+1/\H2.h.get H'.next=some (.cells (y7 x) 42 1 false):=by
 refine⟨_,YW (AH.push_get_eq _ _) (by decide) rfl rfl (by decide), ?_,rfl,by rw[AH.put_get,if_pos rfl];rfl⟩;exact((Stp.refl hk).push _).fresh ((Stp.refl (hk.push _)).put (by rw[AH.push_next];omega) _ (.inr rfl)) (fun A hA=>by omega)
theorem zL6 (D:Dyn)(n:Nat){H:AH}(hk:H.ok){vs:AV}{l:List Ptr}(h:xV H vs l)(hl:l.length<=1000000000)(n':Nat)(hn:l.length<n'):
  ∃e H',yJ n' (fW D n) [vs, .int .i64 (l.length:Nat), .int .i64 (0:Nat)] H=some (e,H')/\if(List.range l.length).all (fun i=>Nd.kidOk (l.getD i pz))then(e= .exit 4 []/\Prs H H')else(e= .ret (.bool false)/\Prs H H'):=by
 refine cU l.length _ (fun i us H'=>Prs H H'/\us=[vs, .int .i64 (l.length:Nat), .int .i64 (i:Nat)]) (fun e H'=>e= .exit 4 []/\Prs H H') (fun e H'=>e= .ret (.bool false)/\Prs H H') ?_ ?_ ?_ n' _ H ⟨Stp.refl hk,rfl⟩ hn
 .rintro i us H' hi ⟨hP,rfl⟩ hg
  obtain⟨p,h1,h2⟩:=(h.prs hP).at hi;simp only[kT hi]at hg;generalize l[i]=x at hg h2;obtain⟨H2,hH2,hP2,n2,g2⟩:=zC7 hP.ok x;have hiI:((i:Nat):Int)< ((l.length:Nat):Int):=by omega
  have hb:=zNK x;rw[hg]at hb;simp only[y7]at g2 hH2 h2;refine⟨_,H2, ?_,hP.trans hP2,rfl⟩;simp(disch:=omega) only[fW,eZ,hiI,h1,h2,yR hP.ok,hH2,qV g2,hb,Int.natCast_add]
 .rintro i us H' hi ⟨hP,rfl⟩ hg
  obtain⟨p,h1,h2⟩:=(h.prs hP).at hi;simp only[kT hi]at hg;generalize l[i]=x at hg h2;obtain⟨H2,hH2,hP2,n2,g2⟩:=zC7 hP.ok x;have hiI:((i:Nat):Int)< ((l.length:Nat):Int):=by omega
  have hb:=zNK x;rw[hg]at hb;simp only[y7]at g2 hH2 h2;refine⟨.ret (.bool false),H2, ?_,rfl,rfl,hP.trans hP2⟩;simp(disch:=omega) only[fW,eZ,hiI,h1,h2,yR hP.ok,hH2,qV g2,hb]
 .rintro us H' ⟨hP,rfl⟩
  refine⟨.exit 4 [],H', ?_,rfl,rfl,hP⟩;simp only[fW,eZ,qJ]
theorem vE (D:Dyn)(n:Nat){H:AH}(hk:H.ok){v:AV}{nd:Nd.Node}(h:uF H v nd)(hs:small nd)(hn:200000000<=n):
  ∃H',f109 D n [v] H=some (.bool (Nd.shaped ltS nd),H')/\Prs H H':=by
 obtain⟨ks,vs,ps,rfl,h1,h2,h3⟩:=h;obtain⟨s1,s2,s3⟩:=hs;have hP:Prs H (H.push (.cells [.bool nd.leaf,ks,vs,ps] 119 1 false)):=(Stp.refl hk).push _;have hg:(H.push (.cells [.bool nd.leaf,ks,vs,ps] 119 1 false)).h.get H.next=some (.cells [.bool nd.leaf,ks,vs,ps] 119 1 false):=AH.push_get_eq _ _
 have hkl:=Nd.sumL_ge nd.keys;have hvl:=Nd.sumL_ge nd.vals;have hf:f109 D n [.agg [.bool nd.leaf,ks,vs,ps]] H=fF (jb 0 (yJ n (xM D n) [.ptr H.next 0,ks, .int .i64 (nd.keys.length:Nat), .int .i64 (0:Nat)] (H.push (.cells [.bool nd.leaf,ks,vs,ps] 119 1 false))) (bW D n)):=by
  simp only[f109,eZ,yR hk,h1.lnSl]
 rw[hf];generalize H.push (.cells [.bool nd.leaf,ks,vs,ps] 119 1 false)=H1 at hP hg;obtain⟨e0,H2,e1,e2⟩:=zL8 D n (h1.prs hP) hg (by rfl) (by omega) n (by omega);rw[e1];rw[zG0]at e2;split at e2
 .rename_i hgood;obtain⟨rfl,rfl⟩:=e2;simp only[Nd.shaped,hgood,Bool.true_and];obtain⟨leaf,keys,vals,kids⟩:=nd;simp only at h1 h2 h3 hg hkl hvl s1 s2 s3 hgood⊢
  cases leaf with
  | true=>
   by_cases hc:vals.length=keys.length/\kids.length=0
   .obtain⟨hc1,hc2⟩:=hc;obtain⟨e3,H3,e4,e5⟩:=zL7 D n (h2.prs hP) (by omega) n (by omega);have hz: ¬(((vals.length:Nat):Int)≠((keys.length:Nat):Int)):=by omega
    have hz2: ¬(((kids.length:Nat):Int)≠((0:Nat):Int)):=by omega
    have hkn:kids=[]:=zL hc2;rw[zB8 vals ([]:Str) (fun v=>decide (v.length<=200))]at e5;split at e5
    .rename_i hv;obtain⟨rfl,rfl⟩:=e5;refine⟨H3, ?_,hP⟩;have hr:(decide (vals.length=keys.length)&&decide (kids=[])&&vals.all fun v=>decide (v.length<=200))=true:=by simp only[hc1,hkn,hv,decide_true,Bool.and_self]
     simp only[bW,eZ,qV hg,h1.lnSl,h2.lnSl,h3.lnSl,hz,hz2,e4,aK,hr]
    .rename_i hv;obtain⟨rfl,rfl⟩:=e5;refine⟨H3, ?_,hP⟩;have hr:(decide (vals.length=keys.length)&&decide (kids=[])&&vals.all fun v=>decide (v.length<=200))=false:=by simp only[Bool.eq_false_iff.2 hv,Bool.and_false]
     simp only[bW,eZ,qV hg,h1.lnSl,h2.lnSl,h3.lnSl,hz,hz2,e4,aK,hr]
   .refine⟨H2, ?_,hP⟩;have hr:(decide (vals.length=keys.length)&&decide (kids=[]))=false:=by
     rw[Bool.and_eq_false_iff,decide_eq_false_iff_not,decide_eq_false_iff_not];by_cases ha:vals.length=keys.length
     .right;intro hb;exact hc ⟨ha,by rw[hb];rfl⟩
     .exact .inl ha
    simp only[bW,eZ,qV hg,h1.lnSl,h2.lnSl,h3.lnSl,hr];rw[if_pos (by simp only[Bool.or_eq_true,zJ];omega)];simp only[eZ]
  | false=>
   by_cases hc:keys.length≠0/\vals.length=0/\kids.length=keys.length+1
   .obtain⟨hc1,hc2,hc3⟩:=hc;obtain⟨e3,H3,e4,e5⟩:=zL6 D n hP.ok (h3.prs hP) (by omega) n (by omega);have hz: ¬(((keys.length:Nat):Int)=((0:Nat):Int)):=by omega
    have hz2: ¬(((vals.length:Nat):Int)≠((0:Nat):Int)):=by omega
    have hz3: ¬(((kids.length:Nat):Int)≠((keys.length:Nat):Int)+((1:Nat):Int)):=by omega
    have hvn:vals=[]:=zL hc2;have hkn:keys≠[]:=fun e=>hc1 (by rw[e];rfl)
    rw[zB8 kids pz Nd.kidOk]at e5;split at e5
    .rename_i hv;obtain⟨rfl,hP3⟩:=e5;refine⟨H3, ?_,hP.trans hP3⟩;have hr:(decide (keys≠[])&&decide (vals=[])&&decide (kids.length=keys.length+1)&&kids.all Nd.kidOk)=true:=by simp only[hc3,hvn,hv,decide_eq_true hkn,decide_true,Bool.and_self]
     simp(disch:=omega) only[bW,eZ,qV hg,h1.lnSl,h2.lnSl,h3.lnSl,hz,hz2,hz3,e4,JZ,hr]
    .rename_i hv;obtain⟨rfl,hP3⟩:=e5;refine⟨H3, ?_,hP.trans hP3⟩;have hr:(decide (keys≠[])&&decide (vals=[])&&decide (kids.length=keys.length+1)&&kids.all Nd.kidOk)=false:=by simp only[Bool.eq_false_iff.2 hv,Bool.and_false]
     simp(disch:=omega) only[bW,eZ,qV hg,h1.lnSl,h2.lnSl,h3.lnSl,hz,hz2,hz3,e4,JZ,hr]
   .refine⟨H2, ?_,hP⟩;have hr:(decide (keys≠[])&&decide (vals=[])&&decide (kids.length=keys.length+1))=false:=by
     rw[Bool.eq_false_iff];intro hh;simp only[zE,zJ]at hh;exact hc ⟨fun e=>hh.1.1 (zL e),by rw[hh.1.2];rfl,hh.2⟩
    simp(disch:=omega) only[bW,eZ,qV hg,h1.lnSl,h2.lnSl,h3.lnSl,hr];rw[if_pos (by simp only[Bool.or_eq_true,zJ];omega)];simp only[eZ]
 .rename_i hbad;obtain⟨rfl,rfl⟩:=e2;refine⟨H2, ?_,hP⟩;simp only[Nd.shaped,Bool.eq_false_iff.2 hbad,eZ]
theorem zA0 (nd:Nd.Node)(ks vs ps:AV):xW [.bool nd.leaf,ks,vs,ps] 0 4=some [.bool nd.leaf,ks,vs,ps]:=rfl
theorem zLy (D:Dyn)(n:Nat){H:AH}(hk:H.ok){v:AV}{nd:Nd.Node}(h:uF H v nd)(hs:small nd)(hn:200000000<=n):
  ∃H',f62 D n [v] H=some (.bool (Nd.may ltS nd),H')/\Prs H H':=by
 have h0:=h;obtain⟨ks,vs,ps,rfl,h1,h2,h3⟩:=h;have hP:Prs H (H.push (.cells [.bool nd.leaf,ks,vs,ps] 119 1 false)):=(Stp.refl hk).push _;have hg:(H.push (.cells [.bool nd.leaf,ks,vs,ps] 119 1 false)).h.get H.next=some (.cells [.bool nd.leaf,ks,vs,ps] 119 1 false):=AH.push_get_eq _ _
 obtain⟨H2,e2,hP2⟩:=vE D n hP.ok (h0.prs hP) hs hn;obtain⟨z,H3,e3,rfl,hP3⟩:=YY D n hP2.ok (h0.prs (hP.trans hP2)) hs hn
 cases hsh:Nd.shaped ltS nd with
 | true=>
  refine⟨H3, ?_,(hP.trans hP2).trans hP3⟩;have hsz:(((Nd.size nd:Nat):Int)<=((500:Nat):Int))=(Nd.size nd<=500):=by rw[eq_iff_iff];omega
  simp only[f62,eZ,yR hk,zA0,Option.map_some,e2,hsh,y6 (hP2.get hP.ok hg),e3,hsz,Nd.may]
 | false=>
  refine⟨H2, ?_,hP.trans hP2⟩;simp only[f62,eZ,yR hk,zA0,Option.map_some,e2,hsh,Nd.may]
end Go.Eng.Sh
end
section
namespace Go.Eng
def bB (k e:Nat)(H:AH)(v:AV)(n:Nat)(l:List AV):Prop:=
 Own k e H v n l\/(l.length=n*k/\ ∃A e' g,v= .slice A 0 n (2*n)/\A<H.next/\H.h.get A=some (.cells l e' k g))
theorem bB.len {k e n:Nat}{H:AH}{v:AV}{l:List AV}(h:bB k e H v n l):l.length=n*k:=by
 rcases h with h | h
 .exact h.1
 .exact h.1
theorem bB.row {k e n:Nat}{H:AH}{v:AV}{l:List AV}(h:bB k e H v n l):Rw k H v n l:=by
 rcases h with h | ⟨h0,A,e',g,rfl,hA,hg⟩
 .exact h.row
 .exact⟨h0, .inr (.inr ⟨A,0,2*n,l,e',k,g,rfl,hg,hA,by omega,by rw[List.drop_zero,zO (by omega)]⟩)⟩
theorem bB.mono {k e n:Nat}{S:Nat->Prop}{H H':AH}{v:AV}{l:List AV}(h:bB k e H v n l)(s:Stp S H H')(hS: ∀A,Blk v A-> ¬S A):bB k e H' v n l:=by
 rcases h with h | ⟨h0,A,e',g,rfl,hA,hg⟩
 .exact .inl (h.mono s hS)
 .exact .inr ⟨h0,A,e',g,rfl,zY hA s.next,by rw[s.keep A hA (hS A (Blk.slice.2 rfl))];exact hg⟩
theorem bB.lt {k e n:Nat}{H:AH}{v:AV}{l:List AV}(h:bB k e H v n l){B:Nat}(hB:Blk v B):B<H.next:=by
 rcases h with⟨_,⟨rfl,_⟩ | ⟨A,rfl,hA,_⟩⟩ | ⟨_,A,e',g,rfl,hA,_⟩
 .exact(Blk.nil.1 hB).elim
 .rw[Blk.slice.1 hB];exact hA
 .rw[Blk.slice.1 hB];exact hA
theorem bB.app1 {k e bytes n m:Nat}{H:AH}{v:AV}{l new:List AV}(hk:H.ok)(hpos:0<k)(h:bB k e H v n l)(hm:new.length=m*k)(hn:n+m<=1000000000)(hb:bytes<=1000):
  ∃v' H',Eng.app1 e k bytes m new v H=some (v',H')/\bB k e H' v' (n+m) (l++new)/\Stp (Blk v) H H'/\(∀B,Blk v' B->Blk v B\/H.next<=B):=by
 by_cases h0:m=0
 .subst h0;have:new=[]:=zL (by simpa using hm);subst this;rcases h with h | ⟨h0,A,e',g,rfl,hA,hg⟩
  .obtain⟨H',h1,h2,h3,h4⟩:=KE (bytes:=bytes) hk hpos h;exact⟨v,H',h1, .inl (by simpa using h2),h3.mono (fun _ _ x=>x.elim),fun B hB=> .inl hB⟩
  .have hroom:yO l g k 0 (2*n) k=n:=by
    simp only[yO,show((2*n) % 2).beq 0=true by rw[Nat.mul_mod_right];rfl,cond_true,Nat.mul_div_cancel_left n (show 0<2 by omega)]
   have hz:Nat.blt 0 k=true:=by rw[zR];exact hpos
   have hset:setAt l (0+n*k) []=some l:=by rw[jZ (by simp;omega)];simp
   have hg':(H.put A (.cells l e' k g)).h.get A=some (.cells l e' k g):=by rw[AH.put_get,if_pos rfl]
   refine⟨.slice A 0 n (2*n),H.put A (.cells l e' k g), ?_, .inr ⟨by simpa using h0,A,e',g,rfl,hA,by simpa using hg'⟩,(Stp.refl hk).put hA _ (.inr (Blk.slice.2 rfl)),fun B hB=> .inl hB⟩;simp only[Eng.app1,hg,zEg,hroom,Nat.add_zero,Nat.ble_eq_true_of_le (Nat.le_refl n),cond_true,hz,hset,zB6,yX,yG]
 .rcases h with h | ⟨hl,A,e',g,rfl,hA,hg⟩
  .obtain⟨H',h1,h2,h3,h4⟩:=YG (bytes:=bytes) hk hpos h hm (by omega) hn hb;exact⟨_,H',h1, .inl h2,h3,fun B hB=> .inr (by rw[Blk.slice.1 hB];exact Nat.le_refl _)⟩
  .have h1:=KF (k:=k) (e:=e) (bytes:=bytes) (n:=n) (m:=m) (off:=0) (new:=new) hk hg (by omega) (by omega) hn hb;rw[List.drop_zero,zO (by omega)]at h1;refine⟨_,_,h1, .inl ⟨by simp[hl,hm,Nat.add_mul], .inr ⟨H.next,rfl,Nat.lt_succ_self _,AH.push_get_eq _ _⟩⟩,(Stp.refl hk).push _,fun B hB=> .inr (by rw[Blk.slice.1 hB];exact Nat.le_refl _)⟩
theorem bB.app {k e bytes n m:Nat}{H:AH}{v s:AV}{l new:List AV}(hk:H.ok)(hpos:0<k)(h:bB k e H v n l)(hs:srcOf k s H=some (m,new))(hm:new.length=m*k)(hc:qY new=true)(hn:n+m<=1000000000)(hb:bytes<=1000):
  ∃v' H',apP e k bytes v s H=some (v',H')/\bB k e H' v' (n+m) (l++new)/\Stp (Blk v) H H'/\(∀B,Blk v' B->Blk v B\/H.next<=B):=by
 obtain⟨v',H',h1,h2⟩:=h.app1 (bytes:=bytes) (e:=e) hk hpos hm hn hb;exact⟨v',H',by simp only[apP,hs,hc,cond_true,h1],h2⟩
theorem bB.isCell {k e n:Nat}{H:AH}{v:AV}{l:List AV}(h:bB k e H v n l):isCell v=true:=h.row.isCell
end Go.Eng
namespace Go.Eng.Sh
open Go.Nd (Ptr sumL encT ZY)
def zHW (P:Nat->Prop)(H:AH)(A:Nat)(l:Str):Prop:= ∃v,Box H A v/\bB 1 5 H v l.length (qW l)/\(∀B,Blk v B-> ¬P B/\B≠A)/\ ¬P A
theorem zOp (e sz:Nat)(z x:AV)(h:isCell x=true):aU e 1 1 [z] [(0,x)]=some (.cells [x] e 1 false,fun A=> .slice A 0 1 2):=by
 simp only[aU,uL,yU h,fL,Nat.beq_refl,cond_true,rep];rfl
theorem zHW.app {P:Nat->Prop}{H:AH}{A:Nat}{l m:Str}(h:zHW P H A l)(hk:H.ok)(hP: ∀B,P B->B<H.next){s:AV}(hs:srcOf 1 s H=some (m.length,qW m))(hn:l.length+m.length<=1000000000):
  ∃v v' H' H'',ld1 (.ptr A 0) H=some v/\apP 5 1 1 v s H=some (v',H')/\stN 1 (.ptr A 0) v' H'=some (qZ,H'')/\zHW P H'' A (l++m)/\Stp (fun B=> ¬P B) H H'':=by
 obtain⟨v,hb,hg,hv,hA⟩:=h;obtain⟨v',H',e1,g1,s1,n1⟩:=hg.app (bytes:=1) hk (by decide) hs (by simp[qW]) (bytesV_cells m) hn (by decide);have hb':Box H' A v:=hb.mono hk s1 (fun x=>(hv A x).2 rfl);obtain⟨H'',e2,b2,s2⟩:=hb'.st s1.ok g1.isCell;have hlt:=hb.lt hk;have hne: ∀B,Blk v' B->B≠A:=fun B hB e=>by
  rcases n1 B hB with h | h
  .exact(hv B h).2 e
  .omega
 refine⟨v,v',H',H'',hb.ld,e1,e2,⟨v',b2, ?_,fun B hB=>⟨fun hp=> ?_,hne B hB⟩,hA⟩, ?_⟩
 .have:=g1.mono s2 (fun B hB=>hne B hB);simpa[qW]using this
 .rcases n1 B hB with h | h
  .exact(hv B h).1 hp
  .have:=hP B hp;omega
 .exact(s1.mono (fun B _ hB=>(hv B hB).1)).trans (s2.mono (fun B _ hB=>by rw[hB];exact hA))
theorem zBi (D:Dyn)(n:Nat){P:Nat->Prop}{H:AH}{A:Nat}{l s:Str}(h:zHW P H A l)(hk:H.ok)(hP: ∀B,P B->B<H.next)(hn:l.length+s.length+1<=1000000000):
  ∃H',f193 D n [S s, .ptr A 0] H=some (.tuple [],H')/\zHW P H' A (l++encT s)/\Stp (fun B=> ¬P B) H H':=by
 have hw:IntKind.wrap .u8 ((s.length:Nat):Int)=(((UInt8.ofNat s.length).toNat:Nat):Int):=by rw[wrap_u8,UInt8.toNat_ofNat'];omega
 have hp1:Prs H (H.push (.cells [.int .u8 (((UInt8.ofNat s.length).toNat:Nat):Int)] 5 1 false)):=(Stp.refl hk).push _;have h1:zHW P (H.push (.cells [.int .u8 (((UInt8.ofNat s.length).toNat:Nat):Int)] 5 1 false)) A l:=by
  obtain⟨v,hb,hg,hv,hA⟩:=h;exact⟨v,hb.mono hk hp1 (fun x=>x),hg.mono hp1 (fun _ _ x=>x),hv,hA⟩
 have hs1:=YX (k:=1) H (qW [UInt8.ofNat s.length]) 5 1 false 1 2 rfl;obtain⟨v,v',H1,H2,e1,e2,e3,h2,st2⟩:=h1.app hp1.ok (fun B hB=>Nat.lt_succ_of_lt (hP B hB)) (m:=[UInt8.ofNat s.length]) hs1 (by simp;omega);obtain⟨u,u',H3,H4,e4,e5,e6,h4,st4⟩:=h2.app st2.ok (fun B hB=>zY (hP B hB) (Nat.le_trans hp1.next st2.next)) (m:=s) (zBm s H2) (by simp;omega)
 have hld:ld1 (.ptr A 0) H=some v:=by
  have:=e1;rw[zBB _ _ (by obtain⟨v,hb,_⟩:=h;exact hb.lt hk)]at this;exact this
 refine⟨H4, ?_, ?_,(hp1.stp.trans st2).trans st4⟩
 .simp only[f193,eZ,hld,hw];rw[zOp 5 1 _ _ rfl];simp only[eZ,yR hk,e2,e3,e4,e5,e6]
 .simpa[encT]using h4
theorem zKe (D:Dyn)(n:Nat){P:Nat->Prop}{H:AH}{A E:Nat}{l:Str}{p:Ptr}(h:zHW P H A l)(hk:H.ok)(hP: ∀B,P B->B<H.next)(hp:Nd.mayP p=true)(hs:Nd.sumOk p)(hn:l.length+16<=1000000000)(hn1:100<=n):
  ∃H',f194 D n [.agg (y7 p), .ptr E 0, .ptr A 0] H=some (.tuple [],H')/\zHW P H' A (l++ZY p)/\Stp (fun B=> ¬P B) H H':=by
 have hp1:Prs H (H.push (.cells (y7 p) 42 1 false)):=(Stp.refl hk).push _;obtain⟨H2,e2,hp2⟩:=zAH D n hp1.ok hp hs hn1;have hp12:=hp1.trans hp2;have h1:zHW P H2 A l:=by
  obtain⟨v,hb,hg,hv,hA⟩:=h;exact⟨v,hb.mono hk hp12 (fun x=>x),hg.mono hp12 (fun _ _ x=>x),hv,hA⟩
 obtain⟨v,v',H3,H4,e3,e4,e5,h4,st4⟩:=h1.app hp12.ok (fun B hB=>zY (hP B hB) hp12.next) (m:=ZY p) (zBm _ _) (by rw[Nd.encP_length];omega)
 refine⟨H4, ?_,h4,(Prs.stp hp12).trans st4⟩;simp only[f194,eZ,yR hk,show xW (y7 p) 0 3=some (y7 p)from rfl,Option.map_some,e2,qX,nth,ne_eq,not_true_eq_false,zD2,e3,e4,e5]
theorem zOg (m n:Nat)(x a:AV)(H:AH):callV [(109,f109 (dy (m+1)) n),(110,f110 (dy (m+1)) n)] (dy (m+1)) (.func 193 [] [a]) [x] H=f193 (dy m) m [x,a] H:=rfl
theorem zKD (m n:Nat)(x e a:AV)(H:AH):callV [(109,f109 (dy (m+1)) n),(110,f110 (dy (m+1)) n)] (dy (m+1)) (.func 194 [] [e,a]) [x] H=f194 (dy m) m [x,e,a] H:=rfl
structure EncI (N E:Nat)(A:Nat)(H0 H:AH)(l:Str):Prop where
 prs:Prs H0 H
 n:H0.next=N
 out:zHW (fun B=>B<N\/B=E) H A l
 err:Box H E (.int .i64 (0:Nat))
theorem EncI.step {N E A:Nat}{H0 H H':AH}{l l':Str}(h:EncI N E A H0 H l)(h1:zHW (fun B=>B<N\/B=E) H' A l')(h2:Stp (fun B=> ¬(B<N\/B=E)) H H'):EncI N E A H0 H' l':=
 ⟨h.prs.fresh h2 (fun B hB=>by rw[h.n];omega),h.n,h1,h.err.mono h.prs.ok h2 (fun hh=>hh (.inr rfl))⟩
theorem EncI.lt {N E A:Nat}{H0 H:AH}{l:Str}(h:EncI N E A H0 H l): ∀B,(B<N\/B=E)->B<H.next:=by
 rintro B (hB | rfl)
 .have:=h.prs.next;rw[h.n]at this;omega
 .exact h.err.lt h.prs.ok
theorem zJ9 (m n:Nat){N E A X:Nat}{H0 H:AH}{ks vs ps:AV}{keys vals:List Str}(hX:H0.h.get X=some (.cells [.bool true,ks,vs,ps] 119 1 false))(hk0:H0.ok)(h1:Strs H0 ks keys)(h2:Strs H0 vs vals)(hl:vals.length=keys.length)
  (hb:sumL keys+sumL vals<=10000000) (hd:Str) (hhd:hd.length<=1000) (h:EncI N E A H0 H hd) (n':Nat) (hn':keys.length<n'):
  ∃H',yJ n' (uC (dy (m+1)) n) [.ptr X 0, .ptr A 0, .ptr E 0, .func 193 [] [.ptr A 0], .func 194 [] [.ptr E 0, .ptr A 0],ks, .int .i64 (keys.length:Nat), .int .i64 (0:Nat)] H=some (.exit 0 [.ptr A 0, .ptr E 0],H')/\EncI N E A H0 H' (hd++Nd.encL keys vals):=by
 have hkl:=Nd.sumL_ge keys;have key:=xR (b:=uC (dy (m+1)) n) keys.length (fun i us H'=>us=[.ptr X 0, .ptr A 0, .ptr E 0, .func 193 [] [.ptr A 0], .func 194 [] [.ptr E 0, .ptr A 0],ks, .int .i64 (keys.length:Nat), .int .i64 (i:Nat)]/\EncI N E A H0 H' (hd++Nd.encL (keys.take i) (vals.take i)))
  (fun i us H1 hi ⟨hus,hI⟩=>by
   subst hus;have hiv:i<vals.length:=by omega
   obtain⟨p,p1,p2⟩:=(h1.prs hI.prs).at hi;obtain⟨_,hs1⟩:=YT keys i hi;obtain⟨_,hs2⟩:=YT vals i hiv;have hlen:(Nd.encL (keys.take i) (vals.take i)).length=sumL (keys.take i)+sumL (vals.take i):=Nd.encL_length _ _ (by simp[hl]);obtain⟨H2,e2,o2,st2⟩:=zBi (dy m) m (s:=keys[i]) hI.out hI.prs.ok hI.lt (by simp only[zM,hlen];omega);have hI2:=hI.step o2 st2;obtain⟨q,q1,q2⟩:=(h2.prs hI2.prs).at hiv;obtain⟨H3,e3,o3,st3⟩:=zBi (dy m) m (s:=vals[i]) hI2.out hI2.prs.ok hI2.lt (by simp only[zM,hlen,Nd.encT,zP];omega);have hI3:=hI2.step o3 st3;have hiI:((i:Nat):Int)< ((keys.length:Nat):Int):=by omega
   refine⟨_,H3, ?_,rfl, ?_⟩
   .simp(disch:=omega) only[uC,eZ,hiI,p1,p2,zOg,e2,qV (hI2.prs.get hk0 hX),q1,q2,e3,QI,Int.natCast_add]
   .rw[jP keys i hi,jP vals i hiv,Nd.encL_snoc _ _ _ _ (by simp[hl])];simpa using hI3) n' _ H ⟨rfl,by simpa[Nd.encL]using h⟩ hn'
 obtain⟨k,us,H',e1,rfl,hI⟩:=key;refine⟨H', ?_,by rw[zO (Nat.le_refl _),zO (by omega)]at hI;exact hI⟩;rw[e1];exact y9 (by simp only[uC,eZ,qJ])
theorem zJa (m n:Nat)(hm:100<=m){N E A X:Nat}{H0 H:AH}{ks vs ps:AV}{keys:List Str}{k0:Ptr}{kids:List Ptr}(hX:H0.h.get X=some (.cells [.bool false,ks,vs,ps] 119 1 false))(hk0:H0.ok)(h1:Strs H0 ks keys)(h2:xV H0 ps (k0::kids))(hl:kids.length=keys.length)
  (hkid: ∀p∈kids,Nd.mayP p=true/\Nd.sumOk p) (hb:sumL keys+16*kids.length<=10000000) (hd:Str) (hhd:hd.length<=1000) (h:EncI N E A H0 H hd) (n':Nat) (hn':keys.length<n'):
  ∃H',yJ n' (uC (dy (m+1)) n) [.ptr X 0, .ptr A 0, .ptr E 0, .func 193 [] [.ptr A 0], .func 194 [] [.ptr E 0, .ptr A 0],ks, .int .i64 (keys.length:Nat), .int .i64 (0:Nat)] H=some (.exit 0 [.ptr A 0, .ptr E 0],H')/\EncI N E A H0 H' (hd++Nd.encI keys kids):=by
 have hkl:=Nd.sumL_ge keys;have key:=xR (b:=uC (dy (m+1)) n) keys.length (fun i us H'=>us=[.ptr X 0, .ptr A 0, .ptr E 0, .func 193 [] [.ptr A 0], .func 194 [] [.ptr E 0, .ptr A 0],ks, .int .i64 (keys.length:Nat), .int .i64 (i:Nat)]/\EncI N E A H0 H' (hd++Nd.encI (keys.take i) (kids.take i)))
  (fun i us H1 hi ⟨hus,hI⟩=>by
   subst hus;have hiv:i<kids.length:=by omega
   obtain⟨p,p1,p2⟩:=(h1.prs hI.prs).at hi;obtain⟨_,hs1⟩:=YT keys i hi;have hlen:(Nd.encI (keys.take i) (kids.take i)).length=sumL (keys.take i)+16*(kids.take i).length:=Nd.encI_length _ _ (by simp[hl]);have htl:(kids.take i).length=i:=by simp;omega
   obtain⟨H2,e2,o2,st2⟩:=zBi (dy m) m (s:=keys[i]) hI.out hI.prs.ok hI.lt (by simp only[zM,hlen,htl];omega);have hI2:=hI.step o2 st2;obtain⟨q,q1,q2⟩:=xV.at (h2.prs hI2.prs) (i:=i+1) (by simpa using hiv);obtain⟨hm1,hm2⟩:=hkid _ (qC hiv);obtain⟨H3,e3,o3,st3⟩:=zKe (dy m) m (E:=E) (p:=kids[i]) hI2.out hI2.prs.ok hI2.lt hm1 hm2 (by simp only[zM,hlen,htl,Nd.encT,zP];omega) hm;have hI3:=hI2.step o3 st3;have hiI:((i:Nat):Int)< ((keys.length:Nat):Int):=by omega
   simp only[List.getElem_cons_succ]at q2;refine⟨_,H3, ?_,rfl, ?_⟩
   .simp(disch:=omega) only[uC,eZ,hiI,p1,p2,zOg,e2,qV (hI2.prs.get hk0 hX),q1,q2,zKD,e3,QI,Int.natCast_add]
   .rw[jP keys i hi,jP kids i hiv,Nd.encI_snoc _ _ _ _ (by simp[hl])];simpa using hI3) n' _ H ⟨rfl,by simpa[Nd.encI]using h⟩ hn'
 obtain⟨k,us,H',e1,rfl,hI⟩:=key;refine⟨H', ?_,by rw[zO (Nat.le_refl _),zO (by omega)]at hI;exact hI⟩;rw[e1];exact y9 (by simp only[uC,eZ,qJ])
theorem Box.new (H:AH)(v:AV)(e:TypeId):Box (H.push (.cells [v] e 1 false)) H.next v:=⟨e,AH.push_get_eq _ _⟩
theorem zMg {H:AH}(hk:H.ok)(k:Nat): ∃H6 H8,stN 1 (.ptr (H.next+1) 0) (.slice H.next 0 2 4) ((H.push (.cells [.int .u8 (((UInt8.ofNat (k / 256)).toNat:Nat):Int), .int .u8 (((UInt8.ofNat k).toNat:Nat):Int)] 5 1 false)).push (.cells [.nilSlice] 216 1 false))=some (qZ,H6)/\H6.ok/\H6.next=H.next+2/\
  stN 1 (.ptr (H.next+2) 0) (.int .i64 (0:Nat)) (H6.push (.cells [.int .i64 (0:Nat)] 32 1 false))=some (qZ,H8)/\EncI H.next (H.next+2) (H.next+1) H H8 (Nd.be 2 k):=by
 have h4:Prs H (H.push (.cells [.int .u8 (((UInt8.ofNat (k / 256)).toNat:Nat):Int), .int .u8 (((UInt8.ofNat k).toNat:Nat):Int)] 5 1 false)):=(Stp.refl hk).push _;have g4:(H.push (.cells [.int .u8 (((UInt8.ofNat (k / 256)).toNat:Nat):Int), .int .u8 (((UInt8.ofNat k).toNat:Nat):Int)] 5 1 false)).h.get H.next=some (.cells (qW (Nd.be 2 k)) 5 1 false):=AH.push_get_eq _ _
 have n4:(H.push (.cells [.int .u8 (((UInt8.ofNat (k / 256)).toNat:Nat):Int), .int .u8 (((UInt8.ofNat k).toNat:Nat):Int)] 5 1 false)).next=H.next+1:=rfl
 generalize H.push (.cells [.int .u8 (((UInt8.ofNat (k / 256)).toNat:Nat):Int), .int .u8 (((UInt8.ofNat k).toNat:Nat):Int)] 5 1 false)=H4 at h4 g4 n4;have b5:=Box.new H4 .nilSlice 216;have h5:Prs H4 (H4.push (.cells [.nilSlice] 216 1 false)):=(Stp.refl h4.ok).push _;have n5:(H4.push (.cells [.nilSlice] 216 1 false)).next=H4.next+1:=rfl
 have g5:=h5.get h4.ok g4;generalize H4.push (.cells [.nilSlice] 216 1 false)=H5 at h5 b5 n5 g5;rw[n4]at b5 n5;obtain⟨H6,e6,b6,s6⟩:=b5.st h5.ok (x:= .slice H.next 0 2 4) rfl
 have n6:=s6.next
 have g6:H6.h.get H.next=some (.cells (qW (Nd.be 2 k)) 5 1 false):=by rw[s6.keep _ (by omega) (by omega)];exact g5
 have hn6:H6.next=H.next+2:=by
  have:H6.next=H5.next:=by
   obtain⟨e,hb⟩:=b5;have:=fH (x:= .slice H.next 0 2 4) (o:=0) hb (by decide) rfl (by simp)
   rw[this]at e6;simp only[zC,zK,true_and]at e6;rw[<-e6];rfl
  omega
 have p6:Prs H H6:=(h4.trans h5).fresh s6 (fun A hA=>by omega);have b7:=Box.new H6 (.int .i64 (0:Nat)) 32;have h7:Prs H6 (H6.push (.cells [.int .i64 (0:Nat)] 32 1 false)):=(Stp.refl s6.ok).push _;have n7:(H6.push (.cells [.int .i64 (0:Nat)] 32 1 false)).next=H6.next+1:=rfl
 have g7:=h7.get s6.ok g6;have b67:=b6.mono s6.ok h7 (fun x=>x);generalize hH7:H6.push (.cells [.int .i64 (0:Nat)] 32 1 false)=H7 at h7 b7 n7 g7 b67;rw[hn6]at b7 n7;obtain⟨H8,e8,b8,s8⟩:=b7.st h7.ok (x:= .int .i64 (0:Nat)) rfl;have n8:=s8.next
 refine⟨H6,H8,e6,s6.ok,hn6,by rw[hH7];exact e8,⟨(p6.trans h7).fresh s8 (fun A hA=>by omega),rfl,⟨_,b67.mono h7.ok s8 (by omega), .inr ⟨rfl,H.next,5,false,rfl,by omega,by rw[s8.keep _ (by omega) (by omega)];exact g7⟩, ?_,by omega⟩,b8⟩⟩
 intro B hB;rw[Blk.slice]at hB;omega
theorem hJ (a b c d:AV):xW [a,b,c,d] 0 4=some [a,b,c,d]:=rfl
def zKz (nd:Nd.Node):Str×Nat:=if Nd.shaped ltS nd then if Nd.size nd<=500 then(Nd.encN nd,0)else([],40)else([],4)
theorem zGW (m n:Nat)(hm:100<=m)(hn:200000000<=n){H:AH}(hk:H.ok){v:AV}{nd:Nd.Node}(h:uF H v nd)(hs:small nd)(hsum: ∀p∈nd.kids,Nd.sumOk p):
  ∃H',f149 (dy (m+1)) n [v] H=some (.tuple [S (zKz nd).1, .int .i64 ((zKz nd).2:Nat)],H')/\Prs H H':=by
 obtain⟨leaf,keys,vals,kids⟩:=nd;have h0:=h;obtain⟨ks,vs,ps,rfl,h1,h2,h3⟩:=h;simp only at h0 h1 h2 h3 hsum⊢;have hP:Prs H (H.push (.cells [.bool leaf,ks,vs,ps] 119 1 false)):=(Stp.refl hk).push _;have hg:(H.push (.cells [.bool leaf,ks,vs,ps] 119 1 false)).h.get H.next=some (.cells [.bool leaf,ks,vs,ps] 119 1 false):=AH.push_get_eq _ _
 obtain⟨H2,e2,hP2⟩:=vE (dy (m+1)) n hP.ok (h0.prs hP) hs hn;have hse:(AV.str 0 0)=S []:=rfl
 cases hsh:Nd.shaped ltS ⟨leaf,keys,vals,kids⟩with
 | false=>
  refine⟨H2, ?_,hP.trans hP2⟩;simp only[f149,eZ,yR hk,hJ,Option.map_some,e2,hsh,zKz,hse]
 | true=>
  have hg2:=hP2.get hP.ok hg;have hP12:Prs H H2:=hP.trans hP2;obtain⟨z,H3,e3,rfl,hP3⟩:=YY (dy (m+1)) n hP2.ok (h0.prs hP12) hs hn;have hg3:=hP3.get hP2.ok hg2;have hP13:Prs H H3:=hP12.trans hP3;by_cases hsz:Nd.size ⟨leaf,keys,vals,kids⟩<=500
  .have hszI: ¬((500:Nat):Int)< ((Nd.size ⟨leaf,keys,vals,kids⟩:Nat):Int):=by omega
   obtain⟨H6,H8,e6,ok6,n6,e8,hI⟩:=zMg hP3.ok keys.length;have hlen:=Nd.be_length 2 keys.length;have w1:IntKind.wrap .u8 (((keys.length:Nat):Int) / 2 ^ 8)=(((UInt8.ofNat (keys.length / 256)).toNat:Nat):Int):=by rw[wrap_u8,UInt8.toNat_ofNat'];omega
   have w2:IntKind.wrap .u8 ((keys.length:Nat):Int)=(((UInt8.ofNat keys.length).toNat:Nat):Int):=by rw[wrap_u8,UInt8.toNat_ofNat'];omega
   have hbl: ∀x y:Int,aU 5 1 2 [.int .u8 ((0:Nat):Int)] [(0, .int .u8 x),(1, .int .u8 y)]=some (.cells [.int .u8 x, .int .u8 y] 5 1 false,fun A=> .slice A 0 2 4):=fun x y=>rfl
   have hsh':=hsh;simp only[Nd.shaped,zE]at hsh';have hkl:=Nd.sumL_ge keys;have hsz':=hsz;simp only[Nd.size]at hsz';have hsr:=zDl .i64 .u64 (a:=((keys.length:Nat):Int)) (s:=8) (by omega) (by decide);have hcn:yC AV.nilSlice=[AV.nilSlice]:=rfl;have hci: ∀z:Int,yC (AV.int .i64 z)=[AV.int .i64 z]:=fun _=>rfl
   have hend: ∀(H9:AH) (l:Str),EncI H3.next (H3.next+2) (H3.next+1) H3 H9 l-> ∃v,ld1 (.ptr (H3.next+2) 0) H9=some (.int .i64 (0:Nat))/\ld1 (.ptr (H3.next+1) 0) H9=some v/\zE6 v H9=some (S l):=by
    intro H9 l hI;obtain⟨v,hb,hg,_⟩:=hI.out;refine⟨v,hI.err.ld,hb.ld,YA hg.row ?_⟩;rcases hg with⟨_,⟨rfl,_⟩ | ⟨A,rfl,_⟩⟩ | ⟨_,A,e',g,rfl,_⟩<;>simp
   cases leaf with
   | true=>
    simp only[if_true,zE,zJ]at hsh';obtain⟨H9,e9,hI9⟩:=zJ9 m n hg3 hP3.ok (h1.prs hP13) (h2.prs hP13) hsh'.2.1.1 (by omega) _ (by omega) hI n (by omega);obtain⟨u,u1,u2,u3⟩:=hend _ _ hI9;refine⟨H9, ?_,hP13.trans hI9.prs⟩;simp(disch:=omega) only[f149,eZ,yR hk,hJ,Option.map_some,e2,hsh,y6 hg2,e3,hszI,qV hg3,h1.lnSl,hsr,w1,w2,hbl,yR hP3.ok,yR (hP3.ok.push _),AH.push_next,hcn,e6,yR ok6,n6,hci,e8,zAy,qV (hI.prs.get hP3.ok hg3),e9,X6,u1,u2,u3,ne_eq,not_true_eq_false];simp only[zKz,hsh,if_true,if_pos hsz,Nd.encN,Nd.encB]
   | false=>
    simp only[Bool.false_eq_true,if_false,zE,zJ,List.all_eq_true]at hsh'
    cases kids with
    | nil=>simp at hsh'
    | cons k0 kids=>
     simp only[zP]at hsz' hsh';have hk0:=hsh'.2.2 k0 (zH ..);obtain⟨p,p1,p2⟩:=xV.at (h3.prs (hP13.trans hI.prs)) (i:=0) (by simp);simp only[List.getElem_cons_zero]at p2;obtain⟨H9,e9,o9,st9⟩:=zKe (dy m) m (E:=H3.next+2) (p:=k0) hI.out hI.prs.ok hI.lt (Nd.kidOk_may hk0) (hsum k0 (zH ..)) (by omega) hm
     have hI9:=hI.step o9 st9;obtain⟨H10,e10,hI10⟩:=zJa m n hm hg3 hP3.ok (h1.prs hP13) (h3.prs hP13) (by omega) (fun q hq=>⟨Nd.kidOk_may (hsh'.2.2 q (zF _ hq)),hsum q (zF _ hq)⟩) (by omega) _ (by rw[zM,Nd.encP_length];omega) hI9 n (by omega);obtain⟨u,u1,u2,u3⟩:=hend _ _ hI10;refine⟨H10, ?_,hP13.trans hI10.prs⟩;simp(disch:=omega) only[f149,eZ,yR hk,hJ,Option.map_some,e2,hsh,y6 hg2,e3,hszI,qV hg3,h1.lnSl,hsr,w1,w2,hbl,yR hP3.ok,yR (hP3.ok.push _),AH.push_next,hcn,e6,yR ok6,n6,hci,e8,qV (hI.prs.get hP3.ok hg3),p1,p2,zKD,e9,zAy,qV (hI9.prs.get hP3.ok hg3),e10,X6,u1,u2,u3,ne_eq,not_true_eq_false];simp only[zKz,hsh,if_true,if_pos hsz,Nd.encN,Nd.encB,Bool.false_eq_true,if_false,List.append_assoc]
  .have hszI:((500:Nat):Int)< ((Nd.size ⟨leaf,keys,vals,kids⟩:Nat):Int):=by omega
   refine⟨H3, ?_,hP13⟩;simp only[f149,eZ,yR hk,hJ,Option.map_some,e2,hsh,y6 hg2,e3,hszI,zKz,hsz,hse]
open Go.Nd (bee mayP kH)
theorem zC8 {a b:Nat}(ha:a<18446744073709551616)(hb:b<256):jJ .or (.int .u64 ((a*256:Nat):Int)) (.int .u64 (b:Int))=some (.int .u64 (((a*256+b):Nat):Int))\/18446744073709551616<=a*256:=by
 by_cases h:a*256<18446744073709551616
 .left;have h1:Nat.blt (a*256) (Y5 .u64)=true:=by rw[zR];exact h
  have h2:Nat.blt b (Y5 .u64)=true:=by rw[zR];exact Nat.lt_trans hb (by decide)
  have h3:Nat.lor (a*256) b=a*256+b:=by
   have:=Nat.two_pow_add_eq_or_of_lt (b:=b) (i:=8) (by omega) a;rw[Nat.mul_comm a 256];exact this.symm
  have hk:keq .u64 .u64=true:=rfl;have h5:IntKind.wrap .u64 ((a*256+b:Nat):Int)=((a*256+b:Nat):Int):=by rw[wrap_u64];omega
  have h4:dY .or .u64 (.ofNat (a*256)) (.ofNat b)=some (.int .u64 ((a*256+b:Nat):Int)):=by
   simp only[dY,IntKind.signed,Bool.not_false,h1,h2,Bool.and_self,cond_true,h3,wR,Int.ofNat_eq_natCast,h5]
  have h6:jJ .or (.int .u64 (.ofNat (a*256))) (.int .u64 (.ofNat b))=dY .or .u64 (.ofNat (a*256)) (.ofNat b):=by simp only[jJ,vN,hk,cond_true]
  exact h6.trans h4
 .right;omega
theorem zE9 (l:Str)(i:Nat)(h:i<l.length):(qW l)[i]? =some (.int .u8 ((l[i].toNat:Nat):Int)):=by simp[qW,h]
theorem zJw (l:Str)(i:Nat)(h:i<l.length):bee (l.take (i+1))=bee (l.take i)*256+l[i].toNat:=by rw[jP l i h,Nd.bee_snoc]
theorem zAf (D:Dyn)(n:Nat){H:AH}{v:AV}{l:Str}(h:Rw 1 H v l.length (qW l))(hl:l.length<=8)(hn:100<=n):f226 D n [v] H=some (.int .u64 (bee l:Nat),H):=by
 have key:=uJ (b:=aB D n) (H:=H) (r:=some (.exit 0 [.int .u64 (bee l:Nat)],H)) (fun i=>[.int .u64 (bee (l.take i):Nat),v, .int .i64 (l.length:Nat), .int .i64 (i:Nat)]) l.length (fun i hi=>by
  obtain⟨p,x,p1,p2,p3⟩:=h.ld1 hi;rw[zE9 l i hi]at p3;simp only[zC]at p3;subst p3;have hlt:=Nd.bee_lt (l.take i);have hlen:(l.take i).length=i:=by simp;omega
  have hp:256 ^ i<=256 ^ 7:=Nat.pow_le_pow_right (by omega) (by omega);rw[hlen]at hlt;have hb:bee (l.take i)<72057594037927936:=by
   have:(256:Nat) ^ 7=72057594037927936:=by decide
   omega
  have hc:l[i].toNat<256:=l[i].toNat_lt;have hiI:((i:Nat):Int)< ((l.length:Nat):Int):=by omega
  have w1:IntKind.wrap .u64 (((bee (l.take i):Nat):Int)*2 ^ 8)=((bee (l.take i)*256:Nat):Int):=by rw[wrap_u64];omega
  have w2:IntKind.wrap .u64 ((l[i].toNat:Nat):Int)=((l[i].toNat:Nat):Int):=by rw[wrap_u64];omega
  have hor:=(zC8 (a:=bee (l.take i)) (b:=l[i].toNat) (by omega) hc).resolve_right (by omega);have hsl:=zDm .u64 .u64 ((bee (l.take i):Nat):Int) (s:=8) (by decide);rw[w1]at hsl;simp(disch:=omega) only[aB,eZ,hiI,p1,p2,hsl,w2,hor,zJw l i hi];simp only[Int.natCast_add]) (fun n=>y9 (by
  simp only[aB,eZ,qJ,zO (Nat.le_refl _)])) n (by omega)
 have hf:f226 D n [v] H=fF (jb 0 (yJ n (aB D n) [.int .u64 (bee (l.take 0):Nat),v, .int .i64 (l.length:Nat), .int .i64 (0:Nat)] H) (X1 D n)):=by
  simp only[f226,eZ,h.lnSl];rfl
 rw[hf,key];simp only[eZ,X1]
theorem zKB (s:Str)(h:s.length<4611686018427387904):zMm 5 (S s)=some (.cells (qW s) 5 1 true,fun A=> .slice A 0 s.length 1):=by
 have:Nat.blt s.length 4611686018427387904=true:=by rw[zR];exact h
 simp only[zMm,S,this,cond_true,K9]
theorem yD {H:AH}(hk:H.ok){A:Nat}{l l':List AV}{e:TypeId}(h:H.h.get A=some (.cells l e 1 false))(hl:l'.length=l.length)(hc:qY l'=true):
  ∃H',stN l.length (.ptr A 0) (.agg l') H=some (qZ,H')/\H'.h.get A=some (.cells l' e 1 false)/\Stp (fun B=>B=A) H H'/\H'.next=H.next:=by
 refine⟨_,YW h (by decide) hl hc (by omega), ?_,(Stp.refl hk).put (hk.lt h) _ (.inr rfl),rfl⟩;rw[AH.put_get,if_pos rfl];simp[yC]
theorem zH7 (D:Dyn)(n:Nat){H:AH}(hk:H.ok){s:Str}(hs:s.length=16)(hn:100<=n):
  ∃H',zJ3 D n [S s] H=some (.tuple [.agg (y7 (if mayP (kH s)then kH s else pz)), .int .i64 ((if mayP (kH s)then 0 else 4:Nat):Int)],H')/\Prs H H':=by
 have h16: ¬(((s.length:Nat):Int)≠((16:Nat):Int)):=by omega
 have p1:Prs H (H.push (.cells (y7 pz) 42 1 false)):=(Stp.refl hk).push _;have g1:(H.push (.cells (y7 pz) 42 1 false)).h.get H.next=some (.cells (y7 pz) 42 1 false):=AH.push_get_eq _ _
 have n1:(H.push (.cells (y7 pz) 42 1 false)).next=H.next+1:=rfl
 generalize hH1:H.push (.cells (y7 pz) 42 1 false)=H1 at p1 g1 n1;have p2:Prs H1 (H1.push (.cells (qW s) 5 1 true)):=(Stp.refl p1.ok).push _;have g2:(H1.push (.cells (qW s) 5 1 true)).h.get H1.next=some (.cells (qW s) 5 1 true):=AH.push_get_eq _ _
 have n2:(H1.push (.cells (qW s) 5 1 true)).next=H1.next+1:=rfl
 generalize hH2:H1.push (.cells (qW s) 5 1 true)=H2 at p2 g2 n2;have hld16:ldN 16 (.ptr H1.next 0) H2=some (.agg (qW s)):=by
  rw[y6 g2,yS _ _ _ (.inr (by simp[qW,hs])),List.drop_zero,zO (by simp[qW,hs])];rfl
 have p3:Prs H2 (H2.push (.cells (Z 16) 232 1 false)):=(Stp.refl p2.ok).push _;have g3:(H2.push (.cells (Z 16) 232 1 false)).h.get H2.next=some (.cells (Z 16) 232 1 false):=AH.push_get_eq _ _
 have n3:(H2.push (.cells (Z 16) 232 1 false)).next=H2.next+1:=rfl
 generalize hH3:H2.push (.cells (Z 16) 232 1 false)=H3 at p3 g3 n3;obtain⟨H4,e4,g4,s4,n4⟩:=yD p3.ok g3 (l':=qW s) (by simp[qW,Z,hs]) (bytesV_cells s);have e4':stN 16 (.ptr H2.next 0) (.agg (qW s)) H3=some (qZ,H4):=e4
 have p5:Prs H4 (H4.push (.cells (y7 pz) 42 1 false)):=(Stp.refl s4.ok).push _;have g5:(H4.push (.cells (y7 pz) 42 1 false)).h.get H4.next=some (.cells (y7 pz) 42 1 false):=AH.push_get_eq _ _
 have n5:(H4.push (.cells (y7 pz) 42 1 false)).next=H4.next+1:=rfl
 have g45:=p5.get s4.ok g4;generalize hH5:H4.push (.cells (y7 pz) 42 1 false)=H5 at p5 g5 n5 g45;have rw1:Rw 1 H5 (.slice H2.next 0 4 32) (s.take 4).length (qW (s.take 4)):=by
  refine⟨by simp[qW], .inr (.inr ⟨H2.next,0,32,_,_,_,_, ?_,g45,by omega,by simp[qW];omega, ?_⟩)⟩
  .simp[hs]
  .simp[qW,hs]
 have rw2:Rw 1 H5 (.slice H2.next 4 4 24) ((s.drop 4).take 4).length (qW ((s.drop 4).take 4)):=by
  refine⟨by simp[qW], .inr (.inr ⟨H2.next,4,24,_,_,_,_, ?_,g45,by omega,by simp[qW];omega, ?_⟩)⟩
  .simp[hs]
  .simp[qW,hs]
 have rw3:Rw 1 H5 (.slice H2.next 8 8 16) (s.drop 8).length (qW (s.drop 8)):=by
  refine⟨by simp[qW], .inr (.inr ⟨H2.next,8,16,_,_,_,_, ?_,g45,by omega,by simp[qW];omega, ?_⟩)⟩
  .simp[hs]
  .rw[zO (by simp[qW,hs])];simp[qW]
 have q1:=zAf D n rw1 (by simp;omega) hn;have q2:=zAf D n rw2 (by simp;omega) hn;have q3:=zAf D n rw3 (by simp;omega) hn;have b1:=Nd.bee_lt (s.take 4);have b2:=Nd.bee_lt ((s.drop 4).take 4);rw[show(s.take 4).length=4 by simp;omega]at b1;rw[show((s.drop 4).take 4).length=4 by simp;omega]at b2;have w1:IntKind.wrap .i64 ((bee (s.take 4):Nat):Int)=((bee (s.take 4):Nat):Int):=wrap_i64 (by omega) (by omega);have w2:IntKind.wrap .i64 ((bee ((s.drop 4).take 4):Nat):Int)=((bee ((s.drop 4).take 4):Nat):Int):=wrap_i64 (by omega) (by omega);obtain⟨H6,e6,g6,s6,n6⟩:=yD p5.ok g5 (l':=y7 (kH s)) rfl rfl;have e6':stN 3 (.ptr H4.next 0) (.agg (y7 (kH s))) H5=some (qZ,H6):=e6
 obtain⟨H7,e7,p7⟩:=zKd D n s6.ok (kH s);have g7:=p7.get s6.ok g6;have hge1:Prs H1 H6:=((((p2.trans p3).fresh s4 (fun B hB=>by omega)).trans p5).fresh s6 (fun B hB=>by omega));have g17:=p7.get s6.ok (hge1.get p1.ok g1);have hP7:Prs H H7:=(p1.trans hge1).trans p7;have hsub:xW (y7 (kH s)) 0 3=some (y7 (kH s)):=rfl;have hpz:(AV.agg [.int .i64 ((0:Nat):Int), .int .i64 ((0:Nat):Int), .int .u64 ((0:Nat):Int)])= .agg (y7 pz):=rfl;have hpz':([.int .i64 ((0:Nat):Int), .int .i64 ((0:Nat):Int), .int .u64 ((0:Nat):Int)]:List AV)=y7 pz:=rfl;have hbz:xH [(0,1),(1,1),(2,1)] (y7 pz) []=some (.agg (y7 pz)):=rfl;have hbp:xH [(0,1),(1,1),(2,1)] (y7 pz) [(0, .int .i64 ((bee (s.take 4):Nat):Int)),(1, .int .i64 ((bee ((s.drop 4).take 4):Nat):Int)),(2, .int .u64 ((bee (s.drop 8):Nat):Int))]=some (.agg (y7 (kH s))):=rfl;have hs2: ∀A:Nat,s2a 16 (.slice A 0 16 1)=some (.ptr A 0):=fun _=>rfl
 have hgetz:xW (y7 pz) 0 3=some (y7 pz):=rfl
 cases hm:mayP (kH s)with
 | false=>
  obtain⟨H8,e8,g8,s8,n8⟩:=yD hP7.ok g17 (l':=y7 pz) rfl rfl;have e8':stN 3 (.ptr H.next 0) (.agg (y7 pz)) H7=some (qZ,H8):=e8
  refine⟨H8, ?_,hP7.fresh s8 (fun B hB=>by omega)⟩;simp(disch:=omega) only[zJ3,eZ,hpz',yR hk,hH1,h16,zKB s (by omega),hs,yR p1.ok,hH2,hs2,hld16,yR p2.ok,zLi,hH3,e4',zES,zER,slA _ 4 8 (by omega) (by omega) (by omega),yR s4.ok,hH5,q1,w1,q2,w2,q3,hbp,e6',y6 g6,hsub,Option.map_some,e7,hm,hbz,e8',y6 g8,hgetz];rfl
 | true=>
  obtain⟨H8,e8,g8,s8,n8⟩:=yD hP7.ok g17 (l':=y7 (kH s)) rfl rfl;have e8':stN 3 (.ptr H.next 0) (.agg (y7 (kH s))) H7=some (qZ,H8):=e8
  refine⟨H8, ?_,hP7.fresh s8 (fun B hB=>by omega)⟩;simp(disch:=omega) only[zJ3,eZ,hpz',yR hk,hH1,h16,zKB s (by omega),hs,yR p1.ok,hH2,hs2,hld16,yR p2.ok,zLi,hH3,e4',zES,zER,slA _ 4 8 (by omega) (by omega) (by omega),yR s4.ok,hH5,q1,w1,q2,w2,q3,hbp,e6',y6 g6,hsub,Option.map_some,e7,hm,y6 g7,e8',y6 g8];rfl
open Go.Nd (kN uV)
theorem Stp.via {S T:Nat->Prop}{H0 H H1:AH}(h:Stp S H0 H)(k:Stp T H H1)(f: ∀A,T A->H0.next<=A\/S A):Stp S H0 H1:=
 ⟨k.ok,Nat.le_trans h.next k.next,fun A hA hS=>by
  rw[k.keep A (zY hA h.next) (fun x=>by rcases f A x with y | y;omega;exact hS y),h.keep A hA hS]⟩
structure RdI (R:Nat)(H0 H:AH)(rest:Str)(bad leaf:Bool)(kv vv pv:AV)(ks vs:List Str)(ps:List Ptr):Prop where
 prs:Stp (fun B=>B=R) H0 H
 get: ∃e,H.h.get R=some (.cells [S rest, .bool bad, .bool leaf,kv,vv,pv] e 1 false)
 k:Own 1 9 H kv ks.length (ks.map S)
 v:Own 1 9 H vv vs.length (vs.map S)
 p:Own 3 42 H pv ps.length (ps.flatMap y7)
 kb: ∀B,Blk kv B->H0.next<=B/\B≠R/\ ¬Blk vv B/\ ¬Blk pv B
 vb: ∀B,Blk vv B->H0.next<=B/\B≠R/\ ¬Blk pv B
 pb: ∀B,Blk pv B->H0.next<=B/\B≠R
 small:rest.length<=10000/\ks.length<=1000000/\vs.length<=1000000/\ps.length<=1000000
theorem RdI.put {R:Nat}{H0 H:AH}{rest:Str}{bad leaf:Bool}{kv vv pv:AV}{ks vs:List Str}{ps:List Ptr}(h:RdI R H0 H rest bad leaf kv vv pv ks vs ps){o:Nat}{x:AV}(hx:isCell x=true)(ho:o<6){rest':Str}{bad':Bool}(hr:rest'.length<=10000)
  (hl:[S rest, .bool bad, .bool leaf,kv,vv,pv].set o x=[S rest', .bool bad', .bool leaf,kv,vv,pv]): ∃H',stN 1 (.ptr R o) x H=some (qZ,H')/\RdI R H0 H' rest' bad' leaf kv vv pv ks vs ps:=by
 obtain⟨e,hg⟩:=h.get;have hlt:=h.prs.ok.lt hg;have hst:Stp (fun B=>B=R) H (H.put R (.cells ([S rest, .bool bad, .bool leaf,kv,vv,pv].set o x) e 1 false)):=(Stp.refl h.prs.ok).put hlt _ (.inr rfl);refine⟨_,fH hg (by decide) hx ho,⟨h.prs.trans hst,⟨e,by rw[AH.put_get,if_pos rfl,hl]⟩,h.k.mono hst (fun B hB=>(h.kb B hB).2.1),h.v.mono hst (fun B hB=>(h.vb B hB).2.1),h.p.mono hst (fun B hB=>(h.pb B hB).2),h.kb,h.vb,h.pb,hr,h.small.2⟩⟩
def jE (rest:Str)(bad:Bool)(k:Nat):Str×Str×Bool:=if bad then([],rest,true)else if rest.length<k then([],rest,true)else(rest.take k,rest.drop k,false)
theorem zMI:S []= .str 0 0:=rfl
theorem XY (D:Dyn)(n:Nat){R:Nat}{H0 H:AH}{rest:Str}{bad leaf:Bool}{kv vv pv:AV}{ks vs:List Str}{ps:List Ptr}(h:RdI R H0 H rest bad leaf kv vv pv ks vs ps)(k:Nat):
  ∃H',f172 D n [.ptr R 0, .int .i64 (k:Nat)] H=some (S (jE rest bad k).1,H')/\RdI R H0 H' (jE rest bad k).2.1 (jE rest bad k).2.2 leaf kv vv pv ks vs ps:=by
 obtain⟨e,hg⟩:=h.get
 cases bad with
 | true=>
  obtain⟨H1,e1,h1⟩:=h.put (o:=1) (x:= .bool true) rfl (by decide) (rest':=rest) (bad':=true) h.small.1 rfl;refine⟨H1, ?_,h1⟩;simp only[f172,eZ,qV hg,e1,jE,zMI]
 | false=>
  by_cases hk:rest.length<k
  .obtain⟨H1,e1,h1⟩:=h.put (o:=1) (x:= .bool true) rfl (by decide) (rest':=rest) (bad':=true) h.small.1 rfl;have hkI:((rest.length:Nat):Int)< ((k:Nat):Int):=by omega
   simp only[jE,hk,if_true,Bool.false_eq_true,if_false];refine⟨H1, ?_,h1⟩;simp only[f172,eZ,qV hg,e1,hkI,zMI]
  .obtain⟨H1,e1,h1⟩:=h.put (o:=0) (x:=S (rest.drop k)) rfl (by decide) (rest':=rest.drop k) (bad':=false) (by have:=h.small.1;simp;omega) rfl;have hkI: ¬((rest.length:Nat):Int)< ((k:Nat):Int):=by omega
   have h2:=zIh rest .i64 (z:=((k:Nat):Int)) (by omega) (by omega);have h3:=zIg rest .i64 (z:=((k:Nat):Int)) (by omega) (by omega);simp only[qD]at h2 h3;simp only[jE,hk,Bool.false_eq_true,if_false];refine⟨H1, ?_,h1⟩;simp only[f172,eZ,qV hg,e1,hkI,h2,h3]
def wC (rest:Str)(bad:Bool):Str×Str×Bool:=if(jE rest bad 1).2.2 then([],(jE rest bad 1).2)else jE (jE rest bad 1).2.1 false ((jE rest bad 1).1.getD 0 0).toNat
theorem UW (rest:Str):(wC rest true).2.2=true:=by simp[wC,jE]
theorem u5 {rest a r:Str}(h:kN rest=some (a,r)):wC rest false=(a,r,false):=by
 cases rest with
 | nil=>simp[kN]at h
 | cons c s=>
  simp only[kN]at h;split at h
  .rename_i hc;simp only[zC,zK]at h;obtain⟨rfl,rfl⟩:=h;simp[wC,jE];omega
  .simp at h
theorem ZA {rest:Str}(h:kN rest=none):(wC rest false).2.2=true:=by
 cases rest with
 | nil=>simp[wC,jE]
 | cons c s=>
  simp only[kN]at h;split at h
  .simp at h
  .rename_i hc;have h1: ¬(c::s).length<1:=by simp
   have h2:s.length<c.toNat:=by omega
   simp[wC,jE,h2]
theorem zJZ (D:Dyn)(n:Nat){R:Nat}{H0 H:AH}{rest:Str}{bad leaf:Bool}{kv vv pv:AV}{ks vs:List Str}{ps:List Ptr}(h:RdI R H0 H rest bad leaf kv vv pv ks vs ps):
  ∃H',f210 D n [.ptr R 0] H=some (S (wC rest bad).1,H')/\RdI R H0 H' (wC rest bad).2.1 (wC rest bad).2.2 leaf kv vv pv ks vs ps:=by
 obtain⟨H1,e1,h1⟩:=XY D n h 1;obtain⟨e,g1⟩:=h1.get;by_cases hb:(jE rest bad 1).2.2=true
 .rw[hb]at h1 g1;refine⟨H1, ?_,by simp only[wC,hb,if_true];exact h1⟩;simp only[f210,eZ,e1,qV g1,wC,hb,zMI]
 .have hb':(jE rest bad 1).2.2=false:=by simpa using hb
  have hlen:(jE rest bad 1).1.length=1:=by
   revert hb';unfold jE;split
   .intro h;simp at h
   .split
    .intro h;simp at h
    .intro _;simp;omega
  rw[hb']at h1 g1;obtain⟨H2,e2,h2⟩:=XY D n h1 ((jE rest bad 1).1.getD 0 0).toNat;have hix:=VQ (jE rest bad 1).1 .i64 (z:=((0:Nat):Int)) (by omega) (by simp[hlen]);have hgd:(jE rest bad 1).1[(((0:Nat):Int)).toNat]'(by simp[hlen])=(jE rest bad 1).1.getD 0 0:=by
   rw[zT,zG (by omega)];rfl
  rw[hgd]at hix;have hw:IntKind.wrap .i64 ((((jE rest bad 1).1.getD 0 0).toNat:Nat):Int)=((((jE rest bad 1).1.getD 0 0).toNat:Nat):Int):=wrap_i64 (by omega) (by have:=((jE rest bad 1).1.getD 0 0).toNat_lt;omega);have htm:wC rest bad=jE (jE rest bad 1).2.1 false ((jE rest bad 1).1.getD 0 0).toNat:=by simp only[wC,hb',Bool.false_eq_true,if_false]
  rw[htm];refine⟨H2, ?_,h2⟩;simp only[f210,eZ,e1,qV g1,hix,hw,e2]
theorem zOo (x:AV)(h:isCell x=true):aU 9 1 1 [.str 0 0] [(0,x)]=some (.cells [x] 9 1 false,fun A=> .slice A 0 1 2):=zOp 9 1 _ x h
theorem zDt {k e n:Nat}{H:AH}{v:AV}{l:List AV}(h:Own k e H v n l):aveq v v=true:=yN h.row
theorem RdI.prsH {R:Nat}{H0 H H':AH}{rest:Str}{bad leaf:Bool}{kv vv pv:AV}{ks vs:List Str}{ps:List Ptr}(h:RdI R H0 H rest bad leaf kv vv pv ks vs ps)(s:Prs H H'):RdI R H0 H' rest bad leaf kv vv pv ks vs ps:=by
 obtain⟨e,hg⟩:=h.get;exact⟨h.prs.trans (Prs.stp s),⟨e,s.get h.prs.ok hg⟩,h.k.mono s (fun _ _ x=>x),h.v.mono s (fun _ _ x=>x),h.p.mono s (fun _ _ x=>x),h.kb,h.vb,h.pb,h.small⟩
theorem RdI.lt {R:Nat}{H0 H:AH}{rest:Str}{bad leaf:Bool}{kv vv pv:AV}{ks vs:List Str}{ps:List Ptr}(h:RdI R H0 H rest bad leaf kv vv pv ks vs ps):R<H.next:=by
 obtain⟨e,hg⟩:=h.get;exact h.prs.ok.lt hg
theorem Own.lt {k e n:Nat}{H:AH}{v:AV}{l:List AV}(h:Own k e H v n l){B:Nat}(hB:Blk v B):B<H.next:=(j9.lt (.inl h) hB)
theorem zK3 (H:AH)(x:AV)(e:Nat):Prs H (H.push (.cells [x] e 1 false))->srcOf 1 (.slice H.next 0 1 2) (H.push (.cells [x] e 1 false))=some (1,[x]):=fun _=>YX H [x] e 1 false 1 2 rfl
theorem zAa (D:Dyn)(n:Nat){R:Nat}{H0 H:AH}{rest:Str}{bad leaf:Bool}{kv vv pv:AV}{ks vs:List Str}{ps:List Ptr}(h:RdI R H0 H rest bad leaf kv vv pv ks vs ps)(hs:ks.length<1000000):
  ∃H' kv',f173 D n [.ptr R 0] H=some (.tuple [],H')/\RdI R H0 H' (wC rest bad).2.1 (wC rest bad).2.2 leaf kv' vv pv (ks++[(wC rest bad).1]) vs ps:=by
 obtain⟨H1,e1,h1⟩:=zJZ D n h;generalize wC rest bad=t at e1 h1⊢;obtain⟨e,g0⟩:=h.get;obtain⟨e',g1⟩:=h1.get;have p2:Prs H1 (H1.push (.cells [S t.1] 9 1 false)):=(Stp.refl h1.prs.ok).push _;have h2:=h1.prsH p2;obtain⟨H3,e3,o3,s3,n3⟩:=xA (bytes:=16) p2.ok (by decide) h2.k (zK3 H1 (S t.1) 9 p2) rfl rfl (Nat.le_refl 1) (by omega) (by decide);generalize hv3:AV.slice (H1.push (.cells [S t.1] 9 1 false)).next 0 (ks.length+1) 1=kv' at e3 o3
 have hb3: ∀B,Blk kv' B->B=H1.next+1:=fun B hB=>by rw[<-hv3,Blk.slice]at hB;exact hB
 have hlt:=h1.lt;have n2:(H1.push (.cells [S t.1] 9 1 false)).next=H1.next+1:=rfl
 have hn0:=h1.prs.next
 obtain⟨e'',g2⟩:=h2.get;have g3:H3.h.get R=some (.cells [S t.2.1, .bool t.2.2, .bool leaf,kv,vv,pv] e'' 1 false):=by rw[s3.keep _ (by omega) (fun hh=>(h2.kb _ hh).2.1 rfl)];exact g2
 have hlt3:=s3.ok.lt g3;have hst:Stp (fun B=>B=R) H3 (H3.put R (.cells ([S t.2.1, .bool t.2.2, .bool leaf,kv,vv,pv].set 3 kv') e'' 1 false)):=(Stp.refl s3.ok).put hlt3 _ (.inr rfl);have hst1:=fH (o:=3) (x:=kv') g3 (by decide) o3.row.isCell (by simp);have hne: ∀B,Blk vv B-> ¬Blk kv B:=fun B hB hk=>(h2.kb B hk).2.2.1 hB
 have hne2: ∀B,Blk pv B-> ¬Blk kv B:=fun B hB hk=>(h2.kb B hk).2.2.2 hB
 refine⟨_,kv', ?_,⟨(Stp.via h2.prs s3 (fun B hB=> .inl (h2.kb B hB).1)).trans hst,⟨e'',by rw[AH.put_get,if_pos rfl];rfl⟩, ?_,(h2.v.mono s3 hne).mono hst (fun B hB=>(h2.vb B hB).2.1),(h2.p.mono s3 hne2).mono hst (fun B hB=>(h2.pb B hB).2), ?_,h2.vb,h2.pb,⟨h1.small.1,by simp;omega,h.small.2.2⟩⟩⟩
 .simp only[f173,eZ,qV g0,e1];rw[yV (by rw[qV g1];rfl) (zDt h.k),zOo _ rfl];simp only[eZ,yR h1.prs.ok,e3];rw[hst1];simp only[eZ]
 .have:=o3.mono hst (fun B hB=>by have:=hb3 B hB;omega);simpa using this
 .intro B hB;have:=hb3 B hB;refine⟨by omega,by omega,fun hh=> ?_,fun hh=> ?_⟩
  .have:=Own.lt h1.v hh;omega
  .have:=Own.lt h1.p hh;omega
theorem zCg (D:Dyn)(n:Nat){R:Nat}{H0 H:AH}{rest:Str}{bad leaf:Bool}{kv vv pv:AV}{ks vs:List Str}{ps:List Ptr}(h:RdI R H0 H rest bad leaf kv vv pv ks vs ps)(hs:vs.length<1000000):
  ∃H' vv',f175 D n [.ptr R 0] H=some (.tuple [],H')/\RdI R H0 H' (wC rest bad).2.1 (wC rest bad).2.2 leaf kv vv' pv ks (vs++[(wC rest bad).1]) ps:=by
 obtain⟨H1,e1,h1⟩:=zJZ D n h;generalize wC rest bad=t at e1 h1⊢;obtain⟨e,g0⟩:=h.get;obtain⟨e',g1⟩:=h1.get;have p2:Prs H1 (H1.push (.cells [S t.1] 9 1 false)):=(Stp.refl h1.prs.ok).push _;have h2:=h1.prsH p2;obtain⟨H3,e3,o3,s3,n3⟩:=xA (bytes:=16) p2.ok (by decide) h2.v (zK3 H1 (S t.1) 9 p2) rfl rfl (Nat.le_refl 1) (by omega) (by decide);generalize hv3:AV.slice (H1.push (.cells [S t.1] 9 1 false)).next 0 (vs.length+1) 1=vv' at e3 o3
 have hb3: ∀B,Blk vv' B->B=H1.next+1:=fun B hB=>by rw[<-hv3,Blk.slice]at hB;exact hB
 have hlt:=h1.lt;have n2:(H1.push (.cells [S t.1] 9 1 false)).next=H1.next+1:=rfl
 have hn0:=h1.prs.next
 obtain⟨e'',g2⟩:=h2.get;have g3:H3.h.get R=some (.cells [S t.2.1, .bool t.2.2, .bool leaf,kv,vv,pv] e'' 1 false):=by rw[s3.keep _ (by omega) (fun hh=>(h2.vb _ hh).2.1 rfl)];exact g2
 have hlt3:=s3.ok.lt g3;have hst:Stp (fun B=>B=R) H3 (H3.put R (.cells ([S t.2.1, .bool t.2.2, .bool leaf,kv,vv,pv].set 4 vv') e'' 1 false)):=(Stp.refl s3.ok).put hlt3 _ (.inr rfl);have hst1:=fH (o:=4) (x:=vv') g3 (by decide) o3.row.isCell (by simp);have hne: ∀B,Blk kv B-> ¬Blk vv B:=fun B hB hk=>(h2.kb B hB).2.2.1 hk
 have hne2: ∀B,Blk pv B-> ¬Blk vv B:=fun B hB hk=>(h2.vb B hk).2.2 hB
 refine⟨_,vv', ?_,⟨(Stp.via h2.prs s3 (fun B hB=> .inl (h2.vb B hB).1)).trans hst,⟨e'',by rw[AH.put_get,if_pos rfl];rfl⟩,(h2.k.mono s3 hne).mono hst (fun B hB=>(h2.kb B hB).2.1), ?_,(h2.p.mono s3 hne2).mono hst (fun B hB=>(h2.pb B hB).2), ?_, ?_,h2.pb,⟨h1.small.1,h.small.2.1,by simp;omega,h.small.2.2.2⟩⟩⟩
 .simp only[f175,eZ,qV g0,e1];rw[yV (by rw[qV g1];rfl) (zDt h.v),zOo _ rfl];simp only[eZ,yR h1.prs.ok,e3];rw[hst1];simp only[eZ]
 .have:=o3.mono hst (fun B hB=>by have:=hb3 B hB;omega);simpa using this
 .intro B hB;have hk:=h2.kb B hB;refine⟨hk.1,hk.2.1,fun hh=> ?_,hk.2.2.2⟩;have:=hb3 B hh;have:=Own.lt h1.k hB;omega
 .intro B hB;have:=hb3 B hB;refine⟨by omega,by omega,fun hh=> ?_⟩;have:=Own.lt h1.p hh;omega
def zBC (rest:Str)(bad:Bool)(ps:List Ptr):Str×Bool×List Ptr:=if(jE rest bad 16).2.2 then((jE rest bad 16).2.1,true,ps)else if mayP (kH (jE rest bad 16).1)then((jE rest bad 16).2.1,false,ps++[kH (jE rest bad 16).1])else((jE rest bad 16).2.1,true,ps)
theorem zCN (rest:Str)(ps:List Ptr):(zBC rest true ps).2.1=true:=by simp[zBC,jE]
theorem zA7 {rest r:Str}{p:Ptr}(ps:List Ptr)(h:uV rest=some (p,r)):zBC rest false ps=(r,false,ps++[p]):=by
 simp only[uV,Nd.decP]at h;split at h
 .rename_i hl;split at h
  .rename_i q hq;simp only[zC,zK]at h;obtain⟨rfl,rfl⟩:=h;split at hq
   .rename_i hm;simp only[zC]at hq;subst hq;have: ¬rest.length<16:=by omega
    simp[zBC,jE,this,hm]
   .simp at hq
  .simp at h
 .simp at h
theorem zA8 {rest:Str}(ps:List Ptr)(h:uV rest=none):(zBC rest false ps).2.1=true:=by
 simp only[uV,Nd.decP]at h;split at h
 .rename_i hl;split at h
  .simp at h
  .rename_i hq;split at hq
   .simp at hq
   .rename_i hm;have: ¬rest.length<16:=by omega
    simp[zBC,jE,this,hm]
 .rename_i hl;have:rest.length<16:=by omega
  simp[zBC,jE,this]
theorem VN (D:Dyn)(n:Nat)(hn:100<=n){R:Nat}{H0 H:AH}{rest:Str}{bad leaf:Bool}{kv vv pv:AV}{ks vs:List Str}{ps:List Ptr}(h:RdI R H0 H rest bad leaf kv vv pv ks vs ps)(hs:ps.length<1000000):
  ∃H' pv',f174 D n [.ptr R 0] H=some (.tuple [],H')/\RdI R H0 H' (zBC rest bad ps).1 (zBC rest bad ps).2.1 leaf kv vv pv' ks vs (zBC rest bad ps).2.2:=by
 obtain⟨H1,e1,h1⟩:=XY D n h 16;obtain⟨e,g1⟩:=h1.get;have hlen:(jE rest bad 16).2.2=false->(jE rest bad 16).1.length=16:=by
  unfold jE;split
  .intro h;simp at h
  .split
   .intro h;simp at h
   .intro _;simp;omega
 simp only[zBC];generalize jE rest bad 16=t at e1 h1 g1 hlen⊢;obtain⟨s,r,b⟩:=t;simp only at e1 h1 g1 hlen⊢
 cases b with
 | true=>
  refine⟨H1,pv, ?_,by simpa using h1⟩;simp only[f174,eZ,e1,qV g1]
 | false=>
  obtain⟨H2,e2,p2⟩:=zH7 D n h1.prs.ok (hlen rfl) hn;have h2:=h1.prsH p2;have hbox: ∀x:Ptr,∃H3,stN 3 (.ptr H2.next 0) (.agg (y7 x)) (H2.push (.cells [.int .i64 (0:Nat), .int .i64 (0:Nat), .int .u64 (0:Nat)] 42 1 false))=some (qZ,H3)/\Prs H2 H3/\H3.next=H2.next+1/\H3.h.get H2.next=some (.cells (y7 x) 42 1 false):=zC7 h2.prs.ok
  cases hm:mayP (kH s)with
  | false=>
   obtain⟨H3,e3,p3,n3,g3⟩:=hbox pz;have h3:=h2.prsH p3;obtain⟨H4,e4,h4⟩:=h3.put (o:=1) (x:= .bool true) rfl (by decide) (rest':=r) (bad':=true) h1.small.1 rfl;refine⟨H4,pv, ?_,by simpa using h4⟩;rw[hm]at e2;simp only[if_false,Bool.false_eq_true]at e2;have h40:(((4:Nat):Int)≠((0:Nat):Int)):=by omega
   simp only[f174,eZ,e1,qV g1,e2,qX,nth,yR h2.prs.ok,e3,h40,e4,ne_eq,not_false_eq_true]
  | true=>
   obtain⟨H3,e3,p3,n3,g3⟩:=hbox (kH s);have h3:=h2.prsH p3;rw[hm]at e2;simp only[if_true]at e2;have p4:Prs H3 (H3.push (.cells (y7 (kH s)) 42 3 false)):=(Stp.refl h3.prs.ok).push _;have h4:=h3.prsH p4;have n4:(H3.push (.cells (y7 (kH s)) 42 3 false)).next=H3.next+1:=rfl
   have hsrc:srcOf 3 (.slice H3.next 0 1 2) (H3.push (.cells (y7 (kH s)) 42 3 false))=some (1,y7 (kH s)):=YX H3 _ 42 3 false 1 2 rfl
   obtain⟨H5,e5,o5,s5,n5⟩:=xA (bytes:=24) p4.ok (by decide) h4.p hsrc rfl rfl (Nat.le_refl 1) (by omega) (by decide);generalize hv5:AV.slice (H3.push (.cells (y7 (kH s)) 42 3 false)).next 0 (ps.length+1) 1=pv' at e5 o5
   have hb5: ∀B,Blk pv' B->B=H3.next+1:=fun B hB=>by rw[<-hv5,Blk.slice]at hB;exact hB
   have hlt:=h3.lt;have hn0:=h3.prs.next
   obtain⟨e3',g30⟩:=h3.get;obtain⟨e'',g4⟩:=h4.get;have g5:H5.h.get R=some (.cells [S r, .bool false, .bool leaf,kv,vv,pv] e'' 1 false):=by rw[s5.keep _ (by omega) (fun hh=>(h4.pb _ hh).2 rfl)];exact g4
   have hlt5:=s5.ok.lt g5;have hst:Stp (fun B=>B=R) H5 (H5.put R (.cells ([S r, .bool false, .bool leaf,kv,vv,pv].set 5 pv') e'' 1 false)):=(Stp.refl s5.ok).put hlt5 _ (.inr rfl);have hst1:=fH (o:=5) (x:=pv') g5 (by decide) o5.row.isCell (by simp);have hne: ∀B,Blk kv B-> ¬Blk pv B:=fun B hB hk=>(h4.kb B hB).2.2.2 hk
   have hne2: ∀B,Blk vv B-> ¬Blk pv B:=fun B hB hk=>(h4.vb B hB).2.2 hk
   have hbl:aU 42 3 1 [.int .i64 ((0:Nat):Int), .int .i64 ((0:Nat):Int), .int .u64 ((0:Nat):Int)] [(0, .agg (y7 (kH s)))]=some (.cells (y7 (kH s)) 42 3 false,fun A=> .slice A 0 1 2):=rfl;have h00: ¬(((0:Nat):Int)≠((0:Nat):Int)):=by omega
   refine⟨_,pv', ?_,⟨(Stp.via h4.prs s5 (fun B hB=> .inl (h4.pb B hB).1)).trans hst,⟨e'',by rw[AH.put_get,if_pos rfl];rfl⟩,(h4.k.mono s5 hne).mono hst (fun B hB=>(h4.kb B hB).2.1),(h4.v.mono s5 hne2).mono hst (fun B hB=>(h4.vb B hB).2.1), ?_, ?_, ?_, ?_,⟨h1.small.1,h.small.2.1,h.small.2.2.1,by simp;omega⟩⟩⟩
   .have hsb:xW (y7 (kH s)) 0 3=some (y7 (kH s)):=rfl;simp only[f174,eZ,e1,qV g1,e2,qX,nth,yR h2.prs.ok,e3,h00,qV g30,y6 g3,hsb,Option.map_some,hbl,yR h3.prs.ok,e5];rw[hst1];simp only[eZ]
   .have:=o5.mono hst (fun B hB=>by have:=hb5 B hB;omega);simpa using this
   .intro B hB;have hk:=h4.kb B hB;refine⟨hk.1,hk.2.1,hk.2.2.1,fun hh=> ?_⟩;have:=hb5 B hh;have:=Own.lt h3.k hB;omega
   .intro B hB;have hk:=h4.vb B hB;refine⟨hk.1,hk.2.1,fun hh=> ?_⟩;have:=hb5 B hh;have:=Own.lt h3.v hB;omega
   .intro B hB;have:=hb5 B hB;exact⟨by omega,by omega⟩
open Go.Nd (Y8 Y9)
theorem K8 (m n R:Nat)(H:AH):callV [(172,f172 (dy (m+1)) n),(174,f174 (dy (m+1)) n),(62,f62 (dy (m+1)) n)] (dy (m+1)) (.func 173 [.ptr R 0] []) [] H=f173 (dy m) m [.ptr R 0] H:=rfl
theorem zHl (m n R:Nat)(H:AH):callV [(172,f172 (dy (m+1)) n),(174,f174 (dy (m+1)) n),(62,f62 (dy (m+1)) n)] (dy (m+1)) (.func 175 [.ptr R 0] []) [] H=f175 (dy m) m [.ptr R 0] H:=rfl
theorem zC6 (m n R:Nat)(H:AH):callV [(172,f172 (dy (m+1)) n),(174,f174 (dy (m+1)) n),(62,f62 (dy (m+1)) n)] (dy (m+1)) (.func 174 [.ptr R 0] []) [] H=f174 (dy (m+1)) n [.ptr R 0] H:=rfl
theorem ix2 (Pb:Nat)(i:Nat)(h:i<2):dK 1 (.slice Pb 0 2 4) (.int .i64 ((i:Nat):Int))=some (.ptr Pb i):=by
 have hb:Nat.blt i 2=true:=by rw[zR];exact h
 simp only[dK,yM _ (show(0:Int)<=((i:Nat):Int)by omega),qD,hb,cond_true,yG,Nat.zero_add,Nat.mul_one]
theorem inner (m n:Nat){R Pb:Nat}{g1 g2:AV}{H H1 H2:AH}{a k i:AV}{e:TypeId}(hg:H.h.get Pb=some (.cells [g1,g2] e 1 false))(hg1:H1.h.get Pb=some (.cells [g1,g2] e 1 false))
  (e1:callV [(172,f172 (dy (m+1)) n),(174,f174 (dy (m+1)) n),(62,f62 (dy (m+1)) n)] (dy (m+1)) g1 [] H=some (.tuple [],H1)) (e2:callV [(172,f172 (dy (m+1)) n),(174,f174 (dy (m+1)) n),(62,f62 (dy (m+1)) n)] (dy (m+1)) g2 [] H1=some (.tuple [],H2)) (n':Nat) (hn:3<=n'):
  yJ n' (uS (dy (m+1)) n) [a, .ptr R 0, .slice Pb 0 2 4,k,i, .slice Pb 0 2 4, .int .i64 (2:Nat), .int .i64 (0:Nat)] H=some (.exit 2 [a, .ptr R 0, .slice Pb 0 2 4,k,i],H2):=by
 obtain⟨n',rfl⟩: ∃j,n'=j+3:=⟨n' - 3,by omega⟩;have h02:((0:Nat):Int)< ((2:Nat):Int):=by omega
 have h12:((1:Nat):Int)< ((2:Nat):Int):=by omega
 have h22: ¬((2:Nat):Int)< ((2:Nat):Int):=by omega
 have a1:((0:Nat):Int)+((1:Nat):Int)=((1:Nat):Int):=rfl;have a2:((1:Nat):Int)+((1:Nat):Int)=((2:Nat):Int):=rfl;have x0:=ix2 Pb 0 (by omega);have x1:=ix2 Pb 1 (by omega);rw[j5 (vs':=[a, .ptr R 0, .slice Pb 0 2 4,k,i, .slice Pb 0 2 4, .int .i64 (2:Nat), .int .i64 (1:Nat)]) (H':=H1) (by
  simp(disch:=omega) only[uS,eZ,h02,x0,qV hg,e1,a1])]
 rw[j5 (vs':=[a, .ptr R 0, .slice Pb 0 2 4,k,i, .slice Pb 0 2 4, .int .i64 (2:Nat), .int .i64 (2:Nat)]) (H':=H2) (by
  simp(disch:=omega) only[uS,eZ,h12,x1,qV hg1,e2,a2])]
 exact y9 (by simp only[uS,eZ,h22])
theorem zNE (m n:Nat)(hn:3<=n){R Pb A4:Nat}{Hp:AH}{e:TypeId}(hpb:Hp.h.get Pb=some (.cells [.func 173 [.ptr R 0] [], .func 175 [.ptr R 0] []] e 1 false))(hk:Hp.ok)(hR:Pb≠R)
  {s0:Str} (K:Nat) (hK:K<1000000) (h0:RdI R Hp Hp s0 false true .nilSlice .nilSlice .nilSlice [] [] []) (n':Nat) (hn':K<n'):
  ∃H',yJ n' (wK (dy (m+1)) n) [.ptr A4 0, .ptr R 0, .slice Pb 0 2 4, .int .i64 (K:Nat), .int .i64 (0:Nat)] Hp=some (.exit 0 [.ptr A4 0, .ptr R 0],H')/\
   ∃kv vv ks vs rest,(match Y8 K s0 with | some (a,b,r)=>ks=a/\vs=b/\rest=r/\RdI R Hp H' rest false true kv vv .nilSlice ks vs [] | none=>RdI R Hp H' rest true true kv vv .nilSlice ks vs []):=by
 have key:=cU (b:=wK (dy (m+1)) n) K (fun i=>(Y8 (i+1) s0).isSome)
  (fun i us H=>us=[.ptr A4 0, .ptr R 0, .slice Pb 0 2 4, .int .i64 (K:Nat), .int .i64 (i:Nat)]/\ ∃kv vv ks vs rest,Y8 i s0=some (ks,vs,rest)/\RdI R Hp H rest false true kv vv .nilSlice ks vs [])
  (fun x H'=>x= .exit 0 [.ptr A4 0, .ptr R 0]/\ ∃kv vv ks vs rest,Y8 K s0=some (ks,vs,rest)/\RdI R Hp H' rest false true kv vv .nilSlice ks vs [])
  (fun x H'=>x= .exit 0 [.ptr A4 0, .ptr R 0]/\ ∃kv vv ks vs rest,RdI R Hp H' rest true true kv vv .nilSlice ks vs []) ?_ ?_ ?_ n' _ Hp ⟨rfl,_,_,_,_,_,rfl,h0⟩ hn'
 .obtain⟨x,H',k1,k2⟩:=key;rw[Nd.decL_all]at k2
  cases hd:Y8 K s0 with
  | none=>
   rw[hd]at k2;simp only[Option.isSome_none,Bool.false_eq_true,if_false]at k2;obtain⟨rfl,kv,vv,ks,vs,rest,h⟩:=k2;exact⟨H',k1,kv,vv,ks,vs,rest,h⟩
  | some y=>
   rw[hd]at k2;simp only[qS,if_true]at k2;obtain⟨rfl,kv,vv,ks,vs,rest,h1,h⟩:=k2;simp only[zC]at h1;subst h1;exact⟨H',k1,kv,vv,ks,vs,rest,rfl,rfl,rfl,h⟩
 .rintro i us H hi ⟨rfl,kv,vv,ks,vs,rest,hd,hI⟩ hg
  obtain⟨_,hl1,hl2⟩:=Nd.decL_eq hd;obtain⟨H1,kv',e1,h1⟩:=zAa (dy m) m hI (by omega);obtain⟨H2,vv',e2,h2⟩:=zCg (dy m) m h1 (by omega);have hp:H.h.get Pb=_:=(hI.prs.keep Pb (hk.lt hpb) hR).trans hpb;have hp1:H1.h.get Pb=_:=(h1.prs.keep Pb (hk.lt hpb) hR).trans hpb;have hin:=inner m n (R:=R) (a:= .ptr A4 0) (k:= .int .i64 (K:Nat)) (i:= .int .i64 (i:Nat)) hp hp1 ((K8 m n R H).trans e1) ((zHl m n R H1).trans e2) n hn;rw[Nd.decL_snoc,hd]at hg;simp only[Option.bind_some]at hg;have hiI:((i:Nat):Int)< ((K:Nat):Int):=by omega
  cases ht:kN rest with
  | none=>rw[ht]at hg;simp at hg
  | some a=>
   obtain⟨a,r1⟩:=a;rw[ht]at hg;simp only[Option.bind_some]at hg;rw[u5 ht]at h1 h2;simp only at h1 h2
   cases ht2:kN r1 with
   | none=>rw[ht2]at hg;simp at hg
   | some b=>
    obtain⟨b,r2⟩:=b;rw[u5 ht2]at h2;simp only at h2;obtain⟨ee,g2⟩:=h2.get;refine⟨_,H2, ?_,rfl,_,_,_,_,_, ?_,h2⟩
    .simp(disch:=omega) only[wK,eZ,hiI,lnSl,hin,uT,qV g2,Int.natCast_add]
    .rw[Nd.decL_snoc,hd];simp only[Option.bind_some,ht,ht2]
 .rintro i us H hi ⟨rfl,kv,vv,ks,vs,rest,hd,hI⟩ hg
  obtain⟨_,hl1,hl2⟩:=Nd.decL_eq hd;obtain⟨H1,kv',e1,h1⟩:=zAa (dy m) m hI (by omega);obtain⟨H2,vv',e2,h2⟩:=zCg (dy m) m h1 (by omega);have hp:H.h.get Pb=_:=(hI.prs.keep Pb (hk.lt hpb) hR).trans hpb;have hp1:H1.h.get Pb=_:=(h1.prs.keep Pb (hk.lt hpb) hR).trans hpb;have hin:=inner m n (R:=R) (a:= .ptr A4 0) (k:= .int .i64 (K:Nat)) (i:= .int .i64 (i:Nat)) hp hp1 ((K8 m n R H).trans e1) ((zHl m n R H1).trans e2) n hn;rw[Nd.decL_snoc,hd]at hg;simp only[Option.bind_some]at hg;have hiI:((i:Nat):Int)< ((K:Nat):Int):=by omega
  have hbad:(wC (wC rest false).2.1 (wC rest false).2.2).2.2=true:=by
   cases ht:kN rest with
   | none=>rw[ZA ht];exact UW _
   | some a=>
    obtain⟨a,r1⟩:=a;rw[ht]at hg;simp only[Option.bind_some]at hg;rw[u5 ht]
    cases ht2:kN r1 with
    | none=>exact ZA ht2
    | some b=>rw[ht2]at hg;simp at hg
  rw[hbad]at h2;obtain⟨ee,g2⟩:=h2.get;refine⟨.exit 0 [.ptr A4 0, .ptr R 0],H2, ?_,rfl,rfl,_,_,_,_,_,h2⟩;simp(disch:=omega) only[wK,eZ,hiI,lnSl,hin,uT,qV g2]
 .rintro us H ⟨rfl,kv,vv,ks,vs,rest,hd,hI⟩
  refine⟨.exit 0 [.ptr A4 0, .ptr R 0],H, ?_,rfl,rfl,_,_,_,_,_,hd,hI⟩;simp only[wK,eZ,qJ]
theorem zNF (m n:Nat)(hn:100<=n){R Pb A4:Nat}{Hp Hs:AH}{e:TypeId}(hpb:Hp.h.get Pb=some (.cells [.func 173 [.ptr R 0] [], .func 174 [.ptr R 0] []] e 1 false))(hk:Hp.ok)(hR:Pb≠R)
  {s0:Str} {pv0:AV} {p0:Ptr} (K:Nat) (hK:K<1000000) (h0:RdI R Hp Hs s0 false false .nilSlice .nilSlice pv0 [] [] [p0]) (n':Nat) (hn':K<n'):
  ∃H',yJ n' (wK (dy (m+1)) n) [.ptr A4 0, .ptr R 0, .slice Pb 0 2 4, .int .i64 (K:Nat), .int .i64 (0:Nat)] Hs=some (.exit 0 [.ptr A4 0, .ptr R 0],H')/\
   ∃kv pv ks ps rest,(match Y9 K s0 with | some (a,b,r)=>ks=a/\ps=p0::b/\rest=r/\RdI R Hp H' rest false false kv .nilSlice pv ks [] ps | none=>RdI R Hp H' rest true false kv .nilSlice pv ks [] ps):=by
 have key:=cU (b:=wK (dy (m+1)) n) K (fun i=>(Y9 (i+1) s0).isSome)
  (fun i us H=>us=[.ptr A4 0, .ptr R 0, .slice Pb 0 2 4, .int .i64 (K:Nat), .int .i64 (i:Nat)]/\ ∃kv pv ks ps rest,Y9 i s0=some (ks,ps,rest)/\RdI R Hp H rest false false kv .nilSlice pv ks [] (p0::ps))
  (fun x H'=>x= .exit 0 [.ptr A4 0, .ptr R 0]/\ ∃kv pv ks ps rest,Y9 K s0=some (ks,ps,rest)/\RdI R Hp H' rest false false kv .nilSlice pv ks [] (p0::ps))
  (fun x H'=>x= .exit 0 [.ptr A4 0, .ptr R 0]/\ ∃kv pv ks ps rest,RdI R Hp H' rest true false kv .nilSlice pv ks [] ps) ?_ ?_ ?_ n' _ Hs ⟨rfl,_,_,_,_,_,rfl,h0⟩ hn'
 .obtain⟨x,H',k1,k2⟩:=key;rw[Nd.decI_all]at k2
  cases hd:Y9 K s0 with
  | none=>
   rw[hd]at k2;simp only[Option.isSome_none,Bool.false_eq_true,if_false]at k2;obtain⟨rfl,kv,pv,ks,ps,rest,h⟩:=k2;exact⟨H',k1,kv,pv,ks,ps,rest,h⟩
  | some y=>
   rw[hd]at k2;simp only[qS,if_true]at k2;obtain⟨rfl,kv,pv,ks,ps,rest,h1,h⟩:=k2;simp only[zC]at h1;subst h1;exact⟨H',k1,kv,pv,ks,p0::ps,rest,rfl,rfl,rfl,h⟩
 .rintro i us H hi ⟨rfl,kv,pv,ks,ps,rest,hd,hI⟩ hg
  obtain⟨_,hl1,hl2,_⟩:=Nd.decI_eq hd;obtain⟨H1,kv',e1,h1⟩:=zAa (dy m) m hI (by omega);obtain⟨H2,pv',e2,h2⟩:=VN (dy (m+1)) n hn h1 (by simp;omega);have hp:H.h.get Pb=_:=(hI.prs.keep Pb (hk.lt hpb) hR).trans hpb;have hp1:H1.h.get Pb=_:=(h1.prs.keep Pb (hk.lt hpb) hR).trans hpb;have hin:=inner m n (R:=R) (a:= .ptr A4 0) (k:= .int .i64 (K:Nat)) (i:= .int .i64 (i:Nat)) hp hp1 ((K8 m n R H).trans e1) ((zC6 m n R H1).trans e2) n (by omega);rw[Nd.decI_snoc,hd]at hg;simp only[Option.bind_some]at hg;have hiI:((i:Nat):Int)< ((K:Nat):Int):=by omega
  cases ht:kN rest with
  | none=>rw[ht]at hg;simp at hg
  | some a=>
   obtain⟨a,r1⟩:=a;rw[ht]at hg;simp only[Option.bind_some]at hg;rw[u5 ht]at h1 h2;simp only at h1 h2
   cases ht2:uV r1 with
   | none=>rw[ht2]at hg;simp at hg
   | some b=>
    obtain⟨b,r2⟩:=b;rw[zA7 _ ht2]at h2;simp only at h2;obtain⟨ee,g2⟩:=h2.get;refine⟨_,H2, ?_,rfl,_,_,_,_,_, ?_,h2⟩
    .simp(disch:=omega) only[wK,eZ,hiI,lnSl,hin,uT,qV g2,Int.natCast_add]
    .rw[Nd.decI_snoc,hd];simp only[Option.bind_some,ht,ht2];rfl
 .rintro i us H hi ⟨rfl,kv,pv,ks,ps,rest,hd,hI⟩ hg
  obtain⟨_,hl1,hl2,_⟩:=Nd.decI_eq hd;obtain⟨H1,kv',e1,h1⟩:=zAa (dy m) m hI (by omega);obtain⟨H2,pv',e2,h2⟩:=VN (dy (m+1)) n hn h1 (by simp;omega);have hp:H.h.get Pb=_:=(hI.prs.keep Pb (hk.lt hpb) hR).trans hpb;have hp1:H1.h.get Pb=_:=(h1.prs.keep Pb (hk.lt hpb) hR).trans hpb;have hin:=inner m n (R:=R) (a:= .ptr A4 0) (k:= .int .i64 (K:Nat)) (i:= .int .i64 (i:Nat)) hp hp1 ((K8 m n R H).trans e1) ((zC6 m n R H1).trans e2) n (by omega);rw[Nd.decI_snoc,hd]at hg;simp only[Option.bind_some]at hg;have hiI:((i:Nat):Int)< ((K:Nat):Int):=by omega
  have hbad:(zBC (wC rest false).2.1 (wC rest false).2.2 (p0::ps)).2.1=true:=by
   cases ht:kN rest with
   | none=>rw[ZA ht];exact zCN _ _
   | some a=>
    obtain⟨a,r1⟩:=a;rw[ht]at hg;simp only[Option.bind_some]at hg;rw[u5 ht]
    cases ht2:uV r1 with
    | none=>exact zA8 _ ht2
    | some b=>rw[ht2]at hg;simp at hg
  rw[hbad]at h2;obtain⟨ee,g2⟩:=h2.get;refine⟨.exit 0 [.ptr A4 0, .ptr R 0],H2, ?_,rfl,rfl,_,_,_,_,_,h2⟩;simp(disch:=omega) only[wK,eZ,hiI,lnSl,hin,uT,qV g2]
 .rintro us H ⟨rfl,kv,pv,ks,ps,rest,hd,hI⟩
  refine⟨.exit 0 [.ptr A4 0, .ptr R 0],H, ?_,rfl,rfl,_,_,_,_,_,hd,hI⟩;simp only[wK,eZ,qJ]
def Z4 (H0 H:AH)(v:AV)(nd:Nd.Node):Prop:= ∃ks vs ps,v= .agg [.bool nd.leaf,ks,vs,ps]/\Own 1 9 H ks nd.keys.length (nd.keys.map S)/\Own 1 9 H vs nd.vals.length (nd.vals.map S)/\Own 3 42 H ps nd.kids.length (nd.kids.flatMap y7)/\(∀B,Blk ks B\/Blk vs B\/Blk ps B->H0.next<=B)/\(∀B,Blk ks B-> ¬Blk vs B/\ ¬Blk ps B)/\ ∀B,Blk vs B-> ¬Blk ps B
theorem Z4.node {H0 H:AH}{v:AV}{nd:Nd.Node}(h:Z4 H0 H v nd):uF H v nd:=by
 obtain⟨ks,vs,ps,e,h1,h2,h3,_⟩:=h;exact⟨ks,vs,ps,e,h1.row,h2.row,h3.row⟩
theorem zC9 {a b:Nat}(ha:a<256)(hb:b<256):jJ .or (.int .i64 ((a*256:Nat):Int)) (.int .i64 (b:Int))=some (.int .i64 (((a*256+b):Nat):Int)):=by
 have h3:a*256||| b=a*256+b:=by
  have:=Nat.two_pow_add_eq_or_of_lt (b:=b) (i:=8) (by omega) a;rw[Nat.mul_comm a 256];exact this.symm
 have hk:keq .i64 .i64=true:=rfl;have hA:BitVec.ofInt 64 ((a*256:Nat):Int)=BitVec.ofNat 64 (a*256):=BitVec.ofInt_natCast _ _;have hB:BitVec.ofInt 64 (b:Int)=BitVec.ofNat 64 b:=BitVec.ofInt_natCast _ _;have hv:(BitVec.ofNat 64 (a*256)||| BitVec.ofNat 64 b).toNat=a*256+b:=by
  rw[BitVec.toNat_or,BitVec.toNat_ofNat,BitVec.toNat_ofNat,Nat.mod_eq_of_lt (by omega),Nat.mod_eq_of_lt (by omega),h3]
 have h6:jJ .or (.int .i64 (.ofNat (a*256))) (.int .i64 (.ofNat b))=dY.slow .or .i64 (.ofNat (a*256)) (.ofNat b):=by
  simp only[jJ,vN,hk,cond_true,dY,IntKind.signed,Bool.not_true,Bool.false_and,cond_false]
 have h7:dY.slow .or .i64 (.ofNat (a*256)) (.ofNat b)=some (.int .i64 ((a*256+b:Nat):Int)):=by
  have h8:dY.slow .or .i64 (.ofNat (a*256)) (.ofNat b)=fI (IntKind.wrap .i64 ((BitVec.ofInt 64 ((a*256:Nat):Int)||| BitVec.ofInt 64 (b:Int)).toNat:Nat)) (fun n=>some (.int .i64 n)):=rfl;rw[h8,zBL,hA,hB,hv,wrap_i64 (by omega) (by omega)]
 exact h6.trans h7
theorem head2 {s:Str}(h:2<=s.length): ∃a b,s.take 2=[a,b]/\bee (s.take 2)=a.toNat*256+b.toNat:=by
 match s,h with
 | a::b::l,_=>exact⟨a,b,rfl,by simp[bee]⟩
theorem RdI.base {R:Nat}{H0 H H':AH}{rest:Str}{bad leaf:Bool}(h:RdI R H0 H rest bad leaf .nilSlice .nilSlice .nilSlice [] [] [])(s:Prs H H'):RdI R H' H' rest bad leaf .nilSlice .nilSlice .nilSlice [] [] []:=by
 obtain⟨e,hg⟩:=h.get;exact⟨Stp.refl s.ok,⟨e,s.get h.prs.ok hg⟩,Own.nil _ _ _,Own.nil _ _ _,Own.nil _ _ _,fun B hB=>(Blk.nil.1 hB).elim,fun B hB=>(Blk.nil.1 hB).elim,fun B hB=>(Blk.nil.1 hB).elim,h.small⟩
theorem zO8 (D:Dyn)(n:Nat)(hn:200000000<=n){R A4:Nat}{H0 Hp H:AH}{rest:Str}{bad leaf:Bool}{kv vv pv:AV}{ks vs:List Str}{ps:List Ptr}(hI:RdI R Hp H rest bad leaf kv vv pv ks vs ps)(hA: ∃c e,c.length=4/\Hp.h.get A4=some (.cells c e 1 false))(hAR:A4≠R)
  (hkp:Hp.ok) (h0:Prs H0 Hp) (hR:H0.next<=R) (hA4:H0.next<=A4) (hsm:bad=true\/small ⟨leaf,ks,vs,ps⟩):
  ∃v H',fF (vR D n [.ptr A4 0, .ptr R 0] H)=some (.tuple [v, .int .i64 ((if bad=false/\rest=[]/\Nd.may ltS ⟨leaf,ks,vs,ps⟩=true then 0 else 4:Nat):Int)],H')/\Prs H0 H'/\((bad=false/\rest=[]/\Nd.may ltS ⟨leaf,ks,vs,ps⟩=true)->Z4 H0 H' v ⟨leaf,ks,vs,ps⟩)/\ ∃l,v= .agg l/\l.length=4/\qY l=true:=by
 obtain⟨e,hg⟩:=hI.get;obtain⟨c,ec,hc,hga⟩:=hA;have hbz:xH [(0,1),(1,1),(2,1),(3,1)] [.bool false, .nilSlice, .nilSlice, .nilSlice] []=some (.agg [.bool false, .nilSlice, .nilSlice, .nilSlice]):=rfl;have hgA:H.h.get A4=some (.cells c ec 1 false):=(hI.prs.keep A4 (hkp.lt hga) hAR).trans hga;have hP:Prs H0 H:=h0.fresh hI.prs (fun B hB=>by rw[hB];exact hR);have refuse: ∀H2,Prs H H2-> ∃H3,stN 4 (.ptr A4 0) (.agg [.bool false, .nilSlice, .nilSlice, .nilSlice]) H2=some (qZ,H3)/\ldN 4 (.ptr A4 0) H3=some (.agg [.bool false, .nilSlice, .nilSlice, .nilSlice])/\Prs H0 H3:=by
  intro H2 p2;obtain⟨H3,e3,g3,s3,n3⟩:=yD p2.ok (p2.get hI.prs.ok hgA) (l':=[.bool false, .nilSlice, .nilSlice, .nilSlice]) (by simp[hc]) rfl;rw[hc]at e3;refine⟨H3,e3,by rw[y6 g3];rfl,(hP.trans p2).fresh s3 (fun B hB=>by rw[hB];exact hA4)⟩
 cases bad with
 | true=>
  obtain⟨H3,e3,l3,p3⟩:=refuse H (Stp.refl hI.prs.ok);refine⟨.agg [.bool false, .nilSlice, .nilSlice, .nilSlice],H3, ?_,p3,fun h=>by simp at h,_,rfl,rfl,rfl⟩;simp only[vR,eZ,qV hg,hbz,e3,l3,false_and,Bool.true_eq_false]
 | false=>
  have hsm:=hsm.resolve_left (by simp);by_cases hr:rest=[]
  .subst hr;have hnode:uF H (.agg [.bool leaf,kv,vv,pv]) ⟨leaf,ks,vs,ps⟩:=⟨kv,vv,pv,rfl,hI.k.row,hI.v.row,hI.p.row⟩;obtain⟨H2,e2,p2⟩:=zLy D n hI.prs.ok hnode hsm hn;have hne: ¬(([]:Str)≠[]):=by simp
   have hs0:(AV.str 0 0)=S []:=rfl;have hsub:xW [S [], .bool false, .bool leaf,kv,vv,pv] 2 4=some [.bool leaf,kv,vv,pv]:=rfl
   cases hm:Nd.may ltS ⟨leaf,ks,vs,ps⟩with
   | false=>
    obtain⟨H3,e3,l3,p3⟩:=refuse H2 p2;rw[hm]at e2;refine⟨.agg [.bool false, .nilSlice, .nilSlice, .nilSlice],H3, ?_,p3,fun h=>by simp at h,_,rfl,rfl,rfl⟩;simp only[vR,eZ,qV hg,y6 hg,hsub,Option.map_some,hs0,hne,e2,hbz,e3,l3,and_false]
   | true=>
    rw[hm]at e2;have hcl:qY [.bool leaf,kv,vv,pv]=true:=by
     rw[jA];intro x hx;simp only[List.mem_cons,List.not_mem_nil,or_false]at hx;rcases hx with rfl | rfl | rfl | rfl
     .rfl
     .exact hI.k.row.isCell
     .exact hI.v.row.isCell
     .exact hI.p.row.isCell
    obtain⟨H3,e3,g3,s3,n3⟩:=yD p2.ok (p2.get hI.prs.ok hgA) (l':=[.bool leaf,kv,vv,pv]) (by simp[hc]) hcl;rw[hc]at e3;have hl3:ldN 4 (.ptr A4 0) H3=some (.agg [.bool leaf,kv,vv,pv]):=by rw[y6 g3];rfl
    have hltA:A4<Hp.next:=hkp.lt hga
    have kb: ∀B,Blk kv B\/Blk vv B\/Blk pv B->Hp.next<=B:=by
     rintro B (h | h | h)
     .exact(hI.kb B h).1
     .exact(hI.vb B h).1
     .exact(hI.pb B h).1
    refine⟨.agg [.bool leaf,kv,vv,pv],H3, ?_,(hP.trans p2).fresh s3 (fun B hB=>by rw[hB];exact hA4),fun _=>⟨kv,vv,pv,rfl,(hI.k.mono p2 (fun _ _ x=>x)).mono s3 (fun B hB=>by have:=kb B (.inl hB);omega),(hI.v.mono p2 (fun _ _ x=>x)).mono s3 (fun B hB=>by have:=kb B (.inr (.inl hB));omega),(hI.p.mono p2 (fun _ _ x=>x)).mono s3 (fun B hB=>by have:=kb B (.inr (.inr hB));omega),fun B hB=>by have:=kb B hB;have:=h0.next;omega,fun B hB=>(hI.kb B hB).2.2,fun B hB=>(hI.vb B hB).2.2⟩,_,rfl,rfl,hcl⟩
    simp only[vR,eZ,qV hg,y6 hg,y6 (p2.get hI.prs.ok hg),hsub,Option.map_some,hs0,hne,e2,e3,hl3,and_self]
  .obtain⟨H3,e3,l3,p3⟩:=refuse H (Stp.refl hI.prs.ok);have hne:rest≠[]:=hr;have hs0:(AV.str 0 0)=S []:=rfl;refine⟨.agg [.bool false, .nilSlice, .nilSlice, .nilSlice],H3, ?_,p3,fun h=>absurd h.2.1 hr,_,rfl,rfl,rfl⟩;simp only[vR,eZ,qV hg,hs0,hne,hbz,e3,l3,false_and,and_false,ne_eq,not_false_eq_true,hr]
theorem zLB (m n:Nat)(hn:100<=n){R Pb A4:Nat}{Hp Hs:AH}{e:TypeId}(hpb:Hp.h.get Pb=some (.cells [.func 173 [.ptr R 0] [], .func 174 [.ptr R 0] []] e 1 false))(hk:Hp.ok)(hR:Pb≠R)
  {s0:Str} {pv:AV} {ps:List Ptr} (hps:ps.length<1000) (K:Nat) (h0:RdI R Hp Hs s0 true false .nilSlice .nilSlice pv [] [] ps) (n':Nat) (hn':K<n'):
  ∃H',yJ n' (wK (dy (m+1)) n) [.ptr A4 0, .ptr R 0, .slice Pb 0 2 4, .int .i64 (K:Nat), .int .i64 (0:Nat)] Hs=some (.exit 0 [.ptr A4 0, .ptr R 0],H')/\ ∃kv pv ks ps rest,RdI R Hp H' rest true false kv .nilSlice pv ks [] ps:=by
 obtain⟨n',rfl⟩: ∃j,n'=j+1:=⟨n' - 1,by omega⟩;by_cases hK:K=0
 .subst hK;refine⟨Hs,y9 ?_,_,_,_,_,_,h0⟩;simp only[wK,eZ,qJ]
 .obtain⟨H1,kv',e1,h1⟩:=zAa (dy m) m h0 (by simp);have hb1:=UW s0;obtain⟨H2,pv',e2,h2⟩:=VN (dy (m+1)) n hn h1 (by omega);have hp0:Hs.h.get Pb=_:=(h0.prs.keep Pb (hk.lt hpb) hR).trans hpb;have hp1:H1.h.get Pb=_:=(h1.prs.keep Pb (hk.lt hpb) hR).trans hpb;have hin:=inner m n (R:=R) (a:= .ptr A4 0) (k:= .int .i64 (K:Nat)) (i:= .int .i64 (0:Nat)) hp0 hp1 ((K8 m n R Hs).trans e1) ((zC6 m n R H1).trans e2) n (by omega);have hbad:(zBC (wC s0 true).2.1 (wC s0 true).2.2 ps).2.1=true:=by rw[hb1];exact zCN _ _
  rw[hbad]at h2;obtain⟨ee,g2⟩:=h2.get;have hiI:((0:Nat):Int)< ((K:Nat):Int):=by omega
  refine⟨H2,y9 ?_,_,_,_,_,_,h2⟩;simp(disch:=omega) only[wK,eZ,hiI,lnSl,hin,uT,qV g2]
theorem RdI.cap {R:Nat}{H0 H:AH}{rest:Str}{bad leaf:Bool}{kv vv pv:AV}{ks vs:List Str}{ps:List Ptr}(h:RdI R H0 H rest bad leaf kv vv pv ks vs ps):rest.length<=10000:=h.small.1
theorem zH6 (m n:Nat)(hn:200000000<=n){H:AH}(hk:H.ok)(leaf:Bool)(s:Str):
  ∃v H',f123 (dy (m+1)) n [.bool leaf,S s] H=some (.tuple [v, .int .i64 ((if(Nd.decN ltS leaf s).isSome then 0 else 4:Nat):Int)],H')/\Prs H H'/\(∀nd,Nd.decN ltS leaf s=some nd->Z4 H H' v nd)/\ ∃l,v= .agg l/\l.length=4/\qY l=true:=by
 have hbz:xH [(0,1),(1,1),(2,1),(3,1)] [.bool false, .nilSlice, .nilSlice, .nilSlice] []=some (.agg [.bool false, .nilSlice, .nilSlice, .nilSlice]):=rfl;have p1:Prs H (H.push (.cells [.bool false, .nilSlice, .nilSlice, .nilSlice] 119 1 false)):=(Stp.refl hk).push _;have g1:(H.push (.cells [.bool false, .nilSlice, .nilSlice, .nilSlice] 119 1 false)).h.get H.next=some (.cells [.bool false, .nilSlice, .nilSlice, .nilSlice] 119 1 false):=AH.push_get_eq _ _
 have n1:(H.push (.cells [.bool false, .nilSlice, .nilSlice, .nilSlice] 119 1 false)).next=H.next+1:=rfl
 generalize hH1:H.push (.cells [.bool false, .nilSlice, .nilSlice, .nilSlice] 119 1 false)=H1 at p1 g1 n1;have refuse: ∀H2,Prs H1 H2-> ∃H3,stN 4 (.ptr H.next 0) (.agg [.bool false, .nilSlice, .nilSlice, .nilSlice]) H2=some (qZ,H3)/\ldN 4 (.ptr H.next 0) H3=some (.agg [.bool false, .nilSlice, .nilSlice, .nilSlice])/\Prs H H3:=by
  intro H2 p2;obtain⟨H3,e3,g3,s3,n3⟩:=yD p2.ok (p2.get p1.ok g1) (l':=[.bool false, .nilSlice, .nilSlice, .nilSlice]) rfl rfl;exact⟨H3,e3,by rw[y6 g3];rfl,(p1.trans p2).fresh s3 (fun B hB=>by omega)⟩
 by_cases h500:s.length<=500
 .have h5I: ¬((500:Nat):Int)< ((s.length:Nat):Int):=by omega
  have hb4:xH [(0,1),(1,1),(2,1),(3,1)] [.bool false, .nilSlice, .nilSlice, .nilSlice] [(0, .bool leaf)]=some (.agg [.bool leaf, .nilSlice, .nilSlice, .nilSlice]):=rfl;have hb6:xH [(0,1),(1,1),(2,4)] [.str 0 0, .bool false, .bool false, .nilSlice, .nilSlice, .nilSlice] [(0,S s),(2, .agg [.bool leaf, .nilSlice, .nilSlice, .nilSlice])]=some (.agg [S s, .bool false, .bool leaf, .nilSlice, .nilSlice, .nilSlice]):=rfl;have p2:Prs H1 (H1.push (.cells [S s, .bool false, .bool leaf, .nilSlice, .nilSlice, .nilSlice] 285 1 false)):=(Stp.refl p1.ok).push _;have g2:(H1.push (.cells [S s, .bool false, .bool leaf, .nilSlice, .nilSlice, .nilSlice] 285 1 false)).h.get H1.next=some (.cells [S s, .bool false, .bool leaf, .nilSlice, .nilSlice, .nilSlice] 285 1 false):=AH.push_get_eq _ _
  have n2:(H1.push (.cells [S s, .bool false, .bool leaf, .nilSlice, .nilSlice, .nilSlice] 285 1 false)).next=H1.next+1:=rfl
  generalize hH2:H1.push (.cells [S s, .bool false, .bool leaf, .nilSlice, .nilSlice, .nilSlice] 285 1 false)=H2 at p2 g2 n2;have hI2:RdI H1.next H2 H2 s false leaf .nilSlice .nilSlice .nilSlice [] [] []:=⟨Stp.refl p2.ok,⟨_,g2⟩,Own.nil _ _ _,Own.nil _ _ _,Own.nil _ _ _,fun B hB=>(Blk.nil.1 hB).elim,fun B hB=>(Blk.nil.1 hB).elim,fun B hB=>(Blk.nil.1 hB).elim,by omega,by simp,by simp,by simp⟩
  obtain⟨H3,e3,hI3⟩:=XY (dy (m+1)) n hI2 2;obtain⟨e3',g3⟩:=hI3.get;have p13:Prs H1 H3:=p2.fresh hI3.prs (fun B hB=>by omega);by_cases h2:s.length<2
  .have ht:jE s false 2=([],s,true):=by simp[jE,h2]
   rw[ht]at e3 hI3 g3;simp only at e3 hI3 g3;obtain⟨H4,e4,l4,p4⟩:=refuse H3 p13;have hd:Nd.decN ltS leaf s=none:=by simp only[Nd.decN];rw[if_neg (by omega)]
   refine⟨.agg [.bool false, .nilSlice, .nilSlice, .nilSlice],H4, ?_,p4,(fun nd h=>by rw[hd]at h;cases h),_,rfl,rfl,rfl⟩;rw[hd];simp only[f123,eZ,yR hk,hH1,h5I,hb4,hb6,yR p1.ok,hH2,e3,qV g3,hbz,e4,l4,Option.isSome_none]
  .have ht:jE s false 2=(s.take 2,s.drop 2,false):=by simp[jE,h2]
   rw[ht]at e3 hI3 g3;simp only at e3 hI3 g3;obtain⟨a,b,hab,hK⟩:=head2 (s:=s) (by omega);have ha:a.toNat<256:=a.toNat_lt;have hb:b.toNat<256:=b.toNat_lt;have x0:=VQ (s.take 2) .i64 (z:=((0:Nat):Int)) (by omega) (by simp;omega);have x1:=VQ (s.take 2) .i64 (z:=((1:Nat):Int)) (by omega) (by simp;omega);simp only[hab]at x0 x1
   replace x0:KT (S (s.take 2)) (.int .i64 ((0:Nat):Int))=some (.int .u8 ((a.toNat:Nat):Int)):=by rw[hab];exact x0
   replace x1:KT (S (s.take 2)) (.int .i64 ((1:Nat):Int))=some (.int .u8 ((b.toNat:Nat):Int)):=by rw[hab];exact x1
   have wa:IntKind.wrap .i64 ((a.toNat:Nat):Int)=((a.toNat:Nat):Int):=wrap_i64 (by omega) (by omega);have wb:IntKind.wrap .i64 ((b.toNat:Nat):Int)=((b.toNat:Nat):Int):=wrap_i64 (by omega) (by omega);have hsl:=zDm .i64 .u64 ((a.toNat:Nat):Int) (s:=8) (by decide);rw[show IntKind.wrap .i64 (((a.toNat:Nat):Int)*2 ^ 8)=((a.toNat*256:Nat):Int)from by rw[wrap_i64 (by omega) (by omega)];omega]at hsl;have hor:=zC9 ha hb;rw[<-hK]at hor;have hKs:bee (s.take 2)<65536:=by omega
   generalize hKd:bee (s.take 2)=K at hor hKs hK;have hbl: ∀(f g:FuncId) (xs ys:List AV),aU 1 1 2 [.nilFunc] [(0, .func f xs []),(1, .func g ys [])]=some (.cells [.func f xs [], .func g ys []] 1 1 false,fun A=> .slice A 0 2 4):=fun _ _ _ _=>rfl
   have p4:Prs H3 (H3.push (.cells [.func 173 [.ptr H1.next 0] [], .func 174 [.ptr H1.next 0] []] 1 1 false)):=(Stp.refl hI3.prs.ok).push _
   have g4:(H3.push (.cells [.func 173 [.ptr H1.next 0] [], .func 174 [.ptr H1.next 0] []] 1 1 false)).h.get H3.next=some (.cells [.func 173 [.ptr H1.next 0] [], .func 174 [.ptr H1.next 0] []] 1 1 false):=AH.push_get_eq _ _
   have n4:(H3.push (.cells [.func 173 [.ptr H1.next 0] [], .func 174 [.ptr H1.next 0] []] 1 1 false)).next=H3.next+1:=rfl
   generalize hH4:H3.push (.cells [.func 173 [.ptr H1.next 0] [], .func 174 [.ptr H1.next 0] []] 1 1 false)=H4 at p4 g4 n4
   have n3:=hI3.prs.next
   have hlen2:(s.drop 2).length=s.length - 2:=by simp
   have fin: ∀(Hp H9:AH) (rest:Str) (bad:Bool) (kv vv pv:AV) (ks vs:List Str) (ps:List Ptr),RdI H1.next Hp H9 rest bad leaf kv vv pv ks vs ps->Prs H1 Hp->(bad=true\/small ⟨leaf,ks,vs,ps⟩)->
     (Nd.decN ltS leaf s=if bad=false/\rest=[]/\Nd.may ltS ⟨leaf,ks,vs,ps⟩=true then some ⟨leaf,ks,vs,ps⟩else none)->
     f123 (dy (m+1)) n [.bool leaf,S s] H=fF (vR (dy (m+1)) n [.ptr H.next 0, .ptr H1.next 0] H9)->
     ∃v H',f123 (dy (m+1)) n [.bool leaf,S s] H=some (.tuple [v, .int .i64 ((if(Nd.decN ltS leaf s).isSome then 0 else 4:Nat):Int)],H')/\Prs H H'/\(∀nd,Nd.decN ltS leaf s=some nd->Z4 H H' v nd)/\ ∃l,v= .agg l/\l.length=4/\qY l=true:=by
    intro Hp H9 rest bad kv vv pv ks vs ps hI hp hsm hdec hrun;obtain⟨v,H',e,p,hn',l⟩:=zO8 (dy (m+1)) n hn (A4:=H.next) hI ⟨_,_,rfl,hp.get p1.ok g1⟩ (by omega) hp.ok (p1.trans hp) (by omega) (Nat.le_refl _) hsm
    refine⟨v,H', ?_,p, ?_,l⟩
    .rw[hrun,e,hdec];split<;>rfl
    .intro nd hnd;rw[hdec]at hnd;split at hnd
     .rename_i hc;simp only[zC]at hnd;subst hnd;exact hn' hc
     .cases hnd
   cases leaf with
   | true=>
    have p5:Prs H4 (H4.push (.cells [.func 173 [.ptr H1.next 0] [], .func 175 [.ptr H1.next 0] []] 1 1 false)):=(Stp.refl p4.ok).push _
    have g5:(H4.push (.cells [.func 173 [.ptr H1.next 0] [], .func 175 [.ptr H1.next 0] []] 1 1 false)).h.get H4.next=some (.cells [.func 173 [.ptr H1.next 0] [], .func 175 [.ptr H1.next 0] []] 1 1 false):=AH.push_get_eq _ _
    generalize hH5:H4.push (.cells [.func 173 [.ptr H1.next 0] [], .func 175 [.ptr H1.next 0] []] 1 1 false)=H5 at p5 g5
    have hI5:=hI3.base (p4.trans p5);obtain⟨H9,e9,kv,vv,ks,vs,rest,h9⟩:=zNE m n (by omega) (A4:=H.next) g5 p5.ok (by omega) K (by omega) hI5 n (by omega)
    have hrun:f123 (dy (m+1)) n [.bool true,S s] H=fF (vR (dy (m+1)) n [.ptr H.next 0, .ptr H1.next 0] H9):=by
     simp(disch:=omega) only[f123,eZ,yR hk,hH1,h5I,hb4,hb6,yR p1.ok,hH2,e3,qV g3,hbl,yR hI3.prs.ok,hH4,yR p4.ok,hH5,JY,x0,x1,wa,wb,hsl,hor,e9]
    have hp15:Prs H1 H5:=(p13.trans p4).trans p5
    cases hd:Y8 K (s.drop 2)with
    | none=>
     rw[hd]at h9;exact fin H5 H9 _ _ _ _ _ _ _ _ h9 hp15 (.inl rfl) (by simp only[Nd.decN,Nd.decB,hKd,hd];simp) hrun
    | some y=>
     obtain⟨y1,y2,y3⟩:=y;rw[hd]at h9;obtain⟨rfl,rfl,rfl,h9⟩:=h9;obtain⟨q1,q2,q3⟩:=Nd.decL_eq hd;have hq:=congrArg List.length q1;rw[zM,Nd.encL_length _ _ (by omega)]at hq;exact fin H5 H9 _ _ _ _ _ _ _ _ h9 hp15 (.inr ⟨by simp,by simp;omega,by simp;omega⟩) (by simp only[Nd.decN,Nd.decB,hKd,hd];rw[if_pos ⟨h500,by omega⟩];simp) hrun
   | false=>
    have hI4:=hI3.base p4;obtain⟨H5,pv,e5,hI5⟩:=VN (dy (m+1)) n (by omega) hI4 (by simp);have hp14:Prs H1 H4:=p13.trans p4
    cases ht:uV (s.drop 2)with
    | none=>
     have hb5:=zA8 [] ht;rw[hb5]at hI5;have hps:(zBC (s.drop 2) false []).2.2.length<1000:=by
      simp only[zBC];split
      .simp
      .split<;>simp
     obtain⟨H9,e9,kv,pv',ks,ps,rest,h9⟩:=zLB m n (by omega) (A4:=H.next) g4 p4.ok (by omega) hps K hI5 n (by omega)
     have hrun:f123 (dy (m+1)) n [.bool false,S s] H=fF (vR (dy (m+1)) n [.ptr H.next 0, .ptr H1.next 0] H9):=by
      simp(disch:=omega) only[f123,eZ,yR hk,hH1,h5I,hb4,hb6,yR p1.ok,hH2,e3,qV g3,hbl,yR hI3.prs.ok,hH4,e5,JY,x0,x1,wa,wb,hsl,hor,e9]
     exact fin H4 H9 _ _ _ _ _ _ _ _ h9 hp14 (.inl rfl) (by simp only[Nd.decN,Nd.decB,hKd,ht];simp) hrun
    | some y=>
     obtain⟨p0,r0⟩:=y;rw[zA7 [] ht]at hI5;obtain⟨hq0,_,_⟩:=Nd.takeP_eq ht;have hq0l:=congrArg List.length hq0;rw[zM,Nd.encP_length]at hq0l;obtain⟨H9,e9,kv,pv',ks,ps,rest,h9⟩:=zNF m n (by omega) (A4:=H.next) g4 p4.ok (by omega) K (by omega) hI5 n (by omega)
     have hrun:f123 (dy (m+1)) n [.bool false,S s] H=fF (vR (dy (m+1)) n [.ptr H.next 0, .ptr H1.next 0] H9):=by
      simp(disch:=omega) only[f123,eZ,yR hk,hH1,h5I,hb4,hb6,yR p1.ok,hH2,e3,qV g3,hbl,yR hI3.prs.ok,hH4,e5,JY,x0,x1,wa,wb,hsl,hor,e9]
     cases hd:Y9 K r0 with
     | none=>
      rw[hd]at h9;exact fin H4 H9 _ _ _ _ _ _ _ _ h9 hp14 (.inl rfl) (by simp only[Nd.decN,Nd.decB,hKd,ht,hd];simp) hrun
     | some y=>
      obtain⟨y1,y2,y3⟩:=y;rw[hd]at h9;obtain⟨rfl,rfl,rfl,h9⟩:=h9;obtain⟨q1,q2,q3,_⟩:=Nd.decI_eq hd;have hq:=congrArg List.length q1;rw[zM,Nd.encI_length _ _ (by omega)]at hq;exact fin H4 H9 _ _ _ _ _ _ _ _ h9 hp14 (.inr ⟨by simp;omega,by simp;omega,by simp[Nd.sumL]⟩) (by simp only[Nd.decN,Nd.decB,hKd,ht,hd];rw[if_pos ⟨h500,by omega⟩];simp) hrun
 .have h5I:((500:Nat):Int)< ((s.length:Nat):Int):=by omega
  obtain⟨H3,e3,l3,p3⟩:=refuse H1 (Stp.refl p1.ok);have hd:Nd.decN ltS leaf s=none:=by simp only[Nd.decN];rw[if_neg (by omega)]
  refine⟨.agg [.bool false, .nilSlice, .nilSlice, .nilSlice],H3, ?_,p3,(fun nd h=>by rw[hd]at h;cases h),_,rfl,rfl,rfl⟩;rw[hd];simp only[f123,eZ,yR hk,hH1,h5I,hbz,e3,l3,Option.isSome_none]
end Go.Eng.Sh
end
