/- Shallow functions, by program (gent4.py). -/
import Derived.Test.YtnbpjfmfopgomaaGreatDoorRW4
import Derived.Test.YtnbpjfmfopgomaaGreatDoorProg
import Derived.KernelRfl
noncomputable section
namespace Go.Eng.Sh
open Go.Proofs
set_option maxRecDepth 100000
set_option maxHeartbeats 4000000
set_option linter.all false
attribute [local irreducible] bV bR hd cnd jn jb loopK wnt chk newB bA bInt bStr bBool cmpO eqP eqS eqM eqF eqPL cvI cvSS slStr slArr ixArr ixSl ixStr fAd lnStr lnSl lnMap pk3 s2a bxV lkM upM dlM mkM callV nl outR tld endQ beginK endR endLp jmpK rfC mn2 mx2 aun pExtract pNil undefA isW aveq ldNp ld1p stNp cvBSp cvSBp slSlp ixAg1p ixAgNp fd1p fdNp apPp apZp cpyp bldSp bldAp bldLp mkSlp eqAp clSp bC pnK ifNil asrK noPan mkR clM acap mtp260_0 f23 f30 f161 f215l0 f215b1 f215 f144 f162 f101 f282l0 f282b1 f282 f283 f216 f209 f210l0 f210b1 f210 f137 f81 f218 f217 f145 f174j0 f174j1 rc174 f105 f32 f175 f106 f186 f205 f364 f388 f391j0 f391 f387j0 f387j1 f387j2 f387j3 f387 f390j0 f390j1 f390 f365j0 f365j1 f365 f329 f220l0 f220b1 f220 m220 f270 f366 f291l0 f291b1 f291 f343 f345 f330 f223 f344 f289 f331 f278j0 f278j1 f278j2 f278 f332 f267 f266l0 f266l1 f266b2 f266l3 f266b4 f266b5 f266 f319l0 f319l1 f319b2 f319b3 f319 f336 f367 f333 f335 f279l0 f279b1 f279l2 f279b3 f279j4 f279 f206 f280l0 f280b1 f280 f207 f208j0 f208l1 f208b2 f208 f135l0 f135b1 f135 f38 f54j0 f54 f76 f139 f176l0 f176b1 f176 f138 f121 f84l0 f84b1 f84 f107l0 f107b1 f107 f36 f108 f37 f35j0 f35 f6 f86j0 f86j1 f86 f87 f22 f88j0 f88j1 f88 f240 f166 f146 f34j0 f34 f46j0 f46 f182 m182 f114j0 f114j1 f114j2 f114 f47j0 f47 f190 f191j0 f191j1 f191j2 f191 f192 f196l0 f196b1 f196 f195 f257 f183 f317 f268 f180 f300 f318l0 f318b1 f318j2 f318 f316j0 f316 f259 f258 f258l0 f258b1 f258b2 r258_0 f184 f185 f115b0 f115 r115_0 f326l0 f326b1 f326 f271 f193l0 f193b1 f193 f273j0 f273 f200 f125 f66 f48j0 f48 f45 f9 f90 f89 f24 f91j0 f91j1 f91 f211l0 f211b1 f211 f197j0 f197l1 f197b2 f197 f147l0 f147b1 f147 m148 f149 f221l0 f221b1 f221 f150l0 f150b1 f150l2 f150b3 f150 f93j0 f93l1 f93b2 f93 f92 f25 f26 f94j0 f94j1 f94 f95 f27 f96j0 f96j1 f96 f97 f28 f136 f80 f373 f374 f342 f285 f287 f224 f286 f222 f151 f225 f152l0 f152b1 f152 f98 f375 f346 f394 f376l0 f376b1 f376 f377 f347 f290 f226j0 f226l1 f226b2 f226 f227 f228 f230 f292 f229l0 f229b1 f229 f348l0 f348b1 f348 r348_0 f293 f231 r231_0 f153j0 f153 f155 f156 f154l0 f154b1 f154l2 f154b3 f154 f157 f234 f296 m235 f235
def s247 (D : Dyn) (n : Nat) : Tb := ⟨X, []⟩
def h247 : Hint := (.s .o (.s .o .o))
def f247 (D : Dyn) (n : Nat) := (⟨_, by conv => rhs; reduce⟩ : {g // g = fun vs H => funS (s247 D n) D n 247 Tryz.f247 h247 [] vs H}).1
theorem f247_eq (D : Dyn) (n : Nat) : f247 D n = funKp (s247 D n) D n 247 Tryz.f247 (ms h247) := by kernel_rfl
theorem f247_ok {D : Dyn} (hD : DP D) (n : Nat) : FP 247 (f247 D n) := fun_okP X_ok hD (SP.nil) Tryz.func247 (by kernel_rfl) (by kernel_rfl) (f247_eq D n)
attribute [local irreducible] f247

def s248 (D : Dyn) (n : Nat) : Tb := ⟨X, []⟩
def h248 : Hint := (.s .o (.s .o .o))
def f248 (D : Dyn) (n : Nat) := (⟨_, by conv => rhs; reduce⟩ : {g // g = fun vs H => funS (s248 D n) D n 248 Tryz.f248 h248 [] vs H}).1
theorem f248_eq (D : Dyn) (n : Nat) : f248 D n = funKp (s248 D n) D n 248 Tryz.f248 (ms h248) := by kernel_rfl
theorem f248_ok {D : Dyn} (hD : DP D) (n : Nat) : FP 248 (f248 D n) := fun_okP X_ok hD (SP.nil) Tryz.func248 (by kernel_rfl) (by kernel_rfl) (f248_eq D n)
attribute [local irreducible] f248

def s297 (D : Dyn) (n : Nat) : Tb := ⟨X, []⟩
def h297 : Hint := (.s .o (.s .o .o))
def f297 (D : Dyn) (n : Nat) := (⟨_, by conv => rhs; reduce⟩ : {g // g = fun vs H => funS (s297 D n) D n 297 Tryz.f297 h297 [] vs H}).1
theorem f297_eq (D : Dyn) (n : Nat) : f297 D n = funKp (s297 D n) D n 297 Tryz.f297 (ms h297) := by kernel_rfl
theorem f297_ok {D : Dyn} (hD : DP D) (n : Nat) : FP 297 (f297 D n) := fun_okP X_ok hD (SP.nil) Tryz.func297 (by kernel_rfl) (by kernel_rfl) (f297_eq D n)
attribute [local irreducible] f297

def s298 (D : Dyn) (n : Nat) : Tb := ⟨X, []⟩
def h298 : Hint := (.s .o (.s .o .o))
def f298 (D : Dyn) (n : Nat) := (⟨_, by conv => rhs; reduce⟩ : {g // g = fun vs H => funS (s298 D n) D n 298 Tryz.f298 h298 [] vs H}).1
theorem f298_eq (D : Dyn) (n : Nat) : f298 D n = funKp (s298 D n) D n 298 Tryz.f298 (ms h298) := by kernel_rfl
theorem f298_ok {D : Dyn} (hD : DP D) (n : Nat) : FP 298 (f298 D n) := fun_okP X_ok hD (SP.nil) Tryz.func298 (by kernel_rfl) (by kernel_rfl) (f298_eq D n)
attribute [local irreducible] f298

def s250 (D : Dyn) (n : Nat) : Tb := ⟨X, []⟩
def h250 : Hint := (.s .o (.s .o (.c [0] .o .o)))
def f250j0 (D : Dyn) (n : Nat) := (⟨_, by conv => rhs; reduce⟩ : {g // some g = prtF (s250 D n) D n 250 Tryz.f250 h250 [] 0}).1
attribute [local irreducible] f250j0
def f250 (D : Dyn) (n : Nat) := (⟨_, by conv => rhs; reduce⟩ : {g // g = fun vs H => funS (s250 D n) D n 250 Tryz.f250 h250 [f250j0 D n] vs H}).1
theorem f250_eq (D : Dyn) (n : Nat) : f250 D n = funKp (s250 D n) D n 250 Tryz.f250 (ms h250) := by kernel_rfl
theorem f250_ok {D : Dyn} (hD : DP D) (n : Nat) : FP 250 (f250 D n) := fun_okP X_ok hD (SP.nil) Tryz.func250 (by kernel_rfl) (by kernel_rfl) (f250_eq D n)
attribute [local irreducible] f250

def s251 (D : Dyn) (n : Nat) : Tb := ⟨X, []⟩
def h251 : Hint := (.s .o (.s .o .o))
def f251 (D : Dyn) (n : Nat) := (⟨_, by conv => rhs; reduce⟩ : {g // g = fun vs H => funS (s251 D n) D n 251 Tryz.f251 h251 [] vs H}).1
theorem f251_eq (D : Dyn) (n : Nat) : f251 D n = funKp (s251 D n) D n 251 Tryz.f251 (ms h251) := by kernel_rfl
theorem f251_ok {D : Dyn} (hD : DP D) (n : Nat) : FP 251 (f251 D n) := fun_okP X_ok hD (SP.nil) Tryz.func251 (by kernel_rfl) (by kernel_rfl) (f251_eq D n)
attribute [local irreducible] f251

def s236 (D : Dyn) (n : Nat) : Tb := ⟨X, [(247, f247 D n), (248, f248 D n), (297, f297 D n), (298, f298 D n), (250, f250 D n)]⟩
def h236 : Hint := (.s .o (.s (.s .o (.cl (.s .o .o) .o)) (.s (.s .o (.cl (.s .o .o) .o)) (.s .o (.s (.s .o (.cl (.s .o .o) .o)) (.s .o (.s .o .o)))))))
def f236 (D : Dyn) (n : Nat) := (⟨_, by conv => rhs; reduce⟩ : {g // g = fun vs H => funS (s236 D n) D n 236 Tryz.f236 h236 [] vs H}).1
theorem f236_eq (D : Dyn) (n : Nat) : f236 D n = funKp (s236 D n) D n 236 Tryz.f236 (ms h236) := by kernel_rfl
theorem f236_ok {D : Dyn} (hD : DP D) (n : Nat) : FP 236 (f236 D n) := fun_okP X_ok hD (SP.cons (f247_ok hD n) (SP.cons (f248_ok hD n) (SP.cons (f297_ok hD n) (SP.cons (f298_ok hD n) (SP.cons (f250_ok hD n) (SP.nil)))))) Tryz.func236 (by kernel_rfl) (by kernel_rfl) (f236_eq D n)
attribute [local irreducible] f236

def s158 (D : Dyn) (n : Nat) : Tb := ⟨X, [(234, f234 D n), (235, m235 D n), (236, f236 D n)]⟩
def h158 : Hint := (.s .o (.b [2] (.l [1,0,1,9,10] (.s .o (.s (.cr .o .o) (.s (.b0 (.s .o (.s .o (.c [0,0,1,9,10] .o .o)))) .o))))))
def f158j0 (D : Dyn) (n : Nat) := (⟨_, by conv => rhs; reduce⟩ : {g // some g = prtF (s158 D n) D n 158 Tryz.f158 h158 [] 0}).1
attribute [local irreducible] f158j0
def f158l1 (D : Dyn) (n : Nat) := (⟨_, by conv => rhs; reduce⟩ : {g // some g = prtF (s158 D n) D n 158 Tryz.f158 h158 [f158j0 D n] 1}).1
attribute [local irreducible] f158l1
def f158b2 (D : Dyn) (n : Nat) := (⟨_, by conv => rhs; reduce⟩ : {g // some g = prtF (s158 D n) D n 158 Tryz.f158 h158 [f158j0 D n, f158l1 D n] 2}).1
attribute [local irreducible] f158b2
def f158 (D : Dyn) (n : Nat) := (⟨_, by conv => rhs; reduce⟩ : {g // g = fun vs H => funS (s158 D n) D n 158 Tryz.f158 h158 [f158j0 D n, f158l1 D n, f158b2 D n] vs H}).1
theorem f158_eq (D : Dyn) (n : Nat) : f158 D n = funKp (s158 D n) D n 158 Tryz.f158 (ms h158) := by kernel_rfl
theorem f158_ok {D : Dyn} (hD : DP D) (n : Nat) : FP 158 (f158 D n) := fun_okP X_ok hD (SP.cons (f234_ok hD n) (SP.cons (m235_ok hD n) (SP.cons (f236_ok hD n) (SP.nil)))) Tryz.func158 (by kernel_rfl) (by kernel_rfl) (f158_eq D n)
attribute [local irreducible] f158

def s99 (D : Dyn) (n : Nat) : Tb := ⟨X, [(153, f153 D n), (155, f155 D n), (156, f156 D n), (154, f154 D n), (157, f157 D n), (158, f158 D n)]⟩
def h99 : Hint := (.s .o (.s .o (.s (.s .o (.cl (.s .o .o) .o)) (.s .o (.s (.s .o (.cl (.s .o .o) .o)) (.s .o (.s .o (.s (.s .o (.b [1,10] (.l [0,10,43,44,45] (.s .o (.s (.cr .o .o) (.s (.b0 (.s .o (.s .o (.s (.s .o (.s .o (.cl (.s .o .o) .o))) (.b [7,126,10,1023] .o))))) .o)))))) (.s .o .o)))))))))
def f99l0 (D : Dyn) (n : Nat) := (⟨_, by conv => rhs; reduce⟩ : {g // some g = prtF (s99 D n) D n 99 Tryz.f99 h99 [] 0}).1
attribute [local irreducible] f99l0
def f99b1 (D : Dyn) (n : Nat) := (⟨_, by conv => rhs; reduce⟩ : {g // some g = prtF (s99 D n) D n 99 Tryz.f99 h99 [f99l0 D n] 1}).1
attribute [local irreducible] f99b1
def f99 (D : Dyn) (n : Nat) := (⟨_, by conv => rhs; reduce⟩ : {g // g = fun vs H => funS (s99 D n) D n 99 Tryz.f99 h99 [f99l0 D n, f99b1 D n] vs H}).1
theorem f99_eq (D : Dyn) (n : Nat) : f99 D n = funKp (s99 D n) D n 99 Tryz.f99 (ms h99) := by kernel_rfl
theorem f99_ok {D : Dyn} (hD : DP D) (n : Nat) : FP 99 (f99 D n) := fun_okP X_ok hD (SP.cons (f153_ok hD n) (SP.cons (f155_ok hD n) (SP.cons (f156_ok hD n) (SP.cons (f154_ok hD n) (SP.cons (f157_ok hD n) (SP.cons (f158_ok hD n) (SP.nil))))))) Tryz.func99 (by kernel_rfl) (by kernel_rfl) (f99_eq D n)
attribute [local irreducible] f99

def s100 (D : Dyn) (n : Nat) : Tb := ⟨X, [(161, f161 D n)]⟩
def h100 : Hint := (.s .o (.s (.s .o (.cl (.s .o .o) .o)) (.s .o .o)))
def f100 (D : Dyn) (n : Nat) := (⟨_, by conv => rhs; reduce⟩ : {g // g = fun vs H => funS (s100 D n) D n 100 Tryz.f100 h100 [] vs H}).1
theorem f100_eq (D : Dyn) (n : Nat) : f100 D n = funKp (s100 D n) D n 100 Tryz.f100 (ms h100) := by kernel_rfl
theorem f100_ok {D : Dyn} (hD : DP D) (n : Nat) : FP 100 (f100 D n) := fun_okP X_ok hD (SP.cons (f161_ok hD n) (SP.nil)) Tryz.func100 (by kernel_rfl) (by kernel_rfl) (f100_eq D n)
attribute [local irreducible] f100

def s179 (D : Dyn) (n : Nat) : Tb := ⟨X, []⟩
def h179 : Hint := (.s .o (.s (.s .o (.cl (.s .o .o) .o)) (.s .o .o)))
def f179 (D : Dyn) (n : Nat) := (⟨_, by conv => rhs; reduce⟩ : {g // g = fun vs H => funS (s179 D n) D n 179 Tryz.f179 h179 [] vs H}).1
theorem f179_eq (D : Dyn) (n : Nat) : f179 D n = funKp (s179 D n) D n 179 Tryz.f179 (ms h179) := by kernel_rfl
theorem f179_ok {D : Dyn} (hD : DP D) (n : Nat) : FP 179 (f179 D n) := fun_okP X_ok hD (SP.nil) Tryz.func179 (by kernel_rfl) (by kernel_rfl) (f179_eq D n)
def m179 (D : Dyn) (n : Nat) (vs : List AV) (H : AH) : Option (AV × AH) := clnK (f179 D n) vs H
theorem m179_ok {D : Dyn} (hD : DP D) (n : Nat) : FP 179 (m179 D n) := clnK_okP ⟨_, Tryz.func179, rfl⟩ (AnyW.maps_Clone Tryz.clone179) (f179_ok hD n)
attribute [local irreducible] f179 m179

def s111 (D : Dyn) (n : Nat) : Tb := ⟨X, [(179, m179 D n), (180, f180 D n)]⟩
def h111 : Hint := (.s .o (.s (.s .o (.cl (.s .o .o) .o)) (.s .o (.s .o (.s .o (.s .o .o))))))
def f111 (D : Dyn) (n : Nat) := (⟨_, by conv => rhs; reduce⟩ : {g // g = fun vs H => funS (s111 D n) D n 111 Tryz.f111 h111 [] vs H}).1
theorem f111_eq (D : Dyn) (n : Nat) : f111 D n = funKp (s111 D n) D n 111 Tryz.f111 (ms h111) := by kernel_rfl
theorem f111_ok {D : Dyn} (hD : DP D) (n : Nat) : FP 111 (f111 D n) := fun_okP X_ok hD (SP.cons (m179_ok hD n) (SP.cons (f180_ok hD n) (SP.nil))) Tryz.func111 (by kernel_rfl) (by kernel_rfl) (f111_eq D n)
attribute [local irreducible] f111

def s181 (D : Dyn) (n : Nat) : Tb := ⟨X, []⟩
def f181j0 (D : Dyn) (n : Nat) (vs : List AV) (H : AH) : Rs :=
  
  some (.norm [], H)
def f181j1 (D : Dyn) (n : Nat) (vs : List AV) (H : AH) : Rs :=
  
  some (.ret (.tuple []), H)
def rc181 (D : Dyn) (n : Nat) (rv : AV) (vs : List AV) (H : AH) : Option (AV × AH) :=
  noPan (outR (hd vs fun x0 vs => hd vs fun x1 vs => nl vs <|
  bV (ifNil .neq rv) fun x8 => 
  jn (cnd x8 (bR (stNp 1 x0 (.int .i64 (.ofNat 0)) H) fun x9999 H => 
  bR (stNp 1 x1 (.int .i64 (.ofNat 4)) H) fun x9999_2 H => 
  bV (asrK 169 (.agg [(.int .i64 (.ofNat 0))]) rv) fun x12 => 
  bV (pExtract x12 0) fun x13 => 
  bV (pExtract x12 1) fun x14 => 
  bA (bxV 169 (.agg [(.int .i64 (.ofNat 0))])) H fun x4 H => 
  bR (stNp 1 x4 x13 H) fun x9999_3 H => 
  jn (cnd x14 (bV (fAd 0 x4) fun x16 => 
  bV (ld1p x16 H) fun x17 => 
  bR (stNp 1 x1 x17 H) fun x9999_4 H => 
  some (.norm [], H))
  (some (.norm [], H))) (f181j0 D n))
  (some (.norm [], H))) (f181j1 D n)))
def h181 : Hint := (.s .pc (.c [] (.s .pc (.s .pc (.s .pc (.s .pc (.c [] .pc .o))))) .o))
theorem rc181_eq (D : Dyn) (n : Nat) : rc181 D n = funRp (s181 D n) D n 181 Tryz.f181 h181 := by kernel_rfl
theorem rc181_ok {D : Dyn} (hD : DP D) (n : Nat) : RcP 181 (rc181 D n) := funR_okP X_ok hD (SP.nil) Tryz.func181 (by kernel_rfl) (by kernel_rfl) (by kernel_rfl) (rc181_eq D n)
attribute [local irreducible] f181j0 f181j1 rc181

def s112 (D : Dyn) (n : Nat) : Tb := ⟨X, []⟩
def f112 (D : Dyn) (n : Nat) (vs : List AV) (H : AH) : Option (AV × AH) :=
  noPan (outR (hd vs fun x0 vs => hd vs fun x1 vs => hd vs fun x2 vs => nl vs <|
  bA (bxV 3 (.int .i64 (.ofNat 0))) H fun x6 H => 
  bA (bxV 24 (.int .i64 (.ofNat 0))) H fun x7 H => 
  bV (bldSp [(0, 1), (1, 1)] [.nilPtr, (.int .i64 (.ofNat 0))] [(0, x0), (1, x1)]) fun x12 => 
  bC (callV (s112 D n).S D x2 [x12] H) (fun x H => bR (rc181 D n x [x6, x7] H) fun _ H => bV (ld1p x6 H) fun x9006_5 => bV (ld1p x7 H) fun x9007_5 => some (.ret (.tuple [x9006_5, x9007_5]), H)) fun x13 H => 
  bR (stNp 1 x6 x13 H) fun x9999 H => 
  bR (stNp 1 x7 (.int .i64 (.ofNat 0)) H) fun x9999_2 H => 
  bR (rc181 D n .nilIface [x6, x7] H) fun _ H => bV (ld1p x6 H) fun x9006_8 => bV (ld1p x7 H) fun x9007_8 => some (.ret (.tuple [x9006_8, x9007_8]), H)))
theorem f112_eq (D : Dyn) (n : Nat) : f112 D n = dfunKp (s112 D n) D Tryz.f112 181 (rc181 D n) := by kernel_rfl
theorem f112_ok {D : Dyn} (hD : DP D) (n : Nat) : FP 112 (f112 D n) := dfun_okP X_ok hD (SP.nil) Tryz.func112 (rc181_ok hD n) (f112_eq D n)
attribute [local irreducible] f112

def s42 (D : Dyn) (n : Nat) : Tb := ⟨X, [(111, f111 D n), (112, f112 D n)]⟩
def h42 : Hint := (.s .o (.s .o (.s (.s .o (.cl (.s .o .o) .o)) (.s (.s .o (.cl (.s .o .o) .o)) (.s .o (.s .o (.s (.s .o (.cl (.s .o .o) .o)) (.s .o (.s .o .o)))))))))
def f42 (D : Dyn) (n : Nat) := (⟨_, by conv => rhs; reduce⟩ : {g // g = fun vs H => funS (s42 D n) D n 42 Tryz.f42 h42 [] vs H}).1
theorem f42_eq (D : Dyn) (n : Nat) : f42 D n = funKp (s42 D n) D n 42 Tryz.f42 (ms h42) := by kernel_rfl
theorem f42_ok {D : Dyn} (hD : DP D) (n : Nat) : FP 42 (f42 D n) := fun_okP X_ok hD (SP.cons (f111_ok hD n) (SP.cons (f112_ok hD n) (SP.nil))) Tryz.func42 (by kernel_rfl) (by kernel_rfl) (f42_eq D n)
attribute [local irreducible] f42

def s52 (D : Dyn) (n : Nat) : Tb := ⟨X, [(84, f84 D n)]⟩
def h52 : Hint := (.s .o (.s .o (.s (.s .o (.c [0,10,12] .o .o)) (.s (.s .o (.cl (.s .o .o) .o)) (.s .o .o)))))
def f52j0 (D : Dyn) (n : Nat) := (⟨_, by conv => rhs; reduce⟩ : {g // some g = prtF (s52 D n) D n 52 Tryz.f52 h52 [] 0}).1
attribute [local irreducible] f52j0
def f52 (D : Dyn) (n : Nat) := (⟨_, by conv => rhs; reduce⟩ : {g // g = fun vs H => funS (s52 D n) D n 52 Tryz.f52 h52 [f52j0 D n] vs H}).1
theorem f52_eq (D : Dyn) (n : Nat) : f52 D n = funKp (s52 D n) D n 52 Tryz.f52 (ms h52) := by kernel_rfl
theorem f52_ok {D : Dyn} (hD : DP D) (n : Nat) : FP 52 (f52 D n) := fun_okP X_ok hD (SP.cons (f84_ok hD n) (SP.nil)) Tryz.func52 (by kernel_rfl) (by kernel_rfl) (f52_eq D n)
attribute [local irreducible] f52

def s178 (D : Dyn) (n : Nat) : Tb := ⟨X, []⟩
def h178 : Hint := (.s .o (.s (.b [] .o) .o))
def f178 (D : Dyn) (n : Nat) := (⟨_, by conv => rhs; reduce⟩ : {g // g = fun vs H => funS (s178 D n) D n 178 Tryz.f178 h178 [] vs H}).1
theorem f178_eq (D : Dyn) (n : Nat) : f178 D n = funKp (s178 D n) D n 178 Tryz.f178 (ms h178) := by kernel_rfl
theorem f178_ok {D : Dyn} (hD : DP D) (n : Nat) : FP 178 (f178 D n) := fun_okP X_ok hD (SP.nil) Tryz.func178 (by kernel_rfl) (by kernel_rfl) (f178_eq D n)
attribute [local irreducible] f178

def s113 (D : Dyn) (n : Nat) : Tb := ⟨X, [(178, f178 D n), (121, f121 D n), (175, f175 D n)]⟩
def h113 : Hint := (.s .o (.s .o (.s (.s .o (.b [1,4] (.l [0,4,8,9] (.s .o (.s (.cr .o .o) (.s (.b0 (.s .o (.s (.s .o (.cl (.s .o .o) .o)) .o))) .o)))))) (.s .o .o))))
def f113l0 (D : Dyn) (n : Nat) := (⟨_, by conv => rhs; reduce⟩ : {g // some g = prtF (s113 D n) D n 113 Tryz.f113 h113 [] 0}).1
attribute [local irreducible] f113l0
def f113b1 (D : Dyn) (n : Nat) := (⟨_, by conv => rhs; reduce⟩ : {g // some g = prtF (s113 D n) D n 113 Tryz.f113 h113 [f113l0 D n] 1}).1
attribute [local irreducible] f113b1
def f113 (D : Dyn) (n : Nat) := (⟨_, by conv => rhs; reduce⟩ : {g // g = fun vs H => funS (s113 D n) D n 113 Tryz.f113 h113 [f113l0 D n, f113b1 D n] vs H}).1
theorem f113_eq (D : Dyn) (n : Nat) : f113 D n = funKp (s113 D n) D n 113 Tryz.f113 (ms h113) := by kernel_rfl
theorem f113_ok {D : Dyn} (hD : DP D) (n : Nat) : FP 113 (f113 D n) := fun_okP X_ok hD (SP.cons (f178_ok hD n) (SP.cons (f121_ok hD n) (SP.cons (f175_ok hD n) (SP.nil)))) Tryz.func113 (by kernel_rfl) (by kernel_rfl) (f113_eq D n)
attribute [local irreducible] f113

def s261 (D : Dyn) (n : Nat) : Tb := ⟨X, []⟩
def h261 : Hint := (.s .o (.s .o (.s (.b [9,511] .o) (.s .o .o))))
def f261 (D : Dyn) (n : Nat) := (⟨_, by conv => rhs; reduce⟩ : {g // g = fun vs H => funS (s261 D n) D n 261 Tryz.f261 h261 [] vs H}).1
theorem f261_eq (D : Dyn) (n : Nat) : f261 D n = funKp (s261 D n) D n 261 Tryz.f261 (ms h261) := by kernel_rfl
theorem f261_ok {D : Dyn} (hD : DP D) (n : Nat) : FP 261 (f261 D n) := fun_okP X_ok hD (SP.nil) Tryz.func261 (by kernel_rfl) (by kernel_rfl) (f261_eq D n)
attribute [local irreducible] f261

def s260 (D : Dyn) (n : Nat) : Tb := ⟨X, []⟩
def f260j0 (D : Dyn) (n : Nat) (vs : List AV) (H : AH) : Rs :=
  hd vs fun x0_3 vs => hd vs fun x3_3 vs => hd vs fun x4_2 vs => hd vs fun x16_3 vs => hd vs fun x17_3 vs => hd vs fun x18_2 vs => 
  bV (bInt .add x18_2 (.int .i64 (.ofNat 1))) fun x41 => 
  some (.norm [x0_3, x3_3, x4_2, x16_3, x17_3, x41], H)
def f260l1 (D : Dyn) (n : Nat) (vs : List AV) (H : AH) : Rs :=
  hd vs fun x0_2 vs => hd vs fun x3_2 vs => hd vs fun x4 vs => hd vs fun x16_2 vs => hd vs fun x17_2 vs => hd vs fun x18 vs => 
  bV (bInt .lss x18 x17_2) fun x19 => 
  cnd x19 (bV (ixSl 3 x16_2 x18) fun x20 => 
  bV (ldNp 3 x20 H) fun x21 => 
  bA (bxV 119 (.agg [(.int .i64 (.ofNat 0)), (.int .i64 (.ofNat 0)), (.int .u64 (.ofNat 0))])) H fun x6 H => 
  bR (stNp 3 x6 x21 H) fun x9999 H => 
  bV (fAd 0 x6) fun x22 => 
  bV (ld1p x22 H) fun x23 => 
  bV (bInt .eql x23 (.int .i64 (.ofNat 1))) fun x24 => 
  jn (cnd x24 (bV (pNil x4) fun x26 => 
  bV (fAd 5 x26) fun x27 => 
  bV (ld1p x27 H) fun x28 => 
  bV (fAd 2 x6) fun x29 => 
  bV (ld1p x29 H) fun x30 => 
  bR (dlM [10] x28 x30 H) fun x9999_2 H => 
  some (.norm [x0_2, x3_2, x4, x16_2, x17_2, x18], H))
  (bV (pNil x4) fun x33 => 
  bV (fAd 7 x33) fun x34 => 
  bV (ld1p x34 H) fun x35 => 
  bV (ldNp 3 x6 H) fun x36 => 
  bA (bldLp 119 3 1 [(.int .i64 (.ofNat 0)), (.int .i64 (.ofNat 0)), (.int .u64 (.ofNat 0))] [(0, x36)]) H fun x37 H => 
  bR (apPp 119 3 24 x35 x37 H) fun x38 H => 
  bV (pNil x4) fun x39 => 
  bV (fAd 7 x39) fun x40 => 
  bR (stNp 1 x40 x38 H) fun x9999_3 H => 
  some (.norm [x0_2, x3_2, x4, x16_2, x17_2, x18], H))) (f260j0 D n))
  (some (.exit 0 [x0_2, x3_2, x4], H))
def f260b2 (D : Dyn) (n : Nat) (vs : List AV) (H : AH) : Rs :=
  hd vs fun x0_4 vs => hd vs fun x3_4 vs => hd vs fun x4_3 vs => 
  tld (mtp260_0 [x0_4, x3_4, x4_3] H) H.next fun H => 
  bV (pNil x0_4) fun x60 => 
  bV (fAd 1 x60) fun x61 => 
  bV (ld1p x61 H) fun x62 => 
  bV (pNil x4_3) fun x63 => 
  bV (fAd 6 x63) fun x64 => 
  bR (stNp 1 x64 x62 H) fun x9999_4 H => 
  bV (ldNp 3 x3_4 H) fun x66 => 
  bV (pNil x4_3) fun x67 => 
  bV (fAd 2 x67) fun x68 => 
  bR (stNp 3 x68 x66 H) fun x9999_5 H => 
  some (.ret (.tuple []), H)
def f260 (D : Dyn) (n : Nat) (vs : List AV) (H : AH) : Option (AV × AH) :=
  outR (hd vs fun x0 vs => hd vs fun x1 vs => nl vs <|
  bA (bxV 119 x1) H fun x3 H => 
  bV (pNil x0) fun x10 => 
  bV (fAd 0 x10) fun x11 => 
  bV (ld1p x11 H) fun x12 => 
  bV (pNil x0) fun x14 => 
  bV (fAd 3 x14) fun x15 => 
  bV (ld1p x15 H) fun x16 => 
  bV (lnSl x16) fun x17 => 
  jb 0 (loopK n (f260l1 D n) [x0, x3, x12, x16, x17, (.int .i64 (.ofNat 0))] H) (f260b2 D n))
def h260 : Hint := (.s .o (.s .o (.s (.s .o (.b [0, 3, 4] (.l [0, 3, 4, 16, 17, 18] (.s .o (.s (.cr .o .o) (.s (.b0 (.s .o (.s .o (.c [0, 3, 4, 16, 17, 18] .o .o)))) .o)))))) (.s (.t [0, 3, 4] mtp260_0) (.s .o .o)))))
def ho260 : Hint := (.s .o (.s .o (.s (.s .o (.b [0, 3, 4] (.l [0, 3, 4, 16, 17, 18] (.s .o (.s (.cr .o .o) (.s (.b0 (.s .o (.s .o (.c [0, 3, 4, 16, 17, 18] .o .o)))) .o)))))) (.s (.t [0, 3, 4] mt260_0) (.s .o .o)))))
theorem f260_eq (D : Dyn) (n : Nat) : f260 D n = funKp (s260 D n) D n 260 Tryz.f260 h260 := by kernel_rfl
theorem f260_tolds : toldsF Tryz.f260 ho260 = [(q260_0.code, [0, 3, 4], mt260_0)] := by kernel_rfl
theorem f260_told : ∀ x ∈ toldsF Tryz.f260 ho260, ToldOk PP Tryz.f260.ntmps 260 x.1 x.2.1 x.2.2 := by
  rw [f260_tolds]; intro x hx
  simp only [List.mem_cons, List.not_mem_nil, or_false] at hx
  subst hx; exact told260_0
theorem f260_hs : HS h260 ho260 := by
  unfold h260 ho260
  repeat (first | exact HS.t mtp260_0_sim | constructor)
theorem f260_ok {D : Dyn} (hD : DP D) (n : Nat) : FP 260 (f260 D n) := fun_okPT X_ok hD (SP.nil) Tryz.func260 (sitesT_ok (by kernel_rfl) f260_told) f260_hs (f260_eq D n)
attribute [local irreducible] f260j0 f260l1 f260b2 f260

def s321 (D : Dyn) (n : Nat) : Tb := ⟨X, [(319, f319 D n)]⟩
def h321 : Hint := (.s .o (.s .o (.s .o (.s (.b [1,1,5,6] (.l [0,1,5,6] (.s (.s .o (.cr .o .o)) (.b0 (.s .o (.s (.s .o (.cl (.s .o .o) .o)) (.s .o (.s .o .o)))))))) (.s .o .o)))))
def f321l0 (D : Dyn) (n : Nat) := (⟨_, by conv => rhs; reduce⟩ : {g // some g = prtF (s321 D n) D n 321 Tryz.f321 h321 [] 0}).1
attribute [local irreducible] f321l0
def f321b1 (D : Dyn) (n : Nat) := (⟨_, by conv => rhs; reduce⟩ : {g // some g = prtF (s321 D n) D n 321 Tryz.f321 h321 [f321l0 D n] 1}).1
attribute [local irreducible] f321b1
def f321 (D : Dyn) (n : Nat) := (⟨_, by conv => rhs; reduce⟩ : {g // g = fun vs H => funS (s321 D n) D n 321 Tryz.f321 h321 [f321l0 D n, f321b1 D n] vs H}).1
theorem f321_eq (D : Dyn) (n : Nat) : f321 D n = funKp (s321 D n) D n 321 Tryz.f321 (ms h321) := by kernel_rfl
theorem f321_ok {D : Dyn} (hD : DP D) (n : Nat) : FP 321 (f321 D n) := fun_okP X_ok hD (SP.cons (f319_ok hD n) (SP.nil)) Tryz.func321 (by kernel_rfl) (by kernel_rfl) (f321_eq D n)
attribute [local irreducible] f321

def s323 (D : Dyn) (n : Nat) : Tb := ⟨X, [(261, f261 D n)]⟩
def h323 : Hint := (.s .o (.s .o (.s (.s .o (.b [1,5] (.l [0,0,5,8,9,10] (.s .o (.s (.cr .o .o) (.s (.b0 (.s .o .o)) .o)))))) (.s .o .o))))
def f323l0 (D : Dyn) (n : Nat) := (⟨_, by conv => rhs; reduce⟩ : {g // some g = prtF (s323 D n) D n 323 Tryz.f323 h323 [] 0}).1
attribute [local irreducible] f323l0
def f323b1 (D : Dyn) (n : Nat) := (⟨_, by conv => rhs; reduce⟩ : {g // some g = prtF (s323 D n) D n 323 Tryz.f323 h323 [f323l0 D n] 1}).1
attribute [local irreducible] f323b1
def f323 (D : Dyn) (n : Nat) := (⟨_, by conv => rhs; reduce⟩ : {g // g = fun vs H => funS (s323 D n) D n 323 Tryz.f323 h323 [f323l0 D n, f323b1 D n] vs H}).1
theorem f323_eq (D : Dyn) (n : Nat) : f323 D n = funKp (s323 D n) D n 323 Tryz.f323 (ms h323) := by kernel_rfl
theorem f323_ok {D : Dyn} (hD : DP D) (n : Nat) : FP 323 (f323 D n) := fun_okP X_ok hD (SP.cons (f261_ok hD n) (SP.nil)) Tryz.func323 (by kernel_rfl) (by kernel_rfl) (f323_eq D n)
attribute [local irreducible] f323

def s265 (D : Dyn) (n : Nat) : Tb := ⟨X, [(260, f260 D n), (321, f321 D n), (323, f323 D n), (261, f261 D n)]⟩
def h265 : Hint := (.s .o (.s (.s .o (.cl (.s (.s .o (.c [0] .o .o)) (.s .o .o)) .o)) (.s .o (.s (.s .o (.cl (.s .o .o) .o)) (.s .o (.s (.s .o (.c [1] .o .o)) (.s .o .o)))))))
def f265j0 (D : Dyn) (n : Nat) := (⟨_, by conv => rhs; reduce⟩ : {g // some g = prtF (s265 D n) D n 265 Tryz.f265 h265 [] 0}).1
attribute [local irreducible] f265j0
def f265j1 (D : Dyn) (n : Nat) := (⟨_, by conv => rhs; reduce⟩ : {g // some g = prtF (s265 D n) D n 265 Tryz.f265 h265 [f265j0 D n] 1}).1
attribute [local irreducible] f265j1
def f265 (D : Dyn) (n : Nat) := (⟨_, by conv => rhs; reduce⟩ : {g // g = fun vs H => funS (s265 D n) D n 265 Tryz.f265 h265 [f265j0 D n, f265j1 D n] vs H}).1
theorem f265_eq (D : Dyn) (n : Nat) : f265 D n = funKp (s265 D n) D n 265 Tryz.f265 (ms h265) := by kernel_rfl
theorem f265_ok {D : Dyn} (hD : DP D) (n : Nat) : FP 265 (f265 D n) := fun_okP X_ok hD (SP.cons (f260_ok hD n) (SP.cons (f321_ok hD n) (SP.cons (f323_ok hD n) (SP.cons (f261_ok hD n) (SP.nil))))) Tryz.func265 (by kernel_rfl) (by kernel_rfl) (f265_eq D n)
attribute [local irreducible] f265

def s264 (D : Dyn) (n : Nat) : Tb := ⟨X, []⟩
def h264 : Hint := (.s .o (.b [7,126,10,1023] .o))
def f264 (D : Dyn) (n : Nat) := (⟨_, by conv => rhs; reduce⟩ : {g // g = fun vs H => funS (s264 D n) D n 264 Tryz.f264 h264 [] vs H}).1
theorem f264_eq (D : Dyn) (n : Nat) : f264 D n = funKp (s264 D n) D n 264 Tryz.f264 (ms h264) := by kernel_rfl
theorem f264_ok {D : Dyn} (hD : DP D) (n : Nat) : FP 264 (f264 D n) := fun_okP X_ok hD (SP.nil) Tryz.func264 (by kernel_rfl) (by kernel_rfl) (f264_eq D n)
attribute [local irreducible] f264

def s262 (D : Dyn) (n : Nat) : Tb := ⟨X, [(205, f205 D n), (206, f206 D n), (208, f208 D n), (264, f264 D n)]⟩
def h262 : Hint := (.s .o (.s (.s .o (.s (.b [2,2] .o) (.cl (.s .o .o) .o))) (.s .o (.s (.s .o (.cl (.s .o .o) .o)) (.s (.s .o (.c [1,6,7,8,10,11] .o (.s .o (.s .o (.s (.b [6,63,10,511] .o) (.s .o (.c [0,6,7,8,10,11] .o .o))))))) (.s (.s .o (.cl (.s .o .o) .o)) (.s .o (.s .o .o))))))))
def f262j0 (D : Dyn) (n : Nat) := (⟨_, by conv => rhs; reduce⟩ : {g // some g = prtF (s262 D n) D n 262 Tryz.f262 h262 [] 0}).1
attribute [local irreducible] f262j0
def f262j1 (D : Dyn) (n : Nat) := (⟨_, by conv => rhs; reduce⟩ : {g // some g = prtF (s262 D n) D n 262 Tryz.f262 h262 [f262j0 D n] 1}).1
attribute [local irreducible] f262j1
def f262 (D : Dyn) (n : Nat) := (⟨_, by conv => rhs; reduce⟩ : {g // g = fun vs H => funS (s262 D n) D n 262 Tryz.f262 h262 [f262j0 D n, f262j1 D n] vs H}).1
theorem f262_eq (D : Dyn) (n : Nat) : f262 D n = funKp (s262 D n) D n 262 Tryz.f262 (ms h262) := by kernel_rfl
theorem f262_ok {D : Dyn} (hD : DP D) (n : Nat) : FP 262 (f262 D n) := fun_okP X_ok hD (SP.cons (f205_ok hD n) (SP.cons (f206_ok hD n) (SP.cons (f208_ok hD n) (SP.cons (f264_ok hD n) (SP.nil))))) Tryz.func262 (by kernel_rfl) (by kernel_rfl) (f262_eq D n)
attribute [local irreducible] f262

def s187 (D : Dyn) (n : Nat) : Tb := ⟨X, [(261, f261 D n), (260, f260 D n), (265, f265 D n)]⟩
def h187 : Hint := (.s .o (.s (.b [9,511] .o) (.s (.s .o (.cl (.s .o (.s (.s .o (.cl (.s .o .o) .o)) (.s (.b [3,6,4,15] .o) (.s .o .o)))) .o)) (.s .o (.s .o (.s .o (.s (.c [5,31,10,767] (.l [0,1,2,3,4,9,5,6,7,8,10,11] .o) .o) (.s (.s .o (.cl (.s .o .o) .o)) (.s .o .o)))))))))
def f187 (D : Dyn) (n : Nat) := (⟨_, by conv => rhs; reduce⟩ : {g // g = fun vs H => funS (s187 D n) D n 187 Tryz.f187 h187 [] vs H}).1
theorem f187_eq (D : Dyn) (n : Nat) : f187 D n = funKp (s187 D n) D n 187 Tryz.f187 (ms h187) := by kernel_rfl
theorem f187_ok {D : Dyn} (hD : DP D) (n : Nat) : FP 187 (f187 D n) := fun_okP X_ok hD (SP.cons (f261_ok hD n) (SP.cons (f260_ok hD n) (SP.cons (f265_ok hD n) (SP.nil)))) Tryz.func187 (by kernel_rfl) (by kernel_rfl) (f187_eq D n)
attribute [local irreducible] f187

def s269 (D : Dyn) (n : Nat) : Tb := ⟨X, []⟩
def h269 : Hint := (.s .o (.s .o (.s .o (.s (.s .o (.cl (.s .o .o) .o)) (.s .o (.s (.s .o (.cl (.s .o .o) .o)) (.s (.s .o (.cl (.s .o (.s .o (.s (.b [8,255] .o) (.s .o .o)))) .o)) (.s .o (.s (.s .o (.cl (.s (.b [8,255] .o) (.s .o (.s .o .o))) .o)) (.s .o (.s .o (.s .o .o))))))))))))
def f269 (D : Dyn) (n : Nat) := (⟨_, by conv => rhs; reduce⟩ : {g // g = fun vs H => funS (s269 D n) D n 269 Tryz.f269 h269 [] vs H}).1
theorem f269_eq (D : Dyn) (n : Nat) : f269 D n = funKp (s269 D n) D n 269 Tryz.f269 (ms h269) := by kernel_rfl
theorem f269_ok {D : Dyn} (hD : DP D) (n : Nat) : FP 269 (f269 D n) := fun_okP X_ok hD (SP.nil) Tryz.func269 (by kernel_rfl) (by kernel_rfl) (f269_eq D n)
def m269 (D : Dyn) (n : Nat) (vs : List AV) (H : AH) : Option (AV × AH) := insKp (f269 D n) vs H
theorem m269_ok {D : Dyn} (hD : DP D) (n : Nat) : FP 269 (m269 D n) := insKp_ok (by kernel_rfl) (f269_ok hD n)
attribute [local irreducible] f269 m269

def s189 (D : Dyn) (n : Nat) : Tb := ⟨X, [(266, f266 D n), (267, f267 D n), (268, f268 D n), (208, f208 D n), (269, m269 D n)]⟩
def h189 : Hint := (.s .o (.s (.s .o (.cl (.s .o .o) .o)) (.s (.c [2,3,5,31,8,255] (.l [0,1,3,4,7,2,5,6,8] .o) .o) (.s .o (.s (.s .o (.cl (.s .o (.s .o .o)) .o)) (.s .o (.s .o (.s .o .o))))))))
def f189 (D : Dyn) (n : Nat) := (⟨_, by conv => rhs; reduce⟩ : {g // g = fun vs H => funS (s189 D n) D n 189 Tryz.f189 h189 [] vs H}).1
theorem f189_eq (D : Dyn) (n : Nat) : f189 D n = funKp (s189 D n) D n 189 Tryz.f189 (ms h189) := by kernel_rfl
theorem f189_ok {D : Dyn} (hD : DP D) (n : Nat) : FP 189 (f189 D n) := fun_okP X_ok hD (SP.cons (f266_ok hD n) (SP.cons (f267_ok hD n) (SP.cons (f268_ok hD n) (SP.cons (f208_ok hD n) (SP.cons (m269_ok hD n) (SP.nil)))))) Tryz.func189 (by kernel_rfl) (by kernel_rfl) (f189_eq D n)
attribute [local irreducible] f189

def s188 (D : Dyn) (n : Nat) : Tb := ⟨X, [(189, f189 D n)]⟩
def h188 : Hint := (.s .o (.s .o .o))
def f188 (D : Dyn) (n : Nat) := (⟨_, by conv => rhs; reduce⟩ : {g // g = fun vs H => funS (s188 D n) D n 188 Tryz.f188 h188 [] vs H}).1
theorem f188_eq (D : Dyn) (n : Nat) : f188 D n = funKp (s188 D n) D n 188 Tryz.f188 (ms h188) := by kernel_rfl
theorem f188_ok {D : Dyn} (hD : DP D) (n : Nat) : FP 188 (f188 D n) := fun_okP X_ok hD (SP.cons (f189_ok hD n) (SP.nil)) Tryz.func188 (by kernel_rfl) (by kernel_rfl) (f188_eq D n)
attribute [local irreducible] f188

def s117 (D : Dyn) (n : Nat) : Tb := ⟨X, [(186, f186 D n), (187, f187 D n)]⟩
def h117 : Hint := (.s .o (.s (.s .o (.cl (.s .o .o) .o)) (.s (.s .o (.cl (.s .o .o) .o)) (.s .o .o))))
def f117 (D : Dyn) (n : Nat) := (⟨_, by conv => rhs; reduce⟩ : {g // g = fun vs H => funS (s117 D n) D n 117 Tryz.f117 h117 [] vs H}).1
theorem f117_eq (D : Dyn) (n : Nat) : f117 D n = funKp (s117 D n) D n 117 Tryz.f117 (ms h117) := by kernel_rfl
theorem f117_ok {D : Dyn} (hD : DP D) (n : Nat) : FP 117 (f117 D n) := fun_okP X_ok hD (SP.cons (f186_ok hD n) (SP.cons (f187_ok hD n) (SP.nil))) Tryz.func117 (by kernel_rfl) (by kernel_rfl) (f117_eq D n)
attribute [local irreducible] f117

def s56 (D : Dyn) (n : Nat) : Tb := ⟨X, [(117, f117 D n), (54, f54 D n)]⟩
def h56 : Hint := (.s .o .pc)
def f56 (D : Dyn) (n : Nat) := (⟨_, by conv => rhs; reduce⟩ : {g // g = fun vs H => funS (s56 D n) D n 56 Tryz.f56 h56 [] vs H}).1
theorem f56_eq (D : Dyn) (n : Nat) : f56 D n = funKp (s56 D n) D n 56 Tryz.f56 (ms h56) := by kernel_rfl
theorem f56_ok {D : Dyn} (hD : DP D) (n : Nat) : FP 56 (f56 D n) := fun_okP X_ok hD (SP.cons (f117_ok hD n) (SP.cons (f54_ok hD n) (SP.nil))) Tryz.func56 (by kernel_rfl) (by kernel_rfl) (f56_eq D n)
attribute [local irreducible] f56

def s44 (D : Dyn) (n : Nat) : Tb := ⟨X, [(113, f113 D n), (54, f54 D n), (56, f56 D n)]⟩
def h44 : Hint := (.s .o (.s .o (.s .pc .pc)))
def f44 (D : Dyn) (n : Nat) := (⟨_, by conv => rhs; reduce⟩ : {g // g = fun vs H => funS (s44 D n) D n 44 Tryz.f44 h44 [] vs H}).1
theorem f44_eq (D : Dyn) (n : Nat) : f44 D n = funKp (s44 D n) D n 44 Tryz.f44 (ms h44) := by kernel_rfl
theorem f44_ok {D : Dyn} (hD : DP D) (n : Nat) : FP 44 (f44 D n) := fun_okP X_ok hD (SP.cons (f113_ok hD n) (SP.cons (f54_ok hD n) (SP.cons (f56_ok hD n) (SP.nil)))) Tryz.func44 (by kernel_rfl) (by kernel_rfl) (f44_eq D n)
attribute [local irreducible] f44

def s116 (D : Dyn) (n : Nat) : Tb := ⟨X, [(84, f84 D n), (139, f139 D n), (175, f175 D n)]⟩
def h116 : Hint := (.s .o (.s (.s .o (.cl (.s .o .o) .o)) (.s .o (.s (.s .o (.b [1,4] (.l [0,4,13,14] (.s .o (.s (.cr .o .o) (.s (.b0 (.s .o .o)) .o)))))) (.s .o .o)))))
def f116l0 (D : Dyn) (n : Nat) := (⟨_, by conv => rhs; reduce⟩ : {g // some g = prtF (s116 D n) D n 116 Tryz.f116 h116 [] 0}).1
attribute [local irreducible] f116l0
def f116b1 (D : Dyn) (n : Nat) := (⟨_, by conv => rhs; reduce⟩ : {g // some g = prtF (s116 D n) D n 116 Tryz.f116 h116 [f116l0 D n] 1}).1
attribute [local irreducible] f116b1
def f116 (D : Dyn) (n : Nat) := (⟨_, by conv => rhs; reduce⟩ : {g // g = fun vs H => funS (s116 D n) D n 116 Tryz.f116 h116 [f116l0 D n, f116b1 D n] vs H}).1
theorem f116_eq (D : Dyn) (n : Nat) : f116 D n = funKp (s116 D n) D n 116 Tryz.f116 (ms h116) := by kernel_rfl
theorem f116_ok {D : Dyn} (hD : DP D) (n : Nat) : FP 116 (f116 D n) := fun_okP X_ok hD (SP.cons (f84_ok hD n) (SP.cons (f139_ok hD n) (SP.cons (f175_ok hD n) (SP.nil)))) Tryz.func116 (by kernel_rfl) (by kernel_rfl) (f116_eq D n)
attribute [local irreducible] f116

def s55 (D : Dyn) (n : Nat) : Tb := ⟨X, [(116, f116 D n), (54, f54 D n), (106, f106 D n), (56, f56 D n)]⟩
def h55 : Hint := (.s .o (.s .o (.s .pc (.c [3,6,5,31] (.l [0,1,2,4,3,5] .o) .o))))
def f55 (D : Dyn) (n : Nat) := (⟨_, by conv => rhs; reduce⟩ : {g // g = fun vs H => funS (s55 D n) D n 55 Tryz.f55 h55 [] vs H}).1
theorem f55_eq (D : Dyn) (n : Nat) : f55 D n = funKp (s55 D n) D n 55 Tryz.f55 (ms h55) := by kernel_rfl
theorem f55_ok {D : Dyn} (hD : DP D) (n : Nat) : FP 55 (f55 D n) := fun_okP X_ok hD (SP.cons (f116_ok hD n) (SP.cons (f54_ok hD n) (SP.cons (f106_ok hD n) (SP.cons (f56_ok hD n) (SP.nil))))) Tryz.func55 (by kernel_rfl) (by kernel_rfl) (f55_eq D n)
attribute [local irreducible] f55

def s57 (D : Dyn) (n : Nat) : Tb := ⟨X, []⟩
def h57 : Hint := (.s .o (.s .o .o))
def f57 (D : Dyn) (n : Nat) := (⟨_, by conv => rhs; reduce⟩ : {g // g = fun vs H => funS (s57 D n) D n 57 Tryz.f57 h57 [] vs H}).1
theorem f57_eq (D : Dyn) (n : Nat) : f57 D n = funKp (s57 D n) D n 57 Tryz.f57 (ms h57) := by kernel_rfl
theorem f57_ok {D : Dyn} (hD : DP D) (n : Nat) : FP 57 (f57 D n) := fun_okP X_ok hD (SP.nil) Tryz.func57 (by kernel_rfl) (by kernel_rfl) (f57_eq D n)
attribute [local irreducible] f57

def s82 (D : Dyn) (n : Nat) : Tb := ⟨X, [(76, f76 D n), (38, f38 D n), (52, f52 D n), (54, f54 D n), (44, f44 D n), (55, f55 D n), (57, f57 D n), (56, f56 D n)]⟩
def h82 : Hint := (.s .o (.s (.s .pc (.s .o (.c [0,1] .pc .o))) (.s .o (.s .pc (.s .pc (.s .pc (.s (.b [1,0,3,2,4,15] .o) (.s .o .o))))))))
def f82j0 (D : Dyn) (n : Nat) := (⟨_, by conv => rhs; reduce⟩ : {g // some g = prtF (s82 D n) D n 82 Tryz.f82 h82 [] 0}).1
attribute [local irreducible] f82j0
def f82 (D : Dyn) (n : Nat) := (⟨_, by conv => rhs; reduce⟩ : {g // g = fun vs H => funS (s82 D n) D n 82 Tryz.f82 h82 [f82j0 D n] vs H}).1
theorem f82_eq (D : Dyn) (n : Nat) : f82 D n = funKp (s82 D n) D n 82 Tryz.f82 (ms h82) := by kernel_rfl
theorem f82_ok {D : Dyn} (hD : DP D) (n : Nat) : FP 82 (f82 D n) := fun_okP X_ok hD (SP.cons (f76_ok hD n) (SP.cons (f38_ok hD n) (SP.cons (f52_ok hD n) (SP.cons (f54_ok hD n) (SP.cons (f44_ok hD n) (SP.cons (f55_ok hD n) (SP.cons (f57_ok hD n) (SP.cons (f56_ok hD n) (SP.nil))))))))) Tryz.func82 (by kernel_rfl) (by kernel_rfl) (f82_eq D n)
attribute [local irreducible] f82

def s19 (D : Dyn) (n : Nat) : Tb := ⟨X, [(42, f42 D n)]⟩
def h19 : Hint := (.s .o (.s .o (.s .o .o)))
def f19 (D : Dyn) (n : Nat) := (⟨_, by conv => rhs; reduce⟩ : {g // g = fun vs H => funS (s19 D n) D n 19 Tryz.f19 h19 [] vs H}).1
theorem f19_eq (D : Dyn) (n : Nat) : f19 D n = funKp (s19 D n) D n 19 Tryz.f19 (ms h19) := by kernel_rfl
theorem f19_ok {D : Dyn} (hD : DP D) (n : Nat) : FP 19 (f19 D n) := fun_okP X_ok hD (SP.cons (f42_ok hD n) (SP.nil)) Tryz.func19 (by kernel_rfl) (by kernel_rfl) (f19_eq D n)
attribute [local irreducible] f19

def s163 (D : Dyn) (n : Nat) : Tb := ⟨X, []⟩
def h163 : Hint := (.s .o (.s .o .o))
def f163 (D : Dyn) (n : Nat) := (⟨_, by conv => rhs; reduce⟩ : {g // g = fun vs H => funS (s163 D n) D n 163 Tryz.f163 h163 [] vs H}).1
theorem f163_eq (D : Dyn) (n : Nat) : f163 D n = funKp (s163 D n) D n 163 Tryz.f163 (ms h163) := by kernel_rfl
theorem f163_ok {D : Dyn} (hD : DP D) (n : Nat) : FP 163 (f163 D n) := fun_okP X_ok hD (SP.nil) Tryz.func163 (by kernel_rfl) (by kernel_rfl) (f163_eq D n)
attribute [local irreducible] f163

def s301 (D : Dyn) (n : Nat) : Tb := ⟨X, []⟩
def h301 : Hint := (.s .o (.s .o .o))
def f301 (D : Dyn) (n : Nat) := (⟨_, by conv => rhs; reduce⟩ : {g // g = fun vs H => funS (s301 D n) D n 301 Tryz.f301 h301 [] vs H}).1
theorem f301_eq (D : Dyn) (n : Nat) : f301 D n = funKp (s301 D n) D n 301 Tryz.f301 (ms h301) := by kernel_rfl
theorem f301_ok {D : Dyn} (hD : DP D) (n : Nat) : FP 301 (f301 D n) := fun_okP X_ok hD (SP.nil) Tryz.func301 (by kernel_rfl) (by kernel_rfl) (f301_eq D n)
attribute [local irreducible] f301

def s239 (D : Dyn) (n : Nat) : Tb := ⟨X, [(301, f301 D n)]⟩
def h239 : Hint := (.s .o (.s (.s .o (.cl (.s .o .o) .o)) (.s (.s .o (.cl (.s .o .o) .o)) (.s .o .o))))
def f239 (D : Dyn) (n : Nat) := (⟨_, by conv => rhs; reduce⟩ : {g // g = fun vs H => funS (s239 D n) D n 239 Tryz.f239 h239 [] vs H}).1
theorem f239_eq (D : Dyn) (n : Nat) : f239 D n = funKp (s239 D n) D n 239 Tryz.f239 (ms h239) := by kernel_rfl
theorem f239_ok {D : Dyn} (hD : DP D) (n : Nat) : FP 239 (f239 D n) := fun_okP X_ok hD (SP.cons (f301_ok hD n) (SP.nil)) Tryz.func239 (by kernel_rfl) (by kernel_rfl) (f239_eq D n)
attribute [local irreducible] f239

def s164 (D : Dyn) (n : Nat) : Tb := ⟨X, [(239, f239 D n)]⟩
def h164 : Hint := (.s .o (.s .o (.s (.s .o (.c [0,10,12] .o .o)) (.s (.s .o (.cl (.s .o .o) .o)) (.s .o .o)))))
def f164j0 (D : Dyn) (n : Nat) := (⟨_, by conv => rhs; reduce⟩ : {g // some g = prtF (s164 D n) D n 164 Tryz.f164 h164 [] 0}).1
attribute [local irreducible] f164j0
def f164 (D : Dyn) (n : Nat) := (⟨_, by conv => rhs; reduce⟩ : {g // g = fun vs H => funS (s164 D n) D n 164 Tryz.f164 h164 [f164j0 D n] vs H}).1
theorem f164_eq (D : Dyn) (n : Nat) : f164 D n = funKp (s164 D n) D n 164 Tryz.f164 (ms h164) := by kernel_rfl
theorem f164_ok {D : Dyn} (hD : DP D) (n : Nat) : FP 164 (f164 D n) := fun_okP X_ok hD (SP.cons (f239_ok hD n) (SP.nil)) Tryz.func164 (by kernel_rfl) (by kernel_rfl) (f164_eq D n)
attribute [local irreducible] f164

def s102 (D : Dyn) (n : Nat) : Tb := ⟨X, [(163, f163 D n), (164, f164 D n)]⟩
def h102 : Hint := (.s .o (.s (.s .o (.cl (.s .o .o) .o)) (.s (.s .o (.cl (.s .o .o) .o)) (.s .o (.s (.b [8,254,11,2047] .o) (.s .o (.s .o .o)))))))
def f102 (D : Dyn) (n : Nat) := (⟨_, by conv => rhs; reduce⟩ : {g // g = fun vs H => funS (s102 D n) D n 102 Tryz.f102 h102 [] vs H}).1
theorem f102_eq (D : Dyn) (n : Nat) : f102 D n = funKp (s102 D n) D n 102 Tryz.f102 (ms h102) := by kernel_rfl
theorem f102_ok {D : Dyn} (hD : DP D) (n : Nat) : FP 102 (f102 D n) := fun_okP X_ok hD (SP.cons (f163_ok hD n) (SP.cons (f164_ok hD n) (SP.nil))) Tryz.func102 (by kernel_rfl) (by kernel_rfl) (f102_eq D n)
attribute [local irreducible] f102

def s29 (D : Dyn) (n : Nat) : Tb := ⟨X, [(80, f80 D n), (98, f98 D n), (99, f99 D n), (100, f100 D n), (101, f101 D n), (19, f19 D n), (102, f102 D n)]⟩
def h29 : Hint := (.s .o (.s .o (.s (.s .o (.cl (.s .o .o) .o)) (.s .o (.s (.s .o (.cl (.s .o .o) .o)) (.s .o (.s .o (.s .o .o))))))))
def f29 (D : Dyn) (n : Nat) := (⟨_, by conv => rhs; reduce⟩ : {g // g = fun vs H => funS (s29 D n) D n 29 Tryz.f29 h29 [] vs H}).1
theorem f29_eq (D : Dyn) (n : Nat) : f29 D n = funKp (s29 D n) D n 29 Tryz.f29 (ms h29) := by kernel_rfl
theorem f29_ok {D : Dyn} (hD : DP D) (n : Nat) : FP 29 (f29 D n) := fun_okP X_ok hD (SP.cons (f80_ok hD n) (SP.cons (f98_ok hD n) (SP.cons (f99_ok hD n) (SP.cons (f100_ok hD n) (SP.cons (f101_ok hD n) (SP.cons (f19_ok hD n) (SP.cons (f102_ok hD n) (SP.nil)))))))) Tryz.func29 (by kernel_rfl) (by kernel_rfl) (f29_eq D n)
attribute [local irreducible] f29

def s49 (D : Dyn) (n : Nat) : Tb := ⟨X, [(111, f111 D n), (105, f105 D n)]⟩
def h49 : Hint := (.s .o (.s .o (.s (.s .o (.cl (.s .o .o) .o)) (.s (.s .o (.cl (.s .o .o) .o)) (.s .o (.s .o (.s (.s .o (.cl (.s .o .o) .o)) (.s .o (.s .o .o)))))))))
def f49 (D : Dyn) (n : Nat) := (⟨_, by conv => rhs; reduce⟩ : {g // g = fun vs H => funS (s49 D n) D n 49 Tryz.f49 h49 [] vs H}).1
theorem f49_eq (D : Dyn) (n : Nat) : f49 D n = funKp (s49 D n) D n 49 Tryz.f49 (ms h49) := by kernel_rfl
theorem f49_ok {D : Dyn} (hD : DP D) (n : Nat) : FP 49 (f49 D n) := fun_okP X_ok hD (SP.cons (f111_ok hD n) (SP.cons (f105_ok hD n) (SP.nil))) Tryz.func49 (by kernel_rfl) (by kernel_rfl) (f49_eq D n)
attribute [local irreducible] f49

def s51 (D : Dyn) (n : Nat) : Tb := ⟨X, [(47, f47 D n), (66, f66 D n), (38, f38 D n)]⟩
def h51 : Hint := (.s .o (.s .pc (.s .pc (.s .o (.c [0] .pc .o)))))
def f51j0 (D : Dyn) (n : Nat) := (⟨_, by conv => rhs; reduce⟩ : {g // some g = prtF (s51 D n) D n 51 Tryz.f51 h51 [] 0}).1
attribute [local irreducible] f51j0
def f51 (D : Dyn) (n : Nat) := (⟨_, by conv => rhs; reduce⟩ : {g // g = fun vs H => funS (s51 D n) D n 51 Tryz.f51 h51 [f51j0 D n] vs H}).1
theorem f51_eq (D : Dyn) (n : Nat) : f51 D n = funKp (s51 D n) D n 51 Tryz.f51 (ms h51) := by kernel_rfl
theorem f51_ok {D : Dyn} (hD : DP D) (n : Nat) : FP 51 (f51 D n) := fun_okP X_ok hD (SP.cons (f47_ok hD n) (SP.cons (f66_ok hD n) (SP.cons (f38_ok hD n) (SP.nil)))) Tryz.func51 (by kernel_rfl) (by kernel_rfl) (f51_eq D n)
attribute [local irreducible] f51

def s110 (D : Dyn) (n : Nat) : Tb := ⟨X, [(178, f178 D n), (176, f176 D n), (121, f121 D n)]⟩
def h110 : Hint := (.s .o (.s (.s .o (.cl (.s .o .o) .o)) (.s .o (.s (.s .o (.b [1,2,4] (.l [0,0,2,4,16,17] (.s .o (.s (.cr .o .o) (.s (.b0 (.s .o (.s .o (.s .o (.cl (.s .o .o) .o))))) .o)))))) (.s .o .o)))))
def f110l0 (D : Dyn) (n : Nat) := (⟨_, by conv => rhs; reduce⟩ : {g // some g = prtF (s110 D n) D n 110 Tryz.f110 h110 [] 0}).1
attribute [local irreducible] f110l0
def f110b1 (D : Dyn) (n : Nat) := (⟨_, by conv => rhs; reduce⟩ : {g // some g = prtF (s110 D n) D n 110 Tryz.f110 h110 [f110l0 D n] 1}).1
attribute [local irreducible] f110b1
def f110 (D : Dyn) (n : Nat) := (⟨_, by conv => rhs; reduce⟩ : {g // g = fun vs H => funS (s110 D n) D n 110 Tryz.f110 h110 [f110l0 D n, f110b1 D n] vs H}).1
theorem f110_eq (D : Dyn) (n : Nat) : f110 D n = funKp (s110 D n) D n 110 Tryz.f110 (ms h110) := by kernel_rfl
theorem f110_ok {D : Dyn} (hD : DP D) (n : Nat) : FP 110 (f110 D n) := fun_okP X_ok hD (SP.cons (f178_ok hD n) (SP.cons (f176_ok hD n) (SP.cons (f121_ok hD n) (SP.nil)))) Tryz.func110 (by kernel_rfl) (by kernel_rfl) (f110_eq D n)
attribute [local irreducible] f110

def s41 (D : Dyn) (n : Nat) : Tb := ⟨X, [(76, f76 D n), (38, f38 D n), (110, f110 D n), (54, f54 D n)]⟩
def h41 : Hint := (.s .o (.s .pc (.s (.s .o (.c [0,2,3] .pc .o)) (.s .o (.s .pc (.s .o .o))))))
def f41j0 (D : Dyn) (n : Nat) := (⟨_, by conv => rhs; reduce⟩ : {g // some g = prtF (s41 D n) D n 41 Tryz.f41 h41 [] 0}).1
attribute [local irreducible] f41j0
def f41 (D : Dyn) (n : Nat) := (⟨_, by conv => rhs; reduce⟩ : {g // g = fun vs H => funS (s41 D n) D n 41 Tryz.f41 h41 [f41j0 D n] vs H}).1
theorem f41_eq (D : Dyn) (n : Nat) : f41 D n = funKp (s41 D n) D n 41 Tryz.f41 (ms h41) := by kernel_rfl
theorem f41_ok {D : Dyn} (hD : DP D) (n : Nat) : FP 41 (f41 D n) := fun_okP X_ok hD (SP.cons (f76_ok hD n) (SP.cons (f38_ok hD n) (SP.cons (f110_ok hD n) (SP.cons (f54_ok hD n) (SP.nil))))) Tryz.func41 (by kernel_rfl) (by kernel_rfl) (f41_eq D n)
attribute [local irreducible] f41

def s53 (D : Dyn) (n : Nat) : Tb := ⟨X, [(106, f106 D n), (115, f115 D n), (54, f54 D n)]⟩
def h53 : Hint := (.s .o (.s .o (.s .o (.b0 (.l [3,1,3,4] (.b0 (.s (.b [3,0,4,15] .o) (.s .pc (.s (.s .o (.b [2,1,3,5,6] (.l [1,1,3,5,6,24,25,26] (.s .o (.s (.cr .o .o) (.s (.b0 (.s .o (.s .o (.s .o (.c [0,1,3,5,6,24,25,26] .o (.s .o (.cl (.s .o .o) .o))))))) .o)))))) (.s (.s .o (.cl (.s .o .o) .o)) .o))))))))))
def f53j0 (D : Dyn) (n : Nat) := (⟨_, by conv => rhs; reduce⟩ : {g // some g = prtF (s53 D n) D n 53 Tryz.f53 h53 [] 0}).1
attribute [local irreducible] f53j0
def f53l1 (D : Dyn) (n : Nat) := (⟨_, by conv => rhs; reduce⟩ : {g // some g = prtF (s53 D n) D n 53 Tryz.f53 h53 [f53j0 D n] 1}).1
attribute [local irreducible] f53l1
def f53b2 (D : Dyn) (n : Nat) := (⟨_, by conv => rhs; reduce⟩ : {g // some g = prtF (s53 D n) D n 53 Tryz.f53 h53 [f53j0 D n, f53l1 D n] 2}).1
attribute [local irreducible] f53b2
def f53l3 (D : Dyn) (n : Nat) := (⟨_, by conv => rhs; reduce⟩ : {g // some g = prtF (s53 D n) D n 53 Tryz.f53 h53 [f53j0 D n, f53l1 D n, f53b2 D n] 3}).1
attribute [local irreducible] f53l3
def f53 (D : Dyn) (n : Nat) := (⟨_, by conv => rhs; reduce⟩ : {g // g = fun vs H => funS (s53 D n) D n 53 Tryz.f53 h53 [f53j0 D n, f53l1 D n, f53b2 D n, f53l3 D n] vs H}).1
theorem f53_eq (D : Dyn) (n : Nat) : f53 D n = funKp (s53 D n) D n 53 Tryz.f53 (ms h53) := by kernel_rfl
theorem f53_ok {D : Dyn} (hD : DP D) (n : Nat) : FP 53 (f53 D n) := fun_okP X_ok hD (SP.cons (f106_ok hD n) (SP.cons (f115_ok hD n) (SP.cons (f54_ok hD n) (SP.nil)))) Tryz.func53 (by kernel_rfl) (by kernel_rfl) (f53_eq D n)
attribute [local irreducible] f53

def s118 (D : Dyn) (n : Nat) : Tb := ⟨X, [(190, f190 D n), (191, f191 D n), (192, f192 D n), (193, f193 D n), (195, f195 D n), (196, f196 D n), (117, f117 D n)]⟩
def f118l0 (D : Dyn) (n : Nat) (vs : List AV) (H : AH) : Rs :=
  hd vs fun x0_2 vs => hd vs fun x1_2 vs => hd vs fun x3_2 vs => hd vs fun x6_2 vs => hd vs fun x10_2 vs => hd vs fun x12 vs => hd vs fun x14 vs => 
  bV (bInt .lss x14 (.int .i64 (.ofNat 256))) fun x42 => 
  jn (wnt x42 true (bV (ixArr 256 1 x10_2 x14) fun x45 => 
  bV (ld1p x45 H) fun x46 => 
  some (.norm [x46], H)) (some (.norm [undefA], H))) fun vs H => hd vs fun x46_2 vs => 
  bV (pk3 (some x42) (some x46_2) (some (.bool false))) fun x47 => 
  cnd x47 (bV (bInt .add x14 (.int .i64 (.ofNat 1))) fun x49 => 
  some (.norm [x0_2, x1_2, x3_2, x6_2, x10_2, x12, x49], H))
  (some (.exit 0 [x0_2, x1_2, x3_2, x6_2, x12, x14], H))
def f118b1 (D : Dyn) (n : Nat) (vs : List AV) (H : AH) : Rs :=
  hd vs fun x0_3 vs => hd vs fun x1_3 vs => hd vs fun x3_3 vs => hd vs fun x6_3 vs => hd vs fun x12_2 vs => hd vs fun x14_2 vs => 
  bV (bInt .eql x14_2 (.int .i64 (.ofNat 256))) fun x51 => 
  cnd x51 (bV (some (.int .i64 (.ofNat 0))) fun x8_6 => bV (some (.int .i64 (.ofNat 3))) fun x9_6 => some (.ret (.tuple [x8_6, x9_6]), H))
  (bV (bInt .mul x12_2 (.int .i64 (.ofNat 256))) fun x53 => 
  bV (bInt .add x53 x14_2) fun x55 => 
  bV (bInt .add x55 (.int .i64 (.ofNat 1))) fun x56 => 
  bV (ld1p x6_3 H) fun x63 => 
  bR (noPan (f195 D n [x1_3, x56] H)) fun x60 H => chk (ld1p x6_3 H) x63 <| 
  bR (noPan (f196 D n [x3_3] H)) fun x62 H => chk (ld1p x6_3 H) x63 <| 
  bV (bStr .add x62 x63) fun x64 => 
  bR (noPan (f117 D n [x0_3, x60, x64] H)) fun x65 H => 
  bV (bInt .neq x65 (.int .i64 (.ofNat 0))) fun x67 => 
  cnd x67 (bV (some (.int .i64 (.ofNat 0))) fun x8_7 => bV (some x65) fun x9_7 => some (.ret (.tuple [x8_7, x9_7]), H))
  (bV (some x56) fun x8_8 => bV (some (.int .i64 (.ofNat 0))) fun x9_8 => some (.ret (.tuple [x8_8, x9_8]), H)))
def f118 (D : Dyn) (n : Nat) (vs : List AV) (H : AH) : Option (AV × AH) :=
  outR (hd vs fun x0 vs => hd vs fun x1 vs => hd vs fun x2 vs => hd vs fun x3 vs => nl vs <|
  bA (bxV 9 x2) H fun x6 H => 
  bV (cmpO .eql (eqP x0 .nilPtr)) fun x18 => 
  cnd x18 (bV (some (.int .i64 (.ofNat 0))) fun x8 => bV (some (.int .i64 (.ofNat 2))) fun x9 => some (.ret (.tuple [x8, x9]), H))
  (bR (noPan (f190 D n [x1] H)) fun x20 H => 
  bV (aun .not x20) fun x21 => 
  jn (wnt x21 false (bR (noPan (f190 D n [x3] H)) fun x24 H => 
  bV (aun .not x24) fun x25 => 
  some (.norm [x25], H)) (some (.norm [undefA], H))) fun vs H => hd vs fun x25_2 vs => 
  bV (pk3 (some x21) (some (.bool true)) (some x25_2)) fun x26 => 
  cnd x26 (bV (some (.int .i64 (.ofNat 0))) fun x8_2 => bV (some (.int .i64 (.ofNat 1))) fun x9_2 => some (.ret (.tuple [x8_2, x9_2]), H))
  (bV (ld1p x6 H) fun x27 => 
  bR (noPan (f191 D n [x27] H)) fun x28 H => 
  bV (aun .not x28) fun x29 => 
  cnd x29 (bV (some (.int .i64 (.ofNat 0))) fun x8_3 => bV (some (.int .i64 (.ofNat 56))) fun x9_3 => some (.ret (.tuple [x8_3, x9_3]), H))
  (bA (bxV 285 (.agg (rep 256 [(.bool false)]))) H fun x10 H => 
  bA (bxV 4 (.bool false)) H fun x11 H => 
  bR (stNp 1 x11 (.bool false) H) fun x9999 H => 
  bV (ld1p x6 H) fun x30 => 
  bR (noPan (f192 D n [x30] H)) fun x31 H => 
  bR (noPan (f193 D n [x0, x1, x31, (.func 194 [] [x10, x11, x6])] H)) fun x36 H => 
  bV (bInt .neq x36 (.int .i64 (.ofNat 0))) fun x38 => 
  cnd x38 (bV (some (.int .i64 (.ofNat 0))) fun x8_4 => bV (some x36) fun x9_4 => some (.ret (.tuple [x8_4, x9_4]), H))
  (bV (ld1p x11 H) fun x40 => 
  cnd x40 (bV (some (.int .i64 (.ofNat 0))) fun x8_5 => bV (some (.int .i64 (.ofNat 6))) fun x9_5 => some (.ret (.tuple [x8_5, x9_5]), H))
  (jb 0 (loopK n (f118l0 D n) [x0, x1, x3, x6, x10, x31, (.int .i64 (.ofNat 0))] H) (f118b1 D n)))))))
def h118 : Hint := (.s .o (.s (.s .o (.cl (.s .o .o) .o)) (.s (.s .o (.cl (.s .o .o) .o)) (.s (.s .o (.cl (.s .o .o) .o)) (.s .o (.s .o (.s .o (.s .o (.s (.s .o (.cl (.s .o .o) .o)) (.s (.s .o (.cl (.s .o .o) .o)) (.s .o (.s (.b [0, 1, 3, 6, 12, 14] (.l [0, 1, 3, 6, 10, 12, 14] (.s (.s .o (.cr .o .o)) (.b0 .o)))) (.s (.s .o (.cl (.s .o .o) .o)) (.s .o (.s (.s .o (.s .o (.cl (.s .o .o) .o))) (.s .o .o))))))))))))))))
theorem f118_eq (D : Dyn) (n : Nat) : f118 D n = funKp (s118 D n) D n 118 Tryz.f118 h118 := by kernel_rfl
theorem f118_ok {D : Dyn} (hD : DP D) (n : Nat) : FP 118 (f118 D n) := fun_okP X_ok hD (SP.cons (f190_ok hD n) (SP.cons (f191_ok hD n) (SP.cons (f192_ok hD n) (SP.cons (f193_ok hD n) (SP.cons (f195_ok hD n) (SP.cons (f196_ok hD n) (SP.cons (f117_ok hD n) (SP.nil)))))))) Tryz.func118 (by kernel_rfl) (by kernel_rfl) (f118_eq D n)
attribute [local irreducible] f118l0 f118b1 f118

def s119 (D : Dyn) (n : Nat) : Tb := ⟨X, [(46, f46 D n), (55, f55 D n)]⟩
def h119 : Hint := (.s .o (.s .pc (.s .o (.s (.b [5,19,7,127] .o) (.s (.s .o (.c [0,4,8] .o .o)) .pc)))))
def f119j0 (D : Dyn) (n : Nat) := (⟨_, by conv => rhs; reduce⟩ : {g // some g = prtF (s119 D n) D n 119 Tryz.f119 h119 [] 0}).1
attribute [local irreducible] f119j0
def f119 (D : Dyn) (n : Nat) := (⟨_, by conv => rhs; reduce⟩ : {g // g = fun vs H => funS (s119 D n) D n 119 Tryz.f119 h119 [f119j0 D n] vs H}).1
theorem f119_eq (D : Dyn) (n : Nat) : f119 D n = funKp (s119 D n) D n 119 Tryz.f119 (ms h119) := by kernel_rfl
theorem f119_ok {D : Dyn} (hD : DP D) (n : Nat) : FP 119 (f119 D n) := fun_okP X_ok hD (SP.cons (f46_ok hD n) (SP.cons (f55_ok hD n) (SP.nil))) Tryz.func119 (by kernel_rfl) (by kernel_rfl) (f119_eq D n)
attribute [local irreducible] f119

def s58 (D : Dyn) (n : Nat) : Tb := ⟨X, [(118, f118 D n), (54, f54 D n), (119, f119 D n)]⟩
def h58 : Hint := (.s .o (.s .o (.s .pc .pc)))
def f58 (D : Dyn) (n : Nat) := (⟨_, by conv => rhs; reduce⟩ : {g // g = fun vs H => funS (s58 D n) D n 58 Tryz.f58 h58 [] vs H}).1
theorem f58_eq (D : Dyn) (n : Nat) : f58 D n = funKp (s58 D n) D n 58 Tryz.f58 (ms h58) := by kernel_rfl
theorem f58_ok {D : Dyn} (hD : DP D) (n : Nat) : FP 58 (f58 D n) := fun_okP X_ok hD (SP.cons (f118_ok hD n) (SP.cons (f54_ok hD n) (SP.cons (f119_ok hD n) (SP.nil)))) Tryz.func58 (by kernel_rfl) (by kernel_rfl) (f58_eq D n)
attribute [local irreducible] f58

def s50 (D : Dyn) (n : Nat) : Tb := ⟨X, [(46, f46 D n), (38, f38 D n), (51, f51 D n), (41, f41 D n), (53, f53 D n), (52, f52 D n), (54, f54 D n), (44, f44 D n), (55, f55 D n), (57, f57 D n), (56, f56 D n), (58, f58 D n)]⟩
def h50 : Hint := (.s .o (.s .pc (.s (.s .o (.c [4,1,2,3,4,5,6,7] .pc .o)) (.s (.s .o (.c [3,1,2,3,4,5,6,7] .pc .o)) (.s .pc (.s .pc (.s (.s .o (.c [2,1,2,3,4,5,6,7,8] .pc .o)) (.s .o (.s (.c [3,4,8,255,13,6143] (.l [0,1,2,4,5,6,7,12,3,8,9,10,11,13,14] .o) .o) (.s .pc (.s .o (.s .pc (.s .pc (.s (.s .o (.b0 (.s .o (.c [1,1,5,6,7,9] (.c [3,6,6,63] (.l [0,1,2,5,3,4,6] .o) .o) (.s .o (.c [0,1,5,6,7,9] (.c [3,6,6,46,7,127] (.l [0,1,2,5,3,4,6,7] .o) .o) .o)))))) (.s .pc (.s .o .o))))))))))))))))
def f50j0 (D : Dyn) (n : Nat) := (⟨_, by conv => rhs; reduce⟩ : {g // some g = prtF (s50 D n) D n 50 Tryz.f50 h50 [] 0}).1
attribute [local irreducible] f50j0
def f50j1 (D : Dyn) (n : Nat) := (⟨_, by conv => rhs; reduce⟩ : {g // some g = prtF (s50 D n) D n 50 Tryz.f50 h50 [f50j0 D n] 1}).1
attribute [local irreducible] f50j1
def f50j2 (D : Dyn) (n : Nat) := (⟨_, by conv => rhs; reduce⟩ : {g // some g = prtF (s50 D n) D n 50 Tryz.f50 h50 [f50j0 D n, f50j1 D n] 2}).1
attribute [local irreducible] f50j2
def f50j3 (D : Dyn) (n : Nat) := (⟨_, by conv => rhs; reduce⟩ : {g // some g = prtF (s50 D n) D n 50 Tryz.f50 h50 [f50j0 D n, f50j1 D n, f50j2 D n] 3}).1
attribute [local irreducible] f50j3
def f50j4 (D : Dyn) (n : Nat) := (⟨_, by conv => rhs; reduce⟩ : {g // some g = prtF (s50 D n) D n 50 Tryz.f50 h50 [f50j0 D n, f50j1 D n, f50j2 D n, f50j3 D n] 4}).1
attribute [local irreducible] f50j4
def f50 (D : Dyn) (n : Nat) := (⟨_, by conv => rhs; reduce⟩ : {g // g = fun vs H => funS (s50 D n) D n 50 Tryz.f50 h50 [f50j0 D n, f50j1 D n, f50j2 D n, f50j3 D n, f50j4 D n] vs H}).1
theorem f50_eq (D : Dyn) (n : Nat) : f50 D n = funKp (s50 D n) D n 50 Tryz.f50 (ms h50) := by kernel_rfl
theorem f50_ok {D : Dyn} (hD : DP D) (n : Nat) : FP 50 (f50 D n) := fun_okP X_ok hD (SP.cons (f46_ok hD n) (SP.cons (f38_ok hD n) (SP.cons (f51_ok hD n) (SP.cons (f41_ok hD n) (SP.cons (f53_ok hD n) (SP.cons (f52_ok hD n) (SP.cons (f54_ok hD n) (SP.cons (f44_ok hD n) (SP.cons (f55_ok hD n) (SP.cons (f57_ok hD n) (SP.cons (f56_ok hD n) (SP.cons (f58_ok hD n) (SP.nil))))))))))))) Tryz.func50 (by kernel_rfl) (by kernel_rfl) (f50_eq D n)
attribute [local irreducible] f50

def s10 (D : Dyn) (n : Nat) : Tb := ⟨X, [(49, f49 D n)]⟩
def h10 : Hint := (.s .o (.s .o .o))
def f10 (D : Dyn) (n : Nat) := (⟨_, by conv => rhs; reduce⟩ : {g // g = fun vs H => funS (s10 D n) D n 10 Tryz.f10 h10 [] vs H}).1
theorem f10_eq (D : Dyn) (n : Nat) : f10 D n = funKp (s10 D n) D n 10 Tryz.f10 (ms h10) := by kernel_rfl
theorem f10_ok {D : Dyn} (hD : DP D) (n : Nat) : FP 10 (f10 D n) := fun_okP X_ok hD (SP.cons (f49_ok hD n) (SP.nil)) Tryz.func10 (by kernel_rfl) (by kernel_rfl) (f10_eq D n)
attribute [local irreducible] f10

def s165 (D : Dyn) (n : Nat) : Tb := ⟨X, []⟩
def h165 : Hint := (.s .o (.s .o .o))
def f165 (D : Dyn) (n : Nat) := (⟨_, by conv => rhs; reduce⟩ : {g // g = fun vs H => funS (s165 D n) D n 165 Tryz.f165 h165 [] vs H}).1
theorem f165_eq (D : Dyn) (n : Nat) : f165 D n = funKp (s165 D n) D n 165 Tryz.f165 (ms h165) := by kernel_rfl
theorem f165_ok {D : Dyn} (hD : DP D) (n : Nat) : FP 165 (f165 D n) := fun_okP X_ok hD (SP.nil) Tryz.func165 (by kernel_rfl) (by kernel_rfl) (f165_eq D n)
attribute [local irreducible] f165

def s312 (D : Dyn) (n : Nat) : Tb := ⟨X, []⟩
def h312 : Hint := (.s .o (.s .o .o))
def f312 (D : Dyn) (n : Nat) := (⟨_, by conv => rhs; reduce⟩ : {g // g = fun vs H => funS (s312 D n) D n 312 Tryz.f312 h312 [] vs H}).1
theorem f312_eq (D : Dyn) (n : Nat) : f312 D n = funKp (s312 D n) D n 312 Tryz.f312 (ms h312) := by kernel_rfl
theorem f312_ok {D : Dyn} (hD : DP D) (n : Nat) : FP 312 (f312 D n) := fun_okP X_ok hD (SP.nil) Tryz.func312 (by kernel_rfl) (by kernel_rfl) (f312_eq D n)
attribute [local irreducible] f312

def s252 (D : Dyn) (n : Nat) : Tb := ⟨X, [(312, f312 D n), (137, f137 D n)]⟩
def h252 : Hint := (.s .o (.s .o (.s .o (.s (.s .o (.b [1,4] (.l [0,4,26,27,28] (.s .o (.s (.cr .o .o) (.s (.b0 (.s .o (.s .o (.s .o (.s .o (.s (.s .o (.cl (.s .o .o) .o)) (.s .o (.s .o .o)))))))) .o)))))) (.s .o .o)))))
def f252l0 (D : Dyn) (n : Nat) := (⟨_, by conv => rhs; reduce⟩ : {g // some g = prtF (s252 D n) D n 252 Tryz.f252 h252 [] 0}).1
attribute [local irreducible] f252l0
def f252b1 (D : Dyn) (n : Nat) := (⟨_, by conv => rhs; reduce⟩ : {g // some g = prtF (s252 D n) D n 252 Tryz.f252 h252 [f252l0 D n] 1}).1
attribute [local irreducible] f252b1
def f252 (D : Dyn) (n : Nat) := (⟨_, by conv => rhs; reduce⟩ : {g // g = fun vs H => funS (s252 D n) D n 252 Tryz.f252 h252 [f252l0 D n, f252b1 D n] vs H}).1
theorem f252_eq (D : Dyn) (n : Nat) : f252 D n = funKp (s252 D n) D n 252 Tryz.f252 (ms h252) := by kernel_rfl
theorem f252_ok {D : Dyn} (hD : DP D) (n : Nat) : FP 252 (f252 D n) := fun_okP X_ok hD (SP.cons (f312_ok hD n) (SP.cons (f137_ok hD n) (SP.nil))) Tryz.func252 (by kernel_rfl) (by kernel_rfl) (f252_eq D n)
attribute [local irreducible] f252

def s253 (D : Dyn) (n : Nat) : Tb := ⟨X, [(162, f162 D n)]⟩
def h253 : Hint := (.s .o (.s (.s .o (.cl (.s .o .o) .o)) (.s (.s .o (.cl (.s .o .o) .o)) (.s .o (.s .o .o)))))
def f253 (D : Dyn) (n : Nat) := (⟨_, by conv => rhs; reduce⟩ : {g // g = fun vs H => funS (s253 D n) D n 253 Tryz.f253 h253 [] vs H}).1
theorem f253_eq (D : Dyn) (n : Nat) : f253 D n = funKp (s253 D n) D n 253 Tryz.f253 (ms h253) := by kernel_rfl
theorem f253_ok {D : Dyn} (hD : DP D) (n : Nat) : FP 253 (f253 D n) := fun_okP X_ok hD (SP.cons (f162_ok hD n) (SP.nil)) Tryz.func253 (by kernel_rfl) (by kernel_rfl) (f253_eq D n)
attribute [local irreducible] f253

def s171 (D : Dyn) (n : Nat) : Tb := ⟨X, [(252, f252 D n), (253, f253 D n)]⟩
def h171 : Hint := (.s .o (.s .o (.s (.s .o (.cl (.s .o .o) .o)) (.s .o .o))))
def f171 (D : Dyn) (n : Nat) := (⟨_, by conv => rhs; reduce⟩ : {g // g = fun vs H => funS (s171 D n) D n 171 Tryz.f171 h171 [] vs H}).1
theorem f171_eq (D : Dyn) (n : Nat) : f171 D n = funKp (s171 D n) D n 171 Tryz.f171 (ms h171) := by kernel_rfl
theorem f171_ok {D : Dyn} (hD : DP D) (n : Nat) : FP 171 (f171 D n) := fun_okP X_ok hD (SP.cons (f252_ok hD n) (SP.cons (f253_ok hD n) (SP.nil))) Tryz.func171 (by kernel_rfl) (by kernel_rfl) (f171_eq D n)
attribute [local irreducible] f171

def s302 (D : Dyn) (n : Nat) : Tb := ⟨X, []⟩
def h302 : Hint := (.s .o (.s (.s .o (.cl (.s .o .o) .o)) (.s .o (.s .o .o))))
def f302 (D : Dyn) (n : Nat) := (⟨_, by conv => rhs; reduce⟩ : {g // g = fun vs H => funS (s302 D n) D n 302 Tryz.f302 h302 [] vs H}).1
theorem f302_eq (D : Dyn) (n : Nat) : f302 D n = funKp (s302 D n) D n 302 Tryz.f302 (ms h302) := by kernel_rfl
theorem f302_ok {D : Dyn} (hD : DP D) (n : Nat) : FP 302 (f302 D n) := fun_okP X_ok hD (SP.nil) Tryz.func302 (by kernel_rfl) (by kernel_rfl) (f302_eq D n)
attribute [local irreducible] f302

def s350 (D : Dyn) (n : Nat) : Tb := ⟨X, []⟩
def h350 : Hint := (.s .o (.s (.s .o (.cl (.s .o .o) .o)) (.s .o .o)))
def f350 (D : Dyn) (n : Nat) := (⟨_, by conv => rhs; reduce⟩ : {g // g = fun vs H => funS (s350 D n) D n 350 Tryz.f350 h350 [] vs H}).1
theorem f350_eq (D : Dyn) (n : Nat) : f350 D n = funKp (s350 D n) D n 350 Tryz.f350 (ms h350) := by kernel_rfl
theorem f350_ok {D : Dyn} (hD : DP D) (n : Nat) : FP 350 (f350 D n) := fun_okP X_ok hD (SP.nil) Tryz.func350 (by kernel_rfl) (by kernel_rfl) (f350_eq D n)
attribute [local irreducible] f350

def s395 (D : Dyn) (n : Nat) : Tb := ⟨X, []⟩
def h395 : Hint := (.s .o .o)
def f395 (D : Dyn) (n : Nat) := (⟨_, by conv => rhs; reduce⟩ : {g // g = fun vs H => funS (s395 D n) D n 395 Tryz.f395 h395 [] vs H}).1
theorem f395_eq (D : Dyn) (n : Nat) : f395 D n = funKp (s395 D n) D n 395 Tryz.f395 (ms h395) := by kernel_rfl
theorem f395_ok {D : Dyn} (hD : DP D) (n : Nat) : FP 395 (f395 D n) := fun_okP X_ok hD (SP.nil) Tryz.func395 (by kernel_rfl) (by kernel_rfl) (f395_eq D n)
attribute [local irreducible] f395

def s378 (D : Dyn) (n : Nat) : Tb := ⟨X, [(266, f266 D n), (319, f319 D n)]⟩
def h378 : Hint := (.s .o (.s (.s .o (.cl (.s .o .o) .o)) (.s (.s .o (.cl (.s .o .o) .o)) (.s .o (.s .o (.s .o (.s .o (.s (.s .o (.c [3,1,4,5,6,7] .o .o)) (.s (.s .o (.b [2,4,5] (.l [1,1,4,5,6,7,38,39,40] (.s .o (.s (.cr .o .o) (.s (.b0 (.s .o (.s .o (.s .o (.c [0,1,4,5,6,7,38,39,40] .o .o))))) .o)))))) (.s (.s .o (.cl (.s (.b [] .o) .o) .o)) (.s .o .o)))))))))))
def f378j0 (D : Dyn) (n : Nat) := (⟨_, by conv => rhs; reduce⟩ : {g // some g = prtF (s378 D n) D n 378 Tryz.f378 h378 [] 0}).1
attribute [local irreducible] f378j0
def f378l1 (D : Dyn) (n : Nat) := (⟨_, by conv => rhs; reduce⟩ : {g // some g = prtF (s378 D n) D n 378 Tryz.f378 h378 [f378j0 D n] 1}).1
attribute [local irreducible] f378l1
def f378b2 (D : Dyn) (n : Nat) := (⟨_, by conv => rhs; reduce⟩ : {g // some g = prtF (s378 D n) D n 378 Tryz.f378 h378 [f378j0 D n, f378l1 D n] 2}).1
attribute [local irreducible] f378b2
def f378j3 (D : Dyn) (n : Nat) := (⟨_, by conv => rhs; reduce⟩ : {g // some g = prtF (s378 D n) D n 378 Tryz.f378 h378 [f378j0 D n, f378l1 D n, f378b2 D n] 3}).1
attribute [local irreducible] f378j3
def f378 (D : Dyn) (n : Nat) := (⟨_, by conv => rhs; reduce⟩ : {g // g = fun vs H => funS (s378 D n) D n 378 Tryz.f378 h378 [f378j0 D n, f378l1 D n, f378b2 D n, f378j3 D n] vs H}).1
theorem f378_eq (D : Dyn) (n : Nat) : f378 D n = funKp (s378 D n) D n 378 Tryz.f378 (ms h378) := by kernel_rfl
theorem f378_ok {D : Dyn} (hD : DP D) (n : Nat) : FP 378 (f378 D n) := fun_okP X_ok hD (SP.cons (f266_ok hD n) (SP.cons (f319_ok hD n) (SP.nil))) Tryz.func378 (by kernel_rfl) (by kernel_rfl) (f378_eq D n)
attribute [local irreducible] f378

def s399 (D : Dyn) (n : Nat) : Tb := ⟨X, []⟩
def h399 : Hint := (.s (.s (.b [] .o) (.cl .o .o)) (.s .o (.b [1] (.l [0,0,1,2,5] (.s (.s .o (.cr .o .o)) (.s (.b0 (.s (.b [11,2047] .o) (.cl .o .o))) .o))))))
def f399l0 (D : Dyn) (n : Nat) := (⟨_, by conv => rhs; reduce⟩ : {g // some g = prtF (s399 D n) D n 399 Tryz.f399 h399 [] 0}).1
attribute [local irreducible] f399l0
def f399b1 (D : Dyn) (n : Nat) := (⟨_, by conv => rhs; reduce⟩ : {g // some g = prtF (s399 D n) D n 399 Tryz.f399 h399 [f399l0 D n] 1}).1
attribute [local irreducible] f399b1
def f399 (D : Dyn) (n : Nat) := (⟨_, by conv => rhs; reduce⟩ : {g // g = fun vs H => funS (s399 D n) D n 399 Tryz.f399 h399 [f399l0 D n, f399b1 D n] vs H}).1
theorem f399_eq (D : Dyn) (n : Nat) : f399 D n = funKp (s399 D n) D n 399 Tryz.f399 (ms h399) := by kernel_rfl
theorem f399_ok {D : Dyn} (hD : DP D) (n : Nat) : FP 399 (f399 D n) := fun_okP X_ok hD (SP.nil) Tryz.func399 (by kernel_rfl) (by kernel_rfl) (f399_eq D n)
attribute [local irreducible] f399
end Go.Eng.Sh
