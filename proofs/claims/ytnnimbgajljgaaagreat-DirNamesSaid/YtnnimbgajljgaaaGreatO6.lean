/- A checked evaluator for the program, and what it tells, part 6: no condition. -/
import Derived.Test.YtnnimbgajljgaaaGreatO5
set_option linter.all false
set_option linter.unusedVariables false
set_option linter.unusedSimpArgs false
set_option maxHeartbeats 8000000
set_option maxRecDepth 20000
section
namespace Go.Eng.Sh
open Go.Nd (Ptr yF qP Kvs)
open Go.Bt
theorem uK {nd:Nd.Node}{ks:List Str}(hl:nd.leaf=false)(hk:nd.keys=ks)(key:Str):Nd.whereN nd key=y0 ks key:=by
 simp only[Nd.whereN,y0,hl,hk,Bool.not_false,Bool.true_and]
theorem gU: ∀ {n last:Nat} {p:Ptr},p∈pps last n→ ∃j,p=pp j∧last<j∧j≤last+n
 | 0,_,_,h=>by simp[pps]at h
 | n+1,last,p,h=>by
  rcases List.mem_cons.1 h with rfl | h
  ·exact⟨last+1,rfl,by omega,by omega⟩
  ·obtain⟨j,e,h1,h2⟩:=gU h
   exact⟨j,e,by omega,by omega⟩
theorem ZU: ∀(n last:Nat),(pps last n).Nodup
 | 0,_=>by simp[pps]
 | n+1,last=>by
  rw[pps,List.nodup_cons]
  refine⟨fun h=> ?_,ZU n (last+1)⟩
  obtain⟨j,e,h1,_⟩:=gU h
  have:=aH e;omega
def zKi (H0 H H':AH)(At Ac F K V:Nat)(ed:Ed)(B1 B2 B3 B4 B5 B6 d:Nat)(q:PN)(f:PN)(g g':AV)(gl:List Ptr)(last0 last:Nat)(h:Nat)(lo hi:Bd)(t:Bt.Tr h)(S:List Ptr)(p:Ptr)(u:AV)(c':Kvs):Prop:=
 ∃fes' f' gl' last' d' nd' S' G R Fr,∃t':Bt.Tr h,Ch H0 H' At Ac F fes' f' g' gl' last0 last'∧Cl H0 H' At Ac K V ed B1 B2 B3 B4 B5 B6 d'∧jO H' g' u nd'∧yZ (Qf q f') h nd' t' S'∧WX h lo hi t'∧con h t'=c'∧(0<h→YB h t≤YB h t'+1)∧gl'=gl++G∧G.length≤2*(h+1)∧
  last≤last'∧last'≤last+6*h∧d'≤d+h+1∧S'.Perm (Fr++R)∧(p::S).Perm (G++R)∧Fr.Nodup∧(∀p∈Fr,∃j,p=pp j∧last<j∧j≤last')∧(∀p nd,Qf q f p=some nd→Qf q f' p=some nd)∧ ∀B,Blk g' B→Blk g B∨H.next≤B
theorem zCI (D:Dyn)(n:Nat){H0 H:AH}{At Ac F K V:Nat}{ed:Ed}{B1 B2 B3 B4 B5 B6 d A7 A8 A10 e7:Nat}{fes:List (AV×AV)}{f:PN}{g:AV}{gl:List Ptr}{last0 last:Nat}{lu:List AV}{nd:Nd.Node}{p:Ptr}
  (ch:Ch H0 H At Ac F fes f g gl last0 last) (cl:Cl H0 H At Ac K V ed B1 B2 B3 B4 B5 B6 d) (g7:H.h.get A7=some (.cells (qW p) e7 1 false)) (g8:H.h.get A8=some (.cells [.bool false, .nilSlice, .nilSlice, .nilSlice] 111 1 false)) (g10:H.h.get A10=some (.cells lu 111 1 false))
  (hu:jO H g (.agg lu) nd) (h8:H0.next≤A8) (h8c:A8≠Ac) (h7c:A7≠Ac) (h10c:A10≠Ac) (hl:gl.length+1≤last+1000) (hb:last≤900000000):
  ∃g' H',U0 D n [.ptr B6 0, .ptr A7 0, .ptr A8 0, .ptr A10 0, .int .i64 ((0:Nat):Int)] H=some (.ret (.tuple [.agg lu, .int .i64 ((0:Nat):Int)]),H')∧Ch H0 H' At Ac F fes f g' (gl++[p]) last0 last∧Cl H0 H' At Ac K V ed B1 B2 B3 B4 B5 B6 d∧jO H' g' (.agg lu) nd∧
   Stp (fun B=>chg Ac F g B∨B=A8) H H'∧ ∀B,Blk g' B→Blk g B∨H.next≤B:=by
 obtain⟨lul,luc⟩:lu.length=4∧qO lu=true:=by
  obtain⟨_,_,a,b⟩:=hU hu.1;exact⟨a,b⟩
 obtain⟨g',H1,e1,ch1,a1⟩:=zEf D n ch p hl hb
 have np: ∀ {A:Nat} {l:List AV} {e:Nat},H.h.get A=some (.cells l e 1 false)→A≠Ac→ ¬chg Ac F g A:=fun {A l e} hg hne hc=>by
  rcases hc with e | e | e
  ·exact hne e
  ·rw[e,ch.gF]at hg;cases hg
  ·rw[ch.gg.get e]at hg;simp at hg
 have lt: ∀ {A:Nat} {l:List AV} {e:Nat},H.h.get A=some (.cells l e 1 false)→A<H.next:=fun hg=>ch.prs.ok.lt hg
 have g81:H1.h.get A8=some (.cells [.bool false, .nilSlice, .nilSlice, .nilSlice] 111 1 false):=by rw[a1.1.keep _ (lt g8) (np g8 h8c)];exact g8
 have g101:H1.h.get A10=some (.cells lu 111 1 false):=by rw[a1.1.keep _ (lt g10) (np g10 h10c)];exact g10
 have hu1:=ch.next hu a1
 have cl1:=cl.keep ch a1.1
 obtain⟨H2,e2,g82,s2,n2⟩:=qV ch1.prs.ok g81 (l':=lu) lul luc
 have e2':stN 4 (.ptr A8 0) (.agg lu) H1=some (qM,H2):=e2
 have ch2:=ch1.stb g81 s2 h8 h8c
 have nb: ∀ {A:Nat} {x:AV},Box H1 A x→(∀b,x≠ .bool b)→A≠A8:=fun {A x} hb hx e=>by
  obtain⟨_,hb⟩:=hb
  rw[e,g81]at hb;simp at hb
 have cl2:Cl H0 H2 At Ac K V ed B1 B2 B3 B4 B5 B6 d:=by
  have m: ∀ {A:Nat} {x:AV},Box H1 A x→Box H2 A x:=fun {A x} hb=>hb.mono ch1.prs.ok s2 (fun e=>by
   obtain⟨_,hb⟩:=hb
   rw[e,g81]at hb;simp at hb)
  exact⟨m cl1.bd,m cl1.bt,m cl1.be,m cl1.bk,m cl1.bf,m cl1.bc,cl1.eb,cl1.fr,cl1.n1,cl1.n2,cl1.n3,cl1.n4,cl1.n5⟩
 refine⟨g',H2, ?_,ch2,cl2,hu1.stb g81 s2,(a1.1.mono fun _ _ x=> .inl x).trans (s2.mono fun _ _ x=> .inr x),a1.2⟩
 have t00: ¬(((0:Nat):Int)≠((0:Nat):Int)):=by omega
 simp(maxSteps:=999999)(disch:=omega) only[U0,eZ,t00,cl.bc.ld,qQ g7,zIN,Option.map_some,e1,v8 g101 lul,e2',v8 g82 lul]
theorem zCJ (D:Dyn)(n:Nat){H:AH}{A8 B6 e:Nat}(x y:AV)(hk:H.ok)(g8:H.h.get A8=some (.cells [.bool false, .nilSlice, .nilSlice, .nilSlice] 111 1 false))(he:e≠0):
  ∃H',U0 D n [.ptr B6 0,x, .ptr A8 0,y, .int .i64 (e:Nat)] H=some (.ret (.tuple [.agg [.bool false, .nilSlice, .nilSlice, .nilSlice], .int .i64 (e:Nat)]),H')∧Stp (fun B=>B=A8) H H':=by
 obtain⟨H2,e2,g82,s2,n2⟩:=qV hk g8 (l':=[.bool false, .nilSlice, .nilSlice, .nilSlice]) rfl rfl
 have e2':stN 4 (.ptr A8 0) (.agg [.bool false, .nilSlice, .nilSlice, .nilSlice]) H=some (qM,H2):=e2
 refine⟨H2, ?_,s2⟩
 have t00:((e:Nat):Int)≠((0:Nat):Int):=by omega
 simp(maxSteps:=999999)(disch:=omega) only[U0,eZ,t00,ne_eq,not_false_eq_true,fF,e2',v8 g82 rfl]
theorem zHq (M n B1 B2 B3 B4 B5 B6:Nat)(x:AV)(H:AH):callV (s71 (dy (M+1)) n).S (dy (M+1)) (zCf B1 B2 B3 B4 B5 B6) [x] H=f71 (dy M) M [x, .ptr B1 0, .ptr B2 0, .ptr B3 0, .ptr B4 0, .ptr B5 0, .ptr B6 0] H:=rfl
noncomputable def zJV (D:Dyn)(n:Nat)(x3 x4 x5 x6 x7 x8 x10:AV)(H:AH):Rs:=
 bV (fAd 0 x10) fun x31=>
 bV (ld1 x31 H) fun x32=>
 jn (cnd x32 (bV (ld1 x3 H) fun x34=>
 bV (ldN 4 x10 H) fun x35=>
 bR (callV (s71 D n).S D x34 [x35] H) fun x36 H=>
 bV (qK x36 0) fun x37=>
 bV (qK x36 1) fun x38=>
 bR (stN 4 x10 x37 H) fun _ H=>
 some (.norm [x6,x7,x8,x10,x38],H))
 (bV (ldN 4 x10 H) fun x39=>
 bV (ld1 x4 H) fun x40=>
 bR (f62 D n [x39,x40] H) fun x41 H=>
 bA (bxV 111 (.agg [(.bool false), .nilSlice, .nilSlice, .nilSlice])) H fun x13 H=>
 bV (ld1 x5 H) fun x43=>
 bV (fAd 3 x10) fun x44=>
 bV (ld1 x44 H) fun x45=>
 bV (jW 3 x45 x41) fun x47=>
 bV (ldN 3 x47 H) fun x48=>
 bR (callV (s71 D n).S D x43 [x48] H) fun x49 H=>
 bV (qK x49 0) fun x50=>
 bV (qK x49 1) fun x51=>
 bR (stN 4 x13 x50 H) fun _ H=>
 bV (qN .eql x51 (.int .i64 (.ofNat 0))) fun x53=>
 jn (cnd x53 (bV (ld1 x6 H) fun x55=>
 bV (ldN 4 x10 H) fun x56=>
 bV (ldN 4 x13 H) fun x58=>
 bR (f74 D n [x55,x56,x41,x58] H) fun x59 H=>
 bV (qK x59 0) fun x60=>
 bV (qK x59 1) fun x61=>
 bR (stN 4 x10 x60 H) fun _ H=>
 some (.norm [x6,x7,x8,x10,x61],H))
 (some (.norm [x6,x7,x8,x10,x51],H))) (zEw D n))) (U0 D n)
theorem U8 (D:Dyn)(n:Nat){H0 H:AH}{At Ac F M0 K V:Nat}{ed:Ed}{B1 B2 B3 B4 B5 B6 d s:Nat}{dk cch dr:AV}{root:Ptr}{es:List (AV×AV)}{q fr:PN}{fes:List (AV×AV)}{g:AV}{gl:List Ptr}{last0 last:Nat}{nd:Nd.Node}(ti:TI H0 At M0 dk cch root es q last0 dr)(hold: ∀kv∈es,∀B,xJ kv.2 B→B<H0.next)
  (ch:Ch H0 H At Ac F fes fr g gl last0 last) (cl:Cl H0 H At Ac K V ed B1 B2 B3 B4 B5 B6 d) (hs:qT s q=some nd) (hd:d+1≤8192):
  ∃lv A7 A8 A10 H6,f71 D n [.agg (qW (pp s)), .ptr B1 0, .ptr B2 0, .ptr B3 0, .ptr B4 0, .ptr B5 0, .ptr B6 0] H=outR (zJV D n (.ptr B3 0) (.ptr B4 0) (.ptr B5 0) (.ptr B6 0) (.ptr A7 0) (.ptr A8 0) (.ptr A10 0) H6)∧
   Ch H0 H6 At Ac F fes fr g gl last0 last∧Cl H0 H6 At Ac K V ed B1 B2 B3 B4 B5 B6 (d+1)∧jO H6 g (.agg lv) nd∧(∃r,lv= .bool nd.leaf::r∧lv.length=4∧qO lv=true)∧
   H6.h.get A7=some (.cells (qW (pp s)) 65 1 false)∧H6.h.get A8=some (.cells [.bool false, .nilSlice, .nilSlice, .nilSlice] 111 1 false)∧H6.h.get A10=some (.cells lv 111 1 false)∧
   H.next≤A7∧H.next≤A8∧H.next≤A10∧A7≠A8∧A7≠A10∧A8≠A10∧Stp (fun B=>B=B1) H H6:=by
 obtain⟨H1,A7,b1,p1,g1,m1,n1⟩:=box ch.prs.ok (.cells (qW (pp s)) 65 1 false)
 obtain⟨H2,A8,b2,p2,g2,m2,n2⟩:=box p1.ok (.cells [.bool false, .nilSlice, .nilSlice, .nilSlice] 111 1 false)
 have P2:=p1.trans p2
 have ch2:=ch.step P2
 have cl2:=cl.prs ch.prs.ok P2
 obtain⟨H3,e3,cl3,ch3,s3⟩:=cl2.deeper ch2
 have ti3:=ti.prs ch3.prs
 have hmost:=zJh D n ti3
 have N1:=p1.next;have N2:=p2.next;have N3:=s3.next
 have hB1:B1<H.next:=cl.bd.lt ch.prs.ok
 have g73:H3.h.get A7=some (.cells (qW (pp s)) 65 1 false):=by rw[s3.keep _ (by omega) (by omega)];exact Prs.get p2 p1.ok g1
 have g83:H3.h.get A8=some (.cells [.bool false, .nilSlice, .nilSlice, .nilSlice] 111 1 false):=by rw[s3.keep _ (by omega) (by omega)];exact g2
 obtain⟨v,H4,e4,p4,hg4,kk,hmem⟩:=BM D n ti3 hs
 obtain⟨lv,rfl,lvl,lvc⟩:=hg4.cells
 obtain⟨H5,A10,b5,p5,g5,m5,n5⟩:=box p4.ok (.cells [.bool false, .nilSlice, .nilSlice, .nilSlice] 111 1 false)
 obtain⟨H6,e6,g6,s6,n6⟩:=qV p5.ok g5 (l':=lv) lvl lvc
 have e6':stN 4 (.ptr A10 0) (.agg lv) H5=some (qM,H6):=e6
 have N4:=p4.next;have N5:=p5.next
 have p36:Prs H3 H6:=(p4.trans p5).fresh s6 (fun B hB=>by omega)
 have ch6:=ch3.step p36
 have hg6:y8 H6 (.agg lv) nd:=(hg4.prs p5).stp s6 (fun B hB e=>by
  subst e
  have:=hg4.lt hB;omega)
 have hA6:jO H6 g (.agg lv) nd:=hg6.hand ch6 (fun B hB=>hold _ hmem B hB)
 obtain⟨r,hr1,hr2,hr3⟩:=hU hg6
 refine⟨lv,A7,A8,A10,H6, ?_,ch6,cl3.prs ch3.prs.ok p36,hA6,⟨r,hr1,hr2,hr3⟩,Prs.get p36 ch3.prs.ok g73,Prs.get p36 ch3.prs.ok g83,g6,by omega,by omega,by omega,by omega,by omega,by omega,((P2.mono fun _ _ x=>x.elim).trans s3).trans (p36.mono fun _ _ x=>x.elim)⟩
 have hd1:((d:Nat):Int)+((1:Nat):Int)=((d+1:Nat):Int):=by omega
 have hgt: ¬((8192+q.length:Nat):Int)< ((d+1:Nat):Int):=by omega
 have hav:aveq (.int .i64 ((d+1:Nat):Int)) (.int .i64 ((d+1:Nat):Int))=true:=by
  have:keq .i64 .i64=true:=by rw[kB];simp
  simp only[aveq,this,Bool.true_and,kC];simp
 have t00: ¬(((0:Nat):Int)≠((0:Nat):Int)):=by omega
 simp(maxSteps:=999999)(disch:=omega) only[f71,fC,zDO,bVs,bRs,show ∀(e:TypeId) (l:List AV),bxV e (.agg l)=some (.cells l e 1 false,fun A=> .ptr A 0)from fun _ _=>rfl,b1,b2,cl2.bd.ld,Z7,wrap_i64,Int.ofNat_eq_natCast,hd1,e3,cl3.bd.ld,cl3.bt.ld,hmost,(fun K=>j0 rfl hav: ∀K:Rs,chk (some (AV.int .i64 ((d+1:Nat):Int))) (.int .i64 ((d+1:Nat):Int)) K=K),zBD,hgt,decide_false,zCi,Bool.false_eq_true,if_false,qQ g73,zIN,Option.map_some,e4,qK,nth,b5,e6',zBA,t00]
 rfl
theorem Cl.stb {H0 H H':AH}{At Ac K V A e:Nat}{ed:Ed}{B1 B2 B3 B4 B5 B6 d:Nat}{l:List AV}(h:Cl H0 H At Ac K V ed B1 B2 B3 B4 B5 B6 d)(hk:H.ok)(gA:H.h.get A=some (.cells l e 1 false))(hl:l.length=4)(s:Stp (fun B=>B=A) H H'):Cl H0 H' At Ac K V ed B1 B2 B3 B4 B5 B6 d:=by
 have m: ∀ {B:Nat} {x:AV},Box H B x→Box H' B x:=fun {B x} hb=>hb.mono hk s (fun e=>by
  obtain⟨_,hb⟩:=hb
  rw[e,gA]at hb
  simp only[z7,AObj.cells.injEq]at hb
  rw[hb.1]at hl;simp at hl)
 exact⟨m h.bd,m h.bt,m h.be,m h.bk,m h.bf,m h.bc,h.eb,h.fr,h.n1,h.n2,h.n3,h.n4,h.n5⟩
theorem zJU {H0:AH}{At Ac F M0 K V:Nat}{ed:Ed}{B1 B2 B3 B4 B5 B6:Nat}{dk cch dr:AV}{root:Ptr}{es:List (AV×AV)}{q:PN}{last0:Nat}(ti:TI H0 At M0 dk cch root es q last0 dr)(hold: ∀kv∈es,∀B,xJ kv.2 B→B<H0.next)(hq: ∀s nd,qT s q=some nd→s≤last0)(ho:ed.ok):
  ∀(h M n:Nat),200000000+h≤M→200000000≤n→ ∀ {H:AH} {d s last:Nat} {fes:List (AV×AV)} {f:PN} {g:AV} {gl:List Ptr} {nd:Nd.Node} {t:Bt.Tr h} {S:List Ptr} {lo hi:Bd},
   Ch H0 H At Ac F fes f g gl last0 last→Cl H0 H At Ac K V ed B1 B2 B3 B4 B5 B6 d→qT s q=some nd→yZ (Qf q []) h nd t S→Gen h lo hi t→yV h t≤500→(0<h→nd.keys≠[])→zDT lo ed.key→hiB hi ed.key→d+h+1≤8192→last+6*h≤600000000→gl.length+2*(h+1)≤last+1000→
   ∃u e g' H',f71 (dy (M+1)) n [.agg (qW (pp s)), .ptr B1 0, .ptr B2 0, .ptr B3 0, .ptr B4 0, .ptr B5 0, .ptr B6 0] H=some (.tuple [u, .int .i64 ((e:Nat):Int)],H')∧Stp (fun B=>chg Ac F g B∨B=B1) H H'∧(∃l,u= .agg l∧l.length=4∧qO l=true)∧
    match ed.run (con h t)with
    | none=>e=5
    | some c'=>e=0∧zKi H0 H H' At Ac F K V ed B1 B2 B3 B4 B5 B6 d q f g g' gl last0 last h lo hi t S (pp s) u c':=by
 intro h
 induction h with
 | zero=>
  intro M n hM hn H d s last fes f g gl nd t S lo hi ch cl hs rn wg hz _ hlo hhi hd hb hgl
  obtain⟨rfl,rfl⟩:=rn
  obtain⟨lv,A7,A8,A10,H6,e6,ch6,cl6,hA6,⟨r,hr1,hr2,hr3⟩,g7,g8,g10,m7,m8,m10,n78,n710,n810,st6⟩:=U8 (dy (M+1)) n ti hold ch cl hs (by omega)
  have N0:=ch.prs.next;have hAc:=ch.ltC;have N6:=st6.next
  have hz':yX (t:Kvs)≤10000:=by simp only[yV]at hz;omega
  obtain⟨u,H7,e7,_,p7,w7⟩:=zF0 M n (by omega) ch6.prs.ok hA6.1 wg hz' ho (cl6.eb.prs ti.ok ch6.prs)
  obtain⟨lu,rfl,lul,luc⟩:=w7.1.cells
  have ch7:=ch6.step p7
  have cl7:=cl6.prs ch6.prs.ok p7
  have g107:=Prs.get p7 ch6.prs.ok g10
  obtain⟨H8,e8,g108,s8,n8⟩:=qV p7.ok g107 (l':=lu) (by omega) luc
  have e8':stN 4 (.ptr A10 0) (.agg lu) H7=some (qM,H8):=by rw[hr2]at e8;exact e8
  have cl8:=cl7.stb p7.ok g107 hr2 s8
  have hu7:jO H7 g (.agg lu) (edL ed t).1:=kS.hand ch6 (Nat.le_refl _) w7
  rw[hr1]at g107
  have ch8:=ch7.stb g107 s8 (by omega) (by omega)
  have hu8:=hu7.stb g107 s8
  have N7:=p7.next;have N8:=s8.next
  have g78:H8.h.get A7=some (.cells (qW (pp s)) 65 1 false):=by rw[s8.keep _ (by have:=ch6.prs.ok.lt g7;omega) (by omega)];exact Prs.get p7 ch6.prs.ok g7
  have g88:H8.h.get A8=some (.cells [.bool false, .nilSlice, .nilSlice, .nilSlice] 111 1 false):=by rw[s8.keep _ (by have:=ch6.prs.ok.lt g8;omega) (by omega)];exact Prs.get p7 ch6.prs.ok g8
  have S8:Stp (fun B=>chg Ac F g B∨B=B1) H H8:=⟨s8.ok,by omega,fun B hB hS=>by
   rw[s8.keep B (by omega) (by omega),p7.keep B (by omega) (fun x=>x),st6.keep B hB (fun e=>hS (.inr e))]⟩
  have t00: ¬(((0:Nat):Int)≠((0:Nat):Int)):=by omega
  have hlf:(qP (t:Kvs)).leaf=true:=rfl
  have run: ∀ {x:Option (AV×AH)} {code:Nat},(edL ed t).2=code→outR (U0 (dy (M+1)) n [.ptr B6 0, .ptr A7 0, .ptr A8 0, .ptr A10 0, .int .i64 ((code:Nat):Int)] H8)=x→f71 (dy (M+1)) n [.agg (qW (pp s)), .ptr B1 0, .ptr B2 0, .ptr B3 0, .ptr B4 0, .ptr B5 0, .ptr B6 0] H=x:=by
   intro x code hc hx
   rw[hc]at e7
   rw[e6]
   simp(maxSteps:=999999)(disch:=omega) only[zJV,eZ,qL g10,hr1,hlf,cl6.be.ld]
   simp(maxSteps:=999999)(disch:=omega) only[eZ,v8 g10 hr2,e7,qK,nth,e8']
   exact hx
  cases hr:ed.run t with
  | none=>
   have hel:edL ed t=(nd0,5):=by simp only[edL,hr]
   obtain⟨H9,e9,s9⟩:=zCJ (dy (M+1)) n (B6:=B6) (.ptr A7 0) (.ptr A10 0) ch8.prs.ok g88 (e:=5) (by decide)
   refine⟨.agg [.bool false, .nilSlice, .nilSlice, .nilSlice],5,g,H9,run (by rw[hel]) (by rw[e9];rfl),⟨s9.ok,by have:=s9.next;omega,fun B hB hS=>by rw[s9.keep B (by omega) (by omega)];exact S8.keep B hB hS⟩,⟨_,rfl,rfl,rfl⟩, ?_⟩
   simp only[con,hr]
  | some l'=>
   have hel:edL ed t=(qP l',0):=by simp only[edL,hr]
   rw[hel]at hu8
   obtain⟨g',H9,e9,ch9,cl9,hu9,s9,b9⟩:=zCI (dy (M+1)) n ch8 cl8 g78 g88 g108 hu8 (by omega) (by omega) (by omega) (by omega) (by omega) (by omega)
   obtain⟨w1,w2⟩:=Ed.leaf wg hlo hhi ho hr
   refine⟨.agg lu,0,g',H9,run (by rw[hel]) (by rw[e9];rfl),⟨s9.ok,by have:=s9.next;omega,fun B hB hS=> ?_⟩,⟨_,rfl,lul,luc⟩, ?_⟩
   ·rw[s9.keep B (by omega) (fun hx=>by
     rcases hx with hx | hx
     ·exact hS (.inl hx)
     ·omega)]
    exact S8.keep B hB hS
   ·simp only[con,hr]
    refine⟨trivial,_,_,_,_,_,_,[],[pp s],[],[],l',ch9,cl9,hu9,⟨rfl,rfl⟩,⟨w1,by simp only[yV]at hz;omega⟩,rfl,fun hh=>absurd hh (by omega),rfl,by simp,by omega,by omega,by omega,by simp,by simp,by simp,by simp,fun _ _ hp=>hp,fun B hB=> ?_⟩
    rcases b9 B hB with e | e
    ·exact .inl e
    ·exact .inr (by omega)
 | succ h ih=>
  intro M n hM hn H d s last fes f g gl nd t S lo hi ch cl hs rn wg hz hne hlo hhi hd hb hgl
  obtain⟨r1,r2,r3,r4⟩:=rn
  obtain⟨w1,w2,w3⟩:=id wg
  have hlen:=w3.len
  have hklen:=r4.len
  obtain⟨lv,A7,A8,A10,H6,e6,ch6,cl6,hA6,⟨r,hr1,hr2,hr3⟩,g7,g8,g10,m7,m8,m10,n78,n710,n810,st6⟩:=U8 (dy (M+1)) n ti hold ch cl hs (by omega)
  have N0:=ch.prs.next;have hAc:=ch.ltC;have N6:=st6.next
  have hz0:j5 t.1 t.2.length≤500:=hz
  have hsm:small nd:=wT (by
   have:Nd.size nd=yV (h+1) t:=yZ.size (Q:=Qf q []) (S:=S) ⟨r1,r2,r3,r4⟩
   rw[this];simp only[yV];omega)
  have hwN:Nd.whereN nd ed.key=y0 t.1 ed.key:=uK r1 r2 _
  have hile:y0 t.1 ed.key≤t.1.length:=vI _ _
  have hil:y0 t.1 ed.key<t.2.length:=by omega
  obtain⟨sA,sB⟩:=ZE (key:=ed.key) (ks:=t.1) (ts:=t.2) wg
  have klo:=K1 (lo:=lo) w2 hlo
  have khi:=K2 (hi:=hi) w2 hhi
  generalize hidef:y0 t.1 ed.key=i at hwN hile hil sA sB klo khi
  have htk:=zC hil
  obtain⟨pk,ndk,Sa,Si,Sb,k1,k2,k3,k4,k5,k6⟩:=r4.at htk
  obtain⟨sk,rfl,hsk⟩:=bC k2
  have hsk:qT sk q=some ndk:=by
   rcases hsk with hsk | ⟨_,hsk⟩
   ·simp[qT]at hsk
   ·exact hsk
  have wk:=KB.at w3 htk
  have kne:0<h→ndk.keys≠[]:=fun hh=>by
   cases h with
   | zero=>omega
   | succ h=>
    have:=Q4 wk
    rw[k3.2.1]
    intro e;rw[e]at this;simp at this
  obtain⟨H7,e7,p7⟩:=fP (dy (M+1)) n hn ch6.prs.ok (key:=ed.key) hA6.1.node hsm
  rw[hwN]at e7
  obtain⟨H8,A13,b8,p8,g13,m13,n13⟩:=box p7.ok (.cells [.bool false, .nilSlice, .nilSlice, .nilSlice] 111 1 false)
  have P68:=p7.trans p8
  have ch8:=ch6.step P68
  have cl8:=cl6.prs ch6.prs.ok P68
  have cl7:=cl6.prs ch6.prs.ok p7
  have hA8:=hA6.prs P68
  have g78:=Prs.get P68 ch6.prs.ok g7
  have g88:=Prs.get P68 ch6.prs.ok g8
  have g108:=Prs.get P68 ch6.prs.ok g10
  obtain⟨ks,vs0,ps,hle,j1,j2,j3⟩:=id hA8.1
  simp only[AV.agg.injEq]at hle
  obtain⟨qk,ik,ik'⟩:=uI.at (l:=nd.kids) j3.row (i:=i) (by omega)
  have hkk:nd.kids[i]'(by omega)=pp sk:=by
   rw[zC (by omega)]at k1;exact Option.some.inj k1
  rw[hkk]at ik'
  have N7:=p7.next;have N8:=p8.next
  obtain⟨M',rfl⟩: ∃M',M=M'+1:=⟨M - 1,by omega⟩
  obtain⟨u1,e1,g1,H9,e9,s9,⟨l1,rfl,l1l,l1c⟩,hout⟩:=ih M' (M'+1) (by omega) (by omega) ch8 cl8 hsk k3 wk.gen wk.sz kne klo khi (by omega) (by omega) (by omega)
  have ltA: ∀ {A:Nat} {o:AObj},H8.h.get A=some o→A<H8.next:=fun hg=>ch8.prs.ok.lt hg
  have np: ∀ {A:Nat} {l:List AV} {e:Nat},H8.h.get A=some (.cells l e 1 false)→l.length≠1→A≠Ac→ ¬(chg Ac F g A∨A=B1):=fun {A l e} hg hl hne hc=>by
   rcases hc with(e | e | e) | e
   ·exact hne e
   ·rw[e,ch8.gF]at hg;cases hg
   ·rw[ch8.gg.get e]at hg;simp at hg
   ·obtain⟨_,hb⟩:=cl8.bd
    rw[e,hb]at hg
    simp only[z7,AObj.cells.injEq]at hg
    rw[← hg.1]at hl;simp at hl
  have l10:lv.length≠1:=by omega
  have g79:H9.h.get A7=some (.cells (qW (pp s)) 65 1 false):=by rw[s9.keep _ (ltA g78) (np g78 (by simp[qW]) (by omega))];exact g78
  have g89:H9.h.get A8=some (.cells [.bool false, .nilSlice, .nilSlice, .nilSlice] 111 1 false):=by rw[s9.keep _ (ltA g88) (np g88 (by simp) (by omega))];exact g88
  have g109:H9.h.get A10=some (.cells lv 111 1 false):=by rw[s9.keep _ (ltA g108) (np g108 l10 (by omega))];exact g108
  have g139:H9.h.get A13=some (.cells [.bool false, .nilSlice, .nilSlice, .nilSlice] 111 1 false):=by rw[s9.keep _ n13 (np g13 (by simp) (by omega))];exact g13
  obtain⟨H10,e10,g1310,s10,n10⟩:=qV s9.ok g139 (l':=l1) l1l l1c
  have e10':stN 4 (.ptr A13 0) (.agg l1) H9=some (qM,H10):=e10
  have N9:=s9.next;have N10:=s10.next
  have t7:=ltA g78;have t8:=ltA g88;have t10:=ltA g108
  have a13:ch6.prs.ok.lt g7=ch6.prs.ok.lt g7:=rfl
  have u7:=ch6.prs.ok.lt g7;have u8:=ch6.prs.ok.lt g8;have u10:=ch6.prs.ok.lt g10
  have g710:H10.h.get A7=some (.cells (qW (pp s)) 65 1 false):=by rw[s10.keep _ (by omega) (by omega)];exact g79
  have g810:H10.h.get A8=some (.cells [.bool false, .nilSlice, .nilSlice, .nilSlice] 111 1 false):=by rw[s10.keep _ (by omega) (by omega)];exact g89
  have g1010:H10.h.get A10=some (.cells lv 111 1 false):=by rw[s10.keep _ (by omega) (by omega)];exact g109
  have S10:Stp (fun B=>chg Ac F g B∨B=B1) H H10:=⟨s10.ok,by omega,fun B hB hS=>by
   rw[s10.keep B (by omega) (by omega),s9.keep B (by omega) hS,P68.keep B (by omega) (fun x=>x),st6.keep B hB (fun e=>hS (.inr e))]⟩
  have hrun:=Ed.run_mid ed (A:=(t.2.take i).flatMap (con h)) (C:=con h t.2[i]) (B:=(t.2.drop (i+1)).flatMap (con h)) sA sB
  have hcon:con (h+1) t=(t.2.take i).flatMap (con h)++con h t.2[i]++(t.2.drop (i+1)).flatMap (con h):=by
   have:t.2=t.2.take i++[t.2[i]]++t.2.drop (i+1):=zG9 htk
   simp only[con]
   conv=>lhs;rw[this]
   simp only[qC,zT,List.flatMap_nil,List.append_nil]
  rw[← hcon]at hrun
  have t00: ¬(((0:Nat):Int)≠((0:Nat):Int)):=by omega
  have hps:lv=[.bool nd.leaf,ks,vs0,ps]:=hle
  have head: ∀ {x:Option (AV×AH)},outR (jn (bV (qN .eql (.int .i64 ((e1:Nat):Int)) (.int .i64 (.ofNat 0))) fun x53=>jn (cnd x53 (bV (ld1 (.ptr B6 0) H10) fun x55=>bV (ldN 4 (.ptr A10 0) H10) fun x56=>bV (ldN 4 (.ptr A13 0) H10) fun x58=>bR (f74 (dy (M'+1+1)) n [x55,x56, .int .i64 (i:Nat),x58] H10) fun x59 H=>
    bV (qK x59 0) fun x60=>bV (qK x59 1) fun x61=>bR (stN 4 (.ptr A10 0) x60 H) fun _ H=>some (.norm [.ptr B6 0, .ptr A7 0, .ptr A8 0, .ptr A10 0,x61],H)) (some (.norm [.ptr B6 0, .ptr A7 0, .ptr A8 0, .ptr A10 0, .int .i64 ((e1:Nat):Int)],H10))) (zEw (dy (M'+1+1)) n)) (U0 (dy (M'+1+1)) n))=x→
    f71 (dy (M'+1+1)) n [.agg (qW (pp s)), .ptr B1 0, .ptr B2 0, .ptr B3 0, .ptr B4 0, .ptr B5 0, .ptr B6 0] H=x:=by
   intro x hx
   rw[e6, ← hx]
   have h0:ld1 (.ptr A10 0) H6=some (.bool false):=by rw[qL g10,hps,r1];rfl
   have h3:ld1 (.ptr A10 3) H8=some ps:=by rw[qL g108,hps];rfl
   simp(maxSteps:=999999)(disch:=omega) only[zJV,eZ,h0,v8 g10 hr2,cl6.bk.ld,e7,b8,cl8.bf.ld,h3,ik,ik',zHq,e9,qK,nth,e10']
  cases hr:ed.run (con h t.2[i])with
  | none=>
   rw[hr]at hout hrun
   simp only[Option.map_none]at hrun
   have hout:e1=5:=hout
   subst hout
   obtain⟨H11,e11,s11⟩:=zCJ (dy (M'+1+1)) n (B6:=B6) (.ptr A7 0) (.ptr A10 0) s10.ok g810 (e:=5) (by decide)
   have h50: ¬((5:Nat):Int)=((0:Nat):Int):=by omega
   refine⟨.agg [.bool false, .nilSlice, .nilSlice, .nilSlice],5,g,H11,head ?_,⟨s11.ok,by have:=s11.next;omega,fun B hB hS=>by rw[s11.keep B (by omega) (by omega)];exact S10.keep B hB hS⟩,⟨_,rfl,rfl,rfl⟩, ?_⟩
   ·simp(maxSteps:=999999)(disch:=omega) only[eZ,h50,zEw,e11]
   ·rw[hrun]
  | some c1=>
   rw[hr]at hout hrun
   simp only[Option.map_some]at hrun
   obtain⟨rfl,fes1,f1,gl1,last1,d1,nd1,S1,G1,R1,Fr1,t1,ch9,cl9,hA9,rn9,wx9,con9,nk9,hgl1,hG1,hl1,hl1',hd1,pm1,pm1',nd1',fr1,more1,bg1⟩:=hout
   have ch10:=ch9.stb g139 s10 (by omega) (by omega)
   have cl10:=cl9.stb s9.ok g139 rfl s10
   have hk10:=hA9.stb g139 s10
   have hv9:jO H9 g1 (.agg lv) nd:=⟨hA8.1.stp s9 (fun B hB hc=>by
    rcases hc with(e | e | e) | e
    ·subst e;exact hA8.1.nblk ch8.gC (.inl ⟨_,_,_,_,rfl,fun _ _ e=>by cases e⟩) hB
    ·subst e;exact hA8.1.nblk ch8.gF (.inr (.inl ⟨_,_,rfl⟩)) hB
    ·exact hA8.2 B hB e
    ·obtain⟨_,hb⟩:=cl8.bd
     subst e;exact hA8.1.nblk hb (.inl ⟨_,_,_,_,rfl,fun _ _ e=>by cases e⟩) hB),fun B hB hg=>by
    rcases bg1 B hg with e | e
    ·exact hA8.2 B hB e
    ·have:=hA8.1.lt hB;omega⟩
   have hv10:=hv9.stb g139 s10
   have kne':0<h→nd1.keys≠[]:=fun hh=>by
    have hnk:=nk9 hh
    cases h with
    | zero=>omega
    | succ h=>
     have:=Q4 wk
     simp only[YB]at hnk
     rw[rn9.2.1]
     intro e;rw[e]at hnk;simp at hnk;omega
   have hG1l:gl1.length=gl.length+G1.length:=by rw[hgl1,zH]
   obtain⟨u2,H11,fes2,f2,g2,gl2,last2,nd2,t2,S2,G2,R2,e11,ch11,adv11,hu11,rn11,w11,con11,z11,k11,l11,l12,hgl2,pm2,pm2',more2,hG2⟩:=zC1 (dy (M'+1+1)) n hn ti hold hq ch10 hv10 hk10 r1 r2 r3 hklen wg (by rw[← r2];exact hne (by omega)) hz0 htk k4 k5 rn9 wx9 kne' (by omega) (by omega)
   obtain⟨l2,rfl,l2l,l2c⟩:=hu11.1.cells
   have np10: ∀ {A:Nat} {l:List AV} {e:Nat},H10.h.get A=some (.cells l e 1 false)→A≠Ac→ ¬chg Ac F g1 A:=fun {A l e} hg hne hc=>by
    rcases hc with e | e | e
    ·exact hne e
    ·rw[e,ch10.gF]at hg;cases hg
    ·rw[ch10.gg.get e]at hg;simp at hg
   have N11:=adv11.1.next
   have g711:H11.h.get A7=some (.cells (qW (pp s)) 65 1 false):=by rw[adv11.1.keep _ (by omega) (np10 g710 (by omega))];exact g710
   have g811:H11.h.get A8=some (.cells [.bool false, .nilSlice, .nilSlice, .nilSlice] 111 1 false):=by rw[adv11.1.keep _ (by omega) (np10 g810 (by omega))];exact g810
   have g1011:H11.h.get A10=some (.cells lv 111 1 false):=by rw[adv11.1.keep _ (by omega) (np10 g1010 (by omega))];exact g1010
   obtain⟨H12,e12,g1012,s12,n12⟩:=qV ch11.prs.ok g1011 (l':=l2) (by omega) l2c
   have e12':stN 4 (.ptr A10 0) (.agg l2) H11=some (qM,H12):=by rw[hr2]at e12;exact e12
   have cl11:=cl10.keep ch10 adv11.1
   have cl12:=cl11.stb ch11.prs.ok g1011 hr2 s12
   have g1011':=g1011
   rw[hr1]at g1011'
   have ch12:=ch11.stb g1011' s12 (by omega) (by omega)
   have hu12:=hu11.stb g1011' s12
   have N12:=s12.next
   have g712:H12.h.get A7=some (.cells (qW (pp s)) 65 1 false):=by rw[s12.keep _ (by omega) (by omega)];exact g711
   have g812:H12.h.get A8=some (.cells [.bool false, .nilSlice, .nilSlice, .nilSlice] 111 1 false):=by rw[s12.keep _ (by omega) (by omega)];exact g811
   have hG2l:gl2.length=gl1.length+G2.length:=by rw[hgl2,zH]
   obtain⟨g3,H13,e13,ch13,cl13,hu13,s13,b13⟩:=zCI (dy (M'+1+1)) n ch12 cl12 g712 g812 g1012 hu12 (by omega) (by omega) (by omega) (by omega) (by omega) (by omega)
   have g2old: ∀B,Blk g2 B→Blk g B∨H8.next≤B:=fun B hB=>by
    rcases adv11.2 B hB with e | e
    ·exact bg1 B e
    ·exact .inr (by omega)
   refine⟨.agg l2,0,g3,H13,head ?_,⟨s13.ok,by have:=s13.next;omega,fun B hB hS=> ?_⟩,⟨_,rfl,l2l,l2c⟩, ?_⟩
   ·simp(maxSteps:=999999)(disch:=omega) only[eZ,cl10.bc.ld,v8 g1010 hr2,v8 g1310 l1l,e11,qK,nth,e12',zEw,e13]
   ·rw[s13.keep B (by omega) (fun hx=>by
     rcases hx with(e | e | e) | e
     ·exact hS (.inl (.inl e))
     ·exact hS (.inl (.inr (.inl e)))
     ·rcases g2old B e with e | e
      ·exact hS (.inl (.inr (.inr e)))
      ·omega
     ·omega),s12.keep B (by omega) (by omega),adv11.1.keep B (by omega) (fun hx=>by
     rcases hx with e | e | e
     ·exact hS (.inl (.inl e))
     ·exact hS (.inl (.inr (.inl e)))
     ·rcases bg1 B e with e | e
      ·exact hS (.inl (.inr (.inr e)))
      ·omega)]
    exact S10.keep B hB hS
   ·rw[hrun]
    refine⟨rfl,fes2,f2,gl2++[pp s],last2,d1,nd2,S2,G1++G2++[pp s],R2++R1,pps last1 (last2 - last1)++Fr1,t2,ch13,cl13,hu13,rn11,⟨w11,by omega⟩,by rw[con11,con9],fun _=>by simp only[YB];exact k11,by rw[hgl2,hgl1];simp,by simp;omega,by omega,by omega,by omega, ?_, ?_, ?_, ?_,fun p nd hp=>more2 p nd (more1 p nd hp),fun B hB=> ?_⟩
    ·rw[List.perm_iff_count]at pm1 pm2⊢
     intro a
     have x1:=pm1 a;have x2:=pm2 a
     simp only[List.count_append]at x1 x2⊢
     omega
    ·rw[k6]
     rw[List.perm_iff_count]at pm1' pm2'⊢
     intro a
     have x1:=pm1' a;have x2:=pm2' a
     simp only[List.count_append,List.count_cons,List.count_nil]at x1 x2⊢
     omega
    ·rw[List.nodup_append]
     refine⟨ZU _ _,nd1',fun a ha b hb e=> ?_⟩
     obtain⟨j,rfl,q1,q2⟩:=gU ha
     obtain⟨j',e',q3,q4⟩:=fr1 b hb
     rw[e']at e
     have:=aH e;omega
    ·intro p hp
     rcases List.mem_append.1 hp with hp | hp
     ·obtain⟨j,rfl,q1,q2⟩:=gU hp
      exact⟨j,rfl,by omega,by omega⟩
     ·obtain⟨j,rfl,q1,q2⟩:=fr1 p hp
      exact⟨j,rfl,by omega,by omega⟩
    ·rcases b13 B hB with e | e
     ·rcases g2old B e with e | e
      ·exact .inl e
      ·exact .inr (by omega)
     ·exact .inr (by omega)
end Go.Eng.Sh
end
section
namespace Go.Eng
theorem zBa {t:T AObj} : ∀(n A:Nat),(∀C,A≤C→t.get C=none)→zCd t A n=true
 | 0,_,_=>rfl
 | n+1,A,h=>by
  simp only[zCd,h A (Nat.le_refl _),yB]
  exact zBa n _ fun C hC=>h C (by simp only[Nat.succ_eq_add_one]at hC;omega)
theorem zAx: ∀ {l e:List (AV×AV)},(∀x∈l,vP x.1 e=none)→l.Pairwise (fun a b=>aveq b.1 a.1=false)→YK e l=e++l
 | [],e,_,_=>by simp[YK]
 | x::l,e,h,hp=>by
  rw[List.pairwise_cons]at hp
  have h1:ups e x=e++[x]:=by
   obtain⟨k,v⟩:=x
   simp only[ups,Sh.setA_none (h (k,v) (zB ..))]
  have fa: ∀ {k:AV} {a b:List (AV×AV)},vP k a=none→vP k b=none→vP k (a++b)=none:=by
   intro k a b
   induction a with
   | nil=>intro _ h;exact h
   | cons c a ih=>
    intro h1 h2
    simp only[List.cons_append,vP]at h1⊢
    cases e:aveq k c.1 with
    | true=>rw[e]at h1;cases h1
    | false=>rw[e]at h1;simp only[cond_false]at h1⊢;exact ih h1 h2
  simp only[YK,h1]
  rw[zAx (l:=l) (fun y hy=>fa (h y (zA _ hy)) (by
   simp only[vP,hp.1 y hy,cond_false])) hp.2]
  simp
end Go.Eng
namespace Go.Eng.Sh
open Go.Nd (Ptr yF)
open Go.Bt
def bZ:PN→List Ptr→PN
 | q,[]=>q
 | q,p::gl=>bZ (zBt p.sum.toNat q) gl
theorem JH: ∀(gl:List Ptr) (q:PN) (p:Ptr),bZ q (gl++[p])=zBt p.sum.toNat (bZ q gl)
 | [],_,_=>rfl
 | _::gl,q,p=>by simp only[List.cons_append,bZ,JH gl]
theorem zBs (s:Nat): ∀q:PN,(zBt s q).length≤q.length
 | []=>Nat.le_refl _
 | (t,n)::q=>by
  simp only[zBt]
  split
  ·simp
  ·have:=zBs s q;simp;omega
theorem zBr (s:Nat): ∀ {q:PN} {x:Nat×Nd.Node},x∈zBt s q→x∈q
 | [],_,h=>h
 | (t,n)::q,x,h=>by
  simp only[zBt]at h
  split at h
  ·exact zA _ h
  ·rcases List.mem_cons.1 h with h | h
   ·exact h▸zB ..
   ·exact zA _ (zBr s h)
theorem VF {s t:Nat}(h:s≠t): ∀q:PN,qT s (zBt t q)=qT s q
 | []=>rfl
 | (a,n)::q=>by
  simp only[zBt]
  split
  ·rename_i e
   simp only[qT]
   rw[if_neg (fun e2=>h (e2.symm.trans e))]
  ·simp only[qT,VF h q]
theorem QP {s:Nat} : ∀ {q:PN},qT s q=none→zBt s q=q
 | [],_=>rfl
 | (a,n)::q,h=>by
  simp only[qT]at h
  split at h
  ·cases h
  ·rename_i e
   simp only[zBt,if_neg e,QP h]
theorem QN {H:AH}{s:Nat} : ∀ {es:List (AV×AV)} {q:PN},xN H es q→qT s q=none→zF9 (.int .u64 (s:Nat)) es=none
 | [],[],_,_=>rfl
 | (k,v)::es,(t,nd)::q,h,hl=>by
  obtain⟨⟨rfl,_⟩,h2⟩:=h
  simp only[qT]at hl
  split at hl
  ·cases hl
  ·rename_i e
   have e': ¬s=t:=fun h=>e h.symm
   simp only[zF9,zHx,e',decide_false,cond_false,QN h2 hl]
 | [],_::_,h,_=>h.elim
 | _::_,[],h,_=>h.elim
theorem JI {s:Nat} : ∀ {gl:List Ptr} {q:PN},(∀p∈gl,s≠p.sum.toNat)→qT s (bZ q gl)=qT s q
 | [],_,_=>rfl
 | p::gl,q,h=>by
  rw[bZ,JI fun p hp=>h p (zA _ hp),VF (h p (zB ..))]
theorem dO: ∀ {gl:List Ptr} {q:PN} {x:Nat×Nd.Node},x∈bZ q gl→x∈q
 | [],_,_,h=>h
 | _::gl,_,_,h=>zBr _ (dO (gl:=gl) h)
theorem dP: ∀(gl:List Ptr) (q:PN),(bZ q gl).length≤q.length
 | [],_=>Nat.le_refl _
 | _::gl,q=>Nat.le_trans (dP gl _) (zBs _ q)
theorem wD {s:Nat}{nd:Nd.Node} : ∀ {q:PN},qT s q=some nd→(s,nd)∈q
 | [],h=>by cases h
 | (t,n)::q,h=>by
  simp only[qT]at h
  split at h
  ·rename_i e;subst e;simp only[z7]at h;subst h;exact zB ..
  ·exact zA _ (wD h)
theorem xN.keys {H:AH} : ∀ {es:List (AV×AV)} {q:PN},xN H es q→ ∀kv∈es,∃s,kv.1= .int .u64 ((s:Nat):Int)∧s∈q.map Prod.fst
 | [],[],_,_,h=>by simp at h
 | (k,v)::es,(t,nd)::q,hq,kv,hk=>by
  rcases List.mem_cons.1 hk with rfl | hk
  ·exact⟨t,hq.1.1,by simp⟩
  ·obtain⟨s,h1,h2⟩:=xN.keys hq.2 kv hk
   exact⟨s,h1,zA _ h2⟩
 | [],_::_,h,_,_=>h.elim
 | _::_,[],h,_,_=>h.elim
theorem xN.dist {H:AH} : ∀ {es:List (AV×AV)} {q:PN},xN H es q→(q.map Prod.fst).Nodup→es.Pairwise (fun a b=>aveq b.1 a.1=false)
 | [],[],_,_=>List.Pairwise.nil
 | (k,v)::es,(t,nd)::q,hq,hd=>by
  simp only[List.map_cons,List.nodup_cons]at hd
  rw[List.pairwise_cons]
  refine⟨fun kv hkv=> ?_,xN.dist hq.2 hd.2⟩
  obtain⟨s,h1,h2⟩:=xN.keys hq.2 kv hkv
  rw[h1,hq.1.1,zHx,decide_eq_false_iff_not]
  intro e;subst e;exact hd.1 h2
 | [],_::_,h,_=>h.elim
 | _::_,[],h,_=>h.elim
theorem xN.append {H:AH}{es':List (AV×AV)}{q':PN}(h':xN H es' q'): ∀ {es:List (AV×AV)} {q:PN},xN H es q→xN H (es++es') (q++q')
 | [],[],_=>h'
 | _::es,_::q,h=>⟨h.1,xN.append h' h.2⟩
 | [],_::_,h=>h.elim
 | _::_,[],h=>h.elim
theorem xN.isAg {H:AH}{es:List (AV×AV)}{q:PN}(h:xN H es q):es.all (fun e=>keyOk [10] e.1&&Eng.isAg 4 e.2)=true:=by
 rw[List.all_eq_true]
 intro kv hkv
 obtain⟨s,h1,_⟩:=h.keys kv hkv
 obtain⟨nd,hn⟩:=h.mem kv hkv
 obtain⟨l,h2,h3,h4⟩:=hn.cells
 rw[h1,h2,zLj,Bool.true_and]
 simp only[Eng.isAg,qY,h3,h4,Nat.beq_refl,Bool.and_self]
noncomputable def AH.putB (H:AH)(A:Nat)(o:AObj)(k:Nat):AH:=⟨(H.put A o).h,H.next+k⟩
theorem zGl {H:AH}(hk:H.ok){A:Nat}(hA:A<H.next)(o:AObj)(k:Nat):Stp (fun B=>B=A) H (AH.putB H A o k)∧(AH.putB H A o k).h.get A=some o:=by
 have hg: ∀B,(AH.putB H A o k).h.get B=if B=A then some o else H.h.get B:=fun B=>AH.put_get H A o B
 refine⟨⟨fun B hB=> ?_, ?_,fun B _ hS=> ?_⟩, ?_⟩
 ·have hB:H.next+k≤B:=hB
  rw[hg,if_neg (by omega)];exact hk B (by omega)
 ·show H.next≤H.next+k;omega
 ·rw[hg,if_neg hS]
 ·rw[hg,if_pos rfl]
theorem zG0 {H:AH}(hk:H.ok){F M:Nat}{fes es:List (AV×AV)}{f:PN}(hF:H.h.get F=some (.map [10] fes))(hM:H.h.get M=some (.map [10] es))(hne:F≠M)(hp:xN H fes f):
  zIE [10] 1 (isAg 4) (.map F) (.map M) H=some (AH.putB H M (.map [10] (YK es fes)) (1+1*fes.length)):=by
 have hb:Nat.beq F M=false:=by rw[Bool.eq_false_iff];intro h;exact hne (Nat.eq_of_beq_eq_true h)
 simp only[zIE,hF,hM,show Y8 [10] [10]=true from rfl,hb,hp.isAg,Bool.not_false,Bool.and_self,cond_true,yB,zBa _ _ hk,jB,AH.putB,AH.put_next,Nat.add_assoc]
theorem zM5 {H:AH}{M s:Nat}{es:List (AV×AV)}{q:PN}(hk:H.ok)(hM:H.h.get M=some (.map [10] es))(hp:xN H es q):
  ∃es' H',dlM [10] (.map M) (.int .u64 (s:Nat)) H=some (.tuple [],H')∧H'.h.get M=some (.map [10] es')∧xN H' es' (zBt s q)∧Stp (fun B=>B=M) H H':=by
 cases hl:qT s q with
 | none=>
  refine⟨es,H, ?_,hM,by rw[QP hl];exact hp,Stp.refl hk⟩
  simp only[dlM,zLj,hM,show Y8 [10] [10]=true from rfl,cond_true,QN hp hl]
 | some nd=>
  obtain⟨es',e1,e2,e3⟩:=hp.del s nd hl
  have s1:Stp (fun B=>B=M) H (H.put M (.map [10] es')):=(Stp.refl hk).put (hk.lt hM) _ (.inr rfl)
  refine⟨es',H.put M (.map [10] es'), ?_,by rw[AH.put_get,if_pos rfl],e2.frame fun kv hkv nd2 hn=>hn.stp s1 fun B hB e=> ?_,s1⟩
  ·simp only[dlM,zLj,hM,show Y8 [10] [10]=true from rfl,cond_true,e1,jB]
  ·subst e;exact hn.nblk hM (.inr (.inl ⟨_,_,rfl⟩)) hB
theorem zF6 (D:Dyn)(n:Nat){H0 H:AH}{At Ac F M:Nat}{d c dr:AV}{root0 root:Ptr}{es:List (AV×AV)}{q:PN}{fes:List (AV×AV)}{f:PN}{g:AV}{gl:List Ptr}{last0 last:Nat}(ti:TI H0 At M d c root0 es q last0 dr)(hq: ∀s nd,qT s q=some nd→s≤last0)
  (ch:Ch H0 H At Ac F fes f g gl last0 last) (hgl: ∀p∈gl,∃s,p=pp s) (hl:last≤900000000) (hn:gl.length<n) (hql:q.length≤last0):
  ∃H' es',f69 D n [.ptr Ac 0, .agg (qW root)] H=some (.tuple [],H')∧TI H' At M d c root es' (bZ q gl++f) last dr∧Stp (fun B=>B=At∨B=M) H0 H':=by
 have tiH:=ti.prs ch.prs
 have hfew:=ch.few
 obtain⟨Ad,od,rfl⟩:=ti.hd
 obtain⟨H1,A3,b1,p1,g1,m1,n1⟩:=box ch.prs.ok (.cells (qW root) 65 1 false)
 have ch1:=ch.step p1
 have ti1:=tiH.prs p1
 have atlt:At<H0.next:=ti.ok.lt ti.gT
 have mlt:M<H0.next:=ti.ok.lt ti.gM
 have N0:=ch.prs.next;have N1:=p1.next
 have cC:=ch.dC;have cF:=ch.dF;have lC:=ch.ltC;have lF:=ch.ltF
 have atM:At≠M:=fun e=>by have:=ti.gT;rw[e,ti.gM]at this;cases this
 have gM0: ∀B,Blk g B→ ¬B=M:=fun B hB e=>by have:=ch.gN B hB;omega
 have lp:=xU (b:=zEx D n) gl.length (fun i us H'=>us=[.ptr Ac 0, .ptr A3 0, .ptr At 0,g, .int .i64 (gl.length:Nat), .int .i64 (i:Nat)]∧Stp (fun B=>B=M) H1 H'∧ ∃esi,H'.h.get M=some (.map [10] esi)∧xN H' esi (bZ q (gl.take i))) (fun i us H' hi ⟨hus,st,esi,hM,hp⟩=>by
  subst hus
  have hi':gl[i]∈gl:=zS hi
  obtain⟨s,hs⟩:=hgl _ hi'
  have og:Own 3 65 H' g gl.length (gl.flatMap qW):=ch1.gg.mono st gM0
  obtain⟨pq,i1,i2⟩:=uI.at (l:=gl) og.row hi
  rw[hs]at i2
  obtain⟨H2,A6,b2,p2,g2,m2,n2⟩:=box st.ok (.cells [.int .i64 ((0:Nat):Int), .int .i64 ((0:Nat):Int), .int .u64 ((0:Nat):Int)] 65 1 false)
  obtain⟨H3,e3,g3,s3,n3⟩:=qV p2.ok g2 (l':=qW (pp s)) rfl rfl
  have e3':stN 3 (.ptr A6 0) (.agg (qW (pp s))) H2=some (qM,H3):=e3
  have N2:=st.next;have N3:=p2.next
  have p3:Prs H' H3:=p2.fresh s3 (fun B hB=>by omega)
  have hM3:=Prs.get p3 st.ok hM
  obtain⟨es4,H4,e4,hM4,hp4,s4⟩:=zM5 (s:=s) p3.ok hM3 (hp.frame fun kv _ nd hn=>hn.prs p3)
  have gT3:H3.h.get At=some (.cells (vV (.ptr Ad od) c root0 M last0 dr) 107 1 false):=by
   rw[p3.keep _ (by omega) (fun x=>x),st.keep _ (by omega) atM];exact ti1.gT
  refine⟨_,H4, ?_,rfl,(st.trans (p3.mono fun _ _ x=>x.elim)).trans s4,es4,hM4, ?_⟩
  ·have hiI:((i:Nat):Int)< ((gl.length:Nat):Int):=by omega
   have f0:ld1 (.ptr A6 0) H3=some (.int .i64 ((1:Nat):Int)):=by rw[qL g3];rfl
   have f2:ld1 (.ptr A6 2) H3=some (.int .u64 (s:Nat)):=by rw[qL g3];rfl
   have f5:ld1 (.ptr At 5) H3=some (.map M):=by rw[qL gT3];rfl
   simp(maxSteps:=999999)(disch:=omega) only[zEx,eZ,hiI,i1,i2,b2,e3',f0,f5,f2,e4,zLN,Int.natCast_add]
  ·rw[zN hi,JH,hs]
   exact hp4) n _ H1 ⟨rfl,Stp.refl p1.ok,es,ti1.gM,by simpa[bZ]using ti1.pq⟩ hn
 obtain⟨m,us,H2,e2,rfl,st,esn,hM,hp⟩:=lp
 rw[qB]at hp
 have N2:=st.next
 have lastl:qX (m+1) (zEx D n) [.ptr Ac 0, .ptr A3 0, .ptr At 0,g, .int .i64 (gl.length:Nat), .int .i64 (gl.length:Nat)] H2=some (.exit 0 [.ptr Ac 0, .ptr A3 0, .ptr At 0],H2):=yE (by simp only[zEx,eZ,zZ])
 have gC2:H2.h.get Ac=some (.cells [.ptr At 0, .int .u64 (last:Nat), .map F,g] 136 1 false):=by rw[st.keep _ (by omega) (by omega)];exact ch1.gC
 have gF2:H2.h.get F=some (.map [10] fes):=by rw[st.keep _ (by omega) (by omega)];exact ch1.gF
 have gT2:H2.h.get At=some (.cells (vV (.ptr Ad od) c root0 M last0 dr) 107 1 false):=by rw[st.keep _ (by omega) atM];exact ti1.gT
 have g32:H2.h.get A3=some (.cells (qW root) 65 1 false):=by rw[st.keep _ (by omega) (by omega)];exact g1
 have pf2:xN H2 fes f:=ch1.pf.frame fun kv _ nd hn=>hn.stp st fun B hB e=>by subst e;exact hn.nblk ti1.gM (.inr (.inl ⟨_,_,rfl⟩)) hB
 have hup:=zG0 st.ok gF2 hM (by omega) pf2
 have hnone: ∀x∈fes,vP x.1 esn=none:=fun x hx=>by
  obtain⟨s,hs,hm⟩:=ch1.pf.keys x hx
  rw[hs]
  refine(hp.find s).2 ?_
  cases hk:qT s (bZ q gl)with
  | none=>rfl
  | some nd2=>
   have m1:=dO (wD hk)
   obtain⟨nd3,h3⟩:=vO (q:=q) (s:=s) (List.mem_map.2 ⟨_,m1,rfl⟩)
   obtain⟨nd4,h4⟩:=vO hm
   have:=hq _ _ h3;have:=ch.fs _ _ h4;omega
 rw[zAx hnone (ch1.pf.dist ch.fd)]at hup
 obtain⟨s3,g3M⟩:=zGl st.ok (st.ok.lt hM) (.map [10] (esn++fes)) (1+1*fes.length)
 have hnx:H2.next≤(AH.putB H2 M (.map [10] (esn++fes)) (1+1*fes.length)).next:=s3.next
 generalize AH.putB H2 M (.map [10] (esn++fes)) (1+1*fes.length)=H3 at hup s3 g3M hnx
 have hmt:aJ [.ptr Ac 0, .ptr A3 0, .ptr At 0] H2=some H3:=by
  have c1:ld1 (.ptr Ac (0+2)) H2=some (.map F):=by rw[qL gC2];rfl
  have c2:ld1 (.ptr At (0+5)) H2=some (.map M):=by rw[qL gT2];rfl
  have d1:Nat.blt F H2.next=true:=by rw[zJ];omega
  have d2:Nat.blt M H2.next=true:=by rw[zJ];omega
  have d3:Nat.blt At H2.next=true:=by rw[zJ];omega
  simp only[aJ,c1,c2,d1,d2,d3,Bool.and_self,cond_true,hup]
 have gC3:H3.h.get Ac=some (.cells [.ptr At 0, .int .u64 (last:Nat), .map F,g] 136 1 false):=by rw[s3.keep _ (by omega) (by omega)];exact gC2
 have gT3:H3.h.get At=some (.cells (vV (.ptr Ad od) c root0 M last0 dr) 107 1 false):=by rw[s3.keep _ (by omega) atM];exact gT2
 have g33:H3.h.get A3=some (.cells (qW root) 65 1 false):=by rw[s3.keep _ (by omega) (by omega)];exact g32
 obtain⟨H4,e4,g4,s4,n4⟩:=ZN s3.ok gT3 (o:=6) (x:= .int .u64 (last:Nat)) rfl (by simp[vV])
 have g4:H4.h.get At=some (.cells (vV (.ptr Ad od) c root0 M last dr) 107 1 false):=g4
 have g34:H4.h.get A3=some (.cells (qW root) 65 1 false):=by rw[s4.keep _ (by omega) (by omega)];exact g33
 have e5:=XO (o:=2) (n:=3) (x:= .agg (qW root)) g4 (by decide) rfl rfl (by simp[vV])
 have g5:(H4.put At (.cells ((vV (.ptr Ad od) c root0 M last dr).take 2++qS (.agg (qW root))++(vV (.ptr Ad od) c root0 M last dr).drop (2+3)) 107 1 false)).h.get At=some (.cells (vV (.ptr Ad od) c root M last dr) 107 1 false):=by rw[AH.put_get,if_pos rfl];rfl
 have s5:Stp (fun B=>B=At) H4 (H4.put At (.cells ((vV (.ptr Ad od) c root0 M last dr).take 2++qS (.agg (qW root))++(vV (.ptr Ad od) c root0 M last dr).drop (2+3)) 107 1 false)):=(Stp.refl s4.ok).put (s4.ok.lt g4) _ (.inr rfl)
 generalize H4.put At (.cells ((vV (.ptr Ad od) c root0 M last dr).take 2++qS (.agg (qW root))++(vV (.ptr Ad od) c root0 M last dr).drop (2+3)) 107 1 false)=H5 at e5 g5 s5
 have N3:=s3.next;have N4:=s4.next;have N5:=s5.next
 have fr: ∀ {v:AV} {nd:Nd.Node},y8 H2 v nd→y8 H5 v nd:=fun {v nd} hn=>by
  have h3:y8 H3 v nd:=hn.stp s3 fun B hB e=>by subst e;exact hn.nblk hM (.inr (.inl ⟨_,_,rfl⟩)) hB
  have h4:y8 H4 v nd:=h3.stp s4 fun B hB e=>by subst e;exact h3.nblk gT3 (.inl ⟨_,_,_,_,rfl,fun _ _ e=>by cases e⟩) hB
  exact h4.stp s5 fun B hB e=>by subst e;exact h4.nblk g4 (.inl ⟨_,_,_,_,rfl,fun _ _ e=>by cases e⟩) hB
 refine⟨H5,esn++fes, ?_,⟨s5.ok,g5, ?_, ?_,⟨_,_,rfl⟩, ?_⟩,⟨s5.ok,by omega,fun B hB hS=> ?_⟩⟩
 ·have hble:Nat.ble H2.next H3.next=true:=by rw[zR];exact hnx
  have c0:ld1 (.ptr Ac 0) H1=some (.ptr At 0):=by rw[qL ch1.gC];rfl
  have c3:ld1 (.ptr Ac 3) H1=some g:=by rw[qL ch1.gC];rfl
  have c1:ld1 (.ptr Ac 1) H3=some (.int .u64 (last:Nat)):=by rw[qL gC3];rfl
  have r3:ldN 3 (.ptr A3 0) H4=some (.agg (qW root)):=by rw[qQ g34];rfl
  simp(maxSteps:=999999)(disch:=omega) only[f69,eZ,b1,c0,c3,ch1.gg.row.lnSl,e2,lastl,zLO,hmt,tld,hble,cond_true,c1,e4,r3,e5]
 ·rw[s5.keep _ (by omega) (fun e=>atM e.symm),s4.keep _ (by omega) (fun e=>atM e.symm)];exact g3M
 ·exact xN.append (pf2.frame fun kv _ nd hn=>fr hn) (hp.frame fun kv _ nd hn=>fr hn)
 ·have h1:=dP gl q;have h2:=ch.fl
  simp only[zH];omega
 ·have a1: ¬B=At:=fun e=>hS (.inl e)
  have a2: ¬B=M:=fun e=>hS (.inr e)
  rw[s5.keep B (by omega) a1,s4.keep B (by omega) a1,s3.keep B (by omega) a2,st.keep B (by omega) a2,p1.keep B (by omega) (fun x=>x),ch.prs.keep B hB (fun x=>x)]
end Go.Eng.Sh
end
section
namespace Go.Bt
open Go.Nd (Str Kvs Ptr qP)
theorem WF.wr: ∀ {h:Nat} {t:Tr h},WF h none none t→WR h t
 | 0,_,w=>w
 | _+1,_,w=>⟨w.1,w.2.1,w.2.2.2⟩
theorem WX.wr: ∀ {h:Nat} {t:Tr h},WX h none none t→(match h,t with | 0,l=>(l:Kvs)≠[] | _+1,t=>t.1≠[])→yV h t≤500→WR h t
 | 0,_,w,hne,hz=>⟨w.1,hne,hz⟩
 | _+1,_,w,hne,hz=>⟨w.1,hne,hz⟩
end Go.Bt
namespace Go.Eng.Sh
open Go.Nd (Ptr yF qP Kvs)
open Go.Bt
def pZ:Ptr:=⟨((0:Nat):Int),((0:Nat):Int),((0:Nat):Int)⟩
def zFR (q:PN)(root:Ptr)(kv:Kvs):Prop:=(root=pZ∧kv=[])∨ ∃s h nd,∃t:Bt.Tr h,∃S:List Ptr,root=pp s∧qT s q=some nd∧yZ (Qf q []) h nd t S∧WR h t∧(pp s::S).Nodup∧con h t=kv
theorem kR.here {α:Type}{Q:Ptr→Option Nd.Node}{R:Nd.Node→α→List Ptr→Prop}(hr: ∀nd t S,R nd t S→ ∀p∈S,∃nd,Q p=some nd): ∀ {ps:List Ptr} {ts:List α} {S:List Ptr},kR Q R ps ts S→ ∀p∈S,∃nd,Q p=some nd
 | [],[],_,h=>by subst h;simp
 | p::ps,t::ts,_,⟨nd,S1,S2,a,b,c,e⟩=>fun x hx=>by
  subst e
  rcases List.mem_cons.1 hx with rfl | hx
  ·exact⟨nd,a⟩
  ·rcases List.mem_append.1 hx with hx | hx
   ·exact hr _ _ _ b x hx
   ·exact kR.here hr c x hx
 | [],_::_,_,h=>h.elim
 | _::_,[],_,h=>h.elim
theorem yZ.here {Q:Ptr→Option Nd.Node} : ∀ {h:Nat} {nd:Nd.Node} {t:Bt.Tr h} {S:List Ptr},yZ Q h nd t S→ ∀p∈S,∃nd,Q p=some nd
 | 0,_,_,_,w=>by obtain⟨_,rfl⟩:=w;simp
 | h+1,_,_,_,w=>kR.here (fun _ _ _ hr=>yZ.here hr) w.2.2.2
theorem zJ1 {q f:PN}{gl T Fr R:List Ptr}{last0:Nat}(hq: ∀s nd,qT s q=some nd→s≤last0)(hf: ∀s nd,qT s f=some nd→last0<s)(hT:T.Perm (Fr++R))(hG:(gl++R).Nodup)(hgl: ∀p∈gl,∃s,p=pp s)(hFr: ∀p∈Fr,∃j,p=pp j∧last0<j)(hFn:Fr.Nodup)(hR: ∀p∈R,∃nd,Qf q [] p=some nd):
  T.Nodup∧ ∀p∈T,∀nd,Qf q f p=some nd→Qf (bZ q gl++f) [] p=some nd:=by
 have hRold: ∀p∈R,∃s nd,p=pp s∧qT s q=some nd∧s≤last0:=fun p hp=>by
  obtain⟨nd,h⟩:=hR p hp
  obtain⟨s,rfl,h1 | ⟨_,h1⟩⟩:=bC h
  ·simp[qT]at h1
  ·exact⟨s,nd,rfl,h1,hq _ _ h1⟩
 obtain⟨_,hRn,hdis⟩:=List.nodup_append.1 hG
 refine⟨hT.nodup_iff.2 (List.nodup_append.2 ⟨hFn,hRn,fun a ha b hb e=> ?_⟩),fun p hp nd h=> ?_⟩
 ·obtain⟨j,rfl,hj⟩:=hFr a ha
  obtain⟨s,nd,rfl,_,hs⟩:=hRold b hb
  have:=aH e;omega
 ·obtain⟨s,rfl,h1 | ⟨h0,h1⟩⟩:=bC h
  ·rw[Y2]
   simp only[qT]
   have hs:=hf _ _ h1
   rw[jU]
   cases hk:qT s (bZ q gl)with
   | none=>exact h1
   | some n2=>
    obtain⟨n3,h3⟩:=vO (List.mem_map.2 ⟨_,dO (wD hk),rfl⟩)
    have:=hq _ _ h3
    simp only at this;omega
  ·rw[Y2]
   simp only[qT]
   have hs:=hq _ _ h1
   have hpR:pp s∈R:=by
    rcases List.mem_append.1 (hT.mem_iff.1 hp)with e | e
    ·obtain⟨j,e,hj⟩:=hFr _ e
     have:=aH e;omega
    ·exact e
   rw[jU,JI fun p' hp' e=> ?_,h1]
   obtain⟨s',rfl⟩:=hgl p' hp'
   have:s=s':=by simpa[pp]using e
   subst this
   exact hdis _ hp' _ hpR rfl
theorem zB2 {q f:PN}{gl:List Ptr}{last0 last:Nat}(hq: ∀s nd,qT s q=some nd→s≤last0)(hf: ∀s nd,qT s f=some nd→last0<s∧s≤last)(hl:last0≤last): ∀s nd,qT s (bZ q gl++f)=some nd→s≤last:=fun s nd h=>by
 rw[jU]at h
 cases hk:qT s (bZ q gl)with
 | none=>rw[hk]at h;exact(hf _ _ h).2
 | some n2=>
  obtain⟨n3,h3⟩:=vO (List.mem_map.2 ⟨_,dO (wD hk),rfl⟩)
  have:=hq _ _ h3
  simp only at this;omega
theorem kR.perm_one {α:Type}{Q:Ptr→Option Nd.Node}{R:Nd.Node→α→List Ptr→Prop}{ps:List Ptr}{t:α}{S:List Ptr}(h:kR Q R ps [t] S): ∃p nd S1,ps=[p]∧Q p=some nd∧R nd t S1∧S=p::S1:=by
 match ps,h with
 | [p],⟨nd,S1,S2,a,b,c,e⟩=>exact⟨p,nd,S1,rfl,a,b,by simp only[kR]at c;rw[e,c,List.append_nil]⟩
 | _::_::_,⟨_,_,_,_,_,c,_⟩=>exact c.elim
 | [],h=>exact h.elim
theorem CutsN.one_inv {nd:Nd.Node}{nds:List Nd.Node}{ss:List Str}(h:CutsN nd nds ss)(hz:Nd.size nd≤500):nds=[nd]∧ss=[]:=by
 cases h with
 | one _=>exact⟨rfl,rfl⟩
 | more h1=>omega
theorem CutsN.more_inv {nd:Nd.Node}{nds:List Nd.Node}{ss:List Str}(h:CutsN nd nds ss)(hz:500<Nd.size nd):ss≠[]:=by
 cases h with
 | one h1=>omega
 | more h1=>simp
def zHN (H0 H':AH)(At M:Nat)(d c dr:AV)(low top:Nat)(kv:Kvs):Prop:= ∃root es q last,TI H' At M d c root es q last dr∧Stp (fun B=>B=At∨B=M) H0 H'∧(∀s nd,qT s q=some nd→s≤last)∧q.length≤last∧low≤last∧last≤top∧zFR q root kv
theorem zHN.mono {H0 H':AH}{At M:Nat}{d c dr:AV}{low low' top top':Nat}{kv:Kvs}(h:zHN H0 H' At M d c dr low top kv)(hl:low'≤low)(ht:top≤top'):zHN H0 H' At M d c dr low' top' kv:=by
 obtain⟨root,es,q,last,h1,h2,h3,h4,h5,h6,h7⟩:=h
 exact⟨root,es,q,last,h1,h2,h3,h4,by omega,by omega,h7⟩
theorem zF5 (D:Dyn)(n:Nat){H0 H:AH}{At Ac F M:Nat}{d c dr:AV}{root0:Ptr}{es:List (AV×AV)}{q:PN}{fes:List (AV×AV)}{f:PN}{g:AV}{gl:List Ptr}{last0 last:Nat}(ti:TI H0 At M d c root0 es q last0 dr)(hq: ∀s nd,qT s q=some nd→s≤last0)
  (ch:Ch H0 H At Ac F fes f g gl last0 last) (hgl: ∀p∈gl,∃s,p=pp s) (hl:last≤900000000) (hn:gl.length<n) (hql:q.length≤last0):
  ∃H',f69 D n [.ptr Ac 0, .agg [.int .i64 ((0:Nat):Int), .int .i64 ((0:Nat):Int), .int .u64 ((0:Nat):Int)]] H=some (.tuple [],H')∧zHN H0 H' At M d c dr last last []:=by
 obtain⟨H',es',e,ti',st⟩:=zF6 D n (root:=pZ) ti hq ch hgl hl hn hql
 refine⟨H',e,_,_,_,last,ti',st,zB2 hq ch.fs ch.le, ?_,Nat.le_refl _,Nat.le_refl _, .inl ⟨rfl,rfl⟩⟩
 have h1:=dP gl q;have h2:=ch.fl
 simp only[zH];omega
theorem dL (D:Dyn)(n:Nat){H0 H:AH}{At Ac F M s h:Nat}{d c dr:AV}{root0:Ptr}{es:List (AV×AV)}{q:PN}{fes:List (AV×AV)}{f:PN}{g:AV}{gl Fr R:List Ptr}{last0 last:Nat}{nd:Nd.Node}{t:Bt.Tr h}{S:List Ptr}(ti:TI H0 At M d c root0 es q last0 dr)(hq: ∀s nd,qT s q=some nd→s≤last0)
  (ch:Ch H0 H At Ac F fes f g gl last0 last) (hgl: ∀p∈gl,∃s,p=pp s) (hl:last≤900000000) (hn:gl.length<n) (hql:q.length≤last0)
  (hs:Qf q f (pp s)=some nd) (rn:yZ (Qf q f) h nd t S) (wr:WR h t) (hT:(pp s::S).Perm (Fr++R)) (hG:(gl++R).Nodup) (hFr: ∀p∈Fr,∃j,p=pp j∧last0<j) (hFn:Fr.Nodup) (hR: ∀p∈R,∃nd,Qf q [] p=some nd):
  ∃H',f69 D n [.ptr Ac 0, .agg (qW (pp s))] H=some (.tuple [],H')∧zHN H0 H' At M d c dr last last (con h t):=by
 obtain⟨H',es',e,ti',st⟩:=zF6 D n (root:=pp s) ti hq ch hgl hl hn hql
 obtain⟨nd1,mono⟩:=zJ1 hq (fun s nd h=>(ch.fs s nd h).1) hT hG hgl hFr hFn hR
 refine⟨H',e,_,_,_,last,ti',st,zB2 hq ch.fs ch.le, ?_,Nat.le_refl _,Nat.le_refl _, .inr ⟨s,h,nd,t,S,rfl, ?_,rn.mono (fun p hp nd hh=>mono p (zA _ hp) nd hh),wr,nd1,rfl⟩⟩
 ·have h1:=dP gl q;have h2:=ch.fl
  simp only[zH];omega
 ·have:=mono (pp s) (zB ..) nd hs
  rw[Y2]at this
  simpa[qT]using this
theorem zHh (D:Dyn)(n:Nat)(hn:200000000≤n){H0 H:AH}{At Ac F M h:Nat}{d c dr u:AV}{root0:Ptr}{es:List (AV×AV)}{q:PN}{fes:List (AV×AV)}{f:PN}{g:AV}{gl Fr R:List Ptr}{last0 last:Nat}{nd:Nd.Node}{t:Bt.Tr h}{S:List Ptr}(ti:TI H0 At M d c root0 es q last0 dr)(hq: ∀s nd,qT s q=some nd→s≤last0)
  (ch:Ch H0 H At Ac F fes f g gl last0 last) (hgl: ∀p∈gl,∃s,p=pp s) (hl:last≤700000000) (hgn:gl.length<n) (hql:q.length≤last0) (hu:jO H g u nd)
  (rn:yZ (Qf q f) h nd t S) (wx:WX h none none t) (hS:S.Perm (Fr++R)) (hG:(gl++R).Nodup) (hFr: ∀p∈Fr,∃j,p=pp j∧last0<j∧j≤last) (hFn:Fr.Nodup) (hR: ∀p∈R,∃nd,Qf q [] p=some nd):
  ∃H',f76 D n [.ptr Ac 0,u] H=some (.int .i64 ((0:Nat):Int),H')∧zHN H0 H' At M d c dr last (last+7) (con h t):=by
 obtain⟨ks,vs0,ps,rfl,j1,j2,j3⟩:=id hu.1
 obtain⟨H1,A3,b1,p1,g1,m1,n1⟩:=box ch.prs.ok (.cells [.bool nd.leaf,ks,vs0,ps] 111 1 false)
 have ch1:=ch.step p1
 have hu1:=hu.prs p1
 have hFr': ∀p∈Fr,∃j,p=pp j∧last0<j:=fun p hp=>by obtain⟨j,a,b,_⟩:=hFr p hp;exact⟨j,a,b⟩
 have e0:ld1 (.ptr A3 0) H1=some (.bool nd.leaf):=by rw[qL g1];rfl
 have e1:ld1 (.ptr A3 1) H1=some ks:=by rw[qL g1];rfl
 have e3:ld1 (.ptr A3 3) H1=some ps:=by rw[qL g1];rfl
 by_cases hk:nd.keys=[]
 ·
  have hk0:((nd.keys.length:Nat):Int)=((0:Nat):Int):=by rw[hk];rfl
  cases h with
  | zero=>
   obtain⟨hnd,rfl⟩:=rn
   have ht:t=([]:Kvs):=List.map_eq_nil_iff.1 (show List.map Prod.fst (t:Kvs)=[]from(show(qP t).keys=[]from hnd▸hk))
   subst ht
   obtain⟨H2,e2,dn⟩:=zF5 D n ti hq ch1 hgl (by omega) hgn hql
   refine⟨H2, ?_,dn.mono (Nat.le_refl _) (by omega)⟩
   have e0':ld1 (.ptr A3 0) H1=some (.bool true):=by rw[e0,hnd];rfl
   have bs:jT [(0,1),(1,1),(2,1)] [.int .i64 ((0:Nat):Int), .int .i64 ((0:Nat):Int), .int .u64 ((0:Nat):Int)] []=some (.agg [.int .i64 ((0:Nat):Int), .int .i64 ((0:Nat):Int), .int .u64 ((0:Nat):Int)]):=rfl
   simp(maxSteps:=999999)(disch:=omega) only[f76,eZ,b1,e1,j1.row.lnSl,hk0,e0',bs,e2,zJI]
  | succ h=>
   obtain⟨r1,r2,r3,r4⟩:=id rn
   obtain⟨w1,w2⟩:=id wx
   rw[hk]at r2
   have hlen:=w1.2.2.len
   rw[← r2]at hlen
   obtain⟨t1,ht1⟩: ∃t1,t.2=[t1]:=by
    match ht:t.2,hlen with
    | [a],_=>exact⟨a,rfl⟩
   have hkb:=w1.2.2
   rw[← r2,ht1]at hkb
   rw[ht1]at r4
   obtain⟨k0,nd1,S1,hk1,q1,rn1,hS1⟩:=kR.perm_one r4
   obtain⟨s1,rfl,_⟩:=bC q1
   subst hS1
   obtain⟨H2,e2,dn⟩:=dL D n ti hq ch1 hgl (by omega) hgn hql q1 rn1 (WF.wr hkb) hS hG hFr' hFn hR
   have e0':ld1 (.ptr A3 0) H1=some (.bool false):=by rw[e0,r1]
   have hcon:con (h+1) t=con h t1:=by simp only[con,ht1,zT,List.flatMap_nil,List.append_nil]
   rw[hcon]
   refine⟨H2, ?_,dn.mono (Nat.le_refl _) (by omega)⟩
   obtain⟨qk,ik,ik'⟩:=uI.at (l:=nd.kids) (j3.mono p1 (fun _ _ x=>x)).row (i:=0) (by rw[hk1];simp)
   have hkk:nd.kids[0]'(by rw[hk1];simp)=pp s1:=by simp[hk1]
   rw[hkk]at ik'
   simp(maxSteps:=999999)(disch:=omega) only[f76,eZ,b1,e1,j1.row.lnSl,hk0,e0',e3,ik,ik',e2,zJI]
 ·
  have hk0: ¬((nd.keys.length:Nat):Int)=((0:Nat):Int):=by
   have:nd.keys.length≠0:=fun e=>hk (zF e)
   omega
  have hsh:=rn.shaped wx.gen (fun _=>hk) (yZ.kidOk rn)
  have hz:Nd.size nd≤785:=by rw[rn.size];exact wx.sz
  obtain⟨pv,sv,H2,vs,nds,ss,e2,p2,hcut,oP,hpar,oS,bP,bS,bvs⟩:=UC D n hn p1.ok hu1.1 hsh (by omega)
  obtain⟨ts,c1,c2⟩:=WL hcut rn wx
  have few:nds.length≤6:=by
   by_cases hb:Nd.size nd≤500
   ·rw[(hcut.one_inv hb).1];simp
   ·have:=(WK c1 wx (.inr (by rw[← rn.size];omega))).2.2.1
    rw[c2.len];exact this
  have ch2:=ch1.step p2
  obtain⟨kv,H3,e3',ch3,a3,o3,f3⟩:=UX D n hn ch2 oP hpar (fun l hl B hB hgB=>by
   rcases bvs l hl B hB with e | e
   ·exact hu.2 B e hgB
   ·have:=Rw.blk ch1.gg.row hgB;omega) (by omega) (by omega)
  have N1:=p1.next;have N2:=p2.next;have N3:=a3.1.next
  have hnone: ∀j,qT (last+1+j) f=none:=fun j=>by
   cases hk:qT (last+1+j) f with
   | none=>rfl
   | some n2=>have:=ch.fs _ _ hk;omega
  have hnew: ∀s nd',qT s (jV last nds)=some nd'→last0<s:=fun s nd' hs=>by have:=QZ hs;have:=ch.le;omega
  have more: ∀p nd,Qf q f p=some nd→Qf q (f++jV last nds) p=some nd:=fun p nd hp=>X2 hq hnew hp
  have at1: ∀j nd',nds[j]? =some nd'→Qf q (f++jV last nds) (pp (last+1+j))=some nd':=fun j nd' hj=>by rw[Y2,jU,hnone];simp only[cT hj]
  have okv:uI H3 kv (pps last nds.length):=by
   have:=o3.row
   rw[uI,cN];exact this
  have lkv:=okv.lnSl
  rw[cN]at lkv
  have t00: ¬(((0:Nat):Int)≠((0:Nat):Int)):=by omega
  by_cases hb:Nd.size nd≤500
  ·obtain⟨rfl,rfl⟩:=hcut.one_inv hb
   have hone:(([nd].length:Nat):Int)=((1:Nat):Int):=rfl
   have wr:WR h t:=wx.wr (by
    cases h with
    | zero=>obtain⟨rfl,_⟩:=rn;intro e;exact hk (by rw[show t=([]:Kvs)from e];rfl)
    | succ h=>exact(show t.1≠[]from rn.2.1▸hk)) (by rw[← rn.size];exact hb)
   have hfp: ∀p∈pp (last+1)::Fr,∃j,p=pp j∧last0<j:=fun p hp=>by
    rcases List.mem_cons.1 hp with rfl | hp
    ·exact⟨_,rfl,by have:=ch.le;omega⟩
    ·exact hFr' p hp
   have hfn:(pp (last+1)::Fr).Nodup:=List.nodup_cons.2 ⟨fun hp=>by
    obtain⟨j,e,_,hj⟩:=hFr _ hp
    have:=aH e;omega,hFn⟩
   obtain⟨H4,e4,dn⟩:=dL D n (s:=last+1) (t:=t) (S:=S) ti hq ch3 hgl (by simp;omega) hgn hql (at1 0 nd rfl) (rn.mono fun p _ nd hp=>more p nd hp) wr (List.Perm.cons _ hS) hG hfp hfn hR
   refine⟨H4, ?_,dn.mono (by simp) (by simp)⟩
   obtain⟨qk,ik,ik'⟩:=uI.at okv (i:=0) (by simp[pps])
   have hkk:(pps last [nd].length)[0]'(by simp[pps])=pp (last+1):=by simp[pps]
   rw[hkk]at ik'
   simp(maxSteps:=999999)(disch:=omega) only[f76,eZ,b1,e1,j1.row.lnSl,hk0,v8 g1 rfl,e2,qK,nth,t00,e3',lkv,hone,ik,ik',e4,zJH]
  ·have hss:=hcut.more_inv (by omega)
   obtain⟨w1,w2,w3,_⟩:=WK c1 wx (.inr (by rw[← rn.size];omega))
   have hlen:=w1.2.2.len
   simp only at hlen
   have hssl:ss.length≠0:=fun e=>hss (zF e)
   have hnl:=c2.len
   have hone: ¬((nds.length:Nat):Int)=((1:Nat):Int):=by omega
   have c2':zBK (Qf q (f++jV last nds)) h nds ts S:=by
    have mono: ∀ {nds':List Nd.Node} {ts':List (Bt.Tr h)} {S':List Ptr},zBK (Qf q f) h nds' ts' S'→zBK (Qf q (f++jV last nds)) h nds' ts' S':=by
     intro nds'
     induction nds' with
     | nil=>intro ts' S' hp;cases ts' with
      | nil=>exact hp
      | cons=>exact hp.elim
     | cons a nds' ih=>intro ts' S' hp;cases ts' with
      | nil=>exact hp.elim
      | cons b ts'=>
       obtain⟨S1,S2,a1,a2,a3⟩:=hp
       exact⟨S1,S2,a1.mono fun p _ nd hp=>more p nd hp,ih a2,a3⟩
    exact mono c2
   obtain⟨S2,r2,pm2⟩:=c2'.kids last at1
   have g31:H3.h.get A3=some (.cells [.bool nd.leaf,ks,vs0,ps] 111 1 false):=by
    rw[a3.1.keep _ (by omega) (fun hc=>by
     rcases hc with e | e | e
     ·have:=ch.ltC;omega
     ·have:=ch.ltF;omega
     ·have:=Rw.blk ch.gg.row e;omega)]
    exact Prs.get p2 p1.ok g1
   have oS3:Own 1 9 H3 sv ss.length (ss.map Go.Eng.S):=oS.mono a3.1 (fun B hB hc=>by
    have:=bS B hB
    rcases hc with e | e | e
    ·have:=ch.ltC;omega
    ·have:=ch.ltF;omega
    ·have:=Rw.blk ch.gg.row e;omega)
   have hG4:y8 H3 (.agg [.bool false,sv, .nilSlice,kv]) ⟨false,ss,[],pps last nds.length⟩:=⟨sv, .nilSlice,kv,rfl, .inl oS3, .inl (Own.nil ..), .inl (by
    simp only[cN];exact o3)⟩
   have hA4:jO H3 g (.agg [.bool false,sv, .nilSlice,kv]) ⟨false,ss,[],pps last nds.length⟩:=⟨hG4,fun B hB hgB=>by
    have:=Rw.blk ch.gg.row hgB
    rcases jS.1 hB with e | e | e
    ·have:=bS B e;omega
    ·exact(Blk.nil.1 e).elim
    ·have:=f3 B e;omega⟩
   obtain⟨H4,e4,ch4,a4⟩:=zFD D n ch3 hA4 (by omega)
   have hne4:qT (last+nds.length+1) (f++jV last nds)=none:=by
    cases hk:qT (last+nds.length+1) (f++jV last nds)with
    | none=>rfl
    | some n2=>have:=ch3.fs _ _ hk;omega
   have more4: ∀p nd',Qf q (f++jV last nds) p=some nd'→Qf q (f++jV last nds++[(last+nds.length+1,⟨false,ss,[],pps last nds.length⟩)]) p=some nd':=fun p nd' hp=>X2 hq (fun s nd hs=>by
    simp only[qT]at hs
    split at hs
    ·have:=ch.le;omega
    ·cases hs) hp
   have at4:Qf q (f++jV last nds++[(last+nds.length+1,⟨false,ss,[],pps last nds.length⟩)]) (pp (last+nds.length+1))=some ⟨false,ss,[],pps last nds.length⟩:=by
    rw[Y2,jU,hne4];simp[qT]
   have rn4:yZ (Qf q (f++jV last nds++[(last+nds.length+1,⟨false,ss,[],pps last nds.length⟩)])) (h+1) ⟨false,ss,[],pps last nds.length⟩ (ss,ts) S2:=⟨rfl,rfl,rfl,r2.mono (fun p _ nd hp=>more4 p nd hp) (fun nd t S1 _ hr=>hr.mono fun p _ nd hp=>more4 p nd hp)⟩
   have hsum:=cI (ks:=ss) (fun k hk=>(w1.1 k hk).1)
   have wr4:WR (h+1) (ss,ts):=⟨w1,hss,by simp only[j5];omega⟩
   have hfp: ∀p∈pp (last+nds.length+1)::(pps last nds.length++Fr),∃j,p=pp j∧last0<j:=fun p hp=>by
    have:=ch.le
    rcases List.mem_cons.1 hp with rfl | hp
    ·exact⟨_,rfl,by omega⟩
    ·rcases List.mem_append.1 hp with hp | hp
     ·obtain⟨j,rfl,h1,h2⟩:=gU hp
      exact⟨_,rfl,by omega⟩
     ·exact hFr' p hp
   have hfn:(pp (last+nds.length+1)::(pps last nds.length++Fr)).Nodup:=by
    refine List.nodup_cons.2 ⟨fun hp=> ?_,List.nodup_append.2 ⟨ZU _ _,hFn,fun a ha b hb e=> ?_⟩⟩
    ·rcases List.mem_append.1 hp with hp | hp
     ·obtain⟨j,e,h1,h2⟩:=gU hp
      have:=aH e;omega
     ·obtain⟨j,e,h1,h2⟩:=hFr _ hp
      have:=aH e;omega
    ·obtain⟨j,rfl,h1,h2⟩:=gU ha
     obtain⟨j',rfl,h3,h4⟩:=hFr _ hb
     have:=aH e;omega
   have hT:(pp (last+nds.length+1)::S2).Perm ((pp (last+nds.length+1)::(pps last nds.length++Fr))++R):=by
    rw[List.cons_append,List.append_assoc]
    exact List.Perm.cons _ (pm2.trans (List.Perm.append_left _ hS))
   obtain⟨H5,e5,dn⟩:=dL D n (s:=last+nds.length+1) ti hq ch4 hgl (by omega) hgn hql at4 rn4 wr4 hT hG hfp hfn hR
   have hcon:con (h+1) (ss,ts)=con h t:=w2
   rw[hcon]at dn
   refine⟨H5, ?_,dn.mono (by omega) (by omega)⟩
   simp(maxSteps:=999999)(disch:=omega) only[f76,eZ,b1,e1,j1.row.lnSl,hk0,v8 g1 rfl,e2,qK,nth,t00,e3',lkv,hone,zK3 oS3.row.isCell okv.isCell,e4,e5,zJH]
end Go.Eng.Sh
end
section
namespace Go.Bt
open Go.Nd (Str Kvs qP)
theorem WR.gen: ∀ {h:Nat} {t:Tr h},WR h t→Gen h none none t
 | 0,_,w=>w.1
 | _+1,_,w=>w.1
theorem WR.sz: ∀ {h:Nat} {t:Tr h},WR h t→yV h t≤500
 | 0,_,w=>w.2.2
 | _+1,_,w=>w.2.2
theorem zBc {h:Nat} : ∀ {ts:List (Tr h)},(∀t∈ts,2 ^ h≤(con h t).length)→ts.length*2 ^ h≤(ts.flatMap (con h)).length
 | [],_=>by simp
 | t::ts,ih=>by
  have h1:=ih t (zB ..)
  have h2:=zBc (ts:=ts) fun t ht=>ih t (zA _ ht)
  simp only[zG,zT,zH,Nat.add_mul,Nat.one_mul]
  omega
theorem zE7 {h:Nat}{lo hi:Bd}{t:List Str×List (Tr h)}(ih: ∀ {lo hi:Bd} {t:Tr h},WF h lo hi t→2 ^ h≤(con h t).length)(w:Inn (WF h) lo hi t)(hne:t.1≠[]):2 ^ (h+1)≤(t.2.flatMap (con h)).length:=by
 have hl:=w.2.2.len
 have hk:t.1.length≠0:=fun e=>hne (zF e)
 have hf:=zBc (ts:=t.2) fun x hx=>by
  obtain⟨i,hi,rfl⟩:=qI hx
  exact ih (KB.at w.2.2 (zC hi))
 have h2:2*2 ^ h≤t.2.length*2 ^ h:=zU _ (by omega)
 rw[Nat.pow_succ];omega
theorem WF.many: ∀ {h:Nat} {lo hi:Bd} {t:Tr h},WF h lo hi t→2 ^ h≤(con h t).length
 | 0,_,_,t,w=>by
  have:List.length (t:Kvs)≠0:=fun e=>w.2.1 (zF e)
  show 1≤List.length (t:Kvs)
  omega
 | _+1,_,_,_,w=>zE7 WF.many w.1 w.2.1
theorem WR.many: ∀ {h:Nat} {t:Tr h},WR h t→2 ^ h≤(con h t).length
 | 0,t,w=>by
  have:List.length (t:Kvs)≠0:=fun e=>w.2.1 (zF e)
  show 1≤List.length (t:Kvs)
  omega
 | _+1,_,w=>zE7 WF.many w.1 w.2.1
theorem WR.low {h:Nat}{t:Tr h}(w:WR h t)(hk:(con h t).length≤1000000000):h≤29:=by
 have:=w.many
 rcases Nat.lt_or_ge h 30 with h1 | h1
 ·omega
 ·have h2:2 ^ 30≤2 ^ h:=Nat.pow_le_pow_right (by decide) h1
  have h3:(2:Nat) ^ 30=1073741824:=by decide
  omega
end Go.Bt
namespace Go.Eng.Sh
open Go.Nd (Ptr yF qP Kvs)
open Go.Bt
theorem cbx:(∀A o,qS (.ptr A o)=[.ptr A o])∧qS .nilPtr=[.nilPtr]∧qS .nilFunc=[.nilFunc]∧(∀k z,qS (.int k z)=[.int k z])∧(∀l,qS (S l)=[S l])∧(∀ed K V,qS (edF ed K V)=[edF ed K V])∧(∀A o,aveq (.ptr A o) (.ptr A o)=true):=
 ⟨fun _ _=>rfl,rfl,rfl,fun _ _=>rfl,fun _=>rfl,fun ed _ _=>by cases ed<;>rfl,fun _ _=>by simp[aveq]⟩
theorem zK1 {H H':AH}{At Ac F last:Nat}(s:Prs H H')(gC:H'.h.get Ac=some (.cells [.ptr At 0, .int .u64 (last:Nat), .map F, .nilSlice] 136 1 false))(gF:H'.h.get F=some (.map [10] []))(dC:H.next≤Ac)(dF:H.next≤F)(ne:Ac≠F):
  Ch H H' At Ac F [] [] .nilSlice [] last last:=
 ⟨s,gC,gF,trivial,Own.nil ..,fun B hB=>(Blk.nil.1 hB).elim,fun _ h=>by simp at h,dC,dF,ne,fun _ _ h=>by simp[qT]at h,Nat.le_refl _,by simp,by simp,by simp⟩
theorem UE (M n:Nat)(hM:300000000≤M)(hn:300000000≤n){H:AH}{At M0 K V last:Nat}{d c dr:AV}{root:Ptr}{es:List (AV×AV)}{q:PN}{kv:Kvs}{ed:Ed}(ti:TI H At M0 d c root es q last dr)(hq: ∀s nd,qT s q=some nd→s≤last)(hql:q.length≤last)(hl:last≤500000000)
  (hr:zFR q root kv) (hkv:kv.length≤1000000000) (ho:ed.ok) (hb:edB H ed K V):
  ∃(e:Nat) (H':AH),f52 (dy (M+2)) n [.ptr At 0,S ed.key,edF ed K V] H=some (.int .i64 (e:Nat),H')∧
   match ed.run kv with
   | none=>e=5∧Prs H H'
   | some kv'=>e=0∧zHN H H' At M0 d c dr last (last+200) kv':=by
 obtain⟨H1,B2,b1,p1,g1,m1,n1⟩:=box ti.ok (.cells [.ptr At 0] 25 1 false)
 obtain⟨H2,B4,b2,p2,g2,m2,n2⟩:=box p1.ok (.cells [S ed.key] 9 1 false)
 obtain⟨H3,B3,b3,p3,g3,m3,n3⟩:=box p2.ok (.cells [edF ed K V] 114 1 false)
 obtain⟨H4,F,b4,p4,g4,m4,n4⟩:=box p3.ok (.map [10] [])
 obtain⟨H5,Ac,b5,p5,g5,m5,n5⟩:=box p4.ok (.cells [.ptr At 0, .int .u64 (last:Nat), .map F, .nilSlice] 136 1 false)
 obtain⟨H6,B6,b6,p6,g6,m6,n6⟩:=box p5.ok (.cells [.nilPtr] 134 1 false)
 obtain⟨H7,e7,x7,s7⟩:=Box.st (⟨_,g6⟩:Box H6 B6 .nilPtr) p6.ok (x:= .ptr Ac 0) rfl
 have P12:=p1.trans p2
 have P13:=P12.trans p3
 have P15:=(P13.trans p4).trans p5
 have P16:=P15.trans p6
 have P17:Prs H H7:=P16.fresh s7 (fun B hB=>by have:=P15.next;omega)
 have N1:=p1.next;have N2:=p2.next;have N3:=p3.next;have N4:=p4.next;have N5:=p5.next;have N6:=p6.next;have N7:=s7.next
 have keep7: ∀ {A:Nat} {o:AObj},H5.h.get A=some o→H7.h.get A=some o:=fun {A o} hg=>by
  have:=p5.ok.lt hg
  rw[s7.keep _ (by omega) (by omega)];exact Prs.get p6 p5.ok hg
 have g57:=keep7 g5
 have g47:=keep7 (Prs.get p5 p4.ok g4)
 have ch:Ch H H7 At Ac F [] [] .nilSlice [] last last:=zK1 P17 g57 g47 (by omega) (by omega) (by omega)
 have ti7:=ti.prs P17
 have ti3:=ti.prs P13
 have k2:Box H7 B2 (.ptr At 0):=⟨_,keep7 (Prs.get (p4.trans p5) p3.ok (Prs.get p3 p2.ok (Prs.get p2 p1.ok g1)))⟩
 have k3:Box H7 B3 (edF ed K V):=⟨_,keep7 (Prs.get (p4.trans p5) p3.ok g3)⟩
 have k4:Box H7 B4 (S ed.key):=⟨_,keep7 (Prs.get (p4.trans p5) p3.ok (Prs.get p3 p2.ok g2))⟩
 have l2:ld1 (.ptr B2 0) H3=some (.ptr At 0):=by rw[qL (Prs.get p3 p2.ok (Prs.get p2 p1.ok g1))];rfl
 have l6:ld1 (.ptr At 6) H3=some (.int .u64 (last:Nat)):=by rw[qL ti3.gT];rfl
 have l2':ld1 (.ptr At 2) H7=some (.int .i64 root.at_):=by rw[qL ti7.gT];rfl
 have bs:jT [(0,1),(1,1),(2,1),(3,1)] [.nilPtr, .int .u64 ((0:Nat):Int), .nilMap, .nilSlice] [(0, .ptr At 0),(1, .int .u64 (last:Nat)),(2, .map F)]=some (.agg [.ptr At 0, .int .u64 (last:Nat), .map F, .nilSlice]):=rfl
 have bs1:jT [(0,1),(1,1),(2,1),(3,1)] [.bool false, .nilSlice, .nilSlice, .nilSlice] [(0, .bool true)]=some (.agg [.bool true, .nilSlice, .nilSlice, .nilSlice]):=rfl
 have t00: ¬(((0:Nat):Int)≠((0:Nat):Int)):=by omega
 have t50:(((5:Nat):Int)≠((0:Nat):Int)):=by omega
 rcases hr with⟨rfl,rfl⟩ | ⟨s,h,nd,t,S0,rfl,hs,rn,wr,nd0,rfl⟩
 ·
  have hroot:pZ.at_=((0:Nat):Int):=rfl
  rw[hroot]at l2'
  have wl:y8 H7 (.agg [.bool true, .nilSlice, .nilSlice, .nilSlice]) (qP []):=⟨.nilSlice, .nilSlice, .nilSlice,rfl, .inl (Own.nil ..), .inl (Own.nil ..), .inl (Own.nil ..)⟩
  have wlf:Lf none none ([]:Kvs):=⟨trivial,by simp⟩
  obtain⟨u,H8,_,e8,p8,w8⟩:=zF0 (M+1) n (by omega) P17.ok wl wlf (by decide) ho (hb.prs ti.ok P17)
  obtain⟨lu,rfl,lul,luc⟩:=w8.1.cells
  obtain⟨H9,B8,b9,p9,g9,m9,n9⟩:=box p8.ok (.cells [.bool false, .nilSlice, .nilSlice, .nilSlice] 111 1 false)
  obtain⟨H10,e10,g10,s10,n10⟩:=qV p9.ok g9 (l':=lu) lul luc
  have e10':stN 4 (.ptr B8 0) (.agg lu) H9=some (qM,H10):=e10
  have N8:=p8.next;have N9:=p9.next;have N10:=s10.next
  have P70:Prs H7 H10:=(p8.trans p9).fresh s10 (fun B hB=>by omega)
  have ch10:=ch.step P70
  cases hrun:ed.run []with
  | none=>
   have hel:edL ed []=(nd0,5):=by simp only[edL,hrun]
   rw[hel]at e8
   refine⟨5,H10, ?_,rfl,P17.trans P70⟩
   simp(maxSteps:=999999)(disch:=omega) only[f52,eZ,b1,b2,b3,cbx,l2,l6,mkM,b4,bs,b5,b6,e7,k2.ld,l2',k3.ld,bs1,e8,qK,nth,b9,e10',t50,ne_eq,not_false_eq_true]
  | some kv'=>
   have hel:edL ed []=(qP kv',0):=by simp only[edL,hrun]
   rw[hel]at e8 w8
   obtain⟨wf1,wf2⟩:=Ed.leaf (lo:=none) (hi:=none) wlf trivial trivial ho hrun
   have hne:kv'≠[]:=by
    cases ed with
    | put k v=>simp only[Ed.run,z7]at hrun;subst hrun;simp[Nd.putP]
    | del k=>simp[Ed.run,Nd.lookP]at hrun
   have hu10:jO H10 .nilSlice (.agg lu) (qP kv'):=⟨(w8.1.prs p9).stp s10 (fun B hB e=>by
    have:=w8.1.lt hB;omega),fun B hB hg=>(Blk.nil.1 hg).elim⟩
   obtain⟨H11,e11,ch11,a11⟩:=zFD (dy (M+2)) n ch10 hu10 (by omega)
   have hQ:Qf q ([]++[(last+1,qP kv')]) (pp (last+1))=some (qP kv'):=by rw[Y2];simp[qT]
   obtain⟨H12,e12,dn⟩:=dL (dy (M+2)) n (s:=last+1) (h:=0) (t:=kv') (S:=[]) (Fr:=[pp (last+1)]) (R:=[]) ti hq ch11 (by simp) (by omega) (by simp;omega) hql hQ ⟨rfl,rfl⟩ ⟨wf1,hne,by simp only[uS]at wf2;omega⟩ (by simp) (by simp) (by
    intro p hp;simp only[List.mem_singleton]at hp;subst hp;exact⟨_,rfl,by omega⟩) (by simp) (by simp)
   refine⟨0,H12, ?_,rfl,dn.mono (by omega) (by omega)⟩
   have k6:ld1 (.ptr B6 0) H10=some (.ptr Ac 0):=(x7.mono s7.ok P70 (fun x=>x)).ld
   have k6':ld1 (.ptr B6 0) H11=some (.ptr Ac 0):=by
    refine((x7.mono s7.ok P70 (fun x=>x)).mono P70.ok a11.1 (fun hc=> ?_)).ld
    rcases hc with e | e | e
    ·omega
    ·omega
    ·exact(Blk.nil.1 e).elim
   simp(maxSteps:=999999)(disch:=omega) only[f52,eZ,b1,b2,b3,cbx,l2,l6,mkM,b4,bs,b5,b6,e7,k2.ld,l2',k3.ld,bs1,e8,qK,nth,b9,e10',t00,k6,v8 g10 lul,e11,j0 k6' (cbx.2.2.2.2.2.2 _ _),e12]
 ·
  have hroot:(pp s).at_=((1:Nat):Int):=rfl
  rw[hroot]at l2'
  have h10: ¬((1:Nat):Int)=((0:Nat):Int):=by omega
  have hh:=wr.low hkv
  obtain⟨H8,B1,b8,p8,g8,m8,n8⟩:=box P17.ok (.cells [.int .i64 ((0:Nat):Int)] 3 1 false)
  obtain⟨H9,e9,x9,s9⟩:=Box.st (⟨_,g8⟩:Box H8 B1 (.int .i64 ((0:Nat):Int))) p8.ok (x:= .int .i64 ((0:Nat):Int)) rfl
  obtain⟨H10,B5,b10,p10,g10,m10,n10⟩:=box s9.ok (.cells [.nilFunc] 139 1 false)
  obtain⟨H11,e11,x11,s11⟩:=Box.st (⟨_,g10⟩:Box H10 B5 .nilFunc) p10.ok (x:=zCf B1 B2 B3 B4 B5 B6) rfl
  obtain⟨H12,B8,b12,p12,g12,m12,n12⟩:=box s11.ok (.cells [.bool false, .nilSlice, .nilSlice, .nilSlice] 111 1 false)
  have N8:=p8.next;have N9:=s9.next;have N10:=p10.next;have N11:=s11.next;have N12:=p12.next
  have P79:Prs H7 H9:=p8.fresh s9 (fun B hB=>by omega)
  have P7b:Prs H7 H11:=(P79.trans p10).fresh s11 (fun B hB=>by omega)
  have P7c:Prs H7 H12:=P7b.trans p12
  have ch12:=ch.step P7c
  have ti12:=ti7.prs P7c
  have ti11:=ti7.prs P7b
  have x9':Box H12 B1 (.int .i64 ((0:Nat):Int)):=((x9.mono s9.ok p10 (fun x=>x)).mono p10.ok s11 (by omega)).mono s11.ok p12 (fun x=>x)
  have x11':Box H12 B5 (zCf B1 B2 B3 B4 B5 B6):=x11.mono s11.ok p12 (fun x=>x)
  have k6:Box H12 B6 (.ptr Ac 0):=x7.mono s7.ok P7c (fun x=>x)
  have cl:Cl H H12 At Ac K V ed B1 B2 B3 B4 B5 B6 0:=⟨x9',k2.mono s7.ok P7c (fun x=>x),k3.mono s7.ok P7c (fun x=>x),k4.mono s7.ok P7c (fun x=>x),x11',k6,hb,by omega,by omega,by omega,by omega,by omega,by omega⟩
  have hold: ∀kv∈es,∀B,xJ kv.2 B→B<H.next:=fun kv hkv B hB=>by
   obtain⟨nd2,hn2⟩:=ti.pq.mem kv hkv
   exact hn2.lt hB
  have hne:0<h→nd.keys≠[]:=fun h0=>by
   cases h with
   | zero=>omega
   | succ h=>rw[rn.2.1];exact wr.2.1
  obtain⟨u,e,g',H13,e13,s13,⟨lu,rfl,lul,luc⟩,hout⟩:=zJU ti hold hq ho h M (M+1) (by omega) (by omega) ch12 cl hs rn wr.gen wr.sz hne (by cases h<;>trivial) (by cases h<;>trivial) (by omega) (by omega) (by simp;omega)
  have hB8: ¬(chg Ac F .nilSlice B8∨B8=B1):=fun hc=>by
   rcases hc with(e | e | e) | e
   ·omega
   ·omega
   ·exact(Blk.nil.1 e).elim
   ·omega
  have g813:H13.h.get B8=some (.cells [.bool false, .nilSlice, .nilSlice, .nilSlice] 111 1 false):=by rw[s13.keep _ n12 hB8];exact g12
  have k613:Box H13 B6 (.ptr Ac 0):=k6.mono p12.ok s13 (fun hc=>by
   rcases hc with(e | e | e) | e
   ·omega
   ·omega
   ·exact(Blk.nil.1 e).elim
   ·omega)
  obtain⟨H14,e14,g14,s14,n14⟩:=qV s13.ok g813 (l':=lu) lul luc
  have e14':stN 4 (.ptr B8 0) (.agg lu) H13=some (qM,H14):=e14
  have k614:ld1 (.ptr B6 0) H14=some (.ptr Ac 0):=(k613.mono s13.ok s14 (by omega)).ld
  have l2b:ld1 (.ptr B2 0) H11=some (.ptr At 0):=(k2.mono s7.ok P7b (fun x=>x)).ld
  have lr:ldN 3 (.ptr At 2) H11=some (.agg (qW (pp s))):=by rw[qQ ti11.gT];rfl
  have x11l:=x11.ld
  have hcd:callV (s52 (dy (M+2)) n).S (dy (M+2)) (zCf B1 B2 B3 B4 B5 B6) [.agg (qW (pp s))] H12=some (.tuple [.agg lu, .int .i64 ((e:Nat):Int)],H13):=e13
  have hdf:(.func 71 [] [.ptr B1 0, .ptr B2 0, .ptr B3 0, .ptr B4 0, .ptr B5 0, .ptr B6 0]:AV)=zCf B1 B2 B3 B4 B5 B6:=rfl
  cases hrun:ed.run (con h t)with
  | none=>
   rw[hrun]at hout
   have hout:e=5:=hout
   subst hout
   refine⟨5,H14, ?_,rfl,⟨s14.ok,by have:=s13.next;have:=s14.next;omega,fun B hB _=> ?_⟩⟩
   ·simp(maxSteps:=999999)(disch:=omega) only[f52,eZ,b1,b2,b3,cbx,l2,l6,mkM,b4,bs,b5,b6,e7,k2.ld,l2',h10,b8,e9,b10,hdf,e11,x11l,l2b,lr,b12,hcd,qK,nth,e14',t50,ne_eq,not_false_eq_true]
   ·have:=s13.next
    rw[s14.keep B (by omega) (by omega),s13.keep B (by omega) (fun hc=>by
     rcases hc with(e | e | e) | e
     ·omega
     ·omega
     ·exact(Blk.nil.1 e).elim
     ·omega),P7c.keep B (by omega) (fun x=>x),P17.keep B hB (fun x=>x)]
  | some kv'=>
   rw[hrun]at hout
   obtain⟨rfl,fes',f',gl',last',d',nd',S',G,R,Fr,t',ch13,cl13,hA13,rn13,wx13,con13,nk13,hgl,hG,hl1,hl2,hd',pm1,pm2,frn,fr1,more,bg⟩:=hout
   have ch14:=ch13.stb g813 s14 (by omega) (by omega)
   have hA14:=hA13.stb g813 s14
   rw[List.nil_append]at hgl
   subst hgl
   have hSn:(pp s::S0).Nodup:=nd0
   have hGR:(gl'++R).Nodup:=pm2.nodup_iff.1 hSn
   have hall: ∀p∈pp s::S0,∃nd,Qf q [] p=some nd:=fun p hp=>by
    rcases List.mem_cons.1 hp with rfl | hp
    ·exact⟨nd,by rw[Y2];simpa[qT]using hs⟩
    ·exact yZ.here rn p hp
   have hin: ∀p∈gl'++R,∃nd,Qf q [] p=some nd:=fun p hp=>hall p (pm2.mem_iff.2 hp)
   have hglp: ∀p∈gl',∃s,p=pp s:=fun p hp=>by
    obtain⟨nd2,h2⟩:=hin p (zV _ hp)
    obtain⟨s2,rfl,_⟩:=bC h2
    exact⟨s2,rfl⟩
   obtain⟨H15,e15,dn⟩:=zHh (dy (M+2)) n (by omega) ti hq ch14 hglp (by omega) (by omega) hql hA14 rn13 wx13 pm1 hGR fr1 frn (fun p hp=>hin p (zY _ hp))
   rw[con13]at dn
   refine⟨0,H15, ?_,rfl,dn.mono (by omega) (by omega)⟩
   simp(maxSteps:=999999)(disch:=omega) only[f52,eZ,b1,b2,b3,cbx,l2,l6,mkM,b4,bs,b5,b6,e7,k2.ld,l2',h10,b8,e9,b10,hdf,e11,x11l,l2b,lr,b12,hcd,qK,nth,e14',t00,k614,v8 g14 lul,e15]
open Go.Nd (mayK putP delP lookP)
def jI (H:AH)(At M L:Nat)(kv:Kvs):Prop:= ∃d c dr root es q last,dr= .nilSlice∧isCell c=true∧TI H At M d c root es q last dr∧(∀s nd,qT s q=some nd→s≤last)∧q.length≤last∧last≤L∧zFR q root kv
theorem jI.prs {H H':AH}{At M L:Nat}{kv:Kvs}(h:jI H At M L kv)(s:Prs H H'):jI H' At M L kv:=by
 obtain⟨d,c,_,root,es,q,last,rfl,hc,ti,h2⟩:=h
 exact⟨d,c,_,root,es,q,last,rfl,hc,ti.prs s,h2⟩
theorem jI.up {H:AH}{At M L L':Nat}{kv:Kvs}(h:jI H At M L kv)(hl:L≤L'):jI H At M L' kv:=by
 obtain⟨d,c,_,root,es,q,last,rfl,hc,ti,h2,h3,h4,h5⟩:=h
 exact⟨d,c,_,root,es,q,last,rfl,hc,ti,h2,h3,by omega,h5⟩
theorem zHN.treeI {H0 H':AH}{At M low top:Nat}{d c:AV}{kv:Kvs}(h:zHN H0 H' At M d c .nilSlice low top kv)(hc:isCell c=true):jI H' At M top kv∧Stp (fun B=>B=At∨B=M) H0 H':=by
 obtain⟨root,es,q,last,h1,h2,h3,h4,h5,h6,h7⟩:=h
 exact⟨⟨d,c,_,root,es,q,last,rfl,hc,h1,h3,h4,h6,h7⟩,h2⟩
theorem TI.stp {S:Nat→Prop}{H H':AH}{At M last:Nat}{d c dr:AV}{root:Ptr}{es:List (AV×AV)}{q:PN}(h:TI H At M d c root es q last dr)(s:Stp S H H')(hA: ¬S At)(hM: ¬S M)(hN: ∀kv∈es,∀B,xJ kv.2 B→ ¬S B):TI H' At M d c root es q last dr:=by
 refine⟨s.ok,by rw[s.keep _ (h.ok.lt h.gT) hA];exact h.gT,by rw[s.keep _ (h.ok.lt h.gM) hM];exact h.gM, ?_,h.hd,h.few⟩
 exact h.pq.frame fun kv hkv nd hn=>hn.stp s (hN kv hkv)
theorem jI.other {H H':AH}{At M L At' M' L':Nat}{kv kv':Kvs}(h:jI H At M L kv)(h':jI H At' M' L' kv')(ne:At≠At'∧M≠M')(s:Stp (fun B=>B=At'∨B=M') H H'):jI H' At M L kv:=by
 obtain⟨d,c,_,root,es,q,last,rfl,hc,ti,h2⟩:=h
 obtain⟨d',c',_,root',es',q',last',rfl,_,ti',_⟩:=h'
 refine⟨d,c,_,root,es,q,last,rfl,hc,ti.stp s (fun e=> ?_) (fun e=> ?_) (fun kv hkv B hB e=> ?_),h2⟩
 ·rcases e with e | e
  ·exact ne.1 e
  ·have:=ti.gT;rw[e,ti'.gM]at this;cases this
 ·rcases e with e | e
  ·have:=ti.gM;rw[e,ti'.gT]at this;cases this
  ·exact ne.2 e
 ·obtain⟨nd,hn⟩:=ti.pq.mem kv hkv
  rcases e with e | e
  ·subst e;exact hn.nblk ti'.gT (.inl ⟨_,_,_,_,rfl,fun _ _ e=>by obtain⟨_,_,e'⟩:=ti'.hd;rw[e']at e;cases e⟩) hB
  ·subst e;exact hn.nblk ti'.gM (.inr (.inl ⟨_,_,rfl⟩)) hB
def ZT (k v:Str):Bool:=mayK k&&decide (v.length≤200)
theorem zJ7 (m n:Nat)(hm:300000000≤m)(hn:300000000≤n){H:AH}{At M L:Nat}{kv:Kvs}{k v:Str}(t:jI H At M L kv)(hL:L≤500000000)(hkv:kv.length≤1000000000):
  ∃H',f30 (dy (m+2)) n [.ptr At 0,S k,S v] H=some (.int .i64 ((if ZT k v then 0 else 1:Nat):Int),H')∧jI H' At M (L+200) (if ZT k v then putP k v kv else kv)∧Stp (fun B=>B=At∨B=M) H H':=by
 obtain⟨d,c,_,root,es,q,last,rfl,hc,ti,h2,h3,h4,h5⟩:=id t
 obtain⟨H1,A4,b1,p1,g1,m1,n1⟩:=box ti.ok (.cells [S k] 9 1 false)
 obtain⟨H2,A5,b2,p2,g2,m2,n2⟩:=box p1.ok (.cells [S v] 9 1 false)
 have P2:=p1.trans p2
 have ti2:=ti.prs P2
 have x4:Box H2 A4 (S k):=⟨_,Prs.get p2 p1.ok g1⟩
 have x5:Box H2 A5 (S v):=⟨_,g2⟩
 have hno:=Q2 (dy (m+2)) n ti2
 by_cases hp:ZT k v=true
 ·obtain⟨hp1,hp2⟩:mayK k=true∧v.length≤200:=by simpa[ZT]using hp
  obtain⟨e,H3,e3,hout⟩:=UE m n hm hn (ed:= .put k v) ti2 h2 h3 (by omega) h5 hkv ⟨hp1,hp2⟩ ⟨x4,x5⟩
  simp only[Ed.run]at hout
  obtain⟨rfl,dn⟩:=hout
  obtain⟨d1,d2⟩:=dn.treeI hc
  simp only[Nd.mayK,z8,zD]at hp1
  refine⟨H3, ?_,by rw[if_pos hp];exact d1.up (by omega),(P2.mono fun _ _ x=>x.elim).trans d2⟩
  have a1: ¬((k.length:Nat):Int)< ((1:Nat):Int):=by omega
  have a2: ¬((40:Nat):Int)< ((k.length:Nat):Int):=by omega
  have a3: ¬((200:Nat):Int)< ((v.length:Nat):Int):=by omega
  have e3':f52 (dy (m+2)) n [.ptr At 0,S k, .func 53 [] [.ptr A4 0, .ptr A5 0]] H2=some (.int .i64 ((0:Nat):Int),H3):=e3
  simp(maxSteps:=999999)(disch:=omega) only[f30,eZ,cbx,b1,b2,hno,x4.ld,x5.ld,a1,a2,a3,e3',hp]
 ·refine⟨H2, ?_,by rw[if_neg hp];exact(t.prs P2).up (by omega),P2.mono fun _ _ x=>x.elim⟩
  have hx:((k.length:Nat):Int)< ((1:Nat):Int)∨((40:Nat):Int)< ((k.length:Nat):Int)∨((200:Nat):Int)< ((v.length:Nat):Int):=by
   simp only[ZT,Nd.mayK,z8,zD]at hp
   omega
  simp(maxSteps:=999999)(disch:=omega) only[f30,eZ,cbx,b1,b2,hno,x4.ld,x5.ld,hp]
  rw[if_pos (by simpa[or_assoc]using hx)]
  rfl
def YD (k:Str)(kv:Kvs):Nat:=if mayK k then(if(lookP k kv).isSome then 0 else 5)else 1
theorem zJX (m n:Nat)(hm:300000000≤m)(hn:300000000≤n){H:AH}{At M L:Nat}{kv:Kvs}{k:Str}(t:jI H At M L kv)(hL:L≤500000000)(hkv:kv.length≤1000000000):
  ∃H',f38 (dy (m+2)) n [.ptr At 0,S k] H=some (.int .i64 ((YD k kv:Nat):Int),H')∧jI H' At M (L+200) (if YD k kv=0 then delP k kv else kv)∧Stp (fun B=>B=At∨B=M) H H':=by
 obtain⟨d,c,_,root,es,q,last,rfl,hc,ti,h2,h3,h4,h5⟩:=id t
 obtain⟨H1,A4,b1,p1,g1,m1,n1⟩:=box ti.ok (.cells [S k] 9 1 false)
 have ti1:=ti.prs p1
 have x4:Box H1 A4 (S k):=⟨_,g1⟩
 have hno:=Q2 (dy (m+2)) n ti1
 by_cases hp:mayK k=true
 ·obtain⟨e,H3,e3,hout⟩:=UE m n hm hn (V:=0) (ed:= .del k) ti1 h2 h3 (by omega) h5 hkv hp x4
  have hp1:=hp
  simp only[Nd.mayK,z8,zD]at hp1
  have a1: ¬((k.length:Nat):Int)< ((1:Nat):Int):=by omega
  have a2: ¬((40:Nat):Int)< ((k.length:Nat):Int):=by omega
  have e3':f52 (dy (m+2)) n [.ptr At 0,S k, .func 56 [] [.ptr A4 0]] H1=some (.int .i64 ((e:Nat):Int),H3):=e3
  have run:f38 (dy (m+2)) n [.ptr At 0,S k] H=some (.int .i64 ((e:Nat):Int),H3):=by
   simp(maxSteps:=999999)(disch:=omega) only[f38,eZ,cbx,b1,hno,x4.ld,a1,a2,e3',hp]
  cases hr:(Ed.del k).run kv with
  | none=>
   rw[hr]at hout
   obtain⟨rfl,p3⟩:=hout
   have hl:(lookP k kv).isSome=false:=by
    simp only[Ed.run]at hr
    split at hr
    ·cases hr
    ·rename_i h;simpa using h
   have hde:YD k kv=5:=by simp only[YD,hp,if_true,hl,Bool.false_eq_true,if_false]
   refine⟨H3,by rw[hde];exact run,by rw[hde];exact(t.prs (p1.trans p3)).up (by omega),(p1.trans p3).mono fun _ _ x=>x.elim⟩
  | some kv'=>
   rw[hr]at hout
   obtain⟨rfl,dn⟩:=hout
   obtain⟨d1,d2⟩:=dn.treeI hc
   have hl:(lookP k kv).isSome=true∧delP k kv=kv':=by
    simp only[Ed.run]at hr
    split at hr
    ·rename_i h;exact⟨h,by simpa using hr⟩
    ·cases hr
   have hde:YD k kv=0:=by simp only[YD,hp,if_true,hl.1]
   refine⟨H3,by rw[hde];exact run,by rw[hde,if_pos rfl,hl.2];exact d1.up (by omega),(p1.mono fun _ _ x=>x.elim).trans d2⟩
 ·have hde:YD k kv=1:=by simp only[YD,hp,Bool.false_eq_true,if_false]
  refine⟨H1, ?_,by rw[hde];exact(t.prs p1).up (by omega),p1.mono fun _ _ x=>x.elim⟩
  rw[hde]
  have hx:((k.length:Nat):Int)< ((1:Nat):Int)∨((40:Nat):Int)< ((k.length:Nat):Int):=by
   simp only[Nd.mayK,z8,zD]at hp
   omega
  simp(maxSteps:=999999)(disch:=omega) only[f38,eZ,cbx,b1,hno,x4.ld]
  rw[if_pos (by simpa using hx)]
  rfl
end Go.Eng.Sh
end
section
namespace Go.Eng
def Stk (k e:Nat)(H:AH)(v:AV)(n:Nat)(l:List AV):Prop:=
 l.length=n*k∧((v= .nilSlice∧n=0)∨ ∃A cc cells g r,v= .slice A 0 n cc∧A<H.next∧H.h.get A=some (.cells cells e k g)∧cells.length=r*k∧n≤r∧cells.take (n*k)=l∧(cc=2*r∨(cc=1∧g=true)))
theorem Stk.row {k e n:Nat}{H:AH}{v:AV}{l:List AV}(h:Stk k e H v n l):Rw k H v n l:=by
 obtain⟨h0,⟨rfl,rfl⟩ | ⟨A,cc,cells,g,r,rfl,hA,hg,hl,hn,ht,_⟩⟩:=h
 ·exact⟨h0, .inl ⟨rfl,rfl⟩⟩
 ·have:=zU k hn
  exact⟨h0, .inr (.inr ⟨A,0,cc,cells,e,k,g,rfl,hg,hA,by omega,by rw[List.drop_zero];exact ht⟩)⟩
theorem Stk.mono {k e n:Nat}{S:Nat→Prop}{H H':AH}{v:AV}{l:List AV}(h:Stk k e H v n l)(s:Stp S H H')(hS: ∀A,Blk v A→ ¬S A):Stk k e H' v n l:=by
 obtain⟨h0,h1 | ⟨A,cc,cells,g,r,rfl,hA,hg,h2⟩⟩:=h
 ·exact⟨h0, .inl h1⟩
 ·exact⟨h0, .inr ⟨A,cc,cells,g,r,rfl,zQ hA s.next,by rw[s.keep A hA (hS A (Blk.slice.2 rfl))];exact hg,h2⟩⟩
theorem Stk.lt {k e n:Nat}{H:AH}{v:AV}{l:List AV}(h:Stk k e H v n l){B:Nat}(hB:Blk v B):B<H.next:=by
 obtain⟨h0,⟨rfl,rfl⟩ | ⟨A,cc,cells,g,r,rfl,hA,hg,h2⟩⟩:=h
 ·exact(Blk.nil.1 hB).elim
 ·rw[Blk.slice.1 hB];exact hA
theorem Stk.isCell {k e n:Nat}{H:AH}{v:AV}{l:List AV}(h:Stk k e H v n l):isCell v=true:=h.row.isCell
theorem Stk.room {k:Nat}{cells:List AV}{g:Bool}{cc r:Nat}(hpos:0<k)(hl:cells.length=r*k)(hc:cc=2*r∨(cc=1∧g=true)):yG cells g k 0 cc k=r:=by
 rcases hc with rfl | ⟨rfl,rfl⟩
 ·simp only[yG,show((2*r) % 2).beq 0=true by rw[Nat.mul_mod_right];rfl,cond_true,Nat.mul_div_cancel_left r (show 0<2 by omega)]
 ·simp only[yG,show((1 % 2).beq 0)=false from rfl,cond_false,Nat.beq_refl,show Nat.beq 0 (1 / 2*k)=true from by simp,Bool.and_self,cond_true,qY,hl,Nat.sub_zero]
  exact Nat.mul_div_cancel _ hpos
theorem Stk.cut {k e n i:Nat}{H:AH}{v:AV}{l:List AV}(h:Stk k e H v n l)(hpos:0<k)(hi:i≤n)(κ:IntKind):
  ∃r,j7 k v none (some (.int κ (i:Nat))) none H=some r∧Stk k e H r i (l.take (i*k))∧ ∀B,Blk r B→Blk v B:=by
 have n1:=yO κ (z:=((i:Nat):Int)) (by omega)
 simp only[zW]at n1
 have hb:Nat.blt 0 k=true:=by rw[zJ];exact hpos
 have hmul:i*k≤n*k:=zU _ hi
 obtain⟨h0,⟨rfl,rfl⟩ | ⟨A,cc,cells,g,r,rfl,hA,hg,hl,hn,ht,hc⟩⟩:=h
 ·obtain rfl:i=0:=by omega
  exact⟨.nilSlice,by simp only[j7,yN,n1];simp,⟨by simp, .inl ⟨rfl,rfl⟩⟩,fun B hB=>hB⟩
 ·have b1:Nat.ble i r=true:=by rw[zR];omega
  have b2:Nat.ble 0 i=true:=by rw[zR];omega
  have hr:=Stk.room hpos hl hc
  have hlt:(l.take (i*k)).length=i*k:=by rw[zI,h0];omega
  have htk:cells.take (i*k)=l.take (i*k):=by rw[← ht,List.take_take,Nat.min_eq_left hmul]
  rcases hc with rfl | ⟨rfl,rfl⟩
  ·refine⟨.slice A 0 i (2*r), ?_,⟨hlt, .inr ⟨A,2*r,cells,g,r,rfl,hA,hg,hl,by omega,htk, .inl rfl⟩⟩,fun B hB=>by rw[Blk.slice.1 hB];exact Blk.slice.2 rfl⟩
   have e2:(2*r) / 2=r:=Nat.mul_div_cancel_left r (show 0<2 by omega)
   simp only[j7,yN,n1,hg,hb,cond_true,ZA,hr,Option.getD_none,Option.getD_some,b1,b2,Bool.and_self,show((2*r) % 2).beq 0=true by rw[Nat.mul_mod_right];rfl,yB,Nat.zero_mul,Nat.add_zero,Nat.sub_zero,e2]
   cases Nat.beq r 0<;>rfl
  ·refine⟨.slice A 0 i 1, ?_,⟨hlt, .inr ⟨A,1,cells,true,r,rfl,hA,hg,hl,by omega,htk, .inr ⟨rfl,rfl⟩⟩⟩,fun B hB=>by rw[Blk.slice.1 hB];exact Blk.slice.2 rfl⟩
   simp only[j7,yN,n1,hg,hb,cond_true,ZA,hr,Option.getD_none,Option.getD_some,b1,b2,Bool.and_self,show((1 % 2).beq 0)=false from rfl,cond_false,yB,show Nat.beq 0 0=true from rfl]
theorem Stk.app {k e bytes n m:Nat}{H:AH}{v s:AV}{l new:List AV}(hk:H.ok)(hpos:0<k)(h:Stk k e H v n l)(hs:srcOf k s H=some (m,new))(hm:new.length=m*k)(hc:qO new=true)(hm1:m=1)(hn:n+m≤1000000000)(hb:bytes≤1000):
  ∃v' H',apP e k bytes v s H=some (v',H')∧Stk k e H' v' (n+m) (l++new)∧Stp (Blk v) H H'∧ ∀B,Blk v' B→Blk v B∨H.next≤B:=by
 suffices hx: ∃v' H',app1 e k bytes m new v H=some (v',H')∧Stk k e H' v' (n+m) (l++new)∧Stp (Blk v) H H'∧ ∀B,Blk v' B→Blk v B∨H.next≤B by
  obtain⟨v',H',h1,h2⟩:=hx
  exact⟨v',H',by simp only[apP,hs,hc,cond_true,h1],h2⟩
 have own: ∀ {H':AH},Own k e H' (.slice H.next 0 (n+m) 1) (n+m) (l++new)→Stk k e H' (.slice H.next 0 (n+m) 1) (n+m) (l++new):=fun {H'} ho=>by
  obtain⟨q0,⟨q1,_⟩ | ⟨A,q1,q2,q3⟩⟩:=ho
  ·cases q1
  ·exact⟨q0, .inr ⟨A,1,_,true,n+m,q1,q2,q3,q0,Nat.le_refl _,zL (by omega), .inr ⟨rfl,rfl⟩⟩⟩
 have h':=h
 obtain⟨h0,⟨rfl,rfl⟩ | ⟨A,cc,cells,g,r,rfl,hA,hg,hl,hnr,ht,hcc⟩⟩:=h
 ·obtain rfl:l=[]:=zF (by simpa using h0)
  obtain⟨H',e1,e2,e3,e4⟩:=WT (k:=k) (e:=e) (bytes:=bytes) (new:=new) (n:=0) (m:=m) hk hpos (Own.nil k e H) hm (by omega) hn hb
  exact⟨_,H',e1,own e2,e3,fun B hB=> .inr (by rw[Blk.slice.1 hB];exact Nat.le_refl _)⟩
 ·have hr:=Stk.room hpos hl hcc
  have hmul:=zU k hnr
  by_cases hroom:n+m≤r
  ·have b1:Nat.ble (n+m) r=true:=by rw[zR];exact hroom
   have hz:Nat.blt 0 k=true:=by rw[zJ];exact hpos
   have hmul2:=zU k hroom
   rw[Nat.add_mul]at hmul2
   have hset:setAt cells (0+n*k) new=some (cells.take (n*k)++new++cells.drop (n*k+m*k)):=by rw[vL (by omega),hm];simp only[Nat.zero_add]
   have hlen:(cells.take (n*k)).length=n*k:=by rw[ht,h0]
   refine⟨.slice A 0 (n+m) cc,H.put A (.cells (cells.take (n*k)++new++cells.drop (n*k+m*k)) e k g), ?_,⟨by simp[h0,hm,Nat.add_mul], .inr ⟨A,cc,_,g,r,rfl,hA,by rw[AH.put_get,if_pos rfl], ?_,hroom, ?_,hcc⟩⟩,(Stp.refl hk).put hA _ (.inr (Blk.slice.2 rfl)),fun B hB=> .inl (by rw[Blk.slice.1 hB];exact Blk.slice.2 rfl)⟩
   ·simp only[app1,hg,zFx,hr,b1,cond_true,hz,hset,zAq,jB,yB]
   ·simp only[zH,hlen,hm,zO];omega
   ·rw[ht,List.take_append_of_le_length (by simp[h0,hm,Nat.add_mul]),zL (by simp[h0,hm,Nat.add_mul])]
  ·have b1:Nat.ble (n+m) r=false:=by rw[Bool.eq_false_iff];intro e;rw[zR]at e;omega
   have hsub:vT cells 0 (n*k)=some l:=by rw[j6 _ _ _ (.inr (by omega)),List.drop_zero,ht]
   rcases hcc with rfl | ⟨rfl,rfl⟩
   ·refine⟨.slice H.next 0 (n+m) 1,H.push (.cells (l++new) e k true), ?_,own ⟨by simp[h0,hm,Nat.add_mul], .inr ⟨H.next,rfl,Nat.lt_succ_self _,AH.push_get_eq _ _⟩⟩,(Stp.refl hk).push _,fun B hB=> .inr (by rw[Blk.slice.1 hB];exact Nat.le_refl _)⟩
    simp only[app1,hg,zFx,hr,b1,cond_false,show((2*r) % 2).beq 0=true by rw[Nat.mul_mod_right];rfl,cond_true,hsub,kP,bE hn hb,gD,gW hk,yB]
   ·obtain rfl:n=r:=by omega
    have hlen:Nat.beq (0+n*k) (cU cells 0)=true:=by rw[qY,hl,Nat.zero_add,Nat.beq_refl]
    have hpd:(H.put A .dead).ok:=hk.put hA _
    refine⟨.slice H.next 0 (n+m) 1,(H.put A .dead).push (.cells (l++new) e k true), ?_,own ⟨by simp[h0,hm,Nat.add_mul], .inr ⟨H.next,rfl,Nat.lt_succ_self _,AH.push_get_eq (H.put A .dead) _⟩⟩,((Stp.refl hk).put hA _ (.inr (Blk.slice.2 rfl))).push _,fun B hB=> .inr (by rw[Blk.slice.1 hB];exact Nat.le_refl _)⟩
    simp only[app1,hg,zFx,hr,b1,cond_false,show((1 % 2).beq 0)=false from rfl,hlen,Nat.beq_refl,show Nat.beq 0 (1 / 2*k)=true from by simp,Bool.and_self,cond_true,jB,hsub,kP,
     bE hn hb,gD,gW hpd,yB,AH.put_next]
end Go.Eng
end
section
namespace Go.Eng.Sh
open Go.Nd (Ptr yF)
end Go.Eng.Sh
end
section
namespace Go.Eng
theorem VA {H:AH}(hk:H.ok)(o:AObj)(K:Nat→AH→Rs):zAZ H o K=K H.next (H.push o):=zDP hk o K
end Go.Eng
namespace Go.Eng.Sh
open Go.Nd (Ptr yF)
open Go.Nd (qP Kvs Srt mayK putP delP lookP)
open Go.Bt
def Item (q:PN)(p:Ptr)(c:Kvs)(w:Nat):Prop:= ∃s nd h,∃t:Bt.Tr h,∃S lo hi,p=pp s∧qT s q=some nd∧yZ (Qf q []) h nd t S∧Gen h lo hi t∧(0<h→nd.keys≠[])∧yV h t≤500∧c=con h t∧w=1+S.length
def YG (q:PN):List Ptr→Kvs→Nat→Prop
 | [],c,w=>c=[]∧w=0
 | p::ps,c,w=> ∃c1 c2 w1 w2,Item q p c1 w1∧YG q ps c2 w2∧c=c1++c2∧w=w1+w2
theorem YG.app {q:PN}{ps':List Ptr}{c':Kvs}{w':Nat}(h':YG q ps' c' w'): ∀ {ps:List Ptr} {c:Kvs} {w:Nat},YG q ps c w→YG q (ps++ps') (c++c') (w+w')
 | [],_,_,⟨e1,e2⟩=>by subst e1;subst e2;simpa using h'
 | p::ps,_,_,⟨c1,c2,w1,w2,a,b,e1,e2⟩=>⟨c1,c2++c',w1,w2+w',a,YG.app h' b,by rw[e1];simp,by omega⟩
theorem YG.len {q:PN} : ∀ {ps:List Ptr} {c:Kvs} {w:Nat},YG q ps c w→ps.length≤w
 | [],_,_,_=>by simp
 | p::ps,_,_,⟨c1,c2,w1,w2,⟨_,_,_,_,_,_,_,_,_,_,_,_,_,_,e⟩,b,e1,e2⟩=>by
  have:=YG.len b
  simp only[zG];omega
theorem zDx: ∀(q:PN) (T:List Ptr),T.Nodup→(∀p∈T,∃s nd,p=pp s∧qT s q=some nd)→T.length≤q.length
 | [],T,_,h=>by
  cases T with
  | nil=>simp
  | cons p T=>obtain⟨s,nd,_,e⟩:=h p (zB ..);cases e
 | (a,n)::q,T,hn,h=>by
  by_cases hm:pp a∈T
  ·have h1:=zDx q (T.erase (pp a)) (hn.erase _) fun p hp=>by
    obtain⟨h2,h3⟩:=(List.Nodup.mem_erase_iff hn).1 hp
    obtain⟨s,nd,e,hs⟩:=h p h3
    refine⟨s,nd,e, ?_⟩
    simp only[qT]at hs
    rw[if_neg (fun e2=>h2 (by rw[e,e2]))]at hs
    exact hs
   rw[List.length_erase_of_mem hm]at h1
   simp only[zG];omega
  ·have h1:=zDx q T hn fun p hp=>by
    obtain⟨s,nd,e,hs⟩:=h p hp
    refine⟨s,nd,e, ?_⟩
    simp only[qT]at hs
    rw[if_neg (fun e2=>hm (by rw[e2, ← e];exact hp))]at hs
    exact hs
   simp only[zG];omega
theorem zBV {q:PN}{h s:Nat}{nd:Nd.Node}{t:Bt.Tr h}{S:List Ptr}(hs:qT s q=some nd)(rn:yZ (Qf q []) h nd t S)(wr:WR h t)(nd0:(pp s::S).Nodup):YG q [pp s] (con h t) (1+S.length)∧1+S.length≤q.length:=by
 constructor
 ·refine⟨con h t,[],1+S.length,0,⟨s,nd,h,t,S,none,none,rfl,hs,rn,wr.gen,fun h0=> ?_,wr.sz,rfl,rfl⟩,⟨rfl,rfl⟩,by simp,by omega⟩
  cases h with
  | zero=>omega
  | succ h=>rw[rn.2.1];exact wr.2.1
 ·have:=zDx q (pp s::S) nd0 fun p hp=>by
   rcases List.mem_cons.1 hp with rfl | hp
   ·exact⟨s,nd,rfl,hs⟩
   ·obtain⟨nd2,h2⟩:=yZ.here rn p hp
    obtain⟨s2,rfl,h3 | ⟨_,h3⟩⟩:=bC h2
    ·simp[qT]at h3
    ·exact⟨s2,nd2,rfl,h3⟩
  simp only[zG]at this;omega
end Go.Eng.Sh
end
section
namespace Go.Eng
end Go.Eng
namespace Go.Eng.Sh
open Go.Nd (Ptr yF qP Kvs Srt mayK putP delP lookP)
open Go.Bt
theorem TI.hold {H:AH}{At M last:Nat}{d c dr:AV}{root:Ptr}{es:List (AV×AV)}{q:PN}(ti:TI H At M d c root es q last dr): ∀kv∈es,∀B,xJ kv.2 B→B<H.next:=fun kv hkv B hB=>by
 obtain⟨nd2,hn2⟩:=ti.pq.mem kv hkv
 exact hn2.lt hB
open Go.Nd (be zJi encP)
theorem zFr: ∀(i n:Nat),be (i+1) n=UInt8.ofNat (n / 256 ^ i)::be i n
 | 0,n=>by simp[be]
 | i+1,n=>by
  rw[be,zFr i (n / 256),Nat.div_div_eq_div_mul,Nat.mul_comm 256, ← Nat.pow_succ];rfl
theorem zIV {c m:List AV}{o:Nat}{x:AV}(h:o<c.length):(c.take (o+1)++m).set o x=c.take o++(x::m):=by
 have hl:(c.take o).length=o:=by simp;omega
 rw[fU c o h,List.append_assoc,List.set_append_right _ _ (by omega),hl]
 simp
theorem zL2 (D:Dyn)(n:Nat){H:AH}(hk:H.ok){A off k cc:Nat}{c:List AV}{e:TypeId}{g:Bool}(z:Nat)(hA:H.h.get A=some (.cells c e 1 g))(hc:off+k≤c.length)(hkk:k≤8)(hn:100≤n):
  ∃H',f67 D n [.slice A off k cc, .int .u64 (z:Nat)] H=some (.tuple [],H')∧H'.h.get A=some (.cells (c.take off++(yJ (be k z)++c.drop (off+k))) e 1 g)∧Stp (fun B=>B=A) H H'∧H'.next=H.next:=by
 have hlt:=hk.lt hA
 have key:=xU (b:=zEA D n) k (fun i vs H'=>vs=[.slice A off k cc, .int .u64 (z:Nat), .int .i64 (k:Nat), .int .i64 (i:Nat)]∧i≤k∧H'.h.get A=some (.cells (c.take (off+(k - i))++(yJ (be i z)++c.drop (off+k))) e 1 g)∧Stp (fun B=>B=A) H H'∧H'.next=H.next)
  (fun i vs H' hi ⟨hvs,hik,hg,hst,hnx⟩=>by
   subst hvs
   have hb:Nat.blt (k - 1 - i) k=true:=by rw[zJ];omega
   have hsub:(((k:Nat):Int) - 1 - (i:Int))=((k - 1 - i:Nat):Int):=by omega
   have hix:jW 1 (.slice A off k cc) (.int .i64 ((k - 1 - i:Nat):Int))=some (.ptr A (off+(k - 1 - i))):=by
    simp only[jW,yO _ (show(0:Int)≤((k - 1 - i:Nat):Int)by omega),zW,hb,cond_true,yB,Nat.mul_one]
   have hst1:=YQ (x:= .int .u8 ((((z / 256 ^ i % 256:Nat):Nat)):Int)) (o:=off+(k - 1 - i)) hg (by decide) rfl (by simp[yJ,Nd.be_length];omega)
   have hcell:(c.take (off+(k - i))++(yJ (be i z)++c.drop (off+k))).set (off+(k - 1 - i)) (.int .u8 (((z / 256 ^ i % 256:Nat)):Int))=c.take (off+(k - (i+1)))++(yJ (be (i+1) z)++c.drop (off+k)):=by
    rw[show off+(k - i)=off+(k - 1 - i)+1 by omega,zIV (by omega),zFr,show k - (i+1)=k - 1 - i by omega]
    simp[yJ]
   have hsh:((z:Nat):Int) / 2 ^ (8*i)=((z / 256 ^ i:Nat):Int):=by
    rw[← zDw];simp
   refine⟨_,H'.put A (.cells (c.take (off+(k - (i+1)))++(yJ (be (i+1) z)++c.drop (off+k))) e 1 g), ?_,rfl,by omega,by rw[AH.put_get,if_pos rfl], ?_,hnx⟩
   ·rw[hcell]at hst1
    have hsh':=zBy .u64 .i64 (a:=(z:Nat)) (s:=8*i) (by omega) (by simp[IntKind.bits];omega)
    rw[hsh]at hsh'
    have h8:(((8:Nat):Int)*(i:Int))=((8*i:Nat):Int):=by omega
    have hw:IntKind.wrap .u8 ((z / 256 ^ i:Nat):Int)=((z / 256 ^ i % 256:Nat):Int):=by rw[wrap_u8];omega
    have h1:((k:Nat):Int) - ((1:Nat):Int) - (i:Int)=((k - 1 - i:Nat):Int):=by omega
    simp(disch:=omega) only[zEA,ev,lnSl,h1,hix,h8,hsh',hw,hst1]
    simp[hi]
   ·exact hst.put (by omega) _ (.inr rfl)) n _ H ⟨rfl,Nat.zero_le _,by simpa[be,yJ]using hA,Stp.refl hk,rfl⟩ (by omega)
 obtain⟨m,vs',H',h1,rfl,_,h3,h4,h5⟩:=key
 refine⟨H', ?_,by simpa using h3,h4,h5⟩
 have hl:qX (m+1) (zEA D n) [.slice A off k cc, .int .u64 (z:Nat), .int .i64 (k:Nat), .int .i64 (k:Nat)] H'=some (.exit 0 [],H'):=yE (by simp[zEA,ev])
 rw[hl]at h1
 simp only[f67,ev,lnSl,h1,zLQ]
theorem zJQ (p q:Ptr):eqA [6,6,10] (.agg (qW p)) (.agg (qW q))=some (decide (p=q)):=by
 obtain⟨a,b,c⟩:=p;obtain⟨a',b',c'⟩:=q
 have h1:=fun x y=>JR .i64 x y
 have h2:=fun x y=>JR .u64 x y
 simp only[dI]at h1 h2
 simp only[eqA,qW,cU,Nat.succ_eq_add_one,Nat.beq_refl,zG,zX,Bool.and_self,cond_true,vF,h1,h2]
 by_cases e1:a=a'<;>by_cases e2:b=b'<;>by_cases e3:c=c'<;>simp[e1,e2,e3]
theorem zHj (b:Bool):vH .eql (some b)=some (.bool b):=by simp only[vH,yP]
theorem zLc (D:Dyn)(n:Nat){H:AH}(hk:H.ok)(p:Ptr): ∃H',f66 D n [.agg (qW p)] H=some (.bool (zJi p),H')∧Prs H H':=by
 refine⟨H.push (.cells (qW p) 65 1 false), ?_,(Stp.refl hk).push _⟩
 have hz:eqA [6,6,10] (.agg (qW p)) (.agg (qW ⟨0,0,0⟩))=_:=zJQ p ⟨0,0,0⟩
 obtain⟨a,b,c⟩:=p
 simp only[qW]at hz
 simp only[f66,ev,u9 hk,qW,vT,takeN,Option.map_some,lg,jT,uG]
 by_cases h0:a=0
 ·subst h0
  simp only[show((0:Nat):Int)=0 from rfl,if_true,hz,zHj,ev,zJi]
  simp
 ·simp only[show((0:Nat):Int)=0 from rfl,if_neg h0,ev,zJi]
  rfl
def Z (n:Nat):List AV:=List.replicate n (.int .u8 ((0:Nat):Int))
theorem rep16:rep 16 [.int .u8 ((0:Nat):Int)]=Z 16:=rfl
theorem BO (D:Dyn)(n:Nat){H:AH}(hk:H.ok){A off k cc:Nat}{pre seg post:List AV}{e:TypeId}{g:Bool}(z:Nat)(hA:H.h.get A=some (.cells (pre++(seg++post)) e 1 g))(hp:pre.length=off)(hs:seg.length=k)(hkk:k≤8)(hn:100≤n):
  ∃H',f67 D n [.slice A off k cc, .int .u64 (z:Nat)] H=some (.tuple [],H')∧H'.h.get A=some (.cells (pre++(yJ (be k z)++post)) e 1 g)∧Stp (fun B=>B=A) H H'∧H'.next=H.next:=by
 obtain⟨H',h1,h2,h3⟩:=zL2 D n hk (cc:=cc) (k:=k) (off:=off) z hA (by simp;omega) hkk hn
 refine⟨H',h1, ?_,h3⟩
 have hd:(pre++(seg++post)).drop (off+k)=post:=by rw[← List.append_assoc,List.drop_left' (by rw[zH];omega)]
 rw[List.take_left' hp,hd]at h2
 exact h2
theorem slA (A lo hi:Nat)(h1:lo≤hi)(h2:hi≤16)(h3:lo<16):gQ 16 1 (.ptr A 0) (some (.int .i64 (lo:Nat))) (some (.int .i64 (hi:Nat))) none=some (.slice A lo (hi - lo) (2*(16 - lo))):=by
 have e1:Nat.ble hi 16=true:=by rw[zR];exact h2
 have e2:Nat.ble lo hi=true:=by rw[zR];exact h1
 have e3:Nat.beq 16 lo=false:=by rw[Bool.eq_false_iff];intro h;have:=Nat.eq_of_beq_eq_true h;omega
 simp[gQ,yN,yO,ZA,e1,e2,e3,yB,show((32 % 2).beq 0)=true from rfl,show(32 / 2).beq lo=false from e3,show Nat.blt 0 1=true from rfl]
theorem zKN (A:Nat):gQ 16 1 (.ptr A 0) none (some (.int .i64 ((4:Nat):Int))) none=some (.slice A 0 4 32):=rfl
theorem zKM (A:Nat):gQ 16 1 (.ptr A 0) (some (.int .i64 ((8:Nat):Int))) none none=some (.slice A 8 8 16):=rfl
theorem zKL (A:Nat):gQ 16 1 (.ptr A 0) none none none=some (.slice A 0 16 32):=rfl
theorem zEY (D:Dyn)(n:Nat){H:AH}(hk:H.ok){p:Ptr}(hp:zJi p=true)(hs:Nd.sumOk p)(hn:100≤n): ∃H',f49 D n [.agg (qW p)] H=some (.tuple [S (encP p), .int .i64 (0:Nat)],H')∧Prs H H':=by
 have hP:Prs H (H.push (.cells (qW p) 65 1 false)):=(Stp.refl hk).push _
 obtain⟨H2,h2,hP2⟩:=zLc D n hP.ok p
 have hd':vT (qW p) 0 3=some (qW p):=rfl
 have h0: ∃a b s:Nat,p=⟨a,b,s⟩∧a<4294967296∧b<4294967296∧s<18446744073709551616:=by
  obtain⟨a,b,s⟩:=p
  simp only[Nd.sumOk]at hs
  have h1:0≤a∧a<8192∧0≤b∧b≤2147483647:=by
   simp only[zJi]at hp
   split at hp
   ·simp only[z8,zD]at hp;omega
   ·simp only[z8,zD]at hp;omega
  exact⟨a.toNat,b.toNat,s.toNat,by congr 1<;>omega,by omega,by omega,by omega⟩
 obtain⟨a,b,s,rfl,ha,hb,hss⟩:=h0
 have hw: ∀x:Nat,x<18446744073709551616→IntKind.wrap .u64 (x:Int)=(x:Int):=fun x hx=>by rw[wrap_u64];omega
 have hP3:Prs H2 (H2.push (.cells (Z 16) 131 1 false)):=(Stp.refl hP2.ok).push _
 have hB:(H2.push (.cells (Z 16) 131 1 false)).h.get H2.next=some (.cells ([]++(Z 4++Z 12)) 131 1 false):=AH.push_get_eq _ _
 have hn3:(H2.push (.cells (Z 16) 131 1 false)).next=H2.next+1:=rfl
 generalize hH3:H2.push (.cells (Z 16) 131 1 false)=H3 at hP3 hB hn3
 obtain⟨H4,e4,g4,st4,n4⟩:=BO D n hP3.ok (cc:=32) (k:=4) (off:=0) a hB rfl (by simp[Z]) (by omega) hn
 rw[show[]++(yJ (be 4 a)++Z 12)=yJ (be 4 a)++(Z 4++Z 8)from rfl]at g4
 obtain⟨H5,e5,g5,st5,n5⟩:=BO D n st4.ok (cc:=24) (k:=4) (off:=4) b g4 (by simp[yJ,Nd.be_length]) (by simp[Z]) (by omega) hn
 rw[← List.append_assoc,show Z 8=Z 8++[]from rfl]at g5
 obtain⟨H6,e6,g6,st6,n6⟩:=BO D n st5.ok (cc:=16) (k:=8) (off:=8) s g5 (by simp[yJ,Nd.be_length]) (by simp[Z]) (by omega) hn
 have hx3:H3.h.get H.next=some (.cells (qW ⟨a,b,s⟩) 65 1 false):=hP3.get hP2.ok (hP2.get hP.ok (AH.push_get_eq _ _))
 have hlt2:H.next<H2.next:=by have:=hP2.next;rw[AH.push_next]at this;omega
 have hx4:H4.h.get H.next=some (.cells (qW ⟨a,b,s⟩) 65 1 false):=by rw[st4.keep _ (by have:=hP3.next;omega) (by omega)];exact hx3
 have hx5:H5.h.get H.next=some (.cells (qW ⟨a,b,s⟩) 65 1 false):=by rw[st5.keep _ (by have:=hP3.next;omega) (by omega)];exact hx4
 have hbytes:yJ (be 4 a)++yJ (be 4 b)++(yJ (be 8 s)++[])=yJ (encP ⟨a,b,s⟩):=by simp[encP,yJ]
 rw[hbytes]at g6
 have hcv:zFa (.slice H2.next 0 16 32) H6=some (S (encP ⟨a,b,s⟩)):=WJ ⟨by simp[yJ,Nd.encP_length], .inr (.inr ⟨_,_,_,_,_,_,_,rfl,g6,by have:=(st6.ok).lt g6;exact this,by simp[yJ,Nd.encP_length],by simp[zL,yJ,Nd.encP_length]⟩)⟩ (by simp)
 refine⟨H6, ?_, ?_⟩
 ·simp only[f49,ev,u9 hk,hd',Option.map_some,h2,hp]
  simp only[ev,u9 hP2.ok,Bool.not_true,Bool.false_eq_true,if_false,rep16,hH3,zKN,zKM,zKL,slA _ 4 8 (by omega) (by omega) (by omega),qL hx3,qL hx4,qL hx5,qW,hw a (by omega),hw b (by omega),hw s (by omega),e4,e5,e6,hcv]
 ·have hst:Stp (fun B=>B=H2.next) H3 H6:=(st4.trans st5).trans st6
  exact(hP.trans hP2).trans (hP3.fresh hst (fun A hA=>by omega))
end Go.Eng.Sh
end
section
namespace Go.Eng
open Go.Nd (Kvs Srt)
end Go.Eng
namespace Go.Eng.Sh
open Go.Nd (Ptr yF qP Kvs Srt mayK putP delP lookP)
open Go.Bt
def prV (p:Str×Str):List AV:=[S p.1,S p.2]
def zKv (H:AH)(v:AV)(l:Kvs):Prop:=Rw 2 H v l.length (l.flatMap prV)
theorem zBd: ∀(l:Kvs) (i:Nat) (h:i<l.length),((l.flatMap prV).drop (i*2)).take 2=prV l[i]
 | p::l,0,_=>rfl
 | p::l,i+1,h=>by
  rw[zT,show(i+1)*2=2+i*2 by omega, ← List.drop_drop]
  exact zBd l i (by simpa using h)
theorem zKv.at {H:AH}{v:AV}{l:Kvs}(h:zKv H v l){i:Nat}(hi:i<l.length): ∃A o,(∀κ (z:Int),z=(i:Int)→jW 2 v (.int κ z)=some (.ptr A o))∧Eng.ldN 2 (.ptr A o) H=some (.agg (prV l[i]))∧Eng.ld1 (.ptr A o) H=some (S l[i].1)∧Eng.ld1 (.ptr A (o+1)) H=some (S l[i].2):=by
 obtain⟨A,o,c,e,sz,g,h1,h2,h3,h4,h5⟩:=Rw.at h hi
 rw[zBd l i hi]at h5
 have g0:c[o]? =some (S l[i].1):=by
  have:=congrArg (fun x=>x[0]?) h5
  simpa[prV]using this
 have g1:c[o+1]? =some (S l[i].2):=by
  have:=congrArg (fun x=>x[1]?) h5
  simpa[prV]using this
 exact⟨A,o,h1,by rw[BY h2 h4,h5],BZ h2 g0,BZ h2 g1⟩
def behind (kv:Kvs):Nat→Str
 | 0=>[]
 | i+1=>(kv.getD i ([],[])).1++[0]
end Go.Eng.Sh
end
section
namespace Go.Eng
theorem dH (n A off:Nat)(k:IntKind){z:Int}(i:Nat)(hz:z=(i:Int))(h:i<n):QB n 1 (.ptr A off) (.int k z)=some (.ptr A (off+i)):=by
 subst hz
 have n1:=yO k (z:=((i:Nat):Int)) (by omega)
 simp only[zW]at n1
 have hb:Nat.blt i n=true:=by rw[zJ];exact h
 simp only[QB,n1,hb,cond_true,yB,Nat.mul_one]
end Go.Eng
namespace Go.Eng.Sh
open Go.Nd (Ptr yF qP Kvs Srt mayK putP delP lookP)
open Go.Bt
theorem zDk (x:AV): ∀n,rep n [x]=List.replicate n x
 | 0=>rfl
 | n+1=>by rw[rep,zDk x n,List.replicate_succ];rfl
theorem zJb (D:Dyn)(n:Nat)(hn:100≤n){H:AH}(hk:H.ok)(Ad od:Nat){c:AV}(hc:isCell c=true): ∃H' At M,f25 D n [.ptr Ad od,c, .agg (qW pZ)] H=some (.tuple [.ptr At 0, .int .i64 ((0:Nat):Int)],H')∧Prs H H'∧H.next≤At∧H.next≤M∧jI H' At M 0 []:=by
 obtain⟨H1,A5,b1,p1,g1,m1,n1⟩:=box hk (.cells (qW pZ) 65 1 false)
 obtain⟨H2,e2,p2⟩:=zEY D n p1.ok (p:=pZ) rfl (by simp[Nd.sumOk,pZ]) hn
 obtain⟨H3,M,b3,p3,g3,m3,n3⟩:=box p2.ok (.map [10] [])
 obtain⟨H4,At,b4,p4,g4,m4,n4⟩:=box p3.ok (.cells (vV (.ptr Ad od) c pZ M 0 .nilSlice) 107 1 false)
 have N1:=p1.next;have N2:=p2.next;have N3:=p3.next
 have P12:=p1.trans p2
 refine⟨H4,At,M, ?_,(P12.trans p3).trans p4,by omega,by omega,⟨_,_,_,_,_,[],0,rfl,hc,⟨p4.ok,g4,Prs.get p4 p3.ok g3,trivial,⟨_,_,rfl⟩,by simp⟩,fun s nd h=>by simp[qT]at h,by simp,by omega, .inl ⟨rfl,rfl⟩⟩⟩
 have r1:ldN 3 (.ptr A5 0) H1=some (.agg (qW pZ)):=by rw[qQ g1];rfl
 have r2:ldN 3 (.ptr A5 0) H2=some (.agg (qW pZ)):=by rw[qQ (Prs.get p2 p1.ok g1)];rfl
 have r3:ld1 (.ptr A5 0) H2=some (.int .i64 ((0:Nat):Int)):=by rw[qL (Prs.get p2 p1.ok g1)];rfl
 have t00: ¬(((0:Nat):Int)≠((0:Nat):Int)):=by omega
 have h01: ¬((0:Nat):Int)=((1:Nat):Int):=by omega
 have bs:jT [(0,1),(1,1),(2,3),(5,1),(6,1),(7,1)] [.nilPtr, .nilPtr, .int .i64 ((0:Nat):Int), .int .i64 ((0:Nat):Int), .int .u64 ((0:Nat):Int), .nilMap, .int .u64 ((0:Nat):Int), .nilSlice] [(0, .ptr Ad od),(1,c),(2, .agg (qW pZ)),(3, .map M)]=some (.agg (vV (.ptr Ad od) c pZ M 0 .nilSlice)):=by
  simp only[jT,uG,zGv,yI hc];rfl
 simp(maxSteps:=999999)(disch:=omega) only[f25,eZ,b1,cq,r1,e2,qK,nth,t00,r3,h01,r2,mkM,b3,bs,b4]
theorem jI.lt {H:AH}{At M L:Nat}{kv:Kvs}(h:jI H At M L kv):At<H.next∧M<H.next:=by
 obtain⟨d,c,_,root,es,q,last,rfl,hc,ti,_⟩:=h
 exact⟨ti.ok.lt ti.gT,ti.ok.lt ti.gM⟩
theorem srt_ext: ∀ {l m:Kvs},Srt l→Srt m→(∀k,lookP k l=lookP k m)→l=m
 | [],[],_,_,_=>rfl
 | [],(a,b)::m,_,_,h=>by have:=h a;simp[lookP]at this
 | (a,b)::l,[],_,_,h=>by have:=h a;simp[lookP]at this
 | (a,b)::l,(c,d)::m,hl,hm,h=>by
  have key: ∀ {a c:Str} {b d:Str} {l m:Kvs},Srt ((a,b)::l)→Srt ((c,d)::m)→(∀k,lookP k ((a,b)::l)=lookP k ((c,d)::m))→ltS a c=true→False:=fun {a c b d l m} hl hm h hac=>by
   have h1:=h a
   have hc:c≠a:=fun e=>(wG hac) e.symm
   simp only[lookP,if_true,if_neg hc]at h1
   have:lookP a m=none:=Nd.look_none fun p hp e=>by
    have:=y5 hac (hm.1 p hp)
    rw[e,qZ]at this;cases this
   rw[this]at h1;cases h1
  have e:a=c:=xF (by
   cases hx:ltS a c with
   | false=>rfl
   | true=>exact(key hl hm h hx).elim) (by
   cases hx:ltS c a with
   | false=>rfl
   | true=>exact(key hm hl (fun k=>(h k).symm) hx).elim)
  subst e
  have hb:=h a
  simp only[lookP,if_true,z7]at hb
  subst hb
  rw[srt_ext hl.2 hm.2 fun k=>by
   have:=h k
   simp only[lookP]at this
   by_cases e:a=k
   ·subst e
    have n1:lookP a l=none:=Nd.look_none fun p hp e=>by
     have:=hl.1 p hp
     rw[e,qZ]at this;cases this
    have n2:lookP a m=none:=Nd.look_none fun p hp e=>by
     have:=hm.1 p hp
     rw[e,qZ]at this;cases this
    rw[n1,n2]
   ·rwa[if_neg e,if_neg e]at this]
end Go.Eng.Sh
end
section
namespace Go.Eng
theorem jA.stk {k e n:Nat}{H:AH}{v:AV}{l:List AV}(h:jA k e H v n l): ∃e',Stk k e' H v n l:=by
 rcases h with⟨h0,⟨rfl,rfl⟩ | ⟨A,rfl,hA,hg⟩⟩ | ⟨h0,A,e',g,rfl,hA,hg⟩
 ·exact⟨e,h0, .inl ⟨rfl,rfl⟩⟩
 ·exact⟨e,h0, .inr ⟨A,1,l,true,n,rfl,hA,hg,h0,Nat.le_refl _,zL (by omega), .inr ⟨rfl,rfl⟩⟩⟩
 ·exact⟨e',h0, .inr ⟨A,2*n,l,g,n,rfl,hA,hg,h0,Nat.le_refl _,zL (by omega), .inl rfl⟩⟩
theorem jA.hi {k e n i:Nat}{H:AH}{v:AV}{l:List AV}(h:jA k e H v n l)(hpos:0<k)(hi:i≤n): ∃r,j7 k v none (some (.int .i64 (i:Nat))) none H=some r∧Rw k H r i (l.take (i*k)):=by
 obtain⟨e',hs⟩:=h.stk
 obtain⟨r,h1,h2,_⟩:=hs.cut hpos hi .i64
 exact⟨r,h1,h2.row⟩
end Go.Eng
namespace Go.Eng.Sh
open Go.Nd (Ptr yF qP Kvs Srt mayK putP delP lookP)
open Go.Bt
def PrG (H:AH)(v:AV)(l:Kvs):Prop:=jA 2 85 H v l.length (l.flatMap prV)∧(l=[]→v= .nilSlice)
theorem PrG.prs {H H':AH}{v:AV}{l:Kvs}(h:PrG H v l)(s:Prs H H'):PrG H' v l:=⟨h.1.mono s (fun _ _ x=>x),h.2⟩
theorem PrG.row {H:AH}{v:AV}{l:Kvs}(h:PrG H v l):zKv H v l:=h.1.row
structure TO (Hi H:AH)(W0 W1 At0 M0 At1 M1 L:Nat)(kv0 kv1:Kvs):Prop where
 prs:Prs Hi H
 w0: ∃x y z,H.h.get W0=some (.cells (x::y:: .ptr At0 0::z) 0 1 false)
 w1: ∃x y z,H.h.get W1=some (.cells (x::y:: .ptr At1 0::z) 0 1 false)
 t0:jI H At0 M0 L kv0
 t1:jI H At1 M1 L kv1
 ne:At0≠At1∧M0≠M1
 fr:Hi.next≤At0∧Hi.next≤M0∧Hi.next≤At1∧Hi.next≤M1
 nw:W0≠At0∧W0≠M0∧W0≠At1∧W0≠M1∧W1≠At0∧W1≠M0∧W1≠At1∧W1≠M1
theorem PrG.tree {H H':AH}{At M L:Nat}{kv l:Kvs}{v:AV}(h:PrG H v l)(t:jI H At M L kv)(s:Stp (fun B=>B=At∨B=M) H H'):PrG H' v l:=by
 obtain⟨d,c,_,root,es,q,last,rfl,hc,ti,_⟩:=t
 refine⟨h.1.mono s (fun B hB e=> ?_),h.2⟩
 rcases e with rfl | rfl
 ·exact jA.nsep h.1 ti.gT (fun e' g e=>by simp only[AObj.cells.injEq]at e;omega) hB
 ·exact jA.nsep h.1 ti.gM (fun e' g e=>by cases e) hB
theorem TO.up1 {Hi H H':AH}{W0 W1 At0 M0 At1 M1 L L':Nat}{kv0 kv1 kv1':Kvs}(h:TO Hi H W0 W1 At0 M0 At1 M1 L kv0 kv1)(s:Stp (fun B=>B=At1∨B=M1) H H')(t:jI H' At1 M1 L' kv1')(hl:L≤L'):TO Hi H' W0 W1 At0 M0 At1 M1 L' kv0 kv1':=by
 obtain⟨x,y,z,g⟩:=h.w0
 obtain⟨x',y',z',g'⟩:=h.w1
 obtain⟨n1,n2,n3,n4,n5,n6,n7,n8⟩:=h.nw
 have f:=h.fr
 refine⟨h.prs.fresh s (fun B hB=>by rcases hB with e | e<;>omega),⟨x,y,z, ?_⟩,⟨x',y',z', ?_⟩,(h.t0.other h.t1 h.ne s).up hl,t,h.ne,h.fr,h.nw⟩
 ·rw[s.keep _ (h.prs.ok.lt g) (fun e=>by rcases e with e | e<;>omega)];exact g
 ·rw[s.keep _ (h.prs.ok.lt g') (fun e=>by rcases e with e | e<;>omega)];exact g'
end Go.Eng.Sh
end
section
namespace Go.Eng
end Go.Eng
namespace Go.Eng.Sh
open Go.Nd (Ptr yF qP Kvs Srt mayK putP delP lookP)
open Go.Bt
end Go.Eng.Sh
end
section
namespace Go.Bt
open Go.Nd (Str Kvs Ptr qP Srt rising)
open Go.Eng (ltS y5 kK qZ xF)
def jJ {σ α:Type}(step:σ→α→Bool×σ):List α→σ→Bool×σ
 | [],s=>(true,s)
 | a::l,s=>bif (step s a).1 then jJ step l (step s a).2 else(false,(step s a).2)
theorem zAL {σ α:Type}(step:σ→α→Bool×σ)(l l':List α)(s:σ):jJ step (l++l') s=bif (jJ step l s).1 then jJ step l' (jJ step l s).2 else(false,(jJ step l s).2):=by
 induction l generalizing s with
 | nil=>rfl
 | cons a l ih=>
  simp only[List.cons_append,jJ]
  cases h:(step s a).1 with
  | true=>simp only[cond_true];exact ih _
  | false=>simp only[cond_false]
theorem XX {σ α β:Type}(step:σ→β→Bool×σ)(f:α→List β): ∀(l:List α) (s:σ),jJ (fun s x=>jJ step (f x) s) l s=jJ step (l.flatMap f) s
 | [],_=>rfl
 | a::l,s=>by
  rw[zT,zAL,jJ,XX]
def y9 (to k:Str):Bool:=to.isEmpty||ltS k to
def cX (ks:List Str)(to:Str)(first:Nat):Nat:=((ks.drop first).takeWhile (y9 to)).length+1
def zLh (ks:List Str)(ps:List Ptr)(fr to:Str):List Ptr:=(ps.drop (y0 ks fr)).take (cX ks to (y0 ks fr))
def wI (Q:Ptr→Option Nd.Node)(fr to:Str):Nat→Ptr→Nd.Node→List (Ptr×Nd.Node)
 | 0,p,nd=>[(p,nd)]
 | h+1,p,nd=>(p,nd)::(zLh nd.keys nd.kids fr to).flatMap fun p'=>match Q p' with
  | some nd'=>wI Q fr to h p' nd'
  | none=>[]
def xH (fr:Str)(x:Ptr×Nd.Node):Kvs:=bif x.2.leaf then(x.2.keys.zip x.2.vals).drop (Nd.whereN x.2 fr)else[]
def k9 {σ:Type}(to:Str)(step:σ→Str×Str→Bool×σ)(s:σ)(x:Str×Str):Bool×σ:=bif y9 to x.1 then step s x else(false,s)
def wF {σ:Type}(fr to:Str)(step:σ→Str×Str→Bool×σ)(s:σ)(x:Ptr×Nd.Node):Bool×σ:=jJ (k9 to step) (xH fr x) s
theorem zHB {to a b:Str}(h:ltS a b=true)(hb:y9 to b=true):y9 to a=true:=by
 simp only[y9,Bool.or_eq_true]at hb⊢
 exact hb.imp id (y5 h)
theorem zBG {to a b:Str}(h:a=b∨ltS a b=true)(ha:y9 to a=false):y9 to b=false:=by
 rcases h with rfl | h
 ·exact ha
 ·cases hb:y9 to b with
  | false=>rfl
  | true=>rw[zHB h hb]at ha;cases ha
theorem zDh {σ:Type}(to:Str)(step:σ→Str×Str→Bool×σ): ∀(l:Kvs) (s:σ),Srt l→(jJ (k9 to step) l s).2=(jJ step (l.filter fun p=>y9 to p.1) s).2
 | [],_,_=>rfl
 | p::l,s,h=>by
  obtain⟨k,v⟩:=p
  cases ha:y9 to k with
  | true=>
   simp only[jJ,k9,ha,cond_true,List.filter_cons,if_true]
   cases hs:(step s (k,v)).1 with
   | true=>simp only[cond_true];exact zDh to step l _ h.2
   | false=>rfl
  | false=>
   have:(((k,v)::l).filter fun p=>y9 to p.1)=[]:=by
    rw[List.filter_eq_nil_iff]
    intro q hq
    rcases List.mem_cons.1 hq with rfl | hq
    ·simp[ha]
    ·have:=zBG (.inr (h.1 q hq)) ha;simp[this]
   rw[this]
   simp only[jJ,k9,ha,cond_false]
def inP (fr to:Str)(p:Str×Str):Bool:= !ltS p.1 fr&&y9 to p.1
theorem VI (fr:Str): ∀ {l:Kvs},Srt l→l.drop (Nd.whereN (qP l) fr)=l.filter fun p=> !ltS p.1 fr
 | [],_=>by simp
 | (a,b)::l,h=>by
  rw[Nd.where_cons h]
  cases ha:ltS a fr with
  | true=>
   simp only[if_true,List.drop_succ_cons,List.filter_cons,ha,Bool.not_true,Bool.false_eq_true,if_false]
   exact VI fr h.2
  | false=>
   simp only[Bool.false_eq_true,if_false,List.drop_zero]
   symm
   rw[List.filter_eq_self]
   intro q hq
   rcases List.mem_cons.1 hq with rfl | hq
   ·simp[ha]
   ·have h1:=h.1 q hq
    cases hq':ltS q.1 fr with
    | false=>rfl
    | true=>rw[y5 h1 hq']at ha;cases ha
theorem zGD (fr:Str)(p:Ptr)(l:Kvs):xH fr (p,qP l)=l.drop (Nd.whereN (qP l) fr):=by
 simp only[xH,qP,cond_true]
 congr 1
 induction l with
 | nil=>rfl
 | cons a l ih=>simp[ih]
theorem uM {α:Type}{f:α→Bool} : ∀ {l:List α} {x:α},l[(l.takeWhile f).length]? =some x→f x=false
 | [],_,h=>by simp at h
 | a::l,x,h=>by
  cases ha:f a with
  | true=>
   rw[List.takeWhile_cons_of_pos ha]at h
   simp only[zG,List.getElem?_cons_succ]at h
   exact uM h
  | false=>
   rw[List.takeWhile_cons_of_neg (by simp[ha])]at h
   simp at h
   rw[← h];exact ha
theorem fT {α:Type}{f:α→Bool} : ∀ {l:List α} {i:Nat} {x:α},i< (l.takeWhile f).length→l[i]? =some x→f x=true
 | [],i,_,_,h=>by simp at h
 | a::l,i,x,hi,h=>by
  cases ha:f a with
  | true=>
   rw[List.takeWhile_cons_of_pos ha]at hi
   cases i with
   | zero=>simp at h;rw[← h];exact ha
   | succ i=>exact fT (by simpa using hi) (by simpa using h)
  | false=>
   rw[List.takeWhile_cons_of_neg (by simp[ha])]at hi
   simp at hi
theorem Z5 (ks:List Str)(to:Str)(first:Nat)(h:first≤ks.length):first+cX ks to first≤ks.length+1:=by
 have:=(List.takeWhile_sublist (y9 to) (l:=ks.drop first)).length_le
 simp only[cX,zO]at this⊢
 omega
theorem beyond {h:Nat}{lo hi:Bd}{to:Str}{i:Nat}{ks:List Str}{ts:List (Tr h)}(hw:Inn (WF h) lo hi (ks,ts))(hi':i≤ks.length): ∀p∈(ts.drop (i+cX ks to i)).flatMap (con h),y9 to p.1=false:=by
 obtain⟨h1,h2,h3⟩:=hw
 simp only at h1 h2 h3
 have hlen:=h3.len
 have hle:=Z5 ks to i hi'
 intro p hp
 by_cases hc:i+cX ks to i<ts.length
 ·obtain⟨w,hwd⟩: ∃w,w=((ks.drop i).takeWhile (y9 to)).length:=⟨_,rfl⟩
  have hcw:cX ks to i=w+1:=by rw[hwd];rfl
  have hlt:i+w<ks.length:=by omega
  have hk:(ks.drop i)[w]? =some ks[i+w]:=by rw[qE];exact zC hlt
  have ha:=uM (f:=y9 to) (l:=ks.drop i) (x:=ks[i+w]) (by rw[← hwd];exact hk)
  have hkb:=h3.drop (zC hlt)
  have hd:=Nd.rising_drop h2 (i+w)
  rw[zM hlt,Nd.rising_cons]at hd
  rw[hcw, ← Nat.add_assoc]at hp
  have:=JJ (JK h) hkb hd.2 (fun x hx=>⟨hd.1 x hx,(h1 x (List.mem_of_mem_drop hx)).2.2⟩) p hp
  exact zBG this.1 ha
 ·rw[zP (by omega)]at hp
  simp at hp
def VJ {β:Type}(Q:Ptr→Option Nd.Node)(f:Ptr→Nd.Node→List β)(p:Ptr):List β:=match Q p with
 | some nd=>f p nd
 | none=>[]
theorem zAw {h:Nat}{Q:Ptr→Option Nd.Node}{fr to:Str}(ih: ∀ {p:Ptr} {nd:Nd.Node} {t:Tr h} {S:List Ptr} {lo hi:Bd},yZ Q h nd t S→WF h lo hi t→
   (((wI Q fr to h p nd).flatMap (xH fr)).filter fun p=>y9 to p.1)=(con h t).filter (inP fr to)∧((wI Q fr to h p nd).flatMap (xH fr)).Sublist (con h t)∧(wI Q fr to h p nd).length≤1+S.length):
  ∀ {ps:List Ptr} {ts:List (Tr h)} {S:List Ptr},kR Q (yZ Q h) ps ts S→(∀t∈ts,∃lo hi,WF h lo hi t)→
   (((ps.flatMap (VJ Q (wI Q fr to h))).flatMap (xH fr)).filter fun p=>y9 to p.1)=(ts.flatMap (con h)).filter (inP fr to)∧((ps.flatMap (VJ Q (wI Q fr to h))).flatMap (xH fr)).Sublist (ts.flatMap (con h))∧(ps.flatMap (VJ Q (wI Q fr to h))).length≤S.length
 | [],[],_,e,_=>⟨rfl,List.Sublist.refl _,by simp⟩
 | p::ps,t::ts,_,⟨nd,S1,S2,a,b,c,e⟩,hw=>by
  subst e
  obtain⟨lo,hi,wt⟩:=hw t (zB ..)
  obtain⟨i1,i2,i3⟩:=ih (p:=p) b wt
  obtain⟨j1,j2,j3⟩:=zAw ih c fun t ht=>hw t (zA _ ht)
  simp only[zT,qC,List.filter_append,zH,zG,VJ,a]
  refine⟨by rw[i1];exact congrArg _ j1,i2.append j2, ?_⟩
  have:(ps.flatMap fun p=>VJ Q (wI Q fr to h) p).length≤S2.length:=j3
  simp only[VJ]at this
  omega
 | [],_::_,_,h,_=>h.elim
 | _::_,[],_,h,_=>h.elim
theorem zCC {h:Nat}{Q:Ptr→Option Nd.Node}{fr to:Str}(ih: ∀ {p:Ptr} {nd:Nd.Node} {t:Tr h} {S:List Ptr} {lo hi:Bd},yZ Q h nd t S→WF h lo hi t→
   (((wI Q fr to h p nd).flatMap (xH fr)).filter fun p=>y9 to p.1)=(con h t).filter (inP fr to)∧((wI Q fr to h p nd).flatMap (xH fr)).Sublist (con h t)∧(wI Q fr to h p nd).length≤1+S.length)
  {p:Ptr} {nd:Nd.Node} {t:Tr (h+1)} {S:List Ptr} {lo hi:Bd} (rn:yZ Q (h+1) nd t S) (hw:Inn (WF h) lo hi t):
  (((wI Q fr to (h+1) p nd).flatMap (xH fr)).filter fun p=>y9 to p.1)=(con (h+1) t).filter (inP fr to)∧((wI Q fr to (h+1) p nd).flatMap (xH fr)).Sublist (con (h+1) t)∧(wI Q fr to (h+1) p nd).length≤1+S.length:=by
 obtain⟨r1,r2,r3,r4⟩:=rn
 obtain⟨ks,ts⟩:=t
 simp only at r2
 subst r2
 have hle:=vI nd.keys fr
 obtain⟨i,hi'⟩: ∃i,i=y0 nd.keys fr:=⟨_,rfl⟩
 obtain⟨c,hc⟩: ∃c,c=cX nd.keys to i:=⟨_,rfl⟩
 obtain⟨Sa,Sb,x1,x2,rfl⟩:=r4.split i
 obtain⟨Sc,Sd,x3,x4,rfl⟩:=x2.split c
 have hts:ts=ts.take i++((ts.drop i).take c++(ts.drop i).drop c):=by rw[List.take_append_drop,List.take_append_drop]
 obtain⟨k1,k2,k3⟩:=zAw ih x3 fun x hx=>by
  obtain⟨j,hj,rfl⟩:=qI (List.mem_of_mem_drop (List.mem_of_mem_take hx))
  exact⟨_,_,KB.at hw.2.2 (zC hj)⟩
 have hv:wI Q fr to (h+1) p nd=(p,nd)::(((nd.kids.drop i).take c).flatMap (VJ Q (wI Q fr to h))):=by
  rw[hc,hi'];rfl
 have hlf:xH fr (p,nd)=[]:=by simp only[xH,r1,cond_false]
 have f1:((ts.take i).flatMap (con h)).filter (inP fr to)=[]:=by
  rw[List.filter_eq_nil_iff]
  intro q hq
  have:=(ZE (key:=fr) hw).1 q (by rw[hi']at hq;exact hq)
  simp[inP,this]
 have f2:(((ts.drop i).drop c).flatMap (con h)).filter (inP fr to)=[]:=by
  rw[List.filter_eq_nil_iff]
  intro q hq
  rw[List.drop_drop]at hq
  have:=beyond (to:=to) hw (i:=i) (by rw[hi'];exact hle) q (by rw[hc]at hq;exact hq)
  simp[inP,this]
 have hcon:con (h+1) (nd.keys,ts)=(ts.take i).flatMap (con h)++(((ts.drop i).take c).flatMap (con h)++((ts.drop i).drop c).flatMap (con h)):=by
  rw[← qC, ← qC, ← hts];rfl
 rw[hv]
 refine⟨?_, ?_, ?_⟩
 ·rw[hcon,List.filter_append,List.filter_append,f1,f2,List.nil_append,List.append_nil,zT,hlf,List.nil_append]
  exact k1
 ·rw[hcon,zT,hlf,List.nil_append]
  exact(k2.trans (List.sublist_append_left _ _)).trans (List.sublist_append_right _ _)
 ·simp only[zG,zH]
  omega
theorem zAv {Q:Ptr→Option Nd.Node}{fr to:Str}{p:Ptr}{nd:Nd.Node}{t:Kvs}{S:List Ptr}{lo hi:Bd}(rn:yZ Q 0 nd t S)(hw:Lf lo hi t):
  (((wI Q fr to 0 p nd).flatMap (xH fr)).filter fun p=>y9 to p.1)=(con 0 t).filter (inP fr to)∧((wI Q fr to 0 p nd).flatMap (xH fr)).Sublist (con 0 t)∧(wI Q fr to 0 p nd).length≤1+S.length:=by
 obtain⟨rfl,rfl⟩:=rn
 have hv:wI Q fr to 0 p (qP t)=[(p,qP t)]:=rfl
 rw[hv,zT,List.flatMap_nil,List.append_nil,zGD]
 refine⟨?_,List.drop_sublist _ _,by simp⟩
 rw[VI fr hw.1,List.filter_filter]
 show List.filter _ t=List.filter (inP fr to) t
 congr 1
 funext q
 simp only[inP,Bool.and_comm]
theorem zHQ {Q:Ptr→Option Nd.Node}{fr to:Str} : ∀(h:Nat) {p:Ptr} {nd:Nd.Node} {t:Tr h} {S:List Ptr} {lo hi:Bd},yZ Q h nd t S→WF h lo hi t→
  (((wI Q fr to h p nd).flatMap (xH fr)).filter fun p=>y9 to p.1)=(con h t).filter (inP fr to)∧((wI Q fr to h p nd).flatMap (xH fr)).Sublist (con h t)∧(wI Q fr to h p nd).length≤1+S.length
 | 0,_,_,_,_,_,_,rn,w=>zAv rn w.1
 | h+1,_,_,_,_,_,_,rn,w=>zCC (fun a b=>zHQ h a b) rn w.1
theorem zAu {Q:Ptr→Option Nd.Node}{fr to:Str}{h:Nat}{p:Ptr}{nd:Nd.Node}{t:Tr h}{S:List Ptr}(rn:yZ Q h nd t S)(w:WR h t):
  (((wI Q fr to h p nd).flatMap (xH fr)).filter fun p=>y9 to p.1)=(con h t).filter (inP fr to)∧((wI Q fr to h p nd).flatMap (xH fr)).Sublist (con h t)∧(wI Q fr to h p nd).length≤1+S.length:=by
 cases h with
 | zero=>exact zAv rn w.1
 | succ h=>exact zCC (fun a b=>zHQ h a b) rn w.1
theorem srt_sub {a b:Kvs}(h:a.Sublist b)(hb:Srt b):Srt a:=by
 induction h with
 | slnil=>exact hb
 | cons x _ ih=>obtain⟨k,v⟩:=x;exact ih hb.2
 | cons_cons x hs ih=>obtain⟨k,v⟩:=x;exact⟨fun q hq=>hb.1 q (hs.subset hq),ih hb.2⟩
theorem zFX {σ:Type}{Q:Ptr→Option Nd.Node}{fr to:Str}{h:Nat}{p:Ptr}{nd:Nd.Node}{t:Tr h}{S:List Ptr}(rn:yZ Q h nd t S)(w:WR h t)(step:σ→Str×Str→Bool×σ)(s:σ):
  (jJ (wF fr to step) (wI Q fr to h p nd) s).2=(jJ step ((con h t).filter (inP fr to)) s).2:=by
 obtain⟨h1,h2,_⟩:=zAu (fr:=fr) (to:=to) (p:=p) rn w
 have:=XX (k9 to step) (xH fr) (wI Q fr to h p nd) s
 have e:wF fr to step=fun s x=>jJ (k9 to step) (xH fr x) s:=rfl
 rw[e,this,zDh to step _ s (srt_sub h2 (zKx w)),h1]
def Vs (Q:Ptr→Option Nd.Node):Nat→Nd.Node→Prop
 | 0,nd=>nd.leaf=true∧nd.vals.length=nd.keys.length∧Nd.size nd≤500
 | h+1,nd=>nd.leaf=false∧nd.kids.length=nd.keys.length+1∧Nd.size nd≤500∧ ∀p∈nd.kids,∃nd',Q p=some nd'∧Vs Q h nd'
theorem Vs.sz {Q:Ptr→Option Nd.Node}{h:Nat}{nd:Nd.Node}(v:Vs Q h nd):Nd.size nd≤500:=by
 cases h with
 | zero=>exact v.2.2
 | succ h=>exact v.2.2.1
theorem zCB {h:Nat}{Q:Ptr→Option Nd.Node}(ih: ∀ {nd:Nd.Node} {t:Tr h} {S:List Ptr} {lo hi:Bd},yZ Q h nd t S→WF h lo hi t→Vs Q h nd):
  ∀ {ps:List Ptr} {ts:List (Tr h)} {S:List Ptr},kR Q (yZ Q h) ps ts S→(∀t∈ts,∃lo hi,WF h lo hi t)→ ∀p∈ps,∃nd',Q p=some nd'∧Vs Q h nd'
 | [],[],_,_,_=>by simp
 | p::ps,t::ts,_,⟨nd,S1,S2,a,b,c,e⟩,hw=>fun p' hp=>by
  obtain⟨lo,hi,wt⟩:=hw t (zB ..)
  rcases List.mem_cons.1 hp with rfl | hp
  ·exact⟨nd,a,ih b wt⟩
  ·exact zCB ih c (fun t ht=>hw t (zA _ ht)) p' hp
 | [],_::_,_,h,_=>h.elim
 | _::_,[],_,h,_=>h.elim
theorem zHP {h:Nat}{Q:Ptr→Option Nd.Node}(ih: ∀ {nd:Nd.Node} {t:Tr h} {S:List Ptr} {lo hi:Bd},yZ Q h nd t S→WF h lo hi t→Vs Q h nd)
  {nd:Nd.Node} {t:Tr (h+1)} {S:List Ptr} {lo hi:Bd} (rn:yZ Q (h+1) nd t S) (hw:Inn (WF h) lo hi t) (hz:yV (h+1) t≤500):Vs Q (h+1) nd:=by
 have hs:=rn.size
 obtain⟨r1,r2,r3,r4⟩:=rn
 have hl:=hw.2.2.len
 have hkl:=r4.len
 refine⟨r1,by rw[hkl,hl,r2],by omega,zCB ih r4 fun x hx=> ?_⟩
 obtain⟨j,hj,rfl⟩:=qI hx
 exact⟨_,_,KB.at hw.2.2 (zC hj)⟩
theorem zCA {Q:Ptr→Option Nd.Node}{nd:Nd.Node}{t:Kvs}{S:List Ptr}(rn:yZ Q 0 nd t S)(hz:yV 0 t≤500):Vs Q 0 nd:=by
 have hs:=rn.size
 obtain⟨rfl,_⟩:=rn
 exact⟨rfl,by show(List.map Prod.snd _).length=(List.map Prod.fst _).length;rw[qG,qG],by omega⟩
theorem zKA {Q:Ptr→Option Nd.Node} : ∀(h:Nat) {nd:Nd.Node} {t:Tr h} {S:List Ptr} {lo hi:Bd},yZ Q h nd t S→WF h lo hi t→Vs Q h nd
 | 0,_,_,_,_,_,rn,w=>zCA rn w.2.2
 | h+1,_,_,_,_,_,rn,w=>zHP (fun a b=>zKA h a b) rn w.1 w.2.2.2
theorem zIA {Q:Ptr→Option Nd.Node}{h:Nat}{nd:Nd.Node}{t:Tr h}{S:List Ptr}(rn:yZ Q h nd t S)(w:WR h t):Vs Q h nd:=by
 cases h with
 | zero=>exact zCA rn w.2.2
 | succ h=>exact zHP (fun a b=>zKA h a b) rn w.1 w.2.2
end Go.Bt
end
section
namespace Go.Eng.Sh
open Go.Nd (Ptr yF qP Kvs Srt mayK putP delP lookP)
open Go.Bt
def Adw (W:Nat→Prop)(H:AH)(W':Nat→Prop)(H':AH):Prop:=Stp W H H'∧ ∀B,W' B→W B∨H.next≤B
theorem zFg (D:Dyn)(n:Nat){H:AH}(hk:H.ok){v:AV}{l:List Str}(h:jA 1 9 H v l.length (l.map S))(hl:l.length≤1000000000):
  ∃v' H',f79 D n [v] H=some (v',H')∧Prs H H'∧jA 1 9 H' v' l.length (l.map S)∧ ∀B,Blk v' B→H.next≤B:=by
 by_cases h1:v= .nilSlice
 ·subst h1
  exact⟨.nilSlice,H,rfl,Stp.refl hk,h,fun B hB=>(Blk.nil.1 hB).elim⟩
 ·refine dQ D n hk h.row h1 (fun e=> ?_) hl
  subst e
  rcases h with⟨_,⟨h,_⟩ | ⟨_,h,_⟩⟩ | ⟨_,_,_,_,h,_⟩<;>cases h
theorem zJZ (D:Dyn)(n:Nat){H:AH}(hk:H.ok){v:AV}{l:List Ptr}(h:jA 3 65 H v l.length (l.flatMap qW))(hl:l.length≤1000000000):
  ∃v' H',f118 D n [v] H=some (v',H')∧Prs H H'∧jA 3 65 H' v' l.length (l.flatMap qW)∧ ∀B,Blk v' B→H.next≤B:=by
 by_cases h1:v= .nilSlice
 ·subst h1
  exact⟨.nilSlice,H,rfl,Stp.refl hk,h,fun B hB=>(Blk.nil.1 hB).elim⟩
 ·refine QQ D n hk h.row h1 (fun e=> ?_) hl
  subst e
  rcases h with⟨_,⟨h,_⟩ | ⟨_,h,_⟩⟩ | ⟨_,_,_,_,h,_⟩<;>cases h
theorem fY {nd:Nd.Node}(h:Nd.size nd≤500):nd.keys.length≤500∧nd.vals.length≤500∧nd.kids.length≤500:=by
 have h1:=Nd.sumL_ge nd.keys
 have h2:=Nd.sumL_ge nd.vals
 simp only[Nd.size]at h
 omega
theorem zJk (D:Dyn)(n:Nat){H:AH}{At M last s:Nat}{d c dr:AV}{root:Ptr}{es:List (AV×AV)}{q:PN}{nd:Nd.Node}(h:TI H At M d c root es q last dr)(hs:qT s q=some nd)(hz:Nd.size nd≤500):
  ∃v H',f100 D n [.ptr At 0, .agg (qW (pp s))] H=some (.tuple [v, .int .i64 ((0:Nat):Int)],H')∧Prs H H'∧y8 H' v nd∧ ∀B,xJ v B→H.next≤B:=by
 obtain⟨z1,z2,z3⟩:=fY hz
 obtain⟨H1,A3,b1,p1,g1,m1,n1⟩:=box h.ok (.cells [.int .i64 ((1:Nat):Int), .int .i64 ((0:Nat):Int), .int .u64 (s:Nat)] 65 1 false)
 obtain⟨H2,A4,b2,p2,g2,m2,n2⟩:=box p1.ok (.cells [.bool false, .nilSlice, .nilSlice, .nilSlice] 111 1 false)
 have P2:=p1.trans p2
 have h2:=h.prs P2
 have hno:=Q2 D n h2
 obtain⟨v,H3,e3,p3,nv,_⟩:=BM D n h2 hs
 obtain⟨ks,vs,ps,rfl,w1,w2,w3⟩:=nv
 obtain⟨H4,A6,b4,p4,g4,m4,n4⟩:=box p3.ok (.cells [.bool false, .nilSlice, .nilSlice, .nilSlice] 111 1 false)
 have hcells: ∀ {a b c:AV},Eng.isCell a=true→Eng.isCell b=true→Eng.isCell c=true→qO [.bool nd.leaf,a,b,c]=true:=fun ha hb hc=>by simp[qO,ha,hb,hc];rfl
 obtain⟨H5,e5,g5,s5,n5⟩:=qV p4.ok g4 (l':=[.bool nd.leaf,ks,vs,ps]) rfl (hcells w1.isCell w2.isCell w3.isCell)
 have e5':stN 4 (.ptr A6 0) (.agg [.bool nd.leaf,ks,vs,ps]) H4=some (qM,H5):=e5
 have P5:Prs H3 H5:=p4.fresh s5 (fun B hB=>by omega)
 obtain⟨ks',H6,e6,p6,k1,f1⟩:=zFg D n P5.ok (w1.mono P5 (fun _ _ x=>x)) (by omega)
 have P6:=P5.trans p6
 obtain⟨vs',H7,e7,p7,k2,f2⟩:=zFg D n P6.ok (w2.mono P6 (fun _ _ x=>x)) (by omega)
 have P7:=P6.trans p7
 obtain⟨ps',H8,e8,p8,k3,f3⟩:=zJZ D n P7.ok (w3.mono P7 (fun _ _ x=>x)) (by omega)
 have P8:=P7.trans p8
 have Q8:Prs H2 H8:=p3.trans P8
 have N1:=p1.next;have N2:=p2.next;have N3:=p3.next;have N4:=p4.next;have N5:=P5.next;have N6:=p6.next;have N7:=p7.next;have N8:=p8.next
 obtain⟨H9,e9,g9,s9,n9⟩:=qV P8.ok (Prs.get Q8 p2.ok g2) (l':=[.bool nd.leaf,ks',vs',ps']) rfl (hcells k1.isCell k2.isCell k3.isCell)
 have e9':stN 4 (.ptr A4 0) (.agg [.bool nd.leaf,ks',vs',ps']) H8=some (qM,H9):=e9
 have nb: ∀ {v:AV},(∀B,Blk v B→H5.next≤B)→ ∀B,Blk v B→ ¬B=A4:=fun hv B hB=>by have:=hv B hB;omega
 refine⟨.agg [.bool nd.leaf,ks',vs',ps'],H9, ?_,(P2.trans Q8).fresh s9 (fun B hB=>by omega),⟨ks',vs',ps',rfl,((k1.mono p7 (fun _ _ x=>x)).mono p8 (fun _ _ x=>x)).mono s9 (nb f1),(k2.mono p8 (fun _ _ x=>x)).mono s9 (nb fun B hB=>by have:=f2 B hB;omega),k3.mono s9 (nb fun B hB=>by have:=f3 B hB;omega)⟩,fun B hB=> ?_⟩
 ·have hp:qW (pp s)=[.int .i64 ((1:Nat):Int), .int .i64 ((0:Nat):Int), .int .u64 (s:Nat)]:=rfl
  have e3':f73 D n [.ptr At 0, .agg [.int .i64 ((1:Nat):Int), .int .i64 ((0:Nat):Int), .int .u64 (s:Nat)]] H2=some (.tuple [.agg [.bool nd.leaf,ks,vs,ps], .int .i64 ((0:Nat):Int)],H3):=e3
  have g32:=Prs.get p2 p1.ok g1
  have r3:ldN 3 (.ptr A3 0) H2=some (.agg [.int .i64 ((1:Nat):Int), .int .i64 ((0:Nat):Int), .int .u64 (s:Nat)]):=by rw[qQ g32];rfl
  have h10: ¬((1:Nat):Int)=((0:Nat):Int):=by omega
  have t00: ¬(((0:Nat):Int)≠((0:Nat):Int)):=by omega
  have ck: ∀ {H':AH} (i:Nat) {x:AV} (K:Rs),H'.h.get A6=some (.cells [.bool nd.leaf,ks,vs,ps] 111 1 false)→[.bool nd.leaf,ks,vs,ps][i]? =some x→aveq x x=true→chk (ld1 (.ptr A6 i) H') x K=K:=fun i x K g hi hx=>j0 (by rw[qL g];exact hi) hx
  have g6:=Prs.get p6 P5.ok g5
  have g7:=Prs.get p7 P6.ok g6
  have g8:=Prs.get p8 P7.ok g7
  have ab:aveq (.bool nd.leaf) (.bool nd.leaf)=true:=by cases nd.leaf<;>rfl
  have bs:jT [(0,1),(1,1),(2,1),(3,1)] [.bool false, .nilSlice, .nilSlice, .nilSlice] [(0, .bool nd.leaf),(1,ks'),(2,vs'),(3,ps')]=some (.agg [.bool nd.leaf,ks',vs',ps']):=by
   simp only[jT,uG,zGv,yI k1.isCell,yI k2.isCell,yI k3.isCell];rfl
  have r9:ldN 4 (.ptr A4 0) H9=some (.agg [.bool nd.leaf,ks',vs',ps']):=v8 g9 rfl
  rw[hp]
  simp(maxSteps:=999999)(disch:=omega) only[f100,eZ,b1,b2,hno,qL g32,h10,r3,e3',qK,nth,b4,e5',t00,qL g5,e6,ck 0 _ g6 rfl ab,ck 2 _ g6 rfl (yK w2.row),ck 3 _ g6 rfl (yK w3.row),e7,ck 0 _ g7 rfl ab,ck 3 _ g7 rfl (yK w3.row),e8,ck 0 _ g8 rfl ab,bs,e9',r9]
 ·rcases jS.1 hB with e | e | e
  ·have:=f1 B e;omega
  ·have:=f2 B e;omega
  ·have:=f3 B e;omega
theorem zH9 (D:Dyn)(n:Nat){H:AH}{At M last:Nat}{d c dr:AV}{root:Ptr}{es:List (AV×AV)}{q:PN}(h:TI H At M d c root es q last dr):
  f59 D n [.ptr At 0] H=some (.int .i64 ((q.length:Nat):Int),H):=by
 have hno:=Q2 D n h
 have l5:ld1 (.ptr At 5) H=some (.map M):=by rw[qL h.gT];rfl
 have hm:VG (.map M) H=some (.int .i64 ((q.length:Nat):Int)):=by
  simp only[VG,h.gM,yB,h.pq.len];rfl
 simp(maxSteps:=999999)(disch:=omega) only[f59,eZ,hno,l5,hm]
theorem zGd (D:Dyn)(n:Nat){H:AH}{At M last:Nat}{d c dr:AV}{root:Ptr}{es:List (AV×AV)}{q:PN}(h:TI H At M d c root es q last dr):
  ∃H',f83 D n [.ptr At 0] H=some (.agg (qW root),H')∧Prs H H':=by
 obtain⟨H1,A2,b1,p1,g1,m1,n1⟩:=box h.ok (.cells [.int .i64 ((0:Nat):Int), .int .i64 ((0:Nat):Int), .int .u64 ((0:Nat):Int)] 65 1 false)
 have h1:=h.prs p1
 have hno:=Q2 D n h1
 obtain⟨H2,e2,g2,s2,n2⟩:=qV p1.ok g1 (l':=qW root) rfl rfl
 have e2':stN 3 (.ptr A2 0) (.agg (qW root)) H1=some (qM,H2):=e2
 have l2:ldN 3 (.ptr At 2) H1=some (.agg (qW root)):=by rw[qQ h1.gT];rfl
 have r2:ldN 3 (.ptr A2 0) H2=some (.agg (qW root)):=by rw[qQ g2];rfl
 refine⟨H2, ?_,p1.fresh s2 (fun B hB=>by omega)⟩
 simp(maxSteps:=999999)(disch:=omega) only[f83,eZ,b1,hno,l2,e2',r2]
structure Rdr (At N0 k:Nat)(root:Ptr)(Q:Ptr→Option Nd.Node)(G:AH→(Nat→Prop)→Prop):Prop where
 ok: ∀ {H W},G H W→H.ok
 lt: ∀ {H W},G H W→ ∀B,W B→B<H.next
 frame: ∀ {H H' W S},G H W→Stp S H H'→(∀B,S B→N0≤B∧ ¬W B)→G H' W
 root: ∀ {H W} (D:Dyn) (n:Nat),G H W→ ∃H',f83 D n [.ptr At 0] H=some (.agg (qW root),H')∧Prs H H'
 dirty: ∀ {H W} (D:Dyn) (n:Nat),G H W→f59 D n [.ptr At 0] H=some (.int .i64 ((k:Nat):Int),H)
 load: ∀ {H W p nd} (m n:Nat),100000000≤m→100000000≤n→G H W→Q p=some nd→Nd.size nd≤500→ ∃v H' W',f100 (dy m) n [.ptr At 0, .agg (qW p)] H=some (.tuple [v, .int .i64 ((0:Nat):Int)],H')∧G H' W'∧Adw W H W' H'∧y8 H' v nd∧ ∀B,xJ v B→H.next≤B∧ ¬W' B
theorem Rdr.prs {At N0 k:Nat}{root:Ptr}{Q:Ptr→Option Nd.Node}{G:AH→(Nat→Prop)→Prop}(r:Rdr At N0 k root Q G){H H':AH}{W:Nat→Prop}(h:G H W)(s:Prs H H'):G H' W:=r.frame h s (fun _ x=>x.elim)
def GI0 (N0 At M:Nat)(root:Ptr)(q:PN)(H:AH)(W:Nat→Prop):Prop:=(∀B,¬W B)∧At<N0∧M<N0∧ ∃d c es last,TI H At M d c root es q last .nilSlice∧ ∀kv∈es,∀B,xJ kv.2 B→B<N0
theorem zJ3 (N0 At M:Nat)(root:Ptr)(q:PN):Rdr At N0 q.length root (Qf q []) (GI0 N0 At M root q) where
 ok:=fun⟨_,_,_,_,_,_,_,ti,_⟩=>ti.ok
 lt:=fun⟨h,_⟩ B hB=>(h B hB).elim
 frame:=fun {H H' W S} ⟨h1,h2,h3,d,c,es,last,ti,h4⟩ s hS=>⟨h1,h2,h3,d,c,es,last,ti.stp s (fun e=>by have:=(hS _ e).1;omega) (fun e=>by have:=(hS _ e).1;omega) (fun kv hkv B hB e=>by have:=(hS _ e).1;have:=h4 kv hkv B hB;omega),h4⟩
 root:=fun D n ⟨_,_,_,_,_,_,_,ti,_⟩=>zGd D n ti
 dirty:=fun D n ⟨_,_,_,_,_,_,_,ti,_⟩=>zH9 D n ti
 load:=fun {H W p nd} m n _ _ ⟨h1,h2,h3,d,c,es,last,ti,h4⟩ hq hz=>by
  obtain⟨s,rfl,hs⟩:=bC hq
  have hs:qT s q=some nd:=by
   rcases hs with hs | ⟨_,hs⟩
   ·simp[qT]at hs
   ·exact hs
  obtain⟨v,H',e,p,nv,f⟩:=zJk (dy m) n ti hs hz
  exact⟨v,H',W,e,⟨h1,h2,h3,d,c,es,last,ti.prs p,h4⟩,⟨p.mono fun _ _ x=>x.elim,fun B hB=> .inl hB⟩,nv,fun B hB=>⟨f B hB,h1 B⟩⟩
theorem zHV {H:AH}(hk:H.ok){A o e:Nat}{l:List AV}{x:AV}(h:H.h.get A=some (.cells l e 1 false))(hx:Eng.isCell x=true)(ho:o<l.length): ∃H',stN 1 (.ptr A o) x H=some (qM,H')∧H'.h.get A=some (.cells (l.set o x) e 1 false)∧Stp (fun B=>B=A) H H':=
 ⟨_,YQ h (by decide) hx ho,by rw[AH.put_get,if_pos rfl],(Stp.refl hk).put (hk.lt h) _ (.inr rfl)⟩
theorem Stp.thru {S T:Nat→Prop}{H0 H H1:AH}(h:Stp S H0 H)(k:Stp T H H1)(f: ∀A,T A→H0.next≤A∨S A):Stp S H0 H1:=
 ⟨k.ok,Nat.le_trans h.next k.next,fun A hA hS=>by
  rw[k.keep A (zQ hA h.next) (fun x=>by rcases f A x with y | y;omega;exact hS y),h.keep A hA hS]⟩
theorem Adw.refl {W:Nat→Prop}{H:AH}(hk:H.ok):Adw W H W H:=⟨Stp.refl hk,fun _ h=> .inl h⟩
theorem Adw.trans {W W' W'':Nat→Prop}{H H' H'':AH}(h:Adw W H W' H')(k:Adw W' H' W'' H''):Adw W H W'' H'':=
 ⟨Stp.thru h.1 k.1 fun A hA=>(h.2 A hA).symm,fun B hB=>by
  rcases k.2 B hB with e | e
  ·exact h.2 B e
  ·exact .inr (Nat.le_trans h.1.next e)⟩
structure Cns {σ α:Type}(A M N0:Nat)(enc:AH→(Nat→Prop)→α→List AV→Prop)(step:σ→α→Bool×σ)(I:Nat→Bool×σ→AH→(Nat→Prop)→Prop):Prop where
 ok: ∀ {b x H W},I b x H W→H.ok
 lt: ∀ {b x H W},I b x H W→ ∀B,W B→B<H.next∧N0≤B
 mono: ∀ {b b' x H W},I b x H W→b'≤b→I b' x H W
 frame: ∀ {b x H H' W S},I b x H W→Stp S H H'→(∀B,S B→ ¬W B)→I b x H' W
 run: ∀ {b s a az H W} (m:Nat),M≤m→I (b+1) (true,s) H W→enc H W a az→ ∃H' W',(dy (m+1)).yld A az H=some (.bool (step s a).1,H')∧I b (step s a) H' W'∧Adw W H W' H'
def encN (H:AH)(W:Nat→Prop)(x:Ptr×Nd.Node)(az:List AV):Prop:= ∃v,az=[.agg (qW x.1),v]∧y8 H v x.2∧Nd.size x.2≤500∧(x.2.leaf=true→x.2.vals.length=x.2.keys.length)∧ ∀B,xJ v B→ ¬W B
theorem zK7 (m n:Nat){H:AH}(hk:H.ok)(p:Ptr): ∃H',callV (s84 (dy (m+1)) n).S (dy (m+1)) (.func 43 [] []) [.agg (qW p)] H=some (.bool false,H')∧Prs H H':=by
 obtain⟨H1,A1,b1,p1,g1,m1,n1⟩:=box hk (.cells (qW p) 65 1 false)
 refine⟨H1, ?_,p1⟩
 show f43 (dy m) m [.agg (qW p)] H=_
 simp only[f43,eZ,b1]
theorem zHo (m n A:Nat)(az:List AV)(H:AH):callV (s84 (dy (m+1)) n).S (dy (m+1)) (.yieldTo A) az H=(dy (m+1)).yld A az H:=rfl
set_option maxRecDepth 100000 in
theorem zFl (m:Nat)(az:List AV)(H:AH):(dy (m+1)).fn 84 az H=f84 (dy m) m az H:=rfl
section
variable {σ:Type}{At N0 k M A2 Aw:Nat}{root:Ptr}{Q:Ptr→Option Nd.Node}{G:AH→(Nat→Prop)→Prop}{step:σ→Ptr×Nd.Node→Bool×σ}{I:Nat→Bool×σ→AH→(Nat→Prop)→Prop}
def Wid (Aw:Nat)(Wg Wi:Nat→Prop)(B:Nat):Prop:=Wg B∨Wi B∨B=Aw
structure Awk (Aw:Nat)(Wg Wi:Nat→Prop)(H:AH)(Wg' Wi':Nat→Prop)(H':AH):Prop where
 s:Stp (Wid Aw Wg Wi) H H'
 g: ∀B,Wg' B→Wg B∨H.next≤B
 i: ∀B,Wi' B→Wi B∨H.next≤B
theorem Awk.adw {Aw:Nat}{Wg Wi Wg' Wi':Nat→Prop}{H H':AH}(h:Awk Aw Wg Wi H Wg' Wi' H'):Adw (Wid Aw Wg Wi) H (Wid Aw Wg' Wi') H':=⟨h.s,fun B hB=>by
 rcases hB with e | e | e
 ·exact(h.g B e).imp .inl id
 ·exact(h.i B e).imp (fun x=> .inr (.inl x)) id
 ·exact .inl (.inr (.inr e))⟩
theorem Awk.prs {Aw:Nat}{Wg Wi:Nat→Prop}{H H':AH}(h:Prs H H'):Awk Aw Wg Wi H Wg Wi H':=⟨h.stp,fun _ x=> .inl x,fun _ x=> .inl x⟩
theorem Awk.refl {Aw:Nat}{Wg Wi:Nat→Prop}{H:AH}(h:H.ok):Awk Aw Wg Wi H Wg Wi H:=Awk.prs (Stp.refl h)
theorem Awk.trans {Aw:Nat}{Wg Wi Wg' Wi' Wg2 Wi2:Nat→Prop}{H H' H2:AH}(h:Awk Aw Wg Wi H Wg' Wi' H')(k:Awk Aw Wg' Wi' H' Wg2 Wi2 H2):Awk Aw Wg Wi H Wg2 Wi2 H2:=
 ⟨(h.adw.trans k.adw).1,fun B hB=>by
  rcases k.g B hB with e | e
  ·exact h.g B e
  ·exact .inr (Nat.le_trans h.s.next e),fun B hB=>by
  rcases k.i B hB with e | e
  ·exact h.i B e
  ·exact .inr (Nat.le_trans h.s.next e)⟩
structure Wk (N0 At Aw:Nat)(G:AH→(Nat→Prop)→Prop)(I:Nat→Bool×σ→AH→(Nat→Prop)→Prop)(H:AH)(Wg Wi:Nat→Prop)(left bud:Nat)(x:Bool×σ):Prop where
 g:G H Wg
 i:I bud x H Wi
 w: ∃e,H.h.get Aw=some (.cells [.ptr At 0, .nilMap, .int .i64 ((left:Nat):Int), .int .i64 ((0:Nat):Int)] e 1 false)
 lo:N0≤Aw
 ng: ¬Wg Aw
 ni: ¬Wi Aw
 sep: ∀B,Wi B→ ¬Wg B
variable (r:Rdr At N0 k root Q G)(c:Cns A2 M N0 encN step I)
include r c
theorem Wk.ok {H:AH}{Wg Wi:Nat→Prop}{left bud:Nat}{x:Bool×σ}(h:Wk N0 At Aw G I H Wg Wi left bud x):H.ok:=And.left ⟨r.ok h.g,c.ok h.i⟩
theorem Wk.lt {H:AH}{Wg Wi:Nat→Prop}{left bud:Nat}{x:Bool×σ}(h:Wk N0 At Aw G I H Wg Wi left bud x): ∀B,Wid Aw Wg Wi B→B<H.next:=fun B hB=>by
 rcases hB with e | e | rfl
 ·exact r.lt h.g B e
 ·exact(c.lt h.i B e).1
 ·obtain⟨_,g⟩:=h.w;exact(r.ok h.g).lt g
theorem Wk.frame {H H':AH}{Wg Wi S:Nat→Prop}{left bud:Nat}{x:Bool×σ}(h:Wk N0 At Aw G I H Wg Wi left bud x)(s:Stp S H H')(hS: ∀B,S B→N0≤B∧ ¬Wid Aw Wg Wi B):Wk N0 At Aw G I H' Wg Wi left bud x:=by
 obtain⟨e,g⟩:=h.w
 refine⟨r.frame h.g s fun B hB=>⟨(hS B hB).1,fun w=>(hS B hB).2 (.inl w)⟩,c.frame h.i s fun B hB w=>(hS B hB).2 (.inr (.inl w)),⟨e, ?_⟩,h.lo,h.ng,h.ni,h.sep⟩
 rw[s.keep _ ((r.ok h.g).lt g) (fun w=>(hS _ w).2 (.inr (.inr rfl)))];exact g
theorem Wk.prs {H H':AH}{Wg Wi:Nat→Prop}{left bud:Nat}{x:Bool×σ}(h:Wk N0 At Aw G I H Wg Wi left bud x)(s:Prs H H'):Wk N0 At Aw G I H' Wg Wi left bud x:=h.frame r c s fun _ w=>w.elim
theorem Wk.less {H:AH}{Wg Wi:Nat→Prop}{left left' bud:Nat}{x:Bool×σ}(h:Wk N0 At Aw G I H Wg Wi left bud x): ∃H',stN 1 (.ptr Aw 2) (.int .i64 ((left':Nat):Int)) H=some (qM,H')∧Wk N0 At Aw G I H' Wg Wi left' bud x∧Stp (fun B=>B=Aw) H H':=by
 obtain⟨e,g⟩:=h.w
 obtain⟨H',e1,g1,s1⟩:=zHV (r.ok h.g) g (o:=2) (x:= .int .i64 ((left':Nat):Int)) rfl (by simp)
 exact⟨H',e1,⟨r.frame h.g s1 (fun B hB=>by subst hB;exact⟨h.lo,h.ng⟩),c.frame h.i s1 (fun B hB=>by subst hB;exact h.ni),⟨e,g1⟩,h.lo,h.ng,h.ni,h.sep⟩,s1⟩
theorem Wk.noerr {H:AH}{Wg Wi:Nat→Prop}{left bud:Nat}{x:Bool×σ}(h:Wk N0 At Aw G I H Wg Wi left bud x): ∃H',stN 1 (.ptr Aw 3) (.int .i64 ((0:Nat):Int)) H=some (qM,H')∧Wk N0 At Aw G I H' Wg Wi left bud x∧Stp (fun B=>B=Aw) H H':=by
 obtain⟨e,g⟩:=h.w
 obtain⟨H',e1,g1,s1⟩:=zHV (r.ok h.g) g (o:=3) (x:= .int .i64 ((0:Nat):Int)) rfl (by simp)
 exact⟨H',e1,⟨r.frame h.g s1 (fun B hB=>by subst hB;exact⟨h.lo,h.ng⟩),c.frame h.i s1 (fun B hB=>by subst hB;exact h.ni),⟨e,g1⟩,h.lo,h.ng,h.ni,h.sep⟩,s1⟩
theorem Wk.load {H:AH}{Wg Wi:Nat→Prop}{left bud:Nat}{x:Bool×σ}{p:Ptr}{nd:Nd.Node}(m n:Nat)(hm:100000000≤m)(hn:100000000≤n)(h:Wk N0 At Aw G I H Wg Wi left bud x)(hq:Q p=some nd)(hz:Nd.size nd≤500):
  ∃v H' Wg',f100 (dy m) n [.ptr At 0, .agg (qW p)] H=some (.tuple [v, .int .i64 ((0:Nat):Int)],H')∧Wk N0 At Aw G I H' Wg' Wi left bud x∧Awk Aw Wg Wi H Wg' Wi H'∧y8 H' v nd∧ ∀B,xJ v B→H.next≤B∧ ¬Wid Aw Wg' Wi B:=by
 obtain⟨v,H',Wg',e1,g1,a1,n1,f1⟩:=r.load m n hm hn h.g hq hz
 obtain⟨e,g⟩:=h.w
 have hlt:=(r.ok h.g).lt g
 have hw': ∀B,Wg' B→ ¬Wi B:=fun B hB hi=>by
  rcases a1.2 B hB with e | e
  ·exact h.sep B hi e
  ·have:=(c.lt h.i B hi).1;omega
 refine⟨v,H',Wg',e1,⟨g1,c.frame h.i a1.1 (fun B hB hi=>h.sep B hi hB),⟨e,by rw[a1.1.keep _ hlt h.ng];exact g⟩,h.lo,fun hB=> ?_,h.ni,fun B hi hB=>hw' B hB hi⟩,⟨a1.1.mono fun B _ hB=> .inl hB,a1.2,fun B hB=> .inl hB⟩,n1,fun B hB=>⟨(f1 B hB).1,fun hw=> ?_⟩⟩
 ·rcases a1.2 _ hB with e | e
  ·exact h.ng e
  ·omega
 ·have h1:=(f1 B hB).1
  rcases hw with e | e | e
  ·exact(f1 B hB).2 e
  ·have:=(c.lt h.i B e).1;omega
  ·omega
theorem Wk.tell {H:AH}{Wg Wi:Nat→Prop}{left bud:Nat}{s:σ}{p:Ptr}{nd:Nd.Node}{v:AV}(m n:Nat)(hm:M≤m)(h:Wk N0 At Aw G I H Wg Wi left (bud+1) (true,s))(hv:y8 H v nd)(hz:Nd.size nd≤500)(hl:nd.leaf=true→nd.vals.length=nd.keys.length)(hb: ∀B,xJ v B→ ¬Wid Aw Wg Wi B):
  ∃H' Wi',callV (s84 (dy (m+1)) n).S (dy (m+1)) (.yieldTo A2) [.agg (qW p),v] H=some (.bool (step s (p,nd)).1,H')∧Wk N0 At Aw G I H' Wg Wi' left bud (step s (p,nd))∧Awk Aw Wg Wi H Wg Wi' H':=by
 obtain⟨H',Wi',e1,i1,a1⟩:=c.run m hm h.i (a:=(p,nd)) (az:=[.agg (qW p),v]) ⟨v,rfl,hv,hz,hl,fun B hB w=>hb B hB (.inr (.inl w))⟩
 obtain⟨e,g⟩:=h.w
 have hlt:=(r.ok h.g).lt g
 refine⟨H',Wi',by rw[zHo];exact e1,⟨r.frame h.g a1.1 (fun B hB=>⟨(c.lt h.i B hB).2,h.sep B hB⟩),i1,⟨e,by rw[a1.1.keep _ hlt h.ni];exact g⟩,h.lo,h.ng,fun hB=> ?_,fun B hB hg=> ?_⟩,⟨a1.1.mono fun B _ hB=> .inr (.inl hB),fun B hB=> .inl hB,a1.2⟩⟩
 ·rcases a1.2 _ hB with e | e
  ·exact h.ni e
  ·omega
 ·rcases a1.2 B hB with e | e
  ·exact h.sep B e hg
  ·have:=r.lt h.g B hg;omega
omit r c
structure NB (H:AH)(W:Nat→Prop)(A:Nat)(v:AV)(nd:Nd.Node):Prop where
 g: ∃l e,v= .agg l∧H.h.get A=some (.cells l e 1 false)
 nv:y8 H v nd
 a: ¬W A
 b: ∀B,xJ v B→ ¬W B
theorem NB.adw {H H':AH}{W W':Nat→Prop}{A:Nat}{v:AV}{nd:Nd.Node}(h:NB H W A v nd)(hk:H.ok)(s:Adw W H W' H'):NB H' W' A v nd:=by
 obtain⟨l,e,rfl,g⟩:=h.g
 have hlt:=hk.lt g
 refine⟨⟨l,e,rfl,by rw[s.1.keep _ hlt h.a];exact g⟩,h.nv.stp s.1 h.b,fun hw=> ?_,fun B hB hw=> ?_⟩
 ·rcases s.2 _ hw with e | e
  ·exact h.a e
  ·omega
 ·rcases s.2 _ hw with e | e
  ·exact h.b B hB e
  ·have:=h.nv.lt hB;omega
end
open Go.Nd (Ptr yF qP)
open Go.Bt
theorem zD6 {nd:Nd.Node}(h:Nd.size nd≤500):small nd:=by
 simp only[Nd.size]at h
 refine⟨?_, ?_, ?_⟩<;>omega
section
variable {σ:Type}{At N0 k M A2 Aw:Nat}{root:Ptr}{Q:Ptr→Option Nd.Node}{G:AH→(Nat→Prop)→Prop}{step:σ→Ptr×Nd.Node→Bool×σ}{I:Nat→Bool×σ→AH→(Nat→Prop)→Prop}{fr to:Str}
variable (r:Rdr At N0 k root Q G)(c:Cns A2 M N0 encN step I)
include r c
theorem zCw (m n:Nat)(hm:M+300000000≤m)(hn:300000000≤n){p:Ptr}{nd:Nd.Node}{s:σ}{H:AH}{Wg Wi:Nat→Prop}{left:Nat}(hq:Q p=some nd)(hz:Nd.size nd≤500)(hvl:nd.leaf=true→nd.vals.length=nd.keys.length)(h:Wk N0 At Aw G I H Wg Wi (left+1) (left+1) (true,s))(hlf:left≤1000000000):
  ∃H5 Wg' Wi' A13 v,Wk N0 At Aw G I H5 Wg' Wi' left left (step s (p,nd))∧Awk Aw Wg Wi H Wg' Wi' H5∧NB H5 (Wid Aw Wg' Wi') A13 v nd∧
   ((step s (p,nd)).1=false→f84 (dy (m+1)) n [.ptr Aw 0, .agg (qW p),S fr,S to, .func 43 [] [], .yieldTo A2] H=some (.bool false,H5))∧
   ((step s (p,nd)).1=true→nd.leaf=true→f84 (dy (m+1)) n [.ptr Aw 0, .agg (qW p),S fr,S to, .func 43 [] [], .yieldTo A2] H=some (.bool true,H5))∧
   ((step s (p,nd)).1=true→nd.leaf=false→ ∃H6,Prs H5 H6∧f84 (dy (m+1)) n [.ptr Aw 0, .agg (qW p),S fr,S to, .func 43 [] [], .yieldTo A2] H=outR (jb 0 (qX n (YC (dy (m+1)) n) [.ptr Aw 0,S fr,S to, .func 43 [] [], .yieldTo A2, .ptr A13 0, .int .i64 ((y0 nd.keys fr:Nat):Int), .int .i64 ((y0 nd.keys fr:Nat):Int)] H6) (zGU (dy (m+1)) n))):=by
 have hk:=h.ok r c
 obtain⟨e0,gw0⟩:=h.w
 have lw:=hk.lt gw0
 have hlo:=h.lo
 obtain⟨H1,A7,b1,p1,g1,m1,n1⟩:=box hk (.cells (qW p) 65 1 false)
 obtain⟨H2,e2,p2⟩:=zK7 m n p1.ok p
 have P2:=p1.trans p2
 have W2:=h.prs r c P2
 obtain⟨H3,e3,W3,s3⟩:=W2.less r c (left':=left)
 have N1:=p1.next;have N2:=p2.next;have N3:=s3.next
 obtain⟨H4,A13,b4,p4,g4,m4,n4⟩:=box s3.ok (.cells [.bool false, .nilSlice, .nilSlice, .nilSlice] 111 1 false)
 have W4:=W3.prs r c p4
 have N4:=p4.next
 have lt3:=W3.lt r c
 have nA13: ¬Wid Aw Wg Wi A13:=fun hw=>by have:=lt3 _ hw;omega
 obtain⟨H5,e5,g5,s5,n5⟩:=qV p4.ok g4 (l':=[.bool false, .nilSlice, .nilSlice, .nilSlice]) rfl rfl
 have e5':stN 4 (.ptr A13 0) (.agg [.bool false, .nilSlice, .nilSlice, .nilSlice]) H4=some (qM,H5):=e5
 have W5:=W4.frame r c s5 (fun B hB=>by subst hB;exact⟨by omega,nA13⟩)
 have N5:=s5.next
 obtain⟨v,H6,Wg',e6,W6,a6,nv6,f6⟩:=W5.load r c (m+1) n (by omega) (by omega) hq hz
 have N6:=a6.s.next
 have nA13': ¬Wid Aw Wg' Wi A13:=fun hw=>by
  rcases a6.adw.2 _ hw with e | e
  ·exact nA13 e
  ·omega
 have g6:H6.h.get A13=some (.cells [.bool false, .nilSlice, .nilSlice, .nilSlice] 111 1 false):=by rw[a6.s.keep _ (by omega) nA13];exact g5
 obtain⟨ks,vs,ps,rfl,w1,w2,w3⟩:=nv6
 have nv6:y8 H6 (.agg [.bool nd.leaf,ks,vs,ps]) nd:=⟨ks,vs,ps,rfl,w1,w2,w3⟩
 obtain⟨H7,e7,g7,s7,n7⟩:=qV (W6.ok r c) g6 (l':=[.bool nd.leaf,ks,vs,ps]) rfl (by simp[qO,w1.isCell,w2.isCell,w3.isCell];rfl)
 have e7':stN 4 (.ptr A13 0) (.agg [.bool nd.leaf,ks,vs,ps]) H6=some (qM,H7):=e7
 have W7:=W6.frame r c s7 (fun B hB=>by subst hB;exact⟨by omega,nA13'⟩)
 have nv7:=nv6.stp s7 (fun B hB e=>by have:=(f6 B hB).1;omega)
 obtain⟨H8,e8,W8,s8⟩:=W7.noerr r c
 have nv8:=nv7.stp s8 (fun B hB e=>by have:=(f6 B hB).1;omega)
 have N7:=s7.next;have N8:=s8.next
 have g8:H8.h.get A13=some (.cells [.bool nd.leaf,ks,vs,ps] 111 1 false):=by rw[s8.keep _ (by omega) (by omega)];exact g7
 obtain⟨H9,Wi',e9,W9,a9⟩:=W8.tell r c m n (by omega) nv8 hz hvl (fun B hB=>(f6 B hB).2)
 have nb8:NB H8 (Wid Aw Wg' Wi) A13 (.agg [.bool nd.leaf,ks,vs,ps]) nd:=⟨⟨_,_,rfl,g8⟩,nv8,nA13',fun B hB=>(f6 B hB).2⟩
 have nb9:=nb8.adw (W8.ok r c) a9.adw
 have g9:H9.h.get A13=some (.cells [.bool nd.leaf,ks,vs,ps] 111 1 false):=by rw[a9.s.keep _ (by omega) nA13'];exact g8
 obtain⟨H10,e10,p10⟩:=fP (dy (m+1)) n (by omega) (W9.ok r c) (v:= .agg [.bool nd.leaf,ks,vs,ps]) (nd:=nd) (key:=fr) nb9.nv.node (zD6 hz)
 have st3:Stp (Wid Aw Wg Wi) H H3:=(Prs.stp P2).trans (s3.mono fun B _ hB=> .inr (.inr hB))
 have st4:Stp (Wid Aw Wg Wi) H H4:=st3.trans p4.stp
 have st5:Stp (Wid Aw Wg Wi) H H5:=Stp.thru st4 s5 fun B hB=> .inl (by omega)
 have st6:Stp (Wid Aw Wg Wi) H H6:=st5.trans a6.s
 have st7:Stp (Wid Aw Wg Wi) H H7:=Stp.thru st6 s7 fun B hB=> .inl (by omega)
 have st8:Stp (Wid Aw Wg Wi) H H8:=Stp.thru st7 s8 fun B hB=> .inr (.inr (.inr hB))
 have st9:Stp (Wid Aw Wg Wi) H H9:=Stp.thru st8 a9.s fun B hB=>by
  rcases a6.adw.2 B hB with e | e
  ·exact .inr e
  ·exact .inl (by omega)
 refine⟨H9,Wg',Wi',A13, .agg [.bool nd.leaf,ks,vs,ps],W9,⟨st9,fun B hB=>(a6.g B hB).imp id fun e=>by omega,fun B hB=>(a9.i B hB).imp id fun e=>by omega⟩,nb9, ?_⟩
 have gw2:=W2.w;have gw3:=W3.w;have gw5:=W5.w;have gw8:=W8.w
 obtain⟨x2,gw2⟩:=gw2;obtain⟨x3,gw3⟩:=gw3;obtain⟨x5,gw5⟩:=gw5;obtain⟨x8,gw8⟩:=gw8
 have ne7:A7≠Aw:=by omega
 have nA7: ∀ {Wi:Nat→Prop},¬Wid Aw Wg Wi A7→True:=fun _=>trivial
 have q3:H3.h.get A7=some (.cells (qW p) 65 1 false):=by rw[s3.keep _ (by omega) ne7];exact Prs.get p2 p1.ok g1
 have q5:H5.h.get A7=some (.cells (qW p) 65 1 false):=by rw[s5.keep _ (by omega) (by omega),p4.keep _ (by omega) (fun x=>x)];exact q3
 have nw7: ¬Wid Aw Wg Wi A7:=fun hw=>by have:=h.lt r c _ hw;omega
 have q8:H8.h.get A7=some (.cells (qW p) 65 1 false):=by rw[s8.keep _ (by omega) ne7,s7.keep _ (by omega) (by omega),a6.s.keep _ (by omega) nw7];exact q5
 have hsub:((left+1:Nat):Int) - ((1:Nat):Int)=((left:Nat):Int):=by omega
 have hneg: ¬((left:Nat):Int)< ((0:Nat):Int):=by omega
 have t00: ¬(((0:Nat):Int)≠((0:Nat):Int)):=by omega
 have hky:Eng.keyOk (1::[6,6,10]) (.agg (qW p))=true:=rfl
 have hlk:lkM (1::[6,6,10]) (.agg [.bool false, .nilSlice, .nilSlice, .nilSlice]) true .nilMap (.agg (qW p)) H3=some (.tuple [.agg [.bool false, .nilSlice, .nilSlice, .nilSlice], .bool false]):=by
  simp only[lkM,hky,cond_true];rfl
 have ap: ∀ {H:AH},H.h.get A7=some (.cells (qW p) 65 1 false)→ldN 3 (.ptr A7 0) H=some (.agg (qW p)):=fun g=>by rw[qQ g];rfl
 have hbx:bxV 65 (.agg (qW p))=some (.cells (qW p) 65 1 false,fun A=> .ptr A 0):=rfl
 have r1:ldN 3 (.ptr A7 0) H1=some (.agg (qW p)):=ap g1
 have r9:ldN 4 (.ptr A13 0) H9=some (.agg [.bool nd.leaf,ks,vs,ps]):=v8 g9 rfl
 have r8:ldN 4 (.ptr A13 0) H8=some (.agg [.bool nd.leaf,ks,vs,ps]):=v8 g8 rfl
 refine⟨fun hb=> ?_,fun hb hl=> ?_,fun hb hl=>⟨H10,p10, ?_⟩⟩
 ·rw[hb]at e9
  simp(maxSteps:=999999)(disch:=omega) only[f84,zGT,eZ,hbx,b1,r1,e2,qL gw2,hsub,e3,qL gw3,hneg,hlk,ap q3,qK,nth,b4,e5',qL gw5,ap q5,e6,e7',e8,qL gw8,t00,ap q8,r8,e9]
 ·rw[hb]at e9
  rw[hl]at e6 e7' r8 e9 g9
  simp(maxSteps:=999999)(disch:=omega) only[f84,zGT,eZ,hbx,b1,r1,e2,qL gw2,hsub,e3,qL gw3,hneg,hlk,ap q3,qK,nth,b4,e5',qL gw5,ap q5,e6,e7',e8,qL gw8,t00,ap q8,r8,e9,qL g9]
 ·rw[hb]at e9
  rw[hl]at e6 e7' r8 e9 g9 r9 e10
  rw[uK hl rfl fr]at e10
  simp(maxSteps:=999999)(disch:=omega) only[f84,zGT,eZ,hbx,b1,r1,e2,qL gw2,hsub,e3,qL gw3,hneg,hlk,ap q3,qK,nth,b4,e5',qL gw5,ap q5,e6,e7',e8,qL gw8,t00,ap q8,r8,e9,qL g9,r9,e10]
end
open Go.Nd (Ptr yF qP)
open Go.Bt
theorem l0_go (D:Dyn)(n:Nat){H H':AH}{A2 Aw A13 first i:Nat}{fr to:Str}{nd:Nd.Node}{v:AV}{W:Nat→Prop}{b:Bool}(nb:NB H W A13 v nd)(hi:i<nd.kids.length)(hlen:nd.kids.length=nd.keys.length+1)(hs:i≤1000000)
  (hgo:i=first∨(first<i∧y9 to (nd.keys.getD (i - 1) [])=true))
  (e1:D.fn 84 [.ptr Aw 0, .agg (qW nd.kids[i]),S fr,S to, .func 43 [] [], .yieldTo A2] H=some (.bool b,H')):
  YC D n [.ptr Aw 0,S fr,S to, .func 43 [] [], .yieldTo A2, .ptr A13 0, .int .i64 ((first:Nat):Int), .int .i64 ((i:Nat):Int)] H=some (bif b then .norm [.ptr Aw 0,S fr,S to, .func 43 [] [], .yieldTo A2, .ptr A13 0, .int .i64 ((first:Nat):Int), .int .i64 ((i+1:Nat):Int)]else .ret (.bool false),H'):=by
 obtain⟨l,e,rfl,g⟩:=nb.g
 obtain⟨ks,vs,ps,hl,w1,w2,w3⟩:=nb.nv
 simp only[AV.agg.injEq]at hl
 subst hl
 have hp:uI H ps nd.kids:=w3.row
 have hx:Strs H ks nd.keys:=w1.row
 obtain⟨qp,ip,ip'⟩:=hp.at hi
 have hiI:((i:Nat):Int)< ((nd.kids.length:Nat):Int):=by omega
 have hi1:((i:Nat):Int)+((1:Nat):Int)=((i+1:Nat):Int):=by omega
 have hS:(AV.str 0 0)=S []:=rfl
 rcases hgo with rfl | ⟨hf,ha⟩
 ·have hgt: ¬((i:Nat):Int)< ((i:Nat):Int):=by omega
  cases b<;>simp(maxSteps:=999999)(disch:=omega) only[YC,eZ,cond_true,cond_false,qL g,hp.lnSl,hiI,hgt,ip,ip',e1,hi1]
 ·have hgt:((first:Nat):Int)< ((i:Nat):Int):=by omega
  by_cases ht:to=[]
  ·have hne:kO .neq (S to) (S [])=some (.bool false):=by rw[u5];simp[ht]
   cases b<;>simp(maxSteps:=999999)(disch:=omega) only[YC,eZ,cond_true,cond_false,qL g,hp.lnSl,hiI,hgt,hS,hne,ip,ip',e1,hi1]
  ·have hne:kO .neq (S to) (S [])=some (.bool true):=by rw[u5];simp[ht]
   have hi':i - 1<nd.keys.length:=by omega
   obtain⟨qk,ik,ik'⟩:=hx.at hi'
   have hsub:((i:Nat):Int) - ((1:Nat):Int)=((i - 1:Nat):Int):=by omega
   have hlt:ltS nd.keys[i - 1] to=true:=by
    rw[zK,zC hi',Option.getD_some]at ha
    simp only[y9,Bool.or_eq_true,List.isEmpty_iff,ht,false_or]at ha
    exact ha
   have hge:kO .geq (S nd.keys[i - 1]) (S to)=some (.bool false):=by rw[dW,hlt];rfl
   cases b<;>simp(maxSteps:=999999)(disch:=omega) only[YC,eZ,cond_true,cond_false,qL g,hp.lnSl,hiI,hgt,hS,hne,hsub,ik,ik',hge,ip,ip',e1,hi1]
theorem zJo (D:Dyn)(n:Nat){H:AH}{A2 Aw A13 first i:Nat}{fr to:Str}{nd:Nd.Node}{v:AV}{W:Nat→Prop}(nb:NB H W A13 v nd)(hlen:nd.kids.length=nd.keys.length+1)(hs:i≤1000000)
  (hst:nd.kids.length≤i∨(first<i∧i<nd.kids.length∧y9 to (nd.keys.getD (i - 1) [])=false)):
  YC D n [.ptr Aw 0,S fr,S to, .func 43 [] [], .yieldTo A2, .ptr A13 0, .int .i64 ((first:Nat):Int), .int .i64 ((i:Nat):Int)] H=some (.exit 0 [],H):=by
 obtain⟨l,e,rfl,g⟩:=nb.g
 obtain⟨ks,vs,ps,hl,w1,w2,w3⟩:=nb.nv
 simp only[AV.agg.injEq]at hl
 subst hl
 have hp:uI H ps nd.kids:=w3.row
 have hx:Strs H ks nd.keys:=w1.row
 have hS:(AV.str 0 0)=S []:=rfl
 rcases hst with hge | ⟨hf,hi,ha⟩
 ·have hiI: ¬((i:Nat):Int)< ((nd.kids.length:Nat):Int):=by omega
  simp(maxSteps:=999999)(disch:=omega) only[YC,eZ,cond_true,cond_false,qL g,hp.lnSl,hiI]
 ·have hiI:((i:Nat):Int)< ((nd.kids.length:Nat):Int):=by omega
  have hgt:((first:Nat):Int)< ((i:Nat):Int):=by omega
  have hi':i - 1<nd.keys.length:=by omega
  rw[zK,zC hi',Option.getD_some]at ha
  simp only[y9,Bool.or_eq_false_iff]at ha
  have hne:kO .neq (S to) (S [])=some (.bool true):=by
   rw[u5]
   have:to≠[]:=fun e=>by rw[e]at ha;simp at ha
   simp[this]
  obtain⟨qk,ik,ik'⟩:=hx.at hi'
  have hsub:((i:Nat):Int) - ((1:Nat):Int)=((i - 1:Nat):Int):=by omega
  have hge:kO .geq (S nd.keys[i - 1]) (S to)=some (.bool true):=by rw[dW,ha.2];rfl
  simp(maxSteps:=999999)(disch:=omega) only[YC,eZ,cond_true,cond_false,qL g,hp.lnSl,hiI,hgt,hS,hne,hsub,ik,ik',hge]
def zMm {σ:Type}(N0 At Aw M A2:Nat)(Q:Ptr→Option Nd.Node)(G:AH→(Nat→Prop)→Prop)(step:σ→Ptr×Nd.Node→Bool×σ)(I:Nat→Bool×σ→AH→(Nat→Prop)→Prop)(fr to:Str)(h:Nat):Prop:=
 ∀(m n:Nat) (p:Ptr) (nd:Nd.Node) (s:σ) (H:AH) (Wg Wi:Nat→Prop) (left:Nat),M+h+300000000≤m→300000000≤n→Q p=some nd→Vs Q h nd→Wk N0 At Aw G I H Wg Wi left left (true,s)→(wI Q fr to h p nd).length≤left→left≤1000000000→
  ∃H' Wg' Wi' left',f84 (dy (m+1)) n [.ptr Aw 0, .agg (qW p),S fr,S to, .func 43 [] [], .yieldTo A2] H=some (.bool (jJ step (wI Q fr to h p nd) s).1,H')∧Wk N0 At Aw G I H' Wg' Wi' left' left' (jJ step (wI Q fr to h p nd) s)∧Awk Aw Wg Wi H Wg' Wi' H'∧left≤left'+(wI Q fr to h p nd).length∧left'≤left
section
variable {σ:Type}{At N0 k M A2 Aw:Nat}{root:Ptr}{Q:Ptr→Option Nd.Node}{G:AH→(Nat→Prop)→Prop}{step:σ→Ptr×Nd.Node→Bool×σ}{I:Nat→Bool×σ→AH→(Nat→Prop)→Prop}{fr to:Str}
variable (r:Rdr At N0 k root Q G)(c:Cns A2 M N0 encN step I)
include r c
theorem zCv {h m n A13:Nat}{nd:Nd.Node}{v:AV}(ih:zMm N0 At Aw M A2 Q G step I fr to h)(hlen:nd.kids.length=nd.keys.length+1)(hz:Nd.size nd≤500)(hkids: ∀p∈nd.kids,∃nd',Q p=some nd'∧Vs Q h nd')(hm:M+h+300000000≤m):
  ∀(rr i kf:Nat) {s:σ} {H:AH} {Wg Wi:Nat→Prop} {left:Nat},y0 nd.keys fr≤i→i+rr=y0 nd.keys fr+cX nd.keys to (y0 nd.keys fr)→rr<kf→Wk N0 At Aw G I H Wg Wi left left (true,s)→NB H (Wid Aw Wg Wi) A13 v nd→(((nd.kids.drop i).take rr).flatMap (VJ Q (wI Q fr to h))).length≤left→left≤1000000000→
   ∃H' Wg' Wi' left',jb 0 (qX kf (YC (dy (m+2)) n) [.ptr Aw 0,S fr,S to, .func 43 [] [], .yieldTo A2, .ptr A13 0, .int .i64 ((y0 nd.keys fr:Nat):Int), .int .i64 ((i:Nat):Int)] H) (zGU (dy (m+2)) n)=some (.ret (.bool (jJ step (((nd.kids.drop i).take rr).flatMap (VJ Q (wI Q fr to h))) s).1),H')∧
    Wk N0 At Aw G I H' Wg' Wi' left' left' (jJ step (((nd.kids.drop i).take rr).flatMap (VJ Q (wI Q fr to h))) s)∧Awk Aw Wg Wi H Wg' Wi' H'∧left≤left'+(((nd.kids.drop i).take rr).flatMap (VJ Q (wI Q fr to h))).length∧left'≤left
 | 0,i,0,_,_,_,_,_,_,_,hk,_,_,_,_=>by omega
 | 0,i,kf+1,s,H,Wg,Wi,left,hf,he,_,wk,nb,_,_=>by
  have hle:=vI nd.keys fr
  have hc:=Z5 nd.keys to _ hle
  have hk5:nd.keys.length≤500:=by obtain⟨a,_,_⟩:=fY hz;exact a
  refine⟨H,Wg,Wi,left, ?_,by simpa[jJ]using wk,Awk.refl (wk.ok r c),by simp,Nat.le_refl _⟩
  have hst:nd.kids.length≤i∨(y0 nd.keys fr<i∧i<nd.kids.length∧y9 to (nd.keys.getD (i - 1) [])=false):=by
   by_cases hi:nd.kids.length≤i
   ·exact .inl hi
   ·have h1:1≤cX nd.keys to (y0 nd.keys fr):=Nat.succ_le_succ (Nat.zero_le _)
    refine .inr ⟨by omega,by omega, ?_⟩
    have hd:(nd.keys.drop (y0 nd.keys fr))[((nd.keys.drop (y0 nd.keys fr)).takeWhile (y9 to)).length]? =some (nd.keys.getD (i - 1) []):=by
     rw[qE,zK]
     have:y0 nd.keys fr+((nd.keys.drop (y0 nd.keys fr)).takeWhile (y9 to)).length=i - 1:=by
      have:cX nd.keys to (y0 nd.keys fr)=((nd.keys.drop (y0 nd.keys fr)).takeWhile (y9 to)).length+1:=rfl
      omega
     rw[this,zC (by omega),Option.getD_some]
    exact uM hd
  rw[yE (zJo (dy (m+2)) n nb hlen (by omega) hst)]
  simp only[List.take_zero,List.flatMap_nil,jJ]
  simp only[jb,zGU,eZ]
  rfl
 | rr+1,i,0,_,_,_,_,_,_,_,hk,_,_,_,_=>by omega
 | rr+1,i,kf+1,s,H,Wg,Wi,left,hf,he,hkf,wk,nb,hl,hlf=>by
  have hle:=vI nd.keys fr
  have hc:=Z5 nd.keys to _ hle
  have hk5:nd.keys.length≤500:=by obtain⟨a,_,_⟩:=fY hz;exact a
  have hi:i<nd.kids.length:=by omega
  have hL:((nd.kids.drop i).take (rr+1)).flatMap (VJ Q (wI Q fr to h))=VJ Q (wI Q fr to h) nd.kids[i]++((nd.kids.drop (i+1)).take rr).flatMap (VJ Q (wI Q fr to h)):=by
   rw[zM hi,List.take_succ_cons,zT]
  obtain⟨nd',hq,hv⟩:=hkids _ (zS hi)
  have hkf':VJ Q (wI Q fr to h) nd.kids[i]=wI Q fr to h nd.kids[i] nd':=by simp only[VJ,hq]
  rw[hL,hkf']at hl⊢
  rw[zH]at hl
  obtain⟨H1,Wg1,Wi1,left1,e1,wk1,a1,l1,l1'⟩:=ih m (m+1) _ _ _ _ _ _ _ hm (by omega) hq hv wk (by omega) hlf
  have hgo:i=y0 nd.keys fr∨(y0 nd.keys fr<i∧y9 to (nd.keys.getD (i - 1) [])=true):=by
   by_cases hif:i=y0 nd.keys fr
   ·exact .inl hif
   ·refine .inr ⟨by omega, ?_⟩
    have hlt:i - 1 - y0 nd.keys fr< ((nd.keys.drop (y0 nd.keys fr)).takeWhile (y9 to)).length:=by
     have:cX nd.keys to (y0 nd.keys fr)=((nd.keys.drop (y0 nd.keys fr)).takeWhile (y9 to)).length+1:=rfl
     omega
    refine fT hlt ?_
    rw[qE,show y0 nd.keys fr+(i - 1 - y0 nd.keys fr)=i - 1 by omega,zK,zC (by omega),Option.getD_some]
  have hb:=l0_go (dy (m+2)) n (Aw:=Aw) (A2:=A2) (fr:=fr) nb hi hlen (by omega) hgo (by rw[zFl];exact e1)
  rw[zAL]
  cases hr:(jJ step (wI Q fr to h nd.kids[i] nd') s).1 with
  | false=>
   rw[hr]at hb
   simp only[cond_false]at hb⊢
   have hs:jJ step (wI Q fr to h nd.kids[i] nd') s=(false,(jJ step (wI Q fr to h nd.kids[i] nd') s).2):=by rw[← hr]
   rw[hs]at wk1
   refine⟨H1,Wg1,Wi1,left1, ?_,wk1,a1,by rw[zH];omega,l1'⟩
   rw[KL hb];rfl
  | true=>
   rw[hr]at hb
   simp only[cond_true]at hb⊢
   have hs:jJ step (wI Q fr to h nd.kids[i] nd') s=(true,(jJ step (wI Q fr to h nd.kids[i] nd') s).2):=by rw[← hr]
   rw[hs]at wk1
   obtain⟨H2,Wg2,Wi2,left2,e2,wk2,a2,l2,l2'⟩:=zCv ih hlen hz hkids hm rr (i+1) kf (by omega) (by omega) (by omega) wk1 (nb.adw (wk.ok r c) a1.adw) (by omega) (by omega)
   refine⟨H2,Wg2,Wi2,left2, ?_,wk2,a1.trans a2,by rw[zH];omega,by omega⟩
   rw[vN hb];exact e2
theorem zCx: ∀h,zMm N0 At Aw M A2 Q G step I fr to h
 | 0=>fun m n p nd s H Wg Wi left hm hn hq hv wk hl hlf=>by
  obtain⟨v1,v2,v3⟩:=hv
  have hvis:wI Q fr to 0 p nd=[(p,nd)]:=rfl
  rw[hvis]at hl⊢
  obtain⟨l,rfl⟩: ∃l,left=l+1:=⟨left - 1,by simp at hl;omega⟩
  obtain⟨H5,Wg',Wi',A13,v,wk',a',nb,c1,c2,_⟩:=zCw r c (fr:=fr) (to:=to) m n (by omega) hn hq v3 (fun _=>v2) wk (by omega)
  have hrun:jJ step [(p,nd)] s=step s (p,nd):=by
   simp only[jJ]
   cases hb:(step s (p,nd)).1 with
   | true=>simp only[cond_true];rw[← hb]
   | false=>simp only[cond_false];rw[← hb]
  rw[hrun]
  refine⟨H5,Wg',Wi',l, ?_,wk',a',by simp,by omega⟩
  cases hb:(step s (p,nd)).1 with
  | true=>exact c2 hb v1
  | false=>exact c1 hb
 | h+1=>fun m n p nd s H Wg Wi left hm hn hq hv wk hl hlf=>by
  obtain⟨v1,v2,v3,v4⟩:=hv
  have hvis:wI Q fr to (h+1) p nd=(p,nd)::((nd.kids.drop (y0 nd.keys fr)).take (cX nd.keys to (y0 nd.keys fr))).flatMap (VJ Q (wI Q fr to h)):=rfl
  rw[hvis]at hl⊢
  simp only[zG]at hl⊢
  obtain⟨l,rfl⟩: ∃l,left=l+1:=⟨left - 1,by omega⟩
  obtain⟨m',rfl⟩: ∃m',m=m'+1:=⟨m - 1,by omega⟩
  obtain⟨H5,Wg',Wi',A13,v,wk',a',nb,c1,_,c3⟩:=zCw r c (fr:=fr) (to:=to) (m'+1) n (by omega) hn hq v3 (fun e=>by rw[v1]at e;cases e) wk (by omega)
  cases hb:(step s (p,nd)).1 with
  | false=>
   have hs:step s (p,nd)=(false,(step s (p,nd)).2):=by rw[← hb]
   refine⟨H5,Wg',Wi',l, ?_, ?_,a',by omega,by omega⟩
   ·simp only[jJ,hb,cond_false];exact c1 hb
   ·simp only[jJ,hb,cond_false];rw[hs]at wk';exact wk'
  | true=>
   have hs:step s (p,nd)=(true,(step s (p,nd)).2):=by rw[← hb]
   rw[hs]at wk'
   obtain⟨H6,p6,e6⟩:=c3 hb v1
   have hk5:nd.keys.length≤500:=by obtain⟨a,_,_⟩:=fY v3;exact a
   have hle:=vI nd.keys fr
   have hc:=Z5 nd.keys to _ hle
   obtain⟨H7,Wg7,Wi7,l7,e7,wk7,a7,b7,b7'⟩:=zCv r c (m:=m') (n:=n) (zCx h) v2 v3 v4 (by omega) (cX nd.keys to (y0 nd.keys fr)) (y0 nd.keys fr) n (Nat.le_refl _) rfl (by omega) (wk'.prs r c p6) (nb.adw (wk'.ok r c) ⟨p6.stp,fun B hB=> .inl hB⟩) (by omega) (by omega)
   refine⟨H7,Wg7,Wi7,l7, ?_, ?_,a'.trans ((Awk.prs p6).trans a7),by omega,by omega⟩
   ·rw[e6,e7]
    simp only[jJ,hb,cond_true];rfl
   ·simp only[jJ,hb,cond_true];exact wk7
end
open Go.Nd (Ptr yF qP whereN)
open Go.Bt
def encP (_:AH)(_:Nat→Prop)(x:Str×Str)(az:List AV):Prop:=az=[.agg [S x.1,S x.2]]
def lpP (b:Bool)(Bf Bt By:Nat):ALoop:=⟨bif b then .ready else .done,bif b then none else some .ret,60,0,[2,3,5],[.ptr Bf 0, .ptr Bt 0, .ptr By 0]⟩
def zFV (A2 Bf Bt By B:Nat):Prop:=B=A2∨B=Bf∨B=Bt∨B=By
structure Inn2 {σ:Type}(I:Nat→Bool×σ→AH→(Nat→Prop)→Prop)(N0 Bf Bt By A1:Nat)(fr to:Str)(b:Nat)(bo:Bool)(s:σ)(H:AH)(Wo:Nat→Prop):Prop where
 i:I b (bo,s) H Wo
 bf:Box H Bf (S fr)
 bt:Box H Bt (S to)
 by':Box H By (.yieldTo A1)
 lo:N0≤Bf∧N0≤Bt∧N0≤By
 nw: ¬Wo Bf∧ ¬Wo Bt∧ ¬Wo By
def I2 {σ:Type}(I:Nat→Bool×σ→AH→(Nat→Prop)→Prop)(N0 A2 Bf Bt By A1:Nat)(fr to:Str)(b:Nat)(x:Bool×σ)(H:AH)(W:Nat→Prop):Prop:=
 ∃Wo bo,Inn2 I N0 Bf Bt By A1 fr to (500*b) bo x.2 H Wo∧(x.1=true→bo=true)∧H.h.get A2=some (.loop (lpP x.1 Bf Bt By))∧N0≤A2∧ ¬Wo A2∧ ∀B,W B↔(Wo B∨zFV A2 Bf Bt By B)
section
variable {σ:Type}{A1 M N0:Nat}{step:σ→Str×Str→Bool×σ}{I:Nat→Bool×σ→AH→(Nat→Prop)→Prop}(c:Cns A1 M N0 encP step I)
include c
theorem Inn2.adw {Bf Bt By:Nat}{fr to:Str}{b b':Nat}{bo bo':Bool}{s s':σ}{H H':AH}{Wo Wo':Nat→Prop}(h:Inn2 I N0 Bf Bt By A1 fr to b bo s H Wo)(a:Adw Wo H Wo' H')(i:I b' (bo',s') H' Wo'):Inn2 I N0 Bf Bt By A1 fr to b' bo' s' H' Wo':=by
 have hk:=c.ok h.i
 have nw: ∀ {B:Nat} {x:AV},Box H B x→ ¬Wo B→ ¬Wo' B:=fun hb hn hw=>by
  rcases a.2 _ hw with e | e
  ·exact hn e
  ·have:=hb.lt hk;omega
 exact⟨i,h.bf.mono hk a.1 h.nw.1,h.bt.mono hk a.1 h.nw.2.1,h.by'.mono hk a.1 h.nw.2.2,h.lo,nw h.bf h.nw.1,nw h.bt h.nw.2.1,nw h.by' h.nw.2.2⟩
theorem Inn2.frame {Bf Bt By:Nat}{fr to:Str}{b:Nat}{bo:Bool}{s:σ}{H H':AH}{Wo S:Nat→Prop}(h:Inn2 I N0 Bf Bt By A1 fr to b bo s H Wo)(k:Stp S H H')(hS: ∀B,S B→ ¬Wo B∧B≠Bf∧B≠Bt∧B≠By):Inn2 I N0 Bf Bt By A1 fr to b bo s H' Wo:=by
 have hk:=c.ok h.i
 exact⟨c.frame h.i k fun B hB=>(hS B hB).1,h.bf.mono hk k fun e=>(hS _ e).2.1 rfl,h.bt.mono hk k fun e=>(hS _ e).2.2.1 rfl,h.by'.mono hk k fun e=>(hS _ e).2.2.2 rfl,h.lo,h.nw⟩
theorem Inn2.drop {Bf Bt By:Nat}{fr to:Str}{b b':Nat}{bo:Bool}{s:σ}{H:AH}{Wo:Nat→Prop}(h:Inn2 I N0 Bf Bt By A1 fr to b bo s H Wo)(hb:b'≤b):Inn2 I N0 Bf Bt By A1 fr to b' bo s H Wo:=⟨c.mono h.i hb,h.bf,h.bt,h.by',h.lo,h.nw⟩
theorem VH {m n A7 Bf Bt By:Nat}{fr to:Str}{nd:Nd.Node}{v:AV}(hm:M≤m)(hvl:nd.vals.length=nd.keys.length)(hz:nd.keys.length≤500):
  ∀(rr i kf:Nat) {b:Nat} {s:σ} {H:AH} {Wo:Nat→Prop},i+rr=nd.keys.length→rr<kf→Inn2 I N0 Bf Bt By A1 fr to (b+rr) true s H Wo→NB H Wo A7 v nd→
   ∃H' Wo' bo e,jb 2 (qX kf (zA7 (dy (m+1)) n) [.ptr Bt 0, .ptr By 0, .ptr A7 0, .int .i64 ((i:Nat):Int)] H) (zJM (dy (m+1)) n)=some (e,H')∧
    Inn2 I N0 Bf Bt By A1 fr to b bo (jJ (k9 to step) ((nd.keys.zip nd.vals).drop i) s).2 H' Wo'∧Adw Wo H Wo' H'∧((jJ (k9 to step) ((nd.keys.zip nd.vals).drop i) s).1=true→bo=true∧e= .norm [])∧((jJ (k9 to step) ((nd.keys.zip nd.vals).drop i) s).1=false→e= .ret (.tuple []))
 | _,_,0,_,_,_,_,_,hk,_,_=>by omega
 | 0,i,kf+1,b,s,H,Wo,he,_,hi,nb=>by
  obtain⟨l,e,rfl,g⟩:=nb.g
  obtain⟨ks,vs,ps,hl,w1,w2,w3⟩:=nb.nv
  simp only[AV.agg.injEq]at hl
  subst hl
  have hx:Strs H ks nd.keys:=w1.row
  have hnil:(nd.keys.zip nd.vals).drop i=[]:=zP (by simp;omega)
  rw[hnil]
  refine⟨H,Wo,true, .norm [], ?_,hi,Adw.refl (c.ok hi.i),fun _=>⟨rfl,rfl⟩,fun h=>by simp[jJ]at h⟩
  have hge: ¬((i:Nat):Int)< ((nd.keys.length:Nat):Int):=by omega
  rw[yE (i:=2) (vs':=[]) (H':=H) (by simp(maxSteps:=999999)(disch:=omega) only[zA7,eZ,qL g,hx.lnSl,hge])]
  simp only[jb,zJM,eZ]
  rfl
 | rr+1,i,kf+1,b,s,H,Wo,he,hkf,hi,nb=>by
  have nb0:=nb
  obtain⟨l,e,rfl,g⟩:=nb.g
  obtain⟨ks,vs,ps,hl,w1,w2,w3⟩:=nb.nv
  simp only[AV.agg.injEq]at hl
  subst hl
  have hx:Strs H ks nd.keys:=w1.row
  have hy:Strs H vs nd.vals:=w2.row
  have hik:i<nd.keys.length:=by omega
  have hiv:i<nd.vals.length:=by omega
  obtain⟨qk,ik,ik'⟩:=hx.at hik
  obtain⟨qv,iv,iv'⟩:=hy.at hiv
  have hiI:((i:Nat):Int)< ((nd.keys.length:Nat):Int):=by omega
  have hi1:((i:Nat):Int)+((1:Nat):Int)=((i+1:Nat):Int):=by omega
  have hS:(AV.str 0 0)=S []:=rfl
  have hL:(nd.keys.zip nd.vals).drop i=(nd.keys[i],nd.vals[i])::(nd.keys.zip nd.vals).drop (i+1):=by
   rw[zM (by simp;omega),List.getElem_zip]
  rw[hL]
  have hbs:jT [(0,1),(1,1)] [S [],S []] [(0,S nd.keys[i]),(1,S nd.vals[i])]=some (.agg [S nd.keys[i],S nd.vals[i]]):=rfl
  have hcall: ∀az H,callV (s60 (dy (m+1)) n).S (dy (m+1)) (.yieldTo A1) az H=(dy (m+1)).yld A1 az H:=fun _ _=>rfl
  cases ha:y9 to nd.keys[i]with
  | false=>
   have hst:k9 to step s (nd.keys[i],nd.vals[i])=(false,s):=by simp only[k9,ha,cond_false]
   simp only[jJ,hst,cond_false]
   refine⟨H,Wo,true, .ret (.tuple []), ?_,hi.drop c (b':=b) (by omega),Adw.refl (c.ok hi.i),fun h=>by simp at h,fun _=>rfl⟩
   simp only[y9,Bool.or_eq_false_iff]at ha
   have hne:kO .neq (S to) (S [])=some (.bool true):=by
    rw[u5]
    have:to≠[]:=fun e=>by rw[e]at ha;simp at ha
    simp[this]
   have hge:kO .geq (S nd.keys[i]) (S to)=some (.bool true):=by rw[dW,ha.2];rfl
   rw[KL (v:= .tuple []) (H':=H) (by simp(maxSteps:=999999)(disch:=omega) only[zA7,eZ,qL g,hx.lnSl,hiI,hi.bt.ld,hS,hne,ik,ik',hge])]
   rfl
  | true=>
   obtain⟨H1,Wo1,e1,i1,a1⟩:=c.run m hm hi.i (a:=(nd.keys[i],nd.vals[i])) (az:=[.agg [S nd.keys[i],S nd.vals[i]]]) rfl
   have hi':=hi.adw c a1 (b':=b+rr) (bo':=(step s (nd.keys[i],nd.vals[i])).1) (s':=(step s (nd.keys[i],nd.vals[i])).2) i1
   have hst:k9 to step s (nd.keys[i],nd.vals[i])=step s (nd.keys[i],nd.vals[i]):=by simp only[k9,ha,cond_true]
   have body:zA7 (dy (m+1)) n [.ptr Bt 0, .ptr By 0, .ptr A7 0, .int .i64 ((i:Nat):Int)] H=some (bif (step s (nd.keys[i],nd.vals[i])).1 then .norm [.ptr Bt 0, .ptr By 0, .ptr A7 0, .int .i64 ((i+1:Nat):Int)]else .ret (.tuple []),H1):=by
    by_cases ht:to=[]
    ·have hne:kO .neq (S to) (S [])=some (.bool false):=by rw[u5];simp[ht]
     cases hb:(step s (nd.keys[i],nd.vals[i])).1<;>rw[hb]at e1<;>simp(maxSteps:=999999)(disch:=omega) only[zA7,eZ,cond_true,cond_false,qL g,hx.lnSl,hiI,hi.bt.ld,hi.by'.ld,hS,hne,ik,ik',iv,iv',hbs,hcall,e1,hi1]
    ·have hne:kO .neq (S to) (S [])=some (.bool true):=by rw[u5];simp[ht]
     have hlt:ltS nd.keys[i] to=true:=by simpa[y9,ht]using ha
     have hge:kO .geq (S nd.keys[i]) (S to)=some (.bool false):=by rw[dW,hlt];rfl
     cases hb:(step s (nd.keys[i],nd.vals[i])).1<;>rw[hb]at e1<;>simp(maxSteps:=999999)(disch:=omega) only[zA7,eZ,cond_true,cond_false,qL g,hx.lnSl,hiI,hi.bt.ld,hi.by'.ld,hS,hne,ik,ik',hge,iv,iv',hbs,hcall,e1,hi1]
   have nb1:=nb0.adw (c.ok hi.i) a1
   cases hb:(step s (nd.keys[i],nd.vals[i])).1 with
   | false=>
    rw[hb]at body hi'
    simp only[cond_false]at body
    simp only[jJ,hst,hb,cond_false]
    refine⟨H1,Wo1,false, .ret (.tuple []), ?_,hi'.drop c (b':=b) (by omega),a1,fun h=>by simp at h,fun _=>rfl⟩
    rw[KL body];rfl
   | true=>
    rw[hb]at body hi'
    simp only[cond_true]at body
    simp only[jJ,hst,hb,cond_true]
    obtain⟨H2,Wo2,bo,e,e2,i2,a2,t2,f2⟩:=VH hm hvl hz rr (i+1) kf (by omega) (by omega) hi' nb1
    refine⟨H2,Wo2,bo,e, ?_,i2,a1.trans a2,t2,f2⟩
    rw[vN body];exact e2
end
open Go.Nd (Ptr yF qP whereN)
open Go.Bt
section
variable {σ:Type}{A1 M N0:Nat}{step:σ→Str×Str→Bool×σ}{I:Nat→Bool×σ→AH→(Nat→Prop)→Prop}(c:Cns A1 M N0 encP step I)
include c
omit c in
theorem zFk (m:Nat){H:AH}{A2 Bf Bt By:Nat}(gA:H.h.get A2=some (.loop (lpP true Bf Bt By)))(az:List AV):(dy (m+1)).yld A2 az H=BN (dy m) m A2 (lpP true Bf Bt By) az H:=by
 show KE (tabR (dy m) m) A2 az H=_
 simp only[KE,gA]
 rfl
theorem zE5 {A2 Bf Bt By:Nat}{fr to:Str}{b0:Nat}{s:σ}{a:Ptr×Nd.Node}{az:List AV}{H:AH}{W:Nat→Prop}(m:Nat)(hm:M+300000000≤m)(hi:I2 I N0 A2 Bf Bt By A1 fr to (b0+1) (true,s) H W)(he:encN H W a az):
  ∃H' W',(dy (m+1)).yld A2 az H=some (.bool (wF fr to step s a).1,H')∧I2 I N0 A2 Bf Bt By A1 fr to b0 (wF fr to step s a) H' W'∧Adw W H W' H':=by
 obtain⟨Wo,bo,hi,hb,gA,hlo,nA,hW⟩:=hi
 obtain rfl:=hb rfl
 obtain⟨p,nd⟩:=a
 obtain⟨v,rfl,nv,hz,hvl,nvw⟩:=he
 simp only at nv hz hvl nvw⊢
 obtain⟨m',rfl⟩: ∃m',m=m'+1:=⟨m - 1,by omega⟩
 rw[zFk (m'+1) gA]
 have hk:=c.ok hi.i
 have lA:=hk.lt gA
 have n2:A2≠Bf∧A2≠Bt∧A2≠By:=by
  refine⟨fun e=> ?_,fun e=> ?_,fun e=> ?_⟩
  ·obtain⟨_,h⟩:=hi.bf;rw[← e,gA]at h;cases h
  ·obtain⟨_,h⟩:=hi.bt;rw[← e,gA]at h;cases h
  ·obtain⟨_,h⟩:=hi.by';rw[← e,gA]at h;cases h
 have lbf:=hi.bf.lt hk;have lbt:=hi.bt.lt hk;have lby:=hi.by'.lt hk
 have nvo: ∀B,xJ v B→ ¬Wo B:=fun B hB w=>nvw B hB ((hW B).2 (.inl w))
 have nv2: ¬xJ v A2:=fun hB=>nvw A2 hB ((hW A2).2 (.inr (.inl rfl)))
 obtain⟨ks,vs,ps,rfl,w1,w2,w3⟩:=nv
 have nv:y8 H (.agg [.bool nd.leaf,ks,vs,ps]) nd:=⟨ks,vs,ps,rfl,w1,w2,w3⟩
 obtain⟨H1,A7,b1,p1,g1,m1,n1⟩:=box hk (.cells [.bool false, .nilSlice, .nilSlice, .nilSlice] 111 1 false)
 obtain⟨H2,e2,g2,s2,n2'⟩:=qV p1.ok g1 (l':=[.bool nd.leaf,ks,vs,ps]) rfl (by simp[qO,w1.isCell,w2.isCell,w3.isCell];rfl)
 have e2':stN 4 (.ptr A7 0) (.agg [.bool nd.leaf,ks,vs,ps]) H1=some (qM,H2):=e2
 have P2:Prs H H2:=p1.fresh s2 fun B hB=>by omega
 have N1:=p1.next;have N2:=s2.next
 have gA2:=Prs.get P2 hk gA
 have hbeg: ∀K:AH→Rs,dV A2 H2 K=K (H2.put A2 (.loop { lpP true Bf Bt By with state:= .busy})):=fun K=>by
  simp only[dV,gA2,lpP,cond_true,jB]
 have s3:Stp (fun B=>B=A2) H2 (H2.put A2 (.loop { lpP true Bf Bt By with state:= .busy})):=(Stp.refl s2.ok).put (s2.ok.lt gA2) _ (.inr rfl)
 have g3:(H2.put A2 (.loop { lpP true Bf Bt By with state:= .busy})).h.get A2=some (.loop { lpP true Bf Bt By with state:= .busy}):=by rw[AH.put_get,if_pos rfl]
 generalize H2.put A2 (.loop { lpP true Bf Bt By with state:= .busy})=H3 at s3 g3 hbeg
 have N3:=s3.next
 have lWo: ∀B,Wo B→B<H.next:=fun B hB=>(c.lt hi.i B hB).1
 have i3:=(hi.frame c P2 (fun _ x=>x.elim)).frame c s3 (fun B hB=>by subst hB;exact⟨nA,n2⟩)
 have q3:H3.h.get A7=some (.cells [.bool nd.leaf,ks,vs,ps] 111 1 false):=by rw[s3.keep _ (by omega) (by omega)];exact g2
 have nv3:y8 H3 (.agg [.bool nd.leaf,ks,vs,ps]) nd:=(nv.prs P2).stp s3 fun B hB e=>nv2 (e▸hB)
 have nb3:NB H3 Wo A7 (.agg [.bool nd.leaf,ks,vs,ps]) nd:=⟨⟨_,_,rfl,q3⟩,nv3,fun w=>by have:=lWo _ w;omega,nvo⟩
 have hl:Y8 [2,3,5] (lpP true Bf Bt By).live=true:=rfl
 have hvls:(lpP true Bf Bt By).vals=[.ptr Bf 0, .ptr Bt 0, .ptr By 0]:=rfl
 have s03:Stp W H H3:=(Prs.stp P2).trans (s3.mono fun B _ hB=>(hW B).2 (.inr (.inl hB)))
 cases hlf:nd.leaf with
 | false=>
  have hst:wF fr to step s (p,nd)=(true,s):=by simp only[wF,xH,hlf,cond_false,jJ]
  rw[hst]
  rw[hlf]at q3 e2'
  have s4:Stp (fun B=>B=A2) H3 (H3.put A2 (.loop (lpP true Bf Bt By))):=(Stp.refl s3.ok).put (s3.ok.lt g3) _ (.inr rfl)
  have hend:X9 A2 none H3=some (.bool true,H3.put A2 (.loop (lpP true Bf Bt By))):=by simp only[X9,g3,jB,lpP,cond_true]
  have i4:=i3.frame c s4 (fun B hB=>by subst hB;exact⟨nA,n2⟩)
  refine⟨H3.put A2 (.loop (lpP true Bf Bt By)),W, ?_,⟨Wo,true,i4.drop c (b':=500*b0) (by omega),fun _=>rfl,by rw[AH.put_get,if_pos rfl],hlo,nA,hW⟩,⟨s03.trans (s4.mono fun B _ hB=>(hW B).2 (.inr (.inl hB))),fun B hB=> .inl hB⟩⟩
  simp(maxSteps:=999999)(disch:=omega) only[BN,eZ,hl,hvls,cond_true,b1,e2',hbeg,qL q3,zJL]
  exact hend
 | true=>
  rw[hlf]at q3 e2' nb3
  obtain⟨H4,e4,p4⟩:=fP (dy (m'+1)) (m'+1) (by omega) s3.ok (key:=fr) nb3.nv.node (zD6 hz)
  have i4:=i3.frame c p4 (fun _ x=>x.elim)
  have nb4:NB H4 Wo A7 (.agg [.bool true,ks,vs,ps]) nd:=nb3.adw s3.ok ⟨p4.stp,fun B hB=> .inl hB⟩
  have hwl:=Nd.whereN_le nd fr
  have hk5:nd.keys.length≤500:=by obtain⟨a,_,_⟩:=fY hz;exact a
  obtain⟨H5,Wo5,bo5,e,e5,i5,a5,t5,f5⟩:=VH c (m:=m') (n:=m'+1) (by omega) (hvl hlf) hk5 (nd.keys.length - whereN nd fr) (whereN nd fr) (m'+1) (b:=500*b0) (by omega) (by omega) (i4.drop c (b':=500*b0+(nd.keys.length - whereN nd fr)) (by omega)) nb4
  have hst:wF fr to step s (p,nd)=jJ (k9 to step) ((nd.keys.zip nd.vals).drop (whereN nd fr)) s:=by simp only[wF,xH,hlf,cond_true]
  rw[hst]
  have N4:=p4.next;have N5:=a5.1.next
  have g4:H4.h.get A2=some (.loop { lpP true Bf Bt By with state:= .busy}):=Prs.get p4 s3.ok g3
  have g5:H5.h.get A2=some (.loop { lpP true Bf Bt By with state:= .busy}):=by rw[a5.1.keep _ (by omega) nA];exact g4
  have hk5':=c.ok i5.i
  have nA5: ¬Wo5 A2:=fun w=>by
   rcases a5.2 _ w with e | e
   ·exact nA e
   ·omega
  have r4:ldN 4 (.ptr A7 0) H3=some (.agg [.bool true,ks,vs,ps]):=v8 q3 rfl
  have fin: ∀b:Bool,Stp (fun B=>B=A2) H5 (H5.put A2 (.loop (lpP b Bf Bt By))):=fun b=>(Stp.refl hk5').put (hk5'.lt g5) _ (.inr rfl)
  have run: ∀b:Bool,X9 A2 (bif b then none else some .ret) H5=some (.bool b,H5.put A2 (.loop (lpP b Bf Bt By))):=fun b=>by
   cases b<;>simp only[X9,g5,jB,lpP,cond_true,cond_false]
  have out: ∀b:Bool,(b=true→bo5=true)→I2 I N0 A2 Bf Bt By A1 fr to b0 (b,(jJ (k9 to step) ((nd.keys.zip nd.vals).drop (whereN nd fr)) s).2) (H5.put A2 (.loop (lpP b Bf Bt By))) (fun B=>Wo5 B∨zFV A2 Bf Bt By B):=fun b hb=>
   ⟨Wo5,bo5,i5.frame c (fin b) (fun B hB=>by subst hB;exact⟨nA5,n2⟩),hb,by rw[AH.put_get,if_pos rfl],hlo,nA5,fun B=>Iff.rfl⟩
  have adw: ∀b:Bool,Adw W H (fun B=>Wo5 B∨zFV A2 Bf Bt By B) (H5.put A2 (.loop (lpP b Bf Bt By))):=fun b=>by
   refine⟨((s03.trans p4.stp).trans (a5.1.mono fun B _ hB=>(hW B).2 (.inl hB))).trans ((fin b).mono fun B _ hB=>(hW B).2 (.inr (.inl hB))),fun B hB=> ?_⟩
   rcases hB with e | e
   ·rcases a5.2 B e with e | e
    ·exact .inl ((hW B).2 (.inl e))
    ·exact .inr (by omega)
   ·exact .inl ((hW B).2 (.inr e))
  cases hr:(jJ (k9 to step) ((nd.keys.zip nd.vals).drop (whereN nd fr)) s).1 with
  | true=>
   obtain⟨rfl,rfl⟩:=t5 hr
   have hs:jJ (k9 to step) ((nd.keys.zip nd.vals).drop (whereN nd fr)) s=(true,(jJ (k9 to step) ((nd.keys.zip nd.vals).drop (whereN nd fr)) s).2):=by rw[← hr]
   rw[hs]
   refine⟨_,_, ?_,out true (fun _=>rfl),adw true⟩
   have e5':=e5
   simp(maxSteps:=999999)(disch:=omega) only[BN,eZ,hl,hvls,cond_true,b1,e2',hbeg,qL q3,r4,i3.bf.ld,e4,e5,zJL]
   exact run true
  | false=>
   obtain rfl:=f5 hr
   have hs:jJ (k9 to step) ((nd.keys.zip nd.vals).drop (whereN nd fr)) s=(false,(jJ (k9 to step) ((nd.keys.zip nd.vals).drop (whereN nd fr)) s).2):=by rw[← hr]
   rw[hs]
   refine⟨_,_, ?_,out false (fun h=>by cases h),adw false⟩
   simp(maxSteps:=999999)(disch:=omega) only[BN,eZ,hl,hvls,cond_true,b1,e2',hbeg,qL q3,r4,i3.bf.ld,e4,e5]
   exact run false
theorem zE6 (A2 Bf Bt By:Nat)(fr to:Str):Cns A2 (M+300000000) N0 encN (wF fr to step) (I2 I N0 A2 Bf Bt By A1 fr to) where
 ok:=fun⟨_,_,hi,_⟩=>c.ok hi.i
 lt:=fun {b x H W} ⟨Wo,bo,hi,hb,gA,hlo,nA,hW⟩ B hB=>by
  have hk:=c.ok hi.i
  rcases(hW B).1 hB with e | e | e | e | e
  ·exact c.lt hi.i B e
  ·subst e;exact⟨hk.lt gA,hlo⟩
  ·subst e;exact⟨hi.bf.lt hk,hi.lo.1⟩
  ·subst e;exact⟨hi.bt.lt hk,hi.lo.2.1⟩
  ·subst e;exact⟨hi.by'.lt hk,hi.lo.2.2⟩
 mono:=fun⟨Wo,bo,hi,hb,gA,hlo,nA,hW⟩ h=>⟨Wo,bo,hi.drop c (by omega),hb,gA,hlo,nA,hW⟩
 frame:=fun {b x H H' W S} ⟨Wo,bo,hi,hb,gA,hlo,nA,hW⟩ s hS=>by
  have hk:=c.ok hi.i
  refine⟨Wo,bo,hi.frame c s fun B hB=>⟨fun w=>hS B hB ((hW B).2 (.inl w)),fun e=>hS B hB ((hW B).2 (.inr (.inr (.inl e)))),fun e=>hS B hB ((hW B).2 (.inr (.inr (.inr (.inl e))))),fun e=>hS B hB ((hW B).2 (.inr (.inr (.inr (.inr e)))))⟩,hb, ?_,hlo,nA,hW⟩
  rw[s.keep _ (hk.lt gA) fun w=>hS A2 w ((hW A2).2 (.inr (.inl rfl)))];exact gA
 run:=fun m hm hi he=>zE5 c m hm hi he
end
open Go.Nd (Ptr yF qP whereN)
open Go.Bt
def Vis (Q:Ptr→Option Nd.Node)(root:Ptr)(fr to:Str)(L:List (Ptr×Nd.Node)):Prop:=
 ((root.at_=0∨(to≠[]∧ltS fr to=false))∧L=[])∨(root.at_≠0∧(to=[]∨ltS fr to=true)∧ ∃h nd,h≤1000000∧Q root=some nd∧Vs Q h nd∧L=wI Q fr to h root nd)
section
variable {σ:Type}{At N0 k M A2 Aw:Nat}{root:Ptr}{Q:Ptr→Option Nd.Node}{G:AH→(Nat→Prop)→Prop}{step:σ→Ptr×Nd.Node→Bool×σ}{I:Nat→Bool×σ→AH→(Nat→Prop)→Prop}{fr to:Str}
variable (r:Rdr At N0 k root Q G)(c:Cns A2 M N0 encN step I)
include r c
theorem zDN (m:Nat)(hm:M+310000000≤m){Xw Xt Xf Xp:Nat}{s:σ}{H:AH}{Wg Wi:Nat→Prop}{left:Nat}{L:List (Ptr×Nd.Node)}(wk:Wk N0 At Aw G I H Wg Wi left left (true,s))(hL:Vis Q root fr to L)(hl:L.length≤left)(hlf:left≤1000000000)
  (bw:Box H Xw (.ptr Aw 0)) (bt:Box H Xt (S to)) (bf:Box H Xf (S fr)) (bp:Box H Xp (.func 43 [] [])):
  ∃H' Wg' Wi' left',f82 (dy m) m [.yieldTo A2, .ptr Xw 0, .ptr Xt 0, .ptr Xf 0, .ptr Xp 0] H=some (.tuple [],H')∧Wk N0 At Aw G I H' Wg' Wi' left' left' (jJ step L s)∧Awk Aw Wg Wi H Wg' Wi' H':=by
 have hk:=wk.ok r c
 obtain⟨ek,gw⟩:=wk.w
 obtain⟨m',rfl⟩: ∃m',m=m'+1:=⟨m - 1,by omega⟩
 obtain⟨H1,e1,p1⟩:=r.root (dy (m'+1)) (m'+1) wk.g
 obtain⟨H2,A6,b2,p2,g2,m2,n2⟩:=box p1.ok (.cells [.int .i64 ((0:Nat):Int), .int .i64 ((0:Nat):Int), .int .u64 ((0:Nat):Int)] 65 1 false)
 obtain⟨H3,e3,g3,s3,n3⟩:=qV p2.ok g2 (l':=qW root) rfl rfl
 have e3':stN 3 (.ptr A6 0) (.agg (qW root)) H2=some (qM,H3):=e3
 have N1:=p1.next;have N2:=p2.next;have N3:=s3.next
 have P3:Prs H H3:=(p1.trans p2).fresh s3 fun B hB=>by omega
 have wk3:=wk.prs r c P3
 have up: ∀ {A:Nat} {x:AV},Box H A x→Box H3 A x:=fun hb=>hb.mono hk P3 fun x=>x
 have bw3:=up bw;have bt3:=up bt;have bf3:=up bf;have bp3:=up bp
 have hS:(AV.str 0 0)=S []:=rfl
 have g3':H3.h.get A6=some (.cells [.int .i64 root.at_, .int .i64 root.birth, .int .u64 root.sum] 65 1 false):=g3
 have r3:ldN 3 (.ptr A6 0) H3=some (.agg (qW root)):=by rw[qQ g3];rfl
 have hbx:bxV 65 (.agg [.int .i64 ((0:Nat):Int), .int .i64 ((0:Nat):Int), .int .u64 ((0:Nat):Int)])=some (.cells [.int .i64 ((0:Nat):Int), .int .i64 ((0:Nat):Int), .int .u64 ((0:Nat):Int)] 65 1 false,fun A=> .ptr A 0):=rfl
 rcases hL with⟨hL,rfl⟩ | ⟨hr,ht,h,nd,hh,hq,hv,rfl⟩
 ·refine⟨H3,Wg,Wi,left, ?_,by simpa[jJ]using wk3,Awk.prs P3⟩
  by_cases h0:root.at_=0
  ·have h0': ¬(root.at_≠((0:Nat):Int)):=by simp[h0]
   simp(maxSteps:=999999)(disch:=omega) only[f82,zEq,eZ,bw.ld,qL gw,e1,hbx,b2,e3',qL g3',h0']
  ·have h0':root.at_≠((0:Nat):Int):=by simpa using h0
   obtain⟨ht,hlt⟩:=hL.resolve_left h0
   have hne:kO .eql (S to) (S [])=some (.bool false):=by rw[jK];simp[ht]
   have hls:kO .lss (S fr) (S to)=some (.bool false):=by rw[WN,hlt]
   simp(maxSteps:=999999)(disch:=omega) only[f82,zEq,eZ,bw.ld,qL gw,e1,hbx,b2,e3',qL g3',h0',ne_eq,not_false_eq_true,hS,bt3.ld,bf3.ld,hne,hls]
 ·obtain⟨H4,Wg4,Wi4,left4,e4,wk4,a4,_,_⟩:=zCx r c (fr:=fr) (to:=to) h m' (m'+1) _ _ _ _ _ _ _ (by omega) (by omega) hq hv wk3 hl hlf
  refine⟨H4,Wg4,Wi4,left4, ?_,wk4,(Awk.prs P3).trans a4⟩
  have h0':root.at_≠((0:Nat):Int):=by simpa using hr
  by_cases hte:to=[]
  ·have hne:kO .eql (S to) (S [])=some (.bool true):=by rw[jK];simp[hte]
   simp(maxSteps:=999999)(disch:=omega) only[f82,zEq,eZ,bw.ld,qL gw,e1,hbx,b2,e3',qL g3',h0',ne_eq,not_false_eq_true,hS,bt3.ld,bf3.ld,bw3.ld,bp3.ld,hne,r3,e4]
  ·have hne:kO .eql (S to) (S [])=some (.bool false):=by rw[jK];simp[hte]
   have hls:kO .lss (S fr) (S to)=some (.bool true):=by rw[WN,ht.resolve_left hte]
   simp(maxSteps:=999999)(disch:=omega) only[f82,zEq,eZ,bw.ld,qL gw,e1,hbx,b2,e3',qL g3',h0',ne_eq,not_false_eq_true,hS,bt3.ld,bf3.ld,bw3.ld,bp3.ld,hne,hls,r3,e4]
end
section
variable {σ:Type}{At N0 k M A1 Aw:Nat}{root:Ptr}{Q:Ptr→Option Nd.Node}{G:AH→(Nat→Prop)→Prop}{step:σ→Str×Str→Bool×σ}{I:Nat→Bool×σ→AH→(Nat→Prop)→Prop}{fr to:Str}
variable (r:Rdr At N0 k root Q G)(c:Cns A1 M N0 encP step I)
include r c
set_option maxRecDepth 100000 in
theorem zDA (m:Nat)(hm:M+620000000≤m){Xw Xf Xt Xp:Nat}{s:σ}{H:AH}{Wg Wo:Nat→Prop}{left ek:Nat}{L:List (Ptr×Nd.Node)}(hg:G H Wg)(hi:I (500*left) (true,s) H Wo)(gw:H.h.get Aw=some (.cells [.ptr At 0, .nilMap, .int .i64 ((left:Nat):Int), .int .i64 ((0:Nat):Int)] ek 1 false))(hlo:N0≤Aw)(ng: ¬Wg Aw)(ni: ¬Wo Aw)(sep: ∀B,Wo B→ ¬Wg B)
  (hL:Vis Q root fr to L) (hl:L.length≤left) (hlf:left≤1000000000)
  (bw:Box H Xw (.ptr Aw 0)) (bf:Box H Xf (S fr)) (bt:Box H Xt (S to)) (bp:Box H Xp (.func 43 [] [])) (hx:N0≤Xf∧N0≤Xt∧ ¬Wo Xf∧ ¬Wo Xt∧ ¬Wg Xf∧ ¬Wg Xt):
  ∃H' Wg' Wo' bo left' ek',f60 (dy m) m [.yieldTo A1, .ptr Xw 0, .ptr Xf 0, .ptr Xt 0, .ptr Xp 0] H=some (.tuple [],H')∧G H' Wg'∧I (500*left') (bo,(jJ (wF fr to step) L s).2) H' Wo'∧
   H'.h.get Aw=some (.cells [.ptr At 0, .nilMap, .int .i64 ((left':Nat):Int), .int .i64 ((0:Nat):Int)] ek' 1 false)∧Stp (fun B=>Wg B∨Wo B∨B=Aw∨B=Xf∨B=Xt) H H'∧(∀B,Wg' B→Wg B∨H.next≤B)∧(∀B,Wo' B→Wo B∨H.next≤B):=by
 have hk:=r.ok hg
 have lw:=hk.lt gw
 obtain⟨H1,A5,b1,p1,g1,m1,n1⟩:=box hk (.cells [.yieldTo A1] 118 1 false)
 have N1:=p1.next
 have up: ∀ {H':AH} {A:Nat} {x:AV},Prs H H'→Box H A x→Box H' A x:=fun P hb=>hb.mono hk P fun x=>x
 obtain⟨H2,B4,c4,p2,g2,m2,n2⟩:=box p1.ok (.cells [.ptr Aw 0] 88 1 false)
 obtain⟨H3,B5,c5,p3,g3,m3,n3⟩:=box p2.ok (.cells [S fr] 9 1 false)
 obtain⟨H4,B6,c6,p4,g4,m4,n4⟩:=box p3.ok (.cells [S to] 9 1 false)
 obtain⟨H5,B7,c7,p5,g5,m5,n5⟩:=box p4.ok (.cells [.func 43 [] []] 93 1 false)
 have N2:=p2.next;have N3:=p3.next;have N4:=p4.next;have N5:=p5.next
 have p6:Prs H5 (H5.push (.loop (lpP true Xf Xt A5))):=(Stp.refl p5.ok).push _
 have g6:(H5.push (.loop (lpP true Xf Xt A5))).h.get H5.next=some (.loop (lpP true Xf Xt A5)):=AH.push_get_eq _ _
 have hnew: ∀K:Nat→AH→Rs,zAZ H5 (.loop ⟨.ready,none,60,0,[2,3,5],[.ptr Xf 0, .ptr Xt 0, .ptr A5 0]⟩) K=K H5.next (H5.push (.loop (lpP true Xf Xt A5))):=fun K=>VA p5.ok _ K
 have hnx:(H5.push (.loop (lpP true Xf Xt A5))).next=H5.next+1:=rfl
 generalize H5.push (.loop (lpP true Xf Xt A5))=H6 at p6 g6 hnew hnx
 obtain⟨A2,hA2⟩: ∃A2,A2=H5.next:=⟨_,rfl⟩
 rw[← hA2]at g6 hnew
 have P15:Prs H1 H5:=((p2.trans p3).trans p4).trans p5
 have P6:Prs H H6:=(p1.trans P15).trans p6
 have lWo: ∀B,Wo B→B<H.next∧N0≤B:=fun B hB=>c.lt hi B hB
 have lWg: ∀B,Wg B→B<H.next:=fun B hB=>r.lt hg B hB
 have lX:Xf<H.next∧Xt<H.next:=⟨bf.lt hk,bt.lt hk⟩
 have in2:Inn2 I N0 Xf Xt A5 A1 fr to (500*left) true s H6 Wo:=⟨c.frame hi P6 fun _ x=>x.elim,up P6 bf,up P6 bt,⟨_,Prs.get (P15.trans p6) p1.ok g1⟩,⟨hx.1,hx.2.1,by omega⟩,⟨hx.2.2.1,hx.2.2.2.1,fun w=>by have:=lWo _ w;omega⟩⟩
 have i2:I2 I N0 A2 Xf Xt A5 A1 fr to left (true,s) H6 (fun B=>Wo B∨zFV A2 Xf Xt A5 B):=⟨Wo,true,in2,fun _=>rfl,g6,by omega,fun w=>by have:=lWo _ w;omega,fun B=>Iff.rfl⟩
 have fAw: ∀B:Nat,zFV A2 Xf Xt A5 B→B≠Aw:=fun B hB e=>by
  rcases hB with e' | e' | e' | e'
  ·omega
  ·obtain⟨_,hb⟩:=bf;rw[← e',e,gw]at hb;simp at hb
  ·obtain⟨_,hb⟩:=bt;rw[← e',e,gw]at hb;simp at hb
  ·omega
 have wk:Wk N0 At Aw G (I2 I N0 A2 Xf Xt A5 A1 fr to) H6 Wg (fun B=>Wo B∨zFV A2 Xf Xt A5 B) left left (true,s):=⟨r.frame hg P6 fun _ x=>x.elim,i2,⟨_,Prs.get P6 hk gw⟩,hlo,ng,fun w=>by
   rcases w with w | w
   ·exact ni w
   ·exact fAw _ w rfl,fun B hB w=>by
   have:=lWg B w
   rcases hB with e | e | e | e | e
   ·exact sep B e w
   ·omega
   ·subst e;exact hx.2.2.2.2.1 w
   ·subst e;exact hx.2.2.2.2.2 w
   ·omega⟩
 obtain⟨m',rfl⟩: ∃m',m=m'+1:=⟨m - 1,by omega⟩
 obtain⟨H7,Wg7,Wi7,l7,e7,wk7,a7⟩:=zDN r (zE6 c A2 Xf Xt A5 fr to) m' (by omega) wk hL hl hlf (Xw:=B4) (Xt:=B6) (Xf:=B5) (Xp:=B7) ⟨_,Prs.get ((p3.trans p4).trans (p5.trans p6)) p2.ok g2⟩ ⟨_,Prs.get (p5.trans p6) p4.ok g4⟩ ⟨_,Prs.get (p4.trans (p5.trans p6)) p3.ok g3⟩ ⟨_,Prs.get p6 p5.ok g5⟩
 obtain⟨Wo7,bo,in7,_,gA7,_,nA7,hW7⟩:=wk7.i
 obtain⟨ew7,gw7⟩:=wk7.w
 have hk7:=r.ok wk7.g
 have N7:=a7.s.next
 have N6:=p6.next
 have s8:Stp (fun B=>B=A2) H7 (H7.put A2 .dead):=(Stp.refl hk7).put (hk7.lt gA7) _ (.inr rfl)
 have hend: ∀K:Option Code→AH→Rs,WD A2 H7 K=K (lpP (jJ (wF fr to step) L s).1 Xf Xt A5).pending (H7.put A2 .dead):=fun K=>by
  cases hb:(jJ (wF fr to step) L s).1<;>rw[hb]at gA7<;>simp only[WD,gA7,lpP,cond_true,cond_false,jB]
 refine⟨H7.put A2 .dead,Wg7,Wo7,bo,l7,ew7, ?_,r.frame wk7.g s8 (fun B hB=>by subst hB;exact⟨by have:=r.lt hg;omega,fun w=>wk7.sep _ ((hW7 _).2 (.inr (.inl rfl))) w⟩),c.frame in7.i s8 (fun B hB=>by subst hB;exact nA7),by rw[s8.keep _ (hk7.lt gw7) (by omega)];exact gw7, ?_,fun B hB=> ?_,fun B hB=> ?_⟩
 ·have hrf:rfC (s60 (dy (m'+1)) (m'+1)).S (dy (m'+1)) (.func 82 [] [.ptr B4 0, .ptr B6 0, .ptr B5 0, .ptr B7 0]) A2 H6=some (.tuple [],H7):=e7
  have hf:f61 (dy (m'+1)) (m'+1) [.ptr Aw 0,S fr,S to, .func 43 [] []] H1=some (.func 82 [] [.ptr B4 0, .ptr B6 0, .ptr B5 0, .ptr B7 0],H5):=by
   have x1:qS (.ptr Aw 0)=[.ptr Aw 0]:=rfl
   have x2: ∀a,qS (S a)=[S a]:=fun _=>rfl
   have x3:qS (.func 43 [] [])=[.func 43 [] []]:=rfl
   simp only[f61,eZ,x1,x2,x3,c4,c5,c6,c7]
  have x0:qS (.yieldTo A1)=[.yieldTo A1]:=rfl
  have u1: ∀ {A:Nat} {x:AV},Box H A x→ld1 (.ptr A 0) H1=some x:=fun hb=>(up p1 hb).ld
  simp(maxSteps:=999999)(disch:=omega) only[f60,eZ,x0,b1,u1 bw,u1 bf,u1 bt,u1 bp,hf,hnew,hrf,hend]
  cases(jJ (wF fr to step) L s).1<;>rfl
 ·refine⟨s8.ok,by have:=s8.next;omega,fun B hB hS=> ?_⟩
  rw[s8.keep B (by omega) (by omega),a7.s.keep B (by omega) (fun w=> ?_),P6.keep B hB fun x=>x]
  rcases w with w | (w | w | w | w | w) | w
  ·exact hS (.inl w)
  ·exact hS (.inr (.inl w))
  ·omega
  ·exact hS (.inr (.inr (.inr (.inl w))))
  ·exact hS (.inr (.inr (.inr (.inr w))))
  ·omega
  ·exact hS (.inr (.inr (.inl w)))
 ·exact(a7.g B hB).imp id fun e=>by omega
 ·rcases a7.i B ((hW7 B).2 (.inl hB))with(e | e | e | e | e) | e
  ·exact .inl e
  ·exact .inr (by omega)
  ·subst e;exact absurd hB in7.nw.1
  ·subst e;exact absurd hB in7.nw.2.1
  ·exact .inr (by omega)
  ·exact .inr (by omega)
end
open Go.Nd (Ptr yF qP Kvs)
open Go.Bt
def lpR (b:Bool)(Bm Bl Bb:Nat):ALoop:=⟨bif b then .ready else .done,bif b then none else some (.exit 0),18,0,[7,12,13],[.ptr Bm 0, .ptr Bl 0, .ptr Bb 0]⟩
def fW (most:Nat)(s:Kvs×Bool)(x:Str×Str):Bool×(Kvs×Bool):=bif Nat.beq s.1.length most then(false,(s.1,true))else(true,(s.1++[x],s.2))
theorem zDf {most:Nat} : ∀(l a:Kvs),a.length+l.length≤most→jJ (fW most) l (a,false)=(true,(a++l,false))
 | [],a,_=>by simp[jJ]
 | x::l,a,h=>by
  simp only[zG]at h
  have hne:Nat.beq a.length most=false:=by
   cases hb:Nat.beq a.length most with
   | false=>rfl
   | true=>have:=Nat.eq_of_beq_eq_true hb;omega
  have hs:fW most (a,false) x=(true,(a++[x],false)):=by simp only[fW,hne,cond_false]
  simp only[jJ,hs,cond_true]
  rw[zDf l (a++[x]) (by simp;omega),List.append_assoc,List.singleton_append]
structure IR (N0 A1 most Bm Bl Bb:Nat)(b:Nat)(x:Bool×(Kvs×Bool))(H:AH)(W:Nat→Prop):Prop where
 ok:H.ok
 gA:H.h.get A1=some (.loop (lpR x.1 Bm Bl Bb))
 bm:Box H Bm (.int .i64 ((most:Nat):Int))
 bb:Box H Bb (.bool x.2.2)
 bl: ∃v,Box H Bl v∧jA 2 85 H v x.2.1.length (x.2.1.flatMap prV)∧ ¬Blk v A1∧ ¬Blk v Bm∧ ¬Blk v Bl∧ ¬Blk v Bb∧(∀B,Blk v B→N0≤B)∧ ∀B,W B↔(zFV A1 Bm Bl Bb B∨Blk v B)
 lo:N0≤A1∧N0≤Bm∧N0≤Bl∧N0≤Bb
 ne:Bm≠Bl∧Bm≠Bb∧Bl≠Bb
 few:x.2.1.length+b≤900000000
theorem zHp (m:Nat){H:AH}{A1 Bm Bl Bb:Nat}(gA:H.h.get A1=some (.loop (lpR true Bm Bl Bb)))(az:List AV):(dy (m+1)).yld A1 az H=zBW (dy m) m A1 (lpR true Bm Bl Bb) az H:=by
 show KE (tabR (dy m) m) A1 az H=_
 simp only[KE,gA]
 rfl
theorem zFp {H:AH}{A B:Nat}{o:ALoop}{v:AV}(g:H.h.get A=some (.loop o))(b:Box H B v):A≠B:=fun e=>by
 obtain⟨_,hb⟩:=b;rw[← e,g]at hb;cases hb
theorem zDp {N0 A1 most Bm Bl Bb:Nat}{b:Nat}{s:Kvs×Bool}{a:Str×Str}{az:List AV}{H:AH}{W:Nat→Prop}(m:Nat)(hi:IR N0 A1 most Bm Bl Bb (b+1) (true,s) H W)(he:encP H W a az)(hmo:0≤most):
  ∃H' W',(dy (m+1)).yld A1 az H=some (.bool (fW most s a).1,H')∧IR N0 A1 most Bm Bl Bb b (fW most s a) H' W'∧Adw W H W' H':=by
 obtain⟨hk,gA,bm,bb,⟨v,bl,gv,v1,v2,v3,v4,v5,hW⟩,hlo,hne,hf⟩:=hi
 obtain rfl:az=[.agg [S a.1,S a.2]]:=he
 obtain⟨l,mo⟩:=s
 simp only at gA bb gv hf⊢
 rw[zHp m gA]
 have lA:=hk.lt gA
 have lm:=bm.lt hk;have lb:=bb.lt hk;have ll:=bl.lt hk
 have nA:A1≠Bm∧A1≠Bl∧A1≠Bb:=⟨zFp gA bm,zFp gA bl,zFp gA bb⟩
 obtain⟨H1,A14,b1,p1,g1,m1,n1⟩:=box hk (.cells [S [],S []] 85 1 false)
 obtain⟨H2,e2,g2,s2,n2⟩:=qV p1.ok g1 (l':=[S a.1,S a.2]) rfl rfl
 have e2':stN 2 (.ptr A14 0) (.agg [S a.1,S a.2]) H1=some (qM,H2):=e2
 have P2:Prs H H2:=p1.fresh s2 fun B hB=>by omega
 have N1:=p1.next;have N2:=s2.next
 have gA2:=Prs.get P2 hk gA
 have hbeg: ∀K:AH→Rs,dV A1 H2 K=K (H2.put A1 (.loop { lpR true Bm Bl Bb with state:= .busy})):=fun K=>by
  simp only[dV,gA2,lpR,cond_true,jB]
 have s3:Stp (fun B=>B=A1) H2 (H2.put A1 (.loop { lpR true Bm Bl Bb with state:= .busy})):=(Stp.refl s2.ok).put (s2.ok.lt gA2) _ (.inr rfl)
 have g3:(H2.put A1 (.loop { lpR true Bm Bl Bb with state:= .busy})).h.get A1=some (.loop { lpR true Bm Bl Bb with state:= .busy}):=by rw[AH.put_get,if_pos rfl]
 generalize H2.put A1 (.loop { lpR true Bm Bl Bb with state:= .busy})=H3 at s3 g3 hbeg
 have N3:=s3.next
 have up: ∀ {B:Nat} {x:AV},Box H B x→A1≠B→Box H3 B x:=fun hb hn=>(hb.mono hk P2 fun x=>x).mono P2.ok s3 (fun e=>hn e.symm)
 have bm3:=up bm nA.1;have bl3:=up bl nA.2.1;have bb3:=up bb nA.2.2
 have gv3:jA 2 85 H3 v l.length (l.flatMap prV):=(gv.mono P2 (fun _ _ x=>x)).mono s3 fun B hB e=>v1 (e▸hB)
 have q3:H3.h.get A14=some (.cells [S a.1,S a.2] 85 1 false):=by rw[s3.keep _ (by omega) (by omega)];exact g2
 have hl:Y8 [7,12,13] (lpR true Bm Bl Bb).live=true:=rfl
 have hvls:(lpR true Bm Bl Bb).vals=[.ptr Bm 0, .ptr Bl 0, .ptr Bb 0]:=rfl
 have hS:(AV.str 0 0)=S []:=rfl
 have hbx:bxV 85 (.agg [S [],S []])=some (.cells [S [],S []] 85 1 false,fun A=> .ptr A 0):=rfl
 have hln:lnSl v=some (.int .i64 ((l.length:Nat):Int)):=gv.row.lnSl
 by_cases hfull:l.length=most
 ·have hst:fW most (l,mo) a=(false,(l,true)):=by simp only[fW,show Nat.beq l.length most=true by rw[Nat.beq_eq];exact hfull,cond_true]
  rw[hst]
  obtain⟨H4,e4,b4,s4⟩:=bb3.st s3.ok (x:= .bool true) rfl
  have N4:=s4.next
  have g4:H4.h.get A1=some (.loop { lpR true Bm Bl Bb with state:= .busy}):=by rw[s4.keep _ (by omega) (by omega)];exact g3
  have s5:Stp (fun B=>B=A1) H4 (H4.put A1 (.loop (lpR false Bm Bl Bb))):=(Stp.refl s4.ok).put (s4.ok.lt g4) _ (.inr rfl)
  have hend:X9 A1 (some (.exit 0)) H4=some (.bool false,H4.put A1 (.loop (lpR false Bm Bl Bb))):=by simp only[X9,g4,jB,lpR,cond_false]
  have up5: ∀ {B:Nat} {x:AV},Box H3 B x→A1≠B→Bb≠B→Box (H4.put A1 (.loop (lpR false Bm Bl Bb))) B x:=fun hb h1 h2=>(hb.mono s3.ok s4 fun e=>h2 e.symm).mono s4.ok s5 fun e=>h1 e.symm
  refine⟨H4.put A1 (.loop (lpR false Bm Bl Bb)),W, ?_,⟨s5.ok,by rw[AH.put_get,if_pos rfl],up5 bm3 nA.1 (Ne.symm hne.2.1),b4.mono s4.ok s5 (Ne.symm nA.2.2),⟨v,up5 bl3 nA.2.1 (Ne.symm hne.2.2),(gv3.mono s4 fun B hB e=>v4 (e▸hB)).mono s5 fun B hB e=>v1 (e▸hB),v1,v2,v3,v4,v5,hW⟩,hlo,hne,by simp only;omega⟩,⟨(((Prs.stp P2).trans (s3.mono fun B _ hB=>(hW B).2 (.inl (.inl hB)))).trans (s4.mono fun B _ hB=>(hW B).2 (.inl (.inr (.inr (.inr hB)))))).trans (s5.mono fun B _ hB=>(hW B).2 (.inl (.inl hB))),fun B hB=> .inl hB⟩⟩
  have heq:((l.length:Nat):Int)=((most:Nat):Int):=by omega
  simp(maxSteps:=999999)(disch:=omega) only[zBW,eZ,hl,hvls,cond_true,hS,hbx,b1,e2',hbeg,bl3.ld,hln,bm3.ld,heq,e4]
  exact hend
 ·have hst:fW most (l,mo) a=(true,(l++[a],mo)):=by
   have:Nat.beq l.length most=false:=by
    cases hb:Nat.beq l.length most with
    | false=>rfl
    | true=>exact absurd (Nat.eq_of_beq_eq_true hb) hfull
   simp only[fW,this,cond_false]
  rw[hst]
  obtain⟨H4,A15,b4,p4,g4,m4,n4⟩:=box s3.ok (.cells [S a.1,S a.2] 85 2 false)
  have hsrc:srcOf 2 (.slice A15 0 1 2) H4=some (1,[S a.1,S a.2]):=by simp only[srcOf,g4];rfl
  obtain⟨v',H5,e5,gv5,s5,f5⟩:=(gv3.mono p4 (fun _ _ x=>x)).app (bytes:=32) (m:=1) (new:=[S a.1,S a.2]) p4.ok (by decide) hsrc rfl rfl (by omega) (by decide)
  have N4:=p4.next;have N5:=s5.next
  have bl5:Box H5 Bl v:=(bl3.mono s3.ok p4 fun x=>x).mono p4.ok s5 v3
  obtain⟨H6,e6,b6,s6⟩:=bl5.st s5.ok (x:=v') gv5.isCell
  have N6:=s6.next
  have g6:H6.h.get A1=some (.loop { lpR true Bm Bl Bb with state:= .busy}):=by rw[s6.keep _ (by omega) (by omega),s5.keep _ (by omega) v1,p4.keep _ (by omega) (fun x=>x)];exact g3
  have s7:Stp (fun B=>B=A1) H6 (H6.put A1 (.loop (lpR true Bm Bl Bb))):=(Stp.refl s6.ok).put (s6.ok.lt g6) _ (.inr rfl)
  have hend:X9 A1 none H6=some (.bool true,H6.put A1 (.loop (lpR true Bm Bl Bb))):=by simp only[X9,g6,jB,lpR,cond_true]
  have up7: ∀ {B:Nat} {x:AV},Box H3 B x→A1≠B→Bl≠B→ ¬Blk v B→Box (H6.put A1 (.loop (lpR true Bm Bl Bb))) B x:=fun hb h1 h2 h3=>(((hb.mono s3.ok p4 fun x=>x).mono p4.ok s5 h3).mono s5.ok s6 fun e=>h2 e.symm).mono s6.ok s7 fun e=>h1 e.symm
  have nb: ∀ {B:Nat},¬Blk v B→B<H.next→ ¬Blk v' B:=fun h1 h2 hB=>by
   rcases f5 _ hB with e | e
   ·exact h1 e
   ·omega
  have fl:(l++[a]).flatMap prV=l.flatMap prV++[S a.1,S a.2]:=by simp[qC,prV]
  refine⟨H6.put A1 (.loop (lpR true Bm Bl Bb)),fun B=>zFV A1 Bm Bl Bb B∨Blk v' B, ?_,⟨s7.ok,by rw[AH.put_get,if_pos rfl],up7 bm3 nA.1 (Ne.symm hne.1) v2,up7 bb3 nA.2.2 hne.2.2 v4,⟨v',b6.mono s6.ok s7 (Ne.symm nA.2.1), ?_,nb v1 lA,nb v2 lm,nb v3 ll,nb v4 lb,fun B hB=> ?_,fun B=>Iff.rfl⟩,hlo,hne,by simp only[zH,qF];omega⟩,⟨?_,fun B hB=> ?_⟩⟩
  ·have hneq: ¬((l.length:Nat):Int)=((most:Nat):Int):=by omega
   have r3:ldN 2 (.ptr A14 0) H3=some (.agg [S a.1,S a.2]):=by rw[qQ q3];rfl
   have bl1:vQ 85 2 1 [S [],S []] [(0, .agg [S a.1,S a.2])]=some (.cells [S a.1,S a.2] 85 2 false,fun A=> .slice A 0 1 2):=rfl
   simp(maxSteps:=999999)(disch:=omega) only[zBW,eZ,hl,hvls,cond_true,hS,hbx,b1,e2',hbeg,bl3.ld,hln,bm3.ld,hneq,r3,bl1,b4,e5,e6]
   exact hend
  ·simp only[fl,zH,qF]
   exact(gv5.mono s6 fun B hB e=>nb v3 ll (e▸hB)).mono s7 fun B hB e=>nb v1 lA (e▸hB)
  ·rcases f5 B hB with e | e
   ·exact v5 B e
   ·omega
  ·exact(((((Prs.stp P2).trans (s3.mono fun B _ hB=>(hW B).2 (.inl (.inl hB)))).trans p4.stp).trans (s5.mono fun B _ hB=>(hW B).2 (.inr hB))).trans (s6.mono fun B _ hB=>(hW B).2 (.inl (.inr (.inr (.inl hB)))))).trans (s7.mono fun B _ hB=>(hW B).2 (.inl (.inl hB)))
  ·rcases hB with e | e
   ·exact .inl ((hW B).2 (.inl e))
   ·rcases f5 B e with e | e
    ·exact .inl ((hW B).2 (.inr e))
    ·exact .inr (by omega)
theorem zDq (N0 A1 most Bm Bl Bb:Nat)(hmo:0≤most):Cns A1 0 N0 encP (fW most) (IR N0 A1 most Bm Bl Bb) where
 ok:=fun h=>h.ok
 lt:=fun {b x H W} h B hB=>by
  obtain⟨v,bl,gv,v1,v2,v3,v4,v5,hW⟩:=h.bl
  rcases(hW B).1 hB with(e | e | e | e) | e
  ·subst e;exact⟨h.ok.lt h.gA,h.lo.1⟩
  ·subst e;exact⟨h.bm.lt h.ok,h.lo.2.1⟩
  ·subst e;exact⟨bl.lt h.ok,h.lo.2.2.1⟩
  ·subst e;exact⟨h.bb.lt h.ok,h.lo.2.2.2⟩
  ·exact⟨gv.lt e,v5 B e⟩
 mono:=fun h hb=>⟨h.ok,h.gA,h.bm,h.bb,h.bl,h.lo,h.ne,by have:=h.few;omega⟩
 frame:=fun {b x H H' W S} h s hS=>by
  obtain⟨v,bl,gv,v1,v2,v3,v4,v5,hW⟩:=h.bl
  have n: ∀ {B:Nat},zFV A1 Bm Bl Bb B→ ¬S B:=fun ho hs=>hS _ hs ((hW _).2 (.inl ho))
  exact⟨s.ok,by rw[s.keep _ (h.ok.lt h.gA) (n (.inl rfl))];exact h.gA,h.bm.mono h.ok s (n (.inr (.inl rfl))),h.bb.mono h.ok s (n (.inr (.inr (.inr rfl)))),⟨v,bl.mono h.ok s (n (.inr (.inr (.inl rfl)))),gv.mono s fun B hB hs=>hS B hs ((hW B).2 (.inr hB)),v1,v2,v3,v4,v5,hW⟩,h.lo,h.ne,h.few⟩
 run:=fun m _ hi he=>zDp m hi he hmo
set_option maxRecDepth 100000 in
theorem zDt {At N0 k:Nat}{root:Ptr}{Q:Ptr→Option Nd.Node}{G:AH→(Nat→Prop)→Prop}(r:Rdr At N0 k root Q G)(m:Nat)(hm:700000000≤m){fr to:Str}{most:Nat}{H:AH}{Wg:Nat→Prop}{L:List (Ptr×Nd.Node)}(hg:G H Wg)(hN0:N0≤H.next)(hmo:0≤most)(hL:Vis Q root fr to L)(hl:L.length≤8192+k)(hk9:k≤1000000):
  ∃H' Wg' v,f18 (dy (m+1)) (m+1) [.ptr At 0,S fr,S to, .int .i64 ((most:Nat):Int)] H=some (.tuple [v, .bool (jJ (wF fr to (fW most)) L ([],false)).2.2, .int .i64 ((0:Nat):Int)],H')∧G H' Wg'∧Stp Wg H H'∧(∀B,Wg' B→Wg B∨H.next≤B)∧
   jA 2 85 H' v (jJ (wF fr to (fW most)) L ([],false)).2.1.length ((jJ (wF fr to (fW most)) L ([],false)).2.1.flatMap prV)∧ ∀B,Blk v B→H.next≤B:=by
 have hk:=r.ok hg
 obtain⟨left,hleft⟩: ∃left,left=8192+k:=⟨_,rfl⟩
 obtain⟨H1,Bm,b1,p1,g1,m1,n1⟩:=box hk (.cells [.int .i64 ((most:Nat):Int)] 3 1 false)
 have G1:=r.prs hg p1
 have ed:=r.dirty (dy (m+1)) (m+1) G1
 obtain⟨H2,Aw,b2,p2,g2,m2,n2⟩:=box p1.ok (.cells [.ptr At 0, .nilMap, .int .i64 ((left:Nat):Int), .int .i64 ((0:Nat):Int)] 96 1 false)
 obtain⟨H3,Bl,b3,p3,g3,m3,n3⟩:=box p2.ok (.cells [.nilSlice] 49 1 false)
 obtain⟨H4,Bb,b4,p4,g4,m4,n4⟩:=box p3.ok (.cells [.bool false] 4 1 false)
 obtain⟨H5,e5,g5,s5,n5⟩:=qV p4.ok g4 (l':=[.bool false]) rfl rfl
 have e5':stN 1 (.ptr Bb 0) (.bool false) H4=some (qM,H5):=by
  obtain⟨H5',e,_⟩:=(show Box H4 Bb (.bool false)from⟨_,g4⟩).st p4.ok (x:= .bool false) rfl
  have:=e5
  rw[show stN [AV.bool false].length (.ptr Bb 0) (.agg [.bool false]) H4=stN 1 (.ptr Bb 0) (.bool false) H4 from rfl]at this
  exact this
 obtain⟨H6,X4,c4,p6,g6,m6,n6⟩:=box s5.ok (.cells [.ptr Aw 0] 88 1 false)
 obtain⟨H7,X5,c5,p7,g7,m7,n7⟩:=box p6.ok (.cells [S fr] 9 1 false)
 obtain⟨H8,X6,c6,p8,g8,m8,n8⟩:=box p7.ok (.cells [S to] 9 1 false)
 obtain⟨H9,X7,c7,p9,g9,m9,n9⟩:=box p8.ok (.cells [.func 43 [] []] 93 1 false)
 have N1:=p1.next;have N2:=p2.next;have N3:=p3.next;have N4:=p4.next;have N5:=s5.next;have N6:=p6.next;have N7:=p7.next;have N8:=p8.next;have N9:=p9.next
 have p10:Prs H9 (H9.push (.loop (lpR true Bm Bl Bb))):=(Stp.refl p9.ok).push _
 have g10:(H9.push (.loop (lpR true Bm Bl Bb))).h.get H9.next=some (.loop (lpR true Bm Bl Bb)):=AH.push_get_eq _ _
 have hnew: ∀K:Nat→AH→Rs,zAZ H9 (.loop ⟨.ready,none,18,0,[7,12,13],[.ptr Bm 0, .ptr Bl 0, .ptr Bb 0]⟩) K=K H9.next (H9.push (.loop (lpR true Bm Bl Bb))):=fun K=>VA p9.ok _ K
 have hnx:(H9.push (.loop (lpR true Bm Bl Bb))).next=H9.next+1:=rfl
 generalize H9.push (.loop (lpR true Bm Bl Bb))=H10 at p10 g10 hnew hnx
 obtain⟨A1,hA1⟩: ∃A1,A1=H9.next:=⟨_,rfl⟩
 rw[← hA1]at g10 hnew
 have N10:=p10.next
 have P69:Prs H5 H9:=((p6.trans p7).trans p8).trans p9
 have P510:Prs H5 H10:=P69.trans p10
 have P4:Prs H H4:=((p1.trans p2).trans p3).trans p4
 have P5:Prs H H5:=P4.fresh s5 fun B hB=>by omega
 have P10:Prs H H10:=P5.trans P510
 have bm10:Box H10 Bm (.int .i64 ((most:Nat):Int)):=⟨_,Prs.get P510 s5.ok (by rw[s5.keep _ (by omega) (by omega)];exact Prs.get ((p2.trans p3).trans p4) p1.ok g1)⟩
 have gw5:H5.h.get Aw=some (.cells [.ptr At 0, .nilMap, .int .i64 ((left:Nat):Int), .int .i64 ((0:Nat):Int)] 96 1 false):=by rw[s5.keep _ (by omega) (by omega)];exact Prs.get (p3.trans p4) p2.ok g2
 have gw10:=Prs.get P510 s5.ok gw5
 have bl10:Box H10 Bl .nilSlice:=⟨_,Prs.get P510 s5.ok (by rw[s5.keep _ (by omega) (by omega)];exact Prs.get p4 p3.ok g3)⟩
 have bb10:Box H10 Bb (.bool false):=⟨_,Prs.get P510 s5.ok g5⟩
 have lWg: ∀B,Wg B→B<H.next:=fun B hB=>r.lt hg B hB
 have nilB: ∀B,¬Blk .nilSlice B:=fun B hB=>Blk.nil.1 hB
 have i10:IR N0 A1 most Bm Bl Bb (500*left) (true,([],false)) H10 (zFV A1 Bm Bl Bb):=⟨p10.ok,g10,bm10,bb10,⟨.nilSlice,bl10, .inl (Own.nil ..),nilB _,nilB _,nilB _,nilB _,fun B hB=>(nilB B hB).elim,fun B=>⟨fun h=> .inl h,fun h=>h.elim id fun h=>(nilB B h).elim⟩⟩,by omega,⟨by omega,by omega,by omega⟩,by simp;omega⟩
 obtain⟨H11,Wg',Wo',bo,left',ek',e11,G11,i11,gw11,s11,a11,o11⟩:=zDA r (zDq N0 A1 most Bm Bl Bb (by omega)) m (by omega) (Xw:=X4) (Xf:=X5) (Xt:=X6) (Xp:=X7) (r.prs hg P10) i10 gw10 (by omega) (fun w=>by have:=lWg _ w;omega) (fun w=>by rcases w with w | w | w | w<;>omega) (fun B hB w=>by have:=lWg _ w;rcases hB with w | w | w | w<;>omega) hL (by omega) (by omega)
  ⟨_,Prs.get (((p7.trans p8).trans p9).trans p10) p6.ok g6⟩ ⟨_,Prs.get ((p8.trans p9).trans p10) p7.ok g7⟩ ⟨_,Prs.get (p9.trans p10) p8.ok g8⟩ ⟨_,Prs.get p10 p9.ok g9⟩ ⟨by omega,by omega,fun w=>by rcases w with w | w | w | w<;>omega,fun w=>by rcases w with w | w | w | w<;>omega,fun w=>by have:=lWg _ w;omega,fun w=>by have:=lWg _ w;omega⟩
 obtain⟨v,bl11,gv,v1,v2,v3,v4,v5,hW⟩:=i11.bl
 have N11:=s11.next
 have bb11:=i11.bb
 have gA11:=i11.gA
 simp only at bb11 gA11 gv
 have nA:A1≠Bl∧A1≠Bb:=⟨zFp gA11 bl11,zFp gA11 bb11⟩
 have s12:Stp (fun B=>B=A1) H11 (H11.put A1 .dead):=(Stp.refl i11.ok).put (i11.ok.lt gA11) _ (.inr rfl)
 have hend: ∀K:Option Code→AH→Rs,WD A1 H11 K=K (lpR bo Bm Bl Bb).pending (H11.put A1 .dead):=fun K=>by
  cases bo<;>simp only[WD,gA11,lpR,cond_true,cond_false,jB]
 have nWg: ¬Wg' A1:=fun w=>by
  rcases a11 _ w with w | w
  ·have:=lWg _ w;omega
  ·omega
 have bl12:=bl11.mono i11.ok s12 (fun e=>nA.1 e.symm)
 have bb12:=bb11.mono i11.ok s12 (fun e=>nA.2 e.symm)
 have gw12:(H11.put A1 .dead).h.get Aw=some (.cells [.ptr At 0, .nilMap, .int .i64 ((left':Nat):Int), .int .i64 ((0:Nat):Int)] ek' 1 false):=by rw[s12.keep _ (i11.ok.lt gw11) (by omega)];exact gw11
 refine⟨H11.put A1 .dead,Wg',v, ?_,r.frame G11 s12 (fun B hB=>by subst hB;exact⟨by omega,nWg⟩), ?_,fun B hB=>(a11 B hB).imp id fun e=>by omega,gv.mono s12 fun B hB e=>v1 (e▸hB),fun B hB=> ?_⟩
 ·have hrf:rfC (s18 (dy (m+1)) (m+1)).S (dy (m+1)) (.func 60 [] [.ptr X4 0, .ptr X5 0, .ptr X6 0, .ptr X7 0]) A1 H10=some (.tuple [],H11):=e11
  have x1:qS (.ptr Aw 0)=[.ptr Aw 0]:=rfl
  have x2: ∀a,qS (S a)=[S a]:=fun _=>rfl
  have x3:qS (.func 43 [] [])=[.func 43 [] []]:=rfl
  have x4:qS (.int .i64 ((most:Nat):Int))=[.int .i64 ((most:Nat):Int)]:=rfl
  have x5:qS .nilSlice=[.nilSlice]:=rfl
  have x6:qS (.bool false)=[.bool false]:=rfl
  have hf:f42 (dy (m+1)) (m+1) [.ptr Aw 0,S fr,S to, .func 43 [] []] H5=some (.func 60 [] [.ptr X4 0, .ptr X5 0, .ptr X6 0, .ptr X7 0],H9):=by
   simp only[f42,eZ,x1,x2,x3,c4,c5,c6,c7]
  have hadd:((8192:Nat):Int)+((k:Nat):Int)=((left:Nat):Int):=by omega
  have hbs:jT [(0,1),(1,1),(2,1),(3,1)] [.nilPtr, .nilMap, .int .i64 ((0:Nat):Int), .int .i64 ((0:Nat):Int)] [(0, .ptr At 0),(2, .int .i64 ((left:Nat):Int))]=some (.agg [.ptr At 0, .nilMap, .int .i64 ((left:Nat):Int), .int .i64 ((0:Nat):Int)]):=rfl
  have hth:f41 (dy (m+1)) (m+1) [.ptr At 0] H1=some (.ptr Aw 0,H2):=by
   simp(maxSteps:=999999)(disch:=omega) only[f41,eZ,ed,hadd,hbs,b2]
  have r1:ld1 (.ptr Bm 0) H1=some (.int .i64 ((most:Nat):Int)):=by rw[qL g1];rfl
  have hneg: ¬((most:Nat):Int)< ((0:Nat):Int):=by omega
  have t00: ¬(((0:Nat):Int)≠((0:Nat):Int)):=by omega
  cases bo<;>simp(maxSteps:=999999)(disch:=omega) only[f18,zM3,eZ,cq,x4,b1,r1,hneg,hth,x5,b3,x6,b4,e5',hf,hnew,hrf,hend,lpR,cond_true,cond_false,zKm,Nat.beq_refl,qL gw12,t00,bl12.ld,bb12.ld]
 ·refine⟨s12.ok,by have:=s12.next;omega,fun B hB hS=> ?_⟩
  rw[s12.keep B (by omega) (by omega),s11.keep B (by omega) (fun w=> ?_),P10.keep B hB fun x=>x]
  rcases w with w | (w | w | w | w) | w | w | w
  ·exact hS w
  all_goals omega
 ·rcases o11 B ((hW B).2 (.inr hB))with(e | e | e | e) | e<;>omega
end Go.Eng.Sh
end
section
namespace Go.Dr
open Go.Nd (Str Kvs putP delP lookP Srt mayK)
open Go.Eng (ltS qZ y5 xF kK wG)
open Go.Bt (inP y9)
theorem wC (a b:UInt8)(l m:Str):ltS (a::l) (b::m)=(decide (a<b)||(a==b&&ltS l m)):=by
 simp only[ltS,Go.Op.bytesLess]
theorem xT (a:UInt8)(l m:Str):ltS (a::l) (a::m)=ltS l m:=by
 rw[wC];simp[UInt8.lt_irrefl]
def dig (n:Nat):Nat→Str
 | 0=>[]
 | k+1=>UInt8.ofNat (n / 256 ^ k % 256)::dig n k
theorem jR (n:Nat): ∀k,(dig n k).length=k
 | 0=>rfl
 | k+1=>by simp[dig,jR n k]
theorem zF8 (n:Nat): ∀(k i:Nat) (h:i< (dig n k).length),((dig n k)[i]).toNat=n / 256 ^ (k - 1 - i) % 256
 | 0,i,h=>by simp[dig]at h
 | k+1,0,h=>by
  simp only[dig,List.getElem_cons_zero]
  rw[UInt8.toNat_ofNat'];simp
 | k+1,i+1,h=>by
  simp only[dig,List.getElem_cons_succ]
  rw[zF8 n k i (by simpa[dig]using h)]
  congr 3;omega
def zDK (a:Nat):Str→Nat
 | []=>a
 | b::l=>zDK (a*256+b.toNat) l
def num (s:Str):Nat:=zDK 0 s
theorem zAV (n:Nat): ∀(k a:Nat),zDK a (dig n k)=a*256 ^ k+n % 256 ^ k
 | 0,a=>by simp[dig,zDK,Nat.mod_one]
 | k+1,a=>by
  simp only[dig,zDK]
  rw[zAV n k,UInt8.toNat_ofNat']
  have h1:n % 256 ^ (k+1)=256 ^ k*(n / 256 ^ k % 256)+n % 256 ^ k:=by
   rw[Nat.pow_succ,Nat.mod_mul,Nat.add_comm]
  rw[h1,Nat.pow_succ,Nat.add_mul]
  have h2:n / 256 ^ k % 256 % 2 ^ 8=n / 256 ^ k % 256:=Nat.mod_eq_of_lt (by have:=Nat.mod_lt (n / 256 ^ k) (show 256>0 by omega);omega)
  rw[h2,Nat.mul_comm (n / 256 ^ k % 256) (256 ^ k),Nat.mul_assoc a,Nat.mul_comm 256 (256 ^ k),Nat.add_assoc,Nat.pow_succ]
theorem vB {n k:Nat}(h:n<256 ^ k):num (dig n k)=n:=by
 rw[num,zAV,Nat.mod_eq_of_lt h];simp
theorem J2: ∀(s:Str) (a:Nat),zDK a s< (a+1)*256 ^ s.length
 | [],a=>by simp[zDK]
 | b::l,a=>by
  have:=J2 l (a*256+b.toNat)
  have hb:=b.toNat_lt
  simp only[zDK,zG,Nat.pow_succ]
  refine zQ this ?_
  rw[Nat.mul_comm (256 ^ l.length) 256, ← Nat.mul_assoc]
  exact zU _ (by omega)
theorem zAW: ∀(s u:Str) (a:Nat),zDK a (s++u)=zDK (zDK a s) u
 | [],_,_=>rfl
 | b::s,u,a=>zAW s u _
theorem U9 (n m:Nat): ∀k,ltS (dig n k) (dig m k)=decide (n % 256 ^ k<m % 256 ^ k)
 | 0=>by simp[dig,ltS,Go.Op.bytesLess,Nat.mod_one]
 | k+1=>by
  simp only[dig]
  rw[wC,U9 n m k]
  have e: ∀x:Nat,x % 256 ^ (k+1)=256 ^ k*(x / 256 ^ k % 256)+x % 256 ^ k:=fun x=>by
   rw[Nat.pow_succ,Nat.mod_mul,Nat.add_comm]
  have hp:0<256 ^ k:=Nat.pow_pos (by omega)
  have hn:=Nat.mod_lt n hp
  have hm:=Nat.mod_lt m hp
  have hx:=Nat.mod_lt (n / 256 ^ k) (show 256>0 by omega)
  have hy:=Nat.mod_lt (m / 256 ^ k) (show 256>0 by omega)
  rw[e n,e m]
  generalize n / 256 ^ k % 256=x at*
  generalize m / 256 ^ k % 256=y at*
  generalize n % 256 ^ k=u at*
  generalize m % 256 ^ k=v at*
  generalize 256 ^ k=P at*
  have hxy:(UInt8.ofNat x<UInt8.ofNat y)↔x<y:=by
   rw[UInt8.lt_iff_toNat_lt,UInt8.toNat_ofNat',UInt8.toNat_ofNat',Nat.mod_eq_of_lt (by omega),Nat.mod_eq_of_lt (by omega)]
  have hxe:(UInt8.ofNat x==UInt8.ofNat y)=decide (x=y):=by
   rw[Bool.eq_iff_iff,beq_iff_eq,zD]
   constructor
   ·intro h
    have:=congrArg UInt8.toNat h
    rw[UInt8.toNat_ofNat',UInt8.toNat_ofNat',Nat.mod_eq_of_lt (by omega),Nat.mod_eq_of_lt (by omega)]at this
    exact this
   ·rintro rfl;rfl
  rw[Bool.eq_iff_iff,hxe]
  simp only[Bool.or_eq_true,z8,zD,hxy]
  rcases Nat.lt_trichotomy x y with h | h | h
  ·have:P*x+P≤P*y:=by rw[← Nat.mul_succ];exact Nat.mul_le_mul_left _ h
   constructor
   ·intro _;omega
   ·intro _;exact .inl h
  ·subst h
   constructor
   ·rintro(h | ⟨_,h⟩)<;>omega
   ·intro h;exact .inr ⟨rfl,by omega⟩
  ·have:P*y+P≤P*x:=by rw[← Nat.mul_succ];exact Nat.mul_le_mul_left _ h
   constructor
   ·rintro(h | ⟨h,_⟩)<;>omega
   ·intro h;omega
structure Kp where
 n:Nat
 x:Nat
 u:Nat
 r:Str
def hdK (c:Nat):Str:=[114,UInt8.ofNat c]
def zI1 (c n:Nat):Str:=hdK c++dig n 4
def valK (k:Kp):Str:=dig k.x 4++dig k.u 8++k.r
def zEZ (c:Nat)(k:Kp):Str×Str:=(zI1 c k.n,valK k)
def Kp.fine (k:Kp):Prop:=1≤k.n∧k.n≤2147483647∧k.x<4294967296∧k.u<18446744073709551616∧k.r.length≤188
theorem zJp (c:Nat){n m:Nat}(hn:n<4294967296)(hm:m<4294967296):ltS (zI1 c n) (zI1 c m)=decide (n<m):=by
 show ltS (114::UInt8.ofNat c::dig n 4) (114::UInt8.ofNat c::dig m 4)=_
 rw[xT,xT,U9,Nat.mod_eq_of_lt hn,Nat.mod_eq_of_lt hm]
theorem Z1 {c d n m:Nat}(hc:c<256)(hd:d<256)(hn:n<4294967296)(hm:m<4294967296)(h:zI1 c n=zI1 d m):c=d∧n=m:=by
 have h':(114:UInt8)::UInt8.ofNat c::dig n 4=114::UInt8.ofNat d::dig m 4:=h
 simp only[List.cons.injEq,true_and]at h'
 obtain⟨h1,h2⟩:=h'
 have e1:=congrArg UInt8.toNat h1
 rw[UInt8.toNat_ofNat',UInt8.toNat_ofNat',Nat.mod_eq_of_lt (by omega),Nat.mod_eq_of_lt (by omega)]at e1
 have e2:=congrArg num h2
 rw[vB (by omega),vB (by omega)]at e2
 exact⟨e1,e2⟩
theorem zE8 {c:Nat}(hc:c<255)(k v:Str):inP (hdK c) (hdK (c+1)) (k,v)=true↔ ∃t,k=hdK c++t:=by
 have n1:(UInt8.ofNat c).toNat=c:=by rw[UInt8.toNat_ofNat'];omega
 have n2:(UInt8.ofNat (c+1)).toNat=c+1:=by rw[UInt8.toNat_ofNat'];omega
 have h114:(114:UInt8).toNat=114:=rfl
 have hahead:y9 (hdK (c+1)) k=ltS k (hdK (c+1)):=by simp[y9,hdK]
 simp only[inP,hahead,z8,Bool.not_eq_true']
 constructor
 ·rintro⟨h1,h2⟩
  match k,h1,h2 with
  | [],h1,h2=>simp[ltS,Go.Op.bytesLess,hdK]at h1
  | [a],h1,h2=>
   rw[hdK,wC]at h1 h2
   simp only[Bool.or_eq_false_iff,Bool.and_eq_false_iff,decide_eq_false_iff_not,beq_eq_false_iff_ne,Bool.or_eq_true,z8,zD,beq_iff_eq]at h1 h2
   obtain⟨h1,h3⟩:=h1
   rcases h2 with h2 | ⟨h2,_⟩
   ·exact absurd h2 h1
   ·rcases h3 with h3 | h3
    ·exact absurd h2 h3
    ·simp[ltS,Go.Op.bytesLess]at h3
  | a::b::t,h1,h2=>
   rw[hdK,wC,wC]at h1 h2
   simp only[Bool.or_eq_false_iff,Bool.and_eq_false_iff,decide_eq_false_iff_not,beq_eq_false_iff_ne,Bool.or_eq_true,z8,zD,beq_iff_eq,UInt8.lt_iff_toNat_lt,n1,n2,h114]at h1 h2
   obtain⟨h1,h3⟩:=h1
   rcases h2 with h2 | ⟨rfl,h2⟩
   ·omega
   ·rcases h3 with h3 | ⟨h3,h4⟩
    ·exact absurd rfl h3
    ·have hb:b.toNat=c:=by
      rcases h2 with h2 | ⟨h2,h5⟩
      ·omega
      ·cases t<;>simp[ltS,Go.Op.bytesLess]at h5
     refine⟨t, ?_⟩
     have:b=UInt8.ofNat c:=by rw[← UInt8.toNat_inj,n1,hb]
     rw[this];rfl
 ·rintro⟨t,rfl⟩
  constructor
  ·show ltS (114::UInt8.ofNat c::t) (114::UInt8.ofNat c::[])=false
   rw[xT,xT]
   cases t<;>rfl
  ·show ltS (114::UInt8.ofNat c::t) (114::UInt8.ofNat (c+1)::[])=true
   rw[xT,wC]
   simp only[Bool.or_eq_true,zD,UInt8.lt_iff_toNat_lt,n1,n2]
   exact .inl (by omega)
theorem jM {k v:Str}{p:Str×Str} : ∀ {l:Kvs},Srt l→(p∈putP k v l↔p=(k,v)∨(p∈l∧p.1≠k))
 | [],_=>by simp[putP]
 | (a,b)::l,h=>by
  have ih:=jM (k:=k) (v:=v) (p:=p) h.2
  simp only[putP]
  split
  ·rename_i e;subst e
   simp only[List.mem_cons]
   constructor
   ·rintro(e | e)
    ·exact .inl e
    ·exact .inr ⟨.inr e,fun e'=>wG (h.1 p e) e'.symm⟩
   ·rintro(e | ⟨e | e,h'⟩)
    ·exact .inl e
    ·exact absurd (by rw[e]) h'
    ·exact .inr e
  ·rename_i hak
   split
   ·rw[List.mem_cons,ih,List.mem_cons]
    constructor
    ·rintro(e | e | e)
     ·exact .inr ⟨.inl e,by rw[e];exact hak⟩
     ·exact .inl e
     ·exact .inr ⟨.inr e.1,e.2⟩
    ·rintro(e | ⟨e | e,h'⟩)
     ·exact .inr (.inl e)
     ·exact .inl e
     ·exact .inr (.inr ⟨e,h'⟩)
   ·rename_i hlt
    have hka:ltS k a=true:=by
     cases hk:ltS k a with
     | true=>rfl
     | false=>exact absurd (xF (by simpa using hlt) hk) hak
    rw[List.mem_cons]
    constructor
    ·rintro(e | e)
     ·exact .inl e
     ·refine .inr ⟨e, ?_⟩
      rcases List.mem_cons.1 e with e | e
      ·rw[e];exact hak
      ·exact fun e'=>wG (y5 hka (h.1 p e)) e'.symm
    ·rintro(e | ⟨e,_⟩)
     ·exact .inl e
     ·exact .inr e
theorem xE {k:Str}{p:Str×Str} : ∀ {l:Kvs},Srt l→(p∈delP k l↔p∈l∧p.1≠k)
 | [],_=>by simp[delP]
 | (a,b)::l,h=>by
  have ih:=xE (k:=k) (p:=p) h.2
  simp only[delP]
  split
  ·rename_i e;subst e
   rw[List.mem_cons]
   constructor
   ·intro e;exact⟨.inr e,fun e'=>wG (h.1 p e) e'.symm⟩
   ·rintro⟨e | e,h'⟩
    ·exact absurd (by rw[e]) h'
    ·exact e
  ·rename_i hak
   rw[List.mem_cons,ih,List.mem_cons]
   constructor
   ·rintro(e | ⟨e,h'⟩)
    ·exact⟨.inl e,by rw[e];exact hak⟩
    ·exact⟨.inr e,h'⟩
   ·rintro⟨e | e,h'⟩
    ·exact .inl e
    ·exact .inr ⟨e,h'⟩
theorem srt_ext: ∀ {a b:Kvs},Srt a→Srt b→(∀p,p∈a↔p∈b)→a=b
 | [],[],_,_,_=>rfl
 | [],y::b,_,_,h=>by have:=(h y).2 (zB ..);simp at this
 | x::a,[],_,_,h=>by have:=(h x).1 (zB ..);simp at this
 | (k,v)::a,(k',v')::b,ha,hb,h=>by
  have e:(k,v)=(k',v'):=by
   rcases List.mem_cons.1 ((h (k,v)).1 (zB ..))with e | e
   ·exact e
   ·rcases List.mem_cons.1 ((h (k',v')).2 (zB ..))with e' | e'
    ·exact e'.symm
    ·have h1:=hb.1 _ e
     have h2:=ha.1 _ e'
     have:=y5 h1 h2
     rw[qZ]at this;cases this
  rw[e]
  congr 1
  refine srt_ext ha.2 hb.2 fun p=>⟨fun hp=> ?_,fun hp=> ?_⟩
  ·rcases List.mem_cons.1 ((h p).1 (zA _ hp))with e' | e'
   ·have:=ha.1 p hp
    rw[e', ← e,qZ]at this;cases this
   ·exact e'
  ·rcases List.mem_cons.1 ((h p).2 (zA _ hp))with e' | e'
   ·have:=hb.1 p hp
    rw[e',e,qZ]at this;cases this
   ·exact e'
theorem aY {k v:Str} : ∀ {l:Kvs},Srt l→(lookP k l=some v↔(k,v)∈l)
 | [],_=>by simp[lookP]
 | (a,b)::l,h=>by
  have ih:=aY (k:=k) (v:=v) h.2
  simp only[lookP]
  split
  ·rename_i e;subst e
   rw[List.mem_cons]
   constructor
   ·intro e;simp at e;exact .inl (by rw[e])
   ·rintro(e | e)
    ·simp at e;rw[e]
    ·have:=h.1 _ e;rw[qZ]at this;cases this
  ·rename_i hak
   rw[ih,List.mem_cons]
   constructor
   ·exact .inr
   ·rintro(e | e)
    ·exact absurd (by simp at e;exact e.1.symm) hak
    ·exact e
def Row (l:List Kp):Prop:=l.Pairwise (fun a b=>a.n<b.n)∧ ∀k∈l,k.fine
theorem zDi (c:Nat): ∀ {l:List Kp},Row l→Srt (l.map (zEZ c))
 | [],_=>trivial
 | k::l,⟨h1,h2⟩=>by
  rw[List.pairwise_cons]at h1
  refine⟨fun p hp=> ?_,zDi c ⟨h1.2,fun k hk=>h2 k (zA _ hk)⟩⟩
  obtain⟨k',hk',rfl⟩:=List.mem_map.1 hp
  have a:=h2 k (zB ..)
  have b:=h2 k' (zA _ hk')
  simp only[zEZ]
  rw[zJp c (by have:=a.2.1;omega) (by have:=b.2.1;omega),zD]
  exact h1.1 k' hk'
structure Drc (kv oth:Kvs)(f:Nat→List Kp):Prop where
 srt:Srt kv
 mem: ∀p,p∈kv↔p∈oth∨ ∃c k,k∈f c∧p=zEZ c k
 row: ∀c,Row (f c)
 few: ∀c,f c≠[]→1≤c∧c≤16
 oth: ∀p∈oth,∀c,1≤c→c≤16→ ∀t,p.1≠hdK c++t
theorem Drc.range {kv oth:Kvs}{f:Nat→List Kp}(h:Drc kv oth f){c:Nat}(h1:1≤c)(h2:c≤16):kv.filter (inP (hdK c) (hdK (c+1)))=(f c).map (zEZ c):=by
 refine srt_ext (Bt.srt_sub List.filter_sublist h.srt) (zDi c (h.row c)) fun p=> ?_
 obtain⟨k,v⟩:=p
 rw[List.mem_filter,h.mem,zE8 (by omega),List.mem_map]
 constructor
 ·rintro⟨e | ⟨d,k',hk,e⟩,t,ht⟩
  ·exact absurd ht (h.oth _ e c h1 h2 t)
  ·have hd:=h.few d (fun e=>by rw[e]at hk;simp at hk)
   have hkk:k=zI1 d k'.n:=by rw[zEZ,zE]at e;exact e.1
   have:(UInt8.ofNat d)=UInt8.ofNat c:=by
    rw[hkk]at ht
    have ht':(114:UInt8)::UInt8.ofNat d::dig k'.n 4=114::UInt8.ofNat c::t:=ht
    simp only[List.cons.injEq,true_and]at ht'
    exact ht'.1
   have e1:=congrArg UInt8.toNat this
   rw[UInt8.toNat_ofNat',UInt8.toNat_ofNat',Nat.mod_eq_of_lt (by omega),Nat.mod_eq_of_lt (by omega)]at e1
   subst e1
   exact⟨k',hk,e.symm⟩
 ·rintro⟨k',hk,e⟩
  refine⟨.inr ⟨c,k',hk,e.symm⟩,dig k'.n 4, ?_⟩
  rw[zEZ,zE]at e
  exact e.1.symm
theorem Drc.del {kv oth:Kvs}{f:Nat→List Kp}(h:Drc kv oth f){c:Nat}(h1:1≤c)(h2:c≤16){k:Kp}(hk:k.fine):Drc (delP (zI1 c k.n) kv) oth (fun d=>if d=c then(f c).filter (fun j=>j.n≠k.n)else f d) where
 srt:=Nd.srt_del _ h.srt
 mem:=fun p=>by
  rw[xE h.srt,h.mem]
  constructor
  ·rintro⟨e | ⟨d,k',hk',e⟩,hne⟩
   ·exact .inl e
   ·refine .inr ⟨d,k', ?_,e⟩
    by_cases hd:d=c
    ·subst hd
     rw[if_pos rfl,List.mem_filter]
     refine⟨hk', ?_⟩
     simp only[ne_eq,decide_not,Bool.not_eq_true',decide_eq_false_iff_not]
     intro e'
     rw[e,zEZ,e']at hne;exact hne rfl
    ·rw[if_neg hd];exact hk'
  ·rintro(e | ⟨d,k',hk',e⟩)
   ·exact⟨.inl e,h.oth _ e c h1 h2 _⟩
   ·by_cases hd:d=c
    ·subst hd
     rw[if_pos rfl,List.mem_filter]at hk'
     refine⟨.inr ⟨d,k',hk'.1,e⟩,fun e'=> ?_⟩
     rw[e,zEZ]at e'
     have a:=((h.row d).2 k' hk'.1).2.1
     have b:=hk.2.1
     have:=(Z1 (by omega) (by omega) (by omega) (by omega) e').2
     simp[this]at hk'
    ·rw[if_neg hd]at hk'
     refine⟨.inr ⟨d,k',hk',e⟩,fun e'=>hd ?_⟩
     rw[e,zEZ]at e'
     have a:=((h.row d).2 k' hk').2.1
     have b:=hk.2.1
     have hdd:=h.few d (fun e=>by rw[e]at hk';simp at hk')
     exact(Z1 (by omega) (by omega) (by omega) (by omega) e').1
 row:=fun d=>by
  by_cases hd:d=c
  ·rw[if_pos hd]
   exact⟨(h.row c).1.sublist List.filter_sublist,fun k hk=>(h.row c).2 k ((List.mem_filter.1 hk).1)⟩
  ·rw[if_neg hd];exact h.row d
 few:=fun d hd=>by
  by_cases e:d=c
  ·subst e;exact⟨h1,h2⟩
  ·rw[if_neg e]at hd;exact h.few d hd
 oth:=h.oth
theorem Drc.put {kv oth:Kvs}{f:Nat→List Kp}(h:Drc kv oth f){c:Nat}(h1:1≤c)(h2:c≤16){k:Kp}(hk:k.fine)(hn: ∀j∈f c,j.n<k.n):Drc (putP (zI1 c k.n) (valK k) kv) oth (fun d=>if d=c then f c++[k]else f d) where
 srt:=Nd.srt_put _ _ h.srt
 mem:=fun p=>by
  rw[jM h.srt,h.mem]
  constructor
  ·rintro(e | ⟨e | ⟨d,k',hk',e⟩,hne⟩)
   ·exact .inr ⟨c,k,by simp,e⟩
   ·exact .inl e
   ·refine .inr ⟨d,k', ?_,e⟩
    by_cases hd:d=c
    ·subst hd;rw[if_pos rfl];exact zV _ hk'
    ·rw[if_neg hd];exact hk'
  ·rintro(e | ⟨d,k',hk',e⟩)
   ·exact .inr ⟨.inl e,h.oth _ e c h1 h2 _⟩
   ·by_cases hd:d=c
    ·subst hd
     rw[if_pos rfl]at hk'
     rcases List.mem_append.1 hk' with hk' | hk'
     ·refine .inr ⟨.inr ⟨d,k',hk',e⟩,fun e'=> ?_⟩
      rw[e,zEZ]at e'
      have a:=((h.row d).2 k' hk').2.1
      have b:=hk.2.1
      have:=(Z1 (by omega) (by omega) (by omega) (by omega) e').2
      have:=hn k' hk'
      omega
     ·simp only[List.mem_singleton]at hk'
      subst hk';exact .inl e
    ·rw[if_neg hd]at hk'
     refine .inr ⟨.inr ⟨d,k',hk',e⟩,fun e'=>hd ?_⟩
     rw[e,zEZ]at e'
     have a:=((h.row d).2 k' hk').2.1
     have b:=hk.2.1
     have hdd:=h.few d (fun e=>by rw[e]at hk';simp at hk')
     exact(Z1 (by omega) (by omega) (by omega) (by omega) e').1
 row:=fun d=>by
  by_cases hd:d=c
  ·rw[if_pos hd]
   refine⟨?_,fun j hj=> ?_⟩
   ·rw[List.pairwise_append]
    exact⟨(h.row c).1,by simp,fun a ha b hb=>by simp only[List.mem_singleton]at hb;subst hb;exact hn a ha⟩
   ·rcases List.mem_append.1 hj with hj | hj
    ·exact(h.row c).2 j hj
    ·simp only[List.mem_singleton]at hj;subst hj;exact hk
  ·rw[if_neg hd];exact h.row d
 few:=fun d hd=>by
  by_cases e:d=c
  ·subst e;exact⟨h1,h2⟩
  ·rw[if_neg e]at hd;exact h.few d hd
 oth:=h.oth
end Go.Dr
end
section
namespace Go.Eng.Sh
open Go.Nd (Ptr yF qP Kvs Srt)
open Go.Bt
def xK (fr to:Str)(kv:Kvs):Kvs:=kv.filter (inP fr to)
theorem UN {fr to:Str}{kv:Kvs}(ht:to≠[])(h:ltS fr to=false):xK fr to kv=[]:=by
 rw[xK,List.filter_eq_nil_iff]
 intro p _ hp
 simp only[inP,y9,z8,Bool.not_eq_true',Bool.or_eq_true,List.isEmpty_iff,ht,false_or]at hp
 have h1:=not_lt (a:=p.1) (b:=fr) (by simp[hp.1])
 have:=vZ h1 hp.2
 rw[h]at this;cases this
theorem zDs (m:Nat)(hm:700000000≤m){H:AH}{At M L:Nat}{kv:Kvs}(t:jI H At M L kv)(hL:L≤1000000)(hkv:kv.length≤1000000000)(fr to:Str){most:Nat}(hmo:0≤most)(hlen:(xK fr to kv).length≤most):
  ∃H' v,f18 (dy (m+1)) (m+1) [.ptr At 0,S fr,S to, .int .i64 ((most:Nat):Int)] H=some (.tuple [v, .bool false, .int .i64 ((0:Nat):Int)],H')∧Prs H H'∧jA 2 85 H' v (xK fr to kv).length ((xK fr to kv).flatMap prV)∧ ∀B,Blk v B→H.next≤B:=by
 obtain⟨d,c,_,root,es,q,last,rfl,hc,ti,h2,h3,h4,h5⟩:=t
 have hold:=ti.hold
 have lA:=ti.ok.lt ti.gT
 have lM:=ti.ok.lt ti.gM
 have hg:GI0 H.next At M root q H (fun _=>False):=⟨fun _ x=>x,lA,lM,d,c,es,last,ti,hold⟩
 have main: ∀L0,Vis (Qf q []) root fr to L0→L0.length≤8192+q.length→(jJ (wF fr to (fW most)) L0 ([],false)).2=(xK fr to kv,false)→ ∃H' v,f18 (dy (m+1)) (m+1) [.ptr At 0,S fr,S to, .int .i64 ((most:Nat):Int)] H=some (.tuple [v, .bool false, .int .i64 ((0:Nat):Int)],H')∧Prs H H'∧jA 2 85 H' v (xK fr to kv).length ((xK fr to kv).flatMap prV)∧ ∀B,Blk v B→H.next≤B:=by
  intro L0 hv hl hr
  obtain⟨H',Wg',v,e,_,s,_,g,f⟩:=zDt (zJ3 H.next At M root q) m hm hg (Nat.le_refl _) hmo hv hl (by omega)
  rw[hr]at e g
  exact⟨H',v,e,s,g,f⟩
 rcases h5 with⟨rfl,rfl⟩ | ⟨s,h,nd,t,S0,rfl,hs,rn,wr,nd0,rfl⟩
 ·exact main [] (.inl ⟨.inl rfl,rfl⟩) (by simp) rfl
 ·by_cases hto:to≠[]∧ltS fr to=false
  ·refine main [] (.inl ⟨.inr hto,rfl⟩) (by simp) ?_
   rw[UN hto.1 hto.2];rfl
  ·have hto':to=[]∨ltS fr to=true:=by
    by_cases h0:to=[]
    ·exact .inl h0
    ·right
     cases hb:ltS fr to with
     | true=>rfl
     | false=>exact absurd ⟨h0,hb⟩ hto
   obtain⟨_,_,hvl⟩:=zAu (Q:=Qf q []) (fr:=fr) (to:=to) (p:=pp s) rn wr
   obtain⟨_,hql⟩:=zBV hs rn wr nd0
   refine main (wI (Qf q []) fr to h (pp s) nd) (.inr ⟨by simp[pp],hto',h,nd,by have:=wr.low hkv;omega, ?_,zIA rn wr,rfl⟩) (by omega) ?_
   ·rw[Y2];simpa[qT]using hs
   ·rw[zFX rn wr,zDf _ [] (by have:(List.filter (inP fr to) (con h t)).length≤most:=hlen;simpa using this)];rfl
end Go.Eng.Sh
end
section
namespace Go.Eng
theorem VL (s:Str)(k:IntKind){i:Nat}(h:i<s.length):KU (S s) (.int k ((i:Nat):Int))=some (.int .u8 (((s[i]).toNat:Nat):Int)):=by
 have:=zJt s k (z:=((i:Nat):Int)) (by omega) (by simpa using h)
 simpa using this
end Go.Eng
namespace Go.Eng.Sh
open Go.Nd (Ptr yF qP Kvs Srt)
open Go.Bt Go.Dr
theorem zGt (s:Str){i:Nat}(h:i<s.length):num (s.take (i+1))=num (s.take i)*256+(s[i]).toNat:=by
 rw[num,zN h,zAW];rfl
theorem zL9 (s:Str){i:Nat}(h:s.length≤i):num s<256 ^ i:=by
 have h1:=J2 s 0
 have h2:256 ^ s.length≤256 ^ i:=Nat.pow_le_pow_right (by omega) h
 rw[num];omega
theorem zFn (x k:Nat):yJ (dig x k)=(List.range k).map fun i=>AV.int .u8 ((x / 256 ^ (k - 1 - i) % 256:Nat):Int):=by
 apply List.ext_getElem
 ·simp[dU,jR]
 ·intro i h1 h2
  simp only[yJ,List.getElem_map,List.getElem_range]
  rw[zF8]
def gJ (x k i:Nat):List AV:=((List.range k).map fun j=>AV.int .u8 ((if j<i then x / 256 ^ (k - 1 - j) % 256 else 0:Nat):Int))
theorem zCg (x k:Nat){i:Nat}(h:i<k):(gJ x k i).set i (.int .u8 ((x / 256 ^ (k - 1 - i) % 256:Nat):Int))=gJ x k (i+1):=by
 apply List.ext_getElem
 ·simp[gJ]
 ·intro j h1 h2
  simp only[gJ,List.getElem_set,List.getElem_map,List.getElem_range]
  by_cases e:i=j
  ·subst e;simp
  ·rw[if_neg e]
   by_cases hj:j<i
   ·rw[if_pos hj,if_pos (by omega)]
   ·rw[if_neg hj,if_neg (by omega)]
end Go.Eng.Sh
end
section
namespace Go.Di
open Go.Nd (Str Kvs putP delP lookP Srt mayK)
open Go.Eng (ltS qZ y5 xF kK wG)
open Go.Bt (inP y9 vZ)
open Go.Dr
def zKH (u:Nat):Str→Nat
 | []=>u
 | b::l=>zKH (Nat.xor u b.toNat*1099511628211 % 18446744073709551616) l
theorem BG: ∀(s:Str) (u:Nat),u<18446744073709551616→zKH u s<18446744073709551616
 | [],_,h=>h
 | _::l,_,_=>BG l _ (Nat.mod_lt _ (by omega))
theorem XK: ∀(s:Str) (b:UInt8) (u:Nat),zKH u (s++[b])=Nat.xor (zKH u s) b.toNat*1099511628211 % 18446744073709551616
 | [],_,_=>rfl
 | _::l,b,_=>XK l b _
def zCq (s:Str):Nat:=zKH 14695981039346656037 s
def yM (s:Str):Nat:=zCq s % 1024
theorem uV (s:Str):yM s<1024:=Nat.mod_lt _ (by omega)
def hasB (s:Str):Bool:=s.any fun b=>b==0||b==47
def bX (s:Str):Bool:= !(decide (s=[])||decide (s=[46])||decide (s=[46,46])||decide (s=[46,115,110,97,112,115,104,111,116]))&&decide (s.length≤32)&& !hasB s
theorem KK {s:Str}(h:bX s=true):s.length≤32:=by
 simp only[bX,z8,zD]at h;exact h.1.2
structure En where
 c:Nat
 i:Nat
 n:Str
def En.fine (e:En):Prop:=1≤e.c∧e.c≤262144∧1≤e.i∧e.i≤2147483647∧bX e.n=true∧yM e.n=(e.c - 1) / 256
def gS (d:Nat):Str:=101::dig d 4
def yA (d c:Nat):Str:=gS d++dig c 4
def xO (e:En):Str:=dig e.i 4++e.n
def xZ (d:Nat)(e:En):Str×Str:=(yA d e.c,xO e)
def zHd (p:Str×Str):En:=⟨num (p.1.drop 5),num (p.2.take 4),p.2.drop 4⟩
theorem wB (d:Nat):(gS d).length=5:=by simp[gS,jR]
theorem xW (d c:Nat):(yA d c).length=9:=by simp[yA,wB,jR]
theorem QO {d:Nat}{e:En}(h:e.fine):zHd (xZ d e)=e:=by
 obtain⟨h1,h2,h3,h4,_⟩:=h
 have a1:(yA d e.c).drop 5=dig e.c 4:=by rw[yA,List.drop_left' (wB d)]
 have a2:(xO e).take 4=dig e.i 4:=by rw[xO,List.take_left' (jR _ _)]
 have a3:(xO e).drop 4=e.n:=by rw[xO,List.drop_left' (jR _ _)]
 simp only[zHd,xZ,a1,a2,a3]
 rw[vB (by omega),vB (by omega)]
theorem BV (p:Str)(a b:Str):ltS (p++a) (p++b)=ltS a b:=by
 induction p with
 | nil=>rfl
 | cons x p ih=>rw[List.cons_append,List.cons_append,xT,ih]
theorem cV (d:Nat){a b:Nat}(ha:a<4294967296)(hb:b<4294967296):ltS (yA d a) (yA d b)=decide (a<b):=by
 rw[yA,yA,BV,U9,Nat.mod_eq_of_lt (by omega),Nat.mod_eq_of_lt (by omega)]
theorem zB1: ∀ {a b:Str} (x:Str),a.length=b.length→ltS a b=true→ltS (a++x) b=true
 | [],[],_,_,h=>by rw[qZ]at h;cases h
 | u::a,v::b,x,hl,h=>by
  rw[wC]at h
  rw[List.cons_append,wC]
  simp only[Bool.or_eq_true,z8]at h⊢
  rcases h with h | ⟨h1,h2⟩
  ·exact .inl h
  ·exact .inr ⟨h1,zB1 x (by simpa using hl) h2⟩
theorem KQ {d e:Nat}(c:Nat)(h:d<e)(he:e<4294967296):ltS (yA d c) (gS e)=true:=by
 rw[yA]
 refine zB1 _ (by rw[wB,wB]) ?_
 rw[gS,gS,xT,U9,Nat.mod_eq_of_lt (by omega),Nat.mod_eq_of_lt (by omega)]
 exact decide_eq_true h
theorem VE: ∀ {a b:Str} (x:Str),a.length=b.length→ltS a b=true→ltS a (b++x)=true
 | [],[],_,_,h=>by rw[qZ]at h;cases h
 | u::a,v::b,x,hl,h=>by
  rw[wC]at h
  rw[List.cons_append,wC]
  simp only[Bool.or_eq_true,z8]at h⊢
  rcases h with h | ⟨h1,h2⟩
  ·exact .inl h
  ·exact .inr ⟨h1,VE x (by simpa using hl) h2⟩
theorem zGm {d e:Nat}(c:Nat)(h:d≤e)(he:e<4294967296):ltS (yA e c) (gS d)=false:=by
 rcases Nat.eq_or_lt_of_le h with rfl | h
 ·have:=BV (gS d) (dig c 4) []
  rw[List.append_nil]at this
  rw[yA,this];rfl
 ·have h1:ltS (gS d) (gS e)=true:=by
   rw[gS,gS,xT,U9,Nat.mod_eq_of_lt (by omega),Nat.mod_eq_of_lt (by omega)]
   exact decide_eq_true h
  exact kK (VE (dig c 4) (by rw[wB,wB]) h1)
theorem KR {d a b:Nat}(ha:a<4294967296)(hb:b<4294967296)(h:yA d a=yA d b):a=b:=by
 rw[yA,yA,List.append_cancel_left_eq]at h
 have:=congrArg num h
 rwa[vB (by omega),vB (by omega)]at this
theorem zLu {d a b c:Nat}{v:Str}(ha:a<4294967296)(hb:b<4294967296)(hc:c<4294967296):inP (yA d a) (yA d b) (yA d c,v)=(decide (a≤c)&&decide (c<b)):=by
 have hne:(yA d b).isEmpty=false:=by
  cases h:yA d b with
  | nil=>have:=xW d b;rw[h]at this;simp at this
  | cons _ _=>rfl
 simp only[inP,y9,hne,Bool.false_or,cV d hc ha,cV d hc hb]
 congr 1
 rw[← decide_not];simp
theorem zI2 {d a c:Nat}{v:Str}(hd:d<2147483648)(ha:a<4294967296)(hc:c<4294967296):inP (yA d a) (gS (d+1)) (yA d c,v)=decide (a≤c):=by
 simp only[inP,y9,cV d hc ha,KQ c (show d<d+1 by omega) (by omega),Bool.or_true,Bool.and_true]
 rw[← decide_not];simp
def bT (d:Nat)(kv:Kvs):Prop:=Srt kv∧ ∀p∈kv,inP (yA d 1) (gS (d+1)) p=true→ ∃e:En,e.fine∧p=xZ d e
theorem zJy {d a b:Nat}{p:Str×Str}(hd:d<2147483648)(ha:1≤a)(ha2:a<4294967296)(h:inP (yA d a) (yA d b) p=true):inP (yA d 1) (gS (d+1)) p=true:=by
 have hne:(yA d b).isEmpty=false:=by
  cases h:yA d b with
  | nil=>have:=xW d b;rw[h]at this;simp at this
  | cons _ _=>rfl
 simp only[inP,y9,hne,Bool.false_or,z8,Bool.not_eq_true',Bool.or_eq_true]at h⊢
 refine⟨?_, .inr (y5 h.2 (KQ b (by omega) (by omega)))⟩
 cases hb:ltS p.1 (yA d 1)with
 | false=>rfl
 | true=>
  have h1:yA d 1=yA d a∨ltS (yA d 1) (yA d a)=true:=by
   by_cases e:a=1
   ·exact .inl (by rw[e])
   ·exact .inr (by rw[cV d (by omega) ha2];exact decide_eq_true (by omega))
  have:=Bt.lt_of_lt_le hb h1
  rw[this]at h;cases h.1
theorem zGI {d a:Nat}{p:Str×Str}(ha:1≤a)(ha2:a<4294967296)(h:inP (yA d a) (gS (d+1)) p=true):inP (yA d 1) (gS (d+1)) p=true:=by
 simp only[inP,z8,Bool.not_eq_true']at h⊢
 refine⟨?_,h.2⟩
 cases hb:ltS p.1 (yA d 1)with
 | false=>rfl
 | true=>
  have h1:yA d 1=yA d a∨ltS (yA d 1) (yA d a)=true:=by
   by_cases e:a=1
   ·exact .inl (by rw[e])
   ·exact .inr (by rw[cV d (by omega) ha2];exact decide_eq_true (by omega))
  have:=Bt.lt_of_lt_le hb h1
  rw[this]at h;cases h.1
def chE (d h:Nat)(kv:Kvs):List En:=(kv.filter (inP (yA d (h*256+1)) (yA d (h*256+257)))).map zHd
def liE (d b:Nat)(kv:Kvs):List En:=(kv.filter (inP (yA d (b+1)) (gS (d+1)))).map zHd
theorem BU {d:Nat} : ∀ {l:Kvs},(∀p∈l,∃e:En,e.fine∧p=xZ d e)→l=(l.map zHd).map (xZ d)∧ ∀e∈l.map zHd,e.fine
 | [],_=>⟨rfl,by simp⟩
 | p::l,h=>by
  obtain⟨e,he,rfl⟩:=h p (by simp)
  obtain⟨h1,h2⟩:=BU (l:=l) fun q hq=>h q (by simp[hq])
  rw[List.map_cons,List.map_cons,QO he, ← h1]
  refine⟨rfl,fun x hx=> ?_⟩
  rcases List.mem_cons.1 hx with rfl | hx
  ·exact he
  ·exact h2 x hx
theorem bT.chain {d h:Nat}{kv:Kvs}(f:bT d kv)(hd:d<2147483648)(hh:h<1024):kv.filter (inP (yA d (h*256+1)) (yA d (h*256+257)))=(chE d h kv).map (xZ d)∧(∀e∈chE d h kv,e.fine∧yM e.n=h)∧ ∀e:En,e.fine→(e∈chE d h kv↔xZ d e∈kv∧yM e.n=h):=by
 have hp: ∀p∈kv.filter (inP (yA d (h*256+1)) (yA d (h*256+257))),∃e:En,e.fine∧p=xZ d e:=fun p hp=>by
  rw[List.mem_filter]at hp
  exact f.2 p hp.1 (zJy hd (by omega) (by omega) hp.2)
 obtain⟨h1,h2⟩:=BU hp
 have hin: ∀e:En,e.fine→(inP (yA d (h*256+1)) (yA d (h*256+257)) (xZ d e)=true↔yM e.n=h):=fun e he=>by
  obtain⟨q1,q2,_,_,_,q6⟩:=he
  rw[xZ,zLu (by omega) (by omega) (by omega),q6]
  simp only[z8,zD]
  omega
 have h3: ∀e:En,e.fine→(e∈chE d h kv↔xZ d e∈kv∧yM e.n=h):=fun e he=>by
  constructor
  ·intro hm
   have hm':xZ d e∈kv.filter (inP (yA d (h*256+1)) (yA d (h*256+257))):=by rw[h1];exact List.mem_map_of_mem hm
   rw[List.mem_filter]at hm'
   exact⟨hm'.1,(hin e he).1 hm'.2⟩
  ·rintro⟨g1,g2⟩
   have:xZ d e∈kv.filter (inP (yA d (h*256+1)) (yA d (h*256+257))):=List.mem_filter.2 ⟨g1,(hin e he).2 g2⟩
   have:=List.mem_map_of_mem (f:=zHd) this
   rwa[QO he]at this
 exact⟨h1,fun e he=>⟨h2 e he,((h3 e (h2 e he)).1 he).2⟩,h3⟩
theorem bT.list {d b:Nat}{kv:Kvs}(f:bT d kv)(hd:d<2147483648)(hb:b≤262144):kv.filter (inP (yA d (b+1)) (gS (d+1)))=(liE d b kv).map (xZ d)∧(∀e∈liE d b kv,e.fine∧b<e.c)∧ ∀e:En,e.fine→(e∈liE d b kv↔xZ d e∈kv∧b<e.c):=by
 have hp: ∀p∈kv.filter (inP (yA d (b+1)) (gS (d+1))),∃e:En,e.fine∧p=xZ d e:=fun p hp=>by
  rw[List.mem_filter]at hp
  exact f.2 p hp.1 (zGI (by omega) (by omega) hp.2)
 obtain⟨h1,h2⟩:=BU hp
 have hin: ∀e:En,e.fine→(inP (yA d (b+1)) (gS (d+1)) (xZ d e)=true↔b<e.c):=fun e he=>by
  obtain⟨q1,q2,_,_,_,q6⟩:=he
  rw[xZ,zI2 (by omega) (by omega) (by omega)]
  simp only[zD]
  omega
 have h3: ∀e:En,e.fine→(e∈liE d b kv↔xZ d e∈kv∧b<e.c):=fun e he=>by
  constructor
  ·intro hm
   have hm':xZ d e∈kv.filter (inP (yA d (b+1)) (gS (d+1))):=by rw[h1];exact List.mem_map_of_mem hm
   rw[List.mem_filter]at hm'
   exact⟨hm'.1,(hin e he).1 hm'.2⟩
  ·rintro⟨g1,g2⟩
   have:xZ d e∈kv.filter (inP (yA d (b+1)) (gS (d+1))):=List.mem_filter.2 ⟨g1,(hin e he).2 g2⟩
   have:=List.mem_map_of_mem (f:=zHd) this
   rwa[QO he]at this
 exact⟨h1,fun e he=>⟨h2 e he,((h3 e (h2 e he)).1 he).2⟩,h3⟩
def xR (d:Nat)(nm:Str)(kv:Kvs):Option En:=(chE d (yM nm) kv).find? fun e=>decide (e.n=nm)
theorem bT.found {d:Nat}{nm:Str}{kv:Kvs}{e:En}(f:bT d kv)(hd:d<2147483648)(h:xR d nm kv=some e):e.fine∧xZ d e∈kv∧e.n=nm:=by
 obtain⟨_,h2,h3⟩:=f.chain hd (uV nm)
 have hm:=List.mem_of_find?_eq_some h
 have hn:=List.find?_some h
 exact⟨(h2 e hm).1,((h3 e (h2 e hm).1).1 hm).1,of_decide_eq_true hn⟩
theorem bT.find_none {d:Nat}{nm:Str}{kv:Kvs}(f:bT d kv)(hd:d<2147483648):xR d nm kv=none↔ ∀e:En,e.fine→xZ d e∈kv→e.n≠nm:=by
 obtain⟨_,h2,h3⟩:=f.chain hd (uV nm)
 rw[xR,List.find?_eq_none]
 constructor
 ·intro h e he hm hn
  exact h e ((h3 e he).2 ⟨hm,by rw[hn]⟩) (decide_eq_true hn)
 ·intro h e he hn
  exact h e (h2 e he).1 ((h3 e (h2 e he).1).1 he).1 (of_decide_eq_true hn)
def xD (l:List En)(p:Nat):Bool:=l.any fun e=>(e.c - 1) % 256==p
def vM (l:List En):Option Nat:=(List.range 256).find? fun p=> !xD l p
theorem bT.put {d:Nat}{kv:Kvs}{e:En}(f:bT d kv)(he:e.fine):bT d (putP (yA d e.c) (xO e) kv):=
 ⟨Nd.srt_put _ _ f.1,fun p hp hi=>by
  rcases(jM f.1).1 hp with rfl | ⟨h,_⟩
  ·exact⟨e,he,rfl⟩
  ·exact f.2 p h hi⟩
theorem bT.del {d:Nat}{kv:Kvs}(f:bT d kv)(k:Str):bT d (delP k kv):=
 ⟨Nd.srt_del _ f.1,fun p hp hi=>f.2 p (Nd.mem_del hp) hi⟩
theorem bT.free {d:Nat}{nm:Str}{kv:Kvs}{i p:Nat}(f:bT d kv)(hd:d<2147483648)(hp:vM (chE d (yM nm) kv)=some p)(hi:1≤i)(hi2:i≤2147483647)(hm:bX nm=true):
  p<256∧(⟨yM nm*256+p+1,i,nm⟩:En).fine∧ ∀q∈kv,q.1≠yA d (yM nm*256+p+1):=by
 have h1:=List.mem_of_find?_eq_some hp
 have h2:=List.find?_some hp
 rw[List.mem_range]at h1
 have hh:=uV nm
 have hf:(⟨yM nm*256+p+1,i,nm⟩:En).fine:=⟨by simp only;omega,by simp only;omega,hi,hi2,hm,by simp only;omega⟩
 refine⟨h1,hf,fun q hq e=> ?_⟩
 obtain⟨_,g2,g3⟩:=f.chain hd hh
 have hin:inP (yA d 1) (gS (d+1)) q=true:=by
  obtain⟨a,b⟩:=q
  simp only at e
  rw[e,zI2 hd (by omega) (by omega)];exact decide_eq_true (by omega)
 obtain⟨x,hx,rfl⟩:=f.2 q hq hin
 have hc:=KR (d:=d) (by have:=hx.2.1;omega) (by omega) e
 have hxh:yM x.n=yM nm:=by rw[hx.2.2.2.2.2,hc];omega
 have hxm:=(g3 x hx).2 ⟨hq,hxh⟩
 simp only[xD,Bool.not_eq_true',List.any_eq_false,beq_iff_eq]at h2
 exact h2 x hxm (by rw[hc];omega)
end Go.Di
end
