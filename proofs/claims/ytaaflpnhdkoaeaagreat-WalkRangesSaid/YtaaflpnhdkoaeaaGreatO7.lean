/- A checked evaluator for the program, and what it tells, part 7: no condition. -/
import Derived.Test.YtaaflpnhdkoaeaaGreatO6
set_option linter.all false
set_option linter.unusedVariables false
set_option linter.unusedSimpArgs false
set_option maxHeartbeats 8000000
set_option maxRecDepth 20000
section
set_option maxRecDepth 20000
namespace Go.Eng.Sh
open Go.Bk
theorem take_one (m n:Nat)(hm:10000<=m){H:AH}(o:H.ok){A1 A2 f i nb la ab:Nat}{x y:AV}{is:Nat->Nat}(b1:Box H A1 (.ptr i 0))(b2:Box H A2 x)(b3:Box H f y)(sp:Spc H i nb la is)(a6:ab<nb)(a7:2<=nb)
  (d1:A2≠f) (d2:A2≠i) (d3:f≠i) (d4:A1≠A2) (d5:A1≠f):
  match ofR is 0 nb ab with
  | none=> ∃H',(∀(u:AH->Rs) (J:AH->Nat->Rs) (v:AH->Rs),(bR (f168 (dy (m+2)) n [.ptr i 0, .int .u8 ((0:Nat):Int), .int .i64 ((ab:Nat):Int)] H) fun Y H=>XA H (.loop ⟨.ready,none,195,0,[1,2,3],[.ptr A1 0, .ptr A2 0, .ptr f 0]⟩) fun A H=>bR (rfC [(168,f168 (dy (m+2)) n),(86,f86 (dy (m+2)) n)] (dy (m+2)) Y A H) fun _ H=>uO A H fun j H=>zDJ j (u H) (J H) (v H))=u H')/\Prs H H'
  | some j=> ∃H',(∀(u:AH->Rs) (J:AH->Nat->Rs) (v:AH->Rs),(bR (f168 (dy (m+2)) n [.ptr i 0, .int .u8 ((0:Nat):Int), .int .i64 ((ab:Nat):Int)] H) fun Y H=>XA H (.loop ⟨.ready,none,195,0,[1,2,3],[.ptr A1 0, .ptr A2 0, .ptr f 0]⟩) fun A H=>bR (rfC [(168,f168 (dy (m+2)) n),(86,f86 (dy (m+2)) n)] (dy (m+2)) Y A H) fun _ H=>uO A H fun j H=>zDJ j (u H) (J H) (v H))=v H')/\Box H' A2 (.int .i64 ((j:Nat):Int))/\Box H' f (.int .i64 ((0:Nat):Int))/\Spc H' i nb j (X8 is j 2)/\Stp (fun B=>B=i\/B=A2\/B=f) H H':=by
 obtain⟨H1,O,q1,U,g1,m1,n1⟩:=box o (.cells [.ptr i 0] 36 1 false);obtain⟨H2,S,q2,L,g2,m2,n2⟩:=box U.ok (.cells [.int .u8 ((0:Nat):Int)] 141 1 false);obtain⟨a,T,q3,s,g3,m3,n3⟩:=box L.ok (.cells [.int .i64 ((ab:Nat):Int)] 3 1 false);have q:Prs a (a.push (.loop (lpT A1 A2 f))):=(Stp.refl s.ok).push _;have N:(a.push (.loop (lpT A1 A2 f))).h.get a.next=some (.loop (lpT A1 A2 f)):=AH.push_get_eq _ _
 have V: ∀K:Nat->AH->Rs,XA a (.loop ⟨.ready,none,195,0,[1,2,3],[.ptr A1 0, .ptr A2 0, .ptr f 0]⟩) K=K a.next (a.push (.loop (lpT A1 A2 f))):=fun K=>zES s.ok _ K
 generalize a.push (.loop (lpT A1 A2 f))=H4 at q N V;have P3:=(U.trans L).trans s;have t:=P3.trans q;have N1:=U.next;have N2:=L.next;have N3:=s.next;have N4:=q.next
 have l1:=b1.lt o;have l2:=b2.lt o;have l3:=b3.lt o;have lS:=sp.lt o;have c3:Box H4 O (.ptr i 0):=⟨_,Prs.get ((L.trans s).trans q) U.ok g1⟩;have c4:Box H4 S (.int .u8 ((0:Nat):Int)):=⟨_,Prs.get (s.trans q) L.ok g2⟩;have c5:Box H4 T (.int .i64 ((ab:Nat):Int)):=⟨_,Prs.get q s.ok g3⟩;have a4:=sp.stp o t (fun x=>x);have z:=zK4 (dy (m+1)) (m+1) (by omega) (A:=a.next) c3 c4 c5 a4 (by omega) a6 a7
 have a0:f168 (dy (m+2)) n [.ptr i 0, .int .u8 ((0:Nat):Int), .int .i64 ((ab:Nat):Int)] H=some (.func 207 [] [.ptr O 0, .ptr S 0, .ptr T 0],a):=by
  simp only[f168,eZ,cbx,q1,q2,q3]
 cases hr:ofR is 0 nb ab with
 | none=>
  rw[hr]at z;simp only at z⊢;have p:Stp (fun B=>B=a.next) H4 (H4.put a.next .dead):=(Stp.refl q.ok).put (q.ok.lt N) _ (.inr rfl)
  have W: ∀K:Option Code->AH->Rs,uO a.next H4 K=K none (H4.put a.next .dead):=fun K=>by
   simp only[uO,N,lpT,yQ]
  have Z:rfC [(168,f168 (dy (m+2)) n),(86,f86 (dy (m+2)) n)] (dy (m+2)) (.func 207 [] [.ptr O 0, .ptr S 0, .ptr T 0]) a.next H4=some (.tuple [],H4):=z
  refine⟨_,fun u J v=> ?_,t.fresh p fun B hB=>by omega⟩;simp only[a0,bR,V,Z,W,zDJ]
 | some j=>
  rw[hr]at z;simp only at z⊢;have hj:j<nb/\is j=0:=by
   simp only[ofR]at hr;split at hr
   .cases hr
   .obtain⟨h1,h2,h3⟩:=YZ hr;exact⟨by omega,h3⟩
  obtain⟨C,e5,g5,a8,a9,b0,p⟩:=zEA (dy m) m t.ok N (b1.mono o t (fun x=>x)) (b2.mono o t (fun x=>x)) (b3.mono o t (fun x=>x)) a4 hj.1 hj.2 d1 d2 d3 d4 d5;have a5:=z C ((zPR m (m+1) N _).trans e5);have Z:rfC [(168,f168 (dy (m+2)) n),(86,f86 (dy (m+2)) n)] (dy (m+2)) (.func 207 [] [.ptr O 0, .ptr S 0, .ptr T 0]) a.next H4=some (.tuple [],C):=a5
  have F:Stp (fun B=>B=a.next) C (C.put a.next .dead):=(Stp.refl p.ok).put (p.ok.lt g5) _ (.inr rfl)
  have W: ∀K:Option Code->AH->Rs,uO a.next C K=K (some .ret) (C.put a.next .dead):=fun K=>by
   simp only[uO,g5,lpT,yQ]
  have N5:=p.next;have N6:=F.next
  refine⟨_,fun u J v=> ?_,a8.mono p.ok F (by omega),a9.mono p.ok F (by omega),b0.stp p.ok F (by omega),⟨F.ok,by omega,fun B hB hS=> ?_⟩⟩
  .simp only[a0,bR,V,Z,W,zDJ]
  .have a1: ¬B=i:=fun e=>hS (.inl e)
   have a2: ¬B=A2:=fun e=>hS (.inr (.inl e))
   have a3: ¬B=f:=fun e=>hS (.inr (.inr e))
   rw[F.keep B (by omega) (by omega),p.keep B (by omega) (fun e=>by rcases e with e | e | e | e<;>omega),t.keep B hB (fun x=>x)]
theorem zJx (m n:Nat)(hm:10000<=m)(hn:100<=n){H:AH}(K:H.ok){p nb a:Nat}{is:Nat->Nat}(L:Spc H p nb a is)(a2:a<nb)(a0:2<=nb)(h0:is 0≠0)(N:is 1≠0)(hf:0<cnt is 0 nb):
  ∃H' j,f195 (dy (m+2)) n [.ptr p 0] H=some (.tuple [.int .i64 ((j:Nat):Int), .int .i64 ((0:Nat):Int)],H')/\2<=j/\j<nb/\is j=0/\Spc H' p nb j (X8 is j 2)/\Stp (fun B=>B=p) H H':=by
 obtain⟨c,g,hl,c0,c1,hc,a7,q1,q2,q3⟩:=id L;obtain⟨H1,A1,b1,z,g1,m1,n1⟩:=box K (.cells [.ptr p 0] 36 1 false);obtain⟨H2,A2,b2,u,g2,m2,n2⟩:=box z.ok (.cells [.int .i64 ((0:Nat):Int)] 3 1 false);obtain⟨s,v,b3,C,g3,m3,n3⟩:=box u.ok (.cells [.int .i64 ((0:Nat):Int)] 32 1 false);have f:=(z.trans u).trans C;have N1:=z.next;have N2:=u.next;have N3:=C.next
 have lS:=L.lt K;have F:=L.stp K f (fun x=>x);have x1:Box s A1 (.ptr p 0):=⟨_,Prs.get (u.trans C) z.ok g1⟩;have x2:Box s A2 (.int .i64 ((0:Nat):Int)):=⟨_,Prs.get C u.ok g2⟩;have x3:Box s v (.int .i64 ((0:Nat):Int)):=⟨_,g3⟩;have rl:ld1 (.ptr p 1) s=some (.int .i64 ((a:Nat):Int)):=by
  obtain⟨c',g',_,_,a3,_⟩:=F;exact kV g' a3
 have a1:zKZ 1 [.int .i64 ((0:Nat):Int), .int .i64 ((0:Nat):Int)] [(0, .int .i64 ((a:Nat):Int)),(1, .int .i64 ((0:Nat):Int))]=some (.agg [.int .i64 ((a:Nat):Int), .int .i64 ((0:Nat):Int)]):=rfl;have i0:zBa 2 1 (.agg [.int .i64 ((a:Nat):Int), .int .i64 ((0:Nat):Int)]) (.int .i64 ((0:Nat):Int))=some (.int .i64 ((a:Nat):Int)):=rfl;have i1:zBa 2 1 (.agg [.int .i64 ((a:Nat):Int), .int .i64 ((0:Nat):Int)]) (.int .i64 ((1:Nat):Int))=some (.int .i64 ((0:Nat):Int)):=rfl;have t0:((0:Nat):Int)< ((2:Nat):Int):=by omega
 have t1:((1:Nat):Int)< ((2:Nat):Int):=by omega
 have a4:((0:Nat):Int)+((1:Nat):Int)=((1:Nat):Int):=by omega
 obtain⟨k,rfl⟩: ∃k,n=k+1+1:=⟨n - 2,by omega⟩;have t:=take_one m (k+1+1) hm f.ok x1 x2 x3 F a2 a0 (by omega) (by omega) (by omega) (by omega) (by omega)
 cases hr:ofR is 0 nb a with
 | some j=>
  rw[hr]at t;simp only at t;obtain⟨y,O,S,T,a5,U⟩:=t;have q:2<=j/\j<nb/\is j=0:=by
   simp only[ofR]at hr;split at hr
   .cases hr
   .obtain⟨N,h2,V⟩:=YZ hr;exact⟨by omega,by omega,V⟩
  refine⟨y,j, ?_,q.1,q.2.1,q.2.2,a5,⟨U.ok,by have:=U.next;omega,fun B W Y=> ?_⟩⟩
  .have Z:fF (dy (m+2)) (k+1+1) [.ptr A1 0, .ptr A2 0, .ptr v 0, .agg [.int .i64 ((a:Nat):Int), .int .i64 ((0:Nat):Int)], .int .i64 ((0:Nat):Int)] s=some (.ret (.tuple [.int .i64 ((j:Nat):Int), .int .i64 ((0:Nat):Int)]),y):=by
    simp(maxSteps:=999999)(disch:=omega) only[fF,eZ,t0,i0,x1.ld,O,S.ld,T.ld]
   simp(maxSteps:=999999)(disch:=omega) only[f195,eZ,cbx,cq,b1,b2,b3,x1.ld,rl,a1,vV Z]
  .rw[U.keep B (by omega) (fun e=>by rcases e with e | e | e<;>first | omega | exact Y e),f.keep B W (fun x=>x)]
 | none=>
  rw[hr]at t;simp only at t;obtain⟨y,O,o⟩:=t;have N4:=o.next
  have o2:=take_one m (k+1+1) hm o.ok (x1.mono f.ok o (fun x=>x)) (x2.mono f.ok o (fun x=>x)) (x3.mono f.ok o (fun x=>x)) (F.stp f.ok o (fun x=>x)) (ab:=0) (by omega) a0 (by omega) (by omega) (by omega) (by omega) (by omega)
  cases h:ofR is 0 nb 0 with
  | none=>
   exfalso;simp only[ofR]at h;rw[if_neg (by omega)]at h;obtain⟨i,hi,J⟩:=zMe hf;have:i≠0/\i≠1:=⟨fun e=>h0 (e▸J),fun e=>N (e▸J)⟩;exact zDO h i (by omega) (by omega) J
  | some j=>
   rw[h]at o2;simp only at o2;obtain⟨H5,e5,S,T,a6,s5⟩:=o2;have q:2<=j/\j<nb/\is j=0:=by
    simp only[ofR]at h;split at h
    .cases h
    .obtain⟨N,h2,V⟩:=YZ h;exact⟨by omega,by omega,V⟩
   refine⟨H5,j, ?_,q.1,q.2.1,q.2.2,a6,⟨s5.ok,by have:=s5.next;omega,fun B W Y=> ?_⟩⟩
   .have Z:fF (dy (m+2)) (k+1+1) [.ptr A1 0, .ptr A2 0, .ptr v 0, .agg [.int .i64 ((a:Nat):Int), .int .i64 ((0:Nat):Int)], .int .i64 ((0:Nat):Int)] s=some (.norm [.ptr A1 0, .ptr A2 0, .ptr v 0, .agg [.int .i64 ((a:Nat):Int), .int .i64 ((0:Nat):Int)], .int .i64 ((1:Nat):Int)],y):=by
     simp(maxSteps:=999999)(disch:=omega) only[fF,eZ,t0,i0,x1.ld,O,a4]
    have l1:fF (dy (m+2)) (k+1+1) [.ptr A1 0, .ptr A2 0, .ptr v 0, .agg [.int .i64 ((a:Nat):Int), .int .i64 ((0:Nat):Int)], .int .i64 ((1:Nat):Int)] y=some (.ret (.tuple [.int .i64 ((j:Nat):Int), .int .i64 ((0:Nat):Int)]),H5):=by
     simp(maxSteps:=999999)(disch:=omega) only[fF,eZ,t1,i1,(x1.mono f.ok o (fun x=>x)).ld,e5,S.ld,T.ld]
    simp(maxSteps:=999999)(disch:=omega) only[f195,eZ,cbx,cq,b1,b2,b3,x1.ld,rl,a1,jF Z,vV l1]
   .rw[s5.keep B (by omega) (fun e=>by rcases e with e | e | e<;>first | omega | exact Y e),o.keep B (by omega) (fun x=>x),f.keep B W (fun x=>x)]
end Go.Eng.Sh
end
section
set_option maxRecDepth 20000
namespace Go.Bk
end Go.Bk
namespace Go.Eng.Sh
open Go.Bk
end Go.Eng.Sh
end
section
set_option maxRecDepth 20000
namespace Go.Eng.Sh
open Go.Nd (Ptr Str)
open Go.Bk
theorem zPU (D:Dyn)(n:Nat)(q:1000<=n){H:AH}(C:H.ok)(kind:UInt8){at_ birth:Nat}(Z:1<=at_)(Y:at_<8192)(hb:birth<=2147483647){body:Str}(hl:body.length<=500):
  ∃H',f196 D n [.int .i64 ((at_:Nat):Int), .agg (qU (sealB kind birth body))] H=some (.tuple [.agg (qZ (uC at_ birth (sealB kind birth body))), .int .i64 ((0:Nat):Int)],H')/\Prs H H':=by
 obtain⟨B,j⟩: ∃B,B=sealB kind birth body:=⟨_,rfl⟩;have h:=sealB_len (kind:=kind) (birth:=birth) hl;rw[<-j]at h;obtain⟨H1,A3,b1,m,F,m1,n1⟩:=box C (.cells (qU B) 55 1 false);obtain⟨H2,A4,b2,a,J,m2,n2⟩:=box m.ok (.cells [.int .i64 ((0:Nat):Int), .int .i64 ((0:Nat):Int), .int .u64 ((0:Nat):Int)] 42 1 false);have p:=Prs.get a m.ok F;obtain⟨H3,s,f⟩:=zGS D n q a.ok kind hb hl;rw[<-j]at s⊢;obtain⟨K,L,i⟩:=zIL D n q f.ok h;have t:=Prs.get (f.trans i) a.ok J;have u:=Prs.get f a.ok p;obtain⟨o,N,O,S,n5⟩:=y9 i.ok t (l':=qZ (uC at_ birth B)) rfl rfl;have v:stN 3 (.ptr A4 0) (.agg (qZ (uC at_ birth B))) K=some (qX,o):=N;have T:=ldR p h;have x:=ldR u h;have U:ldN 3 (.ptr A4 0) o=some (.agg (qZ (uC at_ birth B))):=kJ O rfl;have y: ¬(((0:Nat):Int)≠((0:Nat):Int)):=by omega
 have V: ¬((at_:Nat):Int)< ((1:Nat):Int):=by omega
 have W: ¬((8192:Nat):Int)<=((at_:Nat):Int):=by omega
 have z:wY [(0,1),(1,1),(2,1)] [.int .i64 ((0:Nat):Int), .int .i64 ((0:Nat):Int), .int .u64 ((0:Nat):Int)] [(0, .int .i64 ((at_:Nat):Int)),(1, .int .i64 ((birth:Nat):Int)),(2, .int .u64 ((XR B:Nat):Int))]=some (.agg (qZ (uC at_ birth B))):=rfl;have N2:=a.next;have N3:=f.next;have N4:=i.next
 refine⟨o, ?_,(((m.trans a).trans f).trans i).fresh S fun B j=>by omega⟩;simp(maxSteps:=999999)(disch:=omega) only[f196,eZ,b1,b2,T,s,qV,nth,y,V,W,x,L,z,v,U]
structure Wr (E:Ev)(H:AH)(Aw As At M Ad:Nat)(c:AV)(txg left la:Nat)(is:Nat->Nat)(root:Ptr)(es:List (AV×AV))(q:PN)(last:Nat)(dr:AV)(Z P:Nat->Prop):Prop where
 ti:TI E H At M (.ptr Ad 0) c root es q last dr
 sp:Spc H As E.nb la is
 few:E.ws.length+cnt is 0 E.nb<=990000
 gw: ∃On Nw wv ds tv ov nt tl ol,DkI H Ad E.nb E.ws On Nw wv ds/\H.h.get Aw=some (.cells [.ptr At 0, .ptr As 0, .int .i64 ((txg:Nat):Int), .int .i64 ((left:Nat):Int),tv,ov] 198 1 false)/\Own 1 3 H tv nt tl/\Own 513 202 H ov nt ol/\nt<=E.ws.length/\(∀B,Z B↔B=Aw\/B=As\/B=Ad\/B=Nw\/Blk wv B\/Blk tv B\/Blk ov B)/\ ¬Z On
 pr: ∀B,P B-> ¬Z B
 pa: ∀B,P B↔B=At\/B=M\/Blk dr B\/ ∃kv∈es,kR kv.2 B
 bd:2<=la\/la=0
 nb:64<=E.nb/\E.nb<=8192/\la<E.nb
 s0:is 0≠0/\is 1≠0
 lf:left<=1000000000
theorem Wr.lt {E:Ev}{H:AH}{Aw i At M Ad:Nat}{c:AV}{txg left j:Nat}{is:Nat->Nat}{root:Ptr}{es:List (AV×AV)}{q:PN}{h:Nat}{m:AV}{Z P:Nat->Prop}(w:Wr E H Aw i At M Ad c txg left j is root es q h m Z P): ∀B,Z B->B<H.next:=by
 obtain⟨v,x,y,z,C,F,nt,J,K,f,o,p,s,_,t,_⟩:=w.gw;have a:=w.ti.ok;intro B u;rcases(t B).1 u with rfl | rfl | rfl | rfl | e | e | e
 .exact a.lt o
 .exact w.sp.lt a
 .exact a.lt f.gD
 .exact a.lt f.gN
 .exact Own.lt f.ow e
 .exact Own.lt p e
 .exact Own.lt s e
theorem Wr.prs {E:Ev}{H H':AH}{Aw f At M Ad:Nat}{c:AV}{txg left h:Nat}{is:Nat->Nat}{root:Ptr}{es:List (AV×AV)}{q:PN}{a:Nat}{i:AV}{Z P:Nat->Prop}(w:Wr E H Aw f At M Ad c txg left h is root es q a i Z P)(s:Prs H H'):Wr E H' Aw f At M Ad c txg left h is root es q a i Z P:=by
 obtain⟨j,m,o,p,t,u,nt,v,y,z,C,F,J,K,L,N⟩:=w.gw;exact⟨w.ti.prs s,w.sp.stp w.ti.ok s fun x=>x,w.few,⟨j,m,o,p,t,u,nt,v,y,z.prs w.ti.ok s,Prs.get s w.ti.ok C,F.mono s fun _ _ x=>x,J.mono s fun _ _ x=>x,K,L,N⟩,w.pr,w.pa,w.bd,w.nb,w.s0,w.lf⟩
theorem TI.wr {E:Ev}{H H':AH}{At M Ad:Nat}{root:Ptr}{es:List (AV×AV)}{q:PN}{j:Nat}{h:AV}{Z:Nat->Prop}(a:TI E H At M (.ptr Ad 0) .nilPtr root es q j h)(s:Stp Z H H')(f: ∀B,(B=At\/B=M\/Blk h B\/ ∃kv∈es,kR kv.2 B)-> ¬Z B){ws:Ws}{o p:Nat}{t:AV}{u:List (AV×AV)}(v:DkI H' Ad E.nb ws o p t u):TI { E with ws:=ws} H' At M (.ptr Ad 0) .nilPtr root es q j h:=
 ⟨s.ok,by rw[s.keep _ (a.ok.lt a.gT) (f _ (.inl rfl))];exact a.gT,by rw[s.keep _ (a.ok.lt a.gM) (f _ (.inr (.inl rfl)))];exact a.gM,a.pq.frame fun kv m nd x=>x.stp s fun A i=>f _ (.inr (.inr (.inr ⟨kv,m,i⟩))),⟨_,_,_,_,_,rfl,v⟩, .inl rfl,a.dg.mono s fun A i=>f _ (.inr (.inr (.inl i))),a.ds,a.few⟩
end Go.Eng.Sh
end
section
set_option maxRecDepth 20000
namespace Go.Eng.Sh
open Go.Nd (Ptr Str)
open Go.Bk
theorem xG.old {H:AH} : ∀ {es:List (AV×AV)} {q:PN},xG H es q-> ∀kv∈es,∀B,kR kv.2 B->B<H.next
 | [],[],_=>fun _ h=>by simp at h
 | (k,v)::es,(s,nd)::q,h=>fun kv a B f=>by
  rcases List.mem_cons.1 a with rfl | a
  .exact h.1.2.lt f
  .exact xG.old h.2 kv a B f
 | [],_::_,h=>h.elim
 | _::_,[],h=>h.elim
theorem Wr.old {E:Ev}{H:AH}{Aw h At M Ad:Nat}{c:AV}{txg left i:Nat}{is:Nat->Nat}{root:Ptr}{es:List (AV×AV)}{q:PN}{a:Nat}{j:AV}{Z P:Nat->Prop}(w:Wr E H Aw h At M Ad c txg left i is root es q a j Z P): ∀B,P B->B<H.next:=fun B m=>by
 rcases(w.pa B).1 m with rfl | rfl | e | ⟨kv,f,e⟩
 .exact w.ti.ok.lt w.ti.gT
 .exact w.ti.ok.lt w.ti.gM
 .exact w.ti.dg.lt e
 .exact w.ti.pq.old kv f B e
theorem Spc.bk {H:AH}{A nb a:Nat}{is:Nat->Nat}(h:Spc H A nb a is): ∃c,H.h.get A=some (.cells c 145 1 false):=by
 obtain⟨c,g,_⟩:=h;exact⟨c,g⟩
theorem yC {H:AH}{A B:Nat}{o p:AObj}(h:H.h.get A=some o)(k:H.h.get B=some p)(e:o≠p):A≠B:=fun x=>by
 rw[x,k]at h;exact e (Option.some.inj h).symm
theorem zMm (m n:Nat)(hm:10000<=m)(hn:1000<=n){E:Ev}{H:AH}{Aw i At M Ad:Nat}{txg left la:Nat}{is:Nat->Nat}{root:Ptr}{es:List (AV×AV)}{q:PN}{b9:Nat}{dr:AV}{Z P:Nat->Prop}(w:Wr E H Aw i At M Ad .nilPtr txg left la is root es q b9 dr Z P)
  (kind:UInt8) {birth:Nat} (hb:birth<=2147483647) {body:Str} (hl:body.length<=500) (hf:0<cnt is 0 E.nb):
  ∃H' j Z',zKy (dy (m+2)) n [.ptr Aw 0, .agg (qU (sealB kind birth body))] H=some (.tuple [.agg (qZ (uC j birth (sealB kind birth body))), .int .i64 ((0:Nat):Int)],H')/\2<=j/\j<E.nb/\is j=0/\
   Wr { E with ws:=E.ws++[(j,sealB kind birth body)] } H' Aw i At M Ad .nilPtr txg left j (X8 is j 2) root es q b9 dr Z' P/\AdT Z H Z' H':=by
 obtain⟨b,a⟩: ∃b,b=sealB kind birth body:=⟨_,rfl⟩;have a0:=sealB_len (kind:=kind) (birth:=birth) hl;rw[<-a]at a0;obtain⟨V,z,wv,ds,K,L,nt,tl,ol,f,s,W,N,k3,hZ,hO⟩:=w.gw;have p:=w.ti.ok;obtain⟨sc,gS⟩:=w.sp.bk;obtain⟨f2,f3,f4⟩:=w.nb;have a6:Aw≠i:=fun e=>by
  obtain⟨c,g,l8,_⟩:=w.sp;rw[<-e,s]at g;simp only[zB,AObj.cells.injEq]at g;rw[<-g.1]at l8;simp at l8
 have a7:Aw≠Ad:=yC s f.gD (by simp);have a8:Aw≠z:=yC s f.gN (by simp);have a9:Aw≠V:=yC s f.gO (by simp);have b0: ¬Blk wv Aw:=fun h=>yC s (f.ow.get h) (by simp) rfl
 have f5: ¬Blk K Aw:=fun h=>yC s (Own.get W h) (by simp) rfl
 have c2: ¬Blk L Aw:=fun h=>yC s (Own.get N h) (by simp) rfl
 have c3:i≠Ad:=yC gS f.gD (by simp);have c4:i≠z:=yC gS f.gN (by simp);have c5:i≠V:=yC gS f.gO (by simp);have c6: ¬Blk wv i:=fun h=>yC gS (f.ow.get h) (by simp) rfl
 have c7: ¬Blk K i:=fun h=>yC gS (Own.get W h) (by simp) rfl
 have c8: ¬Blk L i:=fun h=>yC gS (Own.get N h) (by simp) rfl
 have f6: ¬Blk K Ad:=fun h=>yC f.gD (Own.get W h) (by simp) rfl
 have c9: ¬Blk L Ad:=fun h=>yC f.gD (Own.get N h) (by simp) rfl
 have f7: ¬Blk K z:=fun h=>yC f.gN (Own.get W h) (by simp) rfl
 have d0: ¬Blk L z:=fun h=>yC f.gN (Own.get N h) (by simp) rfl
 have f8: ¬Blk K V:=fun h=>yC f.gO (Own.get W h) (by simp) rfl
 have f9: ¬Blk L V:=fun h=>yC f.gO (Own.get N h) (by simp) rfl
 have g0: ∀B,Blk wv B-> ¬Blk K B:=fun B h k=>yC (f.ow.get h) (Own.get W k) (by simp) rfl
 have d1: ∀B,Blk wv B-> ¬Blk L B:=fun B h k=>yC (f.ow.get h) (Own.get N k) (by simp) rfl
 have g3: ∀B,Blk K B-> ¬Blk L B:=fun B h k=>yC (Own.get W h) (Own.get N k) (by simp) rfl
 have zA:Z Aw:=(hZ Aw).2 (.inl rfl);have zS:Z i:=(hZ i).2 (.inr (.inl rfl));have zD:Z Ad:=(hZ Ad).2 (.inr (.inr (.inl rfl)));have zN:Z z:=(hZ z).2 (.inr (.inr (.inr (.inl rfl))));have zw: ∀B,Blk wv B->Z B:=fun B h=>(hZ B).2 (.inr (.inr (.inr (.inr (.inl h)))))
 have zt: ∀B,Blk K B->Z B:=fun B h=>(hZ B).2 (.inr (.inr (.inr (.inr (.inr (.inl h))))))
 have zo: ∀B,Blk L B->Z B:=fun B h=>(hZ B).2 (.inr (.inr (.inr (.inr (.inr (.inr h))))))
 obtain⟨H1,A3,b1,p1,g1,m1,n1⟩:=box p (.cells (qU b) 55 1 false);obtain⟨H2,A4,b2,p2,g2,m2,n2⟩:=box p1.ok (.cells [.int .i64 ((0:Nat):Int), .int .i64 ((0:Nat):Int), .int .u64 ((0:Nat):Int)] 42 1 false);have P2:=p1.trans p2;have N1:=p1.next;have N2:=p2.next
 have zl:=w.lt;obtain⟨H3,j,e3,j2,jn,j0,g5,C⟩:=zJx m n hm (by omega) p2.ok (w.sp.stp p P2 (fun x=>x)) f4 (by omega) w.s0.1 w.s0.2 hf;have N3:=C.next
 have d2: ∀ {A:Nat} {o:AObj},H.h.get A=some o->A≠i->H3.h.get A=some o:=fun {A o} g h=>by
  rw[C.keep A (by have:=p.lt g;omega) h];exact Prs.get P2 p g
 have d3:=d2 s a6;have g7:Own 1 3 H3 K nt tl:=(W.mono P2 fun _ _ x=>x).mono C fun B a e=>c7 (e▸a)
 obtain⟨H4,A5,b4,F,g4,m4,n4⟩:=box C.ok (.cells [.int .i64 ((j:Nat):Int)] 3 1 false);have N4:=F.next
 have e1:srcOf 1 (.slice A5 0 1 2) H4=some (1,[.int .i64 ((j:Nat):Int)]):=by simp only[srcOf,g4];rfl
 have k4:=w.few;have k5:=f.few;obtain⟨H5,e5,g9,O,n5⟩:=vS (bytes:=8) (m:=1) F.ok (by decide) (g7.mono F fun _ _ x=>x) e1 rfl rfl (by omega) (by omega) (by decide);have N5:=O.next
 have h0:=Prs.get F C.ok d3;have h4:H5.h.get Aw=_:=(O.keep _ (by have:=p.lt s;omega) f5).trans h0;obtain⟨Y,e6,g6,S,n6⟩:=kK O.ok h4 (o:=4) (x:= .slice H4.next 0 (nt+1) 1) rfl (by simp)
 have N6:=S.next
 have a5: ∀ {A:Nat} {o:AObj},H.h.get A=some o->A≠i->A≠Aw-> ¬Blk K A->Y.h.get A=some o:=fun {A o} g h1 h2 h3=>by
  have:=p.lt g;rw[S.keep A (by omega) h2,O.keep A (by omega) h3];exact Prs.get F C.ok (d2 g h1)
 have h5:DkI Y Ad E.nb E.ws V z wv ds:=by
  refine⟨a5 f.gD c3.symm a7.symm f6,a5 f.gO c5.symm a9.symm f8,a5 f.gN c4.symm a8.symm f7, ?_,f.nw,f.ln,f.few,f.ne⟩;exact((((f.ow.mono P2 fun _ _ x=>x).mono C fun B a e=>c6 (e▸a)).mono F fun _ _ x=>x).mono O fun B a k=>g0 B a k).mono S fun B a e=>b0 (e▸a)
 obtain⟨H7,b3,d4,e7,h6,v,a3⟩:=zFc (dy (m+2)) n S.ok h5 jn a0 (by omega);have N7:=v.next
 have d5:Y.h.get Aw=_:=g6;have d6:H7.h.get Aw=_:=(v.keep _ (by have:=p.lt s;omega) (fun e=>by rcases e with e | e | e;exact a7 e;exact a8 e;exact b0 e)).trans d5;obtain⟨Z0,d7⟩: ∃Z0:Str,Z0=List.replicate 512 0:=⟨_,rfl⟩;have h7:rep 512 [AV.int .u8 ((0:Nat):Int)]=qU Z0:=by rw[cJ,d7]
 have h8:(qU Z0).length=512:=by rw[y5,d7];exact List.length_replicate
 have b5:(qU b).length=512:=by rw[y5,a0]
 obtain⟨q1,q2⟩:=zIM 202 (x:= .int .i64 ((j:Nat):Int)) (c:= .int .i64 ((0:Nat):Int)) h8 b5 rfl;obtain⟨H8,A6,b8,J,g8,m8,n8⟩:=box v.ok (.cells (.int .i64 ((j:Nat):Int)::qU b) 202 513 false);have N8:=J.next
 have e2:srcOf 513 (.slice A6 0 1 2) H8=some (1,wV (j,b)):=by
  have h9:xX (AV.int .i64 ((j:Nat):Int)::qU b) 0 (1*513)=some (wV (j,b)):=by
   rw[yY _ _ _ (.inr (by simp[b5])),List.drop_zero,zP (by simp[b5])];rfl
  simp only[srcOf,g8,h9]
 have i0:Own 513 202 Y L nt ol:=((((N.mono P2 fun _ _ x=>x).mono C fun B a e=>c8 (e▸a)).mono F fun _ _ x=>x).mono O fun B a k=>g3 B k a).mono S fun B a e=>c2 (e▸a)
 have i1:Own 513 202 H7 L nt ol:=i0.mono v fun B a e=>by
  rcases e with e | e | e
  .exact c9 (e▸a)
  .exact d0 (e▸a)
  .exact d1 B e a
 have i2:qW (wV (j,b))=true:=by
  have:=bytesV_cells b;simp only[wV,qW,this];rfl
 obtain⟨H9,e9,i3,T,n9⟩:=vS (bytes:=520) (m:=1) J.ok (by decide) (i1.mono J fun _ _ x=>x) e2 (by rw[zD0 a0]) i2 (by omega) (by omega) (by decide);have N9:=T.next
 have i4:H9.h.get Aw=_:=(T.keep _ (by have:=p.lt s;omega) c2).trans (Prs.get J v.ok d6);obtain⟨i5,i6,i7,u,k6⟩:=kK T.ok i4 (o:=5) (x:= .slice H8.next 0 (nt+1) 1) rfl (by simp)
 have k7:=u.next
 obtain⟨i8,d8,y⟩:=zPU (dy (m+2)) n hn u.ok kind (at_:=j) (by omega) (by omega) hb hl;rw[<-a]at d8;have k8:=y.next
 have d9: ∀ {A:Nat} {o:AObj},H2.h.get A=some o->H.next<=A->Y.h.get A=some o:=fun {A o} g h=>by
  have:=p2.ok.lt g;rw[S.keep A (by omega) (by have:=p.lt s;omega),O.keep A (by omega) (fun a=>by have:=Own.lt W a;omega),F.keep A (by omega) (fun x=>x),C.keep A (by omega) (by have:=p.lt gS;omega)];exact g
 have b6:=d9 (Prs.get p2 p1.ok g1) (by omega);have i9:=d9 g2 (by omega);have z6: ∀B,(B=Ad\/B=z\/Blk wv B)->B<H.next:=fun B a=>by
  rcases a with e | e | e
  .exact zl B (e▸zD)
  .exact zl B (e▸zN)
  .exact zl B (zw B e)
 have e0: ∀ {A:Nat} {o:AObj},Y.h.get A=some o->H.next<=A->A<H3.next->i5.h.get A=some o:=fun {A o} g h h3=>by
  rw[u.keep A (by omega) (by have:=p.lt s;omega),T.keep A (by omega) (fun a=>by have:=Own.lt N a;omega),J.keep A (by omega) (fun x=>x),v.keep A (by omega) (fun a=>by have:=z6 A a;omega)];exact g
 have c0:=e0 b6 (by omega) (by omega);have e4:=Prs.get y u.ok (e0 i9 (by omega) (by omega));obtain⟨a4,j1,j3,U,k9⟩:=y9 y.ok e4 (l':=qZ (uC j birth b)) rfl rfl;have e8:stN 3 (.ptr A4 0) (.agg (qZ (uC j birth b))) i8=some (qX,a4):=j1;have l0:=U.next
 have j4:ldN 3 (.ptr A4 0) a4=some (.agg (qZ (uC j birth b))):=kJ j3 rfl;have j5:=ldR b6 a0;have l1:H9.h.get A3=some (.cells (qU b) 55 1 false):=by
  rw[<-u.keep A3 (by omega) (by have:=p.lt s;omega)];exact c0
 have j6:H7.h.get A3=some (.cells (qU b) 55 1 false):=by
  rw[v.keep A3 (by omega) (fun a=>by have:=z6 A3 a;omega)];exact b6
 have f1:=ldR c0 a0;have j7:=ldR j6 a0;have j8:=Prs.get P2 p s;have w1:Eng.ld1 (.ptr Aw 1) H2=some (.ptr i 0):=by rw[qT j8];rfl
 have w4:Eng.ld1 (.ptr Aw 4) H3=some K:=by rw[qT d3];rfl
 have w0:Eng.ld1 (.ptr Aw 0) Y=some (.ptr At 0):=by rw[qT d5];rfl
 have w5:Eng.ld1 (.ptr Aw 5) H7=some L:=by rw[qT d6];rfl
 have b7:P At:=(w.pa At).2 (.inl rfl);have j9:Y.h.get At=_:=a5 w.ti.gT (fun e=>w.pr At b7 (e▸zS)) (fun e=>w.pr At b7 (e▸zA)) (fun e=>w.pr At b7 (zt At e));have wT:Eng.ld1 (.ptr At 0) Y=some (.ptr Ad 0):=by rw[qT j9];rfl
 have k0: ¬(((0:Nat):Int)≠((0:Nat):Int)):=by omega
 refine⟨a4,j,fun B=>B=Aw\/B=i\/B=Ad\/B=z\/Blk b3 B\/Blk (.slice H4.next 0 (nt+1) 1) B\/Blk (.slice H8.next 0 (nt+1) 1) B, ?_,j2,jn,j0, ?_, ?_⟩
 .rw[<-a];simp(maxSteps:=999999)(disch:=omega) only[zKy,eZ,b1,b2,w1,e3,qV,nth,k0,w4,zMT 3 (.int .i64 ((0:Nat):Int)) (show isCell (.int .i64 ((j:Nat):Int))=true from rfl),b4,e5,e6,w0,wT,j5,e7,w5,j7,h7,List.cons_append,List.nil_append,q1,q2,b8,e9,i6,f1,d8,e8,j4]
 ·
  have l2:=p.lt s;have l3:=p.lt gS;have c1:DkI a4 Ad E.nb (E.ws++[(j,sealB kind birth body)]) V z b3 d4:=by
   rw[<-a];have lD:=zl Ad zD;have lN:=zl z zN;have lO:=p.lt f.gO;refine((((h6.prs v.ok J).stp J.ok T c9 f9 d0 fun B hb hx=> ?_).stp T.ok u a7.symm a9.symm a8.symm fun B hb hx=> ?_).prs u.ok y).stp y.ok U (by omega) (by omega) (by omega) fun B hb hx=> ?_
   .rcases a3 B hb with x | x
    .exact d1 B x hx
    .have:=Own.lt N hx;omega
   .rcases a3 B hb with x | x
    .exact b0 (hx▸x)
    .omega
   .rcases a3 B hb with x | x
    .have:=zl B (zw B x);omega
    .omega
  have st:Stp Z H a4:=⟨U.ok,by omega,fun B a t=>by
   have a1:B≠Aw:=fun e=>t (e▸zA)
   have a2:B≠i:=fun e=>t (e▸zS)
   rw[U.keep B (by omega) (by omega),y.keep B (by omega) (fun x=>x),u.keep B (by omega) a1,T.keep B (by omega) (fun h=>t (zo B h)),J.keep B (by omega) (fun x=>x),v.keep B (by omega) (fun h=>by rcases h with e | e | e;exact t (e▸zD);exact t (e▸zN);exact t (zw B e)),S.keep B (by omega) a1,O.keep B (by omega) (fun h=>t (zt B h)),F.keep B (by omega) (fun x=>x),C.keep B (by omega) a2,P2.keep B a (fun x=>x)]⟩
  obtain⟨k1,k2⟩:=(BZ (b:=2) j0 (by omega) (n:=E.nb)).1 jn;refine⟨w.ti.wr st (fun B a=>w.pr B ((w.pa B).2 a)) c1, ?_, ?_,⟨V,z,b3,d4,_,_,nt+1,tl++[.int .i64 ((j:Nat):Int)],ol++wV (j,b),c1, ?_, ?_, ?_, ?_,fun B=>Iff.rfl, ?_⟩,fun B a hx=> ?_,w.pa, .inl j2,⟨f2,f3,jn⟩, ?_,w.lf⟩
  .refine((((((((g5.stp C.ok F fun x=>x).stp F.ok O c7).stp O.ok S a6.symm).stp S.ok v fun e=> ?_).stp v.ok J fun x=>x).stp J.ok T c8).stp T.ok u a6.symm).stp u.ok y fun x=>x).stp y.ok U (by omega);rcases e with e | e | e
   .exact c3 e
   .exact c4 e
   .exact c6 e
  .simp only[zL,qL];omega
  .rw[U.keep Aw (by omega) (by omega)];exact Prs.get y u.ok i7
  .refine((((((g9.mono S fun B hb e=> ?_).mono v fun B hb e=> ?_).mono J fun _ _ x=>x).mono T fun B hb e=> ?_).mono u fun B hb e=> ?_).mono y fun _ _ x=>x).mono U fun B hb e=> ?_
   all_goals rw[Blk.slice.1 hb]at e
   .omega
   .have:=z6 _ e;omega
   .have:=Own.lt N e;omega
   .omega
   .omega
  .refine((i3.mono u fun B hb e=> ?_).mono y fun _ _ x=>x).mono U fun B hb e=> ?_
   all_goals rw[Blk.slice.1 hb]at e;omega
  .simp only[zL,qL];omega
  .intro h;have lO:=p.lt f.gO;rcases h with e | e | e | e | e | e | e
   .exact a9 e.symm
   .exact c5 e.symm
   .exact hO (e▸zD)
   .exact f.ne e
   .rcases a3 V e with x | x
    .exact hO (zw V x)
    .omega
   .rw[Blk.slice.1 e]at lO;omega
   .rw[Blk.slice.1 e]at lO;omega
  .have lP:=w.old B a;have hn:=w.pr B a;rcases hx with e | e | e | e | e | e | e
   .exact hn (e▸zA)
   .exact hn (e▸zS)
   .exact hn (e▸zD)
   .exact hn (e▸zN)
   .rcases a3 B e with x | x
    .exact hn (zw B x)
    .omega
   .rw[Blk.slice.1 e]at lP;omega
   .rw[Blk.slice.1 e]at lP;omega
  .rw[u5 (by omega),u5 (by omega)];exact w.s0
 .refine⟨⟨U.ok,by omega,fun B a t=> ?_⟩,fun B hx=> ?_⟩
  .have a1:B≠Aw:=fun e=>t (e▸zA)
   have a2:B≠i:=fun e=>t (e▸zS)
   rw[U.keep B (by omega) (by omega),y.keep B (by omega) (fun x=>x),u.keep B (by omega) a1,T.keep B (by omega) (fun h=>t (zo B h)),J.keep B (by omega) (fun x=>x),v.keep B (by omega) (fun h=>by rcases h with e | e | e;exact t (e▸zD);exact t (e▸zN);exact t (zw B e)),S.keep B (by omega) a1,O.keep B (by omega) (fun h=>t (zt B h)),F.keep B (by omega) (fun x=>x),C.keep B (by omega) a2,P2.keep B a (fun x=>x)]
  .rcases hx with e | e | e | e | e | e | e
   .exact .inl (e▸zA)
   .exact .inl (e▸zS)
   .exact .inl (e▸zD)
   .exact .inl (e▸zN)
   .rcases a3 B e with x | x
    .exact .inl (zw B x)
    .exact .inr (by omega)
   .rw[Blk.slice.1 e];exact .inr (by omega)
   .rw[Blk.slice.1 e];exact .inr (by omega)
end Go.Eng.Sh
end
section
set_option maxRecDepth 20000
namespace Go.Eng.Sh
open Go.Nd (Ptr Str)
open Go.Bk Go.Bt
def cp (l:List Ptr):Nat:=(l.filter fun p=>decide (p.at_=1)).length
theorem zIv:cp []=0:=rfl
theorem fR (p:Ptr)(l:List Ptr):cp (p::l)=(if p.at_=1 then 1 else 0)+cp l:=by
 by_cases e:p.at_=1
 .simp[cp,e];omega
 .simp[cp,e]
theorem YC (a b:List Ptr):cp (a++b)=cp a+cp b:=by simp[cp,List.filter_append]
theorem zKE (p:Ptr)(l:List Ptr):dsk (p::l)=if p.at_=1 then dsk l else p::dsk l:=by
 by_cases e:p.at_=1<;>simp[dsk,e]
theorem WG {p:Ptr}{l:List Ptr} :p∈dsk l↔p∈l/\p.at_≠1:=by simp[dsk]
theorem Ev.K_keep {E:Ev}{f:Ws}{r:Ptr}{nd:Nd.Node}(h:E.K r=some nd)(hb:blkAt r.at_.toNat f=blkAt r.at_.toNat E.ws):Ev.K { E with ws:=f} r=some nd:=by
 obtain⟨a,birth,kind,body,rfl,i,j,m,o,p,q,s,h8⟩:=Ev.K_iff.1 h;refine Ev.K_iff.2 ⟨a,birth,kind,body,rfl,i,j,m,o,p, ?_,s,h8⟩;have e:(uC a birth (sealB kind birth body)).at_.toNat=a:=by simp[uC]
 rw[e]at hb;exact hb.trans q
structure WOut (nb:Nat)(ws ws':Ws)(is is':Nat->Nat)(T T':List Ptr):Prop where
 pm: ∃news,T'.Perm (dsk T++news)/\news.Nodup/\news.length=cp T/\ ∀r∈news,2<=r.at_/\is r.at_.toNat=0/\is' r.at_.toNat≠0
 up: ∀i,is' i=is i\/(is i=0/\is' i=2)
 ct:cnt is' 0 nb+cp T=cnt is 0 nb
 bk: ∀a,is a≠0->blkAt a ws'=blkAt a ws
 ln:ws'.length=ws.length+cp T
theorem WOut.nil (nb:Nat)(a:Ws)(is:Nat->Nat){T:List Ptr}(h: ∀r∈T,r.at_≠1):WOut nb a a is is T T:=by
 have e:dsk T=T:=List.filter_eq_self.2 fun p hp=>by simpa using h p hp
 have c:cp T=0:=by
  rw[cp,List.length_eq_zero_iff];exact List.filter_eq_nil_iff.2 fun p hp=>by simpa using h p hp
 exact⟨⟨[],by simp[e],by simp,by rw[c];rfl,by simp⟩,fun _=> .inl rfl,by omega,fun _ _=>rfl,by omega⟩
theorem WOut.nz {nb:Nat}{j i:Ws}{is f:Nat->Nat}{T m:List Ptr}(w:WOut nb j i is f T m){a:Nat}(h:is a≠0):f a≠0:=by
 rcases w.up a with e | ⟨e,_⟩<;>omega
theorem WOut.used {nb:Nat}{m j:Ws}{is a:Nat->Nat}{T f:List Ptr}(w:WOut nb m j is a T f)(h: ∀r∈T,r.at_≠1->is r.at_.toNat≠0): ∀r∈f,r.at_≠1/\a r.at_.toNat≠0:=fun r hr=>by
 obtain⟨t,p,_,_,o⟩:=w.pm;rcases List.mem_append.1 (p.mem_iff.1 hr)with e | e
 .obtain⟨q,i⟩:=WG.1 e;exact⟨i,w.nz (h r q i)⟩
 .obtain⟨u,_,s⟩:=o r e;exact⟨by omega,s⟩
theorem WOut.app {nb:Nat}{s m o:Ws}{is p q:Nat->Nat}{T t U u:List Ptr}(w:WOut nb s m is p T t)(v:WOut nb m o p q U u):WOut nb s o is q (T++U) (t++u):=by
 obtain⟨J,K,L,l1,z⟩:=w.pm;obtain⟨N,O,S,V,C⟩:=v.pm;refine⟨⟨J++N, ?_, ?_,by rw[YC,zL,l1,V],fun r hr=> ?_⟩,fun i=> ?_, ?_,fun a f=> ?_, ?_⟩
 .rw[zCN];refine(K.append O).trans ?_;rw[List.perm_iff_count];intro a;simp only[List.count_append];omega
 .refine List.nodup_append.2 ⟨L,S,fun a f b hb e=> ?_⟩;subst e;exact(z a f).2.2 (C a hb).2.1
 .rcases List.mem_append.1 hr with e | e
  .obtain⟨h,F,j⟩:=z r e;exact⟨h,F,v.nz j⟩
  .obtain⟨h,F,j⟩:=C r e;refine⟨h, ?_,j⟩;rcases w.up r.at_.toNat with x | ⟨x,y⟩
   .omega
   .exact x
 .rcases w.up i with a | ⟨a,b⟩<;>rcases v.up i with c | ⟨c,d⟩
  .exact .inl (by omega)
  .exact .inr ⟨by omega,d⟩
  .exact .inr ⟨a,by omega⟩
  .omega
 .have:=w.ct;have:=v.ct;rw[YC];omega
 .rw[v.bk a (w.nz f),w.bk a f]
 .have:=w.ln;have:=v.ln;rw[YC];omega
theorem WOut.put {nb:Nat}{q m:Ws}{is f:Nat->Nat}{S o:List Ptr}(w:WOut nb q m is f S o){s j birth:Nat}{b:Str}(y:2<=j)(jn:j<nb)(p:f j=0):WOut nb q (m++[(j,b)]) is (X8 f j 2) (pp s::S) (uC j birth b::o):=by
 have u:WOut nb m (m++[(j,b)]) f (X8 f j 2) [pp s] [uC j birth b]:=by
  obtain⟨z,C⟩:=(BZ (b:=2) p (by omega) (n:=nb)).1 jn;refine⟨⟨[uC j birth b],by simp[dsk,pp],by simp,by simp[cp,pp],fun r hr=> ?_⟩,fun i=> ?_, ?_,fun a v=> ?_,by simp[cp,pp]⟩
  .obtain rfl:r=uC j birth b:=by simpa using hr
   have:(uC j birth b).at_.toNat=j:=by simp[uC]
   rw[this,uG];exact⟨by simp[uC];omega,p,by omega⟩
  .by_cases e:i=j
   .subst e;exact .inr ⟨p,uG ..⟩
   .exact .inl (u5 e)
  .simp only[cp,pp,decide_true,List.filter_cons_of_pos,List.filter_nil,qL];omega
  .rw[QQ,if_neg (fun e:j=a=>v (by rw[<-e];exact p))]
 have h:=w.app u;refine⟨?_,h.up, ?_,h.bk, ?_⟩
 .obtain⟨t,a,b,c,d⟩:=h.pm;refine⟨t, ?_,b, ?_,d⟩
  .have x:(uC j birth ‹_› ::o).Perm (o++[uC j birth ‹_›]):=(List.perm_append_singleton _ _).symm;refine x.trans (a.trans ?_);rw[zCN,zKE];simp[dsk,pp]
  .rw[c,YC,fR];simp[pp,cp,Nat.add_comm]
 .have:=h.ct;rw[YC]at this;rw[fR];simp only[fR,zIv]at this;omega
 .have:=h.ln;rw[YC]at this;rw[fR];simp only[fR,zIv]at this;omega
def WN (h:Nat)(t:Bt.Tr h):Prop:=(∃lo hi,WF h lo hi t)\/WR h t
theorem WN.gen {h:Nat}{t:Bt.Tr h}(w:WN h t): ∃lo hi,Gen h lo hi t:=by
 rcases w with⟨lo,hi,w⟩ | w
 .exact⟨lo,hi,w.gen⟩
 .exact⟨none,none,w.gen⟩
theorem WN.sz {h:Nat}{t:Bt.Tr h}(w:WN h t):jD h t<=500:=by
 rcases w with⟨lo,hi,w⟩ | w
 .exact w.sz
 .exact w.sz
theorem WN.ne {h:Nat}{t:Bt.Tr (h+1)}(w:WN (h+1) t):t.1≠[]:=by
 rcases w with⟨lo,hi,w⟩ | w
 .exact w.2.1
 .exact w.2.1
theorem WN.kid {h:Nat}{t:Bt.Tr (h+1)}(w:WN (h+1) t){x:Bt.Tr h}(a:x∈t.2):WN h x:=by
 obtain⟨i,hi,rfl⟩:=qQ a;rcases w with⟨lo,f,w⟩ | w
 .exact .inl ⟨_,_,w.1.2.2.at (zH hi)⟩
 .exact .inl ⟨_,_,w.1.2.2.at (zH hi)⟩
end Go.Eng.Sh
end
section
set_option maxRecDepth 20000
namespace Go.Eng
theorem rowSt {H:AH}(f:H.ok){A e k i N cc:Nat}{l1 a x:List AV}{g:Bool}(h:H.h.get A=some (.cells (l1++a) e k g))(j:l1.length=i*k)(m:0<k)(v:k<=a.length)(p:x.length=k)(q:qW x=true)(hi:i<N):
  ∃H',(∀κ (z:Int),z=(i:Int)->hU k (.slice A 0 N cc) (.int κ z)=some (.ptr A (i*k)))/\stN k (.ptr A (i*k)) (.agg x) H=some (qX,H')/\H'.h.get A=some (.cells (l1++x++a.drop k) e k g)/\Stp (fun B=>B=A) H H'/\H'.next=H.next:=by
 have hb:Nat.blt i N=true:=by rw[zR];exact hi
 have o:i*k+k<=(l1++a).length:=by rw[zL];omega
 refine⟨_,fun κ z s=> ?_,JL h m p q o, ?_,(Stp.refl f).put (f.lt h) _ (.inr rfl),rfl⟩
 .subst s;simp only[hU,yK κ (show(0:Int)<=(i:Int)by omega),qA,hb,cond_true,yG,Nat.zero_add]
 .rw[AH.put_get,if_pos rfl];have t:(l1++a).take (i*k)=l1:=List.take_left' j;have u:(l1++a).drop (i*k+k)=a.drop k:=by rw[<-List.drop_drop,List.drop_left' j]
  simp only[y6,t,u]
end Go.Eng
namespace Go.Eng.Sh
open Go.Nd (Ptr Str)
open Go.Bk Go.Bt
theorem AdT.keep {Z a:Nat->Prop}{H H':AH}(h:AdT Z H a H'){A:Nat}(f:A<H.next)(i: ¬Z A):H'.h.get A=H.h.get A/\ ¬a A/\A<H'.next:=
 ⟨h.1.keep A f i,fun x=>by rcases h.2 A x with y | y;exact i y;omega,zY f h.1.next⟩
theorem Wr.box {E:Ev}{H H':AH}{Aw p At M Ad:Nat}{txg left t:Nat}{is:Nat->Nat}{root:Ptr}{es:List (AV×AV)}{q:PN}{m:Nat}{u:AV}{Z P:Nat->Prop}(w:Wr E H Aw p At M Ad .nilPtr txg left t is root es q m u Z P){A:Nat}(s:Stp (fun B=>B=A) H H')(J: ¬Z A)(hp: ¬P A){l:List AV}{e k:Nat}{g:Bool}(K:H.h.get A=some (.cells l e k g)):Wr E H' Aw p At M Ad .nilPtr txg left t is root es q m u Z P:=by
 obtain⟨i,v,x,y,L,N,nt,O,S,z,C,T,U,V,a,W⟩:=w.gw;have j:=w.ti.ok;have nz: ∀B,Z B-> ¬B=A:=fun B h e=>J (e▸h)
 have Y: ¬i=A:=fun e=>by have:=z.gO;rw[e,K]at this;cases this
 have o:DkI H' Ad E.nb E.ws i v x y:=z.stp j s (nz _ ((a _).2 (.inr (.inr (.inl rfl))))) Y (nz _ ((a _).2 (.inr (.inr (.inr (.inl rfl)))))) fun B f=>nz _ ((a _).2 (.inr (.inr (.inr (.inr (.inl f))))))
 have F:=w.ti.wr s (fun B f=>fun e=>hp (e▸(w.pa B).2 f)) o;exact⟨F,w.sp.stp j s (nz _ ((a _).2 (.inr (.inl rfl)))),w.few,⟨i,v,x,y,L,N,nt,O,S,o,by rw[s.keep _ (j.lt C) (nz _ ((a _).2 (.inl rfl)))];exact C,T.mono s fun B f=>nz _ ((a _).2 (.inr (.inr (.inr (.inr (.inr (.inl f))))))),U.mono s fun B f=>nz _ ((a _).2 (.inr (.inr (.inr (.inr (.inr (.inr f))))))),V,a,W⟩,w.pr,w.pa,w.bd,w.nb,w.s0,w.lf⟩
theorem Wr.dec {E:Ev}{H:AH}{Aw m At M Ad:Nat}{txg left y:Nat}{is:Nat->Nat}{root:Ptr}{es:List (AV×AV)}{q:PN}{u:Nat}{z:AV}{Z P:Nat->Prop}(w:Wr E H Aw m At M Ad .nilPtr txg (left+1) y is root es q u z Z P):
  ∃H',Eng.ld1 (.ptr Aw 3) H=some (.int .i64 ((left+1:Nat):Int))/\stN 1 (.ptr Aw 3) (.int .i64 ((left:Nat):Int)) H=some (qX,H')/\Eng.ld1 (.ptr Aw 3) H'=some (.int .i64 ((left:Nat):Int))/\Eng.ld1 (.ptr Aw 0) H'=some (.ptr At 0)/\Wr E H' Aw m At M Ad .nilPtr txg left y is root es q u z Z P/\AdT Z H Z H'/\H'.next=H.next:=by
 obtain⟨C,F,J,K,W,Y,nt,tl,ol,j,a,L,N,hn,O,S⟩:=w.gw;have p:=w.ti.ok;obtain⟨T,e1,s,i,n1⟩:=kK p a (o:=3) (x:= .int .i64 ((left:Nat):Int)) rfl (by simp);have t:Z Aw:=(O _).2 (.inl rfl);have V:m≠Aw:=fun e=>by
  obtain⟨c,g,U,_⟩:=w.sp;rw[e,a]at g;simp only[zB,AObj.cells.injEq]at g;rw[<-g.1]at U;simp at U
 have v:DkI T Ad E.nb E.ws C F J K:=j.stp p i (fun e=>yC a j.gD (by simp) e.symm) (fun e=>S (e▸t)) (fun e=>yC a j.gN (by simp) e.symm) fun B f e=>yC a (j.ow.get f) (by simp) e.symm
 refine⟨T,by rw[qT a];rfl,e1,by rw[qT s];rfl,by rw[qT s];rfl,⟨w.ti.wr i (fun B f e=>w.pr B ((w.pa B).2 f) (e▸t)) v,w.sp.stp p i V,w.few,⟨C,F,J,K,W,Y,nt,tl,ol,v,s,L.mono i fun B f e=>yC a (Own.get L f) (by simp) e.symm,N.mono i fun B f e=>yC a (Own.get N f) (by simp) e.symm,hn,O,S⟩,w.pr,w.pa,w.bd,w.nb,w.s0,by have:=w.lf;omega⟩,⟨i.mono fun B _ e=>e▸t,fun _ h=> .inl h⟩,n1⟩
def zLk (h:Nat):Prop:= ∀ {E:Ev} {H:AH} {Aw o At M Ad txg left x:Nat} {is:Nat->Nat} {root:Ptr} {es:List (AV×AV)} {q:PN} {i:Nat} {s:AV} {Z P:Nat->Prop} (k n:Nat) {p:Ptr} {nd:Nd.Node} {t:Bt.Tr h} {S:List Ptr},200000000+h<=k->200000000<=n->
  Wr E H Aw o At M Ad .nilPtr txg left x is root es q i s Z P->Qf E q [] p=some nd->yX (Qf E q []) h nd t S->WN h t->(∀r∈p::S,r.at_≠1->is r.at_.toNat≠0)->cp (p::S)<=left->cp (p::S)<=cnt is 0 E.nb->txg<=2147483647->
  ∃H' a u la' j f m v left',f96 (dy k) n [.ptr Aw 0, .agg (qZ p)] H=some (.tuple [.agg (qZ f), .int .i64 ((0:Nat):Int)],H')/\Wr { E with ws:=a} H' Aw o At M Ad .nilPtr txg left' la' j root es q i s u P/\AdT Z H u H'/\WOut E.nb E.ws a is j (p::S) (f::v)/\left'+cp (p::S)=left/\Ev.K { E with ws:=a} f=some m/\yX (Ev.K { E with ws:=a}) h m t v
theorem zOj {E:Ev}{q:PN}{a:Ws}{r:Ptr}{nd:Nd.Node}(h:Qf E q [] r=some nd)(hb:r.at_≠1->blkAt r.at_.toNat a=blkAt r.at_.toNat E.ws):Qf { E with ws:=a} q [] r=some nd:=by
 obtain⟨s,rfl,f⟩ | ⟨f,i⟩:=xF h
 .rw[zA9]at h⊢;exact h
 .rw[X2 f];exact Ev.K_keep i (hb fun e=>by have:=(vJ i).2;omega)
theorem wkids {h:Nat}(ih:zLk h)(k n:Nat)(hk:200000000+h<=k)(hn:200000000<=n){Aw As At M Ad txg f cc N:Nat}{root:Ptr}{es:List (AV×AV)}{q:PN}{b2:Nat}{dr kv x4 x6:AV}{P:Nat->Prop}{kids:List Ptr}(ht:txg<=2147483647)(hN:N=kids.length)(f4:N<=100000):
  ∀(v:List Ptr) (ts:List (Bt.Tr h)) (S a:List Ptr) (E:Ev) (H:AH) (Z:Nat->Prop) (left la:Nat) (is:Nat->Nat) (j:Nat) (z:List AV),Wr E H Aw As At M Ad .nilPtr txg left la is root es q b2 dr Z P->kT (Qf E q []) (yX (Qf E q []) h) v ts S->(∀x∈ts,WN h x)->(∀r∈S,r.at_≠1->is r.at_.toNat≠0)->cp S<=left->cp S<=cnt is 0 E.nb->v.length<j->
   u4 H kv kids->(∀B,Blk kv B->P B)->kids.drop a.length=v->a.length+v.length=kids.length->H.h.get f=some (.cells (a.flatMap qZ++z) 42 3 false)->z.length=v.length*3-> ¬Z f-> ¬P f->
   ∃H' W Z' la' b3 left' b4 S',yF j (BK (dy (k+1)) n) [.ptr Aw 0,x4,x6, .slice f 0 N cc,kv, .int .i64 ((N:Nat):Int), .int .i64 ((a.length:Nat):Int)] H=some (.exit 0 [.ptr Aw 0,x4,x6, .slice f 0 N cc],H')/\Wr { E with ws:=W} H' Aw As At M Ad .nilPtr txg left' la' b3 root es q b2 dr Z' P/\AdT (fun B=>Z B\/B=f) H (fun B=>Z' B\/B=f) H'/\ ¬Z' f/\WOut E.nb E.ws W is b3 S S'/\left'+cp S=left/\kT (Ev.K { E with ws:=W}) (yX (Ev.K { E with ws:=W}) h) b4 ts S'/\H'.h.get f=some (.cells ((a++b4).flatMap qZ) 42 3 false):=by
 intro v
 induction v with
 | nil=>
  intro ts S a E H Z left la is j z w O hw T b5 b6 Y a7 a0 hd hl g8 a4 a8 a6;obtain⟨j,rfl⟩: ∃m,j=m+1:=⟨j - 1,by simp at Y;omega⟩
  cases ts with
  | cons _ _=>exact O.elim
  | nil=>
   have e:S=[]:=O;subst e;have hi: ¬((a.length:Nat):Int)< ((N:Nat):Int):=by simp only[qD]at hl;omega
   have d0:z=[]:=zM (by simpa using a4);subst d0;refine⟨H,E.ws,Z,la,is,left,[],[],y7 (by simp(disch:=omega) only[BK,eZ,hi]),w,AdT.prs (Stp.refl w.ti.ok),a8,WOut.nil _ _ _ (by simp),by rw[zIv];omega,rfl,by simpa using g8⟩
 | cons p v ihp=>
  intro ts S a E H Z left la is j z w O hw T b5 b6 Y a7 a0 hd hl g8 a4 a8 a6;obtain⟨j,rfl⟩: ∃m,j=m+1:=⟨j - 1,by simp at Y;omega⟩
  cases ts with
  | nil=>exact O.elim
  | cons t ts=>
   obtain⟨nd,S1,C,hq,hr,d1,rfl⟩:=O;have b7:a.length<kids.length:=by simp at hl;omega
   have d2:kids[a.length]=p:=by
    have:=List.getElem_cons_drop b7;rw[hd]at this;simp only[List.cons.injEq]at this;exact this.1
   obtain⟨pk,q1,q2⟩:=a7.at b7;rw[d2]at q2;have a9:=w.ti.ok;have l8:=a9.lt g8;obtain⟨H1,b8,b1,p1,g1,m1,n1⟩:=box a9 (.cells [.int .i64 ((0:Nat):Int), .int .i64 ((0:Nat):Int), .int .u64 ((0:Nat):Int)] 42 1 false);obtain⟨H2,e2,g2,s2,n2⟩:=y9 p1.ok g1 (l':=qZ p) rfl rfl;have d3:stN 3 (.ptr b8 0) (.agg (qZ p)) H1=some (qX,H2):=e2;have F:Prs H H2:=p1.fresh s2 fun B u=>by omega
   have r2:ldN 3 (.ptr b8 0) H2=some (.agg (qZ p)):=kJ g2 rfl;have J:p::(S1++C)=(p::S1)++C:=rfl;rw[J,YC]at b5 b6;obtain⟨H3,y,Z3,d4,b9,s,d5,b0,c6,e3,w3,U,V,f5,d6,d7⟩:=ih k k hk (by omega) (w.prs F) hq hr (hw t (zF ..)) (fun r hr=>T r (by rw[J];exact qC _ hr)) (by omega) (by omega) ht;have N2:=F.next;have N3:=U.1.next
   have c0:=Prs.get F a9 g8;obtain⟨k8,z8,f6⟩:=U.keep (F.ok.lt c0) a8;have c1:=k8.trans c0;obtain⟨H4,d8,e4,g4,s4,n4⟩:=rowSt (cc:=cc) w3.ti.ok c1 (i:=a.length) (N:=N) (x:=qZ s) (fD a) (by omega) (by simp at a4;omega) rfl rfl (by omega);have w4:=w3.box s4 z8 a6 c1;have c2:(a++[s]).length=a.length+1:=by simp
   have c3: ∀r,r∈C-> ∀nd,Qf E q [] r=some nd->Qf { E with ws:=y} q [] r=some nd:=fun r hr nd h=>zOj h fun L=>V.bk _ (T r (by rw[J];exact qH _ hr) L)
   have d9:kT (Qf { E with ws:=y} q []) (yX (Qf { E with ws:=y} q []) h) v ts C:=d1.mono c3 fun nd t S' hS r=>r.mono fun p hp nd hh=>c3 p (hS p hp) nd hh
   have c8:u4 H4 kv kids:=by
    refine(Rw.stp (Rw.stp (a7.prs F) U.1 fun B u=> ?_) s4 fun B u e=> ?_)
    .exact w.pr B (a0 B u)
    .exact a6 (e▸a0 B u)
   obtain⟨H5,c4,Z5,e0,e6,c7,e7,S5,e5,w5,a5,z5,o5,f7,e8,g5⟩:=ihp ts C (a++[s]) { E with ws:=y} H4 Z3 c6 d4 b9 j (z.drop 3) w4 d9 (fun x hx=>hw x (zE _ hx)) (fun r hr L=>V.nz (T r (by rw[J];exact qH _ hr) L)) (by omega) (by have:=V.ct;show cp C<=cnt b9 0 E.nb;omega) (by simp at Y;omega) c8 a0 (by rw[c2,<-List.drop_drop,hd];rfl) (by simp at hl⊢;omega) (by rw[g4];simp) (by simp at a4⊢;omega) z8 a6;have o:=V.app o5;have e9:=V.used (fun r hr L=>T r (by rw[J];exact qC _ hr) L);have c5: ∀r,r∈s::b0-> ∀nd,Ev.K { E with ws:=y} r=some nd->Ev.K { E with ws:=c4} r=some nd:=fun r hr nd h=>Ev.K_keep (E:= { E with ws:=y}) h (o5.bk _ (e9 r hr).2)
   refine⟨H5,c4,Z5,e0,e6,c7,s::e7,s::b0++S5, ?_,w5, ?_,z5,o,by rw[J,YC];omega,⟨d5,b0,S5,c5 s (zF ..) _ d6,d7.mono fun r hr nd h=>c5 r (zE _ hr) nd h,e8,rfl⟩,by rw[g5];simp⟩
   .have hi:((a.length:Nat):Int)< ((N:Nat):Int):=by omega
    have f1: ¬(((0:Nat):Int)≠((0:Nat):Int)):=by omega
    have hi1:((a.length:Nat):Int)+((1:Nat):Int)=(((a++[s]).length:Nat):Int):=by rw[c2];omega
    have wi:IntKind.wrap .i64 (((a++[s]).length:Nat):Int)=(((a++[s]).length:Nat):Int):=wrap_i64 (by omega) (by omega);have c9:=d8 .i64 _ rfl;have f2:=q1 .i64 _ rfl;have f3:(dy (k+1)).fn 96 [.ptr Aw 0, .agg (qZ p)] H2=some (.tuple [.agg (qZ s), .int .i64 ((0:Nat):Int)],H3):=e3;refine(jF ?_).trans e5;simp(maxSteps:=999999)(disch:=omega) only[BK,eZ,hi,f2,q2,b1,d3,r2,f3,qV,nth,c9,e4,f1,hi1,wi]
   .have a1:AdT (fun B=>Z B\/B=f) H (fun B=>Z3 B\/B=f) H3:=by
     refine⟨(F.stp).trans (U.1.mono fun B _ h=> .inl h),fun B u=> ?_⟩;rcases u with u | u
     .rcases U.2 B u with x | x
      .exact .inl (.inl x)
      .exact .inr (by omega)
     .exact .inl (.inr u)
    have a2:AdT (fun B=>Z3 B\/B=f) H3 (fun B=>Z3 B\/B=f) H4:=⟨s4.mono fun B _ h=> .inr h,fun B h=> .inl h⟩;exact(a1.trans a2).trans a5
end Go.Eng.Sh
end
section
set_option maxRecDepth 20000
namespace Go.Eng.Sh
open Go.Nd (Ptr Str)
open Go.Bk Go.Bt
theorem zDn (z:List AV): ∀n,(rep n z).length=n*z.length
 | 0=>by simp[rep]
 | n+1=>by rw[rep,zL,zDn z n,Nat.succ_mul];omega
theorem zNe (e sz bytes:Nat)(z:List AV){n:Nat}(a:n<=1000000)(hb:bytes<=1000):zH1 e sz bytes z (.int .i64 ((n:Nat):Int)) (.int .i64 ((n:Nat):Int))=some (.cells (rep n z) e sz false,fun A=> .slice A 0 n (2*n)):=by
 have f:Nat.ble n n=true:=by rw[q9];omega
 have h:Nat.ble (n*bytes) 140737488355328=true:=by
  rw[q9]
  calc n*bytes<=1000000*1000:=Nat.mul_le_mul a hb
   _<=140737488355328:=by decide
 have i:Nat.blt n 9223372036854775808=true:=by rw[zR];omega
 show zH1 e sz bytes z (.int .i64 (.ofNat n)) (.int .i64 (.ofNat n))=_;simp only[zH1,f,h,i,Bool.and_self,cond_true]
theorem zJw (s:Str):XR s<18446744073709551616:=UM _ _ (by omega)
theorem AdT.prsR {Z a:Nat->Prop}{H f i:AH}(h:AdT Z H a f)(s:Prs f i):AdT Z H a i:=h.trans (AdT.prs s)
theorem AdT.boxR {Z a:Nat->Prop}{H f i:AH}(h:AdT Z H a f){A:Nat}(s:Stp (fun B=>B=A) f i)(o:H.next<=A):AdT Z H a i:=by
 have N:=h.1.next;have p:=s.next
 refine⟨⟨s.ok,by omega,fun B j m=> ?_⟩,h.2⟩;rw[s.keep B (by omega) (by omega),h.1.keep B j m]
theorem AdT.dropR {Z f i:Nat->Prop}{H j m:AH}(h:AdT Z H f j){A:Nat}(k:AdT (fun B=>f B\/B=A) j (fun B=>i B\/B=A) m)(p:H.next<=A):AdT Z H i m:=by
 have N:=h.1.next;have q:=k.1.next
 refine⟨⟨k.1.ok,by omega,fun B a o=> ?_⟩,fun B a=> ?_⟩
 .rw[k.1.keep B (by omega) fun x=> ?_,h.1.keep B a o];rcases x with x | x
  .rcases h.2 B x with y | y
   .exact o y
   .omega
  .omega
 .rcases k.2 B (.inl a)with(x | x) | x
  .exact h.2 B x
  .exact .inr (by omega)
  .exact .inr (by omega)
theorem zOM {h:Nat}(k n:Nat)(hk:200000000<=k)(hn:200000000<=n){E:Ev}{H:AH}{Aw As At M Ad txg left la s:Nat}{is:Nat->Nat}{root:Ptr}{es:List (AV×AV)}{q:PN}{a2:Nat}{dr:AV}{Z P:Nat->Prop}{nd:Nd.Node}{t:Bt.Tr h}{S:List Ptr}
  (w:Wr E H Aw As At M Ad .nilPtr txg (left+1) la is root es q a2 dr Z P) (hq:y8 s q=some nd) (hr:yX (Qf E q []) h nd t S) (hw:WN h t) (o2:cp S+1<=cnt is 0 E.nb) (hu: ∀r∈S,r.at_≠1->is r.at_.toNat≠0) (ht:txg<=2147483647)
  (i1: ∀(H:AH) (kv x4 x6:AV) (m:Nat) (l2:List AV),Wr E H Aw As At M Ad .nilPtr txg left la is root es q a2 dr Z P->u4 H kv nd.kids->(∀B,Blk kv B->P B)->H.h.get m=some (.cells l2 42 3 false)->l2.length=nd.kids.length*3-> ¬Z m-> ¬P m->
   ∃H' C O la' a0 left' a9 u,yF n (BK (dy k) n) [.ptr Aw 0,x4,x6, .slice m 0 nd.kids.length (2*nd.kids.length),kv, .int .i64 ((nd.kids.length:Nat):Int), .int .i64 ((0:Nat):Int)] H=some (.exit 0 [.ptr Aw 0,x4,x6, .slice m 0 nd.kids.length (2*nd.kids.length)],H')/\Wr { E with ws:=C} H' Aw As At M Ad .nilPtr txg left' la' a0 root es q a2 dr O P/\AdT (fun B=>Z B\/B=m) H (fun B=>O B\/B=m) H'/\ ¬O m/\WOut E.nb E.ws C is a0 S u/\left'+cp S=left/\a9.length=nd.kids.length/\yX (Ev.K { E with ws:=C}) h { nd with kids:=a9} t u/\H'.h.get m=some (.cells (a9.flatMap qZ) 42 3 false)):
  ∃H' C O la' a0 p' f u left',f96 (dy k) n [.ptr Aw 0, .agg (qZ (pp s))] H=some (.tuple [.agg (qZ p'), .int .i64 ((0:Nat):Int)],H')/\Wr { E with ws:=C} H' Aw As At M Ad .nilPtr txg left' la' a0 root es q a2 dr O P/\AdT Z H O H'/\WOut E.nb E.ws C is a0 (pp s::S) (p'::u)/\left'+cp (pp s::S)=left+1/\Ev.K { E with ws:=C} p'=some f/\yX (Ev.K { E with ws:=C}) h f t u:=by
 obtain⟨T,rfl⟩: ∃T,k=T+2:=⟨k - 2,by omega⟩;have j7:=w.ti.ok;have zl:=w.lt;have hP:=w.old;obtain⟨H1,A3,b1,p1,g1,m1,n1⟩:=box j7 (.cells (qZ (pp s)) 42 1 false);obtain⟨H2,A4,b2,p2,g2,m2,n2⟩:=box p1.ok (.cells [.int .i64 ((0:Nat):Int), .int .i64 ((0:Nat):Int), .int .u64 ((0:Nat):Int)] 42 1 false);have P2:=p1.trans p2;have N1:=p1.next;have N2:=p2.next
 have b0:=Prs.get p2 p1.ok g1;obtain⟨H3,d1,d2,d3,d4,w3,a3,n3⟩:=(w.prs P2).dec;have o3:=w3.lt;obtain⟨j8,o4,o5⟩:=a3.keep (p2.ok.lt b0) (fun x=>by have:=zl _ x;omega);have j9:=j8.trans b0;obtain⟨k0,o6,o7⟩:=a3.keep (p2.ok.lt g2) (fun x=>by have:=zl _ x;omega);have k1:=k0.trans g2;have r2:Eng.ld1 (.ptr A3 0) H2=some (.int .i64 ((1:Nat):Int)):=by rw[qT b0];rfl
 have r3:ldN 3 (.ptr A3 0) H3=some (.agg (qZ (pp s))):=kJ j9 rfl;obtain⟨H4,z,b4,p4,g4,m4,n4⟩:=box w3.ti.ok (.cells [.bool false, .nilSlice, .nilSlice, .nilSlice] 119 1 false);have N4:=p4.next
 obtain⟨v,H5,e5,p5,d6,kx,k3⟩:=zAI (dy (T+2)) n (w3.ti.prs p4) hq;have N5:=p5.next
 obtain⟨l,rfl,ll,lc⟩:=d6.cells;have k4:=Prs.get p5 p4.ok g4;obtain⟨H6,e6,g6,s6,n6⟩:=y9 p5.ok k4 (l':=l) ll lc;have d7:stN 4 (.ptr z 0) (.agg l) H5=some (qX,H6):=e6;have p6:Prs H3 H6:=(p4.trans p5).fresh s6 fun B i=>by omega
 have N6:=p6.next
 obtain⟨ks,vs,J,he,h1,h2,h3⟩:=id d6;simp only[AV.agg.injEq]at he;subst he;have f3:Eng.ld1 (.ptr z 3) H6=some J:=by rw[qT g6];rfl
 have d8:u4 H5 J nd.kids:=h3.row;have d9:lnSl J=some (.int .i64 ((nd.kids.length:Nat):Int)):=d8.lnSl;have k5:jD h t<=500:=hw.sz;have o9:small nd:=kY (by rw[hr.size];omega);have p0:nd.kids.length<=100:=by
  have:Nd.size nd=jD h t:=hr.size;simp only[Nd.size]at this;omega
 obtain⟨U,e0⟩: ∃U,U=rep nd.kids.length [AV.int .i64 ((0:Nat):Int), .int .i64 ((0:Nat):Int), .int .u64 ((0:Nat):Int)]:=⟨_,rfl⟩;have i4:U.length=nd.kids.length*3:=by rw[e0];exact zDn _ _
 have e1:zH1 42 3 24 [.int .i64 ((0:Nat):Int), .int .i64 ((0:Nat):Int), .int .u64 ((0:Nat):Int)] (.int .i64 ((nd.kids.length:Nat):Int)) (.int .i64 ((nd.kids.length:Nat):Int))=some (.cells U 42 3 false,fun A=> .slice A 0 nd.kids.length (2*nd.kids.length)):=by
  rw[e0];exact zNe _ _ _ _ (by omega) (by omega)
 obtain⟨V,m,b7,W,g7,m7,n7⟩:=box s6.ok (.cells U 42 3 false);have N7:=W.next
 have P7:Prs H3 V:=p6.trans W;have w7:=w3.prs P7;have b3:=Prs.get W s6.ok g6;have e2:Eng.ld1 (.ptr z 3) V=some J:=by rw[qT b3];rfl
 have bl: ∀B,kR (.agg [.bool nd.leaf,ks,vs,J]) B->P B:=fun B i=>(w.pa B).2 (.inr (.inr (.inr ⟨_,k3,i⟩)))
 have e3:Stp (fun B=>B=z) H5 V:=s6.trans W.stp;have b5: ∀B,P B-> ¬B=z:=fun B i=>by have:=hP B i;omega
 have i5:u4 V J nd.kids:=Rw.stp d8 e3 fun B i=>b5 B (bl B (jK.2 (.inr (.inr i))))
 have z8: ¬Z m:=fun x=>by have:=zl _ x;omega
 have q8: ¬P m:=fun x=>by have:=hP _ x;omega
 obtain⟨H8,N,Z8,p3,k6,i2,qs,u,e8,w8,a8,p8,o8,p9,k7,y,g8⟩:=i1 V J (.ptr A4 0) (.ptr z 0) m U w7 i5 (fun B i=>bl B (jK.2 (.inr (.inr i)))) g7 i4 z8 q8;have k8:AdT Z H Z V:=((AdT.prs P2).trans a3).prsR P7;have k9:AdT Z H Z8 H8:=k8.dropR a8 (by omega);have N8:=a8.1.next
 have zs: ∀B,H.next<=B-> ¬Z B:=fun B i x=>by have:=zl B x;omega
 obtain⟨l0,l1,q0⟩:=a8.keep (W.ok.lt b3) (fun x=>by rcases x with x | x;exact zs _ (by omega) x;omega);have e4:=l0.trans b3;have e7:=Prs.get P7 w3.ti.ok k1;obtain⟨l3,l4,q1⟩:=a8.keep (W.ok.lt e7) (fun x=>by rcases x with x | x;exact zs _ (by omega) x;omega);have f1:=l3.trans e7;obtain⟨Y,e9,g9,s9,n9⟩:=kK w8.ti.ok e4 (o:=3) (x:= .slice m 0 nd.kids.length (2*nd.kids.length)) rfl (by simp);have q6: ¬P z:=fun x=>by have:=hP _ x;omega
 have w9:=w8.box s9 (fun x=>l1 (.inl x)) q6 e4;have l5:=k9.boxR s9 (by omega);have N9:=s9.next
 have f2:Y.h.get m=some (.cells (qs.flatMap qZ) 42 3 false):=by rw[s9.keep _ (w8.ti.ok.lt g8) (by omega)];exact g8
 obtain⟨f,L⟩: ∃f,f= { nd with kids:=qs} :=⟨_,rfl⟩;have c6: ∀ {x:AV} {kk:Nat} {ll:List AV} {nn:Nat},Rw kk H5 x nn ll->(∀B,Blk x B->P B)->Rw kk Y x nn ll:=fun l6 hb=>
  Rw.stp (Rw.stp (Rw.stp l6 e3 fun B i=>b5 B (hb B i)) a8.1 fun B i x=>by
   rcases x with x | x
   .exact w.pr B (hb B i) x
   .exact q8 (x▸hb B i)) s9 fun B i=>b5 B (hb B i)
 have l7:bE Y (.agg [.bool nd.leaf,ks,vs, .slice m 0 nd.kids.length (2*nd.kids.length)]) f:=by
  refine⟨ks,vs,_,by rw[L], ?_, ?_, ?_⟩
  .rw[L];exact c6 h1.row fun B i=>bl B (jK.2 (.inl i))
  .rw[L];exact c6 h2.row fun B i=>bl B (jK.2 (.inr (.inl i)))
  .rw[L];refine⟨fD qs, .inr (.inr ⟨m,0,2*nd.kids.length,_,_,_,_,by simp only[k7],f2,w9.ti.ok.lt f2, ?_, ?_⟩)⟩
   .simp only[fD];omega
   .simp only[List.drop_zero];rw[zP (by rw[fD];omega)]
 rw[<-L]at y;obtain⟨lo,hi,i6⟩:=hw.gen;have f5:=o8.used hu;have i7: ∀r∈u,Nd.kidOk r=true:=fun r p=>by
  obtain⟨x,hx⟩:=yX.here y r p;exact(vJ hx).1
 have l8:0<h->f.keys≠[]:=fun h0=>by
  cases h with
  | zero=>omega
  | succ h=>rw[y.2.1];exact hw.ne
 have b6:Nd.shaped ltS f=true:=y.shaped i6 l8 i7;have a7:Nd.size f<=500:=by rw[y.size];exact k5
 have i8:small f:=kY (by omega);have c7: ∀r∈f.kids,r∈u:=fun r p=>by
  cases h with
  | zero=>obtain⟨e,_⟩:=y;rw[e]at p;simp[Nd.leafOf]at p
  | succ h=>exact y.2.2.2.kids r p
 have c8: ∀r∈f.kids,Nd.sumOk r:=fun r p=>by
  obtain⟨x,hx⟩:=yX.here y r (c7 r p);obtain⟨a,birth,kind,body,rfl,_⟩:=Ev.K_iff.1 hx;exact⟨by simp[uC],by have:=zJw (sealB kind birth body);simp only[uC];omega⟩
 obtain⟨l9,b8,a4⟩:=zIf (T+1) n (by omega) hn w9.ti.ok l7 i8 c8;have i3:zMb f=(Nd.encN f,0):=by simp only[zMb,b6,if_true,if_pos a7]
 rw[i3]at b8;have a5:(Nd.encN f).length<=500:=by rw[Nd.encN_length b6];exact a7
 obtain⟨kind,F⟩: ∃kind:UInt8,kind=if f.leaf then 1 else 2:=⟨_,rfl⟩
 have m0:=w9.prs a4;obtain⟨q2,a1,b9⟩:=zGe (dy (T+2)) n (by omega) a4.ok kind ht a5;obtain⟨B,i⟩: ∃B,B=sealB kind txg (Nd.encN f):=⟨_,rfl⟩;have c0:=sealB_len (kind:=kind) (birth:=txg) a5;rw[<-i]at a1 c0;obtain⟨Zb,f6⟩: ∃Zb:Str,Zb=List.replicate 512 0:=⟨_,rfl⟩;have m3:Zb.length=512:=by rw[f6];simp
 have f7:rep 512 [AV.int .u8 ((0:Nat):Int)]=qU Zb:=by rw[cJ,f6]
 obtain⟨q3,q5,f8,c1,i9,q7,q9⟩:=box b9.ok (.cells (qU Zb) 55 1 false);obtain⟨f9,g0,j1,g3⟩:=stR c1.ok i9 m3 c0;have r0:=a4.next;have r1:=b9.next;have r4:=c1.next;have r5:=g3.next
 have c2:Prs Y f9:=((a4.trans b9).trans c1).fresh g3 fun B i=>by omega
 have g5:=ldR j1 c0;have h4:=w9.prs c2;obtain⟨m5,j,h5,c3,j2,jn,j0,c4,h6⟩:=zMm T n (by omega) (by omega) h4 kind ht a5 (by have:=o8.ct;show 0<cnt k6 0 E.nb;omega);rw[<-i]at c3 c4;have c9:f9.h.get A4=_:=Prs.get c2 w9.ti.ok ((s9.keep A4 (w8.ti.ok.lt f1) (by omega)).trans f1);obtain⟨j3,j4,o1⟩:=h6.keep (h4.ti.ok.lt c9) (fun x=>l4 (.inl x));have d0:=j3.trans c9;obtain⟨a6,m6,m8,h7,r6⟩:=y9 c4.ti.ok d0 (l':=qZ (uC j txg B)) rfl rfl;have d5:stN 3 (.ptr A4 0) (.agg (qZ (uC j txg B))) m5=some (qX,a6):=m6;have q4: ¬P A4:=fun x=>by have:=hP _ x;omega
 have m9:=c4.box h7 j4 q4 d0;have h8:ldN 3 (.ptr A4 0) a6=some (.agg (qZ (uC j txg B))):=kJ m8 rfl;have aF:AdT Z H h5 a6:=((l5.prsR c2).trans h6).boxR h7 (by omega);have oF:=o8.put (s:=s) (birth:=txg) (b:=B) j2 jn j0;have n0: ∀r∈u,blkAt r.at_.toNat (N++[(j,B)])=blkAt r.at_.toNat N:=fun r p=>by
  rw[QQ,if_neg fun e:j=_=>(f5 r p).2 (by rw[<-e];exact j0)]
 have n5:yX (Ev.K { E with ws:=N++[(j,B)] }) h f t u:=y.mono fun r p r7 h2=>Ev.K_keep (E:= { E with ws:=N}) h2 (n0 r p)
 have n8:decide (kind=1)=f.leaf:=by rw[F];cases f.leaf<;>rfl
 have j5:Nd.decN ltS (decide (kind=1)) (Nd.encN f)=some f:=by
  rw[n8];exact Nd.decN_encN (by simp only[Nd.may,b6,Bool.true_and,zJ];exact a7) c8
 have o0:Ev.K { E with ws:=N++[(j,B)] } (uC j txg B)=some f:=by
  refine Ev.K_iff.2 ⟨j,txg,kind,Nd.encN f,by rw[i],j2,jn,⟨by have:=w.nb.2.1;have:j<E.nb:=jn;omega,fun r p=>(f5 r (c7 r p)).1⟩,ht,a5, ?_,by rw[F];cases f.leaf<;>simp,j5⟩;show blkAt j (N++[(j,B)])=_;rw[QQ,if_pos rfl,i]
 refine⟨a6,_,h5,j,_,uC j txg B,f,u,i2, ?_,m9,aF,oF,by rw[fR];simp only[pp,if_true];omega,o0,n5⟩;obtain⟨On,Nw,wv,ds,tv,ov,nt,r8,ol,dk,gw,_⟩:=m0.gw;have fw:Eng.ld1 (.ptr Aw 2) l9=some (.int .i64 ((txg:Nat):Int)):=by rw[qT gw];rfl
 have f0:Eng.ld1 (.ptr z 0) Y=some (.bool nd.leaf):=by rw[qT g9];rfl
 have f4:ldN 4 (.ptr z 0) Y=some (.agg [.bool nd.leaf,ks,vs, .slice m 0 nd.kids.length (2*nd.kids.length)]):=kJ g9 rfl;have j6:f.leaf=nd.leaf:=by rw[L]
 rw[j6]at F;have h9: ¬(((0:Nat):Int)≠((0:Nat):Int)):=by omega
 have i0: ¬(((1:Nat):Int)≠((1:Nat):Int)):=by omega
 have wi:((left+1:Nat):Int) - ((1:Nat):Int)=((left:Nat):Int):=by omega
 have tl: ¬((left:Nat):Int)< ((0:Nat):Int):=by omega
 have r9:=w.lf;have wl:IntKind.wrap .i64 ((left:Nat):Int)=((left:Nat):Int):=wrap_i64 (by omega) (by omega)
 cases hc:nd.leaf with
 | true=>
  rw[hc]at F f0;have c5:((kind.toNat:Nat):Int)=((1:Nat):Int):=by rw[F];rfl
  rw[c5]at a1;simp(maxSteps:=999999)(disch:=omega) only[f96,eZ,b1,b2,r2,i0,d1,wi,wl,d2,d3,tl,d4,r3,b4,e5,qV,nth,d7,h9,f3,d9,e1,b7,e2,e8,zF5,e9,f0,zF4,f4,b8,fw,a1,f7,f8,g0,g5,c3,d5,h8]
 | false=>
  rw[hc]at F f0;have c5:((kind.toNat:Nat):Int)=((2:Nat):Int):=by rw[F];rfl
  rw[c5]at a1;simp(maxSteps:=999999)(disch:=omega) only[f96,eZ,b1,b2,r2,i0,d1,wi,wl,d2,d3,tl,d4,r3,b4,e5,qV,nth,d7,h9,f3,d9,e1,b7,e2,e8,zF5,e9,f0,zF4,f4,b8,fw,a1,f7,f8,g0,g5,c3,d5,h8]
end Go.Eng.Sh
end
section
set_option maxRecDepth 20000
namespace Go.Eng.Sh
open Go.Nd (Ptr Str Kvs)
open Go.Bk Go.Bt
theorem yX.disk {E:Ev}{q:PN} : ∀ {h:Nat} {nd:Nd.Node} {t:Bt.Tr h} {S:List Ptr},yX (Qf E q []) h nd t S->(∀r∈nd.kids,r.at_≠1)->yX E.K h nd t S/\ ∀r∈S,r.at_≠1
 | 0,nd,t,S,w,_=>⟨w,by rw[w.2];simp⟩
 | h+1,nd,t,S,⟨a,b,c,w⟩,hk=>by
  have key: ∀(f:List Ptr) (ts:List (Bt.Tr h)) (S:List Ptr),kT (Qf E q []) (yX (Qf E q []) h) f ts S->(∀r∈f,r.at_≠1)->kT E.K (yX E.K h) f ts S/\ ∀r∈S,r.at_≠1:=by
   intro f
   induction f with
   | nil=>
    intro ts S w _
    cases ts with
    | nil=>have e:S=[]:=w;subst e;exact⟨rfl,by simp⟩
    | cons _ _=>exact w.elim
   | cons p f ih=>
    intro ts S w hp
    cases ts with
    | nil=>exact w.elim
    | cons t ts=>
     obtain⟨nd,x,o,y,hr,z,rfl⟩:=w;have m:=hp p (zF ..);obtain⟨s,rfl,_⟩ | ⟨_,u⟩:=xF y
     .exact absurd rfl m
     .obtain⟨_,_,_,_,_,_,_,⟨_,v⟩,_⟩:=Ev.K_iff.1 u;obtain⟨i,j⟩:=yX.disk hr v;obtain⟨C,F⟩:=ih ts o z fun r hr=>hp r (zE _ hr)
      refine⟨⟨nd,x,o,u,i,C,rfl⟩,fun r hr=> ?_⟩;rcases List.mem_cons.1 hr with rfl | hr
      .exact m
      .rcases List.mem_append.1 hr with e | e
       .exact j r e
       .exact F r e
  obtain⟨i,j⟩:=key nd.kids t.2 S w hk;exact⟨⟨a,b,c,i⟩,j⟩
theorem zOL {h:Nat}(D:Dyn)(n:Nat){E:Ev}{H:AH}{Aw C At M Ad txg left F:Nat}{is:Nat->Nat}{root:Ptr}{es:List (AV×AV)}{q:PN}{u:Nat}{J:AV}{Z P:Nat->Prop}{p:Ptr}{nd:Nd.Node}{t:Bt.Tr h}{S:List Ptr}
  (w:Wr E H Aw C At M Ad .nilPtr txg left F is root es q u J Z P) (j:E.K p=some nd) (hr:yX (Qf E q []) h nd t S):
  ∃H' a L la' x m y N left',f96 D n [.ptr Aw 0, .agg (qZ p)] H=some (.tuple [.agg (qZ m), .int .i64 ((0:Nat):Int)],H')/\Wr { E with ws:=a} H' Aw C At M Ad .nilPtr txg left' la' x root es q u J L P/\AdT Z H L H'/\WOut E.nb E.ws a is x (p::S) (m::N)/\left'+cp (p::S)=left/\Ev.K { E with ws:=a} m=some y/\yX (Ev.K { E with ws:=a}) h y t N:=by
 have W:=w.ti.ok;obtain⟨H1,O,b1,f,Y,m1,n1⟩:=box W (.cells (qZ p) 42 1 false);obtain⟨o,A4,b2,s,g2,m2,n2⟩:=box f.ok (.cells [.int .i64 ((0:Nat):Int), .int .i64 ((0:Nat):Int), .int .u64 ((0:Nat):Int)] 42 1 false);obtain⟨i,e3,g3,s3,n3⟩:=y9 s.ok g2 (l':=qZ p) rfl rfl;have U:stN 3 (.ptr A4 0) (.agg (qZ p)) o=some (qX,i):=e3;have N1:=f.next
 have T:Prs H i:=(f.trans s).fresh s3 fun B hB=>by omega
 have z:=Prs.get s f.ok Y;have r1:Eng.ld1 (.ptr O 0) o=some (.int .i64 p.at_):=by rw[qT z];rfl
 have r2:ldN 3 (.ptr O 0) o=some (.agg (qZ p)):=kJ z rfl;have r3:ldN 3 (.ptr A4 0) i=some (.agg (qZ p)):=kJ g3 rfl;have h2:=(vJ j).2;have t1:(p.at_≠((1:Nat):Int))=True:=eq_true (by omega);obtain⟨_,_,_,_,_,_,_,⟨_,V⟩,_⟩:=Ev.K_iff.1 j;obtain⟨hd,hS⟩:=yX.disk hr V;have v: ∀r∈p::S,r.at_≠1:=fun r hr=>by
  rcases List.mem_cons.1 hr with rfl | hr
  .omega
  .exact hS r hr
 have c:cp (p::S)=0:=by
  rw[cp,List.length_eq_zero_iff];exact List.filter_eq_nil_iff.2 fun p hp=>by simpa using v p hp
 refine⟨i,E.ws,Z,F,is,p,nd,S,left, ?_,w.prs T,AdT.prs T,WOut.nil _ _ _ v,by omega,j,hd⟩;simp(maxSteps:=999999)(disch:=omega) only[f96,eZ,b1,b2,r1,t1,r2,U,r3]
theorem zJn: ∀h,zLk h:=by
 intro h
 induction h with
 | zero=>
  unfold zLk;intro E H Aw As At M Ad txg left C is root es q a0 dr Z P k n p nd t S hk o w F hr i u a1 a2 v;rcases xF F with⟨s,rfl,f | ⟨_,f⟩⟩ | ⟨_,J⟩
  .simp[y8]at f
  .have hc:cp (pp s::S)=1+cp S:=by rw[fR];simp[pp]
   obtain⟨left,rfl⟩: ∃l,left=l+1:=⟨left - 1,by omega⟩;refine zOM k n (by omega) o w f hr i (by omega) (fun r hr=>u r (zE _ hr)) v fun K kv x4 x6 A8 U y O T z j L V=> ?_
   obtain⟨rfl,rfl⟩:=hr;have b1:(Nd.leafOf t).kids=[]:=rfl;have N:(Nd.leafOf t).kids.length=0:=rfl;obtain⟨n,rfl⟩: ∃m,n=m+1:=⟨n - 1,by omega⟩;refine⟨K,E.ws,Z,C,is,left,[],[], ?_,y,AdT.prs (Stp.refl y.ti.ok),L,WOut.nil _ _ _ (by simp),by simp[cp],rfl,⟨rfl,rfl⟩, ?_⟩
   .rw[N];exact y7 (by simp only[BK,eZ,qB])
   .rw[N,Nat.zero_mul]at j;rw[zM j]at z;exact z
  .exact zOL (dy k) n w J hr
 | succ h ih=>
  unfold zLk;intro E H Aw As At M Ad txg left C is root es q a0 dr Z P k n p nd t S hk o w F hr i u a1 a2 v;rcases xF F with⟨s,rfl,f | ⟨_,f⟩⟩ | ⟨_,J⟩
  .simp[y8]at f
  .have hc:cp (pp s::S)=1+cp S:=by rw[fR];simp[pp]
   obtain⟨left,rfl⟩: ∃l,left=l+1:=⟨left - 1,by omega⟩;obtain⟨k,rfl⟩: ∃k',k=k'+1:=⟨k - 1,by omega⟩;have a3:Nd.size nd<=500:=by rw[hr.size];exact i.sz
   have b2:nd.kids.length<=100:=by simp only[Nd.size]at a3;omega
   refine zOM (k+1) n (by omega) o w f hr i (by omega) (fun r hr=>u r (zE _ hr)) v fun K kv x4 x6 A8 U y O T z j L V=> ?_
   obtain⟨a,b,c,W⟩:=hr;obtain⟨H8,a4,Z8,a5,a6,Y,qs,S',e8,w8,a8,a7,o8,a9,hR,b0⟩:=wkids ih k n (by omega) o (x4:=x4) (x6:=x6) (cc:=2*nd.kids.length) v rfl (by omega) nd.kids t.2 S [] E K Z left C is n U y W (fun x hx=>i.kid hx) (fun r hr=>u r (zE _ hr)) (by omega) (by omega) (by omega) O T rfl (by simp) z j L V;exact⟨H8,a4,Z8,a5,a6,Y,qs,S',e8,w8,a8,a7,o8,a9,by rw[hR.len,W.len],⟨a,b,c,hR⟩,b0⟩
  .exact zOL (dy k) n w J hr
theorem nodup_le: ∀ {l m:List Nat},l.Nodup->(∀x∈l,x∈m)->l.length<=m.length
 | [],_,_,_=>Nat.zero_le _
 | x::l,m,h,hs=>by
  obtain⟨f,hl⟩:=List.nodup_cons.1 h;have:=nodup_le (m:=m.erase x) hl fun y a=>(List.mem_erase_of_ne fun e:y=x=>f (e▸a)).2 (hs y (zE _ a))
  have hm:=hs x (zF ..);have i:=List.length_erase_of_mem hm;have j:=List.length_pos_of_mem hm;rw[zO];omega
theorem zNZ {E:Ev}{q:PN} : ∀ {T:List Ptr},T.Nodup->(∀r∈T,∃nd,Qf E q [] r=some nd)->cp T<=q.length:=by
 intro T o i;have t:((T.filter fun p=>decide (p.at_=1)).map fun p=>p.sum.toNat).Nodup:=by
  rw[List.nodup_iff_pairwise_ne,List.pairwise_map];refine(List.nodup_iff_pairwise_ne.1 (o.filter _)).imp_of_mem fun {a b} v hb m e=>m ?_
  obtain⟨z,C⟩:=List.mem_filter.1 v;obtain⟨b1,b2⟩:=List.mem_filter.1 hb;obtain⟨x,j⟩:=i a z;obtain⟨y,F⟩:=i b b1;have J: ∃s,a=pp s:=by
   obtain⟨s,e,_⟩ | ⟨_,f⟩:=xF j
   .exact⟨s,e⟩
   .have:=(vJ f).2;simp at C;omega
  have K: ∃s,b=pp s:=by
   obtain⟨s,e,_⟩ | ⟨_,f⟩:=xF F
   .exact⟨s,e⟩
   .have:=(vJ f).2;simp at b2;omega
  obtain⟨s,rfl⟩:=J;obtain⟨u,rfl⟩:=K;have L:s=u:=by simpa[pp]using e
  rw[L]
 have N: ∀s∈(T.filter fun p=>decide (p.at_=1)).map fun p=>p.sum.toNat,s∈q.map (·.1):=fun s O=>by
  obtain⟨r,hr,rfl⟩:=List.mem_map.1 O;obtain⟨S,U⟩:=List.mem_filter.1 hr;obtain⟨x,j⟩:=i r S;obtain⟨u,rfl,h | ⟨_,h⟩⟩ | ⟨_,f⟩:=xF j
  .simp[y8]at h
  .have:(pp u).sum.toNat=u:=by simp[pp]
   rw[this];exact List.mem_map.2 ⟨_,kL h,rfl⟩
  .have:=(vJ f).2;simp at U;omega
 have V:=nodup_le t N;simpa[cp]using V
def Dsk (H:AH)(Ad f nb:Nat)(h:Ws)(a:Nat)(is:Nat->Nat)(V:Nat->Prop):Prop:= ∃m i j o,DkI H Ad nb h m i j o/\Spc H f nb a is/\(∀B,V B↔B=f\/B=Ad\/B=i\/Blk j B)/\64<=nb/\nb<=8192/\a<nb/\(2<=a\/a=0)/\(is 0≠0/\is 1≠0)/\h.length+cnt is 0 nb<=990000
theorem Dsk.prs {H H':AH}{Ad a nb f:Nat}{h:Ws}{is:Nat->Nat}{V:Nat->Prop}(d:Dsk H Ad a nb h f is V)(i:H.ok)(s:Prs H H'):Dsk H' Ad a nb h f is V:=by
 obtain⟨j,m,o,p,q,t,r⟩:=d;exact⟨j,m,o,p,q.prs i s,t.stp i s (fun x=>x),r⟩
theorem Dsk.lt {H:AH}{Ad h nb i:Nat}{j:Ws}{is:Nat->Nat}{V:Nat->Prop}(d:Dsk H Ad h nb j i is V)(a:H.ok): ∀B,V B->B<H.next:=by
 obtain⟨q,s,t,u,f,m,o,_⟩:=d;intro B p;rcases(o B).1 p with rfl | rfl | rfl | e
 .exact m.lt a
 .exact a.lt f.gD
 .exact a.lt f.gN
 .exact Own.lt f.ow e
end Go.Eng.Sh
end
section
set_option maxRecDepth 20000
namespace Go.Eng.Sh
open Go.Nd (Ptr Str Kvs)
open Go.Bk Go.Bt
theorem xG.node {H:AH} : ∀ {es:List (AV×AV)} {q:PN},xG H es q-> ∀kv∈es,∃nd,yE H kv.2 nd
 | [],[],_=>fun _ h=>by simp at h
 | (k,v)::es,(s,nd)::q,h=>fun kv a=>by
  rcases List.mem_cons.1 a with rfl | a
  .exact⟨nd,h.1.2⟩
  .exact xG.node h.2 kv a
 | [],_::_,h=>h.elim
 | _::_,[],h=>h.elim
theorem zD7 {E:Ev}{H:AH}{At M Ad C F nb s:Nat}{J:Ws}{d c f:AV}{root:Ptr}{es:List (AV×AV)}{q:PN}{is:Nat->Nat}{V:Nat->Prop}(i:TI E H At M d c root es q s f)(K:Dsk H Ad C nb J F is V): ∀B,(B=At\/B=M\/Blk f B\/ ∃kv∈es,kR kv.2 B)-> ¬V B:=by
 obtain⟨On,Nw,wv,dm,m,L,N,_⟩:=K;obtain⟨t,O,v,u,_⟩:=L;have S:=i.gT;have key: ∀(o:AObj),zQ4 o->(∀l p g,o≠ .cells l p 3 g)->o≠ .cells (jX d c root M s f) 140 1 false->o≠ .map [10] es-> ∀B,H.h.get B=some o-> ¬(B=At\/B=M\/Blk f B\/ ∃kv∈es,kR kv.2 B):=by
  intro o T U W Y B a h;rcases h with rfl | rfl | h | ⟨kv,y,h⟩
  .rw[S]at a;exact W (Option.some.inj a).symm
  .rw[i.gM]at a;exact Y (Option.some.inj a).symm
  .exact yV.nsep i.dg a (fun p g=>U _ p g) h
  .obtain⟨nd,z⟩:=i.pq.node kv y;exact z.nblk a T h
 intro B j Z;rcases(N B).1 Z with rfl | rfl | rfl | h
 .obtain⟨x,r,e⟩: ∃x r,t=x::r:=by
   cases t with
   | nil=>simp at v
   | cons x r=>exact⟨x,r,rfl⟩
  subst e;simp only[List.getElem?_cons_zero,zB]at u;subst u;exact key _ (.inl ⟨_,r,_,_,rfl,fun _ _ h=>by cases h⟩) (by simp) (by simp) (by simp) _ O j
 .exact key _ (.inl ⟨_,_,_,_,rfl,fun _ _ h=>by cases h⟩) (by simp) (by simp) (by simp) _ m.gD j
 .exact key _ (.inr (.inl ⟨_,_,rfl⟩)) (by simp) (by simp) (by simp) _ m.gN j
 .exact key _ (.inr (.inr ⟨_,_,513,_,rfl,by omega,by omega⟩)) (by simp) (by simp) (by simp) _ (m.ow.get h) j
theorem zOJ {E:Ev}{H o:AH}{Aw At M Ad p u txg left t:Nat}{s:AV}{root:Ptr}{es:List (AV×AV)}{q:PN}{is:Nat->Nat}{V:Nat->Prop}(f:TI E H At M (.ptr Ad 0) .nilPtr root es q t s)(j:Dsk H Ad p E.nb E.ws u is V)(m:Prs H o)(N:o.h.get Aw=some (.cells [.ptr At 0, .ptr p 0, .int .i64 ((txg:Nat):Int), .int .i64 ((left:Nat):Int), .nilSlice, .nilSlice] 198 1 false))(m1:H.next<=Aw)(hl:left<=1000000000):
  Wr E o Aw p At M Ad .nilPtr txg left u is root es q t s (fun B=>B=Aw\/V B) (fun B=>B=At\/B=M\/Blk s B\/ ∃kv∈es,kR kv.2 B):=by
 have i:=f.ok;have a0:=j.prs i m;have J:=zD7 f j;have a1:=j.lt i;obtain⟨v,O,S,T,a,y,z,b1,b2,U,W,Y,Z⟩:=j;have K:=a.prs i m;refine⟨f.prs m,y.stp i m fun x=>x,Z,⟨v,O,S,T, .nilSlice, .nilSlice,0,[],[],K,N,Own.nil ..,Own.nil ..,Nat.zero_le _,fun B=> ?_, ?_⟩,fun B C hx=> ?_,fun B=>Iff.rfl,W,⟨b1,b2,U⟩,Y,hl⟩
 .have hn:Blk .nilSlice B↔False:=Blk.nil;rw[z B,hn];constructor
  .rintro(h | h | h | h | h)
   .exact .inl h
   .exact .inr (.inl h)
   .exact .inr (.inr (.inl h))
   .exact .inr (.inr (.inr (.inl h)))
   .exact .inr (.inr (.inr (.inr (.inl h))))
  .rintro(h | h | h | h | h | h | h)
   .exact .inl h
   .exact .inr (.inl h)
   .exact .inr (.inr (.inl h))
   .exact .inr (.inr (.inr (.inl h)))
   .exact .inr (.inr (.inr (.inr h)))
   .exact h.elim
   .exact h.elim
 .have lO:=i.lt a.gO
  rintro(e | hv)
  .omega
  .rcases(z v).1 hv with e | e | e | e
   .obtain⟨c8,F,_⟩:=y;rw[<-e,a.gO]at F;cases F
   .have:=a.gD;rw[<-e,a.gO]at this;cases this
   .exact a.ne e
   .have:=a.ow.get e;rw[a.gO]at this;cases this
 .rcases hx with e | e
  .have hold:B<H.next:=by
    rcases C with rfl | rfl | h | ⟨kv,L,h⟩
    .exact i.lt f.gT
    .exact i.lt f.gM
    .exact f.dg.lt h
    .exact f.pq.old kv L B h
   omega
  .exact J B C e
theorem zJm (m n:Nat)(hm:400000000<=m)(hn:200000000<=n){E:Ev}{H:AH}{At M L Ad z la txg:Nat}{W V:Nat->Prop}{kv:Kvs}{T:List Ptr}{root:Ptr}{q:PN}{is:Nat->Nat}(t:bD (.ptr Ad 0) .nilPtr E H At M L W root q kv T)(ds:Dsk H Ad z E.nb E.ws la is V)(hu: ∀r∈T,r.at_≠1->is r.at_.toNat≠0)(U:1<=txg)(h2:txg<=2147483647)(d9:kv.length<=1000000000):
  ∃H',(cnt is 0 E.nb<q.length/\f43 (dy m) n [.ptr At 0, .ptr z 0, .int .i64 ((txg:Nat):Int)] H=some (.tuple [.agg [.int .i64 ((0:Nat):Int), .int .i64 ((0:Nat):Int), .int .u64 ((0:Nat):Int)], .nilSlice, .int .i64 ((3:Nat):Int)],H')/\Prs H H')\/
   (q.length<=cnt is 0 E.nb/\ ∃b7 c5 la' V' c2 T' M' W' p,f43 (dy m) n [.ptr At 0, .ptr z 0, .int .i64 ((txg:Nat):Int)] H=some (.tuple [.agg (qZ c2),p, .int .i64 ((0:Nat):Int)],H')/\bD (.ptr Ad 0) .nilPtr { E with ws:=b7,dl:=[] } H' At M' L W' c2 [] kv T'/\Dsk H' Ad z E.nb b7 la' c5 V'/\WOut E.nb E.ws b7 is c5 T T'/\AdT (fun B=>W B\/V B) H (fun B=>W' B\/V' B) H'/\Rw 3 H' p E.dl.length (E.dl.flatMap qZ)/\ ∀B,Blk p B-> ¬W' B/\ ¬V' B/\W B):=by
 obtain⟨p,es,F,hc,Y,j0,j1,e0,j2,hr,hW⟩:=t;have hk:=Y.ok;obtain⟨H1,y,b1,J,g1,m1,n1⟩:=box hk (.cells [.int .i64 ((0:Nat):Int), .int .i64 ((0:Nat):Int), .int .u64 ((0:Nat):Int)] 42 1 false);have N1:=J.next
 have b6:=Y.prs J;have c6:=QA (dy m) n b6;obtain⟨c8,gS,_⟩: ∃c,H.h.get z=some (.cells c 145 1 false)/\True:=by
  obtain⟨_,_,_,_,_,sp,_⟩:=id ds;obtain⟨c,g⟩:=sp.bk;exact⟨c,g,trivial⟩
 have e1:Spc H1 z E.nb la is:=by
  obtain⟨_,_,_,_,_,sp,_⟩:=id (ds.prs hk J);exact sp
 have c3:=zJF (dy m) n e1;have c7:Eng.ld1 (.ptr At 5) H1=some (.map M):=by rw[qT b6.gT];rfl
 have c9:aZ (.map M) H1=some (.int .i64 ((q.length:Nat):Int)):=by
  simp only[aZ,b6.gM,yG,b6.pq.len];rfl
 have t1: ¬((txg:Nat):Int)< ((1:Nat):Int):=by omega
 have t2: ¬((2147483647:Nat):Int)< ((txg:Nat):Int):=by omega
 have ck: ∀K:Rs,chk (some (.map M)) (.map M) K=K:=fun K=>j8 rfl (by simp[aveq])
 have z6:ldN 3 (.ptr y 0) H1=some (.agg [.int .i64 ((0:Nat):Int), .int .i64 ((0:Nat):Int), .int .u64 ((0:Nat):Int)]):=kJ g1 rfl;have e4:wY [(0,1),(1,1),(2,1)] [.int .i64 ((0:Nat):Int), .int .i64 ((0:Nat):Int), .int .u64 ((0:Nat):Int)] []=some (.agg [.int .i64 ((0:Nat):Int), .int .i64 ((0:Nat):Int), .int .u64 ((0:Nat):Int)]):=rfl;rcases Nat.lt_or_ge (cnt is 0 E.nb) q.length with e8 | f1
 .obtain⟨C,e2,g2,s2,n2⟩:=y9 J.ok g1 (l':=[.int .i64 ((0:Nat):Int), .int .i64 ((0:Nat):Int), .int .u64 ((0:Nat):Int)]) rfl rfl;have f2:stN 3 (.ptr y 0) (.agg [.int .i64 ((0:Nat):Int), .int .i64 ((0:Nat):Int), .int .u64 ((0:Nat):Int)]) H1=some (qX,C):=e2;have r2:ldN 3 (.ptr y 0) C=some (.agg [.int .i64 ((0:Nat):Int), .int .i64 ((0:Nat):Int), .int .u64 ((0:Nat):Int)]):=kJ g2 rfl;have tl:((cnt is 0 E.nb:Nat):Int)< ((q.length:Nat):Int):=by omega
  refine⟨C, .inl ⟨e8, ?_,J.fresh s2 fun B f=>by omega⟩⟩;simp(maxSteps:=999999)(disch:=omega) only[f43,eZ,b1,c6,cq,t1,t2,c7,c3,ck,c9,tl,e4,f2,r2]
 .have tl: ¬((cnt is 0 E.nb:Nat):Int)< ((q.length:Nat):Int):=by omega
  obtain⟨C,Aw,b2,p2,g2,m2,n2⟩:=box J.ok (.cells [.ptr At 0, .ptr z 0, .int .i64 ((txg:Nat):Int), .int .i64 ((q.length:Nat):Int), .nilSlice, .nilSlice] 198 1 false);have N2:=p2.next
  have P2:=J.trans p2;have w2:=zOJ Y ds P2 g2 (by omega) Y.few;have f3:wY [(0,1),(1,1),(2,1),(3,1),(4,1),(5,1)] [.nilPtr, .nilPtr, .int .i64 ((0:Nat):Int), .int .i64 ((0:Nat):Int), .nilSlice, .nilSlice] [(0, .ptr At 0),(1, .ptr z 0),(2, .int .i64 ((txg:Nat):Int)),(3, .int .i64 ((q.length:Nat):Int))]=some (.agg [.ptr At 0, .ptr z 0, .int .i64 ((txg:Nat):Int), .int .i64 ((q.length:Nat):Int), .nilSlice, .nilSlice]):=rfl;have f4:=w2.ti.gT;have rT:ldN 3 (.ptr At 2) C=some (.agg (qZ root)):=K8 f4 (by simp[jX]);have j3:cp T<=q.length:=by
   rcases hr with⟨_,_,rfl⟩ | ⟨h,nd,tr,S,k1,k2,k3,k4,k5,rfl⟩
   .exact Nat.zero_le _
   .refine zNZ (E:=E) k4 fun r hr=> ?_
    rcases List.mem_cons.1 hr with rfl | hr
    .exact⟨nd,k1⟩
    .exact yX.here k2 r hr
  have node: ∃Z N v a6 a5 j T3 b0,f96 (dy m) n [.ptr Aw 0, .agg (qZ root)] C=some (.tuple [.agg (qZ j), .int .i64 ((0:Nat):Int)],Z)/\Wr { E with ws:=N} Z Aw z At M Ad .nilPtr txg b0 a6 a5 root es q F p v (fun B=>B=At\/B=M\/Blk p B\/ ∃kv∈es,kR kv.2 B)/\AdT (fun B=>B=Aw\/V B) C v Z/\WOut E.nb E.ws N is a5 T T3/\cB { E with ws:=N,dl:=[] } [] j kv T3:=by
   rcases hr with⟨rfl,rfl,rfl⟩ | ⟨h,nd,tr,S,k1,k2,k3,k4,k5,rfl⟩
   .obtain⟨Z,A3,b3,p3,g3,m3,n3⟩:=box w2.ti.ok (.cells (qZ pZ) 42 1 false);obtain⟨H4,A4,b4,p4,g4,m4,n4⟩:=box p3.ok (.cells [.int .i64 ((0:Nat):Int), .int .i64 ((0:Nat):Int), .int .u64 ((0:Nat):Int)] 42 1 false);obtain⟨i,e5,g5,s5,n5⟩:=y9 p4.ok g4 (l':=qZ pZ) rfl rfl;have b9:stN 3 (.ptr A4 0) (.agg (qZ pZ)) H4=some (qX,i):=e5;have N3:=p3.next
    have P5:Prs C i:=(p3.trans p4).fresh s5 fun B f=>by omega
    have d0:=Prs.get p4 p3.ok g3;have r1:Eng.ld1 (.ptr A3 0) H4=some (.int .i64 ((0:Nat):Int)):=by rw[qT d0];rfl
    have r2:ldN 3 (.ptr A3 0) H4=some (.agg (qZ pZ)):=kJ d0 rfl;have r3:ldN 3 (.ptr A4 0) i=some (.agg (qZ pZ)):=kJ g5 rfl;have f5:(((0:Nat):Int)≠((1:Nat):Int))=True:=eq_true (by omega);refine⟨i,E.ws,_,la,is,pZ,[],q.length, ?_,w2.prs P5,AdT.prs P5,WOut.nil _ _ _ (by simp), .inl ⟨rfl,rfl,rfl⟩⟩;simp(maxSteps:=999999)(disch:=omega) only[f96,eZ,b3,b4,r1,f5,r2,b9,r3]
   .have i7:=k3.low (by rw[k5];exact d9);obtain⟨Z,N,v,a6,a5,p',f6,S',b0,e3,w3,a3,o3,l3,K3,R3⟩:=zJn h m n (by omega) hn w2 k1 k2 (.inr k3) hu (by omega) (by omega) h2;refine⟨Z,N,v,a6,a5,p',p'::S',b0,e3,w3,a3,o3, .inr ⟨h,f6,tr,S', ?_, ?_,k3, ?_,k5,rfl⟩⟩
    .have hd:=(o3.used hu p' (zF ..)).1;rw[X2 fun s e=>hd (by rw[e];rfl)];exact Ev.K_iff.2 (Ev.K_iff.1 K3)
    .refine R3.mono fun r f7 j4 f8=> ?_
     have hd:=(o3.used hu r (zE _ f7)).1;rw[X2 fun s e=>hd (by rw[e];rfl)];exact Ev.K_iff.2 (Ev.K_iff.1 f8)
    .obtain⟨i8,pm,f9,_,hn⟩:=o3.pm;rw[pm.nodup_iff];refine List.nodup_append.2 ⟨k4.filter _,f9,fun a ha b hb e=> ?_⟩;subst e;obtain⟨a1,a2⟩:=WG.1 ha;exact hu a a1 a2 (hn a hb).2.1
  obtain⟨Z,N,v,a6,a5,j,T3,b0,e3,w3,a3,o3,g0⟩:=node;have N3:=a3.1.next
  obtain⟨H4,c0,b4,p4,g4,m4,n4⟩:=box w3.ti.ok (.cells [.int .i64 ((0:Nat):Int), .int .i64 ((0:Nat):Int), .int .u64 ((0:Nat):Int)] 42 1 false);obtain⟨i,e5,g5,s5,n5⟩:=y9 p4.ok g4 (l':=qZ j) rfl rfl;have b9:stN 3 (.ptr c0 0) (.agg (qZ j)) H4=some (qX,i):=e5;have N4:=p4.next
  have P5:Prs Z i:=p4.fresh s5 fun B f=>by omega
  have u:=w3.prs P5;have h0:ldN 3 (.ptr c0 0) i=some (.agg (qZ j)):=kJ g5 rfl;have a0:=u.ti.gT;have x1:Eng.ld1 (.ptr At 1) i=some .nilPtr:=by rw[qT a0];rfl
  have x7:Eng.ld1 (.ptr At 7) i=some p:=by rw[qT a0];rfl
  have lT:=hk.lt Y.gT;have e6:=JL (o:=2) (n:=3) (x:= .agg (qZ j)) a0 (by decide) rfl rfl (by simp[jX]);have g6:(i.put At (.cells (jX (.ptr Ad 0) .nilPtr j M F p) 140 1 false)).h.get At=some (.cells (jX (.ptr Ad 0) .nilPtr j M F p) 140 1 false):=by rw[AH.put_get,if_pos rfl]
  have d1:stN 3 (.ptr At 2) (.agg (qZ j)) i=some (qX,i.put At (.cells (jX (.ptr Ad 0) .nilPtr j M F p) 140 1 false)):=e6;have a7:Stp (fun B=>B=At) i (i.put At (.cells (jX (.ptr Ad 0) .nilPtr j M F p) 140 1 false)):=(Stp.refl u.ti.ok).put (u.ti.ok.lt a0) _ (.inr rfl);generalize i.put At (.cells (jX (.ptr Ad 0) .nilPtr j M F p) 140 1 false)=H6 at d1 g6 a7;obtain⟨H7,e7,g7,s7,n7⟩:=kK a7.ok g6 (o:=7) (x:= .nilSlice) rfl (by simp[jX]);have h4:H7.h.get At=some (.cells (jX (.ptr Ad 0) .nilPtr j M F .nilSlice) 140 1 false):=g7;obtain⟨H8,M',b8,p8,g8,m8,n8⟩:=box s7.ok (.map [10] []);have h5:=Prs.get p8 s7.ok h4;obtain⟨H9,e9,g9,s9,n9⟩:=kK p8.ok h5 (o:=5) (x:= .map M') rfl (by simp[jX]);have h6:H9.h.get At=some (.cells (jX (.ptr Ad 0) .nilPtr j M' F .nilSlice) 140 1 false):=g9;have N6:=a7.next;have N7:=s7.next;have N8:=p8.next;have N9:=s9.next
  have j5:=w2.lt;have kb: ∀ {A:Nat} {o:AObj},H1.h.get A=some o->H.next<=A->A<C.next->A≠Aw->i.h.get A=some o:=fun {A o} g ha hb a8=>by
   have d2:=Prs.get p2 J.ok g;have nz: ¬(A=Aw\/V A):=fun x=>by
    rcases x with x | x
    .exact a8 x
    .have:=ds.lt hk A x;omega
   rw[P5.keep A (by omega) (fun x=>x),(a3.keep (w2.ti.ok.lt d2) nz).1];exact d2
  have a9:=kb g1 (by omega) (by omega) (by omega);have c1: ∀ {A:Nat} {o:AObj},i.h.get A=some o->A≠At->A<i.next->H9.h.get A=some o:=fun {A o} g a8 hl=>by
   rw[s9.keep A (by omega) a8,p8.keep A (by omega) (fun x=>x),s7.keep A (by omega) a8,a7.keep A hl a8];exact g
  have h7:=c1 a9 (by omega) (u.ti.ok.lt a9);have d5:=c1 g5 (by omega) (by omega);have d6:ldN 3 (.ptr c0 0) H9=some (.agg (qZ j)):=kJ d5 rfl;obtain⟨a4,h8,h9,O,j6⟩:=y9 s9.ok h7 (l':=qZ j) rfl rfl;have d7:stN 3 (.ptr y 0) (.agg (qZ j)) H9=some (qX,a4):=h8;have r6:ldN 3 (.ptr y 0) a4=some (.agg (qZ j)):=kJ h9 rfl;have j7:=O.next
  have i0: ¬(((0:Nat):Int)≠((0:Nat):Int)):=by omega
  have i1:mkM [10]=some (.map [10] [],fun A=> .map A):=rfl;obtain⟨On,Nw,wv,dm,tv,ov,nt,j9,ol,dk,gw,ot,oo,k0,hZ,hO⟩:=u.gw;have tP: ∀B,(B=At\/B=M\/Blk p B\/ ∃kv∈es,kR kv.2 B)-> ¬v B:=w3.pr;have i2: ∀B,v B-> ¬B=At:=fun B f e=>tP At (.inl rfl) (e▸f)
  have l6:y<C.next:=by omega
  have i3: ¬v y:=(a3.keep (w2.ti.ok.lt (Prs.get p2 J.ok g1)) (fun x=>by rcases x with x | x;omega;have:=ds.lt hk y x;omega)).2.1;have k6: ∀B,v B->B<i.next:=u.lt
  have i4:On≠y:=fun e=>by rw[<-e]at a9;rw[dk.gO]at a9;cases a9
  have i5:On≠At:=fun e=>by rw[<-e]at a0;rw[dk.gO]at a0;cases a0
  have lO:=u.ti.ok.lt dk.gO;have i9: ∀ {A:Nat} {o:AObj},i.h.get A=some o->A≠At->A≠y->a4.h.get A=some o:=fun {A o} g U h2=>by
   have:=u.ti.ok.lt g;rw[O.keep A (by omega) h2];exact c1 g U this
  have zI: ∀ {B},v B->B≠At/\B≠y:=fun {B} f=>⟨i2 B f,fun e=>i3 (e▸f)⟩
  have b5:Stp (fun B=>B=At\/B=y) i a4:=⟨O.ok,by omega,fun A hA hS=>by
   have U:A≠At:=fun e=>hS (.inl e)
   have h2:A≠y:=fun e=>hS (.inr e)
   rw[O.keep A (by omega) h2,s9.keep A (by omega) U,p8.keep A (by omega) (fun x=>x),s7.keep A (by omega) U,a7.keep A hA U]⟩
  have nI: ∀ {B},v B-> ¬(B=At\/B=y):=fun {B} f x=>by rcases x with x | x;exact(zI f).1 x;exact(zI f).2 x
  have zS:v z:=(hZ _).2 (.inr (.inl rfl));have zD:v Ad:=(hZ _).2 (.inr (.inr (.inl rfl)));have zN:v Nw:=(hZ _).2 (.inr (.inr (.inr (.inl rfl))));have zw: ∀B,Blk wv B->v B:=fun B f=>(hZ _).2 (.inr (.inr (.inr (.inr (.inl f)))))
  have c4:DkI a4 Ad E.nb N On Nw wv dm:=dk.stp u.ti.ok b5 (nI zD) (fun x=>by rcases x with x | x;exact i5 x;exact i4 x) (nI zN) fun B f=>nI (zw B f)
  have i6: ∀B,Blk p B->B=At\/B=M\/Blk p B\/ ∃kv∈es,kR kv.2 B:=fun B f=> .inr (.inr (.inl f))
  have d3: ∀B,Blk p B->B≠At:=fun B f e=>by
   subst e;exact yV.nsep Y.dg Y.gT (fun e' g=>by simp) f
  have d4: ∀B,Blk p B->B<H.next:=fun B f=>Y.dg.lt f
  have d8:Rw 3 a4 p E.dl.length (E.dl.flatMap qZ):=by
   refine Rw.stp (u.ti.dg.row) b5 fun B f x=> ?_
   rcases x with x | x
   .exact d3 B f x
   .have:=d4 B f;omega
  refine⟨a4, .inr ⟨f1,N,a5,a6,fun B=>B=z\/B=Ad\/B=Nw\/Blk wv B,j,T3,M',fun B=>B=At\/B=M'\/Blk .nilSlice B,p, ?_,⟨.nilSlice,[],F,rfl,⟨O.ok, ?_, ?_,trivial,⟨_,_,_,_,_,rfl,c4⟩, .inl rfl, .inl (Own.nil ..),by simp,by simp⟩,by simp[y8],by simp,e0,by simp,g0,fun B=>Iff.rfl⟩,⟨On,Nw,wv,dm,c4,u.sp.stp u.ti.ok b5 (nI zS),fun B=>Iff.rfl,u.nb.1,u.nb.2.1,u.nb.2.2,u.bd,u.s0,u.few⟩,o3,⟨⟨O.ok,by omega,fun B f hS=> ?_⟩,fun B f=> ?_⟩,d8,fun B f=>⟨?_, ?_,(hW B).2 (.inr (.inr f))⟩⟩⟩
  .simp(maxSteps:=999999)(disch:=omega) only[f43,eZ,b1,c6,cq,t1,t2,c7,c3,ck,c9,tl,f3,b2,rT,e3,qV,nth,b4,b9,i0,x1,zHK,x7,h0,d1,e7,i1,b8,e9,d6,d7,r6]
  .rw[O.keep _ (by omega) (by omega)];exact h6
  .rw[O.keep _ (by omega) (by omega),s9.keep _ (by omega) (by omega)];exact g8
  .have U:B≠At:=fun e=>hS (.inl ((hW B).2 (.inl e)))
   have hv: ¬V B:=fun x=>hS (.inr x)
   rw[b5.keep B (by omega) (fun x=>by rcases x with x | x;exact U x;omega),P5.keep B (by omega) (fun x=>x),(a3.keep (A:=B) (by omega) (fun x=>by rcases x with x | x;omega;exact hv x)).1,P2.keep B f (fun x=>x)]
  .have old: ∀B,v B->V B\/H.next<=B:=fun B f=>by
    rcases a3.2 B f with(x | x) | x
    .exact .inr (by omega)
    .exact .inl x
    .exact .inr (by omega)
   rcases f with(e | e | e) | (e | e | e | e)
   .exact .inl (.inl ((hW B).2 (.inl e)))
   .exact .inr (by omega)
   .exact(Blk.nil.1 e).elim
   .rcases old B (e▸zS)with x | x
    .exact .inl (.inr x)
    .exact .inr x
   .rcases old B (e▸zD)with x | x
    .exact .inl (.inr x)
    .exact .inr x
   .rcases old B (e▸zN)with x | x
    .exact .inl (.inr x)
    .exact .inr x
   .rcases old B (zw B e)with x | x
    .exact .inl (.inr x)
    .exact .inr x
  .have:=d4 B f
   rintro(e | e | e)
   .exact d3 B f e
   .omega
   .exact Blk.nil.1 e
  .have h3:=tP B (i6 B f)
   rintro(e | e | e | e)
   .exact h3 (e▸zS)
   .exact h3 (e▸zD)
   .exact h3 (e▸zN)
   .exact h3 (zw B e)
end Go.Eng.Sh
end
section
namespace Go.Eng
open Go.Nd (Kvs Srt)
end Go.Eng
namespace Go.Eng.Sh
open Go.Nd (Ptr sumL leafOf Kvs Srt mayK putP delP lookP)
open Go.Bt
def prV (p:Str×Str):List AV:=[S p.1,S p.2]
def zAe (H:AH)(v:AV)(l:Kvs):Prop:=Rw 2 H v l.length (l.flatMap prV)
theorem zDQ: ∀(l:Kvs) (i:Nat) (h:i<l.length),((l.flatMap prV).drop (i*2)).take 2=prV l[i]
 | p::l,0,_=>rfl
 | p::l,i+1,h=>by
  rw[zW,show(i+1)*2=2+i*2 by omega,<-List.drop_drop];exact zDQ l i (by simpa using h)
theorem zAe.at {H:AH}{v:AV}{l:Kvs}(h:zAe H v l){i:Nat}(hi:i<l.length): ∃A o,(∀κ (z:Int),z=(i:Int)->hU 2 v (.int κ z)=some (.ptr A o))/\Eng.ldN 2 (.ptr A o) H=some (.agg (prV l[i]))/\Eng.ld1 (.ptr A o) H=some (S l[i].1)/\Eng.ld1 (.ptr A (o+1)) H=some (S l[i].2):=by
 obtain⟨A,o,c,e,sz,g,j,f,s,m,a⟩:=Rw.at h hi;rw[zDQ l i hi]at a;have p:c[o]? =some (S l[i].1):=by
  have:=congrArg (fun x=>x[0]?) a;simpa[prV]using this
 have q:c[o+1]? =some (S l[i].2):=by
  have:=congrArg (fun x=>x[1]?) a;simpa[prV]using this
 exact⟨A,o,j,by rw[K8 f m,a],kV f p,kV f q⟩
def behind (kv:Kvs):Nat->Str
 | 0=>[]
 | i+1=>(kv.getD i ([],[])).1++[0]
theorem look_not {k:Str}{l:Kvs}(h:lookP k l=none): ∀p∈l,p.1≠k:=by
 induction l with
 | nil=>simp
 | cons q l ih=>
  obtain⟨a,b⟩:=q;simp only[lookP]at h;split at h
  .cases h
  .rename_i e;intro p hp;rcases List.mem_cons.1 hp with rfl | hp
   .exact e
   .exact ih h p hp
theorem srt_ext: ∀ {l m:Kvs},Srt l->Srt m->(∀k,lookP k l=lookP k m)->l=m
 | [],[],_,_,_=>rfl
 | [],(a,b)::m,_,_,h=>by have:=h a;simp[lookP]at this
 | (a,b)::l,[],_,_,h=>by have:=h a;simp[lookP]at this
 | (a,b)::l,(c,d)::m,hl,hm,h=>by
  have key: ∀ {a c:Str} {b d:Str} {l m:Kvs},Srt ((a,b)::l)->Srt ((c,d)::m)->(∀k,lookP k ((a,b)::l)=lookP k ((c,d)::m))->ltS a c=true->False:=fun {a c b d l m} hl hm h j=>by
   have f:=h a;have o:c≠a:=fun e=>(bH j) e.symm
   simp only[lookP,if_true,if_neg o]at f;have:lookP a m=none:=Nd.look_none fun p hp e=>by
    have:=yS j (hm.1 p hp);rw[e,yW]at this;cases this
   rw[this]at f;cases f
  have e:a=c:=uV (by
   cases i:ltS a c with
   | false=>rfl
   | true=>exact(key hl hm h i).elim) (by
   cases i:ltS c a with
   | false=>rfl
   | true=>exact(key hm hl (fun k=>(h k).symm) i).elim)
  subst e;have hb:=h a;simp only[lookP,if_true,zB]at hb;subst hb;rw[srt_ext hl.2 hm.2 fun k=>by
   have:=h k;simp only[lookP]at this;by_cases e:a=k
   .subst e;have q:lookP a l=none:=Nd.look_none fun p hp e=>by
     have:=hl.1 p hp;rw[e,yW]at this;cases this
    have s:lookP a m=none:=Nd.look_none fun p hp e=>by
     have:=hm.1 p hp;rw[e,yW]at this;cases this
    rw[q,s]
   .rwa[if_neg e,if_neg e]at this]
end Go.Eng.Sh
end
section
namespace Go.Eng
theorem yV.stk {k e n:Nat}{H:AH}{v:AV}{l:List AV}(h:yV k e H v n l): ∃f,Stk k f H v n l:=by
 rcases h with⟨a,⟨rfl,rfl⟩ | ⟨A,rfl,i,j⟩⟩ | ⟨a,A,f,g,rfl,i,j,m⟩
 .exact⟨e,a, .inl ⟨rfl,rfl⟩⟩
 .exact⟨e,a, .inr ⟨A,1,l,true,n,rfl,i,j,a,Nat.le_refl _,zP (by omega), .inr ⟨rfl,rfl⟩⟩⟩
 .exact⟨f,a, .inr ⟨A,2*n,l,g,n,rfl,i,j,a,Nat.le_refl _,zP (by omega), .inl rfl⟩⟩
theorem yV.hi {k e n i:Nat}{H:AH}{v:AV}{l:List AV}(h:yV k e H v n l)(a:0<k)(hi:i<=n): ∃r,wR k v none (some (.int .i64 (i:Nat))) none H=some r/\Rw k H r i (l.take (i*k)):=by
 obtain⟨o,f⟩:=h.stk;obtain⟨r,j,m,_⟩:=f.cut a hi .i64;exact⟨r,j,m.row⟩
end Go.Eng
namespace Go.Eng.Sh
open Go.Nd (Ptr sumL leafOf Kvs Srt mayK putP delP lookP)
open Go.Bt
theorem QG: ∀(l:Kvs) (i:Nat),(l.flatMap prV).take (i*2)=(l.take i).flatMap prV
 | [],i=>by simp
 | p::l,0=>by simp
 | p::l,i+1=>by
  rw[zW,List.take_succ_cons,zW,<-QG l i,show(i+1)*2=2+i*2 by omega,List.take_append,show(prV p).length=2 from rfl,zP (show(prV p).length<=2+i*2 by show 2<=_;omega),show 2+i*2 - 2=i*2 by omega]
theorem VC: ∀(l:Kvs) (i:Nat),(l.flatMap prV).drop (i*2)=(l.drop i).flatMap prV
 | [],i=>by simp
 | p::l,0=>by simp
 | p::l,i+1=>by
  rw[zW,List.drop_succ_cons,<-VC l i,show(i+1)*2=2+i*2 by omega,<-List.drop_drop];rfl
theorem KH (l:Kvs):qW (l.flatMap prV)=true:=by
 rw[jC];intro x a;obtain⟨p,_,a⟩:=List.mem_flatMap.1 a;simp only[prV,List.mem_cons,List.not_mem_nil,or_false]at a;rcases a with rfl | rfl<;>rfl
def PrG (H:AH)(v:AV)(l:Kvs):Prop:=yV 2 48 H v l.length (l.flatMap prV)/\(l=[]->v= .nilSlice)
theorem PrG.prs {H H':AH}{v:AV}{l:Kvs}(h:PrG H v l)(s:Prs H H'):PrG H' v l:=⟨h.1.mono s (fun _ _ x=>x),h.2⟩
theorem PrG.row {H:AH}{v:AV}{l:Kvs}(h:PrG H v l):zAe H v l:=h.1.row
theorem lo2 {H:AH}{v:AV}{l:Kvs}(h:PrG H v l){i:Nat}(hi:i<=l.length): ∃r,wR 2 v (some (.int .i64 (i:Nat))) none none H=some r/\zAe H r (l.drop i):=by
 by_cases f:i<l.length
 .obtain⟨r,a,w,_⟩:=Q1 h.1 (by decide) f .i64;rw[VC]at w;exact⟨r,a,by rw[zAe,zV];exact w⟩
 .obtain rfl:i=l.length:=by omega
  by_cases j:0<l.length
  .obtain⟨r,a,w⟩:=YT h.1 (by decide) j .i64;exact⟨r,a,by rw[List.drop_length];exact w⟩
  .have hl:l=[]:=zM (by omega);have m:=h.2 hl;subst hl;subst m;exact⟨.nilSlice,rfl,Rw.nil _ _⟩
theorem zPw {H:AH}{v:AV}{l:Kvs}(hk:H.ok)(h:PrG H v l){j:Nat}(hj:j<=l.length)(hl:l.length<=100000000)(a x:Str):
  ∃i A1 F f t q A2 u y o J z,(∀(C:Nat->AV) (K:AV->AH->Rs),bA (some (.cells [] 48 2 false,C)) H K=K (C A1) i)/\wR 2 v none (some (.int .i64 (j:Nat))) none i=some F/\wR 2 v (some (.int .i64 (j:Nat))) none none i=some f/\
   apP 48 2 32 (.slice A1 0 0 0) F i=some (t,q)/\wR 2 v (some (.int .i64 (j:Nat))) none none q=some f/\aveq f f=true/\(∀(C:Nat->AV) (K:AV->AH->Rs),bA (some (.cells [S a,S x] 48 2 false,C)) q K=K (C A2) u)/\
   apP 48 2 32 t (.slice A2 0 1 2) u=some (y,o)/\wR 2 v (some (.int .i64 (j:Nat))) none none o=some f/\apP 48 2 32 y f o=some (J,z)/\Prs H i/\Prs H q/\Prs H z/\PrG z J (l.take j++(a,x)::l.drop j):=by
 obtain⟨i,A1,b1,s,g1,m1,n1⟩:=box hk (.cells [] 48 2 false);have O:=h.prs s;obtain⟨F,c1,q1⟩:=O.1.hi (by decide) hj;obtain⟨f,c2,q2⟩:=lo2 O hj;rw[QG]at q1;have G1:yV 2 48 i (.slice A1 0 0 0) 0 []:= .inr ⟨rfl,A1,48,false,rfl,n1,g1,rfl⟩;obtain⟨t,q,e2,G2,T,f2⟩:=G1.app (bytes:=32) s.ok (by decide) q1.srcOf q1.len (KH _) (by omega) (by decide);have N1:=s.next;have N2:=T.next
 have U:Prs H q:=s.fresh T (fun B p=>by rw[Blk.slice.1 p];exact m1);have h2:=h.prs U;obtain⟨u,A2,b3,L,g3,m3,n3⟩:=box T.ok (.cells [S a,S x] 48 2 false);have a1:srcOf 2 (.slice A2 0 1 2) u=some (1,[S a,S x]):=by simp only[srcOf,g3];rfl
 obtain⟨y,o,e4,G4,N,f4⟩:=(G2.mono L (fun _ _ x=>x)).app (bytes:=32) (m:=1) (new:=[S a,S x]) L.ok (by decide) a1 rfl rfl (by omega) (by decide);have N3:=L.next;have N4:=N.next
 have Z: ∀B,Blk t B->H.next<=B:=fun B p=>by
  rcases f2 B p with e | e
  .rw[Blk.slice.1 e];exact m1
  .omega
 have V:Prs H o:=(U.trans L).fresh N Z;have h4:=h.prs V;have a0:zAe o f (l.drop j):=by
  have a3:Stp (fun B=>H.next<=B) i o:=⟨N.ok,by omega,fun B p hS=>by
   rw[V.keep B (by omega) (fun x=>x),s.keep B (by omega) (fun x=>x)]⟩
  exact Rw.stp q2 a3 (fun B p a6=>by
   have:=h.1.lt (UP c2 B p);omega)
 obtain⟨J,z,e5,W,s5,f5⟩:=G4.app (bytes:=32) N.ok (by decide) a0.srcOf a0.len (KH _) (by simp;omega) (by decide);have a4: ∀B,Blk y B->H.next<=B:=fun B p=>by
  rcases f4 B p with e | e
  .exact Z B e
  .omega
 have Y: ∀ {H':AH},PrG H' v l->wR 2 v (some (.int .i64 (j:Nat))) none none H'=some f:=fun {H'} h'=>by
  rw[vC O.1 h'.1 (by decide)];exact c2
 refine⟨i,A1,F,f,t,q,A2,u,y,o,J,z,b1,c1,c2,e2,Y h2,yL q2,b3,e4,Y h4,e5,s,U,V.fresh s5 a4, ?_,fun e=>by simp at e⟩;have a2:0+j+1+(l.drop j).length=(l.take j++(a,x)::l.drop j).length:=by
  simp only[zL,zQ,zO,zV];omega
 rw[a2]at W;have a5:[]++(l.take j).flatMap prV++[S a,S x]++(l.drop j).flatMap prV=(l.take j++(a,x)::l.drop j).flatMap prV:=by
  simp[prV]
 rw[a5]at W;exact W
theorem here_split {k:Str}{l:Kvs}(f:Srt l):(lookP k l=none-> ∀h:Nd.whereN (leafOf l) k<l.length,l[Nd.whereN (leafOf l) k].1≠k)/\(∀v,lookP k l=some v-> ∃h:Nd.whereN (leafOf l) k<l.length,l[Nd.whereN (leafOf l) k].1=k):=by
 have h:=Nd.here_look k f;have m:(leafOf l).keys.length=l.length:=qM ..;constructor
 .intro i a e;exact look_not i _ (qE a) e
 .intro v j;rw[j]at h;simp only[Nd.hereN,qS,zC,zJ]at h;have a:Nd.whereN (leafOf l) k<l.length:=by omega
  refine⟨a, ?_⟩;have:=h.2;rw[zT,zH h.1,Option.getD_some]at this;have e:(leafOf l).keys[Nd.whereN (leafOf l) k]'h.1=(l[Nd.whereN (leafOf l) k]'a).1:=List.getElem_map ..;exact e.symm.trans this
theorem zG2 {l:Kvs}(a:Srt l){w:Nat}(h:w<l.length){k:Str}(f:l[w].1=k):l=l.take w++[l[w]]++l.drop (w+1)/\(∀p∈l.take w,ltS p.1 k=true)/\ ∀p∈l.drop (w+1),ltS k p.1=true:=by
 have e:l=l.take w++[l[w]]++l.drop (w+1):=zDg (zH h);rw[e]at a;obtain⟨i,o,j⟩:=cI.1 a;obtain⟨q,s,m⟩:=cI.1 i;refine⟨e,fun p hp=> ?_,fun p hp=> ?_⟩
 .have:=m p hp l[w] (by simp);rw[f]at this;exact this
 .have:=j l[w] (qH _ (List.mem_singleton.2 rfl)) p hp;rw[f]at this;exact this
theorem del_at {l:Kvs}(f:Srt l){w:Nat}(h:w<l.length){k:Str}(a:l[w].1=k):delP k l=l.take w++l.drop (w+1):=by
 obtain⟨e,i,j⟩:=zG2 f h a
 conv=>lhs;rw[e]
 rw[zIn i j];have:delP k [l[w]]=[]:=by
  have m:l[w]=(k,l[w].2):=by rw[<-a]
  rw[m];simp[delP]
 rw[this];simp
def GrP (H:AH)(v:AV)(l:Kvs):Prop:=yV 2 48 H v l.length (l.flatMap prV)
theorem GrP.prs {H H':AH}{v:AV}{l:Kvs}(h:GrP H v l)(s:Prs H H'):GrP H' v l:=h.mono s (fun _ _ x=>x)
theorem GrP.row {H:AH}{v:AV}{l:Kvs}(h:GrP H v l):zAe H v l:=yV.row h
theorem GrP.hi {H:AH}{v:AV}{l:Kvs}(h:GrP H v l){i:Nat}(hi:i<=l.length): ∃r,wR 2 v none (some (.int .i64 (i:Nat))) none H=some r/\Rw 2 H r i ((l.flatMap prV).take (i*2)):=yV.hi h (by decide) hi
end Go.Eng.Sh
end
section
namespace Go.Eng
theorem zBE {w:World}{base n:Nat}{a:Addr}{cs:List Value}(h:w.cells? base a n=some cs)(v:0<n):a.spot=none/\ ∃arr e m,w.heap[a.block]? =some (.cells arr e m)/\ ∀j,j<n->arr[a.off+j]? =cs[j]? :=by
 obtain⟨_,hl,t⟩:=World.cells?_some h;have u:=t 0 v;rw[zH (by omega)]at u;obtain⟨c1,arr,x,m,p,_⟩:=zBF u;have q:a.spot=none:=by simpa[Addr.add]using c1
 obtain⟨b,o,F⟩:=a;simp only at q;subst q;have hb:(Addr.add ⟨b,o,none⟩ 0).block=b:=by simp[Addr.add]
 rw[hb]at p;refine⟨rfl,arr,x,m,p,fun j y=> ?_⟩;have s:=t j y;rw[zH (by omega)]at s⊢;obtain⟨_,arr',z,C,f,i⟩:=zBF s;rw[jT]at f i;simp only at f i;rw[p]at f;simp only[zB,Obj.cells.injEq]at f;rw[<-f.1]at i;exact i
theorem zCr {α β:Type}{k:Nat}{g:α->List β}(a: ∀s,(g s).length=k): ∀l:List α,(l.flatMap g).length=l.length*k
 | []=>by simp
 | s::l=>by rw[zW,zL,zCr a l,a,zO,Nat.succ_mul,Nat.add_comm]
theorem zHs {α β:Type}{k:Nat}{g:α->List β}(a: ∀s,(g s).length=k): ∀(l:List α) (i j:Nat) (hi:i<l.length),j<k->(l.flatMap g)[i*k+j]? =(g l[i])[j]?
 | s::l,0,j,_,hj=>by
  rw[zW,Nat.zero_mul,Nat.zero_add,qG (by rw[a];exact hj)];rfl
 | s::l,i+1,j,h,hj=>by
  have f:=zHs a l i j (by simpa using h) hj;rw[zW,qK (by rw[a,Nat.succ_mul];omega)];have:(i+1)*k+j - (g s).length=i*k+j:=by rw[a,Nat.succ_mul];omega
  rw[this,f];rfl
theorem srows_arg {α:Type}[Inhabited α]{H:Type}{enc:TypeId×Value->H}{P:Program}{w:World}{base:Nat}{N:Bool}{z:Nat}{v:Value}{x:DataW H×List MemPlace}{t e:TypeId}{k:Nat}(F:0<k){vals:α->List Value}(O: ∀s,(vals s).length=k){good:α->Prop}(ht:P.underlying t=some (.slice e))(hc:P.cellsOf e=k)
  (hd: ∀ {z:Nat} {cs:List Value} {x:DataW H×List MemPlace},DataW.trod enc P w base (fun _=>true) N z e cs=some x-> ∃s,cs=vals s/\good s)
  (h:DataW.trod enc P w base (fun _=>true) N z t [v]=some x):
  ∃l:List α,Rw k (H0 w) (fV w.heap.size v) l.length (l.flatMap fun s=>(vals s).map (cellAV w.heap.size))/\ ∀s∈l,good s:=by
 have C: ∀s,((vals s).map (cellAV w.heap.size)).length=k:=fun s=>by rw[qM,O]
 rcases Deep.open_slice ht h with⟨y,_⟩ | ⟨a,len,cap,m,n,D,Pl,y,_,hl,_,hm,_,U⟩
 .simp only[List.cons.injEq,and_true]at y;subst y;exact⟨[],⟨by simp, .inl ⟨rfl,rfl⟩⟩,by simp⟩
 .simp only[List.cons.injEq,and_true]at y;subst y;simp only[if_true]at hm;subst hm;by_cases h0:m=0
  .subst h0;obtain rfl:len=0:=by omega
   exact⟨[],⟨by simp, .inr (.inl ⟨rfl,rfl⟩)⟩,by simp⟩
  .simp only[hc]at U;have hp: ∀i,i<m-> ∃p:α,w.cells? base (a.add (i*k)) k=some (vals p)/\good p:=fun i hi=>by
    obtain⟨cs,k1,k2⟩:=U i hi;obtain⟨p,rfl,hs⟩:=hd k2;exact⟨p,k1,hs⟩
   obtain⟨J,K⟩:=Deep.choose_lt hp;obtain⟨b,o,sp⟩:=a;obtain⟨c1,arr,te,fz,f,a2⟩:=zBE (K 0 (by omega)).1 F;have a0:sp=none:=by simpa[Addr.add]using c1
   subst a0;rw[jT]at f;simp only at f;have S: ∀i,i<m-> ∀j,j<k->arr[o+i*k+j]? =(vals (J i))[j]? :=fun i hi j hj=>by
    obtain⟨_,arr',a3,a4,u,L⟩:=zBE (K i hi).1 F;rw[jT]at u L;simp only at u L;rw[f]at u;simp only[zB,Obj.cells.injEq]at u;rw[u.1];exact L j hj
   have a5:(m - 1)*k+k=m*k:=by rw[<-Nat.succ_mul,Nat.succ_eq_add_one,Nat.sub_add_cancel (by omega)]
   have a6:o+m*k<=arr.size:=by
    have V:=S (m - 1) (by omega) (k - 1) (by omega);rw[zH (by rw[O];omega)]at V;have:=(Array.getElem?_eq_some_iff.1 V).1;omega
   have a7:len*k<=m*k:=qF _ (by omega);rw[zL8 w (by omega) (zHk f)];refine⟨(List.range len).map J,⟨zCr C _, .inr (.inr ⟨b,o,2*m,_,te,0,false,by simp,zLm w f,zHk f,by simp;omega, ?_⟩)⟩, ?_⟩
   .apply List.ext_getElem?;intro q;simp only[qM,List.length_range];by_cases W:q<len*k
    .have a1:q / k<len:=Nat.div_lt_of_lt_mul (by rw[Nat.mul_comm];exact W);have T:q % k<k:=Nat.mod_lt _ F;have Y:q / k*k+q % k=q:=by rw[Nat.mul_comm];exact Nat.div_add_mod q k
     rw[qP W,qN,qR,Array.getElem?_toList];have Z:=S (q / k) (by omega) (q % k) T;rw[Nat.add_assoc,Y]at Z;have h4:=zHs C ((List.range len).map J) (q / k) (q % k) (by simpa using a1) T;rw[Y]at h4;rw[Z,h4,qR];simp only[List.getElem_map,List.getElem_range]
    .rw[List.getElem?_eq_none (by simp;omega),List.getElem?_eq_none (by rw[zCr C];simp;omega)]
   .intro p hp;obtain⟨i,hi,rfl⟩:=List.mem_map.1 hp;exact(K i (by have:=List.mem_range.1 hi;omega)).2
end Go.Eng
end
section
set_option maxRecDepth 20000
namespace Go.Eng.Sh
open Go.Nd (Ptr sumL leafOf Kvs Srt mayK putP delP lookP)
open Go.Bt Go.Bk
def rootOk (p:Ptr):Prop:=Nd.mayP p=true/\Nd.sumOk p/\p.at_≠1
theorem zC9:rootOk pZ:=⟨rfl,by simp[Nd.sumOk,pZ],by simp[pZ]⟩
theorem zJJ {E:Ev}{p:Ptr}{nd:Nd.Node}(h:E.K p=some nd):rootOk p:=by
 have f:=vJ h;obtain⟨a,birth,kind,body,rfl,_⟩:=Ev.K_iff.1 h;exact⟨Nd.kidOk_may f.1,⟨by simp[uC],by have:=zMA (sealB kind birth body);simp only[uC];omega⟩,by omega⟩
theorem cB.rootOk {E:Ev}{p:Ptr}{kv:Kvs}{T:List Ptr}(h:cB E [] p kv T):Sh.rootOk p:=by
 rcases h with⟨rfl,_⟩ | ⟨h,nd,t,S,f,_⟩
 .exact zC9
 .obtain⟨s,rfl,a | ⟨_,a⟩⟩ | ⟨_,i⟩:=xF f
  .simp[y8]at a
  .simp[y8]at a
  .exact zJJ i
theorem zDv (D:Dyn)(n:Nat)(N:100<=n){E:Ev}{H:AH}(x:H.ok){Ad:Nat}{p:Ptr}{kv:Kvs}{T:List Ptr}(hd: ∃j m o q,DkI H Ad E.nb E.ws j m o q)(hr:cB { E with dl:=[] } [] p kv T):
  ∃H' At M W,f18 D n [.ptr Ad 0, .nilPtr, .agg (qZ p)] H=some (.tuple [.ptr At 0, .int .i64 ((0:Nat):Int)],H')/\Prs H H'/\bD (.ptr Ad 0) .nilPtr { E with dl:=[] } H' At M 0 W p [] kv T/\(∀B,W B->H.next<=B):=by
 obtain⟨C,F,a0⟩:=hr.rootOk;obtain⟨O,t,b1,a,u,m1,n1⟩:=box x (.cells (qZ p) 42 1 false);obtain⟨y,S,f⟩:=zBt D n a.ok C F N;obtain⟨H3,M,U,i,V,m3,n3⟩:=box f.ok (.map [10] []);obtain⟨Y,At,Z,v,g4,m4,n4⟩:=box i.ok (.cells (jX (.ptr Ad 0) .nilPtr p M 0 .nilSlice) 140 1 false);have N1:=a.next;have N2:=f.next;have N3:=i.next
 have J:=a.trans f;have z:=(J.trans i).trans v;obtain⟨j,m,o,q,dk⟩:=hd;refine⟨Y,At,M,fun B=>B=At\/B=M\/Blk .nilSlice B, ?_,z,⟨.nilSlice,[],0,rfl,⟨v.ok,g4,Prs.get v i.ok V,trivial,⟨Ad,j,m,o,q,rfl,dk.prs x z⟩, .inl rfl, .inl (Own.nil ..),by simp,by simp⟩,fun s nd h=>by simp[y8]at h,by simp,by omega,by simp,hr,fun B=>Iff.rfl⟩,fun B hB=> ?_⟩
 .have r1:ldN 3 (.ptr t 0) O=some (.agg (qZ p)):=by rw[qY u];rfl
  have r2:ldN 3 (.ptr t 0) y=some (.agg (qZ p)):=by rw[qY (Prs.get f a.ok u)];rfl
  have r3:Eng.ld1 (.ptr t 0) y=some (.int .i64 p.at_):=by rw[qT (Prs.get f a.ok u)];rfl
  have K: ¬(((0:Nat):Int)≠((0:Nat):Int)):=by omega
  have L: ¬p.at_=((1:Nat):Int):=by omega
  have bs:wY [(0,1),(1,1),(2,3),(5,1),(6,1),(7,1)] [.nilPtr, .nilPtr, .int .i64 ((0:Nat):Int), .int .i64 ((0:Nat):Int), .int .u64 ((0:Nat):Int), .nilMap, .int .u64 ((0:Nat):Int), .nilSlice] [(0, .ptr Ad 0),(1, .nilPtr),(2, .agg (qZ p)),(3, .map M)]=some (.agg (jX (.ptr Ad 0) .nilPtr p M 0 .nilSlice)):=rfl;simp(maxSteps:=999999)(disch:=omega) only[f18,eZ,b1,cq,r1,S,qV,nth,K,r3,L,r2,mkM,U,bs,Z]
 .rcases hB with rfl | rfl | e
  .omega
  .omega
  .exact(Blk.nil.1 e).elim
theorem yV.get2 {k e n:Nat}{H:AH}{v:AV}{l:List AV}(h:yV k e H v n l){B:Nat}(a:Blk v B): ∃l e g,H.h.get B=some (.cells l e k g):=by
 rcases h with⟨_,⟨rfl,_⟩ | ⟨A,rfl,_,f⟩⟩ | ⟨_,A,i,g,rfl,_,f,_⟩
 .exact(Blk.nil.1 a).elim
 .rw[Blk.slice.1 a];exact⟨_,_,_,f⟩
 .rw[Blk.slice.1 a];exact⟨_,_,_,f⟩
theorem cB.srt {E:Ev}{q:PN}{root:Ptr}{kv:Kvs}{T:List Ptr}(h:cB E q root kv T):Srt kv/\ ∀p∈kv,mayK p.1=true/\p.2.length<=200:=by
 rcases h with⟨_,rfl,_⟩ | ⟨h,nd,t,S,_,_,w,_,rfl,_⟩
 .exact⟨trivial,by simp⟩
 .refine⟨zLp w, ?_⟩
  cases h with
  | zero=>exact fun p hp=>⟨(w.1.2 p hp).2.2.1,(w.1.2 p hp).2.2.2⟩
  | succ h=>
   intro p hp;obtain⟨x,f,a⟩:=List.mem_flatMap.1 hp;obtain⟨i,hi,rfl⟩:=qQ f;exact zPO (w.1.2.2.at (zH hi)) p a
end Go.Eng.Sh
end
section
set_option maxRecDepth 20000
namespace Go.Eng.Sh
open Go.Nd (Ptr sumL leafOf Kvs Srt mayK putP delP lookP)
open Go.Bt
def Adw (W:Nat->Prop)(H:AH)(a:Nat->Prop)(H':AH):Prop:=Stp W H H'/\ ∀B,a B->W B\/H.next<=B
theorem zIE (D:Dyn)(n:Nat){H:AH}(f:H.ok){v:AV}{l:List Str}(h:yV 1 9 H v l.length (l.map S))(hl:l.length<=1000000000):
  ∃a H',f108 D n [v] H=some (a,H')/\Prs H H'/\yV 1 9 H' a l.length (l.map S)/\ ∀B,Blk a B->H.next<=B:=by
 by_cases i:v= .nilSlice
 .subst i;exact⟨.nilSlice,H,rfl,Stp.refl f,h,fun B j=>(Blk.nil.1 j).elim⟩
 .refine ZN D n f h.row i (fun e=> ?_) hl;subst e;rcases h with⟨_,⟨h,_⟩ | ⟨_,h,_⟩⟩ | ⟨_,_,_,_,h,_⟩<;>cases h
theorem zO0 (D:Dyn)(n:Nat){H:AH}(f:H.ok){v:AV}{l:List Ptr}(h:yV 3 42 H v l.length (l.flatMap qZ))(hl:l.length<=1000000000):
  ∃a H',f81 D n [v] H=some (a,H')/\Prs H H'/\yV 3 42 H' a l.length (l.flatMap qZ)/\ ∀B,Blk a B->H.next<=B:=by
 by_cases i:v= .nilSlice
 .subst i;exact⟨.nilSlice,H,rfl,Stp.refl f,h,fun B j=>(Blk.nil.1 j).elim⟩
 .refine WJ D n f h.row i (fun e=> ?_) hl;subst e;rcases h with⟨_,⟨h,_⟩ | ⟨_,h,_⟩⟩ | ⟨_,_,_,_,h,_⟩<;>cases h
theorem aS {nd:Nd.Node}(h:Nd.size nd<=500):nd.keys.length<=500/\nd.vals.length<=500/\nd.kids.length<=500:=by
 have a:=Nd.sumL_ge nd.keys;have f:=Nd.sumL_ge nd.vals;simp only[Nd.size]at h;omega
theorem zNj (m n:Nat)(hn:200000000<=n){E:Ev}{H:AH}{p:Ptr}{At M a2:Nat}{d c dr:AV}{root:Ptr}{es:List (AV×AV)}{q:PN}{nd:Nd.Node}(h:TI E H At M d c root es q a2 dr)(hs:Qf E q [] p=some nd)(hz:Nd.size nd<=500):
  ∃v H',f61 (dy (m+1)) n [.ptr At 0, .agg (qZ p)] H=some (.tuple [v, .int .i64 ((0:Nat):Int)],H')/\Prs H H'/\yE H' v nd/\ ∀B,kR v B->H.next<=B:=by
 obtain⟨z1,z2,z3⟩:=aS hz;obtain⟨H1,A3,b1,z,g1,m1,n1⟩:=box h.ok (.cells [.int .i64 p.at_, .int .i64 p.birth, .int .u64 p.sum] 42 1 false);obtain⟨T,A4,b2,C,g2,m2,n2⟩:=box z.ok (.cells [.bool false, .nilSlice, .nilSlice, .nilSlice] 119 1 false);have P2:=z.trans C;have h2:=h.prs P2;have a3:=QA (dy (m+1)) n h2;obtain⟨v,H3,e3,U,nv,_⟩:=zCa m n hn h2 hs;obtain⟨ks,vs,t,rfl,w1,V,F⟩:=nv;obtain⟨H4,W,b4,Y,g4,m4,n4⟩:=box U.ok (.cells [.bool false, .nilSlice, .nilSlice, .nilSlice] 119 1 false);have a0: ∀ {a b c:AV},Eng.isCell a=true->Eng.isCell b=true->Eng.isCell c=true->qW [.bool nd.leaf,a,b,c]=true:=fun ha hb hc=>by simp[qW,ha,hb,hc];rfl
 obtain⟨Z,e5,g5,s5,n5⟩:=y9 Y.ok g4 (l':=[.bool nd.leaf,ks,vs,t]) rfl (a0 w1.isCell V.isCell F.isCell);have a4:stN 4 (.ptr W 0) (.agg [.bool nd.leaf,ks,vs,t]) H4=some (qX,Z):=e5;have u:Prs H3 Z:=Y.fresh s5 (fun B f=>by omega);obtain⟨j,H6,e6,p6,k1,f1⟩:=zIE (dy (m+1)) n u.ok (w1.mono u (fun _ _ x=>x)) (by omega);have J:=u.trans p6;obtain⟨vs',H7,e7,L,k2,f2⟩:=zIE (dy (m+1)) n J.ok (V.mono J (fun _ _ x=>x)) (by omega);have N:=J.trans L;obtain⟨o,H8,e8,y,k3,f3⟩:=zO0 (dy (m+1)) n N.ok (F.mono N (fun _ _ x=>x)) (by omega);have P8:=N.trans y;have Q8:Prs T H8:=U.trans P8;have N1:=z.next;have N2:=C.next;have N3:=U.next;have N4:=Y.next;have N5:=u.next;have N6:=p6.next;have N7:=L.next;have N8:=y.next
 obtain⟨H9,e9,g9,O,n9⟩:=y9 P8.ok (Prs.get Q8 C.ok g2) (l':=[.bool nd.leaf,j,vs',o]) rfl (a0 k1.isCell k2.isCell k3.isCell);have a5:stN 4 (.ptr A4 0) (.agg [.bool nd.leaf,j,vs',o]) H8=some (qX,H9):=e9;have nb: ∀ {v:AV},(∀B,Blk v B->Z.next<=B)-> ∀B,Blk v B-> ¬B=A4:=fun hv B f=>by have:=hv B f;omega
 refine⟨.agg [.bool nd.leaf,j,vs',o],H9, ?_,(P2.trans Q8).fresh O (fun B f=>by omega),⟨j,vs',o,rfl,((k1.mono L (fun _ _ x=>x)).mono y (fun _ _ x=>x)).mono O (nb f1),(k2.mono y (fun _ _ x=>x)).mono O (nb fun B f=>by have:=f2 B f;omega),k3.mono O (nb fun B f=>by have:=f3 B f;omega)⟩,fun B f=> ?_⟩
 .have hp:qZ p=[.int .i64 p.at_, .int .i64 p.birth, .int .u64 p.sum]:=rfl;have a6:f77 (dy (m+1)) n [.ptr At 0, .agg [.int .i64 p.at_, .int .i64 p.birth, .int .u64 p.sum]] T=some (.tuple [.agg [.bool nd.leaf,ks,vs,t], .int .i64 ((0:Nat):Int)],H3):=e3;have a1:=Prs.get C z.ok g1;have r3:ldN 3 (.ptr A3 0) T=some (.agg [.int .i64 p.at_, .int .i64 p.birth, .int .u64 p.sum]):=by rw[qY a1];rfl
  have a7: ¬p.at_=((0:Nat):Int):=by have:=zOk hs;omega
  have a8: ¬(((0:Nat):Int)≠((0:Nat):Int)):=by omega
  have s: ∀ {H':AH} (i:Nat) {x:AV} (K:Rs),H'.h.get W=some (.cells [.bool nd.leaf,ks,vs,t] 119 1 false)->[.bool nd.leaf,ks,vs,t][i]? =some x->aveq x x=true->chk (ld1 (.ptr W i) H') x K=K:=fun i x K g hi hx=>j8 (by rw[qT g];exact hi) hx
  have S:=Prs.get p6 u.ok g5;have g7:=Prs.get L J.ok S;have g8:=Prs.get y N.ok g7;have ab:aveq (.bool nd.leaf) (.bool nd.leaf)=true:=by cases nd.leaf<;>rfl
  have bs:wY [(0,1),(1,1),(2,1),(3,1)] [.bool false, .nilSlice, .nilSlice, .nilSlice] [(0, .bool nd.leaf),(1,j),(2,vs'),(3,o)]=some (.agg [.bool nd.leaf,j,vs',o]):=by
   simp only[wY,uJ,zK7,yP k1.isCell,yP k2.isCell,yP k3.isCell];rfl
  have r9:ldN 4 (.ptr A4 0) H9=some (.agg [.bool nd.leaf,j,vs',o]):=vU g9 rfl;rw[hp];simp(maxSteps:=999999)(disch:=omega) only[f61,eZ,b1,b2,a3,qT a1,a7,r3,a6,qV,nth,b4,a4,a8,qT g5,e6,s 0 _ S rfl ab,s 2 _ S rfl (yL V.row),s 3 _ S rfl (yL F.row),e7,s 0 _ g7 rfl ab,s 3 _ g7 rfl (yL F.row),e8,s 0 _ g8 rfl ab,bs,a5,r9]
 .rcases jK.1 f with e | e | e
  .have:=f1 B e;omega
  .have:=f2 B e;omega
  .have:=f3 B e;omega
theorem zKH (D:Dyn)(n:Nat){E:Ev}{H:AH}{At M a:Nat}{d c i:AV}{root:Ptr}{es:List (AV×AV)}{q:PN}(h:TI E H At M d c root es q a i):
  f24 D n [.ptr At 0] H=some (.int .i64 ((q.length:Nat):Int),H):=by
 have f:=QA D n h;have j:ld1 (.ptr At 5) H=some (.map M):=by rw[qT h.gT];rfl
 have hm:aZ (.map M) H=some (.int .i64 ((q.length:Nat):Int)):=by
  simp only[aZ,h.gM,yG,h.pq.len];rfl
 simp(maxSteps:=999999)(disch:=omega) only[f24,eZ,f,j,hm]
theorem zDl (D:Dyn)(n:Nat){E:Ev}{H:AH}{At M m:Nat}{d c s:AV}{root:Ptr}{es:List (AV×AV)}{q:PN}(h:TI E H At M d c root es q m s):
  ∃H',f19 D n [.ptr At 0] H=some (.agg (qZ root),H')/\Prs H H':=by
 obtain⟨i,A2,b1,a,t,C,F⟩:=box h.ok (.cells [.int .i64 ((0:Nat):Int), .int .i64 ((0:Nat):Int), .int .u64 ((0:Nat):Int)] 42 1 false);have j:=h.prs a;have o:=QA D n j;obtain⟨f,u,v,x,J⟩:=y9 a.ok t (l':=qZ root) rfl rfl;have p:stN 3 (.ptr A2 0) (.agg (qZ root)) i=some (qX,f):=u;have y:ldN 3 (.ptr At 2) i=some (.agg (qZ root)):=by rw[qY j.gT];rfl
 have z:ldN 3 (.ptr A2 0) f=some (.agg (qZ root)):=by rw[qY v];rfl
 refine⟨f, ?_,a.fresh x (fun B K=>by omega)⟩;simp(maxSteps:=999999)(disch:=omega) only[f19,eZ,b1,o,y,p,z]
structure Rdr (At N0 k:Nat)(root:Ptr)(Q:Ptr->Option Nd.Node)(G:AH->(Nat->Prop)->Prop):Prop where
 ok: ∀ {H W},G H W->H.ok
 lt: ∀ {H W},G H W-> ∀B,W B->B<H.next
 frame: ∀ {H H' W S},G H W->Stp S H H'->(∀B,S B->N0<=B/\ ¬W B)->G H' W
 root: ∀ {H W} (D:Dyn) (n:Nat),G H W-> ∃H',f19 D n [.ptr At 0] H=some (.agg (qZ root),H')/\Prs H H'
 dirty: ∀ {H W} (D:Dyn) (n:Nat),G H W->f24 D n [.ptr At 0] H=some (.int .i64 ((k:Nat):Int),H)
 load: ∀ {H W p nd} (m n:Nat),100000000<=m->200000000<=n->G H W->Q p=some nd->Nd.size nd<=500-> ∃v H' W',f61 (dy m) n [.ptr At 0, .agg (qZ p)] H=some (.tuple [v, .int .i64 ((0:Nat):Int)],H')/\G H' W'/\Adw W H W' H'/\yE H' v nd/\ ∀B,kR v B->H.next<=B/\ ¬W' B
theorem Rdr.prs {At N0 k:Nat}{root:Ptr}{Q:Ptr->Option Nd.Node}{G:AH->(Nat->Prop)->Prop}(r:Rdr At N0 k root Q G){H H':AH}{W:Nat->Prop}(h:G H W)(s:Prs H H'):G H' W:=r.frame h s (fun _ x=>x.elim)
def GD0 (N0 At M Ad:Nat)(E:Ev)(root:Ptr)(q:PN)(H:AH)(W:Nat->Prop):Prop:=(∀B,¬W B)/\At<N0/\M<N0/\ ∃es j a f h i m,TI E H At M (.ptr Ad 0) .nilPtr root es q j a/\(∀kv∈es,∀B,kR kv.2 B->B<N0)/\(∀B,Blk a B->B<N0)/\DkI H Ad E.nb E.ws f h i m/\Ad<N0/\f<N0/\h<N0/\ ∀B,Blk i B->B<N0
theorem zDo (N0 At M Ad:Nat)(E:Ev)(root:Ptr)(q:PN):Rdr At N0 q.length root (Qf E q []) (GD0 N0 At M Ad E root q) where
 ok:=fun⟨_,_,_,_,_,_,_,_,_,_,ti,_⟩=>ti.ok
 lt:=fun⟨h,_⟩ B a=>(h B a).elim
 frame:=fun {H H' W S} ⟨j,h2,h3,es,last,dr,On,Nw,wv,ds,ti,h4,h5,dk,d1,d2,d3,d4⟩ s hS=>by
  have i: ∀B,B<N0-> ¬S B:=fun B a e=>by have:=(hS _ e).1;omega
  have o:=dk.stp ti.ok s (i _ d1) (i _ d2) (i _ d3) fun B a=>i _ (d4 B a)
  exact⟨j,h2,h3,es,last,dr,On,Nw,wv,ds,ti.wr s (fun B a=>i B (by
   rcases a with rfl | rfl | e | ⟨kv,t,e⟩
   .exact h2
   .exact h3
   .exact h5 _ e
   .exact h4 kv t _ e)) o,h4,h5,o,d1,d2,d3,d4⟩
 root:=fun D n ⟨_,_,_,_,_,_,_,_,_,_,ti,_⟩=>zDl D n ti
 dirty:=fun D n ⟨_,_,_,_,_,_,_,_,_,_,ti,_⟩=>zKH D n ti
 load:=fun {H W p nd} m n hm u ⟨j,h2,h3,es,last,dr,On,Nw,wv,ds,ti,h4,h5,dk,d⟩ hq hz=>by
  obtain⟨y,rfl⟩: ∃k,m=k+1:=⟨m - 1,by omega⟩;obtain⟨v,H',e,p,z,f⟩:=zNj y n u ti hq hz;exact⟨v,H',W,e,⟨j,h2,h3,es,last,dr,On,Nw,wv,ds,ti.prs p,h4,h5,dk.prs ti.ok p,d⟩,⟨p.mono fun _ _ x=>x.elim,fun B a=> .inl a⟩,z,fun B a=>⟨f B a,j B⟩⟩
end Go.Eng.Sh
end
section
namespace Go.Bt
open Go.Nd (Str Kvs Ptr leafOf Srt rising)
open Go.Eng (ltS yS vG yW uV)
def kE {σ α:Type}(step:σ->α->Bool×σ):List α->σ->Bool×σ
 | [],s=>(true,s)
 | a::l,s=>bif (step s a).1 then kE step l (step s a).2 else(false,(step s a).2)
theorem zDk {σ α:Type}(step:σ->α->Bool×σ)(l l':List α)(s:σ):kE step (l++l') s=bif (kE step l s).1 then kE step l' (kE step l s).2 else(false,(kE step l s).2):=by
 induction l generalizing s with
 | nil=>rfl
 | cons a l ih=>
  simp only[List.cons_append,kE]
  cases h:(step s a).1 with
  | true=>simp only[cond_true];exact ih _
  | false=>simp only[cond_false]
theorem zAE {σ α β:Type}(step:σ->β->Bool×σ)(f:α->List β): ∀(l:List α) (s:σ),kE (fun s x=>kE step (f x) s) l s=kE step (l.flatMap f) s
 | [],_=>rfl
 | a::l,s=>by
  rw[zW,zDk,kE,zAE]
def yR (to k:Str):Bool:=to.isEmpty||ltS k to
def QM (ks:List Str)(to:Str)(first:Nat):Nat:=((ks.drop first).takeWhile (yR to)).length+1
def zPl (ks:List Str)(a:List Ptr)(fr to:Str):List Ptr:=(a.drop (yH ks fr)).take (QM ks to (yH ks fr))
def xH (Q:Ptr->Option Nd.Node)(fr to:Str):Nat->Ptr->Nd.Node->List (Ptr×Nd.Node)
 | 0,p,nd=>[(p,nd)]
 | h+1,p,nd=>(p,nd)::(zPl nd.keys nd.kids fr to).flatMap fun a=>match Q a with
  | some nd'=>xH Q fr to h a nd'
  | none=>[]
def vI (fr:Str)(x:Ptr×Nd.Node):Kvs:=bif x.2.leaf then(x.2.keys.zip x.2.vals).drop (Nd.whereN x.2 fr)else[]
def kX {σ:Type}(to:Str)(step:σ->Str×Str->Bool×σ)(s:σ)(x:Str×Str):Bool×σ:=bif yR to x.1 then step s x else(false,s)
def wD {σ:Type}(fr to:Str)(step:σ->Str×Str->Bool×σ)(s:σ)(x:Ptr×Nd.Node):Bool×σ:=kE (kX to step) (vI fr x) s
theorem zLa {to a b:Str}(h:ltS a b=true)(hb:yR to b=true):yR to a=true:=by
 simp only[yR,Bool.or_eq_true]at hb⊢;exact hb.imp id (yS h)
theorem zEr {to a b:Str}(h:a=b\/ltS a b=true)(f:yR to a=false):yR to b=false:=by
 rcases h with rfl | h
 .exact f
 .cases hb:yR to b with
  | false=>rfl
  | true=>rw[zLa h hb]at f;cases f
theorem zGg {σ:Type}(to:Str)(step:σ->Str×Str->Bool×σ): ∀(l:Kvs) (s:σ),Srt l->(kE (kX to step) l s).2=(kE step (l.filter fun p=>yR to p.1) s).2
 | [],_,_=>rfl
 | p::l,s,h=>by
  obtain⟨k,v⟩:=p
  cases a:yR to k with
  | true=>
   simp only[kE,kX,a,cond_true,List.filter_cons,if_true]
   cases i:(step s (k,v)).1 with
   | true=>simp only[cond_true];exact zGg to step l _ h.2
   | false=>rfl
  | false=>
   have:(((k,v)::l).filter fun p=>yR to p.1)=[]:=by
    rw[List.filter_eq_nil_iff];intro q f;rcases List.mem_cons.1 f with rfl | f
    .simp[a]
    .have:=zEr (.inr (h.1 q f)) a;simp[this]
   rw[this];simp only[kE,kX,a,cond_false]
def inP (fr to:Str)(p:Str×Str):Bool:= !ltS p.1 fr&&yR to p.1
theorem zB4 (fr:Str): ∀ {l:Kvs},Srt l->l.drop (Nd.whereN (leafOf l) fr)=l.filter fun p=> !ltS p.1 fr
 | [],_=>by simp
 | (a,b)::l,h=>by
  rw[Nd.where_cons h]
  cases f:ltS a fr with
  | true=>
   simp only[if_true,List.drop_succ_cons,List.filter_cons,f,Bool.not_true,Bool.false_eq_true,if_false];exact zB4 fr h.2
  | false=>
   simp only[Bool.false_eq_true,if_false,List.drop_zero]
   symm
   rw[List.filter_eq_self];intro q i;rcases List.mem_cons.1 i with rfl | i
   .simp[f]
   .have m:=h.1 q i
    cases j:ltS q.1 fr with
    | false=>rfl
    | true=>rw[yS m j]at f;cases f
theorem zKf (fr:Str)(p:Ptr)(l:Kvs):vI fr (p,leafOf l)=l.drop (Nd.whereN (leafOf l) fr):=by
 simp only[vI,leafOf,cond_true];congr 1
 induction l with
 | nil=>rfl
 | cons a l ih=>simp[ih]
theorem gJ {α:Type}{f:α->Bool} : ∀ {l:List α} {x:α},l[(l.takeWhile f).length]? =some x->f x=false
 | [],_,h=>by simp at h
 | a::l,x,h=>by
  cases i:f a with
  | true=>
   rw[List.takeWhile_cons_of_pos i]at h;simp only[zO,List.getElem?_cons_succ]at h;exact gJ h
  | false=>
   rw[List.takeWhile_cons_of_neg (by simp[i])]at h;simp at h;rw[<-h];exact i
theorem aN {α:Type}{f:α->Bool} : ∀ {l:List α} {i:Nat} {x:α},i< (l.takeWhile f).length->l[i]? =some x->f x=true
 | [],i,_,_,h=>by simp at h
 | a::l,i,x,hi,h=>by
  cases j:f a with
  | true=>
   rw[List.takeWhile_cons_of_pos j]at hi
   cases i with
   | zero=>simp at h;rw[<-h];exact j
   | succ i=>exact aN (by simpa using hi) (by simpa using h)
  | false=>
   rw[List.takeWhile_cons_of_neg (by simp[j])]at hi;simp at hi
theorem J2 (ks:List Str)(to:Str)(first:Nat)(h:first<=ks.length):first+QM ks to first<=ks.length+1:=by
 have:=(List.takeWhile_sublist (yR to) (l:=ks.drop first)).length_le
 simp only[QM,zV]at this⊢;omega
theorem beyond {h:Nat}{lo hi:Bd}{to:Str}{i:Nat}{ks:List Str}{ts:List (Tr h)}(y:Inn (WF h) lo hi (ks,ts))(t:i<=ks.length): ∀p∈(ts.drop (i+QM ks to i)).flatMap (con h),yR to p.1=false:=by
 obtain⟨o,q,j⟩:=y;simp only at o q j;have F:=j.len;have J:=J2 ks to i t;intro p hp;by_cases K:i+QM ks to i<ts.length
 .obtain⟨w,m⟩: ∃w,w=((ks.drop i).takeWhile (yR to)).length:=⟨_,rfl⟩;have u:QM ks to i=w+1:=by rw[m];rfl
  have a:i+w<ks.length:=by omega
  have z:(ks.drop i)[w]? =some ks[i+w]:=by rw[qN];exact zH a
  have C:=gJ (f:=yR to) (l:=ks.drop i) (x:=ks[i+w]) (by rw[<-m];exact z);have v:=j.drop (zH a);have hd:=Nd.rising_drop q (i+w);rw[zX a,Nd.rising_cons]at hd;rw[u,<-Nat.add_assoc]at hp;have:=VZ (U0 h) v hd.2 (fun x s=>⟨hd.1 x s,(o x (List.mem_of_mem_drop s)).2.2⟩) p hp;exact zEr this.1 C
 .rw[zZ (by omega)]at hp;simp at hp
def zB7 {β:Type}(Q:Ptr->Option Nd.Node)(f:Ptr->Nd.Node->List β)(p:Ptr):List β:=match Q p with
 | some nd=>f p nd
 | none=>[]
theorem zD3 {h:Nat}{Q:Ptr->Option Nd.Node}{fr to:Str}(i: ∀ {p:Ptr} {nd:Nd.Node} {t:Tr h} {S:List Ptr} {lo hi:Bd},yX Q h nd t S->WF h lo hi t->
   (((xH Q fr to h p nd).flatMap (vI fr)).filter fun p=>yR to p.1)=(con h t).filter (inP fr to)/\((xH Q fr to h p nd).flatMap (vI fr)).Sublist (con h t)/\(xH Q fr to h p nd).length<=1+S.length):
  ∀ {f:List Ptr} {ts:List (Tr h)} {S:List Ptr},kT Q (yX Q h) f ts S->(∀t∈ts,∃lo hi,WF h lo hi t)->
   (((f.flatMap (zB7 Q (xH Q fr to h))).flatMap (vI fr)).filter fun p=>yR to p.1)=(ts.flatMap (con h)).filter (inP fr to)/\((f.flatMap (zB7 Q (xH Q fr to h))).flatMap (vI fr)).Sublist (ts.flatMap (con h))/\(f.flatMap (zB7 Q (xH Q fr to h))).length<=S.length
 | [],[],_,e,_=>⟨rfl,List.Sublist.refl _,by simp⟩
 | p::f,t::ts,_,⟨nd,S1,S2,a,b,c,e⟩,hw=>by
  subst e;obtain⟨lo,hi,j⟩:=hw t (zF ..);obtain⟨m,o,x⟩:=i (p:=p) b j;obtain⟨q,s,u⟩:=zD3 i c fun t v=>hw t (zE _ v)
  simp only[zW,qI,List.filter_append,zL,zO,zB7,a];refine⟨by rw[m];exact congrArg _ q,o.append s, ?_⟩;have:(f.flatMap fun p=>zB7 Q (xH Q fr to h) p).length<=S2.length:=u;simp only[zB7]at this;omega
 | [],_::_,_,h,_=>h.elim
 | _::_,[],_,h,_=>h.elim
theorem zFy {h:Nat}{Q:Ptr->Option Nd.Node}{fr to:Str}(C: ∀ {p:Ptr} {nd:Nd.Node} {t:Tr h} {S:List Ptr} {lo hi:Bd},yX Q h nd t S->WF h lo hi t->
   (((xH Q fr to h p nd).flatMap (vI fr)).filter fun p=>yR to p.1)=(con h t).filter (inP fr to)/\((xH Q fr to h p nd).flatMap (vI fr)).Sublist (con h t)/\(xH Q fr to h p nd).length<=1+S.length)
  {p:Ptr} {nd:Nd.Node} {t:Tr (h+1)} {S:List Ptr} {lo hi:Bd} (F:yX Q (h+1) nd t S) (m:Inn (WF h) lo hi t):
  (((xH Q fr to (h+1) p nd).flatMap (vI fr)).filter fun p=>yR to p.1)=(con (h+1) t).filter (inP fr to)/\((xH Q fr to (h+1) p nd).flatMap (vI fr)).Sublist (con (h+1) t)/\(xH Q fr to (h+1) p nd).length<=1+S.length:=by
 obtain⟨J,u,Z,K⟩:=F;obtain⟨ks,ts⟩:=t;simp only at u;subst u;have y:=uD nd.keys fr;obtain⟨i,f⟩: ∃i,i=yH nd.keys fr:=⟨_,rfl⟩;obtain⟨c,v⟩: ∃c,c=QM nd.keys to i:=⟨_,rfl⟩;obtain⟨Sa,Sb,x1,x2,rfl⟩:=K.split i;obtain⟨Sc,Sd,L,x4,rfl⟩:=x2.split c;have z:ts=ts.take i++((ts.drop i).take c++(ts.drop i).drop c):=by rw[List.take_append_drop,List.take_append_drop]
 obtain⟨N,O,k3⟩:=zD3 C L fun x T=>by
  obtain⟨j,U,rfl⟩:=qQ (List.mem_of_mem_drop (List.mem_of_mem_take T));exact⟨_,_,KB.at m.2.2 (zH U)⟩
 have V:xH Q fr to (h+1) p nd=(p,nd)::(((nd.kids.drop i).take c).flatMap (zB7 Q (xH Q fr to h))):=by
  rw[v,f];rfl
 have s:vI fr (p,nd)=[]:=by simp only[vI,J,cond_false]
 have W:((ts.take i).flatMap (con h)).filter (inP fr to)=[]:=by
  rw[List.filter_eq_nil_iff];intro q a;have:=(JB (key:=fr) m).1 q (by rw[f]at a;exact a);simp[inP,this]
 have Y:(((ts.drop i).drop c).flatMap (con h)).filter (inP fr to)=[]:=by
  rw[List.filter_eq_nil_iff];intro q a;rw[List.drop_drop]at a;have:=beyond (to:=to) m (i:=i) (by rw[f];exact y) q (by rw[v]at a;exact a);simp[inP,this]
 have o:con (h+1) (nd.keys,ts)=(ts.take i).flatMap (con h)++(((ts.drop i).take c).flatMap (con h)++((ts.drop i).drop c).flatMap (con h)):=by
  rw[<-qI,<-qI,<-z];rfl
 rw[V];refine⟨?_, ?_, ?_⟩
 .rw[o,List.filter_append,List.filter_append,W,Y,List.nil_append,List.append_nil,zW,s,List.nil_append];exact N
 .rw[o,zW,s,List.nil_append];exact(O.trans (List.sublist_append_left _ _)).trans (List.sublist_append_right _ _)
 .simp only[zO,zL];omega
theorem zD2 {Q:Ptr->Option Nd.Node}{fr to:Str}{p:Ptr}{nd:Nd.Node}{t:Kvs}{S:List Ptr}{lo hi:Bd}(a:yX Q 0 nd t S)(f:Lf lo hi t):
  (((xH Q fr to 0 p nd).flatMap (vI fr)).filter fun p=>yR to p.1)=(con 0 t).filter (inP fr to)/\((xH Q fr to 0 p nd).flatMap (vI fr)).Sublist (con 0 t)/\(xH Q fr to 0 p nd).length<=1+S.length:=by
 obtain⟨rfl,rfl⟩:=a;have h:xH Q fr to 0 p (leafOf t)=[(p,leafOf t)]:=rfl;rw[h,zW,List.flatMap_nil,List.append_nil,zKf];refine⟨?_,List.drop_sublist _ _,by simp⟩;rw[zB4 fr f.1,List.filter_filter];show List.filter _ t=List.filter (inP fr to) t;congr 1;funext q;simp only[inP,Bool.and_comm]
theorem zLr {Q:Ptr->Option Nd.Node}{fr to:Str} : ∀(h:Nat) {p:Ptr} {nd:Nd.Node} {t:Tr h} {S:List Ptr} {lo hi:Bd},yX Q h nd t S->WF h lo hi t->
  (((xH Q fr to h p nd).flatMap (vI fr)).filter fun p=>yR to p.1)=(con h t).filter (inP fr to)/\((xH Q fr to h p nd).flatMap (vI fr)).Sublist (con h t)/\(xH Q fr to h p nd).length<=1+S.length
 | 0,_,_,_,_,_,_,rn,w=>zD2 rn w.1
 | h+1,_,_,_,_,_,_,rn,w=>zFy (fun a b=>zLr h a b) rn w.1
theorem zD1 {Q:Ptr->Option Nd.Node}{fr to:Str}{h:Nat}{p:Ptr}{nd:Nd.Node}{t:Tr h}{S:List Ptr}(f:yX Q h nd t S)(w:WR h t):
  (((xH Q fr to h p nd).flatMap (vI fr)).filter fun p=>yR to p.1)=(con h t).filter (inP fr to)/\((xH Q fr to h p nd).flatMap (vI fr)).Sublist (con h t)/\(xH Q fr to h p nd).length<=1+S.length:=by
 cases h with
 | zero=>exact zD2 f w.1
 | succ h=>exact zFy (fun a b=>zLr h a b) f w.1
theorem zMH {a b:Kvs}(h:a.Sublist b)(hb:Srt b):Srt a:=by
 induction h with
 | slnil=>exact hb
 | cons x _ ih=>obtain⟨k,v⟩:=x;exact ih hb.2
 | cons_cons x hs ih=>obtain⟨k,v⟩:=x;exact⟨fun q f=>hb.1 q (hs.subset f),ih hb.2⟩
theorem zJo {σ:Type}{Q:Ptr->Option Nd.Node}{fr to:Str}{h:Nat}{p:Ptr}{nd:Nd.Node}{t:Tr h}{S:List Ptr}(a:yX Q h nd t S)(w:WR h t)(step:σ->Str×Str->Bool×σ)(s:σ):
  (kE (wD fr to step) (xH Q fr to h p nd) s).2=(kE step ((con h t).filter (inP fr to)) s).2:=by
 obtain⟨f,i,_⟩:=zD1 (fr:=fr) (to:=to) (p:=p) a w;have:=zAE (kX to step) (vI fr) (xH Q fr to h p nd) s;have e:wD fr to step=fun s x=>kE (kX to step) (vI fr x) s:=rfl
 rw[e,this,zGg to step _ s (zMH i (zLp w)),f]
def Vs (Q:Ptr->Option Nd.Node):Nat->Nd.Node->Prop
 | 0,nd=>nd.leaf=true/\nd.vals.length=nd.keys.length/\Nd.size nd<=500
 | h+1,nd=>nd.leaf=false/\nd.kids.length=nd.keys.length+1/\Nd.size nd<=500/\ ∀p∈nd.kids,∃a,Q p=some a/\Vs Q h a
theorem Vs.sz {Q:Ptr->Option Nd.Node}{h:Nat}{nd:Nd.Node}(v:Vs Q h nd):Nd.size nd<=500:=by
 cases h with
 | zero=>exact v.2.2
 | succ h=>exact v.2.2.1
theorem zFx {h:Nat}{Q:Ptr->Option Nd.Node}(j: ∀ {nd:Nd.Node} {t:Tr h} {S:List Ptr} {lo hi:Bd},yX Q h nd t S->WF h lo hi t->Vs Q h nd):
  ∀ {f:List Ptr} {ts:List (Tr h)} {S:List Ptr},kT Q (yX Q h) f ts S->(∀t∈ts,∃lo hi,WF h lo hi t)-> ∀p∈f,∃i,Q p=some i/\Vs Q h i
 | [],[],_,_,_=>by simp
 | p::f,t::ts,_,⟨nd,S1,S2,a,b,c,e⟩,hw=>fun m hp=>by
  obtain⟨lo,hi,o⟩:=hw t (zF ..);rcases List.mem_cons.1 hp with rfl | hp
  .exact⟨nd,a,j b o⟩
  .exact zFx j c (fun t q=>hw t (zE _ q)) m hp
 | [],_::_,_,h,_=>h.elim
 | _::_,[],_,h,_=>h.elim
theorem zLq {h:Nat}{Q:Ptr->Option Nd.Node}(o: ∀ {nd:Nd.Node} {t:Tr h} {S:List Ptr} {lo hi:Bd},yX Q h nd t S->WF h lo hi t->Vs Q h nd)
  {nd:Nd.Node} {t:Tr (h+1)} {S:List Ptr} {lo hi:Bd} (a:yX Q (h+1) nd t S) (f:Inn (WF h) lo hi t) (v:jD (h+1) t<=500):Vs Q (h+1) nd:=by
 have y:=a.size;obtain⟨p,q,z,i⟩:=a;have hl:=f.2.2.len;have m:=i.len;refine⟨p,by rw[m,hl,q],by omega,zFx o i fun x s=> ?_⟩;obtain⟨j,u,rfl⟩:=qQ s;exact⟨_,_,KB.at f.2.2 (zH u)⟩
theorem zFw {Q:Ptr->Option Nd.Node}{nd:Nd.Node}{t:Kvs}{S:List Ptr}(a:yX Q 0 nd t S)(f:jD 0 t<=500):Vs Q 0 nd:=by
 have h:=a.size;obtain⟨rfl,_⟩:=a;exact⟨rfl,by show(List.map Prod.snd _).length=(List.map Prod.fst _).length;rw[qM,qM],by omega⟩
theorem zON {Q:Ptr->Option Nd.Node} : ∀(h:Nat) {nd:Nd.Node} {t:Tr h} {S:List Ptr} {lo hi:Bd},yX Q h nd t S->WF h lo hi t->Vs Q h nd
 | 0,_,_,_,_,_,rn,w=>zFw rn w.2.2
 | h+1,_,_,_,_,_,rn,w=>zLq (fun a b=>zON h a b) rn w.1 w.2.2.2
theorem zMn {Q:Ptr->Option Nd.Node}{h:Nat}{nd:Nd.Node}{t:Tr h}{S:List Ptr}(f:yX Q h nd t S)(w:WR h t):Vs Q h nd:=by
 cases h with
 | zero=>exact zFw f w.2.2
 | succ h=>exact zLq (fun a b=>zON h a b) f w.1 w.2.2
end Go.Bt
end
section
namespace Go.Eng.Sh
open Go.Nd (Ptr sumL leafOf)
open Go.Bt
theorem st1c {H:AH}(a:H.ok){A o e:Nat}{l:List AV}{x:AV}(h:H.h.get A=some (.cells l e 1 false))(f:Eng.isCell x=true)(i:o<l.length): ∃H',stN 1 (.ptr A o) x H=some (qX,H')/\H'.h.get A=some (.cells (l.set o x) e 1 false)/\Stp (fun B=>B=A) H H':=
 ⟨_,bF h (by decide) f i,by rw[AH.put_get,if_pos rfl],(Stp.refl a).put (a.lt h) _ (.inr rfl)⟩
theorem Stp.thru {S T:Nat->Prop}{H0 H a:AH}(h:Stp S H0 H)(k:Stp T H a)(f: ∀A,T A->H0.next<=A\/S A):Stp S H0 a:=
 ⟨k.ok,Nat.le_trans h.next k.next,fun A i j=>by
  rw[k.keep A (zY i h.next) (fun x=>by rcases f A x with y | y;omega;exact j y),h.keep A i j]⟩
theorem Adw.refl {W:Nat->Prop}{H:AH}(a:H.ok):Adw W H W H:=⟨Stp.refl a,fun _ h=> .inl h⟩
theorem Adw.trans {W i a:Nat->Prop}{H H' f:AH}(h:Adw W H i H')(k:Adw i H' a f):Adw W H a f:=
 ⟨Stp.thru h.1 k.1 fun A j=>(h.2 A j).symm,fun B m=>by
  rcases k.2 B m with e | e
  .exact h.2 B e
  .exact .inr (Nat.le_trans h.1.next e)⟩
structure Cns {σ α:Type}(A M N0:Nat)(enc:AH->(Nat->Prop)->α->List AV->Prop)(step:σ->α->Bool×σ)(I:Nat->Bool×σ->AH->(Nat->Prop)->Prop):Prop where
 ok: ∀ {b x H W},I b x H W->H.ok
 lt: ∀ {b x H W},I b x H W-> ∀B,W B->B<H.next/\N0<=B
 mono: ∀ {b b' x H W},I b x H W->b'<=b->I b' x H W
 frame: ∀ {b x H H' W S},I b x H W->Stp S H H'->(∀B,S B-> ¬W B)->I b x H' W
 run: ∀ {b s a az H W} (m:Nat),M<=m->I (b+1) (true,s) H W->enc H W a az-> ∃H' W',(dy (m+1)).yld A az H=some (.bool (step s a).1,H')/\I b (step s a) H' W'/\Adw W H W' H'
def encN (H:AH)(W:Nat->Prop)(x:Ptr×Nd.Node)(az:List AV):Prop:= ∃v,az=[.agg (qZ x.1),v]/\yE H v x.2/\Nd.size x.2<=500/\(x.2.leaf=true->x.2.vals.length=x.2.keys.length)/\ ∀B,kR v B-> ¬W B
theorem zO8 (m n:Nat){H:AH}(a:H.ok)(p:Ptr): ∃H',callV [(61,f61 (dy (m+1)) n),(79,f79 (dy (m+1)) n)] (dy (m+1)) (.func 106 [] []) [.agg (qZ p)] H=some (.bool false,H')/\Prs H H':=by
 obtain⟨f,A1,b1,h,i,j,o⟩:=box a (.cells (qZ p) 42 1 false);refine⟨f, ?_,h⟩;show f106 (dy m) m [.agg (qZ p)] H=_;simp only[f106,eZ,b1]
theorem zKU (m n A:Nat)(az:List AV)(H:AH):callV [(61,f61 (dy (m+1)) n),(79,f79 (dy (m+1)) n)] (dy (m+1)) (.yieldTo A) az H=(dy (m+1)).yld A az H:=rfl
set_option maxRecDepth 100000 in
theorem zIJ (m:Nat)(az:List AV)(H:AH):(dy (m+1)).fn 166 az H=f166 (dy m) m az H:=rfl
section
variable {σ:Type}{At N0 k M A2 Aw:Nat}{root:Ptr}{Q:Ptr->Option Nd.Node}{G:AH->(Nat->Prop)->Prop}{step:σ->Ptr×Nd.Node->Bool×σ}{I:Nat->Bool×σ->AH->(Nat->Prop)->Prop}
def Wid (Aw:Nat)(a f:Nat->Prop)(B:Nat):Prop:=a B\/f B\/B=Aw
structure Awk (Aw:Nat)(Wg Wi:Nat->Prop)(H:AH)(Wg' Wi':Nat->Prop)(H':AH):Prop where
 s:Stp (Wid Aw Wg Wi) H H'
 g: ∀B,Wg' B->Wg B\/H.next<=B
 i: ∀B,Wi' B->Wi B\/H.next<=B
theorem Awk.adw {Aw:Nat}{j m a f:Nat->Prop}{H H':AH}(h:Awk Aw j m H a f H'):Adw (Wid Aw j m) H (Wid Aw a f) H':=⟨h.s,fun B o=>by
 rcases o with e | e | e
 .exact(h.g B e).imp .inl id
 .exact(h.i B e).imp (fun x=> .inr (.inl x)) id
 .exact .inl (.inr (.inr e))⟩
theorem Awk.prs {Aw:Nat}{a f:Nat->Prop}{H H':AH}(h:Prs H H'):Awk Aw a f H a f H':=⟨h.stp,fun _ x=> .inl x,fun _ x=> .inl x⟩
theorem Awk.refl {Aw:Nat}{a f:Nat->Prop}{H:AH}(h:H.ok):Awk Aw a f H a f H:=Awk.prs (Stp.refl h)
theorem Awk.trans {Aw:Nat}{p q f j m o:Nat->Prop}{H H' t:AH}(h:Awk Aw p q H f j H')(k:Awk Aw f j H' m o t):Awk Aw p q H m o t:=
 ⟨(h.adw.trans k.adw).1,fun B a=>by
  rcases k.g B a with e | e
  .exact h.g B e
  .exact .inr (Nat.le_trans h.s.next e),fun B a=>by
  rcases k.i B a with e | e
  .exact h.i B e
  .exact .inr (Nat.le_trans h.s.next e)⟩
structure Wk (N0 At Aw:Nat)(G:AH->(Nat->Prop)->Prop)(I:Nat->Bool×σ->AH->(Nat->Prop)->Prop)(H:AH)(Wg Wi:Nat->Prop)(left bud:Nat)(x:Bool×σ):Prop where
 g:G H Wg
 i:I bud x H Wi
 w: ∃e,H.h.get Aw=some (.cells [.ptr At 0, .nilMap, .int .i64 ((left:Nat):Int), .int .i64 ((0:Nat):Int)] e 1 false)
 lo:N0<=Aw
 ng: ¬Wg Aw
 ni: ¬Wi Aw
 sep: ∀B,Wi B-> ¬Wg B
variable (r:Rdr At N0 k root Q G)(c:Cns A2 M N0 encN step I)
include r c
theorem Wk.ok {H:AH}{f j:Nat->Prop}{left a:Nat}{x:Bool×σ}(h:Wk N0 At Aw G I H f j left a x):H.ok:=And.left ⟨r.ok h.g,c.ok h.i⟩
theorem Wk.lt {H:AH}{a f:Nat->Prop}{left j:Nat}{x:Bool×σ}(h:Wk N0 At Aw G I H a f left j x): ∀B,Wid Aw a f B->B<H.next:=fun B m=>by
 rcases m with e | e | rfl
 .exact r.lt h.g B e
 .exact(c.lt h.i B e).1
 .obtain⟨_,g⟩:=h.w;exact(r.ok h.g).lt g
theorem Wk.frame {H H':AH}{j m S:Nat->Prop}{left o:Nat}{x:Bool×σ}(h:Wk N0 At Aw G I H j m left o x)(s:Stp S H H')(a: ∀B,S B->N0<=B/\ ¬Wid Aw j m B):Wk N0 At Aw G I H' j m left o x:=by
 obtain⟨e,g⟩:=h.w;refine⟨r.frame h.g s fun B f=>⟨(a B f).1,fun w=>(a B f).2 (.inl w)⟩,c.frame h.i s fun B f w=>(a B f).2 (.inr (.inl w)),⟨e, ?_⟩,h.lo,h.ng,h.ni,h.sep⟩;rw[s.keep _ ((r.ok h.g).lt g) (fun w=>(a _ w).2 (.inr (.inr rfl)))];exact g
theorem Wk.prs {H H':AH}{f i:Nat->Prop}{left a:Nat}{x:Bool×σ}(h:Wk N0 At Aw G I H f i left a x)(s:Prs H H'):Wk N0 At Aw G I H' f i left a x:=h.frame r c s fun _ w=>w.elim
theorem Wk.less {H:AH}{m p:Nat->Prop}{left left' j:Nat}{x:Bool×σ}(h:Wk N0 At Aw G I H m p left j x): ∃H',stN 1 (.ptr Aw 2) (.int .i64 ((left':Nat):Int)) H=some (qX,H')/\Wk N0 At Aw G I H' m p left' j x/\Stp (fun B=>B=Aw) H H':=by
 obtain⟨e,g⟩:=h.w;obtain⟨H',q,s,a⟩:=st1c (r.ok h.g) g (o:=2) (x:= .int .i64 ((left':Nat):Int)) rfl (by simp);exact⟨H',q,⟨r.frame h.g a (fun B f=>by subst f;exact⟨h.lo,h.ng⟩),c.frame h.i a (fun B f=>by subst f;exact h.ni),⟨e,s⟩,h.lo,h.ng,h.ni,h.sep⟩,a⟩
theorem Wk.noerr {H:AH}{m p:Nat->Prop}{left j:Nat}{x:Bool×σ}(h:Wk N0 At Aw G I H m p left j x): ∃H',stN 1 (.ptr Aw 3) (.int .i64 ((0:Nat):Int)) H=some (qX,H')/\Wk N0 At Aw G I H' m p left j x/\Stp (fun B=>B=Aw) H H':=by
 obtain⟨e,g⟩:=h.w;obtain⟨H',q,s,a⟩:=st1c (r.ok h.g) g (o:=3) (x:= .int .i64 ((0:Nat):Int)) rfl (by simp);exact⟨H',q,⟨r.frame h.g a (fun B f=>by subst f;exact⟨h.lo,h.ng⟩),c.frame h.i a (fun B f=>by subst f;exact h.ni),⟨e,s⟩,h.lo,h.ng,h.ni,h.sep⟩,a⟩
theorem Wk.load {H:AH}{t j:Nat->Prop}{left s:Nat}{x:Bool×σ}{p:Ptr}{nd:Nd.Node}(m n:Nat)(hm:100000000<=m)(z:200000000<=n)(h:Wk N0 At Aw G I H t j left s x)(C:Q p=some nd)(F:Nd.size nd<=500):
  ∃v H' f,f61 (dy m) n [.ptr At 0, .agg (qZ p)] H=some (.tuple [v, .int .i64 ((0:Nat):Int)],H')/\Wk N0 At Aw G I H' f j left s x/\Awk Aw t j H f j H'/\yE H' v nd/\ ∀B,kR v B->H.next<=B/\ ¬Wid Aw f j B:=by
 obtain⟨v,H',f,J,K,o,L,q⟩:=r.load m n hm z h.g C F;obtain⟨e,g⟩:=h.w;have u:=(r.ok h.g).lt g;have y: ∀B,f B-> ¬j B:=fun B a hi=>by
  rcases o.2 B a with e | e
  .exact h.sep B hi e
  .have:=(c.lt h.i B hi).1;omega
 refine⟨v,H',f,J,⟨K,c.frame h.i o.1 (fun B a hi=>h.sep B hi a),⟨e,by rw[o.1.keep _ u h.ng];exact g⟩,h.lo,fun a=> ?_,h.ni,fun B hi a=>y B a hi⟩,⟨o.1.mono fun B _ a=> .inl a,o.2,fun B a=> .inl a⟩,L,fun B a=>⟨(q B a).1,fun N=> ?_⟩⟩
 .rcases o.2 _ a with e | e
  .exact h.ng e
  .omega
 .have O:=(q B a).1;rcases N with e | e | e
  .exact(q B a).2 e
  .have:=(c.lt h.i B e).1;omega
  .omega
theorem Wk.tell {H:AH}{o t:Nat->Prop}{left u:Nat}{s:σ}{p:Ptr}{nd:Nd.Node}{v:AV}(m n:Nat)(hm:M<=m)(h:Wk N0 At Aw G I H o t left (u+1) (true,s))(z:yE H v nd)(C:Nd.size nd<=500)(hl:nd.leaf=true->nd.vals.length=nd.keys.length)(hb: ∀B,kR v B-> ¬Wid Aw o t B):
  ∃H' q,callV [(61,f61 (dy (m+1)) n),(79,f79 (dy (m+1)) n)] (dy (m+1)) (.yieldTo A2) [.agg (qZ p),v] H=some (.bool (step s (p,nd)).1,H')/\Wk N0 At Aw G I H' o q left u (step s (p,nd))/\Awk Aw o t H o q H':=by
 obtain⟨H',q,F,J,j⟩:=c.run m hm h.i (a:=(p,nd)) (az:=[.agg (qZ p),v]) ⟨v,rfl,z,C,hl,fun B f w=>hb B f (.inr (.inl w))⟩;obtain⟨e,g⟩:=h.w;have y:=(r.ok h.g).lt g;refine⟨H',q,by rw[zKU];exact F,⟨r.frame h.g j.1 (fun B f=>⟨(c.lt h.i B f).2,h.sep B f⟩),J,⟨e,by rw[j.1.keep _ y h.ni];exact g⟩,h.lo,h.ng,fun f=> ?_,fun B f x=> ?_⟩,⟨j.1.mono fun B _ f=> .inr (.inl f),fun B f=> .inl f,j.2⟩⟩
 .rcases j.2 _ f with e | e
  .exact h.ni e
  .omega
 .rcases j.2 B f with e | e
  .exact h.sep B e x
  .have:=r.lt h.g B x;omega
omit r c
structure NB (H:AH)(W:Nat->Prop)(A:Nat)(v:AV)(nd:Nd.Node):Prop where
 g: ∃l e,v= .agg l/\H.h.get A=some (.cells l e 1 false)
 nv:yE H v nd
 a: ¬W A
 b: ∀B,kR v B-> ¬W B
theorem NB.adw {H H':AH}{W i:Nat->Prop}{A:Nat}{v:AV}{nd:Nd.Node}(h:NB H W A v nd)(o:H.ok)(s:Adw W H i H'):NB H' i A v nd:=by
 obtain⟨l,e,rfl,g⟩:=h.g;have m:=o.lt g;refine⟨⟨l,e,rfl,by rw[s.1.keep _ m h.a];exact g⟩,h.nv.stp s.1 h.b,fun f=> ?_,fun B j f=> ?_⟩
 .rcases s.2 _ f with e | e
  .exact h.a e
  .omega
 .rcases s.2 _ f with e | e
  .exact h.b B j e
  .have:=h.nv.lt j;omega
end
open Go.Nd (Ptr sumL leafOf)
open Go.Bt
theorem zG7 {nd:Nd.Node}(h:Nd.size nd<=500):small nd:=by
 simp only[Nd.size]at h;refine⟨?_, ?_, ?_⟩<;>omega
section
variable {σ:Type}{At N0 k M A2 Aw:Nat}{root:Ptr}{Q:Ptr->Option Nd.Node}{G:AH->(Nat->Prop)->Prop}{step:σ->Ptr×Nd.Node->Bool×σ}{I:Nat->Bool×σ->AH->(Nat->Prop)->Prop}{fr to:Str}
variable (r:Rdr At N0 k root Q G)(c:Cns A2 M N0 encN step I)
include r c
theorem zFs (m n:Nat)(hm:M+300000000<=m)(hn:300000000<=n){p:Ptr}{nd:Nd.Node}{s:σ}{H:AH}{o f:Nat->Prop}{left:Nat}(hq:Q p=some nd)(hz:Nd.size nd<=500)(b7:nd.leaf=true->nd.vals.length=nd.keys.length)(h:Wk N0 At Aw G I H o f (left+1) (left+1) (true,s))(d2:left<=1000000000):
  ∃t C K j v,Wk N0 At Aw G I t C K left left (step s (p,nd))/\Awk Aw o f H C K t/\NB t (Wid Aw C K) j v nd/\
   ((step s (p,nd)).1=false->f166 (dy (m+1)) n [.ptr Aw 0, .agg (qZ p),S fr,S to, .func 106 [] [], .yieldTo A2] H=some (.bool false,t))/\
   ((step s (p,nd)).1=true->nd.leaf=true->f166 (dy (m+1)) n [.ptr Aw 0, .agg (qZ p),S fr,S to, .func 106 [] [], .yieldTo A2] H=some (.bool true,t))/\
   ((step s (p,nd)).1=true->nd.leaf=false-> ∃F,Prs t F/\f166 (dy (m+1)) n [.ptr Aw 0, .agg (qZ p),S fr,S to, .func 106 [] [], .yieldTo A2] H=gP (jb 0 (yF n (vO (dy (m+1)) n) [.ptr Aw 0,S fr,S to, .func 106 [] [], .yieldTo A2, .ptr j 0, .int .i64 ((yH nd.keys fr:Nat):Int), .int .i64 ((yH nd.keys fr:Nat):Int)] F) (Y3 (dy (m+1)) n))):=by
 have hk:=h.ok r c;obtain⟨e0,b8⟩:=h.w;have lw:=hk.lt b8;have d3:=h.lo;obtain⟨H1,y,b1,p1,g1,m1,n1⟩:=box hk (.cells (qZ p) 42 1 false);obtain⟨H2,e2,p2⟩:=zO8 m n p1.ok p;have P2:=p1.trans p2;have W2:=h.prs r c P2;obtain⟨H3,e3,W3,s3⟩:=W2.less r c (left':=left);have N1:=p1.next;have N2:=p2.next;have N3:=s3.next
 obtain⟨H4,j,b4,V,g4,m4,n4⟩:=box s3.ok (.cells [.bool false, .nilSlice, .nilSlice, .nilSlice] 119 1 false);have W4:=W3.prs r c V;have N4:=V.next
 have b9:=W3.lt r c;have a1: ¬Wid Aw o f j:=fun W=>by have:=b9 _ W;omega
 obtain⟨t,e5,g5,s5,n5⟩:=y9 V.ok g4 (l':=[.bool false, .nilSlice, .nilSlice, .nilSlice]) rfl rfl;have a4:stN 4 (.ptr j 0) (.agg [.bool false, .nilSlice, .nilSlice, .nilSlice]) H4=some (qX,t):=e5;have W5:=W4.frame r c s5 (fun B a=>by subst a;exact⟨by omega,a1⟩);have N5:=s5.next
 obtain⟨v,F,C,Y,W6,J,a5,f6⟩:=W5.load r c (m+1) n (by omega) (by omega) hq hz;have N6:=J.s.next
 have a0: ¬Wid Aw C f j:=fun W=>by
  rcases J.adw.2 _ W with e | e
  .exact a1 e
  .omega
 have g6:F.h.get j=some (.cells [.bool false, .nilSlice, .nilSlice, .nilSlice] 119 1 false):=by rw[J.s.keep _ (by omega) a1];exact g5
 obtain⟨ks,vs,q,rfl,w1,w2,w3⟩:=a5;have a5:yE F (.agg [.bool nd.leaf,ks,vs,q]) nd:=⟨ks,vs,q,rfl,w1,w2,w3⟩;obtain⟨H7,e7,g7,Z,n7⟩:=y9 (W6.ok r c) g6 (l':=[.bool nd.leaf,ks,vs,q]) rfl (by simp[qW,w1.isCell,w2.isCell,w3.isCell];rfl);have L:stN 4 (.ptr j 0) (.agg [.bool nd.leaf,ks,vs,q]) F=some (qX,H7):=e7;have W7:=W6.frame r c Z (fun B a=>by subst a;exact⟨by omega,a0⟩);have c0:=a5.stp Z (fun B a e=>by have:=(f6 B a).1;omega);obtain⟨H8,e8,W8,s8⟩:=W7.noerr r c;have b3:=c0.stp s8 (fun B a e=>by have:=(f6 B a).1;omega);have N7:=Z.next;have N8:=s8.next
 have g8:H8.h.get j=some (.cells [.bool nd.leaf,ks,vs,q] 119 1 false):=by rw[s8.keep _ (by omega) (by omega)];exact g7
 obtain⟨H9,K,z,W9,a9⟩:=W8.tell r c m n (by omega) b3 hz b7 (fun B a=>(f6 B a).2);have c1:NB H8 (Wid Aw C f) j (.agg [.bool nd.leaf,ks,vs,q]) nd:=⟨⟨_,_,rfl,g8⟩,b3,a0,fun B a=>(f6 B a).2⟩;have b5:=c1.adw (W8.ok r c) a9.adw;have g9:H9.h.get j=some (.cells [.bool nd.leaf,ks,vs,q] 119 1 false):=by rw[a9.s.keep _ (by omega) a0];exact g8
 obtain⟨c2,a7,c3⟩:=aI (dy (m+1)) n (by omega) (W9.ok r c) (v:= .agg [.bool nd.leaf,ks,vs,q]) (nd:=nd) (key:=fr) b5.nv.node (zG7 hz);have c4:Stp (Wid Aw o f) H H3:=(Prs.stp P2).trans (s3.mono fun B _ a=> .inr (.inr a));have st4:Stp (Wid Aw o f) H H4:=c4.trans V.stp;have c5:Stp (Wid Aw o f) H t:=Stp.thru st4 s5 fun B a=> .inl (by omega)
 have c6:Stp (Wid Aw o f) H F:=c5.trans J.s;have c7:Stp (Wid Aw o f) H H7:=Stp.thru c6 Z fun B a=> .inl (by omega)
 have c8:Stp (Wid Aw o f) H H8:=Stp.thru c7 s8 fun B a=> .inr (.inr (.inr a))
 have c9:Stp (Wid Aw o f) H H9:=Stp.thru c8 a9.s fun B a=>by
  rcases J.adw.2 B a with e | e
  .exact .inr e
  .exact .inl (by omega)
 refine⟨H9,C,K,j, .agg [.bool nd.leaf,ks,vs,q],W9,⟨c9,fun B a=>(J.g B a).imp id fun e=>by omega,fun B a=>(a9.i B a).imp id fun e=>by omega⟩,b5, ?_⟩;have N:=W2.w;have O:=W3.w;have T:=W5.w;have U:=W8.w;obtain⟨x2,N⟩:=N;obtain⟨x3,O⟩:=O;obtain⟨x5,T⟩:=T;obtain⟨x8,U⟩:=U;have b6:y≠Aw:=by omega
 have d4: ∀ {f:Nat->Prop},¬Wid Aw o f y->True:=fun _=>trivial
 have q3:H3.h.get y=some (.cells (qZ p) 42 1 false):=by rw[s3.keep _ (by omega) b6];exact Prs.get p2 p1.ok g1
 have q5:t.h.get y=some (.cells (qZ p) 42 1 false):=by rw[s5.keep _ (by omega) (by omega),V.keep _ (by omega) (fun x=>x)];exact q3
 have d0: ¬Wid Aw o f y:=fun W=>by have:=h.lt r c _ W;omega
 have q8:H8.h.get y=some (.cells (qZ p) 42 1 false):=by rw[s8.keep _ (by omega) b6,Z.keep _ (by omega) (by omega),J.s.keep _ (by omega) d0];exact q5
 have a2:((left+1:Nat):Int) - ((1:Nat):Int)=((left:Nat):Int):=by omega
 have a3: ¬((left:Nat):Int)< ((0:Nat):Int):=by omega
 have a8: ¬(((0:Nat):Int)≠((0:Nat):Int)):=by omega
 have d1:Eng.keyOk (1::[6,6,10]) (.agg (qZ p))=true:=rfl;have b0:lkM (1::[6,6,10]) (.agg [.bool false, .nilSlice, .nilSlice, .nilSlice]) true .nilMap (.agg (qZ p)) H3=some (.tuple [.agg [.bool false, .nilSlice, .nilSlice, .nilSlice], .bool false]):=by
  simp only[lkM,d1,cond_true];rfl
 have u: ∀ {H:AH},H.h.get y=some (.cells (qZ p) 42 1 false)->ldN 3 (.ptr y 0) H=some (.agg (qZ p)):=fun g=>by rw[qY g];rfl
 have b2:bxV 42 (.agg (qZ p))=some (.cells (qZ p) 42 1 false,fun A=> .ptr A 0):=rfl;have r1:ldN 3 (.ptr y 0) H1=some (.agg (qZ p)):=u g1;have r9:ldN 4 (.ptr j 0) H9=some (.agg [.bool nd.leaf,ks,vs,q]):=vU g9 rfl;have r8:ldN 4 (.ptr j 0) H8=some (.agg [.bool nd.leaf,ks,vs,q]):=vU g8 rfl;refine⟨fun hb=> ?_,fun hb hl=> ?_,fun hb hl=>⟨c2,c3, ?_⟩⟩
 .rw[hb]at z;simp(maxSteps:=999999)(disch:=omega) only[f166,KY,eZ,b2,b1,r1,e2,qT N,a2,e3,qT O,a3,b0,u q3,qV,nth,b4,a4,qT T,u q5,Y,L,e8,qT U,a8,u q8,r8,z]
 .rw[hb]at z;rw[hl]at Y L r8 z g9;simp(maxSteps:=999999)(disch:=omega) only[f166,KY,eZ,b2,b1,r1,e2,qT N,a2,e3,qT O,a3,b0,u q3,qV,nth,b4,a4,qT T,u q5,Y,L,e8,qT U,a8,u q8,r8,z,qT g9]
 .rw[hb]at z;rw[hl]at Y L r8 z g9 r9 a7;rw[gH hl rfl fr]at a7;simp(maxSteps:=999999)(disch:=omega) only[f166,KY,eZ,b2,b1,r1,e2,qT N,a2,e3,qT O,a3,b0,u q3,qV,nth,b4,a4,qT T,u q5,Y,L,e8,qT U,a8,u q8,r8,z,qT g9,r9,a7]
end
open Go.Nd (Ptr sumL leafOf)
open Go.Bt
theorem l0_go (D:Dyn)(n:Nat){H H':AH}{A2 Aw f first i:Nat}{fr to:Str}{nd:Nd.Node}{v:AV}{W:Nat->Prop}{b:Bool}(nb:NB H W f v nd)(hi:i<nd.kids.length)(T:nd.kids.length=nd.keys.length+1)(U:i<=1000000)
  (y:i=first\/(first<i/\yR to (nd.keys.getD (i - 1) [])=true))
  (o:D.fn 166 [.ptr Aw 0, .agg (qZ nd.kids[i]),S fr,S to, .func 106 [] [], .yieldTo A2] H=some (.bool b,H')):
  vO D n [.ptr Aw 0,S fr,S to, .func 106 [] [], .yieldTo A2, .ptr f 0, .int .i64 ((first:Nat):Int), .int .i64 ((i:Nat):Int)] H=some (bif b then .norm [.ptr Aw 0,S fr,S to, .func 106 [] [], .yieldTo A2, .ptr f 0, .int .i64 ((first:Nat):Int), .int .i64 ((i+1:Nat):Int)]else .ret (.bool false),H'):=by
 obtain⟨l,e,rfl,g⟩:=nb.g;obtain⟨ks,vs,J,hl,K,V,L⟩:=nb.nv;simp only[AV.agg.injEq]at hl;subst hl;have hp:u4 H J nd.kids:=L.row;have N:Strs H ks nd.keys:=K.row;obtain⟨Y,p,h⟩:=hp.at hi;have j:((i:Nat):Int)< ((nd.kids.length:Nat):Int):=by omega
 have hi1:((i:Nat):Int)+((1:Nat):Int)=((i+1:Nat):Int):=by omega
 have u:(AV.str 0 0)=S []:=rfl;rcases y with rfl | ⟨Z,q⟩
 .have a: ¬((i:Nat):Int)< ((i:Nat):Int):=by omega
  cases b<;>simp(maxSteps:=999999)(disch:=omega) only[vO,eZ,cond_true,cond_false,qT g,hp.lnSl,j,a,p,h,o,hi1]
 .have a:((first:Nat):Int)< ((i:Nat):Int):=by omega
  by_cases s:to=[]
  .have m:bO .neq (S to) (S [])=some (.bool false):=by rw[xV];simp[s]
   cases b<;>simp(maxSteps:=999999)(disch:=omega) only[vO,eZ,cond_true,cond_false,qT g,hp.lnSl,j,a,u,m,p,h,o,hi1]
  .have m:bO .neq (S to) (S [])=some (.bool true):=by rw[xV];simp[s]
   have t:i - 1<nd.keys.length:=by omega
   obtain⟨qk,O,z⟩:=N.at t;have x:((i:Nat):Int) - ((1:Nat):Int)=((i - 1:Nat):Int):=by omega
   have C:ltS nd.keys[i - 1] to=true:=by
    rw[zT,zH t,Option.getD_some]at q;simp only[yR,Bool.or_eq_true,List.isEmpty_iff,s,false_or]at q;exact q
   have F:bO .geq (S nd.keys[i - 1]) (S to)=some (.bool false):=by rw[xW,C];rfl
   cases b<;>simp(maxSteps:=999999)(disch:=omega) only[vO,eZ,cond_true,cond_false,qT g,hp.lnSl,j,a,u,m,x,O,z,F,p,h,o,hi1]
theorem zNm (D:Dyn)(n:Nat){H:AH}{A2 Aw h first i:Nat}{fr to:Str}{nd:Nd.Node}{v:AV}{W:Nat->Prop}(nb:NB H W h v nd)(J:nd.kids.length=nd.keys.length+1)(K:i<=1000000)
  (p:nd.kids.length<=i\/(first<i/\i<nd.kids.length/\yR to (nd.keys.getD (i - 1) [])=false)):
  vO D n [.ptr Aw 0,S fr,S to, .func 106 [] [], .yieldTo A2, .ptr h 0, .int .i64 ((first:Nat):Int), .int .i64 ((i:Nat):Int)] H=some (.exit 0 [],H):=by
 obtain⟨l,e,rfl,g⟩:=nb.g;obtain⟨ks,vs,u,hl,x,L,y⟩:=nb.nv;simp only[AV.agg.injEq]at hl;subst hl;have hp:u4 H u nd.kids:=y.row;have z:Strs H ks nd.keys:=x.row;have C:(AV.str 0 0)=S []:=rfl;rcases p with j | ⟨N,hi,a⟩
 .have f: ¬((i:Nat):Int)< ((nd.kids.length:Nat):Int):=by omega
  simp(maxSteps:=999999)(disch:=omega) only[vO,eZ,cond_true,cond_false,qT g,hp.lnSl,f]
 .have f:((i:Nat):Int)< ((nd.kids.length:Nat):Int):=by omega
  have q:((first:Nat):Int)< ((i:Nat):Int):=by omega
  have m:i - 1<nd.keys.length:=by omega
  rw[zT,zH m,Option.getD_some]at a;simp only[yR,Bool.or_eq_false_iff]at a;have s:bO .neq (S to) (S [])=some (.bool true):=by
   rw[xV];have:to≠[]:=fun e=>by rw[e]at a;simp at a
   simp[this]
  obtain⟨O,F,t⟩:=z.at m;have o:((i:Nat):Int) - ((1:Nat):Int)=((i - 1:Nat):Int):=by omega
  have j:bO .geq (S nd.keys[i - 1]) (S to)=some (.bool true):=by rw[xW,a.2];rfl
  simp(maxSteps:=999999)(disch:=omega) only[vO,eZ,cond_true,cond_false,qT g,hp.lnSl,f,q,C,s,o,F,t,j]
def zQ8 {σ:Type}(N0 At Aw M A2:Nat)(Q:Ptr->Option Nd.Node)(G:AH->(Nat->Prop)->Prop)(step:σ->Ptr×Nd.Node->Bool×σ)(I:Nat->Bool×σ->AH->(Nat->Prop)->Prop)(fr to:Str)(h:Nat):Prop:=
 ∀(m n:Nat) (p:Ptr) (nd:Nd.Node) (s:σ) (H:AH) (i j:Nat->Prop) (left:Nat),M+h+300000000<=m->300000000<=n->Q p=some nd->Vs Q h nd->Wk N0 At Aw G I H i j left left (true,s)->(xH Q fr to h p nd).length<=left->left<=1000000000->
  ∃H' a f left',f166 (dy (m+1)) n [.ptr Aw 0, .agg (qZ p),S fr,S to, .func 106 [] [], .yieldTo A2] H=some (.bool (kE step (xH Q fr to h p nd) s).1,H')/\Wk N0 At Aw G I H' a f left' left' (kE step (xH Q fr to h p nd) s)/\Awk Aw i j H a f H'/\left<=left'+(xH Q fr to h p nd).length/\left'<=left
section
variable {σ:Type}{At N0 k M A2 Aw:Nat}{root:Ptr}{Q:Ptr->Option Nd.Node}{G:AH->(Nat->Prop)->Prop}{step:σ->Ptr×Nd.Node->Bool×σ}{I:Nat->Bool×σ->AH->(Nat->Prop)->Prop}{fr to:Str}
variable (r:Rdr At N0 k root Q G)(c:Cns A2 M N0 encN step I)
include r c
theorem zFr {h m n J:Nat}{nd:Nd.Node}{v:AV}(N:zQ8 N0 At Aw M A2 Q G step I fr to h)(u:nd.kids.length=nd.keys.length+1)(y:Nd.size nd<=500)(F: ∀p∈nd.kids,∃f,Q p=some f/\Vs Q h f)(hm:M+h+300000000<=m):
  ∀(rr i q:Nat) {s:σ} {H:AH} {j o:Nat->Prop} {left:Nat},yH nd.keys fr<=i->i+rr=yH nd.keys fr+QM nd.keys to (yH nd.keys fr)->rr<q->Wk N0 At Aw G I H j o left left (true,s)->NB H (Wid Aw j o) J v nd->(((nd.kids.drop i).take rr).flatMap (zB7 Q (xH Q fr to h))).length<=left->left<=1000000000->
   ∃H' K L left',jb 0 (yF q (vO (dy (m+2)) n) [.ptr Aw 0,S fr,S to, .func 106 [] [], .yieldTo A2, .ptr J 0, .int .i64 ((yH nd.keys fr:Nat):Int), .int .i64 ((i:Nat):Int)] H) (Y3 (dy (m+2)) n)=some (.ret (.bool (kE step (((nd.kids.drop i).take rr).flatMap (zB7 Q (xH Q fr to h))) s).1),H')/\
    Wk N0 At Aw G I H' K L left' left' (kE step (((nd.kids.drop i).take rr).flatMap (zB7 Q (xH Q fr to h))) s)/\Awk Aw j o H K L H'/\left<=left'+(((nd.kids.drop i).take rr).flatMap (zB7 Q (xH Q fr to h))).length/\left'<=left
 | 0,i,0,_,_,_,_,_,_,_,hk,_,_,_,_=>by omega
 | 0,i,q+1,s,H,j,o,left,hf,he,_,wk,nb,_,_=>by
  have x:=uD nd.keys fr;have hc:=J2 nd.keys to _ x;have W:nd.keys.length<=500:=by obtain⟨a,_,_⟩:=aS y;exact a
  refine⟨H,j,o,left, ?_,by simpa[kE]using wk,Awk.refl (wk.ok r c),by simp,Nat.le_refl _⟩;have Y:nd.kids.length<=i\/(yH nd.keys fr<i/\i<nd.kids.length/\yR to (nd.keys.getD (i - 1) [])=false):=by
   by_cases hi:nd.kids.length<=i
   .exact .inl hi
   .have h1:1<=QM nd.keys to (yH nd.keys fr):=Nat.succ_le_succ (Nat.zero_le _);refine .inr ⟨by omega,by omega, ?_⟩;have hd:(nd.keys.drop (yH nd.keys fr))[((nd.keys.drop (yH nd.keys fr)).takeWhile (yR to)).length]? =some (nd.keys.getD (i - 1) []):=by
     rw[qN,zT];have:yH nd.keys fr+((nd.keys.drop (yH nd.keys fr)).takeWhile (yR to)).length=i - 1:=by
      have:QM nd.keys to (yH nd.keys fr)=((nd.keys.drop (yH nd.keys fr)).takeWhile (yR to)).length+1:=rfl;omega
     rw[this,zH (by omega),Option.getD_some]
    exact gJ hd
  rw[y7 (zNm (dy (m+2)) n nb u (by omega) Y)];simp only[List.take_zero,List.flatMap_nil,kE];simp only[jb,Y3,eZ];rfl
 | rr+1,i,0,_,_,_,_,_,_,_,hk,_,_,_,_=>by omega
 | rr+1,i,q+1,s,H,j,o,left,hf,he,hkf,wk,nb,hl,hlf=>by
  have x:=uD nd.keys fr;have hc:=J2 nd.keys to _ x;have W:nd.keys.length<=500:=by obtain⟨a,_,_⟩:=aS y;exact a
  have hi:i<nd.kids.length:=by omega
  have hL:((nd.kids.drop i).take (rr+1)).flatMap (zB7 Q (xH Q fr to h))=zB7 Q (xH Q fr to h) nd.kids[i]++((nd.kids.drop (i+1)).take rr).flatMap (zB7 Q (xH Q fr to h)):=by
   rw[zX hi,List.take_succ_cons,zW]
  obtain⟨f,O,hv⟩:=F _ (qE hi);have V:zB7 Q (xH Q fr to h) nd.kids[i]=xH Q fr to h nd.kids[i] f:=by simp only[zB7,O]
  rw[hL,V]at hl⊢;rw[zL]at hl;obtain⟨H1,Z,a0,T,e1,t,z,l1,a3⟩:=N m (m+1) _ _ _ _ _ _ _ hm (by omega) O hv wk (by omega) hlf;have a4:i=yH nd.keys fr\/(yH nd.keys fr<i/\yR to (nd.keys.getD (i - 1) [])=true):=by
   by_cases a5:i=yH nd.keys fr
   .exact .inl a5
   .refine .inr ⟨by omega, ?_⟩;have a6:i - 1 - yH nd.keys fr< ((nd.keys.drop (yH nd.keys fr)).takeWhile (yR to)).length:=by
     have:QM nd.keys to (yH nd.keys fr)=((nd.keys.drop (yH nd.keys fr)).takeWhile (yR to)).length+1:=rfl;omega
    refine aN a6 ?_;rw[qN,show yH nd.keys fr+(i - 1 - yH nd.keys fr)=i - 1 by omega,zT,zH (by omega),Option.getD_some]
  have hb:=l0_go (dy (m+2)) n (Aw:=Aw) (A2:=A2) (fr:=fr) nb hi u (by omega) a4 (by rw[zIJ];exact e1);rw[zDk]
  cases hr:(kE step (xH Q fr to h nd.kids[i] f) s).1 with
  | false=>
   rw[hr]at hb;simp only[cond_false]at hb⊢;have C:kE step (xH Q fr to h nd.kids[i] f) s=(false,(kE step (xH Q fr to h nd.kids[i] f) s).2):=by rw[<-hr]
   rw[C]at t;refine⟨H1,Z,a0,T, ?_,t,z,by rw[zL];omega,a3⟩;rw[vV hb];rfl
  | true=>
   rw[hr]at hb;simp only[cond_true]at hb⊢;have C:kE step (xH Q fr to h nd.kids[i] f) s=(true,(kE step (xH Q fr to h nd.kids[i] f) s).2):=by rw[<-hr]
   rw[C]at t;obtain⟨H2,a7,a8,U,e2,a9,a2,l2,b0⟩:=zFr N u y F hm rr (i+1) q (by omega) (by omega) (by omega) t (nb.adw (wk.ok r c) z.adw) (by omega) (by omega);refine⟨H2,a7,a8,U, ?_,a9,z.trans a2,by rw[zL];omega,by omega⟩;rw[jF hb];exact e2
theorem zFt: ∀h,zQ8 N0 At Aw M A2 Q G step I fr to h
 | 0=>fun m n p nd s H Y Z left hm y z C F hl O=>by
  obtain⟨j,v2,i⟩:=C;have t:xH Q fr to 0 p nd=[(p,nd)]:=rfl;rw[t]at hl⊢;obtain⟨l,rfl⟩: ∃l,left=l+1:=⟨left - 1,by simp at hl;omega⟩;obtain⟨J,u,x,S,v,f,o,nb,c1,c2,_⟩:=zFs r c (fr:=fr) (to:=to) m n (by omega) y z i (fun _=>v2) F (by omega);have N:kE step [(p,nd)] s=step s (p,nd):=by
   simp only[kE]
   cases hb:(step s (p,nd)).1 with
   | true=>simp only[cond_true];rw[<-hb]
   | false=>simp only[cond_false];rw[<-hb]
  rw[N];refine⟨J,u,x,l, ?_,f,o,by simp,by omega⟩
  cases hb:(step s (p,nd)).1 with
  | true=>exact c2 hb j
  | false=>exact c1 hb
 | h+1=>fun m n p nd s H Y Z left hm y z C F hl O=>by
  obtain⟨j,v2,i,v4⟩:=C;have t:xH Q fr to (h+1) p nd=(p,nd)::((nd.kids.drop (yH nd.keys fr)).take (QM nd.keys to (yH nd.keys fr))).flatMap (zB7 Q (xH Q fr to h)):=rfl;rw[t]at hl⊢;simp only[zO]at hl⊢;obtain⟨l,rfl⟩: ∃l,left=l+1:=⟨left - 1,by omega⟩;obtain⟨q,rfl⟩: ∃q,m=q+1:=⟨m - 1,by omega⟩;obtain⟨J,u,x,S,v,f,o,nb,c1,_,c3⟩:=zFs r c (fr:=fr) (to:=to) (q+1) n (by omega) y z i (fun e=>by rw[j]at e;cases e) F (by omega)
  cases hb:(step s (p,nd)).1 with
  | false=>
   have K:step s (p,nd)=(false,(step s (p,nd)).2):=by rw[<-hb]
   refine⟨J,u,x,l, ?_, ?_,o,by omega,by omega⟩
   .simp only[kE,hb,cond_false];exact c1 hb
   .simp only[kE,hb,cond_false];rw[K]at f;exact f
  | true=>
   have K:step s (p,nd)=(true,(step s (p,nd)).2):=by rw[<-hb]
   rw[K]at f;obtain⟨H6,L,e6⟩:=c3 hb j;have a0:nd.keys.length<=500:=by obtain⟨a,_,_⟩:=aS i;exact a
   have T:=uD nd.keys fr;have hc:=J2 nd.keys to _ T;obtain⟨H7,U,V,l7,e7,W,a7,b7,a1⟩:=zFr r c (m:=q) (n:=n) (zFt h) v2 i v4 (by omega) (QM nd.keys to (yH nd.keys fr)) (yH nd.keys fr) n (Nat.le_refl _) rfl (by omega) (f.prs r c L) (nb.adw (f.ok r c) ⟨L.stp,fun B hB=> .inl hB⟩) (by omega) (by omega);refine⟨H7,U,V,l7, ?_, ?_,o.trans ((Awk.prs L).trans a7),by omega,by omega⟩
   .rw[e6,e7];simp only[kE,hb,cond_true];rfl
   .simp only[kE,hb,cond_true];exact W
end
open Go.Nd (Ptr sumL leafOf whereN)
open Go.Bt
def encP (_:AH)(_:Nat->Prop)(x:Str×Str)(az:List AV):Prop:=az=[.agg [S x.1,S x.2]]
def lpP (b:Bool)(a f h:Nat):ALoop:=⟨bif b then .ready else .done,bif b then none else some .ret,164,0,[2,3,5],[.ptr a 0, .ptr f 0, .ptr h 0]⟩
def zJi (A2 a f h B:Nat):Prop:=B=A2\/B=a\/B=f\/B=h
structure Inn2 {σ:Type}(I:Nat->Bool×σ->AH->(Nat->Prop)->Prop)(N0 Bf Bt By A1:Nat)(fr to:Str)(b:Nat)(bo:Bool)(s:σ)(H:AH)(Wo:Nat->Prop):Prop where
 i:I b (bo,s) H Wo
 bf:Box H Bf (S fr)
 bt:Box H Bt (S to)
 by':Box H By (.yieldTo A1)
 lo:N0<=Bf/\N0<=Bt/\N0<=By
 nw: ¬Wo Bf/\ ¬Wo Bt/\ ¬Wo By
def I2 {σ:Type}(I:Nat->Bool×σ->AH->(Nat->Prop)->Prop)(N0 A2 a f i A1:Nat)(fr to:Str)(b:Nat)(x:Bool×σ)(H:AH)(W:Nat->Prop):Prop:=
 ∃j m,Inn2 I N0 a f i A1 fr to (500*b) m x.2 H j/\(x.1=true->m=true)/\H.h.get A2=some (.loop (lpP x.1 a f i))/\N0<=A2/\ ¬j A2/\ ∀B,W B↔(j B\/zJi A2 a f i B)
section
variable {σ:Type}{A1 M N0:Nat}{step:σ->Str×Str->Bool×σ}{I:Nat->Bool×σ->AH->(Nat->Prop)->Prop}(c:Cns A1 M N0 encP step I)
include c
theorem Inn2.adw {p q t:Nat}{fr to:Str}{b b':Nat}{u bo':Bool}{s s':σ}{H H':AH}{m f:Nat->Prop}(h:Inn2 I N0 p q t A1 fr to b u s H m)(a:Adw m H f H')(i:I b' (bo',s') H' f):Inn2 I N0 p q t A1 fr to b' bo' s' H' f:=by
 have j:=c.ok h.i;have o: ∀ {B:Nat} {x:AV},Box H B x-> ¬m B-> ¬f B:=fun hb v y=>by
  rcases a.2 _ y with e | e
  .exact v e
  .have:=hb.lt j;omega
 exact⟨i,h.bf.mono j a.1 h.nw.1,h.bt.mono j a.1 h.nw.2.1,h.by'.mono j a.1 h.nw.2.2,h.lo,o h.bf h.nw.1,o h.bt h.nw.2.1,o h.by' h.nw.2.2⟩
theorem Inn2.frame {f j m:Nat}{fr to:Str}{b:Nat}{q:Bool}{s:σ}{H H':AH}{o S:Nat->Prop}(h:Inn2 I N0 f j m A1 fr to b q s H o)(k:Stp S H H')(a: ∀B,S B-> ¬o B/\B≠f/\B≠j/\B≠m):Inn2 I N0 f j m A1 fr to b q s H' o:=by
 have p:=c.ok h.i;exact⟨c.frame h.i k fun B t=>(a B t).1,h.bf.mono p k fun e=>(a _ e).2.1 rfl,h.bt.mono p k fun e=>(a _ e).2.2.1 rfl,h.by'.mono p k fun e=>(a _ e).2.2.2 rfl,h.lo,h.nw⟩
theorem Inn2.drop {a f j:Nat}{fr to:Str}{b b':Nat}{m:Bool}{s:σ}{H:AH}{o:Nat->Prop}(h:Inn2 I N0 a f j A1 fr to b m s H o)(hb:b'<=b):Inn2 I N0 a f j A1 fr to b' m s H o:=⟨c.mono h.i hb,h.bf,h.bt,h.by',h.lo,h.nw⟩
theorem zB3 {m n C Bf t u:Nat}{fr to:Str}{nd:Nd.Node}{v:AV}(hm:M<=m)(a4:nd.vals.length=nd.keys.length)(hz:nd.keys.length<=500):
  ∀(rr i x:Nat) {b:Nat} {s:σ} {H:AH} {f:Nat->Prop},i+rr=nd.keys.length->rr<x->Inn2 I N0 Bf t u A1 fr to (b+rr) true s H f->NB H f C v nd->
   ∃H' Y F e,jb 2 (yF x (bJ (dy (m+1)) n) [.ptr t 0, .ptr u 0, .ptr C 0, .int .i64 ((i:Nat):Int)] H) (KZ (dy (m+1)) n)=some (e,H')/\
    Inn2 I N0 Bf t u A1 fr to b F (kE (kX to step) ((nd.keys.zip nd.vals).drop i) s).2 H' Y/\Adw f H Y H'/\((kE (kX to step) ((nd.keys.zip nd.vals).drop i) s).1=true->F=true/\e= .norm [])/\((kE (kX to step) ((nd.keys.zip nd.vals).drop i) s).1=false->e= .ret (.tuple []))
 | _,_,0,_,_,_,_,_,hk,_,_=>by omega
 | 0,i,x+1,b,s,H,f,he,_,hi,nb=>by
  obtain⟨l,e,rfl,g⟩:=nb.g;obtain⟨ks,vs,ps,hl,O,w2,w3⟩:=nb.nv;simp only[AV.agg.injEq]at hl;subst hl;have o:Strs H ks nd.keys:=O.row;have a3:(nd.keys.zip nd.vals).drop i=[]:=zZ (by simp;omega);rw[a3];refine⟨H,f,true, .norm [], ?_,hi,Adw.refl (c.ok hi.i),fun _=>⟨rfl,rfl⟩,fun h=>by simp[kE]at h⟩;have p: ¬((i:Nat):Int)< ((nd.keys.length:Nat):Int):=by omega
  rw[y7 (i:=2) (vs':=[]) (H':=H) (by simp(maxSteps:=999999)(disch:=omega) only[bJ,eZ,qT g,o.lnSl,p])];simp only[jb,KZ,eZ];rfl
 | rr+1,i,x+1,b,s,H,f,he,hkf,hi,nb=>by
  have a5:=nb;obtain⟨l,e,rfl,g⟩:=nb.g;obtain⟨ks,vs,ps,hl,O,w2,w3⟩:=nb.nv;simp only[AV.agg.injEq]at hl;subst hl;have o:Strs H ks nd.keys:=O.row;have hy:Strs H vs nd.vals:=w2.row;have a6:i<nd.keys.length:=by omega
  have a7:i<nd.vals.length:=by omega
  obtain⟨qk,T,L⟩:=o.at a6;obtain⟨qv,iv,Z⟩:=hy.at a7;have N:((i:Nat):Int)< ((nd.keys.length:Nat):Int):=by omega
  have hi1:((i:Nat):Int)+((1:Nat):Int)=((i+1:Nat):Int):=by omega
  have U:(AV.str 0 0)=S []:=rfl;have hL:(nd.keys.zip nd.vals).drop i=(nd.keys[i],nd.vals[i])::(nd.keys.zip nd.vals).drop (i+1):=by
   rw[zX (by simp;omega),List.getElem_zip]
  rw[hL];have a0:wY [(0,1),(1,1)] [S [],S []] [(0,S nd.keys[i]),(1,S nd.vals[i])]=some (.agg [S nd.keys[i],S nd.vals[i]]):=rfl;have W: ∀az H,callV [(107,f107 (dy (m+1)) n),(79,f79 (dy (m+1)) n)] (dy (m+1)) (.yieldTo A1) az H=(dy (m+1)).yld A1 az H:=fun _ _=>rfl
  cases j:yR to nd.keys[i]with
  | false=>
   have y:kX to step s (nd.keys[i],nd.vals[i])=(false,s):=by simp only[kX,j,cond_false]
   simp only[kE,y,cond_false];refine⟨H,f,true, .ret (.tuple []), ?_,hi.drop c (b':=b) (by omega),Adw.refl (c.ok hi.i),fun h=>by simp at h,fun _=>rfl⟩;simp only[yR,Bool.or_eq_false_iff]at j;have q:bO .neq (S to) (S [])=some (.bool true):=by
    rw[xV];have:to≠[]:=fun e=>by rw[e]at j;simp at j
    simp[this]
   have p:bO .geq (S nd.keys[i]) (S to)=some (.bool true):=by rw[xW,j.2];rfl
   rw[vV (v:= .tuple []) (H':=H) (by simp(maxSteps:=999999)(disch:=omega) only[bJ,eZ,qT g,o.lnSl,N,hi.bt.ld,U,q,T,L,p])];rfl
  | true=>
   obtain⟨H1,a8,J,i1,K⟩:=c.run m hm hi.i (a:=(nd.keys[i],nd.vals[i])) (az:=[.agg [S nd.keys[i],S nd.vals[i]]]) rfl;have z:=hi.adw c K (b':=b+rr) (bo':=(step s (nd.keys[i],nd.vals[i])).1) (s':=(step s (nd.keys[i],nd.vals[i])).2) i1;have y:kX to step s (nd.keys[i],nd.vals[i])=step s (nd.keys[i],nd.vals[i]):=by simp only[kX,j,cond_true]
   have body:bJ (dy (m+1)) n [.ptr t 0, .ptr u 0, .ptr C 0, .int .i64 ((i:Nat):Int)] H=some (bif (step s (nd.keys[i],nd.vals[i])).1 then .norm [.ptr t 0, .ptr u 0, .ptr C 0, .int .i64 ((i+1:Nat):Int)]else .ret (.tuple []),H1):=by
    by_cases V:to=[]
    .have q:bO .neq (S to) (S [])=some (.bool false):=by rw[xV];simp[V]
     cases hb:(step s (nd.keys[i],nd.vals[i])).1<;>rw[hb]at J<;>simp(maxSteps:=999999)(disch:=omega) only[bJ,eZ,cond_true,cond_false,qT g,o.lnSl,N,hi.bt.ld,hi.by'.ld,U,q,T,L,iv,Z,a0,W,J,hi1]
    .have q:bO .neq (S to) (S [])=some (.bool true):=by rw[xV];simp[V]
     have a9:ltS nd.keys[i] to=true:=by simpa[yR,V]using j
     have p:bO .geq (S nd.keys[i]) (S to)=some (.bool false):=by rw[xW,a9];rfl
     cases hb:(step s (nd.keys[i],nd.vals[i])).1<;>rw[hb]at J<;>simp(maxSteps:=999999)(disch:=omega) only[bJ,eZ,cond_true,cond_false,qT g,o.lnSl,N,hi.bt.ld,hi.by'.ld,U,q,T,L,p,iv,Z,a0,W,J,hi1]
   have b0:=a5.adw (c.ok hi.i) K
   cases hb:(step s (nd.keys[i],nd.vals[i])).1 with
   | false=>
    rw[hb]at body z;simp only[cond_false]at body;simp only[kE,y,hb,cond_false];refine⟨H1,a8,false, .ret (.tuple []), ?_,z.drop c (b':=b) (by omega),K,fun h=>by simp at h,fun _=>rfl⟩;rw[vV body];rfl
   | true=>
    rw[hb]at body z;simp only[cond_true]at body;simp only[kE,y,hb,cond_true];obtain⟨H2,b1,F,e,e2,i2,a2,t2,f2⟩:=zB3 hm a4 hz rr (i+1) x (by omega) (by omega) z b0;refine⟨H2,b1,F,e, ?_,i2,K.trans a2,t2,f2⟩;rw[jF body];exact e2
end
open Go.Nd (Ptr sumL leafOf whereN)
open Go.Bt
section
variable {σ:Type}{A1 M N0:Nat}{step:σ->Str×Str->Bool×σ}{I:Nat->Bool×σ->AH->(Nat->Prop)->Prop}(c:Cns A1 M N0 encP step I)
include c
omit c in
theorem zII (m:Nat){H:AH}{A2 a f i:Nat}(j:H.h.get A2=some (.loop (lpP true a f i)))(az:List AV):(dy (m+1)).yld A2 az H=dL (dy m) m A2 (lpP true a f i) az H:=by
 show Q3 (tabR (dy m) m) A2 az H=_;simp only[Q3,j];rfl
theorem zHg {A2 j o q:Nat}{fr to:Str}{J:Nat}{s:σ}{a:Ptr×Nd.Node}{az:List AV}{H:AH}{W:Nat->Prop}(m:Nat)(hm:M+300000000<=m)(hi:I2 I N0 A2 j o q A1 fr to (J+1) (true,s) H W)(he:encN H W a az):
  ∃H' W',(dy (m+1)).yld A2 az H=some (.bool (wD fr to step s a).1,H')/\I2 I N0 A2 j o q A1 fr to J (wD fr to step s a) H' W'/\Adw W H W' H':=by
 obtain⟨T,bo,hi,hb,L,a8,U,u⟩:=hi;obtain rfl:=hb rfl;obtain⟨p,nd⟩:=a;obtain⟨v,rfl,nv,hz,a9,a3⟩:=he;simp only at nv hz a9 a3⊢;obtain⟨z,rfl⟩: ∃z,m=z+1:=⟨m - 1,by omega⟩;rw[zII (z+1) L];have N:=c.ok hi.i;have lA:=N.lt L;have n2:A2≠j/\A2≠o/\A2≠q:=by
  refine⟨fun e=> ?_,fun e=> ?_,fun e=> ?_⟩
  .obtain⟨_,h⟩:=hi.bf;rw[<-e,L]at h;cases h
  .obtain⟨_,h⟩:=hi.bt;rw[<-e,L]at h;cases h
  .obtain⟨_,h⟩:=hi.by';rw[<-e,L]at h;cases h
 have c4:=hi.bf.lt N;have c5:=hi.bt.lt N;have c6:=hi.by'.lt N;have b8: ∀B,kR v B-> ¬T B:=fun B f w=>a3 B f ((u B).2 (.inl w))
 have b9: ¬kR v A2:=fun f=>a3 A2 f ((u A2).2 (.inr (.inl rfl)))
 obtain⟨ks,vs,y,rfl,w1,w2,w3⟩:=nv;have nv:yE H (.agg [.bool nd.leaf,ks,vs,y]) nd:=⟨ks,vs,y,rfl,w1,w2,w3⟩;obtain⟨H1,V,b1,p1,g1,m1,n1⟩:=box N (.cells [.bool false, .nilSlice, .nilSlice, .nilSlice] 119 1 false);obtain⟨C,e2,g2,s2,c7⟩:=y9 p1.ok g1 (l':=[.bool nd.leaf,ks,vs,y]) rfl (by simp[qW,w1.isCell,w2.isCell,w3.isCell];rfl);have O:stN 4 (.ptr V 0) (.agg [.bool nd.leaf,ks,vs,y]) H1=some (qX,C):=e2;have P2:Prs H C:=p1.fresh s2 fun B f=>by omega
 have N1:=p1.next;have N2:=s2.next
 have b2:=Prs.get P2 N L;have a0: ∀K:AH->Rs,xN A2 C K=K (C.put A2 (.loop { lpP true j o q with state:= .busy})):=fun K=>by
  simp only[xN,b2,lpP,cond_true,yQ]
 have t:Stp (fun B=>B=A2) C (C.put A2 (.loop { lpP true j o q with state:= .busy})):=(Stp.refl s2.ok).put (s2.ok.lt b2) _ (.inr rfl);have g3:(C.put A2 (.loop { lpP true j o q with state:= .busy})).h.get A2=some (.loop { lpP true j o q with state:= .busy}):=by rw[AH.put_get,if_pos rfl]
 generalize C.put A2 (.loop { lpP true j o q with state:= .busy})=H3 at t g3 a0;have N3:=t.next
 have c0: ∀B,T B->B<H.next:=fun B f=>(c.lt hi.i B f).1
 have i3:=(hi.frame c P2 (fun _ x=>x.elim)).frame c t (fun B f=>by subst f;exact⟨U,n2⟩);have q3:H3.h.get V=some (.cells [.bool nd.leaf,ks,vs,y] 119 1 false):=by rw[t.keep _ (by omega) (by omega)];exact g2
 have c1:yE H3 (.agg [.bool nd.leaf,ks,vs,y]) nd:=(nv.prs P2).stp t fun B f e=>b9 (e▸f)
 have a4:NB H3 T V (.agg [.bool nd.leaf,ks,vs,y]) nd:=⟨⟨_,_,rfl,q3⟩,c1,fun w=>by have:=c0 _ w;omega,b8⟩;have hl:QI [2,3,5] (lpP true j o q).live=true:=rfl;have a2:(lpP true j o q).vals=[.ptr j 0, .ptr o 0, .ptr q 0]:=rfl;have b3:Stp W H H3:=(Prs.stp P2).trans (t.mono fun B _ f=>(u B).2 (.inr (.inl f)))
 cases S:nd.leaf with
 | false=>
  have a6:wD fr to step s (p,nd)=(true,s):=by simp only[wD,vI,S,cond_false,kE]
  rw[a6];rw[S]at q3 O;have s4:Stp (fun B=>B=A2) H3 (H3.put A2 (.loop (lpP true j o q))):=(Stp.refl t.ok).put (t.ok.lt g3) _ (.inr rfl);have b7:YB A2 none H3=some (.bool true,H3.put A2 (.loop (lpP true j o q))):=by simp only[YB,g3,yQ,lpP,cond_true]
  have i4:=i3.frame c s4 (fun B f=>by subst f;exact⟨U,n2⟩);refine⟨H3.put A2 (.loop (lpP true j o q)),W, ?_,⟨T,true,i4.drop c (b':=500*J) (by omega),fun _=>rfl,by rw[AH.put_get,if_pos rfl],a8,U,u⟩,⟨b3.trans (s4.mono fun B _ f=>(u B).2 (.inr (.inl f))),fun B f=> .inl f⟩⟩;simp(maxSteps:=999999)(disch:=omega) only[dL,eZ,hl,a2,cond_true,b1,O,a0,qT q3,VK];exact b7
 | true=>
  rw[S]at q3 O a4;obtain⟨H4,e4,Y⟩:=aI (dy (z+1)) (z+1) (by omega) t.ok (key:=fr) a4.nv.node (zG7 hz);have i4:=i3.frame c Y (fun _ x=>x.elim);have c2:NB H4 T V (.agg [.bool true,ks,vs,y]) nd:=a4.adw t.ok ⟨Y.stp,fun B f=> .inl f⟩;have c8:=Nd.whereN_le nd fr;have c3:nd.keys.length<=500:=by obtain⟨a,_,_⟩:=aS hz;exact a
  obtain⟨F,a1,b4,e,e5,i5,Z,t5,f5⟩:=zB3 c (m:=z) (n:=z+1) (by omega) (a9 S) c3 (nd.keys.length - whereN nd fr) (whereN nd fr) (z+1) (b:=500*J) (by omega) (by omega) (i4.drop c (b':=500*J+(nd.keys.length - whereN nd fr)) (by omega)) c2;have a6:wD fr to step s (p,nd)=kE (kX to step) ((nd.keys.zip nd.vals).drop (whereN nd fr)) s:=by simp only[wD,vI,S,cond_true]
  rw[a6];have N4:=Y.next;have N5:=Z.1.next
  have g4:H4.h.get A2=some (.loop { lpP true j o q with state:= .busy}):=Prs.get Y t.ok g3;have g5:F.h.get A2=some (.loop { lpP true j o q with state:= .busy}):=by rw[Z.1.keep _ (by omega) U];exact g4
  have a7:=c.ok i5.i;have b5: ¬a1 A2:=fun w=>by
   rcases Z.2 _ w with e | e
   .exact U e
   .omega
  have r4:ldN 4 (.ptr V 0) H3=some (.agg [.bool true,ks,vs,y]):=vU q3 rfl;have b6: ∀b:Bool,Stp (fun B=>B=A2) F (F.put A2 (.loop (lpP b j o q))):=fun b=>(Stp.refl a7).put (a7.lt g5) _ (.inr rfl)
  have run: ∀b:Bool,YB A2 (bif b then none else some .ret) F=some (.bool b,F.put A2 (.loop (lpP b j o q))):=fun b=>by
   cases b<;>simp only[YB,g5,yQ,lpP,cond_true,cond_false]
  have out: ∀b:Bool,(b=true->b4=true)->I2 I N0 A2 j o q A1 fr to J (b,(kE (kX to step) ((nd.keys.zip nd.vals).drop (whereN nd fr)) s).2) (F.put A2 (.loop (lpP b j o q))) (fun B=>a1 B\/zJi A2 j o q B):=fun b hb=>
   ⟨a1,b4,i5.frame c (b6 b) (fun B f=>by subst f;exact⟨b5,n2⟩),hb,by rw[AH.put_get,if_pos rfl],a8,b5,fun B=>Iff.rfl⟩
  have adw: ∀b:Bool,Adw W H (fun B=>a1 B\/zJi A2 j o q B) (F.put A2 (.loop (lpP b j o q))):=fun b=>by
   refine⟨((b3.trans Y.stp).trans (Z.1.mono fun B _ f=>(u B).2 (.inl f))).trans ((b6 b).mono fun B _ f=>(u B).2 (.inr (.inl f))),fun B f=> ?_⟩;rcases f with e | e
   .rcases Z.2 B e with e | e
    .exact .inl ((u B).2 (.inl e))
    .exact .inr (by omega)
   .exact .inl ((u B).2 (.inr e))
  cases hr:(kE (kX to step) ((nd.keys.zip nd.vals).drop (whereN nd fr)) s).1 with
  | true=>
   obtain⟨rfl,rfl⟩:=t5 hr;have hs:kE (kX to step) ((nd.keys.zip nd.vals).drop (whereN nd fr)) s=(true,(kE (kX to step) ((nd.keys.zip nd.vals).drop (whereN nd fr)) s).2):=by rw[<-hr]
   rw[hs];refine⟨_,_, ?_,out true (fun _=>rfl),adw true⟩;have c9:=e5;simp(maxSteps:=999999)(disch:=omega) only[dL,eZ,hl,a2,cond_true,b1,O,a0,qT q3,r4,i3.bf.ld,e4,e5,VK];exact run true
  | false=>
   obtain rfl:=f5 hr;have hs:kE (kX to step) ((nd.keys.zip nd.vals).drop (whereN nd fr)) s=(false,(kE (kX to step) ((nd.keys.zip nd.vals).drop (whereN nd fr)) s).2):=by rw[<-hr]
   rw[hs];refine⟨_,_, ?_,out false (fun h=>by cases h),adw false⟩;simp(maxSteps:=999999)(disch:=omega) only[dL,eZ,hl,a2,cond_true,b1,O,a0,qT q3,r4,i3.bf.ld,e4,e5];exact run false
theorem zHh (A2 o p q:Nat)(fr to:Str):Cns A2 (M+300000000) N0 encN (wD fr to step) (I2 I N0 A2 o p q A1 fr to) where
 ok:=fun⟨_,_,hi,_⟩=>c.ok hi.i
 lt:=fun {b x H W} ⟨j,bo,hi,hb,gA,hlo,nA,hW⟩ B a=>by
  have f:=c.ok hi.i;rcases(hW B).1 a with e | e | e | e | e
  .exact c.lt hi.i B e
  .subst e;exact⟨f.lt gA,hlo⟩
  .subst e;exact⟨hi.bf.lt f,hi.lo.1⟩
  .subst e;exact⟨hi.bt.lt f,hi.lo.2.1⟩
  .subst e;exact⟨hi.by'.lt f,hi.lo.2.2⟩
 mono:=fun⟨j,bo,hi,hb,gA,hlo,nA,hW⟩ h=>⟨j,bo,hi.drop c (by omega),hb,gA,hlo,nA,hW⟩
 frame:=fun {b x H H' W S} ⟨j,bo,hi,hb,gA,hlo,nA,hW⟩ s hS=>by
  have f:=c.ok hi.i;refine⟨j,bo,hi.frame c s fun B a=>⟨fun w=>hS B a ((hW B).2 (.inl w)),fun e=>hS B a ((hW B).2 (.inr (.inr (.inl e)))),fun e=>hS B a ((hW B).2 (.inr (.inr (.inr (.inl e))))),fun e=>hS B a ((hW B).2 (.inr (.inr (.inr (.inr e)))))⟩,hb, ?_,hlo,nA,hW⟩;rw[s.keep _ (f.lt gA) fun w=>hS A2 w ((hW A2).2 (.inr (.inl rfl)))];exact gA
 run:=fun m hm hi t=>zHg c m hm hi t
end
open Go.Nd (Ptr sumL leafOf whereN)
open Go.Bt
def Vis (Q:Ptr->Option Nd.Node)(root:Ptr)(fr to:Str)(L:List (Ptr×Nd.Node)):Prop:=
 ((root.at_=0\/(to≠[]/\ltS fr to=false))/\L=[])\/(root.at_≠0/\(to=[]\/ltS fr to=true)/\ ∃h nd,h<=1000000/\Q root=some nd/\Vs Q h nd/\L=xH Q fr to h root nd)
section
variable {σ:Type}{At N0 k M A2 Aw:Nat}{root:Ptr}{Q:Ptr->Option Nd.Node}{G:AH->(Nat->Prop)->Prop}{step:σ->Ptr×Nd.Node->Bool×σ}{I:Nat->Bool×σ->AH->(Nat->Prop)->Prop}{fr to:Str}
variable (r:Rdr At N0 k root Q G)(c:Cns A2 M N0 encN step I)
include r c
theorem zGY (m:Nat)(hm:M+310000000<=m){Xw Xt Xf Xp:Nat}{s:σ}{H:AH}{N O:Nat->Prop}{left:Nat}{L:List (Ptr×Nd.Node)}(u:Wk N0 At Aw G I H N O left left (true,s))(hL:Vis Q root fr to L)(hl:L.length<=left)(a7:left<=1000000000)
  (o:Box H Xw (.ptr Aw 0)) (bt:Box H Xt (S to)) (bf:Box H Xf (S fr)) (bp:Box H Xp (.func 106 [] [])):
  ∃H' a0 a1 left',f165 (dy m) m [.yieldTo A2, .ptr Xw 0, .ptr Xt 0, .ptr Xf 0, .ptr Xp 0] H=some (.tuple [],H')/\Wk N0 At Aw G I H' a0 a1 left' left' (kE step L s)/\Awk Aw N O H a0 a1 H':=by
 have hk:=u.ok r c;obtain⟨ek,v⟩:=u.w;obtain⟨f,rfl⟩: ∃f,m=f+1:=⟨m - 1,by omega⟩;obtain⟨H1,y,T⟩:=r.root (dy (f+1)) (f+1) u.g;obtain⟨H2,U,b2,V,g2,m2,n2⟩:=box T.ok (.cells [.int .i64 ((0:Nat):Int), .int .i64 ((0:Nat):Int), .int .u64 ((0:Nat):Int)] 42 1 false);obtain⟨i,e3,g3,s3,n3⟩:=y9 V.ok g2 (l':=qZ root) rfl rfl;have p:stN 3 (.ptr U 0) (.agg (qZ root)) H2=some (qX,i):=e3;have N1:=T.next;have N2:=V.next;have N3:=s3.next
 have z:Prs H i:=(T.trans V).fresh s3 fun B hB=>by omega
 have a2:=u.prs r c z;have up: ∀ {A:Nat} {x:AV},Box H A x->Box i A x:=fun hb=>hb.mono hk z fun x=>x
 have a3:=up o;have C:=up bt;have F:=up bf;have a5:=up bp;have W:(AV.str 0 0)=S []:=rfl;have q:i.h.get U=some (.cells [.int .i64 root.at_, .int .i64 root.birth, .int .u64 root.sum] 42 1 false):=g3;have r3:ldN 3 (.ptr U 0) i=some (.agg (qZ root)):=by rw[qY g3];rfl
 have t:bxV 42 (.agg [.int .i64 ((0:Nat):Int), .int .i64 ((0:Nat):Int), .int .u64 ((0:Nat):Int)])=some (.cells [.int .i64 ((0:Nat):Int), .int .i64 ((0:Nat):Int), .int .u64 ((0:Nat):Int)] 42 1 false,fun A=> .ptr A 0):=rfl;rcases hL with⟨hL,rfl⟩ | ⟨hr,Y,h,nd,hh,hq,hv,rfl⟩
 .refine⟨i,N,O,left, ?_,by simpa[kE]using a2,Awk.prs z⟩;by_cases Z:root.at_=0
  .have a: ¬(root.at_≠((0:Nat):Int)):=by simp[Z]
   simp(maxSteps:=999999)(disch:=omega) only[f165,Y4,eZ,o.ld,qT v,y,t,b2,p,qT q,a]
  .have a:root.at_≠((0:Nat):Int):=by simpa using Z
   obtain⟨Y,a8⟩:=hL.resolve_left Z;have j:bO .eql (S to) (S [])=some (.bool false):=by rw[u0];simp[Y]
   have J:bO .lss (S fr) (S to)=some (.bool false):=by rw[uZ,a8]
   simp(maxSteps:=999999)(disch:=omega) only[f165,Y4,eZ,o.ld,qT v,y,t,b2,p,qT q,a,ne_eq,not_false_eq_true,W,C.ld,F.ld,j,J]
 .obtain⟨H4,a9,b0,a6,e4,b1,a4,_,_⟩:=zFt r c (fr:=fr) (to:=to) h f (f+1) _ _ _ _ _ _ _ (by omega) (by omega) hq hv a2 hl a7;refine⟨H4,a9,b0,a6, ?_,b1,(Awk.prs z).trans a4⟩;have a:root.at_≠((0:Nat):Int):=by simpa using hr
  by_cases K:to=[]
  .have j:bO .eql (S to) (S [])=some (.bool true):=by rw[u0];simp[K]
   simp(maxSteps:=999999)(disch:=omega) only[f165,Y4,eZ,o.ld,qT v,y,t,b2,p,qT q,a,ne_eq,not_false_eq_true,W,C.ld,F.ld,a3.ld,a5.ld,j,r3,e4]
  .have j:bO .eql (S to) (S [])=some (.bool false):=by rw[u0];simp[K]
   have J:bO .lss (S fr) (S to)=some (.bool true):=by rw[uZ,Y.resolve_left K]
   simp(maxSteps:=999999)(disch:=omega) only[f165,Y4,eZ,o.ld,qT v,y,t,b2,p,qT q,a,ne_eq,not_false_eq_true,W,C.ld,F.ld,a3.ld,a5.ld,j,J,r3,e4]
end
section
variable {σ:Type}{At N0 k M A1 Aw:Nat}{root:Ptr}{Q:Ptr->Option Nd.Node}{G:AH->(Nat->Prop)->Prop}{step:σ->Str×Str->Bool×σ}{I:Nat->Bool×σ->AH->(Nat->Prop)->Prop}{fr to:Str}
variable (r:Rdr At N0 k root Q G)(c:Cns A1 M N0 encP step I)
include r c
set_option maxRecDepth 100000 in
theorem zAO (m:Nat)(hm:M+620000000<=m){Xw Xf Xt Xp:Nat}{s:σ}{H:AH}{t p:Nat->Prop}{left ek:Nat}{L:List (Ptr×Nd.Node)}(W:G H t)(hi:I (500*left) (true,s) H p)(Y:H.h.get Aw=some (.cells [.ptr At 0, .nilMap, .int .i64 ((left:Nat):Int), .int .i64 ((0:Nat):Int)] ek 1 false))(b3:N0<=Aw)(ng: ¬t Aw)(ni: ¬p Aw)(sep: ∀B,p B-> ¬t B)
  (hL:Vis Q root fr to L) (hl:L.length<=left) (b4:left<=1000000000)
  (bw:Box H Xw (.ptr Aw 0)) (Z:Box H Xf (S fr)) (bt:Box H Xt (S to)) (bp:Box H Xp (.func 106 [] [])) (y:N0<=Xf/\N0<=Xt/\ ¬p Xf/\ ¬p Xt/\ ¬t Xf/\ ¬t Xt):
  ∃H' a4 a5 bo left' b5,f164 (dy m) m [.yieldTo A1, .ptr Xw 0, .ptr Xf 0, .ptr Xt 0, .ptr Xp 0] H=some (.tuple [],H')/\G H' a4/\I (500*left') (bo,(kE (wD fr to step) L s).2) H' a5/\
   H'.h.get Aw=some (.cells [.ptr At 0, .nilMap, .int .i64 ((left':Nat):Int), .int .i64 ((0:Nat):Int)] b5 1 false)/\Stp (fun B=>t B\/p B\/B=Aw\/B=Xf\/B=Xt) H H'/\(∀B,a4 B->t B\/H.next<=B)/\(∀B,a5 B->p B\/H.next<=B):=by
 have z:=r.ok W;have lw:=z.lt Y;obtain⟨H1,j,b1,O,g1,m1,n1⟩:=box z (.cells [.yieldTo A1] 276 1 false);have N1:=O.next
 have up: ∀ {H':AH} {A:Nat} {x:AV},Prs H H'->Box H A x->Box H' A x:=fun P hb=>hb.mono z P fun x=>x
 obtain⟨H2,B4,c4,p2,g2,m2,n2⟩:=box O.ok (.cells [.ptr Aw 0] 207 1 false);obtain⟨H3,B5,c5,T,g3,m3,n3⟩:=box p2.ok (.cells [S fr] 9 1 false);obtain⟨H4,B6,c6,C,g4,m4,n4⟩:=box T.ok (.cells [S to] 9 1 false);obtain⟨o,B7,c7,u,g5,m5,n5⟩:=box C.ok (.cells [.func 106 [] []] 212 1 false);have N2:=p2.next;have N3:=T.next;have N4:=C.next;have N5:=u.next
 have v:Prs o (o.push (.loop (lpP true Xf Xt j))):=(Stp.refl u.ok).push _;have g6:(o.push (.loop (lpP true Xf Xt j))).h.get o.next=some (.loop (lpP true Xf Xt j)):=AH.push_get_eq _ _
 have a0: ∀K:Nat->AH->Rs,XA o (.loop ⟨.ready,none,164,0,[2,3,5],[.ptr Xf 0, .ptr Xt 0, .ptr j 0]⟩) K=K o.next (o.push (.loop (lpP true Xf Xt j))):=fun K=>K0 u.ok _ K
 have b6:(o.push (.loop (lpP true Xf Xt j))).next=o.next+1:=rfl
 generalize o.push (.loop (lpP true Xf Xt j))=H6 at v g6 a0 b6;obtain⟨A2,b7⟩: ∃A2,A2=o.next:=⟨_,rfl⟩
 rw[<-b7]at g6 a0;have a6:Prs H1 o:=((p2.trans T).trans C).trans u;have F:Prs H H6:=(O.trans a6).trans v;have a8: ∀B,p B->B<H.next/\N0<=B:=fun B f=>c.lt hi B f
 have b8: ∀B,t B->B<H.next:=fun B f=>r.lt W B f
 have lX:Xf<H.next/\Xt<H.next:=⟨Z.lt z,bt.lt z⟩
 have b9:Inn2 I N0 Xf Xt j A1 fr to (500*left) true s H6 p:=⟨c.frame hi F fun _ x=>x.elim,up F Z,up F bt,⟨_,Prs.get (a6.trans v) O.ok g1⟩,⟨y.1,y.2.1,by omega⟩,⟨y.2.2.1,y.2.2.2.1,fun w=>by have:=a8 _ w;omega⟩⟩;have i2:I2 I N0 A2 Xf Xt j A1 fr to left (true,s) H6 (fun B=>p B\/zJi A2 Xf Xt j B):=⟨p,true,b9,fun _=>rfl,g6,by omega,fun w=>by have:=a8 _ w;omega,fun B=>Iff.rfl⟩;have c0: ∀B:Nat,zJi A2 Xf Xt j B->B≠Aw:=fun B f e=>by
  rcases f with U | U | U | U
  .omega
  .obtain⟨_,hb⟩:=Z;rw[<-U,e,Y]at hb;simp at hb
  .obtain⟨_,hb⟩:=bt;rw[<-U,e,Y]at hb;simp at hb
  .omega
 have wk:Wk N0 At Aw G (I2 I N0 A2 Xf Xt j A1 fr to) H6 t (fun B=>p B\/zJi A2 Xf Xt j B) left left (true,s):=⟨r.frame W F fun _ x=>x.elim,i2,⟨_,Prs.get F z Y⟩,b3,ng,fun w=>by
   rcases w with w | w
   .exact ni w
   .exact c0 _ w rfl,fun B f w=>by
   have:=b8 B w;rcases f with e | e | e | e | e
   .exact sep B e w
   .omega
   .subst e;exact y.2.2.2.2.1 w
   .subst e;exact y.2.2.2.2.2 w
   .omega⟩
 obtain⟨q,rfl⟩: ∃q,m=q+1:=⟨m - 1,by omega⟩;obtain⟨J,c1,d0,l7,e7,N,a7⟩:=zGY r (zHh c A2 Xf Xt j fr to) q (by omega) wk hL hl b4 (Xw:=B4) (Xt:=B6) (Xf:=B5) (Xp:=B7) ⟨_,Prs.get ((T.trans C).trans (u.trans v)) p2.ok g2⟩ ⟨_,Prs.get (u.trans v) C.ok g4⟩ ⟨_,Prs.get (C.trans (u.trans v)) T.ok g3⟩ ⟨_,Prs.get v u.ok g5⟩;obtain⟨c2,bo,a1,_,a2,_,c3,a9⟩:=N.i;obtain⟨c8,b0⟩:=N.w;have a3:=r.ok N.g;have N7:=a7.s.next
 have N6:=v.next
 have s8:Stp (fun B=>B=A2) J (J.put A2 .dead):=(Stp.refl a3).put (a3.lt a2) _ (.inr rfl);have b2: ∀K:Option Code->AH->Rs,uO A2 J K=K (lpP (kE (wD fr to step) L s).1 Xf Xt j).pending (J.put A2 .dead):=fun K=>by
  cases hb:(kE (wD fr to step) L s).1<;>rw[hb]at a2<;>simp only[uO,a2,lpP,cond_true,cond_false,yQ]
 refine⟨J.put A2 .dead,c1,c2,bo,l7,c8, ?_,r.frame N.g s8 (fun B f=>by subst f;exact⟨by have:=r.lt W;omega,fun w=>N.sep _ ((a9 _).2 (.inr (.inl rfl))) w⟩),c.frame a1.i s8 (fun B f=>by subst f;exact c3),by rw[s8.keep _ (a3.lt b0) (by omega)];exact b0, ?_,fun B f=> ?_,fun B f=> ?_⟩
 .have c9:rfC [(107,f107 (dy (q+1)) (q+1)),(79,f79 (dy (q+1)) (q+1))] (dy (q+1)) (.func 165 [] [.ptr B4 0, .ptr B6 0, .ptr B5 0, .ptr B7 0]) A2 H6=some (.tuple [],J):=e7;have hf:f107 (dy (q+1)) (q+1) [.ptr Aw 0,S fr,S to, .func 106 [] []] H1=some (.func 165 [] [.ptr B4 0, .ptr B6 0, .ptr B5 0, .ptr B7 0],o):=by
   have x1:y6 (.ptr Aw 0)=[.ptr Aw 0]:=rfl;have x2: ∀a,y6 (S a)=[S a]:=fun _=>rfl
   have x3:y6 (.func 106 [] [])=[.func 106 [] []]:=rfl;simp only[f107,eZ,x1,x2,x3,c4,c5,c6,c7]
  have x0:y6 (.yieldTo A1)=[.yieldTo A1]:=rfl;have u1: ∀ {A:Nat} {x:AV},Box H A x->ld1 (.ptr A 0) H1=some x:=fun hb=>(up O hb).ld
  simp(maxSteps:=999999)(disch:=omega) only[f164,eZ,x0,b1,u1 bw,u1 Z,u1 bt,u1 bp,hf,a0,c9,b2]
  cases(kE (wD fr to step) L s).1<;>rfl
 .refine⟨s8.ok,by have:=s8.next;omega,fun B f V=> ?_⟩
  rw[s8.keep B (by omega) (by omega),a7.s.keep B (by omega) (fun w=> ?_),F.keep B f fun x=>x];rcases w with w | (w | w | w | w | w) | w
  .exact V (.inl w)
  .exact V (.inr (.inl w))
  .omega
  .exact V (.inr (.inr (.inr (.inl w))))
  .exact V (.inr (.inr (.inr (.inr w))))
  .omega
  .exact V (.inr (.inr (.inl w)))
 .exact(a7.g B f).imp id fun e=>by omega
 .rcases a7.i B ((a9 B).2 (.inl f))with(e | e | e | e | e) | e
  .exact .inl e
  .exact .inr (by omega)
  .subst e;exact absurd f a1.nw.1
  .subst e;exact absurd f a1.nw.2.1
  .exact .inr (by omega)
  .exact .inr (by omega)
end
open Go.Nd (Ptr sumL leafOf Kvs)
open Go.Bt
def lpR (b:Bool)(a f h:Nat):ALoop:=⟨bif b then .ready else .done,bif b then none else some (.exit 0),53,0,[7,12,13],[.ptr a 0, .ptr f 0, .ptr h 0]⟩
def dH (most:Nat)(s:Kvs×Bool)(x:Str×Str):Bool×(Kvs×Bool):=bif Nat.beq s.1.length most then(false,(s.1,true))else(true,(s.1++[x],s.2))
structure IR (N0 A1 most Bm Bl Bb:Nat)(b:Nat)(x:Bool×(Kvs×Bool))(H:AH)(W:Nat->Prop):Prop where
 ok:H.ok
 gA:H.h.get A1=some (.loop (lpR x.1 Bm Bl Bb))
 bm:Box H Bm (.int .i64 ((most:Nat):Int))
 bb:Box H Bb (.bool x.2.2)
 bl: ∃v,Box H Bl v/\yV 2 48 H v x.2.1.length (x.2.1.flatMap prV)/\ ¬Blk v A1/\ ¬Blk v Bm/\ ¬Blk v Bl/\ ¬Blk v Bb/\(∀B,Blk v B->N0<=B)/\ ∀B,W B↔(zJi A1 Bm Bl Bb B\/Blk v B)
 lo:N0<=A1/\N0<=Bm/\N0<=Bl/\N0<=Bb
 ne:Bm≠Bl/\Bm≠Bb/\Bl≠Bb
 few:x.2.1.length+b<=900000000
theorem zKV (m:Nat){H:AH}{A1 a f i:Nat}(j:H.h.get A1=some (.loop (lpR true a f i)))(az:List AV):(dy (m+1)).yld A1 az H=UV (dy m) m A1 (lpR true a f i) az H:=by
 show Q3 (tabR (dy m) m) A1 az H=_;simp only[Q3,j];rfl
theorem zCT {H:AH}{A B:Nat}{o:ALoop}{v:AV}(g:H.h.get A=some (.loop o))(b:Box H B v):A≠B:=fun e=>by
 obtain⟨_,hb⟩:=b;rw[<-e,g]at hb;cases hb
theorem zGp {N0 A1 most o i j:Nat}{b:Nat}{s:Kvs×Bool}{a:Str×Str}{az:List AV}{H:AH}{W:Nat->Prop}(m:Nat)(hi:IR N0 A1 most o i j (b+1) (true,s) H W)(he:encP H W a az)(c7:0<=most):
  ∃H' W',(dy (m+1)).yld A1 az H=some (.bool (dH most s a).1,H')/\IR N0 A1 most o i j b (dH most s a) H' W'/\Adw W H W' H':=by
 obtain⟨L,N,bm,bb,⟨v,bl,gv,U,v2,v3,v4,v5,t⟩,a8,T,hf⟩:=hi;obtain rfl:az=[.agg [S a.1,S a.2]]:=he;obtain⟨l,mo⟩:=s;simp only at N bb gv hf⊢;rw[zKV m N];have lA:=L.lt N;have lm:=bm.lt L;have lb:=bb.lt L;have ll:=bl.lt L;have u:A1≠o/\A1≠i/\A1≠j:=⟨zCT N bm,zCT N bl,zCT N bb⟩;obtain⟨H1,a4,b1,p1,g1,m1,n1⟩:=box L (.cells [S [],S []] 48 1 false);obtain⟨J,e2,g2,s2,n2⟩:=y9 p1.ok g1 (l':=[S a.1,S a.2]) rfl rfl;have a9:stN 2 (.ptr a4 0) (.agg [S a.1,S a.2]) H1=some (qX,J):=e2;have V:Prs H J:=p1.fresh s2 fun B f=>by omega
 have N1:=p1.next;have N2:=s2.next
 have b0:=Prs.get V L N;have a2: ∀K:AH->Rs,xN A1 J K=K (J.put A1 (.loop { lpR true o i j with state:= .busy})):=fun K=>by
  simp only[xN,b0,lpR,cond_true,yQ]
 have q:Stp (fun B=>B=A1) J (J.put A1 (.loop { lpR true o i j with state:= .busy})):=(Stp.refl s2.ok).put (s2.ok.lt b0) _ (.inr rfl);have g3:(J.put A1 (.loop { lpR true o i j with state:= .busy})).h.get A1=some (.loop { lpR true o i j with state:= .busy}):=by rw[AH.put_get,if_pos rfl]
 generalize J.put A1 (.loop { lpR true o i j with state:= .busy})=H3 at q g3 a2;have N3:=q.next
 have up: ∀ {B:Nat} {x:AV},Box H B x->A1≠B->Box H3 B x:=fun hb hn=>(hb.mono L V fun x=>x).mono V.ok q (fun e=>hn e.symm)
 have a0:=up bm u.1;have a1:=up bl u.2.1;have b2:=up bb u.2.2;have b3:yV 2 48 H3 v l.length (l.flatMap prV):=(gv.mono V (fun _ _ x=>x)).mono q fun B f e=>U (e▸f)
 have q3:H3.h.get a4=some (.cells [S a.1,S a.2] 48 1 false):=by rw[q.keep _ (by omega) (by omega)];exact g2
 have hl:QI [7,12,13] (lpR true o i j).live=true:=rfl;have a7:(lpR true o i j).vals=[.ptr o 0, .ptr i 0, .ptr j 0]:=rfl;have hS:(AV.str 0 0)=S []:=rfl;have b5:bxV 48 (.agg [S [],S []])=some (.cells [S [],S []] 48 1 false,fun A=> .ptr A 0):=rfl;have b7:lnSl v=some (.int .i64 ((l.length:Nat):Int)):=gv.row.lnSl;by_cases a6:l.length=most
 .have a5:dH most (l,mo) a=(false,(l,true)):=by simp only[dH,show Nat.beq l.length most=true by rw[Nat.beq_eq];exact a6,cond_true]
  rw[a5];obtain⟨y,e4,b4,z⟩:=b2.st q.ok (x:= .bool true) rfl;have N4:=z.next
  have g4:y.h.get A1=some (.loop { lpR true o i j with state:= .busy}):=by rw[z.keep _ (by omega) (by omega)];exact g3
  have p:Stp (fun B=>B=A1) y (y.put A1 (.loop (lpR false o i j))):=(Stp.refl z.ok).put (z.ok.lt g4) _ (.inr rfl);have a3:YB A1 (some (.exit 0)) y=some (.bool false,y.put A1 (.loop (lpR false o i j))):=by simp only[YB,g4,yQ,lpR,cond_false]
  have b8: ∀ {B:Nat} {x:AV},Box H3 B x->A1≠B->j≠B->Box (y.put A1 (.loop (lpR false o i j))) B x:=fun hb Y h2=>(hb.mono q.ok z fun e=>h2 e.symm).mono z.ok p fun e=>Y e.symm
  refine⟨y.put A1 (.loop (lpR false o i j)),W, ?_,⟨p.ok,by rw[AH.put_get,if_pos rfl],b8 a0 u.1 (Ne.symm T.2.1),b4.mono z.ok p (Ne.symm u.2.2),⟨v,b8 a1 u.2.1 (Ne.symm T.2.2),(b3.mono z fun B f e=>v4 (e▸f)).mono p fun B f e=>U (e▸f),U,v2,v3,v4,v5,t⟩,a8,T,by simp only;omega⟩,⟨(((Prs.stp V).trans (q.mono fun B _ f=>(t B).2 (.inl (.inl f)))).trans (z.mono fun B _ f=>(t B).2 (.inl (.inr (.inr (.inr f)))))).trans (p.mono fun B _ f=>(t B).2 (.inl (.inl f))),fun B f=> .inl f⟩⟩;have c3:((l.length:Nat):Int)=((most:Nat):Int):=by omega
  simp(maxSteps:=999999)(disch:=omega) only[UV,eZ,hl,a7,cond_true,hS,b5,b1,a9,a2,a1.ld,b7,a0.ld,c3,e4];exact a3
 .have a5:dH most (l,mo) a=(true,(l++[a],mo)):=by
   have:Nat.beq l.length most=false:=by
    cases hb:Nat.beq l.length most with
    | false=>rfl
    | true=>exact absurd (Nat.eq_of_beq_eq_true hb) a6
   simp only[dH,this,cond_false]
  rw[a5];obtain⟨y,c4,b4,C,g4,m4,n4⟩:=box q.ok (.cells [S a.1,S a.2] 48 2 false);have c1:srcOf 2 (.slice c4 0 1 2) y=some (1,[S a.1,S a.2]):=by simp only[srcOf,g4];rfl
  obtain⟨v',H5,e5,b9,p,f5⟩:=(b3.mono C (fun _ _ x=>x)).app (bytes:=32) (m:=1) (new:=[S a.1,S a.2]) C.ok (by decide) c1 rfl rfl (by omega) (by decide);have N4:=C.next;have N5:=p.next
  have c5:Box H5 i v:=(a1.mono q.ok C fun x=>x).mono C.ok p v3;obtain⟨O,e6,b6,F⟩:=c5.st p.ok (x:=v') b9.isCell;have N6:=F.next
  have g6:O.h.get A1=some (.loop { lpR true o i j with state:= .busy}):=by rw[F.keep _ (by omega) (by omega),p.keep _ (by omega) U,C.keep _ (by omega) (fun x=>x)];exact g3
  have Z:Stp (fun B=>B=A1) O (O.put A1 (.loop (lpR true o i j))):=(Stp.refl F.ok).put (F.ok.lt g6) _ (.inr rfl);have a3:YB A1 none O=some (.bool true,O.put A1 (.loop (lpR true o i j))):=by simp only[YB,g6,yQ,lpR,cond_true]
  have c0: ∀ {B:Nat} {x:AV},Box H3 B x->A1≠B->i≠B-> ¬Blk v B->Box (O.put A1 (.loop (lpR true o i j))) B x:=fun hb Y h2 h3=>(((hb.mono q.ok C fun x=>x).mono C.ok p h3).mono p.ok F fun e=>h2 e.symm).mono F.ok Z fun e=>Y e.symm
  have nb: ∀ {B:Nat},¬Blk v B->B<H.next-> ¬Blk v' B:=fun Y h2 f=>by
   rcases f5 _ f with e | e
   .exact Y e
   .omega
  have fl:(l++[a]).flatMap prV=l.flatMap prV++[S a.1,S a.2]:=by simp[qI,prV]
  refine⟨O.put A1 (.loop (lpR true o i j)),fun B=>zJi A1 o i j B\/Blk v' B, ?_,⟨Z.ok,by rw[AH.put_get,if_pos rfl],c0 a0 u.1 (Ne.symm T.1) v2,c0 b2 u.2.2 T.2.2 v4,⟨v',b6.mono F.ok Z (Ne.symm u.2.1), ?_,nb U lA,nb v2 lm,nb v3 ll,nb v4 lb,fun B f=> ?_,fun B=>Iff.rfl⟩,a8,T,by simp only[zL,qL];omega⟩,⟨?_,fun B f=> ?_⟩⟩
  .have c2: ¬((l.length:Nat):Int)=((most:Nat):Int):=by omega
   have r3:ldN 2 (.ptr a4 0) H3=some (.agg [S a.1,S a.2]):=by rw[qY q3];rfl
   have c6:d7 48 2 1 [S [],S []] [(0, .agg [S a.1,S a.2])]=some (.cells [S a.1,S a.2] 48 2 false,fun A=> .slice A 0 1 2):=rfl;simp(maxSteps:=999999)(disch:=omega) only[UV,eZ,hl,a7,cond_true,hS,b5,b1,a9,a2,a1.ld,b7,a0.ld,c2,r3,c6,b4,e5,e6];exact a3
  .simp only[fl,zL,qL];exact(b9.mono F fun B f e=>nb v3 ll (e▸f)).mono Z fun B f e=>nb U lA (e▸f)
  .rcases f5 B f with e | e
   .exact v5 B e
   .omega
  .exact(((((Prs.stp V).trans (q.mono fun B _ f=>(t B).2 (.inl (.inl f)))).trans C.stp).trans (p.mono fun B _ f=>(t B).2 (.inr f))).trans (F.mono fun B _ f=>(t B).2 (.inl (.inr (.inr (.inl f)))))).trans (Z.mono fun B _ f=>(t B).2 (.inl (.inl f)))
  .rcases f with e | e
   .exact .inl ((t B).2 (.inl e))
   .rcases f5 B e with e | e
    .exact .inl ((t B).2 (.inr e))
    .exact .inr (by omega)
theorem zGq (N0 A1 most q t u:Nat)(J:0<=most):Cns A1 0 N0 encP (dH most) (IR N0 A1 most q t u) where
 ok:=fun h=>h.ok
 lt:=fun {b x H W} h B f=>by
  obtain⟨v,i,j,y,v2,z,C,o,a⟩:=h.bl;rcases(a B).1 f with(e | e | e | e) | e
  .subst e;exact⟨h.ok.lt h.gA,h.lo.1⟩
  .subst e;exact⟨h.bm.lt h.ok,h.lo.2.1⟩
  .subst e;exact⟨i.lt h.ok,h.lo.2.2.1⟩
  .subst e;exact⟨h.bb.lt h.ok,h.lo.2.2.2⟩
  .exact⟨j.lt e,o B e⟩
 mono:=fun h hb=>⟨h.ok,h.gA,h.bm,h.bb,h.bl,h.lo,h.ne,by have:=h.few;omega⟩
 frame:=fun {b x H H' W S} h s F=>by
  obtain⟨v,i,j,y,v2,z,C,o,a⟩:=h.bl;have n: ∀ {B:Nat},zJi A1 q t u B-> ¬S B:=fun K p=>F _ p ((a _).2 (.inl K))
  exact⟨s.ok,by rw[s.keep _ (h.ok.lt h.gA) (n (.inl rfl))];exact h.gA,h.bm.mono h.ok s (n (.inr (.inl rfl))),h.bb.mono h.ok s (n (.inr (.inr (.inr rfl)))),⟨v,i.mono h.ok s (n (.inr (.inr (.inl rfl)))),j.mono s fun B f p=>F B p ((a B).2 (.inr f)),y,v2,z,C,o,a⟩,h.lo,h.ne,h.few⟩
 run:=fun m _ hi L=>zGp m hi L J
set_option maxRecDepth 100000 in
theorem zGu {At N0 k:Nat}{root:Ptr}{Q:Ptr->Option Nd.Node}{G:AH->(Nat->Prop)->Prop}(r:Rdr At N0 k root Q G)(m:Nat)(hm:700000000<=m){fr to:Str}{most:Nat}{H:AH}{Wg:Nat->Prop}{L:List (Ptr×Nd.Node)}(hg:G H Wg)(e2:N0<=H.next)(e3:0<=most)(hL:Vis Q root fr to L)(hl:L.length<=8192+k)(e4:k<=1000000):
  ∃H' V v,f53 (dy (m+1)) (m+1) [.ptr At 0,S fr,S to, .int .i64 ((most:Nat):Int)] H=some (.tuple [v, .bool (kE (wD fr to (dH most)) L ([],false)).2.2, .int .i64 ((0:Nat):Int)],H')/\G H' V/\Stp Wg H H'/\(∀B,V B->Wg B\/H.next<=B)/\
   yV 2 48 H' v (kE (wD fr to (dH most)) L ([],false)).2.1.length ((kE (wD fr to (dH most)) L ([],false)).2.1.flatMap prV)/\ ∀B,Blk v B->H.next<=B:=by
 have hk:=r.ok hg;obtain⟨left,e1⟩: ∃left,left=8192+k:=⟨_,rfl⟩;obtain⟨H1,j,b1,Y,g1,m1,n1⟩:=box hk (.cells [.int .i64 ((most:Nat):Int)] 3 1 false);have G1:=r.prs hg Y;have ed:=r.dirty (dy (m+1)) (m+1) G1;obtain⟨H2,Aw,b2,Z,g2,m2,n2⟩:=box Y.ok (.cells [.ptr At 0, .nilMap, .int .i64 ((left:Nat):Int), .int .i64 ((0:Nat):Int)] 215 1 false);obtain⟨H3,o,b3,J,g3,m3,n3⟩:=box Z.ok (.cells [.nilSlice] 37 1 false);obtain⟨H4,i,b4,C,g4,m4,n4⟩:=box J.ok (.cells [.bool false] 4 1 false);obtain⟨N,e5,g5,q,n5⟩:=y9 C.ok g4 (l':=[.bool false]) rfl rfl;have c2:stN 1 (.ptr i 0) (.bool false) H4=some (qX,N):=by
  obtain⟨e6,e,_⟩:=(show Box H4 i (.bool false)from⟨_,g4⟩).st C.ok (x:= .bool false) rfl;have:=e5;rw[show stN [AV.bool false].length (.ptr i 0) (.agg [.bool false]) H4=stN 1 (.ptr i 0) (.bool false) H4 from rfl]at this;exact this
 obtain⟨H6,X4,c4,p6,g6,m6,n6⟩:=box q.ok (.cells [.ptr Aw 0] 207 1 false);obtain⟨H7,X5,c5,p7,g7,m7,n7⟩:=box p6.ok (.cells [S fr] 9 1 false);obtain⟨H8,X6,c6,O,g8,m8,n8⟩:=box p7.ok (.cells [S to] 9 1 false);obtain⟨p,X7,c7,y,g9,m9,n9⟩:=box O.ok (.cells [.func 106 [] []] 212 1 false);have N1:=Y.next;have N2:=Z.next;have N3:=J.next;have N4:=C.next;have N5:=q.next;have N6:=p6.next;have N7:=p7.next;have N8:=O.next;have N9:=y.next
 have s:Prs p (p.push (.loop (lpR true j o i))):=(Stp.refl y.ok).push _;have a2:(p.push (.loop (lpR true j o i))).h.get p.next=some (.loop (lpR true j o i)):=AH.push_get_eq _ _
 have a0: ∀K:Nat->AH->Rs,XA p (.loop ⟨.ready,none,53,0,[7,12,13],[.ptr j 0, .ptr o 0, .ptr i 0]⟩) K=K p.next (p.push (.loop (lpR true j o i))):=fun K=>K0 y.ok _ K
 have c3:(p.push (.loop (lpR true j o i))).next=p.next+1:=rfl
 generalize p.push (.loop (lpR true j o i))=H10 at s a2 a0 c3;obtain⟨A1,c8⟩: ∃A1,A1=p.next:=⟨_,rfl⟩
 rw[<-c8]at a2 a0;have e7:=s.next
 have c9:Prs N p:=((p6.trans p7).trans O).trans y;have T:Prs N H10:=c9.trans s;have P4:Prs H H4:=((Y.trans Z).trans J).trans C;have P5:Prs H N:=P4.fresh q fun B f=>by omega
 have a5:Prs H H10:=P5.trans T;have a8:Box H10 j (.int .i64 ((most:Nat):Int)):=⟨_,Prs.get T q.ok (by rw[q.keep _ (by omega) (by omega)];exact Prs.get ((Z.trans J).trans C) Y.ok g1)⟩;have d0:N.h.get Aw=some (.cells [.ptr At 0, .nilMap, .int .i64 ((left:Nat):Int), .int .i64 ((0:Nat):Int)] 215 1 false):=by rw[q.keep _ (by omega) (by omega)];exact Prs.get (J.trans C) Z.ok g2
 have a9:=Prs.get T q.ok d0;have b0:Box H10 o .nilSlice:=⟨_,Prs.get T q.ok (by rw[q.keep _ (by omega) (by omega)];exact Prs.get C J.ok g3)⟩;have b5:Box H10 i (.bool false):=⟨_,Prs.get T q.ok g5⟩;have W: ∀B,Wg B->B<H.next:=fun B f=>r.lt hg B f
 have F: ∀B,¬Blk .nilSlice B:=fun B f=>Blk.nil.1 f
 have d1:IR N0 A1 most j o i (500*left) (true,([],false)) H10 (zJi A1 j o i):=⟨s.ok,a2,a8,b5,⟨.nilSlice,b0, .inl (Own.nil ..),F _,F _,F _,F _,fun B f=>(F B f).elim,fun B=>⟨fun h=> .inl h,fun h=>h.elim id fun h=>(F B h).elim⟩⟩,by omega,⟨by omega,by omega,by omega⟩,by simp;omega⟩;obtain⟨z,V,e8,bo,left',d2,d3,d4,t,a3,a6,a7,d5⟩:=zAO r (zGq N0 A1 most j o i (by omega)) m (by omega) (Xw:=X4) (Xf:=X5) (Xt:=X6) (Xp:=X7) (r.prs hg a5) d1 a9 (by omega) (fun w=>by have:=W _ w;omega) (fun w=>by rcases w with w | w | w | w<;>omega) (fun B f w=>by have:=W _ w;rcases f with w | w | w | w<;>omega) hL (by omega) (by omega)
  ⟨_,Prs.get (((p7.trans O).trans y).trans s) p6.ok g6⟩ ⟨_,Prs.get ((O.trans y).trans s) p7.ok g7⟩ ⟨_,Prs.get (y.trans s) O.ok g8⟩ ⟨_,Prs.get s y.ok g9⟩ ⟨by omega,by omega,fun w=>by rcases w with w | w | w | w<;>omega,fun w=>by rcases w with w | w | w | w<;>omega,fun w=>by have:=W _ w;omega,fun w=>by have:=W _ w;omega⟩
 obtain⟨v,a4,gv,v1,v2,v3,v4,v5,hW⟩:=t.bl;have e9:=a6.next
 have a1:=t.bb;have U:=t.gA;simp only at a1 U gv;have nA:A1≠o/\A1≠i:=⟨zCT U a4,zCT U a1⟩;have u:Stp (fun B=>B=A1) z (z.put A1 .dead):=(Stp.refl t.ok).put (t.ok.lt U) _ (.inr rfl);have b6: ∀K:Option Code->AH->Rs,uO A1 z K=K (lpR bo j o i).pending (z.put A1 .dead):=fun K=>by
  cases bo<;>simp only[uO,U,lpR,cond_true,cond_false,yQ]
 have d6: ¬V A1:=fun w=>by
  rcases a7 _ w with w | w
  .have:=W _ w;omega
  .omega
 have b7:=a4.mono t.ok u (fun e=>nA.1 e.symm);have b8:=a1.mono t.ok u (fun e=>nA.2 e.symm);have b9:(z.put A1 .dead).h.get Aw=some (.cells [.ptr At 0, .nilMap, .int .i64 ((left':Nat):Int), .int .i64 ((0:Nat):Int)] d2 1 false):=by rw[u.keep _ (t.ok.lt a3) (by omega)];exact a3
 refine⟨z.put A1 .dead,V,v, ?_,r.frame d4 u (fun B f=>by subst f;exact⟨by omega,d6⟩), ?_,fun B f=>(a7 B f).imp id fun e=>by omega,gv.mono u fun B f e=>v1 (e▸f),fun B f=> ?_⟩
 .have d7:rfC [(104,f104 (dy (m+1)) (m+1)),(105,f105 (dy (m+1)) (m+1))] (dy (m+1)) (.func 164 [] [.ptr X4 0, .ptr X5 0, .ptr X6 0, .ptr X7 0]) A1 H10=some (.tuple [],z):=d3;have x1:y6 (.ptr Aw 0)=[.ptr Aw 0]:=rfl;have x2: ∀a,y6 (S a)=[S a]:=fun _=>rfl
  have x3:y6 (.func 106 [] [])=[.func 106 [] []]:=rfl;have x4:y6 (.int .i64 ((most:Nat):Int))=[.int .i64 ((most:Nat):Int)]:=rfl;have x5:y6 .nilSlice=[.nilSlice]:=rfl;have x6:y6 (.bool false)=[.bool false]:=rfl;have hf:f105 (dy (m+1)) (m+1) [.ptr Aw 0,S fr,S to, .func 106 [] []] N=some (.func 164 [] [.ptr X4 0, .ptr X5 0, .ptr X6 0, .ptr X7 0],p):=by
   simp only[f105,eZ,x1,x2,x3,c4,c5,c6,c7]
  have c0:((8192:Nat):Int)+((k:Nat):Int)=((left:Nat):Int):=by omega
  have d8:wY [(0,1),(1,1),(2,1),(3,1)] [.nilPtr, .nilMap, .int .i64 ((0:Nat):Int), .int .i64 ((0:Nat):Int)] [(0, .ptr At 0),(2, .int .i64 ((left:Nat):Int))]=some (.agg [.ptr At 0, .nilMap, .int .i64 ((left:Nat):Int), .int .i64 ((0:Nat):Int)]):=rfl;have d9:f104 (dy (m+1)) (m+1) [.ptr At 0] H1=some (.ptr Aw 0,H2):=by
   simp(maxSteps:=999999)(disch:=omega) only[f104,eZ,ed,c0,d8,b2]
  have r1:ld1 (.ptr j 0) H1=some (.int .i64 ((most:Nat):Int)):=by rw[qT g1];rfl
  have c1: ¬((most:Nat):Int)< ((0:Nat):Int):=by omega
  have e0: ¬(((0:Nat):Int)≠((0:Nat):Int)):=by omega
  cases bo<;>simp(maxSteps:=999999)(disch:=omega) only[f53,zHH,eZ,cq,x4,b1,r1,c1,d9,x5,b3,x6,b4,c2,hf,a0,d7,b6,lpR,cond_true,cond_false,zDJ,Nat.beq_refl,qT b9,e0,b7.ld,b8.ld]
 .refine⟨u.ok,by have:=u.next;omega,fun B f hS=> ?_⟩
  rw[u.keep B (by omega) (by omega),a6.keep B (by omega) (fun w=> ?_),a5.keep B f fun x=>x];rcases w with w | (w | w | w | w) | w | w | w
  .exact hS w
  all_goals omega
 .rcases d5 B ((hW B).2 (.inr f))with(e | e | e | e) | e<;>omega
open Go.Nd (Srt)
def yB (fr to:Str)(kv:Kvs):Kvs:=kv.filter (inP fr to)
theorem zBK {fr to:Str}{kv:Kvs}(f:to≠[])(h:ltS fr to=false):yB fr to kv=[]:=by
 rw[yB,List.filter_eq_nil_iff];intro p _ hp;simp only[inP,yR,zC,Bool.not_eq_true',Bool.or_eq_true,List.isEmpty_iff,f,false_or]at hp;have i:=not_lt (a:=p.1) (b:=fr) (by simp[hp.1]);have:=YU i hp.2;rw[h]at this;cases this
theorem zDj {most:Nat} : ∀(l a:Kvs),a.length<=most->(kE (dH most) l (a,false)).2=((a++l).take most,decide (most<a.length+l.length))
 | [],a,h=>by
  rw[List.append_nil,zP h,qD,Nat.add_zero,decide_eq_false (by omega)];rfl
 | x::l,a,h=>by
  by_cases i:a.length=most
  .have f:dH most (a,false) x=(false,(a,true)):=by simp only[dH,show Nat.beq a.length most=true by rw[Nat.beq_eq];exact i,cond_true]
   simp only[kE,f,cond_false];rw[List.take_append_of_le_length (by omega),zP (by omega),decide_eq_true (by simp;omega)]
  .have j:Nat.beq a.length most=false:=by
    cases hb:Nat.beq a.length most with
    | false=>rfl
    | true=>exact absurd (Nat.eq_of_beq_eq_true hb) i
   have f:dH most (a,false) x=(true,(a++[x],false)):=by simp only[dH,j,cond_false]
   simp only[kE,f,cond_true];rw[zDj l (a++[x]) (by simp;omega),List.append_assoc,List.singleton_append];simp only[zL,zO,qD];rw[show a.length+(0+1)+l.length=a.length+(l.length+1)by omega]
theorem visD {E:Ev}{H:AH}{At M L Ad:Nat}{W:Nat->Prop}{root:Ptr}{q:PN}{kv:Kvs}{T:List Ptr}(t:bD (.ptr Ad 0) .nilPtr E H At M L W root q kv T)(F:kv.length<=1000000000){fr to:Str} :
  ∃m,GD0 H.next At M Ad E root q H (fun _=>False)/\Vis (Qf E q []) root fr to m/\m.length<=8192+q.length/\q.length<=L/\ ∀ {σ:Type} (step:σ->Str×Str->Bool×σ) (s:σ),(kE (wD fr to step) m s).2=(kE step (yB fr to kv) s).2:=by
 obtain⟨N,es,z,_,a,h2,h3,h4,Z,O,_⟩:=t;obtain⟨J,S,U,V,Y,K,f⟩:=a.dk;obtain rfl:Ad=J:=by simpa using K
 have o:GD0 H.next At M Ad E root q H (fun _=>False):=⟨fun _ x=>x,a.ok.lt a.gT,a.ok.lt a.gM,es,z,N,S,U,V,Y,a,a.hold,fun B u=>yV.lt a.dg u,f,a.ok.lt f.gD,a.ok.lt f.gO,a.ok.lt f.gN,fun B u=>Own.lt f.ow u⟩
 rcases O with⟨rfl,rfl,_⟩ | ⟨h,nd,t,S0,v,j,wr,nd0,rfl,_⟩
 .exact⟨[],o, .inl ⟨.inl rfl,rfl⟩,by simp,by omega,fun step s=>rfl⟩
 .by_cases i:to≠[]/\ltS fr to=false
  .exact⟨[],o, .inl ⟨.inr i,rfl⟩,by simp,by omega,fun step s=>by rw[zBK i.1 i.2];rfl⟩
  .have C:to=[]\/ltS fr to=true:=by
    by_cases y:to=[]
    .exact .inl y
    .right
     cases hb:ltS fr to with
     | true=>rfl
     | false=>exact absurd ⟨y,hb⟩ i
   obtain⟨_,_,a0⟩:=zD1 (Q:=Qf E q []) (fr:=fr) (to:=to) (p:=root) j wr;obtain⟨_,a1⟩:=zEI v j wr nd0;have a2:=zOk v;exact⟨xH (Qf E q []) fr to h root nd,o, .inr ⟨by omega,C,h,nd,by have:=wr.low F;omega,v,zMn j wr,rfl⟩,by omega,by omega,fun step s=>zJo j wr step s⟩
theorem zGv (m:Nat)(hm:700000000<=m){E:Ev}{H:AH}{At M L Ad:Nat}{W:Nat->Prop}{root:Ptr}{q:PN}{kv:Kvs}{T:List Ptr}(t:bD (.ptr Ad 0) .nilPtr E H At M L W root q kv T)(hL:L<=1000000)(a:kv.length<=1000000000)(fr to:Str){most:Nat}(h:0<=most):
  ∃H' v,f53 (dy (m+1)) (m+1) [.ptr At 0,S fr,S to, .int .i64 ((most:Nat):Int)] H=some (.tuple [v, .bool (decide (most< (yB fr to kv).length)), .int .i64 ((0:Nat):Int)],H')/\Prs H H'/\yV 2 48 H' v ((yB fr to kv).take most).length (((yB fr to kv).take most).flatMap prV)/\ ∀B,Blk v B->H.next<=B:=by
 obtain⟨i,j,o,hl,x,hr⟩:=visD t a (fr:=fr) (to:=to);obtain⟨H',u,v,e,_,s,_,g,f⟩:=zGu (zDo H.next At M Ad E root q) m hm j (Nat.le_refl _) h o hl (by omega)
 have p:(kE (wD fr to (dH most)) i ([],false)).2=((yB fr to kv).take most,decide (most< (yB fr to kv).length)):=by
  rw[hr,zDj (most:=most) _ [] (Nat.zero_le _)];show(([]++yB fr to kv).take most,decide (most< ([]:Kvs).length+(yB fr to kv).length))=_;rw[List.nil_append,qD,Nat.zero_add]
 rw[p]at e g;exact⟨H',v,e,s,g,f⟩
end Go.Eng.Sh
end
section
set_option maxRecDepth 20000
namespace Go.Nd
open Go.Eng (ltS yW yS uV vG bH)
theorem filt_del (k:Str): ∀ {l:Kvs},Srt l->(l.filter fun p=>decide (p.1≠k))=delP k l
 | [],_=>rfl
 | (a,b)::l,h=>by
  by_cases e:a=k
  .subst e;rw[List.filter_cons_of_neg (by simp),delP,if_pos rfl];exact List.filter_eq_self.2 fun p hp=>decide_eq_true fun e=>by have:=h.1 p hp;rw[e,yW]at this;cases this
  .rw[List.filter_cons_of_pos (by simpa using e),delP,if_neg e,filt_del k h.2]
theorem del_not (k:Str){l:Kvs}(h:Srt l): ∀q∈delP k l,q.1≠k:=by
 rw[<-filt_del k h];intro q a;simpa using(List.mem_filter.1 a).2
theorem put_del (k v:Str){l:Kvs}(h:Srt l):putP k v (delP k l)=putP k v l:=
 Go.Eng.Sh.srt_ext (srt_put k v (srt_del k h)) (srt_put k v h) fun x=>by
  rw[B9,B9,zDC k x h];by_cases e:x=k<;>simp[e]
theorem del_len (k:Str){l:Kvs}(h:Srt l):(delP k l).length=if(lookP k l).isSome then l.length - 1 else l.length:=by
 cases hl:lookP k l with
 | none=>simp only[Option.isSome_none,Bool.false_eq_true,if_false];rw[Go.Bt.del_none (Go.Eng.Sh.look_not hl)]
 | some v=>
  obtain⟨a,e⟩:=(Go.Eng.Sh.here_split h).2 v hl;rw[Go.Eng.Sh.del_at h a e];simp only[qS,if_true,zL,zQ,zV];omega
theorem ins_put (k v:Str): ∀l:Kvs,(∀q∈l,q.1≠k)->l.take (l.findIdx fun p=> !ltS p.1 k)++(k,v)::l.drop (l.findIdx fun p=> !ltS p.1 k)=putP k v l
 | [],_=>rfl
 | (a,b)::l,h=>by
  have f:=ins_put k v l fun q i=>h q (zE _ i)
  have j: ¬a=k:=h (a,b) (zF ..);simp only[putP,if_neg j]
  cases hl:ltS a k with
  | true=>
   have:((a,b)::l).findIdx (fun p=> !ltS p.1 k)=(l.findIdx fun p=> !ltS p.1 k)+1:=by rw[List.findIdx_cons];simp[hl]
   rw[this,List.take_succ_cons,List.drop_succ_cons,List.cons_append,f];rfl
  | false=>
   have:((a,b)::l).findIdx (fun p=> !ltS p.1 k)=0:=by rw[List.findIdx_cons];simp[hl]
   rw[this];rfl
end Go.Nd
namespace Go.Eng
theorem vK (s:Str)(k:IntKind){i:Nat}(h:i<s.length):uW (S s) (.int k ((i:Nat):Int))=some (.int .u8 (((s[i]).toNat:Nat):Int)):=by
 have:=KA s k (z:=((i:Nat):Int)) (by omega) (by simpa using h);simpa using this
end Go.Eng
namespace Go.Eng.Sh
open Go.Nd (Ptr sumL leafOf Kvs Srt Str putP delP lookP mayK)
open Go.Bt
theorem cv1 {H:AH}{A:Nat}{a:UInt8}{e:Nat}(f:H.ok)(g:H.h.get A=some (.cells [.int .u8 ((a.toNat:Nat):Int)] e 1 false)):zBx (.slice A 0 1 2) H=some (S [a]):=
 ZK (n:=1) ⟨rfl, .inr (.inr ⟨_,_,_,_,_,_,_,rfl,g,f.lt g,by simp,rfl⟩)⟩ (by simp)
theorem zAT {c:Nat}(a:c<256):(UInt8.ofNat c).toNat=c:=by rw[UInt8.toNat_ofNat'];omega
theorem zCb (D:Dyn)(n:Nat){H:AH}(Z:H.ok){v:AV}{l:Kvs}(h:zAe H v l)(hl:l.length<=1000000)(hn:l.length<n)(key:Str):
  ∃H' u,f69 D n [v,S key] H=some (u,H')/\Prs H H'/\PrG H' u (l.filter fun p=>decide (p.1≠key))/\ ∀B,Blk u B->H.next<=B:=by
 have t:lnSl v=some (.int .i64 ((l.length:Nat):Int)):=Rw.lnSl h;have lp:=wI (b:=XF D n) l.length (fun i y H'=> ∃w,y=[v,S key,w, .int .i64 ((i:Nat):Int)]/\Prs H H'/\PrG H' w ((l.take i).filter fun p=>decide (p.1≠key))/\ ∀B,Blk w B->H.next<=B) (fun i y H' hi ⟨w,hus,P,g,f⟩=>by
  subst hus;have h':zAe H' v l:=Rw.stp h P fun _ _ x=>x
  obtain⟨A,o,L,i2,i3,_⟩:=h'.at hi;have F:Eng.ld1 (.ptr A (o+0)) H'=some (S l[i].1):=i3;have J:((i:Nat):Int)< ((l.length:Nat):Int):=by omega
  have hi1:((i:Nat):Int)+((1:Nat):Int)=((i+1:Nat):Int):=by omega
  have K:l.take (i+1)=l.take i++[l[i]]:=zU hi;by_cases a:l[i].1≠key
  .have j:(l.take (i+1)).filter (fun p=>decide (p.1≠key))=(l.take i).filter (fun p=>decide (p.1≠key))++[l[i]]:=by rw[K,List.filter_append,List.filter_cons_of_pos (by simpa using a)];rfl
   have T:=List.length_filter_le (fun p=>decide (p.1≠key)) (l.take i);rw[zQ]at T;obtain⟨H1,A2,b1,s,g1,m1,n1⟩:=box P.ok (.cells (prV l[i]) 48 2 false);have U:srcOf 2 (.slice A2 0 1 2) H1=some (1,prV l[i]):=by simp only[srcOf,g1];rfl
   obtain⟨w',H2,e2,W,s2,f2⟩:=yV.app (bytes:=32) (m:=1) s.ok (by decide) (yV.mono g.1 s fun _ _ x=>x) U rfl rfl (by omega) (by decide);have N:=P.next;have N1:=s.next
   have Y:d7 48 2 1 [S [],S []] [(0, .agg (prV l[i]))]=some (.cells (prV l[i]) 48 2 false,fun A=> .slice A 0 1 2):=rfl;have hS:(AV.str 0 0)=S []:=rfl;refine⟨_,H2, ?_,w',rfl,(P.trans s).fresh s2 f,⟨?_,fun e=> ?_⟩,fun B z=> ?_⟩
   .simp(maxSteps:=999999)(disch:=omega) only[XF,zBl,eZ,t,J,L,F,xV,a,ne_eq,not_false_eq_true,i2,hS,Y,b1,e2,hi1]
   .rw[j,zL,qI];have e1:[l[i]].flatMap prV=prV l[i]:=by simp
    rw[e1];exact W
   .rw[j]at e;simp at e
   .rcases f2 B z with e | e
    .exact f B e
    .omega
  .have j:(l.take (i+1)).filter (fun p=>decide (p.1≠key))=(l.take i).filter (fun p=>decide (p.1≠key)):=by rw[K,List.filter_append,List.filter_cons_of_neg (by simpa using a)];simp
   refine⟨_,H', ?_,w,rfl,P,by rw[j];exact g,f⟩;simp(maxSteps:=999999)(disch:=omega) only[XF,zBl,eZ,t,J,L,F,xV,a,hi1]) n _ H ⟨.nilSlice,rfl,Stp.refl Z,⟨.inl (Own.nil ..),fun _=>rfl⟩,fun B z=>(Blk.nil.1 z).elim⟩ (by omega)
 obtain⟨q,y,C,e5,w,rfl,P5,O,f5⟩:=lp;rw[qJ]at O;refine⟨C,w, ?_,P5,O,f5⟩;have V:yF (q+1) (XF D n) [v,S key,w, .int .i64 ((l.length:Nat):Int)] C=some (.exit 0 [w],C):=y7 (by simp only[XF,eZ,t,qB]);simp(maxSteps:=999999)(disch:=omega) only[f69,eZ,e5,V,zHz]
theorem zMS (D:Dyn)(n:Nat){H:AH}(Z:H.ok){v:AV}{l:Kvs}(m:Srt l)(h:zAe H v l)(hl:l.length<=1000000)(hn:l.length<n)(key x:Str):
  ∃H' L,f68 D n [v,S key,S x] H=some (L,H')/\Prs H H'/\PrG H' L (putP key x l):=by
 obtain⟨f,w,e1,y,z,f1⟩:=zCb D n Z h hl hn key;rw[Nd.filt_del key m]at z;have O:=Nd.del_not key m;have a0:(delP key l).length<=l.length:=by have:=Nd.del_len key m;split at this<;>omega
 have N1:=y.next
 have hr:zAe f w (delP key l):=z.row;have t:lnSl w=some (.int .i64 (((delP key l).length:Nat):Int)):=Rw.lnSl hr;obtain⟨K,s⟩: ∃K,K=(delP key l).findIdx fun p=> !ltS p.1 key:=⟨_,rfl⟩
 have T:K<=(delP key l).length:=by rw[s];exact List.findIdx_le_length
 have lp:yF n (BM D n) [w,S key,S x, .int .i64 ((0:Nat):Int)] f=some (.exit 0 [w,S key,S x, .int .i64 ((K:Nat):Int)],f):=by
  refine kH (fun i=>[w,S key,S x, .int .i64 ((i:Nat):Int)]) K (fun i hi=> ?_) (fun q=> ?_) n (by omega)
  .have U:i< (delP key l).length:=by omega
   obtain⟨A,o,C,_,F,_⟩:=hr.at U;have u:Eng.ld1 (.ptr A (o+0)) f=some (S (delP key l)[i].1):=F;have a:((i:Nat):Int)< (((delP key l).length:Nat):Int):=by omega
   have hi1:((i:Nat):Int)+((1:Nat):Int)=((i+1:Nat):Int):=by omega
   have j:ltS (delP key l)[i].1 key=true:=by
    rw[s]at hi;have:=List.not_of_lt_findIdx hi;simpa using this
   simp(maxSteps:=999999)(disch:=omega) only[BM,eZ,t,a,C,u,uZ,j,hi1]
  .refine y7 ?_;by_cases j:K< (delP key l).length
   .obtain⟨A,o,C,_,F,_⟩:=hr.at j;have u:Eng.ld1 (.ptr A (o+0)) f=some (S (delP key l)[K].1):=F;have a:((K:Nat):Int)< (((delP key l).length:Nat):Int):=by omega
    have V:ltS (delP key l)[K].1 key=false:=by
     subst s;have:=List.findIdx_getElem (xs:=delP key l) (p:=fun p=> !ltS p.1 key) (w:=j);simpa using this
    simp(maxSteps:=999999)(disch:=omega) only[BM,eZ,t,a,C,u,uZ,V]
   .have a: ¬((K:Nat):Int)< (((delP key l).length:Nat):Int):=by omega
    simp(maxSteps:=999999)(disch:=omega) only[BM,eZ,t,a]
 obtain⟨H2,A1,r1,r2,w1,H3,A2,H4,w2,H5,w3,H6,b2,c2,c3,e3,_,_,b4,e5,c5,e6,P2,P3,P6,N⟩:=zPw y.ok z T (by omega) key x;have J:=Nd.ins_put key x (delP key l) O;rw[<-s]at J;rw[J,Nd.put_del key x m]at N;refine⟨H6,w3, ?_,y.trans P6,N⟩;have hS:(AV.str 0 0)=S []:=rfl;have W:d7 48 2 0 [S [],S []] []=some (.cells [] 48 2 false,fun A=> .slice A 0 0 0):=rfl;have bs:wY [(0,1),(1,1)] [S [],S []] [(0,S key),(1,S x)]=some (.agg [S key,S x]):=rfl;have Y:d7 48 2 1 [S [],S []] [(0, .agg [S key,S x])]=some (.cells [S key,S x] 48 2 false,fun A=> .slice A 0 1 2):=rfl;simp(maxSteps:=999999)(disch:=omega) only[f68,eZ,e1,lp,zHA,hS,W,b2,c2,e3,bs,Y,b4,e5,c5,e6]
theorem zMV (D:Dyn)(n:Nat){H:AH}(j:H.ok){v:AV}{l:Kvs}(f:Srt l)(h:zAe H v l)(hl:l.length<=1000000)(m:l.length<n)(key:Str):
  ∃H',f111 D n [v,S key] H=some (.bool (lookP key l).isSome,H')/\Prs H H':=by
 obtain⟨o,w,p,q,i,u⟩:=zCb D n j h hl m key;rw[Nd.filt_del key f]at i;have l1:lnSl w=some (.int .i64 (((delP key l).length:Nat):Int)):=Rw.lnSl i.row;have s:lnSl v=some (.int .i64 ((l.length:Nat):Int)):=Rw.lnSl h;have hd:=Nd.del_len key f;have hb:decide (¬(((delP key l).length:Nat):Int)=((l.length:Nat):Int))=(lookP key l).isSome:=by
  cases a:(lookP key l).isSome with
  | false=>rw[a]at hd;simp only[Bool.false_eq_true,if_false]at hd;rw[hd];simp
  | true=>
   rw[a]at hd;simp only[if_true]at hd;obtain⟨x,t⟩:=Option.isSome_iff_exists.1 a;obtain⟨y,_⟩:=(here_split f).2 x t;exact decide_eq_true (by omega)
 refine⟨o, ?_,q⟩;simp(maxSteps:=999999)(disch:=omega) only[f111,eZ,p,l1,s,ne_eq,hb]
theorem zPH (p:Str×Str):eqA [2,2] (.agg (prV p)) (.agg (prV p))=some true:=by
 have a: ∀s:Str,WM 2 (S s) (S s)=some true:=fun s=>by simp[WM,S]
 simp only[eqA,prV,dO,Nat.succ_eq_add_one,Nat.beq_refl,zO,qD,Bool.and_self,cond_true,wX,a]
theorem zEG (D:Dyn)(n:Nat){H:AH}{v w:AV}{l:Kvs}(a:zAe H v l)(f:zAe H w l)(hl:l.length<n)(z:l.length<=1000000):f55 D n [v,w] H=some (.bool true,H):=by
 have l1:lnSl v=some (.int .i64 ((l.length:Nat):Int)):=Rw.lnSl a;have m:lnSl w=some (.int .i64 ((l.length:Nat):Int)):=Rw.lnSl f;have p:yF n (zCw D n) [v,w, .int .i64 ((0:Nat):Int)] H=some (.exit 0 [],H):=by
  refine kH (fun i=>[v,w, .int .i64 ((i:Nat):Int)]) l.length (fun i hi=> ?_) (fun k=> ?_) n (by omega)
  .have j:((i:Nat):Int)< ((l.length:Nat):Int):=by omega
   have hi1:((i:Nat):Int)+((1:Nat):Int)=((i+1:Nat):Int):=by omega
   obtain⟨A,o,q,s,_⟩:=a.at hi;obtain⟨C,o',u,x,_⟩:=f.at hi;have y:bW .neq (eqA [2,2] (.agg (prV l[i])) (.agg (prV l[i])))=some (.bool false):=by rw[zPH];rfl
   simp(maxSteps:=999999)(disch:=omega) only[zCw,eZ,l1,j,q,s,u,x,y,hi1]
  .refine y7 ?_;simp(maxSteps:=999999)(disch:=omega) only[zCw,eZ,l1,qB]
 have t: ¬(((l.length:Nat):Int)≠((l.length:Nat):Int)):=fun h=>h rfl
 simp(maxSteps:=999999)(disch:=omega) only[f55,eZ,l1,m,t,p,zKt]
theorem zFh (D:Dyn)(n:Nat)(Y:2000<=n){H:AH}(L:H.ok)(s:Str){b:UInt8}(hb:b.toNat<255)(Z:s.length<=1000000)(k:Nat)(W:k<=1000): ∃H',f58 D n [S (s++[b]++List.replicate k 255)] H=some (S (s++[UInt8.ofNat (b.toNat+1)]),H')/\Prs H H':=by
 obtain⟨j,A,b1,o,N,m1,n1⟩:=box L (.cells [.int .u8 ((b.toNat+1:Nat):Int)] 5 1 false);refine⟨j, ?_,o⟩;obtain⟨T,a⟩: ∃T,T=s++[b]++List.replicate k 255:=⟨_,rfl⟩;have v:T.length=s.length+1+k:=by rw[a];simp;omega
 have x: ∀(h:s.length<T.length),T[s.length]=b:=fun h=>by subst a;simp
 have y: ∀i (h:i<T.length),s.length<i->T[i]=255:=fun i h hi=>by
  subst a;rw[List.getElem_append_right (by simp;omega),List.getElem_replicate]
 have z:T.take s.length=s:=by rw[a,List.append_assoc,List.take_left'];rfl
 rw[<-a];have hl:cP (S T)=some (.int .i64 ((s.length+1+k:Nat):Int)):=by rw[xI,v]
 have C:((s.length+1+k:Nat):Int) - ((1:Nat):Int)=((s.length+k - 0:Nat):Int):=by omega
 have O:yF n (KQ D n) [S T, .int .i64 ((s.length+k - 0:Nat):Int)] H=some (.ret (S (s++[UInt8.ofNat (b.toNat+1)])),j):=by
  refine kH (fun i=>[S T, .int .i64 ((s.length+k - i:Nat):Int)]) k (fun i hi=> ?_) (fun q=> ?_) n (by omega)
  .have f:((0:Nat):Int)<=((s.length+k - i:Nat):Int):=by omega
   have m:uW (S T) (.int .i64 ((s.length+k - i:Nat):Int))=some (.int .u8 ((255:Nat):Int)):=by
    rw[vK T .i64 (show s.length+k - i<T.length by omega),y _ _ (by omega)];rfl
   have p:((s.length+k - i:Nat):Int) - ((1:Nat):Int)=((s.length+k - (i+1):Nat):Int):=by omega
   simp(maxSteps:=999999)(disch:=omega) only[KQ,eZ,f,m,ne_eq,not_true_eq_false,p]
  .rw[show s.length+k - k=s.length by omega];have f:((0:Nat):Int)<=((s.length:Nat):Int):=by omega
   have m:uW (S T) (.int .i64 ((s.length:Nat):Int))=some (.int .u8 ((b.toNat:Nat):Int)):=by
    rw[vK T .i64 (show s.length<T.length by omega),x]
   have F:((b.toNat:Nat):Int)≠((255:Nat):Int):=by omega
   have t:YI (S T) none (some (.int .i64 ((s.length:Nat):Int)))=some (S s):=by
    rw[UN _ _ (by omega) (by simp;omega)];simp[z]
   have u:((b.toNat:Nat):Int)+((1:Nat):Int)=((b.toNat+1:Nat):Int):=by omega
   have U:IntKind.wrap .u8 ((b.toNat+1:Nat):Int)=((b.toNat+1:Nat):Int):=by rw[wrap_u8];omega
   have V:d7 5 1 1 [.int .u8 ((0:Nat):Int)] [(0, .int .u8 ((b.toNat+1:Nat):Int))]=some (.cells [.int .u8 ((b.toNat+1:Nat):Int)] 5 1 false,fun A=> .slice A 0 1 2):=rfl;have J:zBx (.slice A 0 1 2) j=some (S [UInt8.ofNat (b.toNat+1)]):=cv1 o.ok (by rw[zAT (by omega)];exact N);have K:bO .add (S s) (S [UInt8.ofNat (b.toNat+1)])=some (S (s++[UInt8.ofNat (b.toNat+1)])):=by rw[zEh _ _ (by simp;omega)]
   refine vV ?_;simp(maxSteps:=999999)(disch:=omega) only[KQ,eZ,f,m,F,ne_eq,not_false_eq_true,t,u,U,V,b1,J,K]
 simp(maxSteps:=999999)(disch:=omega) only[f58,eZ,hl,C,O]
def uY (s:Str):Str:=match s.reverse.dropWhile (fun b=>b==255)with
 | []=>[]
 | b::r=>r.reverse++[UInt8.ofNat (b.toNat+1)]
theorem fU (s:Str):(s=List.replicate s.length 255/\uY s=[])\/ ∃(p:Str) (b:UInt8) (k:Nat),s=p++[b]++List.replicate k 255/\b.toNat<255/\uY s=p++[UInt8.ofNat (b.toNat+1)]:=by
 have i: ∀l:Str,l=List.replicate (l.takeWhile fun b=>b==255).length 255++l.dropWhile fun b=>b==255:=fun l=>by
  induction l with
  | nil=>rfl
  | cons a l ih=>
   by_cases e:a=255
   .subst e;simp only[List.takeWhile_cons,List.dropWhile_cons,beq_self_eq_true,if_true,zO,List.replicate_succ,List.cons_append];rw[<-ih]
   .have:(a==255)=false:=by simpa using e
    simp[List.takeWhile_cons,List.dropWhile_cons,this]
 have hr:=i s.reverse
 cases hd:s.reverse.dropWhile fun b=>b==255 with
 | nil=>
  left;rw[hd,List.append_nil]at hr;have hl:(s.reverse.takeWhile fun b=>b==255).length=s.length:=by
   have:=congrArg List.length hr;simp at this;omega
  rw[hl]at hr;have:=congrArg List.reverse hr;rw[List.reverse_reverse,List.reverse_replicate]at this;exact⟨this,by rw[uY,hd]⟩
 | cons b r=>
  right;rw[hd]at hr;obtain⟨k,j⟩: ∃k,k=(s.reverse.takeWhile fun b=>b==255).length:=⟨_,rfl⟩;rw[<-j]at hr;have:=congrArg List.reverse hr;rw[List.reverse_reverse]at this;refine⟨r.reverse,b,k,by rw[this];simp, ?_,by rw[uY,hd]⟩;have hb:(b==255)=false:=by
   have f:=List.head?_dropWhile_not (fun b:UInt8=>b==255) s.reverse;rw[hd]at f;simpa using f
  have h:b≠255:=by simpa using hb
  have m:b.toNat≠255:=fun e=>h (UInt8.toNat_inj.1 (by rw[e];rfl))
  have o:=UInt8.toNat_lt b;omega
theorem zIP (D:Dyn)(n:Nat)(t:2000<=n){H:AH}(j:H.ok)(s:Str)(u:s.length<=1000): ∃H',f58 D n [S s] H=some (S (uY s),H')/\Prs H H':=by
 rcases fU s with⟨h,e⟩ | ⟨p,b,k,h,hb,e⟩
 .rw[e];obtain⟨k,f⟩: ∃k,k=s.length:=⟨_,rfl⟩;rw[<-f]at h u;have hl:cP (S s)=some (.int .i64 ((k:Nat):Int)):=by rw[xI,f]
  refine⟨H, ?_,Stp.refl j⟩;have v:yF n (KQ D n) [S s, .int .i64 ((k:Nat) - (0:Nat) - 1:Int)] H=some (.exit 0 [],H):=by
   refine kH (fun i=>[S s, .int .i64 ((k:Nat) - (i:Nat) - 1:Int)]) k (fun i hi=> ?_) (fun q=> ?_) n (by omega)
   .have a:((0:Nat):Int)<=(k:Nat) - (i:Nat) - 1:=by omega
    have x:((k:Nat) - (i:Nat) - 1:Int)=((k - i - 1:Nat):Int):=by omega
    have y:uW (S s) (.int .i64 ((k:Nat) - (i:Nat) - 1:Int))=some (.int .u8 ((255:Nat):Int)):=by
     rw[x,vK s .i64 (show k - i - 1<s.length by omega)];have:s[k - i - 1]'(by omega)=255:=by
      have:=List.getElem_of_eq h (show k - i - 1<s.length by omega);rw[this,List.getElem_replicate]
     rw[this];rfl
    have m:((k:Nat) - (i:Nat) - 1:Int) - ((1:Nat):Int)=((k:Nat) - ((i+1:Nat):Nat) - 1:Int):=by omega
    simp(maxSteps:=999999)(disch:=omega) only[KQ,eZ,a,y,ne_eq,not_true_eq_false,m]
   .have a: ¬((0:Nat):Int)<=(k:Nat) - (k:Nat) - 1:=by omega
    exact y7 (by simp(maxSteps:=999999)(disch:=omega) only[KQ,eZ,a])
  have o:((k:Nat):Int) - ((1:Nat):Int)=(k:Nat) - (0:Nat) - 1:=by omega
  have z:(AV.str 0 0)=S []:=rfl;simp(maxSteps:=999999)(disch:=omega) only[f58,eZ,hl,o,v,zHE,z]
 .rw[e,h];have hl:s.length=p.length+1+k:=by rw[h];simp;omega
  exact zFh D n t j p hb (by omega) k (by omega)
end Go.Eng.Sh
end
section
set_option maxRecDepth 20000
namespace Go.Bt
open Go.Nd (Str Kvs Srt)
open Go.Eng (ltS yS vG yW uV)
open Go.Eng.Sh (yB uY fU)
end Go.Bt
end
section
set_option maxRecDepth 20000
namespace Go.Eng.Sh
open Go.Nd (Ptr sumL leafOf Kvs Srt mayK putP delP lookP)
open Go.Bt Go.Bk
structure Sw where
 kd:Nat
 k:Str
 v:Str
def swV (a:Sw):List AV:=[.int .u8 ((a.kd:Nat):Int),S a.k,S a.v]
def SwR (H:AH)(v:AV)(l:List Sw):Prop:=Rw 3 H v l.length (l.flatMap swV)
theorem zBj: ∀(l:List Sw) (i:Nat) (h:i<l.length),((l.flatMap swV).drop (i*3)).take 3=swV l[i]
 | p::l,0,_=>by rw[Nat.zero_mul,List.drop_zero,zW,List.take_left' (show(swV p).length=3 from rfl)];rfl
 | p::l,i+1,h=>by
  rw[zW,show(i+1)*3=3+i*3 by omega,<-List.drop_drop,List.drop_left' (show(swV p).length=3 from rfl)];exact zBj l i (by simpa using h)
theorem SwR.at {H:AH}{v:AV}{l:List Sw}(h:SwR H v l){i:Nat}(hi:i<l.length): ∃A o,(∀κ (z:Int),z=(i:Int)->hU 3 v (.int κ z)=some (.ptr A o))/\ldN 3 (.ptr A o) H=some (.agg (swV l[i]))/\Eng.ld1 (.ptr A (o+0)) H=some (.int .u8 ((l[i].kd:Nat):Int))/\Eng.ld1 (.ptr A (o+1)) H=some (S l[i].k)/\Eng.ld1 (.ptr A (o+2)) H=some (S l[i].v):=by
 obtain⟨A,o,c,e,sz,g,p,a,t,q,f⟩:=Rw.at h hi;rw[zBj l i hi]at f;have m: ∀j,j<3->c[o+j]? =(swV l[i])[j]? :=fun j s=>by
  have:=congrArg (fun x=>x[j]?) f;simp only[qP s,qN]at this;exact this
 exact⟨A,o,p,by rw[K8 a q,f],kV a (m 0 (by omega)),kV a (m 1 (by omega)),kV a (m 2 (by omega))⟩
theorem SwR.lnSl {H:AH}{v:AV}{l:List Sw}(h:SwR H v l):Eng.lnSl v=some (.int .i64 ((l.length:Nat):Int)):=Rw.lnSl h
theorem SwR.prs {H H':AH}{v:AV}{l:List Sw}(h:SwR H v l)(s:Prs H H'):SwR H' v l:=Rw.prs h s
def Q0 (s:Sw)(kv:Kvs):Kvs:=if s.kd=0 then(if JT s.k s.v then putP s.k s.v kv else kv)else if s.kd=1 then delP s.k kv else kv
theorem zDp (k v:Str): ∀kv:Kvs,(putP k v kv).length<=kv.length+1
 | []=>by simp[putP]
 | (a,b)::l=>by
  have:=zDp k v l;rw[putP];split
  .simp
  .split
   .simp only[zO];omega
   .simp
theorem zFY (s:Sw)(kv:Kvs)(h:Srt kv):(Q0 s kv).length<=kv.length+1:=by
 rw[Q0];split
 .split
  .exact zDp ..
  .omega
 .split
  .have:=Nd.del_len s.k h;split at this<;>omega
  .omega
theorem zKb (D:Dyn)(n:Nat)(F:100<=n){H:AH}{v:AV}{l:List Sw}(q:SwR H v l): ∃b,f50 D n [v] H=some (.bool b,H)/\(b=false->l.length<=60):=by
 have f:=q.lnSl;by_cases h60:60<l.length
 .have m:((60:Nat):Int)< ((l.length:Nat):Int):=by omega
  refine⟨true, ?_,fun h=>by cases h⟩;simp(maxSteps:=999999)(disch:=omega) only[f50,eZ,f,m]
 .have m: ¬((60:Nat):Int)< ((l.length:Nat):Int):=by omega
  have y: ∀(j i a:Nat),i+j=l.length->j<a-> ∃b,jb 0 (yF a (zBm D n) [v, .int .i64 ((i:Nat):Int)] H) (zHI D n)=some (.ret (.bool b),H):=by
   intro j
   induction j with
   | zero=>
    intro i a z C;obtain⟨k,rfl⟩: ∃k,a=k+1:=⟨a - 1,by omega⟩;have x: ¬((i:Nat):Int)< ((l.length:Nat):Int):=by omega
    refine⟨false, ?_⟩;rw[y7 (i:=0) (vs':=[]) (H':=H) (by simp(maxSteps:=999999)(disch:=omega) only[zBm,eZ,f,x])];simp(maxSteps:=999999)(disch:=omega) only[jb,Nat.beq_refl,cond_true,zHI,eZ]
   | succ j ih=>
    intro i a z C;obtain⟨k,rfl⟩: ∃k,a=k+1:=⟨a - 1,by omega⟩;have p:((i:Nat):Int)< ((l.length:Nat):Int):=by omega
    have hi1:((i:Nat):Int)+((1:Nat):Int)=((i+1:Nat):Int):=by omega
    obtain⟨A,o,s,_,_,t,u⟩:=q.at (show i<l.length by omega);by_cases hb:(decide (((1000:Nat):Int)< ((l[i].k.length:Nat):Int))||decide (((1000:Nat):Int)< ((l[i].v.length:Nat):Int)))=true
    .refine⟨true, ?_⟩;rw[vV (v:= .bool true) (H':=H) (by
      simp(maxSteps:=999999)(disch:=omega) only[zBm,eZ,f,p,s,t,u,xI,hb,if_true])]
     rfl
    .obtain⟨b,e⟩:=ih (i+1) k (by omega) (by omega);refine⟨b, ?_⟩;rw[jF (vs':=[v, .int .i64 ((i+1:Nat):Int)]) (H':=H) (by simp(maxSteps:=999999)(disch:=omega) only[zBm,eZ,f,p,s,t,u,xI,hb,hi1,if_false]),e]
  obtain⟨b,e⟩:=y l.length 0 n (by omega) (by omega);refine⟨b, ?_,fun _=>by omega⟩;simp(maxSteps:=999999)(disch:=omega) only[f50,eZ,f,m,e]
structure Gst (E:Ev)(H:AH)(Gd Ad As At M L txg la:Nat)(is:Nat->Nat)(V W:Nat->Prop)(root:Ptr)(q:PN)(kv:Kvs)(T:List Ptr):Prop where
 tx:bD (.ptr Ad 0) .nilPtr E H At M L W root q kv T
 ds:Dsk H Ad As E.nb E.ws la is V
 us: ∀r∈dsk T++E.dl,is r.at_.toNat≠0
 gG: ∃lv,H.h.get Gd=some (.cells [.ptr At 0,lv, .ptr Ad 0, .ptr As 0, .int .i64 ((txg:Nat):Int)] 104 1 false)/\GrP H lv kv
theorem zAQ {E:Ev}{H:AH}{Ad m At M L p nb:Nat}{s:Ws}{is:Nat->Nat}{V W:Nat->Prop}{d c:AV}{root:Ptr}{q:PN}{kv:Kvs}{T:List Ptr}(t:bD d c E H At M L W root q kv T)(u:Dsk H Ad m nb s p is V){B:Nat}{o:AObj}(a:H.h.get B=some o)(h:(∃l e g,o= .cells l e 2 g)\/ ∃l,o= .cells l 104 1 false): ¬W B/\ ¬V B:=by
 obtain⟨Z,es,Y,_,f,_,_,_,_,_,v⟩:=t;obtain⟨On,Nw,wv,dm,i,x,y,_⟩:=u;obtain⟨c8,z⟩:=x.bk;have C: ∀l e g,o≠ .cells l e 3 g:=by rcases h with⟨_,_,_,rfl⟩ | ⟨_,rfl⟩<;>simp
 have F: ∀l e g,o≠ .cells l e 513 g:=by rcases h with⟨_,_,_,rfl⟩ | ⟨_,rfl⟩<;>simp
 have j: ∀l e,o≠ .map l e:=by rcases h with⟨_,_,_,rfl⟩ | ⟨_,rfl⟩<;>simp
 have J: ∀l,o≠ .cells l 140 1 false:=by rcases h with⟨_,_,_,rfl⟩ | ⟨_,rfl⟩<;>simp
 have K: ∀l,o≠ .cells l 145 1 false:=by rcases h with⟨_,_,_,rfl⟩ | ⟨_,rfl⟩<;>simp
 have N: ∀l,o≠ .cells l 151 1 false:=by rcases h with⟨_,_,_,rfl⟩ | ⟨_,rfl⟩<;>simp
 constructor
 .intro O;rcases(v B).1 O with rfl | rfl | e
  .exact J _ (Option.some.inj (a.symm.trans f.gT))
  .exact j _ _ (Option.some.inj (a.symm.trans f.gM))
  .exact yV.nsep f.dg a (fun S g=>C _ S g) e
 .intro U;rcases(y B).1 U with rfl | rfl | rfl | e
  .exact K _ (Option.some.inj (a.symm.trans z))
  .exact N _ (Option.some.inj (a.symm.trans i.gD))
  .exact j _ _ (Option.some.inj (a.symm.trans i.gN))
  .exact F _ _ _ (Option.some.inj (a.symm.trans (i.ow.get e)))
theorem Gst.prs {E:Ev}{H H':AH}{Gd Ad a At M L txg f:Nat}{is:Nat->Nat}{V W:Nat->Prop}{root:Ptr}{q:PN}{kv:Kvs}{T:List Ptr}(w:Gst E H Gd Ad a At M L txg f is V W root q kv T)(s:Prs H H'):Gst E H' Gd Ad a At M L txg f is V W root q kv T:=by
 obtain⟨j,m,gl⟩:=w.gG;have h:=w.tx.d.okH;obtain⟨o,es,i,p,t,u⟩:=w.tx;exact⟨⟨o,es,i,p,t.prs s,u⟩,w.ds.prs h s,w.us,j,Prs.get s h m,gl.prs s⟩
theorem DskG.stp {S:Nat->Prop}{H H':AH}{Ad i nb j:Nat}{m:Ws}{is:Nat->Nat}{V:Nat->Prop}(d:Dsk H Ad i nb m j is V)(o:H.ok)(s:Stp S H H')(f: ∀B,V B-> ¬S B)(q: ∀B ks es,H.h.get B=some (.map ks es)->S B->ks=[10]):Dsk H' Ad i nb m j is V:=by
 obtain⟨t,u,v,x,p,y,a,r⟩:=d;exact⟨t,u,v,x,p.stp o s (f _ ((a _).2 (.inr (.inl rfl)))) (fun h=>by have:=q _ _ _ p.gO h;simp at this) (f _ ((a _).2 (.inr (.inr (.inl rfl))))) (fun B z=>f _ ((a _).2 (.inr (.inr (.inr z))))),y.stp o s (f _ ((a _).2 (.inl rfl))),a,r⟩
theorem TreeG.dsk {E:Ev}{H:AH}{Ad m At M L o nb:Nat}{p:Ws}{is:Nat->Nat}{V W:Nat->Prop}{d c:AV}{root:Ptr}{q:PN}{kv:Kvs}{T:List Ptr}(s:bD d c E H At M L W root q kv T)(t:Dsk H Ad m nb p o is V):(∀B,V B-> ¬W B)/\ ∀B ks es,H.h.get B=some (.map ks es)->W B->ks=[10]:=by
 obtain⟨x,es,v,_,f,_,_,_,_,_,j⟩:=s;have h:=zD7 f t;refine⟨fun B u i=>h B ?_ u,fun B ks es' a i=> ?_⟩
 .rcases(j B).1 i with e | e | e
  .exact .inl e
  .exact .inr (.inl e)
  .exact .inr (.inr (.inl e))
 .rcases(j B).1 i with rfl | rfl | e
  .rw[f.gT]at a;cases a
  .rw[f.gM]at a;cases a;rfl
  .exact absurd e (yV.nsep f.dg a (fun y g=>by simp))
theorem Gst.tree {E f:Ev}{H H':AH}{Gd Ad i At M L x txg p:Nat}{is:Nat->Nat}{V W s:Nat->Prop}{root u:Ptr}{q y:PN}{kv v:Kvs}{T m:List Ptr}(w:Gst E H Gd Ad i At M L txg p is V W root q kv T)(J:bD (.ptr Ad 0) .nilPtr f H' At M x s u y v m)(a:AdT W H s H')(c:Chd E f T m){j:AV}(o:H.h.get Gd=some (.cells [.ptr At 0,j, .ptr Ad 0, .ptr i 0, .int .i64 ((txg:Nat):Int)] 104 1 false))(gl:GrP H j kv):
  Dsk H' Ad i f.nb f.ws p is V/\(∀r∈dsk m++f.dl,is r.at_.toNat≠0)/\H'.h.get Gd=some (.cells [.ptr At 0,j, .ptr Ad 0, .ptr i 0, .int .i64 ((txg:Nat):Int)] 104 1 false)/\GrP H' j kv:=by
 have t:=w.tx.d.okH;obtain⟨z,C⟩:=TreeG.dsk w.tx w.ds;refine⟨?_,fun r hr=>w.us r (c.pm.mem_iff.1 hr), ?_, ?_⟩
 .rw[c.nb,c.ws];exact DskG.stp w.ds t a.1 z C
 .rw[a.1.keep _ (t.lt o) (zAQ w.tx w.ds o (.inr ⟨_,rfl⟩)).1];exact o
 .exact gl.mono a.1 fun B F=>by
   obtain⟨l,e,g,h⟩:=yV.get2 gl F;exact(zAQ w.tx w.ds h (.inl ⟨_,_,_,rfl⟩)).1
theorem Gst.note {E:Ev}{H H':AH}{Gd Ad m At M L t v:Nat}{is:Nat->Nat}{V W:Nat->Prop}{root:Ptr}{q:PN}{kv:Kvs}{T:List Ptr}{f:AV}(o:bD (.ptr Ad 0) .nilPtr E H At M L W root q kv T)(x:Dsk H Ad m E.nb E.ws v is V)(N: ∀r∈dsk T++E.dl,is r.at_.toNat≠0){O:Nat}{S:List AV}(i:H.h.get Gd=some (.cells (.ptr O 0::S) 104 1 false))(s:Stp (fun B=>B=Gd) H H')(U:H'.h.get Gd=some (.cells [.ptr At 0,f, .ptr Ad 0, .ptr m 0, .int .i64 ((t:Nat):Int)] 104 1 false))(gl:GrP H f kv):Gst E H' Gd Ad m At M L t v is V W root q kv T:=by
 have Y:=o.d.okH;obtain⟨p,Z⟩:=zAQ o x i (.inr ⟨_,rfl⟩);have F: ∀B,Blk f B-> ¬B=Gd:=fun B a e=>by
  obtain⟨l,e',g,h⟩:=yV.get2 gl a;rw[e,i]at h;simp at h
 obtain⟨dr,es,C,h1,y,h3,h4,h5,h6,h7,j⟩:=o;have u:=DskG.stp x Y s (fun B a e=>Z (e▸a)) (fun B ks es' z e=>by rw[e,i]at z;cases z);refine⟨⟨dr,es,C,h1, ?_,h3,h4,h5,h6,h7,j⟩,u,N,f,U,gl.mono s F⟩;obtain⟨On,Nw,wv,dm,dk,sp,hV,_⟩:=u;refine y.wr s (fun B a e=> ?_) dk;subst e;rcases a with e | e | e | ⟨kv,J,e⟩
 .exact p ((j _).2 (.inl e))
 .exact p ((j _).2 (.inr (.inl e)))
 .exact p ((j _).2 (.inr (.inr e)))
 .obtain⟨nd,K⟩:=y.pq.node kv J;exact K.nblk i (.inl ⟨_,_,_,_,rfl,fun _ _ h=>by cases h⟩) e
theorem stG {H:AH}(f:H.ok){Gd:Nat}{a b c d x y:AV}(i:Nat)(l':List AV)(hl:l'=[a,b,c,d,x].set i y)(hi:i<5)(g:H.h.get Gd=some (.cells [a,b,c,d,x] 104 1 false))(j:isCell y=true): ∃H',stN 1 (.ptr Gd i) y H=some (qX,H')/\H'.h.get Gd=some (.cells l' 104 1 false)/\Stp (fun B=>B=Gd) H H'/\H'.next=H.next:=by
 subst hl;exact kK f g (o:=i) (x:=y) j (by simpa using hi)
end Go.Eng.Sh
end

