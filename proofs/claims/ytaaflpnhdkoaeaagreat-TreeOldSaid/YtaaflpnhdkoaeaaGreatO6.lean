/- A checked evaluator for the program, and what it tells, part 6: no condition. -/
import Derived.Test.YtaaflpnhdkoaeaaGreatO5
set_option linter.all false
set_option linter.unusedVariables false
set_option linter.unusedSimpArgs false
set_option maxHeartbeats 8000000
set_option maxRecDepth 20000
section
namespace Go.Eng.Sh
open Go.Nd (Ptr sumL cutOk cutA cB)
inductive CutsN:Nd.Node->List Nd.Node->List Str->Prop
 | one {nd:Nd.Node} :Nd.size nd<=500->CutsN nd [nd] []
 | more {nd:Nd.Node} {k:Nat} {ps:List Nd.Node} {ss:List Str} :500<Nd.size nd->cutOk nd k->hbnd nd k->CutsN (cB nd k) ps ss->CutsN nd (cutA nd k::ps) (nd.keys.getD k []::ss)
def Par (H:AH):List (List AV)->List Nd.Node->Prop
 | [],[]=>True
 | l::vs,nd::nds=>(l.length=4/\qY l=true/\yK H (.agg l) nd)/\Par H vs nds
 | _,_=>False
theorem Par.len {H:AH} : ∀ {vs:List (List AV)} {nds:List Nd.Node},Par H vs nds->vs.length=nds.length/\vs.flatten.length=nds.length*4/\qY vs.flatten=true
 | [],[],_=>⟨rfl,rfl,rfl⟩
 | l::vs,_::nds,h=>by
  obtain⟨a,b,c⟩:=Par.len h.2;refine⟨by simp[a], ?_, ?_⟩
  .rw[List.flatten_cons,zM,b,h.1.1,zP];omega
  .rw[List.flatten_cons,jA];intro x hx;rcases List.mem_append.1 hx with hx | hx
   .exact jA.1 h.1.2.1 x hx
   .exact jA.1 c x hx
 | [],_::_,h=>h.elim
 | _::_,[],h=>h.elim
theorem Par.frame {H H':AH} : ∀ {vs:List (List AV)} {nds:List Nd.Node},Par H vs nds->(∀l∈vs,∀nd,yK H (.agg l) nd->yK H' (.agg l) nd)->Par H' vs nds
 | [],[],_,_=>trivial
 | l::vs,nd::nds,h,hf=>⟨⟨h.1.1,h.1.2.1,hf l (zH ..) nd h.1.2.2⟩,Par.frame h.2 fun l hl=>hf l (zF _ hl)⟩
 | [],_::_,h,_=>h.elim
 | _::_,[],h,_=>h.elim
theorem Par.snoc {H:AH}{l:List AV}{nd:Nd.Node}(hv:l.length=4/\qY l=true/\yK H (.agg l) nd): ∀ {vs:List (List AV)} {nds:List Nd.Node},Par H vs nds->Par H (vs++[l]) (nds++[nd])
 | [],[],_=>⟨hv,trivial⟩
 | _::vs,_::nds,h=>⟨h.1,Par.snoc hv h.2⟩
 | [],_::_,h=>h.elim
 | _::_,[],h=>h.elim
theorem Par.mem {H:AH} : ∀ {vs:List (List AV)} {nds:List Nd.Node} {l:List AV},Par H vs nds->l∈vs-> ∃nd,yK H (.agg l) nd
 | [],[],_,_,hl=>by simp at hl
 | k::vs,nd::nds,l,h,hl=>by
  rcases List.mem_cons.1 hl with rfl | hl
  .exact⟨nd,h.1.2.2⟩
  .exact Par.mem h.2 hl
 | [],_::_,_,h,_=>h.elim
 | _::_,[],_,h,_=>h.elim
theorem zOn (e:TypeId)(l:List AV)(hl:l.length=4)(z:List AV)(hz:z.length=4):aU e 4 1 z [(0, .agg l)]=some (.cells l e 4 false,fun A=> .slice A 0 1 2):=by
 match z,hz with
 | [_,_,_,_],_=>match l,hl with
  | [_,_,_,_],_=>rfl
theorem src4 {H:AH}{A e:Nat}{l:List AV}{g:Bool}(h:H.h.get A=some (.cells l e 4 g))(hl:l.length=4)(cc:Nat):srcOf 4 (.slice A 0 1 cc) H=some (1,l):=by
 simp only[srcOf,h,yS _ _ _ (.inr (show 0+1*4<=l.length by omega)),List.drop_zero,zO (show l.length<=1*4 by omega)]
theorem YZ {nd:Nd.Node}(h:Nd.shaped ltS nd=true)(hz:500<Nd.size nd):vS nd:=by
 have hk: ∀k∈nd.keys,k.length<=40:=fun k hk=>by
  simp only[Nd.shaped,zE,List.all_eq_true]at h;have:=h.1.1 k hk;simp only[Nd.mayK,zE,zJ]at this;omega
 have b1: ∀(c:Nat) (l:List Str),(∀k∈l,k.length<=c)->sumL l<=(c+1)*l.length:=by
  intro c l
  induction l with
  | nil=>simp[sumL]
  | cons a l ih=>
   intro h;have:=ih fun k hk=>h k (zF _ hk)
   have:=h a (zH ..);rw[Nd.sumL_cons,zP,Nat.mul_succ];omega
 have k1:=b1 40 nd.keys hk;simp only[Nd.size]at hz
 cases hl:nd.leaf with
 | true=>
  simp only[Nd.shaped,hl,if_true,zE,zJ,List.all_eq_true]at h;have k2:=b1 200 nd.vals fun v hv=>h.2.2 v hv
  rw[h.2.1.2,qI]at hz;rw[h.2.1.1]at k2;exact⟨by omega, .inl hl⟩
 | false=>
  simp only[Nd.shaped,hl,Bool.false_eq_true,if_false,zE,zJ]at h;rw[h.2.1.1.2]at hz;have:sumL []=0:=rfl;rw[h.2.1.2]at hz;exact⟨by omega, .inr (by omega)⟩
theorem jY {nd:Nd.Node}(h:Nd.size nd<=10000):small nd:=by
 simp only[Nd.size]at h;exact⟨by omega,by omega,by omega⟩
theorem zAL (D:Dyn)(n:Nat)(hn:200000000<=n){H:AH}(hk:H.ok){v:AV}{nd:Nd.Node}(h:yK H v nd)(hsh:Nd.shaped ltS nd=true)(hz:Nd.size nd<=10000):
  ∃pv sv H' vs nds ss,f177 D n [v] H=some (.tuple [pv,sv, .int .i64 ((0:Nat):Int)],H')/\Prs H H'/\CutsN nd nds ss/\Own 4 119 H' pv nds.length vs.flatten/\Par H' vs nds/\Own 1 9 H' sv ss.length (ss.map S)/\
   (∀B,Blk pv B->H.next<=B)/\(∀B,Blk sv B->H.next<=B)/\ ∀l∈vs,∀B,wN (.agg l) B->wN v B\/H.next<=B:=by
 obtain⟨l0,rfl,l0l,l0c⟩:=h.cells;obtain⟨H1,A1,b1,p1,g1,m1,n1⟩:=box hk (.cells l0 119 1 false);have lp:Fin (yJ n (QH D n) [.ptr A1 0, .nilSlice, .nilSlice] H1) fun x H'=> ∃l nd' vs nds ss pv sv,x= .exit 0 [.ptr A1 0,pv,sv]/\Prs H H'/\H'.h.get A1=some (.cells l 119 1 false)/\l.length=4/\qY l=true/\yK H' (.agg l) nd'/\Nd.size nd'<=500/\
   (∀ps' ss',CutsN nd' ps' ss'->CutsN nd (nds++ps') (ss++ss'))/\Own 4 119 H' pv nds.length vs.flatten/\Par H' vs nds/\Own 1 9 H' sv ss.length (ss.map S)/\(∀B,Blk pv B->H.next<=B)/\(∀B,Blk sv B->H.next<=B)/\
   (∀B,wN (.agg l) B->wN (.agg l0) B\/H.next<=B)/\(∀l∈vs,∀B,wN (.agg l) B->wN (.agg l0) B\/H.next<=B)/\nds.length<=10000:=by
  refine Fin.loop (fun k us H'=> ∃l nd' vs nds ss pv sv,us=[.ptr A1 0,pv,sv]/\Prs H H'/\H'.h.get A1=some (.cells l 119 1 false)/\l.length=4/\qY l=true/\yK H' (.agg l) nd'/\Nd.shaped ltS nd'=true/\
   (∀ps' ss',CutsN nd' ps' ss'->CutsN nd (nds++ps') (ss++ss'))/\Own 4 119 H' pv nds.length vs.flatten/\Par H' vs nds/\Own 1 9 H' sv ss.length (ss.map S)/\(∀B,Blk pv B->H.next<=B)/\(∀B,Blk sv B->H.next<=B)/\
   (∀B,wN (.agg l) B->wN (.agg l0) B\/H.next<=B)/\(∀l∈vs,∀B,wN (.agg l) B->wN (.agg l0) B\/H.next<=B)/\(∀B,wN (.agg l) B-> ¬Blk sv B)/\(∀l∈vs,∀B,wN (.agg l) B-> ¬Blk sv B)/\ss.length=nds.length/\nds.length+Nd.size nd'<=10000/\k=Nd.size nd') ?_ n (Nd.size nd) _ H1
   ⟨l0,nd,[],[],[], .nilSlice, .nilSlice,rfl,p1,g1,l0l,l0c,h.prs p1,hsh,fun _ _ h=>h,Own.nil ..,trivial,Own.nil ..,fun B hB=>(Blk.nil.1 hB).elim,fun B hB=>(Blk.nil.1 hB).elim,fun B hB=> .inl hB,by simp,fun B _ hB=>(Blk.nil.1 hB).elim,by simp,rfl,by simpa using hz,rfl⟩ (by omega)
  rintro k us H' ⟨l,nd',vs,nds,ss,pv,sv,rfl,P,gA,ll,lc,hG,hsh',hcut,oP,hPar,oS,bP,bS,bl,bvs,al,avs,hlen,hsum,rfl⟩
  have hsm:small nd':=jY (by omega);obtain⟨z,H2,e2,rfl,p2⟩:=YY D n P.ok hG.node hsm hn;have P2:=P.trans p2;have g2:=Prs.get p2 P.ok gA;by_cases hbig:500<Nd.size nd'
  case neg=>
   have hbI: ¬((500:Nat):Int)< ((Nd.size nd':Nat):Int):=by omega
   refine⟨.exit 0 [.ptr A1 0,pv,sv],H2, ?_,l,nd',vs,nds,ss,pv,sv,rfl,P2,g2,ll,lc,hG.prs p2,by omega,hcut,oP.mono p2 (fun _ _ x=>x),hPar.frame (fun l hl nd hn=>hn.prs p2),oS.mono p2 (fun _ _ x=>x),bP,bS,bl,bvs,by omega⟩;simp(disch:=omega) only[QH,eZ,v7 gA ll,e2,hbI]
  case pos=>
  have hbI:((500:Nat):Int)< ((Nd.size nd':Nat):Int):=by omega
  have hcb:=YZ hsh' hbig;obtain⟨va,sep,vb,e,H3,e3,p3,hc⟩:=zOa D n hn P2.ok (hG.prs p2) hsm;rcases hc with⟨rfl,k,_,hck,hb,rfl,ga,gb⟩ | ⟨_,_,hno,_⟩
  case inr=>exact absurd ⟨hsh',hcb⟩ hno
  have P3:=P2.trans p3;have p13:Prs H' H3:=p2.trans p3;obtain⟨la,rfl,lal,lac⟩:=ga.1.cells;obtain⟨lb,rfl,lbl,lbc⟩:=gb.1.cells;obtain⟨H4,A7,b4,p4,g4,m4,n4⟩:=box P3.ok (.cells [.bool false, .nilSlice, .nilSlice, .nilSlice] 119 1 false);obtain⟨H5,A9,b5,p5,g5,m5,n5⟩:=box p4.ok (.cells [.bool false, .nilSlice, .nilSlice, .nilSlice] 119 1 false);obtain⟨H6,e6,g6,s6,n6⟩:=yD p5.ok (Prs.get p5 p4.ok g4) (l':=la) lal lac;have e6':stN 4 (.ptr A7 0) (.agg la) H5=some (qZ,H6):=e6;obtain⟨H7,e7,g7,s7,n7⟩:=yD s6.ok (show H6.h.get A9=some (.cells [.bool false, .nilSlice, .nilSlice, .nilSlice] 119 1 false)by rw[s6.keep _ n5 (by omega)];exact g5) (l':=lb) lbl lbc;have e7':stN 4 (.ptr A9 0) (.agg lb) H6=some (qZ,H7):=e7;have N3:=p13.next;have N4:=p4.next;have N5:=p5.next
  have q37:Prs H3 H7:=((p4.trans p5).fresh s6 (fun B hB=>by omega)).fresh s7 (fun B hB=>by omega);have g77:H7.h.get A7=some (.cells la 119 1 false):=by rw[s7.keep _ (by omega) (by omega)];exact g6
  obtain⟨H8,A10,b8,p8,g8,m8,n8⟩:=box q37.ok (.cells la 119 4 false);have q38:Prs H3 H8:=q37.trans p8;have q18:Prs H' H8:=p13.trans q38;obtain⟨H9,e9,o9,s9,n9⟩:=xA (bytes:=80) q38.ok (by decide) (oP.mono q18 (fun _ _ x=>x)) (src4 g8 lal 2) (by omega) lac (by omega) (by omega) (by decide);have N8:=q38.next
  have nP: ∀(l:List AV) (nd:Nd.Node),yK H8 (.agg l) nd-> ∀B,wN (.agg l) B-> ¬Blk pv B:=fun l nd hg B hB hp=>by
   obtain⟨_,⟨rfl,_⟩ | ⟨C,rfl,_,hgC⟩⟩:=oP.mono q18 (fun _ _ x=>x)
   .exact Blk.nil.1 hp
   .rw[Blk.slice.1 hp]at hB;exact hg.nblk hgC (.inr (.inr ⟨_,_,_,_,rfl,by decide,by decide⟩)) hB
  have oS8:=oS.mono q18 (fun _ _ x=>x);have nSP: ∀B,Blk sv B-> ¬Blk pv B:=fun B hB hp=>by
   obtain⟨_,⟨rfl,_⟩ | ⟨C,rfl,_,hgC⟩⟩:=oP.mono q18 (fun _ _ x=>x)
   .exact Blk.nil.1 hp
   .obtain⟨_,⟨rfl,_⟩ | ⟨E,rfl,_,hgE⟩⟩:=oS8
    .exact Blk.nil.1 hB
    .rw[<-Blk.slice.1 hp,Blk.slice.1 hB,hgE]at hgC;simp at hgC
  obtain⟨H10,A29,b10,p10,g10,m10,n10⟩:=box s9.ok (.cells [S (nd'.keys.getD k [])] 9 1 false);have oS10:=(oS8.mono s9 nSP).mono p10 (fun _ _ x=>x);have hsrc:srcOf 1 (.slice A29 0 1 2) H10=some (1,[S (nd'.keys.getD k [])]):=by
   have:=Rw.srcOf (Rw.lit (cc:=2) p10.ok g10);exact this
  obtain⟨H11,e11,o11,s11,n11⟩:=xA (bytes:=16) p10.ok (by decide) oS10 hsrc rfl rfl (by omega) (by omega) (by decide);have A1lt:A1<H'.next:=P.ok.lt gA
  have fr: ∀(l:List AV) (nd:Nd.Node),yK H8 (.agg l) nd->(∀B,wN (.agg l) B-> ¬Blk sv B)->yK H11 (.agg l) nd:=fun l nd hg ha=>
   ((hg.stp s9 (nP l nd hg)).prs p10).stp s11 ha
  have svlt: ∀B,Blk sv B->B<H3.next:=fun B hB=>by have:=Rw.blk oS.row hB;omega
  have ga8:=ga.1.prs q38;have gb8:=gb.1.prs q38;have fA: ∀B,wN (.agg la) B-> ¬Blk sv B:=fun B hB hs=>by have:=ga.2 B hB;have:=Rw.blk oS.row hs;have:=p2.next;omega
  have fB: ∀B,wN (.agg lb) B-> ¬Blk sv B:=fun B hB hs=>by have:=gb.2 B hB;have:=Rw.blk oS.row hs;have:=p2.next;omega
  have ga11:=fr la _ ga8 fA;have gb11:=fr lb _ gb8 fB;have lt8: ∀(l:List AV) (nd:Nd.Node),yK H8 (.agg l) nd-> ∀B,wN (.agg l) B->B<H10.next:=fun l nd hg B hB=>by have:=hg.lt hB;have:=s9.next;have:=p10.next;omega
  have gA11:H11.h.get A1=some (.cells l 119 1 false):=by
   have e8:H8.h.get A1=some (.cells l 119 1 false):=Prs.get q18 P.ok gA;have np: ¬Blk pv A1:=fun hp=>by
    obtain⟨_,⟨rfl,_⟩ | ⟨C,rfl,_,hgC⟩⟩:=oP
    .exact Blk.nil.1 hp
    .rw[<-Blk.slice.1 hp,gA]at hgC;simp at hgC
   have ns: ¬Blk sv A1:=fun hp=>by
    obtain⟨_,⟨rfl,_⟩ | ⟨C,rfl,_,hgC⟩⟩:=oS
    .exact Blk.nil.1 hp
    .rw[<-Blk.slice.1 hp,gA]at hgC;simp at hgC
   rw[s11.keep _ (by have:=s9.next;have:=p10.next;omega) ns,p10.keep _ (by have:=s9.next;omega) (fun x=>x),s9.keep _ (by omega) np];exact e8
  obtain⟨H12,e12,g12,s12,n12⟩:=yD s11.ok gA11 (l':=lb) (by omega) lbc;have e12':stN 4 (.ptr A1 0) (.agg lb) H11=some (qZ,H12):=by rw[ll]at e12;exact e12
  have r9:ldN 4 (.ptr A9 0) H11=some (.agg lb):=v7 (e:=119) (by
   have np: ¬Blk pv A9:=fun hp=>by have:=Rw.blk oP.row hp;omega
   have ns: ¬Blk sv A9:=fun hp=>by have:=svlt _ hp;omega
   rw[s11.keep _ (by have:=s9.next;have:=p10.next;have:=p8.next;omega) ns,p10.keep _ (by have:=s9.next;have:=p8.next;omega) (fun x=>x),s9.keep _ (by have:=p8.next;omega) np,p8.keep _ (by omega) (fun x=>x)];exact g7) lbl
  have fin: ∀(l2:List AV) (nd2:Nd.Node),yK H11 (.agg l2) nd2->yK H12 (.agg l2) nd2:=fun l2 nd2 hg=>hg.stp s12 (fun B hB e=>by
   subst e;have: ∃x r,l=x::r/\ ∀a b,x≠ .str a b:=by
    obtain⟨ks,vs',ps,ee,_⟩:=hG;simp only[AV.agg.injEq]at ee;exact⟨_,_,ee,fun _ _ e=>by cases e⟩
   obtain⟨x,r,rfl,hx⟩:=this;exact hg.nblk gA11 (.inl ⟨x,r,_,_,rfl,hx⟩) hB)
  have Pn:Prs H H12:=by
   have a1:Prs H H9:=(P3.trans q38).fresh s9 bP;have a2:Prs H H11:=(a1.trans p10).fresh s11 bS;exact a2.fresh s12 (fun B hB=>by omega)
  have hdec:=Nd.cut_size hsh' hck;have hsc:=Nd.cut_shaped hsh' hck;have N9:=s9.next;have N10:=p10.next;have N11:=s11.next
  have PN:=P.next
  refine⟨.norm [.ptr A1 0, .slice H8.next 0 (nds.length+1) 1, .slice H10.next 0 (ss.length+1) 1],H12, ?_,Nd.size (cB nd' k),hdec.2,lb,cB nd' k,vs++[la],nds++[cutA nd' k],ss++[nd'.keys.getD k []], .slice H8.next 0 (nds.length+1) 1, .slice H10.next 0 (ss.length+1) 1,rfl,Pn,g12,lbl,lbc,fin _ _ gb11,hsc.2,fun ps' ss' hcc=> ?_, ?_, ?_, ?_,fun B hB=> ?_,fun B hB=> ?_,fun B hB=> ?_,fun l2 hl2 B hB=> ?_,fun B hB hs=> ?_,fun l2 hl2 B hB hs=> ?_,by simp[hlen], ?_,rfl⟩
  .simp(maxSteps:=999999)(disch:=omega) only[QH,eZ,v7 gA ll,e2,hbI,v7 g2 ll,e3,qX,nth,b4,b5,e6',e7',ne_eq,not_true_eq_false,v7 g77 lal,zOn 119 la lal [.bool false, .nilSlice, .nilSlice, .nilSlice] rfl,zP,qI,b8,e9,zK4 9 (.str 0 0) (QT (nd'.keys.getD k [])),b10,e11,r9,e12']
  .rw[List.append_assoc,List.append_assoc];exact hcut _ _ (.more hbig hck hb hcc)
  .have o9':=((o9.mono p10 (fun _ _ x=>x)).mono s11 (fun B hB hs=>by rw[Blk.slice.1 hB]at hs;have:=svlt _ hs;omega)).mono s12 (fun B hB e=>by rw[Blk.slice.1 hB]at e;omega);simpa using o9'
  .refine Par.snoc ⟨lal,lac,fin _ _ ga11⟩ (hPar.frame fun l2 hl2 nd2 hg=>fin _ _ (fr l2 nd2 (hg.prs q18) (avs l2 hl2)))
  .have o11':=o11.mono s12 (fun B hB e=>by rw[Blk.slice.1 hB]at e;omega);simpa using o11'
  .rw[Blk.slice.1 hB];omega
  .rw[Blk.slice.1 hB];omega
  .exact .inr (by have:=gb.2 B hB;have:=p2.next;omega)
  .rcases List.mem_append.1 hl2 with hl2 | hl2
   .exact bvs l2 hl2 B hB
   .simp only[List.mem_singleton]at hl2;subst hl2;exact .inr (by have:=ga.2 B hB;have:=p2.next;omega)
  .rw[Blk.slice.1 hs]at hB;have:=lt8 _ _ gb8 _ hB;omega
  .rw[Blk.slice.1 hs]at hB;rcases List.mem_append.1 hl2 with hl2 | hl2
   .obtain⟨nd2,hg2⟩:=hPar.mem hl2;have:=lt8 _ _ (hg2.prs q18) _ hB;omega
   .simp only[List.mem_singleton]at hl2;subst hl2;have:=lt8 _ _ ga8 _ hB;omega
  .simp only[zM,zP,qI];omega
 obtain⟨x,H2,e2,l,nd',vs,nds,ss,pv,sv,rfl,P,gA,ll,lc,hG,hsz,hcut,oP,hPar,oS,bP,bS,bl,bvs,hcount⟩:=lp;obtain⟨H3,A3,b3,p3,g3,m3,n3⟩:=box P.ok (.cells l 119 4 false);obtain⟨H4,e4,o4,s4,n4⟩:=xA (bytes:=80) p3.ok (by decide) (oP.mono p3 (fun _ _ x=>x)) (src4 g3 ll 2) (by omega) lc (by omega) (by omega) (by decide);have nP: ∀(l:List AV) (nd:Nd.Node),yK H3 (.agg l) nd-> ∀B,wN (.agg l) B-> ¬Blk pv B:=fun l nd hg B hB hp=>by
  obtain⟨_,⟨rfl,_⟩ | ⟨C,rfl,_,hgC⟩⟩:=oP.mono p3 (fun _ _ x=>x)
  .exact Blk.nil.1 hp
  .rw[Blk.slice.1 hp]at hB;exact hg.nblk hgC (.inr (.inr ⟨_,_,_,_,rfl,by decide,by decide⟩)) hB
 have nSP: ∀B,Blk sv B-> ¬Blk pv B:=fun B hB hp=>by
  obtain⟨_,⟨rfl,_⟩ | ⟨C,rfl,_,hgC⟩⟩:=oP
  .exact Blk.nil.1 hp
  .obtain⟨_,⟨rfl,_⟩ | ⟨E,rfl,_,hgE⟩⟩:=oS
   .exact Blk.nil.1 hB
   .rw[<-Blk.slice.1 hp,Blk.slice.1 hB,hgE]at hgC;simp at hgC
 have fin: ∀(l2:List AV) (nd2:Nd.Node),yK H2 (.agg l2) nd2->yK H4 (.agg l2) nd2:=fun l2 nd2 hg=>(hg.prs p3).stp s4 (nP l2 nd2 (hg.prs p3))
 have N3:=p3.next;have PN:=P.next
 refine⟨.slice H3.next 0 (nds.length+1) 1,sv,H4,vs++[l],nds++[nd'],ss, ?_,(P.trans p3).fresh s4 bP, ?_, ?_,Par.snoc ⟨ll,lc,fin _ _ hG⟩ (hPar.frame fun l2 hl2 nd2 hg=>fin _ _ hg),(oS.mono p3 (fun _ _ x=>x)).mono s4 nSP,fun B hB=> ?_,bS,fun l2 hl2 B hB=> ?_⟩
 .simp(maxSteps:=999999)(disch:=omega) only[f177,eZ,b1,e2,zAx,v7 gA ll,zOn 119 l ll [.bool false, .nilSlice, .nilSlice, .nilSlice] rfl,zP,qI,b3,e4]
 .have:=hcut [nd'] [] (.one hsz);rwa[List.append_nil]at this
 .simpa using o4
 .rw[Blk.slice.1 hB];omega
 .rcases List.mem_append.1 hl2 with hl2 | hl2
  .exact bvs l2 hl2 B hB
  .simp only[List.mem_singleton]at hl2;subst hl2;exact bl B hB
end Go.Eng.Sh
end
section
set_option maxRecDepth 20000
namespace Go.Eng
theorem Own.ne {k e n:Nat}{H:AH}{v:AV}{l:List AV}(h:Own k e H v n l){A:Nat}{o:AObj}(hA:H.h.get A=some o)(ho: ∀l e g,o≠ .cells l e k g): ¬Blk v A:=fun hB=>by
 obtain⟨_,⟨rfl,_⟩ | ⟨B,rfl,_,hg⟩⟩:=h
 .exact Blk.nil.1 hB
 .rw[Blk.slice.1 hB]at hA;rw[hg]at hA;exact ho _ _ _ (Option.some.inj hA).symm
theorem Own.get {k e n:Nat}{H:AH}{v:AV}{l:List AV}(h:Own k e H v n l){B:Nat}(hB:Blk v B):H.h.get B=some (.cells l e k true):=by
 obtain⟨_,⟨rfl,_⟩ | ⟨C,rfl,_,hg⟩⟩:=h
 .exact(Blk.nil.1 hB).elim
 .rw[Blk.slice.1 hB];exact hg
end Go.Eng
namespace Go.Eng.Sh
open Go.Nd (Ptr sumL)
variable {X:Nat->Prop}
def kR (last:Nat):List Nd.Node->PN
 | []=>[]
 | nd::nds=>(last+1,nd)::kR (last+1) nds
def KJ (last:Nat):List (List AV)->List (AV×AV)
 | []=>[]
 | l::vs=>(.int .u64 ((last+1:Nat):Int), .agg l)::KJ (last+1) vs
def pps (last:Nat):Nat->List Ptr
 | 0=>[]
 | n+1=>pp (last+1)::pps (last+1) n
theorem XQ (x:Nd.Node): ∀(l:List Nd.Node) (last:Nat),kR last (l++[x])=kR last l++[(last+l.length+1,x)]
 | [],last=>rfl
 | a::l,last=>by
  simp only[List.cons_append,kR,XQ x l,zP];rw[show last+1+l.length+1=last+(l.length+1)+1 from by omega]
theorem XR (x:List AV): ∀(l:List (List AV)) (last:Nat),KJ last (l++[x])=KJ last l++[(.int .u64 ((last+l.length+1:Nat):Int), .agg x)]
 | [],last=>rfl
 | a::l,last=>by
  simp only[List.cons_append,KJ,XR x l,zP];rw[show last+1+l.length+1=last+(l.length+1)+1 from by omega]
theorem zCx: ∀(n last:Nat),pps last (n+1)=pps last n++[pp (last+n+1)]
 | 0,last=>rfl
 | n+1,last=>by
  rw[pps,zCx n (last+1),pps,List.cons_append,show last+1+n+1=last+(n+1)+1 from by omega]
theorem ZH: ∀(n last:Nat),(pps last n).length=n
 | 0,_=>rfl
 | n+1,last=>by simp[pps,ZH n (last+1)]
theorem zA3: ∀ {vs:List (List AV)} {last:Nat} {kv:AV×AV},kv∈KJ last vs-> ∃l∈vs,kv.2= .agg l
 | [],_,_,h=>by simp[KJ]at h
 | l::vs,last,kv,h=>by
  rcases List.mem_cons.1 h with rfl | h
  .exact⟨l,zH ..,rfl⟩
  .obtain⟨l',h1,h2⟩:=zA3 h;exact⟨l',zF _ h1,h2⟩
theorem Ch.other {H0 H H':AH}{At Ac F:Nat}{fes:List (AV×AV)}{f:PN}{g:AV}{gl:List Ptr}{last0 last:Nat}{S:Nat->Prop}(h:Ch X H0 H At Ac F fes f g gl last0 last)(s:Stp S H H')(hA: ¬S Ac)(hF: ¬S F)(hg: ∀B,Blk g B-> ¬S B)(hn: ∀kv∈fes,∀B,wN kv.2 B-> ¬S B)(h0: ∀B,S B->H0.next<=B):Ch X H0 H' At Ac F fes f g gl last0 last:=
 ⟨h.prs.fresh s h0,by rw[s.keep _ h.ltC hA];exact h.gC,by rw[s.keep _ h.ltF hF];exact h.gF,h.pf.frame fun kv hkv nd hn'=>hn'.stp s (hn kv hkv),h.gg.mono s hg,h.gN,h.gf,h.dC,h.dF,h.ne,h.fs,h.le,h.few,h.fd,h.fl,h.gx,h.xo⟩
theorem xG.mem {H:AH} : ∀ {es:List (AV×AV)} {q:PN},xG H es q-> ∀kv∈es,∃nd,yK H kv.2 nd
 | [],[],_,_,hk=>by simp at hk
 | e::es,(t,nd)::q,hq,kv,hk=>by
  rcases List.mem_cons.1 hk with rfl | hk
  .exact⟨nd,hq.1.2⟩
  .exact xG.mem hq.2 kv hk
 | [],_::_,h,_,_=>h.elim
 | _::_,[],h,_,_=>h.elim
theorem zKa {H:AH} : ∀ {vs:List (List AV)} {nds:List Nd.Node} {i:Nat} (_:Par H vs nds) (hi:i<nds.length),∃l nd,vs[i]? =some l/\nds[i]? =some nd/\l.length=4/\qY l=true/\yK H (.agg l) nd/\(vs.flatten.drop (i*4)).take 4=l/\vs.take (i+1)=vs.take i++[l]/\nds.take (i+1)=nds.take i++[nd]
 | [],[],_,_,hi=>by simp at hi
 | l::vs,nd::nds,0,h,_=>⟨l,nd,rfl,rfl,h.1.1,h.1.2.1,h.1.2.2,by simp[List.take_append_of_le_length,h.1.1,zO],rfl,rfl⟩
 | k::vs,m::nds,i+1,h,hi=>by
  obtain⟨l,nd,h1,h2,h3,h4,h5,h6,h7,h8⟩:=zKa h.2 (by simpa using hi);refine⟨l,nd,h1,h2,h3,h4,h5, ?_,by simp[h7],by simp[h8]⟩;rw[List.flatten_cons,List.drop_append,show(i+1)*4 - k.length=i*4 from by rw[h.1.1];omega,qB (by rw[h.1.1];omega),List.nil_append];exact h6
 | [],_::_,_,h,_=>h.elim
 | _::_,[],_,h,_=>h.elim
theorem zBa (D:Dyn)(n:Nat)(hn:200000000<=n){H0 H:AH}{At Ac F:Nat}{fes:List (AV×AV)}{f:PN}{g pv:AV}{gl:List Ptr}{last0 last:Nat}{vs:List (List AV)}{nds:List Nd.Node}(h:Ch X H0 H At Ac F fes f g gl last0 last)
  (hp:Own 4 119 H pv nds.length vs.flatten) (hv:Par H vs nds) (hg: ∀l∈vs,∀B,wN (.agg l) B-> ¬Blk g B/\ ¬X B) (hb:last+nds.length<=900000000) (hm:nds.length<=10000):
  ∃kv H',f179 D n [.ptr Ac 0,pv] H=some (kv,H')/\Ch X H0 H' At Ac F (fes++KJ last vs) (f++kR last nds) g gl last0 (last+nds.length)/\Adv Ac F H g H' g/\Own 3 42 H' kv nds.length ((pps last nds.length).flatMap y7)/\ ∀B,Blk kv B->H.next<=B:=by
 have hlen:=hv.len.1;have lp:=xR (b:=aC D n) nds.length (fun i us H'=> ∃kv,us=[.ptr Ac 0,kv,pv, .int .i64 (nds.length:Nat), .int .i64 (i:Nat)]/\Ch X H0 H' At Ac F (fes++KJ last (vs.take i)) (f++kR last (nds.take i)) g gl last0 (last+i)/\Adv Ac F H g H' g/\
   Own 3 42 H' kv i ((pps last i).flatMap y7)/\ ∀B,Blk kv B->H.next<=B) (fun i us H' hi ⟨kv,hus,hc,ha,ho,hB⟩=>by
  subst hus;obtain⟨l,nd,v1,v2,ll,lc,hG,hfl,ht1,ht2⟩:=zKa hv hi;have hvl:i<vs.length:=by omega
  have hlm:l∈vs:=List.mem_of_getElem? v1;have hA:=h.next ⟨hG,hg l hlm⟩ ha
  have hp':Own 4 119 H' pv nds.length vs.flatten:=hp.mono ha.1 (fun B hB hx=>by
   have hgB:=hp.get hB;rcases hx with rfl | rfl | e
   .rw[h.gC]at hgB;simp at hgB
   .rw[h.gF]at hgB;simp at hgB
   .rw[h.gg.get e]at hgB;simp at hgB)
  obtain⟨q,i1,i2⟩:=Rw.ldN hp'.row hi;rw[hfl]at i2;obtain⟨H1,A7,b1,p1,g1,m1,n1⟩:=box hc.prs.ok (.cells [.bool false, .nilSlice, .nilSlice, .nilSlice] 119 1 false);obtain⟨H2,e2,g2,s2,n2⟩:=yD p1.ok g1 (l':=l) ll lc;have e2':stN 4 (.ptr A7 0) (.agg l) H1=some (qZ,H2):=e2;have p2:Prs H' H2:=p1.fresh s2 (fun B hB=>by omega);have hc2:=hc.step p2;obtain⟨H3,e3,hc3,ha3⟩:=zHG D n hc2 (hA.prs p2) (by omega);obtain⟨H4,A8,b4,p4,g4,m4,n4⟩:=box hc3.prs.ok (.cells (y7 (pp (last+i+1))) 42 3 false);have hc4:=hc3.step p4;have hsrc:srcOf 3 (.slice A8 0 1 2) H4=some (1,y7 (pp (last+i+1))):=by
   simp only[srcOf,g4];rfl
  have NH:=ha.1.next;have N2:=p2.next;have N3:=ha3.1.next;have N4:=p4.next
  have hkg: ∀B,Blk kv B-> ¬Blk g B:=fun B hB' hgB=>by have:=hB B hB';have:=Rw.blk h.gg.row hgB;omega
  have ho4:Own 3 42 H4 kv i ((pps last i).flatMap y7):=((ho.mono p2 (fun _ _ x=>x)).mono ha3.1 (fun B hB' hx=>by
   rcases hx with rfl | rfl | e
   .have:=hB _ hB';have:=h.ltC;omega
   .have:=hB _ hB';have:=h.ltF;omega
   .exact hkg B hB' e)).mono p4 (fun _ _ x=>x)
  obtain⟨H5,e5,o5,s5,n5⟩:=xA (bytes:=24) hc4.prs.ok (by decide) ho4 hsrc rfl rfl (by omega) (by omega) (by decide);have hc5:=hc4.other s5 (fun hx=>by have:=hB _ hx;have:=h.ltC;omega) (fun hx=>by have:=hB _ hx;have:=h.ltF;omega) (fun B hgB hx=>hkg B hx hgB) (fun e he B hBe hx=>by
   have hlt:B<H.next:=by
    rcases List.mem_append.1 he with he | he
    .rcases List.mem_append.1 he with he | he
     .obtain⟨nd2,hn2⟩:=h.pf.mem e he;exact hn2.lt hBe
     .obtain⟨l2,hl2,e2⟩:=zA3 he;obtain⟨nd2,hn2⟩:=hv.mem (List.mem_of_mem_take hl2);rw[e2]at hBe;exact hn2.lt hBe
    .simp only[List.mem_singleton]at he;subst he;exact hG.lt hBe
   have:=hB B hx;omega) (fun B hx=>by have:=hB B hx;have:=h.prs.next;omega)
  have a05:Adv Ac F H g H5 g:=by
   have a3:Adv Ac F H g H4 g:=((ha.trans h.ltC h.ltF (Adv.prs g p2)).trans h.ltC h.ltF ha3).trans h.ltC h.ltF (Adv.prs g p4);refine⟨⟨s5.ok,by have:=s5.next;omega,fun B hB' hS=> ?_⟩,fun B hB'=> .inl hB'⟩
   rw[s5.keep B (by omega) (fun hx=>by have:=hB B hx;omega)];exact a3.1.keep B hB' hS
  refine⟨_,H5, ?_, .slice H4.next 0 (i+1) 1,rfl, ?_,a05, ?_,fun B hB'=>by rw[Blk.slice.1 hB'];omega⟩
  .have hiI:((i:Nat):Int)< ((nds.length:Nat):Int):=by omega
   have e1:=zOm 42 (pp (last+i+1)) [.int .i64 ((0:Nat):Int), .int .i64 ((0:Nat):Int), .int .u64 ((0:Nat):Int)] rfl;simp(maxSteps:=999999)(disch:=omega) only[aC,eZ,hiI,i1,i2,b1,e2',v7 g2 ll,e3,e1,b4,e5,Int.natCast_add]
  .rw[ht1,ht2,XR,XQ,zQ,zQ,Nat.min_eq_left (by omega),Nat.min_eq_left (by omega),<-List.append_assoc,<-List.append_assoc];exact hc5
  .rw[zCx];simpa using o5) n [.ptr Ac 0, .nilSlice,pv, .int .i64 (nds.length:Nat), .int .i64 ((0:Nat):Int)] H ⟨.nilSlice,rfl,by simpa[KJ,kR]using h,Adv.prs g (Prs.refl h.prs.ok),Own.nil ..,fun B hB=>(Blk.nil.1 hB).elim⟩ (by omega)
 obtain⟨m,us,H',e,kv,rfl,hc,ha,ho,hB⟩:=lp;rw[qN]at hc;rw[<-hlen,qN,hlen]at hc;refine⟨kv,H', ?_,hc,ha,ho,hB⟩;have last:yJ (m+1) (aC D n) [.ptr Ac 0,kv,pv, .int .i64 (nds.length:Nat), .int .i64 (nds.length:Nat)] H'=some (.exit 0 [kv],H'):=y9 (by simp only[aC,eZ,qJ]);simp only[f179,eZ,hp.row.lnSl,e,last,zAv]
end Go.Eng.Sh
end
section
namespace Go.Bt
open Go.Nd (Str Kvs Ptr lookP putP delP Srt leafOf mayK rising sumL cutA cB bQ shaped)
open Go.Eng (ltS)
def kU {α:Type}(Q:Ptr->Option Nd.Node)(R:Nd.Node->α->List Ptr->Prop):List Ptr->List α->List Ptr->Prop
 | [],[],S=>S=[]
 | p::ps,t::ts,S=> ∃nd S1 S2,Q p=some nd/\R nd t S1/\kU Q R ps ts S2/\S=p::(S1++S2)
 | _,_,_=>False
def jB (Q:Ptr->Option Nd.Node):(h:Nat)->Nd.Node->Tr h->List Ptr->Prop
 | 0,nd,l,S=>nd=leafOf l/\S=[]
 | h+1,nd,t,S=>nd.leaf=false/\nd.keys=t.1/\nd.vals=[]/\kU Q (jB Q h) nd.kids t.2 S
theorem kU.len {α:Type}{Q:Ptr->Option Nd.Node}{R:Nd.Node->α->List Ptr->Prop} : ∀ {ps:List Ptr} {ts:List α} {S:List Ptr},kU Q R ps ts S->ps.length=ts.length
 | [],[],_,_=>rfl
 | _::ps,_::ts,_,⟨_,_,_,_,_,h,_⟩=>by simp[kU.len h]
 | [],_::_,_,h=>h.elim
 | _::_,[],_,h=>h.elim
theorem kU.app {α:Type}{Q:Ptr->Option Nd.Node}{R:Nd.Node->α->List Ptr->Prop}{ps':List Ptr}{ts':List α}{S':List Ptr}(h':kU Q R ps' ts' S'): ∀ {ps:List Ptr} {ts:List α} {S:List Ptr},kU Q R ps ts S->kU Q R (ps++ps') (ts++ts') (S++S')
 | [],[],_,h=>by subst h;exact h'
 | p::ps,t::ts,_,⟨nd,S1,S2,a,b,c,e⟩=>⟨nd,S1,S2++S',a,b,kU.app h' c,by rw[e];simp⟩
 | [],_::_,_,h=>h.elim
 | _::_,[],_,h=>h.elim
theorem kU.split {α:Type}{Q:Ptr->Option Nd.Node}{R:Nd.Node->α->List Ptr->Prop} : ∀(k:Nat) {ps:List Ptr} {ts:List α} {S:List Ptr},kU Q R ps ts S-> ∃S1 S2,kU Q R (ps.take k) (ts.take k) S1/\kU Q R (ps.drop k) (ts.drop k) S2/\S=S1++S2
 | 0,ps,ts,S,h=>⟨[],S,by simp[kU],h,rfl⟩
 | k+1,[],[],_,h=>⟨[],[],by simp[kU],by simp[kU],by subst h;rfl⟩
 | k+1,p::ps,t::ts,_,⟨nd,S1,S2,a,b,c,e⟩=>by
  obtain⟨T1,T2,d1,d2,rfl⟩:=kU.split k c;exact⟨p::(S1++T1),T2,⟨nd,S1,T1,a,b,d1,rfl⟩,d2,by rw[e];simp⟩
 | _+1,[],_::_,_,h=>h.elim
 | _+1,_::_,[],_,h=>h.elim
theorem kU.at {α:Type}{Q:Ptr->Option Nd.Node}{R:Nd.Node->α->List Ptr->Prop}{i:Nat}{ps:List Ptr}{ts:List α}{S:List Ptr}(h:kU Q R ps ts S){t:α}(ht:ts[i]? =some t):
  ∃p nd Sa Si Sb,ps[i]? =some p/\Q p=some nd/\R nd t Si/\kU Q R (ps.take i) (ts.take i) Sa/\kU Q R (ps.drop (i+1)) (ts.drop (i+1)) Sb/\S=Sa++(p::Si++Sb):=by
 obtain⟨Sa,S2,h1,h2,rfl⟩:=h.split i;obtain⟨hi,rfl⟩:=List.getElem?_eq_some_iff.1 ht;have hl:=h.len;rw[zX hi,zX (show i<ps.length by omega)]at h2;obtain⟨nd,Si,Sb,a,b,c,rfl⟩:=h2;exact⟨_,nd,Sa,Si,Sb,zG (by omega),a,b,h1,c,by simp⟩
theorem kU.mono {α:Type}{Q Q':Ptr->Option Nd.Node}{R R':Nd.Node->α->List Ptr->Prop} : ∀ {ps:List Ptr} {ts:List α} {S:List Ptr},kU Q R ps ts S->(∀p∈S,∀nd,Q p=some nd->Q' p=some nd)->(∀nd t S1,(∀p∈S1,p∈S)->R nd t S1->R' nd t S1)->kU Q' R' ps ts S
 | [],[],_,h,_,_=>h
 | p::ps,t::ts,_,⟨nd,S1,S2,a,b,c,e⟩,hq,hr=>by
  subst e;refine⟨nd,S1,S2,hq p (zH ..) nd a,hr nd t S1 (fun p hp=>zF _ (qE _ hp)) b,kU.mono c (fun p hp=>hq p (zF _ (qK _ hp))) (fun nd t S1 hs=>hr nd t S1 fun p hp=>zF _ (qK _ (hs p hp))),rfl⟩
 | [],_::_,_,h,_,_=>h.elim
 | _::_,[],_,h,_,_=>h.elim
theorem jB.mono {Q Q':Ptr->Option Nd.Node} : ∀ {h:Nat} {nd:Nd.Node} {t:Tr h} {S:List Ptr},jB Q h nd t S->(∀p∈S,∀nd,Q p=some nd->Q' p=some nd)->jB Q' h nd t S
 | 0,_,_,_,w,_=>w
 | h+1,_,_,_,w,hq=>⟨w.1,w.2.1,w.2.2.1,w.2.2.2.mono hq fun nd t S1 hs hr=>jB.mono hr fun p hp=>hq p (hs p hp)⟩
theorem kU.kids {α:Type}{Q:Ptr->Option Nd.Node}{R:Nd.Node->α->List Ptr->Prop} : ∀ {ps:List Ptr} {ts:List α} {S:List Ptr},kU Q R ps ts S-> ∀p∈ps,p∈S
 | [],[],_,_=>by simp
 | q::ps,_::ts,_,⟨nd,S1,S2,_,_,c,e⟩=>fun p hp=>by
  subst e;rcases List.mem_cons.1 hp with rfl | hp
  .exact zH ..
  .exact zF _ (qK _ (kU.kids c p hp))
 | [],_::_,_,h=>h.elim
 | _::_,[],_,h=>h.elim
theorem jB.size {Q:Ptr->Option Nd.Node}{h:Nat}{nd:Nd.Node}{t:Tr h}{S:List Ptr}(w:jB Q h nd t S):Nd.size nd=jD h t:=by
 cases h with
 | zero=>obtain⟨rfl,_⟩:=w;rfl
 | succ h=>
  obtain⟨_,w2,w3,w4⟩:=w;simp only[Nd.size,jD,jL,w2,w3,w4.len,sumL_nil];omega
theorem jB.leaf {Q:Ptr->Option Nd.Node}{h:Nat}{nd:Nd.Node}{t:Tr h}{S:List Ptr}(w:jB Q h nd t S):nd.leaf=decide (h=0):=by
 cases h with
 | zero=>obtain⟨rfl,_⟩:=w;rfl
 | succ h=>rw[w.1];simp
theorem jB.shaped {Q:Ptr->Option Nd.Node}{h:Nat}{nd:Nd.Node}{t:Tr h}{S:List Ptr}{lo hi:Bd}(w:jB Q h nd t S)(g:Gen h lo hi t)(hne:0<h->nd.keys≠[])(hk: ∀p∈S,Nd.kidOk p=true):shaped ltS nd=true:=by
 cases h with
 | zero=>
  obtain⟨rfl,_⟩:=w;exact Nd.leaf_shaped g.1 fun p hp=>(g.2 p hp).2.2
 | succ h=>
  obtain⟨w1,w2,w3,w4⟩:=w;obtain⟨g1,g2,g3⟩:=g;have hl:=g3.len;simp only[Nd.shaped,w1,Bool.false_eq_true,if_false,zE,zJ,List.all_eq_true];refine⟨⟨fun k hk=> ?_,by rw[w2];exact g2⟩,⟨⟨hne (by omega),w3⟩,by rw[w4.len,hl,w2]⟩,fun p hp=>hk p (w4.kids p hp)⟩;rw[w2]at hk;exact(g1 k hk).1
def zDy (Q:Ptr->Option Nd.Node)(h:Nat):List Nd.Node->List (Tr h)->List Ptr->Prop
 | [],[],S=>S=[]
 | nd::nds,t::ts,S=> ∃S1 S2,jB Q h nd t S1/\zDy Q h nds ts S2/\S=S1++S2
 | _,_,_=>False
theorem zDy.len {Q:Ptr->Option Nd.Node}{h:Nat} : ∀ {nds:List Nd.Node} {ts:List (Tr h)} {S:List Ptr},zDy Q h nds ts S->nds.length=ts.length
 | [],[],_,_=>rfl
 | _::nds,_::ts,_,⟨_,_,_,h,_⟩=>by simp[zDy.len h]
 | [],_::_,_,h=>h.elim
 | _::_,[],_,h=>h.elim
theorem zDU (l:Kvs)(k:Nat):Nd.size (cutA (leafOf l) k)=jH (l.take k):=by
 simp[cutA,leafOf,jH,Nd.size]
theorem zIJ {l:Kvs}{k:Nat}(hk:Nd.cutOk (leafOf l) k)(hb:Go.Eng.Sh.hbnd (leafOf l) k):zN6 0 l (l.take k) ((leafOf l).keys.getD k []) (l.drop k)/\cutA (leafOf l) k=leafOf (l.take k)/\cB (leafOf l) k=leafOf (l.drop k):=by
 obtain⟨k1,k2⟩:=hk;obtain⟨b1,b2⟩:=hb;have e0:(leafOf l).keys=l.map Prod.fst:=rfl;simp only[show(leafOf l).leaf=true from rfl,if_true,e0,qM]at k2 b2;rw[zDU]at b1 b2;refine⟨⟨k,⟨k1,k2,b1,b2⟩,rfl,rfl,rfl⟩, ?_, ?_⟩
 .simp[cutA,leafOf]
 .simp[cB,leafOf]
theorem jB.cut {Q:Ptr->Option Nd.Node}{h:Nat}{nd:Nd.Node}{t:Tr h}{S:List Ptr}{lo hi:Bd}{k:Nat}(w:jB Q h nd t S)(g:Gen h lo hi t)(hk:Nd.cutOk nd k)(hb:Go.Eng.Sh.hbnd nd k):
  ∃ta tb Sa Sb,zN6 h t ta (nd.keys.getD k []) tb/\jB Q h (cutA nd k) ta Sa/\jB Q h (cB nd k) tb Sb/\S=Sa++Sb:=by
 obtain⟨k1,k2⟩:=hk;obtain⟨b1,b2⟩:=hb;have hz:=w.size
 cases h with
 | zero=>
  obtain⟨rfl,rfl⟩:=w;obtain⟨c1,c2,c3⟩:=zIJ ⟨k1,k2⟩ ⟨b1,b2⟩;exact⟨_,_,[],[],c1,⟨c2,rfl⟩,⟨c3,rfl⟩,rfl⟩
 | succ h=>
  obtain⟨w1,w2,w3,w4⟩:=w;obtain⟨Sa,Sb,r1,r2,rfl⟩:=w4.split (k+1);have hl:=g.2.2.len;have hkl:=w4.len;simp only[w1,Bool.false_eq_true,if_false,w2]at k2 b2;have sz: ∀j,j<=t.1.length->Nd.size (cutA nd j)=jL (t.1.take j) (j+1):=fun j hj=>by
   simp only[cutA,w1,Bool.false_eq_true,if_false,Nd.size,jL,w2,zQ,sumL_nil];rw[hkl,hl,Nat.min_eq_left (by omega)];omega
  have hm2:min (h+1+1) 2=2:=by omega
  refine⟨(t.1.take k,t.2.take (k+1)),(t.1.drop (k+1),t.2.drop (k+1)),Sa,Sb,⟨k,⟨k1, ?_, ?_, ?_⟩,rfl,by rw[w2],rfl⟩, ?_, ?_,rfl⟩
  .simp only[KQ,hm2];exact k2
  .rcases b1 with b1 | b1
   .exact .inl b1
   .rw[sz k (by omega),hz]at b1;exact .inr b1
  .rcases b2 with b2 | b2
   .exact .inl (by simp only[KQ,hm2];exact b2)
   .rw[sz (k+1) (by omega),hz]at b2;exact .inr b2
  .simp only[jB,cutA,w1,Bool.false_eq_true,if_false,w2,true_and];exact r1
  .simp only[jB,cB,w1,Bool.false_eq_true,if_false,w2,true_and];exact r2
theorem U9 {Q:Ptr->Option Nd.Node}{h:Nat}{nd:Nd.Node}{nds:List Nd.Node}{ss:List Str}(hc:Go.Eng.Sh.CutsN nd nds ss): ∀ {t:Tr h} {S:List Ptr} {lo hi:Bd},jB Q h nd t S->WX h lo hi t-> ∃ts,Cuts h t ts ss/\zDy Q h nds ts S:=by
 induction hc with
 | one hz=>
  intro t S lo hi w _;exact⟨[t], .one (by rw[<-w.size];exact hz),S,[],w,rfl,by simp⟩
 | @more nd k ps ss hz hk hb _ ih=>
  intro t S lo hi w hx;have hz':500<jD h t:=by rw[<-w.size];exact hz
  obtain⟨ta,tb,Sa,Sb,c1,c2,c3,rfl⟩:=w.cut hx.gen hk hb;obtain⟨_,wb,_⟩:=zH9 hx hz' c1;obtain⟨ts,d1,d2⟩:=ih c3 wb;exact⟨ta::ts, .more hz' c1 d1,Sa,Sb,c2,d2,rfl⟩
theorem zDy.kids {Q:Ptr->Option Nd.Node}{h:Nat} : ∀ {nds:List Nd.Node} {ts:List (Tr h)} {S:List Ptr} (last:Nat),zDy Q h nds ts S->(∀i nd,nds[i]? =some nd->Q (Go.Eng.Sh.pp (last+1+i))=some nd)->
  ∃S',kU Q (jB Q h) (Go.Eng.Sh.pps last nds.length) ts S'/\S'.Perm (Go.Eng.Sh.pps last nds.length++S)
 | [],[],S,last,h,_=>⟨[],rfl,by subst h;exact List.Perm.refl _⟩
 | nd::nds,t::ts,_,last,⟨S1,S2,w,hp,e⟩,hq=>by
  subst e;obtain⟨S',r,pm⟩:=zDy.kids (last+1) hp fun i n hi=>by
   have:=hq (i+1) n (by simpa using hi);rwa[show last+1+(i+1)=last+1+1+i from by omega]at this
  refine⟨Go.Eng.Sh.pp (last+1)::(S1++S'),⟨nd,S1,S',hq 0 nd rfl,w,r,rfl⟩, ?_⟩;simp only[zP,Go.Eng.Sh.pps,List.cons_append];refine List.Perm.cons _ ?_;have:(S1++S').Perm (S1++(Go.Eng.Sh.pps (last+1) nds.length++S2)):=List.Perm.append_left _ pm;refine this.trans ?_;rw[<-List.append_assoc,<-List.append_assoc];exact List.Perm.append_right _ List.perm_append_comm
 | [],_::_,_,_,h,_=>h.elim
 | _::_,[],_,_,h,_=>h.elim
theorem jB.join {Q:Ptr->Option Nd.Node}{h:Nat}{a b:Nd.Node}{ta tb:Tr h}{Sa Sb:List Ptr}(wa:jB Q h a ta Sa)(wb:jB Q h b tb Sb)(s:Str):jB Q h (bQ a s b) (cY h ta s tb) (Sa++Sb):=by
 cases h with
 | zero=>
  obtain⟨rfl,rfl⟩:=wa;obtain⟨rfl,rfl⟩:=wb;have key: ∀a b:Kvs,bQ (leafOf a) s (leafOf b)=leafOf (a++b):=fun a b=>by simp[bQ,leafOf]
  exact⟨key ta tb,rfl⟩
 | succ h=>
  obtain⟨a1,a2,a3,a4⟩:=wa;obtain⟨b1,b2,b3,b4⟩:=wb;simp only[jB,bQ,a1,Bool.false_eq_true,if_false,cY,a2,b2,true_and];exact kU.app b4 a4
theorem zCO {Q:Ptr->Option Nd.Node}{h:Nat}{a b:Nd.Node}{ta tb:Tr h}{Sa Sb:List Ptr}{lo hi:Bd}{s:Str}(wa:jB Q h a ta Sa)(wb:jB Q h b tb Sb)(ga:Gen h lo (some s) ta)(gb:Gen h (some s) hi tb)(hs:mayK s=true)(na:0<h->a.keys≠[])(nb:0<h->b.keys≠[])
  (ka: ∀p∈Sa,Nd.kidOk p=true) (kb: ∀p∈Sb,Nd.kidOk p=true):Go.Eng.Sh.joinOk a s b=true:=by
 have h1:=wa.shaped ga na ka;have h2:=wb.shaped gb nb kb;simp only[Go.Eng.Sh.joinOk,h1,h2,Bool.true_and,Nd.partedN,hs,wa.leaf,wb.leaf,beq_self_eq_true];have gl: ∀(l:List Str),l.length≠0->l.getD (l.length - 1) []∈l:=fun l hl=>by
  rw[zT,zG (by omega)];exact qC _
 have g0: ∀(l:List Str),l.length≠0->l.getD 0 []∈l:=fun l hl=>by
  rw[zT,zG (by omega)];exact qC _
 cases h with
 | zero=>
  obtain⟨rfl,_⟩:=wa;obtain⟨rfl,_⟩:=wb;simp only[zE,Bool.or_eq_true,zJ];refine⟨?_, ?_⟩
  .by_cases e:(leafOf (ta:Kvs)).keys.length=0
   .exact .inl e
   .refine .inr ?_;have:=gl _ e;obtain⟨p,hp,he⟩:=List.mem_map.1 this;rw[<-he];exact(ga.2 p hp).2.1
  .by_cases e:(leafOf (tb:Kvs)).keys.length=0
   .exact .inl (.inl e)
   .have:=g0 _ e;obtain⟨p,hp,he⟩:=List.mem_map.1 this;rw[<-he];rcases(gb.2 p hp).1 with e | e
    .exact .inr ⟨trivial,e⟩
    .exact .inl (.inr e)
 | succ h=>
  simp only[zE,Bool.or_eq_true,zJ];refine⟨.inr ?_, .inl (.inr ?_)⟩
  .have hm:=gl a.keys (fun e=>na (by omega) (zL e));rw[wa.2.1]at hm⊢;exact(ga.1 _ hm).2.2
  .have hm:=g0 b.keys (fun e=>nb (by omega) (zL e));rw[wb.2.1]at hm⊢;exact(gb.1 _ hm).2.1
end Go.Bt
end
section
set_option maxRecDepth 20000
namespace Go.Eng
theorem zJL {A off len cc sz room:Nat}{lo hi mx:Option Nat}{r:AV}(h:QY A off len cc sz room lo hi mx=some r): ∀B,Blk r B->B=A:=by
 intro B hB;unfold QY at h;simp only[yG]at h;split at h
 .split at h
  .rw[cond_eq_ite]at h;split at h
   .simp only[zC]at h;subst h;exact Blk.slice.1 hB
   .cases h
  .cases h
 .rw[cond_eq_ite]at h;split at h
  .rw[cond_eq_ite]at h;split at h
   .simp only[zC]at h;subst h;exact Blk.slice.1 hB
   .rw[cond_eq_ite]at h;split at h
    .simp only[zC]at h;subst h;exact Blk.slice.1 hB
    .rw[cond_eq_ite]at h;split at h
     .simp only[zC]at h;subst h;exact Blk.slice.1 hB
     .simp only[zC]at h;subst h;obtain⟨_,_,_,hB⟩:=hB;cases hB
  .cases h
theorem cN {sz:Nat}{v:AV}{lo hi mx:Option AV}{H:AH}{r:AV}(h:kX sz v lo hi mx H=some r): ∀B,Blk r B->Blk v B:=by
 intro B hB;unfold kX at h;split at h
 .split at h
  .rw[cond_eq_ite]at h;split at h
   .simp only[zC]at h;subst h;exact hB
   .cases h
  .split at h
   .rw[cond_eq_ite]at h;split at h
    .rw[zJL h B hB];exact⟨_,_,_,rfl⟩
    .cases h
   .cases h
  .split at h
   .rw[cond_eq_ite]at h;split at h
    .simp only[zC]at h;subst h;obtain⟨_,_,_,hB⟩:=hB;cases hB
    .cases h
   .cases h
  .cases h
 .cases h
end Go.Eng
namespace Go.Eng.Sh
open Go.Nd (Ptr sumL)
variable {X:Nat->Prop}
theorem hi3 {H:AH}{v:AV}{l:List Ptr}(h:j9 3 42 H v l.length (l.flatMap y7)){i:Nat}(hi:i<=l.length):
  ∃r,kX 3 v none (some (.int .i64 (i:Nat))) (some (.int .i64 (i:Nat))) H=some r/\xV H r (l.take i):=by
 obtain⟨r,e1,w,_⟩:=V8 h (by decide) hi .i64 .i64;rw[JK]at w;have hlen:(l.take i).length=i:=by rw[zQ];omega
 exact⟨r,e1,by rw[xV,hlen];exact w⟩
theorem lo3 {H:AH}{v:AV}{l:List Ptr}(h:j9 3 42 H v l.length (l.flatMap y7)){i:Nat}(hi:i<=l.length)(h0:0<l.length):
  ∃r,kX 3 v (some (.int .i64 (i:Nat))) none none H=some r/\xV H r (l.drop i):=by
 by_cases hlt:i<l.length
 .obtain⟨r,e1,w,_⟩:=ZF h (by decide) hlt .i64;rw[JL]at w;have hlen:(l.drop i).length=l.length - i:=by rw[zU]
  exact⟨r,e1,by rw[xV,hlen];exact w⟩
 .obtain rfl:i=l.length:=by omega
  obtain⟨r,e1,w⟩:=Y1 h (by decide) h0 .i64;exact⟨r,e1,by rw[List.drop_length];exact w⟩
theorem conP3 (D:Dyn)(n:Nat){H:AH}{A cc:Nat}{x y z:AV}{l m k:List Ptr}(hk:H.ok)(hg:H.h.get A=some (.cells [x,y,z] 50 1 false))(h1:xV H x l)(h2:xV H y m)(h3:xV H z k)(hb:l.length+m.length+k.length<=1000000000)(hn:100<=n):
  ∃w H',f178 D n [.slice A 0 3 cc] H=some (w,H')/\Prs H H'/\Own 3 42 H' w (l++(m++k)).length ((l++(m++k)).flatMap y7)/\ ∀B,Blk w B->H.next<=B:=by
 obtain⟨w,H',e,p,o,f⟩:=zHk D n hk (v:= .slice A 0 3 cc) (vs:=[x,y,z]) (rs:=[(l.length,l.flatMap y7),(m.length,m.flatMap y7),(k.length,k.flatMap y7)]) (Rw.lit hk hg) ⟨⟨h1,v5 _⟩,⟨h2,v5 _⟩,⟨h3,v5 _⟩,trivial⟩ (by simp[u0];omega) (by simp) (by simp;omega)
  (fun B hB=>by rw[Blk.slice.1 hB];exact hk.lt hg) (fun z hz B hB=>by
   simp only[List.mem_cons,List.not_mem_nil,or_false]at hz;rcases hz with rfl | rfl | rfl
   .exact Rw.blk h1 hB
   .exact Rw.blk h2 hB
   .exact Rw.blk h3 hB)
 exact⟨w,H',e,p,by simpa[u0,zE8]using o,f⟩
theorem zLp (D:Dyn)(n:Nat)(hn:200000000<=n){H0 H:AH}{At Ac F A5 A7 A8 i m:Nat}{fes:List (AV×AV)}{f:PN}{g:AV}{gl:List Ptr}{last0 last:Nat}{ln lk:List AV}{nd kd:Nd.Node}
  (h:Ch X H0 H At Ac F fes f g gl last0 last) (g5:H.h.get A5=some (.cells ln 119 1 false)) (g7:H.h.get A7=some (.cells lk 119 1 false)) (g8:H.h.get A8=some (.cells [.bool false, .nilSlice, .nilSlice, .nilSlice] 119 1 false))
  (hA5:H0.next<=A5) (hA7:H0.next<=A7) (hA8:H0.next<=A8) (h58:A5≠A8) (h5c:A5≠Ac) (h8c:A8≠Ac)
  (hv:kF X H g (.agg ln) nd) (hkd:kF X H g (.agg lk) kd) (hsk:Nd.shaped ltS kd=true) (hz:Nd.size kd<=10000) (hs:small nd) (hkl:nd.kids.length=nd.keys.length+1) (hne:nd.keys≠[]) (him:i+m<nd.kids.length)
  (hlim: ∀nds ss,CutsN kd nds ss->nds.length<=1000/\ss.length<=1000) (hb:last<=800000000):
  ∃u H' nds ss vs,QK D n [.ptr Ac 0, .ptr A5 0, .ptr A7 0, .ptr A8 0, .int .i64 (i:Nat), .int .i64 ((i+m+1:Nat):Int)] H=some (.ret (.tuple [u, .int .i64 ((0:Nat):Int)]),H')/\CutsN kd nds ss/\
   Ch X H0 H' At Ac F (fes++KJ last vs) (f++kR last nds) g gl last0 (last+nds.length)/\Stp (fun B=>chg Ac F g B\/B=A8) H H'/\
   kF X H' g u ⟨false,nd.keys.take i++(ss++nd.keys.drop (i+m)),[],nd.kids.take i++(pps last nds.length++nd.kids.drop (i+m+1))⟩/\ ∀B,wN u B->H.next<=B:=by
 obtain⟨ks,vs0,ps,hln,k1,k2,k3⟩:=id hv.1;simp only[AV.agg.injEq]at hln;subst hln;have hll:lk.length=4:=by obtain⟨_,_,_,e,_⟩:=hkd.1;simp only[AV.agg.injEq]at e;rw[e];rfl
 have hkeys:0<nd.keys.length:=by
  rcases Nat.eq_zero_or_pos nd.keys.length with e | e
  .exact absurd (zL e) hne
  .exact e
 obtain⟨s1,s2,s3⟩:=hs;have hkl1:=Nd.sumL_ge nd.keys;obtain⟨pv,sv,H1,vs,nds,ss,e1,p1,hcut,oP,hpar,oS,bP,bS,bvs⟩:=zAL D n hn h.prs.ok hkd.1 hsk hz;obtain⟨c1,c2⟩:=hlim nds ss hcut;have h1:=h.step p1;have G5 {Hx:AH} (p:Prs H Hx):=Prs.get p h.prs.ok g5;have q1 {Hx:AH} (p:Prs H Hx):j9 1 9 Hx ks nd.keys.length (nd.keys.map S):=k1.mono p (fun _ _ x=>x);have q3 {Hx:AH} (p:Prs H Hx):j9 3 42 Hx ps nd.kids.length (nd.kids.flatMap y7):=k3.mono p (fun _ _ x=>x);obtain⟨r1,c1',x1⟩:=hi1 (q1 p1) (i:=i) (by omega);obtain⟨r2,c2',x2⟩:=lo1 (q1 p1) (i:=i+m) (by omega) hkeys;obtain⟨H2,A2,b2,p2,g2,m2,n2⟩:=box p1.ok (.cells [r1,sv,r2] 117 1 false);have P2:=p1.trans p2;obtain⟨r3,c3',x3⟩:=hi3 (q3 P2) (i:=i) (by omega);obtain⟨r4,c4',x4⟩:=lo3 (q3 P2) (i:=i+m+1) (by omega) (by omega);have hss:Strs H2 sv ss:=(oS.mono p2 (fun _ _ x=>x)).row;obtain⟨w3,H3,e3,p3,o3,f3⟩:=zOd D n (cc:=6) p2.ok g2 (x1.prs p2) hss (x2.prs p2) (by simp only[zQ,zU];omega) (by omega);have P3:=P2.trans p3;have h3:=h.step P3;have N1:=p1.next;have N2:=p2.next;have N3:=p3.next
 obtain⟨kv,H4,e4,h4,a4,o4,f4⟩:=zBa D n hn h3 (oP.mono (p2.trans p3) (fun _ _ x=>x)) (hpar.frame fun l hl nd hg=>hg.prs (p2.trans p3)) (fun l hl B hB=>by
  rcases bvs l hl B hB with e | e
  .exact hkd.2 B e
  .exact⟨fun hgB=>by have:=Rw.blk h.gg.row hgB;omega,fun hx=>by have:=h.xo B hx;have:=h.prs.next;omega⟩) (by omega) (by omega)
 have hv3:kF X H3 g (.agg [.bool nd.leaf,ks,vs0,ps]) nd:=hv.prs P3;have hv4:=h3.next hv3 a4
 obtain⟨ks',vs',ps',ee,j1,j2,j3⟩:=id hv4.1;simp only[AV.agg.injEq,List.cons.injEq,and_true,true_and]at ee;obtain⟨rfl,rfl,rfl⟩:=ee;have nb3: ∀B,Blk ps B-> ¬chg Ac F g B:=fun B hB hc=>by
  have hB':wN (.agg [.bool nd.leaf,ks,vs0,ps]) B:=jK.2 (.inr (.inr hB));rcases hc with rfl | rfl | e
  .exact hv3.1.nblk h3.gC (.inl ⟨_,_,_,_,rfl,fun _ _ e=>by cases e⟩) hB'
  .exact hv3.1.nblk h3.gF (.inr (.inl ⟨_,_,rfl⟩)) hB'
  .exact(hv3.2 B hB').1 e
 have y3:xV H4 r3 (nd.kids.take i):=Rw.stp (x3.prs p3) a4.1 (fun B hB=>nb3 B (cN c3' B hB));have y4:xV H4 r4 (nd.kids.drop (i+m+1)):=Rw.stp (x4.prs p3) a4.1 (fun B hB=>nb3 B (cN c4' B hB));obtain⟨H5,A9,b5,p5,gg5,m5,n5⟩:=box h4.prs.ok (.cells [r3,kv,r4] 50 1 false);have okv:xV H5 kv (pps last nds.length):=by
  have:=(o4.mono p5 (fun _ _ x=>x)).row;rw[xV,ZH];exact this
 obtain⟨w6,H6,e6,p6,o6,f6⟩:=conP3 D n (cc:=6) p5.ok gg5 (y3.prs p5) okv (y4.prs p5) (by rw[ZH];simp only[zQ,zU];omega) (by omega);have p46:Prs H4 H6:=p5.trans p6;have h6:=h4.step p46;have N4:=a4.1.next;have N6:=p46.next;have N0:=h.prs.next
 have lt8:A8<H.next:=h.prs.ok.lt g8
 have lt5:A5<H.next:=h.prs.ok.lt g5
 have n8: ¬chg Ac F g A8:=fun hc=>by
  rcases hc with e | e | e
  .exact h8c e
  .rw[e,h.gF]at g8;cases g8
  .rw[h.gg.get e]at g8;simp at g8
 have n5': ¬chg Ac F g A5:=fun hc=>by
  rcases hc with e | e | e
  .exact h5c e
  .rw[e,h.gF]at g5;cases g5
  .rw[h.gg.get e]at g5;simp at g5
 have g86:H6.h.get A8=some (.cells [.bool false, .nilSlice, .nilSlice, .nilSlice] 119 1 false):=by
  rw[p46.keep _ (by omega) (fun x=>x),a4.1.keep _ (by omega) n8];exact Prs.get P3 h.prs.ok g8
 have g54:H4.h.get A5=some (.cells [.bool nd.leaf,ks,vs0,ps] 119 1 false):=by rw[a4.1.keep _ (by omega) n5'];exact G5 P3
 have o36:Own 1 9 H6 w3 (nd.keys.take i++(ss++nd.keys.drop (i+m))).length ((nd.keys.take i++(ss++nd.keys.drop (i+m))).map S):=(o3.mono a4.1 (fun B hB hc=>by
  have:=f3 B hB;rcases hc with e | e | e
  .have:=h.ltC;omega
  .have:=h.ltF;omega
  .have:=Rw.blk h.gg.row e;omega)).mono p46 (fun _ _ x=>x)
 obtain⟨H7,e7,g77,s7,n7⟩:=yD h6.prs.ok g86 (l':=[.bool false,w3, .nilSlice,w6]) rfl (by simp only[qY,o36.row.isCell,o6.row.isCell];rfl);have e7':stN 4 (.ptr A8 0) (.agg [.bool false,w3, .nilSlice,w6]) H6=some (qZ,H7):=e7;have n8': ∀B,Blk g B-> ¬B=A8:=fun B hB e=>n8 (.inr (.inr (e▸hB)))
 have h7:Ch X H0 H7 At Ac F (fes++KJ last vs) (f++kR last nds) g gl last0 (last+nds.length):=h6.other s7 (fun e=>h8c e.symm) (fun e=>n8 (.inr (.inl e.symm))) n8' (fun kv' hkv B hB e=>by
  subst e;obtain⟨nd2,hn2⟩:=h6.pf.mem kv' hkv;exact hn2.nblk g86 (.inl ⟨_,_,_,_,rfl,fun _ _ e=>by cases e⟩) hB) (fun B hB=>by omega)
 have hi2:kX 1 ks (some (.int .i64 ((i+m:Nat):Int))) none none H1=some r2:=c2';have hsub:((i+m+1:Nat):Int) - ((1:Nat):Int)=((i+m:Nat):Int):=by omega
 refine⟨.agg [.bool false,w3, .nilSlice,w6],H7,nds,ss,vs, ?_,hcut,h7, ?_,⟨⟨w3, .nilSlice,w6,rfl, .inl (o36.mono s7 (fun B hB e=>by have:=f3 B hB;omega)), .inl (Own.nil ..), .inl (o6.mono s7 (fun B hB e=>by have:=f6 B hB;have:=p5.next;omega))⟩,fun B hB=>⟨fun hgB=> ?_,fun hx=> ?_⟩⟩,fun B hB=> ?_⟩
 .have t00: ¬(((0:Nat):Int)≠((0:Nat):Int)):=by omega
  simp(config:= { maxSteps:=2000000}) (disch:=omega) only[QK,eZ,v7 g7 hll,e1,qX,nth,t00,qV (G5 p1),c1',hsub,hi2,row3 117 .nilSlice x1.isCell oS.row.isCell x2.isCell,b2,qV (G5 P2),c3',c4',e3,yV (qV (G5 P3) 3) (yN k3.row),xD (q3 P2) (q3 P3) (by decide),yV rfl (yN x3),yV rfl (yN x4),e4,yV (qV g54 3) (yN k3.row),xD (q3 P2) j3 (by decide),
   row3 50 .nilSlice x3.isCell o4.row.isCell x4.isCell,b5,e6,zMu o3.row.isCell o6.row.isCell,e7',v7 g77 rfl]
 .have a1:Stp (fun B=>chg Ac F g B\/B=A8) H H4:=(P3.mono (fun _ _ x=>x.elim)).trans (a4.1.mono (fun _ _ x=> .inl x));exact(a1.trans (p46.mono (fun _ _ x=>x.elim))).trans (s7.mono (fun _ _ x=> .inr x))
 .have:=Rw.blk h.gg.row hgB;rcases jK.1 hB with e | e | e
  .have:=f3 B e;omega
  .exact(Blk.nil.1 e).elim
  .have:=f6 B e;have:=p5.next;omega
 .have:=h.xo B hx;have:=h.prs.next
  rcases jK.1 hB with e | e | e
  .have:=f3 B e;omega
  .exact(Blk.nil.1 e).elim
  .have:=f6 B e;have:=p5.next;omega
 .rcases jK.1 hB with e | e | e
  .have:=f3 B e;omega
  .exact(Blk.nil.1 e).elim
  .have:=f6 B e;have:=p5.next;omega
end Go.Eng.Sh
end
section
set_option maxRecDepth 20000
namespace Go.Eng.Sh
open Go.Nd (Ptr sumL bQ)
open Go.Bt
variable {E:Ev}{X:Nat->Prop}
theorem QC {s t:Nat}(h:pp s=pp t):s=t:=by simp only[pp,Ptr.mk.injEq]at h;omega
theorem zIM (s:Nat):Nd.kidOk (pp s)=true:=by simp[Nd.kidOk,pp]
theorem ZO: ∀ {nds:List Nd.Node} {last i:Nat} {nd:Nd.Node},nds[i]? =some nd->yA (last+1+i) (kR last nds)=some nd
 | [],_,_,_,h=>by simp at h
 | a::nds,last,0,nd,h=>by simp at h;subst h;simp[kR,yA]
 | a::nds,last,i+1,nd,h=>by
  simp only[List.getElem?_cons_succ]at h;rw[kR,yA,if_neg (by omega),show last+1+(i+1)=last+1+1+i from by omega];exact ZO h
theorem KI: ∀ {nds:List Nd.Node} {last s:Nat} {nd:Nd.Node},yA s (kR last nds)=some nd->last<s/\s<=last+nds.length
 | [],_,_,_,h=>by simp[kR,yA]at h
 | a::nds,last,s,nd,h=>by
  rw[kR,yA]at h;split at h
  .simp only[zP];omega
  .have:=KI h;simp only[zP];omega
theorem UN {q f new:PN}{last0:Nat}(hq: ∀s nd,yA s q=some nd->s<=last0)(hn: ∀s nd,yA s new=some nd->last0<s){p:Ptr}{nd:Nd.Node}(h:Qf E q f p=some nd):Qf E q (f++new) p=some nd:=by
 obtain⟨s,rfl,h1 | ⟨h1,h2⟩⟩ | ⟨h1,h2⟩:=wS h
 .rw[UM,kP,h1]
 .rw[UM,kP,h1];simp only
  cases hk:yA s new with
  | none=>exact h2
  | some n2=>have:=hq _ _ h2;have:=hn _ _ hk;omega
 .rw[Q7 h1];exact h2
theorem vJ {p:Ptr}{nd:Nd.Node}(h:E.K p=some nd):Nd.kidOk p=true/\2<=p.at_:=by
 obtain⟨a,birth,kind,body,rfl,h1,h2,⟨h3,_⟩,h4,_⟩:=Ev.K_iff.1 h;simp only[Nd.kidOk,zE,zJ];simp only[u4];omega
theorem UO {q f:PN}{p:Ptr}{nd:Nd.Node}(h:Qf E q f p=some nd):Nd.kidOk p=true:=by
 obtain⟨s,rfl,_⟩ | ⟨_,h2⟩:=wS h
 .exact zIM s
 .exact(vJ h2).1
theorem zMJ {q f:PN}{p:Ptr}{nd:Nd.Node}(h:Qf E q f p=some nd):1<=p.at_:=by
 have:=UO h;simp only[Nd.kidOk,zE,zJ]at this;omega
theorem kU.kidOk {α:Type}{q f:PN}{R:Nd.Node->α->List Ptr->Prop}(hr: ∀nd t S,R nd t S-> ∀p∈S,Nd.kidOk p=true): ∀ {ps:List Ptr} {ts:List α} {S:List Ptr},kU (Qf E q f) R ps ts S-> ∀p∈S,Nd.kidOk p=true
 | [],[],_,h=>by subst h;simp
 | p::ps,t::ts,_,⟨nd,S1,S2,a,b,c,e⟩=>fun x hx=>by
  subst e;rcases List.mem_cons.1 hx with rfl | hx
  .exact UO a
  .rcases List.mem_append.1 hx with hx | hx
   .exact hr _ _ _ b x hx
   .exact kU.kidOk hr c x hx
 | [],_::_,_,h=>h.elim
 | _::_,[],_,h=>h.elim
theorem jB.kidOk {q f:PN} : ∀ {h:Nat} {nd:Nd.Node} {t:Bt.Tr h} {S:List Ptr},jB (Qf E q f) h nd t S-> ∀p∈S,Nd.kidOk p=true
 | 0,_,_,_,w=>by obtain⟨_,rfl⟩:=w;simp
 | h+1,_,_,_,w=>kU.kidOk (fun _ _ _ hr=>jB.kidOk hr) w.2.2.2
theorem BT (D:Dyn)(n:Nat)(hn:200000000<=n){H0 H:AH}{At Ac F A5 A7 A8 i m h:Nat}{q:PN}{fes:List (AV×AV)}{f:PN}{g:AV}{gl:List Ptr}{last0 last:Nat}{ln lk:List AV}{nd kd:Nd.Node}{t:Bt.Tr (h+1)}{x:Bt.Tr h}{Sa Sb Sx:List Ptr}{lo hi:Bd}
  (ch:Ch X H0 H At Ac F fes f g gl last0 last) (g5:H.h.get A5=some (.cells ln 119 1 false)) (g7:H.h.get A7=some (.cells lk 119 1 false)) (g8:H.h.get A8=some (.cells [.bool false, .nilSlice, .nilSlice, .nilSlice] 119 1 false))
  (hA5:H0.next<=A5) (hA7:H0.next<=A7) (hA8:H0.next<=A8) (h58:A5≠A8) (h5c:A5≠Ac) (h8c:A8≠Ac)
  (hv:kF X H g (.agg ln) nd) (hkd:kF X H g (.agg lk) kd) (hq: ∀s nd,yA s q=some nd->s<=last0)
  (n1:nd.leaf=false) (n2:nd.keys=t.1) (n3:nd.vals=[]) (n4:nd.kids.length=t.2.length) (wi:Inn (WF h) lo hi t) (hne:t.1≠[]) (hz:jL t.1 t.2.length<=500) (him:i+m<t.2.length)
  (ra:kU (Qf E q f) (jB (Qf E q f) h) (nd.kids.take i) (t.2.take i) Sa) (rb:kU (Qf E q f) (jB (Qf E q f) h) (nd.kids.drop (i+m+1)) (t.2.drop (i+m+1)) Sb)
  (rx:jB (Qf E q f) h kd x Sx) (wx:WX h (KN lo t.1 i) (Z9 t.1 hi (i+m)) x) (fx:Full h x) (kne:0<h->kd.keys≠[]) (hb:last<=800000000):
  ∃u H' fes' f' last' nd' t' S',QK D n [.ptr Ac 0, .ptr A5 0, .ptr A7 0, .ptr A8 0, .int .i64 (i:Nat), .int .i64 ((i+m+1:Nat):Int)] H=some (.ret (.tuple [u, .int .i64 ((0:Nat):Int)]),H')/\
   Ch X H0 H' At Ac F fes' f' g gl last0 last'/\Stp (fun B=>chg Ac F g B\/B=A8) H H'/\kF X H' g u nd'/\(∀B,wN u B->H.next<=B)/\jB (Qf E q f') (h+1) nd' t' S'/\Inn (WF h) lo hi t'/\
   con (h+1) t'=(t.2.take i).flatMap (con h)++con h x++(t.2.drop (i+m+1)).flatMap (con h)/\jL t'.1 t'.2.length<=jL t.1 t.2.length+285/\t.1.length<=t'.1.length+m/\last<=last'/\last'<=last+6/\
   S'.Perm (pps last (last' - last)++(Sa++Sb++Sx))/\ ∀p nd,Qf E q f p=some nd->Qf E q f' p=some nd:=by
 have hl:=wi.2.2.len;have hsz:small nd:=by
  have:Nd.size nd<=10000:=by
   simp only[Nd.size,n2,n3,n4,Bt.sumL_nil];simp only[jL]at hz;omega
  exact jY this
 have hsk:=rx.shaped wx.gen kne (jB.kidOk rx);have hzk:Nd.size kd<=10000:=by rw[rx.size];have:=wx.sz;omega
 have hlim: ∀nds ss,CutsN kd nds ss->nds.length<=6/\ss.length<=6:=fun nds ss hc=>by
  obtain⟨ts,c1,c2⟩:=U9 hc rx wx;obtain⟨d1,_,d3,_⟩:=U8 c1 wx (.inl fx);have l1:=c2.len;have l2:=d1.2.2.len;simp only at l2;omega
 obtain⟨u,H',nds,ss,vs,e1,hcut,hc',st,hu,hfr⟩:=zLp D n hn (i:=i) (m:=m) ch g5 g7 g8 hA5 hA7 hA8 h58 h5c h8c hv hkd hsk hzk hsz (by rw[n4,hl,n2]) (by rw[n2];exact hne) (by rw[n4];exact him) (fun nds ss hc=>by have:=hlim nds ss hc;omega) hb;obtain⟨ts,c1,c2⟩:=U9 hcut rx wx;obtain⟨p1,p2,p3,p4⟩:=zIu (ks:=t.1) (ts:=t.2) wi him wx fx c1;have hnew: ∀s nd',yA s (kR last nds)=some nd'->last0<s:=fun s nd' hs=>by have:=KI hs;have:=ch.le;omega
 have more: ∀p nd,Qf E q f p=some nd->Qf E q (f++kR last nds) p=some nd:=fun p nd hp=>UN hq hnew hp
 have moreL: ∀ {ps:List Ptr} {ts:List (Bt.Tr h)} {S:List Ptr},kU (Qf E q f) (jB (Qf E q f) h) ps ts S->kU (Qf E q (f++kR last nds)) (jB (Qf E q (f++kR last nds)) h) ps ts S:=fun r=>r.mono (fun p _ nd hp=>more p nd hp) (fun nd t S1 _ hr=>hr.mono fun p _ nd hp=>more p nd hp)
 have c2':zDy (Qf E q (f++kR last nds)) h nds ts Sx:=by
  have mono: ∀ {nds':List Nd.Node} {ts':List (Bt.Tr h)} {S':List Ptr},zDy (Qf E q f) h nds' ts' S'->zDy (Qf E q (f++kR last nds)) h nds' ts' S':=by
   intro nds'
   induction nds' with
   | nil=>intro ts' S' hp;cases ts' with
    | nil=>exact hp
    | cons=>exact hp.elim
   | cons a nds' ih=>intro ts' S' hp;cases ts' with
    | nil=>exact hp.elim
    | cons b ts'=>
     obtain⟨S1,S2,a1,a2,a3⟩:=hp;exact⟨S1,S2,a1.mono fun p _ nd hp=>more p nd hp,ih a2,a3⟩
  exact mono c2
 have hnone: ∀j,yA (last+1+j) f=none:=fun j=>by
  cases hk:yA (last+1+j) f with
  | none=>rfl
  | some n2=>have:=ch.fs _ _ hk;omega
 obtain⟨S2,r2,pm2⟩:=c2'.kids last (fun j nd' hj=>by rw[UM,kP,hnone];simp only[ZO hj]);have rl:=kU.app (kU.app (moreL rb) r2) (moreL ra);have hlen:=hlim nds ss hcut;refine⟨u,H',_,_,last+nds.length,_,(t.1.take i++ss++t.1.drop (i+m),t.2.take i++ts++t.2.drop (i+m+1)),Sa++(S2++Sb),e1,hc',st,hu,hfr,⟨rfl,by simp[n2],rfl, ?_⟩,p1,p2,p3,p4,by omega,by omega, ?_,more⟩
 .simp only[List.append_assoc];exact rl
 .rw[show last+nds.length - last=nds.length by omega];rw[List.perm_iff_count]at pm2⊢;intro a;have:=pm2 a;simp only[List.count_append]at this⊢;omega
end Go.Eng.Sh
end
section
set_option maxRecDepth 20000
namespace Go.Eng.Sh
open Go.Nd (Ptr sumL bQ)
open Go.Bt
variable {E:Ev}{X:Nat->Prop}
theorem Ch.stb {H0 H H':AH}{At Ac F A:Nat}{fes:List (AV×AV)}{f:PN}{g:AV}{gl:List Ptr}{last0 last e:Nat}{b:Bool}{r:List AV}(h:Ch X H0 H At Ac F fes f g gl last0 last)(gA:H.h.get A=some (.cells (.bool b::r) e 1 false))(s:Stp (fun B=>B=A) H H')(h0:H0.next<=A)(hc:A≠Ac):Ch X H0 H' At Ac F fes f g gl last0 last:=
 h.other s (fun e=>hc e.symm) (fun e=>by subst e;rw[h.gF]at gA;cases gA) (fun B hB e=>by subst e;rw[h.gg.get hB]at gA;simp at gA) (fun kv hkv B hB e=>by
  subst e;obtain⟨nd2,hn2⟩:=h.pf.mem kv hkv;exact hn2.nblk gA (.inl ⟨_,_,_,_,rfl,fun _ _ e=>by cases e⟩) hB) (fun B hB=>by subst hB;exact h0)
theorem kF.stb {H H':AH}{A:Nat}{g v:AV}{nd:Nd.Node}{e:Nat}{b:Bool}{r:List AV}(h:kF X H g v nd)(gA:H.h.get A=some (.cells (.bool b::r) e 1 false))(s:Stp (fun B=>B=A) H H'):kF X H' g v nd:=
 ⟨h.1.stp s fun B hB e=>by subst e;exact h.1.nblk gA (.inl ⟨_,_,_,_,rfl,fun _ _ e=>by cases e⟩) hB,h.2⟩
theorem u9 {l:List AV}{H:AH}{nd:Nd.Node}(h:yK H (.agg l) nd): ∃r,l= .bool nd.leaf::r/\l.length=4/\qY l=true:=by
 obtain⟨ks,vs,ps,e,h1,h2,h3⟩:=h;simp only[AV.agg.injEq]at e;subst e;exact⟨_,rfl,rfl,aY _ _ _ _ h1.row.isCell h2.row.isCell h3.row.isCell⟩
theorem zDP (m9 n:Nat)(hn:200000000<=n){H0 H:AH}{At Ac F M i h:Nat}{d c dr:AV}{root:Ptr}{es:List (AV×AV)}{q:PN}{fes:List (AV×AV)}{f:PN}{g:AV}{gl:List Ptr}{last0 last:Nat}{ln lk:List AV}{nd kd:Nd.Node}{t:Bt.Tr (h+1)}{x tk:Bt.Tr h}{Sa Sb Sx:List Ptr}{lo hi:Bd}
  (ti:TI E H0 At M d c root es q last0 dr) (hold: ∀kv∈es,∀B,wN kv.2 B->B<H0.next) (hxs: ∀kv∈es,∀B,wN kv.2 B-> ¬X B) (hq: ∀s nd,yA s q=some nd->s<=last0) (ch:Ch X H0 H At Ac F fes f g gl last0 last)
  (hv:kF X H g (.agg ln) nd) (hkd:kF X H g (.agg lk) kd)
  (n1:nd.leaf=false) (n2:nd.keys=t.1) (n3:nd.vals=[]) (n4:nd.kids.length=t.2.length) (wi:Inn (WF h) lo hi t) (hne:t.1≠[]) (hz:jL t.1 t.2.length<=500) (him:t.2[i]? =some tk)
  (ra:kU (Qf E q []) (jB (Qf E q []) h) (nd.kids.take i) (t.2.take i) Sa) (rb:kU (Qf E q []) (jB (Qf E q []) h) (nd.kids.drop (i+1)) (t.2.drop (i+1)) Sb)
  (rx:jB (Qf E q f) h kd x Sx) (wx:WX h (KN lo t.1 i) (Z9 t.1 hi i) x) (kne:0<h->kd.keys≠[]) (hb:last<=700000000) (hgl:gl.length+1<=last+1000):
  ∃u H' fes' f' g' gl' last' nd' t' S' G R,f129 (dy (m9+1)) n [.ptr Ac 0, .agg ln, .int .i64 (i:Nat), .agg lk] H=some (.tuple [u, .int .i64 ((0:Nat):Int)],H')/\
   Ch X H0 H' At Ac F fes' f' g' gl' last0 last'/\Adv Ac F H g H' g'/\kF X H' g' u nd'/\jB (Qf E q f') (h+1) nd' t' S'/\Inn (WF h) lo hi t'/\
   con (h+1) t'=(t.2.take i).flatMap (con h)++con h x++(t.2.drop (i+1)).flatMap (con h)/\jL t'.1 t'.2.length<=jL t.1 t.2.length+285/\t.1.length<=t'.1.length+1/\last<=last'/\last'<=last+6/\gl'=gl++G/\
   S'.Perm (pps last (last' - last)++(R++Sx))/\(Sa++Sb).Perm (G++R)/\(∀p nd,Qf E q f p=some nd->Qf E q f' p=some nd)/\G.length<=1:=by
 obtain⟨hi',rfl⟩:=List.getElem?_eq_some_iff.1 him;have hlen:=wi.2.2.len;obtain⟨rn,hln,lnl,lnc⟩:=u9 hv.1;obtain⟨rk,hlk,lkl,lkc⟩:=u9 hkd.1;obtain⟨H1,A5,b1,p1,g1,m1,n1'⟩:=box ch.prs.ok (.cells ln 119 1 false);obtain⟨H2,A7,b2,p2,g2,m2,n2'⟩:=box p1.ok (.cells lk 119 1 false);obtain⟨H3,A8,b3,p3,g3,m3,n3'⟩:=box p2.ok (.cells [.bool false, .nilSlice, .nilSlice, .nilSlice] 119 1 false);have P3:Prs H H3:=(p1.trans p2).trans p3;have g13:=Prs.get p3 p2.ok (Prs.get p2 p1.ok g1);have g23:=Prs.get p3 p2.ok g2;have hsm:small kd:=jY (by rw[rx.size];have:=wx.sz;omega);obtain⟨z,H4,e4,rfl,p4⟩:=YY (dy (m9+1)) n P3.ok (hkd.1.prs P3).node hsm hn;have P4:=P3.trans p4;have g14:=Prs.get p4 P3.ok g13;have g24:=Prs.get p4 P3.ok g23;have g34:=Prs.get p4 P3.ok g3;have ch4:=ch.step P4;have N0:=ch.prs.next
 have cc:=ch.ltC;have hqf: ∀p nd,Qf E q [] p=some nd->Qf E q f p=some nd:=fun p nd hp=>by
  have:=UN (new:=f) hq (fun s nd' hs=>(ch.fs s nd' hs).1) hp;simpa using this
 have moreL: ∀ {ps:List Ptr} {ts:List (Bt.Tr h)} {S:List Ptr},kU (Qf E q []) (jB (Qf E q []) h) ps ts S->kU (Qf E q f) (jB (Qf E q f) h) ps ts S:=fun r=>r.mono (fun p _ nd hp=>hqf p nd hp) (fun nd t S1 _ hr=>hr.mono fun p _ nd hp=>hqf p nd hp)
 have hii:((i:Nat):Int)+((1:Nat):Int)=((i+1:Nat):Int):=by omega
 have hiz:i<=1000:=by simp only[jL]at hz;omega
 have hsize:=rx.size;by_cases hthin:jD h x<160
 case neg=>
  have hthI: ¬((Nd.size kd:Nat):Int)< ((160:Nat):Int):=by omega
  have fx:Full h x:=by
   cases h with
   | zero=>
    intro e;have e:x=([]:Nd.Kvs):=e;rw[e]at hthin;exact hthin (by decide)
   | succ h=>exact Nat.le_of_not_lt hthin
  obtain⟨u,H5,fes',f',last',nd',t',S',e5,hc5,st,hu,hfr,r5,w5,c5,z5,k5,l1,l2,pm,more⟩:=BT (dy (m9+1)) n hn (i:=i) (m:=0) (h:=h) ch4 g14 g24 g34 (by omega) (by have:=p1.next;omega) (by have:=p1.next;have:=p2.next;omega) (by have:=p2.next;omega) (by omega) (by have:=p1.next;have:=p2.next;omega)
   (hv.prs P4) (hkd.prs P4) hq n1 n2 n3 n4 wi hne hz (by simpa using hi') (moreL ra) (by simpa using moreL rb) rx (by simpa using wx) fx kne (by omega)
  refine⟨u,H5,fes',f',g,gl,last',nd',t',S',[],Sa++Sb, ?_,hc5, ?_,hu,r5,w5,by simpa using c5,z5,by omega,l1,l2,by simp, ?_,by simp,more,by simp⟩
  .simp(maxSteps:=999999)(disch:=omega) only[f129,eZ,b1,b2,b3,hii,v7 g23 lkl,e4,hthI];simp only[Nat.add_zero]at e5;rw[e5];rfl
  .refine⟨⟨st.ok,by have:=st.next;have:=P4.next;omega,fun B hB hS=> ?_⟩,fun B hB=> .inl hB⟩
   rw[st.keep B (by have:=P4.next;omega) (fun hx=>by
    rcases hx with hx | hx
    .exact hS hx
    .have:=p1.next;have:=p2.next;omega)]
   exact P4.keep B hB (fun x=>x)
  .exact pm
 case pos=>
 have hthI:((Nd.size kd:Nat):Int)< ((160:Nat):Int):=by omega
 have side: ∃b ndb tb Sbb pb,nd.kids[b]? =some pb/\Qf E q [] pb=some ndb/\jB (Qf E q []) h ndb tb Sbb/\t.2[b]? =some tb/\
   ((b+1=i/\ ∃Sa',kU (Qf E q []) (jB (Qf E q []) h) (nd.kids.take b) (t.2.take b) Sa'/\Sa=Sa'++(pb::Sbb))\/(i=0/\b=1/\ ∃Sb',kU (Qf E q []) (jB (Qf E q []) h) (nd.kids.drop 2) (t.2.drop 2) Sb'/\Sb=pb::(Sbb++Sb'))):=by
  have hkl:0<t.1.length:=by
   rcases Nat.eq_zero_or_pos t.1.length with e | e
   .exact absurd (zL e) hne
   .exact e
  cases i with
  | zero=>
   have h1:1<t.2.length:=by omega
   rw[show(0+1:Nat)=1 from rfl,zX h1,zX (show 1<nd.kids.length by omega)]at rb;obtain⟨ndb,S1,S2,q1,q2,q3,e⟩:=rb;exact⟨1,ndb,t.2[1],S1,_,zG (by omega),q1,q2,zG h1, .inr ⟨rfl,rfl,S2,q3,e⟩⟩
  | succ j=>
   have h1:j<t.2.length:=by omega
   rw[zV h1,zV (show j<nd.kids.length by omega)]at ra;obtain⟨T1,T2,r1,r2,e⟩:=ra.split j;have e1:(nd.kids.take j++[nd.kids[j]'(by omega)]).take j=nd.kids.take j:=List.take_left' (by rw[zQ];omega);have e2:(nd.kids.take j++[nd.kids[j]'(by omega)]).drop j=[nd.kids[j]'(by omega)]:=List.drop_left' (by rw[zQ];omega);have e3:(t.2.take j++[t.2[j]]).take j=t.2.take j:=List.take_left' (by rw[zQ];omega);have e4:(t.2.take j++[t.2[j]]).drop j=[t.2[j]]:=List.drop_left' (by rw[zQ];omega);rw[e1,e3]at r1;rw[e2,e4]at r2;obtain⟨ndb,S1,S2,q1,q2,q3,e5⟩:=r2;have q3:S2=[]:=q3;subst q3;exact⟨j,ndb,t.2[j],S1,_,zG (by omega),q1,q2,zG h1, .inl ⟨rfl,T1,r1,by rw[e,e5,List.append_nil]⟩⟩
 obtain⟨b,ndb,tb,Sbb,pb,kb,hs,rbb,htb,hcase⟩:=side;obtain⟨hbl,rfl⟩:=List.getElem?_eq_some_iff.1 htb;have hbk:b<nd.kids.length:=by omega
 have hkb:nd.kids[b]=pb:=by rw[zG hbk]at kb;exact Option.some.inj kb
 have wb:WF h (KN lo t.1 b) (Z9 t.1 hi b) t.2[b]:=KB.at wi.2.2 htb;have ti4:=ti.prs ch4.prs;obtain⟨ks,vs0,ps,hle,k1,k2,k3⟩:=id (hv.prs P4).1;simp only[AV.agg.injEq]at hle;obtain⟨H5,A13,b5,p5,g5,m5,n5⟩:=box ch4.prs.ok (.cells [.bool false, .nilSlice, .nilSlice, .nilSlice] 119 1 false);obtain⟨vb,H6,e6,p6,hgb,hmem⟩:=VF m9 n hn (ti4.prs p5) hs;obtain⟨lb,rfl,lbl,lbc⟩:=hgb.cells;obtain⟨H7,e7,g7,s7,n7⟩:=yD p6.ok (Prs.get p6 p5.ok g5) (l':=lb) lbl lbc;have e7':stN 4 (.ptr A13 0) (.agg lb) H6=some (qZ,H7):=e7;have N4:=P4.next;have N5:=p5.next;have N6:=p6.next
 have p47:Prs H4 H7:=(p5.trans p6).fresh s7 (fun B hB=>by omega);have ch7:=ch4.step p47;have hgb7:yK H7 (.agg lb) ndb:=hgb.stp s7 (fun B hB e=>by
  subst e;exact hgb.nblk (Prs.get p6 p5.ok g5) (.inl ⟨_,_,_,_,rfl,fun _ _ e=>by cases e⟩) hB)
 have hb7:kF X H7 g (.agg lb) ndb:=by
  rcases hmem with⟨kk,hmem⟩ | hfr
  .exact hgb7.hand ch7 (fun B hB=>hold _ hmem B hB) (hxs _ hmem)
  .refine⟨hgb7,fun B hB=>⟨fun hg=> ?_,fun hx=> ?_⟩⟩
   .have h1:=hfr B hB;have h2:=Rw.blk (ch4.step p5).gg.row hg;omega
   .have h1:=hfr B hB;have h2:=ch.xo B hx;have h3:=(ch4.step p5).prs.next
    omega
 obtain⟨g',H8,e8,ch8,a8⟩:=zG1 (dy (m9+1)) n ch7 pb hgl (by omega);have hv8:=ch7.next (hv.prs (P4.trans p47)) a8
 have hk8:=ch7.next (hkd.prs (P4.trans p47)) a8
 have hb8:=ch7.next hb7 a8
 have np: ∀ {A:Nat} {l:List AV} {e:Nat},H7.h.get A=some (.cells l e 1 false)->A≠Ac-> ¬chg Ac F g A:=fun {A l e} hg hne hc=>by
  rcases hc with e | e | e
  .exact hne e
  .rw[e,ch7.gF]at hg;cases hg
  .rw[ch7.gg.get e]at hg;simp at hg
 have M1:=p1.next;have M2:=p2.next;have M3:=p3.next;have M4:=p4.next;have M7:=p47.next
 have g57:=Prs.get p47 P4.ok g14;have g77:=Prs.get p47 P4.ok g24;have g87:=Prs.get p47 P4.ok g34;have g58:H8.h.get A5=some (.cells ln 119 1 false):=by rw[a8.1.keep _ (by omega) (np g57 (by omega))];exact g57
 have g78:H8.h.get A7=some (.cells lk 119 1 false):=by rw[a8.1.keep _ (by omega) (np g77 (by omega))];exact g77
 have g88:H8.h.get A8=some (.cells [.bool false, .nilSlice, .nilSlice, .nilSlice] 119 1 false):=by rw[a8.1.keep _ (by omega) (np g87 (by omega))];exact g87
 have g138:H8.h.get A13=some (.cells lb 119 1 false):=by rw[a8.1.keep _ (by omega) (np g7 (by omega))];exact g7
 have k34:xV H4 ps nd.kids:=k3.row;obtain⟨q4,i4,i4'⟩:=k34.at hbk;obtain⟨q7,i7,i7'⟩:=(k34.prs p47).at hbk;rw[hkb]at i4' i7';obtain rfl:q7=q4:=by
  have e1:=i4 .i64 b rfl;rw[i7 .i64 b rfl]at e1;exact Option.some.inj e1
 have hsmb:small ndb:=jY (by rw[rbb.size];have:=wb.sz;omega);have rbf:jB (Qf E q f) h ndb t.2[b] Sbb:=rbb.mono fun p _ nd hp=>hqf p nd hp
 have neb:0<h->ndb.keys≠[]:=fun hh=>by
  cases h with
  | zero=>omega
  | succ h=>
   have:=cS wb;rw[rbb.2.1];intro e;rw[e]at this;simp at this
 have t00: ¬(((0:Nat):Int)≠((0:Nat):Int)):=by omega
 have hcells: ∀Hx:AH,Hx.h.get A5=some (.cells ln 119 1 false)->ld1 (.ptr A5 3) Hx=some ps/\ld1 (.ptr A5 1) Hx=some ks:=fun Hx hg=>by
  rw[qV hg,qV hg,hle];exact⟨rfl,rfl⟩
 have hK8:Strs H8 ks nd.keys:=by
  obtain⟨ks',vs',ps',hle',j1,j2,j3⟩:=id hv8.1;simp only[AV.agg.injEq]at hle';rw[hle]at hle';simp only[List.cons.injEq,and_true]at hle';obtain⟨_,rfl,_,_⟩:=hle';exact j1.row
 have fin: ∀(j m:Nat) (sep:Str) (u:AV) (jn':Nd.Node) (x':Bt.Tr h) (Sx' Sa' Sb':List Ptr) (H9:AH),Prs H8 H9->Z4 H8 H9 u jn'->jB (Qf E q f) h jn' x' Sx'->WX h (KN lo t.1 j) (Z9 t.1 hi (j+m)) x'->Full h x'->(0<h->jn'.keys≠[])->j+m<t.2.length->
   kU (Qf E q f) (jB (Qf E q f) h) (nd.kids.take j) (t.2.take j) Sa'->kU (Qf E q f) (jB (Qf E q f) h) (nd.kids.drop (j+m+1)) (t.2.drop (j+m+1)) Sb'->
   ∃H10,stN 4 (.ptr A7 0) u H9=some (qZ,H10)/\ ∃u H' fes' f' last' nd' t' S',QK (dy (m9+1)) n [.ptr Ac 0, .ptr A5 0, .ptr A7 0, .ptr A8 0, .int .i64 (j:Nat), .int .i64 ((j+m+1:Nat):Int)] H10=some (.ret (.tuple [u, .int .i64 ((0:Nat):Int)]),H')/\
    Ch X H0 H' At Ac F fes' f' g' (gl++[pb]) last0 last'/\Adv Ac F H g H' g'/\kF X H' g' u nd'/\jB (Qf E q f') (h+1) nd' t' S'/\Inn (WF h) lo hi t'/\
    con (h+1) t'=(t.2.take j).flatMap (con h)++con h x'++(t.2.drop (j+m+1)).flatMap (con h)/\jL t'.1 t'.2.length<=jL t.1 t.2.length+285/\t.1.length<=t'.1.length+m/\last<=last'/\last'<=last+6/\
    S'.Perm (pps last (last' - last)++(Sa'++Sb'++Sx'))/\ ∀p nd,Qf E q f p=some nd->Qf E q f' p=some nd:=by
  intro j m sep u jn' x' Sx' Sa' Sb' H9 p9 w9 rx' wx' fx' kne' hjm ra' rb';have wf9:=w9.free;obtain⟨lu,rfl,lul,luc⟩:=wf9.1.cells;have ch9:=ch8.step p9;have ha9:kF X H9 g' (.agg lu) jn':=wO.hand ch8 (Nat.le_refl _) wf9;have g79:=Prs.get p9 ch8.prs.ok g78;obtain⟨H10,e10,g10,s10,n10⟩:=yD p9.ok g79 (l':=lu) (by omega) luc;have e10':stN 4 (.ptr A7 0) (.agg lu) H9=some (qZ,H10):=by rw[lkl]at e10;exact e10
  rw[hlk]at g79;have ch10:=ch9.stb g79 s10 (by omega) (by omega);have N8:=a8.1.next;have N9:=p9.next
  have g5x:H10.h.get A5=some (.cells ln 119 1 false):=by rw[s10.keep _ (by omega) (by omega)];exact Prs.get p9 ch8.prs.ok g58
  have g8x:H10.h.get A8=some (.cells [.bool false, .nilSlice, .nilSlice, .nilSlice] 119 1 false):=by rw[s10.keep _ (by omega) (by omega)];exact Prs.get p9 ch8.prs.ok g88
  obtain⟨u',H',fes',f',last',nd',t',S',e5,hc5,st,hu,hfr,r5,w5,c5,z5,k5,l1,l2,pm,more⟩:=BT (dy (m9+1)) n hn (i:=j) (m:=m) (h:=h) ch10 g5x g10 g8x (by omega) (by omega) (by omega) (by omega) (by omega) (by omega)
   ((hv8.prs p9).stb g79 s10) (ha9.stb g79 s10) hq n1 n2 n3 n4 wi hne hz hjm ra' rb' rx' wx' fx' kne' (by omega)
  refine⟨H10,e10',u',H',fes',f',last',nd',t',S',e5,hc5, ?_,hu,r5,w5,c5,z5,k5,l1,l2,pm,more⟩;refine⟨⟨st.ok,by have:=st.next;omega,fun B hB hS=> ?_⟩,fun B hB=> ?_⟩
  .have a1:H8.h.get B=H.h.get B:=by
    rw[a8.1.keep B (by omega) hS,p47.keep B (by omega) (fun x=>x)];exact P4.keep B hB (fun x=>x)
   rw[st.keep B (by omega) (fun hx=>by
    rcases hx with hx | hx
    .rcases hx with e | e | e
     .exact hS (.inl e)
     .exact hS (.inr (.inl e))
     .rcases a8.2 B e with e | e
      .exact hS (.inr (.inr e))
      .omega
    .omega),s10.keep B (by omega) (by omega),p9.keep B (by omega) (fun x=>x)]
   exact a1
  .rcases a8.2 B hB with e | e
   .exact .inl e
   .exact .inr (by omega)
 rcases hcase with⟨hbi,Sa',ra',rfl⟩ | ⟨rfl,rfl,Sb',rb',rfl⟩
 ·
  subst hbi;have hkey:b<t.1.length:=by omega
  have hsep:=wi.1 _ (qC hkey);have hgk:t.1.getD b []=t.1[b]:=by rw[zT,zG hkey];rfl
  have hs1:Z9 t.1 hi b=some t.1[b]:=by simp only[Z9,zG hkey]
  have hs2:KN lo t.1 (b+1)=some t.1[b]:=by simp only[KN,zG hkey]
  rw[hs1]at wb;rw[hs2]at wx;have hjm:=zCO rbf rx wb.gen wx.gen hsep.1 neb kne (jB.kidOk rbf) (jB.kidOk rx);obtain⟨u,H9,e9,p9,w9⟩:=zFN (dy (m9+1)) n hn ch8.prs.ok (sep:=t.1[b]) hb8.1.node hk8.1.node hsmb hsm;rw[hjm]at e9 w9;simp only[if_true]at e9 w9;have hls:=WT hsep.1;have js:=JG h t.2[b] t.1[b] x hls;have wj:WX h (KN lo t.1 b) (Z9 t.1 hi (b+1)) (cY h t.2[b] t.1[b] x):=Gen.wx (zCP wb.gen wx.gen ⟨hsep.1,by
   have hmono:=KB.at wi.2.2 (zG hbl)
   cases b with
   | zero=>exact hsep.2.1
   | succ b'=>
    simp only[KN,zG (show b'<t.1.length by omega)];have:=(Nd.rising_ix ltS t.1).1 wi.2.1 b' hkey;exact this,by
   by_cases e:b+1<t.1.length
   .simp only[Z9,zG e];exact(Nd.rising_ix ltS t.1).1 wi.2.1 b e
   .simp only[Z9,List.getElem?_eq_none (show t.1.length<=b+1 by omega)];exact hsep.2.2⟩) (by have:=wb.sz;omega)
  obtain⟨H10,e10,u',H',fes',f',last',nd',t',S',e5,hc5,adv,hu,r5,w5,c5,z5,k5,l1,l2,pm,more⟩:=fin b 1 t.1[b] u _ _ (Sbb++Sx) Sa' Sb H9 p9 w9 (jB.join rbf rx t.1[b]) wj (zAg hls (.inl wb.full)) (fun hh e=>by
   cases h with
   | zero=>omega
   | succ h=>
    have:(bQ ndb t.1[b] kd).keys=ndb.keys++([t.1[b]]++kd.keys):=by simp only[bQ,rbf.1,Bool.false_eq_true,if_false]
    rw[this]at e;simp at e) (by omega) (moreL ra') (moreL rb)
  refine⟨u',H',fes',f',g',gl++[pb],last',nd',t',S',[pb],Sa'++(Sbb++Sb), ?_,hc5,adv,hu,r5,w5, ?_,z5,k5,l1,l2,rfl, ?_, ?_,more,by simp⟩
  .have hb1:((b+1:Nat):Int) - ((1:Nat):Int)=((b:Nat):Int):=by omega
   have hb0: ¬((b+1:Nat):Int)=((0:Nat):Int):=by omega
   have hmn:mn2 (.int .i64 ((b+1:Nat):Int)) (.int .i64 ((b:Nat):Int))=some (.int .i64 ((b:Nat):Int)):=by
    have:ilt ((b:Nat):Int) ((b+1:Nat):Int)=true:=by rw[xK];simp;omega
    simp only[mn2,this,cond_true]
   have hmx:mx2 (.int .i64 ((b+1:Nat):Int)) (.int .i64 ((b:Nat):Int))=some (.int .i64 ((b+1:Nat):Int)):=by
    have:ilt ((b+1:Nat):Int) ((b:Nat):Int)=false:=by rw[xK];simp;omega
    simp only[mx2,this,cond_false]
   have hlss:((b:Nat):Int)< ((b+1:Nat):Int):=by omega
   have hii':((b+1:Nat):Int)+((1:Nat):Int)=((b+1+1:Nat):Int):=by omega
   obtain⟨qk,ik,ik'⟩:=hK8.at (i:=b) (by rw[n2];exact hkey);have hnk:nd.keys[b]'(by rw[n2];exact hkey)=t.1[b]:=by simp[n2]
   rw[hnk]at ik';simp(config:= { maxSteps:=2000000}) (disch:=omega) only[f129,eZ,b1,b2,b3,hii',v7 g23 lkl,e4,hthI,hb1,hb0,JX,qV ch4.gC,(hcells H4 g14).1,i4,i4',b5,e6,qX,nth,e7',t00,(hcells H7 g57).1,i7,i7',e8,hmn,hmx,hlss,v7 g138 lbl,(hcells H8 g58).2,ik,ik',v7 g78 lkl,e9,e10,QL,e5]
  .rw[c5,zDg,zV hbl,qL,zZ,List.flatMap_nil,List.append_nil];simp only[List.append_assoc]
  .rw[List.perm_iff_count]at pm⊢;intro a;have:=pm a;simp only[List.count_append,List.count_cons]at this⊢;omega
  .rw[List.perm_iff_count];intro a;simp only[List.count_append,List.count_cons,List.count_nil];omega
 ·
  have hkey:0<t.1.length:=by omega
  have hsep:=wi.1 _ (qC hkey);have hs1:Z9 t.1 hi 0=some t.1[0]:=by simp only[Z9,zG hkey]
  have hs2:KN lo t.1 1=some t.1[0]:=by simp only[KN,zG hkey]
  rw[hs2]at wb;rw[hs1]at wx;have hjm:=zCO rx rbf wx.gen wb.gen hsep.1 kne neb (jB.kidOk rx) (jB.kidOk rbf);obtain⟨u,H9,e9,p9,w9⟩:=zFN (dy (m9+1)) n hn ch8.prs.ok (sep:=t.1[0]) hk8.1.node hb8.1.node hsm hsmb;rw[hjm]at e9 w9;simp only[if_true]at e9 w9;have hls:=WT hsep.1;have js:=JG h x t.1[0] t.2[1] hls;have wj:WX h (KN lo t.1 0) (Z9 t.1 hi (0+1)) (cY h x t.1[0] t.2[1]):=Gen.wx (zCP wx.gen wb.gen ⟨hsep.1,hsep.2.1,by
   by_cases e:1<t.1.length
   .simp only[Z9,zG (show 0+1<t.1.length by omega)];exact(Nd.rising_ix ltS t.1).1 wi.2.1 0 (by omega)
   .simp only[Z9,List.getElem?_eq_none (show t.1.length<=0+1 by omega)];exact hsep.2.2⟩) (by have:=wb.sz;omega)
  obtain⟨H10,e10,u',H',fes',f',last',nd',t',S',e5,hc5,adv,hu,r5,w5,c5,z5,k5,l1,l2,pm,more⟩:=fin 0 1 t.1[0] u _ _ (Sx++Sbb) Sa Sb' H9 p9 w9 (jB.join rx rbf t.1[0]) wj (zAg hls (.inr wb.full)) (fun hh e=>by
   cases h with
   | zero=>omega
   | succ h=>
    have:(bQ kd t.1[0] ndb).keys=kd.keys++([t.1[0]]++ndb.keys):=by simp only[bQ,rx.1,Bool.false_eq_true,if_false]
    rw[this]at e;simp at e) (by omega) (moreL ra) (moreL rb')
  refine⟨u',H',fes',f',g',gl++[pb],last',nd',t',S',[pb],Sa++(Sbb++Sb'), ?_,hc5,adv,hu,r5,w5, ?_,z5,k5,l1,l2,rfl, ?_, ?_,more,by simp⟩
  .have hmn:mn2 (.int .i64 ((0:Nat):Int)) (.int .i64 ((1:Nat):Int))=some (.int .i64 ((0:Nat):Int)):=rfl;have hmx:mx2 (.int .i64 ((0:Nat):Int)) (.int .i64 ((1:Nat):Int))=some (.int .i64 ((1:Nat):Int)):=rfl;have hlss: ¬((1:Nat):Int)< ((0:Nat):Int):=by omega
   have h11:((1:Nat):Int)+((1:Nat):Int)=((0+1+1:Nat):Int):=by omega
   obtain⟨qk,ik,ik'⟩:=hK8.at (i:=0) (by rw[n2];exact hkey);have hnk:nd.keys[0]'(by rw[n2];exact hkey)=t.1[0]:=by simp[n2]
   rw[hnk]at ik';simp(config:= { maxSteps:=2000000}) (disch:=omega) only[f129,eZ,b1,b2,b3,v7 g23 lkl,e4,hthI,JX,qV ch4.gC,(hcells H4 g14).1,i4,i4',b5,e6,qX,nth,e7',t00,(hcells H7 g57).1,i7,i7',e8,hmn,hmx,hlss,h11,v7 g138 lbl,(hcells H8 g58).2,ik,ik',v7 g78 lkl,e9,e10,QL,e5]
  .have e1:t.2.drop (0+1)=t.2[1]::t.2.drop 2:=zX hbl;rw[c5,zDg,e1];simp only[List.take_zero,List.flatMap_nil,List.nil_append,zZ,List.append_assoc,show 0+1+1=2 from rfl]
  .rw[List.perm_iff_count]at pm⊢;intro a;have:=pm a;simp only[List.count_append,List.count_cons]at this⊢;omega
  .rw[List.perm_iff_count];intro a;simp only[List.count_append,List.count_cons,List.count_nil];omega
end Go.Eng.Sh
end
section
set_option maxRecDepth 20000
namespace Go.Bt
open Go.Nd (Str Kvs lookP putP delP leafOf mayK)
open Go.Eng (ltS)
inductive Ed
 | put (k v:Str)
 | del (k:Str)
def Ed.key:Ed->Str
 | .put k _=>k
 | .del k=>k
def Ed.run:Ed->Kvs->Option Kvs
 | .put k v,l=>some (putP k v l)
 | .del k,l=>if(lookP k l).isSome then some (delP k l)else none
def Ed.ok:Ed->Prop
 | .put k v=>mayK k=true/\v.length<=200
 | .del k=>mayK k=true
theorem Ed.run_mid (ed:Ed){A C B:Kvs}(hA: ∀p∈A,ltS p.1 ed.key=true)(hB: ∀p∈B,ltS ed.key p.1=true):ed.run (A++C++B)=(ed.run C).map fun c=>A++c++B:=by
 cases ed with
 | put k v=>simp only[Ed.run,Option.map_some,zFj (k:=k) hA hB]
 | del k=>
  simp only[Ed.run,zCI (k:=k) hA hB,zH4 (k:=k) hA hB];split<;>rfl
theorem Ed.leaf {ed:Ed}{lo hi:Bd}{l l':Kvs}(hw:Lf lo hi l)(hl:zFH lo ed.key)(hh:hiB hi ed.key)(ho:ed.ok)(hr:ed.run l=some l'):Lf lo hi l'/\jH l'<=jH l+242:=by
 cases ed with
 | put k v=>
  simp only[Ed.run,zC]at hr;subst hr;exact zIH hw hl hh ho.1 ho.2
 | del k=>
  simp only[Ed.run]at hr;split at hr
  .simp only[zC]at hr;subst hr;have:=zII k hw;exact⟨this.1,by omega⟩
  .cases hr
end Go.Bt
namespace Go.Eng.Sh
open Go.Nd (Ptr sumL leafOf Kvs)
open Go.Bt
variable {X:Nat->Prop}
def edF (ed:Ed)(K V:Nat):AV:=match ed with
 | .put _ _=> .func 88 [] [.ptr K 0, .ptr V 0]
 | .del _=> .func 83 [] [.ptr K 0]
def edB (H:AH)(ed:Ed)(K V:Nat):Prop:=match ed with
 | .put k v=>Box H K (S k)/\Box H V (S v)
 | .del k=>Box H K (S k)
theorem edB.prs {H H':AH}{ed:Ed}{K V:Nat}(h:edB H ed K V)(hk:H.ok)(s:Prs H H'):edB H' ed K V:=by
 cases ed with
 | put k v=>exact⟨h.1.mono hk s (fun x=>x),h.2.mono hk s (fun x=>x)⟩
 | del k=>exact Box.mono h hk s (fun x=>x)
def edL (ed:Ed)(l:Kvs):Nd.Node×Nat:=match ed.run l with
 | some l'=>(leafOf l',0)
 | none=>(nd0,5)
theorem zJb (m:Nat)(hm:200000000<=m){H:AH}(hk:H.ok){ed:Ed}{K V:Nat}{v:AV}{l:Kvs}{lo hi:Bd}(hv:yK H v (leafOf l))(hw:Lf lo hi l)(hz:jH l<=10000)(ho:ed.ok)(hb:edB H ed K V):
  ∃u H',(match ed with | .put _ _=>f88 (dy m) m [v, .ptr K 0, .ptr V 0] H | .del _=>f83 (dy m) m [v, .ptr K 0] H)=some (.tuple [u, .int .i64 (((edL ed l).2:Nat):Int)],H')/\Prs H H'/\wO H.next H' u (edL ed l).1:=by
 have hsh:Nd.shaped ltS (leafOf l)=true:=Nd.leaf_shaped hw.1 fun p hp=>(hw.2 p hp).2.2
 obtain⟨lv,rfl,lvl,lvc⟩:=hv.cells;obtain⟨H1,A3,b1,p1,g1,m1,n1⟩:=box hk (.cells lv 119 1 false);obtain⟨H2,A4,b2,p2,g2,m2,n2⟩:=box p1.ok (.cells [.bool false, .nilSlice, .nilSlice, .nilSlice] 119 1 false);have P2:=p1.trans p2;have hsm:small (leafOf l):=jY hz;have N1:=p1.next;have N2:=p2.next
 have fin: ∀ {u:AV} {nd:Nd.Node} {H3:AH},Prs H2 H3->wO H2.next H3 u nd-> ∃H4,stN 4 (.ptr A4 0) u H3=some (qZ,H4)/\Prs H H4/\wO H.next H4 u nd/\ldN 4 (.ptr A4 0) H4=some u:=fun {u nd H3} p3 hu=>by
  obtain⟨lu,rfl,lul,luc⟩:=hu.1.cells;obtain⟨H4,e4,g4,s4,n4⟩:=yD p3.ok (Prs.get p3 P2.ok g2) (l':=lu) lul luc;refine⟨H4,e4,(P2.trans p3).fresh s4 (fun B hB=>by omega),⟨hu.1.stp s4 (fun B hB e=> ?_),fun B hB=>by have:=hu.2 B hB;omega⟩,v7 g4 lul⟩;have:=hu.2 B hB;omega
 cases ed with
 | put k x=>
  obtain⟨u,H3,e3,p3,w3⟩:=zIr (dy m) m hm P2.ok (key:=k) (value:=x) (hv.prs P2) hsm;have hpo:zDN (leafOf l) k x=true:=by simp only[zDN,hsh,show(leafOf l).leaf=true from rfl,ho.1,ho.2,Bool.true_and,decide_true]
  rw[hpo]at e3 w3;simp only[if_true,Nd.put_leaf _ _ hw.1]at e3 w3;obtain⟨H4,e4,P4,w4,l4⟩:=fin p3 w3;refine⟨u,H4, ?_,P4,w4⟩;simp(maxSteps:=999999)(disch:=omega) only[f88,eZ,b1,b2,v7 (Prs.get p2 p1.ok g1) lvl,(hb.1.mono hk P2 (fun x=>x)).ld,(hb.2.mono hk P2 (fun x=>x)).ld,e3,qX,nth,e4,l4,edL,Ed.run]
 | del k=>
  obtain⟨u,H3,e3,p3,w3⟩:=zJg (dy m) m hm P2.ok (key:=k) (hv.prs P2) hsm;have hde:zN2 (leafOf l) k=if(Nd.lookP k l).isSome then 0 else 5:=by
   simp only[zN2,hsh,show(leafOf l).leaf=true from rfl,Bool.and_self,if_true,Nd.here_look _ hw.1]
  obtain⟨H4,e4,P4,w4,l4⟩:=fin p3 w3
  cases hs:(Nd.lookP k l).isSome with
  | true=>
   rw[hs]at hde;simp only[if_true]at hde;rw[hde]at e3;simp only[hde,if_true,Nd.del_leaf _ hw.1 ((Nd.here_look _ hw.1).trans hs)]at w4;have hel:edL (.del k) l=(leafOf (Nd.delP k l),0):=by simp only[edL,Ed.run,hs,if_true]
   refine⟨u,H4, ?_,P4,by rw[hel];exact w4⟩;rw[hel];simp(maxSteps:=999999)(disch:=omega) only[f83,eZ,b1,b2,v7 (Prs.get p2 p1.ok g1) lvl,(Box.mono hb hk P2 (fun x=>x)).ld,e3,qX,nth,e4,l4]
  | false=>
   rw[hs]at hde;simp only[Bool.false_eq_true,if_false]at hde;rw[hde]at e3;have h5: ¬(5:Nat)=0:=by decide
   simp only[hde,h5,if_false]at w4;have hel:edL (.del k) l=(nd0,5):=by simp only[edL,Ed.run,hs,Bool.false_eq_true,if_false]
   refine⟨u,H4, ?_,P4,by rw[hel];exact w4⟩;rw[hel];simp(maxSteps:=999999)(disch:=omega) only[f83,eZ,b1,b2,v7 (Prs.get p2 p1.ok g1) lvl,(Box.mono hb hk P2 (fun x=>x)).ld,e3,qX,nth,e4,l4]
theorem zGX (m n:Nat)(hm:200000000<=m){H:AH}(hk:H.ok){ed:Ed}{K V:Nat}{v:AV}{l:Kvs}{lo hi:Bd}(hv:yK H v (leafOf l))(hw:Lf lo hi l)(hz:jH l<=10000)(ho:ed.ok)(hb:edB H ed K V):
  ∃u H',callV [(76,f76 (dy (m+1)) n),(77,f77 (dy (m+1)) n),(79,f79 (dy (m+1)) n),(129,f129 (dy (m+1)) n),(130,f130 (dy (m+1)) n)] (dy (m+1)) (edF ed K V) [v] H=some (.tuple [u, .int .i64 (((edL ed l).2:Nat):Int)],H')/\callV [(127,f127 (dy (m+1)) n),(126,f126 (dy (m+1)) n),(131,f131 (dy (m+1)) n)] (dy (m+1)) (edF ed K V) [v] H=some (.tuple [u, .int .i64 (((edL ed l).2:Nat):Int)],H')/\Prs H H'/\wO H.next H' u (edL ed l).1:=by
 obtain⟨u,H',e,p,w⟩:=zJb m hm hk hv hw hz ho hb;refine⟨u,H', ?_, ?_,p,w⟩
 .cases ed with
  | put k x=>exact e
  | del k=>exact e
 .cases ed with
  | put k x=>exact e
  | del k=>exact e
def zE4 (Bd Bt Be Bk Bf Bc:Nat):AV:= .func 128 [] [.ptr Bd 0, .ptr Bt 0, .ptr Be 0, .ptr Bk 0, .ptr Bf 0, .ptr Bc 0]
structure Cl (H0 H:AH)(At Ac K V:Nat)(ed:Ed)(Bd Bt Be Bk Bf Bc d:Nat):Prop where
 bd:Box H Bd (.int .i64 (d:Nat))
 bt:Box H Bt (.ptr At 0)
 be:Box H Be (edF ed K V)
 bk:Box H Bk (S ed.key)
 bf:Box H Bf (zE4 Bd Bt Be Bk Bf Bc)
 bc:Box H Bc (.ptr Ac 0)
 eb:edB H0 ed K V
 fr:H0.next<=Bd
 n1:Bt≠Bd
 n2:Be≠Bd
 n3:Bk≠Bd
 n4:Bf≠Bd
 n5:Bc≠Bd
theorem _root_.Go.Eng.Box.nchg {H0 H:AH}{At Ac F:Nat}{fes:List (AV×AV)}{f:PN}{g v:AV}{gl:List Ptr}{last0 last A:Nat}(h:Box H A v)(ch:Ch X H0 H At Ac F fes f g gl last0 last): ¬chg Ac F g A:=fun hc=>by
 obtain⟨e,h⟩:=h;rcases hc with rfl | rfl | hc
 .rw[ch.gC]at h;simp at h
 .rw[ch.gF]at h;cases h
 .rw[ch.gg.get hc]at h;simp at h
theorem Cl.keep {H0 H H':AH}{At Ac F K V:Nat}{ed:Ed}{Bd Bt Be Bk Bf Bc d:Nat}{fes:List (AV×AV)}{f:PN}{g:AV}{gl:List Ptr}{last0 last:Nat}(h:Cl H0 H At Ac K V ed Bd Bt Be Bk Bf Bc d)(ch:Ch X H0 H At Ac F fes f g gl last0 last)(s:Stp (chg Ac F g) H H'):Cl H0 H' At Ac K V ed Bd Bt Be Bk Bf Bc d:=
 ⟨h.bd.mono ch.prs.ok s (h.bd.nchg ch),h.bt.mono ch.prs.ok s (h.bt.nchg ch),h.be.mono ch.prs.ok s (h.be.nchg ch),h.bk.mono ch.prs.ok s (h.bk.nchg ch),h.bf.mono ch.prs.ok s (h.bf.nchg ch),h.bc.mono ch.prs.ok s (h.bc.nchg ch),h.eb,h.fr,h.n1,h.n2,h.n3,h.n4,h.n5⟩
theorem Cl.prs {H0 H H':AH}{At Ac K V:Nat}{ed:Ed}{Bd Bt Be Bk Bf Bc d:Nat}(h:Cl H0 H At Ac K V ed Bd Bt Be Bk Bf Bc d)(hk:H.ok)(s:Prs H H'):Cl H0 H' At Ac K V ed Bd Bt Be Bk Bf Bc d:=
 ⟨h.bd.mono hk s (fun x=>x),h.bt.mono hk s (fun x=>x),h.be.mono hk s (fun x=>x),h.bk.mono hk s (fun x=>x),h.bf.mono hk s (fun x=>x),h.bc.mono hk s (fun x=>x),h.eb,h.fr,h.n1,h.n2,h.n3,h.n4,h.n5⟩
theorem Cl.deeper {H0 H:AH}{At Ac F K V:Nat}{ed:Ed}{Bd Bt Be Bk Bf Bc d:Nat}{fes:List (AV×AV)}{f:PN}{g:AV}{gl:List Ptr}{last0 last:Nat}(h:Cl H0 H At Ac K V ed Bd Bt Be Bk Bf Bc d)(ch:Ch X H0 H At Ac F fes f g gl last0 last):
  ∃H',stN 1 (.ptr Bd 0) (.int .i64 ((d+1:Nat):Int)) H=some (qZ,H')/\Cl H0 H' At Ac K V ed Bd Bt Be Bk Bf Bc (d+1)/\Ch X H0 H' At Ac F fes f g gl last0 last/\Stp (fun B=>B=Bd) H H':=by
 obtain⟨H',e,b,s⟩:=h.bd.st ch.prs.ok (x:= .int .i64 ((d+1:Nat):Int)) rfl;have hn:=h.bd.nchg ch;obtain⟨e1,hg⟩:=h.bd;refine⟨H',e,⟨b,h.bt.mono ch.prs.ok s h.n1,h.be.mono ch.prs.ok s h.n2,h.bk.mono ch.prs.ok s h.n3,h.bf.mono ch.prs.ok s h.n4,h.bc.mono ch.prs.ok s h.n5,h.eb,h.fr,h.n1,h.n2,h.n3,h.n4,h.n5⟩, ?_,s⟩;exact ch.other s (fun e=>hn (.inl e.symm)) (fun e=>hn (.inr (.inl e.symm))) (fun B hB e=>hn (.inr (.inr (e▸hB)))) (fun kv hkv B hB e=>by
  subst e;obtain⟨nd2,hn2⟩:=ch.pf.mem kv hkv;exact hn2.nblk hg (.inl ⟨_,_,_,_,rfl,fun _ _ e=>by cases e⟩) hB) (fun B hB=>by rw[hB];exact h.fr)
end Go.Eng.Sh
end
section
set_option maxRecDepth 20000
namespace Go.Eng.Sh
open Go.Nd (Ptr sumL leafOf Kvs)
open Go.Bt
variable {E:Ev}{X:Nat->Prop}
theorem vB {nd:Nd.Node}{ks:List Str}(hl:nd.leaf=false)(hk:nd.keys=ks)(key:Str):Nd.whereN nd key=jC ks key:=by
 simp only[Nd.whereN,jC,hl,hk,Bool.not_false,Bool.true_and]
theorem d9: ∀ {n last:Nat} {p:Ptr},p∈pps last n-> ∃j,p=pp j/\last<j/\j<=last+n
 | 0,_,_,h=>by simp[pps]at h
 | n+1,last,p,h=>by
  rcases List.mem_cons.1 h with rfl | h
  .exact⟨last+1,rfl,by omega,by omega⟩
  .obtain⟨j,e,h1,h2⟩:=d9 h;exact⟨j,e,by omega,by omega⟩
theorem J5: ∀(n last:Nat),(pps last n).Nodup
 | 0,_=>by simp[pps]
 | n+1,last=>by
  rw[pps,List.nodup_cons];refine⟨fun h=> ?_,J5 n (last+1)⟩;obtain⟨j,e,h1,_⟩:=d9 h;have:=QC e;omega
def zMK (E:Ev)(X:Nat->Prop)(H0 H H':AH)(At Ac F K V:Nat)(ed:Ed)(B1 B2 B3 B4 B5 B6 d:Nat)(q:PN)(f:PN)(g g':AV)(gl:List Ptr)(last0 last:Nat)(h:Nat)(lo hi:Bd)(t:Bt.Tr h)(S:List Ptr)(p:Ptr)(u:AV)(c':Kvs):Prop:=
 ∃fes' f' gl' last' d' nd' S' G R Fr,∃t':Bt.Tr h,Ch X H0 H' At Ac F fes' f' g' gl' last0 last'/\Cl H0 H' At Ac K V ed B1 B2 B3 B4 B5 B6 d'/\kF X H' g' u nd'/\jB (Qf E q f') h nd' t' S'/\WX h lo hi t'/\con h t'=c'/\(0<h->KQ h t<=KQ h t'+1)/\gl'=gl++G/\G.length<=2*(h+1)/\
  last<=last'/\last'<=last+6*h/\d'<=d+h+1/\S'.Perm (Fr++R)/\(p::S).Perm (G++R)/\Fr.Nodup/\(∀p∈Fr,∃j,p=pp j/\last<j/\j<=last')/\(∀p nd,Qf E q f p=some nd->Qf E q f' p=some nd)/\ ∀B,Blk g' B->Blk g B\/H.next<=B
theorem zEt (D:Dyn)(n:Nat){H0 H:AH}{At Ac F K V:Nat}{ed:Ed}{B1 B2 B3 B4 B5 B6 d A7 A8 A10 e7:Nat}{fes:List (AV×AV)}{f:PN}{g:AV}{gl:List Ptr}{last0 last:Nat}{lu:List AV}{nd:Nd.Node}{p:Ptr}
  (ch:Ch X H0 H At Ac F fes f g gl last0 last) (cl:Cl H0 H At Ac K V ed B1 B2 B3 B4 B5 B6 d) (g7:H.h.get A7=some (.cells (y7 p) e7 1 false)) (g8:H.h.get A8=some (.cells [.bool false, .nilSlice, .nilSlice, .nilSlice] 119 1 false)) (g10:H.h.get A10=some (.cells lu 119 1 false))
  (hu:kF X H g (.agg lu) nd) (h8:H0.next<=A8) (h8c:A8≠Ac) (h7c:A7≠Ac) (h10c:A10≠Ac) (hl:gl.length+1<=last+1000) (hb:last<=900000000):
  ∃g' H',bT D n [.ptr B6 0, .ptr A7 0, .ptr A8 0, .ptr A10 0, .int .i64 ((0:Nat):Int)] H=some (.ret (.tuple [.agg lu, .int .i64 ((0:Nat):Int)]),H')/\Ch X H0 H' At Ac F fes f g' (gl++[p]) last0 last/\Cl H0 H' At Ac K V ed B1 B2 B3 B4 B5 B6 d/\kF X H' g' (.agg lu) nd/\
   Stp (fun B=>chg Ac F g B\/B=A8) H H'/\ ∀B,Blk g' B->Blk g B\/H.next<=B:=by
 obtain⟨lul,luc⟩:lu.length=4/\qY lu=true:=by
  obtain⟨_,_,a,b⟩:=u9 hu.1;exact⟨a,b⟩
 obtain⟨g',H1,e1,ch1,a1⟩:=zG1 D n ch p hl hb;have np: ∀ {A:Nat} {l:List AV} {e:Nat},H.h.get A=some (.cells l e 1 false)->A≠Ac-> ¬chg Ac F g A:=fun {A l e} hg hne hc=>by
  rcases hc with e | e | e
  .exact hne e
  .rw[e,ch.gF]at hg;cases hg
  .rw[ch.gg.get e]at hg;simp at hg
 have lt: ∀ {A:Nat} {l:List AV} {e:Nat},H.h.get A=some (.cells l e 1 false)->A<H.next:=fun hg=>ch.prs.ok.lt hg
 have g81:H1.h.get A8=some (.cells [.bool false, .nilSlice, .nilSlice, .nilSlice] 119 1 false):=by rw[a1.1.keep _ (lt g8) (np g8 h8c)];exact g8
 have g101:H1.h.get A10=some (.cells lu 119 1 false):=by rw[a1.1.keep _ (lt g10) (np g10 h10c)];exact g10
 have hu1:=ch.next hu a1
 have cl1:=cl.keep ch a1.1;obtain⟨H2,e2,g82,s2,n2⟩:=yD ch1.prs.ok g81 (l':=lu) lul luc;have e2':stN 4 (.ptr A8 0) (.agg lu) H1=some (qZ,H2):=e2;have ch2:=ch1.stb g81 s2 h8 h8c;have nb: ∀ {A:Nat} {x:AV},Box H1 A x->(∀b,x≠ .bool b)->A≠A8:=fun {A x} hb hx e=>by
  obtain⟨_,hb⟩:=hb;rw[e,g81]at hb;simp at hb
 have cl2:Cl H0 H2 At Ac K V ed B1 B2 B3 B4 B5 B6 d:=by
  have m: ∀ {A:Nat} {x:AV},Box H1 A x->Box H2 A x:=fun {A x} hb=>hb.mono ch1.prs.ok s2 (fun e=>by
   obtain⟨_,hb⟩:=hb;rw[e,g81]at hb;simp at hb)
  exact⟨m cl1.bd,m cl1.bt,m cl1.be,m cl1.bk,m cl1.bf,m cl1.bc,cl1.eb,cl1.fr,cl1.n1,cl1.n2,cl1.n3,cl1.n4,cl1.n5⟩
 refine⟨g',H2, ?_,ch2,cl2,hu1.stb g81 s2,(a1.1.mono fun _ _ x=> .inl x).trans (s2.mono fun _ _ x=> .inr x),a1.2⟩;have t00: ¬(((0:Nat):Int)≠((0:Nat):Int)):=by omega
 simp(maxSteps:=999999)(disch:=omega) only[bT,eZ,t00,cl.bc.ld,y6 g7,zKY,Option.map_some,e1,v7 g101 lul,e2',v7 g82 lul]
theorem zEu (D:Dyn)(n:Nat){H:AH}{A8 B6 e:Nat}(x y:AV)(hk:H.ok)(g8:H.h.get A8=some (.cells [.bool false, .nilSlice, .nilSlice, .nilSlice] 119 1 false))(he:e≠0):
  ∃H',bT D n [.ptr B6 0,x, .ptr A8 0,y, .int .i64 (e:Nat)] H=some (.ret (.tuple [.agg [.bool false, .nilSlice, .nilSlice, .nilSlice], .int .i64 (e:Nat)]),H')/\Stp (fun B=>B=A8) H H':=by
 obtain⟨H2,e2,g82,s2,n2⟩:=yD hk g8 (l':=[.bool false, .nilSlice, .nilSlice, .nilSlice]) rfl rfl;have e2':stN 4 (.ptr A8 0) (.agg [.bool false, .nilSlice, .nilSlice, .nilSlice]) H=some (qZ,H2):=e2;refine⟨H2, ?_,s2⟩;have t00:((e:Nat):Int)≠((0:Nat):Int):=by omega
 simp(maxSteps:=999999)(disch:=omega) only[bT,eZ,t00,ne_eq,not_false_eq_true,dT,e2',v7 g82 rfl]
theorem zJs (M n B1 B2 B3 B4 B5 B6:Nat)(x:AV)(H:AH):callV [(76,f76 (dy (M+1)) n),(77,f77 (dy (M+1)) n),(79,f79 (dy (M+1)) n),(129,f129 (dy (M+1)) n),(130,f130 (dy (M+1)) n)] (dy (M+1)) (zE4 B1 B2 B3 B4 B5 B6) [x] H=f128 (dy M) M [x, .ptr B1 0, .ptr B2 0, .ptr B3 0, .ptr B4 0, .ptr B5 0, .ptr B6 0] H:=rfl
noncomputable def zMj (D:Dyn)(n:Nat)(x3 x4 x5 x6 x7 x8 x10:AV)(H:AH):Rs:=
 bV (fAd 0 x10) fun x31=>
 bV (ld1 x31 H) fun x32=>
 jn (cnd x32 (bV (ld1 x3 H) fun x34=>
 bV (ldN 4 x10 H) fun x35=>
 bR (callV [(76,f76 D n),(77,f77 D n),(79,f79 D n),(129,f129 D n),(130,f130 D n)] D x34 [x35] H) fun x36 H=>
 bV (qX x36 0) fun x37=>
 bV (qX x36 1) fun x38=>
 bR (stN 4 x10 x37 H) fun _ H=>
 some (.norm [x6,x7,x8,x10,x38],H))
 (bV (ldN 4 x10 H) fun x39=>
 bV (ld1 x4 H) fun x40=>
 bR (f79 D n [x39,x40] H) fun x41 H=>
 bA (bxV 119 (.agg [(.bool false), .nilSlice, .nilSlice, .nilSlice])) H fun x13 H=>
 bV (ld1 x5 H) fun x43=>
 bV (fAd 3 x10) fun x44=>
 bV (ld1 x44 H) fun x45=>
 bV (dK 3 x45 x41) fun x47=>
 bV (ldN 3 x47 H) fun x48=>
 bR (callV [(76,f76 D n),(77,f77 D n),(79,f79 D n),(129,f129 D n),(130,f130 D n)] D x43 [x48] H) fun x49 H=>
 bV (qX x49 0) fun x50=>
 bV (qX x49 1) fun x51=>
 bR (stN 4 x13 x50 H) fun _ H=>
 bV (jJ .eql x51 (.int .i64 (.ofNat 0))) fun x53=>
 jn (cnd x53 (bV (ld1 x6 H) fun x55=>
 bV (ldN 4 x10 H) fun x56=>
 bV (ldN 4 x13 H) fun x58=>
 bR (f129 D n [x55,x56,x41,x58] H) fun x59 H=>
 bV (qX x59 0) fun x60=>
 bV (qX x59 1) fun x61=>
 bR (stN 4 x10 x60 H) fun _ H=>
 some (.norm [x6,x7,x8,x10,x61],H))
 (some (.norm [x6,x7,x8,x10,x51],H))) (aI D n))) (bT D n)
theorem zAI (m9 n:Nat)(hn:200000000<=n){H0 H:AH}{At Ac F M0 K V:Nat}{ed:Ed}{B1 B2 B3 B4 B5 B6 d:Nat}{p0:Ptr}{dk cch dr:AV}{root:Ptr}{es:List (AV×AV)}{q fr:PN}{fes:List (AV×AV)}{g:AV}{gl:List Ptr}{last0 last:Nat}{nd:Nd.Node}(ti:TI E H0 At M0 dk cch root es q last0 dr)(hold: ∀kv∈es,∀B,wN kv.2 B->B<H0.next)(hxs: ∀kv∈es,∀B,wN kv.2 B-> ¬X B)
  (ch:Ch X H0 H At Ac F fes fr g gl last0 last) (cl:Cl H0 H At Ac K V ed B1 B2 B3 B4 B5 B6 d) (hs:Qf E q [] p0=some nd) (hd:d+1<=8192):
  ∃lv A7 A8 A10 H6,f128 (dy (m9+1)) n [.agg (y7 p0), .ptr B1 0, .ptr B2 0, .ptr B3 0, .ptr B4 0, .ptr B5 0, .ptr B6 0] H=fF (zMj (dy (m9+1)) n (.ptr B3 0) (.ptr B4 0) (.ptr B5 0) (.ptr B6 0) (.ptr A7 0) (.ptr A8 0) (.ptr A10 0) H6)/\
   Ch X H0 H6 At Ac F fes fr g gl last0 last/\Cl H0 H6 At Ac K V ed B1 B2 B3 B4 B5 B6 (d+1)/\kF X H6 g (.agg lv) nd/\(∃r,lv= .bool nd.leaf::r/\lv.length=4/\qY lv=true)/\
   H6.h.get A7=some (.cells (y7 p0) 42 1 false)/\H6.h.get A8=some (.cells [.bool false, .nilSlice, .nilSlice, .nilSlice] 119 1 false)/\H6.h.get A10=some (.cells lv 119 1 false)/\
   H.next<=A7/\H.next<=A8/\H.next<=A10/\A7≠A8/\A7≠A10/\A8≠A10/\Stp (fun B=>B=B1) H H6:=by
 obtain⟨H1,A7,b1,p1,g1,m1,n1⟩:=box ch.prs.ok (.cells (y7 p0) 42 1 false);obtain⟨H2,A8,b2,p2,g2,m2,n2⟩:=box p1.ok (.cells [.bool false, .nilSlice, .nilSlice, .nilSlice] 119 1 false);have P2:=p1.trans p2;have ch2:=ch.step P2;have cl2:=cl.prs ch.prs.ok P2;obtain⟨H3,e3,cl3,ch3,s3⟩:=cl2.deeper ch2;have ti3:=ti.prs ch3.prs;have hmost:=zBx (dy (m9+1)) n ti3;have N1:=p1.next;have N2:=p2.next;have N3:=s3.next
 have hB1:B1<H.next:=cl.bd.lt ch.prs.ok
 have g73:H3.h.get A7=some (.cells (y7 p0) 42 1 false):=by rw[s3.keep _ (by omega) (by omega)];exact Prs.get p2 p1.ok g1
 have g83:H3.h.get A8=some (.cells [.bool false, .nilSlice, .nilSlice, .nilSlice] 119 1 false):=by rw[s3.keep _ (by omega) (by omega)];exact g2
 obtain⟨v,H4,e4,p4,hg4,hmem⟩:=VF m9 n hn ti3 hs;obtain⟨lv,rfl,lvl,lvc⟩:=hg4.cells;obtain⟨H5,A10,b5,p5,g5,m5,n5⟩:=box p4.ok (.cells [.bool false, .nilSlice, .nilSlice, .nilSlice] 119 1 false);obtain⟨H6,e6,g6,s6,n6⟩:=yD p5.ok g5 (l':=lv) lvl lvc;have e6':stN 4 (.ptr A10 0) (.agg lv) H5=some (qZ,H6):=e6;have N4:=p4.next;have N5:=p5.next
 have p36:Prs H3 H6:=(p4.trans p5).fresh s6 (fun B hB=>by omega);have ch6:=ch3.step p36;have hg6:yK H6 (.agg lv) nd:=(hg4.prs p5).stp s6 (fun B hB e=>by
  subst e;have:=hg4.lt hB;omega)
 have hA6:kF X H6 g (.agg lv) nd:=by
  rcases hmem with⟨kk,hmem⟩ | hfr
  .exact hg6.hand ch6 (fun B hB=>hold _ hmem B hB) (hxs _ hmem)
  .refine⟨hg6,fun B hB=>⟨fun hg=> ?_,fun hx=> ?_⟩⟩
   .have h1:=hfr B hB;have h2:=Rw.blk ch3.gg.row hg;omega
   .have h1:=hfr B hB;have h2:=ch.xo B hx;have h3:=ch3.prs.next
    omega
 obtain⟨r,hr1,hr2,hr3⟩:=u9 hg6;refine⟨lv,A7,A8,A10,H6, ?_,ch6,cl3.prs ch3.prs.ok p36,hA6,⟨r,hr1,hr2,hr3⟩,Prs.get p36 ch3.prs.ok g73,Prs.get p36 ch3.prs.ok g83,g6,by omega,by omega,by omega,by omega,by omega,by omega,((P2.mono fun _ _ x=>x.elim).trans s3).trans (p36.mono fun _ _ x=>x.elim)⟩;have hd1:((d:Nat):Int)+((1:Nat):Int)=((d+1:Nat):Int):=by omega
 have hgt: ¬((8192+q.length:Nat):Int)< ((d+1:Nat):Int):=by omega
 have hav:aveq (.int .i64 ((d+1:Nat):Int)) (.int .i64 ((d+1:Nat):Int))=true:=by
  have:keq .i64 .i64=true:=by rw[kK];simp
  simp only[aveq,this,Bool.true_and,kL];simp
 have t00: ¬(((0:Nat):Int)≠((0:Nat):Int)):=by omega
 simp(maxSteps:=999999)(disch:=omega) only[f128,vY,zCG,bVs,bRs,show ∀(e:TypeId) (l:List AV),bxV e (.agg l)=some (.cells l e 1 false,fun A=> .ptr A 0)from fun _ _=>rfl,b1,b2,cl2.bd.ld,YF,wrap_i64,Int.ofNat_eq_natCast,hd1,e3,cl3.bd.ld,cl3.bt.ld,hmost,(fun K=>yV rfl hav: ∀K:Rs,chk (some (AV.int .i64 ((d+1:Nat):Int))) (.int .i64 ((d+1:Nat):Int)) K=K),zDr,hgt,decide_false,zE7,Bool.false_eq_true,if_false,y6 g73,zKY,Option.map_some,e4,qX,nth,b5,e6',zDo,t00];rfl
theorem Cl.stb {H0 H H':AH}{At Ac K V A e:Nat}{ed:Ed}{B1 B2 B3 B4 B5 B6 d:Nat}{l:List AV}(h:Cl H0 H At Ac K V ed B1 B2 B3 B4 B5 B6 d)(hk:H.ok)(gA:H.h.get A=some (.cells l e 1 false))(hl:l.length=4)(s:Stp (fun B=>B=A) H H'):Cl H0 H' At Ac K V ed B1 B2 B3 B4 B5 B6 d:=by
 have m: ∀ {B:Nat} {x:AV},Box H B x->Box H' B x:=fun {B x} hb=>hb.mono hk s (fun e=>by
  obtain⟨_,hb⟩:=hb;rw[e,gA]at hb;simp only[zC,AObj.cells.injEq]at hb;rw[hb.1]at hl;simp at hl)
 exact⟨m h.bd,m h.bt,m h.be,m h.bk,m h.bf,m h.bc,h.eb,h.fr,h.n1,h.n2,h.n3,h.n4,h.n5⟩
theorem zMi {H0:AH}{At Ac F M0 K V:Nat}{ed:Ed}{B1 B2 B3 B4 B5 B6:Nat}{dk cch dr:AV}{root:Ptr}{es:List (AV×AV)}{q:PN}{last0:Nat}(ti:TI E H0 At M0 dk cch root es q last0 dr)(hold: ∀kv∈es,∀B,wN kv.2 B->B<H0.next)(hxs: ∀kv∈es,∀B,wN kv.2 B-> ¬X B)(hq: ∀s nd,yA s q=some nd->s<=last0)(ho:ed.ok):
  ∀(h M n:Nat),200000000+h<=M->200000000<=n-> ∀ {H:AH} {d last:Nat} {p0:Ptr} {fes:List (AV×AV)} {f:PN} {g:AV} {gl:List Ptr} {nd:Nd.Node} {t:Bt.Tr h} {S:List Ptr} {lo hi:Bd},
   Ch X H0 H At Ac F fes f g gl last0 last->Cl H0 H At Ac K V ed B1 B2 B3 B4 B5 B6 d->Qf E q [] p0=some nd->jB (Qf E q []) h nd t S->Gen h lo hi t->jD h t<=500->(0<h->nd.keys≠[])->zFH lo ed.key->hiB hi ed.key->d+h+1<=8192->last+6*h<=600000000->gl.length+2*(h+1)<=last+1000->
   ∃u e g' H',f128 (dy (M+1)) n [.agg (y7 p0), .ptr B1 0, .ptr B2 0, .ptr B3 0, .ptr B4 0, .ptr B5 0, .ptr B6 0] H=some (.tuple [u, .int .i64 ((e:Nat):Int)],H')/\Stp (fun B=>chg Ac F g B\/B=B1) H H'/\(∃l,u= .agg l/\l.length=4/\qY l=true)/\
    match ed.run (con h t)with
    | none=>e=5
    | some c'=>e=0/\zMK E X H0 H H' At Ac F K V ed B1 B2 B3 B4 B5 B6 d q f g g' gl last0 last h lo hi t S p0 u c':=by
 intro h
 induction h with
 | zero=>
  intro M n hM hn H d last p0 fes f g gl nd t S lo hi ch cl hs rn wg hz _ hlo hhi hd hb hgl;obtain⟨rfl,rfl⟩:=rn;obtain⟨lv,A7,A8,A10,H6,e6,ch6,cl6,hA6,⟨r,hr1,hr2,hr3⟩,g7,g8,g10,m7,m8,m10,n78,n710,n810,st6⟩:=zAI M n hn ti hold hxs ch cl hs (by omega);have N0:=ch.prs.next;have hAc:=ch.ltC;have N6:=st6.next
  have hz':jH (t:Kvs)<=10000:=by simp only[jD]at hz;omega
  obtain⟨u,H7,e7,_,p7,w7⟩:=zGX M n (by omega) ch6.prs.ok hA6.1 wg hz' ho (cl6.eb.prs ti.ok ch6.prs);obtain⟨lu,rfl,lul,luc⟩:=w7.1.cells;have ch7:=ch6.step p7;have cl7:=cl6.prs ch6.prs.ok p7;have g107:=Prs.get p7 ch6.prs.ok g10;obtain⟨H8,e8,g108,s8,n8⟩:=yD p7.ok g107 (l':=lu) (by omega) luc;have e8':stN 4 (.ptr A10 0) (.agg lu) H7=some (qZ,H8):=by rw[hr2]at e8;exact e8
  have cl8:=cl7.stb p7.ok g107 hr2 s8;have hu7:kF X H7 g (.agg lu) (edL ed t).1:=wO.hand ch6 (Nat.le_refl _) w7;rw[hr1]at g107;have ch8:=ch7.stb g107 s8 (by omega) (by omega);have hu8:=hu7.stb g107 s8;have N7:=p7.next;have N8:=s8.next
  have g78:H8.h.get A7=some (.cells (y7 p0) 42 1 false):=by rw[s8.keep _ (by have:=ch6.prs.ok.lt g7;omega) (by omega)];exact Prs.get p7 ch6.prs.ok g7
  have g88:H8.h.get A8=some (.cells [.bool false, .nilSlice, .nilSlice, .nilSlice] 119 1 false):=by rw[s8.keep _ (by have:=ch6.prs.ok.lt g8;omega) (by omega)];exact Prs.get p7 ch6.prs.ok g8
  have S8:Stp (fun B=>chg Ac F g B\/B=B1) H H8:=⟨s8.ok,by omega,fun B hB hS=>by
   rw[s8.keep B (by omega) (by omega),p7.keep B (by omega) (fun x=>x),st6.keep B hB (fun e=>hS (.inr e))]⟩
  have t00: ¬(((0:Nat):Int)≠((0:Nat):Int)):=by omega
  have hlf:(leafOf (t:Kvs)).leaf=true:=rfl;have run: ∀ {x:Option (AV×AH)} {code:Nat},(edL ed t).2=code->fF (bT (dy (M+1)) n [.ptr B6 0, .ptr A7 0, .ptr A8 0, .ptr A10 0, .int .i64 ((code:Nat):Int)] H8)=x->f128 (dy (M+1)) n [.agg (y7 p0), .ptr B1 0, .ptr B2 0, .ptr B3 0, .ptr B4 0, .ptr B5 0, .ptr B6 0] H=x:=by
   intro x code hc hx;rw[hc]at e7;rw[e6];simp(maxSteps:=999999)(disch:=omega) only[zMj,eZ,qV g10,hr1,hlf,cl6.be.ld];simp(maxSteps:=999999)(disch:=omega) only[eZ,v7 g10 hr2,e7,qX,nth,e8'];exact hx
  cases hr:ed.run t with
  | none=>
   have hel:edL ed t=(nd0,5):=by simp only[edL,hr]
   obtain⟨H9,e9,s9⟩:=zEu (dy (M+1)) n (B6:=B6) (.ptr A7 0) (.ptr A10 0) ch8.prs.ok g88 (e:=5) (by decide);refine⟨.agg [.bool false, .nilSlice, .nilSlice, .nilSlice],5,g,H9,run (by rw[hel]) (by rw[e9];rfl),⟨s9.ok,by have:=s9.next;omega,fun B hB hS=>by rw[s9.keep B (by omega) (by omega)];exact S8.keep B hB hS⟩,⟨_,rfl,rfl,rfl⟩, ?_⟩
   simp only[con,hr]
  | some l'=>
   have hel:edL ed t=(leafOf l',0):=by simp only[edL,hr]
   rw[hel]at hu8;obtain⟨g',H9,e9,ch9,cl9,hu9,s9,b9⟩:=zEt (dy (M+1)) n ch8 cl8 g78 g88 g108 hu8 (by omega) (by omega) (by omega) (by omega) (by omega) (by omega);obtain⟨w1,w2⟩:=Ed.leaf wg hlo hhi ho hr;refine⟨.agg lu,0,g',H9,run (by rw[hel]) (by rw[e9];rfl),⟨s9.ok,by have:=s9.next;omega,fun B hB hS=> ?_⟩,⟨_,rfl,lul,luc⟩, ?_⟩
   .rw[s9.keep B (by omega) (fun hx=>by
     rcases hx with hx | hx
     .exact hS (.inl hx)
     .omega)]
    exact S8.keep B hB hS
   .simp only[con,hr];refine⟨trivial,_,_,_,_,_,_,[],[p0],[],[],l',ch9,cl9,hu9,⟨rfl,rfl⟩,⟨w1,by simp only[jD]at hz;omega⟩,rfl,fun hh=>absurd hh (by omega),rfl,by simp,by omega,by omega,by omega,by simp,by simp,by simp,by simp,fun _ _ hp=>hp,fun B hB=> ?_⟩;rcases b9 B hB with e | e
    .exact .inl e
    .exact .inr (by omega)
 | succ h ih=>
  intro M n hM hn H d last p0 fes f g gl nd t S lo hi ch cl hs rn wg hz hne hlo hhi hd hb hgl;obtain⟨r1,r2,r3,r4⟩:=rn;obtain⟨w1,w2,w3⟩:=id wg;have hlen:=w3.len;have hklen:=r4.len;obtain⟨lv,A7,A8,A10,H6,e6,ch6,cl6,hA6,⟨r,hr1,hr2,hr3⟩,g7,g8,g10,m7,m8,m10,n78,n710,n810,st6⟩:=zAI M n hn ti hold hxs ch cl hs (by omega);have N0:=ch.prs.next;have hAc:=ch.ltC;have N6:=st6.next
  have hz0:jL t.1 t.2.length<=500:=hz;have hsm:small nd:=jY (by
   have:Nd.size nd=jD (h+1) t:=jB.size (Q:=Qf E q []) (S:=S) ⟨r1,r2,r3,r4⟩;rw[this];simp only[jD];omega)
  have hwN:Nd.whereN nd ed.key=jC t.1 ed.key:=vB r1 r2 _;have hile:jC t.1 ed.key<=t.1.length:=cG _ _;have hil:jC t.1 ed.key<t.2.length:=by omega
  obtain⟨sA,sB⟩:=fY (key:=ed.key) (ks:=t.1) (ts:=t.2) wg;have klo:=XV (lo:=lo) w2 hlo;have khi:=XW (hi:=hi) w2 hhi;generalize hidef:jC t.1 ed.key=i at hwN hile hil sA sB klo khi;have htk:=zG hil;obtain⟨pk,ndk,Sa,Si,Sb,k1,k2,k3,k4,k5,k6⟩:=r4.at htk;have hsk:=k2;have wk:=KB.at w3 htk;have kne:0<h->ndk.keys≠[]:=fun hh=>by
   cases h with
   | zero=>omega
   | succ h=>
    have:=cS wk;rw[k3.2.1];intro e;rw[e]at this;simp at this
  obtain⟨H7,e7,p7⟩:=cE (dy (M+1)) n hn ch6.prs.ok (key:=ed.key) hA6.1.node hsm;rw[hwN]at e7;obtain⟨H8,A13,b8,p8,g13,m13,n13⟩:=box p7.ok (.cells [.bool false, .nilSlice, .nilSlice, .nilSlice] 119 1 false);have P68:=p7.trans p8;have ch8:=ch6.step P68;have cl8:=cl6.prs ch6.prs.ok P68;have cl7:=cl6.prs ch6.prs.ok p7;have hA8:=hA6.prs P68;have g78:=Prs.get P68 ch6.prs.ok g7;have g88:=Prs.get P68 ch6.prs.ok g8;have g108:=Prs.get P68 ch6.prs.ok g10;obtain⟨ks,vs0,ps,hle,j1,j2,j3⟩:=id hA8.1;simp only[AV.agg.injEq]at hle;obtain⟨qk,ik,ik'⟩:=xV.at (l:=nd.kids) j3.row (i:=i) (by omega);have hkk:nd.kids[i]'(by omega)=pk:=by
   rw[zG (by omega)]at k1;exact Option.some.inj k1
  rw[hkk]at ik';have N7:=p7.next;have N8:=p8.next
  obtain⟨M',rfl⟩: ∃M',M=M'+1:=⟨M - 1,by omega⟩;obtain⟨u1,e1,g1,H9,e9,s9,⟨l1,rfl,l1l,l1c⟩,hout⟩:=ih M' (M'+1) (by omega) (by omega) ch8 cl8 hsk k3 wk.gen wk.sz kne klo khi (by omega) (by omega) (by omega);have ltA: ∀ {A:Nat} {o:AObj},H8.h.get A=some o->A<H8.next:=fun hg=>ch8.prs.ok.lt hg
  have np: ∀ {A:Nat} {l:List AV} {e:Nat},H8.h.get A=some (.cells l e 1 false)->l.length≠1->A≠Ac-> ¬(chg Ac F g A\/A=B1):=fun {A l e} hg hl hne hc=>by
   rcases hc with(e | e | e) | e
   .exact hne e
   .rw[e,ch8.gF]at hg;cases hg
   .rw[ch8.gg.get e]at hg;simp at hg
   .obtain⟨_,hb⟩:=cl8.bd;rw[e,hb]at hg;simp only[zC,AObj.cells.injEq]at hg;rw[<-hg.1]at hl;simp at hl
  have l10:lv.length≠1:=by omega
  have g79:H9.h.get A7=some (.cells (y7 p0) 42 1 false):=by rw[s9.keep _ (ltA g78) (np g78 (by simp[y7]) (by omega))];exact g78
  have g89:H9.h.get A8=some (.cells [.bool false, .nilSlice, .nilSlice, .nilSlice] 119 1 false):=by rw[s9.keep _ (ltA g88) (np g88 (by simp) (by omega))];exact g88
  have g109:H9.h.get A10=some (.cells lv 119 1 false):=by rw[s9.keep _ (ltA g108) (np g108 l10 (by omega))];exact g108
  have g139:H9.h.get A13=some (.cells [.bool false, .nilSlice, .nilSlice, .nilSlice] 119 1 false):=by rw[s9.keep _ n13 (np g13 (by simp) (by omega))];exact g13
  obtain⟨H10,e10,g1310,s10,n10⟩:=yD s9.ok g139 (l':=l1) l1l l1c;have e10':stN 4 (.ptr A13 0) (.agg l1) H9=some (qZ,H10):=e10;have N9:=s9.next;have N10:=s10.next
  have t7:=ltA g78;have t8:=ltA g88;have t10:=ltA g108;have a13:ch6.prs.ok.lt g7=ch6.prs.ok.lt g7:=rfl;have u7:=ch6.prs.ok.lt g7;have u8:=ch6.prs.ok.lt g8;have u10:=ch6.prs.ok.lt g10;have g710:H10.h.get A7=some (.cells (y7 p0) 42 1 false):=by rw[s10.keep _ (by omega) (by omega)];exact g79
  have g810:H10.h.get A8=some (.cells [.bool false, .nilSlice, .nilSlice, .nilSlice] 119 1 false):=by rw[s10.keep _ (by omega) (by omega)];exact g89
  have g1010:H10.h.get A10=some (.cells lv 119 1 false):=by rw[s10.keep _ (by omega) (by omega)];exact g109
  have S10:Stp (fun B=>chg Ac F g B\/B=B1) H H10:=⟨s10.ok,by omega,fun B hB hS=>by
   rw[s10.keep B (by omega) (by omega),s9.keep B (by omega) hS,P68.keep B (by omega) (fun x=>x),st6.keep B hB (fun e=>hS (.inr e))]⟩
  have hrun:=Ed.run_mid ed (A:=(t.2.take i).flatMap (con h)) (C:=con h t.2[i]) (B:=(t.2.drop (i+1)).flatMap (con h)) sA sB;have hcon:con (h+1) t=(t.2.take i).flatMap (con h)++con h t.2[i]++(t.2.drop (i+1)).flatMap (con h):=by
   have:t.2=t.2.take i++[t.2[i]]++t.2.drop (i+1):=V6 htk;simp only[con]
   conv=>lhs;rw[this]
   simp only[qL,zZ,List.flatMap_nil,List.append_nil]
  rw[<-hcon]at hrun;have t00: ¬(((0:Nat):Int)≠((0:Nat):Int)):=by omega
  have hps:lv=[.bool nd.leaf,ks,vs0,ps]:=hle;have head: ∀ {x:Option (AV×AH)},fF (jn (bV (jJ .eql (.int .i64 ((e1:Nat):Int)) (.int .i64 (.ofNat 0))) fun x53=>jn (cnd x53 (bV (ld1 (.ptr B6 0) H10) fun x55=>bV (ldN 4 (.ptr A10 0) H10) fun x56=>bV (ldN 4 (.ptr A13 0) H10) fun x58=>bR (f129 (dy (M'+1+1)) n [x55,x56, .int .i64 (i:Nat),x58] H10) fun x59 H=>
    bV (qX x59 0) fun x60=>bV (qX x59 1) fun x61=>bR (stN 4 (.ptr A10 0) x60 H) fun _ H=>some (.norm [.ptr B6 0, .ptr A7 0, .ptr A8 0, .ptr A10 0,x61],H)) (some (.norm [.ptr B6 0, .ptr A7 0, .ptr A8 0, .ptr A10 0, .int .i64 ((e1:Nat):Int)],H10))) (aI (dy (M'+1+1)) n)) (bT (dy (M'+1+1)) n))=x->
    f128 (dy (M'+1+1)) n [.agg (y7 p0), .ptr B1 0, .ptr B2 0, .ptr B3 0, .ptr B4 0, .ptr B5 0, .ptr B6 0] H=x:=by
   intro x hx;rw[e6,<-hx];have h0:ld1 (.ptr A10 0) H6=some (.bool false):=by rw[qV g10,hps,r1];rfl
   have h3:ld1 (.ptr A10 3) H8=some ps:=by rw[qV g108,hps];rfl
   simp(maxSteps:=999999)(disch:=omega) only[zMj,eZ,h0,v7 g10 hr2,cl6.bk.ld,e7,b8,cl8.bf.ld,h3,ik,ik',zJs,e9,qX,nth,e10']
  cases hr:ed.run (con h t.2[i])with
  | none=>
   rw[hr]at hout hrun;simp only[Option.map_none]at hrun;have hout:e1=5:=hout;subst hout;obtain⟨H11,e11,s11⟩:=zEu (dy (M'+1+1)) n (B6:=B6) (.ptr A7 0) (.ptr A10 0) s10.ok g810 (e:=5) (by decide);have h50: ¬((5:Nat):Int)=((0:Nat):Int):=by omega
   refine⟨.agg [.bool false, .nilSlice, .nilSlice, .nilSlice],5,g,H11,head ?_,⟨s11.ok,by have:=s11.next;omega,fun B hB hS=>by rw[s11.keep B (by omega) (by omega)];exact S10.keep B hB hS⟩,⟨_,rfl,rfl,rfl⟩, ?_⟩
   .simp(maxSteps:=999999)(disch:=omega) only[eZ,h50,aI,e11]
   .rw[hrun]
  | some c1=>
   rw[hr]at hout hrun;simp only[Option.map_some]at hrun;obtain⟨rfl,fes1,f1,gl1,last1,d1,nd1,S1,G1,R1,Fr1,t1,ch9,cl9,hA9,rn9,wx9,con9,nk9,hgl1,hG1,hl1,hl1',hd1,pm1,pm1',nd1',fr1,more1,bg1⟩:=hout;have ch10:=ch9.stb g139 s10 (by omega) (by omega);have cl10:=cl9.stb s9.ok g139 rfl s10;have hk10:=hA9.stb g139 s10;have hv9:kF X H9 g1 (.agg lv) nd:=⟨hA8.1.stp s9 (fun B hB hc=>by
    rcases hc with(e | e | e) | e
    .subst e;exact hA8.1.nblk ch8.gC (.inl ⟨_,_,_,_,rfl,fun _ _ e=>by cases e⟩) hB
    .subst e;exact hA8.1.nblk ch8.gF (.inr (.inl ⟨_,_,rfl⟩)) hB
    .exact(hA8.2 B hB).1 e
    .obtain⟨_,hb⟩:=cl8.bd;subst e;exact hA8.1.nblk hb (.inl ⟨_,_,_,_,rfl,fun _ _ e=>by cases e⟩) hB),fun B hB=>⟨fun hg=>by
    rcases bg1 B hg with e | e
    .exact(hA8.2 B hB).1 e
    .have:=hA8.1.lt hB;omega,(hA8.2 B hB).2⟩⟩
   have hv10:=hv9.stb g139 s10;have kne':0<h->nd1.keys≠[]:=fun hh=>by
    have hnk:=nk9 hh
    cases h with
    | zero=>omega
    | succ h=>
     have:=cS wk;simp only[KQ]at hnk;rw[rn9.2.1];intro e;rw[e]at hnk;simp at hnk;omega
   have hG1l:gl1.length=gl.length+G1.length:=by rw[hgl1,zM]
   obtain⟨u2,H11,fes2,f2,g2,gl2,last2,nd2,t2,S2,G2,R2,e11,ch11,adv11,hu11,rn11,w11,con11,z11,k11,l11,l12,hgl2,pm2,pm2',more2,hG2⟩:=zDP (M'+1) n hn ti hold hxs hq ch10 hv10 hk10 r1 r2 r3 hklen wg (by rw[<-r2];exact hne (by omega)) hz0 htk k4 k5 rn9 wx9 kne' (by omega) (by omega);obtain⟨l2,rfl,l2l,l2c⟩:=hu11.1.cells;have np10: ∀ {A:Nat} {l:List AV} {e:Nat},H10.h.get A=some (.cells l e 1 false)->A≠Ac-> ¬chg Ac F g1 A:=fun {A l e} hg hne hc=>by
    rcases hc with e | e | e
    .exact hne e
    .rw[e,ch10.gF]at hg;cases hg
    .rw[ch10.gg.get e]at hg;simp at hg
   have N11:=adv11.1.next
   have g711:H11.h.get A7=some (.cells (y7 p0) 42 1 false):=by rw[adv11.1.keep _ (by omega) (np10 g710 (by omega))];exact g710
   have g811:H11.h.get A8=some (.cells [.bool false, .nilSlice, .nilSlice, .nilSlice] 119 1 false):=by rw[adv11.1.keep _ (by omega) (np10 g810 (by omega))];exact g810
   have g1011:H11.h.get A10=some (.cells lv 119 1 false):=by rw[adv11.1.keep _ (by omega) (np10 g1010 (by omega))];exact g1010
   obtain⟨H12,e12,g1012,s12,n12⟩:=yD ch11.prs.ok g1011 (l':=l2) (by omega) l2c;have e12':stN 4 (.ptr A10 0) (.agg l2) H11=some (qZ,H12):=by rw[hr2]at e12;exact e12
   have cl11:=cl10.keep ch10 adv11.1;have cl12:=cl11.stb ch11.prs.ok g1011 hr2 s12;have g1011':=g1011;rw[hr1]at g1011';have ch12:=ch11.stb g1011' s12 (by omega) (by omega);have hu12:=hu11.stb g1011' s12;have N12:=s12.next
   have g712:H12.h.get A7=some (.cells (y7 p0) 42 1 false):=by rw[s12.keep _ (by omega) (by omega)];exact g711
   have g812:H12.h.get A8=some (.cells [.bool false, .nilSlice, .nilSlice, .nilSlice] 119 1 false):=by rw[s12.keep _ (by omega) (by omega)];exact g811
   have hG2l:gl2.length=gl1.length+G2.length:=by rw[hgl2,zM]
   obtain⟨g3,H13,e13,ch13,cl13,hu13,s13,b13⟩:=zEt (dy (M'+1+1)) n ch12 cl12 g712 g812 g1012 hu12 (by omega) (by omega) (by omega) (by omega) (by omega) (by omega);have g2old: ∀B,Blk g2 B->Blk g B\/H8.next<=B:=fun B hB=>by
    rcases adv11.2 B hB with e | e
    .exact bg1 B e
    .exact .inr (by omega)
   refine⟨.agg l2,0,g3,H13,head ?_,⟨s13.ok,by have:=s13.next;omega,fun B hB hS=> ?_⟩,⟨_,rfl,l2l,l2c⟩, ?_⟩
   .simp(maxSteps:=999999)(disch:=omega) only[eZ,cl10.bc.ld,v7 g1010 hr2,v7 g1310 l1l,e11,qX,nth,e12',aI,e13]
   .rw[s13.keep B (by omega) (fun hx=>by
     rcases hx with(e | e | e) | e
     .exact hS (.inl (.inl e))
     .exact hS (.inl (.inr (.inl e)))
     .rcases g2old B e with e | e
      .exact hS (.inl (.inr (.inr e)))
      .omega
     .omega),s12.keep B (by omega) (by omega),adv11.1.keep B (by omega) (fun hx=>by
     rcases hx with e | e | e
     .exact hS (.inl (.inl e))
     .exact hS (.inl (.inr (.inl e)))
     .rcases bg1 B e with e | e
      .exact hS (.inl (.inr (.inr e)))
      .omega)]
    exact S10.keep B hB hS
   .rw[hrun];refine⟨rfl,fes2,f2,gl2++[p0],last2,d1,nd2,S2,G1++G2++[p0],R2++R1,pps last1 (last2 - last1)++Fr1,t2,ch13,cl13,hu13,rn11,⟨w11,by omega⟩,by rw[con11,con9],fun _=>by simp only[KQ];exact k11,by rw[hgl2,hgl1];simp,by simp;omega,by omega,by omega,by omega, ?_, ?_, ?_, ?_,fun p nd hp=>more2 p nd (more1 p nd hp),fun B hB=> ?_⟩
    .rw[List.perm_iff_count]at pm1 pm2⊢;intro a;have x1:=pm1 a;have x2:=pm2 a;simp only[List.count_append]at x1 x2⊢;omega
    .rw[k6];rw[List.perm_iff_count]at pm1' pm2'⊢;intro a;have x1:=pm1' a;have x2:=pm2' a;simp only[List.count_append,List.count_cons,List.count_nil]at x1 x2⊢;omega
    .rw[List.nodup_append];refine⟨J5 _ _,nd1',fun a ha b hb e=> ?_⟩;obtain⟨j,rfl,q1,q2⟩:=d9 ha;obtain⟨j',e',q3,q4⟩:=fr1 b hb;rw[e']at e;have:=QC e;omega
    .intro p hp;rcases List.mem_append.1 hp with hp | hp
     .obtain⟨j,rfl,q1,q2⟩:=d9 hp;exact⟨j,rfl,by omega,by omega⟩
     .obtain⟨j,rfl,q1,q2⟩:=fr1 p hp;exact⟨j,rfl,by omega,by omega⟩
    .rcases b13 B hB with e | e
     .rcases g2old B e with e | e
      .exact .inl e
      .exact .inr (by omega)
     .exact .inr (by omega)
end Go.Eng.Sh
end
section
set_option maxRecDepth 20000
namespace Go.Eng
theorem zCV {t:T AObj} : ∀(n A:Nat),(∀C,A<=C->t.get C=none)->zE0 t A n=true
 | 0,_,_=>rfl
 | n+1,A,h=>by
  simp only[zE0,h A (Nat.le_refl _),yG];exact zCV n _ fun C hC=>h C (by simp only[Nat.succ_eq_add_one]at hC;omega)
theorem zCh: ∀ {l e:List (AV×AV)},(∀x∈l,kQ x.1 e=none)->l.Pairwise (fun a b=>aveq b.1 a.1=false)->W4 e l=e++l
 | [],e,_,_=>by simp[W4]
 | x::l,e,h,hp=>by
  rw[List.pairwise_cons]at hp;have h1:ups e x=e++[x]:=by
   obtain⟨k,v⟩:=x;simp only[ups,Sh.setA_none (h (k,v) (zH ..))]
  have fa: ∀ {k:AV} {a b:List (AV×AV)},kQ k a=none->kQ k b=none->kQ k (a++b)=none:=by
   intro k a b
   induction a with
   | nil=>intro _ h;exact h
   | cons c a ih=>
    intro h1 h2;simp only[List.cons_append,kQ]at h1⊢
    cases e:aveq k c.1 with
    | true=>rw[e]at h1;cases h1
    | false=>rw[e]at h1;simp only[cond_false]at h1⊢;exact ih h1 h2
  simp only[W4,h1];rw[zCh (l:=l) (fun y hy=>fa (h y (zF _ hy)) (by
   simp only[kQ,hp.1 y hy,cond_false])) hp.2]
  simp
end Go.Eng
namespace Go.Eng.Sh
open Go.Nd (Ptr sumL)
open Go.Bt
def bY:PN->List Ptr->PN
 | q,[]=>q
 | q,p::gl=>bY (if p.at_=1 then zDd p.sum.toNat q else q) gl
theorem ZZ: ∀(gl:List Ptr) (q:PN) (p:Ptr),bY q (gl++[p])=if p.at_=1 then zDd p.sum.toNat (bY q gl)else bY q gl
 | [],_,_=>rfl
 | _::gl,q,p=>by simp only[List.cons_append,bY,ZZ gl]
theorem zDc (s:Nat): ∀q:PN,(zDd s q).length<=q.length
 | []=>Nat.le_refl _
 | (t,n)::q=>by
  simp only[zDd];split
  .simp
  .have:=zDc s q;simp;omega
theorem zDb (s:Nat): ∀ {q:PN} {x:Nat×Nd.Node},x∈zDd s q->x∈q
 | [],_,h=>h
 | (t,n)::q,x,h=>by
  simp only[zDd]at h;split at h
  .exact zF _ h
  .rcases List.mem_cons.1 h with h | h
   .exact h▸zH ..
   .exact zF _ (zDb s h)
theorem zA6 {s t:Nat}(h:s≠t): ∀q:PN,yA s (zDd t q)=yA s q
 | []=>rfl
 | (a,n)::q=>by
  simp only[zDd];split
  .rename_i e;simp only[yA];rw[if_neg (fun e2=>h (e2.symm.trans e))]
  .simp only[yA,zA6 h q]
theorem K4 {s:Nat} : ∀ {q:PN},yA s q=none->zDd s q=q
 | [],_=>rfl
 | (a,n)::q,h=>by
  simp only[yA]at h;split at h
  .cases h
  .rename_i e;simp only[zDd,if_neg e,K4 h]
theorem K2 {H:AH}{s:Nat} : ∀ {es:List (AV×AV)} {q:PN},xG H es q->yA s q=none->zH5 (.int .u64 (s:Nat)) es=none
 | [],[],_,_=>rfl
 | (k,v)::es,(t,nd)::q,h,hl=>by
  obtain⟨⟨rfl,_⟩,h2⟩:=h;simp only[yA]at hl;split at hl
  .cases hl
  .rename_i e;have e': ¬s=t:=fun h=>e h.symm
   simp only[zH5,zJF,e',decide_false,cond_false,K2 h2 hl]
 | [],_::_,h,_=>h.elim
 | _::_,[],h,_=>h.elim
theorem XE {s:Nat} : ∀ {gl:List Ptr} {q:PN},(∀p∈gl,p.at_=1->s≠p.sum.toNat)->yA s (bY q gl)=yA s q
 | [],_,_=>rfl
 | p::gl,q,h=>by
  rw[bY,XE fun p hp=>h p (zF _ hp)];by_cases e:p.at_=1
  .rw[if_pos e,zA6 (h p (zH ..) e)]
  .rw[if_neg e]
theorem aQ: ∀ {gl:List Ptr} {q:PN} {x:Nat×Nd.Node},x∈bY q gl->x∈q
 | [],_,_,h=>h
 | p::gl,_,_,h=>by
  have h1:=aQ (gl:=gl) h;split at h1
  .exact zDb _ h1
  .exact h1
theorem aR: ∀(gl:List Ptr) (q:PN),(bY q gl).length<=q.length
 | [],_=>Nat.le_refl _
 | p::gl,q=>by
  refine Nat.le_trans (aR gl _) ?_;split
  .exact zDc _ q
  .exact Nat.le_refl _
theorem kO {s:Nat}{nd:Nd.Node} : ∀ {q:PN},yA s q=some nd->(s,nd)∈q
 | [],h=>by cases h
 | (t,n)::q,h=>by
  simp only[yA]at h;split at h
  .rename_i e;subst e;simp only[zC]at h;subst h;exact zH ..
  .exact zF _ (kO h)
theorem xG.keys {H:AH} : ∀ {es:List (AV×AV)} {q:PN},xG H es q-> ∀kv∈es,∃s,kv.1= .int .u64 ((s:Nat):Int)/\s∈q.map Prod.fst
 | [],[],_,_,h=>by simp at h
 | (k,v)::es,(t,nd)::q,hq,kv,hk=>by
  rcases List.mem_cons.1 hk with rfl | hk
  .exact⟨t,hq.1.1,by simp⟩
  .obtain⟨s,h1,h2⟩:=xG.keys hq.2 kv hk;exact⟨s,h1,zF _ h2⟩
 | [],_::_,h,_,_=>h.elim
 | _::_,[],h,_,_=>h.elim
theorem xG.dist {H:AH} : ∀ {es:List (AV×AV)} {q:PN},xG H es q->(q.map Prod.fst).Nodup->es.Pairwise (fun a b=>aveq b.1 a.1=false)
 | [],[],_,_=>List.Pairwise.nil
 | (k,v)::es,(t,nd)::q,hq,hd=>by
  simp only[List.map_cons,List.nodup_cons]at hd;rw[List.pairwise_cons];refine⟨fun kv hkv=> ?_,xG.dist hq.2 hd.2⟩;obtain⟨s,h1,h2⟩:=xG.keys hq.2 kv hkv;rw[h1,hq.1.1,zJF,decide_eq_false_iff_not];intro e;subst e;exact hd.1 h2
 | [],_::_,h,_=>h.elim
 | _::_,[],h,_=>h.elim
theorem xG.append {H:AH}{es':List (AV×AV)}{q':PN}(h':xG H es' q'): ∀ {es:List (AV×AV)} {q:PN},xG H es q->xG H (es++es') (q++q')
 | [],[],_=>h'
 | _::es,_::q,h=>⟨h.1,xG.append h' h.2⟩
 | [],_::_,h=>h.elim
 | _::_,[],h=>h.elim
theorem xG.isAg {H:AH}{es:List (AV×AV)}{q:PN}(h:xG H es q):es.all (fun e=>kD [10] e.1&&Eng.isAg 4 e.2)=true:=by
 rw[List.all_eq_true];intro kv hkv;obtain⟨s,h1,_⟩:=h.keys kv hkv;obtain⟨nd,hn⟩:=h.mem kv hkv;obtain⟨l,h2,h3,h4⟩:=hn.cells;rw[h1,h2,zNL,Bool.true_and];simp only[Eng.isAg,yE,h3,h4,Nat.beq_refl,Bool.and_self]
noncomputable def AH.putB (H:AH)(A:Nat)(o:AObj)(k:Nat):AH:=⟨(H.put A o).h,H.next+k⟩
theorem zIt {H:AH}(hk:H.ok){A:Nat}(hA:A<H.next)(o:AObj)(k:Nat):Stp (fun B=>B=A) H (AH.putB H A o k)/\(AH.putB H A o k).h.get A=some o:=by
 have hg: ∀B,(AH.putB H A o k).h.get B=if B=A then some o else H.h.get B:=fun B=>AH.put_get H A o B
 refine⟨⟨fun B hB=> ?_, ?_,fun B _ hS=> ?_⟩, ?_⟩
 .have hB:H.next+k<=B:=hB
  rw[hg,if_neg (by omega)];exact hk B (by omega)
 .show H.next<=H.next+k;omega
 .rw[hg,if_neg hS]
 .rw[hg,if_pos rfl]
theorem zI5 {H:AH}(hk:H.ok){F M:Nat}{fes es:List (AV×AV)}{f:PN}(hF:H.h.get F=some (.map [10] fes))(hM:H.h.get M=some (.map [10] es))(hne:F≠M)(hp:xG H fes f):
  zKO [10] 1 (isAg 4) (.map F) (.map M) H=some (AH.putB H M (.map [10] (W4 es fes)) (1+1*fes.length)):=by
 have hb:Nat.beq F M=false:=by rw[Bool.eq_false_iff];intro h;exact hne (Nat.eq_of_beq_eq_true h)
 simp only[zKO,hF,hM,show QN [10] [10]=true from rfl,hb,hp.isAg,Bool.not_false,Bool.and_self,cond_true,yG,zCV _ _ hk,yX,AH.putB,AH.put_next,Nat.add_assoc]
end Go.Eng.Sh
end
section
set_option maxRecDepth 20000
namespace Go.Eng.Sh
open Go.Nd (Ptr sumL)
open Go.Bt
variable {E:Ev}
def Ev.drop (E:Ev)(gl:List Ptr):Ev:=⟨E.nb,E.ws,E.dl++gl.filter fun p=>decide (p.at_≠1)⟩
theorem zD8 (E:Ev)(gl:List Ptr):(E.drop gl).dl.length<=E.dl.length+gl.length:=by
 simp only[Ev.drop,zM];have:=List.length_filter_le (fun p:Ptr=>decide (p.at_≠1)) gl;omega
theorem TI.dks {S:Nat->Prop}{H H':AH}{At M last:Nat}{d c dr:AV}{root:Ptr}{es:List (AV×AV)}{q:PN}(h:TI E H At M d c root es q last dr)(s:Stp S H H')(hS: ∀B,S B->B=At\/B=M\/Blk dr B\/H.next<=B): ∃Ad On Nw wv ds,d= .ptr Ad 0/\DkI H' Ad E.nb E.ws On Nw wv ds:=by
 obtain⟨Ad,On,Nw,wv,ds,rfl,hd⟩:=h.dk;have nm: ∀ {B:Nat} {ks:List Nat} {x:List (AV×AV)},ks≠[10]->H.h.get B=some (.map ks x)-> ¬S B:=fun {B ks x} hk g hs=>by
  rcases hS B hs with e | e | e | e
  .rw[e,h.gT]at g;cases g
  .rw[e,h.gM]at g;simp only[zC,AObj.map.injEq]at g;exact hk g.1.symm
  .exact j9.nsep h.dg g (fun _ _ e=>by cases e) e
  .have:=h.ok.lt g;omega
 refine⟨Ad,On,Nw,wv,ds,rfl,hd.stp h.ok s (fun hs=> ?_) (nm (by decide) hd.gO) (nm (by decide) hd.gN) fun B hB hs=> ?_⟩
 .rcases hS Ad hs with e | e | e | e
  .have g:=hd.gD;rw[e,h.gT]at g;simp[jV]at g
  .have g:=hd.gD;rw[e,h.gM]at g;cases g
  .exact j9.nsep h.dg hd.gD (fun _ _ e=>by simp at e) e
  .have:=h.ok.lt hd.gD;omega
 .have g:=hd.ow.get hB;rcases hS B hs with e | e | e | e
  .rw[e,h.gT]at g;simp at g
  .rw[e,h.gM]at g;cases g
  .exact j9.nsep h.dg g (fun _ _ e=>by simp at e) e
  .have:=h.ok.lt g;omega
theorem zO6 {H:AH}{M s:Nat}{es:List (AV×AV)}{q:PN}(hk:H.ok)(hM:H.h.get M=some (.map [10] es))(hp:xG H es q):
  ∃es' H',dlM [10] (.map M) (.int .u64 (s:Nat)) H=some (.tuple [],H')/\H'.h.get M=some (.map [10] es')/\xG H' es' (zDd s q)/\Stp (fun B=>B=M) H H'/\ ∀kv∈es',kv∈es:=by
 cases hl:yA s q with
 | none=>
  refine⟨es,H, ?_,hM,by rw[K4 hl];exact hp,Stp.refl hk,fun _ h=>h⟩;simp only[dlM,zNL,hM,show QN [10] [10]=true from rfl,cond_true,K2 hp hl]
 | some nd=>
  obtain⟨es',e1,e2,e3⟩:=hp.del s nd hl;have s1:Stp (fun B=>B=M) H (H.put M (.map [10] es')):=(Stp.refl hk).put (hk.lt hM) _ (.inr rfl);refine⟨es',H.put M (.map [10] es'), ?_,by rw[AH.put_get,if_pos rfl],e2.frame fun kv hkv nd2 hn=>hn.stp s1 fun B hB e=> ?_,s1,e3⟩
  .simp only[dlM,zNL,hM,show QN [10] [10]=true from rfl,cond_true,e1,yX]
  .subst e;exact hn.nblk hM (.inr (.inl ⟨_,_,rfl⟩)) hB
theorem JN {α:Type}(f:α->Bool)(l:List α)(a:α):(l++[a]).filter f=l.filter f++(if f a then[a]else[]):=by
 rw[List.filter_append];cases h:f a<;>simp[h]
theorem zH2 (D:Dyn)(n:Nat){H0 H:AH}{At Ac F M:Nat}{d c dr:AV}{root0 root:Ptr}{es:List (AV×AV)}{q:PN}{fes:List (AV×AV)}{f:PN}{g:AV}{gl:List Ptr}{last0 last:Nat}(ti:TI E H0 At M d c root0 es q last0 dr)(hq: ∀s nd,yA s q=some nd->s<=last0)
  (ch:Ch (Blk dr) H0 H At Ac F fes f g gl last0 last) (hgl: ∀p∈gl,0<=p.sum) (hl:last<=900000000) (hn:gl.length<n) (hql:q.length<=last0) (hdl:E.dl.length+gl.length<=900000000):
  ∃H' es' dr',f126 D n [.ptr Ac 0, .agg (y7 root)] H=some (.tuple [],H')/\TI (E.drop gl) H' At M d c root es' (bY q gl++f) last dr'/\Stp (fun B=>B=At\/B=M\/Blk dr B) H0 H'/\ ∀B,Blk dr' B->Blk dr B\/H0.next<=B:=by
 have tiH:=ti.prs ch.prs;have hfew:=ch.few;obtain⟨Ad,od,hd⟩:=ti.hd;obtain⟨H1,A3,b1,p1,g1,m1,n1⟩:=box ch.prs.ok (.cells (y7 root) 42 1 false);have ch1:=ch.step p1;have ti1:=tiH.prs p1;have atlt:At<H0.next:=ti.ok.lt ti.gT
 have mlt:M<H0.next:=ti.ok.lt ti.gM
 have drlt: ∀B,Blk dr B->B<H0.next:=fun B hB=>ti.dg.lt hB
 have N0:=ch.prs.next;have N1:=p1.next
 have cC:=ch.dC;have cF:=ch.dF;have lC:=ch.ltC;have lF:=ch.ltF;have atM:At≠M:=fun e=>by have:=ti.gT;rw[e,ti.gM]at this;cases this
 have nS: ∀B,H0.next<=B-> ¬(B=M\/B=At\/Blk dr B):=fun B hB h=>by
  rcases h with e | e | e
  .omega
  .omega
  .have:=drlt B e;omega
 have drM: ¬Blk dr M:=j9.nsep ti.dg ti.gM (fun _ _ e=>by cases e);have drA: ¬Blk dr At:=j9.nsep ti.dg ti.gT (fun _ _ e=>by simp at e);have esl: ∀kv∈es,∀B,wN kv.2 B->B<H0.next:=fun kv hkv B hB=>by
  obtain⟨nd2,hn2⟩:=ti.pq.mem kv hkv;exact hn2.lt hB
 have lp:=xR (b:=fT D n) gl.length (fun i us H'=>us=[.ptr Ac 0, .ptr A3 0, .ptr At 0,g, .int .i64 (gl.length:Nat), .int .i64 (i:Nat)]/\Stp (fun B=>B=M\/B=At\/Blk dr B) H1 H'/\ ∃esi dri,H'.h.get M=some (.map [10] esi)/\xG H' esi (bY q (gl.take i))/\H'.h.get At=some (.cells (jV d c root0 M last0 dri) 140 1 false)/\
   j9 3 42 H' dri (E.drop (gl.take i)).dl.length ((E.drop (gl.take i)).dl.flatMap y7)/\(∀B,Blk dri B->Blk dr B\/H1.next<=B)/\ ∀kv∈esi,kv∈es) (fun i us H' hi ⟨hus,st,esi,dri,hM,hp,gT,dg,db,hes⟩=>by
  subst hus;have hi':gl[i]∈gl:=qC hi;obtain⟨p,hpd⟩: ∃p,p=gl[i]:=⟨_,rfl⟩;have hs0:=hgl _ hi';have og:Own 3 42 H' g gl.length (gl.flatMap y7):=ch1.gg.mono st fun B hB=>nS B (ch.gN B hB)
  obtain⟨pq,i1,i2⟩:=xV.at (l:=gl) og.row hi;rw[<-hpd]at i2 hs0;have hts:gl.take (i+1)=gl.take i++[p]:=by rw[zV hi,hpd]
  obtain⟨H2,A6,b2,p2,g2,m2,n2⟩:=box st.ok (.cells [.int .i64 ((0:Nat):Int), .int .i64 ((0:Nat):Int), .int .u64 ((0:Nat):Int)] 42 1 false);obtain⟨H3,e3,g3,s3,n3⟩:=yD p2.ok g2 (l':=y7 p) rfl rfl;have e3':stN 3 (.ptr A6 0) (.agg (y7 p)) H2=some (qZ,H3):=e3;have N2:=st.next;have N3:=p2.next
  have p3:Prs H' H3:=p2.fresh s3 (fun B hB=>by omega);have N4:=p3.next
  have hM3:=Prs.get p3 st.ok hM;have gT3:=Prs.get p3 st.ok gT;have dg3:=dg.mono p3 fun _ _ x=>x
  have hp3:=hp.frame fun kv _ nd hn=>hn.prs p3
  have hiI:((i:Nat):Int)< ((gl.length:Nat):Int):=by omega
  have f0:ld1 (.ptr A6 0) H3=some (.int .i64 p.at_):=by rw[qV g3];rfl
  have f2:ld1 (.ptr A6 2) H3=some (.int .u64 ((p.sum.toNat:Nat):Int)):=by
   rw[qV g3,Int.toNat_of_nonneg hs0];rfl
  have f3:ldN 3 (.ptr A6 0) H3=some (.agg (y7 p)):=by rw[y6 g3];rfl
  have f5:ld1 (.ptr At 5) H3=some (.map M):=by rw[qV gT3];rfl
  have f7:ld1 (.ptr At 7) H3=some dri:=by rw[qV gT3];rfl
  by_cases h1:p.at_=1
  .obtain⟨es4,H4,e4,hM4,hp4,s4,hes4⟩:=zO6 (s:=p.sum.toNat) p3.ok hM3 hp3;have h1I:p.at_=((1:Nat):Int):=h1;have gT4:H4.h.get At=some (.cells (jV d c root0 M last0 dri) 140 1 false):=by
    rw[s4.keep _ (by omega) atM];exact gT3
   have hdr:E.drop (gl.take (i+1))=E.drop (gl.take i):=by
    rw[hts,Ev.drop,Ev.drop,JN,if_neg (by simpa using h1),List.append_nil]
   refine⟨_,H4, ?_,rfl,(st.trans (p3.mono fun _ _ x=>x.elim)).trans (s4.mono fun _ _ x=> .inl x),es4,dri,hM4, ?_,gT4, ?_,db,fun kv hkv=>hes kv (hes4 kv hkv)⟩
   .simp(maxSteps:=999999)(disch:=omega) only[fT,eZ,hiI,i1,i2,b2,e3',f0,h1I,f5,f2,e4,QM,Int.natCast_add]
   .rw[hts,ZZ,if_pos h1];exact hp4
   .rw[hdr];exact dg3.mono s4 fun B hB e=>by subst e;exact j9.nsep dg3 hM3 (fun _ _ e=>by cases e) hB
  .have h1I: ¬p.at_=((1:Nat):Int):=h1;obtain⟨H4,A7,b4,p4,g4,m4,n4⟩:=box p3.ok (.cells (y7 p) 42 3 false);have dg4:=dg3.mono p4 fun _ _ x=>x
   have hsrc:srcOf 3 (.slice A7 0 1 2) H4=some (1,y7 p):=by simp only[srcOf,g4];rfl
   have hdl2:=zD8 E (gl.take i);rw[zQ]at hdl2;obtain⟨dr5,H5,e5,dg5,s5,db5⟩:=dg4.app (bytes:=24) (m:=1) (new:=y7 p) p4.ok (by decide) hsrc rfl rfl (by omega) (by decide);have M4:=p4.next;have M5:=s5.next
   have dgA: ¬Blk dri At:=j9.nsep dg4 (Prs.get p4 p3.ok gT3) (fun _ _ e=>by simp at e);have dgM: ¬Blk dri M:=j9.nsep dg4 (Prs.get p4 p3.ok hM3) (fun _ _ e=>by cases e);have gT5:H5.h.get At=some (.cells (jV d c root0 M last0 dri) 140 1 false):=by
    rw[s5.keep _ (by omega) dgA];exact Prs.get p4 p3.ok gT3
   obtain⟨H6,e6,g6,s6,n6⟩:=kJ s5.ok gT5 (o:=7) (x:=dr5) dg5.isCell (by simp[jV]);have g6:H6.h.get At=some (.cells (jV d c root0 M last0 dr5) 140 1 false):=g6;have hM6:H6.h.get M=some (.map [10] esi):=by
    rw[s6.keep _ (by omega) (fun e=>atM e.symm),s5.keep _ (by omega) dgM];exact Prs.get p4 p3.ok hM3
   have hdr:(E.drop (gl.take (i+1))).dl=(E.drop (gl.take i)).dl++[p]:=by
    simp only[hts,Ev.drop,JN];rw[if_pos (by simpa using h1),List.append_assoc]
   have e1:=zOm 42 p [.int .i64 ((0:Nat):Int), .int .i64 ((0:Nat):Int), .int .u64 ((0:Nat):Int)] rfl;have st6:Stp (fun B=>B=M\/B=At\/Blk dr B) H1 H6:=by
    refine Stp.thr (Stp.thr (st.trans ((p3.trans p4).mono fun _ _ x=>x.elim)) s5 fun B e=> ?_) s6 fun B e=> .inr (.inr (.inl e))
    rcases db B e with x | x
    .exact .inr (.inr (.inr x))
    .exact .inl x
   refine⟨_,H6, ?_,rfl,st6,esi,dr5,hM6, ?_,g6, ?_,fun B hB=> ?_,hes⟩
   .simp(maxSteps:=999999)(disch:=omega) only[fT,eZ,hiI,i1,i2,b2,e3',f0,h1I,f7,f3,e1,b4,e5,e6,QM,Int.natCast_add]
   .rw[hts,ZZ,if_neg h1];refine hp3.frame fun kv hkv nd hn=> ?_
    have hk:=hes kv hkv;have h5:yK H5 kv.2 nd:=(hn.prs p4).stp s5 fun B hB e=>by
     rcases db B e with x | x
     .exact ti.ds kv hk B hB x
     .have:=esl kv hk B hB;omega
    exact h5.stp s6 fun B hB e=>by
     subst e;exact h5.nblk gT5 (.inl ⟨_,_,_,_,rfl,fun _ _ e=>by rw[hd]at e;cases e⟩) hB
   .rw[hdr,zM,qL];have e2:[p].flatMap y7=y7 p:=by simp
    rw[e2];exact dg5.mono s6 fun B hB e=>by subst e;exact j9.nsep dg5 gT5 (fun _ _ e=>by simp at e) hB
   .rcases db5 B hB with e | e
    .exact db B e
    .exact .inr (by omega)) n _ H1 ⟨rfl,Stp.refl p1.ok,es,dr,ti1.gM,by simpa[bY]using ti1.pq,ti1.gT,by simpa[Ev.drop]using ti1.dg,fun B hB=> .inl hB,fun _ h=>h⟩ hn
 obtain⟨m,us,H2,e2,rfl,st,esn,drn,hM,hp,gT2,dg2,db2,hesn⟩:=lp;rw[qN]at hp dg2;have N2:=st.next
 have lastl:yJ (m+1) (fT D n) [.ptr Ac 0, .ptr A3 0, .ptr At 0,g, .int .i64 (gl.length:Nat), .int .i64 (gl.length:Nat)] H2=some (.exit 0 [.ptr Ac 0, .ptr A3 0, .ptr At 0],H2):=y9 (by simp only[fT,eZ,qJ]);have gC2:H2.h.get Ac=some (.cells [.ptr At 0, .int .u64 (last:Nat), .map F,g] 242 1 false):=by rw[st.keep _ (by omega) (nS _ (by omega))];exact ch1.gC
 have gF2:H2.h.get F=some (.map [10] fes):=by rw[st.keep _ (by omega) (nS _ (by omega))];exact ch1.gF
 have g32:H2.h.get A3=some (.cells (y7 root) 42 1 false):=by rw[st.keep _ (by omega) (nS _ (by omega))];exact g1
 have hnotr: ∀l:List AV,∀x:AV,∀b,jV d c root0 M last0 x≠ .str l.length b::l:=fun l x b e=>by
  rw[hd]at e;simp[jV]at e
 have pf2:xG H2 fes f:=ch1.pf.frame fun kv hkv nd hn=>hn.stp st fun B hB e=>by
  rcases e with e | e | e
  .subst e;exact hn.nblk ti1.gM (.inr (.inl ⟨_,_,rfl⟩)) hB
  .subst e;exact hn.nblk ti1.gT (.inl ⟨_,_,_,_,rfl,fun _ _ e=>by rw[hd]at e;cases e⟩) hB
  .exact ch.gx kv hkv B hB e
 have hup:=zI5 st.ok gF2 hM (by omega) pf2;have hnone: ∀x∈fes,kQ x.1 esn=none:=fun x hx=>by
  obtain⟨s,hs,hm⟩:=ch1.pf.keys x hx;rw[hs];refine(hp.find s).2 ?_
  cases hk:yA s (bY q gl)with
  | none=>rfl
  | some nd2=>
   have m1:=aQ (kO hk);obtain⟨nd3,h3⟩:=uB (q:=q) (s:=s) (List.mem_map.2 ⟨_,m1,rfl⟩);obtain⟨nd4,h4⟩:=uB hm;have:=hq _ _ h3;have:=ch.fs _ _ h4;omega
 rw[zCh hnone (ch1.pf.dist ch.fd)]at hup;obtain⟨s3,g3M⟩:=zIt st.ok (st.ok.lt hM) (.map [10] (esn++fes)) (1+1*fes.length);have hnx:H2.next<=(AH.putB H2 M (.map [10] (esn++fes)) (1+1*fes.length)).next:=s3.next
 generalize AH.putB H2 M (.map [10] (esn++fes)) (1+1*fes.length)=H3 at hup s3 g3M hnx;have hmt:vV [.ptr Ac 0, .ptr A3 0, .ptr At 0] H2=some H3:=by
  have c1:ld1 (.ptr Ac (0+2)) H2=some (.map F):=by rw[qV gC2];rfl
  have c2:ld1 (.ptr At (0+5)) H2=some (.map M):=by rw[qV gT2];rfl
  have d1:Nat.blt F H2.next=true:=by rw[zR];omega
  have d2:Nat.blt M H2.next=true:=by rw[zR];omega
  have d3:Nat.blt At H2.next=true:=by rw[zR];omega
  simp only[vV,c1,c2,d1,d2,d3,Bool.and_self,cond_true,hup]
 have gC3:H3.h.get Ac=some (.cells [.ptr At 0, .int .u64 (last:Nat), .map F,g] 242 1 false):=by rw[s3.keep _ (by omega) (by omega)];exact gC2
 have gT3:H3.h.get At=some (.cells (jV d c root0 M last0 drn) 140 1 false):=by rw[s3.keep _ (by omega) atM];exact gT2
 have g33:H3.h.get A3=some (.cells (y7 root) 42 1 false):=by rw[s3.keep _ (by omega) (by omega)];exact g32
 obtain⟨H4,e4,g4,s4,n4⟩:=kJ s3.ok gT3 (o:=6) (x:= .int .u64 (last:Nat)) rfl (by simp[jV]);have g4:H4.h.get At=some (.cells (jV d c root0 M last drn) 140 1 false):=g4;have g34:H4.h.get A3=some (.cells (y7 root) 42 1 false):=by rw[s4.keep _ (by omega) (by omega)];exact g33
 have e5:=YW (o:=2) (n:=3) (x:= .agg (y7 root)) g4 (by decide) rfl rfl (by simp[jV]);have g5:(H4.put At (.cells ((jV d c root0 M last drn).take 2++yC (.agg (y7 root))++(jV d c root0 M last drn).drop (2+3)) 140 1 false)).h.get At=some (.cells (jV d c root M last drn) 140 1 false):=by rw[AH.put_get,if_pos rfl];rfl
 have s5:Stp (fun B=>B=At) H4 (H4.put At (.cells ((jV d c root0 M last drn).take 2++yC (.agg (y7 root))++(jV d c root0 M last drn).drop (2+3)) 140 1 false)):=(Stp.refl s4.ok).put (s4.ok.lt g4) _ (.inr rfl);generalize H4.put At (.cells ((jV d c root0 M last drn).take 2++yC (.agg (y7 root))++(jV d c root0 M last drn).drop (2+3)) 140 1 false)=H5 at e5 g5 s5;have N3:=s3.next;have N4:=s4.next;have N5:=s5.next
 have fr: ∀ {v:AV} {nd:Nd.Node},yK H2 v nd->yK H5 v nd:=fun {v nd} hn=>by
  have h3:yK H3 v nd:=hn.stp s3 fun B hB e=>by subst e;exact hn.nblk hM (.inr (.inl ⟨_,_,rfl⟩)) hB
  have h4:yK H4 v nd:=h3.stp s4 fun B hB e=>by subst e;exact h3.nblk gT3 (.inl ⟨_,_,_,_,rfl,fun _ _ e=>by rw[hd]at e;cases e⟩) hB
  exact h4.stp s5 fun B hB e=>by subst e;exact h4.nblk g4 (.inl ⟨_,_,_,_,rfl,fun _ _ e=>by rw[hd]at e;cases e⟩) hB
 have dg3:=dg2.mono s3 fun B hB e=>by subst e;exact j9.nsep dg2 hM (fun _ _ e=>by cases e) hB
 have dg4:=dg3.mono s4 fun B hB e=>by subst e;exact j9.nsep dg3 gT3 (fun _ _ e=>by simp at e) hB
 have dg5:=dg4.mono s5 fun B hB e=>by subst e;exact j9.nsep dg4 g4 (fun _ _ e=>by simp at e) hB
 have T5:Stp (fun B=>B=At\/B=M\/Blk dr B) H0 H5:=⟨s5.ok,by omega,fun B hB hS=>by
  have a1: ¬B=At:=fun e=>hS (.inl e)
  have a2: ¬B=M:=fun e=>hS (.inr (.inl e))
  rw[s5.keep B (by omega) a1,s4.keep B (by omega) a1,s3.keep B (by omega) a2,st.keep B (by omega) (fun x=>by
   rcases x with x | x | x
   .exact a2 x
   .exact a1 x
   .exact hS (.inr (.inr x))),p1.keep B (by omega) (fun x=>x),ch.prs.keep B hB (fun x=>x)]⟩
 refine⟨H5,esn++fes,drn, ?_,⟨s5.ok,g5, ?_, ?_, ?_,ti.cn,dg5,fun kv hkv B hB hb=> ?_, ?_⟩,T5,fun B hB=> ?_⟩
 .have hble:Nat.ble H2.next H3.next=true:=by rw[qA];exact hnx
  have c0:ld1 (.ptr Ac 0) H1=some (.ptr At 0):=by rw[qV ch1.gC];rfl
  have c3:ld1 (.ptr Ac 3) H1=some g:=by rw[qV ch1.gC];rfl
  have c1:ld1 (.ptr Ac 1) H3=some (.int .u64 (last:Nat)):=by rw[qV gC3];rfl
  have r3:ldN 3 (.ptr A3 0) H4=some (.agg (y7 root)):=by rw[y6 g34];rfl
  simp(maxSteps:=999999)(disch:=omega) only[f126,eZ,b1,c0,c3,ch1.gg.row.lnSl,e2,lastl,zAA,hmt,tld,hble,cond_true,c1,e4,r3,e5]
 .rw[s5.keep _ (by omega) (fun e=>atM e.symm),s4.keep _ (by omega) (fun e=>atM e.symm)];exact g3M
 .exact xG.append (pf2.frame fun kv _ nd hn=>fr hn) (hp.frame fun kv _ nd hn=>fr hn)
 .exact ti.dks T5 fun B hB=>by
   rcases hB with e | e | e
   .exact .inl e
   .exact .inr (.inl e)
   .exact .inr (.inr (.inl e))
 .rcases List.mem_append.1 hkv with hkv | hkv
  .have hk:=hesn kv hkv;rcases db2 B hb with e | e
   .exact ti.ds kv hk B hB e
   .have:=esl kv hk B hB;omega
  .rcases db2 B hb with e | e
   .exact ch.gx kv hkv B hB e
   .obtain⟨nd2,hn2⟩:=ch.pf.mem kv hkv;have:=hn2.lt hB;omega
 .have h1:=aR gl q;have h2:=ch.fl;simp only[zM];omega
 .rcases db2 B hB with e | e
  .exact .inl e
  .exact .inr (by omega)
end Go.Eng.Sh
end
section
set_option maxRecDepth 20000
namespace Go.Bt
open Go.Nd (Str Kvs Ptr leafOf)
theorem WF.wr: ∀ {h:Nat} {t:Tr h},WF h none none t->WR h t
 | 0,_,w=>w
 | _+1,_,w=>⟨w.1,w.2.1,w.2.2.2⟩
theorem WX.wr: ∀ {h:Nat} {t:Tr h},WX h none none t->(match h,t with | 0,l=>(l:Kvs)≠[] | _+1,t=>t.1≠[])->jD h t<=500->WR h t
 | 0,_,w,hne,hz=>⟨w.1,hne,hz⟩
 | _+1,_,w,hne,hz=>⟨w.1,hne,hz⟩
end Go.Bt
namespace Go.Eng.Sh
open Go.Nd (Ptr sumL leafOf Kvs)
open Go.Bt
variable {E:Ev}{X:Nat->Prop}
def pZ:Ptr:=⟨((0:Nat):Int),((0:Nat):Int),((0:Nat):Int)⟩
def dsk (T:List Ptr):List Ptr:=T.filter fun p=>decide (p.at_≠1)
theorem zC2 (a b:List Ptr):dsk (a++b)=dsk a++dsk b:=List.filter_append ..
theorem zO5 {T:List Ptr}(h: ∀p∈T,∃j,p=pp j):dsk T=[]:=List.filter_eq_nil_iff.2 fun p hp=>by
 obtain⟨j,rfl⟩:=h p hp;simp[pp]
theorem zD7 (E:Ev){T T' gl Fr R:List Ptr}(h:T.Perm (gl++R))(h':T'.Perm (Fr++R))(hF: ∀p∈Fr,∃j,p=pp j):(dsk T'++(E.drop gl).dl).Perm (dsk T++E.dl):=by
 have h1:(dsk T).Perm (dsk (gl++R)):=h.filter _;have h2:(dsk T').Perm (dsk (Fr++R)):=h'.filter _;rw[zC2]at h1 h2;rw[zO5 hF,List.nil_append]at h2;have h3:(E.drop gl).dl=E.dl++dsk gl:=rfl;rw[h3];rw[List.perm_iff_count]at h1 h2⊢;intro a;have x1:=h1 a;have x2:=h2 a;simp only[List.count_append]at x1 x2⊢;omega
def vU (E:Ev)(q:PN)(root:Ptr)(kv:Kvs)(T:List Ptr):Prop:=(root=pZ/\kv=[]/\T=[])\/ ∃h nd,∃t:Bt.Tr h,∃S:List Ptr,Qf E q [] root=some nd/\jB (Qf E q []) h nd t S/\WR h t/\(root::S).Nodup/\con h t=kv/\T=root::S
theorem kU.here {α:Type}{Q:Ptr->Option Nd.Node}{R:Nd.Node->α->List Ptr->Prop}(hr: ∀nd t S,R nd t S-> ∀p∈S,∃nd,Q p=some nd): ∀ {ps:List Ptr} {ts:List α} {S:List Ptr},kU Q R ps ts S-> ∀p∈S,∃nd,Q p=some nd
 | [],[],_,h=>by subst h;simp
 | p::ps,t::ts,_,⟨nd,S1,S2,a,b,c,e⟩=>fun x hx=>by
  subst e;rcases List.mem_cons.1 hx with rfl | hx
  .exact⟨nd,a⟩
  .rcases List.mem_append.1 hx with hx | hx
   .exact hr _ _ _ b x hx
   .exact kU.here hr c x hx
 | [],_::_,_,h=>h.elim
 | _::_,[],_,h=>h.elim
theorem jB.here {Q:Ptr->Option Nd.Node} : ∀ {h:Nat} {nd:Nd.Node} {t:Bt.Tr h} {S:List Ptr},jB Q h nd t S-> ∀p∈S,∃nd,Q p=some nd
 | 0,_,_,_,w=>by obtain⟨_,rfl⟩:=w;simp
 | h+1,_,_,_,w=>kU.here (fun _ _ _ hr=>jB.here hr) w.2.2.2
theorem zLh {q f:PN}{gl T Fr R:List Ptr}{last0:Nat}(hq: ∀s nd,yA s q=some nd->s<=last0)(hf: ∀s nd,yA s f=some nd->last0<s)(hT:T.Perm (Fr++R))(hG:(gl++R).Nodup)(hgl: ∀p∈gl,∃nd,Qf E q [] p=some nd)(hFr: ∀p∈Fr,∃j,p=pp j/\last0<j)(hFn:Fr.Nodup)(hR: ∀p∈R,∃nd,Qf E q [] p=some nd):
  T.Nodup/\ ∀p∈T,∀nd,Qf E q f p=some nd->Qf E (bY q gl++f) [] p=some nd:=by
 have hRold: ∀s,pp s∈R->s<=last0:=fun s hp=>by
  obtain⟨nd,h⟩:=hR _ hp;obtain⟨s',e,h1 | ⟨_,h1⟩⟩ | ⟨h1,_⟩:=wS h
  .simp[yA]at h1
  .have:=QC e;subst this;exact hq _ _ h1
  .exact absurd rfl (h1 s)
 obtain⟨_,hRn,hdis⟩:=List.nodup_append.1 hG;refine⟨hT.nodup_iff.2 (List.nodup_append.2 ⟨hFn,hRn,fun a ha b hb e=> ?_⟩),fun p hp nd h=> ?_⟩
 .obtain⟨j,rfl,hj⟩:=hFr a ha;subst e;have:=hRold j hb;omega
 .obtain⟨s,rfl,h1 | ⟨h0,h1⟩⟩ | ⟨h1,h2⟩:=wS h
  .rw[UM];simp only[yA];have hs:=hf _ _ h1;rw[kP]
   cases hk:yA s (bY q gl)with
   | none=>exact h1
   | some n2=>
    obtain⟨n3,h3⟩:=uB (List.mem_map.2 ⟨_,aQ (kO hk),rfl⟩);have:=hq _ _ h3;simp only at this;omega
  .rw[UM];simp only[yA];have hs:=hq _ _ h1;have hpR:pp s∈R:=by
    rcases List.mem_append.1 (hT.mem_iff.1 hp)with e | e
    .obtain⟨j,e,hj⟩:=hFr _ e;have:=QC e;omega
    .exact e
   rw[kP,XE fun p' hp' e1 e=> ?_,h1];obtain⟨nd',hn⟩:=hgl p' hp';obtain⟨s',rfl,_⟩ | ⟨_,hd⟩:=wS hn
   .have:s=s':=by simpa[pp]using e
    subst this;exact hdis _ hp' _ hpR rfl
   .have:=(vJ hd).2;omega
  .rw[Q7 h1];exact h2
theorem zCJ {q f:PN}{gl:List Ptr}{last0 last:Nat}(hq: ∀s nd,yA s q=some nd->s<=last0)(hf: ∀s nd,yA s f=some nd->last0<s/\s<=last)(hl:last0<=last): ∀s nd,yA s (bY q gl++f)=some nd->s<=last:=fun s nd h=>by
 rw[kP]at h
 cases hk:yA s (bY q gl)with
 | none=>rw[hk]at h;exact(hf _ _ h).2
 | some n2=>
  obtain⟨n3,h3⟩:=uB (List.mem_map.2 ⟨_,aQ (kO hk),rfl⟩);have:=hq _ _ h3;simp only at this;omega
theorem kU.perm_one {α:Type}{Q:Ptr->Option Nd.Node}{R:Nd.Node->α->List Ptr->Prop}{ps:List Ptr}{t:α}{S:List Ptr}(h:kU Q R ps [t] S): ∃p nd S1,ps=[p]/\Q p=some nd/\R nd t S1/\S=p::S1:=by
 match ps,h with
 | [p],⟨nd,S1,S2,a,b,c,e⟩=>exact⟨p,nd,S1,rfl,a,b,by simp only[kU]at c;rw[e,c,List.append_nil]⟩
 | _::_::_,⟨_,_,_,_,_,c,_⟩=>exact c.elim
 | [],h=>exact h.elim
theorem CutsN.one_inv {nd:Nd.Node}{nds:List Nd.Node}{ss:List Str}(h:CutsN nd nds ss)(hz:Nd.size nd<=500):nds=[nd]/\ss=[]:=by
 cases h with
 | one _=>exact⟨rfl,rfl⟩
 | more h1=>omega
theorem CutsN.more_inv {nd:Nd.Node}{nds:List Nd.Node}{ss:List Str}(h:CutsN nd nds ss)(hz:500<Nd.size nd):ss≠[]:=by
 cases h with
 | one h1=>omega
 | more h1=>simp
end Go.Eng.Sh
end
section
set_option maxRecDepth 20000
namespace Go.Eng.Sh
open Go.Nd (Ptr sumL leafOf Kvs)
open Go.Bt
variable {E:Ev}
def zJX (E:Ev)(H0 H':AH)(At M:Nat)(d c dr:AV)(low top:Nat)(kv:Kvs)(T:List Ptr):Prop:= ∃gl root es q last dr' T',TI (E.drop gl) H' At M d c root es q last dr'/\Stp (fun B=>B=At\/B=M\/Blk dr B) H0 H'/\(∀B,Blk dr' B->Blk dr B\/H0.next<=B)/\(∀s nd,yA s q=some nd->s<=last)/\q.length<=last/\low<=last/\last<=top/\vU E q root kv T'/\(dsk T'++(E.drop gl).dl).Perm (dsk T++E.dl)/\gl.length<=100
theorem zJX.mono {H0 H':AH}{At M:Nat}{d c dr:AV}{low low' top top':Nat}{kv:Kvs}{T:List Ptr}(h:zJX E H0 H' At M d c dr low top kv T)(hl:low'<=low)(ht:top<=top'):zJX E H0 H' At M d c dr low' top' kv T:=by
 obtain⟨gl,root,es,q,last,dr',T',h1,h2,h3,h4,h5,h6,h7,h8,h9,h10⟩:=h;exact⟨gl,root,es,q,last,dr',T',h1,h2,h3,h4,h5,by omega,by omega,h8,h9,h10⟩
theorem zKH {q f:PN}{p:Ptr}{nd:Nd.Node}(h:Qf E q f p=some nd):0<=p.sum:=by
 obtain⟨s,rfl,_⟩ | ⟨_,h2⟩:=wS h
 .simp[pp]
 .obtain⟨a,birth,kind,body,rfl,_⟩:=Ev.K_iff.1 h2;simp[u4]
theorem zH1 (D:Dyn)(n:Nat){H0 H:AH}{At Ac F M:Nat}{d c dr:AV}{root0:Ptr}{es:List (AV×AV)}{q:PN}{fes:List (AV×AV)}{f:PN}{g:AV}{gl T:List Ptr}{last0 last:Nat}(ti:TI E H0 At M d c root0 es q last0 dr)(hq: ∀s nd,yA s q=some nd->s<=last0)
  (ch:Ch (Blk dr) H0 H At Ac F fes f g gl last0 last) (hgl: ∀p∈gl,∃nd,Qf E q [] p=some nd) (hl:last<=900000000) (hn:gl.length<n) (hql:q.length<=last0) (hdl:E.dl.length+gl.length<=900000000) (hTG:T.Perm gl) (hg1:gl.length<=100):
  ∃H',f126 D n [.ptr Ac 0, .agg [.int .i64 ((0:Nat):Int), .int .i64 ((0:Nat):Int), .int .u64 ((0:Nat):Int)]] H=some (.tuple [],H')/\zJX E H0 H' At M d c dr last last [] T:=by
 obtain⟨H',es',dr',e,ti',st,db⟩:=zH2 D n (root:=pZ) ti hq ch (fun p hp=>(hgl p hp).elim fun nd h=>zKH h) hl hn hql hdl;refine⟨H',e,gl,_,_,_,last,dr',[],ti',st,db,zCJ hq ch.fs ch.le, ?_,Nat.le_refl _,Nat.le_refl _, .inl ⟨rfl,rfl,rfl⟩,zD7 E (R:=[]) (Fr:=[]) (by simpa using hTG) (by simp) (by simp),hg1⟩;have h1:=aR gl q;have h2:=ch.fl;simp only[zM];omega
theorem aN (D:Dyn)(n:Nat){H0 H:AH}{At Ac F M h:Nat}{rp:Ptr}{d c dr:AV}{root0:Ptr}{es:List (AV×AV)}{q:PN}{fes:List (AV×AV)}{f:PN}{g:AV}{gl Fr R T:List Ptr}{last0 last:Nat}{nd:Nd.Node}{t:Bt.Tr h}{S:List Ptr}(ti:TI E H0 At M d c root0 es q last0 dr)(hq: ∀s nd,yA s q=some nd->s<=last0)
  (ch:Ch (Blk dr) H0 H At Ac F fes f g gl last0 last) (hgl: ∀p∈gl,∃nd,Qf E q [] p=some nd) (hl:last<=900000000) (hn:gl.length<n) (hql:q.length<=last0) (hdl:E.dl.length+gl.length<=900000000)
  (hs:Qf E q f rp=some nd) (rn:jB (Qf E q f) h nd t S) (wr:WR h t) (hT:(rp::S).Perm (Fr++R)) (hG:(gl++R).Nodup) (hFr: ∀p∈Fr,∃j,p=pp j/\last0<j) (hFn:Fr.Nodup) (hR: ∀p∈R,∃nd,Qf E q [] p=some nd) (hTG:T.Perm (gl++R)) (hg1:gl.length<=100):
  ∃H',f126 D n [.ptr Ac 0, .agg (y7 rp)] H=some (.tuple [],H')/\zJX E H0 H' At M d c dr last last (con h t) T:=by
 obtain⟨H',es',dr',e,ti',st,db⟩:=zH2 D n (root:=rp) ti hq ch (fun p hp=>(hgl p hp).elim fun nd h=>zKH h) hl hn hql hdl;obtain⟨nd1,mono⟩:=zLh hq (fun s nd h=>(ch.fs s nd h).1) hT hG hgl hFr hFn hR;refine⟨H',e,gl,_,_,_,last,dr',_,ti',st,db,zCJ hq ch.fs ch.le, ?_,Nat.le_refl _,Nat.le_refl _, .inr ⟨h,nd,t,S,mono rp (zH ..) nd hs,rn.mono (fun p hp nd hh=>mono p (zF _ hp) nd hh),wr,nd1,rfl,rfl⟩,zD7 E hTG hT fun p hp=>(hFr p hp).elim fun j h=>⟨j,h.1⟩,hg1⟩;have h1:=aR gl q;have h2:=ch.fl;simp only[zM];omega
theorem zJj (D:Dyn)(n:Nat)(hn:200000000<=n){H0 H:AH}{At Ac F M h:Nat}{d c dr u:AV}{root0:Ptr}{es:List (AV×AV)}{q:PN}{fes:List (AV×AV)}{f:PN}{g:AV}{gl Fr R T:List Ptr}{last0 last:Nat}{nd:Nd.Node}{t:Bt.Tr h}{S:List Ptr}(ti:TI E H0 At M d c root0 es q last0 dr)(hq: ∀s nd,yA s q=some nd->s<=last0)
  (ch:Ch (Blk dr) H0 H At Ac F fes f g gl last0 last) (hgl: ∀p∈gl,∃nd,Qf E q [] p=some nd) (hl:last<=700000000) (hgn:gl.length<n) (hql:q.length<=last0) (hu:kF (Blk dr) H g u nd)
  (rn:jB (Qf E q f) h nd t S) (wx:WX h none none t) (hS:S.Perm (Fr++R)) (hG:(gl++R).Nodup) (hFr: ∀p∈Fr,∃j,p=pp j/\last0<j/\j<=last) (hFn:Fr.Nodup) (hR: ∀p∈R,∃nd,Qf E q [] p=some nd) (hdl:E.dl.length+gl.length<=900000000) (hTG:T.Perm (gl++R)) (hg1:gl.length<=100):
  ∃H',f131 D n [.ptr Ac 0,u] H=some (.int .i64 ((0:Nat):Int),H')/\zJX E H0 H' At M d c dr last (last+7) (con h t) T:=by
 obtain⟨ks,vs0,ps,rfl,j1,j2,j3⟩:=id hu.1;obtain⟨H1,A3,b1,p1,g1,m1,n1⟩:=box ch.prs.ok (.cells [.bool nd.leaf,ks,vs0,ps] 119 1 false);have ch1:=ch.step p1;have hu1:=hu.prs p1;have hFr': ∀p∈Fr,∃j,p=pp j/\last0<j:=fun p hp=>by obtain⟨j,a,b,_⟩:=hFr p hp;exact⟨j,a,b⟩
 have e0:ld1 (.ptr A3 0) H1=some (.bool nd.leaf):=by rw[qV g1];rfl
 have e1:ld1 (.ptr A3 1) H1=some ks:=by rw[qV g1];rfl
 have e3:ld1 (.ptr A3 3) H1=some ps:=by rw[qV g1];rfl
 by_cases hk:nd.keys=[]
 ·
  have hk0:((nd.keys.length:Nat):Int)=((0:Nat):Int):=by rw[hk];rfl
  cases h with
  | zero=>
   obtain⟨hnd,rfl⟩:=rn;have hR0:R=[]:=by
    have:=hS.length_eq;simp only[qI,zM]at this;exact zL (by omega)
   rw[hR0,List.append_nil]at hTG;have ht:t=([]:Kvs):=List.map_eq_nil_iff.1 (show List.map Prod.fst (t:Kvs)=[]from(show(leafOf t).keys=[]from hnd▸hk));subst ht;obtain⟨H2,e2,dn⟩:=zH1 D n ti hq ch1 hgl (by omega) hgn hql hdl hTG hg1;refine⟨H2, ?_,dn.mono (Nat.le_refl _) (by omega)⟩;have e0':ld1 (.ptr A3 0) H1=some (.bool true):=by rw[e0,hnd];rfl
   have bs:xH [(0,1),(1,1),(2,1)] [.int .i64 ((0:Nat):Int), .int .i64 ((0:Nat):Int), .int .u64 ((0:Nat):Int)] []=some (.agg [.int .i64 ((0:Nat):Int), .int .i64 ((0:Nat):Int), .int .u64 ((0:Nat):Int)]):=rfl;simp(maxSteps:=999999)(disch:=omega) only[f131,eZ,b1,e1,j1.row.lnSl,hk0,e0',bs,e2,JW]
  | succ h=>
   obtain⟨r1,r2,r3,r4⟩:=id rn;obtain⟨w1,w2⟩:=id wx;rw[hk]at r2;have hlen:=w1.2.2.len;rw[<-r2]at hlen;obtain⟨t1,ht1⟩: ∃t1,t.2=[t1]:=by
    match ht:t.2,hlen with
    | [a],_=>exact⟨a,rfl⟩
   have hkb:=w1.2.2;rw[<-r2,ht1]at hkb;rw[ht1]at r4;obtain⟨k0,nd1,S1,hk1,q1,rn1,hS1⟩:=kU.perm_one r4;subst hS1;obtain⟨H2,e2,dn⟩:=aN D n ti hq ch1 hgl (by omega) hgn hql hdl q1 rn1 (WF.wr hkb) hS hG hFr' hFn hR hTG hg1;have e0':ld1 (.ptr A3 0) H1=some (.bool false):=by rw[e0,r1]
   have hcon:con (h+1) t=con h t1:=by simp only[con,ht1,zZ,List.flatMap_nil,List.append_nil]
   rw[hcon];refine⟨H2, ?_,dn.mono (Nat.le_refl _) (by omega)⟩;obtain⟨qk,ik,ik'⟩:=xV.at (l:=nd.kids) (j3.mono p1 (fun _ _ x=>x)).row (i:=0) (by rw[hk1];simp);have hkk:nd.kids[0]'(by rw[hk1];simp)=k0:=by simp[hk1]
   rw[hkk]at ik';simp(maxSteps:=999999)(disch:=omega) only[f131,eZ,b1,e1,j1.row.lnSl,hk0,e0',e3,ik,ik',e2,JW]
 ·
  have hk0: ¬((nd.keys.length:Nat):Int)=((0:Nat):Int):=by
   have:nd.keys.length≠0:=fun e=>hk (zL e)
   omega
  have hsh:=rn.shaped wx.gen (fun _=>hk) (jB.kidOk rn);have hz:Nd.size nd<=785:=by rw[rn.size];exact wx.sz
  obtain⟨pv,sv,H2,vs,nds,ss,e2,p2,hcut,oP,hpar,oS,bP,bS,bvs⟩:=zAL D n hn p1.ok hu1.1 hsh (by omega);obtain⟨ts,c1,c2⟩:=U9 hcut rn wx;have few:nds.length<=6:=by
   by_cases hb:Nd.size nd<=500
   .rw[(hcut.one_inv hb).1];simp
   .have:=(U8 c1 wx (.inr (by rw[<-rn.size];omega))).2.2.1;rw[c2.len];exact this
  have ch2:=ch1.step p2;obtain⟨kv,H3,e3',ch3,a3,o3,f3⟩:=zBa D n hn ch2 oP hpar (fun l hl B hB=>by
   rcases bvs l hl B hB with e | e
   .exact hu.2 B e
   .exact⟨fun hgB=>by have:=Rw.blk ch1.gg.row hgB;omega,fun hx=>by have:=ch1.xo B hx;have:=ch1.prs.next;omega⟩) (by omega) (by omega)
  have N1:=p1.next;have N2:=p2.next;have N3:=a3.1.next
  have hnone: ∀j,yA (last+1+j) f=none:=fun j=>by
   cases hk:yA (last+1+j) f with
   | none=>rfl
   | some n2=>have:=ch.fs _ _ hk;omega
  have hnew: ∀s nd',yA s (kR last nds)=some nd'->last0<s:=fun s nd' hs=>by have:=KI hs;have:=ch.le;omega
  have more: ∀p nd,Qf E q f p=some nd->Qf E q (f++kR last nds) p=some nd:=fun p nd hp=>UN hq hnew hp
  have at1: ∀j nd',nds[j]? =some nd'->Qf E q (f++kR last nds) (pp (last+1+j))=some nd':=fun j nd' hj=>by rw[UM,kP,hnone];simp only[ZO hj]
  have okv:xV H3 kv (pps last nds.length):=by
   have:=o3.row;rw[xV,ZH];exact this
  have lkv:=okv.lnSl;rw[ZH]at lkv;have t00: ¬(((0:Nat):Int)≠((0:Nat):Int)):=by omega
  by_cases hb:Nd.size nd<=500
  .obtain⟨rfl,rfl⟩:=hcut.one_inv hb;have hone:(([nd].length:Nat):Int)=((1:Nat):Int):=rfl;have wr:WR h t:=wx.wr (by
    cases h with
    | zero=>obtain⟨rfl,_⟩:=rn;intro e;exact hk (by rw[show t=([]:Kvs)from e];rfl)
    | succ h=>exact(show t.1≠[]from rn.2.1▸hk)) (by rw[<-rn.size];exact hb)
   have hfp: ∀p∈pp (last+1)::Fr,∃j,p=pp j/\last0<j:=fun p hp=>by
    rcases List.mem_cons.1 hp with rfl | hp
    .exact⟨_,rfl,by have:=ch.le;omega⟩
    .exact hFr' p hp
   have hfn:(pp (last+1)::Fr).Nodup:=List.nodup_cons.2 ⟨fun hp=>by
    obtain⟨j,e,_,hj⟩:=hFr _ hp;have:=QC e;omega,hFn⟩
   obtain⟨H4,e4,dn⟩:=aN D n (rp:=pp (last+1)) (t:=t) (S:=S) ti hq ch3 hgl (by simp;omega) hgn hql hdl (at1 0 nd rfl) (rn.mono fun p _ nd hp=>more p nd hp) wr (List.Perm.cons _ hS) hG hfp hfn hR hTG hg1;refine⟨H4, ?_,dn.mono (by simp) (by simp)⟩;obtain⟨qk,ik,ik'⟩:=xV.at okv (i:=0) (by simp[pps]);have hkk:(pps last [nd].length)[0]'(by simp[pps])=pp (last+1):=by simp[pps]
   rw[hkk]at ik';simp(maxSteps:=999999)(disch:=omega) only[f131,eZ,b1,e1,j1.row.lnSl,hk0,v7 g1 rfl,e2,qX,nth,t00,e3',lkv,hone,ik,ik',e4,X8]
  .have hss:=hcut.more_inv (by omega);obtain⟨w1,w2,w3,_⟩:=U8 c1 wx (.inr (by rw[<-rn.size];omega));have hlen:=w1.2.2.len;simp only at hlen;have hssl:ss.length≠0:=fun e=>hss (zL e)
   have hnl:=c2.len;have hone: ¬((nds.length:Nat):Int)=((1:Nat):Int):=by omega
   have c2':zDy (Qf E q (f++kR last nds)) h nds ts S:=by
    have mono: ∀ {nds':List Nd.Node} {ts':List (Bt.Tr h)} {S':List Ptr},zDy (Qf E q f) h nds' ts' S'->zDy (Qf E q (f++kR last nds)) h nds' ts' S':=by
     intro nds'
     induction nds' with
     | nil=>intro ts' S' hp;cases ts' with
      | nil=>exact hp
      | cons=>exact hp.elim
     | cons a nds' ih=>intro ts' S' hp;cases ts' with
      | nil=>exact hp.elim
      | cons b ts'=>
       obtain⟨S1,S2,a1,a2,a3⟩:=hp;exact⟨S1,S2,a1.mono fun p _ nd hp=>more p nd hp,ih a2,a3⟩
    exact mono c2
   obtain⟨S2,r2,pm2⟩:=c2'.kids last at1;have g31:H3.h.get A3=some (.cells [.bool nd.leaf,ks,vs0,ps] 119 1 false):=by
    rw[a3.1.keep _ (by omega) (fun hc=>by
     rcases hc with e | e | e
     .have:=ch.ltC;omega
     .have:=ch.ltF;omega
     .have:=Rw.blk ch.gg.row e;omega)]
    exact Prs.get p2 p1.ok g1
   have oS3:Own 1 9 H3 sv ss.length (ss.map Go.Eng.S):=oS.mono a3.1 (fun B hB hc=>by
    have:=bS B hB;rcases hc with e | e | e
    .have:=ch.ltC;omega
    .have:=ch.ltF;omega
    .have:=Rw.blk ch.gg.row e;omega)
   have hG4:yK H3 (.agg [.bool false,sv, .nilSlice,kv]) ⟨false,ss,[],pps last nds.length⟩:=⟨sv, .nilSlice,kv,rfl, .inl oS3, .inl (Own.nil ..), .inl (by
    simp only[ZH];exact o3)⟩
   have hA4:kF (Blk dr) H3 g (.agg [.bool false,sv, .nilSlice,kv]) ⟨false,ss,[],pps last nds.length⟩:=⟨hG4,fun B hB=>by
    have hge:H.next<=B:=by
     rcases jK.1 hB with e | e | e
     .have:=bS B e;omega
     .exact(Blk.nil.1 e).elim
     .have:=f3 B e;omega
    exact⟨fun hgB=>by have:=Rw.blk ch.gg.row hgB;omega,fun hx=>by have:=ch.xo B hx;have:=ch.prs.next;omega⟩⟩
   obtain⟨H4,e4,ch4,a4⟩:=zHG D n ch3 hA4 (by omega);have hne4:yA (last+nds.length+1) (f++kR last nds)=none:=by
    cases hk:yA (last+nds.length+1) (f++kR last nds)with
    | none=>rfl
    | some n2=>have:=ch3.fs _ _ hk;omega
   have more4: ∀p nd',Qf E q (f++kR last nds) p=some nd'->Qf E q (f++kR last nds++[(last+nds.length+1,⟨false,ss,[],pps last nds.length⟩)]) p=some nd':=fun p nd' hp=>UN hq (fun s nd hs=>by
    simp only[yA]at hs;split at hs
    .have:=ch.le;omega
    .cases hs) hp
   have at4:Qf E q (f++kR last nds++[(last+nds.length+1,⟨false,ss,[],pps last nds.length⟩)]) (pp (last+nds.length+1))=some ⟨false,ss,[],pps last nds.length⟩:=by
    rw[UM,kP,hne4];simp[yA]
   have rn4:jB (Qf E q (f++kR last nds++[(last+nds.length+1,⟨false,ss,[],pps last nds.length⟩)])) (h+1) ⟨false,ss,[],pps last nds.length⟩ (ss,ts) S2:=⟨rfl,rfl,rfl,r2.mono (fun p _ nd hp=>more4 p nd hp) (fun nd t S1 _ hr=>hr.mono fun p _ nd hp=>more4 p nd hp)⟩;have hsum:=ZE (ks:=ss) (fun k hk=>(w1.1 k hk).1);have wr4:WR (h+1) (ss,ts):=⟨w1,hss,by simp only[jL];omega⟩;have hfp: ∀p∈pp (last+nds.length+1)::(pps last nds.length++Fr),∃j,p=pp j/\last0<j:=fun p hp=>by
    have:=ch.le;rcases List.mem_cons.1 hp with rfl | hp
    .exact⟨_,rfl,by omega⟩
    .rcases List.mem_append.1 hp with hp | hp
     .obtain⟨j,rfl,h1,h2⟩:=d9 hp;exact⟨_,rfl,by omega⟩
     .exact hFr' p hp
   have hfn:(pp (last+nds.length+1)::(pps last nds.length++Fr)).Nodup:=by
    refine List.nodup_cons.2 ⟨fun hp=> ?_,List.nodup_append.2 ⟨J5 _ _,hFn,fun a ha b hb e=> ?_⟩⟩
    .rcases List.mem_append.1 hp with hp | hp
     .obtain⟨j,e,h1,h2⟩:=d9 hp;have:=QC e;omega
     .obtain⟨j,e,h1,h2⟩:=hFr _ hp;have:=QC e;omega
    .obtain⟨j,rfl,h1,h2⟩:=d9 ha;obtain⟨j',rfl,h3,h4⟩:=hFr _ hb;have:=QC e;omega
   have hT:(pp (last+nds.length+1)::S2).Perm ((pp (last+nds.length+1)::(pps last nds.length++Fr))++R):=by
    rw[List.cons_append,List.append_assoc];exact List.Perm.cons _ (pm2.trans (List.Perm.append_left _ hS))
   obtain⟨H5,e5,dn⟩:=aN D n (rp:=pp (last+nds.length+1)) ti hq ch4 hgl (by omega) hgn hql hdl at4 rn4 wr4 hT hG hfp hfn hR hTG hg1;have hcon:con (h+1) (ss,ts)=con h t:=w2;rw[hcon]at dn;refine⟨H5, ?_,dn.mono (by omega) (by omega)⟩;simp(maxSteps:=999999)(disch:=omega) only[f131,eZ,b1,e1,j1.row.lnSl,hk0,v7 g1 rfl,e2,qX,nth,t00,e3',lkv,hone,zMu oS3.row.isCell okv.isCell,e4,e5,X8]
end Go.Eng.Sh
end
section
set_option maxRecDepth 20000
namespace Go.Bt
open Go.Nd (Str Kvs leafOf)
theorem WR.gen: ∀ {h:Nat} {t:Tr h},WR h t->Gen h none none t
 | 0,_,w=>w.1
 | _+1,_,w=>w.1
theorem WR.sz: ∀ {h:Nat} {t:Tr h},WR h t->jD h t<=500
 | 0,_,w=>w.2.2
 | _+1,_,w=>w.2.2
theorem zCX {h:Nat} : ∀ {ts:List (Tr h)},(∀t∈ts,2 ^ h<=(con h t).length)->ts.length*2 ^ h<=(ts.flatMap (con h)).length
 | [],_=>by simp
 | t::ts,ih=>by
  have h1:=ih t (zH ..);have h2:=zCX (ts:=ts) fun t ht=>ih t (zF _ ht)
  simp only[zP,zZ,zM,Nat.add_mul,Nat.one_mul];omega
theorem zFV {h:Nat}{lo hi:Bd}{t:List Str×List (Tr h)}(ih: ∀ {lo hi:Bd} {t:Tr h},WF h lo hi t->2 ^ h<=(con h t).length)(w:Inn (WF h) lo hi t)(hne:t.1≠[]):2 ^ (h+1)<=(t.2.flatMap (con h)).length:=by
 have hl:=w.2.2.len;have hk:t.1.length≠0:=fun e=>hne (zL e)
 have hf:=zCX (ts:=t.2) fun x hx=>by
  obtain⟨i,hi,rfl⟩:=qU hx;exact ih (KB.at w.2.2 (zG hi))
 have h2:2*2 ^ h<=t.2.length*2 ^ h:=qH _ (by omega);rw[Nat.pow_succ];omega
theorem WF.many: ∀ {h:Nat} {lo hi:Bd} {t:Tr h},WF h lo hi t->2 ^ h<=(con h t).length
 | 0,_,_,t,w=>by
  have:List.length (t:Kvs)≠0:=fun e=>w.2.1 (zL e)
  show 1<=List.length (t:Kvs);omega
 | _+1,_,_,_,w=>zFV WF.many w.1 w.2.1
theorem WR.many: ∀ {h:Nat} {t:Tr h},WR h t->2 ^ h<=(con h t).length
 | 0,t,w=>by
  have:List.length (t:Kvs)≠0:=fun e=>w.2.1 (zL e)
  show 1<=List.length (t:Kvs);omega
 | _+1,_,w=>zFV WF.many w.1 w.2.1
theorem WR.low {h:Nat}{t:Tr h}(w:WR h t)(hk:(con h t).length<=1000000000):h<=29:=by
 have:=w.many;rcases Nat.lt_or_ge h 30 with h1 | h1
 .omega
 .have h2:2 ^ 30<=2 ^ h:=Nat.pow_le_pow_right (by decide) h1;have h3:(2:Nat) ^ 30=1073741824:=by decide
  omega
end Go.Bt
namespace Go.Eng.Sh
open Go.Nd (Ptr sumL leafOf Kvs)
open Go.Bt
variable {E:Ev}
theorem cbx:(∀A o,yC (.ptr A o)=[.ptr A o])/\yC .nilPtr=[.nilPtr]/\yC .nilFunc=[.nilFunc]/\(∀k z,yC (.int k z)=[.int k z])/\(∀l,yC (S l)=[S l])/\(∀ed K V,yC (edF ed K V)=[edF ed K V])/\(∀A o,aveq (.ptr A o) (.ptr A o)=true):=
 ⟨fun _ _=>rfl,rfl,rfl,fun _ _=>rfl,fun _=>rfl,fun ed _ _=>by cases ed<;>rfl,fun _ _=>by simp[aveq]⟩
theorem zMr {H H':AH}{At Ac F last:Nat}(s:Prs H H')(gC:H'.h.get Ac=some (.cells [.ptr At 0, .int .u64 (last:Nat), .map F, .nilSlice] 242 1 false))(gF:H'.h.get F=some (.map [10] []))(dC:H.next<=Ac)(dF:H.next<=F)(ne:Ac≠F){X:Nat->Prop}(hX: ∀B,X B->B<H.next):
  Ch X H H' At Ac F [] [] .nilSlice [] last last:=
 ⟨s,gC,gF,trivial,Own.nil ..,fun B hB=>(Blk.nil.1 hB).elim,fun _ h=>by simp at h,dC,dF,ne,fun _ _ h=>by simp[yA]at h,Nat.le_refl _,by simp,by simp,by simp,fun _ h=>by simp at h,hX⟩
theorem zAQ (M n:Nat)(hM:300000000<=M)(hn:300000000<=n){H:AH}{At M0 K V last:Nat}{d c dr:AV}{root:Ptr}{es:List (AV×AV)}{q:PN}{kv:Kvs}{T:List Ptr}{ed:Ed}(ti:TI E H At M0 d c root es q last dr)(hq: ∀s nd,yA s q=some nd->s<=last)(hql:q.length<=last)(hl:last<=500000000)
  (hr:vU E q root kv T) (hdl:E.dl.length<=800000000) (hkv:kv.length<=1000000000) (ho:ed.ok) (hb:edB H ed K V):
  ∃(e:Nat) (H':AH),f82 (dy (M+2)) n [.ptr At 0,S ed.key,edF ed K V] H=some (.int .i64 (e:Nat),H')/\
   match ed.run kv with
   | none=>e=5/\Prs H H'
   | some kv'=>e=0/\zJX E H H' At M0 d c dr last (last+200) kv' T:=by
 obtain⟨H1,B2,b1,p1,g1,m1,n1⟩:=box ti.ok (.cells [.ptr At 0] 31 1 false);obtain⟨H2,B4,b2,p2,g2,m2,n2⟩:=box p1.ok (.cells [S ed.key] 9 1 false);obtain⟨H3,B3,b3,p3,g3,m3,n3⟩:=box p2.ok (.cells [edF ed K V] 162 1 false);obtain⟨H4,F,b4,p4,g4,m4,n4⟩:=box p3.ok (.map [10] []);obtain⟨H5,Ac,b5,p5,g5,m5,n5⟩:=box p4.ok (.cells [.ptr At 0, .int .u64 (last:Nat), .map F, .nilSlice] 242 1 false);obtain⟨H6,B6,b6,p6,g6,m6,n6⟩:=box p5.ok (.cells [.nilPtr] 240 1 false);obtain⟨H7,e7,x7,s7⟩:=Box.st (⟨_,g6⟩:Box H6 B6 .nilPtr) p6.ok (x:= .ptr Ac 0) rfl;have P12:=p1.trans p2;have P13:=P12.trans p3;have P15:=(P13.trans p4).trans p5;have P16:=P15.trans p6;have P17:Prs H H7:=P16.fresh s7 (fun B hB=>by have:=P15.next;omega)
 have N1:=p1.next;have N2:=p2.next;have N3:=p3.next;have N4:=p4.next;have N5:=p5.next;have N6:=p6.next;have N7:=s7.next
 have keep7: ∀ {A:Nat} {o:AObj},H5.h.get A=some o->H7.h.get A=some o:=fun {A o} hg=>by
  have:=p5.ok.lt hg;rw[s7.keep _ (by omega) (by omega)];exact Prs.get p6 p5.ok hg
 have g57:=keep7 g5;have g47:=keep7 (Prs.get p5 p4.ok g4);have ch:Ch (Blk dr) H H7 At Ac F [] [] .nilSlice [] last last:=zMr P17 g57 g47 (by omega) (by omega) (by omega) (fun B hB=>ti.dg.lt hB);have ti7:=ti.prs P17;have ti3:=ti.prs P13;have k2:Box H7 B2 (.ptr At 0):=⟨_,keep7 (Prs.get (p4.trans p5) p3.ok (Prs.get p3 p2.ok (Prs.get p2 p1.ok g1)))⟩;have k3:Box H7 B3 (edF ed K V):=⟨_,keep7 (Prs.get (p4.trans p5) p3.ok g3)⟩;have k4:Box H7 B4 (S ed.key):=⟨_,keep7 (Prs.get (p4.trans p5) p3.ok (Prs.get p3 p2.ok g2))⟩;have l2:ld1 (.ptr B2 0) H3=some (.ptr At 0):=by rw[qV (Prs.get p3 p2.ok (Prs.get p2 p1.ok g1))];rfl
 have l6:ld1 (.ptr At 6) H3=some (.int .u64 (last:Nat)):=by rw[qV ti3.gT];rfl
 have l2':ld1 (.ptr At 2) H7=some (.int .i64 root.at_):=by rw[qV ti7.gT];rfl
 have bs:xH [(0,1),(1,1),(2,1),(3,1)] [.nilPtr, .int .u64 ((0:Nat):Int), .nilMap, .nilSlice] [(0, .ptr At 0),(1, .int .u64 (last:Nat)),(2, .map F)]=some (.agg [.ptr At 0, .int .u64 (last:Nat), .map F, .nilSlice]):=rfl;have bs1:xH [(0,1),(1,1),(2,1),(3,1)] [.bool false, .nilSlice, .nilSlice, .nilSlice] [(0, .bool true)]=some (.agg [.bool true, .nilSlice, .nilSlice, .nilSlice]):=rfl;have t00: ¬(((0:Nat):Int)≠((0:Nat):Int)):=by omega
 have t50:(((5:Nat):Int)≠((0:Nat):Int)):=by omega
 rcases hr with⟨rfl,rfl,rfl⟩ | ⟨h,nd,t,S0,hs,rn,wr,nd0,rfl,rfl⟩
 ·
  have hroot:pZ.at_=((0:Nat):Int):=rfl;rw[hroot]at l2';have wl:yK H7 (.agg [.bool true, .nilSlice, .nilSlice, .nilSlice]) (leafOf []):=⟨.nilSlice, .nilSlice, .nilSlice,rfl, .inl (Own.nil ..), .inl (Own.nil ..), .inl (Own.nil ..)⟩;have wlf:Lf none none ([]:Kvs):=⟨trivial,by simp⟩;obtain⟨u,H8,_,e8,p8,w8⟩:=zGX (M+1) n (by omega) P17.ok wl wlf (by decide) ho (hb.prs ti.ok P17);obtain⟨lu,rfl,lul,luc⟩:=w8.1.cells;obtain⟨H9,B8,b9,p9,g9,m9,n9⟩:=box p8.ok (.cells [.bool false, .nilSlice, .nilSlice, .nilSlice] 119 1 false);obtain⟨H10,e10,g10,s10,n10⟩:=yD p9.ok g9 (l':=lu) lul luc;have e10':stN 4 (.ptr B8 0) (.agg lu) H9=some (qZ,H10):=e10;have N8:=p8.next;have N9:=p9.next;have N10:=s10.next
  have P70:Prs H7 H10:=(p8.trans p9).fresh s10 (fun B hB=>by omega);have ch10:=ch.step P70
  cases hrun:ed.run []with
  | none=>
   have hel:edL ed []=(nd0,5):=by simp only[edL,hrun]
   rw[hel]at e8;refine⟨5,H10, ?_,rfl,P17.trans P70⟩;simp(maxSteps:=999999)(disch:=omega) only[f82,eZ,b1,b2,b3,cbx,l2,l6,mkM,b4,bs,b5,b6,e7,k2.ld,l2',k3.ld,bs1,e8,qX,nth,b9,e10',t50,ne_eq,not_false_eq_true]
  | some kv'=>
   have hel:edL ed []=(leafOf kv',0):=by simp only[edL,hrun]
   rw[hel]at e8 w8;obtain⟨wf1,wf2⟩:=Ed.leaf (lo:=none) (hi:=none) wlf trivial trivial ho hrun;have hne:kv'≠[]:=by
    cases ed with
    | put k v=>simp only[Ed.run,zC]at hrun;subst hrun;simp[Nd.putP]
    | del k=>simp[Ed.run,Nd.lookP]at hrun
   have hu10:kF (Blk dr) H10 .nilSlice (.agg lu) (leafOf kv'):=⟨(w8.1.prs p9).stp s10 (fun B hB e=>by
    have:=w8.1.lt hB;omega),fun B hB=>⟨fun hg=>(Blk.nil.1 hg).elim,fun hx=>by have:=w8.2 B hB;have:=ti.dg.lt hx;omega⟩⟩
   obtain⟨H11,e11,ch11,a11⟩:=zHG (dy (M+2)) n ch10 hu10 (by omega);have hQ:Qf E q ([]++[(last+1,leafOf kv')]) (pp (last+1))=some (leafOf kv'):=by rw[UM];simp[yA]
   obtain⟨H12,e12,dn⟩:=aN (dy (M+2)) n (rp:=pp (last+1)) (h:=0) (t:=kv') (S:=[]) (Fr:=[pp (last+1)]) (R:=[]) (T:=[]) ti hq ch11 (by simp) (by omega) (by simp;omega) hql (by simp;omega) hQ ⟨rfl,rfl⟩ ⟨wf1,hne,by simp only[bL]at wf2;omega⟩ (by simp) (by simp) (by
    intro p hp;simp only[List.mem_singleton]at hp;subst hp;exact⟨_,rfl,by omega⟩) (by simp) (by simp) (by simp) (by simp)
   refine⟨0,H12, ?_,rfl,dn.mono (by omega) (by omega)⟩;have k6:ld1 (.ptr B6 0) H10=some (.ptr Ac 0):=(x7.mono s7.ok P70 (fun x=>x)).ld;have k6':ld1 (.ptr B6 0) H11=some (.ptr Ac 0):=by
    refine((x7.mono s7.ok P70 (fun x=>x)).mono P70.ok a11.1 (fun hc=> ?_)).ld;rcases hc with e | e | e
    .omega
    .omega
    .exact(Blk.nil.1 e).elim
   simp(maxSteps:=999999)(disch:=omega) only[f82,eZ,b1,b2,b3,cbx,l2,l6,mkM,b4,bs,b5,b6,e7,k2.ld,l2',k3.ld,bs1,e8,qX,nth,b9,e10',t00,k6,v7 g10 lul,e11,yV k6' (cbx.2.2.2.2.2.2 _ _),e12]
 ·
  have h10: ¬root.at_=((0:Nat):Int):=by have:=zMJ hs;omega
  have hh:=wr.low hkv;obtain⟨H8,B1,b8,p8,g8,m8,n8⟩:=box P17.ok (.cells [.int .i64 ((0:Nat):Int)] 3 1 false);obtain⟨H9,e9,x9,s9⟩:=Box.st (⟨_,g8⟩:Box H8 B1 (.int .i64 ((0:Nat):Int))) p8.ok (x:= .int .i64 ((0:Nat):Int)) rfl;obtain⟨H10,B5,b10,p10,g10,m10,n10⟩:=box s9.ok (.cells [.nilFunc] 121 1 false);obtain⟨H11,e11,x11,s11⟩:=Box.st (⟨_,g10⟩:Box H10 B5 .nilFunc) p10.ok (x:=zE4 B1 B2 B3 B4 B5 B6) rfl;obtain⟨H12,B8,b12,p12,g12,m12,n12⟩:=box s11.ok (.cells [.bool false, .nilSlice, .nilSlice, .nilSlice] 119 1 false);have N8:=p8.next;have N9:=s9.next;have N10:=p10.next;have N11:=s11.next;have N12:=p12.next
  have P79:Prs H7 H9:=p8.fresh s9 (fun B hB=>by omega);have P7b:Prs H7 H11:=(P79.trans p10).fresh s11 (fun B hB=>by omega);have P7c:Prs H7 H12:=P7b.trans p12;have ch12:=ch.step P7c;have ti12:=ti7.prs P7c;have ti11:=ti7.prs P7b;have x9':Box H12 B1 (.int .i64 ((0:Nat):Int)):=((x9.mono s9.ok p10 (fun x=>x)).mono p10.ok s11 (by omega)).mono s11.ok p12 (fun x=>x);have x11':Box H12 B5 (zE4 B1 B2 B3 B4 B5 B6):=x11.mono s11.ok p12 (fun x=>x);have k6:Box H12 B6 (.ptr Ac 0):=x7.mono s7.ok P7c (fun x=>x);have cl:Cl H H12 At Ac K V ed B1 B2 B3 B4 B5 B6 0:=⟨x9',k2.mono s7.ok P7c (fun x=>x),k3.mono s7.ok P7c (fun x=>x),k4.mono s7.ok P7c (fun x=>x),x11',k6,hb,by omega,by omega,by omega,by omega,by omega,by omega⟩;have hold: ∀kv∈es,∀B,wN kv.2 B->B<H.next:=fun kv hkv B hB=>by
   obtain⟨nd2,hn2⟩:=ti.pq.mem kv hkv;exact hn2.lt hB
  have hne:0<h->nd.keys≠[]:=fun h0=>by
   cases h with
   | zero=>omega
   | succ h=>rw[rn.2.1];exact wr.2.1
  obtain⟨u,e,g',H13,e13,s13,⟨lu,rfl,lul,luc⟩,hout⟩:=zMi ti hold ti.ds hq ho h M (M+1) (by omega) (by omega) ch12 cl hs rn wr.gen wr.sz hne (by cases h<;>trivial) (by cases h<;>trivial) (by omega) (by omega) (by simp;omega);have hB8: ¬(chg Ac F .nilSlice B8\/B8=B1):=fun hc=>by
   rcases hc with(e | e | e) | e
   .omega
   .omega
   .exact(Blk.nil.1 e).elim
   .omega
  have g813:H13.h.get B8=some (.cells [.bool false, .nilSlice, .nilSlice, .nilSlice] 119 1 false):=by rw[s13.keep _ n12 hB8];exact g12
  have k613:Box H13 B6 (.ptr Ac 0):=k6.mono p12.ok s13 (fun hc=>by
   rcases hc with(e | e | e) | e
   .omega
   .omega
   .exact(Blk.nil.1 e).elim
   .omega)
  obtain⟨H14,e14,g14,s14,n14⟩:=yD s13.ok g813 (l':=lu) lul luc;have e14':stN 4 (.ptr B8 0) (.agg lu) H13=some (qZ,H14):=e14;have k614:ld1 (.ptr B6 0) H14=some (.ptr Ac 0):=(k613.mono s13.ok s14 (by omega)).ld;have l2b:ld1 (.ptr B2 0) H11=some (.ptr At 0):=(k2.mono s7.ok P7b (fun x=>x)).ld;have lr:ldN 3 (.ptr At 2) H11=some (.agg (y7 root)):=by rw[y6 ti11.gT];rfl
  have x11l:=x11.ld;have hcd:callV [(127,f127 (dy (M+2)) n),(126,f126 (dy (M+2)) n),(131,f131 (dy (M+2)) n)] (dy (M+2)) (zE4 B1 B2 B3 B4 B5 B6) [.agg (y7 root)] H12=some (.tuple [.agg lu, .int .i64 ((e:Nat):Int)],H13):=e13;have hdf:(.func 128 [] [.ptr B1 0, .ptr B2 0, .ptr B3 0, .ptr B4 0, .ptr B5 0, .ptr B6 0]:AV)=zE4 B1 B2 B3 B4 B5 B6:=rfl
  cases hrun:ed.run (con h t)with
  | none=>
   rw[hrun]at hout;have hout:e=5:=hout;subst hout;refine⟨5,H14, ?_,rfl,⟨s14.ok,by have:=s13.next;have:=s14.next;omega,fun B hB _=> ?_⟩⟩
   .simp(maxSteps:=999999)(disch:=omega) only[f82,eZ,b1,b2,b3,cbx,l2,l6,mkM,b4,bs,b5,b6,e7,k2.ld,l2',h10,b8,e9,b10,hdf,e11,x11l,l2b,lr,b12,hcd,qX,nth,e14',t50,ne_eq,not_false_eq_true]
   .have:=s13.next
    rw[s14.keep B (by omega) (by omega),s13.keep B (by omega) (fun hc=>by
     rcases hc with(e | e | e) | e
     .omega
     .omega
     .exact(Blk.nil.1 e).elim
     .omega),P7c.keep B (by omega) (fun x=>x),P17.keep B hB (fun x=>x)]
  | some kv'=>
   rw[hrun]at hout;obtain⟨rfl,fes',f',gl',last',d',nd',S',G,R,Fr,t',ch13,cl13,hA13,rn13,wx13,con13,nk13,hgl,hG,hl1,hl2,hd',pm1,pm2,frn,fr1,more,bg⟩:=hout;have ch14:=ch13.stb g813 s14 (by omega) (by omega);have hA14:=hA13.stb g813 s14;rw[List.nil_append]at hgl;subst hgl;have hSn:(root::S0).Nodup:=nd0;have hGR:(gl'++R).Nodup:=pm2.nodup_iff.1 hSn;have hall: ∀p∈root::S0,∃nd,Qf E q [] p=some nd:=fun p hp=>by
    rcases List.mem_cons.1 hp with rfl | hp
    .exact⟨nd,hs⟩
    .exact jB.here rn p hp
   have hin: ∀p∈gl'++R,∃nd,Qf E q [] p=some nd:=fun p hp=>hall p (pm2.mem_iff.2 hp)
   have hglp: ∀p∈gl',∃nd,Qf E q [] p=some nd:=fun p hp=>hin p (qE _ hp)
   obtain⟨H15,e15,dn⟩:=zJj (dy (M+2)) n (by omega) ti hq ch14 hglp (by omega) (by omega) hql hA14 rn13 wx13 pm1 hGR fr1 frn (fun p hp=>hin p (qK _ hp)) (by omega) pm2 (by omega);rw[con13]at dn;refine⟨0,H15, ?_,rfl,dn.mono (by omega) (by omega)⟩;simp(maxSteps:=999999)(disch:=omega) only[f82,eZ,b1,b2,b3,cbx,l2,l6,mkM,b4,bs,b5,b6,e7,k2.ld,l2',h10,b8,e9,b10,hdf,e11,x11l,l2b,lr,b12,hcd,qX,nth,e14',t00,k614,v7 g14 lul,e15]
end Go.Eng.Sh
end
section
set_option maxRecDepth 20000
namespace Go.Eng.Sh
open Go.Nd (Ptr sumL leafOf Kvs mayK putP delP lookP)
open Go.Bt
variable {E:Ev}
def vO (d c:AV)(E:Ev)(H:AH)(At M L:Nat)(W:Nat->Prop)(kv:Kvs)(T:List Ptr):Prop:= ∃dr root es q last,isCell c=true/\TI E H At M d c root es q last dr/\(∀s nd,yA s q=some nd->s<=last)/\q.length<=last/\last<=L/\E.dl.length<=L/\vU E q root kv T/\ ∀B,W B↔B=At\/B=M\/Blk dr B
def c9 (d c:AV)(E:Ev)(H:AH)(At M L:Nat)(W:Nat->Prop)(root:Ptr)(q:PN)(kv:Kvs)(T:List Ptr):Prop:= ∃dr es last,isCell c=true/\TI E H At M d c root es q last dr/\(∀s nd,yA s q=some nd->s<=last)/\q.length<=last/\last<=L/\E.dl.length<=L/\vU E q root kv T/\ ∀B,W B↔B=At\/B=M\/Blk dr B
theorem c9.d {d c:AV}{E:Ev}{H:AH}{At M L:Nat}{W:Nat->Prop}{root:Ptr}{q:PN}{kv:Kvs}{T:List Ptr}(h:c9 d c E H At M L W root q kv T):vO d c E H At M L W kv T:=by
 obtain⟨dr,es,last,h⟩:=h;exact⟨dr,root,es,q,last,h⟩
theorem vO.x {d c:AV}{E:Ev}{H:AH}{At M L:Nat}{W:Nat->Prop}{kv:Kvs}{T:List Ptr}(h:vO d c E H At M L W kv T): ∃root q,c9 d c E H At M L W root q kv T:=by
 obtain⟨dr,root,es,q,last,h⟩:=h;exact⟨root,q,dr,es,last,h⟩
theorem vO.prs {d c:AV}{H H':AH}{At M L:Nat}{W:Nat->Prop}{kv:Kvs}{T:List Ptr}(h:vO d c E H At M L W kv T)(s:Prs H H'):vO d c E H' At M L W kv T:=by
 obtain⟨dr,root,es,q,last,hc,ti,h2⟩:=h;exact⟨dr,root,es,q,last,hc,ti.prs s,h2⟩
theorem vO.up {d c:AV}{H:AH}{At M L L':Nat}{W:Nat->Prop}{kv:Kvs}{T:List Ptr}(h:vO d c E H At M L W kv T)(hl:L<=L'):vO d c E H At M L' W kv T:=by
 obtain⟨dr,root,es,q,last,hc,ti,h2,h3,h4,h5,h6,h7⟩:=h;exact⟨dr,root,es,q,last,hc,ti,h2,h3,by omega,by omega,h6,h7⟩
theorem vO.okH {d c:AV}{H:AH}{At M L:Nat}{W:Nat->Prop}{kv:Kvs}{T:List Ptr}(h:vO d c E H At M L W kv T):H.ok:=by
 obtain⟨dr,root,es,q,last,hc,ti,_⟩:=h;exact ti.ok
theorem vO.lt {d c:AV}{H:AH}{At M L:Nat}{W:Nat->Prop}{kv:Kvs}{T:List Ptr}(h:vO d c E H At M L W kv T): ∀B,W B->B<H.next:=by
 obtain⟨dr,root,es,q,last,hc,ti,_,_,_,_,_,hW⟩:=h;intro B hB;rcases(hW B).1 hB with rfl | rfl | e
 .exact ti.ok.lt ti.gT
 .exact ti.ok.lt ti.gM
 .exact ti.dg.lt e
def AdT (W:Nat->Prop)(H:AH)(W':Nat->Prop)(H':AH):Prop:=Stp W H H'/\ ∀B,W' B->W B\/H.next<=B
theorem AdT.prs {W:Nat->Prop}{H H':AH}(s:Prs H H'):AdT W H W H':=⟨s.mono fun _ _ x=>x.elim,fun _ h=> .inl h⟩
theorem AdT.trans {W W1 W2:Nat->Prop}{H H1 H2:AH}(h:AdT W H W1 H1)(k:AdT W1 H1 W2 H2):AdT W H W2 H2:=by
 refine⟨Stp.thr h.1 k.1 fun B hB=> ?_,fun B hB=> ?_⟩
 .rcases h.2 B hB with e | e
  .exact .inr e
  .exact .inl e
 .have:=h.1.next
  rcases k.2 B hB with e | e
  .exact h.2 B e
  .exact .inr (by omega)
structure Chd (E E':Ev)(T T':List Ptr):Prop where
 nb:E'.nb=E.nb
 ws:E'.ws=E.ws
 pm:(dsk T'++E'.dl).Perm (dsk T++E.dl)
theorem Chd.refl (E:Ev)(T:List Ptr):Chd E E T T:=⟨rfl,rfl,List.Perm.refl _⟩
theorem Chd.trans {E E1 E2:Ev}{T T1 T2:List Ptr}(h:Chd E E1 T T1)(k:Chd E1 E2 T1 T2):Chd E E2 T T2:=⟨k.nb.trans h.nb,k.ws.trans h.ws,k.pm.trans h.pm⟩
theorem zJX.treeD {H0 H':AH}{At M low top L:Nat}{d c dr:AV}{kv:Kvs}{T:List Ptr}{W:Nat->Prop}(h:zJX E H0 H' At M d c dr low top kv T)(hc:isCell c=true)(hW: ∀B,W B↔B=At\/B=M\/Blk dr B)(hL:top<=L)(hd:E.dl.length+100<=L):
  ∃E' W' T',vO d c E' H' At M L W' kv T'/\AdT W H0 W' H'/\Chd E E' T T':=by
 obtain⟨gl,root,es,q,last,dr',T',h1,h2,h3,h4,h5,h6,h7,h8,h9,h10⟩:=h;have hdl:=zD8 E gl;refine⟨E.drop gl,fun B=>B=At\/B=M\/Blk dr' B,T',⟨dr',root,es,q,last,hc,h1,h4,h5,by omega,by omega,h8,fun B=>Iff.rfl⟩,⟨h2.mono fun B _ hB=>(hW B).2 hB,fun B hB=> ?_⟩,⟨rfl,rfl,h9⟩⟩;rcases hB with e | e | e
 .exact .inl ((hW B).2 (.inl e))
 .exact .inl ((hW B).2 (.inr (.inl e)))
 .rcases h3 B e with x | x
  .exact .inl ((hW B).2 (.inr (.inr x)))
  .exact .inr x
def cP (k v:Str):Bool:=mayK k&&decide (v.length<=200)
theorem zLm (m n:Nat)(hm:300000000<=m)(hn:300000000<=n){d c:AV}{H:AH}{At M L:Nat}{W:Nat->Prop}{kv:Kvs}{T:List Ptr}{k v:Str}(t:vO d c E H At M L W kv T)(hL:L<=500000000)(hkv:kv.length<=1000000000):
  ∃H' E' W' T',f38 (dy (m+2)) n [.ptr At 0,S k,S v] H=some (.int .i64 ((if cP k v then 0 else 1:Nat):Int),H')/\vO d c E' H' At M (L+200) W' (if cP k v then putP k v kv else kv) T'/\AdT W H W' H'/\Chd E E' T T':=by
 obtain⟨dr,root,es,q,last,hc,ti,h2,h3,h4,h4',h5,hW⟩:=id t;obtain⟨H1,A4,b1,p1,g1,m1,n1⟩:=box ti.ok (.cells [S k] 9 1 false);obtain⟨H2,A5,b2,p2,g2,m2,n2⟩:=box p1.ok (.cells [S v] 9 1 false);have P2:=p1.trans p2;have ti2:=ti.prs P2;have x4:Box H2 A4 (S k):=⟨_,Prs.get p2 p1.ok g1⟩;have x5:Box H2 A5 (S v):=⟨_,g2⟩;have hno:=dD (dy (m+2)) n ti2;by_cases hp:cP k v=true
 .obtain⟨hp1,hp2⟩:mayK k=true/\v.length<=200:=by simpa[cP]using hp
  obtain⟨e,H3,e3,hout⟩:=zAQ m n hm hn (ed:= .put k v) ti2 h2 h3 (by omega) h5 (by omega) hkv ⟨hp1,hp2⟩ ⟨x4,x5⟩;simp only[Ed.run]at hout;obtain⟨rfl,dn⟩:=hout;obtain⟨E',W',T',d1,d2,d3⟩:=dn.treeD hc hW (L:=L+200) (by omega) (by omega);simp only[Nd.mayK,zE,zJ]at hp1;refine⟨H3,E',W',T', ?_,by rw[if_pos hp];exact d1,(AdT.prs P2).trans d2,d3⟩;have a1: ¬((k.length:Nat):Int)< ((1:Nat):Int):=by omega
  have a2: ¬((40:Nat):Int)< ((k.length:Nat):Int):=by omega
  have a3: ¬((200:Nat):Int)< ((v.length:Nat):Int):=by omega
  have e3':f82 (dy (m+2)) n [.ptr At 0,S k, .func 88 [] [.ptr A4 0, .ptr A5 0]] H2=some (.int .i64 ((0:Nat):Int),H3):=e3;simp(maxSteps:=999999)(disch:=omega) only[f38,eZ,cbx,b1,b2,hno,x4.ld,x5.ld,a1,a2,a3,e3',hp]
 .refine⟨H2,E,W,T, ?_,by rw[if_neg hp];exact(t.prs P2).up (by omega),AdT.prs P2,Chd.refl E T⟩;have hx:((k.length:Nat):Int)< ((1:Nat):Int)\/((40:Nat):Int)< ((k.length:Nat):Int)\/((200:Nat):Int)< ((v.length:Nat):Int):=by
   simp only[cP,Nd.mayK,zE,zJ]at hp;omega
  simp(maxSteps:=999999)(disch:=omega) only[f38,eZ,cbx,b1,b2,hno,x4.ld,x5.ld,hp];rw[if_pos (by simpa[or_assoc]using hx)];rfl
def aO (k:Str)(kv:Kvs):Nat:=if mayK k then(if(lookP k kv).isSome then 0 else 5)else 1
theorem zMk (m n:Nat)(hm:300000000<=m)(hn:300000000<=n){d c:AV}{H:AH}{At M L:Nat}{W:Nat->Prop}{kv:Kvs}{T:List Ptr}{k:Str}(t:vO d c E H At M L W kv T)(hL:L<=500000000)(hkv:kv.length<=1000000000):
  ∃H' E' W' T',f29 (dy (m+2)) n [.ptr At 0,S k] H=some (.int .i64 ((aO k kv:Nat):Int),H')/\vO d c E' H' At M (L+200) W' (if aO k kv=0 then delP k kv else kv) T'/\AdT W H W' H'/\Chd E E' T T':=by
 obtain⟨dr,root,es,q,last,hc,ti,h2,h3,h4,h4',h5,hW⟩:=id t;obtain⟨H1,A4,b1,p1,g1,m1,n1⟩:=box ti.ok (.cells [S k] 9 1 false);have ti1:=ti.prs p1;have x4:Box H1 A4 (S k):=⟨_,g1⟩;have hno:=dD (dy (m+2)) n ti1;by_cases hp:mayK k=true
 .obtain⟨e,H3,e3,hout⟩:=zAQ m n hm hn (V:=0) (ed:= .del k) ti1 h2 h3 (by omega) h5 (by omega) hkv hp x4;have hp1:=hp;simp only[Nd.mayK,zE,zJ]at hp1;have a1: ¬((k.length:Nat):Int)< ((1:Nat):Int):=by omega
  have a2: ¬((40:Nat):Int)< ((k.length:Nat):Int):=by omega
  have e3':f82 (dy (m+2)) n [.ptr At 0,S k, .func 83 [] [.ptr A4 0]] H1=some (.int .i64 ((e:Nat):Int),H3):=e3;have run:f29 (dy (m+2)) n [.ptr At 0,S k] H=some (.int .i64 ((e:Nat):Int),H3):=by
   simp(maxSteps:=999999)(disch:=omega) only[f29,eZ,cbx,b1,hno,x4.ld,a1,a2,e3',hp]
  cases hr:(Ed.del k).run kv with
  | none=>
   rw[hr]at hout;obtain⟨rfl,p3⟩:=hout;have hl:(lookP k kv).isSome=false:=by
    simp only[Ed.run]at hr;split at hr
    .cases hr
    .rename_i h;simpa using h
   have hde:aO k kv=5:=by simp only[aO,hp,if_true,hl,Bool.false_eq_true,if_false]
   refine⟨H3,E,W,T,by rw[hde];exact run,by rw[hde];exact(t.prs (p1.trans p3)).up (by omega),AdT.prs (p1.trans p3),Chd.refl E T⟩
  | some kv'=>
   rw[hr]at hout;obtain⟨rfl,dn⟩:=hout;obtain⟨E',W',T',d1,d2,d3⟩:=dn.treeD hc hW (L:=L+200) (by omega) (by omega);have hl:(lookP k kv).isSome=true/\delP k kv=kv':=by
    simp only[Ed.run]at hr;split at hr
    .rename_i h;exact⟨h,by simpa using hr⟩
    .cases hr
   have hde:aO k kv=0:=by simp only[aO,hp,if_true,hl.1]
   refine⟨H3,E',W',T',by rw[hde];exact run,by rw[hde,if_pos rfl,hl.2];exact d1,(AdT.prs p1).trans d2,d3⟩
 .have hde:aO k kv=1:=by simp only[aO,hp,Bool.false_eq_true,if_false]
  refine⟨H1,E,W,T, ?_,by rw[hde];exact(t.prs p1).up (by omega),AdT.prs p1,Chd.refl E T⟩;rw[hde];have hx:((k.length:Nat):Int)< ((1:Nat):Int)\/((40:Nat):Int)< ((k.length:Nat):Int):=by
   simp only[Nd.mayK,zE,zJ]at hp;omega
  simp(maxSteps:=999999)(disch:=omega) only[f29,eZ,cbx,b1,hno,x4.ld];rw[if_pos (by simpa using hx)];rfl
end Go.Eng.Sh
end
section
set_option maxRecDepth 20000
namespace Go.Eng
def Stk (k e:Nat)(H:AH)(v:AV)(n:Nat)(l:List AV):Prop:=
 l.length=n*k/\((v= .nilSlice/\n=0)\/ ∃A cc cells g r,v= .slice A 0 n cc/\A<H.next/\H.h.get A=some (.cells cells e k g)/\cells.length=r*k/\n<=r/\cells.take (n*k)=l/\(cc=2*r\/(cc=1/\g=true)))
theorem Stk.row {k e n:Nat}{H:AH}{v:AV}{l:List AV}(h:Stk k e H v n l):Rw k H v n l:=by
 obtain⟨h0,⟨rfl,rfl⟩ | ⟨A,cc,cells,g,r,rfl,hA,hg,hl,hn,ht,_⟩⟩:=h
 .exact⟨h0, .inl ⟨rfl,rfl⟩⟩
 .have:=qH k hn;exact⟨h0, .inr (.inr ⟨A,0,cc,cells,e,k,g,rfl,hg,hA,by omega,by rw[List.drop_zero];exact ht⟩)⟩
theorem Stk.mono {k e n:Nat}{S:Nat->Prop}{H H':AH}{v:AV}{l:List AV}(h:Stk k e H v n l)(s:Stp S H H')(hS: ∀A,Blk v A-> ¬S A):Stk k e H' v n l:=by
 obtain⟨h0,h1 | ⟨A,cc,cells,g,r,rfl,hA,hg,h2⟩⟩:=h
 .exact⟨h0, .inl h1⟩
 .exact⟨h0, .inr ⟨A,cc,cells,g,r,rfl,zY hA s.next,by rw[s.keep A hA (hS A (Blk.slice.2 rfl))];exact hg,h2⟩⟩
theorem Stk.lt {k e n:Nat}{H:AH}{v:AV}{l:List AV}(h:Stk k e H v n l){B:Nat}(hB:Blk v B):B<H.next:=by
 obtain⟨h0,⟨rfl,rfl⟩ | ⟨A,cc,cells,g,r,rfl,hA,hg,h2⟩⟩:=h
 .exact(Blk.nil.1 hB).elim
 .rw[Blk.slice.1 hB];exact hA
theorem Stk.isCell {k e n:Nat}{H:AH}{v:AV}{l:List AV}(h:Stk k e H v n l):isCell v=true:=h.row.isCell
theorem Stk.room {k:Nat}{cells:List AV}{g:Bool}{cc r:Nat}(hpos:0<k)(hl:cells.length=r*k)(hc:cc=2*r\/(cc=1/\g=true)):yO cells g k 0 cc k=r:=by
 rcases hc with rfl | ⟨rfl,rfl⟩
 .simp only[yO,show((2*r) % 2).beq 0=true by rw[Nat.mul_mod_right];rfl,cond_true,Nat.mul_div_cancel_left r (show 0<2 by omega)]
 .simp only[yO,show((1 % 2).beq 0)=false from rfl,cond_false,Nat.beq_refl,show Nat.beq 0 (1 / 2*k)=true from by simp,Bool.and_self,cond_true,yE,hl,Nat.sub_zero];exact Nat.mul_div_cancel _ hpos
theorem Stk.cut {k e n i:Nat}{H:AH}{v:AV}{l:List AV}(h:Stk k e H v n l)(hpos:0<k)(hi:i<=n)(κ:IntKind):
  ∃r,kX k v none (some (.int κ (i:Nat))) none H=some r/\Stk k e H r i (l.take (i*k))/\ ∀B,Blk r B->Blk v B:=by
 have n1:=yM κ (z:=((i:Nat):Int)) (by omega);simp only[qD]at n1;have hb:Nat.blt 0 k=true:=by rw[zR];exact hpos
 have hmul:i*k<=n*k:=qH _ hi;obtain⟨h0,⟨rfl,rfl⟩ | ⟨A,cc,cells,g,r,rfl,hA,hg,hl,hn,ht,hc⟩⟩:=h
 .obtain rfl:i=0:=by omega
  exact⟨.nilSlice,by simp only[kX,yT,n1];simp,⟨by simp, .inl ⟨rfl,rfl⟩⟩,fun B hB=>hB⟩
 .have b1:Nat.ble i r=true:=by rw[qA];omega
  have b2:Nat.ble 0 i=true:=by rw[qA];omega
  have hr:=Stk.room hpos hl hc;have hlt:(l.take (i*k)).length=i*k:=by rw[zQ,h0];omega
  have htk:cells.take (i*k)=l.take (i*k):=by rw[<-ht,List.take_take,Nat.min_eq_left hmul]
  rcases hc with rfl | ⟨rfl,rfl⟩
  .refine⟨.slice A 0 i (2*r), ?_,⟨hlt, .inr ⟨A,2*r,cells,g,r,rfl,hA,hg,hl,by omega,htk, .inl rfl⟩⟩,fun B hB=>by rw[Blk.slice.1 hB];exact Blk.slice.2 rfl⟩;have e2:(2*r) / 2=r:=Nat.mul_div_cancel_left r (show 0<2 by omega);simp only[kX,yT,n1,hg,hb,cond_true,QY,hr,Option.getD_none,Option.getD_some,b1,b2,Bool.and_self,show((2*r) % 2).beq 0=true by rw[Nat.mul_mod_right];rfl,yG,Nat.zero_mul,Nat.add_zero,Nat.sub_zero,e2]
   cases Nat.beq r 0<;>rfl
  .refine⟨.slice A 0 i 1, ?_,⟨hlt, .inr ⟨A,1,cells,true,r,rfl,hA,hg,hl,by omega,htk, .inr ⟨rfl,rfl⟩⟩⟩,fun B hB=>by rw[Blk.slice.1 hB];exact Blk.slice.2 rfl⟩;simp only[kX,yT,n1,hg,hb,cond_true,QY,hr,Option.getD_none,Option.getD_some,b1,b2,Bool.and_self,show((1 % 2).beq 0)=false from rfl,cond_false,yG,show Nat.beq 0 0=true from rfl]
theorem Stk.app {k e bytes n m:Nat}{H:AH}{v s:AV}{l new:List AV}(hk:H.ok)(hpos:0<k)(h:Stk k e H v n l)(hs:srcOf k s H=some (m,new))(hm:new.length=m*k)(hc:qY new=true)(hm1:m=1)(hn:n+m<=1000000000)(hb:bytes<=1000):
  ∃v' H',apP e k bytes v s H=some (v',H')/\Stk k e H' v' (n+m) (l++new)/\Stp (Blk v) H H'/\ ∀B,Blk v' B->Blk v B\/H.next<=B:=by
 suffices hx: ∃v' H',app1 e k bytes m new v H=some (v',H')/\Stk k e H' v' (n+m) (l++new)/\Stp (Blk v) H H'/\ ∀B,Blk v' B->Blk v B\/H.next<=B by
  obtain⟨v',H',h1,h2⟩:=hx;exact⟨v',H',by simp only[apP,hs,hc,cond_true,h1],h2⟩
 have own: ∀ {H':AH},Own k e H' (.slice H.next 0 (n+m) 1) (n+m) (l++new)->Stk k e H' (.slice H.next 0 (n+m) 1) (n+m) (l++new):=fun {H'} ho=>by
  obtain⟨q0,⟨q1,_⟩ | ⟨A,q1,q2,q3⟩⟩:=ho
  .cases q1
  .exact⟨q0, .inr ⟨A,1,_,true,n+m,q1,q2,q3,q0,Nat.le_refl _,zO (by omega), .inr ⟨rfl,rfl⟩⟩⟩
 have h':=h;obtain⟨h0,⟨rfl,rfl⟩ | ⟨A,cc,cells,g,r,rfl,hA,hg,hl,hnr,ht,hcc⟩⟩:=h
 .obtain rfl:l=[]:=zL (by simpa using h0);obtain⟨H',e1,e2,e3,e4⟩:=YG (k:=k) (e:=e) (bytes:=bytes) (new:=new) (n:=0) (m:=m) hk hpos (Own.nil k e H) hm (by omega) hn hb;exact⟨_,H',e1,own e2,e3,fun B hB=> .inr (by rw[Blk.slice.1 hB];exact Nat.le_refl _)⟩
 .have hr:=Stk.room hpos hl hcc;have hmul:=qH k hnr;by_cases hroom:n+m<=r
  .have b1:Nat.ble (n+m) r=true:=by rw[qA];exact hroom
   have hz:Nat.blt 0 k=true:=by rw[zR];exact hpos
   have hmul2:=qH k hroom;rw[Nat.add_mul]at hmul2;have hset:setAt cells (0+n*k) new=some (cells.take (n*k)++new++cells.drop (n*k+m*k)):=by rw[jZ (by omega),hm];simp only[Nat.zero_add]
   have hlen:(cells.take (n*k)).length=n*k:=by rw[ht,h0]
   refine⟨.slice A 0 (n+m) cc,H.put A (.cells (cells.take (n*k)++new++cells.drop (n*k+m*k)) e k g), ?_,⟨by simp[h0,hm,Nat.add_mul], .inr ⟨A,cc,_,g,r,rfl,hA,by rw[AH.put_get,if_pos rfl], ?_,hroom, ?_,hcc⟩⟩,(Stp.refl hk).put hA _ (.inr (Blk.slice.2 rfl)),fun B hB=> .inl (by rw[Blk.slice.1 hB];exact Blk.slice.2 rfl)⟩
   .simp only[app1,hg,zEg,hr,b1,cond_true,hz,hset,zB6,yX,yG]
   .simp only[zM,hlen,hm,zU];omega
   .rw[ht,List.take_append_of_le_length (by simp[h0,hm,Nat.add_mul]),zO (by simp[h0,hm,Nat.add_mul])]
  .have b1:Nat.ble (n+m) r=false:=by rw[Bool.eq_false_iff];intro e;rw[qA]at e;omega
   have hsub:xW cells 0 (n*k)=some l:=by rw[yS _ _ _ (.inr (by omega)),List.drop_zero,ht]
   rcases hcc with rfl | ⟨rfl,rfl⟩
   .refine⟨.slice H.next 0 (n+m) 1,H.push (.cells (l++new) e k true), ?_,own ⟨by simp[h0,hm,Nat.add_mul], .inr ⟨H.next,rfl,Nat.lt_succ_self _,AH.push_get_eq _ _⟩⟩,(Stp.refl hk).push _,fun B hB=> .inr (by rw[Blk.slice.1 hB];exact Nat.le_refl _)⟩
    simp only[app1,hg,zEg,hr,b1,cond_false,show((2*r) % 2).beq 0=true by rw[Nat.mul_mod_right];rfl,cond_true,hsub,wL,gL hn hb,fG,dH hk,yG]
   .obtain rfl:n=r:=by omega
    have hlen:Nat.beq (0+n*k) (fL cells 0)=true:=by rw[yE,hl,Nat.zero_add,Nat.beq_refl]
    have hpd:(H.put A .dead).ok:=hk.put hA _;refine⟨.slice H.next 0 (n+m) 1,(H.put A .dead).push (.cells (l++new) e k true), ?_,own ⟨by simp[h0,hm,Nat.add_mul], .inr ⟨H.next,rfl,Nat.lt_succ_self _,AH.push_get_eq (H.put A .dead) _⟩⟩,((Stp.refl hk).put hA _ (.inr (Blk.slice.2 rfl))).push _,fun B hB=> .inr (by rw[Blk.slice.1 hB];exact Nat.le_refl _)⟩
    simp only[app1,hg,zEg,hr,b1,cond_false,show((1 % 2).beq 0)=false from rfl,hlen,Nat.beq_refl,show Nat.beq 0 (1 / 2*k)=true from by simp,Bool.and_self,cond_true,yX,hsub,wL,
     gL hn hb,fG,dH hpd,yG,AH.put_next]
end Go.Eng
end
section
set_option maxRecDepth 20000
namespace Go.Eng.Sh
open Go.Nd (Ptr sumL)
def Z7 (Ab:Nat):ALoop:=⟨.ready,none,41,0,[6],[.ptr Ab 0]⟩
theorem zLo (D:Dyn)(n:Nat){H:AH}{A Ab cnt:Nat}{v x:AV}{l:List AV}(p:Ptr)(hk:H.ok)(gA:H.h.get A=some (.loop (Z7 Ab)))(hb:Box H Ab v)(hs:Stk 3 42 H v cnt l)(hn:cnt+1<=1000000000)(hv: ¬Blk v Ab):
  ∃H' v',BR D n A (Z7 Ab) [x, .agg (y7 p)] H=some (.bool true,H')/\H'.h.get A=some (.loop (Z7 Ab))/\Box H' Ab v'/\Stk 3 42 H' v' (cnt+1) (l++y7 p)/\Stp (fun B=>B=A\/B=Ab\/Blk v B) H H'/\(∀B,Blk v' B->Blk v B\/H.next<=B):=by
 obtain⟨H1,A11,b1,p1,g1,m1,n1⟩:=box hk (.cells [.int .i64 ((0:Nat):Int), .int .i64 ((0:Nat):Int), .int .u64 ((0:Nat):Int)] 42 1 false);obtain⟨H2,e2,g2,s2,n2⟩:=yD p1.ok g1 (l':=y7 p) rfl rfl;have e2':stN 3 (.ptr A11 0) (.agg (y7 p)) H1=some (qZ,H2):=e2;have N1:=p1.next;have N2:=s2.next
 have p2:Prs H H2:=p1.fresh s2 (fun B hB=>by omega);have lA:=hk.lt gA;have lb:=hb.lt hk;have gA2:=Prs.get p2 hk gA;have nA: ¬Blk v A:=fun hB=>by
  obtain⟨_,⟨rfl,_⟩ | ⟨B,cc,cells,g,r,rfl,_,hg,_⟩⟩:=hs
  .exact Blk.nil.1 hB
  .rw[Blk.slice.1 hB,hg]at gA;cases gA
 have nbA:Ab≠A:=fun e=>by obtain⟨_,hb⟩:=hb;rw[e,gA]at hb;cases hb
 have s3:Stp (fun B=>B=A) H2 (H2.put A (.loop { Z7 Ab with state:= .busy})):=(Stp.refl p2.ok).put (p2.ok.lt gA2) _ (.inr rfl);have g3:(H2.put A (.loop { Z7 Ab with state:= .busy})).h.get A=some (.loop { Z7 Ab with state:= .busy}):=by rw[AH.put_get,if_pos rfl]
 have hbeg: ∀K:AH->Rs,uD A H2 K=K (H2.put A (.loop { Z7 Ab with state:= .busy})):=fun K=>by
  simp only[uD,gA2,Z7,yX]
 generalize H2.put A (.loop { Z7 Ab with state:= .busy})=H3 at s3 g3 hbeg;have N3:=s3.next
 have b3:Box H3 Ab v:=(hb.mono hk p2 (fun x=>x)).mono p2.ok s3 nbA;have r3:ldN 3 (.ptr A11 0) H3=some (.agg (y7 p)):=by rw[y6 (show H3.h.get A11=some (.cells (y7 p) 42 1 false)by rw[s3.keep _ (by omega) (by omega)];exact g2)];rfl
 obtain⟨H4,A8,b4,p4,g4,m4,n4⟩:=box s3.ok (.cells (y7 p) 42 3 false);have hs4:Stk 3 42 H4 v cnt l:=((hs.mono p2 (fun _ _ x=>x)).mono s3 (fun B hB e=>nA (e▸hB))).mono p4 (fun _ _ x=>x);have hsrc:srcOf 3 (.slice A8 0 1 2) H4=some (1,y7 p):=by simp only[srcOf,g4];rfl
 obtain⟨v',H5,e5,hs5,s5,f5⟩:=hs4.app (bytes:=24) (m:=1) p4.ok (by decide) hsrc rfl rfl rfl hn (by decide);have b5:Box H5 Ab v:=(b3.mono s3.ok p4 (fun x=>x)).mono p4.ok s5 hv;obtain⟨H6,e6,b6,s6⟩:=b5.st s5.ok (x:=v') hs5.isCell;have N4:=p4.next;have N5:=s5.next;have N6:=s6.next
 have g6:H6.h.get A=some (.loop { Z7 Ab with state:= .busy}):=by
  rw[s6.keep _ (by omega) (by omega),s5.keep _ (by omega) nA,p4.keep _ (by omega) (fun x=>x)];exact g3
 have s7:Stp (fun B=>B=A) H6 (H6.put A (.loop (Z7 Ab))):=(Stp.refl s6.ok).put (s6.ok.lt g6) _ (.inr rfl);have hend:U4 A none H6=some (.bool true,H6.put A (.loop (Z7 Ab))):=by
  simp only[U4,g6,yX,Z7]
 have nv': ∀B,Blk v' B->B≠A/\B≠Ab:=fun B hB=>by
  rcases f5 B hB with e | e
  .exact⟨fun e'=>nA (e'▸e),fun e'=>hv (e'▸e)⟩
  .exact⟨by omega,by omega⟩
 refine⟨H6.put A (.loop (Z7 Ab)),v', ?_,by rw[AH.put_get,if_pos rfl],b6.mono s6.ok s7 nbA,(hs5.mono s6 (fun B hB=>(nv' B hB).2)).mono s7 (fun B hB=>(nv' B hB).1),⟨s7.ok,by have:=s7.next;omega,fun B hB hS=> ?_⟩,fun B hB=> ?_⟩
 .have hl:QN [6] (Z7 Ab).live=true:=rfl;have hvl:(Z7 Ab).vals=[.ptr Ab 0]:=rfl;have e1:=zOm 42 p [.int .i64 ((0:Nat):Int), .int .i64 ((0:Nat):Int), .int .u64 ((0:Nat):Int)] rfl;simp(maxSteps:=999999)(disch:=omega) only[BR,eZ,hl,hvl,cond_true,b1,e2',hbeg,b3.ld,r3,e1,b4,e5,e6];exact hend
 .have a1: ¬B=A:=fun e=>hS (.inl e)
  have a2: ¬B=Ab:=fun e=>hS (.inr (.inl e))
  have a3: ¬Blk v B:=fun e=>hS (.inr (.inr e))
  rw[s7.keep B (by omega) a1,s6.keep B (by omega) a2,s5.keep B (by omega) a3,p4.keep B (by omega) (fun x=>x),s3.keep B (by omega) a1,p2.keep B hB (fun x=>x)]
 .rcases f5 B hB with e | e
  .exact .inl e
  .exact .inr (by omega)
theorem zMs (m k:Nat){H:AH}{A Ab:Nat}(gA:H.h.get A=some (.loop (Z7 Ab)))(az:List AV):callV [] (dy (m+1)) (.yieldTo A) az H=BR (dy m) m A (Z7 Ab) az H:=by
 show J3 (tabR (dy m) m) A az H=_;simp only[J3,gA];rfl
end Go.Eng.Sh
end
section
set_option maxRecDepth 20000
namespace Go.Eng
theorem zFD {H:AH}(hk:H.ok)(o:AObj)(K:Nat->AH->Rs):KR H o K=K H.next (H.push o):=zBw hk o K
end Go.Eng
namespace Go.Eng.Sh
open Go.Nd (Ptr sumL)
theorem VX (ps:List Ptr)(i:Nat)(hi:i<ps.length):(ps.reverse.take (i+1)).flatMap y7=(ps.reverse.take i).flatMap y7++y7 ps[ps.length - 1 - i]:=by
 rw[zV (by simpa using hi),qL,List.getElem_reverse];simp
theorem zJx (m:Nat)(hm:200000000<=m){H:AH}{A Ab Aw cnt:Nat}{v w:AV}{l:List AV}{ps:List Ptr}(hk:H.ok)(gA:H.h.get A=some (.loop (Z7 Ab)))(hb:Box H Ab v)(hs:Stk 3 42 H v cnt l)(hw:Box H Aw w)(hp:xV H w ps)(hn:cnt+ps.length<=100000000)(hv: ¬Blk v Ab)
  (hd: ∀B,Blk w B-> ¬Blk v B) (hd1:Aw≠Ab) (hd2: ¬Blk v Aw) (hd3: ¬Blk w Ab):
  ∃H' v',f148 (dy (m+1)) (m+1) [.yieldTo A, .ptr Aw 0] H=some (.tuple [],H')/\H'.h.get A=some (.loop (Z7 Ab))/\Box H' Ab v'/\Stk 3 42 H' v' (cnt+ps.length) (l++ps.reverse.flatMap y7)/\Stp (fun B=>B=A\/B=Ab\/Blk v B) H H'/\(∀B,Blk v' B->Blk v B\/H.next<=B):=by
 obtain⟨z,hz⟩: ∃z:Nat->Int,∀i,z i=((ps.length:Nat):Int) - ((1:Nat):Int) - ((i:Nat):Int):=⟨_,fun _=>rfl⟩;have lA:=hk.lt gA;have lb:=hb.lt hk;have lw:=hw.lt hk;have neA:Aw≠A:=fun e=>by obtain⟨_,hw⟩:=hw;rw[e,gA]at hw;cases hw
 have wA: ¬Blk w A:=fun hB=>by
  obtain⟨_,⟨rfl,_⟩ | ⟨rfl,_⟩ | ⟨B,o,cc,cells,e,sz,g,rfl,hg,_⟩⟩:=hp
  .exact Blk.nil.1 hB
  .obtain⟨_,_,_,hB⟩:=hB;cases hB
  .rw[Blk.slice.1 hB,hg]at gA;cases gA
 have lp:=xR (b:=QJ (dy (m+1)) (m+1)) ps.length (fun i us H'=>us=[.yieldTo A, .ptr Aw 0, .int .i64 (z i)]/\ ∃v',H'.h.get A=some (.loop (Z7 Ab))/\Box H' Ab v'/\Stk 3 42 H' v' (cnt+i) (l++(ps.reverse.take i).flatMap y7)/\Stp (fun B=>B=A\/B=Ab\/Blk v B) H H'/\(∀B,Blk v' B->Blk v B\/H.next<=B)) (fun i us H' hi ⟨hus,v',gA',hb',hs',st,hf⟩=>by
  subst hus;have hzi:=hz i;have hzi1:=hz (i+1);have hj:ps.length - 1 - i<ps.length:=by omega
  have hw':Box H' Aw w:=hw.mono hk st (fun e=>by rcases e with e | e | e;exact neA e;exact hd1 e;exact hd2 e);have hp':xV H' w ps:=Rw.stp hp st (fun B hB e=>by
   rcases e with e | e | e
   .exact wA (e▸hB)
   .exact hd3 (e▸hB)
   .exact hd B hB e)
  obtain⟨q,i1,i2⟩:=xV.at hp' hj;have i1':=i1 .i64 (z i) (by omega);have N:=st.next
  obtain⟨H'',v'',e1,gA'',hb'',hs'',st2,hf2⟩:=zLo (dy m) m (x:= .int .i64 (z i)) ps[ps.length - 1 - i] st.ok gA' hb' hs' (by omega) (fun hB=>by
   rcases hf _ hB with e | e
   .exact hv e
   .omega)
  have hge:((0:Nat):Int)<=z i:=by omega
  have hsub:z i - ((1:Nat):Int)=z (i+1):=by omega
  have hwr:IntKind.wrap .i64 (z (i+1))=z (i+1):=by rw[wrap_i64]<;>omega
  refine⟨_,H'', ?_,rfl,v'',gA'',hb'',by rw[VX ps i hi,<-List.append_assoc];exact hs'',⟨st2.ok,by have:=st2.next;omega,fun B hB hS=> ?_⟩,fun B hB=> ?_⟩
  .simp(maxSteps:=999999)(disch:=omega) only[QJ,eZ,hge,hw'.ld,i1',i2,zMs m (m+1) gA',e1,hsub,hwr]
  .rw[st2.keep B (by omega) (fun e=>by
    rcases e with e | e | e
    .exact hS (.inl e)
    .exact hS (.inr (.inl e))
    .rcases hf B e with e | e
     .exact hS (.inr (.inr e))
     .omega)]
   exact st.keep B hB hS
  .rcases hf2 B hB with e | e
   .exact hf B e
   .exact .inr (by omega)) (m+1) [.yieldTo A, .ptr Aw 0, .int .i64 (z 0)] H ⟨rfl,v,gA,hb,by simpa using hs,Stp.refl hk,fun B hB=> .inl hB⟩ (by omega)
 obtain⟨k,us,H',e,rfl,v',gA',hb',hs',st,hf⟩:=lp;rw[show ps.reverse.take ps.length=ps.reverse from zO (by simp)]at hs';refine⟨H',v', ?_,gA',hb',hs',st,hf⟩;have hzn:=hz ps.length;have hge: ¬((0:Nat):Int)<=z ps.length:=by omega
 have last:yJ (k+1) (QJ (dy (m+1)) (m+1)) [.yieldTo A, .ptr Aw 0, .int .i64 (z ps.length)] H'=some (.exit 0 [],H'):=y9 (by simp only[QJ,eZ,hge]);have hz0:((ps.length:Nat):Int) - ((1:Nat):Int)=z 0:=by rw[hz];omega
 have hwr:IntKind.wrap .i64 (z 0)=z 0:=by have:=hz 0;rw[wrap_i64]<;>omega
 simp(maxSteps:=999999)(disch:=omega) only[f148,eZ,hw.ld,hp.lnSl,hz0,hwr,e,last,zD3]
theorem zMw (m n:Nat)(hm:200000000<=m){H:AH}{Ab cnt:Nat}{v w:AV}{l:List AV}{ps:List Ptr}(hk:H.ok)(hb:Box H Ab v)(hs:Stk 3 42 H v cnt l)(hp:xV H w ps)(hn:cnt+ps.length<=100000000)(hv: ¬Blk v Ab)(hd: ∀B,Blk w B-> ¬Blk v B)(hd3: ¬Blk w Ab):
  ∃H' v',(∀(Kn:AH->Rs) (Kx:AH->Nat->Rs) (Kr:AH->Rs),(bR (f95 (dy (m+2)) n [w] H) fun x85 H=>KR H (.loop ⟨.ready,none,41,0,[6],[.ptr Ab 0]⟩) fun A H=>bR (rfC [(73,f73 (dy (m+2)) n),(76,f76 (dy (m+2)) n),(77,f77 (dy (m+2)) n),(79,f79 (dy (m+2)) n),(95,f95 (dy (m+2)) n)] (dy (m+2)) x85 A H) fun _ H=>uZ A H fun j H=>zCQ j (Kn H) (Kx H) (Kr H))=Kn H')/\
   Box H' Ab v'/\Stk 3 42 H' v' (cnt+ps.length) (l++ps.reverse.flatMap y7)/\Stp (fun B=>B=Ab\/Blk v B) H H'/\(∀B,Blk v' B->Blk v B\/H.next<=B):=by
 have hcw:isCell w=true:=hp.isCell;obtain⟨H1,Aw,b1,p1,g1,m1,n1⟩:=box hk (.cells [w] 50 1 false);have p2:Prs H1 (H1.push (.loop (Z7 Ab))):=(Stp.refl p1.ok).push _;have g2:(H1.push (.loop (Z7 Ab))).h.get H1.next=some (.loop (Z7 Ab)):=AH.push_get_eq _ _
 have hnew: ∀K:Nat->AH->Rs,KR H1 (.loop ⟨.ready,none,41,0,[6],[.ptr Ab 0]⟩) K=K H1.next (H1.push (.loop (Z7 Ab))):=fun K=>zFD p1.ok _ K
 have hnx:(H1.push (.loop (Z7 Ab))).next=H1.next+1:=rfl
 generalize H1.push (.loop (Z7 Ab))=H2 at p2 g2 hnew hnx;have P2:=p1.trans p2;have lb:=hb.lt hk;have N1:=p1.next
 obtain⟨H3,v',e3,g3,b3,s3,st3,f3⟩:=zJx m hm P2.ok g2 (hb.mono hk P2 (fun x=>x)) (hs.mono P2 (fun _ _ x=>x)) (w:=w) (Aw:=Aw) ⟨_,Prs.get p2 p1.ok g1⟩ (Rw.stp hp P2 (fun _ _ x=>x)) hn hv hd (by omega) (fun hB=>by have:=hs.lt hB;omega) hd3;have s4:Stp (fun B=>B=H1.next) H3 (H3.put H1.next .dead):=(Stp.refl st3.ok).put (st3.ok.lt g3) _ (.inr rfl)
 have N2:=p2.next;have N3:=st3.next;have N4:=s4.next
 have nv': ∀B,Blk v' B->B≠H1.next:=fun B hB e=>by
  rcases f3 B hB with e' | e'
  .have:=hs.lt e';omega
  .omega
 refine⟨H3.put H1.next .dead,v',fun Kn Kx Kr=> ?_,b3.mono st3.ok s4 (by omega),s3.mono s4 nv',⟨s4.ok,by omega,fun B hB hS=> ?_⟩,fun B hB=> ?_⟩
 .have hbx: ∀e,bxV e w=some (.cells [w] e 1 false,fun A=> .ptr A 0):=fun e=>by simp only[bxV,yU hcw]
  have hf71:f95 (dy (m+2)) n [w] H=some (.func 148 [] [.ptr Aw 0],H1):=by
   simp only[f95,vY,zCG,bVs,bRs,hbx,b1];rfl
  have hrf:rfC [(73,f73 (dy (m+2)) n),(76,f76 (dy (m+2)) n),(77,f77 (dy (m+2)) n),(79,f79 (dy (m+2)) n),(95,f95 (dy (m+2)) n)] (dy (m+2)) (.func 148 [] [.ptr Aw 0]) H1.next H2=some (.tuple [],H3):=e3
  have hend: ∀K:Option Code->AH->Rs,uZ H1.next H3 K=K none (H3.put H1.next .dead):=fun K=>by
   simp only[uZ,g3,Z7,yX]
  simp only[hf71,bR,hnew,hrf,hend,zCQ]
 .have:=P2.next
  rw[s4.keep B (by omega) (by omega),st3.keep B (by omega) (fun e=>by
   rcases e with e | e | e
   .omega
   .exact hS (.inl e)
   .exact hS (.inr e)),P2.keep B hB (fun x=>x)]
 .rcases f3 B hB with e | e
  .exact .inl e
  .exact .inr (by have:=P2.next;omega)
end Go.Eng.Sh
end
section
set_option maxRecDepth 20000
namespace Go.Eng.Sh
open Go.Nd (Str Ptr sumL leafOf Kvs Srt mayK putP delP lookP)
open Go.Bt
variable {E:Ev}
def kZ (key:Str)(l:Kvs):Option (Str×Str):=l.find? fun p=> !ltS p.1 key
theorem bI (key:Str)(a b:Kvs):kZ key (a++b)=match kZ key a with | some p=>some p | none=>kZ key b:=by
 simp only[kZ,List.find?_append]
 cases List.find? (fun p=> !ltS p.1 key) a<;>rfl
theorem zFC {key:Str}{a:Kvs}(h: ∀p∈a,ltS p.1 key=true):kZ key a=none:=by
 simp only[kZ,List.find?_eq_none];intro p hp;simp[h p hp]
theorem ZM {key:Str} : ∀ {l:Kvs},Srt l->kZ key l=l[Nd.whereN (leafOf l) key]?
 | [],_=>rfl
 | (a,b)::l,h=>by
  rw[Nd.where_cons h];simp only[kZ,List.find?_cons]
  cases hb:ltS a key with
  | true=>
   simp only[Bool.not_true,if_true,List.getElem?_cons_succ];exact ZM h.2
  | false=>simp
def Item (E:Ev)(q:PN)(p:Ptr)(c:Kvs)(w:Nat):Prop:= ∃nd h,∃t:Bt.Tr h,∃S lo hi,Qf E q [] p=some nd/\jB (Qf E q []) h nd t S/\Gen h lo hi t/\(0<h->nd.keys≠[])/\jD h t<=500/\c=con h t/\w=1+S.length
def Z6 (E:Ev)(q:PN):List Ptr->Kvs->Nat->Prop
 | [],c,w=>c=[]/\w=0
 | p::ps,c,w=> ∃c1 c2 w1 w2,Item E q p c1 w1/\Z6 E q ps c2 w2/\c=c1++c2/\w=w1+w2
theorem Z6.app {q:PN}{ps':List Ptr}{c':Kvs}{w':Nat}(h':Z6 E q ps' c' w'): ∀ {ps:List Ptr} {c:Kvs} {w:Nat},Z6 E q ps c w->Z6 E q (ps++ps') (c++c') (w+w')
 | [],_,_,⟨e1,e2⟩=>by subst e1;subst e2;simpa using h'
 | p::ps,_,_,⟨c1,c2,w1,w2,a,b,e1,e2⟩=>⟨c1,c2++c',w1,w2+w',a,Z6.app h' b,by rw[e1];simp,by omega⟩
theorem Z6.len {q:PN} : ∀ {ps:List Ptr} {c:Kvs} {w:Nat},Z6 E q ps c w->ps.length<=w
 | [],_,_,_=>by simp
 | p::ps,_,_,⟨c1,c2,w1,w2,⟨_,_,_,_,_,_,_,_,_,_,_,_,e⟩,b,e1,e2⟩=>by
  have:=Z6.len b;simp only[zP];omega
theorem zCR {q:PN}{h:Nat} : ∀ {ps:List Ptr} {ts:List (Bt.Tr h)} {S:List Ptr},kU (Qf E q []) (jB (Qf E q []) h) ps ts S->(∀t∈ts,∃lo hi,WF h lo hi t)->Z6 E q ps (ts.flatMap (con h)) S.length
 | [],[],_,e,_=>by subst e;exact⟨rfl,rfl⟩
 | p::ps,t::ts,_,⟨nd,S1,S2,a,b,c,e⟩,hw=>by
  subst e;obtain⟨lo,hi,wt⟩:=hw t (zH ..);refine⟨con h t,ts.flatMap (con h),1+S1.length,S2.length,⟨nd,h,t,S1,lo,hi,a,b,wt.gen,fun hh=> ?_,wt.sz,rfl,rfl⟩,zCR c fun t ht=>hw t (zF _ ht),by simp,by simp only[zP,zM];omega⟩
  cases h with
  | zero=>omega
  | succ h=>
   have:=cS wt;rw[b.2.1];intro e;rw[e]at this;simp at this
 | [],_::_,_,h,_=>h.elim
 | _::_,[],_,h,_=>h.elim
theorem zDX {q:PN}{h:Nat}{nd:Nd.Node}{t:Bt.Tr (h+1)}{S:List Ptr}{lo hi:Bd}(key:Str)(rn:jB (Qf E q []) (h+1) nd t S)(g:Gen (h+1) lo hi t):
  ∃c w,Z6 E q (nd.kids.drop (Nd.whereN nd key)) c w/\w<=S.length/\kZ key (con (h+1) t)=kZ key c/\Nd.whereN nd key<nd.kids.length:=by
 obtain⟨r1,r2,r3,r4⟩:=rn;have hw:Nd.whereN nd key=jC t.1 key:=vB r1 r2 key;obtain⟨S1,S2,_,x2,rfl⟩:=r4.split (jC t.1 key);have hle:=cG t.1 key;have hl:=g.2.2.len;have hkl:=r4.len;rw[hw];refine⟨_,_,zCR x2 fun x hx=> ?_,by simp, ?_,by omega⟩
 .obtain⟨i,hi,rfl⟩:=qU (List.mem_of_mem_drop hx);exact⟨_,_,KB.at g.2.2 (zG hi)⟩
 .have hs:=(fY (key:=key) (ks:=t.1) (ts:=t.2) g).1;have:con (h+1) t=(t.2.take (jC t.1 key)).flatMap (con h)++(t.2.drop (jC t.1 key)).flatMap (con h):=by
   rw[<-qL,List.take_append_drop];rfl
  rw[this,bI,zFC hs]
theorem zFm: ∀(q:PN) (T:List Ptr),T.Nodup->(∀p∈T,∃s nd,p=pp s/\yA s q=some nd)->T.length<=q.length
 | [],T,_,h=>by
  cases T with
  | nil=>simp
  | cons p T=>obtain⟨s,nd,_,e⟩:=h p (zH ..);cases e
 | (a,n)::q,T,hn,h=>by
  by_cases hm:pp a∈T
  .have h1:=zFm q (T.erase (pp a)) (hn.erase _) fun p hp=>by
    obtain⟨h2,h3⟩:=(List.Nodup.mem_erase_iff hn).1 hp;obtain⟨s,nd,e,hs⟩:=h p h3;refine⟨s,nd,e, ?_⟩;simp only[yA]at hs;rw[if_neg (fun e2=>h2 (by rw[e,e2]))]at hs;exact hs
   rw[List.length_erase_of_mem hm]at h1;simp only[zP];omega
  .have h1:=zFm q T hn fun p hp=>by
    obtain⟨s,nd,e,hs⟩:=h p hp;refine⟨s,nd,e, ?_⟩;simp only[yA]at hs;rw[if_neg (fun e2=>hm (by rw[e2,<-e];exact hp))]at hs;exact hs
   simp only[zP];omega
theorem zDJ {k k':UInt8}{b b':Nat}{x x':Str}(hb:b<=2147483647)(hb':b'<=2147483647)(e:Bk.sealB k b x=Bk.sealB k' b' x'):b=b':=by
 obtain⟨_,q2,_,_⟩:=Bk.seal_parts (kind:=k) (birth:=b) (body:=x);obtain⟨_,r2,_,_⟩:=Bk.seal_parts (kind:=k') (birth:=b') (body:=x');rw[e,r2]at q2;have hl:=congrArg Nd.bee q2;rw[Nd.bee_be,Nd.bee_be,Nat.mod_eq_of_lt (by omega),Nat.mod_eq_of_lt (by omega)]at hl;exact hl.symm
theorem K_at {p p':Ptr}{nd nd':Nd.Node}(h:E.K p=some nd)(h':E.K p'=some nd')(e:p.at_=p'.at_):p=p':=by
 obtain⟨a,b,k,s,rfl,_,_,_,hb,hs,h1,_,_⟩:=Ev.K_iff.1 h;obtain⟨a',b',k',s',rfl,_,_,_,hb',hs',h1',_,_⟩:=Ev.K_iff.1 h';have ea:a=a':=by simp only[u4]at e;omega
 subst ea;rw[h1]at h1';have e2:=Option.some.inj h1';have e1:=zDJ hb hb' e2;subst e1;rw[e2]
theorem zBt: ∀(n:Nat) (T:List Ptr),T.Nodup->(∀p∈T,(∃nd,E.K p=some nd)/\p.at_< (n:Nat))->T.length<=n
 | 0,T,_,h=>by
  cases T with
  | nil=>simp
  | cons p T=>
   obtain⟨⟨nd,h1⟩,h2⟩:=h p (zH ..);have:=(vJ h1).2;omega
 | n+1,T,hn,h=>by
  by_cases hm: ∃p∈T,p.at_=((n:Nat):Int)
  .obtain⟨p,hp,hpn⟩:=hm;have h1:=zBt n (T.erase p) (hn.erase _) fun x hx=>by
    obtain⟨h2,h3⟩:=(List.Nodup.mem_erase_iff hn).1 hx;obtain⟨⟨nd,h4⟩,h5⟩:=h x h3;obtain⟨⟨nd',h6⟩,_⟩:=h p hp;refine⟨⟨nd,h4⟩, ?_⟩;by_cases e:x.at_=p.at_
    .exact absurd (K_at h4 h6 e) h2
    .omega
   rw[List.length_erase_of_mem hp]at h1;omega
  .have h1:=zBt n T hn fun x hx=>by
    obtain⟨h4,h5⟩:=h x hx;refine⟨h4, ?_⟩;have: ¬x.at_=((n:Nat):Int):=fun e=>hm ⟨x,hx,e⟩
    omega
   omega
theorem zLq {q:PN}{T:List Ptr}(hn:T.Nodup)(h: ∀p∈T,∃nd,Qf E q [] p=some nd):T.length - (dsk T).length<=q.length/\(dsk T).length<=8192/\(dsk T).length<=T.length:=by
 have hl:=List.length_eq_countP_add_countP (fun p:Ptr=>decide (p.at_≠1)) (l:=T);have e1:List.countP (fun p:Ptr=>decide (p.at_≠1)) T=(dsk T).length:=List.countP_eq_length_filter ..;have e2:List.countP (fun a:Ptr=>decide ¬(decide (a.at_≠1))=true) T=(T.filter fun a:Ptr=>decide ¬(decide (a.at_≠1))=true).length:=List.countP_eq_length_filter ..;rw[e1,e2]at hl;have h1:=zFm q (T.filter fun a:Ptr=>decide ¬(decide (a.at_≠1))=true) (hn.filter _) fun p hp=>by
  obtain⟨hp1,hp2⟩:=List.mem_filter.1 hp;have hp3:p.at_=1:=by simpa using hp2
  obtain⟨nd,hnd⟩:=h p hp1;obtain⟨s,rfl,h3 | ⟨_,h3⟩⟩ | ⟨_,h3⟩:=wS hnd
  .simp[yA]at h3
  .exact⟨s,nd,rfl,h3⟩
  .have:=(vJ h3).2;omega
 have h2:=zBt 8192 (dsk T) (hn.filter _) fun p hp=>by
  obtain⟨hp1,hp2⟩:=List.mem_filter.1 hp;have hp3:p.at_≠1:=by simpa using hp2
  obtain⟨nd,hnd⟩:=h p hp1;have hk:=UO hnd;simp only[Nd.kidOk,zE,zJ]at hk;obtain⟨s,rfl,_⟩ | ⟨_,h3⟩:=wS hnd
  .exact absurd rfl hp3
  .exact⟨⟨nd,h3⟩,by omega⟩
 omega
theorem zIn {h:Nat}{nd:Nd.Node}{t:Bt.Tr h}{S:List Ptr}{p:Ptr}{q:PN}(hs:Qf E q [] p=some nd)(rn:jB (Qf E q []) h nd t S): ∀x∈p::S,∃nd,Qf E q [] x=some nd:=fun x hx=>by
 rcases List.mem_cons.1 hx with rfl | hx
 .exact⟨nd,hs⟩
 .exact jB.here rn x hx
theorem zDL {q:PN}{h:Nat}{p:Ptr}{nd:Nd.Node}{t:Bt.Tr h}{S:List Ptr}(hs:Qf E q [] p=some nd)(rn:jB (Qf E q []) h nd t S)(wr:WR h t)(nd0:(p::S).Nodup):Z6 E q [p] (con h t) (1+S.length)/\1+S.length<=8192+q.length:=by
 constructor
 .refine⟨con h t,[],1+S.length,0,⟨nd,h,t,S,none,none,hs,rn,wr.gen,fun h0=> ?_,wr.sz,rfl,rfl⟩,⟨rfl,rfl⟩,by simp,by omega⟩
  cases h with
  | zero=>omega
  | succ h=>rw[rn.2.1];exact wr.2.1
 .have:=zLq nd0 (zIn hs rn);simp only[zP]at this;omega
end Go.Eng.Sh
end
section
set_option maxRecDepth 20000
namespace Go.Eng
theorem Stk.nstr {k e n:Nat}{H:AH}{v:AV}{l:List AV}(h:Stk k e H v n l): ∀a b,v≠ .str a b:=fun a b e=>by
 obtain⟨_,⟨rfl,_⟩ | ⟨_,_,_,_,_,rfl,_⟩⟩:=h<;>cases e
end Go.Eng
namespace Go.Eng.Sh
open Go.Nd (Ptr sumL leafOf Kvs Srt mayK putP delP lookP)
open Go.Bt
variable {E:Ev}
theorem wJ: ∀l:List Ptr,(l.flatMap y7).length=l.length*3
 | []=>rfl
 | p::l=>by
  rw[zZ,zM,wJ l,zP];show 3+l.length*3=_;omega
def nxR:Option (Str×Str)->AV
 | none=> .tuple [.agg [.str 0 0, .str 0 0], .int .i64 ((5:Nat):Int)]
 | some p=> .tuple [.agg [S p.1,S p.2], .int .i64 ((0:Nat):Int)]
def NI (E:Ev)(H4:AH)(q:PN)(kv:Kvs)(key:Str)(At A4 A6 A26 top:Nat)(k:Nat)(us:List AV)(H':AH):Prop:=
 ∃j,∃st:List Ptr,∃v c w,us=[.ptr At 0,S key, .ptr A4 0, .ptr A6 0, .int .i64 ((top:Nat):Int), .int .i64 ((j:Nat):Int)]/\k+j=top/\w<=k/\Stp (fun B=>B=A6\/B=A26) H4 H'/\Box H' A6 v/\Stk 3 42 H' v st.length (st.flatMap y7)/\(∀B,Blk v B->B=A26\/H4.next<=B)/\Z6 E q st.reverse c w/\kZ key kv=kZ key c
def NQ (H:AH)(kv:Kvs)(key:Str)(A4 A6:Nat)(e:Ex)(H':AH):Prop:=
 Prs H H'/\(e= .ret (nxR (kZ key kv))\/(e= .exit 0 [.ptr A4 0, .ptr A6 0]/\kZ key kv=none/\(∃v,Box H' A6 v/\lnSl v=some (.int .i64 ((0:Nat):Int)))/\H'.h.get A4=some (.cells [.str 0 0, .str 0 0] 48 1 false)/\H.next<=A4))
theorem zFA (m n:Nat)(hm:200000000<=m)(hn:300000000<=n){H H4:AH}{At M A4 A6 A26:Nat}{dk cch dr:AV}{root:Ptr}{es:List (AV×AV)}{q:PN}{last:Nat}{kv:Kvs}{key:Str}(ti:TI E H At M dk cch root es q last dr)(hold: ∀kv∈es,∀B,wN kv.2 B->B<H.next)(hql:q.length<=90000000)
  (p4:Prs H H4) (m4:H.next<=A4) (m6:H.next<=A6) (m26:H.next<=A26) (l4:A4<H4.next) (l6:A6<H4.next) (l26:A26<H4.next) (n46:A4≠A6) (n426:A4≠A26) (n626:A6≠A26) (g4:H4.h.get A4=some (.cells [.str 0 0, .str 0 0] 48 1 false)):
  ∀k us H',NI E H4 q kv key At A4 A6 A26 (8192+q.length) k us H'->Fin (KW (dy (m+2)) n us H') (orN (fun vs' H''=> ∃k',k'<k/\NI E H4 q kv key At A4 A6 A26 (8192+q.length) k' vs' H'') (NQ H kv key A4 A6)):=by
 intro k us H' ⟨j,st,v,c,w,hus,hkj,hwk,stp,hbx,hstk,hblk,hit,hnx⟩;subst hus;have N4:=p4.next;have N':=stp.next
 have P':Prs H H':=p4.fresh stp (fun B hB=>by rcases hB with e | e<;>omega);have g4':H'.h.get A4=some (.cells [.str 0 0, .str 0 0] 48 1 false):=by rw[stp.keep _ l4 (fun e=>by rcases e with e | e<;>omega)];exact g4
 have hst: ∀ {Hx:AH} {l':List AV},Prs H Hx->Hx.h.get A4=some (.cells [.str 0 0, .str 0 0] 48 1 false)->l'.length=2->qY l'=true-> ∃Hy,stN 2 (.ptr A4 0) (.agg l') Hx=some (qZ,Hy)/\ldN 2 (.ptr A4 0) Hy=some (.agg l')/\Prs H Hy:=fun {Hx l'} px gx hl hc=>by
  obtain⟨Hy,e,g,s,_⟩:=yD px.ok gx (l':=l') hl hc;refine⟨Hy,e, ?_,px.fresh s (fun B hB=>by omega)⟩;rw[y6 g,yS _ _ _ (.inr (by omega)),List.drop_zero,zO (by omega)];rfl
 have hlen:=hit.len;rw[List.length_reverse]at hlen;by_cases hj:((j:Nat):Int)< ((8192+q.length:Nat):Int)
 .rcases List.eq_nil_or_concat st with rfl | ⟨st',p,rfl⟩
  ·
   obtain⟨rfl,rfl⟩:=hit;have hnone:kZ key kv=none:=by rw[hnx];rfl
   obtain⟨Hy,e1,e2,py⟩:=hst P' g4' (l':=[.str 0 0, .str 0 0]) rfl rfl;refine⟨.ret (nxR (kZ key kv)),Hy, ?_,py, .inl rfl⟩;have hl0:lnSl v=some (.int .i64 ((0:Nat):Int)):=hstk.row.lnSl;have bs:xH [(0,1),(1,1)] [.str 0 0, .str 0 0] []=some (.agg [.str 0 0, .str 0 0]):=rfl;rw[hnone];simp(maxSteps:=999999)(disch:=omega) only[KW,eZ,hj,hbx.ld,hl0,bs,e1,e2,nxR]
  .rw[List.concat_eq_append]at*
   have hlst:(st'++[p]).length=st'.length+1:=by simp
   rw[hlst]at hstk hlen;rw[List.reverse_append,List.reverse_singleton,List.singleton_append]at hit;obtain⟨c1,c2,w1,w2,⟨nd,h,t,S0,lo,hi,hs,rn,gen,hne,hz,rfl,rfl⟩,hit2,rfl,rfl⟩:=hit;have ti':=ti.prs P';obtain⟨q1,i1,i2⟩:=Rw.ldN hstk.row (i:=st'.length) (by omega);have htop:((st'++[p]).flatMap y7).drop (st'.length*3)=y7 p:=by
    rw[qL,List.drop_append_of_le_length (by rw[wJ];omega),List.drop_of_length_le (by rw[wJ];omega)];simp
   rw[htop,show(y7 p).take 3=y7 p from rfl]at i2;have lv1:lnSl v=some (.int .i64 ((st'.length+1:Nat):Int)):=hstk.row.lnSl;have hnz: ¬((st'.length+1:Nat):Int)=((0:Nat):Int):=by omega
   have hsub:((st'.length+1:Nat):Int) - ((1:Nat):Int)=((st'.length:Nat):Int):=by omega
   obtain⟨v1,H5,e5,p5,hg5,hmem⟩:=VF (m+1) n (by omega) ti' hs;obtain⟨ks,vs0,ps,rfl,_⟩:=id hg5;obtain⟨H6,A7,b6,p6,g6,m6',n6⟩:=box p5.ok (.cells [.bool false, .nilSlice, .nilSlice, .nilSlice] 119 1 false);have hcell:qY [.bool nd.leaf,ks,vs0,ps]=true:=by obtain⟨_,h1,_,h3⟩:=u9 hg5;exact h3
   obtain⟨H7,e7,g7,s7,n7⟩:=yD p6.ok g6 (l':=[.bool nd.leaf,ks,vs0,ps]) rfl hcell;have e7':stN 4 (.ptr A7 0) (.agg [.bool nd.leaf,ks,vs0,ps]) H6=some (qZ,H7):=e7;have N5:=p5.next;have N6:=p6.next;have N7:=s7.next
   have P7:Prs H' H7:=(p5.trans p6).fresh s7 (fun B hB=>by omega);have hg7:yK H7 (.agg [.bool nd.leaf,ks,vs0,ps]) nd:=(hg5.prs p6).stp s7 (fun B hB e=>by have:=hg5.lt hB;omega);have x7:Box H7 A6 v:=hbx.mono stp.ok P7 (fun x=>x);have hstk7:=hstk.mono P7 (fun _ _ x=>x);obtain⟨r,c8,hr,hrb⟩:=hstk7.cut (i:=st'.length) (by decide) (by omega) .i64;have htk:((st'++[p]).flatMap y7).take (st'.length*3)=st'.flatMap y7:=by
    rw[qL,List.take_append_of_le_length (by rw[wJ];omega),zO (by rw[wJ];omega)]
   rw[htk]at hr;obtain⟨H8,e8,x8,s8⟩:=x7.st P7.ok (x:=r) hr.isCell;have N8:=s8.next
   have g78:H8.h.get A7=some (.cells [.bool nd.leaf,ks,vs0,ps] 119 1 false):=by rw[s8.keep _ (by omega) (by omega)];exact g7
   obtain⟨e6,x7g⟩:=id x7;have hg8:yK H8 (.agg [.bool nd.leaf,ks,vs0,ps]) nd:=hg7.stp s8 (fun B hB e=>by
    subst e;exact hg7.nblk x7g (.inl ⟨_,_,_,_,rfl,hstk.nstr⟩) hB)
   have hsm:small nd:=jY (by rw[rn.size];omega);obtain⟨H9,e9,p9⟩:=cE (dy (m+2)) n (by omega) s8.ok (key:=key) hg8.node hsm;have N9:=p9.next
   have g79:=Prs.get p9 s8.ok g78;obtain⟨ks',vs',ps',ee,k1,k2,k3⟩:=hg8.prs p9;simp only[AV.agg.injEq,List.cons.injEq,and_true,true_and]at ee;obtain⟨rfl,rfl,rfl⟩:=ee;have S9:Stp (fun B=>B=A6\/B=A26) H4 H9:=⟨p9.ok,by omega,fun B hB hS=>by
    have a6: ¬B=A6:=fun e=>hS (.inl e)
    rw[p9.keep B (by omega) (fun x=>x),s8.keep B (by omega) a6,P7.keep B (by omega) (fun x=>x)];exact stp.keep B hB hS⟩
   have P9:Prs H H9:=p4.fresh S9 (fun B hB=>by rcases hB with e | e<;>omega);have g49:H9.h.get A4=some (.cells [.str 0 0, .str 0 0] 48 1 false):=by rw[S9.keep _ l4 (fun e=>by rcases e with e | e<;>omega)];exact g4
   have x9:Box H9 A6 r:=x8.mono s8.ok p9 (fun x=>x);have hrb': ∀B,Blk r B->B=A26\/H4.next<=B:=fun B hB=>hblk B (hrb B hB)
   have rA6: ¬Blk r A6:=fun hB=>by rcases hrb' A6 hB with e | e<;>omega
   have hr9:Stk 3 42 H9 r st'.length (st'.flatMap y7):=(hr.mono s8 (fun B hB e=>rA6 (e▸hB))).mono p9 (fun _ _ x=>x);have f0:ld1 (.ptr A7 0) H9=some (.bool nd.leaf):=by rw[qV g79];rfl
   have f1:ld1 (.ptr A7 1) H9=some ks:=by rw[qV g79];rfl
   have f2:ld1 (.ptr A7 2) H9=some vs0:=by rw[qV g79];rfl
   have f3:ld1 (.ptr A7 3) H9=some ps:=by rw[qV g79];rfl
   have t00: ¬(((0:Nat):Int)≠((0:Nat):Int)):=by omega
   have hj1:((j:Nat):Int)+((1:Nat):Int)=((j+1:Nat):Int):=by omega
   cases h with
   | zero=>
    obtain⟨rfl,rfl⟩:=rn;obtain⟨wi,hwi⟩: ∃wi,wi=Nd.whereN (leafOf t) key:=⟨_,rfl⟩;have hlf:(leafOf (t:Kvs)).leaf=true:=rfl;have hkl:(leafOf (t:Kvs)).keys.length=List.length (t:Kvs):=qM ..;have hvl:(leafOf (t:Kvs)).vals.length=List.length (t:Kvs):=qM ..;have hnl:=ZM (key:=key) (l:=t) gen.1;have hwle:=Nd.whereN_le (leafOf (t:Kvs)) key;rw[<-hwi]at e9 hnl hwle;rw[hlf]at f0;by_cases hin:wi< (leafOf (t:Kvs)).keys.length
    .have hin':wi<List.length (t:Kvs):=by omega
     have hinv:wi< (leafOf (t:Kvs)).vals.length:=by omega
     obtain⟨qk,ik,ik'⟩:=Strs.at k1.row hin;obtain⟨qv,iv,iv'⟩:=Strs.at (l:=(leafOf (t:Kvs)).vals) k2.row hinv;have hgk:(leafOf (t:Kvs)).keys[wi]=(List.get (t:Kvs) ⟨wi,hin'⟩).1:=List.getElem_map ..;have hgv:(leafOf (t:Kvs)).vals[wi]=(List.get (t:Kvs) ⟨wi,hin'⟩).2:=List.getElem_map ..;have hsome:kZ key kv=some ((leafOf (t:Kvs)).keys[wi],(leafOf (t:Kvs)).vals[wi]):=by
      rw[hnx,bI,show kZ key (con 0 t)=some (List.get (t:Kvs) ⟨wi,hin'⟩)from hnl.trans (zG hin'),hgk,hgv]
     obtain⟨Hy,y1,y2,py⟩:=hst P9 g49 (l':=[S (leafOf (t:Kvs)).keys[wi],S (leafOf (t:Kvs)).vals[wi]]) rfl rfl;refine⟨.ret (nxR (kZ key kv)),Hy, ?_,py, .inl rfl⟩;have hlt:((wi:Nat):Int)< (((leafOf (t:Kvs)).keys.length:Nat):Int):=by omega
     have bs: ∀a b:Str,xH [(0,1),(1,1)] [.str 0 0, .str 0 0] [(0,S a),(1,S b)]=some (.agg [S a,S b]):=fun _ _=>rfl
     rw[hsome];simp(maxSteps:=999999)(disch:=omega) only[KW,eZ,hj,hbx.ld,lv1,hnz,hsub,i1,i2,e5,qX,nth,b6,e7',t00,x7.ld,c8,e8,v7 g78 rfl,e9,f0,f1,k1.row.lnSl,hlt,ik,ik',f2,iv,iv',bs,y1,y2,nxR]
    .have hsome:kZ key kv=kZ key c2:=by
      rw[hnx,bI,show kZ key (con 0 t)=none from hnl.trans (List.getElem?_eq_none (by omega))]
     refine⟨.norm _,H9, ?_,k - 1,by omega,j+1,st',r,c2,w2,rfl,by omega,by simp only[qI]at hwk;omega,S9,x9,hr9,hrb',hit2,hsome⟩;have hlt: ¬((wi:Nat):Int)< (((leafOf (t:Kvs)).keys.length:Nat):Int):=by omega
     simp(maxSteps:=999999)(disch:=omega) only[KW,eZ,hj,hbx.ld,lv1,hnz,hsub,i1,i2,e5,qX,nth,b6,e7',t00,x7.ld,c8,e8,v7 g78 rfl,e9,f0,f1,k1.row.lnSl,hlt,zBM,hj1]
   | succ h=>
    obtain⟨c1,w1,hk1,hw1,hn1,hin⟩:=zDX key rn gen;obtain⟨wi,hwi⟩: ∃wi,wi=Nd.whereN nd key:=⟨_,rfl⟩;rw[<-hwi]at e9 hk1 hin;rw[rn.1]at f0;obtain⟨rw3,c10,hrw⟩:=lo3 k3 (i:=wi) (by omega) (by omega);have hkids: ∀B,Blk rw3 B->B<H.next\/H'.next<=B:=fun B hB=>by
     have hb:wN (.agg [.bool nd.leaf,ks,vs0,ps]) B:=jK.2 (.inr (.inr (cN c10 B hB)));rcases hmem with⟨kk,hm⟩ | hm
     .exact .inl (hold _ hm B hb)
     .exact .inr (hm B hb)
    have hrb2: ∀B,Blk r B->B<H'.next:=fun B hB=>hstk.lt (hrb B hB)
    have hnew:Z6 E q (st'++(nd.kids.drop wi).reverse).reverse (c1++c2) (w1+w2):=by
     rw[List.reverse_append,List.reverse_reverse];exact hit2.app hk1
    have hnl:=hnew.len;rw[List.length_reverse,zM,List.length_reverse]at hnl;have N0:=stp.next
    obtain⟨H10,v',hback,x10,hs10,st10,f10⟩:=zMw m n hm p9.ok x9 hr9 hrw (by omega) rA6 (fun B hB hB'=>by
     have x2:=hrb2 B hB';rcases hkids B hB with x1 | x1
     .rcases hrb' B hB' with e | e<;>omega
     .omega) (fun hB=>by rcases hkids _ hB with x1 | x1<;>omega)
    have hsome:kZ key kv=kZ key (c1++c2):=by rw[hnx,bI,bI,hn1]
    refine⟨.norm _,H10, ?_,k - 1,by omega,j+1,st'++(nd.kids.drop wi).reverse,v',c1++c2,w1+w2,rfl,by omega,by omega,⟨st10.ok,by have:=st10.next;omega,fun B hB hS=> ?_⟩,x10, ?_,fun B hB=> ?_,hnew,hsome⟩
    .simp(maxSteps:=999999)(disch:=omega) only[KW,eZ,hj,hbx.ld,lv1,hnz,hsub,i1,i2,e5,qX,nth,b6,e7',t00,x7.ld,c8,e8,v7 g78 rfl,e9,f0,f3,c10,hback,zBM,hj1]
    .rw[st10.keep B (by omega) (fun e=>by
      rcases e with e | e
      .exact hS (.inl e)
      .rcases hrb' B e with e | e
       .exact hS (.inr e)
       .omega)]
     exact S9.keep B hB hS
    .rw[zM,List.length_reverse,qL];exact hs10
    .rcases f10 B hB with e | e
     .exact hrb' B e
     .exact .inr (by omega)
 ·
  have hk0:k=0:=by omega
  have hst0:st=[]:=zL (by omega);subst hst0;obtain⟨rfl,rfl⟩:=hit;refine⟨.exit 0 [.ptr A4 0, .ptr A6 0],H', ?_,P', .inr ⟨rfl,by rw[hnx];rfl,⟨v,hbx,hstk.row.lnSl⟩,g4',m4⟩⟩;simp(maxSteps:=999999)(disch:=omega) only[KW,eZ,hj]
end Go.Eng.Sh
end
section
set_option maxRecDepth 20000
namespace Go.Eng.Sh
open Go.Nd (Ptr sumL leafOf Kvs Srt mayK putP delP lookP)
open Go.Bt
variable {E:Ev}
theorem TI.hold {H:AH}{At M last:Nat}{d c dr:AV}{root:Ptr}{es:List (AV×AV)}{q:PN}(ti:TI E H At M d c root es q last dr): ∀kv∈es,∀B,wN kv.2 B->B<H.next:=fun kv hkv B hB=>by
 obtain⟨nd2,hn2⟩:=ti.pq.mem kv hkv;exact hn2.lt hB
theorem zFB (m n:Nat)(hm:200000000<=m)(hn:300000000<=n){H:AH}{d c:AV}{At M L:Nat}{W:Nat->Prop}{kv:Kvs}{T:List Ptr}(key:Str)(t:vO d c E H At M L W kv T)(hL:L<=90000000):
  ∃H',f41 (dy (m+2)) n [.ptr At 0,S key] H=some (nxR (kZ key kv),H')/\Prs H H':=by
 obtain⟨dr,root,es,q,last,hc,ti,h2,h3,h4,h4',h5,hW⟩:=id t;obtain⟨H1,A4,b1,p1,g1,m1,n1⟩:=box ti.ok (.cells [.str 0 0, .str 0 0] 48 1 false);have ti1:=ti.prs p1;have hno:=dD (dy (m+2)) n ti1;have l2':ld1 (.ptr At 2) H1=some (.int .i64 root.at_):=by rw[qV ti1.gT];rfl
 have bs:xH [(0,1),(1,1)] [.str 0 0, .str 0 0] []=some (.agg [.str 0 0, .str 0 0]):=rfl;rcases h5 with⟨rfl,rfl,_⟩ | ⟨h,nd,tr,S0,hs,rn,wr,nd0,rfl,_⟩
 .have hroot:pZ.at_=((0:Nat):Int):=rfl;rw[hroot]at l2';obtain⟨H2,e2,g2,s2,_⟩:=yD p1.ok g1 (l':=[.str 0 0, .str 0 0]) rfl rfl;have e2':stN 2 (.ptr A4 0) (.agg [.str 0 0, .str 0 0]) H1=some (qZ,H2):=e2;have r2:ldN 2 (.ptr A4 0) H2=some (.agg [.str 0 0, .str 0 0]):=by rw[y6 g2];rfl
  refine⟨H2, ?_,p1.fresh s2 (fun B hB=>by omega)⟩;have hnx:kZ key []=none:=rfl;rw[hnx];simp(maxSteps:=999999)(disch:=omega) only[f41,eZ,b1,hno,l2',bs,e2',r2,nxR]
 .have hat:=zMJ hs;have h10: ¬root.at_=((0:Nat):Int):=by omega
  obtain⟨hit,hpig⟩:=zDL hs rn wr nd0;have lr:ldN 3 (.ptr At 2) H1=some (.agg (y7 root)):=by rw[y6 ti1.gT];rfl
  obtain⟨H2,A26,b2,p2,g2,m2,n2⟩:=box p1.ok (.cells (y7 root) 42 3 false);obtain⟨H3,A6,b3,p3,g3,m3,n3⟩:=box p2.ok (.cells [.nilSlice] 50 1 false);obtain⟨H4,e4,x4,s4⟩:=Box.st (⟨_,g3⟩:Box H3 A6 .nilSlice) p3.ok (x:= .slice A26 0 1 2) rfl;have N1:=p1.next;have N2:=p2.next;have N3:=p3.next;have N4:=s4.next
  have P13:=(p1.trans p2).trans p3;have P4:Prs H H4:=P13.fresh s4 (fun B hB=>by omega);have ti4:=ti.prs P4;have hmost:=zBx (dy (m+2)) n ti4;have g264:H4.h.get A26=some (.cells (y7 root) 42 3 false):=by rw[s4.keep _ (by omega) (by omega)];exact Prs.get p3 p2.ok g2
  have g44:H4.h.get A4=some (.cells [.str 0 0, .str 0 0] 48 1 false):=by rw[s4.keep _ (by omega) (by omega)];exact Prs.get (p2.trans p3) p1.ok g1
  have hstk:Stk 3 42 H4 (.slice A26 0 1 2) [root].length ([root].flatMap y7):=⟨rfl, .inr ⟨A26,2,y7 root,false,1,rfl,by omega,g264,rfl,Nat.le_refl _,rfl, .inl rfl⟩⟩;obtain⟨e,H5,e5,p5,hend⟩:=Fin.loop (NI E H4 q (con h tr) key At A4 A6 A26 (8192+q.length)) (zFA m n hm hn ti ti.hold (by omega) P4 m1 (by omega) (by omega) (by omega) (by omega) (by omega) (by omega) (by omega) (by omega) g44) n (8192+q.length) [.ptr At 0,S key, .ptr A4 0, .ptr A6 0, .int .i64 ((8192+q.length:Nat):Int), .int .i64 ((0:Nat):Int)] H4
   ⟨0,[root], .slice A26 0 1 2,con h tr,1+S0.length,rfl,by omega,by omega,Stp.refl s4.ok,x4,hstk,fun B hB=> .inl (Blk.slice.1 hB),by simpa using hit,rfl⟩ (by omega)
  have e1:=zOm 42 root [.int .i64 ((0:Nat):Int), .int .i64 ((0:Nat):Int), .int .u64 ((0:Nat):Int)] rfl;have lr1:lr=lr:=rfl;have e4':stN 1 (.ptr A6 0) (.slice A26 0 1 2) H3=some (qZ,H4):=e4;rcases hend with rfl | ⟨rfl,hnone,⟨v,xv,lv⟩,g45,_⟩
  .refine⟨H5, ?_,p5⟩;simp(maxSteps:=999999)(disch:=omega) only[f41,eZ,b1,hno,l2',h10,lr,e1,b2,cbx,show yC .nilSlice=[.nilSlice]from rfl,b3,e4',hmost,e5]
  .obtain⟨H6,e6,g6,s6,_⟩:=yD p5.ok g45 (l':=[.str 0 0, .str 0 0]) rfl rfl;have e6':stN 2 (.ptr A4 0) (.agg [.str 0 0, .str 0 0]) H5=some (qZ,H6):=e6;have r6:ldN 2 (.ptr A4 0) H6=some (.agg [.str 0 0, .str 0 0]):=by rw[y6 g6];rfl
   refine⟨H6, ?_,p5.fresh s6 (fun B hB=>by omega)⟩;rw[hnone];simp(maxSteps:=999999)(disch:=omega) only[f41,eZ,b1,hno,l2',h10,lr,e1,b2,cbx,show yC .nilSlice=[.nilSlice]from rfl,b3,e4',hmost,e5,zJ1,xv.ld,lv,bs,e6',r6,nxR]
end Go.Eng.Sh
end
section
set_option maxRecDepth 20000
namespace Go.Eng.Sh
open Go.Nd (Ptr sumL leafOf Kvs Srt mayK putP delP lookP)
open Go.Bt
variable {E:Ev}
def geR:Option Str->AV
 | none=> .tuple [.str 0 0, .int .i64 ((5:Nat):Int)]
 | some v=> .tuple [S v, .int .i64 ((0:Nat):Int)]
theorem zIG {h:Nat}{lo hi:Bd}{key:Str}{t:Bt.Tr (h+1)}(g:Gen (h+1) lo hi t){x:Bt.Tr h}(hx:t.2[jC t.1 key]? =some x):lookP key (con (h+1) t)=lookP key (con h x):=by
 obtain⟨sA,sB⟩:=fY (key:=key) (ks:=t.1) (ts:=t.2) g;have:con (h+1) t=(t.2.take (jC t.1 key)).flatMap (con h)++con h x++(t.2.drop (jC t.1 key+1)).flatMap (con h):=by
  have e:t.2=t.2.take (jC t.1 key)++[x]++t.2.drop (jC t.1 key+1):=V6 hx;simp only[con]
  conv=>lhs;rw[e]
  simp only[qL,zZ,List.flatMap_nil,List.append_nil]
 rw[this,zCI sA sB]
def GI (E:Ev)(H4:AH)(q:PN)(kv:Kvs)(key:Str)(At A6 top:Nat)(k:Nat)(us:List AV)(H':AH):Prop:=
 ∃j p nd h,∃t:Bt.Tr h,∃(S0:List Ptr) (lo hi:Bd),us=[.ptr At 0,S key, .ptr A6 0, .int .i64 ((top:Nat):Int), .int .i64 ((j:Nat):Int)]/\k+j=top/\h<k/\Stp (fun B=>B=A6) H4 H'/\H'.h.get A6=some (.cells (y7 p) 42 1 false)/\Qf E q [] p=some nd/\jB (Qf E q []) h nd t S0/\Gen h lo hi t/\jD h t<=500/\lookP key kv=lookP key (con h t)
def GQ (H:AH)(kv:Kvs)(key:Str)(e:Ex)(H':AH):Prop:=Prs H H'/\e= .ret (geR (lookP key kv))
theorem zIT (m n:Nat)(hn:300000000<=n){H H4:AH}{At M A6:Nat}{dk cch dr:AV}{root:Ptr}{es:List (AV×AV)}{q:PN}{last:Nat}{kv:Kvs}{key:Str}(ti:TI E H At M dk cch root es q last dr)(hql:q.length<=90000000)(p4:Prs H H4)(m6:H.next<=A6)(l6:A6<H4.next):
  ∀k us H',GI E H4 q kv key At A6 (8192+q.length) k us H'->Fin (zAo (dy (m+1)) n us H') (orN (fun vs' H''=> ∃k',k'<k/\GI E H4 q kv key At A6 (8192+q.length) k' vs' H'') (GQ H kv key)):=by
 intro k us H' ⟨j,p,nd,h,t,S0,lo,hi,hus,hkj,hhk,stp,gA6,hs,rn,gen,hz,hlk⟩;subst hus;have N4:=p4.next;have N':=stp.next
 have P':Prs H H':=p4.fresh stp (fun B hB=>by omega);have ti':=ti.prs P';have hj:((j:Nat):Int)< ((8192+q.length:Nat):Int):=by omega
 have i2:ldN 3 (.ptr A6 0) H'=some (.agg (y7 p)):=by rw[y6 gA6];rfl
 obtain⟨v1,H5,e5,p5,hg5,_⟩:=VF m n (by omega) ti' hs;obtain⟨ks,vs0,ps,rfl,_⟩:=id hg5;obtain⟨H6,A7,b6,p6,g6,m6',n6⟩:=box p5.ok (.cells [.bool false, .nilSlice, .nilSlice, .nilSlice] 119 1 false);have hcell:qY [.bool nd.leaf,ks,vs0,ps]=true:=by obtain⟨_,h1,_,h3⟩:=u9 hg5;exact h3
 obtain⟨H7,e7,g7,s7,n7⟩:=yD p6.ok g6 (l':=[.bool nd.leaf,ks,vs0,ps]) rfl hcell;have e7':stN 4 (.ptr A7 0) (.agg [.bool nd.leaf,ks,vs0,ps]) H6=some (qZ,H7):=e7;have N5:=p5.next;have N6:=p6.next;have N7:=s7.next
 have P7:Prs H' H7:=(p5.trans p6).fresh s7 (fun B hB=>by omega);have hg7:yK H7 (.agg [.bool nd.leaf,ks,vs0,ps]) nd:=(hg5.prs p6).stp s7 (fun B hB e=>by have:=hg5.lt hB;omega);have hsm:small nd:=jY (by rw[rn.size];omega);have f0:ld1 (.ptr A7 0) H7=some (.bool nd.leaf):=by rw[qV g7];rfl
 have t00: ¬(((0:Nat):Int)≠((0:Nat):Int)):=by omega
 have hj1:((j:Nat):Int)+((1:Nat):Int)=((j+1:Nat):Int):=by omega
 cases h with
 | zero=>
  obtain⟨rfl,rfl⟩:=rn;have hlf:(leafOf (t:Kvs)).leaf=true:=rfl;rw[hlf]at f0;obtain⟨H8,e8,p8⟩:=zIV (dy (m+1)) n (by omega) P7.ok (key:=key) hg7.node hsm;have hgl:Nd.getN (leafOf (t:Kvs)) key=lookP key kv:=by rw[hlk];exact Nd.get_leaf _ _
  rw[hgl]at e8;refine⟨.ret (geR (lookP key kv)),H8, ?_,P'.trans (P7.trans p8),rfl⟩
  cases hl:lookP key kv with
  | none=>
   rw[hl]at e8;simp(maxSteps:=999999)(disch:=omega) only[zAo,eZ,hj,i2,e5,qX,nth,b6,e7',t00,f0,v7 g7 rfl,e8,Option.isSome_none,geR]
  | some v=>
   rw[hl]at e8;simp(maxSteps:=999999)(disch:=omega) only[zAo,eZ,hj,i2,e5,qX,nth,b6,e7',t00,f0,v7 g7 rfl,e8,qS,Option.getD_some,geR]
 | succ h=>
  obtain⟨r1,r2,r3,r4⟩:=id rn;rw[r1]at f0;obtain⟨H8,e8,p8⟩:=cE (dy (m+1)) n (by omega) P7.ok (key:=key) hg7.node hsm;have hw:Nd.whereN nd key=jC t.1 key:=vB r1 r2 key;rw[hw]at e8;have hle:=cG t.1 key;have hl:=gen.2.2.len;have hil:jC t.1 key<t.2.length:=by omega
  have htk:=zG hil;have hlook:=zIG (key:=key) gen htk;have wk:=KB.at gen.2.2 htk;obtain⟨pk,ndk,Sa,Si,Sb,k1,k2,k3,_,_,_⟩:=r4.at htk;generalize jC t.1 key=wi at*
  have hg8:=hg7.prs p8;obtain⟨ks',vs',ps',ee,j1,j2,j3⟩:=hg8;simp only[AV.agg.injEq,List.cons.injEq,and_true,true_and]at ee;obtain⟨rfl,rfl,rfl⟩:=ee;have hkl:=r4.len;obtain⟨qk,ik,ik'⟩:=xV.at (l:=nd.kids) j3.row (i:=wi) (by omega);have hkk:nd.kids[wi]'(by omega)=pk:=by
   rw[zG (by omega)]at k1;exact Option.some.inj k1
  rw[hkk]at ik';have N8:=p8.next
  have f3:ld1 (.ptr A7 3) H7=some ps:=by rw[qV g7];rfl
  have f3':ld1 (.ptr A7 3) H8=some ps:=by rw[qV (Prs.get p8 P7.ok g7)];rfl
  have gA68:H8.h.get A6=some (.cells (y7 p) 42 1 false):=Prs.get (P7.trans p8) stp.ok gA6;obtain⟨H9,e9,g9,s9,_⟩:=yD p8.ok gA68 (l':=y7 pk) rfl rfl;have e9':stN 3 (.ptr A6 0) (.agg (y7 pk)) H8=some (qZ,H9):=e9;have N9:=s9.next
  refine⟨.norm _,H9, ?_,k - 1,by omega,j+1,pk,ndk,h,t.2[wi],Si,_,_,rfl,by omega,by omega,⟨s9.ok,by omega,fun B hB hS=> ?_⟩,g9,k2,k3,wk.gen,wk.sz,by rw[hlk,hlook]⟩
  .simp(maxSteps:=999999)(disch:=omega) only[zAo,eZ,hj,i2,e5,qX,nth,b6,e7',t00,f0,f3,v7 g7 rfl,e8,yV f3' (yN j3.row),ik,ik',e9',hj1]
  .rw[s9.keep B (by omega) hS,p8.keep B (by omega) (fun x=>x),P7.keep B (by omega) (fun x=>x)];exact stp.keep B hB hS
theorem zLQ (m n:Nat)(hn:300000000<=n){H:AH}{d c:AV}{At M L:Nat}{W:Nat->Prop}{kv:Kvs}{T:List Ptr}(key:Str)(t:vO d c E H At M L W kv T)(hL:L<=90000000)(hkv:kv.length<=1000000000):
  ∃H',f27 (dy (m+1)) n [.ptr At 0,S key] H=some (if mayK key then geR (lookP key kv)else .tuple [.str 0 0, .int .i64 ((1:Nat):Int)],H')/\Prs H H':=by
 obtain⟨dr,root,es,q,last,hc,ti,h2,h3,h4,h4',h5,hW⟩:=id t;have hno:=dD (dy (m+1)) n ti;by_cases hp:mayK key=true
 .have hp1:=hp;simp only[Nd.mayK,zE,zJ]at hp1;have a1: ¬((key.length:Nat):Int)< ((1:Nat):Int):=by omega
  have a2: ¬((40:Nat):Int)< ((key.length:Nat):Int):=by omega
  have l2':ld1 (.ptr At 2) H=some (.int .i64 root.at_):=by rw[qV ti.gT];rfl
  rw[if_pos hp];rcases h5 with⟨rfl,rfl,_⟩ | ⟨h,nd,tr,S0,hs,rn,wr,nd0,rfl,_⟩
  .have hroot:pZ.at_=((0:Nat):Int):=rfl;rw[hroot]at l2';refine⟨H, ?_,Stp.refl ti.ok⟩;have hlk:lookP key []=none:=rfl;rw[hlk];simp(maxSteps:=999999)(disch:=omega) only[f27,eZ,hno,a1,a2,l2',geR]
  .have hat:=zMJ hs;have h10: ¬root.at_=((0:Nat):Int):=by omega
   have hh:=wr.low hkv;have lr:ldN 3 (.ptr At 2) H=some (.agg (y7 root)):=by rw[y6 ti.gT];rfl
   obtain⟨H1,A6,b1,p1,g1,m1,n1⟩:=box ti.ok (.cells [.int .i64 ((0:Nat):Int), .int .i64 ((0:Nat):Int), .int .u64 ((0:Nat):Int)] 42 1 false);obtain⟨H2,e2,g2,s2,n2⟩:=yD p1.ok g1 (l':=y7 root) rfl rfl;have e2':stN 3 (.ptr A6 0) (.agg (y7 root)) H1=some (qZ,H2):=e2;have N1:=p1.next;have N2:=s2.next
   have P2:Prs H H2:=p1.fresh s2 (fun B hB=>by omega);have hmost:=zBx (dy (m+1)) n (ti.prs P2);obtain⟨e,H5,e5,p5,rfl⟩:=Fin.loop (GI E H2 q (con h tr) key At A6 (8192+q.length)) (zIT m n hn ti (by omega) P2 (by omega) (by omega)) n (8192+q.length) [.ptr At 0,S key, .ptr A6 0, .int .i64 ((8192+q.length:Nat):Int), .int .i64 ((0:Nat):Int)] H2
    ⟨0,root,nd,h,tr,S0,none,none,rfl,by omega,by omega,Stp.refl s2.ok,g2,hs,rn,wr.gen,wr.sz,rfl⟩ (by omega)
   refine⟨H5, ?_,p5⟩;simp(maxSteps:=999999)(disch:=omega) only[f27,eZ,hno,a1,a2,l2',h10,lr,b1,e2',hmost,e5]
 .rw[if_neg hp];refine⟨H, ?_,Stp.refl ti.ok⟩;have hx:((key.length:Nat):Int)< ((1:Nat):Int)\/((40:Nat):Int)< ((key.length:Nat):Int):=by
   simp only[Nd.mayK,zE,zJ]at hp;omega
  simp(maxSteps:=999999)(disch:=omega) only[f27,eZ,hno];rw[if_pos (by simpa using hx)];rfl
end Go.Eng.Sh
end
