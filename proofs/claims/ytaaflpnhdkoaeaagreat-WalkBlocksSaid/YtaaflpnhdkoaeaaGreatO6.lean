/- A checked evaluator for the program, and what it tells, part 6: no condition. -/
import Derived.Test.YtaaflpnhdkoaeaaGreatO5
set_option linter.all false
set_option linter.unusedVariables false
set_option linter.unusedSimpArgs false
set_option maxHeartbeats 8000000
set_option maxRecDepth 20000
section
set_option maxRecDepth 20000
namespace Go.Eng
theorem zM8 (s t:Nat):aveq (.int .u64 (s:Nat)) (.int .u64 (t:Nat))=decide (s=t):=by
 have:keq .u64 .u64=true:=by rw[xP];simp
 simp only[aveq,this,Bool.true_and,xQ];rw[yK];simp only[zR,beq_iff_eq];exact Int.ofNat_inj
theorem zQm (s:Nat):keyOk [10] (.int .u64 (s:Nat))=true:=rfl
end Go.Eng
namespace Go.Eng.Sh
open Go.Nd (Ptr sumL)
abbrev PN:=List (Nat×Nd.Node)
def jV (s:Nat):PN->Option Nd.Node
 | []=>none
 | (a,n)::l=>if a=s then some n else jV s l
def zFe (s:Nat):PN->PN
 | []=>[]
 | (a,n)::l=>if a=s then l else(a,n)::zFe s l
def uF (H:AH):List (AV×AV)->PN->Prop
 | [],[]=>True
 | (k,v)::es,(s,nd)::q=>(k= .int .u64 (s:Nat)/\kC H v nd)/\uF H es q
 | _,_=>False
theorem uF.len {H:AH} : ∀ {es:List (AV×AV)} {q:PN},uF H es q->es.length=q.length
 | [],[],_=>rfl
 | _::es,_::q,h=>by simp[uF.len h.2]
 | [],_::_,h=>h.elim
 | _::_,[],h=>h.elim
theorem uF.find {H:AH}(s:Nat): ∀ {es:List (AV×AV)} {q:PN},uF H es q->(∀nd,jV s q=some nd-> ∃v,xJ (.int .u64 (s:Nat)) es=some v/\kC H v nd/\ ∃k,(k,v)∈es)/\(jV s q=none->xJ (.int .u64 (s:Nat)) es=none)
 | [],[],_=>⟨fun nd h=>(by cases h),fun _=>rfl⟩
 | (k,v)::es,(t,nd)::q,h=>by
  obtain⟨⟨rfl,i⟩,j⟩:=h;obtain⟨m,o⟩:=uF.find s j;simp only[jV,xJ,zM8];by_cases e:t=s
  .subst e;refine⟨fun a h=> ?_,fun h=>by simp at h⟩;simp only[if_true,zB]at h;subst h;exact⟨v,by simp,i,_,zK ..⟩
  .have f: ¬s=t:=fun h=>e h.symm
   refine⟨fun a h=> ?_,fun h=> ?_⟩
   .rw[if_neg e]at h;obtain⟨p,u,x,k,y⟩:=m a h;exact⟨p,by simp[f,u],x,k,zC _ y⟩
   .rw[if_neg e]at h;simp[f,o h]
 | [],_::_,h=>h.elim
 | _::_,[],h=>h.elim
theorem uF.frame {H H':AH} : ∀ {es:List (AV×AV)} {q:PN},uF H es q->(∀kv∈es,∀nd,kC H kv.2 nd->kC H' kv.2 nd)->uF H' es q
 | [],[],_,_=>trivial
 | (k,v)::es,(s,nd)::q,h,hf=>⟨⟨h.1.1,hf (k,v) (zK ..) nd h.1.2⟩,uF.frame h.2 fun kv a=>hf kv (zC _ a)⟩
 | [],_::_,h,_=>h.elim
 | _::_,[],h,_=>h.elim
theorem uF.snoc {H:AH}{v:AV}{s:Nat}{nd:Nd.Node}(a:kC H v nd): ∀ {es:List (AV×AV)} {q:PN},uF H es q->uF H (es++[(.int .u64 (s:Nat),v)]) (q++[(s,nd)])
 | [],[],_=>⟨⟨rfl,a⟩,trivial⟩
 | _::es,_::q,h=>⟨h.1,uF.snoc a h.2⟩
 | [],_::_,h=>h.elim
 | _::_,[],h=>h.elim
theorem xW (s:Nat): ∀(a b:PN),jV s (a++b)=match jV s a with | some n=>some n | none=>jV s b
 | [],_=>rfl
 | (t,n)::a,b=>by
  simp only[qF,jV];split
  .rfl
  .exact xW s a b
theorem setA_none {k v:AV} : ∀ {es:List (AV×AV)},xJ k es=none->zB5 k v es=none
 | [],_=>rfl
 | (a,b)::es,h=>by
  simp only[xJ]at h;simp only[zB5]
  cases e:aveq k a with
  | true=>rw[e]at h;cases h
  | false=>rw[e]at h;simp only[qH]at h⊢;rw[setA_none h]
theorem uF.del {H:AH}(s:Nat): ∀ {es:List (AV×AV)} {q:PN},uF H es q->(∀nd,jV s q=some nd-> ∃es',zJx (.int .u64 (s:Nat)) es=some es'/\uF H es' (zFe s q)/\ ∀kv∈es',kv∈es)
 | [],[],_=>fun nd h=>by cases h
 | (k,v)::es,(t,nd)::q,h=>by
  obtain⟨⟨rfl,j⟩,i⟩:=h;have m:=uF.del s i;simp only[jV,zJx,zM8,zFe];by_cases e:t=s
  .subst e;intro f _;exact⟨es,by simp,by simpa using i,fun kv a=>zC _ a⟩
  .have o: ¬s=t:=fun h=>e h.symm
   intro f h;rw[if_neg e]at h;obtain⟨es',p,u,x⟩:=m f h;refine⟨(.int .u64 (t:Nat),v)::es',by simp[o,p], ?_,fun kv a=> ?_⟩
   .rw[if_neg e];exact⟨⟨rfl,j⟩,u⟩
   .rcases zP.1 a with rfl | a
    .exact zK ..
    .exact zC _ (x kv a)
 | [],_::_,h=>h.elim
 | _::_,[],h=>h.elim
def zR3 (o:AObj):Prop:=(∃x r e g,o= .cells (x::r) e 1 g/\ ∀l b,x≠ .str l b)\/(∃ks es,o= .map ks es)\/ ∃l e k g,o= .cells l e k g/\k≠1/\k≠3
theorem kZ.nsep {k e n:Nat}{H:AH}{v:AV}{l:List AV}(h:kZ k e H v n l){A:Nat}{o:AObj}(a:H.h.get A=some o)(i: ∀j g,o≠ .cells l j k g): ¬Blk v A:=by
 intro hb;rcases h with⟨_,⟨rfl,_⟩ | ⟨B,rfl,_,f⟩⟩ | ⟨_,B,j,g,rfl,_,f,_⟩
 .exact zRl.1 hb
 .rw[zRd.1 hb]at a;rw[f]at a;exact i _ _ (yD a).symm
 .rw[zRd.1 hb]at a;rw[f]at a;exact i _ _ (yD a).symm
def zRk:=@kZ.nsep
theorem kC.nblk {H:AH}{v:AV}{nd:Nd.Node}{A:Nat}{o:AObj}(h:kC H v nd)(f:H.h.get A=some o)(i:zR3 o): ¬xX v A:=by
 obtain⟨ks,vs,J,rfl,m,p,q⟩:=h;have j: ∀(l:List Str),∀a g,o≠ .cells (l.map S) a 1 g:=fun l a g e=>by
  rcases i with⟨x,r,s,t,rfl,u⟩ | ⟨_,_,rfl⟩ | ⟨_,_,_,_,rfl,z,C⟩
  .simp only[AObj.cells.injEq]at e
   cases l with
   | nil=>simp at e
   | cons y l=>
    simp only[yH,yE]at e;exact u _ _ e.1.1
  .cases e
  .simp only[AObj.cells.injEq]at e;omega
 have F: ∀a g,o≠ .cells (nd.kids.flatMap jR) a 3 g:=fun a g e=>by
  rcases i with⟨x,r,s,t,rfl,_⟩ | ⟨_,_,rfl⟩ | ⟨_,_,_,_,rfl,z,C⟩
  .simp only[AObj.cells.injEq]at e;omega
  .cases e
  .simp only[AObj.cells.injEq]at e;omega
 intro hb;rcases wO.1 hb with h | h | h
 .exact zRk m f (j _) h
 .exact zRk p f (j _) h
 .exact zRk q f F h
theorem kC.stp {S:Nat->Prop}{H H':AH}{v:AV}{nd:Nd.Node}(h:kC H v nd)(s:Stp S H H')(f: ∀A,xX v A-> ¬S A):kC H' v nd:=by
 obtain⟨ks,vs,i,rfl,j,m,o⟩:=h;exact⟨ks,vs,i,rfl,j.mono s (fun A a=>f A (wO.2 (.inl a))),m.mono s (fun A a=>f A (wO.2 (.inr (.inl a)))),o.mono s (fun A a=>f A (wO.2 (.inr (.inr a))))⟩
theorem kC.lt {H:AH}{v:AV}{nd:Nd.Node}(h:kC H v nd){B:Nat}(a:xX v B):B<H.next:=by
 obtain⟨ks,vs,m,rfl,f,i,j⟩:=h;rcases wO.1 a with h | h | h
 .exact f.lt h
 .exact i.lt h
 .exact j.lt h
theorem Stp.thr {S T:Nat->Prop}{H0 H a:AH}(h:Stp S H0 H)(k:Stp T H a)(f: ∀A,T A->H0.next<=A\/S A):Stp S H0 a:=
 ⟨k.ok,qP h.next k.next,fun A i j=>by
  rw[k.keep A (qQ i h.next) (fun x=>by rcases f A x with y | y;omega;exact j y),h.keep A i j]⟩
def xE (d c:AV)(root:Ptr)(M a:Nat)(f:AV):List AV:=[d,c, .int .i64 root.at_, .int .i64 root.birth, .int .u64 root.sum, .map M, .int .u64 (a:Nat),f]
structure Ev where
 nb:Nat
 ws:Bk.Ws
 dl:List Ptr
def OnD (E:Ev)(p:Ptr)(nd:Nd.Node):Prop:= ∃(a birth:Nat) (kind:UInt8) (body:Str),p=fC a birth (Bk.sealB kind birth body)/\2<=a/\a<E.nb/\(a<8192/\ ∀k∈nd.kids,k.at_≠1)/\birth<=2147483647/\body.length<=500/\Bk.blkAt a E.ws=some (Bk.sealB kind birth body)/\(kind=1\/kind=2)/\Nd.decN ltS (decide (kind=1)) body=some nd
theorem zO3 {E:Ev}{p:Ptr}{nd f:Nd.Node}(h:OnD E p nd)(o:OnD E p f):nd=f:=by
 obtain⟨a,b,k,s,rfl,_,_,_,hb,q,t,_,u⟩:=h;obtain⟨v,b',k',s',e,_,_,_,F,m,i,_,j⟩:=o;simp only[fC,Ptr.mk.injEq]at e;have x:a=v:=by omega
 have y:b=b':=by omega
 subst x;subst y;rw[t]at i;obtain⟨z,C⟩:=Bk.seal_inj q m (yD i);subst z;subst C;rw[u]at j;exact yD j
open Classical in
noncomputable def Ev.K (E:Ev)(p:Ptr):Option Nd.Node:=if h: ∃nd,OnD E p nd then some (Classical.choose h)else none
theorem Ev.K_iff {E:Ev}{p:Ptr}{nd:Nd.Node} :E.K p=some nd↔OnD E p nd:=by
 rw[Ev.K];constructor
 .intro h;split at h
  .rename_i a;rw[<-yD h];exact Classical.choose_spec a
  .cases h
 .intro h;rw[dif_pos ⟨nd,h⟩];exact congrArg some (zO3 (Classical.choose_spec (⟨nd,h⟩: ∃nd,OnD E p nd)) h)
def zRi:=@Ev.K_iff
def pp (s:Nat):Ptr:=⟨1,0,(s:Nat)⟩
noncomputable def Qf (E:Ev)(q f:PN)(p:Ptr):Option Nd.Node:=if p=pp p.sum.toNat then(match jV p.sum.toNat f with | some n=>some n | none=>jV p.sum.toNat q)else E.K p
theorem zB1 (E:Ev)(q f:PN)(s:Nat):Qf E q f (pp s)=match jV s f with | some n=>some n | none=>jV s q:=by simp[Qf,pp]
theorem vQ {E:Ev}{q f:PN}{p:Ptr}{nd:Nd.Node}(h:Qf E q f p=some nd):(∃s,p=pp s/\(jV s f=some nd\/(jV s f=none/\jV s q=some nd)))\/((∀s,p≠pp s)/\E.K p=some nd):=by
 simp only[Qf]at h;split at h
 .rename_i e;refine .inl ⟨_,e, ?_⟩;split at h
  .rename_i n a;exact .inl (a.trans h)
  .rename_i a;exact .inr ⟨a,h⟩
 .rename_i e;exact .inr ⟨fun s es=>e (by rw[es];simp[pp]),h⟩
theorem J8 {E:Ev}{q f:PN}{p:Ptr}(h: ∀s,p≠pp s):Qf E q f p=E.K p:=by rw[Qf,if_neg (h _)]
structure TI (E:Ev)(H:AH)(At M:Nat)(d c:AV)(root:Ptr)(es:List (AV×AV))(q:PN)(last:Nat)(dr:AV):Prop where
 ok:H.ok
 gT:H.h.get At=some (.cells (xE d c root M last dr) 140 1 false)
 gM:H.h.get M=some (.map [10] es)
 pq:uF H es q
 dk: ∃Ad On Nw wv ds,d= .ptr Ad 0/\DkI H Ad E.nb E.ws On Nw wv ds
 cn:c= .nilPtr\/ ∀p,E.K p=none
 dg:kZ 3 42 H dr E.dl.length (E.dl.flatMap jR)
 ds: ∀kv∈es,∀B,xX kv.2 B-> ¬Blk dr B
 few:q.length<=1000000000
theorem TI.hd {E:Ev}{H:AH}{At M a:Nat}{d c f:AV}{root:Ptr}{es:List (AV×AV)}{q:PN}(h:TI E H At M d c root es q a f): ∃A o,d= .ptr A o:=by
 obtain⟨A,_,_,_,_,e,_⟩:=h.dk;exact⟨A,0,e⟩
theorem DkI.stp {S:Nat->Prop}{H H':AH}{Ad nb:Nat}{j:Bk.Ws}{a f:Nat}{h:AV}{es:List (AV×AV)}(d:DkI H Ad nb j a f h es)(i:H.ok)(s:Stp S H H')(m: ¬S Ad)(o: ¬S a)(p: ¬S f)(q: ∀B,Blk h B-> ¬S B):DkI H' Ad nb j a f h es:=
 ⟨by rw[s.keep _ (i.lt d.gD) m];exact d.gD,by rw[s.keep _ (i.lt d.gO) o];exact d.gO,by rw[s.keep _ (i.lt d.gN) p];exact d.gN,d.ow.mono s q,d.nw,d.ln,d.few,d.ne⟩
theorem DkI.prs {H H':AH}{Ad nb:Nat}{a:Bk.Ws}{f h:Nat}{i:AV}{es:List (AV×AV)}(d:DkI H Ad nb a f h i es)(j:H.ok)(s:Prs H H'):DkI H' Ad nb a f h i es:=d.stp j s (fun x=>x) (fun x=>x) (fun x=>x) fun _ _ x=>x
theorem TI.prs {E:Ev}{H H':AH}{At M a:Nat}{d c f:AV}{root:Ptr}{es:List (AV×AV)}{q:PN}(h:TI E H At M d c root es q a f)(s:Prs H H'):TI E H' At M d c root es q a f:=
 ⟨s.ok,zRn s h.ok h.gT,zRn s h.ok h.gM,h.pq.frame fun kv _ nd i=>i.prs s,by
  obtain⟨Ad,j,m,o,p,e,hd⟩:=h.dk;exact⟨Ad,j,m,o,p,e,hd.prs h.ok s⟩,h.cn,h.dg.mono s fun _ _ x=>x,h.ds,h.few⟩
theorem YT (D:Dyn)(n:Nat){H:AH}{E:Ev}{At M a:Nat}{d c f:AV}{root:Ptr}{es:List (AV×AV)}{q:PN}(h:TI E H At M d c root es q a f):f73 D n [.ptr At 0] H=some (.bool false,H):=by
 obtain⟨A,o,rfl⟩:=h.hd;simp only[f73,eZ,cq,jL h.gT,xE]
theorem zO9 (D:Dyn)(n:Nat){H:AH}{E:Ev}{At M a:Nat}{d c i:AV}{root:Ptr}{es:List (AV×AV)}{q:PN}(h:TI E H At M d c root es q a i):f76 D n [.ptr At 0] H=some (.int .i64 ((8192+q.length:Nat):Int),H):=by
 have j:=h.few;have f:QK (.map M) H=some (.int .i64 ((q.length:Nat):Int)):=by
  simp only[QK,h.gM,kD,h.pq.len];rfl
 have e:((8192:Nat):Int)+((q.length:Nat):Int)=((8192+q.length:Nat):Int):=by omega
 simp(disch:=omega) only[f76,eZ,jL h.gT,xE,f,e]
theorem zBA (D:Dyn)(n:Nat){E:Ev}{H:AH}{At M O s:Nat}{d c Z:AV}{root:Ptr}{es:List (AV×AV)}{q:PN}{nd:Nd.Node}(h:TI E H At M d c root es q O Z)(hs:jV s q=some nd):
  ∃v H',f77 D n [.ptr At 0, .agg (jR (pp s))] H=some (.tuple [v, .int .i64 ((0:Nat):Int)],H')/\Prs H H'/\kC H' v nd/\ ∃k,(k,v)∈es:=by
 obtain⟨v,f1,x,hm⟩:=(h.pq.find s).1 nd hs;obtain⟨H1,y,b1,f,z,m1,n1⟩:=box h.ok (.cells [.int .i64 ((1:Nat):Int), .int .i64 ((0:Nat):Int), .int .u64 (s:Nat)] 42 1 false);obtain⟨C,A4,b2,i,g2,m2,n2⟩:=box f.ok (.cells [.bool false, .nilSlice, .nilSlice, .nilSlice] 119 1 false);have a:Prs H C:=f.trans i;obtain⟨F,A6,b3,j,g3,m3,n3⟩:=box a.ok (.cells [.bool false, .nilSlice, .nilSlice, .nilSlice] 119 1 false);have J:=a.trans j;obtain⟨l,rfl,o,K⟩:=x.cells;obtain⟨m,e4,g4,p,n4⟩:=jW J.ok g3 (l':=l) o K;have S:stN 4 (.ptr A6 0) (.agg l) F=some (jO,m):=e4;have L:Prs H m:=J.fresh p (fun B hB=>by have:=a.next;omega)
 obtain⟨t,e5,g5,s5,n5⟩:=jW L.ok (show m.h.get A4=some (.cells [.bool false, .nilSlice, .nilSlice, .nilSlice] 119 1 false)by rw[p.keep _ (by have:=j.next;omega) (by omega)];exact zRn j a.ok g2) (l':=l) o K
 have T:stN 4 (.ptr A4 0) (.agg l) m=some (jO,t):=e5;have N:Prs H t:=L.fresh s5 (fun B hB=>by have:=f.next;omega)
 have u:F.h.get y=some (.cells [.int .i64 ((1:Nat):Int), .int .i64 ((0:Nat):Int), .int .u64 (s:Nat)] 42 1 false):=zRn j a.ok (zRn i f.ok z);have U:=zRn i f.ok z;have V:m.h.get y=some (.cells [.int .i64 ((1:Nat):Int), .int .i64 ((0:Nat):Int), .int .u64 (s:Nat)] 42 1 false):=by rw[p.keep _ (by have:=i.next;have:=j.next;omega) (by have:=i.next;omega)];exact u
 have W:lkM [10] (.agg [.bool false, .nilSlice, .nilSlice, .nilSlice]) true (.map M) (.int .u64 (s:Nat)) C=some (.tuple [.agg l, .bool true]):=by
  simp only[lkM,zQm,zM,zRn a h.ok h.gM,show QX [10] [10]=true from rfl,f1];rfl
 refine⟨.agg l,t, ?_,N,x.prs N,hm⟩;have Y: ¬(((0:Nat):Int)≠((0:Nat):Int)):=by omega
 have hp:jR (pp s)=[.int .i64 ((1:Nat):Int), .int .i64 ((0:Nat):Int), .int .u64 (s:Nat)]:=rfl;rw[hp];simp(maxSteps:=999999)(disch:=omega) only[f77,eZ,b1,b2,jL U,jL u,jL V,jL (zRn a h.ok h.gT),xE,W,jM,nth,b3,S,Y,bY g4 o,T,bY g5 o]
theorem YC.free {H0 H:AH}{v:AV}{nd:Nd.Node}(h:YC H0 H v nd):vT H0.next H v nd:=by
 obtain⟨ks,vs,a,rfl,f,i,j,m,_⟩:=h;exact⟨⟨ks,vs,a,rfl, .inl f, .inl i, .inl j⟩,fun B o=>m B (wO.1 o)⟩
theorem zP5 (D:Dyn)(n:Nat)(hn:1000<=n){E:Ev}{H:AH}{At M K:Nat}{d dr:AV}{root:Ptr}{es:List (AV×AV)}{q:PN}(h:TI E H At M d .nilPtr root es q K dr){a birth:Nat}{kind:UInt8}{body:Str}(ha:2<=a)(N:a<E.nb)(hb:birth<=2147483647)(hl:body.length<=500)(L:Bk.blkAt a E.ws=some (Bk.sealB kind birth body)):
  ∃H',zLC D n [.ptr At 0, .agg (jR (fC a birth (Bk.sealB kind birth body)))] H=some (.tuple [.int .u8 ((kind.toNat:Nat):Int),S body, .int .i64 ((0:Nat):Int)],H')/\Prs H H':=by
 obtain⟨B,m⟩: ∃B,B=Bk.sealB kind birth body:=⟨_,rfl⟩;have o:=Bk.sealB_len (kind:=kind) (birth:=birth) hl;obtain⟨p,s,b1,f,v,m1,n1⟩:=box h.ok (.cells (jR (fC a birth B)) 42 1 false);obtain⟨Z,x⟩: ∃Z:Str,Z=List.replicate 512 0:=⟨_,rfl⟩;have O:Z.length=512:=by rw[x];exact List.length_replicate
 have T:rep 512 [AV.int .u8 ((0:Nat):Int)]=jN Z:=by rw[dZ,x]
 obtain⟨H2,a1,b2,i,g2,m2,n2⟩:=box f.ok (.cells (jN Z) 55 1 false);have N1:=f.next;have N2:=i.next
 have h2:=(h.prs f).prs i;obtain⟨Ad,On,Nw,wv,ds,rfl,hd⟩:=h2.dk;obtain⟨H3,y,j⟩:=zCp D n i.ok hd N;have U:zDR a E.ws=B:=by rw[zDR,L,m];rfl
 rw[U]at y;rw[<-m]at o;obtain⟨t,e4,g4,z⟩:=stR j.ok (zRn j i.ok g2) O o;have N3:=j.next
 have u:Prs H t:=((f.trans i).trans j).fresh z fun B m=>by omega
 have V:t.h.get s=some (.cells (jR (fC a birth B)) 42 1 false):=by
  rw[z.keep _ (by omega) (by omega)];exact zRn (i.trans j) f.ok v
 obtain⟨C,F,J⟩:=zLS D n hn u.ok kind (at_:=a) (by omega) hb hl;rw[<-m]at F⊢;have h5:=(h.prs u).prs J;have c1:Eng.ld1 (.ptr At 1) p=some .nilPtr:=by rw[jL (h.prs f).gT];rfl
 have W:Eng.ld1 (.ptr At 0) p=some (.ptr Ad 0):=by rw[jL (h.prs f).gT];rfl
 have c5:Eng.ld1 (.ptr At 1) C=some .nilPtr:=by rw[jL h5.gT];rfl
 have r1:Eng.ld1 (.ptr s 0) p=some (.int .i64 ((a:Nat):Int)):=by rw[jL v];rfl
 have Y:ldN 3 (.ptr s 0) t=some (.agg (jR (fC a birth B))):=by rw[jQ V];rfl
 have r4:=ldR g4 o;have a0: ¬(((0:Nat):Int)≠((0:Nat):Int)):=by omega
 refine⟨C, ?_,u.trans J⟩;simp(maxSteps:=999999)(disch:=omega) only[zLC,BF,BE,eZ,b1,c1,cq,W,r1,T,b2,y,jM,nth,e4,a0,Y,r4,F,c5]
theorem zHv (m n:Nat)(hn:200000000<=n){E:Ev}{H:AH}{At M a1:Nat}{d c dr:AV}{root p:Ptr}{es:List (AV×AV)}{q:PN}{nd:Nd.Node}(h:TI E H At M d c root es q a1 dr)(x:E.K p=some nd):
  ∃v H',f77 (dy (m+1)) n [.ptr At 0, .agg (jR p)] H=some (.tuple [v, .int .i64 ((0:Nat):Int)],H')/\Prs H H'/\kC H' v nd/\ ∀B,xX v B->H.next<=B:=by
 have hc:c= .nilPtr:=by
  rcases h.cn with e | e
  .exact e
  .rw[e]at x;cases x
 subst hc;obtain⟨a,birth,kind,body,rfl,ha,a3,_,hb,hl,a2,a0,J⟩:=zRi.1 x;obtain⟨B,f⟩: ∃B,B=Bk.sealB kind birth body:=⟨_,rfl⟩;obtain⟨H1,O,b1,i,T,m1,n1⟩:=box h.ok (.cells (jR (fC a birth B)) 42 1 false);obtain⟨U,A4,b2,j,g2,m2,n2⟩:=box i.ok (.cells [.bool false, .nilSlice, .nilSlice, .nilSlice] 119 1 false);have N1:=i.next;have N2:=j.next
 have V:=i.trans j;obtain⟨H3,o,t⟩:=zP5 (dy (m+1)) n (by omega) (h.prs V) ha a3 hb hl a2;rw[<-f]at o⊢;obtain⟨v,W,Y,u,hO,l,rfl,y,lc⟩:=zJy m n hn t.ok (decide (kind=1)) body;rw[J]at Y;have z:=(hO nd J).free;have N3:=t.next;have N4:=u.next
 have P4:=(V.trans t).trans u;obtain⟨Z,e5,g5,s5,n5⟩:=jW u.ok (zRn (t.trans u) j.ok g2) (l':=l) y lc;have L:stN 4 (.ptr A4 0) (.agg l) W=some (jO,Z):=e5;have s:f123 (dy (m+1)) n [.bool (decide (kind=1)),S body] H3=some (.tuple [.agg l, .int .i64 ((0:Nat):Int)],W):=Y;have r1:Eng.ld1 (.ptr O 0) U=some (.int .i64 ((a:Nat):Int)):=by rw[jL (zRn j i.ok T)];rfl
 have r3:ldN 3 (.ptr O 0) U=some (.agg (jR (fC a birth B))):=by rw[jQ (zRn j i.ok T)];rfl
 have t1: ¬((a:Nat):Int)=((1:Nat):Int):=by omega
 have N: ¬(((0:Nat):Int)≠((0:Nat):Int)):=by omega
 refine⟨.agg l,Z, ?_,P4.fresh s5 fun B f=>by omega,z.1.stp s5 fun B f e=> ?_,fun B f=> ?_⟩
 .rcases a0 with rfl | rfl
  .have C:(((1:UInt8).toNat:Nat):Int)=((1:Nat):Int):=rfl;have F:decide ((1:UInt8)=1)=true:=rfl;have a4: ¬(((1:Nat):Int)≠((1:Nat):Int)):=by omega
   rw[C]at o;rw[F]at s;simp(maxSteps:=999999)(disch:=omega) only[f77,eZ,b1,b2,r1,t1,r3,o,jM,nth,N,a4,s,L,bY g5 y]
  .have C:(((2:UInt8).toNat:Nat):Int)=((2:Nat):Int):=rfl;have F:decide ((2:UInt8)=1)=false:=rfl;have a7:((2:Nat):Int)≠((1:Nat):Int):=by omega
   have a5: ¬(((2:Nat):Int)≠((2:Nat):Int)):=by omega
   have a6: ¬((2:Nat):Int)=((1:Nat):Int):=by omega
   rw[C]at o;rw[F]at s;simp(maxSteps:=999999)(disch:=omega) only[f77,eZ,b1,b2,r1,t1,r3,o,jM,nth,N,ne_eq,a6,j6,a5,s,L,bY g5 y]
 .have:=z.2 B f;omega
 .have:=z.2 B f;omega
theorem zD7 (m n:Nat)(i:200000000<=n){E:Ev}{H:AH}{At M f:Nat}{d c j:AV}{root p:Ptr}{es:List (AV×AV)}{q:PN}{nd:Nd.Node}(h:TI E H At M d c root es q f j)(o:Qf E q [] p=some nd):
  ∃v H',f77 (dy (m+1)) n [.ptr At 0, .agg (jR p)] H=some (.tuple [v, .int .i64 ((0:Nat):Int)],H')/\Prs H H'/\kC H' v nd/\((∃k,(k,v)∈es)\/ ∀B,xX v B->H.next<=B):=by
 rcases vQ o with⟨s,rfl,a | ⟨_,a⟩⟩ | ⟨_,a⟩
 .simp[jV]at a
 .obtain⟨v,H',e,p,g,k⟩:=zBA (dy (m+1)) n h a;exact⟨v,H',e,p,g, .inl k⟩
 .obtain⟨v,H',e,p,g,k⟩:=zHv m n i h a;exact⟨v,H',e,p,g, .inr k⟩
end Go.Eng.Sh
end
section
set_option maxRecDepth 20000
namespace Go.Eng.Sh
open Go.Nd (Ptr sumL)
variable {X:Nat->Prop}
structure Ch (X:Nat->Prop)(H0 H:AH)(At Ac F:Nat)(fes:List (AV×AV))(f:PN)(g:AV)(gl:List Ptr)(last0 last:Nat):Prop where
 prs:Prs H0 H
 gC:H.h.get Ac=some (.cells [.ptr At 0, .int .u64 (last:Nat), .map F,g] 242 1 false)
 gF:H.h.get F=some (.map [10] fes)
 pf:uF H fes f
 gg:Own 3 42 H g gl.length (gl.flatMap jR)
 gN: ∀B,Blk g B->H0.next<=B
 gf: ∀kv∈fes,∀B,xX kv.2 B-> ¬Blk g B
 dC:H0.next<=Ac
 dF:H0.next<=F
 ne:Ac≠F
 fs: ∀s nd,jV s f=some nd->last0<s/\s<=last
 le:last0<=last
 few:gl.length<=last+1000
 fd:(f.map Prod.fst).Nodup
 fl:f.length+last0<=last
 gx: ∀kv∈fes,∀B,xX kv.2 B-> ¬X B
 xo: ∀B,X B->B<H0.next
theorem fH {s:Nat} : ∀ {q:PN},s∈q.map Prod.fst-> ∃nd,jV s q=some nd
 | [],h=>by simp at h
 | (t,n)::q,h=>by
  simp only[jV];by_cases e:t=s
  .exact⟨n,if_pos e⟩
  .rw[if_neg e];simp only[yH,zP]at h;exact fH (h.resolve_left fun a=>e a.symm)
def chg (a F:Nat)(g:AV)(B:Nat):Prop:=B=a\/B=F\/Blk g B
def Adv (a F:Nat)(H:AH)(g:AV)(H':AH)(f:AV):Prop:=Stp (chg a F g) H H'/\ ∀B,Blk f B->Blk g B\/H.next<=B
def xL (X:Nat->Prop)(H:AH)(g v:AV)(nd:Nd.Node):Prop:=kC H v nd/\ ∀B,xX v B-> ¬Blk g B/\ ¬X B
theorem Adv.prs {a F:Nat}{H H':AH}(g:AV)(s:Prs H H'):Adv a F H g H' g:=⟨s.mono (fun _ _ x=>x.elim),fun _ h=> .inl h⟩
theorem Adv.trans {a F:Nat}{H j m:AH}{g o p:AV}(i:a<H.next)(t:F<H.next)(h:Adv a F H g j o)(k:Adv a F j o m p):Adv a F H g m p:=by
 refine⟨⟨k.1.ok,qP h.1.next k.1.next,fun A i f=> ?_⟩,fun B q=> ?_⟩
 .rw[k.1.keep A (qQ i h.1.next) (fun s=> ?_),h.1.keep A i f]
  rcases s with e | e | e
  .exact f (.inl e)
  .exact f (.inr (.inl e))
  .rcases h.2 A e with e | e
   .exact f (.inr (.inr e))
   .omega
 .have:=h.1.next
  rcases k.2 B q with e | e
  .exact h.2 B e
  .exact .inr (by omega)
theorem Ch.ltC {H0 H:AH}{At a F:Nat}{m:List (AV×AV)}{f:PN}{g:AV}{gl:List Ptr}{i j:Nat}(h:Ch X H0 H At a F m f g gl i j):a<H.next:=h.prs.ok.lt h.gC
theorem Ch.ltF {H0 H:AH}{At m F:Nat}{j:List (AV×AV)}{f:PN}{g:AV}{gl:List Ptr}{a i:Nat}(h:Ch X H0 H At m F j f g gl a i):F<H.next:=h.prs.ok.lt h.gF
theorem Ch.keep {H0 H H':AH}{At j F:Nat}{p:List (AV×AV)}{f:PN}{g v:AV}{gl:List Ptr}{m o:Nat}{nd:Nd.Node}(h:Ch X H0 H At j F p f g gl m o)(a:xL X H g v nd)(s:Stp (chg j F g) H H'):kC H' v nd:=
 a.1.stp s fun A i q=>by
  rcases q with rfl | rfl | e
  .exact a.1.nblk h.gC (.inl ⟨_,_,_,_,rfl,fun _ _ e=>by cases e⟩) i
  .exact a.1.nblk h.gF (.inr (.inl ⟨_,_,rfl⟩)) i
  .exact(a.2 A i).1 e
theorem Ch.next {H0 H H':AH}{At j F:Nat}{q:List (AV×AV)}{f:PN}{g m v:AV}{gl:List Ptr}{o p:Nat}{nd:Nd.Node}(h:Ch X H0 H At j F q f g gl o p)(a:xL X H g v nd)(s:Adv j F H g H' m):xL X H' m v nd:=
 ⟨h.keep a s.1,fun B i=>⟨fun t=>by
  rcases s.2 B t with e | e
  .exact(a.2 B i).1 e
  .have:=a.1.lt i;omega,(a.2 B i).2⟩⟩
theorem Ch.step {H0 H H':AH}{At m F:Nat}{j:List (AV×AV)}{f:PN}{g:AV}{gl:List Ptr}{a i:Nat}(h:Ch X H0 H At m F j f g gl a i)(s:Prs H H'):Ch X H0 H' At m F j f g gl a i:=
 ⟨h.prs.trans s,zRn s h.prs.ok h.gC,zRn s h.prs.ok h.gF,h.pf.frame fun kv _ nd o=>o.prs s,h.gg.mono s (fun _ _ x=>x),h.gN,h.gf,h.dC,h.dF,h.ne,h.fs,h.le,h.few,h.fd,h.fl,h.gx,h.xo⟩
theorem xL.prs {H H':AH}{g v:AV}{nd:Nd.Node}(h:xL X H g v nd)(s:Prs H H'):xL X H' g v nd:=⟨h.1.prs s,h.2⟩
theorem vT.hand {H0 H H':AH}{At p F:Nat}{o:List (AV×AV)}{f:PN}{g v:AV}{gl:List Ptr}{j m:Nat}{nd:Nd.Node}(h:Ch X H0 H At p F o f g gl j m){N:Nat}(t:H.next<=N)(a:vT N H' v nd):xL X H' g v nd:=
 ⟨a.1,fun B i=>⟨fun q=>by have:=a.2 B i;have:=zRp h.gg.row q;omega,fun s=>by have:=a.2 B i;have:=h.xo B s;have:=h.prs.next;omega⟩⟩
theorem kC.hand {H0 H H':AH}{At o F:Nat}{m:List (AV×AV)}{f:PN}{g v:AV}{gl:List Ptr}{i j:Nat}{nd:Nd.Node}(h:Ch X H0 H At o F m f g gl i j)(p:kC H' v nd)(q: ∀B,xX v B->B<H0.next)(s: ∀B,xX v B-> ¬X B):xL X H' g v nd:=
 ⟨p,fun B a=>⟨fun t=>by have:=q B a;have:=h.gN B t;omega,s B a⟩⟩
theorem bldQ (e:TypeId)(p:Ptr)(z:List AV)(a:z.length=3):dL e 3 1 z [(0, .agg (jR p))]=some (.cells (jR p) e 3 false,fun A=> .slice A 0 1 2):=by
 match z,a with
 | [_,_,_],_=>rfl
theorem zNy (p:Ptr):uU (jR p) 0 3=some (jR p):=rfl
theorem zIA (D:Dyn)(n:Nat){H0 H:AH}{At m F:Nat}{N:List (AV×AV)}{f:PN}{g:AV}{gl:List Ptr}{Z y:Nat}(h:Ch X H0 H At m F N f g gl Z y)(p:Ptr)(hl:gl.length+1<=y+1000)(hb:y<=900000000):
  ∃s H',f130 D n [.ptr m 0, .agg (jR p)] H=some (.tuple [],H')/\Ch X H0 H' At m F N f s (gl++[p]) Z y/\Adv m F H g H' s:=by
 obtain⟨H1,A3,b1,O,g1,m1,n1⟩:=box h.prs.ok (.cells (jR p) 42 1 false);obtain⟨H2,A4,b2,p2,g2,m2,n2⟩:=box O.ok (.cells (jR p) 42 3 false);have C:=O.trans p2;have j:=h.step C;have a0:srcOf 3 (.slice A4 0 1 2) H2=some (1,jR p):=by
  simp only[srcOf,g2];rfl
 obtain⟨s,T,e3,U,z,w3,J⟩:=zP9 (bytes:=24) j.prs.ok (by decide) j.gg a0 rfl rfl (by omega) (by decide);have nC: ¬Blk g m:=fun a=>by
  obtain⟨_,⟨rfl,_⟩ | ⟨A,rfl,_,u⟩⟩:=j.gg
  .exact zRl.1 a
  .rw[<-zRd.1 a,j.gC]at u;simp at u
 have nF: ¬Blk g F:=fun a=>by
  obtain⟨_,⟨rfl,_⟩ | ⟨A,rfl,_,u⟩⟩:=j.gg
  .exact zRl.1 a
  .rw[<-zRd.1 a,j.gF]at u;simp at u
 have a2:T.h.get m=some (.cells [.ptr At 0, .int .u64 (y:Nat), .map F,g] 242 1 false):=by rw[z.keep _ j.ltC nC];exact j.gC
 have a3:T.h.get F=some (.map [10] N):=by rw[z.keep _ j.ltF nF];exact j.gF
 obtain⟨K,e4,g4,V,n4⟩:=xU z.ok a2 (o:=3) (x:=s) U.row.isCell (by simp);have a6: ∀B,Blk s B->B<T.next:=fun B a=>zRp U.row a
 have a4: ¬Blk s m:=fun a=>by
  rcases J m a with e | e
  .exact nC e
  .have:=j.ltC;omega
 have S2:Stp (chg m F g) H2 K:=(z.mono (fun _ _ x=> .inr (.inr x))).trans (V.mono (fun _ _ x=> .inl x));have S:Stp (chg m F g) H K:=(C.mono (fun _ _ x=>x.elim)).trans S2;have a1:Adv m F H g K s:=⟨S,fun B a=>by
  rcases J B a with e | e
  .exact .inl e
  .have:=C.next;exact .inr (by omega)⟩
 have a5:(gl++[p]).flatMap jR=gl.flatMap jR++jR p:=by simp
 refine⟨s,K, ?_,⟨?_, ?_, ?_, ?_, ?_, ?_, ?_,h.dC,h.dF,h.ne,h.fs,h.le,by simpa using hl,h.fd,h.fl,h.gx,h.xo⟩,a1⟩
 .have e1:=bldQ 42 p [.int .i64 ((0:Nat):Int), .int .i64 ((0:Nat):Int), .int .u64 ((0:Nat):Int)] rfl;simp(disch:=omega) only[f130,eZ,b1,jL (zRn O h.prs.ok h.gC),jQ g1,zNy,zZ,e1,b2,e3,e4]
 .exact h.prs.fresh S (fun B a=>by
   have:=h.dC;have:=h.dF;rcases a with e | e | e
   .omega
   .omega
   .exact h.gN B e)
 .exact g4
 .rw[V.keep _ (by have:=z.next;have:=j.ltF;omega) (fun e=>h.ne e.symm)];exact a3
 .exact h.pf.frame fun kv v nd W=>h.keep ⟨W,fun B a=>⟨h.gf kv v B a,h.gx kv v B a⟩⟩ S
 .rw[a5];have:=U.mono V (fun B a e=>a4 (e▸a));simpa using this
 .intro B a;rcases J B a with e | e
  .exact h.gN B e
  .have:=j.prs.next;omega
 .intro kv v B a u;obtain⟨i,hi⟩:=List.mem_iff_getElem.1 v;have a7:B<H.next:=by
   have hp: ∀ {es:List (AV×AV)} {q:PN},uF H es q-> ∀kv∈es,∃nd,kC H kv.2 nd:=by
    intro es
    induction es with
    | nil=>intro q _ kv h;simp at h
    | cons e es ih=>
     intro q L kv Y
     match q,L with
     | (t,nd)::q,L=>
      rcases zP.1 Y with rfl | Y
      .exact⟨nd,L.1.2⟩
      .exact ih L.2 kv Y
   obtain⟨nd,W⟩:=hp h.pf kv v;exact W.lt a
  rcases J B u with e | e
  .exact h.gf kv v B a e
  .have:=C.next;omega
theorem zK2 (D:Dyn)(n:Nat){H0 H:AH}{At p F:Nat}{q:List (AV×AV)}{f:PN}{g v:AV}{gl:List Ptr}{W i:Nat}{nd:Nd.Node}(h:Ch X H0 H At p F q f g gl W i)(O:xL X H g v nd)(hb:i<=900000000):
  ∃H',f127 D n [.ptr p 0,v] H=some (.agg (jR (pp (i+1))),H')/\Ch X H0 H' At p F (q++[(.int .u64 ((i+1:Nat):Int),v)]) (f++[(i+1,nd)]) g gl W (i+1)/\Adv p F H g H' g:=by
 obtain⟨l,rfl,ll,lc⟩:=O.1.cells;obtain⟨H1,A3,b1,S,g1,m1,n1⟩:=box h.prs.ok (.cells l 119 1 false);obtain⟨H2,A4,b2,V,g2,m2,n2⟩:=box S.ok (.cells [.int .i64 ((0:Nat):Int), .int .i64 ((0:Nat):Int), .int .u64 ((0:Nat):Int)] 42 1 false);have P2:=S.trans V;have y:=h.step P2;obtain⟨t,e3,J,u,n3⟩:=xU y.prs.ok y.gC (o:=1) (x:= .int .u64 ((i+1:Nat):Int)) rfl (by simp);have J:t.h.get p=some (.cells [.ptr At 0, .int .u64 ((i+1:Nat):Int), .map F,g] 242 1 false):=J;have Y:t.h.get F=some (.map [10] q):=by rw[u.keep _ y.ltF (fun e=>h.ne e.symm)];exact y.gF
 have a2:xJ (.int .u64 ((i+1:Nat):Int)) q=none:=(h.pf.find (i+1)).2 (by
  cases T:jV (i+1) f with
  | none=>rfl
  | some a3=>have:=h.fs _ _ T;omega)
 have e4:upM [10] (.map F) (.int .u64 ((i+1:Nat):Int)) (.agg l) t=some (jO,t.put F (.map [10] (q++[(.int .u64 ((i+1:Nat):Int), .agg l)]))):=by
  simp only[upM,zQm,zM,Y,show QX [10] [10]=true from rfl,setA_none a2,kO]
 have Z:(t.put F (.map [10] (q++[(.int .u64 ((i+1:Nat):Int), .agg l)]))).h.get F=some (.map [10] (q++[(.int .u64 ((i+1:Nat):Int), .agg l)])):=by rw[zRc,if_pos rfl]
 have z:Stp (fun B=>B=F) t (t.put F (.map [10] (q++[(.int .u64 ((i+1:Nat):Int), .agg l)]))):=(zRf u.ok).put (u.ok.lt Y) _ (.inr rfl);generalize t.put F (.map [10] (q++[(.int .u64 ((i+1:Nat):Int), .agg l)]))=H4 at e4 Z z;have a0:H4.h.get p=some (.cells [.ptr At 0, .int .u64 ((i+1:Nat):Int), .map F,g] 242 1 false):=by rw[z.keep _ (u.ok.lt J) h.ne];exact J
 have b0:=h.ltC;have b3:=h.ltF;have N1:=S.next;have N2:=V.next;have N3:=u.next;have N4:=z.next
 have a4:H4.h.get A4=some (.cells [.int .i64 ((0:Nat):Int), .int .i64 ((0:Nat):Int), .int .u64 ((0:Nat):Int)] 42 1 false):=by
  rw[z.keep _ (by omega) (by omega),u.keep _ n2 (by omega)];exact g2
 have a5:ldN 4 (.ptr A3 0) t=some (.agg l):=bY (e:=119) (by rw[u.keep _ (by omega) (by omega)];exact zRn V S.ok g1) ll;obtain⟨K,e5,g5,C,n5⟩:=jW z.ok a4 (l':=jR (pp (i+1))) rfl rfl;have a6:stN 3 (.ptr A4 0) (.agg (jR (pp (i+1)))) H4=some (jO,K):=e5;have S4:Stp (chg p F g) H H4:=((P2.mono (fun _ _ x=>x.elim)).trans (u.mono (fun _ _ x=> .inl x))).trans (z.mono (fun _ _ x=> .inr (.inl x)));have U:Stp (chg p F g) H K:=⟨C.ok,qP S4.next C.next,fun A hA hS=>by rw[C.keep A (by omega) (by omega),S4.keep A hA hS]⟩
 have a1:Adv p F H g K g:=⟨U,fun B j=> .inl j⟩;have a7:IntKind.wrap .u64 (((i:Nat):Int)+((1:Nat):Int))=((i+1:Nat):Int):=by rw[wrap_u64];omega
 have bs:vR [(0,1),(1,1),(2,1)] [.int .i64 ((0:Nat):Int), .int .i64 ((0:Nat):Int), .int .u64 ((0:Nat):Int)] [(0, .int .i64 ((1:Nat):Int)),(2, .int .u64 ((i+1:Nat):Int))]=some (.agg (jR (pp (i+1)))):=rfl;have r5:ldN 3 (.ptr A4 0) K=some (.agg (jR (pp (i+1)))):=by rw[jQ g5];rfl
 have a8:=h.keep O U;refine⟨K, ?_,⟨?_, ?_, ?_, ?_, ?_,h.gN, ?_,h.dC,h.dF,h.ne, ?_,by have:=h.le;omega,by have:=h.few;omega, ?_,by have:=h.fl;simp;omega,fun kv m B j=> ?_,h.xo⟩,a1⟩
 .simp(maxSteps:=999999)(disch:=omega) only[f127,eZ,b1,b2,jL y.gC,a7,e3,jL J,a5,e4,jL a0,bs,a6,r5]
 .exact h.prs.fresh U (fun B j=>by
   have:=h.dC;have:=h.dF;rcases j with e | e | e
   .omega
   .omega
   .exact h.gN B e)
 .rw[C.keep _ (by omega) (by omega)];exact a0
 .rw[C.keep _ (by omega) (by omega)];exact Z
 .exact uF.snoc a8 (h.pf.frame fun kv m nd hn=>h.keep ⟨hn,fun B j=>⟨h.gf kv m B j,h.gx kv m B j⟩⟩ U)
 .have nC: ∀B,Blk g B-> ¬B=p:=fun B j e=>by
   subst e;obtain⟨_,⟨rfl,_⟩ | ⟨A,rfl,_,L⟩⟩:=h.gg
   .exact zRl.1 j
   .rw[<-zRd.1 j,h.gC]at L;simp at L
  have nF: ∀B,Blk g B-> ¬B=F:=fun B j e=>by
   subst e;obtain⟨_,⟨rfl,_⟩ | ⟨A,rfl,_,L⟩⟩:=h.gg
   .exact zRl.1 j
   .rw[<-zRd.1 j,h.gF]at L;simp at L
  exact(((y.gg.mono u nC).mono z nF).mono C (fun B j e=>by have:=zRp h.gg.row j;omega))
 .intro kv m B j;rcases qB.1 m with m | m
  .exact h.gf kv m B j
  .simp only[y6]at m;subst m;exact(O.2 B j).1
 .intro s a3 N;rw[xW]at N
  cases T:jV s f with
  | some a9=>have:=h.fs _ _ T;omega
  | none=>
   rw[T]at N;simp only[jV]at N;split at N
   .have:=h.le;omega
   .cases N
 .rw[List.map_append,List.nodup_append];refine⟨h.fd,by simp,fun a ha b hb e=> ?_⟩;simp only[yH,List.map_nil,y6]at hb;subst hb;subst e;obtain⟨a9,y⟩:=fH ha;have:=h.fs _ _ y;omega
 .rcases qB.1 m with m | m
  .exact h.gx kv m B j
  .simp only[y6]at m;subst m;exact(O.2 B j).2
open Go.Nd (cutOk cutA Q4)
inductive CutsN:Nd.Node->List Nd.Node->List Str->Prop
 | one {nd:Nd.Node} :Nd.size nd<=500->CutsN nd [nd] []
 | more {nd:Nd.Node} {k:Nat} {ps:List Nd.Node} {ss:List Str} :500<Nd.size nd->cutOk nd k->hbnd nd k->CutsN (Q4 nd k) ps ss->CutsN nd (cutA nd k::ps) (nd.keys.getD k []::ss)
def Par (H:AH):List (List AV)->List Nd.Node->Prop
 | [],[]=>True
 | l::vs,nd::nds=>(l.length=4/\jP l=true/\kC H (.agg l) nd)/\Par H vs nds
 | _,_=>False
theorem Par.len {H:AH} : ∀ {vs:List (List AV)} {i:List Nd.Node},Par H vs i->vs.length=i.length/\vs.flatten.length=i.length*4/\jP vs.flatten=true
 | [],[],_=>⟨rfl,rfl,rfl⟩
 | l::vs,_::i,h=>by
  obtain⟨a,b,c⟩:=Par.len h.2;refine⟨by simp[a], ?_, ?_⟩
  .rw[List.flatten_cons,zT,b,h.1.1,zW];omega
  .rw[List.flatten_cons,kY];intro x f;rcases qB.1 f with f | f
   .exact kY.1 h.1.2.1 x f
   .exact kY.1 c x f
 | [],_::_,h=>h.elim
 | _::_,[],h=>h.elim
theorem Par.frame {H H':AH} : ∀ {vs:List (List AV)} {a:List Nd.Node},Par H vs a->(∀l∈vs,∀nd,kC H (.agg l) nd->kC H' (.agg l) nd)->Par H' vs a
 | [],[],_,_=>trivial
 | l::vs,nd::a,h,hf=>⟨⟨h.1.1,h.1.2.1,hf l (zK ..) nd h.1.2.2⟩,Par.frame h.2 fun l hl=>hf l (zC _ hl)⟩
 | [],_::_,h,_=>h.elim
 | _::_,[],h,_=>h.elim
theorem Par.snoc {H:AH}{l:List AV}{nd:Nd.Node}(f:l.length=4/\jP l=true/\kC H (.agg l) nd): ∀ {vs:List (List AV)} {a:List Nd.Node},Par H vs a->Par H (vs++[l]) (a++[nd])
 | [],[],_=>⟨f,trivial⟩
 | _::vs,_::a,h=>⟨h.1,Par.snoc f h.2⟩
 | [],_::_,h=>h.elim
 | _::_,[],h=>h.elim
theorem Par.mem {H:AH} : ∀ {vs:List (List AV)} {a:List Nd.Node} {l:List AV},Par H vs a->l∈vs-> ∃nd,kC H (.agg l) nd
 | [],[],_,_,hl=>by simp at hl
 | k::vs,nd::a,l,h,hl=>by
  rcases zP.1 hl with rfl | hl
  .exact⟨nd,h.1.2.2⟩
  .exact Par.mem h.2 hl
 | [],_::_,_,h,_=>h.elim
 | _::_,[],_,h,_=>h.elim
theorem zQW (e:TypeId)(l:List AV)(hl:l.length=4)(z:List AV)(a:z.length=4):dL e 4 1 z [(0, .agg l)]=some (.cells l e 4 false,fun A=> .slice A 0 1 2):=by
 match z,a with
 | [_,_,_,_],_=>match l,hl with
  | [_,_,_,_],_=>rfl
theorem src4 {H:AH}{A e:Nat}{l:List AV}{g:Bool}(h:H.h.get A=some (.cells l e 4 g))(hl:l.length=4)(cc:Nat):srcOf 4 (.slice A 0 1 cc) H=some (1,l):=by
 simp only[srcOf,h,kW _ _ _ (.inr (show 0+1*4<=l.length by omega)),yB,zX (show l.length<=1*4 by omega)]
theorem WI {nd:Nd.Node}(h:Nd.shaped ltS nd=true)(i:500<Nd.size nd):gK nd:=by
 have f: ∀k∈nd.keys,k.length<=40:=fun k f=>by
  simp only[Nd.shaped,zE,y9]at h;have:=h.1.1 k f;simp only[Nd.mayK,zE,zR]at this;omega
 have b1: ∀(c:Nat) (l:List Str),(∀k∈l,k.length<=c)->sumL l<=(c+1)*l.length:=by
  intro c l
  induction l with
  | nil=>simp[sumL]
  | cons a l ih=>
   intro h;have:=ih fun k f=>h k (zC _ f)
   have:=h a (zK ..);rw[Nd.sumL_cons,zW,Nat.mul_succ];omega
 have o:=b1 40 nd.keys f;simp only[Nd.size]at i
 cases hl:nd.leaf with
 | true=>
  simp only[Nd.shaped,hl,if_true,zE,zR,y9]at h;have j:=b1 200 nd.vals fun v m=>h.2.2 v m
  rw[h.2.1.2,yJ]at i;rw[h.2.1.1]at j;exact⟨by omega, .inl hl⟩
 | false=>
  simp only[Nd.shaped,hl,zL,qC,zE,zR]at h;rw[h.2.1.1.2]at i;have:sumL []=0:=rfl;rw[h.2.1.2]at i;exact⟨by omega, .inr (by omega)⟩
theorem xN {nd:Nd.Node}(h:Nd.size nd<=10000):small nd:=by
 simp only[Nd.size]at h;exact⟨by omega,by omega,by omega⟩
theorem zCs (D:Dyn)(n:Nat)(hn:200000000<=n){H:AH}(hk:H.ok){v:AV}{nd:Nd.Node}(h:kC H v nd)(f6:Nd.shaped ltS nd=true)(hz:Nd.size nd<=10000):
  ∃p i H' vs o q,f177 D n [v] H=some (.tuple [p,i, .int .i64 ((0:Nat):Int)],H')/\Prs H H'/\CutsN nd o q/\Own 4 119 H' p o.length vs.flatten/\Par H' vs o/\Own 1 9 H' i q.length (q.map S)/\
   (∀B,Blk p B->H.next<=B)/\(∀B,Blk i B->H.next<=B)/\ ∀l∈vs,∀B,xX (.agg l) B->xX v B\/H.next<=B:=by
 obtain⟨l0,rfl,f7,f8⟩:=h.cells;obtain⟨H1,A1,b1,p1,g1,m1,n1⟩:=box hk (.cells l0 119 1 false);have lp:Fin (jY n (QR D n) [.ptr A1 0, .nilSlice, .nilSlice] H1) fun x H'=> ∃l j vs o q p i,x= .exit 0 [.ptr A1 0,p,i]/\Prs H H'/\H'.h.get A1=some (.cells l 119 1 false)/\l.length=4/\jP l=true/\kC H' (.agg l) j/\Nd.size j<=500/\
   (∀a4 a5,CutsN j a4 a5->CutsN nd (o++a4) (q++a5))/\Own 4 119 H' p o.length vs.flatten/\Par H' vs o/\Own 1 9 H' i q.length (q.map S)/\(∀B,Blk p B->H.next<=B)/\(∀B,Blk i B->H.next<=B)/\
   (∀B,xX (.agg l) B->xX (.agg l0) B\/H.next<=B)/\(∀l∈vs,∀B,xX (.agg l) B->xX (.agg l0) B\/H.next<=B)/\o.length<=10000:=by
  refine Fin.loop (fun k us H'=> ∃l j vs o q p i,us=[.ptr A1 0,p,i]/\Prs H H'/\H'.h.get A1=some (.cells l 119 1 false)/\l.length=4/\jP l=true/\kC H' (.agg l) j/\Nd.shaped ltS j=true/\
   (∀a4 a5,CutsN j a4 a5->CutsN nd (o++a4) (q++a5))/\Own 4 119 H' p o.length vs.flatten/\Par H' vs o/\Own 1 9 H' i q.length (q.map S)/\(∀B,Blk p B->H.next<=B)/\(∀B,Blk i B->H.next<=B)/\
   (∀B,xX (.agg l) B->xX (.agg l0) B\/H.next<=B)/\(∀l∈vs,∀B,xX (.agg l) B->xX (.agg l0) B\/H.next<=B)/\(∀B,xX (.agg l) B-> ¬Blk i B)/\(∀l∈vs,∀B,xX (.agg l) B-> ¬Blk i B)/\q.length=o.length/\o.length+Nd.size j<=10000/\k=Nd.size j) ?_ n (Nd.size nd) _ H1
   ⟨l0,nd,[],[],[], .nilSlice, .nilSlice,rfl,p1,g1,f7,f8,h.prs p1,f6,fun _ _ h=>h,zRo ..,trivial,zRo ..,fun B f=>(zRl.1 f).elim,fun B f=>(zRl.1 f).elim,fun B f=> .inl f,by simp,fun B _ f=>(zRl.1 f).elim,by simp,rfl,by simpa using hz,rfl⟩ (by omega)
  rintro k us H' ⟨l,j,vs,o,q,p,i,rfl,P,U,N,lc,hG,b2,b6,O,a9,V,bP,bS,bl,b7,al,f9,e0,i5,rfl⟩
  have d3:small j:=xN (by omega);obtain⟨z,H2,e2,rfl,J⟩:=WH D n P.ok hG.node d3 hn;have P2:=P.trans J;have g2:=zRn J P.ok U;by_cases d0:500<Nd.size j
  case neg=>
   have c2: ¬((500:Nat):Int)< ((Nd.size j:Nat):Int):=by omega
   refine⟨.exit 0 [.ptr A1 0,p,i],H2, ?_,l,j,vs,o,q,p,i,rfl,P2,g2,N,lc,hG.prs J,by omega,b6,O.mono J (fun _ _ x=>x),a9.frame (fun l hl nd hn=>hn.prs J),V.mono J (fun _ _ x=>x),bP,bS,bl,b7,by omega⟩;simp(disch:=omega) only[QR,eZ,bY U N,e2,c2]
  case pos=>
  have c2:((500:Nat):Int)< ((Nd.size j:Nat):Int):=by omega
  have g0:=WI b2 d0;obtain⟨va,sep,vb,e,H3,e3,L,hc⟩:=zQL D n hn P2.ok (hG.prs J) d3;rcases hc with⟨rfl,k,_,c3,hb,rfl,ga,gb⟩ | ⟨_,_,g9,_⟩
  case inr=>exact absurd ⟨b2,g0⟩ g9
  have P3:=P2.trans L;have d4:Prs H' H3:=J.trans L;obtain⟨W,rfl,b0,c4⟩:=ga.1.cells;obtain⟨Y,rfl,c5,c6⟩:=gb.1.cells;obtain⟨H4,A7,b4,p4,g4,m4,n4⟩:=box P3.ok (.cells [.bool false, .nilSlice, .nilSlice, .nilSlice] 119 1 false);obtain⟨H5,A9,b5,p5,g5,m5,n5⟩:=box p4.ok (.cells [.bool false, .nilSlice, .nilSlice, .nilSlice] 119 1 false);obtain⟨H6,e6,g6,s6,n6⟩:=jW p5.ok (zRn p5 p4.ok g4) (l':=W) b0 c4;have h0:stN 4 (.ptr A7 0) (.agg W) H5=some (jO,H6):=e6;obtain⟨H7,e7,g7,s7,n7⟩:=jW s6.ok (show H6.h.get A9=some (.cells [.bool false, .nilSlice, .nilSlice, .nilSlice] 119 1 false)by rw[s6.keep _ n5 (by omega)];exact g5) (l':=Y) c5 c6;have h1:stN 4 (.ptr A9 0) (.agg Y) H6=some (jO,H7):=e7;have N3:=d4.next;have N4:=p4.next;have N5:=p5.next
  have d5:Prs H3 H7:=((p4.trans p5).fresh s6 (fun B f=>by omega)).fresh s7 (fun B f=>by omega);have h2:H7.h.get A7=some (.cells W 119 1 false):=by rw[s7.keep _ (by omega) (by omega)];exact g6
  obtain⟨Z,i7,b8,p8,g8,m8,n8⟩:=box d5.ok (.cells W 119 4 false);have a6:Prs H3 Z:=d5.trans p8;have a0:Prs H' Z:=d4.trans a6;obtain⟨H9,e9,o9,K,n9⟩:=bW (bytes:=80) a6.ok (by decide) (O.mono a0 (fun _ _ x=>x)) (src4 g8 b0 2) (by omega) c4 (by omega) (by omega) (by decide);have N8:=a6.next
  have nP: ∀(l:List AV) (nd:Nd.Node),kC Z (.agg l) nd-> ∀B,xX (.agg l) B-> ¬Blk p B:=fun l nd s B f hp=>by
   obtain⟨_,⟨rfl,_⟩ | ⟨C,rfl,_,u⟩⟩:=O.mono a0 (fun _ _ x=>x)
   .exact zRl.1 hp
   .rw[zRd.1 hp]at f;exact s.nblk u (.inr (.inr ⟨_,_,_,_,rfl,by decide,by decide⟩)) f
  have d6:=V.mono a0 (fun _ _ x=>x);have c7: ∀B,Blk i B-> ¬Blk p B:=fun B f hp=>by
   obtain⟨_,⟨rfl,_⟩ | ⟨C,rfl,_,u⟩⟩:=O.mono a0 (fun _ _ x=>x)
   .exact zRl.1 hp
   .obtain⟨_,⟨rfl,_⟩ | ⟨E,rfl,_,c8⟩⟩:=d6
    .exact zRl.1 f
    .rw[<-zRd.1 hp,zRd.1 f,c8]at u;simp at u
  obtain⟨b9,h3,h4,y,h5,i8,i9⟩:=box K.ok (.cells [S (j.keys.getD k [])] 9 1 false);have e1:=(d6.mono K c7).mono y (fun _ _ x=>x);have e5:srcOf 1 (.slice h3 0 1 2) b9=some (1,[S (j.keys.getD k [])]):=by
   have:=Rw.srcOf (Rw.lit (cc:=2) y.ok h5);exact this
  obtain⟨a7,h6,h7,a3,j0⟩:=bW (bytes:=16) y.ok (by decide) e1 e5 rfl rfl (by omega) (by omega) (by decide);have i6:A1<H'.next:=P.ok.lt U
  have fr: ∀(l:List AV) (nd:Nd.Node),kC Z (.agg l) nd->(∀B,xX (.agg l) B-> ¬Blk i B)->kC a7 (.agg l) nd:=fun l nd s ha=>
   ((s.stp K (nP l nd s)).prs y).stp a3 ha
  have d1: ∀B,Blk i B->B<H3.next:=fun B f=>by have:=zRp V.row f;omega
  have d7:=ga.1.prs a6;have d8:=gb.1.prs a6;have fA: ∀B,xX (.agg W) B-> ¬Blk i B:=fun B f T=>by have:=ga.2 B f;have:=zRp V.row T;have:=J.next;omega
  have fB: ∀B,xX (.agg Y) B-> ¬Blk i B:=fun B f T=>by have:=gb.2 B f;have:=zRp V.row T;have:=J.next;omega
  have f1:=fr W _ d7 fA;have f2:=fr Y _ d8 fB;have c9: ∀(l:List AV) (nd:Nd.Node),kC Z (.agg l) nd-> ∀B,xX (.agg l) B->B<b9.next:=fun l nd s B f=>by have:=s.lt f;have:=K.next;have:=y.next;omega
  have d2:a7.h.get A1=some (.cells l 119 1 false):=by
   have e8:Z.h.get A1=some (.cells l 119 1 false):=zRn a0 P.ok U;have np: ¬Blk p A1:=fun hp=>by
    obtain⟨_,⟨rfl,_⟩ | ⟨C,rfl,_,u⟩⟩:=O
    .exact zRl.1 hp
    .rw[<-zRd.1 hp,U]at u;simp at u
   have ns: ¬Blk i A1:=fun hp=>by
    obtain⟨_,⟨rfl,_⟩ | ⟨C,rfl,_,u⟩⟩:=V
    .exact zRl.1 hp
    .rw[<-zRd.1 hp,U]at u;simp at u
   rw[a3.keep _ (by have:=K.next;have:=y.next;omega) ns,y.keep _ (by have:=K.next;omega) (fun x=>x),K.keep _ (by omega) np];exact e8
  obtain⟨c0,d9,h8,c1,j1⟩:=jW a3.ok d2 (l':=Y) (by omega) c6;have f3:stN 4 (.ptr A1 0) (.agg Y) a7=some (jO,c0):=by rw[N]at d9;exact d9
  have r9:ldN 4 (.ptr A9 0) a7=some (.agg Y):=bY (e:=119) (by
   have np: ¬Blk p A9:=fun hp=>by have:=zRp O.row hp;omega
   have ns: ¬Blk i A9:=fun hp=>by have:=d1 _ hp;omega
   rw[a3.keep _ (by have:=K.next;have:=y.next;have:=p8.next;omega) ns,y.keep _ (by have:=K.next;have:=p8.next;omega) (fun x=>x),K.keep _ (by have:=p8.next;omega) np,p8.keep _ (by omega) (fun x=>x)];exact g7) c5
  have a8: ∀(t:List AV) (F:Nd.Node),kC a7 (.agg t) F->kC c0 (.agg t) F:=fun t F s=>s.stp c1 (fun B f e=>by
   subst e;have: ∃x r,l=x::r/\ ∀a b,x≠ .str a b:=by
    obtain⟨ks,vs',ps,ee,_⟩:=hG;simp only[AV.agg.injEq]at ee;exact⟨_,_,ee,fun _ _ e=>by cases e⟩
   obtain⟨x,r,rfl,hx⟩:=this;exact s.nblk d2 (.inl ⟨x,r,_,_,rfl,hx⟩) f)
  have Pn:Prs H c0:=by
   have a1:Prs H H9:=(P3.trans a6).fresh K bP;have a2:Prs H a7:=(a1.trans y).fresh a3 bS;exact a2.fresh c1 (fun B f=>by omega)
  have f4:=Nd.cut_size b2 c3;have h9:=Nd.cut_shaped b2 c3;have N9:=K.next;have j2:=y.next;have j3:=a3.next
  have PN:=P.next
  refine⟨.norm [.ptr A1 0, .slice Z.next 0 (o.length+1) 1, .slice b9.next 0 (q.length+1) 1],c0, ?_,Nd.size (Q4 j k),f4.2,Y,Q4 j k,vs++[W],o++[cutA j k],q++[j.keys.getD k []], .slice Z.next 0 (o.length+1) 1, .slice b9.next 0 (q.length+1) 1,rfl,Pn,h8,c5,c6,a8 _ _ f2,h9.2,fun a4 a5 i0=> ?_, ?_, ?_, ?_,fun B f=> ?_,fun B f=> ?_,fun B f=> ?_,fun t m B f=> ?_,fun B f T=> ?_,fun t m B f T=> ?_,by simp[e0], ?_,rfl⟩
  .simp(maxSteps:=999999)(disch:=omega) only[QR,eZ,bY U N,e2,c2,bY g2 N,e3,jM,nth,b4,b5,h0,h1,ne_eq,not_true_eq_false,bY h2 b0,zQW 119 W b0 [.bool false, .nilSlice, .nilSlice, .nilSlice] rfl,zW,yJ,b8,e9,zNP 9 (.str 0 0) (JV (j.keys.getD k [])),h4,h6,r9,f3]
  .rw[qI,qI];exact b6 _ _ (.more d0 c3 hb i0)
  .have i1:=((o9.mono y (fun _ _ x=>x)).mono a3 (fun B f T=>by rw[zRd.1 f]at T;have:=d1 _ T;omega)).mono c1 (fun B f e=>by rw[zRd.1 f]at e;omega);simpa using i1
  .refine Par.snoc ⟨b0,c4,a8 _ _ f1⟩ (a9.frame fun t m F s=>a8 _ _ (fr t F (s.prs a0) (f9 t m)))
  .have f5:=h7.mono c1 (fun B f e=>by rw[zRd.1 f]at e;omega);simpa using f5
  .rw[zRd.1 f];omega
  .rw[zRd.1 f];omega
  .exact .inr (by have:=gb.2 B f;have:=J.next;omega)
  .rcases qB.1 m with m | m
   .exact b7 t m B f
   .simp only[y6]at m;subst m;exact .inr (by have:=ga.2 B f;have:=J.next;omega)
  .rw[zRd.1 T]at f;have:=c9 _ _ d8 _ f;omega
  .rw[zRd.1 T]at f;rcases qB.1 m with m | m
   .obtain⟨F,i2⟩:=a9.mem m;have:=c9 _ _ (i2.prs a0) _ f;omega
   .simp only[y6]at m;subst m;have:=c9 _ _ d7 _ f;omega
  .simp only[zT,zW,yJ];omega
 obtain⟨x,H2,e2,l,j,vs,o,q,p,i,rfl,P,U,N,lc,hG,i3,b6,O,a9,V,bP,bS,bl,b7,i4⟩:=lp;obtain⟨H3,A3,b3,L,g3,m3,n3⟩:=box P.ok (.cells l 119 4 false);obtain⟨H4,e4,o4,s4,n4⟩:=bW (bytes:=80) L.ok (by decide) (O.mono L (fun _ _ x=>x)) (src4 g3 N 2) (by omega) lc (by omega) (by omega) (by decide);have nP: ∀(l:List AV) (nd:Nd.Node),kC H3 (.agg l) nd-> ∀B,xX (.agg l) B-> ¬Blk p B:=fun l nd s B f hp=>by
  obtain⟨_,⟨rfl,_⟩ | ⟨C,rfl,_,u⟩⟩:=O.mono L (fun _ _ x=>x)
  .exact zRl.1 hp
  .rw[zRd.1 hp]at f;exact s.nblk u (.inr (.inr ⟨_,_,_,_,rfl,by decide,by decide⟩)) f
 have c7: ∀B,Blk i B-> ¬Blk p B:=fun B f hp=>by
  obtain⟨_,⟨rfl,_⟩ | ⟨C,rfl,_,u⟩⟩:=O
  .exact zRl.1 hp
  .obtain⟨_,⟨rfl,_⟩ | ⟨E,rfl,_,c8⟩⟩:=V
   .exact zRl.1 f
   .rw[<-zRd.1 hp,zRd.1 f,c8]at u;simp at u
 have a8: ∀(t:List AV) (F:Nd.Node),kC H2 (.agg t) F->kC H4 (.agg t) F:=fun t F s=>(s.prs L).stp s4 (nP t F (s.prs L))
 have N3:=L.next;have PN:=P.next
 refine⟨.slice H3.next 0 (o.length+1) 1,i,H4,vs++[l],o++[j],q, ?_,(P.trans L).fresh s4 bP, ?_, ?_,Par.snoc ⟨N,lc,a8 _ _ hG⟩ (a9.frame fun t m F s=>a8 _ _ s),(V.mono L (fun _ _ x=>x)).mono s4 c7,fun B f=> ?_,bS,fun t m B f=> ?_⟩
 .simp(maxSteps:=999999)(disch:=omega) only[f177,eZ,b1,e2,B9,bY U N,zQW 119 l N [.bool false, .nilSlice, .nilSlice, .nilSlice] rfl,zW,yJ,b3,e4]
 .have:=b6 [j] [] (.one i3);rwa[qX]at this
 .simpa using o4
 .rw[zRd.1 f];omega
 .rcases qB.1 m with m | m
  .exact b7 t m B f
  .simp only[y6]at m;subst m;exact bl B f
end Go.Eng.Sh
end
section
set_option maxRecDepth 20000
namespace Go.Eng
theorem Own.ne {k e n:Nat}{H:AH}{v:AV}{l:List AV}(h:Own k e H v n l){A:Nat}{o:AObj}(a:H.h.get A=some o)(i: ∀l e g,o≠ .cells l e k g): ¬Blk v A:=fun f=>by
 obtain⟨_,⟨rfl,_⟩ | ⟨B,rfl,_,j⟩⟩:=h
 .exact zRl.1 f
 .rw[zRd.1 f]at a;rw[j]at a;exact i _ _ _ (yD a).symm
theorem Own.get {k e n:Nat}{H:AH}{v:AV}{l:List AV}(h:Own k e H v n l){B:Nat}(a:Blk v B):H.h.get B=some (.cells l e k true):=by
 obtain⟨_,⟨rfl,_⟩ | ⟨C,rfl,_,f⟩⟩:=h
 .exact(zRl.1 a).elim
 .rw[zRd.1 a];exact f
def zRj:=@Own.get
end Go.Eng
namespace Go.Eng.Sh
open Go.Nd (Ptr sumL)
variable {X:Nat->Prop}
def xY (a:Nat):List Nd.Node->PN
 | []=>[]
 | nd::nds=>(a+1,nd)::xY (a+1) nds
def VL (a:Nat):List (List AV)->List (AV×AV)
 | []=>[]
 | l::vs=>(.int .u64 ((a+1:Nat):Int), .agg l)::VL (a+1) vs
def pps (a:Nat):Nat->List Ptr
 | 0=>[]
 | n+1=>pp (a+1)::pps (a+1) n
theorem zA0 (x:Nd.Node): ∀(l:List Nd.Node) (f:Nat),xY f (l++[x])=xY f l++[(f+l.length+1,x)]
 | [],f=>rfl
 | a::l,f=>by
  simp only[qF,xY,zA0 x l,zW];rw[show f+1+l.length+1=f+(l.length+1)+1 from by omega]
theorem zA1 (x:List AV): ∀(l:List (List AV)) (f:Nat),VL f (l++[x])=VL f l++[(.int .u64 ((f+l.length+1:Nat):Int), .agg x)]
 | [],f=>rfl
 | a::l,f=>by
  simp only[qF,VL,zA1 x l,zW];rw[show f+1+l.length+1=f+(l.length+1)+1 from by omega]
theorem zEp: ∀(n a:Nat),pps a (n+1)=pps a n++[pp (a+n+1)]
 | 0,a=>rfl
 | n+1,a=>by
  rw[pps,zEp n (a+1),pps,qF,show a+1+n+1=a+(n+1)+1 from by omega]
theorem YO: ∀(n a:Nat),(pps a n).length=n
 | 0,_=>rfl
 | n+1,a=>by simp[pps,YO n (a+1)]
theorem zBP: ∀ {vs:List (List AV)} {a:Nat} {kv:AV×AV},kv∈VL a vs-> ∃l∈vs,kv.2= .agg l
 | [],_,_,h=>by simp[VL]at h
 | l::vs,a,kv,h=>by
  rcases zP.1 h with rfl | h
  .exact⟨l,zK ..,rfl⟩
  .obtain⟨l',f,i⟩:=zBP h;exact⟨l',zC _ f,i⟩
theorem Ch.other {H0 H H':AH}{At i F:Nat}{a:List (AV×AV)}{f:PN}{g:AV}{gl:List Ptr}{j m:Nat}{S:Nat->Prop}(h:Ch X H0 H At i F a f g gl j m)(s:Stp S H H')(q: ¬S i)(t: ¬S F)(u: ∀B,Blk g B-> ¬S B)(v: ∀kv∈a,∀B,xX kv.2 B-> ¬S B)(x: ∀B,S B->H0.next<=B):Ch X H0 H' At i F a f g gl j m:=
 ⟨h.prs.fresh s x,by rw[s.keep _ h.ltC q];exact h.gC,by rw[s.keep _ h.ltF t];exact h.gF,h.pf.frame fun kv o nd p=>p.stp s (v kv o),h.gg.mono s u,h.gN,h.gf,h.dC,h.dF,h.ne,h.fs,h.le,h.few,h.fd,h.fl,h.gx,h.xo⟩
theorem uF.mem {H:AH} : ∀ {es:List (AV×AV)} {q:PN},uF H es q-> ∀kv∈es,∃nd,kC H kv.2 nd
 | [],[],_,_,a=>by simp at a
 | e::es,(t,nd)::q,hq,kv,a=>by
  rcases zP.1 a with rfl | a
  .exact⟨nd,hq.1.2⟩
  .exact uF.mem hq.2 kv a
 | [],_::_,h,_,_=>h.elim
 | _::_,[],h,_,_=>h.elim
theorem zMJ {H:AH} : ∀ {vs:List (List AV)} {a:List Nd.Node} {i:Nat} (_:Par H vs a) (hi:i<a.length),∃l nd,vs[i]? =some l/\a[i]? =some nd/\l.length=4/\jP l=true/\kC H (.agg l) nd/\(vs.flatten.drop (i*4)).take 4=l/\vs.take (i+1)=vs.take i++[l]/\a.take (i+1)=a.take i++[nd]
 | [],[],_,_,hi=>by simp at hi
 | l::vs,nd::a,0,h,_=>⟨l,nd,rfl,rfl,h.1.1,h.1.2.1,h.1.2.2,by simp[List.take_append_of_le_length,h.1.1,zX],rfl,rfl⟩
 | k::vs,m::a,i+1,h,hi=>by
  obtain⟨l,nd,f,j,o,p,q,s,t,u⟩:=zMJ h.2 (by simpa using hi);refine⟨l,nd,f,j,o,p,q, ?_,by simp[t],by simp[u]⟩;rw[List.flatten_cons,List.drop_append,show(i+1)*4 - k.length=i*4 from by rw[h.1.1];omega,qT (by rw[h.1.1];omega),qS];exact s
 | [],_::_,_,h,_=>h.elim
 | _::_,[],_,h,_=>h.elim
theorem zCQ (D:Dyn)(n:Nat)(hn:200000000<=n){H0 H:AH}{At t F:Nat}{T:List (AV×AV)}{f:PN}{g y:AV}{gl:List Ptr}{S a:Nat}{vs:List (List AV)}{j:List Nd.Node}(h:Ch X H0 H At t F T f g gl S a)
  (hp:Own 4 119 H y j.length vs.flatten) (W:Par H vs j) (hg: ∀l∈vs,∀B,xX (.agg l) B-> ¬Blk g B/\ ¬X B) (hb:a+j.length<=900000000) (hm:j.length<=10000):
  ∃kv H',f179 D n [.ptr t 0,y] H=some (kv,H')/\Ch X H0 H' At t F (T++VL a vs) (f++xY a j) g gl S (a+j.length)/\Adv t F H g H' g/\Own 3 42 H' kv j.length ((pps a j.length).flatMap jR)/\ ∀B,Blk kv B->H.next<=B:=by
 have a0:=W.len.1;have lp:=vJ (b:=Z9 D n) j.length (fun i Y H'=> ∃kv,Y=[.ptr t 0,kv,y, .int .i64 (j.length:Nat), .int .i64 (i:Nat)]/\Ch X H0 H' At t F (T++VL a (vs.take i)) (f++xY a (j.take i)) g gl S (a+i)/\Adv t F H g H' g/\
   Own 3 42 H' kv i ((pps a i).flatMap jR)/\ ∀B,Blk kv B->H.next<=B) (fun i Y H' hi ⟨kv,hus,z,C,Z,o⟩=>by
  subst hus;obtain⟨l,nd,v1,v2,ll,lc,hG,a6,a7,a8⟩:=zMJ W hi;have c1:i<vs.length:=by omega
  have a9:l∈vs:=List.mem_of_getElem? v1;have hA:=h.next ⟨hG,hg l a9⟩ C
  have b0:Own 4 119 H' y j.length vs.flatten:=hp.mono C.1 (fun B o p=>by
   have u:=hp.get o;rcases p with rfl | rfl | e
   .rw[h.gC]at u;simp at u
   .rw[h.gF]at u;simp at u
   .rw[h.gg.get e]at u;simp at u)
  obtain⟨q,i1,i2⟩:=Rw.ldN b0.row hi;rw[a6]at i2;obtain⟨H1,A7,b1,p1,g1,m1,n1⟩:=box z.prs.ok (.cells [.bool false, .nilSlice, .nilSlice, .nilSlice] 119 1 false);obtain⟨H2,e2,g2,s2,n2⟩:=jW p1.ok g1 (l':=l) ll lc;have b2:stN 4 (.ptr A7 0) (.agg l) H1=some (jO,H2):=e2;have J:Prs H' H2:=p1.fresh s2 (fun B o=>by omega);have b3:=z.step J;obtain⟨H3,e3,a1,U⟩:=zK2 D n b3 (hA.prs J) (by omega);obtain⟨L,A8,b4,N,g4,m4,n4⟩:=box a1.prs.ok (.cells (jR (pp (a+i+1))) 42 3 false);have a2:=a1.step N;have a5:srcOf 3 (.slice A8 0 1 2) L=some (1,jR (pp (a+i+1))):=by
   simp only[srcOf,g4];rfl
  have NH:=C.1.next;have N2:=J.next;have N3:=U.1.next;have N4:=N.next
  have a4: ∀B,Blk kv B-> ¬Blk g B:=fun B s u=>by have:=o B s;have:=zRp h.gg.row u;omega
  have b5:Own 3 42 L kv i ((pps a i).flatMap jR):=((Z.mono J (fun _ _ x=>x)).mono U.1 (fun B s p=>by
   rcases p with rfl | rfl | e
   .have:=o _ s;have:=h.ltC;omega
   .have:=o _ s;have:=h.ltF;omega
   .exact a4 B s e)).mono N (fun _ _ x=>x)
  obtain⟨H5,e5,o5,O,n5⟩:=bW (bytes:=24) a2.prs.ok (by decide) b5 a5 rfl rfl (by omega) (by omega) (by decide);have b6:=a2.other O (fun p=>by have:=o _ p;have:=h.ltC;omega) (fun p=>by have:=o _ p;have:=h.ltF;omega) (fun B u p=>a4 B p u) (fun e v B K p=>by
   have c2:B<H.next:=by
    rcases qB.1 v with v | v
    .rcases qB.1 v with v | v
     .obtain⟨b7,V⟩:=h.pf.mem e v;exact V.lt K
     .obtain⟨l2,b8,e2⟩:=zBP v;obtain⟨b7,V⟩:=W.mem (List.mem_of_mem_take b8);rw[e2]at K;exact V.lt K
    .simp only[y6]at v;subst v;exact hG.lt K
   have:=o B p;omega) (fun B p=>by have:=o B p;have:=h.prs.next;omega)
  have b9:Adv t F H g H5 g:=by
   have a3:Adv t F H g L g:=((C.trans h.ltC h.ltF (Adv.prs g J)).trans h.ltC h.ltF U).trans h.ltC h.ltF (Adv.prs g N);refine⟨⟨O.ok,by have:=O.next;omega,fun B s hS=> ?_⟩,fun B s=> .inl s⟩
   rw[O.keep B (by omega) (fun p=>by have:=o B p;omega)];exact a3.1.keep B s hS
  refine⟨_,H5, ?_, .slice L.next 0 (i+1) 1,rfl, ?_,b9, ?_,fun B s=>by rw[zRd.1 s];omega⟩
  .have c0:((i:Nat):Int)< ((j.length:Nat):Int):=by omega
   have e1:=bldQ 42 (pp (a+i+1)) [.int .i64 ((0:Nat):Int), .int .i64 ((0:Nat):Int), .int .u64 ((0:Nat):Int)] rfl;simp(maxSteps:=999999)(disch:=omega) only[Z9,eZ,c0,i1,i2,b1,b2,bY g2 ll,e3,e1,b4,e5,yG]
  .rw[a7,a8,zA1,zA0,qA,qA,Nat.min_eq_left (by omega),Nat.min_eq_left (by omega),<-qI,<-qI];exact b6
  .rw[zEp];simpa using o5) n [.ptr t 0, .nilSlice,y, .int .i64 (j.length:Nat), .int .i64 ((0:Nat):Int)] H ⟨.nilSlice,rfl,by simpa[VL,xY]using h,Adv.prs g (Prs.refl h.prs.ok),zRo ..,fun B o=>(zRl.1 o).elim⟩ (by omega)
 obtain⟨m,Y,H',e,kv,rfl,z,C,Z,o⟩:=lp;rw[j8]at z;rw[<-a0,j8,a0]at z;refine⟨kv,H', ?_,z,C,Z,o⟩;have a:jY (m+1) (Z9 D n) [.ptr t 0,kv,y, .int .i64 (j.length:Nat), .int .i64 (j.length:Nat)] H'=some (.exit 0 [kv],H'):=jU (by simp only[Z9,eZ,yA]);simp only[f179,eZ,hp.row.lnSl,e,a,UZ]
end Go.Eng.Sh
end
section
namespace Go.Bt
open Go.Nd (Str Kvs Ptr lookP putP delP Srt leafOf mayK rising sumL cutA Q4 cJ shaped)
open Go.Eng (ltS)
def xZ {α:Type}(Q:Ptr->Option Nd.Node)(R:Nd.Node->α->List Ptr->Prop):List Ptr->List α->List Ptr->Prop
 | [],[],S=>S=[]
 | p::ps,t::ts,S=> ∃nd a f,Q p=some nd/\R nd t a/\xZ Q R ps ts f/\S=p::(a++f)
 | _,_,_=>False
def kU (Q:Ptr->Option Nd.Node):(h:Nat)->Nd.Node->Tr h->List Ptr->Prop
 | 0,nd,l,S=>nd=leafOf l/\S=[]
 | h+1,nd,t,S=>nd.leaf=false/\nd.keys=t.1/\nd.vals=[]/\xZ Q (kU Q h) nd.kids t.2 S
theorem xZ.len {α:Type}{Q:Ptr->Option Nd.Node}{R:Nd.Node->α->List Ptr->Prop} : ∀ {a:List Ptr} {ts:List α} {S:List Ptr},xZ Q R a ts S->a.length=ts.length
 | [],[],_,_=>rfl
 | _::a,_::ts,_,⟨_,_,_,_,_,h,_⟩=>by simp[xZ.len h]
 | [],_::_,_,h=>h.elim
 | _::_,[],_,h=>h.elim
theorem xZ.app {α:Type}{Q:Ptr->Option Nd.Node}{R:Nd.Node->α->List Ptr->Prop}{j:List Ptr}{m:List α}{f:List Ptr}(o:xZ Q R j m f): ∀ {i:List Ptr} {ts:List α} {S:List Ptr},xZ Q R i ts S->xZ Q R (i++j) (ts++m) (S++f)
 | [],[],_,h=>by subst h;exact o
 | p::i,t::ts,_,⟨nd,S1,S2,a,b,c,e⟩=>⟨nd,S1,S2++f,a,b,xZ.app o c,by rw[e];simp⟩
 | [],_::_,_,h=>h.elim
 | _::_,[],_,h=>h.elim
theorem xZ.split {α:Type}{Q:Ptr->Option Nd.Node}{R:Nd.Node->α->List Ptr->Prop} : ∀(k:Nat) {f:List Ptr} {ts:List α} {S:List Ptr},xZ Q R f ts S-> ∃i j,xZ Q R (f.take k) (ts.take k) i/\xZ Q R (f.drop k) (ts.drop k) j/\S=i++j
 | 0,f,ts,S,h=>⟨[],S,by simp[xZ],h,rfl⟩
 | k+1,[],[],_,h=>⟨[],[],by simp[xZ],by simp[xZ],by subst h;rfl⟩
 | k+1,p::f,t::ts,_,⟨nd,i,j,a,b,c,e⟩=>by
  obtain⟨m,o,q,s,rfl⟩:=xZ.split k c;exact⟨p::(i++m),o,⟨nd,i,m,a,b,q,rfl⟩,s,by rw[e];simp⟩
 | _+1,[],_::_,_,h=>h.elim
 | _+1,_::_,[],_,h=>h.elim
theorem xZ.at {α:Type}{Q:Ptr->Option Nd.Node}{R:Nd.Node->α->List Ptr->Prop}{i:Nat}{f:List Ptr}{ts:List α}{S:List Ptr}(h:xZ Q R f ts S){t:α}(s:ts[i]? =some t):
  ∃p nd j m o,f[i]? =some p/\Q p=some nd/\R nd t m/\xZ Q R (f.take i) (ts.take i) j/\xZ Q R (f.drop (i+1)) (ts.drop (i+1)) o/\S=j++(p::m++o):=by
 obtain⟨j,v,u,q,rfl⟩:=h.split i;obtain⟨hi,rfl⟩:=qR.1 s;have hl:=h.len;rw[qL hi,qL (show i<f.length by omega)]at q;obtain⟨nd,m,o,a,b,c,rfl⟩:=q;exact⟨_,nd,j,m,o,zJ (by omega),a,b,u,c,by simp⟩
theorem xZ.mono {α:Type}{Q j:Ptr->Option Nd.Node}{R m:Nd.Node->α->List Ptr->Prop} : ∀ {i:List Ptr} {ts:List α} {S:List Ptr},xZ Q R i ts S->(∀p∈S,∀nd,Q p=some nd->j p=some nd)->(∀nd t f,(∀p∈f,p∈S)->R nd t f->m nd t f)->xZ j m i ts S
 | [],[],_,h,_,_=>h
 | p::i,t::ts,_,⟨nd,f,S2,a,b,c,e⟩,hq,hr=>by
  subst e;refine⟨nd,f,S2,hq p (zK ..) nd a,hr nd t f (fun p hp=>zC _ (yC _ hp)) b,xZ.mono c (fun p hp=>hq p (zC _ (yR _ hp))) (fun nd t f o=>hr nd t f fun p hp=>zC _ (yR _ (o p hp))),rfl⟩
 | [],_::_,_,h,_,_=>h.elim
 | _::_,[],_,h,_,_=>h.elim
theorem kU.mono {Q a:Ptr->Option Nd.Node} : ∀ {h:Nat} {nd:Nd.Node} {t:Tr h} {S:List Ptr},kU Q h nd t S->(∀p∈S,∀nd,Q p=some nd->a p=some nd)->kU a h nd t S
 | 0,_,_,_,w,_=>w
 | h+1,_,_,_,w,hq=>⟨w.1,w.2.1,w.2.2.1,w.2.2.2.mono hq fun nd t i f hr=>kU.mono hr fun p hp=>hq p (f p hp)⟩
theorem xZ.kids {α:Type}{Q:Ptr->Option Nd.Node}{R:Nd.Node->α->List Ptr->Prop} : ∀ {a:List Ptr} {ts:List α} {S:List Ptr},xZ Q R a ts S-> ∀p∈a,p∈S
 | [],[],_,_=>by simp
 | q::a,_::ts,_,⟨nd,S1,S2,_,_,c,e⟩=>fun p hp=>by
  subst e;rcases zP.1 hp with rfl | hp
  .exact zK ..
  .exact zC _ (yR _ (xZ.kids c p hp))
 | [],_::_,_,h=>h.elim
 | _::_,[],_,h=>h.elim
theorem kU.size {Q:Ptr->Option Nd.Node}{h:Nat}{nd:Nd.Node}{t:Tr h}{S:List Ptr}(w:kU Q h nd t S):Nd.size nd=wI h t:=by
 cases h with
 | zero=>obtain⟨rfl,_⟩:=w;rfl
 | succ h=>
  obtain⟨_,a,f,i⟩:=w;simp only[Nd.size,wI,wP,a,f,i.len,sumL_nil];omega
theorem kU.leaf {Q:Ptr->Option Nd.Node}{h:Nat}{nd:Nd.Node}{t:Tr h}{S:List Ptr}(w:kU Q h nd t S):nd.leaf=decide (h=0):=by
 cases h with
 | zero=>obtain⟨rfl,_⟩:=w;rfl
 | succ h=>rw[w.1];simp
theorem kU.shaped {Q:Ptr->Option Nd.Node}{h:Nat}{nd:Nd.Node}{t:Tr h}{S:List Ptr}{lo hi:Bd}(w:kU Q h nd t S)(g:Gen h lo hi t)(j:0<h->nd.keys≠[])(a: ∀p∈S,Nd.kidOk p=true):shaped ltS nd=true:=by
 cases h with
 | zero=>
  obtain⟨rfl,_⟩:=w;exact Nd.leaf_shaped g.1 fun p hp=>(g.2 p hp).2.2
 | succ h=>
  obtain⟨m,f,o,i⟩:=w;obtain⟨q,s,u⟩:=g;have hl:=u.len;simp only[Nd.shaped,m,zL,qC,zE,zR,y9];refine⟨⟨fun k a=> ?_,by rw[f];exact s⟩,⟨⟨j (by omega),o⟩,by rw[i.len,hl,f]⟩,fun p hp=>a p (i.kids p hp)⟩;rw[f]at a;exact(q k a).1
def zFy (Q:Ptr->Option Nd.Node)(h:Nat):List Nd.Node->List (Tr h)->List Ptr->Prop
 | [],[],S=>S=[]
 | nd::nds,t::ts,S=> ∃a f,kU Q h nd t a/\zFy Q h nds ts f/\S=a++f
 | _,_,_=>False
theorem zFy.len {Q:Ptr->Option Nd.Node}{h:Nat} : ∀ {a:List Nd.Node} {ts:List (Tr h)} {S:List Ptr},zFy Q h a ts S->a.length=ts.length
 | [],[],_,_=>rfl
 | _::a,_::ts,_,⟨_,_,_,h,_⟩=>by simp[zFy.len h]
 | [],_::_,_,h=>h.elim
 | _::_,[],_,h=>h.elim
theorem zFY (l:Kvs)(k:Nat):Nd.size (cutA (leafOf l) k)=wM (l.take k):=by
 simp[cutA,leafOf,wM,Nd.size]
theorem zLi {l:Kvs}{k:Nat}(f:Nd.cutOk (leafOf l) k)(hb:Go.Eng.Sh.hbnd (leafOf l) k):zPH 0 l (l.take k) ((leafOf l).keys.getD k []) (l.drop k)/\cutA (leafOf l) k=leafOf (l.take k)/\Q4 (leafOf l) k=leafOf (l.drop k):=by
 obtain⟨h,a⟩:=f;obtain⟨b1,b2⟩:=hb;have i:(leafOf l).keys=l.map Prod.fst:=rfl;simp only[show(leafOf l).leaf=true from rfl,if_true,i,jB]at a b2;rw[zFY]at b1 b2;refine⟨⟨k,⟨h,a,b1,b2⟩,rfl,rfl,rfl⟩, ?_, ?_⟩
 .simp[cutA,leafOf]
 .simp[Q4,leafOf]
theorem kU.cut {Q:Ptr->Option Nd.Node}{h:Nat}{nd:Nd.Node}{t:Tr h}{S:List Ptr}{lo hi:Bd}{k:Nat}(w:kU Q h nd t S)(g:Gen h lo hi t)(z:Nd.cutOk nd k)(hb:Go.Eng.Sh.hbnd nd k):
  ∃q s f i,zPH h t q (nd.keys.getD k []) s/\kU Q h (cutA nd k) q f/\kU Q h (Q4 nd k) s i/\S=f++i:=by
 obtain⟨u,o⟩:=z;obtain⟨b1,b2⟩:=hb;have v:=w.size
 cases h with
 | zero=>
  obtain⟨rfl,rfl⟩:=w;obtain⟨c1,c2,c3⟩:=zLi ⟨u,o⟩ ⟨b1,b2⟩;exact⟨_,_,[],[],c1,⟨c2,rfl⟩,⟨c3,rfl⟩,rfl⟩
 | succ h=>
  obtain⟨m,a,J,x⟩:=w;obtain⟨f,i,C,F,rfl⟩:=x.split (k+1);have hl:=g.2.2.len;have y:=x.len;simp only[m,zL,qC,a]at o b2;have sz: ∀j,j<=t.1.length->Nd.size (cutA nd j)=wP (t.1.take j) (j+1):=fun j K=>by
   simp only[cutA,m,zL,qC,Nd.size,wP,a,qA,sumL_nil];rw[y,hl,Nat.min_eq_left (by omega)];omega
  have p:min (h+1+1) 2=2:=by omega
  refine⟨(t.1.take k,t.2.take (k+1)),(t.1.drop (k+1),t.2.drop (k+1)),f,i,⟨k,⟨u, ?_, ?_, ?_⟩,rfl,by rw[a],rfl⟩, ?_, ?_,rfl⟩
  .simp only[VW,p];exact o
  .rcases b1 with b1 | b1
   .exact .inl b1
   .rw[sz k (by omega),v]at b1;exact .inr b1
  .rcases b2 with b2 | b2
   .exact .inl (by simp only[VW,p];exact b2)
   .rw[sz (k+1) (by omega),v]at b2;exact .inr b2
  .simp only[kU,cutA,m,zL,qC,a,true_and];exact C
  .simp only[kU,Q4,m,zL,qC,a,true_and];exact F
theorem zAR {Q:Ptr->Option Nd.Node}{h:Nat}{nd:Nd.Node}{f:List Nd.Node}{a:List Str}(m:Go.Eng.Sh.CutsN nd f a): ∀ {t:Tr h} {S:List Ptr} {lo hi:Bd},kU Q h nd t S->WX h lo hi t-> ∃ts,Cuts h t ts a/\zFy Q h f ts S:=by
 induction m with
 | one hz=>
  intro t S lo hi w _;exact⟨[t], .one (by rw[<-w.size];exact hz),S,[],w,rfl,by simp⟩
 | @more nd k ps a hz hk hb _ ih=>
  intro t S lo hi w j;have i:500<wI h t:=by rw[<-w.size];exact hz
  obtain⟨o,x,p,q,c1,c2,c3,rfl⟩:=w.cut j.gen hk hb;obtain⟨_,s,_⟩:=zJB j i c1;obtain⟨ts,u,v⟩:=ih c3 s;exact⟨o::ts, .more i c1 u,p,q,c2,v,rfl⟩
theorem zFy.kids {Q:Ptr->Option Nd.Node}{h:Nat} : ∀ {f:List Nd.Node} {ts:List (Tr h)} {S:List Ptr} (a:Nat),zFy Q h f ts S->(∀i nd,f[i]? =some nd->Q (Go.Eng.Sh.pp (a+1+i))=some nd)->
  ∃j,xZ Q (kU Q h) (Go.Eng.Sh.pps a f.length) ts j/\j.Perm (Go.Eng.Sh.pps a f.length++S)
 | [],[],S,a,h,_=>⟨[],rfl,by subst h;exact List.Perm.refl _⟩
 | nd::f,t::ts,_,a,⟨S1,S2,w,hp,e⟩,hq=>by
  subst e;obtain⟨j,r,m⟩:=zFy.kids (a+1) hp fun i n hi=>by
   have:=hq (i+1) n (by simpa using hi);rwa[show a+1+(i+1)=a+1+1+i from by omega]at this
  refine⟨Go.Eng.Sh.pp (a+1)::(S1++j),⟨nd,S1,j,hq 0 nd rfl,w,r,rfl⟩, ?_⟩;simp only[zW,Go.Eng.Sh.pps,qF];refine List.Perm.cons _ ?_;have:(S1++j).Perm (S1++(Go.Eng.Sh.pps (a+1) f.length++S2)):=List.Perm.append_left _ m;refine this.trans ?_;rw[<-qI,<-qI];exact List.Perm.append_right _ List.perm_append_comm
 | [],_::_,_,_,h,_=>h.elim
 | _::_,[],_,_,h,_=>h.elim
theorem kU.join {Q:Ptr->Option Nd.Node}{h:Nat}{a b:Nd.Node}{f i:Tr h}{j m:List Ptr}(o:kU Q h a f j)(p:kU Q h b i m)(s:Str):kU Q h (cJ a s b) (QN h f s i) (j++m):=by
 cases h with
 | zero=>
  obtain⟨rfl,rfl⟩:=o;obtain⟨rfl,rfl⟩:=p;have key: ∀a b:Kvs,cJ (leafOf a) s (leafOf b)=leafOf (a++b):=fun a b=>by simp[cJ,leafOf]
  exact⟨key f i,rfl⟩
 | succ h=>
  obtain⟨q,t,x,u⟩:=o;obtain⟨b1,b2,y,v⟩:=p;simp only[kU,cJ,q,zL,qC,QN,t,b2,true_and];exact xZ.app v u
theorem zEE {Q:Ptr->Option Nd.Node}{h:Nat}{a b:Nd.Node}{j m:Tr h}{u v:List Ptr}{lo hi:Bd}{s:Str}(f:kU Q h a j u)(i:kU Q h b m v)(o:Gen h lo (some s) j)(q:Gen h (some s) hi m)(z:mayK s=true)(x:0<h->a.keys≠[])(nb:0<h->b.keys≠[])
  (C: ∀p∈u,Nd.kidOk p=true) (F: ∀p∈v,Nd.kidOk p=true):Go.Eng.Sh.joinOk a s b=true:=by
 have J:=f.shaped o x C;have K:=i.shaped q nb F;simp only[Go.Eng.Sh.joinOk,J,K,Bool.true_and,Nd.partedN,z,f.leaf,i.leaf,beq_self_eq_true];have gl: ∀(l:List Str),l.length≠0->l.getD (l.length - 1) []∈l:=fun l hl=>by
  rw[qE,zJ (by omega)];exact qY _
 have y: ∀(l:List Str),l.length≠0->l.getD 0 []∈l:=fun l hl=>by
  rw[qE,zJ (by omega)];exact qY _
 cases h with
 | zero=>
  obtain⟨rfl,_⟩:=f;obtain⟨rfl,_⟩:=i;simp only[zE,yO,zR];refine⟨?_, ?_⟩
  .by_cases e:(leafOf (j:Kvs)).keys.length=0
   .exact .inl e
   .refine .inr ?_;have:=gl _ e;obtain⟨p,hp,t⟩:=qU.1 this;rw[<-t];exact(o.2 p hp).2.1
  .by_cases e:(leafOf (m:Kvs)).keys.length=0
   .exact .inl (.inl e)
   .have:=y _ e;obtain⟨p,hp,t⟩:=qU.1 this;rw[<-t];rcases(q.2 p hp).1 with e | e
    .exact .inr ⟨trivial,e⟩
    .exact .inl (.inr e)
 | succ h=>
  simp only[zE,yO,zR];refine⟨.inr ?_, .inl (.inr ?_)⟩
  .have hm:=gl a.keys (fun e=>x (by omega) (zV e));rw[f.2.1]at hm⊢;exact(o.1 _ hm).2.2
  .have hm:=y b.keys (fun e=>nb (by omega) (zV e));rw[i.2.1]at hm⊢;exact(q.1 _ hm).2.1
end Go.Bt
end
section
set_option maxRecDepth 20000
namespace Go.Eng
theorem zMc {A off len cc sz room:Nat}{lo hi f:Option Nat}{r:AV}(h:K1 A off len cc sz room lo hi f=some r): ∀B,Blk r B->B=A:=by
 intro B a;unfold K1 at h;simp only[kD]at h;split at h
 .split at h
  .rw[zF]at h;split at h
   .simp only[zB]at h;subst h;exact zRd.1 a
   .cases h
  .cases h
 .rw[zF]at h;split at h
  .rw[zF]at h;split at h
   .simp only[zB]at h;subst h;exact zRd.1 a
   .rw[zF]at h;split at h
    .simp only[zB]at h;subst h;exact zRd.1 a
    .rw[zF]at h;split at h
     .simp only[zB]at h;subst h;exact zRd.1 a
     .simp only[zB]at h;subst h;obtain⟨_,_,_,a⟩:=a;cases a
  .cases h
theorem zAe {sz:Nat}{v:AV}{lo hi f:Option AV}{H:AH}{r:AV}(h:vY sz v lo hi f H=some r): ∀B,Blk r B->Blk v B:=by
 intro B a;unfold vY at h;split at h
 .split at h
  .rw[zF]at h;split at h
   .simp only[zB]at h;subst h;exact a
   .cases h
  .split at h
   .rw[zF]at h;split at h
    .rw[zMc h B a];exact⟨_,_,_,rfl⟩
    .cases h
   .cases h
  .split at h
   .rw[zF]at h;split at h
    .simp only[zB]at h;subst h;obtain⟨_,_,_,a⟩:=a;cases a
    .cases h
   .cases h
  .cases h
 .cases h
end Go.Eng
namespace Go.Eng.Sh
open Go.Nd (Ptr sumL)
variable {X:Nat->Prop}
theorem hi3 {H:AH}{v:AV}{l:List Ptr}(h:kZ 3 42 H v l.length (l.flatMap jR)){i:Nat}(hi:i<=l.length):
  ∃r,vY 3 v none (some (.int .i64 (i:Nat))) (some (.int .i64 (i:Nat))) H=some r/\vS H r (l.take i):=by
 obtain⟨r,f,w,_⟩:=zAd h (by decide) hi .i64 .i64;rw[XE]at w;have a:(l.take i).length=i:=by rw[qA];omega
 exact⟨r,f,by rw[vS,a];exact w⟩
theorem lo3 {H:AH}{v:AV}{l:List Ptr}(h:kZ 3 42 H v l.length (l.flatMap jR)){i:Nat}(hi:i<=l.length)(m:0<l.length):
  ∃r,vY 3 v (some (.int .i64 (i:Nat))) none none H=some r/\vS H r (l.drop i):=by
 by_cases j:i<l.length
 .obtain⟨r,a,w,_⟩:=YL h (by decide) j .i64;rw[XF]at w;have f:(l.drop i).length=l.length - i:=by rw[qK]
  exact⟨r,a,by rw[vS,f];exact w⟩
 .obtain rfl:i=l.length:=by omega
  obtain⟨r,a,w⟩:=K5 h (by decide) m .i64;exact⟨r,a,by rw[List.drop_length];exact w⟩
theorem conP3 (D:Dyn)(n:Nat){H:AH}{A cc:Nat}{x y z:AV}{l m k:List Ptr}(i:H.ok)(j:H.h.get A=some (.cells [x,y,z] 50 1 false))(q:vS H x l)(s:vS H y m)(t:vS H z k)(hb:l.length+m.length+k.length<=1000000000)(C:100<=n):
  ∃w H',f178 D n [.slice A 0 3 cc] H=some (w,H')/\Prs H H'/\Own 3 42 H' w (l++(m++k)).length ((l++(m++k)).flatMap jR)/\ ∀B,Blk w B->H.next<=B:=by
 obtain⟨w,H',e,p,o,f⟩:=zJM D n i (v:= .slice A 0 3 cc) (vs:=[x,y,z]) (rs:=[(l.length,l.flatMap jR),(m.length,m.flatMap jR),(k.length,k.flatMap jR)]) (Rw.lit i j) ⟨⟨q,uY _⟩,⟨s,uY _⟩,⟨t,uY _⟩,trivial⟩ (by simp[gZ];omega) (by simp) (by simp;omega)
  (fun B a=>by rw[zRd.1 a];exact i.lt j) (fun z u B a=>by
   simp only[zP,List.not_mem_nil,or_false]at u;rcases u with rfl | rfl | rfl
   .exact zRp q a
   .exact zRp s a
   .exact zRp t a)
 exact⟨w,H',e,p,by simpa[gZ,zGh]using o,f⟩
theorem zO0 (D:Dyn)(n:Nat)(hn:200000000<=n){H0 H:AH}{At q F y A7 o i m:Nat}{a3:List (AV×AV)}{f:PN}{g:AV}{gl:List Ptr}{a2 t:Nat}{ln lk:List AV}{nd Y:Nd.Node}
  (h:Ch X H0 H At q F a3 f g gl a2 t) (O:H.h.get y=some (.cells ln 119 1 false)) (g7:H.h.get A7=some (.cells lk 119 1 false)) (T:H.h.get o=some (.cells [.bool false, .nilSlice, .nilSlice, .nilSlice] 119 1 false))
  (f5:H0.next<=y) (f7:H0.next<=A7) (f8:H0.next<=o) (h58:y≠o) (c5:y≠q) (b0:o≠q)
  (hv:xL X H g (.agg ln) nd) (a5:xL X H g (.agg lk) Y) (c6:Nd.shaped ltS Y=true) (hz:Nd.size Y<=10000) (hs:small nd) (f9:nd.kids.length=nd.keys.length+1) (c7:nd.keys≠[]) (g0:i+m<nd.kids.length)
  (c0: ∀j s,CutsN Y j s->j.length<=1000/\s.length<=1000) (hb:t<=800000000):
  ∃u H' j s vs,QT D n [.ptr q 0, .ptr y 0, .ptr A7 0, .ptr o 0, .int .i64 (i:Nat), .int .i64 ((i+m+1:Nat):Int)] H=some (.ret (.tuple [u, .int .i64 ((0:Nat):Int)]),H')/\CutsN Y j s/\
   Ch X H0 H' At q F (a3++VL t vs) (f++xY t j) g gl a2 (t+j.length)/\Stp (fun B=>chg q F g B\/B=o) H H'/\
   xL X H' g u ⟨false,nd.keys.take i++(s++nd.keys.drop (i+m)),[],nd.kids.take i++(pps t j.length++nd.kids.drop (i+m+1))⟩/\ ∀B,xX u B->H.next<=B:=by
 obtain⟨ks,a6,Z,b1,k1,k2,k3⟩:=id hv.1;simp only[AV.agg.injEq]at b1;subst b1;have c8:lk.length=4:=by obtain⟨_,_,_,e,_⟩:=a5.1;simp only[AV.agg.injEq]at e;rw[e];rfl
 have b9:0<nd.keys.length:=by
  rcases Nat.eq_zero_or_pos nd.keys.length with e | e
  .exact absurd (zV e) c7
  .exact e
 obtain⟨s1,s2,s3⟩:=hs;have f2:=Nd.sumL_ge nd.keys;obtain⟨pv,sv,H1,vs,j,s,e1,J,a9,oP,c3,oS,bP,bS,c9⟩:=zCs D n hn h.prs.ok a5.1 c6 hz;obtain⟨c1,c2⟩:=c0 j s a9;have h1:=h.step J;have G5 {K:AH} (p:Prs H K):=zRn p h.prs.ok O;have q1 {K:AH} (p:Prs H K):kZ 1 9 K ks nd.keys.length (nd.keys.map S):=k1.mono p (fun _ _ x=>x);have q3 {K:AH} (p:Prs H K):kZ 3 42 K Z nd.kids.length (nd.kids.flatMap jR):=k3.mono p (fun _ _ x=>x);obtain⟨r1,d0,x1⟩:=hi1 (q1 J) (i:=i) (by omega);obtain⟨r2,d1,x2⟩:=lo1 (q1 J) (i:=i+m) (by omega) b9;obtain⟨H2,A2,b2,z,g2,m2,n2⟩:=box J.ok (.cells [r1,sv,r2] 117 1 false);have U:=J.trans z;obtain⟨r3,b3,x3⟩:=hi3 (q3 U) (i:=i) (by omega);obtain⟨r4,b4,x4⟩:=lo3 (q3 U) (i:=i+m+1) (by omega) (by omega);have d2:Strs H2 sv s:=(oS.mono z (fun _ _ x=>x)).row;obtain⟨w3,H3,e3,V,o3,f3⟩:=zQO D n (cc:=6) z.ok g2 (x1.prs z) d2 (x2.prs z) (by simp only[qA,qK];omega) (by omega);have L:=U.trans V;have h3:=h.step L;have N1:=J.next;have N2:=z.next;have N3:=V.next
 obtain⟨kv,H4,e4,h4,C,o4,f4⟩:=zCQ D n hn h3 (oP.mono (z.trans V) (fun _ _ x=>x)) (c3.frame fun l hl nd hg=>hg.prs (z.trans V)) (fun l hl B a=>by
  rcases c9 l hl B a with e | e
  .exact a5.2 B e
  .exact⟨fun a7=>by have:=zRp h.gg.row a7;omega,fun hx=>by have:=h.xo B hx;have:=h.prs.next;omega⟩) (by omega) (by omega)
 have a0:xL X H3 g (.agg [.bool nd.leaf,ks,a6,Z]) nd:=hv.prs L;have d3:=h3.next a0 C
 obtain⟨g1,vs',g3,ee,j1,j2,j3⟩:=id d3.1;simp only[AV.agg.injEq,yE,and_true,true_and]at ee;obtain⟨rfl,rfl,rfl⟩:=ee;have b6: ∀B,Blk Z B-> ¬chg q F g B:=fun B a N=>by
  have a8:xX (.agg [.bool nd.leaf,ks,a6,Z]) B:=wO.2 (.inr (.inr a));rcases N with rfl | rfl | e
  .exact a0.1.nblk h3.gC (.inl ⟨_,_,_,_,rfl,fun _ _ e=>by cases e⟩) a8
  .exact a0.1.nblk h3.gF (.inr (.inl ⟨_,_,rfl⟩)) a8
  .exact(a0.2 B a8).1 e
 have y3:vS H4 r3 (nd.kids.take i):=Rw.stp (x3.prs V) C.1 (fun B a=>b6 B (zAe b3 B a));have y4:vS H4 r4 (nd.kids.drop (i+m+1)):=Rw.stp (x4.prs V) C.1 (fun B a=>b6 B (zAe b4 B a));obtain⟨H5,A9,b5,v,d4,m5,n5⟩:=box h4.prs.ok (.cells [r3,kv,r4] 50 1 false);have d5:vS H5 kv (pps t j.length):=by
  have:=(o4.mono v (fun _ _ x=>x)).row;rw[vS,YO];exact this
 obtain⟨w6,H6,e6,p6,o6,f6⟩:=conP3 D n (cc:=6) v.ok d4 (y3.prs v) d5 (y4.prs v) (by rw[YO];simp only[qA,qK];omega) (by omega);have W:Prs H4 H6:=v.trans p6;have h6:=h4.step W;have N4:=C.1.next;have N6:=W.next;have N0:=h.prs.next
 have g4:o<H.next:=h.prs.ok.lt T
 have g6:y<H.next:=h.prs.ok.lt O
 have n8: ¬chg q F g o:=fun N=>by
  rcases N with e | e | e
  .exact b0 e
  .rw[e,h.gF]at T;cases T
  .rw[h.gg.get e]at T;simp at T
 have d6: ¬chg q F g y:=fun N=>by
  rcases N with e | e | e
  .exact c5 e
  .rw[e,h.gF]at O;cases O
  .rw[h.gg.get e]at O;simp at O
 have b7:H6.h.get o=some (.cells [.bool false, .nilSlice, .nilSlice, .nilSlice] 119 1 false):=by
  rw[W.keep _ (by omega) (fun x=>x),C.1.keep _ (by omega) n8];exact zRn L h.prs.ok T
 have d7:H4.h.get y=some (.cells [.bool nd.leaf,ks,a6,Z] 119 1 false):=by rw[C.1.keep _ (by omega) d6];exact G5 L
 have b8:Own 1 9 H6 w3 (nd.keys.take i++(s++nd.keys.drop (i+m))).length ((nd.keys.take i++(s++nd.keys.drop (i+m))).map S):=(o3.mono C.1 (fun B a N=>by
  have:=f3 B a;rcases N with e | e | e
  .have:=h.ltC;omega
  .have:=h.ltF;omega
  .have:=zRp h.gg.row e;omega)).mono W (fun _ _ x=>x)
 obtain⟨H7,e7,d8,s7,n7⟩:=jW h6.prs.ok b7 (l':=[.bool false,w3, .nilSlice,w6]) rfl (by simp only[jP,b8.row.isCell,o6.row.isCell];rfl);have d9:stN 4 (.ptr o 0) (.agg [.bool false,w3, .nilSlice,w6]) H6=some (jO,H7):=e7;have e0: ∀B,Blk g B-> ¬B=o:=fun B a e=>n8 (.inr (.inr (e▸a)))
 have h7:Ch X H0 H7 At q F (a3++VL t vs) (f++xY t j) g gl a2 (t+j.length):=h6.other s7 (fun e=>b0 e.symm) (fun e=>n8 (.inr (.inl e.symm))) e0 (fun e2 e5 B a e=>by
  subst e;obtain⟨g9,e8⟩:=h6.pf.mem e2 e5;exact e8.nblk b7 (.inl ⟨_,_,_,_,rfl,fun _ _ e=>by cases e⟩) a) (fun B a=>by omega)
 have e9:vY 1 ks (some (.int .i64 ((i+m:Nat):Int))) none none H1=some r2:=d1;have c4:((i+m+1:Nat):Int) - ((1:Nat):Int)=((i+m:Nat):Int):=by omega
 refine⟨.agg [.bool false,w3, .nilSlice,w6],H7,j,s,vs, ?_,a9,h7, ?_,⟨⟨w3, .nilSlice,w6,rfl, .inl (b8.mono s7 (fun B a e=>by have:=f3 B a;omega)), .inl (zRo ..), .inl (o6.mono s7 (fun B a e=>by have:=f6 B a;have:=v.next;omega))⟩,fun B a=>⟨fun a7=> ?_,fun hx=> ?_⟩⟩,fun B a=> ?_⟩
 .have f1: ¬(((0:Nat):Int)≠((0:Nat):Int)):=by omega
  simp(config:= { maxSteps:=2000000}) (disch:=omega) only[QT,eZ,bY g7 c8,e1,jM,nth,f1,jL (G5 J),d0,c4,e9,row3 117 .nilSlice x1.isCell oS.row.isCell x2.isCell,b2,jL (G5 U),b3,b4,e3,wC (jL (G5 L) 3) (kH k3.row),bD (q3 U) (q3 L) (by decide),wC rfl (kH x3),wC rfl (kH x4),e4,wC (jL d7 3) (kH k3.row),bD (q3 U) j3 (by decide),
   row3 50 .nilSlice x3.isCell o4.row.isCell x4.isCell,b5,e6,zP6 o3.row.isCell o6.row.isCell,d9,bY d8 rfl]
 .have a1:Stp (fun B=>chg q F g B\/B=o) H H4:=(L.mono (fun _ _ x=>x.elim)).trans (C.1.mono (fun _ _ x=> .inl x));exact(a1.trans (W.mono (fun _ _ x=>x.elim))).trans (s7.mono (fun _ _ x=> .inr x))
 .have:=zRp h.gg.row a7;rcases wO.1 a with e | e | e
  .have:=f3 B e;omega
  .exact(zRl.1 e).elim
  .have:=f6 B e;have:=v.next;omega
 .have:=h.xo B hx;have:=h.prs.next
  rcases wO.1 a with e | e | e
  .have:=f3 B e;omega
  .exact(zRl.1 e).elim
  .have:=f6 B e;have:=v.next;omega
 .rcases wO.1 a with e | e | e
  .have:=f3 B e;omega
  .exact(zRl.1 e).elim
  .have:=f6 B e;have:=v.next;omega
end Go.Eng.Sh
end
section
set_option maxRecDepth 20000
namespace Go.Eng.Sh
open Go.Nd (Ptr sumL cJ)
open Go.Bt
variable {E:Ev}{X:Nat->Prop}
theorem JC {s t:Nat}(h:pp s=pp t):s=t:=by simp only[pp,Ptr.mk.injEq]at h;omega
theorem zLm (s:Nat):Nd.kidOk (pp s)=true:=by simp[Nd.kidOk,pp]
theorem YV: ∀ {j:List Nd.Node} {f i:Nat} {nd:Nd.Node},j[i]? =some nd->jV (f+1+i) (xY f j)=some nd
 | [],_,_,_,h=>by simp at h
 | a::j,f,0,nd,h=>by simp at h;subst h;simp[xY,jV]
 | a::j,f,i+1,nd,h=>by
  simp only[yV]at h;rw[xY,jV,if_neg (by omega),show f+1+(i+1)=f+1+1+i from by omega];exact YV h
theorem VK: ∀ {i:List Nd.Node} {f s:Nat} {nd:Nd.Node},jV s (xY f i)=some nd->f<s/\s<=f+i.length
 | [],_,_,_,h=>by simp[xY,jV]at h
 | a::i,f,s,nd,h=>by
  rw[xY,jV]at h;split at h
  .simp only[zW];omega
  .have:=VK h;simp only[zW];omega
theorem zB2 {q f new:PN}{j:Nat}(m: ∀s nd,jV s q=some nd->s<=j)(o: ∀s nd,jV s new=some nd->j<s){p:Ptr}{nd:Nd.Node}(h:Qf E q f p=some nd):Qf E q (f++new) p=some nd:=by
 obtain⟨s,rfl,a | ⟨a,i⟩⟩ | ⟨a,i⟩:=vQ h
 .rw[zB1,xW,a]
 .rw[zB1,xW,a];simp only
  cases t:jV s new with
  | none=>exact i
  | some n2=>have:=m _ _ i;have:=o _ _ t;omega
 .rw[J8 a];exact i
theorem uG {p:Ptr}{nd:Nd.Node}(h:E.K p=some nd):Nd.kidOk p=true/\2<=p.at_:=by
 obtain⟨a,birth,kind,body,rfl,f,i,⟨j,_⟩,m,_⟩:=zRi.1 h;simp only[Nd.kidOk,zE,zR];simp only[fC];omega
theorem zB3 {q f:PN}{p:Ptr}{nd:Nd.Node}(h:Qf E q f p=some nd):Nd.kidOk p=true:=by
 obtain⟨s,rfl,_⟩ | ⟨_,a⟩:=vQ h
 .exact zLm s
 .exact(uG a).1
theorem zMn {q f:PN}{p:Ptr}{nd:Nd.Node}(h:Qf E q f p=some nd):1<=p.at_:=by
 have:=zB3 h;simp only[Nd.kidOk,zE,zR]at this;omega
theorem xZ.kidOk {α:Type}{q f:PN}{R:Nd.Node->α->List Ptr->Prop}(hr: ∀nd t S,R nd t S-> ∀p∈S,Nd.kidOk p=true): ∀ {j:List Ptr} {ts:List α} {S:List Ptr},xZ (Qf E q f) R j ts S-> ∀p∈S,Nd.kidOk p=true
 | [],[],_,h=>by subst h;simp
 | p::j,t::ts,_,⟨nd,S1,S2,a,b,c,e⟩=>fun x i=>by
  subst e;rcases zP.1 i with rfl | i
  .exact zB3 a
  .rcases qB.1 i with i | i
   .exact hr _ _ _ b x i
   .exact xZ.kidOk hr c x i
 | [],_::_,_,h=>h.elim
 | _::_,[],_,h=>h.elim
theorem kU.kidOk {q f:PN} : ∀ {h:Nat} {nd:Nd.Node} {t:Bt.Tr h} {S:List Ptr},kU (Qf E q f) h nd t S-> ∀p∈S,Nd.kidOk p=true
 | 0,_,_,_,w=>by obtain⟨_,rfl⟩:=w;simp
 | h+1,_,_,_,w=>xZ.kidOk (fun _ _ _ hr=>kU.kidOk hr) w.2.2.2
theorem zBC (D:Dyn)(n:Nat)(hn:200000000<=n){H0 H:AH}{At K F T A7 L i m h:Nat}{q:PN}{b1:List (AV×AV)}{f:PN}{g:AV}{gl:List Ptr}{Y o:Nat}{ln lk:List AV}{nd U:Nd.Node}{t:Bt.Tr (h+1)}{x:Bt.Tr h}{Sa Sb Sx:List Ptr}{lo hi:Bd}
  (ch:Ch X H0 H At K F b1 f g gl Y o) (g5:H.h.get T=some (.cells ln 119 1 false)) (g7:H.h.get A7=some (.cells lk 119 1 false)) (g8:H.h.get L=some (.cells [.bool false, .nilSlice, .nilSlice, .nilSlice] 119 1 false))
  (b2:H0.next<=T) (b3:H0.next<=A7) (b4:H0.next<=L) (h58:T≠L) (b5:T≠K) (b6:L≠K)
  (hv:xL X H g (.agg ln) nd) (b7:xL X H g (.agg lk) U) (hq: ∀s nd,jV s q=some nd->s<=Y)
  (n1:nd.leaf=false) (V:nd.keys=t.1) (n3:nd.vals=[]) (n4:nd.kids.length=t.2.length) (wi:Inn (WF h) lo hi t) (b8:t.1≠[]) (hz:wP t.1 t.2.length<=500) (a6:i+m<t.2.length)
  (ra:xZ (Qf E q f) (kU (Qf E q f) h) (nd.kids.take i) (t.2.take i) Sa) (rb:xZ (Qf E q f) (kU (Qf E q f) h) (nd.kids.drop (i+m+1)) (t.2.drop (i+m+1)) Sb)
  (W:kU (Qf E q f) h U x Sx) (wx:WX h (VS lo t.1 i) (YD t.1 hi (i+m)) x) (fx:Full h x) (b9:0<h->U.keys≠[]) (hb:o<=800000000):
  ∃u H' a9 f' Z J N C,QT D n [.ptr K 0, .ptr T 0, .ptr A7 0, .ptr L 0, .int .i64 (i:Nat), .int .i64 ((i+m+1:Nat):Int)] H=some (.ret (.tuple [u, .int .i64 ((0:Nat):Int)]),H')/\
   Ch X H0 H' At K F a9 f' g gl Y Z/\Stp (fun B=>chg K F g B\/B=L) H H'/\xL X H' g u J/\(∀B,xX u B->H.next<=B)/\kU (Qf E q f') (h+1) J N C/\Inn (WF h) lo hi N/\
   con (h+1) N=(t.2.take i).flatMap (con h)++con h x++(t.2.drop (i+m+1)).flatMap (con h)/\wP N.1 N.2.length<=wP t.1 t.2.length+285/\t.1.length<=N.1.length+m/\o<=Z/\Z<=o+6/\
   C.Perm (pps o (Z - o)++(Sa++Sb++Sx))/\ ∀p nd,Qf E q f p=some nd->Qf E q f' p=some nd:=by
 have hl:=wi.2.2.len;have c0:small nd:=by
  have:Nd.size nd<=10000:=by
   simp only[Nd.size,V,n3,n4,Bt.sumL_nil];simp only[wP]at hz;omega
  exact xN this
 have c3:=W.shaped wx.gen b9 (kU.kidOk W);have c4:Nd.size U<=10000:=by rw[W.size];have:=wx.sz;omega
 have a4: ∀v y,CutsN U v y->v.length<=6/\y.length<=6:=fun v y hc=>by
  obtain⟨ts,c1,c2⟩:=zAR hc W wx;obtain⟨d1,_,d3,_⟩:=zAQ c1 wx (.inl fx);have l1:=c2.len;have l2:=d1.2.2.len;simp only at l2;omega
 obtain⟨u,H',v,y,vs,e1,a5,c5,st,hu,c6⟩:=zO0 D n hn (i:=i) (m:=m) ch g5 g7 g8 b2 b3 b4 h58 b5 b6 hv b7 c3 c4 c0 (by rw[n4,hl,V]) (by rw[V];exact b8) (by rw[n4];exact a6) (fun v y hc=>by have:=a4 v y hc;omega) hb;obtain⟨ts,c1,c2⟩:=zAR a5 W wx;obtain⟨p1,p2,p3,p4⟩:=zL3 (ks:=t.1) (ts:=t.2) wi a6 wx fx c1;have b0: ∀s J,jV s (xY o v)=some J->Y<s:=fun s J hs=>by have:=VK hs;have:=ch.le;omega
 have more: ∀p nd,Qf E q f p=some nd->Qf E q (f++xY o v) p=some nd:=fun p nd hp=>zB2 hq b0 hp
 have a0: ∀ {ps:List Ptr} {ts:List (Bt.Tr h)} {S:List Ptr},xZ (Qf E q f) (kU (Qf E q f) h) ps ts S->xZ (Qf E q (f++xY o v)) (kU (Qf E q (f++xY o v)) h) ps ts S:=fun r=>r.mono (fun p _ nd hp=>more p nd hp) (fun nd t S1 _ hr=>hr.mono fun p _ nd hp=>more p nd hp)
 have c7:zFy (Qf E q (f++xY o v)) h v ts Sx:=by
  have mono: ∀ {O:List Nd.Node} {z:List (Bt.Tr h)} {C:List Ptr},zFy (Qf E q f) h O z C->zFy (Qf E q (f++xY o v)) h O z C:=by
   intro O
   induction O with
   | nil=>intro z C hp;cases z with
    | nil=>exact hp
    | cons=>exact hp.elim
   | cons a O ih=>intro z C hp;cases z with
    | nil=>exact hp.elim
    | cons b z=>
     obtain⟨S1,S2,a1,a2,a3⟩:=hp;exact⟨S1,S2,a1.mono fun p _ nd hp=>more p nd hp,ih a2,a3⟩
  exact mono c2
 have a8: ∀j,jV (o+1+j) f=none:=fun j=>by
  cases hk:jV (o+1+j) f with
  | none=>rfl
  | some V=>have:=ch.fs _ _ hk;omega
 obtain⟨S2,r2,a7⟩:=c7.kids o (fun j J hj=>by rw[zB1,xW,a8];simp only[YV hj]);have rl:=xZ.app (xZ.app (a0 rb) r2) (a0 ra);have c8:=a4 v y a5;refine⟨u,H',_,_,o+v.length,_,(t.1.take i++y++t.1.drop (i+m),t.2.take i++ts++t.2.drop (i+m+1)),Sa++(S2++Sb),e1,c5,st,hu,c6,⟨rfl,by simp[V],rfl, ?_⟩,p1,p2,p3,p4,by omega,by omega, ?_,more⟩
 .simp only[qI];exact rl
 .rw[show o+v.length - o=v.length by omega];rw[List.perm_iff_count]at a7⊢;intro a;have:=a7 a;simp only[List.count_append]at this⊢;omega
end Go.Eng.Sh
end
section
set_option maxRecDepth 20000
namespace Go.Eng.Sh
open Go.Nd (Ptr sumL cJ)
open Go.Bt
variable {E:Ev}{X:Nat->Prop}
theorem Ch.stb {H0 H H':AH}{At j F A:Nat}{p:List (AV×AV)}{f:PN}{g:AV}{gl:List Ptr}{m o e:Nat}{b:Bool}{r:List AV}(h:Ch X H0 H At j F p f g gl m o)(a:H.h.get A=some (.cells (.bool b::r) e 1 false))(s:Stp (fun B=>B=A) H H')(u:H0.next<=A)(v:A≠j):Ch X H0 H' At j F p f g gl m o:=
 h.other s (fun e=>v e.symm) (fun e=>by subst e;rw[h.gF]at a;cases a) (fun B i e=>by subst e;rw[h.gg.get i]at a;simp at a) (fun kv q B i e=>by
  subst e;obtain⟨x,t⟩:=h.pf.mem kv q;exact t.nblk a (.inl ⟨_,_,_,_,rfl,fun _ _ e=>by cases e⟩) i) (fun B i=>by subst i;exact u)
theorem xL.stb {H H':AH}{A:Nat}{g v:AV}{nd:Nd.Node}{e:Nat}{b:Bool}{r:List AV}(h:xL X H g v nd)(a:H.h.get A=some (.cells (.bool b::r) e 1 false))(s:Stp (fun B=>B=A) H H'):xL X H' g v nd:=
 ⟨h.1.stp s fun B f e=>by subst e;exact h.1.nblk a (.inl ⟨_,_,_,_,rfl,fun _ _ e=>by cases e⟩) f,h.2⟩
theorem cB {l:List AV}{H:AH}{nd:Nd.Node}(h:kC H (.agg l) nd): ∃r,l= .bool nd.leaf::r/\l.length=4/\jP l=true:=by
 obtain⟨ks,vs,j,e,a,f,i⟩:=h;simp only[AV.agg.injEq]at e;subst e;exact⟨_,rfl,rfl,YB _ _ _ _ a.row.isCell f.row.isCell i.row.isCell⟩
theorem zFR (m9 n:Nat)(hn:200000000<=n){H0 H:AH}{At Ac F M i h:Nat}{d c dr:AV}{root:Ptr}{es:List (AV×AV)}{q:PN}{l5:List (AV×AV)}{f:PN}{g:AV}{gl:List Ptr}{c0 W:Nat}{ln lk:List AV}{nd kd:Nd.Node}{t:Bt.Tr (h+1)}{x tk:Bt.Tr h}{Sa Sb Sx:List Ptr}{lo hi:Bd}
  (ti:TI E H0 At M d c root es q c0 dr) (hold: ∀kv∈es,∀B,xX kv.2 B->B<H0.next) (l6: ∀kv∈es,∀B,xX kv.2 B-> ¬X B) (hq: ∀s nd,jV s q=some nd->s<=c0) (ch:Ch X H0 H At Ac F l5 f g gl c0 W)
  (hv:xL X H g (.agg ln) nd) (d1:xL X H g (.agg lk) kd)
  (n1:nd.leaf=false) (n2:nd.keys=t.1) (n3:nd.vals=[]) (n4:nd.kids.length=t.2.length) (wi:Inn (WF h) lo hi t) (c1:t.1≠[]) (hz:wP t.1 t.2.length<=500) (l7:t.2[i]? =some tk)
  (ra:xZ (Qf E q []) (kU (Qf E q []) h) (nd.kids.take i) (t.2.take i) Sa) (rb:xZ (Qf E q []) (kU (Qf E q []) h) (nd.kids.drop (i+1)) (t.2.drop (i+1)) Sb)
  (rx:kU (Qf E q f) h kd x Sx) (wx:WX h (VS lo t.1 i) (YD t.1 hi i) x) (d8:0<h->kd.keys≠[]) (hb:W<=700000000) (l8:gl.length+1<=W+1000):
  ∃u H' Y J g' i1 v C o O G R,f129 (dy (m9+1)) n [.ptr Ac 0, .agg ln, .int .i64 (i:Nat), .agg lk] H=some (.tuple [u, .int .i64 ((0:Nat):Int)],H')/\
   Ch X H0 H' At Ac F Y J g' i1 c0 v/\Adv Ac F H g H' g'/\xL X H' g' u C/\kU (Qf E q J) (h+1) C o O/\Inn (WF h) lo hi o/\
   con (h+1) o=(t.2.take i).flatMap (con h)++con h x++(t.2.drop (i+1)).flatMap (con h)/\wP o.1 o.2.length<=wP t.1 t.2.length+285/\t.1.length<=o.1.length+1/\W<=v/\v<=W+6/\i1=gl++G/\
   O.Perm (pps W (v - W)++(R++Sx))/\(Sa++Sb).Perm (G++R)/\(∀p nd,Qf E q f p=some nd->Qf E q J p=some nd)/\G.length<=1:=by
 obtain⟨l9,rfl⟩:=qR.1 l7;have q5:=wi.2.2.len;obtain⟨rn,q6,q8,q9⟩:=cB hv.1;obtain⟨rk,m0,b8,r0⟩:=cB d1.1;obtain⟨H1,A5,b1,p1,g1,m1,r3⟩:=box ch.prs.ok (.cells ln 119 1 false);obtain⟨H2,A7,b2,p2,g2,m2,r4⟩:=box p1.ok (.cells lk 119 1 false);obtain⟨H3,A8,b3,p3,g3,m3,r6⟩:=box p2.ok (.cells [.bool false, .nilSlice, .nilSlice, .nilSlice] 119 1 false);have P3:Prs H H3:=(p1.trans p2).trans p3;have m4:=zRn p3 p2.ok (zRn p2 p1.ok g1);have d2:=zRn p3 p2.ok g2;have d9:small kd:=xN (by rw[rx.size];have:=wx.sz;omega);obtain⟨z,H4,e4,rfl,p4⟩:=WH (dy (m9+1)) n P3.ok (d1.1.prs P3).node d9 hn;have L:=P3.trans p4;have d3:=zRn p4 P3.ok m4;have i2:=zRn p4 P3.ok d2;have i3:=zRn p4 P3.ok g3;have a6:=ch.step L;have N0:=ch.prs.next
 have cc:=ch.ltC;have e0: ∀p nd,Qf E q [] p=some nd->Qf E q f p=some nd:=fun p nd hp=>by
  have:=zB2 (new:=f) hq (fun s C hs=>(ch.fs s C hs).1) hp;simpa using this
 have b7: ∀ {ps:List Ptr} {ts:List (Bt.Tr h)} {S:List Ptr},xZ (Qf E q []) (kU (Qf E q []) h) ps ts S->xZ (Qf E q f) (kU (Qf E q f) h) ps ts S:=fun r=>r.mono (fun p _ nd hp=>e0 p nd hp) (fun nd t S1 _ hr=>hr.mono fun p _ nd hp=>e0 p nd hp)
 have m6:((i:Nat):Int)+((1:Nat):Int)=((i+1:Nat):Int):=by omega
 have r7:i<=1000:=by simp only[wP]at hz;omega
 have p8:=rx.size;by_cases d6:wI h x<160
 case neg=>
  have c8: ¬((Nd.size kd:Nat):Int)< ((160:Nat):Int):=by omega
  have fx:Full h x:=by
   cases h with
   | zero=>
    intro e;have e:x=([]:Nd.Kvs):=e;rw[e]at d6;exact d6 (by decide)
   | succ h=>exact Nat.le_of_not_lt d6
  obtain⟨u,H5,Y,J,v,C,o,O,e5,a7,st,hu,d4,r5,w5,c5,z5,k5,l1,l2,pm,more⟩:=zBC (dy (m9+1)) n hn (i:=i) (m:=0) (h:=h) a6 d3 i2 i3 (by omega) (by have:=p1.next;omega) (by have:=p1.next;have:=p2.next;omega) (by have:=p2.next;omega) (by omega) (by have:=p1.next;have:=p2.next;omega)
   (hv.prs L) (d1.prs L) hq n1 n2 n3 n4 wi c1 hz (by simpa using l9) (b7 ra) (by simpa using b7 rb) rx (by simpa using wx) fx d8 (by omega)
  refine⟨u,H5,Y,J,g,gl,v,C,o,O,[],Sa++Sb, ?_,a7, ?_,hu,r5,w5,by simpa using c5,z5,by omega,l1,l2,by simp, ?_,by simp,more,by simp⟩
  .simp(maxSteps:=999999)(disch:=omega) only[f129,eZ,b1,b2,b3,m6,bY d2 b8,e4,c8];simp only[Nat.add_zero]at e5;rw[e5];rfl
  .refine⟨⟨st.ok,by have:=st.next;have:=L.next;omega,fun B K hS=> ?_⟩,fun B K=> .inl K⟩
   rw[st.keep B (by have:=L.next;omega) (fun hx=>by
    rcases hx with hx | hx
    .exact hS hx
    .have:=p1.next;have:=p2.next;omega)]
   exact L.keep B K (fun x=>x)
  .exact pm
 case pos=>
 have c8:((Nd.size kd:Nat):Int)< ((160:Nat):Int):=by omega
 have side: ∃b y tb a0 T,nd.kids[b]? =some T/\Qf E q [] T=some y/\kU (Qf E q []) h y tb a0/\t.2[b]? =some tb/\
   ((b+1=i/\ ∃a2,xZ (Qf E q []) (kU (Qf E q []) h) (nd.kids.take b) (t.2.take b) a2/\Sa=a2++(T::a0))\/(i=0/\b=1/\ ∃a3,xZ (Qf E q []) (kU (Qf E q []) h) (nd.kids.drop 2) (t.2.drop 2) a3/\Sb=T::(a0++a3))):=by
  have r8:0<t.1.length:=by
   rcases Nat.eq_zero_or_pos t.1.length with e | e
   .exact absurd (zV e) c1
   .exact e
  cases i with
  | zero=>
   have h1:1<t.2.length:=by omega
   rw[show(0+1:Nat)=1 from rfl,qL h1,qL (show 1<nd.kids.length by omega)]at rb;obtain⟨y,S1,S2,q1,q2,q3,e⟩:=rb;exact⟨1,y,t.2[1],S1,_,zJ (by omega),q1,q2,zJ h1, .inr ⟨rfl,rfl,S2,q3,e⟩⟩
  | succ j=>
   have h1:j<t.2.length:=by omega
   rw[qJ h1,qJ (show j<nd.kids.length by omega)]at ra;obtain⟨T1,T2,r1,r2,e⟩:=ra.split j;have e1:(nd.kids.take j++[nd.kids[j]'(by omega)]).take j=nd.kids.take j:=j9 (by rw[qA];omega);have e2:(nd.kids.take j++[nd.kids[j]'(by omega)]).drop j=[nd.kids[j]'(by omega)]:=yY (by rw[qA];omega);have e3:(t.2.take j++[t.2[j]]).take j=t.2.take j:=j9 (by rw[qA];omega);have e4:(t.2.take j++[t.2[j]]).drop j=[t.2[j]]:=yY (by rw[qA];omega);rw[e1,e3]at r1;rw[e2,e4]at r2;obtain⟨y,S1,S2,q1,q2,q3,e5⟩:=r2;have q3:S2=[]:=q3;subst q3;exact⟨j,y,t.2[j],S1,_,zJ (by omega),q1,q2,zJ h1, .inl ⟨rfl,T1,r1,by rw[e,e5,qX]⟩⟩
 obtain⟨b,y,tb,a0,T,kb,hs,f1,i5,k8⟩:=side;obtain⟨f2,rfl⟩:=qR.1 i5;have f3:b<nd.kids.length:=by omega
 have m7:nd.kids[b]=T:=by rw[zJ f3]at kb;exact yD kb
 have U:WF h (VS lo t.1 b) (YD t.1 hi b) t.2[b]:=KB.at wi.2.2 i5;have m8:=ti.prs a6.prs;obtain⟨ks,r9,ps,f4,k1,k2,k3⟩:=id (hv.prs L).1;simp only[AV.agg.injEq]at f4;obtain⟨H5,i6,b5,p5,g5,m5,n5⟩:=box a6.prs.ok (.cells [.bool false, .nilSlice, .nilSlice, .nilSlice] 119 1 false);obtain⟨vb,H6,e6,p6,f5,c9⟩:=zD7 m9 n hn (m8.prs p5) hs;obtain⟨lb,rfl,f6,n0⟩:=f5.cells;obtain⟨H7,e7,g7,s7,n7⟩:=jW p6.ok (zRn p6 p5.ok g5) (l':=lb) f6 n0;have i8:stN 4 (.ptr i6 0) (.agg lb) H6=some (jO,H7):=e7;have N4:=L.next;have N5:=p5.next;have N6:=p6.next
 have a4:Prs H4 H7:=(p5.trans p6).fresh s7 (fun B K=>by omega);have a9:=a6.step a4;have h8:kC H7 (.agg lb) y:=f5.stp s7 (fun B K e=>by
  subst e;exact f5.nblk (zRn p6 p5.ok g5) (.inl ⟨_,_,_,_,rfl,fun _ _ e=>by cases e⟩) K)
 have n6:xL X H7 g (.agg lb) y:=by
  rcases c9 with⟨kk,c9⟩ | d4
  .exact h8.hand a9 (fun B K=>hold _ c9 B K) (l6 _ c9)
  .refine⟨h8,fun B K=>⟨fun hg=> ?_,fun hx=> ?_⟩⟩
   .have h1:=d4 B K;have h2:=zRp (a6.step p5).gg.row hg;omega
   .have h1:=d4 B K;have h2:=ch.xo B hx;have h3:=(a6.step p5).prs.next
    omega
 obtain⟨g',H8,e8,b0,a8⟩:=zIA (dy (m9+1)) n a9 T l8 (by omega);have i9:=a9.next (hv.prs (L.trans a4)) a8
 have j0:=a9.next (d1.prs (L.trans a4)) a8
 have j4:=a9.next n6 a8
 have np: ∀ {A:Nat} {l:List AV} {e:Nat},H7.h.get A=some (.cells l e 1 false)->A≠Ac-> ¬chg Ac F g A:=fun {A l e} hg c1 hc=>by
  rcases hc with e | e | e
  .exact c1 e
  .rw[e,a9.gF]at hg;cases hg
  .rw[a9.gg.get e]at hg;simp at hg
 have M1:=p1.next;have M2:=p2.next;have M3:=p3.next;have M4:=p4.next;have M7:=a4.next
 have d5:=zRn a4 L.ok d3;have j5:=zRn a4 L.ok i2;have j6:=zRn a4 L.ok i3;have f7:H8.h.get A5=some (.cells ln 119 1 false):=by rw[a8.1.keep _ (by omega) (np d5 (by omega))];exact d5
 have f8:H8.h.get A7=some (.cells lk 119 1 false):=by rw[a8.1.keep _ (by omega) (np j5 (by omega))];exact j5
 have n8:H8.h.get A8=some (.cells [.bool false, .nilSlice, .nilSlice, .nilSlice] 119 1 false):=by rw[a8.1.keep _ (by omega) (np j6 (by omega))];exact j6
 have h9:H8.h.get i6=some (.cells lb 119 1 false):=by rw[a8.1.keep _ (by omega) (np g7 (by omega))];exact g7
 have j7:vS H4 ps nd.kids:=k3.row;obtain⟨q4,i4,f9⟩:=j7.at f3;obtain⟨q7,i7,g0⟩:=(j7.prs a4).at f3;rw[m7]at f9 g0;obtain rfl:q7=q4:=by
  have e1:=i4 .i64 b rfl;rw[i7 .i64 b rfl]at e1;exact yD e1
 have i0:small y:=xN (by rw[f1.size];have:=U.sz;omega);have b4:kU (Qf E q f) h y t.2[b] a0:=f1.mono fun p _ nd hp=>e0 p nd hp
 have j8:0<h->y.keys≠[]:=fun hh=>by
  cases h with
  | zero=>omega
  | succ h=>
   have:=WY U;rw[f1.2.1];intro e;rw[e]at this;simp at this
 have k0: ¬(((0:Nat):Int)≠((0:Nat):Int)):=by omega
 have b6: ∀Hx:AH,Hx.h.get A5=some (.cells ln 119 1 false)->ld1 (.ptr A5 3) Hx=some ps/\ld1 (.ptr A5 1) Hx=some ks:=fun Hx hg=>by
  rw[jL hg,jL hg,f4];exact⟨rfl,rfl⟩
 have k4:Strs H8 ks nd.keys:=by
  obtain⟨s0,vs',s1,d0,j1,j2,j3⟩:=id i9.1;simp only[AV.agg.injEq]at d0;rw[f4]at d0;simp only[yE,and_true]at d0;obtain⟨_,rfl,_,_⟩:=d0;exact j1.row
 have k6: ∀(j m:Nat) (sep:Str) (u:AV) (c2:Nd.Node) (x':Bt.Tr h) (g4 a2 a3:List Ptr) (H9:AH),Prs H8 H9->YC H8 H9 u c2->kU (Qf E q f) h c2 x' g4->WX h (VS lo t.1 j) (YD t.1 hi (j+m)) x'->Full h x'->(0<h->c2.keys≠[])->j+m<t.2.length->
   xZ (Qf E q f) (kU (Qf E q f) h) (nd.kids.take j) (t.2.take j) a2->xZ (Qf E q f) (kU (Qf E q f) h) (nd.kids.drop (j+m+1)) (t.2.drop (j+m+1)) a3->
   ∃a5,stN 4 (.ptr A7 0) u H9=some (jO,a5)/\ ∃u H' Y J v C o O,QT (dy (m9+1)) n [.ptr Ac 0, .ptr A5 0, .ptr A7 0, .ptr A8 0, .int .i64 (j:Nat), .int .i64 ((j+m+1:Nat):Int)] a5=some (.ret (.tuple [u, .int .i64 ((0:Nat):Int)]),H')/\
    Ch X H0 H' At Ac F Y J g' (gl++[T]) c0 v/\Adv Ac F H g H' g'/\xL X H' g' u C/\kU (Qf E q J) (h+1) C o O/\Inn (WF h) lo hi o/\
    con (h+1) o=(t.2.take j).flatMap (con h)++con h x'++(t.2.drop (j+m+1)).flatMap (con h)/\wP o.1 o.2.length<=wP t.1 t.2.length+285/\t.1.length<=o.1.length+m/\W<=v/\v<=W+6/\
    O.Perm (pps W (v - W)++(a2++a3++g4))/\ ∀p nd,Qf E q f p=some nd->Qf E q J p=some nd:=by
  intro j m sep u c2 x' g4 a2 a3 H9 V w9 n9 o0 o1 k9 c3 g6 g8;have k7:=w9.free;obtain⟨lu,rfl,s2,o2⟩:=k7.1.cells;have o3:=b0.step V;have o4:xL X H9 g' (.agg lu) c2:=vT.hand b0 (zQ _) k7;have c4:=zRn V b0.prs.ok f8;obtain⟨a5,b9,o5,s10,s3⟩:=jW V.ok c4 (l':=lu) (by omega) o2;have l0:stN 4 (.ptr A7 0) (.agg lu) H9=some (jO,a5):=by rw[b8]at b9;exact b9
  rw[m0]at c4;have l3:=o3.stb c4 s10 (by omega) (by omega);have N8:=a8.1.next;have N9:=V.next
  have o6:a5.h.get A5=some (.cells ln 119 1 false):=by rw[s10.keep _ (by omega) (by omega)];exact zRn V b0.prs.ok f7
  have o7:a5.h.get A8=some (.cells [.bool false, .nilSlice, .nilSlice, .nilSlice] 119 1 false):=by rw[s10.keep _ (by omega) (by omega)];exact zRn V b0.prs.ok n8
  obtain⟨u',H',Y,J,v,C,o,O,e5,a7,st,hu,d4,r5,w5,c5,z5,k5,l1,l2,pm,more⟩:=zBC (dy (m9+1)) n hn (i:=j) (m:=m) (h:=h) l3 o6 o5 o7 (by omega) (by omega) (by omega) (by omega) (by omega) (by omega)
   ((i9.prs V).stb c4 s10) (o4.stb c4 s10) hq n1 n2 n3 n4 wi c1 hz c3 g6 g8 n9 o0 o1 k9 (by omega)
  refine⟨a5,l0,u',H',Y,J,v,C,o,O,e5,a7, ?_,hu,r5,w5,c5,z5,k5,l1,l2,pm,more⟩;refine⟨⟨st.ok,by have:=st.next;omega,fun B K hS=> ?_⟩,fun B K=> ?_⟩
  .have a1:H8.h.get B=H.h.get B:=by
    rw[a8.1.keep B (by omega) hS,a4.keep B (by omega) (fun x=>x)];exact L.keep B K (fun x=>x)
   rw[st.keep B (by omega) (fun hx=>by
    rcases hx with hx | hx
    .rcases hx with e | e | e
     .exact hS (.inl e)
     .exact hS (.inr (.inl e))
     .rcases a8.2 B e with e | e
      .exact hS (.inr (.inr e))
      .omega
    .omega),s10.keep B (by omega) (by omega),V.keep B (by omega) (fun x=>x)]
   exact a1
  .rcases a8.2 B K with e | e
   .exact .inl e
   .exact .inr (by omega)
 rcases k8 with⟨o8,a2,g6,rfl⟩ | ⟨rfl,rfl,a3,g8,rfl⟩
 ·
  subst o8;have N:b<t.1.length:=by omega
  have Z:=wi.1 _ (qY N);have s4:t.1.getD b []=t.1[b]:=by rw[qE,zJ N];rfl
  have g9:YD t.1 hi b=some t.1[b]:=by simp only[YD,zJ N]
  have h0:VS lo t.1 (b+1)=some t.1[b]:=by simp only[VS,zJ N]
  rw[g9]at U;rw[h0]at wx;have c3:=zEE b4 rx U.gen wx.gen Z.1 j8 d8 (kU.kidOk b4) (kU.kidOk rx);obtain⟨u,H9,e9,V,w9⟩:=zIl (dy (m9+1)) n hn b0.prs.ok (sep:=t.1[b]) j4.1.node j0.1.node i0 d9;rw[c3]at e9 w9;simp only[if_true]at e9 w9;have c6:=UQ Z.1;have js:=X9 h t.2[b] t.1[b] x c6;have wj:WX h (VS lo t.1 b) (YD t.1 hi (b+1)) (QN h t.2[b] t.1[b] x):=Gen.wx (zEF U.gen wx.gen ⟨Z.1,by
   have q0:=KB.at wi.2.2 (zJ f2)
   cases b with
   | zero=>exact Z.2.1
   | succ b'=>
    simp only[VS,zJ (show b'<t.1.length by omega)];have:=(Nd.rising_ix ltS t.1).1 wi.2.1 b' N;exact this,by
   by_cases e:b+1<t.1.length
   .simp only[YD,zJ e];exact(Nd.rising_ix ltS t.1).1 wi.2.1 b e
   .simp only[YD,List.getElem?_eq_none (show t.1.length<=b+1 by omega)];exact Z.2.2⟩) (by have:=U.sz;omega)
  obtain⟨a5,b9,u',H',Y,J,v,C,o,O,e5,a7,h4,hu,r5,w5,c5,z5,k5,l1,l2,pm,more⟩:=k6 b 1 t.1[b] u _ _ (a0++Sx) a2 Sb H9 V w9 (kU.join b4 rx t.1[b]) wj (zC5 c6 (.inl U.full)) (fun hh e=>by
   cases h with
   | zero=>omega
   | succ h=>
    have:(cJ y t.1[b] kd).keys=y.keys++([t.1[b]]++kd.keys):=by simp only[cJ,b4.1,zL,qC]
    rw[this]at e;simp at e) (by omega) (b7 g6) (b7 rb)
  refine⟨u',H',Y,J,g',gl++[T],v,C,o,O,[T],a2++(a0++Sb), ?_,a7,h4,hu,r5,w5, ?_,z5,k5,l1,l2,rfl, ?_, ?_,more,by simp⟩
  .have o9:((b+1:Nat):Int) - ((1:Nat):Int)=((b:Nat):Int):=by omega
   have p0: ¬((b+1:Nat):Int)=((0:Nat):Int):=by omega
   have h5:mn2 (.int .i64 ((b+1:Nat):Int)) (.int .i64 ((b:Nat):Int))=some (.int .i64 ((b:Nat):Int)):=by
    have:ilt ((b:Nat):Int) ((b+1:Nat):Int)=true:=by rw[uK];simp;omega
    simp only[mn2,this,zM]
   have h6:mx2 (.int .i64 ((b+1:Nat):Int)) (.int .i64 ((b:Nat):Int))=some (.int .i64 ((b+1:Nat):Int)):=by
    have:ilt ((b+1:Nat):Int) ((b:Nat):Int)=false:=by rw[uK];simp;omega
    simp only[mx2,this,qH]
   have d7:((b:Nat):Int)< ((b+1:Nat):Int):=by omega
   have l4:((b+1:Nat):Int)+((1:Nat):Int)=((b+1+1:Nat):Int):=by omega
   obtain⟨qk,ik,c7⟩:=k4.at (i:=b) (by rw[n2];exact N);have h7:nd.keys[b]'(by rw[n2];exact N)=t.1[b]:=by simp[n2]
   rw[h7]at c7;simp(config:= { maxSteps:=2000000}) (disch:=omega) only[f129,eZ,b1,b2,b3,l4,bY d2 b8,e4,c8,o9,p0,JM,jL a6.gC,(b6 H4 d3).1,i4,f9,b5,e6,jM,nth,i8,k0,(b6 H7 d5).1,i7,g0,e8,h5,h6,d7,bY h9 f6,(b6 H8 f7).2,ik,c7,bY f8 b8,e9,b9,QU,e5]
  .rw[c5,zFh,qJ f2,yZ,qG,List.flatMap_nil,qX];simp only[qI]
  .rw[List.perm_iff_count]at pm⊢;intro a;have:=pm a;simp only[List.count_append,List.count_cons]at this⊢;omega
  .rw[List.perm_iff_count];intro a;simp only[List.count_append,List.count_cons,List.count_nil];omega
 ·
  have N:0<t.1.length:=by omega
  have Z:=wi.1 _ (qY N);have g9:YD t.1 hi 0=some t.1[0]:=by simp only[YD,zJ N]
  have h0:VS lo t.1 1=some t.1[0]:=by simp only[VS,zJ N]
  rw[h0]at U;rw[g9]at wx;have c3:=zEE rx b4 wx.gen U.gen Z.1 d8 j8 (kU.kidOk rx) (kU.kidOk b4);obtain⟨u,H9,e9,V,w9⟩:=zIl (dy (m9+1)) n hn b0.prs.ok (sep:=t.1[0]) j0.1.node j4.1.node d9 i0;rw[c3]at e9 w9;simp only[if_true]at e9 w9;have c6:=UQ Z.1;have js:=X9 h x t.1[0] t.2[1] c6;have wj:WX h (VS lo t.1 0) (YD t.1 hi (0+1)) (QN h x t.1[0] t.2[1]):=Gen.wx (zEF wx.gen U.gen ⟨Z.1,Z.2.1,by
   by_cases e:1<t.1.length
   .simp only[YD,zJ (show 0+1<t.1.length by omega)];exact(Nd.rising_ix ltS t.1).1 wi.2.1 0 (by omega)
   .simp only[YD,List.getElem?_eq_none (show t.1.length<=0+1 by omega)];exact Z.2.2⟩) (by have:=U.sz;omega)
  obtain⟨a5,b9,u',H',Y,J,v,C,o,O,e5,a7,h4,hu,r5,w5,c5,z5,k5,l1,l2,pm,more⟩:=k6 0 1 t.1[0] u _ _ (Sx++a0) Sa a3 H9 V w9 (kU.join rx b4 t.1[0]) wj (zC5 c6 (.inr U.full)) (fun hh e=>by
   cases h with
   | zero=>omega
   | succ h=>
    have:(cJ kd t.1[0] y).keys=kd.keys++([t.1[0]]++y.keys):=by simp only[cJ,rx.1,zL,qC]
    rw[this]at e;simp at e) (by omega) (b7 ra) (b7 g8)
  refine⟨u',H',Y,J,g',gl++[T],v,C,o,O,[T],Sa++(a0++a3), ?_,a7,h4,hu,r5,w5, ?_,z5,k5,l1,l2,rfl, ?_, ?_,more,by simp⟩
  .have h5:mn2 (.int .i64 ((0:Nat):Int)) (.int .i64 ((1:Nat):Int))=some (.int .i64 ((0:Nat):Int)):=rfl;have h6:mx2 (.int .i64 ((0:Nat):Int)) (.int .i64 ((1:Nat):Int))=some (.int .i64 ((1:Nat):Int)):=rfl;have d7: ¬((1:Nat):Int)< ((0:Nat):Int):=by omega
   have p7:((1:Nat):Int)+((1:Nat):Int)=((0+1+1:Nat):Int):=by omega
   obtain⟨qk,ik,c7⟩:=k4.at (i:=0) (by rw[n2];exact N);have h7:nd.keys[0]'(by rw[n2];exact N)=t.1[0]:=by simp[n2]
   rw[h7]at c7;simp(config:= { maxSteps:=2000000}) (disch:=omega) only[f129,eZ,b1,b2,b3,bY d2 b8,e4,c8,JM,jL a6.gC,(b6 H4 d3).1,i4,f9,b5,e6,jM,nth,i8,k0,(b6 H7 d5).1,i7,g0,e8,h5,h6,d7,p7,bY h9 f6,(b6 H8 f7).2,ik,c7,bY f8 b8,e9,b9,QU,e5]
  .have e1:t.2.drop (0+1)=t.2[1]::t.2.drop 2:=qL f2;rw[c5,zFh,e1];simp only[List.take_zero,List.flatMap_nil,qS,qG,qI,show 0+1+1=2 from rfl]
  .rw[List.perm_iff_count]at pm⊢;intro a;have:=pm a;simp only[List.count_append,List.count_cons]at this⊢;omega
  .rw[List.perm_iff_count];intro a;simp only[List.count_append,List.count_cons,List.count_nil];omega
end Go.Eng.Sh
end
section
set_option maxRecDepth 20000
namespace Go.Bt
open Go.Nd (Str Kvs lookP putP delP leafOf mayK)
open Go.Eng (ltS)
inductive Ed
 | put (k v:Str)
 | del (k:Str)
def Ed.key:Ed->Str
 | .put k _=>k
 | .del k=>k
def Ed.run:Ed->Kvs->Option Kvs
 | .put k v,l=>some (putP k v l)
 | .del k,l=>if(lookP k l).isSome then some (delP k l)else none
def Ed.ok:Ed->Prop
 | .put k v=>mayK k=true/\v.length<=200
 | .del k=>mayK k=true
theorem Ed.run_mid (ed:Ed){A C B:Kvs}(a: ∀p∈A,ltS p.1 ed.key=true)(f: ∀p∈B,ltS ed.key p.1=true):ed.run (A++C++B)=(ed.run C).map fun c=>A++c++B:=by
 cases ed with
 | put k v=>simp only[Ed.run,zZ,zNX (k:=k) a f]
 | del k=>
  simp only[Ed.run,zLe (k:=k) a f,zJv (k:=k) a f];split<;>rfl
theorem Ed.leaf {ed:Ed}{lo hi:Bd}{l l':Kvs}(a:Lf lo hi l)(hl:zIe lo ed.key)(h:hiB hi ed.key)(f:ed.ok)(hr:ed.run l=some l'):Lf lo hi l'/\wM l'<=wM l+242:=by
 cases ed with
 | put k v=>
  simp only[Ed.run,zB]at hr;subst hr;exact zLg a hl h f.1 f.2
 | del k=>
  simp only[Ed.run]at hr;split at hr
  .simp only[zB]at hr;subst hr;have:=zLh k a;exact⟨this.1,by omega⟩
  .cases hr
end Go.Bt
namespace Go.Eng.Sh
open Go.Nd (Ptr sumL leafOf Kvs)
open Go.Bt
variable {X:Nat->Prop}
def edF (ed:Ed)(K V:Nat):AV:=match ed with
 | .put _ _=> .func 88 [] [.ptr K 0, .ptr V 0]
 | .del _=> .func 83 [] [.ptr K 0]
def edB (H:AH)(ed:Ed)(K V:Nat):Prop:=match ed with
 | .put k v=>Box H K (S k)/\Box H V (S v)
 | .del k=>Box H K (S k)
theorem edB.prs {H H':AH}{ed:Ed}{K V:Nat}(h:edB H ed K V)(a:H.ok)(s:Prs H H'):edB H' ed K V:=by
 cases ed with
 | put k v=>exact⟨h.1.mono a s (fun x=>x),h.2.mono a s (fun x=>x)⟩
 | del k=>exact Box.mono h a s (fun x=>x)
def edL (ed:Ed)(l:Kvs):Nd.Node×Nat:=match ed.run l with
 | some l'=>(leafOf l',0)
 | none=>(nd0,5)
theorem zLG (m:Nat)(hm:200000000<=m){H:AH}(C:H.ok){ed:Ed}{K V:Nat}{v:AV}{l:Kvs}{lo hi:Bd}(W:kC H v (leafOf l))(o:Lf lo hi l)(hz:wM l<=10000)(ho:ed.ok)(hb:edB H ed K V):
  ∃u H',(match ed with | .put _ _=>f88 (dy m) m [v, .ptr K 0, .ptr V 0] H | .del _=>f83 (dy m) m [v, .ptr K 0] H)=some (.tuple [u, .int .i64 (((edL ed l).2:Nat):Int)],H')/\Prs H H'/\vT H.next H' u (edL ed l).1:=by
 have Z:Nd.shaped ltS (leafOf l)=true:=Nd.leaf_shaped o.1 fun p hp=>(o.2 p hp).2.2
 obtain⟨lv,rfl,U,a5⟩:=W.cells;obtain⟨H1,A3,b1,q,Y,m1,n1⟩:=box C (.cells lv 119 1 false);obtain⟨H2,A4,b2,F,g2,m2,n2⟩:=box q.ok (.cells [.bool false, .nilSlice, .nilSlice, .nilSlice] 119 1 false);have f:=q.trans F;have a0:small (leafOf l):=xN hz;have N1:=q.next;have N2:=F.next
 have a1: ∀ {u:AV} {nd:Nd.Node} {s:AH},Prs H2 s->vT H2.next s u nd-> ∃a,stN 4 (.ptr A4 0) u s=some (jO,a)/\Prs H a/\vT H.next a u nd/\ldN 4 (.ptr A4 0) a=some u:=fun {u nd s} j N=>by
  obtain⟨lu,rfl,a2,a3⟩:=N.1.cells;obtain⟨a,t,g4,s4,n4⟩:=jW j.ok (zRn j f.ok g2) (l':=lu) a2 a3;refine⟨a,t,(f.trans j).fresh s4 (fun B O=>by omega),⟨N.1.stp s4 (fun B O e=> ?_),fun B O=>by have:=N.2 B O;omega⟩,bY g4 a2⟩;have:=N.2 B O;omega
 cases ed with
 | put k x=>
  obtain⟨u,s,i,j,J⟩:=zKZ (dy m) m hm f.ok (key:=k) (value:=x) (W.prs f) a0;have a4:zFP (leafOf l) k x=true:=by simp only[zFP,Z,show(leafOf l).leaf=true from rfl,ho.1,ho.2,Bool.true_and,decide_true]
  rw[a4]at i J;simp only[if_true,Nd.put_leaf _ _ o.1]at i J;obtain⟨a,t,S,y,T⟩:=a1 j J;refine⟨u,a, ?_,S,y⟩;simp(maxSteps:=999999)(disch:=omega) only[f88,eZ,b1,b2,bY (zRn F q.ok Y) U,(hb.1.mono C f (fun x=>x)).ld,(hb.2.mono C f (fun x=>x)).ld,i,jM,nth,t,T,edL,Ed.run]
 | del k=>
  obtain⟨u,s,i,j,J⟩:=zLJ (dy m) m hm f.ok (key:=k) (W.prs f) a0;have h:zPD (leafOf l) k=if(Nd.lookP k l).isSome then 0 else 5:=by
   simp only[zPD,Z,show(leafOf l).leaf=true from rfl,qN,if_true,Nd.here_look _ o.1]
  obtain⟨a,t,S,y,T⟩:=a1 j J
  cases L:(Nd.lookP k l).isSome with
  | true=>
   rw[L]at h;simp only[if_true]at h;rw[h]at i;simp only[h,if_true,Nd.del_leaf _ o.1 ((Nd.here_look _ o.1).trans L)]at y;have z:edL (.del k) l=(leafOf (Nd.delP k l),0):=by simp only[edL,Ed.run,L,if_true]
   refine⟨u,a, ?_,S,by rw[z];exact y⟩;rw[z];simp(maxSteps:=999999)(disch:=omega) only[f83,eZ,b1,b2,bY (zRn F q.ok Y) U,(Box.mono hb C f (fun x=>x)).ld,i,jM,nth,t,T]
  | false=>
   rw[L]at h;simp only[zL,qC]at h;rw[h]at i;have h5: ¬(5:Nat)=0:=by decide
   simp only[h,h5,qC]at y;have z:edL (.del k) l=(nd0,5):=by simp only[edL,Ed.run,L,zL,qC]
   refine⟨u,a, ?_,S,by rw[z];exact y⟩;rw[z];simp(maxSteps:=999999)(disch:=omega) only[f83,eZ,b1,b2,bY (zRn F q.ok Y) U,(Box.mono hb C f (fun x=>x)).ld,i,jM,nth,t,T]
theorem zJp (m n:Nat)(hm:200000000<=m){H:AH}(a:H.ok){ed:Ed}{K V:Nat}{v:AV}{l:Kvs}{lo hi:Bd}(f:kC H v (leafOf l))(h:Lf lo hi l)(i:wM l<=10000)(j:ed.ok)(hb:edB H ed K V):
  ∃u H',callV [(76,f76 (dy (m+1)) n),(77,f77 (dy (m+1)) n),(79,f79 (dy (m+1)) n),(129,f129 (dy (m+1)) n),(130,f130 (dy (m+1)) n)] (dy (m+1)) (edF ed K V) [v] H=some (.tuple [u, .int .i64 (((edL ed l).2:Nat):Int)],H')/\callV [(127,f127 (dy (m+1)) n),(126,f126 (dy (m+1)) n),(131,f131 (dy (m+1)) n)] (dy (m+1)) (edF ed K V) [v] H=some (.tuple [u, .int .i64 (((edL ed l).2:Nat):Int)],H')/\Prs H H'/\vT H.next H' u (edL ed l).1:=by
 obtain⟨u,H',e,p,w⟩:=zLG m hm a f h i j hb;refine⟨u,H', ?_, ?_,p,w⟩
 .cases ed with
  | put k x=>exact e
  | del k=>exact e
 .cases ed with
  | put k x=>exact e
  | del k=>exact e
def zGf (Bd a f h i j:Nat):AV:= .func 128 [] [.ptr Bd 0, .ptr a 0, .ptr f 0, .ptr h 0, .ptr i 0, .ptr j 0]
structure Cl (H0 H:AH)(At Ac K V:Nat)(ed:Ed)(Bd Bt Be Bk Bf Bc d:Nat):Prop where
 bd:Box H Bd (.int .i64 (d:Nat))
 bt:Box H Bt (.ptr At 0)
 be:Box H Be (edF ed K V)
 bk:Box H Bk (S ed.key)
 bf:Box H Bf (zGf Bd Bt Be Bk Bf Bc)
 bc:Box H Bc (.ptr Ac 0)
 eb:edB H0 ed K V
 fr:H0.next<=Bd
 n1:Bt≠Bd
 n2:Be≠Bd
 n3:Bk≠Bd
 n4:Bf≠Bd
 n5:Bc≠Bd
theorem _root_.Go.Eng.Box.nchg {H0 H:AH}{At j F:Nat}{p:List (AV×AV)}{f:PN}{g v:AV}{gl:List Ptr}{m o A:Nat}(h:Box H A v)(a:Ch X H0 H At j F p f g gl m o): ¬chg j F g A:=fun i=>by
 obtain⟨e,h⟩:=h;rcases i with rfl | rfl | i
 .rw[a.gC]at h;simp at h
 .rw[a.gF]at h;cases h
 .rw[a.gg.get i]at h;simp at h
theorem Cl.keep {H0 H H':AH}{At i F K V:Nat}{ed:Ed}{Bd j m o p q d:Nat}{v:List (AV×AV)}{f:PN}{g:AV}{gl:List Ptr}{t u:Nat}(h:Cl H0 H At i K V ed Bd j m o p q d)(a:Ch X H0 H At i F v f g gl t u)(s:Stp (chg i F g) H H'):Cl H0 H' At i K V ed Bd j m o p q d:=
 ⟨h.bd.mono a.prs.ok s (h.bd.nchg a),h.bt.mono a.prs.ok s (h.bt.nchg a),h.be.mono a.prs.ok s (h.be.nchg a),h.bk.mono a.prs.ok s (h.bk.nchg a),h.bf.mono a.prs.ok s (h.bf.nchg a),h.bc.mono a.prs.ok s (h.bc.nchg a),h.eb,h.fr,h.n1,h.n2,h.n3,h.n4,h.n5⟩
theorem Cl.prs {H0 H H':AH}{At f K V:Nat}{ed:Ed}{Bd i j m o p d:Nat}(h:Cl H0 H At f K V ed Bd i j m o p d)(a:H.ok)(s:Prs H H'):Cl H0 H' At f K V ed Bd i j m o p d:=
 ⟨h.bd.mono a s (fun x=>x),h.bt.mono a s (fun x=>x),h.be.mono a s (fun x=>x),h.bk.mono a s (fun x=>x),h.bf.mono a s (fun x=>x),h.bc.mono a s (fun x=>x),h.eb,h.fr,h.n1,h.n2,h.n3,h.n4,h.n5⟩
theorem Cl.deeper {H0 H:AH}{At j F K V:Nat}{ed:Ed}{Bd t u v y z d:Nat}{q:List (AV×AV)}{f:PN}{g:AV}{gl:List Ptr}{o p:Nat}(h:Cl H0 H At j K V ed Bd t u v y z d)(a:Ch X H0 H At j F q f g gl o p):
  ∃H',stN 1 (.ptr Bd 0) (.int .i64 ((d+1:Nat):Int)) H=some (jO,H')/\Cl H0 H' At j K V ed Bd t u v y z (d+1)/\Ch X H0 H' At j F q f g gl o p/\Stp (fun B=>B=Bd) H H':=by
 obtain⟨H',e,b,s⟩:=h.bd.st a.prs.ok (x:= .int .i64 ((d+1:Nat):Int)) rfl;have m:=h.bd.nchg a;obtain⟨O,L⟩:=h.bd;refine⟨H',e,⟨b,h.bt.mono a.prs.ok s h.n1,h.be.mono a.prs.ok s h.n2,h.bk.mono a.prs.ok s h.n3,h.bf.mono a.prs.ok s h.n4,h.bc.mono a.prs.ok s h.n5,h.eb,h.fr,h.n1,h.n2,h.n3,h.n4,h.n5⟩, ?_,s⟩;exact a.other s (fun e=>m (.inl e.symm)) (fun e=>m (.inr (.inl e.symm))) (fun B i e=>m (.inr (.inr (e▸i)))) (fun kv C B i e=>by
  subst e;obtain⟨N,J⟩:=a.pf.mem kv C;exact J.nblk L (.inl ⟨_,_,_,_,rfl,fun _ _ e=>by cases e⟩) i) (fun B i=>by rw[i];exact h.fr)
end Go.Eng.Sh
end
section
set_option maxRecDepth 20000
namespace Go.Eng.Sh
open Go.Nd (Ptr sumL leafOf Kvs)
open Go.Bt
variable {E:Ev}{X:Nat->Prop}
theorem dS {nd:Nd.Node}{ks:List Str}(hl:nd.leaf=false)(a:nd.keys=ks)(key:Str):Nd.whereN nd key=kB ks key:=by
 simp only[Nd.whereN,kB,hl,a,Bool.not_false,Bool.true_and]
theorem ZM: ∀ {n a:Nat} {p:Ptr},p∈pps a n-> ∃j,p=pp j/\a<j/\j<=a+n
 | 0,_,_,h=>by simp[pps]at h
 | n+1,a,p,h=>by
  rcases zP.1 h with rfl | h
  .exact⟨a+1,rfl,by omega,by omega⟩
  .obtain⟨j,e,f,i⟩:=ZM h;exact⟨j,e,by omega,by omega⟩
theorem WP: ∀(n a:Nat),(pps a n).Nodup
 | 0,_=>by simp[pps]
 | n+1,a=>by
  rw[pps,List.nodup_cons];refine⟨fun h=> ?_,WP n (a+1)⟩;obtain⟨j,e,f,_⟩:=ZM h;have:=JC e;omega
def zPl (E:Ev)(X:Nat->Prop)(H0 H H':AH)(At y F K V:Nat)(ed:Ed)(L N O T U B6 d:Nat)(q:PN)(f:PN)(g o:AV)(gl:List Ptr)(C m:Nat)(h:Nat)(lo hi:Bd)(t:Bt.Tr h)(S:List Ptr)(p:Ptr)(u:AV)(c':Kvs):Prop:=
 ∃J s v a d' x z G R Fr,∃i:Bt.Tr h,Ch X H0 H' At y F J s o v C a/\Cl H0 H' At y K V ed L N O T U B6 d'/\xL X H' o u x/\kU (Qf E q s) h x i z/\WX h lo hi i/\con h i=c'/\(0<h->VW h t<=VW h i+1)/\v=gl++G/\G.length<=2*(h+1)/\
  m<=a/\a<=m+6*h/\d'<=d+h+1/\z.Perm (Fr++R)/\(p::S).Perm (G++R)/\Fr.Nodup/\(∀p∈Fr,∃j,p=pp j/\m<j/\j<=a)/\(∀p nd,Qf E q f p=some nd->Qf E q s p=some nd)/\ ∀B,Blk o B->Blk g B\/H.next<=B
theorem zGP (D:Dyn)(n:Nat){H0 H:AH}{At j F K V:Nat}{ed:Ed}{U W Y Z B5 B6 d A7 q J e7:Nat}{a2:List (AV×AV)}{f:PN}{g:AV}{gl:List Ptr}{a0 C:Nat}{o:List AV}{nd:Nd.Node}{p:Ptr}
  (s:Ch X H0 H At j F a2 f g gl a0 C) (cl:Cl H0 H At j K V ed U W Y Z B5 B6 d) (g7:H.h.get A7=some (.cells (jR p) e7 1 false)) (g8:H.h.get q=some (.cells [.bool false, .nilSlice, .nilSlice, .nilSlice] 119 1 false)) (O:H.h.get J=some (.cells o 119 1 false))
  (hu:xL X H g (.agg o) nd) (h8:H0.next<=q) (a3:q≠j) (b4:A7≠j) (a4:J≠j) (hl:gl.length+1<=C+1000) (hb:C<=900000000):
  ∃y H',dB D n [.ptr B6 0, .ptr A7 0, .ptr q 0, .ptr J 0, .int .i64 ((0:Nat):Int)] H=some (.ret (.tuple [.agg o, .int .i64 ((0:Nat):Int)]),H')/\Ch X H0 H' At j F a2 f y (gl++[p]) a0 C/\Cl H0 H' At j K V ed U W Y Z B5 B6 d/\xL X H' y (.agg o) nd/\
   Stp (fun B=>chg j F g B\/B=q) H H'/\ ∀B,Blk y B->Blk g B\/H.next<=B:=by
 obtain⟨S,a6⟩:o.length=4/\jP o=true:=by
  obtain⟨_,_,a,b⟩:=cB hu.1;exact⟨a,b⟩
 obtain⟨y,z,e1,T,t⟩:=zIA D n s p hl hb;have np: ∀ {A:Nat} {l:List AV} {e:Nat},H.h.get A=some (.cells l e 1 false)->A≠j-> ¬chg j F g A:=fun {A l e} u a7 hc=>by
  rcases hc with e | e | e
  .exact a7 e
  .rw[e,s.gF]at u;cases u
  .rw[s.gg.get e]at u;simp at u
 have lt: ∀ {A:Nat} {l:List AV} {e:Nat},H.h.get A=some (.cells l e 1 false)->A<H.next:=fun u=>s.prs.ok.lt u
 have v:z.h.get q=some (.cells [.bool false, .nilSlice, .nilSlice, .nilSlice] 119 1 false):=by rw[t.1.keep _ (lt g8) (np g8 a3)];exact g8
 have a5:z.h.get J=some (.cells o 119 1 false):=by rw[t.1.keep _ (lt O) (np O a4)];exact O
 have a8:=s.next hu t
 have i:=cl.keep s t.1;obtain⟨L,e2,a9,N,n2⟩:=jW T.prs.ok v (l':=o) S a6;have b0:stN 4 (.ptr q 0) (.agg o) z=some (jO,L):=e2;have b1:=T.stb v N h8 a3;have nb: ∀ {A:Nat} {x:AV},Box z A x->(∀b,x≠ .bool b)->A≠q:=fun {A x} hb hx e=>by
  obtain⟨_,hb⟩:=hb;rw[e,v]at hb;simp at hb
 have b2:Cl H0 L At j K V ed U W Y Z B5 B6 d:=by
  have m: ∀ {A:Nat} {x:AV},Box z A x->Box L A x:=fun {A x} hb=>hb.mono T.prs.ok N (fun e=>by
   obtain⟨_,hb⟩:=hb;rw[e,v]at hb;simp at hb)
  exact⟨m i.bd,m i.bt,m i.be,m i.bk,m i.bf,m i.bc,i.eb,i.fr,i.n1,i.n2,i.n3,i.n4,i.n5⟩
 refine⟨y,L, ?_,b1,b2,a8.stb v N,(t.1.mono fun _ _ x=> .inl x).trans (N.mono fun _ _ x=> .inr x),t.2⟩;have b3: ¬(((0:Nat):Int)≠((0:Nat):Int)):=by omega
 simp(maxSteps:=999999)(disch:=omega) only[dB,eZ,b3,cl.bc.ld,jQ g7,zNy,zZ,e1,bY a5 S,b0,bY a9 S]
theorem zGQ (D:Dyn)(n:Nat){H:AH}{a B6 e:Nat}(x y:AV)(o:H.ok)(p:H.h.get a=some (.cells [.bool false, .nilSlice, .nilSlice, .nilSlice] 119 1 false))(t:e≠0):
  ∃H',dB D n [.ptr B6 0,x, .ptr a 0,y, .int .i64 (e:Nat)] H=some (.ret (.tuple [.agg [.bool false, .nilSlice, .nilSlice, .nilSlice], .int .i64 (e:Nat)]),H')/\Stp (fun B=>B=a) H H':=by
 obtain⟨f,q,i,s,u⟩:=jW o p (l':=[.bool false, .nilSlice, .nilSlice, .nilSlice]) rfl rfl;have j:stN 4 (.ptr a 0) (.agg [.bool false, .nilSlice, .nilSlice, .nilSlice]) H=some (jO,f):=q;refine⟨f, ?_,s⟩;have m:((e:Nat):Int)≠((0:Nat):Int):=by omega
 simp(maxSteps:=999999)(disch:=omega) only[dB,eZ,m,ne_eq,j6,ZY,j,bY i rfl]
theorem zLY (M n a f h i j B6:Nat)(x:AV)(H:AH):callV [(76,f76 (dy (M+1)) n),(77,f77 (dy (M+1)) n),(79,f79 (dy (M+1)) n),(129,f129 (dy (M+1)) n),(130,f130 (dy (M+1)) n)] (dy (M+1)) (zGf a f h i j B6) [x] H=f128 (dy M) M [x, .ptr a 0, .ptr f 0, .ptr h 0, .ptr i 0, .ptr j 0, .ptr B6 0] H:=rfl
noncomputable def zOY (D:Dyn)(n:Nat)(Z x4 x5 x6 f h a:AV)(H:AH):Rs:=
 bV (fAd 0 a) fun s=>
 bV (ld1 s H) fun t=>
 jn (cnd t (bV (ld1 Z H) fun u=>
 bV (ldN 4 a H) fun v=>
 bR (callV [(76,f76 D n),(77,f77 D n),(79,f79 D n),(129,f129 D n),(130,f130 D n)] D u [v] H) fun i H=>
 bV (jM i 0) fun x=>
 bV (jM i 1) fun y=>
 bR (stN 4 a x H) fun _ H=>
 some (.norm [x6,f,h,a,y],H))
 (bV (ldN 4 a H) fun z=>
 bV (ld1 x4 H) fun C=>
 bR (f79 D n [z,C] H) fun j H=>
 bA (bxV 119 (.agg [(.bool false), .nilSlice, .nilSlice, .nilSlice])) H fun m H=>
 bV (ld1 x5 H) fun F=>
 bV (fAd 3 a) fun J=>
 bV (ld1 J H) fun K=>
 bV (uX 3 K j) fun L=>
 bV (ldN 3 L H) fun N=>
 bR (callV [(76,f76 D n),(77,f77 D n),(79,f79 D n),(129,f129 D n),(130,f130 D n)] D F [N] H) fun o H=>
 bV (jM o 0) fun O=>
 bV (jM o 1) fun p=>
 bR (stN 4 m O H) fun _ H=>
 bV (kI .eql p (.int .i64 (.ofNat 0))) fun S=>
 jn (cnd S (bV (ld1 x6 H) fun T=>
 bV (ldN 4 a H) fun U=>
 bV (ldN 4 m H) fun V=>
 bR (f129 D n [T,U,j,V] H) fun q H=>
 bV (jM q 0) fun W=>
 bV (jM q 1) fun Y=>
 bR (stN 4 a W H) fun _ H=>
 some (.norm [x6,f,h,a,Y],H))
 (some (.norm [x6,f,h,a,p],H))) (ZC D n))) (dB D n)
theorem zCo (C n:Nat)(hn:200000000<=n){H0 H:AH}{At J F M0 K V:Nat}{ed:Ed}{t B2 L N O B6 d:Nat}{u:Ptr}{dk a9 dr:AV}{root:Ptr}{es:List (AV×AV)}{q fr:PN}{a2:List (AV×AV)}{g:AV}{gl:List Ptr}{W a1:Nat}{nd:Nd.Node}(ti:TI E H0 At M0 dk a9 root es q W dr)(hold: ∀kv∈es,∀B,xX kv.2 B->B<H0.next)(b0: ∀kv∈es,∀B,xX kv.2 B-> ¬X B)
  (y:Ch X H0 H At J F a2 fr g gl W a1) (cl:Cl H0 H At J K V ed t B2 L N O B6 d) (hs:Qf E q [] u=some nd) (hd:d+1<=8192):
  ∃f j m i a,f128 (dy (C+1)) n [.agg (jR u), .ptr t 0, .ptr B2 0, .ptr L 0, .ptr N 0, .ptr O 0, .ptr B6 0] H=dH (zOY (dy (C+1)) n (.ptr L 0) (.ptr N 0) (.ptr O 0) (.ptr B6 0) (.ptr j 0) (.ptr m 0) (.ptr i 0) a)/\
   Ch X H0 a At J F a2 fr g gl W a1/\Cl H0 a At J K V ed t B2 L N O B6 (d+1)/\xL X a g (.agg f) nd/\(∃r,f= .bool nd.leaf::r/\f.length=4/\jP f=true)/\
   a.h.get j=some (.cells (jR u) 42 1 false)/\a.h.get m=some (.cells [.bool false, .nilSlice, .nilSlice, .nilSlice] 119 1 false)/\a.h.get i=some (.cells f 119 1 false)/\
   H.next<=j/\H.next<=m/\H.next<=i/\j≠m/\j≠i/\m≠i/\Stp (fun B=>B=t) H a:=by
 obtain⟨H1,j,b1,S,g1,m1,n1⟩:=box y.prs.ok (.cells (jR u) 42 1 false);obtain⟨H2,m,b2,p2,g2,m2,n2⟩:=box S.ok (.cells [.bool false, .nilSlice, .nilSlice, .nilSlice] 119 1 false);have P2:=S.trans p2;have b3:=y.step P2;have a3:=cl.prs y.prs.ok P2;obtain⟨H3,e3,Y,o,T⟩:=a3.deeper b3;have a4:=ti.prs o.prs;have a8:=zO9 (dy (C+1)) n a4;have N1:=S.next;have N2:=p2.next;have N3:=T.next
 have c7:t<H.next:=cl.bd.lt y.prs.ok
 have a5:H3.h.get j=some (.cells (jR u) 42 1 false):=by rw[T.keep _ (by omega) (by omega)];exact zRn p2 S.ok g1
 have b4:H3.h.get m=some (.cells [.bool false, .nilSlice, .nilSlice, .nilSlice] 119 1 false):=by rw[T.keep _ (by omega) (by omega)];exact g2
 obtain⟨v,H4,e4,p4,Z,z⟩:=zD7 C n hn a4 hs;obtain⟨f,rfl,b6,b7⟩:=Z.cells;obtain⟨H5,i,b5,U,g5,m5,n5⟩:=box p4.ok (.cells [.bool false, .nilSlice, .nilSlice, .nilSlice] 119 1 false);obtain⟨a,e6,g6,s6,n6⟩:=jW U.ok g5 (l':=f) b6 b7;have b8:stN 4 (.ptr i 0) (.agg f) H5=some (jO,a):=e6;have N4:=p4.next;have N5:=U.next
 have s:Prs H3 a:=(p4.trans U).fresh s6 (fun B p=>by omega);have a6:=o.step s;have a0:kC a (.agg f) nd:=(Z.prs U).stp s6 (fun B p e=>by
  subst e;have:=Z.lt p;omega)
 have b9:xL X a g (.agg f) nd:=by
  rcases z with⟨kk,z⟩ | a7
  .exact a0.hand a6 (fun B p=>hold _ z B p) (b0 _ z)
  .refine⟨a0,fun B p=>⟨fun hg=> ?_,fun hx=> ?_⟩⟩
   .have h1:=a7 B p;have h2:=zRp o.gg.row hg;omega
   .have h1:=a7 B p;have h2:=y.xo B hx;have h3:=o.prs.next
    omega
 obtain⟨r,c0,c1,c2⟩:=cB a0;refine⟨f,j,m,i,a, ?_,a6,Y.prs o.prs.ok s,b9,⟨r,c0,c1,c2⟩,zRn s o.prs.ok a5,zRn s o.prs.ok b4,g6,by omega,by omega,by omega,by omega,by omega,by omega,((P2.mono fun _ _ x=>x.elim).trans T).trans (s.mono fun _ _ x=>x.elim)⟩;have c3:((d:Nat):Int)+((1:Nat):Int)=((d+1:Nat):Int):=by omega
 have c4: ¬((8192+q.length:Nat):Int)< ((d+1:Nat):Int):=by omega
 have c5:aveq (.int .i64 ((d+1:Nat):Int)) (.int .i64 ((d+1:Nat):Int))=true:=by
  have:keq .i64 .i64=true:=by rw[xP];simp
  simp only[aveq,this,Bool.true_and,xQ];simp
 have c6: ¬(((0:Nat):Int)≠((0:Nat):Int)):=by omega
 simp(maxSteps:=999999)(disch:=omega) only[f128,ZR,zI8,bVs,bRs,show ∀(e:TypeId) (l:List AV),bxV e (.agg l)=some (.cells l e 1 false,fun A=> .ptr A 0)from fun _ _=>rfl,b1,b2,a3.bd.ld,KM,wrap_i64,Int.ofNat_eq_natCast,c3,e3,Y.bd.ld,Y.bt.ld,a8,(fun K=>wC rfl c5: ∀K:Rs,chk (some (AV.int .i64 ((d+1:Nat):Int))) (.int .i64 ((d+1:Nat):Int)) K=K),zFq,c4,decide_false,zGg,zL,qC,jQ a5,zNy,zZ,e4,jM,nth,b5,b8,zFn,c6];rfl
theorem Cl.stb {H0 H H':AH}{At a K V A e:Nat}{ed:Ed}{f i j o p B6 d:Nat}{l:List AV}(h:Cl H0 H At a K V ed f i j o p B6 d)(q:H.ok)(t:H.h.get A=some (.cells l e 1 false))(hl:l.length=4)(s:Stp (fun B=>B=A) H H'):Cl H0 H' At a K V ed f i j o p B6 d:=by
 have m: ∀ {B:Nat} {x:AV},Box H B x->Box H' B x:=fun {B x} hb=>hb.mono q s (fun e=>by
  obtain⟨_,hb⟩:=hb;rw[e,t]at hb;simp only[zB,AObj.cells.injEq]at hb;rw[hb.1]at hl;simp at hl)
 exact⟨m h.bd,m h.bt,m h.be,m h.bk,m h.bf,m h.bc,h.eb,h.fr,h.n1,h.n2,h.n3,h.n4,h.n5⟩
theorem zOX {H0:AH}{At Ac F M0 K V:Nat}{ed:Ed}{B1 B2 B3 B4 B5 B6:Nat}{dk o2 dr:AV}{root:Ptr}{es:List (AV×AV)}{q:PN}{c4:Nat}(ti:TI E H0 At M0 dk o2 root es q c4 dr)(hold: ∀kv∈es,∀B,xX kv.2 B->B<H0.next)(d7: ∀kv∈es,∀B,xX kv.2 B-> ¬X B)(hq: ∀s nd,jV s q=some nd->s<=c4)(ho:ed.ok):
  ∀(h M n:Nat),200000000+h<=M->200000000<=n-> ∀ {H:AH} {d b1:Nat} {N:Ptr} {d8:List (AV×AV)} {f:PN} {g:AV} {gl:List Ptr} {nd:Nd.Node} {t:Bt.Tr h} {S:List Ptr} {lo hi:Bd},
   Ch X H0 H At Ac F d8 f g gl c4 b1->Cl H0 H At Ac K V ed B1 B2 B3 B4 B5 B6 d->Qf E q [] N=some nd->kU (Qf E q []) h nd t S->Gen h lo hi t->wI h t<=500->(0<h->nd.keys≠[])->zIe lo ed.key->hiB hi ed.key->d+h+1<=8192->b1+6*h<=600000000->gl.length+2*(h+1)<=b1+1000->
   ∃u e g' H',f128 (dy (M+1)) n [.agg (jR N), .ptr B1 0, .ptr B2 0, .ptr B3 0, .ptr B4 0, .ptr B5 0, .ptr B6 0] H=some (.tuple [u, .int .i64 ((e:Nat):Int)],H')/\Stp (fun B=>chg Ac F g B\/B=B1) H H'/\(∃l,u= .agg l/\l.length=4/\jP l=true)/\
    match ed.run (con h t)with
    | none=>e=5
    | some c'=>e=0/\zPl E X H0 H H' At Ac F K V ed B1 B2 B3 B4 B5 B6 d q f g g' gl c4 b1 h lo hi t S N u c':=by
 intro h
 induction h with
 | zero=>
  intro M n hM hn H d b1 N d8 f g gl nd t S lo hi ch cl hs rn wg hz _ d9 e0 hd hb o3;obtain⟨rfl,rfl⟩:=rn;obtain⟨lv,W,A8,L,H6,e6,v,a7,c6,⟨r,c7,a2,o4⟩,g7,g8,a3,m7,m8,o5,o6,l4,l5,c2⟩:=zCo M n hn ti hold d7 ch cl hs (by omega);have N0:=ch.prs.next;have o7:=ch.ltC;have N6:=c2.next
  have o8:wM (t:Kvs)<=10000:=by simp only[wI]at hz;omega
  obtain⟨u,H7,e7,_,O,w7⟩:=zJp M n (by omega) v.prs.ok c6.1 wg o8 ho (a7.eb.prs ti.ok v.prs);obtain⟨lu,rfl,o9,h5⟩:=w7.1.cells;have p1:=v.step O;have h6:=a7.prs v.prs.ok O;have b7:=zRn O v.prs.ok a3;obtain⟨Y,e8,a5,s8,n8⟩:=jW O.ok b7 (l':=lu) (by omega) h5;have p2:stN 4 (.ptr L 0) (.agg lu) H7=some (jO,Y):=by rw[a2]at e8;exact e8
  have b3:=h6.stb O.ok b7 a2 s8;have p3:xL X H7 g (.agg lu) (edL ed t).1:=vT.hand v (zQ _) w7;rw[c7]at b7;have a0:=p1.stb b7 s8 (by omega) (by omega);have h7:=p3.stb b7 s8;have N7:=O.next;have N8:=s8.next
  have b4:Y.h.get W=some (.cells (jR N) 42 1 false):=by rw[s8.keep _ (by have:=v.prs.ok.lt g7;omega) (by omega)];exact zRn O v.prs.ok g7
  have a8:Y.h.get A8=some (.cells [.bool false, .nilSlice, .nilSlice, .nilSlice] 119 1 false):=by rw[s8.keep _ (by have:=v.prs.ok.lt g8;omega) (by omega)];exact zRn O v.prs.ok g8
  have S8:Stp (fun B=>chg Ac F g B\/B=B1) H Y:=⟨s8.ok,by omega,fun B m y=>by
   rw[s8.keep B (by omega) (by omega),O.keep B (by omega) (fun x=>x),c2.keep B m (fun e=>y (.inr e))]⟩
  have p4: ¬(((0:Nat):Int)≠((0:Nat):Int)):=by omega
  have p5:(leafOf (t:Kvs)).leaf=true:=rfl;have run: ∀ {x:Option (AV×AH)} {code:Nat},(edL ed t).2=code->dH (dB (dy (M+1)) n [.ptr B6 0, .ptr W 0, .ptr A8 0, .ptr L 0, .int .i64 ((code:Nat):Int)] Y)=x->f128 (dy (M+1)) n [.agg (jR N), .ptr B1 0, .ptr B2 0, .ptr B3 0, .ptr B4 0, .ptr B5 0, .ptr B6 0] H=x:=by
   intro x code hc T;rw[hc]at e7;rw[e6];simp(maxSteps:=999999)(disch:=omega) only[zOY,eZ,jL a3,c7,p5,a7.be.ld];simp(maxSteps:=999999)(disch:=omega) only[eZ,bY a3 a2,e7,jM,nth,p2];exact T
  cases hr:ed.run t with
  | none=>
   have c8:edL ed t=(nd0,5):=by simp only[edL,hr]
   obtain⟨H9,e9,z⟩:=zGQ (dy (M+1)) n (B6:=B6) (.ptr W 0) (.ptr L 0) a0.prs.ok a8 (e:=5) (by decide);refine⟨.agg [.bool false, .nilSlice, .nilSlice, .nilSlice],5,g,H9,run (by rw[c8]) (by rw[e9];rfl),⟨z.ok,by have:=z.next;omega,fun B m y=>by rw[z.keep B (by omega) (by omega)];exact S8.keep B m y⟩,⟨_,rfl,rfl,rfl⟩, ?_⟩
   simp only[con,hr]
  | some l'=>
   have c8:edL ed t=(leafOf l',0):=by simp only[edL,hr]
   rw[c8]at h7;obtain⟨g',H9,e9,e2,e3,p6,z,b9⟩:=zGP (dy (M+1)) n a0 b3 b4 a8 a5 h7 (by omega) (by omega) (by omega) (by omega) (by omega) (by omega);obtain⟨w1,w2⟩:=Ed.leaf wg d9 e0 ho hr;refine⟨.agg lu,0,g',H9,run (by rw[c8]) (by rw[e9];rfl),⟨z.ok,by have:=z.next;omega,fun B m y=> ?_⟩,⟨_,rfl,o9,h5⟩, ?_⟩
   .rw[z.keep B (by omega) (fun T=>by
     rcases T with T | T
     .exact y (.inl T)
     .omega)]
    exact S8.keep B m y
   .simp only[con,hr];refine⟨trivial,_,_,_,_,_,_,[],[N],[],[],l',e2,e3,p6,⟨rfl,rfl⟩,⟨w1,by simp only[wI]at hz;omega⟩,rfl,fun hh=>absurd hh (by omega),rfl,by simp,by omega,by omega,by omega,by simp,by simp,by simp,by simp,fun _ _ hp=>hp,fun B m=> ?_⟩;rcases b9 B m with e | e
    .exact .inl e
    .exact .inr (by omega)
 | succ h ih=>
  intro M n hM hn H d b1 N d8 f g gl nd t S lo hi ch cl hs rn wg hz c3 d9 e0 hd hb o3;obtain⟨r1,r2,r3,r4⟩:=rn;obtain⟨w1,w2,w3⟩:=id wg;have v0:=w3.len;have k0:=r4.len;obtain⟨lv,W,A8,L,H6,e6,v,a7,c6,⟨r,c7,a2,o4⟩,g7,g8,a3,m7,m8,o5,o6,l4,l5,c2⟩:=zCo M n hn ti hold d7 ch cl hs (by omega);have N0:=ch.prs.next;have o7:=ch.ltC;have N6:=c2.next
  have p9:wP t.1 t.2.length<=500:=hz;have q0:small nd:=xN (by
   have:Nd.size nd=wI (h+1) t:=kU.size (Q:=Qf E q []) (S:=S) ⟨r1,r2,r3,r4⟩;rw[this];simp only[wI];omega)
  have h8:Nd.whereN nd ed.key=kB t.1 ed.key:=dS r1 r2 _;have l6:kB t.1 ed.key<=t.1.length:=fD _ _;have h9:kB t.1 ed.key<t.2.length:=by omega
  obtain⟨sA,sB⟩:=KT (key:=ed.key) (ks:=t.1) (ts:=t.2) wg;have i0:=zA5 (lo:=lo) w2 d9;have i1:=zA6 (hi:=hi) w2 e0;generalize u9:kB t.1 ed.key=i at h8 l6 h9 sA sB i0 i1;have c9:=zJ h9;obtain⟨pk,q5,Sa,Si,Sb,k1,k2,k3,k4,k5,k6⟩:=r4.at c9;have q6:=k2;have wk:=KB.at w3 c9;have q7:0<h->q5.keys≠[]:=fun hh=>by
   cases h with
   | zero=>omega
   | succ h=>
    have:=WY wk;rw[k3.2.1];intro e;rw[e]at this;simp at this
  obtain⟨H7,e7,O⟩:=Q6 (dy (M+1)) n hn v.prs.ok (key:=ed.key) c6.1.node q0;rw[h8]at e7;obtain⟨Y,e4,b8,p8,i2,v5,q8⟩:=box O.ok (.cells [.bool false, .nilSlice, .nilSlice, .nilSlice] 119 1 false);have a9:=O.trans p8;have a0:=v.step a9;have b3:=a7.prs v.prs.ok a9;have h6:=a7.prs v.prs.ok O;have a1:=c6.prs a9;have b4:=zRn a9 v.prs.ok g7;have a8:=zRn a9 v.prs.ok g8;have a5:=zRn a9 v.prs.ok a3;obtain⟨ks,q9,ps,i3,j1,j2,j3⟩:=id a1.1;simp only[AV.agg.injEq]at i3;obtain⟨qk,ik,i4⟩:=vS.at (l:=nd.kids) j3.row (i:=i) (by omega);have r0:nd.kids[i]'(by omega)=pk:=by
   rw[zJ (by omega)]at k1;exact yD k1
  rw[r0]at i4;have N7:=O.next;have N8:=p8.next
  obtain⟨Z,rfl⟩: ∃Z,M=Z+1:=⟨M - 1,by omega⟩;obtain⟨u1,e1,g1,H9,e9,z,⟨l1,rfl,i5,r5⟩,b2⟩:=ih Z (Z+1) (by omega) (by omega) a0 b3 q6 k3 wk.gen wk.sz q7 i0 i1 (by omega) (by omega) (by omega);have b5: ∀ {A:Nat} {o:AObj},Y.h.get A=some o->A<Y.next:=fun J=>a0.prs.ok.lt J
  have np: ∀ {A:Nat} {l:List AV} {e:Nat},Y.h.get A=some (.cells l e 1 false)->l.length≠1->A≠Ac-> ¬(chg Ac F g A\/A=B1):=fun {A l e} J hl c3 hc=>by
   rcases hc with(e | e | e) | e
   .exact c3 e
   .rw[e,a0.gF]at J;cases J
   .rw[a0.gg.get e]at J;simp at J
   .obtain⟨_,hb⟩:=b3.bd;rw[e,hb]at J;simp only[zB,AObj.cells.injEq]at J;rw[<-J.1]at hl;simp at hl
  have r6:lv.length≠1:=by omega
  have r7:H9.h.get W=some (.cells (jR N) 42 1 false):=by rw[z.keep _ (b5 b4) (np b4 (by simp[jR]) (by omega))];exact b4
  have r8:H9.h.get A8=some (.cells [.bool false, .nilSlice, .nilSlice, .nilSlice] 119 1 false):=by rw[z.keep _ (b5 a8) (np a8 (by simp) (by omega))];exact a8
  have l7:H9.h.get L=some (.cells lv 119 1 false):=by rw[z.keep _ (b5 a5) (np a5 r6 (by omega))];exact a5
  have c0:H9.h.get e4=some (.cells [.bool false, .nilSlice, .nilSlice, .nilSlice] 119 1 false):=by rw[z.keep _ q8 (np i2 (by simp) (by omega))];exact i2
  obtain⟨U,r9,k7,s10,v6⟩:=jW z.ok c0 (l':=l1) i5 r5;have l8:stN 4 (.ptr e4 0) (.agg l1) H9=some (jO,U):=r9;have N9:=z.next;have v7:=s10.next
  have t7:=b5 b4;have t8:=b5 a8;have v8:=b5 a5;have v9:v.prs.ok.lt g7=v.prs.ok.lt g7:=rfl;have u7:=v.prs.ok.lt g7;have u8:=v.prs.ok.lt g8;have w0:=v.prs.ok.lt a3;have g4:U.h.get W=some (.cells (jR N) 42 1 false):=by rw[s10.keep _ (by omega) (by omega)];exact r7
  have d4:U.h.get A8=some (.cells [.bool false, .nilSlice, .nilSlice, .nilSlice] 119 1 false):=by rw[s10.keep _ (by omega) (by omega)];exact r8
  have d2:U.h.get L=some (.cells lv 119 1 false):=by rw[s10.keep _ (by omega) (by omega)];exact l7
  have i6:Stp (fun B=>chg Ac F g B\/B=B1) H U:=⟨s10.ok,by omega,fun B m y=>by
   rw[s10.keep B (by omega) (by omega),z.keep B (by omega) y,a9.keep B (by omega) (fun x=>x),c2.keep B m (fun e=>y (.inr e))]⟩
  have a6:=Ed.run_mid ed (A:=(t.2.take i).flatMap (con h)) (C:=con h t.2[i]) (B:=(t.2.drop (i+1)).flatMap (con h)) sA sB;have l9:con (h+1) t=(t.2.take i).flatMap (con h)++con h t.2[i]++(t.2.drop (i+1)).flatMap (con h):=by
   have:t.2=t.2.take i++[t.2[i]]++t.2.drop (i+1):=zEf c9;simp only[con]
   conv=>lhs;rw[this]
   simp only[yZ,qG,List.flatMap_nil,qX]
  rw[<-l9]at a6;have p4: ¬(((0:Nat):Int)≠((0:Nat):Int)):=by omega
  have i7:lv=[.bool nd.leaf,ks,q9,ps]:=i3;have head: ∀ {x:Option (AV×AH)},dH (jn (bV (kI .eql (.int .i64 ((e1:Nat):Int)) (.int .i64 (.ofNat 0))) fun s0=>jn (cnd s0 (bV (ld1 (.ptr B6 0) U) fun s1=>bV (ldN 4 (.ptr L 0) U) fun s2=>bV (ldN 4 (.ptr e4 0) U) fun s3=>bR (f129 (dy (Z+1+1)) n [s1,s2, .int .i64 (i:Nat),s3] U) fun i8 H=>
    bV (jM i8 0) fun s4=>bV (jM i8 1) fun s5=>bR (stN 4 (.ptr L 0) s4 H) fun _ H=>some (.norm [.ptr B6 0, .ptr W 0, .ptr A8 0, .ptr L 0,s5],H)) (some (.norm [.ptr B6 0, .ptr W 0, .ptr A8 0, .ptr L 0, .int .i64 ((e1:Nat):Int)],U))) (ZC (dy (Z+1+1)) n)) (dB (dy (Z+1+1)) n))=x->
    f128 (dy (Z+1+1)) n [.agg (jR N), .ptr B1 0, .ptr B2 0, .ptr B3 0, .ptr B4 0, .ptr B5 0, .ptr B6 0] H=x:=by
   intro x T;rw[e6,<-T];have h0:ld1 (.ptr L 0) H6=some (.bool false):=by rw[jL a3,i7,r1];rfl
   have h3:ld1 (.ptr L 3) Y=some ps:=by rw[jL a5,i7];rfl
   simp(maxSteps:=999999)(disch:=omega) only[zOY,eZ,h0,bY a3 a2,a7.bk.ld,e7,b8,b3.bf.ld,h3,ik,i4,zLY,e9,jM,nth,l8]
  cases hr:ed.run (con h t.2[i])with
  | none=>
   rw[hr]at b2 a6;simp only[Option.map_none]at a6;have b2:e1=5:=b2;subst b2;obtain⟨b6,e5,f3⟩:=zGQ (dy (Z+1+1)) n (B6:=B6) (.ptr W 0) (.ptr L 0) s10.ok d4 (e:=5) (by decide);have h50: ¬((5:Nat):Int)=((0:Nat):Int):=by omega
   refine⟨.agg [.bool false, .nilSlice, .nilSlice, .nilSlice],5,g,b6,head ?_,⟨f3.ok,by have:=f3.next;omega,fun B m y=>by rw[f3.keep B (by omega) (by omega)];exact i6.keep B m y⟩,⟨_,rfl,rfl,rfl⟩, ?_⟩
   .simp(maxSteps:=999999)(disch:=omega) only[eZ,h50,ZC,e5]
   .rw[a6]
  | some c1=>
   rw[hr]at b2 a6;simp only[zZ]at a6;obtain⟨rfl,v1,f1,i9,f8,d1,s6,S1,G1,R1,s7,t1,e2,e3,t0,j0,t3,m0,t4,g5,w4,w5,v2,w6,j4,g6,m1,j5,k8,f4⟩:=b2;have c5:=e2.stb c0 s10 (by omega) (by omega);have g9:=e3.stb z.ok c0 rfl s10;have m2:=t0.stb c0 s10;have t5:xL X H9 g1 (.agg lv) nd:=⟨a1.1.stp z (fun B m hc=>by
    rcases hc with(e | e | e) | e
    .subst e;exact a1.1.nblk a0.gC (.inl ⟨_,_,_,_,rfl,fun _ _ e=>by cases e⟩) m
    .subst e;exact a1.1.nblk a0.gF (.inr (.inl ⟨_,_,rfl⟩)) m
    .exact(a1.2 B m).1 e
    .obtain⟨_,hb⟩:=b3.bd;subst e;exact a1.1.nblk hb (.inl ⟨_,_,_,_,rfl,fun _ _ e=>by cases e⟩) m),fun B m=>⟨fun J=>by
    rcases f4 B J with e | e
    .exact(a1.2 B m).1 e
    .have:=a1.1.lt m;omega,(a1.2 B m).2⟩⟩
   have m3:=t5.stb c0 s10;have m4:0<h->s6.keys≠[]:=fun hh=>by
    have f5:=t4 hh
    cases h with
    | zero=>omega
    | succ h=>
     have:=WY wk;simp only[VW]at f5;rw[j0.2.1];intro e;rw[e]at f5;simp at f5;omega
   have v3:i9.length=gl.length+G1.length:=by rw[g5,zT]
   obtain⟨u2,b6,m5,f2,g2,j6,f9,t6,t2,S2,G2,R2,e5,d5,a4,h1,m6,t9,k9,w8,u0,w9,x0,h2,j7,h4,l0,x3⟩:=zFR (Z+1) n hn ti hold d7 hq c5 m3 m2 r1 r2 r3 k0 wg (by rw[<-r2];exact c3 (by omega)) p9 c9 k4 k5 j0 t3 m4 (by omega) (by omega);obtain⟨l2,rfl,u3,j8⟩:=h1.1.cells;have d6: ∀ {A:Nat} {l:List AV} {e:Nat},U.h.get A=some (.cells l e 1 false)->A≠Ac-> ¬chg Ac F g1 A:=fun {A l e} J c3 hc=>by
    rcases hc with e | e | e
    .exact c3 e
    .rw[e,c5.gF]at J;cases J
    .rw[c5.gg.get e]at J;simp at J
   have x4:=a4.1.next
   have m9:b6.h.get W=some (.cells (jR N) 42 1 false):=by rw[a4.1.keep _ (by omega) (d6 g4 (by omega))];exact g4
   have n0:b6.h.get A8=some (.cells [.bool false, .nilSlice, .nilSlice, .nilSlice] 119 1 false):=by rw[a4.1.keep _ (by omega) (d6 d4 (by omega))];exact d4
   have d3:b6.h.get L=some (.cells lv 119 1 false):=by rw[a4.1.keep _ (by omega) (d6 d2 (by omega))];exact d2
   obtain⟨f6,j9,l3,b0,x5⟩:=jW d5.prs.ok d3 (l':=l2) (by omega) j8;have n1:stN 4 (.ptr L 0) (.agg l2) b6=some (jO,f6):=by rw[a2]at j9;exact j9
   have n2:=g9.keep c5 a4.1;have n3:=n2.stb d5.prs.ok d3 a2 b0;have d0:=d3;rw[c7]at d0;have n4:=d5.stb d0 b0 (by omega) (by omega);have n5:=h1.stb d0 b0;have x6:=b0.next
   have n6:f6.h.get W=some (.cells (jR N) 42 1 false):=by rw[b0.keep _ (by omega) (by omega)];exact m9
   have n7:f6.h.get A8=some (.cells [.bool false, .nilSlice, .nilSlice, .nilSlice] 119 1 false):=by rw[b0.keep _ (by omega) (by omega)];exact n0
   have v4:j6.length=i9.length+G2.length:=by rw[h2,zT]
   obtain⟨g3,u4,u5,n9,o0,o1,f7,u6⟩:=zGP (dy (Z+1+1)) n n4 n3 n6 n7 l3 n5 (by omega) (by omega) (by omega) (by omega) (by omega) (by omega);have g0: ∀B,Blk g2 B->Blk g B\/Y.next<=B:=fun B m=>by
    rcases a4.2 B m with e | e
    .exact f4 B e
    .exact .inr (by omega)
   refine⟨.agg l2,0,g3,u4,head ?_,⟨f7.ok,by have:=f7.next;omega,fun B m y=> ?_⟩,⟨_,rfl,u3,j8⟩, ?_⟩
   .simp(maxSteps:=999999)(disch:=omega) only[eZ,g9.bc.ld,bY d2 a2,bY k7 i5,e5,jM,nth,n1,ZC,u5]
   .rw[f7.keep B (by omega) (fun T=>by
     rcases T with(e | e | e) | e
     .exact y (.inl (.inl e))
     .exact y (.inl (.inr (.inl e)))
     .rcases g0 B e with e | e
      .exact y (.inl (.inr (.inr e)))
      .omega
     .omega),b0.keep B (by omega) (by omega),a4.1.keep B (by omega) (fun T=>by
     rcases T with e | e | e
     .exact y (.inl (.inl e))
     .exact y (.inl (.inr (.inl e)))
     .rcases f4 B e with e | e
      .exact y (.inl (.inr (.inr e)))
      .omega)]
    exact i6.keep B m y
   .rw[a6];refine⟨rfl,m5,f2,j6++[N],f9,d1,t6,S2,G1++G2++[N],R2++R1,pps f8 (f9 - f8)++s7,t2,n9,o0,o1,m6,⟨t9,by omega⟩,by rw[k9,m0],fun _=>by simp only[VW];exact u0,by rw[h2,g5];simp,by simp;omega,by omega,by omega,by omega, ?_, ?_, ?_, ?_,fun p nd hp=>l0 p nd (k8 p nd hp),fun B m=> ?_⟩
    .rw[List.perm_iff_count]at j4 j7⊢;intro a;have x1:=j4 a;have x2:=j7 a;simp only[List.count_append]at x1 x2⊢;omega
    .rw[k6];rw[List.perm_iff_count]at g6 h4⊢;intro a;have x1:=g6 a;have x2:=h4 a;simp only[List.count_append,List.count_cons,List.count_nil]at x1 x2⊢;omega
    .rw[List.nodup_append];refine⟨WP _ _,m1,fun a ha b hb e=> ?_⟩;obtain⟨j,rfl,q1,q2⟩:=ZM ha;obtain⟨j',e',q3,q4⟩:=j5 b hb;rw[e']at e;have:=JC e;omega
    .intro p hp;rcases qB.1 hp with hp | hp
     .obtain⟨j,rfl,q1,q2⟩:=ZM hp;exact⟨j,rfl,by omega,by omega⟩
     .obtain⟨j,rfl,q1,q2⟩:=j5 p hp;exact⟨j,rfl,by omega,by omega⟩
    .rcases u6 B m with e | e
     .rcases g0 B e with e | e
      .exact .inl e
      .exact .inr (by omega)
     .exact .inr (by omega)
end Go.Eng.Sh
end
section
set_option maxRecDepth 20000
namespace Go.Eng
theorem zEK {t:T AObj} : ∀(n A:Nat),(∀C,A<=C->t.get C=none)->zG5 t A n=true
 | 0,_,_=>rfl
 | n+1,A,h=>by
  simp only[zG5,h A (zQ _),kD];exact zEK n _ fun C a=>h C (by simp only[Nat.succ_eq_add_one]at a;omega)
theorem zE3: ∀ {l e:List (AV×AV)},(∀x∈l,xJ x.1 e=none)->l.Pairwise (fun a b=>aveq b.1 a.1=false)->U5 e l=e++l
 | [],e,_,_=>by simp[U5]
 | x::l,e,h,hp=>by
  rw[yM]at hp;have f:ups e x=e++[x]:=by
   obtain⟨k,v⟩:=x;simp only[ups,Sh.setA_none (h (k,v) (zK ..))]
  have j: ∀ {k:AV} {a b:List (AV×AV)},xJ k a=none->xJ k b=none->xJ k (a++b)=none:=by
   intro k a b
   induction a with
   | nil=>intro _ h;exact h
   | cons c a ih=>
    intro f m;simp only[qF,xJ]at f⊢
    cases e:aveq k c.1 with
    | true=>rw[e]at f;cases f
    | false=>rw[e]at f;simp only[qH]at f⊢;exact ih f m
  simp only[U5,f];rw[zE3 (l:=l) (fun y i=>j (h y (zC _ i)) (by
   simp only[xJ,hp.1 y i,qH])) hp.2]
  simp
end Go.Eng
namespace Go.Eng.Sh
open Go.Nd (Ptr sumL)
open Go.Bt
def cW:PN->List Ptr->PN
 | q,[]=>q
 | q,p::gl=>cW (if p.at_=1 then zFe p.sum.toNat q else q) gl
theorem J1: ∀(gl:List Ptr) (q:PN) (p:Ptr),cW q (gl++[p])=if p.at_=1 then zFe p.sum.toNat (cW q gl)else cW q gl
 | [],_,_=>rfl
 | _::gl,q,p=>by simp only[qF,cW,J1 gl]
theorem zFd (s:Nat): ∀q:PN,(zFe s q).length<=q.length
 | []=>zQ _
 | (t,n)::q=>by
  simp only[zFe];split
  .simp
  .have:=zFd s q;simp;omega
theorem zFc (s:Nat): ∀ {q:PN} {x:Nat×Nd.Node},x∈zFe s q->x∈q
 | [],_,h=>h
 | (t,n)::q,x,h=>by
  simp only[zFe]at h;split at h
  .exact zC _ h
  .rcases zP.1 h with h | h
   .exact h▸zK ..
   .exact zC _ (zFc s h)
theorem zBS {s t:Nat}(h:s≠t): ∀q:PN,jV s (zFe t q)=jV s q
 | []=>rfl
 | (a,n)::q=>by
  simp only[zFe];split
  .rename_i e;simp only[jV];rw[if_neg (fun f=>h (f.symm.trans e))]
  .simp only[jV,zBS h q]
theorem V7 {s:Nat} : ∀ {q:PN},jV s q=none->zFe s q=q
 | [],_=>rfl
 | (a,n)::q,h=>by
  simp only[jV]at h;split at h
  .cases h
  .rename_i e;simp only[zFe,if_neg e,V7 h]
theorem V6 {H:AH}{s:Nat} : ∀ {es:List (AV×AV)} {q:PN},uF H es q->jV s q=none->zJx (.int .u64 (s:Nat)) es=none
 | [],[],_,_=>rfl
 | (k,v)::es,(t,nd)::q,h,hl=>by
  obtain⟨⟨rfl,_⟩,a⟩:=h;simp only[jV]at hl;split at hl
  .cases hl
  .rename_i e;have f: ¬s=t:=fun h=>e h.symm
   simp only[zJx,zM8,f,decide_false,qH,V6 a hl]
 | [],_::_,h,_=>h.elim
 | _::_,[],h,_=>h.elim
theorem BO {s:Nat} : ∀ {gl:List Ptr} {q:PN},(∀p∈gl,p.at_=1->s≠p.sum.toNat)->jV s (cW q gl)=jV s q
 | [],_,_=>rfl
 | p::gl,q,h=>by
  rw[cW,BO fun p hp=>h p (zC _ hp)];by_cases e:p.at_=1
  .rw[if_pos e,zBS (h p (zK ..) e)]
  .rw[if_neg e]
theorem Y0: ∀ {gl:List Ptr} {q:PN} {x:Nat×Nd.Node},x∈cW q gl->x∈q
 | [],_,_,h=>h
 | p::gl,_,_,h=>by
  have a:=Y0 (gl:=gl) h;split at a
  .exact zFc _ a
  .exact a
theorem Y1: ∀(gl:List Ptr) (q:PN),(cW q gl).length<=q.length
 | [],_=>zQ _
 | p::gl,q=>by
  refine qP (Y1 gl _) ?_;split
  .exact zFd _ q
  .exact zQ _
theorem xV {s:Nat}{nd:Nd.Node} : ∀ {q:PN},jV s q=some nd->(s,nd)∈q
 | [],h=>by cases h
 | (t,n)::q,h=>by
  simp only[jV]at h;split at h
  .rename_i e;subst e;simp only[zB]at h;subst h;exact zK ..
  .exact zC _ (xV h)
theorem uF.keys {H:AH} : ∀ {es:List (AV×AV)} {q:PN},uF H es q-> ∀kv∈es,∃s,kv.1= .int .u64 ((s:Nat):Int)/\s∈q.map Prod.fst
 | [],[],_,_,h=>by simp at h
 | (k,v)::es,(t,nd)::q,hq,kv,a=>by
  rcases zP.1 a with rfl | a
  .exact⟨t,hq.1.1,by simp⟩
  .obtain⟨s,f,i⟩:=uF.keys hq.2 kv a;exact⟨s,f,zC _ i⟩
 | [],_::_,h,_,_=>h.elim
 | _::_,[],h,_,_=>h.elim
theorem uF.dist {H:AH} : ∀ {es:List (AV×AV)} {q:PN},uF H es q->(q.map Prod.fst).Nodup->es.Pairwise (fun a b=>aveq b.1 a.1=false)
 | [],[],_,_=>List.Pairwise.nil
 | (k,v)::es,(t,nd)::q,hq,hd=>by
  simp only[yH,List.nodup_cons]at hd;rw[yM];refine⟨fun kv f=> ?_,uF.dist hq.2 hd.2⟩;obtain⟨s,i,j⟩:=uF.keys hq.2 kv f;rw[i,hq.1.1,zM8,yP];intro e;subst e;exact hd.1 j
 | [],_::_,h,_=>h.elim
 | _::_,[],h,_=>h.elim
theorem uF.append {H:AH}{es':List (AV×AV)}{a:PN}(f:uF H es' a): ∀ {es:List (AV×AV)} {q:PN},uF H es q->uF H (es++es') (q++a)
 | [],[],_=>f
 | _::es,_::q,h=>⟨h.1,uF.append f h.2⟩
 | [],_::_,h=>h.elim
 | _::_,[],h=>h.elim
theorem uF.isAg {H:AH}{es:List (AV×AV)}{q:PN}(h:uF H es q):es.all (fun e=>keyOk [10] e.1&&Eng.isAg 4 e.2)=true:=by
 rw[y9];intro kv a;obtain⟨s,f,_⟩:=h.keys kv a;obtain⟨nd,i⟩:=h.mem kv a;obtain⟨l,j,m,o⟩:=i.cells;rw[f,j,zQm,Bool.true_and];simp only[Eng.isAg,jX,m,o,yF,qN]
noncomputable def AH.putB (H:AH)(A:Nat)(o:AObj)(k:Nat):AH:=⟨(H.put A o).h,H.next+k⟩
theorem zL1 {H:AH}(i:H.ok){A:Nat}(m:A<H.next)(o:AObj)(k:Nat):Stp (fun B=>B=A) H (AH.putB H A o k)/\(AH.putB H A o k).h.get A=some o:=by
 have a: ∀B,(AH.putB H A o k).h.get B=if B=A then some o else H.h.get B:=fun B=>zRc H A o B
 refine⟨⟨fun B f=> ?_, ?_,fun B _ j=> ?_⟩, ?_⟩
 .have f:H.next+k<=B:=f
  rw[a,if_neg (by omega)];exact i B (by omega)
 .show H.next<=H.next+k;omega
 .rw[a,if_neg j]
 .rw[a,if_pos rfl]
theorem zKu {H:AH}(j:H.ok){F M:Nat}{a es:List (AV×AV)}{f:PN}(m:H.h.get F=some (.map [10] a))(o:H.h.get M=some (.map [10] es))(i:F≠M)(hp:uF H a f):
  zNn [10] 1 (isAg 4) (.map F) (.map M) H=some (AH.putB H M (.map [10] (U5 es a)) (1+1*a.length)):=by
 have hb:Nat.beq F M=false:=by rw[y8];intro h;exact i (Nat.eq_of_beq_eq_true h)
 simp only[zNn,m,o,show QX [10] [10]=true from rfl,hb,hp.isAg,Bool.not_false,qN,zM,kD,zEK _ _ j,kO,AH.putB,zRa,Nat.add_assoc]
end Go.Eng.Sh
end
section
set_option maxRecDepth 20000
namespace Go.Eng.Sh
open Go.Nd (Ptr sumL)
open Go.Bt
variable {E:Ev}
def Ev.drop (E:Ev)(gl:List Ptr):Ev:=⟨E.nb,E.ws,E.dl++gl.filter fun p=>decide (p.at_≠1)⟩
theorem zF6 (E:Ev)(gl:List Ptr):(E.drop gl).dl.length<=E.dl.length+gl.length:=by
 simp only[Ev.drop,zT];have:=List.length_filter_le (fun p:Ptr=>decide (p.at_≠1)) gl;omega
theorem TI.dks {S:Nat->Prop}{H H':AH}{At M u:Nat}{d c p:AV}{root:Ptr}{es:List (AV×AV)}{q:PN}(h:TI E H At M d c root es q u p)(s:Stp S H H')(f: ∀B,S B->B=At\/B=M\/Blk p B\/H.next<=B): ∃Ad i j m o,d= .ptr Ad 0/\DkI H' Ad E.nb E.ws i j m o:=by
 obtain⟨Ad,i,j,m,o,rfl,hd⟩:=h.dk;have t: ∀ {B:Nat} {ks:List Nat} {x:List (AV×AV)},ks≠[10]->H.h.get B=some (.map ks x)-> ¬S B:=fun {B ks x} v g a=>by
  rcases f B a with e | e | e | e
  .rw[e,h.gT]at g;cases g
  .rw[e,h.gM]at g;simp only[zB,AObj.map.injEq]at g;exact v g.1.symm
  .exact zRk h.dg g (fun _ _ e=>by cases e) e
  .have:=h.ok.lt g;omega
 refine⟨Ad,i,j,m,o,rfl,hd.stp h.ok s (fun a=> ?_) (t (by decide) hd.gO) (t (by decide) hd.gN) fun B y a=> ?_⟩
 .rcases f Ad a with e | e | e | e
  .have g:=hd.gD;rw[e,h.gT]at g;simp[xE]at g
  .have g:=hd.gD;rw[e,h.gM]at g;cases g
  .exact zRk h.dg hd.gD (fun _ _ e=>by simp at e) e
  .have:=h.ok.lt hd.gD;omega
 .have g:=hd.ow.get y;rcases f B a with e | e | e | e
  .rw[e,h.gT]at g;simp at g
  .rw[e,h.gM]at g;cases g
  .exact zRk h.dg g (fun _ _ e=>by simp at e) e
  .have:=h.ok.lt g;omega
theorem zQI {H:AH}{M s:Nat}{es:List (AV×AV)}{q:PN}(f:H.ok)(a:H.h.get M=some (.map [10] es))(hp:uF H es q):
  ∃es' H',dlM [10] (.map M) (.int .u64 (s:Nat)) H=some (.tuple [],H')/\H'.h.get M=some (.map [10] es')/\uF H' es' (zFe s q)/\Stp (fun B=>B=M) H H'/\ ∀kv∈es',kv∈es:=by
 cases hl:jV s q with
 | none=>
  refine⟨es,H, ?_,a,by rw[V7 hl];exact hp,zRf f,fun _ h=>h⟩;simp only[dlM,zQm,a,show QX [10] [10]=true from rfl,zM,V6 hp hl]
 | some nd=>
  obtain⟨es',m,o,p⟩:=hp.del s nd hl;have i:Stp (fun B=>B=M) H (H.put M (.map [10] es')):=(zRf f).put (f.lt a) _ (.inr rfl);refine⟨es',H.put M (.map [10] es'), ?_,by rw[zRc,if_pos rfl],o.frame fun kv u v j=>j.stp i fun B t e=> ?_,i,p⟩
  .simp only[dlM,zQm,a,show QX [10] [10]=true from rfl,zM,m,kO]
  .subst e;exact j.nblk a (.inr (.inl ⟨_,_,rfl⟩)) t
theorem XI {α:Type}(f:α->Bool)(l:List α)(a:α):(l++[a]).filter f=l.filter f++(if f a then[a]else[]):=by
 rw[jF];cases h:f a<;>simp[h]
theorem zJu (D:Dyn)(n:Nat){H0 H:AH}{At T F M:Nat}{d c N:AV}{K root:Ptr}{es:List (AV×AV)}{q:PN}{W:List (AV×AV)}{f:PN}{g:AV}{gl:List Ptr}{Y z:Nat}(t:TI E H0 At M d c K es q Y N)(hq: ∀s nd,jV s q=some nd->s<=Y)
  (u:Ch (Blk N) H0 H At T F W f g gl Y z) (h0: ∀p∈gl,0<=p.sum) (hl:z<=900000000) (y:gl.length<n) (k0:q.length<=Y) (k1:E.dl.length+gl.length<=900000000):
  ∃H' es' c9,f126 D n [.ptr T 0, .agg (jR root)] H=some (.tuple [],H')/\TI (E.drop gl) H' At M d c root es' (cW q gl++f) z c9/\Stp (fun B=>B=At\/B=M\/Blk N B) H0 H'/\ ∀B,Blk c9 B->Blk N B\/H0.next<=B:=by
 have h6:=t.prs u.prs;have j7:=u.few;obtain⟨Ad,od,hd⟩:=t.hd;obtain⟨H1,A3,b1,p1,g1,m1,n1⟩:=box u.prs.ok (.cells (jR root) 42 1 false);have a3:=u.step p1;have a5:=h6.prs p1;have j9:At<H0.next:=t.ok.lt t.gT
 have k2:M<H0.next:=t.ok.lt t.gM
 have f8: ∀B,Blk N B->B<H0.next:=fun B a=>t.dg.lt a
 have N0:=u.prs.next;have N1:=p1.next
 have cC:=u.dC;have cF:=u.dF;have lC:=u.ltC;have lF:=u.ltF;have a9:At≠M:=fun e=>by have:=t.gT;rw[e,t.gM]at this;cases this
 have nS: ∀B,H0.next<=B-> ¬(B=M\/B=At\/Blk N B):=fun B a h=>by
  rcases h with e | e | e
  .omega
  .omega
  .have:=f8 B e;omega
 have k3: ¬Blk N M:=zRk t.dg t.gM (fun _ _ e=>by cases e);have k4: ¬Blk N At:=zRk t.dg t.gT (fun _ _ e=>by simp at e);have d0: ∀kv∈es,∀B,xX kv.2 B->B<H0.next:=fun kv L B a=>by
  obtain⟨d4,b7⟩:=t.pq.mem kv L;exact b7.lt a
 have lp:=vJ (b:=cS D n) gl.length (fun i us H'=>us=[.ptr T 0, .ptr A3 0, .ptr At 0,g, .int .i64 (gl.length:Nat), .int .i64 (i:Nat)]/\Stp (fun B=>B=M\/B=At\/Blk N B) H1 H'/\ ∃a6 Z,H'.h.get M=some (.map [10] a6)/\uF H' a6 (cW q (gl.take i))/\H'.h.get At=some (.cells (xE d c K M Y Z) 140 1 false)/\
   kZ 3 42 H' Z (E.drop (gl.take i)).dl.length ((E.drop (gl.take i)).dl.flatMap jR)/\(∀B,Blk Z B->Blk N B\/H1.next<=B)/\ ∀kv∈a6,kv∈es) (fun i us H' hi ⟨h7,st,a6,Z,hM,hp,gT,dg,db,hes⟩=>by
  subst h7;have h8:gl[i]∈gl:=qY hi;obtain⟨p,d5⟩: ∃p,p=gl[i]:=⟨_,rfl⟩;have d6:=h0 _ h8;have og:Own 3 42 H' g gl.length (gl.flatMap jR):=a3.gg.mono st fun B a=>nS B (u.gN B a)
  obtain⟨pq,i1,i2⟩:=vS.at (l:=gl) og.row hi;rw[<-d5]at i2 d6;have b5:gl.take (i+1)=gl.take i++[p]:=by rw[qJ hi,d5]
  obtain⟨j,A6,b2,p2,g2,m2,n2⟩:=box st.ok (.cells [.int .i64 ((0:Nat):Int), .int .i64 ((0:Nat):Int), .int .u64 ((0:Nat):Int)] 42 1 false);obtain⟨C,e3,g3,U,n3⟩:=jW p2.ok g2 (l':=jR p) rfl rfl;have d7:stN 3 (.ptr A6 0) (.agg (jR p)) j=some (jO,C):=e3;have N2:=st.next;have N3:=p2.next
  have O:Prs H' C:=p2.fresh U (fun B a=>by omega);have N4:=O.next
  have b6:=zRn O st.ok hM;have a4:=zRn O st.ok gT;have a7:=dg.mono O fun _ _ x=>x
  have d8:=hp.frame fun kv _ nd y=>y.prs O
  have d9:((i:Nat):Int)< ((gl.length:Nat):Int):=by omega
  have f0:ld1 (.ptr A6 0) C=some (.int .i64 p.at_):=by rw[jL g3];rfl
  have f2:ld1 (.ptr A6 2) C=some (.int .u64 ((p.sum.toNat:Nat):Int)):=by
   rw[jL g3,Int.toNat_of_nonneg d6];rfl
  have f3:ldN 3 (.ptr A6 0) C=some (.agg (jR p)):=by rw[jQ g3];rfl
  have f5:ld1 (.ptr At 5) C=some (.map M):=by rw[jL a4];rfl
  have f7:ld1 (.ptr At 7) C=some Z:=by rw[jL a4];rfl
  by_cases h1:p.at_=1
  .obtain⟨h9,S,e4,i0,i3,V,f9⟩:=zQI (s:=p.sum.toNat) O.ok b6 d8;have b8:p.at_=((1:Nat):Int):=h1;have i4:S.h.get At=some (.cells (xE d c K M Y Z) 140 1 false):=by
    rw[V.keep _ (by omega) a9];exact a4
   have b9:E.drop (gl.take (i+1))=E.drop (gl.take i):=by
    rw[b5,Ev.drop,Ev.drop,XI,if_neg (by simpa using h1),qX]
   refine⟨_,S, ?_,rfl,(st.trans (O.mono fun _ _ x=>x.elim)).trans (V.mono fun _ _ x=> .inl x),h9,Z,i0, ?_,i4, ?_,db,fun kv L=>hes kv (f9 kv L)⟩
   .simp(maxSteps:=999999)(disch:=omega) only[cS,eZ,d9,i1,i2,b2,d7,f0,b8,f5,f2,e4,QV,yG]
   .rw[b5,J1,if_pos h1];exact i3
   .rw[b9];exact a7.mono V fun B a e=>by subst e;exact zRk a7 b6 (fun _ _ e=>by cases e) a
  .have b8: ¬p.at_=((1:Nat):Int):=h1;obtain⟨S,A7,b4,p4,g4,m4,n4⟩:=box O.ok (.cells (jR p) 42 3 false);have a8:=a7.mono p4 fun _ _ x=>x
   have g0:srcOf 3 (.slice A7 0 1 2) S=some (1,jR p):=by simp only[srcOf,g4];rfl
   have g7:=zF6 E (gl.take i);rw[qA]at g7;obtain⟨c4,H5,e5,b0,J,i5⟩:=a8.app (bytes:=24) (m:=1) (new:=jR p) p4.ok (by decide) g0 rfl rfl (by omega) (by decide);have M4:=p4.next;have M5:=J.next
   have i6: ¬Blk Z At:=zRk a8 (zRn p4 O.ok a4) (fun _ _ e=>by simp at e);have i7: ¬Blk Z M:=zRk a8 (zRn p4 O.ok b6) (fun _ _ e=>by cases e);have c5:H5.h.get At=some (.cells (xE d c K M Y Z) 140 1 false):=by
    rw[J.keep _ (by omega) i6];exact zRn p4 O.ok a4
   obtain⟨H6,e6,g6,s6,n6⟩:=xU J.ok c5 (o:=7) (x:=c4) b0.isCell (by simp[xE]);have g6:H6.h.get At=some (.cells (xE d c K M Y c4) 140 1 false):=g6;have i8:H6.h.get M=some (.map [10] a6):=by
    rw[s6.keep _ (by omega) (fun e=>a9 e.symm),J.keep _ (by omega) i7];exact zRn p4 O.ok b6
   have b9:(E.drop (gl.take (i+1))).dl=(E.drop (gl.take i)).dl++[p]:=by
    simp only[b5,Ev.drop,XI];rw[if_pos (by simpa using h1),qI]
   have e1:=bldQ 42 p [.int .i64 ((0:Nat):Int), .int .i64 ((0:Nat):Int), .int .u64 ((0:Nat):Int)] rfl;have i9:Stp (fun B=>B=M\/B=At\/Blk N B) H1 H6:=by
    refine Stp.thr (Stp.thr (st.trans ((O.trans p4).mono fun _ _ x=>x.elim)) J fun B e=> ?_) s6 fun B e=> .inr (.inr (.inl e))
    rcases db B e with x | x
    .exact .inr (.inr (.inr x))
    .exact .inl x
   refine⟨_,H6, ?_,rfl,i9,a6,c4,i8, ?_,g6, ?_,fun B a=> ?_,hes⟩
   .simp(maxSteps:=999999)(disch:=omega) only[cS,eZ,d9,i1,i2,b2,d7,f0,b8,f7,f3,e1,b4,e5,e6,QV,yG]
   .rw[b5,J1,if_neg h1];refine d8.frame fun kv L nd y=> ?_
    have hk:=hes kv L;have h5:kC H5 kv.2 nd:=(y.prs p4).stp J fun B a e=>by
     rcases db B e with x | x
     .exact t.ds kv hk B a x
     .have:=d0 kv hk B a;omega
    exact h5.stp s6 fun B a e=>by
     subst e;exact h5.nblk c5 (.inl ⟨_,_,_,_,rfl,fun _ _ e=>by rw[hd]at e;cases e⟩) a
   .rw[b9,zT,yZ];have e2:[p].flatMap jR=jR p:=by simp
    rw[e2];exact b0.mono s6 fun B a e=>by subst e;exact zRk b0 c5 (fun _ _ e=>by simp at e) a
   .rcases i5 B a with e | e
    .exact db B e
    .exact .inr (by omega)) n _ H1 ⟨rfl,zRf p1.ok,es,N,a5.gM,by simpa[cW]using a5.pq,a5.gT,by simpa[Ev.drop]using a5.dg,fun B a=> .inl a,fun _ h=>h⟩ y
 obtain⟨m,us,j,e2,rfl,st,b3,a0,hM,hp,e0,c6,c7,g8⟩:=lp;rw[j8]at hp c6;have N2:=st.next
 have f4:jY (m+1) (cS D n) [.ptr T 0, .ptr A3 0, .ptr At 0,g, .int .i64 (gl.length:Nat), .int .i64 (gl.length:Nat)] j=some (.exit 0 [.ptr T 0, .ptr A3 0, .ptr At 0],j):=jU (by simp only[cS,eZ,yA]);have e7:j.h.get T=some (.cells [.ptr At 0, .int .u64 (z:Nat), .map F,g] 242 1 false):=by rw[st.keep _ (by omega) (nS _ (by omega))];exact a3.gC
 have j0:j.h.get F=some (.map [10] W):=by rw[st.keep _ (by omega) (nS _ (by omega))];exact a3.gF
 have j1:j.h.get A3=some (.cells (jR root) 42 1 false):=by rw[st.keep _ (by omega) (nS _ (by omega))];exact g1
 have j6: ∀l:List AV,∀x:AV,∀b,xE d c K M Y x≠ .str l.length b::l:=fun l x b e=>by
  rw[hd]at e;simp[xE]at e
 have e8:uF j W f:=a3.pf.frame fun kv L nd y=>y.stp st fun B a e=>by
  rcases e with e | e | e
  .subst e;exact y.nblk a5.gM (.inr (.inl ⟨_,_,rfl⟩)) a
  .subst e;exact y.nblk a5.gT (.inl ⟨_,_,_,_,rfl,fun _ _ e=>by rw[hd]at e;cases e⟩) a
  .exact u.gx kv L B a e
 have c8:=zKu st.ok j0 hM (by omega) e8;have f6: ∀x∈W,xJ x.1 b3=none:=fun x hx=>by
  obtain⟨s,hs,hm⟩:=a3.pf.keys x hx;rw[hs];refine(hp.find s).2 ?_
  cases hk:jV s (cW q gl)with
  | none=>rfl
  | some d4=>
   have m1:=Y0 (xV hk);obtain⟨k5,h3⟩:=fH (q:=q) (s:=s) (qU.2 ⟨_,m1,rfl⟩);obtain⟨k6,h4⟩:=fH hm;have:=hq _ _ h3;have:=u.fs _ _ h4;omega
 rw[zE3 f6 (a3.pf.dist u.fd)]at c8;obtain⟨U,e9⟩:=zL1 st.ok (st.ok.lt hM) (.map [10] (b3++W)) (1+1*W.length);have f1:j.next<=(AH.putB j M (.map [10] (b3++W)) (1+1*W.length)).next:=U.next
 generalize AH.putB j M (.map [10] (b3++W)) (1+1*W.length)=C at c8 U e9 f1;have j2:bF [.ptr T 0, .ptr A3 0, .ptr At 0] j=some C:=by
  have c1:ld1 (.ptr T (0+2)) j=some (.map F):=by rw[jL e7];rfl
  have c2:ld1 (.ptr At (0+5)) j=some (.map M):=by rw[jL e0];rfl
  have d1:Nat.blt F j.next=true:=by rw[qD];omega
  have d2:Nat.blt M j.next=true:=by rw[qD];omega
  have d3:Nat.blt At j.next=true:=by rw[qD];omega
  simp only[bF,c1,c2,d1,d2,d3,qN,zM,c8]
 have j3:C.h.get T=some (.cells [.ptr At 0, .int .u64 (z:Nat), .map F,g] 242 1 false):=by rw[U.keep _ (by omega) (by omega)];exact e7
 have a4:C.h.get At=some (.cells (xE d c K M Y a0) 140 1 false):=by rw[U.keep _ (by omega) a9];exact e0
 have j4:C.h.get A3=some (.cells (jR root) 42 1 false):=by rw[U.keep _ (by omega) (by omega)];exact j1
 obtain⟨S,e4,g4,V,n4⟩:=xU U.ok a4 (o:=6) (x:= .int .u64 (z:Nat)) rfl (by simp[xE]);have g4:S.h.get At=some (.cells (xE d c K M z a0) 140 1 false):=g4;have j5:S.h.get A3=some (.cells (jR root) 42 1 false):=by rw[V.keep _ (by omega) (by omega)];exact j4
 have e5:=WE (o:=2) (n:=3) (x:= .agg (jR root)) g4 (by decide) rfl rfl (by simp[xE]);have g5:(S.put At (.cells ((xE d c K M z a0).take 2++jT (.agg (jR root))++(xE d c K M z a0).drop (2+3)) 140 1 false)).h.get At=some (.cells (xE d c root M z a0) 140 1 false):=by rw[zRc,if_pos rfl];rfl
 have J:Stp (fun B=>B=At) S (S.put At (.cells ((xE d c K M z a0).take 2++jT (.agg (jR root))++(xE d c K M z a0).drop (2+3)) 140 1 false)):=(zRf V.ok).put (V.ok.lt g4) _ (.inr rfl);generalize S.put At (.cells ((xE d c K M z a0).take 2++jT (.agg (jR root))++(xE d c K M z a0).drop (2+3)) 140 1 false)=H5 at e5 g5 J;have N3:=U.next;have N4:=V.next;have N5:=J.next
 have fr: ∀ {v:AV} {nd:Nd.Node},kC j v nd->kC H5 v nd:=fun {v nd} y=>by
  have h3:kC C v nd:=y.stp U fun B a e=>by subst e;exact y.nblk hM (.inr (.inl ⟨_,_,rfl⟩)) a
  have h4:kC S v nd:=h3.stp V fun B a e=>by subst e;exact h3.nblk a4 (.inl ⟨_,_,_,_,rfl,fun _ _ e=>by rw[hd]at e;cases e⟩) a
  exact h4.stp J fun B a e=>by subst e;exact h4.nblk g4 (.inl ⟨_,_,_,_,rfl,fun _ _ e=>by rw[hd]at e;cases e⟩) a
 have a7:=c6.mono U fun B a e=>by subst e;exact zRk c6 hM (fun _ _ e=>by cases e) a
 have a8:=a7.mono V fun B a e=>by subst e;exact zRk a7 a4 (fun _ _ e=>by simp at e) a
 have b0:=a8.mono J fun B a e=>by subst e;exact zRk a8 g4 (fun _ _ e=>by simp at e) a
 have T5:Stp (fun B=>B=At\/B=M\/Blk N B) H0 H5:=⟨J.ok,by omega,fun B a hS=>by
  have a1: ¬B=At:=fun e=>hS (.inl e)
  have a2: ¬B=M:=fun e=>hS (.inr (.inl e))
  rw[J.keep B (by omega) a1,V.keep B (by omega) a1,U.keep B (by omega) a2,st.keep B (by omega) (fun x=>by
   rcases x with x | x | x
   .exact a2 x
   .exact a1 x
   .exact hS (.inr (.inr x))),p1.keep B (by omega) (fun x=>x),u.prs.keep B a (fun x=>x)]⟩
 refine⟨H5,b3++W,a0, ?_,⟨J.ok,g5, ?_, ?_, ?_,t.cn,b0,fun kv L B a hb=> ?_, ?_⟩,T5,fun B a=> ?_⟩
 .have g9:Nat.ble j.next C.next=true:=by rw[qV];exact f1
  have c0:ld1 (.ptr T 0) H1=some (.ptr At 0):=by rw[jL a3.gC];rfl
  have c3:ld1 (.ptr T 3) H1=some g:=by rw[jL a3.gC];rfl
  have c1:ld1 (.ptr T 1) C=some (.int .u64 (z:Nat)):=by rw[jL j3];rfl
  have r3:ldN 3 (.ptr A3 0) S=some (.agg (jR root)):=by rw[jQ j5];rfl
  simp(maxSteps:=999999)(disch:=omega) only[f126,eZ,b1,c0,c3,a3.gg.row.lnSl,e2,f4,BD,j2,tld,g9,zM,c1,e4,r3,e5]
 .rw[J.keep _ (by omega) (fun e=>a9 e.symm),V.keep _ (by omega) (fun e=>a9 e.symm)];exact e9
 .exact uF.append (e8.frame fun kv _ nd y=>fr y) (hp.frame fun kv _ nd y=>fr y)
 .exact t.dks T5 fun B a=>by
   rcases a with e | e | e
   .exact .inl e
   .exact .inr (.inl e)
   .exact .inr (.inr (.inl e))
 .rcases qB.1 L with L | L
  .have hk:=g8 kv L;rcases c7 B hb with e | e
   .exact t.ds kv hk B a e
   .have:=d0 kv hk B a;omega
  .rcases c7 B hb with e | e
   .exact u.gx kv L B a e
   .obtain⟨d4,b7⟩:=u.pf.mem kv L;have:=b7.lt a;omega
 .have h1:=Y1 gl q;have h2:=u.fl;simp only[zT];omega
 .rcases c7 B a with e | e
  .exact .inl e
  .exact .inr (by omega)
end Go.Eng.Sh
end
section
set_option maxRecDepth 20000
namespace Go.Bt
open Go.Nd (Str Kvs Ptr leafOf)
theorem WF.wr: ∀ {h:Nat} {t:Tr h},WF h none none t->WR h t
 | 0,_,w=>w
 | _+1,_,w=>⟨w.1,w.2.1,w.2.2.2⟩
theorem WX.wr: ∀ {h:Nat} {t:Tr h},WX h none none t->(match h,t with | 0,l=>(l:Kvs)≠[] | _+1,t=>t.1≠[])->wI h t<=500->WR h t
 | 0,_,w,hne,hz=>⟨w.1,hne,hz⟩
 | _+1,_,w,hne,hz=>⟨w.1,hne,hz⟩
end Go.Bt
namespace Go.Eng.Sh
open Go.Nd (Ptr sumL leafOf Kvs)
open Go.Bt
variable {E:Ev}{X:Nat->Prop}
def pZ:Ptr:=⟨((0:Nat):Int),((0:Nat):Int),((0:Nat):Int)⟩
def dsk (T:List Ptr):List Ptr:=T.filter fun p=>decide (p.at_≠1)
theorem zDJ (a b:List Ptr):dsk (a++b)=dsk a++dsk b:=jF ..
theorem zQH {T:List Ptr}(h: ∀p∈T,∃j,p=pp j):dsk T=[]:=List.filter_eq_nil_iff.2 fun p hp=>by
 obtain⟨j,rfl⟩:=h p hp;simp[pp]
theorem zF5 (E:Ev){T i gl Fr R:List Ptr}(h:T.Perm (gl++R))(o:i.Perm (Fr++R))(q: ∀p∈Fr,∃j,p=pp j):(dsk i++(E.drop gl).dl).Perm (dsk T++E.dl):=by
 have m:(dsk T).Perm (dsk (gl++R)):=h.filter _;have f:(dsk i).Perm (dsk (Fr++R)):=o.filter _;rw[zDJ]at m f;rw[zQH q,qS]at f;have s:(E.drop gl).dl=E.dl++dsk gl:=rfl;rw[s];rw[List.perm_iff_count]at m f⊢;intro a;have t:=m a;have u:=f a;simp only[List.count_append]at t u⊢;omega
def gP (E:Ev)(q:PN)(root:Ptr)(kv:Kvs)(T:List Ptr):Prop:=(root=pZ/\kv=[]/\T=[])\/ ∃h nd,∃t:Bt.Tr h,∃S:List Ptr,Qf E q [] root=some nd/\kU (Qf E q []) h nd t S/\WR h t/\(root::S).Nodup/\con h t=kv/\T=root::S
theorem xZ.here {α:Type}{Q:Ptr->Option Nd.Node}{R:Nd.Node->α->List Ptr->Prop}(hr: ∀nd t S,R nd t S-> ∀p∈S,∃nd,Q p=some nd): ∀ {i:List Ptr} {ts:List α} {S:List Ptr},xZ Q R i ts S-> ∀p∈S,∃nd,Q p=some nd
 | [],[],_,h=>by subst h;simp
 | p::i,t::ts,_,⟨nd,S1,S2,a,b,c,e⟩=>fun x f=>by
  subst e;rcases zP.1 f with rfl | f
  .exact⟨nd,a⟩
  .rcases qB.1 f with f | f
   .exact hr _ _ _ b x f
   .exact xZ.here hr c x f
 | [],_::_,_,h=>h.elim
 | _::_,[],_,h=>h.elim
theorem kU.here {Q:Ptr->Option Nd.Node} : ∀ {h:Nat} {nd:Nd.Node} {t:Bt.Tr h} {S:List Ptr},kU Q h nd t S-> ∀p∈S,∃nd,Q p=some nd
 | 0,_,_,_,w=>by obtain⟨_,rfl⟩:=w;simp
 | h+1,_,_,_,w=>xZ.here (fun _ _ _ hr=>kU.here hr) w.2.2.2
theorem zNS {q f:PN}{gl T Fr R:List Ptr}{m:Nat}(o: ∀s nd,jV s q=some nd->s<=m)(K: ∀s nd,jV s f=some nd->m<s)(v:T.Perm (Fr++R))(L:(gl++R).Nodup)(z: ∀p∈gl,∃nd,Qf E q [] p=some nd)(t: ∀p∈Fr,∃j,p=pp j/\m<j)(C:Fr.Nodup)(hR: ∀p∈R,∃nd,Qf E q [] p=some nd):
  T.Nodup/\ ∀p∈T,∀nd,Qf E q f p=some nd->Qf E (cW q gl++f) [] p=some nd:=by
 have x: ∀s,pp s∈R->s<=m:=fun s hp=>by
  obtain⟨nd,h⟩:=hR _ hp;obtain⟨s',e,i | ⟨_,i⟩⟩ | ⟨i,_⟩:=vQ h
  .simp[jV]at i
  .have:=JC e;subst this;exact o _ _ i
  .exact absurd rfl (i s)
 obtain⟨_,F,y⟩:=List.nodup_append.1 L;refine⟨v.nodup_iff.2 (List.nodup_append.2 ⟨C,F,fun a N b hb e=> ?_⟩),fun p hp nd h=> ?_⟩
 .obtain⟨j,rfl,O⟩:=t a N;subst e;have:=x j hb;omega
 .obtain⟨s,rfl,i | ⟨h0,i⟩⟩ | ⟨i,S⟩:=vQ h
  .rw[zB1];simp only[jV];have U:=K _ _ i;rw[xW]
   cases V:jV s (cW q gl)with
   | none=>exact i
   | some n2=>
    obtain⟨n3,W⟩:=fH (qU.2 ⟨_,Y0 (xV V),rfl⟩);have:=o _ _ W;simp only at this;omega
  .rw[zB1];simp only[jV];have U:=o _ _ i;have J:pp s∈R:=by
    rcases qB.1 (v.mem_iff.1 hp)with e | e
    .obtain⟨j,e,O⟩:=t _ e;have:=JC e;omega
    .exact e
   rw[xW,BO fun Y u e1 e=> ?_,i];obtain⟨a0,Z⟩:=z Y u;obtain⟨s',rfl,_⟩ | ⟨_,hd⟩:=vQ Z
   .have:s=s':=by simpa[pp]using e
    subst this;exact y _ u _ J rfl
   .have:=(uG hd).2;omega
  .rw[J8 i];exact S
theorem zEy {q f:PN}{gl:List Ptr}{a i:Nat}(m: ∀s nd,jV s q=some nd->s<=a)(o: ∀s nd,jV s f=some nd->a<s/\s<=i)(hl:a<=i): ∀s nd,jV s (cW q gl++f)=some nd->s<=i:=fun s nd h=>by
 rw[xW]at h
 cases j:jV s (cW q gl)with
 | none=>rw[j]at h;exact(o _ _ h).2
 | some n2=>
  obtain⟨t,p⟩:=fH (qU.2 ⟨_,Y0 (xV j),rfl⟩);have:=m _ _ p;simp only at this;omega
theorem xZ.perm_one {α:Type}{Q:Ptr->Option Nd.Node}{R:Nd.Node->α->List Ptr->Prop}{i:List Ptr}{t:α}{S:List Ptr}(h:xZ Q R i [t] S): ∃p nd f,i=[p]/\Q p=some nd/\R nd t f/\S=p::f:=by
 match i,h with
 | [p],⟨nd,f,S2,a,b,c,e⟩=>exact⟨p,nd,f,rfl,a,b,by simp only[xZ]at c;rw[e,c,qX]⟩
 | _::_::_,⟨_,_,_,_,_,c,_⟩=>exact c.elim
 | [],h=>exact h.elim
theorem CutsN.one_inv {nd:Nd.Node}{a:List Nd.Node}{f:List Str}(h:CutsN nd a f)(i:Nd.size nd<=500):a=[nd]/\f=[]:=by
 cases h with
 | one _=>exact⟨rfl,rfl⟩
 | more h1=>omega
theorem CutsN.more_inv {nd:Nd.Node}{f:List Nd.Node}{a:List Str}(h:CutsN nd f a)(i:500<Nd.size nd):a≠[]:=by
 cases h with
 | one h1=>omega
 | more h1=>simp
end Go.Eng.Sh
end
section
set_option maxRecDepth 20000
namespace Go.Eng.Sh
open Go.Nd (Ptr sumL leafOf Kvs)
open Go.Bt
variable {E:Ev}
def zMp (E:Ev)(H0 H':AH)(At M:Nat)(d c h:AV)(low j:Nat)(kv:Kvs)(T:List Ptr):Prop:= ∃gl root es q a f i,TI (E.drop gl) H' At M d c root es q a f/\Stp (fun B=>B=At\/B=M\/Blk h B) H0 H'/\(∀B,Blk f B->Blk h B\/H0.next<=B)/\(∀s nd,jV s q=some nd->s<=a)/\q.length<=a/\low<=a/\a<=j/\gP E q root kv i/\(dsk i++(E.drop gl).dl).Perm (dsk T++E.dl)/\gl.length<=100
theorem zMp.mono {H0 H':AH}{At M:Nat}{d c j:AV}{low a i f:Nat}{kv:Kvs}{T:List Ptr}(h:zMp E H0 H' At M d c j low i kv T)(hl:a<=low)(C:i<=f):zMp E H0 H' At M d c j a f kv T:=by
 obtain⟨gl,root,es,q,m,o,p,s,t,u,v,x,F,J,y,z,h10⟩:=h;exact⟨gl,root,es,q,m,o,p,s,t,u,v,x,by omega,by omega,y,z,h10⟩
theorem zNg {q f:PN}{p:Ptr}{nd:Nd.Node}(h:Qf E q f p=some nd):0<=p.sum:=by
 obtain⟨s,rfl,_⟩ | ⟨_,i⟩:=vQ h
 .simp[pp]
 .obtain⟨a,birth,kind,body,rfl,_⟩:=zRi.1 i;simp[fC]
theorem zJt (D:Dyn)(n:Nat){H0 H:AH}{At o F M:Nat}{d c m:AV}{u:Ptr}{es:List (AV×AV)}{q:PN}{v:List (AV×AV)}{f:PN}{g:AV}{gl T:List Ptr}{i a:Nat}(N:TI E H0 At M d c u es q i m)(t: ∀s nd,jV s q=some nd->s<=i)
  (j:Ch (Blk m) H0 H At o F v f g gl i a) (x: ∀p∈gl,∃nd,Qf E q [] p=some nd) (hl:a<=900000000) (O:gl.length<n) (y:q.length<=i) (z:E.dl.length+gl.length<=900000000) (C:T.Perm gl) (J:gl.length<=100):
  ∃H',f126 D n [.ptr o 0, .agg [.int .i64 ((0:Nat):Int), .int .i64 ((0:Nat):Int), .int .u64 ((0:Nat):Int)]] H=some (.tuple [],H')/\zMp E H0 H' At M d c m a a [] T:=by
 obtain⟨H',es',K,e,L,st,S⟩:=zJu D n (root:=pZ) N t j (fun p hp=>(x p hp).elim fun nd h=>zNg h) hl O y z;refine⟨H',e,gl,_,_,_,a,K,[],L,st,S,zEy t j.fs j.le, ?_,zQ _,zQ _, .inl ⟨rfl,rfl,rfl⟩,zF5 E (R:=[]) (Fr:=[]) (by simpa using C) (by simp) (by simp),J⟩;have U:=Y1 gl q;have V:=j.fl;simp only[zT];omega
theorem QZ (D:Dyn)(n:Nat){H0 H:AH}{At y F M h:Nat}{rp:Ptr}{d c o:AV}{C:Ptr}{es:List (AV×AV)}{q:PN}{J:List (AV×AV)}{f:PN}{g:AV}{gl Fr R T:List Ptr}{a i:Nat}{nd:Nd.Node}{t:Bt.Tr h}{S:List Ptr}(Z:TI E H0 At M d c C es q a o)(u: ∀s nd,jV s q=some nd->s<=a)
  (m:Ch (Blk o) H0 H At y F J f g gl a i) (v: ∀p∈gl,∃nd,Qf E q [] p=some nd) (hl:i<=900000000) (hn:gl.length<n) (K:q.length<=a) (L:E.dl.length+gl.length<=900000000)
  (hs:Qf E q f rp=some nd) (rn:kU (Qf E q f) h nd t S) (wr:WR h t) (z:(rp::S).Perm (Fr++R)) (hG:(gl++R).Nodup) (x: ∀p∈Fr,∃j,p=pp j/\a<j) (N:Fr.Nodup) (hR: ∀p∈R,∃nd,Qf E q [] p=some nd) (O:T.Perm (gl++R)) (U:gl.length<=100):
  ∃H',f126 D n [.ptr y 0, .agg (jR rp)] H=some (.tuple [],H')/\zMp E H0 H' At M d c o i i (con h t) T:=by
 obtain⟨H',es',V,e,W,st,db⟩:=zJu D n (root:=rp) Z u m (fun p hp=>(v p hp).elim fun nd h=>zNg h) hl hn K L;obtain⟨Y,mono⟩:=zNS u (fun s nd h=>(m.fs s nd h).1) z hG v x N hR;refine⟨H',e,gl,_,_,_,i,V,_,W,st,db,zEy u m.fs m.le, ?_,zQ _,zQ _, .inr ⟨h,nd,t,S,mono rp (zK ..) nd hs,rn.mono (fun p hp nd hh=>mono p (zC _ hp) nd hh),wr,Y,rfl,rfl⟩,zF5 E O z fun p hp=>(x p hp).elim fun j h=>⟨j,h.1⟩,U⟩;have h1:=Y1 gl q;have h2:=m.fl;simp only[zT];omega
theorem zLN (D:Dyn)(n:Nat)(hn:200000000<=n){H0 H:AH}{At Ac F M h:Nat}{d c dr u:AV}{e8:Ptr}{es:List (AV×AV)}{q:PN}{f5:List (AV×AV)}{f:PN}{g:AV}{gl Fr R T:List Ptr}{K m:Nat}{nd:Nd.Node}{t:Bt.Tr h}{S:List Ptr}(ti:TI E H0 At M d c e8 es q K dr)(U: ∀s nd,jV s q=some nd->s<=K)
  (v:Ch (Blk dr) H0 H At Ac F f5 f g gl K m) (b0: ∀p∈gl,∃nd,Qf E q [] p=some nd) (hl:m<=700000000) (b2:gl.length<n) (b3:q.length<=K) (hu:xL (Blk dr) H g u nd)
  (C:kU (Qf E q f) h nd t S) (wx:WX h none none t) (hS:S.Perm (Fr++R)) (hG:(gl++R).Nodup) (b4: ∀p∈Fr,∃j,p=pp j/\K<j/\j<=m) (c0:Fr.Nodup) (hR: ∀p∈R,∃nd,Qf E q [] p=some nd) (b5:E.dl.length+gl.length<=900000000) (a5:T.Perm (gl++R)) (b6:gl.length<=100):
  ∃H',f131 D n [.ptr Ac 0,u] H=some (.int .i64 ((0:Nat):Int),H')/\zMp E H0 H' At M d c dr m (m+7) (con h t) T:=by
 obtain⟨ks,d4,ps,rfl,j1,j2,j3⟩:=id hu.1;obtain⟨H1,V,b1,W,Y,m1,n1⟩:=box v.prs.ok (.cells [.bool nd.leaf,ks,d4,ps] 119 1 false);have O:=v.step W;have f6:=hu.prs W;have b7: ∀p∈Fr,∃j,p=pp j/\K<j:=fun p hp=>by obtain⟨j,a,b,_⟩:=b4 p hp;exact⟨j,a,b⟩
 have e0:ld1 (.ptr V 0) H1=some (.bool nd.leaf):=by rw[jL Y];rfl
 have e1:ld1 (.ptr V 1) H1=some ks:=by rw[jL Y];rfl
 have e3:ld1 (.ptr V 3) H1=some ps:=by rw[jL Y];rfl
 by_cases z:nd.keys=[]
 ·
  have a6:((nd.keys.length:Nat):Int)=((0:Nat):Int):=by rw[z];rfl
  cases h with
  | zero=>
   obtain⟨d5,rfl⟩:=C;have f7:R=[]:=by
    have:=hS.length_eq;simp only[yJ,zT]at this;exact zV (by omega)
   rw[f7,qX]at a5;have ht:t=([]:Kvs):=List.map_eq_nil_iff.1 (show List.map Prod.fst (t:Kvs)=[]from(show(leafOf t).keys=[]from d5▸z));subst ht;obtain⟨H2,Z,L⟩:=zJt D n ti U O b0 (by omega) b2 b3 b5 a5 b6;refine⟨H2, ?_,L.mono (zQ _) (by omega)⟩;have c3:ld1 (.ptr V 0) H1=some (.bool true):=by rw[e0,d5];rfl
   have bs:vR [(0,1),(1,1),(2,1)] [.int .i64 ((0:Nat):Int), .int .i64 ((0:Nat):Int), .int .u64 ((0:Nat):Int)] []=some (.agg [.int .i64 ((0:Nat):Int), .int .i64 ((0:Nat):Int), .int .u64 ((0:Nat):Int)]):=rfl;simp(maxSteps:=999999)(disch:=omega) only[f131,eZ,b1,e1,j1.row.lnSl,a6,c3,bs,Z,JL]
  | succ h=>
   obtain⟨r1,r2,r3,r4⟩:=id C;obtain⟨w1,w2⟩:=id wx;rw[z]at r2;have a8:=w1.2.2.len;rw[<-r2]at a8;obtain⟨t1,c4⟩: ∃t1,t.2=[t1]:=by
    match ht:t.2,a8 with
    | [a],_=>exact⟨a,rfl⟩
   have d6:=w1.2.2;rw[<-r2,c4]at d6;rw[c4]at r4;obtain⟨k0,h8,S1,c5,q1,f8,f9⟩:=xZ.perm_one r4;subst f9;obtain⟨H2,Z,L⟩:=QZ D n ti U O b0 (by omega) b2 b3 b5 q1 f8 (WF.wr d6) hS hG b7 c0 hR a5 b6;have c3:ld1 (.ptr V 0) H1=some (.bool false):=by rw[e0,r1]
   have b8:con (h+1) t=con h t1:=by simp only[con,c4,qG,List.flatMap_nil,qX]
   rw[b8];refine⟨H2, ?_,L.mono (zQ _) (by omega)⟩;obtain⟨qk,ik,a7⟩:=vS.at (l:=nd.kids) (j3.mono W (fun _ _ x=>x)).row (i:=0) (by rw[c5];simp);have c6:nd.kids[0]'(by rw[c5];simp)=k0:=by simp[c5]
   rw[c6]at a7;simp(maxSteps:=999999)(disch:=omega) only[f131,eZ,b1,e1,j1.row.lnSl,a6,c3,e3,ik,a7,Z,JL]
 ·
  have a6: ¬((nd.keys.length:Nat):Int)=((0:Nat):Int):=by
   have:nd.keys.length≠0:=fun e=>z (zV e)
   omega
  have g0:=C.shaped wx.gen (fun _=>z) (kU.kidOk C);have hz:Nd.size nd<=785:=by rw[C.size];exact wx.sz
  obtain⟨pv,sv,H2,vs,o,y,Z,p2,a9,oP,f1,oS,bP,bS,g2⟩:=zCs D n hn W.ok f6.1 g0 (by omega);obtain⟨ts,c1,c2⟩:=zAR a9 C wx;have h9:o.length<=6:=by
   by_cases hb:Nd.size nd<=500
   .rw[(a9.one_inv hb).1];simp
   .have:=(zAQ c1 wx (.inr (by rw[<-C.size];omega))).2.2.1;rw[c2.len];exact this
  have g3:=O.step p2;obtain⟨kv,H3,d7,c7,a3,o3,f3⟩:=zCQ D n hn g3 oP f1 (fun l hl B hB=>by
   rcases g2 l hl B hB with e | e
   .exact hu.2 B e
   .exact⟨fun c8=>by have:=zRp O.gg.row c8;omega,fun hx=>by have:=O.xo B hx;have:=O.prs.next;omega⟩) (by omega) (by omega)
  have N1:=W.next;have N2:=p2.next;have N3:=a3.1.next
  have e9: ∀j,jV (m+1+j) f=none:=fun j=>by
   cases z:jV (m+1+j) f with
   | none=>rfl
   | some n2=>have:=v.fs _ _ z;omega
  have f2: ∀s J,jV s (xY m o)=some J->K<s:=fun s J hs=>by have:=VK hs;have:=v.le;omega
  have more: ∀p nd,Qf E q f p=some nd->Qf E q (f++xY m o) p=some nd:=fun p nd hp=>zB2 U f2 hp
  have d8: ∀j J,o[j]? =some J->Qf E q (f++xY m o) (pp (m+1+j))=some J:=fun j J hj=>by rw[zB1,xW,e9];simp only[YV hj]
  have c9:vS H3 kv (pps m o.length):=by
   have:=o3.row;rw[vS,YO];exact this
  have d0:=c9.lnSl;rw[YO]at d0;have d9: ¬(((0:Nat):Int)≠((0:Nat):Int)):=by omega
  by_cases hb:Nd.size nd<=500
  .obtain⟨rfl,rfl⟩:=a9.one_inv hb;have b9:(([nd].length:Nat):Int)=((1:Nat):Int):=rfl;have wr:WR h t:=wx.wr (by
    cases h with
    | zero=>obtain⟨rfl,_⟩:=C;intro e;exact z (by rw[show t=([]:Kvs)from e];rfl)
    | succ h=>exact(show t.1≠[]from C.2.1▸z)) (by rw[<-C.size];exact hb)
   have d1: ∀p∈pp (m+1)::Fr,∃j,p=pp j/\K<j:=fun p hp=>by
    rcases zP.1 hp with rfl | hp
    .exact⟨_,rfl,by have:=v.le;omega⟩
    .exact b7 p hp
   have d2:(pp (m+1)::Fr).Nodup:=List.nodup_cons.2 ⟨fun hp=>by
    obtain⟨j,e,_,hj⟩:=b4 _ hp;have:=JC e;omega,c0⟩
   obtain⟨H4,e4,L⟩:=QZ D n (rp:=pp (m+1)) (t:=t) (S:=S) ti U c7 b0 (by simp;omega) b2 b3 b5 (d8 0 nd rfl) (C.mono fun p _ nd hp=>more p nd hp) wr (List.Perm.cons _ hS) hG d1 d2 hR a5 b6;refine⟨H4, ?_,L.mono (by simp) (by simp)⟩;obtain⟨qk,ik,a7⟩:=vS.at c9 (i:=0) (by simp[pps]);have c6:(pps m [nd].length)[0]'(by simp[pps])=pp (m+1):=by simp[pps]
   rw[c6]at a7;simp(maxSteps:=999999)(disch:=omega) only[f131,eZ,b1,e1,j1.row.lnSl,a6,bY Y rfl,Z,jM,nth,d9,d7,d0,b9,ik,a7,e4,XZ]
  .have e6:=a9.more_inv (by omega);obtain⟨w1,w2,w3,_⟩:=zAQ c1 wx (.inr (by rw[<-C.size];omega));have a8:=w1.2.2.len;simp only at a8;have h6:y.length≠0:=fun e=>e6 (zV e)
   have i0:=c2.len;have b9: ¬((o.length:Nat):Int)=((1:Nat):Int):=by omega
   have g4:zFy (Qf E q (f++xY m o)) h o ts S:=by
    have mono: ∀ {a0:List Nd.Node} {N:List (Bt.Tr h)} {S':List Ptr},zFy (Qf E q f) h a0 N S'->zFy (Qf E q (f++xY m o)) h a0 N S':=by
     intro a0
     induction a0 with
     | nil=>intro N S' hp;cases N with
      | nil=>exact hp
      | cons=>exact hp.elim
     | cons a a0 ih=>intro N S' hp;cases N with
      | nil=>exact hp.elim
      | cons b N=>
       obtain⟨S1,S2,a1,a2,a3⟩:=hp;exact⟨S1,S2,a1.mono fun p _ nd hp=>more p nd hp,ih a2,a3⟩
    exact mono c2
   obtain⟨S2,r2,g5⟩:=g4.kids m d8;have i1:H3.h.get V=some (.cells [.bool nd.leaf,ks,d4,ps] 119 1 false):=by
    rw[a3.1.keep _ (by omega) (fun hc=>by
     rcases hc with e | e | e
     .have:=v.ltC;omega
     .have:=v.ltF;omega
     .have:=zRp v.gg.row e;omega)]
    exact zRn p2 W.ok Y
   have e7:Own 1 9 H3 sv y.length (y.map Go.Eng.S):=oS.mono a3.1 (fun B hB hc=>by
    have:=bS B hB;rcases hc with e | e | e
    .have:=v.ltC;omega
    .have:=v.ltF;omega
    .have:=zRp v.gg.row e;omega)
   have g6:kC H3 (.agg [.bool false,sv, .nilSlice,kv]) ⟨false,y,[],pps m o.length⟩:=⟨sv, .nilSlice,kv,rfl, .inl e7, .inl (zRo ..), .inl (by
    simp only[YO];exact o3)⟩
   have g7:xL (Blk dr) H3 g (.agg [.bool false,sv, .nilSlice,kv]) ⟨false,y,[],pps m o.length⟩:=⟨g6,fun B hB=>by
    have i2:H.next<=B:=by
     rcases wO.1 hB with e | e | e
     .have:=bS B e;omega
     .exact(zRl.1 e).elim
     .have:=f3 B e;omega
    exact⟨fun c8=>by have:=zRp v.gg.row c8;omega,fun hx=>by have:=v.xo B hx;have:=v.prs.next;omega⟩⟩
   obtain⟨H4,e4,g8,a4⟩:=zK2 D n c7 g7 (by omega);have f4:jV (m+o.length+1) (f++xY m o)=none:=by
    cases z:jV (m+o.length+1) (f++xY m o)with
    | none=>rfl
    | some n2=>have:=c7.fs _ _ z;omega
   have d3: ∀p J,Qf E q (f++xY m o) p=some J->Qf E q (f++xY m o++[(m+o.length+1,⟨false,y,[],pps m o.length⟩)]) p=some J:=fun p J hp=>zB2 U (fun s nd hs=>by
    simp only[jV]at hs;split at hs
    .have:=v.le;omega
    .cases hs) hp
   have g9:Qf E q (f++xY m o++[(m+o.length+1,⟨false,y,[],pps m o.length⟩)]) (pp (m+o.length+1))=some ⟨false,y,[],pps m o.length⟩:=by
    rw[zB1,xW,f4];simp[jV]
   have h0:kU (Qf E q (f++xY m o++[(m+o.length+1,⟨false,y,[],pps m o.length⟩)])) (h+1) ⟨false,y,[],pps m o.length⟩ (y,ts) S2:=⟨rfl,rfl,rfl,r2.mono (fun p _ nd hp=>d3 p nd hp) (fun nd t S1 _ hr=>hr.mono fun p _ nd hp=>d3 p nd hp)⟩;have h7:=YJ (ks:=y) (fun k z=>(w1.1 k z).1);have h5:WR (h+1) (y,ts):=⟨w1,e6,by simp only[wP];omega⟩;have d1: ∀p∈pp (m+o.length+1)::(pps m o.length++Fr),∃j,p=pp j/\K<j:=fun p hp=>by
    have:=v.le;rcases zP.1 hp with rfl | hp
    .exact⟨_,rfl,by omega⟩
    .rcases qB.1 hp with hp | hp
     .obtain⟨j,rfl,h1,h2⟩:=ZM hp;exact⟨_,rfl,by omega⟩
     .exact b7 p hp
   have d2:(pp (m+o.length+1)::(pps m o.length++Fr)).Nodup:=by
    refine List.nodup_cons.2 ⟨fun hp=> ?_,List.nodup_append.2 ⟨WP _ _,c0,fun a ha b hb e=> ?_⟩⟩
    .rcases qB.1 hp with hp | hp
     .obtain⟨j,e,h1,h2⟩:=ZM hp;have:=JC e;omega
     .obtain⟨j,e,h1,h2⟩:=b4 _ hp;have:=JC e;omega
    .obtain⟨j,rfl,h1,h2⟩:=ZM ha;obtain⟨j',rfl,h3,h4⟩:=b4 _ hb;have:=JC e;omega
   have hT:(pp (m+o.length+1)::S2).Perm ((pp (m+o.length+1)::(pps m o.length++Fr))++R):=by
    rw[qF,qI];exact List.Perm.cons _ (g5.trans (List.Perm.append_left _ hS))
   obtain⟨H5,e5,L⟩:=QZ D n (rp:=pp (m+o.length+1)) ti U g8 b0 (by omega) b2 b3 b5 g9 h0 h5 hT hG d1 d2 hR a5 b6;have b8:con (h+1) (y,ts)=con h t:=w2;rw[b8]at L;refine⟨H5, ?_,L.mono (by omega) (by omega)⟩;simp(maxSteps:=999999)(disch:=omega) only[f131,eZ,b1,e1,j1.row.lnSl,a6,bY Y rfl,Z,jM,nth,d9,d7,d0,b9,zP6 e7.row.isCell c9.isCell,e4,e5,XZ]
end Go.Eng.Sh
end
section
set_option maxRecDepth 20000
namespace Go.Bt
open Go.Nd (Str Kvs leafOf)
theorem WR.gen: ∀ {h:Nat} {t:Tr h},WR h t->Gen h none none t
 | 0,_,w=>w.1
 | _+1,_,w=>w.1
theorem WR.sz: ∀ {h:Nat} {t:Tr h},WR h t->wI h t<=500
 | 0,_,w=>w.2.2
 | _+1,_,w=>w.2.2
theorem zEM {h:Nat} : ∀ {ts:List (Tr h)},(∀t∈ts,2 ^ h<=(con h t).length)->ts.length*2 ^ h<=(ts.flatMap (con h)).length
 | [],_=>by simp
 | t::ts,ih=>by
  have f:=ih t (zK ..);have i:=zEM (ts:=ts) fun t a=>ih t (zC _ a)
  simp only[zW,qG,zT,j7,Nat.one_mul];omega
theorem zIu {h:Nat}{lo hi:Bd}{t:List Str×List (Tr h)}(f: ∀ {lo hi:Bd} {t:Tr h},WF h lo hi t->2 ^ h<=(con h t).length)(w:Inn (WF h) lo hi t)(a:t.1≠[]):2 ^ (h+1)<=(t.2.flatMap (con h)).length:=by
 have hl:=w.2.2.len;have m:t.1.length≠0:=fun e=>a (zV e)
 have o:=zEM (ts:=t.2) fun x j=>by
  obtain⟨i,hi,rfl⟩:=jH j;exact f (KB.at w.2.2 (zJ hi))
 have p:2*2 ^ h<=t.2.length*2 ^ h:=yN _ (by omega);rw[Nat.pow_succ];omega
theorem WF.many: ∀ {h:Nat} {lo hi:Bd} {t:Tr h},WF h lo hi t->2 ^ h<=(con h t).length
 | 0,_,_,t,w=>by
  have:List.length (t:Kvs)≠0:=fun e=>w.2.1 (zV e)
  show 1<=List.length (t:Kvs);omega
 | _+1,_,_,_,w=>zIu WF.many w.1 w.2.1
theorem WR.many: ∀ {h:Nat} {t:Tr h},WR h t->2 ^ h<=(con h t).length
 | 0,t,w=>by
  have:List.length (t:Kvs)≠0:=fun e=>w.2.1 (zV e)
  show 1<=List.length (t:Kvs);omega
 | _+1,_,w=>zIu WF.many w.1 w.2.1
theorem WR.low {h:Nat}{t:Tr h}(w:WR h t)(f:(con h t).length<=1000000000):h<=29:=by
 have:=w.many;rcases Nat.lt_or_ge h 30 with a | a
 .omega
 .have i:2 ^ 30<=2 ^ h:=Nat.pow_le_pow_right (by decide) a;have j:(2:Nat) ^ 30=1073741824:=by decide
  omega
end Go.Bt
namespace Go.Eng.Sh
open Go.Nd (Ptr sumL leafOf Kvs)
open Go.Bt
variable {E:Ev}
theorem cbx:(∀A o,jT (.ptr A o)=[.ptr A o])/\jT .nilPtr=[.nilPtr]/\jT .nilFunc=[.nilFunc]/\(∀k z,jT (.int k z)=[.int k z])/\(∀l,jT (S l)=[S l])/\(∀ed K V,jT (edF ed K V)=[edF ed K V])/\(∀A o,aveq (.ptr A o) (.ptr A o)=true):=
 ⟨fun _ _=>rfl,rfl,rfl,fun _ _=>rfl,fun _=>rfl,fun ed _ _=>by cases ed<;>rfl,fun _ _=>by simp[aveq]⟩
theorem zP4 {H H':AH}{At a F f:Nat}(s:Prs H H')(i:H'.h.get a=some (.cells [.ptr At 0, .int .u64 (f:Nat), .map F, .nilSlice] 242 1 false))(j:H'.h.get F=some (.map [10] []))(m:H.next<=a)(o:H.next<=F)(ne:a≠F){X:Nat->Prop}(hX: ∀B,X B->B<H.next):
  Ch X H H' At a F [] [] .nilSlice [] f f:=
 ⟨s,i,j,trivial,zRo ..,fun B p=>(zRl.1 p).elim,fun _ h=>by simp at h,m,o,ne,fun _ _ h=>by simp[jV]at h,zQ _,by simp,by simp,by simp,fun _ h=>by simp at h,hX⟩
theorem zCu (M n:Nat)(hM:300000000<=M)(hn:300000000<=n){H:AH}{At M0 K V a:Nat}{d c dr:AV}{root:Ptr}{es:List (AV×AV)}{q:PN}{kv:Kvs}{T:List Ptr}{ed:Ed}(j:TI E H At M0 d c root es q a dr)(hq: ∀s nd,jV s q=some nd->s<=a)(d6:q.length<=a)(hl:a<=500000000)
  (hr:gP E q root kv T) (n7:E.dl.length<=800000000) (c3:kv.length<=1000000000) (ho:ed.ok) (hb:edB H ed K V):
  ∃(e:Nat) (H':AH),f82 (dy (M+2)) n [.ptr At 0,S ed.key,edF ed K V] H=some (.int .i64 (e:Nat),H')/\
   match ed.run kv with
   | none=>e=5/\Prs H H'
   | some kv'=>e=0/\zMp E H H' At M0 d c dr a (a+200) kv' T:=by
 obtain⟨H1,z,b1,p1,g1,m1,n1⟩:=box j.ok (.cells [.ptr At 0] 31 1 false);obtain⟨H2,B4,b2,U,g2,m2,n2⟩:=box p1.ok (.cells [S ed.key] 9 1 false);obtain⟨H3,B3,b3,C,g3,m3,n3⟩:=box U.ok (.cells [edF ed K V] 162 1 false);obtain⟨H4,F,b4,p4,g4,m4,n4⟩:=box C.ok (.map [10] []);obtain⟨H5,J,b5,L,g5,m5,n5⟩:=box p4.ok (.cells [.ptr At 0, .int .u64 (a:Nat), .map F, .nilSlice] 242 1 false);obtain⟨H6,B6,b6,p6,g6,m6,n6⟩:=box L.ok (.cells [.nilPtr] 240 1 false);obtain⟨i,e7,x7,m⟩:=Box.st (⟨_,g6⟩:Box H6 B6 .nilPtr) p6.ok (x:= .ptr J 0) rfl;have i2:=p1.trans U;have d7:=i2.trans C;have d8:=(d7.trans p4).trans L;have i3:=d8.trans p6;have Y:Prs H i:=i3.fresh m (fun B f=>by have:=d8.next;omega)
 have N1:=p1.next;have N2:=U.next;have N3:=C.next;have N4:=p4.next;have N5:=L.next;have N6:=p6.next;have N7:=m.next
 have a5: ∀ {A:Nat} {o:AObj},H5.h.get A=some o->i.h.get A=some o:=fun {A o} hg=>by
  have:=L.ok.lt hg;rw[m.keep _ (by omega) (by omega)];exact zRn p6 L.ok hg
 have i4:=a5 g5;have i5:=a5 (zRn L p4.ok g4);have ch:Ch (Blk dr) H i At J F [] [] .nilSlice [] a a:=zP4 Y i4 i5 (by omega) (by omega) (by omega) (fun B f=>j.dg.lt f);have c4:=j.prs Y;have i6:=j.prs d7;have k2:Box i z (.ptr At 0):=⟨_,a5 (zRn (p4.trans L) C.ok (zRn C U.ok (zRn U p1.ok g1)))⟩;have k3:Box i B3 (edF ed K V):=⟨_,a5 (zRn (p4.trans L) C.ok g3)⟩;have k4:Box i B4 (S ed.key):=⟨_,a5 (zRn (p4.trans L) C.ok (zRn C U.ok g2))⟩;have l2:ld1 (.ptr z 0) H3=some (.ptr At 0):=by rw[jL (zRn C U.ok (zRn U p1.ok g1))];rfl
 have l6:ld1 (.ptr At 6) H3=some (.int .u64 (a:Nat)):=by rw[jL i6.gT];rfl
 have a6:ld1 (.ptr At 2) i=some (.int .i64 root.at_):=by rw[jL c4.gT];rfl
 have bs:vR [(0,1),(1,1),(2,1),(3,1)] [.nilPtr, .int .u64 ((0:Nat):Int), .nilMap, .nilSlice] [(0, .ptr At 0),(1, .int .u64 (a:Nat)),(2, .map F)]=some (.agg [.ptr At 0, .int .u64 (a:Nat), .map F, .nilSlice]):=rfl;have d9:vR [(0,1),(1,1),(2,1),(3,1)] [.bool false, .nilSlice, .nilSlice, .nilSlice] [(0, .bool true)]=some (.agg [.bool true, .nilSlice, .nilSlice, .nilSlice]):=rfl;have e0: ¬(((0:Nat):Int)≠((0:Nat):Int)):=by omega
 have e1:(((5:Nat):Int)≠((0:Nat):Int)):=by omega
 rcases hr with⟨rfl,rfl,rfl⟩ | ⟨h,nd,t,S0,hs,rn,wr,nd0,rfl,rfl⟩
 ·
  have f5:pZ.at_=((0:Nat):Int):=rfl;rw[f5]at a6;have wl:kC i (.agg [.bool true, .nilSlice, .nilSlice, .nilSlice]) (leafOf []):=⟨.nilSlice, .nilSlice, .nilSlice,rfl, .inl (zRo ..), .inl (zRo ..), .inl (zRo ..)⟩;have e2:Lf none none ([]:Kvs):=⟨trivial,by simp⟩;obtain⟨u,H8,_,e8,p8,w8⟩:=zJp (M+1) n (by omega) Y.ok wl e2 (by decide) ho (hb.prs j.ok Y);obtain⟨lu,rfl,a7,c5⟩:=w8.1.cells;obtain⟨H9,B8,b9,p9,g9,m9,n9⟩:=box p8.ok (.cells [.bool false, .nilSlice, .nilSlice, .nilSlice] 119 1 false);obtain⟨Z,i7,c6,s10,i8⟩:=jW p9.ok g9 (l':=lu) a7 c5;have d3:stN 4 (.ptr B8 0) (.agg lu) H9=some (jO,Z):=i7;have N8:=p8.next;have N9:=p9.next;have i9:=s10.next
  have a8:Prs i Z:=(p8.trans p9).fresh s10 (fun B f=>by omega);have f7:=ch.step a8
  cases y:ed.run []with
  | none=>
   have c7:edL ed []=(nd0,5):=by simp only[edL,y]
   rw[c7]at e8;refine⟨5,Z, ?_,rfl,Y.trans a8⟩;simp(maxSteps:=999999)(disch:=omega) only[f82,eZ,b1,b2,b3,cbx,l2,l6,mkM,b4,bs,b5,b6,e7,k2.ld,a6,k3.ld,d9,e8,jM,nth,b9,d3,e1,ne_eq,j6]
  | some kv'=>
   have c7:edL ed []=(leafOf kv',0):=by simp only[edL,y]
   rw[c7]at e8 w8;obtain⟨j0,j1⟩:=Ed.leaf (lo:=none) (hi:=none) e2 trivial trivial ho y;have c8:kv'≠[]:=by
    cases ed with
    | put k v=>simp only[Ed.run,zB]at y;subst y;simp[Nd.putP]
    | del k=>simp[Ed.run,Nd.lookP]at y
   have f8:xL (Blk dr) Z .nilSlice (.agg lu) (leafOf kv'):=⟨(w8.1.prs p9).stp s10 (fun B f e=>by
    have:=w8.1.lt f;omega),fun B f=>⟨fun hg=>(zRl.1 hg).elim,fun hx=>by have:=w8.2 B f;have:=j.dg.lt hx;omega⟩⟩
   obtain⟨a9,c0,f9,j2⟩:=zK2 (dy (M+2)) n f7 f8 (by omega);have hQ:Qf E q ([]++[(a+1,leafOf kv')]) (pp (a+1))=some (leafOf kv'):=by rw[zB1];simp[jV]
   obtain⟨O,j3,dn⟩:=QZ (dy (M+2)) n (rp:=pp (a+1)) (h:=0) (t:=kv') (S:=[]) (Fr:=[pp (a+1)]) (R:=[]) (T:=[]) j hq f9 (by simp) (by omega) (by simp;omega) d6 (by simp;omega) hQ ⟨rfl,rfl⟩ ⟨j0,c8,by simp only[cE]at j1;omega⟩ (by simp) (by simp) (by
    intro p hp;simp only[y6]at hp;subst hp;exact⟨_,rfl,by omega⟩) (by simp) (by simp) (by simp) (by simp)
   refine⟨0,O, ?_,rfl,dn.mono (by omega) (by omega)⟩;have k6:ld1 (.ptr B6 0) Z=some (.ptr J 0):=(x7.mono m.ok a8 (fun x=>x)).ld;have j4:ld1 (.ptr B6 0) a9=some (.ptr J 0):=by
    refine((x7.mono m.ok a8 (fun x=>x)).mono a8.ok j2.1 (fun hc=> ?_)).ld;rcases hc with e | e | e
    .omega
    .omega
    .exact(zRl.1 e).elim
   simp(maxSteps:=999999)(disch:=omega) only[f82,eZ,b1,b2,b3,cbx,l2,l6,mkM,b4,bs,b5,b6,e7,k2.ld,a6,k3.ld,d9,e8,jM,nth,b9,d3,e0,k6,bY c6 a7,c0,wC j4 (cbx.2.2.2.2.2.2 _ _),j3]
 ·
  have h10: ¬root.at_=((0:Nat):Int):=by have:=zMn hs;omega
  have hh:=wr.low c3;obtain⟨H8,N,b8,p8,g8,m8,n8⟩:=box Y.ok (.cells [.int .i64 ((0:Nat):Int)] 3 1 false);obtain⟨H9,e9,x9,s9⟩:=Box.st (⟨_,g8⟩:Box H8 N (.int .i64 ((0:Nat):Int))) p8.ok (x:= .int .i64 ((0:Nat):Int)) rfl;obtain⟨Z,W,e3,b0,c6,o0,i8⟩:=box s9.ok (.cells [.nilFunc] 121 1 false);obtain⟨a9,c0,e4,a3⟩:=Box.st (⟨_,c6⟩:Box Z W .nilFunc) b0.ok (x:=zGf N z B3 B4 W B6) rfl;obtain⟨O,B8,e5,b7,j5,o1,j7⟩:=box a3.ok (.cells [.bool false, .nilSlice, .nilSlice, .nilSlice] 119 1 false);have N8:=p8.next;have N9:=s9.next;have i9:=b0.next;have o2:=a3.next;have o3:=b7.next
  have j8:Prs i H9:=p8.fresh s9 (fun B f=>by omega);have c9:Prs i a9:=(j8.trans b0).fresh a3 (fun B f=>by omega);have a0:Prs i O:=c9.trans b7;have g0:=ch.step a0;have l9:=c4.prs a0;have g7:=c4.prs c9;have j9:Box O N (.int .i64 ((0:Nat):Int)):=((x9.mono s9.ok b0 (fun x=>x)).mono b0.ok a3 (by omega)).mono a3.ok b7 (fun x=>x);have h1:Box O W (zGf N z B3 B4 W B6):=e4.mono a3.ok b7 (fun x=>x);have k6:Box O B6 (.ptr J 0):=x7.mono m.ok a0 (fun x=>x);have cl:Cl H O At J K V ed N z B3 B4 W B6 0:=⟨j9,k2.mono m.ok a0 (fun x=>x),k3.mono m.ok a0 (fun x=>x),k4.mono m.ok a0 (fun x=>x),h1,k6,hb,by omega,by omega,by omega,by omega,by omega,by omega⟩;have hold: ∀kv∈es,∀B,xX kv.2 B->B<H.next:=fun kv c3 B f=>by
   obtain⟨o4,k0⟩:=j.pq.mem kv c3;exact k0.lt f
  have c8:0<h->nd.keys≠[]:=fun h0=>by
   cases h with
   | zero=>omega
   | succ h=>rw[rn.2.1];exact wr.2.1
  obtain⟨u,e,g',c1,k1,a1,⟨lu,rfl,a7,c5⟩,a2⟩:=zOX j hold j.ds hq ho h M (M+1) (by omega) (by omega) g0 cl hs rn wr.gen wr.sz c8 (by cases h<;>trivial) (by cases h<;>trivial) (by omega) (by omega) (by simp;omega);have k5: ¬(chg J F .nilSlice B8\/B8=N):=fun hc=>by
   rcases hc with(e | e | e) | e
   .omega
   .omega
   .exact(zRl.1 e).elim
   .omega
  have c2:c1.h.get B8=some (.cells [.bool false, .nilSlice, .nilSlice, .nilSlice] 119 1 false):=by rw[a1.keep _ j7 k5];exact j5
  have h2:Box c1 B6 (.ptr J 0):=k6.mono b7.ok a1 (fun hc=>by
   rcases hc with(e | e | e) | e
   .omega
   .omega
   .exact(zRl.1 e).elim
   .omega)
  obtain⟨d0,k7,k8,a4,o5⟩:=jW a1.ok c2 (l':=lu) a7 c5;have d4:stN 4 (.ptr B8 0) (.agg lu) c1=some (jO,d0):=k7;have h3:ld1 (.ptr B6 0) d0=some (.ptr J 0):=(h2.mono a1.ok a4 (by omega)).ld;have e6:ld1 (.ptr z 0) a9=some (.ptr At 0):=(k2.mono m.ok c9 (fun x=>x)).ld;have lr:ldN 3 (.ptr At 2) a9=some (.agg (jR root)):=by rw[jQ g7.gT];rfl
  have d5:=e4.ld;have f1:callV [(127,f127 (dy (M+2)) n),(126,f126 (dy (M+2)) n),(131,f131 (dy (M+2)) n)] (dy (M+2)) (zGf N z B3 B4 W B6) [.agg (jR root)] O=some (.tuple [.agg lu, .int .i64 ((e:Nat):Int)],c1):=k1;have f2:(.func 128 [] [.ptr N 0, .ptr z 0, .ptr B3 0, .ptr B4 0, .ptr W 0, .ptr B6 0]:AV)=zGf N z B3 B4 W B6:=rfl
  cases y:ed.run (con h t)with
  | none=>
   rw[y]at a2;have a2:e=5:=a2;subst a2;refine⟨5,d0, ?_,rfl,⟨a4.ok,by have:=a1.next;have:=a4.next;omega,fun B f _=> ?_⟩⟩
   .simp(maxSteps:=999999)(disch:=omega) only[f82,eZ,b1,b2,b3,cbx,l2,l6,mkM,b4,bs,b5,b6,e7,k2.ld,a6,h10,b8,e9,e3,f2,c0,d5,e6,lr,e5,f1,jM,nth,d4,e1,ne_eq,j6]
   .have:=a1.next
    rw[a4.keep B (by omega) (by omega),a1.keep B (by omega) (fun hc=>by
     rcases hc with(e | e | e) | e
     .omega
     .omega
     .exact(zRl.1 e).elim
     .omega),a0.keep B (by omega) (fun x=>x),Y.keep B f (fun x=>x)]
  | some kv'=>
   rw[y]at a2;obtain⟨rfl,m0,f',d1,l8,d',o6,S',G,R,Fr,t',h4,m7,h5,h6,h7,f6,n0,f3,hG,o7,o8,o9,k9,d2,l0,l1,more,bg⟩:=a2;have h8:=h4.stb c2 a4 (by omega) (by omega);have h9:=h5.stb c2 a4;rw[qS]at f3;subst f3;have l3:(root::S0).Nodup:=nd0;have l4:(d1++R).Nodup:=d2.nodup_iff.1 l3;have i0: ∀p∈root::S0,∃nd,Qf E q [] p=some nd:=fun p hp=>by
    rcases zP.1 hp with rfl | hp
    .exact⟨nd,hs⟩
    .exact kU.here rn p hp
   have f4: ∀p∈d1++R,∃nd,Qf E q [] p=some nd:=fun p hp=>i0 p (d2.mem_iff.2 hp)
   have i1: ∀p∈d1,∃nd,Qf E q [] p=some nd:=fun p hp=>f4 p (yC _ hp)
   obtain⟨l5,l7,dn⟩:=zLN (dy (M+2)) n (by omega) j hq h8 i1 (by omega) (by omega) d6 h9 h6 h7 k9 l4 l1 l0 (fun p hp=>f4 p (yR _ hp)) (by omega) d2 (by omega);rw[f6]at dn;refine⟨0,l5, ?_,rfl,dn.mono (by omega) (by omega)⟩;simp(maxSteps:=999999)(disch:=omega) only[f82,eZ,b1,b2,b3,cbx,l2,l6,mkM,b4,bs,b5,b6,e7,k2.ld,a6,h10,b8,e9,e3,f2,c0,d5,e6,lr,e5,f1,jM,nth,d4,e0,h3,bY k8 a7,l7]
end Go.Eng.Sh
end
section
set_option maxRecDepth 20000
namespace Go.Eng.Sh
open Go.Nd (Ptr sumL leafOf Kvs mayK putP delP lookP)
open Go.Bt
variable {E:Ev}
def dO (d c:AV)(E:Ev)(H:AH)(At M L:Nat)(W:Nat->Prop)(kv:Kvs)(T:List Ptr):Prop:= ∃f root es q a,isCell c=true/\TI E H At M d c root es q a f/\(∀s nd,jV s q=some nd->s<=a)/\q.length<=a/\a<=L/\E.dl.length<=L/\gP E q root kv T/\ ∀B,W B↔B=At\/B=M\/Blk f B
def uE (d c:AV)(E:Ev)(H:AH)(At M L:Nat)(W:Nat->Prop)(root:Ptr)(q:PN)(kv:Kvs)(T:List Ptr):Prop:= ∃f es a,isCell c=true/\TI E H At M d c root es q a f/\(∀s nd,jV s q=some nd->s<=a)/\q.length<=a/\a<=L/\E.dl.length<=L/\gP E q root kv T/\ ∀B,W B↔B=At\/B=M\/Blk f B
theorem uE.d {d c:AV}{E:Ev}{H:AH}{At M L:Nat}{W:Nat->Prop}{root:Ptr}{q:PN}{kv:Kvs}{T:List Ptr}(h:uE d c E H At M L W root q kv T):dO d c E H At M L W kv T:=by
 obtain⟨f,es,a,h⟩:=h;exact⟨f,root,es,q,a,h⟩
theorem dO.x {d c:AV}{E:Ev}{H:AH}{At M L:Nat}{W:Nat->Prop}{kv:Kvs}{T:List Ptr}(h:dO d c E H At M L W kv T): ∃root q,uE d c E H At M L W root q kv T:=by
 obtain⟨f,root,es,q,a,h⟩:=h;exact⟨root,q,f,es,a,h⟩
theorem dO.prs {d c:AV}{H H':AH}{At M L:Nat}{W:Nat->Prop}{kv:Kvs}{T:List Ptr}(h:dO d c E H At M L W kv T)(s:Prs H H'):dO d c E H' At M L W kv T:=by
 obtain⟨f,root,es,q,a,i,j,m⟩:=h;exact⟨f,root,es,q,a,i,j.prs s,m⟩
theorem dO.up {d c:AV}{H:AH}{At M L a:Nat}{W:Nat->Prop}{kv:Kvs}{T:List Ptr}(h:dO d c E H At M L W kv T)(hl:L<=a):dO d c E H At M a W kv T:=by
 obtain⟨i,root,es,q,f,j,m,o,p,u,v,s,t⟩:=h;exact⟨i,root,es,q,f,j,m,o,p,by omega,by omega,s,t⟩
theorem dO.okH {d c:AV}{H:AH}{At M L:Nat}{W:Nat->Prop}{kv:Kvs}{T:List Ptr}(h:dO d c E H At M L W kv T):H.ok:=by
 obtain⟨i,root,es,q,f,j,a,_⟩:=h;exact a.ok
theorem dO.lt {d c:AV}{H:AH}{At M L:Nat}{W:Nat->Prop}{kv:Kvs}{T:List Ptr}(h:dO d c E H At M L W kv T): ∀B,W B->B<H.next:=by
 obtain⟨m,root,es,q,j,o,a,_,_,_,_,_,f⟩:=h;intro B i;rcases(f B).1 i with rfl | rfl | e
 .exact a.ok.lt a.gT
 .exact a.ok.lt a.gM
 .exact a.dg.lt e
def AdT (W:Nat->Prop)(H:AH)(a:Nat->Prop)(H':AH):Prop:=Stp W H H'/\ ∀B,a B->W B\/H.next<=B
theorem AdT.prs {W:Nat->Prop}{H H':AH}(s:Prs H H'):AdT W H W H':=⟨s.mono fun _ _ x=>x.elim,fun _ h=> .inl h⟩
theorem AdT.trans {W f i:Nat->Prop}{H j m:AH}(h:AdT W H f j)(k:AdT f j i m):AdT W H i m:=by
 refine⟨Stp.thr h.1 k.1 fun B a=> ?_,fun B a=> ?_⟩
 .rcases h.2 B a with e | e
  .exact .inr e
  .exact .inl e
 .have:=h.1.next
  rcases k.2 B a with e | e
  .exact h.2 B e
  .exact .inr (by omega)
structure Chd (E E':Ev)(T T':List Ptr):Prop where
 nb:E'.nb=E.nb
 ws:E'.ws=E.ws
 pm:(dsk T'++E'.dl).Perm (dsk T++E.dl)
theorem Chd.refl (E:Ev)(T:List Ptr):Chd E E T T:=⟨rfl,rfl,List.Perm.refl _⟩
theorem Chd.trans {E a f:Ev}{T i j:List Ptr}(h:Chd E a T i)(k:Chd a f i j):Chd E f T j:=⟨k.nb.trans h.nb,k.ws.trans h.ws,k.pm.trans h.pm⟩
theorem zMp.treeD {H0 H':AH}{At M low j L:Nat}{d c o:AV}{kv:Kvs}{T:List Ptr}{W:Nat->Prop}(h:zMp E H0 H' At M d c o low j kv T)(u:isCell c=true)(a: ∀B,W B↔B=At\/B=M\/Blk o B)(hL:j<=L)(hd:E.dl.length+100<=L):
  ∃p s f,dO d c p H' At M L s kv f/\AdT W H0 s H'/\Chd E p T f:=by
 obtain⟨gl,root,es,q,t,m,f,v,y,z,C,F,O,S,J,K,h10⟩:=h;have N:=zF6 E gl;refine⟨E.drop gl,fun B=>B=At\/B=M\/Blk m B,f,⟨m,root,es,q,t,u,v,C,F,by omega,by omega,J,fun B=>Iff.rfl⟩,⟨y.mono fun B _ i=>(a B).2 i,fun B i=> ?_⟩,⟨rfl,rfl,K⟩⟩;rcases i with e | e | e
 .exact .inl ((a B).2 (.inl e))
 .exact .inl ((a B).2 (.inr (.inl e)))
 .rcases z B e with x | x
  .exact .inl ((a B).2 (.inr (.inr x)))
  .exact .inr x
def WO (k v:Str):Bool:=mayK k&&decide (v.length<=200)
theorem zNY (m n:Nat)(hm:300000000<=m)(U:300000000<=n){d c:AV}{H:AH}{At M L:Nat}{W:Nat->Prop}{kv:Kvs}{T:List Ptr}{k v:Str}(t:dO d c E H At M L W kv T)(hL:L<=500000000)(K:kv.length<=1000000000):
  ∃H' a f h,f38 (dy (m+2)) n [.ptr At 0,S k,S v] H=some (.int .i64 ((if WO k v then 0 else 1:Nat):Int),H')/\dO d c a H' At M (L+200) f (if WO k v then putP k v kv else kv) h/\AdT W H f H'/\Chd E a T h:=by
 obtain⟨dr,root,es,q,a0,V,z,Y,Z,h4,a4,h5,hW⟩:=id t;obtain⟨H1,A4,b1,o,g1,m1,n1⟩:=box z.ok (.cells [S k] 9 1 false);obtain⟨i,C,b2,F,g2,m2,n2⟩:=box o.ok (.cells [S v] 9 1 false);have j:=o.trans F;have u:=z.prs j;have x4:Box i A4 (S k):=⟨_,zRn F o.ok g1⟩;have p:Box i C (S v):=⟨_,g2⟩;have x:=YT (dy (m+2)) n u;by_cases hp:WO k v=true
 .obtain⟨y,N⟩:mayK k=true/\v.length<=200:=by simpa[WO]using hp
  obtain⟨e,J,e3,s⟩:=zCu m n hm U (ed:= .put k v) u Y Z (by omega) h5 (by omega) K ⟨y,N⟩ ⟨x4,p⟩;simp only[Ed.run]at s;obtain⟨rfl,dn⟩:=s;obtain⟨a,f,h,d1,d2,d3⟩:=dn.treeD V hW (L:=L+200) (by omega) (by omega);simp only[Nd.mayK,zE,zR]at y;refine⟨J,a,f,h, ?_,by rw[if_pos hp];exact d1,(AdT.prs j).trans d2,d3⟩;have a1: ¬((k.length:Nat):Int)< ((1:Nat):Int):=by omega
  have a2: ¬((40:Nat):Int)< ((k.length:Nat):Int):=by omega
  have a3: ¬((200:Nat):Int)< ((v.length:Nat):Int):=by omega
  have O:f82 (dy (m+2)) n [.ptr At 0,S k, .func 88 [] [.ptr A4 0, .ptr C 0]] i=some (.int .i64 ((0:Nat):Int),J):=e3;simp(maxSteps:=999999)(disch:=omega) only[f38,eZ,cbx,b1,b2,x,x4.ld,p.ld,a1,a2,a3,O,hp]
 .refine⟨i,E,W,T, ?_,by rw[if_neg hp];exact(t.prs j).up (by omega),AdT.prs j,Chd.refl E T⟩;have hx:((k.length:Nat):Int)< ((1:Nat):Int)\/((40:Nat):Int)< ((k.length:Nat):Int)\/((200:Nat):Int)< ((v.length:Nat):Int):=by
   simp only[WO,Nd.mayK,zE,zR]at hp;omega
  simp(maxSteps:=999999)(disch:=omega) only[f38,eZ,cbx,b1,b2,x,x4.ld,p.ld,hp];rw[if_pos (by simpa[or_assoc]using hx)];rfl
def J0 (k:Str)(kv:Kvs):Nat:=if mayK k then(if(lookP k kv).isSome then 0 else 5)else 1
theorem zOZ (m n:Nat)(hm:300000000<=m)(K:300000000<=n){d c:AV}{H:AH}{At M L:Nat}{W:Nat->Prop}{kv:Kvs}{T:List Ptr}{k:Str}(t:dO d c E H At M L W kv T)(hL:L<=500000000)(C:kv.length<=1000000000):
  ∃H' j o p,f29 (dy (m+2)) n [.ptr At 0,S k] H=some (.int .i64 ((J0 k kv:Nat):Int),H')/\dO d c j H' At M (L+200) o (if J0 k kv=0 then delP k kv else kv) p/\AdT W H o H'/\Chd E j T p:=by
 obtain⟨dr,root,es,q,a0,N,y,O,U,h4,a3,Y,Z⟩:=id t;obtain⟨u,A4,b1,f,g1,m1,n1⟩:=box y.ok (.cells [S k] 9 1 false);have v:=y.prs f;have x4:Box u A4 (S k):=⟨_,g1⟩;have x:=YT (dy (m+2)) n v;by_cases hp:mayK k=true
 .obtain⟨e,s,e3,i⟩:=zCu m n hm K (V:=0) (ed:= .del k) v O U (by omega) Y (by omega) C hp x4;have F:=hp;simp only[Nd.mayK,zE,zR]at F;have a1: ¬((k.length:Nat):Int)< ((1:Nat):Int):=by omega
  have a2: ¬((40:Nat):Int)< ((k.length:Nat):Int):=by omega
  have J:f82 (dy (m+2)) n [.ptr At 0,S k, .func 83 [] [.ptr A4 0]] u=some (.int .i64 ((e:Nat):Int),s):=e3;have run:f29 (dy (m+2)) n [.ptr At 0,S k] H=some (.int .i64 ((e:Nat):Int),s):=by
   simp(maxSteps:=999999)(disch:=omega) only[f29,eZ,cbx,b1,x,x4.ld,a1,a2,J,hp]
  cases hr:(Ed.del k).run kv with
  | none=>
   rw[hr]at i;obtain⟨rfl,z⟩:=i;have hl:(lookP k kv).isSome=false:=by
    simp only[Ed.run]at hr;split at hr
    .cases hr
    .rename_i h;simpa using h
   have a:J0 k kv=5:=by simp only[J0,hp,if_true,hl,zL,qC]
   refine⟨s,E,W,T,by rw[a];exact run,by rw[a];exact(t.prs (f.trans z)).up (by omega),AdT.prs (f.trans z),Chd.refl E T⟩
  | some kv'=>
   rw[hr]at i;obtain⟨rfl,dn⟩:=i;obtain⟨j,o,p,d1,d2,d3⟩:=dn.treeD N Z (L:=L+200) (by omega) (by omega);have hl:(lookP k kv).isSome=true/\delP k kv=kv':=by
    simp only[Ed.run]at hr;split at hr
    .rename_i h;exact⟨h,by simpa using hr⟩
    .cases hr
   have a:J0 k kv=0:=by simp only[J0,hp,if_true,hl.1]
   refine⟨s,j,o,p,by rw[a];exact run,by rw[a,if_pos rfl,hl.2];exact d1,(AdT.prs f).trans d2,d3⟩
 .have a:J0 k kv=1:=by simp only[J0,hp,zL,qC]
  refine⟨u,E,W,T, ?_,by rw[a];exact(t.prs f).up (by omega),AdT.prs f,Chd.refl E T⟩;rw[a];have hx:((k.length:Nat):Int)< ((1:Nat):Int)\/((40:Nat):Int)< ((k.length:Nat):Int):=by
   simp only[Nd.mayK,zE,zR]at hp;omega
  simp(maxSteps:=999999)(disch:=omega) only[f29,eZ,cbx,b1,x,x4.ld];rw[if_pos (by simpa using hx)];rfl
end Go.Eng.Sh
end
section
set_option maxRecDepth 20000
namespace Go.Eng
def Stk (k e:Nat)(H:AH)(v:AV)(n:Nat)(l:List AV):Prop:=
 l.length=n*k/\((v= .nilSlice/\n=0)\/ ∃A cc cells g r,v= .slice A 0 n cc/\A<H.next/\H.h.get A=some (.cells cells e k g)/\cells.length=r*k/\n<=r/\cells.take (n*k)=l/\(cc=2*r\/(cc=1/\g=true)))
theorem Stk.row {k e n:Nat}{H:AH}{v:AV}{l:List AV}(h:Stk k e H v n l):Rw k H v n l:=by
 obtain⟨a,⟨rfl,rfl⟩ | ⟨A,cc,cells,g,r,rfl,f,i,hl,j,m,_⟩⟩:=h
 .exact⟨a, .inl ⟨rfl,rfl⟩⟩
 .have:=yN k j;exact⟨a, .inr (.inr ⟨A,0,cc,cells,e,k,g,rfl,i,f,by omega,by rw[yB];exact m⟩)⟩
theorem Stk.mono {k e n:Nat}{S:Nat->Prop}{H H':AH}{v:AV}{l:List AV}(h:Stk k e H v n l)(s:Stp S H H')(i: ∀A,Blk v A-> ¬S A):Stk k e H' v n l:=by
 obtain⟨a,j | ⟨A,cc,cells,g,r,rfl,f,m,o⟩⟩:=h
 .exact⟨a, .inl j⟩
 .exact⟨a, .inr ⟨A,cc,cells,g,r,rfl,qQ f s.next,by rw[s.keep A f (i A (zRd.2 rfl))];exact m,o⟩⟩
theorem Stk.lt {k e n:Nat}{H:AH}{v:AV}{l:List AV}(h:Stk k e H v n l){B:Nat}(a:Blk v B):B<H.next:=by
 obtain⟨i,⟨rfl,rfl⟩ | ⟨A,cc,cells,g,r,rfl,f,j,m⟩⟩:=h
 .exact(zRl.1 a).elim
 .rw[zRd.1 a];exact f
theorem Stk.isCell {k e n:Nat}{H:AH}{v:AV}{l:List AV}(h:Stk k e H v n l):isCell v=true:=h.row.isCell
theorem Stk.room {k:Nat}{cells:List AV}{g:Bool}{cc r:Nat}(a:0<k)(hl:cells.length=r*k)(f:cc=2*r\/(cc=1/\g=true)):kL cells g k 0 cc k=r:=by
 rcases f with rfl | ⟨rfl,rfl⟩
 .simp only[kL,show((2*r) % 2).beq 0=true by rw[jC];rfl,zM,yQ r (show 0<2 by omega)]
 .simp only[kL,show((1 % 2).beq 0)=false from rfl,qH,yF,show Nat.beq 0 (1 / 2*k)=true from by simp,qN,zM,jX,hl,jD];exact Nat.mul_div_cancel _ a
theorem Stk.cut {k e n i:Nat}{H:AH}{v:AV}{l:List AV}(h:Stk k e H v n l)(m:0<k)(hi:i<=n)(κ:IntKind):
  ∃r,vY k v none (some (.int κ (i:Nat))) none H=some r/\Stk k e H r i (l.take (i*k))/\ ∀B,Blk r B->Blk v B:=by
 have f:=kK κ (z:=((i:Nat):Int)) (by omega);simp only[y7]at f;have hb:Nat.blt 0 k=true:=by rw[qD];exact m
 have t:i*k<=n*k:=yN _ hi;obtain⟨u,⟨rfl,rfl⟩ | ⟨A,cc,cells,g,r,rfl,q,j,hl,C,x,s⟩⟩:=h
 .obtain rfl:i=0:=by omega
  exact⟨.nilSlice,by simp only[vY,kX,f];simp,⟨by simp, .inl ⟨rfl,rfl⟩⟩,fun B a=>a⟩
 .have b1:Nat.ble i r=true:=by rw[qV];omega
  have b2:Nat.ble 0 i=true:=by rw[qV];omega
  have hr:=Stk.room m hl s;have o:(l.take (i*k)).length=i*k:=by rw[qA,u];omega
  have p:cells.take (i*k)=l.take (i*k):=by rw[<-x,List.take_take,Nat.min_eq_left t]
  rcases s with rfl | ⟨rfl,rfl⟩
  .refine⟨.slice A 0 i (2*r), ?_,⟨o, .inr ⟨A,2*r,cells,g,r,rfl,q,j,hl,by omega,p, .inl rfl⟩⟩,fun B a=>by rw[zRd.1 a];exact zRd.2 rfl⟩;have y:(2*r) / 2=r:=yQ r (show 0<2 by omega);simp only[vY,kX,f,j,hb,zM,K1,hr,Option.getD_none,qZ,b1,b2,qN,show((2*r) % 2).beq 0=true by rw[jC];rfl,kD,Nat.zero_mul,Nat.add_zero,jD,y]
   cases Nat.beq r 0<;>rfl
  .refine⟨.slice A 0 i 1, ?_,⟨o, .inr ⟨A,1,cells,true,r,rfl,q,j,hl,by omega,p, .inr ⟨rfl,rfl⟩⟩⟩,fun B a=>by rw[zRd.1 a];exact zRd.2 rfl⟩;simp only[vY,kX,f,j,hb,zM,K1,hr,Option.getD_none,qZ,b1,b2,qN,show((1 % 2).beq 0)=false from rfl,qH,kD,show Nat.beq 0 0=true from rfl]
theorem Stk.app {k e bytes n m:Nat}{H:AH}{v s:AV}{l new:List AV}(j:H.ok)(q:0<k)(h:Stk k e H v n l)(O:srcOf k s H=some (m,new))(hm:new.length=m*k)(S:jP new=true)(a1:m=1)(x:n+m<=1000000000)(hb:bytes<=1000):
  ∃a H',apP e k bytes v s H=some (a,H')/\Stk k e H' a (n+m) (l++new)/\Stp (Blk v) H H'/\ ∀B,Blk a B->Blk v B\/H.next<=B:=by
 suffices hx: ∃a H',app1 e k bytes m new v H=some (a,H')/\Stk k e H' a (n+m) (l++new)/\Stp (Blk v) H H'/\ ∀B,Blk a B->Blk v B\/H.next<=B by
  obtain⟨a,H',T,U⟩:=hx;exact⟨a,H',by simp only[apP,O,S,zM,T],U⟩
 have own: ∀ {H':AH},Own k e H' (.slice H.next 0 (n+m) 1) (n+m) (l++new)->Stk k e H' (.slice H.next 0 (n+m) 1) (n+m) (l++new):=fun {H'} V=>by
  obtain⟨F,⟨q1,_⟩ | ⟨A,q1,q2,q3⟩⟩:=V
  .cases q1
  .exact⟨F, .inr ⟨A,1,_,true,n+m,q1,q2,q3,F,zQ _,zX (by omega), .inr ⟨rfl,rfl⟩⟩⟩
 have h':=h;obtain⟨f,⟨rfl,rfl⟩ | ⟨A,cc,cells,g,r,rfl,o,y,hl,L,z,u⟩⟩:=h
 .obtain rfl:l=[]:=zV (by simpa using f);obtain⟨H',W,Y,Z,e4⟩:=KN (k:=k) (e:=e) (bytes:=bytes) (new:=new) (n:=0) (m:=m) j q (zRo k e H) hm (by omega) x hb;exact⟨_,H',W,own Y,Z,fun B i=> .inr (by rw[zRd.1 i];exact zQ _)⟩
 .have hr:=Stk.room q hl u;have a0:=yN k L;by_cases p:n+m<=r
  .have b1:Nat.ble (n+m) r=true:=by rw[qV];exact p
   have hz:Nat.blt 0 k=true:=by rw[qD];exact q
   have J:=yN k p;rw[j7]at J;have K:setAt cells (0+n*k) new=some (cells.take (n*k)++new++cells.drop (n*k+m*k)):=by rw[xD (by omega),hm];simp only[yW]
   have t:(cells.take (n*k)).length=n*k:=by rw[z,f]
   refine⟨.slice A 0 (n+m) cc,H.put A (.cells (cells.take (n*k)++new++cells.drop (n*k+m*k)) e k g), ?_,⟨by simp[f,hm,j7], .inr ⟨A,cc,_,g,r,rfl,o,by rw[zRc,if_pos rfl], ?_,p, ?_,u⟩⟩,(zRf j).put o _ (.inr (zRd.2 rfl)),fun B i=> .inl (by rw[zRd.1 i];exact zRd.2 rfl)⟩
   .simp only[app1,y,zGu,hr,b1,zM,hz,K,zCN,kO,kD]
   .simp only[zT,t,hm,qK];omega
   .rw[z,List.take_append_of_le_length (by simp[f,hm,j7]),zX (by simp[f,hm,j7])]
  .have b1:Nat.ble (n+m) r=false:=by rw[y8];intro e;rw[qV]at e;omega
   have C:uU cells 0 (n*k)=some l:=by rw[kW _ _ _ (.inr (by omega)),yB,z]
   rcases u with rfl | ⟨rfl,rfl⟩
   .refine⟨.slice H.next 0 (n+m) 1,H.push (.cells (l++new) e k true), ?_,own ⟨by simp[f,hm,j7], .inr ⟨H.next,rfl,Nat.lt_succ_self _,zR8 _ _⟩⟩,(zRf j).push _,fun B i=> .inr (by rw[zRd.1 i];exact zQ _)⟩
    simp only[app1,y,zGu,hr,b1,qH,show((2*r) % 2).beq 0=true by rw[jC];rfl,zM,C,vO,aH x hb,aW,ZO j,kD]
   .obtain rfl:n=r:=by omega
    have t:Nat.beq (0+n*k) (Z4 cells 0)=true:=by rw[jX,hl,yW,yF]
    have N:(H.put A .dead).ok:=j.put o _;refine⟨.slice H.next 0 (n+m) 1,(H.put A .dead).push (.cells (l++new) e k true), ?_,own ⟨by simp[f,hm,j7], .inr ⟨H.next,rfl,Nat.lt_succ_self _,zR8 (H.put A .dead) _⟩⟩,((zRf j).put o _ (.inr (zRd.2 rfl))).push _,fun B i=> .inr (by rw[zRd.1 i];exact zQ _)⟩
    simp only[app1,y,zGu,hr,b1,qH,show((1 % 2).beq 0)=false from rfl,t,yF,show Nat.beq 0 (1 / 2*k)=true from by simp,qN,zM,kO,C,vO,
     aH x hb,aW,ZO N,kD,zRa]
end Go.Eng
end
section
set_option maxRecDepth 20000
namespace Go.Eng.Sh
open Go.Nd (Ptr sumL)
end Go.Eng.Sh
end
section
set_option maxRecDepth 20000
namespace Go.Eng
theorem WV {H:AH}(a:H.ok)(o:AObj)(K:Nat->AH->Rs):VQ H o K=K H.next (H.push o):=zDg a o K
end Go.Eng
namespace Go.Eng.Sh
open Go.Nd (Ptr sumL)
end Go.Eng.Sh
end
section
set_option maxRecDepth 20000
namespace Go.Eng.Sh
open Go.Nd (Str Ptr sumL leafOf Kvs Srt mayK putP delP lookP)
open Go.Bt
variable {E:Ev}
def Item (E:Ev)(q:PN)(p:Ptr)(c:Kvs)(w:Nat):Prop:= ∃nd h,∃t:Bt.Tr h,∃S lo hi,Qf E q [] p=some nd/\kU (Qf E q []) h nd t S/\Gen h lo hi t/\(0<h->nd.keys≠[])/\wI h t<=500/\c=con h t/\w=1+S.length
def U1 (E:Ev)(q:PN):List Ptr->Kvs->Nat->Prop
 | [],c,w=>c=[]/\w=0
 | p::ps,c,w=> ∃c1 c2 a f,Item E q p c1 a/\U1 E q ps c2 f/\c=c1++c2/\w=a+f
theorem U1.app {q:PN}{i:List Ptr}{c':Kvs}{f:Nat}(j:U1 E q i c' f): ∀ {h:List Ptr} {c:Kvs} {w:Nat},U1 E q h c w->U1 E q (h++i) (c++c') (w+f)
 | [],_,_,⟨e1,e2⟩=>by subst e1;subst e2;simpa using j
 | p::h,_,_,⟨c1,c2,w1,w2,a,b,e1,e2⟩=>⟨c1,c2++c',w1,w2+f,a,U1.app j b,by rw[e1];simp,by omega⟩
theorem U1.len {q:PN} : ∀ {a:List Ptr} {c:Kvs} {w:Nat},U1 E q a c w->a.length<=w
 | [],_,_,_=>by simp
 | p::a,_,_,⟨c1,c2,w1,w2,⟨_,_,_,_,_,_,_,_,_,_,_,_,e⟩,b,e1,e2⟩=>by
  have:=U1.len b;simp only[zW];omega
theorem zHS: ∀(q:PN) (T:List Ptr),T.Nodup->(∀p∈T,∃s nd,p=pp s/\jV s q=some nd)->T.length<=q.length
 | [],T,_,h=>by
  cases T with
  | nil=>simp
  | cons p T=>obtain⟨s,nd,_,e⟩:=h p (zK ..);cases e
 | (a,n)::q,T,hn,h=>by
  by_cases hm:pp a∈T
  .have j:=zHS q (T.erase (pp a)) (hn.erase _) fun p hp=>by
    obtain⟨m,o⟩:=(List.Nodup.mem_erase_iff hn).1 hp;obtain⟨s,nd,e,f⟩:=h p o;refine⟨s,nd,e, ?_⟩;simp only[jV]at f;rw[if_neg (fun i=>m (by rw[e,i]))]at f;exact f
   rw[List.length_erase_of_mem hm]at j;simp only[zW];omega
  .have j:=zHS q T hn fun p hp=>by
    obtain⟨s,nd,e,f⟩:=h p hp;refine⟨s,nd,e, ?_⟩;simp only[jV]at f;rw[if_neg (fun i=>hm (by rw[i,<-e];exact hp))]at f;exact f
   simp only[zW];omega
theorem zFJ {k k':UInt8}{b b':Nat}{x a:Str}(hb:b<=2147483647)(h:b'<=2147483647)(e:Bk.sealB k b x=Bk.sealB k' b' a):b=b':=by
 obtain⟨_,q2,_,_⟩:=Bk.seal_parts (kind:=k) (birth:=b) (body:=x);obtain⟨_,f,_,_⟩:=Bk.seal_parts (kind:=k') (birth:=b') (body:=a);rw[e,f]at q2;have hl:=congrArg Nd.bee q2;rw[Nd.bee_be,Nd.bee_be,Nat.mod_eq_of_lt (by omega),Nat.mod_eq_of_lt (by omega)]at hl;exact hl.symm
theorem K_at {p f:Ptr}{nd m:Nd.Node}(h:E.K p=some nd)(q:E.K f=some m)(e:p.at_=f.at_):p=f:=by
 obtain⟨a,b,k,s,rfl,_,_,_,hb,z,t,_,_⟩:=zRi.1 h;obtain⟨u,b',k',s',rfl,_,_,_,o,y,i,_,_⟩:=zRi.1 q;have v:a=u:=by simp only[fC]at e;omega
 subst v;rw[t]at i;have j:=yD i;have x:=zFJ hb o j;subst x;rw[j]
theorem zDc: ∀(n:Nat) (T:List Ptr),T.Nodup->(∀p∈T,(∃nd,E.K p=some nd)/\p.at_< (n:Nat))->T.length<=n
 | 0,T,_,h=>by
  cases T with
  | nil=>simp
  | cons p T=>
   obtain⟨⟨nd,a⟩,j⟩:=h p (zK ..);have:=(uG a).2;omega
 | n+1,T,hn,h=>by
  by_cases hm: ∃p∈T,p.at_=((n:Nat):Int)
  .obtain⟨p,hp,s⟩:=hm;have a:=zDc n (T.erase p) (hn.erase _) fun x f=>by
    obtain⟨j,m⟩:=(List.Nodup.mem_erase_iff hn).1 f;obtain⟨⟨nd,i⟩,o⟩:=h x m;obtain⟨⟨t,q⟩,_⟩:=h p hp;refine⟨⟨nd,i⟩, ?_⟩;by_cases e:x.at_=p.at_
    .exact absurd (K_at i q e) j
    .omega
   rw[List.length_erase_of_mem hp]at a;omega
  .have a:=zDc n T hn fun x f=>by
    obtain⟨i,o⟩:=h x f;refine⟨i, ?_⟩;have: ¬x.at_=((n:Nat):Int):=fun e=>hm ⟨x,f,e⟩
    omega
   omega
theorem zO1 {q:PN}{T:List Ptr}(t:T.Nodup)(h: ∀p∈T,∃nd,Qf E q [] p=some nd):T.length - (dsk T).length<=q.length/\(dsk T).length<=8192/\(dsk T).length<=T.length:=by
 have hl:=List.length_eq_countP_add_countP (fun p:Ptr=>decide (p.at_≠1)) (l:=T);have u:List.countP (fun p:Ptr=>decide (p.at_≠1)) T=(dsk T).length:=List.countP_eq_length_filter ..;have v:List.countP (fun a:Ptr=>decide ¬(decide (a.at_≠1))=true) T=(T.filter fun a:Ptr=>decide ¬(decide (a.at_≠1))=true).length:=List.countP_eq_length_filter ..;rw[u,v]at hl;have y:=zHS q (T.filter fun a:Ptr=>decide ¬(decide (a.at_≠1))=true) (t.filter _) fun p hp=>by
  obtain⟨j,m⟩:=List.mem_filter.1 hp;have o:p.at_=1:=by simpa using m
  obtain⟨nd,i⟩:=h p j;obtain⟨s,rfl,f | ⟨_,f⟩⟩ | ⟨_,f⟩:=vQ i
  .simp[jV]at f
  .exact⟨s,nd,rfl,f⟩
  .have:=(uG f).2;omega
 have z:=zDc 8192 (dsk T) (t.filter _) fun p hp=>by
  obtain⟨j,m⟩:=List.mem_filter.1 hp;have o:p.at_≠1:=by simpa using m
  obtain⟨nd,i⟩:=h p j;have x:=zB3 i;simp only[Nd.kidOk,zE,zR]at x;obtain⟨s,rfl,_⟩ | ⟨_,f⟩:=vQ i
  .exact absurd rfl o
  .exact⟨⟨nd,f⟩,by omega⟩
 omega
theorem zKP {h:Nat}{nd:Nd.Node}{t:Bt.Tr h}{S:List Ptr}{p:Ptr}{q:PN}(f:Qf E q [] p=some nd)(i:kU (Qf E q []) h nd t S): ∀x∈p::S,∃nd,Qf E q [] x=some nd:=fun x a=>by
 rcases zP.1 a with rfl | a
 .exact⟨nd,f⟩
 .exact kU.here i x a
theorem UC {q:PN}{h:Nat}{p:Ptr}{nd:Nd.Node}{t:Bt.Tr h}{S:List Ptr}(f:Qf E q [] p=some nd)(a:kU (Qf E q []) h nd t S)(wr:WR h t)(nd0:(p::S).Nodup):U1 E q [p] (con h t) (1+S.length)/\1+S.length<=8192+q.length:=by
 constructor
 .refine⟨con h t,[],1+S.length,0,⟨nd,h,t,S,none,none,f,a,wr.gen,fun i=> ?_,wr.sz,rfl,rfl⟩,⟨rfl,rfl⟩,by simp,by omega⟩
  cases h with
  | zero=>omega
  | succ h=>rw[a.2.1];exact wr.2.1
 .have:=zO1 nd0 (zKP f a);simp only[zW]at this;omega
end Go.Eng.Sh
end
section
set_option maxRecDepth 20000
namespace Go.Eng
end Go.Eng
namespace Go.Eng.Sh
open Go.Nd (Ptr sumL leafOf Kvs Srt mayK putP delP lookP)
open Go.Bt
variable {E:Ev}
theorem cK: ∀l:List Ptr,(l.flatMap jR).length=l.length*3
 | []=>rfl
 | p::l=>by
  rw[qG,zT,cK l,zW];show 3+l.length*3=_;omega
end Go.Eng.Sh
end
section
set_option maxRecDepth 20000
namespace Go.Eng.Sh
open Go.Nd (Ptr sumL leafOf Kvs Srt mayK putP delP lookP)
open Go.Bt
variable {E:Ev}
theorem TI.hold {H:AH}{At M a:Nat}{d c i:AV}{root:Ptr}{es:List (AV×AV)}{q:PN}(j:TI E H At M d c root es q a i): ∀kv∈es,∀B,xX kv.2 B->B<H.next:=fun kv f B m=>by
 obtain⟨o,h⟩:=j.pq.mem kv f;exact h.lt m
end Go.Eng.Sh
end
section
set_option maxRecDepth 20000
namespace Go.Eng.Sh
open Go.Nd (Ptr sumL leafOf Kvs Srt mayK putP delP lookP)
open Go.Bt
variable {E:Ev}
end Go.Eng.Sh
end
section
set_option maxRecDepth 20000
namespace Go.Eng
theorem zM7 {κ:IntKind}{m:Int} : ∀ {a:AV},aveq (.int κ m) a=true->a= .int κ m:=by
 intro a h
 cases a<;>simp only[aveq]at h
 case int k z=>
  rw[zE]at h;have f:=h.1;have i:=h.2;rw[xP]at f;rw[xQ]at i;simp only[zR,beq_iff_eq]at f i;subst f;subst i;rfl
 all_goals cases h
theorem zCI (κ:IntKind)(m j:Int):aveq (.int κ j) (.int κ m)=decide (j=m):=by
 have:keq κ κ=true:=by rw[xP];simp
 simp only[aveq,this,Bool.true_and,xQ];rw[yK];simp
theorem UV {κ:IntKind}{m:Int}{v:AV} : ∀ {es es':List (AV×AV)},zB5 (.int κ m) v es=some es'-> ∀j:Int,xJ (.int κ j) es'=if j=m then some v else xJ (.int κ j) es
 | [],_,h,_=>by cases h
 | (a,b)::es,es',h,j=>by
  simp only[zB5]at h
  cases e:aveq (.int κ m) a with
  | true=>
   rw[e]at h;have o:=zM7 e;subst o;obtain rfl:=yD h;simp only[xJ,zCI];by_cases f:j=m
   .simp[f]
   .simp[f]
  | false=>
   rw[e]at h;simp only[qH]at h
   cases i:zB5 (.int κ m) v es with
   | none=>rw[i]at h;cases h
   | some r=>
    rw[i]at h;obtain rfl:=yD h;have p:=UV i j;simp only[xJ,p];by_cases f:j=m
    .subst f;simp[e]
    .simp[f]
theorem zBv {κ:IntKind}{m:Int}{v:AV} : ∀ {es:List (AV×AV)},zB5 (.int κ m) v es=none-> ∀j:Int,xJ (.int κ j) (es++[(.int κ m,v)])=if j=m then some v else xJ (.int κ j) es
 | [],_,j=>by
  simp only[qS,xJ,zCI];by_cases f:j=m<;>simp[f]
 | (a,b)::es,h,j=>by
  simp only[zB5]at h
  cases e:aveq (.int κ m) a with
  | true=>rw[e]at h;cases h
  | false=>
   rw[e]at h;simp only[qH]at h
   cases i:zB5 (.int κ m) v es with
   | some r=>rw[i]at h;cases h
   | none=>
    have o:=zBv i j;simp only[qF,xJ,o];by_cases f:j=m
    .subst f;simp[e]
    .simp[f]
theorem zMu {κ:IntKind}{ks:List Nat}{H:AH}{M:Nat}{es:List (AV×AV)}(a:H.ok)(h:H.h.get M=some (.map ks es))(o:QX ks ks=true){m:Int}(i:keyOk ks (.int κ m)=true)(v:AV):
  ∃H' es',upM ks (.map M) (.int κ m) v H=some (jO,H')/\H'.h.get M=some (.map ks es')/\(∀j:Int,xJ (.int κ j) es'=if j=m then some v else xJ (.int κ j) es)/\Stp (fun B=>B=M) H H'/\H'.next=H.next:=by
 cases f:zB5 (.int κ m) v es with
 | some es'=>
  refine⟨H.put M (.map ks es'),es', ?_,by rw[zRc,if_pos rfl],UV f,(zRf a).put (a.lt h) _ (.inr rfl),rfl⟩;simp only[upM,i,zM,h,o,f,kO]
 | none=>
  refine⟨H.put M (.map ks (es++[(.int κ m,v)])),_, ?_,by rw[zRc,if_pos rfl],zBv f,(zRf a).put (a.lt h) _ (.inr rfl),rfl⟩;simp only[upM,i,zM,h,o,f,kO]
end Go.Eng
namespace Go.Eng.Sh
open Go.Nd (Ptr Str)
open Go.Bk
theorem zF7 (D:Dyn)(n:Nat){H:AH}(m:H.ok){nb:Nat}(C:64<=nb)(F:nb<=8192): ∃H' A i j,f32 D n [.int .i64 ((nb:Nat):Int)] H=some (.tuple [.ptr A 0, .int .i64 ((0:Nat):Int)],H')/\Prs H H'/\H.next<=A/\H.next<=i/\H.next<=j/\DkI H' A nb [] i j .nilSlice []:=by
 obtain⟨J,A1,b1,f,o,K,L⟩:=box m (.map [6] []);obtain⟨N,A2,b2,a,p,O,S⟩:=box f.ok (.map [6] []);obtain⟨q,s,t,h,u,T,U⟩:=box a.ok (.cells [.int .i64 ((nb:Nat):Int), .map A1, .nilSlice, .map A2, .int .i64 ((0:Nat):Int), .nilSlice, .bool false] 151 1 false);have V:=f.next;have W:=a.next
 refine⟨q,s,A1,A2, ?_,(f.trans a).trans h,by omega,by omega,by omega,⟨u,zRn (a.trans h) f.ok o,zRn h a.ok p,zRo ..,fun n=>rfl,fun w v=>(List.not_mem_nil v).elim,by simp,by omega⟩⟩;have x: ¬((nb:Nat):Int)< ((64:Nat):Int):=by omega
 have y: ¬((8192:Nat):Int)< ((nb:Nat):Int):=by omega
 have z:vR [(0,1),(1,1),(2,1),(3,1),(4,1),(5,1),(6,1)] [.int .i64 ((0:Nat):Int), .nilMap, .nilSlice, .nilMap, .int .i64 ((0:Nat):Int), .nilSlice, .bool false] [(0, .int .i64 ((nb:Nat):Int)),(1, .map A1),(3, .map A2)]=some (.agg [.int .i64 ((nb:Nat):Int), .map A1, .nilSlice, .map A2, .int .i64 ((0:Nat):Int), .nilSlice, .bool false]):=rfl;simp(maxSteps:=999999)(disch:=omega) only[f32,f85,eZ,x,y,mkM,b1,b2,z,t]
theorem zJR (e:Nat){x c:AV}{r s:List AV}(hr:r.length=512)(a:s.length=512)(h:isCell x=true):vR [(0,1),(1,512)] (c::r) [(0,x),(1, .agg s)]=some (.agg (x::s))/\dL e 513 1 (c::r) [(0, .agg (x::s))]=some (.cells (x::s) e 513 false,fun A=> .slice A 0 1 2):=by
 have i:setAt (c::r) 0 [x]=some (x::r):=by rw[xD (by simp)];rfl
 have j:setAt (x::r) 1 s=some (x::s):=by
  rw[xD (by simp[hr,a])];have:(x::r).drop (1+s.length)=[]:=qT (by simp[hr,a]);rw[this];simp
 have m:setAt (c::r) 0 (x::s)=some (x::s):=by
  rw[xD (by simp[hr,a])];have:(c::r).drop (0+(x::s).length)=[]:=qT (by simp[hr,a]);rw[this];simp
 have l1:(Z4 [x] 0).beq 1=true:=rfl;have o:(Z4 s 0).beq 512=true:=by rw[jX,a];exact yF _
 have p:(Z4 (x::s) 0).beq 513=true:=by rw[jX,zW,a];exact yF _
 have q:=kP h;constructor
 .simp only[vR,fK,zLb,q,l1,zM,i];simp only[jT,o,zM,j]
 .have f:rep 1 (c::r)=c::r:=by simp only[rep,qX]
  simp only[dL,f,fK,jT,p,zM,Nat.zero_mul,m]
theorem BN (D:Dyn)(n:Nat){H:AH}(u:H.ok){Ad nb:Nat}{i:Ws}{v p:Nat}{f:AV}{es:List (AV×AV)}(d:DkI H Ad nb i v p f es){k:Nat}(a4:k<nb){b:Str}(hb:b.length=512)(hf:i.length<1000000):
  ∃H' O es',f26 D n [.ptr Ad 0, .int .i64 ((k:Nat):Int), .agg (jN b)] H=some (.int .i64 ((0:Nat):Int),H')/\DkI H' Ad nb (i++[(k,b)]) v p O es'/\Stp (fun B=>B=Ad\/B=p\/Blk f B) H H'/\(∀B,Blk O B->Blk f B\/H.next<=B):=by
 obtain⟨Z,W⟩: ∃Z:Str,Z=List.replicate 512 0:=⟨_,rfl⟩;have a5:rep 512 [AV.int .u8 ((0:Nat):Int)]=jN Z:=by rw[dZ,W]
 have a6:(jN Z).length=512:=by rw[jS,W];exact List.length_replicate
 obtain⟨Y,A5,b1,z,g1,m1,n1⟩:=box u (.cells (jN b) 55 1 false);have q:=d.prs u z;have ha:=zNe D n q a4;have a7: ¬(((0:Nat):Int)≠((0:Nat):Int)):=by omega
 have r3:Eng.ld1 (.ptr Ad 3) Y=some (.map p):=by rw[jL q.gD];rfl
 have r2:Eng.ld1 (.ptr Ad 2) Y=some f:=by rw[jL q.gD];rfl
 have lD:=u.lt d.gD;have lN:=u.lt d.gN;have lO:=u.lt d.gO;have S:Ad≠p:=fun e=>by have:=d.gD;rw[e,d.gN]at this;cases this
 have a8:Ad≠v:=fun e=>by have:=d.gD;rw[e,d.gO]at this;cases this
 have wA: ∀B,Blk f B->B<H.next/\B≠Ad/\B≠v/\B≠p:=fun B a=>by
  have g:=d.ow.get a;refine⟨u.lt g,fun e=> ?_,fun e=> ?_,fun e=> ?_⟩
  .rw[e,d.gD]at g;simp at g
  .rw[e,d.gO]at g;cases g
  .rw[e,d.gN]at g;cases g
 obtain⟨J,es',e2,g2,f2,s,n2⟩:=zMu z.ok q.gN rfl (m:=((k:Nat):Int)) (zOh _) (.int .i64 ((i.length:Nat):Int));have N1:=z.next
 have T:J.h.get Ad=_:=(s.keep _ (by omega) S).trans q.gD;have a9:J.h.get v=_:=(s.keep _ (by omega) d.ne).trans q.gO;have b0:Eng.ld1 (.ptr Ad 2) J=some f:=by rw[jL T];rfl
 have g5:J.h.get A5=_:=(s.keep _ (by omega) (by omega)).trans g1;have rb:=ldR g5 hb;have L:(jN b).length=512:=by rw[jS,hb]
 obtain⟨q1,q2⟩:=zJR 153 (x:= .int .i64 ((k:Nat):Int)) (c:= .int .i64 ((0:Nat):Int)) a6 L rfl;obtain⟨K,A6,b3,t,g3,m3,n3⟩:=box s.ok (.cells (.int .i64 ((k:Nat):Int)::jN b) 153 513 false);have a0:srcOf 513 (.slice A6 0 1 2) K=some (1,wV (k,b)):=by
  have b2:uU (AV.int .i64 ((k:Nat):Int)::jN b) 0 (1*513)=some (wV (k,b)):=by
   rw[kW _ _ _ (.inr (by simp[L])),yB,zX (by simp[L])];rfl
  simp only[srcOf,g3,b2]
 have N2:=s.next;have N3:=t.next
 have b4:Own 513 153 K f i.length (i.flatMap wV):=((d.ow.mono z fun _ _ x=>x).mono s fun B a=>(wA B a).2.2.2).mono t fun _ _ x=>x
 have b5:jP (wV (k,b))=true:=by
  have:=bytesV_cells b;simp only[wV,jP,this];rfl
 obtain⟨H4,e4,b6,y,n4⟩:=bW (bytes:=520) (m:=1) t.ok (by decide) b4 a0 (by rw[zDY hb]) b5 (by omega) (by omega) (by decide);have N4:=y.next
 have U:H4.h.get Ad=_:=(y.keep _ (by omega) (fun a=>(wA Ad a).2.1 rfl)).trans ((t.keep _ (by omega) (fun x=>x)).trans T);have b8:Eng.ld1 (.ptr Ad 2) H4=some f:=by rw[jL U];rfl
 obtain⟨H5,e5,V,C,n5⟩:=xU y.ok U (o:=2) (x:= .slice K.next 0 (i.length+1) 1) rfl (by simp)
 have b7:Eng.ld1 (.ptr Ad 4) H5=some (.int .i64 ((0:Nat):Int)):=by rw[jL V];rfl
 refine⟨H5, .slice K.next 0 (i.length+1) 1,es', ?_,⟨V, ?_, ?_, ?_,fun j=> ?_,fun w F=> ?_,by simp;omega,d.ne⟩,⟨C.ok,by omega,fun B a N=> ?_⟩,fun B a=> .inr (by rw[zRd.1 a];omega)⟩
 .simp(maxSteps:=999999)(disch:=omega) only[f26,f75,eZ,b1,ha,a7,r3,r2,q.ow.row.lnSl,e2,b0,rb,a5,qF,qS,q1,q2,b3,e4,e5,b7]
 .rw[C.keep _ (by omega) (fun e=>a8 e.symm),y.keep _ (by omega) (fun a=>(wA v a).2.2.1 rfl),t.keep _ (by omega) (fun x=>x)];exact a9
 .rw[C.keep _ (by omega) (fun e=>S e.symm),y.keep _ (by omega) (fun a=>(wA p a).2.2.2 rfl),t.keep _ (by omega) (fun x=>x)];exact g2
 .have:=b6.mono C fun B a=>by rw[zRd.1 a];omega
  simpa[yZ]using this
 .rw[f2,YX,d.nw j];by_cases e:k=j
  .subst e;simp
  .have e': ¬((j:Nat):Int)=((k:Nat):Int):=by omega
   rw[if_neg e',if_neg e]
 .rcases qB.1 F with F | F
  .exact d.ln w F
  .obtain rfl:w=(k,b):=by simpa using F
   exact hb
 .have a1: ¬B=Ad:=fun e=>N (.inl e)
  have a2: ¬B=p:=fun e=>N (.inr (.inl e))
  have a3: ¬Blk f B:=fun e=>N (.inr (.inr e))
  rw[C.keep B (by omega) a1,y.keep B (by omega) a3,t.keep B (by omega) (fun x=>x),s.keep B (by omega) a2,z.keep B a (fun x=>x)]
end Go.Eng.Sh
end

