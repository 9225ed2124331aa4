/- A checked evaluator for the program, and what it tells, part 6: no condition. -/
import Derived.Test.YtaaflpnhdkoaeaaGreatO5
set_option linter.all false
set_option linter.unusedVariables false
set_option linter.unusedSimpArgs false
set_option maxHeartbeats 8000000
set_option maxRecDepth 20000
section
set_option maxRecDepth 20000
namespace Go.Eng.Sh
open Go.Nd (Ptr sumL)
variable {X:Nat->Prop}
structure Ch (X:Nat->Prop)(H0 H:AH)(At Ac F:Nat)(fes:List (AV×AV))(f:PN)(g:AV)(gl:List Ptr)(last0 last:Nat):Prop where
 prs:Prs H0 H
 gC:H.h.get Ac=some (.cells [.ptr At 0, .int .u64 (last:Nat), .map F,g] 242 1 false)
 gF:H.h.get F=some (.map [10] fes)
 pf:xG H fes f
 gg:Own 3 42 H g gl.length (gl.flatMap qZ)
 gN: ∀B,Blk g B->H0.next<=B
 gf: ∀kv∈fes,∀B,kR kv.2 B-> ¬Blk g B
 dC:H0.next<=Ac
 dF:H0.next<=F
 ne:Ac≠F
 fs: ∀s nd,y8 s f=some nd->last0<s/\s<=last
 le:last0<=last
 few:gl.length<=last+1000
 fd:(f.map Prod.fst).Nodup
 fl:f.length+last0<=last
 gx: ∀kv∈fes,∀B,kR kv.2 B-> ¬X B
 xo: ∀B,X B->B<H0.next
theorem uH {s:Nat} : ∀ {q:PN},s∈q.map Prod.fst-> ∃nd,y8 s q=some nd
 | [],h=>by simp at h
 | (t,n)::q,h=>by
  simp only[y8];by_cases e:t=s
  .exact⟨n,if_pos e⟩
  .rw[if_neg e];simp only[List.map_cons,List.mem_cons]at h;exact uH (h.resolve_left fun a=>e a.symm)
def chg (a F:Nat)(g:AV)(B:Nat):Prop:=B=a\/B=F\/Blk g B
def Adv (a F:Nat)(H:AH)(g:AV)(H':AH)(f:AV):Prop:=Stp (chg a F g) H H'/\ ∀B,Blk f B->Blk g B\/H.next<=B
def kC (X:Nat->Prop)(H:AH)(g v:AV)(nd:Nd.Node):Prop:=yE H v nd/\ ∀B,kR v B-> ¬Blk g B/\ ¬X B
theorem Adv.prs {a F:Nat}{H H':AH}(g:AV)(s:Prs H H'):Adv a F H g H' g:=⟨s.mono (fun _ _ x=>x.elim),fun _ h=> .inl h⟩
theorem Adv.trans {a F:Nat}{H j m:AH}{g o p:AV}(i:a<H.next)(t:F<H.next)(h:Adv a F H g j o)(k:Adv a F j o m p):Adv a F H g m p:=by
 refine⟨⟨k.1.ok,Nat.le_trans h.1.next k.1.next,fun A i f=> ?_⟩,fun B q=> ?_⟩
 .rw[k.1.keep A (zY i h.1.next) (fun s=> ?_),h.1.keep A i f]
  rcases s with e | e | e
  .exact f (.inl e)
  .exact f (.inr (.inl e))
  .rcases h.2 A e with e | e
   .exact f (.inr (.inr e))
   .omega
 .have:=h.1.next
  rcases k.2 B q with e | e
  .exact h.2 B e
  .exact .inr (by omega)
theorem Ch.ltC {H0 H:AH}{At a F:Nat}{m:List (AV×AV)}{f:PN}{g:AV}{gl:List Ptr}{i j:Nat}(h:Ch X H0 H At a F m f g gl i j):a<H.next:=h.prs.ok.lt h.gC
theorem Ch.ltF {H0 H:AH}{At m F:Nat}{j:List (AV×AV)}{f:PN}{g:AV}{gl:List Ptr}{a i:Nat}(h:Ch X H0 H At m F j f g gl a i):F<H.next:=h.prs.ok.lt h.gF
theorem Ch.keep {H0 H H':AH}{At j F:Nat}{p:List (AV×AV)}{f:PN}{g v:AV}{gl:List Ptr}{m o:Nat}{nd:Nd.Node}(h:Ch X H0 H At j F p f g gl m o)(a:kC X H g v nd)(s:Stp (chg j F g) H H'):yE H' v nd:=
 a.1.stp s fun A i q=>by
  rcases q with rfl | rfl | e
  .exact a.1.nblk h.gC (.inl ⟨_,_,_,_,rfl,fun _ _ e=>by cases e⟩) i
  .exact a.1.nblk h.gF (.inr (.inl ⟨_,_,rfl⟩)) i
  .exact(a.2 A i).1 e
theorem Ch.next {H0 H H':AH}{At j F:Nat}{q:List (AV×AV)}{f:PN}{g m v:AV}{gl:List Ptr}{o p:Nat}{nd:Nd.Node}(h:Ch X H0 H At j F q f g gl o p)(a:kC X H g v nd)(s:Adv j F H g H' m):kC X H' m v nd:=
 ⟨h.keep a s.1,fun B i=>⟨fun t=>by
  rcases s.2 B t with e | e
  .exact(a.2 B i).1 e
  .have:=a.1.lt i;omega,(a.2 B i).2⟩⟩
theorem Ch.step {H0 H H':AH}{At m F:Nat}{j:List (AV×AV)}{f:PN}{g:AV}{gl:List Ptr}{a i:Nat}(h:Ch X H0 H At m F j f g gl a i)(s:Prs H H'):Ch X H0 H' At m F j f g gl a i:=
 ⟨h.prs.trans s,Prs.get s h.prs.ok h.gC,Prs.get s h.prs.ok h.gF,h.pf.frame fun kv _ nd o=>o.prs s,h.gg.mono s (fun _ _ x=>x),h.gN,h.gf,h.dC,h.dF,h.ne,h.fs,h.le,h.few,h.fd,h.fl,h.gx,h.xo⟩
theorem kC.prs {H H':AH}{g v:AV}{nd:Nd.Node}(h:kC X H g v nd)(s:Prs H H'):kC X H' g v nd:=⟨h.1.prs s,h.2⟩
theorem wN.hand {H0 H H':AH}{At p F:Nat}{o:List (AV×AV)}{f:PN}{g v:AV}{gl:List Ptr}{j m:Nat}{nd:Nd.Node}(h:Ch X H0 H At p F o f g gl j m){N:Nat}(t:H.next<=N)(a:wN N H' v nd):kC X H' g v nd:=
 ⟨a.1,fun B i=>⟨fun q=>by have:=a.2 B i;have:=Rw.blk h.gg.row q;omega,fun s=>by have:=a.2 B i;have:=h.xo B s;have:=h.prs.next;omega⟩⟩
theorem yE.hand {H0 H H':AH}{At o F:Nat}{m:List (AV×AV)}{f:PN}{g v:AV}{gl:List Ptr}{i j:Nat}{nd:Nd.Node}(h:Ch X H0 H At o F m f g gl i j)(p:yE H' v nd)(q: ∀B,kR v B->B<H0.next)(s: ∀B,kR v B-> ¬X B):kC X H' g v nd:=
 ⟨p,fun B a=>⟨fun t=>by have:=q B a;have:=h.gN B t;omega,s B a⟩⟩
theorem bldQ (e:TypeId)(p:Ptr)(z:List AV)(a:z.length=3):d7 e 3 1 z [(0, .agg (qZ p))]=some (.cells (qZ p) e 3 false,fun A=> .slice A 0 1 2):=by
 match z,a with
 | [_,_,_],_=>rfl
theorem zMC (p:Ptr):xX (qZ p) 0 3=some (qZ p):=rfl
theorem zHo (D:Dyn)(n:Nat){H0 H:AH}{At m F:Nat}{N:List (AV×AV)}{f:PN}{g:AV}{gl:List Ptr}{Z y:Nat}(h:Ch X H0 H At m F N f g gl Z y)(p:Ptr)(hl:gl.length+1<=y+1000)(hb:y<=900000000):
  ∃s H',f130 D n [.ptr m 0, .agg (qZ p)] H=some (.tuple [],H')/\Ch X H0 H' At m F N f s (gl++[p]) Z y/\Adv m F H g H' s:=by
 obtain⟨H1,A3,b1,O,g1,m1,n1⟩:=box h.prs.ok (.cells (qZ p) 42 1 false);obtain⟨H2,A4,b2,p2,g2,m2,n2⟩:=box O.ok (.cells (qZ p) 42 3 false);have C:=O.trans p2;have j:=h.step C;have a0:srcOf 3 (.slice A4 0 1 2) H2=some (1,qZ p):=by
  simp only[srcOf,g2];rfl
 obtain⟨s,T,e3,U,z,w3,J⟩:=zO7 (bytes:=24) j.prs.ok (by decide) j.gg a0 rfl rfl (by omega) (by decide);have nC: ¬Blk g m:=fun a=>by
  obtain⟨_,⟨rfl,_⟩ | ⟨A,rfl,_,u⟩⟩:=j.gg
  .exact Blk.nil.1 a
  .rw[<-Blk.slice.1 a,j.gC]at u;simp at u
 have nF: ¬Blk g F:=fun a=>by
  obtain⟨_,⟨rfl,_⟩ | ⟨A,rfl,_,u⟩⟩:=j.gg
  .exact Blk.nil.1 a
  .rw[<-Blk.slice.1 a,j.gF]at u;simp at u
 have a2:T.h.get m=some (.cells [.ptr At 0, .int .u64 (y:Nat), .map F,g] 242 1 false):=by rw[z.keep _ j.ltC nC];exact j.gC
 have a3:T.h.get F=some (.map [10] N):=by rw[z.keep _ j.ltF nF];exact j.gF
 obtain⟨K,e4,g4,V,n4⟩:=kK z.ok a2 (o:=3) (x:=s) U.row.isCell (by simp);have a6: ∀B,Blk s B->B<T.next:=fun B a=>Rw.blk U.row a
 have a4: ¬Blk s m:=fun a=>by
  rcases J m a with e | e
  .exact nC e
  .have:=j.ltC;omega
 have S2:Stp (chg m F g) H2 K:=(z.mono (fun _ _ x=> .inr (.inr x))).trans (V.mono (fun _ _ x=> .inl x));have S:Stp (chg m F g) H K:=(C.mono (fun _ _ x=>x.elim)).trans S2;have a1:Adv m F H g K s:=⟨S,fun B a=>by
  rcases J B a with e | e
  .exact .inl e
  .have:=C.next;exact .inr (by omega)⟩
 have a5:(gl++[p]).flatMap qZ=gl.flatMap qZ++qZ p:=by simp
 refine⟨s,K, ?_,⟨?_, ?_, ?_, ?_, ?_, ?_, ?_,h.dC,h.dF,h.ne,h.fs,h.le,by simpa using hl,h.fd,h.fl,h.gx,h.xo⟩,a1⟩
 .have e1:=bldQ 42 p [.int .i64 ((0:Nat):Int), .int .i64 ((0:Nat):Int), .int .u64 ((0:Nat):Int)] rfl;simp(disch:=omega) only[f130,eZ,b1,qT (Prs.get O h.prs.ok h.gC),qY g1,zMC,Option.map_some,e1,b2,e3,e4]
 .exact h.prs.fresh S (fun B a=>by
   have:=h.dC;have:=h.dF;rcases a with e | e | e
   .omega
   .omega
   .exact h.gN B e)
 .exact g4
 .rw[V.keep _ (by have:=z.next;have:=j.ltF;omega) (fun e=>h.ne e.symm)];exact a3
 .exact h.pf.frame fun kv v nd W=>h.keep ⟨W,fun B a=>⟨h.gf kv v B a,h.gx kv v B a⟩⟩ S
 .rw[a5];have:=U.mono V (fun B a e=>a4 (e▸a));simpa using this
 .intro B a;rcases J B a with e | e
  .exact h.gN B e
  .have:=j.prs.next;omega
 .intro kv v B a u;obtain⟨i,hi⟩:=List.mem_iff_getElem.1 v;have a7:B<H.next:=by
   have hp: ∀ {es:List (AV×AV)} {q:PN},xG H es q-> ∀kv∈es,∃nd,yE H kv.2 nd:=by
    intro es
    induction es with
    | nil=>intro q _ kv h;simp at h
    | cons e es ih=>
     intro q L kv Y
     match q,L with
     | (t,nd)::q,L=>
      rcases List.mem_cons.1 Y with rfl | Y
      .exact⟨nd,L.1.2⟩
      .exact ih L.2 kv Y
   obtain⟨nd,W⟩:=hp h.pf kv v;exact W.lt a
  rcases J B u with e | e
  .exact h.gf kv v B a e
  .have:=C.next;omega
theorem zIZ (D:Dyn)(n:Nat){H0 H:AH}{At p F:Nat}{q:List (AV×AV)}{f:PN}{g v:AV}{gl:List Ptr}{W i:Nat}{nd:Nd.Node}(h:Ch X H0 H At p F q f g gl W i)(O:kC X H g v nd)(hb:i<=900000000):
  ∃H',f127 D n [.ptr p 0,v] H=some (.agg (qZ (pp (i+1))),H')/\Ch X H0 H' At p F (q++[(.int .u64 ((i+1:Nat):Int),v)]) (f++[(i+1,nd)]) g gl W (i+1)/\Adv p F H g H' g:=by
 obtain⟨l,rfl,ll,lc⟩:=O.1.cells;obtain⟨H1,A3,b1,S,g1,m1,n1⟩:=box h.prs.ok (.cells l 119 1 false);obtain⟨H2,A4,b2,V,g2,m2,n2⟩:=box S.ok (.cells [.int .i64 ((0:Nat):Int), .int .i64 ((0:Nat):Int), .int .u64 ((0:Nat):Int)] 42 1 false);have P2:=S.trans V;have y:=h.step P2;obtain⟨t,e3,J,u,n3⟩:=kK y.prs.ok y.gC (o:=1) (x:= .int .u64 ((i+1:Nat):Int)) rfl (by simp);have J:t.h.get p=some (.cells [.ptr At 0, .int .u64 ((i+1:Nat):Int), .map F,g] 242 1 false):=J;have Y:t.h.get F=some (.map [10] q):=by rw[u.keep _ y.ltF (fun e=>h.ne e.symm)];exact y.gF
 have a2:kQ (.int .u64 ((i+1:Nat):Int)) q=none:=(h.pf.find (i+1)).2 (by
  cases T:y8 (i+1) f with
  | none=>rfl
  | some a3=>have:=h.fs _ _ T;omega)
 have e4:upM [10] (.map F) (.int .u64 ((i+1:Nat):Int)) (.agg l) t=some (qX,t.put F (.map [10] (q++[(.int .u64 ((i+1:Nat):Int), .agg l)]))):=by
  simp only[upM,zPn,cond_true,Y,show QI [10] [10]=true from rfl,setA_none a2,yQ]
 have Z:(t.put F (.map [10] (q++[(.int .u64 ((i+1:Nat):Int), .agg l)]))).h.get F=some (.map [10] (q++[(.int .u64 ((i+1:Nat):Int), .agg l)])):=by rw[AH.put_get,if_pos rfl]
 have z:Stp (fun B=>B=F) t (t.put F (.map [10] (q++[(.int .u64 ((i+1:Nat):Int), .agg l)]))):=(Stp.refl u.ok).put (u.ok.lt Y) _ (.inr rfl);generalize t.put F (.map [10] (q++[(.int .u64 ((i+1:Nat):Int), .agg l)]))=H4 at e4 Z z;have a0:H4.h.get p=some (.cells [.ptr At 0, .int .u64 ((i+1:Nat):Int), .map F,g] 242 1 false):=by rw[z.keep _ (u.ok.lt J) h.ne];exact J
 have b0:=h.ltC;have b3:=h.ltF;have N1:=S.next;have N2:=V.next;have N3:=u.next;have N4:=z.next
 have a4:H4.h.get A4=some (.cells [.int .i64 ((0:Nat):Int), .int .i64 ((0:Nat):Int), .int .u64 ((0:Nat):Int)] 42 1 false):=by
  rw[z.keep _ (by omega) (by omega),u.keep _ n2 (by omega)];exact g2
 have a5:ldN 4 (.ptr A3 0) t=some (.agg l):=vU (e:=119) (by rw[u.keep _ (by omega) (by omega)];exact Prs.get V S.ok g1) ll;obtain⟨K,e5,g5,C,n5⟩:=y9 z.ok a4 (l':=qZ (pp (i+1))) rfl rfl;have a6:stN 3 (.ptr A4 0) (.agg (qZ (pp (i+1)))) H4=some (qX,K):=e5;have S4:Stp (chg p F g) H H4:=((P2.mono (fun _ _ x=>x.elim)).trans (u.mono (fun _ _ x=> .inl x))).trans (z.mono (fun _ _ x=> .inr (.inl x)));have U:Stp (chg p F g) H K:=⟨C.ok,Nat.le_trans S4.next C.next,fun A hA hS=>by rw[C.keep A (by omega) (by omega),S4.keep A hA hS]⟩
 have a1:Adv p F H g K g:=⟨U,fun B j=> .inl j⟩;have a7:IntKind.wrap .u64 (((i:Nat):Int)+((1:Nat):Int))=((i+1:Nat):Int):=by rw[wrap_u64];omega
 have bs:wY [(0,1),(1,1),(2,1)] [.int .i64 ((0:Nat):Int), .int .i64 ((0:Nat):Int), .int .u64 ((0:Nat):Int)] [(0, .int .i64 ((1:Nat):Int)),(2, .int .u64 ((i+1:Nat):Int))]=some (.agg (qZ (pp (i+1)))):=rfl;have r5:ldN 3 (.ptr A4 0) K=some (.agg (qZ (pp (i+1)))):=by rw[qY g5];rfl
 have a8:=h.keep O U;refine⟨K, ?_,⟨?_, ?_, ?_, ?_, ?_,h.gN, ?_,h.dC,h.dF,h.ne, ?_,by have:=h.le;omega,by have:=h.few;omega, ?_,by have:=h.fl;simp;omega,fun kv m B j=> ?_,h.xo⟩,a1⟩
 .simp(maxSteps:=999999)(disch:=omega) only[f127,eZ,b1,b2,qT y.gC,a7,e3,qT J,a5,e4,qT a0,bs,a6,r5]
 .exact h.prs.fresh U (fun B j=>by
   have:=h.dC;have:=h.dF;rcases j with e | e | e
   .omega
   .omega
   .exact h.gN B e)
 .rw[C.keep _ (by omega) (by omega)];exact a0
 .rw[C.keep _ (by omega) (by omega)];exact Z
 .exact xG.snoc a8 (h.pf.frame fun kv m nd hn=>h.keep ⟨hn,fun B j=>⟨h.gf kv m B j,h.gx kv m B j⟩⟩ U)
 .have nC: ∀B,Blk g B-> ¬B=p:=fun B j e=>by
   subst e;obtain⟨_,⟨rfl,_⟩ | ⟨A,rfl,_,L⟩⟩:=h.gg
   .exact Blk.nil.1 j
   .rw[<-Blk.slice.1 j,h.gC]at L;simp at L
  have nF: ∀B,Blk g B-> ¬B=F:=fun B j e=>by
   subst e;obtain⟨_,⟨rfl,_⟩ | ⟨A,rfl,_,L⟩⟩:=h.gg
   .exact Blk.nil.1 j
   .rw[<-Blk.slice.1 j,h.gF]at L;simp at L
  exact(((y.gg.mono u nC).mono z nF).mono C (fun B j e=>by have:=Rw.blk h.gg.row j;omega))
 .intro kv m B j;rcases List.mem_append.1 m with m | m
  .exact h.gf kv m B j
  .simp only[List.mem_singleton]at m;subst m;exact(O.2 B j).1
 .intro s a3 N;rw[kN]at N
  cases T:y8 s f with
  | some a9=>have:=h.fs _ _ T;omega
  | none=>
   rw[T]at N;simp only[y8]at N;split at N
   .have:=h.le;omega
   .cases N
 .rw[List.map_append,List.nodup_append];refine⟨h.fd,by simp,fun a ha b hb e=> ?_⟩;simp only[List.map_cons,List.map_nil,List.mem_singleton]at hb;subst hb;subst e;obtain⟨a9,y⟩:=uH ha;have:=h.fs _ _ y;omega
 .rcases List.mem_append.1 m with m | m
  .exact h.gx kv m B j
  .simp only[List.mem_singleton]at m;subst m;exact(O.2 B j).2
open Go.Nd (cutOk cutA aG)
inductive CutsN:Nd.Node->List Nd.Node->List Str->Prop
 | one {nd:Nd.Node} :Nd.size nd<=500->CutsN nd [nd] []
 | more {nd:Nd.Node} {k:Nat} {ps:List Nd.Node} {ss:List Str} :500<Nd.size nd->cutOk nd k->hbnd nd k->CutsN (aG nd k) ps ss->CutsN nd (cutA nd k::ps) (nd.keys.getD k []::ss)
def Par (H:AH):List (List AV)->List Nd.Node->Prop
 | [],[]=>True
 | l::vs,nd::nds=>(l.length=4/\qW l=true/\yE H (.agg l) nd)/\Par H vs nds
 | _,_=>False
theorem Par.len {H:AH} : ∀ {vs:List (List AV)} {i:List Nd.Node},Par H vs i->vs.length=i.length/\vs.flatten.length=i.length*4/\qW vs.flatten=true
 | [],[],_=>⟨rfl,rfl,rfl⟩
 | l::vs,_::i,h=>by
  obtain⟨a,b,c⟩:=Par.len h.2;refine⟨by simp[a], ?_, ?_⟩
  .rw[List.flatten_cons,zL,b,h.1.1,zO];omega
  .rw[List.flatten_cons,jC];intro x f;rcases List.mem_append.1 f with f | f
   .exact jC.1 h.1.2.1 x f
   .exact jC.1 c x f
 | [],_::_,h=>h.elim
 | _::_,[],h=>h.elim
theorem Par.frame {H H':AH} : ∀ {vs:List (List AV)} {a:List Nd.Node},Par H vs a->(∀l∈vs,∀nd,yE H (.agg l) nd->yE H' (.agg l) nd)->Par H' vs a
 | [],[],_,_=>trivial
 | l::vs,nd::a,h,hf=>⟨⟨h.1.1,h.1.2.1,hf l (zF ..) nd h.1.2.2⟩,Par.frame h.2 fun l hl=>hf l (zE _ hl)⟩
 | [],_::_,h,_=>h.elim
 | _::_,[],h,_=>h.elim
theorem Par.snoc {H:AH}{l:List AV}{nd:Nd.Node}(f:l.length=4/\qW l=true/\yE H (.agg l) nd): ∀ {vs:List (List AV)} {a:List Nd.Node},Par H vs a->Par H (vs++[l]) (a++[nd])
 | [],[],_=>⟨f,trivial⟩
 | _::vs,_::a,h=>⟨h.1,Par.snoc f h.2⟩
 | [],_::_,h=>h.elim
 | _::_,[],h=>h.elim
theorem Par.mem {H:AH} : ∀ {vs:List (List AV)} {a:List Nd.Node} {l:List AV},Par H vs a->l∈vs-> ∃nd,yE H (.agg l) nd
 | [],[],_,_,hl=>by simp at hl
 | k::vs,nd::a,l,h,hl=>by
  rcases List.mem_cons.1 hl with rfl | hl
  .exact⟨nd,h.1.2.2⟩
  .exact Par.mem h.2 hl
 | [],_::_,_,h,_=>h.elim
 | _::_,[],_,h,_=>h.elim
theorem zPX (e:TypeId)(l:List AV)(hl:l.length=4)(z:List AV)(a:z.length=4):d7 e 4 1 z [(0, .agg l)]=some (.cells l e 4 false,fun A=> .slice A 0 1 2):=by
 match z,a with
 | [_,_,_,_],_=>match l,hl with
  | [_,_,_,_],_=>rfl
theorem src4 {H:AH}{A e:Nat}{l:List AV}{g:Bool}(h:H.h.get A=some (.cells l e 4 g))(hl:l.length=4)(cc:Nat):srcOf 4 (.slice A 0 1 cc) H=some (1,l):=by
 simp only[srcOf,h,yY _ _ _ (.inr (show 0+1*4<=l.length by omega)),List.drop_zero,zP (show l.length<=1*4 by omega)]
theorem JO {nd:Nd.Node}(h:Nd.shaped ltS nd=true)(i:500<Nd.size nd):vY nd:=by
 have f: ∀k∈nd.keys,k.length<=40:=fun k f=>by
  simp only[Nd.shaped,zC,List.all_eq_true]at h;have:=h.1.1 k f;simp only[Nd.mayK,zC,zJ]at this;omega
 have b1: ∀(c:Nat) (l:List Str),(∀k∈l,k.length<=c)->sumL l<=(c+1)*l.length:=by
  intro c l
  induction l with
  | nil=>simp[sumL]
  | cons a l ih=>
   intro h;have:=ih fun k f=>h k (zE _ f)
   have:=h a (zF ..);rw[Nd.sumL_cons,zO,Nat.mul_succ];omega
 have o:=b1 40 nd.keys f;simp only[Nd.size]at i
 cases hl:nd.leaf with
 | true=>
  simp only[Nd.shaped,hl,if_true,zC,zJ,List.all_eq_true]at h;have j:=b1 200 nd.vals fun v m=>h.2.2 v m
  rw[h.2.1.2,qD]at i;rw[h.2.1.1]at j;exact⟨by omega, .inl hl⟩
 | false=>
  simp only[Nd.shaped,hl,Bool.false_eq_true,if_false,zC,zJ]at h;rw[h.2.1.1.2]at i;have:sumL []=0:=rfl;rw[h.2.1.2]at i;exact⟨by omega, .inr (by omega)⟩
theorem kY {nd:Nd.Node}(h:Nd.size nd<=10000):small nd:=by
 simp only[Nd.size]at h;exact⟨by omega,by omega,by omega⟩
theorem zBy (D:Dyn)(n:Nat)(hn:200000000<=n){H:AH}(hk:H.ok){v:AV}{nd:Nd.Node}(h:yE H v nd)(f6:Nd.shaped ltS nd=true)(hz:Nd.size nd<=10000):
  ∃p i H' vs o q,f177 D n [v] H=some (.tuple [p,i, .int .i64 ((0:Nat):Int)],H')/\Prs H H'/\CutsN nd o q/\Own 4 119 H' p o.length vs.flatten/\Par H' vs o/\Own 1 9 H' i q.length (q.map S)/\
   (∀B,Blk p B->H.next<=B)/\(∀B,Blk i B->H.next<=B)/\ ∀l∈vs,∀B,kR (.agg l) B->kR v B\/H.next<=B:=by
 obtain⟨l0,rfl,f7,f8⟩:=h.cells;obtain⟨H1,A1,b1,p1,g1,m1,n1⟩:=box hk (.cells l0 119 1 false);have lp:Fin (yF n (ZC D n) [.ptr A1 0, .nilSlice, .nilSlice] H1) fun x H'=> ∃l j vs o q p i,x= .exit 0 [.ptr A1 0,p,i]/\Prs H H'/\H'.h.get A1=some (.cells l 119 1 false)/\l.length=4/\qW l=true/\yE H' (.agg l) j/\Nd.size j<=500/\
   (∀a4 a5,CutsN j a4 a5->CutsN nd (o++a4) (q++a5))/\Own 4 119 H' p o.length vs.flatten/\Par H' vs o/\Own 1 9 H' i q.length (q.map S)/\(∀B,Blk p B->H.next<=B)/\(∀B,Blk i B->H.next<=B)/\
   (∀B,kR (.agg l) B->kR (.agg l0) B\/H.next<=B)/\(∀l∈vs,∀B,kR (.agg l) B->kR (.agg l0) B\/H.next<=B)/\o.length<=10000:=by
  refine Fin.loop (fun k us H'=> ∃l j vs o q p i,us=[.ptr A1 0,p,i]/\Prs H H'/\H'.h.get A1=some (.cells l 119 1 false)/\l.length=4/\qW l=true/\yE H' (.agg l) j/\Nd.shaped ltS j=true/\
   (∀a4 a5,CutsN j a4 a5->CutsN nd (o++a4) (q++a5))/\Own 4 119 H' p o.length vs.flatten/\Par H' vs o/\Own 1 9 H' i q.length (q.map S)/\(∀B,Blk p B->H.next<=B)/\(∀B,Blk i B->H.next<=B)/\
   (∀B,kR (.agg l) B->kR (.agg l0) B\/H.next<=B)/\(∀l∈vs,∀B,kR (.agg l) B->kR (.agg l0) B\/H.next<=B)/\(∀B,kR (.agg l) B-> ¬Blk i B)/\(∀l∈vs,∀B,kR (.agg l) B-> ¬Blk i B)/\q.length=o.length/\o.length+Nd.size j<=10000/\k=Nd.size j) ?_ n (Nd.size nd) _ H1
   ⟨l0,nd,[],[],[], .nilSlice, .nilSlice,rfl,p1,g1,f7,f8,h.prs p1,f6,fun _ _ h=>h,Own.nil ..,trivial,Own.nil ..,fun B f=>(Blk.nil.1 f).elim,fun B f=>(Blk.nil.1 f).elim,fun B f=> .inl f,by simp,fun B _ f=>(Blk.nil.1 f).elim,by simp,rfl,by simpa using hz,rfl⟩ (by omega)
  rintro k us H' ⟨l,j,vs,o,q,p,i,rfl,P,U,N,lc,hG,b2,b6,O,a9,V,bP,bS,bl,b7,al,f9,e0,i5,rfl⟩
  have d3:small j:=kY (by omega);obtain⟨z,H2,e2,rfl,J⟩:=JN D n P.ok hG.node d3 hn;have P2:=P.trans J;have g2:=Prs.get J P.ok U;by_cases d0:500<Nd.size j
  case neg=>
   have c2: ¬((500:Nat):Int)< ((Nd.size j:Nat):Int):=by omega
   refine⟨.exit 0 [.ptr A1 0,p,i],H2, ?_,l,j,vs,o,q,p,i,rfl,P2,g2,N,lc,hG.prs J,by omega,b6,O.mono J (fun _ _ x=>x),a9.frame (fun l hl nd hn=>hn.prs J),V.mono J (fun _ _ x=>x),bP,bS,bl,b7,by omega⟩;simp(disch:=omega) only[ZC,eZ,vU U N,e2,c2]
  case pos=>
  have c2:((500:Nat):Int)< ((Nd.size j:Nat):Int):=by omega
  have g0:=JO b2 d0;obtain⟨va,sep,vb,e,H3,e3,L,hc⟩:=zPM D n hn P2.ok (hG.prs J) d3;rcases hc with⟨rfl,k,_,c3,hb,rfl,ga,gb⟩ | ⟨_,_,g9,_⟩
  case inr=>exact absurd ⟨b2,g0⟩ g9
  have P3:=P2.trans L;have d4:Prs H' H3:=J.trans L;obtain⟨W,rfl,b0,c4⟩:=ga.1.cells;obtain⟨Y,rfl,c5,c6⟩:=gb.1.cells;obtain⟨H4,A7,b4,p4,g4,m4,n4⟩:=box P3.ok (.cells [.bool false, .nilSlice, .nilSlice, .nilSlice] 119 1 false);obtain⟨H5,A9,b5,p5,g5,m5,n5⟩:=box p4.ok (.cells [.bool false, .nilSlice, .nilSlice, .nilSlice] 119 1 false);obtain⟨H6,e6,g6,s6,n6⟩:=y9 p5.ok (Prs.get p5 p4.ok g4) (l':=W) b0 c4;have h0:stN 4 (.ptr A7 0) (.agg W) H5=some (qX,H6):=e6;obtain⟨H7,e7,g7,s7,n7⟩:=y9 s6.ok (show H6.h.get A9=some (.cells [.bool false, .nilSlice, .nilSlice, .nilSlice] 119 1 false)by rw[s6.keep _ n5 (by omega)];exact g5) (l':=Y) c5 c6;have h1:stN 4 (.ptr A9 0) (.agg Y) H6=some (qX,H7):=e7;have N3:=d4.next;have N4:=p4.next;have N5:=p5.next
  have d5:Prs H3 H7:=((p4.trans p5).fresh s6 (fun B f=>by omega)).fresh s7 (fun B f=>by omega);have h2:H7.h.get A7=some (.cells W 119 1 false):=by rw[s7.keep _ (by omega) (by omega)];exact g6
  obtain⟨Z,i7,b8,p8,g8,m8,n8⟩:=box d5.ok (.cells W 119 4 false);have a6:Prs H3 Z:=d5.trans p8;have a0:Prs H' Z:=d4.trans a6;obtain⟨H9,e9,o9,K,n9⟩:=vS (bytes:=80) a6.ok (by decide) (O.mono a0 (fun _ _ x=>x)) (src4 g8 b0 2) (by omega) c4 (by omega) (by omega) (by decide);have N8:=a6.next
  have nP: ∀(l:List AV) (nd:Nd.Node),yE Z (.agg l) nd-> ∀B,kR (.agg l) B-> ¬Blk p B:=fun l nd s B f hp=>by
   obtain⟨_,⟨rfl,_⟩ | ⟨C,rfl,_,u⟩⟩:=O.mono a0 (fun _ _ x=>x)
   .exact Blk.nil.1 hp
   .rw[Blk.slice.1 hp]at f;exact s.nblk u (.inr (.inr ⟨_,_,_,_,rfl,by decide,by decide⟩)) f
  have d6:=V.mono a0 (fun _ _ x=>x);have c7: ∀B,Blk i B-> ¬Blk p B:=fun B f hp=>by
   obtain⟨_,⟨rfl,_⟩ | ⟨C,rfl,_,u⟩⟩:=O.mono a0 (fun _ _ x=>x)
   .exact Blk.nil.1 hp
   .obtain⟨_,⟨rfl,_⟩ | ⟨E,rfl,_,c8⟩⟩:=d6
    .exact Blk.nil.1 f
    .rw[<-Blk.slice.1 hp,Blk.slice.1 f,c8]at u;simp at u
  obtain⟨b9,h3,h4,y,h5,i8,i9⟩:=box K.ok (.cells [S (j.keys.getD k [])] 9 1 false);have e1:=(d6.mono K c7).mono y (fun _ _ x=>x);have e5:srcOf 1 (.slice h3 0 1 2) b9=some (1,[S (j.keys.getD k [])]):=by
   have:=Rw.srcOf (Rw.lit (cc:=2) y.ok h5);exact this
  obtain⟨a7,h6,h7,a3,j0⟩:=vS (bytes:=16) y.ok (by decide) e1 e5 rfl rfl (by omega) (by omega) (by decide);have i6:A1<H'.next:=P.ok.lt U
  have fr: ∀(l:List AV) (nd:Nd.Node),yE Z (.agg l) nd->(∀B,kR (.agg l) B-> ¬Blk i B)->yE a7 (.agg l) nd:=fun l nd s ha=>
   ((s.stp K (nP l nd s)).prs y).stp a3 ha
  have d1: ∀B,Blk i B->B<H3.next:=fun B f=>by have:=Rw.blk V.row f;omega
  have d7:=ga.1.prs a6;have d8:=gb.1.prs a6;have fA: ∀B,kR (.agg W) B-> ¬Blk i B:=fun B f T=>by have:=ga.2 B f;have:=Rw.blk V.row T;have:=J.next;omega
  have fB: ∀B,kR (.agg Y) B-> ¬Blk i B:=fun B f T=>by have:=gb.2 B f;have:=Rw.blk V.row T;have:=J.next;omega
  have f1:=fr W _ d7 fA;have f2:=fr Y _ d8 fB;have c9: ∀(l:List AV) (nd:Nd.Node),yE Z (.agg l) nd-> ∀B,kR (.agg l) B->B<b9.next:=fun l nd s B f=>by have:=s.lt f;have:=K.next;have:=y.next;omega
  have d2:a7.h.get A1=some (.cells l 119 1 false):=by
   have e8:Z.h.get A1=some (.cells l 119 1 false):=Prs.get a0 P.ok U;have np: ¬Blk p A1:=fun hp=>by
    obtain⟨_,⟨rfl,_⟩ | ⟨C,rfl,_,u⟩⟩:=O
    .exact Blk.nil.1 hp
    .rw[<-Blk.slice.1 hp,U]at u;simp at u
   have ns: ¬Blk i A1:=fun hp=>by
    obtain⟨_,⟨rfl,_⟩ | ⟨C,rfl,_,u⟩⟩:=V
    .exact Blk.nil.1 hp
    .rw[<-Blk.slice.1 hp,U]at u;simp at u
   rw[a3.keep _ (by have:=K.next;have:=y.next;omega) ns,y.keep _ (by have:=K.next;omega) (fun x=>x),K.keep _ (by omega) np];exact e8
  obtain⟨c0,d9,h8,c1,j1⟩:=y9 a3.ok d2 (l':=Y) (by omega) c6;have f3:stN 4 (.ptr A1 0) (.agg Y) a7=some (qX,c0):=by rw[N]at d9;exact d9
  have r9:ldN 4 (.ptr A9 0) a7=some (.agg Y):=vU (e:=119) (by
   have np: ¬Blk p A9:=fun hp=>by have:=Rw.blk O.row hp;omega
   have ns: ¬Blk i A9:=fun hp=>by have:=d1 _ hp;omega
   rw[a3.keep _ (by have:=K.next;have:=y.next;have:=p8.next;omega) ns,y.keep _ (by have:=K.next;have:=p8.next;omega) (fun x=>x),K.keep _ (by have:=p8.next;omega) np,p8.keep _ (by omega) (fun x=>x)];exact g7) c5
  have a8: ∀(t:List AV) (F:Nd.Node),yE a7 (.agg t) F->yE c0 (.agg t) F:=fun t F s=>s.stp c1 (fun B f e=>by
   subst e;have: ∃x r,l=x::r/\ ∀a b,x≠ .str a b:=by
    obtain⟨ks,vs',ps,ee,_⟩:=hG;simp only[AV.agg.injEq]at ee;exact⟨_,_,ee,fun _ _ e=>by cases e⟩
   obtain⟨x,r,rfl,hx⟩:=this;exact s.nblk d2 (.inl ⟨x,r,_,_,rfl,hx⟩) f)
  have Pn:Prs H c0:=by
   have a1:Prs H H9:=(P3.trans a6).fresh K bP;have a2:Prs H a7:=(a1.trans y).fresh a3 bS;exact a2.fresh c1 (fun B f=>by omega)
  have f4:=Nd.cut_size b2 c3;have h9:=Nd.cut_shaped b2 c3;have N9:=K.next;have j2:=y.next;have j3:=a3.next
  have PN:=P.next
  refine⟨.norm [.ptr A1 0, .slice Z.next 0 (o.length+1) 1, .slice b9.next 0 (q.length+1) 1],c0, ?_,Nd.size (aG j k),f4.2,Y,aG j k,vs++[W],o++[cutA j k],q++[j.keys.getD k []], .slice Z.next 0 (o.length+1) 1, .slice b9.next 0 (q.length+1) 1,rfl,Pn,h8,c5,c6,a8 _ _ f2,h9.2,fun a4 a5 i0=> ?_, ?_, ?_, ?_,fun B f=> ?_,fun B f=> ?_,fun B f=> ?_,fun t m B f=> ?_,fun B f T=> ?_,fun t m B f T=> ?_,by simp[e0], ?_,rfl⟩
  .simp(maxSteps:=999999)(disch:=omega) only[ZC,eZ,vU U N,e2,c2,vU g2 N,e3,qV,nth,b4,b5,h0,h1,ne_eq,not_true_eq_false,vU h2 b0,zPX 119 W b0 [.bool false, .nilSlice, .nilSlice, .nilSlice] rfl,zO,qD,b8,e9,zMT 9 (.str 0 0) (YG (j.keys.getD k [])),h4,h6,r9,f3]
  .rw[List.append_assoc,List.append_assoc];exact b6 _ _ (.more d0 c3 hb i0)
  .have i1:=((o9.mono y (fun _ _ x=>x)).mono a3 (fun B f T=>by rw[Blk.slice.1 f]at T;have:=d1 _ T;omega)).mono c1 (fun B f e=>by rw[Blk.slice.1 f]at e;omega);simpa using i1
  .refine Par.snoc ⟨b0,c4,a8 _ _ f1⟩ (a9.frame fun t m F s=>a8 _ _ (fr t F (s.prs a0) (f9 t m)))
  .have f5:=h7.mono c1 (fun B f e=>by rw[Blk.slice.1 f]at e;omega);simpa using f5
  .rw[Blk.slice.1 f];omega
  .rw[Blk.slice.1 f];omega
  .exact .inr (by have:=gb.2 B f;have:=J.next;omega)
  .rcases List.mem_append.1 m with m | m
   .exact b7 t m B f
   .simp only[List.mem_singleton]at m;subst m;exact .inr (by have:=ga.2 B f;have:=J.next;omega)
  .rw[Blk.slice.1 T]at f;have:=c9 _ _ d8 _ f;omega
  .rw[Blk.slice.1 T]at f;rcases List.mem_append.1 m with m | m
   .obtain⟨F,i2⟩:=a9.mem m;have:=c9 _ _ (i2.prs a0) _ f;omega
   .simp only[List.mem_singleton]at m;subst m;have:=c9 _ _ d7 _ f;omega
  .simp only[zL,zO,qD];omega
 obtain⟨x,H2,e2,l,j,vs,o,q,p,i,rfl,P,U,N,lc,hG,i3,b6,O,a9,V,bP,bS,bl,b7,i4⟩:=lp;obtain⟨H3,A3,b3,L,g3,m3,n3⟩:=box P.ok (.cells l 119 4 false);obtain⟨H4,e4,o4,s4,n4⟩:=vS (bytes:=80) L.ok (by decide) (O.mono L (fun _ _ x=>x)) (src4 g3 N 2) (by omega) lc (by omega) (by omega) (by decide);have nP: ∀(l:List AV) (nd:Nd.Node),yE H3 (.agg l) nd-> ∀B,kR (.agg l) B-> ¬Blk p B:=fun l nd s B f hp=>by
  obtain⟨_,⟨rfl,_⟩ | ⟨C,rfl,_,u⟩⟩:=O.mono L (fun _ _ x=>x)
  .exact Blk.nil.1 hp
  .rw[Blk.slice.1 hp]at f;exact s.nblk u (.inr (.inr ⟨_,_,_,_,rfl,by decide,by decide⟩)) f
 have c7: ∀B,Blk i B-> ¬Blk p B:=fun B f hp=>by
  obtain⟨_,⟨rfl,_⟩ | ⟨C,rfl,_,u⟩⟩:=O
  .exact Blk.nil.1 hp
  .obtain⟨_,⟨rfl,_⟩ | ⟨E,rfl,_,c8⟩⟩:=V
   .exact Blk.nil.1 f
   .rw[<-Blk.slice.1 hp,Blk.slice.1 f,c8]at u;simp at u
 have a8: ∀(t:List AV) (F:Nd.Node),yE H2 (.agg t) F->yE H4 (.agg t) F:=fun t F s=>(s.prs L).stp s4 (nP t F (s.prs L))
 have N3:=L.next;have PN:=P.next
 refine⟨.slice H3.next 0 (o.length+1) 1,i,H4,vs++[l],o++[j],q, ?_,(P.trans L).fresh s4 bP, ?_, ?_,Par.snoc ⟨N,lc,a8 _ _ hG⟩ (a9.frame fun t m F s=>a8 _ _ s),(V.mono L (fun _ _ x=>x)).mono s4 c7,fun B f=> ?_,bS,fun t m B f=> ?_⟩
 .simp(maxSteps:=999999)(disch:=omega) only[f177,eZ,b1,e2,VJ,vU U N,zPX 119 l N [.bool false, .nilSlice, .nilSlice, .nilSlice] rfl,zO,qD,b3,e4]
 .have:=b6 [j] [] (.one i3);rwa[List.append_nil]at this
 .simpa using o4
 .rw[Blk.slice.1 f];omega
 .rcases List.mem_append.1 m with m | m
  .exact b7 t m B f
  .simp only[List.mem_singleton]at m;subst m;exact bl B f
end Go.Eng.Sh
end
section
set_option maxRecDepth 20000
namespace Go.Eng
theorem Own.ne {k e n:Nat}{H:AH}{v:AV}{l:List AV}(h:Own k e H v n l){A:Nat}{o:AObj}(a:H.h.get A=some o)(i: ∀l e g,o≠ .cells l e k g): ¬Blk v A:=fun f=>by
 obtain⟨_,⟨rfl,_⟩ | ⟨B,rfl,_,j⟩⟩:=h
 .exact Blk.nil.1 f
 .rw[Blk.slice.1 f]at a;rw[j]at a;exact i _ _ _ (Option.some.inj a).symm
theorem Own.get {k e n:Nat}{H:AH}{v:AV}{l:List AV}(h:Own k e H v n l){B:Nat}(a:Blk v B):H.h.get B=some (.cells l e k true):=by
 obtain⟨_,⟨rfl,_⟩ | ⟨C,rfl,_,f⟩⟩:=h
 .exact(Blk.nil.1 a).elim
 .rw[Blk.slice.1 a];exact f
end Go.Eng
namespace Go.Eng.Sh
open Go.Nd (Ptr sumL)
variable {X:Nat->Prop}
def kS (a:Nat):List Nd.Node->PN
 | []=>[]
 | nd::nds=>(a+1,nd)::kS (a+1) nds
def X0 (a:Nat):List (List AV)->List (AV×AV)
 | []=>[]
 | l::vs=>(.int .u64 ((a+1:Nat):Int), .agg l)::X0 (a+1) vs
def pps (a:Nat):Nat->List Ptr
 | 0=>[]
 | n+1=>pp (a+1)::pps (a+1) n
theorem UA (x:Nd.Node): ∀(l:List Nd.Node) (f:Nat),kS f (l++[x])=kS f l++[(f+l.length+1,x)]
 | [],f=>rfl
 | a::l,f=>by
  simp only[List.cons_append,kS,UA x l,zO];rw[show f+1+l.length+1=f+(l.length+1)+1 from by omega]
theorem UB (x:List AV): ∀(l:List (List AV)) (f:Nat),X0 f (l++[x])=X0 f l++[(.int .u64 ((f+l.length+1:Nat):Int), .agg x)]
 | [],f=>rfl
 | a::l,f=>by
  simp only[List.cons_append,X0,UB x l,zO];rw[show f+1+l.length+1=f+(l.length+1)+1 from by omega]
theorem zDr: ∀(n a:Nat),pps a (n+1)=pps a n++[pp (a+n+1)]
 | 0,a=>rfl
 | n+1,a=>by
  rw[pps,zDr n (a+1),pps,List.cons_append,show a+1+n+1=a+(n+1)+1 from by omega]
theorem Q4: ∀(n a:Nat),(pps a n).length=n
 | 0,_=>rfl
 | n+1,a=>by simp[pps,Q4 n (a+1)]
theorem zAZ: ∀ {vs:List (List AV)} {a:Nat} {kv:AV×AV},kv∈X0 a vs-> ∃l∈vs,kv.2= .agg l
 | [],_,_,h=>by simp[X0]at h
 | l::vs,a,kv,h=>by
  rcases List.mem_cons.1 h with rfl | h
  .exact⟨l,zF ..,rfl⟩
  .obtain⟨l',f,i⟩:=zAZ h;exact⟨l',zE _ f,i⟩
theorem Ch.other {H0 H H':AH}{At i F:Nat}{a:List (AV×AV)}{f:PN}{g:AV}{gl:List Ptr}{j m:Nat}{S:Nat->Prop}(h:Ch X H0 H At i F a f g gl j m)(s:Stp S H H')(q: ¬S i)(t: ¬S F)(u: ∀B,Blk g B-> ¬S B)(v: ∀kv∈a,∀B,kR kv.2 B-> ¬S B)(x: ∀B,S B->H0.next<=B):Ch X H0 H' At i F a f g gl j m:=
 ⟨h.prs.fresh s x,by rw[s.keep _ h.ltC q];exact h.gC,by rw[s.keep _ h.ltF t];exact h.gF,h.pf.frame fun kv o nd p=>p.stp s (v kv o),h.gg.mono s u,h.gN,h.gf,h.dC,h.dF,h.ne,h.fs,h.le,h.few,h.fd,h.fl,h.gx,h.xo⟩
theorem xG.mem {H:AH} : ∀ {es:List (AV×AV)} {q:PN},xG H es q-> ∀kv∈es,∃nd,yE H kv.2 nd
 | [],[],_,_,a=>by simp at a
 | e::es,(t,nd)::q,hq,kv,a=>by
  rcases List.mem_cons.1 a with rfl | a
  .exact⟨nd,hq.1.2⟩
  .exact xG.mem hq.2 kv a
 | [],_::_,h,_,_=>h.elim
 | _::_,[],h,_,_=>h.elim
theorem zLG {H:AH} : ∀ {vs:List (List AV)} {a:List Nd.Node} {i:Nat} (_:Par H vs a) (hi:i<a.length),∃l nd,vs[i]? =some l/\a[i]? =some nd/\l.length=4/\qW l=true/\yE H (.agg l) nd/\(vs.flatten.drop (i*4)).take 4=l/\vs.take (i+1)=vs.take i++[l]/\a.take (i+1)=a.take i++[nd]
 | [],[],_,_,hi=>by simp at hi
 | l::vs,nd::a,0,h,_=>⟨l,nd,rfl,rfl,h.1.1,h.1.2.1,h.1.2.2,by simp[List.take_append_of_le_length,h.1.1,zP],rfl,rfl⟩
 | k::vs,m::a,i+1,h,hi=>by
  obtain⟨l,nd,f,j,o,p,q,s,t,h8⟩:=zLG h.2 (by simpa using hi);refine⟨l,nd,f,j,o,p,q, ?_,by simp[t],by simp[h8]⟩;rw[List.flatten_cons,List.drop_append,show(i+1)*4 - k.length=i*4 from by rw[h.1.1];omega,zZ (by rw[h.1.1];omega),List.nil_append];exact s
 | [],_::_,_,h,_=>h.elim
 | _::_,[],_,h,_=>h.elim
theorem zBU (D:Dyn)(n:Nat)(hn:200000000<=n){H0 H:AH}{At t F:Nat}{T:List (AV×AV)}{f:PN}{g y:AV}{gl:List Ptr}{S a:Nat}{vs:List (List AV)}{j:List Nd.Node}(h:Ch X H0 H At t F T f g gl S a)
  (hp:Own 4 119 H y j.length vs.flatten) (W:Par H vs j) (hg: ∀l∈vs,∀B,kR (.agg l) B-> ¬Blk g B/\ ¬X B) (hb:a+j.length<=900000000) (hm:j.length<=10000):
  ∃kv H',f179 D n [.ptr t 0,y] H=some (kv,H')/\Ch X H0 H' At t F (T++X0 a vs) (f++kS a j) g gl S (a+j.length)/\Adv t F H g H' g/\Own 3 42 H' kv j.length ((pps a j.length).flatMap qZ)/\ ∀B,Blk kv B->H.next<=B:=by
 have a0:=W.len.1;have lp:=wI (b:=dS D n) j.length (fun i Y H'=> ∃kv,Y=[.ptr t 0,kv,y, .int .i64 (j.length:Nat), .int .i64 (i:Nat)]/\Ch X H0 H' At t F (T++X0 a (vs.take i)) (f++kS a (j.take i)) g gl S (a+i)/\Adv t F H g H' g/\
   Own 3 42 H' kv i ((pps a i).flatMap qZ)/\ ∀B,Blk kv B->H.next<=B) (fun i Y H' hi ⟨kv,hus,z,C,Z,o⟩=>by
  subst hus;obtain⟨l,nd,v1,v2,ll,lc,hG,a6,a7,a8⟩:=zLG W hi;have c1:i<vs.length:=by omega
  have a9:l∈vs:=List.mem_of_getElem? v1;have hA:=h.next ⟨hG,hg l a9⟩ C
  have b0:Own 4 119 H' y j.length vs.flatten:=hp.mono C.1 (fun B o p=>by
   have u:=hp.get o;rcases p with rfl | rfl | e
   .rw[h.gC]at u;simp at u
   .rw[h.gF]at u;simp at u
   .rw[h.gg.get e]at u;simp at u)
  obtain⟨q,i1,i2⟩:=Rw.ldN b0.row hi;rw[a6]at i2;obtain⟨H1,A7,b1,p1,g1,m1,n1⟩:=box z.prs.ok (.cells [.bool false, .nilSlice, .nilSlice, .nilSlice] 119 1 false);obtain⟨H2,e2,g2,s2,n2⟩:=y9 p1.ok g1 (l':=l) ll lc;have b2:stN 4 (.ptr A7 0) (.agg l) H1=some (qX,H2):=e2;have J:Prs H' H2:=p1.fresh s2 (fun B o=>by omega);have b3:=z.step J;obtain⟨H3,e3,a1,U⟩:=zIZ D n b3 (hA.prs J) (by omega);obtain⟨L,A8,b4,N,g4,m4,n4⟩:=box a1.prs.ok (.cells (qZ (pp (a+i+1))) 42 3 false);have a2:=a1.step N;have a5:srcOf 3 (.slice A8 0 1 2) L=some (1,qZ (pp (a+i+1))):=by
   simp only[srcOf,g4];rfl
  have NH:=C.1.next;have N2:=J.next;have N3:=U.1.next;have N4:=N.next
  have a4: ∀B,Blk kv B-> ¬Blk g B:=fun B s u=>by have:=o B s;have:=Rw.blk h.gg.row u;omega
  have b5:Own 3 42 L kv i ((pps a i).flatMap qZ):=((Z.mono J (fun _ _ x=>x)).mono U.1 (fun B s p=>by
   rcases p with rfl | rfl | e
   .have:=o _ s;have:=h.ltC;omega
   .have:=o _ s;have:=h.ltF;omega
   .exact a4 B s e)).mono N (fun _ _ x=>x)
  obtain⟨H5,e5,o5,O,n5⟩:=vS (bytes:=24) a2.prs.ok (by decide) b5 a5 rfl rfl (by omega) (by omega) (by decide);have b6:=a2.other O (fun p=>by have:=o _ p;have:=h.ltC;omega) (fun p=>by have:=o _ p;have:=h.ltF;omega) (fun B u p=>a4 B p u) (fun e v B K p=>by
   have c2:B<H.next:=by
    rcases List.mem_append.1 v with v | v
    .rcases List.mem_append.1 v with v | v
     .obtain⟨b7,V⟩:=h.pf.mem e v;exact V.lt K
     .obtain⟨l2,b8,e2⟩:=zAZ v;obtain⟨b7,V⟩:=W.mem (List.mem_of_mem_take b8);rw[e2]at K;exact V.lt K
    .simp only[List.mem_singleton]at v;subst v;exact hG.lt K
   have:=o B p;omega) (fun B p=>by have:=o B p;have:=h.prs.next;omega)
  have b9:Adv t F H g H5 g:=by
   have a3:Adv t F H g L g:=((C.trans h.ltC h.ltF (Adv.prs g J)).trans h.ltC h.ltF U).trans h.ltC h.ltF (Adv.prs g N);refine⟨⟨O.ok,by have:=O.next;omega,fun B s hS=> ?_⟩,fun B s=> .inl s⟩
   rw[O.keep B (by omega) (fun p=>by have:=o B p;omega)];exact a3.1.keep B s hS
  refine⟨_,H5, ?_, .slice L.next 0 (i+1) 1,rfl, ?_,b9, ?_,fun B s=>by rw[Blk.slice.1 s];omega⟩
  .have c0:((i:Nat):Int)< ((j.length:Nat):Int):=by omega
   have e1:=bldQ 42 (pp (a+i+1)) [.int .i64 ((0:Nat):Int), .int .i64 ((0:Nat):Int), .int .u64 ((0:Nat):Int)] rfl;simp(maxSteps:=999999)(disch:=omega) only[dS,eZ,c0,i1,i2,b1,b2,vU g2 ll,e3,e1,b4,e5,Int.natCast_add]
  .rw[a7,a8,UB,UA,zQ,zQ,Nat.min_eq_left (by omega),Nat.min_eq_left (by omega),<-List.append_assoc,<-List.append_assoc];exact b6
  .rw[zDr];simpa using o5) n [.ptr t 0, .nilSlice,y, .int .i64 (j.length:Nat), .int .i64 ((0:Nat):Int)] H ⟨.nilSlice,rfl,by simpa[X0,kS]using h,Adv.prs g (Prs.refl h.prs.ok),Own.nil ..,fun B o=>(Blk.nil.1 o).elim⟩ (by omega)
 obtain⟨m,Y,H',e,kv,rfl,z,C,Z,o⟩:=lp;rw[qJ]at z;rw[<-a0,qJ,a0]at z;refine⟨kv,H', ?_,z,C,Z,o⟩;have a:yF (m+1) (dS D n) [.ptr t 0,kv,y, .int .i64 (j.length:Nat), .int .i64 (j.length:Nat)] H'=some (.exit 0 [kv],H'):=y7 (by simp only[dS,eZ,qB]);simp only[f179,eZ,hp.row.lnSl,e,a,VH]
end Go.Eng.Sh
end
section
namespace Go.Bt
open Go.Nd (Str Kvs Ptr lookP putP delP Srt leafOf mayK rising sumL cutA aG fC shaped)
open Go.Eng (ltS)
def kT {α:Type}(Q:Ptr->Option Nd.Node)(R:Nd.Node->α->List Ptr->Prop):List Ptr->List α->List Ptr->Prop
 | [],[],S=>S=[]
 | p::ps,t::ts,S=> ∃nd a f,Q p=some nd/\R nd t a/\kT Q R ps ts f/\S=p::(a++f)
 | _,_,_=>False
def yX (Q:Ptr->Option Nd.Node):(h:Nat)->Nd.Node->Tr h->List Ptr->Prop
 | 0,nd,l,S=>nd=leafOf l/\S=[]
 | h+1,nd,t,S=>nd.leaf=false/\nd.keys=t.1/\nd.vals=[]/\kT Q (yX Q h) nd.kids t.2 S
theorem kT.len {α:Type}{Q:Ptr->Option Nd.Node}{R:Nd.Node->α->List Ptr->Prop} : ∀ {a:List Ptr} {ts:List α} {S:List Ptr},kT Q R a ts S->a.length=ts.length
 | [],[],_,_=>rfl
 | _::a,_::ts,_,⟨_,_,_,_,_,h,_⟩=>by simp[kT.len h]
 | [],_::_,_,h=>h.elim
 | _::_,[],_,h=>h.elim
theorem kT.app {α:Type}{Q:Ptr->Option Nd.Node}{R:Nd.Node->α->List Ptr->Prop}{j:List Ptr}{m:List α}{f:List Ptr}(o:kT Q R j m f): ∀ {i:List Ptr} {ts:List α} {S:List Ptr},kT Q R i ts S->kT Q R (i++j) (ts++m) (S++f)
 | [],[],_,h=>by subst h;exact o
 | p::i,t::ts,_,⟨nd,S1,S2,a,b,c,e⟩=>⟨nd,S1,S2++f,a,b,kT.app o c,by rw[e];simp⟩
 | [],_::_,_,h=>h.elim
 | _::_,[],_,h=>h.elim
theorem kT.split {α:Type}{Q:Ptr->Option Nd.Node}{R:Nd.Node->α->List Ptr->Prop} : ∀(k:Nat) {f:List Ptr} {ts:List α} {S:List Ptr},kT Q R f ts S-> ∃i j,kT Q R (f.take k) (ts.take k) i/\kT Q R (f.drop k) (ts.drop k) j/\S=i++j
 | 0,f,ts,S,h=>⟨[],S,by simp[kT],h,rfl⟩
 | k+1,[],[],_,h=>⟨[],[],by simp[kT],by simp[kT],by subst h;rfl⟩
 | k+1,p::f,t::ts,_,⟨nd,i,j,a,b,c,e⟩=>by
  obtain⟨m,o,q,s,rfl⟩:=kT.split k c;exact⟨p::(i++m),o,⟨nd,i,m,a,b,q,rfl⟩,s,by rw[e];simp⟩
 | _+1,[],_::_,_,h=>h.elim
 | _+1,_::_,[],_,h=>h.elim
theorem kT.at {α:Type}{Q:Ptr->Option Nd.Node}{R:Nd.Node->α->List Ptr->Prop}{i:Nat}{f:List Ptr}{ts:List α}{S:List Ptr}(h:kT Q R f ts S){t:α}(s:ts[i]? =some t):
  ∃p nd j m o,f[i]? =some p/\Q p=some nd/\R nd t m/\kT Q R (f.take i) (ts.take i) j/\kT Q R (f.drop (i+1)) (ts.drop (i+1)) o/\S=j++(p::m++o):=by
 obtain⟨j,v,u,q,rfl⟩:=h.split i;obtain⟨hi,rfl⟩:=List.getElem?_eq_some_iff.1 s;have hl:=h.len;rw[zX hi,zX (show i<f.length by omega)]at q;obtain⟨nd,m,o,a,b,c,rfl⟩:=q;exact⟨_,nd,j,m,o,zH (by omega),a,b,u,c,by simp⟩
theorem kT.mono {α:Type}{Q j:Ptr->Option Nd.Node}{R m:Nd.Node->α->List Ptr->Prop} : ∀ {i:List Ptr} {ts:List α} {S:List Ptr},kT Q R i ts S->(∀p∈S,∀nd,Q p=some nd->j p=some nd)->(∀nd t f,(∀p∈f,p∈S)->R nd t f->m nd t f)->kT j m i ts S
 | [],[],_,h,_,_=>h
 | p::i,t::ts,_,⟨nd,f,S2,a,b,c,e⟩,hq,hr=>by
  subst e;refine⟨nd,f,S2,hq p (zF ..) nd a,hr nd t f (fun p hp=>zE _ (qC _ hp)) b,kT.mono c (fun p hp=>hq p (zE _ (qH _ hp))) (fun nd t f o=>hr nd t f fun p hp=>zE _ (qH _ (o p hp))),rfl⟩
 | [],_::_,_,h,_,_=>h.elim
 | _::_,[],_,h,_,_=>h.elim
theorem yX.mono {Q a:Ptr->Option Nd.Node} : ∀ {h:Nat} {nd:Nd.Node} {t:Tr h} {S:List Ptr},yX Q h nd t S->(∀p∈S,∀nd,Q p=some nd->a p=some nd)->yX a h nd t S
 | 0,_,_,_,w,_=>w
 | h+1,_,_,_,w,hq=>⟨w.1,w.2.1,w.2.2.1,w.2.2.2.mono hq fun nd t i f hr=>yX.mono hr fun p hp=>hq p (f p hp)⟩
theorem kT.kids {α:Type}{Q:Ptr->Option Nd.Node}{R:Nd.Node->α->List Ptr->Prop} : ∀ {a:List Ptr} {ts:List α} {S:List Ptr},kT Q R a ts S-> ∀p∈a,p∈S
 | [],[],_,_=>by simp
 | q::a,_::ts,_,⟨nd,S1,S2,_,_,c,e⟩=>fun p hp=>by
  subst e;rcases List.mem_cons.1 hp with rfl | hp
  .exact zF ..
  .exact zE _ (qH _ (kT.kids c p hp))
 | [],_::_,_,h=>h.elim
 | _::_,[],_,h=>h.elim
theorem yX.size {Q:Ptr->Option Nd.Node}{h:Nat}{nd:Nd.Node}{t:Tr h}{S:List Ptr}(w:yX Q h nd t S):Nd.size nd=jD h t:=by
 cases h with
 | zero=>obtain⟨rfl,_⟩:=w;rfl
 | succ h=>
  obtain⟨_,a,f,i⟩:=w;simp only[Nd.size,jD,jL,a,f,i.len,sumL_nil];omega
theorem yX.leaf {Q:Ptr->Option Nd.Node}{h:Nat}{nd:Nd.Node}{t:Tr h}{S:List Ptr}(w:yX Q h nd t S):nd.leaf=decide (h=0):=by
 cases h with
 | zero=>obtain⟨rfl,_⟩:=w;rfl
 | succ h=>rw[w.1];simp
theorem yX.shaped {Q:Ptr->Option Nd.Node}{h:Nat}{nd:Nd.Node}{t:Tr h}{S:List Ptr}{lo hi:Bd}(w:yX Q h nd t S)(g:Gen h lo hi t)(j:0<h->nd.keys≠[])(a: ∀p∈S,Nd.kidOk p=true):shaped ltS nd=true:=by
 cases h with
 | zero=>
  obtain⟨rfl,_⟩:=w;exact Nd.leaf_shaped g.1 fun p hp=>(g.2 p hp).2.2
 | succ h=>
  obtain⟨m,f,o,i⟩:=w;obtain⟨q,s,u⟩:=g;have hl:=u.len;simp only[Nd.shaped,m,Bool.false_eq_true,if_false,zC,zJ,List.all_eq_true];refine⟨⟨fun k a=> ?_,by rw[f];exact s⟩,⟨⟨j (by omega),o⟩,by rw[i.len,hl,f]⟩,fun p hp=>a p (i.kids p hp)⟩;rw[f]at a;exact(q k a).1
def zEv (Q:Ptr->Option Nd.Node)(h:Nat):List Nd.Node->List (Tr h)->List Ptr->Prop
 | [],[],S=>S=[]
 | nd::nds,t::ts,S=> ∃a f,yX Q h nd t a/\zEv Q h nds ts f/\S=a++f
 | _,_,_=>False
theorem zEv.len {Q:Ptr->Option Nd.Node}{h:Nat} : ∀ {a:List Nd.Node} {ts:List (Tr h)} {S:List Ptr},zEv Q h a ts S->a.length=ts.length
 | [],[],_,_=>rfl
 | _::a,_::ts,_,⟨_,_,_,h,_⟩=>by simp[zEv.len h]
 | [],_::_,_,h=>h.elim
 | _::_,[],_,h=>h.elim
theorem zEV (l:Kvs)(k:Nat):Nd.size (cutA (leafOf l) k)=jI (l.take k):=by
 simp[cutA,leafOf,jI,Nd.size]
theorem zKe {l:Kvs}{k:Nat}(f:Nd.cutOk (leafOf l) k)(hb:Go.Eng.Sh.hbnd (leafOf l) k):zOH 0 l (l.take k) ((leafOf l).keys.getD k []) (l.drop k)/\cutA (leafOf l) k=leafOf (l.take k)/\aG (leafOf l) k=leafOf (l.drop k):=by
 obtain⟨h,a⟩:=f;obtain⟨b1,b2⟩:=hb;have i:(leafOf l).keys=l.map Prod.fst:=rfl;simp only[show(leafOf l).leaf=true from rfl,if_true,i,qM]at a b2;rw[zEV]at b1 b2;refine⟨⟨k,⟨h,a,b1,b2⟩,rfl,rfl,rfl⟩, ?_, ?_⟩
 .simp[cutA,leafOf]
 .simp[aG,leafOf]
theorem yX.cut {Q:Ptr->Option Nd.Node}{h:Nat}{nd:Nd.Node}{t:Tr h}{S:List Ptr}{lo hi:Bd}{k:Nat}(w:yX Q h nd t S)(g:Gen h lo hi t)(z:Nd.cutOk nd k)(hb:Go.Eng.Sh.hbnd nd k):
  ∃q s f i,zOH h t q (nd.keys.getD k []) s/\yX Q h (cutA nd k) q f/\yX Q h (aG nd k) s i/\S=f++i:=by
 obtain⟨u,o⟩:=z;obtain⟨b1,b2⟩:=hb;have v:=w.size
 cases h with
 | zero=>
  obtain⟨rfl,rfl⟩:=w;obtain⟨c1,c2,c3⟩:=zKe ⟨u,o⟩ ⟨b1,b2⟩;exact⟨_,_,[],[],c1,⟨c2,rfl⟩,⟨c3,rfl⟩,rfl⟩
 | succ h=>
  obtain⟨m,a,J,x⟩:=w;obtain⟨f,i,C,F,rfl⟩:=x.split (k+1);have hl:=g.2.2.len;have y:=x.len;simp only[m,Bool.false_eq_true,if_false,a]at o b2;have sz: ∀j,j<=t.1.length->Nd.size (cutA nd j)=jL (t.1.take j) (j+1):=fun j K=>by
   simp only[cutA,m,Bool.false_eq_true,if_false,Nd.size,jL,a,zQ,sumL_nil];rw[y,hl,Nat.min_eq_left (by omega)];omega
  have p:min (h+1+1) 2=2:=by omega
  refine⟨(t.1.take k,t.2.take (k+1)),(t.1.drop (k+1),t.2.drop (k+1)),f,i,⟨k,⟨u, ?_, ?_, ?_⟩,rfl,by rw[a],rfl⟩, ?_, ?_,rfl⟩
  .simp only[XE,p];exact o
  .rcases b1 with b1 | b1
   .exact .inl b1
   .rw[sz k (by omega),v]at b1;exact .inr b1
  .rcases b2 with b2 | b2
   .exact .inl (by simp only[XE,p];exact b2)
   .rw[sz (k+1) (by omega),v]at b2;exact .inr b2
  .simp only[yX,cutA,m,Bool.false_eq_true,if_false,a,true_and];exact C
  .simp only[yX,aG,m,Bool.false_eq_true,if_false,a,true_and];exact F
theorem BY {Q:Ptr->Option Nd.Node}{h:Nat}{nd:Nd.Node}{f:List Nd.Node}{a:List Str}(m:Go.Eng.Sh.CutsN nd f a): ∀ {t:Tr h} {S:List Ptr} {lo hi:Bd},yX Q h nd t S->WX h lo hi t-> ∃ts,Cuts h t ts a/\zEv Q h f ts S:=by
 induction m with
 | one hz=>
  intro t S lo hi w _;exact⟨[t], .one (by rw[<-w.size];exact hz),S,[],w,rfl,by simp⟩
 | @more nd k ps a hz hk hb _ ih=>
  intro t S lo hi w j;have i:500<jD h t:=by rw[<-w.size];exact hz
  obtain⟨o,x,p,q,c1,c2,c3,rfl⟩:=w.cut j.gen hk hb;obtain⟨_,s,_⟩:=zIt j i c1;obtain⟨ts,u,v⟩:=ih c3 s;exact⟨o::ts, .more i c1 u,p,q,c2,v,rfl⟩
theorem zEv.kids {Q:Ptr->Option Nd.Node}{h:Nat} : ∀ {f:List Nd.Node} {ts:List (Tr h)} {S:List Ptr} (a:Nat),zEv Q h f ts S->(∀i nd,f[i]? =some nd->Q (Go.Eng.Sh.pp (a+1+i))=some nd)->
  ∃j,kT Q (yX Q h) (Go.Eng.Sh.pps a f.length) ts j/\j.Perm (Go.Eng.Sh.pps a f.length++S)
 | [],[],S,a,h,_=>⟨[],rfl,by subst h;exact List.Perm.refl _⟩
 | nd::f,t::ts,_,a,⟨S1,S2,w,hp,e⟩,hq=>by
  subst e;obtain⟨j,r,m⟩:=zEv.kids (a+1) hp fun i n hi=>by
   have:=hq (i+1) n (by simpa using hi);rwa[show a+1+(i+1)=a+1+1+i from by omega]at this
  refine⟨Go.Eng.Sh.pp (a+1)::(S1++j),⟨nd,S1,j,hq 0 nd rfl,w,r,rfl⟩, ?_⟩;simp only[zO,Go.Eng.Sh.pps,List.cons_append];refine List.Perm.cons _ ?_;have:(S1++j).Perm (S1++(Go.Eng.Sh.pps (a+1) f.length++S2)):=List.Perm.append_left _ m;refine this.trans ?_;rw[<-List.append_assoc,<-List.append_assoc];exact List.Perm.append_right _ List.perm_append_comm
 | [],_::_,_,_,h,_=>h.elim
 | _::_,[],_,_,h,_=>h.elim
theorem yX.join {Q:Ptr->Option Nd.Node}{h:Nat}{a b:Nd.Node}{f i:Tr h}{j m:List Ptr}(o:yX Q h a f j)(p:yX Q h b i m)(s:Str):yX Q h (fC a s b) (Z7 h f s i) (j++m):=by
 cases h with
 | zero=>
  obtain⟨rfl,rfl⟩:=o;obtain⟨rfl,rfl⟩:=p;have key: ∀a b:Kvs,fC (leafOf a) s (leafOf b)=leafOf (a++b):=fun a b=>by simp[fC,leafOf]
  exact⟨key f i,rfl⟩
 | succ h=>
  obtain⟨q,t,x,u⟩:=o;obtain⟨b1,b2,y,v⟩:=p;simp only[yX,fC,q,Bool.false_eq_true,if_false,Z7,t,b2,true_and];exact kT.app v u
theorem zDH {Q:Ptr->Option Nd.Node}{h:Nat}{a b:Nd.Node}{j m:Tr h}{u v:List Ptr}{lo hi:Bd}{s:Str}(f:yX Q h a j u)(i:yX Q h b m v)(o:Gen h lo (some s) j)(q:Gen h (some s) hi m)(z:mayK s=true)(x:0<h->a.keys≠[])(nb:0<h->b.keys≠[])
  (C: ∀p∈u,Nd.kidOk p=true) (F: ∀p∈v,Nd.kidOk p=true):Go.Eng.Sh.joinOk a s b=true:=by
 have J:=f.shaped o x C;have K:=i.shaped q nb F;simp only[Go.Eng.Sh.joinOk,J,K,Bool.true_and,Nd.partedN,z,f.leaf,i.leaf,beq_self_eq_true];have gl: ∀(l:List Str),l.length≠0->l.getD (l.length - 1) []∈l:=fun l hl=>by
  rw[zT,zH (by omega)];exact qE _
 have y: ∀(l:List Str),l.length≠0->l.getD 0 []∈l:=fun l hl=>by
  rw[zT,zH (by omega)];exact qE _
 cases h with
 | zero=>
  obtain⟨rfl,_⟩:=f;obtain⟨rfl,_⟩:=i;simp only[zC,Bool.or_eq_true,zJ];refine⟨?_, ?_⟩
  .by_cases e:(leafOf (j:Kvs)).keys.length=0
   .exact .inl e
   .refine .inr ?_;have:=gl _ e;obtain⟨p,hp,t⟩:=List.mem_map.1 this;rw[<-t];exact(o.2 p hp).2.1
  .by_cases e:(leafOf (m:Kvs)).keys.length=0
   .exact .inl (.inl e)
   .have:=y _ e;obtain⟨p,hp,t⟩:=List.mem_map.1 this;rw[<-t];rcases(q.2 p hp).1 with e | e
    .exact .inr ⟨trivial,e⟩
    .exact .inl (.inr e)
 | succ h=>
  simp only[zC,Bool.or_eq_true,zJ];refine⟨.inr ?_, .inl (.inr ?_)⟩
  .have hm:=gl a.keys (fun e=>x (by omega) (zM e));rw[f.2.1]at hm⊢;exact(o.1 _ hm).2.2
  .have hm:=y b.keys (fun e=>nb (by omega) (zM e));rw[i.2.1]at hm⊢;exact(q.1 _ hm).2.1
end Go.Bt
end
section
set_option maxRecDepth 20000
namespace Go.Eng
theorem zLb {A off len cc sz room:Nat}{lo hi f:Option Nat}{r:AV}(h:YQ A off len cc sz room lo hi f=some r): ∀B,Blk r B->B=A:=by
 intro B a;unfold YQ at h;simp only[yG]at h;split at h
 .split at h
  .rw[cond_eq_ite]at h;split at h
   .simp only[zB]at h;subst h;exact Blk.slice.1 a
   .cases h
  .cases h
 .rw[cond_eq_ite]at h;split at h
  .rw[cond_eq_ite]at h;split at h
   .simp only[zB]at h;subst h;exact Blk.slice.1 a
   .rw[cond_eq_ite]at h;split at h
    .simp only[zB]at h;subst h;exact Blk.slice.1 a
    .rw[cond_eq_ite]at h;split at h
     .simp only[zB]at h;subst h;exact Blk.slice.1 a
     .simp only[zB]at h;subst h;obtain⟨_,_,_,a⟩:=a;cases a
  .cases h
theorem UP {sz:Nat}{v:AV}{lo hi f:Option AV}{H:AH}{r:AV}(h:wR sz v lo hi f H=some r): ∀B,Blk r B->Blk v B:=by
 intro B a;unfold wR at h;split at h
 .split at h
  .rw[cond_eq_ite]at h;split at h
   .simp only[zB]at h;subst h;exact a
   .cases h
  .split at h
   .rw[cond_eq_ite]at h;split at h
    .rw[zLb h B a];exact⟨_,_,_,rfl⟩
    .cases h
   .cases h
  .split at h
   .rw[cond_eq_ite]at h;split at h
    .simp only[zB]at h;subst h;obtain⟨_,_,_,a⟩:=a;cases a
    .cases h
   .cases h
  .cases h
 .cases h
end Go.Eng
namespace Go.Eng.Sh
open Go.Nd (Ptr sumL)
variable {X:Nat->Prop}
theorem hi3 {H:AH}{v:AV}{l:List Ptr}(h:yV 3 42 H v l.length (l.flatMap qZ)){i:Nat}(hi:i<=l.length):
  ∃r,wR 3 v none (some (.int .i64 (i:Nat))) (some (.int .i64 (i:Nat))) H=some r/\u4 H r (l.take i):=by
 obtain⟨r,f,w,_⟩:=UO h (by decide) hi .i64 .i64;rw[KF]at w;have a:(l.take i).length=i:=by rw[zQ];omega
 exact⟨r,f,by rw[u4,a];exact w⟩
theorem lo3 {H:AH}{v:AV}{l:List Ptr}(h:yV 3 42 H v l.length (l.flatMap qZ)){i:Nat}(hi:i<=l.length)(m:0<l.length):
  ∃r,wR 3 v (some (.int .i64 (i:Nat))) none none H=some r/\u4 H r (l.drop i):=by
 by_cases j:i<l.length
 .obtain⟨r,a,w,_⟩:=Q1 h (by decide) j .i64;rw[KG]at w;have f:(l.drop i).length=l.length - i:=by rw[zV]
  exact⟨r,a,by rw[u4,f];exact w⟩
 .obtain rfl:i=l.length:=by omega
  obtain⟨r,a,w⟩:=YT h (by decide) m .i64;exact⟨r,a,by rw[List.drop_length];exact w⟩
theorem conP3 (D:Dyn)(n:Nat){H:AH}{A cc:Nat}{x y z:AV}{l m k:List Ptr}(i:H.ok)(j:H.h.get A=some (.cells [x,y,z] 50 1 false))(q:u4 H x l)(s:u4 H y m)(t:u4 H z k)(hb:l.length+m.length+k.length<=1000000000)(C:100<=n):
  ∃w H',f178 D n [.slice A 0 3 cc] H=some (w,H')/\Prs H H'/\Own 3 42 H' w (l++(m++k)).length ((l++(m++k)).flatMap qZ)/\ ∀B,Blk w B->H.next<=B:=by
 obtain⟨w,H',e,p,o,f⟩:=zIH D n i (v:= .slice A 0 3 cc) (vs:=[x,y,z]) (rs:=[(l.length,l.flatMap qZ),(m.length,m.flatMap qZ),(k.length,k.flatMap qZ)]) (Rw.lit i j) ⟨⟨q,v6 _⟩,⟨s,v6 _⟩,⟨t,v6 _⟩,trivial⟩ (by simp[uB];omega) (by simp) (by simp;omega)
  (fun B a=>by rw[Blk.slice.1 a];exact i.lt j) (fun z u B a=>by
   simp only[List.mem_cons,List.not_mem_nil,or_false]at u;rcases u with rfl | rfl | rfl
   .exact Rw.blk q a
   .exact Rw.blk s a
   .exact Rw.blk t a)
 exact⟨w,H',e,p,by simpa[uB,zFe]using o,f⟩
theorem zN4 (D:Dyn)(n:Nat)(hn:200000000<=n){H0 H:AH}{At q F y A7 o i m:Nat}{a3:List (AV×AV)}{f:PN}{g:AV}{gl:List Ptr}{a2 t:Nat}{ln lk:List AV}{nd Y:Nd.Node}
  (h:Ch X H0 H At q F a3 f g gl a2 t) (O:H.h.get y=some (.cells ln 119 1 false)) (g7:H.h.get A7=some (.cells lk 119 1 false)) (T:H.h.get o=some (.cells [.bool false, .nilSlice, .nilSlice, .nilSlice] 119 1 false))
  (f5:H0.next<=y) (f7:H0.next<=A7) (f8:H0.next<=o) (h58:y≠o) (c5:y≠q) (b0:o≠q)
  (hv:kC X H g (.agg ln) nd) (a5:kC X H g (.agg lk) Y) (c6:Nd.shaped ltS Y=true) (hz:Nd.size Y<=10000) (hs:small nd) (f9:nd.kids.length=nd.keys.length+1) (c7:nd.keys≠[]) (g0:i+m<nd.kids.length)
  (c0: ∀j s,CutsN Y j s->j.length<=1000/\s.length<=1000) (hb:t<=800000000):
  ∃u H' j s vs,ZE D n [.ptr q 0, .ptr y 0, .ptr A7 0, .ptr o 0, .int .i64 (i:Nat), .int .i64 ((i+m+1:Nat):Int)] H=some (.ret (.tuple [u, .int .i64 ((0:Nat):Int)]),H')/\CutsN Y j s/\
   Ch X H0 H' At q F (a3++X0 t vs) (f++kS t j) g gl a2 (t+j.length)/\Stp (fun B=>chg q F g B\/B=o) H H'/\
   kC X H' g u ⟨false,nd.keys.take i++(s++nd.keys.drop (i+m)),[],nd.kids.take i++(pps t j.length++nd.kids.drop (i+m+1))⟩/\ ∀B,kR u B->H.next<=B:=by
 obtain⟨ks,a6,Z,b1,k1,k2,k3⟩:=id hv.1;simp only[AV.agg.injEq]at b1;subst b1;have c8:lk.length=4:=by obtain⟨_,_,_,e,_⟩:=a5.1;simp only[AV.agg.injEq]at e;rw[e];rfl
 have b9:0<nd.keys.length:=by
  rcases Nat.eq_zero_or_pos nd.keys.length with e | e
  .exact absurd (zM e) c7
  .exact e
 obtain⟨s1,s2,s3⟩:=hs;have f2:=Nd.sumL_ge nd.keys;obtain⟨pv,sv,H1,vs,j,s,e1,J,a9,oP,c3,oS,bP,bS,c9⟩:=zBy D n hn h.prs.ok a5.1 c6 hz;obtain⟨c1,c2⟩:=c0 j s a9;have h1:=h.step J;have G5 {K:AH} (p:Prs H K):=Prs.get p h.prs.ok O;have q1 {K:AH} (p:Prs H K):yV 1 9 K ks nd.keys.length (nd.keys.map S):=k1.mono p (fun _ _ x=>x);have q3 {K:AH} (p:Prs H K):yV 3 42 K Z nd.kids.length (nd.kids.flatMap qZ):=k3.mono p (fun _ _ x=>x);obtain⟨r1,d0,x1⟩:=hi1 (q1 J) (i:=i) (by omega);obtain⟨r2,d1,x2⟩:=lo1 (q1 J) (i:=i+m) (by omega) b9;obtain⟨H2,A2,b2,z,g2,m2,n2⟩:=box J.ok (.cells [r1,sv,r2] 117 1 false);have U:=J.trans z;obtain⟨r3,b3,x3⟩:=hi3 (q3 U) (i:=i) (by omega);obtain⟨r4,b4,x4⟩:=lo3 (q3 U) (i:=i+m+1) (by omega) (by omega);have d2:Strs H2 sv s:=(oS.mono z (fun _ _ x=>x)).row;obtain⟨w3,H3,e3,V,o3,f3⟩:=zPP D n (cc:=6) z.ok g2 (x1.prs z) d2 (x2.prs z) (by simp only[zQ,zV];omega) (by omega);have L:=U.trans V;have h3:=h.step L;have N1:=J.next;have N2:=z.next;have N3:=V.next
 obtain⟨kv,H4,e4,h4,C,o4,f4⟩:=zBU D n hn h3 (oP.mono (z.trans V) (fun _ _ x=>x)) (c3.frame fun l hl nd hg=>hg.prs (z.trans V)) (fun l hl B a=>by
  rcases c9 l hl B a with e | e
  .exact a5.2 B e
  .exact⟨fun a7=>by have:=Rw.blk h.gg.row a7;omega,fun hx=>by have:=h.xo B hx;have:=h.prs.next;omega⟩) (by omega) (by omega)
 have a0:kC X H3 g (.agg [.bool nd.leaf,ks,a6,Z]) nd:=hv.prs L;have d3:=h3.next a0 C
 obtain⟨g1,vs',g3,ee,j1,j2,j3⟩:=id d3.1;simp only[AV.agg.injEq,List.cons.injEq,and_true,true_and]at ee;obtain⟨rfl,rfl,rfl⟩:=ee;have b6: ∀B,Blk Z B-> ¬chg q F g B:=fun B a N=>by
  have a8:kR (.agg [.bool nd.leaf,ks,a6,Z]) B:=jK.2 (.inr (.inr a));rcases N with rfl | rfl | e
  .exact a0.1.nblk h3.gC (.inl ⟨_,_,_,_,rfl,fun _ _ e=>by cases e⟩) a8
  .exact a0.1.nblk h3.gF (.inr (.inl ⟨_,_,rfl⟩)) a8
  .exact(a0.2 B a8).1 e
 have y3:u4 H4 r3 (nd.kids.take i):=Rw.stp (x3.prs V) C.1 (fun B a=>b6 B (UP b3 B a));have y4:u4 H4 r4 (nd.kids.drop (i+m+1)):=Rw.stp (x4.prs V) C.1 (fun B a=>b6 B (UP b4 B a));obtain⟨H5,A9,b5,v,d4,m5,n5⟩:=box h4.prs.ok (.cells [r3,kv,r4] 50 1 false);have d5:u4 H5 kv (pps t j.length):=by
  have:=(o4.mono v (fun _ _ x=>x)).row;rw[u4,Q4];exact this
 obtain⟨w6,H6,e6,p6,o6,f6⟩:=conP3 D n (cc:=6) v.ok d4 (y3.prs v) d5 (y4.prs v) (by rw[Q4];simp only[zQ,zV];omega) (by omega);have W:Prs H4 H6:=v.trans p6;have h6:=h4.step W;have N4:=C.1.next;have N6:=W.next;have N0:=h.prs.next
 have g4:o<H.next:=h.prs.ok.lt T
 have g6:y<H.next:=h.prs.ok.lt O
 have n8: ¬chg q F g o:=fun N=>by
  rcases N with e | e | e
  .exact b0 e
  .rw[e,h.gF]at T;cases T
  .rw[h.gg.get e]at T;simp at T
 have d6: ¬chg q F g y:=fun N=>by
  rcases N with e | e | e
  .exact c5 e
  .rw[e,h.gF]at O;cases O
  .rw[h.gg.get e]at O;simp at O
 have b7:H6.h.get o=some (.cells [.bool false, .nilSlice, .nilSlice, .nilSlice] 119 1 false):=by
  rw[W.keep _ (by omega) (fun x=>x),C.1.keep _ (by omega) n8];exact Prs.get L h.prs.ok T
 have d7:H4.h.get y=some (.cells [.bool nd.leaf,ks,a6,Z] 119 1 false):=by rw[C.1.keep _ (by omega) d6];exact G5 L
 have b8:Own 1 9 H6 w3 (nd.keys.take i++(s++nd.keys.drop (i+m))).length ((nd.keys.take i++(s++nd.keys.drop (i+m))).map S):=(o3.mono C.1 (fun B a N=>by
  have:=f3 B a;rcases N with e | e | e
  .have:=h.ltC;omega
  .have:=h.ltF;omega
  .have:=Rw.blk h.gg.row e;omega)).mono W (fun _ _ x=>x)
 obtain⟨H7,e7,d8,s7,n7⟩:=y9 h6.prs.ok b7 (l':=[.bool false,w3, .nilSlice,w6]) rfl (by simp only[qW,b8.row.isCell,o6.row.isCell];rfl);have d9:stN 4 (.ptr o 0) (.agg [.bool false,w3, .nilSlice,w6]) H6=some (qX,H7):=e7;have e0: ∀B,Blk g B-> ¬B=o:=fun B a e=>n8 (.inr (.inr (e▸a)))
 have h7:Ch X H0 H7 At q F (a3++X0 t vs) (f++kS t j) g gl a2 (t+j.length):=h6.other s7 (fun e=>b0 e.symm) (fun e=>n8 (.inr (.inl e.symm))) e0 (fun e2 e5 B a e=>by
  subst e;obtain⟨g9,e8⟩:=h6.pf.mem e2 e5;exact e8.nblk b7 (.inl ⟨_,_,_,_,rfl,fun _ _ e=>by cases e⟩) a) (fun B a=>by omega)
 have e9:wR 1 ks (some (.int .i64 ((i+m:Nat):Int))) none none H1=some r2:=d1;have c4:((i+m+1:Nat):Int) - ((1:Nat):Int)=((i+m:Nat):Int):=by omega
 refine⟨.agg [.bool false,w3, .nilSlice,w6],H7,j,s,vs, ?_,a9,h7, ?_,⟨⟨w3, .nilSlice,w6,rfl, .inl (b8.mono s7 (fun B a e=>by have:=f3 B a;omega)), .inl (Own.nil ..), .inl (o6.mono s7 (fun B a e=>by have:=f6 B a;have:=v.next;omega))⟩,fun B a=>⟨fun a7=> ?_,fun hx=> ?_⟩⟩,fun B a=> ?_⟩
 .have f1: ¬(((0:Nat):Int)≠((0:Nat):Int)):=by omega
  simp(config:= { maxSteps:=2000000}) (disch:=omega) only[ZE,eZ,vU g7 c8,e1,qV,nth,f1,qT (G5 J),d0,c4,e9,row3 117 .nilSlice x1.isCell oS.row.isCell x2.isCell,b2,qT (G5 U),b3,b4,e3,j8 (qT (G5 L) 3) (yL k3.row),vC (q3 U) (q3 L) (by decide),j8 rfl (yL x3),j8 rfl (yL x4),e4,j8 (qT d7 3) (yL k3.row),vC (q3 U) j3 (by decide),
   row3 50 .nilSlice x3.isCell o4.row.isCell x4.isCell,b5,e6,zO4 o3.row.isCell o6.row.isCell,d9,vU d8 rfl]
 .have a1:Stp (fun B=>chg q F g B\/B=o) H H4:=(L.mono (fun _ _ x=>x.elim)).trans (C.1.mono (fun _ _ x=> .inl x));exact(a1.trans (W.mono (fun _ _ x=>x.elim))).trans (s7.mono (fun _ _ x=> .inr x))
 .have:=Rw.blk h.gg.row a7;rcases jK.1 a with e | e | e
  .have:=f3 B e;omega
  .exact(Blk.nil.1 e).elim
  .have:=f6 B e;have:=v.next;omega
 .have:=h.xo B hx;have:=h.prs.next
  rcases jK.1 a with e | e | e
  .have:=f3 B e;omega
  .exact(Blk.nil.1 e).elim
  .have:=f6 B e;have:=v.next;omega
 .rcases jK.1 a with e | e | e
  .have:=f3 B e;omega
  .exact(Blk.nil.1 e).elim
  .have:=f6 B e;have:=v.next;omega
end Go.Eng.Sh
end
section
set_option maxRecDepth 20000
namespace Go.Eng.Sh
open Go.Nd (Ptr sumL fC)
open Go.Bt
variable {E:Ev}{X:Nat->Prop}
theorem QX {s t:Nat}(h:pp s=pp t):s=t:=by simp only[pp,Ptr.mk.injEq]at h;omega
theorem zKi (s:Nat):Nd.kidOk (pp s)=true:=by simp[Nd.kidOk,pp]
theorem QC: ∀ {j:List Nd.Node} {f i:Nat} {nd:Nd.Node},j[i]? =some nd->y8 (f+1+i) (kS f j)=some nd
 | [],_,_,_,h=>by simp at h
 | a::j,f,0,nd,h=>by simp at h;subst h;simp[kS,y8]
 | a::j,f,i+1,nd,h=>by
  simp only[List.getElem?_cons_succ]at h;rw[kS,y8,if_neg (by omega),show f+1+(i+1)=f+1+1+i from by omega];exact QC h
theorem WZ: ∀ {i:List Nd.Node} {f s:Nat} {nd:Nd.Node},y8 s (kS f i)=some nd->f<s/\s<=f+i.length
 | [],_,_,_,h=>by simp[kS,y8]at h
 | a::i,f,s,nd,h=>by
  rw[kS,y8]at h;split at h
  .simp only[zO];omega
  .have:=WZ h;simp only[zO];omega
theorem zAa {q f new:PN}{j:Nat}(m: ∀s nd,y8 s q=some nd->s<=j)(o: ∀s nd,y8 s new=some nd->j<s){p:Ptr}{nd:Nd.Node}(h:Qf E q f p=some nd):Qf E q (f++new) p=some nd:=by
 obtain⟨s,rfl,a | ⟨a,i⟩⟩ | ⟨a,i⟩:=xF h
 .rw[zA9,kN,a]
 .rw[zA9,kN,a];simp only
  cases t:y8 s new with
  | none=>exact i
  | some n2=>have:=m _ _ i;have:=o _ _ t;omega
 .rw[X2 a];exact i
theorem vJ {p:Ptr}{nd:Nd.Node}(h:E.K p=some nd):Nd.kidOk p=true/\2<=p.at_:=by
 obtain⟨a,birth,kind,body,rfl,f,i,⟨j,_⟩,m,_⟩:=Ev.K_iff.1 h;simp only[Nd.kidOk,zC,zJ];simp only[uC];omega
theorem zAb {q f:PN}{p:Ptr}{nd:Nd.Node}(h:Qf E q f p=some nd):Nd.kidOk p=true:=by
 obtain⟨s,rfl,_⟩ | ⟨_,a⟩:=xF h
 .exact zKi s
 .exact(vJ a).1
theorem zOk {q f:PN}{p:Ptr}{nd:Nd.Node}(h:Qf E q f p=some nd):1<=p.at_:=by
 have:=zAb h;simp only[Nd.kidOk,zC,zJ]at this;omega
theorem kT.kidOk {α:Type}{q f:PN}{R:Nd.Node->α->List Ptr->Prop}(hr: ∀nd t S,R nd t S-> ∀p∈S,Nd.kidOk p=true): ∀ {j:List Ptr} {ts:List α} {S:List Ptr},kT (Qf E q f) R j ts S-> ∀p∈S,Nd.kidOk p=true
 | [],[],_,h=>by subst h;simp
 | p::j,t::ts,_,⟨nd,S1,S2,a,b,c,e⟩=>fun x i=>by
  subst e;rcases List.mem_cons.1 i with rfl | i
  .exact zAb a
  .rcases List.mem_append.1 i with i | i
   .exact hr _ _ _ b x i
   .exact kT.kidOk hr c x i
 | [],_::_,_,h=>h.elim
 | _::_,[],_,h=>h.elim
theorem yX.kidOk {q f:PN} : ∀ {h:Nat} {nd:Nd.Node} {t:Bt.Tr h} {S:List Ptr},yX (Qf E q f) h nd t S-> ∀p∈S,Nd.kidOk p=true
 | 0,_,_,_,w=>by obtain⟨_,rfl⟩:=w;simp
 | h+1,_,_,_,w=>kT.kidOk (fun _ _ _ hr=>yX.kidOk hr) w.2.2.2
theorem zAM (D:Dyn)(n:Nat)(hn:200000000<=n){H0 H:AH}{At K F T A7 L i m h:Nat}{q:PN}{b1:List (AV×AV)}{f:PN}{g:AV}{gl:List Ptr}{Y o:Nat}{ln lk:List AV}{nd U:Nd.Node}{t:Bt.Tr (h+1)}{x:Bt.Tr h}{Sa Sb Sx:List Ptr}{lo hi:Bd}
  (ch:Ch X H0 H At K F b1 f g gl Y o) (g5:H.h.get T=some (.cells ln 119 1 false)) (g7:H.h.get A7=some (.cells lk 119 1 false)) (g8:H.h.get L=some (.cells [.bool false, .nilSlice, .nilSlice, .nilSlice] 119 1 false))
  (b2:H0.next<=T) (b3:H0.next<=A7) (b4:H0.next<=L) (h58:T≠L) (b5:T≠K) (b6:L≠K)
  (hv:kC X H g (.agg ln) nd) (b7:kC X H g (.agg lk) U) (hq: ∀s nd,y8 s q=some nd->s<=Y)
  (n1:nd.leaf=false) (V:nd.keys=t.1) (n3:nd.vals=[]) (n4:nd.kids.length=t.2.length) (wi:Inn (WF h) lo hi t) (b8:t.1≠[]) (hz:jL t.1 t.2.length<=500) (a6:i+m<t.2.length)
  (ra:kT (Qf E q f) (yX (Qf E q f) h) (nd.kids.take i) (t.2.take i) Sa) (rb:kT (Qf E q f) (yX (Qf E q f) h) (nd.kids.drop (i+m+1)) (t.2.drop (i+m+1)) Sb)
  (W:yX (Qf E q f) h U x Sx) (wx:WX h (XB lo t.1 i) (ZU t.1 hi (i+m)) x) (fx:Full h x) (b9:0<h->U.keys≠[]) (hb:o<=800000000):
  ∃u H' a9 f' Z J N C,ZE D n [.ptr K 0, .ptr T 0, .ptr A7 0, .ptr L 0, .int .i64 (i:Nat), .int .i64 ((i+m+1:Nat):Int)] H=some (.ret (.tuple [u, .int .i64 ((0:Nat):Int)]),H')/\
   Ch X H0 H' At K F a9 f' g gl Y Z/\Stp (fun B=>chg K F g B\/B=L) H H'/\kC X H' g u J/\(∀B,kR u B->H.next<=B)/\yX (Qf E q f') (h+1) J N C/\Inn (WF h) lo hi N/\
   con (h+1) N=(t.2.take i).flatMap (con h)++con h x++(t.2.drop (i+m+1)).flatMap (con h)/\jL N.1 N.2.length<=jL t.1 t.2.length+285/\t.1.length<=N.1.length+m/\o<=Z/\Z<=o+6/\
   C.Perm (pps o (Z - o)++(Sa++Sb++Sx))/\ ∀p nd,Qf E q f p=some nd->Qf E q f' p=some nd:=by
 have hl:=wi.2.2.len;have c0:small nd:=by
  have:Nd.size nd<=10000:=by
   simp only[Nd.size,V,n3,n4,Bt.sumL_nil];simp only[jL]at hz;omega
  exact kY this
 have c3:=W.shaped wx.gen b9 (yX.kidOk W);have c4:Nd.size U<=10000:=by rw[W.size];have:=wx.sz;omega
 have a4: ∀v y,CutsN U v y->v.length<=6/\y.length<=6:=fun v y hc=>by
  obtain⟨ts,c1,c2⟩:=BY hc W wx;obtain⟨d1,_,d3,_⟩:=BX c1 wx (.inl fx);have l1:=c2.len;have l2:=d1.2.2.len;simp only at l2;omega
 obtain⟨u,H',v,y,vs,e1,a5,c5,st,hu,c6⟩:=zN4 D n hn (i:=i) (m:=m) ch g5 g7 g8 b2 b3 b4 h58 b5 b6 hv b7 c3 c4 c0 (by rw[n4,hl,V]) (by rw[V];exact b8) (by rw[n4];exact a6) (fun v y hc=>by have:=a4 v y hc;omega) hb;obtain⟨ts,c1,c2⟩:=BY a5 W wx;obtain⟨p1,p2,p3,p4⟩:=zJZ (ks:=t.1) (ts:=t.2) wi a6 wx fx c1;have b0: ∀s J,y8 s (kS o v)=some J->Y<s:=fun s J hs=>by have:=WZ hs;have:=ch.le;omega
 have more: ∀p nd,Qf E q f p=some nd->Qf E q (f++kS o v) p=some nd:=fun p nd hp=>zAa hq b0 hp
 have a0: ∀ {ps:List Ptr} {ts:List (Bt.Tr h)} {S:List Ptr},kT (Qf E q f) (yX (Qf E q f) h) ps ts S->kT (Qf E q (f++kS o v)) (yX (Qf E q (f++kS o v)) h) ps ts S:=fun r=>r.mono (fun p _ nd hp=>more p nd hp) (fun nd t S1 _ hr=>hr.mono fun p _ nd hp=>more p nd hp)
 have c7:zEv (Qf E q (f++kS o v)) h v ts Sx:=by
  have mono: ∀ {O:List Nd.Node} {z:List (Bt.Tr h)} {C:List Ptr},zEv (Qf E q f) h O z C->zEv (Qf E q (f++kS o v)) h O z C:=by
   intro O
   induction O with
   | nil=>intro z C hp;cases z with
    | nil=>exact hp
    | cons=>exact hp.elim
   | cons a O ih=>intro z C hp;cases z with
    | nil=>exact hp.elim
    | cons b z=>
     obtain⟨S1,S2,a1,a2,a3⟩:=hp;exact⟨S1,S2,a1.mono fun p _ nd hp=>more p nd hp,ih a2,a3⟩
  exact mono c2
 have a8: ∀j,y8 (o+1+j) f=none:=fun j=>by
  cases hk:y8 (o+1+j) f with
  | none=>rfl
  | some V=>have:=ch.fs _ _ hk;omega
 obtain⟨S2,r2,a7⟩:=c7.kids o (fun j J hj=>by rw[zA9,kN,a8];simp only[QC hj]);have rl:=kT.app (kT.app (a0 rb) r2) (a0 ra);have c8:=a4 v y a5;refine⟨u,H',_,_,o+v.length,_,(t.1.take i++y++t.1.drop (i+m),t.2.take i++ts++t.2.drop (i+m+1)),Sa++(S2++Sb),e1,c5,st,hu,c6,⟨rfl,by simp[V],rfl, ?_⟩,p1,p2,p3,p4,by omega,by omega, ?_,more⟩
 .simp only[List.append_assoc];exact rl
 .rw[show o+v.length - o=v.length by omega];rw[List.perm_iff_count]at a7⊢;intro a;have:=a7 a;simp only[List.count_append]at this⊢;omega
end Go.Eng.Sh
end
section
set_option maxRecDepth 20000
namespace Go.Eng.Sh
open Go.Nd (Ptr sumL fC)
open Go.Bt
variable {E:Ev}{X:Nat->Prop}
theorem Ch.stb {H0 H H':AH}{At j F A:Nat}{p:List (AV×AV)}{f:PN}{g:AV}{gl:List Ptr}{m o e:Nat}{b:Bool}{r:List AV}(h:Ch X H0 H At j F p f g gl m o)(a:H.h.get A=some (.cells (.bool b::r) e 1 false))(s:Stp (fun B=>B=A) H H')(u:H0.next<=A)(v:A≠j):Ch X H0 H' At j F p f g gl m o:=
 h.other s (fun e=>v e.symm) (fun e=>by subst e;rw[h.gF]at a;cases a) (fun B i e=>by subst e;rw[h.gg.get i]at a;simp at a) (fun kv q B i e=>by
  subst e;obtain⟨x,t⟩:=h.pf.mem kv q;exact t.nblk a (.inl ⟨_,_,_,_,rfl,fun _ _ e=>by cases e⟩) i) (fun B i=>by subst i;exact u)
theorem kC.stb {H H':AH}{A:Nat}{g v:AV}{nd:Nd.Node}{e:Nat}{b:Bool}{r:List AV}(h:kC X H g v nd)(a:H.h.get A=some (.cells (.bool b::r) e 1 false))(s:Stp (fun B=>B=A) H H'):kC X H' g v nd:=
 ⟨h.1.stp s fun B f e=>by subst e;exact h.1.nblk a (.inl ⟨_,_,_,_,rfl,fun _ _ e=>by cases e⟩) f,h.2⟩
theorem aX {l:List AV}{H:AH}{nd:Nd.Node}(h:yE H (.agg l) nd): ∃r,l= .bool nd.leaf::r/\l.length=4/\qW l=true:=by
 obtain⟨ks,vs,j,e,a,f,i⟩:=h;simp only[AV.agg.injEq]at e;subst e;exact⟨_,rfl,rfl,ZS _ _ _ _ a.row.isCell f.row.isCell i.row.isCell⟩
theorem zEP (m9 n:Nat)(hn:200000000<=n){H0 H:AH}{At Ac F M i h:Nat}{d c dr:AV}{root:Ptr}{es:List (AV×AV)}{q:PN}{l5:List (AV×AV)}{f:PN}{g:AV}{gl:List Ptr}{c1 W:Nat}{ln lk:List AV}{nd kd:Nd.Node}{t:Bt.Tr (h+1)}{x tk:Bt.Tr h}{Sa Sb Sx:List Ptr}{lo hi:Bd}
  (ti:TI E H0 At M d c root es q c1 dr) (hold: ∀kv∈es,∀B,kR kv.2 B->B<H0.next) (l6: ∀kv∈es,∀B,kR kv.2 B-> ¬X B) (hq: ∀s nd,y8 s q=some nd->s<=c1) (ch:Ch X H0 H At Ac F l5 f g gl c1 W)
  (hv:kC X H g (.agg ln) nd) (d2:kC X H g (.agg lk) kd)
  (n1:nd.leaf=false) (n2:nd.keys=t.1) (n3:nd.vals=[]) (n4:nd.kids.length=t.2.length) (wi:Inn (WF h) lo hi t) (c2:t.1≠[]) (hz:jL t.1 t.2.length<=500) (l7:t.2[i]? =some tk)
  (ra:kT (Qf E q []) (yX (Qf E q []) h) (nd.kids.take i) (t.2.take i) Sa) (rb:kT (Qf E q []) (yX (Qf E q []) h) (nd.kids.drop (i+1)) (t.2.drop (i+1)) Sb)
  (rx:yX (Qf E q f) h kd x Sx) (wx:WX h (XB lo t.1 i) (ZU t.1 hi i) x) (d9:0<h->kd.keys≠[]) (hb:W<=700000000) (l8:gl.length+1<=W+1000):
  ∃u H' Y J g' i2 v C o O G R,f129 (dy (m9+1)) n [.ptr Ac 0, .agg ln, .int .i64 (i:Nat), .agg lk] H=some (.tuple [u, .int .i64 ((0:Nat):Int)],H')/\
   Ch X H0 H' At Ac F Y J g' i2 c1 v/\Adv Ac F H g H' g'/\kC X H' g' u C/\yX (Qf E q J) (h+1) C o O/\Inn (WF h) lo hi o/\
   con (h+1) o=(t.2.take i).flatMap (con h)++con h x++(t.2.drop (i+1)).flatMap (con h)/\jL o.1 o.2.length<=jL t.1 t.2.length+285/\t.1.length<=o.1.length+1/\W<=v/\v<=W+6/\i2=gl++G/\
   O.Perm (pps W (v - W)++(R++Sx))/\(Sa++Sb).Perm (G++R)/\(∀p nd,Qf E q f p=some nd->Qf E q J p=some nd)/\G.length<=1:=by
 obtain⟨l9,rfl⟩:=List.getElem?_eq_some_iff.1 l7;have q5:=wi.2.2.len;obtain⟨rn,q6,q8,q9⟩:=aX hv.1;obtain⟨rk,m0,b8,r0⟩:=aX d2.1;obtain⟨H1,A5,b1,p1,g1,m1,r3⟩:=box ch.prs.ok (.cells ln 119 1 false);obtain⟨H2,A7,b2,p2,g2,m2,r4⟩:=box p1.ok (.cells lk 119 1 false);obtain⟨H3,A8,b3,p3,g3,m3,r6⟩:=box p2.ok (.cells [.bool false, .nilSlice, .nilSlice, .nilSlice] 119 1 false);have P3:Prs H H3:=(p1.trans p2).trans p3;have m4:=Prs.get p3 p2.ok (Prs.get p2 p1.ok g1);have d3:=Prs.get p3 p2.ok g2;have e0:small kd:=kY (by rw[rx.size];have:=wx.sz;omega);obtain⟨z,H4,e4,rfl,p4⟩:=JN (dy (m9+1)) n P3.ok (d2.1.prs P3).node e0 hn;have L:=P3.trans p4;have d4:=Prs.get p4 P3.ok m4;have i3:=Prs.get p4 P3.ok d3;have i5:=Prs.get p4 P3.ok g3;have a6:=ch.step L;have N0:=ch.prs.next
 have cc:=ch.ltC;have f1: ∀p nd,Qf E q [] p=some nd->Qf E q f p=some nd:=fun p nd hp=>by
  have:=zAa (new:=f) hq (fun s C hs=>(ch.fs s C hs).1) hp;simpa using this
 have b7: ∀ {ps:List Ptr} {ts:List (Bt.Tr h)} {S:List Ptr},kT (Qf E q []) (yX (Qf E q []) h) ps ts S->kT (Qf E q f) (yX (Qf E q f) h) ps ts S:=fun r=>r.mono (fun p _ nd hp=>f1 p nd hp) (fun nd t S1 _ hr=>hr.mono fun p _ nd hp=>f1 p nd hp)
 have m6:((i:Nat):Int)+((1:Nat):Int)=((i+1:Nat):Int):=by omega
 have r7:i<=1000:=by simp only[jL]at hz;omega
 have p8:=rx.size;by_cases d7:jD h x<160
 case neg=>
  have c9: ¬((Nd.size kd:Nat):Int)< ((160:Nat):Int):=by omega
  have fx:Full h x:=by
   cases h with
   | zero=>
    intro e;have e:x=([]:Nd.Kvs):=e;rw[e]at d7;exact d7 (by decide)
   | succ h=>exact Nat.le_of_not_lt d7
  obtain⟨u,H5,Y,J,v,C,o,O,e5,a7,st,hu,d5,r5,w5,c5,z5,k5,l1,l2,pm,more⟩:=zAM (dy (m9+1)) n hn (i:=i) (m:=0) (h:=h) a6 d4 i3 i5 (by omega) (by have:=p1.next;omega) (by have:=p1.next;have:=p2.next;omega) (by have:=p2.next;omega) (by omega) (by have:=p1.next;have:=p2.next;omega)
   (hv.prs L) (d2.prs L) hq n1 n2 n3 n4 wi c2 hz (by simpa using l9) (b7 ra) (by simpa using b7 rb) rx (by simpa using wx) fx d9 (by omega)
  refine⟨u,H5,Y,J,g,gl,v,C,o,O,[],Sa++Sb, ?_,a7, ?_,hu,r5,w5,by simpa using c5,z5,by omega,l1,l2,by simp, ?_,by simp,more,by simp⟩
  .simp(maxSteps:=999999)(disch:=omega) only[f129,eZ,b1,b2,b3,m6,vU d3 b8,e4,c9];simp only[Nat.add_zero]at e5;rw[e5];rfl
  .refine⟨⟨st.ok,by have:=st.next;have:=L.next;omega,fun B K hS=> ?_⟩,fun B K=> .inl K⟩
   rw[st.keep B (by have:=L.next;omega) (fun hx=>by
    rcases hx with hx | hx
    .exact hS hx
    .have:=p1.next;have:=p2.next;omega)]
   exact L.keep B K (fun x=>x)
  .exact pm
 case pos=>
 have c9:((Nd.size kd:Nat):Int)< ((160:Nat):Int):=by omega
 have side: ∃b y tb a0 T,nd.kids[b]? =some T/\Qf E q [] T=some y/\yX (Qf E q []) h y tb a0/\t.2[b]? =some tb/\
   ((b+1=i/\ ∃a2,kT (Qf E q []) (yX (Qf E q []) h) (nd.kids.take b) (t.2.take b) a2/\Sa=a2++(T::a0))\/(i=0/\b=1/\ ∃a3,kT (Qf E q []) (yX (Qf E q []) h) (nd.kids.drop 2) (t.2.drop 2) a3/\Sb=T::(a0++a3))):=by
  have r8:0<t.1.length:=by
   rcases Nat.eq_zero_or_pos t.1.length with e | e
   .exact absurd (zM e) c2
   .exact e
  cases i with
  | zero=>
   have h1:1<t.2.length:=by omega
   rw[show(0+1:Nat)=1 from rfl,zX h1,zX (show 1<nd.kids.length by omega)]at rb;obtain⟨y,S1,S2,q1,q2,q3,e⟩:=rb;exact⟨1,y,t.2[1],S1,_,zH (by omega),q1,q2,zH h1, .inr ⟨rfl,rfl,S2,q3,e⟩⟩
  | succ j=>
   have h1:j<t.2.length:=by omega
   rw[zU h1,zU (show j<nd.kids.length by omega)]at ra;obtain⟨T1,T2,r1,r2,e⟩:=ra.split j;have e1:(nd.kids.take j++[nd.kids[j]'(by omega)]).take j=nd.kids.take j:=List.take_left' (by rw[zQ];omega);have e2:(nd.kids.take j++[nd.kids[j]'(by omega)]).drop j=[nd.kids[j]'(by omega)]:=List.drop_left' (by rw[zQ];omega);have e3:(t.2.take j++[t.2[j]]).take j=t.2.take j:=List.take_left' (by rw[zQ];omega);have e4:(t.2.take j++[t.2[j]]).drop j=[t.2[j]]:=List.drop_left' (by rw[zQ];omega);rw[e1,e3]at r1;rw[e2,e4]at r2;obtain⟨y,S1,S2,q1,q2,q3,e5⟩:=r2;have q3:S2=[]:=q3;subst q3;exact⟨j,y,t.2[j],S1,_,zH (by omega),q1,q2,zH h1, .inl ⟨rfl,T1,r1,by rw[e,e5,List.append_nil]⟩⟩
 obtain⟨b,y,tb,a0,T,kb,hs,f2,i6,k8⟩:=side;obtain⟨f3,rfl⟩:=List.getElem?_eq_some_iff.1 i6;have f4:b<nd.kids.length:=by omega
 have m7:nd.kids[b]=T:=by rw[zH f4]at kb;exact Option.some.inj kb
 have U:WF h (XB lo t.1 b) (ZU t.1 hi b) t.2[b]:=KB.at wi.2.2 i6;have m8:=ti.prs a6.prs;obtain⟨ks,r9,ps,f5,k1,k2,k3⟩:=id (hv.prs L).1;simp only[AV.agg.injEq]at f5;obtain⟨H5,i8,b5,p5,g5,m5,n5⟩:=box a6.prs.ok (.cells [.bool false, .nilSlice, .nilSlice, .nilSlice] 119 1 false);obtain⟨vb,H6,e6,p6,f6,d0⟩:=zCa m9 n hn (m8.prs p5) hs;obtain⟨lb,rfl,f7,n0⟩:=f6.cells;obtain⟨H7,e7,g7,s7,n7⟩:=y9 p6.ok (Prs.get p6 p5.ok g5) (l':=lb) f7 n0;have i9:stN 4 (.ptr i8 0) (.agg lb) H6=some (qX,H7):=e7;have N4:=L.next;have N5:=p5.next;have N6:=p6.next
 have a4:Prs H4 H7:=(p5.trans p6).fresh s7 (fun B K=>by omega);have a9:=a6.step a4;have h9:yE H7 (.agg lb) y:=f6.stp s7 (fun B K e=>by
  subst e;exact f6.nblk (Prs.get p6 p5.ok g5) (.inl ⟨_,_,_,_,rfl,fun _ _ e=>by cases e⟩) K)
 have n6:kC X H7 g (.agg lb) y:=by
  rcases d0 with⟨kk,d0⟩ | d5
  .exact h9.hand a9 (fun B K=>hold _ d0 B K) (l6 _ d0)
  .refine⟨h9,fun B K=>⟨fun hg=> ?_,fun hx=> ?_⟩⟩
   .have h1:=d5 B K;have h2:=Rw.blk (a6.step p5).gg.row hg;omega
   .have h1:=d5 B K;have h2:=ch.xo B hx;have h3:=(a6.step p5).prs.next
    omega
 obtain⟨g',H8,e8,b0,a8⟩:=zHo (dy (m9+1)) n a9 T l8 (by omega);have j0:=a9.next (hv.prs (L.trans a4)) a8
 have j4:=a9.next (d2.prs (L.trans a4)) a8
 have j5:=a9.next n6 a8
 have np: ∀ {A:Nat} {l:List AV} {e:Nat},H7.h.get A=some (.cells l e 1 false)->A≠Ac-> ¬chg Ac F g A:=fun {A l e} hg c2 hc=>by
  rcases hc with e | e | e
  .exact c2 e
  .rw[e,a9.gF]at hg;cases hg
  .rw[a9.gg.get e]at hg;simp at hg
 have M1:=p1.next;have M2:=p2.next;have M3:=p3.next;have M4:=p4.next;have M7:=a4.next
 have d6:=Prs.get a4 L.ok d4;have j6:=Prs.get a4 L.ok i3;have j7:=Prs.get a4 L.ok i5;have f8:H8.h.get A5=some (.cells ln 119 1 false):=by rw[a8.1.keep _ (by omega) (np d6 (by omega))];exact d6
 have f9:H8.h.get A7=some (.cells lk 119 1 false):=by rw[a8.1.keep _ (by omega) (np j6 (by omega))];exact j6
 have n8:H8.h.get A8=some (.cells [.bool false, .nilSlice, .nilSlice, .nilSlice] 119 1 false):=by rw[a8.1.keep _ (by omega) (np j7 (by omega))];exact j7
 have i0:H8.h.get i8=some (.cells lb 119 1 false):=by rw[a8.1.keep _ (by omega) (np g7 (by omega))];exact g7
 have j8:u4 H4 ps nd.kids:=k3.row;obtain⟨q4,i4,g0⟩:=j8.at f4;obtain⟨q7,i7,g4⟩:=(j8.prs a4).at f4;rw[m7]at g0 g4;obtain rfl:q7=q4:=by
  have e1:=i4 .i64 b rfl;rw[i7 .i64 b rfl]at e1;exact Option.some.inj e1
 have i1:small y:=kY (by rw[f2.size];have:=U.sz;omega);have b4:yX (Qf E q f) h y t.2[b] a0:=f2.mono fun p _ nd hp=>f1 p nd hp
 have j9:0<h->y.keys≠[]:=fun hh=>by
  cases h with
  | zero=>omega
  | succ h=>
   have:=K2 U;rw[f2.2.1];intro e;rw[e]at this;simp at this
 have k0: ¬(((0:Nat):Int)≠((0:Nat):Int)):=by omega
 have b6: ∀Hx:AH,Hx.h.get A5=some (.cells ln 119 1 false)->ld1 (.ptr A5 3) Hx=some ps/\ld1 (.ptr A5 1) Hx=some ks:=fun Hx hg=>by
  rw[qT hg,qT hg,f5];exact⟨rfl,rfl⟩
 have k4:Strs H8 ks nd.keys:=by
  obtain⟨s0,vs',s1,d1,j1,j2,j3⟩:=id j0.1;simp only[AV.agg.injEq]at d1;rw[f5]at d1;simp only[List.cons.injEq,and_true]at d1;obtain⟨_,rfl,_,_⟩:=d1;exact j1.row
 have k6: ∀(j m:Nat) (sep:Str) (u:AV) (c3:Nd.Node) (x':Bt.Tr h) (g6 a2 a3:List Ptr) (H9:AH),Prs H8 H9->ZT H8 H9 u c3->yX (Qf E q f) h c3 x' g6->WX h (XB lo t.1 j) (ZU t.1 hi (j+m)) x'->Full h x'->(0<h->c3.keys≠[])->j+m<t.2.length->
   kT (Qf E q f) (yX (Qf E q f) h) (nd.kids.take j) (t.2.take j) a2->kT (Qf E q f) (yX (Qf E q f) h) (nd.kids.drop (j+m+1)) (t.2.drop (j+m+1)) a3->
   ∃a5,stN 4 (.ptr A7 0) u H9=some (qX,a5)/\ ∃u H' Y J v C o O,ZE (dy (m9+1)) n [.ptr Ac 0, .ptr A5 0, .ptr A7 0, .ptr A8 0, .int .i64 (j:Nat), .int .i64 ((j+m+1:Nat):Int)] a5=some (.ret (.tuple [u, .int .i64 ((0:Nat):Int)]),H')/\
    Ch X H0 H' At Ac F Y J g' (gl++[T]) c1 v/\Adv Ac F H g H' g'/\kC X H' g' u C/\yX (Qf E q J) (h+1) C o O/\Inn (WF h) lo hi o/\
    con (h+1) o=(t.2.take j).flatMap (con h)++con h x'++(t.2.drop (j+m+1)).flatMap (con h)/\jL o.1 o.2.length<=jL t.1 t.2.length+285/\t.1.length<=o.1.length+m/\W<=v/\v<=W+6/\
    O.Perm (pps W (v - W)++(a2++a3++g6))/\ ∀p nd,Qf E q f p=some nd->Qf E q J p=some nd:=by
  intro j m sep u c3 x' g6 a2 a3 H9 V w9 n9 o0 o1 k9 c4 g8 g9;have k7:=w9.free;obtain⟨lu,rfl,s2,o2⟩:=k7.1.cells;have o3:=b0.step V;have o4:kC X H9 g' (.agg lu) c3:=wN.hand b0 (Nat.le_refl _) k7;have c6:=Prs.get V b0.prs.ok f9;obtain⟨a5,b9,o5,c0,s3⟩:=y9 V.ok c6 (l':=lu) (by omega) o2;have l0:stN 4 (.ptr A7 0) (.agg lu) H9=some (qX,a5):=by rw[b8]at b9;exact b9
  rw[m0]at c6;have l3:=o3.stb c6 c0 (by omega) (by omega);have N8:=a8.1.next;have N9:=V.next
  have o6:a5.h.get A5=some (.cells ln 119 1 false):=by rw[c0.keep _ (by omega) (by omega)];exact Prs.get V b0.prs.ok f8
  have o7:a5.h.get A8=some (.cells [.bool false, .nilSlice, .nilSlice, .nilSlice] 119 1 false):=by rw[c0.keep _ (by omega) (by omega)];exact Prs.get V b0.prs.ok n8
  obtain⟨u',H',Y,J,v,C,o,O,e5,a7,st,hu,d5,r5,w5,c5,z5,k5,l1,l2,pm,more⟩:=zAM (dy (m9+1)) n hn (i:=j) (m:=m) (h:=h) l3 o6 o5 o7 (by omega) (by omega) (by omega) (by omega) (by omega) (by omega)
   ((j0.prs V).stb c6 c0) (o4.stb c6 c0) hq n1 n2 n3 n4 wi c2 hz c4 g8 g9 n9 o0 o1 k9 (by omega)
  refine⟨a5,l0,u',H',Y,J,v,C,o,O,e5,a7, ?_,hu,r5,w5,c5,z5,k5,l1,l2,pm,more⟩;refine⟨⟨st.ok,by have:=st.next;omega,fun B K hS=> ?_⟩,fun B K=> ?_⟩
  .have a1:H8.h.get B=H.h.get B:=by
    rw[a8.1.keep B (by omega) hS,a4.keep B (by omega) (fun x=>x)];exact L.keep B K (fun x=>x)
   rw[st.keep B (by omega) (fun hx=>by
    rcases hx with hx | hx
    .rcases hx with e | e | e
     .exact hS (.inl e)
     .exact hS (.inr (.inl e))
     .rcases a8.2 B e with e | e
      .exact hS (.inr (.inr e))
      .omega
    .omega),c0.keep B (by omega) (by omega),V.keep B (by omega) (fun x=>x)]
   exact a1
  .rcases a8.2 B K with e | e
   .exact .inl e
   .exact .inr (by omega)
 rcases k8 with⟨o8,a2,g8,rfl⟩ | ⟨rfl,rfl,a3,g9,rfl⟩
 ·
  subst o8;have N:b<t.1.length:=by omega
  have Z:=wi.1 _ (qE N);have s4:t.1.getD b []=t.1[b]:=by rw[zT,zH N];rfl
  have h0:ZU t.1 hi b=some t.1[b]:=by simp only[ZU,zH N]
  have h4:XB lo t.1 (b+1)=some t.1[b]:=by simp only[XB,zH N]
  rw[h0]at U;rw[h4]at wx;have c4:=zDH b4 rx U.gen wx.gen Z.1 j9 d9 (yX.kidOk b4) (yX.kidOk rx);obtain⟨u,H9,e9,V,w9⟩:=zH9 (dy (m9+1)) n hn b0.prs.ok (sep:=t.1[b]) j5.1.node j4.1.node i1 e0;rw[c4]at e9 w9;simp only[if_true]at e9 w9;have c7:=VA Z.1;have js:=K9 h t.2[b] t.1[b] x c7;have wj:WX h (XB lo t.1 b) (ZU t.1 hi (b+1)) (Z7 h t.2[b] t.1[b] x):=Gen.wx (zDI U.gen wx.gen ⟨Z.1,by
   have q0:=KB.at wi.2.2 (zH f3)
   cases b with
   | zero=>exact Z.2.1
   | succ b'=>
    simp only[XB,zH (show b'<t.1.length by omega)];have:=(Nd.rising_ix ltS t.1).1 wi.2.1 b' N;exact this,by
   by_cases e:b+1<t.1.length
   .simp only[ZU,zH e];exact(Nd.rising_ix ltS t.1).1 wi.2.1 b e
   .simp only[ZU,List.getElem?_eq_none (show t.1.length<=b+1 by omega)];exact Z.2.2⟩) (by have:=U.sz;omega)
  obtain⟨a5,b9,u',H',Y,J,v,C,o,O,e5,a7,h5,hu,r5,w5,c5,z5,k5,l1,l2,pm,more⟩:=k6 b 1 t.1[b] u _ _ (a0++Sx) a2 Sb H9 V w9 (yX.join b4 rx t.1[b]) wj (zBg c7 (.inl U.full)) (fun hh e=>by
   cases h with
   | zero=>omega
   | succ h=>
    have:(fC y t.1[b] kd).keys=y.keys++([t.1[b]]++kd.keys):=by simp only[fC,b4.1,Bool.false_eq_true,if_false]
    rw[this]at e;simp at e) (by omega) (b7 g8) (b7 rb)
  refine⟨u',H',Y,J,g',gl++[T],v,C,o,O,[T],a2++(a0++Sb), ?_,a7,h5,hu,r5,w5, ?_,z5,k5,l1,l2,rfl, ?_, ?_,more,by simp⟩
  .have o9:((b+1:Nat):Int) - ((1:Nat):Int)=((b:Nat):Int):=by omega
   have p0: ¬((b+1:Nat):Int)=((0:Nat):Int):=by omega
   have h6:mn2 (.int .i64 ((b+1:Nat):Int)) (.int .i64 ((b:Nat):Int))=some (.int .i64 ((b:Nat):Int)):=by
    have:ilt ((b:Nat):Int) ((b+1:Nat):Int)=true:=by rw[xL];simp;omega
    simp only[mn2,this,cond_true]
   have h7:mx2 (.int .i64 ((b+1:Nat):Int)) (.int .i64 ((b:Nat):Int))=some (.int .i64 ((b+1:Nat):Int)):=by
    have:ilt ((b+1:Nat):Int) ((b:Nat):Int)=false:=by rw[xL];simp;omega
    simp only[mx2,this,cond_false]
   have d8:((b:Nat):Int)< ((b+1:Nat):Int):=by omega
   have l4:((b+1:Nat):Int)+((1:Nat):Int)=((b+1+1:Nat):Int):=by omega
   obtain⟨qk,ik,c8⟩:=k4.at (i:=b) (by rw[n2];exact N);have h8:nd.keys[b]'(by rw[n2];exact N)=t.1[b]:=by simp[n2]
   rw[h8]at c8;simp(config:= { maxSteps:=2000000}) (disch:=omega) only[f129,eZ,b1,b2,b3,l4,vU d3 b8,e4,c9,o9,p0,Y6,qT a6.gC,(b6 H4 d4).1,i4,g0,b5,e6,qV,nth,i9,k0,(b6 H7 d6).1,i7,g4,e8,h6,h7,d8,vU i0 f7,(b6 H8 f8).2,ik,c8,vU f9 b8,e9,b9,ZF,e5]
  .rw[c5,zEc,zU f3,qI,zW,List.flatMap_nil,List.append_nil];simp only[List.append_assoc]
  .rw[List.perm_iff_count]at pm⊢;intro a;have:=pm a;simp only[List.count_append,List.count_cons]at this⊢;omega
  .rw[List.perm_iff_count];intro a;simp only[List.count_append,List.count_cons,List.count_nil];omega
 ·
  have N:0<t.1.length:=by omega
  have Z:=wi.1 _ (qE N);have h0:ZU t.1 hi 0=some t.1[0]:=by simp only[ZU,zH N]
  have h4:XB lo t.1 1=some t.1[0]:=by simp only[XB,zH N]
  rw[h4]at U;rw[h0]at wx;have c4:=zDH rx b4 wx.gen U.gen Z.1 d9 j9 (yX.kidOk rx) (yX.kidOk b4);obtain⟨u,H9,e9,V,w9⟩:=zH9 (dy (m9+1)) n hn b0.prs.ok (sep:=t.1[0]) j4.1.node j5.1.node e0 i1;rw[c4]at e9 w9;simp only[if_true]at e9 w9;have c7:=VA Z.1;have js:=K9 h x t.1[0] t.2[1] c7;have wj:WX h (XB lo t.1 0) (ZU t.1 hi (0+1)) (Z7 h x t.1[0] t.2[1]):=Gen.wx (zDI wx.gen U.gen ⟨Z.1,Z.2.1,by
   by_cases e:1<t.1.length
   .simp only[ZU,zH (show 0+1<t.1.length by omega)];exact(Nd.rising_ix ltS t.1).1 wi.2.1 0 (by omega)
   .simp only[ZU,List.getElem?_eq_none (show t.1.length<=0+1 by omega)];exact Z.2.2⟩) (by have:=U.sz;omega)
  obtain⟨a5,b9,u',H',Y,J,v,C,o,O,e5,a7,h5,hu,r5,w5,c5,z5,k5,l1,l2,pm,more⟩:=k6 0 1 t.1[0] u _ _ (Sx++a0) Sa a3 H9 V w9 (yX.join rx b4 t.1[0]) wj (zBg c7 (.inr U.full)) (fun hh e=>by
   cases h with
   | zero=>omega
   | succ h=>
    have:(fC kd t.1[0] y).keys=kd.keys++([t.1[0]]++y.keys):=by simp only[fC,rx.1,Bool.false_eq_true,if_false]
    rw[this]at e;simp at e) (by omega) (b7 ra) (b7 g9)
  refine⟨u',H',Y,J,g',gl++[T],v,C,o,O,[T],Sa++(a0++a3), ?_,a7,h5,hu,r5,w5, ?_,z5,k5,l1,l2,rfl, ?_, ?_,more,by simp⟩
  .have h6:mn2 (.int .i64 ((0:Nat):Int)) (.int .i64 ((1:Nat):Int))=some (.int .i64 ((0:Nat):Int)):=rfl;have h7:mx2 (.int .i64 ((0:Nat):Int)) (.int .i64 ((1:Nat):Int))=some (.int .i64 ((1:Nat):Int)):=rfl;have d8: ¬((1:Nat):Int)< ((0:Nat):Int):=by omega
   have p7:((1:Nat):Int)+((1:Nat):Int)=((0+1+1:Nat):Int):=by omega
   obtain⟨qk,ik,c8⟩:=k4.at (i:=0) (by rw[n2];exact N);have h8:nd.keys[0]'(by rw[n2];exact N)=t.1[0]:=by simp[n2]
   rw[h8]at c8;simp(config:= { maxSteps:=2000000}) (disch:=omega) only[f129,eZ,b1,b2,b3,vU d3 b8,e4,c9,Y6,qT a6.gC,(b6 H4 d4).1,i4,g0,b5,e6,qV,nth,i9,k0,(b6 H7 d6).1,i7,g4,e8,h6,h7,d8,p7,vU i0 f7,(b6 H8 f8).2,ik,c8,vU f9 b8,e9,b9,ZF,e5]
  .have e1:t.2.drop (0+1)=t.2[1]::t.2.drop 2:=zX f3;rw[c5,zEc,e1];simp only[List.take_zero,List.flatMap_nil,List.nil_append,zW,List.append_assoc,show 0+1+1=2 from rfl]
  .rw[List.perm_iff_count]at pm⊢;intro a;have:=pm a;simp only[List.count_append,List.count_cons]at this⊢;omega
  .rw[List.perm_iff_count];intro a;simp only[List.count_append,List.count_cons,List.count_nil];omega
end Go.Eng.Sh
end
section
set_option maxRecDepth 20000
namespace Go.Bt
open Go.Nd (Str Kvs lookP putP delP leafOf mayK)
open Go.Eng (ltS)
inductive Ed
 | put (k v:Str)
 | del (k:Str)
def Ed.key:Ed->Str
 | .put k _=>k
 | .del k=>k
def Ed.run:Ed->Kvs->Option Kvs
 | .put k v,l=>some (putP k v l)
 | .del k,l=>if(lookP k l).isSome then some (delP k l)else none
def Ed.ok:Ed->Prop
 | .put k v=>mayK k=true/\v.length<=200
 | .del k=>mayK k=true
theorem Ed.run_mid (ed:Ed){A C B:Kvs}(a: ∀p∈A,ltS p.1 ed.key=true)(f: ∀p∈B,ltS ed.key p.1=true):ed.run (A++C++B)=(ed.run C).map fun c=>A++c++B:=by
 cases ed with
 | put k v=>simp only[Ed.run,Option.map_some,zN1 (k:=k) a f]
 | del k=>
  simp only[Ed.run,zKa (k:=k) a f,zIn (k:=k) a f];split<;>rfl
theorem Ed.leaf {ed:Ed}{lo hi:Bd}{l l':Kvs}(a:Lf lo hi l)(hl:zH4 lo ed.key)(h:hiB hi ed.key)(f:ed.ok)(hr:ed.run l=some l'):Lf lo hi l'/\jI l'<=jI l+242:=by
 cases ed with
 | put k v=>
  simp only[Ed.run,zB]at hr;subst hr;exact zKc a hl h f.1 f.2
 | del k=>
  simp only[Ed.run]at hr;split at hr
  .simp only[zB]at hr;subst hr;have:=zKd k a;exact⟨this.1,by omega⟩
  .cases hr
end Go.Bt
namespace Go.Eng.Sh
open Go.Nd (Ptr sumL leafOf Kvs)
open Go.Bt
variable {X:Nat->Prop}
def edF (ed:Ed)(K V:Nat):AV:=match ed with
 | .put _ _=> .func 88 [] [.ptr K 0, .ptr V 0]
 | .del _=> .func 83 [] [.ptr K 0]
def edB (H:AH)(ed:Ed)(K V:Nat):Prop:=match ed with
 | .put k v=>Box H K (S k)/\Box H V (S v)
 | .del k=>Box H K (S k)
theorem edB.prs {H H':AH}{ed:Ed}{K V:Nat}(h:edB H ed K V)(a:H.ok)(s:Prs H H'):edB H' ed K V:=by
 cases ed with
 | put k v=>exact⟨h.1.mono a s (fun x=>x),h.2.mono a s (fun x=>x)⟩
 | del k=>exact Box.mono h a s (fun x=>x)
def edL (ed:Ed)(l:Kvs):Nd.Node×Nat:=match ed.run l with
 | some l'=>(leafOf l',0)
 | none=>(nd0,5)
theorem zKD (m:Nat)(hm:200000000<=m){H:AH}(C:H.ok){ed:Ed}{K V:Nat}{v:AV}{l:Kvs}{lo hi:Bd}(W:yE H v (leafOf l))(o:Lf lo hi l)(hz:jI l<=10000)(ho:ed.ok)(hb:edB H ed K V):
  ∃u H',(match ed with | .put _ _=>f88 (dy m) m [v, .ptr K 0, .ptr V 0] H | .del _=>f83 (dy m) m [v, .ptr K 0] H)=some (.tuple [u, .int .i64 (((edL ed l).2:Nat):Int)],H')/\Prs H H'/\wN H.next H' u (edL ed l).1:=by
 have Z:Nd.shaped ltS (leafOf l)=true:=Nd.leaf_shaped o.1 fun p hp=>(o.2 p hp).2.2
 obtain⟨lv,rfl,U,a5⟩:=W.cells;obtain⟨H1,A3,b1,q,Y,m1,n1⟩:=box C (.cells lv 119 1 false);obtain⟨H2,A4,b2,F,g2,m2,n2⟩:=box q.ok (.cells [.bool false, .nilSlice, .nilSlice, .nilSlice] 119 1 false);have f:=q.trans F;have a0:small (leafOf l):=kY hz;have N1:=q.next;have N2:=F.next
 have a1: ∀ {u:AV} {nd:Nd.Node} {s:AH},Prs H2 s->wN H2.next s u nd-> ∃a,stN 4 (.ptr A4 0) u s=some (qX,a)/\Prs H a/\wN H.next a u nd/\ldN 4 (.ptr A4 0) a=some u:=fun {u nd s} j N=>by
  obtain⟨lu,rfl,a2,a3⟩:=N.1.cells;obtain⟨a,t,g4,s4,n4⟩:=y9 j.ok (Prs.get j f.ok g2) (l':=lu) a2 a3;refine⟨a,t,(f.trans j).fresh s4 (fun B O=>by omega),⟨N.1.stp s4 (fun B O e=> ?_),fun B O=>by have:=N.2 B O;omega⟩,vU g4 a2⟩;have:=N.2 B O;omega
 cases ed with
 | put k x=>
  obtain⟨u,s,i,j,J⟩:=zJV (dy m) m hm f.ok (key:=k) (value:=x) (W.prs f) a0;have a4:zEN (leafOf l) k x=true:=by simp only[zEN,Z,show(leafOf l).leaf=true from rfl,ho.1,ho.2,Bool.true_and,decide_true]
  rw[a4]at i J;simp only[if_true,Nd.put_leaf _ _ o.1]at i J;obtain⟨a,t,S,y,T⟩:=a1 j J;refine⟨u,a, ?_,S,y⟩;simp(maxSteps:=999999)(disch:=omega) only[f88,eZ,b1,b2,vU (Prs.get F q.ok Y) U,(hb.1.mono C f (fun x=>x)).ld,(hb.2.mono C f (fun x=>x)).ld,i,qV,nth,t,T,edL,Ed.run]
 | del k=>
  obtain⟨u,s,i,j,J⟩:=zKI (dy m) m hm f.ok (key:=k) (W.prs f) a0;have h:zOD (leafOf l) k=if(Nd.lookP k l).isSome then 0 else 5:=by
   simp only[zOD,Z,show(leafOf l).leaf=true from rfl,Bool.and_self,if_true,Nd.here_look _ o.1]
  obtain⟨a,t,S,y,T⟩:=a1 j J
  cases L:(Nd.lookP k l).isSome with
  | true=>
   rw[L]at h;simp only[if_true]at h;rw[h]at i;simp only[h,if_true,Nd.del_leaf _ o.1 ((Nd.here_look _ o.1).trans L)]at y;have z:edL (.del k) l=(leafOf (Nd.delP k l),0):=by simp only[edL,Ed.run,L,if_true]
   refine⟨u,a, ?_,S,by rw[z];exact y⟩;rw[z];simp(maxSteps:=999999)(disch:=omega) only[f83,eZ,b1,b2,vU (Prs.get F q.ok Y) U,(Box.mono hb C f (fun x=>x)).ld,i,qV,nth,t,T]
  | false=>
   rw[L]at h;simp only[Bool.false_eq_true,if_false]at h;rw[h]at i;have h5: ¬(5:Nat)=0:=by decide
   simp only[h,h5,if_false]at y;have z:edL (.del k) l=(nd0,5):=by simp only[edL,Ed.run,L,Bool.false_eq_true,if_false]
   refine⟨u,a, ?_,S,by rw[z];exact y⟩;rw[z];simp(maxSteps:=999999)(disch:=omega) only[f83,eZ,b1,b2,vU (Prs.get F q.ok Y) U,(Box.mono hb C f (fun x=>x)).ld,i,qV,nth,t,T]
theorem zIg (m n:Nat)(hm:200000000<=m){H:AH}(a:H.ok){ed:Ed}{K V:Nat}{v:AV}{l:Kvs}{lo hi:Bd}(f:yE H v (leafOf l))(h:Lf lo hi l)(i:jI l<=10000)(j:ed.ok)(hb:edB H ed K V):
  ∃u H',callV [(76,f76 (dy (m+1)) n),(77,f77 (dy (m+1)) n),(79,f79 (dy (m+1)) n),(129,f129 (dy (m+1)) n),(130,f130 (dy (m+1)) n)] (dy (m+1)) (edF ed K V) [v] H=some (.tuple [u, .int .i64 (((edL ed l).2:Nat):Int)],H')/\callV [(127,f127 (dy (m+1)) n),(126,f126 (dy (m+1)) n),(131,f131 (dy (m+1)) n)] (dy (m+1)) (edF ed K V) [v] H=some (.tuple [u, .int .i64 (((edL ed l).2:Nat):Int)],H')/\Prs H H'/\wN H.next H' u (edL ed l).1:=by
 obtain⟨u,H',e,p,w⟩:=zKD m hm a f h i j hb;refine⟨u,H', ?_, ?_,p,w⟩
 .cases ed with
  | put k x=>exact e
  | del k=>exact e
 .cases ed with
  | put k x=>exact e
  | del k=>exact e
def zFb (Bd a f h i j:Nat):AV:= .func 128 [] [.ptr Bd 0, .ptr a 0, .ptr f 0, .ptr h 0, .ptr i 0, .ptr j 0]
structure Cl (H0 H:AH)(At Ac K V:Nat)(ed:Ed)(Bd Bt Be Bk Bf Bc d:Nat):Prop where
 bd:Box H Bd (.int .i64 (d:Nat))
 bt:Box H Bt (.ptr At 0)
 be:Box H Be (edF ed K V)
 bk:Box H Bk (S ed.key)
 bf:Box H Bf (zFb Bd Bt Be Bk Bf Bc)
 bc:Box H Bc (.ptr Ac 0)
 eb:edB H0 ed K V
 fr:H0.next<=Bd
 n1:Bt≠Bd
 n2:Be≠Bd
 n3:Bk≠Bd
 n4:Bf≠Bd
 n5:Bc≠Bd
theorem _root_.Go.Eng.Box.nchg {H0 H:AH}{At j F:Nat}{p:List (AV×AV)}{f:PN}{g v:AV}{gl:List Ptr}{m o A:Nat}(h:Box H A v)(a:Ch X H0 H At j F p f g gl m o): ¬chg j F g A:=fun i=>by
 obtain⟨e,h⟩:=h;rcases i with rfl | rfl | i
 .rw[a.gC]at h;simp at h
 .rw[a.gF]at h;cases h
 .rw[a.gg.get i]at h;simp at h
theorem Cl.keep {H0 H H':AH}{At i F K V:Nat}{ed:Ed}{Bd j m o p q d:Nat}{v:List (AV×AV)}{f:PN}{g:AV}{gl:List Ptr}{t u:Nat}(h:Cl H0 H At i K V ed Bd j m o p q d)(a:Ch X H0 H At i F v f g gl t u)(s:Stp (chg i F g) H H'):Cl H0 H' At i K V ed Bd j m o p q d:=
 ⟨h.bd.mono a.prs.ok s (h.bd.nchg a),h.bt.mono a.prs.ok s (h.bt.nchg a),h.be.mono a.prs.ok s (h.be.nchg a),h.bk.mono a.prs.ok s (h.bk.nchg a),h.bf.mono a.prs.ok s (h.bf.nchg a),h.bc.mono a.prs.ok s (h.bc.nchg a),h.eb,h.fr,h.n1,h.n2,h.n3,h.n4,h.n5⟩
theorem Cl.prs {H0 H H':AH}{At f K V:Nat}{ed:Ed}{Bd i j m o p d:Nat}(h:Cl H0 H At f K V ed Bd i j m o p d)(a:H.ok)(s:Prs H H'):Cl H0 H' At f K V ed Bd i j m o p d:=
 ⟨h.bd.mono a s (fun x=>x),h.bt.mono a s (fun x=>x),h.be.mono a s (fun x=>x),h.bk.mono a s (fun x=>x),h.bf.mono a s (fun x=>x),h.bc.mono a s (fun x=>x),h.eb,h.fr,h.n1,h.n2,h.n3,h.n4,h.n5⟩
theorem Cl.deeper {H0 H:AH}{At j F K V:Nat}{ed:Ed}{Bd t u v y z d:Nat}{q:List (AV×AV)}{f:PN}{g:AV}{gl:List Ptr}{o p:Nat}(h:Cl H0 H At j K V ed Bd t u v y z d)(a:Ch X H0 H At j F q f g gl o p):
  ∃H',stN 1 (.ptr Bd 0) (.int .i64 ((d+1:Nat):Int)) H=some (qX,H')/\Cl H0 H' At j K V ed Bd t u v y z (d+1)/\Ch X H0 H' At j F q f g gl o p/\Stp (fun B=>B=Bd) H H':=by
 obtain⟨H',e,b,s⟩:=h.bd.st a.prs.ok (x:= .int .i64 ((d+1:Nat):Int)) rfl;have m:=h.bd.nchg a;obtain⟨O,L⟩:=h.bd;refine⟨H',e,⟨b,h.bt.mono a.prs.ok s h.n1,h.be.mono a.prs.ok s h.n2,h.bk.mono a.prs.ok s h.n3,h.bf.mono a.prs.ok s h.n4,h.bc.mono a.prs.ok s h.n5,h.eb,h.fr,h.n1,h.n2,h.n3,h.n4,h.n5⟩, ?_,s⟩;exact a.other s (fun e=>m (.inl e.symm)) (fun e=>m (.inr (.inl e.symm))) (fun B i e=>m (.inr (.inr (e▸i)))) (fun kv C B i e=>by
  subst e;obtain⟨N,J⟩:=a.pf.mem kv C;exact J.nblk L (.inl ⟨_,_,_,_,rfl,fun _ _ e=>by cases e⟩) i) (fun B i=>by rw[i];exact h.fr)
end Go.Eng.Sh
end
section
set_option maxRecDepth 20000
namespace Go.Eng.Sh
open Go.Nd (Ptr sumL leafOf Kvs)
open Go.Bt
variable {E:Ev}{X:Nat->Prop}
theorem gH {nd:Nd.Node}{ks:List Str}(hl:nd.leaf=false)(a:nd.keys=ks)(key:Str):Nd.whereN nd key=yH ks key:=by
 simp only[Nd.whereN,yH,hl,a,Bool.not_false,Bool.true_and]
theorem cK: ∀ {n a:Nat} {p:Ptr},p∈pps a n-> ∃j,p=pp j/\a<j/\j<=a+n
 | 0,_,_,h=>by simp[pps]at h
 | n+1,a,p,h=>by
  rcases List.mem_cons.1 h with rfl | h
  .exact⟨a+1,rfl,by omega,by omega⟩
  .obtain⟨j,e,f,i⟩:=cK h;exact⟨j,e,by omega,by omega⟩
theorem JU: ∀(n a:Nat),(pps a n).Nodup
 | 0,_=>by simp[pps]
 | n+1,a=>by
  rw[pps,List.nodup_cons];refine⟨fun h=> ?_,JU n (a+1)⟩;obtain⟨j,e,f,_⟩:=cK h;have:=QX e;omega
def zOl (E:Ev)(X:Nat->Prop)(H0 H H':AH)(At y F K V:Nat)(ed:Ed)(L N O T U B6 d:Nat)(q:PN)(f:PN)(g o:AV)(gl:List Ptr)(C m:Nat)(h:Nat)(lo hi:Bd)(t:Bt.Tr h)(S:List Ptr)(p:Ptr)(u:AV)(c':Kvs):Prop:=
 ∃J s v a d' x z G R Fr,∃i:Bt.Tr h,Ch X H0 H' At y F J s o v C a/\Cl H0 H' At y K V ed L N O T U B6 d'/\kC X H' o u x/\yX (Qf E q s) h x i z/\WX h lo hi i/\con h i=c'/\(0<h->XE h t<=XE h i+1)/\v=gl++G/\G.length<=2*(h+1)/\
  m<=a/\a<=m+6*h/\d'<=d+h+1/\z.Perm (Fr++R)/\(p::S).Perm (G++R)/\Fr.Nodup/\(∀p∈Fr,∃j,p=pp j/\m<j/\j<=a)/\(∀p nd,Qf E q f p=some nd->Qf E q s p=some nd)/\ ∀B,Blk o B->Blk g B\/H.next<=B
theorem zFG (D:Dyn)(n:Nat){H0 H:AH}{At j F K V:Nat}{ed:Ed}{U W Y Z B5 B6 d A7 q J e7:Nat}{a2:List (AV×AV)}{f:PN}{g:AV}{gl:List Ptr}{a0 C:Nat}{o:List AV}{nd:Nd.Node}{p:Ptr}
  (s:Ch X H0 H At j F a2 f g gl a0 C) (cl:Cl H0 H At j K V ed U W Y Z B5 B6 d) (g7:H.h.get A7=some (.cells (qZ p) e7 1 false)) (g8:H.h.get q=some (.cells [.bool false, .nilSlice, .nilSlice, .nilSlice] 119 1 false)) (O:H.h.get J=some (.cells o 119 1 false))
  (hu:kC X H g (.agg o) nd) (h8:H0.next<=q) (a3:q≠j) (b4:A7≠j) (a4:J≠j) (hl:gl.length+1<=C+1000) (hb:C<=900000000):
  ∃y H',bK D n [.ptr B6 0, .ptr A7 0, .ptr q 0, .ptr J 0, .int .i64 ((0:Nat):Int)] H=some (.ret (.tuple [.agg o, .int .i64 ((0:Nat):Int)]),H')/\Ch X H0 H' At j F a2 f y (gl++[p]) a0 C/\Cl H0 H' At j K V ed U W Y Z B5 B6 d/\kC X H' y (.agg o) nd/\
   Stp (fun B=>chg j F g B\/B=q) H H'/\ ∀B,Blk y B->Blk g B\/H.next<=B:=by
 obtain⟨S,a6⟩:o.length=4/\qW o=true:=by
  obtain⟨_,_,a,b⟩:=aX hu.1;exact⟨a,b⟩
 obtain⟨y,z,e1,T,t⟩:=zHo D n s p hl hb;have np: ∀ {A:Nat} {l:List AV} {e:Nat},H.h.get A=some (.cells l e 1 false)->A≠j-> ¬chg j F g A:=fun {A l e} u a7 hc=>by
  rcases hc with e | e | e
  .exact a7 e
  .rw[e,s.gF]at u;cases u
  .rw[s.gg.get e]at u;simp at u
 have lt: ∀ {A:Nat} {l:List AV} {e:Nat},H.h.get A=some (.cells l e 1 false)->A<H.next:=fun u=>s.prs.ok.lt u
 have v:z.h.get q=some (.cells [.bool false, .nilSlice, .nilSlice, .nilSlice] 119 1 false):=by rw[t.1.keep _ (lt g8) (np g8 a3)];exact g8
 have a5:z.h.get J=some (.cells o 119 1 false):=by rw[t.1.keep _ (lt O) (np O a4)];exact O
 have a8:=s.next hu t
 have i:=cl.keep s t.1;obtain⟨L,e2,a9,N,n2⟩:=y9 T.prs.ok v (l':=o) S a6;have b0:stN 4 (.ptr q 0) (.agg o) z=some (qX,L):=e2;have b1:=T.stb v N h8 a3;have nb: ∀ {A:Nat} {x:AV},Box z A x->(∀b,x≠ .bool b)->A≠q:=fun {A x} hb hx e=>by
  obtain⟨_,hb⟩:=hb;rw[e,v]at hb;simp at hb
 have b2:Cl H0 L At j K V ed U W Y Z B5 B6 d:=by
  have m: ∀ {A:Nat} {x:AV},Box z A x->Box L A x:=fun {A x} hb=>hb.mono T.prs.ok N (fun e=>by
   obtain⟨_,hb⟩:=hb;rw[e,v]at hb;simp at hb)
  exact⟨m i.bd,m i.bt,m i.be,m i.bk,m i.bf,m i.bc,i.eb,i.fr,i.n1,i.n2,i.n3,i.n4,i.n5⟩
 refine⟨y,L, ?_,b1,b2,a8.stb v N,(t.1.mono fun _ _ x=> .inl x).trans (N.mono fun _ _ x=> .inr x),t.2⟩;have b3: ¬(((0:Nat):Int)≠((0:Nat):Int)):=by omega
 simp(maxSteps:=999999)(disch:=omega) only[bK,eZ,b3,cl.bc.ld,qY g7,zMC,Option.map_some,e1,vU a5 S,b0,vU a9 S]
theorem zFH (D:Dyn)(n:Nat){H:AH}{a B6 e:Nat}(x y:AV)(o:H.ok)(p:H.h.get a=some (.cells [.bool false, .nilSlice, .nilSlice, .nilSlice] 119 1 false))(t:e≠0):
  ∃H',bK D n [.ptr B6 0,x, .ptr a 0,y, .int .i64 (e:Nat)] H=some (.ret (.tuple [.agg [.bool false, .nilSlice, .nilSlice, .nilSlice], .int .i64 (e:Nat)]),H')/\Stp (fun B=>B=a) H H':=by
 obtain⟨f,q,i,s,u⟩:=y9 o p (l':=[.bool false, .nilSlice, .nilSlice, .nilSlice]) rfl rfl;have j:stN 4 (.ptr a 0) (.agg [.bool false, .nilSlice, .nilSlice, .nilSlice]) H=some (qX,f):=q;refine⟨f, ?_,s⟩;have m:((e:Nat):Int)≠((0:Nat):Int):=by omega
 simp(maxSteps:=999999)(disch:=omega) only[bK,eZ,m,ne_eq,not_false_eq_true,cX,j,vU i rfl]
theorem zKX (M n a f h i j B6:Nat)(x:AV)(H:AH):callV [(76,f76 (dy (M+1)) n),(77,f77 (dy (M+1)) n),(79,f79 (dy (M+1)) n),(129,f129 (dy (M+1)) n),(130,f130 (dy (M+1)) n)] (dy (M+1)) (zFb a f h i j B6) [x] H=f128 (dy M) M [x, .ptr a 0, .ptr f 0, .ptr h 0, .ptr i 0, .ptr j 0, .ptr B6 0] H:=rfl
noncomputable def zNW (D:Dyn)(n:Nat)(Z x4 x5 x6 f h a:AV)(H:AH):Rs:=
 bV (fAd 0 a) fun s=>
 bV (ld1 s H) fun t=>
 jn (cnd t (bV (ld1 Z H) fun u=>
 bV (ldN 4 a H) fun v=>
 bR (callV [(76,f76 D n),(77,f77 D n),(79,f79 D n),(129,f129 D n),(130,f130 D n)] D u [v] H) fun i H=>
 bV (qV i 0) fun x=>
 bV (qV i 1) fun y=>
 bR (stN 4 a x H) fun _ H=>
 some (.norm [x6,f,h,a,y],H))
 (bV (ldN 4 a H) fun z=>
 bV (ld1 x4 H) fun C=>
 bR (f79 D n [z,C] H) fun j H=>
 bA (bxV 119 (.agg [(.bool false), .nilSlice, .nilSlice, .nilSlice])) H fun m H=>
 bV (ld1 x5 H) fun F=>
 bV (fAd 3 a) fun J=>
 bV (ld1 J H) fun K=>
 bV (hU 3 K j) fun L=>
 bV (ldN 3 L H) fun N=>
 bR (callV [(76,f76 D n),(77,f77 D n),(79,f79 D n),(129,f129 D n),(130,f130 D n)] D F [N] H) fun o H=>
 bV (qV o 0) fun O=>
 bV (qV o 1) fun p=>
 bR (stN 4 m O H) fun _ H=>
 bV (jM .eql p (.int .i64 (.ofNat 0))) fun S=>
 jn (cnd S (bV (ld1 x6 H) fun T=>
 bV (ldN 4 a H) fun U=>
 bV (ldN 4 m H) fun V=>
 bR (f129 D n [T,U,j,V] H) fun q H=>
 bV (qV q 0) fun W=>
 bV (qV q 1) fun Y=>
 bR (stN 4 a W H) fun _ H=>
 some (.norm [x6,f,h,a,Y],H))
 (some (.norm [x6,f,h,a,p],H))) (dV D n))) (bK D n)
theorem zBu (C n:Nat)(hn:200000000<=n){H0 H:AH}{At J F M0 K V:Nat}{ed:Ed}{t B2 L N O B6 d:Nat}{u:Ptr}{dk a9 dr:AV}{root:Ptr}{es:List (AV×AV)}{q fr:PN}{a2:List (AV×AV)}{g:AV}{gl:List Ptr}{W a1:Nat}{nd:Nd.Node}(ti:TI E H0 At M0 dk a9 root es q W dr)(hold: ∀kv∈es,∀B,kR kv.2 B->B<H0.next)(b0: ∀kv∈es,∀B,kR kv.2 B-> ¬X B)
  (y:Ch X H0 H At J F a2 fr g gl W a1) (cl:Cl H0 H At J K V ed t B2 L N O B6 d) (hs:Qf E q [] u=some nd) (hd:d+1<=8192):
  ∃f j m i a,f128 (dy (C+1)) n [.agg (qZ u), .ptr t 0, .ptr B2 0, .ptr L 0, .ptr N 0, .ptr O 0, .ptr B6 0] H=gP (zNW (dy (C+1)) n (.ptr L 0) (.ptr N 0) (.ptr O 0) (.ptr B6 0) (.ptr j 0) (.ptr m 0) (.ptr i 0) a)/\
   Ch X H0 a At J F a2 fr g gl W a1/\Cl H0 a At J K V ed t B2 L N O B6 (d+1)/\kC X a g (.agg f) nd/\(∃r,f= .bool nd.leaf::r/\f.length=4/\qW f=true)/\
   a.h.get j=some (.cells (qZ u) 42 1 false)/\a.h.get m=some (.cells [.bool false, .nilSlice, .nilSlice, .nilSlice] 119 1 false)/\a.h.get i=some (.cells f 119 1 false)/\
   H.next<=j/\H.next<=m/\H.next<=i/\j≠m/\j≠i/\m≠i/\Stp (fun B=>B=t) H a:=by
 obtain⟨H1,j,b1,S,g1,m1,n1⟩:=box y.prs.ok (.cells (qZ u) 42 1 false);obtain⟨H2,m,b2,p2,g2,m2,n2⟩:=box S.ok (.cells [.bool false, .nilSlice, .nilSlice, .nilSlice] 119 1 false);have P2:=S.trans p2;have b3:=y.step P2;have a3:=cl.prs y.prs.ok P2;obtain⟨H3,e3,Y,o,T⟩:=a3.deeper b3;have a4:=ti.prs o.prs;have a8:=zNd (dy (C+1)) n a4;have N1:=S.next;have N2:=p2.next;have N3:=T.next
 have c7:t<H.next:=cl.bd.lt y.prs.ok
 have a5:H3.h.get j=some (.cells (qZ u) 42 1 false):=by rw[T.keep _ (by omega) (by omega)];exact Prs.get p2 S.ok g1
 have b4:H3.h.get m=some (.cells [.bool false, .nilSlice, .nilSlice, .nilSlice] 119 1 false):=by rw[T.keep _ (by omega) (by omega)];exact g2
 obtain⟨v,H4,e4,p4,Z,z⟩:=zCa C n hn a4 hs;obtain⟨f,rfl,b6,b7⟩:=Z.cells;obtain⟨H5,i,b5,U,g5,m5,n5⟩:=box p4.ok (.cells [.bool false, .nilSlice, .nilSlice, .nilSlice] 119 1 false);obtain⟨a,e6,g6,s6,n6⟩:=y9 U.ok g5 (l':=f) b6 b7;have b8:stN 4 (.ptr i 0) (.agg f) H5=some (qX,a):=e6;have N4:=p4.next;have N5:=U.next
 have s:Prs H3 a:=(p4.trans U).fresh s6 (fun B p=>by omega);have a6:=o.step s;have a0:yE a (.agg f) nd:=(Z.prs U).stp s6 (fun B p e=>by
  subst e;have:=Z.lt p;omega)
 have b9:kC X a g (.agg f) nd:=by
  rcases z with⟨kk,z⟩ | a7
  .exact a0.hand a6 (fun B p=>hold _ z B p) (b0 _ z)
  .refine⟨a0,fun B p=>⟨fun hg=> ?_,fun hx=> ?_⟩⟩
   .have h1:=a7 B p;have h2:=Rw.blk o.gg.row hg;omega
   .have h1:=a7 B p;have h2:=y.xo B hx;have h3:=o.prs.next
    omega
 obtain⟨r,c0,c1,c2⟩:=aX a0;refine⟨f,j,m,i,a, ?_,a6,Y.prs o.prs.ok s,b9,⟨r,c0,c1,c2⟩,Prs.get s o.prs.ok a5,Prs.get s o.prs.ok b4,g6,by omega,by omega,by omega,by omega,by omega,by omega,((P2.mono fun _ _ x=>x.elim).trans T).trans (s.mono fun _ _ x=>x.elim)⟩;have c3:((d:Nat):Int)+((1:Nat):Int)=((d+1:Nat):Int):=by omega
 have c4: ¬((8192+q.length:Nat):Int)< ((d+1:Nat):Int):=by omega
 have c5:aveq (.int .i64 ((d+1:Nat):Int)) (.int .i64 ((d+1:Nat):Int))=true:=by
  have:keq .i64 .i64=true:=by rw[kO];simp
  simp only[aveq,this,Bool.true_and,kP];simp
 have c6: ¬(((0:Nat):Int)≠((0:Nat):Int)):=by omega
 simp(maxSteps:=999999)(disch:=omega) only[f128,cR,zGZ,bVs,bRs,show ∀(e:TypeId) (l:List AV),bxV e (.agg l)=some (.cells l e 1 false,fun A=> .ptr A 0)from fun _ _=>rfl,b1,b2,a3.bd.ld,J4,wrap_i64,Int.ofNat_eq_natCast,c3,e3,Y.bd.ld,Y.bt.ld,a8,(fun K=>j8 rfl c5: ∀K:Rs,chk (some (AV.int .i64 ((d+1:Nat):Int))) (.int .i64 ((d+1:Nat):Int)) K=K),zEn,c4,decide_false,zFd,Bool.false_eq_true,if_false,qY a5,zMC,Option.map_some,e4,qV,nth,b5,b8,zEk,c6];rfl
theorem Cl.stb {H0 H H':AH}{At a K V A e:Nat}{ed:Ed}{f i j o p B6 d:Nat}{l:List AV}(h:Cl H0 H At a K V ed f i j o p B6 d)(q:H.ok)(t:H.h.get A=some (.cells l e 1 false))(hl:l.length=4)(s:Stp (fun B=>B=A) H H'):Cl H0 H' At a K V ed f i j o p B6 d:=by
 have m: ∀ {B:Nat} {x:AV},Box H B x->Box H' B x:=fun {B x} hb=>hb.mono q s (fun e=>by
  obtain⟨_,hb⟩:=hb;rw[e,t]at hb;simp only[zB,AObj.cells.injEq]at hb;rw[hb.1]at hl;simp at hl)
 exact⟨m h.bd,m h.bt,m h.be,m h.bk,m h.bf,m h.bc,h.eb,h.fr,h.n1,h.n2,h.n3,h.n4,h.n5⟩
theorem zNV {H0:AH}{At Ac F M0 K V:Nat}{ed:Ed}{B1 B2 B3 B4 B5 B6:Nat}{dk o2 dr:AV}{root:Ptr}{es:List (AV×AV)}{q:PN}{c4:Nat}(ti:TI E H0 At M0 dk o2 root es q c4 dr)(hold: ∀kv∈es,∀B,kR kv.2 B->B<H0.next)(d7: ∀kv∈es,∀B,kR kv.2 B-> ¬X B)(hq: ∀s nd,y8 s q=some nd->s<=c4)(ho:ed.ok):
  ∀(h M n:Nat),200000000+h<=M->200000000<=n-> ∀ {H:AH} {d b1:Nat} {N:Ptr} {d8:List (AV×AV)} {f:PN} {g:AV} {gl:List Ptr} {nd:Nd.Node} {t:Bt.Tr h} {S:List Ptr} {lo hi:Bd},
   Ch X H0 H At Ac F d8 f g gl c4 b1->Cl H0 H At Ac K V ed B1 B2 B3 B4 B5 B6 d->Qf E q [] N=some nd->yX (Qf E q []) h nd t S->Gen h lo hi t->jD h t<=500->(0<h->nd.keys≠[])->zH4 lo ed.key->hiB hi ed.key->d+h+1<=8192->b1+6*h<=600000000->gl.length+2*(h+1)<=b1+1000->
   ∃u e g' H',f128 (dy (M+1)) n [.agg (qZ N), .ptr B1 0, .ptr B2 0, .ptr B3 0, .ptr B4 0, .ptr B5 0, .ptr B6 0] H=some (.tuple [u, .int .i64 ((e:Nat):Int)],H')/\Stp (fun B=>chg Ac F g B\/B=B1) H H'/\(∃l,u= .agg l/\l.length=4/\qW l=true)/\
    match ed.run (con h t)with
    | none=>e=5
    | some c'=>e=0/\zOl E X H0 H H' At Ac F K V ed B1 B2 B3 B4 B5 B6 d q f g g' gl c4 b1 h lo hi t S N u c':=by
 intro h
 induction h with
 | zero=>
  intro M n hM hn H d b1 N d8 f g gl nd t S lo hi ch cl hs rn wg hz _ d9 e0 hd hb o3;obtain⟨rfl,rfl⟩:=rn;obtain⟨lv,Y,A8,L,H6,e6,v,a7,c6,⟨r,c7,a2,o4⟩,g7,g8,a3,m7,m8,o5,o6,l4,l5,c2⟩:=zBu M n hn ti hold d7 ch cl hs (by omega);have N0:=ch.prs.next;have o7:=ch.ltC;have N6:=c2.next
  have o8:jI (t:Kvs)<=10000:=by simp only[jD]at hz;omega
  obtain⟨u,H7,e7,_,O,w7⟩:=zIg M n (by omega) v.prs.ok c6.1 wg o8 ho (a7.eb.prs ti.ok v.prs);obtain⟨lu,rfl,o9,h5⟩:=w7.1.cells;have p1:=v.step O;have h6:=a7.prs v.prs.ok O;have b7:=Prs.get O v.prs.ok a3;obtain⟨Z,e8,a5,s8,n8⟩:=y9 O.ok b7 (l':=lu) (by omega) h5;have p2:stN 4 (.ptr L 0) (.agg lu) H7=some (qX,Z):=by rw[a2]at e8;exact e8
  have b3:=h6.stb O.ok b7 a2 s8;have p3:kC X H7 g (.agg lu) (edL ed t).1:=wN.hand v (Nat.le_refl _) w7;rw[c7]at b7;have a0:=p1.stb b7 s8 (by omega) (by omega);have h7:=p3.stb b7 s8;have N7:=O.next;have N8:=s8.next
  have b4:Z.h.get Y=some (.cells (qZ N) 42 1 false):=by rw[s8.keep _ (by have:=v.prs.ok.lt g7;omega) (by omega)];exact Prs.get O v.prs.ok g7
  have a8:Z.h.get A8=some (.cells [.bool false, .nilSlice, .nilSlice, .nilSlice] 119 1 false):=by rw[s8.keep _ (by have:=v.prs.ok.lt g8;omega) (by omega)];exact Prs.get O v.prs.ok g8
  have S8:Stp (fun B=>chg Ac F g B\/B=B1) H Z:=⟨s8.ok,by omega,fun B m y=>by
   rw[s8.keep B (by omega) (by omega),O.keep B (by omega) (fun x=>x),c2.keep B m (fun e=>y (.inr e))]⟩
  have p4: ¬(((0:Nat):Int)≠((0:Nat):Int)):=by omega
  have p5:(leafOf (t:Kvs)).leaf=true:=rfl;have run: ∀ {x:Option (AV×AH)} {code:Nat},(edL ed t).2=code->gP (bK (dy (M+1)) n [.ptr B6 0, .ptr Y 0, .ptr A8 0, .ptr L 0, .int .i64 ((code:Nat):Int)] Z)=x->f128 (dy (M+1)) n [.agg (qZ N), .ptr B1 0, .ptr B2 0, .ptr B3 0, .ptr B4 0, .ptr B5 0, .ptr B6 0] H=x:=by
   intro x code hc T;rw[hc]at e7;rw[e6];simp(maxSteps:=999999)(disch:=omega) only[zNW,eZ,qT a3,c7,p5,a7.be.ld];simp(maxSteps:=999999)(disch:=omega) only[eZ,vU a3 a2,e7,qV,nth,p2];exact T
  cases hr:ed.run t with
  | none=>
   have c8:edL ed t=(nd0,5):=by simp only[edL,hr]
   obtain⟨H9,e9,z⟩:=zFH (dy (M+1)) n (B6:=B6) (.ptr Y 0) (.ptr L 0) a0.prs.ok a8 (e:=5) (by decide);refine⟨.agg [.bool false, .nilSlice, .nilSlice, .nilSlice],5,g,H9,run (by rw[c8]) (by rw[e9];rfl),⟨z.ok,by have:=z.next;omega,fun B m y=>by rw[z.keep B (by omega) (by omega)];exact S8.keep B m y⟩,⟨_,rfl,rfl,rfl⟩, ?_⟩
   simp only[con,hr]
  | some l'=>
   have c8:edL ed t=(leafOf l',0):=by simp only[edL,hr]
   rw[c8]at h7;obtain⟨g',H9,e9,e2,e3,p6,z,b9⟩:=zFG (dy (M+1)) n a0 b3 b4 a8 a5 h7 (by omega) (by omega) (by omega) (by omega) (by omega) (by omega);obtain⟨w1,w2⟩:=Ed.leaf wg d9 e0 ho hr;refine⟨.agg lu,0,g',H9,run (by rw[c8]) (by rw[e9];rfl),⟨z.ok,by have:=z.next;omega,fun B m y=> ?_⟩,⟨_,rfl,o9,h5⟩, ?_⟩
   .rw[z.keep B (by omega) (fun T=>by
     rcases T with T | T
     .exact y (.inl T)
     .omega)]
    exact S8.keep B m y
   .simp only[con,hr];refine⟨trivial,_,_,_,_,_,_,[],[N],[],[],l',e2,e3,p6,⟨rfl,rfl⟩,⟨w1,by simp only[jD]at hz;omega⟩,rfl,fun hh=>absurd hh (by omega),rfl,by simp,by omega,by omega,by omega,by simp,by simp,by simp,by simp,fun _ _ hp=>hp,fun B m=> ?_⟩;rcases b9 B m with e | e
    .exact .inl e
    .exact .inr (by omega)
 | succ h ih=>
  intro M n hM hn H d b1 N d8 f g gl nd t S lo hi ch cl hs rn wg hz c3 d9 e0 hd hb o3;obtain⟨r1,r2,r3,r4⟩:=rn;obtain⟨w1,w2,w3⟩:=id wg;have v1:=w3.len;have k0:=r4.len;obtain⟨lv,Y,A8,L,H6,e6,v,a7,c6,⟨r,c7,a2,o4⟩,g7,g8,a3,m7,m8,o5,o6,l4,l5,c2⟩:=zBu M n hn ti hold d7 ch cl hs (by omega);have N0:=ch.prs.next;have o7:=ch.ltC;have N6:=c2.next
  have p9:jL t.1 t.2.length<=500:=hz;have q0:small nd:=kY (by
   have:Nd.size nd=jD (h+1) t:=yX.size (Q:=Qf E q []) (S:=S) ⟨r1,r2,r3,r4⟩;rw[this];simp only[jD];omega)
  have h8:Nd.whereN nd ed.key=yH t.1 ed.key:=gH r1 r2 _;have l6:yH t.1 ed.key<=t.1.length:=uD _ _;have h9:yH t.1 ed.key<t.2.length:=by omega
  obtain⟨sA,sB⟩:=JB (key:=ed.key) (ks:=t.1) (ts:=t.2) wg;have i0:=UF (lo:=lo) w2 d9;have i1:=UG (hi:=hi) w2 e0;generalize v0:yH t.1 ed.key=i at h8 l6 h9 sA sB i0 i1;have c9:=zH h9;obtain⟨pk,q5,Sa,Si,Sb,k1,k2,k3,k4,k5,k6⟩:=r4.at c9;have q6:=k2;have wk:=KB.at w3 c9;have q7:0<h->q5.keys≠[]:=fun hh=>by
   cases h with
   | zero=>omega
   | succ h=>
    have:=K2 wk;rw[k3.2.1];intro e;rw[e]at this;simp at this
  obtain⟨H7,e7,O⟩:=aI (dy (M+1)) n hn v.prs.ok (key:=ed.key) c6.1.node q0;rw[h8]at e7;obtain⟨Z,e4,b8,p8,i2,v6,q8⟩:=box O.ok (.cells [.bool false, .nilSlice, .nilSlice, .nilSlice] 119 1 false);have a9:=O.trans p8;have a0:=v.step a9;have b3:=a7.prs v.prs.ok a9;have h6:=a7.prs v.prs.ok O;have a1:=c6.prs a9;have b4:=Prs.get a9 v.prs.ok g7;have a8:=Prs.get a9 v.prs.ok g8;have a5:=Prs.get a9 v.prs.ok a3;obtain⟨ks,q9,ps,i3,j1,j2,j3⟩:=id a1.1;simp only[AV.agg.injEq]at i3;obtain⟨qk,ik,i4⟩:=u4.at (l:=nd.kids) j3.row (i:=i) (by omega);have r0:nd.kids[i]'(by omega)=pk:=by
   rw[zH (by omega)]at k1;exact Option.some.inj k1
  rw[r0]at i4;have N7:=O.next;have N8:=p8.next
  obtain⟨M',rfl⟩: ∃M',M=M'+1:=⟨M - 1,by omega⟩;obtain⟨u1,e1,g1,H9,e9,z,⟨l1,rfl,i5,r5⟩,b2⟩:=ih M' (M'+1) (by omega) (by omega) a0 b3 q6 k3 wk.gen wk.sz q7 i0 i1 (by omega) (by omega) (by omega);have b5: ∀ {A:Nat} {o:AObj},Z.h.get A=some o->A<Z.next:=fun J=>a0.prs.ok.lt J
  have np: ∀ {A:Nat} {l:List AV} {e:Nat},Z.h.get A=some (.cells l e 1 false)->l.length≠1->A≠Ac-> ¬(chg Ac F g A\/A=B1):=fun {A l e} J hl c3 hc=>by
   rcases hc with(e | e | e) | e
   .exact c3 e
   .rw[e,a0.gF]at J;cases J
   .rw[a0.gg.get e]at J;simp at J
   .obtain⟨_,hb⟩:=b3.bd;rw[e,hb]at J;simp only[zB,AObj.cells.injEq]at J;rw[<-J.1]at hl;simp at hl
  have r6:lv.length≠1:=by omega
  have r7:H9.h.get Y=some (.cells (qZ N) 42 1 false):=by rw[z.keep _ (b5 b4) (np b4 (by simp[qZ]) (by omega))];exact b4
  have r8:H9.h.get A8=some (.cells [.bool false, .nilSlice, .nilSlice, .nilSlice] 119 1 false):=by rw[z.keep _ (b5 a8) (np a8 (by simp) (by omega))];exact a8
  have l7:H9.h.get L=some (.cells lv 119 1 false):=by rw[z.keep _ (b5 a5) (np a5 r6 (by omega))];exact a5
  have c0:H9.h.get e4=some (.cells [.bool false, .nilSlice, .nilSlice, .nilSlice] 119 1 false):=by rw[z.keep _ q8 (np i2 (by simp) (by omega))];exact i2
  obtain⟨U,r9,k7,W,v7⟩:=y9 z.ok c0 (l':=l1) i5 r5;have l8:stN 4 (.ptr e4 0) (.agg l1) H9=some (qX,U):=r9;have N9:=z.next;have v8:=W.next
  have t7:=b5 b4;have t8:=b5 a8;have v9:=b5 a5;have w0:v.prs.ok.lt g7=v.prs.ok.lt g7:=rfl;have u7:=v.prs.ok.lt g7;have u8:=v.prs.ok.lt g8;have w4:=v.prs.ok.lt a3;have g4:U.h.get Y=some (.cells (qZ N) 42 1 false):=by rw[W.keep _ (by omega) (by omega)];exact r7
  have d4:U.h.get A8=some (.cells [.bool false, .nilSlice, .nilSlice, .nilSlice] 119 1 false):=by rw[W.keep _ (by omega) (by omega)];exact r8
  have d2:U.h.get L=some (.cells lv 119 1 false):=by rw[W.keep _ (by omega) (by omega)];exact l7
  have i6:Stp (fun B=>chg Ac F g B\/B=B1) H U:=⟨W.ok,by omega,fun B m y=>by
   rw[W.keep B (by omega) (by omega),z.keep B (by omega) y,a9.keep B (by omega) (fun x=>x),c2.keep B m (fun e=>y (.inr e))]⟩
  have a6:=Ed.run_mid ed (A:=(t.2.take i).flatMap (con h)) (C:=con h t.2[i]) (B:=(t.2.drop (i+1)).flatMap (con h)) sA sB;have l9:con (h+1) t=(t.2.take i).flatMap (con h)++con h t.2[i]++(t.2.drop (i+1)).flatMap (con h):=by
   have:t.2=t.2.take i++[t.2[i]]++t.2.drop (i+1):=zDg c9;simp only[con]
   conv=>lhs;rw[this]
   simp only[qI,zW,List.flatMap_nil,List.append_nil]
  rw[<-l9]at a6;have p4: ¬(((0:Nat):Int)≠((0:Nat):Int)):=by omega
  have i7:lv=[.bool nd.leaf,ks,q9,ps]:=i3;have head: ∀ {x:Option (AV×AH)},gP (jn (bV (jM .eql (.int .i64 ((e1:Nat):Int)) (.int .i64 (.ofNat 0))) fun s0=>jn (cnd s0 (bV (ld1 (.ptr B6 0) U) fun s1=>bV (ldN 4 (.ptr L 0) U) fun s2=>bV (ldN 4 (.ptr e4 0) U) fun s3=>bR (f129 (dy (M'+1+1)) n [s1,s2, .int .i64 (i:Nat),s3] U) fun i8 H=>
    bV (qV i8 0) fun s4=>bV (qV i8 1) fun s5=>bR (stN 4 (.ptr L 0) s4 H) fun _ H=>some (.norm [.ptr B6 0, .ptr Y 0, .ptr A8 0, .ptr L 0,s5],H)) (some (.norm [.ptr B6 0, .ptr Y 0, .ptr A8 0, .ptr L 0, .int .i64 ((e1:Nat):Int)],U))) (dV (dy (M'+1+1)) n)) (bK (dy (M'+1+1)) n))=x->
    f128 (dy (M'+1+1)) n [.agg (qZ N), .ptr B1 0, .ptr B2 0, .ptr B3 0, .ptr B4 0, .ptr B5 0, .ptr B6 0] H=x:=by
   intro x T;rw[e6,<-T];have h0:ld1 (.ptr L 0) H6=some (.bool false):=by rw[qT a3,i7,r1];rfl
   have h3:ld1 (.ptr L 3) Z=some ps:=by rw[qT a5,i7];rfl
   simp(maxSteps:=999999)(disch:=omega) only[zNW,eZ,h0,vU a3 a2,a7.bk.ld,e7,b8,b3.bf.ld,h3,ik,i4,zKX,e9,qV,nth,l8]
  cases hr:ed.run (con h t.2[i])with
  | none=>
   rw[hr]at b2 a6;simp only[Option.map_none]at a6;have b2:e1=5:=b2;subst b2;obtain⟨b6,e5,f3⟩:=zFH (dy (M'+1+1)) n (B6:=B6) (.ptr Y 0) (.ptr L 0) W.ok d4 (e:=5) (by decide);have h50: ¬((5:Nat):Int)=((0:Nat):Int):=by omega
   refine⟨.agg [.bool false, .nilSlice, .nilSlice, .nilSlice],5,g,b6,head ?_,⟨f3.ok,by have:=f3.next;omega,fun B m y=>by rw[f3.keep B (by omega) (by omega)];exact i6.keep B m y⟩,⟨_,rfl,rfl,rfl⟩, ?_⟩
   .simp(maxSteps:=999999)(disch:=omega) only[eZ,h50,dV,e5]
   .rw[a6]
  | some c1=>
   rw[hr]at b2 a6;simp only[Option.map_some]at a6;obtain⟨rfl,v2,f1,i9,f8,d1,s6,S1,G1,R1,s7,t1,e2,e3,t0,j0,t3,m0,t4,g5,w5,w6,v3,w8,j4,g6,m1,j5,k8,f4⟩:=b2;have c5:=e2.stb c0 W (by omega) (by omega);have g9:=e3.stb z.ok c0 rfl W;have m2:=t0.stb c0 W;have t5:kC X H9 g1 (.agg lv) nd:=⟨a1.1.stp z (fun B m hc=>by
    rcases hc with(e | e | e) | e
    .subst e;exact a1.1.nblk a0.gC (.inl ⟨_,_,_,_,rfl,fun _ _ e=>by cases e⟩) m
    .subst e;exact a1.1.nblk a0.gF (.inr (.inl ⟨_,_,rfl⟩)) m
    .exact(a1.2 B m).1 e
    .obtain⟨_,hb⟩:=b3.bd;subst e;exact a1.1.nblk hb (.inl ⟨_,_,_,_,rfl,fun _ _ e=>by cases e⟩) m),fun B m=>⟨fun J=>by
    rcases f4 B J with e | e
    .exact(a1.2 B m).1 e
    .have:=a1.1.lt m;omega,(a1.2 B m).2⟩⟩
   have m3:=t5.stb c0 W;have m4:0<h->s6.keys≠[]:=fun hh=>by
    have f5:=t4 hh
    cases h with
    | zero=>omega
    | succ h=>
     have:=K2 wk;simp only[XE]at f5;rw[j0.2.1];intro e;rw[e]at f5;simp at f5;omega
   have v4:i9.length=gl.length+G1.length:=by rw[g5,zL]
   obtain⟨u2,b6,m5,f2,g2,j6,f9,t6,t2,S2,G2,R2,e5,d5,a4,h1,m6,t9,k9,w9,u0,x0,x3,h2,j7,h4,l0,x4⟩:=zEP (M'+1) n hn ti hold d7 hq c5 m3 m2 r1 r2 r3 k0 wg (by rw[<-r2];exact c3 (by omega)) p9 c9 k4 k5 j0 t3 m4 (by omega) (by omega);obtain⟨l2,rfl,u3,j8⟩:=h1.1.cells;have d6: ∀ {A:Nat} {l:List AV} {e:Nat},U.h.get A=some (.cells l e 1 false)->A≠Ac-> ¬chg Ac F g1 A:=fun {A l e} J c3 hc=>by
    rcases hc with e | e | e
    .exact c3 e
    .rw[e,c5.gF]at J;cases J
    .rw[c5.gg.get e]at J;simp at J
   have x5:=a4.1.next
   have m9:b6.h.get Y=some (.cells (qZ N) 42 1 false):=by rw[a4.1.keep _ (by omega) (d6 g4 (by omega))];exact g4
   have n0:b6.h.get A8=some (.cells [.bool false, .nilSlice, .nilSlice, .nilSlice] 119 1 false):=by rw[a4.1.keep _ (by omega) (d6 d4 (by omega))];exact d4
   have d3:b6.h.get L=some (.cells lv 119 1 false):=by rw[a4.1.keep _ (by omega) (d6 d2 (by omega))];exact d2
   obtain⟨f6,j9,l3,b0,x6⟩:=y9 d5.prs.ok d3 (l':=l2) (by omega) j8;have n1:stN 4 (.ptr L 0) (.agg l2) b6=some (qX,f6):=by rw[a2]at j9;exact j9
   have n2:=g9.keep c5 a4.1;have n3:=n2.stb d5.prs.ok d3 a2 b0;have d0:=d3;rw[c7]at d0;have n4:=d5.stb d0 b0 (by omega) (by omega);have n5:=h1.stb d0 b0;have x7:=b0.next
   have n6:f6.h.get Y=some (.cells (qZ N) 42 1 false):=by rw[b0.keep _ (by omega) (by omega)];exact m9
   have n7:f6.h.get A8=some (.cells [.bool false, .nilSlice, .nilSlice, .nilSlice] 119 1 false):=by rw[b0.keep _ (by omega) (by omega)];exact n0
   have v5:j6.length=i9.length+G2.length:=by rw[h2,zL]
   obtain⟨g3,u5,u6,n9,o0,o1,f7,u9⟩:=zFG (dy (M'+1+1)) n n4 n3 n6 n7 l3 n5 (by omega) (by omega) (by omega) (by omega) (by omega) (by omega);have g0: ∀B,Blk g2 B->Blk g B\/Z.next<=B:=fun B m=>by
    rcases a4.2 B m with e | e
    .exact f4 B e
    .exact .inr (by omega)
   refine⟨.agg l2,0,g3,u5,head ?_,⟨f7.ok,by have:=f7.next;omega,fun B m y=> ?_⟩,⟨_,rfl,u3,j8⟩, ?_⟩
   .simp(maxSteps:=999999)(disch:=omega) only[eZ,g9.bc.ld,vU d2 a2,vU k7 i5,e5,qV,nth,n1,dV,u6]
   .rw[f7.keep B (by omega) (fun T=>by
     rcases T with(e | e | e) | e
     .exact y (.inl (.inl e))
     .exact y (.inl (.inr (.inl e)))
     .rcases g0 B e with e | e
      .exact y (.inl (.inr (.inr e)))
      .omega
     .omega),b0.keep B (by omega) (by omega),a4.1.keep B (by omega) (fun T=>by
     rcases T with e | e | e
     .exact y (.inl (.inl e))
     .exact y (.inl (.inr (.inl e)))
     .rcases f4 B e with e | e
      .exact y (.inl (.inr (.inr e)))
      .omega)]
    exact i6.keep B m y
   .rw[a6];refine⟨rfl,m5,f2,j6++[N],f9,d1,t6,S2,G1++G2++[N],R2++R1,pps f8 (f9 - f8)++s7,t2,n9,o0,o1,m6,⟨t9,by omega⟩,by rw[k9,m0],fun _=>by simp only[XE];exact u0,by rw[h2,g5];simp,by simp;omega,by omega,by omega,by omega, ?_, ?_, ?_, ?_,fun p nd hp=>l0 p nd (k8 p nd hp),fun B m=> ?_⟩
    .rw[List.perm_iff_count]at j4 j7⊢;intro a;have x1:=j4 a;have x2:=j7 a;simp only[List.count_append]at x1 x2⊢;omega
    .rw[k6];rw[List.perm_iff_count]at g6 h4⊢;intro a;have x1:=g6 a;have x2:=h4 a;simp only[List.count_append,List.count_cons,List.count_nil]at x1 x2⊢;omega
    .rw[List.nodup_append];refine⟨JU _ _,m1,fun a ha b hb e=> ?_⟩;obtain⟨j,rfl,q1,q2⟩:=cK ha;obtain⟨j',e',q3,q4⟩:=j5 b hb;rw[e']at e;have:=QX e;omega
    .intro p hp;rcases List.mem_append.1 hp with hp | hp
     .obtain⟨j,rfl,q1,q2⟩:=cK hp;exact⟨j,rfl,by omega,by omega⟩
     .obtain⟨j,rfl,q1,q2⟩:=j5 p hp;exact⟨j,rfl,by omega,by omega⟩
    .rcases u9 B m with e | e
     .rcases g0 B e with e | e
      .exact .inl e
      .exact .inr (by omega)
     .exact .inr (by omega)
end Go.Eng.Sh
end
section
set_option maxRecDepth 20000
namespace Go.Eng
theorem zDN {t:T AObj} : ∀(n A:Nat),(∀C,A<=C->t.get C=none)->zF2 t A n=true
 | 0,_,_=>rfl
 | n+1,A,h=>by
  simp only[zF2,h A (Nat.le_refl _),yG];exact zDN n _ fun C a=>h C (by simp only[Nat.succ_eq_add_one]at a;omega)
theorem zD5: ∀ {l e:List (AV×AV)},(∀x∈l,kQ x.1 e=none)->l.Pairwise (fun a b=>aveq b.1 a.1=false)->XO e l=e++l
 | [],e,_,_=>by simp[XO]
 | x::l,e,h,hp=>by
  rw[List.pairwise_cons]at hp;have f:ups e x=e++[x]:=by
   obtain⟨k,v⟩:=x;simp only[ups,Sh.setA_none (h (k,v) (zF ..))]
  have j: ∀ {k:AV} {a b:List (AV×AV)},kQ k a=none->kQ k b=none->kQ k (a++b)=none:=by
   intro k a b
   induction a with
   | nil=>intro _ h;exact h
   | cons c a ih=>
    intro f m;simp only[List.cons_append,kQ]at f⊢
    cases e:aveq k c.1 with
    | true=>rw[e]at f;cases f
    | false=>rw[e]at f;simp only[cond_false]at f⊢;exact ih f m
  simp only[XO,f];rw[zD5 (l:=l) (fun y i=>j (h y (zE _ i)) (by
   simp only[kQ,hp.1 y i,cond_false])) hp.2]
  simp
end Go.Eng
namespace Go.Eng.Sh
open Go.Nd (Ptr sumL)
open Go.Bt
def fQ:PN->List Ptr->PN
 | q,[]=>q
 | q,p::gl=>fQ (if p.at_=1 then zE9 p.sum.toNat q else q) gl
theorem QK: ∀(gl:List Ptr) (q:PN) (p:Ptr),fQ q (gl++[p])=if p.at_=1 then zE9 p.sum.toNat (fQ q gl)else fQ q gl
 | [],_,_=>rfl
 | _::gl,q,p=>by simp only[List.cons_append,fQ,QK gl]
theorem zE8 (s:Nat): ∀q:PN,(zE9 s q).length<=q.length
 | []=>Nat.le_refl _
 | (t,n)::q=>by
  simp only[zE9];split
  .simp
  .have:=zE8 s q;simp;omega
theorem zE7 (s:Nat): ∀ {q:PN} {x:Nat×Nd.Node},x∈zE9 s q->x∈q
 | [],_,h=>h
 | (t,n)::q,x,h=>by
  simp only[zE9]at h;split at h
  .exact zE _ h
  .rcases List.mem_cons.1 h with h | h
   .exact h▸zF ..
   .exact zE _ (zE7 s h)
theorem zB2 {s t:Nat}(h:s≠t): ∀q:PN,y8 s (zE9 t q)=y8 s q
 | []=>rfl
 | (a,n)::q=>by
  simp only[zE9];split
  .rename_i e;simp only[y8];rw[if_neg (fun f=>h (f.symm.trans e))]
  .simp only[y8,zB2 h q]
theorem WI {s:Nat} : ∀ {q:PN},y8 s q=none->zE9 s q=q
 | [],_=>rfl
 | (a,n)::q,h=>by
  simp only[y8]at h;split at h
  .cases h
  .rename_i e;simp only[zE9,if_neg e,WI h]
theorem WH {H:AH}{s:Nat} : ∀ {es:List (AV×AV)} {q:PN},xG H es q->y8 s q=none->zIp (.int .u64 (s:Nat)) es=none
 | [],[],_,_=>rfl
 | (k,v)::es,(t,nd)::q,h,hl=>by
  obtain⟨⟨rfl,_⟩,a⟩:=h;simp only[y8]at hl;split at hl
  .cases hl
  .rename_i e;have f: ¬s=t:=fun h=>e h.symm
   simp only[zIp,zL7,f,decide_false,cond_false,WH a hl]
 | [],_::_,h,_=>h.elim
 | _::_,[],h,_=>h.elim
theorem VY {s:Nat} : ∀ {gl:List Ptr} {q:PN},(∀p∈gl,p.at_=1->s≠p.sum.toNat)->y8 s (fQ q gl)=y8 s q
 | [],_,_=>rfl
 | p::gl,q,h=>by
  rw[fQ,VY fun p hp=>h p (zE _ hp)];by_cases e:p.at_=1
  .rw[if_pos e,zB2 (h p (zF ..) e)]
  .rw[if_neg e]
theorem ZL: ∀ {gl:List Ptr} {q:PN} {x:Nat×Nd.Node},x∈fQ q gl->x∈q
 | [],_,_,h=>h
 | p::gl,_,_,h=>by
  have a:=ZL (gl:=gl) h;split at a
  .exact zE7 _ a
  .exact a
theorem ZM: ∀(gl:List Ptr) (q:PN),(fQ q gl).length<=q.length
 | [],_=>Nat.le_refl _
 | p::gl,q=>by
  refine Nat.le_trans (ZM gl _) ?_;split
  .exact zE8 _ q
  .exact Nat.le_refl _
theorem kL {s:Nat}{nd:Nd.Node} : ∀ {q:PN},y8 s q=some nd->(s,nd)∈q
 | [],h=>by cases h
 | (t,n)::q,h=>by
  simp only[y8]at h;split at h
  .rename_i e;subst e;simp only[zB]at h;subst h;exact zF ..
  .exact zE _ (kL h)
theorem xG.keys {H:AH} : ∀ {es:List (AV×AV)} {q:PN},xG H es q-> ∀kv∈es,∃s,kv.1= .int .u64 ((s:Nat):Int)/\s∈q.map Prod.fst
 | [],[],_,_,h=>by simp at h
 | (k,v)::es,(t,nd)::q,hq,kv,a=>by
  rcases List.mem_cons.1 a with rfl | a
  .exact⟨t,hq.1.1,by simp⟩
  .obtain⟨s,f,i⟩:=xG.keys hq.2 kv a;exact⟨s,f,zE _ i⟩
 | [],_::_,h,_,_=>h.elim
 | _::_,[],h,_,_=>h.elim
theorem xG.dist {H:AH} : ∀ {es:List (AV×AV)} {q:PN},xG H es q->(q.map Prod.fst).Nodup->es.Pairwise (fun a b=>aveq b.1 a.1=false)
 | [],[],_,_=>List.Pairwise.nil
 | (k,v)::es,(t,nd)::q,hq,hd=>by
  simp only[List.map_cons,List.nodup_cons]at hd;rw[List.pairwise_cons];refine⟨fun kv f=> ?_,xG.dist hq.2 hd.2⟩;obtain⟨s,i,j⟩:=xG.keys hq.2 kv f;rw[i,hq.1.1,zL7,decide_eq_false_iff_not];intro e;subst e;exact hd.1 j
 | [],_::_,h,_=>h.elim
 | _::_,[],h,_=>h.elim
theorem xG.append {H:AH}{es':List (AV×AV)}{a:PN}(f:xG H es' a): ∀ {es:List (AV×AV)} {q:PN},xG H es q->xG H (es++es') (q++a)
 | [],[],_=>f
 | _::es,_::q,h=>⟨h.1,xG.append f h.2⟩
 | [],_::_,h=>h.elim
 | _::_,[],h=>h.elim
theorem xG.isAg {H:AH}{es:List (AV×AV)}{q:PN}(h:xG H es q):es.all (fun e=>keyOk [10] e.1&&Eng.isAg 4 e.2)=true:=by
 rw[List.all_eq_true];intro kv a;obtain⟨s,f,_⟩:=h.keys kv a;obtain⟨nd,i⟩:=h.mem kv a;obtain⟨l,j,m,o⟩:=i.cells;rw[f,j,zPn,Bool.true_and];simp only[Eng.isAg,yA,m,o,Nat.beq_refl,Bool.and_self]
noncomputable def AH.putB (H:AH)(A:Nat)(o:AObj)(k:Nat):AH:=⟨(H.put A o).h,H.next+k⟩
theorem zJX {H:AH}(i:H.ok){A:Nat}(m:A<H.next)(o:AObj)(k:Nat):Stp (fun B=>B=A) H (AH.putB H A o k)/\(AH.putB H A o k).h.get A=some o:=by
 have a: ∀B,(AH.putB H A o k).h.get B=if B=A then some o else H.h.get B:=fun B=>AH.put_get H A o B
 refine⟨⟨fun B f=> ?_, ?_,fun B _ j=> ?_⟩, ?_⟩
 .have f:H.next+k<=B:=f
  rw[a,if_neg (by omega)];exact i B (by omega)
 .show H.next<=H.next+k;omega
 .rw[a,if_neg j]
 .rw[a,if_pos rfl]
theorem zJr {H:AH}(j:H.ok){F M:Nat}{a es:List (AV×AV)}{f:PN}(m:H.h.get F=some (.map [10] a))(o:H.h.get M=some (.map [10] es))(i:F≠M)(hp:xG H a f):
  zMr [10] 1 (isAg 4) (.map F) (.map M) H=some (AH.putB H M (.map [10] (XO es a)) (1+1*a.length)):=by
 have hb:Nat.beq F M=false:=by rw[Bool.eq_false_iff];intro h;exact i (Nat.eq_of_beq_eq_true h)
 simp only[zMr,m,o,show QI [10] [10]=true from rfl,hb,hp.isAg,Bool.not_false,Bool.and_self,cond_true,yG,zDN _ _ j,yQ,AH.putB,AH.put_next,Nat.add_assoc]
end Go.Eng.Sh
end
section
set_option maxRecDepth 20000
namespace Go.Eng.Sh
open Go.Nd (Ptr sumL)
open Go.Bt
variable {E:Ev}
def Ev.drop (E:Ev)(gl:List Ptr):Ev:=⟨E.nb,E.ws,E.dl++gl.filter fun p=>decide (p.at_≠1)⟩
theorem zE4 (E:Ev)(gl:List Ptr):(E.drop gl).dl.length<=E.dl.length+gl.length:=by
 simp only[Ev.drop,zL];have:=List.length_filter_le (fun p:Ptr=>decide (p.at_≠1)) gl;omega
theorem TI.dks {S:Nat->Prop}{H H':AH}{At M u:Nat}{d c p:AV}{root:Ptr}{es:List (AV×AV)}{q:PN}(h:TI E H At M d c root es q u p)(s:Stp S H H')(f: ∀B,S B->B=At\/B=M\/Blk p B\/H.next<=B): ∃Ad i j m o,d= .ptr Ad 0/\DkI H' Ad E.nb E.ws i j m o:=by
 obtain⟨Ad,i,j,m,o,rfl,hd⟩:=h.dk;have t: ∀ {B:Nat} {ks:List Nat} {x:List (AV×AV)},ks≠[10]->H.h.get B=some (.map ks x)-> ¬S B:=fun {B ks x} v g a=>by
  rcases f B a with e | e | e | e
  .rw[e,h.gT]at g;cases g
  .rw[e,h.gM]at g;simp only[zB,AObj.map.injEq]at g;exact v g.1.symm
  .exact yV.nsep h.dg g (fun _ _ e=>by cases e) e
  .have:=h.ok.lt g;omega
 refine⟨Ad,i,j,m,o,rfl,hd.stp h.ok s (fun a=> ?_) (t (by decide) hd.gO) (t (by decide) hd.gN) fun B y a=> ?_⟩
 .rcases f Ad a with e | e | e | e
  .have g:=hd.gD;rw[e,h.gT]at g;simp[jX]at g
  .have g:=hd.gD;rw[e,h.gM]at g;cases g
  .exact yV.nsep h.dg hd.gD (fun _ _ e=>by simp at e) e
  .have:=h.ok.lt hd.gD;omega
 .have g:=hd.ow.get y;rcases f B a with e | e | e | e
  .rw[e,h.gT]at g;simp at g
  .rw[e,h.gM]at g;cases g
  .exact yV.nsep h.dg g (fun _ _ e=>by simp at e) e
  .have:=h.ok.lt g;omega
theorem zPJ {H:AH}{M s:Nat}{es:List (AV×AV)}{q:PN}(f:H.ok)(a:H.h.get M=some (.map [10] es))(hp:xG H es q):
  ∃es' H',dlM [10] (.map M) (.int .u64 (s:Nat)) H=some (.tuple [],H')/\H'.h.get M=some (.map [10] es')/\xG H' es' (zE9 s q)/\Stp (fun B=>B=M) H H'/\ ∀kv∈es',kv∈es:=by
 cases hl:y8 s q with
 | none=>
  refine⟨es,H, ?_,a,by rw[WI hl];exact hp,Stp.refl f,fun _ h=>h⟩;simp only[dlM,zPn,a,show QI [10] [10]=true from rfl,cond_true,WH hp hl]
 | some nd=>
  obtain⟨es',m,o,p⟩:=hp.del s nd hl;have i:Stp (fun B=>B=M) H (H.put M (.map [10] es')):=(Stp.refl f).put (f.lt a) _ (.inr rfl);refine⟨es',H.put M (.map [10] es'), ?_,by rw[AH.put_get,if_pos rfl],o.frame fun kv u v j=>j.stp i fun B t e=> ?_,i,p⟩
  .simp only[dlM,zPn,a,show QI [10] [10]=true from rfl,cond_true,m,yQ]
  .subst e;exact j.nblk a (.inr (.inl ⟨_,_,rfl⟩)) t
theorem KJ {α:Type}(f:α->Bool)(l:List α)(a:α):(l++[a]).filter f=l.filter f++(if f a then[a]else[]):=by
 rw[List.filter_append];cases h:f a<;>simp[h]
theorem zIl (D:Dyn)(n:Nat){H0 H:AH}{At T F M:Nat}{d c N:AV}{K root:Ptr}{es:List (AV×AV)}{q:PN}{W:List (AV×AV)}{f:PN}{g:AV}{gl:List Ptr}{Y z:Nat}(t:TI E H0 At M d c K es q Y N)(hq: ∀s nd,y8 s q=some nd->s<=Y)
  (u:Ch (Blk N) H0 H At T F W f g gl Y z) (h0: ∀p∈gl,0<=p.sum) (hl:z<=900000000) (y:gl.length<n) (j9:q.length<=Y) (k0:E.dl.length+gl.length<=900000000):
  ∃H' es' c9,f126 D n [.ptr T 0, .agg (qZ root)] H=some (.tuple [],H')/\TI (E.drop gl) H' At M d c root es' (fQ q gl++f) z c9/\Stp (fun B=>B=At\/B=M\/Blk N B) H0 H'/\ ∀B,Blk c9 B->Blk N B\/H0.next<=B:=by
 have h6:=t.prs u.prs;have j7:=u.few;obtain⟨Ad,od,hd⟩:=t.hd;obtain⟨H1,A3,b1,p1,g1,m1,n1⟩:=box u.prs.ok (.cells (qZ root) 42 1 false);have a3:=u.step p1;have a5:=h6.prs p1;have j8:At<H0.next:=t.ok.lt t.gT
 have k1:M<H0.next:=t.ok.lt t.gM
 have f8: ∀B,Blk N B->B<H0.next:=fun B a=>t.dg.lt a
 have N0:=u.prs.next;have N1:=p1.next
 have cC:=u.dC;have cF:=u.dF;have lC:=u.ltC;have lF:=u.ltF;have a9:At≠M:=fun e=>by have:=t.gT;rw[e,t.gM]at this;cases this
 have nS: ∀B,H0.next<=B-> ¬(B=M\/B=At\/Blk N B):=fun B a h=>by
  rcases h with e | e | e
  .omega
  .omega
  .have:=f8 B e;omega
 have k2: ¬Blk N M:=yV.nsep t.dg t.gM (fun _ _ e=>by cases e);have k3: ¬Blk N At:=yV.nsep t.dg t.gT (fun _ _ e=>by simp at e);have d0: ∀kv∈es,∀B,kR kv.2 B->B<H0.next:=fun kv L B a=>by
  obtain⟨d4,b7⟩:=t.pq.mem kv L;exact b7.lt a
 have lp:=wI (b:=fL D n) gl.length (fun i us H'=>us=[.ptr T 0, .ptr A3 0, .ptr At 0,g, .int .i64 (gl.length:Nat), .int .i64 (i:Nat)]/\Stp (fun B=>B=M\/B=At\/Blk N B) H1 H'/\ ∃a6 Z,H'.h.get M=some (.map [10] a6)/\xG H' a6 (fQ q (gl.take i))/\H'.h.get At=some (.cells (jX d c K M Y Z) 140 1 false)/\
   yV 3 42 H' Z (E.drop (gl.take i)).dl.length ((E.drop (gl.take i)).dl.flatMap qZ)/\(∀B,Blk Z B->Blk N B\/H1.next<=B)/\ ∀kv∈a6,kv∈es) (fun i us H' hi ⟨h7,st,a6,Z,hM,hp,gT,dg,db,hes⟩=>by
  subst h7;have h8:gl[i]∈gl:=qE hi;obtain⟨p,d5⟩: ∃p,p=gl[i]:=⟨_,rfl⟩;have d6:=h0 _ h8;have og:Own 3 42 H' g gl.length (gl.flatMap qZ):=a3.gg.mono st fun B a=>nS B (u.gN B a)
  obtain⟨pq,i1,i2⟩:=u4.at (l:=gl) og.row hi;rw[<-d5]at i2 d6;have b5:gl.take (i+1)=gl.take i++[p]:=by rw[zU hi,d5]
  obtain⟨j,A6,b2,p2,g2,m2,n2⟩:=box st.ok (.cells [.int .i64 ((0:Nat):Int), .int .i64 ((0:Nat):Int), .int .u64 ((0:Nat):Int)] 42 1 false);obtain⟨C,e3,g3,U,n3⟩:=y9 p2.ok g2 (l':=qZ p) rfl rfl;have d7:stN 3 (.ptr A6 0) (.agg (qZ p)) j=some (qX,C):=e3;have N2:=st.next;have N3:=p2.next
  have O:Prs H' C:=p2.fresh U (fun B a=>by omega);have N4:=O.next
  have b6:=Prs.get O st.ok hM;have a4:=Prs.get O st.ok gT;have a7:=dg.mono O fun _ _ x=>x
  have d8:=hp.frame fun kv _ nd y=>y.prs O
  have d9:((i:Nat):Int)< ((gl.length:Nat):Int):=by omega
  have f0:ld1 (.ptr A6 0) C=some (.int .i64 p.at_):=by rw[qT g3];rfl
  have f2:ld1 (.ptr A6 2) C=some (.int .u64 ((p.sum.toNat:Nat):Int)):=by
   rw[qT g3,Int.toNat_of_nonneg d6];rfl
  have f3:ldN 3 (.ptr A6 0) C=some (.agg (qZ p)):=by rw[qY g3];rfl
  have f5:ld1 (.ptr At 5) C=some (.map M):=by rw[qT a4];rfl
  have f7:ld1 (.ptr At 7) C=some Z:=by rw[qT a4];rfl
  by_cases h1:p.at_=1
  .obtain⟨h9,S,e4,i0,i3,V,f9⟩:=zPJ (s:=p.sum.toNat) O.ok b6 d8;have b8:p.at_=((1:Nat):Int):=h1;have i4:S.h.get At=some (.cells (jX d c K M Y Z) 140 1 false):=by
    rw[V.keep _ (by omega) a9];exact a4
   have b9:E.drop (gl.take (i+1))=E.drop (gl.take i):=by
    rw[b5,Ev.drop,Ev.drop,KJ,if_neg (by simpa using h1),List.append_nil]
   refine⟨_,S, ?_,rfl,(st.trans (O.mono fun _ _ x=>x.elim)).trans (V.mono fun _ _ x=> .inl x),h9,Z,i0, ?_,i4, ?_,db,fun kv L=>hes kv (f9 kv L)⟩
   .simp(maxSteps:=999999)(disch:=omega) only[fL,eZ,d9,i1,i2,b2,d7,f0,b8,f5,f2,e4,ZG,Int.natCast_add]
   .rw[b5,QK,if_pos h1];exact i3
   .rw[b9];exact a7.mono V fun B a e=>by subst e;exact yV.nsep a7 b6 (fun _ _ e=>by cases e) a
  .have b8: ¬p.at_=((1:Nat):Int):=h1;obtain⟨S,A7,b4,p4,g4,m4,n4⟩:=box O.ok (.cells (qZ p) 42 3 false);have a8:=a7.mono p4 fun _ _ x=>x
   have g0:srcOf 3 (.slice A7 0 1 2) S=some (1,qZ p):=by simp only[srcOf,g4];rfl
   have g7:=zE4 E (gl.take i);rw[zQ]at g7;obtain⟨c4,H5,e5,b0,J,i5⟩:=a8.app (bytes:=24) (m:=1) (new:=qZ p) p4.ok (by decide) g0 rfl rfl (by omega) (by decide);have M4:=p4.next;have M5:=J.next
   have i6: ¬Blk Z At:=yV.nsep a8 (Prs.get p4 O.ok a4) (fun _ _ e=>by simp at e);have i7: ¬Blk Z M:=yV.nsep a8 (Prs.get p4 O.ok b6) (fun _ _ e=>by cases e);have c5:H5.h.get At=some (.cells (jX d c K M Y Z) 140 1 false):=by
    rw[J.keep _ (by omega) i6];exact Prs.get p4 O.ok a4
   obtain⟨H6,e6,g6,s6,n6⟩:=kK J.ok c5 (o:=7) (x:=c4) b0.isCell (by simp[jX]);have g6:H6.h.get At=some (.cells (jX d c K M Y c4) 140 1 false):=g6;have i8:H6.h.get M=some (.map [10] a6):=by
    rw[s6.keep _ (by omega) (fun e=>a9 e.symm),J.keep _ (by omega) i7];exact Prs.get p4 O.ok b6
   have b9:(E.drop (gl.take (i+1))).dl=(E.drop (gl.take i)).dl++[p]:=by
    simp only[b5,Ev.drop,KJ];rw[if_pos (by simpa using h1),List.append_assoc]
   have e1:=bldQ 42 p [.int .i64 ((0:Nat):Int), .int .i64 ((0:Nat):Int), .int .u64 ((0:Nat):Int)] rfl;have i9:Stp (fun B=>B=M\/B=At\/Blk N B) H1 H6:=by
    refine Stp.thr (Stp.thr (st.trans ((O.trans p4).mono fun _ _ x=>x.elim)) J fun B e=> ?_) s6 fun B e=> .inr (.inr (.inl e))
    rcases db B e with x | x
    .exact .inr (.inr (.inr x))
    .exact .inl x
   refine⟨_,H6, ?_,rfl,i9,a6,c4,i8, ?_,g6, ?_,fun B a=> ?_,hes⟩
   .simp(maxSteps:=999999)(disch:=omega) only[fL,eZ,d9,i1,i2,b2,d7,f0,b8,f7,f3,e1,b4,e5,e6,ZG,Int.natCast_add]
   .rw[b5,QK,if_neg h1];refine d8.frame fun kv L nd y=> ?_
    have hk:=hes kv L;have h5:yE H5 kv.2 nd:=(y.prs p4).stp J fun B a e=>by
     rcases db B e with x | x
     .exact t.ds kv hk B a x
     .have:=d0 kv hk B a;omega
    exact h5.stp s6 fun B a e=>by
     subst e;exact h5.nblk c5 (.inl ⟨_,_,_,_,rfl,fun _ _ e=>by rw[hd]at e;cases e⟩) a
   .rw[b9,zL,qI];have e2:[p].flatMap qZ=qZ p:=by simp
    rw[e2];exact b0.mono s6 fun B a e=>by subst e;exact yV.nsep b0 c5 (fun _ _ e=>by simp at e) a
   .rcases i5 B a with e | e
    .exact db B e
    .exact .inr (by omega)) n _ H1 ⟨rfl,Stp.refl p1.ok,es,N,a5.gM,by simpa[fQ]using a5.pq,a5.gT,by simpa[Ev.drop]using a5.dg,fun B a=> .inl a,fun _ h=>h⟩ y
 obtain⟨m,us,j,e2,rfl,st,b3,a0,hM,hp,e0,c6,c7,g8⟩:=lp;rw[qJ]at hp c6;have N2:=st.next
 have f4:yF (m+1) (fL D n) [.ptr T 0, .ptr A3 0, .ptr At 0,g, .int .i64 (gl.length:Nat), .int .i64 (gl.length:Nat)] j=some (.exit 0 [.ptr T 0, .ptr A3 0, .ptr At 0],j):=y7 (by simp only[fL,eZ,qB]);have e7:j.h.get T=some (.cells [.ptr At 0, .int .u64 (z:Nat), .map F,g] 242 1 false):=by rw[st.keep _ (by omega) (nS _ (by omega))];exact a3.gC
 have j0:j.h.get F=some (.map [10] W):=by rw[st.keep _ (by omega) (nS _ (by omega))];exact a3.gF
 have j1:j.h.get A3=some (.cells (qZ root) 42 1 false):=by rw[st.keep _ (by omega) (nS _ (by omega))];exact g1
 have j6: ∀l:List AV,∀x:AV,∀b,jX d c K M Y x≠ .str l.length b::l:=fun l x b e=>by
  rw[hd]at e;simp[jX]at e
 have e8:xG j W f:=a3.pf.frame fun kv L nd y=>y.stp st fun B a e=>by
  rcases e with e | e | e
  .subst e;exact y.nblk a5.gM (.inr (.inl ⟨_,_,rfl⟩)) a
  .subst e;exact y.nblk a5.gT (.inl ⟨_,_,_,_,rfl,fun _ _ e=>by rw[hd]at e;cases e⟩) a
  .exact u.gx kv L B a e
 have c8:=zJr st.ok j0 hM (by omega) e8;have f6: ∀x∈W,kQ x.1 b3=none:=fun x hx=>by
  obtain⟨s,hs,hm⟩:=a3.pf.keys x hx;rw[hs];refine(hp.find s).2 ?_
  cases hk:y8 s (fQ q gl)with
  | none=>rfl
  | some d4=>
   have m1:=ZL (kL hk);obtain⟨k4,h3⟩:=uH (q:=q) (s:=s) (List.mem_map.2 ⟨_,m1,rfl⟩);obtain⟨k5,h4⟩:=uH hm;have:=hq _ _ h3;have:=u.fs _ _ h4;omega
 rw[zD5 f6 (a3.pf.dist u.fd)]at c8;obtain⟨U,e9⟩:=zJX st.ok (st.ok.lt hM) (.map [10] (b3++W)) (1+1*W.length);have f1:j.next<=(AH.putB j M (.map [10] (b3++W)) (1+1*W.length)).next:=U.next
 generalize AH.putB j M (.map [10] (b3++W)) (1+1*W.length)=C at c8 U e9 f1;have j2:vE [.ptr T 0, .ptr A3 0, .ptr At 0] j=some C:=by
  have c1:ld1 (.ptr T (0+2)) j=some (.map F):=by rw[qT e7];rfl
  have c2:ld1 (.ptr At (0+5)) j=some (.map M):=by rw[qT e0];rfl
  have d1:Nat.blt F j.next=true:=by rw[zR];omega
  have d2:Nat.blt M j.next=true:=by rw[zR];omega
  have d3:Nat.blt At j.next=true:=by rw[zR];omega
  simp only[vE,c1,c2,d1,d2,d3,Bool.and_self,cond_true,c8]
 have j3:C.h.get T=some (.cells [.ptr At 0, .int .u64 (z:Nat), .map F,g] 242 1 false):=by rw[U.keep _ (by omega) (by omega)];exact e7
 have a4:C.h.get At=some (.cells (jX d c K M Y a0) 140 1 false):=by rw[U.keep _ (by omega) a9];exact e0
 have j4:C.h.get A3=some (.cells (qZ root) 42 1 false):=by rw[U.keep _ (by omega) (by omega)];exact j1
 obtain⟨S,e4,g4,V,n4⟩:=kK U.ok a4 (o:=6) (x:= .int .u64 (z:Nat)) rfl (by simp[jX]);have g4:S.h.get At=some (.cells (jX d c K M z a0) 140 1 false):=g4;have j5:S.h.get A3=some (.cells (qZ root) 42 1 false):=by rw[V.keep _ (by omega) (by omega)];exact j4
 have e5:=JL (o:=2) (n:=3) (x:= .agg (qZ root)) g4 (by decide) rfl rfl (by simp[jX]);have g5:(S.put At (.cells ((jX d c K M z a0).take 2++y6 (.agg (qZ root))++(jX d c K M z a0).drop (2+3)) 140 1 false)).h.get At=some (.cells (jX d c root M z a0) 140 1 false):=by rw[AH.put_get,if_pos rfl];rfl
 have J:Stp (fun B=>B=At) S (S.put At (.cells ((jX d c K M z a0).take 2++y6 (.agg (qZ root))++(jX d c K M z a0).drop (2+3)) 140 1 false)):=(Stp.refl V.ok).put (V.ok.lt g4) _ (.inr rfl);generalize S.put At (.cells ((jX d c K M z a0).take 2++y6 (.agg (qZ root))++(jX d c K M z a0).drop (2+3)) 140 1 false)=H5 at e5 g5 J;have N3:=U.next;have N4:=V.next;have N5:=J.next
 have fr: ∀ {v:AV} {nd:Nd.Node},yE j v nd->yE H5 v nd:=fun {v nd} y=>by
  have h3:yE C v nd:=y.stp U fun B a e=>by subst e;exact y.nblk hM (.inr (.inl ⟨_,_,rfl⟩)) a
  have h4:yE S v nd:=h3.stp V fun B a e=>by subst e;exact h3.nblk a4 (.inl ⟨_,_,_,_,rfl,fun _ _ e=>by rw[hd]at e;cases e⟩) a
  exact h4.stp J fun B a e=>by subst e;exact h4.nblk g4 (.inl ⟨_,_,_,_,rfl,fun _ _ e=>by rw[hd]at e;cases e⟩) a
 have a7:=c6.mono U fun B a e=>by subst e;exact yV.nsep c6 hM (fun _ _ e=>by cases e) a
 have a8:=a7.mono V fun B a e=>by subst e;exact yV.nsep a7 a4 (fun _ _ e=>by simp at e) a
 have b0:=a8.mono J fun B a e=>by subst e;exact yV.nsep a8 g4 (fun _ _ e=>by simp at e) a
 have T5:Stp (fun B=>B=At\/B=M\/Blk N B) H0 H5:=⟨J.ok,by omega,fun B a hS=>by
  have a1: ¬B=At:=fun e=>hS (.inl e)
  have a2: ¬B=M:=fun e=>hS (.inr (.inl e))
  rw[J.keep B (by omega) a1,V.keep B (by omega) a1,U.keep B (by omega) a2,st.keep B (by omega) (fun x=>by
   rcases x with x | x | x
   .exact a2 x
   .exact a1 x
   .exact hS (.inr (.inr x))),p1.keep B (by omega) (fun x=>x),u.prs.keep B a (fun x=>x)]⟩
 refine⟨H5,b3++W,a0, ?_,⟨J.ok,g5, ?_, ?_, ?_,t.cn,b0,fun kv L B a hb=> ?_, ?_⟩,T5,fun B a=> ?_⟩
 .have g9:Nat.ble j.next C.next=true:=by rw[q9];exact f1
  have c0:ld1 (.ptr T 0) H1=some (.ptr At 0):=by rw[qT a3.gC];rfl
  have c3:ld1 (.ptr T 3) H1=some g:=by rw[qT a3.gC];rfl
  have c1:ld1 (.ptr T 1) C=some (.int .u64 (z:Nat)):=by rw[qT j3];rfl
  have r3:ldN 3 (.ptr A3 0) S=some (.agg (qZ root)):=by rw[qY j5];rfl
  simp(maxSteps:=999999)(disch:=omega) only[f126,eZ,b1,c0,c3,a3.gg.row.lnSl,e2,f4,VN,j2,tld,g9,cond_true,c1,e4,r3,e5]
 .rw[J.keep _ (by omega) (fun e=>a9 e.symm),V.keep _ (by omega) (fun e=>a9 e.symm)];exact e9
 .exact xG.append (e8.frame fun kv _ nd y=>fr y) (hp.frame fun kv _ nd y=>fr y)
 .exact t.dks T5 fun B a=>by
   rcases a with e | e | e
   .exact .inl e
   .exact .inr (.inl e)
   .exact .inr (.inr (.inl e))
 .rcases List.mem_append.1 L with L | L
  .have hk:=g8 kv L;rcases c7 B hb with e | e
   .exact t.ds kv hk B a e
   .have:=d0 kv hk B a;omega
  .rcases c7 B hb with e | e
   .exact u.gx kv L B a e
   .obtain⟨d4,b7⟩:=u.pf.mem kv L;have:=b7.lt a;omega
 .have h1:=ZM gl q;have h2:=u.fl;simp only[zL];omega
 .rcases c7 B a with e | e
  .exact .inl e
  .exact .inr (by omega)
end Go.Eng.Sh
end
section
set_option maxRecDepth 20000
namespace Go.Bt
open Go.Nd (Str Kvs Ptr leafOf)
theorem WF.wr: ∀ {h:Nat} {t:Tr h},WF h none none t->WR h t
 | 0,_,w=>w
 | _+1,_,w=>⟨w.1,w.2.1,w.2.2.2⟩
theorem WX.wr: ∀ {h:Nat} {t:Tr h},WX h none none t->(match h,t with | 0,l=>(l:Kvs)≠[] | _+1,t=>t.1≠[])->jD h t<=500->WR h t
 | 0,_,w,hne,hz=>⟨w.1,hne,hz⟩
 | _+1,_,w,hne,hz=>⟨w.1,hne,hz⟩
end Go.Bt
namespace Go.Eng.Sh
open Go.Nd (Ptr sumL leafOf Kvs)
open Go.Bt
variable {E:Ev}{X:Nat->Prop}
def pZ:Ptr:=⟨((0:Nat):Int),((0:Nat):Int),((0:Nat):Int)⟩
def dsk (T:List Ptr):List Ptr:=T.filter fun p=>decide (p.at_≠1)
theorem zCN (a b:List Ptr):dsk (a++b)=dsk a++dsk b:=List.filter_append ..
theorem zPI {T:List Ptr}(h: ∀p∈T,∃j,p=pp j):dsk T=[]:=List.filter_eq_nil_iff.2 fun p hp=>by
 obtain⟨j,rfl⟩:=h p hp;simp[pp]
theorem zE3 (E:Ev){T i gl Fr R:List Ptr}(h:T.Perm (gl++R))(o:i.Perm (Fr++R))(q: ∀p∈Fr,∃j,p=pp j):(dsk i++(E.drop gl).dl).Perm (dsk T++E.dl):=by
 have m:(dsk T).Perm (dsk (gl++R)):=h.filter _;have f:(dsk i).Perm (dsk (Fr++R)):=o.filter _;rw[zCN]at m f;rw[zPI q,List.nil_append]at f;have s:(E.drop gl).dl=E.dl++dsk gl:=rfl;rw[s];rw[List.perm_iff_count]at m f⊢;intro a;have x1:=m a;have x2:=f a;simp only[List.count_append]at x1 x2⊢;omega
def cB (E:Ev)(q:PN)(root:Ptr)(kv:Kvs)(T:List Ptr):Prop:=(root=pZ/\kv=[]/\T=[])\/ ∃h nd,∃t:Bt.Tr h,∃S:List Ptr,Qf E q [] root=some nd/\yX (Qf E q []) h nd t S/\WR h t/\(root::S).Nodup/\con h t=kv/\T=root::S
theorem kT.here {α:Type}{Q:Ptr->Option Nd.Node}{R:Nd.Node->α->List Ptr->Prop}(hr: ∀nd t S,R nd t S-> ∀p∈S,∃nd,Q p=some nd): ∀ {i:List Ptr} {ts:List α} {S:List Ptr},kT Q R i ts S-> ∀p∈S,∃nd,Q p=some nd
 | [],[],_,h=>by subst h;simp
 | p::i,t::ts,_,⟨nd,S1,S2,a,b,c,e⟩=>fun x f=>by
  subst e;rcases List.mem_cons.1 f with rfl | f
  .exact⟨nd,a⟩
  .rcases List.mem_append.1 f with f | f
   .exact hr _ _ _ b x f
   .exact kT.here hr c x f
 | [],_::_,_,h=>h.elim
 | _::_,[],_,h=>h.elim
theorem yX.here {Q:Ptr->Option Nd.Node} : ∀ {h:Nat} {nd:Nd.Node} {t:Bt.Tr h} {S:List Ptr},yX Q h nd t S-> ∀p∈S,∃nd,Q p=some nd
 | 0,_,_,_,w=>by obtain⟨_,rfl⟩:=w;simp
 | h+1,_,_,_,w=>kT.here (fun _ _ _ hr=>yX.here hr) w.2.2.2
theorem zMW {q f:PN}{gl T Fr R:List Ptr}{m:Nat}(o: ∀s nd,y8 s q=some nd->s<=m)(K: ∀s nd,y8 s f=some nd->m<s)(v:T.Perm (Fr++R))(L:(gl++R).Nodup)(z: ∀p∈gl,∃nd,Qf E q [] p=some nd)(t: ∀p∈Fr,∃j,p=pp j/\m<j)(C:Fr.Nodup)(hR: ∀p∈R,∃nd,Qf E q [] p=some nd):
  T.Nodup/\ ∀p∈T,∀nd,Qf E q f p=some nd->Qf E (fQ q gl++f) [] p=some nd:=by
 have x: ∀s,pp s∈R->s<=m:=fun s hp=>by
  obtain⟨nd,h⟩:=hR _ hp;obtain⟨s',e,i | ⟨_,i⟩⟩ | ⟨i,_⟩:=xF h
  .simp[y8]at i
  .have:=QX e;subst this;exact o _ _ i
  .exact absurd rfl (i s)
 obtain⟨_,F,y⟩:=List.nodup_append.1 L;refine⟨v.nodup_iff.2 (List.nodup_append.2 ⟨C,F,fun a N b hb e=> ?_⟩),fun p hp nd h=> ?_⟩
 .obtain⟨j,rfl,O⟩:=t a N;subst e;have:=x j hb;omega
 .obtain⟨s,rfl,i | ⟨h0,i⟩⟩ | ⟨i,S⟩:=xF h
  .rw[zA9];simp only[y8];have U:=K _ _ i;rw[kN]
   cases V:y8 s (fQ q gl)with
   | none=>exact i
   | some n2=>
    obtain⟨n3,W⟩:=uH (List.mem_map.2 ⟨_,ZL (kL V),rfl⟩);have:=o _ _ W;simp only at this;omega
  .rw[zA9];simp only[y8];have U:=o _ _ i;have J:pp s∈R:=by
    rcases List.mem_append.1 (v.mem_iff.1 hp)with e | e
    .obtain⟨j,e,O⟩:=t _ e;have:=QX e;omega
    .exact e
   rw[kN,VY fun Y u e1 e=> ?_,i];obtain⟨a0,Z⟩:=z Y u;obtain⟨s',rfl,_⟩ | ⟨_,hd⟩:=xF Z
   .have:s=s':=by simpa[pp]using e
    subst this;exact y _ u _ J rfl
   .have:=(vJ hd).2;omega
  .rw[X2 i];exact S
theorem zDB {q f:PN}{gl:List Ptr}{a i:Nat}(m: ∀s nd,y8 s q=some nd->s<=a)(o: ∀s nd,y8 s f=some nd->a<s/\s<=i)(hl:a<=i): ∀s nd,y8 s (fQ q gl++f)=some nd->s<=i:=fun s nd h=>by
 rw[kN]at h
 cases j:y8 s (fQ q gl)with
 | none=>rw[j]at h;exact(o _ _ h).2
 | some n2=>
  obtain⟨t,p⟩:=uH (List.mem_map.2 ⟨_,ZL (kL j),rfl⟩);have:=m _ _ p;simp only at this;omega
theorem kT.perm_one {α:Type}{Q:Ptr->Option Nd.Node}{R:Nd.Node->α->List Ptr->Prop}{i:List Ptr}{t:α}{S:List Ptr}(h:kT Q R i [t] S): ∃p nd f,i=[p]/\Q p=some nd/\R nd t f/\S=p::f:=by
 match i,h with
 | [p],⟨nd,f,S2,a,b,c,e⟩=>exact⟨p,nd,f,rfl,a,b,by simp only[kT]at c;rw[e,c,List.append_nil]⟩
 | _::_::_,⟨_,_,_,_,_,c,_⟩=>exact c.elim
 | [],h=>exact h.elim
theorem CutsN.one_inv {nd:Nd.Node}{a:List Nd.Node}{f:List Str}(h:CutsN nd a f)(i:Nd.size nd<=500):a=[nd]/\f=[]:=by
 cases h with
 | one _=>exact⟨rfl,rfl⟩
 | more h1=>omega
theorem CutsN.more_inv {nd:Nd.Node}{f:List Nd.Node}{a:List Str}(h:CutsN nd f a)(i:500<Nd.size nd):a≠[]:=by
 cases h with
 | one h1=>omega
 | more h1=>simp
end Go.Eng.Sh
end
section
set_option maxRecDepth 20000
namespace Go.Eng.Sh
open Go.Nd (Ptr sumL leafOf Kvs)
open Go.Bt
variable {E:Ev}
def zLn (E:Ev)(H0 H':AH)(At M:Nat)(d c h:AV)(low j:Nat)(kv:Kvs)(T:List Ptr):Prop:= ∃gl root es q a f i,TI (E.drop gl) H' At M d c root es q a f/\Stp (fun B=>B=At\/B=M\/Blk h B) H0 H'/\(∀B,Blk f B->Blk h B\/H0.next<=B)/\(∀s nd,y8 s q=some nd->s<=a)/\q.length<=a/\low<=a/\a<=j/\cB E q root kv i/\(dsk i++(E.drop gl).dl).Perm (dsk T++E.dl)/\gl.length<=100
theorem zLn.mono {H0 H':AH}{At M:Nat}{d c j:AV}{low a i f:Nat}{kv:Kvs}{T:List Ptr}(h:zLn E H0 H' At M d c j low i kv T)(hl:a<=low)(C:i<=f):zLn E H0 H' At M d c j a f kv T:=by
 obtain⟨gl,root,es,q,m,o,s,t,u,v,x,y,F,J,h8,z,p⟩:=h;exact⟨gl,root,es,q,m,o,s,t,u,v,x,y,by omega,by omega,h8,z,p⟩
theorem zMj {q f:PN}{p:Ptr}{nd:Nd.Node}(h:Qf E q f p=some nd):0<=p.sum:=by
 obtain⟨s,rfl,_⟩ | ⟨_,i⟩:=xF h
 .simp[pp]
 .obtain⟨a,birth,kind,body,rfl,_⟩:=Ev.K_iff.1 i;simp[uC]
theorem zIk (D:Dyn)(n:Nat){H0 H:AH}{At o F M:Nat}{d c m:AV}{u:Ptr}{es:List (AV×AV)}{q:PN}{v:List (AV×AV)}{f:PN}{g:AV}{gl T:List Ptr}{i a:Nat}(N:TI E H0 At M d c u es q i m)(t: ∀s nd,y8 s q=some nd->s<=i)
  (j:Ch (Blk m) H0 H At o F v f g gl i a) (x: ∀p∈gl,∃nd,Qf E q [] p=some nd) (hl:a<=900000000) (O:gl.length<n) (y:q.length<=i) (z:E.dl.length+gl.length<=900000000) (C:T.Perm gl) (J:gl.length<=100):
  ∃H',f126 D n [.ptr o 0, .agg [.int .i64 ((0:Nat):Int), .int .i64 ((0:Nat):Int), .int .u64 ((0:Nat):Int)]] H=some (.tuple [],H')/\zLn E H0 H' At M d c m a a [] T:=by
 obtain⟨H',es',K,e,L,st,S⟩:=zIl D n (root:=pZ) N t j (fun p hp=>(x p hp).elim fun nd h=>zMj h) hl O y z;refine⟨H',e,gl,_,_,_,a,K,[],L,st,S,zDB t j.fs j.le, ?_,Nat.le_refl _,Nat.le_refl _, .inl ⟨rfl,rfl,rfl⟩,zE3 E (R:=[]) (Fr:=[]) (by simpa using C) (by simp) (by simp),J⟩;have U:=ZM gl q;have V:=j.fl;simp only[zL];omega
theorem ZJ (D:Dyn)(n:Nat){H0 H:AH}{At y F M h:Nat}{rp:Ptr}{d c o:AV}{C:Ptr}{es:List (AV×AV)}{q:PN}{J:List (AV×AV)}{f:PN}{g:AV}{gl Fr R T:List Ptr}{a i:Nat}{nd:Nd.Node}{t:Bt.Tr h}{S:List Ptr}(Z:TI E H0 At M d c C es q a o)(u: ∀s nd,y8 s q=some nd->s<=a)
  (m:Ch (Blk o) H0 H At y F J f g gl a i) (v: ∀p∈gl,∃nd,Qf E q [] p=some nd) (hl:i<=900000000) (hn:gl.length<n) (K:q.length<=a) (L:E.dl.length+gl.length<=900000000)
  (hs:Qf E q f rp=some nd) (rn:yX (Qf E q f) h nd t S) (wr:WR h t) (z:(rp::S).Perm (Fr++R)) (hG:(gl++R).Nodup) (x: ∀p∈Fr,∃j,p=pp j/\a<j) (N:Fr.Nodup) (hR: ∀p∈R,∃nd,Qf E q [] p=some nd) (O:T.Perm (gl++R)) (U:gl.length<=100):
  ∃H',f126 D n [.ptr y 0, .agg (qZ rp)] H=some (.tuple [],H')/\zLn E H0 H' At M d c o i i (con h t) T:=by
 obtain⟨H',es',V,e,W,st,db⟩:=zIl D n (root:=rp) Z u m (fun p hp=>(v p hp).elim fun nd h=>zMj h) hl hn K L;obtain⟨Y,mono⟩:=zMW u (fun s nd h=>(m.fs s nd h).1) z hG v x N hR;refine⟨H',e,gl,_,_,_,i,V,_,W,st,db,zDB u m.fs m.le, ?_,Nat.le_refl _,Nat.le_refl _, .inr ⟨h,nd,t,S,mono rp (zF ..) nd hs,rn.mono (fun p hp nd hh=>mono p (zE _ hp) nd hh),wr,Y,rfl,rfl⟩,zE3 E O z fun p hp=>(x p hp).elim fun j h=>⟨j,h.1⟩,U⟩;have h1:=ZM gl q;have h2:=m.fl;simp only[zL];omega
theorem zKM (D:Dyn)(n:Nat)(hn:200000000<=n){H0 H:AH}{At Ac F M h:Nat}{d c dr u:AV}{e8:Ptr}{es:List (AV×AV)}{q:PN}{f5:List (AV×AV)}{f:PN}{g:AV}{gl Fr R T:List Ptr}{K m:Nat}{nd:Nd.Node}{t:Bt.Tr h}{S:List Ptr}(ti:TI E H0 At M d c e8 es q K dr)(U: ∀s nd,y8 s q=some nd->s<=K)
  (v:Ch (Blk dr) H0 H At Ac F f5 f g gl K m) (b0: ∀p∈gl,∃nd,Qf E q [] p=some nd) (hl:m<=700000000) (b2:gl.length<n) (b3:q.length<=K) (hu:kC (Blk dr) H g u nd)
  (C:yX (Qf E q f) h nd t S) (wx:WX h none none t) (hS:S.Perm (Fr++R)) (hG:(gl++R).Nodup) (b4: ∀p∈Fr,∃j,p=pp j/\K<j/\j<=m) (c0:Fr.Nodup) (hR: ∀p∈R,∃nd,Qf E q [] p=some nd) (b5:E.dl.length+gl.length<=900000000) (a5:T.Perm (gl++R)) (b6:gl.length<=100):
  ∃H',f131 D n [.ptr Ac 0,u] H=some (.int .i64 ((0:Nat):Int),H')/\zLn E H0 H' At M d c dr m (m+7) (con h t) T:=by
 obtain⟨ks,d4,ps,rfl,j1,j2,j3⟩:=id hu.1;obtain⟨H1,V,b1,W,Y,m1,n1⟩:=box v.prs.ok (.cells [.bool nd.leaf,ks,d4,ps] 119 1 false);have O:=v.step W;have f6:=hu.prs W;have b7: ∀p∈Fr,∃j,p=pp j/\K<j:=fun p hp=>by obtain⟨j,a,b,_⟩:=b4 p hp;exact⟨j,a,b⟩
 have e0:ld1 (.ptr V 0) H1=some (.bool nd.leaf):=by rw[qT Y];rfl
 have e1:ld1 (.ptr V 1) H1=some ks:=by rw[qT Y];rfl
 have e3:ld1 (.ptr V 3) H1=some ps:=by rw[qT Y];rfl
 by_cases z:nd.keys=[]
 ·
  have a6:((nd.keys.length:Nat):Int)=((0:Nat):Int):=by rw[z];rfl
  cases h with
  | zero=>
   obtain⟨d5,rfl⟩:=C;have f7:R=[]:=by
    have:=hS.length_eq;simp only[qD,zL]at this;exact zM (by omega)
   rw[f7,List.append_nil]at a5;have ht:t=([]:Kvs):=List.map_eq_nil_iff.1 (show List.map Prod.fst (t:Kvs)=[]from(show(leafOf t).keys=[]from d5▸z));subst ht;obtain⟨H2,Z,L⟩:=zIk D n ti U O b0 (by omega) b2 b3 b5 a5 b6;refine⟨H2, ?_,L.mono (Nat.le_refl _) (by omega)⟩;have c3:ld1 (.ptr V 0) H1=some (.bool true):=by rw[e0,d5];rfl
   have bs:wY [(0,1),(1,1),(2,1)] [.int .i64 ((0:Nat):Int), .int .i64 ((0:Nat):Int), .int .u64 ((0:Nat):Int)] []=some (.agg [.int .i64 ((0:Nat):Int), .int .i64 ((0:Nat):Int), .int .u64 ((0:Nat):Int)]):=rfl;simp(maxSteps:=999999)(disch:=omega) only[f131,eZ,b1,e1,j1.row.lnSl,a6,c3,bs,Z,Y5]
  | succ h=>
   obtain⟨r1,r2,r3,r4⟩:=id C;obtain⟨w1,w2⟩:=id wx;rw[z]at r2;have a8:=w1.2.2.len;rw[<-r2]at a8;obtain⟨t1,c4⟩: ∃t1,t.2=[t1]:=by
    match ht:t.2,a8 with
    | [a],_=>exact⟨a,rfl⟩
   have d6:=w1.2.2;rw[<-r2,c4]at d6;rw[c4]at r4;obtain⟨k0,h8,S1,c5,q1,f8,f9⟩:=kT.perm_one r4;subst f9;obtain⟨H2,Z,L⟩:=ZJ D n ti U O b0 (by omega) b2 b3 b5 q1 f8 (WF.wr d6) hS hG b7 c0 hR a5 b6;have c3:ld1 (.ptr V 0) H1=some (.bool false):=by rw[e0,r1]
   have b8:con (h+1) t=con h t1:=by simp only[con,c4,zW,List.flatMap_nil,List.append_nil]
   rw[b8];refine⟨H2, ?_,L.mono (Nat.le_refl _) (by omega)⟩;obtain⟨qk,ik,a7⟩:=u4.at (l:=nd.kids) (j3.mono W (fun _ _ x=>x)).row (i:=0) (by rw[c5];simp);have c6:nd.kids[0]'(by rw[c5];simp)=k0:=by simp[c5]
   rw[c6]at a7;simp(maxSteps:=999999)(disch:=omega) only[f131,eZ,b1,e1,j1.row.lnSl,a6,c3,e3,ik,a7,Z,Y5]
 ·
  have a6: ¬((nd.keys.length:Nat):Int)=((0:Nat):Int):=by
   have:nd.keys.length≠0:=fun e=>z (zM e)
   omega
  have g0:=C.shaped wx.gen (fun _=>z) (yX.kidOk C);have hz:Nd.size nd<=785:=by rw[C.size];exact wx.sz
  obtain⟨pv,sv,H2,vs,o,y,Z,p2,a9,oP,f1,oS,bP,bS,g2⟩:=zBy D n hn W.ok f6.1 g0 (by omega);obtain⟨ts,c1,c2⟩:=BY a9 C wx;have h9:o.length<=6:=by
   by_cases hb:Nd.size nd<=500
   .rw[(a9.one_inv hb).1];simp
   .have:=(BX c1 wx (.inr (by rw[<-C.size];omega))).2.2.1;rw[c2.len];exact this
  have g3:=O.step p2;obtain⟨kv,H3,d7,c7,a3,o3,f3⟩:=zBU D n hn g3 oP f1 (fun l hl B hB=>by
   rcases g2 l hl B hB with e | e
   .exact hu.2 B e
   .exact⟨fun c8=>by have:=Rw.blk O.gg.row c8;omega,fun hx=>by have:=O.xo B hx;have:=O.prs.next;omega⟩) (by omega) (by omega)
  have N1:=W.next;have N2:=p2.next;have N3:=a3.1.next
  have e9: ∀j,y8 (m+1+j) f=none:=fun j=>by
   cases z:y8 (m+1+j) f with
   | none=>rfl
   | some n2=>have:=v.fs _ _ z;omega
  have f2: ∀s J,y8 s (kS m o)=some J->K<s:=fun s J hs=>by have:=WZ hs;have:=v.le;omega
  have more: ∀p nd,Qf E q f p=some nd->Qf E q (f++kS m o) p=some nd:=fun p nd hp=>zAa U f2 hp
  have d8: ∀j J,o[j]? =some J->Qf E q (f++kS m o) (pp (m+1+j))=some J:=fun j J hj=>by rw[zA9,kN,e9];simp only[QC hj]
  have c9:u4 H3 kv (pps m o.length):=by
   have:=o3.row;rw[u4,Q4];exact this
  have d0:=c9.lnSl;rw[Q4]at d0;have d9: ¬(((0:Nat):Int)≠((0:Nat):Int)):=by omega
  by_cases hb:Nd.size nd<=500
  .obtain⟨rfl,rfl⟩:=a9.one_inv hb;have b9:(([nd].length:Nat):Int)=((1:Nat):Int):=rfl;have wr:WR h t:=wx.wr (by
    cases h with
    | zero=>obtain⟨rfl,_⟩:=C;intro e;exact z (by rw[show t=([]:Kvs)from e];rfl)
    | succ h=>exact(show t.1≠[]from C.2.1▸z)) (by rw[<-C.size];exact hb)
   have d1: ∀p∈pp (m+1)::Fr,∃j,p=pp j/\K<j:=fun p hp=>by
    rcases List.mem_cons.1 hp with rfl | hp
    .exact⟨_,rfl,by have:=v.le;omega⟩
    .exact b7 p hp
   have d2:(pp (m+1)::Fr).Nodup:=List.nodup_cons.2 ⟨fun hp=>by
    obtain⟨j,e,_,hj⟩:=b4 _ hp;have:=QX e;omega,c0⟩
   obtain⟨H4,e4,L⟩:=ZJ D n (rp:=pp (m+1)) (t:=t) (S:=S) ti U c7 b0 (by simp;omega) b2 b3 b5 (d8 0 nd rfl) (C.mono fun p _ nd hp=>more p nd hp) wr (List.Perm.cons _ hS) hG d1 d2 hR a5 b6;refine⟨H4, ?_,L.mono (by simp) (by simp)⟩;obtain⟨qk,ik,a7⟩:=u4.at c9 (i:=0) (by simp[pps]);have c6:(pps m [nd].length)[0]'(by simp[pps])=pp (m+1):=by simp[pps]
   rw[c6]at a7;simp(maxSteps:=999999)(disch:=omega) only[f131,eZ,b1,e1,j1.row.lnSl,a6,vU Y rfl,Z,qV,nth,d9,d7,d0,b9,ik,a7,e4,WB]
  .have e6:=a9.more_inv (by omega);obtain⟨w1,w2,w3,_⟩:=BX c1 wx (.inr (by rw[<-C.size];omega));have a8:=w1.2.2.len;simp only at a8;have h6:y.length≠0:=fun e=>e6 (zM e)
   have i0:=c2.len;have b9: ¬((o.length:Nat):Int)=((1:Nat):Int):=by omega
   have g4:zEv (Qf E q (f++kS m o)) h o ts S:=by
    have mono: ∀ {a0:List Nd.Node} {N:List (Bt.Tr h)} {S':List Ptr},zEv (Qf E q f) h a0 N S'->zEv (Qf E q (f++kS m o)) h a0 N S':=by
     intro a0
     induction a0 with
     | nil=>intro N S' hp;cases N with
      | nil=>exact hp
      | cons=>exact hp.elim
     | cons a a0 ih=>intro N S' hp;cases N with
      | nil=>exact hp.elim
      | cons b N=>
       obtain⟨S1,S2,a1,a2,a3⟩:=hp;exact⟨S1,S2,a1.mono fun p _ nd hp=>more p nd hp,ih a2,a3⟩
    exact mono c2
   obtain⟨S2,r2,g5⟩:=g4.kids m d8;have i1:H3.h.get V=some (.cells [.bool nd.leaf,ks,d4,ps] 119 1 false):=by
    rw[a3.1.keep _ (by omega) (fun hc=>by
     rcases hc with e | e | e
     .have:=v.ltC;omega
     .have:=v.ltF;omega
     .have:=Rw.blk v.gg.row e;omega)]
    exact Prs.get p2 W.ok Y
   have e7:Own 1 9 H3 sv y.length (y.map Go.Eng.S):=oS.mono a3.1 (fun B hB hc=>by
    have:=bS B hB;rcases hc with e | e | e
    .have:=v.ltC;omega
    .have:=v.ltF;omega
    .have:=Rw.blk v.gg.row e;omega)
   have g6:yE H3 (.agg [.bool false,sv, .nilSlice,kv]) ⟨false,y,[],pps m o.length⟩:=⟨sv, .nilSlice,kv,rfl, .inl e7, .inl (Own.nil ..), .inl (by
    simp only[Q4];exact o3)⟩
   have g7:kC (Blk dr) H3 g (.agg [.bool false,sv, .nilSlice,kv]) ⟨false,y,[],pps m o.length⟩:=⟨g6,fun B hB=>by
    have i2:H.next<=B:=by
     rcases jK.1 hB with e | e | e
     .have:=bS B e;omega
     .exact(Blk.nil.1 e).elim
     .have:=f3 B e;omega
    exact⟨fun c8=>by have:=Rw.blk v.gg.row c8;omega,fun hx=>by have:=v.xo B hx;have:=v.prs.next;omega⟩⟩
   obtain⟨H4,e4,g8,a4⟩:=zIZ D n c7 g7 (by omega);have f4:y8 (m+o.length+1) (f++kS m o)=none:=by
    cases z:y8 (m+o.length+1) (f++kS m o)with
    | none=>rfl
    | some n2=>have:=c7.fs _ _ z;omega
   have d3: ∀p J,Qf E q (f++kS m o) p=some J->Qf E q (f++kS m o++[(m+o.length+1,⟨false,y,[],pps m o.length⟩)]) p=some J:=fun p J hp=>zAa U (fun s nd hs=>by
    simp only[y8]at hs;split at hs
    .have:=v.le;omega
    .cases hs) hp
   have g9:Qf E q (f++kS m o++[(m+o.length+1,⟨false,y,[],pps m o.length⟩)]) (pp (m+o.length+1))=some ⟨false,y,[],pps m o.length⟩:=by
    rw[zA9,kN,f4];simp[y8]
   have h0:yX (Qf E q (f++kS m o++[(m+o.length+1,⟨false,y,[],pps m o.length⟩)])) (h+1) ⟨false,y,[],pps m o.length⟩ (y,ts) S2:=⟨rfl,rfl,rfl,r2.mono (fun p _ nd hp=>d3 p nd hp) (fun nd t S1 _ hr=>hr.mono fun p _ nd hp=>d3 p nd hp)⟩;have h7:=ZZ (ks:=y) (fun k z=>(w1.1 k z).1);have h5:WR (h+1) (y,ts):=⟨w1,e6,by simp only[jL];omega⟩;have d1: ∀p∈pp (m+o.length+1)::(pps m o.length++Fr),∃j,p=pp j/\K<j:=fun p hp=>by
    have:=v.le;rcases List.mem_cons.1 hp with rfl | hp
    .exact⟨_,rfl,by omega⟩
    .rcases List.mem_append.1 hp with hp | hp
     .obtain⟨j,rfl,h1,h2⟩:=cK hp;exact⟨_,rfl,by omega⟩
     .exact b7 p hp
   have d2:(pp (m+o.length+1)::(pps m o.length++Fr)).Nodup:=by
    refine List.nodup_cons.2 ⟨fun hp=> ?_,List.nodup_append.2 ⟨JU _ _,c0,fun a ha b hb e=> ?_⟩⟩
    .rcases List.mem_append.1 hp with hp | hp
     .obtain⟨j,e,h1,h2⟩:=cK hp;have:=QX e;omega
     .obtain⟨j,e,h1,h2⟩:=b4 _ hp;have:=QX e;omega
    .obtain⟨j,rfl,h1,h2⟩:=cK ha;obtain⟨j',rfl,h3,h4⟩:=b4 _ hb;have:=QX e;omega
   have hT:(pp (m+o.length+1)::S2).Perm ((pp (m+o.length+1)::(pps m o.length++Fr))++R):=by
    rw[List.cons_append,List.append_assoc];exact List.Perm.cons _ (g5.trans (List.Perm.append_left _ hS))
   obtain⟨H5,e5,L⟩:=ZJ D n (rp:=pp (m+o.length+1)) ti U g8 b0 (by omega) b2 b3 b5 g9 h0 h5 hT hG d1 d2 hR a5 b6;have b8:con (h+1) (y,ts)=con h t:=w2;rw[b8]at L;refine⟨H5, ?_,L.mono (by omega) (by omega)⟩;simp(maxSteps:=999999)(disch:=omega) only[f131,eZ,b1,e1,j1.row.lnSl,a6,vU Y rfl,Z,qV,nth,d9,d7,d0,b9,zO4 e7.row.isCell c9.isCell,e4,e5,WB]
end Go.Eng.Sh
end
section
set_option maxRecDepth 20000
namespace Go.Bt
open Go.Nd (Str Kvs leafOf)
theorem WR.gen: ∀ {h:Nat} {t:Tr h},WR h t->Gen h none none t
 | 0,_,w=>w.1
 | _+1,_,w=>w.1
theorem WR.sz: ∀ {h:Nat} {t:Tr h},WR h t->jD h t<=500
 | 0,_,w=>w.2.2
 | _+1,_,w=>w.2.2
theorem zDP {h:Nat} : ∀ {ts:List (Tr h)},(∀t∈ts,2 ^ h<=(con h t).length)->ts.length*2 ^ h<=(ts.flatMap (con h)).length
 | [],_=>by simp
 | t::ts,ih=>by
  have f:=ih t (zF ..);have i:=zDP (ts:=ts) fun t a=>ih t (zE _ a)
  simp only[zO,zW,zL,Nat.add_mul,Nat.one_mul];omega
theorem zHi {h:Nat}{lo hi:Bd}{t:List Str×List (Tr h)}(f: ∀ {lo hi:Bd} {t:Tr h},WF h lo hi t->2 ^ h<=(con h t).length)(w:Inn (WF h) lo hi t)(a:t.1≠[]):2 ^ (h+1)<=(t.2.flatMap (con h)).length:=by
 have hl:=w.2.2.len;have m:t.1.length≠0:=fun e=>a (zM e)
 have o:=zDP (ts:=t.2) fun x j=>by
  obtain⟨i,hi,rfl⟩:=qQ j;exact f (KB.at w.2.2 (zH hi))
 have p:2*2 ^ h<=t.2.length*2 ^ h:=qF _ (by omega);rw[Nat.pow_succ];omega
theorem WF.many: ∀ {h:Nat} {lo hi:Bd} {t:Tr h},WF h lo hi t->2 ^ h<=(con h t).length
 | 0,_,_,t,w=>by
  have:List.length (t:Kvs)≠0:=fun e=>w.2.1 (zM e)
  show 1<=List.length (t:Kvs);omega
 | _+1,_,_,_,w=>zHi WF.many w.1 w.2.1
theorem WR.many: ∀ {h:Nat} {t:Tr h},WR h t->2 ^ h<=(con h t).length
 | 0,t,w=>by
  have:List.length (t:Kvs)≠0:=fun e=>w.2.1 (zM e)
  show 1<=List.length (t:Kvs);omega
 | _+1,_,w=>zHi WF.many w.1 w.2.1
theorem WR.low {h:Nat}{t:Tr h}(w:WR h t)(f:(con h t).length<=1000000000):h<=29:=by
 have:=w.many;rcases Nat.lt_or_ge h 30 with a | a
 .omega
 .have i:2 ^ 30<=2 ^ h:=Nat.pow_le_pow_right (by decide) a;have j:(2:Nat) ^ 30=1073741824:=by decide
  omega
end Go.Bt
namespace Go.Eng.Sh
open Go.Nd (Ptr sumL leafOf Kvs)
open Go.Bt
variable {E:Ev}
theorem cbx:(∀A o,y6 (.ptr A o)=[.ptr A o])/\y6 .nilPtr=[.nilPtr]/\y6 .nilFunc=[.nilFunc]/\(∀k z,y6 (.int k z)=[.int k z])/\(∀l,y6 (S l)=[S l])/\(∀ed K V,y6 (edF ed K V)=[edF ed K V])/\(∀A o,aveq (.ptr A o) (.ptr A o)=true):=
 ⟨fun _ _=>rfl,rfl,rfl,fun _ _=>rfl,fun _=>rfl,fun ed _ _=>by cases ed<;>rfl,fun _ _=>by simp[aveq]⟩
theorem zO2 {H H':AH}{At a F f:Nat}(s:Prs H H')(i:H'.h.get a=some (.cells [.ptr At 0, .int .u64 (f:Nat), .map F, .nilSlice] 242 1 false))(j:H'.h.get F=some (.map [10] []))(m:H.next<=a)(o:H.next<=F)(ne:a≠F){X:Nat->Prop}(hX: ∀B,X B->B<H.next):
  Ch X H H' At a F [] [] .nilSlice [] f f:=
 ⟨s,i,j,trivial,Own.nil ..,fun B p=>(Blk.nil.1 p).elim,fun _ h=>by simp at h,m,o,ne,fun _ _ h=>by simp[y8]at h,Nat.le_refl _,by simp,by simp,by simp,fun _ h=>by simp at h,hX⟩
theorem zBA (M n:Nat)(hM:300000000<=M)(hn:300000000<=n){H:AH}{At M0 K V a:Nat}{d c dr:AV}{root:Ptr}{es:List (AV×AV)}{q:PN}{kv:Kvs}{T:List Ptr}{ed:Ed}(j:TI E H At M0 d c root es q a dr)(hq: ∀s nd,y8 s q=some nd->s<=a)(d7:q.length<=a)(hl:a<=500000000)
  (hr:cB E q root kv T) (o1:E.dl.length<=800000000) (c3:kv.length<=1000000000) (ho:ed.ok) (hb:edB H ed K V):
  ∃(e:Nat) (H':AH),f82 (dy (M+2)) n [.ptr At 0,S ed.key,edF ed K V] H=some (.int .i64 (e:Nat),H')/\
   match ed.run kv with
   | none=>e=5/\Prs H H'
   | some kv'=>e=0/\zLn E H H' At M0 d c dr a (a+200) kv' T:=by
 obtain⟨H1,z,b1,p1,g1,m1,n1⟩:=box j.ok (.cells [.ptr At 0] 31 1 false);obtain⟨H2,B4,b2,U,g2,m2,n2⟩:=box p1.ok (.cells [S ed.key] 9 1 false);obtain⟨H3,B3,b3,C,g3,m3,n3⟩:=box U.ok (.cells [edF ed K V] 162 1 false);obtain⟨H4,F,b4,p4,g4,m4,n4⟩:=box C.ok (.map [10] []);obtain⟨H5,J,b5,L,g5,m5,n5⟩:=box p4.ok (.cells [.ptr At 0, .int .u64 (a:Nat), .map F, .nilSlice] 242 1 false);obtain⟨H6,B6,b6,p6,g6,m6,n6⟩:=box L.ok (.cells [.nilPtr] 240 1 false);obtain⟨i,e7,x7,m⟩:=Box.st (⟨_,g6⟩:Box H6 B6 .nilPtr) p6.ok (x:= .ptr J 0) rfl;have i4:=p1.trans U;have d8:=i4.trans C;have d9:=(d8.trans p4).trans L;have i5:=d9.trans p6;have Y:Prs H i:=i5.fresh m (fun B f=>by have:=d9.next;omega)
 have N1:=p1.next;have N2:=U.next;have N3:=C.next;have N4:=p4.next;have N5:=L.next;have N6:=p6.next;have N7:=m.next
 have a5: ∀ {A:Nat} {o:AObj},H5.h.get A=some o->i.h.get A=some o:=fun {A o} hg=>by
  have:=L.ok.lt hg;rw[m.keep _ (by omega) (by omega)];exact Prs.get p6 L.ok hg
 have i6:=a5 g5;have i7:=a5 (Prs.get L p4.ok g4);have ch:Ch (Blk dr) H i At J F [] [] .nilSlice [] a a:=zO2 Y i6 i7 (by omega) (by omega) (by omega) (fun B f=>j.dg.lt f);have c4:=j.prs Y;have i8:=j.prs d8;have k2:Box i z (.ptr At 0):=⟨_,a5 (Prs.get (p4.trans L) C.ok (Prs.get C U.ok (Prs.get U p1.ok g1)))⟩;have k3:Box i B3 (edF ed K V):=⟨_,a5 (Prs.get (p4.trans L) C.ok g3)⟩;have k4:Box i B4 (S ed.key):=⟨_,a5 (Prs.get (p4.trans L) C.ok (Prs.get C U.ok g2))⟩;have l2:ld1 (.ptr z 0) H3=some (.ptr At 0):=by rw[qT (Prs.get C U.ok (Prs.get U p1.ok g1))];rfl
 have l6:ld1 (.ptr At 6) H3=some (.int .u64 (a:Nat)):=by rw[qT i8.gT];rfl
 have a6:ld1 (.ptr At 2) i=some (.int .i64 root.at_):=by rw[qT c4.gT];rfl
 have bs:wY [(0,1),(1,1),(2,1),(3,1)] [.nilPtr, .int .u64 ((0:Nat):Int), .nilMap, .nilSlice] [(0, .ptr At 0),(1, .int .u64 (a:Nat)),(2, .map F)]=some (.agg [.ptr At 0, .int .u64 (a:Nat), .map F, .nilSlice]):=rfl;have e0:wY [(0,1),(1,1),(2,1),(3,1)] [.bool false, .nilSlice, .nilSlice, .nilSlice] [(0, .bool true)]=some (.agg [.bool true, .nilSlice, .nilSlice, .nilSlice]):=rfl;have e1: ¬(((0:Nat):Int)≠((0:Nat):Int)):=by omega
 have e2:(((5:Nat):Int)≠((0:Nat):Int)):=by omega
 rcases hr with⟨rfl,rfl,rfl⟩ | ⟨h,nd,t,S0,hs,rn,wr,nd0,rfl,rfl⟩
 ·
  have f7:pZ.at_=((0:Nat):Int):=rfl;rw[f7]at a6;have wl:yE i (.agg [.bool true, .nilSlice, .nilSlice, .nilSlice]) (leafOf []):=⟨.nilSlice, .nilSlice, .nilSlice,rfl, .inl (Own.nil ..), .inl (Own.nil ..), .inl (Own.nil ..)⟩;have e3:Lf none none ([]:Kvs):=⟨trivial,by simp⟩;obtain⟨u,H8,_,e8,p8,w8⟩:=zIg (M+1) n (by omega) Y.ok wl e3 (by decide) ho (hb.prs j.ok Y);obtain⟨lu,rfl,a7,c5⟩:=w8.1.cells;obtain⟨H9,B8,b9,p9,g9,m9,n9⟩:=box p8.ok (.cells [.bool false, .nilSlice, .nilSlice, .nilSlice] 119 1 false);obtain⟨Z,i9,c6,c7,j0⟩:=y9 p9.ok g9 (l':=lu) a7 c5;have d4:stN 4 (.ptr B8 0) (.agg lu) H9=some (qX,Z):=i9;have N8:=p8.next;have N9:=p9.next;have j1:=c7.next
  have a8:Prs i Z:=(p8.trans p9).fresh c7 (fun B f=>by omega);have f9:=ch.step a8
  cases y:ed.run []with
  | none=>
   have c8:edL ed []=(nd0,5):=by simp only[edL,y]
   rw[c8]at e8;refine⟨5,Z, ?_,rfl,Y.trans a8⟩;simp(maxSteps:=999999)(disch:=omega) only[f82,eZ,b1,b2,b3,cbx,l2,l6,mkM,b4,bs,b5,b6,e7,k2.ld,a6,k3.ld,e0,e8,qV,nth,b9,d4,e2,ne_eq,not_false_eq_true]
  | some kv'=>
   have c8:edL ed []=(leafOf kv',0):=by simp only[edL,y]
   rw[c8]at e8 w8;obtain⟨j2,j3⟩:=Ed.leaf (lo:=none) (hi:=none) e3 trivial trivial ho y;have c9:kv'≠[]:=by
    cases ed with
    | put k v=>simp only[Ed.run,zB]at y;subst y;simp[Nd.putP]
    | del k=>simp[Ed.run,Nd.lookP]at y
   have g0:kC (Blk dr) Z .nilSlice (.agg lu) (leafOf kv'):=⟨(w8.1.prs p9).stp c7 (fun B f e=>by
    have:=w8.1.lt f;omega),fun B f=>⟨fun hg=>(Blk.nil.1 hg).elim,fun hx=>by have:=w8.2 B f;have:=j.dg.lt hx;omega⟩⟩
   obtain⟨a9,c0,g7,j4⟩:=zIZ (dy (M+2)) n f9 g0 (by omega);have hQ:Qf E q ([]++[(a+1,leafOf kv')]) (pp (a+1))=some (leafOf kv'):=by rw[zA9];simp[y8]
   obtain⟨O,j5,dn⟩:=ZJ (dy (M+2)) n (rp:=pp (a+1)) (h:=0) (t:=kv') (S:=[]) (Fr:=[pp (a+1)]) (R:=[]) (T:=[]) j hq g7 (by simp) (by omega) (by simp;omega) d7 (by simp;omega) hQ ⟨rfl,rfl⟩ ⟨j2,c9,by simp only[gV]at j3;omega⟩ (by simp) (by simp) (by
    intro p hp;simp only[List.mem_singleton]at hp;subst hp;exact⟨_,rfl,by omega⟩) (by simp) (by simp) (by simp) (by simp)
   refine⟨0,O, ?_,rfl,dn.mono (by omega) (by omega)⟩;have k6:ld1 (.ptr B6 0) Z=some (.ptr J 0):=(x7.mono m.ok a8 (fun x=>x)).ld;have j6:ld1 (.ptr B6 0) a9=some (.ptr J 0):=by
    refine((x7.mono m.ok a8 (fun x=>x)).mono a8.ok j4.1 (fun hc=> ?_)).ld;rcases hc with e | e | e
    .omega
    .omega
    .exact(Blk.nil.1 e).elim
   simp(maxSteps:=999999)(disch:=omega) only[f82,eZ,b1,b2,b3,cbx,l2,l6,mkM,b4,bs,b5,b6,e7,k2.ld,a6,k3.ld,e0,e8,qV,nth,b9,d4,e1,k6,vU c6 a7,c0,j8 j6 (cbx.2.2.2.2.2.2 _ _),j5]
 ·
  have e4: ¬root.at_=((0:Nat):Int):=by have:=zOk hs;omega
  have hh:=wr.low c3;obtain⟨H8,N,b8,p8,g8,m8,n8⟩:=box Y.ok (.cells [.int .i64 ((0:Nat):Int)] 3 1 false);obtain⟨H9,e9,x9,s9⟩:=Box.st (⟨_,g8⟩:Box H8 N (.int .i64 ((0:Nat):Int))) p8.ok (x:= .int .i64 ((0:Nat):Int)) rfl;obtain⟨Z,W,e5,b0,c6,o2,j0⟩:=box s9.ok (.cells [.nilFunc] 121 1 false);obtain⟨a9,c0,e6,a3⟩:=Box.st (⟨_,c6⟩:Box Z W .nilFunc) b0.ok (x:=zFb N z B3 B4 W B6) rfl;obtain⟨O,B8,f1,b7,j7,o3,j9⟩:=box a3.ok (.cells [.bool false, .nilSlice, .nilSlice, .nilSlice] 119 1 false);have N8:=p8.next;have N9:=s9.next;have j1:=b0.next;have o4:=a3.next;have o5:=b7.next
  have k0:Prs i H9:=p8.fresh s9 (fun B f=>by omega);have d0:Prs i a9:=(k0.trans b0).fresh a3 (fun B f=>by omega);have a0:Prs i O:=d0.trans b7;have h1:=ch.step a0;have m7:=c4.prs a0;have h2:=c4.prs d0;have k1:Box O N (.int .i64 ((0:Nat):Int)):=((x9.mono s9.ok b0 (fun x=>x)).mono b0.ok a3 (by omega)).mono a3.ok b7 (fun x=>x);have h3:Box O W (zFb N z B3 B4 W B6):=e6.mono a3.ok b7 (fun x=>x);have k6:Box O B6 (.ptr J 0):=x7.mono m.ok a0 (fun x=>x);have cl:Cl H O At J K V ed N z B3 B4 W B6 0:=⟨k1,k2.mono m.ok a0 (fun x=>x),k3.mono m.ok a0 (fun x=>x),k4.mono m.ok a0 (fun x=>x),h3,k6,hb,by omega,by omega,by omega,by omega,by omega,by omega⟩;have hold: ∀kv∈es,∀B,kR kv.2 B->B<H.next:=fun kv c3 B f=>by
   obtain⟨o6,k5⟩:=j.pq.mem kv c3;exact k5.lt f
  have c9:0<h->nd.keys≠[]:=fun h0=>by
   cases h with
   | zero=>omega
   | succ h=>rw[rn.2.1];exact wr.2.1
  obtain⟨u,e,g',c1,k7,a1,⟨lu,rfl,a7,c5⟩,a2⟩:=zNV j hold j.ds hq ho h M (M+1) (by omega) (by omega) h1 cl hs rn wr.gen wr.sz c9 (by cases h<;>trivial) (by cases h<;>trivial) (by omega) (by omega) (by simp;omega);have k8: ¬(chg J F .nilSlice B8\/B8=N):=fun hc=>by
   rcases hc with(e | e | e) | e
   .omega
   .omega
   .exact(Blk.nil.1 e).elim
   .omega
  have c2:c1.h.get B8=some (.cells [.bool false, .nilSlice, .nilSlice, .nilSlice] 119 1 false):=by rw[a1.keep _ j9 k8];exact j7
  have h4:Box c1 B6 (.ptr J 0):=k6.mono b7.ok a1 (fun hc=>by
   rcases hc with(e | e | e) | e
   .omega
   .omega
   .exact(Blk.nil.1 e).elim
   .omega)
  obtain⟨d1,k9,l0,a4,o7⟩:=y9 a1.ok c2 (l':=lu) a7 c5;have d5:stN 4 (.ptr B8 0) (.agg lu) c1=some (qX,d1):=k9;have h5:ld1 (.ptr B6 0) d1=some (.ptr J 0):=(h4.mono a1.ok a4 (by omega)).ld;have f2:ld1 (.ptr z 0) a9=some (.ptr At 0):=(k2.mono m.ok d0 (fun x=>x)).ld;have lr:ldN 3 (.ptr At 2) a9=some (.agg (qZ root)):=by rw[qY h2.gT];rfl
  have d6:=e6.ld;have f3:callV [(127,f127 (dy (M+2)) n),(126,f126 (dy (M+2)) n),(131,f131 (dy (M+2)) n)] (dy (M+2)) (zFb N z B3 B4 W B6) [.agg (qZ root)] O=some (.tuple [.agg lu, .int .i64 ((e:Nat):Int)],c1):=k7;have f4:(.func 128 [] [.ptr N 0, .ptr z 0, .ptr B3 0, .ptr B4 0, .ptr W 0, .ptr B6 0]:AV)=zFb N z B3 B4 W B6:=rfl
  cases y:ed.run (con h t)with
  | none=>
   rw[y]at a2;have a2:e=5:=a2;subst a2;refine⟨5,d1, ?_,rfl,⟨a4.ok,by have:=a1.next;have:=a4.next;omega,fun B f _=> ?_⟩⟩
   .simp(maxSteps:=999999)(disch:=omega) only[f82,eZ,b1,b2,b3,cbx,l2,l6,mkM,b4,bs,b5,b6,e7,k2.ld,a6,e4,b8,e9,e5,f4,c0,d6,f2,lr,f1,f3,qV,nth,d5,e2,ne_eq,not_false_eq_true]
   .have:=a1.next
    rw[a4.keep B (by omega) (by omega),a1.keep B (by omega) (fun hc=>by
     rcases hc with(e | e | e) | e
     .omega
     .omega
     .exact(Blk.nil.1 e).elim
     .omega),a0.keep B (by omega) (fun x=>x),Y.keep B f (fun x=>x)]
  | some kv'=>
   rw[y]at a2;obtain⟨rfl,n0,f',d2,m0,d',o8,S',G,R,Fr,t',h6,n7,h7,h8,h9,f8,o0,f5,hG,o9,p0,p7,l1,d3,l3,l4,more,bg⟩:=a2;have i0:=h6.stb c2 a4 (by omega) (by omega);have i1:=h7.stb c2 a4;rw[List.nil_append]at f5;subst f5;have l5:(root::S0).Nodup:=nd0;have l7:(d2++R).Nodup:=d3.nodup_iff.1 l5;have i2: ∀p∈root::S0,∃nd,Qf E q [] p=some nd:=fun p hp=>by
    rcases List.mem_cons.1 hp with rfl | hp
    .exact⟨nd,hs⟩
    .exact yX.here rn p hp
   have f6: ∀p∈d2++R,∃nd,Qf E q [] p=some nd:=fun p hp=>i2 p (d3.mem_iff.2 hp)
   have i3: ∀p∈d2,∃nd,Qf E q [] p=some nd:=fun p hp=>f6 p (qC _ hp)
   obtain⟨l8,l9,dn⟩:=zKM (dy (M+2)) n (by omega) j hq i0 i3 (by omega) (by omega) d7 i1 h8 h9 l1 l7 l4 l3 (fun p hp=>f6 p (qH _ hp)) (by omega) d3 (by omega);rw[f8]at dn;refine⟨0,l8, ?_,rfl,dn.mono (by omega) (by omega)⟩;simp(maxSteps:=999999)(disch:=omega) only[f82,eZ,b1,b2,b3,cbx,l2,l6,mkM,b4,bs,b5,b6,e7,k2.ld,a6,e4,b8,e9,e5,f4,c0,d6,f2,lr,f1,f3,qV,nth,d5,e1,h5,vU l0 a7,l9]
end Go.Eng.Sh
end
section
set_option maxRecDepth 20000
namespace Go.Eng.Sh
open Go.Nd (Ptr sumL leafOf Kvs mayK putP delP lookP)
open Go.Bt
variable {E:Ev}
def bX (d c:AV)(E:Ev)(H:AH)(At M L:Nat)(W:Nat->Prop)(kv:Kvs)(T:List Ptr):Prop:= ∃f root es q a,isCell c=true/\TI E H At M d c root es q a f/\(∀s nd,y8 s q=some nd->s<=a)/\q.length<=a/\a<=L/\E.dl.length<=L/\cB E q root kv T/\ ∀B,W B↔B=At\/B=M\/Blk f B
def bD (d c:AV)(E:Ev)(H:AH)(At M L:Nat)(W:Nat->Prop)(root:Ptr)(q:PN)(kv:Kvs)(T:List Ptr):Prop:= ∃f es a,isCell c=true/\TI E H At M d c root es q a f/\(∀s nd,y8 s q=some nd->s<=a)/\q.length<=a/\a<=L/\E.dl.length<=L/\cB E q root kv T/\ ∀B,W B↔B=At\/B=M\/Blk f B
theorem bD.d {d c:AV}{E:Ev}{H:AH}{At M L:Nat}{W:Nat->Prop}{root:Ptr}{q:PN}{kv:Kvs}{T:List Ptr}(h:bD d c E H At M L W root q kv T):bX d c E H At M L W kv T:=by
 obtain⟨f,es,a,h⟩:=h;exact⟨f,root,es,q,a,h⟩
theorem bX.x {d c:AV}{E:Ev}{H:AH}{At M L:Nat}{W:Nat->Prop}{kv:Kvs}{T:List Ptr}(h:bX d c E H At M L W kv T): ∃root q,bD d c E H At M L W root q kv T:=by
 obtain⟨f,root,es,q,a,h⟩:=h;exact⟨root,q,f,es,a,h⟩
theorem bX.prs {d c:AV}{H H':AH}{At M L:Nat}{W:Nat->Prop}{kv:Kvs}{T:List Ptr}(h:bX d c E H At M L W kv T)(s:Prs H H'):bX d c E H' At M L W kv T:=by
 obtain⟨f,root,es,q,a,i,j,m⟩:=h;exact⟨f,root,es,q,a,i,j.prs s,m⟩
theorem bX.up {d c:AV}{H:AH}{At M L a:Nat}{W:Nat->Prop}{kv:Kvs}{T:List Ptr}(h:bX d c E H At M L W kv T)(hl:L<=a):bX d c E H At M a W kv T:=by
 obtain⟨i,root,es,q,f,j,m,o,p,u,v,s,t⟩:=h;exact⟨i,root,es,q,f,j,m,o,p,by omega,by omega,s,t⟩
theorem bX.okH {d c:AV}{H:AH}{At M L:Nat}{W:Nat->Prop}{kv:Kvs}{T:List Ptr}(h:bX d c E H At M L W kv T):H.ok:=by
 obtain⟨i,root,es,q,f,j,a,_⟩:=h;exact a.ok
theorem bX.lt {d c:AV}{H:AH}{At M L:Nat}{W:Nat->Prop}{kv:Kvs}{T:List Ptr}(h:bX d c E H At M L W kv T): ∀B,W B->B<H.next:=by
 obtain⟨m,root,es,q,j,o,a,_,_,_,_,_,f⟩:=h;intro B i;rcases(f B).1 i with rfl | rfl | e
 .exact a.ok.lt a.gT
 .exact a.ok.lt a.gM
 .exact a.dg.lt e
def AdT (W:Nat->Prop)(H:AH)(a:Nat->Prop)(H':AH):Prop:=Stp W H H'/\ ∀B,a B->W B\/H.next<=B
theorem AdT.prs {W:Nat->Prop}{H H':AH}(s:Prs H H'):AdT W H W H':=⟨s.mono fun _ _ x=>x.elim,fun _ h=> .inl h⟩
theorem AdT.trans {W f i:Nat->Prop}{H j m:AH}(h:AdT W H f j)(k:AdT f j i m):AdT W H i m:=by
 refine⟨Stp.thr h.1 k.1 fun B a=> ?_,fun B a=> ?_⟩
 .rcases h.2 B a with e | e
  .exact .inr e
  .exact .inl e
 .have:=h.1.next
  rcases k.2 B a with e | e
  .exact h.2 B e
  .exact .inr (by omega)
structure Chd (E E':Ev)(T T':List Ptr):Prop where
 nb:E'.nb=E.nb
 ws:E'.ws=E.ws
 pm:(dsk T'++E'.dl).Perm (dsk T++E.dl)
theorem Chd.refl (E:Ev)(T:List Ptr):Chd E E T T:=⟨rfl,rfl,List.Perm.refl _⟩
theorem Chd.trans {E a f:Ev}{T i j:List Ptr}(h:Chd E a T i)(k:Chd a f i j):Chd E f T j:=⟨k.nb.trans h.nb,k.ws.trans h.ws,k.pm.trans h.pm⟩
theorem zLn.treeD {H0 H':AH}{At M low j L:Nat}{d c o:AV}{kv:Kvs}{T:List Ptr}{W:Nat->Prop}(h:zLn E H0 H' At M d c o low j kv T)(u:isCell c=true)(a: ∀B,W B↔B=At\/B=M\/Blk o B)(hL:j<=L)(hd:E.dl.length+100<=L):
  ∃p s f,bX d c p H' At M L s kv f/\AdT W H0 s H'/\Chd E p T f:=by
 obtain⟨gl,root,es,q,t,m,f,v,y,z,C,F,O,S,h8,J,K⟩:=h;have N:=zE4 E gl;refine⟨E.drop gl,fun B=>B=At\/B=M\/Blk m B,f,⟨m,root,es,q,t,u,v,C,F,by omega,by omega,h8,fun B=>Iff.rfl⟩,⟨y.mono fun B _ i=>(a B).2 i,fun B i=> ?_⟩,⟨rfl,rfl,J⟩⟩;rcases i with e | e | e
 .exact .inl ((a B).2 (.inl e))
 .exact .inl ((a B).2 (.inr (.inl e)))
 .rcases z B e with x | x
  .exact .inl ((a B).2 (.inr (.inr x)))
  .exact .inr x
def JT (k v:Str):Bool:=mayK k&&decide (v.length<=200)
theorem zN2 (m n:Nat)(hm:300000000<=m)(U:300000000<=n){d c:AV}{H:AH}{At M L:Nat}{W:Nat->Prop}{kv:Kvs}{T:List Ptr}{k v:Str}(t:bX d c E H At M L W kv T)(hL:L<=500000000)(K:kv.length<=1000000000):
  ∃H' a f h,f38 (dy (m+2)) n [.ptr At 0,S k,S v] H=some (.int .i64 ((if JT k v then 0 else 1:Nat):Int),H')/\bX d c a H' At M (L+200) f (if JT k v then putP k v kv else kv) h/\AdT W H f H'/\Chd E a T h:=by
 obtain⟨dr,root,es,q,a0,V,z,Y,Z,h4,a4,h5,hW⟩:=id t;obtain⟨H1,A4,b1,o,g1,m1,n1⟩:=box z.ok (.cells [S k] 9 1 false);obtain⟨i,C,b2,F,g2,m2,n2⟩:=box o.ok (.cells [S v] 9 1 false);have j:=o.trans F;have u:=z.prs j;have x4:Box i A4 (S k):=⟨_,Prs.get F o.ok g1⟩;have p:Box i C (S v):=⟨_,g2⟩;have x:=QA (dy (m+2)) n u;by_cases hp:JT k v=true
 .obtain⟨y,N⟩:mayK k=true/\v.length<=200:=by simpa[JT]using hp
  obtain⟨e,J,e3,s⟩:=zBA m n hm U (ed:= .put k v) u Y Z (by omega) h5 (by omega) K ⟨y,N⟩ ⟨x4,p⟩;simp only[Ed.run]at s;obtain⟨rfl,dn⟩:=s;obtain⟨a,f,h,d1,d2,d3⟩:=dn.treeD V hW (L:=L+200) (by omega) (by omega);simp only[Nd.mayK,zC,zJ]at y;refine⟨J,a,f,h, ?_,by rw[if_pos hp];exact d1,(AdT.prs j).trans d2,d3⟩;have a1: ¬((k.length:Nat):Int)< ((1:Nat):Int):=by omega
  have a2: ¬((40:Nat):Int)< ((k.length:Nat):Int):=by omega
  have a3: ¬((200:Nat):Int)< ((v.length:Nat):Int):=by omega
  have O:f82 (dy (m+2)) n [.ptr At 0,S k, .func 88 [] [.ptr A4 0, .ptr C 0]] i=some (.int .i64 ((0:Nat):Int),J):=e3;simp(maxSteps:=999999)(disch:=omega) only[f38,eZ,cbx,b1,b2,x,x4.ld,p.ld,a1,a2,a3,O,hp]
 .refine⟨i,E,W,T, ?_,by rw[if_neg hp];exact(t.prs j).up (by omega),AdT.prs j,Chd.refl E T⟩;have hx:((k.length:Nat):Int)< ((1:Nat):Int)\/((40:Nat):Int)< ((k.length:Nat):Int)\/((200:Nat):Int)< ((v.length:Nat):Int):=by
   simp only[JT,Nd.mayK,zC,zJ]at hp;omega
  simp(maxSteps:=999999)(disch:=omega) only[f38,eZ,cbx,b1,b2,x,x4.ld,p.ld,hp];rw[if_pos (by simpa[or_assoc]using hx)];rfl
def QJ (k:Str)(kv:Kvs):Nat:=if mayK k then(if(lookP k kv).isSome then 0 else 5)else 1
theorem zNX (m n:Nat)(hm:300000000<=m)(K:300000000<=n){d c:AV}{H:AH}{At M L:Nat}{W:Nat->Prop}{kv:Kvs}{T:List Ptr}{k:Str}(t:bX d c E H At M L W kv T)(hL:L<=500000000)(C:kv.length<=1000000000):
  ∃H' j o p,f29 (dy (m+2)) n [.ptr At 0,S k] H=some (.int .i64 ((QJ k kv:Nat):Int),H')/\bX d c j H' At M (L+200) o (if QJ k kv=0 then delP k kv else kv) p/\AdT W H o H'/\Chd E j T p:=by
 obtain⟨dr,root,es,q,a0,N,y,O,U,h4,a3,Y,Z⟩:=id t;obtain⟨u,A4,b1,f,g1,m1,n1⟩:=box y.ok (.cells [S k] 9 1 false);have v:=y.prs f;have x4:Box u A4 (S k):=⟨_,g1⟩;have x:=QA (dy (m+2)) n v;by_cases hp:mayK k=true
 .obtain⟨e,s,e3,i⟩:=zBA m n hm K (V:=0) (ed:= .del k) v O U (by omega) Y (by omega) C hp x4;have F:=hp;simp only[Nd.mayK,zC,zJ]at F;have a1: ¬((k.length:Nat):Int)< ((1:Nat):Int):=by omega
  have a2: ¬((40:Nat):Int)< ((k.length:Nat):Int):=by omega
  have J:f82 (dy (m+2)) n [.ptr At 0,S k, .func 83 [] [.ptr A4 0]] u=some (.int .i64 ((e:Nat):Int),s):=e3;have run:f29 (dy (m+2)) n [.ptr At 0,S k] H=some (.int .i64 ((e:Nat):Int),s):=by
   simp(maxSteps:=999999)(disch:=omega) only[f29,eZ,cbx,b1,x,x4.ld,a1,a2,J,hp]
  cases hr:(Ed.del k).run kv with
  | none=>
   rw[hr]at i;obtain⟨rfl,z⟩:=i;have hl:(lookP k kv).isSome=false:=by
    simp only[Ed.run]at hr;split at hr
    .cases hr
    .rename_i h;simpa using h
   have a:QJ k kv=5:=by simp only[QJ,hp,if_true,hl,Bool.false_eq_true,if_false]
   refine⟨s,E,W,T,by rw[a];exact run,by rw[a];exact(t.prs (f.trans z)).up (by omega),AdT.prs (f.trans z),Chd.refl E T⟩
  | some kv'=>
   rw[hr]at i;obtain⟨rfl,dn⟩:=i;obtain⟨j,o,p,d1,d2,d3⟩:=dn.treeD N Z (L:=L+200) (by omega) (by omega);have hl:(lookP k kv).isSome=true/\delP k kv=kv':=by
    simp only[Ed.run]at hr;split at hr
    .rename_i h;exact⟨h,by simpa using hr⟩
    .cases hr
   have a:QJ k kv=0:=by simp only[QJ,hp,if_true,hl.1]
   refine⟨s,j,o,p,by rw[a];exact run,by rw[a,if_pos rfl,hl.2];exact d1,(AdT.prs f).trans d2,d3⟩
 .have a:QJ k kv=1:=by simp only[QJ,hp,Bool.false_eq_true,if_false]
  refine⟨u,E,W,T, ?_,by rw[a];exact(t.prs f).up (by omega),AdT.prs f,Chd.refl E T⟩;rw[a];have hx:((k.length:Nat):Int)< ((1:Nat):Int)\/((40:Nat):Int)< ((k.length:Nat):Int):=by
   simp only[Nd.mayK,zC,zJ]at hp;omega
  simp(maxSteps:=999999)(disch:=omega) only[f29,eZ,cbx,b1,x,x4.ld];rw[if_pos (by simpa using hx)];rfl
end Go.Eng.Sh
end
section
set_option maxRecDepth 20000
namespace Go.Eng
def Stk (k e:Nat)(H:AH)(v:AV)(n:Nat)(l:List AV):Prop:=
 l.length=n*k/\((v= .nilSlice/\n=0)\/ ∃A cc cells g r,v= .slice A 0 n cc/\A<H.next/\H.h.get A=some (.cells cells e k g)/\cells.length=r*k/\n<=r/\cells.take (n*k)=l/\(cc=2*r\/(cc=1/\g=true)))
theorem Stk.row {k e n:Nat}{H:AH}{v:AV}{l:List AV}(h:Stk k e H v n l):Rw k H v n l:=by
 obtain⟨a,⟨rfl,rfl⟩ | ⟨A,cc,cells,g,r,rfl,f,i,hl,j,m,_⟩⟩:=h
 .exact⟨a, .inl ⟨rfl,rfl⟩⟩
 .have:=qF k j;exact⟨a, .inr (.inr ⟨A,0,cc,cells,e,k,g,rfl,i,f,by omega,by rw[List.drop_zero];exact m⟩)⟩
theorem Stk.mono {k e n:Nat}{S:Nat->Prop}{H H':AH}{v:AV}{l:List AV}(h:Stk k e H v n l)(s:Stp S H H')(i: ∀A,Blk v A-> ¬S A):Stk k e H' v n l:=by
 obtain⟨a,j | ⟨A,cc,cells,g,r,rfl,f,m,o⟩⟩:=h
 .exact⟨a, .inl j⟩
 .exact⟨a, .inr ⟨A,cc,cells,g,r,rfl,zY f s.next,by rw[s.keep A f (i A (Blk.slice.2 rfl))];exact m,o⟩⟩
theorem Stk.lt {k e n:Nat}{H:AH}{v:AV}{l:List AV}(h:Stk k e H v n l){B:Nat}(a:Blk v B):B<H.next:=by
 obtain⟨i,⟨rfl,rfl⟩ | ⟨A,cc,cells,g,r,rfl,f,j,m⟩⟩:=h
 .exact(Blk.nil.1 a).elim
 .rw[Blk.slice.1 a];exact f
theorem Stk.isCell {k e n:Nat}{H:AH}{v:AV}{l:List AV}(h:Stk k e H v n l):isCell v=true:=h.row.isCell
theorem Stk.room {k:Nat}{cells:List AV}{g:Bool}{cc r:Nat}(a:0<k)(hl:cells.length=r*k)(f:cc=2*r\/(cc=1/\g=true)):yN cells g k 0 cc k=r:=by
 rcases f with rfl | ⟨rfl,rfl⟩
 .simp only[yN,show((2*r) % 2).beq 0=true by rw[Nat.mul_mod_right];rfl,cond_true,Nat.mul_div_cancel_left r (show 0<2 by omega)]
 .simp only[yN,show((1 % 2).beq 0)=false from rfl,cond_false,Nat.beq_refl,show Nat.beq 0 (1 / 2*k)=true from by simp,Bool.and_self,cond_true,yA,hl,Nat.sub_zero];exact Nat.mul_div_cancel _ a
theorem Stk.cut {k e n i:Nat}{H:AH}{v:AV}{l:List AV}(h:Stk k e H v n l)(m:0<k)(hi:i<=n)(κ:IntKind):
  ∃r,wR k v none (some (.int κ (i:Nat))) none H=some r/\Stk k e H r i (l.take (i*k))/\ ∀B,Blk r B->Blk v B:=by
 have f:=yK κ (z:=((i:Nat):Int)) (by omega);simp only[qA]at f;have hb:Nat.blt 0 k=true:=by rw[zR];exact m
 have t:i*k<=n*k:=qF _ hi;obtain⟨u,⟨rfl,rfl⟩ | ⟨A,cc,cells,g,r,rfl,q,j,hl,C,x,s⟩⟩:=h
 .obtain rfl:i=0:=by omega
  exact⟨.nilSlice,by simp only[wR,yZ,f];simp,⟨by simp, .inl ⟨rfl,rfl⟩⟩,fun B a=>a⟩
 .have b1:Nat.ble i r=true:=by rw[q9];omega
  have b2:Nat.ble 0 i=true:=by rw[q9];omega
  have hr:=Stk.room m hl s;have o:(l.take (i*k)).length=i*k:=by rw[zQ,u];omega
  have p:cells.take (i*k)=l.take (i*k):=by rw[<-x,List.take_take,Nat.min_eq_left t]
  rcases s with rfl | ⟨rfl,rfl⟩
  .refine⟨.slice A 0 i (2*r), ?_,⟨o, .inr ⟨A,2*r,cells,g,r,rfl,q,j,hl,by omega,p, .inl rfl⟩⟩,fun B a=>by rw[Blk.slice.1 a];exact Blk.slice.2 rfl⟩;have y:(2*r) / 2=r:=Nat.mul_div_cancel_left r (show 0<2 by omega);simp only[wR,yZ,f,j,hb,cond_true,YQ,hr,Option.getD_none,Option.getD_some,b1,b2,Bool.and_self,show((2*r) % 2).beq 0=true by rw[Nat.mul_mod_right];rfl,yG,Nat.zero_mul,Nat.add_zero,Nat.sub_zero,y]
   cases Nat.beq r 0<;>rfl
  .refine⟨.slice A 0 i 1, ?_,⟨o, .inr ⟨A,1,cells,true,r,rfl,q,j,hl,by omega,p, .inr ⟨rfl,rfl⟩⟩⟩,fun B a=>by rw[Blk.slice.1 a];exact Blk.slice.2 rfl⟩;simp only[wR,yZ,f,j,hb,cond_true,YQ,hr,Option.getD_none,Option.getD_some,b1,b2,Bool.and_self,show((1 % 2).beq 0)=false from rfl,cond_false,yG,show Nat.beq 0 0=true from rfl]
theorem Stk.app {k e bytes n m:Nat}{H:AH}{v s:AV}{l new:List AV}(j:H.ok)(q:0<k)(h:Stk k e H v n l)(O:srcOf k s H=some (m,new))(hm:new.length=m*k)(S:qW new=true)(a1:m=1)(x:n+m<=1000000000)(hb:bytes<=1000):
  ∃a H',apP e k bytes v s H=some (a,H')/\Stk k e H' a (n+m) (l++new)/\Stp (Blk v) H H'/\ ∀B,Blk a B->Blk v B\/H.next<=B:=by
 suffices hx: ∃a H',app1 e k bytes m new v H=some (a,H')/\Stk k e H' a (n+m) (l++new)/\Stp (Blk v) H H'/\ ∀B,Blk a B->Blk v B\/H.next<=B by
  obtain⟨a,H',T,U⟩:=hx;exact⟨a,H',by simp only[apP,O,S,cond_true,T],U⟩
 have own: ∀ {H':AH},Own k e H' (.slice H.next 0 (n+m) 1) (n+m) (l++new)->Stk k e H' (.slice H.next 0 (n+m) 1) (n+m) (l++new):=fun {H'} V=>by
  obtain⟨F,⟨q1,_⟩ | ⟨A,q1,q2,q3⟩⟩:=V
  .cases q1
  .exact⟨F, .inr ⟨A,1,_,true,n+m,q1,q2,q3,F,Nat.le_refl _,zP (by omega), .inr ⟨rfl,rfl⟩⟩⟩
 have h':=h;obtain⟨f,⟨rfl,rfl⟩ | ⟨A,cc,cells,g,r,rfl,o,y,hl,L,z,u⟩⟩:=h
 .obtain rfl:l=[]:=zM (by simpa using f);obtain⟨H',W,Y,Z,e4⟩:=J5 (k:=k) (e:=e) (bytes:=bytes) (new:=new) (n:=0) (m:=m) j q (Own.nil k e H) hm (by omega) x hb;exact⟨_,H',W,own Y,Z,fun B i=> .inr (by rw[Blk.slice.1 i];exact Nat.le_refl _)⟩
 .have hr:=Stk.room q hl u;have a0:=qF k L;by_cases p:n+m<=r
  .have b1:Nat.ble (n+m) r=true:=by rw[q9];exact p
   have hz:Nat.blt 0 k=true:=by rw[zR];exact q
   have J:=qF k p;rw[Nat.add_mul]at J;have K:setAt cells (0+n*k) new=some (cells.take (n*k)++new++cells.drop (n*k+m*k)):=by rw[jW (by omega),hm];simp only[Nat.zero_add]
   have t:(cells.take (n*k)).length=n*k:=by rw[z,f]
   refine⟨.slice A 0 (n+m) cc,H.put A (.cells (cells.take (n*k)++new++cells.drop (n*k+m*k)) e k g), ?_,⟨by simp[f,hm,Nat.add_mul], .inr ⟨A,cc,_,g,r,rfl,o,by rw[AH.put_get,if_pos rfl], ?_,p, ?_,u⟩⟩,(Stp.refl j).put o _ (.inr (Blk.slice.2 rfl)),fun B i=> .inl (by rw[Blk.slice.1 i];exact Blk.slice.2 rfl)⟩
   .simp only[app1,y,zFp,hr,b1,cond_true,hz,K,zBR,yQ,yG]
   .simp only[zL,t,hm,zV];omega
   .rw[z,List.take_append_of_le_length (by simp[f,hm,Nat.add_mul]),zP (by simp[f,hm,Nat.add_mul])]
  .have b1:Nat.ble (n+m) r=false:=by rw[Bool.eq_false_iff];intro e;rw[q9]at e;omega
   have C:xX cells 0 (n*k)=some l:=by rw[yY _ _ _ (.inr (by omega)),List.drop_zero,z]
   rcases u with rfl | ⟨rfl,rfl⟩
   .refine⟨.slice H.next 0 (n+m) 1,H.push (.cells (l++new) e k true), ?_,own ⟨by simp[f,hm,Nat.add_mul], .inr ⟨H.next,rfl,Nat.lt_succ_self _,AH.push_get_eq _ _⟩⟩,(Stp.refl j).push _,fun B i=> .inr (by rw[Blk.slice.1 i];exact Nat.le_refl _)⟩
    simp only[app1,y,zFp,hr,b1,cond_false,show((2*r) % 2).beq 0=true by rw[Nat.mul_mod_right];rfl,cond_true,C,wL,fY x hb,dI,cN j,yG]
   .obtain rfl:n=r:=by omega
    have t:Nat.beq (0+n*k) (dO cells 0)=true:=by rw[yA,hl,Nat.zero_add,Nat.beq_refl]
    have N:(H.put A .dead).ok:=j.put o _;refine⟨.slice H.next 0 (n+m) 1,(H.put A .dead).push (.cells (l++new) e k true), ?_,own ⟨by simp[f,hm,Nat.add_mul], .inr ⟨H.next,rfl,Nat.lt_succ_self _,AH.push_get_eq (H.put A .dead) _⟩⟩,((Stp.refl j).put o _ (.inr (Blk.slice.2 rfl))).push _,fun B i=> .inr (by rw[Blk.slice.1 i];exact Nat.le_refl _)⟩
    simp only[app1,y,zFp,hr,b1,cond_false,show((1 % 2).beq 0)=false from rfl,t,Nat.beq_refl,show Nat.beq 0 (1 / 2*k)=true from by simp,Bool.and_self,cond_true,yQ,C,wL,
     fY x hb,dI,cN N,yG,AH.put_next]
end Go.Eng
end
section
set_option maxRecDepth 20000
namespace Go.Eng.Sh
open Go.Nd (Ptr sumL)
end Go.Eng.Sh
end
section
set_option maxRecDepth 20000
namespace Go.Eng
theorem K0 {H:AH}(a:H.ok)(o:AObj)(K:Nat->AH->Rs):XA H o K=K H.next (H.push o):=zCj a o K
end Go.Eng
namespace Go.Eng.Sh
open Go.Nd (Ptr sumL)
end Go.Eng.Sh
end
section
set_option maxRecDepth 20000
namespace Go.Eng.Sh
open Go.Nd (Str Ptr sumL leafOf Kvs Srt mayK putP delP lookP)
open Go.Bt
variable {E:Ev}
def Item (E:Ev)(q:PN)(p:Ptr)(c:Kvs)(w:Nat):Prop:= ∃nd h,∃t:Bt.Tr h,∃S lo hi,Qf E q [] p=some nd/\yX (Qf E q []) h nd t S/\Gen h lo hi t/\(0<h->nd.keys≠[])/\jD h t<=500/\c=con h t/\w=1+S.length
def XK (E:Ev)(q:PN):List Ptr->Kvs->Nat->Prop
 | [],c,w=>c=[]/\w=0
 | p::ps,c,w=> ∃c1 c2 a f,Item E q p c1 a/\XK E q ps c2 f/\c=c1++c2/\w=a+f
theorem XK.app {q:PN}{i:List Ptr}{c':Kvs}{f:Nat}(j:XK E q i c' f): ∀ {h:List Ptr} {c:Kvs} {w:Nat},XK E q h c w->XK E q (h++i) (c++c') (w+f)
 | [],_,_,⟨e1,e2⟩=>by subst e1;subst e2;simpa using j
 | p::h,_,_,⟨c1,c2,w1,w2,a,b,e1,e2⟩=>⟨c1,c2++c',w1,w2+f,a,XK.app j b,by rw[e1];simp,by omega⟩
theorem XK.len {q:PN} : ∀ {a:List Ptr} {c:Kvs} {w:Nat},XK E q a c w->a.length<=w
 | [],_,_,_=>by simp
 | p::a,_,_,⟨c1,c2,w1,w2,⟨_,_,_,_,_,_,_,_,_,_,_,_,e⟩,b,e1,e2⟩=>by
  have:=XK.len b;simp only[zO];omega
theorem zGL: ∀(q:PN) (T:List Ptr),T.Nodup->(∀p∈T,∃s nd,p=pp s/\y8 s q=some nd)->T.length<=q.length
 | [],T,_,h=>by
  cases T with
  | nil=>simp
  | cons p T=>obtain⟨s,nd,_,e⟩:=h p (zF ..);cases e
 | (a,n)::q,T,hn,h=>by
  by_cases hm:pp a∈T
  .have j:=zGL q (T.erase (pp a)) (hn.erase _) fun p hp=>by
    obtain⟨m,o⟩:=(List.Nodup.mem_erase_iff hn).1 hp;obtain⟨s,nd,e,f⟩:=h p o;refine⟨s,nd,e, ?_⟩;simp only[y8]at f;rw[if_neg (fun i=>m (by rw[e,i]))]at f;exact f
   rw[List.length_erase_of_mem hm]at j;simp only[zO];omega
  .have j:=zGL q T hn fun p hp=>by
    obtain⟨s,nd,e,f⟩:=h p hp;refine⟨s,nd,e, ?_⟩;simp only[y8]at f;rw[if_neg (fun i=>hm (by rw[i,<-e];exact hp))]at f;exact f
   simp only[zO];omega
theorem zEF {k k':UInt8}{b b':Nat}{x a:Str}(hb:b<=2147483647)(h:b'<=2147483647)(e:Bk.sealB k b x=Bk.sealB k' b' a):b=b':=by
 obtain⟨_,q2,_,_⟩:=Bk.seal_parts (kind:=k) (birth:=b) (body:=x);obtain⟨_,f,_,_⟩:=Bk.seal_parts (kind:=k') (birth:=b') (body:=a);rw[e,f]at q2;have hl:=congrArg Nd.bee q2;rw[Nd.bee_be,Nd.bee_be,Nat.mod_eq_of_lt (by omega),Nat.mod_eq_of_lt (by omega)]at hl;exact hl.symm
theorem K_at {p f:Ptr}{nd m:Nd.Node}(h:E.K p=some nd)(q:E.K f=some m)(e:p.at_=f.at_):p=f:=by
 obtain⟨a,b,k,s,rfl,_,_,_,hb,z,t,_,_⟩:=Ev.K_iff.1 h;obtain⟨u,b',k',s',rfl,_,_,_,o,y,i,_,_⟩:=Ev.K_iff.1 q;have v:a=u:=by simp only[uC]at e;omega
 subst v;rw[t]at i;have j:=Option.some.inj i;have x:=zEF hb o j;subst x;rw[j]
theorem zCg: ∀(n:Nat) (T:List Ptr),T.Nodup->(∀p∈T,(∃nd,E.K p=some nd)/\p.at_< (n:Nat))->T.length<=n
 | 0,T,_,h=>by
  cases T with
  | nil=>simp
  | cons p T=>
   obtain⟨⟨nd,a⟩,j⟩:=h p (zF ..);have:=(vJ a).2;omega
 | n+1,T,hn,h=>by
  by_cases hm: ∃p∈T,p.at_=((n:Nat):Int)
  .obtain⟨p,hp,s⟩:=hm;have a:=zCg n (T.erase p) (hn.erase _) fun x f=>by
    obtain⟨j,m⟩:=(List.Nodup.mem_erase_iff hn).1 f;obtain⟨⟨nd,i⟩,o⟩:=h x m;obtain⟨⟨t,q⟩,_⟩:=h p hp;refine⟨⟨nd,i⟩, ?_⟩;by_cases e:x.at_=p.at_
    .exact absurd (K_at i q e) j
    .omega
   rw[List.length_erase_of_mem hp]at a;omega
  .have a:=zCg n T hn fun x f=>by
    obtain⟨i,o⟩:=h x f;refine⟨i, ?_⟩;have: ¬x.at_=((n:Nat):Int):=fun e=>hm ⟨x,f,e⟩
    omega
   omega
theorem zN5 {q:PN}{T:List Ptr}(t:T.Nodup)(h: ∀p∈T,∃nd,Qf E q [] p=some nd):T.length - (dsk T).length<=q.length/\(dsk T).length<=8192/\(dsk T).length<=T.length:=by
 have hl:=List.length_eq_countP_add_countP (fun p:Ptr=>decide (p.at_≠1)) (l:=T);have u:List.countP (fun p:Ptr=>decide (p.at_≠1)) T=(dsk T).length:=List.countP_eq_length_filter ..;have v:List.countP (fun a:Ptr=>decide ¬(decide (a.at_≠1))=true) T=(T.filter fun a:Ptr=>decide ¬(decide (a.at_≠1))=true).length:=List.countP_eq_length_filter ..;rw[u,v]at hl;have y:=zGL q (T.filter fun a:Ptr=>decide ¬(decide (a.at_≠1))=true) (t.filter _) fun p hp=>by
  obtain⟨j,m⟩:=List.mem_filter.1 hp;have o:p.at_=1:=by simpa using m
  obtain⟨nd,i⟩:=h p j;obtain⟨s,rfl,f | ⟨_,f⟩⟩ | ⟨_,f⟩:=xF i
  .simp[y8]at f
  .exact⟨s,nd,rfl,f⟩
  .have:=(vJ f).2;omega
 have z:=zCg 8192 (dsk T) (t.filter _) fun p hp=>by
  obtain⟨j,m⟩:=List.mem_filter.1 hp;have o:p.at_≠1:=by simpa using m
  obtain⟨nd,i⟩:=h p j;have x:=zAb i;simp only[Nd.kidOk,zC,zJ]at x;obtain⟨s,rfl,_⟩ | ⟨_,f⟩:=xF i
  .exact absurd rfl o
  .exact⟨⟨nd,f⟩,by omega⟩
 omega
theorem zJL {h:Nat}{nd:Nd.Node}{t:Bt.Tr h}{S:List Ptr}{p:Ptr}{q:PN}(f:Qf E q [] p=some nd)(i:yX (Qf E q []) h nd t S): ∀x∈p::S,∃nd,Qf E q [] x=some nd:=fun x a=>by
 rcases List.mem_cons.1 a with rfl | a
 .exact⟨nd,f⟩
 .exact yX.here i x a
theorem zEI {q:PN}{h:Nat}{p:Ptr}{nd:Nd.Node}{t:Bt.Tr h}{S:List Ptr}(f:Qf E q [] p=some nd)(a:yX (Qf E q []) h nd t S)(wr:WR h t)(nd0:(p::S).Nodup):XK E q [p] (con h t) (1+S.length)/\1+S.length<=8192+q.length:=by
 constructor
 .refine⟨con h t,[],1+S.length,0,⟨nd,h,t,S,none,none,f,a,wr.gen,fun i=> ?_,wr.sz,rfl,rfl⟩,⟨rfl,rfl⟩,by simp,by omega⟩
  cases h with
  | zero=>omega
  | succ h=>rw[a.2.1];exact wr.2.1
 .have:=zN5 nd0 (zJL f a);simp only[zO]at this;omega
end Go.Eng.Sh
end
section
set_option maxRecDepth 20000
namespace Go.Eng
end Go.Eng
namespace Go.Eng.Sh
open Go.Nd (Ptr sumL leafOf Kvs Srt mayK putP delP lookP)
open Go.Bt
variable {E:Ev}
theorem fD: ∀l:List Ptr,(l.flatMap qZ).length=l.length*3
 | []=>rfl
 | p::l=>by
  rw[zW,zL,fD l,zO];show 3+l.length*3=_;omega
end Go.Eng.Sh
end
section
set_option maxRecDepth 20000
namespace Go.Eng.Sh
open Go.Nd (Ptr sumL leafOf Kvs Srt mayK putP delP lookP)
open Go.Bt
variable {E:Ev}
theorem TI.hold {H:AH}{At M a:Nat}{d c i:AV}{root:Ptr}{es:List (AV×AV)}{q:PN}(j:TI E H At M d c root es q a i): ∀kv∈es,∀B,kR kv.2 B->B<H.next:=fun kv f B m=>by
 obtain⟨o,h⟩:=j.pq.mem kv f;exact h.lt m
end Go.Eng.Sh
end
section
set_option maxRecDepth 20000
namespace Go.Eng.Sh
open Go.Nd (Ptr sumL leafOf Kvs Srt mayK putP delP lookP)
open Go.Bt
variable {E:Ev}
end Go.Eng.Sh
end
section
set_option maxRecDepth 20000
namespace Go.Eng
theorem zL6 {κ:IntKind}{m:Int} : ∀ {a:AV},aveq (.int κ m) a=true->a= .int κ m:=by
 intro a h
 cases a<;>simp only[aveq]at h
 case int k z=>
  rw[zC]at h;have f:=h.1;have i:=h.2;rw[kO]at f;rw[kP]at i;simp only[zJ,beq_iff_eq]at f i;subst f;subst i;rfl
 all_goals cases h
theorem zBM (κ:IntKind)(m j:Int):aveq (.int κ j) (.int κ m)=decide (j=m):=by
 have:keq κ κ=true:=by rw[kO];simp
 simp only[aveq,this,Bool.true_and,kP];rw[Bool.eq_iff_iff];simp
theorem VE {κ:IntKind}{m:Int}{v:AV} : ∀ {es es':List (AV×AV)},zAd (.int κ m) v es=some es'-> ∀j:Int,kQ (.int κ j) es'=if j=m then some v else kQ (.int κ j) es
 | [],_,h,_=>by cases h
 | (a,b)::es,es',h,j=>by
  simp only[zAd]at h
  cases e:aveq (.int κ m) a with
  | true=>
   rw[e]at h;have o:=zL6 e;subst o;obtain rfl:=Option.some.inj h;simp only[kQ,zBM];by_cases f:j=m
   .simp[f]
   .simp[f]
  | false=>
   rw[e]at h;simp only[cond_false]at h
   cases i:zAd (.int κ m) v es with
   | none=>rw[i]at h;cases h
   | some r=>
    rw[i]at h;obtain rfl:=Option.some.inj h;have p:=VE i j;simp only[kQ,p];by_cases f:j=m
    .subst f;simp[e]
    .simp[f]
theorem zAD {κ:IntKind}{m:Int}{v:AV} : ∀ {es:List (AV×AV)},zAd (.int κ m) v es=none-> ∀j:Int,kQ (.int κ j) (es++[(.int κ m,v)])=if j=m then some v else kQ (.int κ j) es
 | [],_,j=>by
  simp only[List.nil_append,kQ,zBM];by_cases f:j=m<;>simp[f]
 | (a,b)::es,h,j=>by
  simp only[zAd]at h
  cases e:aveq (.int κ m) a with
  | true=>rw[e]at h;cases h
  | false=>
   rw[e]at h;simp only[cond_false]at h
   cases i:zAd (.int κ m) v es with
   | some r=>rw[i]at h;cases h
   | none=>
    have o:=zAD i j;simp only[List.cons_append,kQ,o];by_cases f:j=m
    .subst f;simp[e]
    .simp[f]
theorem zOP {κ:IntKind}{ks:List Nat}{H:AH}{M:Nat}{es:List (AV×AV)}(a:H.ok)(h:H.h.get M=some (.map ks es))(o:QI ks ks=true){m:Int}(i:keyOk ks (.int κ m)=true)(v:AV):
  ∃H' es',upM ks (.map M) (.int κ m) v H=some (qX,H')/\H'.h.get M=some (.map ks es')/\(∀j:Int,kQ (.int κ j) es'=if j=m then some v else kQ (.int κ j) es)/\Stp (fun B=>B=M) H H'/\H'.next=H.next:=by
 cases f:zAd (.int κ m) v es with
 | some es'=>
  refine⟨H.put M (.map ks es'),es', ?_,by rw[AH.put_get,if_pos rfl],VE f,(Stp.refl a).put (a.lt h) _ (.inr rfl),rfl⟩;simp only[upM,i,cond_true,h,o,f,yQ]
 | none=>
  refine⟨H.put M (.map ks (es++[(.int κ m,v)])),_, ?_,by rw[AH.put_get,if_pos rfl],zAD f,(Stp.refl a).put (a.lt h) _ (.inr rfl),rfl⟩;simp only[upM,i,cond_true,h,o,f,yQ]
end Go.Eng
namespace Go.Eng.Sh
open Go.Nd (Ptr Str)
open Go.Bk
theorem zKG (D:Dyn)(n:Nat){H:AH}(m:H.ok){nb:Nat}(C:64<=nb)(F:nb<=8192): ∃H' A i j,f32 D n [.int .i64 ((nb:Nat):Int)] H=some (.tuple [.ptr A 0, .int .i64 ((0:Nat):Int)],H')/\Prs H H'/\H.next<=A/\H.next<=i/\H.next<=j/\DkI H' A nb [] i j .nilSlice []:=by
 obtain⟨J,A1,b1,f,o,K,L⟩:=box m (.map [6] []);obtain⟨N,A2,b2,a,p,O,S⟩:=box f.ok (.map [6] []);obtain⟨q,s,t,h,u,T,U⟩:=box a.ok (.cells [.int .i64 ((nb:Nat):Int), .map A1, .nilSlice, .map A2, .int .i64 ((0:Nat):Int), .nilSlice, .bool false] 151 1 false);have V:=f.next;have W:=a.next
 refine⟨q,s,A1,A2, ?_,(f.trans a).trans h,by omega,by omega,by omega,⟨u,Prs.get (a.trans h) f.ok o,Prs.get h a.ok p,Own.nil ..,fun n=>rfl,fun w v=>(List.not_mem_nil v).elim,by simp,by omega⟩⟩;have x: ¬((nb:Nat):Int)< ((64:Nat):Int):=by omega
 have y: ¬((8192:Nat):Int)< ((nb:Nat):Int):=by omega
 have z:wY [(0,1),(1,1),(2,1),(3,1),(4,1),(5,1),(6,1)] [.int .i64 ((0:Nat):Int), .nilMap, .nilSlice, .nilMap, .int .i64 ((0:Nat):Int), .nilSlice, .bool false] [(0, .int .i64 ((nb:Nat):Int)),(1, .map A1),(3, .map A2)]=some (.agg [.int .i64 ((nb:Nat):Int), .map A1, .nilSlice, .map A2, .int .i64 ((0:Nat):Int), .nilSlice, .bool false]):=rfl;simp(maxSteps:=999999)(disch:=omega) only[f32,f85,eZ,x,y,mkM,b1,b2,z,t]
theorem zIM (e:Nat){x c:AV}{r s:List AV}(hr:r.length=512)(a:s.length=512)(h:isCell x=true):wY [(0,1),(1,512)] (c::r) [(0,x),(1, .agg s)]=some (.agg (x::s))/\d7 e 513 1 (c::r) [(0, .agg (x::s))]=some (.cells (x::s) e 513 false,fun A=> .slice A 0 1 2):=by
 have i:setAt (c::r) 0 [x]=some (x::r):=by rw[jW (by simp)];rfl
 have j:setAt (x::r) 1 s=some (x::s):=by
  rw[jW (by simp[hr,a])];have:(x::r).drop (1+s.length)=[]:=zZ (by simp[hr,a]);rw[this];simp
 have m:setAt (c::r) 0 (x::s)=some (x::s):=by
  rw[jW (by simp[hr,a])];have:(c::r).drop (0+(x::s).length)=[]:=zZ (by simp[hr,a]);rw[this];simp
 have l1:(dO [x] 0).beq 1=true:=rfl;have o:(dO s 0).beq 512=true:=by rw[yA,a];exact Nat.beq_refl _
 have p:(dO (x::s) 0).beq 513=true:=by rw[yA,zO,a];exact Nat.beq_refl _
 have q:=yP h;constructor
 .simp only[wY,uJ,zK7,q,l1,cond_true,i];simp only[y6,o,cond_true,j]
 .have f:rep 1 (c::r)=c::r:=by simp only[rep,List.append_nil]
  simp only[d7,f,uJ,y6,p,cond_true,Nat.zero_mul,m]
theorem zFc (D:Dyn)(n:Nat){H:AH}(u:H.ok){Ad nb:Nat}{i:Ws}{v p:Nat}{f:AV}{es:List (AV×AV)}(d:DkI H Ad nb i v p f es){k:Nat}(a4:k<nb){b:Str}(hb:b.length=512)(hf:i.length<1000000):
  ∃H' O es',f26 D n [.ptr Ad 0, .int .i64 ((k:Nat):Int), .agg (qU b)] H=some (.int .i64 ((0:Nat):Int),H')/\DkI H' Ad nb (i++[(k,b)]) v p O es'/\Stp (fun B=>B=Ad\/B=p\/Blk f B) H H'/\(∀B,Blk O B->Blk f B\/H.next<=B):=by
 obtain⟨Z,W⟩: ∃Z:Str,Z=List.replicate 512 0:=⟨_,rfl⟩;have a5:rep 512 [AV.int .u8 ((0:Nat):Int)]=qU Z:=by rw[cJ,W]
 have a6:(qU Z).length=512:=by rw[y5,W];exact List.length_replicate
 obtain⟨Y,A5,b1,z,g1,m1,n1⟩:=box u (.cells (qU b) 55 1 false);have q:=d.prs u z;have ha:=zMh D n q a4;have a7: ¬(((0:Nat):Int)≠((0:Nat):Int)):=by omega
 have r3:Eng.ld1 (.ptr Ad 3) Y=some (.map p):=by rw[qT q.gD];rfl
 have r2:Eng.ld1 (.ptr Ad 2) Y=some f:=by rw[qT q.gD];rfl
 have lD:=u.lt d.gD;have lN:=u.lt d.gN;have lO:=u.lt d.gO;have S:Ad≠p:=fun e=>by have:=d.gD;rw[e,d.gN]at this;cases this
 have a8:Ad≠v:=fun e=>by have:=d.gD;rw[e,d.gO]at this;cases this
 have wA: ∀B,Blk f B->B<H.next/\B≠Ad/\B≠v/\B≠p:=fun B a=>by
  have g:=d.ow.get a;refine⟨u.lt g,fun e=> ?_,fun e=> ?_,fun e=> ?_⟩
  .rw[e,d.gD]at g;simp at g
  .rw[e,d.gO]at g;cases g
  .rw[e,d.gN]at g;cases g
 obtain⟨J,es',e2,g2,f2,s,n2⟩:=zOP z.ok q.gN rfl (m:=((k:Nat):Int)) (keyI _) (.int .i64 ((i.length:Nat):Int));have N1:=z.next
 have T:J.h.get Ad=_:=(s.keep _ (by omega) S).trans q.gD;have a9:J.h.get v=_:=(s.keep _ (by omega) d.ne).trans q.gO;have b0:Eng.ld1 (.ptr Ad 2) J=some f:=by rw[qT T];rfl
 have g5:J.h.get A5=_:=(s.keep _ (by omega) (by omega)).trans g1;have rb:=ldR g5 hb;have L:(qU b).length=512:=by rw[y5,hb]
 obtain⟨q1,q2⟩:=zIM 153 (x:= .int .i64 ((k:Nat):Int)) (c:= .int .i64 ((0:Nat):Int)) a6 L rfl;obtain⟨K,A6,b3,t,g3,m3,n3⟩:=box s.ok (.cells (.int .i64 ((k:Nat):Int)::qU b) 153 513 false);have a0:srcOf 513 (.slice A6 0 1 2) K=some (1,wV (k,b)):=by
  have b2:xX (AV.int .i64 ((k:Nat):Int)::qU b) 0 (1*513)=some (wV (k,b)):=by
   rw[yY _ _ _ (.inr (by simp[L])),List.drop_zero,zP (by simp[L])];rfl
  simp only[srcOf,g3,b2]
 have N2:=s.next;have N3:=t.next
 have b4:Own 513 153 K f i.length (i.flatMap wV):=((d.ow.mono z fun _ _ x=>x).mono s fun B a=>(wA B a).2.2.2).mono t fun _ _ x=>x
 have b5:qW (wV (k,b))=true:=by
  have:=bytesV_cells b;simp only[wV,qW,this];rfl
 obtain⟨H4,e4,b6,y,n4⟩:=vS (bytes:=520) (m:=1) t.ok (by decide) b4 a0 (by rw[zD0 hb]) b5 (by omega) (by omega) (by decide);have N4:=y.next
 have U:H4.h.get Ad=_:=(y.keep _ (by omega) (fun a=>(wA Ad a).2.1 rfl)).trans ((t.keep _ (by omega) (fun x=>x)).trans T);have b8:Eng.ld1 (.ptr Ad 2) H4=some f:=by rw[qT U];rfl
 obtain⟨H5,e5,V,C,n5⟩:=kK y.ok U (o:=2) (x:= .slice K.next 0 (i.length+1) 1) rfl (by simp)
 have b7:Eng.ld1 (.ptr Ad 4) H5=some (.int .i64 ((0:Nat):Int)):=by rw[qT V];rfl
 refine⟨H5, .slice K.next 0 (i.length+1) 1,es', ?_,⟨V, ?_, ?_, ?_,fun j=> ?_,fun w F=> ?_,by simp;omega,d.ne⟩,⟨C.ok,by omega,fun B a N=> ?_⟩,fun B a=> .inr (by rw[Blk.slice.1 a];omega)⟩
 .simp(maxSteps:=999999)(disch:=omega) only[f26,f75,eZ,b1,ha,a7,r3,r2,q.ow.row.lnSl,e2,b0,rb,a5,List.cons_append,List.nil_append,q1,q2,b3,e4,e5,b7]
 .rw[C.keep _ (by omega) (fun e=>a8 e.symm),y.keep _ (by omega) (fun a=>(wA v a).2.2.1 rfl),t.keep _ (by omega) (fun x=>x)];exact a9
 .rw[C.keep _ (by omega) (fun e=>S e.symm),y.keep _ (by omega) (fun a=>(wA p a).2.2.2 rfl),t.keep _ (by omega) (fun x=>x)];exact g2
 .have:=b6.mono C fun B a=>by rw[Blk.slice.1 a];omega
  simpa[qI]using this
 .rw[f2,QE,d.nw j];by_cases e:k=j
  .subst e;simp
  .have e': ¬((j:Nat):Int)=((k:Nat):Int):=by omega
   rw[if_neg e',if_neg e]
 .rcases List.mem_append.1 F with F | F
  .exact d.ln w F
  .obtain rfl:w=(k,b):=by simpa using F
   exact hb
 .have a1: ¬B=Ad:=fun e=>N (.inl e)
  have a2: ¬B=p:=fun e=>N (.inr (.inl e))
  have a3: ¬Blk f B:=fun e=>N (.inr (.inr e))
  rw[C.keep B (by omega) a1,y.keep B (by omega) a3,t.keep B (by omega) (fun x=>x),s.keep B (by omega) a2,z.keep B a (fun x=>x)]
end Go.Eng.Sh
end
section
set_option maxRecDepth 20000
namespace Go.Eng
theorem vL (n A off:Nat)(k:IntKind){z:Int}(i:Nat)(f:z=(i:Int))(h:i<n):uI n 1 (.ptr A off) (.int k z)=some (.ptr A (off+i)):=by
 subst f;have a:=yK k (z:=((i:Nat):Int)) (by omega);simp only[qA]at a;have hb:Nat.blt i n=true:=by rw[zR];exact h
 simp only[uI,a,hb,cond_true,yG,Nat.mul_one]
end Go.Eng
namespace Go.Bk
def cnt (is:Nat->Nat)(w:Nat):Nat->Nat
 | 0=>0
 | n+1=>cnt is w n+(if is n=w then 1 else 0)
def X8 (is:Nat->Nat)(i b:Nat):Nat->Nat:=fun j=>if j=i then b else is j
theorem uG (is:Nat->Nat)(i b:Nat):X8 is i b i=b:=by simp[X8]
theorem u5 {is:Nat->Nat}{i b j:Nat}(h:j≠i):X8 is i b j=is j:=by simp[X8,h]
theorem zEd (is:Nat->Nat)(w:Nat): ∀n,cnt is w n<=n
 | 0=>Nat.le_refl _
 | n+1=>by
  have:=zEd is w n;simp only[cnt];split<;>omega
theorem zMf {is a:Nat->Nat}{w:Nat} : ∀ {n:Nat},(∀i,i<n->(is i=w↔a i=w))->cnt is w n=cnt a w n
 | 0,_=>rfl
 | n+1,h=>by
  have j:=zMf (n:=n) fun i hi=>h i (by omega)
  have f:=h n (by omega);simp only[cnt,j];by_cases e:is n=w
  .rw[if_pos e,if_pos (f.1 e)]
  .rw[if_neg e,if_neg fun x=>e (f.2 x)]
theorem BZ {is:Nat->Nat}{i a b:Nat}(p:is i=a)(m:a≠b): ∀ {n:Nat},(i<n->cnt (X8 is i b) b n=cnt is b n+1/\cnt (X8 is i b) a n+1=cnt is a n)/\(¬i<n->cnt (X8 is i b) b n=cnt is b n/\cnt (X8 is i b) a n=cnt is a n)
 | 0=>⟨fun h=>by omega,fun _=>⟨rfl,rfl⟩⟩
 | n+1=>by
  obtain⟨s,q⟩:=BZ p m (n:=n);refine⟨fun h=> ?_,fun h=> ?_⟩
  .by_cases e:i=n
   .subst e;obtain⟨f,j⟩:=q (by omega);simp only[cnt,uG,if_true,f,j,p];simp[m,Ne.symm m]
   .obtain⟨f,j⟩:=s (by omega);have o:n≠i:=fun x=>e x.symm
    simp only[cnt,u5 o,f];omega
  .obtain⟨f,j⟩:=q (by omega);have o:n≠i:=by omega
   simp only[cnt,u5 o,f,j,and_self]
theorem zIB {is:Nat->Nat}{i a b w:Nat}(f:is i=a)(h:w≠a)(m:w≠b)(n:Nat):cnt (X8 is i b) w n=cnt is w n:=by
 refine zMf fun j _=> ?_
 by_cases e:j=i
 .subst e;rw[uG,f];exact⟨fun x=>absurd x.symm m,fun x=>absurd x.symm h⟩
 .rw[u5 e]
theorem zMe {is:Nat->Nat}{w:Nat} : ∀ {n:Nat},0<cnt is w n-> ∃i,i<n/\is i=w
 | 0,h=>by simp[cnt]at h
 | n+1,h=>by
  simp only[cnt]at h;by_cases e:is n=w
  .exact⟨n,by omega,e⟩
  .rw[if_neg e]at h;obtain⟨i,f,a⟩:=zMe (n:=n) (by omega);exact⟨i,by omega,a⟩
def fnd (is:Nat->Nat)(w:Nat):Nat->Nat->Option Nat
 | 0,_=>none
 | d+1,i=>if is i=w then some i else fnd is w d (i+1)
theorem YZ {is:Nat->Nat}{w:Nat} : ∀ {d i j:Nat},fnd is w d i=some j->i<=j/\j<i+d/\is j=w
 | 0,_,_,h=>by cases h
 | d+1,i,j,h=>by
  simp only[fnd]at h;split at h
  .rename_i e;obtain rfl:=Option.some.inj h;exact⟨Nat.le_refl _,by omega,e⟩
  .obtain⟨f,m,a⟩:=YZ h;exact⟨by omega,by omega,a⟩
theorem zDO {is:Nat->Nat}{w:Nat} : ∀ {d i:Nat},fnd is w d i=none-> ∀j,i<=j->j<i+d->is j≠w
 | 0,_,_,j,h1,h2=>by omega
 | d+1,i,h,j,h1,h2=>by
  simp only[fnd]at h;split at h
  .cases h
  .rename_i e;by_cases a:j=i
   .subst a;exact e
   .exact zDO h j (by omega) (by omega)
end Go.Bk
namespace Go.Eng.Sh
open Go.Bk
def Spc (H:AH)(A nb a:Nat)(is:Nat->Nat):Prop:= ∃c,H.h.get A=some (.cells c 145 1 false)/\c.length=8198/\c[0]? =some (.int .i64 ((nb:Nat):Int))/\c[1]? =some (.int .i64 ((a:Nat):Int))/\(∀i,i<8192->c[2+i]? =some (.int .u8 ((is i:Nat):Int)))/\(∀k,k<4->c[8194+k]? =some (.int .i64 ((cnt is k nb:Nat):Int)))/\nb<=8192/\a<8192/\ ∀i,is i<4
theorem Spc.stp {S:Nat->Prop}{H H':AH}{A nb a:Nat}{is:Nat->Nat}(h:Spc H A nb a is)(f:H.ok)(s:Stp S H H')(i: ¬S A):Spc H' A nb a is:=by
 obtain⟨c,g,h⟩:=h;exact⟨c,by rw[s.keep _ (f.lt g) i];exact g,h⟩
theorem Spc.lt {H:AH}{A nb a:Nat}{is:Nat->Nat}(h:Spc H A nb a is)(f:H.ok):A<H.next:=by
 obtain⟨c,g,h⟩:=h;exact f.lt g
theorem zC6 (D:Dyn)(n:Nat){H:AH}{A nb s i a b:Nat}{is:Nat->Nat}(h:Spc H A nb s is)(J:H.ok)(hi:i<nb)(f:is i=a)(hb:b<4)(C:a≠b):
  ∃H',f86 D n [.ptr A 0, .int .i64 ((i:Nat):Int), .int .u8 ((b:Nat):Int)] H=some (.tuple [],H')/\Spc H' A nb s (X8 is i b)/\Stp (fun B=>B=A) H H'/\H'.next=H.next:=by
 obtain⟨c,g,hl,K,c1,t,p,L,N,u⟩:=h;have q:a<4:=by rw[<-f];exact u i
 obtain⟨q1,q2⟩:=(BZ f C (n:=nb)).1 hi;have a0:=zEd is a nb;have a1:=zEd is b nb;obtain⟨O,S,v,y,n1⟩:=kK J g (o:=8194+a) (x:= .int .i64 ((cnt (X8 is i b) a nb:Nat):Int)) rfl (by omega);obtain⟨H2,m,T,z,n2⟩:=kK y.ok v (o:=8194+b) (x:= .int .i64 ((cnt (X8 is i b) b nb:Nat):Int)) rfl (by simp;omega);obtain⟨U,V,W,Y,n3⟩:=kK z.ok T (o:=2+i) (x:= .int .u8 ((b:Nat):Int)) rfl (by simp;omega);refine⟨U, ?_,⟨_,W,by simp[hl], ?_, ?_,fun j Z=> ?_,fun k F=> ?_,L,N,fun j=> ?_⟩,(y.trans z).trans Y,by omega⟩
 .have r0:ld1 (.ptr A (2+i)) H=some (.int .u8 ((a:Nat):Int)):=kV g (by rw[t i (by omega),f]);have r1:ld1 (.ptr A (8194+a)) H=some (.int .i64 ((cnt is a nb:Nat):Int)):=kV g (p a q);have r2:ld1 (.ptr A (8194+b)) O=some (.int .i64 ((cnt is b nb:Nat):Int)):=kV v (by rw[List.getElem?_set_ne (by omega)];exact p b hb);have i0:uI 8192 1 (.ptr A 2) (.int .i64 ((i:Nat):Int))=some (.ptr A (2+i)):=vL 8192 A 2 .i64 i rfl (by omega);have i1:uI 4 1 (.ptr A 8194) (.int .u8 ((a:Nat):Int))=some (.ptr A (8194+a)):=vL 4 A 8194 .u8 a rfl q;have i2:uI 4 1 (.ptr A 8194) (.int .u8 ((b:Nat):Int))=some (.ptr A (8194+b)):=vL 4 A 8194 .u8 b rfl hb;have w1:((cnt is a nb:Nat):Int) - ((1:Nat):Int)=((cnt (X8 is i b) a nb:Nat):Int):=by omega
  have w2:((cnt is b nb:Nat):Int)+((1:Nat):Int)=((cnt (X8 is i b) b nb:Nat):Int):=by omega
  simp(maxSteps:=999999)(disch:=omega) only[f86,eZ,i0,r0,i1,r1,w1,S,i2,r2,w2,m,V]
 .rw[List.getElem?_set_ne (by omega),List.getElem?_set_ne (by omega),List.getElem?_set_ne (by omega)];exact K
 .rw[List.getElem?_set_ne (by omega),List.getElem?_set_ne (by omega),List.getElem?_set_ne (by omega)];exact c1
 .by_cases e:j=i
  .subst e;rw[List.getElem?_set_self (by simp;omega),uG]
  .rw[List.getElem?_set_ne (by omega),List.getElem?_set_ne (by omega),List.getElem?_set_ne (by omega),u5 e];exact t j Z
 .rw[List.getElem?_set_ne (by omega)];by_cases e:k=b
  .subst e;rw[List.getElem?_set_self (by simp;omega)]
  .rw[List.getElem?_set_ne (by omega)];by_cases m:k=a
   .subst m;rw[List.getElem?_set_self (by omega)]
   .rw[List.getElem?_set_ne (by omega),zIB f m e];exact p k F
 .by_cases e:j=i
  .subst e;rw[uG];exact hb
  .rw[u5 e];exact u j
theorem zGj (x:AV): ∀n,rep n [x]=List.replicate n x
 | 0=>rfl
 | n+1=>by rw[rep,zGj x n,List.replicate_succ];rfl
def zNc:Nat->Nat:=fun i=>if i<2 then 1 else 0
theorem zIC (w n:Nat):cnt (fun _=>w) w n=n:=by
 induction n with
 | zero=>rfl
 | succ n ih=>simp[cnt,ih]
theorem zKO {w v:Nat}(h:v≠w)(n:Nat):cnt (fun _=>v) w n=0:=by
 induction n with
 | zero=>rfl
 | succ n ih=>simp[cnt,ih,h]
theorem zNb:X8 (X8 (fun _=>0) 0 1) 1 1=zNc:=by
 funext i
 match i with
 | 0=>rfl
 | 1=>rfl
 | i+2=>rw[u5 (by omega),u5 (by omega),zNc,if_neg (by omega)]
theorem zMI (D:Dyn)(n:Nat)(hn:100<=n){H:AH}(U:H.ok){nb:Nat}(s:64<=nb)(V:nb<=8192): ∃H' A,f34 D n [.int .i64 ((nb:Nat):Int)] H=some (.tuple [.ptr A 0, .int .i64 ((0:Nat):Int)],H')/\Prs H H'/\H.next<=A/\Spc H' A nb 0 zNc:=by
 obtain⟨r,hr⟩: ∃r,r=rep 8192 [AV.int .u8 ((0:Nat):Int)]:=⟨_,rfl⟩;have p:=zGj (AV.int .u8 ((0:Nat):Int)) 8192;rw[<-hr]at p;have q:r.length=8192:=by rw[p,List.length_replicate]
 have K: ∀i,i<8192->r[i]? =some (.int .u8 ((0:Nat):Int)):=fun i hi=>by rw[p,List.getElem?_replicate,if_pos hi]
 clear p;obtain⟨j,t⟩: ∃j,j=[AV.int .i64 ((0:Nat):Int), .int .i64 ((0:Nat):Int), .int .i64 ((0:Nat):Int), .int .i64 ((0:Nat):Int)]:=⟨_,rfl⟩;have hb:wY [(0,1),(1,1),(2,8192),(8194,4)] ([AV.int .i64 ((0:Nat):Int), .int .i64 ((0:Nat):Int)]++r++j) [(0, .int .i64 ((nb:Nat):Int))]=some (.agg ([AV.int .i64 ((nb:Nat):Int), .int .i64 ((0:Nat):Int)]++r++j)):=rfl;obtain⟨c,f⟩: ∃c,c=[AV.int .i64 ((nb:Nat):Int), .int .i64 ((0:Nat):Int)]++r++j:=⟨_,rfl⟩;have L:c.length=8198:=by rw[f,t];simp[q]
 have W:c[0]? =some (.int .i64 ((nb:Nat):Int)):=by rw[f];rfl
 have c1:c[1]? =some (.int .i64 ((0:Nat):Int)):=by rw[f];rfl
 have Y: ∀i,i<8192->c[2+i]? =some (.int .u8 ((0:Nat):Int)):=fun i hi=>by
  rw[f,List.append_assoc,qK (by simp),qG (by simp[q];omega)];simpa using K i hi
 have Z: ∀i,i<4->c[8194+i]? =some (.int .i64 ((0:Nat):Int)):=fun i hi=>by
  rw[f,qK (by simp[q]),t];have:8194+i - ([AV.int .i64 ((nb:Nat):Int), .int .i64 ((0:Nat):Int)]++r).length=i:=by simp[q]
  rw[this]
  match i,hi with
  | 0,_=>rfl
  | 1,_=>rfl
  | 2,_=>rfl
  | 3,_=>rfl
 rw[<-f]at hb;clear f;obtain⟨H1,A,b1,v,g1,m1,n1⟩:=box U (.cells c 145 1 false);obtain⟨y,e2,g2,z,n2⟩:=kK v.ok g1 (o:=8194) (x:= .int .i64 ((nb:Nat):Int)) rfl (by omega);have N:Spc y A nb 0 fun _=>0:=⟨_,g2,by simp[L],by rw[List.getElem?_set_ne (by omega)];exact W,by rw[List.getElem?_set_ne (by omega)];exact c1,fun i hi=>by rw[List.getElem?_set_ne (by omega)];exact Y i hi,fun k O=>by
  by_cases e:k=0
  .subst e;rw[List.getElem?_set_self (by omega),zIC]
  .rw[List.getElem?_set_ne (by omega),zKO (fun h=>e h.symm)];exact Z k O,V,by omega,fun _=>Nat.succ_pos 3⟩
 obtain⟨C,e3,S,F,n3⟩:=zC6 D n N z.ok (i:=0) (a:=0) (b:=1) (by omega) rfl (by omega) (by omega);obtain⟨m,e4,T,s4,n4⟩:=zC6 D n S F.ok (i:=1) (a:=0) (b:=1) (by omega) rfl (by omega) (by omega);have N1:=v.next
 have i1:uI 4 1 (.ptr A 8194) (.int .u8 ((0:Nat):Int))=some (.ptr A 8194):=vL 4 A 8194 .u8 0 rfl (by omega);refine⟨m,A, ?_,v.fresh ((z.trans F).trans s4) (fun B hB=>by omega),m1,by rw[<-zNb];exact T⟩;obtain⟨k,rfl⟩: ∃k,n=k+1+1+1:=⟨n - 3,by omega⟩;have l0:YM D (k+1+1+1) [.ptr A 0, .int .i64 ((0:Nat):Int)] y=some (.norm [.ptr A 0, .int .i64 ((1:Nat):Int)],C):=by
  have u:((0:Nat):Int)< ((2:Nat):Int):=by omega
  have s:((0:Nat):Int)+((1:Nat):Int)=((1:Nat):Int):=by omega
  simp(maxSteps:=999999)(disch:=omega) only[YM,eZ,u,e3,s]
 have l1:YM D (k+1+1+1) [.ptr A 0, .int .i64 ((1:Nat):Int)] C=some (.norm [.ptr A 0, .int .i64 ((2:Nat):Int)],m):=by
  have u:((1:Nat):Int)< ((2:Nat):Int):=by omega
  have s:((1:Nat):Int)+((1:Nat):Int)=((2:Nat):Int):=by omega
  simp(maxSteps:=999999)(disch:=omega) only[YM,eZ,u,e4,s]
 have l2:YM D (k+1+1+1) [.ptr A 0, .int .i64 ((2:Nat):Int)] m=some (.exit 0 [.ptr A 0],m):=by
  simp(maxSteps:=999999)(disch:=omega) only[YM,eZ,qB]
 have J:yF (k+1+1+1) (YM D (k+1+1+1)) [.ptr A 0, .int .i64 ((0:Nat):Int)] y=some (.exit 0 [.ptr A 0],m):=by
  rw[jF l0,jF l1,y7 l2]
 have a1: ¬((nb:Nat):Int)< ((64:Nat):Int):=by omega
 have a2: ¬((8192:Nat):Int)< ((nb:Nat):Int):=by omega
 simp(maxSteps:=999999)(disch:=omega) only[f34,<-hr,eZ,a1,a2,<-t,hb,b1,i1,e2,J,zF7]
end Go.Eng.Sh
end
section
set_option maxRecDepth 20000
namespace Go.Eng
theorem zES {H:AH}(a:H.ok)(o:AObj)(K:Nat->AH->Rs):XA H o K=K H.next (H.push o):=zCj a o K
theorem mx2S (a b:Nat):mx2 (.int .i64 ((a:Nat):Int)) (.int .i64 ((b:Nat):Int))=some (.int .i64 ((max a b:Nat):Int)):=by
 by_cases h:a<b
 .have hb:ilt ((a:Nat):Int) ((b:Nat):Int)=true:=by rw[xL];simpa using h
  simp only[mx2,hb,cond_true,show max a b=b by omega]
 .have hb:ilt ((a:Nat):Int) ((b:Nat):Int)=false:=by rw[xL];simpa using h
  simp only[mx2,hb,cond_false,show max a b=a by omega]
end Go.Eng
namespace Go.Eng.Sh
open Go.Bk
theorem zJF (D:Dyn)(n:Nat){H:AH}{A nb a:Nat}{is:Nat->Nat}(h:Spc H A nb a is):f23 D n [.ptr A 0] H=some (.int .i64 ((cnt is 0 nb:Nat):Int),H):=by
 obtain⟨c,g,hl,m,c1,o,f,p,q,s⟩:=h;have i:ld1 (.ptr A (8194+0)) H=some (.int .i64 ((cnt is 0 nb:Nat):Int)):=kV g (f 0 (by omega));have j:uI 4 1 (.ptr A 8194) (.int .u8 ((0:Nat):Int))=some (.ptr A (8194+0)):=vL 4 A 8194 .u8 0 rfl (by omega);simp(maxSteps:=999999)(disch:=omega) only[f23,eZ,cq,j,i]
theorem Spc.la' {H:AH}{A nb f:Nat}{is:Nat->Nat}(h:Spc H A nb f is)(j:H.ok){x:Nat}(m:x<8192): ∃H',stN 1 (.ptr A 1) (.int .i64 ((x:Nat):Int)) H=some (qX,H')/\Spc H' A nb x is/\Stp (fun B=>B=A) H H'/\H'.next=H.next:=by
 obtain⟨c,g,hl,p,c1,q,s,t,J,u⟩:=h;obtain⟨v,y,z,C,F⟩:=kK j g (o:=1) (x:= .int .i64 ((x:Nat):Int)) rfl (by omega);refine⟨v,y,⟨_,z,by simp[hl], ?_, ?_,fun i hi=> ?_,fun k a=> ?_,t,m,u⟩,C,F⟩
 .rw[List.getElem?_set_ne (by omega)];exact p
 .rw[List.getElem?_set_self (by omega)]
 .rw[List.getElem?_set_ne (by omega)];exact q i hi
 .rw[List.getElem?_set_ne (by omega)];exact s k a
theorem zN8 (D:Dyn)(n:Nat){H:AH}{A f A4 a nb v w:Nat}{is:Nat->Nat}(m:Box H f (.ptr a 0))(p:Box H A4 (.int .u8 ((w:Nat):Int)))(x:Spc H a nb v is):
  ∀d i k,i+d=nb->d<k->match fnd is w d i with
   | none=>yF k (fE D n) [.yieldTo A, .ptr f 0, .ptr A4 0, .int .i64 ((i:Nat):Int)] H=some (.exit 0 [],H)
   | some j=> ∀H',callV [] D (.yieldTo A) [.int .i64 ((j:Nat):Int)] H=some (.bool false,H')->yF k (fE D n) [.yieldTo A, .ptr f 0, .ptr A4 0, .int .i64 ((i:Nat):Int)] H=some (.ret (.tuple []),H'):=by
 obtain⟨c,g,hl,y,c1,z,J,K,L,N⟩:=id x;have o:ld1 (.ptr a 0) H=some (.int .i64 ((nb:Nat):Int)):=kV g y;intro d
 induction d with
 | zero=>
  intro i k hi C;obtain⟨k,rfl⟩: ∃k',k=k'+1:=⟨k - 1,by omega⟩;have t: ¬((i:Nat):Int)< ((nb:Nat):Int):=by omega
  simp only[fnd];exact y7 (by simp(maxSteps:=999999)(disch:=omega) only[fE,eZ,m.ld,o,t])
 | succ d ih=>
  intro i k hi C;obtain⟨k,rfl⟩: ∃k',k=k'+1:=⟨k - 1,by omega⟩;have t:((i:Nat):Int)< ((nb:Nat):Int):=by omega
  have q:uI 8192 1 (.ptr a 2) (.int .i64 ((i:Nat):Int))=some (.ptr a (2+i)):=vL 8192 a 2 .i64 i rfl (by omega);have s:ld1 (.ptr a (2+i)) H=some (.int .u8 ((is i:Nat):Int)):=kV g (z i (by omega));simp only[fnd];by_cases e:is i=w
  .rw[if_pos e];intro H' u;have h:((is i:Nat):Int)=((w:Nat):Int):=by omega
   exact vV (by simp(maxSteps:=999999)(disch:=omega) only[fE,eZ,m.ld,o,t,q,s,p.ld,h,u])
  .rw[if_neg e];have h: ¬((is i:Nat):Int)=((w:Nat):Int):=by omega
   have hi1:((i:Nat):Int)+((1:Nat):Int)=((i+1:Nat):Int):=by omega
   have F:fE D n [.yieldTo A, .ptr f 0, .ptr A4 0, .int .i64 ((i:Nat):Int)] H=some (.norm [.yieldTo A, .ptr f 0, .ptr A4 0, .int .i64 ((i+1:Nat):Int)],H):=by
    simp(maxSteps:=999999)(disch:=omega) only[fE,eZ,m.ld,o,t,q,s,p.ld,h,hi1]
   have:=ih (i+1) k (by omega) (by omega);rw[jF F];exact this
def ofR (is:Nat->Nat)(w nb ab:Nat):Option Nat:=if cnt is w nb=0 then none else fnd is w (nb - max (ab+1) 2) (max (ab+1) 2)
theorem zK4 (D:Dyn)(n:Nat)(O:10000<=n){H:AH}{A p A4 q a nb K w ab:Nat}{is:Nat->Nat}(m:Box H p (.ptr a 0))(o:Box H A4 (.int .u8 ((w:Nat):Int)))(u:Box H q (.int .i64 ((ab:Nat):Int)))(v:Spc H a nb K is)(x:w<4)(L:ab<nb)(N:2<=nb):
  match ofR is w nb ab with
   | none=>f207 D n [.yieldTo A, .ptr p 0, .ptr A4 0, .ptr q 0] H=some (.tuple [],H)
   | some j=> ∀H',callV [] D (.yieldTo A) [.int .i64 ((j:Nat):Int)] H=some (.bool false,H')->f207 D n [.yieldTo A, .ptr p 0, .ptr A4 0, .ptr q 0] H=some (.tuple [],H'):=by
 obtain⟨c,g,hl,S,c1,T,F,U,V,W⟩:=id v;have s:ld1 (.ptr a (8194+w)) H=some (.int .i64 ((cnt is w nb:Nat):Int)):=kV g (F w x);have t:uI 4 1 (.ptr a 8194) (.int .u8 ((w:Nat):Int))=some (.ptr a (8194+w)):=vL 4 a 8194 .u8 w rfl x;have hi1:((ab:Nat):Int)+((1:Nat):Int)=((ab+1:Nat):Int):=by omega
 have hm:=mx2S (ab+1) 2;obtain⟨i,hi⟩: ∃i,i=max (ab+1) 2:=⟨_,rfl⟩;rw[<-hi]at hm;have f:=zN8 D n (A:=A) m o v (nb - i) i n (by omega) (by omega);simp only[ofR,<-hi];by_cases y:cnt is w nb=0
 .rw[if_pos y];have h:((cnt is w nb:Nat):Int)=((0:Nat):Int):=by omega
  simp(maxSteps:=999999)(disch:=omega) only[f207,eZ,m.ld,o.ld,t,s,h]
 .rw[if_neg y];have h: ¬((cnt is w nb:Nat):Int)=((0:Nat):Int):=by omega
  cases z:fnd is w (nb - i) i with
  | none=>
   rw[z]at f;simp only at f⊢;simp(maxSteps:=999999)(disch:=omega) only[f207,eZ,m.ld,o.ld,t,s,h,u.ld,hi1,hm,f,zBn]
  | some j=>
   rw[z]at f;simp only at f⊢;intro H' C;have J:=f H' C;simp(maxSteps:=999999)(disch:=omega) only[f207,eZ,m.ld,o.ld,t,s,h,u.ld,hi1,hm,J]
def lpT (A1 A2 a:Nat):ALoop:=⟨.ready,none,195,0,[1,2,3],[.ptr A1 0, .ptr A2 0, .ptr a 0]⟩
theorem zPR (m k:Nat){H:AH}{A A1 A2 a:Nat}(f:H.h.get A=some (.loop (lpT A1 A2 a)))(az:List AV):callV [] (dy (m+1)) (.yieldTo A) az H=aU (dy m) m A (lpT A1 A2 a) az H:=by
 show Q3 (tabR (dy m) m) A az H=_;simp only[Q3,f];rfl
theorem zEA (D:Dyn)(n:Nat){H:AH}(s:H.ok){A A1 A2 a i nb la j:Nat}{x y:AV}{is:Nat->Nat}(t:H.h.get A=some (.loop (lpT A1 A2 a)))(b1:Box H A1 (.ptr i 0))(b2:Box H A2 x)(V:Box H a y)(C:Spc H i nb la is)(hj:j<nb)(a5:is j=0)
  (W:A2≠a) (L:A2≠i) (N:a≠i) (d4:A1≠A2) (d5:A1≠a):
  ∃H',aU D n A (lpT A1 A2 a) [.int .i64 ((j:Nat):Int)] H=some (.bool false,H')/\H'.h.get A=some (.loop { lpT A1 A2 a with state:= .done,pending:=some .ret})/\Box H' A2 (.int .i64 ((j:Nat):Int))/\Box H' a (.int .i64 ((0:Nat):Int))/\Spc H' i nb j (X8 is j 2)/\Stp (fun B=>B=A\/B=i\/B=A2\/B=a) H H':=by
 obtain⟨c,F,_⟩:=id C;have z:i≠A:=fun e=>by rw[e,t]at F;cases F
 have n1:A1≠A:=fun e=>by obtain⟨_,hb⟩:=b1;rw[e,t]at hb;cases hb
 have O:A2≠A:=fun e=>by obtain⟨_,hb⟩:=b2;rw[e,t]at hb;cases hb
 have S:a≠A:=fun e=>by obtain⟨_,hb⟩:=V;rw[e,t]at hb;cases hb
 have a6:A1≠i:=fun e=>by
  obtain⟨_,hb⟩:=b1;obtain⟨_,F,hl,_⟩:=C;rw[e,F]at hb;simp only[zB,AObj.cells.injEq]at hb;rw[hb.1]at hl;simp at hl
 have h2:nb<=8192:=by obtain⟨_,_,_,_,_,_,_,h,_⟩:=C;exact h
 have f:Stp (fun B=>B=A) H (H.put A (.loop { lpT A1 A2 a with state:= .busy})):=(Stp.refl s).put (s.lt t) _ (.inr rfl);have Y:(H.put A (.loop { lpT A1 A2 a with state:= .busy})).h.get A=some (.loop { lpT A1 A2 a with state:= .busy}):=by rw[AH.put_get,if_pos rfl]
 have T: ∀K:AH->Rs,xN A H K=K (H.put A (.loop { lpT A1 A2 a with state:= .busy})):=fun K=>by
  simp only[xN,t,lpT,yQ]
 generalize H.put A (.loop { lpT A1 A2 a with state:= .busy})=H1 at f Y T;have U:=b1.mono s f n1;have a7:=C.stp s f z;obtain⟨H2,e2,a8,o,c1⟩:=zC6 D n a7 f.ok hj a5 (b:=2) (by omega) (by omega);have a9:=U.mono f.ok o a6;obtain⟨H3,e3,b0,p,c2⟩:=a8.la' o.ok (x:=j) (by omega);have b4:=((b2.mono s f O).mono f.ok o L).mono o.ok p L;obtain⟨H4,e4,b5,q⟩:=b4.st p.ok (x:= .int .i64 ((j:Nat):Int)) rfl;have b6:=(((V.mono s f S).mono f.ok o N).mono o.ok p N).mono p.ok q (fun e=>W e.symm);obtain⟨v,e5,b7,m⟩:=b6.st q.ok (x:= .int .i64 ((0:Nat):Int)) rfl;have lA:=s.lt t;have N1:=f.next;have N2:=o.next;have N3:=p.next;have N4:=q.next;have N5:=m.next
 have Z:v.h.get A=some (.loop { lpT A1 A2 a with state:= .busy}):=by
  rw[m.keep _ (by omega) (fun e=>S e.symm),q.keep _ (by omega) (fun e=>O e.symm),p.keep _ (by omega) (fun e=>z e.symm),o.keep _ (by omega) (fun e=>z e.symm)];exact Y
 have u:Stp (fun B=>B=A) v (v.put A (.loop { lpT A1 A2 a with state:= .done,pending:=some .ret})):=(Stp.refl m.ok).put (m.ok.lt Z) _ (.inr rfl);have a0:YB A (some .ret) v=some (.bool false,v.put A (.loop { lpT A1 A2 a with state:= .done,pending:=some .ret})):=by
  simp only[YB,Z,yQ,lpT]
 have b8:=b5.mono q.ok m W;have b9:=(b0.stp p.ok q (fun e=>L e.symm)).stp q.ok m (fun e=>N e.symm);have r2:ld1 (.ptr A1 0) H2=some (.ptr i 0):=a9.ld;refine⟨_, ?_,by rw[AH.put_get,if_pos rfl],b8.mono m.ok u O,b7.mono m.ok u S,b9.stp m.ok u z,⟨u.ok,by have:=u.next;omega,fun B hB J=> ?_⟩⟩
 .have hl:QI [1,2,3] (lpT A1 A2 a).live=true:=rfl;have c0:(lpT A1 A2 a).vals=[.ptr A1 0, .ptr A2 0, .ptr a 0]:=rfl;simp(maxSteps:=999999)(disch:=omega) only[aU,eZ,hl,c0,cond_true,T,U.ld,e2,r2,e3,e4,e5];exact a0
 .have a1: ¬B=A:=fun e=>J (.inl e)
  have a2: ¬B=i:=fun e=>J (.inr (.inl e))
  have a3: ¬B=A2:=fun e=>J (.inr (.inr (.inl e)))
  have a4: ¬B=a:=fun e=>J (.inr (.inr (.inr e)))
  rw[u.keep B (by omega) a1,m.keep B (by omega) a4,q.keep B (by omega) a3,p.keep B (by omega) a2,o.keep B (by omega) a2,f.keep B hB a1]
end Go.Eng.Sh
end

