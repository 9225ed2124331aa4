/- A checked evaluator for the program, and what it tells, part 6: no condition. -/
import Derived.Test.YtngkjhifpekkcaaGreatO5
set_option linter.all false
set_option linter.unusedVariables false
set_option linter.unusedSimpArgs false
set_option maxHeartbeats 8000000
section
namespace Go.Eng.Sh
open Go.Nd (Ptr sumL)
structure Ch (H0 H:AH)(At Ac F:Nat)(fes:List (AV×AV))(f:PN)(g:AV)(gl:List Ptr)(last0 last:Nat):Prop where
 prs:Prs H0 H
 gC:H.h.get Ac=some (.cells [.ptr At 0, .int .u64 (last:Nat), .map F,g] 209 1 false)
 gF:H.h.get F=some (.map [10] fes)
 pf:Pend H fes f
 gg:Own 3 72 H g gl.length (gl.flatMap ptrV)
 gN: ∀B,Blk g B→H0.next≤B
 gf: ∀kv∈fes,∀B,blkN kv.2 B→ ¬Blk g B
 dC:H0.next≤Ac
 dF:H0.next≤F
 ne:Ac≠F
 fs: ∀s nd,lookN s f=some nd→last0<s∧s≤last
 le:last0≤last
 few:gl.length≤last+1000
 fd:(f.map Prod.fst).Nodup
 fl:f.length+last0≤last
theorem lookN_mem {s:Nat} : ∀ {q:PN},s∈q.map Prod.fst→ ∃nd,lookN s q=some nd
 | [],h=>by simp at h
 | (t,n)::q,h=>by
  simp only[lookN]
  by_cases e:t=s
  ·exact⟨n,if_pos e⟩
  ·rw[if_neg e]
   simp only[List.map_cons,List.mem_cons]at h
   exact lookN_mem (h.resolve_left fun e'=>e e'.symm)
def chg (Ac F:Nat)(g:AV)(B:Nat):Prop:=B=Ac∨B=F∨Blk g B
def Adv (Ac F:Nat)(H:AH)(g:AV)(H':AH)(g':AV):Prop:=Stp (chg Ac F g) H H'∧ ∀B,Blk g' B→Blk g B∨H.next≤B
def NodeA (H:AH)(g v:AV)(nd:Nd.Node):Prop:=NodeG H v nd∧ ∀B,blkN v B→ ¬Blk g B
theorem Adv.prs {Ac F:Nat}{H H':AH}(g:AV)(s:Prs H H'):Adv Ac F H g H' g:=⟨s.mono (fun _ _ x=>x.elim),fun _ h=> .inl h⟩
theorem Adv.trans {Ac F:Nat}{H H1 H2:AH}{g g1 g2:AV}(hA:Ac<H.next)(hF:F<H.next)(h:Adv Ac F H g H1 g1)(k:Adv Ac F H1 g1 H2 g2):Adv Ac F H g H2 g2:=by
 refine⟨⟨k.1.ok,Nat.le_trans h.1.next k.1.next,fun A hA hS=> ?_⟩,fun B hB=> ?_⟩
 ·rw[k.1.keep A (Nat.lt_of_lt_of_le hA h.1.next) (fun hc=> ?_),h.1.keep A hA hS]
  rcases hc with e | e | e
  ·exact hS (.inl e)
  ·exact hS (.inr (.inl e))
  ·rcases h.2 A e with e | e
   ·exact hS (.inr (.inr e))
   ·omega
 ·have:=h.1.next
  rcases k.2 B hB with e | e
  ·exact h.2 B e
  ·exact .inr (by omega)
theorem Ch.ltC {H0 H:AH}{At Ac F:Nat}{fes:List (AV×AV)}{f:PN}{g:AV}{gl:List Ptr}{last0 last:Nat}(h:Ch H0 H At Ac F fes f g gl last0 last):Ac<H.next:=h.prs.ok.lt h.gC
theorem Ch.ltF {H0 H:AH}{At Ac F:Nat}{fes:List (AV×AV)}{f:PN}{g:AV}{gl:List Ptr}{last0 last:Nat}(h:Ch H0 H At Ac F fes f g gl last0 last):F<H.next:=h.prs.ok.lt h.gF
theorem Ch.keep {H0 H H':AH}{At Ac F:Nat}{fes:List (AV×AV)}{f:PN}{g v:AV}{gl:List Ptr}{last0 last:Nat}{nd:Nd.Node}(h:Ch H0 H At Ac F fes f g gl last0 last)(hv:NodeA H g v nd)(s:Stp (chg Ac F g) H H'):NodeG H' v nd:=
 hv.1.stp s fun A hA hc=>by
  rcases hc with rfl | rfl | e
  ·exact hv.1.nblk h.gC (.inl ⟨_,_,_,_,rfl,fun _ _ e=>by cases e⟩) hA
  ·exact hv.1.nblk h.gF (.inr (.inl ⟨_,_,rfl⟩)) hA
  ·exact hv.2 A hA e
theorem Ch.next {H0 H H':AH}{At Ac F:Nat}{fes:List (AV×AV)}{f:PN}{g g' v:AV}{gl:List Ptr}{last0 last:Nat}{nd:Nd.Node}(h:Ch H0 H At Ac F fes f g gl last0 last)(hv:NodeA H g v nd)(s:Adv Ac F H g H' g'):NodeA H' g' v nd:=
 ⟨h.keep hv s.1,fun B hB hg=>by
  rcases s.2 B hg with e | e
  ·exact hv.2 B hB e
  ·have:=hv.1.lt hB;omega⟩
theorem Ch.step {H0 H H':AH}{At Ac F:Nat}{fes:List (AV×AV)}{f:PN}{g:AV}{gl:List Ptr}{last0 last:Nat}(h:Ch H0 H At Ac F fes f g gl last0 last)(s:Prs H H'):Ch H0 H' At Ac F fes f g gl last0 last:=
 ⟨h.prs.trans s,Prs.get s h.prs.ok h.gC,Prs.get s h.prs.ok h.gF,h.pf.frame fun kv _ nd hn=>hn.prs s,h.gg.mono s (fun _ _ x=>x),h.gN,h.gf,h.dC,h.dF,h.ne,h.fs,h.le,h.few,h.fd,h.fl⟩
theorem NodeA.prs {H H':AH}{g v:AV}{nd:Nd.Node}(h:NodeA H g v nd)(s:Prs H H'):NodeA H' g v nd:=⟨h.1.prs s,h.2⟩
theorem NodeF.hand {H0 H H':AH}{At Ac F:Nat}{fes:List (AV×AV)}{f:PN}{g v:AV}{gl:List Ptr}{last0 last:Nat}{nd:Nd.Node}(h:Ch H0 H At Ac F fes f g gl last0 last){N:Nat}(hN:H.next≤N)(hv:NodeF N H' v nd):NodeA H' g v nd:=
 ⟨hv.1,fun B hB hg=>by have:=hv.2 B hB;have:=Rw.blk h.gg.row hg;omega⟩
theorem NodeG.hand {H0 H H':AH}{At Ac F:Nat}{fes:List (AV×AV)}{f:PN}{g v:AV}{gl:List Ptr}{last0 last:Nat}{nd:Nd.Node}(h:Ch H0 H At Ac F fes f g gl last0 last)(hv:NodeG H' v nd)(ho: ∀B,blkN v B→B<H0.next):NodeA H' g v nd:=
 ⟨hv,fun B hB hg=>by have:=ho B hB;have:=h.gN B hg;omega⟩
theorem bldP (e:TypeId)(p:Ptr)(z:List AV)(hz:z.length=3):bldL e 3 1 z [(0, .agg (ptrV p))]=some (.cells (ptrV p) e 3 false,fun A=> .slice A 0 1 2):=by
 match z,hz with
 | [_,_,_],_=>rfl
theorem sub3p (p:Ptr):subN (ptrV p) 0 3=some (ptrV p):=rfl
theorem goes_ok (D:Dyn)(n:Nat){H0 H:AH}{At Ac F:Nat}{fes:List (AV×AV)}{f:PN}{g:AV}{gl:List Ptr}{last0 last:Nat}(h:Ch H0 H At Ac F fes f g gl last0 last)(p:Ptr)(hl:gl.length+1≤last+1000)(hb:last≤900000000):
  ∃g' H',f105 D n [.ptr Ac 0, .agg (ptrV p)] H=some (.tuple [],H')∧Ch H0 H' At Ac F fes f g' (gl++[p]) last0 last∧Adv Ac F H g H' g':=by
 obtain⟨H1,A3,b1,p1,g1,m1,n1⟩:=box h.prs.ok (.cells (ptrV p) 72 1 false)
 obtain⟨H2,A4,b2,p2,g2,m2,n2⟩:=box p1.ok (.cells (ptrV p) 72 3 false)
 have P2:=p1.trans p2
 have h2:=h.step P2
 have hsrc:srcOf 3 (.slice A4 0 1 2) H2=some (1,ptrV p):=by
  simp only[srcOf,g2]
  rfl
 obtain⟨g',H3,e3,o3,s3,w3,f3⟩:=apP_any (bytes:=24) h2.prs.ok (by decide) h2.gg hsrc rfl rfl (by omega) (by decide)
 have nC: ¬Blk g Ac:=fun hB=>by
  obtain⟨_,⟨rfl,_⟩ | ⟨A,rfl,_,hg⟩⟩:=h2.gg
  ·exact Blk.nil.1 hB
  ·rw[← Blk.slice.1 hB,h2.gC]at hg;simp at hg
 have nF: ¬Blk g F:=fun hB=>by
  obtain⟨_,⟨rfl,_⟩ | ⟨A,rfl,_,hg⟩⟩:=h2.gg
  ·exact Blk.nil.1 hB
  ·rw[← Blk.slice.1 hB,h2.gF]at hg;simp at hg
 have gC3:H3.h.get Ac=some (.cells [.ptr At 0, .int .u64 (last:Nat), .map F,g] 209 1 false):=by rw[s3.keep _ h2.ltC nC];exact h2.gC
 have gF3:H3.h.get F=some (.map [10] fes):=by rw[s3.keep _ h2.ltF nF];exact h2.gF
 obtain⟨H4,e4,g4,s4,n4⟩:=st_fld s3.ok gC3 (o:=3) (x:=g') o3.row.isCell (by simp)
 have lt4: ∀B,Blk g' B→B<H3.next:=fun B hB=>Rw.blk o3.row hB
 have nC': ¬Blk g' Ac:=fun hB=>by
  rcases f3 Ac hB with e | e
  ·exact nC e
  ·have:=h2.ltC;omega
 have S2:Stp (chg Ac F g) H2 H4:=(s3.mono (fun _ _ x=> .inr (.inr x))).trans (s4.mono (fun _ _ x=> .inl x))
 have S:Stp (chg Ac F g) H H4:=(P2.mono (fun _ _ x=>x.elim)).trans S2
 have hadv:Adv Ac F H g H4 g':=⟨S,fun B hB=>by
  rcases f3 B hB with e | e
  ·exact .inl e
  ·have:=P2.next;exact .inr (by omega)⟩
 have hfl:(gl++[p]).flatMap ptrV=gl.flatMap ptrV++ptrV p:=by simp
 refine⟨g',H4, ?_,⟨?_, ?_, ?_, ?_, ?_, ?_, ?_,h.dC,h.dF,h.ne,h.fs,h.le,by simpa using hl,h.fd,h.fl⟩,hadv⟩
 ·have e1:=bldP 72 p [.int .i64 ((0:Nat):Int), .int .i64 ((0:Nat):Int), .int .u64 ((0:Nat):Int)] rfl
  simp(disch:=omega) only[f105,ev,lg,wnt_undef,ew,b1,ld1_get (Prs.get p1 h.prs.ok h.gC),ldN_get g1,sub3p,Option.map_some,e1,b2,e3,e4]
 ·exact h.prs.fresh S (fun B hB=>by
   have:=h.dC;have:=h.dF
   rcases hB with e | e | e
   ·omega
   ·omega
   ·exact h.gN B e)
 ·exact g4
 ·rw[s4.keep _ (by have:=s3.next;have:=h2.ltF;omega) (fun e=>h.ne e.symm)];exact gF3
 ·exact h.pf.frame fun kv hkv nd hn=>h.keep ⟨hn,h.gf kv hkv⟩ S
 ·rw[hfl]
  have:=o3.mono s4 (fun B hB e=>nC' (e▸hB))
  simpa using this
 ·intro B hB
  rcases f3 B hB with e | e
  ·exact h.gN B e
  ·have:=h2.prs.next;omega
 ·intro kv hkv B hB hg
  obtain⟨i,hi⟩:=List.mem_iff_getElem.1 hkv
  have hlt:B<H.next:=by
   have hp: ∀ {es:List (AV×AV)} {q:PN},Pend H es q→ ∀kv∈es,∃nd,NodeG H kv.2 nd:=by
    intro es
    induction es with
    | nil=>intro q _ kv h;simp at h
    | cons e es ih=>
     intro q hq kv hk
     match q,hq with
     | (t,nd)::q,hq=>
      rcases List.mem_cons.1 hk with rfl | hk
      ·exact⟨nd,hq.1.2⟩
      ·exact ih hq.2 kv hk
   obtain⟨nd,hn⟩:=hp h.pf kv hkv
   exact hn.lt hB
  rcases f3 B hg with e | e
  ·exact h.gf kv hkv B hB e
  ·have:=P2.next;omega
theorem add_ok (D:Dyn)(n:Nat){H0 H:AH}{At Ac F:Nat}{fes:List (AV×AV)}{f:PN}{g v:AV}{gl:List Ptr}{last0 last:Nat}{nd:Nd.Node}(h:Ch H0 H At Ac F fes f g gl last0 last)(hv:NodeA H g v nd)(hb:last≤900000000):
  ∃H',f102 D n [.ptr Ac 0,v] H=some (.agg (ptrV (pp (last+1))),H')∧Ch H0 H' At Ac F (fes++[(.int .u64 ((last+1:Nat):Int),v)]) (f++[(last+1,nd)]) g gl last0 (last+1)∧Adv Ac F H g H' g:=by
 obtain⟨l,rfl,ll,lc⟩:=hv.1.cells
 obtain⟨H1,A3,b1,p1,g1,m1,n1⟩:=box h.prs.ok (.cells l 133 1 false)
 obtain⟨H2,A4,b2,p2,g2,m2,n2⟩:=box p1.ok (.cells [.int .i64 ((0:Nat):Int), .int .i64 ((0:Nat):Int), .int .u64 ((0:Nat):Int)] 72 1 false)
 have P2:=p1.trans p2
 have h2:=h.step P2
 obtain⟨H3,e3,g3,s3,n3⟩:=st_fld h2.prs.ok h2.gC (o:=1) (x:= .int .u64 ((last+1:Nat):Int)) rfl (by simp)
 have g3:H3.h.get Ac=some (.cells [.ptr At 0, .int .u64 ((last+1:Nat):Int), .map F,g] 209 1 false):=g3
 have gF3:H3.h.get F=some (.map [10] fes):=by rw[s3.keep _ h2.ltF (fun e=>h.ne e.symm)];exact h2.gF
 have hno:findA (.int .u64 ((last+1:Nat):Int)) fes=none:=(h.pf.find (last+1)).2 (by
  cases hk:lookN (last+1) f with
  | none=>rfl
  | some nd'=>have:=h.fs _ _ hk;omega)
 have e4:upM [10] (.map F) (.int .u64 ((last+1:Nat):Int)) (.agg l) H3=some (undefA,H3.put F (.map [10] (fes++[(.int .u64 ((last+1:Nat):Int), .agg l)]))):=by
  simp only[upM,keyU,cond_true,gF3,show eqNL [10] [10]=true from rfl,setA_none hno,putA_ok]
 have gF4:(H3.put F (.map [10] (fes++[(.int .u64 ((last+1:Nat):Int), .agg l)]))).h.get F=some (.map [10] (fes++[(.int .u64 ((last+1:Nat):Int), .agg l)])):=by rw[AH.put_get,if_pos rfl]
 have s4:Stp (fun B=>B=F) H3 (H3.put F (.map [10] (fes++[(.int .u64 ((last+1:Nat):Int), .agg l)]))):=(Stp.refl s3.ok).put (s3.ok.lt gF3) _ (.inr rfl)
 generalize H3.put F (.map [10] (fes++[(.int .u64 ((last+1:Nat):Int), .agg l)]))=H4 at e4 gF4 s4
 have gC4:H4.h.get Ac=some (.cells [.ptr At 0, .int .u64 ((last+1:Nat):Int), .map F,g] 209 1 false):=by rw[s4.keep _ (s3.ok.lt g3) h.ne];exact g3
 have hC0:=h.ltC;have hF0:=h.ltF
 have N1:=p1.next;have N2:=p2.next;have N3:=s3.next;have N4:=s4.next
 have g44:H4.h.get A4=some (.cells [.int .i64 ((0:Nat):Int), .int .i64 ((0:Nat):Int), .int .u64 ((0:Nat):Int)] 72 1 false):=by
  rw[s4.keep _ (by omega) (by omega),s3.keep _ n2 (by omega)];exact g2
 have g33:ldN 4 (.ptr A3 0) H3=some (.agg l):=agg4 (e:=133) (by rw[s3.keep _ (by omega) (by omega)];exact Prs.get p2 p1.ok g1) ll
 obtain⟨H5,e5,g5,s5,n5⟩:=st_all s4.ok g44 (l':=ptrV (pp (last+1))) rfl rfl
 have e5':stN 3 (.ptr A4 0) (.agg (ptrV (pp (last+1)))) H4=some (undefA,H5):=e5
 have S4:Stp (chg Ac F g) H H4:=((P2.mono (fun _ _ x=>x.elim)).trans (s3.mono (fun _ _ x=> .inl x))).trans (s4.mono (fun _ _ x=> .inr (.inl x)))
 have S5:Stp (chg Ac F g) H H5:=⟨s5.ok,Nat.le_trans S4.next s5.next,fun A hA hS=>by rw[s5.keep A (by omega) (by omega),S4.keep A hA hS]⟩
 have hadv:Adv Ac F H g H5 g:=⟨S5,fun B hB=> .inl hB⟩
 have hwr:IntKind.wrap .u64 (((last:Nat):Int)+((1:Nat):Int))=((last+1:Nat):Int):=by rw[wrap_u64];omega
 have bs:bldS [(0,1),(1,1),(2,1)] [.int .i64 ((0:Nat):Int), .int .i64 ((0:Nat):Int), .int .u64 ((0:Nat):Int)] [(0, .int .i64 ((1:Nat):Int)),(2, .int .u64 ((last+1:Nat):Int))]=some (.agg (ptrV (pp (last+1)))):=rfl
 have r5:ldN 3 (.ptr A4 0) H5=some (.agg (ptrV (pp (last+1)))):=by rw[ldN_get g5];rfl
 have hv':=h.keep hv S5
 refine⟨H5, ?_,⟨?_, ?_, ?_, ?_, ?_,h.gN, ?_,h.dC,h.dF,h.ne, ?_,by have:=h.le;omega,by have:=h.few;omega, ?_,by have:=h.fl;simp;omega⟩,hadv⟩
 ·simp(config:= { maxSteps:=1000000}) (disch:=omega) only[f102,ev,lg,wnt_undef,ew,b1,b2,ld1_get h2.gC,hwr,e3,ld1_get g3,g33,e4,ld1_get gC4,bs,e5',r5]
 ·exact h.prs.fresh S5 (fun B hB=>by
   have:=h.dC;have:=h.dF
   rcases hB with e | e | e
   ·omega
   ·omega
   ·exact h.gN B e)
 ·rw[s5.keep _ (by omega) (by omega)];exact gC4
 ·rw[s5.keep _ (by omega) (by omega)];exact gF4
 ·exact Pend.snoc hv' (h.pf.frame fun kv hkv nd hn=>h.keep ⟨hn,h.gf kv hkv⟩ S5)
 ·have nC: ∀B,Blk g B→ ¬B=Ac:=fun B hB e=>by
   subst e
   obtain⟨_,⟨rfl,_⟩ | ⟨A,rfl,_,hg⟩⟩:=h.gg
   ·exact Blk.nil.1 hB
   ·rw[← Blk.slice.1 hB,h.gC]at hg;simp at hg
  have nF: ∀B,Blk g B→ ¬B=F:=fun B hB e=>by
   subst e
   obtain⟨_,⟨rfl,_⟩ | ⟨A,rfl,_,hg⟩⟩:=h.gg
   ·exact Blk.nil.1 hB
   ·rw[← Blk.slice.1 hB,h.gF]at hg;simp at hg
  exact(((h2.gg.mono s3 nC).mono s4 nF).mono s5 (fun B hB e=>by have:=Rw.blk h.gg.row hB;omega))
 ·intro kv hkv B hB
  rcases List.mem_append.1 hkv with hkv | hkv
  ·exact h.gf kv hkv B hB
  ·simp only[List.mem_singleton]at hkv;subst hkv;exact hv.2 B hB
 ·intro s nd' hs
  rw[lookN_app]at hs
  cases hk:lookN s f with
  | some nd2=>have:=h.fs _ _ hk;omega
  | none=>
   rw[hk]at hs
   simp only[lookN]at hs
   split at hs
   ·have:=h.le;omega
   ·cases hs
 ·rw[List.map_append,List.nodup_append]
  refine⟨h.fd,by simp,fun a ha b hb e=> ?_⟩
  simp only[List.map_cons,List.map_nil,List.mem_singleton]at hb
  subst hb;subst e
  obtain⟨nd2,h2⟩:=lookN_mem ha
  have:=h.fs _ _ h2;omega
end Go.Eng.Sh
end
section
namespace Go.Eng.Sh
open Go.Nd (Ptr sumL cutOk cutA cutB)
inductive CutsN:Nd.Node→List Nd.Node→List Str→Prop
 | one {nd:Nd.Node} :Nd.size nd≤500→CutsN nd [nd] []
 | more {nd:Nd.Node} {k:Nat} {ps:List Nd.Node} {ss:List Str} :500<Nd.size nd→cutOk nd k→hbnd nd k→CutsN (cutB nd k) ps ss→CutsN nd (cutA nd k::ps) (nd.keys.getD k []::ss)
def Par (H:AH):List (List AV)→List Nd.Node→Prop
 | [],[]=>True
 | l::vs,nd::nds=>(l.length=4∧allCells l=true∧NodeG H (.agg l) nd)∧Par H vs nds
 | _,_=>False
theorem Par.len {H:AH} : ∀ {vs:List (List AV)} {nds:List Nd.Node},Par H vs nds→vs.length=nds.length∧vs.flatten.length=nds.length*4∧allCells vs.flatten=true
 | [],[],_=>⟨rfl,rfl,rfl⟩
 | l::vs,_::nds,h=>by
  obtain⟨a,b,c⟩:=Par.len h.2
  refine⟨by simp[a], ?_, ?_⟩
  ·rw[List.flatten_cons,List.length_append,b,h.1.1,List.length_cons];omega
  ·rw[List.flatten_cons,allCells_mem]
   intro x hx
   rcases List.mem_append.1 hx with hx | hx
   ·exact allCells_mem.1 h.1.2.1 x hx
   ·exact allCells_mem.1 c x hx
 | [],_::_,h=>h.elim
 | _::_,[],h=>h.elim
theorem Par.frame {H H':AH} : ∀ {vs:List (List AV)} {nds:List Nd.Node},Par H vs nds→(∀l∈vs,∀nd,NodeG H (.agg l) nd→NodeG H' (.agg l) nd)→Par H' vs nds
 | [],[],_,_=>trivial
 | l::vs,nd::nds,h,hf=>⟨⟨h.1.1,h.1.2.1,hf l (List.mem_cons_self ..) nd h.1.2.2⟩,Par.frame h.2 fun l hl=>hf l (List.mem_cons_of_mem _ hl)⟩
 | [],_::_,h,_=>h.elim
 | _::_,[],h,_=>h.elim
theorem Par.snoc {H:AH}{l:List AV}{nd:Nd.Node}(hv:l.length=4∧allCells l=true∧NodeG H (.agg l) nd): ∀ {vs:List (List AV)} {nds:List Nd.Node},Par H vs nds→Par H (vs++[l]) (nds++[nd])
 | [],[],_=>⟨hv,trivial⟩
 | _::vs,_::nds,h=>⟨h.1,Par.snoc hv h.2⟩
 | [],_::_,h=>h.elim
 | _::_,[],h=>h.elim
theorem Par.mem {H:AH} : ∀ {vs:List (List AV)} {nds:List Nd.Node} {l:List AV},Par H vs nds→l∈vs→ ∃nd,NodeG H (.agg l) nd
 | [],[],_,_,hl=>by simp at hl
 | k::vs,nd::nds,l,h,hl=>by
  rcases List.mem_cons.1 hl with rfl | hl
  ·exact⟨nd,h.1.2.2⟩
  ·exact Par.mem h.2 hl
 | [],_::_,_,h,_=>h.elim
 | _::_,[],_,h,_=>h.elim
theorem bldN1 (e:TypeId)(l:List AV)(hl:l.length=4)(z:List AV)(hz:z.length=4):bldL e 4 1 z [(0, .agg l)]=some (.cells l e 4 false,fun A=> .slice A 0 1 2):=by
 match z,hz with
 | [_,_,_,_],_=>match l,hl with
  | [_,_,_,_],_=>rfl
theorem src4 {H:AH}{A e:Nat}{l:List AV}{g:Bool}(h:H.h.get A=some (.cells l e 4 g))(hl:l.length=4)(cc:Nat):srcOf 4 (.slice A 0 1 cc) H=some (1,l):=by
 simp only[srcOf,h,subN_some _ _ _ (.inr (show 0+1*4≤l.length by omega)),List.drop_zero,List.take_of_length_le (show l.length≤1*4 by omega)]
theorem shaped_cuttable {nd:Nd.Node}(h:Nd.shaped ltS nd=true)(hz:500<Nd.size nd):cuttable nd:=by
 have hk: ∀k∈nd.keys,k.length≤40:=fun k hk=>by
  simp only[Nd.shaped,Bool.and_eq_true,List.all_eq_true]at h
  have:=h.1.1 k hk
  simp only[Nd.mayK,Bool.and_eq_true,decide_eq_true_eq]at this;omega
 have b1: ∀(c:Nat) (l:List Str),(∀k∈l,k.length≤c)→sumL l≤(c+1)*l.length:=by
  intro c l
  induction l with
  | nil=>simp[sumL]
  | cons a l ih=>
   intro h
   have:=ih fun k hk=>h k (List.mem_cons_of_mem _ hk)
   have:=h a (List.mem_cons_self ..)
   rw[Nd.sumL_cons,List.length_cons,Nat.mul_succ];omega
 have k1:=b1 40 nd.keys hk
 simp only[Nd.size]at hz
 cases hl:nd.leaf with
 | true=>
  simp only[Nd.shaped,hl,if_true,Bool.and_eq_true,decide_eq_true_eq,List.all_eq_true]at h
  have k2:=b1 200 nd.vals fun v hv=>h.2.2 v hv
  rw[h.2.1.2,List.length_nil]at hz
  rw[h.2.1.1]at k2
  exact⟨by omega, .inl hl⟩
 | false=>
  simp only[Nd.shaped,hl,Bool.false_eq_true,if_false,Bool.and_eq_true,decide_eq_true_eq]at h
  rw[h.2.1.1.2]at hz
  have:sumL []=0:=rfl
  rw[h.2.1.2]at hz
  exact⟨by omega, .inr (by omega)⟩
theorem size_small {nd:Nd.Node}(h:Nd.size nd≤10000):small nd:=by
 simp only[Nd.size]at h
 exact⟨by omega,by omega,by omega⟩
theorem cutAll_ok (D:Dyn)(n:Nat)(hn:200000000≤n){H:AH}(hk:H.ok){v:AV}{nd:Nd.Node}(h:NodeG H v nd)(hsh:Nd.shaped ltS nd=true)(hz:Nd.size nd≤10000):
  ∃pv sv H' vs nds ss,f139 D n [v] H=some (.tuple [pv,sv, .int .i64 ((0:Nat):Int)],H')∧Prs H H'∧CutsN nd nds ss∧Own 4 133 H' pv nds.length vs.flatten∧Par H' vs nds∧Own 1 9 H' sv ss.length (ss.map S)∧
   (∀B,Blk pv B→H.next≤B)∧(∀B,Blk sv B→H.next≤B)∧ ∀l∈vs,∀B,blkN (.agg l) B→blkN v B∨H.next≤B:=by
 obtain⟨l0,rfl,l0l,l0c⟩:=h.cells
 obtain⟨H1,A1,b1,p1,g1,m1,n1⟩:=box hk (.cells l0 133 1 false)
 have lp:Fin (loopK n (f139l0 D n) [.ptr A1 0, .nilSlice, .nilSlice] H1) fun x H'=> ∃l nd' vs nds ss pv sv,x= .exit 0 [.ptr A1 0,pv,sv]∧Prs H H'∧H'.h.get A1=some (.cells l 133 1 false)∧l.length=4∧allCells l=true∧NodeG H' (.agg l) nd'∧Nd.size nd'≤500∧
   (∀ps' ss',CutsN nd' ps' ss'→CutsN nd (nds++ps') (ss++ss'))∧Own 4 133 H' pv nds.length vs.flatten∧Par H' vs nds∧Own 1 9 H' sv ss.length (ss.map S)∧(∀B,Blk pv B→H.next≤B)∧(∀B,Blk sv B→H.next≤B)∧
   (∀B,blkN (.agg l) B→blkN (.agg l0) B∨H.next≤B)∧(∀l∈vs,∀B,blkN (.agg l) B→blkN (.agg l0) B∨H.next≤B)∧nds.length≤10000:=by
  refine Fin.loop (fun k us H'=> ∃l nd' vs nds ss pv sv,us=[.ptr A1 0,pv,sv]∧Prs H H'∧H'.h.get A1=some (.cells l 133 1 false)∧l.length=4∧allCells l=true∧NodeG H' (.agg l) nd'∧Nd.shaped ltS nd'=true∧
   (∀ps' ss',CutsN nd' ps' ss'→CutsN nd (nds++ps') (ss++ss'))∧Own 4 133 H' pv nds.length vs.flatten∧Par H' vs nds∧Own 1 9 H' sv ss.length (ss.map S)∧(∀B,Blk pv B→H.next≤B)∧(∀B,Blk sv B→H.next≤B)∧
   (∀B,blkN (.agg l) B→blkN (.agg l0) B∨H.next≤B)∧(∀l∈vs,∀B,blkN (.agg l) B→blkN (.agg l0) B∨H.next≤B)∧(∀B,blkN (.agg l) B→ ¬Blk sv B)∧(∀l∈vs,∀B,blkN (.agg l) B→ ¬Blk sv B)∧ss.length=nds.length∧nds.length+Nd.size nd'≤10000∧k=Nd.size nd') ?_ n (Nd.size nd) _ H1
   ⟨l0,nd,[],[],[], .nilSlice, .nilSlice,rfl,p1,g1,l0l,l0c,h.prs p1,hsh,fun _ _ h=>h,Own.nil ..,trivial,Own.nil ..,fun B hB=>(Blk.nil.1 hB).elim,fun B hB=>(Blk.nil.1 hB).elim,fun B hB=> .inl hB,by simp,fun B _ hB=>(Blk.nil.1 hB).elim,by simp,rfl,by simpa using hz,rfl⟩ (by omega)
  rintro k us H' ⟨l,nd',vs,nds,ss,pv,sv,rfl,P,gA,ll,lc,hG,hsh',hcut,oP,hPar,oS,bP,bS,bl,bvs,al,avs,hlen,hsum,rfl⟩
  have hsm:small nd':=size_small (by omega)
  obtain⟨z,H2,e2,rfl,p2⟩:=size_ok D n P.ok hG.node hsm hn
  have P2:=P.trans p2
  have g2:=Prs.get p2 P.ok gA
  by_cases hbig:500<Nd.size nd'
  case neg=>
   have hbI: ¬((500:Nat):Int)< ((Nd.size nd':Nat):Int):=by omega
   refine⟨.exit 0 [.ptr A1 0,pv,sv],H2, ?_,l,nd',vs,nds,ss,pv,sv,rfl,P2,g2,ll,lc,hG.prs p2,by omega,hcut,oP.mono p2 (fun _ _ x=>x),hPar.frame (fun l hl nd hn=>hn.prs p2),oS.mono p2 (fun _ _ x=>x),bP,bS,bl,bvs,by omega⟩
   simp(disch:=omega) only[f139l0,ev,lg,wnt_undef,ew,agg4 gA ll,e2,hbI]
  case pos=>
  have hbI:((500:Nat):Int)< ((Nd.size nd':Nat):Int):=by omega
  have hcb:=shaped_cuttable hsh' hbig
  obtain⟨va,sep,vb,e,H3,e3,p3,hc⟩:=cut_ok D n hn P2.ok (hG.prs p2) hsm
  rcases hc with⟨rfl,k,_,hck,hb,rfl,ga,gb⟩ | ⟨_,_,hno,_⟩
  case inr=>exact absurd ⟨hsh',hcb⟩ hno
  have P3:=P2.trans p3
  have p13:Prs H' H3:=p2.trans p3
  obtain⟨la,rfl,lal,lac⟩:=ga.1.cells
  obtain⟨lb,rfl,lbl,lbc⟩:=gb.1.cells
  obtain⟨H4,A7,b4,p4,g4,m4,n4⟩:=box P3.ok (.cells [.bool false, .nilSlice, .nilSlice, .nilSlice] 133 1 false)
  obtain⟨H5,A9,b5,p5,g5,m5,n5⟩:=box p4.ok (.cells [.bool false, .nilSlice, .nilSlice, .nilSlice] 133 1 false)
  obtain⟨H6,e6,g6,s6,n6⟩:=st_all p5.ok (Prs.get p5 p4.ok g4) (l':=la) lal lac
  have e6':stN 4 (.ptr A7 0) (.agg la) H5=some (undefA,H6):=e6
  obtain⟨H7,e7,g7,s7,n7⟩:=st_all s6.ok (show H6.h.get A9=some (.cells [.bool false, .nilSlice, .nilSlice, .nilSlice] 133 1 false)by rw[s6.keep _ n5 (by omega)];exact g5) (l':=lb) lbl lbc
  have e7':stN 4 (.ptr A9 0) (.agg lb) H6=some (undefA,H7):=e7
  have N3:=p13.next;have N4:=p4.next;have N5:=p5.next
  have q37:Prs H3 H7:=((p4.trans p5).fresh s6 (fun B hB=>by omega)).fresh s7 (fun B hB=>by omega)
  have g77:H7.h.get A7=some (.cells la 133 1 false):=by rw[s7.keep _ (by omega) (by omega)];exact g6
  obtain⟨H8,A10,b8,p8,g8,m8,n8⟩:=box q37.ok (.cells la 133 4 false)
  have q38:Prs H3 H8:=q37.trans p8
  have q18:Prs H' H8:=p13.trans q38
  obtain⟨H9,e9,o9,s9,n9⟩:=apP_own (bytes:=80) q38.ok (by decide) (oP.mono q18 (fun _ _ x=>x)) (src4 g8 lal 2) (by omega) lac (by omega) (by omega) (by decide)
  have N8:=q38.next
  have nP: ∀(l:List AV) (nd:Nd.Node),NodeG H8 (.agg l) nd→ ∀B,blkN (.agg l) B→ ¬Blk pv B:=fun l nd hg B hB hp=>by
   obtain⟨_,⟨rfl,_⟩ | ⟨C,rfl,_,hgC⟩⟩:=oP.mono q18 (fun _ _ x=>x)
   ·exact Blk.nil.1 hp
   ·rw[Blk.slice.1 hp]at hB
    exact hg.nblk hgC (.inr (.inr ⟨_,_,_,_,rfl,by decide,by decide⟩)) hB
  have oS8:=oS.mono q18 (fun _ _ x=>x)
  have nSP: ∀B,Blk sv B→ ¬Blk pv B:=fun B hB hp=>by
   obtain⟨_,⟨rfl,_⟩ | ⟨C,rfl,_,hgC⟩⟩:=oP.mono q18 (fun _ _ x=>x)
   ·exact Blk.nil.1 hp
   ·obtain⟨_,⟨rfl,_⟩ | ⟨E,rfl,_,hgE⟩⟩:=oS8
    ·exact Blk.nil.1 hB
    ·rw[← Blk.slice.1 hp,Blk.slice.1 hB,hgE]at hgC;simp at hgC
  obtain⟨H10,A29,b10,p10,g10,m10,n10⟩:=box s9.ok (.cells [S (nd'.keys.getD k [])] 9 1 false)
  have oS10:=(oS8.mono s9 nSP).mono p10 (fun _ _ x=>x)
  have hsrc:srcOf 1 (.slice A29 0 1 2) H10=some (1,[S (nd'.keys.getD k [])]):=by
   have:=Rw.srcOf (Rw.lit (cc:=2) p10.ok g10);exact this
  obtain⟨H11,e11,o11,s11,n11⟩:=apP_own (bytes:=16) p10.ok (by decide) oS10 hsrc rfl rfl (by omega) (by omega) (by decide)
  have A1lt:A1<H'.next:=P.ok.lt gA
  have fr: ∀(l:List AV) (nd:Nd.Node),NodeG H8 (.agg l) nd→(∀B,blkN (.agg l) B→ ¬Blk sv B)→NodeG H11 (.agg l) nd:=fun l nd hg ha=>
   ((hg.stp s9 (nP l nd hg)).prs p10).stp s11 ha
  have svlt: ∀B,Blk sv B→B<H3.next:=fun B hB=>by have:=Rw.blk oS.row hB;omega
  have ga8:=ga.1.prs q38
  have gb8:=gb.1.prs q38
  have fA: ∀B,blkN (.agg la) B→ ¬Blk sv B:=fun B hB hs=>by have:=ga.2 B hB;have:=Rw.blk oS.row hs;have:=p2.next;omega
  have fB: ∀B,blkN (.agg lb) B→ ¬Blk sv B:=fun B hB hs=>by have:=gb.2 B hB;have:=Rw.blk oS.row hs;have:=p2.next;omega
  have ga11:=fr la _ ga8 fA
  have gb11:=fr lb _ gb8 fB
  have lt8: ∀(l:List AV) (nd:Nd.Node),NodeG H8 (.agg l) nd→ ∀B,blkN (.agg l) B→B<H10.next:=fun l nd hg B hB=>by have:=hg.lt hB;have:=s9.next;have:=p10.next;omega
  have gA11:H11.h.get A1=some (.cells l 133 1 false):=by
   have e8:H8.h.get A1=some (.cells l 133 1 false):=Prs.get q18 P.ok gA
   have np: ¬Blk pv A1:=fun hp=>by
    obtain⟨_,⟨rfl,_⟩ | ⟨C,rfl,_,hgC⟩⟩:=oP
    ·exact Blk.nil.1 hp
    ·rw[← Blk.slice.1 hp,gA]at hgC;simp at hgC
   have ns: ¬Blk sv A1:=fun hp=>by
    obtain⟨_,⟨rfl,_⟩ | ⟨C,rfl,_,hgC⟩⟩:=oS
    ·exact Blk.nil.1 hp
    ·rw[← Blk.slice.1 hp,gA]at hgC;simp at hgC
   rw[s11.keep _ (by have:=s9.next;have:=p10.next;omega) ns,p10.keep _ (by have:=s9.next;omega) (fun x=>x),s9.keep _ (by omega) np];exact e8
  obtain⟨H12,e12,g12,s12,n12⟩:=st_all s11.ok gA11 (l':=lb) (by omega) lbc
  have e12':stN 4 (.ptr A1 0) (.agg lb) H11=some (undefA,H12):=by rw[ll]at e12;exact e12
  have r9:ldN 4 (.ptr A9 0) H11=some (.agg lb):=agg4 (e:=133) (by
   have np: ¬Blk pv A9:=fun hp=>by have:=Rw.blk oP.row hp;omega
   have ns: ¬Blk sv A9:=fun hp=>by have:=svlt _ hp;omega
   rw[s11.keep _ (by have:=s9.next;have:=p10.next;have:=p8.next;omega) ns,p10.keep _ (by have:=s9.next;have:=p8.next;omega) (fun x=>x),s9.keep _ (by have:=p8.next;omega) np,p8.keep _ (by omega) (fun x=>x)];exact g7) lbl
  have fin: ∀(l2:List AV) (nd2:Nd.Node),NodeG H11 (.agg l2) nd2→NodeG H12 (.agg l2) nd2:=fun l2 nd2 hg=>hg.stp s12 (fun B hB e=>by
   subst e
   have: ∃x r,l=x::r∧ ∀a b,x≠ .str a b:=by
    obtain⟨ks,vs',ps,ee,_⟩:=hG
    simp only[AV.agg.injEq]at ee
    exact⟨_,_,ee,fun _ _ e=>by cases e⟩
   obtain⟨x,r,rfl,hx⟩:=this
   exact hg.nblk gA11 (.inl ⟨x,r,_,_,rfl,hx⟩) hB)
  have Pn:Prs H H12:=by
   have a1:Prs H H9:=(P3.trans q38).fresh s9 bP
   have a2:Prs H H11:=(a1.trans p10).fresh s11 bS
   exact a2.fresh s12 (fun B hB=>by omega)
  have hdec:=Nd.cut_size hsh' hck
  have hsc:=Nd.cut_shaped hsh' hck
  have N9:=s9.next;have N10:=p10.next;have N11:=s11.next
  have PN:=P.next
  refine⟨.norm [.ptr A1 0, .slice H8.next 0 (nds.length+1) 1, .slice H10.next 0 (ss.length+1) 1],H12, ?_,Nd.size (cutB nd' k),hdec.2,lb,cutB nd' k,vs++[la],nds++[cutA nd' k],ss++[nd'.keys.getD k []], .slice H8.next 0 (nds.length+1) 1, .slice H10.next 0 (ss.length+1) 1,rfl,Pn,g12,lbl,lbc,fin _ _ gb11,hsc.2,fun ps' ss' hcc=> ?_, ?_, ?_, ?_,fun B hB=> ?_,fun B hB=> ?_,fun B hB=> ?_,fun l2 hl2 B hB=> ?_,fun B hB hs=> ?_,fun l2 hl2 B hB hs=> ?_,by simp[hlen], ?_,rfl⟩
  ·simp(config:= { maxSteps:=1000000}) (disch:=omega) only[f139l0,ev,lg,wnt_undef,ew,agg4 gA ll,e2,hbI,agg4 g2 ll,e3,pExtract,nth,b4,b5,e6',e7',ne_eq,not_true_eq_false,agg4 g77 lal,bldN1 133 la lal [.bool false, .nilSlice, .nilSlice, .nilSlice] rfl,List.length_cons,List.length_nil,b8,e9,row1 9 (.str 0 0) (S_cell (nd'.keys.getD k [])),b10,e11,r9,e12']
  ·rw[List.append_assoc,List.append_assoc]
   exact hcut _ _ (.more hbig hck hb hcc)
  ·have o9':=((o9.mono p10 (fun _ _ x=>x)).mono s11 (fun B hB hs=>by rw[Blk.slice.1 hB]at hs;have:=svlt _ hs;omega)).mono s12 (fun B hB e=>by rw[Blk.slice.1 hB]at e;omega)
   simpa using o9'
  ·refine Par.snoc ⟨lal,lac,fin _ _ ga11⟩ (hPar.frame fun l2 hl2 nd2 hg=>fin _ _ (fr l2 nd2 (hg.prs q18) (avs l2 hl2)))
  ·have o11':=o11.mono s12 (fun B hB e=>by rw[Blk.slice.1 hB]at e;omega)
   simpa using o11'
  ·rw[Blk.slice.1 hB];omega
  ·rw[Blk.slice.1 hB];omega
  ·exact .inr (by have:=gb.2 B hB;have:=p2.next;omega)
  ·rcases List.mem_append.1 hl2 with hl2 | hl2
   ·exact bvs l2 hl2 B hB
   ·simp only[List.mem_singleton]at hl2;subst hl2
    exact .inr (by have:=ga.2 B hB;have:=p2.next;omega)
  ·rw[Blk.slice.1 hs]at hB;have:=lt8 _ _ gb8 _ hB;omega
  ·rw[Blk.slice.1 hs]at hB
   rcases List.mem_append.1 hl2 with hl2 | hl2
   ·obtain⟨nd2,hg2⟩:=hPar.mem hl2
    have:=lt8 _ _ (hg2.prs q18) _ hB;omega
   ·simp only[List.mem_singleton]at hl2;subst hl2
    have:=lt8 _ _ ga8 _ hB;omega
  ·simp only[List.length_append,List.length_cons,List.length_nil];omega
 obtain⟨x,H2,e2,l,nd',vs,nds,ss,pv,sv,rfl,P,gA,ll,lc,hG,hsz,hcut,oP,hPar,oS,bP,bS,bl,bvs,hcount⟩:=lp
 obtain⟨H3,A3,b3,p3,g3,m3,n3⟩:=box P.ok (.cells l 133 4 false)
 obtain⟨H4,e4,o4,s4,n4⟩:=apP_own (bytes:=80) p3.ok (by decide) (oP.mono p3 (fun _ _ x=>x)) (src4 g3 ll 2) (by omega) lc (by omega) (by omega) (by decide)
 have nP: ∀(l:List AV) (nd:Nd.Node),NodeG H3 (.agg l) nd→ ∀B,blkN (.agg l) B→ ¬Blk pv B:=fun l nd hg B hB hp=>by
  obtain⟨_,⟨rfl,_⟩ | ⟨C,rfl,_,hgC⟩⟩:=oP.mono p3 (fun _ _ x=>x)
  ·exact Blk.nil.1 hp
  ·rw[Blk.slice.1 hp]at hB
   exact hg.nblk hgC (.inr (.inr ⟨_,_,_,_,rfl,by decide,by decide⟩)) hB
 have nSP: ∀B,Blk sv B→ ¬Blk pv B:=fun B hB hp=>by
  obtain⟨_,⟨rfl,_⟩ | ⟨C,rfl,_,hgC⟩⟩:=oP
  ·exact Blk.nil.1 hp
  ·obtain⟨_,⟨rfl,_⟩ | ⟨E,rfl,_,hgE⟩⟩:=oS
   ·exact Blk.nil.1 hB
   ·rw[← Blk.slice.1 hp,Blk.slice.1 hB,hgE]at hgC;simp at hgC
 have fin: ∀(l2:List AV) (nd2:Nd.Node),NodeG H2 (.agg l2) nd2→NodeG H4 (.agg l2) nd2:=fun l2 nd2 hg=>(hg.prs p3).stp s4 (nP l2 nd2 (hg.prs p3))
 have N3:=p3.next;have PN:=P.next
 refine⟨.slice H3.next 0 (nds.length+1) 1,sv,H4,vs++[l],nds++[nd'],ss, ?_,(P.trans p3).fresh s4 bP, ?_, ?_,Par.snoc ⟨ll,lc,fin _ _ hG⟩ (hPar.frame fun l2 hl2 nd2 hg=>fin _ _ hg),(oS.mono p3 (fun _ _ x=>x)).mono s4 nSP,fun B hB=> ?_,bS,fun l2 hl2 B hB=> ?_⟩
 ·simp(config:= { maxSteps:=1000000}) (disch:=omega) only[f139,ev,lg,wnt_undef,ew,b1,e2,f139b1,agg4 gA ll,bldN1 133 l ll [.bool false, .nilSlice, .nilSlice, .nilSlice] rfl,List.length_cons,List.length_nil,b3,e4]
 ·have:=hcut [nd'] [] (.one hsz)
  rwa[List.append_nil]at this
 ·simpa using o4
 ·rw[Blk.slice.1 hB];omega
 ·rcases List.mem_append.1 hl2 with hl2 | hl2
  ·exact bvs l2 hl2 B hB
  ·simp only[List.mem_singleton]at hl2;subst hl2
   exact bl B hB
end Go.Eng.Sh
end
section
namespace Go.Eng
theorem Own.ne {k e n:Nat}{H:AH}{v:AV}{l:List AV}(h:Own k e H v n l){A:Nat}{o:AObj}(hA:H.h.get A=some o)(ho: ∀l e g,o≠ .cells l e k g): ¬Blk v A:=fun hB=>by
 obtain⟨_,⟨rfl,_⟩ | ⟨B,rfl,_,hg⟩⟩:=h
 ·exact Blk.nil.1 hB
 ·rw[Blk.slice.1 hB]at hA;rw[hg]at hA;exact ho _ _ _ (Option.some.inj hA).symm
theorem Own.get {k e n:Nat}{H:AH}{v:AV}{l:List AV}(h:Own k e H v n l){B:Nat}(hB:Blk v B):H.h.get B=some (.cells l e k true):=by
 obtain⟨_,⟨rfl,_⟩ | ⟨C,rfl,_,hg⟩⟩:=h
 ·exact(Blk.nil.1 hB).elim
 ·rw[Blk.slice.1 hB];exact hg
end Go.Eng
namespace Go.Eng.Sh
open Go.Nd (Ptr sumL)
def addsN (last:Nat):List Nd.Node→PN
 | []=>[]
 | nd::nds=>(last+1,nd)::addsN (last+1) nds
def addsE (last:Nat):List (List AV)→List (AV×AV)
 | []=>[]
 | l::vs=>(.int .u64 ((last+1:Nat):Int), .agg l)::addsE (last+1) vs
def pps (last:Nat):Nat→List Ptr
 | 0=>[]
 | n+1=>pp (last+1)::pps (last+1) n
theorem addsN_snoc (x:Nd.Node): ∀(l:List Nd.Node) (last:Nat),addsN last (l++[x])=addsN last l++[(last+l.length+1,x)]
 | [],last=>rfl
 | a::l,last=>by
  simp only[List.cons_append,addsN,addsN_snoc x l,List.length_cons]
  rw[show last+1+l.length+1=last+(l.length+1)+1 from by omega]
theorem addsE_snoc (x:List AV): ∀(l:List (List AV)) (last:Nat),addsE last (l++[x])=addsE last l++[(.int .u64 ((last+l.length+1:Nat):Int), .agg x)]
 | [],last=>rfl
 | a::l,last=>by
  simp only[List.cons_append,addsE,addsE_snoc x l,List.length_cons]
  rw[show last+1+l.length+1=last+(l.length+1)+1 from by omega]
theorem pps_snoc: ∀(n last:Nat),pps last (n+1)=pps last n++[pp (last+n+1)]
 | 0,last=>rfl
 | n+1,last=>by
  rw[pps,pps_snoc n (last+1),pps,List.cons_append,show last+1+n+1=last+(n+1)+1 from by omega]
theorem pps_len: ∀(n last:Nat),(pps last n).length=n
 | 0,_=>rfl
 | n+1,last=>by simp[pps,pps_len n (last+1)]
theorem mem_addsE: ∀ {vs:List (List AV)} {last:Nat} {kv:AV×AV},kv∈addsE last vs→ ∃l∈vs,kv.2= .agg l
 | [],_,_,h=>by simp[addsE]at h
 | l::vs,last,kv,h=>by
  rcases List.mem_cons.1 h with rfl | h
  ·exact⟨l,List.mem_cons_self ..,rfl⟩
  ·obtain⟨l',h1,h2⟩:=mem_addsE h
   exact⟨l',List.mem_cons_of_mem _ h1,h2⟩
theorem Ch.other {H0 H H':AH}{At Ac F:Nat}{fes:List (AV×AV)}{f:PN}{g:AV}{gl:List Ptr}{last0 last:Nat}{S:Nat→Prop}(h:Ch H0 H At Ac F fes f g gl last0 last)(s:Stp S H H')(hA: ¬S Ac)(hF: ¬S F)(hg: ∀B,Blk g B→ ¬S B)(hn: ∀kv∈fes,∀B,blkN kv.2 B→ ¬S B)(h0: ∀B,S B→H0.next≤B):Ch H0 H' At Ac F fes f g gl last0 last:=
 ⟨h.prs.fresh s h0,by rw[s.keep _ h.ltC hA];exact h.gC,by rw[s.keep _ h.ltF hF];exact h.gF,h.pf.frame fun kv hkv nd hn'=>hn'.stp s (hn kv hkv),h.gg.mono s hg,h.gN,h.gf,h.dC,h.dF,h.ne,h.fs,h.le,h.few,h.fd,h.fl⟩
theorem Pend.mem {H:AH} : ∀ {es:List (AV×AV)} {q:PN},Pend H es q→ ∀kv∈es,∃nd,NodeG H kv.2 nd
 | [],[],_,_,hk=>by simp at hk
 | e::es,(t,nd)::q,hq,kv,hk=>by
  rcases List.mem_cons.1 hk with rfl | hk
  ·exact⟨nd,hq.1.2⟩
  ·exact Pend.mem hq.2 kv hk
 | [],_::_,h,_,_=>h.elim
 | _::_,[],h,_,_=>h.elim
theorem par_at {H:AH} : ∀ {vs:List (List AV)} {nds:List Nd.Node} {i:Nat} (_:Par H vs nds) (hi:i<nds.length),∃l nd,vs[i]? =some l∧nds[i]? =some nd∧l.length=4∧allCells l=true∧NodeG H (.agg l) nd∧(vs.flatten.drop (i*4)).take 4=l∧vs.take (i+1)=vs.take i++[l]∧nds.take (i+1)=nds.take i++[nd]
 | [],[],_,_,hi=>by simp at hi
 | l::vs,nd::nds,0,h,_=>⟨l,nd,rfl,rfl,h.1.1,h.1.2.1,h.1.2.2,by simp[List.take_append_of_le_length,h.1.1,List.take_of_length_le],rfl,rfl⟩
 | k::vs,m::nds,i+1,h,hi=>by
  obtain⟨l,nd,h1,h2,h3,h4,h5,h6,h7,h8⟩:=par_at h.2 (by simpa using hi)
  refine⟨l,nd,h1,h2,h3,h4,h5, ?_,by simp[h7],by simp[h8]⟩
  rw[List.flatten_cons,List.drop_append,show(i+1)*4 - k.length=i*4 from by rw[h.1.1];omega,List.drop_eq_nil_of_le (by rw[h.1.1];omega),List.nil_append];exact h6
 | [],_::_,_,h,_=>h.elim
 | _::_,[],_,h,_=>h.elim
theorem addAll_ok (D:Dyn)(n:Nat)(hn:200000000≤n){H0 H:AH}{At Ac F:Nat}{fes:List (AV×AV)}{f:PN}{g pv:AV}{gl:List Ptr}{last0 last:Nat}{vs:List (List AV)}{nds:List Nd.Node}(h:Ch H0 H At Ac F fes f g gl last0 last)
  (hp:Own 4 133 H pv nds.length vs.flatten) (hv:Par H vs nds) (hg: ∀l∈vs,∀B,blkN (.agg l) B→ ¬Blk g B) (hb:last+nds.length≤900000000) (hm:nds.length≤10000):
  ∃kv H',f141 D n [.ptr Ac 0,pv] H=some (kv,H')∧Ch H0 H' At Ac F (fes++addsE last vs) (f++addsN last nds) g gl last0 (last+nds.length)∧Adv Ac F H g H' g∧Own 3 72 H' kv nds.length ((pps last nds.length).flatMap ptrV)∧ ∀B,Blk kv B→H.next≤B:=by
 have hlen:=hv.len.1
 have lp:=loop_inv (b:=f141l0 D n) nds.length (fun i us H'=> ∃kv,us=[.ptr Ac 0,kv,pv, .int .i64 (nds.length:Nat), .int .i64 (i:Nat)]∧Ch H0 H' At Ac F (fes++addsE last (vs.take i)) (f++addsN last (nds.take i)) g gl last0 (last+i)∧Adv Ac F H g H' g∧
   Own 3 72 H' kv i ((pps last i).flatMap ptrV)∧ ∀B,Blk kv B→H.next≤B) (fun i us H' hi ⟨kv,hus,hc,ha,ho,hB⟩=>by
  subst hus
  obtain⟨l,nd,v1,v2,ll,lc,hG,hfl,ht1,ht2⟩:=par_at hv hi
  have hvl:i<vs.length:=by omega
  have hlm:l∈vs:=List.mem_of_getElem? v1
  have hA:=h.next ⟨hG,hg l hlm⟩ ha
  have hp':Own 4 133 H' pv nds.length vs.flatten:=hp.mono ha.1 (fun B hB hx=>by
   have hgB:=hp.get hB
   rcases hx with rfl | rfl | e
   ·rw[h.gC]at hgB;simp at hgB
   ·rw[h.gF]at hgB;simp at hgB
   ·rw[h.gg.get e]at hgB;simp at hgB)
  obtain⟨q,i1,i2⟩:=Rw.ldN hp'.row hi
  rw[hfl]at i2
  obtain⟨H1,A7,b1,p1,g1,m1,n1⟩:=box hc.prs.ok (.cells [.bool false, .nilSlice, .nilSlice, .nilSlice] 133 1 false)
  obtain⟨H2,e2,g2,s2,n2⟩:=st_all p1.ok g1 (l':=l) ll lc
  have e2':stN 4 (.ptr A7 0) (.agg l) H1=some (undefA,H2):=e2
  have p2:Prs H' H2:=p1.fresh s2 (fun B hB=>by omega)
  have hc2:=hc.step p2
  obtain⟨H3,e3,hc3,ha3⟩:=add_ok D n hc2 (hA.prs p2) (by omega)
  obtain⟨H4,A8,b4,p4,g4,m4,n4⟩:=box hc3.prs.ok (.cells (ptrV (pp (last+i+1))) 72 3 false)
  have hc4:=hc3.step p4
  have hsrc:srcOf 3 (.slice A8 0 1 2) H4=some (1,ptrV (pp (last+i+1))):=by
   simp only[srcOf,g4];rfl
  have NH:=ha.1.next;have N2:=p2.next;have N3:=ha3.1.next;have N4:=p4.next
  have hkg: ∀B,Blk kv B→ ¬Blk g B:=fun B hB' hgB=>by have:=hB B hB';have:=Rw.blk h.gg.row hgB;omega
  have ho4:Own 3 72 H4 kv i ((pps last i).flatMap ptrV):=((ho.mono p2 (fun _ _ x=>x)).mono ha3.1 (fun B hB' hx=>by
   rcases hx with rfl | rfl | e
   ·have:=hB _ hB';have:=h.ltC;omega
   ·have:=hB _ hB';have:=h.ltF;omega
   ·exact hkg B hB' e)).mono p4 (fun _ _ x=>x)
  obtain⟨H5,e5,o5,s5,n5⟩:=apP_own (bytes:=24) hc4.prs.ok (by decide) ho4 hsrc rfl rfl (by omega) (by omega) (by decide)
  have hc5:=hc4.other s5 (fun hx=>by have:=hB _ hx;have:=h.ltC;omega) (fun hx=>by have:=hB _ hx;have:=h.ltF;omega) (fun B hgB hx=>hkg B hx hgB) (fun e he B hBe hx=>by
   have hlt:B<H.next:=by
    rcases List.mem_append.1 he with he | he
    ·rcases List.mem_append.1 he with he | he
     ·obtain⟨nd2,hn2⟩:=h.pf.mem e he;exact hn2.lt hBe
     ·obtain⟨l2,hl2,e2⟩:=mem_addsE he
      obtain⟨nd2,hn2⟩:=hv.mem (List.mem_of_mem_take hl2)
      rw[e2]at hBe;exact hn2.lt hBe
    ·simp only[List.mem_singleton]at he;subst he
     exact hG.lt hBe
   have:=hB B hx;omega) (fun B hx=>by have:=hB B hx;have:=h.prs.next;omega)
  have a05:Adv Ac F H g H5 g:=by
   have a3:Adv Ac F H g H4 g:=((ha.trans h.ltC h.ltF (Adv.prs g p2)).trans h.ltC h.ltF ha3).trans h.ltC h.ltF (Adv.prs g p4)
   refine⟨⟨s5.ok,by have:=s5.next;omega,fun B hB' hS=> ?_⟩,fun B hB'=> .inl hB'⟩
   rw[s5.keep B (by omega) (fun hx=>by have:=hB B hx;omega)];exact a3.1.keep B hB' hS
  refine⟨_,H5, ?_, .slice H4.next 0 (i+1) 1,rfl, ?_,a05, ?_,fun B hB'=>by rw[Blk.slice.1 hB'];omega⟩
  ·have hiI:((i:Nat):Int)< ((nds.length:Nat):Int):=by omega
   have e1:=bldP 72 (pp (last+i+1)) [.int .i64 ((0:Nat):Int), .int .i64 ((0:Nat):Int), .int .u64 ((0:Nat):Int)] rfl
   simp(config:= { maxSteps:=1000000}) (disch:=omega) only[f141l0,ev,lg,wnt_undef,ew,hiI,i1,i2,b1,e2',agg4 g2 ll,e3,e1,b4,e5,Int.natCast_add]
  ·rw[ht1,ht2,addsE_snoc,addsN_snoc,List.length_take,List.length_take,Nat.min_eq_left (by omega),Nat.min_eq_left (by omega), ← List.append_assoc, ← List.append_assoc]
   exact hc5
  ·rw[pps_snoc]
   simpa using o5) n [.ptr Ac 0, .nilSlice,pv, .int .i64 (nds.length:Nat), .int .i64 ((0:Nat):Int)] H ⟨.nilSlice,rfl,by simpa[addsE,addsN]using h,Adv.prs g (Prs.refl h.prs.ok),Own.nil ..,fun B hB=>(Blk.nil.1 hB).elim⟩ (by omega)
 obtain⟨m,us,H',e,kv,rfl,hc,ha,ho,hB⟩:=lp
 rw[List.take_length]at hc
 rw[← hlen,List.take_length,hlen]at hc
 refine⟨kv,H', ?_,hc,ha,ho,hB⟩
 have last:loopK (m+1) (f141l0 D n) [.ptr Ac 0,kv,pv, .int .i64 (nds.length:Nat), .int .i64 (nds.length:Nat)] H'=some (.exit 0 [kv],H'):=loop_exit (by simp only[f141l0,ev,lg,wnt_undef,ew,Int.lt_irrefl])
 simp only[f141,ev,lg,wnt_undef,ew,hp.row.lnSl,e,last,f141b1]
end Go.Eng.Sh
end
section
namespace Go.Bt
open Go.Nd (Str Kvs Ptr lookP putP delP Srt leafOf mayK rising sumL cutA cutB joinN shaped)
open Go.Eng (ltS)
def RepL {α:Type}(Q:Ptr→Option Nd.Node)(R:Nd.Node→α→List Ptr→Prop):List Ptr→List α→List Ptr→Prop
 | [],[],S=>S=[]
 | p::ps,t::ts,S=> ∃nd S1 S2,Q p=some nd∧R nd t S1∧RepL Q R ps ts S2∧S=p::(S1++S2)
 | _,_,_=>False
def RepN (Q:Ptr→Option Nd.Node):(h:Nat)→Nd.Node→Tr h→List Ptr→Prop
 | 0,nd,l,S=>nd=leafOf l∧S=[]
 | h+1,nd,t,S=>nd.leaf=false∧nd.keys=t.1∧nd.vals=[]∧RepL Q (RepN Q h) nd.kids t.2 S
theorem RepL.len {α:Type}{Q:Ptr→Option Nd.Node}{R:Nd.Node→α→List Ptr→Prop} : ∀ {ps:List Ptr} {ts:List α} {S:List Ptr},RepL Q R ps ts S→ps.length=ts.length
 | [],[],_,_=>rfl
 | _::ps,_::ts,_,⟨_,_,_,_,_,h,_⟩=>by simp[RepL.len h]
 | [],_::_,_,h=>h.elim
 | _::_,[],_,h=>h.elim
theorem RepL.app {α:Type}{Q:Ptr→Option Nd.Node}{R:Nd.Node→α→List Ptr→Prop}{ps':List Ptr}{ts':List α}{S':List Ptr}(h':RepL Q R ps' ts' S'): ∀ {ps:List Ptr} {ts:List α} {S:List Ptr},RepL Q R ps ts S→RepL Q R (ps++ps') (ts++ts') (S++S')
 | [],[],_,h=>by subst h;exact h'
 | p::ps,t::ts,_,⟨nd,S1,S2,a,b,c,e⟩=>⟨nd,S1,S2++S',a,b,RepL.app h' c,by rw[e];simp⟩
 | [],_::_,_,h=>h.elim
 | _::_,[],_,h=>h.elim
theorem RepL.split {α:Type}{Q:Ptr→Option Nd.Node}{R:Nd.Node→α→List Ptr→Prop} : ∀(k:Nat) {ps:List Ptr} {ts:List α} {S:List Ptr},RepL Q R ps ts S→ ∃S1 S2,RepL Q R (ps.take k) (ts.take k) S1∧RepL Q R (ps.drop k) (ts.drop k) S2∧S=S1++S2
 | 0,ps,ts,S,h=>⟨[],S,by simp[RepL],h,rfl⟩
 | k+1,[],[],_,h=>⟨[],[],by simp[RepL],by simp[RepL],by subst h;rfl⟩
 | k+1,p::ps,t::ts,_,⟨nd,S1,S2,a,b,c,e⟩=>by
  obtain⟨T1,T2,d1,d2,rfl⟩:=RepL.split k c
  exact⟨p::(S1++T1),T2,⟨nd,S1,T1,a,b,d1,rfl⟩,d2,by rw[e];simp⟩
 | _+1,[],_::_,_,h=>h.elim
 | _+1,_::_,[],_,h=>h.elim
theorem RepL.at {α:Type}{Q:Ptr→Option Nd.Node}{R:Nd.Node→α→List Ptr→Prop}{i:Nat}{ps:List Ptr}{ts:List α}{S:List Ptr}(h:RepL Q R ps ts S){t:α}(ht:ts[i]? =some t):
  ∃p nd Sa Si Sb,ps[i]? =some p∧Q p=some nd∧R nd t Si∧RepL Q R (ps.take i) (ts.take i) Sa∧RepL Q R (ps.drop (i+1)) (ts.drop (i+1)) Sb∧S=Sa++(p::Si++Sb):=by
 obtain⟨Sa,S2,h1,h2,rfl⟩:=h.split i
 obtain⟨hi,rfl⟩:=List.getElem?_eq_some_iff.1 ht
 have hl:=h.len
 rw[List.drop_eq_getElem_cons hi,List.drop_eq_getElem_cons (show i<ps.length by omega)]at h2
 obtain⟨nd,Si,Sb,a,b,c,rfl⟩:=h2
 exact⟨_,nd,Sa,Si,Sb,List.getElem?_eq_getElem (by omega),a,b,h1,c,by simp⟩
theorem RepL.mono {α:Type}{Q Q':Ptr→Option Nd.Node}{R R':Nd.Node→α→List Ptr→Prop} : ∀ {ps:List Ptr} {ts:List α} {S:List Ptr},RepL Q R ps ts S→(∀p∈S,∀nd,Q p=some nd→Q' p=some nd)→(∀nd t S1,(∀p∈S1,p∈S)→R nd t S1→R' nd t S1)→RepL Q' R' ps ts S
 | [],[],_,h,_,_=>h
 | p::ps,t::ts,_,⟨nd,S1,S2,a,b,c,e⟩,hq,hr=>by
  subst e
  refine⟨nd,S1,S2,hq p (List.mem_cons_self ..) nd a,hr nd t S1 (fun p hp=>List.mem_cons_of_mem _ (List.mem_append_left _ hp)) b,RepL.mono c (fun p hp=>hq p (List.mem_cons_of_mem _ (List.mem_append_right _ hp))) (fun nd t S1 hs=>hr nd t S1 fun p hp=>List.mem_cons_of_mem _ (List.mem_append_right _ (hs p hp))),rfl⟩
 | [],_::_,_,h,_,_=>h.elim
 | _::_,[],_,h,_,_=>h.elim
theorem RepN.mono {Q Q':Ptr→Option Nd.Node} : ∀ {h:Nat} {nd:Nd.Node} {t:Tr h} {S:List Ptr},RepN Q h nd t S→(∀p∈S,∀nd,Q p=some nd→Q' p=some nd)→RepN Q' h nd t S
 | 0,_,_,_,w,_=>w
 | h+1,_,_,_,w,hq=>⟨w.1,w.2.1,w.2.2.1,w.2.2.2.mono hq fun nd t S1 hs hr=>RepN.mono hr fun p hp=>hq p (hs p hp)⟩
theorem RepL.kids {α:Type}{Q:Ptr→Option Nd.Node}{R:Nd.Node→α→List Ptr→Prop} : ∀ {ps:List Ptr} {ts:List α} {S:List Ptr},RepL Q R ps ts S→ ∀p∈ps,p∈S
 | [],[],_,_=>by simp
 | q::ps,_::ts,_,⟨nd,S1,S2,_,_,c,e⟩=>fun p hp=>by
  subst e
  rcases List.mem_cons.1 hp with rfl | hp
  ·exact List.mem_cons_self ..
  ·exact List.mem_cons_of_mem _ (List.mem_append_right _ (RepL.kids c p hp))
 | [],_::_,_,h=>h.elim
 | _::_,[],_,h=>h.elim
theorem RepN.size {Q:Ptr→Option Nd.Node}{h:Nat}{nd:Nd.Node}{t:Tr h}{S:List Ptr}(w:RepN Q h nd t S):Nd.size nd=tsize h t:=by
 cases h with
 | zero=>obtain⟨rfl,_⟩:=w;rfl
 | succ h=>
  obtain⟨_,w2,w3,w4⟩:=w
  simp only[Nd.size,tsize,isize,w2,w3,w4.len,sumL_nil];omega
theorem RepN.leaf {Q:Ptr→Option Nd.Node}{h:Nat}{nd:Nd.Node}{t:Tr h}{S:List Ptr}(w:RepN Q h nd t S):nd.leaf=decide (h=0):=by
 cases h with
 | zero=>obtain⟨rfl,_⟩:=w;rfl
 | succ h=>rw[w.1];simp
theorem RepN.shaped {Q:Ptr→Option Nd.Node}{h:Nat}{nd:Nd.Node}{t:Tr h}{S:List Ptr}{lo hi:Bd}(w:RepN Q h nd t S)(g:Gen h lo hi t)(hne:0<h→nd.keys≠[])(hk: ∀p∈S,Nd.kidOk p=true):shaped ltS nd=true:=by
 cases h with
 | zero=>
  obtain⟨rfl,_⟩:=w
  exact Nd.leaf_shaped g.1 fun p hp=>(g.2 p hp).2.2
 | succ h=>
  obtain⟨w1,w2,w3,w4⟩:=w
  obtain⟨g1,g2,g3⟩:=g
  have hl:=g3.len
  simp only[Nd.shaped,w1,Bool.false_eq_true,if_false,Bool.and_eq_true,decide_eq_true_eq,List.all_eq_true]
  refine⟨⟨fun k hk=> ?_,by rw[w2];exact g2⟩,⟨⟨hne (by omega),w3⟩,by rw[w4.len,hl,w2]⟩,fun p hp=>hk p (w4.kids p hp)⟩
  rw[w2]at hk;exact(g1 k hk).1
def RepP (Q:Ptr→Option Nd.Node)(h:Nat):List Nd.Node→List (Tr h)→List Ptr→Prop
 | [],[],S=>S=[]
 | nd::nds,t::ts,S=> ∃S1 S2,RepN Q h nd t S1∧RepP Q h nds ts S2∧S=S1++S2
 | _,_,_=>False
theorem RepP.len {Q:Ptr→Option Nd.Node}{h:Nat} : ∀ {nds:List Nd.Node} {ts:List (Tr h)} {S:List Ptr},RepP Q h nds ts S→nds.length=ts.length
 | [],[],_,_=>rfl
 | _::nds,_::ts,_,⟨_,_,_,h,_⟩=>by simp[RepP.len h]
 | [],_::_,_,h=>h.elim
 | _::_,[],_,h=>h.elim
theorem lsize_take (l:Kvs)(k:Nat):Nd.size (cutA (leafOf l) k)=lsize (l.take k):=by
 simp[cutA,leafOf,lsize,Nd.size]
theorem leaf_cut {l:Kvs}{k:Nat}(hk:Nd.cutOk (leafOf l) k)(hb:Go.Eng.Sh.hbnd (leafOf l) k):CutT 0 l (l.take k) ((leafOf l).keys.getD k []) (l.drop k)∧cutA (leafOf l) k=leafOf (l.take k)∧cutB (leafOf l) k=leafOf (l.drop k):=by
 obtain⟨k1,k2⟩:=hk
 obtain⟨b1,b2⟩:=hb
 have e0:(leafOf l).keys=l.map Prod.fst:=rfl
 simp only[show(leafOf l).leaf=true from rfl,if_true,e0,List.length_map]at k2 b2
 rw[lsize_take]at b1 b2
 refine⟨⟨k,⟨k1,k2,b1,b2⟩,rfl,rfl,rfl⟩, ?_, ?_⟩
 ·simp[cutA,leafOf]
 ·simp[cutB,leafOf]
theorem RepN.cut {Q:Ptr→Option Nd.Node}{h:Nat}{nd:Nd.Node}{t:Tr h}{S:List Ptr}{lo hi:Bd}{k:Nat}(w:RepN Q h nd t S)(g:Gen h lo hi t)(hk:Nd.cutOk nd k)(hb:Go.Eng.Sh.hbnd nd k):
  ∃ta tb Sa Sb,CutT h t ta (nd.keys.getD k []) tb∧RepN Q h (cutA nd k) ta Sa∧RepN Q h (cutB nd k) tb Sb∧S=Sa++Sb:=by
 obtain⟨k1,k2⟩:=hk
 obtain⟨b1,b2⟩:=hb
 have hz:=w.size
 cases h with
 | zero=>
  obtain⟨rfl,rfl⟩:=w
  obtain⟨c1,c2,c3⟩:=leaf_cut ⟨k1,k2⟩ ⟨b1,b2⟩
  exact⟨_,_,[],[],c1,⟨c2,rfl⟩,⟨c3,rfl⟩,rfl⟩
 | succ h=>
  obtain⟨w1,w2,w3,w4⟩:=w
  obtain⟨Sa,Sb,r1,r2,rfl⟩:=w4.split (k+1)
  have hl:=g.2.2.len
  have hkl:=w4.len
  simp only[w1,Bool.false_eq_true,if_false,w2]at k2 b2
  have sz: ∀j,j≤t.1.length→Nd.size (cutA nd j)=isize (t.1.take j) (j+1):=fun j hj=>by
   simp only[cutA,w1,Bool.false_eq_true,if_false,Nd.size,isize,w2,List.length_take,sumL_nil]
   rw[hkl,hl,Nat.min_eq_left (by omega)];omega
  have hm2:min (h+1+1) 2=2:=by omega
  refine⟨(t.1.take k,t.2.take (k+1)),(t.1.drop (k+1),t.2.drop (k+1)),Sa,Sb,⟨k,⟨k1, ?_, ?_, ?_⟩,rfl,by rw[w2],rfl⟩, ?_, ?_,rfl⟩
  ·simp only[nkeys,hm2];exact k2
  ·rcases b1 with b1 | b1
   ·exact .inl b1
   ·rw[sz k (by omega),hz]at b1;exact .inr b1
  ·rcases b2 with b2 | b2
   ·exact .inl (by simp only[nkeys,hm2];exact b2)
   ·rw[sz (k+1) (by omega),hz]at b2;exact .inr b2
  ·simp only[RepN,cutA,w1,Bool.false_eq_true,if_false,w2,true_and];exact r1
  ·simp only[RepN,cutB,w1,Bool.false_eq_true,if_false,w2,true_and];exact r2
theorem cutsN_ok {Q:Ptr→Option Nd.Node}{h:Nat}{nd:Nd.Node}{nds:List Nd.Node}{ss:List Str}(hc:Go.Eng.Sh.CutsN nd nds ss): ∀ {t:Tr h} {S:List Ptr} {lo hi:Bd},RepN Q h nd t S→WX h lo hi t→ ∃ts,Cuts h t ts ss∧RepP Q h nds ts S:=by
 induction hc with
 | one hz=>
  intro t S lo hi w _
  exact⟨[t], .one (by rw[← w.size];exact hz),S,[],w,rfl,by simp⟩
 | @more nd k ps ss hz hk hb _ ih=>
  intro t S lo hi w hx
  have hz':500<tsize h t:=by rw[← w.size];exact hz
  obtain⟨ta,tb,Sa,Sb,c1,c2,c3,rfl⟩:=w.cut hx.gen hk hb
  obtain⟨_,wb,_⟩:=cut_any hx hz' c1
  obtain⟨ts,d1,d2⟩:=ih c3 wb
  exact⟨ta::ts, .more hz' c1 d1,Sa,Sb,c2,d2,rfl⟩
theorem RepP.kids {Q:Ptr→Option Nd.Node}{h:Nat} : ∀ {nds:List Nd.Node} {ts:List (Tr h)} {S:List Ptr} (last:Nat),RepP Q h nds ts S→(∀i nd,nds[i]? =some nd→Q (Go.Eng.Sh.pp (last+1+i))=some nd)→
  ∃S',RepL Q (RepN Q h) (Go.Eng.Sh.pps last nds.length) ts S'∧S'.Perm (Go.Eng.Sh.pps last nds.length++S)
 | [],[],S,last,h,_=>⟨[],rfl,by subst h;exact List.Perm.refl _⟩
 | nd::nds,t::ts,_,last,⟨S1,S2,w,hp,e⟩,hq=>by
  subst e
  obtain⟨S',r,pm⟩:=RepP.kids (last+1) hp fun i n hi=>by
   have:=hq (i+1) n (by simpa using hi)
   rwa[show last+1+(i+1)=last+1+1+i from by omega]at this
  refine⟨Go.Eng.Sh.pp (last+1)::(S1++S'),⟨nd,S1,S',hq 0 nd rfl,w,r,rfl⟩, ?_⟩
  simp only[List.length_cons,Go.Eng.Sh.pps,List.cons_append]
  refine List.Perm.cons _ ?_
  have:(S1++S').Perm (S1++(Go.Eng.Sh.pps (last+1) nds.length++S2)):=List.Perm.append_left _ pm
  refine this.trans ?_
  rw[← List.append_assoc, ← List.append_assoc]
  exact List.Perm.append_right _ List.perm_append_comm
 | [],_::_,_,_,h,_=>h.elim
 | _::_,[],_,_,h,_=>h.elim
theorem RepN.join {Q:Ptr→Option Nd.Node}{h:Nat}{a b:Nd.Node}{ta tb:Tr h}{Sa Sb:List Ptr}(wa:RepN Q h a ta Sa)(wb:RepN Q h b tb Sb)(s:Str):RepN Q h (joinN a s b) (joinT h ta s tb) (Sa++Sb):=by
 cases h with
 | zero=>
  obtain⟨rfl,rfl⟩:=wa
  obtain⟨rfl,rfl⟩:=wb
  have key: ∀a b:Kvs,joinN (leafOf a) s (leafOf b)=leafOf (a++b):=fun a b=>by simp[joinN,leafOf]
  exact⟨key ta tb,rfl⟩
 | succ h=>
  obtain⟨a1,a2,a3,a4⟩:=wa
  obtain⟨b1,b2,b3,b4⟩:=wb
  simp only[RepN,joinN,a1,Bool.false_eq_true,if_false,joinT,a2,b2,true_and]
  exact RepL.app b4 a4
theorem join_may {Q:Ptr→Option Nd.Node}{h:Nat}{a b:Nd.Node}{ta tb:Tr h}{Sa Sb:List Ptr}{lo hi:Bd}{s:Str}(wa:RepN Q h a ta Sa)(wb:RepN Q h b tb Sb)(ga:Gen h lo (some s) ta)(gb:Gen h (some s) hi tb)(hs:mayK s=true)(na:0<h→a.keys≠[])(nb:0<h→b.keys≠[])
  (ka: ∀p∈Sa,Nd.kidOk p=true) (kb: ∀p∈Sb,Nd.kidOk p=true):Go.Eng.Sh.joinOk a s b=true:=by
 have h1:=wa.shaped ga na ka
 have h2:=wb.shaped gb nb kb
 simp only[Go.Eng.Sh.joinOk,h1,h2,Bool.true_and,Nd.partedN,hs,wa.leaf,wb.leaf,beq_self_eq_true]
 have gl: ∀(l:List Str),l.length≠0→l.getD (l.length - 1) []∈l:=fun l hl=>by
  rw[List.getD_eq_getElem?_getD,List.getElem?_eq_getElem (by omega)];exact List.getElem_mem _
 have g0: ∀(l:List Str),l.length≠0→l.getD 0 []∈l:=fun l hl=>by
  rw[List.getD_eq_getElem?_getD,List.getElem?_eq_getElem (by omega)];exact List.getElem_mem _
 cases h with
 | zero=>
  obtain⟨rfl,_⟩:=wa
  obtain⟨rfl,_⟩:=wb
  simp only[Bool.and_eq_true,Bool.or_eq_true,decide_eq_true_eq]
  refine⟨?_, ?_⟩
  ·by_cases e:(leafOf (ta:Kvs)).keys.length=0
   ·exact .inl e
   ·refine .inr ?_
    have:=gl _ e
    obtain⟨p,hp,he⟩:=List.mem_map.1 this
    rw[← he];exact(ga.2 p hp).2.1
  ·by_cases e:(leafOf (tb:Kvs)).keys.length=0
   ·exact .inl (.inl e)
   ·have:=g0 _ e
    obtain⟨p,hp,he⟩:=List.mem_map.1 this
    rw[← he]
    rcases(gb.2 p hp).1 with e | e
    ·exact .inr ⟨trivial,e⟩
    ·exact .inl (.inr e)
 | succ h=>
  simp only[Bool.and_eq_true,Bool.or_eq_true,decide_eq_true_eq]
  refine⟨.inr ?_, .inl (.inr ?_)⟩
  ·have hm:=gl a.keys (fun e=>na (by omega) (List.eq_nil_of_length_eq_zero e))
   rw[wa.2.1]at hm⊢
   exact(ga.1 _ hm).2.2
  ·have hm:=g0 b.keys (fun e=>nb (by omega) (List.eq_nil_of_length_eq_zero e))
   rw[wb.2.1]at hm⊢
   exact(gb.1 _ hm).2.1
end Go.Bt
end
section
namespace Go.Eng
theorem acut_blk {A off len cc sz room:Nat}{lo hi mx:Option Nat}{r:AV}(h:acut A off len cc sz room lo hi mx=some r): ∀B,Blk r B→B=A:=by
 intro B hB
 unfold acut at h
 simp only[fN_eq]at h
 split at h
 ·split at h
  ·rw[cond_eq_ite]at h
   split at h
   ·simp only[Option.some.injEq]at h;subst h;exact Blk.slice.1 hB
   ·cases h
  ·cases h
 ·rw[cond_eq_ite]at h
  split at h
  ·rw[cond_eq_ite]at h
   split at h
   ·simp only[Option.some.injEq]at h;subst h;exact Blk.slice.1 hB
   ·rw[cond_eq_ite]at h
    split at h
    ·simp only[Option.some.injEq]at h;subst h;exact Blk.slice.1 hB
    ·rw[cond_eq_ite]at h
     split at h
     ·simp only[Option.some.injEq]at h;subst h;exact Blk.slice.1 hB
     ·simp only[Option.some.injEq]at h;subst h
      obtain⟨_,_,_,hB⟩:=hB;cases hB
  ·cases h
theorem slSl_blk {sz:Nat}{v:AV}{lo hi mx:Option AV}{H:AH}{r:AV}(h:slSl sz v lo hi mx H=some r): ∀B,Blk r B→Blk v B:=by
 intro B hB
 unfold slSl at h
 split at h
 ·split at h
  ·rw[cond_eq_ite]at h
   split at h
   ·simp only[Option.some.injEq]at h;subst h;exact hB
   ·cases h
  ·split at h
   ·rw[cond_eq_ite]at h
    split at h
    ·rw[acut_blk h B hB];exact⟨_,_,_,rfl⟩
    ·cases h
   ·cases h
  ·split at h
   ·rw[cond_eq_ite]at h
    split at h
    ·simp only[Option.some.injEq]at h;subst h
     obtain⟨_,_,_,hB⟩:=hB;cases hB
    ·cases h
   ·cases h
  ·cases h
 ·cases h
end Go.Eng
namespace Go.Eng.Sh
open Go.Nd (Ptr sumL)
theorem hi3 {H:AH}{v:AV}{l:List Ptr}(h:Grow 3 72 H v l.length (l.flatMap ptrV)){i:Nat}(hi:i≤l.length):
  ∃r,slSl 3 v none (some (.int .i64 (i:Nat))) (some (.int .i64 (i:Nat))) H=some r∧Ptrs H r (l.take i):=by
 obtain⟨r,e1,w,_⟩:=slSl_hi h (by decide) hi .i64 .i64
 rw[flat_take]at w
 have hlen:(l.take i).length=i:=by rw[List.length_take];omega
 exact⟨r,e1,by rw[Ptrs,hlen];exact w⟩
theorem lo3 {H:AH}{v:AV}{l:List Ptr}(h:Grow 3 72 H v l.length (l.flatMap ptrV)){i:Nat}(hi:i≤l.length)(h0:0<l.length):
  ∃r,slSl 3 v (some (.int .i64 (i:Nat))) none none H=some r∧Ptrs H r (l.drop i):=by
 by_cases hlt:i<l.length
 ·obtain⟨r,e1,w,_⟩:=slSl_lo h (by decide) hlt .i64
  rw[flat_drop]at w
  have hlen:(l.drop i).length=l.length - i:=by rw[List.length_drop]
  exact⟨r,e1,by rw[Ptrs,hlen];exact w⟩
 ·obtain rfl:i=l.length:=by omega
  obtain⟨r,e1,w⟩:=slSl_end h (by decide) h0 .i64
  exact⟨r,e1,by rw[List.drop_length];exact w⟩
theorem conP3 (D:Dyn)(n:Nat){H:AH}{A cc:Nat}{x y z:AV}{l m k:List Ptr}(hk:H.ok)(hg:H.h.get A=some (.cells [x,y,z] 77 1 false))(h1:Ptrs H x l)(h2:Ptrs H y m)(h3:Ptrs H z k)(hb:l.length+m.length+k.length≤1000000000)(hn:100≤n):
  ∃w H',f140 D n [.slice A 0 3 cc] H=some (w,H')∧Prs H H'∧Own 3 72 H' w (l++(m++k)).length ((l++(m++k)).flatMap ptrV)∧ ∀B,Blk w B→H.next≤B:=by
 obtain⟨w,H',e,p,o,f⟩:=catP_ok D n hk (v:= .slice A 0 3 cc) (vs:=[x,y,z]) (rs:=[(l.length,l.flatMap ptrV),(m.length,m.flatMap ptrV),(k.length,k.flatMap ptrV)]) (Rw.lit hk hg) ⟨⟨h1,flat_cells _⟩,⟨h2,flat_cells _⟩,⟨h3,flat_cells _⟩,trivial⟩ (by simp[sumN];omega) (by simp) (by simp;omega)
  (fun B hB=>by rw[Blk.slice.1 hB];exact hk.lt hg) (fun z hz B hB=>by
   simp only[List.mem_cons,List.not_mem_nil,or_false]at hz
   rcases hz with rfl | rfl | rfl
   ·exact Rw.blk h1 hB
   ·exact Rw.blk h2 hB
   ·exact Rw.blk h3 hB)
 exact⟨w,H',e,p,by simpa[sumN,catN]using o,f⟩
theorem placeJ2 (D:Dyn)(n:Nat)(hn:200000000≤n){H0 H:AH}{At Ac F A5 A7 A8 i m:Nat}{fes:List (AV×AV)}{f:PN}{g:AV}{gl:List Ptr}{last0 last:Nat}{ln lk:List AV}{nd kd:Nd.Node}
  (h:Ch H0 H At Ac F fes f g gl last0 last) (g5:H.h.get A5=some (.cells ln 133 1 false)) (g7:H.h.get A7=some (.cells lk 133 1 false)) (g8:H.h.get A8=some (.cells [.bool false, .nilSlice, .nilSlice, .nilSlice] 133 1 false))
  (hA5:H0.next≤A5) (hA7:H0.next≤A7) (hA8:H0.next≤A8) (h58:A5≠A8) (h5c:A5≠Ac) (h8c:A8≠Ac)
  (hv:NodeA H g (.agg ln) nd) (hkd:NodeA H g (.agg lk) kd) (hsk:Nd.shaped ltS kd=true) (hz:Nd.size kd≤10000) (hs:small nd) (hkl:nd.kids.length=nd.keys.length+1) (hne:nd.keys≠[]) (him:i+m<nd.kids.length)
  (hlim: ∀nds ss,CutsN kd nds ss→nds.length≤1000∧ss.length≤1000) (hb:last≤800000000):
  ∃u H' nds ss vs,f104j2 D n [.ptr Ac 0, .ptr A5 0, .ptr A7 0, .ptr A8 0, .int .i64 (i:Nat), .int .i64 ((i+m+1:Nat):Int)] H=some (.ret (.tuple [u, .int .i64 ((0:Nat):Int)]),H')∧CutsN kd nds ss∧
   Ch H0 H' At Ac F (fes++addsE last vs) (f++addsN last nds) g gl last0 (last+nds.length)∧Stp (fun B=>chg Ac F g B∨B=A8) H H'∧
   NodeA H' g u ⟨false,nd.keys.take i++(ss++nd.keys.drop (i+m)),[],nd.kids.take i++(pps last nds.length++nd.kids.drop (i+m+1))⟩∧ ∀B,blkN u B→H.next≤B:=by
 obtain⟨ks,vs0,ps,hln,k1,k2,k3⟩:=id hv.1
 simp only[AV.agg.injEq]at hln
 subst hln
 have hll:lk.length=4:=by obtain⟨_,_,_,e,_⟩:=hkd.1;simp only[AV.agg.injEq]at e;rw[e];rfl
 have hkeys:0<nd.keys.length:=by
  rcases Nat.eq_zero_or_pos nd.keys.length with e | e
  ·exact absurd (List.eq_nil_of_length_eq_zero e) hne
  ·exact e
 obtain⟨s1,s2,s3⟩:=hs
 have hkl1:=Nd.sumL_ge nd.keys
 obtain⟨pv,sv,H1,vs,nds,ss,e1,p1,hcut,oP,hpar,oS,bP,bS,bvs⟩:=cutAll_ok D n hn h.prs.ok hkd.1 hsk hz
 obtain⟨c1,c2⟩:=hlim nds ss hcut
 have h1:=h.step p1
 have G5 {Hx:AH} (p:Prs H Hx):=Prs.get p h.prs.ok g5
 have q1 {Hx:AH} (p:Prs H Hx):Grow 1 9 Hx ks nd.keys.length (nd.keys.map S):=k1.mono p (fun _ _ x=>x)
 have q3 {Hx:AH} (p:Prs H Hx):Grow 3 72 Hx ps nd.kids.length (nd.kids.flatMap ptrV):=k3.mono p (fun _ _ x=>x)
 obtain⟨r1,c1',x1⟩:=hi1 (q1 p1) (i:=i) (by omega)
 obtain⟨r2,c2',x2⟩:=lo1 (q1 p1) (i:=i+m) (by omega) hkeys
 obtain⟨H2,A2,b2,p2,g2,m2,n2⟩:=box p1.ok (.cells [r1,sv,r2] 37 1 false)
 have P2:=p1.trans p2
 obtain⟨r3,c3',x3⟩:=hi3 (q3 P2) (i:=i) (by omega)
 obtain⟨r4,c4',x4⟩:=lo3 (q3 P2) (i:=i+m+1) (by omega) (by omega)
 have hss:Strs H2 sv ss:=(oS.mono p2 (fun _ _ x=>x)).row
 obtain⟨w3,H3,e3,p3,o3,f3⟩:=conS3 D n (cc:=6) p2.ok g2 (x1.prs p2) hss (x2.prs p2) (by simp only[List.length_take,List.length_drop];omega) (by omega)
 have P3:=P2.trans p3
 have h3:=h.step P3
 have N1:=p1.next;have N2:=p2.next;have N3:=p3.next
 obtain⟨kv,H4,e4,h4,a4,o4,f4⟩:=addAll_ok D n hn h3 (oP.mono (p2.trans p3) (fun _ _ x=>x)) (hpar.frame fun l hl nd hg=>hg.prs (p2.trans p3)) (fun l hl B hB hgB=>by
  rcases bvs l hl B hB with e | e
  ·exact hkd.2 B e hgB
  ·have:=Rw.blk h.gg.row hgB;omega) (by omega) (by omega)
 have hv3:NodeA H3 g (.agg [.bool nd.leaf,ks,vs0,ps]) nd:=hv.prs P3
 have hv4:=h3.next hv3 a4
 obtain⟨ks',vs',ps',ee,j1,j2,j3⟩:=id hv4.1
 simp only[AV.agg.injEq,List.cons.injEq,and_true,true_and]at ee
 obtain⟨rfl,rfl,rfl⟩:=ee
 have nb3: ∀B,Blk ps B→ ¬chg Ac F g B:=fun B hB hc=>by
  have hB':blkN (.agg [.bool nd.leaf,ks,vs0,ps]) B:=blkN_mk.2 (.inr (.inr hB))
  rcases hc with rfl | rfl | e
  ·exact hv3.1.nblk h3.gC (.inl ⟨_,_,_,_,rfl,fun _ _ e=>by cases e⟩) hB'
  ·exact hv3.1.nblk h3.gF (.inr (.inl ⟨_,_,rfl⟩)) hB'
  ·exact hv3.2 B hB' e
 have y3:Ptrs H4 r3 (nd.kids.take i):=Rw.stp (x3.prs p3) a4.1 (fun B hB=>nb3 B (slSl_blk c3' B hB))
 have y4:Ptrs H4 r4 (nd.kids.drop (i+m+1)):=Rw.stp (x4.prs p3) a4.1 (fun B hB=>nb3 B (slSl_blk c4' B hB))
 obtain⟨H5,A9,b5,p5,gg5,m5,n5⟩:=box h4.prs.ok (.cells [r3,kv,r4] 77 1 false)
 have okv:Ptrs H5 kv (pps last nds.length):=by
  have:=(o4.mono p5 (fun _ _ x=>x)).row
  rw[Ptrs,pps_len];exact this
 obtain⟨w6,H6,e6,p6,o6,f6⟩:=conP3 D n (cc:=6) p5.ok gg5 (y3.prs p5) okv (y4.prs p5) (by rw[pps_len];simp only[List.length_take,List.length_drop];omega) (by omega)
 have p46:Prs H4 H6:=p5.trans p6
 have h6:=h4.step p46
 have N4:=a4.1.next;have N6:=p46.next;have N0:=h.prs.next
 have lt8:A8<H.next:=h.prs.ok.lt g8
 have lt5:A5<H.next:=h.prs.ok.lt g5
 have n8: ¬chg Ac F g A8:=fun hc=>by
  rcases hc with e | e | e
  ·exact h8c e
  ·rw[e,h.gF]at g8;cases g8
  ·rw[h.gg.get e]at g8;simp at g8
 have n5': ¬chg Ac F g A5:=fun hc=>by
  rcases hc with e | e | e
  ·exact h5c e
  ·rw[e,h.gF]at g5;cases g5
  ·rw[h.gg.get e]at g5;simp at g5
 have g86:H6.h.get A8=some (.cells [.bool false, .nilSlice, .nilSlice, .nilSlice] 133 1 false):=by
  rw[p46.keep _ (by omega) (fun x=>x),a4.1.keep _ (by omega) n8];exact Prs.get P3 h.prs.ok g8
 have g54:H4.h.get A5=some (.cells [.bool nd.leaf,ks,vs0,ps] 133 1 false):=by rw[a4.1.keep _ (by omega) n5'];exact G5 P3
 have o36:Own 1 9 H6 w3 (nd.keys.take i++(ss++nd.keys.drop (i+m))).length ((nd.keys.take i++(ss++nd.keys.drop (i+m))).map S):=(o3.mono a4.1 (fun B hB hc=>by
  have:=f3 B hB
  rcases hc with e | e | e
  ·have:=h.ltC;omega
  ·have:=h.ltF;omega
  ·have:=Rw.blk h.gg.row e;omega)).mono p46 (fun _ _ x=>x)
 obtain⟨H7,e7,g77,s7,n7⟩:=st_all h6.prs.ok g86 (l':=[.bool false,w3, .nilSlice,w6]) rfl (by simp only[allCells,o36.row.isCell,o6.row.isCell];rfl)
 have e7':stN 4 (.ptr A8 0) (.agg [.bool false,w3, .nilSlice,w6]) H6=some (undefA,H7):=e7
 have n8': ∀B,Blk g B→ ¬B=A8:=fun B hB e=>n8 (.inr (.inr (e▸hB)))
 have h7:Ch H0 H7 At Ac F (fes++addsE last vs) (f++addsN last nds) g gl last0 (last+nds.length):=h6.other s7 (fun e=>h8c e.symm) (fun e=>n8 (.inr (.inl e.symm))) n8' (fun kv' hkv B hB e=>by
  subst e
  obtain⟨nd2,hn2⟩:=h6.pf.mem kv' hkv
  exact hn2.nblk g86 (.inl ⟨_,_,_,_,rfl,fun _ _ e=>by cases e⟩) hB) (fun B hB=>by omega)
 have hi2:slSl 1 ks (some (.int .i64 ((i+m:Nat):Int))) none none H1=some r2:=c2'
 have hsub:((i+m+1:Nat):Int) - ((1:Nat):Int)=((i+m:Nat):Int):=by omega
 refine⟨.agg [.bool false,w3, .nilSlice,w6],H7,nds,ss,vs, ?_,hcut,h7, ?_,⟨⟨w3, .nilSlice,w6,rfl, .inl (o36.mono s7 (fun B hB e=>by have:=f3 B hB;omega)), .inl (Own.nil ..), .inl (o6.mono s7 (fun B hB e=>by have:=f6 B hB;have:=p5.next;omega))⟩,fun B hB hgB=> ?_⟩,fun B hB=> ?_⟩
 ·have t00: ¬(((0:Nat):Int)≠((0:Nat):Int)):=by omega
  simp(config:= { maxSteps:=2000000}) (disch:=omega) only[f104j2,ev,lg,wnt_undef,ew,agg4 g7 hll,e1,pExtract,nth,t00,ld1_get (G5 p1),c1',hsub,hi2,row3 37 .nilSlice x1.isCell oS.row.isCell x2.isCell,b2,ld1_get (G5 P2),c3',c4',e3,chk_ok (ld1_get (G5 P3) 3) (aveq_row k3.row),slSl_same (q3 P2) (q3 P3) (by decide),chk_ok rfl (aveq_row x3),chk_ok rfl (aveq_row x4),e4,chk_ok (ld1_get g54 3) (aveq_row k3.row),slSl_same (q3 P2) j3 (by decide),
   row3 77 .nilSlice x3.isCell o4.row.isCell x4.isCell,b5,e6,bldNi o3.row.isCell o6.row.isCell,e7',agg4 g77 rfl]
 ·have a1:Stp (fun B=>chg Ac F g B∨B=A8) H H4:=(P3.mono (fun _ _ x=>x.elim)).trans (a4.1.mono (fun _ _ x=> .inl x))
  exact(a1.trans (p46.mono (fun _ _ x=>x.elim))).trans (s7.mono (fun _ _ x=> .inr x))
 ·have:=Rw.blk h.gg.row hgB
  rcases blkN_mk.1 hB with e | e | e
  ·have:=f3 B e;omega
  ·exact(Blk.nil.1 e).elim
  ·have:=f6 B e;have:=p5.next;omega
 ·rcases blkN_mk.1 hB with e | e | e
  ·have:=f3 B e;omega
  ·exact(Blk.nil.1 e).elim
  ·have:=f6 B e;have:=p5.next;omega
end Go.Eng.Sh
end
section
namespace Go.Eng.Sh
open Go.Nd (Ptr sumL joinN)
open Go.Bt
def Qf (q f:PN)(p:Ptr):Option Nd.Node:=if p=pp p.sum.toNat then(match lookN p.sum.toNat f with | some n=>some n | none=>lookN p.sum.toNat q)else none
theorem Qf_pp (q f:PN)(s:Nat):Qf q f (pp s)=match lookN s f with | some n=>some n | none=>lookN s q:=by simp[Qf,pp]
theorem Qf_inv {q f:PN}{p:Ptr}{nd:Nd.Node}(h:Qf q f p=some nd): ∃s,p=pp s∧(lookN s f=some nd∨(lookN s f=none∧lookN s q=some nd)):=by
 simp only[Qf]at h
 split at h
 ·rename_i e
  refine⟨_,e, ?_⟩
  split at h
  ·rename_i n hn;exact .inl (hn.trans h)
  ·rename_i hn;exact .inr ⟨hn,h⟩
 ·cases h
theorem pp_inj {s t:Nat}(h:pp s=pp t):s=t:=by simp only[pp,Ptr.mk.injEq]at h;omega
theorem kidOk_pp (s:Nat):Nd.kidOk (pp s)=true:=by simp[Nd.kidOk,pp]
theorem lookN_adds: ∀ {nds:List Nd.Node} {last i:Nat} {nd:Nd.Node},nds[i]? =some nd→lookN (last+1+i) (addsN last nds)=some nd
 | [],_,_,_,h=>by simp at h
 | a::nds,last,0,nd,h=>by simp at h;subst h;simp[addsN,lookN]
 | a::nds,last,i+1,nd,h=>by
  simp only[List.getElem?_cons_succ]at h
  rw[addsN,lookN,if_neg (by omega),show last+1+(i+1)=last+1+1+i from by omega]
  exact lookN_adds h
theorem adds_sums: ∀ {nds:List Nd.Node} {last s:Nat} {nd:Nd.Node},lookN s (addsN last nds)=some nd→last<s∧s≤last+nds.length
 | [],_,_,_,h=>by simp[addsN,lookN]at h
 | a::nds,last,s,nd,h=>by
  rw[addsN,lookN]at h
  split at h
  ·simp only[List.length_cons];omega
  ·have:=adds_sums h;simp only[List.length_cons];omega
theorem Qf_more {q f new:PN}{last0:Nat}(hq: ∀s nd,lookN s q=some nd→s≤last0)(hn: ∀s nd,lookN s new=some nd→last0<s){p:Ptr}{nd:Nd.Node}(h:Qf q f p=some nd):Qf q (f++new) p=some nd:=by
 obtain⟨s,rfl,h1 | ⟨h1,h2⟩⟩:=Qf_inv h
 ·rw[Qf_pp,lookN_app,h1]
 ·rw[Qf_pp,lookN_app,h1]
  simp only
  cases hk:lookN s new with
  | none=>exact h2
  | some n2=>have:=hq _ _ h2;have:=hn _ _ hk;omega
theorem RepL.kidOk {α:Type}{q f:PN}{R:Nd.Node→α→List Ptr→Prop}(hr: ∀nd t S,R nd t S→ ∀p∈S,Nd.kidOk p=true): ∀ {ps:List Ptr} {ts:List α} {S:List Ptr},RepL (Qf q f) R ps ts S→ ∀p∈S,Nd.kidOk p=true
 | [],[],_,h=>by subst h;simp
 | p::ps,t::ts,_,⟨nd,S1,S2,a,b,c,e⟩=>fun x hx=>by
  subst e
  rcases List.mem_cons.1 hx with rfl | hx
  ·obtain⟨s,rfl,_⟩:=Qf_inv a;exact kidOk_pp s
  ·rcases List.mem_append.1 hx with hx | hx
   ·exact hr _ _ _ b x hx
   ·exact RepL.kidOk hr c x hx
 | [],_::_,_,h=>h.elim
 | _::_,[],_,h=>h.elim
theorem RepN.kidOk {q f:PN} : ∀ {h:Nat} {nd:Nd.Node} {t:Bt.Tr h} {S:List Ptr},RepN (Qf q f) h nd t S→ ∀p∈S,Nd.kidOk p=true
 | 0,_,_,_,w=>by obtain⟨_,rfl⟩:=w;simp
 | h+1,_,_,_,w=>RepL.kidOk (fun _ _ _ hr=>RepN.kidOk hr) w.2.2.2
theorem place_end (D:Dyn)(n:Nat)(hn:200000000≤n){H0 H:AH}{At Ac F A5 A7 A8 i m h:Nat}{q:PN}{fes:List (AV×AV)}{f:PN}{g:AV}{gl:List Ptr}{last0 last:Nat}{ln lk:List AV}{nd kd:Nd.Node}{t:Bt.Tr (h+1)}{x:Bt.Tr h}{Sa Sb Sx:List Ptr}{lo hi:Bd}
  (ch:Ch H0 H At Ac F fes f g gl last0 last) (g5:H.h.get A5=some (.cells ln 133 1 false)) (g7:H.h.get A7=some (.cells lk 133 1 false)) (g8:H.h.get A8=some (.cells [.bool false, .nilSlice, .nilSlice, .nilSlice] 133 1 false))
  (hA5:H0.next≤A5) (hA7:H0.next≤A7) (hA8:H0.next≤A8) (h58:A5≠A8) (h5c:A5≠Ac) (h8c:A8≠Ac)
  (hv:NodeA H g (.agg ln) nd) (hkd:NodeA H g (.agg lk) kd) (hq: ∀s nd,lookN s q=some nd→s≤last0)
  (n1:nd.leaf=false) (n2:nd.keys=t.1) (n3:nd.vals=[]) (n4:nd.kids.length=t.2.length) (wi:Inn (WF h) lo hi t) (hne:t.1≠[]) (hz:isize t.1 t.2.length≤500) (him:i+m<t.2.length)
  (ra:RepL (Qf q f) (RepN (Qf q f) h) (nd.kids.take i) (t.2.take i) Sa) (rb:RepL (Qf q f) (RepN (Qf q f) h) (nd.kids.drop (i+m+1)) (t.2.drop (i+m+1)) Sb)
  (rx:RepN (Qf q f) h kd x Sx) (wx:WX h (loAt lo t.1 i) (hiAt t.1 hi (i+m)) x) (fx:Full h x) (kne:0<h→kd.keys≠[]) (hb:last≤800000000):
  ∃u H' fes' f' last' nd' t' S',f104j2 D n [.ptr Ac 0, .ptr A5 0, .ptr A7 0, .ptr A8 0, .int .i64 (i:Nat), .int .i64 ((i+m+1:Nat):Int)] H=some (.ret (.tuple [u, .int .i64 ((0:Nat):Int)]),H')∧
   Ch H0 H' At Ac F fes' f' g gl last0 last'∧Stp (fun B=>chg Ac F g B∨B=A8) H H'∧NodeA H' g u nd'∧(∀B,blkN u B→H.next≤B)∧RepN (Qf q f') (h+1) nd' t' S'∧Inn (WF h) lo hi t'∧
   con (h+1) t'=(t.2.take i).flatMap (con h)++con h x++(t.2.drop (i+m+1)).flatMap (con h)∧isize t'.1 t'.2.length≤isize t.1 t.2.length+285∧t.1.length≤t'.1.length+m∧last≤last'∧last'≤last+6∧
   S'.Perm (pps last (last' - last)++(Sa++Sb++Sx))∧ ∀p nd,Qf q f p=some nd→Qf q f' p=some nd:=by
 have hl:=wi.2.2.len
 have hsz:small nd:=by
  have:Nd.size nd≤10000:=by
   simp only[Nd.size,n2,n3,n4,Bt.sumL_nil]
   simp only[isize]at hz;omega
  exact size_small this
 have hsk:=rx.shaped wx.gen kne (RepN.kidOk rx)
 have hzk:Nd.size kd≤10000:=by rw[rx.size];have:=wx.sz;omega
 have hlim: ∀nds ss,CutsN kd nds ss→nds.length≤6∧ss.length≤6:=fun nds ss hc=>by
  obtain⟨ts,c1,c2⟩:=cutsN_ok hc rx wx
  obtain⟨d1,_,d3,_⟩:=cuts_ok c1 wx (.inl fx)
  have l1:=c2.len
  have l2:=d1.2.2.len
  simp only at l2
  omega
 obtain⟨u,H',nds,ss,vs,e1,hcut,hc',st,hu,hfr⟩:=placeJ2 D n hn (i:=i) (m:=m) ch g5 g7 g8 hA5 hA7 hA8 h58 h5c h8c hv hkd hsk hzk hsz (by rw[n4,hl,n2]) (by rw[n2];exact hne) (by rw[n4];exact him) (fun nds ss hc=>by have:=hlim nds ss hc;omega) hb
 obtain⟨ts,c1,c2⟩:=cutsN_ok hcut rx wx
 obtain⟨p1,p2,p3,p4⟩:=place_ok (ks:=t.1) (ts:=t.2) wi him wx fx c1
 have hnew: ∀s nd',lookN s (addsN last nds)=some nd'→last0<s:=fun s nd' hs=>by have:=adds_sums hs;have:=ch.le;omega
 have more: ∀p nd,Qf q f p=some nd→Qf q (f++addsN last nds) p=some nd:=fun p nd hp=>Qf_more hq hnew hp
 have moreL: ∀ {ps:List Ptr} {ts:List (Bt.Tr h)} {S:List Ptr},RepL (Qf q f) (RepN (Qf q f) h) ps ts S→RepL (Qf q (f++addsN last nds)) (RepN (Qf q (f++addsN last nds)) h) ps ts S:=fun r=>r.mono (fun p _ nd hp=>more p nd hp) (fun nd t S1 _ hr=>hr.mono fun p _ nd hp=>more p nd hp)
 have c2':RepP (Qf q (f++addsN last nds)) h nds ts Sx:=by
  have mono: ∀ {nds':List Nd.Node} {ts':List (Bt.Tr h)} {S':List Ptr},RepP (Qf q f) h nds' ts' S'→RepP (Qf q (f++addsN last nds)) h nds' ts' S':=by
   intro nds'
   induction nds' with
   | nil=>intro ts' S' hp;cases ts' with
    | nil=>exact hp
    | cons=>exact hp.elim
   | cons a nds' ih=>intro ts' S' hp;cases ts' with
    | nil=>exact hp.elim
    | cons b ts'=>
     obtain⟨S1,S2,a1,a2,a3⟩:=hp
     exact⟨S1,S2,a1.mono fun p _ nd hp=>more p nd hp,ih a2,a3⟩
  exact mono c2
 have hnone: ∀j,lookN (last+1+j) f=none:=fun j=>by
  cases hk:lookN (last+1+j) f with
  | none=>rfl
  | some n2=>have:=ch.fs _ _ hk;omega
 obtain⟨S2,r2,pm2⟩:=c2'.kids last (fun j nd' hj=>by rw[Qf_pp,lookN_app,hnone];simp only[lookN_adds hj])
 have rl:=RepL.app (RepL.app (moreL rb) r2) (moreL ra)
 have hlen:=hlim nds ss hcut
 refine⟨u,H',_,_,last+nds.length,_,(t.1.take i++ss++t.1.drop (i+m),t.2.take i++ts++t.2.drop (i+m+1)),Sa++(S2++Sb),e1,hc',st,hu,hfr,⟨rfl,by simp[n2],rfl, ?_⟩,p1,p2,p3,p4,by omega,by omega, ?_,more⟩
 ·simp only[List.append_assoc];exact rl
 ·rw[show last+nds.length - last=nds.length by omega]
  rw[List.perm_iff_count]at pm2⊢
  intro a
  have:=pm2 a
  simp only[List.count_append]at this⊢
  omega
end Go.Eng.Sh
end
section
namespace Go.Eng.Sh
open Go.Nd (Ptr sumL joinN)
open Go.Bt
theorem Ch.stb {H0 H H':AH}{At Ac F A:Nat}{fes:List (AV×AV)}{f:PN}{g:AV}{gl:List Ptr}{last0 last e:Nat}{b:Bool}{r:List AV}(h:Ch H0 H At Ac F fes f g gl last0 last)(gA:H.h.get A=some (.cells (.bool b::r) e 1 false))(s:Stp (fun B=>B=A) H H')(h0:H0.next≤A)(hc:A≠Ac):Ch H0 H' At Ac F fes f g gl last0 last:=
 h.other s (fun e=>hc e.symm) (fun e=>by subst e;rw[h.gF]at gA;cases gA) (fun B hB e=>by subst e;rw[h.gg.get hB]at gA;simp at gA) (fun kv hkv B hB e=>by
  subst e
  obtain⟨nd2,hn2⟩:=h.pf.mem kv hkv
  exact hn2.nblk gA (.inl ⟨_,_,_,_,rfl,fun _ _ e=>by cases e⟩) hB) (fun B hB=>by subst hB;exact h0)
theorem NodeA.stb {H H':AH}{A:Nat}{g v:AV}{nd:Nd.Node}{e:Nat}{b:Bool}{r:List AV}(h:NodeA H g v nd)(gA:H.h.get A=some (.cells (.bool b::r) e 1 false))(s:Stp (fun B=>B=A) H H'):NodeA H' g v nd:=
 ⟨h.1.stp s fun B hB e=>by subst e;exact h.1.nblk gA (.inl ⟨_,_,_,_,rfl,fun _ _ e=>by cases e⟩) hB,h.2⟩
theorem NodeO.free {H0 H:AH}{v:AV}{nd:Nd.Node}(h:NodeO H0 H v nd):NodeF H0.next H v nd:=by
 obtain⟨ks,vs,ps,rfl,h1,h2,h3,h4,_⟩:=h
 exact⟨⟨ks,vs,ps,rfl, .inl h1, .inl h2, .inl h3⟩,fun B hB=>h4 B (blkN_mk.1 hB)⟩
theorem node_head {l:List AV}{H:AH}{nd:Nd.Node}(h:NodeG H (.agg l) nd): ∃r,l= .bool nd.leaf::r∧l.length=4∧allCells l=true:=by
 obtain⟨ks,vs,ps,e,h1,h2,h3⟩:=h
 simp only[AV.agg.injEq]at e
 subst e
 exact⟨_,rfl,rfl,allCells4 _ _ _ _ h1.row.isCell h2.row.isCell h3.row.isCell⟩
theorem place_walk (D:Dyn)(n:Nat)(hn:200000000≤n){H0 H:AH}{At Ac F M i h:Nat}{d c dr:AV}{root:Ptr}{es:List (AV×AV)}{q:PN}{fes:List (AV×AV)}{f:PN}{g:AV}{gl:List Ptr}{last0 last:Nat}{ln lk:List AV}{nd kd:Nd.Node}{t:Bt.Tr (h+1)}{x tk:Bt.Tr h}{Sa Sb Sx:List Ptr}{lo hi:Bd}
  (ti:TI H0 At M d c root es q last0 dr) (hold: ∀kv∈es,∀B,blkN kv.2 B→B<H0.next) (hq: ∀s nd,lookN s q=some nd→s≤last0) (ch:Ch H0 H At Ac F fes f g gl last0 last)
  (hv:NodeA H g (.agg ln) nd) (hkd:NodeA H g (.agg lk) kd)
  (n1:nd.leaf=false) (n2:nd.keys=t.1) (n3:nd.vals=[]) (n4:nd.kids.length=t.2.length) (wi:Inn (WF h) lo hi t) (hne:t.1≠[]) (hz:isize t.1 t.2.length≤500) (him:t.2[i]? =some tk)
  (ra:RepL (Qf q []) (RepN (Qf q []) h) (nd.kids.take i) (t.2.take i) Sa) (rb:RepL (Qf q []) (RepN (Qf q []) h) (nd.kids.drop (i+1)) (t.2.drop (i+1)) Sb)
  (rx:RepN (Qf q f) h kd x Sx) (wx:WX h (loAt lo t.1 i) (hiAt t.1 hi i) x) (kne:0<h→kd.keys≠[]) (hb:last≤700000000) (hgl:gl.length+1≤last+1000):
  ∃u H' fes' f' g' gl' last' nd' t' S' G R,f104 D n [.ptr Ac 0, .agg ln, .int .i64 (i:Nat), .agg lk] H=some (.tuple [u, .int .i64 ((0:Nat):Int)],H')∧
   Ch H0 H' At Ac F fes' f' g' gl' last0 last'∧Adv Ac F H g H' g'∧NodeA H' g' u nd'∧RepN (Qf q f') (h+1) nd' t' S'∧Inn (WF h) lo hi t'∧
   con (h+1) t'=(t.2.take i).flatMap (con h)++con h x++(t.2.drop (i+1)).flatMap (con h)∧isize t'.1 t'.2.length≤isize t.1 t.2.length+285∧t.1.length≤t'.1.length+1∧last≤last'∧last'≤last+6∧gl'=gl++G∧
   S'.Perm (pps last (last' - last)++(R++Sx))∧(Sa++Sb).Perm (G++R)∧(∀p nd,Qf q f p=some nd→Qf q f' p=some nd)∧G.length≤1:=by
 obtain⟨hi',rfl⟩:=List.getElem?_eq_some_iff.1 him
 have hlen:=wi.2.2.len
 obtain⟨rn,hln,lnl,lnc⟩:=node_head hv.1
 obtain⟨rk,hlk,lkl,lkc⟩:=node_head hkd.1
 obtain⟨H1,A5,b1,p1,g1,m1,n1'⟩:=box ch.prs.ok (.cells ln 133 1 false)
 obtain⟨H2,A7,b2,p2,g2,m2,n2'⟩:=box p1.ok (.cells lk 133 1 false)
 obtain⟨H3,A8,b3,p3,g3,m3,n3'⟩:=box p2.ok (.cells [.bool false, .nilSlice, .nilSlice, .nilSlice] 133 1 false)
 have P3:Prs H H3:=(p1.trans p2).trans p3
 have g13:=Prs.get p3 p2.ok (Prs.get p2 p1.ok g1)
 have g23:=Prs.get p3 p2.ok g2
 have hsm:small kd:=size_small (by rw[rx.size];have:=wx.sz;omega)
 obtain⟨z,H4,e4,rfl,p4⟩:=size_ok D n P3.ok (hkd.1.prs P3).node hsm hn
 have P4:=P3.trans p4
 have g14:=Prs.get p4 P3.ok g13
 have g24:=Prs.get p4 P3.ok g23
 have g34:=Prs.get p4 P3.ok g3
 have ch4:=ch.step P4
 have N0:=ch.prs.next
 have cc:=ch.ltC
 have hqf: ∀p nd,Qf q [] p=some nd→Qf q f p=some nd:=fun p nd hp=>by
  have:=Qf_more (new:=f) hq (fun s nd' hs=>(ch.fs s nd' hs).1) hp
  simpa using this
 have moreL: ∀ {ps:List Ptr} {ts:List (Bt.Tr h)} {S:List Ptr},RepL (Qf q []) (RepN (Qf q []) h) ps ts S→RepL (Qf q f) (RepN (Qf q f) h) ps ts S:=fun r=>r.mono (fun p _ nd hp=>hqf p nd hp) (fun nd t S1 _ hr=>hr.mono fun p _ nd hp=>hqf p nd hp)
 have hii:((i:Nat):Int)+((1:Nat):Int)=((i+1:Nat):Int):=by omega
 have hiz:i≤1000:=by simp only[isize]at hz;omega
 have hsize:=rx.size
 by_cases hthin:tsize h x<160
 case neg=>
  have hthI: ¬((Nd.size kd:Nat):Int)< ((160:Nat):Int):=by omega
  have fx:Full h x:=by
   cases h with
   | zero=>
    intro e
    have e:x=([]:Nd.Kvs):=e
    rw[e]at hthin
    exact hthin (by decide)
   | succ h=>exact Nat.le_of_not_lt hthin
  obtain⟨u,H5,fes',f',last',nd',t',S',e5,hc5,st,hu,hfr,r5,w5,c5,z5,k5,l1,l2,pm,more⟩:=place_end D n hn (i:=i) (m:=0) (h:=h) ch4 g14 g24 g34 (by omega) (by have:=p1.next;omega) (by have:=p1.next;have:=p2.next;omega) (by have:=p2.next;omega) (by omega) (by have:=p1.next;have:=p2.next;omega)
   (hv.prs P4) (hkd.prs P4) hq n1 n2 n3 n4 wi hne hz (by simpa using hi') (moreL ra) (by simpa using moreL rb) rx (by simpa using wx) fx kne (by omega)
  refine⟨u,H5,fes',f',g,gl,last',nd',t',S',[],Sa++Sb, ?_,hc5, ?_,hu,r5,w5,by simpa using c5,z5,by omega,l1,l2,by simp, ?_,by simp,more,by simp⟩
  ·simp(config:= { maxSteps:=1000000}) (disch:=omega) only[f104,ev,lg,wnt_undef,ew,b1,b2,b3,hii,agg4 g23 lkl,e4,hthI]
   simp only[Nat.add_zero]at e5
   rw[e5];rfl
  ·refine⟨⟨st.ok,by have:=st.next;have:=P4.next;omega,fun B hB hS=> ?_⟩,fun B hB=> .inl hB⟩
   rw[st.keep B (by have:=P4.next;omega) (fun hx=>by
    rcases hx with hx | hx
    ·exact hS hx
    ·have:=p1.next;have:=p2.next;omega)]
   exact P4.keep B hB (fun x=>x)
  ·exact pm
 case pos=>
 have hthI:((Nd.size kd:Nat):Int)< ((160:Nat):Int):=by omega
 have side: ∃b ndb tb Sbb s,nd.kids[b]? =some (pp s)∧lookN s q=some ndb∧RepN (Qf q []) h ndb tb Sbb∧t.2[b]? =some tb∧
   ((b+1=i∧ ∃Sa',RepL (Qf q []) (RepN (Qf q []) h) (nd.kids.take b) (t.2.take b) Sa'∧Sa=Sa'++(pp s::Sbb))∨(i=0∧b=1∧ ∃Sb',RepL (Qf q []) (RepN (Qf q []) h) (nd.kids.drop 2) (t.2.drop 2) Sb'∧Sb=pp s::(Sbb++Sb'))):=by
  have hkl:0<t.1.length:=by
   rcases Nat.eq_zero_or_pos t.1.length with e | e
   ·exact absurd (List.eq_nil_of_length_eq_zero e) hne
   ·exact e
  cases i with
  | zero=>
   have h1:1<t.2.length:=by omega
   rw[show(0+1:Nat)=1 from rfl,List.drop_eq_getElem_cons h1,List.drop_eq_getElem_cons (show 1<nd.kids.length by omega)]at rb
   obtain⟨ndb,S1,S2,q1,q2,q3,e⟩:=rb
   obtain⟨s,es,hs⟩:=Qf_inv q1
   rcases hs with hs | ⟨_,hs⟩
   ·simp[lookN]at hs
   ·exact⟨1,ndb,t.2[1],S1,s,by rw[List.getElem?_eq_getElem (by omega),es],hs,q2,List.getElem?_eq_getElem h1, .inr ⟨rfl,rfl,S2,q3,by rw[e,es]⟩⟩
  | succ j=>
   have h1:j<t.2.length:=by omega
   rw[List.take_succ_eq_append_getElem h1,List.take_succ_eq_append_getElem (show j<nd.kids.length by omega)]at ra
   obtain⟨T1,T2,r1,r2,e⟩:=ra.split j
   have e1:(nd.kids.take j++[nd.kids[j]'(by omega)]).take j=nd.kids.take j:=List.take_left' (by rw[List.length_take];omega)
   have e2:(nd.kids.take j++[nd.kids[j]'(by omega)]).drop j=[nd.kids[j]'(by omega)]:=List.drop_left' (by rw[List.length_take];omega)
   have e3:(t.2.take j++[t.2[j]]).take j=t.2.take j:=List.take_left' (by rw[List.length_take];omega)
   have e4:(t.2.take j++[t.2[j]]).drop j=[t.2[j]]:=List.drop_left' (by rw[List.length_take];omega)
   rw[e1,e3]at r1
   rw[e2,e4]at r2
   obtain⟨ndb,S1,S2,q1,q2,q3,e5⟩:=r2
   have q3:S2=[]:=q3
   subst q3
   obtain⟨s,es,hs⟩:=Qf_inv q1
   rcases hs with hs | ⟨_,hs⟩
   ·simp[lookN]at hs
   ·exact⟨j,ndb,t.2[j],S1,s,by rw[List.getElem?_eq_getElem (by omega),es],hs,q2,List.getElem?_eq_getElem h1, .inl ⟨rfl,T1,r1,by rw[e,e5,es,List.append_nil]⟩⟩
 obtain⟨b,ndb,tb,Sbb,s,kb,hs,rbb,htb,hcase⟩:=side
 obtain⟨hbl,rfl⟩:=List.getElem?_eq_some_iff.1 htb
 have hbk:b<nd.kids.length:=by omega
 have hkb:nd.kids[b]=pp s:=by rw[List.getElem?_eq_getElem hbk]at kb;exact Option.some.inj kb
 have wb:WF h (loAt lo t.1 b) (hiAt t.1 hi b) t.2[b]:=KB.at wi.2.2 htb
 have ti4:=ti.prs ch4.prs
 obtain⟨ks,vs0,ps,hle,k1,k2,k3⟩:=id (hv.prs P4).1
 simp only[AV.agg.injEq]at hle
 obtain⟨H5,A13,b5,p5,g5,m5,n5⟩:=box ch4.prs.ok (.cells [.bool false, .nilSlice, .nilSlice, .nilSlice] 133 1 false)
 obtain⟨vb,H6,e6,p6,hgb,hmem⟩:=read_ok D n (ti4.prs p5) hs
 obtain⟨kk,hmem⟩:=hmem
 obtain⟨lb,rfl,lbl,lbc⟩:=hgb.cells
 obtain⟨H7,e7,g7,s7,n7⟩:=st_all p6.ok (Prs.get p6 p5.ok g5) (l':=lb) lbl lbc
 have e7':stN 4 (.ptr A13 0) (.agg lb) H6=some (undefA,H7):=e7
 have N4:=P4.next;have N5:=p5.next;have N6:=p6.next
 have p47:Prs H4 H7:=(p5.trans p6).fresh s7 (fun B hB=>by omega)
 have ch7:=ch4.step p47
 have hgb7:NodeG H7 (.agg lb) ndb:=hgb.stp s7 (fun B hB e=>by
  subst e;exact hgb.nblk (Prs.get p6 p5.ok g5) (.inl ⟨_,_,_,_,rfl,fun _ _ e=>by cases e⟩) hB)
 have hb7:NodeA H7 g (.agg lb) ndb:=hgb7.hand ch7 (fun B hB=>hold _ hmem B hB)
 obtain⟨g',H8,e8,ch8,a8⟩:=goes_ok D n ch7 (pp s) hgl (by omega)
 have hv8:=ch7.next (hv.prs (P4.trans p47)) a8
 have hk8:=ch7.next (hkd.prs (P4.trans p47)) a8
 have hb8:=ch7.next hb7 a8
 have np: ∀ {A:Nat} {l:List AV} {e:Nat},H7.h.get A=some (.cells l e 1 false)→A≠Ac→ ¬chg Ac F g A:=fun {A l e} hg hne hc=>by
  rcases hc with e | e | e
  ·exact hne e
  ·rw[e,ch7.gF]at hg;cases hg
  ·rw[ch7.gg.get e]at hg;simp at hg
 have M1:=p1.next;have M2:=p2.next;have M3:=p3.next;have M4:=p4.next;have M7:=p47.next
 have g57:=Prs.get p47 P4.ok g14
 have g77:=Prs.get p47 P4.ok g24
 have g87:=Prs.get p47 P4.ok g34
 have g58:H8.h.get A5=some (.cells ln 133 1 false):=by rw[a8.1.keep _ (by omega) (np g57 (by omega))];exact g57
 have g78:H8.h.get A7=some (.cells lk 133 1 false):=by rw[a8.1.keep _ (by omega) (np g77 (by omega))];exact g77
 have g88:H8.h.get A8=some (.cells [.bool false, .nilSlice, .nilSlice, .nilSlice] 133 1 false):=by rw[a8.1.keep _ (by omega) (np g87 (by omega))];exact g87
 have g138:H8.h.get A13=some (.cells lb 133 1 false):=by rw[a8.1.keep _ (by omega) (np g7 (by omega))];exact g7
 have k34:Ptrs H4 ps nd.kids:=k3.row
 obtain⟨q4,i4,i4'⟩:=k34.at hbk
 obtain⟨q7,i7,i7'⟩:=(k34.prs p47).at hbk
 rw[hkb]at i4' i7'
 obtain rfl:q7=q4:=by
  have e1:=i4 .i64 b rfl
  rw[i7 .i64 b rfl]at e1
  exact Option.some.inj e1
 have hsmb:small ndb:=size_small (by rw[rbb.size];have:=wb.sz;omega)
 have rbf:RepN (Qf q f) h ndb t.2[b] Sbb:=rbb.mono fun p _ nd hp=>hqf p nd hp
 have neb:0<h→ndb.keys≠[]:=fun hh=>by
  cases h with
  | zero=>omega
  | succ h=>
   have:=many_keys wb
   rw[rbb.2.1]
   intro e;rw[e]at this;simp at this
 have t00: ¬(((0:Nat):Int)≠((0:Nat):Int)):=by omega
 have hcells: ∀Hx:AH,Hx.h.get A5=some (.cells ln 133 1 false)→ld1 (.ptr A5 3) Hx=some ps∧ld1 (.ptr A5 1) Hx=some ks:=fun Hx hg=>by
  rw[ld1_get hg,ld1_get hg,hle];exact⟨rfl,rfl⟩
 have hK8:Strs H8 ks nd.keys:=by
  obtain⟨ks',vs',ps',hle',j1,j2,j3⟩:=id hv8.1
  simp only[AV.agg.injEq]at hle'
  rw[hle]at hle'
  simp only[List.cons.injEq,and_true]at hle'
  obtain⟨_,rfl,_,_⟩:=hle'
  exact j1.row
 have fin: ∀(j m:Nat) (sep:Str) (u:AV) (jn':Nd.Node) (x':Bt.Tr h) (Sx' Sa' Sb':List Ptr) (H9:AH),Prs H8 H9→NodeO H8 H9 u jn'→RepN (Qf q f) h jn' x' Sx'→WX h (loAt lo t.1 j) (hiAt t.1 hi (j+m)) x'→Full h x'→(0<h→jn'.keys≠[])→j+m<t.2.length→
   RepL (Qf q f) (RepN (Qf q f) h) (nd.kids.take j) (t.2.take j) Sa'→RepL (Qf q f) (RepN (Qf q f) h) (nd.kids.drop (j+m+1)) (t.2.drop (j+m+1)) Sb'→
   ∃H10,stN 4 (.ptr A7 0) u H9=some (undefA,H10)∧ ∃u H' fes' f' last' nd' t' S',f104j2 D n [.ptr Ac 0, .ptr A5 0, .ptr A7 0, .ptr A8 0, .int .i64 (j:Nat), .int .i64 ((j+m+1:Nat):Int)] H10=some (.ret (.tuple [u, .int .i64 ((0:Nat):Int)]),H')∧
    Ch H0 H' At Ac F fes' f' g' (gl++[pp s]) last0 last'∧Adv Ac F H g H' g'∧NodeA H' g' u nd'∧RepN (Qf q f') (h+1) nd' t' S'∧Inn (WF h) lo hi t'∧
    con (h+1) t'=(t.2.take j).flatMap (con h)++con h x'++(t.2.drop (j+m+1)).flatMap (con h)∧isize t'.1 t'.2.length≤isize t.1 t.2.length+285∧t.1.length≤t'.1.length+m∧last≤last'∧last'≤last+6∧
    S'.Perm (pps last (last' - last)++(Sa'++Sb'++Sx'))∧ ∀p nd,Qf q f p=some nd→Qf q f' p=some nd:=by
  intro j m sep u jn' x' Sx' Sa' Sb' H9 p9 w9 rx' wx' fx' kne' hjm ra' rb'
  have wf9:=w9.free
  obtain⟨lu,rfl,lul,luc⟩:=wf9.1.cells
  have ch9:=ch8.step p9
  have ha9:NodeA H9 g' (.agg lu) jn':=NodeF.hand ch8 (Nat.le_refl _) wf9
  have g79:=Prs.get p9 ch8.prs.ok g78
  obtain⟨H10,e10,g10,s10,n10⟩:=st_all p9.ok g79 (l':=lu) (by omega) luc
  have e10':stN 4 (.ptr A7 0) (.agg lu) H9=some (undefA,H10):=by rw[lkl]at e10;exact e10
  rw[hlk]at g79
  have ch10:=ch9.stb g79 s10 (by omega) (by omega)
  have N8:=a8.1.next;have N9:=p9.next
  have g5x:H10.h.get A5=some (.cells ln 133 1 false):=by rw[s10.keep _ (by omega) (by omega)];exact Prs.get p9 ch8.prs.ok g58
  have g8x:H10.h.get A8=some (.cells [.bool false, .nilSlice, .nilSlice, .nilSlice] 133 1 false):=by rw[s10.keep _ (by omega) (by omega)];exact Prs.get p9 ch8.prs.ok g88
  obtain⟨u',H',fes',f',last',nd',t',S',e5,hc5,st,hu,hfr,r5,w5,c5,z5,k5,l1,l2,pm,more⟩:=place_end D n hn (i:=j) (m:=m) (h:=h) ch10 g5x g10 g8x (by omega) (by omega) (by omega) (by omega) (by omega) (by omega)
   ((hv8.prs p9).stb g79 s10) (ha9.stb g79 s10) hq n1 n2 n3 n4 wi hne hz hjm ra' rb' rx' wx' fx' kne' (by omega)
  refine⟨H10,e10',u',H',fes',f',last',nd',t',S',e5,hc5, ?_,hu,r5,w5,c5,z5,k5,l1,l2,pm,more⟩
  refine⟨⟨st.ok,by have:=st.next;omega,fun B hB hS=> ?_⟩,fun B hB=> ?_⟩
  ·have a1:H8.h.get B=H.h.get B:=by
    rw[a8.1.keep B (by omega) hS,p47.keep B (by omega) (fun x=>x)]
    exact P4.keep B hB (fun x=>x)
   rw[st.keep B (by omega) (fun hx=>by
    rcases hx with hx | hx
    ·rcases hx with e | e | e
     ·exact hS (.inl e)
     ·exact hS (.inr (.inl e))
     ·rcases a8.2 B e with e | e
      ·exact hS (.inr (.inr e))
      ·omega
    ·omega),s10.keep B (by omega) (by omega),p9.keep B (by omega) (fun x=>x)]
   exact a1
  ·rcases a8.2 B hB with e | e
   ·exact .inl e
   ·exact .inr (by omega)
 rcases hcase with⟨hbi,Sa',ra',rfl⟩ | ⟨rfl,rfl,Sb',rb',rfl⟩
 ·
  subst hbi
  have hkey:b<t.1.length:=by omega
  have hsep:=wi.1 _ (List.getElem_mem hkey)
  have hgk:t.1.getD b []=t.1[b]:=by rw[List.getD_eq_getElem?_getD,List.getElem?_eq_getElem hkey];rfl
  have hs1:hiAt t.1 hi b=some t.1[b]:=by simp only[hiAt,List.getElem?_eq_getElem hkey]
  have hs2:loAt lo t.1 (b+1)=some t.1[b]:=by simp only[loAt,List.getElem?_eq_getElem hkey]
  rw[hs1]at wb
  rw[hs2]at wx
  have hjm:=join_may rbf rx wb.gen wx.gen hsep.1 neb kne (RepN.kidOk rbf) (RepN.kidOk rx)
  obtain⟨u,H9,e9,p9,w9⟩:=join_ok D n hn ch8.prs.ok (sep:=t.1[b]) hb8.1.node hk8.1.node hsmb hsm
  rw[hjm]at e9 w9
  simp only[if_true]at e9 w9
  have hls:=key_le hsep.1
  have js:=join_size h t.2[b] t.1[b] x hls
  have wj:WX h (loAt lo t.1 b) (hiAt t.1 hi (b+1)) (joinT h t.2[b] t.1[b] x):=Gen.wx (join_gen wb.gen wx.gen ⟨hsep.1,by
   have hmono:=KB.at wi.2.2 (List.getElem?_eq_getElem hbl)
   cases b with
   | zero=>exact hsep.2.1
   | succ b'=>
    simp only[loAt,List.getElem?_eq_getElem (show b'<t.1.length by omega)]
    have:=(Nd.rising_ix ltS t.1).1 wi.2.1 b' hkey
    exact this,by
   by_cases e:b+1<t.1.length
   ·simp only[hiAt,List.getElem?_eq_getElem e]
    exact(Nd.rising_ix ltS t.1).1 wi.2.1 b e
   ·simp only[hiAt,List.getElem?_eq_none (show t.1.length≤b+1 by omega)]
    exact hsep.2.2⟩) (by have:=wb.sz;omega)
  obtain⟨H10,e10,u',H',fes',f',last',nd',t',S',e5,hc5,adv,hu,r5,w5,c5,z5,k5,l1,l2,pm,more⟩:=fin b 1 t.1[b] u _ _ (Sbb++Sx) Sa' Sb H9 p9 w9 (RepN.join rbf rx t.1[b]) wj (full_join hls (.inl wb.full)) (fun hh e=>by
   cases h with
   | zero=>omega
   | succ h=>
    have:(joinN ndb t.1[b] kd).keys=ndb.keys++([t.1[b]]++kd.keys):=by simp only[joinN,rbf.1,Bool.false_eq_true,if_false]
    rw[this]at e;simp at e) (by omega) (moreL ra') (moreL rb)
  refine⟨u',H',fes',f',g',gl++[pp s],last',nd',t',S',[pp s],Sa'++(Sbb++Sb), ?_,hc5,adv,hu,r5,w5, ?_,z5,k5,l1,l2,rfl, ?_, ?_,more,by simp⟩
  ·have hb1:((b+1:Nat):Int) - ((1:Nat):Int)=((b:Nat):Int):=by omega
   have hb0: ¬((b+1:Nat):Int)=((0:Nat):Int):=by omega
   have hmn:mn2 (.int .i64 ((b+1:Nat):Int)) (.int .i64 ((b:Nat):Int))=some (.int .i64 ((b:Nat):Int)):=by
    have:ilt ((b:Nat):Int) ((b+1:Nat):Int)=true:=by rw[ilt_eq];simp;omega
    simp only[mn2,this,cond_true]
   have hmx:mx2 (.int .i64 ((b+1:Nat):Int)) (.int .i64 ((b:Nat):Int))=some (.int .i64 ((b+1:Nat):Int)):=by
    have:ilt ((b+1:Nat):Int) ((b:Nat):Int)=false:=by rw[ilt_eq];simp;omega
    simp only[mx2,this,cond_false]
   have hlss:((b:Nat):Int)< ((b+1:Nat):Int):=by omega
   have hii':((b+1:Nat):Int)+((1:Nat):Int)=((b+1+1:Nat):Int):=by omega
   obtain⟨qk,ik,ik'⟩:=hK8.at (i:=b) (by rw[n2];exact hkey)
   have hnk:nd.keys[b]'(by rw[n2];exact hkey)=t.1[b]:=by simp[n2]
   rw[hnk]at ik'
   simp(config:= { maxSteps:=2000000}) (disch:=omega) only[f104,ev,lg,wnt_undef,ew,b1,b2,b3,hii',agg4 g23 lkl,e4,hthI,hb1,hb0,f104j1,ld1_get ch4.gC,(hcells H4 g14).1,i4,i4',b5,e6,pExtract,nth,e7',t00,(hcells H7 g57).1,i7,i7',e8,hmn,hmx,hlss,agg4 g138 lbl,(hcells H8 g58).2,ik,ik',agg4 g78 lkl,e9,e10,f104j0,e5]
  ·rw[c5,con_join,List.take_succ_eq_append_getElem hbl,List.flatMap_append,List.flatMap_cons,List.flatMap_nil,List.append_nil]
   simp only[List.append_assoc]
  ·rw[List.perm_iff_count]at pm⊢
   intro a
   have:=pm a
   simp only[List.count_append,List.count_cons]at this⊢
   omega
  ·rw[List.perm_iff_count]
   intro a
   simp only[List.count_append,List.count_cons,List.count_nil]
   omega
 ·
  have hkey:0<t.1.length:=by omega
  have hsep:=wi.1 _ (List.getElem_mem hkey)
  have hs1:hiAt t.1 hi 0=some t.1[0]:=by simp only[hiAt,List.getElem?_eq_getElem hkey]
  have hs2:loAt lo t.1 1=some t.1[0]:=by simp only[loAt,List.getElem?_eq_getElem hkey]
  rw[hs2]at wb
  rw[hs1]at wx
  have hjm:=join_may rx rbf wx.gen wb.gen hsep.1 kne neb (RepN.kidOk rx) (RepN.kidOk rbf)
  obtain⟨u,H9,e9,p9,w9⟩:=join_ok D n hn ch8.prs.ok (sep:=t.1[0]) hk8.1.node hb8.1.node hsm hsmb
  rw[hjm]at e9 w9
  simp only[if_true]at e9 w9
  have hls:=key_le hsep.1
  have js:=join_size h x t.1[0] t.2[1] hls
  have wj:WX h (loAt lo t.1 0) (hiAt t.1 hi (0+1)) (joinT h x t.1[0] t.2[1]):=Gen.wx (join_gen wx.gen wb.gen ⟨hsep.1,hsep.2.1,by
   by_cases e:1<t.1.length
   ·simp only[hiAt,List.getElem?_eq_getElem (show 0+1<t.1.length by omega)]
    exact(Nd.rising_ix ltS t.1).1 wi.2.1 0 (by omega)
   ·simp only[hiAt,List.getElem?_eq_none (show t.1.length≤0+1 by omega)]
    exact hsep.2.2⟩) (by have:=wb.sz;omega)
  obtain⟨H10,e10,u',H',fes',f',last',nd',t',S',e5,hc5,adv,hu,r5,w5,c5,z5,k5,l1,l2,pm,more⟩:=fin 0 1 t.1[0] u _ _ (Sx++Sbb) Sa Sb' H9 p9 w9 (RepN.join rx rbf t.1[0]) wj (full_join hls (.inr wb.full)) (fun hh e=>by
   cases h with
   | zero=>omega
   | succ h=>
    have:(joinN kd t.1[0] ndb).keys=kd.keys++([t.1[0]]++ndb.keys):=by simp only[joinN,rx.1,Bool.false_eq_true,if_false]
    rw[this]at e;simp at e) (by omega) (moreL ra) (moreL rb')
  refine⟨u',H',fes',f',g',gl++[pp s],last',nd',t',S',[pp s],Sa++(Sbb++Sb'), ?_,hc5,adv,hu,r5,w5, ?_,z5,k5,l1,l2,rfl, ?_, ?_,more,by simp⟩
  ·have hmn:mn2 (.int .i64 ((0:Nat):Int)) (.int .i64 ((1:Nat):Int))=some (.int .i64 ((0:Nat):Int)):=rfl
   have hmx:mx2 (.int .i64 ((0:Nat):Int)) (.int .i64 ((1:Nat):Int))=some (.int .i64 ((1:Nat):Int)):=rfl
   have hlss: ¬((1:Nat):Int)< ((0:Nat):Int):=by omega
   have h11:((1:Nat):Int)+((1:Nat):Int)=((0+1+1:Nat):Int):=by omega
   obtain⟨qk,ik,ik'⟩:=hK8.at (i:=0) (by rw[n2];exact hkey)
   have hnk:nd.keys[0]'(by rw[n2];exact hkey)=t.1[0]:=by simp[n2]
   rw[hnk]at ik'
   simp(config:= { maxSteps:=2000000}) (disch:=omega) only[f104,ev,lg,wnt_undef,ew,b1,b2,b3,agg4 g23 lkl,e4,hthI,f104j1,ld1_get ch4.gC,(hcells H4 g14).1,i4,i4',b5,e6,pExtract,nth,e7',t00,(hcells H7 g57).1,i7,i7',e8,hmn,hmx,hlss,h11,agg4 g138 lbl,(hcells H8 g58).2,ik,ik',agg4 g78 lkl,e9,e10,f104j0,e5]
  ·have e1:t.2.drop (0+1)=t.2[1]::t.2.drop 2:=List.drop_eq_getElem_cons hbl
   rw[c5,con_join,e1]
   simp only[List.take_zero,List.flatMap_nil,List.nil_append,List.flatMap_cons,List.append_assoc,show 0+1+1=2 from rfl]
  ·rw[List.perm_iff_count]at pm⊢
   intro a
   have:=pm a
   simp only[List.count_append,List.count_cons]at this⊢
   omega
  ·rw[List.perm_iff_count]
   intro a
   simp only[List.count_append,List.count_cons,List.count_nil]
   omega
end Go.Eng.Sh
end
section
namespace Go.Bt
open Go.Nd (Str Kvs lookP putP delP leafOf mayK)
open Go.Eng (ltS)
inductive Ed
 | put (k v:Str)
 | del (k:Str)
def Ed.key:Ed→Str
 | .put k _=>k
 | .del k=>k
def Ed.run:Ed→Kvs→Option Kvs
 | .put k v,l=>some (putP k v l)
 | .del k,l=>if(lookP k l).isSome then some (delP k l)else none
def Ed.ok:Ed→Prop
 | .put k v=>mayK k=true∧v.length≤200
 | .del k=>mayK k=true
theorem Ed.run_mid (ed:Ed){A C B:Kvs}(hA: ∀p∈A,ltS p.1 ed.key=true)(hB: ∀p∈B,ltS ed.key p.1=true):ed.run (A++C++B)=(ed.run C).map fun c=>A++c++B:=by
 cases ed with
 | put k v=>simp only[Ed.run,Option.map_some,put_mid (k:=k) hA hB]
 | del k=>
  simp only[Ed.run,look_mid (k:=k) hA hB,del_mid (k:=k) hA hB]
  split<;>rfl
theorem Ed.leaf {ed:Ed}{lo hi:Bd}{l l':Kvs}(hw:Lf lo hi l)(hl:lowB lo ed.key)(hh:hiB hi ed.key)(ho:ed.ok)(hr:ed.run l=some l'):Lf lo hi l'∧lsize l'≤lsize l+242:=by
 cases ed with
 | put k v=>
  simp only[Ed.run,Option.some.injEq]at hr;subst hr
  exact leaf_put hw hl hh ho.1 ho.2
 | del k=>
  simp only[Ed.run]at hr
  split at hr
  ·simp only[Option.some.injEq]at hr;subst hr
   have:=leaf_del k hw
   exact⟨this.1,by omega⟩
  ·cases hr
end Go.Bt
namespace Go.Eng.Sh
open Go.Nd (Ptr sumL leafOf Kvs)
open Go.Bt
def edF (ed:Ed)(K V:Nat):AV:=match ed with
 | .put _ _=> .func 64 [] [.ptr K 0, .ptr V 0]
 | .del _=> .func 66 [] [.ptr K 0]
def edB (H:AH)(ed:Ed)(K V:Nat):Prop:=match ed with
 | .put k v=>Box H K (S k)∧Box H V (S v)
 | .del k=>Box H K (S k)
theorem edB.prs {H H':AH}{ed:Ed}{K V:Nat}(h:edB H ed K V)(hk:H.ok)(s:Prs H H'):edB H' ed K V:=by
 cases ed with
 | put k v=>exact⟨h.1.mono hk s (fun x=>x),h.2.mono hk s (fun x=>x)⟩
 | del k=>exact Box.mono h hk s (fun x=>x)
def edL (ed:Ed)(l:Kvs):Nd.Node×Nat:=match ed.run l with
 | some l'=>(leafOf l',0)
 | none=>(nd0,5)
theorem edit_run (m:Nat)(hm:200000000≤m){H:AH}(hk:H.ok){ed:Ed}{K V:Nat}{v:AV}{l:Kvs}{lo hi:Bd}(hv:NodeG H v (leafOf l))(hw:Lf lo hi l)(hz:lsize l≤10000)(ho:ed.ok)(hb:edB H ed K V):
  ∃u H',(match ed with | .put _ _=>f64 (dy m) m [v, .ptr K 0, .ptr V 0] H | .del _=>f66 (dy m) m [v, .ptr K 0] H)=some (.tuple [u, .int .i64 (((edL ed l).2:Nat):Int)],H')∧Prs H H'∧NodeF H.next H' u (edL ed l).1:=by
 have hsh:Nd.shaped ltS (leafOf l)=true:=Nd.leaf_shaped hw.1 fun p hp=>(hw.2 p hp).2.2
 obtain⟨lv,rfl,lvl,lvc⟩:=hv.cells
 obtain⟨H1,A3,b1,p1,g1,m1,n1⟩:=box hk (.cells lv 133 1 false)
 obtain⟨H2,A4,b2,p2,g2,m2,n2⟩:=box p1.ok (.cells [.bool false, .nilSlice, .nilSlice, .nilSlice] 133 1 false)
 have P2:=p1.trans p2
 have hsm:small (leafOf l):=size_small hz
 have N1:=p1.next;have N2:=p2.next
 have fin: ∀ {u:AV} {nd:Nd.Node} {H3:AH},Prs H2 H3→NodeF H2.next H3 u nd→ ∃H4,stN 4 (.ptr A4 0) u H3=some (undefA,H4)∧Prs H H4∧NodeF H.next H4 u nd∧ldN 4 (.ptr A4 0) H4=some u:=fun {u nd H3} p3 hu=>by
  obtain⟨lu,rfl,lul,luc⟩:=hu.1.cells
  obtain⟨H4,e4,g4,s4,n4⟩:=st_all p3.ok (Prs.get p3 P2.ok g2) (l':=lu) lul luc
  refine⟨H4,e4,(P2.trans p3).fresh s4 (fun B hB=>by omega),⟨hu.1.stp s4 (fun B hB e=> ?_),fun B hB=>by have:=hu.2 B hB;omega⟩,agg4 g4 lul⟩
  have:=hu.2 B hB;omega
 cases ed with
 | put k x=>
  obtain⟨u,H3,e3,p3,w3⟩:=putNd_ok (dy m) m hm P2.ok (key:=k) (value:=x) (hv.prs P2) hsm
  have hpo:putOk (leafOf l) k x=true:=by simp only[putOk,hsh,show(leafOf l).leaf=true from rfl,ho.1,ho.2,Bool.true_and,decide_true]
  rw[hpo]at e3 w3
  simp only[if_true,Nd.put_leaf _ _ hw.1]at e3 w3
  obtain⟨H4,e4,P4,w4,l4⟩:=fin p3 w3
  refine⟨u,H4, ?_,P4,w4⟩
  simp(config:= { maxSteps:=1000000}) (disch:=omega) only[f64,ev,lg,wnt_undef,ew,b1,b2,agg4 (Prs.get p2 p1.ok g1) lvl,(hb.1.mono hk P2 (fun x=>x)).ld,(hb.2.mono hk P2 (fun x=>x)).ld,e3,pExtract,nth,e4,l4,edL,Ed.run]
 | del k=>
  obtain⟨u,H3,e3,p3,w3⟩:=delNd_ok (dy m) m hm P2.ok (key:=k) (hv.prs P2) hsm
  have hde:delE (leafOf l) k=if(Nd.lookP k l).isSome then 0 else 5:=by
   simp only[delE,hsh,show(leafOf l).leaf=true from rfl,Bool.and_self,if_true,Nd.here_look _ hw.1]
  obtain⟨H4,e4,P4,w4,l4⟩:=fin p3 w3
  cases hs:(Nd.lookP k l).isSome with
  | true=>
   rw[hs]at hde
   simp only[if_true]at hde
   rw[hde]at e3
   simp only[hde,if_true,Nd.del_leaf _ hw.1 ((Nd.here_look _ hw.1).trans hs)]at w4
   have hel:edL (.del k) l=(leafOf (Nd.delP k l),0):=by simp only[edL,Ed.run,hs,if_true]
   refine⟨u,H4, ?_,P4,by rw[hel];exact w4⟩
   rw[hel]
   simp(config:= { maxSteps:=1000000}) (disch:=omega) only[f66,ev,lg,wnt_undef,ew,b1,b2,agg4 (Prs.get p2 p1.ok g1) lvl,(Box.mono hb hk P2 (fun x=>x)).ld,e3,pExtract,nth,e4,l4]
  | false=>
   rw[hs]at hde
   simp only[Bool.false_eq_true,if_false]at hde
   rw[hde]at e3
   have h5: ¬(5:Nat)=0:=by decide
   simp only[hde,h5,if_false]at w4
   have hel:edL (.del k) l=(nd0,5):=by simp only[edL,Ed.run,hs,Bool.false_eq_true,if_false]
   refine⟨u,H4, ?_,P4,by rw[hel];exact w4⟩
   rw[hel]
   simp(config:= { maxSteps:=1000000}) (disch:=omega) only[f66,ev,lg,wnt_undef,ew,b1,b2,agg4 (Prs.get p2 p1.ok g1) lvl,(Box.mono hb hk P2 (fun x=>x)).ld,e3,pExtract,nth,e4,l4]
theorem edit_ok (m n:Nat)(hm:200000000≤m){H:AH}(hk:H.ok){ed:Ed}{K V:Nat}{v:AV}{l:Kvs}{lo hi:Bd}(hv:NodeG H v (leafOf l))(hw:Lf lo hi l)(hz:lsize l≤10000)(ho:ed.ok)(hb:edB H ed K V):
  ∃u H',callV (s103 (dy (m+1)) n).S (dy (m+1)) (edF ed K V) [v] H=some (.tuple [u, .int .i64 (((edL ed l).2:Nat):Int)],H')∧callV (s63 (dy (m+1)) n).S (dy (m+1)) (edF ed K V) [v] H=some (.tuple [u, .int .i64 (((edL ed l).2:Nat):Int)],H')∧Prs H H'∧NodeF H.next H' u (edL ed l).1:=by
 obtain⟨u,H',e,p,w⟩:=edit_run m hm hk hv hw hz ho hb
 refine⟨u,H', ?_, ?_,p,w⟩
 ·cases ed with
  | put k x=>exact e
  | del k=>exact e
 ·cases ed with
  | put k x=>exact e
  | del k=>exact e
def downF (Bd Bt Be Bk Bf Bc:Nat):AV:= .func 103 [] [.ptr Bd 0, .ptr Bt 0, .ptr Be 0, .ptr Bk 0, .ptr Bf 0, .ptr Bc 0]
structure Cl (H0 H:AH)(At Ac K V:Nat)(ed:Ed)(Bd Bt Be Bk Bf Bc d:Nat):Prop where
 bd:Box H Bd (.int .i64 (d:Nat))
 bt:Box H Bt (.ptr At 0)
 be:Box H Be (edF ed K V)
 bk:Box H Bk (S ed.key)
 bf:Box H Bf (downF Bd Bt Be Bk Bf Bc)
 bc:Box H Bc (.ptr Ac 0)
 eb:edB H0 ed K V
 fr:H0.next≤Bd
 n1:Bt≠Bd
 n2:Be≠Bd
 n3:Bk≠Bd
 n4:Bf≠Bd
 n5:Bc≠Bd
theorem _root_.Go.Eng.Box.nchg {H0 H:AH}{At Ac F:Nat}{fes:List (AV×AV)}{f:PN}{g v:AV}{gl:List Ptr}{last0 last A:Nat}(h:Box H A v)(ch:Ch H0 H At Ac F fes f g gl last0 last): ¬chg Ac F g A:=fun hc=>by
 obtain⟨e,h⟩:=h
 rcases hc with rfl | rfl | hc
 ·rw[ch.gC]at h;simp at h
 ·rw[ch.gF]at h;cases h
 ·rw[ch.gg.get hc]at h;simp at h
theorem Cl.keep {H0 H H':AH}{At Ac F K V:Nat}{ed:Ed}{Bd Bt Be Bk Bf Bc d:Nat}{fes:List (AV×AV)}{f:PN}{g:AV}{gl:List Ptr}{last0 last:Nat}(h:Cl H0 H At Ac K V ed Bd Bt Be Bk Bf Bc d)(ch:Ch H0 H At Ac F fes f g gl last0 last)(s:Stp (chg Ac F g) H H'):Cl H0 H' At Ac K V ed Bd Bt Be Bk Bf Bc d:=
 ⟨h.bd.mono ch.prs.ok s (h.bd.nchg ch),h.bt.mono ch.prs.ok s (h.bt.nchg ch),h.be.mono ch.prs.ok s (h.be.nchg ch),h.bk.mono ch.prs.ok s (h.bk.nchg ch),h.bf.mono ch.prs.ok s (h.bf.nchg ch),h.bc.mono ch.prs.ok s (h.bc.nchg ch),h.eb,h.fr,h.n1,h.n2,h.n3,h.n4,h.n5⟩
theorem Cl.prs {H0 H H':AH}{At Ac K V:Nat}{ed:Ed}{Bd Bt Be Bk Bf Bc d:Nat}(h:Cl H0 H At Ac K V ed Bd Bt Be Bk Bf Bc d)(hk:H.ok)(s:Prs H H'):Cl H0 H' At Ac K V ed Bd Bt Be Bk Bf Bc d:=
 ⟨h.bd.mono hk s (fun x=>x),h.bt.mono hk s (fun x=>x),h.be.mono hk s (fun x=>x),h.bk.mono hk s (fun x=>x),h.bf.mono hk s (fun x=>x),h.bc.mono hk s (fun x=>x),h.eb,h.fr,h.n1,h.n2,h.n3,h.n4,h.n5⟩
theorem Cl.deeper {H0 H:AH}{At Ac F K V:Nat}{ed:Ed}{Bd Bt Be Bk Bf Bc d:Nat}{fes:List (AV×AV)}{f:PN}{g:AV}{gl:List Ptr}{last0 last:Nat}(h:Cl H0 H At Ac K V ed Bd Bt Be Bk Bf Bc d)(ch:Ch H0 H At Ac F fes f g gl last0 last):
  ∃H',stN 1 (.ptr Bd 0) (.int .i64 ((d+1:Nat):Int)) H=some (undefA,H')∧Cl H0 H' At Ac K V ed Bd Bt Be Bk Bf Bc (d+1)∧Ch H0 H' At Ac F fes f g gl last0 last∧Stp (fun B=>B=Bd) H H':=by
 obtain⟨H',e,b,s⟩:=h.bd.st ch.prs.ok (x:= .int .i64 ((d+1:Nat):Int)) rfl
 have hn:=h.bd.nchg ch
 obtain⟨e1,hg⟩:=h.bd
 refine⟨H',e,⟨b,h.bt.mono ch.prs.ok s h.n1,h.be.mono ch.prs.ok s h.n2,h.bk.mono ch.prs.ok s h.n3,h.bf.mono ch.prs.ok s h.n4,h.bc.mono ch.prs.ok s h.n5,h.eb,h.fr,h.n1,h.n2,h.n3,h.n4,h.n5⟩, ?_,s⟩
 exact ch.other s (fun e=>hn (.inl e.symm)) (fun e=>hn (.inr (.inl e.symm))) (fun B hB e=>hn (.inr (.inr (e▸hB)))) (fun kv hkv B hB e=>by
  subst e
  obtain⟨nd2,hn2⟩:=ch.pf.mem kv hkv
  exact hn2.nblk hg (.inl ⟨_,_,_,_,rfl,fun _ _ e=>by cases e⟩) hB) (fun B hB=>by rw[hB];exact h.fr)
end Go.Eng.Sh
end
section
namespace Go.Eng.Sh
open Go.Nd (Ptr sumL leafOf Kvs)
open Go.Bt
theorem whereN_leafless {nd:Nd.Node}{ks:List Str}(hl:nd.leaf=false)(hk:nd.keys=ks)(key:Str):Nd.whereN nd key=whereI ks key:=by
 simp only[Nd.whereN,whereI,hl,hk,Bool.not_false,Bool.true_and]
theorem pps_mem: ∀ {n last:Nat} {p:Ptr},p∈pps last n→ ∃j,p=pp j∧last<j∧j≤last+n
 | 0,_,_,h=>by simp[pps]at h
 | n+1,last,p,h=>by
  rcases List.mem_cons.1 h with rfl | h
  ·exact⟨last+1,rfl,by omega,by omega⟩
  ·obtain⟨j,e,h1,h2⟩:=pps_mem h
   exact⟨j,e,by omega,by omega⟩
theorem pps_nodup: ∀(n last:Nat),(pps last n).Nodup
 | 0,_=>by simp[pps]
 | n+1,last=>by
  rw[pps,List.nodup_cons]
  refine⟨fun h=> ?_,pps_nodup n (last+1)⟩
  obtain⟨j,e,h1,_⟩:=pps_mem h
  have:=pp_inj e;omega
def DownOut (H0 H H':AH)(At Ac F K V:Nat)(ed:Ed)(B1 B2 B3 B4 B5 B6 d:Nat)(q:PN)(f:PN)(g g':AV)(gl:List Ptr)(last0 last:Nat)(h:Nat)(lo hi:Bd)(t:Bt.Tr h)(S:List Ptr)(p:Ptr)(u:AV)(c':Kvs):Prop:=
 ∃fes' f' gl' last' d' nd' S' G R Fr,∃t':Bt.Tr h,Ch H0 H' At Ac F fes' f' g' gl' last0 last'∧Cl H0 H' At Ac K V ed B1 B2 B3 B4 B5 B6 d'∧NodeA H' g' u nd'∧RepN (Qf q f') h nd' t' S'∧WX h lo hi t'∧con h t'=c'∧(0<h→nkeys h t≤nkeys h t'+1)∧gl'=gl++G∧G.length≤2*(h+1)∧
  last≤last'∧last'≤last+6*h∧d'≤d+h+1∧S'.Perm (Fr++R)∧(p::S).Perm (G++R)∧Fr.Nodup∧(∀p∈Fr,∃j,p=pp j∧last<j∧j≤last')∧(∀p nd,Qf q f p=some nd→Qf q f' p=some nd)∧ ∀B,Blk g' B→Blk g B∨H.next≤B
theorem tail_ok (D:Dyn)(n:Nat){H0 H:AH}{At Ac F K V:Nat}{ed:Ed}{B1 B2 B3 B4 B5 B6 d A7 A8 A10 e7:Nat}{fes:List (AV×AV)}{f:PN}{g:AV}{gl:List Ptr}{last0 last:Nat}{lu:List AV}{nd:Nd.Node}{p:Ptr}
  (ch:Ch H0 H At Ac F fes f g gl last0 last) (cl:Cl H0 H At Ac K V ed B1 B2 B3 B4 B5 B6 d) (g7:H.h.get A7=some (.cells (ptrV p) e7 1 false)) (g8:H.h.get A8=some (.cells [.bool false, .nilSlice, .nilSlice, .nilSlice] 133 1 false)) (g10:H.h.get A10=some (.cells lu 133 1 false))
  (hu:NodeA H g (.agg lu) nd) (h8:H0.next≤A8) (h8c:A8≠Ac) (h7c:A7≠Ac) (h10c:A10≠Ac) (hl:gl.length+1≤last+1000) (hb:last≤900000000):
  ∃g' H',f103j1 D n [.ptr B6 0, .ptr A7 0, .ptr A8 0, .ptr A10 0, .int .i64 ((0:Nat):Int)] H=some (.ret (.tuple [.agg lu, .int .i64 ((0:Nat):Int)]),H')∧Ch H0 H' At Ac F fes f g' (gl++[p]) last0 last∧Cl H0 H' At Ac K V ed B1 B2 B3 B4 B5 B6 d∧NodeA H' g' (.agg lu) nd∧
   Stp (fun B=>chg Ac F g B∨B=A8) H H'∧ ∀B,Blk g' B→Blk g B∨H.next≤B:=by
 obtain⟨lul,luc⟩:lu.length=4∧allCells lu=true:=by
  obtain⟨_,_,a,b⟩:=node_head hu.1;exact⟨a,b⟩
 obtain⟨g',H1,e1,ch1,a1⟩:=goes_ok D n ch p hl hb
 have np: ∀ {A:Nat} {l:List AV} {e:Nat},H.h.get A=some (.cells l e 1 false)→A≠Ac→ ¬chg Ac F g A:=fun {A l e} hg hne hc=>by
  rcases hc with e | e | e
  ·exact hne e
  ·rw[e,ch.gF]at hg;cases hg
  ·rw[ch.gg.get e]at hg;simp at hg
 have lt: ∀ {A:Nat} {l:List AV} {e:Nat},H.h.get A=some (.cells l e 1 false)→A<H.next:=fun hg=>ch.prs.ok.lt hg
 have g81:H1.h.get A8=some (.cells [.bool false, .nilSlice, .nilSlice, .nilSlice] 133 1 false):=by rw[a1.1.keep _ (lt g8) (np g8 h8c)];exact g8
 have g101:H1.h.get A10=some (.cells lu 133 1 false):=by rw[a1.1.keep _ (lt g10) (np g10 h10c)];exact g10
 have hu1:=ch.next hu a1
 have cl1:=cl.keep ch a1.1
 obtain⟨H2,e2,g82,s2,n2⟩:=st_all ch1.prs.ok g81 (l':=lu) lul luc
 have e2':stN 4 (.ptr A8 0) (.agg lu) H1=some (undefA,H2):=e2
 have ch2:=ch1.stb g81 s2 h8 h8c
 have nb: ∀ {A:Nat} {x:AV},Box H1 A x→(∀b,x≠ .bool b)→A≠A8:=fun {A x} hb hx e=>by
  obtain⟨_,hb⟩:=hb
  rw[e,g81]at hb;simp at hb
 have cl2:Cl H0 H2 At Ac K V ed B1 B2 B3 B4 B5 B6 d:=by
  have m: ∀ {A:Nat} {x:AV},Box H1 A x→Box H2 A x:=fun {A x} hb=>hb.mono ch1.prs.ok s2 (fun e=>by
   obtain⟨_,hb⟩:=hb
   rw[e,g81]at hb;simp at hb)
  exact⟨m cl1.bd,m cl1.bt,m cl1.be,m cl1.bk,m cl1.bf,m cl1.bc,cl1.eb,cl1.fr,cl1.n1,cl1.n2,cl1.n3,cl1.n4,cl1.n5⟩
 refine⟨g',H2, ?_,ch2,cl2,hu1.stb g81 s2,(a1.1.mono fun _ _ x=> .inl x).trans (s2.mono fun _ _ x=> .inr x),a1.2⟩
 have t00: ¬(((0:Nat):Int)≠((0:Nat):Int)):=by omega
 simp(config:= { maxSteps:=1000000}) (disch:=omega) only[f103j1,ev,lg,wnt_undef,ew,t00,cl.bc.ld,ldN_get g7,sub3p,Option.map_some,e1,agg4 g101 lul,e2',agg4 g82 lul]
theorem tail_no (D:Dyn)(n:Nat){H:AH}{A8 B6 e:Nat}(x y:AV)(hk:H.ok)(g8:H.h.get A8=some (.cells [.bool false, .nilSlice, .nilSlice, .nilSlice] 133 1 false))(he:e≠0):
  ∃H',f103j1 D n [.ptr B6 0,x, .ptr A8 0,y, .int .i64 (e:Nat)] H=some (.ret (.tuple [.agg [.bool false, .nilSlice, .nilSlice, .nilSlice], .int .i64 (e:Nat)]),H')∧Stp (fun B=>B=A8) H H':=by
 obtain⟨H2,e2,g82,s2,n2⟩:=st_all hk g8 (l':=[.bool false, .nilSlice, .nilSlice, .nilSlice]) rfl rfl
 have e2':stN 4 (.ptr A8 0) (.agg [.bool false, .nilSlice, .nilSlice, .nilSlice]) H=some (undefA,H2):=e2
 refine⟨H2, ?_,s2⟩
 have t00:((e:Nat):Int)≠((0:Nat):Int):=by omega
 simp(config:= { maxSteps:=1000000}) (disch:=omega) only[f103j1,ev,lg,wnt_undef,ew,t00,ne_eq,not_false_eq_true,bldN0,e2',agg4 g82 rfl]
theorem callDown (M n B1 B2 B3 B4 B5 B6:Nat)(x:AV)(H:AH):callV (s103 (dy (M+1)) n).S (dy (M+1)) (downF B1 B2 B3 B4 B5 B6) [x] H=f103 (dy M) M [x, .ptr B1 0, .ptr B2 0, .ptr B3 0, .ptr B4 0, .ptr B5 0, .ptr B6 0] H:=rfl
noncomputable def downR (D:Dyn)(n:Nat)(x3 x4 x5 x6 x7 x8 x10:AV)(H:AH):Rs:=
 bV (fAd 0 x10) fun x31=>
 bV (ld1 x31 H) fun x32=>
 jn (cnd x32 (bV (ld1 x3 H) fun x34=>
 bV (ldN 4 x10 H) fun x35=>
 bR (callV (s103 D n).S D x34 [x35] H) fun x36 H=>
 bV (pExtract x36 0) fun x37=>
 bV (pExtract x36 1) fun x38=>
 bR (stN 4 x10 x37 H) fun _ H=>
 some (.norm [x6,x7,x8,x10,x38],H))
 (bV (ldN 4 x10 H) fun x39=>
 bV (ld1 x4 H) fun x40=>
 bR (f70 D n [x39,x40] H) fun x41 H=>
 bA (bxV 133 (.agg [(.bool false), .nilSlice, .nilSlice, .nilSlice])) H fun x13 H=>
 bV (ld1 x5 H) fun x43=>
 bV (fAd 3 x10) fun x44=>
 bV (ld1 x44 H) fun x45=>
 bV (ixSl 3 x45 x41) fun x47=>
 bV (ldN 3 x47 H) fun x48=>
 bR (callV (s103 D n).S D x43 [x48] H) fun x49 H=>
 bV (pExtract x49 0) fun x50=>
 bV (pExtract x49 1) fun x51=>
 bR (stN 4 x13 x50 H) fun _ H=>
 bV (bInt .eql x51 (.int .i64 (.ofNat 0))) fun x53=>
 jn (cnd x53 (bV (ld1 x6 H) fun x55=>
 bV (ldN 4 x10 H) fun x56=>
 bV (ldN 4 x13 H) fun x58=>
 bR (f104 D n [x55,x56,x41,x58] H) fun x59 H=>
 bV (pExtract x59 0) fun x60=>
 bV (pExtract x59 1) fun x61=>
 bR (stN 4 x10 x60 H) fun _ H=>
 some (.norm [x6,x7,x8,x10,x61],H))
 (some (.norm [x6,x7,x8,x10,x51],H))) (f103j0 D n))) (f103j1 D n)
theorem down_head (D:Dyn)(n:Nat){H0 H:AH}{At Ac F M0 K V:Nat}{ed:Ed}{B1 B2 B3 B4 B5 B6 d s:Nat}{dk cch dr:AV}{root:Ptr}{es:List (AV×AV)}{q fr:PN}{fes:List (AV×AV)}{g:AV}{gl:List Ptr}{last0 last:Nat}{nd:Nd.Node}(ti:TI H0 At M0 dk cch root es q last0 dr)(hold: ∀kv∈es,∀B,blkN kv.2 B→B<H0.next)
  (ch:Ch H0 H At Ac F fes fr g gl last0 last) (cl:Cl H0 H At Ac K V ed B1 B2 B3 B4 B5 B6 d) (hs:lookN s q=some nd) (hd:d+1≤8192):
  ∃lv A7 A8 A10 H6,f103 D n [.agg (ptrV (pp s)), .ptr B1 0, .ptr B2 0, .ptr B3 0, .ptr B4 0, .ptr B5 0, .ptr B6 0] H=outR (downR D n (.ptr B3 0) (.ptr B4 0) (.ptr B5 0) (.ptr B6 0) (.ptr A7 0) (.ptr A8 0) (.ptr A10 0) H6)∧
   Ch H0 H6 At Ac F fes fr g gl last0 last∧Cl H0 H6 At Ac K V ed B1 B2 B3 B4 B5 B6 (d+1)∧NodeA H6 g (.agg lv) nd∧(∃r,lv= .bool nd.leaf::r∧lv.length=4∧allCells lv=true)∧
   H6.h.get A7=some (.cells (ptrV (pp s)) 72 1 false)∧H6.h.get A8=some (.cells [.bool false, .nilSlice, .nilSlice, .nilSlice] 133 1 false)∧H6.h.get A10=some (.cells lv 133 1 false)∧
   H.next≤A7∧H.next≤A8∧H.next≤A10∧A7≠A8∧A7≠A10∧A8≠A10∧Stp (fun B=>B=B1) H H6:=by
 obtain⟨H1,A7,b1,p1,g1,m1,n1⟩:=box ch.prs.ok (.cells (ptrV (pp s)) 72 1 false)
 obtain⟨H2,A8,b2,p2,g2,m2,n2⟩:=box p1.ok (.cells [.bool false, .nilSlice, .nilSlice, .nilSlice] 133 1 false)
 have P2:=p1.trans p2
 have ch2:=ch.step P2
 have cl2:=cl.prs ch.prs.ok P2
 obtain⟨H3,e3,cl3,ch3,s3⟩:=cl2.deeper ch2
 have ti3:=ti.prs ch3.prs
 have hmost:=most_ok D n ti3
 have N1:=p1.next;have N2:=p2.next;have N3:=s3.next
 have hB1:B1<H.next:=cl.bd.lt ch.prs.ok
 have g73:H3.h.get A7=some (.cells (ptrV (pp s)) 72 1 false):=by rw[s3.keep _ (by omega) (by omega)];exact Prs.get p2 p1.ok g1
 have g83:H3.h.get A8=some (.cells [.bool false, .nilSlice, .nilSlice, .nilSlice] 133 1 false):=by rw[s3.keep _ (by omega) (by omega)];exact g2
 obtain⟨v,H4,e4,p4,hg4,kk,hmem⟩:=read_ok D n ti3 hs
 obtain⟨lv,rfl,lvl,lvc⟩:=hg4.cells
 obtain⟨H5,A10,b5,p5,g5,m5,n5⟩:=box p4.ok (.cells [.bool false, .nilSlice, .nilSlice, .nilSlice] 133 1 false)
 obtain⟨H6,e6,g6,s6,n6⟩:=st_all p5.ok g5 (l':=lv) lvl lvc
 have e6':stN 4 (.ptr A10 0) (.agg lv) H5=some (undefA,H6):=e6
 have N4:=p4.next;have N5:=p5.next
 have p36:Prs H3 H6:=(p4.trans p5).fresh s6 (fun B hB=>by omega)
 have ch6:=ch3.step p36
 have hg6:NodeG H6 (.agg lv) nd:=(hg4.prs p5).stp s6 (fun B hB e=>by
  subst e
  have:=hg4.lt hB;omega)
 have hA6:NodeA H6 g (.agg lv) nd:=hg6.hand ch6 (fun B hB=>hold _ hmem B hB)
 obtain⟨r,hr1,hr2,hr3⟩:=node_head hg6
 refine⟨lv,A7,A8,A10,H6, ?_,ch6,cl3.prs ch3.prs.ok p36,hA6,⟨r,hr1,hr2,hr3⟩,Prs.get p36 ch3.prs.ok g73,Prs.get p36 ch3.prs.ok g83,g6,by omega,by omega,by omega,by omega,by omega,by omega,((P2.mono fun _ _ x=>x.elim).trans s3).trans (p36.mono fun _ _ x=>x.elim)⟩
 have hd1:((d:Nat):Int)+((1:Nat):Int)=((d+1:Nat):Int):=by omega
 have hgt: ¬((8192+q.length:Nat):Int)< ((d+1:Nat):Int):=by omega
 have hav:aveq (.int .i64 ((d+1:Nat):Int)) (.int .i64 ((d+1:Nat):Int))=true:=by
  have:keq .i64 .i64=true:=by rw[keq_eq];simp
  simp only[aveq,this,Bool.true_and,ieq_eq];simp
 have t00: ¬(((0:Nat):Int)≠((0:Nat):Int)):=by omega
 simp(config:= { maxSteps:=1000000}) (disch:=omega) only[f103,hd_cons,nl_nil,bVs,bRs,show ∀(e:TypeId) (l:List AV),bxV e (.agg l)=some (.cells l e 1 false,fun A=> .ptr A 0)from fun _ _=>rfl,b1,b2,cl2.bd.ld,bInt_add,wrap_i64,Int.ofNat_eq_natCast,hd1,e3,cl3.bd.ld,cl3.bt.ld,hmost,(fun K=>chk_ok rfl hav: ∀K:Rs,chk (some (AV.int .i64 ((d+1:Nat):Int))) (.int .i64 ((d+1:Nat):Int)) K=K),bInt_gtr,hgt,decide_false,cnd_b,Bool.false_eq_true,if_false,ldN_get g73,sub3p,Option.map_some,e4,pExtract,nth,b5,e6',bInt_neq,t00]
 rfl
theorem Cl.stb {H0 H H':AH}{At Ac K V A e:Nat}{ed:Ed}{B1 B2 B3 B4 B5 B6 d:Nat}{l:List AV}(h:Cl H0 H At Ac K V ed B1 B2 B3 B4 B5 B6 d)(hk:H.ok)(gA:H.h.get A=some (.cells l e 1 false))(hl:l.length=4)(s:Stp (fun B=>B=A) H H'):Cl H0 H' At Ac K V ed B1 B2 B3 B4 B5 B6 d:=by
 have m: ∀ {B:Nat} {x:AV},Box H B x→Box H' B x:=fun {B x} hb=>hb.mono hk s (fun e=>by
  obtain⟨_,hb⟩:=hb
  rw[e,gA]at hb
  simp only[Option.some.injEq,AObj.cells.injEq]at hb
  rw[hb.1]at hl;simp at hl)
 exact⟨m h.bd,m h.bt,m h.be,m h.bk,m h.bf,m h.bc,h.eb,h.fr,h.n1,h.n2,h.n3,h.n4,h.n5⟩
theorem down_ok {H0:AH}{At Ac F M0 K V:Nat}{ed:Ed}{B1 B2 B3 B4 B5 B6:Nat}{dk cch dr:AV}{root:Ptr}{es:List (AV×AV)}{q:PN}{last0:Nat}(ti:TI H0 At M0 dk cch root es q last0 dr)(hold: ∀kv∈es,∀B,blkN kv.2 B→B<H0.next)(hq: ∀s nd,lookN s q=some nd→s≤last0)(ho:ed.ok):
  ∀(h M n:Nat),200000000+h≤M→200000000≤n→ ∀ {H:AH} {d s last:Nat} {fes:List (AV×AV)} {f:PN} {g:AV} {gl:List Ptr} {nd:Nd.Node} {t:Bt.Tr h} {S:List Ptr} {lo hi:Bd},
   Ch H0 H At Ac F fes f g gl last0 last→Cl H0 H At Ac K V ed B1 B2 B3 B4 B5 B6 d→lookN s q=some nd→RepN (Qf q []) h nd t S→Gen h lo hi t→tsize h t≤500→(0<h→nd.keys≠[])→lowB lo ed.key→hiB hi ed.key→d+h+1≤8192→last+6*h≤600000000→gl.length+2*(h+1)≤last+1000→
   ∃u e g' H',f103 (dy (M+1)) n [.agg (ptrV (pp s)), .ptr B1 0, .ptr B2 0, .ptr B3 0, .ptr B4 0, .ptr B5 0, .ptr B6 0] H=some (.tuple [u, .int .i64 ((e:Nat):Int)],H')∧Stp (fun B=>chg Ac F g B∨B=B1) H H'∧(∃l,u= .agg l∧l.length=4∧allCells l=true)∧
    match ed.run (con h t)with
    | none=>e=5
    | some c'=>e=0∧DownOut H0 H H' At Ac F K V ed B1 B2 B3 B4 B5 B6 d q f g g' gl last0 last h lo hi t S (pp s) u c':=by
 intro h
 induction h with
 | zero=>
  intro M n hM hn H d s last fes f g gl nd t S lo hi ch cl hs rn wg hz _ hlo hhi hd hb hgl
  obtain⟨rfl,rfl⟩:=rn
  obtain⟨lv,A7,A8,A10,H6,e6,ch6,cl6,hA6,⟨r,hr1,hr2,hr3⟩,g7,g8,g10,m7,m8,m10,n78,n710,n810,st6⟩:=down_head (dy (M+1)) n ti hold ch cl hs (by omega)
  have N0:=ch.prs.next;have hAc:=ch.ltC;have N6:=st6.next
  have hz':lsize (t:Kvs)≤10000:=by simp only[tsize]at hz;omega
  obtain⟨u,H7,e7,_,p7,w7⟩:=edit_ok M n (by omega) ch6.prs.ok hA6.1 wg hz' ho (cl6.eb.prs ti.ok ch6.prs)
  obtain⟨lu,rfl,lul,luc⟩:=w7.1.cells
  have ch7:=ch6.step p7
  have cl7:=cl6.prs ch6.prs.ok p7
  have g107:=Prs.get p7 ch6.prs.ok g10
  obtain⟨H8,e8,g108,s8,n8⟩:=st_all p7.ok g107 (l':=lu) (by omega) luc
  have e8':stN 4 (.ptr A10 0) (.agg lu) H7=some (undefA,H8):=by rw[hr2]at e8;exact e8
  have cl8:=cl7.stb p7.ok g107 hr2 s8
  have hu7:NodeA H7 g (.agg lu) (edL ed t).1:=NodeF.hand ch6 (Nat.le_refl _) w7
  rw[hr1]at g107
  have ch8:=ch7.stb g107 s8 (by omega) (by omega)
  have hu8:=hu7.stb g107 s8
  have N7:=p7.next;have N8:=s8.next
  have g78:H8.h.get A7=some (.cells (ptrV (pp s)) 72 1 false):=by rw[s8.keep _ (by have:=ch6.prs.ok.lt g7;omega) (by omega)];exact Prs.get p7 ch6.prs.ok g7
  have g88:H8.h.get A8=some (.cells [.bool false, .nilSlice, .nilSlice, .nilSlice] 133 1 false):=by rw[s8.keep _ (by have:=ch6.prs.ok.lt g8;omega) (by omega)];exact Prs.get p7 ch6.prs.ok g8
  have S8:Stp (fun B=>chg Ac F g B∨B=B1) H H8:=⟨s8.ok,by omega,fun B hB hS=>by
   rw[s8.keep B (by omega) (by omega),p7.keep B (by omega) (fun x=>x),st6.keep B hB (fun e=>hS (.inr e))]⟩
  have t00: ¬(((0:Nat):Int)≠((0:Nat):Int)):=by omega
  have hlf:(leafOf (t:Kvs)).leaf=true:=rfl
  have run: ∀ {x:Option (AV×AH)} {code:Nat},(edL ed t).2=code→outR (f103j1 (dy (M+1)) n [.ptr B6 0, .ptr A7 0, .ptr A8 0, .ptr A10 0, .int .i64 ((code:Nat):Int)] H8)=x→f103 (dy (M+1)) n [.agg (ptrV (pp s)), .ptr B1 0, .ptr B2 0, .ptr B3 0, .ptr B4 0, .ptr B5 0, .ptr B6 0] H=x:=by
   intro x code hc hx
   rw[hc]at e7
   rw[e6]
   simp(config:= { maxSteps:=1000000}) (disch:=omega) only[downR,ev,lg,wnt_undef,ew,ld1_get g10,hr1,hlf,cl6.be.ld]
   simp(config:= { maxSteps:=1000000}) (disch:=omega) only[ev,lg,wnt_undef,ew,agg4 g10 hr2,e7,pExtract,nth,e8']
   exact hx
  cases hr:ed.run t with
  | none=>
   have hel:edL ed t=(nd0,5):=by simp only[edL,hr]
   obtain⟨H9,e9,s9⟩:=tail_no (dy (M+1)) n (B6:=B6) (.ptr A7 0) (.ptr A10 0) ch8.prs.ok g88 (e:=5) (by decide)
   refine⟨.agg [.bool false, .nilSlice, .nilSlice, .nilSlice],5,g,H9,run (by rw[hel]) (by rw[e9];rfl),⟨s9.ok,by have:=s9.next;omega,fun B hB hS=>by rw[s9.keep B (by omega) (by omega)];exact S8.keep B hB hS⟩,⟨_,rfl,rfl,rfl⟩, ?_⟩
   simp only[con,hr]
  | some l'=>
   have hel:edL ed t=(leafOf l',0):=by simp only[edL,hr]
   rw[hel]at hu8
   obtain⟨g',H9,e9,ch9,cl9,hu9,s9,b9⟩:=tail_ok (dy (M+1)) n ch8 cl8 g78 g88 g108 hu8 (by omega) (by omega) (by omega) (by omega) (by omega) (by omega)
   obtain⟨w1,w2⟩:=Ed.leaf wg hlo hhi ho hr
   refine⟨.agg lu,0,g',H9,run (by rw[hel]) (by rw[e9];rfl),⟨s9.ok,by have:=s9.next;omega,fun B hB hS=> ?_⟩,⟨_,rfl,lul,luc⟩, ?_⟩
   ·rw[s9.keep B (by omega) (fun hx=>by
     rcases hx with hx | hx
     ·exact hS (.inl hx)
     ·omega)]
    exact S8.keep B hB hS
   ·simp only[con,hr]
    refine⟨trivial,_,_,_,_,_,_,[],[pp s],[],[],l',ch9,cl9,hu9,⟨rfl,rfl⟩,⟨w1,by simp only[tsize]at hz;omega⟩,rfl,fun hh=>absurd hh (by omega),rfl,by simp,by omega,by omega,by omega,by simp,by simp,by simp,by simp,fun _ _ hp=>hp,fun B hB=> ?_⟩
    rcases b9 B hB with e | e
    ·exact .inl e
    ·exact .inr (by omega)
 | succ h ih=>
  intro M n hM hn H d s last fes f g gl nd t S lo hi ch cl hs rn wg hz hne hlo hhi hd hb hgl
  obtain⟨r1,r2,r3,r4⟩:=rn
  obtain⟨w1,w2,w3⟩:=id wg
  have hlen:=w3.len
  have hklen:=r4.len
  obtain⟨lv,A7,A8,A10,H6,e6,ch6,cl6,hA6,⟨r,hr1,hr2,hr3⟩,g7,g8,g10,m7,m8,m10,n78,n710,n810,st6⟩:=down_head (dy (M+1)) n ti hold ch cl hs (by omega)
  have N0:=ch.prs.next;have hAc:=ch.ltC;have N6:=st6.next
  have hz0:isize t.1 t.2.length≤500:=hz
  have hsm:small nd:=size_small (by
   have:Nd.size nd=tsize (h+1) t:=RepN.size (Q:=Qf q []) (S:=S) ⟨r1,r2,r3,r4⟩
   rw[this];simp only[tsize];omega)
  have hwN:Nd.whereN nd ed.key=whereI t.1 ed.key:=whereN_leafless r1 r2 _
  have hile:whereI t.1 ed.key≤t.1.length:=whereI_le _ _
  have hil:whereI t.1 ed.key<t.2.length:=by omega
  obtain⟨sA,sB⟩:=where_sides (key:=ed.key) (ks:=t.1) (ts:=t.2) wg
  have klo:=where_lo (lo:=lo) w2 hlo
  have khi:=where_hi (hi:=hi) w2 hhi
  generalize hidef:whereI t.1 ed.key=i at hwN hile hil sA sB klo khi
  have htk:=List.getElem?_eq_getElem hil
  obtain⟨pk,ndk,Sa,Si,Sb,k1,k2,k3,k4,k5,k6⟩:=r4.at htk
  obtain⟨sk,rfl,hsk⟩:=Qf_inv k2
  have hsk:lookN sk q=some ndk:=by
   rcases hsk with hsk | ⟨_,hsk⟩
   ·simp[lookN]at hsk
   ·exact hsk
  have wk:=KB.at w3 htk
  have kne:0<h→ndk.keys≠[]:=fun hh=>by
   cases h with
   | zero=>omega
   | succ h=>
    have:=many_keys wk
    rw[k3.2.1]
    intro e;rw[e]at this;simp at this
  obtain⟨H7,e7,p7⟩:=where_ok (dy (M+1)) n hn ch6.prs.ok (key:=ed.key) hA6.1.node hsm
  rw[hwN]at e7
  obtain⟨H8,A13,b8,p8,g13,m13,n13⟩:=box p7.ok (.cells [.bool false, .nilSlice, .nilSlice, .nilSlice] 133 1 false)
  have P68:=p7.trans p8
  have ch8:=ch6.step P68
  have cl8:=cl6.prs ch6.prs.ok P68
  have cl7:=cl6.prs ch6.prs.ok p7
  have hA8:=hA6.prs P68
  have g78:=Prs.get P68 ch6.prs.ok g7
  have g88:=Prs.get P68 ch6.prs.ok g8
  have g108:=Prs.get P68 ch6.prs.ok g10
  obtain⟨ks,vs0,ps,hle,j1,j2,j3⟩:=id hA8.1
  simp only[AV.agg.injEq]at hle
  obtain⟨qk,ik,ik'⟩:=Ptrs.at (l:=nd.kids) j3.row (i:=i) (by omega)
  have hkk:nd.kids[i]'(by omega)=pp sk:=by
   rw[List.getElem?_eq_getElem (by omega)]at k1;exact Option.some.inj k1
  rw[hkk]at ik'
  have N7:=p7.next;have N8:=p8.next
  obtain⟨M',rfl⟩: ∃M',M=M'+1:=⟨M - 1,by omega⟩
  obtain⟨u1,e1,g1,H9,e9,s9,⟨l1,rfl,l1l,l1c⟩,hout⟩:=ih M' (M'+1) (by omega) (by omega) ch8 cl8 hsk k3 wk.gen wk.sz kne klo khi (by omega) (by omega) (by omega)
  have ltA: ∀ {A:Nat} {o:AObj},H8.h.get A=some o→A<H8.next:=fun hg=>ch8.prs.ok.lt hg
  have np: ∀ {A:Nat} {l:List AV} {e:Nat},H8.h.get A=some (.cells l e 1 false)→l.length≠1→A≠Ac→ ¬(chg Ac F g A∨A=B1):=fun {A l e} hg hl hne hc=>by
   rcases hc with(e | e | e) | e
   ·exact hne e
   ·rw[e,ch8.gF]at hg;cases hg
   ·rw[ch8.gg.get e]at hg;simp at hg
   ·obtain⟨_,hb⟩:=cl8.bd
    rw[e,hb]at hg
    simp only[Option.some.injEq,AObj.cells.injEq]at hg
    rw[← hg.1]at hl;simp at hl
  have l10:lv.length≠1:=by omega
  have g79:H9.h.get A7=some (.cells (ptrV (pp s)) 72 1 false):=by rw[s9.keep _ (ltA g78) (np g78 (by simp[ptrV]) (by omega))];exact g78
  have g89:H9.h.get A8=some (.cells [.bool false, .nilSlice, .nilSlice, .nilSlice] 133 1 false):=by rw[s9.keep _ (ltA g88) (np g88 (by simp) (by omega))];exact g88
  have g109:H9.h.get A10=some (.cells lv 133 1 false):=by rw[s9.keep _ (ltA g108) (np g108 l10 (by omega))];exact g108
  have g139:H9.h.get A13=some (.cells [.bool false, .nilSlice, .nilSlice, .nilSlice] 133 1 false):=by rw[s9.keep _ n13 (np g13 (by simp) (by omega))];exact g13
  obtain⟨H10,e10,g1310,s10,n10⟩:=st_all s9.ok g139 (l':=l1) l1l l1c
  have e10':stN 4 (.ptr A13 0) (.agg l1) H9=some (undefA,H10):=e10
  have N9:=s9.next;have N10:=s10.next
  have t7:=ltA g78;have t8:=ltA g88;have t10:=ltA g108
  have a13:ch6.prs.ok.lt g7=ch6.prs.ok.lt g7:=rfl
  have u7:=ch6.prs.ok.lt g7;have u8:=ch6.prs.ok.lt g8;have u10:=ch6.prs.ok.lt g10
  have g710:H10.h.get A7=some (.cells (ptrV (pp s)) 72 1 false):=by rw[s10.keep _ (by omega) (by omega)];exact g79
  have g810:H10.h.get A8=some (.cells [.bool false, .nilSlice, .nilSlice, .nilSlice] 133 1 false):=by rw[s10.keep _ (by omega) (by omega)];exact g89
  have g1010:H10.h.get A10=some (.cells lv 133 1 false):=by rw[s10.keep _ (by omega) (by omega)];exact g109
  have S10:Stp (fun B=>chg Ac F g B∨B=B1) H H10:=⟨s10.ok,by omega,fun B hB hS=>by
   rw[s10.keep B (by omega) (by omega),s9.keep B (by omega) hS,P68.keep B (by omega) (fun x=>x),st6.keep B hB (fun e=>hS (.inr e))]⟩
  have hrun:=Ed.run_mid ed (A:=(t.2.take i).flatMap (con h)) (C:=con h t.2[i]) (B:=(t.2.drop (i+1)).flatMap (con h)) sA sB
  have hcon:con (h+1) t=(t.2.take i).flatMap (con h)++con h t.2[i]++(t.2.drop (i+1)).flatMap (con h):=by
   have:t.2=t.2.take i++[t.2[i]]++t.2.drop (i+1):=split_at htk
   simp only[con]
   conv=>lhs;rw[this]
   simp only[List.flatMap_append,List.flatMap_cons,List.flatMap_nil,List.append_nil]
  rw[← hcon]at hrun
  have t00: ¬(((0:Nat):Int)≠((0:Nat):Int)):=by omega
  have hps:lv=[.bool nd.leaf,ks,vs0,ps]:=hle
  have head: ∀ {x:Option (AV×AH)},outR (jn (bV (bInt .eql (.int .i64 ((e1:Nat):Int)) (.int .i64 (.ofNat 0))) fun x53=>jn (cnd x53 (bV (ld1 (.ptr B6 0) H10) fun x55=>bV (ldN 4 (.ptr A10 0) H10) fun x56=>bV (ldN 4 (.ptr A13 0) H10) fun x58=>bR (f104 (dy (M'+1+1)) n [x55,x56, .int .i64 (i:Nat),x58] H10) fun x59 H=>
    bV (pExtract x59 0) fun x60=>bV (pExtract x59 1) fun x61=>bR (stN 4 (.ptr A10 0) x60 H) fun _ H=>some (.norm [.ptr B6 0, .ptr A7 0, .ptr A8 0, .ptr A10 0,x61],H)) (some (.norm [.ptr B6 0, .ptr A7 0, .ptr A8 0, .ptr A10 0, .int .i64 ((e1:Nat):Int)],H10))) (f103j0 (dy (M'+1+1)) n)) (f103j1 (dy (M'+1+1)) n))=x→
    f103 (dy (M'+1+1)) n [.agg (ptrV (pp s)), .ptr B1 0, .ptr B2 0, .ptr B3 0, .ptr B4 0, .ptr B5 0, .ptr B6 0] H=x:=by
   intro x hx
   rw[e6, ← hx]
   have h0:ld1 (.ptr A10 0) H6=some (.bool false):=by rw[ld1_get g10,hps,r1];rfl
   have h3:ld1 (.ptr A10 3) H8=some ps:=by rw[ld1_get g108,hps];rfl
   simp(config:= { maxSteps:=1000000}) (disch:=omega) only[downR,ev,lg,wnt_undef,ew,h0,agg4 g10 hr2,cl6.bk.ld,e7,b8,cl8.bf.ld,h3,ik,ik',callDown,e9,pExtract,nth,e10']
  cases hr:ed.run (con h t.2[i])with
  | none=>
   rw[hr]at hout hrun
   simp only[Option.map_none]at hrun
   have hout:e1=5:=hout
   subst hout
   obtain⟨H11,e11,s11⟩:=tail_no (dy (M'+1+1)) n (B6:=B6) (.ptr A7 0) (.ptr A10 0) s10.ok g810 (e:=5) (by decide)
   have h50: ¬((5:Nat):Int)=((0:Nat):Int):=by omega
   refine⟨.agg [.bool false, .nilSlice, .nilSlice, .nilSlice],5,g,H11,head ?_,⟨s11.ok,by have:=s11.next;omega,fun B hB hS=>by rw[s11.keep B (by omega) (by omega)];exact S10.keep B hB hS⟩,⟨_,rfl,rfl,rfl⟩, ?_⟩
   ·simp(config:= { maxSteps:=1000000}) (disch:=omega) only[ev,lg,wnt_undef,ew,h50,f103j0,e11]
   ·rw[hrun]
  | some c1=>
   rw[hr]at hout hrun
   simp only[Option.map_some]at hrun
   obtain⟨rfl,fes1,f1,gl1,last1,d1,nd1,S1,G1,R1,Fr1,t1,ch9,cl9,hA9,rn9,wx9,con9,nk9,hgl1,hG1,hl1,hl1',hd1,pm1,pm1',nd1',fr1,more1,bg1⟩:=hout
   have ch10:=ch9.stb g139 s10 (by omega) (by omega)
   have cl10:=cl9.stb s9.ok g139 rfl s10
   have hk10:=hA9.stb g139 s10
   have hv9:NodeA H9 g1 (.agg lv) nd:=⟨hA8.1.stp s9 (fun B hB hc=>by
    rcases hc with(e | e | e) | e
    ·subst e;exact hA8.1.nblk ch8.gC (.inl ⟨_,_,_,_,rfl,fun _ _ e=>by cases e⟩) hB
    ·subst e;exact hA8.1.nblk ch8.gF (.inr (.inl ⟨_,_,rfl⟩)) hB
    ·exact hA8.2 B hB e
    ·obtain⟨_,hb⟩:=cl8.bd
     subst e;exact hA8.1.nblk hb (.inl ⟨_,_,_,_,rfl,fun _ _ e=>by cases e⟩) hB),fun B hB hg=>by
    rcases bg1 B hg with e | e
    ·exact hA8.2 B hB e
    ·have:=hA8.1.lt hB;omega⟩
   have hv10:=hv9.stb g139 s10
   have kne':0<h→nd1.keys≠[]:=fun hh=>by
    have hnk:=nk9 hh
    cases h with
    | zero=>omega
    | succ h=>
     have:=many_keys wk
     simp only[nkeys]at hnk
     rw[rn9.2.1]
     intro e;rw[e]at hnk;simp at hnk;omega
   have hG1l:gl1.length=gl.length+G1.length:=by rw[hgl1,List.length_append]
   obtain⟨u2,H11,fes2,f2,g2,gl2,last2,nd2,t2,S2,G2,R2,e11,ch11,adv11,hu11,rn11,w11,con11,z11,k11,l11,l12,hgl2,pm2,pm2',more2,hG2⟩:=place_walk (dy (M'+1+1)) n hn ti hold hq ch10 hv10 hk10 r1 r2 r3 hklen wg (by rw[← r2];exact hne (by omega)) hz0 htk k4 k5 rn9 wx9 kne' (by omega) (by omega)
   obtain⟨l2,rfl,l2l,l2c⟩:=hu11.1.cells
   have np10: ∀ {A:Nat} {l:List AV} {e:Nat},H10.h.get A=some (.cells l e 1 false)→A≠Ac→ ¬chg Ac F g1 A:=fun {A l e} hg hne hc=>by
    rcases hc with e | e | e
    ·exact hne e
    ·rw[e,ch10.gF]at hg;cases hg
    ·rw[ch10.gg.get e]at hg;simp at hg
   have N11:=adv11.1.next
   have g711:H11.h.get A7=some (.cells (ptrV (pp s)) 72 1 false):=by rw[adv11.1.keep _ (by omega) (np10 g710 (by omega))];exact g710
   have g811:H11.h.get A8=some (.cells [.bool false, .nilSlice, .nilSlice, .nilSlice] 133 1 false):=by rw[adv11.1.keep _ (by omega) (np10 g810 (by omega))];exact g810
   have g1011:H11.h.get A10=some (.cells lv 133 1 false):=by rw[adv11.1.keep _ (by omega) (np10 g1010 (by omega))];exact g1010
   obtain⟨H12,e12,g1012,s12,n12⟩:=st_all ch11.prs.ok g1011 (l':=l2) (by omega) l2c
   have e12':stN 4 (.ptr A10 0) (.agg l2) H11=some (undefA,H12):=by rw[hr2]at e12;exact e12
   have cl11:=cl10.keep ch10 adv11.1
   have cl12:=cl11.stb ch11.prs.ok g1011 hr2 s12
   have g1011':=g1011
   rw[hr1]at g1011'
   have ch12:=ch11.stb g1011' s12 (by omega) (by omega)
   have hu12:=hu11.stb g1011' s12
   have N12:=s12.next
   have g712:H12.h.get A7=some (.cells (ptrV (pp s)) 72 1 false):=by rw[s12.keep _ (by omega) (by omega)];exact g711
   have g812:H12.h.get A8=some (.cells [.bool false, .nilSlice, .nilSlice, .nilSlice] 133 1 false):=by rw[s12.keep _ (by omega) (by omega)];exact g811
   have hG2l:gl2.length=gl1.length+G2.length:=by rw[hgl2,List.length_append]
   obtain⟨g3,H13,e13,ch13,cl13,hu13,s13,b13⟩:=tail_ok (dy (M'+1+1)) n ch12 cl12 g712 g812 g1012 hu12 (by omega) (by omega) (by omega) (by omega) (by omega) (by omega)
   have g2old: ∀B,Blk g2 B→Blk g B∨H8.next≤B:=fun B hB=>by
    rcases adv11.2 B hB with e | e
    ·exact bg1 B e
    ·exact .inr (by omega)
   refine⟨.agg l2,0,g3,H13,head ?_,⟨s13.ok,by have:=s13.next;omega,fun B hB hS=> ?_⟩,⟨_,rfl,l2l,l2c⟩, ?_⟩
   ·simp(config:= { maxSteps:=1000000}) (disch:=omega) only[ev,lg,wnt_undef,ew,cl10.bc.ld,agg4 g1010 hr2,agg4 g1310 l1l,e11,pExtract,nth,e12',f103j0,e13]
   ·rw[s13.keep B (by omega) (fun hx=>by
     rcases hx with(e | e | e) | e
     ·exact hS (.inl (.inl e))
     ·exact hS (.inl (.inr (.inl e)))
     ·rcases g2old B e with e | e
      ·exact hS (.inl (.inr (.inr e)))
      ·omega
     ·omega),s12.keep B (by omega) (by omega),adv11.1.keep B (by omega) (fun hx=>by
     rcases hx with e | e | e
     ·exact hS (.inl (.inl e))
     ·exact hS (.inl (.inr (.inl e)))
     ·rcases bg1 B e with e | e
      ·exact hS (.inl (.inr (.inr e)))
      ·omega)]
    exact S10.keep B hB hS
   ·rw[hrun]
    refine⟨rfl,fes2,f2,gl2++[pp s],last2,d1,nd2,S2,G1++G2++[pp s],R2++R1,pps last1 (last2 - last1)++Fr1,t2,ch13,cl13,hu13,rn11,⟨w11,by omega⟩,by rw[con11,con9],fun _=>by simp only[nkeys];exact k11,by rw[hgl2,hgl1];simp,by simp;omega,by omega,by omega,by omega, ?_, ?_, ?_, ?_,fun p nd hp=>more2 p nd (more1 p nd hp),fun B hB=> ?_⟩
    ·rw[List.perm_iff_count]at pm1 pm2⊢
     intro a
     have x1:=pm1 a;have x2:=pm2 a
     simp only[List.count_append]at x1 x2⊢
     omega
    ·rw[k6]
     rw[List.perm_iff_count]at pm1' pm2'⊢
     intro a
     have x1:=pm1' a;have x2:=pm2' a
     simp only[List.count_append,List.count_cons,List.count_nil]at x1 x2⊢
     omega
    ·rw[List.nodup_append]
     refine⟨pps_nodup _ _,nd1',fun a ha b hb e=> ?_⟩
     obtain⟨j,rfl,q1,q2⟩:=pps_mem ha
     obtain⟨j',e',q3,q4⟩:=fr1 b hb
     rw[e']at e
     have:=pp_inj e;omega
    ·intro p hp
     rcases List.mem_append.1 hp with hp | hp
     ·obtain⟨j,rfl,q1,q2⟩:=pps_mem hp
      exact⟨j,rfl,by omega,by omega⟩
     ·obtain⟨j,rfl,q1,q2⟩:=fr1 p hp
      exact⟨j,rfl,by omega,by omega⟩
    ·rcases b13 B hB with e | e
     ·rcases g2old B e with e | e
      ·exact .inl e
      ·exact .inr (by omega)
     ·exact .inr (by omega)
end Go.Eng.Sh
end
section
namespace Go.Eng
theorem freeN_mk {t:T AObj} : ∀(n A:Nat),(∀C,A≤C→t.get C=none)→freeN t A n=true
 | 0,_,_=>rfl
 | n+1,A,h=>by
  simp only[freeN,h A (Nat.le_refl _),fN_eq]
  exact freeN_mk n _ fun C hC=>h C (by simp only[Nat.succ_eq_add_one]at hC;omega)
theorem upsL_app: ∀ {l e:List (AV×AV)},(∀x∈l,findA x.1 e=none)→l.Pairwise (fun a b=>aveq b.1 a.1=false)→upsL e l=e++l
 | [],e,_,_=>by simp[upsL]
 | x::l,e,h,hp=>by
  rw[List.pairwise_cons]at hp
  have h1:ups e x=e++[x]:=by
   obtain⟨k,v⟩:=x
   simp only[ups,Sh.setA_none (h (k,v) (List.mem_cons_self ..))]
  have fa: ∀ {k:AV} {a b:List (AV×AV)},findA k a=none→findA k b=none→findA k (a++b)=none:=by
   intro k a b
   induction a with
   | nil=>intro _ h;exact h
   | cons c a ih=>
    intro h1 h2
    simp only[List.cons_append,findA]at h1⊢
    cases e:aveq k c.1 with
    | true=>rw[e]at h1;cases h1
    | false=>rw[e]at h1;simp only[cond_false]at h1⊢;exact ih h1 h2
  simp only[upsL,h1]
  rw[upsL_app (l:=l) (fun y hy=>fa (h y (List.mem_cons_of_mem _ hy)) (by
   simp only[findA,hp.1 y hy,cond_false])) hp.2]
  simp
end Go.Eng
namespace Go.Eng.Sh
open Go.Nd (Ptr sumL)
open Go.Bt
def cutsQ:PN→List Ptr→PN
 | q,[]=>q
 | q,p::gl=>cutsQ (cutN p.sum.toNat q) gl
theorem cutsQ_snoc: ∀(gl:List Ptr) (q:PN) (p:Ptr),cutsQ q (gl++[p])=cutN p.sum.toNat (cutsQ q gl)
 | [],_,_=>rfl
 | _::gl,q,p=>by simp only[List.cons_append,cutsQ,cutsQ_snoc gl]
theorem cutN_len (s:Nat): ∀q:PN,(cutN s q).length≤q.length
 | []=>Nat.le_refl _
 | (t,n)::q=>by
  simp only[cutN]
  split
  ·simp
  ·have:=cutN_len s q;simp;omega
theorem cutN_mem (s:Nat): ∀ {q:PN} {x:Nat×Nd.Node},x∈cutN s q→x∈q
 | [],_,h=>h
 | (t,n)::q,x,h=>by
  simp only[cutN]at h
  split at h
  ·exact List.mem_cons_of_mem _ h
  ·rcases List.mem_cons.1 h with h | h
   ·exact h▸List.mem_cons_self ..
   ·exact List.mem_cons_of_mem _ (cutN_mem s h)
theorem look_cutN {s t:Nat}(h:s≠t): ∀q:PN,lookN s (cutN t q)=lookN s q
 | []=>rfl
 | (a,n)::q=>by
  simp only[cutN]
  split
  ·rename_i e
   simp only[lookN]
   rw[if_neg (fun e2=>h (e2.symm.trans e))]
  ·simp only[lookN,look_cutN h q]
theorem cutN_absent {s:Nat} : ∀ {q:PN},lookN s q=none→cutN s q=q
 | [],_=>rfl
 | (a,n)::q,h=>by
  simp only[lookN]at h
  split at h
  ·cases h
  ·rename_i e
   simp only[cutN,if_neg e,cutN_absent h]
theorem delA_absent {H:AH}{s:Nat} : ∀ {es:List (AV×AV)} {q:PN},Pend H es q→lookN s q=none→delA (.int .u64 (s:Nat)) es=none
 | [],[],_,_=>rfl
 | (k,v)::es,(t,nd)::q,h,hl=>by
  obtain⟨⟨rfl,_⟩,h2⟩:=h
  simp only[lookN]at hl
  split at hl
  ·cases hl
  ·rename_i e
   have e': ¬s=t:=fun h=>e h.symm
   simp only[delA,aveqU,e',decide_false,cond_false,delA_absent h2 hl]
 | [],_::_,h,_=>h.elim
 | _::_,[],h,_=>h.elim
theorem cutsQ_look {s:Nat} : ∀ {gl:List Ptr} {q:PN},(∀p∈gl,s≠p.sum.toNat)→lookN s (cutsQ q gl)=lookN s q
 | [],_,_=>rfl
 | p::gl,q,h=>by
  rw[cutsQ,cutsQ_look fun p hp=>h p (List.mem_cons_of_mem _ hp),look_cutN (h p (List.mem_cons_self ..))]
theorem cutsQ_mem: ∀ {gl:List Ptr} {q:PN} {x:Nat×Nd.Node},x∈cutsQ q gl→x∈q
 | [],_,_,h=>h
 | _::gl,_,_,h=>cutN_mem _ (cutsQ_mem (gl:=gl) h)
theorem cutsQ_len: ∀(gl:List Ptr) (q:PN),(cutsQ q gl).length≤q.length
 | [],_=>Nat.le_refl _
 | _::gl,q=>Nat.le_trans (cutsQ_len gl _) (cutN_len _ q)
theorem lookN_some_mem {s:Nat}{nd:Nd.Node} : ∀ {q:PN},lookN s q=some nd→(s,nd)∈q
 | [],h=>by cases h
 | (t,n)::q,h=>by
  simp only[lookN]at h
  split at h
  ·rename_i e;subst e;simp only[Option.some.injEq]at h;subst h;exact List.mem_cons_self ..
  ·exact List.mem_cons_of_mem _ (lookN_some_mem h)
theorem Pend.keys {H:AH} : ∀ {es:List (AV×AV)} {q:PN},Pend H es q→ ∀kv∈es,∃s,kv.1= .int .u64 ((s:Nat):Int)∧s∈q.map Prod.fst
 | [],[],_,_,h=>by simp at h
 | (k,v)::es,(t,nd)::q,hq,kv,hk=>by
  rcases List.mem_cons.1 hk with rfl | hk
  ·exact⟨t,hq.1.1,by simp⟩
  ·obtain⟨s,h1,h2⟩:=Pend.keys hq.2 kv hk
   exact⟨s,h1,List.mem_cons_of_mem _ h2⟩
 | [],_::_,h,_,_=>h.elim
 | _::_,[],h,_,_=>h.elim
theorem Pend.dist {H:AH} : ∀ {es:List (AV×AV)} {q:PN},Pend H es q→(q.map Prod.fst).Nodup→es.Pairwise (fun a b=>aveq b.1 a.1=false)
 | [],[],_,_=>List.Pairwise.nil
 | (k,v)::es,(t,nd)::q,hq,hd=>by
  simp only[List.map_cons,List.nodup_cons]at hd
  rw[List.pairwise_cons]
  refine⟨fun kv hkv=> ?_,Pend.dist hq.2 hd.2⟩
  obtain⟨s,h1,h2⟩:=Pend.keys hq.2 kv hkv
  rw[h1,hq.1.1,aveqU,decide_eq_false_iff_not]
  intro e;subst e;exact hd.1 h2
 | [],_::_,h,_=>h.elim
 | _::_,[],h,_=>h.elim
theorem Pend.append {H:AH}{es':List (AV×AV)}{q':PN}(h':Pend H es' q'): ∀ {es:List (AV×AV)} {q:PN},Pend H es q→Pend H (es++es') (q++q')
 | [],[],_=>h'
 | _::es,_::q,h=>⟨h.1,Pend.append h' h.2⟩
 | [],_::_,h=>h.elim
 | _::_,[],h=>h.elim
theorem Pend.isAg {H:AH}{es:List (AV×AV)}{q:PN}(h:Pend H es q):es.all (fun e=>keyOk [10] e.1&&Eng.isAg 4 e.2)=true:=by
 rw[List.all_eq_true]
 intro kv hkv
 obtain⟨s,h1,_⟩:=h.keys kv hkv
 obtain⟨nd,hn⟩:=h.mem kv hkv
 obtain⟨l,h2,h3,h4⟩:=hn.cells
 rw[h1,h2,keyU,Bool.true_and]
 simp only[Eng.isAg,lenL_zero,h3,h4,Nat.beq_refl,Bool.and_self]
noncomputable def AH.putB (H:AH)(A:Nat)(o:AObj)(k:Nat):AH:=⟨(H.put A o).h,H.next+k⟩
theorem putB_stp {H:AH}(hk:H.ok){A:Nat}(hA:A<H.next)(o:AObj)(k:Nat):Stp (fun B=>B=A) H (AH.putB H A o k)∧(AH.putB H A o k).h.get A=some o:=by
 have hg: ∀B,(AH.putB H A o k).h.get B=if B=A then some o else H.h.get B:=fun B=>AH.put_get H A o B
 refine⟨⟨fun B hB=> ?_, ?_,fun B _ hS=> ?_⟩, ?_⟩
 ·have hB:H.next+k≤B:=hB
  rw[hg,if_neg (by omega)];exact hk B (by omega)
 ·show H.next≤H.next+k;omega
 ·rw[hg,if_neg hS]
 ·rw[hg,if_pos rfl]
theorem upLp_run {H:AH}(hk:H.ok){F M:Nat}{fes es:List (AV×AV)}{f:PN}(hF:H.h.get F=some (.map [10] fes))(hM:H.h.get M=some (.map [10] es))(hne:F≠M)(hp:Pend H fes f):
  upLp [10] 1 (isAg 4) (.map F) (.map M) H=some (AH.putB H M (.map [10] (upsL es fes)) (1+1*fes.length)):=by
 have hb:Nat.beq F M=false:=by rw[Bool.eq_false_iff];intro h;exact hne (Nat.eq_of_beq_eq_true h)
 simp only[upLp,hF,hM,show eqNL [10] [10]=true from rfl,hb,hp.isAg,Bool.not_false,Bool.and_self,cond_true,fN_eq,freeN_mk _ _ hk,putA_ok,AH.putB,AH.put_next,Nat.add_assoc]
end Go.Eng.Sh
end
section
namespace Go.Eng.Sh
open Go.Nd (Ptr sumL)
open Go.Bt
theorem dl_any {H:AH}{M s:Nat}{es:List (AV×AV)}{q:PN}(hk:H.ok)(hM:H.h.get M=some (.map [10] es))(hp:Pend H es q):
  ∃es' H',dlM [10] (.map M) (.int .u64 (s:Nat)) H=some (.tuple [],H')∧H'.h.get M=some (.map [10] es')∧Pend H' es' (cutN s q)∧Stp (fun B=>B=M) H H':=by
 cases hl:lookN s q with
 | none=>
  refine⟨es,H, ?_,hM,by rw[cutN_absent hl];exact hp,Stp.refl hk⟩
  simp only[dlM,keyU,hM,show eqNL [10] [10]=true from rfl,cond_true,delA_absent hp hl]
 | some nd=>
  obtain⟨es',e1,e2,e3⟩:=hp.del s nd hl
  have s1:Stp (fun B=>B=M) H (H.put M (.map [10] es')):=(Stp.refl hk).put (hk.lt hM) _ (.inr rfl)
  refine⟨es',H.put M (.map [10] es'), ?_,by rw[AH.put_get,if_pos rfl],e2.frame fun kv hkv nd2 hn=>hn.stp s1 fun B hB e=> ?_,s1⟩
  ·simp only[dlM,keyU,hM,show eqNL [10] [10]=true from rfl,cond_true,e1,putA_ok]
  ·subst e;exact hn.nblk hM (.inr (.inl ⟨_,_,rfl⟩)) hB
theorem done_ok (D:Dyn)(n:Nat){H0 H:AH}{At Ac F M:Nat}{d c dr:AV}{root0 root:Ptr}{es:List (AV×AV)}{q:PN}{fes:List (AV×AV)}{f:PN}{g:AV}{gl:List Ptr}{last0 last:Nat}(ti:TI H0 At M d c root0 es q last0 dr)(hq: ∀s nd,lookN s q=some nd→s≤last0)
  (ch:Ch H0 H At Ac F fes f g gl last0 last) (hgl: ∀p∈gl,∃s,p=pp s) (hl:last≤900000000) (hn:gl.length<n) (hql:q.length≤last0):
  ∃H' es',f101 D n [.ptr Ac 0, .agg (ptrV root)] H=some (.tuple [],H')∧TI H' At M d c root es' (cutsQ q gl++f) last dr∧Stp (fun B=>B=At∨B=M) H0 H':=by
 have tiH:=ti.prs ch.prs
 have hfew:=ch.few
 obtain⟨Ad,od,rfl⟩:=ti.hd
 obtain⟨H1,A3,b1,p1,g1,m1,n1⟩:=box ch.prs.ok (.cells (ptrV root) 72 1 false)
 have ch1:=ch.step p1
 have ti1:=tiH.prs p1
 have atlt:At<H0.next:=ti.ok.lt ti.gT
 have mlt:M<H0.next:=ti.ok.lt ti.gM
 have N0:=ch.prs.next;have N1:=p1.next
 have cC:=ch.dC;have cF:=ch.dF;have lC:=ch.ltC;have lF:=ch.ltF
 have atM:At≠M:=fun e=>by have:=ti.gT;rw[e,ti.gM]at this;cases this
 have gM0: ∀B,Blk g B→ ¬B=M:=fun B hB e=>by have:=ch.gN B hB;omega
 have lp:=loop_inv (b:=f101l1 D n) gl.length (fun i us H'=>us=[.ptr Ac 0, .ptr A3 0, .ptr At 0,g, .int .i64 (gl.length:Nat), .int .i64 (i:Nat)]∧Stp (fun B=>B=M) H1 H'∧ ∃esi,H'.h.get M=some (.map [10] esi)∧Pend H' esi (cutsQ q (gl.take i))) (fun i us H' hi ⟨hus,st,esi,hM,hp⟩=>by
  subst hus
  have hi':gl[i]∈gl:=List.getElem_mem hi
  obtain⟨s,hs⟩:=hgl _ hi'
  have og:Own 3 72 H' g gl.length (gl.flatMap ptrV):=ch1.gg.mono st gM0
  obtain⟨pq,i1,i2⟩:=Ptrs.at (l:=gl) og.row hi
  rw[hs]at i2
  obtain⟨H2,A6,b2,p2,g2,m2,n2⟩:=box st.ok (.cells [.int .i64 ((0:Nat):Int), .int .i64 ((0:Nat):Int), .int .u64 ((0:Nat):Int)] 72 1 false)
  obtain⟨H3,e3,g3,s3,n3⟩:=st_all p2.ok g2 (l':=ptrV (pp s)) rfl rfl
  have e3':stN 3 (.ptr A6 0) (.agg (ptrV (pp s))) H2=some (undefA,H3):=e3
  have N2:=st.next;have N3:=p2.next
  have p3:Prs H' H3:=p2.fresh s3 (fun B hB=>by omega)
  have hM3:=Prs.get p3 st.ok hM
  obtain⟨es4,H4,e4,hM4,hp4,s4⟩:=dl_any (s:=s) p3.ok hM3 (hp.frame fun kv _ nd hn=>hn.prs p3)
  have gT3:H3.h.get At=some (.cells (treeC (.ptr Ad od) c root0 M last0 dr) 141 1 false):=by
   rw[p3.keep _ (by omega) (fun x=>x),st.keep _ (by omega) atM];exact ti1.gT
  refine⟨_,H4, ?_,rfl,(st.trans (p3.mono fun _ _ x=>x.elim)).trans s4,es4,hM4, ?_⟩
  ·have hiI:((i:Nat):Int)< ((gl.length:Nat):Int):=by omega
   have f0:ld1 (.ptr A6 0) H3=some (.int .i64 ((1:Nat):Int)):=by rw[ld1_get g3];rfl
   have f2:ld1 (.ptr A6 2) H3=some (.int .u64 (s:Nat)):=by rw[ld1_get g3];rfl
   have f5:ld1 (.ptr At 5) H3=some (.map M):=by rw[ld1_get gT3];rfl
   simp(config:= { maxSteps:=1000000}) (disch:=omega) only[f101l1,ev,lg,wnt_undef,ew,hiI,i1,i2,b2,e3',f0,f5,f2,e4,f101j0,Int.natCast_add]
  ·rw[List.take_succ_eq_append_getElem hi,cutsQ_snoc,hs]
   exact hp4) n _ H1 ⟨rfl,Stp.refl p1.ok,es,ti1.gM,by simpa[cutsQ]using ti1.pq⟩ hn
 obtain⟨m,us,H2,e2,rfl,st,esn,hM,hp⟩:=lp
 rw[List.take_length]at hp
 have N2:=st.next
 have lastl:loopK (m+1) (f101l1 D n) [.ptr Ac 0, .ptr A3 0, .ptr At 0,g, .int .i64 (gl.length:Nat), .int .i64 (gl.length:Nat)] H2=some (.exit 0 [.ptr Ac 0, .ptr A3 0, .ptr At 0],H2):=loop_exit (by simp only[f101l1,ev,lg,wnt_undef,ew,Int.lt_irrefl])
 have gC2:H2.h.get Ac=some (.cells [.ptr At 0, .int .u64 (last:Nat), .map F,g] 209 1 false):=by rw[st.keep _ (by omega) (by omega)];exact ch1.gC
 have gF2:H2.h.get F=some (.map [10] fes):=by rw[st.keep _ (by omega) (by omega)];exact ch1.gF
 have gT2:H2.h.get At=some (.cells (treeC (.ptr Ad od) c root0 M last0 dr) 141 1 false):=by rw[st.keep _ (by omega) atM];exact ti1.gT
 have g32:H2.h.get A3=some (.cells (ptrV root) 72 1 false):=by rw[st.keep _ (by omega) (by omega)];exact g1
 have pf2:Pend H2 fes f:=ch1.pf.frame fun kv _ nd hn=>hn.stp st fun B hB e=>by subst e;exact hn.nblk ti1.gM (.inr (.inl ⟨_,_,rfl⟩)) hB
 have hup:=upLp_run st.ok gF2 hM (by omega) pf2
 have hnone: ∀x∈fes,findA x.1 esn=none:=fun x hx=>by
  obtain⟨s,hs,hm⟩:=ch1.pf.keys x hx
  rw[hs]
  refine(hp.find s).2 ?_
  cases hk:lookN s (cutsQ q gl)with
  | none=>rfl
  | some nd2=>
   have m1:=cutsQ_mem (lookN_some_mem hk)
   obtain⟨nd3,h3⟩:=lookN_mem (q:=q) (s:=s) (List.mem_map.2 ⟨_,m1,rfl⟩)
   obtain⟨nd4,h4⟩:=lookN_mem hm
   have:=hq _ _ h3;have:=ch.fs _ _ h4;omega
 rw[upsL_app hnone (ch1.pf.dist ch.fd)]at hup
 obtain⟨s3,g3M⟩:=putB_stp st.ok (st.ok.lt hM) (.map [10] (esn++fes)) (1+1*fes.length)
 have hnx:H2.next≤(AH.putB H2 M (.map [10] (esn++fes)) (1+1*fes.length)).next:=s3.next
 generalize AH.putB H2 M (.map [10] (esn++fes)) (1+1*fes.length)=H3 at hup s3 g3M hnx
 have hmt:mt101_0 [.ptr Ac 0, .ptr A3 0, .ptr At 0] H2=some H3:=by
  have c1:ld1 (.ptr Ac (0+2)) H2=some (.map F):=by rw[ld1_get gC2];rfl
  have c2:ld1 (.ptr At (0+5)) H2=some (.map M):=by rw[ld1_get gT2];rfl
  have d1:Nat.blt F H2.next=true:=by rw[Nat.blt_eq];omega
  have d2:Nat.blt M H2.next=true:=by rw[Nat.blt_eq];omega
  have d3:Nat.blt At H2.next=true:=by rw[Nat.blt_eq];omega
  simp only[mt101_0,c1,c2,d1,d2,d3,Bool.and_self,cond_true,hup]
 have gC3:H3.h.get Ac=some (.cells [.ptr At 0, .int .u64 (last:Nat), .map F,g] 209 1 false):=by rw[s3.keep _ (by omega) (by omega)];exact gC2
 have gT3:H3.h.get At=some (.cells (treeC (.ptr Ad od) c root0 M last0 dr) 141 1 false):=by rw[s3.keep _ (by omega) atM];exact gT2
 have g33:H3.h.get A3=some (.cells (ptrV root) 72 1 false):=by rw[s3.keep _ (by omega) (by omega)];exact g32
 obtain⟨H4,e4,g4,s4,n4⟩:=st_fld s3.ok gT3 (o:=6) (x:= .int .u64 (last:Nat)) rfl (by simp[treeC])
 have g4:H4.h.get At=some (.cells (treeC (.ptr Ad od) c root0 M last dr) 141 1 false):=g4
 have g34:H4.h.get A3=some (.cells (ptrV root) 72 1 false):=by rw[s4.keep _ (by omega) (by omega)];exact g33
 have e5:=stN_ok (o:=2) (n:=3) (x:= .agg (ptrV root)) g4 (by decide) rfl rfl (by simp[treeC])
 have g5:(H4.put At (.cells ((treeC (.ptr Ad od) c root0 M last dr).take 2++cellsA (.agg (ptrV root))++(treeC (.ptr Ad od) c root0 M last dr).drop (2+3)) 141 1 false)).h.get At=some (.cells (treeC (.ptr Ad od) c root M last dr) 141 1 false):=by rw[AH.put_get,if_pos rfl];rfl
 have s5:Stp (fun B=>B=At) H4 (H4.put At (.cells ((treeC (.ptr Ad od) c root0 M last dr).take 2++cellsA (.agg (ptrV root))++(treeC (.ptr Ad od) c root0 M last dr).drop (2+3)) 141 1 false)):=(Stp.refl s4.ok).put (s4.ok.lt g4) _ (.inr rfl)
 generalize H4.put At (.cells ((treeC (.ptr Ad od) c root0 M last dr).take 2++cellsA (.agg (ptrV root))++(treeC (.ptr Ad od) c root0 M last dr).drop (2+3)) 141 1 false)=H5 at e5 g5 s5
 have N3:=s3.next;have N4:=s4.next;have N5:=s5.next
 have fr: ∀ {v:AV} {nd:Nd.Node},NodeG H2 v nd→NodeG H5 v nd:=fun {v nd} hn=>by
  have h3:NodeG H3 v nd:=hn.stp s3 fun B hB e=>by subst e;exact hn.nblk hM (.inr (.inl ⟨_,_,rfl⟩)) hB
  have h4:NodeG H4 v nd:=h3.stp s4 fun B hB e=>by subst e;exact h3.nblk gT3 (.inl ⟨_,_,_,_,rfl,fun _ _ e=>by cases e⟩) hB
  exact h4.stp s5 fun B hB e=>by subst e;exact h4.nblk g4 (.inl ⟨_,_,_,_,rfl,fun _ _ e=>by cases e⟩) hB
 refine⟨H5,esn++fes, ?_,⟨s5.ok,g5, ?_, ?_,⟨_,_,rfl⟩, ?_⟩,⟨s5.ok,by omega,fun B hB hS=> ?_⟩⟩
 ·have hble:Nat.ble H2.next H3.next=true:=by rw[Nat.ble_eq];exact hnx
  have c0:ld1 (.ptr Ac 0) H1=some (.ptr At 0):=by rw[ld1_get ch1.gC];rfl
  have c3:ld1 (.ptr Ac 3) H1=some g:=by rw[ld1_get ch1.gC];rfl
  have c1:ld1 (.ptr Ac 1) H3=some (.int .u64 (last:Nat)):=by rw[ld1_get gC3];rfl
  have r3:ldN 3 (.ptr A3 0) H4=some (.agg (ptrV root)):=by rw[ldN_get g34];rfl
  simp(config:= { maxSteps:=1000000}) (disch:=omega) only[f101,ev,lg,wnt_undef,ew,b1,c0,c3,ch1.gg.row.lnSl,e2,lastl,f101b2,hmt,tld,hble,cond_true,c1,e4,r3,e5]
 ·rw[s5.keep _ (by omega) (fun e=>atM e.symm),s4.keep _ (by omega) (fun e=>atM e.symm)];exact g3M
 ·exact Pend.append (pf2.frame fun kv _ nd hn=>fr hn) (hp.frame fun kv _ nd hn=>fr hn)
 ·have h1:=cutsQ_len gl q;have h2:=ch.fl
  simp only[List.length_append];omega
 ·have a1: ¬B=At:=fun e=>hS (.inl e)
  have a2: ¬B=M:=fun e=>hS (.inr e)
  rw[s5.keep B (by omega) a1,s4.keep B (by omega) a1,s3.keep B (by omega) a2,st.keep B (by omega) a2,p1.keep B (by omega) (fun x=>x),ch.prs.keep B hB (fun x=>x)]
end Go.Eng.Sh
end
section
namespace Go.Bt
open Go.Nd (Str Kvs Ptr leafOf)
theorem WF.wr: ∀ {h:Nat} {t:Tr h},WF h none none t→WR h t
 | 0,_,w=>w
 | _+1,_,w=>⟨w.1,w.2.1,w.2.2.2⟩
theorem WX.wr: ∀ {h:Nat} {t:Tr h},WX h none none t→(match h,t with | 0,l=>(l:Kvs)≠[] | _+1,t=>t.1≠[])→tsize h t≤500→WR h t
 | 0,_,w,hne,hz=>⟨w.1,hne,hz⟩
 | _+1,_,w,hne,hz=>⟨w.1,hne,hz⟩
end Go.Bt
namespace Go.Eng.Sh
open Go.Nd (Ptr sumL leafOf Kvs)
open Go.Bt
def pZ:Ptr:=⟨((0:Nat):Int),((0:Nat):Int),((0:Nat):Int)⟩
def RootIs (q:PN)(root:Ptr)(kv:Kvs):Prop:=(root=pZ∧kv=[])∨ ∃s h nd,∃t:Bt.Tr h,∃S:List Ptr,root=pp s∧lookN s q=some nd∧RepN (Qf q []) h nd t S∧WR h t∧(pp s::S).Nodup∧con h t=kv
theorem RepL.here {α:Type}{Q:Ptr→Option Nd.Node}{R:Nd.Node→α→List Ptr→Prop}(hr: ∀nd t S,R nd t S→ ∀p∈S,∃nd,Q p=some nd): ∀ {ps:List Ptr} {ts:List α} {S:List Ptr},RepL Q R ps ts S→ ∀p∈S,∃nd,Q p=some nd
 | [],[],_,h=>by subst h;simp
 | p::ps,t::ts,_,⟨nd,S1,S2,a,b,c,e⟩=>fun x hx=>by
  subst e
  rcases List.mem_cons.1 hx with rfl | hx
  ·exact⟨nd,a⟩
  ·rcases List.mem_append.1 hx with hx | hx
   ·exact hr _ _ _ b x hx
   ·exact RepL.here hr c x hx
 | [],_::_,_,h=>h.elim
 | _::_,[],_,h=>h.elim
theorem RepN.here {Q:Ptr→Option Nd.Node} : ∀ {h:Nat} {nd:Nd.Node} {t:Bt.Tr h} {S:List Ptr},RepN Q h nd t S→ ∀p∈S,∃nd,Q p=some nd
 | 0,_,_,_,w=>by obtain⟨_,rfl⟩:=w;simp
 | h+1,_,_,_,w=>RepL.here (fun _ _ _ hr=>RepN.here hr) w.2.2.2
theorem rep_end {q f:PN}{gl T Fr R:List Ptr}{last0:Nat}(hq: ∀s nd,lookN s q=some nd→s≤last0)(hf: ∀s nd,lookN s f=some nd→last0<s)(hT:T.Perm (Fr++R))(hG:(gl++R).Nodup)(hgl: ∀p∈gl,∃s,p=pp s)(hFr: ∀p∈Fr,∃j,p=pp j∧last0<j)(hFn:Fr.Nodup)(hR: ∀p∈R,∃nd,Qf q [] p=some nd):
  T.Nodup∧ ∀p∈T,∀nd,Qf q f p=some nd→Qf (cutsQ q gl++f) [] p=some nd:=by
 have hRold: ∀p∈R,∃s nd,p=pp s∧lookN s q=some nd∧s≤last0:=fun p hp=>by
  obtain⟨nd,h⟩:=hR p hp
  obtain⟨s,rfl,h1 | ⟨_,h1⟩⟩:=Qf_inv h
  ·simp[lookN]at h1
  ·exact⟨s,nd,rfl,h1,hq _ _ h1⟩
 obtain⟨_,hRn,hdis⟩:=List.nodup_append.1 hG
 refine⟨hT.nodup_iff.2 (List.nodup_append.2 ⟨hFn,hRn,fun a ha b hb e=> ?_⟩),fun p hp nd h=> ?_⟩
 ·obtain⟨j,rfl,hj⟩:=hFr a ha
  obtain⟨s,nd,rfl,_,hs⟩:=hRold b hb
  have:=pp_inj e;omega
 ·obtain⟨s,rfl,h1 | ⟨h0,h1⟩⟩:=Qf_inv h
  ·rw[Qf_pp]
   simp only[lookN]
   have hs:=hf _ _ h1
   rw[lookN_app]
   cases hk:lookN s (cutsQ q gl)with
   | none=>exact h1
   | some n2=>
    obtain⟨n3,h3⟩:=lookN_mem (List.mem_map.2 ⟨_,cutsQ_mem (lookN_some_mem hk),rfl⟩)
    have:=hq _ _ h3
    simp only at this;omega
  ·rw[Qf_pp]
   simp only[lookN]
   have hs:=hq _ _ h1
   have hpR:pp s∈R:=by
    rcases List.mem_append.1 (hT.mem_iff.1 hp)with e | e
    ·obtain⟨j,e,hj⟩:=hFr _ e
     have:=pp_inj e;omega
    ·exact e
   rw[lookN_app,cutsQ_look fun p' hp' e=> ?_,h1]
   obtain⟨s',rfl⟩:=hgl p' hp'
   have:s=s':=by simpa[pp]using e
   subst this
   exact hdis _ hp' _ hpR rfl
theorem look_end {q f:PN}{gl:List Ptr}{last0 last:Nat}(hq: ∀s nd,lookN s q=some nd→s≤last0)(hf: ∀s nd,lookN s f=some nd→last0<s∧s≤last)(hl:last0≤last): ∀s nd,lookN s (cutsQ q gl++f)=some nd→s≤last:=fun s nd h=>by
 rw[lookN_app]at h
 cases hk:lookN s (cutsQ q gl)with
 | none=>rw[hk]at h;exact(hf _ _ h).2
 | some n2=>
  obtain⟨n3,h3⟩:=lookN_mem (List.mem_map.2 ⟨_,cutsQ_mem (lookN_some_mem hk),rfl⟩)
  have:=hq _ _ h3
  simp only at this;omega
theorem RepL.perm_one {α:Type}{Q:Ptr→Option Nd.Node}{R:Nd.Node→α→List Ptr→Prop}{ps:List Ptr}{t:α}{S:List Ptr}(h:RepL Q R ps [t] S): ∃p nd S1,ps=[p]∧Q p=some nd∧R nd t S1∧S=p::S1:=by
 match ps,h with
 | [p],⟨nd,S1,S2,a,b,c,e⟩=>exact⟨p,nd,S1,rfl,a,b,by simp only[RepL]at c;rw[e,c,List.append_nil]⟩
 | _::_::_,⟨_,_,_,_,_,c,_⟩=>exact c.elim
 | [],h=>exact h.elim
theorem CutsN.one_inv {nd:Nd.Node}{nds:List Nd.Node}{ss:List Str}(h:CutsN nd nds ss)(hz:Nd.size nd≤500):nds=[nd]∧ss=[]:=by
 cases h with
 | one _=>exact⟨rfl,rfl⟩
 | more h1=>omega
theorem CutsN.more_inv {nd:Nd.Node}{nds:List Nd.Node}{ss:List Str}(h:CutsN nd nds ss)(hz:500<Nd.size nd):ss≠[]:=by
 cases h with
 | one h1=>omega
 | more h1=>simp
end Go.Eng.Sh
end
section
namespace Go.Eng.Sh
open Go.Nd (Ptr sumL leafOf Kvs)
open Go.Bt
def Done (H0 H':AH)(At M:Nat)(d c dr:AV)(low top:Nat)(kv:Kvs):Prop:= ∃root es q last,TI H' At M d c root es q last dr∧Stp (fun B=>B=At∨B=M) H0 H'∧(∀s nd,lookN s q=some nd→s≤last)∧q.length≤last∧low≤last∧last≤top∧RootIs q root kv
theorem Done.mono {H0 H':AH}{At M:Nat}{d c dr:AV}{low low' top top':Nat}{kv:Kvs}(h:Done H0 H' At M d c dr low top kv)(hl:low'≤low)(ht:top≤top'):Done H0 H' At M d c dr low' top' kv:=by
 obtain⟨root,es,q,last,h1,h2,h3,h4,h5,h6,h7⟩:=h
 exact⟨root,es,q,last,h1,h2,h3,h4,by omega,by omega,h7⟩
theorem done_zero (D:Dyn)(n:Nat){H0 H:AH}{At Ac F M:Nat}{d c dr:AV}{root0:Ptr}{es:List (AV×AV)}{q:PN}{fes:List (AV×AV)}{f:PN}{g:AV}{gl:List Ptr}{last0 last:Nat}(ti:TI H0 At M d c root0 es q last0 dr)(hq: ∀s nd,lookN s q=some nd→s≤last0)
  (ch:Ch H0 H At Ac F fes f g gl last0 last) (hgl: ∀p∈gl,∃s,p=pp s) (hl:last≤900000000) (hn:gl.length<n) (hql:q.length≤last0):
  ∃H',f101 D n [.ptr Ac 0, .agg [.int .i64 ((0:Nat):Int), .int .i64 ((0:Nat):Int), .int .u64 ((0:Nat):Int)]] H=some (.tuple [],H')∧Done H0 H' At M d c dr last last []:=by
 obtain⟨H',es',e,ti',st⟩:=done_ok D n (root:=pZ) ti hq ch hgl hl hn hql
 refine⟨H',e,_,_,_,last,ti',st,look_end hq ch.fs ch.le, ?_,Nat.le_refl _,Nat.le_refl _, .inl ⟨rfl,rfl⟩⟩
 have h1:=cutsQ_len gl q;have h2:=ch.fl
 simp only[List.length_append];omega
theorem done_root (D:Dyn)(n:Nat){H0 H:AH}{At Ac F M s h:Nat}{d c dr:AV}{root0:Ptr}{es:List (AV×AV)}{q:PN}{fes:List (AV×AV)}{f:PN}{g:AV}{gl Fr R:List Ptr}{last0 last:Nat}{nd:Nd.Node}{t:Bt.Tr h}{S:List Ptr}(ti:TI H0 At M d c root0 es q last0 dr)(hq: ∀s nd,lookN s q=some nd→s≤last0)
  (ch:Ch H0 H At Ac F fes f g gl last0 last) (hgl: ∀p∈gl,∃s,p=pp s) (hl:last≤900000000) (hn:gl.length<n) (hql:q.length≤last0)
  (hs:Qf q f (pp s)=some nd) (rn:RepN (Qf q f) h nd t S) (wr:WR h t) (hT:(pp s::S).Perm (Fr++R)) (hG:(gl++R).Nodup) (hFr: ∀p∈Fr,∃j,p=pp j∧last0<j) (hFn:Fr.Nodup) (hR: ∀p∈R,∃nd,Qf q [] p=some nd):
  ∃H',f101 D n [.ptr Ac 0, .agg (ptrV (pp s))] H=some (.tuple [],H')∧Done H0 H' At M d c dr last last (con h t):=by
 obtain⟨H',es',e,ti',st⟩:=done_ok D n (root:=pp s) ti hq ch hgl hl hn hql
 obtain⟨nd1,mono⟩:=rep_end hq (fun s nd h=>(ch.fs s nd h).1) hT hG hgl hFr hFn hR
 refine⟨H',e,_,_,_,last,ti',st,look_end hq ch.fs ch.le, ?_,Nat.le_refl _,Nat.le_refl _, .inr ⟨s,h,nd,t,S,rfl, ?_,rn.mono (fun p hp nd hh=>mono p (List.mem_cons_of_mem _ hp) nd hh),wr,nd1,rfl⟩⟩
 ·have h1:=cutsQ_len gl q;have h2:=ch.fl
  simp only[List.length_append];omega
 ·have:=mono (pp s) (List.mem_cons_self ..) nd hs
  rw[Qf_pp]at this
  simpa[lookN]using this
theorem crown_ok (D:Dyn)(n:Nat)(hn:200000000≤n){H0 H:AH}{At Ac F M h:Nat}{d c dr u:AV}{root0:Ptr}{es:List (AV×AV)}{q:PN}{fes:List (AV×AV)}{f:PN}{g:AV}{gl Fr R:List Ptr}{last0 last:Nat}{nd:Nd.Node}{t:Bt.Tr h}{S:List Ptr}(ti:TI H0 At M d c root0 es q last0 dr)(hq: ∀s nd,lookN s q=some nd→s≤last0)
  (ch:Ch H0 H At Ac F fes f g gl last0 last) (hgl: ∀p∈gl,∃s,p=pp s) (hl:last≤700000000) (hgn:gl.length<n) (hql:q.length≤last0) (hu:NodeA H g u nd)
  (rn:RepN (Qf q f) h nd t S) (wx:WX h none none t) (hS:S.Perm (Fr++R)) (hG:(gl++R).Nodup) (hFr: ∀p∈Fr,∃j,p=pp j∧last0<j∧j≤last) (hFn:Fr.Nodup) (hR: ∀p∈R,∃nd,Qf q [] p=some nd):
  ∃H',f106 D n [.ptr Ac 0,u] H=some (.int .i64 ((0:Nat):Int),H')∧Done H0 H' At M d c dr last (last+7) (con h t):=by
 obtain⟨ks,vs0,ps,rfl,j1,j2,j3⟩:=id hu.1
 obtain⟨H1,A3,b1,p1,g1,m1,n1⟩:=box ch.prs.ok (.cells [.bool nd.leaf,ks,vs0,ps] 133 1 false)
 have ch1:=ch.step p1
 have hu1:=hu.prs p1
 have hFr': ∀p∈Fr,∃j,p=pp j∧last0<j:=fun p hp=>by obtain⟨j,a,b,_⟩:=hFr p hp;exact⟨j,a,b⟩
 have e0:ld1 (.ptr A3 0) H1=some (.bool nd.leaf):=by rw[ld1_get g1];rfl
 have e1:ld1 (.ptr A3 1) H1=some ks:=by rw[ld1_get g1];rfl
 have e3:ld1 (.ptr A3 3) H1=some ps:=by rw[ld1_get g1];rfl
 by_cases hk:nd.keys=[]
 ·
  have hk0:((nd.keys.length:Nat):Int)=((0:Nat):Int):=by rw[hk];rfl
  cases h with
  | zero=>
   obtain⟨hnd,rfl⟩:=rn
   have ht:t=([]:Kvs):=List.map_eq_nil_iff.1 (show List.map Prod.fst (t:Kvs)=[]from(show(leafOf t).keys=[]from hnd▸hk))
   subst ht
   obtain⟨H2,e2,dn⟩:=done_zero D n ti hq ch1 hgl (by omega) hgn hql
   refine⟨H2, ?_,dn.mono (Nat.le_refl _) (by omega)⟩
   have e0':ld1 (.ptr A3 0) H1=some (.bool true):=by rw[e0,hnd];rfl
   have bs:bldS [(0,1),(1,1),(2,1)] [.int .i64 ((0:Nat):Int), .int .i64 ((0:Nat):Int), .int .u64 ((0:Nat):Int)] []=some (.agg [.int .i64 ((0:Nat):Int), .int .i64 ((0:Nat):Int), .int .u64 ((0:Nat):Int)]):=rfl
   simp(config:= { maxSteps:=1000000}) (disch:=omega) only[f106,ev,lg,wnt_undef,ew,b1,e1,j1.row.lnSl,hk0,e0',bs,e2,f106j0]
  | succ h=>
   obtain⟨r1,r2,r3,r4⟩:=id rn
   obtain⟨w1,w2⟩:=id wx
   rw[hk]at r2
   have hlen:=w1.2.2.len
   rw[← r2]at hlen
   obtain⟨t1,ht1⟩: ∃t1,t.2=[t1]:=by
    match ht:t.2,hlen with
    | [a],_=>exact⟨a,rfl⟩
   have hkb:=w1.2.2
   rw[← r2,ht1]at hkb
   rw[ht1]at r4
   obtain⟨k0,nd1,S1,hk1,q1,rn1,hS1⟩:=RepL.perm_one r4
   obtain⟨s1,rfl,_⟩:=Qf_inv q1
   subst hS1
   obtain⟨H2,e2,dn⟩:=done_root D n ti hq ch1 hgl (by omega) hgn hql q1 rn1 (WF.wr hkb) hS hG hFr' hFn hR
   have e0':ld1 (.ptr A3 0) H1=some (.bool false):=by rw[e0,r1]
   have hcon:con (h+1) t=con h t1:=by simp only[con,ht1,List.flatMap_cons,List.flatMap_nil,List.append_nil]
   rw[hcon]
   refine⟨H2, ?_,dn.mono (Nat.le_refl _) (by omega)⟩
   obtain⟨qk,ik,ik'⟩:=Ptrs.at (l:=nd.kids) (j3.mono p1 (fun _ _ x=>x)).row (i:=0) (by rw[hk1];simp)
   have hkk:nd.kids[0]'(by rw[hk1];simp)=pp s1:=by simp[hk1]
   rw[hkk]at ik'
   simp(config:= { maxSteps:=1000000}) (disch:=omega) only[f106,ev,lg,wnt_undef,ew,b1,e1,j1.row.lnSl,hk0,e0',e3,ik,ik',e2,f106j0]
 ·
  have hk0: ¬((nd.keys.length:Nat):Int)=((0:Nat):Int):=by
   have:nd.keys.length≠0:=fun e=>hk (List.eq_nil_of_length_eq_zero e)
   omega
  have hsh:=rn.shaped wx.gen (fun _=>hk) (RepN.kidOk rn)
  have hz:Nd.size nd≤785:=by rw[rn.size];exact wx.sz
  obtain⟨pv,sv,H2,vs,nds,ss,e2,p2,hcut,oP,hpar,oS,bP,bS,bvs⟩:=cutAll_ok D n hn p1.ok hu1.1 hsh (by omega)
  obtain⟨ts,c1,c2⟩:=cutsN_ok hcut rn wx
  have few:nds.length≤6:=by
   by_cases hb:Nd.size nd≤500
   ·rw[(hcut.one_inv hb).1];simp
   ·have:=(cuts_ok c1 wx (.inr (by rw[← rn.size];omega))).2.2.1
    rw[c2.len];exact this
  have ch2:=ch1.step p2
  obtain⟨kv,H3,e3',ch3,a3,o3,f3⟩:=addAll_ok D n hn ch2 oP hpar (fun l hl B hB hgB=>by
   rcases bvs l hl B hB with e | e
   ·exact hu.2 B e hgB
   ·have:=Rw.blk ch1.gg.row hgB;omega) (by omega) (by omega)
  have N1:=p1.next;have N2:=p2.next;have N3:=a3.1.next
  have hnone: ∀j,lookN (last+1+j) f=none:=fun j=>by
   cases hk:lookN (last+1+j) f with
   | none=>rfl
   | some n2=>have:=ch.fs _ _ hk;omega
  have hnew: ∀s nd',lookN s (addsN last nds)=some nd'→last0<s:=fun s nd' hs=>by have:=adds_sums hs;have:=ch.le;omega
  have more: ∀p nd,Qf q f p=some nd→Qf q (f++addsN last nds) p=some nd:=fun p nd hp=>Qf_more hq hnew hp
  have at1: ∀j nd',nds[j]? =some nd'→Qf q (f++addsN last nds) (pp (last+1+j))=some nd':=fun j nd' hj=>by rw[Qf_pp,lookN_app,hnone];simp only[lookN_adds hj]
  have okv:Ptrs H3 kv (pps last nds.length):=by
   have:=o3.row
   rw[Ptrs,pps_len];exact this
  have lkv:=okv.lnSl
  rw[pps_len]at lkv
  have t00: ¬(((0:Nat):Int)≠((0:Nat):Int)):=by omega
  by_cases hb:Nd.size nd≤500
  ·obtain⟨rfl,rfl⟩:=hcut.one_inv hb
   have hone:(([nd].length:Nat):Int)=((1:Nat):Int):=rfl
   have wr:WR h t:=wx.wr (by
    cases h with
    | zero=>obtain⟨rfl,_⟩:=rn;intro e;exact hk (by rw[show t=([]:Kvs)from e];rfl)
    | succ h=>exact(show t.1≠[]from rn.2.1▸hk)) (by rw[← rn.size];exact hb)
   have hfp: ∀p∈pp (last+1)::Fr,∃j,p=pp j∧last0<j:=fun p hp=>by
    rcases List.mem_cons.1 hp with rfl | hp
    ·exact⟨_,rfl,by have:=ch.le;omega⟩
    ·exact hFr' p hp
   have hfn:(pp (last+1)::Fr).Nodup:=List.nodup_cons.2 ⟨fun hp=>by
    obtain⟨j,e,_,hj⟩:=hFr _ hp
    have:=pp_inj e;omega,hFn⟩
   obtain⟨H4,e4,dn⟩:=done_root D n (s:=last+1) (t:=t) (S:=S) ti hq ch3 hgl (by simp;omega) hgn hql (at1 0 nd rfl) (rn.mono fun p _ nd hp=>more p nd hp) wr (List.Perm.cons _ hS) hG hfp hfn hR
   refine⟨H4, ?_,dn.mono (by simp) (by simp)⟩
   obtain⟨qk,ik,ik'⟩:=Ptrs.at okv (i:=0) (by simp[pps])
   have hkk:(pps last [nd].length)[0]'(by simp[pps])=pp (last+1):=by simp[pps]
   rw[hkk]at ik'
   simp(config:= { maxSteps:=1000000}) (disch:=omega) only[f106,ev,lg,wnt_undef,ew,b1,e1,j1.row.lnSl,hk0,agg4 g1 rfl,e2,pExtract,nth,t00,e3',lkv,hone,ik,ik',e4,f106j1]
  ·have hss:=hcut.more_inv (by omega)
   obtain⟨w1,w2,w3,_⟩:=cuts_ok c1 wx (.inr (by rw[← rn.size];omega))
   have hlen:=w1.2.2.len
   simp only at hlen
   have hssl:ss.length≠0:=fun e=>hss (List.eq_nil_of_length_eq_zero e)
   have hnl:=c2.len
   have hone: ¬((nds.length:Nat):Int)=((1:Nat):Int):=by omega
   have c2':RepP (Qf q (f++addsN last nds)) h nds ts S:=by
    have mono: ∀ {nds':List Nd.Node} {ts':List (Bt.Tr h)} {S':List Ptr},RepP (Qf q f) h nds' ts' S'→RepP (Qf q (f++addsN last nds)) h nds' ts' S':=by
     intro nds'
     induction nds' with
     | nil=>intro ts' S' hp;cases ts' with
      | nil=>exact hp
      | cons=>exact hp.elim
     | cons a nds' ih=>intro ts' S' hp;cases ts' with
      | nil=>exact hp.elim
      | cons b ts'=>
       obtain⟨S1,S2,a1,a2,a3⟩:=hp
       exact⟨S1,S2,a1.mono fun p _ nd hp=>more p nd hp,ih a2,a3⟩
    exact mono c2
   obtain⟨S2,r2,pm2⟩:=c2'.kids last at1
   have g31:H3.h.get A3=some (.cells [.bool nd.leaf,ks,vs0,ps] 133 1 false):=by
    rw[a3.1.keep _ (by omega) (fun hc=>by
     rcases hc with e | e | e
     ·have:=ch.ltC;omega
     ·have:=ch.ltF;omega
     ·have:=Rw.blk ch.gg.row e;omega)]
    exact Prs.get p2 p1.ok g1
   have oS3:Own 1 9 H3 sv ss.length (ss.map Go.Eng.S):=oS.mono a3.1 (fun B hB hc=>by
    have:=bS B hB
    rcases hc with e | e | e
    ·have:=ch.ltC;omega
    ·have:=ch.ltF;omega
    ·have:=Rw.blk ch.gg.row e;omega)
   have hG4:NodeG H3 (.agg [.bool false,sv, .nilSlice,kv]) ⟨false,ss,[],pps last nds.length⟩:=⟨sv, .nilSlice,kv,rfl, .inl oS3, .inl (Own.nil ..), .inl (by
    simp only[pps_len];exact o3)⟩
   have hA4:NodeA H3 g (.agg [.bool false,sv, .nilSlice,kv]) ⟨false,ss,[],pps last nds.length⟩:=⟨hG4,fun B hB hgB=>by
    have:=Rw.blk ch.gg.row hgB
    rcases blkN_mk.1 hB with e | e | e
    ·have:=bS B e;omega
    ·exact(Blk.nil.1 e).elim
    ·have:=f3 B e;omega⟩
   obtain⟨H4,e4,ch4,a4⟩:=add_ok D n ch3 hA4 (by omega)
   have hne4:lookN (last+nds.length+1) (f++addsN last nds)=none:=by
    cases hk:lookN (last+nds.length+1) (f++addsN last nds)with
    | none=>rfl
    | some n2=>have:=ch3.fs _ _ hk;omega
   have more4: ∀p nd',Qf q (f++addsN last nds) p=some nd'→Qf q (f++addsN last nds++[(last+nds.length+1,⟨false,ss,[],pps last nds.length⟩)]) p=some nd':=fun p nd' hp=>Qf_more hq (fun s nd hs=>by
    simp only[lookN]at hs
    split at hs
    ·have:=ch.le;omega
    ·cases hs) hp
   have at4:Qf q (f++addsN last nds++[(last+nds.length+1,⟨false,ss,[],pps last nds.length⟩)]) (pp (last+nds.length+1))=some ⟨false,ss,[],pps last nds.length⟩:=by
    rw[Qf_pp,lookN_app,hne4];simp[lookN]
   have rn4:RepN (Qf q (f++addsN last nds++[(last+nds.length+1,⟨false,ss,[],pps last nds.length⟩)])) (h+1) ⟨false,ss,[],pps last nds.length⟩ (ss,ts) S2:=⟨rfl,rfl,rfl,r2.mono (fun p _ nd hp=>more4 p nd hp) (fun nd t S1 _ hr=>hr.mono fun p _ nd hp=>more4 p nd hp)⟩
   have hsum:=sumL_bound (ks:=ss) (fun k hk=>(w1.1 k hk).1)
   have wr4:WR (h+1) (ss,ts):=⟨w1,hss,by simp only[isize];omega⟩
   have hfp: ∀p∈pp (last+nds.length+1)::(pps last nds.length++Fr),∃j,p=pp j∧last0<j:=fun p hp=>by
    have:=ch.le
    rcases List.mem_cons.1 hp with rfl | hp
    ·exact⟨_,rfl,by omega⟩
    ·rcases List.mem_append.1 hp with hp | hp
     ·obtain⟨j,rfl,h1,h2⟩:=pps_mem hp
      exact⟨_,rfl,by omega⟩
     ·exact hFr' p hp
   have hfn:(pp (last+nds.length+1)::(pps last nds.length++Fr)).Nodup:=by
    refine List.nodup_cons.2 ⟨fun hp=> ?_,List.nodup_append.2 ⟨pps_nodup _ _,hFn,fun a ha b hb e=> ?_⟩⟩
    ·rcases List.mem_append.1 hp with hp | hp
     ·obtain⟨j,e,h1,h2⟩:=pps_mem hp
      have:=pp_inj e;omega
     ·obtain⟨j,e,h1,h2⟩:=hFr _ hp
      have:=pp_inj e;omega
    ·obtain⟨j,rfl,h1,h2⟩:=pps_mem ha
     obtain⟨j',rfl,h3,h4⟩:=hFr _ hb
     have:=pp_inj e;omega
   have hT:(pp (last+nds.length+1)::S2).Perm ((pp (last+nds.length+1)::(pps last nds.length++Fr))++R):=by
    rw[List.cons_append,List.append_assoc]
    exact List.Perm.cons _ (pm2.trans (List.Perm.append_left _ hS))
   obtain⟨H5,e5,dn⟩:=done_root D n (s:=last+nds.length+1) ti hq ch4 hgl (by omega) hgn hql at4 rn4 wr4 hT hG hfp hfn hR
   have hcon:con (h+1) (ss,ts)=con h t:=w2
   rw[hcon]at dn
   refine⟨H5, ?_,dn.mono (by omega) (by omega)⟩
   simp(config:= { maxSteps:=1000000}) (disch:=omega) only[f106,ev,lg,wnt_undef,ew,b1,e1,j1.row.lnSl,hk0,agg4 g1 rfl,e2,pExtract,nth,t00,e3',lkv,hone,bldNi oS3.row.isCell okv.isCell,e4,e5,f106j1]
end Go.Eng.Sh
end
section
namespace Go.Bt
open Go.Nd (Str Kvs leafOf)
theorem WR.gen: ∀ {h:Nat} {t:Tr h},WR h t→Gen h none none t
 | 0,_,w=>w.1
 | _+1,_,w=>w.1
theorem WR.sz: ∀ {h:Nat} {t:Tr h},WR h t→tsize h t≤500
 | 0,_,w=>w.2.2
 | _+1,_,w=>w.2.2
theorem flat_len {h:Nat} : ∀ {ts:List (Tr h)},(∀t∈ts,2 ^ h≤(con h t).length)→ts.length*2 ^ h≤(ts.flatMap (con h)).length
 | [],_=>by simp
 | t::ts,ih=>by
  have h1:=ih t (List.mem_cons_self ..)
  have h2:=flat_len (ts:=ts) fun t ht=>ih t (List.mem_cons_of_mem _ ht)
  simp only[List.length_cons,List.flatMap_cons,List.length_append,Nat.add_mul,Nat.one_mul]
  omega
theorem inn_len {h:Nat}{lo hi:Bd}{t:List Str×List (Tr h)}(ih: ∀ {lo hi:Bd} {t:Tr h},WF h lo hi t→2 ^ h≤(con h t).length)(w:Inn (WF h) lo hi t)(hne:t.1≠[]):2 ^ (h+1)≤(t.2.flatMap (con h)).length:=by
 have hl:=w.2.2.len
 have hk:t.1.length≠0:=fun e=>hne (List.eq_nil_of_length_eq_zero e)
 have hf:=flat_len (ts:=t.2) fun x hx=>by
  obtain⟨i,hi,rfl⟩:=List.getElem_of_mem hx
  exact ih (KB.at w.2.2 (List.getElem?_eq_getElem hi))
 have h2:2*2 ^ h≤t.2.length*2 ^ h:=Nat.mul_le_mul_right _ (by omega)
 rw[Nat.pow_succ];omega
theorem WF.many: ∀ {h:Nat} {lo hi:Bd} {t:Tr h},WF h lo hi t→2 ^ h≤(con h t).length
 | 0,_,_,t,w=>by
  have:List.length (t:Kvs)≠0:=fun e=>w.2.1 (List.eq_nil_of_length_eq_zero e)
  show 1≤List.length (t:Kvs)
  omega
 | _+1,_,_,_,w=>inn_len WF.many w.1 w.2.1
theorem WR.many: ∀ {h:Nat} {t:Tr h},WR h t→2 ^ h≤(con h t).length
 | 0,t,w=>by
  have:List.length (t:Kvs)≠0:=fun e=>w.2.1 (List.eq_nil_of_length_eq_zero e)
  show 1≤List.length (t:Kvs)
  omega
 | _+1,_,w=>inn_len WF.many w.1 w.2.1
theorem WR.low {h:Nat}{t:Tr h}(w:WR h t)(hk:(con h t).length≤1000000000):h≤29:=by
 have:=w.many
 rcases Nat.lt_or_ge h 30 with h1 | h1
 ·omega
 ·have h2:2 ^ 30≤2 ^ h:=Nat.pow_le_pow_right (by decide) h1
  have h3:(2:Nat) ^ 30=1073741824:=by decide
  omega
end Go.Bt
namespace Go.Eng.Sh
open Go.Nd (Ptr sumL leafOf Kvs)
open Go.Bt
theorem cbx:(∀A o,cellsA (.ptr A o)=[.ptr A o])∧cellsA .nilPtr=[.nilPtr]∧cellsA .nilFunc=[.nilFunc]∧(∀k z,cellsA (.int k z)=[.int k z])∧(∀l,cellsA (S l)=[S l])∧(∀ed K V,cellsA (edF ed K V)=[edF ed K V])∧(∀A o,aveq (.ptr A o) (.ptr A o)=true):=
 ⟨fun _ _=>rfl,rfl,rfl,fun _ _=>rfl,fun _=>rfl,fun ed _ _=>by cases ed<;>rfl,fun _ _=>by simp[aveq]⟩
theorem chStart {H H':AH}{At Ac F last:Nat}(s:Prs H H')(gC:H'.h.get Ac=some (.cells [.ptr At 0, .int .u64 (last:Nat), .map F, .nilSlice] 209 1 false))(gF:H'.h.get F=some (.map [10] []))(dC:H.next≤Ac)(dF:H.next≤F)(ne:Ac≠F):
  Ch H H' At Ac F [] [] .nilSlice [] last last:=
 ⟨s,gC,gF,trivial,Own.nil ..,fun B hB=>(Blk.nil.1 hB).elim,fun _ h=>by simp at h,dC,dF,ne,fun _ _ h=>by simp[lookN]at h,Nat.le_refl _,by simp,by simp,by simp⟩
theorem change_ok (M n:Nat)(hM:300000000≤M)(hn:300000000≤n){H:AH}{At M0 K V last:Nat}{d c dr:AV}{root:Ptr}{es:List (AV×AV)}{q:PN}{kv:Kvs}{ed:Ed}(ti:TI H At M0 d c root es q last dr)(hq: ∀s nd,lookN s q=some nd→s≤last)(hql:q.length≤last)(hl:last≤500000000)
  (hr:RootIs q root kv) (hkv:kv.length≤1000000000) (ho:ed.ok) (hb:edB H ed K V):
  ∃(e:Nat) (H':AH),f63 (dy (M+2)) n [.ptr At 0,S ed.key,edF ed K V] H=some (.int .i64 (e:Nat),H')∧
   match ed.run kv with
   | none=>e=5∧Prs H H'
   | some kv'=>e=0∧Done H H' At M0 d c dr last (last+200) kv':=by
 obtain⟨H1,B2,b1,p1,g1,m1,n1⟩:=box ti.ok (.cells [.ptr At 0] 22 1 false)
 obtain⟨H2,B4,b2,p2,g2,m2,n2⟩:=box p1.ok (.cells [S ed.key] 9 1 false)
 obtain⟨H3,B3,b3,p3,g3,m3,n3⟩:=box p2.ok (.cells [edF ed K V] 136 1 false)
 obtain⟨H4,F,b4,p4,g4,m4,n4⟩:=box p3.ok (.map [10] [])
 obtain⟨H5,Ac,b5,p5,g5,m5,n5⟩:=box p4.ok (.cells [.ptr At 0, .int .u64 (last:Nat), .map F, .nilSlice] 209 1 false)
 obtain⟨H6,B6,b6,p6,g6,m6,n6⟩:=box p5.ok (.cells [.nilPtr] 207 1 false)
 obtain⟨H7,e7,x7,s7⟩:=Box.st (⟨_,g6⟩:Box H6 B6 .nilPtr) p6.ok (x:= .ptr Ac 0) rfl
 have P12:=p1.trans p2
 have P13:=P12.trans p3
 have P15:=(P13.trans p4).trans p5
 have P16:=P15.trans p6
 have P17:Prs H H7:=P16.fresh s7 (fun B hB=>by have:=P15.next;omega)
 have N1:=p1.next;have N2:=p2.next;have N3:=p3.next;have N4:=p4.next;have N5:=p5.next;have N6:=p6.next;have N7:=s7.next
 have keep7: ∀ {A:Nat} {o:AObj},H5.h.get A=some o→H7.h.get A=some o:=fun {A o} hg=>by
  have:=p5.ok.lt hg
  rw[s7.keep _ (by omega) (by omega)];exact Prs.get p6 p5.ok hg
 have g57:=keep7 g5
 have g47:=keep7 (Prs.get p5 p4.ok g4)
 have ch:Ch H H7 At Ac F [] [] .nilSlice [] last last:=chStart P17 g57 g47 (by omega) (by omega) (by omega)
 have ti7:=ti.prs P17
 have ti3:=ti.prs P13
 have k2:Box H7 B2 (.ptr At 0):=⟨_,keep7 (Prs.get (p4.trans p5) p3.ok (Prs.get p3 p2.ok (Prs.get p2 p1.ok g1)))⟩
 have k3:Box H7 B3 (edF ed K V):=⟨_,keep7 (Prs.get (p4.trans p5) p3.ok g3)⟩
 have k4:Box H7 B4 (S ed.key):=⟨_,keep7 (Prs.get (p4.trans p5) p3.ok (Prs.get p3 p2.ok g2))⟩
 have l2:ld1 (.ptr B2 0) H3=some (.ptr At 0):=by rw[ld1_get (Prs.get p3 p2.ok (Prs.get p2 p1.ok g1))];rfl
 have l6:ld1 (.ptr At 6) H3=some (.int .u64 (last:Nat)):=by rw[ld1_get ti3.gT];rfl
 have l2':ld1 (.ptr At 2) H7=some (.int .i64 root.at_):=by rw[ld1_get ti7.gT];rfl
 have bs:bldS [(0,1),(1,1),(2,1),(3,1)] [.nilPtr, .int .u64 ((0:Nat):Int), .nilMap, .nilSlice] [(0, .ptr At 0),(1, .int .u64 (last:Nat)),(2, .map F)]=some (.agg [.ptr At 0, .int .u64 (last:Nat), .map F, .nilSlice]):=rfl
 have bs1:bldS [(0,1),(1,1),(2,1),(3,1)] [.bool false, .nilSlice, .nilSlice, .nilSlice] [(0, .bool true)]=some (.agg [.bool true, .nilSlice, .nilSlice, .nilSlice]):=rfl
 have t00: ¬(((0:Nat):Int)≠((0:Nat):Int)):=by omega
 have t50:(((5:Nat):Int)≠((0:Nat):Int)):=by omega
 rcases hr with⟨rfl,rfl⟩ | ⟨s,h,nd,t,S0,rfl,hs,rn,wr,nd0,rfl⟩
 ·
  have hroot:pZ.at_=((0:Nat):Int):=rfl
  rw[hroot]at l2'
  have wl:NodeG H7 (.agg [.bool true, .nilSlice, .nilSlice, .nilSlice]) (leafOf []):=⟨.nilSlice, .nilSlice, .nilSlice,rfl, .inl (Own.nil ..), .inl (Own.nil ..), .inl (Own.nil ..)⟩
  have wlf:Lf none none ([]:Kvs):=⟨trivial,by simp⟩
  obtain⟨u,H8,_,e8,p8,w8⟩:=edit_ok (M+1) n (by omega) P17.ok wl wlf (by decide) ho (hb.prs ti.ok P17)
  obtain⟨lu,rfl,lul,luc⟩:=w8.1.cells
  obtain⟨H9,B8,b9,p9,g9,m9,n9⟩:=box p8.ok (.cells [.bool false, .nilSlice, .nilSlice, .nilSlice] 133 1 false)
  obtain⟨H10,e10,g10,s10,n10⟩:=st_all p9.ok g9 (l':=lu) lul luc
  have e10':stN 4 (.ptr B8 0) (.agg lu) H9=some (undefA,H10):=e10
  have N8:=p8.next;have N9:=p9.next;have N10:=s10.next
  have P70:Prs H7 H10:=(p8.trans p9).fresh s10 (fun B hB=>by omega)
  have ch10:=ch.step P70
  cases hrun:ed.run []with
  | none=>
   have hel:edL ed []=(nd0,5):=by simp only[edL,hrun]
   rw[hel]at e8
   refine⟨5,H10, ?_,rfl,P17.trans P70⟩
   simp(config:= { maxSteps:=1000000}) (disch:=omega) only[f63,ev,lg,wnt_undef,ew,b1,b2,b3,cbx,l2,l6,mkM,b4,bs,b5,b6,e7,k2.ld,l2',k3.ld,bs1,e8,pExtract,nth,b9,e10',t50,ne_eq,not_false_eq_true]
  | some kv'=>
   have hel:edL ed []=(leafOf kv',0):=by simp only[edL,hrun]
   rw[hel]at e8 w8
   obtain⟨wf1,wf2⟩:=Ed.leaf (lo:=none) (hi:=none) wlf trivial trivial ho hrun
   have hne:kv'≠[]:=by
    cases ed with
    | put k v=>simp only[Ed.run,Option.some.injEq]at hrun;subst hrun;simp[Nd.putP]
    | del k=>simp[Ed.run,Nd.lookP]at hrun
   have hu10:NodeA H10 .nilSlice (.agg lu) (leafOf kv'):=⟨(w8.1.prs p9).stp s10 (fun B hB e=>by
    have:=w8.1.lt hB;omega),fun B hB hg=>(Blk.nil.1 hg).elim⟩
   obtain⟨H11,e11,ch11,a11⟩:=add_ok (dy (M+2)) n ch10 hu10 (by omega)
   have hQ:Qf q ([]++[(last+1,leafOf kv')]) (pp (last+1))=some (leafOf kv'):=by rw[Qf_pp];simp[lookN]
   obtain⟨H12,e12,dn⟩:=done_root (dy (M+2)) n (s:=last+1) (h:=0) (t:=kv') (S:=[]) (Fr:=[pp (last+1)]) (R:=[]) ti hq ch11 (by simp) (by omega) (by simp;omega) hql hQ ⟨rfl,rfl⟩ ⟨wf1,hne,by simp only[lsize_nil]at wf2;omega⟩ (by simp) (by simp) (by
    intro p hp;simp only[List.mem_singleton]at hp;subst hp;exact⟨_,rfl,by omega⟩) (by simp) (by simp)
   refine⟨0,H12, ?_,rfl,dn.mono (by omega) (by omega)⟩
   have k6:ld1 (.ptr B6 0) H10=some (.ptr Ac 0):=(x7.mono s7.ok P70 (fun x=>x)).ld
   have k6':ld1 (.ptr B6 0) H11=some (.ptr Ac 0):=by
    refine((x7.mono s7.ok P70 (fun x=>x)).mono P70.ok a11.1 (fun hc=> ?_)).ld
    rcases hc with e | e | e
    ·omega
    ·omega
    ·exact(Blk.nil.1 e).elim
   simp(config:= { maxSteps:=1000000}) (disch:=omega) only[f63,ev,lg,wnt_undef,ew,b1,b2,b3,cbx,l2,l6,mkM,b4,bs,b5,b6,e7,k2.ld,l2',k3.ld,bs1,e8,pExtract,nth,b9,e10',t00,k6,agg4 g10 lul,e11,chk_ok k6' (cbx.2.2.2.2.2.2 _ _),e12]
 ·
  have hroot:(pp s).at_=((1:Nat):Int):=rfl
  rw[hroot]at l2'
  have h10: ¬((1:Nat):Int)=((0:Nat):Int):=by omega
  have hh:=wr.low hkv
  obtain⟨H8,B1,b8,p8,g8,m8,n8⟩:=box P17.ok (.cells [.int .i64 ((0:Nat):Int)] 3 1 false)
  obtain⟨H9,e9,x9,s9⟩:=Box.st (⟨_,g8⟩:Box H8 B1 (.int .i64 ((0:Nat):Int))) p8.ok (x:= .int .i64 ((0:Nat):Int)) rfl
  obtain⟨H10,B5,b10,p10,g10,m10,n10⟩:=box s9.ok (.cells [.nilFunc] 142 1 false)
  obtain⟨H11,e11,x11,s11⟩:=Box.st (⟨_,g10⟩:Box H10 B5 .nilFunc) p10.ok (x:=downF B1 B2 B3 B4 B5 B6) rfl
  obtain⟨H12,B8,b12,p12,g12,m12,n12⟩:=box s11.ok (.cells [.bool false, .nilSlice, .nilSlice, .nilSlice] 133 1 false)
  have N8:=p8.next;have N9:=s9.next;have N10:=p10.next;have N11:=s11.next;have N12:=p12.next
  have P79:Prs H7 H9:=p8.fresh s9 (fun B hB=>by omega)
  have P7b:Prs H7 H11:=(P79.trans p10).fresh s11 (fun B hB=>by omega)
  have P7c:Prs H7 H12:=P7b.trans p12
  have ch12:=ch.step P7c
  have ti12:=ti7.prs P7c
  have ti11:=ti7.prs P7b
  have x9':Box H12 B1 (.int .i64 ((0:Nat):Int)):=((x9.mono s9.ok p10 (fun x=>x)).mono p10.ok s11 (by omega)).mono s11.ok p12 (fun x=>x)
  have x11':Box H12 B5 (downF B1 B2 B3 B4 B5 B6):=x11.mono s11.ok p12 (fun x=>x)
  have k6:Box H12 B6 (.ptr Ac 0):=x7.mono s7.ok P7c (fun x=>x)
  have cl:Cl H H12 At Ac K V ed B1 B2 B3 B4 B5 B6 0:=⟨x9',k2.mono s7.ok P7c (fun x=>x),k3.mono s7.ok P7c (fun x=>x),k4.mono s7.ok P7c (fun x=>x),x11',k6,hb,by omega,by omega,by omega,by omega,by omega,by omega⟩
  have hold: ∀kv∈es,∀B,blkN kv.2 B→B<H.next:=fun kv hkv B hB=>by
   obtain⟨nd2,hn2⟩:=ti.pq.mem kv hkv
   exact hn2.lt hB
  have hne:0<h→nd.keys≠[]:=fun h0=>by
   cases h with
   | zero=>omega
   | succ h=>rw[rn.2.1];exact wr.2.1
  obtain⟨u,e,g',H13,e13,s13,⟨lu,rfl,lul,luc⟩,hout⟩:=down_ok ti hold hq ho h M (M+1) (by omega) (by omega) ch12 cl hs rn wr.gen wr.sz hne (by cases h<;>trivial) (by cases h<;>trivial) (by omega) (by omega) (by simp;omega)
  have hB8: ¬(chg Ac F .nilSlice B8∨B8=B1):=fun hc=>by
   rcases hc with(e | e | e) | e
   ·omega
   ·omega
   ·exact(Blk.nil.1 e).elim
   ·omega
  have g813:H13.h.get B8=some (.cells [.bool false, .nilSlice, .nilSlice, .nilSlice] 133 1 false):=by rw[s13.keep _ n12 hB8];exact g12
  have k613:Box H13 B6 (.ptr Ac 0):=k6.mono p12.ok s13 (fun hc=>by
   rcases hc with(e | e | e) | e
   ·omega
   ·omega
   ·exact(Blk.nil.1 e).elim
   ·omega)
  obtain⟨H14,e14,g14,s14,n14⟩:=st_all s13.ok g813 (l':=lu) lul luc
  have e14':stN 4 (.ptr B8 0) (.agg lu) H13=some (undefA,H14):=e14
  have k614:ld1 (.ptr B6 0) H14=some (.ptr Ac 0):=(k613.mono s13.ok s14 (by omega)).ld
  have l2b:ld1 (.ptr B2 0) H11=some (.ptr At 0):=(k2.mono s7.ok P7b (fun x=>x)).ld
  have lr:ldN 3 (.ptr At 2) H11=some (.agg (ptrV (pp s))):=by rw[ldN_get ti11.gT];rfl
  have x11l:=x11.ld
  have hcd:callV (s63 (dy (M+2)) n).S (dy (M+2)) (downF B1 B2 B3 B4 B5 B6) [.agg (ptrV (pp s))] H12=some (.tuple [.agg lu, .int .i64 ((e:Nat):Int)],H13):=e13
  have hdf:(.func 103 [] [.ptr B1 0, .ptr B2 0, .ptr B3 0, .ptr B4 0, .ptr B5 0, .ptr B6 0]:AV)=downF B1 B2 B3 B4 B5 B6:=rfl
  cases hrun:ed.run (con h t)with
  | none=>
   rw[hrun]at hout
   have hout:e=5:=hout
   subst hout
   refine⟨5,H14, ?_,rfl,⟨s14.ok,by have:=s13.next;have:=s14.next;omega,fun B hB _=> ?_⟩⟩
   ·simp(config:= { maxSteps:=1000000}) (disch:=omega) only[f63,ev,lg,wnt_undef,ew,b1,b2,b3,cbx,l2,l6,mkM,b4,bs,b5,b6,e7,k2.ld,l2',h10,b8,e9,b10,hdf,e11,x11l,l2b,lr,b12,hcd,pExtract,nth,e14',t50,ne_eq,not_false_eq_true]
   ·have:=s13.next
    rw[s14.keep B (by omega) (by omega),s13.keep B (by omega) (fun hc=>by
     rcases hc with(e | e | e) | e
     ·omega
     ·omega
     ·exact(Blk.nil.1 e).elim
     ·omega),P7c.keep B (by omega) (fun x=>x),P17.keep B hB (fun x=>x)]
  | some kv'=>
   rw[hrun]at hout
   obtain⟨rfl,fes',f',gl',last',d',nd',S',G,R,Fr,t',ch13,cl13,hA13,rn13,wx13,con13,nk13,hgl,hG,hl1,hl2,hd',pm1,pm2,frn,fr1,more,bg⟩:=hout
   have ch14:=ch13.stb g813 s14 (by omega) (by omega)
   have hA14:=hA13.stb g813 s14
   rw[List.nil_append]at hgl
   subst hgl
   have hSn:(pp s::S0).Nodup:=nd0
   have hGR:(gl'++R).Nodup:=pm2.nodup_iff.1 hSn
   have hall: ∀p∈pp s::S0,∃nd,Qf q [] p=some nd:=fun p hp=>by
    rcases List.mem_cons.1 hp with rfl | hp
    ·exact⟨nd,by rw[Qf_pp];simpa[lookN]using hs⟩
    ·exact RepN.here rn p hp
   have hin: ∀p∈gl'++R,∃nd,Qf q [] p=some nd:=fun p hp=>hall p (pm2.mem_iff.2 hp)
   have hglp: ∀p∈gl',∃s,p=pp s:=fun p hp=>by
    obtain⟨nd2,h2⟩:=hin p (List.mem_append_left _ hp)
    obtain⟨s2,rfl,_⟩:=Qf_inv h2
    exact⟨s2,rfl⟩
   obtain⟨H15,e15,dn⟩:=crown_ok (dy (M+2)) n (by omega) ti hq ch14 hglp (by omega) (by omega) hql hA14 rn13 wx13 pm1 hGR fr1 frn (fun p hp=>hin p (List.mem_append_right _ hp))
   rw[con13]at dn
   refine⟨0,H15, ?_,rfl,dn.mono (by omega) (by omega)⟩
   simp(config:= { maxSteps:=1000000}) (disch:=omega) only[f63,ev,lg,wnt_undef,ew,b1,b2,b3,cbx,l2,l6,mkM,b4,bs,b5,b6,e7,k2.ld,l2',h10,b8,e9,b10,hdf,e11,x11l,l2b,lr,b12,hcd,pExtract,nth,e14',t00,k614,agg4 g14 lul,e15]
end Go.Eng.Sh
end
section
namespace Go.Eng.Sh
open Go.Nd (Ptr sumL leafOf Kvs mayK putP delP lookP)
open Go.Bt
def TreeI (H:AH)(At M L:Nat)(kv:Kvs):Prop:= ∃d c dr root es q last,dr= .nilSlice∧isCell c=true∧TI H At M d c root es q last dr∧(∀s nd,lookN s q=some nd→s≤last)∧q.length≤last∧last≤L∧RootIs q root kv
theorem TreeI.prs {H H':AH}{At M L:Nat}{kv:Kvs}(h:TreeI H At M L kv)(s:Prs H H'):TreeI H' At M L kv:=by
 obtain⟨d,c,_,root,es,q,last,rfl,hc,ti,h2⟩:=h
 exact⟨d,c,_,root,es,q,last,rfl,hc,ti.prs s,h2⟩
theorem TreeI.up {H:AH}{At M L L':Nat}{kv:Kvs}(h:TreeI H At M L kv)(hl:L≤L'):TreeI H At M L' kv:=by
 obtain⟨d,c,_,root,es,q,last,rfl,hc,ti,h2,h3,h4,h5⟩:=h
 exact⟨d,c,_,root,es,q,last,rfl,hc,ti,h2,h3,by omega,h5⟩
theorem Done.treeI {H0 H':AH}{At M low top:Nat}{d c:AV}{kv:Kvs}(h:Done H0 H' At M d c .nilSlice low top kv)(hc:isCell c=true):TreeI H' At M top kv∧Stp (fun B=>B=At∨B=M) H0 H':=by
 obtain⟨root,es,q,last,h1,h2,h3,h4,h5,h6,h7⟩:=h
 exact⟨⟨d,c,_,root,es,q,last,rfl,hc,h1,h3,h4,h6,h7⟩,h2⟩
theorem TI.stp {S:Nat→Prop}{H H':AH}{At M last:Nat}{d c dr:AV}{root:Ptr}{es:List (AV×AV)}{q:PN}(h:TI H At M d c root es q last dr)(s:Stp S H H')(hA: ¬S At)(hM: ¬S M)(hN: ∀kv∈es,∀B,blkN kv.2 B→ ¬S B):TI H' At M d c root es q last dr:=by
 refine⟨s.ok,by rw[s.keep _ (h.ok.lt h.gT) hA];exact h.gT,by rw[s.keep _ (h.ok.lt h.gM) hM];exact h.gM, ?_,h.hd,h.few⟩
 exact h.pq.frame fun kv hkv nd hn=>hn.stp s (hN kv hkv)
theorem TreeI.other {H H':AH}{At M L At' M' L':Nat}{kv kv':Kvs}(h:TreeI H At M L kv)(h':TreeI H At' M' L' kv')(ne:At≠At'∧M≠M')(s:Stp (fun B=>B=At'∨B=M') H H'):TreeI H' At M L kv:=by
 obtain⟨d,c,_,root,es,q,last,rfl,hc,ti,h2⟩:=h
 obtain⟨d',c',_,root',es',q',last',rfl,_,ti',_⟩:=h'
 refine⟨d,c,_,root,es,q,last,rfl,hc,ti.stp s (fun e=> ?_) (fun e=> ?_) (fun kv hkv B hB e=> ?_),h2⟩
 ·rcases e with e | e
  ·exact ne.1 e
  ·have:=ti.gT;rw[e,ti'.gM]at this;cases this
 ·rcases e with e | e
  ·have:=ti.gM;rw[e,ti'.gT]at this;cases this
  ·exact ne.2 e
 ·obtain⟨nd,hn⟩:=ti.pq.mem kv hkv
  rcases e with e | e
  ·subst e;exact hn.nblk ti'.gT (.inl ⟨_,_,_,_,rfl,fun _ _ e=>by obtain⟨_,_,e'⟩:=ti'.hd;rw[e']at e;cases e⟩) hB
  ·subst e;exact hn.nblk ti'.gM (.inr (.inl ⟨_,_,rfl⟩)) hB
def putOkT (k v:Str):Bool:=mayK k&&decide (v.length≤200)
theorem putT_ok (m n:Nat)(hm:300000000≤m)(hn:300000000≤n){H:AH}{At M L:Nat}{kv:Kvs}{k v:Str}(t:TreeI H At M L kv)(hL:L≤500000000)(hkv:kv.length≤1000000000):
  ∃H',f20 (dy (m+2)) n [.ptr At 0,S k,S v] H=some (.int .i64 ((if putOkT k v then 0 else 1:Nat):Int),H')∧TreeI H' At M (L+200) (if putOkT k v then putP k v kv else kv)∧Stp (fun B=>B=At∨B=M) H H':=by
 obtain⟨d,c,_,root,es,q,last,rfl,hc,ti,h2,h3,h4,h5⟩:=id t
 obtain⟨H1,A4,b1,p1,g1,m1,n1⟩:=box ti.ok (.cells [S k] 9 1 false)
 obtain⟨H2,A5,b2,p2,g2,m2,n2⟩:=box p1.ok (.cells [S v] 9 1 false)
 have P2:=p1.trans p2
 have ti2:=ti.prs P2
 have x4:Box H2 A4 (S k):=⟨_,Prs.get p2 p1.ok g1⟩
 have x5:Box H2 A5 (S v):=⟨_,g2⟩
 have hno:=none_ok (dy (m+2)) n ti2
 by_cases hp:putOkT k v=true
 ·obtain⟨hp1,hp2⟩:mayK k=true∧v.length≤200:=by simpa[putOkT]using hp
  obtain⟨e,H3,e3,hout⟩:=change_ok m n hm hn (ed:= .put k v) ti2 h2 h3 (by omega) h5 hkv ⟨hp1,hp2⟩ ⟨x4,x5⟩
  simp only[Ed.run]at hout
  obtain⟨rfl,dn⟩:=hout
  obtain⟨d1,d2⟩:=dn.treeI hc
  simp only[Nd.mayK,Bool.and_eq_true,decide_eq_true_eq]at hp1
  refine⟨H3, ?_,by rw[if_pos hp];exact d1.up (by omega),(P2.mono fun _ _ x=>x.elim).trans d2⟩
  have a1: ¬((k.length:Nat):Int)< ((1:Nat):Int):=by omega
  have a2: ¬((40:Nat):Int)< ((k.length:Nat):Int):=by omega
  have a3: ¬((200:Nat):Int)< ((v.length:Nat):Int):=by omega
  have e3':f63 (dy (m+2)) n [.ptr At 0,S k, .func 64 [] [.ptr A4 0, .ptr A5 0]] H2=some (.int .i64 ((0:Nat):Int),H3):=e3
  simp(config:= { maxSteps:=1000000}) (disch:=omega) only[f20,ev,lg,wnt_undef,ew,cbx,b1,b2,hno,x4.ld,x5.ld,a1,a2,a3,e3',hp]
 ·refine⟨H2, ?_,by rw[if_neg hp];exact(t.prs P2).up (by omega),P2.mono fun _ _ x=>x.elim⟩
  have hx:((k.length:Nat):Int)< ((1:Nat):Int)∨((40:Nat):Int)< ((k.length:Nat):Int)∨((200:Nat):Int)< ((v.length:Nat):Int):=by
   simp only[putOkT,Nd.mayK,Bool.and_eq_true,decide_eq_true_eq]at hp
   omega
  simp(config:= { maxSteps:=1000000}) (disch:=omega) only[f20,ev,lg,wnt_undef,ew,cbx,b1,b2,hno,x4.ld,x5.ld,hp]
  rw[if_pos (by simpa[or_assoc]using hx)]
  rfl
def delET (k:Str)(kv:Kvs):Nat:=if mayK k then(if(lookP k kv).isSome then 0 else 5)else 1
theorem delT_ok (m n:Nat)(hm:300000000≤m)(hn:300000000≤n){H:AH}{At M L:Nat}{kv:Kvs}{k:Str}(t:TreeI H At M L kv)(hL:L≤500000000)(hkv:kv.length≤1000000000):
  ∃H',f23 (dy (m+2)) n [.ptr At 0,S k] H=some (.int .i64 ((delET k kv:Nat):Int),H')∧TreeI H' At M (L+200) (if delET k kv=0 then delP k kv else kv)∧Stp (fun B=>B=At∨B=M) H H':=by
 obtain⟨d,c,_,root,es,q,last,rfl,hc,ti,h2,h3,h4,h5⟩:=id t
 obtain⟨H1,A4,b1,p1,g1,m1,n1⟩:=box ti.ok (.cells [S k] 9 1 false)
 have ti1:=ti.prs p1
 have x4:Box H1 A4 (S k):=⟨_,g1⟩
 have hno:=none_ok (dy (m+2)) n ti1
 by_cases hp:mayK k=true
 ·obtain⟨e,H3,e3,hout⟩:=change_ok m n hm hn (V:=0) (ed:= .del k) ti1 h2 h3 (by omega) h5 hkv hp x4
  have hp1:=hp
  simp only[Nd.mayK,Bool.and_eq_true,decide_eq_true_eq]at hp1
  have a1: ¬((k.length:Nat):Int)< ((1:Nat):Int):=by omega
  have a2: ¬((40:Nat):Int)< ((k.length:Nat):Int):=by omega
  have e3':f63 (dy (m+2)) n [.ptr At 0,S k, .func 66 [] [.ptr A4 0]] H1=some (.int .i64 ((e:Nat):Int),H3):=e3
  have run:f23 (dy (m+2)) n [.ptr At 0,S k] H=some (.int .i64 ((e:Nat):Int),H3):=by
   simp(config:= { maxSteps:=1000000}) (disch:=omega) only[f23,ev,lg,wnt_undef,ew,cbx,b1,hno,x4.ld,a1,a2,e3',hp]
  cases hr:(Ed.del k).run kv with
  | none=>
   rw[hr]at hout
   obtain⟨rfl,p3⟩:=hout
   have hl:(lookP k kv).isSome=false:=by
    simp only[Ed.run]at hr
    split at hr
    ·cases hr
    ·rename_i h;simpa using h
   have hde:delET k kv=5:=by simp only[delET,hp,if_true,hl,Bool.false_eq_true,if_false]
   refine⟨H3,by rw[hde];exact run,by rw[hde];exact(t.prs (p1.trans p3)).up (by omega),(p1.trans p3).mono fun _ _ x=>x.elim⟩
  | some kv'=>
   rw[hr]at hout
   obtain⟨rfl,dn⟩:=hout
   obtain⟨d1,d2⟩:=dn.treeI hc
   have hl:(lookP k kv).isSome=true∧delP k kv=kv':=by
    simp only[Ed.run]at hr
    split at hr
    ·rename_i h;exact⟨h,by simpa using hr⟩
    ·cases hr
   have hde:delET k kv=0:=by simp only[delET,hp,if_true,hl.1]
   refine⟨H3,by rw[hde];exact run,by rw[hde,if_pos rfl,hl.2];exact d1.up (by omega),(p1.mono fun _ _ x=>x.elim).trans d2⟩
 ·have hde:delET k kv=1:=by simp only[delET,hp,Bool.false_eq_true,if_false]
  refine⟨H1, ?_,by rw[hde];exact(t.prs p1).up (by omega),p1.mono fun _ _ x=>x.elim⟩
  rw[hde]
  have hx:((k.length:Nat):Int)< ((1:Nat):Int)∨((40:Nat):Int)< ((k.length:Nat):Int):=by
   simp only[Nd.mayK,Bool.and_eq_true,decide_eq_true_eq]at hp
   omega
  simp(config:= { maxSteps:=1000000}) (disch:=omega) only[f23,ev,lg,wnt_undef,ew,cbx,b1,hno,x4.ld]
  rw[if_pos (by simpa using hx)]
  rfl
end Go.Eng.Sh
end
section
namespace Go.Eng
def Stk (k e:Nat)(H:AH)(v:AV)(n:Nat)(l:List AV):Prop:=
 l.length=n*k∧((v= .nilSlice∧n=0)∨ ∃A cc cells g r,v= .slice A 0 n cc∧A<H.next∧H.h.get A=some (.cells cells e k g)∧cells.length=r*k∧n≤r∧cells.take (n*k)=l∧(cc=2*r∨(cc=1∧g=true)))
theorem Stk.row {k e n:Nat}{H:AH}{v:AV}{l:List AV}(h:Stk k e H v n l):Rw k H v n l:=by
 obtain⟨h0,⟨rfl,rfl⟩ | ⟨A,cc,cells,g,r,rfl,hA,hg,hl,hn,ht,_⟩⟩:=h
 ·exact⟨h0, .inl ⟨rfl,rfl⟩⟩
 ·have:=Nat.mul_le_mul_right k hn
  exact⟨h0, .inr (.inr ⟨A,0,cc,cells,e,k,g,rfl,hg,hA,by omega,by rw[List.drop_zero];exact ht⟩)⟩
theorem Stk.mono {k e n:Nat}{S:Nat→Prop}{H H':AH}{v:AV}{l:List AV}(h:Stk k e H v n l)(s:Stp S H H')(hS: ∀A,Blk v A→ ¬S A):Stk k e H' v n l:=by
 obtain⟨h0,h1 | ⟨A,cc,cells,g,r,rfl,hA,hg,h2⟩⟩:=h
 ·exact⟨h0, .inl h1⟩
 ·exact⟨h0, .inr ⟨A,cc,cells,g,r,rfl,Nat.lt_of_lt_of_le hA s.next,by rw[s.keep A hA (hS A (Blk.slice.2 rfl))];exact hg,h2⟩⟩
theorem Stk.lt {k e n:Nat}{H:AH}{v:AV}{l:List AV}(h:Stk k e H v n l){B:Nat}(hB:Blk v B):B<H.next:=by
 obtain⟨h0,⟨rfl,rfl⟩ | ⟨A,cc,cells,g,r,rfl,hA,hg,h2⟩⟩:=h
 ·exact(Blk.nil.1 hB).elim
 ·rw[Blk.slice.1 hB];exact hA
theorem Stk.isCell {k e n:Nat}{H:AH}{v:AV}{l:List AV}(h:Stk k e H v n l):isCell v=true:=h.row.isCell
theorem Stk.room {k:Nat}{cells:List AV}{g:Bool}{cc r:Nat}(hpos:0<k)(hl:cells.length=r*k)(hc:cc=2*r∨(cc=1∧g=true)):roomOf cells g k 0 cc k=r:=by
 rcases hc with rfl | ⟨rfl,rfl⟩
 ·simp only[roomOf,show((2*r) % 2).beq 0=true by rw[Nat.mul_mod_right];rfl,cond_true,Nat.mul_div_cancel_left r (show 0<2 by omega)]
 ·simp only[roomOf,show((1 % 2).beq 0)=false from rfl,cond_false,Nat.beq_refl,show Nat.beq 0 (1 / 2*k)=true from by simp,Bool.and_self,cond_true,lenL_zero,hl,Nat.sub_zero]
  exact Nat.mul_div_cancel _ hpos
theorem Stk.cut {k e n i:Nat}{H:AH}{v:AV}{l:List AV}(h:Stk k e H v n l)(hpos:0<k)(hi:i≤n)(κ:IntKind):
  ∃r,slSl k v none (some (.int κ (i:Nat))) none H=some r∧Stk k e H r i (l.take (i*k))∧ ∀B,Blk r B→Blk v B:=by
 have n1:=natOf_int κ (z:=((i:Nat):Int)) (by omega)
 simp only[Int.toNat_natCast]at n1
 have hb:Nat.blt 0 k=true:=by rw[Nat.blt_eq];exact hpos
 have hmul:i*k≤n*k:=Nat.mul_le_mul_right _ hi
 obtain⟨h0,⟨rfl,rfl⟩ | ⟨A,cc,cells,g,r,rfl,hA,hg,hl,hn,ht,hc⟩⟩:=h
 ·obtain rfl:i=0:=by omega
  exact⟨.nilSlice,by simp only[slSl,natOpt,n1];simp,⟨by simp, .inl ⟨rfl,rfl⟩⟩,fun B hB=>hB⟩
 ·have b1:Nat.ble i r=true:=by rw[Nat.ble_eq];omega
  have b2:Nat.ble 0 i=true:=by rw[Nat.ble_eq];omega
  have hr:=Stk.room hpos hl hc
  have hlt:(l.take (i*k)).length=i*k:=by rw[List.length_take,h0];omega
  have htk:cells.take (i*k)=l.take (i*k):=by rw[← ht,List.take_take,Nat.min_eq_left hmul]
  rcases hc with rfl | ⟨rfl,rfl⟩
  ·refine⟨.slice A 0 i (2*r), ?_,⟨hlt, .inr ⟨A,2*r,cells,g,r,rfl,hA,hg,hl,by omega,htk, .inl rfl⟩⟩,fun B hB=>by rw[Blk.slice.1 hB];exact Blk.slice.2 rfl⟩
   have e2:(2*r) / 2=r:=Nat.mul_div_cancel_left r (show 0<2 by omega)
   simp only[slSl,natOpt,n1,hg,hb,cond_true,acut,hr,Option.getD_none,Option.getD_some,b1,b2,Bool.and_self,show((2*r) % 2).beq 0=true by rw[Nat.mul_mod_right];rfl,fN_eq,Nat.zero_mul,Nat.add_zero,Nat.sub_zero,e2]
   cases Nat.beq r 0<;>rfl
  ·refine⟨.slice A 0 i 1, ?_,⟨hlt, .inr ⟨A,1,cells,true,r,rfl,hA,hg,hl,by omega,htk, .inr ⟨rfl,rfl⟩⟩⟩,fun B hB=>by rw[Blk.slice.1 hB];exact Blk.slice.2 rfl⟩
   simp only[slSl,natOpt,n1,hg,hb,cond_true,acut,hr,Option.getD_none,Option.getD_some,b1,b2,Bool.and_self,show((1 % 2).beq 0)=false from rfl,cond_false,fN_eq,show Nat.beq 0 0=true from rfl]
theorem Stk.app {k e bytes n m:Nat}{H:AH}{v s:AV}{l new:List AV}(hk:H.ok)(hpos:0<k)(h:Stk k e H v n l)(hs:srcOf k s H=some (m,new))(hm:new.length=m*k)(hc:allCells new=true)(hm1:m=1)(hn:n+m≤1000000000)(hb:bytes≤1000):
  ∃v' H',apP e k bytes v s H=some (v',H')∧Stk k e H' v' (n+m) (l++new)∧Stp (Blk v) H H'∧ ∀B,Blk v' B→Blk v B∨H.next≤B:=by
 suffices hx: ∃v' H',app1 e k bytes m new v H=some (v',H')∧Stk k e H' v' (n+m) (l++new)∧Stp (Blk v) H H'∧ ∀B,Blk v' B→Blk v B∨H.next≤B by
  obtain⟨v',H',h1,h2⟩:=hx
  exact⟨v',H',by simp only[apP,hs,hc,cond_true,h1],h2⟩
 have own: ∀ {H':AH},Own k e H' (.slice H.next 0 (n+m) 1) (n+m) (l++new)→Stk k e H' (.slice H.next 0 (n+m) 1) (n+m) (l++new):=fun {H'} ho=>by
  obtain⟨q0,⟨q1,_⟩ | ⟨A,q1,q2,q3⟩⟩:=ho
  ·cases q1
  ·exact⟨q0, .inr ⟨A,1,_,true,n+m,q1,q2,q3,q0,Nat.le_refl _,List.take_of_length_le (by omega), .inr ⟨rfl,rfl⟩⟩⟩
 have h':=h
 obtain⟨h0,⟨rfl,rfl⟩ | ⟨A,cc,cells,g,r,rfl,hA,hg,hl,hnr,ht,hcc⟩⟩:=h
 ·obtain rfl:l=[]:=List.eq_nil_of_length_eq_zero (by simpa using h0)
  obtain⟨H',e1,e2,e3,e4⟩:=app1_own (k:=k) (e:=e) (bytes:=bytes) (new:=new) (n:=0) (m:=m) hk hpos (Own.nil k e H) hm (by omega) hn hb
  exact⟨_,H',e1,own e2,e3,fun B hB=> .inr (by rw[Blk.slice.1 hB];exact Nat.le_refl _)⟩
 ·have hr:=Stk.room hpos hl hcc
  have hmul:=Nat.mul_le_mul_right k hnr
  by_cases hroom:n+m≤r
  ·have b1:Nat.ble (n+m) r=true:=by rw[Nat.ble_eq];exact hroom
   have hz:Nat.blt 0 k=true:=by rw[Nat.blt_eq];exact hpos
   have hmul2:=Nat.mul_le_mul_right k hroom
   rw[Nat.add_mul]at hmul2
   have hset:setAt cells (0+n*k) new=some (cells.take (n*k)++new++cells.drop (n*k+m*k)):=by rw[setAt_some (by omega),hm];simp only[Nat.zero_add]
   have hlen:(cells.take (n*k)).length=n*k:=by rw[ht,h0]
   refine⟨.slice A 0 (n+m) cc,H.put A (.cells (cells.take (n*k)++new++cells.drop (n*k+m*k)) e k g), ?_,⟨by simp[h0,hm,Nat.add_mul], .inr ⟨A,cc,_,g,r,rfl,hA,by rw[AH.put_get,if_pos rfl], ?_,hroom, ?_,hcc⟩⟩,(Stp.refl hk).put hA _ (.inr (Blk.slice.2 rfl)),fun B hB=> .inl (by rw[Blk.slice.1 hB];exact Blk.slice.2 rfl)⟩
   ·simp only[app1,hg,app2,hr,b1,cond_true,hz,hset,appIn,putA_ok,fN_eq]
   ·simp only[List.length_append,hlen,hm,List.length_drop];omega
   ·rw[ht,List.take_append_of_le_length (by simp[h0,hm,Nat.add_mul]),List.take_of_length_le (by simp[h0,hm,Nat.add_mul])]
  ·have b1:Nat.ble (n+m) r=false:=by rw[Bool.eq_false_iff];intro e;rw[Nat.ble_eq]at e;omega
   have hsub:subN cells 0 (n*k)=some l:=by rw[subN_some _ _ _ (.inr (by omega)),List.drop_zero,ht]
   rcases hcc with rfl | ⟨rfl,rfl⟩
   ·refine⟨.slice H.next 0 (n+m) 1,H.push (.cells (l++new) e k true), ?_,own ⟨by simp[h0,hm,Nat.add_mul], .inr ⟨H.next,rfl,Nat.lt_succ_self _,AH.push_get_eq _ _⟩⟩,(Stp.refl hk).push _,fun B hB=> .inr (by rw[Blk.slice.1 hB];exact Nat.le_refl _)⟩
    simp only[app1,hg,app2,hr,b1,cond_false,show((2*r) % 2).beq 0=true by rw[Nat.mul_mod_right];rfl,cond_true,hsub,appGrow,roomy_ok hn hb,agrow,newA_ok hk,fN_eq]
   ·obtain rfl:n=r:=by omega
    have hlen:Nat.beq (0+n*k) (lenL cells 0)=true:=by rw[lenL_zero,hl,Nat.zero_add,Nat.beq_refl]
    have hpd:(H.put A .dead).ok:=hk.put hA _
    refine⟨.slice H.next 0 (n+m) 1,(H.put A .dead).push (.cells (l++new) e k true), ?_,own ⟨by simp[h0,hm,Nat.add_mul], .inr ⟨H.next,rfl,Nat.lt_succ_self _,AH.push_get_eq (H.put A .dead) _⟩⟩,((Stp.refl hk).put hA _ (.inr (Blk.slice.2 rfl))).push _,fun B hB=> .inr (by rw[Blk.slice.1 hB];exact Nat.le_refl _)⟩
    simp only[app1,hg,app2,hr,b1,cond_false,show((1 % 2).beq 0)=false from rfl,hlen,Nat.beq_refl,show Nat.beq 0 (1 / 2*k)=true from by simp,Bool.and_self,cond_true,putA_ok,hsub,appGrow,
     roomy_ok hn hb,agrow,newA_ok hpd,fN_eq,AH.put_next]
end Go.Eng
end
section
namespace Go.Eng.Sh
open Go.Nd (Ptr sumL)
def lpOf (Ab:Nat):ALoop:=⟨.ready,none,26,0,[6],[.ptr Ab 0]⟩
theorem push_ok (D:Dyn)(n:Nat){H:AH}{A Ab cnt:Nat}{v x:AV}{l:List AV}(p:Ptr)(hk:H.ok)(gA:H.h.get A=some (.loop (lpOf Ab)))(hb:Box H Ab v)(hs:Stk 3 72 H v cnt l)(hn:cnt+1≤1000000000)(hv: ¬Blk v Ab):
  ∃H' v',r26_0 D n A (lpOf Ab) [x, .agg (ptrV p)] H=some (.bool true,H')∧H'.h.get A=some (.loop (lpOf Ab))∧Box H' Ab v'∧Stk 3 72 H' v' (cnt+1) (l++ptrV p)∧Stp (fun B=>B=A∨B=Ab∨Blk v B) H H'∧(∀B,Blk v' B→Blk v B∨H.next≤B):=by
 obtain⟨H1,A11,b1,p1,g1,m1,n1⟩:=box hk (.cells [.int .i64 ((0:Nat):Int), .int .i64 ((0:Nat):Int), .int .u64 ((0:Nat):Int)] 72 1 false)
 obtain⟨H2,e2,g2,s2,n2⟩:=st_all p1.ok g1 (l':=ptrV p) rfl rfl
 have e2':stN 3 (.ptr A11 0) (.agg (ptrV p)) H1=some (undefA,H2):=e2
 have N1:=p1.next;have N2:=s2.next
 have p2:Prs H H2:=p1.fresh s2 (fun B hB=>by omega)
 have lA:=hk.lt gA
 have lb:=hb.lt hk
 have gA2:=Prs.get p2 hk gA
 have nA: ¬Blk v A:=fun hB=>by
  obtain⟨_,⟨rfl,_⟩ | ⟨B,cc,cells,g,r,rfl,_,hg,_⟩⟩:=hs
  ·exact Blk.nil.1 hB
  ·rw[Blk.slice.1 hB,hg]at gA;cases gA
 have nbA:Ab≠A:=fun e=>by obtain⟨_,hb⟩:=hb;rw[e,gA]at hb;cases hb
 have s3:Stp (fun B=>B=A) H2 (H2.put A (.loop { lpOf Ab with state:= .busy})):=(Stp.refl p2.ok).put (p2.ok.lt gA2) _ (.inr rfl)
 have g3:(H2.put A (.loop { lpOf Ab with state:= .busy})).h.get A=some (.loop { lpOf Ab with state:= .busy}):=by rw[AH.put_get,if_pos rfl]
 have hbeg: ∀K:AH→Rs,beginK A H2 K=K (H2.put A (.loop { lpOf Ab with state:= .busy})):=fun K=>by
  simp only[beginK,gA2,lpOf,putA_ok]
 generalize H2.put A (.loop { lpOf Ab with state:= .busy})=H3 at s3 g3 hbeg
 have N3:=s3.next
 have b3:Box H3 Ab v:=(hb.mono hk p2 (fun x=>x)).mono p2.ok s3 nbA
 have r3:ldN 3 (.ptr A11 0) H3=some (.agg (ptrV p)):=by rw[ldN_get (show H3.h.get A11=some (.cells (ptrV p) 72 1 false)by rw[s3.keep _ (by omega) (by omega)];exact g2)];rfl
 obtain⟨H4,A8,b4,p4,g4,m4,n4⟩:=box s3.ok (.cells (ptrV p) 72 3 false)
 have hs4:Stk 3 72 H4 v cnt l:=((hs.mono p2 (fun _ _ x=>x)).mono s3 (fun B hB e=>nA (e▸hB))).mono p4 (fun _ _ x=>x)
 have hsrc:srcOf 3 (.slice A8 0 1 2) H4=some (1,ptrV p):=by simp only[srcOf,g4];rfl
 obtain⟨v',H5,e5,hs5,s5,f5⟩:=hs4.app (bytes:=24) (m:=1) p4.ok (by decide) hsrc rfl rfl rfl hn (by decide)
 have b5:Box H5 Ab v:=(b3.mono s3.ok p4 (fun x=>x)).mono p4.ok s5 hv
 obtain⟨H6,e6,b6,s6⟩:=b5.st s5.ok (x:=v') hs5.isCell
 have N4:=p4.next;have N5:=s5.next;have N6:=s6.next
 have g6:H6.h.get A=some (.loop { lpOf Ab with state:= .busy}):=by
  rw[s6.keep _ (by omega) (by omega),s5.keep _ (by omega) nA,p4.keep _ (by omega) (fun x=>x)];exact g3
 have s7:Stp (fun B=>B=A) H6 (H6.put A (.loop (lpOf Ab))):=(Stp.refl s6.ok).put (s6.ok.lt g6) _ (.inr rfl)
 have hend:endR A none H6=some (.bool true,H6.put A (.loop (lpOf Ab))):=by
  simp only[endR,g6,putA_ok,lpOf]
 have nv': ∀B,Blk v' B→B≠A∧B≠Ab:=fun B hB=>by
  rcases f5 B hB with e | e
  ·exact⟨fun e'=>nA (e'▸e),fun e'=>hv (e'▸e)⟩
  ·exact⟨by omega,by omega⟩
 refine⟨H6.put A (.loop (lpOf Ab)),v', ?_,by rw[AH.put_get,if_pos rfl],b6.mono s6.ok s7 nbA,(hs5.mono s6 (fun B hB=>(nv' B hB).2)).mono s7 (fun B hB=>(nv' B hB).1),⟨s7.ok,by have:=s7.next;omega,fun B hB hS=> ?_⟩,fun B hB=> ?_⟩
 ·have hl:eqNL [6] (lpOf Ab).live=true:=rfl
  have hvl:(lpOf Ab).vals=[.ptr Ab 0]:=rfl
  have e1:=bldP 72 p [.int .i64 ((0:Nat):Int), .int .i64 ((0:Nat):Int), .int .u64 ((0:Nat):Int)] rfl
  simp(config:= { maxSteps:=1000000}) (disch:=omega) only[r26_0,ev,lg,wnt_undef,ew,hl,hvl,cond_true,b1,e2',hbeg,b3.ld,r3,e1,b4,e5,e6]
  exact hend
 ·have a1: ¬B=A:=fun e=>hS (.inl e)
  have a2: ¬B=Ab:=fun e=>hS (.inr (.inl e))
  have a3: ¬Blk v B:=fun e=>hS (.inr (.inr e))
  rw[s7.keep B (by omega) a1,s6.keep B (by omega) a2,s5.keep B (by omega) a3,p4.keep B (by omega) (fun x=>x),s3.keep B (by omega) a1,p2.keep B hB (fun x=>x)]
 ·rcases f5 B hB with e | e
  ·exact .inl e
  ·exact .inr (by omega)
theorem callYld (m k:Nat){H:AH}{A Ab:Nat}(gA:H.h.get A=some (.loop (lpOf Ab)))(az:List AV):callV (s114 (dy (m+1)) k).S (dy (m+1)) (.yieldTo A) az H=r26_0 (dy m) m A (lpOf Ab) az H:=by
 show rdOfT (tabR (dy m) m) A az H=_
 simp only[rdOfT,gA]
 rfl
end Go.Eng.Sh
end
section
namespace Go.Eng
theorem newB_push {H:AH}(hk:H.ok)(o:AObj)(K:Nat→AH→Rs):newB H o K=K H.next (H.push o):=newB_ok hk o K
end Go.Eng
namespace Go.Eng.Sh
open Go.Nd (Ptr sumL)
theorem flat_rev_succ (ps:List Ptr)(i:Nat)(hi:i<ps.length):(ps.reverse.take (i+1)).flatMap ptrV=(ps.reverse.take i).flatMap ptrV++ptrV ps[ps.length - 1 - i]:=by
 rw[List.take_succ_eq_append_getElem (by simpa using hi),List.flatMap_append,List.getElem_reverse]
 simp
theorem back_run (m:Nat)(hm:200000000≤m){H:AH}{A Ab Aw cnt:Nat}{v w:AV}{l:List AV}{ps:List Ptr}(hk:H.ok)(gA:H.h.get A=some (.loop (lpOf Ab)))(hb:Box H Ab v)(hs:Stk 3 72 H v cnt l)(hw:Box H Aw w)(hp:Ptrs H w ps)(hn:cnt+ps.length≤100000000)(hv: ¬Blk v Ab)
  (hd: ∀B,Blk w B→ ¬Blk v B) (hd1:Aw≠Ab) (hd2: ¬Blk v Aw) (hd3: ¬Blk w Ab):
  ∃H' v',f114 (dy (m+1)) (m+1) [.yieldTo A, .ptr Aw 0] H=some (.tuple [],H')∧H'.h.get A=some (.loop (lpOf Ab))∧Box H' Ab v'∧Stk 3 72 H' v' (cnt+ps.length) (l++ps.reverse.flatMap ptrV)∧Stp (fun B=>B=A∨B=Ab∨Blk v B) H H'∧(∀B,Blk v' B→Blk v B∨H.next≤B):=by
 obtain⟨z,hz⟩: ∃z:Nat→Int,∀i,z i=((ps.length:Nat):Int) - ((1:Nat):Int) - ((i:Nat):Int):=⟨_,fun _=>rfl⟩
 have lA:=hk.lt gA
 have lb:=hb.lt hk
 have lw:=hw.lt hk
 have neA:Aw≠A:=fun e=>by obtain⟨_,hw⟩:=hw;rw[e,gA]at hw;cases hw
 have wA: ¬Blk w A:=fun hB=>by
  obtain⟨_,⟨rfl,_⟩ | ⟨rfl,_⟩ | ⟨B,o,cc,cells,e,sz,g,rfl,hg,_⟩⟩:=hp
  ·exact Blk.nil.1 hB
  ·obtain⟨_,_,_,hB⟩:=hB;cases hB
  ·rw[Blk.slice.1 hB,hg]at gA;cases gA
 have lp:=loop_inv (b:=f114l0 (dy (m+1)) (m+1)) ps.length (fun i us H'=>us=[.yieldTo A, .ptr Aw 0, .int .i64 (z i)]∧ ∃v',H'.h.get A=some (.loop (lpOf Ab))∧Box H' Ab v'∧Stk 3 72 H' v' (cnt+i) (l++(ps.reverse.take i).flatMap ptrV)∧Stp (fun B=>B=A∨B=Ab∨Blk v B) H H'∧(∀B,Blk v' B→Blk v B∨H.next≤B)) (fun i us H' hi ⟨hus,v',gA',hb',hs',st,hf⟩=>by
  subst hus
  have hzi:=hz i
  have hzi1:=hz (i+1)
  have hj:ps.length - 1 - i<ps.length:=by omega
  have hw':Box H' Aw w:=hw.mono hk st (fun e=>by rcases e with e | e | e;exact neA e;exact hd1 e;exact hd2 e)
  have hp':Ptrs H' w ps:=Rw.stp hp st (fun B hB e=>by
   rcases e with e | e | e
   ·exact wA (e▸hB)
   ·exact hd3 (e▸hB)
   ·exact hd B hB e)
  obtain⟨q,i1,i2⟩:=Ptrs.at hp' hj
  have i1':=i1 .i64 (z i) (by omega)
  have N:=st.next
  obtain⟨H'',v'',e1,gA'',hb'',hs'',st2,hf2⟩:=push_ok (dy m) m (x:= .int .i64 (z i)) ps[ps.length - 1 - i] st.ok gA' hb' hs' (by omega) (fun hB=>by
   rcases hf _ hB with e | e
   ·exact hv e
   ·omega)
  have hge:((0:Nat):Int)≤z i:=by omega
  have hsub:z i - ((1:Nat):Int)=z (i+1):=by omega
  have hwr:IntKind.wrap .i64 (z (i+1))=z (i+1):=by rw[wrap_i64]<;>omega
  refine⟨_,H'', ?_,rfl,v'',gA'',hb'',by rw[flat_rev_succ ps i hi, ← List.append_assoc];exact hs'',⟨st2.ok,by have:=st2.next;omega,fun B hB hS=> ?_⟩,fun B hB=> ?_⟩
  ·simp(config:= { maxSteps:=1000000}) (disch:=omega) only[f114l0,ev,lg,wnt_undef,ew,hge,hw'.ld,i1',i2,callYld m (m+1) gA',e1,hsub,hwr]
  ·rw[st2.keep B (by omega) (fun e=>by
    rcases e with e | e | e
    ·exact hS (.inl e)
    ·exact hS (.inr (.inl e))
    ·rcases hf B e with e | e
     ·exact hS (.inr (.inr e))
     ·omega)]
   exact st.keep B hB hS
  ·rcases hf2 B hB with e | e
   ·exact hf B e
   ·exact .inr (by omega)) (m+1) [.yieldTo A, .ptr Aw 0, .int .i64 (z 0)] H ⟨rfl,v,gA,hb,by simpa using hs,Stp.refl hk,fun B hB=> .inl hB⟩ (by omega)
 obtain⟨k,us,H',e,rfl,v',gA',hb',hs',st,hf⟩:=lp
 rw[show ps.reverse.take ps.length=ps.reverse from List.take_of_length_le (by simp)]at hs'
 refine⟨H',v', ?_,gA',hb',hs',st,hf⟩
 have hzn:=hz ps.length
 have hge: ¬((0:Nat):Int)≤z ps.length:=by omega
 have last:loopK (k+1) (f114l0 (dy (m+1)) (m+1)) [.yieldTo A, .ptr Aw 0, .int .i64 (z ps.length)] H'=some (.exit 0 [],H'):=loop_exit (by simp only[f114l0,ev,lg,wnt_undef,ew,hge])
 have hz0:((ps.length:Nat):Int) - ((1:Nat):Int)=z 0:=by rw[hz];omega
 have hwr:IntKind.wrap .i64 (z 0)=z 0:=by have:=hz 0;rw[wrap_i64]<;>omega
 simp(config:= { maxSteps:=1000000}) (disch:=omega) only[f114,ev,lg,wnt_undef,ew,hw.ld,hp.lnSl,hz0,hwr,e,last,f114b1]
theorem back_ok (m n:Nat)(hm:200000000≤m){H:AH}{Ab cnt:Nat}{v w:AV}{l:List AV}{ps:List Ptr}(hk:H.ok)(hb:Box H Ab v)(hs:Stk 3 72 H v cnt l)(hp:Ptrs H w ps)(hn:cnt+ps.length≤100000000)(hv: ¬Blk v Ab)(hd: ∀B,Blk w B→ ¬Blk v B)(hd3: ¬Blk w Ab):
  ∃H' v',(∀(Kn:AH→Rs) (Kx:AH→Nat→Rs) (Kr:AH→Rs),(bR (f71 (dy (m+2)) n [w] H) fun x85 H=>newB H (.loop ⟨.ready,none,26,0,[6],[.ptr Ab 0]⟩) fun A H=>bR (rfC (s26 (dy (m+2)) n).S (dy (m+2)) x85 A H) fun _ H=>endLp A H fun j H=>jmpK j (Kn H) (Kx H) (Kr H))=Kn H')∧
   Box H' Ab v'∧Stk 3 72 H' v' (cnt+ps.length) (l++ps.reverse.flatMap ptrV)∧Stp (fun B=>B=Ab∨Blk v B) H H'∧(∀B,Blk v' B→Blk v B∨H.next≤B):=by
 have hcw:isCell w=true:=hp.isCell
 obtain⟨H1,Aw,b1,p1,g1,m1,n1⟩:=box hk (.cells [w] 77 1 false)
 have p2:Prs H1 (H1.push (.loop (lpOf Ab))):=(Stp.refl p1.ok).push _
 have g2:(H1.push (.loop (lpOf Ab))).h.get H1.next=some (.loop (lpOf Ab)):=AH.push_get_eq _ _
 have hnew: ∀K:Nat→AH→Rs,newB H1 (.loop ⟨.ready,none,26,0,[6],[.ptr Ab 0]⟩) K=K H1.next (H1.push (.loop (lpOf Ab))):=fun K=>newB_push p1.ok _ K
 have hnx:(H1.push (.loop (lpOf Ab))).next=H1.next+1:=rfl
 generalize H1.push (.loop (lpOf Ab))=H2 at p2 g2 hnew hnx
 have P2:=p1.trans p2
 have lb:=hb.lt hk
 have N1:=p1.next
 obtain⟨H3,v',e3,g3,b3,s3,st3,f3⟩:=back_run m hm P2.ok g2 (hb.mono hk P2 (fun x=>x)) (hs.mono P2 (fun _ _ x=>x)) (w:=w) (Aw:=Aw) ⟨_,Prs.get p2 p1.ok g1⟩ (Rw.stp hp P2 (fun _ _ x=>x)) hn hv hd (by omega) (fun hB=>by have:=hs.lt hB;omega) hd3
 have s4:Stp (fun B=>B=H1.next) H3 (H3.put H1.next .dead):=(Stp.refl st3.ok).put (st3.ok.lt g3) _ (.inr rfl)
 have N2:=p2.next;have N3:=st3.next;have N4:=s4.next
 have nv': ∀B,Blk v' B→B≠H1.next:=fun B hB e=>by
  rcases f3 B hB with e' | e'
  ·have:=hs.lt e';omega
  ·omega
 refine⟨H3.put H1.next .dead,v',fun Kn Kx Kr=> ?_,b3.mono st3.ok s4 (by omega),s3.mono s4 nv',⟨s4.ok,by omega,fun B hB hS=> ?_⟩,fun B hB=> ?_⟩
 ·have hbx: ∀e,bxV e w=some (.cells [w] e 1 false,fun A=> .ptr A 0):=fun e=>by simp only[bxV,cellsA_cell hcw]
  have hf71:f71 (dy (m+2)) n [w] H=some (.func 114 [] [.ptr Aw 0],H1):=by
   simp only[f71,hd_cons,nl_nil,bVs,bRs,hbx,b1]
   rfl
  have hrf:rfC (s26 (dy (m+2)) n).S (dy (m+2)) (.func 114 [] [.ptr Aw 0]) H1.next H2=some (.tuple [],H3):=e3
  have hend: ∀K:Option Code→AH→Rs,endLp H1.next H3 K=K none (H3.put H1.next .dead):=fun K=>by
   simp only[endLp,g3,lpOf,putA_ok]
  simp only[hf71,bR,hnew,hrf,hend,jmpK]
 ·have:=P2.next
  rw[s4.keep B (by omega) (by omega),st3.keep B (by omega) (fun e=>by
   rcases e with e | e | e
   ·omega
   ·exact hS (.inl e)
   ·exact hS (.inr e)),P2.keep B hB (fun x=>x)]
 ·rcases f3 B hB with e | e
  ·exact .inl e
  ·exact .inr (by have:=P2.next;omega)
end Go.Eng.Sh
end
section
namespace Go.Eng.Sh
open Go.Nd (Ptr sumL leafOf Kvs Srt mayK putP delP lookP)
open Go.Bt
def nextP (key:Str)(l:Kvs):Option (Str×Str):=l.find? fun p=> !ltS p.1 key
theorem nextP_app (key:Str)(a b:Kvs):nextP key (a++b)=match nextP key a with | some p=>some p | none=>nextP key b:=by
 simp only[nextP,List.find?_append]
 cases List.find? (fun p=> !ltS p.1 key) a<;>rfl
theorem nextP_low {key:Str}{a:Kvs}(h: ∀p∈a,ltS p.1 key=true):nextP key a=none:=by
 simp only[nextP,List.find?_eq_none]
 intro p hp;simp[h p hp]
theorem nextP_leaf {key:Str} : ∀ {l:Kvs},Srt l→nextP key l=l[Nd.whereN (leafOf l) key]?
 | [],_=>rfl
 | (a,b)::l,h=>by
  rw[Nd.where_cons h]
  simp only[nextP,List.find?_cons]
  cases hb:ltS a key with
  | true=>
   simp only[Bool.not_true,if_true,List.getElem?_cons_succ]
   exact nextP_leaf h.2
  | false=>simp
def Item (q:PN)(p:Ptr)(c:Kvs)(w:Nat):Prop:= ∃s nd h,∃t:Bt.Tr h,∃S lo hi,p=pp s∧lookN s q=some nd∧RepN (Qf q []) h nd t S∧Gen h lo hi t∧(0<h→nd.keys≠[])∧tsize h t≤500∧c=con h t∧w=1+S.length
def Items (q:PN):List Ptr→Kvs→Nat→Prop
 | [],c,w=>c=[]∧w=0
 | p::ps,c,w=> ∃c1 c2 w1 w2,Item q p c1 w1∧Items q ps c2 w2∧c=c1++c2∧w=w1+w2
theorem Items.app {q:PN}{ps':List Ptr}{c':Kvs}{w':Nat}(h':Items q ps' c' w'): ∀ {ps:List Ptr} {c:Kvs} {w:Nat},Items q ps c w→Items q (ps++ps') (c++c') (w+w')
 | [],_,_,⟨e1,e2⟩=>by subst e1;subst e2;simpa using h'
 | p::ps,_,_,⟨c1,c2,w1,w2,a,b,e1,e2⟩=>⟨c1,c2++c',w1,w2+w',a,Items.app h' b,by rw[e1];simp,by omega⟩
theorem Items.len {q:PN} : ∀ {ps:List Ptr} {c:Kvs} {w:Nat},Items q ps c w→ps.length≤w
 | [],_,_,_=>by simp
 | p::ps,_,_,⟨c1,c2,w1,w2,⟨_,_,_,_,_,_,_,_,_,_,_,_,_,_,e⟩,b,e1,e2⟩=>by
  have:=Items.len b
  simp only[List.length_cons];omega
theorem items_of {q:PN}{h:Nat} : ∀ {ps:List Ptr} {ts:List (Bt.Tr h)} {S:List Ptr},RepL (Qf q []) (RepN (Qf q []) h) ps ts S→(∀t∈ts,∃lo hi,WF h lo hi t)→Items q ps (ts.flatMap (con h)) S.length
 | [],[],_,e,_=>by subst e;exact⟨rfl,rfl⟩
 | p::ps,t::ts,_,⟨nd,S1,S2,a,b,c,e⟩,hw=>by
  subst e
  obtain⟨lo,hi,wt⟩:=hw t (List.mem_cons_self ..)
  obtain⟨s,rfl,hs⟩:=Qf_inv a
  have hs:lookN s q=some nd:=by
   rcases hs with hs | ⟨_,hs⟩
   ·simp[lookN]at hs
   ·exact hs
  refine⟨con h t,ts.flatMap (con h),1+S1.length,S2.length,⟨s,nd,h,t,S1,lo,hi,rfl,hs,b,wt.gen,fun hh=> ?_,wt.sz,rfl,rfl⟩,items_of c fun t ht=>hw t (List.mem_cons_of_mem _ ht),by simp,by simp only[List.length_cons,List.length_append];omega⟩
  cases h with
  | zero=>omega
  | succ h=>
   have:=many_keys wt
   rw[b.2.1]
   intro e;rw[e]at this;simp at this
 | [],_::_,_,h,_=>h.elim
 | _::_,[],_,h,_=>h.elim
theorem items_kids {q:PN}{h:Nat}{nd:Nd.Node}{t:Bt.Tr (h+1)}{S:List Ptr}{lo hi:Bd}(key:Str)(rn:RepN (Qf q []) (h+1) nd t S)(g:Gen (h+1) lo hi t):
  ∃c w,Items q (nd.kids.drop (Nd.whereN nd key)) c w∧w≤S.length∧nextP key (con (h+1) t)=nextP key c∧Nd.whereN nd key<nd.kids.length:=by
 obtain⟨r1,r2,r3,r4⟩:=rn
 have hw:Nd.whereN nd key=whereI t.1 key:=whereN_leafless r1 r2 key
 obtain⟨S1,S2,_,x2,rfl⟩:=r4.split (whereI t.1 key)
 have hle:=whereI_le t.1 key
 have hl:=g.2.2.len
 have hkl:=r4.len
 rw[hw]
 refine⟨_,_,items_of x2 fun x hx=> ?_,by simp, ?_,by omega⟩
 ·obtain⟨i,hi,rfl⟩:=List.getElem_of_mem (List.mem_of_mem_drop hx)
  exact⟨_,_,KB.at g.2.2 (List.getElem?_eq_getElem hi)⟩
 ·have hs:=(where_sides (key:=key) (ks:=t.1) (ts:=t.2) g).1
  have:con (h+1) t=(t.2.take (whereI t.1 key)).flatMap (con h)++(t.2.drop (whereI t.1 key)).flatMap (con h):=by
   rw[← List.flatMap_append,List.take_append_drop];rfl
  rw[this,nextP_app,nextP_low hs]
theorem pigeon: ∀(q:PN) (T:List Ptr),T.Nodup→(∀p∈T,∃s nd,p=pp s∧lookN s q=some nd)→T.length≤q.length
 | [],T,_,h=>by
  cases T with
  | nil=>simp
  | cons p T=>obtain⟨s,nd,_,e⟩:=h p (List.mem_cons_self ..);cases e
 | (a,n)::q,T,hn,h=>by
  by_cases hm:pp a∈T
  ·have h1:=pigeon q (T.erase (pp a)) (hn.erase _) fun p hp=>by
    obtain⟨h2,h3⟩:=(List.Nodup.mem_erase_iff hn).1 hp
    obtain⟨s,nd,e,hs⟩:=h p h3
    refine⟨s,nd,e, ?_⟩
    simp only[lookN]at hs
    rw[if_neg (fun e2=>h2 (by rw[e,e2]))]at hs
    exact hs
   rw[List.length_erase_of_mem hm]at h1
   simp only[List.length_cons];omega
  ·have h1:=pigeon q T hn fun p hp=>by
    obtain⟨s,nd,e,hs⟩:=h p hp
    refine⟨s,nd,e, ?_⟩
    simp only[lookN]at hs
    rw[if_neg (fun e2=>hm (by rw[e2, ← e];exact hp))]at hs
    exact hs
   simp only[List.length_cons];omega
theorem root_items {q:PN}{h s:Nat}{nd:Nd.Node}{t:Bt.Tr h}{S:List Ptr}(hs:lookN s q=some nd)(rn:RepN (Qf q []) h nd t S)(wr:WR h t)(nd0:(pp s::S).Nodup):Items q [pp s] (con h t) (1+S.length)∧1+S.length≤q.length:=by
 constructor
 ·refine⟨con h t,[],1+S.length,0,⟨s,nd,h,t,S,none,none,rfl,hs,rn,wr.gen,fun h0=> ?_,wr.sz,rfl,rfl⟩,⟨rfl,rfl⟩,by simp,by omega⟩
  cases h with
  | zero=>omega
  | succ h=>rw[rn.2.1];exact wr.2.1
 ·have:=pigeon q (pp s::S) nd0 fun p hp=>by
   rcases List.mem_cons.1 hp with rfl | hp
   ·exact⟨s,nd,rfl,hs⟩
   ·obtain⟨nd2,h2⟩:=RepN.here rn p hp
    obtain⟨s2,rfl,h3 | ⟨_,h3⟩⟩:=Qf_inv h2
    ·simp[lookN]at h3
    ·exact⟨s2,nd2,rfl,h3⟩
  simp only[List.length_cons]at this;omega
end Go.Eng.Sh
end
section
namespace Go.Eng
theorem Stk.nstr {k e n:Nat}{H:AH}{v:AV}{l:List AV}(h:Stk k e H v n l): ∀a b,v≠ .str a b:=fun a b e=>by
 obtain⟨_,⟨rfl,_⟩ | ⟨_,_,_,_,_,rfl,_⟩⟩:=h<;>cases e
end Go.Eng
namespace Go.Eng.Sh
open Go.Nd (Ptr sumL leafOf Kvs Srt mayK putP delP lookP)
open Go.Bt
theorem flat_len3: ∀l:List Ptr,(l.flatMap ptrV).length=l.length*3
 | []=>rfl
 | p::l=>by
  rw[List.flatMap_cons,List.length_append,flat_len3 l,List.length_cons]
  show 3+l.length*3=_
  omega
def nxR:Option (Str×Str)→AV
 | none=> .tuple [.agg [.str 0 0, .str 0 0], .int .i64 ((5:Nat):Int)]
 | some p=> .tuple [.agg [S p.1,S p.2], .int .i64 ((0:Nat):Int)]
def NI (H4:AH)(q:PN)(kv:Kvs)(key:Str)(At A4 A6 A26 top:Nat)(k:Nat)(us:List AV)(H':AH):Prop:=
 ∃j,∃st:List Ptr,∃v c w,us=[.ptr At 0,S key, .ptr A4 0, .ptr A6 0, .int .i64 ((top:Nat):Int), .int .i64 ((j:Nat):Int)]∧k+j=top∧w≤k∧Stp (fun B=>B=A6∨B=A26) H4 H'∧Box H' A6 v∧Stk 3 72 H' v st.length (st.flatMap ptrV)∧(∀B,Blk v B→B=A26∨H4.next≤B)∧Items q st.reverse c w∧nextP key kv=nextP key c
def NQ (H:AH)(kv:Kvs)(key:Str)(A4 A6:Nat)(e:Ex)(H':AH):Prop:=
 Prs H H'∧(e= .ret (nxR (nextP key kv))∨(e= .exit 0 [.ptr A4 0, .ptr A6 0]∧nextP key kv=none∧(∃v,Box H' A6 v∧lnSl v=some (.int .i64 ((0:Nat):Int)))∧H'.h.get A4=some (.cells [.str 0 0, .str 0 0] 48 1 false)∧H.next≤A4))
theorem next_step (m n:Nat)(hm:200000000≤m)(hn:300000000≤n){H H4:AH}{At M A4 A6 A26:Nat}{dk cch dr:AV}{root:Ptr}{es:List (AV×AV)}{q:PN}{last:Nat}{kv:Kvs}{key:Str}(ti:TI H At M dk cch root es q last dr)(hold: ∀kv∈es,∀B,blkN kv.2 B→B<H.next)(hql:q.length≤90000000)
  (p4:Prs H H4) (m4:H.next≤A4) (m6:H.next≤A6) (m26:H.next≤A26) (l4:A4<H4.next) (l6:A6<H4.next) (l26:A26<H4.next) (n46:A4≠A6) (n426:A4≠A26) (n626:A6≠A26) (g4:H4.h.get A4=some (.cells [.str 0 0, .str 0 0] 48 1 false)):
  ∀k us H',NI H4 q kv key At A4 A6 A26 (8192+q.length) k us H'→Fin (f26l1 (dy (m+2)) n us H') (orN (fun vs' H''=> ∃k',k'<k∧NI H4 q kv key At A4 A6 A26 (8192+q.length) k' vs' H'') (NQ H kv key A4 A6)):=by
 intro k us H' ⟨j,st,v,c,w,hus,hkj,hwk,stp,hbx,hstk,hblk,hit,hnx⟩
 subst hus
 have N4:=p4.next;have N':=stp.next
 have P':Prs H H':=p4.fresh stp (fun B hB=>by rcases hB with e | e<;>omega)
 have g4':H'.h.get A4=some (.cells [.str 0 0, .str 0 0] 48 1 false):=by rw[stp.keep _ l4 (fun e=>by rcases e with e | e<;>omega)];exact g4
 have hst: ∀ {Hx:AH} {l':List AV},Prs H Hx→Hx.h.get A4=some (.cells [.str 0 0, .str 0 0] 48 1 false)→l'.length=2→allCells l'=true→ ∃Hy,stN 2 (.ptr A4 0) (.agg l') Hx=some (undefA,Hy)∧ldN 2 (.ptr A4 0) Hy=some (.agg l')∧Prs H Hy:=fun {Hx l'} px gx hl hc=>by
  obtain⟨Hy,e,g,s,_⟩:=st_all px.ok gx (l':=l') hl hc
  refine⟨Hy,e, ?_,px.fresh s (fun B hB=>by omega)⟩
  rw[ldN_get g,subN_some _ _ _ (.inr (by omega)),List.drop_zero,List.take_of_length_le (by omega)];rfl
 have hlen:=hit.len
 rw[List.length_reverse]at hlen
 by_cases hj:((j:Nat):Int)< ((8192+q.length:Nat):Int)
 ·rcases List.eq_nil_or_concat st with rfl | ⟨st',p,rfl⟩
  ·
   obtain⟨rfl,rfl⟩:=hit
   have hnone:nextP key kv=none:=by rw[hnx];rfl
   obtain⟨Hy,e1,e2,py⟩:=hst P' g4' (l':=[.str 0 0, .str 0 0]) rfl rfl
   refine⟨.ret (nxR (nextP key kv)),Hy, ?_,py, .inl rfl⟩
   have hl0:lnSl v=some (.int .i64 ((0:Nat):Int)):=hstk.row.lnSl
   have bs:bldS [(0,1),(1,1)] [.str 0 0, .str 0 0] []=some (.agg [.str 0 0, .str 0 0]):=rfl
   rw[hnone]
   simp(config:= { maxSteps:=1000000}) (disch:=omega) only[f26l1,ev,lg,wnt_undef,ew,hj,hbx.ld,hl0,bs,e1,e2,nxR]
  ·rw[List.concat_eq_append]at*
   have hlst:(st'++[p]).length=st'.length+1:=by simp
   rw[hlst]at hstk hlen
   rw[List.reverse_append,List.reverse_singleton,List.singleton_append]at hit
   obtain⟨c1,c2,w1,w2,⟨s,nd,h,t,S0,lo,hi,rfl,hs,rn,gen,hne,hz,rfl,rfl⟩,hit2,rfl,rfl⟩:=hit
   have ti':=ti.prs P'
   obtain⟨q1,i1,i2⟩:=Rw.ldN hstk.row (i:=st'.length) (by omega)
   have htop:((st'++[pp s]).flatMap ptrV).drop (st'.length*3)=ptrV (pp s):=by
    rw[List.flatMap_append,List.drop_append_of_le_length (by rw[flat_len3];omega),List.drop_of_length_le (by rw[flat_len3];omega)];simp
   rw[htop,show(ptrV (pp s)).take 3=ptrV (pp s)from rfl]at i2
   have lv1:lnSl v=some (.int .i64 ((st'.length+1:Nat):Int)):=hstk.row.lnSl
   have hnz: ¬((st'.length+1:Nat):Int)=((0:Nat):Int):=by omega
   have hsub:((st'.length+1:Nat):Int) - ((1:Nat):Int)=((st'.length:Nat):Int):=by omega
   obtain⟨v1,H5,e5,p5,hg5,kk,hmem⟩:=read_ok (dy (m+2)) n ti' hs
   obtain⟨ks,vs0,ps,rfl,_⟩:=id hg5
   obtain⟨H6,A7,b6,p6,g6,m6',n6⟩:=box p5.ok (.cells [.bool false, .nilSlice, .nilSlice, .nilSlice] 133 1 false)
   have hcell:allCells [.bool nd.leaf,ks,vs0,ps]=true:=by obtain⟨_,h1,_,h3⟩:=node_head hg5;exact h3
   obtain⟨H7,e7,g7,s7,n7⟩:=st_all p6.ok g6 (l':=[.bool nd.leaf,ks,vs0,ps]) rfl hcell
   have e7':stN 4 (.ptr A7 0) (.agg [.bool nd.leaf,ks,vs0,ps]) H6=some (undefA,H7):=e7
   have N5:=p5.next;have N6:=p6.next;have N7:=s7.next
   have P7:Prs H' H7:=(p5.trans p6).fresh s7 (fun B hB=>by omega)
   have hg7:NodeG H7 (.agg [.bool nd.leaf,ks,vs0,ps]) nd:=(hg5.prs p6).stp s7 (fun B hB e=>by have:=hg5.lt hB;omega)
   have x7:Box H7 A6 v:=hbx.mono stp.ok P7 (fun x=>x)
   have hstk7:=hstk.mono P7 (fun _ _ x=>x)
   obtain⟨r,c8,hr,hrb⟩:=hstk7.cut (i:=st'.length) (by decide) (by omega) .i64
   have htk:((st'++[pp s]).flatMap ptrV).take (st'.length*3)=st'.flatMap ptrV:=by
    rw[List.flatMap_append,List.take_append_of_le_length (by rw[flat_len3];omega),List.take_of_length_le (by rw[flat_len3];omega)]
   rw[htk]at hr
   obtain⟨H8,e8,x8,s8⟩:=x7.st P7.ok (x:=r) hr.isCell
   have N8:=s8.next
   have g78:H8.h.get A7=some (.cells [.bool nd.leaf,ks,vs0,ps] 133 1 false):=by rw[s8.keep _ (by omega) (by omega)];exact g7
   obtain⟨e6,x7g⟩:=id x7
   have hg8:NodeG H8 (.agg [.bool nd.leaf,ks,vs0,ps]) nd:=hg7.stp s8 (fun B hB e=>by
    subst e
    exact hg7.nblk x7g (.inl ⟨_,_,_,_,rfl,hstk.nstr⟩) hB)
   have hsm:small nd:=size_small (by rw[rn.size];omega)
   obtain⟨H9,e9,p9⟩:=where_ok (dy (m+2)) n (by omega) s8.ok (key:=key) hg8.node hsm
   have N9:=p9.next
   have g79:=Prs.get p9 s8.ok g78
   obtain⟨ks',vs',ps',ee,k1,k2,k3⟩:=hg8.prs p9
   simp only[AV.agg.injEq,List.cons.injEq,and_true,true_and]at ee
   obtain⟨rfl,rfl,rfl⟩:=ee
   have S9:Stp (fun B=>B=A6∨B=A26) H4 H9:=⟨p9.ok,by omega,fun B hB hS=>by
    have a6: ¬B=A6:=fun e=>hS (.inl e)
    rw[p9.keep B (by omega) (fun x=>x),s8.keep B (by omega) a6,P7.keep B (by omega) (fun x=>x)];exact stp.keep B hB hS⟩
   have P9:Prs H H9:=p4.fresh S9 (fun B hB=>by rcases hB with e | e<;>omega)
   have g49:H9.h.get A4=some (.cells [.str 0 0, .str 0 0] 48 1 false):=by rw[S9.keep _ l4 (fun e=>by rcases e with e | e<;>omega)];exact g4
   have x9:Box H9 A6 r:=x8.mono s8.ok p9 (fun x=>x)
   have hrb': ∀B,Blk r B→B=A26∨H4.next≤B:=fun B hB=>hblk B (hrb B hB)
   have rA6: ¬Blk r A6:=fun hB=>by rcases hrb' A6 hB with e | e<;>omega
   have hr9:Stk 3 72 H9 r st'.length (st'.flatMap ptrV):=(hr.mono s8 (fun B hB e=>rA6 (e▸hB))).mono p9 (fun _ _ x=>x)
   have f0:ld1 (.ptr A7 0) H9=some (.bool nd.leaf):=by rw[ld1_get g79];rfl
   have f1:ld1 (.ptr A7 1) H9=some ks:=by rw[ld1_get g79];rfl
   have f2:ld1 (.ptr A7 2) H9=some vs0:=by rw[ld1_get g79];rfl
   have f3:ld1 (.ptr A7 3) H9=some ps:=by rw[ld1_get g79];rfl
   have t00: ¬(((0:Nat):Int)≠((0:Nat):Int)):=by omega
   have hj1:((j:Nat):Int)+((1:Nat):Int)=((j+1:Nat):Int):=by omega
   cases h with
   | zero=>
    obtain⟨rfl,rfl⟩:=rn
    obtain⟨wi,hwi⟩: ∃wi,wi=Nd.whereN (leafOf t) key:=⟨_,rfl⟩
    have hlf:(leafOf (t:Kvs)).leaf=true:=rfl
    have hkl:(leafOf (t:Kvs)).keys.length=List.length (t:Kvs):=List.length_map ..
    have hvl:(leafOf (t:Kvs)).vals.length=List.length (t:Kvs):=List.length_map ..
    have hnl:=nextP_leaf (key:=key) (l:=t) gen.1
    have hwle:=Nd.whereN_le (leafOf (t:Kvs)) key
    rw[← hwi]at e9 hnl hwle
    rw[hlf]at f0
    by_cases hin:wi< (leafOf (t:Kvs)).keys.length
    ·have hin':wi<List.length (t:Kvs):=by omega
     have hinv:wi< (leafOf (t:Kvs)).vals.length:=by omega
     obtain⟨qk,ik,ik'⟩:=Strs.at k1.row hin
     obtain⟨qv,iv,iv'⟩:=Strs.at (l:=(leafOf (t:Kvs)).vals) k2.row hinv
     have hgk:(leafOf (t:Kvs)).keys[wi]=(List.get (t:Kvs) ⟨wi,hin'⟩).1:=List.getElem_map ..
     have hgv:(leafOf (t:Kvs)).vals[wi]=(List.get (t:Kvs) ⟨wi,hin'⟩).2:=List.getElem_map ..
     have hsome:nextP key kv=some ((leafOf (t:Kvs)).keys[wi],(leafOf (t:Kvs)).vals[wi]):=by
      rw[hnx,nextP_app,show nextP key (con 0 t)=some (List.get (t:Kvs) ⟨wi,hin'⟩)from hnl.trans (List.getElem?_eq_getElem hin'),hgk,hgv]
     obtain⟨Hy,y1,y2,py⟩:=hst P9 g49 (l':=[S (leafOf (t:Kvs)).keys[wi],S (leafOf (t:Kvs)).vals[wi]]) rfl rfl
     refine⟨.ret (nxR (nextP key kv)),Hy, ?_,py, .inl rfl⟩
     have hlt:((wi:Nat):Int)< (((leafOf (t:Kvs)).keys.length:Nat):Int):=by omega
     have bs: ∀a b:Str,bldS [(0,1),(1,1)] [.str 0 0, .str 0 0] [(0,S a),(1,S b)]=some (.agg [S a,S b]):=fun _ _=>rfl
     rw[hsome]
     simp(config:= { maxSteps:=1000000}) (disch:=omega) only[f26l1,ev,lg,wnt_undef,ew,hj,hbx.ld,lv1,hnz,hsub,i1,i2,e5,pExtract,nth,b6,e7',t00,x7.ld,c8,e8,agg4 g78 rfl,e9,f0,f1,k1.row.lnSl,hlt,ik,ik',f2,iv,iv',bs,y1,y2,nxR]
    ·have hsome:nextP key kv=nextP key c2:=by
      rw[hnx,nextP_app,show nextP key (con 0 t)=none from hnl.trans (List.getElem?_eq_none (by omega))]
     refine⟨.norm _,H9, ?_,k - 1,by omega,j+1,st',r,c2,w2,rfl,by omega,by simp only[List.length_nil]at hwk;omega,S9,x9,hr9,hrb',hit2,hsome⟩
     have hlt: ¬((wi:Nat):Int)< (((leafOf (t:Kvs)).keys.length:Nat):Int):=by omega
     simp(config:= { maxSteps:=1000000}) (disch:=omega) only[f26l1,ev,lg,wnt_undef,ew,hj,hbx.ld,lv1,hnz,hsub,i1,i2,e5,pExtract,nth,b6,e7',t00,x7.ld,c8,e8,agg4 g78 rfl,e9,f0,f1,k1.row.lnSl,hlt,f26j0,hj1]
   | succ h=>
    obtain⟨c1,w1,hk1,hw1,hn1,hin⟩:=items_kids key rn gen
    obtain⟨wi,hwi⟩: ∃wi,wi=Nd.whereN nd key:=⟨_,rfl⟩
    rw[← hwi]at e9 hk1 hin
    rw[rn.1]at f0
    obtain⟨rw3,c10,hrw⟩:=lo3 k3 (i:=wi) (by omega) (by omega)
    have hkids: ∀B,Blk rw3 B→B<H.next:=fun B hB=>hold _ hmem B (blkN_mk.2 (.inr (.inr (slSl_blk c10 B hB))))
    have hnew:Items q (st'++(nd.kids.drop wi).reverse).reverse (c1++c2) (w1+w2):=by
     rw[List.reverse_append,List.reverse_reverse];exact hit2.app hk1
    have hnl:=hnew.len
    rw[List.length_reverse,List.length_append,List.length_reverse]at hnl
    have N0:=stp.next
    obtain⟨H10,v',hback,x10,hs10,st10,f10⟩:=back_ok m n hm p9.ok x9 hr9 hrw (by omega) rA6 (fun B hB hB'=>by
     have:=hkids B hB
     rcases hrb' B hB' with e | e<;>omega) (fun hB=>by have:=hkids _ hB;omega)
    have hsome:nextP key kv=nextP key (c1++c2):=by rw[hnx,nextP_app,nextP_app,hn1]
    refine⟨.norm _,H10, ?_,k - 1,by omega,j+1,st'++(nd.kids.drop wi).reverse,v',c1++c2,w1+w2,rfl,by omega,by omega,⟨st10.ok,by have:=st10.next;omega,fun B hB hS=> ?_⟩,x10, ?_,fun B hB=> ?_,hnew,hsome⟩
    ·simp(config:= { maxSteps:=1000000}) (disch:=omega) only[f26l1,ev,lg,wnt_undef,ew,hj,hbx.ld,lv1,hnz,hsub,i1,i2,e5,pExtract,nth,b6,e7',t00,x7.ld,c8,e8,agg4 g78 rfl,e9,f0,f3,c10,hback,f26j0,hj1]
    ·rw[st10.keep B (by omega) (fun e=>by
      rcases e with e | e
      ·exact hS (.inl e)
      ·rcases hrb' B e with e | e
       ·exact hS (.inr e)
       ·omega)]
     exact S9.keep B hB hS
    ·rw[List.length_append,List.length_reverse,List.flatMap_append];exact hs10
    ·rcases f10 B hB with e | e
     ·exact hrb' B e
     ·exact .inr (by omega)
 ·
  have hk0:k=0:=by omega
  have hst0:st=[]:=List.eq_nil_of_length_eq_zero (by omega)
  subst hst0
  obtain⟨rfl,rfl⟩:=hit
  refine⟨.exit 0 [.ptr A4 0, .ptr A6 0],H', ?_,P', .inr ⟨rfl,by rw[hnx];rfl,⟨v,hbx,hstk.row.lnSl⟩,g4',m4⟩⟩
  simp(config:= { maxSteps:=1000000}) (disch:=omega) only[f26l1,ev,lg,wnt_undef,ew,hj]
end Go.Eng.Sh
end
section
namespace Go.Eng.Sh
open Go.Nd (Ptr sumL leafOf Kvs Srt mayK putP delP lookP)
open Go.Bt
theorem TI.hold {H:AH}{At M last:Nat}{d c dr:AV}{root:Ptr}{es:List (AV×AV)}{q:PN}(ti:TI H At M d c root es q last dr): ∀kv∈es,∀B,blkN kv.2 B→B<H.next:=fun kv hkv B hB=>by
 obtain⟨nd2,hn2⟩:=ti.pq.mem kv hkv
 exact hn2.lt hB
theorem next_ok (m n:Nat)(hm:200000000≤m)(hn:300000000≤n){H:AH}{At M L:Nat}{kv:Kvs}(key:Str)(t:TreeI H At M L kv)(hL:L≤90000000):
  ∃H',f26 (dy (m+2)) n [.ptr At 0,S key] H=some (nxR (nextP key kv),H')∧Prs H H':=by
 obtain⟨d,c,_,root,es,q,last,rfl,hc,ti,h2,h3,h4,h5⟩:=id t
 obtain⟨H1,A4,b1,p1,g1,m1,n1⟩:=box ti.ok (.cells [.str 0 0, .str 0 0] 48 1 false)
 have ti1:=ti.prs p1
 have hno:=none_ok (dy (m+2)) n ti1
 have l2':ld1 (.ptr At 2) H1=some (.int .i64 root.at_):=by rw[ld1_get ti1.gT];rfl
 have bs:bldS [(0,1),(1,1)] [.str 0 0, .str 0 0] []=some (.agg [.str 0 0, .str 0 0]):=rfl
 rcases h5 with⟨rfl,rfl⟩ | ⟨s,h,nd,tr,S0,rfl,hs,rn,wr,nd0,rfl⟩
 ·have hroot:pZ.at_=((0:Nat):Int):=rfl
  rw[hroot]at l2'
  obtain⟨H2,e2,g2,s2,_⟩:=st_all p1.ok g1 (l':=[.str 0 0, .str 0 0]) rfl rfl
  have e2':stN 2 (.ptr A4 0) (.agg [.str 0 0, .str 0 0]) H1=some (undefA,H2):=e2
  have r2:ldN 2 (.ptr A4 0) H2=some (.agg [.str 0 0, .str 0 0]):=by rw[ldN_get g2];rfl
  refine⟨H2, ?_,p1.fresh s2 (fun B hB=>by omega)⟩
  have hnx:nextP key []=none:=rfl
  rw[hnx]
  simp(config:= { maxSteps:=1000000}) (disch:=omega) only[f26,ev,lg,wnt_undef,ew,b1,hno,l2',bs,e2',r2,nxR]
 ·have hroot:(pp s).at_=((1:Nat):Int):=rfl
  rw[hroot]at l2'
  have h10: ¬((1:Nat):Int)=((0:Nat):Int):=by omega
  obtain⟨hit,hpig⟩:=root_items hs rn wr nd0
  have lr:ldN 3 (.ptr At 2) H1=some (.agg (ptrV (pp s))):=by rw[ldN_get ti1.gT];rfl
  obtain⟨H2,A26,b2,p2,g2,m2,n2⟩:=box p1.ok (.cells (ptrV (pp s)) 72 3 false)
  obtain⟨H3,A6,b3,p3,g3,m3,n3⟩:=box p2.ok (.cells [.nilSlice] 77 1 false)
  obtain⟨H4,e4,x4,s4⟩:=Box.st (⟨_,g3⟩:Box H3 A6 .nilSlice) p3.ok (x:= .slice A26 0 1 2) rfl
  have N1:=p1.next;have N2:=p2.next;have N3:=p3.next;have N4:=s4.next
  have P13:=(p1.trans p2).trans p3
  have P4:Prs H H4:=P13.fresh s4 (fun B hB=>by omega)
  have ti4:=ti.prs P4
  have hmost:=most_ok (dy (m+2)) n ti4
  have g264:H4.h.get A26=some (.cells (ptrV (pp s)) 72 3 false):=by rw[s4.keep _ (by omega) (by omega)];exact Prs.get p3 p2.ok g2
  have g44:H4.h.get A4=some (.cells [.str 0 0, .str 0 0] 48 1 false):=by rw[s4.keep _ (by omega) (by omega)];exact Prs.get (p2.trans p3) p1.ok g1
  have hstk:Stk 3 72 H4 (.slice A26 0 1 2) [pp s].length ([pp s].flatMap ptrV):=⟨rfl, .inr ⟨A26,2,ptrV (pp s),false,1,rfl,by omega,g264,rfl,Nat.le_refl _,rfl, .inl rfl⟩⟩
  obtain⟨e,H5,e5,p5,hend⟩:=Fin.loop (NI H4 q (con h tr) key At A4 A6 A26 (8192+q.length)) (next_step m n hm hn ti ti.hold (by omega) P4 m1 (by omega) (by omega) (by omega) (by omega) (by omega) (by omega) (by omega) (by omega) g44) n (8192+q.length) [.ptr At 0,S key, .ptr A4 0, .ptr A6 0, .int .i64 ((8192+q.length:Nat):Int), .int .i64 ((0:Nat):Int)] H4
   ⟨0,[pp s], .slice A26 0 1 2,con h tr,1+S0.length,rfl,by omega,by omega,Stp.refl s4.ok,x4,hstk,fun B hB=> .inl (Blk.slice.1 hB),by simpa using hit,rfl⟩ (by omega)
  have e1:=bldP 72 (pp s) [.int .i64 ((0:Nat):Int), .int .i64 ((0:Nat):Int), .int .u64 ((0:Nat):Int)] rfl
  have lr1:lr=lr:=rfl
  have e4':stN 1 (.ptr A6 0) (.slice A26 0 1 2) H3=some (undefA,H4):=e4
  rcases hend with rfl | ⟨rfl,hnone,⟨v,xv,lv⟩,g45,_⟩
  ·refine⟨H5, ?_,p5⟩
   simp(config:= { maxSteps:=1000000}) (disch:=omega) only[f26,ev,lg,wnt_undef,ew,b1,hno,l2',h10,lr,e1,b2,cbx,show cellsA .nilSlice=[.nilSlice]from rfl,b3,e4',hmost,e5]
  ·obtain⟨H6,e6,g6,s6,_⟩:=st_all p5.ok g45 (l':=[.str 0 0, .str 0 0]) rfl rfl
   have e6':stN 2 (.ptr A4 0) (.agg [.str 0 0, .str 0 0]) H5=some (undefA,H6):=e6
   have r6:ldN 2 (.ptr A4 0) H6=some (.agg [.str 0 0, .str 0 0]):=by rw[ldN_get g6];rfl
   refine⟨H6, ?_,p5.fresh s6 (fun B hB=>by omega)⟩
   rw[hnone]
   simp(config:= { maxSteps:=1000000}) (disch:=omega) only[f26,ev,lg,wnt_undef,ew,b1,hno,l2',h10,lr,e1,b2,cbx,show cellsA .nilSlice=[.nilSlice]from rfl,b3,e4',hmost,e5,f26b2,xv.ld,lv,bs,e6',r6,nxR]
end Go.Eng.Sh
end
section
namespace Go.Eng.Sh
open Go.Nd (Ptr sumL leafOf Kvs Srt mayK putP delP lookP)
open Go.Bt
def geR:Option Str→AV
 | none=> .tuple [.str 0 0, .int .i64 ((5:Nat):Int)]
 | some v=> .tuple [S v, .int .i64 ((0:Nat):Int)]
theorem look_kid {h:Nat}{lo hi:Bd}{key:Str}{t:Bt.Tr (h+1)}(g:Gen (h+1) lo hi t){x:Bt.Tr h}(hx:t.2[whereI t.1 key]? =some x):lookP key (con (h+1) t)=lookP key (con h x):=by
 obtain⟨sA,sB⟩:=where_sides (key:=key) (ks:=t.1) (ts:=t.2) g
 have:con (h+1) t=(t.2.take (whereI t.1 key)).flatMap (con h)++con h x++(t.2.drop (whereI t.1 key+1)).flatMap (con h):=by
  have e:t.2=t.2.take (whereI t.1 key)++[x]++t.2.drop (whereI t.1 key+1):=split_at hx
  simp only[con]
  conv=>lhs;rw[e]
  simp only[List.flatMap_append,List.flatMap_cons,List.flatMap_nil,List.append_nil]
 rw[this,look_mid sA sB]
def GI (H4:AH)(q:PN)(kv:Kvs)(key:Str)(At A6 top:Nat)(k:Nat)(us:List AV)(H':AH):Prop:=
 ∃j s nd h,∃t:Bt.Tr h,∃(S0:List Ptr) (lo hi:Bd),us=[.ptr At 0,S key, .ptr A6 0, .int .i64 ((top:Nat):Int), .int .i64 ((j:Nat):Int)]∧k+j=top∧h<k∧Stp (fun B=>B=A6) H4 H'∧H'.h.get A6=some (.cells (ptrV (pp s)) 72 1 false)∧lookN s q=some nd∧RepN (Qf q []) h nd t S0∧Gen h lo hi t∧tsize h t≤500∧lookP key kv=lookP key (con h t)
def GQ (H:AH)(kv:Kvs)(key:Str)(e:Ex)(H':AH):Prop:=Prs H H'∧e= .ret (geR (lookP key kv))
theorem get_step (D:Dyn)(n:Nat)(hn:300000000≤n){H H4:AH}{At M A6:Nat}{dk cch dr:AV}{root:Ptr}{es:List (AV×AV)}{q:PN}{last:Nat}{kv:Kvs}{key:Str}(ti:TI H At M dk cch root es q last dr)(hql:q.length≤90000000)(p4:Prs H H4)(m6:H.next≤A6)(l6:A6<H4.next):
  ∀k us H',GI H4 q kv key At A6 (8192+q.length) k us H'→Fin (f27l0 D n us H') (orN (fun vs' H''=> ∃k',k'<k∧GI H4 q kv key At A6 (8192+q.length) k' vs' H'') (GQ H kv key)):=by
 intro k us H' ⟨j,s,nd,h,t,S0,lo,hi,hus,hkj,hhk,stp,gA6,hs,rn,gen,hz,hlk⟩
 subst hus
 have N4:=p4.next;have N':=stp.next
 have P':Prs H H':=p4.fresh stp (fun B hB=>by omega)
 have ti':=ti.prs P'
 have hj:((j:Nat):Int)< ((8192+q.length:Nat):Int):=by omega
 have i2:ldN 3 (.ptr A6 0) H'=some (.agg (ptrV (pp s))):=by rw[ldN_get gA6];rfl
 obtain⟨v1,H5,e5,p5,hg5,_,_⟩:=read_ok D n ti' hs
 obtain⟨ks,vs0,ps,rfl,_⟩:=id hg5
 obtain⟨H6,A7,b6,p6,g6,m6',n6⟩:=box p5.ok (.cells [.bool false, .nilSlice, .nilSlice, .nilSlice] 133 1 false)
 have hcell:allCells [.bool nd.leaf,ks,vs0,ps]=true:=by obtain⟨_,h1,_,h3⟩:=node_head hg5;exact h3
 obtain⟨H7,e7,g7,s7,n7⟩:=st_all p6.ok g6 (l':=[.bool nd.leaf,ks,vs0,ps]) rfl hcell
 have e7':stN 4 (.ptr A7 0) (.agg [.bool nd.leaf,ks,vs0,ps]) H6=some (undefA,H7):=e7
 have N5:=p5.next;have N6:=p6.next;have N7:=s7.next
 have P7:Prs H' H7:=(p5.trans p6).fresh s7 (fun B hB=>by omega)
 have hg7:NodeG H7 (.agg [.bool nd.leaf,ks,vs0,ps]) nd:=(hg5.prs p6).stp s7 (fun B hB e=>by have:=hg5.lt hB;omega)
 have hsm:small nd:=size_small (by rw[rn.size];omega)
 have f0:ld1 (.ptr A7 0) H7=some (.bool nd.leaf):=by rw[ld1_get g7];rfl
 have t00: ¬(((0:Nat):Int)≠((0:Nat):Int)):=by omega
 have hj1:((j:Nat):Int)+((1:Nat):Int)=((j+1:Nat):Int):=by omega
 cases h with
 | zero=>
  obtain⟨rfl,rfl⟩:=rn
  have hlf:(leafOf (t:Kvs)).leaf=true:=rfl
  rw[hlf]at f0
  obtain⟨H8,e8,p8⟩:=getNd_ok D n (by omega) P7.ok (key:=key) hg7.node hsm
  have hgl:Nd.getN (leafOf (t:Kvs)) key=lookP key kv:=by rw[hlk];exact Nd.get_leaf _ _
  rw[hgl]at e8
  refine⟨.ret (geR (lookP key kv)),H8, ?_,P'.trans (P7.trans p8),rfl⟩
  cases hl:lookP key kv with
  | none=>
   rw[hl]at e8
   simp(config:= { maxSteps:=1000000}) (disch:=omega) only[f27l0,ev,lg,wnt_undef,ew,hj,i2,e5,pExtract,nth,b6,e7',t00,f0,agg4 g7 rfl,e8,Option.isSome_none,geR]
  | some v=>
   rw[hl]at e8
   simp(config:= { maxSteps:=1000000}) (disch:=omega) only[f27l0,ev,lg,wnt_undef,ew,hj,i2,e5,pExtract,nth,b6,e7',t00,f0,agg4 g7 rfl,e8,Option.isSome_some,Option.getD_some,geR]
 | succ h=>
  obtain⟨r1,r2,r3,r4⟩:=id rn
  rw[r1]at f0
  obtain⟨H8,e8,p8⟩:=where_ok D n (by omega) P7.ok (key:=key) hg7.node hsm
  have hw:Nd.whereN nd key=whereI t.1 key:=whereN_leafless r1 r2 key
  rw[hw]at e8
  have hle:=whereI_le t.1 key
  have hl:=gen.2.2.len
  have hil:whereI t.1 key<t.2.length:=by omega
  have htk:=List.getElem?_eq_getElem hil
  have hlook:=look_kid (key:=key) gen htk
  have wk:=KB.at gen.2.2 htk
  obtain⟨pk,ndk,Sa,Si,Sb,k1,k2,k3,_,_,_⟩:=r4.at htk
  obtain⟨sk,rfl,hsk⟩:=Qf_inv k2
  have hsk:lookN sk q=some ndk:=by
   rcases hsk with hsk | ⟨_,hsk⟩
   ·simp[lookN]at hsk
   ·exact hsk
  generalize whereI t.1 key=wi at*
  have hg8:=hg7.prs p8
  obtain⟨ks',vs',ps',ee,j1,j2,j3⟩:=hg8
  simp only[AV.agg.injEq,List.cons.injEq,and_true,true_and]at ee
  obtain⟨rfl,rfl,rfl⟩:=ee
  have hkl:=r4.len
  obtain⟨qk,ik,ik'⟩:=Ptrs.at (l:=nd.kids) j3.row (i:=wi) (by omega)
  have hkk:nd.kids[wi]'(by omega)=pp sk:=by
   rw[List.getElem?_eq_getElem (by omega)]at k1;exact Option.some.inj k1
  rw[hkk]at ik'
  have N8:=p8.next
  have f3:ld1 (.ptr A7 3) H7=some ps:=by rw[ld1_get g7];rfl
  have f3':ld1 (.ptr A7 3) H8=some ps:=by rw[ld1_get (Prs.get p8 P7.ok g7)];rfl
  have gA68:H8.h.get A6=some (.cells (ptrV (pp s)) 72 1 false):=Prs.get (P7.trans p8) stp.ok gA6
  obtain⟨H9,e9,g9,s9,_⟩:=st_all p8.ok gA68 (l':=ptrV (pp sk)) rfl rfl
  have e9':stN 3 (.ptr A6 0) (.agg (ptrV (pp sk))) H8=some (undefA,H9):=e9
  have N9:=s9.next
  refine⟨.norm _,H9, ?_,k - 1,by omega,j+1,sk,ndk,h,t.2[wi],Si,_,_,rfl,by omega,by omega,⟨s9.ok,by omega,fun B hB hS=> ?_⟩,g9,hsk,k3,wk.gen,wk.sz,by rw[hlk,hlook]⟩
  ·simp(config:= { maxSteps:=1000000}) (disch:=omega) only[f27l0,ev,lg,wnt_undef,ew,hj,i2,e5,pExtract,nth,b6,e7',t00,f0,f3,agg4 g7 rfl,e8,chk_ok f3' (aveq_row j3.row),ik,ik',e9',hj1]
  ·rw[s9.keep B (by omega) hS,p8.keep B (by omega) (fun x=>x),P7.keep B (by omega) (fun x=>x)];exact stp.keep B hB hS
theorem getT_ok (m n:Nat)(hn:300000000≤n){H:AH}{At M L:Nat}{kv:Kvs}(key:Str)(t:TreeI H At M L kv)(hL:L≤90000000)(hkv:kv.length≤1000000000):
  ∃H',f27 (dy m) n [.ptr At 0,S key] H=some (if mayK key then geR (lookP key kv)else .tuple [.str 0 0, .int .i64 ((1:Nat):Int)],H')∧Prs H H':=by
 obtain⟨d,c,_,root,es,q,last,rfl,hc,ti,h2,h3,h4,h5⟩:=id t
 have hno:=none_ok (dy m) n ti
 by_cases hp:mayK key=true
 ·have hp1:=hp
  simp only[Nd.mayK,Bool.and_eq_true,decide_eq_true_eq]at hp1
  have a1: ¬((key.length:Nat):Int)< ((1:Nat):Int):=by omega
  have a2: ¬((40:Nat):Int)< ((key.length:Nat):Int):=by omega
  have l2':ld1 (.ptr At 2) H=some (.int .i64 root.at_):=by rw[ld1_get ti.gT];rfl
  rw[if_pos hp]
  rcases h5 with⟨rfl,rfl⟩ | ⟨s,h,nd,tr,S0,rfl,hs,rn,wr,nd0,rfl⟩
  ·have hroot:pZ.at_=((0:Nat):Int):=rfl
   rw[hroot]at l2'
   refine⟨H, ?_,Stp.refl ti.ok⟩
   have hlk:lookP key []=none:=rfl
   rw[hlk]
   simp(config:= { maxSteps:=1000000}) (disch:=omega) only[f27,ev,lg,wnt_undef,ew,hno,a1,a2,l2',geR]
  ·have hroot:(pp s).at_=((1:Nat):Int):=rfl
   rw[hroot]at l2'
   have h10: ¬((1:Nat):Int)=((0:Nat):Int):=by omega
   have hh:=wr.low hkv
   have lr:ldN 3 (.ptr At 2) H=some (.agg (ptrV (pp s))):=by rw[ldN_get ti.gT];rfl
   obtain⟨H1,A6,b1,p1,g1,m1,n1⟩:=box ti.ok (.cells [.int .i64 ((0:Nat):Int), .int .i64 ((0:Nat):Int), .int .u64 ((0:Nat):Int)] 72 1 false)
   obtain⟨H2,e2,g2,s2,n2⟩:=st_all p1.ok g1 (l':=ptrV (pp s)) rfl rfl
   have e2':stN 3 (.ptr A6 0) (.agg (ptrV (pp s))) H1=some (undefA,H2):=e2
   have N1:=p1.next;have N2:=s2.next
   have P2:Prs H H2:=p1.fresh s2 (fun B hB=>by omega)
   have hmost:=most_ok (dy m) n (ti.prs P2)
   obtain⟨e,H5,e5,p5,rfl⟩:=Fin.loop (GI H2 q (con h tr) key At A6 (8192+q.length)) (get_step (dy m) n hn ti (by omega) P2 (by omega) (by omega)) n (8192+q.length) [.ptr At 0,S key, .ptr A6 0, .int .i64 ((8192+q.length:Nat):Int), .int .i64 ((0:Nat):Int)] H2
    ⟨0,s,nd,h,tr,S0,none,none,rfl,by omega,by omega,Stp.refl s2.ok,g2,hs,rn,wr.gen,wr.sz,rfl⟩ (by omega)
   refine⟨H5, ?_,p5⟩
   simp(config:= { maxSteps:=1000000}) (disch:=omega) only[f27,ev,lg,wnt_undef,ew,hno,a1,a2,l2',h10,lr,b1,e2',hmost,e5]
 ·rw[if_neg hp]
  refine⟨H, ?_,Stp.refl ti.ok⟩
  have hx:((key.length:Nat):Int)< ((1:Nat):Int)∨((40:Nat):Int)< ((key.length:Nat):Int):=by
   simp only[Nd.mayK,Bool.and_eq_true,decide_eq_true_eq]at hp
   omega
  simp(config:= { maxSteps:=1000000}) (disch:=omega) only[f27,ev,lg,wnt_undef,ew,hno]
  rw[if_pos (by simpa using hx)]
  rfl
end Go.Eng.Sh
end
section
namespace Go.Eng.Sh
open Go.Nd (Ptr be mayP encP)
theorem be_cons: ∀(i n:Nat),be (i+1) n=UInt8.ofNat (n / 256 ^ i)::be i n
 | 0,n=>by simp[be]
 | i+1,n=>by
  rw[be,be_cons i (n / 256),Nat.div_div_eq_div_mul,Nat.mul_comm 256, ← Nat.pow_succ];rfl
theorem set_seg {c m:List AV}{o:Nat}{x:AV}(h:o<c.length):(c.take (o+1)++m).set o x=c.take o++(x::m):=by
 have hl:(c.take o).length=o:=by simp;omega
 rw[sum_take_succ c o h,List.append_assoc,List.set_append_right _ _ (by omega),hl]
 simp
theorem put_ok (D:Dyn)(n:Nat){H:AH}(hk:H.ok){A off k cc:Nat}{c:List AV}{e:TypeId}{g:Bool}(z:Nat)(hA:H.h.get A=some (.cells c e 1 g))(hc:off+k≤c.length)(hkk:k≤8)(hn:100≤n):
  ∃H',f119 D n [.slice A off k cc, .int .u64 (z:Nat)] H=some (.tuple [],H')∧H'.h.get A=some (.cells (c.take off++(bytesV (be k z)++c.drop (off+k))) e 1 g)∧Stp (fun B=>B=A) H H'∧H'.next=H.next:=by
 have hlt:=hk.lt hA
 have key:=loop_inv (b:=f119l0 D n) k (fun i vs H'=>vs=[.slice A off k cc, .int .u64 (z:Nat), .int .i64 (k:Nat), .int .i64 (i:Nat)]∧i≤k∧H'.h.get A=some (.cells (c.take (off+(k - i))++(bytesV (be i z)++c.drop (off+k))) e 1 g)∧Stp (fun B=>B=A) H H'∧H'.next=H.next)
  (fun i vs H' hi ⟨hvs,hik,hg,hst,hnx⟩=>by
   subst hvs
   have hb:Nat.blt (k - 1 - i) k=true:=by rw[Nat.blt_eq];omega
   have hsub:(((k:Nat):Int) - 1 - (i:Int))=((k - 1 - i:Nat):Int):=by omega
   have hix:ixSl 1 (.slice A off k cc) (.int .i64 ((k - 1 - i:Nat):Int))=some (.ptr A (off+(k - 1 - i))):=by
    simp only[ixSl,natOf_int _ (show(0:Int)≤((k - 1 - i:Nat):Int)by omega),Int.toNat_natCast,hb,cond_true,fN_eq,Nat.mul_one]
   have hst1:=st1_ok (x:= .int .u8 ((((z / 256 ^ i % 256:Nat):Nat)):Int)) (o:=off+(k - 1 - i)) hg (by decide) rfl (by simp[bytesV,Nd.be_length];omega)
   have hcell:(c.take (off+(k - i))++(bytesV (be i z)++c.drop (off+k))).set (off+(k - 1 - i)) (.int .u8 (((z / 256 ^ i % 256:Nat)):Int))=c.take (off+(k - (i+1)))++(bytesV (be (i+1) z)++c.drop (off+k)):=by
    rw[show off+(k - i)=off+(k - 1 - i)+1 by omega,set_seg (by omega),be_cons,show k - (i+1)=k - 1 - i by omega]
    simp[bytesV]
   have hsh:((z:Nat):Int) / 2 ^ (8*i)=((z / 256 ^ i:Nat):Int):=by
    rw[← pow256];simp
   refine⟨_,H'.put A (.cells (c.take (off+(k - (i+1)))++(bytesV (be (i+1) z)++c.drop (off+k))) e 1 g), ?_,rfl,by omega,by rw[AH.put_get,if_pos rfl], ?_,hnx⟩
   ·rw[hcell]at hst1
    have hsh':=bInt_shr .u64 .i64 (a:=(z:Nat)) (s:=8*i) (by omega) (by simp[IntKind.bits];omega)
    rw[hsh]at hsh'
    have h8:(((8:Nat):Int)*(i:Int))=((8*i:Nat):Int):=by omega
    have hw:IntKind.wrap .u8 ((z / 256 ^ i:Nat):Int)=((z / 256 ^ i % 256:Nat):Int):=by rw[wrap_u8];omega
    have h1:((k:Nat):Int) - ((1:Nat):Int) - (i:Int)=((k - 1 - i:Nat):Int):=by omega
    simp(disch:=omega) only[f119l0,ev,lnSl,h1,hix,h8,hsh',hw,hst1]
    simp[hi]
   ·exact hst.put (by omega) _ (.inr rfl)) n _ H ⟨rfl,Nat.zero_le _,by simpa[be,bytesV]using hA,Stp.refl hk,rfl⟩ (by omega)
 obtain⟨m,vs',H',h1,rfl,_,h3,h4,h5⟩:=key
 refine⟨H', ?_,by simpa using h3,h4,h5⟩
 have hl:loopK (m+1) (f119l0 D n) [.slice A off k cc, .int .u64 (z:Nat), .int .i64 (k:Nat), .int .i64 (k:Nat)] H'=some (.exit 0 [],H'):=loop_exit (by simp[f119l0,ev])
 rw[hl]at h1
 simp only[f119,ev,lnSl,h1,f119b1]
theorem eqA_ptr (p q:Ptr):eqA [6,6,10] (.agg (ptrV p)) (.agg (ptrV q))=some (decide (p=q)):=by
 obtain⟨a,b,c⟩:=p;obtain⟨a',b',c'⟩:=q
 have h1:=fun x y=>cellEq_int .i64 x y
 have h2:=fun x y=>cellEq_int .u64 x y
 simp only[icode]at h1 h2
 simp only[eqA,ptrV,lenL,Nat.succ_eq_add_one,Nat.beq_refl,List.length_cons,List.length_nil,Bool.and_self,cond_true,cellsEq,h1,h2]
 by_cases e1:a=a'<;>by_cases e2:b=b'<;>by_cases e3:c=c'<;>simp[e1,e2,e3]
theorem cmpO_eql (b:Bool):cmpO .eql (some b)=some (.bool b):=by simp only[cmpO,mkB_eq]
theorem may_ok (D:Dyn)(n:Nat){H:AH}(hk:H.ok)(p:Ptr): ∃H',f118 D n [.agg (ptrV p)] H=some (.bool (mayP p),H')∧Prs H H':=by
 refine⟨H.push (.cells (ptrV p) 72 1 false), ?_,(Stp.refl hk).push _⟩
 have hz:eqA [6,6,10] (.agg (ptrV p)) (.agg (ptrV ⟨0,0,0⟩))=_:=eqA_ptr p ⟨0,0,0⟩
 obtain⟨a,b,c⟩:=p
 simp only[ptrV]at hz
 simp only[f118,ev,bA_ok hk,ptrV,subN,takeN,Option.map_some,lg,bldS,fillA]
 by_cases h0:a=0
 ·subst h0
  simp only[show((0:Nat):Int)=0 from rfl,if_true,hz,cmpO_eql,ev,mayP]
  simp
 ·simp only[show((0:Nat):Int)=0 from rfl,if_neg h0,ev,mayP]
  rfl
def Z (n:Nat):List AV:=List.replicate n (.int .u8 ((0:Nat):Int))
theorem rep16:rep 16 [.int .u8 ((0:Nat):Int)]=Z 16:=rfl
theorem put_seg (D:Dyn)(n:Nat){H:AH}(hk:H.ok){A off k cc:Nat}{pre seg post:List AV}{e:TypeId}{g:Bool}(z:Nat)(hA:H.h.get A=some (.cells (pre++(seg++post)) e 1 g))(hp:pre.length=off)(hs:seg.length=k)(hkk:k≤8)(hn:100≤n):
  ∃H',f119 D n [.slice A off k cc, .int .u64 (z:Nat)] H=some (.tuple [],H')∧H'.h.get A=some (.cells (pre++(bytesV (be k z)++post)) e 1 g)∧Stp (fun B=>B=A) H H'∧H'.next=H.next:=by
 obtain⟨H',h1,h2,h3⟩:=put_ok D n hk (cc:=cc) (k:=k) (off:=off) z hA (by simp;omega) hkk hn
 refine⟨H',h1, ?_,h3⟩
 have hd:(pre++(seg++post)).drop (off+k)=post:=by rw[← List.append_assoc,List.drop_left' (by rw[List.length_append];omega)]
 rw[List.take_left' hp,hd]at h2
 exact h2
theorem slA (A lo hi:Nat)(h1:lo≤hi)(h2:hi≤16)(h3:lo<16):slArr 16 1 (.ptr A 0) (some (.int .i64 (lo:Nat))) (some (.int .i64 (hi:Nat))) none=some (.slice A lo (hi - lo) (2*(16 - lo))):=by
 have e1:Nat.ble hi 16=true:=by rw[Nat.ble_eq];exact h2
 have e2:Nat.ble lo hi=true:=by rw[Nat.ble_eq];exact h1
 have e3:Nat.beq 16 lo=false:=by rw[Bool.eq_false_iff];intro h;have:=Nat.eq_of_beq_eq_true h;omega
 simp[slArr,natOpt,natOf_int,acut,e1,e2,e3,fN_eq,show((32 % 2).beq 0)=true from rfl,show(32 / 2).beq lo=false from e3,show Nat.blt 0 1=true from rfl]
theorem slA_hi (A:Nat):slArr 16 1 (.ptr A 0) none (some (.int .i64 ((4:Nat):Int))) none=some (.slice A 0 4 32):=rfl
theorem slA_lo (A:Nat):slArr 16 1 (.ptr A 0) (some (.int .i64 ((8:Nat):Int))) none none=some (.slice A 8 8 16):=rfl
theorem slA_no (A:Nat):slArr 16 1 (.ptr A 0) none none none=some (.slice A 0 16 32):=rfl
theorem encPtr_ok (D:Dyn)(n:Nat){H:AH}(hk:H.ok){p:Ptr}(hp:mayP p=true)(hs:Nd.sumOk p)(hn:100≤n): ∃H',f75 D n [.agg (ptrV p)] H=some (.tuple [S (encP p), .int .i64 (0:Nat)],H')∧Prs H H':=by
 have hP:Prs H (H.push (.cells (ptrV p) 72 1 false)):=(Stp.refl hk).push _
 obtain⟨H2,h2,hP2⟩:=may_ok D n hP.ok p
 have hd':subN (ptrV p) 0 3=some (ptrV p):=rfl
 have h0: ∃a b s:Nat,p=⟨a,b,s⟩∧a<4294967296∧b<4294967296∧s<18446744073709551616:=by
  obtain⟨a,b,s⟩:=p
  simp only[Nd.sumOk]at hs
  have h1:0≤a∧a<8192∧0≤b∧b≤2147483647:=by
   simp only[mayP]at hp
   split at hp
   ·simp only[Bool.and_eq_true,decide_eq_true_eq]at hp;omega
   ·simp only[Bool.and_eq_true,decide_eq_true_eq]at hp;omega
  exact⟨a.toNat,b.toNat,s.toNat,by congr 1<;>omega,by omega,by omega,by omega⟩
 obtain⟨a,b,s,rfl,ha,hb,hss⟩:=h0
 have hw: ∀x:Nat,x<18446744073709551616→IntKind.wrap .u64 (x:Int)=(x:Int):=fun x hx=>by rw[wrap_u64];omega
 have hP3:Prs H2 (H2.push (.cells (Z 16) 225 1 false)):=(Stp.refl hP2.ok).push _
 have hB:(H2.push (.cells (Z 16) 225 1 false)).h.get H2.next=some (.cells ([]++(Z 4++Z 12)) 225 1 false):=AH.push_get_eq _ _
 have hn3:(H2.push (.cells (Z 16) 225 1 false)).next=H2.next+1:=rfl
 generalize hH3:H2.push (.cells (Z 16) 225 1 false)=H3 at hP3 hB hn3
 obtain⟨H4,e4,g4,st4,n4⟩:=put_seg D n hP3.ok (cc:=32) (k:=4) (off:=0) a hB rfl (by simp[Z]) (by omega) hn
 rw[show[]++(bytesV (be 4 a)++Z 12)=bytesV (be 4 a)++(Z 4++Z 8)from rfl]at g4
 obtain⟨H5,e5,g5,st5,n5⟩:=put_seg D n st4.ok (cc:=24) (k:=4) (off:=4) b g4 (by simp[bytesV,Nd.be_length]) (by simp[Z]) (by omega) hn
 rw[← List.append_assoc,show Z 8=Z 8++[]from rfl]at g5
 obtain⟨H6,e6,g6,st6,n6⟩:=put_seg D n st5.ok (cc:=16) (k:=8) (off:=8) s g5 (by simp[bytesV,Nd.be_length]) (by simp[Z]) (by omega) hn
 have hx3:H3.h.get H.next=some (.cells (ptrV ⟨a,b,s⟩) 72 1 false):=hP3.get hP2.ok (hP2.get hP.ok (AH.push_get_eq _ _))
 have hlt2:H.next<H2.next:=by have:=hP2.next;rw[AH.push_next]at this;omega
 have hx4:H4.h.get H.next=some (.cells (ptrV ⟨a,b,s⟩) 72 1 false):=by rw[st4.keep _ (by have:=hP3.next;omega) (by omega)];exact hx3
 have hx5:H5.h.get H.next=some (.cells (ptrV ⟨a,b,s⟩) 72 1 false):=by rw[st5.keep _ (by have:=hP3.next;omega) (by omega)];exact hx4
 have hbytes:bytesV (be 4 a)++bytesV (be 4 b)++(bytesV (be 8 s)++[])=bytesV (encP ⟨a,b,s⟩):=by simp[encP,bytesV]
 rw[hbytes]at g6
 have hcv:cvBS (.slice H2.next 0 16 32) H6=some (S (encP ⟨a,b,s⟩)):=cvBS_row ⟨by simp[bytesV,Nd.encP_length], .inr (.inr ⟨_,_,_,_,_,_,_,rfl,g6,by have:=(st6.ok).lt g6;exact this,by simp[bytesV,Nd.encP_length],by simp[List.take_of_length_le,bytesV,Nd.encP_length]⟩)⟩ (by simp)
 refine⟨H6, ?_, ?_⟩
 ·simp only[f75,ev,bA_ok hk,hd',Option.map_some,h2,hp]
  simp only[ev,bA_ok hP2.ok,Bool.not_true,Bool.false_eq_true,if_false,rep16,hH3,slA_hi,slA_lo,slA_no,slA _ 4 8 (by omega) (by omega) (by omega),ld1_get hx3,ld1_get hx4,ld1_get hx5,ptrV,hw a (by omega),hw b (by omega),hw s (by omega),e4,e5,e6,hcv]
 ·have hst:Stp (fun B=>B=H2.next) H3 H6:=(st4.trans st5).trans st6
  exact(hP.trans hP2).trans (hP3.fresh hst (fun A hA=>by omega))
end Go.Eng.Sh
end
